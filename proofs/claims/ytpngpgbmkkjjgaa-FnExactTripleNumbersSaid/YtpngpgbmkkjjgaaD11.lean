/-
  Contracts of the reference: IsDistributive and CountIntoGeneral.
-/
import Derived.Test.YtpngpgbmkkjjgaaD10
import Derived.Test.YtpngpgbmkkjjgaaC26
namespace Go.Proofs.Ytpngpgbmkkjjgaa
open Go.RowKit

theorem areS_split {p s1 s2 : Int} {l1 l2 : List (List Int)} (h : areS p s1 l1 s2 l2 = true) : ∃ n : Nat, s1 = n ∧ s2 = n ∧ spaceV p n l1 = true ∧ spaceV p n l2 = true := by
  simp only [areS, Bool.and_eq_true, decide_eq_true_eq] at h
  obtain ⟨⟨e1, e2⟩, rfl⟩ := h
  obtain ⟨-, n, rfl, -⟩ := spaceV_parts e1
  exact ⟨n, rfl, rfl, e1, e2⟩
theorem space_ok {p : Int} {n : Nat} {l : List (List Int)} (h : spaceV p n l = true) : isF p = true ∧ n ≤ 8 ∧ VecsP p n l := by
  obtain ⟨a, m, e, hm, -, hv, -⟩ := spaceV_parts h
  obtain rfl : n = m := by omega
  exact ⟨a, hm, hv⟩

theorem c_AddSpaces_any (p s1 s2 : Int) (a1 : Option Addr) (n1 c1 : Nat) (l1 : List (List Int)) (S1 : List Nat) (a2 : Option Addr) (n2 c2 : Nat) (l2 : List (List Int)) (S2 : List Nat) (w : World) (hp : fits p) (h1 : SliceRd Shp.ints w a1 n1 c1 l1 S1) (h2 : SliceRd Shp.ints w a2 n2 c2 l2 S2) :
    Calls Try.prog 48 #[.int .i64 p, .agg #[.int .i64 s1, .slice a1 n1 c1], .agg #[.int .i64 s2, .slice a2 n2 c2]] w (Ret w fun v _ => ∃ sz a n c, v = .tuple #[.agg #[.int .i64 sz, .slice a n c], .bool (areS p s1 l1 s2 l2)]) := by
  cases e : areS p s1 l1 s2 l2 with
  | false =>
    refine (c_AddSpaces_no p s1 s2 a1 n1 c1 l1 S1 a2 n2 c2 l2 S2 w hp h1 h2 e).mono ?_
    rintro e w' ⟨v, he, hb, rfl⟩
    exact ⟨_, he, hb, 0, none, 0, 0, rfl⟩
  | true =>
    obtain ⟨n, rfl, rfl, e1, e2⟩ := areS_split e
    refine (c_AddSpaces p n a1 n1 c1 l1 S1 a2 n2 c2 l2 S2 w hp h1 h2 e1 e2).mono ?_
    rintro e w' ⟨v, he, hb, a', n', c', S, rfl, -⟩
    exact ⟨_, he, hb, n, a', n', c', rfl⟩

theorem c_MeetSpaces_any (p s1 s2 : Int) (a1 : Option Addr) (n1 c1 : Nat) (l1 : List (List Int)) (S1 : List Nat) (a2 : Option Addr) (n2 c2 : Nat) (l2 : List (List Int)) (S2 : List Nat) (w : World) (hp : fits p) (h1 : SliceRd Shp.ints w a1 n1 c1 l1 S1) (h2 : SliceRd Shp.ints w a2 n2 c2 l2 S2) :
    Calls Try.prog 49 #[.int .i64 p, .agg #[.int .i64 s1, .slice a1 n1 c1], .agg #[.int .i64 s2, .slice a2 n2 c2]] w (Ret w fun v _ => ∃ sz a n c, v = .tuple #[.agg #[.int .i64 sz, .slice a n c], .bool (areS p s1 l1 s2 l2)]) := by
  cases e : areS p s1 l1 s2 l2 with
  | false =>
    refine (c_MeetSpaces_no p s1 s2 a1 n1 c1 l1 S1 a2 n2 c2 l2 S2 w hp h1 h2 e).mono ?_
    rintro e w' ⟨v, he, hb, rfl⟩
    exact ⟨_, he, hb, 0, none, 0, 0, rfl⟩
  | true =>
    obtain ⟨n, rfl, rfl, e1, e2⟩ := areS_split e
    refine (c_MeetSpaces p n a1 n1 c1 l1 S1 a2 n2 c2 l2 S2 w hp h1 h2 e1 e2).mono ?_
    rintro e w' ⟨v, he, hb, a', n', c', S, rfl, -⟩
    exact ⟨_, he, hb, n, a', n', c', rfl⟩

set_option maxRecDepth 20000 in
set_option maxHeartbeats 4000000 in
theorem c_spec_IsDistributive (p s1 s2 s3 : Int) (a1 a2 a3 : Option Addr) (n1 c1 n2 c2 n3 c3 : Nat) (l1 l2 l3 : List (List Int)) (S1 S2 S3 : List Nat) (w : World) (hp : fits p) (h1 : SliceRd Shp.ints w a1 n1 c1 l1 S1) (h2 : SliceRd Shp.ints w a2 n2 c2 l2 S2) (h3 : SliceRd Shp.ints w a3 n3 c3 l3 S3) :
    Calls Try.prog 21 #[.int .i64 p, .agg #[.int .i64 s1, .slice a1 n1 c1], .agg #[.int .i64 s2, .slice a2 n2 c2], .agg #[.int .i64 s3, .slice a3 n3 c3]] w (Ret w fun v _ => v = .bool (distrV p s1 s2 s3 l1 l2 l3)) := by
  have b0 := (Below.refl w.heap.size w).alloc (Nat.le_refl _) (.cells #[.int .i64 s1, .slice a1 n1 c1] 38)
  have b1 := (Below.refl _ (w.alloc (.cells #[.int .i64 s1, .slice a1 n1 c1] 38))).alloc (Nat.le_refl _) (.cells #[.int .i64 s2, .slice a2 n2 c2] 38)
  have b2 := (Below.refl _ ((w.alloc (.cells #[.int .i64 s1, .slice a1 n1 c1] 38)).alloc (.cells #[.int .i64 s2, .slice a2 n2 c2] 38))).alloc (Nat.le_refl _) (.cells #[.int .i64 s3, .slice a3 n3 c3] 38)
  have t1 := At.alloc (w.alloc (.cells #[.int .i64 s1, .slice a1 n1 c1] 38)) #[.int .i64 s2, .slice a2 n2 c2] 38
  have t2 := At.alloc ((w.alloc (.cells #[.int .i64 s1, .slice a1 n1 c1] 38)).alloc (.cells #[.int .i64 s2, .slice a2 n2 c2] 38)) #[.int .i64 s3, .slice a3 n3 c3] 38
  rw [World.size_alloc] at t1
  rw [World.size_alloc, World.size_alloc] at t2
  have KEY : Hid (∀ wr, Below (((w.alloc (.cells #[.int .i64 s1, .slice a1 n1 c1] 38)).alloc (.cells #[.int .i64 s2, .slice a2 n2 c2] 38)).alloc (.cells #[.int .i64 s3, .slice a3 n3 c3] 38)).heap.size (((w.alloc (.cells #[.int .i64 s1, .slice a1 n1 c1] 38)).alloc (.cells #[.int .i64 s2, .slice a2 n2 c2] 38)).alloc (.cells #[.int .i64 s3, .slice a3 n3 c3] 38)) wr →
      Below w.heap.size w wr ∧ At wr w.heap.size 0 [.int .i64 s1, .slice a1 n1 c1] ∧ At wr (w.heap.size + 1) 0 [.int .i64 s2, .slice a2 n2 c2] ∧ At wr (w.heap.size + 1 + 1) 0 [.int .i64 s3, .slice a3 n3 c3] ∧ SliceRd Shp.ints wr a1 n1 c1 l1 S1 ∧ SliceRd Shp.ints wr a2 n2 c2 l2 S2 ∧ SliceRd Shp.ints wr a3 n3 c3 l3 S3 ∧ w.heap.size + 3 ≤ wr.heap.size) := by
    intro wr hb
    have hbw := below_then (below_then (below_then b0 b1) b2) hb
    exact ⟨hbw, (((At.alloc w _ _).keep (b1.block _ (by simp))).keep (b2.block _ (by simp; omega))).keep (hb.block _ (by simp; omega)), (t1.keep (b2.block _ (by simp))).keep (hb.block _ (by simp)), t2.keep (hb.block _ (by simp)), h1.below Shp.ints_good hbw, h2.below Shp.ints_good hbw, h3.below Shp.ints_good hbw, by have := hb.size; simp at this; omega⟩
  have HP := Lib.hid hp
  clear b0 b1 b2 t1 t2 h1 h2 h3 hp
  have K0 := KEY.out _ (Below.refl _ _)
  have q0 := K0.2.1.c0
  have q1 := K0.2.1.c1
  have q2 := K0.2.2.1.c0
  have q3 := K0.2.2.1.c1
  have q4 := K0.2.2.2.1.c0
  have q5 := K0.2.2.2.1.c1
  by_cases hall : areS3 p s1 s2 s3 l1 l2 l3 = true
  · have HALL := Lib.hid hall
    have hall2 := hall
    unfold areS3 at hall2
    rw [Bool.and_eq_true] at hall2
    obtain ⟨n, rfl, rfl, e1, e2⟩ := areS_split hall2.1
    obtain ⟨n', hn', rfl, -, e3⟩ := areS_split hall2.2
    obtain rfl : n = n' := by omega
    have hpf := (space_ok e1).1
    have hn8 := (space_ok e1).2.1
    have hAB : spaceV p n (meetL p n l1 l2) = true := space_meet hpf hn8
    have hAC : spaceV p n (meetL p n l1 l3) = true := space_meet hpf hn8
    have hSm : spaceV p n (sumL p n l2 l3) = true := space_sum hpf hn8 (space_ok e2).2.2 (space_ok e3).2.2
    have GL : Hid ((distM p n l1 l2 l3).length ≤ n ∧ (distS p n l1 l2 l3).length ≤ n) := ⟨(Sp.meet hpf).len, (Sp.sum hpf (Sp.meet hpf) (Sp.meet hpf)).len⟩
    have E := Lib.hid (And.intro e1 (And.intro e2 (And.intro e3 (And.intro hAB (And.intro hAC hSm)))))
    clear hall hall2 e1 e2 e3 hAB hAC hSm hpf hn' K0
    go_enter Try.func21, Try.ntmps21
    go_wp2_with fail
    generalize ((w.alloc (.cells #[.int .i64 n, .slice a1 n1 c1] 38)).alloc (.cells #[.int .i64 n, .slice a2 n2 c2] 38)).alloc (.cells #[.int .i64 n, .slice a3 n3 c3] 38) = W at *
    refine (c_AddSpaces p n a2 n2 c2 l2 S2 a3 n3 c3 l3 S3 W HP.out (KEY.out _ (Below.refl _ _)).2.2.2.2.2.1 (KEY.out _ (Below.refl _ _)).2.2.2.2.2.2.1 E.out.2.1 E.out.2.2.1).mono ?_
    rintro e w1 ⟨v, rfl, hb1, x1, m1, d1, T1, rfl, r1, -⟩
    have B1 : Hid (Below W.heap.size W (w1.alloc (.cells #[.int .i64 n, .slice x1 m1 d1] 38))) := below_then hb1 ((Below.refl _ _).alloc (Nat.le_refl _) _)
    have P1 : Hid (∀ wr, Below (w1.alloc (.cells #[.int .i64 n, .slice x1 m1 d1] 38)).heap.size (w1.alloc (.cells #[.int .i64 n, .slice x1 m1 d1] 38)) wr → At wr w1.heap.size 0 [.int .i64 n, .slice x1 m1 d1] ∧ SliceRd Shp.ints wr x1 m1 d1 (sumL p n l2 l3) T1) := by
      intro wr hb
      exact ⟨(At.alloc w1 _ _).keep (hb.block _ (by simp)), (r1.below Shp.ints_good ((Below.refl _ _).alloc (Nat.le_refl _) _)).below Shp.ints_good hb⟩
    have L11 : Hid (Below (w1.alloc (.cells #[.int .i64 n, .slice x1 m1 d1] 38)).heap.size (w1.alloc (.cells #[.int .i64 n, .slice x1 m1 d1] 38)) (w1.alloc (.cells #[.int .i64 n, .slice x1 m1 d1] 38))) := Below.refl _ _
    have K1 := KEY.out _ B1.out
    have q0 := K1.2.1.c0
    have q1 := K1.2.1.c1
    have q2 := K1.2.2.1.c0
    have q3 := K1.2.2.1.c1
    have q4 := K1.2.2.2.1.c0
    have q5 := K1.2.2.2.1.c1
    have y10 := (P1.out _ L11.out).1.c0
    have y11 := (P1.out _ L11.out).1.c1
    clear hb1 K1 r1
    go_wp2_with fail
    refine (c_MeetSpaces p n a1 n1 c1 l1 S1 a2 n2 c2 l2 S2 _ HP.out (KEY.out _ B1.out).2.2.2.2.1 (KEY.out _ B1.out).2.2.2.2.2.1 E.out.1 E.out.2.1).mono ?_
    rintro e w2 ⟨v, rfl, hb2, x2, m2, d2, T2, rfl, r2, -⟩
    have B2 : Hid (Below W.heap.size W (w2.alloc (.cells #[.int .i64 n, .slice x2 m2 d2] 38))) := below_then (below_then B1.out hb2) ((Below.refl _ _).alloc (Nat.le_refl _) _)
    have P2 : Hid (∀ wr, Below (w2.alloc (.cells #[.int .i64 n, .slice x2 m2 d2] 38)).heap.size (w2.alloc (.cells #[.int .i64 n, .slice x2 m2 d2] 38)) wr → At wr w2.heap.size 0 [.int .i64 n, .slice x2 m2 d2] ∧ SliceRd Shp.ints wr x2 m2 d2 (meetL p n l1 l2) T2) := by
      intro wr hb
      exact ⟨(At.alloc w2 _ _).keep (hb.block _ (by simp)), (r2.below Shp.ints_good ((Below.refl _ _).alloc (Nat.le_refl _) _)).below Shp.ints_good hb⟩
    have L22 : Hid (Below (w2.alloc (.cells #[.int .i64 n, .slice x2 m2 d2] 38)).heap.size (w2.alloc (.cells #[.int .i64 n, .slice x2 m2 d2] 38)) (w2.alloc (.cells #[.int .i64 n, .slice x2 m2 d2] 38))) := Below.refl _ _
    have L12 : Hid (Below (w1.alloc (.cells #[.int .i64 n, .slice x1 m1 d1] 38)).heap.size (w1.alloc (.cells #[.int .i64 n, .slice x1 m1 d1] 38)) (w2.alloc (.cells #[.int .i64 n, .slice x2 m2 d2] 38))) := below_then (below_then L11.out hb2) ((Below.refl _ _).alloc (Nat.le_refl _) _)
    have K2 := KEY.out _ B2.out
    have q0 := K2.2.1.c0
    have q1 := K2.2.1.c1
    have q2 := K2.2.2.1.c0
    have q3 := K2.2.2.1.c1
    have q4 := K2.2.2.2.1.c0
    have q5 := K2.2.2.2.1.c1
    have y10 := (P1.out _ L12.out).1.c0
    have y11 := (P1.out _ L12.out).1.c1
    have y20 := (P2.out _ L22.out).1.c0
    have y21 := (P2.out _ L22.out).1.c1
    clear hb2 K2 r2
    go_wp2_with fail
    refine (c_MeetSpaces p n a1 n1 c1 l1 S1 a3 n3 c3 l3 S3 _ HP.out (KEY.out _ B2.out).2.2.2.2.1 (KEY.out _ B2.out).2.2.2.2.2.2.1 E.out.1 E.out.2.2.1).mono ?_
    rintro e w3 ⟨v, rfl, hb3, x3, m3, d3, T3, rfl, r3, -⟩
    have B3 : Hid (Below W.heap.size W (w3.alloc (.cells #[.int .i64 n, .slice x3 m3 d3] 38))) := below_then (below_then B2.out hb3) ((Below.refl _ _).alloc (Nat.le_refl _) _)
    have P3 : Hid (∀ wr, Below (w3.alloc (.cells #[.int .i64 n, .slice x3 m3 d3] 38)).heap.size (w3.alloc (.cells #[.int .i64 n, .slice x3 m3 d3] 38)) wr → At wr w3.heap.size 0 [.int .i64 n, .slice x3 m3 d3] ∧ SliceRd Shp.ints wr x3 m3 d3 (meetL p n l1 l3) T3) := by
      intro wr hb
      exact ⟨(At.alloc w3 _ _).keep (hb.block _ (by simp)), (r3.below Shp.ints_good ((Below.refl _ _).alloc (Nat.le_refl _) _)).below Shp.ints_good hb⟩
    have L33 : Hid (Below (w3.alloc (.cells #[.int .i64 n, .slice x3 m3 d3] 38)).heap.size (w3.alloc (.cells #[.int .i64 n, .slice x3 m3 d3] 38)) (w3.alloc (.cells #[.int .i64 n, .slice x3 m3 d3] 38))) := Below.refl _ _
    have L13 : Hid (Below (w1.alloc (.cells #[.int .i64 n, .slice x1 m1 d1] 38)).heap.size (w1.alloc (.cells #[.int .i64 n, .slice x1 m1 d1] 38)) (w3.alloc (.cells #[.int .i64 n, .slice x3 m3 d3] 38))) := below_then (below_then L12.out hb3) ((Below.refl _ _).alloc (Nat.le_refl _) _)
    have L23 : Hid (Below (w2.alloc (.cells #[.int .i64 n, .slice x2 m2 d2] 38)).heap.size (w2.alloc (.cells #[.int .i64 n, .slice x2 m2 d2] 38)) (w3.alloc (.cells #[.int .i64 n, .slice x3 m3 d3] 38))) := below_then (below_then L22.out hb3) ((Below.refl _ _).alloc (Nat.le_refl _) _)
    have K3 := KEY.out _ B3.out
    have q0 := K3.2.1.c0
    have q1 := K3.2.1.c1
    have q2 := K3.2.2.1.c0
    have q3 := K3.2.2.1.c1
    have q4 := K3.2.2.2.1.c0
    have q5 := K3.2.2.2.1.c1
    have y10 := (P1.out _ L13.out).1.c0
    have y11 := (P1.out _ L13.out).1.c1
    have y20 := (P2.out _ L23.out).1.c0
    have y21 := (P2.out _ L23.out).1.c1
    have y30 := (P3.out _ L33.out).1.c0
    have y31 := (P3.out _ L33.out).1.c1
    clear hb3 K3 r3
    go_wp2_with fail
    refine (c_MeetSpaces p n a1 n1 c1 l1 S1 x1 m1 d1 (sumL p n l2 l3) T1 _ HP.out (KEY.out _ B3.out).2.2.2.2.1 (P1.out _ L13.out).2 E.out.1 E.out.2.2.2.2.2).mono ?_
    rintro e w4 ⟨v, rfl, hb4, x4, m4, d4, T4, rfl, r4, -⟩
    have B4 : Hid (Below W.heap.size W (w4.alloc (.cells #[.int .i64 n, .slice x4 m4 d4] 38))) := below_then (below_then B3.out hb4) ((Below.refl _ _).alloc (Nat.le_refl _) _)
    have P4 : Hid (∀ wr, Below (w4.alloc (.cells #[.int .i64 n, .slice x4 m4 d4] 38)).heap.size (w4.alloc (.cells #[.int .i64 n, .slice x4 m4 d4] 38)) wr → At wr w4.heap.size 0 [.int .i64 n, .slice x4 m4 d4] ∧ SliceRd Shp.ints wr x4 m4 d4 (distM p n l1 l2 l3) T4) := by
      intro wr hb
      exact ⟨(At.alloc w4 _ _).keep (hb.block _ (by simp)), (r4.below Shp.ints_good ((Below.refl _ _).alloc (Nat.le_refl _) _)).below Shp.ints_good hb⟩
    have L44 : Hid (Below (w4.alloc (.cells #[.int .i64 n, .slice x4 m4 d4] 38)).heap.size (w4.alloc (.cells #[.int .i64 n, .slice x4 m4 d4] 38)) (w4.alloc (.cells #[.int .i64 n, .slice x4 m4 d4] 38))) := Below.refl _ _
    have L14 : Hid (Below (w1.alloc (.cells #[.int .i64 n, .slice x1 m1 d1] 38)).heap.size (w1.alloc (.cells #[.int .i64 n, .slice x1 m1 d1] 38)) (w4.alloc (.cells #[.int .i64 n, .slice x4 m4 d4] 38))) := below_then (below_then L13.out hb4) ((Below.refl _ _).alloc (Nat.le_refl _) _)
    have L24 : Hid (Below (w2.alloc (.cells #[.int .i64 n, .slice x2 m2 d2] 38)).heap.size (w2.alloc (.cells #[.int .i64 n, .slice x2 m2 d2] 38)) (w4.alloc (.cells #[.int .i64 n, .slice x4 m4 d4] 38))) := below_then (below_then L23.out hb4) ((Below.refl _ _).alloc (Nat.le_refl _) _)
    have L34 : Hid (Below (w3.alloc (.cells #[.int .i64 n, .slice x3 m3 d3] 38)).heap.size (w3.alloc (.cells #[.int .i64 n, .slice x3 m3 d3] 38)) (w4.alloc (.cells #[.int .i64 n, .slice x4 m4 d4] 38))) := below_then (below_then L33.out hb4) ((Below.refl _ _).alloc (Nat.le_refl _) _)
    have K4 := KEY.out _ B4.out
    have q0 := K4.2.1.c0
    have q1 := K4.2.1.c1
    have q2 := K4.2.2.1.c0
    have q3 := K4.2.2.1.c1
    have q4 := K4.2.2.2.1.c0
    have q5 := K4.2.2.2.1.c1
    have y10 := (P1.out _ L14.out).1.c0
    have y11 := (P1.out _ L14.out).1.c1
    have y20 := (P2.out _ L24.out).1.c0
    have y21 := (P2.out _ L24.out).1.c1
    have y30 := (P3.out _ L34.out).1.c0
    have y31 := (P3.out _ L34.out).1.c1
    have y40 := (P4.out _ L44.out).1.c0
    have y41 := (P4.out _ L44.out).1.c1
    clear hb4 K4 r4
    go_wp2_with fail
    refine (c_AddSpaces p n x2 m2 d2 (meetL p n l1 l2) T2 x3 m3 d3 (meetL p n l1 l3) T3 _ HP.out (P2.out _ L24.out).2 (P3.out _ L34.out).2 E.out.2.2.2.1 E.out.2.2.2.2.1).mono ?_
    rintro e w5 ⟨v, rfl, hb5, x5, m5, d5, T5, rfl, r5, -⟩
    have B5 : Hid (Below W.heap.size W (w5.alloc (.cells #[.int .i64 n, .slice x5 m5 d5] 38))) := below_then (below_then B4.out hb5) ((Below.refl _ _).alloc (Nat.le_refl _) _)
    have P5 : Hid (∀ wr, Below (w5.alloc (.cells #[.int .i64 n, .slice x5 m5 d5] 38)).heap.size (w5.alloc (.cells #[.int .i64 n, .slice x5 m5 d5] 38)) wr → At wr w5.heap.size 0 [.int .i64 n, .slice x5 m5 d5] ∧ SliceRd Shp.ints wr x5 m5 d5 (distS p n l1 l2 l3) T5) := by
      intro wr hb
      exact ⟨(At.alloc w5 _ _).keep (hb.block _ (by simp)), (r5.below Shp.ints_good ((Below.refl _ _).alloc (Nat.le_refl _) _)).below Shp.ints_good hb⟩
    have L55 : Hid (Below (w5.alloc (.cells #[.int .i64 n, .slice x5 m5 d5] 38)).heap.size (w5.alloc (.cells #[.int .i64 n, .slice x5 m5 d5] 38)) (w5.alloc (.cells #[.int .i64 n, .slice x5 m5 d5] 38))) := Below.refl _ _
    have L15 : Hid (Below (w1.alloc (.cells #[.int .i64 n, .slice x1 m1 d1] 38)).heap.size (w1.alloc (.cells #[.int .i64 n, .slice x1 m1 d1] 38)) (w5.alloc (.cells #[.int .i64 n, .slice x5 m5 d5] 38))) := below_then (below_then L14.out hb5) ((Below.refl _ _).alloc (Nat.le_refl _) _)
    have L25 : Hid (Below (w2.alloc (.cells #[.int .i64 n, .slice x2 m2 d2] 38)).heap.size (w2.alloc (.cells #[.int .i64 n, .slice x2 m2 d2] 38)) (w5.alloc (.cells #[.int .i64 n, .slice x5 m5 d5] 38))) := below_then (below_then L24.out hb5) ((Below.refl _ _).alloc (Nat.le_refl _) _)
    have L35 : Hid (Below (w3.alloc (.cells #[.int .i64 n, .slice x3 m3 d3] 38)).heap.size (w3.alloc (.cells #[.int .i64 n, .slice x3 m3 d3] 38)) (w5.alloc (.cells #[.int .i64 n, .slice x5 m5 d5] 38))) := below_then (below_then L34.out hb5) ((Below.refl _ _).alloc (Nat.le_refl _) _)
    have L45 : Hid (Below (w4.alloc (.cells #[.int .i64 n, .slice x4 m4 d4] 38)).heap.size (w4.alloc (.cells #[.int .i64 n, .slice x4 m4 d4] 38)) (w5.alloc (.cells #[.int .i64 n, .slice x5 m5 d5] 38))) := below_then (below_then L44.out hb5) ((Below.refl _ _).alloc (Nat.le_refl _) _)
    have K5 := KEY.out _ B5.out
    have q0 := K5.2.1.c0
    have q1 := K5.2.1.c1
    have q2 := K5.2.2.1.c0
    have q3 := K5.2.2.1.c1
    have q4 := K5.2.2.2.1.c0
    have q5 := K5.2.2.2.1.c1
    have y10 := (P1.out _ L15.out).1.c0
    have y11 := (P1.out _ L15.out).1.c1
    have y20 := (P2.out _ L25.out).1.c0
    have y21 := (P2.out _ L25.out).1.c1
    have y30 := (P3.out _ L35.out).1.c0
    have y31 := (P3.out _ L35.out).1.c1
    have y40 := (P4.out _ L45.out).1.c0
    have y41 := (P4.out _ L45.out).1.c1
    have y50 := (P5.out _ L55.out).1.c0
    have y51 := (P5.out _ L55.out).1.c1
    clear hb5 K5 r5
    have HQ := Lib.hid (c_spec_EqualSpaces n n x4 m4 d4 (distM p n l1 l2 l3) T4 x5 m5 d5 (distS p n l1 l2 l3) T5 _ (P4.out _ L45.out).2 (P5.out _ L55.out).2)
    go_wp2_with fail
    refine HQ.out.mono ?_
    rintro e w6 ⟨v, rfl, hb6, rfl⟩
    have B6 := Lib.hid (below_then B5.out hb6)
    clear hb6 q0 q1 q2 q3 q4 q5
    go_wp2
    go_ret
    exact ⟨_, rfl, (KEY.out _ B6.out).1, by unfold distrV; rw [HALL.out]; simp⟩
  · have HALL : Hid (areS3 p s1 s2 s3 l1 l2 l3 = false) := by show _ = _; simpa using hall
    have hno : areS p s2 l2 s3 l3 = false ∨ areS p s1 l1 s2 l2 = false := by
      have h := HALL.out
      unfold areS3 at h
      rw [Bool.and_eq_false_iff] at h
      exact h.symm
    have HNO := Lib.hid hno
    clear hall hno K0
    go_enter Try.func21, Try.ntmps21
    go_wp2_with fail
    generalize ((w.alloc (.cells #[.int .i64 s1, .slice a1 n1 c1] 38)).alloc (.cells #[.int .i64 s2, .slice a2 n2 c2] 38)).alloc (.cells #[.int .i64 s3, .slice a3 n3 c3] 38) = W at *
    refine (c_AddSpaces_any p s2 s3 a2 n2 c2 l2 S2 a3 n3 c3 l3 S3 W HP.out (KEY.out _ (Below.refl _ _)).2.2.2.2.2.1 (KEY.out _ (Below.refl _ _)).2.2.2.2.2.2.1).mono ?_
    rintro e w1 ⟨v, rfl, hb1, z1, x1, m1, d1, rfl⟩
    have B1 : Hid (Below W.heap.size W (w1.alloc (.cells #[.int .i64 z1, .slice x1 m1 d1] 38))) := below_then hb1 ((Below.refl _ _).alloc (Nat.le_refl _) _)
    generalize hb_ : areS p s2 l2 s3 l3 = bb1 at *
    clear hb1 hb_
    have K1 := KEY.out _ B1.out
    have q0 := K1.2.1.c0
    have q1 := K1.2.1.c1
    have q2 := K1.2.2.1.c0
    have q3 := K1.2.2.1.c1
    have q4 := K1.2.2.2.1.c0
    have q5 := K1.2.2.2.1.c1
    clear K1
    go_wp2_with fail
    refine (c_MeetSpaces_any p s1 s2 a1 n1 c1 l1 S1 a2 n2 c2 l2 S2 _ HP.out (KEY.out _ B1.out).2.2.2.2.1 (KEY.out _ B1.out).2.2.2.2.2.1).mono ?_
    rintro e w2 ⟨v, rfl, hb2, z2, x2, m2, d2, rfl⟩
    have B2 : Hid (Below W.heap.size W (w2.alloc (.cells #[.int .i64 z2, .slice x2 m2 d2] 38))) := below_then (below_then B1.out hb2) ((Below.refl _ _).alloc (Nat.le_refl _) _)
    generalize hb_ : areS p s1 l1 s2 l2 = bb2 at *
    clear hb2 hb_
    have K2 := KEY.out _ B2.out
    have q0 := K2.2.1.c0
    have q1 := K2.2.1.c1
    have q4 := K2.2.2.2.1.c0
    have q5 := K2.2.2.2.1.c1
    clear K2
    go_wp2_with fail
    refine (c_MeetSpaces_any p s1 s3 a1 n1 c1 l1 S1 a3 n3 c3 l3 S3 _ HP.out (KEY.out _ B2.out).2.2.2.2.1 (KEY.out _ B2.out).2.2.2.2.2.2.1).mono ?_
    rintro e w3 ⟨v, rfl, hb3, z3, x3, m3, d3, rfl⟩
    have B3 : Hid (Below W.heap.size W (w3.alloc (.cells #[.int .i64 z3, .slice x3 m3 d3] 38))) := below_then (below_then B2.out hb3) ((Below.refl _ _).alloc (Nat.le_refl _) _)
    clear hb3 q0 q1 q2 q3 q4 q5
    cases bb1 with
    | false =>
      go_wp2
      go_ret
      exact ⟨_, rfl, (KEY.out _ B3.out).1, by (unfold distrV; rw [HALL.out]; rfl)⟩
    | true =>
      have hb2f : bb2 = false := by rcases HNO.out with h | h; cases h; exact h
      subst hb2f
      go_wp2
      go_ret
      exact ⟨_, rfl, (KEY.out _ B3.out).1, by (unfold distrV; rw [HALL.out]; rfl)⟩

set_option maxRecDepth 20000 in
set_option maxHeartbeats 4000000 in
theorem c_spec_CountIntoGeneral (p s1 s2 s3 : Int) (a1 a2 a3 : Option Addr) (n1 c1 n2 c2 n3 c3 : Nat) (l1 l2 l3 : List (List Int)) (S1 S2 S3 : List Nat) (w : World) (hp : fits p) (h1 : SliceRd Shp.ints w a1 n1 c1 l1 S1) (h2 : SliceRd Shp.ints w a2 n2 c2 l2 S2) (h3 : SliceRd Shp.ints w a3 n3 c3 l3 S3) :
    Calls Try.prog 17 #[.int .i64 p, .agg #[.int .i64 s1, .slice a1 n1 c1], .agg #[.int .i64 s2, .slice a2 n2 c2], .agg #[.int .i64 s3, .slice a3 n3 c3]] w (Ret w fun v _ => v = .int .i64 (countV p s1 s2 s3 l1 l2 l3)) := by
  have b0 := (Below.refl w.heap.size w).alloc (Nat.le_refl _) (.cells #[.int .i64 s1, .slice a1 n1 c1] 38)
  have b1 := (Below.refl _ (w.alloc (.cells #[.int .i64 s1, .slice a1 n1 c1] 38))).alloc (Nat.le_refl _) (.cells #[.int .i64 s2, .slice a2 n2 c2] 38)
  have b2 := (Below.refl _ ((w.alloc (.cells #[.int .i64 s1, .slice a1 n1 c1] 38)).alloc (.cells #[.int .i64 s2, .slice a2 n2 c2] 38))).alloc (Nat.le_refl _) (.cells #[.int .i64 s3, .slice a3 n3 c3] 38)
  have t1 := At.alloc (w.alloc (.cells #[.int .i64 s1, .slice a1 n1 c1] 38)) #[.int .i64 s2, .slice a2 n2 c2] 38
  have t2 := At.alloc ((w.alloc (.cells #[.int .i64 s1, .slice a1 n1 c1] 38)).alloc (.cells #[.int .i64 s2, .slice a2 n2 c2] 38)) #[.int .i64 s3, .slice a3 n3 c3] 38
  rw [World.size_alloc] at t1
  rw [World.size_alloc, World.size_alloc] at t2
  have KEY : Hid (∀ wr, Below (((w.alloc (.cells #[.int .i64 s1, .slice a1 n1 c1] 38)).alloc (.cells #[.int .i64 s2, .slice a2 n2 c2] 38)).alloc (.cells #[.int .i64 s3, .slice a3 n3 c3] 38)).heap.size (((w.alloc (.cells #[.int .i64 s1, .slice a1 n1 c1] 38)).alloc (.cells #[.int .i64 s2, .slice a2 n2 c2] 38)).alloc (.cells #[.int .i64 s3, .slice a3 n3 c3] 38)) wr →
      Below w.heap.size w wr ∧ At wr w.heap.size 0 [.int .i64 s1, .slice a1 n1 c1] ∧ At wr (w.heap.size + 1) 0 [.int .i64 s2, .slice a2 n2 c2] ∧ At wr (w.heap.size + 1 + 1) 0 [.int .i64 s3, .slice a3 n3 c3] ∧ SliceRd Shp.ints wr a1 n1 c1 l1 S1 ∧ SliceRd Shp.ints wr a2 n2 c2 l2 S2 ∧ SliceRd Shp.ints wr a3 n3 c3 l3 S3 ∧ w.heap.size + 3 ≤ wr.heap.size) := by
    intro wr hb
    have hbw := below_then (below_then (below_then b0 b1) b2) hb
    exact ⟨hbw, (((At.alloc w _ _).keep (b1.block _ (by simp))).keep (b2.block _ (by simp; omega))).keep (hb.block _ (by simp; omega)), (t1.keep (b2.block _ (by simp))).keep (hb.block _ (by simp)), t2.keep (hb.block _ (by simp)), h1.below Shp.ints_good hbw, h2.below Shp.ints_good hbw, h3.below Shp.ints_good hbw, by have := hb.size; simp at this; omega⟩
  have HP := Lib.hid hp
  clear b0 b1 b2 t1 t2 h1 h2 h3 hp
  have K0 := KEY.out _ (Below.refl _ _)
  have q0 := K0.2.1.c0
  have q1 := K0.2.1.c1
  have q2 := K0.2.2.1.c0
  have q3 := K0.2.2.1.c1
  have q4 := K0.2.2.2.1.c0
  have q5 := K0.2.2.2.1.c1
  by_cases hall : areS3 p s1 s2 s3 l1 l2 l3 = true
  · have HALL := Lib.hid hall
    have hall2 := hall
    unfold areS3 at hall2
    rw [Bool.and_eq_true] at hall2
    obtain ⟨n, rfl, rfl, e1, e2⟩ := areS_split hall2.1
    obtain ⟨n', hn', rfl, -, e3⟩ := areS_split hall2.2
    obtain rfl : n = n' := by omega
    have hpf := (space_ok e1).1
    have hn8 := (space_ok e1).2.1
    have hAB : spaceV p n (meetL p n l1 l2) = true := space_meet hpf hn8
    have hAC : spaceV p n (meetL p n l1 l3) = true := space_meet hpf hn8
    have hSm : spaceV p n (sumL p n l2 l3) = true := space_sum hpf hn8 (space_ok e2).2.2 (space_ok e3).2.2
    have GL : Hid ((distM p n l1 l2 l3).length ≤ n ∧ (distS p n l1 l2 l3).length ≤ n) := ⟨(Sp.meet hpf).len, (Sp.sum hpf (Sp.meet hpf) (Sp.meet hpf)).len⟩
    have E := Lib.hid (And.intro e1 (And.intro e2 (And.intro e3 (And.intro hAB (And.intro hAC hSm)))))
    clear hall hall2 e1 e2 e3 hAB hAC hSm hpf hn' K0
    go_enter Try.func17, Try.ntmps17
    go_wp2_with fail
    generalize ((w.alloc (.cells #[.int .i64 n, .slice a1 n1 c1] 38)).alloc (.cells #[.int .i64 n, .slice a2 n2 c2] 38)).alloc (.cells #[.int .i64 n, .slice a3 n3 c3] 38) = W at *
    refine (c_AddSpaces p n a2 n2 c2 l2 S2 a3 n3 c3 l3 S3 W HP.out (KEY.out _ (Below.refl _ _)).2.2.2.2.2.1 (KEY.out _ (Below.refl _ _)).2.2.2.2.2.2.1 E.out.2.1 E.out.2.2.1).mono ?_
    rintro e w1 ⟨v, rfl, hb1, x1, m1, d1, T1, rfl, r1, -⟩
    have B1 : Hid (Below W.heap.size W (w1.alloc (.cells #[.int .i64 n, .slice x1 m1 d1] 38))) := below_then hb1 ((Below.refl _ _).alloc (Nat.le_refl _) _)
    have P1 : Hid (∀ wr, Below (w1.alloc (.cells #[.int .i64 n, .slice x1 m1 d1] 38)).heap.size (w1.alloc (.cells #[.int .i64 n, .slice x1 m1 d1] 38)) wr → At wr w1.heap.size 0 [.int .i64 n, .slice x1 m1 d1] ∧ SliceRd Shp.ints wr x1 m1 d1 (sumL p n l2 l3) T1) := by
      intro wr hb
      exact ⟨(At.alloc w1 _ _).keep (hb.block _ (by simp)), (r1.below Shp.ints_good ((Below.refl _ _).alloc (Nat.le_refl _) _)).below Shp.ints_good hb⟩
    have L11 : Hid (Below (w1.alloc (.cells #[.int .i64 n, .slice x1 m1 d1] 38)).heap.size (w1.alloc (.cells #[.int .i64 n, .slice x1 m1 d1] 38)) (w1.alloc (.cells #[.int .i64 n, .slice x1 m1 d1] 38))) := Below.refl _ _
    have K1 := KEY.out _ B1.out
    have q0 := K1.2.1.c0
    have q1 := K1.2.1.c1
    have q2 := K1.2.2.1.c0
    have q3 := K1.2.2.1.c1
    have q4 := K1.2.2.2.1.c0
    have q5 := K1.2.2.2.1.c1
    have y10 := (P1.out _ L11.out).1.c0
    have y11 := (P1.out _ L11.out).1.c1
    clear hb1 K1 r1
    go_wp2_with fail
    refine (c_MeetSpaces p n a1 n1 c1 l1 S1 a2 n2 c2 l2 S2 _ HP.out (KEY.out _ B1.out).2.2.2.2.1 (KEY.out _ B1.out).2.2.2.2.2.1 E.out.1 E.out.2.1).mono ?_
    rintro e w2 ⟨v, rfl, hb2, x2, m2, d2, T2, rfl, r2, -⟩
    have B2 : Hid (Below W.heap.size W (w2.alloc (.cells #[.int .i64 n, .slice x2 m2 d2] 38))) := below_then (below_then B1.out hb2) ((Below.refl _ _).alloc (Nat.le_refl _) _)
    have P2 : Hid (∀ wr, Below (w2.alloc (.cells #[.int .i64 n, .slice x2 m2 d2] 38)).heap.size (w2.alloc (.cells #[.int .i64 n, .slice x2 m2 d2] 38)) wr → At wr w2.heap.size 0 [.int .i64 n, .slice x2 m2 d2] ∧ SliceRd Shp.ints wr x2 m2 d2 (meetL p n l1 l2) T2) := by
      intro wr hb
      exact ⟨(At.alloc w2 _ _).keep (hb.block _ (by simp)), (r2.below Shp.ints_good ((Below.refl _ _).alloc (Nat.le_refl _) _)).below Shp.ints_good hb⟩
    have L22 : Hid (Below (w2.alloc (.cells #[.int .i64 n, .slice x2 m2 d2] 38)).heap.size (w2.alloc (.cells #[.int .i64 n, .slice x2 m2 d2] 38)) (w2.alloc (.cells #[.int .i64 n, .slice x2 m2 d2] 38))) := Below.refl _ _
    have L12 : Hid (Below (w1.alloc (.cells #[.int .i64 n, .slice x1 m1 d1] 38)).heap.size (w1.alloc (.cells #[.int .i64 n, .slice x1 m1 d1] 38)) (w2.alloc (.cells #[.int .i64 n, .slice x2 m2 d2] 38))) := below_then (below_then L11.out hb2) ((Below.refl _ _).alloc (Nat.le_refl _) _)
    have K2 := KEY.out _ B2.out
    have q0 := K2.2.1.c0
    have q1 := K2.2.1.c1
    have q2 := K2.2.2.1.c0
    have q3 := K2.2.2.1.c1
    have q4 := K2.2.2.2.1.c0
    have q5 := K2.2.2.2.1.c1
    have y10 := (P1.out _ L12.out).1.c0
    have y11 := (P1.out _ L12.out).1.c1
    have y20 := (P2.out _ L22.out).1.c0
    have y21 := (P2.out _ L22.out).1.c1
    clear hb2 K2 r2
    go_wp2_with fail
    refine (c_MeetSpaces p n a1 n1 c1 l1 S1 a3 n3 c3 l3 S3 _ HP.out (KEY.out _ B2.out).2.2.2.2.1 (KEY.out _ B2.out).2.2.2.2.2.2.1 E.out.1 E.out.2.2.1).mono ?_
    rintro e w3 ⟨v, rfl, hb3, x3, m3, d3, T3, rfl, r3, -⟩
    have B3 : Hid (Below W.heap.size W (w3.alloc (.cells #[.int .i64 n, .slice x3 m3 d3] 38))) := below_then (below_then B2.out hb3) ((Below.refl _ _).alloc (Nat.le_refl _) _)
    have P3 : Hid (∀ wr, Below (w3.alloc (.cells #[.int .i64 n, .slice x3 m3 d3] 38)).heap.size (w3.alloc (.cells #[.int .i64 n, .slice x3 m3 d3] 38)) wr → At wr w3.heap.size 0 [.int .i64 n, .slice x3 m3 d3] ∧ SliceRd Shp.ints wr x3 m3 d3 (meetL p n l1 l3) T3) := by
      intro wr hb
      exact ⟨(At.alloc w3 _ _).keep (hb.block _ (by simp)), (r3.below Shp.ints_good ((Below.refl _ _).alloc (Nat.le_refl _) _)).below Shp.ints_good hb⟩
    have L33 : Hid (Below (w3.alloc (.cells #[.int .i64 n, .slice x3 m3 d3] 38)).heap.size (w3.alloc (.cells #[.int .i64 n, .slice x3 m3 d3] 38)) (w3.alloc (.cells #[.int .i64 n, .slice x3 m3 d3] 38))) := Below.refl _ _
    have L13 : Hid (Below (w1.alloc (.cells #[.int .i64 n, .slice x1 m1 d1] 38)).heap.size (w1.alloc (.cells #[.int .i64 n, .slice x1 m1 d1] 38)) (w3.alloc (.cells #[.int .i64 n, .slice x3 m3 d3] 38))) := below_then (below_then L12.out hb3) ((Below.refl _ _).alloc (Nat.le_refl _) _)
    have L23 : Hid (Below (w2.alloc (.cells #[.int .i64 n, .slice x2 m2 d2] 38)).heap.size (w2.alloc (.cells #[.int .i64 n, .slice x2 m2 d2] 38)) (w3.alloc (.cells #[.int .i64 n, .slice x3 m3 d3] 38))) := below_then (below_then L22.out hb3) ((Below.refl _ _).alloc (Nat.le_refl _) _)
    have K3 := KEY.out _ B3.out
    have q0 := K3.2.1.c0
    have q1 := K3.2.1.c1
    have q2 := K3.2.2.1.c0
    have q3 := K3.2.2.1.c1
    have q4 := K3.2.2.2.1.c0
    have q5 := K3.2.2.2.1.c1
    have y10 := (P1.out _ L13.out).1.c0
    have y11 := (P1.out _ L13.out).1.c1
    have y20 := (P2.out _ L23.out).1.c0
    have y21 := (P2.out _ L23.out).1.c1
    have y30 := (P3.out _ L33.out).1.c0
    have y31 := (P3.out _ L33.out).1.c1
    clear hb3 K3 r3
    go_wp2_with fail
    refine (c_MeetSpaces p n a1 n1 c1 l1 S1 x1 m1 d1 (sumL p n l2 l3) T1 _ HP.out (KEY.out _ B3.out).2.2.2.2.1 (P1.out _ L13.out).2 E.out.1 E.out.2.2.2.2.2).mono ?_
    rintro e w4 ⟨v, rfl, hb4, x4, m4, d4, T4, rfl, r4, -⟩
    have B4 : Hid (Below W.heap.size W (w4.alloc (.cells #[.int .i64 n, .slice x4 m4 d4] 38))) := below_then (below_then B3.out hb4) ((Below.refl _ _).alloc (Nat.le_refl _) _)
    have P4 : Hid (∀ wr, Below (w4.alloc (.cells #[.int .i64 n, .slice x4 m4 d4] 38)).heap.size (w4.alloc (.cells #[.int .i64 n, .slice x4 m4 d4] 38)) wr → At wr w4.heap.size 0 [.int .i64 n, .slice x4 m4 d4] ∧ SliceRd Shp.ints wr x4 m4 d4 (distM p n l1 l2 l3) T4) := by
      intro wr hb
      exact ⟨(At.alloc w4 _ _).keep (hb.block _ (by simp)), (r4.below Shp.ints_good ((Below.refl _ _).alloc (Nat.le_refl _) _)).below Shp.ints_good hb⟩
    have L44 : Hid (Below (w4.alloc (.cells #[.int .i64 n, .slice x4 m4 d4] 38)).heap.size (w4.alloc (.cells #[.int .i64 n, .slice x4 m4 d4] 38)) (w4.alloc (.cells #[.int .i64 n, .slice x4 m4 d4] 38))) := Below.refl _ _
    have L14 : Hid (Below (w1.alloc (.cells #[.int .i64 n, .slice x1 m1 d1] 38)).heap.size (w1.alloc (.cells #[.int .i64 n, .slice x1 m1 d1] 38)) (w4.alloc (.cells #[.int .i64 n, .slice x4 m4 d4] 38))) := below_then (below_then L13.out hb4) ((Below.refl _ _).alloc (Nat.le_refl _) _)
    have L24 : Hid (Below (w2.alloc (.cells #[.int .i64 n, .slice x2 m2 d2] 38)).heap.size (w2.alloc (.cells #[.int .i64 n, .slice x2 m2 d2] 38)) (w4.alloc (.cells #[.int .i64 n, .slice x4 m4 d4] 38))) := below_then (below_then L23.out hb4) ((Below.refl _ _).alloc (Nat.le_refl _) _)
    have L34 : Hid (Below (w3.alloc (.cells #[.int .i64 n, .slice x3 m3 d3] 38)).heap.size (w3.alloc (.cells #[.int .i64 n, .slice x3 m3 d3] 38)) (w4.alloc (.cells #[.int .i64 n, .slice x4 m4 d4] 38))) := below_then (below_then L33.out hb4) ((Below.refl _ _).alloc (Nat.le_refl _) _)
    have K4 := KEY.out _ B4.out
    have q0 := K4.2.1.c0
    have q1 := K4.2.1.c1
    have q2 := K4.2.2.1.c0
    have q3 := K4.2.2.1.c1
    have q4 := K4.2.2.2.1.c0
    have q5 := K4.2.2.2.1.c1
    have y10 := (P1.out _ L14.out).1.c0
    have y11 := (P1.out _ L14.out).1.c1
    have y20 := (P2.out _ L24.out).1.c0
    have y21 := (P2.out _ L24.out).1.c1
    have y30 := (P3.out _ L34.out).1.c0
    have y31 := (P3.out _ L34.out).1.c1
    have y40 := (P4.out _ L44.out).1.c0
    have y41 := (P4.out _ L44.out).1.c1
    clear hb4 K4 r4
    go_wp2_with fail
    refine (c_AddSpaces p n x2 m2 d2 (meetL p n l1 l2) T2 x3 m3 d3 (meetL p n l1 l3) T3 _ HP.out (P2.out _ L24.out).2 (P3.out _ L34.out).2 E.out.2.2.2.1 E.out.2.2.2.2.1).mono ?_
    rintro e w5 ⟨v, rfl, hb5, x5, m5, d5, T5, rfl, r5, -⟩
    have B5 : Hid (Below W.heap.size W (w5.alloc (.cells #[.int .i64 n, .slice x5 m5 d5] 38))) := below_then (below_then B4.out hb5) ((Below.refl _ _).alloc (Nat.le_refl _) _)
    have P5 : Hid (∀ wr, Below (w5.alloc (.cells #[.int .i64 n, .slice x5 m5 d5] 38)).heap.size (w5.alloc (.cells #[.int .i64 n, .slice x5 m5 d5] 38)) wr → At wr w5.heap.size 0 [.int .i64 n, .slice x5 m5 d5] ∧ SliceRd Shp.ints wr x5 m5 d5 (distS p n l1 l2 l3) T5) := by
      intro wr hb
      exact ⟨(At.alloc w5 _ _).keep (hb.block _ (by simp)), (r5.below Shp.ints_good ((Below.refl _ _).alloc (Nat.le_refl _) _)).below Shp.ints_good hb⟩
    have L55 : Hid (Below (w5.alloc (.cells #[.int .i64 n, .slice x5 m5 d5] 38)).heap.size (w5.alloc (.cells #[.int .i64 n, .slice x5 m5 d5] 38)) (w5.alloc (.cells #[.int .i64 n, .slice x5 m5 d5] 38))) := Below.refl _ _
    have L15 : Hid (Below (w1.alloc (.cells #[.int .i64 n, .slice x1 m1 d1] 38)).heap.size (w1.alloc (.cells #[.int .i64 n, .slice x1 m1 d1] 38)) (w5.alloc (.cells #[.int .i64 n, .slice x5 m5 d5] 38))) := below_then (below_then L14.out hb5) ((Below.refl _ _).alloc (Nat.le_refl _) _)
    have L25 : Hid (Below (w2.alloc (.cells #[.int .i64 n, .slice x2 m2 d2] 38)).heap.size (w2.alloc (.cells #[.int .i64 n, .slice x2 m2 d2] 38)) (w5.alloc (.cells #[.int .i64 n, .slice x5 m5 d5] 38))) := below_then (below_then L24.out hb5) ((Below.refl _ _).alloc (Nat.le_refl _) _)
    have L35 : Hid (Below (w3.alloc (.cells #[.int .i64 n, .slice x3 m3 d3] 38)).heap.size (w3.alloc (.cells #[.int .i64 n, .slice x3 m3 d3] 38)) (w5.alloc (.cells #[.int .i64 n, .slice x5 m5 d5] 38))) := below_then (below_then L34.out hb5) ((Below.refl _ _).alloc (Nat.le_refl _) _)
    have L45 : Hid (Below (w4.alloc (.cells #[.int .i64 n, .slice x4 m4 d4] 38)).heap.size (w4.alloc (.cells #[.int .i64 n, .slice x4 m4 d4] 38)) (w5.alloc (.cells #[.int .i64 n, .slice x5 m5 d5] 38))) := below_then (below_then L44.out hb5) ((Below.refl _ _).alloc (Nat.le_refl _) _)
    have K5 := KEY.out _ B5.out
    have q0 := K5.2.1.c0
    have q1 := K5.2.1.c1
    have q2 := K5.2.2.1.c0
    have q3 := K5.2.2.1.c1
    have q4 := K5.2.2.2.1.c0
    have q5 := K5.2.2.2.1.c1
    have y10 := (P1.out _ L15.out).1.c0
    have y11 := (P1.out _ L15.out).1.c1
    have y20 := (P2.out _ L25.out).1.c0
    have y21 := (P2.out _ L25.out).1.c1
    have y30 := (P3.out _ L35.out).1.c0
    have y31 := (P3.out _ L35.out).1.c1
    have y40 := (P4.out _ L45.out).1.c0
    have y41 := (P4.out _ L45.out).1.c1
    have y50 := (P5.out _ L55.out).1.c0
    have y51 := (P5.out _ L55.out).1.c1
    clear hb5 K5 r5
    have hm4 : m4 ≤ 8 := by have := (P4.out _ L45.out).2.1; have := GL.out; omega
    have hm5 : m5 ≤ 8 := by have := (P5.out _ L55.out).2.1; have := GL.out; omega
    have HM : Hid ((distM p n l1 l2 l3).length = m4 ∧ (distS p n l1 l2 l3).length = m5) := ⟨(P4.out _ L45.out).2.1, (P5.out _ L55.out).2.1⟩
    go_wp2
    go_ret
    exact ⟨_, rfl, (KEY.out _ B5.out).1, by unfold countV; rw [HALL.out]; simp only [if_true, Int.toNat_natCast, HM.out.1, HM.out.2]; rfl⟩
  · have HALL : Hid (areS3 p s1 s2 s3 l1 l2 l3 = false) := by show _ = _; simpa using hall
    have hno : areS p s2 l2 s3 l3 = false ∨ areS p s1 l1 s2 l2 = false := by
      have h := HALL.out
      unfold areS3 at h
      rw [Bool.and_eq_false_iff] at h
      exact h.symm
    have HNO := Lib.hid hno
    clear hall hno K0
    go_enter Try.func17, Try.ntmps17
    go_wp2_with fail
    generalize ((w.alloc (.cells #[.int .i64 s1, .slice a1 n1 c1] 38)).alloc (.cells #[.int .i64 s2, .slice a2 n2 c2] 38)).alloc (.cells #[.int .i64 s3, .slice a3 n3 c3] 38) = W at *
    refine (c_AddSpaces_any p s2 s3 a2 n2 c2 l2 S2 a3 n3 c3 l3 S3 W HP.out (KEY.out _ (Below.refl _ _)).2.2.2.2.2.1 (KEY.out _ (Below.refl _ _)).2.2.2.2.2.2.1).mono ?_
    rintro e w1 ⟨v, rfl, hb1, z1, x1, m1, d1, rfl⟩
    have B1 : Hid (Below W.heap.size W (w1.alloc (.cells #[.int .i64 z1, .slice x1 m1 d1] 38))) := below_then hb1 ((Below.refl _ _).alloc (Nat.le_refl _) _)
    generalize hb_ : areS p s2 l2 s3 l3 = bb1 at *
    clear hb1 hb_
    have K1 := KEY.out _ B1.out
    have q0 := K1.2.1.c0
    have q1 := K1.2.1.c1
    have q2 := K1.2.2.1.c0
    have q3 := K1.2.2.1.c1
    have q4 := K1.2.2.2.1.c0
    have q5 := K1.2.2.2.1.c1
    clear K1
    go_wp2_with fail
    refine (c_MeetSpaces_any p s1 s2 a1 n1 c1 l1 S1 a2 n2 c2 l2 S2 _ HP.out (KEY.out _ B1.out).2.2.2.2.1 (KEY.out _ B1.out).2.2.2.2.2.1).mono ?_
    rintro e w2 ⟨v, rfl, hb2, z2, x2, m2, d2, rfl⟩
    have B2 : Hid (Below W.heap.size W (w2.alloc (.cells #[.int .i64 z2, .slice x2 m2 d2] 38))) := below_then (below_then B1.out hb2) ((Below.refl _ _).alloc (Nat.le_refl _) _)
    generalize hb_ : areS p s1 l1 s2 l2 = bb2 at *
    clear hb2 hb_
    have K2 := KEY.out _ B2.out
    have q0 := K2.2.1.c0
    have q1 := K2.2.1.c1
    have q4 := K2.2.2.2.1.c0
    have q5 := K2.2.2.2.1.c1
    clear K2
    go_wp2_with fail
    refine (c_MeetSpaces_any p s1 s3 a1 n1 c1 l1 S1 a3 n3 c3 l3 S3 _ HP.out (KEY.out _ B2.out).2.2.2.2.1 (KEY.out _ B2.out).2.2.2.2.2.2.1).mono ?_
    rintro e w3 ⟨v, rfl, hb3, z3, x3, m3, d3, rfl⟩
    have B3 : Hid (Below W.heap.size W (w3.alloc (.cells #[.int .i64 z3, .slice x3 m3 d3] 38))) := below_then (below_then B2.out hb3) ((Below.refl _ _).alloc (Nat.le_refl _) _)
    clear hb3 q0 q1 q2 q3 q4 q5
    cases bb1 with
    | false =>
      go_wp2
      go_ret
      exact ⟨_, rfl, (KEY.out _ B3.out).1, by (unfold countV; rw [HALL.out]; rfl)⟩
    | true =>
      have hb2f : bb2 = false := by rcases HNO.out with h | h; cases h; exact h
      subst hb2f
      go_wp2
      go_ret
      exact ⟨_, rfl, (KEY.out _ B3.out).1, by (unfold countV; rw [HALL.out]; rfl)⟩
end Go.Proofs.Ytpngpgbmkkjjgaa

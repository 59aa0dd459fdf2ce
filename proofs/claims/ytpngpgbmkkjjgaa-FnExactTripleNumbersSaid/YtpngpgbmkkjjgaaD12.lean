/-
  Contracts of the reference: TripleNumbers.
-/
import Derived.Test.YtpngpgbmkkjjgaaD11
import Derived.Test.YtpngpgbmkkjjgaaC30
namespace Go.Proofs.Ytpngpgbmkkjjgaa
open Go.RowKit

set_option maxRecDepth 20000 in
set_option maxHeartbeats 4000000 in
theorem c_spec_TripleNumbers (p s1 s2 s3 : Int) (a1 a2 a3 : Option Addr) (n1 c1 n2 c2 n3 c3 : Nat) (l1 l2 l3 : List (List Int)) (S1 S2 S3 : List Nat) (w : World) (hp : fits p) (h1 : SliceRd Shp.ints w a1 n1 c1 l1 S1) (h2 : SliceRd Shp.ints w a2 n2 c2 l2 S2) (h3 : SliceRd Shp.ints w a3 n3 c3 l3 S3) :
    Calls Try.prog 28 #[.int .i64 p, .agg #[.int .i64 s1, .slice a1 n1 c1], .agg #[.int .i64 s2, .slice a2 n2 c2], .agg #[.int .i64 s3, .slice a3 n3 c3]] w (Ret w fun v w' => ∃ a n c S, v = .tuple #[.slice a n c, .bool (areS3 p s1 s2 s3 l1 l2 l3)] ∧ SliceRd Shp.int w' a n c (tripleV p s1 s2 s3 l1 l2 l3) S ∧ New w.heap.size S) := by
  have hmx1 := h1.max
  have hmx2 := h2.max
  have hmx3 := h3.max
  have HLN : Hid (l1.length = n1 ∧ l2.length = n2 ∧ l3.length = n3) := ⟨h1.1, h2.1, h3.1⟩
  have b0 := (Below.refl w.heap.size w).alloc (Nat.le_refl _) (.cells #[.int .i64 s1, .slice a1 n1 c1] 38)
  have b1 := (Below.refl _ (w.alloc (.cells #[.int .i64 s1, .slice a1 n1 c1] 38))).alloc (Nat.le_refl _) (.cells #[.int .i64 s2, .slice a2 n2 c2] 38)
  have b2 := (Below.refl _ ((w.alloc (.cells #[.int .i64 s1, .slice a1 n1 c1] 38)).alloc (.cells #[.int .i64 s2, .slice a2 n2 c2] 38))).alloc (Nat.le_refl _) (.cells #[.int .i64 s3, .slice a3 n3 c3] 38)
  have t1 := At.alloc (w.alloc (.cells #[.int .i64 s1, .slice a1 n1 c1] 38)) #[.int .i64 s2, .slice a2 n2 c2] 38
  have t2 := At.alloc ((w.alloc (.cells #[.int .i64 s1, .slice a1 n1 c1] 38)).alloc (.cells #[.int .i64 s2, .slice a2 n2 c2] 38)) #[.int .i64 s3, .slice a3 n3 c3] 38
  rw [World.size_alloc] at t1
  rw [World.size_alloc, World.size_alloc] at t2
  have KEY : Hid (∀ wr, Below (((w.alloc (.cells #[.int .i64 s1, .slice a1 n1 c1] 38)).alloc (.cells #[.int .i64 s2, .slice a2 n2 c2] 38)).alloc (.cells #[.int .i64 s3, .slice a3 n3 c3] 38)).heap.size (((w.alloc (.cells #[.int .i64 s1, .slice a1 n1 c1] 38)).alloc (.cells #[.int .i64 s2, .slice a2 n2 c2] 38)).alloc (.cells #[.int .i64 s3, .slice a3 n3 c3] 38)) wr →
      Below w.heap.size w wr ∧ At wr w.heap.size 0 [.int .i64 s1, .slice a1 n1 c1] ∧ At wr (w.heap.size + 1) 0 [.int .i64 s2, .slice a2 n2 c2] ∧ At wr (w.heap.size + 1 + 1) 0 [.int .i64 s3, .slice a3 n3 c3] ∧ SliceRd Shp.ints wr a1 n1 c1 l1 S1 ∧ SliceRd Shp.ints wr a2 n2 c2 l2 S2 ∧ SliceRd Shp.ints wr a3 n3 c3 l3 S3 ∧ w.heap.size + 3 ≤ wr.heap.size) := by
    intro wr hb
    have hbw := below_then (below_then (below_then b0 b1) b2) hb
    exact ⟨hbw, (((At.alloc w _ _).keep (b1.block _ (by simp))).keep (b2.block _ (by simp; omega))).keep (hb.block _ (by simp; omega)), (t1.keep (b2.block _ (by simp))).keep (hb.block _ (by simp)), t2.keep (hb.block _ (by simp)), h1.below Shp.ints_good hbw, h2.below Shp.ints_good hbw, h3.below Shp.ints_good hbw, by have := hb.size; simp at this; omega⟩
  have HP := Lib.hid hp
  clear b0 b1 b2 t1 t2 h1 h2 h3 hp
  have K0 := KEY.out _ (Below.refl _ _)
  have q0 := K0.2.1.c0
  have q1 := K0.2.1.c1
  have q2 := K0.2.2.1.c0
  have q3 := K0.2.2.1.c1
  have q4 := K0.2.2.2.1.c0
  have q5 := K0.2.2.2.1.c1
  by_cases hall : areS3 p s1 s2 s3 l1 l2 l3 = true
  · have HALL := Lib.hid hall
    have hall2 := hall
    unfold areS3 at hall2
    rw [Bool.and_eq_true] at hall2
    obtain ⟨n, rfl, rfl, e1, e2⟩ := areS_split hall2.1
    obtain ⟨n', hn', rfl, -, e3⟩ := areS_split hall2.2
    obtain rfl : n = n' := by omega
    have hpf := (space_ok e1).1
    have hn8 := (space_ok e1).2.1
    have hAB : spaceV p n (meetL p n l1 l2) = true := space_meet hpf hn8
    have hSm : spaceV p n (sumL p n l1 l2) = true := space_sum hpf hn8 (space_ok e1).2.2 (space_ok e2).2.2
    have E := Lib.hid (And.intro e1 (And.intro e2 (And.intro e3 (And.intro hAB hSm))))
    clear hall hall2 e1 e2 e3 hAB hSm hpf hn' K0
    go_enter Try.func28, Try.ntmps28
    go_wp2_with fail
    generalize ((w.alloc (.cells #[.int .i64 n, .slice a1 n1 c1] 38)).alloc (.cells #[.int .i64 n, .slice a2 n2 c2] 38)).alloc (.cells #[.int .i64 n, .slice a3 n3 c3] 38) = W at *
    refine (c_MeetSpaces p n a1 n1 c1 l1 S1 a2 n2 c2 l2 S2 W HP.out (KEY.out _ (Below.refl _ _)).2.2.2.2.1 (KEY.out _ (Below.refl _ _)).2.2.2.2.2.1 E.out.1 E.out.2.1).mono ?_
    rintro e w1 ⟨v, rfl, hb1, x1, m1, d1, T1, rfl, r1, -⟩
    have B1 : Hid (Below W.heap.size W (w1.alloc (.cells #[.int .i64 n, .slice x1 m1 d1] 38))) := below_then hb1 ((Below.refl _ _).alloc (Nat.le_refl _) _)
    have P1 : Hid (∀ wr, Below (w1.alloc (.cells #[.int .i64 n, .slice x1 m1 d1] 38)).heap.size (w1.alloc (.cells #[.int .i64 n, .slice x1 m1 d1] 38)) wr → At wr w1.heap.size 0 [.int .i64 n, .slice x1 m1 d1] ∧ SliceRd Shp.ints wr x1 m1 d1 (meetL p n l1 l2) T1) := by
      intro wr hb
      exact ⟨(At.alloc w1 _ _).keep (hb.block _ (by simp)), (r1.below Shp.ints_good ((Below.refl _ _).alloc (Nat.le_refl _) _)).below Shp.ints_good hb⟩
    have L11 : Hid (Below (w1.alloc (.cells #[.int .i64 n, .slice x1 m1 d1] 38)).heap.size (w1.alloc (.cells #[.int .i64 n, .slice x1 m1 d1] 38)) (w1.alloc (.cells #[.int .i64 n, .slice x1 m1 d1] 38))) := Below.refl _ _
    have K1 := KEY.out _ B1.out
    have q0 := K1.2.1.c0
    have q1 := K1.2.1.c1
    have q2 := K1.2.2.1.c0
    have q3 := K1.2.2.1.c1
    have q4 := K1.2.2.2.1.c0
    have q5 := K1.2.2.2.1.c1
    have y10 := (P1.out _ L11.out).1.c0
    have y11 := (P1.out _ L11.out).1.c1
    clear hb1 K1 r1
    go_wp2_with fail
    refine (c_MeetSpaces p n a1 n1 c1 l1 S1 a3 n3 c3 l3 S3 _ HP.out (KEY.out _ B1.out).2.2.2.2.1 (KEY.out _ B1.out).2.2.2.2.2.2.1 E.out.1 E.out.2.2.1).mono ?_
    rintro e w2 ⟨v, rfl, hb2, x2, m2, d2, T2, rfl, r2, -⟩
    have B2 : Hid (Below W.heap.size W (w2.alloc (.cells #[.int .i64 n, .slice x2 m2 d2] 38))) := below_then (below_then B1.out hb2) ((Below.refl _ _).alloc (Nat.le_refl _) _)
    have P2 : Hid (∀ wr, Below (w2.alloc (.cells #[.int .i64 n, .slice x2 m2 d2] 38)).heap.size (w2.alloc (.cells #[.int .i64 n, .slice x2 m2 d2] 38)) wr → At wr w2.heap.size 0 [.int .i64 n, .slice x2 m2 d2] ∧ SliceRd Shp.ints wr x2 m2 d2 (meetL p n l1 l3) T2) := by
      intro wr hb
      exact ⟨(At.alloc w2 _ _).keep (hb.block _ (by simp)), (r2.below Shp.ints_good ((Below.refl _ _).alloc (Nat.le_refl _) _)).below Shp.ints_good hb⟩
    have L22 : Hid (Below (w2.alloc (.cells #[.int .i64 n, .slice x2 m2 d2] 38)).heap.size (w2.alloc (.cells #[.int .i64 n, .slice x2 m2 d2] 38)) (w2.alloc (.cells #[.int .i64 n, .slice x2 m2 d2] 38))) := Below.refl _ _
    have L12 : Hid (Below (w1.alloc (.cells #[.int .i64 n, .slice x1 m1 d1] 38)).heap.size (w1.alloc (.cells #[.int .i64 n, .slice x1 m1 d1] 38)) (w2.alloc (.cells #[.int .i64 n, .slice x2 m2 d2] 38))) := below_then (below_then L11.out hb2) ((Below.refl _ _).alloc (Nat.le_refl _) _)
    have K2 := KEY.out _ B2.out
    have q0 := K2.2.1.c0
    have q1 := K2.2.1.c1
    have q2 := K2.2.2.1.c0
    have q3 := K2.2.2.1.c1
    have q4 := K2.2.2.2.1.c0
    have q5 := K2.2.2.2.1.c1
    have y10 := (P1.out _ L12.out).1.c0
    have y11 := (P1.out _ L12.out).1.c1
    have y20 := (P2.out _ L22.out).1.c0
    have y21 := (P2.out _ L22.out).1.c1
    clear hb2 K2 r2
    go_wp2_with fail
    refine (c_MeetSpaces p n a2 n2 c2 l2 S2 a3 n3 c3 l3 S3 _ HP.out (KEY.out _ B2.out).2.2.2.2.2.1 (KEY.out _ B2.out).2.2.2.2.2.2.1 E.out.2.1 E.out.2.2.1).mono ?_
    rintro e w3 ⟨v, rfl, hb3, x3, m3, d3, T3, rfl, r3, -⟩
    have B3 : Hid (Below W.heap.size W (w3.alloc (.cells #[.int .i64 n, .slice x3 m3 d3] 38))) := below_then (below_then B2.out hb3) ((Below.refl _ _).alloc (Nat.le_refl _) _)
    have P3 : Hid (∀ wr, Below (w3.alloc (.cells #[.int .i64 n, .slice x3 m3 d3] 38)).heap.size (w3.alloc (.cells #[.int .i64 n, .slice x3 m3 d3] 38)) wr → At wr w3.heap.size 0 [.int .i64 n, .slice x3 m3 d3] ∧ SliceRd Shp.ints wr x3 m3 d3 (meetL p n l2 l3) T3) := by
      intro wr hb
      exact ⟨(At.alloc w3 _ _).keep (hb.block _ (by simp)), (r3.below Shp.ints_good ((Below.refl _ _).alloc (Nat.le_refl _) _)).below Shp.ints_good hb⟩
    have L33 : Hid (Below (w3.alloc (.cells #[.int .i64 n, .slice x3 m3 d3] 38)).heap.size (w3.alloc (.cells #[.int .i64 n, .slice x3 m3 d3] 38)) (w3.alloc (.cells #[.int .i64 n, .slice x3 m3 d3] 38))) := Below.refl _ _
    have L13 : Hid (Below (w1.alloc (.cells #[.int .i64 n, .slice x1 m1 d1] 38)).heap.size (w1.alloc (.cells #[.int .i64 n, .slice x1 m1 d1] 38)) (w3.alloc (.cells #[.int .i64 n, .slice x3 m3 d3] 38))) := below_then (below_then L12.out hb3) ((Below.refl _ _).alloc (Nat.le_refl _) _)
    have L23 : Hid (Below (w2.alloc (.cells #[.int .i64 n, .slice x2 m2 d2] 38)).heap.size (w2.alloc (.cells #[.int .i64 n, .slice x2 m2 d2] 38)) (w3.alloc (.cells #[.int .i64 n, .slice x3 m3 d3] 38))) := below_then (below_then L22.out hb3) ((Below.refl _ _).alloc (Nat.le_refl _) _)
    have K3 := KEY.out _ B3.out
    have q0 := K3.2.1.c0
    have q1 := K3.2.1.c1
    have q2 := K3.2.2.1.c0
    have q3 := K3.2.2.1.c1
    have q4 := K3.2.2.2.1.c0
    have q5 := K3.2.2.2.1.c1
    have y10 := (P1.out _ L13.out).1.c0
    have y11 := (P1.out _ L13.out).1.c1
    have y20 := (P2.out _ L23.out).1.c0
    have y21 := (P2.out _ L23.out).1.c1
    have y30 := (P3.out _ L33.out).1.c0
    have y31 := (P3.out _ L33.out).1.c1
    clear hb3 K3 r3
    go_wp2_with fail
    refine (c_MeetSpaces p n x1 m1 d1 (meetL p n l1 l2) T1 a3 n3 c3 l3 S3 _ HP.out (P1.out _ L13.out).2 (KEY.out _ B3.out).2.2.2.2.2.2.1 E.out.2.2.2.1 E.out.2.2.1).mono ?_
    rintro e w4 ⟨v, rfl, hb4, x4, m4, d4, T4, rfl, r4, -⟩
    have B4 : Hid (Below W.heap.size W (w4.alloc (.cells #[.int .i64 n, .slice x4 m4 d4] 38))) := below_then (below_then B3.out hb4) ((Below.refl _ _).alloc (Nat.le_refl _) _)
    have P4 : Hid (∀ wr, Below (w4.alloc (.cells #[.int .i64 n, .slice x4 m4 d4] 38)).heap.size (w4.alloc (.cells #[.int .i64 n, .slice x4 m4 d4] 38)) wr → At wr w4.heap.size 0 [.int .i64 n, .slice x4 m4 d4] ∧ SliceRd Shp.ints wr x4 m4 d4 (meetL p n (meetL p n l1 l2) l3) T4) := by
      intro wr hb
      exact ⟨(At.alloc w4 _ _).keep (hb.block _ (by simp)), (r4.below Shp.ints_good ((Below.refl _ _).alloc (Nat.le_refl _) _)).below Shp.ints_good hb⟩
    have L44 : Hid (Below (w4.alloc (.cells #[.int .i64 n, .slice x4 m4 d4] 38)).heap.size (w4.alloc (.cells #[.int .i64 n, .slice x4 m4 d4] 38)) (w4.alloc (.cells #[.int .i64 n, .slice x4 m4 d4] 38))) := Below.refl _ _
    have L14 : Hid (Below (w1.alloc (.cells #[.int .i64 n, .slice x1 m1 d1] 38)).heap.size (w1.alloc (.cells #[.int .i64 n, .slice x1 m1 d1] 38)) (w4.alloc (.cells #[.int .i64 n, .slice x4 m4 d4] 38))) := below_then (below_then L13.out hb4) ((Below.refl _ _).alloc (Nat.le_refl _) _)
    have L24 : Hid (Below (w2.alloc (.cells #[.int .i64 n, .slice x2 m2 d2] 38)).heap.size (w2.alloc (.cells #[.int .i64 n, .slice x2 m2 d2] 38)) (w4.alloc (.cells #[.int .i64 n, .slice x4 m4 d4] 38))) := below_then (below_then L23.out hb4) ((Below.refl _ _).alloc (Nat.le_refl _) _)
    have L34 : Hid (Below (w3.alloc (.cells #[.int .i64 n, .slice x3 m3 d3] 38)).heap.size (w3.alloc (.cells #[.int .i64 n, .slice x3 m3 d3] 38)) (w4.alloc (.cells #[.int .i64 n, .slice x4 m4 d4] 38))) := below_then (below_then L33.out hb4) ((Below.refl _ _).alloc (Nat.le_refl _) _)
    have K4 := KEY.out _ B4.out
    have q0 := K4.2.1.c0
    have q1 := K4.2.1.c1
    have q2 := K4.2.2.1.c0
    have q3 := K4.2.2.1.c1
    have q4 := K4.2.2.2.1.c0
    have q5 := K4.2.2.2.1.c1
    have y10 := (P1.out _ L14.out).1.c0
    have y11 := (P1.out _ L14.out).1.c1
    have y20 := (P2.out _ L24.out).1.c0
    have y21 := (P2.out _ L24.out).1.c1
    have y30 := (P3.out _ L34.out).1.c0
    have y31 := (P3.out _ L34.out).1.c1
    have y40 := (P4.out _ L44.out).1.c0
    have y41 := (P4.out _ L44.out).1.c1
    clear hb4 K4 r4
    go_wp2_with fail
    refine (c_AddSpaces p n a1 n1 c1 l1 S1 a2 n2 c2 l2 S2 _ HP.out (KEY.out _ B4.out).2.2.2.2.1 (KEY.out _ B4.out).2.2.2.2.2.1 E.out.1 E.out.2.1).mono ?_
    rintro e w5 ⟨v, rfl, hb5, x5, m5, d5, T5, rfl, r5, -⟩
    have B5 : Hid (Below W.heap.size W (w5.alloc (.cells #[.int .i64 n, .slice x5 m5 d5] 38))) := below_then (below_then B4.out hb5) ((Below.refl _ _).alloc (Nat.le_refl _) _)
    have P5 : Hid (∀ wr, Below (w5.alloc (.cells #[.int .i64 n, .slice x5 m5 d5] 38)).heap.size (w5.alloc (.cells #[.int .i64 n, .slice x5 m5 d5] 38)) wr → At wr w5.heap.size 0 [.int .i64 n, .slice x5 m5 d5] ∧ SliceRd Shp.ints wr x5 m5 d5 (sumL p n l1 l2) T5) := by
      intro wr hb
      exact ⟨(At.alloc w5 _ _).keep (hb.block _ (by simp)), (r5.below Shp.ints_good ((Below.refl _ _).alloc (Nat.le_refl _) _)).below Shp.ints_good hb⟩
    have L55 : Hid (Below (w5.alloc (.cells #[.int .i64 n, .slice x5 m5 d5] 38)).heap.size (w5.alloc (.cells #[.int .i64 n, .slice x5 m5 d5] 38)) (w5.alloc (.cells #[.int .i64 n, .slice x5 m5 d5] 38))) := Below.refl _ _
    have L15 : Hid (Below (w1.alloc (.cells #[.int .i64 n, .slice x1 m1 d1] 38)).heap.size (w1.alloc (.cells #[.int .i64 n, .slice x1 m1 d1] 38)) (w5.alloc (.cells #[.int .i64 n, .slice x5 m5 d5] 38))) := below_then (below_then L14.out hb5) ((Below.refl _ _).alloc (Nat.le_refl _) _)
    have L25 : Hid (Below (w2.alloc (.cells #[.int .i64 n, .slice x2 m2 d2] 38)).heap.size (w2.alloc (.cells #[.int .i64 n, .slice x2 m2 d2] 38)) (w5.alloc (.cells #[.int .i64 n, .slice x5 m5 d5] 38))) := below_then (below_then L24.out hb5) ((Below.refl _ _).alloc (Nat.le_refl _) _)
    have L35 : Hid (Below (w3.alloc (.cells #[.int .i64 n, .slice x3 m3 d3] 38)).heap.size (w3.alloc (.cells #[.int .i64 n, .slice x3 m3 d3] 38)) (w5.alloc (.cells #[.int .i64 n, .slice x5 m5 d5] 38))) := below_then (below_then L34.out hb5) ((Below.refl _ _).alloc (Nat.le_refl _) _)
    have L45 : Hid (Below (w4.alloc (.cells #[.int .i64 n, .slice x4 m4 d4] 38)).heap.size (w4.alloc (.cells #[.int .i64 n, .slice x4 m4 d4] 38)) (w5.alloc (.cells #[.int .i64 n, .slice x5 m5 d5] 38))) := below_then (below_then L44.out hb5) ((Below.refl _ _).alloc (Nat.le_refl _) _)
    have K5 := KEY.out _ B5.out
    have q0 := K5.2.1.c0
    have q1 := K5.2.1.c1
    have q2 := K5.2.2.1.c0
    have q3 := K5.2.2.1.c1
    have q4 := K5.2.2.2.1.c0
    have q5 := K5.2.2.2.1.c1
    have y10 := (P1.out _ L15.out).1.c0
    have y11 := (P1.out _ L15.out).1.c1
    have y20 := (P2.out _ L25.out).1.c0
    have y21 := (P2.out _ L25.out).1.c1
    have y30 := (P3.out _ L35.out).1.c0
    have y31 := (P3.out _ L35.out).1.c1
    have y40 := (P4.out _ L45.out).1.c0
    have y41 := (P4.out _ L45.out).1.c1
    have y50 := (P5.out _ L55.out).1.c0
    have y51 := (P5.out _ L55.out).1.c1
    clear hb5 K5 r5
    go_wp2_with fail
    refine (c_AddSpaces p n x5 m5 d5 (sumL p n l1 l2) T5 a3 n3 c3 l3 S3 _ HP.out (P5.out _ L55.out).2 (KEY.out _ B5.out).2.2.2.2.2.2.1 E.out.2.2.2.2 E.out.2.2.1).mono ?_
    rintro e w6 ⟨v, rfl, hb6, x6, m6, d6, T6, rfl, r6, -⟩
    have B6 : Hid (Below W.heap.size W (w6.alloc (.cells #[.int .i64 n, .slice x6 m6 d6] 38))) := below_then (below_then B5.out hb6) ((Below.refl _ _).alloc (Nat.le_refl _) _)
    have P6 : Hid (∀ wr, Below (w6.alloc (.cells #[.int .i64 n, .slice x6 m6 d6] 38)).heap.size (w6.alloc (.cells #[.int .i64 n, .slice x6 m6 d6] 38)) wr → At wr w6.heap.size 0 [.int .i64 n, .slice x6 m6 d6] ∧ SliceRd Shp.ints wr x6 m6 d6 (sumL p n (sumL p n l1 l2) l3) T6) := by
      intro wr hb
      exact ⟨(At.alloc w6 _ _).keep (hb.block _ (by simp)), (r6.below Shp.ints_good ((Below.refl _ _).alloc (Nat.le_refl _) _)).below Shp.ints_good hb⟩
    have L66 : Hid (Below (w6.alloc (.cells #[.int .i64 n, .slice x6 m6 d6] 38)).heap.size (w6.alloc (.cells #[.int .i64 n, .slice x6 m6 d6] 38)) (w6.alloc (.cells #[.int .i64 n, .slice x6 m6 d6] 38))) := Below.refl _ _
    have L16 : Hid (Below (w1.alloc (.cells #[.int .i64 n, .slice x1 m1 d1] 38)).heap.size (w1.alloc (.cells #[.int .i64 n, .slice x1 m1 d1] 38)) (w6.alloc (.cells #[.int .i64 n, .slice x6 m6 d6] 38))) := below_then (below_then L15.out hb6) ((Below.refl _ _).alloc (Nat.le_refl _) _)
    have L26 : Hid (Below (w2.alloc (.cells #[.int .i64 n, .slice x2 m2 d2] 38)).heap.size (w2.alloc (.cells #[.int .i64 n, .slice x2 m2 d2] 38)) (w6.alloc (.cells #[.int .i64 n, .slice x6 m6 d6] 38))) := below_then (below_then L25.out hb6) ((Below.refl _ _).alloc (Nat.le_refl _) _)
    have L36 : Hid (Below (w3.alloc (.cells #[.int .i64 n, .slice x3 m3 d3] 38)).heap.size (w3.alloc (.cells #[.int .i64 n, .slice x3 m3 d3] 38)) (w6.alloc (.cells #[.int .i64 n, .slice x6 m6 d6] 38))) := below_then (below_then L35.out hb6) ((Below.refl _ _).alloc (Nat.le_refl _) _)
    have L46 : Hid (Below (w4.alloc (.cells #[.int .i64 n, .slice x4 m4 d4] 38)).heap.size (w4.alloc (.cells #[.int .i64 n, .slice x4 m4 d4] 38)) (w6.alloc (.cells #[.int .i64 n, .slice x6 m6 d6] 38))) := below_then (below_then L45.out hb6) ((Below.refl _ _).alloc (Nat.le_refl _) _)
    have L56 : Hid (Below (w5.alloc (.cells #[.int .i64 n, .slice x5 m5 d5] 38)).heap.size (w5.alloc (.cells #[.int .i64 n, .slice x5 m5 d5] 38)) (w6.alloc (.cells #[.int .i64 n, .slice x6 m6 d6] 38))) := below_then (below_then L55.out hb6) ((Below.refl _ _).alloc (Nat.le_refl _) _)
    have K6 := KEY.out _ B6.out
    have q0 := K6.2.1.c0
    have q1 := K6.2.1.c1
    have q2 := K6.2.2.1.c0
    have q3 := K6.2.2.1.c1
    have q4 := K6.2.2.2.1.c0
    have q5 := K6.2.2.2.1.c1
    have y10 := (P1.out _ L16.out).1.c0
    have y11 := (P1.out _ L16.out).1.c1
    have y20 := (P2.out _ L26.out).1.c0
    have y21 := (P2.out _ L26.out).1.c1
    have y30 := (P3.out _ L36.out).1.c0
    have y31 := (P3.out _ L36.out).1.c1
    have y40 := (P4.out _ L46.out).1.c0
    have y41 := (P4.out _ L46.out).1.c1
    have y50 := (P5.out _ L56.out).1.c0
    have y51 := (P5.out _ L56.out).1.c1
    have y60 := (P6.out _ L66.out).1.c0
    have y61 := (P6.out _ L66.out).1.c1
    clear hb6 K6 r6
    have f1 := (P1.out _ L16.out).2.max
    have f2 := (P2.out _ L26.out).2.max
    have f3 := (P3.out _ L36.out).2.max
    have f4 := (P4.out _ L46.out).2.max
    have f6 := (P6.out _ L66.out).2.max
    have HTL : Hid (tripleL p n l1 l2 l3 = [(n1 : Int), n2, n3, m1, m2, m3, m4, m6]) := by
      show _ = _
      unfold tripleL
      rw [HLN.out.1, HLN.out.2.1, HLN.out.2.2, (P1.out _ L16.out).2.1, (P2.out _ L26.out).2.1, (P3.out _ L36.out).2.1, (P4.out _ L46.out).2.1, (P6.out _ L66.out).2.1]
    have hb7 : Below (w6.alloc (.cells #[.int .i64 n, .slice x6 m6 d6] 38)).heap.size (w6.alloc (.cells #[.int .i64 n, .slice x6 m6 d6] 38)) ((w6.alloc (.cells #[.int .i64 n, .slice x6 m6 d6] 38)).alloc (.cells #[.int .i64 n1, .int .i64 n2, .int .i64 n3, .int .i64 m1, .int .i64 m2, .int .i64 m3, .int .i64 m4, .int .i64 m6] 3)) := (Below.refl _ _).alloc (Nat.le_refl _) _
    have HR : Hid (SliceRd Shp.int ((w6.alloc (.cells #[.int .i64 n, .slice x6 m6 d6] 38)).alloc (.cells #[.int .i64 n1, .int .i64 n2, .int .i64 n3, .int .i64 m1, .int .i64 m2, .int .i64 m3, .int .i64 m4, .int .i64 m6] 3)) (some ⟨(w6.alloc (.cells #[.int .i64 n, .slice x6 m6 d6] 38)).heap.size, 0, none⟩) 8 8 [(n1 : Int), n2, n3, m1, m2, m3, m4, m6] [(w6.alloc (.cells #[.int .i64 n, .slice x6 m6 d6] 38)).heap.size]) := by
      refine ⟨rfl, Nat.le_refl _, by unfold maxLen; omega, .inr ⟨_, 0, _, [], by simp, rfl, by simp, rfl, At.alloc _ _ _, cells_int (l := [(n1 : Int), n2, n3, m1, m2, m3, m4, m6]) (fun i hi => ?_)⟩⟩
      simp only [List.length_cons, List.length_nil] at hi
      have hc : i = 0 ∨ i = 1 ∨ i = 2 ∨ i = 3 ∨ i = 4 ∨ i = 5 ∨ i = 6 ∨ i = 7 := by omega
      rcases hc with rfl | rfl | rfl | rfl | rfl | rfl | rfl | rfl <;> simp [fits] <;> omega
    have B7 := Lib.hid (below_then B6.out hb7)
    have HZ : Hid (w.heap.size ≤ (w6.alloc (.cells #[.int .i64 n, .slice x6 m6 d6] 38)).heap.size) := (KEY.out _ B6.out).1.size
    clear hb7
    rw [World.size_alloc] at HR HZ
    go_wp2
    go_ret2
    refine ⟨_, rfl, (KEY.out _ B7.out).1, some ⟨w6.heap.size + 1, 0, none⟩, 8, 8, [w6.heap.size + 1], by rw [HALL.out]; rfl, ?_, ⟨by simp, fun b hb => ?_⟩⟩
    · have h := HR.out
      unfold tripleV
      rw [HALL.out]
      show SliceRd _ _ _ _ _ (tripleL p n l1 l2 l3) _
      rw [HTL.out]
      exact h
    · rw [List.mem_singleton] at hb
      rw [hb]
      exact HZ.out
  · have HALL : Hid (areS3 p s1 s2 s3 l1 l2 l3 = false) := by show _ = _; simpa using hall
    have hno : areS p s1 l1 s2 l2 = false ∨ areS p s2 l2 s3 l3 = false := by
      have h := HALL.out
      unfold areS3 at h
      rw [Bool.and_eq_false_iff] at h
      exact h
    have HNO := Lib.hid hno
    clear hall hno K0
    go_enter Try.func28, Try.ntmps28
    go_wp2_with fail
    generalize ((w.alloc (.cells #[.int .i64 s1, .slice a1 n1 c1] 38)).alloc (.cells #[.int .i64 s2, .slice a2 n2 c2] 38)).alloc (.cells #[.int .i64 s3, .slice a3 n3 c3] 38) = W at *
    refine (c_MeetSpaces_any p s1 s2 a1 n1 c1 l1 S1 a2 n2 c2 l2 S2 W HP.out (KEY.out _ (Below.refl _ _)).2.2.2.2.1 (KEY.out _ (Below.refl _ _)).2.2.2.2.2.1).mono ?_
    rintro e w1 ⟨v, rfl, hb1, z1, x1, m1, d1, rfl⟩
    have B1 : Hid (Below W.heap.size W (w1.alloc (.cells #[.int .i64 z1, .slice x1 m1 d1] 38))) := below_then hb1 ((Below.refl _ _).alloc (Nat.le_refl _) _)
    generalize hb_ : areS p s1 l1 s2 l2 = bb1 at *
    clear hb1 hb_
    have K1 := KEY.out _ B1.out
    have q0 := K1.2.1.c0
    have q1 := K1.2.1.c1
    have q2 := K1.2.2.1.c0
    have q3 := K1.2.2.1.c1
    have q4 := K1.2.2.2.1.c0
    have q5 := K1.2.2.2.1.c1
    clear K1
    go_wp2_with fail
    refine (c_MeetSpaces_any p s1 s3 a1 n1 c1 l1 S1 a3 n3 c3 l3 S3 _ HP.out (KEY.out _ B1.out).2.2.2.2.1 (KEY.out _ B1.out).2.2.2.2.2.2.1).mono ?_
    rintro e w2 ⟨v, rfl, hb2, z2, x2, m2, d2, rfl⟩
    have B2 : Hid (Below W.heap.size W (w2.alloc (.cells #[.int .i64 z2, .slice x2 m2 d2] 38))) := below_then (below_then B1.out hb2) ((Below.refl _ _).alloc (Nat.le_refl _) _)
    generalize hb_ : areS p s1 l1 s3 l3 = bb2 at *
    clear hb2 hb_
    have K2 := KEY.out _ B2.out
    have q2 := K2.2.2.1.c0
    have q3 := K2.2.2.1.c1
    have q4 := K2.2.2.2.1.c0
    have q5 := K2.2.2.2.1.c1
    clear K2
    go_wp2_with fail
    refine (c_MeetSpaces_any p s2 s3 a2 n2 c2 l2 S2 a3 n3 c3 l3 S3 _ HP.out (KEY.out _ B2.out).2.2.2.2.2.1 (KEY.out _ B2.out).2.2.2.2.2.2.1).mono ?_
    rintro e w3 ⟨v, rfl, hb3, z3, x3, m3, d3, rfl⟩
    have B3 : Hid (Below W.heap.size W (w3.alloc (.cells #[.int .i64 z3, .slice x3 m3 d3] 38))) := below_then (below_then B2.out hb3) ((Below.refl _ _).alloc (Nat.le_refl _) _)
    generalize hb_ : areS p s2 l2 s3 l3 = bb3 at *
    clear hb3 hb_ q0 q1 q2 q3 q4 q5
    have HZ : Hid (w.heap.size ≤ (w3.alloc (.cells #[.int .i64 z3, .slice x3 m3 d3] 38)).heap.size ∧ Below w.heap.size w ((w3.alloc (.cells #[.int .i64 z3, .slice x3 m3 d3] 38)).alloc (.cells #[] 3))) := ⟨(KEY.out _ B3.out).1.size, (KEY.out _ (below_then B3.out ((Below.refl _ _).alloc (Nat.le_refl _) _))).1⟩
    have HTV : Hid (tripleV p s1 s2 s3 l1 l2 l3 = []) := by show _ = _; unfold tripleV; rw [HALL.out]; rfl
    have hcs : bb1 = false ∨ (bb1 = true ∧ bb2 = false) ∨ (bb1 = true ∧ bb2 = true ∧ bb3 = false) := by
      rcases HNO.out with h | h
      · exact .inl h
      · cases bb1
        · exact .inl rfl
        · cases bb2
          · exact .inr (.inl ⟨rfl, rfl⟩)
          · exact .inr (.inr ⟨rfl, rfl, h⟩)
    clear HNO
    rcases hcs with rfl | ⟨rfl, rfl⟩ | ⟨rfl, rfl, rfl⟩
    all_goals
      go_wp2
      go_ret2
      exact ⟨_, rfl, HZ.out.2, some ⟨w3.heap.size + 1, 0, none⟩, 0, 0, [], by rw [HALL.out]; rfl, by rw [HTV.out]; exact ⟨rfl, Nat.le_refl _, Nat.zero_le _, .inl ⟨rfl, rfl⟩⟩, New.nil _⟩
end Go.Proofs.Ytpngpgbmkkjjgaa

/-
  The walk of the law FnExactTripleNumbers.
-/
import Derived.Test.YtpngpgbmkkjjgaaD12
import Derived.Test.YtpngpgbmkkjjgaaC29
namespace Go.Proofs.Ytpngpgbmkkjjgaa
open Go.RowKit

theorem tripleV_len {p s1 s2 s3 : Int} {l1 l2 l3 : List (List Int)} : (tripleV p s1 s2 s3 l1 l2 l3).length ≤ 8 := by
  unfold tripleV
  split
  · simp [tripleL]
  · simp

set_option maxRecDepth 20000 in
set_option maxHeartbeats 8000000 in
theorem raw_TripleNumbers (p s1 s2 s3 : Int) (a1 a2 a3 : Option Addr) (n1 c1 n2 c2 n3 c3 : Nat) (l1 l2 l3 : List (List Int)) (S1 S2 S3 : List Nat) (w : World) (hp : fits p) (h1 : SliceRd Shp.ints w a1 n1 c1 l1 S1) (h2 : SliceRd Shp.ints w a2 n2 c2 l2 S2) (h3 : SliceRd Shp.ints w a3 n3 c3 l3 S3) :
    Calls Try.prog 7 #[.int .i64 p, .agg #[.int .i64 s1, .slice a1 n1 c1], .agg #[.int .i64 s2, .slice a2 n2 c2], .agg #[.int .i64 s3, .slice a3 n3 c3]] w fun e w' => e = .returned (.bool true) ∧ Below w.heap.size w w' := by
  have b0 := (Below.refl w.heap.size w).alloc (Nat.le_refl _) (.cells #[.int .i64 s1, .slice a1 n1 c1] 35)
  have b1 := (Below.refl _ (w.alloc (.cells #[.int .i64 s1, .slice a1 n1 c1] 35))).alloc (Nat.le_refl _) (.cells #[.int .i64 s2, .slice a2 n2 c2] 35)
  have b2 := (Below.refl _ ((w.alloc (.cells #[.int .i64 s1, .slice a1 n1 c1] 35)).alloc (.cells #[.int .i64 s2, .slice a2 n2 c2] 35))).alloc (Nat.le_refl _) (.cells #[.int .i64 s3, .slice a3 n3 c3] 35)
  have t1 := At.alloc (w.alloc (.cells #[.int .i64 s1, .slice a1 n1 c1] 35)) #[.int .i64 s2, .slice a2 n2 c2] 35
  have t2 := At.alloc ((w.alloc (.cells #[.int .i64 s1, .slice a1 n1 c1] 35)).alloc (.cells #[.int .i64 s2, .slice a2 n2 c2] 35)) #[.int .i64 s3, .slice a3 n3 c3] 35
  rw [World.size_alloc] at t1
  rw [World.size_alloc, World.size_alloc] at t2
  have KEY : Hid (∀ wr, Below (((w.alloc (.cells #[.int .i64 s1, .slice a1 n1 c1] 35)).alloc (.cells #[.int .i64 s2, .slice a2 n2 c2] 35)).alloc (.cells #[.int .i64 s3, .slice a3 n3 c3] 35)).heap.size (((w.alloc (.cells #[.int .i64 s1, .slice a1 n1 c1] 35)).alloc (.cells #[.int .i64 s2, .slice a2 n2 c2] 35)).alloc (.cells #[.int .i64 s3, .slice a3 n3 c3] 35)) wr →
      Below w.heap.size w wr ∧ At wr w.heap.size 0 [.int .i64 s1, .slice a1 n1 c1] ∧ At wr (w.heap.size + 1) 0 [.int .i64 s2, .slice a2 n2 c2] ∧ At wr (w.heap.size + 1 + 1) 0 [.int .i64 s3, .slice a3 n3 c3] ∧ SliceRd Shp.ints wr a1 n1 c1 l1 S1 ∧ SliceRd Shp.ints wr a2 n2 c2 l2 S2 ∧ SliceRd Shp.ints wr a3 n3 c3 l3 S3 ∧ w.heap.size + 3 ≤ wr.heap.size) := by
    intro wr hb
    have hbw := below_then (below_then (below_then b0 b1) b2) hb
    exact ⟨hbw, (((At.alloc w _ _).keep (b1.block _ (by simp))).keep (b2.block _ (by simp; omega))).keep (hb.block _ (by simp; omega)), (t1.keep (b2.block _ (by simp))).keep (hb.block _ (by simp)), t2.keep (hb.block _ (by simp)), h1.below Shp.ints_good hbw, h2.below Shp.ints_good hbw, h3.below Shp.ints_good hbw, by have := hb.size; simp at this; omega⟩
  have HP := Lib.hid hp
  clear b0 b1 b2 t1 t2 h1 h2 h3 hp
  have K0 := KEY.out _ (Below.refl _ _)
  have q0 := K0.2.1.c0
  have q1 := K0.2.1.c1
  have q2 := K0.2.2.1.c0
  have q3 := K0.2.2.1.c1
  have q4 := K0.2.2.2.1.c0
  have q5 := K0.2.2.2.1.c1
  clear K0
  go_enter Try.func7, Try.ntmps7
  have HS1 := Lib.hid (c_szSpace s1 a1 n1 c1 l1 S1 1048576 (((w.alloc (.cells #[.int .i64 s1, .slice a1 n1 c1] 35)).alloc (.cells #[.int .i64 s2, .slice a2 n2 c2] 35)).alloc (.cells #[.int .i64 s3, .slice a3 n3 c3] 35)) (KEY.out _ (Below.refl _ _)).2.2.2.2.1 (by omega) (by omega))
  go_wp2_with fail
  generalize ((w.alloc (.cells #[.int .i64 s1, .slice a1 n1 c1] 35)).alloc (.cells #[.int .i64 s2, .slice a2 n2 c2] 35)).alloc (.cells #[.int .i64 s3, .slice a3 n3 c3] 35) = W at *
  refine HS1.out.mono ?_
  rintro e t1 ⟨v, rfl, hb, z1, rfl, hz1, hz1'⟩
  have C1 : Hid (Below W.heap.size W t1) := hb
  have K1 := KEY.out _ C1.out
  have q0 := K1.2.1.c0
  have q1 := K1.2.1.c1
  have q2 := K1.2.2.1.c0
  have q3 := K1.2.2.1.c1
  have q4 := K1.2.2.2.1.c0
  have q5 := K1.2.2.2.1.c1
  clear hb K1 HS1
  by_cases hn1 : z1 < 0
  · clear hz1 hz1'
    go_wp2
    go_ret
    exact ⟨rfl, (KEY.out _ C1.out).1⟩
  have hzz1 : z1 = szSS l1 1048576 := by rcases hz1 with h | h; omega; exact h
  have hsp1 := szSS_pos (l := l1) (left := 1048576) (by omega)
  have HB1 : Hid (n1 ≤ 1048576 ∧ ∀ v ∈ l1, v.length ≤ 1048576) := ⟨by have h := (KEY.out _ C1.out).2.2.2.2.1.1; have := hsp1.1; omega, fun v hv => by have := hsp1.2.1 v hv; omega⟩
  have hle1 : z1 ≤ 1048576 := by have := hsp1.2.2; omega
  clear hz1 hz1' hzz1 hsp1
  have HS2 := Lib.hid (c_szSpace s2 a2 n2 c2 l2 S2 z1 t1 (KEY.out _ C1.out).2.2.2.2.2.1 (by omega) (by omega))
  go_wp2_with fail
  refine HS2.out.mono ?_
  rintro e t2 ⟨v, rfl, hb, z2, rfl, hz2, hz2'⟩
  have C2 : Hid (Below W.heap.size W t2) := below_then C1.out hb
  have K2 := KEY.out _ C2.out
  have q0 := K2.2.1.c0
  have q1 := K2.2.1.c1
  have q2 := K2.2.2.1.c0
  have q3 := K2.2.2.1.c1
  have q4 := K2.2.2.2.1.c0
  have q5 := K2.2.2.2.1.c1
  clear hb K2 HS2
  by_cases hn2 : z2 < 0
  · clear hz2 hz2'
    go_wp2
    go_ret
    exact ⟨rfl, (KEY.out _ C2.out).1⟩
  have hzz2 : z2 = szSS l2 z1 := by rcases hz2 with h | h; omega; exact h
  have hsp2 := szSS_pos (l := l2) (left := z1) (by omega)
  have HB2 : Hid (n2 ≤ 1048576 ∧ ∀ v ∈ l2, v.length ≤ 1048576) := ⟨by have h := (KEY.out _ C2.out).2.2.2.2.2.1.1; have := hsp2.1; omega, fun v hv => by have := hsp2.2.1 v hv; omega⟩
  have hle2 : z2 ≤ 1048576 := by have := hsp2.2.2; omega
  clear hz2 hz2' hzz2 hsp2
  have HS3 := Lib.hid (c_szSpace s3 a3 n3 c3 l3 S3 z2 t2 (KEY.out _ C2.out).2.2.2.2.2.2.1 (by omega) (by omega))
  go_wp2_with fail
  refine HS3.out.mono ?_
  rintro e t3 ⟨v, rfl, hb, z3, rfl, hz3, hz3'⟩
  have C3 : Hid (Below W.heap.size W t3) := below_then C2.out hb
  have K3 := KEY.out _ C3.out
  have q0 := K3.2.1.c0
  have q1 := K3.2.1.c1
  have q2 := K3.2.2.1.c0
  have q3 := K3.2.2.1.c1
  have q4 := K3.2.2.2.1.c0
  have q5 := K3.2.2.2.1.c1
  clear hb K3 HS3
  by_cases hn3 : z3 < 0
  · clear hz3 hz3'
    go_wp2
    go_ret
    exact ⟨rfl, (KEY.out _ C3.out).1⟩
  have hzz3 : z3 = szSS l3 z2 := by rcases hz3 with h | h; omega; exact h
  have hsp3 := szSS_pos (l := l3) (left := z2) (by omega)
  have HB3 : Hid (n3 ≤ 1048576 ∧ ∀ v ∈ l3, v.length ≤ 1048576) := ⟨by have h := (KEY.out _ C3.out).2.2.2.2.2.2.1.1; have := hsp3.1; omega, fun v hv => by have := hsp3.2.1 v hv; omega⟩
  have hle3 : z3 ≤ 1048576 := by have := hsp3.2.2; omega
  clear hz3 hz3' hzz3 hsp3

  obtain ⟨TV, hTV⟩ : ∃ TV, TV = tripleV p s1 s2 s3 l1 l2 l3 := ⟨_, rfl⟩
  obtain ⟨TB, hTB⟩ : ∃ TB, TB = areS3 p s1 s2 s3 l1 l2 l3 := ⟨_, rfl⟩
  have HTV := Lib.hid hTV
  have HTB := Lib.hid hTB
  have HTL : Hid (TV.length ≤ 8) := by rw [hTV]; exact tripleV_len
  clear hTV hTB
  have BD : Hid (Below W.heap.size W t3.drew) := below_dr C3.out
  have HELD : Hid (∀ w', Below W.heap.size W w' → w'.cell? ⟨w.heap.size, 0, none⟩ = some (.int .i64 s1) ∧ w'.cell? ⟨w.heap.size, 1, none⟩ = some (.slice a1 n1 c1) ∧ w'.cell? ⟨w.heap.size + 1, 0, none⟩ = some (.int .i64 s2) ∧ w'.cell? ⟨w.heap.size + 1, 1, none⟩ = some (.slice a2 n2 c2) ∧ w'.cell? ⟨w.heap.size + 1 + 1, 0, none⟩ = some (.int .i64 s3) ∧ w'.cell? ⟨w.heap.size + 1 + 1, 1, none⟩ = some (.slice a3 n3 c3)) :=
    fun w' hb => ⟨(KEY.out _ hb).2.1.c0, (KEY.out _ hb).2.1.c1, (KEY.out _ hb).2.2.1.c0, (KEY.out _ hb).2.2.1.c1, (KEY.out _ hb).2.2.2.1.c0, (KEY.out _ hb).2.2.2.1.c1⟩
  have C1b := Lib.hid (c_toSpace s1 a1 n1 c1 l1 S1 t3.drew (KEY.out _ BD.out).2.2.2.2.1 HB1.out.1 HB1.out.2)
  go_wp2
  clear q0 q1 q2 q3 q4 q5
  go_region_held3 (fun w' => w'.cell? ⟨w.heap.size, 0, none⟩ = some (.int .i64 s1) ∧ w'.cell? ⟨w.heap.size, 1, none⟩ = some (.slice a1 n1 c1) ∧ w'.cell? ⟨w.heap.size + 1, 0, none⟩ = some (.int .i64 s2) ∧ w'.cell? ⟨w.heap.size + 1, 1, none⟩ = some (.slice a2 n2 c2) ∧ w'.cell? ⟨w.heap.size + 1 + 1, 0, none⟩ = some (.int .i64 s3) ∧ w'.cell? ⟨w.heap.size + 1 + 1, 1, none⟩ = some (.slice a3 n3 c3))
    (exact HELD.out _ (Hid.out (by assumption)))
    (first
      | (go_at_call 18; first
          | ((with_reducible refine Calls.mono (c_toSpace s1 a1 n1 c1 l1 S1 t3.drew (KEY.out _ BD.out).2.2.2.2.1 HB1.out.1 HB1.out.2) ?_); rintro e t4 ⟨v, rfl, hb', x1, m1, d1, T1, rfl, r1, -⟩; have C4 : Hid (Below W.heap.size W t4) := below_then BD.out hb'; have R1 := Lib.hid r1; clear hb' r1)
          | ((with_reducible refine Calls.mono (c_toSpace s2 a2 n2 c2 l2 S2 t4 (KEY.out _ C4.out).2.2.2.2.2.1 HB2.out.1 HB2.out.2) ?_); rintro e t5 ⟨v, rfl, hb', x2, m2, d2, T2, rfl, r2, -⟩; have C5 : Hid (Below W.heap.size W t5) := below_then C4.out hb'; have R2 := Lib.hid r2; have R12 := Lib.hid (R1.out.below Shp.ints_good hb'); clear hb' r2)
          | ((with_reducible refine Calls.mono (c_toSpace s3 a3 n3 c3 l3 S3 t5 (KEY.out _ C5.out).2.2.2.2.2.2.1 HB3.out.1 HB3.out.2) ?_); rintro e t6 ⟨v, rfl, hb', x3, m3, d3, T3, rfl, r3, -⟩; have C6 : Hid (Below W.heap.size W t6) := below_then C5.out hb'; have R3 := Lib.hid r3; have R13 := Lib.hid (R12.out.below Shp.ints_good hb'); have R23 := Lib.hid (R2.out.below Shp.ints_good hb'); clear hb' r3))
      | (go_at_call 28; refine Calls.mono (c_spec_TripleNumbers p s1 s2 s3 x1 x2 x3 m1 d1 m2 d2 m3 d3 l1 l2 l3 T1 T2 T3 t6 HP.out R13.out R23.out R3.out) ?_; rintro e t7 ⟨v, rfl, hb', aw, nw, cw, Sw, rfl, rw0, nww⟩; have C7 : Hid (Below W.heap.size W t7) := below_then C6.out hb'; rw [← HTV.out] at rw0; have RW7 := Lib.hid rw0; rw [← HTB.out]; clear hb' rw0 nww))
  have K7 := KEY.out _ C7.out
  have q0 := K7.2.1.c0
  have q1 := K7.2.1.c1
  have q2 := K7.2.2.1.c0
  have q3 := K7.2.2.1.c1
  have q4 := K7.2.2.2.1.c0
  have q5 := K7.2.2.2.1.c1
  clear K7
  go_wp2_with fail
  refine (c_toSpace s1 a1 n1 c1 l1 S1 _ (KEY.out _ C7.out).2.2.2.2.1 HB1.out.1 HB1.out.2).mono ?_
  clear C1b R1 R2 R3 R12 R13 R23
  rintro e u1 ⟨v, rfl, hb1, x1, m1, d1, T1, rfl, r1, nw1⟩
  have Q1 : Hid (Below t7.heap.size t7 (u1.alloc (.cells #[.int .i64 s1, .slice x1 m1 d1] 38))) := below_then hb1 ((Below.refl _ _).alloc (Nat.le_refl _) _)
  have N1 := Lib.hid (And.intro nw1 (And.intro (r1.lt Shp.ints_good) hb1.size))
  clear nw1
  have B1 : Hid (Below W.heap.size W (u1.alloc (.cells #[.int .i64 s1, .slice x1 m1 d1] 38))) := below_then (below_then C7.out hb1) ((Below.refl _ _).alloc (Nat.le_refl _) _)
  have P1 : Hid (∀ wr, Below (u1.alloc (.cells #[.int .i64 s1, .slice x1 m1 d1] 38)).heap.size (u1.alloc (.cells #[.int .i64 s1, .slice x1 m1 d1] 38)) wr → At wr u1.heap.size 0 [.int .i64 s1, .slice x1 m1 d1] ∧ SliceRd Shp.ints wr x1 m1 d1 l1 T1) := by
    intro wr hb
    exact ⟨(At.alloc u1 _ _).keep (hb.block _ (by simp)), (r1.below Shp.ints_good ((Below.refl _ _).alloc (Nat.le_refl _) _)).below Shp.ints_good hb⟩
  have L11 : Hid (Below (u1.alloc (.cells #[.int .i64 s1, .slice x1 m1 d1] 38)).heap.size (u1.alloc (.cells #[.int .i64 s1, .slice x1 m1 d1] 38)) (u1.alloc (.cells #[.int .i64 s1, .slice x1 m1 d1] 38))) := Below.refl _ _
  have K1 := KEY.out _ B1.out
  have q0 := K1.2.1.c0
  have q1 := K1.2.1.c1
  have q2 := K1.2.2.1.c0
  have q3 := K1.2.2.1.c1
  have q4 := K1.2.2.2.1.c0
  have q5 := K1.2.2.2.1.c1
  have y10 := (P1.out _ L11.out).1.c0
  have y11 := (P1.out _ L11.out).1.c1
  clear hb1 K1 r1
  go_wp2_with fail
  refine (c_toSpace s2 a2 n2 c2 l2 S2 _ (KEY.out _ B1.out).2.2.2.2.2.1 HB2.out.1 HB2.out.2).mono ?_
  rintro e u2 ⟨v, rfl, hb2, x2, m2, d2, T2, rfl, r2, nw2⟩
  have Q2 : Hid (Below t7.heap.size t7 (u2.alloc (.cells #[.int .i64 s2, .slice x2 m2 d2] 38))) := below_then (below_then Q1.out hb2) ((Below.refl _ _).alloc (Nat.le_refl _) _)
  have N2 := Lib.hid (And.intro nw2 (And.intro (r2.lt Shp.ints_good) hb2.size))
  clear nw2
  have B2 : Hid (Below W.heap.size W (u2.alloc (.cells #[.int .i64 s2, .slice x2 m2 d2] 38))) := below_then (below_then B1.out hb2) ((Below.refl _ _).alloc (Nat.le_refl _) _)
  have P2 : Hid (∀ wr, Below (u2.alloc (.cells #[.int .i64 s2, .slice x2 m2 d2] 38)).heap.size (u2.alloc (.cells #[.int .i64 s2, .slice x2 m2 d2] 38)) wr → At wr u2.heap.size 0 [.int .i64 s2, .slice x2 m2 d2] ∧ SliceRd Shp.ints wr x2 m2 d2 l2 T2) := by
    intro wr hb
    exact ⟨(At.alloc u2 _ _).keep (hb.block _ (by simp)), (r2.below Shp.ints_good ((Below.refl _ _).alloc (Nat.le_refl _) _)).below Shp.ints_good hb⟩
  have L22 : Hid (Below (u2.alloc (.cells #[.int .i64 s2, .slice x2 m2 d2] 38)).heap.size (u2.alloc (.cells #[.int .i64 s2, .slice x2 m2 d2] 38)) (u2.alloc (.cells #[.int .i64 s2, .slice x2 m2 d2] 38))) := Below.refl _ _
  have L12 : Hid (Below (u1.alloc (.cells #[.int .i64 s1, .slice x1 m1 d1] 38)).heap.size (u1.alloc (.cells #[.int .i64 s1, .slice x1 m1 d1] 38)) (u2.alloc (.cells #[.int .i64 s2, .slice x2 m2 d2] 38))) := below_then (below_then L11.out hb2) ((Below.refl _ _).alloc (Nat.le_refl _) _)
  have K2 := KEY.out _ B2.out
  have q0 := K2.2.1.c0
  have q1 := K2.2.1.c1
  have q2 := K2.2.2.1.c0
  have q3 := K2.2.2.1.c1
  have q4 := K2.2.2.2.1.c0
  have q5 := K2.2.2.2.1.c1
  have y10 := (P1.out _ L12.out).1.c0
  have y11 := (P1.out _ L12.out).1.c1
  have y20 := (P2.out _ L22.out).1.c0
  have y21 := (P2.out _ L22.out).1.c1
  clear hb2 K2 r2
  go_wp2_with fail
  refine (c_toSpace s3 a3 n3 c3 l3 S3 _ (KEY.out _ B2.out).2.2.2.2.2.2.1 HB3.out.1 HB3.out.2).mono ?_
  rintro e u3 ⟨v, rfl, hb3, x3, m3, d3, T3, rfl, r3, nw3⟩
  have Q3 : Hid (Below t7.heap.size t7 (u3.alloc (.cells #[.int .i64 s3, .slice x3 m3 d3] 38))) := below_then (below_then Q2.out hb3) ((Below.refl _ _).alloc (Nat.le_refl _) _)
  have N3 := Lib.hid (And.intro nw3 (And.intro (r3.lt Shp.ints_good) hb3.size))
  clear nw3
  have B3 : Hid (Below W.heap.size W (u3.alloc (.cells #[.int .i64 s3, .slice x3 m3 d3] 38))) := below_then (below_then B2.out hb3) ((Below.refl _ _).alloc (Nat.le_refl _) _)
  have P3 : Hid (∀ wr, Below (u3.alloc (.cells #[.int .i64 s3, .slice x3 m3 d3] 38)).heap.size (u3.alloc (.cells #[.int .i64 s3, .slice x3 m3 d3] 38)) wr → At wr u3.heap.size 0 [.int .i64 s3, .slice x3 m3 d3] ∧ SliceRd Shp.ints wr x3 m3 d3 l3 T3) := by
    intro wr hb
    exact ⟨(At.alloc u3 _ _).keep (hb.block _ (by simp)), (r3.below Shp.ints_good ((Below.refl _ _).alloc (Nat.le_refl _) _)).below Shp.ints_good hb⟩
  have L33 : Hid (Below (u3.alloc (.cells #[.int .i64 s3, .slice x3 m3 d3] 38)).heap.size (u3.alloc (.cells #[.int .i64 s3, .slice x3 m3 d3] 38)) (u3.alloc (.cells #[.int .i64 s3, .slice x3 m3 d3] 38))) := Below.refl _ _
  have L13 : Hid (Below (u1.alloc (.cells #[.int .i64 s1, .slice x1 m1 d1] 38)).heap.size (u1.alloc (.cells #[.int .i64 s1, .slice x1 m1 d1] 38)) (u3.alloc (.cells #[.int .i64 s3, .slice x3 m3 d3] 38))) := below_then (below_then L12.out hb3) ((Below.refl _ _).alloc (Nat.le_refl _) _)
  have L23 : Hid (Below (u2.alloc (.cells #[.int .i64 s2, .slice x2 m2 d2] 38)).heap.size (u2.alloc (.cells #[.int .i64 s2, .slice x2 m2 d2] 38)) (u3.alloc (.cells #[.int .i64 s3, .slice x3 m3 d3] 38))) := below_then (below_then L22.out hb3) ((Below.refl _ _).alloc (Nat.le_refl _) _)
  have K3 := KEY.out _ B3.out
  have q0 := K3.2.1.c0
  have q1 := K3.2.1.c1
  have q2 := K3.2.2.1.c0
  have q3 := K3.2.2.1.c1
  have q4 := K3.2.2.2.1.c0
  have q5 := K3.2.2.2.1.c1
  have y10 := (P1.out _ L13.out).1.c0
  have y11 := (P1.out _ L13.out).1.c1
  have y20 := (P2.out _ L23.out).1.c0
  have y21 := (P2.out _ L23.out).1.c1
  have y30 := (P3.out _ L33.out).1.c0
  have y31 := (P3.out _ L33.out).1.c1
  clear hb3 K3 r3
  have HI := Lib.hid (c_impl_TripleNumbers p s1 s2 s3 x1 x2 x3 m1 d1 m2 d2 m3 d3 l1 l2 l3 T1 T2 T3 _ HP.out (P1.out _ L13.out).2 (P2.out _ L23.out).2 (P3.out _ L33.out).2)
  go_wp2_with fail
  refine HI.out.mono ?_
  rintro e U ⟨v, rfl, hbU, ag, ng, cg, Sg, rfl, rg, nwg⟩
  rw [← HTV.out] at rg
  rw [← HTB.out]
  have RG := Lib.hid rg
  have RW : Hid (SliceRd Shp.int U aw nw cw TV Sw) := RW7.out.below Shp.int_good (below_then Q3.out hbU)
  have ORD : Hid ((∀ b ∈ Sw, b < t7.heap.size) ∧ (∀ b ∈ T1, t7.heap.size ≤ b ∧ b < u1.heap.size) ∧ (∀ b ∈ T2, u1.heap.size + 1 ≤ b ∧ b < u2.heap.size) ∧ (∀ b ∈ T3, u2.heap.size + 1 ≤ b ∧ b < u3.heap.size) ∧ (∀ b ∈ Sg, u3.heap.size + 1 ≤ b) ∧ W.heap.size ≤ t7.heap.size ∧ t7.heap.size ≤ u1.heap.size ∧ u1.heap.size + 1 ≤ u2.heap.size ∧ u2.heap.size + 1 ≤ u3.heap.size ∧ u3.heap.size + 1 ≤ U.heap.size) := by
    have g1 := N1.out.1.2
    have g2 := N2.out.1.2
    have g3 := N3.out.1.2
    have g4 := N1.out.2.2
    have g5 := N2.out.2.2
    have g6 := N3.out.2.2
    have g7 := nwg.2
    have g8 := hbU.size
    simp only [World.size_alloc] at g1 g2 g3 g4 g5 g6 g7 g8
    exact ⟨RW7.out.lt Shp.int_good, fun b hb => ⟨g1 b hb, N1.out.2.1 b hb⟩, fun b hb => ⟨g2 b hb, N2.out.2.1 b hb⟩, fun b hb => ⟨g3 b hb, N3.out.2.1 b hb⟩, g7, C7.out.size, g4, g5, g6, g8⟩
  have LU : Hid (Below W.heap.size W U) := below_then B3.out hbU
  have L1U : Hid (Below _ _ U) := below_then L13.out hbU
  have L2U : Hid (Below _ _ U) := below_then L23.out hbU
  have L3U : Hid (Below _ _ U) := below_then L33.out hbU
  have LUU : Hid (Below U.heap.size U U) := Below.refl _ _
  have hneq : (TB != TB) = false := by simp
  clear hbU q0 q1 q2 q3 q4 q5 y10 y11 y20 y21 y30 y31 HI rg nwg RW7 Q1 Q2 Q3
  have HEQ := Lib.hid (c_eqIntS_same ag ng cg TV aw nw cw U RG.out.row RW.out.row)
  go_wp2_with fail
  refine HEQ.out.mono ?_
  rintro e U0 ⟨rfl, j0, hU0⟩
  have BU0 : Hid (Below U.heap.size U U0) := by rw [hU0]; exact below_drewN j0 (Below.refl _ _)
  clear hU0 HEQ
  have G1 : Hid (∀ w', Below U.heap.size U w' → Below W.heap.size W w' ∧ (∀ k', k' = 1 → True)) := fun w' hb => ⟨below_then LU.out hb, fun _ _ => trivial⟩
  have HELD1 : Hid (∀ w', Below U.heap.size U w' → w'.cell? ⟨u1.heap.size, 0, none⟩ = some (.int .i64 s1) ∧ w'.cell? ⟨u1.heap.size, 1, none⟩ = some (.slice x1 m1 d1) ∧ w'.cell? ⟨w.heap.size, 0, none⟩ = some (.int .i64 s1) ∧ w'.cell? ⟨w.heap.size, 1, none⟩ = some (.slice a1 n1 c1)) :=
    fun w' hb => ⟨(P1.out _ (below_then L1U.out hb)).1.c0, (P1.out _ (below_then L1U.out hb)).1.c1, (KEY.out _ (below_then LU.out hb)).2.1.c0, (KEY.out _ (below_then LU.out hb)).2.1.c1⟩
  have BD1 : Hid (Below U.heap.size U U0.drew) := below_dr BU0.out
  go_wp2
  go_region_held3 (fun w' => w'.cell? ⟨u1.heap.size, 0, none⟩ = some (.int .i64 s1) ∧ w'.cell? ⟨u1.heap.size, 1, none⟩ = some (.slice x1 m1 d1) ∧ w'.cell? ⟨w.heap.size, 0, none⟩ = some (.int .i64 s1) ∧ w'.cell? ⟨w.heap.size, 1, none⟩ = some (.slice a1 n1 c1))
    (exact HELD1.out _ (Hid.out (by assumption)))
    (first
      | (go_at_call 18; refine Calls.mono (c_toSpace s1 a1 n1 c1 l1 S1 U0.drew (KEY.out _ (below_then LU.out BD1.out)).2.2.2.2.1 HB1.out.1 HB1.out.2) ?_; rintro e v11 ⟨v, rfl, hb', xx1, mm1, dd1, TT1, rfl, rr1, -⟩; have BE1 : Hid (Below U.heap.size U v11) := below_then BD1.out hb'; have RR1 := Lib.hid rr1; clear hb' rr1)
      | (go_at_call 20; refine Calls.mono (c_eqSpace_same s1 x1 m1 d1 l1 T1 xx1 mm1 dd1 TT1 v11 (P1.out _ (below_then L1U.out BE1.out)).2 RR1.out) ?_; rintro e V1 ⟨v, rfl, hb', rfl⟩; have BF1 : Hid (Below U.heap.size U V1) := below_then BE1.out hb'; clear hb'))
  have G2 : Hid (∀ w', Below U.heap.size U w' → Below W.heap.size W w' ∧ (∀ k', k' = 2 → True)) := fun w' hb => ⟨below_then LU.out hb, fun _ _ => trivial⟩
  have HELD2 : Hid (∀ w', Below U.heap.size U w' → w'.cell? ⟨u2.heap.size, 0, none⟩ = some (.int .i64 s2) ∧ w'.cell? ⟨u2.heap.size, 1, none⟩ = some (.slice x2 m2 d2) ∧ w'.cell? ⟨w.heap.size + 1, 0, none⟩ = some (.int .i64 s2) ∧ w'.cell? ⟨w.heap.size + 1, 1, none⟩ = some (.slice a2 n2 c2)) :=
    fun w' hb => ⟨(P2.out _ (below_then L2U.out hb)).1.c0, (P2.out _ (below_then L2U.out hb)).1.c1, (KEY.out _ (below_then LU.out hb)).2.2.1.c0, (KEY.out _ (below_then LU.out hb)).2.2.1.c1⟩
  have BD2 : Hid (Below U.heap.size U V1.drew) := below_dr BF1.out
  go_wp2
  go_region_held3 (fun w' => w'.cell? ⟨u2.heap.size, 0, none⟩ = some (.int .i64 s2) ∧ w'.cell? ⟨u2.heap.size, 1, none⟩ = some (.slice x2 m2 d2) ∧ w'.cell? ⟨w.heap.size + 1, 0, none⟩ = some (.int .i64 s2) ∧ w'.cell? ⟨w.heap.size + 1, 1, none⟩ = some (.slice a2 n2 c2))
    (exact HELD2.out _ (Hid.out (by assumption)))
    (first
      | (go_at_call 18; refine Calls.mono (c_toSpace s2 a2 n2 c2 l2 S2 V1.drew (KEY.out _ (below_then LU.out BD2.out)).2.2.2.2.2.1 HB2.out.1 HB2.out.2) ?_; rintro e v21 ⟨v, rfl, hb', xx2, mm2, dd2, TT2, rfl, rr2, -⟩; have BE2 : Hid (Below U.heap.size U v21) := below_then BD2.out hb'; have RR2 := Lib.hid rr2; clear hb' rr2)
      | (go_at_call 20; refine Calls.mono (c_eqSpace_same s2 x2 m2 d2 l2 T2 xx2 mm2 dd2 TT2 v21 (P2.out _ (below_then L2U.out BE2.out)).2 RR2.out) ?_; rintro e V2 ⟨v, rfl, hb', rfl⟩; have BF2 : Hid (Below U.heap.size U V2) := below_then BE2.out hb'; clear hb'))
  have G3 : Hid (∀ w', Below U.heap.size U w' → Below W.heap.size W w' ∧ (∀ k', k' = 3 → True)) := fun w' hb => ⟨below_then LU.out hb, fun _ _ => trivial⟩
  have HELD3 : Hid (∀ w', Below U.heap.size U w' → w'.cell? ⟨u3.heap.size, 0, none⟩ = some (.int .i64 s3) ∧ w'.cell? ⟨u3.heap.size, 1, none⟩ = some (.slice x3 m3 d3) ∧ w'.cell? ⟨w.heap.size + 1 + 1, 0, none⟩ = some (.int .i64 s3) ∧ w'.cell? ⟨w.heap.size + 1 + 1, 1, none⟩ = some (.slice a3 n3 c3)) :=
    fun w' hb => ⟨(P3.out _ (below_then L3U.out hb)).1.c0, (P3.out _ (below_then L3U.out hb)).1.c1, (KEY.out _ (below_then LU.out hb)).2.2.2.1.c0, (KEY.out _ (below_then LU.out hb)).2.2.2.1.c1⟩
  have BD3 : Hid (Below U.heap.size U V2.drew) := below_dr BF2.out
  go_wp2
  go_region_held3 (fun w' => w'.cell? ⟨u3.heap.size, 0, none⟩ = some (.int .i64 s3) ∧ w'.cell? ⟨u3.heap.size, 1, none⟩ = some (.slice x3 m3 d3) ∧ w'.cell? ⟨w.heap.size + 1 + 1, 0, none⟩ = some (.int .i64 s3) ∧ w'.cell? ⟨w.heap.size + 1 + 1, 1, none⟩ = some (.slice a3 n3 c3))
    (exact HELD3.out _ (Hid.out (by assumption)))
    (first
      | (go_at_call 18; refine Calls.mono (c_toSpace s3 a3 n3 c3 l3 S3 V2.drew (KEY.out _ (below_then LU.out BD3.out)).2.2.2.2.2.2.1 HB3.out.1 HB3.out.2) ?_; rintro e v31 ⟨v, rfl, hb', xx3, mm3, dd3, TT3, rfl, rr3, -⟩; have BE3 : Hid (Below U.heap.size U v31) := below_then BD3.out hb'; have RR3 := Lib.hid rr3; clear hb' rr3)
      | (go_at_call 20; refine Calls.mono (c_eqSpace_same s3 x3 m3 d3 l3 T3 xx3 mm3 dd3 TT3 v31 (P3.out _ (below_then L3U.out BE3.out)).2 RR3.out) ?_; rintro e V3 ⟨v, rfl, hb', rfl⟩; have BF3 : Hid (Below U.heap.size U V3) := below_then BE3.out hb'; clear hb'))
  have VW : Hid (Below W.heap.size W V3) := below_then LU.out BF3.out
  have HM1 : Hid (m1 ≤ 1048576) := by have h := (P1.out _ (below_then L1U.out BF3.out)).2.1; have h' := (KEY.out _ VW.out).2.2.2.2.1.1; have := HB1.out.1; show _ ≤ _; omega
  have HM2 : Hid (m2 ≤ 1048576) := by have h := (P2.out _ (below_then L2U.out BF3.out)).2.1; have h' := (KEY.out _ VW.out).2.2.2.2.2.1.1; have := HB2.out.1; show _ ≤ _; omega
  have HM3 : Hid (m3 ≤ 1048576) := by have h := (P3.out _ (below_then L3U.out BF3.out)).2.1; have h' := (KEY.out _ VW.out).2.2.2.2.2.2.1.1; have := HB3.out.1; show _ ≤ _; omega
  have A1 : Hid (At V3 u1.heap.size 0 [.int .i64 s1, .slice x1 m1 d1] ∧ SliceRd Shp.ints V3 x1 m1 d1 l1 T1) := P1.out _ (below_then L1U.out BF3.out)
  have STV : Hid (At V3 u2.heap.size 0 [.int .i64 s2, .slice x2 m2 d2] ∧ At V3 u3.heap.size 0 [.int .i64 s3, .slice x3 m3 d3] ∧ SliceRd Shp.ints V3 x2 m2 d2 l2 T2 ∧ SliceRd Shp.ints V3 x3 m3 d3 l3 T3 ∧ SliceRd Shp.int V3 ag ng cg TV Sg ∧ SliceRd Shp.int V3 aw nw cw TV Sw ∧ Below W.heap.size W V3 ∧ U.heap.size ≤ V3.heap.size) := ⟨(P2.out _ (below_then L2U.out BF3.out)).1, (P3.out _ (below_then L3U.out BF3.out)).1, (P2.out _ (below_then L2U.out BF3.out)).2, (P3.out _ (below_then L3U.out BF3.out)).2, RG.out.below Shp.int_good BF3.out, RW.out.below Shp.int_good BF3.out, VW.out, BF3.out.size⟩
  clear P1 P2 P3 L11 L12 L13 L22 L23 L33 L1U L2U L3U LUU G1 G2 G3 HELD1 HELD2 HELD3 RR1 RR2 RR3 BE1 BE2 BE3 BF1 BF2 BF3 BD1 BD2 BD3 RG RW BU0
  have y10 := A1.out.1.c0
  have y11 := A1.out.1.c1
  have y20 := STV.out.1.c0
  have y21 := STV.out.1.c1
  have y30 := STV.out.2.1.c0
  have y31 := STV.out.2.1.c1
  have HK1 := Lib.hid (c_markSpace s1 x1 m1 d1 l1 T1 1 V3 A1.out.2 N1.out.1.1 (by omega) (by omega) HM1.out HB1.out.2)
  go_wp2_with fail
  refine HK1.out.mono ?_
  rintro e X1 ⟨k1, rfl, hk1, hk1', hF1⟩
  have ST1 : Hid (At X1 u2.heap.size 0 [.int .i64 s2, .slice x2 m2 d2] ∧ At X1 u3.heap.size 0 [.int .i64 s3, .slice x3 m3 d3] ∧ SliceRd Shp.ints X1 x2 m2 d2 l2 T2 ∧ SliceRd Shp.ints X1 x3 m3 d3 l3 T3 ∧ SliceRd Shp.int X1 ag ng cg TV Sg ∧ SliceRd Shp.int X1 aw nw cw TV Sw ∧ Below W.heap.size W X1 ∧ U.heap.size ≤ X1.heap.size) := by
    obtain ⟨o1, o2, o3, o4, o5, o6, o7, o8, o9, o10⟩ := ORD.out
    have sz := STV.out.2.2.2.2.2.2.2
    have hn : ∀ S : List Nat, (∀ b ∈ S, b < t7.heap.size ∨ u1.heap.size ≤ b) → ∀ b ∈ S, b ∉ T1 := fun S h b hb hm => by have := h b hb; have := o2 b hm; omega
    exact ⟨STV.out.1.frm hF1 (by omega) (fun hm => by have := o2 _ hm; omega), STV.out.2.1.frm hF1 (by omega) (fun hm => by have := o2 _ hm; omega),
      STV.out.2.2.1.frm Shp.ints_good hF1 (hn _ fun b hb => by have := o3 b hb; omega), STV.out.2.2.2.1.frm Shp.ints_good hF1 (hn _ fun b hb => by have := o4 b hb; omega),
      STV.out.2.2.2.2.1.frm Shp.int_good hF1 (hn _ fun b hb => by have := o5 b hb; omega), STV.out.2.2.2.2.2.1.frm Shp.int_good hF1 (hn _ fun b hb => .inl (o1 b hb)),
      STV.out.2.2.2.2.2.2.1.trans (hF1.to_below (by omega) (fun b hb => by have := o2 b hb; omega)), Nat.le_trans sz hF1.size⟩
  clear hF1 y10 y11 y20 y21 y30 y31 HK1 STV A1
  have y20 := ST1.out.1.c0
  have y21 := ST1.out.1.c1
  have y30 := ST1.out.2.1.c0
  have y31 := ST1.out.2.1.c1
  have HK2 := Lib.hid (c_markSpace s2 x2 m2 d2 l2 T2 k1 X1 ST1.out.2.2.1 N2.out.1.1 (by omega) (by omega) HM2.out HB2.out.2)
  go_wp2_with fail
  refine HK2.out.mono ?_
  rintro e X2 ⟨k2, rfl, hk2, hk2', hF2⟩
  have ST2 : Hid (At X2 u3.heap.size 0 [.int .i64 s3, .slice x3 m3 d3] ∧ SliceRd Shp.ints X2 x3 m3 d3 l3 T3 ∧ SliceRd Shp.int X2 ag ng cg TV Sg ∧ SliceRd Shp.int X2 aw nw cw TV Sw ∧ Below W.heap.size W X2 ∧ U.heap.size ≤ X2.heap.size) := by
    obtain ⟨o1, o2, o3, o4, o5, o6, o7, o8, o9, o10⟩ := ORD.out
    have sz := ST1.out.2.2.2.2.2.2.2
    have hn : ∀ S : List Nat, (∀ b ∈ S, b < t7.heap.size ∨ u2.heap.size ≤ b) → ∀ b ∈ S, b ∉ T2 := fun S h b hb hm => by have := h b hb; have := o3 b hm; omega
    exact ⟨ST1.out.2.1.frm hF2 (by omega) (fun hm => by have := o3 _ hm; omega),
      ST1.out.2.2.2.1.frm Shp.ints_good hF2 (hn _ fun b hb => by have := o4 b hb; omega),
      ST1.out.2.2.2.2.1.frm Shp.int_good hF2 (hn _ fun b hb => by have := o5 b hb; omega), ST1.out.2.2.2.2.2.1.frm Shp.int_good hF2 (hn _ fun b hb => .inl (o1 b hb)),
      ST1.out.2.2.2.2.2.2.1.trans (hF2.to_below (by omega) (fun b hb => by have := o3 b hb; omega)), Nat.le_trans sz hF2.size⟩
  clear hF2 y20 y21 y30 y31 HK2 ST1
  have y30 := ST2.out.1.c0
  have y31 := ST2.out.1.c1
  have HK3 := Lib.hid (c_markSpace s3 x3 m3 d3 l3 T3 k2 X2 ST2.out.2.1 N3.out.1.1 (by omega) (by omega) HM3.out HB3.out.2)
  go_wp2_with fail
  refine HK3.out.mono ?_
  rintro e X3 ⟨k3, rfl, hk3, hk3', hF3⟩
  have ST3 : Hid (SliceRd Shp.int X3 ag ng cg TV Sg ∧ SliceRd Shp.int X3 aw nw cw TV Sw ∧ Below W.heap.size W X3 ∧ U.heap.size ≤ X3.heap.size) := by
    obtain ⟨o1, o2, o3, o4, o5, o6, o7, o8, o9, o10⟩ := ORD.out
    have sz := ST2.out.2.2.2.2.2
    have hn : ∀ S : List Nat, (∀ b ∈ S, b < t7.heap.size ∨ u3.heap.size ≤ b) → ∀ b ∈ S, b ∉ T3 := fun S h b hb hm => by have := h b hb; have := o4 b hm; omega
    exact ⟨ST2.out.2.2.1.frm Shp.int_good hF3 (hn _ fun b hb => by have := o5 b hb; omega), ST2.out.2.2.2.1.frm Shp.int_good hF3 (hn _ fun b hb => .inl (o1 b hb)),
      ST2.out.2.2.2.2.1.trans (hF3.to_below (by omega) (fun b hb => by have := o4 b hb; omega)), Nat.le_trans sz hF3.size⟩
  clear hF3 y30 y31 HK3 ST2 hk1 hk1' hk2 hk2' hk3'
  have HEQ := Lib.hid (c_eqIntS_same ag ng cg TV aw nw cw X3 ST3.out.1.row ST3.out.2.1.row)
  go_wp2_with fail
  refine HEQ.out.mono ?_
  rintro e X4 ⟨rfl, j4, hX4⟩
  have BX4 : Below X3.heap.size X3 X4 := by rw [hX4]; exact below_drewN j4 (Below.refl _ _)
  have ST4 : Hid (SliceRd Shp.int X4 ag ng cg TV Sg ∧ SliceRd Shp.int X4 aw nw cw TV Sw ∧ Below W.heap.size W X4 ∧ U.heap.size ≤ X4.heap.size) :=
    ⟨ST3.out.1.below Shp.int_good BX4, ST3.out.2.1.below Shp.int_good BX4, below_then ST3.out.2.2.1 BX4, Nat.le_trans ST3.out.2.2.2 BX4.size⟩
  have HNG : Hid (ng ≤ 1048576) := by have h := ST4.out.1.1; have := HTL.out; show _ ≤ _; omega
  clear hX4 HEQ BX4 ST3
  have HMI := Lib.hid (c_markIntS ag ng cg TV Sg 1 X4 ST4.out.1 (by omega) (by omega) HNG.out)
  go_wp2_with fail
  refine HMI.out.mono ?_
  rintro e X5 ⟨rfl, hF5, hM5⟩
  have ST5 : Hid (SliceRd Shp.int X5 ag ng cg (marks 1 ng) Sg ∧ SliceRd Shp.int X5 aw nw cw TV Sw ∧ Below W.heap.size W X5) := by
    obtain ⟨o1, o2, o3, o4, o5, o6, o7, o8, o9, o10⟩ := ORD.out
    have sz := ST4.out.2.2.2
    exact ⟨hM5, ST4.out.2.1.frm Shp.int_good hF5 (fun b hb hm => by have := o1 b hb; have := o5 b hm; omega), ST4.out.2.2.1.trans (hF5.to_below (by omega) (fun b hb => by have := o5 b hb; omega))⟩
  have hnq : ((1 + (ng : Int)) != (1 + (ng : Int))) = false := by simp
  have hpos : ¬ (1 + (ng : Int) < 0) := by omega
  clear hF5 hM5 HMI ST4
  have HH := Lib.hid (c_heldIntS ag ng cg 1 X5 ST5.out.1.row (by omega) (by omega) HNG.out)
  go_wp2_with fail
  refine HH.out.mono ?_
  rintro e X6 ⟨rfl, rfl⟩
  clear HH
  have BD5 : Hid (Below X5.heap.size X5 X5.drew) := below_drew
  have HELD5 : Hid (∀ w', Below X5.heap.size X5 w' → w'.cell? ⟨w.heap.size, 0, none⟩ = some (.int .i64 s1) ∧ w'.cell? ⟨w.heap.size, 1, none⟩ = some (.slice a1 n1 c1) ∧ w'.cell? ⟨w.heap.size + 1, 0, none⟩ = some (.int .i64 s2) ∧ w'.cell? ⟨w.heap.size + 1, 1, none⟩ = some (.slice a2 n2 c2) ∧ w'.cell? ⟨w.heap.size + 1 + 1, 0, none⟩ = some (.int .i64 s3) ∧ w'.cell? ⟨w.heap.size + 1 + 1, 1, none⟩ = some (.slice a3 n3 c3)) :=
    fun w' hb => ⟨(KEY.out _ (below_then ST5.out.2.2 hb)).2.1.c0, (KEY.out _ (below_then ST5.out.2.2 hb)).2.1.c1, (KEY.out _ (below_then ST5.out.2.2 hb)).2.2.1.c0, (KEY.out _ (below_then ST5.out.2.2 hb)).2.2.1.c1, (KEY.out _ (below_then ST5.out.2.2 hb)).2.2.2.1.c0, (KEY.out _ (below_then ST5.out.2.2 hb)).2.2.2.1.c1⟩
  have KX : Hid (∀ w', Below X5.heap.size X5 w' → SliceRd Shp.ints w' a1 n1 c1 l1 S1 ∧ SliceRd Shp.ints w' a2 n2 c2 l2 S2 ∧ SliceRd Shp.ints w' a3 n3 c3 l3 S3) :=
    fun w' hb => ⟨(KEY.out _ (below_then ST5.out.2.2 hb)).2.2.2.2.1, (KEY.out _ (below_then ST5.out.2.2 hb)).2.2.2.2.2.1, (KEY.out _ (below_then ST5.out.2.2 hb)).2.2.2.2.2.2.1⟩
  go_wp2
  go_region_held3 (fun w' => w'.cell? ⟨w.heap.size, 0, none⟩ = some (.int .i64 s1) ∧ w'.cell? ⟨w.heap.size, 1, none⟩ = some (.slice a1 n1 c1) ∧ w'.cell? ⟨w.heap.size + 1, 0, none⟩ = some (.int .i64 s2) ∧ w'.cell? ⟨w.heap.size + 1, 1, none⟩ = some (.slice a2 n2 c2) ∧ w'.cell? ⟨w.heap.size + 1 + 1, 0, none⟩ = some (.int .i64 s3) ∧ w'.cell? ⟨w.heap.size + 1 + 1, 1, none⟩ = some (.slice a3 n3 c3))
    (exact HELD5.out _ (Hid.out (by assumption)))
    (first
      | (go_at_call 18; first
          | ((with_reducible refine Calls.mono (c_toSpace s1 a1 n1 c1 l1 S1 X5.drew (KX.out _ BD5.out).1 HB1.out.1 HB1.out.2) ?_); rintro e e4 ⟨v, rfl, hb', f1, f2, f3, F1, rfl, r1, -⟩; have E4 : Hid (Below X5.heap.size X5 e4) := below_then BD5.out hb'; have R1 := Lib.hid r1; clear hb' r1)
          | ((with_reducible refine Calls.mono (c_toSpace s2 a2 n2 c2 l2 S2 e4 (KX.out _ E4.out).2.1 HB2.out.1 HB2.out.2) ?_); rintro e e5 ⟨v, rfl, hb', g1, g2, g3, F2, rfl, r2, -⟩; have E5 : Hid (Below X5.heap.size X5 e5) := below_then E4.out hb'; have R2 := Lib.hid r2; have R12 := Lib.hid (R1.out.below Shp.ints_good hb'); clear hb' r2)
          | ((with_reducible refine Calls.mono (c_toSpace s3 a3 n3 c3 l3 S3 e5 (KX.out _ E5.out).2.2 HB3.out.1 HB3.out.2) ?_); rintro e e6 ⟨v, rfl, hb', h1, h2, h3, F3, rfl, r3, -⟩; have E6 : Hid (Below X5.heap.size X5 e6) := below_then E5.out hb'; have R3 := Lib.hid r3; have R13 := Lib.hid (R12.out.below Shp.ints_good hb'); have R23 := Lib.hid (R2.out.below Shp.ints_good hb'); clear hb' r3))
      | (go_at_call 29; refine Calls.mono (c_impl_TripleNumbers p s1 s2 s3 f1 g1 h1 f2 f3 g2 g3 h2 h3 l1 l2 l3 F1 F2 F3 e6 HP.out R13.out R23.out R3.out) ?_; rintro e e7 ⟨v, rfl, hb', ah, nh, ch, Sh, rfl, rh, -⟩; have E7 : Hid (Below X5.heap.size X5 e7) := below_then E6.out hb'; rw [← HTV.out] at rh; have RH := Lib.hid rh; rw [← HTB.out]; clear hb' rh))
  have HEQ := Lib.hid (c_eqIntS_same ah nh ch TV aw nw cw e7 RH.out.row (ST5.out.2.1.below Shp.int_good E7.out).row)
  go_wp2_with fail
  refine HEQ.out.mono ?_
  rintro e X7 ⟨rfl, j7, hX7⟩
  have B7 : Hid (Below X5.heap.size X5 X7) := by
    show Below _ _ _
    rw [hX7]
    exact below_then E7.out (below_drewN j7 (Below.refl _ _))
  clear hX7 HEQ
  have HH := Lib.hid (c_heldIntS ag ng cg 1 X7 (ST5.out.1.below Shp.int_good B7.out).row (by omega) (by omega) HNG.out)
  go_wp2_with fail
  refine HH.out.mono ?_
  rintro e X8 ⟨rfl, rfl⟩
  clear HH
  go_wp2
  go_ret
  exact ⟨rfl, (KEY.out _ (below_then ST5.out.2.2 B7.out)).1⟩

theorem walk_TripleNumbers (p : Int) (cs1 : Array Value) (x1 : Spc) (S1 : List Nat) (cs2 : Array Value) (x2 : Spc) (S2 : List Nat) (cs3 : Array Value) (x3 : Spc) (S3 : List Nat) (w : World) (hp : fits p)
    (h1 : Shp.spc.rd w (Value.agg cs1).cells.toList x1 S1) (h2 : Shp.spc.rd w (Value.agg cs2).cells.toList x2 S2) (h3 : Shp.spc.rd w (Value.agg cs3).cells.toList x3 S3) :
    Calls Try.prog 7 #[.int .i64 p, .agg cs1, .agg cs2, .agg cs3] w fun e w' => e = .returned (.bool true) ∧ Below w.heap.size w w' := by
  obtain ⟨a1, n1, c1, e1, -, r1⟩ := h1
  obtain ⟨a2, n2, c2, e2, -, r2⟩ := h2
  obtain ⟨a3, n3, c3, e3, -, r3⟩ := h3
  have e1' : cs1.toList = _ := e1
  have e2' : cs2.toList = _ := e2
  have e3' : cs3.toList = _ := e3
  obtain rfl := arr_of e1'
  obtain rfl := arr_of e2'
  obtain rfl := arr_of e3'
  exact raw_TripleNumbers p _ _ _ a1 a2 a3 n1 c1 n2 c2 n3 c3 _ _ _ S1 S2 S3 w hp r1 r2 r3
end Go.Proofs.Ytpngpgbmkkjjgaa

/-
  The walks of the laws FnExactIsDistributive and FnExactCountIntoGeneral.
-/
import Derived.Test.YtpngpgbmkkjjgaaD11
import Derived.Test.YtpngpgbmkkjjgaaC28
namespace Go.Proofs.Ytpngpgbmkkjjgaa
open Go.RowKit

set_option maxRecDepth 20000 in
set_option maxHeartbeats 8000000 in
theorem raw_IsDistributive (p s1 s2 s3 : Int) (a1 a2 a3 : Option Addr) (n1 c1 n2 c2 n3 c3 : Nat) (l1 l2 l3 : List (List Int)) (S1 S2 S3 : List Nat) (w : World) (hp : fits p) (h1 : SliceRd Shp.ints w a1 n1 c1 l1 S1) (h2 : SliceRd Shp.ints w a2 n2 c2 l2 S2) (h3 : SliceRd Shp.ints w a3 n3 c3 l3 S3) :
    Calls Try.prog 5 #[.int .i64 p, .agg #[.int .i64 s1, .slice a1 n1 c1], .agg #[.int .i64 s2, .slice a2 n2 c2], .agg #[.int .i64 s3, .slice a3 n3 c3]] w fun e w' => e = .returned (.bool true) ∧ Below w.heap.size w w' := by
  have b0 := (Below.refl w.heap.size w).alloc (Nat.le_refl _) (.cells #[.int .i64 s1, .slice a1 n1 c1] 35)
  have b1 := (Below.refl _ (w.alloc (.cells #[.int .i64 s1, .slice a1 n1 c1] 35))).alloc (Nat.le_refl _) (.cells #[.int .i64 s2, .slice a2 n2 c2] 35)
  have b2 := (Below.refl _ ((w.alloc (.cells #[.int .i64 s1, .slice a1 n1 c1] 35)).alloc (.cells #[.int .i64 s2, .slice a2 n2 c2] 35))).alloc (Nat.le_refl _) (.cells #[.int .i64 s3, .slice a3 n3 c3] 35)
  have t1 := At.alloc (w.alloc (.cells #[.int .i64 s1, .slice a1 n1 c1] 35)) #[.int .i64 s2, .slice a2 n2 c2] 35
  have t2 := At.alloc ((w.alloc (.cells #[.int .i64 s1, .slice a1 n1 c1] 35)).alloc (.cells #[.int .i64 s2, .slice a2 n2 c2] 35)) #[.int .i64 s3, .slice a3 n3 c3] 35
  rw [World.size_alloc] at t1
  rw [World.size_alloc, World.size_alloc] at t2
  have KEY : Hid (∀ wr, Below (((w.alloc (.cells #[.int .i64 s1, .slice a1 n1 c1] 35)).alloc (.cells #[.int .i64 s2, .slice a2 n2 c2] 35)).alloc (.cells #[.int .i64 s3, .slice a3 n3 c3] 35)).heap.size (((w.alloc (.cells #[.int .i64 s1, .slice a1 n1 c1] 35)).alloc (.cells #[.int .i64 s2, .slice a2 n2 c2] 35)).alloc (.cells #[.int .i64 s3, .slice a3 n3 c3] 35)) wr →
      Below w.heap.size w wr ∧ At wr w.heap.size 0 [.int .i64 s1, .slice a1 n1 c1] ∧ At wr (w.heap.size + 1) 0 [.int .i64 s2, .slice a2 n2 c2] ∧ At wr (w.heap.size + 1 + 1) 0 [.int .i64 s3, .slice a3 n3 c3] ∧ SliceRd Shp.ints wr a1 n1 c1 l1 S1 ∧ SliceRd Shp.ints wr a2 n2 c2 l2 S2 ∧ SliceRd Shp.ints wr a3 n3 c3 l3 S3 ∧ w.heap.size + 3 ≤ wr.heap.size) := by
    intro wr hb
    have hbw := below_then (below_then (below_then b0 b1) b2) hb
    exact ⟨hbw, (((At.alloc w _ _).keep (b1.block _ (by simp))).keep (b2.block _ (by simp; omega))).keep (hb.block _ (by simp; omega)), (t1.keep (b2.block _ (by simp))).keep (hb.block _ (by simp)), t2.keep (hb.block _ (by simp)), h1.below Shp.ints_good hbw, h2.below Shp.ints_good hbw, h3.below Shp.ints_good hbw, by have := hb.size; simp at this; omega⟩
  have HP := Lib.hid hp
  clear b0 b1 b2 t1 t2 h1 h2 h3 hp
  have K0 := KEY.out _ (Below.refl _ _)
  have q0 := K0.2.1.c0
  have q1 := K0.2.1.c1
  have q2 := K0.2.2.1.c0
  have q3 := K0.2.2.1.c1
  have q4 := K0.2.2.2.1.c0
  have q5 := K0.2.2.2.1.c1
  clear K0
  go_enter Try.func5, Try.ntmps5
  have HS1 := Lib.hid (c_szSpace s1 a1 n1 c1 l1 S1 1048576 (((w.alloc (.cells #[.int .i64 s1, .slice a1 n1 c1] 35)).alloc (.cells #[.int .i64 s2, .slice a2 n2 c2] 35)).alloc (.cells #[.int .i64 s3, .slice a3 n3 c3] 35)) (KEY.out _ (Below.refl _ _)).2.2.2.2.1 (by omega) (by omega))
  go_wp2_with fail
  generalize ((w.alloc (.cells #[.int .i64 s1, .slice a1 n1 c1] 35)).alloc (.cells #[.int .i64 s2, .slice a2 n2 c2] 35)).alloc (.cells #[.int .i64 s3, .slice a3 n3 c3] 35) = W at *
  refine HS1.out.mono ?_
  rintro e t1 ⟨v, rfl, hb, z1, rfl, hz1, hz1'⟩
  have C1 : Hid (Below W.heap.size W t1) := hb
  have K1 := KEY.out _ C1.out
  have q0 := K1.2.1.c0
  have q1 := K1.2.1.c1
  have q2 := K1.2.2.1.c0
  have q3 := K1.2.2.1.c1
  have q4 := K1.2.2.2.1.c0
  have q5 := K1.2.2.2.1.c1
  clear hb K1 HS1
  by_cases hn1 : z1 < 0
  · clear hz1 hz1'
    go_wp2
    go_ret
    exact ⟨rfl, (KEY.out _ C1.out).1⟩
  have hzz1 : z1 = szSS l1 1048576 := by rcases hz1 with h | h; omega; exact h
  have hsp1 := szSS_pos (l := l1) (left := 1048576) (by omega)
  have HB1 : Hid (n1 ≤ 1048576 ∧ ∀ v ∈ l1, v.length ≤ 1048576) := ⟨by have h := (KEY.out _ C1.out).2.2.2.2.1.1; have := hsp1.1; omega, fun v hv => by have := hsp1.2.1 v hv; omega⟩
  have hle1 : z1 ≤ 1048576 := by have := hsp1.2.2; omega
  clear hz1 hz1' hzz1 hsp1
  have HS2 := Lib.hid (c_szSpace s2 a2 n2 c2 l2 S2 z1 t1 (KEY.out _ C1.out).2.2.2.2.2.1 (by omega) (by omega))
  go_wp2_with fail
  refine HS2.out.mono ?_
  rintro e t2 ⟨v, rfl, hb, z2, rfl, hz2, hz2'⟩
  have C2 : Hid (Below W.heap.size W t2) := below_then C1.out hb
  have K2 := KEY.out _ C2.out
  have q0 := K2.2.1.c0
  have q1 := K2.2.1.c1
  have q2 := K2.2.2.1.c0
  have q3 := K2.2.2.1.c1
  have q4 := K2.2.2.2.1.c0
  have q5 := K2.2.2.2.1.c1
  clear hb K2 HS2
  by_cases hn2 : z2 < 0
  · clear hz2 hz2'
    go_wp2
    go_ret
    exact ⟨rfl, (KEY.out _ C2.out).1⟩
  have hzz2 : z2 = szSS l2 z1 := by rcases hz2 with h | h; omega; exact h
  have hsp2 := szSS_pos (l := l2) (left := z1) (by omega)
  have HB2 : Hid (n2 ≤ 1048576 ∧ ∀ v ∈ l2, v.length ≤ 1048576) := ⟨by have h := (KEY.out _ C2.out).2.2.2.2.2.1.1; have := hsp2.1; omega, fun v hv => by have := hsp2.2.1 v hv; omega⟩
  have hle2 : z2 ≤ 1048576 := by have := hsp2.2.2; omega
  clear hz2 hz2' hzz2 hsp2
  have HS3 := Lib.hid (c_szSpace s3 a3 n3 c3 l3 S3 z2 t2 (KEY.out _ C2.out).2.2.2.2.2.2.1 (by omega) (by omega))
  go_wp2_with fail
  refine HS3.out.mono ?_
  rintro e t3 ⟨v, rfl, hb, z3, rfl, hz3, hz3'⟩
  have C3 : Hid (Below W.heap.size W t3) := below_then C2.out hb
  have K3 := KEY.out _ C3.out
  have q0 := K3.2.1.c0
  have q1 := K3.2.1.c1
  have q2 := K3.2.2.1.c0
  have q3 := K3.2.2.1.c1
  have q4 := K3.2.2.2.1.c0
  have q5 := K3.2.2.2.1.c1
  clear hb K3 HS3
  by_cases hn3 : z3 < 0
  · clear hz3 hz3'
    go_wp2
    go_ret
    exact ⟨rfl, (KEY.out _ C3.out).1⟩
  have hzz3 : z3 = szSS l3 z2 := by rcases hz3 with h | h; omega; exact h
  have hsp3 := szSS_pos (l := l3) (left := z2) (by omega)
  have HB3 : Hid (n3 ≤ 1048576 ∧ ∀ v ∈ l3, v.length ≤ 1048576) := ⟨by have h := (KEY.out _ C3.out).2.2.2.2.2.2.1.1; have := hsp3.1; omega, fun v hv => by have := hsp3.2.1 v hv; omega⟩
  have hle3 : z3 ≤ 1048576 := by have := hsp3.2.2; omega
  clear hz3 hz3' hzz3 hsp3

  obtain ⟨RV, hRV⟩ : ∃ RV, RV = distrV p s1 s2 s3 l1 l2 l3 := ⟨_, rfl⟩
  have HRV := Lib.hid hRV
  clear hRV
  have BD : Hid (Below W.heap.size W t3.drew) := below_dr C3.out
  have HELD : Hid (∀ w', Below W.heap.size W w' → w'.cell? ⟨w.heap.size, 0, none⟩ = some (.int .i64 s1) ∧ w'.cell? ⟨w.heap.size, 1, none⟩ = some (.slice a1 n1 c1) ∧ w'.cell? ⟨w.heap.size + 1, 0, none⟩ = some (.int .i64 s2) ∧ w'.cell? ⟨w.heap.size + 1, 1, none⟩ = some (.slice a2 n2 c2) ∧ w'.cell? ⟨w.heap.size + 1 + 1, 0, none⟩ = some (.int .i64 s3) ∧ w'.cell? ⟨w.heap.size + 1 + 1, 1, none⟩ = some (.slice a3 n3 c3)) :=
    fun w' hb => ⟨(KEY.out _ hb).2.1.c0, (KEY.out _ hb).2.1.c1, (KEY.out _ hb).2.2.1.c0, (KEY.out _ hb).2.2.1.c1, (KEY.out _ hb).2.2.2.1.c0, (KEY.out _ hb).2.2.2.1.c1⟩
  have C1b := Lib.hid (c_toSpace s1 a1 n1 c1 l1 S1 t3.drew (KEY.out _ BD.out).2.2.2.2.1 HB1.out.1 HB1.out.2)
  go_wp2
  clear q0 q1 q2 q3 q4 q5
  go_region_held3 (fun w' => w'.cell? ⟨w.heap.size, 0, none⟩ = some (.int .i64 s1) ∧ w'.cell? ⟨w.heap.size, 1, none⟩ = some (.slice a1 n1 c1) ∧ w'.cell? ⟨w.heap.size + 1, 0, none⟩ = some (.int .i64 s2) ∧ w'.cell? ⟨w.heap.size + 1, 1, none⟩ = some (.slice a2 n2 c2) ∧ w'.cell? ⟨w.heap.size + 1 + 1, 0, none⟩ = some (.int .i64 s3) ∧ w'.cell? ⟨w.heap.size + 1 + 1, 1, none⟩ = some (.slice a3 n3 c3))
    (exact HELD.out _ (Hid.out (by assumption)))
    (first
      | (go_at_call 18; first
          | ((with_reducible refine Calls.mono (c_toSpace s1 a1 n1 c1 l1 S1 t3.drew (KEY.out _ BD.out).2.2.2.2.1 HB1.out.1 HB1.out.2) ?_); rintro e t4 ⟨v, rfl, hb', x1, m1, d1, T1, rfl, r1, -⟩; have C4 : Hid (Below W.heap.size W t4) := below_then BD.out hb'; have R1 := Lib.hid r1; clear hb' r1)
          | ((with_reducible refine Calls.mono (c_toSpace s2 a2 n2 c2 l2 S2 t4 (KEY.out _ C4.out).2.2.2.2.2.1 HB2.out.1 HB2.out.2) ?_); rintro e t5 ⟨v, rfl, hb', x2, m2, d2, T2, rfl, r2, -⟩; have C5 : Hid (Below W.heap.size W t5) := below_then C4.out hb'; have R2 := Lib.hid r2; have R12 := Lib.hid (R1.out.below Shp.ints_good hb'); clear hb' r2)
          | ((with_reducible refine Calls.mono (c_toSpace s3 a3 n3 c3 l3 S3 t5 (KEY.out _ C5.out).2.2.2.2.2.2.1 HB3.out.1 HB3.out.2) ?_); rintro e t6 ⟨v, rfl, hb', x3, m3, d3, T3, rfl, r3, -⟩; have C6 : Hid (Below W.heap.size W t6) := below_then C5.out hb'; have R3 := Lib.hid r3; have R13 := Lib.hid (R12.out.below Shp.ints_good hb'); have R23 := Lib.hid (R2.out.below Shp.ints_good hb'); clear hb' r3))
      | (go_at_call 21; refine Calls.mono (c_spec_IsDistributive p s1 s2 s3 x1 x2 x3 m1 d1 m2 d2 m3 d3 l1 l2 l3 T1 T2 T3 t6 HP.out R13.out R23.out R3.out) ?_; rintro e t7 ⟨v, rfl, hb', rfl⟩; have C7 : Hid (Below W.heap.size W t7) := below_then C6.out hb'; rw [← HRV.out]; clear hb'))
  have K7 := KEY.out _ C7.out
  have q0 := K7.2.1.c0
  have q1 := K7.2.1.c1
  have q2 := K7.2.2.1.c0
  have q3 := K7.2.2.1.c1
  have q4 := K7.2.2.2.1.c0
  have q5 := K7.2.2.2.1.c1
  clear K7
  go_wp2_with fail
  refine (c_toSpace s1 a1 n1 c1 l1 S1 _ (KEY.out _ C7.out).2.2.2.2.1 HB1.out.1 HB1.out.2).mono ?_
  clear C1b R1 R2 R3 R12 R13 R23
  rintro e u1 ⟨v, rfl, hb1, x1, m1, d1, T1, rfl, r1, -⟩
  have B1 : Hid (Below W.heap.size W (u1.alloc (.cells #[.int .i64 s1, .slice x1 m1 d1] 38))) := below_then (below_then C7.out hb1) ((Below.refl _ _).alloc (Nat.le_refl _) _)
  have P1 : Hid (∀ wr, Below (u1.alloc (.cells #[.int .i64 s1, .slice x1 m1 d1] 38)).heap.size (u1.alloc (.cells #[.int .i64 s1, .slice x1 m1 d1] 38)) wr → At wr u1.heap.size 0 [.int .i64 s1, .slice x1 m1 d1] ∧ SliceRd Shp.ints wr x1 m1 d1 l1 T1) := by
    intro wr hb
    exact ⟨(At.alloc u1 _ _).keep (hb.block _ (by simp)), (r1.below Shp.ints_good ((Below.refl _ _).alloc (Nat.le_refl _) _)).below Shp.ints_good hb⟩
  have L11 : Hid (Below (u1.alloc (.cells #[.int .i64 s1, .slice x1 m1 d1] 38)).heap.size (u1.alloc (.cells #[.int .i64 s1, .slice x1 m1 d1] 38)) (u1.alloc (.cells #[.int .i64 s1, .slice x1 m1 d1] 38))) := Below.refl _ _
  have K1 := KEY.out _ B1.out
  have q0 := K1.2.1.c0
  have q1 := K1.2.1.c1
  have q2 := K1.2.2.1.c0
  have q3 := K1.2.2.1.c1
  have q4 := K1.2.2.2.1.c0
  have q5 := K1.2.2.2.1.c1
  have y10 := (P1.out _ L11.out).1.c0
  have y11 := (P1.out _ L11.out).1.c1
  clear hb1 K1 r1
  go_wp2_with fail
  refine (c_toSpace s2 a2 n2 c2 l2 S2 _ (KEY.out _ B1.out).2.2.2.2.2.1 HB2.out.1 HB2.out.2).mono ?_
  rintro e u2 ⟨v, rfl, hb2, x2, m2, d2, T2, rfl, r2, -⟩
  have B2 : Hid (Below W.heap.size W (u2.alloc (.cells #[.int .i64 s2, .slice x2 m2 d2] 38))) := below_then (below_then B1.out hb2) ((Below.refl _ _).alloc (Nat.le_refl _) _)
  have P2 : Hid (∀ wr, Below (u2.alloc (.cells #[.int .i64 s2, .slice x2 m2 d2] 38)).heap.size (u2.alloc (.cells #[.int .i64 s2, .slice x2 m2 d2] 38)) wr → At wr u2.heap.size 0 [.int .i64 s2, .slice x2 m2 d2] ∧ SliceRd Shp.ints wr x2 m2 d2 l2 T2) := by
    intro wr hb
    exact ⟨(At.alloc u2 _ _).keep (hb.block _ (by simp)), (r2.below Shp.ints_good ((Below.refl _ _).alloc (Nat.le_refl _) _)).below Shp.ints_good hb⟩
  have L22 : Hid (Below (u2.alloc (.cells #[.int .i64 s2, .slice x2 m2 d2] 38)).heap.size (u2.alloc (.cells #[.int .i64 s2, .slice x2 m2 d2] 38)) (u2.alloc (.cells #[.int .i64 s2, .slice x2 m2 d2] 38))) := Below.refl _ _
  have L12 : Hid (Below (u1.alloc (.cells #[.int .i64 s1, .slice x1 m1 d1] 38)).heap.size (u1.alloc (.cells #[.int .i64 s1, .slice x1 m1 d1] 38)) (u2.alloc (.cells #[.int .i64 s2, .slice x2 m2 d2] 38))) := below_then (below_then L11.out hb2) ((Below.refl _ _).alloc (Nat.le_refl _) _)
  have K2 := KEY.out _ B2.out
  have q0 := K2.2.1.c0
  have q1 := K2.2.1.c1
  have q2 := K2.2.2.1.c0
  have q3 := K2.2.2.1.c1
  have q4 := K2.2.2.2.1.c0
  have q5 := K2.2.2.2.1.c1
  have y10 := (P1.out _ L12.out).1.c0
  have y11 := (P1.out _ L12.out).1.c1
  have y20 := (P2.out _ L22.out).1.c0
  have y21 := (P2.out _ L22.out).1.c1
  clear hb2 K2 r2
  go_wp2_with fail
  refine (c_toSpace s3 a3 n3 c3 l3 S3 _ (KEY.out _ B2.out).2.2.2.2.2.2.1 HB3.out.1 HB3.out.2).mono ?_
  rintro e u3 ⟨v, rfl, hb3, x3, m3, d3, T3, rfl, r3, -⟩
  have B3 : Hid (Below W.heap.size W (u3.alloc (.cells #[.int .i64 s3, .slice x3 m3 d3] 38))) := below_then (below_then B2.out hb3) ((Below.refl _ _).alloc (Nat.le_refl _) _)
  have P3 : Hid (∀ wr, Below (u3.alloc (.cells #[.int .i64 s3, .slice x3 m3 d3] 38)).heap.size (u3.alloc (.cells #[.int .i64 s3, .slice x3 m3 d3] 38)) wr → At wr u3.heap.size 0 [.int .i64 s3, .slice x3 m3 d3] ∧ SliceRd Shp.ints wr x3 m3 d3 l3 T3) := by
    intro wr hb
    exact ⟨(At.alloc u3 _ _).keep (hb.block _ (by simp)), (r3.below Shp.ints_good ((Below.refl _ _).alloc (Nat.le_refl _) _)).below Shp.ints_good hb⟩
  have L33 : Hid (Below (u3.alloc (.cells #[.int .i64 s3, .slice x3 m3 d3] 38)).heap.size (u3.alloc (.cells #[.int .i64 s3, .slice x3 m3 d3] 38)) (u3.alloc (.cells #[.int .i64 s3, .slice x3 m3 d3] 38))) := Below.refl _ _
  have L13 : Hid (Below (u1.alloc (.cells #[.int .i64 s1, .slice x1 m1 d1] 38)).heap.size (u1.alloc (.cells #[.int .i64 s1, .slice x1 m1 d1] 38)) (u3.alloc (.cells #[.int .i64 s3, .slice x3 m3 d3] 38))) := below_then (below_then L12.out hb3) ((Below.refl _ _).alloc (Nat.le_refl _) _)
  have L23 : Hid (Below (u2.alloc (.cells #[.int .i64 s2, .slice x2 m2 d2] 38)).heap.size (u2.alloc (.cells #[.int .i64 s2, .slice x2 m2 d2] 38)) (u3.alloc (.cells #[.int .i64 s3, .slice x3 m3 d3] 38))) := below_then (below_then L22.out hb3) ((Below.refl _ _).alloc (Nat.le_refl _) _)
  have K3 := KEY.out _ B3.out
  have q0 := K3.2.1.c0
  have q1 := K3.2.1.c1
  have q2 := K3.2.2.1.c0
  have q3 := K3.2.2.1.c1
  have q4 := K3.2.2.2.1.c0
  have q5 := K3.2.2.2.1.c1
  have y10 := (P1.out _ L13.out).1.c0
  have y11 := (P1.out _ L13.out).1.c1
  have y20 := (P2.out _ L23.out).1.c0
  have y21 := (P2.out _ L23.out).1.c1
  have y30 := (P3.out _ L33.out).1.c0
  have y31 := (P3.out _ L33.out).1.c1
  clear hb3 K3 r3
  have HI := Lib.hid (c_impl_IsDistributive p s1 s2 s3 x1 x2 x3 m1 d1 m2 d2 m3 d3 l1 l2 l3 T1 T2 T3 _ HP.out (P1.out _ L13.out).2 (P2.out _ L23.out).2 (P3.out _ L33.out).2)
  go_wp2_with fail
  refine HI.out.mono ?_
  rintro e U ⟨v, rfl, hbU, rfl⟩
  rw [← HRV.out]
  have LU : Hid (Below W.heap.size W U) := below_then B3.out hbU
  have L1U : Hid (Below _ _ U) := below_then L13.out hbU
  have L2U : Hid (Below _ _ U) := below_then L23.out hbU
  have L3U : Hid (Below _ _ U) := below_then L33.out hbU
  have LUU : Hid (Below U.heap.size U U) := Below.refl _ _
  have hneq : (RV != RV) = false := by simp
  clear hbU q0 q1 q2 q3 q4 q5 y10 y11 y20 y21 y30 y31 HI
  have G1 : Hid (∀ w', Below U.heap.size U w' → Below W.heap.size W w' ∧ (∀ k', k' = 1 → True)) := fun w' hb => ⟨below_then LU.out hb, fun _ _ => trivial⟩
  have HELD1 : Hid (∀ w', Below U.heap.size U w' → w'.cell? ⟨u1.heap.size, 0, none⟩ = some (.int .i64 s1) ∧ w'.cell? ⟨u1.heap.size, 1, none⟩ = some (.slice x1 m1 d1) ∧ w'.cell? ⟨w.heap.size, 0, none⟩ = some (.int .i64 s1) ∧ w'.cell? ⟨w.heap.size, 1, none⟩ = some (.slice a1 n1 c1)) :=
    fun w' hb => ⟨(P1.out _ (below_then L1U.out hb)).1.c0, (P1.out _ (below_then L1U.out hb)).1.c1, (KEY.out _ (below_then LU.out hb)).2.1.c0, (KEY.out _ (below_then LU.out hb)).2.1.c1⟩
  have BD1 : Hid (Below U.heap.size U U.drew) := below_dr LUU.out
  go_wp2
  go_region_held3 (fun w' => w'.cell? ⟨u1.heap.size, 0, none⟩ = some (.int .i64 s1) ∧ w'.cell? ⟨u1.heap.size, 1, none⟩ = some (.slice x1 m1 d1) ∧ w'.cell? ⟨w.heap.size, 0, none⟩ = some (.int .i64 s1) ∧ w'.cell? ⟨w.heap.size, 1, none⟩ = some (.slice a1 n1 c1))
    (exact HELD1.out _ (Hid.out (by assumption)))
    (first
      | (go_at_call 18; refine Calls.mono (c_toSpace s1 a1 n1 c1 l1 S1 U.drew (KEY.out _ (below_then LU.out BD1.out)).2.2.2.2.1 HB1.out.1 HB1.out.2) ?_; rintro e v11 ⟨v, rfl, hb', xx1, mm1, dd1, TT1, rfl, rr1, -⟩; have BE1 : Hid (Below U.heap.size U v11) := below_then BD1.out hb'; have RR1 := Lib.hid rr1; clear hb' rr1)
      | (go_at_call 20; refine Calls.mono (c_eqSpace_same s1 x1 m1 d1 l1 T1 xx1 mm1 dd1 TT1 v11 (P1.out _ (below_then L1U.out BE1.out)).2 RR1.out) ?_; rintro e V1 ⟨v, rfl, hb', rfl⟩; have BF1 : Hid (Below U.heap.size U V1) := below_then BE1.out hb'; clear hb'))
  have G2 : Hid (∀ w', Below U.heap.size U w' → Below W.heap.size W w' ∧ (∀ k', k' = 2 → True)) := fun w' hb => ⟨below_then LU.out hb, fun _ _ => trivial⟩
  have HELD2 : Hid (∀ w', Below U.heap.size U w' → w'.cell? ⟨u2.heap.size, 0, none⟩ = some (.int .i64 s2) ∧ w'.cell? ⟨u2.heap.size, 1, none⟩ = some (.slice x2 m2 d2) ∧ w'.cell? ⟨w.heap.size + 1, 0, none⟩ = some (.int .i64 s2) ∧ w'.cell? ⟨w.heap.size + 1, 1, none⟩ = some (.slice a2 n2 c2)) :=
    fun w' hb => ⟨(P2.out _ (below_then L2U.out hb)).1.c0, (P2.out _ (below_then L2U.out hb)).1.c1, (KEY.out _ (below_then LU.out hb)).2.2.1.c0, (KEY.out _ (below_then LU.out hb)).2.2.1.c1⟩
  have BD2 : Hid (Below U.heap.size U V1.drew) := below_dr BF1.out
  go_wp2
  go_region_held3 (fun w' => w'.cell? ⟨u2.heap.size, 0, none⟩ = some (.int .i64 s2) ∧ w'.cell? ⟨u2.heap.size, 1, none⟩ = some (.slice x2 m2 d2) ∧ w'.cell? ⟨w.heap.size + 1, 0, none⟩ = some (.int .i64 s2) ∧ w'.cell? ⟨w.heap.size + 1, 1, none⟩ = some (.slice a2 n2 c2))
    (exact HELD2.out _ (Hid.out (by assumption)))
    (first
      | (go_at_call 18; refine Calls.mono (c_toSpace s2 a2 n2 c2 l2 S2 V1.drew (KEY.out _ (below_then LU.out BD2.out)).2.2.2.2.2.1 HB2.out.1 HB2.out.2) ?_; rintro e v21 ⟨v, rfl, hb', xx2, mm2, dd2, TT2, rfl, rr2, -⟩; have BE2 : Hid (Below U.heap.size U v21) := below_then BD2.out hb'; have RR2 := Lib.hid rr2; clear hb' rr2)
      | (go_at_call 20; refine Calls.mono (c_eqSpace_same s2 x2 m2 d2 l2 T2 xx2 mm2 dd2 TT2 v21 (P2.out _ (below_then L2U.out BE2.out)).2 RR2.out) ?_; rintro e V2 ⟨v, rfl, hb', rfl⟩; have BF2 : Hid (Below U.heap.size U V2) := below_then BE2.out hb'; clear hb'))
  have G3 : Hid (∀ w', Below U.heap.size U w' → Below W.heap.size W w' ∧ (∀ k', k' = 3 → True)) := fun w' hb => ⟨below_then LU.out hb, fun _ _ => trivial⟩
  have HELD3 : Hid (∀ w', Below U.heap.size U w' → w'.cell? ⟨u3.heap.size, 0, none⟩ = some (.int .i64 s3) ∧ w'.cell? ⟨u3.heap.size, 1, none⟩ = some (.slice x3 m3 d3) ∧ w'.cell? ⟨w.heap.size + 1 + 1, 0, none⟩ = some (.int .i64 s3) ∧ w'.cell? ⟨w.heap.size + 1 + 1, 1, none⟩ = some (.slice a3 n3 c3)) :=
    fun w' hb => ⟨(P3.out _ (below_then L3U.out hb)).1.c0, (P3.out _ (below_then L3U.out hb)).1.c1, (KEY.out _ (below_then LU.out hb)).2.2.2.1.c0, (KEY.out _ (below_then LU.out hb)).2.2.2.1.c1⟩
  have BD3 : Hid (Below U.heap.size U V2.drew) := below_dr BF2.out
  go_wp2
  go_region_held3 (fun w' => w'.cell? ⟨u3.heap.size, 0, none⟩ = some (.int .i64 s3) ∧ w'.cell? ⟨u3.heap.size, 1, none⟩ = some (.slice x3 m3 d3) ∧ w'.cell? ⟨w.heap.size + 1 + 1, 0, none⟩ = some (.int .i64 s3) ∧ w'.cell? ⟨w.heap.size + 1 + 1, 1, none⟩ = some (.slice a3 n3 c3))
    (exact HELD3.out _ (Hid.out (by assumption)))
    (first
      | (go_at_call 18; refine Calls.mono (c_toSpace s3 a3 n3 c3 l3 S3 V2.drew (KEY.out _ (below_then LU.out BD3.out)).2.2.2.2.2.2.1 HB3.out.1 HB3.out.2) ?_; rintro e v31 ⟨v, rfl, hb', xx3, mm3, dd3, TT3, rfl, rr3, -⟩; have BE3 : Hid (Below U.heap.size U v31) := below_then BD3.out hb'; have RR3 := Lib.hid rr3; clear hb' rr3)
      | (go_at_call 20; refine Calls.mono (c_eqSpace_same s3 x3 m3 d3 l3 T3 xx3 mm3 dd3 TT3 v31 (P3.out _ (below_then L3U.out BE3.out)).2 RR3.out) ?_; rintro e V3 ⟨v, rfl, hb', rfl⟩; have BF3 : Hid (Below U.heap.size U V3) := below_then BE3.out hb'; clear hb'))
  go_wp2
  go_ret
  exact ⟨rfl, (KEY.out _ (below_then LU.out BF3.out)).1⟩

theorem walk_IsDistributive (p : Int) (cs1 : Array Value) (x1 : Spc) (S1 : List Nat) (cs2 : Array Value) (x2 : Spc) (S2 : List Nat) (cs3 : Array Value) (x3 : Spc) (S3 : List Nat) (w : World) (hp : fits p)
    (h1 : Shp.spc.rd w (Value.agg cs1).cells.toList x1 S1) (h2 : Shp.spc.rd w (Value.agg cs2).cells.toList x2 S2) (h3 : Shp.spc.rd w (Value.agg cs3).cells.toList x3 S3) :
    Calls Try.prog 5 #[.int .i64 p, .agg cs1, .agg cs2, .agg cs3] w fun e w' => e = .returned (.bool true) ∧ Below w.heap.size w w' := by
  obtain ⟨a1, n1, c1, e1, -, r1⟩ := h1
  obtain ⟨a2, n2, c2, e2, -, r2⟩ := h2
  obtain ⟨a3, n3, c3, e3, -, r3⟩ := h3
  have e1' : cs1.toList = _ := e1
  have e2' : cs2.toList = _ := e2
  have e3' : cs3.toList = _ := e3
  obtain rfl := arr_of e1'
  obtain rfl := arr_of e2'
  obtain rfl := arr_of e3'
  exact raw_IsDistributive p _ _ _ a1 a2 a3 n1 c1 n2 c2 n3 c3 _ _ _ S1 S2 S3 w hp r1 r2 r3

set_option maxRecDepth 20000 in
set_option maxHeartbeats 8000000 in
theorem raw_CountIntoGeneral (p s1 s2 s3 : Int) (a1 a2 a3 : Option Addr) (n1 c1 n2 c2 n3 c3 : Nat) (l1 l2 l3 : List (List Int)) (S1 S2 S3 : List Nat) (w : World) (hp : fits p) (h1 : SliceRd Shp.ints w a1 n1 c1 l1 S1) (h2 : SliceRd Shp.ints w a2 n2 c2 l2 S2) (h3 : SliceRd Shp.ints w a3 n3 c3 l3 S3) :
    Calls Try.prog 4 #[.int .i64 p, .agg #[.int .i64 s1, .slice a1 n1 c1], .agg #[.int .i64 s2, .slice a2 n2 c2], .agg #[.int .i64 s3, .slice a3 n3 c3]] w fun e w' => e = .returned (.bool true) ∧ Below w.heap.size w w' := by
  have b0 := (Below.refl w.heap.size w).alloc (Nat.le_refl _) (.cells #[.int .i64 s1, .slice a1 n1 c1] 35)
  have b1 := (Below.refl _ (w.alloc (.cells #[.int .i64 s1, .slice a1 n1 c1] 35))).alloc (Nat.le_refl _) (.cells #[.int .i64 s2, .slice a2 n2 c2] 35)
  have b2 := (Below.refl _ ((w.alloc (.cells #[.int .i64 s1, .slice a1 n1 c1] 35)).alloc (.cells #[.int .i64 s2, .slice a2 n2 c2] 35))).alloc (Nat.le_refl _) (.cells #[.int .i64 s3, .slice a3 n3 c3] 35)
  have t1 := At.alloc (w.alloc (.cells #[.int .i64 s1, .slice a1 n1 c1] 35)) #[.int .i64 s2, .slice a2 n2 c2] 35
  have t2 := At.alloc ((w.alloc (.cells #[.int .i64 s1, .slice a1 n1 c1] 35)).alloc (.cells #[.int .i64 s2, .slice a2 n2 c2] 35)) #[.int .i64 s3, .slice a3 n3 c3] 35
  rw [World.size_alloc] at t1
  rw [World.size_alloc, World.size_alloc] at t2
  have KEY : Hid (∀ wr, Below (((w.alloc (.cells #[.int .i64 s1, .slice a1 n1 c1] 35)).alloc (.cells #[.int .i64 s2, .slice a2 n2 c2] 35)).alloc (.cells #[.int .i64 s3, .slice a3 n3 c3] 35)).heap.size (((w.alloc (.cells #[.int .i64 s1, .slice a1 n1 c1] 35)).alloc (.cells #[.int .i64 s2, .slice a2 n2 c2] 35)).alloc (.cells #[.int .i64 s3, .slice a3 n3 c3] 35)) wr →
      Below w.heap.size w wr ∧ At wr w.heap.size 0 [.int .i64 s1, .slice a1 n1 c1] ∧ At wr (w.heap.size + 1) 0 [.int .i64 s2, .slice a2 n2 c2] ∧ At wr (w.heap.size + 1 + 1) 0 [.int .i64 s3, .slice a3 n3 c3] ∧ SliceRd Shp.ints wr a1 n1 c1 l1 S1 ∧ SliceRd Shp.ints wr a2 n2 c2 l2 S2 ∧ SliceRd Shp.ints wr a3 n3 c3 l3 S3 ∧ w.heap.size + 3 ≤ wr.heap.size) := by
    intro wr hb
    have hbw := below_then (below_then (below_then b0 b1) b2) hb
    exact ⟨hbw, (((At.alloc w _ _).keep (b1.block _ (by simp))).keep (b2.block _ (by simp; omega))).keep (hb.block _ (by simp; omega)), (t1.keep (b2.block _ (by simp))).keep (hb.block _ (by simp)), t2.keep (hb.block _ (by simp)), h1.below Shp.ints_good hbw, h2.below Shp.ints_good hbw, h3.below Shp.ints_good hbw, by have := hb.size; simp at this; omega⟩
  have HP := Lib.hid hp
  clear b0 b1 b2 t1 t2 h1 h2 h3 hp
  have K0 := KEY.out _ (Below.refl _ _)
  have q0 := K0.2.1.c0
  have q1 := K0.2.1.c1
  have q2 := K0.2.2.1.c0
  have q3 := K0.2.2.1.c1
  have q4 := K0.2.2.2.1.c0
  have q5 := K0.2.2.2.1.c1
  clear K0
  go_enter Try.func4, Try.ntmps4
  have HS1 := Lib.hid (c_szSpace s1 a1 n1 c1 l1 S1 1048576 (((w.alloc (.cells #[.int .i64 s1, .slice a1 n1 c1] 35)).alloc (.cells #[.int .i64 s2, .slice a2 n2 c2] 35)).alloc (.cells #[.int .i64 s3, .slice a3 n3 c3] 35)) (KEY.out _ (Below.refl _ _)).2.2.2.2.1 (by omega) (by omega))
  go_wp2_with fail
  generalize ((w.alloc (.cells #[.int .i64 s1, .slice a1 n1 c1] 35)).alloc (.cells #[.int .i64 s2, .slice a2 n2 c2] 35)).alloc (.cells #[.int .i64 s3, .slice a3 n3 c3] 35) = W at *
  refine HS1.out.mono ?_
  rintro e t1 ⟨v, rfl, hb, z1, rfl, hz1, hz1'⟩
  have C1 : Hid (Below W.heap.size W t1) := hb
  have K1 := KEY.out _ C1.out
  have q0 := K1.2.1.c0
  have q1 := K1.2.1.c1
  have q2 := K1.2.2.1.c0
  have q3 := K1.2.2.1.c1
  have q4 := K1.2.2.2.1.c0
  have q5 := K1.2.2.2.1.c1
  clear hb K1 HS1
  by_cases hn1 : z1 < 0
  · clear hz1 hz1'
    go_wp2
    go_ret
    exact ⟨rfl, (KEY.out _ C1.out).1⟩
  have hzz1 : z1 = szSS l1 1048576 := by rcases hz1 with h | h; omega; exact h
  have hsp1 := szSS_pos (l := l1) (left := 1048576) (by omega)
  have HB1 : Hid (n1 ≤ 1048576 ∧ ∀ v ∈ l1, v.length ≤ 1048576) := ⟨by have h := (KEY.out _ C1.out).2.2.2.2.1.1; have := hsp1.1; omega, fun v hv => by have := hsp1.2.1 v hv; omega⟩
  have hle1 : z1 ≤ 1048576 := by have := hsp1.2.2; omega
  clear hz1 hz1' hzz1 hsp1
  have HS2 := Lib.hid (c_szSpace s2 a2 n2 c2 l2 S2 z1 t1 (KEY.out _ C1.out).2.2.2.2.2.1 (by omega) (by omega))
  go_wp2_with fail
  refine HS2.out.mono ?_
  rintro e t2 ⟨v, rfl, hb, z2, rfl, hz2, hz2'⟩
  have C2 : Hid (Below W.heap.size W t2) := below_then C1.out hb
  have K2 := KEY.out _ C2.out
  have q0 := K2.2.1.c0
  have q1 := K2.2.1.c1
  have q2 := K2.2.2.1.c0
  have q3 := K2.2.2.1.c1
  have q4 := K2.2.2.2.1.c0
  have q5 := K2.2.2.2.1.c1
  clear hb K2 HS2
  by_cases hn2 : z2 < 0
  · clear hz2 hz2'
    go_wp2
    go_ret
    exact ⟨rfl, (KEY.out _ C2.out).1⟩
  have hzz2 : z2 = szSS l2 z1 := by rcases hz2 with h | h; omega; exact h
  have hsp2 := szSS_pos (l := l2) (left := z1) (by omega)
  have HB2 : Hid (n2 ≤ 1048576 ∧ ∀ v ∈ l2, v.length ≤ 1048576) := ⟨by have h := (KEY.out _ C2.out).2.2.2.2.2.1.1; have := hsp2.1; omega, fun v hv => by have := hsp2.2.1 v hv; omega⟩
  have hle2 : z2 ≤ 1048576 := by have := hsp2.2.2; omega
  clear hz2 hz2' hzz2 hsp2
  have HS3 := Lib.hid (c_szSpace s3 a3 n3 c3 l3 S3 z2 t2 (KEY.out _ C2.out).2.2.2.2.2.2.1 (by omega) (by omega))
  go_wp2_with fail
  refine HS3.out.mono ?_
  rintro e t3 ⟨v, rfl, hb, z3, rfl, hz3, hz3'⟩
  have C3 : Hid (Below W.heap.size W t3) := below_then C2.out hb
  have K3 := KEY.out _ C3.out
  have q0 := K3.2.1.c0
  have q1 := K3.2.1.c1
  have q2 := K3.2.2.1.c0
  have q3 := K3.2.2.1.c1
  have q4 := K3.2.2.2.1.c0
  have q5 := K3.2.2.2.1.c1
  clear hb K3 HS3
  by_cases hn3 : z3 < 0
  · clear hz3 hz3'
    go_wp2
    go_ret
    exact ⟨rfl, (KEY.out _ C3.out).1⟩
  have hzz3 : z3 = szSS l3 z2 := by rcases hz3 with h | h; omega; exact h
  have hsp3 := szSS_pos (l := l3) (left := z2) (by omega)
  have HB3 : Hid (n3 ≤ 1048576 ∧ ∀ v ∈ l3, v.length ≤ 1048576) := ⟨by have h := (KEY.out _ C3.out).2.2.2.2.2.2.1.1; have := hsp3.1; omega, fun v hv => by have := hsp3.2.1 v hv; omega⟩
  have hle3 : z3 ≤ 1048576 := by have := hsp3.2.2; omega
  clear hz3 hz3' hzz3 hsp3

  obtain ⟨RV, hRV⟩ : ∃ RV, RV = countV p s1 s2 s3 l1 l2 l3 := ⟨_, rfl⟩
  have HRV := Lib.hid hRV
  clear hRV
  have BD : Hid (Below W.heap.size W t3.drew) := below_dr C3.out
  have HELD : Hid (∀ w', Below W.heap.size W w' → w'.cell? ⟨w.heap.size, 0, none⟩ = some (.int .i64 s1) ∧ w'.cell? ⟨w.heap.size, 1, none⟩ = some (.slice a1 n1 c1) ∧ w'.cell? ⟨w.heap.size + 1, 0, none⟩ = some (.int .i64 s2) ∧ w'.cell? ⟨w.heap.size + 1, 1, none⟩ = some (.slice a2 n2 c2) ∧ w'.cell? ⟨w.heap.size + 1 + 1, 0, none⟩ = some (.int .i64 s3) ∧ w'.cell? ⟨w.heap.size + 1 + 1, 1, none⟩ = some (.slice a3 n3 c3)) :=
    fun w' hb => ⟨(KEY.out _ hb).2.1.c0, (KEY.out _ hb).2.1.c1, (KEY.out _ hb).2.2.1.c0, (KEY.out _ hb).2.2.1.c1, (KEY.out _ hb).2.2.2.1.c0, (KEY.out _ hb).2.2.2.1.c1⟩
  have C1b := Lib.hid (c_toSpace s1 a1 n1 c1 l1 S1 t3.drew (KEY.out _ BD.out).2.2.2.2.1 HB1.out.1 HB1.out.2)
  go_wp2
  clear q0 q1 q2 q3 q4 q5
  go_region_held3 (fun w' => w'.cell? ⟨w.heap.size, 0, none⟩ = some (.int .i64 s1) ∧ w'.cell? ⟨w.heap.size, 1, none⟩ = some (.slice a1 n1 c1) ∧ w'.cell? ⟨w.heap.size + 1, 0, none⟩ = some (.int .i64 s2) ∧ w'.cell? ⟨w.heap.size + 1, 1, none⟩ = some (.slice a2 n2 c2) ∧ w'.cell? ⟨w.heap.size + 1 + 1, 0, none⟩ = some (.int .i64 s3) ∧ w'.cell? ⟨w.heap.size + 1 + 1, 1, none⟩ = some (.slice a3 n3 c3))
    (exact HELD.out _ (Hid.out (by assumption)))
    (first
      | (go_at_call 18; first
          | ((with_reducible refine Calls.mono (c_toSpace s1 a1 n1 c1 l1 S1 t3.drew (KEY.out _ BD.out).2.2.2.2.1 HB1.out.1 HB1.out.2) ?_); rintro e t4 ⟨v, rfl, hb', x1, m1, d1, T1, rfl, r1, -⟩; have C4 : Hid (Below W.heap.size W t4) := below_then BD.out hb'; have R1 := Lib.hid r1; clear hb' r1)
          | ((with_reducible refine Calls.mono (c_toSpace s2 a2 n2 c2 l2 S2 t4 (KEY.out _ C4.out).2.2.2.2.2.1 HB2.out.1 HB2.out.2) ?_); rintro e t5 ⟨v, rfl, hb', x2, m2, d2, T2, rfl, r2, -⟩; have C5 : Hid (Below W.heap.size W t5) := below_then C4.out hb'; have R2 := Lib.hid r2; have R12 := Lib.hid (R1.out.below Shp.ints_good hb'); clear hb' r2)
          | ((with_reducible refine Calls.mono (c_toSpace s3 a3 n3 c3 l3 S3 t5 (KEY.out _ C5.out).2.2.2.2.2.2.1 HB3.out.1 HB3.out.2) ?_); rintro e t6 ⟨v, rfl, hb', x3, m3, d3, T3, rfl, r3, -⟩; have C6 : Hid (Below W.heap.size W t6) := below_then C5.out hb'; have R3 := Lib.hid r3; have R13 := Lib.hid (R12.out.below Shp.ints_good hb'); have R23 := Lib.hid (R2.out.below Shp.ints_good hb'); clear hb' r3))
      | (go_at_call 17; refine Calls.mono (c_spec_CountIntoGeneral p s1 s2 s3 x1 x2 x3 m1 d1 m2 d2 m3 d3 l1 l2 l3 T1 T2 T3 t6 HP.out R13.out R23.out R3.out) ?_; rintro e t7 ⟨v, rfl, hb', rfl⟩; have C7 : Hid (Below W.heap.size W t7) := below_then C6.out hb'; rw [← HRV.out]; clear hb'))
  have K7 := KEY.out _ C7.out
  have q0 := K7.2.1.c0
  have q1 := K7.2.1.c1
  have q2 := K7.2.2.1.c0
  have q3 := K7.2.2.1.c1
  have q4 := K7.2.2.2.1.c0
  have q5 := K7.2.2.2.1.c1
  clear K7
  go_wp2_with fail
  refine (c_toSpace s1 a1 n1 c1 l1 S1 _ (KEY.out _ C7.out).2.2.2.2.1 HB1.out.1 HB1.out.2).mono ?_
  clear C1b R1 R2 R3 R12 R13 R23
  rintro e u1 ⟨v, rfl, hb1, x1, m1, d1, T1, rfl, r1, -⟩
  have B1 : Hid (Below W.heap.size W (u1.alloc (.cells #[.int .i64 s1, .slice x1 m1 d1] 38))) := below_then (below_then C7.out hb1) ((Below.refl _ _).alloc (Nat.le_refl _) _)
  have P1 : Hid (∀ wr, Below (u1.alloc (.cells #[.int .i64 s1, .slice x1 m1 d1] 38)).heap.size (u1.alloc (.cells #[.int .i64 s1, .slice x1 m1 d1] 38)) wr → At wr u1.heap.size 0 [.int .i64 s1, .slice x1 m1 d1] ∧ SliceRd Shp.ints wr x1 m1 d1 l1 T1) := by
    intro wr hb
    exact ⟨(At.alloc u1 _ _).keep (hb.block _ (by simp)), (r1.below Shp.ints_good ((Below.refl _ _).alloc (Nat.le_refl _) _)).below Shp.ints_good hb⟩
  have L11 : Hid (Below (u1.alloc (.cells #[.int .i64 s1, .slice x1 m1 d1] 38)).heap.size (u1.alloc (.cells #[.int .i64 s1, .slice x1 m1 d1] 38)) (u1.alloc (.cells #[.int .i64 s1, .slice x1 m1 d1] 38))) := Below.refl _ _
  have K1 := KEY.out _ B1.out
  have q0 := K1.2.1.c0
  have q1 := K1.2.1.c1
  have q2 := K1.2.2.1.c0
  have q3 := K1.2.2.1.c1
  have q4 := K1.2.2.2.1.c0
  have q5 := K1.2.2.2.1.c1
  have y10 := (P1.out _ L11.out).1.c0
  have y11 := (P1.out _ L11.out).1.c1
  clear hb1 K1 r1
  go_wp2_with fail
  refine (c_toSpace s2 a2 n2 c2 l2 S2 _ (KEY.out _ B1.out).2.2.2.2.2.1 HB2.out.1 HB2.out.2).mono ?_
  rintro e u2 ⟨v, rfl, hb2, x2, m2, d2, T2, rfl, r2, -⟩
  have B2 : Hid (Below W.heap.size W (u2.alloc (.cells #[.int .i64 s2, .slice x2 m2 d2] 38))) := below_then (below_then B1.out hb2) ((Below.refl _ _).alloc (Nat.le_refl _) _)
  have P2 : Hid (∀ wr, Below (u2.alloc (.cells #[.int .i64 s2, .slice x2 m2 d2] 38)).heap.size (u2.alloc (.cells #[.int .i64 s2, .slice x2 m2 d2] 38)) wr → At wr u2.heap.size 0 [.int .i64 s2, .slice x2 m2 d2] ∧ SliceRd Shp.ints wr x2 m2 d2 l2 T2) := by
    intro wr hb
    exact ⟨(At.alloc u2 _ _).keep (hb.block _ (by simp)), (r2.below Shp.ints_good ((Below.refl _ _).alloc (Nat.le_refl _) _)).below Shp.ints_good hb⟩
  have L22 : Hid (Below (u2.alloc (.cells #[.int .i64 s2, .slice x2 m2 d2] 38)).heap.size (u2.alloc (.cells #[.int .i64 s2, .slice x2 m2 d2] 38)) (u2.alloc (.cells #[.int .i64 s2, .slice x2 m2 d2] 38))) := Below.refl _ _
  have L12 : Hid (Below (u1.alloc (.cells #[.int .i64 s1, .slice x1 m1 d1] 38)).heap.size (u1.alloc (.cells #[.int .i64 s1, .slice x1 m1 d1] 38)) (u2.alloc (.cells #[.int .i64 s2, .slice x2 m2 d2] 38))) := below_then (below_then L11.out hb2) ((Below.refl _ _).alloc (Nat.le_refl _) _)
  have K2 := KEY.out _ B2.out
  have q0 := K2.2.1.c0
  have q1 := K2.2.1.c1
  have q2 := K2.2.2.1.c0
  have q3 := K2.2.2.1.c1
  have q4 := K2.2.2.2.1.c0
  have q5 := K2.2.2.2.1.c1
  have y10 := (P1.out _ L12.out).1.c0
  have y11 := (P1.out _ L12.out).1.c1
  have y20 := (P2.out _ L22.out).1.c0
  have y21 := (P2.out _ L22.out).1.c1
  clear hb2 K2 r2
  go_wp2_with fail
  refine (c_toSpace s3 a3 n3 c3 l3 S3 _ (KEY.out _ B2.out).2.2.2.2.2.2.1 HB3.out.1 HB3.out.2).mono ?_
  rintro e u3 ⟨v, rfl, hb3, x3, m3, d3, T3, rfl, r3, -⟩
  have B3 : Hid (Below W.heap.size W (u3.alloc (.cells #[.int .i64 s3, .slice x3 m3 d3] 38))) := below_then (below_then B2.out hb3) ((Below.refl _ _).alloc (Nat.le_refl _) _)
  have P3 : Hid (∀ wr, Below (u3.alloc (.cells #[.int .i64 s3, .slice x3 m3 d3] 38)).heap.size (u3.alloc (.cells #[.int .i64 s3, .slice x3 m3 d3] 38)) wr → At wr u3.heap.size 0 [.int .i64 s3, .slice x3 m3 d3] ∧ SliceRd Shp.ints wr x3 m3 d3 l3 T3) := by
    intro wr hb
    exact ⟨(At.alloc u3 _ _).keep (hb.block _ (by simp)), (r3.below Shp.ints_good ((Below.refl _ _).alloc (Nat.le_refl _) _)).below Shp.ints_good hb⟩
  have L33 : Hid (Below (u3.alloc (.cells #[.int .i64 s3, .slice x3 m3 d3] 38)).heap.size (u3.alloc (.cells #[.int .i64 s3, .slice x3 m3 d3] 38)) (u3.alloc (.cells #[.int .i64 s3, .slice x3 m3 d3] 38))) := Below.refl _ _
  have L13 : Hid (Below (u1.alloc (.cells #[.int .i64 s1, .slice x1 m1 d1] 38)).heap.size (u1.alloc (.cells #[.int .i64 s1, .slice x1 m1 d1] 38)) (u3.alloc (.cells #[.int .i64 s3, .slice x3 m3 d3] 38))) := below_then (below_then L12.out hb3) ((Below.refl _ _).alloc (Nat.le_refl _) _)
  have L23 : Hid (Below (u2.alloc (.cells #[.int .i64 s2, .slice x2 m2 d2] 38)).heap.size (u2.alloc (.cells #[.int .i64 s2, .slice x2 m2 d2] 38)) (u3.alloc (.cells #[.int .i64 s3, .slice x3 m3 d3] 38))) := below_then (below_then L22.out hb3) ((Below.refl _ _).alloc (Nat.le_refl _) _)
  have K3 := KEY.out _ B3.out
  have q0 := K3.2.1.c0
  have q1 := K3.2.1.c1
  have q2 := K3.2.2.1.c0
  have q3 := K3.2.2.1.c1
  have q4 := K3.2.2.2.1.c0
  have q5 := K3.2.2.2.1.c1
  have y10 := (P1.out _ L13.out).1.c0
  have y11 := (P1.out _ L13.out).1.c1
  have y20 := (P2.out _ L23.out).1.c0
  have y21 := (P2.out _ L23.out).1.c1
  have y30 := (P3.out _ L33.out).1.c0
  have y31 := (P3.out _ L33.out).1.c1
  clear hb3 K3 r3
  have HI := Lib.hid (c_impl_CountIntoGeneral p s1 s2 s3 x1 x2 x3 m1 d1 m2 d2 m3 d3 l1 l2 l3 T1 T2 T3 _ HP.out (P1.out _ L13.out).2 (P2.out _ L23.out).2 (P3.out _ L33.out).2)
  go_wp2_with fail
  refine HI.out.mono ?_
  rintro e U ⟨v, rfl, hbU, rfl⟩
  rw [← HRV.out]
  have LU : Hid (Below W.heap.size W U) := below_then B3.out hbU
  have L1U : Hid (Below _ _ U) := below_then L13.out hbU
  have L2U : Hid (Below _ _ U) := below_then L23.out hbU
  have L3U : Hid (Below _ _ U) := below_then L33.out hbU
  have LUU : Hid (Below U.heap.size U U) := Below.refl _ _
  have hneq : (RV != RV) = false := by simp
  clear hbU q0 q1 q2 q3 q4 q5 y10 y11 y20 y21 y30 y31 HI
  have G1 : Hid (∀ w', Below U.heap.size U w' → Below W.heap.size W w' ∧ (∀ k', k' = 1 → True)) := fun w' hb => ⟨below_then LU.out hb, fun _ _ => trivial⟩
  have HELD1 : Hid (∀ w', Below U.heap.size U w' → w'.cell? ⟨u1.heap.size, 0, none⟩ = some (.int .i64 s1) ∧ w'.cell? ⟨u1.heap.size, 1, none⟩ = some (.slice x1 m1 d1) ∧ w'.cell? ⟨w.heap.size, 0, none⟩ = some (.int .i64 s1) ∧ w'.cell? ⟨w.heap.size, 1, none⟩ = some (.slice a1 n1 c1)) :=
    fun w' hb => ⟨(P1.out _ (below_then L1U.out hb)).1.c0, (P1.out _ (below_then L1U.out hb)).1.c1, (KEY.out _ (below_then LU.out hb)).2.1.c0, (KEY.out _ (below_then LU.out hb)).2.1.c1⟩
  have BD1 : Hid (Below U.heap.size U U.drew) := below_dr LUU.out
  go_wp2
  go_region_held3 (fun w' => w'.cell? ⟨u1.heap.size, 0, none⟩ = some (.int .i64 s1) ∧ w'.cell? ⟨u1.heap.size, 1, none⟩ = some (.slice x1 m1 d1) ∧ w'.cell? ⟨w.heap.size, 0, none⟩ = some (.int .i64 s1) ∧ w'.cell? ⟨w.heap.size, 1, none⟩ = some (.slice a1 n1 c1))
    (exact HELD1.out _ (Hid.out (by assumption)))
    (first
      | (go_at_call 18; refine Calls.mono (c_toSpace s1 a1 n1 c1 l1 S1 U.drew (KEY.out _ (below_then LU.out BD1.out)).2.2.2.2.1 HB1.out.1 HB1.out.2) ?_; rintro e v11 ⟨v, rfl, hb', xx1, mm1, dd1, TT1, rfl, rr1, -⟩; have BE1 : Hid (Below U.heap.size U v11) := below_then BD1.out hb'; have RR1 := Lib.hid rr1; clear hb' rr1)
      | (go_at_call 20; refine Calls.mono (c_eqSpace_same s1 x1 m1 d1 l1 T1 xx1 mm1 dd1 TT1 v11 (P1.out _ (below_then L1U.out BE1.out)).2 RR1.out) ?_; rintro e V1 ⟨v, rfl, hb', rfl⟩; have BF1 : Hid (Below U.heap.size U V1) := below_then BE1.out hb'; clear hb'))
  have G2 : Hid (∀ w', Below U.heap.size U w' → Below W.heap.size W w' ∧ (∀ k', k' = 2 → True)) := fun w' hb => ⟨below_then LU.out hb, fun _ _ => trivial⟩
  have HELD2 : Hid (∀ w', Below U.heap.size U w' → w'.cell? ⟨u2.heap.size, 0, none⟩ = some (.int .i64 s2) ∧ w'.cell? ⟨u2.heap.size, 1, none⟩ = some (.slice x2 m2 d2) ∧ w'.cell? ⟨w.heap.size + 1, 0, none⟩ = some (.int .i64 s2) ∧ w'.cell? ⟨w.heap.size + 1, 1, none⟩ = some (.slice a2 n2 c2)) :=
    fun w' hb => ⟨(P2.out _ (below_then L2U.out hb)).1.c0, (P2.out _ (below_then L2U.out hb)).1.c1, (KEY.out _ (below_then LU.out hb)).2.2.1.c0, (KEY.out _ (below_then LU.out hb)).2.2.1.c1⟩
  have BD2 : Hid (Below U.heap.size U V1.drew) := below_dr BF1.out
  go_wp2
  go_region_held3 (fun w' => w'.cell? ⟨u2.heap.size, 0, none⟩ = some (.int .i64 s2) ∧ w'.cell? ⟨u2.heap.size, 1, none⟩ = some (.slice x2 m2 d2) ∧ w'.cell? ⟨w.heap.size + 1, 0, none⟩ = some (.int .i64 s2) ∧ w'.cell? ⟨w.heap.size + 1, 1, none⟩ = some (.slice a2 n2 c2))
    (exact HELD2.out _ (Hid.out (by assumption)))
    (first
      | (go_at_call 18; refine Calls.mono (c_toSpace s2 a2 n2 c2 l2 S2 V1.drew (KEY.out _ (below_then LU.out BD2.out)).2.2.2.2.2.1 HB2.out.1 HB2.out.2) ?_; rintro e v21 ⟨v, rfl, hb', xx2, mm2, dd2, TT2, rfl, rr2, -⟩; have BE2 : Hid (Below U.heap.size U v21) := below_then BD2.out hb'; have RR2 := Lib.hid rr2; clear hb' rr2)
      | (go_at_call 20; refine Calls.mono (c_eqSpace_same s2 x2 m2 d2 l2 T2 xx2 mm2 dd2 TT2 v21 (P2.out _ (below_then L2U.out BE2.out)).2 RR2.out) ?_; rintro e V2 ⟨v, rfl, hb', rfl⟩; have BF2 : Hid (Below U.heap.size U V2) := below_then BE2.out hb'; clear hb'))
  have G3 : Hid (∀ w', Below U.heap.size U w' → Below W.heap.size W w' ∧ (∀ k', k' = 3 → True)) := fun w' hb => ⟨below_then LU.out hb, fun _ _ => trivial⟩
  have HELD3 : Hid (∀ w', Below U.heap.size U w' → w'.cell? ⟨u3.heap.size, 0, none⟩ = some (.int .i64 s3) ∧ w'.cell? ⟨u3.heap.size, 1, none⟩ = some (.slice x3 m3 d3) ∧ w'.cell? ⟨w.heap.size + 1 + 1, 0, none⟩ = some (.int .i64 s3) ∧ w'.cell? ⟨w.heap.size + 1 + 1, 1, none⟩ = some (.slice a3 n3 c3)) :=
    fun w' hb => ⟨(P3.out _ (below_then L3U.out hb)).1.c0, (P3.out _ (below_then L3U.out hb)).1.c1, (KEY.out _ (below_then LU.out hb)).2.2.2.1.c0, (KEY.out _ (below_then LU.out hb)).2.2.2.1.c1⟩
  have BD3 : Hid (Below U.heap.size U V2.drew) := below_dr BF2.out
  go_wp2
  go_region_held3 (fun w' => w'.cell? ⟨u3.heap.size, 0, none⟩ = some (.int .i64 s3) ∧ w'.cell? ⟨u3.heap.size, 1, none⟩ = some (.slice x3 m3 d3) ∧ w'.cell? ⟨w.heap.size + 1 + 1, 0, none⟩ = some (.int .i64 s3) ∧ w'.cell? ⟨w.heap.size + 1 + 1, 1, none⟩ = some (.slice a3 n3 c3))
    (exact HELD3.out _ (Hid.out (by assumption)))
    (first
      | (go_at_call 18; refine Calls.mono (c_toSpace s3 a3 n3 c3 l3 S3 V2.drew (KEY.out _ (below_then LU.out BD3.out)).2.2.2.2.2.2.1 HB3.out.1 HB3.out.2) ?_; rintro e v31 ⟨v, rfl, hb', xx3, mm3, dd3, TT3, rfl, rr3, -⟩; have BE3 : Hid (Below U.heap.size U v31) := below_then BD3.out hb'; have RR3 := Lib.hid rr3; clear hb' rr3)
      | (go_at_call 20; refine Calls.mono (c_eqSpace_same s3 x3 m3 d3 l3 T3 xx3 mm3 dd3 TT3 v31 (P3.out _ (below_then L3U.out BE3.out)).2 RR3.out) ?_; rintro e V3 ⟨v, rfl, hb', rfl⟩; have BF3 : Hid (Below U.heap.size U V3) := below_then BE3.out hb'; clear hb'))
  go_wp2
  go_ret
  exact ⟨rfl, (KEY.out _ (below_then LU.out BF3.out)).1⟩

theorem walk_CountIntoGeneral (p : Int) (cs1 : Array Value) (x1 : Spc) (S1 : List Nat) (cs2 : Array Value) (x2 : Spc) (S2 : List Nat) (cs3 : Array Value) (x3 : Spc) (S3 : List Nat) (w : World) (hp : fits p)
    (h1 : Shp.spc.rd w (Value.agg cs1).cells.toList x1 S1) (h2 : Shp.spc.rd w (Value.agg cs2).cells.toList x2 S2) (h3 : Shp.spc.rd w (Value.agg cs3).cells.toList x3 S3) :
    Calls Try.prog 4 #[.int .i64 p, .agg cs1, .agg cs2, .agg cs3] w fun e w' => e = .returned (.bool true) ∧ Below w.heap.size w w' := by
  obtain ⟨a1, n1, c1, e1, -, r1⟩ := h1
  obtain ⟨a2, n2, c2, e2, -, r2⟩ := h2
  obtain ⟨a3, n3, c3, e3, -, r3⟩ := h3
  have e1' : cs1.toList = _ := e1
  have e2' : cs2.toList = _ := e2
  have e3' : cs3.toList = _ := e3
  obtain rfl := arr_of e1'
  obtain rfl := arr_of e2'
  obtain rfl := arr_of e3'
  exact raw_CountIntoGeneral p _ _ _ a1 a2 a3 n1 c1 n2 c2 n3 c3 _ _ _ S1 S2 S3 w hp r1 r2 r3
end Go.Proofs.Ytpngpgbmkkjjgaa

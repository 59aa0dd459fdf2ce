/-
  The walk of the law FnExactStarOf.
-/
import Derived.Test.YtfnmcjpbknnmjaaC4
namespace Go.Proofs.Ytfnmcjpbknnmjaa
open Go.RowKit

theorem starV_small (n : Int) : (starV n).src.length ≤ 1048576 ∧ (starV n).tgt.length ≤ 1048576 := by
  unfold starV
  cases h : inR n 1 4 with
  | false => simp
  | true => have := inR_true h; simp; omega

set_option maxHeartbeats 2000000 in
theorem walk_StarOf (n : Int) (w : World) (_f : fits n) :
    Calls Try.prog 5 #[.int .i64 n] w fun e w' => e = .returned (.bool true) ∧ Below w.heap.size w w' := by
  have hsm := Lib.hid (starV_small n)
  go_enter Try.func5, Try.ntmps5
  go_wp2_with fail
  refine (c_spec_StarOf n w).mono ?_
  rintro e w1 ⟨v, rfl, hb1, cs1, S1, rfl, hr1, hn1⟩
  have hr1' := hr1
  obtain ⟨a1, m1, c1, a1', m1', c1', T1, T1', e1, f1, r1, r1', -⟩ := hr1'
  obtain rfl := arr_of e1
  have B1 := Lib.hid hb1
  have R1 := Lib.hid hr1
  clear hb1 hr1 hn1 r1 r1' e1 f1
  go_wp2_with fail
  refine calls_gen (fun x1 hx1 => ?_)
  have hA : At x1 w1.heap.size 0 [.int .i64 (starV n).vertices, .slice a1 m1 c1, .slice a1' m1' c1'] := by rw [hx1]; exact At.alloc w1 _ _
  have hb : Below w1.heap.size w1 x1 := by rw [hx1]; exact (Below.refl _ _).alloc (Nat.le_refl _) _
  have hz : w1.heap.size < x1.heap.size := by rw [hx1]; simp
  have A1 := Lib.hid hA
  have RX1 := Lib.hid (Shp.quiver_good.below R1.out hb)
  have BX1 := Lib.hid (below_then B1.out hb)
  have hx0 : w.heap.size ≤ x1.heap.size := BX1.out.size
  clear hA hb hx1 R1 B1
  refine (c_impl_StarOf n x1).mono ?_
  rintro e w2 ⟨v, rfl, hb2, cs2, S2, rfl, hr2, hn2⟩
  have hr2' := hr2
  obtain ⟨a2, m2, c2, a2', m2', c2', T2, T2', e2, f2, r2, r2', -⟩ := hr2'
  obtain rfl := arr_of e2
  have A2 := Lib.hid (A1.out.keep (hb2.block _ hz))
  have R2 := Lib.hid (Shp.quiver_good.below RX1.out hb2)
  have B2 := Lib.hid (below_then BX1.out hb2)
  have G2 := Lib.hid hr2
  have N2 := Lib.hid (And.intro hn2 (And.intro (Shp.quiver_good.lt RX1.out) (Shp.quiver_good.lt hr2)))
  have hz2 := Nat.lt_of_lt_of_le hz hb2.size
  have q0 := A2.out.c0
  have q1 := A2.out.c1
  have q2 := A2.out.c2
  clear hb2 hr2 hn2 r2 r2' e2 f2 A1 RX1 BX1
  go_wp2_with fail
  refine calls_gen (fun x2 hx2 => ?_)
  have hA : At x2 w2.heap.size 0 [.int .i64 (starV n).vertices, .slice a2 m2 c2, .slice a2' m2' c2'] := by rw [hx2]; exact At.alloc w2 _ _
  have hb : Below w2.heap.size w2 x2 := by rw [hx2]; exact (Below.refl _ _).alloc (Nat.le_refl _) _
  have hz3 : w2.heap.size < x2.heap.size := by rw [hx2]; simp
  have AW := Lib.hid (A2.out.keep (hb.block _ hz2))
  have AG := Lib.hid hA
  have RW := Lib.hid (Shp.quiver_good.below R2.out hb)
  have RG := Lib.hid (Shp.quiver_good.below G2.out hb)
  have BX := Lib.hid (below_then B2.out hb)
  clear hA hb hx2 R2 B2 A2 G2 q0 q1 q2
  refine (c_eqQuiver _ _ _ _ _ x2 RG.out RW.out).mono ?_
  rintro e w3 ⟨v, rfl, hb3, rfl⟩
  have AW3 := Lib.hid (AW.out.keep (hb3.block _ (by omega)))
  have AG3 := Lib.hid (AG.out.keep (hb3.block _ hz3))
  have RW3 := Lib.hid (Shp.quiver_good.below RW.out hb3)
  have RG3 := Lib.hid (Shp.quiver_good.below RG.out hb3)
  have BX3 := Lib.hid (below_then BX.out hb3)
  have hz4 := hb3.size
  clear hb3 AW AG RW RG BX
  have q0 := AG3.out.c0
  have q1 := AG3.out.c1
  have q2 := AG3.out.c2
  go_wp2_with fail
  refine (c_markQuiver _ _ _ 1 w3 RG3.out N2.out.1.1 (by omega) (by omega) hsm.out.1 hsm.out.2).mono ?_
  rintro e w4 ⟨rfl, hf4, hr4⟩
  have AW4 := Lib.hid (AW3.out.frm hf4 (by omega) (fun hm => by have := N2.out.1.2 _ hm; omega))
  have AG4 := Lib.hid (AG3.out.frm hf4 (by omega) (fun hm => by have := N2.out.2.2 _ hm; omega))
  have RW4 := Lib.hid (Shp.quiver_good.frm RW3.out hf4 (fun b hb hm => by have := N2.out.1.2 _ hm; have := N2.out.2.1 _ hb; omega))
  have RG4 := Lib.hid hr4
  have BX4 := Lib.hid (BX3.out.trans (hf4.to_below (B := w.heap.size) (by have := BX3.out.size; omega) (fun b hb => by have := N2.out.1.2 _ hb; have := hx0; omega)))
  have hz5 := hf4.size
  clear hf4 hr4 q0 q1 q2 AW3 AG3 RW3 RG3 BX3
  have q0 := AG4.out.c0
  have q1 := AG4.out.c1
  have q2 := AG4.out.c2
  go_wp2_with fail
  refine (c_heldQuiver _ _ _ 1 w4 RG4.out (by omega) (by omega) hsm.out.1 hsm.out.2).mono ?_
  rintro e w5 ⟨v, rfl, hb5, rfl⟩
  have AW5 := Lib.hid (AW4.out.keep (hb5.block _ (by omega)))
  have AG5 := Lib.hid (AG4.out.keep (hb5.block _ (by omega)))
  have RW5 := Lib.hid (Shp.quiver_good.below RW4.out hb5)
  have RG5 := Lib.hid (Shp.quiver_good.below RG4.out hb5)
  have BX5 := Lib.hid (below_then BX4.out hb5)
  have hz6 := hb5.size
  clear hb5 AW4 AG4 RW4 RG4 BX4 q0 q1 q2
  go_wp2_with fail
  refine (c_impl_StarOf n w5).mono ?_
  rintro e w6 ⟨v, rfl, hb6, cs3, S3, rfl, hr3, hn3⟩
  have hr3' := hr3
  obtain ⟨a3, m3, c3, a3', m3', c3', T3, T3', e3, f3, r3, r3', -⟩ := hr3'
  obtain rfl := arr_of e3
  have AW6 := Lib.hid (AW5.out.keep (hb6.block _ (by omega)))
  have AG6 := Lib.hid (AG5.out.keep (hb6.block _ (by omega)))
  have RW6 := Lib.hid (Shp.quiver_good.below RW5.out hb6)
  have RG6 := Lib.hid (Shp.quiver_good.below RG5.out hb6)
  have BX6 := Lib.hid (below_then BX5.out hb6)
  have RH6 := Lib.hid hr3
  have hz7 := hb6.size
  clear hb6 hr3 hn3 r3 r3' e3 f3 AW5 AG5 RW5 RG5 BX5
  have q0 := AW6.out.c0
  have q1 := AW6.out.c1
  have q2 := AW6.out.c2
  have hlt6 : w1.heap.size < w6.heap.size := by omega
  go_wp2_with fail
  refine calls_gen (fun x3 hx3 => ?_)
  have hb : Below w6.heap.size w6 x3 := by rw [hx3]; exact (Below.refl _ _).alloc (Nat.le_refl _) _
  have AG7 := Lib.hid (AG6.out.keep (hb.block _ (by omega)))
  have RW7 := Lib.hid (Shp.quiver_good.below RW6.out hb)
  have RG7 := Lib.hid (Shp.quiver_good.below RG6.out hb)
  have RH7 := Lib.hid (Shp.quiver_good.below RH6.out hb)
  have BX7 := Lib.hid (below_then BX6.out hb)
  have hz8 := hb.size
  clear hb hx3 q0 q1 q2 AW6 AG6 RW6 RG6 RH6 BX6
  refine (c_eqQuiver _ _ _ _ _ x3 RH7.out RW7.out).mono ?_
  rintro e w7 ⟨v, rfl, hb7, rfl⟩
  have AG8 := Lib.hid (AG7.out.keep (hb7.block _ (by omega)))
  have RG8 := Lib.hid (Shp.quiver_good.below RG7.out hb7)
  have BX8 := Lib.hid (below_then BX7.out hb7)
  have hz9 := hb7.size
  clear hb7 AG7 RW7 RG7 RH7 BX7
  have q0 := AG8.out.c0
  have q1 := AG8.out.c1
  have q2 := AG8.out.c2
  go_wp2_with fail
  refine (c_heldQuiver _ _ _ 1 w7 RG8.out (by omega) (by omega) hsm.out.1 hsm.out.2).mono ?_
  rintro e w8 ⟨v, rfl, hb8, rfl⟩
  have BX9 := Lib.hid (below_then BX8.out hb8)
  clear hb8 AG8 RG8 BX8 q0 q1 q2
  go_wp2
  go_ret
  exact ⟨rfl, BX9.out⟩
end Go.Proofs.Ytfnmcjpbknnmjaa

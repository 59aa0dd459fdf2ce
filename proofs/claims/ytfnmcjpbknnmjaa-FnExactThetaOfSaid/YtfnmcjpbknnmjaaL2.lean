/-
  The law FnExactThetaOf: the program's ThetaOf returns what the reference's returns, for all arguments. No condition.
-/
import Derived.Test.YtfnmcjpbknnmjaaC2
namespace Go.Proofs.Ytfnmcjpbknnmjaa
open Go.RowKit

set_option maxHeartbeats 1000000 in
theorem walk_ThetaOf (a1 : Option Addr) (n1 c1 : Nat) (t : List Int) (T1 : List Nat) (a2 : Option Addr) (n2 c2 : Nat) (d : List Int) (T2 : List Nat) (w : World) (g1 : SliceRd Shp.int w a1 n1 c1 t T1) (g2 : SliceRd Shp.int w a2 n2 c2 d T2) :
    Calls Try.prog 4 #[.slice a1 n1 c1, .slice a2 n2 c2] w fun e w' => e = .returned (.bool true) ∧ Below w.heap.size w w' := by
  have h1 := g1.row
  have h2 := g2.row
  clear g1 g2
  by_cases hn1 : n1 ≤ 1048576
  · by_cases hn2 : n2 ≤ 1048576
    · go_enter Try.func4, Try.ntmps4
      go_wp2_with fail
      refine (c_toIntS _ _ _ _ _ h1 hn1).mono ?_
      rintro e w1 ⟨v, rfl, hb1, S1, hO⟩
      obtain ⟨b1, m1, k1, S0, rfl, -, r1, new1, -⟩ := hO.rd
      clear hO
      have B1 := Lib.hid hb1
      have R1 := Lib.hid r1.row
      clear hb1 new1 r1
      go_wp2_with fail
      refine (c_toIntS _ _ _ _ _ (h2.below B1.out) hn2).mono ?_
      rintro e w2 ⟨v, rfl, hb2, S2, hO⟩
      obtain ⟨b2, m2, k2, S0, rfl, -, r2, new2, -⟩ := hO.rd
      clear hO
      have B2 := Lib.hid (below_then B1.out hb2)
      have R1' := Lib.hid (R1.out.below hb2)
      have R2 := Lib.hid r2.row
      clear hb2 new2 r2 B1 R1
      go_wp2_with fail
      refine (c_spec_ThetaOf _ _ _ _ _ _ _ _ _ R1'.out R2.out).mono ?_
      rintro e w3 ⟨rfl, q, rfl⟩
      have B3 := Lib.hid (below_drewN q B2.out)
      clear B2 R1' R2
      go_wp2_with fail
      refine (c_toIntS _ _ _ _ _ (h1.below B3.out) hn1).mono ?_
      rintro e w4 ⟨v, rfl, hb4, S4, hO⟩
      obtain ⟨b4, m4, k4, S0, rfl, -, r4, new4, -⟩ := hO.rd
      clear hO
      have B4 := Lib.hid (below_then B3.out hb4)
      have R4 := Lib.hid r4.row
      clear hb4 new4 r4 B3
      go_wp2_with fail
      refine (c_toIntS _ _ _ _ _ (h2.below B4.out) hn2).mono ?_
      rintro e w5 ⟨v, rfl, hb5, S5, hO⟩
      obtain ⟨b5, m5, k5, S0, rfl, -, r5, new5, -⟩ := hO.rd
      clear hO
      have B5 := Lib.hid (below_then B4.out hb5)
      have R4' := Lib.hid (R4.out.below hb5)
      have R5 := Lib.hid r5.row
      clear hb5 new5 r5 B4 R4
      go_wp2_with fail
      refine (c_impl_ThetaOf _ _ _ _ _ _ _ _ _ R4'.out R5.out).mono ?_
      rintro e w6 ⟨v, rfl, hb6, rfl⟩
      have B6 := Lib.hid (below_then B5.out hb6)
      have R4'' := Lib.hid (R4'.out.below hb6)
      have R5' := Lib.hid (R5.out.below hb6)
      clear hb6 B5 R4' R5
      go_wp2_with fail
      refine (c_toIntS _ _ _ _ _ (h1.below B6.out) hn1).mono ?_
      rintro e w7 ⟨v, rfl, hb7, S7, hO⟩
      obtain ⟨b7, m7, k7, S0, rfl, -, r7, new7, -⟩ := hO.rd
      clear hO
      have B7 := Lib.hid (below_then B6.out hb7)
      have R4 := Lib.hid (R4''.out.below hb7)
      have R5 := Lib.hid (R5'.out.below hb7)
      have R7 := Lib.hid r7.row
      clear hb7 new7 r7 B6 R4'' R5'
      go_wp2_with fail
      refine (c_eqIntS _ _ _ _ _ _ _ _ _ R4.out R7.out).mono ?_
      rintro e w8 ⟨rfl, q8, rfl⟩
      have B8 := Lib.hid (below_drewN q8 B7.out)
      have R5' := Lib.hid (R5.out.below (below_drewN q8 (Below.refl _ _)))
      clear B7 R4 R5 R7
      go_wp2_with fail
      refine (c_toIntS _ _ _ _ _ (h2.below B8.out) hn2).mono ?_
      rintro e w9 ⟨v, rfl, hb9, S9, hO⟩
      obtain ⟨b9, m9, k9, S0, rfl, -, r9, new9, -⟩ := hO.rd
      clear hO
      have B9 := Lib.hid (below_then B8.out hb9)
      have R5 := Lib.hid (R5'.out.below hb9)
      have R9 := Lib.hid r9.row
      clear hb9 new9 r9 B8 R5'
      go_wp2_with fail
      refine (c_eqIntS _ _ _ _ _ _ _ _ _ R5.out R9.out).mono ?_
      rintro e w8 ⟨rfl, q9, rfl⟩
      go_wp2
      go_ret
      exact ⟨rfl, below_drewN q9 B9.out⟩
    · go_enter Try.func4, Try.ntmps4
      go_wp2
      go_ret
      exact ⟨rfl, Below.refl _ _⟩
  · go_enter Try.func4, Try.ntmps4
    go_wp2
    go_ret
    exact ⟨rfl, Below.refl _ _⟩

end Go.Proofs.Ytfnmcjpbknnmjaa

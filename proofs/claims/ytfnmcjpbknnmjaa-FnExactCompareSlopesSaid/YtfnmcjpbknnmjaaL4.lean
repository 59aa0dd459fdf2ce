/-
  The walk of the law FnExactCompareSlopes.
-/
import Derived.Test.YtfnmcjpbknnmjaaC3
namespace Go.Proofs.Ytfnmcjpbknnmjaa
open Go.RowKit

set_option maxHeartbeats 2000000 in
theorem walk_CompareSlopes (a0 : Option Addr) (n0 c0 : Nat) (l0 : List Int) (S0 : List Nat) (a1 : Option Addr) (n1 c1 : Nat) (l1 : List Int) (S1 : List Nat) (a2 : Option Addr) (n2 c2 : Nat) (l2 : List Int) (S2 : List Nat) (w : World) (r0 : SliceRd Shp.int w a0 n0 c0 l0 S0) (r1 : SliceRd Shp.int w a1 n1 c1 l1 S1) (r2 : SliceRd Shp.int w a2 n2 c2 l2 S2) :
    Calls Try.prog 6 #[.slice a0 n0 c0, .slice a1 n1 c1, .slice a2 n2 c2] w fun e w' => e = .returned (.bool true) ∧ Below w.heap.size w w' := by
  have R0 := Lib.hid r0.row
  have R1 := Lib.hid r1.row
  have R2 := Lib.hid r2.row
  clear r0
  clear r1
  clear r2
  by_cases hn0 : n0 ≤ 1048576
  case neg =>
    go_enter Try.func6, Try.ntmps6
    go_wp2
    go_ret
    exact ⟨rfl, Below.refl _ _⟩
  by_cases hn1 : n1 ≤ 1048576
  case neg =>
    go_enter Try.func6, Try.ntmps6
    go_wp2
    go_ret
    exact ⟨rfl, Below.refl _ _⟩
  by_cases hn2 : n2 ≤ 1048576
  case neg =>
    go_enter Try.func6, Try.ntmps6
    go_wp2
    go_ret
    exact ⟨rfl, Below.refl _ _⟩
  have B0 := Lib.hid (Below.refl w.heap.size w)
  go_enter Try.func6, Try.ntmps6
  go_wp2_with fail
  refine (c_toIntS _ _ _ _ _ R0.out hn0).mono ?_
  rintro e w1 ⟨v, rfl, hb2, _, hO3⟩
  obtain ⟨_, _, _, _, rfl, -, r4, -, -⟩ := hO3.rd
  clear hO3
  have F5 := Lib.hid r4.row
  clear r4
  have F6 := Lib.hid (R0.out.below hb2)
  clear R0
  have F7 := Lib.hid (R1.out.below hb2)
  clear R1
  have F8 := Lib.hid (R2.out.below hb2)
  clear R2
  have B9 := Lib.hid (below_then B0.out hb2)
  clear B0 hb2
  go_wp2_with fail
  refine (c_toIntS _ _ _ _ _ F7.out hn1).mono ?_
  rintro e w10 ⟨v, rfl, hb11, _, hO12⟩
  obtain ⟨_, _, _, _, rfl, -, r13, -, -⟩ := hO12.rd
  clear hO12
  have F14 := Lib.hid r13.row
  clear r13
  have F15 := Lib.hid (F6.out.below hb11)
  clear F6
  have F16 := Lib.hid (F7.out.below hb11)
  clear F7
  have F17 := Lib.hid (F8.out.below hb11)
  clear F8
  have F18 := Lib.hid (F5.out.below hb11)
  clear F5
  have B19 := Lib.hid (below_then B9.out hb11)
  clear B9 hb11
  go_wp2_with fail
  refine (c_toIntS _ _ _ _ _ F17.out hn2).mono ?_
  rintro e w20 ⟨v, rfl, hb21, _, hO22⟩
  obtain ⟨_, _, _, _, rfl, -, r23, -, -⟩ := hO22.rd
  clear hO22
  have F24 := Lib.hid r23.row
  clear r23
  have F25 := Lib.hid (F15.out.below hb21)
  clear F15
  have F26 := Lib.hid (F16.out.below hb21)
  clear F16
  have F27 := Lib.hid (F17.out.below hb21)
  clear F17
  have F28 := Lib.hid (F18.out.below hb21)
  clear F18
  have F29 := Lib.hid (F14.out.below hb21)
  clear F14
  have B30 := Lib.hid (below_then B19.out hb21)
  clear B19 hb21
  go_wp2_with fail
  refine (c_spec_CompareSlopes _ _ _ _ _ _ _ _ _ _ _ _ _ F28.out F29.out F24.out).mono ?_
  rintro e w31 ⟨rfl, hq33⟩
  have hb32 := drawn_below hq33
  clear hq33
  clear F28
  clear F29
  clear F24
  have F34 := Lib.hid (F25.out.below hb32)
  clear F25
  have F35 := Lib.hid (F26.out.below hb32)
  clear F26
  have F36 := Lib.hid (F27.out.below hb32)
  clear F27
  have B37 := Lib.hid (below_then B30.out hb32)
  clear B30 hb32
  go_wp2_with fail
  refine (c_toIntS _ _ _ _ _ F34.out hn0).mono ?_
  rintro e w38 ⟨v, rfl, hb39, _, hO40⟩
  obtain ⟨_, _, _, _, rfl, -, r41, -, -⟩ := hO40.rd
  clear hO40
  have F42 := Lib.hid r41.row
  clear r41
  have F43 := Lib.hid (F34.out.below hb39)
  clear F34
  have F44 := Lib.hid (F35.out.below hb39)
  clear F35
  have F45 := Lib.hid (F36.out.below hb39)
  clear F36
  have B46 := Lib.hid (below_then B37.out hb39)
  clear B37 hb39
  go_wp2_with fail
  refine (c_toIntS _ _ _ _ _ F44.out hn1).mono ?_
  rintro e w47 ⟨v, rfl, hb48, _, hO49⟩
  obtain ⟨_, _, _, _, rfl, -, r50, -, -⟩ := hO49.rd
  clear hO49
  have F51 := Lib.hid r50.row
  clear r50
  have F52 := Lib.hid (F43.out.below hb48)
  clear F43
  have F53 := Lib.hid (F44.out.below hb48)
  clear F44
  have F54 := Lib.hid (F45.out.below hb48)
  clear F45
  have F55 := Lib.hid (F42.out.below hb48)
  clear F42
  have B56 := Lib.hid (below_then B46.out hb48)
  clear B46 hb48
  go_wp2_with fail
  refine (c_toIntS _ _ _ _ _ F54.out hn2).mono ?_
  rintro e w57 ⟨v, rfl, hb58, _, hO59⟩
  obtain ⟨_, _, _, _, rfl, -, r60, -, -⟩ := hO59.rd
  clear hO59
  have F61 := Lib.hid r60.row
  clear r60
  have F62 := Lib.hid (F52.out.below hb58)
  clear F52
  have F63 := Lib.hid (F53.out.below hb58)
  clear F53
  have F64 := Lib.hid (F54.out.below hb58)
  clear F54
  have F65 := Lib.hid (F55.out.below hb58)
  clear F55
  have F66 := Lib.hid (F51.out.below hb58)
  clear F51
  have B67 := Lib.hid (below_then B56.out hb58)
  clear B56 hb58
  go_wp2_with fail
  refine (c_impl_CompareSlopes _ _ _ _ _ _ _ _ _ _ _ _ _ F65.out F66.out F61.out).mono ?_
  rintro e w68 ⟨v, rfl, hb69, rfl⟩
  have F70 := Lib.hid (F62.out.below hb69)
  clear F62
  have F71 := Lib.hid (F63.out.below hb69)
  clear F63
  have F72 := Lib.hid (F64.out.below hb69)
  clear F64
  have F73 := Lib.hid (F65.out.below hb69)
  clear F65
  have F74 := Lib.hid (F66.out.below hb69)
  clear F66
  have F75 := Lib.hid (F61.out.below hb69)
  clear F61
  have B76 := Lib.hid (below_then B67.out hb69)
  clear B67 hb69
  go_wp2_with fail
  refine (c_toIntS _ _ _ _ _ F70.out hn0).mono ?_
  rintro e w77 ⟨v, rfl, hb78, _, hO79⟩
  obtain ⟨_, _, _, _, rfl, -, r80, -, -⟩ := hO79.rd
  clear hO79
  have F81 := Lib.hid r80.row
  clear r80
  have F82 := Lib.hid (F70.out.below hb78)
  clear F70
  have F83 := Lib.hid (F71.out.below hb78)
  clear F71
  have F84 := Lib.hid (F72.out.below hb78)
  clear F72
  have F85 := Lib.hid (F73.out.below hb78)
  clear F73
  have F86 := Lib.hid (F74.out.below hb78)
  clear F74
  have F87 := Lib.hid (F75.out.below hb78)
  clear F75
  have B88 := Lib.hid (below_then B76.out hb78)
  clear B76 hb78
  go_wp2_with fail
  refine (c_eqIntS _ _ _ _ _ _ _ _ _ F85.out F81.out).mono ?_
  rintro e w89 ⟨rfl, hq91⟩
  have hb90 := drawn_below hq91
  clear hq91
  clear F85
  clear F81
  clear F82
  have F92 := Lib.hid (F83.out.below hb90)
  clear F83
  have F93 := Lib.hid (F84.out.below hb90)
  clear F84
  have F94 := Lib.hid (F86.out.below hb90)
  clear F86
  have F95 := Lib.hid (F87.out.below hb90)
  clear F87
  have B96 := Lib.hid (below_then B88.out hb90)
  clear B88 hb90
  go_wp2_with fail
  refine (c_toIntS _ _ _ _ _ F92.out hn1).mono ?_
  rintro e w97 ⟨v, rfl, hb98, _, hO99⟩
  obtain ⟨_, _, _, _, rfl, -, r100, -, -⟩ := hO99.rd
  clear hO99
  have F101 := Lib.hid r100.row
  clear r100
  have F102 := Lib.hid (F92.out.below hb98)
  clear F92
  have F103 := Lib.hid (F93.out.below hb98)
  clear F93
  have F104 := Lib.hid (F94.out.below hb98)
  clear F94
  have F105 := Lib.hid (F95.out.below hb98)
  clear F95
  have B106 := Lib.hid (below_then B96.out hb98)
  clear B96 hb98
  go_wp2_with fail
  refine (c_eqIntS _ _ _ _ _ _ _ _ _ F104.out F101.out).mono ?_
  rintro e w107 ⟨rfl, hq109⟩
  have hb108 := drawn_below hq109
  clear hq109
  clear F104
  clear F101
  clear F102
  have F110 := Lib.hid (F103.out.below hb108)
  clear F103
  have F111 := Lib.hid (F105.out.below hb108)
  clear F105
  have B112 := Lib.hid (below_then B106.out hb108)
  clear B106 hb108
  go_wp2_with fail
  refine (c_toIntS _ _ _ _ _ F110.out hn2).mono ?_
  rintro e w113 ⟨v, rfl, hb114, _, hO115⟩
  obtain ⟨_, _, _, _, rfl, -, r116, -, -⟩ := hO115.rd
  clear hO115
  have F117 := Lib.hid r116.row
  clear r116
  have F118 := Lib.hid (F110.out.below hb114)
  clear F110
  have F119 := Lib.hid (F111.out.below hb114)
  clear F111
  have B120 := Lib.hid (below_then B112.out hb114)
  clear B112 hb114
  go_wp2_with fail
  refine (c_eqIntS _ _ _ _ _ _ _ _ _ F119.out F117.out).mono ?_
  rintro e w121 ⟨rfl, hq123⟩
  have hb122 := drawn_below hq123
  clear hq123
  clear F119
  clear F117
  clear F118
  have B124 := Lib.hid (below_then B120.out hb122)
  clear B120 hb122
  go_wp2
  go_ret
  exact ⟨rfl, B124.out⟩
end Go.Proofs.Ytfnmcjpbknnmjaa

/-
  The walk of the law FnExactCountReps.
-/
import Derived.Test.YtpngpgbmkkjjgaaC10
import Derived.Test.YtpngpgbmkkjjgaaC11
namespace Go.Proofs.Ytpngpgbmkkjjgaa
open Go.RowKit

set_option maxRecDepth 20000 in
set_option maxHeartbeats 4000000 in
theorem walk_CountReps (p : Int) (cs : Array Value) (x : Quiver) (S : List Nat) (a : Option Addr) (n c : Nat) (d : List Int) (S' : List Nat) (w : World) (_f : fits p) (h : Shp.quiver.rd w (Value.agg cs).cells.toList x S) (hd : SliceRd Shp.int w a n c d S') :
    Calls Try.prog 3 #[.int .i64 p, .agg cs, .slice a n c] w fun e w' => e = .returned (.bool true) ∧ Below w.heap.size w w' := by
  have h0 : Shp.quiver.rd w cs.toList x S := h
  clear h
  obtain ⟨a1, n1, c1, a2, n2, c2, T1, T2, e1, f1, r1, r2, -⟩ := id h0
  obtain rfl := arr_of e1
  have hm := hd.max
  have b0 : Below w.heap.size w (w.alloc (.cells #[.int .i64 x.vertices, .slice a1 n1 c1, .slice a2 n2 c2] 24)) := (Below.refl _ _).alloc (Nat.le_refl _) _
  have KEY : Hid (∀ wr, Below (w.alloc (.cells #[.int .i64 x.vertices, .slice a1 n1 c1, .slice a2 n2 c2] 24)).heap.size (w.alloc (.cells #[.int .i64 x.vertices, .slice a1 n1 c1, .slice a2 n2 c2] 24)) wr → At wr w.heap.size 0 [.int .i64 x.vertices, .slice a1 n1 c1, .slice a2 n2 c2] ∧ Below w.heap.size w wr ∧ Shp.quiver.rd wr [.int .i64 x.vertices, .slice a1 n1 c1, .slice a2 n2 c2] x S ∧ SliceRd Shp.int wr a n c d S') := by
    intro w1 hb
    exact ⟨(At.alloc w #[.int .i64 x.vertices, .slice a1 n1 c1, .slice a2 n2 c2] 24).keep (hb.block _ (by simp)), below_then b0 hb, Shp.quiver_good.below (Shp.quiver_good.below h0 b0) hb, (hd.below Shp.int_good b0).below Shp.int_good hb⟩
  clear r1 r2 e1 f1 b0 h0 hd
  by_cases hn : n ≤ 1048576
  · have X0 := Lib.hid (KEY.out _ (Below.refl _ _))
    have HS := Lib.hid (c_szQuiver _ x S 1048576 _ X0.out.2.2.1 (by omega) (by omega))
    clear X0
    go_enter Try.func3, Try.ntmps3
    go_wp2_with fail
    generalize w.alloc (.cells #[.int .i64 x.vertices, .slice a1 n1 c1, .slice a2 n2 c2] 24) = W0 at *
    refine HS.out.mono ?_
    rintro e w1 ⟨v, rfl, hb1, rfl⟩
    have B1 := Lib.hid hb1
    clear hb1 HS
    by_cases hneg : szQ x 1048576 < 0
    · go_wp2
      go_ret
      exact ⟨rfl, (KEY.out _ B1.out).2.1⟩
    · have hsm := szQ_pos hneg (by omega)
      have hs := hsm.1
      have ht := hsm.2
      have q0 := (KEY.out _ B1.out).1.c0
      have q1 := (KEY.out _ B1.out).1.c1
      have q2 := (KEY.out _ B1.out).1.c2
      clear hsm
      go_wp2_with fail
      refine (c_toQuiver _ x S _ (KEY.out _ B1.out).2.2.1 hs ht).mono ?_
      rintro e w2 ⟨v, rfl, hb2, cs2, S2, rfl, hr2, hn2⟩
      have B2 := Lib.hid (below_then B1.out hb2)
      have R2 := Lib.hid hr2
      clear hb2 hr2 hn2 B1 q0 q1 q2
      go_wp2_with fail
      refine (c_toIntS a n c d _ (KEY.out _ B2.out).2.2.2.row hn).mono ?_
      rintro e w3 ⟨v, rfl, hb3, S3, hO3⟩
      obtain ⟨a3, n3, c3, S3', rfl, -, r3, -, -⟩ := hO3.rd
      have HC := Lib.hid (c_spec_CountReps p cs2 x S2 a3 n3 c3 d S3' w3 (Shp.quiver_good.below R2.out hb3) r3)
      have B3 := Lib.hid (below_then B2.out hb3)
      clear hb3 hO3 r3 B2 R2
      go_wp2_with fail
      refine HC.out.mono ?_
      rintro e w4 ⟨v, rfl, hb4, rfl⟩
      have B4 := Lib.hid (below_then B3.out hb4)
      have q0 := (KEY.out _ B4.out).1.c0
      have q1 := (KEY.out _ B4.out).1.c1
      have q2 := (KEY.out _ B4.out).1.c2
      clear hb4 B3 HC
      go_wp2_with fail
      refine (c_toQuiver _ x S _ (KEY.out _ B4.out).2.2.1 hs ht).mono ?_
      rintro e w5 ⟨v, rfl, hb5, cs5, S5, rfl, hr5, hn5⟩
      obtain ⟨a5, n5, c5, a6, n6, c6, T5, T6, e5, -, -, -, -⟩ := id hr5
      obtain rfl := arr_of e5
      have hb6 : Below w5.heap.size w5 (w5.alloc (.cells #[.int .i64 x.vertices, .slice a5 n5 c5, .slice a6 n6 c6] 27)) := (Below.refl _ _).alloc (Nat.le_refl _) _
      have B6 := Lib.hid (below_then (below_then B4.out hb5) hb6)
      have KEY2 : Hid (∀ wr, Below (w5.alloc (.cells #[.int .i64 x.vertices, .slice a5 n5 c5, .slice a6 n6 c6] 27)).heap.size (w5.alloc (.cells #[.int .i64 x.vertices, .slice a5 n5 c5, .slice a6 n6 c6] 27)) wr → At wr w5.heap.size 0 [.int .i64 x.vertices, .slice a5 n5 c5, .slice a6 n6 c6] ∧ Below W0.heap.size W0 wr ∧ Shp.quiver.rd wr [.int .i64 x.vertices, .slice a5 n5 c5, .slice a6 n6 c6] x S5) := by
        intro w1 hb
        exact ⟨(At.alloc w5 #[.int .i64 x.vertices, .slice a5 n5 c5, .slice a6 n6 c6] 27).keep (hb.block _ (by simp)), below_then B6.out hb, Shp.quiver_good.below (Shp.quiver_good.below hr5 hb6) hb⟩
      clear hb5 hr5 hn5 e5 hb6 q0 q1 q2 B4
      go_wp2_with fail
      generalize w5.alloc (.cells #[.int .i64 x.vertices, .slice a5 n5 c5, .slice a6 n6 c6] 27) = W1 at *
      refine (c_toIntS a n c d _ (KEY.out _ B6.out).2.2.2.row hn).mono ?_
      rintro e w7 ⟨v, rfl, hb7, S7, hO7⟩
      obtain ⟨a7, n7, c7, S7', rfl, -, r7, -, -⟩ := hO7.rd
      have B7 := Lib.hid hb7
      have q0 := (KEY2.out _ hb7).1.c0
      have q1 := (KEY2.out _ hb7).1.c1
      have q2 := (KEY2.out _ hb7).1.c2
      have R7 := Lib.hid r7
      have HC := Lib.hid (c_impl_CountReps p _ x S5 a7 n7 c7 d S7' w7 (KEY2.out _ hb7).2.2 r7)
      clear hb7 hO7 r7 B6
      go_wp2_with fail
      refine HC.out.mono ?_
      rintro e w8 ⟨v, rfl, hb8, rfl⟩
      have B8 := Lib.hid (below_then B7.out hb8)
      have R8 := Lib.hid (R7.out.below Shp.int_good hb8)
      clear hb8 B7 R7 HC q0 q1 q2
      have HELD : Hid (∀ w', Below W1.heap.size W1 w' → w'.cell? ⟨w5.heap.size, 0, none⟩ = some (.int .i64 x.vertices) ∧ w'.cell? ⟨w5.heap.size, 1, none⟩ = some (.slice a5 n5 c5) ∧ w'.cell? ⟨w5.heap.size, 2, none⟩ = some (.slice a6 n6 c6) ∧ w'.cell? ⟨w.heap.size, 0, none⟩ = some (.int .i64 x.vertices) ∧ w'.cell? ⟨w.heap.size, 1, none⟩ = some (.slice a1 n1 c1) ∧ w'.cell? ⟨w.heap.size, 2, none⟩ = some (.slice a2 n2 c2)) :=
        fun w' hb => ⟨(KEY2.out _ hb).1.c0, (KEY2.out _ hb).1.c1, (KEY2.out _ hb).1.c2, (KEY.out _ (KEY2.out _ hb).2.1).1.c0, (KEY.out _ (KEY2.out _ hb).2.1).1.c1, (KEY.out _ (KEY2.out _ hb).2.1).1.c2⟩
      have BD : Hid (Below W1.heap.size W1 w8.drew) := (below_drewN 1 B8.out : Below W1.heap.size W1 (w8.drewN 1))
      have RD : Hid (SliceRd Shp.int w8.drew a7 n7 c7 d S7') := R8.out.below Shp.int_good ⟨rfl, rfl, rfl, Nat.le_refl _, fun _ _ => rfl⟩
      clear R8 B8
      go_wp2
      go_region_held3 (fun w' => w'.cell? ⟨w5.heap.size, 0, none⟩ = some (.int .i64 x.vertices) ∧ w'.cell? ⟨w5.heap.size, 1, none⟩ = some (.slice a5 n5 c5) ∧ w'.cell? ⟨w5.heap.size, 2, none⟩ = some (.slice a6 n6 c6) ∧ w'.cell? ⟨w.heap.size, 0, none⟩ = some (.int .i64 x.vertices) ∧ w'.cell? ⟨w.heap.size, 1, none⟩ = some (.slice a1 n1 c1) ∧ w'.cell? ⟨w.heap.size, 2, none⟩ = some (.slice a2 n2 c2))
        (exact HELD.out _ (Hid.out (by assumption)))
        (first
          | (go_at_call 11; refine Calls.mono (c_toQuiver _ x S w8.drew (KEY.out _ (KEY2.out _ BD.out).2.1).2.2.1 hs ht) ?_; rintro e w9 ⟨v, rfl, hb9, cs9, S9, rfl, hr9, hn9⟩; have B9 := Lib.hid (below_then BD.out hb9); have R9 := Lib.hid hr9; have RD9 := Lib.hid (RD.out.below Shp.int_good hb9); clear hb9 hr9 hn9)
          | (go_at_call 14; refine Calls.mono (c_eqQuiver _ _ x _ _ w9 (KEY2.out _ B9.out).2.2 R9.out) ?_; rintro e w10 ⟨v, rfl, hb10, rfl⟩; have B10 := Lib.hid (below_then B9.out hb10); have RD10 := Lib.hid (RD9.out.below Shp.int_good hb10); clear hb10))
      go_wp2_with fail
      refine (c_toIntS a n c d _ (KEY.out _ (KEY2.out _ B10.out).2.1).2.2.2.row hn).mono ?_
      rintro e w11 ⟨v, rfl, hb11, S11, hO11⟩
      obtain ⟨a11, n11, c11, S11', rfl, -, r11, -, -⟩ := hO11.rd
      have HC := Lib.hid (c_eqIntS a7 n7 c7 d a11 n11 c11 d w11 (RD10.out.below Shp.int_good hb11).row r11.row)
      have B11 := Lib.hid (below_then B10.out hb11)
      clear hb11 hO11 r11
      go_wp2_with fail
      refine HC.out.mono ?_
      rintro e w12 ⟨rfl, q, rfl⟩
      have HT : decide (d = d) = true := by simp
      go_wp2
      go_ret
      exact ⟨rfl, below_drewN _ (KEY.out _ (KEY2.out _ B11.out).2.1).2.1⟩
  · go_enter Try.func3, Try.ntmps3
    go_wp2
    go_ret
    exact ⟨rfl, (KEY.out _ (Below.refl _ _)).2.1⟩
end Go.Proofs.Ytpngpgbmkkjjgaa

/-
  Contracts: sums and intersections of spaces.
-/
import Derived.Test.YtpngpgbmkkjjgaaC20
import Derived.Deep.RegionHeld3
namespace Go.Proofs.Ytpngpgbmkkjjgaa
open Go.RowKit

theorem pair_rows {w : World} {t : Nat} {a1 a2 : Option Addr} {n1 c1 n2 c2 : Nat} {l1 l2 : List (List Int)} {S1 S2 : List Nat} (h1 : SliceRd Shp.ints w a1 n1 c1 l1 S1) (h2 : SliceRd Shp.ints w a2 n2 c2 l2 S2) :
    SliceRd Shp.rows (w.alloc (.cells #[.slice a1 n1 c1, .slice a2 n2 c2] t)) (some ⟨w.heap.size, 0, none⟩) 2 2 [l1, l2] (w.heap.size :: (S1 ++ S2)) := by
  have hb : Below w.heap.size w (w.alloc (.cells #[.slice a1 n1 c1, .slice a2 n2 c2] t)) := (Below.refl _ _).alloc (Nat.le_refl _) _
  refine ⟨rfl, Nat.le_refl _, by unfold maxLen; omega, .inr ⟨w.heap.size, 0, [.slice a1 n1 c1, .slice a2 n2 c2], S1 ++ S2, by simp, rfl, by simp, rfl, At.alloc w _ _, ?_⟩⟩
  exact ⟨[.slice a1 n1 c1], [.slice a2 n2 c2], S1, S2, rfl, rfl, ⟨a1, n1, c1, rfl, h1.below Shp.ints_good hb⟩, CellsRd.single ⟨a2, n2, c2, rfl, h2.below Shp.ints_good hb⟩⟩

theorem below_drew {w : World} : Below w.heap.size w w.drew := ⟨rfl, rfl, rfl, Nat.le_refl _, fun _ _ => rfl⟩

set_option maxRecDepth 20000 in
set_option maxHeartbeats 4000000 in
theorem c_sumSpace (p : Int) (n : Nat) (a1 a2 : Option Addr) (n1 c1 n2 c2 : Nat) (l1 l2 : List (List Int)) (S1 S2 : List Nat) (w : World) (hp : isF p = true) (h1 : SliceRd Shp.ints w a1 n1 c1 l1 S1) (h2 : SliceRd Shp.ints w a2 n2 c2 l2 S2) (hn : n ≤ 1024) (hn1 : n1 ≤ 512) (hn2 : n2 ≤ 512) (hv1 : VecsP p n l1) (hv2 : VecsP p n l2) :
    Calls Try.prog 81 #[.int .i64 p, .agg #[.int .i64 n, .slice a1 n1 c1], .agg #[.int .i64 n, .slice a2 n2 c2]] w (Ret w fun v w' => ∃ a' n' c' S, v = .agg #[.int .i64 n, .slice a' n' c'] ∧ Own 22 Shp.ints w' w.heap.size (.slice a' n' c') (sumL p n l1 l2) S) := by
  have b0 := (Below.refl w.heap.size w).alloc (Nat.le_refl _) (.cells #[.int .i64 n, .slice a1 n1 c1] 38)
  have b1 := (Below.refl _ (w.alloc (.cells #[.int .i64 n, .slice a1 n1 c1] 38))).alloc (Nat.le_refl _) (.cells #[.int .i64 n, .slice a2 n2 c2] 38)
  have b2 := (Below.refl _ ((w.alloc (.cells #[.int .i64 n, .slice a1 n1 c1] 38)).alloc (.cells #[.int .i64 n, .slice a2 n2 c2] 38))).alloc (Nat.le_refl _) (.cells #[.int .i64 0, .slice none 0 0] 38)
  have t1 := At.alloc (w.alloc (.cells #[.int .i64 n, .slice a1 n1 c1] 38)) #[.int .i64 n, .slice a2 n2 c2] 38
  have t2 := At.alloc ((w.alloc (.cells #[.int .i64 n, .slice a1 n1 c1] 38)).alloc (.cells #[.int .i64 n, .slice a2 n2 c2] 38)) #[.int .i64 0, .slice none 0 0] 38
  rw [World.size_alloc] at t1
  rw [World.size_alloc, World.size_alloc] at t2
  have KEY : Hid (∀ wr, Below (((w.alloc (.cells #[.int .i64 n, .slice a1 n1 c1] 38)).alloc (.cells #[.int .i64 n, .slice a2 n2 c2] 38)).alloc (.cells #[.int .i64 0, .slice none 0 0] 38)).heap.size (((w.alloc (.cells #[.int .i64 n, .slice a1 n1 c1] 38)).alloc (.cells #[.int .i64 n, .slice a2 n2 c2] 38)).alloc (.cells #[.int .i64 0, .slice none 0 0] 38)) wr →
      Below w.heap.size w wr ∧ At wr w.heap.size 0 [.int .i64 n, .slice a1 n1 c1] ∧ At wr (w.heap.size + 1) 0 [.int .i64 n, .slice a2 n2 c2] ∧ At wr (w.heap.size + 1 + 1) 0 [.int .i64 0, .slice none 0 0] ∧ SliceRd Shp.ints wr a1 n1 c1 l1 S1 ∧ SliceRd Shp.ints wr a2 n2 c2 l2 S2 ∧ w.heap.size + 3 ≤ wr.heap.size) := by
    intro wr hb
    have hbw := below_then (below_then (below_then b0 b1) b2) hb
    exact ⟨hbw, (((At.alloc w _ _).keep (b1.block _ (by simp))).keep (b2.block _ (by simp; omega))).keep (hb.block _ (by simp; omega)), (t1.keep (b2.block _ (by simp))).keep (hb.block _ (by simp)), t2.keep (hb.block _ (by simp)), h1.below Shp.ints_good hbw, h2.below Shp.ints_good hbw, by have := hb.size; simp at this; omega⟩
  have HELD : Hid (∀ w', Below (w.heap.size + 1 + 1) (((w.alloc (.cells #[.int .i64 n, .slice a1 n1 c1] 38)).alloc (.cells #[.int .i64 n, .slice a2 n2 c2] 38)).alloc (.cells #[.int .i64 0, .slice none 0 0] 38)) w' →
      w'.cell? ⟨w.heap.size, 0, none⟩ = some (.int .i64 n) ∧ w'.cell? ⟨w.heap.size, 1, none⟩ = some (.slice a1 n1 c1) ∧ w'.cell? ⟨w.heap.size + 1, 1, none⟩ = some (.slice a2 n2 c2)) :=
    fun w' hb => ⟨((KEY.out _ (Below.refl _ _)).2.1.keep (hb.block _ (by omega))).c0, ((KEY.out _ (Below.refl _ _)).2.1.keep (hb.block _ (by omega))).c1, ((KEY.out _ (Below.refl _ _)).2.2.1.keep (hb.block _ (by omega))).c1⟩
  have HWZ : Hid (w.heap.size + 1 + 1 < (((w.alloc (.cells #[.int .i64 n, .slice a1 n1 c1] 38)).alloc (.cells #[.int .i64 n, .slice a2 n2 c2] 38)).alloc (.cells #[.int .i64 0, .slice none 0 0] 38)).heap.size) := by show _ < _; simp
  have HP := Lib.hid hp
  have HL : Hid (l1.length = n1 ∧ l2.length = n2) := ⟨h1.1, h2.1⟩
  have HV : Hid (VecsP p n (l1 ++ l2)) := hv1.append hv2
  clear b0 b1 b2 t1 t2 h1 h2 hv1 hv2 hp
  go_enter Try.func81, Try.ntmps81
  go_wp2
  generalize ((w.alloc (.cells #[.int .i64 n, .slice a1 n1 c1] 38)).alloc (.cells #[.int .i64 n, .slice a2 n2 c2] 38)).alloc (.cells #[.int .i64 0, .slice none 0 0] 38) = W at *
  have BD : Hid (Below (w.heap.size + 1 + 1) W W.drew) := below_drew.mono (by have := HWZ.out; omega)
  have BQ : Hid (Below (w.heap.size + 1 + 1) W (W.alloc (.cells #[.slice a1 n1 c1, .slice a2 n2 c2] 33)).drew) := (below_then ((Below.refl _ _).alloc (Nat.le_refl _) _) below_drew).mono (by have := HWZ.out; omega)
  have BP : Hid (Below W.heap.size W (W.alloc (.cells #[.slice a1 n1 c1, .slice a2 n2 c2] 33)).drew) := below_then ((Below.refl _ _).alloc (Nat.le_refl _) _) below_drew
  have RP : Hid (SliceRd Shp.rows (W.alloc (.cells #[.slice a1 n1 c1, .slice a2 n2 c2] 33)).drew (some ⟨W.heap.size, 0, none⟩) 2 2 [l1, l2] (W.heap.size :: (S1 ++ S2))) :=
    (pair_rows (KEY.out _ (Below.refl _ _)).2.2.2.2.1 (KEY.out _ (Below.refl _ _)).2.2.2.2.2.1).below Shp.rows_good below_drew
  have HFL : Hid ([l1, l2].flatten.length ≤ 1024) := by show _ ≤ _; have := HL.out; simp; omega
  go_region_held3 (fun w' => w'.cell? ⟨w.heap.size, 0, none⟩ = some (.int .i64 n) ∧ w'.cell? ⟨w.heap.size, 1, none⟩ = some (.slice a1 n1 c1) ∧ w'.cell? ⟨w.heap.size + 1, 1, none⟩ = some (.slice a2 n2 c2))
    (exact HELD.out _ (Hid.out (by assumption)))
    (first
      | (go_at_call 121; refine Calls.mono (c_Concat_rows _ _ _ _ _ _ RP.out (by omega) (by have := HFL.out; omega)) ?_; rintro e w1 ⟨v, rfl, hb1, a3, n3, c3, S3, rfl, hr3⟩; have B1 := Lib.hid (below_then BP.out hb1); have R1 := Lib.hid hr3; have Q1 := Lib.hid (B1.out.mono (Nat.le_of_lt HWZ.out)); clear hb1 hr3)
      | (go_at_call 124; refine Calls.mono (c_span p n n3 a3 c3 [l1, l2].flatten S3 w1 HP.out R1.out hn (by have := R1.out.1; have := HFL.out; omega) (by simpa using HV.out)) ?_; rintro e w2 ⟨v, rfl, hb2, a4, n4, c4, S4, rfl, hO4⟩; have B2 := Lib.hid (below_then B1.out hb2); have O4 := Lib.hid hO4; have Q2 := Lib.hid (B2.out.mono (Nat.le_of_lt HWZ.out)); have Q3 := Lib.hid ((Q2.out.setCell (p := ⟨w.heap.size + 1 + 1, 0, none⟩) (Nat.le_refl _) (.int .i64 n)).setCell (p := ⟨w.heap.size + 1 + 1, 1, none⟩) (Nat.le_refl _) (.slice a4 n4 c4))
         have o0 := (KEY.out _ B2.out).2.2.2.1.c0
         have o1 := (KEY.out _ B2.out).2.2.2.1.c1
         have i0 := (KEY.out _ B2.out).2.2.2.1.f0
         have i1 := (KEY.out _ B2.out).2.2.2.1.f1
         clear hb2 hO4))
  have HE : Hid (∀ x y : Value, Below w.heap.size w ((w2.setCell ⟨w.heap.size + 1 + 1, 0, none⟩ x).setCell ⟨w.heap.size + 1 + 1, 1, none⟩ y) ∧ Own 22 Shp.ints ((w2.setCell ⟨w.heap.size + 1 + 1, 0, none⟩ x).setCell ⟨w.heap.size + 1 + 1, 1, none⟩ y) w.heap.size (.slice a4 n4 c4) (sumL p n l1 l2) S4) := by
    intro x y
    have hz : w.heap.size + 1 + 1 < w1.heap.size := by have := (KEY.out _ B1.out).2.2.2.2.2.2; omega
    have e : [l1, l2].flatten = l1 ++ l2 := by simp
    have h0 := O4.out
    rw [e] at h0
    have h1 := (h0.setOff Shp.ints_good (p := ⟨w.heap.size + 1 + 1, 0, none⟩) (h0.off hz) x)
    have h2 := (h1.setOff Shp.ints_good (p := ⟨w.heap.size + 1 + 1, 1, none⟩) (h1.off hz) y)
    exact ⟨((KEY.out _ B2.out).1.setCell (by show w.heap.size ≤ w.heap.size + 1 + 1; omega) _).setCell (by show w.heap.size ≤ w.heap.size + 1 + 1; omega) _, own_lower h2 (by omega)⟩
  go_wp2
  have hE := HE.out (.int .i64 n) (.slice a4 n4 c4)
  exact bodyPost_ret (v := .agg #[.int .i64 n, .slice a4 n4 c4]) (by simp [results, Try.results81, go_sem, o0, o1]) rfl ⟨_, rfl, hE.1, a4, n4, c4, S4, rfl, hE.2⟩
end Go.Proofs.Ytpngpgbmkkjjgaa

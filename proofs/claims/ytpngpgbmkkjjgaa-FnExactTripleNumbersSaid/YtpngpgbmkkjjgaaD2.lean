/-
  Contracts of the reference: rows of vectors as a matrix.
-/
import Derived.Test.YtpngpgbmkkjjgaaD1
import Derived.Deep.RegionLaw
namespace Go.Proofs.Ytpngpgbmkkjjgaa
open Go.RowKit

set_option maxRecDepth 20000 in
set_option maxHeartbeats 4000000 in
theorem c_l5Rows (n : Nat) (a : Option Addr) (m c : Nat) (l : List (List Int)) (S0 : List Nat) (w : World) (h : SliceRd Shp.ints w a m c l S0) (hm : m ≤ 1048576) (hfl : l.flatten.length ≤ 1048576) :
    Calls Try.prog 101 #[.int .i64 n, .slice a m c] w (Ret w fun v w' => ∃ aR nR cR S, v = .agg #[.int .i64 m, .int .i64 n, .slice aR nR cR] ∧ SliceRd Shp.int w' aR nR cR l.flatten S ∧ New w.heap.size S) := by
  have hlen := h.1
  have b0 := (Below.refl w.heap.size w).alloc (Nat.le_refl _) (.cells #[.int .i64 0, .int .i64 0, .slice none 0 0] 107)
  have b1 := (Below.refl _ (w.alloc (.cells #[.int .i64 0, .int .i64 0, .slice none 0 0] 107))).alloc (Nat.le_refl _) (.cells #[.int .i64 m, .int .i64 n, .slice none 0 0] 107)
  have t1 := At.alloc (w.alloc (.cells #[.int .i64 0, .int .i64 0, .slice none 0 0] 107)) #[.int .i64 m, .int .i64 n, .slice none 0 0] 107
  rw [World.size_alloc] at t1
  have A0 := Lib.hid (And.intro ((At.alloc w #[.int .i64 0, .int .i64 0, .slice none 0 0] 107).keep (b1.block _ (by simp))) (And.intro t1 (below_then b0 b1)))
  have HS : Hid (((w.alloc (.cells #[.int .i64 0, .int .i64 0, .slice none 0 0] 107)).alloc (.cells #[.int .i64 m, .int .i64 n, .slice none 0 0] 107)).heap.size = w.heap.size + 1 + 1) := by show _ = _; simp
  have H0 := Lib.hid h
  have HL := Lib.hid hlen
  have HF := Lib.hid hfl
  have HT : Hid (∀ k, k < m → (l.take (k + 1)).flatten = (l.take k).flatten ++ l[k]?.getD [] ∧ ((l.take (k + 1)).flatten).length ≤ 1048576) := by
    intro k hk
    have e : (l.take (k + 1)).flatten = (l.take k).flatten ++ l[k]?.getD [] := by rw [take_snoc l k [] (by omega)]; simp
    refine ⟨e, ?_⟩
    have h2 : l.flatten = (l.take (k + 1)).flatten ++ (l.drop (k + 1)).flatten := by rw [← List.flatten_append, List.take_append_drop]
    have := hfl
    rw [h2, List.length_append] at this
    omega
  clear b0 b1 t1 h hlen hfl
  go_enter Try.func101, Try.ntmps101
  go_wp2
  generalize (w.alloc (.cells #[.int .i64 0, .int .i64 0, .slice none 0 0] 107)).alloc (.cells #[.int .i64 m, .int .i64 n, .slice none 0 0] 107) = W at *
  go_loopw [6] (fun i wr => ∃ (k : Nat) (aF : Option Addr) (nF cF : Nat) (SF : List Nat), k ≤ m ∧ i = .int .i64 k ∧ Hid (At wr (w.heap.size + 1) 0 [.int .i64 m, .int .i64 n, .slice aF nF cF] ∧ Own 3 Shp.int wr (w.heap.size + 2) (.slice aF nF cF) ((l.take k).flatten) SF ∧ Below (w.heap.size + 1) W wr)) (fun i _ => m - (intOf i).toNat)
  case atStart => exact ⟨0, none, 0, 0, [], Nat.zero_le _, rfl, A0.out.2.1, Own.nil _ _ _ _, Below.refl _ _⟩
  case round =>
    obtain ⟨k, aF, nF, cF, SF, hk, rfl, H⟩ := hrel
    by_cases hlt : k < m
    · have hbw : Below w.heap.size w wr := A0.out.2.2.trans (H.out.2.2.mono (by omega))
      obtain ⟨b, o, cs, T, rfl, hb, hbS, hat, ⟨a', n', c', rfl, hsl⟩, hsub⟩ := (H0.out.below Shp.ints_good hbw).at Shp.ints_good [] hlt
      have q0 := (hat 0 _ rfl).1
      have e3 : Shp.ints.size = 1 := rfl
      rw [e3, Nat.mul_one, Nat.add_zero] at q0
      have q2 := H.out.1.c2
      have g2 := H.out.1.f2
      have hle : (l.take k).flatten.length + n' ≤ 1048576 := by
        have h1 := HT.out k hlt
        rw [h1.1, List.length_append, hsl.1] at h1
        exact h1.2
      have HLE := Lib.hid hle
      have HR : Hid (IntRow wr.drew a' n' (l[k]?.getD [])) := (hsl.below Shp.int_good below_drew).row
      have HO : Hid (Own 3 Shp.int wr.drew (w.heap.size + 2) (.slice aF nF cF) ((l.take k).flatten) SF) := H.out.2.1.below Shp.int_good below_drew
      have hsz : w.heap.size + 2 ≤ wr.drew.heap.size := by have := H.out.2.2.size; have := HS.out; show w.heap.size + 2 ≤ wr.heap.size; omega
      have HSZ := Lib.hid hsz
      have HA : Hid (At wr.drew (w.heap.size + 1) 0 [.int .i64 m, .int .i64 n, .slice aF nF cF] ∧ Below (w.heap.size + 1) W wr.drew) := ⟨H.out.1.keep rfl, below_dr H.out.2.2⟩
      clear hat hsl hsub hbw hle hsz
      go_wp2
      go_region_law
        (first
          | (refine step_app_ints et_int rfl (.tmp 18) (.tmp 22) rfl rfl HO.out HSZ.out rfl HR.out (by have := HLE.out; omega) (by have := HLE.out; omega) ?_; intro v1 w1 S1 hO1 hF1 hS1; obtain ⟨a1, n1, c1, rfl⟩ := hO1.form
             have RS : Hid (At w1 (w.heap.size + 1) 0 [.int .i64 m, .int .i64 n, .slice aF nF cF]) := HA.out.1.frm hF1 (by have := HSZ.out; omega) (HO.out.off (by omega))
             have p2 := RS.out.c2
             have f2 := RS.out.f2
             have O1 := Lib.hid hO1
             have B1 : Hid (Below (w.heap.size + 1) W w1) := HA.out.2.trans (hF1.to_below (by have := HSZ.out; omega) (fun b hb => by have := HO.out.new.2 b hb; omega))
             clear hO1 hF1 hS1))
      all_goals (
        go_wp2
        go_roundw
        · refine ⟨k + 1, a1, n1, c1, S1, by omega, by go_num, RS.out.set 2 (.slice a1 n1 c1) (by simp), ?_, B1.out.setCell (Nat.le_refl _) _⟩
          have h1 := O1.out.setOff Shp.int_good (p := ⟨w.heap.size + 1, 2, none⟩) (O1.out.off (by show w.heap.size + 1 < _; omega)) (.slice a1 n1 c1)
          rw [(HT.out k hlt).1]
          exact h1
        · simp [intOf]; omega)
    · obtain rfl : k = m := by omega
      have HE0 : Hid (l.take k = l) := List.take_of_length_le (by have := HL.out; omega)
      have q0 := H.out.1.c0
      have q1 := H.out.1.c1
      have q2 := H.out.1.c2
      have RS : At wr w.heap.size 0 [.int .i64 0, .int .i64 0, .slice none 0 0] := A0.out.1.keep (H.out.2.2.block _ (by omega))
      have o0 := RS.c0
      have o1 := RS.c1
      have o2 := RS.c2
      have i0 := RS.f0
      have i1 := RS.f1
      have i2 := RS.f2
      have HE : Hid (∀ x y z : Value, ∃ S, Below w.heap.size w (((wr.setCell ⟨w.heap.size, 0, none⟩ x).setCell ⟨w.heap.size, 1, none⟩ y).setCell ⟨w.heap.size, 2, none⟩ z) ∧
          SliceRd Shp.int (((wr.setCell ⟨w.heap.size, 0, none⟩ x).setCell ⟨w.heap.size, 1, none⟩ y).setCell ⟨w.heap.size, 2, none⟩ z) aF nF cF l.flatten S ∧ New w.heap.size S) := by
        intro x y z
        have hbw : Below w.heap.size w wr := A0.out.2.2.trans (H.out.2.2.mono (by omega))
        obtain ⟨_, _, _, S1', hv1, -, rd1, new1, -⟩ := H.out.2.1.rd
        cases hv1
        rw [HE0.out] at rd1
        have hfr : Frm [w.heap.size] wr (((wr.setCell ⟨w.heap.size, 0, none⟩ x).setCell ⟨w.heap.size, 1, none⟩ y).setCell ⟨w.heap.size, 2, none⟩ z) := (((Frm.refl _ _).setCell (by simp) _).setCell (by simp) _).setCell (by simp) _
        exact ⟨S1', ((hbw.setCell (Nat.le_refl _) _).setCell (Nat.le_refl _) _).setCell (Nat.le_refl _) _, rd1.frm Shp.int_good hfr (fun b hb hm => by have := new1.2 b hb; simp at hm; omega), new1.mono (by omega)⟩
      clear RS
      go_wp2
      obtain ⟨S, hb, hr, hn⟩ := HE.out (.int .i64 k) (.int .i64 n) (.slice aF nF cF)
      exact bodyPost_ret (v := .agg #[.int .i64 k, .int .i64 n, .slice aF nF cF]) (by simp [results, Try.results101, go_sem, o0, o1, o2]) rfl ⟨_, rfl, hb, _, _, _, S, rfl, hr, hn⟩
end Go.Proofs.Ytpngpgbmkkjjgaa

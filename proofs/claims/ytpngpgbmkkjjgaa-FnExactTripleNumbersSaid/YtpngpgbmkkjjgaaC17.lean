/-
  Contracts: impl.span.
-/
import Derived.Test.YtpngpgbmkkjjgaaC16
namespace Go.Proofs.Ytpngpgbmkkjjgaa
open Go.RowKit

theorem et_ints : ElemTy Try.prog 33 22 Shp.ints.size 24 := ElemTy.mk' Try.underlying33 (by kernel_rfl : (Try.prog.info? 22).map (fun i => (i.zero, i.size, i.bytes)) = some (some (.slice none 0 0), 1, 24)) rfl

def rowL (F : Nat → Nat → Int) (i n : Nat) : List Int := (List.range n).map fun j => F i j
theorem rowL_len (F : Nat → Nat → Int) (i n : Nat) : (rowL F i n).length = n := by simp [rowL]
theorem rowL_get (F : Nat → Nat → Int) (i n j : Nat) (h : j < n) : (rowL F i n)[j]?.getD 0 = F i j := by simp [rowL, h]

theorem MatAt.rowRow {w : World} {g m n : Nat} {F : Nat → Nat → Int} (h : MatAt w g m n F) {i : Nat} (hi : i < m) (hf : ∀ j, j < n → fits (F i j)) (hn : n ≤ 9223372036854775807) : IntRow w (some ⟨g, i * n, none⟩) n (rowL F i n) where
  len := rowL_len _ _ _
  max := hn
  cell := fun _ => ⟨g, i * n, rfl, h.1, fun j hj => by rw [rowL_get _ _ _ _ hj]; exact h.2 i j hi hj⟩
  fit := fun j hj => by rw [rowL_get _ _ _ _ hj]; exact hf j hj
theorem takeRows_snoc (F : Nat → Nat → Int) (k n : Nat) : takeRows F (k + 1) n = takeRows F k n ++ [rowL F k n] := by
  simp [takeRows, rowL, List.range_succ]
theorem InP.fit {p : Int} {m n : Nat} {F : Nat → Nat → Int} (h : InP p m n F) (hp : p ≤ 5) {i : Nat} (hi : i < m) : ∀ j, j < n → fits (F i j) := fun j hj => by have := h i j hi hj; unfold fits; omega

set_option maxRecDepth 20000 in
set_option maxHeartbeats 2000000 in
theorem c_span (p : Int) (n m : Nat) (a : Option Addr) (c : Nat) (l : List (List Int)) (S0 : List Nat) (w : World) (hp : isF p = true) (h : SliceRd Shp.ints w a m c l S0) (hn : n ≤ 1024) (hm : m ≤ 1024) (hv : VecsP p n l) :
    Calls Try.prog 124 #[.int .i64 p, .int .i64 n, .slice a m c] w (Ret w fun v w' => ∃ a' n' c' S, v = .agg #[.int .i64 n, .slice a' n' c'] ∧ Own 22 Shp.ints w' w.heap.size (.slice a' n' c') (spanL p n l) S) := by
  have hlen := h.1
  have hfl := flatten_len (l := l) (n := n) (fun v hv' => (hv v hv').1)
  have hmn : m * n ≤ 1048576 := by
    have h1 : m * n ≤ 1024 * n := Nat.mul_le_mul_right _ hm
    omega
  have b0 := (Below.refl w.heap.size w).alloc (Nat.le_refl _) (.cells #[.int .i64 0, .slice none 0 0] 38)
  have A0 := Lib.hid (And.intro (At.alloc w #[.int .i64 0, .slice none 0 0] 38) b0)
  have HR := Lib.hid (c_fromRows n a m c l S0 _ (h.below Shp.ints_good b0) (by omega) (by rw [hfl, hlen]; exact hmn))
  have HI : Hid (InP p m n (rowsF l)) := by have := hv.inP; rw [hlen] at this; exact this
  have HV : Hid (spanL p n l = takeRows (redUp p m (rowsF l) n).1 (redUp p m (rowsF l) n).2.length n) := by show _ = _; unfold spanL; rw [hlen]
  have HG : Hid (∀ i j, i < m → j < n → l.flatten[i * n + j]?.getD 0 = rowsF l i j) := fun i j hi hj => flatten_get (fun v hv' => (hv v hv').1) i j (by omega) hj
  have HP := Lib.hid hp
  have HMN := Lib.hid hmn
  have HFL : Hid (l.flatten.length = m * n) := by show _ = _; rw [hfl, hlen]
  obtain ⟨hp2, hp5⟩ := isF_bd hp
  clear b0 h hfl hmn hlen hv hp
  go_enter Try.func124, Try.ntmps124
  go_wp2_with fail
  refine HR.out.mono ?_
  rintro e w1 ⟨v, rfl, hb1, aM, nM, cM, SM, rfl, hrM, hnM⟩
  have HNM : Hid (nM = m * n) := by show _ = _; rw [← hrM.1, HFL.out]
  have HC := Lib.hid (c_reduce p m n aM nM cM _ SM w1 HP.out hrM HNM.out (by rw [HNM.out]; exact HMN.out) (by omega) (by omega) (rowsF l) HG.out HI.out)
  have B1 := Lib.hid (below_then A0.out.2 hb1)
  have hz1 : w.heap.size + 1 ≤ w1.heap.size := by have := hb1.size; simpa using this
  have HA := Lib.hid (A0.out.1.keep (hb1.block _ (by simp)))
  clear hrM hnM hb1 HR
  go_wp2_with fail
  refine HC.out.mono ?_
  rintro e w2 ⟨v, rfl, hb2, aR, cR, aP, nP, cP, SP, rfl, ⟨hNc, hcm⟩, hmat, hO⟩
  have B2 := Lib.hid (below_then B1.out hb2)
  have HNP : Hid (nP = (redUp p m (rowsF l) n).2.length) := by show _ = _; have := hO.room.1; simpa using this
  have hb3 := (Below.refl w2.heap.size w2).alloc (Nat.le_refl _) (.cells #[.int .i64 m, .int .i64 n, .slice aR nM cR] 107)
  have KEY : Hid (∀ wr, Below (w2.alloc (.cells #[.int .i64 m, .int .i64 n, .slice aR nM cR] 107)).heap.size (w2.alloc (.cells #[.int .i64 m, .int .i64 n, .slice aR nM cR] 107)) wr →
      Below w.heap.size w wr ∧ At wr w.heap.size 0 [.int .i64 0, .slice none 0 0] ∧ At wr w2.heap.size 0 [.int .i64 m, .int .i64 n, .slice aR nM cR] ∧
      (0 < m → 0 < n → ∃ g, aR = some ⟨g, 0, none⟩ ∧ MatAt wr g m n (redUp p m (rowsF l) n).1) ∧ w2.heap.size + 1 ≤ wr.heap.size) := by
    intro wr hb
    have h0 : w.heap.size + 1 ≤ w2.heap.size := by have := hb2.size; omega
    refine ⟨below_then (below_then B2.out hb3) hb, ?_, (At.alloc w2 _ _).keep (hb.block _ (by simp)), fun h1 h2 => ?_, by have := hb.size; simpa using this⟩
    · exact (HA.out.keep (hb2.block _ (by omega))).keep ((hb3.block _ (by omega))) |>.keep (hb.block _ (by simp; omega))
    · obtain ⟨g, e, hg, hm⟩ := hmat h1 h2
      exact ⟨g, e, (hm.below hb3).below hb⟩
  have HO0 := Lib.hid hO
  have HWZ : Hid (w.heap.size < (w2.alloc (.cells #[.int .i64 m, .int .i64 n, .slice aR nM cR] 107)).heap.size) := by show _ < _; have := hb2.size; simp; omega
  have HCM := Lib.hid hcm
  clear hb3 hb2 hmat hO B2 B1 HC hcm
  go_wp2
  generalize w2.alloc (.cells #[.int .i64 m, .int .i64 n, .slice aR nM cR] 107) = W at *
  go_loopw [9, 21] (fun s i wr => ∃ (k : Nat) (aF : Option Addr) (nF cF : Nat) (SF : List Nat), k ≤ nP ∧ i = .int .i64 k ∧ s = .slice aF nF cF ∧ Hid (Own 22 Shp.ints wr W.heap.size (.slice aF nF cF) (takeRows (redUp p m (rowsF l) n).1 k n) SF ∧ Below W.heap.size W wr)) (fun _ i _ => nP - (intOf i).toNat)
  case atStart => exact ⟨0, none, 0, 0, [], Nat.zero_le _, rfl, rfl, Own.nil _ _ _ _, Below.refl _ _⟩
  case round =>
    obtain ⟨k, aF, nF, cF, SF, hk, rfl, rfl, H⟩ := hrel
    have hnPb : nP ≤ 1024 := by have := HNP.out; have := @redUp_len p m (rowsF l) n; omega
    by_cases hlt : k < nP
    · have hkm : k < m := by have := HNP.out; have := @redUp_len p m (rowsF l) n; omega
      have hkn : 0 < n := by have := HNP.out; have := @redUp_len' p m (rowsF l) n; omega
      obtain ⟨-, -, hat, hmat, -⟩ := KEY.out wr H.out.2
      obtain ⟨g, rfl, hmA⟩ := hmat (by omega) hkn
      have q0 := hat.c0
      have q1 := hat.c1
      have q2 := hat.c2
      have HIR : Hid (∀ j, j < n → fits ((redUp p m (rowsF l) n).1 k j)) := (redUp_in (by omega) HI.out n).fit hp5 hkm
      have HR := Lib.hid (c_row g nM cR m n k wr hkm hkn (Nat.le_of_eq HNM.out.symm) hNc (by rw [HNM.out]; exact HMN.out))
      have HMA := Lib.hid hmA
      have hcr : n ≤ cR - k * n ∧ cR - k * n ≤ maxLen := by
        have h1 : (k + 1) * n ≤ m * n := Nat.mul_le_mul_right _ hkm
        rw [Nat.add_mul] at h1
        have := HNM.out
        have := HCM.out (by omega) hkn
        omega
      have HCR := Lib.hid hcr
      clear hat hmat hmA hcr
      go_wp2_with fail
      refine HR.out.mono ?_
      rintro e w4 ⟨v, rfl, hb4, rfl⟩
      have HCl := Lib.hid (c_Clone_int (some ⟨g, k * n, none⟩) n (cR - k * n) _ _ w4 (ints_mk ((HMA.out.below hb4).rowRow hkm HIR.out (by omega)) HCR.out.1 HCR.out.2) (by omega))
      have H4 : Hid (Own 22 Shp.ints w4 W.heap.size (.slice aF nF cF) (takeRows (redUp p m (rowsF l) n).1 k n) SF ∧ Below W.heap.size W w4) := ⟨H.out.1.below Shp.ints_good hb4, below_then H.out.2 hb4⟩
      clear hb4 H HR HMA q0 q1 q2
      go_wp2_with fail
      refine HCl.out.mono ?_
      rintro e w5 ⟨v, rfl, hb5, S5, hO5⟩
      obtain ⟨a5, n5, c5, S5', rfl, -, rd5, new5, -⟩ := hO5.rd
      have H5 : Hid (Own 22 Shp.ints w5 W.heap.size (.slice aF nF cF) (takeRows (redUp p m (rowsF l) n).1 k n) SF ∧ Below W.heap.size W w5 ∧ Shp.ints.rd w5 [.slice a5 n5 c5] (rowL (redUp p m (rowsF l) n).1 k n) S5' ∧ New W.heap.size S5' ∧ ∀ b ∈ SF, b ∉ S5') :=
        ⟨H4.out.1.below Shp.ints_good hb5, below_then H4.out.2 hb5, ⟨a5, n5, c5, rfl, rd5⟩, new5.mono H4.out.2.size, fun b hb hm => by have := H4.out.1.lt Shp.ints_good b hb; have := new5.2 b hm; omega⟩
      have hlF : (takeRows (redUp p m (rowsF l) n).1 k n).length = k := takeRows_len _ _ _
      have HLF := Lib.hid hlF
      have hW5 : W.heap.size ≤ w5.heap.size := H5.out.2.1.size
      clear hb5 hO5 rd5 new5 H4 HCl hlF
      go_wp2_with (at_builtin; refine wpList_app1 et_ints Shp.ints_good rfl (.tmp 24) (.tmp 29) rfl rfl H5.out.1 hW5 rfl rfl H5.out.2.2.1 H5.out.2.2.2.1 H5.out.2.2.2.2 (by rw [HLF.out]; omega) (by rw [HLF.out]; omega) ?_; intro v6 w6 S6 hO6 hF6 hS6; obtain ⟨a6, n6, c6, rfl⟩ := hO6.form; have Y := Lib.hid (And.intro hO6 hF6); clear hO6 hF6 hS6)
      go_roundw
      case rel =>
        refine ⟨k + 1, a6, n6, c6, S6, by omega, by go_num, rfl, ?_, H5.out.2.1.trans (Y.out.2.to_below hW5 (fun b hb => H5.out.1.new.2 b hb))⟩
        rw [takeRows_snoc]
        exact Y.out.1
      case measure => simp [intOf]; omega
    · obtain rfl : k = nP := by omega
      obtain ⟨hbw, hat, -, -, hz2⟩ := KEY.out wr H.out.2
      have o0 := hat.c0
      have o1 := hat.c1
      have i0 := hat.f0
      have i1 := hat.f1
      have HE : Hid (∀ x y : Value, Below w.heap.size w ((wr.setCell ⟨w.heap.size, 0, none⟩ x).setCell ⟨w.heap.size, 1, none⟩ y) ∧ Own 22 Shp.ints ((wr.setCell ⟨w.heap.size, 0, none⟩ x).setCell ⟨w.heap.size, 1, none⟩ y) w.heap.size (.slice aF nF cF) (spanL p n l) SF) := by
        intro x y
        have h0 : w.heap.size < W.heap.size := HWZ.out
        have := (H.out.1.setOff Shp.ints_good (H.out.1.off (b := w.heap.size) h0) (p := ⟨w.heap.size, 0, none⟩) x).setOff Shp.ints_good (H.out.1.off (b := w.heap.size) h0) (p := ⟨w.heap.size, 1, none⟩) y
        refine ⟨(hbw.setCell (Nat.le_refl _) _).setCell (Nat.le_refl _) _, ?_⟩
        rw [HV.out, ← HNP.out]
        exact own_lower this (by omega)
      clear hbw hat
      go_wp2
      have hE := HE.out (.int .i64 n) (.slice aF nF cF)
      exact bodyPost_ret (v := .agg #[.int .i64 n, .slice aF nF cF]) (by simp [results, Try.results124, go_sem, o0, o1]) rfl ⟨_, rfl, hE.1, aF, nF, cF, SF, rfl, hE.2⟩
end Go.Proofs.Ytpngpgbmkkjjgaa

/-
  Contracts of the reference: kernels.
-/
import Derived.Test.YtpngpgbmkkjjgaaD5
namespace Go.Proofs.Ytpngpgbmkkjjgaa
open Go.RowKit

theorem negK {x : Int} (h : 0 ≤ x ∧ x ≤ 1000000) : IntKind.i64.wrap (-x) = -x := IntWalk.i64_in _ ⟨by omega, by omega⟩

set_option maxRecDepth 20000 in
set_option maxHeartbeats 4000000 in
theorem c_l4Kernel (p : Int) (m n : Nat) (a : Option Addr) (N c : Nat) (l : List Int) (S : List Nat) (w : World) (hp : isF p = true) (h : SliceRd Shp.int w a N c l S) (hN : N = m * n) (hsz : N ≤ 1048576) (hm : m ≤ 1048576) (hn : n ≤ 1048576)
    (F0 : Nat → Nat → Int) (hF : ∀ i j, i < m → j < n → l[i * n + j]?.getD 0 = F0 i j) (hin : InP p m n F0) :
    Calls Try.prog 102 #[.int .i64 p, .agg #[.int .i64 m, .int .i64 n, .slice a N c]] w (Ret w fun v w' => ∃ S, Own 22 Shp.ints w' w.heap.size v (kerL p n (redUp p m F0 n).1 (redUp p m F0 n).2) S) := by
  have b0 := (Below.refl w.heap.size w).alloc (Nat.le_refl _) (.cells #[.int .i64 m, .int .i64 n, .slice a N c] 107)
  have A0 := Lib.hid (And.intro (At.alloc w #[.int .i64 m, .int .i64 n, .slice a N c] 107) b0)
  have HC := Lib.hid (c_l4Reduce p m n a N c l S _ hp (h.below Shp.int_good b0) hN hsz hm hn F0 hF hin)
  have HI2 : Hid (InP p m n (redUp p m F0 n).1) := redUp_in (by have := isF_bd hp; omega) hin n
  have HN := Lib.hid hN
  have HP := Lib.hid hp
  obtain ⟨hp2, hp5⟩ := isF_bd hp
  clear b0 h hp hF hin hN
  go_enter Try.func102, Try.ntmps102
  go_wp2_with fail
  refine HC.out.mono ?_
  rintro e w2 ⟨v, rfl, hb2, aR, cR, aP, nP, cP, SP, rfl, ⟨hNc, -⟩, hmat, hO⟩
  have hz2 : w.heap.size + 1 ≤ w2.heap.size := by have := hb2.size; simpa using this
  have hb3 := (Below.refl w2.heap.size w2).alloc (Nat.le_refl _) (.cells #[.int .i64 m, .int .i64 n, .slice aR N cR] 107)
  have hb4 := (Below.refl _ (w2.alloc (.cells #[.int .i64 m, .int .i64 n, .slice aR N cR] 107))).alloc (Nat.le_refl _) (.cells #[] 22)
  have HNP : Hid (nP = (redUp p m F0 n).2.length) := by show _ = _; have := hO.room.1; simpa using this
  have HLT : Hid (∀ i, i < (redUp p m F0 n).2.length → (redUp p m F0 n).2[i]?.getD 0 < n) := fun i hi => redUp_get_lt hi
  have HLM : Hid ((redUp p m F0 n).2.length ≤ m ∧ (redUp p m F0 n).2.length ≤ n) := ⟨redUp_len n, redUp_len' n⟩
  have KEY : Hid (∀ wr, Below (w2.heap.size + 1) ((w2.alloc (.cells #[.int .i64 m, .int .i64 n, .slice aR N cR] 107)).alloc (.cells #[] 22)) wr →
      Below w.heap.size w wr ∧ At wr w2.heap.size 0 [.int .i64 m, .int .i64 n, .slice aR N cR] ∧
      (0 < m → 0 < n → ∃ g, aR = some ⟨g, 0, none⟩ ∧ MatAt wr g m n (redUp p m F0 n).1) ∧ IntRow wr aP nP ((redUp p m F0 n).2.map fun x : Nat => (x : Int))) := by
    intro wr hb
    refine ⟨(below_then (below_then (below_then A0.out.2 hb2) hb3) hb4).trans (hb.mono (by omega)), (At.bl (At.alloc w2 _ _) (by simp) hb4).keep (hb.block _ (by omega)), fun h1 h2 => ?_, ?_⟩
    · obtain ⟨g, e, hg, hm⟩ := hmat h1 h2
      refine ⟨g, e, ((hm.below hb3).below hb4).keep (hb.block _ ?_)⟩
      have := hm.1
      omega
    · obtain ⟨_, _, _, S', hv, -, rd, -, -⟩ := hO.rd
      cases hv
      have hlt := rd.lt Shp.int_good
      exact (((rd.below Shp.int_good hb3).below Shp.int_good hb4).keep Shp.int_good (fun k hk => hb.block k (by have := hlt k hk; omega))).row
  have HWS : Hid (((w2.alloc (.cells #[.int .i64 m, .int .i64 n, .slice aR N cR] 107)).alloc (.cells #[] 22)).heap.size = w2.heap.size + 1 + 1) := by show _ = _; simp
  have O0 : Hid (Own 22 Shp.ints ((w2.alloc (.cells #[.int .i64 m, .int .i64 n, .slice aR N cR] 107)).alloc (.cells #[] 22)) (w2.heap.size + 1) (.slice (some ⟨w2.heap.size + 1, 0, none⟩) 0 0) [] [w2.heap.size + 1]) := by
    have h3 := Own.lit0 Shp.ints 22 (w2.alloc (.cells #[.int .i64 m, .int .i64 n, .slice aR N cR] 107)) (B := w2.heap.size + 1) (by simp)
    rw [World.size_alloc] at h3
    exact h3
  clear hb2 hb3 hb4 hmat hO A0 HC
  obtain ⟨R, L, hst⟩ : ∃ R L, redUp p m F0 n = (R, L) := ⟨_, _, rfl⟩
  rw [hst] at HI2 HNP HLM KEY HLT
  have HST := Lib.hid hst
  clear hst
  simp only at HI2 HNP HLM KEY HLT
  go_wp2
  generalize (w2.alloc (.cells #[.int .i64 m, .int .i64 n, .slice aR N cR] 107)).alloc (.cells #[] 22) = W at *
  go_loopw [7, 8] (fun s i wr => ∃ (k : Nat) (aF : Option Addr) (nF cF : Nat) (SF : List Nat), k ≤ n ∧ i = .int .i64 k ∧ s = .slice aF nF cF ∧ Hid (Own 22 Shp.ints wr (w2.heap.size + 1) (.slice aF nF cF) ((freeL k L).map fun f => kerV p n R L f L.length) SF ∧ Below (w2.heap.size + 1) W wr)) (fun _ i _ => n - (intOf i).toNat)
  case atStart => exact ⟨0, _, 0, 0, _, Nat.zero_le _, rfl, rfl, O0.out, Below.refl _ _⟩
  case round =>
    obtain ⟨k, aF, nF, cF, SF, hk, rfl, rfl, H⟩ := hrel
    have q1 := (KEY.out wr H.out.2).2.1.c1
    by_cases hlt : k < n
    · have hC := c_l4Has aP nP cP L k wr (KEY.out wr H.out.2).2.2.2
      cases hc : L.contains k with
      | true =>
        rw [hc] at hC
        have HCt := Lib.hid hC
        have HS : Hid (freeL (k + 1) L = freeL k L) := by show _ = _; rw [freeL_snoc, hc]; simp
        clear hC hc
        go_wp2_with (go_at_call 143; refine HCt.out.mono ?_; rintro e w' ⟨rfl, rfl⟩)
        go_roundw
        case rel => exact ⟨k + 1, aF, nF, cF, SF, by omega, by go_num, rfl, by rw [HS.out]; exact H.out⟩
        case measure => simp [intOf]; omega
      | false =>
        rw [hc] at hC
        have HCt := Lib.hid hC
        have HS : Hid (freeL (k + 1) L = freeL k L ++ [k]) := by show _ = _; rw [freeL_snoc, hc]; simp
        clear hC hc
        generalize wr = Wo at *
        obtain ⟨i0, hi, hz0, hz1, hz2⟩ := info_parts Try.info3
        obtain ⟨w4, hmk, hown0, hg0⟩ := run_make_full (P := Try.prog) Wo Wo.heap.size 22 3 i0 (.int .i64 0) 1 Try.underlying22 hi hz0 hz1 .i64 .i64 n (by rw [hz2]; omega) (by unfold maxLen; omega) (Nat.le_refl _)
        have hb4 : Below Wo.heap.size Wo w4 := (Below.refl _ _).grown hg0 (Nat.le_refl _) (fun k hk => by cases hk)
        simp only [Value.cells, toList_madeCells_one] at hown0
        have hst : w4.cell? ⟨Wo.heap.size, k, none⟩ = some (.int .i64 0) := by
          have := hown0.cellAt k (by simp; omega)
          rw [this]
          simp [hlt]
        have hfr := hown0.frozenAt k
        have HO0 : Hid ((w4.setCell ⟨Wo.heap.size, k, none⟩ (.int .i64 1)).ownsRow Wo.heap.size 3 1 (.slice (some ⟨Wo.heap.size, 0, none⟩) n n) n ((kerV p n R L k 0).map (Value.int .i64)) ∧ Below Wo.heap.size Wo (w4.setCell ⟨Wo.heap.size, k, none⟩ (.int .i64 1))) := by
          refine ⟨?_, hb4.setCell (Nat.le_refl _) _⟩
          have := (hown0.stored k (.int .i64 1)).1
          have e : (kerV p n R L k 0).map (Value.int .i64) = (List.replicate (n * 1) (.int .i64 0)).set k (.int .i64 1) := by
            simp [kerV, List.map_set]
          rw [e]
          exact this
        have hWz : w2.heap.size + 1 ≤ Wo.heap.size := by have := H.out.2.size; have := HWS.out; omega
        clear hz0 hz1 hz2 hi hg0 hown0 hb4
        go_wp2_with (go_at_call 143; refine HCt.out.mono ?_; rintro e w' ⟨rfl, rfl⟩)
        generalize w4.setCell ⟨Wo.heap.size, k, none⟩ (.int .i64 1) = W4 at *
        clear hmk hst hfr q1
        go_loopw [10] (fun j wx => ∃ i : Nat, i ≤ nP ∧ j = .int .i64 i ∧ Hid (wx.ownsRow Wo.heap.size 3 1 (.slice (some ⟨Wo.heap.size, 0, none⟩) n n) n ((kerV p n R L k i).map (Value.int .i64)) ∧ Below Wo.heap.size Wo wx)) (fun j _ => nP - (intOf j).toNat)
        case atStart => exact ⟨0, Nat.zero_le _, rfl, HO0.out⟩
        case round =>
          obtain ⟨i, hi, rfl, HX⟩ := hrel
          by_cases hlt2 : i < nP
          · have hiL : i < L.length := by have := HNP.out; omega
            have him : i < m := by have := HLM.out; omega
            have hBx : Below (w2.heap.size + 1) W wr := H.out.2.trans (HX.out.2.mono hWz)
            obtain ⟨-, hbx2, hmt, hpv⟩ := KEY.out wr hBx
            obtain ⟨g, rfl, hmA⟩ := hmt (by omega) (by omega)
            obtain ⟨b2, off2, rfl, hb2', hc2⟩ := hpv.cell (by omega)
            have hcp := (hc2 i hlt2).1
            rw [cast_get] at hcp
            have hPn := HLT.out i hiL
            have HK : Hid (kerV p n R L k (i + 1) = (kerV p n R L k i).set (L[i]?.getD 0) ((-R i k) % p)) := rfl
            generalize L[i]?.getD 0 = P at *
            have q1 := hbx2.c1
            have q2 := hbx2.c2
            have hx := (hmA.2 i k him hlt).1
            obtain ⟨hx1, hx2⟩ := HI2.out i k him hlt
            obtain ⟨I, hI⟩ : ∃ I, I = i * n := ⟨_, rfl⟩
            rw [← hI] at hx
            have hkl := kerV_len p n R L k i
            have hvc : wr.cell? ⟨Wo.heap.size, P, none⟩ = some (.int .i64 ((kerV p n R L k i)[P]?.getD 0)) := by
              rw [HX.out.1.cellAt P (by simp; omega)]
              simp [hkl, hPn]
            have hvf := HX.out.1.frozenAt P
            obtain ⟨x, hxe⟩ : ∃ x, x = R i k := ⟨_, rfl⟩
            rw [← hxe] at hx hx1 hx2
            have HXe := Lib.hid hxe
            have hneg := @negK x (by omega)
            have HM2 := Lib.hid (still_of (c_l2Mod p (-x) HP.out (by unfold fits; omega) wr.drew))
            have HS5 := Lib.hid (And.intro ((ownsRow_below HX.out.1 below_drew).stored P (.int .i64 ((-x) % p))).1 (((below_dr HX.out.2)).setCell (p := ⟨Wo.heap.size, P, none⟩) (Nat.le_refl _) (.int .i64 ((-x) % p))))
            obtain ⟨k1, k2, k3, k4, k5, k6, k7, k8⟩ := idxFacts hI him hlt HN.out hsz
            clear hBx hbx2 hmt hpv hc2 hmA hxe hI hkl
            go_wp2
            go_still_tail 19, (by kernel_rfl)
            still_call HM2.out
            repeat still_step
            refine wpStill_nil ?_
            change wpList _ _ _ _ _ wr.drew
            go_wp2
            go_roundw
            case rel =>
              refine ⟨i + 1, by omega, by go_num, ?_⟩
              show _ ∧ _
              rw [HK.out, ← HXe.out, List.map_set]
              exact HS5.out
            case measure => simp [intOf]; omega
          · obtain rfl : i = nP := by omega
            have HE : Hid (∃ S, Own 3 Shp.int wr Wo.heap.size (.slice (some ⟨Wo.heap.size, 0, none⟩) n n) (kerV p n R L k L.length) S) := by
              have h1 := HX.out.1
              rw [HNP.out] at h1
              exact own_ints (fun x hx => by have := kerV_in HP.out n R L k _ x hx; unfold fits; omega) h1
            obtain ⟨SV, hOV⟩ := HE.out
            obtain ⟨_, _, cV, SV', hv, -, rdV, newV, -⟩ := hOV.rd
            cases hv
            have H5 : Hid (Own 22 Shp.ints wr (w2.heap.size + 1) (.slice aF nF cF) ((freeL k L).map fun f => kerV p n R L f L.length) SF ∧ Below (w2.heap.size + 1) W wr ∧ Shp.ints.rd wr [.slice (some ⟨Wo.heap.size, 0, none⟩) n n] (kerV p n R L k L.length) SV' ∧ New (w2.heap.size + 1) SV' ∧ ∀ b ∈ SF, b ∉ SV') :=
              ⟨H.out.1.below Shp.ints_good HX.out.2, H.out.2.trans (HX.out.2.mono hWz), ⟨_, _, _, rfl, rdV⟩, newV.mono hWz, fun b hb hm => by have := H.out.1.lt Shp.ints_good b hb; have := newV.2 b hm; omega⟩
            have hlF : ((freeL k L).map fun f => kerV p n R L f L.length).length ≤ k := by rw [List.length_map]; exact freeL_len _ _
            have HLF := Lib.hid hlF
            have hW5 : w2.heap.size + 1 ≤ wr.heap.size := Nat.le_trans hWz HX.out.2.size
            clear hOV rdV newV HE hlF
            go_wp2_with (at_builtin; refine wpList_app1 et_ints Shp.ints_good rfl (.tmp 58) (.tmp 60) rfl rfl H5.out.1 hW5 rfl rfl H5.out.2.2.1 H5.out.2.2.2.1 H5.out.2.2.2.2 (by have := HLF.out; omega) (by have := HLF.out; omega) ?_; intro v6 w6 S6 hO6 hF6 hS6; obtain ⟨a6, n6, c6, rfl⟩ := hO6.form; have Y := Lib.hid (And.intro hO6 hF6); clear hO6 hF6 hS6)
            go_roundw
            case rel =>
              refine ⟨k + 1, a6, n6, c6, S6, by omega, by go_num, rfl, ?_, H5.out.2.1.trans (Y.out.2.to_below hW5 (fun b hb => H5.out.1.new.2 b hb))⟩
              rw [HS.out, List.map_append]
              exact Y.out.1
            case measure => simp [intOf]; omega
    · obtain rfl : k = n := by omega
      go_wp2
      go_ret
      refine ⟨_, rfl, (KEY.out wr H.out.2).1, SF, ?_⟩
      rw [HST.out]
      exact own_lower H.out.1 (by omega)
end Go.Proofs.Ytpngpgbmkkjjgaa

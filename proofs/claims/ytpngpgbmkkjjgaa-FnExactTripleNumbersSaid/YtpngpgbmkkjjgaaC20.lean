/-
  Contracts: free columns, kernels.
-/
import Derived.Test.YtpngpgbmkkjjgaaC19
namespace Go.Proofs.Ytpngpgbmkkjjgaa
open Go.RowKit

set_option maxHeartbeats 400000 in
theorem c_Index (a : Option Addr) (n c : Nat) (l : List Int) (v : Int) (w : World) (h : IntRow w a n l) :
    Calls Try.prog 166 #[.slice a n c, .int .i64 v] w fun e w' => e = .returned (.int .i64 (idxOf (fun x => v == x) l)) ∧ w = w' := by
  have hmax := h.max
  have HL := Lib.hid h.len
  go_enter Try.func166, Try.ntmps166
  go_wp2
  go_loop [8] (fun i => ∃ k : Nat, k ≤ n ∧ i = .int .i64 k ∧ Hid (∀ j, j < k → (v == l[j]?.getD 0) = false)) (fun i => n - (intOf i).toNat)
  case atStart => exact ⟨0, Nat.zero_le _, rfl, fun j hj => absurd hj (Nat.not_lt_zero _)⟩
  case round =>
    obtain ⟨k, hk, rfl, hb⟩ := hrel
    by_cases hlt : k < n
    · obtain ⟨b, off, rfl, hb', hc⟩ := h.cell (by omega)
      have hck := (hc k hlt).1
      clear hc
      cases hp : (v == l[k]?.getD 0) with
      | true =>
        have HP := Lib.hid hp
        go_wp2
        go_ret
        exact ⟨ret_int (by rw [idxOf_hit (by have := HL.out; omega) HP.out hb.out]), rfl⟩
      | false =>
        have HP := Lib.hid hp
        go_wp2
        go_round
        case rel =>
          refine ⟨k + 1, by omega, by go_num, fun j hj => ?_⟩
          by_cases e : j = k
          · subst e; exact HP.out
          · exact hb.out j (by omega)
        case measure => simp [intOf]; omega
    · have e : k = n := by omega
      subst e
      go_wp2
      go_ret
      exact ⟨ret_int (by rw [idxOf_miss (d := 0) (fun j hj => hb.out j (by have := HL.out; omega))]), rfl⟩

set_option maxHeartbeats 400000 in
theorem c_Contains (a : Option Addr) (n c : Nat) (l : List Int) (v : Int) (w : World) (h : IntRow w a n l) :
    Calls Try.prog 163 #[.slice a n c, .int .i64 v] w fun e w' => e = .returned (.bool (l.any fun x => v == x)) ∧ w = w' := by
  have HI := Lib.hid (c_Index a n c l v w h)
  go_enter Try.func163, Try.ntmps163
  go_wp2_with (go_at_call 166; refine HI.out.mono ?_; rintro e w1 ⟨rfl, rfl⟩)
  go_ret
  exact ⟨ret_bool (by rw [← idxOf_any]), rfl⟩

theorem any_cast (L : List Nat) (k : Nat) : ((L.map fun x : Nat => (x : Int)).any fun x => (k : Int) == x) = L.contains k := by
  induction L with
  | nil => rfl
  | cons x L ih =>
    rw [List.map_cons, List.any_cons, List.contains_cons, ih]
    congr 1
    rw [Bool.eq_iff_iff]
    simp only [beq_iff_eq]
    omega
theorem freeL_snoc (k : Nat) (L : List Nat) : freeL (k + 1) L = freeL k L ++ if L.contains k then [] else [k] := by
  unfold freeL
  rw [List.range_succ, List.filter_append]
  congr 1
  by_cases h : k ∈ L <;> simp [h]
theorem freeL_mem {n : Nat} {L : List Nat} {i : Nat} (h : i < (freeL n L).length) : (freeL n L)[i]?.getD 0 < n := by
  simp only [h, List.getElem?_eq_getElem, Option.getD_some]
  exact List.mem_range.1 (List.mem_filter.1 (List.getElem_mem h : _ ∈ List.filter _ _)).1

set_option maxHeartbeats 1000000 in
theorem c_freeColumns (k0 : Nat) (a : Option Addr) (n c : Nat) (L : List Nat) (w : World) (h : IntRow w a n (L.map fun x : Nat => (x : Int))) (hk : k0 ≤ 1048576) :
    Calls Try.prog 147 #[.int .i64 k0, .slice a n c] w (Ret w fun v w' => ∃ S, Own 3 Shp.int w' w.heap.size v ((freeL k0 L).map fun x : Nat => (x : Int)) S) := by
  have H0 := Lib.hid h
  clear h
  go_enter Try.func147, Try.ntmps147
  go_wp2
  go_loopw [5, 8] (fun s i wr => ∃ (k : Nat) (aF : Option Addr) (nF cF : Nat) (SF : List Nat), k ≤ k0 ∧ i = .int .i64 k ∧ s = .slice aF nF cF ∧ Hid (Own 3 Shp.int wr w.heap.size (.slice aF nF cF) ((freeL k L).map fun x : Nat => (x : Int)) SF ∧ Below w.heap.size w wr)) (fun _ i _ => k0 - (intOf i).toNat)
  case atStart => exact ⟨0, none, 0, 0, [], Nat.zero_le _, rfl, rfl, Own.nil _ _ _ _, Below.refl _ _⟩
  case round =>
    obtain ⟨k, aF, nF, cF, SF, hk, rfl, rfl, H⟩ := hrel
    by_cases hlt : k < k0
    · have hC := c_Contains a n c (L.map fun x : Nat => (x : Int)) (k : Int) wr (H0.out.below H.out.2)
      rw [any_cast] at hC
      cases hc : L.contains k with
      | true =>
        rw [hc] at hC
        have HC := Lib.hid hC
        have HS : Hid (freeL (k + 1) L = freeL k L) := by show _ = _; rw [freeL_snoc, hc]; simp
        clear hC hc
        go_wp2_with (go_at_call 163; refine HC.out.mono ?_; rintro e w1 ⟨rfl, rfl⟩)
        go_roundw
        case rel => exact ⟨k + 1, aF, nF, cF, SF, by omega, by go_num, rfl, by rw [HS.out]; exact H.out⟩
        case measure => simp [intOf]; omega
      | false =>
        rw [hc] at hC
        have HC := Lib.hid hC
        have HS : Hid (freeL (k + 1) L = freeL k L ++ [k]) := by show _ = _; rw [freeL_snoc, hc]; simp
        have hlen : ((freeL k L).map fun x : Nat => (x : Int)).length ≤ k := by rw [List.length_map]; exact freeL_len _ _
        have HLen := Lib.hid hlen
        have hsz := H.out.2.size
        have hfit : fits (k : Int) := by unfold fits; omega
        clear hC hc hlen
        go_wp2_with (first | (go_at_call 163; refine HC.out.mono ?_; rintro e w1 ⟨rfl, rfl⟩) | (at_builtin; refine wpList_app1 et_int Shp.int_good rfl (.tmp 15) (.tmp 17) rfl rfl H.out.1 hsz rfl rfl ⟨rfl, rfl, hfit⟩ (New.nil _) (by simp) (by have := HLen.out; omega) (by have := HLen.out; omega) ?_; intro v1 w1 S1 hO1 hF1 hS1; obtain ⟨a1, n1, c1, rfl⟩ := hO1.form; have Y := Lib.hid (And.intro hO1 hF1); clear hO1 hF1 hS1))
        go_roundw
        case rel =>
          refine ⟨k + 1, a1, n1, c1, S1, by omega, by go_num, rfl, ?_, H.out.2.trans (Y.out.2.to_below hsz (fun b hb => H.out.1.new.2 b hb))⟩
          rw [HS.out, List.map_append]
          exact Y.out.1
        case measure => simp [intOf]; omega
    · obtain rfl : k = k0 := by omega
      go_wp2
      go_ret
      exact ⟨_, rfl, H.out.2, SF, H.out.1⟩

theorem redUp_get_lt {p : Int} {m : Nat} {F : Nat → Nat → Int} {n i : Nat} (h : i < (redUp p m F n).2.length) : (redUp p m F n).2[i]?.getD 0 < n := by
  simp only [h, List.getElem?_eq_getElem, Option.getD_some]
  exact redUp_lt n _ (List.getElem_mem h)
theorem cast_get (L : List Nat) (i : Nat) : (L.map fun x : Nat => (x : Int))[i]?.getD 0 = ((L[i]?.getD 0 : Nat) : Int) := by
  rw [List.getElem?_map]
  cases L[i]? <;> simp
theorem neg_mod {p x : Int} : (p - x) % p = (-x) % p := by
  rw [show p - x = -x + p by omega, Int.add_emod_right]

theorem ownsRow_below {w w' : World} {B e size n : Nat} {v : Value} {xs : List Value} (h : w.ownsRow B e size v n xs) (hb : Below w.heap.size w w') : w'.ownsRow B e size v n xs := by
  refine ⟨h.1, ?_⟩
  rcases h.2 with h1 | ⟨g', cap, cur, rfl, hB, hg, hr⟩
  · exact .inl h1
  · exact .inr ⟨g', cap, cur, rfl, hB, by rw [hb.block g' (Array.getElem?_eq_some_iff.1 hg).1]; exact hg, hr⟩

theorem kerL_snoc (p : Int) (n : Nat) (F : Nat → Nat → Int) (L : List Nat) (k : Nat) (h : k < (freeL n L).length) : ((freeL n L).take (k + 1)).map (fun f => kerV p n F L f L.length) = ((freeL n L).take k).map (fun f => kerV p n F L f L.length) ++ [kerV p n F L ((freeL n L)[k]?.getD 0) L.length] := by
  rw [take_snoc _ k 0 h, List.map_append]
  rfl

set_option maxRecDepth 20000 in
set_option maxHeartbeats 4000000 in
theorem c_kernel (p : Int) (m n : Nat) (a : Option Addr) (N c : Nat) (l : List Int) (S : List Nat) (w : World) (hp : isF p = true) (h : SliceRd Shp.int w a N c l S) (hN : N = m * n) (hsz : N ≤ 1048576) (hm : m ≤ 1048576) (hn : n ≤ 1048576)
    (F0 : Nat → Nat → Int) (hF : ∀ i j, i < m → j < n → l[i * n + j]?.getD 0 = F0 i j) (hin : InP p m n F0) :
    Calls Try.prog 122 #[.int .i64 p, .agg #[.int .i64 m, .int .i64 n, .slice a N c]] w (Ret w fun v w' => ∃ S, Own 22 Shp.ints w' w.heap.size v (kerL p n (redUp p m F0 n).1 (redUp p m F0 n).2) S) := by
  have b0 := (Below.refl w.heap.size w).alloc (Nat.le_refl _) (.cells #[.int .i64 m, .int .i64 n, .slice a N c] 107)
  have A0 := Lib.hid (And.intro (At.alloc w #[.int .i64 m, .int .i64 n, .slice a N c] 107) b0)
  have HC := Lib.hid (c_reduce p m n a N c l S _ hp (h.below Shp.int_good b0) hN hsz hm hn F0 hF hin)
  have HI2 : Hid (InP p m n (redUp p m F0 n).1) := redUp_in (by have := isF_bd hp; omega) hin n
  have HN := Lib.hid hN
  obtain ⟨hp2, hp5⟩ := isF_bd hp
  have HP := Lib.hid hp
  clear b0 h hp hF hin hN
  go_enter Try.func122, Try.ntmps122
  go_wp2_with fail
  refine HC.out.mono ?_
  rintro e w2 ⟨v, rfl, hb2, aR, cR, aP, nP, cP, SP, rfl, ⟨hNc, -⟩, hmat, hO⟩
  have hz2 : w.heap.size + 1 ≤ w2.heap.size := by have := hb2.size; simpa using this
  have hb3 := (Below.refl w2.heap.size w2).alloc (Nat.le_refl _) (.cells #[.int .i64 m, .int .i64 n, .slice aR N cR] 107)
  have HNP : Hid (nP = (redUp p m F0 n).2.length) := by show _ = _; have := hO.room.1; simpa using this
  have HLT : Hid (∀ i, i < (redUp p m F0 n).2.length → (redUp p m F0 n).2[i]?.getD 0 < n) := fun i hi => redUp_get_lt hi
  have HLM : Hid ((redUp p m F0 n).2.length ≤ m ∧ (redUp p m F0 n).2.length ≤ n) := ⟨redUp_len n, redUp_len' n⟩
  have KEY : Hid (∀ wr, Below (w2.alloc (.cells #[.int .i64 m, .int .i64 n, .slice aR N cR] 107)).heap.size (w2.alloc (.cells #[.int .i64 m, .int .i64 n, .slice aR N cR] 107)) wr →
      Below w.heap.size w wr ∧ At wr w.heap.size 0 [.int .i64 m, .int .i64 n, .slice a N c] ∧ At wr w2.heap.size 0 [.int .i64 m, .int .i64 n, .slice aR N cR] ∧
      (0 < m → 0 < n → ∃ g, aR = some ⟨g, 0, none⟩ ∧ MatAt wr g m n (redUp p m F0 n).1) ∧ IntRow wr aP nP ((redUp p m F0 n).2.map fun x : Nat => (x : Int))) := by
    intro wr hb
    refine ⟨below_then (below_then (below_then A0.out.2 hb2) hb3) hb, ?_, (At.alloc w2 _ _).keep (hb.block _ (by simp)), fun h1 h2 => ?_, ?_⟩
    · exact ((A0.out.1.keep (hb2.block _ (by simp))).keep (hb3.block _ (by omega))).keep (hb.block _ (by simp; omega))
    · obtain ⟨g, e, hg, hm⟩ := hmat h1 h2
      exact ⟨g, e, (hm.below hb3).below hb⟩
    · obtain ⟨_, _, _, S', hv, -, rd, -, -⟩ := hO.rd
      cases hv
      exact ((rd.below Shp.int_good hb3).below Shp.int_good hb).row
  have HWZ : Hid (w.heap.size < (w2.alloc (.cells #[.int .i64 m, .int .i64 n, .slice aR N cR] 107)).heap.size) := by show _ < _; simp; omega
  clear hb2 hb3 hmat hO A0 HC hz2
  obtain ⟨R, L, hst⟩ : ∃ R L, redUp p m F0 n = (R, L) := ⟨_, _, rfl⟩
  rw [hst] at HI2 HNP HLT HLM KEY
  have HST := Lib.hid hst
  clear hst
  simp only at HI2 HNP HLT HLM KEY
  have q1 := (KEY.out _ (Below.refl _ _)).2.1.c1
  have HFC := Lib.hid (c_freeColumns n aP nP cP L _ (KEY.out _ (Below.refl _ _)).2.2.2.2 hn)
  go_wp2_with fail
  generalize w2.alloc (.cells #[.int .i64 m, .int .i64 n, .slice aR N cR] 107) = W at *
  refine HFC.out.mono ?_
  rintro e w3 ⟨v, rfl, hb3, SZ, hOZ⟩
  obtain ⟨aZ, nZ, cZ, rfl⟩ := hOZ.form
  have hZl : nZ = (freeL n L).length := by have := hOZ.room.1; simpa using this
  have HZL := Lib.hid hZl
  have HZ : Hid (∀ wr, Below w3.heap.size w3 wr → IntRow wr aZ nZ ((freeL n L).map fun x : Nat => (x : Int))) := by
    intro wr hb
    obtain ⟨_, _, _, S', hv, -, rd, -, -⟩ := hOZ.rd
    cases hv
    exact (rd.below Shp.int_good hb).row
  have B3 := Lib.hid hb3
  have hnZ : nZ ≤ 1048576 := by have := freeL_len n L; omega
  clear hb3 hOZ HFC q1 hZl
  go_wp2
  go_loopw [7, 24] (fun s i wr => ∃ (k : Nat) (aF : Option Addr) (nF cF : Nat) (SF : List Nat), k ≤ nZ ∧ i = .int .i64 k ∧ s = .slice aF nF cF ∧ Hid (Own 22 Shp.ints wr w3.heap.size (.slice aF nF cF) (((freeL n L).take k).map fun f => kerV p n R L f L.length) SF ∧ Below w3.heap.size w3 wr)) (fun _ i _ => nZ - (intOf i).toNat)
  case atStart => exact ⟨0, none, 0, 0, [], Nat.zero_le _, rfl, rfl, Own.nil _ _ _ _, Below.refl _ _⟩
  case round =>
    obtain ⟨k, aF, nF, cF, SF, hk, rfl, rfl, H⟩ := hrel
    by_cases hlt : k < nZ
    · generalize wr = Wo at *
      have hkl : k < (freeL n L).length := by have := HZL.out; omega
      have HKL := Lib.hid hkl
      have hf := freeL_mem hkl
      have HSN := Lib.hid (kerL_snoc p n R L k hkl)
      obtain ⟨b, off, rfl, hb', hc⟩ := (HZ.out Wo H.out.2).cell (by omega)
      have hck := (hc k hlt).1
      rw [cast_get] at hck
      generalize (freeL n L)[k]?.getD 0 = f at *
      obtain ⟨-, hbx, -, -, -⟩ := KEY.out Wo (below_then B3.out H.out.2)
      have q1 := hbx.c1
      obtain ⟨i0, hi, hz0, hz1, hz2⟩ := info_parts Try.info3
      obtain ⟨w4, hmk, hown0, hg0⟩ := run_make_full (P := Try.prog) Wo Wo.heap.size 22 3 i0 (.int .i64 0) 1 Try.underlying22 hi hz0 hz1 .i64 .i64 n (by rw [hz2]; omega) (by unfold maxLen; omega) (Nat.le_refl _)
      have hb4 : Below Wo.heap.size Wo w4 := (Below.refl _ _).grown hg0 (Nat.le_refl _) (fun k hk => by cases hk)
      simp only [Value.cells, toList_madeCells_one] at hown0
      have hst : w4.cell? ⟨Wo.heap.size, f, none⟩ = some (.int .i64 0) := by
        have := hown0.cellAt f (by simp; omega)
        rw [this]
        simp [hf]
      have hfr := hown0.frozenAt f
      have HO0 : Hid ((w4.setCell ⟨Wo.heap.size, f, none⟩ (.int .i64 1)).ownsRow Wo.heap.size 3 1 (.slice (some ⟨Wo.heap.size, 0, none⟩) n n) n ((kerV p n R L f 0).map (Value.int .i64)) ∧ Below Wo.heap.size Wo (w4.setCell ⟨Wo.heap.size, f, none⟩ (.int .i64 1))) := by
        refine ⟨?_, hb4.setCell (Nat.le_refl _) _⟩
        have := (hown0.stored f (.int .i64 1)).1
        have e : (kerV p n R L f 0).map (Value.int .i64) = (List.replicate (n * 1) (.int .i64 0)).set f (.int .i64 1) := by
          simp [kerV, List.map_set]
        rw [e]
        exact this
      have HF := Lib.hid hf
      clear hc hkl hz0 hz1 hz2 hi hg0 hown0 hb4 hbx
      go_wp2
      generalize w4.setCell ⟨Wo.heap.size, f, none⟩ (.int .i64 1) = W4 at *
      clear hmk hst hfr hck
      go_loopw [36] (fun j wx => ∃ i : Nat, i ≤ nP ∧ j = .int .i64 i ∧ Hid (wx.ownsRow Wo.heap.size 3 1 (.slice (some ⟨Wo.heap.size, 0, none⟩) n n) n ((kerV p n R L f i).map (Value.int .i64)) ∧ Below Wo.heap.size Wo wx)) (fun j _ => nP - (intOf j).toNat)
      case atStart => exact ⟨0, Nat.zero_le _, rfl, HO0.out⟩
      case round =>
        obtain ⟨i, hi, rfl, HX⟩ := hrel
        by_cases hlt2 : i < nP
        · have hiL : i < L.length := by have := HNP.out; omega
          have him : i < m := by have := HLM.out; omega
          have hBx := below_then (below_then B3.out H.out.2) HX.out.2
          obtain ⟨-, -, hbx2, hmt, hpv⟩ := KEY.out wr hBx
          obtain ⟨g, rfl, hmA⟩ := hmt (by omega) (by omega)
          obtain ⟨b2, off2, rfl, hb2', hc2⟩ := hpv.cell (by omega)
          have hcp := (hc2 i hlt2).1
          rw [cast_get] at hcp
          have hPn := HLT.out i hiL
          have HK : Hid (kerV p n R L f (i + 1) = (kerV p n R L f i).set (L[i]?.getD 0) ((-R i f) % p)) := rfl
          generalize L[i]?.getD 0 = P at *
          have q0 := hbx2.c0
          have q1 := hbx2.c1
          have q2 := hbx2.c2
          have HMA := Lib.hid hmA
          have HR := Lib.hid (c_row g N cR m n i wr him (by omega) (Nat.le_of_eq HN.out.symm) hNc hsz)
          clear hBx hbx2 hmt hpv hc2 hmA
          go_wp2_with fail
          refine HR.out.mono ?_
          rintro e w5 ⟨v, rfl, hb5, rfl⟩
          have hx := ((HMA.out.below hb5).2 i f him HF.out).1
          obtain ⟨hx1, hx2⟩ := HI2.out i f him HF.out
          have HV : Hid ((p - R i f) % p = (-R i f) % p) := neg_mod
          have ho5 := ownsRow_below HX.out.1 hb5
          have hkl := kerV_len p n R L f i
          have hvc : w5.cell? ⟨Wo.heap.size, P, none⟩ = some (.int .i64 ((kerV p n R L f i)[P]?.getD 0)) := by
            rw [ho5.cellAt P (by simp; omega)]
            simp [hkl, hPn]
          have hvf := ho5.frozenAt P
          have HS := Lib.hid (And.intro (ho5.stored P (.int .i64 ((-R i f) % p))).1 ((below_then HX.out.2 hb5).setCell (p := ⟨Wo.heap.size, P, none⟩) (Nat.le_refl _) (.int .i64 ((-R i f) % p))))
          generalize R i f = x at *
          clear hb5 ho5 hkl q0 q1 q2 HMA HR
          go_wp2
          go_roundw
          case rel =>
            refine ⟨i + 1, by omega, by go_num, ?_⟩
            show _ ∧ _
            rw [HK.out, List.map_set]
            exact HS.out
          case measure => simp [intOf]; omega
        · obtain rfl : i = nP := by omega
          have HE : Hid (∃ S, Own 3 Shp.int wr Wo.heap.size (.slice (some ⟨Wo.heap.size, 0, none⟩) n n) (kerV p n R L f L.length) S) := by
            have h1 := HX.out.1
            rw [HNP.out] at h1
            exact own_ints (fun x hx => by have := kerV_in HP.out n R L f _ x hx; unfold fits; omega) h1
          obtain ⟨SV, hOV⟩ := HE.out
          obtain ⟨_, _, cV, SV', hv, -, rdV, newV, -⟩ := hOV.rd
          cases hv
          have H5 : Hid (Own 22 Shp.ints wr w3.heap.size (.slice aF nF cF) (((freeL n L).take k).map fun f => kerV p n R L f L.length) SF ∧ Below w3.heap.size w3 wr ∧ Shp.ints.rd wr [.slice (some ⟨Wo.heap.size, 0, none⟩) n n] (kerV p n R L f L.length) SV' ∧ New w3.heap.size SV' ∧ ∀ b ∈ SF, b ∉ SV') :=
            ⟨H.out.1.below Shp.ints_good HX.out.2, below_then H.out.2 HX.out.2, ⟨_, _, _, rfl, rdV⟩, newV.mono H.out.2.size, fun b hb hm => by have := H.out.1.lt Shp.ints_good b hb; have := newV.2 b hm; omega⟩
          have hlF : (((freeL n L).take k).map fun f => kerV p n R L f L.length).length ≤ k := by rw [List.length_map]; exact List.length_take_le _ _
          have HLF := Lib.hid hlF
          have hW5 : w3.heap.size ≤ wr.heap.size := H5.out.2.1.size
          clear hOV rdV newV HE hlF
          go_wp2_with (at_builtin; refine wpList_app1 et_ints Shp.ints_good rfl (.tmp 55) (.tmp 57) rfl rfl H5.out.1 hW5 rfl rfl H5.out.2.2.1 H5.out.2.2.2.1 H5.out.2.2.2.2 (by have := HLF.out; omega) (by have := HLF.out; omega) ?_; intro v6 w6 S6 hO6 hF6 hS6; obtain ⟨a6, n6, c6, rfl⟩ := hO6.form; have Y := Lib.hid (And.intro hO6 hF6); clear hO6 hF6 hS6)
          go_roundw
          case rel =>
            refine ⟨k + 1, a6, n6, c6, S6, by omega, by go_num, rfl, ?_, H5.out.2.1.trans (Y.out.2.to_below hW5 (fun b hb => H5.out.1.new.2 b hb))⟩
            rw [HSN.out]
            exact Y.out.1
          case measure => simp [intOf]; omega
    · obtain rfl : k = nZ := by omega
      have HE : Hid ((((freeL n L).take k).map fun f => kerV p n R L f L.length) = kerL p n R L) := by
        show _ = _
        rw [HZL.out, List.take_length]; rfl
      go_wp2
      go_ret
      refine ⟨_, rfl, (KEY.out wr (below_then B3.out H.out.2)).1, SF, ?_⟩
      have := H.out.1
      rw [HE.out] at this
      rw [HST.out]
      refine own_lower this ?_
      have := HWZ.out
      have := B3.out.size
      omega
end Go.Proofs.Ytpngpgbmkkjjgaa

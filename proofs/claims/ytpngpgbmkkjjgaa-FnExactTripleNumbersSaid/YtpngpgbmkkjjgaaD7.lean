/-
  Contracts of the reference: valid spaces, comparisons.
-/
import Derived.Test.YtpngpgbmkkjjgaaD6
import Derived.Test.YtpngpgbmkkjjgaaC24
namespace Go.Proofs.Ytpngpgbmkkjjgaa
open Go.RowKit

theorem fineV_no {p size : Int} {l : List (List Int)} {k : Nat} (hk : k < l.length) (h : vecN p size (l[k]?.getD []) = false) : fineV p size l = false := by
  rw [fineV_area]
  unfold areV
  rw [all_false_get (p := vecN p size) hk h]
  simp

set_option maxRecDepth 20000 in
set_option maxHeartbeats 2000000 in
theorem c_l5Fine (p size : Int) (a : Option Addr) (n c : Nat) (l : List (List Int)) (S : List Nat) (w : World) (hp : fits p) (h : SliceRd Shp.ints w a n c l S) :
    Calls Try.prog 139 #[.int .i64 p, .int .i64 size, .slice a n c] w fun e w' => e = .returned (.bool (fineV p size l)) ∧ w = w' := by
  have hmx := h.max
  have HL := Lib.hid h.1
  have H0 := Lib.hid h
  have HP := Lib.hid hp
  clear h hp
  go_enter Try.func139, Try.ntmps139
  go_wp2
  go_loop [7] (fun i => ∃ k : Nat, k ≤ n ∧ i = .int .i64 k ∧ Hid (∀ j, j < k → vecN p size (l[j]?.getD []) = true)) (fun i => n - (intOf i).toNat)
  case atStart => exact ⟨0, Nat.zero_le _, rfl, fun j hj => absurd hj (Nat.not_lt_zero _)⟩
  case round =>
    obtain ⟨k, hk, rfl, hq⟩ := hrel
    by_cases hlt : k < n
    · obtain ⟨b1, o1, cs1, T1, rfl, hb1, -, hat1, ⟨a3, n3, c3, rfl, hs3⟩, -⟩ := H0.out.at Shp.ints_good [] hlt
      have q1 := (hat1 0 _ rfl).1
      have e3 : Shp.ints.size = 1 := rfl
      rw [e3, Nat.mul_one, Nat.add_zero] at q1
      have hl3 := hs3.1
      have hC := c_spec_IsVector p a3 n3 c3 (l[k]?.getD []) w HP.out hs3.row
      have HVN : Hid (vecN p size (l[k]?.getD []) = (decide ((n3 : Int) = size) && vecV p (l[k]?.getD []))) := by show _ = _; unfold vecN; rw [hl3]
      clear hat1 hs3 hl3
      by_cases he : (n3 : Int) = size
      · have HE := Lib.hid he
        have e1 : ((n3 : Int) != size) = false := by simp [he]
        clear he
        cases hv : vecV p (l[k]?.getD []) with
        | true =>
          rw [hv] at hC HVN
          have HC := Lib.hid hC
          clear hC hv
          go_wp2_with (go_at_call 155; refine HC.out.mono ?_; rintro e w' ⟨rfl, rfl⟩)
          go_round
          case rel =>
            refine ⟨k + 1, by omega, by go_num, fun j hj => ?_⟩
            by_cases e : j = k
            · subst e; rw [HVN.out, HE.out]; simp
            · exact hq.out j (by omega)
          case measure => simp [intOf]; omega
        | false =>
          rw [hv] at hC HVN
          have HC := Lib.hid hC
          have HB : Hid (fineV p size l = false) := fineV_no (k := k) (by have := HL.out; omega) (by rw [HVN.out]; simp)
          clear hC hv
          go_wp2_with (go_at_call 155; refine HC.out.mono ?_; rintro e w' ⟨rfl, rfl⟩)
          go_ret
          exact ⟨ret_bool HB.out.symm, rfl⟩
      · have e1 : ((n3 : Int) != size) = true := by simp [he]
        have HB : Hid (fineV p size l = false) := fineV_no (k := k) (by have := HL.out; omega) (by rw [HVN.out]; simp [he])
        clear he hC
        go_wp2
        go_ret
        exact ⟨ret_bool HB.out.symm, rfl⟩
    · have hkn : k = n := by omega
      subst hkn
      have HA : Hid (l.all (vecN p size) = true) := all_of_get (p := vecN p size) [] (fun j hj => hq.out j (by have := HL.out; omega))
      have HFV : Hid (fineV p size l = (isF p && (inR size 0 8 && decide (k ≤ 16)))) := by
        show _ = _
        rw [fineV_area]
        unfold areV
        rw [HA.out, HL.out]
        simp
      have hC1 := c_spec_IsField p w
      have hC2 := c_l1In size 0 8 w
      cases hf : isF p with
      | false =>
        rw [hf] at hC1 HFV
        have HC1 := Lib.hid hC1
        clear hC1 hC2 hf
        go_wp2_with (go_at_call 39; refine HC1.out.mono ?_; rintro e w' ⟨rfl, rfl⟩)
        go_ret
        exact ⟨ret_bool (by rw [HFV.out]; rfl), rfl⟩
      | true =>
        rw [hf] at hC1 HFV
        cases hi : inR size 0 8 with
        | false =>
          rw [hi] at hC2 HFV
          have HC1 := Lib.hid hC1
          have HC2 := Lib.hid hC2
          clear hC1 hC2 hf hi
          go_wp2_with (first | (go_at_call 39; refine HC1.out.mono ?_; rintro e w' ⟨rfl, rfl⟩) | (go_at_call 91; refine HC2.out.mono ?_; rintro e w' ⟨rfl, rfl⟩))
          go_ret
          exact ⟨ret_bool (by rw [HFV.out]; rfl), rfl⟩
        | true =>
          rw [hi] at hC2 HFV
          have HC1 := Lib.hid hC1
          have HC2 := Lib.hid hC2
          clear hC1 hC2 hf hi
          by_cases h16 : k ≤ 16
          · go_wp2_with (first | (go_at_call 39; refine HC1.out.mono ?_; rintro e w' ⟨rfl, rfl⟩) | (go_at_call 91; refine HC2.out.mono ?_; rintro e w' ⟨rfl, rfl⟩))
            go_ret
            exact ⟨ret_bool (by rw [HFV.out]; simp [h16]; omega), rfl⟩
          · go_wp2_with (first | (go_at_call 39; refine HC1.out.mono ?_; rintro e w' ⟨rfl, rfl⟩) | (go_at_call 91; refine HC2.out.mono ?_; rintro e w' ⟨rfl, rfl⟩))
            go_ret
            exact ⟨ret_bool (by rw [HFV.out]; simp [h16]; omega), rfl⟩

set_option maxRecDepth 20000 in
set_option maxHeartbeats 2000000 in
theorem c_l5Same (a1 : Option Addr) (n1 c1 : Nat) (l1 : List (List Int)) (S1 : List Nat) (a2 : Option Addr) (n2 c2 : Nat) (l2 : List (List Int)) (S2 : List Nat) (w : World) (h1 : SliceRd Shp.ints w a1 n1 c1 l1 S1) (h2 : SliceRd Shp.ints w a2 n2 c2 l2 S2) :
    Calls Try.prog 105 #[.slice a1 n1 c1, .slice a2 n2 c2] w (Quiet w (.bool (decide (l1 = l2)))) := by
  have hm1 := h1.max
  have hm2 := h2.max
  have HL1 := Lib.hid h1.1
  have HL2 := Lib.hid h2.1
  have H1 := Lib.hid h1
  have H2 := Lib.hid h2
  clear h1 h2
  by_cases hn : n1 = n2
  · subst hn
    go_enter Try.func105, Try.ntmps105
    go_wp2
    go_loopw [5] (fun i wr => ∃ k : Nat, k ≤ n1 ∧ i = .int .i64 k ∧ Hid (l1.take k = l2.take k) ∧ ∃ m, wr = w.drewN m) (fun i _ => n1 - (intOf i).toNat)
    case atStart => exact ⟨0, Nat.zero_le _, rfl, rfl, 0, rfl⟩
    case round =>
      obtain ⟨k, hk, rfl, hq, m, rfl⟩ := hrel
      by_cases hlt : k < n1
      · obtain ⟨b1, o1, cs1, T1, rfl, hb1, -, hat1, ⟨a3, n3, c3, rfl, hs3⟩, -⟩ := H1.out.at Shp.ints_good [] hlt
        obtain ⟨b2, o2, cs2, T2, rfl, hb2, -, hat2, ⟨a4, n4, c4, rfl, hs4⟩, -⟩ := H2.out.at Shp.ints_good [] hlt
        have q1 := (hat1 0 _ rfl).1
        have q2 := (hat2 0 _ rfl).1
        have e3 : Shp.ints.size = 1 := rfl
        rw [e3, Nat.mul_one, Nat.add_zero] at q1 q2
        have HT1 := Lib.hid (take_snoc l1 k [] (by have := HL1.out; omega))
        have HT2 := Lib.hid (take_snoc l2 k [] (by have := HL2.out; omega))
        have hm3 := hs3.max
        have hm4 := hs4.max
        have HR3 := Lib.hid hs3.row
        have HR4 := Lib.hid hs4.row
        have HE1 : Hid (l1[k]?.getD [] ≠ l2[k]?.getD [] → false = decide (l1 = l2)) := by
          intro hne
          symm
          simp only [decide_eq_false_iff_not]
          intro e
          exact hne (by rw [e])
        clear hat1 hat2 hs3 hs4
        generalize l1[k]?.getD [] = u at *
        generalize l2[k]?.getD [] = v at *
        by_cases he : n3 = n4
        · subst he
          have hne : ((n3 : Int) != n3) = false := by simp
          go_wp2
          go_quiet (fail)
          go_wp2
          go_loopw [6] (fun i wr => ∃ t : Nat, t ≤ n3 ∧ i = .int .i64 t ∧ Hid (u.take t = v.take t) ∧ ∃ m, wr = w.drewN m) (fun i _ => n3 - (intOf i).toNat)
          case atStart => exact ⟨0, Nat.zero_le _, rfl, rfl, drewN_two _ _ _⟩
          case round =>
            obtain ⟨t, ht, rfl, hq2, m', rfl⟩ := hrel
            by_cases hlt2 : t < n3
            · obtain ⟨b5, o5, rfl, hb5, hc5⟩ := HR3.out.cell (by omega)
              obtain ⟨b6, o6, rfl, hb6, hc6⟩ := HR4.out.cell (by omega)
              have hck1 := (hc5 t hlt2).1
              have hck2 := (hc6 t hlt2).1
              have HU1 := Lib.hid (take_snoc u t 0 (by have := HR3.out.len; omega))
              have HU2 := Lib.hid (take_snoc v t 0 (by have := HR4.out.len; omega))
              have HD : Hid (u[t]?.getD 0 ≠ v[t]?.getD 0 → u ≠ v) := fun h e => h (by rw [e])
              clear hc5 hc6
              generalize u[t]?.getD 0 = x at *
              generalize v[t]?.getD 0 = y at *
              by_cases hxy : x = y
              · have hxy2 : (x != y) = false := by simp [hxy]
                have HXY := Lib.hid hxy
                clear hxy
                go_wp2
                go_quiet (fail)
                go_wp2
                go_roundw
                case rel => exact ⟨t + 1, by omega, by go_num, (by rw [HU1.out, HU2.out, HXY.out, hq2.out] : u.take (t + 1) = v.take (t + 1)), _, rfl⟩
                case measure => simp [intOf]; omega
              · have hxy2 : (x != y) = true := by simpa using hxy
                have HXY := Lib.hid hxy
                clear hxy
                go_wp2
                go_quiet (fail)
                go_wp2
                go_ret
                exact ⟨ret_bool (HE1.out (HD.out HXY.out)), drewN_two _ _ _⟩
            · obtain rfl : t = n3 := by omega
              have HUV : Hid (u = v) := by
                have e1 : u.take t = u := List.take_of_length_le (by have := HR3.out.len; omega)
                have e2 : v.take t = v := List.take_of_length_le (by have := HR4.out.len; omega)
                show _ = _
                rw [← e1, ← e2]
                exact hq2.out
              go_wp2
              go_roundw
              case rel => exact ⟨k + 1, by omega, by go_num, (by rw [HT1.out, HT2.out, hq.out, HUV.out] : l1.take (k + 1) = l2.take (k + 1)), _, rfl⟩
              case measure => simp [intOf]; omega
        · have hne : ((n3 : Int) != n4) = true := by simp; omega
          have HD : Hid (u ≠ v) := by
            rintro rfl
            exact he (HR3.out.len.symm.trans HR4.out.len)
          go_wp2
          go_quiet (fail)
          go_wp2
          go_ret
          exact ⟨ret_bool (HE1.out HD.out), drewN_two _ _ _⟩
      · go_wp2
        go_ret
        refine ⟨ret_bool ?_, m, rfl⟩
        symm
        simp only [decide_eq_true_eq]
        have e1 : l1.take k = l1 := List.take_of_length_le (by have := HL1.out; omega)
        have e2 : l2.take k = l2 := List.take_of_length_le (by have := HL2.out; omega)
        rw [← e1, ← e2]
        exact hq.out
  · have hn' : ((n1 : Int) != n2) = true := by simp; omega
    go_enter Try.func105, Try.ntmps105
    go_wp2
    go_ret
    refine ⟨ret_bool ?_, 0, rfl⟩
    symm
    simp only [decide_eq_false_iff_not]
    rintro rfl
    exact hn (HL1.out.symm.trans HL2.out)

set_option maxHeartbeats 800000 in
theorem c_spec_EqualSpaces (s1 s2 : Int) (a1 : Option Addr) (n1 c1 : Nat) (l1 : List (List Int)) (S1 : List Nat) (a2 : Option Addr) (n2 c2 : Nat) (l2 : List (List Int)) (S2 : List Nat) (w : World) (h1 : SliceRd Shp.ints w a1 n1 c1 l1 S1) (h2 : SliceRd Shp.ints w a2 n2 c2 l2 S2) :
    Calls Try.prog 54 #[.agg #[.int .i64 s1, .slice a1 n1 c1], .agg #[.int .i64 s2, .slice a2 n2 c2]] w (Ret w fun v _ => v = .bool (decide (s1 = s2) && decide (l1 = l2))) := by
  have b0 := (Below.refl w.heap.size w).alloc (Nat.le_refl _) (.cells #[.int .i64 s1, .slice a1 n1 c1] 38)
  have b1 := (Below.refl _ (w.alloc (.cells #[.int .i64 s1, .slice a1 n1 c1] 38))).alloc (Nat.le_refl _) (.cells #[.int .i64 s2, .slice a2 n2 c2] 38)
  have hb := below_then b0 b1
  have HB := Lib.hid hb
  have hC := c_l5Same a1 n1 c1 l1 S1 a2 n2 c2 l2 S2 _ (h1.below Shp.ints_good hb) (h2.below Shp.ints_good hb)
  have HC := Lib.hid hC
  clear hC b0 b1 hb h1 h2
  by_cases he : s1 = s2
  · have HE := Lib.hid he
    have e1 : (s1 == s2) = true := by simp [he]
    clear he
    go_enter Try.func54, Try.ntmps54
    go_wp2_with (go_at_call 105; refine HC.out.mono ?_; rintro e w1 ⟨rfl, m, rfl⟩)
    go_ret
    exact ⟨_, rfl, below_drewN m HB.out, by have := HE.out; simp [this]⟩
  · have HE := Lib.hid he
    have e1 : (s1 == s2) = false := by simp [he]
    clear he
    go_enter Try.func54, Try.ntmps54
    go_wp2
    go_ret
    exact ⟨_, rfl, HB.out, by have := HE.out; simp [this]⟩

set_option maxRecDepth 20000 in
set_option maxHeartbeats 2000000 in
theorem c_l5Span (p : Int) (n m : Nat) (a : Option Addr) (c : Nat) (l : List (List Int)) (S0 : List Nat) (w : World) (hp : isF p = true) (h : SliceRd Shp.ints w a m c l S0) (hn : n ≤ 1024) (hm : m ≤ 1024) (hv : VecsP p n l) :
    Calls Try.prog 99 #[.int .i64 p, .int .i64 n, .slice a m c] w (Ret w fun v w' => ∃ a' n' c' S, v = .agg #[.int .i64 n, .slice a' n' c'] ∧ Own 22 Shp.ints w' w.heap.size (.slice a' n' c') (spanL p n l) S) := by
  have hlen := h.1
  have hfl := flatten_len (l := l) (n := n) (fun v hv' => (hv v hv').1)
  have hmn : m * n ≤ 1048576 := by
    have h1 : m * n ≤ 1024 * n := Nat.mul_le_mul_right _ hm
    omega
  have b0 := (Below.refl w.heap.size w).alloc (Nat.le_refl _) (.cells #[.int .i64 0, .slice none 0 0] 38)
  have A0 := Lib.hid (And.intro (At.alloc w #[.int .i64 0, .slice none 0 0] 38) b0)
  have HR := Lib.hid (c_l5Rows n a m c l S0 _ (h.below Shp.ints_good b0) (by omega) (by rw [hfl, hlen]; exact hmn))
  have HI : Hid (InP p m n (rowsF l)) := by have := hv.inP; rw [hlen] at this; exact this
  have HV : Hid (spanL p n l = takeRows (redUp p m (rowsF l) n).1 (redUp p m (rowsF l) n).2.length n) := by show _ = _; unfold spanL; rw [hlen]
  have HG : Hid (∀ i j, i < m → j < n → l.flatten[i * n + j]?.getD 0 = rowsF l i j) := fun i j hi hj => flatten_get (fun v hv' => (hv v hv').1) i j (by omega) hj
  have HP := Lib.hid hp
  have HMN := Lib.hid hmn
  have HFL : Hid (l.flatten.length = m * n) := by show _ = _; rw [hfl, hlen]
  clear b0 h hfl hmn hlen hv hp
  go_enter Try.func99, Try.ntmps99
  go_wp2_with fail
  refine HR.out.mono ?_
  rintro e w1 ⟨v, rfl, hb1, aM, nM, cM, SM, rfl, hrM, hnM⟩
  have HNM : Hid (nM = m * n) := by show _ = _; rw [← hrM.1, HFL.out]
  have HC := Lib.hid (c_l5Basis p m n aM nM cM _ SM w1 HP.out hrM HNM.out (by rw [HNM.out]; exact HMN.out) (by omega) (by omega) (rowsF l) HG.out HI.out)
  have B1 := Lib.hid (below_then A0.out.2 hb1)
  have hz1 : w.heap.size + 1 ≤ w1.heap.size := by have := hb1.size; simpa using this
  have HA := Lib.hid (A0.out.1.keep (hb1.block _ (by simp)))
  clear hrM hnM hb1 HR
  go_wp2_with fail
  refine HC.out.mono ?_
  rintro e w2 ⟨v, rfl, hb2, S2, hO⟩
  obtain ⟨aF, nF, cF, rfl⟩ := hO.form
  have hA2 := HA.out.keep (hb2.block _ (by omega))
  have o0 := hA2.c0
  have o1 := hA2.c1
  have i0 := hA2.f0
  have i1 := hA2.f1
  have HE : Hid (∀ x y : Value, Below w.heap.size w ((w2.setCell ⟨w.heap.size, 0, none⟩ x).setCell ⟨w.heap.size, 1, none⟩ y) ∧ Own 22 Shp.ints ((w2.setCell ⟨w.heap.size, 0, none⟩ x).setCell ⟨w.heap.size, 1, none⟩ y) w.heap.size (.slice aF nF cF) (spanL p n l) S2) := by
    intro x y
    rw [HV.out]
    exact ⟨((below_then B1.out hb2).setCell (Nat.le_refl _) _).setCell (Nat.le_refl _) _, own_lower (own_two hO Shp.ints_good (by omega) _ _ _ _) (by omega)⟩
  clear hA2 hb2 hO HC
  go_wp2
  have hE := HE.out (.int .i64 n) (.slice aF nF cF)
  exact bodyPost_ret (v := .agg #[.int .i64 n, .slice aF nF cF]) (by simp [results, Try.results99, go_sem, o0, o1]) rfl ⟨_, rfl, hE.1, aF, nF, cF, S2, rfl, hE.2⟩

set_option maxRecDepth 20000 in
set_option maxHeartbeats 2000000 in
theorem c_spec_IsSpace (p size : Int) (a : Option Addr) (n c : Nat) (l : List (List Int)) (S : List Nat) (w : World) (hp : fits p) (h : SliceRd Shp.ints w a n c l S) :
    Calls Try.prog 98 #[.int .i64 p, .agg #[.int .i64 size, .slice a n c]] w (Ret w fun r _ => r = .bool (spaceV p size l)) := by
  have b0 := (Below.refl w.heap.size w).alloc (Nat.le_refl _) (.cells #[.int .i64 size, .slice a n c] 38)
  have KEY : Hid (∀ wr, Below (w.alloc (.cells #[.int .i64 size, .slice a n c] 38)).heap.size (w.alloc (.cells #[.int .i64 size, .slice a n c] 38)) wr → Below w.heap.size w wr ∧ At wr w.heap.size 0 [.int .i64 size, .slice a n c] ∧ SliceRd Shp.ints wr a n c l S) := by
    intro wr hb
    have hbw := below_then b0 hb
    exact ⟨hbw, (At.alloc w _ _).keep (hb.block _ (by simp)), h.below Shp.ints_good hbw⟩
  have q0 := (KEY.out _ (Below.refl _ _)).2.1.c0
  have q1 := (KEY.out _ (Below.refl _ _)).2.1.c1
  have HLn := Lib.hid h.1
  have hC := c_l5Fine p size a n c l S _ hp (KEY.out _ (Below.refl _ _)).2.2
  clear b0 h
  cases hf : fineV p size l with
  | false =>
    rw [hf] at hC
    have HF : Hid (spaceV p size l = false) := by show _ = _; simp [spaceV, hf]
    have HC := Lib.hid hC
    clear hC hf
    go_enter Try.func98, Try.ntmps98
    go_wp2_with (go_at_call 139; refine HC.out.mono ?_; rintro e w' ⟨rfl, rfl⟩)
    go_ret
    exact ⟨_, rfl, (KEY.out _ (Below.refl _ _)).1, by rw [HF.out]; rfl⟩
  | true =>
    rw [hf] at hC
    have HC := Lib.hid hC
    obtain ⟨hpf, m, rfl, hm8, hl16, hv⟩ := fineV_parts hf
    have HSP : Hid (spaceV p (m : Int) l = decide (spanL p m l = l)) := by show _ = _; simp [spaceV, hf]
    have hn16 : n ≤ 16 := by have := HLn.out; omega
    have hfl := flatten_len (l := l) (n := m) (fun v hv' => (hv v hv').1)
    have hmn : n * m ≤ 1048576 := by
      have h1 : n * m ≤ 16 * m := Nat.mul_le_mul_right _ hn16
      omega
    have HMN := Lib.hid hmn
    have HFL : Hid (l.flatten.length = n * m) := by show _ = _; rw [hfl, HLn.out]
    have HI : Hid (InP p n m (rowsF l)) := by have := hv.inP; rw [HLn.out] at this; exact this
    have HV : Hid (spanL p m l = takeRows (redUp p n (rowsF l) m).1 (redUp p n (rowsF l) m).2.length m) := by show _ = _; unfold spanL; rw [HLn.out]
    have HG : Hid (∀ i j, i < n → j < m → l.flatten[i * m + j]?.getD 0 = rowsF l i j) := fun i j hi hj => flatten_get (fun v hv' => (hv v hv').1) i j (by have := HLn.out; omega) hj
    have HP := Lib.hid hpf
    clear hC hf hv hl16 hpf hfl hmn
    go_enter Try.func98, Try.ntmps98
    go_wp2_with fail
    refine HC.out.mono ?_
    rintro e w' ⟨rfl, rfl⟩
    generalize w.alloc (.cells #[.int .i64 m, .slice a n c] 38) = W at *
    have BD : Hid (Below W.heap.size W W.drew) := below_drew
    have HELD : Hid (∀ w', Below W.heap.size W w' → w'.cell? ⟨w.heap.size, 0, none⟩ = some (.int .i64 m) ∧ w'.cell? ⟨w.heap.size, 1, none⟩ = some (.slice a n c)) :=
      fun w' hb => ⟨(KEY.out _ hb).2.1.c0, (KEY.out _ hb).2.1.c1⟩
    have HRw := Lib.hid (c_l5Rows m a n c l S W.drew (KEY.out _ BD.out).2.2 (by omega) (by rw [HFL.out]; exact HMN.out))
    clear q0 q1 HC
    go_wp2
    go_region_held3 (fun w' => w'.cell? ⟨w.heap.size, 0, none⟩ = some (.int .i64 m) ∧ w'.cell? ⟨w.heap.size, 1, none⟩ = some (.slice a n c))
      (exact HELD.out _ (Hid.out (by assumption)))
      (first
        | (go_at_call 101; refine Calls.mono HRw.out ?_; rintro e w2 ⟨v, rfl, hb2, aM, nM, cM, SM, rfl, hrM, -⟩; have B2 := Lib.hid (below_then BD.out hb2); have RM := Lib.hid hrM; have HNM : Hid (nM = n * m) := Eq.trans (Eq.symm (And.left hrM)) HFL.out; clear hb2 hrM)
        | (go_at_call 140; refine Calls.mono (c_l5Basis p n m aM nM cM _ SM w2 HP.out RM.out HNM.out (by rw [HNM.out]; exact HMN.out) (by omega) (by omega) (rowsF l) HG.out HI.out) ?_; rintro e w3 ⟨v, rfl, hb3, S3, hO3⟩; obtain ⟨a4, n4, c4, S5, rfl, -, rd5, -, -⟩ := hO3.rd; have B3 := Lib.hid (below_then B2.out hb3); have R5 := Lib.hid rd5; clear hb3 hO3 rd5)
        | (go_at_call 105; refine Calls.mono (c_l5Same _ _ _ _ S5 a n c l S _ R5.out (KEY.out _ B3.out).2.2) ?_; rintro e w4 ⟨rfl, q, rfl⟩; have B4 : Hid (Below W.heap.size W (w3.drewN q)) := below_drewN q B3.out))
    go_wp2
    go_ret
    exact ⟨_, rfl, (KEY.out _ B4.out).1, by rw [HSP.out, HV.out]; rfl⟩
end Go.Proofs.Ytpngpgbmkkjjgaa

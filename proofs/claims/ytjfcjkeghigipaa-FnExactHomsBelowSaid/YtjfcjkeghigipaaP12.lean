/-
  The laws on OrbitDim and HomsBelow.
-/
import Derived.Test.YtjfcjkeghigipaaP11
namespace Go.Proofs.Ytjfcjkeghigipaa
open Go.RowKit
set_option linter.unusedVariables false

def fitV (a b : Rp) : Bool := repV a && (repV b && (decide (a.p = b.p) && decide (a.q = b.q)))
theorem fitV_fit {a b : Rp} (h : fitV a b = true) : Fit a b := by
  unfold fitV at h
  simp only [Bool.and_eq_true, decide_eq_true_eq] at h
  exact fit_of h.1 h.2.1 h.2.2.1 h.2.2.2
theorem fit_self {a : Rp} (h : repV a = true) : Fit a a := fit_of h h rfl rfl
def hdI (a b : Rp) : Int := if fitV a b = true then (hdim a b : Int) else -1
theorem n_homBasis {a b : Rp} (ha : bR a) (hb : bR b) : ∃ l, m_spec_HomBasis a b = some (l, fitV a b) ∧ (fitV a b = true → l.length = hdim a b) := by
  unfold m_spec_HomBasis
  rw [n_l9Fit ha hb, Option.bind_some]
  cases hf : repV a && (repV b && (decide (a.p = b.p) && decide (a.q = b.q))) with
  | false =>
    refine ⟨[], ?_, fun h => by unfold fitV at h; rw [hf] at h; cases h⟩
    unfold fitV
    rw [hf]
    rfl
  | true =>
    have h := fitV_fit hf
    have bV := h.offV (Nat.le_refl _)
    have hV : nV a b ≤ 80 := bV
    have hl := kerL_len h.ra.hp (mE_in h)
    have hkl : ∀ v ∈ kerL a.p (nV a b) (redUp a.p (nE a b) (mE a b) (nV a b)).1 (redUp a.p (nE a b) (mE a b) (nV a b)).2, v.length = nV a b := by
      intro v hv
      unfold kerL at hv
      obtain ⟨k, _, rfl⟩ := List.mem_map.1 hv
      exact kerV_len _ _ _ _ _ _
    rw [Bool.not_true, cond_false, n_l11Equations h, Option.bind_some, n_l4Kernel (tb_mE h), Option.bind_some]
    generalize kerL a.p (nV a b) (redUp a.p (nE a b) (mE a b) (nV a b)).1 (redUp a.p (nE a b) (mE a b) (nV a b)).2 = K at *
    have key := Lp_meas (body := m_spec_HomBasis_L1 a b K) (s := (([] : List (List Mt)), 0)) (fun s => s.2 = (s.1.length : Int) ∧ s.1.length ≤ K.length) (fun s => K.length - s.1.length) (fun r => r.length = K.length) ⟨rfl, Nat.zero_le _⟩ (fun s ⟨h1, h2⟩ => ?_)
    · obtain ⟨r, h1, h2⟩ := key
      rw [h1, Option.bind_some]
      exact ⟨r, by unfold fitV; rw [hf], fun _ => by rw [h2, hl]; rfl⟩
    · obtain ⟨l, j⟩ := s
      simp only at h1 h2
      subst h1
      unfold m_spec_HomBasis_L1
      simp only
      rcases Nat.lt_or_ge l.length K.length with hlt | hge
      · obtain ⟨r, hr⟩ := n_l11Cells h (hkl _ (List.getElem_mem hlt))
        rw [dlt hlt, cond_true, atL_nat hlt, Option.bind_some, hr, Option.bind_some, decide_eq_true (by omega), cond_true, wr_suc hlt (by omega)]
        exact .inl ⟨_, rfl, ⟨by simp, by simp; omega⟩, by simp; omega⟩
      · rw [dnl hge, cond_false]
        exact .inr ⟨_, rfl, by omega⟩
theorem n_specHom {a b : Rp} (ha : bR a) (hb : bR b) : m_spec_HomDim a b = some (hdI a b) := by
  obtain ⟨l, h1, h2⟩ := n_homBasis ha hb
  unfold m_spec_HomDim hdI
  rw [h1, Option.bind_some]
  cases hf : fitV a b with
  | false => rfl
  | true => rw [if_pos rfl, ← h2 hf]; rfl
theorem n_implHom {a b : Rp} (ha : bR a) (hb : bR b) : m_impl_HomDim a b = some (hdI a b) := by
  unfold m_impl_HomDim hdI
  rw [n_fit ha hb, Option.bind_some]
  cases hf : repV a && (repV b && (decide (a.p = b.p) && decide (a.q = b.q))) with
  | false =>
    unfold fitV
    rw [hf]
    rfl
  | true =>
    rw [Bool.not_true, cond_false, n_homDim (fitV_fit hf), Option.bind_some, if_pos (show fitV a b = true from hf)]
theorem hdim_le {a b : Rp} (h : Fit a b) : hdim a b ≤ 80 := by
  have bV := h.offV (Nat.le_refl _)
  unfold hdim nV
  omega
def orbV (a : Rp) : Int := if repV a = true then ((off (lV a a) a.dims.length : Nat) : Int) - hdim a a else -1
theorem n_implOrb {a : Rp} (ha : bR a) : m_impl_OrbitDim a = some (orbV a) := by
  unfold m_impl_OrbitDim orbV
  rw [n_implRep ha, Option.bind_some]
  cases hf : repV a with
  | false => rfl
  | true =>
    have h := fit_self hf
    have n5 := h.ra.n5
    have hd := hdim_le h
    rw [Bool.not_true, cond_false, n_homDim h, Option.bind_some, if_pos rfl, wr_sm (by omega)]
    rw [Lp_go (r := ((off (lV a a) a.dims.length : Nat) : Int) - hdim a a) (fun k => (((off (lV a a) k : Nat) : Int) - hdim a a, (k : Int))) a.dims.length (by simp [off]) (fun k hk => ?_) (fun _ => ?_), Option.bind_some]
    · have ho := h.offV (v := k + 1) hk
      have e : off (lV a a) (k + 1) = off (lV a a) k + lV a a k := rfl
      unfold m_impl_OrbitDim_L1
      simp only
      rw [dlt hk, cond_true, atG 0 hk, Option.bind_some, (h.ra.d k hk).1, h.lA hk, wr_suc hk (by omega), wr_sm (by omega), e]
      congr 3
      omega
    · unfold m_impl_OrbitDim_L1
      simp only
      rw [dnl (Nat.le_refl _), cond_false]
theorem n_specOrb {a : Rp} (ha : bR a) : m_spec_OrbitDim a = some (orbV a) := by
  unfold m_spec_OrbitDim orbV
  rw [n_specRep ha, Option.bind_some]
  cases hf : repV a with
  | false => rfl
  | true =>
    have h := fit_self hf
    have n5 := h.ra.n5
    have hd := hdim_le h
    have bV := h.offV (Nat.le_refl _)
    rw [Bool.not_true, cond_false, if_pos rfl]
    rw [Lp_go (r := ((off (lV a a) a.dims.length : Nat) : Int)) (fun k => (((off (lV a a) k : Nat) : Int), (k : Int))) a.dims.length (by simp [off]) (fun k hk => ?_) (fun _ => ?_), Option.bind_some, n_specHom ha ha, Option.bind_some]
    · unfold hdI
      rw [if_pos (by unfold fitV; rw [hf]; simp), wr_sm (by omega)]
    · have ho := h.offV (v := k + 1) hk
      have e : off (lV a a) (k + 1) = off (lV a a) k + lV a a k := rfl
      unfold m_spec_OrbitDim_L1
      simp only
      rw [dlt hk, cond_true, atG 0 hk, Option.bind_some, Option.bind_some, (h.ra.d k hk).1, h.lA hk, wr_suc hk (by omega), wr_sm (by omega), e]
      congr 3
    · unfold m_spec_OrbitDim_L1
      simp only
      rw [dnl (Nat.le_refl _), cond_false]
theorem plain_OrbitDim {a : Rp} (fa : fR a) : m_laws_FnExactOrbitDim a = some true := by
  unfold m_laws_FnExactOrbitDim
  rw [mz_R fa (by decide) (by decide), Option.bind_some]
  rcases falls_R a 1048576 (by decide) (by decide) with e | ⟨e1, e2, ha⟩
  · rw [e]; rfl
  · rw [decide_eq_false (by omega), cond_false]
    simp only [mt_R ha, Option.bind_some, n_specOrb ha, n_implOrb ha, decide_true, Bool.not_true, cond_false, me_R ha]

/-! ## HomsBelow -/
def rowH (a : Rp) (l : List Rp) : List Int := if l.length ≤ 20 then l.map fun r => hdI r a else []
theorem rowH_len (a b : Rp) (l : List Rp) : (rowH a l).length = (rowH b l).length := by unfold rowH; split <;> simp
theorem rowH_small (a : Rp) (l : List Rp) : (rowH a l).length ≤ 20 := by unfold rowH; split <;> simp; omega
theorem take_map {α β : Type} {f : α → β} {l : List α} {k : Nat} (hk : k < l.length) : (l.take k).map f ++ [f l[k]] = (l.take (k + 1)).map f := by rw [List.take_succ_eq_append_getElem hk, List.map_append]; rfl
theorem n_specRow {a : Rp} {l : List Rp} (ha : bR a) (hl : l.length ≤ 1048576 ∧ ∀ r ∈ l, bR r) : m_spec_HomRow a l = some (rowH a l) := by
  obtain ⟨hl, hb⟩ := hl
  unfold m_spec_HomRow
  by_cases h20 : l.length ≤ 20
  · rw [Lp_go (r := rowH a l) (fun k => ((l.take k).map (fun r => hdI r a), (k : Int))) l.length (by simp) (fun k hk => ?_) (fun _ => ?_), Option.bind_some]
    · unfold m_spec_HomRow_L1
      simp only
      rw [dlt hk, cond_true, decide_eq_true (by omega), cond_true, atL_nat hk, Option.bind_some, n_specHom (hb _ (List.getElem_mem hk)) ha, Option.bind_some, decide_eq_true (by simp only [List.length_map, List.length_take, List.length_cons, List.length_nil]; omega), cond_true, wr_suc hk (by omega), take_map (f := fun r => hdI r a) hk]
    · unfold m_spec_HomRow_L1 rowH
      simp only
      rw [dnl (Nat.le_refl _), cond_false, List.take_length, if_pos h20]
  · rw [Lp_stop (r := []), Option.bind_some]
    · unfold rowH; rw [if_neg h20]
    · unfold m_spec_HomRow_L1
      simp only
      rw [decide_eq_true (by omega), cond_true, decide_eq_false (by omega), cond_false]
theorem n_implRow {a : Rp} {l : List Rp} (ha : bR a) (hl : l.length ≤ 1048576 ∧ ∀ r ∈ l, bR r) : m_impl_HomRow a l = some (rowH a l) := by
  obtain ⟨hl, hb⟩ := hl
  unfold m_impl_HomRow
  by_cases h20 : l.length ≤ 20
  · rw [decide_eq_false (by omega), cond_false]
    rw [Lp_go (r := rowH a l) (fun k => ((l.take k).map (fun r => hdI r a), (k : Int))) l.length (by simp) (fun k hk => ?_) (fun _ => ?_), Option.bind_some]
    · unfold m_impl_HomRow_L1
      simp only
      rw [dlt hk, cond_true, atL_nat hk, Option.bind_some, n_implHom (hb _ (List.getElem_mem hk)) ha, Option.bind_some, decide_eq_true (by simp only [List.length_map, List.length_take, List.length_cons, List.length_nil]; omega), cond_true, wr_suc hk (by omega), take_map (f := fun r => hdI r a) hk]
    · unfold m_impl_HomRow_L1 rowH
      simp only
      rw [dnl (Nat.le_refl _), cond_false, List.take_length, if_pos h20]
  · rw [decide_eq_true (by omega), cond_true]
    unfold rowH; rw [if_neg h20]
def homsV (a b : Rp) (l : List Rp) : Bool := (fitV a b && decide (a.dims = b.dims)) && (List.range (rowH a l).length).all fun k => !decide ((rowH b l)[k]?.getD 0 < (rowH a l)[k]?.getD 0)
theorem n_specHoms {a b : Rp} {l : List Rp} (ha : bR a) (hb : bR b) (hl : l.length ≤ 1048576 ∧ ∀ r ∈ l, bR r) : m_spec_HomsBelow a b l = some (homsV a b l) := by
  have h1 := rowH_small a l
  have h2 := rowH_len a b l
  unfold m_spec_HomsBelow
  rw [n_specRow ha hl, n_specRow hb hl, Option.bind_some, Option.bind_some]
  rw [Lp_all (fun k => !decide ((rowH b l)[k]?.getD 0 < (rowH a l)[k]?.getD 0)) false (n := (rowH a l).length) (by omega) (fun k hk => ?_) (fun _ => ?_), Option.bind_some]
  · unfold homsV
    cases (List.range (rowH a l).length).all (fun k => !decide ((rowH b l)[k]?.getD 0 < (rowH a l)[k]?.getD 0)) with
    | false => simp
    | true =>
      simp only [cond_true, Sum.elim_inl, Bool.and_true]
      rw [n_l9Fit ha hb, Option.bind_some]
      refine bif_and fun _ => ?_
      rw [n_l6Same ha.2.1, Option.bind_some]
  · unfold m_spec_HomsBelow_L1
    rw [dlt hk, cond_true, atG 0 hk, Option.bind_some, atG 0 (by omega), Option.bind_some]
    cases decide ((rowH b l)[k]?.getD 0 < (rowH a l)[k]?.getD 0) <;> rfl
  · unfold m_spec_HomsBelow_L1
    rw [dnl (Nat.le_refl _), cond_false]
theorem n_implHoms {a b : Rp} {l : List Rp} (ha : bR a) (hb : bR b) (hl : l.length ≤ 1048576 ∧ ∀ r ∈ l, bR r) : m_impl_HomsBelow a b l = some (homsV a b l) := by
  have h1 := rowH_small a l
  have h2 := rowH_len a b l
  unfold m_impl_HomsBelow homsV
  rw [n_fit ha hb, Option.bind_some, Bool.and_assoc]
  refine bif_and fun _ => ?_
  rw [n_SlEqual ha.2.1, Option.bind_some]
  refine bif_and fun _ => ?_
  rw [n_implRow ha hl, n_implRow hb hl, Option.bind_some, Option.bind_some, n_isBelow h2 (by unfold bI; omega), Option.bind_some]
theorem plain_HomsBelow {a b : Rp} {l : List Rp} (fa : fR a) (fb : fR b) (fl : fRs l) : m_laws_FnExactHomsBelow a b l = some true := by
  unfold m_laws_FnExactHomsBelow
  rw [mz_R fa (by decide) (by decide), Option.bind_some]
  rcases falls_R a 1048576 (by decide) (by decide) with e | ⟨e1, e2, ha⟩
  · rw [e]; rfl
  · rw [decide_eq_false (by omega), cond_false, mz_R fb e1 (by omega), Option.bind_some]
    rcases falls_R b _ e1 (by omega) with e | ⟨e3, e4, hb⟩
    · rw [e]; rfl
    · rw [decide_eq_false (by omega), cond_false, mz_Rs fl e3 (by omega), Option.bind_some]
      rcases falls_S falls_R l _ e3 (by omega) with e | ⟨e5, e6, hl⟩
      · rw [e]; rfl
      · rw [decide_eq_false (by omega), cond_false]
        simp only [mt_R ha, mt_R hb, mt_Rs hl, Option.bind_some, n_specHoms ha hb hl, n_implHoms ha hb hl, beq_self_eq_true, Bool.not_true, cond_false, me_R ha, me_R hb, me_Rs hl, decide_true]
end Go.Proofs.Ytjfcjkeghigipaa

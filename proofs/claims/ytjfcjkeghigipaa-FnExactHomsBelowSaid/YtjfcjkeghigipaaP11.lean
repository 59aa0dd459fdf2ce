/-
  Morphisms between representations: the reference's equations and kernel; OrbitDim and HomsBelow.
-/
import Derived.Test.YtjfcjkeghigipaaP10
namespace Go.Proofs.Ytjfcjkeghigipaa
open Go.RowKit
set_option linter.unusedVariables false

theorem n_l4Has {L : List Nat} (hL : L.length ≤ 1048576) (k : Nat) : m_spec_l4Has (castL L) k = some (L.contains k) := by
  unfold m_spec_l4Has
  rw [Lp_any (n := L.length) (fun i => decide (L[i]?.getD 0 = k)) true (by omega) (fun i hi => ?_) (fun _ => ?_), Option.bind_some]
  · have e : (List.range L.length).any (fun i => decide (L[i]?.getD 0 = k)) = L.contains k := by
      rw [Bool.eq_iff_iff, List.any_eq_true, List.contains_iff_mem]
      constructor
      · rintro ⟨i, hi, he⟩
        have hi := List.mem_range.1 hi
        have he := of_decide_eq_true he
        rw [List.getElem?_eq_getElem hi, Option.getD_some] at he
        subst he
        exact List.getElem_mem hi
      · intro h
        obtain ⟨i, hi, rfl⟩ := List.mem_iff_getElem.1 h
        exact ⟨i, List.mem_range.2 hi, by simp [hi]⟩
    rw [e]
    cases L.contains k <;> rfl
  · unfold m_spec_l4Has_L1
    rw [castL_len, dlt hi, cond_true, atG 0 (by rw [castL_len]; exact hi), Option.bind_some]
    have e : decide ((castL L)[i]?.getD 0 = (k : Int)) = decide (L[i]?.getD 0 = k) := by
      rw [Bool.eq_iff_iff, decide_eq_true_eq, decide_eq_true_eq]
      simp [castL, hi]
      omega
    rw [e]
    cases decide (L[i]?.getD 0 = k) <;> rfl
  · unfold m_spec_l4Has_L1
    rw [castL_len, dnl (Nat.le_refl _), cond_false]
theorem castL_at {L : List Nat} {i : Nat} (h : i < L.length) : atL (castL L) (i : Int) = some ((L[i]?.getD 0 : Nat) : Int) := by
  rw [atL_nat (by rw [castL_len]; exact h)]; simp [castL, h]
theorem redUp_get {p : Int} {m : Nat} {F : Nat → Nat → Int} {t i : Nat} (h : i < (redUp p m F t).2.length) : (redUp p m F t).2[i]?.getD 0 < t := redUp_lt t _ (mem_get 0 h)
theorem n_l4Kernel {p : Int} {m n : Nat} {F : Nat → Nat → Int} (T : Tb p m n F) : m_spec_l4Kernel p ⟨m, n, tabM m n F⟩ = some (kerL p n (redUp p m F n).1 (redUp p m F n).2) := by
  have hn := T.hn
  have hN := T.hN
  have hin := redUp_in (by have := isF_bd T.hp; omega : 0 < p) T.hi n
  have hlen := @redUp_len p m F n
  have hlen2 := @redUp_len' p m F n
  have hget := @redUp_get p m F n
  unfold m_spec_l4Kernel
  rw [n_specReduce T, Option.bind_some]
  generalize (redUp p m F n).1 = R at *
  generalize (redUp p m F n).2 = L at *
  rw [Lp_go (r := kerL p n R L) (fun k => ((k : Int), ((List.range k).filter fun k => !L.contains k).map fun k => kerV p n R L k L.length)) n (by simp) (fun k hk => ?_) (fun _ => ?_), Option.bind_some]
  · unfold m_spec_l4Kernel_L1
    simp only
    have hfl : ((List.range k).filter fun k => !L.contains k).length ≤ k := by have := List.length_filter_le (fun k => !L.contains k) (List.range k); simpa using this
    rw [dlt hk, cond_true, n_l4Has (by omega), Option.bind_some, List.range_succ, List.filter_append, List.map_append]
    cases hc : L.contains k with
    | true =>
      rw [cond_true, wr_suc hk (by omega), show [k].filter (fun k => !L.contains k) = [] by simp only [List.filter_cons, List.filter_nil, hc, Bool.not_true, Bool.false_eq_true, if_false], List.map_nil, List.append_nil]
    | false =>
      rw [cond_false, decide_eq_true (by omega), decide_eq_true (by omega : (n : Int) ≤ 1048576), Bool.and_self, cond_true, Int.toNat_natCast, Int.toNat_natCast, atL_nat (by simp; exact hk), Option.bind_some]
      rw [Lp_go (r := kerV p n R L k L.length) (fun i => (kerV p n R L k i, (i : Int))) L.length (by rfl) (fun i hi => ?_) (fun _ => ?_), Option.bind_some]
      · rw [decide_eq_true (by simp only [List.length_map]; omega), cond_true, wr_suc hk (by omega), show [k].filter (fun k => !L.contains k) = [k] by simp only [List.filter_cons, List.filter_nil, hc, Bool.not_false, if_true]]
        rfl
      · unfold m_spec_l4Kernel_L2
        simp only
        have b1 := hin i k (by omega) hk
        have hp := isF_bd T.hp
        have hv := hget hi
        rw [castL_len, dlt hi, cond_true, castL_at hi, Option.bind_some, atT hN (by omega) hk, Option.bind_some, wr_sm (by omega), n_l2Mod T.hp (by omega), Option.bind_some, atL_nat (by rw [kerV_len]; exact hv), Option.bind_some, Int.toNat_natCast, wr_suc hi (by omega)]
        rfl
      · unfold m_spec_l4Kernel_L2
        simp only
        rw [castL_len, dnl (Nat.le_refl _), cond_false]
  · unfold m_spec_l4Kernel_L1
    simp only
    rw [dnl (Nat.le_refl _), cond_false]
    rfl
theorem kerL_len {p : Int} (hp : isF p = true) {m n : Nat} {F : Nat → Nat → Int} (hi : InP p m n F) : (kerL p n (redUp p m F n).1 (redUp p m F n).2).length = n - rkF p m n F := by
  have h := red_up hp hi n (Nat.le_refl _)
  have := free_len h.inc (redUp_lt n)
  unfold kerL rkF
  rw [List.length_map]
  omega

/-! ## sizes -/
theorem Fit.lA {a b : Rp} (h : Fit a b) {v : Nat} (hv : v < a.dims.length) : wr ((dN a v : Int) * (dN b v : Int)) = ((Proofs.Ytjfcjkeghigipaa.lV a b v : Nat) : Int) := by
  have := h.lV hv
  unfold Proofs.Ytjfcjkeghigipaa.lV at *
  rw [Nat.mul_comm] at this ⊢
  exact wmul (by omega)
theorem n_l11At {a b : Rp} (h : Fit a b) {v : Nat} (hv : v ≤ a.dims.length) : m_spec_l11At a b v = some ((off (lV a b) v : Nat) : Int) := by
  have n5 := h.ra.n5
  unfold m_spec_l11At
  rw [Lp_go (r := ((off (lV a b) v : Nat) : Int)) (fun k => (((off (lV a b) k : Nat) : Int), (k : Int))) v (by rfl) (fun k hk => ?_) (fun _ => ?_), Option.bind_some]
  · have hka : k < a.dims.length := by omega
    have hkb : k < b.dims.length := by rw [h.ne]; exact hka
    have ho := h.offV (v := k + 1) (by omega)
    have e : off (lV a b) (k + 1) = off (lV a b) k + lV a b k := rfl
    unfold m_spec_l11At_L1
    simp only
    rw [dlt hk, cond_true, atG 0 hka, Option.bind_some, atG 0 hkb, Option.bind_some, (h.ra.d k hka).1, (h.rb.d k hkb).1, h.lA hka, wr_suc hk (by omega), wr_sm (by omega), e]
    simp
  · unfold m_spec_l11At_L1
    simp only
    rw [dnl (Nat.le_refl _), cond_false]
theorem n_l11Size {a b : Rp} (h : Fit a b) : m_spec_l11Size a b = some (nV a b : Int) := by
  have n5 := h.ra.n5
  unfold m_spec_l11Size
  rw [Lp_go (r := (nV a b : Int)) (fun k => (((off (lV a b) k : Nat) : Int), (k : Int))) a.dims.length (by rfl) (fun k hk => ?_) (fun _ => ?_), Option.bind_some]
  · have hkb : k < b.dims.length := by rw [h.ne]; exact hk
    have ho := h.offV (v := k + 1) (by omega)
    have e : off (lV a b) (k + 1) = off (lV a b) k + lV a b k := rfl
    unfold m_spec_l11Size_L1
    simp only
    rw [dlt hk, cond_true, atG 0 hk, Option.bind_some, atG 0 hkb, Option.bind_some, (h.ra.d k hk).1, (h.rb.d k hkb).1, h.lA hk, wr_suc hk (by omega), wr_sm (by omega), e]
    simp
  · unfold m_spec_l11Size_L1
    simp only
    rw [dnl (Nat.le_refl _), cond_false]
    rfl

/-! ## the equations -/
/-- A row of the equations while its first j numbers of b's map are set. -/
def rowA (a b : Rp) (i r k j : Nat) : Nat → Nat → Int := fun v z => if v = sV a i ∧ z % dN a v = k ∧ z / dN a v < j then aF b i r (z / dN a v) else 0
/-- The same behind it, with j numbers of a's map taken off. -/
def rowB (a b : Rp) (i r k j : Nat) : Nat → Nat → Int := fun v z => if v = tV a i ∧ z / dN a v = r ∧ z % dN a v < j then (rowA a b i r k (dN b (sV a i)) v z - aF a i (z % dN a v) k) % a.p else rowA a b i r k (dN b (sV a i)) v z
theorem tabM_snoc (r c : Nat) (F : Nat → Nat → Int) : tabM r c F ++ rowL c (F r) = tabM (r + 1) c F := by
  rw [← flat_tab c F r, ← flat_tab c F (r + 1), List.range_succ, List.map_append, List.flatten_append]
  simp
theorem n_eqRow {a b : Rp} (h : Fit a b) {i r k : Nat} (hi : i < a.q.src.length) (hr : r < dN b (tV a i)) (hk : k < dN a (sV a i)) (x1 x2 x3 : Int × List Int × Int) (e1 : x1.2.2 = i) (e2' : x2.2.2 = r) (e3 : x3.2.2 = k) :
    ∃ y, Lp (m_spec_l11Equations_L4 a b (sV a i) x1 x2 x3) (List.replicate (nV a b) 0, 0) = some y ∧ Lp (m_spec_l11Equations_L5 a b (sV a i) (tV a i) x1 x2 x3) (y, 0) = some (cat (lV a b) (e2 a b i (r * dN a (sV a i) + k)) a.dims.length) := by
  have hb := isF_bd h.ra.hp
  have n5 := h.ra.n5
  obtain ⟨s1, s2⟩ := h.ra.s i hi
  obtain ⟨t1, t2⟩ := h.ra.t i hi
  have s3 : sV a i < b.dims.length := by rw [h.ne]; exact s2
  have t3 : tV a i < b.dims.length := by rw [h.ne]; exact t2
  have hib : i < b.q.src.length := by rw [h.qe]; exact hi
  obtain ⟨m1, m2⟩ := h.ra.m i hi
  obtain ⟨g1, g2⟩ := h.rb.m i hib
  rw [h.sV, h.tV] at g1 g2
  rw [h.pe] at g2
  have da := h.ra.d _ s2
  have da2 := h.ra.d _ t2
  have db := h.rb.d _ s3
  have db2 := h.rb.d _ t3
  have oS := h.offV (v := sV a i + 1) s2
  have oT := h.offV (v := tV a i + 1) t2
  have eS : off (lV a b) (sV a i + 1) = off (lV a b) (sV a i) + lV a b (sV a i) := rfl
  have eT : off (lV a b) (tV a i + 1) = off (lV a b) (tV a i) + lV a b (tV a i) := rfl
  refine ⟨cat (lV a b) (rowA a b i r k (dN b (sV a i))) a.dims.length, ?_, ?_⟩
  · refine Lp_go (fun j => (cat (lV a b) (rowA a b i r k j) a.dims.length, (j : Int))) (dN b (sV a i)) ?_ (fun j hj => ?_) (fun _ => ?_)
    · unfold nV
      rw [cat_zero]
      congr 1
      exact cat_congr fun v z _ _ => by unfold rowA; rw [if_neg fun q => absurd q.2.2 (Nat.not_lt_zero _)]
    · have hz : j * dN a (sV a i) + k < lV a b (sV a i) := ix_lt hj hk
      have hpos : wr (wr (((off (lV a b) (sV a i) : Nat) : Int) + wr ((j : Int) * (dN a (sV a i) : Int))) + (k : Int)) = ((off (lV a b) (sV a i) + (j * dN a (sV a i) + k) : Nat) : Int) := by
        rw [wmul (by omega), wr_sm (x := ((off (lV a b) (sV a i) : Nat) : Int) + ((j * dN a (sV a i) : Nat) : Int)) (by omega), wr_sm (by omega)]; omega
      have hw := g2 r j hr hj
      unfold m_spec_l11Equations_L4
      simp only [e1, e2', e3]
      rw [atG 0 s3, Option.bind_some, db.1, dlt hj, cond_true, n_l11At h (by omega), Option.bind_some, atG 0 s2, Option.bind_some, da.1, hpos, atL_nat (by rw [cat_len]; exact off_lt s2 hz)]
      rw [Option.bind_some, atG ⟨0, 0, []⟩ (by rw [h.rb.ml]; exact hib), Option.bind_some, Option.bind_some, g1]
      simp only
      rw [atT (sq db2.2 db.2) hr hj, Option.bind_some]
      have hv0 : (cat (lV a b) (rowA a b i r k j) a.dims.length)[off (lV a b) (sV a i) + (j * dN a (sV a i) + k)]'(by rw [cat_len]; exact off_lt s2 hz) = 0 := by
        have := cat_get (rowA a b i r k j) s2 hz
        rw [List.getElem?_eq_getElem (by rw [cat_len]; exact off_lt s2 hz)] at this
        rw [Option.some.inj this]
        unfold rowA
        rw [if_neg]
        rw [ix_div hk]
        omega
      rw [hv0, Int.zero_add, wr_sm (by omega), n_l2Mod h.ra.hp (by omega), Option.bind_some, Option.bind_some, Int.toNat_natCast, cat_set s2 hz, wr_suc hj (by omega), Int.emod_eq_of_lt hw.1 hw.2]
      congr 3
      refine cat_congr fun v z hv hz2 => ?_
      by_cases e : v = sV a i ∧ z = j * dN a (sV a i) + k
      · obtain ⟨rfl, rfl⟩ := e
        rw [if_pos ⟨rfl, rfl⟩]
        unfold rowA
        rw [ix_div hk, ix_mod hk, if_pos ⟨rfl, rfl, Nat.lt_succ_self _⟩]
      · rw [if_neg e]
        unfold rowA
        by_cases e4 : v = sV a i ∧ z % dN a v = k ∧ z / dN a v < j
        · rw [if_pos e4, if_pos ⟨e4.1, e4.2.1, by omega⟩]
        · rw [if_neg e4, if_neg]
          rintro ⟨q1, q2, q3⟩
          have q4 : z / dN a v = j := by
            rcases Nat.lt_or_ge (z / dN a v) j with h' | h'
            · exact absurd ⟨q1, q2, h'⟩ e4
            · omega
          refine e ⟨q1, ?_⟩
          rw [← @div_mul_mod (dN a v) z, q4, q2, q1]
    · unfold m_spec_l11Equations_L4
      simp only [e1, e2', e3]
      rw [atG 0 s3, Option.bind_some, db.1, dnl (Nat.le_refl _), cond_false]
  · refine Lp_go (fun j => (cat (lV a b) (rowB a b i r k j) a.dims.length, (j : Int))) (dN a (tV a i)) ?_ (fun j hj => ?_) (fun _ => ?_)
    · congr 1
      exact cat_congr fun v z _ _ => by unfold rowB; rw [if_neg fun q => absurd q.2.2 (Nat.not_lt_zero _)]
    · have hz : r * dN a (tV a i) + j < lV a b (tV a i) := ix_lt hr hj
      have hpos : wr (wr (((off (lV a b) (tV a i) : Nat) : Int) + wr ((r : Int) * (dN a (tV a i) : Int))) + (j : Int)) = ((off (lV a b) (tV a i) + (r * dN a (tV a i) + j) : Nat) : Int) := by
        rw [wmul (by omega), wr_sm (x := ((off (lV a b) (tV a i) : Nat) : Int) + ((r * dN a (tV a i) : Nat) : Int)) (by omega), wr_sm (by omega)]; omega
      have hw := m2 j k hj hk
      unfold m_spec_l11Equations_L5
      simp only [e1, e2', e3]
      rw [atG 0 t2, Option.bind_some, da2.1, dlt hj, cond_true, n_l11At h (by omega), Option.bind_some, Option.bind_some, hpos, atL_nat (by rw [cat_len]; exact off_lt t2 hz)]
      rw [Option.bind_some, atG ⟨0, 0, []⟩ (by rw [h.ra.ml]; exact hi), Option.bind_some, atG 0 s2, Option.bind_some, m1, da.1]
      simp only
      rw [atT (sq da2.2 da.2) hj hk, Option.bind_some]
      have hv0 : (cat (lV a b) (rowB a b i r k j) a.dims.length)[off (lV a b) (tV a i) + (r * dN a (tV a i) + j)]'(by rw [cat_len]; exact off_lt t2 hz) = rowA a b i r k (dN b (sV a i)) (tV a i) (r * dN a (tV a i) + j) := by
        have := cat_get (rowB a b i r k j) t2 hz
        rw [List.getElem?_eq_getElem (by rw [cat_len]; exact off_lt t2 hz)] at this
        rw [Option.some.inj this]
        unfold rowB
        rw [if_neg]
        rw [ix_mod hj]
        omega
      have hbA : 0 ≤ rowA a b i r k (dN b (sV a i)) (tV a i) (r * dN a (tV a i) + j) ∧ rowA a b i r k (dN b (sV a i)) (tV a i) (r * dN a (tV a i) + j) ≤ 5 := by
        unfold rowA
        split
        · rename_i q
          have := g2 r ((r * dN a (tV a i) + j) / dN a (tV a i)) hr q.2.2
          omega
        · omega
      rw [hv0]
      generalize hA : rowA a b i r k (dN b (sV a i)) (tV a i) (r * dN a (tV a i) + j) = A at *
      rw [wr_sm (x := A - aF a i j k) (by omega), n_l2Mod h.ra.hp (by omega), Option.bind_some, Option.bind_some, Int.toNat_natCast, cat_set t2 hz, wr_suc hj (by omega)]
      congr 3
      refine cat_congr fun v z hv hz2 => ?_
      by_cases e : v = tV a i ∧ z = r * dN a (tV a i) + j
      · obtain ⟨rfl, rfl⟩ := e
        rw [if_pos ⟨rfl, rfl⟩]
        unfold rowB
        rw [ix_div hj, ix_mod hj, if_pos ⟨rfl, rfl, Nat.lt_succ_self _⟩, hA]
      · rw [if_neg e]
        unfold rowB
        by_cases e4 : v = tV a i ∧ z / dN a v = r ∧ z % dN a v < j
        · rw [if_pos e4, if_pos ⟨e4.1, e4.2.1, by omega⟩]
        · rw [if_neg e4, if_neg]
          rintro ⟨q1, q2, q3⟩
          have q4 : z % dN a v = j := by
            rcases Nat.lt_or_ge (z % dN a v) j with h' | h'
            · exact absurd ⟨q1, q2, h'⟩ e4
            · omega
          refine e ⟨q1, ?_⟩
          rw [← @div_mul_mod (dN a v) z, q4, q2, q1]
    · unfold m_spec_l11Equations_L5
      simp only [e1, e2', e3]
      rw [atG 0 t2, Option.bind_some, da2.1, dnl (Nat.le_refl _), cond_false]
      congr 2
      refine cat_congr fun v z hv hz2 => ?_
      have hzb : z < dN b v * dN a v := hz2
      obtain ⟨q1, q2⟩ := divmod hzb
      have eA : rowA a b i r k (dN b (sV a i)) v z = if sV a i = v ∧ k = z % dN a v then aF b i r (z / dN a v) else 0 := by
        unfold rowA
        by_cases e : sV a i = v ∧ k = z % dN a v
        · rw [if_pos e, if_pos ⟨e.1.symm, e.2.symm, by rw [e.1]; exact q1⟩]
        · rw [if_neg e, if_neg fun q => e ⟨q.1.symm, q.2.1.symm⟩]
      unfold rowB e2 eF
      rw [eA, ix_div hk, ix_mod hk]
      by_cases e : tV a i = v ∧ r = z / dN a v
      · rw [if_pos ⟨e.1.symm, e.2.symm, by rw [e.1]; exact q2⟩, if_pos e]
      · rw [if_neg fun q => e ⟨q.1.symm, q.2.1.symm⟩, if_neg e, Int.sub_zero]
        split
        · rename_i q
          have hw := g2 r (z / dN a v) hr (by rw [q.1]; exact q1)
          exact (Int.emod_eq_of_lt hw.1 hw.2).symm
        · simp
theorem row_mE {a b : Rp} {i y : Nat} (hi : i < a.q.src.length) (hy : y < lE a b i) : cat (lV a b) (e2 a b i y) a.dims.length = rowL (nV a b) (mE a b (off (lE a b) i + y)) := by
  symm
  refine cat_ext (by rw [rowL_len]; rfl) fun v z hv hz => ?_
  have hk : off (lV a b) v + z < nV a b := off_lt hv hz
  unfold rowL
  rw [List.getElem?_map, List.getElem?_range hk, Option.map_some]
  congr 1
  unfold mE
  rw [cat_get _ hi hy, Option.getD_some, cat_get _ hv hz, Option.getD_some]
theorem n_l11Equations {a b : Rp} (h : Fit a b) : m_spec_l11Equations a b = some ⟨nE a b, nV a b, tabM (nE a b) (nV a b) (mE a b)⟩ := by
  have n5 := h.ra.n5
  have e6 := h.ra.e6
  have bV := h.offV (Nat.le_refl _)
  have bE := h.offE (Nat.le_refl _)
  have tl := h.ra.tl
  have ml := h.ra.ml
  have hV : nV a b ≤ 80 := bV
  unfold m_spec_l11Equations
  rw [n_l11Size h, Option.bind_some]
  rw [Lp_go (r := ((nE a b : Int), tabM (nE a b) (nV a b) (mE a b))) (fun i => (((off (lE a b) i : Nat) : Int), tabM (off (lE a b) i) (nV a b) (mE a b), (i : Int))) a.q.src.length (by simp [off, tabM]) (fun i hi => ?_) (fun _ => ?_), Option.bind_some]
  · obtain ⟨s1, s2⟩ := h.ra.s i hi
    obtain ⟨t1, t2⟩ := h.ra.t i hi
    have t3 : tV a i < b.dims.length := by rw [h.ne]; exact t2
    have da := h.ra.d _ s2
    have db2 := h.rb.d _ t3
    have oE := h.offE (i := i + 1) hi
    have eE : off (lE a b) (i + 1) = off (lE a b) i + dN b (tV a i) * dN a (sV a i) := rfl
    unfold m_spec_l11Equations_L1
    simp only
    rw [ml, dlt hi, cond_true, atG 0 hi, Option.bind_some, s1, atG 0 (by omega), Option.bind_some, t1]
    rw [Lp_go (r := (((off (lE a b) (i + 1) : Nat) : Int), tabM (off (lE a b) (i + 1)) (nV a b) (mE a b))) (fun r => (((off (lE a b) i + r * dN a (sV a i) : Nat) : Int), tabM (off (lE a b) i + r * dN a (sV a i)) (nV a b) (mE a b), (r : Int))) (dN b (tV a i)) (by simp) (fun r hr => ?_) (fun _ => ?_), Option.bind_some, wr_suc hi (by omega)]
    · unfold m_spec_l11Equations_L2
      simp only
      rw [atG 0 t3, Option.bind_some, db2.1, dlt hr, cond_true]
      rw [Lp_go (r := (((off (lE a b) i + (r + 1) * dN a (sV a i) : Nat) : Int), tabM (off (lE a b) i + (r + 1) * dN a (sV a i)) (nV a b) (mE a b))) (fun k => (((off (lE a b) i + r * dN a (sV a i) + k : Nat) : Int), tabM (off (lE a b) i + r * dN a (sV a i) + k) (nV a b) (mE a b), (k : Int))) (dN a (sV a i)) (by simp) (fun k hk => ?_) (fun _ => ?_), Option.bind_some, wr_suc hr (by omega)]
      · unfold m_spec_l11Equations_L3
        simp only
        have hy : r * dN a (sV a i) + k < lE a b i := ix_lt hr hk
        have hx : off (lE a b) i + (r * dN a (sV a i) + k) < nE a b := off_lt hi hy
        have hx2 : nE a b ≤ 96 := bE
        have hsz : (off (lE a b) i + r * dN a (sV a i) + k) * nV a b ≤ 96 * 80 := Nat.mul_le_mul (by omega) hV
        rw [atG 0 s2, Option.bind_some, da.1, dlt hk, cond_true, decide_eq_true (by omega), decide_eq_true (by omega : (nV a b : Int) ≤ 1048576), Bool.and_self, cond_true, Int.toNat_natCast]
        obtain ⟨y, y1, y2⟩ := n_eqRow h hi hr hk (((off (lE a b) i : Nat) : Int), tabM (off (lE a b) i) (nV a b) (mE a b), (i : Int)) (((off (lE a b) i + r * dN a (sV a i) : Nat) : Int), tabM (off (lE a b) i + r * dN a (sV a i)) (nV a b) (mE a b), (r : Int)) (((off (lE a b) i + r * dN a (sV a i) + k : Nat) : Int), tabM (off (lE a b) i + r * dN a (sV a i) + k) (nV a b) (mE a b), (k : Int)) rfl rfl rfl
        rw [y1, Option.bind_some, y2, Option.bind_some, row_mE hi hy, tabM_len, rowL_len, decide_eq_true (by omega), cond_true, wr_suc hk (by omega), wr_sm (by omega), ← Nat.add_assoc, tabM_snoc]
        congr 2
      · unfold m_spec_l11Equations_L3
        simp only
        rw [atG 0 s2, Option.bind_some, da.1, dnl (Nat.le_refl _), cond_false, Nat.succ_mul, Nat.add_assoc]
    · unfold m_spec_l11Equations_L2
      simp only
      rw [atG 0 t3, Option.bind_some, db2.1, dnl (Nat.le_refl _), cond_false, eE]
  · unfold m_spec_l11Equations_L1
    simp only
    rw [ml, dnl (Nat.le_refl _), cond_false]
    rfl
theorem n_l11Cells {a b : Rp} (h : Fit a b) {x : List Int} (hx : x.length = nV a b) : ∃ r, m_spec_l11Cells a b x = some r := by
  have n5 := h.ra.n5
  have bV := h.offV (Nat.le_refl _)
  have hV : nV a b ≤ 80 := bV
  refine ⟨(List.range a.dims.length).map fun v => (⟨dN b v, dN a v, (x.drop (off (lV a b) v)).take (lV a b v)⟩ : Mt), ?_⟩
  unfold m_spec_l11Cells
  rw [Lp_go (r := (List.range a.dims.length).map fun v => (⟨dN b v, dN a v, (x.drop (off (lV a b) v)).take (lV a b v)⟩ : Mt)) (fun k => ((List.range k).map (fun v => (⟨dN b v, dN a v, (x.drop (off (lV a b) v)).take (lV a b v)⟩ : Mt)), ((off (lV a b) k : Nat) : Int), (k : Int))) a.dims.length (by simp [off]) (fun k hk => ?_) (fun _ => ?_), Option.bind_some]
  · have hkb : k < b.dims.length := by rw [h.ne]; exact hk
    have ho := @off_le (lV a b) (k + 1) a.dims.length hk
    have e : off (lV a b) (k + 1) = off (lV a b) k + lV a b k := rfl
    unfold m_spec_l11Cells_L1
    simp only
    rw [dlt hk, cond_true, atG 0 hk, Option.bind_some, atG 0 hkb, Option.bind_some, Option.bind_some, Option.bind_some, (h.ra.d k hk).1, (h.rb.d k hkb).1, h.lA hk, wr_sm (x := ((off (lV a b) k : Nat) : Int) + ((lV a b k : Nat) : Int)) (by omega), hx,
      decide_eq_true (by omega), decide_eq_true (by omega : ((off (lV a b) k : Nat) : Int) ≤ ((off (lV a b) k : Nat) : Int) + ((lV a b k : Nat) : Int)), decide_eq_true (by unfold nV; omega : ((off (lV a b) k : Nat) : Int) + ((lV a b k : Nat) : Int) ≤ ((nV a b : Nat) : Int)), Bool.and_self, Bool.and_self, cond_true,
      show (((off (lV a b) k : Nat) : Int) + ((lV a b k : Nat) : Int)).toNat - ((off (lV a b) k : Nat) : Int).toNat = lV a b k by omega, Int.toNat_natCast]
    have q2 : decide (((List.range k).map fun v => (⟨dN b v, dN a v, (x.drop (off (lV a b) v)).take (lV a b v)⟩ : Mt)).length + 1 ≤ 4294967296) = true := decide_eq_true (by simp only [List.length_map, List.length_range]; omega)
    have q1 : decide (([] : List Int).length + ((x.drop (off (lV a b) k)).take (lV a b k)).length ≤ 4294967296) = true := decide_eq_true (by simp only [List.length_nil, List.length_take, List.length_drop]; omega)
    rw [q1, cond_true, q2, cond_true, List.nil_append, wr_suc hk (by omega), snoc_map (f := fun v => (⟨dN b v, dN a v, (x.drop (off (lV a b) v)).take (lV a b v)⟩ : Mt)), e]
    simp
  · unfold m_spec_l11Cells_L1
    simp only
    rw [dnl (Nat.le_refl _), cond_false]
end Go.Proofs.Ytjfcjkeghigipaa

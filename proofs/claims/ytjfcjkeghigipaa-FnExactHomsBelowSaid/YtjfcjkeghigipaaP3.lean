/-
  What is well formed: the models' answers, in spec and in impl.
-/
import Derived.Test.YtjfcjkeghigipaaP2
namespace Go.Proofs.Ytjfcjkeghigipaa
open Go.RowKit
set_option linter.unusedVariables false

theorem bif_and {c d : Bool} {o : Option Bool} (h : c = true → o = some d) : (bif c then o else some false) = some (c && d) := by cases c with | false => rfl | true => exact h rfl
theorem bif_and1 {c d : Bool} : (bif c then some d else some false) = some (c && d) := by cases c <;> rfl
theorem inR_two {x a b : Int} : (bif decide (a ≤ x) then some (decide (x ≤ b)) else some false) = some (inR x a b) := by
  rw [bif_and1]
  unfold inR
  by_cases h1 : a ≤ x <;> by_cases h2 : x ≤ b <;> simp [h1, h2]
theorem n_within (x a b : Int) : m_impl_within x a b = some (inR x a b) := inR_two
theorem n_l1In (x a b : Int) : m_spec_l1In x a b = some (inR x a b) := inR_two
theorem isF_test (p : Int) : (bif decide (p = 2) then some true else bif decide (p = 3) then some true else some (decide (p = 5))) = some (isF p) := by
  unfold isF
  by_cases h2 : p = 2 <;> by_cases h3 : p = 3 <;> by_cases h5 : p = 5 <;> simp [h2, h3, h5]
theorem n_specF (p : Int) : m_spec_IsField p = some (isF p) := isF_test p
theorem n_implF (p : Int) : m_impl_IsField p = some (isF p) := isF_test p

/-! ## comparisons -/
theorem n_l6Same {a b : List Int} (h : bI a) : m_spec_l6Same a b = some (decide (a = b)) := by
  unfold bI at h
  exact eq_ints (body := m_spec_l6Same_L1 a b) (by omega) rfl
theorem n_SlEqual {a b : List Int} (h : bI a) : m_slices_Equal_Lint_int a b = some (decide (a = b)) := by
  unfold bI at h
  exact eq_ints (body := m_slices_Equal_Lint_int_L1 a b) (by omega) rfl
theorem n_specEqQ {a b : Qv} (h : bQ a) : m_spec_EqualQuivers a b = some (decide (a = b)) := by
  unfold m_spec_EqualQuivers
  rw [bif_and (d := decide (a.src = b.src) && decide (a.tgt = b.tgt)) (fun _ => ?_)]
  · cases a; cases b; simp
  · rw [n_l6Same h.1, Option.bind_some]
    refine bif_and fun _ => ?_
    rw [n_l6Same h.2.1, Option.bind_some]
theorem n_implEqQ {a b : Qv} (h : bQ a) : m_impl_EqualQuivers a b = some (decide (a = b)) := by
  unfold m_impl_EqualQuivers
  rw [bif_and (d := decide (a.src = b.src) && decide (a.tgt = b.tgt)) (fun _ => ?_)]
  · cases a; cases b; simp
  · rw [n_SlEqual h.1, Option.bind_some]
    refine bif_and fun _ => ?_
    rw [n_SlEqual h.2.1, Option.bind_some]

/-! ## vectors and matrices -/
theorem n_specVec (p : Int) {v : List Int} (h : bI v) : m_spec_IsVector p v = some (isF p && decide (v.length ≤ 64) && v.all fun x => inR x 0 (wr (p - 1))) := by
  unfold bI at h
  unfold m_spec_IsVector
  rw [n_specF, Option.bind_some]
  cases isF p with
  | false => rfl
  | true =>
    rw [Bool.not_true, cond_false, Bool.true_and]
    by_cases h64 : v.length ≤ 64
    · rw [decide_eq_false (by omega), cond_false, decide_eq_true h64, Bool.true_and]
      rw [Lp_all (fun k => inR (v[k]?.getD 0) 0 (wr (p - 1))) false (n := v.length) (by omega) (fun k hk => ?_) (fun _ => ?_), all_range 0 v (fun x => inR x 0 (wr (p - 1))), Option.bind_some]
      · cases v.all _ <;> rfl
      · unfold m_spec_IsVector_L1
        rw [dlt hk, cond_true, atG 0 hk, Option.bind_some, n_l1In, Option.bind_some]
        cases inR _ 0 _ <;> rfl
      · unfold m_spec_IsVector_L1
        rw [dnl (Nat.le_refl _), cond_false]
    · rw [decide_eq_true (by omega), cond_true, decide_eq_false h64, Bool.false_and]
theorem n_IndexFunc {v : List Int} {f : Int → Option Bool} (P : Int → Bool) (hf : ∀ x, f x = some (P x)) (h : bI v) : ∃ i : Int, m_slices_IndexFunc_Lint_int v f = some i ∧ decide (0 ≤ i) = v.any P := by
  unfold bI at h
  unfold m_slices_IndexFunc_Lint_int
  rw [Lp_search (s0 := 0) (s := 0) (n := v.length) (fun k => bif P (v[k]?.getD 0) then some (k : Int) else none) rfl (by omega) (Nat.zero_le _) (fun k _ hk => ?_) (fun _ => ?_)]
  · rw [Option.bind_some]
    cases e : (List.range' 0 (v.length - 0)).findSome? (fun k : Nat => bif P (v[k]?.getD 0) then some (k : Int) else none) with
    | none =>
      refine ⟨-1, rfl, ?_⟩
      rw [List.findSome?_eq_none_iff] at e
      have : v.any P = false := by
        rw [List.any_eq_false]
        intro x hx
        obtain ⟨k, hk, rfl⟩ := List.mem_iff_getElem.1 hx
        have := e k (by simp; omega)
        simp only [List.getElem?_eq_getElem hk, Option.getD_some] at this
        cases hp : P v[k] with
        | false => simp
        | true => rw [hp] at this; cases this
      rw [this]; rfl
    | some i =>
      refine ⟨i, rfl, ?_⟩
      obtain ⟨k, hk, he⟩ := List.exists_of_findSome?_eq_some e
      simp at hk
      have hkl : k < v.length := by omega
      rw [List.getElem?_eq_getElem hkl] at he
      simp only [Option.getD_some] at he
      cases hp : P v[k] with
      | false => rw [hp] at he; cases he
      | true =>
        rw [hp] at he
        cases he
        rw [decide_eq_true (by omega), eq_comm, List.any_eq_true]
        exact ⟨_, List.getElem_mem hkl, hp⟩
  · unfold m_slices_IndexFunc_Lint_int_L1
    rw [dlt hk, cond_true, atG 0 hk, Option.bind_some, hf, Option.bind_some]
    cases P _ <;> rfl
  · unfold m_slices_IndexFunc_Lint_int_L1
    rw [dnl (Nat.le_refl _), cond_false]
theorem n_allWithin {v : List Int} (h : bI v) (a b : Int) : m_impl_allWithin v a b = some (v.all fun x => inR x a b) := by
  unfold m_impl_allWithin m_slices_ContainsFunc_Lint_int
  obtain ⟨i, h1, h2⟩ := n_IndexFunc (f := fun b0 => m_impl_allWithin_1 b0 a b) (fun x => !inR x a b) (fun x => by simp only [m_impl_allWithin_1]; rw [n_within, Option.bind_some]) h
  rw [h1, Option.bind_some, Option.bind_some, h2, List.not_any_eq_all_not]
  simp
theorem n_implVec (p : Int) {v : List Int} (h : bI v) : m_impl_IsVector p v = some (isF p && decide (v.length ≤ 64) && v.all fun x => inR x 0 (wr (p - 1))) := by
  unfold m_impl_IsVector
  rw [n_implF, Option.bind_some, n_allWithin h, Option.bind_some, bif_and1, bif_and1, Bool.and_assoc]
  congr 3
  rw [Bool.eq_iff_iff, decide_eq_true_eq, decide_eq_true_eq]; omega
/-- A matrix of the program, well formed over the field of p. -/
def matV (p : Int) (m : Mt) : Bool := inR m.rows 0 8 && (inR m.cols 0 8 && (decide ((m.cells.length : Int) = wr (m.rows * m.cols)) && (isF p && decide (m.cells.length ≤ 64) && m.cells.all fun x => inR x 0 (wr (p - 1)))))
theorem n_specMat (p : Int) {m : Mt} (h : bM m) : m_spec_IsMatrix p m = some (matV p m) := by
  unfold m_spec_IsMatrix matV
  rw [n_l1In, Option.bind_some]
  refine bif_and fun _ => ?_
  rw [n_l1In, Option.bind_some]
  refine bif_and fun _ => ?_
  refine bif_and fun _ => ?_
  rw [n_specVec p h.1, Option.bind_some]
theorem n_implMat (p : Int) {m : Mt} (h : bM m) : m_impl_IsMatrix p m = some (matV p m) := by
  unfold m_impl_IsMatrix matV
  rw [n_within, Option.bind_some]
  refine bif_and fun _ => ?_
  rw [n_within, Option.bind_some]
  refine bif_and fun _ => ?_
  refine bif_and fun _ => ?_
  rw [n_implVec p h.1, Option.bind_some]
/-- Matrices with their sides as numbers and their cells as a table of rests. -/
theorem matV_parts {p : Int} {m : Mt} (h : matV p m = true) : isF p = true ∧ ∃ (r c : Nat) (F : Nat → Nat → Int), r ≤ 8 ∧ c ≤ 8 ∧ m = ⟨r, c, tabM r c F⟩ ∧ ∀ i j, i < r → j < c → 0 ≤ F i j ∧ F i j < p := by
  unfold matV at h
  simp only [Bool.and_eq_true, decide_eq_true_eq, List.all_eq_true] at h
  obtain ⟨h1, h2, h3, ⟨h4, h5⟩, h6⟩ := h
  have h1 := inR_true h1
  have h2 := inR_true h2
  refine ⟨h4, m.rows.toNat, m.cols.toNat, fun i j => m.cells[i * m.cols.toNat + j]?.getD 0, by omega, by omega, ?_, ?_⟩
  · obtain ⟨a, b, l⟩ := m
    simp only at *
    obtain ⟨r, rfl⟩ := Int.eq_ofNat_of_zero_le h1.1
    obtain ⟨c, rfl⟩ := Int.eq_ofNat_of_zero_le h2.1
    have hb : r * c ≤ 64 := Nat.mul_le_mul (by omega : r ≤ 8) (by omega : c ≤ 8)
    rw [wmul (by omega)] at h3
    simp only [Int.toNat_natCast]
    rw [← tabM_of (by omega)]
  · intro i j hi hj
    show 0 ≤ m.cells[i * m.cols.toNat + j]?.getD 0 ∧ m.cells[i * m.cols.toNat + j]?.getD 0 < p
    have hx := ix_lt hi hj
    have e : ((m.rows.toNat * m.cols.toNat : Nat) : Int) = m.rows * m.cols := by
      rw [Int.natCast_mul, Int.toNat_of_nonneg h1.1, Int.toNat_of_nonneg h2.1]
    have hb : m.rows.toNat * m.cols.toNat ≤ 64 := Nat.mul_le_mul (by omega : m.rows.toNat ≤ 8) (by omega : m.cols.toNat ≤ 8)
    rw [wr_sm (by omega)] at h3
    have hl : i * m.cols.toNat + j < m.cells.length := by omega
    have := inR_true (h6 _ (List.getElem_mem hl))
    rw [List.getElem?_eq_getElem hl, Option.getD_some]
    have hp := isF_bd h4
    rw [wr_sm (by omega)] at this
    omega

/-! ## quivers -/
def quivV (q : Qv) : Bool := inR q.n 1 5 && (decide ((q.src.length : Int) = (q.tgt.length : Int)) && (decide ((q.src.length : Int) ≤ 6) && ((q.src.all fun x => inR x 0 (wr (q.n - 1))) && (q.tgt.all fun x => inR x 0 (wr (q.n - 1))))))
theorem n_implQ {q : Qv} (h : bQ q) : m_impl_IsQuiver q = some (quivV q) := by
  unfold m_impl_IsQuiver quivV
  rw [n_within, Option.bind_some]
  refine bif_and fun _ => bif_and fun _ => bif_and fun _ => ?_
  rw [n_allWithin h.1, Option.bind_some]
  refine bif_and fun _ => ?_
  rw [n_allWithin h.2.1, Option.bind_some]
theorem n_specQ {q : Qv} (h : bQ q) : m_spec_IsQuiver q = some (quivV q) := by
  obtain ⟨h1, h2, _⟩ := h
  unfold bI at h1 h2
  unfold m_spec_IsQuiver
  rw [Lp_all (n := min q.src.length q.tgt.length) (fun k => inR (q.src[k]?.getD 0) 0 (wr (q.n - 1)) && inR (q.tgt[k]?.getD 0) 0 (wr (q.n - 1))) false (by omega) (fun k hk => ?_) (fun _ => ?_)]
  · rw [Option.bind_some]
    unfold quivV
    by_cases e : q.src.length = q.tgt.length
    · have e2 : min q.src.length q.tgt.length = q.src.length := by omega
      have hall : (List.range q.src.length).all (fun k => inR (q.src[k]?.getD 0) 0 (wr (q.n - 1)) && inR (q.tgt[k]?.getD 0) 0 (wr (q.n - 1))) = ((q.src.all fun x => inR x 0 (wr (q.n - 1))) && (q.tgt.all fun x => inR x 0 (wr (q.n - 1)))) := by
        rw [← all_range 0 q.src, ← all_range 0 q.tgt, ← e]
        rw [Bool.eq_iff_iff, Bool.and_eq_true, range_all, range_all, range_all]
        simp only [Bool.and_eq_true]
        exact ⟨fun h => ⟨fun k hk => (h k hk).1, fun k hk => (h k hk).2⟩, fun h k hk => ⟨h.1 k hk, h.2 k hk⟩⟩
      rw [e2, hall, decide_eq_true (by omega : (q.src.length : Int) = (q.tgt.length : Int))]
      cases (q.src.all fun x => inR x 0 (wr (q.n - 1))) && (q.tgt.all fun x => inR x 0 (wr (q.n - 1))) with
      | false => simp
      | true =>
        simp only [cond_true, Sum.elim_inl]
        rw [n_l1In, Option.bind_some, decide_eq_true (by omega : (q.tgt.length : Int) = (q.src.length : Int)), bif_and1, bif_and1]
        simp
    · rw [decide_eq_false (by omega : ¬ (q.src.length : Int) = (q.tgt.length : Int))]
      simp only [Bool.false_and, Bool.and_false]
      cases (List.range (min q.src.length q.tgt.length)).all _ with
      | false => rfl
      | true =>
        simp only [cond_true, Sum.elim_inl]
        rw [n_l1In, Option.bind_some, decide_eq_false (by omega : ¬ (q.tgt.length : Int) = (q.src.length : Int)), bif_and1, bif_and1]
        simp
  · unfold m_spec_IsQuiver_L1
    rw [dlt (by omega), cond_true, dlt (by omega), cond_true, atG 0 (by omega), Option.bind_some, n_l1In, Option.bind_some, atG 0 (by omega), Option.bind_some, n_l1In, Option.bind_some]
    cases inR (q.src[k]?.getD 0) 0 (wr (q.n - 1)) <;> cases inR (q.tgt[k]?.getD 0) 0 (wr (q.n - 1)) <;> rfl
  · unfold m_spec_IsQuiver_L1
    by_cases e : q.src.length ≤ q.tgt.length
    · rw [dnl (by omega), cond_false]
    · rw [dlt (by omega), cond_true, dnl (by omega), cond_false]
theorem quivV_parts {q : Qv} (h : quivV q = true) : ∃ n : Nat, q.n = n ∧ 1 ≤ n ∧ n ≤ 5 ∧ q.src.length = q.tgt.length ∧ q.src.length ≤ 6 ∧ (∀ x ∈ q.src, 0 ≤ x ∧ x < n) ∧ ∀ x ∈ q.tgt, 0 ≤ x ∧ x < n := by
  unfold quivV at h
  simp only [Bool.and_eq_true, decide_eq_true_eq, List.all_eq_true] at h
  obtain ⟨h1, h2, h3, h4, h5⟩ := h
  have h1 := inR_true h1
  rw [wr_sm (by omega)] at h4 h5
  refine ⟨q.n.toNat, by omega, by omega, by omega, by omega, by omega, fun x hx => ?_, fun x hx => ?_⟩
  · have := inR_true (h4 x hx); omega
  · have := inR_true (h5 x hx); omega

/-! ## dimensions -/
def dimsV (q : Qv) (d : List Int) : Bool := quivV q && (decide ((d.length : Int) = q.n) && ((d.all fun x => inR x 0 4) && decide (d.sum ≤ 8)))
theorem sum_bd {d : List Int} (h : ∀ x ∈ d, 0 ≤ x ∧ x ≤ 4) : 0 ≤ d.sum ∧ d.sum ≤ 4 * d.length := by
  induction d with
  | nil => simp
  | cons x d ih =>
    have h1 := h x (by simp)
    have h2 := ih fun y hy => h y (by simp [hy])
    simp only [List.sum_cons, List.length_cons]
    omega
theorem sum_take {d : List Int} {k : Nat} (hk : k < d.length) : (d.take (k + 1)).sum = (d.take k).sum + d[k]?.getD 0 := by
  rw [List.take_succ_eq_append_getElem hk, List.sum_append]
  simp [hk]
theorem n_sumOf {d : List Int} (h : ∀ x ∈ d, 0 ≤ x ∧ x ≤ 4) (hl : d.length ≤ 1048576) : m_impl_sumOf d = some d.sum := by
  unfold m_impl_sumOf
  rw [Lp_go (r := d.sum) (fun k => ((d.take k).sum, (k : Int))) d.length (by simp) (fun k hk => ?_) (fun _ => ?_)]; rfl
  · unfold m_impl_sumOf_L1
    simp only
    rw [dlt hk, cond_true, atG 0 hk, Option.bind_some, wr_suc hk (by omega)]
    have h1 := sum_bd (d := d.take (k + 1)) fun x hx => h x (List.mem_of_mem_take hx)
    rw [← sum_take hk, wr_sm (by simp at h1; omega)]
  · unfold m_impl_sumOf_L1
    simp only
    rw [dnl (Nat.le_refl _), cond_false, List.take_length]
theorem n_implDims {q : Qv} {d : List Int} (hq : bQ q) (hd : bI d) : m_impl_AreDims q d = some (dimsV q d) := by
  unfold m_impl_AreDims dimsV
  rw [n_implQ hq, Option.bind_some]
  refine bif_and fun _ => bif_and fun _ => ?_
  rw [n_allWithin hd, Option.bind_some]
  refine bif_and fun h => ?_
  rw [n_sumOf (fun x hx => inR_true (List.all_eq_true.1 h x hx)) hd, Option.bind_some]
theorem n_specDims {q : Qv} {d : List Int} (hq : bQ q) (hd : bI d) : m_spec_AreDims q d = some (dimsV q d) := by
  unfold bI at hd
  unfold m_spec_AreDims dimsV
  rw [n_specQ hq, Option.bind_some]
  refine bif_tail fun _ => bif_tail fun _ => ?_
  cases hall : d.all (fun x => inR x 0 4) with
  | true =>
    have hb : ∀ x ∈ d, 0 ≤ x ∧ x ≤ 4 := fun x hx => inR_true (List.all_eq_true.1 hall x hx)
    rw [Lp_go (r := .inl d.sum) (fun k => ((d.take k).sum, (k : Int))) d.length (by simp) (fun k hk => ?_) (fun _ => ?_)]; rfl
    · unfold m_spec_AreDims_L1
      simp only
      rw [dlt hk, cond_true, atG 0 hk, Option.bind_some, n_l1In, Option.bind_some]
      have hin : inR (d[k]?.getD 0) 0 4 = true := by rw [List.getElem?_eq_getElem hk]; exact List.all_eq_true.1 hall _ (List.getElem_mem hk)
      rw [hin, Bool.not_true, cond_false, Option.bind_some, wr_suc hk (by omega)]
      have h1 := sum_bd (d := d.take (k + 1)) fun x hx => hb x (List.mem_of_mem_take hx)
      rw [← sum_take hk, wr_sm (by simp at h1; omega)]
    · unfold m_spec_AreDims_L1
      simp only
      rw [dnl (Nat.le_refl _), cond_false, List.take_length]
  | false =>
    have key := Lp_meas (body := m_spec_AreDims_L1 d) (s := (0, 0)) (fun s => ∃ k : Nat, s.2 = k ∧ k ≤ d.length ∧ ∀ j, j < k → inR (d[j]?.getD 0) 0 4 = true) (fun s => d.length - s.2.toNat) (fun r => r = .inr false)
      ⟨0, rfl, Nat.zero_le _, fun j hj => absurd hj (Nat.not_lt_zero _)⟩ (fun s ⟨k, hs, hk, hj⟩ => ?_)
    · obtain ⟨r, h1, h2⟩ := key
      rw [h1, h2]; rfl
    · obtain ⟨t, s2⟩ := s
      simp only at hs
      subst hs
      rcases Nat.lt_or_ge k d.length with hlt | hge
      · unfold m_spec_AreDims_L1
        simp only
        rw [dlt hlt, cond_true, atG 0 hlt, Option.bind_some, n_l1In, Option.bind_some]
        cases hin : inR (d[k]?.getD 0) 0 4 with
        | false => exact .inr ⟨_, rfl, rfl⟩
        | true =>
          rw [Bool.not_true, cond_false, Option.bind_some, wr_suc hlt (by omega)]
          refine .inl ⟨_, rfl, ⟨k + 1, rfl, hlt, fun j hj2 => ?_⟩, by simp; omega⟩
          by_cases e : j = k
          · subst e; exact hin
          · exact hj j (by omega)
      · exfalso
        have : d.all (fun x => inR x 0 4) = true := by
          rw [← all_range 0 d, range_all]; exact fun j hj' => hj j (by omega)
        rw [hall] at this; cases this
theorem dimsV_parts {q : Qv} {d : List Int} (h : dimsV q d = true) : quivV q = true ∧ (d.length : Int) = q.n ∧ (∀ x ∈ d, 0 ≤ x ∧ x ≤ 4) ∧ d.sum ≤ 8 := by
  unfold dimsV at h
  simp only [Bool.and_eq_true, decide_eq_true_eq, List.all_eq_true] at h
  exact ⟨h.1, h.2.1, fun x hx => inR_true (h.2.2.1 x hx), h.2.2.2⟩

/-! ## representations -/
def repV (r : Rp) : Bool := isF r.p && (dimsV r.q r.dims && (decide ((r.maps.length : Int) = (r.q.src.length : Int)) && (List.range r.maps.length).all fun k =>
  matV r.p (r.maps[k]?.getD ⟨0, 0, []⟩) && (decide ((r.maps[k]?.getD ⟨0, 0, []⟩).cols = r.dims[(r.q.src[k]?.getD 0).toNat]?.getD 0) && decide ((r.maps[k]?.getD ⟨0, 0, []⟩).rows = r.dims[(r.q.tgt[k]?.getD 0).toNat]?.getD 0))))
theorem bif_true {c d : Bool} : (bif !c then some false else some d) = some (c && d) := by cases c <;> rfl
theorem mem_get {α : Type} {l : List α} {k : Nat} (d : α) (h : k < l.length) : l[k]?.getD d ∈ l := by rw [List.getElem?_eq_getElem h]; exact List.getElem_mem h
theorem n_specRep {r : Rp} (h : bR r) : m_spec_IsRep r = some (repV r) := by
  obtain ⟨h1, h2, ⟨h3, h4⟩, _⟩ := h
  unfold m_spec_IsRep repV
  rw [n_specF, Option.bind_some]
  refine bif_tail fun hF => ?_
  rw [n_specDims h1 h2, Option.bind_some]
  refine bif_tail fun hD => ?_
  obtain ⟨hQ, hd1, hd2, _⟩ := dimsV_parts hD
  obtain ⟨n, hn, _, _, hq1, hq2, hq3, hq4⟩ := quivV_parts hQ
  refine bif_tail fun hL => ?_
  have hL := of_decide_eq_true hL
  rw [Lp_all (fun k => matV r.p (r.maps[k]?.getD ⟨0, 0, []⟩) && (decide ((r.maps[k]?.getD ⟨0, 0, []⟩).cols = r.dims[(r.q.src[k]?.getD 0).toNat]?.getD 0) && decide ((r.maps[k]?.getD ⟨0, 0, []⟩).rows = r.dims[(r.q.tgt[k]?.getD 0).toNat]?.getD 0))) false (n := r.maps.length) (by omega) (fun k hk => ?_) (fun _ => ?_), Option.bind_some]
  · cases (List.range r.maps.length).all _ <;> rfl
  · have hs := hq3 _ (mem_get 0 (show k < r.q.src.length by omega))
    have ht := hq4 _ (mem_get 0 (show k < r.q.tgt.length by omega))
    unfold m_spec_IsRep_L1
    rw [dlt hk, cond_true, atG ⟨0, 0, []⟩ hk, Option.bind_some, n_specMat _ (h4 _ (mem_get _ hk)), Option.bind_some, Option.bind_some, atG 0 (by omega), Option.bind_some, atI 0 hs.1 (by omega), Option.bind_some, Option.bind_some, atG 0 (by omega), Option.bind_some, atI 0 ht.1 (by omega), Option.bind_some]
    cases matV r.p _ <;> cases decide ((r.maps[k]?.getD _).cols = _) <;> cases decide ((r.maps[k]?.getD _).rows = _) <;> rfl
  · unfold m_spec_IsRep_L1
    rw [dnl (Nat.le_refl _), cond_false]
theorem n_implRep {r : Rp} (h : bR r) : m_impl_IsRep r = some (repV r) := by
  obtain ⟨h1, h2, ⟨h3, h4⟩, _⟩ := h
  unfold m_impl_IsRep repV
  rw [n_implF, Option.bind_some]
  refine bif_tail fun hF => ?_
  rw [n_implDims h1 h2, Option.bind_some]
  refine bif_tail fun hD => ?_
  obtain ⟨hQ, hd1, hd2, _⟩ := dimsV_parts hD
  obtain ⟨n, hn, _, _, hq1, hq2, hq3, hq4⟩ := quivV_parts hQ
  refine bif_tail fun hL => ?_
  have hL := of_decide_eq_true hL
  rw [Lp_all (fun k => matV r.p (r.maps[k]?.getD ⟨0, 0, []⟩) && (decide ((r.maps[k]?.getD ⟨0, 0, []⟩).cols = r.dims[(r.q.src[k]?.getD 0).toNat]?.getD 0) && decide ((r.maps[k]?.getD ⟨0, 0, []⟩).rows = r.dims[(r.q.tgt[k]?.getD 0).toNat]?.getD 0))) false (n := r.maps.length) (by omega) (fun k hk => ?_) (fun _ => ?_), Option.bind_some]
  · cases (List.range r.maps.length).all _ <;> rfl
  · have hs := hq3 _ (mem_get 0 (show k < r.q.src.length by omega))
    have ht := hq4 _ (mem_get 0 (show k < r.q.tgt.length by omega))
    unfold m_impl_IsRep_L1
    rw [dlt hk, cond_true, atG ⟨0, 0, []⟩ hk, Option.bind_some, n_implMat _ (h4 _ (mem_get _ hk)), Option.bind_some, atG 0 (by omega), Option.bind_some, atI 0 hs.1 (by omega), Option.bind_some, atG 0 (by omega), Option.bind_some, atI 0 ht.1 (by omega), Option.bind_some]
    cases matV r.p _ <;> cases decide ((r.maps[k]?.getD _).cols = _) <;> cases decide ((r.maps[k]?.getD _).rows = _) <;> rfl
  · unfold m_impl_IsRep_L1
    rw [dnl (Nat.le_refl _), cond_false]

/-! ## lines -/
def lineV (q : Qv) : Bool := quivV q && (decide ((q.src.length : Int) = wr (q.n - 1)) && (List.range q.src.length).all fun k => decide (q.src[k]?.getD 0 = k) && decide (q.tgt[k]?.getD 0 = k + 1))
theorem n_l9Fit {a b : Rp} (ha : bR a) (hb : bR b) : m_spec_l9Fit a b = some (repV a && (repV b && (decide (a.p = b.p) && decide (a.q = b.q)))) := by
  unfold m_spec_l9Fit
  rw [n_specRep ha, Option.bind_some]
  refine bif_and fun _ => ?_
  rw [n_specRep hb, Option.bind_some]
  refine bif_and fun _ => bif_and fun _ => ?_
  rw [n_specEqQ ha.1, Option.bind_some]
theorem n_fit {a b : Rp} (ha : bR a) (hb : bR b) : m_impl_fit a b = some (repV a && (repV b && (decide (a.p = b.p) && decide (a.q = b.q)))) := by
  unfold m_impl_fit
  rw [n_implRep ha, Option.bind_some]
  refine bif_and fun _ => ?_
  rw [n_implRep hb, Option.bind_some]
  refine bif_and fun _ => bif_and fun _ => ?_
  rw [n_implEqQ ha.1, Option.bind_some]
end Go.Proofs.Ytjfcjkeghigipaa

/-
  Plain maths, no program: loops of models, rests, elimination, spaces.
-/
import Derived.Test.YtjfcjkeghigipaaX1
namespace Go.Proofs.Ytjfcjkeghigipaa
open Go.RowKit
set_option linter.unusedVariables false

def inR (n lo hi : Int) : Bool := decide (lo ≤ n ∧ n ≤ hi)
theorem inR_true {n lo hi : Int} (h : inR n lo hi = true) : lo ≤ n ∧ n ≤ hi := by simpa [inR] using h
theorem inR_false {n lo hi : Int} (h : inR n lo hi = false) : n < lo ∨ hi < n := by simp [inR] at h; omega
theorem inR_mk {n lo hi : Int} (h1 : lo ≤ n) (h2 : n ≤ hi) : inR n lo hi = true := by simp [inR, h1, h2]

theorem tmod_range (x p : Int) (hp : 0 < p) : -p < x.tmod p ∧ x.tmod p < p := ⟨Int.lt_tmod_of_pos x hp, Int.tmod_lt_of_pos x hp⟩
theorem tmod_cases (x p : Int) (hp : 0 < p) : (0 ≤ x.tmod p ∧ x.tmod p = x % p) ∨ (x.tmod p < 0 ∧ x.tmod p = x % p - p) := by
  have h := @Int.tmod_eq_emod x p
  have h0 := Int.emod_nonneg x (by omega : p ≠ 0)
  have h1 := Int.emod_lt_of_pos x hp
  have h2 : (p.natAbs : Int) = p := by omega
  split at h
  · exact .inl ⟨by omega, by omega⟩
  · exact .inr ⟨by omega, by omega⟩
theorem tmod_emod (x p : Int) (hp : 0 < p) : (x.tmod p + p).tmod p = x % p := by
  have h0 := Int.emod_nonneg x (by omega : p ≠ 0)
  have h1 := Int.emod_lt_of_pos x hp
  rcases tmod_cases x p hp with ⟨h, e⟩ | ⟨h, e⟩
  · rw [e, Int.tmod_eq_emod_of_nonneg (by omega), Int.add_emod_right, Int.emod_emod_of_dvd _ (Int.dvd_refl p)]
  · rw [e, show x % p - p + p = x % p by omega, Int.tmod_eq_emod_of_nonneg h0, Int.emod_emod_of_dvd _ (Int.dvd_refl p)]
def isF (p : Int) : Bool := decide (p = 2 ∨ p = 3 ∨ p = 5)
theorem isF_true {p : Int} (h : isF p = true) : p = 2 ∨ p = 3 ∨ p = 5 := by simpa [isF] using h
/-- r to the power of n, for a rest r -/
def powR (p r : Int) : Nat → Int
  | 0 => 1
  | n + 1 => (powR p r n * r) % p
theorem powR_bd {p r : Int} (hp : isF p = true) (hr : 0 ≤ r ∧ r < p) : ∀ n, 0 ≤ powR p r n ∧ powR p r n < p := by
  intro n
  have := isF_true hp
  cases n with
  | zero => simp [powR]; omega
  | succ n => exact ⟨Int.emod_nonneg _ (by omega), Int.emod_lt_of_pos _ (by omega)⟩
def invR (p r : Int) : Int := powR p r (max (p - 2) 1).toNat
theorem inv_hit {p r y : Int} (hp : isF p = true) (hr : 0 ≤ r ∧ r < p) (hy : 1 ≤ y ∧ y < p) (h : (r * y) % p = 1) : invR p r = y := by
  rcases isF_true hp with rfl | rfl | rfl
  · have h1 : r = 0 ∨ r = 1 := by omega
    have h2 : y = 1 := by omega
    subst h2
    rcases h1 with rfl | rfl <;> first | (exfalso; revert h; decide) | decide
  · have h1 : r = 0 ∨ r = 1 ∨ r = 2 := by omega
    have h2 : y = 1 ∨ y = 2 := by omega
    rcases h1 with rfl | rfl | rfl <;> rcases h2 with rfl | rfl <;> first | (exfalso; revert h; decide) | decide
  · have h1 : r = 0 ∨ r = 1 ∨ r = 2 ∨ r = 3 ∨ r = 4 := by omega
    have h2 : y = 1 ∨ y = 2 ∨ y = 3 ∨ y = 4 := by omega
    rcases h1 with rfl | rfl | rfl | rfl | rfl <;> rcases h2 with rfl | rfl | rfl | rfl <;> first | (exfalso; revert h; decide) | decide
theorem inv_miss {p r : Int} (hp : isF p = true) (hr : 0 ≤ r ∧ r < p) (h : ∀ y : Nat, 1 ≤ y → (y : Int) < p → (r * y) % p ≠ 1) : invR p r = 0 := by
  have h1 := h 1 (by omega)
  have h2 := h 2 (by omega)
  have h3 := h 3 (by omega)
  have h4 := h 4 (by omega)
  rcases isF_true hp with rfl | rfl | rfl
  · have h1 : r = 0 ∨ r = 1 := by omega
    rcases h1 with rfl | rfl <;> first | decide | (exfalso; revert h1 h2 h3 h4; decide)
  · have h1 : r = 0 ∨ r = 1 ∨ r = 2 := by omega
    rcases h1 with rfl | rfl | rfl <;> first | decide | (exfalso; revert h1 h2 h3 h4; decide)
  · have h1 : r = 0 ∨ r = 1 ∨ r = 2 ∨ r = 3 ∨ r = 4 := by omega
    rcases h1 with rfl | rfl | rfl | rfl | rfl <;> first | decide | (exfalso; revert h1 h2 h3 h4; decide)
theorem inv_ok {p r : Int} (hp : isF p = true) (hr : 1 ≤ r ∧ r < p) : 1 ≤ invR p r ∧ invR p r < p ∧ (r * invR p r) % p = 1 := by
  rcases isF_true hp with rfl | rfl | rfl
  · have h1 : r = 1 := by omega
    subst h1; decide
  · have h1 : r = 1 ∨ r = 2 := by omega
    rcases h1 with rfl | rfl <;> decide
  · have h1 : r = 1 ∨ r = 2 ∨ r = 3 ∨ r = 4 := by omega
    rcases h1 with rfl | rfl | rfl | rfl <;> decide

theorem isF_false {p : Int} (h : isF p = false) : p ≠ 2 ∧ p ≠ 3 ∧ p ≠ 5 := by simp [isF] at h; omega
theorem isF_bd {p : Int} (h : isF p = true) : 2 ≤ p ∧ p ≤ 5 := by have := isF_true h; omega
theorem isF_mk {p : Int} (h : p = 2 ∨ p = 3 ∨ p = 5) : isF p = true := by simpa [isF] using h

/-! ## loops -/
theorem wr_sm {x : Int} (h : -4611686018427387904 ≤ x ∧ x ≤ 4611686018427387904) : wr x = x := wr_eq (by omega)
theorem wr_suc {k n : Nat} (hk : k < n) (hn : n ≤ 4611686018427387904) : wr ((k : Int) + 1) = ((k + 1 : Nat) : Int) := by rw [wr_sm (by omega)]; omega
theorem atG {α : Type} {l : List α} {k : Nat} (d : α) (h : k < l.length) : atL l (k : Int) = some (l[k]?.getD d) := by rw [atL_nat h]; simp [h]
theorem atI {α : Type} {l : List α} {i : Int} (d : α) (h0 : 0 ≤ i) (h : i < l.length) : atL l i = some (l[i.toNat]?.getD d) := by
  have := atG (l := l) (k := i.toNat) d (by omega)
  rwa [Int.toNat_of_nonneg h0] at this
theorem dlt {k n : Nat} (h : k < n) : decide ((k : Int) < (n : Int)) = true := decide_eq_true (by omega)
theorem dnl {k n : Nat} (h : n ≤ k) : decide ((k : Int) < (n : Int)) = false := decide_eq_false (by omega)

theorem Lp_search {β : Type} {body : Int → Option (Int ⊕ (Unit ⊕ β))} {s0 : Int} {s n : Nat} (f : Nat → Option β) (hs0 : s0 = (s : Int)) (hn : n ≤ 4611686018427387904) (hsn : s ≤ n) (hs : ∀ k : Nat, s ≤ k → k < n → body k = some (match f k with | none => .inl (wr (k + 1)) | some b => .inr (.inr b)))
    (he : True → body n = some (.inr (.inl ()))) : Lp body s0 = some (match (List.range' s (n - s)).findSome? f with | none => .inl () | some b => .inr b) := by
  have key : ∀ d k : Nat, s ≤ k → k + d = n → Lp body k = some (match (List.range' k d).findSome? f with | none => .inl () | some b => .inr b) := by
    intro d
    induction d with
    | zero => intro k _ hk; rw [Nat.add_zero] at hk; subst hk; exact Lp_stop (he trivial)
    | succ d ih =>
      intro k h1 hk
      have h := hs k h1 (by omega)
      rw [List.range'_succ, List.findSome?_cons]
      cases hf : f k with
      | none => rw [hf] at h; rw [Lp_step h, wr_suc (n := n) (by omega) hn]; exact ih (k + 1) (by omega) (by omega)
      | some b => rw [hf] at h; exact Lp_stop h
  subst hs0
  exact key (n - s) s (Nat.le_refl _) (by omega)
theorem Lp_go {σ ρ : Type} {body : σ → Option (σ ⊕ ρ)} {s : σ} {r : ρ} (I : Nat → σ) (N : Nat) (h0 : s = I 0) (hs : ∀ k, k < N → body (I k) = some (.inl (I (k + 1)))) (hr : True → body (I N) = some (.inr r)) : Lp body s = some r := Lp_inv I N h0 hs (hr trivial)
theorem Lp_all {β : Type} {body : Int → Option (Int ⊕ (Unit ⊕ β))} {n : Nat} (P : Nat → Bool) (b : β) (hn : n ≤ 4611686018427387904) (hs : ∀ k : Nat, k < n → body k = some (bif P k then .inl (wr (k + 1)) else .inr (.inr b)))
    (he : True → body n = some (.inr (.inl ()))) : Lp body 0 = some (bif (List.range n).all P then .inl () else .inr b) := by
  have key : ∀ d k : Nat, k + d = n → Lp body k = some (bif (List.range' k d).all P then .inl () else .inr b) := by
    intro d
    induction d with
    | zero => intro k hk; rw [Nat.add_zero] at hk; subst hk; exact Lp_stop (he trivial)
    | succ d ih =>
      intro k hk
      have h := hs k (by omega)
      rw [List.range'_succ, List.all_cons]
      cases hf : P k with
      | true => rw [hf] at h; rw [Lp_step h, wr_suc (n := n) (by omega) hn]; exact ih (k + 1) (by omega)
      | false => rw [hf] at h; exact Lp_stop h
  have := key n 0 (by omega)
  rwa [List.range_eq_range']
theorem Lp_any {β : Type} {body : Int → Option (Int ⊕ (Unit ⊕ β))} {n : Nat} (P : Nat → Bool) (b : β) (hn : n ≤ 4611686018427387904) (hs : ∀ k : Nat, k < n → body k = some (bif P k then .inr (.inr b) else .inl (wr (k + 1))))
    (he : True → body n = some (.inr (.inl ()))) : Lp body 0 = some (bif (List.range n).any P then .inr b else .inl ()) := by
  rw [Lp_all (fun k => !P k) b hn (fun k hk => by rw [hs k hk]; cases P k <;> rfl) he, ← List.not_any_eq_all_not]
  cases (List.range n).any P <;> rfl
theorem all_range {α : Type} (d : α) (l : List α) (P : α → Bool) : (List.range l.length).all (fun k => P (l[k]?.getD d)) = l.all P := by
  rw [Bool.eq_iff_iff, List.all_eq_true, List.all_eq_true]
  constructor
  · intro h x hx
    obtain ⟨k, hk, rfl⟩ := List.mem_iff_getElem.1 hx
    have := h k (List.mem_range.2 hk)
    simpa [hk] using this
  · intro h k hk
    have hk := List.mem_range.1 hk
    simp only [List.getElem?_eq_getElem hk, Option.getD_some]
    exact h _ (List.getElem_mem hk)
theorem range_all {n : Nat} {P : Nat → Bool} : (List.range n).all P = true ↔ ∀ k, k < n → P k = true := by simp [List.all_eq_true]
theorem range_congr {n : Nat} {P Q : Nat → Bool} (h : ∀ k, k < n → P k = Q k) : (List.range n).all P = (List.range n).all Q := by
  rw [Bool.eq_iff_iff, range_all, range_all]
  exact ⟨fun g k hk => (h k hk) ▸ g k hk, fun g k hk => (h k hk).symm ▸ g k hk⟩
theorem all_eq_list {l m : List Int} (hl : l.length = m.length) : (List.range l.length).all (fun k => decide (l[k]?.getD 0 = m[k]?.getD 0)) = decide (l = m) := by
  rw [Bool.eq_iff_iff, range_all, decide_eq_true_eq]
  constructor
  · intro h
    refine List.ext_getElem hl fun k h1 h2 => ?_
    have := of_decide_eq_true (h k h1)
    simpa [h1, h2] using this
  · rintro rfl k _; simp

/-! ## tables -/
def tabM (r c : Nat) (F : Nat → Nat → Int) : List Int := (List.range (r * c)).map fun t => F (t / c) (t % c)
theorem tabM_len (r c : Nat) (F : Nat → Nat → Int) : (tabM r c F).length = r * c := by simp [tabM]
theorem ix_lt {r c i j : Nat} (hi : i < r) (hj : j < c) : i * c + j < r * c := by
  have := Nat.mul_le_mul_right c (Nat.succ_le_of_lt hi)
  rw [Nat.succ_mul] at this
  omega
theorem ix_div {c i j : Nat} (hj : j < c) : (i * c + j) / c = i := by rw [Nat.mul_comm, Nat.mul_add_div (by omega), Nat.div_eq_of_lt hj, Nat.add_zero]
theorem ix_mod {c i j : Nat} (hj : j < c) : (i * c + j) % c = j := by rw [Nat.mul_comm, Nat.mul_add_mod, Nat.mod_eq_of_lt hj]
theorem tabM_get {r c : Nat} (F : Nat → Nat → Int) {i j : Nat} (hi : i < r) (hj : j < c) : (tabM r c F)[i * c + j]? = some (F i j) := by
  have h := ix_lt hi hj
  simp [tabM, h, ix_div hj, ix_mod hj]
theorem tabM_at {r c : Nat} (F : Nat → Nat → Int) {i j : Nat} (hi : i < r) (hj : j < c) : atL (tabM r c F) ((i * c + j : Nat) : Int) = some (F i j) := by
  rw [atL_nat (by rw [tabM_len]; exact ix_lt hi hj), ← tabM_get F hi hj, List.getElem?_eq_getElem]
theorem tabM_congr {r c : Nat} {F G : Nat → Nat → Int} (h : ∀ i j, i < r → j < c → F i j = G i j) : tabM r c F = tabM r c G := by
  unfold tabM
  refine List.map_congr_left fun t ht => ?_
  have ht := List.mem_range.1 ht
  have hc : 0 < c := by rcases Nat.eq_zero_or_pos c with rfl | h'; simp at ht; exact h'
  exact h _ _ (Nat.div_lt_of_lt_mul (by rw [Nat.mul_comm]; exact ht)) (Nat.mod_lt _ hc)
def setF (F : Nat → Nat → Int) (i j : Nat) (v : Int) : Nat → Nat → Int := fun a b => if a = i ∧ b = j then v else F a b
theorem tabM_set {r c : Nat} (F : Nat → Nat → Int) {i j : Nat} (v : Int) (hi : i < r) (hj : j < c) : (tabM r c F).set (i * c + j) v = tabM r c (setF F i j v) := by
  refine List.ext_getElem (by simp [tabM]) fun t h1 h2 => ?_
  rw [tabM_len] at h2
  have hc : 0 < c := by omega
  rw [List.getElem_set]
  simp only [tabM, List.getElem_map, List.getElem_range, setF]
  have e := Nat.div_add_mod t c
  by_cases ht : i * c + j = t
  · subst ht; rw [if_pos rfl, ix_div hj, ix_mod hj, if_pos ⟨rfl, rfl⟩]
  · rw [if_neg ht, if_neg]
    rintro ⟨rfl, rfl⟩
    rw [Nat.mul_comm] at e
    exact ht e
theorem tabM_of {r c : Nat} {l : List Int} (h : l.length = r * c) : l = tabM r c (fun i j => l[i * c + j]?.getD 0) := by
  refine List.ext_getElem (by rw [tabM_len, h]) fun t h1 h2 => ?_
  simp only [tabM, List.getElem_map, List.getElem_range]
  have e : t / c * c + t % c = t := by rw [Nat.mul_comm]; exact Nat.div_add_mod t c
  rw [e]
  simp [h1]
theorem tabM_zero (r c : Nat) : List.replicate (r * c) (0 : Int) = tabM r c (fun _ _ => 0) := by
  refine List.ext_getElem (by simp [tabM]) fun t h1 h2 => ?_
  simp [tabM]
theorem wix {i c j : Nat} (h : i * c + j ≤ 4611686018427387904) : wr (wr ((i : Int) * (c : Int)) + (j : Int)) = ((i * c + j : Nat) : Int) := by
  have e : (i : Int) * (c : Int) = ((i * c : Nat) : Int) := by simp
  rw [e, wr_sm (x := ((i * c : Nat) : Int)) (by omega), wr_sm (by omega)]; omega
theorem wmul {i c : Nat} (h : i * c ≤ 4611686018427387904) : wr ((i : Int) * (c : Int)) = ((i * c : Nat) : Int) := by
  have e : (i : Int) * (c : Int) = ((i * c : Nat) : Int) := by simp
  rw [e, wr_sm (by omega)]

def vecV (p : Int) (v : List Int) : Bool := isF p && decide (v.length ≤ 64) && v.all (fun x => inR x 0 (p - 1))
theorem vecV_parts {p : Int} {v : List Int} (h : vecV p v = true) : isF p = true ∧ v.length ≤ 64 ∧ v.all (fun x => inR x 0 (p - 1)) = true := by
  simp only [vecV, Bool.and_eq_true, decide_eq_true_eq] at h
  exact ⟨h.1.1, h.1.2, h.2⟩

/-! ### elimination -/

/-- The first row from k on, of d rows, with a number that is not 0 in column j; else the row behind them. -/
def pivot (F : Nat → Nat → Int) (j : Nat) : Nat → Nat → Nat
  | 0, k => k
  | d + 1, k => if F k j = 0 then pivot F j d (k + 1) else k
theorem pivot_eq {F : Nat → Nat → Int} {j : Nat} : ∀ {d k r : Nat}, k ≤ r → r ≤ k + d → (∀ i, k ≤ i → i < r → F i j = 0) → (r < k + d → F r j ≠ 0) → pivot F j d k = r
  | 0, k, r, h1, h2, _, _ => by simp [pivot]; omega
  | d + 1, k, r, h1, h2, h3, h4 => by
    unfold pivot
    by_cases e : F k j = 0
    · rw [if_pos e]
      have hne : k ≠ r := by rintro rfl; exact h4 (by omega) e
      exact pivot_eq (by omega) (by omega) (fun i a b => h3 i (by omega) b) (fun h => h4 (by omega))
    · rw [if_neg e]
      rcases Nat.lt_or_ge k r with h | h
      · exact absurd (h3 k (Nat.le_refl _) h) e
      · omega
theorem pivot_le {F : Nat → Nat → Int} {j : Nat} : ∀ {d k : Nat}, k ≤ pivot F j d k ∧ pivot F j d k ≤ k + d
  | 0, k => by simp [pivot]
  | d + 1, k => by
    unfold pivot
    split
    · have := @pivot_le F j d (k + 1); omega
    · omega

def swapF (F : Nat → Nat → Int) (a b : Nat) : Nat → Nat → Int := fun i c => if i = a then F b c else if i = b then F a c else F i c
def scaleF (p : Int) (F : Nat → Nat → Int) (a : Nat) (s : Int) : Nat → Nat → Int := fun i c => if i = a then (F a c * s) % p else F i c
def elimF (p : Int) (F : Nat → Nat → Int) (a j : Nat) : Nat → Nat → Int := fun i c => if i = a then F a c else (F i c - F i j * F a c) % p

def redPart (p : Int) (F : Nat → Nat → Int) (k r j : Nat) : Nat → Nat → Int := elimF p (scaleF p (swapF F k r) k (invR p (F r j))) k j

def redStep (p : Int) (m : Nat) (st : (Nat → Nat → Int) × List Nat) (j : Nat) : (Nat → Nat → Int) × List Nat :=
  if pivot st.1 j (m - st.2.length) st.2.length = m then st else (redPart p st.1 st.2.length (pivot st.1 j (m - st.2.length) st.2.length) j, st.2 ++ [j])

def redUp (p : Int) (m : Nat) (F : Nat → Nat → Int) : Nat → (Nat → Nat → Int) × List Nat
  | 0 => (F, [])
  | t + 1 => redStep p m (redUp p m F t) t

/-- All numbers are rests. -/
def InP (p : Int) (m n : Nat) (F : Nat → Nat → Int) : Prop := ∀ i j, i < m → j < n → 0 ≤ F i j ∧ F i j < p

theorem redPart_in {p : Int} (hp : 0 < p) {m n : Nat} {F : Nat → Nat → Int} (_h : InP p m n F) (k r j : Nat) : InP p m n (redPart p F k r j) := by
  intro i c hi hc
  unfold redPart elimF scaleF
  split
  · simp only [if_pos]
    exact ⟨Int.emod_nonneg _ (by omega), Int.emod_lt_of_pos _ hp⟩
  · exact ⟨Int.emod_nonneg _ (by omega), Int.emod_lt_of_pos _ hp⟩
theorem redStep_in {p : Int} (hp : 0 < p) {m n : Nat} {st : (Nat → Nat → Int) × List Nat} (h : InP p m n st.1) (j : Nat) : InP p m n (redStep p m st j).1 := by
  unfold redStep
  split
  · exact h
  · exact redPart_in hp h _ _ _
theorem redStep_len {p : Int} {m : Nat} {st : (Nat → Nat → Int) × List Nat} (h : st.2.length ≤ m) (j : Nat) : (redStep p m st j).2.length ≤ m := by
  unfold redStep
  split
  · exact h
  · rename_i h1
    have := @pivot_le st.1 j (m - st.2.length) st.2.length
    simp
    omega
theorem redUp_in {p : Int} (hp : 0 < p) {m n : Nat} {F : Nat → Nat → Int} (h : InP p m n F) : ∀ t, InP p m n (redUp p m F t).1
  | 0 => h
  | t + 1 => redStep_in hp (redUp_in hp h t) t
theorem redUp_len {p : Int} {m : Nat} {F : Nat → Nat → Int} : ∀ t, (redUp p m F t).2.length ≤ m
  | 0 => Nat.zero_le _
  | t + 1 => redStep_len (redUp_len t) t
theorem redUp_lt {p : Int} {m : Nat} {F : Nat → Nat → Int} : ∀ t, ∀ x ∈ (redUp p m F t).2, x < t
  | 0, x, h => by simp [redUp] at h
  | t + 1, x, h => by
    unfold redUp redStep at h
    split at h
    · have := redUp_lt t x h; omega
    · rcases List.mem_append.1 h with h | h
      · have := redUp_lt t x h; omega
      · simp at h; omega
theorem redUp_len' {p : Int} {m : Nat} {F : Nat → Nat → Int} : ∀ t, (redUp p m F t).2.length ≤ t
  | 0 => Nat.zero_le _
  | t + 1 => by
    have := @redUp_len' p m F t
    unfold redUp redStep
    split
    · omega
    · simp; omega

def rowsF (l : List (List Int)) : Nat → Nat → Int := fun i j => (l[i]?.getD [])[j]?.getD 0
def takeRows (F : Nat → Nat → Int) (r n : Nat) : List (List Int) := (List.range r).map fun i => (List.range n).map fun j => F i j
theorem takeRows_len (F : Nat → Nat → Int) (r n : Nat) : (takeRows F r n).length = r := by simp [takeRows]
theorem takeRows_get (F : Nat → Nat → Int) (r n i : Nat) (h : i < r) : (takeRows F r n)[i]?.getD [] = (List.range n).map fun j => F i j := by simp [takeRows, h]
theorem rowsF_take (F : Nat → Nat → Int) (r n i j : Nat) (hi : i < r) (hj : j < n) : rowsF (takeRows F r n) i j = F i j := by
  simp [rowsF, takeRows, hi, hj]
theorem takeRows_congr {F G : Nat → Nat → Int} {r n : Nat} (h : ∀ i j, i < r → j < n → F i j = G i j) : takeRows F r n = takeRows G r n := by
  unfold takeRows
  refine List.map_congr_left fun i hi => List.map_congr_left fun j hj => h i j (by simpa using hi) (by simpa using hj)
def spanL (p : Int) (n : Nat) (l : List (List Int)) : List (List Int) := takeRows (redUp p l.length (rowsF l) n).1 (redUp p l.length (rowsF l) n).2.length n

/-- A matrix reduced in the columns before t, with the leading ones in the columns L. -/
structure Red (m t : Nat) (F : Nat → Nat → Int) (L : List Nat) : Prop where
  lt : ∀ i, i < L.length → L[i]?.getD 0 < t
  inc : ∀ i k, i < k → k < L.length → L[i]?.getD 0 < L[k]?.getD 0
  len : L.length ≤ m
  one : ∀ i, i < L.length → F i (L[i]?.getD 0) = 1
  col : ∀ i k, i < L.length → k < m → k ≠ i → F k (L[i]?.getD 0) = 0
  low : ∀ i j, L.length ≤ i → i < m → j < t → F i j = 0
  left : ∀ i j, i < L.length → j < L[i]?.getD 0 → F i j = 0

theorem get_snoc {L : List Nat} {t i : Nat} : (L ++ [t])[i]?.getD 0 = if i < L.length then L[i]?.getD 0 else if i = L.length then t else 0 := by
  by_cases h : i < L.length
  · rw [if_pos h, List.getElem?_append_left h]
  · rw [if_neg h, List.getElem?_append_right (by omega)]
    by_cases h2 : i = L.length
    · subst h2; simp
    · rw [if_neg h2, List.getElem?_eq_none (by simp; omega)]; rfl

theorem pivot_zero {F : Nat → Nat → Int} {j : Nat} : ∀ {d k : Nat} i, k ≤ i → i < pivot F j d k → F i j = 0
  | 0, k, i, h1, h2 => by simp [pivot] at h2; omega
  | d + 1, k, i, h1, h2 => by
    unfold pivot at h2
    by_cases e : F k j = 0
    · rw [if_pos e] at h2
      by_cases e2 : i = k
      · subst e2; exact e
      · exact pivot_zero i (by omega) h2
    · rw [if_neg e] at h2; omega
theorem pivot_hit {F : Nat → Nat → Int} {j : Nat} : ∀ {d k : Nat}, pivot F j d k < k + d → F (pivot F j d k) j ≠ 0
  | 0, k, h => by simp [pivot] at h
  | d + 1, k, h => by
    unfold pivot at h ⊢
    by_cases e : F k j = 0
    · rw [if_pos e] at h ⊢
      exact pivot_hit (by omega)
    · rw [if_neg e]; exact e

theorem red_step {p : Int} (hp : isF p = true) {m n t : Nat} (ht : t < n) {st : (Nat → Nat → Int) × List Nat} (hin : InP p m n st.1) (h : Red m t st.1 st.2) : Red m (t + 1) (redStep p m st t).1 (redStep p m st t).2 := by
  obtain ⟨F, L⟩ := st
  simp only at hin h
  have hb := isF_bd hp
  unfold redStep
  simp only
  have hle := @pivot_le F t (m - L.length) L.length
  have hz := @pivot_zero F t (m - L.length) L.length
  have hh := @pivot_hit F t (m - L.length) L.length
  have hlen := h.len
  split
  · rename_i hm
    show Red m (t + 1) F L
    refine ⟨fun i hi => by have := h.lt i hi; omega, h.inc, h.len, h.one, h.col, fun i j h1 h2 h3 => ?_, h.left⟩
    by_cases e : j = t
    · subst e; exact hz i h1 (by omega)
    · exact h.low i j h1 h2 (by omega)
  · rename_i hm
    generalize pivot F t (m - L.length) L.length = r at *
    have hrm : r < m := by omega
    have hr0 := hh (by omega)
    have hrb := hin r t hrm ht
    have hiv := inv_ok hp (r := F r t) ⟨by omega, by omega⟩
    -- the new numbers
    have hG : ∀ c, redPart p F L.length r t L.length c = (F r c * invR p (F r t)) % p := by
      intro c; simp [redPart, elimF, scaleF, swapF]
    have hrow : ∀ c, F r c = 0 → redPart p F L.length r t L.length c = 0 := by
      intro c hc; rw [hG, hc]; simp
    have hE : ∀ i c, i ≠ L.length → redPart p F L.length r t i c = ((if i = r then F L.length c else F i c) - (if i = r then F L.length t else F i t) * redPart p F L.length r t L.length c) % p := by
      intro i c hi
      simp [redPart, elimF, scaleF, swapF, hi]
    have hT : redPart p F L.length r t L.length t = 1 := by rw [hG]; exact hiv.2.2
    have hlow : ∀ j, j < t → F r j = 0 := fun j hj => h.low r j hle.1 hrm hj
    show Red m (t + 1) (redPart p F L.length r t) (L ++ [t])
    refine ⟨fun i hi => ?_, fun i k hik hk => ?_, by simp; omega, fun i hi => ?_, fun i k hi hk hki => ?_, fun i j h1 h2 h3 => ?_, fun i j hi hj => ?_⟩
    · rw [get_snoc]
      simp at hi
      split
      · rename_i h1; have := h.lt i h1; omega
      · split <;> omega
    · simp at hk
      rw [get_snoc, get_snoc, if_pos (by omega)]
      split
      · rename_i h1; exact h.inc i k hik h1
      · rw [if_pos (by omega)]; exact h.lt i (by omega)
    · simp at hi
      rw [get_snoc]
      by_cases e : i < L.length
      · rw [if_pos e, hE i _ (by omega), if_neg (by omega), hrow _ (hlow _ (h.lt i e)), h.one i e]
        simp
        exact Int.emod_eq_of_lt (by omega) (by omega)
      · have e2 : i = L.length := by omega
        subst e2
        simp [hT]
    · simp at hi
      rw [get_snoc]
      by_cases e : i < L.length
      · rw [if_pos e]
        by_cases ek : k = L.length
        · subst ek; exact hrow _ (hlow _ (h.lt i e))
        · rw [hE k _ ek, hrow _ (hlow _ (h.lt i e))]
          by_cases er : k = r
          · rw [if_pos er, h.col i L.length e (by omega) (by omega)]; simp
          · rw [if_neg er, h.col i k e hk hki]; simp
      · have e2 : i = L.length := by omega
        subst e2
        rw [if_neg e, if_pos rfl, hE k _ hki, hT]
        simp
    · simp at h1
      rw [hE i _ (by omega)]
      by_cases e : j = t
      · subst e; rw [hT]; simp
      · rw [hrow _ (hlow j (by omega)), h.low L.length j (Nat.le_refl _) (by omega) (by omega), h.low i j (by omega) h2 (by omega)]
        simp
    · simp at hi
      rw [get_snoc] at hj
      by_cases e : i < L.length
      · rw [if_pos e] at hj
        have := h.lt i e
        rw [hE i _ (by omega), if_neg (by omega), hrow _ (hlow j (by omega)), h.left i j e hj]
        simp
      · have e2 : i = L.length := by omega
        subst e2
        rw [if_neg e, if_pos rfl] at hj
        exact hrow _ (hlow j hj)

theorem red_up {p : Int} (hp : isF p = true) {m n : Nat} {F : Nat → Nat → Int} (hin : InP p m n F) : ∀ t, t ≤ n → Red m t (redUp p m F t).1 (redUp p m F t).2
  | 0, _ => ⟨by simp [redUp], by simp [redUp], by simp [redUp], by simp [redUp], by simp [redUp], by simp, by simp [redUp]⟩
  | t + 1, ht => red_step hp (by omega) (redUp_in (by have := isF_bd hp; omega) hin t) (red_up hp hin t (by omega))

theorem invR_one {p : Int} (hp : isF p = true) : invR p 1 = 1 := by
  rcases isF_true hp with rfl | rfl | rfl <;> decide

/-- What is reduced is its own reduction. -/
theorem red_again {p : Int} (hp : isF p = true) {n : Nat} {R G : Nat → Nat → Int} {L : List Nat} {m : Nat} (h : Red m n R L) (hin : InP p m n R) (hG : ∀ i j, i < L.length → j < n → G i j = R i j) :
    ∀ t, t ≤ n → (∃ k, k ≤ L.length ∧ (redUp p L.length G t).2 = L.take k ∧ (∀ i, i < k → L[i]?.getD 0 < t) ∧ (∀ i, k ≤ i → i < L.length → t ≤ L[i]?.getD 0)) ∧ ∀ i j, i < L.length → j < n → (redUp p L.length G t).1 i j = R i j
  | 0, _ => ⟨⟨0, Nat.zero_le _, rfl, fun i hi => absurd hi (Nat.not_lt_zero _), fun i _ _ => Nat.zero_le _⟩, hG⟩
  | t + 1, ht => by
    obtain ⟨⟨k, hk, e1, h1, h2⟩, h3⟩ := red_again hp h hin hG t (by omega)
    have hlen := h.len
    have hkl : (L.take k).length = k := by simp; omega
    unfold redUp redStep
    rw [e1, hkl]
    obtain ⟨H, hH⟩ : ∃ H, H = (redUp p L.length G t).1 := ⟨_, rfl⟩
    rw [← hH] at h3 ⊢
    by_cases hlt : k < L.length ∧ L[k]?.getD 0 = t
    · obtain ⟨hk2, hkt⟩ := hlt
      have hone : H k t = 1 := by rw [h3 k t hk2 (by omega), ← hkt]; exact h.one k hk2
      have hpv : pivot H t (L.length - k) k = k := pivot_eq (Nat.le_refl _) (by omega) (fun i a b => absurd b (by omega)) (fun _ => by rw [hone]; decide)
      rw [hpv, if_neg (by omega)]
      refine ⟨⟨k + 1, by omega, ?_, fun i hi => ?_, fun i hi hi2 => ?_⟩, fun i j hi hj => ?_⟩
      · show L.take k ++ [t] = _
        rw [List.take_succ_eq_append_getElem hk2]
        have : L[k] = t := by simpa [hk2] using hkt
        rw [this]
      · by_cases e : i = k
        · subst e; omega
        · have := h1 i (by omega); omega
      · have := h.inc k i (by omega) hi2; omega
      · show redPart p H k k t i j = _
        have e2 : ∀ c, (H k c * invR p (H k t)) % p = H k c % p := by intro c; rw [hone, invR_one hp]; simp
        have hb := hin i j (by omega) hj
        have hb2 := hin k j (by omega) hj
        by_cases e : i = k
        · subst e
          have e3 : redPart p H i i t i j = (H i j * invR p (H i t)) % p := by simp [redPart, elimF, scaleF, swapF]
          rw [e3, e2, h3 i j hi hj]
          exact Int.emod_eq_of_lt hb.1 hb.2
        · have hz : H i t = 0 := by rw [h3 i t hi (by omega), ← hkt]; exact h.col k i hk2 (by omega) e
          have e3 : redPart p H k k t i j = (H i j - H i t * ((H k j * invR p (H k t)) % p)) % p := by simp [redPart, elimF, scaleF, swapF, e]
          rw [e3, hz, h3 i j hi hj]
          simp
          exact Int.emod_eq_of_lt hb.1 hb.2
    · have hz : ∀ i, k ≤ i → i < L.length → H i t = 0 := by
        intro i hi hi2
        rw [h3 i t hi2 (by omega)]
        refine h.left i t hi2 ?_
        have a := h2 i hi hi2
        by_cases e : i = k
        · subst e
          have : L[i]?.getD 0 ≠ t := fun e => hlt ⟨hi2, e⟩
          omega
        · have b := h2 k (Nat.le_refl _) (by omega)
          have c := h.inc k i (by omega) hi2
          omega
      have hpv : pivot H t (L.length - k) k = L.length := pivot_eq hk (by omega) (fun i a b => hz i a b) (fun h => absurd h (by omega))
      rw [hpv, if_pos rfl]
      refine ⟨⟨k, hk, e1, fun i hi => by have := h1 i hi; omega, fun i hi hi2 => ?_⟩, by rw [← hH]; exact h3⟩
      have a := h2 i hi hi2
      by_cases e : i = k
      · subst e
        have : L[i]?.getD 0 ≠ t := fun e => hlt ⟨hi2, e⟩
        omega
      · have b := h2 k (Nat.le_refl _) (by omega)
        have c := h.inc k i (by omega) hi2
        omega

/-! ### spaces -/

/-- Vectors of one length whose numbers are rests. -/
def VecsP (p : Int) (n : Nat) (l : List (List Int)) : Prop := ∀ v ∈ l, v.length = n ∧ ∀ x ∈ v, 0 ≤ x ∧ x < p
theorem VecsP.inP {p : Int} {n : Nat} {l : List (List Int)} (h : VecsP p n l) : InP p l.length n (rowsF l) := by
  intro i j hi hj
  have h1 := h l[i] (List.getElem_mem hi)
  have h2 := h1.2 ((l[i])[j]'(by omega)) (List.getElem_mem _)
  simpa [rowsF, hi, show j < (l[i]).length by omega] using h2
theorem vecs_span {p : Int} (hp : isF p = true) {n : Nat} {l : List (List Int)} (h : InP p l.length n (rowsF l)) : VecsP p n (spanL p n l) := by
  intro v hv
  unfold spanL takeRows at hv
  simp only [List.mem_map, List.mem_range] at hv
  obtain ⟨i, hi, rfl⟩ := hv
  refine ⟨by simp, fun x hx => ?_⟩
  simp only [List.mem_map, List.mem_range] at hx
  obtain ⟨j, hj, rfl⟩ := hx
  have := @redUp_len p l.length (rowsF l) n
  exact redUp_in (by have := isF_bd hp; omega) h n i j (by omega) hj
theorem span_len {p : Int} {n : Nat} {l : List (List Int)} : (spanL p n l).length ≤ n ∧ (spanL p n l).length ≤ l.length := by
  unfold spanL
  rw [takeRows_len]
  exact ⟨redUp_len' n, redUp_len n⟩
theorem span_span {p : Int} (hp : isF p = true) {n : Nat} {l : List (List Int)} (h : InP p l.length n (rowsF l)) : spanL p n (spanL p n l) = spanL p n l := by
  have h1 := red_up hp h n (Nat.le_refl _)
  have h2 := redUp_in (by have := isF_bd hp; omega) h n
  have hl : (spanL p n l).length = (redUp p l.length (rowsF l) n).2.length := by unfold spanL; rw [takeRows_len]
  obtain ⟨⟨k, hk, e1, h3, h4⟩, h5⟩ := red_again hp (G := rowsF (spanL p n l)) h1 h2 (fun i j hi hj => by unfold spanL; exact rowsF_take _ _ _ i j hi hj) n (Nat.le_refl _)
  have hk2 : k = (redUp p l.length (rowsF l) n).2.length := by
    rcases Nat.lt_or_ge k (redUp p l.length (rowsF l) n).2.length with h6 | h6
    · have a := h4 k (Nat.le_refl _) h6
      have b := h1.lt k h6
      omega
    · omega
  have e2 : (redUp p (spanL p n l).length (rowsF (spanL p n l)) n).2.length = (redUp p l.length (rowsF l) n).2.length := by
    rw [hl, e1, hk2, List.take_length]
  show takeRows (redUp p (spanL p n l).length (rowsF (spanL p n l)) n).1 (redUp p (spanL p n l).length (rowsF (spanL p n l)) n).2.length n = takeRows (redUp p l.length (rowsF l) n).1 (redUp p l.length (rowsF l) n).2.length n
  rw [e2]
  refine takeRows_congr fun i j hi hj => ?_
  rw [hl]
  exact h5 i j hi hj

/-- A vector of the kernel: 1 at a column k without a leading one, and what belongs to it at the leading ones; the first i of these are set. -/
def kerV (p : Int) (n : Nat) (F : Nat → Nat → Int) (L : List Nat) (k : Nat) : Nat → List Int
  | 0 => (List.replicate n 0).set k 1
  | i + 1 => (kerV p n F L k i).set (L[i]?.getD 0) ((-F i k) % p)
theorem kerV_len (p : Int) (n : Nat) (F : Nat → Nat → Int) (L : List Nat) (k : Nat) : ∀ i, (kerV p n F L k i).length = n
  | 0 => by simp [kerV]
  | i + 1 => by simp [kerV, kerV_len p n F L k i]
theorem kerV_in {p : Int} (hp : isF p = true) (n : Nat) (F : Nat → Nat → Int) (L : List Nat) (k : Nat) : ∀ i, ∀ x ∈ kerV p n F L k i, 0 ≤ x ∧ x < p
  | 0, x, hx => by
    have := isF_bd hp
    rcases List.mem_or_eq_of_mem_set hx with h | h
    · rw [List.eq_of_mem_replicate h]; omega
    · omega
  | i + 1, x, hx => by
    have := isF_bd hp
    rcases List.mem_or_eq_of_mem_set hx with h | h
    · exact kerV_in hp n F L k i x h
    · rw [h]; exact ⟨Int.emod_nonneg _ (by omega), Int.emod_lt_of_pos _ (by omega)⟩
def freeL (n : Nat) (L : List Nat) : List Nat := (List.range n).filter fun k => !L.contains k
def kerL (p : Int) (n : Nat) (F : Nat → Nat → Int) (L : List Nat) : List (List Int) := (freeL n L).map fun k => kerV p n F L k L.length

/-- The numbers of some vectors as columns. -/
def colsF (l : List (List Int)) : Nat → Nat → Int := fun i j => rowsF l j i
/-- The sum of the first t vectors, each times its number. -/
def combV (p : Int) (n : Nat) (a : List (List Int)) (k : List Int) : Nat → List Int
  | 0 => List.replicate n 0
  | t + 1 => (List.range n).map fun x => ((combV p n a k t)[x]?.getD 0 + k[t]?.getD 0 * rowsF a t x) % p
theorem combV_len (p : Int) (n : Nat) (a : List (List Int)) (k : List Int) : ∀ t, (combV p n a k t).length = n
  | 0 => by simp [combV]
  | t + 1 => by simp [combV]
theorem combV_in {p : Int} (hp : isF p = true) (n : Nat) (a : List (List Int)) (k : List Int) : ∀ t, ∀ x ∈ combV p n a k t, 0 ≤ x ∧ x < p
  | 0, x, hx => by
    have := isF_bd hp
    rw [List.eq_of_mem_replicate hx]; omega
  | t + 1, x, hx => by
    have := isF_bd hp
    simp only [combV, List.mem_map] at hx
    obtain ⟨j, _, rfl⟩ := hx
    exact ⟨Int.emod_nonneg _ (by omega), Int.emod_lt_of_pos _ (by omega)⟩

def sumL (p : Int) (n : Nat) (a b : List (List Int)) : List (List Int) := spanL p n (a ++ b)
/-- The combinations of a that combinations of b cancel. -/
def meetV (p : Int) (n : Nat) (a b : List (List Int)) : List (List Int) :=
  (kerL p (a ++ b).length (redUp p n (colsF (a ++ b)) (a ++ b).length).1 (redUp p n (colsF (a ++ b)) (a ++ b).length).2).map fun k => combV p n a k a.length
def meetL (p : Int) (n : Nat) (a b : List (List Int)) : List (List Int) := spanL p n (meetV p n a b)

theorem meetV_in {p : Int} (hp : isF p = true) (n : Nat) (a b : List (List Int)) : VecsP p n (meetV p n a b) := by
  intro v hv
  unfold meetV at hv
  simp only [List.mem_map] at hv
  obtain ⟨k, _, rfl⟩ := hv
  exact ⟨combV_len _ _ _ _ _, combV_in hp _ _ _ _⟩
theorem freeL_len (n : Nat) (L : List Nat) : (freeL n L).length ≤ n := by
  unfold freeL
  have := List.length_filter_le (fun k => !L.contains k) (List.range n)
  simpa using this
theorem meetV_len (p : Int) (n : Nat) (a b : List (List Int)) : (meetV p n a b).length ≤ a.length + b.length := by
  unfold meetV kerL
  rw [List.length_map, List.length_map]
  have := freeL_len (a ++ b).length (redUp p n (colsF (a ++ b)) (a ++ b).length).2
  simpa using this

def fineV (p size : Int) (l : List (List Int)) : Bool := isF p && inR size 0 8 && decide (l.length ≤ 16) && l.all fun v => decide ((v.length : Int) = size) && vecV p v
def spaceV (p size : Int) (l : List (List Int)) : Bool := fineV p size l && decide (spanL p size.toNat l = l)

theorem fineV_parts {p size : Int} {l : List (List Int)} (h : fineV p size l = true) : isF p = true ∧ ∃ n : Nat, size = n ∧ n ≤ 8 ∧ l.length ≤ 16 ∧ VecsP p n l := by
  simp only [fineV, Bool.and_eq_true, decide_eq_true_eq, List.all_eq_true] at h
  obtain ⟨⟨⟨h1, h2⟩, h3⟩, h4⟩ := h
  have h5 := inR_true h2
  refine ⟨h1, size.toNat, by omega, by omega, h3, fun v hv => ?_⟩
  have h6 := h4 v hv
  have h7 := vecV_parts h6.2
  refine ⟨by have := h6.1; omega, fun x hx => ?_⟩
  have h8 := h7.2.2
  rw [List.all_eq_true] at h8
  have := inR_true (h8 x hx)
  omega
theorem fineV_mk {p : Int} {n : Nat} {l : List (List Int)} (hp : isF p = true) (hn : n ≤ 8) (hl : l.length ≤ 16) (h : VecsP p n l) : fineV p n l = true := by
  simp only [fineV, Bool.and_eq_true, decide_eq_true_eq, List.all_eq_true]
  refine ⟨⟨⟨hp, inR_mk (by omega) (by omega)⟩, hl⟩, fun v hv => ⟨by rw [(h v hv).1], ?_⟩⟩
  simp only [vecV, Bool.and_eq_true, decide_eq_true_eq, List.all_eq_true]
  exact ⟨⟨hp, by rw [(h v hv).1]; omega⟩, fun x hx => inR_mk (by have := (h v hv).2 x hx; omega) (by have := (h v hv).2 x hx; omega)⟩
theorem spaceV_parts {p size : Int} {l : List (List Int)} (h : spaceV p size l = true) : isF p = true ∧ ∃ n : Nat, size = n ∧ n ≤ 8 ∧ l.length ≤ n ∧ VecsP p n l ∧ spanL p n l = l := by
  simp only [spaceV, Bool.and_eq_true, decide_eq_true_eq] at h
  obtain ⟨hp, n, rfl, hn, _, hv⟩ := fineV_parts h.1
  have h2 : spanL p n l = l := by simpa using h.2
  exact ⟨hp, n, rfl, hn, by have := (@span_len p n l).1; rw [h2] at this; exact this, hv, h2⟩
theorem space_span {p : Int} {n : Nat} {l : List (List Int)} (hp : isF p = true) (hn : n ≤ 8) (h : VecsP p n l) : spaceV p n (spanL p n l) = true := by
  simp only [spaceV, Bool.and_eq_true, decide_eq_true_eq]
  exact ⟨fineV_mk hp hn (by have := (@span_len p n l).1; omega) (vecs_span hp h.inP), by simpa using span_span hp h.inP⟩
theorem VecsP.append {p : Int} {n : Nat} {a b : List (List Int)} (ha : VecsP p n a) (hb : VecsP p n b) : VecsP p n (a ++ b) := by
  intro v hv
  rcases List.mem_append.1 hv with h | h
  · exact ha v h
  · exact hb v h
theorem space_sum {p : Int} {n : Nat} {a b : List (List Int)} (hp : isF p = true) (hn : n ≤ 8) (ha : VecsP p n a) (hb : VecsP p n b) : spaceV p n (sumL p n a b) = true := space_span hp hn (ha.append hb)
theorem space_meet {p : Int} {n : Nat} {a b : List (List Int)} (hp : isF p = true) (hn : n ≤ 8) : spaceV p n (meetL p n a b) = true := space_span hp hn (meetV_in hp n a b)

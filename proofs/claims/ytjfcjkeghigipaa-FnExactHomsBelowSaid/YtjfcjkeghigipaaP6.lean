/-
  Ranks along a line, and the law on RanksBelow.
-/
import Derived.Test.YtjfcjkeghigipaaP5
import Derived.Test.YtjfcjkeghigipaaZ3b
namespace Go.Proofs.Ytjfcjkeghigipaa
open Go.RowKit
set_option linter.unusedVariables false

def rkF (p : Int) (m n : Nat) (F : Nat → Nat → Int) : Nat := (redUp p m F n).2.length
theorem matV_mk {p : Int} (hp : isF p = true) {r c : Nat} (hr : r ≤ 8) (hc : c ≤ 8) {F : Nat → Nat → Int} (hF : InP p r c F) : matV p ⟨r, c, tabM r c F⟩ = true := by
  have hb := isF_bd hp
  have h64 : r * c ≤ 64 := Nat.mul_le_mul hr hc
  unfold matV
  simp only [Bool.and_eq_true, decide_eq_true_eq, List.all_eq_true]
  refine ⟨inR_mk (by omega) (by omega), inR_mk (by omega) (by omega), ?_, ⟨hp, by rw [tabM_len]; exact h64⟩, fun x hx => ?_⟩
  · rw [tabM_len, wmul (by omega)]
  · unfold tabM at hx
    obtain ⟨t, ht, rfl⟩ := List.mem_map.1 hx
    have ht := List.mem_range.1 ht
    have hc0 : 0 < c := by rcases Nat.eq_zero_or_pos c with rfl | h'; simp at ht; exact h'
    have := hF (t / c) (t % c) (Nat.div_lt_of_lt_mul (by rw [Nat.mul_comm]; exact ht)) (Nat.mod_lt _ hc0)
    rw [wr_sm (by omega)]
    exact inR_mk this.1 (by omega)
theorem unit_in {p : Int} (hp : isF p = true) (m n : Nat) : InP p m n unitF := by
  have hb := isF_bd hp
  intro i j _ _
  unfold unitF
  split <;> omega
theorem range_get {d i : Nat} (h : i < d) : (List.range d)[i]?.getD 0 = i := by simp [h]
theorem rk_unit {p : Int} (hp : isF p = true) (d : Nat) : rkF p d d unitF = d := by
  have hR : Red d d unitF (List.range d) := by
    refine ⟨fun i hi => ?_, fun i k hik hk => ?_, by simp, fun i hi => ?_, fun i k hi hk hki => ?_, fun i j h1 h2 _ => ?_, fun i j hi hj => ?_⟩
    · simp at hi; rw [range_get hi]; exact hi
    · simp at hk; rw [range_get (by omega), range_get hk]; exact hik
    · simp at hi; rw [range_get hi]; simp [unitF]
    · simp at hi; rw [range_get hi]; simp [unitF, hki]
    · simp at h1; omega
    · simp at hi; rw [range_get hi] at hj; simp [unitF]; omega
  obtain ⟨⟨k, hk, e1, h3, h4⟩, _⟩ := red_again hp (G := unitF) hR (unit_in hp d d) (fun i j _ _ => rfl) d (Nat.le_refl _)
  have hl : (List.range d).length = d := by simp
  rw [hl] at e1 hk h4
  unfold rkF
  rw [e1]
  have : k = d := by
    rcases Nat.lt_or_ge k d with h | h
    · have := h4 k (Nat.le_refl _) h
      rw [range_get h] at this
      omega
    · omega
  subst this
  simp

/-! ## tables of ranks -/
def dN (r : Rp) (k : Nat) : Nat := (r.dims[k]?.getD 0).toNat
def mF (r : Rp) (k : Nat) : Nat → Nat → Int := fun i j => (r.maps[k]?.getD ⟨0, 0, []⟩).cells[i * dN r k + j]?.getD 0
def chF (r : Rp) (i : Nat) : Nat → Nat → Nat → Int
  | 0 => unitF
  | t + 1 => mulF r.p (dN r (i + t)) (mF r (i + t)) (chF r i t)
def rR (r : Rp) (i j : Nat) : Int := if i ≤ j then (rkF r.p (dN r j) (dN r i) (chF r i (j - i)) : Int) else 0
def tabR (r : Rp) : List (List Int) := (List.range r.dims.length).map fun i => rowL r.dims.length (rR r i)
theorem rep_maps {r : Rp} (h : repV r = true) : isF r.p = true ∧ dimsV r.q r.dims = true ∧ r.maps.length = r.q.src.length ∧ ∀ k, k < r.maps.length → matV r.p (r.maps[k]?.getD ⟨0, 0, []⟩) = true ∧ (r.maps[k]?.getD ⟨0, 0, []⟩).cols = r.dims[(r.q.src[k]?.getD 0).toNat]?.getD 0 ∧ (r.maps[k]?.getD ⟨0, 0, []⟩).rows = r.dims[(r.q.tgt[k]?.getD 0).toNat]?.getD 0 := by
  unfold repV at h
  simp only [Bool.and_eq_true, decide_eq_true_eq, range_all] at h
  exact ⟨h.1, h.2.1, by omega, h.2.2.2⟩
structure Ln (r : Rp) : Prop where
  hp : isF r.p = true
  n1 : 1 ≤ r.dims.length
  n5 : r.dims.length ≤ 5
  d : ∀ k, k < r.dims.length → r.dims[k]?.getD 0 = (dN r k : Int) ∧ dN r k ≤ 4
  ml : r.maps.length + 1 = r.dims.length
  m : ∀ k, k + 1 < r.dims.length → r.maps[k]?.getD ⟨0, 0, []⟩ = ⟨dN r (k + 1), dN r k, tabM (dN r (k + 1)) (dN r k) (mF r k)⟩ ∧ InP r.p (dN r (k + 1)) (dN r k) (mF r k)
theorem ln_of {r : Rp} (h1 : repV r = true) (h2 : lineV r.q = true) : Ln r := by
  obtain ⟨hp, hD, hml, hM⟩ := rep_maps h1
  obtain ⟨hQ, hd1, hd2, _⟩ := dimsV_parts hD
  obtain ⟨n, hn, hn1, hn5, hq1, hq2, hq3, hq4⟩ := quivV_parts hQ
  unfold lineV at h2
  simp only [Bool.and_eq_true, decide_eq_true_eq, range_all] at h2
  obtain ⟨_, h3, h4⟩ := h2
  rw [wr_sm (by omega)] at h3
  have hdl : r.dims.length = n := by omega
  have hd : ∀ k, k < r.dims.length → r.dims[k]?.getD 0 = (dN r k : Int) ∧ dN r k ≤ 4 := by
    intro k hk
    have := hd2 _ (mem_get 0 hk)
    unfold dN
    omega
  refine ⟨hp, by omega, by omega, hd, by omega, fun k hk => ?_⟩
  obtain ⟨g1, g2, g3⟩ := hM k (by omega)
  obtain ⟨g4, g5⟩ := h4 k (by omega)
  rw [g4, Int.toNat_natCast, (hd k (by omega)).1] at g2
  rw [g5, show ((k : Int) + 1).toNat = k + 1 by omega, (hd (k + 1) hk).1] at g3
  obtain ⟨_, a, b, F, ha, hb, he, hF⟩ := matV_parts g1
  have ea : a = dN r (k + 1) := by rw [he] at g3; simp only at g3; omega
  have eb : b = dN r k := by rw [he] at g2; simp only at g2; omega
  have em : ∀ i j, i < a → j < b → mF r k i j = F i j := by
    intro i j hi hj
    unfold mF
    rw [he, ← eb]
    simp only
    rw [tabM_get F hi hj]; rfl
  subst ea; subst eb
  rw [he]
  refine ⟨?_, fun i j hi hj => by rw [em i j hi hj]; exact hF i j hi hj⟩
  rw [tabM_congr em]
theorem ch_in {r : Rp} (L : Ln r) (i t : Nat) (m : Nat) : InP r.p m (dN r i) (chF r i t) := by
  cases t with
  | zero => exact unit_in L.hp _ _
  | succ t => exact mulF_in L.hp _ _ _ _ _
theorem rR_self {r : Rp} (L : Ln r) (i : Nat) : rR r i i = (dN r i : Int) := by
  unfold rR
  rw [if_pos (Nat.le_refl _), Nat.sub_self]
  unfold chF
  rw [rk_unit L.hp]
def fillF (r : Rp) (i j : Nat) : Nat → Int := fun b => if i ≤ b ∧ b < j then rR r i b else 0
theorem rowL_congr {c : Nat} {f g : Nat → Int} (h : ∀ j, j < c → f j = g j) : rowL c f = rowL c g := List.map_congr_left fun j hj => h j (List.mem_range.1 hj)
theorem rowL_set {c j : Nat} (hj : j < c) (f : Nat → Int) (v : Int) : (rowL c f).set j v = rowL c (fun b => if b = j then v else f b) := by
  refine List.ext_getElem (by simp [rowL]) fun t h1 h2 => ?_
  rw [rowL_len] at h2
  rw [List.getElem_set]
  simp only [rowL, List.getElem_map, List.getElem_range]
  by_cases e : j = t
  · rw [if_pos e, if_pos e.symm]
  · rw [if_neg e, if_neg (by omega)]
theorem rowL_zero (c : Nat) : List.replicate c (0 : Int) = rowL c (fun _ => 0) := by
  refine List.ext_getElem (by simp [rowL]) fun t h1 h2 => ?_
  simp [rowL]
theorem fill_step {r : Rp} {c i j : Nat} (hij : i ≤ j) (hj : j < c) {v : Int} (hv : v = rR r i j) : (rowL c (fillF r i j)).set j v = rowL c (fillF r i (j + 1)) := by
  rw [rowL_set hj]
  refine rowL_congr fun b hb => ?_
  unfold fillF
  by_cases e : b = j
  · subst e; rw [if_pos rfl, if_pos (by omega), hv]
  · rw [if_neg e]
    by_cases e2 : i ≤ b ∧ b < j
    · rw [if_pos e2, if_pos (by omega)]
    · rw [if_neg e2, if_neg (by omega)]
theorem fill_end {r : Rp} {c i : Nat} : rowL c (fillF r i c) = rowL c (rR r i) := by
  refine rowL_congr fun b hb => ?_
  unfold fillF
  by_cases e : i ≤ b
  · rw [if_pos ⟨e, hb⟩]
  · rw [if_neg (by omega)]; unfold rR; rw [if_neg e]
theorem sq {a b : Nat} (ha : a ≤ 4) (hb : b ≤ 4) : a * b ≤ 1048576 := by have := Nat.mul_le_mul ha hb; omega


/-! ## comparing -/
theorem flat_tab (c : Nat) (f : Nat → Nat → Int) : ∀ n, ((List.range n).map fun i => rowL c (f i)).flatten = tabM n c f
  | 0 => by simp [tabM]
  | n + 1 => by
    rw [List.range_succ, List.map_append, List.flatten_append, flat_tab c f n]
    unfold tabM
    rw [Nat.succ_mul, List.range_add, List.map_append]
    congr 1
    simp only [List.map_cons, List.map_nil, List.flatten_cons, List.flatten_nil, List.append_nil, List.map_map, rowL]
    refine List.map_congr_left fun j hj => ?_
    have hj := List.mem_range.1 hj
    simp only [Function.comp]
    rw [ix_div hj, ix_mod hj]
theorem flat_len {l : List (List Int)} (h : ∀ x ∈ l, x.length ≤ 1024) : l.flatten.length ≤ 1024 * l.length := by
  induction l with
  | nil => simp
  | cons x l ih =>
    have h1 := h x (by simp)
    have h2 := ih fun y hy => h y (by simp [hy])
    simp only [List.flatten_cons, List.length_append, List.length_cons]
    omega
theorem flat_take {l : List (List Int)} {k : Nat} (hk : k < l.length) : (l.take (k + 1)).flatten = (l.take k).flatten ++ l[k] := by
  rw [List.take_succ_eq_append_getElem hk, List.flatten_append]; simp
theorem all_tab (n c : Nat) (F G : Nat → Nat → Int) : (List.range (n * c)).all (fun k => !decide ((tabM n c G)[k]?.getD 0 < (tabM n c F)[k]?.getD 0)) = (List.range n).all fun i => (List.range c).all fun j => !decide (G i j < F i j) := by
  rw [Bool.eq_iff_iff, range_all, range_all]
  simp only [range_all]
  constructor
  · intro h i hi j hj
    have := h _ (ix_lt hi hj)
    rw [tabM_get _ hi hj, tabM_get _ hi hj] at this
    exact this
  · intro h k hk
    have hc : 0 < c := by rcases Nat.eq_zero_or_pos c with rfl | h'; simp at hk; exact h'
    have hi : k / c < n := Nat.div_lt_of_lt_mul (by rw [Nat.mul_comm]; exact hk)
    have hj := Nat.mod_lt k hc
    have := h _ hi _ hj
    have e : k / c * c + k % c = k := by rw [Nat.mul_comm]; exact Nat.div_add_mod k c
    rw [← e, tabM_get _ hi hj, tabM_get _ hi hj]
    exact this
theorem n_isBelow {a b : List Int} (hl : a.length = b.length) (ha : bI a) : m_impl_isBelow a b = some ((List.range a.length).all fun k => !decide (b[k]?.getD 0 < a[k]?.getD 0)) := by
  unfold bI at ha
  unfold m_impl_isBelow
  rw [Lp_all (fun k => !decide (b[k]?.getD 0 < a[k]?.getD 0)) false (n := a.length) (by omega) (fun k hk => ?_) (fun _ => ?_), Option.bind_some]
  · cases (List.range a.length).all _ <;> rfl
  · unfold m_impl_isBelow_L1
    rw [dlt hk, cond_true, atG 0 hk, Option.bind_some, atG 0 (hl ▸ hk), Option.bind_some]
    cases decide (b[k]?.getD 0 < a[k]?.getD 0) <;> rfl
  · unfold m_impl_isBelow_L1
    rw [dnl (Nat.le_refl _), cond_false]
def belowV (a b : Rp) : Bool := (List.range a.dims.length).all fun i => (List.range a.dims.length).all fun j => !decide (rR b i j < rR a i j)
def ranksV (a b : Rp) : Bool := (repV a && lineV a.q) && ((repV b && lineV b.q) && ((decide (a.p = b.p) && decide (a.q = b.q)) && (decide (a.dims = b.dims) && belowV a b)))
theorem tabR_at {r : Rp} {i : Nat} (h : i < r.dims.length) : atL (tabR r) (i : Int) = some (rowL r.dims.length (rR r i)) := by
  rw [atL_nat (by simp [tabR]; exact h)]; simp [tabR]
theorem tabR_len (r : Rp) : (tabR r).length = r.dims.length := by simp [tabR]

/-! ## the law -/
end Go.Proofs.Ytjfcjkeghigipaa

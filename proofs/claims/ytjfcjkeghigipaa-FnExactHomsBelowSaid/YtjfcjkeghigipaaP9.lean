/-
  Lists made of blocks; the equations of morphisms: plain maths.
-/
import Derived.Test.YtjfcjkeghigipaaP1
import Derived.Test.YtjfcjkeghigipaaP8
namespace Go.Proofs.Ytjfcjkeghigipaa
open Go.RowKit
set_option linter.unusedVariables false

def off (l : Nat → Nat) : Nat → Nat
  | 0 => 0
  | k + 1 => off l k + l k
theorem off_le {l : Nat → Nat} {i k : Nat} (h : i ≤ k) : off l i ≤ off l k := by
  induction k with
  | zero => have : i = 0 := by omega
            subst this; exact Nat.le_refl _
  | succ k ih =>
    rcases Nat.lt_or_ge k i with h' | h'
    · have : i = k + 1 := by omega
      subst this; exact Nat.le_refl _
    · have := ih h'
      show off l i ≤ off l k + l k
      omega
theorem off_lt {l : Nat → Nat} {i k y : Nat} (hi : i < k) (hy : y < l i) : off l i + y < off l k := by
  have := @off_le l (i + 1) k hi
  have e : off l (i + 1) = off l i + l i := rfl
  omega
theorem off_dec {l : Nat → Nat} : ∀ {k x : Nat}, x < off l k → ∃ i y, i < k ∧ y < l i ∧ x = off l i + y
  | 0, x, h => absurd h (Nat.not_lt_zero _)
  | k + 1, x, h => by
    rcases Nat.lt_or_ge x (off l k) with h' | h'
    · obtain ⟨i, y, h1, h2, h3⟩ := off_dec h'
      exact ⟨i, y, by omega, h2, h3⟩
    · have e : off l (k + 1) = off l k + l k := rfl
      exact ⟨k, x - off l k, by omega, by omega, by omega⟩
theorem off_inj {l : Nat → Nat} {i j y z : Nat} (hy : y < l i) (hz : z < l j) (h : off l i + y = off l j + z) : i = j ∧ y = z := by
  have e1 : off l (i + 1) = off l i + l i := rfl
  have e2 : off l (j + 1) = off l j + l j := rfl
  rcases Nat.lt_trichotomy i j with h1 | h1 | h1
  · have := @off_le l (i + 1) j h1; omega
  · subst h1; exact ⟨rfl, by omega⟩
  · have := @off_le l (j + 1) i h1; omega
def cat (l : Nat → Nat) (f : Nat → Nat → Int) : Nat → List Int
  | 0 => []
  | k + 1 => cat l f k ++ (List.range (l k)).map (f k)
theorem cat_len (l : Nat → Nat) (f : Nat → Nat → Int) : ∀ k, (cat l f k).length = off l k
  | 0 => rfl
  | k + 1 => by rw [cat, off, List.length_append, cat_len l f k]; simp
theorem cat_get {l : Nat → Nat} (f : Nat → Nat → Int) : ∀ {k i y : Nat}, i < k → y < l i → (cat l f k)[off l i + y]? = some (f i y)
  | 0, i, y, h, _ => absurd h (Nat.not_lt_zero _)
  | k + 1, i, y, h, hy => by
    rw [cat]
    by_cases e : i = k
    · subst e
      rw [List.getElem?_append_right (by rw [cat_len]; omega), cat_len, Nat.add_sub_cancel_left]
      simp [hy]
    · rw [List.getElem?_append_left (by rw [cat_len]; exact off_lt (by omega) hy)]
      exact cat_get f (by omega) hy
theorem cat_ext {l : Nat → Nat} {f : Nat → Nat → Int} {k : Nat} {v : List Int} (hv : v.length = off l k) (h : ∀ i y, i < k → y < l i → v[off l i + y]? = some (f i y)) : v = cat l f k := by
  refine List.ext_getElem (by rw [cat_len, hv]) fun x h1 h2 => ?_
  obtain ⟨i, y, hi, hy, rfl⟩ := off_dec (hv ▸ h1)
  have a := h i y hi hy
  have b := cat_get f hi hy
  rw [List.getElem?_eq_getElem h1] at a
  rw [List.getElem?_eq_getElem h2] at b
  exact (Option.some.inj a).trans (Option.some.inj b).symm
theorem cat_congr {l : Nat → Nat} {f g : Nat → Nat → Int} {k : Nat} (h : ∀ i y, i < k → y < l i → f i y = g i y) : cat l f k = cat l g k :=
  cat_ext (cat_len l f k) fun i y hi hy => by rw [cat_get f hi hy, h i y hi hy]
theorem cat_set {l : Nat → Nat} {f : Nat → Nat → Int} {k i y : Nat} (hi : i < k) (hy : y < l i) (v : Int) : (cat l f k).set (off l i + y) v = cat l (fun a b => if a = i ∧ b = y then v else f a b) k := by
  refine cat_ext (by rw [List.length_set, cat_len]) fun a b ha hb => ?_
  rw [List.getElem?_set]
  by_cases e : off l i + y = off l a + b
  · obtain ⟨rfl, rfl⟩ := off_inj hy hb e
    rw [if_pos rfl, if_pos (by rw [cat_len]; exact off_lt hi hy), if_pos ⟨rfl, rfl⟩]
  · rw [if_neg e, if_neg (by rintro ⟨rfl, rfl⟩; exact e rfl), cat_get f ha hb]
theorem cat_zero (l : Nat → Nat) (k : Nat) : List.replicate (off l k) (0 : Int) = cat l (fun _ _ => 0) k := cat_ext (by simp) fun i y hi hy => by simp [off_lt hi hy]
theorem cat_take {l : Nat → Nat} {f : Nat → Nat → Int} {k : Nat} : ∀ {n : Nat}, k < n → ((cat l f n).drop (off l k)).take (l k) = (List.range (l k)).map (f k) := by
  intro n hk
  refine List.ext_getElem ?_ fun x h1 h2 => ?_
  · have := @off_le l (k + 1) n hk
    have e : off l (k + 1) = off l k + l k := rfl
    simp [cat_len]; omega
  · have hx : x < l k := by simpa using h2
    rw [List.getElem_take, List.getElem_drop]
    have := cat_get f hk hx
    rw [List.getElem?_eq_getElem (by rw [cat_len]; exact off_lt hk hx)] at this
    simp [Option.some.inj this]
theorem tabM_range (r c : Nat) (F : Nat → Nat → Int) : tabM r c F = (List.range (r * c)).map fun y => F (y / c) (y % c) := rfl
theorem tab_of {r c : Nat} {g : Nat → Int} {F : Nat → Nat → Int} (h : ∀ y, y < r * c → g y = F (y / c) (y % c)) : (List.range (r * c)).map g = tabM r c F := List.map_congr_left fun y hy => h y (List.mem_range.1 hy)
theorem divmod {r c y : Nat} (h : y < r * c) : y / c < r ∧ y % c < c := by
  have hc : 0 < c := by rcases Nat.eq_zero_or_pos c with rfl | h'; simp at h; exact h'
  exact ⟨Nat.div_lt_of_lt_mul (by rw [Nat.mul_comm]; exact h), Nat.mod_lt _ hc⟩
theorem div_mul_mod {c y : Nat} : y / c * c + y % c = y := by rw [Nat.mul_comm]; exact Nat.div_add_mod y c

/-! ## columns without a leading one -/
theorem free_len {n : Nat} {L : List Nat} (hinc : ∀ i k, i < k → k < L.length → L[i]?.getD 0 < L[k]?.getD 0) (hlt : ∀ x ∈ L, x < n) : (freeL n L).length + L.length = n := by
  have key : ∀ t, ((List.range t).filter fun k => !L.contains k).length + ((List.range t).filter fun k => L.contains k).length = t := by
    intro t
    induction t with
    | zero => simp
    | succ t ih =>
      rw [List.range_succ, List.filter_append, List.filter_append, List.length_append, List.length_append]
      cases h : L.contains t <;> simp only [List.filter_cons, List.filter_nil, h, Bool.not_true, Bool.not_false, Bool.false_eq_true, if_true, if_false, List.length_cons, List.length_nil] <;> omega
  have e : (List.range n).filter (fun k => L.contains k) = L := by
    have hL : ∀ i, i < L.length → L[i]?.getD 0 < n := fun i hi => hlt _ (by rw [List.getElem?_eq_getElem hi]; exact List.getElem_mem hi)
    have hS : ((List.range n).filter fun k => L.contains k).Pairwise (· < ·) := List.Pairwise.filter _ List.pairwise_lt_range
    refine sorted_eq (fun i k hik hk => ?_) hinc (fun i hi => ?_) (fun j hj => ?_)
    · have := List.pairwise_iff_getElem.1 hS i k (by omega) hk hik
      rw [List.getElem?_eq_getElem (by omega), List.getElem?_eq_getElem hk]
      exact this
    · have hm := List.getElem_mem hi
      rw [List.mem_filter] at hm
      have h2 := List.contains_iff_mem.1 hm.2
      obtain ⟨j, hj, he⟩ := List.mem_iff_getElem.1 h2
      refine ⟨j, hj, ?_⟩
      rw [List.getElem?_eq_getElem hj, List.getElem?_eq_getElem hi]
      exact he
    · have hm : L[j] ∈ (List.range n).filter fun k => L.contains k := by
        rw [List.mem_filter]
        exact ⟨List.mem_range.2 (hlt _ (List.getElem_mem hj)), List.contains_iff_mem.2 (List.getElem_mem hj)⟩
      obtain ⟨i, hi, he⟩ := List.mem_iff_getElem.1 hm
      refine ⟨i, hi, ?_⟩
      rw [List.getElem?_eq_getElem hj, List.getElem?_eq_getElem hi]
      exact he
  have := key n
  rw [e] at this
  exact this
end Go.Proofs.Ytjfcjkeghigipaa

/-
  Spaces as plain lists: reduced bases, kernels, sums, intersections. Reducing what is reduced gives it back.
-/
import Derived.Test.YtpngpgbmkkjjgaaC13
namespace Go.Proofs.Ytpngpgbmkkjjgaa
open Go.RowKit

def rowsF (l : List (List Int)) : Nat → Nat → Int := fun i j => (l[i]?.getD [])[j]?.getD 0
def takeRows (F : Nat → Nat → Int) (r n : Nat) : List (List Int) := (List.range r).map fun i => (List.range n).map fun j => F i j
theorem takeRows_len (F : Nat → Nat → Int) (r n : Nat) : (takeRows F r n).length = r := by simp [takeRows]
theorem takeRows_get (F : Nat → Nat → Int) (r n i : Nat) (h : i < r) : (takeRows F r n)[i]?.getD [] = (List.range n).map fun j => F i j := by simp [takeRows, h]
theorem rowsF_take (F : Nat → Nat → Int) (r n i j : Nat) (hi : i < r) (hj : j < n) : rowsF (takeRows F r n) i j = F i j := by
  simp [rowsF, takeRows, hi, hj]
theorem takeRows_congr {F G : Nat → Nat → Int} {r n : Nat} (h : ∀ i j, i < r → j < n → F i j = G i j) : takeRows F r n = takeRows G r n := by
  unfold takeRows
  refine List.map_congr_left fun i hi => List.map_congr_left fun j hj => h i j (by simpa using hi) (by simpa using hj)
def spanL (p : Int) (n : Nat) (l : List (List Int)) : List (List Int) := takeRows (redUp p l.length (rowsF l) n).1 (redUp p l.length (rowsF l) n).2.length n

/-- A matrix reduced in the columns before t, with the leading ones in the columns L. -/
structure Red (m t : Nat) (F : Nat → Nat → Int) (L : List Nat) : Prop where
  lt : ∀ i, i < L.length → L[i]?.getD 0 < t
  inc : ∀ i k, i < k → k < L.length → L[i]?.getD 0 < L[k]?.getD 0
  len : L.length ≤ m
  one : ∀ i, i < L.length → F i (L[i]?.getD 0) = 1
  col : ∀ i k, i < L.length → k < m → k ≠ i → F k (L[i]?.getD 0) = 0
  low : ∀ i j, L.length ≤ i → i < m → j < t → F i j = 0
  left : ∀ i j, i < L.length → j < L[i]?.getD 0 → F i j = 0

theorem get_snoc {L : List Nat} {t i : Nat} : (L ++ [t])[i]?.getD 0 = if i < L.length then L[i]?.getD 0 else if i = L.length then t else 0 := by
  by_cases h : i < L.length
  · rw [if_pos h, List.getElem?_append_left h]
  · rw [if_neg h, List.getElem?_append_right (by omega)]
    by_cases h2 : i = L.length
    · subst h2; simp
    · rw [if_neg h2, List.getElem?_eq_none (by simp; omega)]; rfl

theorem pivot_zero {F : Nat → Nat → Int} {j : Nat} : ∀ {d k : Nat} i, k ≤ i → i < pivot F j d k → F i j = 0
  | 0, k, i, h1, h2 => by simp [pivot] at h2; omega
  | d + 1, k, i, h1, h2 => by
    unfold pivot at h2
    by_cases e : F k j = 0
    · rw [if_pos e] at h2
      by_cases e2 : i = k
      · subst e2; exact e
      · exact pivot_zero i (by omega) h2
    · rw [if_neg e] at h2; omega
theorem pivot_hit {F : Nat → Nat → Int} {j : Nat} : ∀ {d k : Nat}, pivot F j d k < k + d → F (pivot F j d k) j ≠ 0
  | 0, k, h => by simp [pivot] at h
  | d + 1, k, h => by
    unfold pivot at h ⊢
    by_cases e : F k j = 0
    · rw [if_pos e] at h ⊢
      exact pivot_hit (by omega)
    · rw [if_neg e]; exact e

theorem red_step {p : Int} (hp : isF p = true) {m n t : Nat} (ht : t < n) {st : (Nat → Nat → Int) × List Nat} (hin : InP p m n st.1) (h : Red m t st.1 st.2) : Red m (t + 1) (redStep p m st t).1 (redStep p m st t).2 := by
  obtain ⟨F, L⟩ := st
  simp only at hin h
  have hb := isF_bd hp
  unfold redStep
  simp only
  have hle := @pivot_le F t (m - L.length) L.length
  have hz := @pivot_zero F t (m - L.length) L.length
  have hh := @pivot_hit F t (m - L.length) L.length
  have hlen := h.len
  split
  · rename_i hm
    show Red m (t + 1) F L
    refine ⟨fun i hi => by have := h.lt i hi; omega, h.inc, h.len, h.one, h.col, fun i j h1 h2 h3 => ?_, h.left⟩
    by_cases e : j = t
    · subst e; exact hz i h1 (by omega)
    · exact h.low i j h1 h2 (by omega)
  · rename_i hm
    generalize pivot F t (m - L.length) L.length = r at *
    have hrm : r < m := by omega
    have hr0 := hh (by omega)
    have hrb := hin r t hrm ht
    have hiv := inv_ok hp (r := F r t) ⟨by omega, by omega⟩
    -- the new numbers
    have hG : ∀ c, redPart p F L.length r t L.length c = (F r c * invR p (F r t)) % p := by
      intro c; simp [redPart, elimF, scaleF, swapF]
    have hrow : ∀ c, F r c = 0 → redPart p F L.length r t L.length c = 0 := by
      intro c hc; rw [hG, hc]; simp
    have hE : ∀ i c, i ≠ L.length → redPart p F L.length r t i c = ((if i = r then F L.length c else F i c) - (if i = r then F L.length t else F i t) * redPart p F L.length r t L.length c) % p := by
      intro i c hi
      simp [redPart, elimF, scaleF, swapF, hi]
    have hT : redPart p F L.length r t L.length t = 1 := by rw [hG]; exact hiv.2.2
    have hlow : ∀ j, j < t → F r j = 0 := fun j hj => h.low r j hle.1 hrm hj
    show Red m (t + 1) (redPart p F L.length r t) (L ++ [t])
    refine ⟨fun i hi => ?_, fun i k hik hk => ?_, by simp; omega, fun i hi => ?_, fun i k hi hk hki => ?_, fun i j h1 h2 h3 => ?_, fun i j hi hj => ?_⟩
    · rw [get_snoc]
      simp at hi
      split
      · rename_i h1; have := h.lt i h1; omega
      · split <;> omega
    · simp at hk
      rw [get_snoc, get_snoc, if_pos (by omega)]
      split
      · rename_i h1; exact h.inc i k hik h1
      · rw [if_pos (by omega)]; exact h.lt i (by omega)
    · simp at hi
      rw [get_snoc]
      by_cases e : i < L.length
      · rw [if_pos e, hE i _ (by omega), if_neg (by omega), hrow _ (hlow _ (h.lt i e)), h.one i e]
        simp
        exact Int.emod_eq_of_lt (by omega) (by omega)
      · have e2 : i = L.length := by omega
        subst e2
        simp [hT]
    · simp at hi
      rw [get_snoc]
      by_cases e : i < L.length
      · rw [if_pos e]
        by_cases ek : k = L.length
        · subst ek; exact hrow _ (hlow _ (h.lt i e))
        · rw [hE k _ ek, hrow _ (hlow _ (h.lt i e))]
          by_cases er : k = r
          · rw [if_pos er, h.col i L.length e (by omega) (by omega)]; simp
          · rw [if_neg er, h.col i k e hk hki]; simp
      · have e2 : i = L.length := by omega
        subst e2
        rw [if_neg e, if_pos rfl, hE k _ hki, hT]
        simp
    · simp at h1
      rw [hE i _ (by omega)]
      by_cases e : j = t
      · subst e; rw [hT]; simp
      · rw [hrow _ (hlow j (by omega)), h.low L.length j (Nat.le_refl _) (by omega) (by omega), h.low i j (by omega) h2 (by omega)]
        simp
    · simp at hi
      rw [get_snoc] at hj
      by_cases e : i < L.length
      · rw [if_pos e] at hj
        have := h.lt i e
        rw [hE i _ (by omega), if_neg (by omega), hrow _ (hlow j (by omega)), h.left i j e hj]
        simp
      · have e2 : i = L.length := by omega
        subst e2
        rw [if_neg e, if_pos rfl] at hj
        exact hrow _ (hlow j hj)

theorem red_up {p : Int} (hp : isF p = true) {m n : Nat} {F : Nat → Nat → Int} (hin : InP p m n F) : ∀ t, t ≤ n → Red m t (redUp p m F t).1 (redUp p m F t).2
  | 0, _ => ⟨by simp [redUp], by simp [redUp], by simp [redUp], by simp [redUp], by simp [redUp], by simp, by simp [redUp]⟩
  | t + 1, ht => red_step hp (by omega) (redUp_in (by have := isF_bd hp; omega) hin t) (red_up hp hin t (by omega))

theorem invR_one {p : Int} (hp : isF p = true) : invR p 1 = 1 := by
  rcases isF_true hp with rfl | rfl | rfl <;> decide

/-- What is reduced is its own reduction. -/
theorem red_again {p : Int} (hp : isF p = true) {n : Nat} {R G : Nat → Nat → Int} {L : List Nat} {m : Nat} (h : Red m n R L) (hin : InP p m n R) (hG : ∀ i j, i < L.length → j < n → G i j = R i j) :
    ∀ t, t ≤ n → (∃ k, k ≤ L.length ∧ (redUp p L.length G t).2 = L.take k ∧ (∀ i, i < k → L[i]?.getD 0 < t) ∧ (∀ i, k ≤ i → i < L.length → t ≤ L[i]?.getD 0)) ∧ ∀ i j, i < L.length → j < n → (redUp p L.length G t).1 i j = R i j
  | 0, _ => ⟨⟨0, Nat.zero_le _, rfl, fun i hi => absurd hi (Nat.not_lt_zero _), fun i _ _ => Nat.zero_le _⟩, hG⟩
  | t + 1, ht => by
    obtain ⟨⟨k, hk, e1, h1, h2⟩, h3⟩ := red_again hp h hin hG t (by omega)
    have hlen := h.len
    have hkl : (L.take k).length = k := by simp; omega
    unfold redUp redStep
    rw [e1, hkl]
    obtain ⟨H, hH⟩ : ∃ H, H = (redUp p L.length G t).1 := ⟨_, rfl⟩
    rw [← hH] at h3 ⊢
    by_cases hlt : k < L.length ∧ L[k]?.getD 0 = t
    · obtain ⟨hk2, hkt⟩ := hlt
      have hone : H k t = 1 := by rw [h3 k t hk2 (by omega), ← hkt]; exact h.one k hk2
      have hpv : pivot H t (L.length - k) k = k := pivot_eq (Nat.le_refl _) (by omega) (fun i a b => absurd b (by omega)) (fun _ => by rw [hone]; decide)
      rw [hpv, if_neg (by omega)]
      refine ⟨⟨k + 1, by omega, ?_, fun i hi => ?_, fun i hi hi2 => ?_⟩, fun i j hi hj => ?_⟩
      · show L.take k ++ [t] = _
        rw [List.take_succ_eq_append_getElem hk2]
        have : L[k] = t := by simpa [hk2] using hkt
        rw [this]
      · by_cases e : i = k
        · subst e; omega
        · have := h1 i (by omega); omega
      · have := h.inc k i (by omega) hi2; omega
      · show redPart p H k k t i j = _
        have e2 : ∀ c, (H k c * invR p (H k t)) % p = H k c % p := by intro c; rw [hone, invR_one hp]; simp
        have hb := hin i j (by omega) hj
        have hb2 := hin k j (by omega) hj
        by_cases e : i = k
        · subst e
          have e3 : redPart p H i i t i j = (H i j * invR p (H i t)) % p := by simp [redPart, elimF, scaleF, swapF]
          rw [e3, e2, h3 i j hi hj]
          exact Int.emod_eq_of_lt hb.1 hb.2
        · have hz : H i t = 0 := by rw [h3 i t hi (by omega), ← hkt]; exact h.col k i hk2 (by omega) e
          have e3 : redPart p H k k t i j = (H i j - H i t * ((H k j * invR p (H k t)) % p)) % p := by simp [redPart, elimF, scaleF, swapF, e]
          rw [e3, hz, h3 i j hi hj]
          simp
          exact Int.emod_eq_of_lt hb.1 hb.2
    · have hz : ∀ i, k ≤ i → i < L.length → H i t = 0 := by
        intro i hi hi2
        rw [h3 i t hi2 (by omega)]
        refine h.left i t hi2 ?_
        have a := h2 i hi hi2
        by_cases e : i = k
        · subst e
          have : L[i]?.getD 0 ≠ t := fun e => hlt ⟨hi2, e⟩
          omega
        · have b := h2 k (Nat.le_refl _) (by omega)
          have c := h.inc k i (by omega) hi2
          omega
      have hpv : pivot H t (L.length - k) k = L.length := pivot_eq hk (by omega) (fun i a b => hz i a b) (fun h => absurd h (by omega))
      rw [hpv, if_pos rfl]
      refine ⟨⟨k, hk, e1, fun i hi => by have := h1 i hi; omega, fun i hi hi2 => ?_⟩, by rw [← hH]; exact h3⟩
      have a := h2 i hi hi2
      by_cases e : i = k
      · subst e
        have : L[i]?.getD 0 ≠ t := fun e => hlt ⟨hi2, e⟩
        omega
      · have b := h2 k (Nat.le_refl _) (by omega)
        have c := h.inc k i (by omega) hi2
        omega

/-! ### spaces -/

/-- Vectors of one length whose numbers are rests. -/
def VecsP (p : Int) (n : Nat) (l : List (List Int)) : Prop := ∀ v ∈ l, v.length = n ∧ ∀ x ∈ v, 0 ≤ x ∧ x < p
theorem VecsP.inP {p : Int} {n : Nat} {l : List (List Int)} (h : VecsP p n l) : InP p l.length n (rowsF l) := by
  intro i j hi hj
  have h1 := h l[i] (List.getElem_mem hi)
  have h2 := h1.2 ((l[i])[j]'(by omega)) (List.getElem_mem _)
  simpa [rowsF, hi, show j < (l[i]).length by omega] using h2
theorem vecs_span {p : Int} (hp : isF p = true) {n : Nat} {l : List (List Int)} (h : InP p l.length n (rowsF l)) : VecsP p n (spanL p n l) := by
  intro v hv
  unfold spanL takeRows at hv
  simp only [List.mem_map, List.mem_range] at hv
  obtain ⟨i, hi, rfl⟩ := hv
  refine ⟨by simp, fun x hx => ?_⟩
  simp only [List.mem_map, List.mem_range] at hx
  obtain ⟨j, hj, rfl⟩ := hx
  have := @redUp_len p l.length (rowsF l) n
  exact redUp_in (by have := isF_bd hp; omega) h n i j (by omega) hj
theorem span_len {p : Int} {n : Nat} {l : List (List Int)} : (spanL p n l).length ≤ n ∧ (spanL p n l).length ≤ l.length := by
  unfold spanL
  rw [takeRows_len]
  exact ⟨redUp_len' n, redUp_len n⟩
theorem span_span {p : Int} (hp : isF p = true) {n : Nat} {l : List (List Int)} (h : InP p l.length n (rowsF l)) : spanL p n (spanL p n l) = spanL p n l := by
  have h1 := red_up hp h n (Nat.le_refl _)
  have h2 := redUp_in (by have := isF_bd hp; omega) h n
  have hl : (spanL p n l).length = (redUp p l.length (rowsF l) n).2.length := by unfold spanL; rw [takeRows_len]
  obtain ⟨⟨k, hk, e1, h3, h4⟩, h5⟩ := red_again hp (G := rowsF (spanL p n l)) h1 h2 (fun i j hi hj => by unfold spanL; exact rowsF_take _ _ _ i j hi hj) n (Nat.le_refl _)
  have hk2 : k = (redUp p l.length (rowsF l) n).2.length := by
    rcases Nat.lt_or_ge k (redUp p l.length (rowsF l) n).2.length with h6 | h6
    · have a := h4 k (Nat.le_refl _) h6
      have b := h1.lt k h6
      omega
    · omega
  have e2 : (redUp p (spanL p n l).length (rowsF (spanL p n l)) n).2.length = (redUp p l.length (rowsF l) n).2.length := by
    rw [hl, e1, hk2, List.take_length]
  show takeRows (redUp p (spanL p n l).length (rowsF (spanL p n l)) n).1 (redUp p (spanL p n l).length (rowsF (spanL p n l)) n).2.length n = takeRows (redUp p l.length (rowsF l) n).1 (redUp p l.length (rowsF l) n).2.length n
  rw [e2]
  refine takeRows_congr fun i j hi hj => ?_
  rw [hl]
  exact h5 i j hi hj

/-- A vector of the kernel: 1 at a column k without a leading one, and what belongs to it at the leading ones; the first i of these are set. -/
def kerV (p : Int) (n : Nat) (F : Nat → Nat → Int) (L : List Nat) (k : Nat) : Nat → List Int
  | 0 => (List.replicate n 0).set k 1
  | i + 1 => (kerV p n F L k i).set (L[i]?.getD 0) ((-F i k) % p)
theorem kerV_len (p : Int) (n : Nat) (F : Nat → Nat → Int) (L : List Nat) (k : Nat) : ∀ i, (kerV p n F L k i).length = n
  | 0 => by simp [kerV]
  | i + 1 => by simp [kerV, kerV_len p n F L k i]
theorem kerV_in {p : Int} (hp : isF p = true) (n : Nat) (F : Nat → Nat → Int) (L : List Nat) (k : Nat) : ∀ i, ∀ x ∈ kerV p n F L k i, 0 ≤ x ∧ x < p
  | 0, x, hx => by
    have := isF_bd hp
    rcases List.mem_or_eq_of_mem_set hx with h | h
    · rw [List.eq_of_mem_replicate h]; omega
    · omega
  | i + 1, x, hx => by
    have := isF_bd hp
    rcases List.mem_or_eq_of_mem_set hx with h | h
    · exact kerV_in hp n F L k i x h
    · rw [h]; exact ⟨Int.emod_nonneg _ (by omega), Int.emod_lt_of_pos _ (by omega)⟩
def freeL (n : Nat) (L : List Nat) : List Nat := (List.range n).filter fun k => !L.contains k
def kerL (p : Int) (n : Nat) (F : Nat → Nat → Int) (L : List Nat) : List (List Int) := (freeL n L).map fun k => kerV p n F L k L.length

/-- The numbers of some vectors as columns. -/
def colsF (l : List (List Int)) : Nat → Nat → Int := fun i j => rowsF l j i
/-- The sum of the first t vectors, each times its number. -/
def combV (p : Int) (n : Nat) (a : List (List Int)) (k : List Int) : Nat → List Int
  | 0 => List.replicate n 0
  | t + 1 => (List.range n).map fun x => ((combV p n a k t)[x]?.getD 0 + k[t]?.getD 0 * rowsF a t x) % p
theorem combV_len (p : Int) (n : Nat) (a : List (List Int)) (k : List Int) : ∀ t, (combV p n a k t).length = n
  | 0 => by simp [combV]
  | t + 1 => by simp [combV]
theorem combV_in {p : Int} (hp : isF p = true) (n : Nat) (a : List (List Int)) (k : List Int) : ∀ t, ∀ x ∈ combV p n a k t, 0 ≤ x ∧ x < p
  | 0, x, hx => by
    have := isF_bd hp
    rw [List.eq_of_mem_replicate hx]; omega
  | t + 1, x, hx => by
    have := isF_bd hp
    simp only [combV, List.mem_map] at hx
    obtain ⟨j, _, rfl⟩ := hx
    exact ⟨Int.emod_nonneg _ (by omega), Int.emod_lt_of_pos _ (by omega)⟩

def sumL (p : Int) (n : Nat) (a b : List (List Int)) : List (List Int) := spanL p n (a ++ b)
/-- The combinations of a that combinations of b cancel. -/
def meetV (p : Int) (n : Nat) (a b : List (List Int)) : List (List Int) :=
  (kerL p (a ++ b).length (redUp p n (colsF (a ++ b)) (a ++ b).length).1 (redUp p n (colsF (a ++ b)) (a ++ b).length).2).map fun k => combV p n a k a.length
def meetL (p : Int) (n : Nat) (a b : List (List Int)) : List (List Int) := spanL p n (meetV p n a b)

theorem meetV_in {p : Int} (hp : isF p = true) (n : Nat) (a b : List (List Int)) : VecsP p n (meetV p n a b) := by
  intro v hv
  unfold meetV at hv
  simp only [List.mem_map] at hv
  obtain ⟨k, _, rfl⟩ := hv
  exact ⟨combV_len _ _ _ _ _, combV_in hp _ _ _ _⟩
theorem freeL_len (n : Nat) (L : List Nat) : (freeL n L).length ≤ n := by
  unfold freeL
  have := List.length_filter_le (fun k => !L.contains k) (List.range n)
  simpa using this
theorem meetV_len (p : Int) (n : Nat) (a b : List (List Int)) : (meetV p n a b).length ≤ a.length + b.length := by
  unfold meetV kerL
  rw [List.length_map, List.length_map]
  have := freeL_len (a ++ b).length (redUp p n (colsF (a ++ b)) (a ++ b).length).2
  simpa using this

def fineV (p size : Int) (l : List (List Int)) : Bool := isF p && inR size 0 8 && decide (l.length ≤ 16) && l.all fun v => decide ((v.length : Int) = size) && vecV p v
def spaceV (p size : Int) (l : List (List Int)) : Bool := fineV p size l && decide (spanL p size.toNat l = l)

theorem fineV_parts {p size : Int} {l : List (List Int)} (h : fineV p size l = true) : isF p = true ∧ ∃ n : Nat, size = n ∧ n ≤ 8 ∧ l.length ≤ 16 ∧ VecsP p n l := by
  simp only [fineV, Bool.and_eq_true, decide_eq_true_eq, List.all_eq_true] at h
  obtain ⟨⟨⟨h1, h2⟩, h3⟩, h4⟩ := h
  have h5 := inR_true h2
  refine ⟨h1, size.toNat, by omega, by omega, h3, fun v hv => ?_⟩
  have h6 := h4 v hv
  have h7 := vecV_parts h6.2
  refine ⟨by have := h6.1; omega, fun x hx => ?_⟩
  have h8 := h7.2.2
  rw [List.all_eq_true] at h8
  have := inR_true (h8 x hx)
  omega
theorem fineV_mk {p : Int} {n : Nat} {l : List (List Int)} (hp : isF p = true) (hn : n ≤ 8) (hl : l.length ≤ 16) (h : VecsP p n l) : fineV p n l = true := by
  simp only [fineV, Bool.and_eq_true, decide_eq_true_eq, List.all_eq_true]
  refine ⟨⟨⟨hp, inR_mk (by omega) (by omega)⟩, hl⟩, fun v hv => ⟨by rw [(h v hv).1], ?_⟩⟩
  simp only [vecV, Bool.and_eq_true, decide_eq_true_eq, List.all_eq_true]
  exact ⟨⟨hp, by rw [(h v hv).1]; omega⟩, fun x hx => inR_mk (by have := (h v hv).2 x hx; omega) (by have := (h v hv).2 x hx; omega)⟩
theorem spaceV_parts {p size : Int} {l : List (List Int)} (h : spaceV p size l = true) : isF p = true ∧ ∃ n : Nat, size = n ∧ n ≤ 8 ∧ l.length ≤ n ∧ VecsP p n l ∧ spanL p n l = l := by
  simp only [spaceV, Bool.and_eq_true, decide_eq_true_eq] at h
  obtain ⟨hp, n, rfl, hn, _, hv⟩ := fineV_parts h.1
  have h2 : spanL p n l = l := by simpa using h.2
  exact ⟨hp, n, rfl, hn, by have := (@span_len p n l).1; rw [h2] at this; exact this, hv, h2⟩
theorem space_span {p : Int} {n : Nat} {l : List (List Int)} (hp : isF p = true) (hn : n ≤ 8) (h : VecsP p n l) : spaceV p n (spanL p n l) = true := by
  simp only [spaceV, Bool.and_eq_true, decide_eq_true_eq]
  exact ⟨fineV_mk hp hn (by have := (@span_len p n l).1; omega) (vecs_span hp h.inP), by simpa using span_span hp h.inP⟩
theorem VecsP.append {p : Int} {n : Nat} {a b : List (List Int)} (ha : VecsP p n a) (hb : VecsP p n b) : VecsP p n (a ++ b) := by
  intro v hv
  rcases List.mem_append.1 hv with h | h
  · exact ha v h
  · exact hb v h
theorem space_sum {p : Int} {n : Nat} {a b : List (List Int)} (hp : isF p = true) (hn : n ≤ 8) (ha : VecsP p n a) (hb : VecsP p n b) : spaceV p n (sumL p n a b) = true := space_span hp hn (ha.append hb)
theorem space_meet {p : Int} {n : Nat} {a b : List (List Int)} (hp : isF p = true) (hn : n ≤ 8) : spaceV p n (meetL p n a b) = true := space_span hp hn (meetV_in hp n a b)
end Go.Proofs.Ytpngpgbmkkjjgaa

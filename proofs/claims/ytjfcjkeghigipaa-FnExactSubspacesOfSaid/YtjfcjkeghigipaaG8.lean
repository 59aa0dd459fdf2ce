/-
  Several texts of the claim in one: each begins with its own remark.
-/
import Derived.Test.YtjfcjkeghigipaaProg
import Derived.Test.YtjfcjkeghigipaaG7
section
set_option linter.unusedVariables false
set_option linter.unusedSimpArgs false
/-
  Elimination: both sides' models answer redUp.
-/
namespace Go.Proofs.Ytjfcjkeghigipaa
open Go.RowKit
set_option linter.unusedVariables false

def castL (L : List Nat) : List Int := L.map fun t : Nat => (t : Int)
theorem castL_len (L : List Nat) : (castL L).length = L.length := by simp [castL]
theorem redUp_full {p : Int} {m : Nat} {F : Nat → Nat → Int} {j : Nat} (h : (redUp p m F j).2.length = m) : ∀ d, redUp p m F (j + d) = redUp p m F j
  | 0 => rfl
  | d + 1 => by
    show redStep p m (redUp p m F (j + d)) (j + d) = _
    rw [redUp_full h d]
    unfold redStep
    rw [if_pos]
    rw [h, Nat.sub_self]
    rfl
def swapTo (F : Nat → Nat → Int) (a b x : Nat) : Nat → Nat → Int := fun i y => if y < x then swapF F a b i y else F i y
def scaleTo (p : Int) (F : Nat → Nat → Int) (a : Nat) (s : Int) (x : Nat) : Nat → Nat → Int := fun i y => if y < x then scaleF p F a s i y else F i y
def elimTo (p : Int) (F : Nat → Nat → Int) (a j x : Nat) : Nat → Nat → Int := fun i c => if i < x then elimF p F a j i c else F i c
theorem swap_step {r c a b x : Nat} (F : Nat → Nat → Int) : tabM r c (setF (setF (swapTo F a b x) a x (F b x)) b x (F a x)) = tabM r c (swapTo F a b (x + 1)) := by
  refine tabM_congr fun i y hi hy => ?_
  simp only [setF, swapTo, swapF]
  by_cases e : y = x
  · subst e
    simp only [and_true, Nat.lt_irrefl, if_false, Nat.lt_succ_self, if_true]
    by_cases e1 : i = b
    · rw [if_pos e1]
      by_cases e2 : i = a
      · rw [if_pos e2]
        subst e1; rw [e2]
      · rw [if_neg e2, if_pos e1]
    · rw [if_neg e1]
      by_cases e2 : i = a
      · rw [if_pos e2, if_pos e2]
      · rw [if_neg e2, if_neg e2, if_neg e1]
  · rw [if_neg (by omega), if_neg (by omega)]
    by_cases e1 : y < x
    · rw [if_pos e1, if_pos (show y < x + 1 by omega)]
    · rw [if_neg e1, if_neg (show ¬ y < x + 1 by omega)]
theorem swapTo_at {F : Nat → Nat → Int} {a b x i : Nat} : swapTo F a b x i x = F i x := by simp [swapTo]
theorem scaleTo_at {p : Int} {F : Nat → Nat → Int} {a x i : Nat} {s : Int} : scaleTo p F a s x i x = F i x := by simp [scaleTo]
theorem scale_step {p : Int} {r c a x : Nat} {s : Int} (F : Nat → Nat → Int) : tabM r c (setF (scaleTo p F a s x) a x ((F a x * s) % p)) = tabM r c (scaleTo p F a s (x + 1)) := by
  refine tabM_congr fun i y hi hy => ?_
  simp only [setF, scaleTo, scaleF]
  by_cases e : y = x
  · subst e
    simp only [and_true, Nat.lt_irrefl, if_false, Nat.lt_succ_self, if_true]
  · rw [if_neg (by omega)]
    by_cases e1 : y < x
    · rw [if_pos e1, if_pos (show y < x + 1 by omega)]
    · rw [if_neg e1, if_neg (show ¬ y < x + 1 by omega)]
theorem invR_bd {p r : Int} (hp : isF p = true) (hr : 0 ≤ r ∧ r < p) : 0 ≤ invR p r ∧ invR p r < p := powR_bd hp hr _
theorem swapF_in {p : Int} {m n k r : Nat} {F : Nat → Nat → Int} (h : InP p m n F) (hk : k < m) (hr : r < m) : InP p m n (swapF F k r) := by
  intro i c hi hc
  unfold swapF
  split
  · exact h r c hr hc
  · split
    · exact h k c hk hc
    · exact h i c hi hc
theorem scaleF_in {p : Int} (hp : isF p = true) {m n k : Nat} {s : Int} {F : Nat → Nat → Int} (h : InP p m n F) : InP p m n (scaleF p F k s) := by
  intro i c hi hc
  unfold scaleF
  split
  · exact emod_bd hp
  · exact h i c hi hc
theorem elimTo_in {p : Int} (hp : isF p = true) {m n k j x : Nat} {F : Nat → Nat → Int} (h : InP p m n F) : InP p m n (elimTo p F k j x) := by
  intro i c hi hc
  unfold elimTo elimF
  split
  · split
    · rename_i h1 h2; subst h2; exact h _ c hi hc
    · exact emod_bd hp
  · exact h i c hi hc
theorem elim_row {p : Int} (hp : isF p = true) {m n k j x : Nat} {F : Nat → Nat → Int} (hx : x ≠ k) : tabM m n (addF p (elimTo p F k j x) x (p - F x j) (elimTo p F k j x k)) = tabM m n (elimTo p F k j (x + 1)) := by
  refine tabM_congr fun i c hi hc => ?_
  simp only [addF, elimTo, elimF]
  by_cases e : i = x
  · subst e
    rw [if_pos rfl, if_neg (Nat.lt_irrefl _), if_pos (Nat.lt_succ_self _), if_neg hx]
    simp only [if_true, ite_self]
    rw [show F i c + (p - F i j) * F k c = (F i c - F i j * F k c) + p * F k c by rw [Int.sub_mul]; omega, Int.add_mul_emod_self_left]
  · rw [if_neg e]
    by_cases e1 : i < x
    · rw [if_pos e1, if_pos (show i < x + 1 by omega)]
    · rw [if_neg e1, if_neg (show ¬ i < x + 1 by omega)]
theorem elim_skip {p : Int} {m n k j : Nat} {F : Nat → Nat → Int} : tabM m n (elimTo p F k j k) = tabM m n (elimTo p F k j (k + 1)) := by
  refine tabM_congr fun i c hi hc => ?_
  simp only [elimTo, elimF]
  by_cases e : i < k
  · rw [if_pos e, if_pos (show i < k + 1 by omega)]
  · rw [if_neg e]
    by_cases e1 : i = k
    · subst e1; simp
    · rw [if_neg (show ¬ i < k + 1 by omega)]
theorem redPart_eq {p : Int} {F : Nat → Nat → Int} {k r j : Nat} : redPart p F k r j = elimF p (scaleF p (swapF F k r) k (invR p (F r j))) k j := rfl

/-- What reduces: sides, and a table of rests. -/
structure Tb (p : Int) (m n : Nat) (F : Nat → Nat → Int) : Prop where
  hp : isF p = true
  hN : m * n ≤ 1048576
  hm : m ≤ 1048576
  hn : n ≤ 1048576
  hi : InP p m n F

def rI (n : Nat) (p : Int) (m : Nat) (F : Nat → Nat → Int) (j : Nat) : Int × List Int × List Int := (j, tabM m n (redUp p m F j).1, castL (redUp p m F j).2)
theorem n_pivI {p : Int} {m n : Nat} {F : Nat → Nat → Int} (T : Tb p m n F) {j : Nat} (hj : j < n) (L : List Nat) (hL : L.length ≤ m) (l : List Int) :
    Lp (m_impl_reduce_L2 ⟨m, n, l⟩ ((j : Int), tabM m n F, castL L)) (((castL L).length : Nat) : Int) = some ((pivot F j (m - L.length) L.length : Nat) : Int) := by
  obtain ⟨hp, hN, hm, hn, hi⟩ := T
  have hle := @pivot_le F j (m - L.length) L.length
  have hz := @pivot_zero F j (m - L.length) L.length
  have hh := @pivot_hit F j (m - L.length) L.length
  generalize pivot F j (m - L.length) L.length = r at *
  rw [castL_len]
  refine Lp_go (fun t => ((L.length + t : Nat) : Int)) (r - L.length) (by simp) (fun t ht => ?_) (fun _ => ?_)
  · unfold m_impl_reduce_L2
    simp only
    rw [dlt (by omega), cond_true, n_row hN hm (by omega), Option.bind_some, row_lo hN (by omega), row_hi hN hm (by omega), Int.toNat_natCast, Int.toNat_natCast, Nat.add_sub_cancel_left, dlt hj, gd, cond_true, Nat.zero_add, Int.toNat_natCast, tabM_get _ (by omega) hj, Option.bind_some,
      hz _ (by omega) (by omega), decide_eq_true rfl, cond_true, wr_suc (n := m) (by omega) (by omega), Nat.add_assoc]
  · rw [show L.length + (r - L.length) = r by omega]
    unfold m_impl_reduce_L2
    simp only
    rcases Nat.lt_or_ge r m with h | h
    · rw [dlt h, cond_true, n_row hN hm h, Option.bind_some, row_lo hN h, row_hi hN hm h, Int.toNat_natCast, Int.toNat_natCast, Nat.add_sub_cancel_left, dlt hj, gd, cond_true, Nat.zero_add, Int.toNat_natCast, tabM_get _ h hj, Option.bind_some,
        decide_eq_false (hh (by omega)), cond_false]
    · rw [dnl h, cond_false]
theorem n_stepI {p : Int} {m n : Nat} {F : Nat → Nat → Int} (T : Tb p m n F) {j : Nat} (hj : j < n) (L : List Nat) (hL : L.length ≤ m) (l : List Int) :
    m_impl_reduce_L1 p ⟨m, n, l⟩ ((j : Int), tabM m n F, castL L) = some (.inl (((j + 1 : Nat) : Int), tabM m n (redStep p m (F, L) j).1, castL (redStep p m (F, L) j).2)) := by
  have hpv := n_pivI T hj L hL l
  obtain ⟨hp, hN, hm, hn, hi⟩ := T
  have hb := isF_bd hp
  have hle := @pivot_le F j (m - L.length) L.length
  unfold m_impl_reduce_L1 redStep
  simp only
  rw [dlt hj, cond_true, hpv, Option.bind_some, wr_suc hj (by omega)]
  clear hpv
  generalize pivot F j (m - L.length) L.length = r at *
  by_cases hr : r = m
  · rw [decide_eq_true (by omega), cond_true, if_pos hr]
  · rw [decide_eq_false (by omega), cond_false, if_neg hr]
    have hk : L.length < m := by omega
    have hrm : r < m := by omega
    simp only [castL_len]
    rw [n_row hN hm hk, Option.bind_some, row_lo hN hk, row_hi hN hm hk]
    simp only [Int.toNat_natCast, Nat.add_sub_cancel_left, Nat.zero_add]
    rw [Lp_go (r := tabM m n (swapF F L.length r)) (fun x => (tabM m n (swapTo F L.length r x), (x : Int))) n ?_ (fun x hx => ?_) (fun _ => ?_), Option.bind_some, dlt hj, gd, cond_true, tabM_get _ hk hj, Option.bind_some]
    · have e1 : swapF F L.length r L.length j = F r j := by simp [swapF]
      have hrj := hi r j hrm hj
      rw [e1, n_implInv hp, Option.bind_some, Int.emod_eq_of_lt hrj.1 hrj.2]
      have hs := invR_bd hp hrj
      rw [redPart_eq]
      generalize invR p (F r j) = s at *
      have h1 := swapF_in hi hk hrm
      generalize swapF F L.length r = F1 at *
      rw [Lp_go (r := tabM m n (scaleF p F1 L.length s)) (fun x => (tabM m n (scaleTo p F1 L.length s x), (x : Int))) n ?_ (fun x hx => ?_) (fun _ => ?_), Option.bind_some]
      · have h2 := scaleF_in hp (k := L.length) (s := s) h1
        generalize scaleF p F1 L.length s = F2 at *
        rw [Lp_go (r := tabM m n (elimF p F2 L.length j)) (fun x => (tabM m n (elimTo p F2 L.length j x), (x : Int))) m ?_ (fun x hx => ?_) (fun _ => ?_), Option.bind_some]
        · rw [decide_eq_true (by simp; omega), cond_true]
          simp [castL]
        · congr 1
        · unfold m_impl_reduce_L5
          simp only [castL_len]
          rw [dlt hx, cond_true]
          by_cases hxk : x = L.length
          · rw [decide_eq_true (by omega), Bool.not_true, cond_false, wr_suc hx (by omega), hxk, elim_skip]
          · rw [decide_eq_false (by omega), Bool.not_false, cond_true, n_row hN hm hx, Option.bind_some, Option.bind_some, row_lo hN hx, row_hi hN hm hx, row_lo hN hk, row_hi hN hm hk]
            simp only [Int.toNat_natCast, Nat.add_sub_cancel_left, Nat.zero_add]
            rw [dlt hj, gd, cond_true, tabM_get _ hx hj, Option.bind_some]
            have e2 : elimTo p F2 L.length j x x j = F2 x j := by simp [elimTo]
            have h3 := h2 x j hx hj
            have h4 := elimTo_in hp (k := L.length) (j := j) (x := x) h2
            rw [e2, wr_sm (by omega), n_addMul2 hp hn hx hk hxk (by omega) (fun b hb => h4 _ b hx hb) (fun b hb => h4 _ b hk hb), Option.bind_some, tabM_len, tabM_len, decide_eq_true rfl, cond_true, wr_suc hx (by omega), elim_row hp hxk]
        · unfold m_impl_reduce_L5
          simp only
          rw [dnl (Nat.le_refl _), cond_false]
          congr 2
          exact tabM_congr fun a b ha hb => by simp only [elimTo]; rw [if_pos ha]
      · congr 1
      · unfold m_impl_reduce_L4
        simp only [castL_len]
        rw [row_lo hN hk, row_hi hN hm hk]
        simp only [Int.toNat_natCast, Nat.add_sub_cancel_left, Nat.zero_add]
        have g1 := h1 _ x hk hx
        have g2 := mulb (a := F1 L.length x) (b := s) (by omega) (by omega)
        rw [dlt hx, cond_true, gd, cond_true, tabM_get _ hk hx, Option.bind_some, p_ne hp, cond_true, cond_true, Option.bind_some, scaleTo_at, wr_sm (by omega), Int.tmod_eq_emod_of_nonneg g2.1, tabM_set _ _ hk hx, wr_suc hx (by omega), scale_step]
      · unfold m_impl_reduce_L4
        simp only [castL_len]
        rw [row_lo hN hk, row_hi hN hm hk]
        simp only [Int.toNat_natCast, Nat.add_sub_cancel_left, Nat.zero_add]
        rw [dnl (Nat.le_refl _), cond_false]
        congr 2
        exact tabM_congr fun a b ha hb => by simp only [scaleTo]; rw [if_pos hb]
    · congr 1
    · unfold m_impl_reduce_L3
      simp only [castL_len]
      rw [dlt hx, cond_true, n_row hN hm hrm, Option.bind_some, Option.bind_some, row_lo hN hk, row_hi hN hm hk, row_lo hN hrm, row_hi hN hm hrm]
      simp only [Int.toNat_natCast, Nat.add_sub_cancel_left, Nat.zero_add]
      rw [dlt hx, gd, cond_true, tabM_get _ hrm hx, Option.bind_some, cond_true, tabM_get _ hk hx, Option.bind_some, cond_true, Option.bind_some, cond_true, tabM_set _ _ hk hx, tabM_get _ hrm hx, Option.bind_some, tabM_set _ _ hrm hx, swapTo_at, swapTo_at, wr_suc hx (by omega), swap_step]
    · unfold m_impl_reduce_L3
      simp only
      rw [dnl (Nat.le_refl _), cond_false]
      congr 2
      exact tabM_congr fun a b ha hb => by simp only [swapTo]; rw [if_pos hb]
theorem n_implReduce {p : Int} {m n : Nat} {F : Nat → Nat → Int} (T : Tb p m n F) : m_impl_reduce p ⟨m, n, tabM m n F⟩ = some (⟨m, n, tabM m n (redUp p m F n).1⟩, castL (redUp p m F n).2) := by
  have hN := T.hN
  have hn := T.hn
  unfold m_impl_reduce m_impl_Matrix_clone m_Clone
  simp only
  rw [tabM_len, decide_eq_true hN, cond_true, Option.bind_some, Option.bind_some]
  simp only
  rw [Lp_go (r := (tabM m n (redUp p m F n).1, castL (redUp p m F n).2)) (fun j => ((j : Int), tabM m n (redUp p m F j).1, castL (redUp p m F j).2)) n (by simp [redUp, castL]) (fun j hj => ?_) (fun _ => ?_), Option.bind_some]
  · show _ = some (Sum.inl (((j + 1 : Nat) : Int), tabM m n (redStep p m (redUp p m F j) j).1, castL (redStep p m (redUp p m F j) j).2) : (Int × List Int × List Int) ⊕ (List Int × List Int))
    exact n_stepI ⟨T.hp, T.hN, T.hm, T.hn, redUp_in (by have := isF_bd T.hp; omega) T.hi j⟩ hj _ (redUp_len j) _
  · unfold m_impl_reduce_L1
    simp only
    rw [dnl (Nat.le_refl _), cond_false]

theorem n_pivS {p : Int} {m n : Nat} {F : Nat → Nat → Int} (T : Tb p m n F) {j : Nat} (hj : j < n) (L : List Nat) (hL : L.length < m) (l : List Int) :
    Lp (m_spec_l4Reduce_L2 ⟨m, n, l⟩ ((j : Int), tabM m n F, castL L, (L.length : Int))) (-1, wr ((m : Int) - 1)) = some (if pivot F j (m - L.length) L.length = m then -1 else ((pivot F j (m - L.length) L.length : Nat) : Int)) := by
  obtain ⟨hp, hN, hm, hn, hi⟩ := T
  refine Lp_go (fun t => (if pivot F j t (m - t) = m then -1 else ((pivot F j t (m - t) : Nat) : Int), ((m - t : Nat) : Int) - 1)) (m - L.length) ?_ (fun t ht => ?_) (fun _ => ?_)
  · simp only [pivot, Nat.sub_zero, if_true]
    rw [wr_sm (by omega)]
  · unfold m_spec_l4Reduce_L2
    simp only
    have e : ((m - t : Nat) : Int) - 1 = ((m - (t + 1) : Nat) : Int) := by omega
    have hi2 : m - (t + 1) < m := by omega
    rw [e, decide_eq_true (by omega), cond_true, atT hN hi2 hj, Option.bind_some, wr_sm (x := ((m - (t + 1) : Nat) : Int) - 1) (by omega)]
    have ep : pivot F j (t + 1) (m - (t + 1)) = if F (m - (t + 1)) j = 0 then pivot F j t (m - t) else m - (t + 1) := by
      rw [pivot, show m - (t + 1) + 1 = m - t by omega]
    rw [ep]
    by_cases h : F (m - (t + 1)) j = 0
    · rw [decide_eq_true h, Bool.not_true, cond_false, if_pos h]
    · rw [decide_eq_false h, Bool.not_false, cond_true, if_neg h, if_neg (by omega)]
  · rw [show m - (m - L.length) = L.length by omega]
    unfold m_spec_l4Reduce_L2
    simp only
    rw [decide_eq_false (by omega), cond_false]
theorem n_stepS {p : Int} {m n : Nat} {F : Nat → Nat → Int} (T : Tb p m n F) {j : Nat} (hj : j < n) (L : List Nat) (hL : L.length < m) (l : List Int) :
    m_spec_l4Reduce_L1 p ⟨m, n, l⟩ ((j : Int), tabM m n F, castL L, (L.length : Int)) = some (.inl (((j + 1 : Nat) : Int), tabM m n (redStep p m (F, L) j).1, castL (redStep p m (F, L) j).2, ((redStep p m (F, L) j).2.length : Int))) := by
  have hpv := n_pivS T hj L hL l
  obtain ⟨hp, hN, hm, hn, hi⟩ := T
  have hb := isF_bd hp
  have hle := @pivot_le F j (m - L.length) L.length
  unfold m_spec_l4Reduce_L1 redStep
  simp only
  rw [dlt hj, cond_true, dlt hL, cond_true, hpv, Option.bind_some, wr_suc hj (by omega)]
  clear hpv
  generalize pivot F j (m - L.length) L.length = r at *
  have hk : L.length < m := hL
  by_cases hr : r = m
  · rw [if_pos hr, if_pos hr, decide_eq_true (by omega), cond_true]
  · rw [if_neg hr, if_neg hr, decide_eq_false (by omega), cond_false]
    have hrm : r < m := by omega
    rw [Lp_go (r := tabM m n (swapF F L.length r)) (fun x => (tabM m n (swapTo F L.length r x), (x : Int))) n ?_ (fun x hx => ?_) (fun _ => ?_), Option.bind_some, atT hN hk hj, Option.bind_some]
    · have e1 : swapF F L.length r L.length j = F r j := by simp [swapF]
      have hrj := hi r j hrm hj
      rw [e1, n_specInv hp (by omega), Option.bind_some, Int.emod_eq_of_lt hrj.1 hrj.2]
      have hs := invR_bd hp hrj
      rw [redPart_eq]
      generalize invR p (F r j) = s at *
      have h1 := swapF_in hi hk hrm
      generalize swapF F L.length r = F1 at *
      rw [Lp_go (r := tabM m n (scaleF p F1 L.length s)) (fun x => (tabM m n (scaleTo p F1 L.length s x), (x : Int))) n ?_ (fun x hx => ?_) (fun _ => ?_), Option.bind_some]
      · have h2 := scaleF_in hp (k := L.length) (s := s) h1
        generalize scaleF p F1 L.length s = F2 at *
        rw [Lp_go (r := tabM m n (elimF p F2 L.length j)) (fun x => (tabM m n (elimTo p F2 L.length j x), (x : Int))) m ?_ (fun x hx => ?_) (fun _ => ?_), Option.bind_some]
        · rw [castL_len, decide_eq_true (by simp; omega), cond_true, wr_suc hk (by omega)]
          simp [castL]
        · congr 1
        · unfold m_spec_l4Reduce_L5
          simp only
          rw [dlt hx, cond_true, atT hN hx hj, Option.bind_some, wr_suc hx (by omega)]
          have e2 : elimTo p F2 L.length j x x j = F2 x j := by simp [elimTo]
          rw [e2]
          by_cases hxk : x = L.length
          · rw [Lp_stop (r := tabM m n (elimTo p F2 L.length j x)) ?_, Option.bind_some, hxk, elim_skip]
            unfold m_spec_l4Reduce_L6
            simp only
            rcases Nat.eq_zero_or_pos n with h0 | h0
            · omega
            · rw [decide_eq_true (by omega), cond_true, decide_eq_true (by omega), Bool.not_true, cond_false]
          · rw [Lp_go (r := tabM m n (elimTo p F2 L.length j (x + 1))) (fun y => (tabM m n (fun a c => if a = x ∧ c < y then elimF p F2 L.length j x c else elimTo p F2 L.length j x a c), (y : Int))) n (by simp) (fun y hy => ?_) (fun _ => ?_), Option.bind_some]
            · unfold m_spec_l4Reduce_L6
              simp only
              rw [dlt hy, cond_true, decide_eq_false (by omega), Bool.not_false, cond_true, atT hN hx hy, Option.bind_some, atT hN hk hy, Option.bind_some]
              have e3 : elimTo p F2 L.length j x x y = F2 x y := by simp [elimTo]
              have e4 : elimTo p F2 L.length j x L.length y = F2 L.length y := by simp [elimTo, elimF]
              rw [if_neg (by omega), if_neg (by omega), e3, e4]
              have g1 := h2 x j hx hj
              have g2 := h2 L.length y hk hy
              have g3 := h2 x y hx hy
              have g4 := mulb (a := F2 x j) (b := F2 L.length y) (by omega) (by omega)
              rw [wr_sm (x := F2 x j * F2 L.length y) (by omega), wr_sm (x := F2 x y - F2 x j * F2 L.length y) (by omega), n_l2Mod hp (by omega), Option.bind_some, Option.bind_some, setT hN hx hy, wr_suc hy (by omega)]
              congr 3
              refine tabM_congr fun a c ha hc => ?_
              simp only [setF]
              by_cases e5 : a = x ∧ c = y
              · rw [if_pos e5, if_pos (by omega), e5.2]
                simp only [elimF]
                rw [if_neg hxk]
              · rw [if_neg e5]
                by_cases e6 : a = x ∧ c < y
                · rw [if_pos e6, if_pos (by omega)]
                · rw [if_neg e6, if_neg (by omega)]
            · unfold m_spec_l4Reduce_L6
              simp only
              rw [dnl (Nat.le_refl _), cond_false]
              congr 2
              refine tabM_congr fun a c ha hc => ?_
              simp only [elimTo]
              by_cases e5 : a = x
              · rw [if_pos ⟨e5, hc⟩, if_pos (by omega), e5]
              · rw [if_neg (by omega)]
                by_cases e6 : a < x
                · rw [if_pos e6, if_pos (by omega)]
                · rw [if_neg e6, if_neg (by omega)]
        · unfold m_spec_l4Reduce_L5
          simp only
          rw [dnl (Nat.le_refl _), cond_false]
          congr 2
          exact tabM_congr fun a b ha hb => by simp only [elimTo]; rw [if_pos ha]
      · congr 1
      · unfold m_spec_l4Reduce_L4
        simp only
        have g1 := h1 _ x hk hx
        have g2 := mulb (a := F1 L.length x) (b := s) (by omega) (by omega)
        rw [dlt hx, cond_true, atT hN hk hx, Option.bind_some, scaleTo_at, Int.mul_comm, wr_sm (by omega), n_l2Mod hp (by omega), Option.bind_some, Option.bind_some, setT hN hk hx, wr_suc hx (by omega), scale_step]
      · unfold m_spec_l4Reduce_L4
        simp only
        rw [dnl (Nat.le_refl _), cond_false]
        congr 2
        exact tabM_congr fun a b ha hb => by simp only [scaleTo]; rw [if_pos hb]
    · congr 1
    · unfold m_spec_l4Reduce_L3
      simp only
      rw [dlt hx, cond_true, atT hN hk hx, Option.bind_some, atT hN hrm hx, Option.bind_some, Option.bind_some, setT hN hk hx, atT hN hrm hx, Option.bind_some, setT hN hrm hx, swapTo_at, swapTo_at, wr_suc hx (by omega), swap_step]
    · unfold m_spec_l4Reduce_L3
      simp only
      rw [dnl (Nat.le_refl _), cond_false]
      congr 2
      exact tabM_congr fun a b ha hb => by simp only [swapTo]; rw [if_pos hb]
theorem n_specReduce {p : Int} {m n : Nat} {F : Nat → Nat → Int} (T : Tb p m n F) : m_spec_l4Reduce p ⟨m, n, tabM m n F⟩ = some (⟨m, n, tabM m n (redUp p m F n).1⟩, castL (redUp p m F n).2) := by
  have hN := T.hN
  have hn := T.hn
  unfold m_spec_l4Reduce m_spec_l3Copy
  simp only
  rw [tabM_len, decide_eq_true (by simp; omega), cond_true, Option.bind_some]
  simp only [List.nil_append]
  obtain ⟨r, h1, h2⟩ : ∃ r, Lp (m_spec_l4Reduce_L1 p ⟨m, n, tabM m n F⟩) (0, tabM m n F, [], 0) = some r ∧ r = (tabM m n (redUp p m F n).1, castL (redUp p m F n).2) := by
    refine Lp_meas (fun s => ∃ j : Nat, j ≤ n ∧ s = ((j : Int), tabM m n (redUp p m F j).1, castL (redUp p m F j).2, ((redUp p m F j).2.length : Int))) (fun s => n - s.1.toNat) _ ⟨0, Nat.zero_le _, by simp [redUp, castL]⟩ ?_
    rintro s ⟨j, hj, rfl⟩
    rcases Nat.lt_or_ge j n with hlt | hge
    · have hlen := @redUp_len p m F j
      rcases Nat.lt_or_ge (redUp p m F j).2.length m with hl | hl
      · refine .inl ⟨_, n_stepS ⟨T.hp, T.hN, T.hm, T.hn, redUp_in (by have := isF_bd T.hp; omega) T.hi j⟩ hlt _ hl _, ⟨j + 1, hlt, rfl⟩, ?_⟩
        simp; omega
      · refine .inr ⟨_, ?_, rfl⟩
        unfold m_spec_l4Reduce_L1
        simp only
        have e := redUp_full (p := p) (F := F) (j := j) (by omega : (redUp p m F j).2.length = m) (n - j)
        rw [show j + (n - j) = n by omega] at e
        rw [dlt hlt, cond_true, dnl hl, cond_false, e]
    · have e : j = n := by omega
      subst e
      refine .inr ⟨_, ?_, rfl⟩
      unfold m_spec_l4Reduce_L1
      simp only
      rw [dnl (Nat.le_refl _), cond_false]
  rw [h1, h2, Option.bind_some]
end Go.Proofs.Ytjfcjkeghigipaa
end

section
set_option linter.unusedVariables false
set_option linter.unusedSimpArgs false
/-
  Models and contracts of functions, made by the extractor (ex.py).
-/
namespace Go.Proofs.Ytjfcjkeghigipaa
open Go.RowKit
set_option linter.unusedVariables false
set_option linter.unusedSimpArgs false
set_option maxRecDepth 10000
set_option maxHeartbeats 4000000

end Go.Proofs.Ytjfcjkeghigipaa
end

section
set_option linter.unusedVariables false
set_option linter.unusedSimpArgs false
/-
  Models and contracts of functions, made by the extractor (ex.py).
-/
namespace Go.Proofs.Ytjfcjkeghigipaa
open Go.RowKit
set_option linter.unusedVariables false
set_option linter.unusedSimpArgs false
set_option maxRecDepth 10000
set_option maxHeartbeats 4000000

end Go.Proofs.Ytjfcjkeghigipaa
end

section
set_option linter.unusedVariables false
set_option linter.unusedSimpArgs false
/-
  Ranks along a line, and the law on RanksBelow.
-/
namespace Go.Proofs.Ytjfcjkeghigipaa
open Go.RowKit
set_option linter.unusedVariables false

def rkF (p : Int) (m n : Nat) (F : Nat → Nat → Int) : Nat := (redUp p m F n).2.length
theorem matV_mk {p : Int} (hp : isF p = true) {r c : Nat} (hr : r ≤ 8) (hc : c ≤ 8) {F : Nat → Nat → Int} (hF : InP p r c F) : matV p ⟨r, c, tabM r c F⟩ = true := by
  have hb := isF_bd hp
  have h64 : r * c ≤ 64 := Nat.mul_le_mul hr hc
  unfold matV
  simp only [Bool.and_eq_true, decide_eq_true_eq, List.all_eq_true]
  refine ⟨inR_mk (by omega) (by omega), inR_mk (by omega) (by omega), ?_, ⟨hp, by rw [tabM_len]; exact h64⟩, fun x hx => ?_⟩
  · rw [tabM_len, wmul (by omega)]
  · unfold tabM at hx
    obtain ⟨t, ht, rfl⟩ := List.mem_map.1 hx
    have ht := List.mem_range.1 ht
    have hc0 : 0 < c := by rcases Nat.eq_zero_or_pos c with rfl | h'; simp at ht; exact h'
    have := hF (t / c) (t % c) (Nat.div_lt_of_lt_mul (by rw [Nat.mul_comm]; exact ht)) (Nat.mod_lt _ hc0)
    rw [wr_sm (by omega)]
    exact inR_mk this.1 (by omega)
theorem unit_in {p : Int} (hp : isF p = true) (m n : Nat) : InP p m n unitF := by
  have hb := isF_bd hp
  intro i j _ _
  unfold unitF
  split <;> omega
theorem range_get {d i : Nat} (h : i < d) : (List.range d)[i]?.getD 0 = i := by simp [h]
theorem rk_unit {p : Int} (hp : isF p = true) (d : Nat) : rkF p d d unitF = d := by
  have hR : Red d d unitF (List.range d) := by
    refine ⟨fun i hi => ?_, fun i k hik hk => ?_, by simp, fun i hi => ?_, fun i k hi hk hki => ?_, fun i j h1 h2 _ => ?_, fun i j hi hj => ?_⟩
    · simp at hi; rw [range_get hi]; exact hi
    · simp at hk; rw [range_get (by omega), range_get hk]; exact hik
    · simp at hi; rw [range_get hi]; simp [unitF]
    · simp at hi; rw [range_get hi]; simp [unitF, hki]
    · simp at h1; omega
    · simp at hi; rw [range_get hi] at hj; simp [unitF]; omega
  obtain ⟨⟨k, hk, e1, h3, h4⟩, _⟩ := red_again hp (G := unitF) hR (unit_in hp d d) (fun i j _ _ => rfl) d (Nat.le_refl _)
  have hl : (List.range d).length = d := by simp
  rw [hl] at e1 hk h4
  unfold rkF
  rw [e1]
  have : k = d := by
    rcases Nat.lt_or_ge k d with h | h
    · have := h4 k (Nat.le_refl _) h
      rw [range_get h] at this
      omega
    · omega
  subst this
  simp

/-! ## tables of ranks -/
def dN (r : Rp) (k : Nat) : Nat := (r.dims[k]?.getD 0).toNat
def mF (r : Rp) (k : Nat) : Nat → Nat → Int := fun i j => (r.maps[k]?.getD ⟨0, 0, []⟩).cells[i * dN r k + j]?.getD 0
def chF (r : Rp) (i : Nat) : Nat → Nat → Nat → Int
  | 0 => unitF
  | t + 1 => mulF r.p (dN r (i + t)) (mF r (i + t)) (chF r i t)
def rR (r : Rp) (i j : Nat) : Int := if i ≤ j then (rkF r.p (dN r j) (dN r i) (chF r i (j - i)) : Int) else 0
def tabR (r : Rp) : List (List Int) := (List.range r.dims.length).map fun i => rowL r.dims.length (rR r i)
theorem rep_maps {r : Rp} (h : repV r = true) : isF r.p = true ∧ dimsV r.q r.dims = true ∧ r.maps.length = r.q.src.length ∧ ∀ k, k < r.maps.length → matV r.p (r.maps[k]?.getD ⟨0, 0, []⟩) = true ∧ (r.maps[k]?.getD ⟨0, 0, []⟩).cols = r.dims[(r.q.src[k]?.getD 0).toNat]?.getD 0 ∧ (r.maps[k]?.getD ⟨0, 0, []⟩).rows = r.dims[(r.q.tgt[k]?.getD 0).toNat]?.getD 0 := by
  unfold repV at h
  simp only [Bool.and_eq_true, decide_eq_true_eq, range_all] at h
  exact ⟨h.1, h.2.1, by omega, h.2.2.2⟩
structure Ln (r : Rp) : Prop where
  hp : isF r.p = true
  n1 : 1 ≤ r.dims.length
  n5 : r.dims.length ≤ 5
  d : ∀ k, k < r.dims.length → r.dims[k]?.getD 0 = (dN r k : Int) ∧ dN r k ≤ 4
  ml : r.maps.length + 1 = r.dims.length
  m : ∀ k, k + 1 < r.dims.length → r.maps[k]?.getD ⟨0, 0, []⟩ = ⟨dN r (k + 1), dN r k, tabM (dN r (k + 1)) (dN r k) (mF r k)⟩ ∧ InP r.p (dN r (k + 1)) (dN r k) (mF r k)
theorem ln_of {r : Rp} (h1 : repV r = true) (h2 : lineV r.q = true) : Ln r := by
  obtain ⟨hp, hD, hml, hM⟩ := rep_maps h1
  obtain ⟨hQ, hd1, hd2, _⟩ := dimsV_parts hD
  obtain ⟨n, hn, hn1, hn5, hq1, hq2, hq3, hq4⟩ := quivV_parts hQ
  unfold lineV at h2
  simp only [Bool.and_eq_true, decide_eq_true_eq, range_all] at h2
  obtain ⟨_, h3, h4⟩ := h2
  rw [wr_sm (by omega)] at h3
  have hdl : r.dims.length = n := by omega
  have hd : ∀ k, k < r.dims.length → r.dims[k]?.getD 0 = (dN r k : Int) ∧ dN r k ≤ 4 := by
    intro k hk
    have := hd2 _ (mem_get 0 hk)
    unfold dN
    omega
  refine ⟨hp, by omega, by omega, hd, by omega, fun k hk => ?_⟩
  obtain ⟨g1, g2, g3⟩ := hM k (by omega)
  obtain ⟨g4, g5⟩ := h4 k (by omega)
  rw [g4, Int.toNat_natCast, (hd k (by omega)).1] at g2
  rw [g5, show ((k : Int) + 1).toNat = k + 1 by omega, (hd (k + 1) hk).1] at g3
  obtain ⟨_, a, b, F, ha, hb, he, hF⟩ := matV_parts g1
  have ea : a = dN r (k + 1) := by rw [he] at g3; simp only at g3; omega
  have eb : b = dN r k := by rw [he] at g2; simp only at g2; omega
  have em : ∀ i j, i < a → j < b → mF r k i j = F i j := by
    intro i j hi hj
    unfold mF
    rw [he, ← eb]
    simp only
    rw [tabM_get F hi hj]; rfl
  subst ea; subst eb
  rw [he]
  refine ⟨?_, fun i j hi hj => by rw [em i j hi hj]; exact hF i j hi hj⟩
  rw [tabM_congr em]
theorem ch_in {r : Rp} (L : Ln r) (i t : Nat) (m : Nat) : InP r.p m (dN r i) (chF r i t) := by
  cases t with
  | zero => exact unit_in L.hp _ _
  | succ t => exact mulF_in L.hp _ _ _ _ _
theorem rR_self {r : Rp} (L : Ln r) (i : Nat) : rR r i i = (dN r i : Int) := by
  unfold rR
  rw [if_pos (Nat.le_refl _), Nat.sub_self]
  unfold chF
  rw [rk_unit L.hp]
def fillF (r : Rp) (i j : Nat) : Nat → Int := fun b => if i ≤ b ∧ b < j then rR r i b else 0
theorem rowL_congr {c : Nat} {f g : Nat → Int} (h : ∀ j, j < c → f j = g j) : rowL c f = rowL c g := List.map_congr_left fun j hj => h j (List.mem_range.1 hj)
theorem rowL_set {c j : Nat} (hj : j < c) (f : Nat → Int) (v : Int) : (rowL c f).set j v = rowL c (fun b => if b = j then v else f b) := by
  refine List.ext_getElem (by simp [rowL]) fun t h1 h2 => ?_
  rw [rowL_len] at h2
  rw [List.getElem_set]
  simp only [rowL, List.getElem_map, List.getElem_range]
  by_cases e : j = t
  · rw [if_pos e, if_pos e.symm]
  · rw [if_neg e, if_neg (by omega)]
theorem rowL_zero (c : Nat) : List.replicate c (0 : Int) = rowL c (fun _ => 0) := by
  refine List.ext_getElem (by simp [rowL]) fun t h1 h2 => ?_
  simp [rowL]
theorem fill_step {r : Rp} {c i j : Nat} (hij : i ≤ j) (hj : j < c) {v : Int} (hv : v = rR r i j) : (rowL c (fillF r i j)).set j v = rowL c (fillF r i (j + 1)) := by
  rw [rowL_set hj]
  refine rowL_congr fun b hb => ?_
  unfold fillF
  by_cases e : b = j
  · subst e; rw [if_pos rfl, if_pos (by omega), hv]
  · rw [if_neg e]
    by_cases e2 : i ≤ b ∧ b < j
    · rw [if_pos e2, if_pos (by omega)]
    · rw [if_neg e2, if_neg (by omega)]
theorem fill_end {r : Rp} {c i : Nat} : rowL c (fillF r i c) = rowL c (rR r i) := by
  refine rowL_congr fun b hb => ?_
  unfold fillF
  by_cases e : i ≤ b
  · rw [if_pos ⟨e, hb⟩]
  · rw [if_neg (by omega)]; unfold rR; rw [if_neg e]
theorem sq {a b : Nat} (ha : a ≤ 4) (hb : b ≤ 4) : a * b ≤ 1048576 := by have := Nat.mul_le_mul ha hb; omega


/-! ## comparing -/
theorem flat_tab (c : Nat) (f : Nat → Nat → Int) : ∀ n, ((List.range n).map fun i => rowL c (f i)).flatten = tabM n c f
  | 0 => by simp [tabM]
  | n + 1 => by
    rw [List.range_succ, List.map_append, List.flatten_append, flat_tab c f n]
    unfold tabM
    rw [Nat.succ_mul, List.range_add, List.map_append]
    congr 1
    simp only [List.map_cons, List.map_nil, List.flatten_cons, List.flatten_nil, List.append_nil, List.map_map, rowL]
    refine List.map_congr_left fun j hj => ?_
    have hj := List.mem_range.1 hj
    simp only [Function.comp]
    rw [ix_div hj, ix_mod hj]
theorem flat_len {l : List (List Int)} (h : ∀ x ∈ l, x.length ≤ 1024) : l.flatten.length ≤ 1024 * l.length := by
  induction l with
  | nil => simp
  | cons x l ih =>
    have h1 := h x (by simp)
    have h2 := ih fun y hy => h y (by simp [hy])
    simp only [List.flatten_cons, List.length_append, List.length_cons]
    omega
theorem flat_take {l : List (List Int)} {k : Nat} (hk : k < l.length) : (l.take (k + 1)).flatten = (l.take k).flatten ++ l[k] := by
  rw [List.take_succ_eq_append_getElem hk, List.flatten_append]; simp
theorem n_concat {l : List (List Int)} (hl : l.length ≤ 512) (h : ∀ x ∈ l, x.length ≤ 1024) : m_slices_Concat_Lint_int l = some l.flatten := by
  have hb : ∀ k, (l.take k).flatten.length ≤ 1024 * 512 := fun k => by
    have := flat_len (l := l.take k) fun x hx => h x (List.mem_of_mem_take hx)
    have h2 : (l.take k).length ≤ 512 := by simp; omega
    omega
  unfold m_slices_Concat_Lint_int
  rw [Lp_go (r := (l.flatten.length : Int)) (fun k => (((l.take k).flatten.length : Int), (k : Int))) l.length (by simp) (fun k hk => ?_) (fun _ => ?_), Option.bind_some]
  · have e := hb l.length
    rw [List.take_length] at e
    unfold m_Grow
    rw [decide_eq_true (by omega), decide_eq_true (by omega : (l.flatten.length : Int) ≤ 1048576), Bool.and_self, cond_true, Option.bind_some]
    rw [Lp_go (r := l.flatten) (fun k => ((l.take k).flatten, (k : Int))) l.length (by simp) (fun k hk => ?_) (fun _ => ?_), Option.bind_some]
    · unfold m_slices_Concat_Lint_int_L2
      simp only
      have e2 := hb (k + 1)
      rw [flat_take hk, List.length_append] at e2
      rw [dlt hk, cond_true, atL_nat hk, Option.bind_some, decide_eq_true (by omega), cond_true, wr_suc hk (by omega), flat_take hk]
    · unfold m_slices_Concat_Lint_int_L2
      simp only
      rw [dnl (Nat.le_refl _), cond_false, List.take_length]
  · unfold m_slices_Concat_Lint_int_L1
    simp only
    have e2 := hb (k + 1)
    rw [flat_take hk, List.length_append] at e2
    rw [dlt hk, cond_true, atL_nat hk, Option.bind_some, wr_sm (x := _ + _) (by omega), decide_eq_false (by omega), cond_false, wr_suc hk (by omega), flat_take hk, List.length_append, Int.natCast_add (List.take k l).flatten.length l[k].length]
  · unfold m_slices_Concat_Lint_int_L1
    simp only
    rw [dnl (Nat.le_refl _), cond_false, List.take_length]
theorem all_tab (n c : Nat) (F G : Nat → Nat → Int) : (List.range (n * c)).all (fun k => !decide ((tabM n c G)[k]?.getD 0 < (tabM n c F)[k]?.getD 0)) = (List.range n).all fun i => (List.range c).all fun j => !decide (G i j < F i j) := by
  rw [Bool.eq_iff_iff, range_all, range_all]
  simp only [range_all]
  constructor
  · intro h i hi j hj
    have := h _ (ix_lt hi hj)
    rw [tabM_get _ hi hj, tabM_get _ hi hj] at this
    exact this
  · intro h k hk
    have hc : 0 < c := by rcases Nat.eq_zero_or_pos c with rfl | h'; simp at hk; exact h'
    have hi : k / c < n := Nat.div_lt_of_lt_mul (by rw [Nat.mul_comm]; exact hk)
    have hj := Nat.mod_lt k hc
    have := h _ hi _ hj
    have e : k / c * c + k % c = k := by rw [Nat.mul_comm]; exact Nat.div_add_mod k c
    rw [← e, tabM_get _ hi hj, tabM_get _ hi hj]
    exact this
def belowV (a b : Rp) : Bool := (List.range a.dims.length).all fun i => (List.range a.dims.length).all fun j => !decide (rR b i j < rR a i j)
def ranksV (a b : Rp) : Bool := (repV a && lineV a.q) && ((repV b && lineV b.q) && ((decide (a.p = b.p) && decide (a.q = b.q)) && (decide (a.dims = b.dims) && belowV a b)))
theorem tabR_at {r : Rp} {i : Nat} (h : i < r.dims.length) : atL (tabR r) (i : Int) = some (rowL r.dims.length (rR r i)) := by
  rw [atL_nat (by simp [tabR]; exact h)]; simp [tabR]
theorem tabR_len (r : Rp) : (tabR r).length = r.dims.length := by simp [tabR]

/-! ## the law -/
end Go.Proofs.Ytjfcjkeghigipaa
end

section
set_option linter.unusedVariables false
set_option linter.unusedSimpArgs false
/-
  The laws' structs as arguments: quivers, matrices, representations, spaces, bars, claims.
-/
namespace Go.Proofs.Ytjfcjkeghigipaa
open Go.ChangeShapes Go.WideShapes Go.ChangeAt Go.RowKit
theorem oI : Opens Try.prog 3 (ShpA 1 eI) := opensA_int Try.underlying3
theorem oL : Opens Try.prog 22 (ShpA 1 eL) := opensA_slice Try.underlying22 (by decide) (by kernel_rfl) oI
theorem oQ : Opens Try.prog 24 (ShpA 3 eQ) := by
  intro H enc w fuel cs d ps h hf
  obtain ⟨x0, T0, u0⟩ := upto_cons Try.underlying24 h hf upto_nil (i := 0) (ft := 3) rfl (k := 1) (by kernel_rfl) oI
  obtain ⟨x1, T1, u1⟩ := upto_cons Try.underlying24 h hf u0 (i := 1) (ft := 22) rfl (k := 1) (by kernel_rfl) oL
  obtain ⟨x2, T2, u2⟩ := upto_cons Try.underlying24 h hf u1 (i := 2) (ft := 22) rfl (k := 1) (by kernel_rfl) oL
  exact ⟨⟨x0, x1, x2⟩, _, upto_end Try.underlying24 h hf u2 (by kernel_rfl) _ rfl⟩
theorem oM : Opens Try.prog 107 (ShpA 3 eM) := by
  intro H enc w fuel cs d ps h hf
  obtain ⟨x0, T0, u0⟩ := upto_cons Try.underlying107 h hf upto_nil (i := 0) (ft := 3) rfl (k := 1) (by kernel_rfl) oI
  obtain ⟨x1, T1, u1⟩ := upto_cons Try.underlying107 h hf u0 (i := 1) (ft := 3) rfl (k := 1) (by kernel_rfl) oI
  obtain ⟨x2, T2, u2⟩ := upto_cons Try.underlying107 h hf u1 (i := 2) (ft := 22) rfl (k := 1) (by kernel_rfl) oL
  exact ⟨⟨x0, x1, x2⟩, _, upto_end Try.underlying107 h hf u2 (by kernel_rfl) _ rfl⟩
theorem oMs : Opens Try.prog 25 (ShpA 1 (fun l : List Mt => [.list 3 (l.map eM)])) := opensA_slice Try.underlying25 (by decide) (by kernel_rfl) oM
theorem oR : Opens Try.prog 27 (ShpA 6 eR) := by
  intro H enc w fuel cs d ps h hf
  obtain ⟨x0, T0, u0⟩ := upto_cons Try.underlying27 h hf upto_nil (i := 0) (ft := 3) rfl (k := 1) (by kernel_rfl) oI
  obtain ⟨x1, T1, u1⟩ := upto_cons Try.underlying27 h hf u0 (i := 1) (ft := 24) rfl (k := 3) (by kernel_rfl) oQ
  obtain ⟨x2, T2, u2⟩ := upto_cons Try.underlying27 h hf u1 (i := 2) (ft := 22) rfl (k := 1) (by kernel_rfl) oL
  obtain ⟨x3, T3, u3⟩ := upto_cons Try.underlying27 h hf u2 (i := 3) (ft := 25) rfl (k := 1) (by kernel_rfl) oMs
  exact ⟨⟨x0, x1, x2, x3⟩, _, upto_end Try.underlying27 h hf u3 (by kernel_rfl) _ rfl⟩
end Go.Proofs.Ytjfcjkeghigipaa
end

section
set_option linter.unusedVariables false
set_option linter.unusedSimpArgs false
/-
  A law's arguments: their lists have lengths that fit.
-/
namespace Go.Proofs.Ytjfcjkeghigipaa
open Go.RowKit
set_option linter.unusedVariables false

theorem rvs_mem {w : World} : ∀ {ds : List AV} {vs : List Value} {S : List Nat}, RepVs w ds vs S → ∀ d ∈ ds, ∃ v S', RepD w d v S'
  | [], _, _, _, d, hd => by cases hd
  | c :: cs, vs, S, h, d, hd => by
    simp only [RepVs] at h
    obtain ⟨v, r, S1, S2, _, _, h3, h4⟩ := h
    rcases List.mem_cons.1 hd with rfl | h'
    · exact ⟨v, S1, h3⟩
    · exact rvs_mem h4 d h'
theorem rcs_mem {w : World} {b : Nat} : ∀ {ds : List AV} {o : Nat} {S : List Nat}, RepCs w b o ds S → ∀ d ∈ ds, ∃ v S', RepD w d v S'
  | [], _, _, _, d, hd => by cases hd
  | c :: cs, o, S, h, d, hd => by
    simp only [RepCs] at h
    obtain ⟨v, S1, S2, _, _, _, _, h3, h4⟩ := h
    rcases List.mem_cons.1 hd with rfl | h'
    · exact ⟨v, S1, h3⟩
    · exact rcs_mem h4 d h'
theorem res_mem {w : World} {k b : Nat} : ∀ {es : List (List AV)} {o : Nat} {S : List Nat}, RepEs w k b o es S → ∀ cs ∈ es, ∀ d ∈ cs, ∃ v S', RepD w d v S'
  | [], _, _, _, cs, hc => by cases hc
  | c :: es, o, S, h, cs, hc => by
    simp only [RepEs] at h
    obtain ⟨S1, S2, _, _, h3, h4⟩ := h
    rcases List.mem_cons.1 hc with rfl | h'
    · exact rcs_mem h3
    · exact res_mem h4 cs h'
theorem rd_list {w : World} {k : Nat} {es : List (List AV)} {v : Value} {S : List Nat} (h : RepD w (.list k es) v S) : es.length ≤ 9223372036854775807 ∧ ∀ cs ∈ es, ∀ d ∈ cs, ∃ v S', RepD w d v S' := by
  unfold RepD at h
  obtain ⟨a, c, _, h2, h3, h4⟩ := h
  have hm : maxLen ≤ 9223372036854775807 := by decide
  refine ⟨by omega, ?_⟩
  rcases h4 with ⟨rfl, _⟩ | ⟨b, o, T, _, _, _, h5⟩
  · intro cs hcs; cases hcs
  · exact res_mem h5
theorem fI_of {w : World} {l : List Int} {v : Value} {S : List Nat} (h : RepD w (ints l) v S) : fI l := by
  have := (rd_list (k := 1) (es := List.map eI l) h).1
  rwa [List.length_map] at this
theorem fI_mem {w : World} {ds : List AV} (h : ∀ d ∈ ds, ∃ v S', RepD w d v S') {l : List Int} (hl : ints l ∈ ds) : fI l := by
  obtain ⟨v, S, h⟩ := h _ hl
  exact fI_of h
theorem list_mem {w : World} {ds : List AV} (h : ∀ d ∈ ds, ∃ v S', RepD w d v S') {α : Type} {k : Nat} {e : α → List AV} {l : List α} (hl : AV.list k (l.map e) ∈ ds) : fI l ∧ ∀ x ∈ l, ∀ d ∈ e x, ∃ v S', RepD w d v S' := by
  obtain ⟨v, S, h⟩ := h _ hl
  have := rd_list h
  rw [List.length_map] at this
  exact ⟨this.1, fun x hx => this.2 _ (List.mem_map.2 ⟨x, hx, rfl⟩)⟩
theorem fQ_of {w : World} {q : Qv} (h : ∀ d ∈ eQ q, ∃ v S', RepD w d v S') : fQ q := ⟨fI_mem h (by simp [eQ]), fI_mem h (by simp [eQ])⟩
theorem fM_of {w : World} {m : Mt} (h : ∀ d ∈ eM m, ∃ v S', RepD w d v S') : fM m := fI_mem h (by simp [eM])
theorem fMs_of {w : World} {l : List Mt} {ds : List AV} (h : ∀ d ∈ ds, ∃ v S', RepD w d v S') (hl : AV.list 3 (l.map eM) ∈ ds) : fMs l := by
  obtain ⟨h1, h2⟩ := list_mem h hl
  exact ⟨h1, fun m hm => fM_of (h2 m hm)⟩
theorem fR_of {w : World} {r : Rp} (h : ∀ d ∈ eR r, ∃ v S', RepD w d v S') : fR r := ⟨⟨fI_mem h (by simp [eR]), fI_mem h (by simp [eR])⟩, fI_mem h (by simp [eR]), fMs_of h (by simp [eR])⟩
theorem ret_true {w0 w : World} {v : Value} {S : List Nat} (h : ResA w (.bl true) v S) : Ending.returned v = .returned (.bool true) := by rw [h.1]
end Go.Proofs.Ytjfcjkeghigipaa
end

section
set_option linter.unusedVariables false
set_option linter.unusedSimpArgs false
/-
  Models and contracts of functions, made by the extractor (ex.py).
-/
namespace Go.Proofs.Ytjfcjkeghigipaa
open Go.RowKit
set_option linter.unusedVariables false
set_option linter.unusedSimpArgs false
set_option maxRecDepth 10000
set_option maxHeartbeats 4000000

noncomputable def m_laws_eqIntSS_L1 (a0 : (List (List Int))) (a1 : (List (List Int))) (x1 : Int) : Option (Int ⊕ (Unit ⊕ Bool)) :=
  bif decide (x1 < (a0.length : Int)) then
    (Option.bind (atL a0 x1) fun v3 =>
    Option.bind (atL a1 x1) fun v4 =>
    Option.bind (m_laws_eqIntS v3 v4) fun v5 =>
    bif !v5 then
      (some (.inr (.inr (false))))
    else
      (some (.inl (wr (x1 + 1)))))
  else
    (some (.inr (.inl ())))

noncomputable def m_laws_eqIntSS (a0 : (List (List Int))) (a1 : (List (List Int))) : Option Bool :=
  bif !decide ((a0.length : Int) = (a1.length : Int)) then
    (some (false))
  else
    (Option.bind (Lp (m_laws_eqIntSS_L1 a0 a1) 0) fun y7 =>
    Sum.elim (fun y8 =>
      some (true)
    ) 
    (fun y9 =>
      some y9
    )
     y7)

theorem c_laws_eqIntSS (a0 : (List (List Int))) (a1 : (List (List Int))) (r : Bool) (h : m_laws_eqIntSS a0 a1 = some r) : HasC Try.prog 105 [.list 1 (List.map (eLs 1 eI) a0), .list 1 (List.map (eLs 1 eI) a1)] (.bl r) := by
  refine hasC_mk TT_ok (rvs := [.tmp 4]) (ns := [0, 1, 2, 3, 4, 5, 6, 7, 8, 9, 10, 11, 12, 13]) Try.func105 rfl rfl Try.ntmps105 rfl rfl rfl ?_
  refine ac_seq ?_
  refine ac_region ?_
  refine aops_eff (eff_assign rfl) rfl rfl rfl ?_
  refine aops_nil ?_
  refine then_n ?_
  refine ac_seq ?_
  refine ac_seq ?_
  refine ac_region ?_
  refine aops_eff (eff_move rfl) rfl rfl rfl ?_
  refine aops_eff (AEff.val (w_len_list TT_ok rfl rfl rfl) (v' := .int (a0.length : Int)) (by first | rw [len_map] | rw [encI_len])) rfl rfl rfl ?_
  refine aops_eff (eff_move rfl) rfl rfl rfl ?_
  refine aops_eff (AEff.val (w_len_list TT_ok rfl rfl rfl) (v' := .int (a1.length : Int)) (by first | rw [len_map] | rw [encI_len])) rfl rfl rfl ?_
  refine aops_eff (w_cmp rfl rfl rfl) rfl rfl rfl ?_
  refine aops_nil ?_
  refine then_n ?_
  rcases cb h with ⟨q1, h⟩ | ⟨q1, h⟩
  · refine ac_condT rfl q1 ?_
    refine ac_seq ?_
    refine ac_region ?_
    refine aops_eff (eff_assign rfl) rfl rfl rfl ?_
    refine aops_nil ?_
    refine then_n ?_
    refine ac_ret ?_
    refine then_ret ?_
    obtain rfl := so h
    exact ret_mk rfl rfl rfl (fz_bl rfl)
  · refine ac_condF rfl q1 ?_
    refine ac_skip ?_
    refine then_n ?_
    refine ac_seq ?_
    refine ac_seq ?_
    refine ac_region ?_
    refine aops_eff (eff_assign rfl) rfl rfl rfl ?_
    refine aops_nil ?_
    refine then_n ?_
    refine ac_block ?_
    obtain ⟨y7, hy7, h⟩ := ob h
    refine ac_Lp (body := (m_laws_eqIntSS_L1 a0 a1)) hy7 (fun (x1 : Int) => mkS [(0, .list 1 (List.map (eLs 1 eI) a0)), (1, .list 1 (List.map (eLs 1 eI) a1)), (5, .int x1)] [] 0 [0, 1, 2, 3, 4, 5, 6, 7, 8, 9, 10, 11, 12, 13]) (fun r e t => Sum.elim (fun a => (fun r e t => e = .exit 0 ∧ Ent t (mkS [] [] 0 [0, 1, 2, 3, 4, 5, 6, 7, 8, 9, 10, 11, 12, 13])) a e t) (fun b => (fun r e t => e = .ret ∧ RetQ TT [.tmp 4] (.bl r) .ret t) b e t) r) (ent_mk (σ := sg []) ⟨⟨_, rfl, ⟨rfl, rfl⟩⟩, ⟨_, rfl, ⟨rfl, rfl⟩⟩, ⟨_, rfl, rfl⟩, trivial⟩ trivial rfl) ?_ ?_
    · intro x1 o h
      refine ac_seq ?_
      refine ac_seq ?_
      refine ac_region ?_
      refine aops_eff (eff_move rfl) rfl rfl rfl ?_
      refine aops_eff (eff_move rfl) rfl rfl rfl ?_
      refine aops_eff (AEff.val (w_len_list TT_ok rfl rfl rfl) (v' := .int (a0.length : Int)) (by first | rw [len_map] | rw [encI_len])) rfl rfl rfl ?_
      refine aops_eff (w_cmp rfl rfl rfl) rfl rfl rfl ?_
      refine aops_nil ?_
      refine then_n ?_
      rcases cb h with ⟨q2, h⟩ | ⟨q2, h⟩
      · refine ac_condT rfl q2 ?_
        refine ac_skip ?_
        refine then_n ?_
        refine ac_seq ?_
        refine ac_block ?_
        refine ac_seq ?_
        refine ac_region_draw MIXX ?_
        refine aops_eff (eff_move rfl) rfl rfl rfl ?_
        refine aops_eff (eff_move rfl) rfl rfl rfl ?_
        obtain ⟨v3, hv3, h⟩ := ob h
        refine aops_eff (x_at_list TT_ok hv3 rfl rfl rfl rfl rfl rfl) rfl rfl rfl ?_
        refine aops_eff (w_load_ref TT_ok rfl rfl rfl rfl rfl rfl) rfl rfl rfl ?_
        refine aops_eff (eff_move rfl) rfl rfl rfl ?_
        refine aops_eff (eff_move rfl) rfl rfl rfl ?_
        obtain ⟨v4, hv4, h⟩ := ob h
        refine aops_eff (x_at_list TT_ok hv4 rfl rfl rfl rfl rfl rfl) rfl rfl rfl ?_
        refine aops_eff (w_load_ref TT_ok rfl rfl rfl rfl rfl rfl) rfl rfl rfl ?_
        obtain ⟨v5, hv5, h⟩ := ob h
        refine aops_eff (w_call0s (c_laws_eqIntS v3 v4 v5 hv5) rfl (va_cons (va_same rfl) (va_cons (va_same rfl) va_nil))) rfl rfl rfl ?_
        refine aops_eff (w_not rfl) rfl rfl rfl ?_
        refine aops_nil ?_
        refine ⟨by kernel_rfl, ?_⟩
        refine then_n ?_
        refine ac_ent (t := mkS [(0, .list 1 (List.map (eLs 1 eI) a0)), (1, .list 1 (List.map (eLs 1 eI) a1)), (5, .int x1), (26, .bl (!v5))] [] 0 [0, 1, 2, 3, 4, 5, 6, 7, 8, 9, 10, 11, 12, 13]) (ent_mk (σ := sg []) ⟨⟨_, rfl, ⟨rfl, rfl⟩⟩, ⟨_, rfl, ⟨rfl, rfl⟩⟩, ⟨_, rfl, rfl⟩, ⟨_, rfl, rfl⟩, trivial⟩ trivial rfl) ?_
        rcases cb h with ⟨q6, h⟩ | ⟨q6, h⟩
        · refine ac_condT rfl q6 ?_
          refine ac_seq ?_
          refine ac_region ?_
          refine aops_eff (eff_assign rfl) rfl rfl rfl ?_
          refine aops_nil ?_
          refine then_n ?_
          refine ac_ret ?_
          refine block_ret ?_
          refine then_ret ?_
          refine then_ret ?_
          obtain rfl := so h
          exact ⟨_, rfl, rfl, ret_mk rfl rfl rfl (fz_bl rfl)⟩
        · refine ac_condF rfl q6 ?_
          refine ac_skip ?_
          refine block_n ?_
          refine then_n ?_
          refine ac_region ?_
          refine aops_eff (eff_move rfl) rfl rfl rfl ?_
          refine aops_eff (x_add rfl rfl) rfl rfl rfl ?_
          refine aops_eff (eff_assign rfl) rfl rfl rfl ?_
          refine aops_nil ?_
          refine then_n ?_
          obtain rfl := so h
          exact ⟨_, rfl, (ent_mk (σ := sg []) ⟨⟨_, rfl, ⟨rfl, rfl⟩⟩, ⟨_, rfl, ⟨rfl, rfl⟩⟩, ⟨_, rfl, rfl⟩, trivial⟩ trivial rfl)⟩
      · refine ac_condF rfl q2 ?_
        refine ac_exit ?_
        refine then_exit ?_
        refine then_exit ?_
        obtain rfl := so h
        exact ⟨_, rfl, rfl, (ent_mk (σ := sg []) trivial trivial rfl)⟩
    · intro e t hX
      rcases y7 with y8 | y9
      · obtain ⟨rfl, hent⟩ := hX
        refine block_here ?_
        refine then_n ?_
        refine ac_ent hent ?_
        refine ac_seq ?_
        refine ac_region ?_
        refine aops_eff (eff_assign rfl) rfl rfl rfl ?_
        refine aops_nil ?_
        refine then_n ?_
        refine ac_ret ?_
        obtain rfl := so h
        exact ret_mk rfl rfl rfl (fz_bl rfl)
      · obtain ⟨rfl, hent⟩ := hX
        refine block_ret ?_
        refine then_ret ?_
        obtain rfl := so h
        exact hent

noncomputable def m_laws_eqSpace (a0 : Sc) (a1 : Sc) : Option Bool :=
  bif !decide (a0.size = a1.size) then
    (some (false))
  else
    (Option.bind (m_laws_eqIntSS a0.basis a1.basis) fun v2 =>
    bif !v2 then
      (some (false))
    else
      (some (true)))

theorem c_laws_eqSpace (a0 : Sc) (a1 : Sc) (r : Bool) (h : m_laws_eqSpace a0 a1 = some r) : HasC Try.prog 54 [.agg (eS a0), .agg (eS a1)] (.bl r) := by
  refine hasC_mk TT_ok (rvs := [.tmp 4]) (ns := [0, 1, 2, 3, 4, 5, 6, 7, 8, 9, 10, 11, 12, 13]) Try.func54 rfl rfl Try.ntmps54 rfl rfl rfl ?_
  refine ac_seq ?_
  refine ac_region ?_
  refine aops_eff (w_box rfl rfl rfl rfl) rfl rfl rfl ?_
  refine aops_eff (w_box rfl rfl rfl rfl) rfl rfl rfl ?_
  refine aops_eff (eff_assign rfl) rfl rfl rfl ?_
  refine aops_nil ?_
  refine then_n ?_
  refine ac_seq ?_
  refine ac_seq ?_
  refine ac_region ?_
  refine aops_eff (w_field_ptr TT_ok rfl rfl rfl rfl rfl rfl rfl) rfl rfl rfl ?_
  refine aops_eff (w_load_ptr TT_ok rfl rfl rfl rfl rfl rfl rfl) rfl rfl rfl ?_
  refine aops_eff (w_field_ptr TT_ok rfl rfl rfl rfl rfl rfl rfl) rfl rfl rfl ?_
  refine aops_eff (w_load_ptr TT_ok rfl rfl rfl rfl rfl rfl rfl) rfl rfl rfl ?_
  refine aops_eff (w_cmp rfl rfl rfl) rfl rfl rfl ?_
  refine aops_nil ?_
  refine then_n ?_
  rcases cb h with ⟨q1, h⟩ | ⟨q1, h⟩
  · refine ac_condT rfl q1 ?_
    refine ac_seq ?_
    refine ac_region ?_
    refine aops_eff (eff_assign rfl) rfl rfl rfl ?_
    refine aops_nil ?_
    refine then_n ?_
    refine ac_ret ?_
    refine then_ret ?_
    obtain rfl := so h
    exact ret_mk rfl rfl rfl (fz_bl rfl)
  · refine ac_condF rfl q1 ?_
    refine ac_skip ?_
    refine then_n ?_
    refine ac_seq ?_
    refine ac_seq ?_
    refine ac_region ?_
    refine aops_eff (w_field_ptr TT_ok rfl rfl rfl rfl rfl rfl rfl) rfl rfl rfl ?_
    refine aops_eff (w_load_ptr TT_ok rfl rfl rfl rfl rfl rfl rfl) rfl rfl rfl ?_
    refine aops_eff (w_field_ptr TT_ok rfl rfl rfl rfl rfl rfl rfl) rfl rfl rfl ?_
    refine aops_eff (w_load_ptr TT_ok rfl rfl rfl rfl rfl rfl rfl) rfl rfl rfl ?_
    obtain ⟨v2, hv2, h⟩ := ob h
    refine aops_eff (w_call0s (c_laws_eqIntSS a0.basis a1.basis v2 hv2) rfl (va_cons (va_same rfl) (va_cons (va_same rfl) va_nil))) rfl rfl rfl ?_
    refine aops_eff (w_not rfl) rfl rfl rfl ?_
    refine aops_nil ?_
    refine then_n ?_
    refine ac_ent (t := mkS [(15, .bl (!v2))] [] 2 [2, 3, 4, 5, 6, 7, 8, 9, 10, 11, 12, 13, 14, 15]) (ent_mk (σ := sg []) ⟨⟨_, rfl, rfl⟩, trivial⟩ trivial rfl) ?_
    rcases cb h with ⟨q3, h⟩ | ⟨q3, h⟩
    · refine ac_condT rfl q3 ?_
      refine ac_seq ?_
      refine ac_region ?_
      refine aops_eff (eff_assign rfl) rfl rfl rfl ?_
      refine aops_nil ?_
      refine then_n ?_
      refine ac_ret ?_
      refine then_ret ?_
      obtain rfl := so h
      exact ret_mk rfl rfl rfl (fz_bl rfl)
    · refine ac_condF rfl q3 ?_
      refine ac_skip ?_
      refine then_n ?_
      refine ac_seq ?_
      refine ac_region ?_
      refine aops_eff (eff_assign rfl) rfl rfl rfl ?_
      refine aops_nil ?_
      refine then_n ?_
      refine ac_ret ?_
      obtain rfl := so h
      exact ret_mk rfl rfl rfl (fz_bl rfl)

noncomputable def m_laws_eqSpaceS_L1 (a0 : (List Sc)) (a1 : (List Sc)) (x1 : Int) : Option (Int ⊕ (Unit ⊕ Bool)) :=
  bif decide (x1 < (a0.length : Int)) then
    (Option.bind (atL a0 x1) fun v3 =>
    Option.bind (atL a1 x1) fun v4 =>
    Option.bind (m_laws_eqSpace v3 v4) fun v5 =>
    bif !v5 then
      (some (.inr (.inr (false))))
    else
      (some (.inl (wr (x1 + 1)))))
  else
    (some (.inr (.inl ())))

noncomputable def m_laws_eqSpaceS (a0 : (List Sc)) (a1 : (List Sc)) : Option Bool :=
  bif !decide ((a0.length : Int) = (a1.length : Int)) then
    (some (false))
  else
    (Option.bind (Lp (m_laws_eqSpaceS_L1 a0 a1) 0) fun y7 =>
    Sum.elim (fun y8 =>
      some (true)
    ) 
    (fun y9 =>
      some y9
    )
     y7)

theorem c_laws_eqSpaceS (a0 : (List Sc)) (a1 : (List Sc)) (r : Bool) (h : m_laws_eqSpaceS a0 a1 = some r) : HasC Try.prog 15 [.list 2 (List.map eS a0), .list 2 (List.map eS a1)] (.bl r) := by
  refine hasC_mk TT_ok (rvs := [.tmp 4]) (ns := [0, 1, 2, 3, 4, 5, 6, 7, 8, 9, 10, 11, 12, 13]) Try.func15 rfl rfl Try.ntmps15 rfl rfl rfl ?_
  refine ac_seq ?_
  refine ac_region ?_
  refine aops_eff (eff_assign rfl) rfl rfl rfl ?_
  refine aops_nil ?_
  refine then_n ?_
  refine ac_seq ?_
  refine ac_seq ?_
  refine ac_region ?_
  refine aops_eff (eff_move rfl) rfl rfl rfl ?_
  refine aops_eff (AEff.val (w_len_list TT_ok rfl rfl rfl) (v' := .int (a0.length : Int)) (by first | rw [len_map] | rw [encI_len])) rfl rfl rfl ?_
  refine aops_eff (eff_move rfl) rfl rfl rfl ?_
  refine aops_eff (AEff.val (w_len_list TT_ok rfl rfl rfl) (v' := .int (a1.length : Int)) (by first | rw [len_map] | rw [encI_len])) rfl rfl rfl ?_
  refine aops_eff (w_cmp rfl rfl rfl) rfl rfl rfl ?_
  refine aops_nil ?_
  refine then_n ?_
  rcases cb h with ⟨q1, h⟩ | ⟨q1, h⟩
  · refine ac_condT rfl q1 ?_
    refine ac_seq ?_
    refine ac_region ?_
    refine aops_eff (eff_assign rfl) rfl rfl rfl ?_
    refine aops_nil ?_
    refine then_n ?_
    refine ac_ret ?_
    refine then_ret ?_
    obtain rfl := so h
    exact ret_mk rfl rfl rfl (fz_bl rfl)
  · refine ac_condF rfl q1 ?_
    refine ac_skip ?_
    refine then_n ?_
    refine ac_seq ?_
    refine ac_seq ?_
    refine ac_region ?_
    refine aops_eff (eff_assign rfl) rfl rfl rfl ?_
    refine aops_nil ?_
    refine then_n ?_
    refine ac_block ?_
    obtain ⟨y7, hy7, h⟩ := ob h
    refine ac_Lp (body := (m_laws_eqSpaceS_L1 a0 a1)) hy7 (fun (x1 : Int) => mkS [(0, .list 2 (List.map eS a0)), (1, .list 2 (List.map eS a1)), (5, .int x1)] [] 0 [0, 1, 2, 3, 4, 5, 6, 7, 8, 9, 10, 11, 12, 13]) (fun r e t => Sum.elim (fun a => (fun r e t => e = .exit 0 ∧ Ent t (mkS [] [] 0 [0, 1, 2, 3, 4, 5, 6, 7, 8, 9, 10, 11, 12, 13])) a e t) (fun b => (fun r e t => e = .ret ∧ RetQ TT [.tmp 4] (.bl r) .ret t) b e t) r) (ent_mk (σ := sg []) ⟨⟨_, rfl, ⟨rfl, rfl⟩⟩, ⟨_, rfl, ⟨rfl, rfl⟩⟩, ⟨_, rfl, rfl⟩, trivial⟩ trivial rfl) ?_ ?_
    · intro x1 o h
      refine ac_seq ?_
      refine ac_seq ?_
      refine ac_region ?_
      refine aops_eff (eff_move rfl) rfl rfl rfl ?_
      refine aops_eff (eff_move rfl) rfl rfl rfl ?_
      refine aops_eff (AEff.val (w_len_list TT_ok rfl rfl rfl) (v' := .int (a0.length : Int)) (by first | rw [len_map] | rw [encI_len])) rfl rfl rfl ?_
      refine aops_eff (w_cmp rfl rfl rfl) rfl rfl rfl ?_
      refine aops_nil ?_
      refine then_n ?_
      rcases cb h with ⟨q2, h⟩ | ⟨q2, h⟩
      · refine ac_condT rfl q2 ?_
        refine ac_skip ?_
        refine then_n ?_
        refine ac_seq ?_
        refine ac_block ?_
        refine ac_seq ?_
        refine ac_region_draw MIXX ?_
        refine aops_eff (eff_move rfl) rfl rfl rfl ?_
        refine aops_eff (eff_move rfl) rfl rfl rfl ?_
        obtain ⟨v3, hv3, h⟩ := ob h
        refine aops_eff (x_at_list TT_ok hv3 rfl rfl rfl rfl rfl rfl) rfl rfl rfl ?_
        refine aops_eff (w_load_ref TT_ok rfl rfl rfl rfl rfl rfl) rfl rfl rfl ?_
        refine aops_eff (eff_move rfl) rfl rfl rfl ?_
        refine aops_eff (eff_move rfl) rfl rfl rfl ?_
        obtain ⟨v4, hv4, h⟩ := ob h
        refine aops_eff (x_at_list TT_ok hv4 rfl rfl rfl rfl rfl rfl) rfl rfl rfl ?_
        refine aops_eff (w_load_ref TT_ok rfl rfl rfl rfl rfl rfl) rfl rfl rfl ?_
        obtain ⟨v5, hv5, h⟩ := ob h
        refine aops_eff (w_call0s (c_laws_eqSpace v3 v4 v5 hv5) rfl (va_cons (va_agg' (v1_cons (v1_same rfl) (v1_cons (v1_same rfl) v1_nil))) (va_cons (va_agg' (v1_cons (v1_same rfl) (v1_cons (v1_same rfl) v1_nil))) va_nil))) rfl rfl rfl ?_
        refine aops_eff (w_not rfl) rfl rfl rfl ?_
        refine aops_nil ?_
        refine ⟨by kernel_rfl, ?_⟩
        refine then_n ?_
        refine ac_ent (t := mkS [(0, .list 2 (List.map eS a0)), (1, .list 2 (List.map eS a1)), (5, .int x1), (26, .bl (!v5))] [] 0 [0, 1, 2, 3, 4, 5, 6, 7, 8, 9, 10, 11, 12, 13]) (ent_mk (σ := sg []) ⟨⟨_, rfl, ⟨rfl, rfl⟩⟩, ⟨_, rfl, ⟨rfl, rfl⟩⟩, ⟨_, rfl, rfl⟩, ⟨_, rfl, rfl⟩, trivial⟩ trivial rfl) ?_
        rcases cb h with ⟨q6, h⟩ | ⟨q6, h⟩
        · refine ac_condT rfl q6 ?_
          refine ac_seq ?_
          refine ac_region ?_
          refine aops_eff (eff_assign rfl) rfl rfl rfl ?_
          refine aops_nil ?_
          refine then_n ?_
          refine ac_ret ?_
          refine block_ret ?_
          refine then_ret ?_
          refine then_ret ?_
          obtain rfl := so h
          exact ⟨_, rfl, rfl, ret_mk rfl rfl rfl (fz_bl rfl)⟩
        · refine ac_condF rfl q6 ?_
          refine ac_skip ?_
          refine block_n ?_
          refine then_n ?_
          refine ac_region ?_
          refine aops_eff (eff_move rfl) rfl rfl rfl ?_
          refine aops_eff (x_add rfl rfl) rfl rfl rfl ?_
          refine aops_eff (eff_assign rfl) rfl rfl rfl ?_
          refine aops_nil ?_
          refine then_n ?_
          obtain rfl := so h
          exact ⟨_, rfl, (ent_mk (σ := sg []) ⟨⟨_, rfl, ⟨rfl, rfl⟩⟩, ⟨_, rfl, ⟨rfl, rfl⟩⟩, ⟨_, rfl, rfl⟩, trivial⟩ trivial rfl)⟩
      · refine ac_condF rfl q2 ?_
        refine ac_exit ?_
        refine then_exit ?_
        refine then_exit ?_
        obtain rfl := so h
        exact ⟨_, rfl, rfl, (ent_mk (σ := sg []) trivial trivial rfl)⟩
    · intro e t hX
      rcases y7 with y8 | y9
      · obtain ⟨rfl, hent⟩ := hX
        refine block_here ?_
        refine then_n ?_
        refine ac_ent hent ?_
        refine ac_seq ?_
        refine ac_region ?_
        refine aops_eff (eff_assign rfl) rfl rfl rfl ?_
        refine aops_nil ?_
        refine then_n ?_
        refine ac_ret ?_
        obtain rfl := so h
        exact ret_mk rfl rfl rfl (fz_bl rfl)
      · obtain ⟨rfl, hent⟩ := hX
        refine block_ret ?_
        refine then_ret ?_
        obtain rfl := so h
        exact hent

end Go.Proofs.Ytjfcjkeghigipaa
end

section
set_option linter.unusedVariables false
set_option linter.unusedSimpArgs false
/-
  The laws' sizes, copies and comparisons (2): lists of lists, spaces.
-/
namespace Go.Proofs.Ytjfcjkeghigipaa
open Go.RowKit
set_option linter.unusedVariables false
set_option linter.unusedSimpArgs false

theorem mz_Row {l : List Int} {left : Int} (hl : fI l) (h0 : 0 ≤ left) (h1 : left ≤ 1048576) : m_laws_szIntS l left = some (zRow l left) := mz_I hl h0 h1
theorem me_Ls {a b : List (List Int)} (h : a.length ≤ 1048576 ∧ ∀ m ∈ a, bI m) : m_laws_eqIntSS a b = some (decide (a = b)) := by
  obtain ⟨h, hb⟩ := h
  unfold m_laws_eqIntSS
  rw [len_test]
  by_cases e : a.length = b.length
  · rw [decide_eq_true e, Bool.not_true, cond_false]
    refine eq_lists (by omega) e (fun k h1 h2 => ?_) ?_
    · unfold m_laws_eqIntSS_L1
      rw [dlt h1, cond_true, atL_nat h1, Option.bind_some, atL_nat h2, Option.bind_some, me_I (hb _ (List.getElem_mem h1)), Option.bind_some]
      cases decide (a[k] = b[k]) <;> rfl
    · unfold m_laws_eqIntSS_L1
      rw [dnl (Nat.le_refl _), cond_false]
  · rw [decide_eq_false e, Bool.not_false, cond_true, decide_eq_false (by rintro rfl; exact e rfl)]
theorem me_S {a b : Sc} (h : bS a) : m_laws_eqSpace a b = some (decide (a = b)) := by
  unfold m_laws_eqSpace
  rw [bif_tail (d := decide (a.basis = b.basis)) (fun _ => ?_)]
  · cases a; cases b; simp
  · rw [me_Ls h.1, Option.bind_some, bif_one]
theorem me_Ss {a b : List Sc} (h : a.length ≤ 1048576 ∧ ∀ m ∈ a, bS m) : m_laws_eqSpaceS a b = some (decide (a = b)) := by
  obtain ⟨h, hb⟩ := h
  unfold m_laws_eqSpaceS
  rw [len_test]
  by_cases e : a.length = b.length
  · rw [decide_eq_true e, Bool.not_true, cond_false]
    refine eq_lists (by omega) e (fun k h1 h2 => ?_) ?_
    · unfold m_laws_eqSpaceS_L1
      rw [dlt h1, cond_true, atL_nat h1, Option.bind_some, atL_nat h2, Option.bind_some, me_S (hb _ (List.getElem_mem h1)), Option.bind_some]
      cases decide (a[k] = b[k]) <;> rfl
    · unfold m_laws_eqSpaceS_L1
      rw [dnl (Nat.le_refl _), cond_false]
  · rw [decide_eq_false e, Bool.not_false, cond_true, decide_eq_false (by rintro rfl; exact e rfl)]
end Go.Proofs.Ytjfcjkeghigipaa
end

section
set_option linter.unusedVariables false
set_option linter.unusedSimpArgs false
/-
  Functions that also write into lists that lie in own lists (marks): contract, calls, regions op by op. No program stands in this text.
-/
namespace Go.Proofs.Ytjfcjkeghigipaa
open Go.RowKit
set_option linter.unusedVariables false

/-- The call of f with the arguments ds and the blocks hl (names below kp) returns r and leaves the blocks hl'; what lies in the blocks may change too, nothing else. -/
structure HasT (P : Program) (f : FuncId) (ds : List AV) (hl : List (Nat × Blk)) (kp : Nat) (r : AV) (hl' : List (Nat × Blk)) : Prop where
  enters : Enters P f
  calls : ∀ (B : Nat) (M : Nat → Prop) (w : World) (args : Array Value) (ν : Nu) (φ : Nat → List Nat), (∀ x, M x → B ≤ x) → B ≤ w.heap.size → (∀ x, w.heap.size ≤ x → M x) → All2 (RepA w (hpL hl) (ltb kp) ν) ds args.toList → HeapOk M w (hpL hl) (ltb kp) ν φ →
    Calls P f args w fun e w' => ∃ v u' ν' φ', e = .returned v ∧ Below B w w' ∧ ExtF (fun x => ¬ M x) w (hpL hl) (ltb kp) ν w' (hpL hl') u' ν' ∧ HeapOk M w' (hpL hl') u' ν' φ' ∧ RepA w' (hpL hl') u' ν' r v

theorem free_of {M : Nat → Prop} {w : World} {h : Hp} {u : Us} {ν : Nu} {φ : Nat → List Nat} (hh : HeapOk M w h u ν φ) {x : Nat} (hx : ¬ M x) : Free h ν x := by
  intro b blk β c hb hν e
  subst e
  obtain ⟨_, g2, _, g4⟩ := hh.blk b blk hb
  exact hx (g4 _ (blk_main g2 hν))
theorem HasE.toT {P : Program} {f : FuncId} {ds : List AV} {hl : List (Nat × Blk)} {kp : Nat} {r : AV} {hl' : List (Nat × Blk)} (h : HasE P f ds hl kp r hl') : HasT P f ds hl kp r hl' := by
  refine ⟨h.enters, fun B M w args ν φ h1 h2 h3 h4 h5 => (h.calls B M w args ν φ h1 h2 h3 h4 h5).mono ?_⟩
  rintro e w' ⟨v, u', ν', φ', g1, g2, g3, g4, g5⟩
  exact ⟨v, u', ν', φ', g1, g2, ⟨g3.used, g3.old, fun x hx hm => g3.free x hx (free_of h5 hm)⟩, g4, g5⟩

theorem ExtF.shrink {F : Nat → Prop} {w w' : World} {h h' g : Hp} {u u' : Us} {ν ν' : Nu} (e : ExtF F w h u ν w' h' u' ν') (hg : ∀ b blk, g b = some blk → h' b = some blk) : ExtF F w h u ν w' g u' ν' :=
  ⟨e.used, fun b blk hb hgb => e.old b blk hb (hg b blk hgb), fun x hx hf => ⟨(e.free x hx hf).1, fun b blk β c hb hν => (e.free x hx hf).2 b blk β c (hg b blk hb) hν⟩⟩

theorem hasT_mk {P : Program} {T : List (Nat × Ty)} (hT : TyOk P T) {f : FuncId} {fn : Func} {c : Code} {nt kp : Nat} {ds : List AV} {hl hl' : List (Nat × Blk)} {r : AV} {rvs : List ResultVar} {ns : List Nat} (hf : P.funcs[f]? = some fn) (hb : fn.body = some c) (hname : (fn.name == "runtime.NumGoroutine") = false) (hnt : fn.ntmps = nt) (hres : fn.results.toList = rvs)
    (hlen : Nat.ble ds.length nt = true) (h : AC P nt c ⟨nthA ds, hpL hl, ltb kp, ns, ⟨kp, true, none⟩⟩ (fun e t => ∃ t', Ent t t' ∧ RetE T rvs r hl' e t')) : HasT P f ds hl kp r hl' := by
  refine ⟨Enters.mk hf (by rw [hb]; rfl) hname, fun B M w args ν φ hMB hB hM hargs hheap => ?_⟩
  refine calls_of_wp hf hb ?_
  have hlen' := Nat.le_of_ble_eq_true hlen
  have hal : args.size = ds.length := by have := hargs.len; simpa using this
  let C : Ctx := ⟨B, w, nt, M, hMB, ⟨kp, true, none⟩, w, hpL hl, ν, fun x => ¬ M x, (fun _ x _ hm hn => hn hm), (fun _ h => by cases h)⟩
  have hsim : Sim C ⟨nthA ds, hpL hl, ltb kp, ns, ⟨kp, true, none⟩⟩ ν ⟨args ++ Array.replicate (fn.ntmps - args.size) undef, []⟩ w := by
    refine ⟨Below.refl _ _, hB, hM, rfl, by show (args ++ Array.replicate (fn.ntmps - args.size) undef).size = nt; simp [hnt]; omega, ?_, ⟨φ, hheap⟩, rfl, ExtF.refl fun _ _ h => free_of hheap h⟩
    intro t x hx
    have hx' : ds[t]? = some x := by rw [← nthA_get]; exact hx
    obtain ⟨v, h1, h2⟩ := hargs.get hx'
    refine ⟨v, ?_, h2⟩
    have hlt : t < args.size := by
      rcases Nat.lt_or_ge t args.size with h' | h'
      · exact h'
      · rw [List.getElem?_eq_none (by simpa using h')] at h1; cases h1
    show (args ++ Array.replicate (fn.ntmps - args.size) undef)[t]? = some v
    rw [Array.getElem?_append_left hlt]
    simpa using h1
  refine wp_mono (h.out C rfl _ _ w hsim) fun e a' w' ⟨s1, ν1, ⟨s', hent, hq⟩, hs1⟩ => ?_
  obtain ⟨ν', hs'⟩ := hent C ν1 a' w' hs1
  obtain ⟨he, ⟨avs, hv, hone⟩, hsame⟩ := hq
  have hsub : ∀ b blk, hpL hl' b = some blk → s'.heap b = some blk := fun b blk hb => sameL_mem hsame (hpL_mem hb)
  obtain ⟨us, h1, h2⟩ := resVars_run hT hs' hv
  obtain ⟨φ', hh⟩ := hs'.heap
  have hrun : (results fn a'.tmps).run P w' = .ok (if hh : us.toArray.size = 1 then us.toArray[0] else .tuple us.toArray) w' := by
    unfold results
    rw [Sem.run_bind, Array.mapM_eq_mapM_toList, Sem.run_map, hres]
    have h1' := h1
    generalize hq : (List.mapM _ rvs : Sem (List Value)) = m
    rw [show Sem.run P m w' = .ok us w' by rw [← hq]; exact h1']
    simp
  have shr := (Ext.refl w' s'.heap s'.used ν').shrink hsub
  have hrep : RepA w' (hpL hl') s'.used ν' r (if hh : us.toArray.size = 1 then us.toArray[0] else .tuple us.toArray) := by
    rcases hone with rfl | ⟨g1, g2, rfl⟩
    · obtain ⟨u, q, rfl, k1, k2⟩ := h2
      simp only [All2] at k2
      subst k2
      exact k1.ext shr
    · have hul : us.length = avs.length := h2.len
      rw [dif_neg (by simp; rw [hul]; exact g1)]
      refine ⟨us, rfl, h2.congrM fun x hx v hr => ?_⟩
      exact repA_B (hr.ext shr) (List.all_eq_true.1 g2 x hx)
  have hend : bodyPost P fn (fun e w' => ∃ v u' ν' φ', e = .returned v ∧ Below B w w' ∧ ExtF (fun x => ¬ M x) w (hpL hl) (ltb kp) ν w' (hpL hl') u' ν' ∧ HeapOk M w' (hpL hl') u' ν' φ' ∧ RepA w' (hpL hl') u' ν' r v) .ret a' w' :=
    ⟨hs'.defers, _, hrun, _, s'.used, ν', φ', rfl, hs'.below, hs'.ext.shrink hsub, hh.shrink hsub (fun _ _ _ _ h => h), hrep⟩
  cases e <;> simp only [isEnd, Bool.false_eq_true] at he <;> exact hend

/-! ## regions op by op -/
structure SOps (P : Program) (ops : Array Oper) (nt : Nat) (l : List Oper) (s : AState) (K : AState → Prop) : Prop where
  out : ∀ (C : Ctx), C.nt = nt → ∀ (ν : Nu) (a : Act) (w : World), Sim C s ν a w → ∀ Q : Exit → Act → World → Prop, (∀ s' ν' a' w', K s' → Sim C s' ν' a' w' → Q .normal a' w') → wpList P ops Q l a w
section
variable {P : Program} {ops : Array Oper} {nt : Nat} {l : List Oper} {s : AState} {K : AState → Prop}
theorem sops_nil (h : K s) : SOps P ops nt [] s K := ⟨fun C hC ν a w hs Q hQ => hQ s ν a w h hs⟩
theorem sops_ent {t : AState} (e : Ent s t) (h : SOps P ops nt l t K) : SOps P ops nt l s K := ⟨fun C hC ν a w hs Q hQ => by
  obtain ⟨ν', hs'⟩ := e C ν a w hs
  exact h.out C hC ν' a w hs' Q hQ⟩
theorem sops_eff {d : Option Tmp} {op : Op} {ty : TypeId} {pos : String} {aft : Array Edge} {g : Option (Nat × Bool)} {e : Eff} (he : AEff P ⟨d, op, ty, pos, aft, g⟩ s.ev s.heap s.kp e) (hd : dstB ⟨d, op, ty, pos, aft, g⟩ nt = true) (hg : wantedA ops s.env ⟨d, op, ty, pos, aft, g⟩ = some true) (hn : (e.news.all fun b => !s.used b) = true)
    (h : SOps P ops nt l (s.app d e) K) : SOps P ops nt (⟨d, op, ty, pos, aft, g⟩ :: l) s K := ⟨fun C hC ν a w hs Q hQ => by
  subst hC
  refine wpList_step fun K' hK' => ?_
  have hst : Step P ops C.nt ⟨d, op, ty, pos, aft, g⟩ s e := ⟨dstB_ok hd, .inl ⟨hg, he, fun b hb => by have := List.all_eq_true.1 hn b hb; simpa using this⟩⟩
  exact step_sound hst hs fun ν' a' w' hs' => hK' _ _ (h.out C rfl ν' a' w' hs' Q hQ)⟩
theorem ac_regionS {Q : Exit → AState → Prop} {id : Nat} (h : SOps P l.toArray nt l s (Q .normal)) : AC P nt (.region id l.toArray false) s Q := by
  refine ⟨fun C hC ν a w hs => ?_⟩
  exact wp_region_lit (h.out C hC ν a w hs _ fun s' ν' a' w' hq hs' => ⟨s', ν', hq, hs'⟩)
end

/-! ## no data -/
def df1 : AV → Bool
  | .sc _ => true
  | .nil _ => true
  | .dead => true
  | .own _ _ _ => true
  | .ptr _ _ _ => true
  | _ => false
def dfC : AV → Bool
  | .abs _ _ => true
  | x => df1 x
def dfB : AV → Bool
  | .agg cs => cs.all df1
  | x => df1 x
def dfA : AV → Bool
  | .tuple cs => cs.all dfB
  | x => dfB x
section
variable {w w' : World} {h h' : Hp} {u u' : Us} {ν ν' : Nu} (U : ∀ b, u b = true → u' b = true) (O : ∀ b blk', u b = true → h' b = some blk' → ∃ blk, h b = some blk ∧ blk.k = blk'.k ∧ blk.es.length = blk'.es.length ∧ ν' b = ν b)
include U O
theorem df1_rep : ∀ {x : AV} {v : Value}, Rep1 w h u ν x v → df1 x = true → Rep1 w' h' u' ν' x v := by
  intro x v r t
  cases x <;> simp only [df1, Bool.false_eq_true] at t <;> simp only [Rep1] at r ⊢
  · exact r
  · exact r
  · refine ⟨U _ r.1, fun blk hb => ?_⟩
    obtain ⟨blk0, e1, e2, e3, e4⟩ := O _ blk r.1 hb
    have := r.2 blk0 e1
    rw [e4, ← e3, ← e2]
    exact this
  · refine ⟨U _ r.1, fun blk hb => ?_⟩
    obtain ⟨blk0, e1, e2, e3, e4⟩ := O _ blk r.1 hb
    have := r.2 blk0 e1
    rw [e4, ← e2]
    exact this
end

section
variable {w w' : World} {h h' : Hp} {u u' : Us} {ν ν' : Nu} (U : ∀ b, u b = true → u' b = true) (O : ∀ b blk', u b = true → h' b = some blk' → ∃ blk, h b = some blk ∧ blk.k = blk'.k ∧ blk.es.length = blk'.es.length ∧ ν' b = ν b)
include U O
theorem df1s_rep : ∀ {xs : List AV} {vs : List Value}, All2 (Rep1 w h u ν) xs vs → xs.all df1 = true → All2 (Rep1 w' h' u' ν') xs vs
  | [], vs, r, _ => r
  | x :: xs, vs, ⟨v, q, e, r, k⟩, t => by
    simp only [List.all_cons, Bool.and_eq_true] at t
    exact ⟨v, q, e, df1_rep U O r t.1, df1s_rep k t.2⟩
theorem dfB_rep {x : AV} {v : Value} (r : RepB w h u ν x v) (t : dfB x = true) : RepB w' h' u' ν' x v := by
  cases x <;> simp only [RepB] at r ⊢ <;> first
    | exact df1_rep U O r t
    | (obtain ⟨vs, e, r⟩ := r; exact ⟨vs, e, df1s_rep U O r t⟩)
    | (simp only [dfB, df1, Bool.false_eq_true] at t)
theorem dfA_rep {x : AV} {v : Value} (r : RepA w h u ν x v) (t : dfA x = true) : RepA w' h' u' ν' x v := by
  by_cases ht : ∃ cs, x = .tuple cs
  · obtain ⟨cs, rfl⟩ := ht
    obtain ⟨vs, e, r⟩ := r
    refine ⟨vs, e, r.congrM fun y hy d hd => dfB_rep U O hd ?_⟩
    exact List.all_eq_true.1 t y hy
  · have r' : RepB w h u ν x v := by cases x <;> first | exact r | exact absurd ⟨_, rfl⟩ ht
    have t' : dfB x = true := by cases x <;> first | exact t | exact absurd ⟨_, rfl⟩ ht
    have := dfB_rep (w' := w') U O r' t'
    cases x <;> first | exact this | exact absurd ⟨_, rfl⟩ ht
theorem dfC_rep {x : AV} {v : Value} {S : List Nat} (hk : ∀ b ∈ S, w'.heap[b]? = w.heap[b]?) (r : CellRep w h u ν x v S) (t : dfC x = true) : CellRep w' h' u' ν' x v S := by
  cases x <;> simp only [CellRep] at r ⊢ <;> first
    | exact ⟨df1_rep U O r.1 t, r.2⟩
    | exact r.keep hk
    | exact r
theorem dfCs_rep : ∀ {xs : List AV} {vs : List Value} {S : List Nat}, (∀ b ∈ S, w'.heap[b]? = w.heap[b]?) → CellsRep w h u ν xs vs S → (∀ c ∈ xs, dfC c = true) → CellsRep w' h' u' ν' xs vs S
  | [], _, _, _, r, _ => r
  | x :: xs, vs, S, hk, ⟨v, q, S1, S2, e1, e2, r, k⟩, t => by
    subst e2
    exact ⟨v, q, S1, S2, e1, rfl, dfC_rep U O (fun b hb => hk b (by simp [hb])) r (t x (by simp)), dfCs_rep (fun b hb => hk b (by simp [hb])) k (fun c hc => t c (by simp [hc]))⟩
theorem dfBlk_rep {b : Nat} {blk : Blk} {S : List Nat} (hν : ν' b = ν b) (hk : ∀ x ∈ S, w'.heap[x]? = w.heap[x]?) (r : BlkOk w h u ν b blk S) (t : ∀ cs ∈ blk.es, ∀ c ∈ cs, dfC c = true) : BlkOk w' h' u' ν' b blk S := by
  refine ⟨r.1, ?_⟩
  rcases r.2 with ⟨q1, q2, q3⟩ | ⟨β, c, arr, ty, T, vs, q1, q2, q3, q4, q5, q6, q7, q8⟩
  · exact .inl ⟨hν.trans q1, q2, q3⟩
  · subst q6
    refine .inr ⟨β, c, arr, ty, T, vs, hν.trans q1, (hk β (by simp)).trans q2, q3, q4, q5, rfl, q7, dfCs_rep U O (fun x hx => hk x (by simp [hx])) q8 fun c hc => ?_⟩
    obtain ⟨cs, hcs, hc⟩ := List.mem_flatten.1 hc
    exact t cs hcs c hc
end

section
variable {P : Program} {ops : Array Oper} {nt : Nat} {l : List Oper} {s : AState} {K : AState → Prop} {dst : Option Tmp} {ty : TypeId} {pos : String} {aft : Array Edge}
/-- A call of a function that writes into what it is handed, and into what lies in that. -/
theorem sops_T {fo : Operand} {xs : Array Operand} {ats : Array TypeId} {f : FuncId} {caps avs ds : List AV} {hl hl' hl2 : List (Nat × Blk)} {kp n' : Nat} {r r2 : AV} {σ σ' : Nat → Option Nat} {touch news : List Nat} {ed : List (Nat × Option Blk)}
    (hc : HasT P f ds hl kp r hl') (hf : s.ev fo = some (.fn f caps)) (hx : evs s.ev xs.toList = some avs) (hav : All2 (matchA σ kp) (avs ++ caps) ds) (hh : EntH σ kp s.heap hl) (hi : injB σ hl = true) (hit : inTouch σ touch hl = true) (hlive : (touch.all fun b => (s.heap b).isSome) = true)
    (hh' : EntH σ' n' (hpL hl') hl2) (hi' : injB σ' hl2 = true) (hr : matchA σ' n' r r2) (hbk : backB σ σ' kp news hl2 = true) (htl : tameL (touch ++ news) hl2) (htr : tameA (touch ++ news) r2 = true) (he : editsL (touch ++ news) hl2 = ed)
    (hd : dstB ⟨dst, .call ⟨.value fo, xs, ats⟩, ty, pos, aft, none⟩ nt = true) (hn : (news.all fun b => !s.used b) = true) (hT : s.kp.T = true) (hdf : ∀ t x, s.env t = some x → dfA x = true) (hdc : ∀ b blk, s.heap b = some blk → b ∉ touch ++ news → ∀ cs ∈ blk.es, ∀ c ∈ cs, dfC c = true)
    (h : SOps P ops nt l (s.app dst ⟨r2, touch, ed, news⟩) K) : SOps P ops nt (⟨dst, .call ⟨.value fo, xs, ats⟩, ty, pos, aft, none⟩ :: l) s K := ⟨fun C hC ν a w hs Q hQ => by
  subst hC
  refine wpList_step fun K' hK' => ?_
  rw [if_pos (wanted_of hs (ops := ops) (t := true) rfl)]
  have hnw : ∀ b ∈ news, s.used b = false := fun b hb => by have := List.all_eq_true.1 hn b hb; simpa using this
  have hfn := hs.ev hf
  simp only [RepA, RepB] at hfn
  obtain ⟨cv, hfv, hcap⟩ := hfn
  have hval := evs_rep hs (xs := xs.toList) (fun y hy => rfl) hx
  obtain ⟨φ, hφ⟩ := hs.heap
  let h3 : Hp := fun b => if b ∈ touch then s.heap b else none
  have sub : ∀ b blk, h3 b = some blk → s.heap b = some blk ∧ b ∈ touch := by
    intro b blk hb
    by_cases e : b ∈ touch
    · simp only [h3, if_pos e] at hb; exact ⟨hb, e⟩
    · simp only [h3, if_neg e] at hb; cases hb
  let M2 : Nat → Prop := fun x => (∃ b, b ∈ touch ∧ s.heap b ≠ none ∧ x ∈ φ b) ∨ w.heap.size ≤ x
  have hM2 : ∀ x, M2 x → C.M x := by
    rintro x (⟨b, _, hb, hx⟩ | hx)
    · obtain ⟨blk, hb⟩ := Option.ne_none_iff_exists'.1 hb
      exact (hφ.blk b blk hb).2.2.2 x hx
    · exact hs.fresh x hx
  have hk3 : HeapOk M2 w h3 s.used ν φ := hφ.shrink (fun b blk hb => (sub b blk hb).1) (fun b x hb hx _ => by
    obtain ⟨blk, hb⟩ := Option.ne_none_iff_exists'.1 hb
    obtain ⟨e1, e2⟩ := sub b blk hb
    exact .inl ⟨b, e2, by rw [e1]; simp, hx⟩)
  have hent : EntH σ kp h3 hl := entH_congr (h := s.heap) (touch := touch) (fun b hb => by simp only [h3, if_pos hb]) hit hh
  have cv1 := conv_mk (w := w) (u := s.used) (ν := ν) hent hi
  have hk4 := cv1.heap hk3
  have shr3 : Ext w s.heap s.used ν w h3 s.used ν := (Ext.refl _ _ _ _).shrink (fun b blk hb => (sub b blk hb).1)
  have hargs : All2 (RepA w (hpL hl) (ltb kp) (nuOf σ ν)) ds (xs.toList.map a.eval ++ cv) :=
    all2_conv (R := RepA w s.heap s.used ν) (Mt := matchA σ kp) (R' := RepA w (hpL hl) (ltb kp) (nuOf σ ν)) (fun x y v hx hm => cv1.rep (RepA.ext shr3 hx) hm) (hval.append (hcap.mono fun x v h => Rep1.repA h)) hav
  have hcall := hc.calls C.B M2 w ((xs.map a.eval) ++ cv.toArray) (nuOf σ ν) _ (fun x hx => C.low x (hM2 x hx)) hs.base (fun x hx => .inr hx) (by simpa using hargs) hk4
  unfold Oper.wp
  have hex : (execOp a.eval ⟨dst, .call ⟨.value fo, xs, ats⟩, ty, pos, aft, none⟩).run P w = .ok (.enter f ((xs.map a.eval) ++ cv.toArray)) w := by
    have : execOp a.eval ⟨dst, .call ⟨.value fo, xs, ats⟩, ty, pos, aft, none⟩ = callFunc f ((xs.map a.eval) ++ cv.toArray) := by
      simp [execOp, resolve, hfv, Deferred.ofValue, invoke]
    rw [this]
    exact hc.enters _ _
  rw [hex]
  simp only [Oper.upon]
  refine hcall.mono fun e w' ⟨v, u1, ν1, φ1, hev, hbel, hext, hh1, hrep⟩ => ?_
  subst hev
  simp only
  have cv2 := conv_mk (w := w') (u := u1) (ν := ν1) hh' hi'
  have hh2 := cv2.heap hh1
  generalize hrl : touch ++ news = rl at *
  let ν' : Nu := fun b => if b ∈ rl then nuOf σ' ν1 b else ν b
  have hν1 : ∀ b, b ∈ rl → ν' b = nuOf σ' ν1 b := fun b hb => if_pos hb
  have hν2 : ∀ b, b ∉ rl → ν' b = ν b := fun b hb => if_neg hb
  have hheq : ∀ b, editHp ed s.heap b = if b ∈ rl then hpL hl2 b else s.heap b := fun b => by rw [← he]; exact editHp_L
  have hhe1 : ∀ b, b ∈ rl → editHp ed s.heap b = hpL hl2 b := fun b hb => by rw [hheq, if_pos hb]
  have hhe2 : ∀ b, b ∉ rl → editHp ed s.heap b = s.heap b := fun b hb => by rw [hheq, if_neg hb]
  have hused : ∀ b, b ∈ rl → addUs news s.used b = true := by
    intro b hb
    rw [← hrl] at hb
    rw [addUs_spec]
    rcases List.mem_append.1 hb with h | h
    · have h5 := List.all_eq_true.1 hlive b h
      cases hq : s.heap b with
      | none => rw [hq] at h5; cases h5
      | some blk => rw [(hφ.blk b blk hq).1, Bool.or_true]
    · have : news.contains b = true := by simpa using h
      rw [this, Bool.true_or]
  have U : ∀ b, s.used b = true → addUs news s.used b = true := fun b hb => by rw [addUs_spec, hb, Bool.or_true]
  have O : ∀ b blk', s.used b = true → editHp ed s.heap b = some blk' → ∃ blk, s.heap b = some blk ∧ blk.k = blk'.k ∧ blk.es.length = blk'.es.length ∧ ν' b = ν b := by
    intro b blk' hu hb
    by_cases e : b ∈ rl
    · rw [hhe1 b e] at hb
      obtain ⟨i, e1, e2⟩ := backB_mem hbk (hpL_mem hb)
      obtain ⟨x, f1, f2, f3⟩ := (cv2.look b blk' hb).1 i e1
      rcases e2 with e2 | ⟨e2, e3⟩
      · rw [hnw b e2] at hu; cases hu
      · obtain ⟨blk0, g1, g2, g3, g4⟩ := hext.old i x e2 f1
        obtain ⟨z, k1, k2, k3⟩ := (cv1.look i blk0 g1).1 b e3
        refine ⟨z, (sub b z k1).1, k2.trans (g2.trans f2), k3.trans (g3.trans f3), ?_⟩
        rw [hν1 b e]
        simp only [nuOf, e1]
        rw [g4]
        simp only [nuOf, e3]
    · rw [hhe2 b e] at hb
      exact ⟨blk', hb, rfl, rfl, hν2 b e⟩
  have hout : ∀ b blk x, s.heap b = some blk → b ∉ rl → x ∈ φ b → w'.heap[x]? = w.heap[x]? := by
    intro b blk x hb hbr hx
    refine (hext.free x ((hφ.blk b blk hb).2.1.lt x hx) ?_).1
    rintro (⟨b2, e1, e2, e3⟩ | e1)
    · have hne : b2 ≠ b := by rintro rfl; exact hbr (by rw [← hrl]; exact List.mem_append_left _ e1)
      exact hφ.apart b2 b x e2 (by rw [hb]; simp) hne e3 hx
    · have := (hφ.blk b blk hb).2.1.lt x hx
      omega
  have hcross : ∀ b c x, hpL hl2 b ≠ none → s.heap c ≠ none → c ∉ rl → x ∈ (match σ' b with | some b0 => φ1 b0 | none => []) → x ∉ φ c := by
    intro b c x hb hc' hcr hx hx2
    obtain ⟨y1, hy1⟩ := Option.ne_none_iff_exists'.1 hb
    obtain ⟨y2, hy2⟩ := Option.ne_none_iff_exists'.1 hc'
    rcases (hh2.blk b y1 hy1).2.2.2 x hx with ⟨b2, e1, e2, e3⟩ | e1
    · have hne : b2 ≠ c := by rintro rfl; exact hcr (by rw [← hrl]; exact List.mem_append_left _ e1)
      exact hφ.apart b2 c x e2 hc' hne e3 hx2
    · have := (hφ.blk c y2 hy2).2.1.lt x hx2
      omega
  have hfin : Sim C (s.app dst ⟨r2, touch, ed, news⟩) ν' (a.put dst v) w' := by
    refine ⟨hs.below.trans hbel, Nat.le_trans hs.base hbel.size, fun x hx => hs.fresh x (Nat.le_trans hbel.size hx), by rw [defers_put]; exact hs.defers, by rw [size_put]; exact hs.size, ?_, ⟨fun b => if b ∈ rl then (match σ' b with | some b0 => φ1 b0 | none => []) else φ b, ?_, ?_⟩, hs.kp, ?_⟩
    · exact put_env hs.size (dstB_ok hd) (fun t x h => by obtain ⟨v, h1, h2⟩ := hs.env t x h; exact ⟨v, h1, dfA_rep U O h2 (hdf t x h)⟩) (tameA_rep (h1 := hpL hl2) (u1 := ltb n') (ν1 := nuOf σ' ν1) hhe1 hν1 hused (cv2.rep hrep hr) htr)
    · intro b blk' hb
      replace hb : editHp ed s.heap b = some blk' := hb
      by_cases e : b ∈ rl
      · rw [hhe1 b e] at hb
        simp only [if_pos e]
        obtain ⟨_, g2, g3, g4⟩ := hh2.blk b blk' hb
        exact ⟨hused b e, tameBlk_rep (h1 := hpL hl2) (u1 := ltb n') (ν1 := nuOf σ' ν1) hhe1 hν1 hused e g2 (tameL_mem htl (hpL_mem hb)).2, g3, fun x hx => hM2 x (g4 x hx)⟩
      · rw [hhe2 b e] at hb
        simp only [if_neg e]
        obtain ⟨g1, g2, g3, g4⟩ := hφ.blk b blk' hb
        exact ⟨U b g1, dfBlk_rep U O (hν2 b e) (fun x hx => hout b blk' x hb e hx) g2 (hdc b blk' hb e), g3, g4⟩
    · intro b c x hb hc' hne hxb hxc
      replace hb : editHp ed s.heap b ≠ none := hb
      replace hc' : editHp ed s.heap c ≠ none := hc'
      by_cases e1 : b ∈ rl <;> by_cases e2 : c ∈ rl
      · simp only [if_pos e1] at hxb
        simp only [if_pos e2] at hxc
        rw [hhe1 b e1] at hb
        rw [hhe1 c e2] at hc'
        exact hh2.apart b c x hb hc' hne hxb hxc
      · simp only [if_pos e1] at hxb
        simp only [if_neg e2] at hxc
        rw [hhe1 b e1] at hb
        rw [hhe2 c e2] at hc'
        exact hcross b c x hb hc' e2 hxb hxc
      · simp only [if_neg e1] at hxb
        simp only [if_pos e2] at hxc
        rw [hhe2 b e1] at hb
        rw [hhe1 c e2] at hc'
        exact hcross c b x hc' hb e1 hxc hxb
      · simp only [if_neg e1] at hxb
        simp only [if_neg e2] at hxc
        rw [hhe2 b e1] at hb
        rw [hhe2 c e2] at hc'
        exact hφ.apart b c x hb hc' hne hxb hxc
    · refine ⟨fun b hb => U b (hs.ext.used b hb), fun b blk' hb hl' => ?_, fun x hx hF => ?_⟩
      · obtain ⟨y, g1, g2, g3, g4⟩ := O b blk' (hs.ext.used b hb) hl'
        obtain ⟨z, k1, k2, k3, k4⟩ := hs.ext.old b y hb g1
        exact ⟨z, k1, k2.trans g2, k3.trans g3, g4.trans k4⟩
      · obtain ⟨g1, g2⟩ := hs.ext.free x hx hF
        have hm : ¬ M2 x := fun hm => C.tm (by rw [← hs.kp]; exact hT) x hx (hM2 x hm) hF
        obtain ⟨p1, p2⟩ := hext.free x (lt_of_heap hx g1) hm
        refine ⟨p1.trans g1, fun b blk β c hb hν => ?_⟩
        replace hb : editHp ed s.heap b = some blk := hb
        by_cases e : b ∈ rl
        · rw [hhe1 b e] at hb
          rw [hν1 b e] at hν
          exact cv2.free x p2 b blk β c hb hν
        · rw [hhe2 b e] at hb
          rw [hν2 b e] at hν
          exact g2 b blk β c hb hν
  exact hK' _ _ (h.out C rfl _ _ _ hfin Q hQ)⟩
end
end Go.Proofs.Ytjfcjkeghigipaa
end

section
set_option linter.unusedVariables false
set_option linter.unusedSimpArgs false
/-
  A list that lies in an own list becomes a block with a name of its own, so that it may be written. No program stands in this text.
-/
namespace Go.Proofs.Ytjfcjkeghigipaa
open Go.RowKit
set_option linter.unusedVariables false

theorem ov_cells {w : World} {h : Hp} {u : Us} {ν : Nu} : ∀ {cs : List AV} {vs : List Value} {S : List Nat}, RepOV w cs vs S → CellsRep w h u ν (cs.map toAbs) vs S
  | [], vs, S, r => by simp only [RepOV] at r; exact r
  | c :: cs, vs, S, r => by
    simp only [RepOV] at r
    obtain ⟨v, q, S1, S2, e1, e2, _, h3, h4⟩ := r
    refine ⟨v, q, S1, S2, e1, e2, ?_, ov_cells h4⟩
    cases c with
    | sc x => simp only [RepO] at h3; exact ⟨⟨h3.1, h3.2.1⟩, h3.2.2⟩
    | list k es => exact h3
    | _ => simp only [RepO] at h3

theorem absEs_lens {k : Nat} {es : List (List AV)} (h : ∀ cs ∈ es, cs.length = k) : ∀ cs ∈ absEs es, cs.length = k := by
  intro cs hcs
  unfold absEs at hcs
  obtain ⟨d, hd, rfl⟩ := List.mem_map.1 hcs
  rw [List.length_map]; exact h d hd
theorem absEs_flat (es : List (List AV)) : (absEs es).flatten = es.flatten.map toAbs := by
  unfold absEs
  rw [List.map_flatten]
theorem ent_open {s : AState} {b c i j k' : Nat} {blk : Blk} {cs : List AV} {es' : List (List AV)} (hT : s.kp.T = true) (hb : s.heap b = some blk) (hi : blk.es[i]? = some cs) (hj : cs[j]? = some (.abs k' es')) (hc : s.used c = false) (hdf : ∀ t x, s.env t = some x → dfA x = true) (hdc : ∀ b blk, s.heap b = some blk → ∀ cs ∈ blk.es, ∀ c ∈ cs, dfC c = true) :
    Ent s ⟨s.env, editHp [(c, some ⟨k', absEs es'⟩), (b, some ⟨blk.k, blk.es.set i (cs.take j ++ [.own c 0 es'.length] ++ cs.drop (j + 1))⟩)] s.heap, addUs [c] s.used, s.ns, s.kp⟩ := by
  intro C ν a w hs
  obtain ⟨φ, hh⟩ := hs.heap
  obtain ⟨hub, ⟨hk1, hx1⟩, hnd1, hB1⟩ := hh.blk b blk hb
  have hne : b ≠ c := by rintro rfl; rw [hub] at hc; cases hc
  have hcn : s.heap c = none := hs.unused hc
  have hcs := hk1 cs (List.mem_of_getElem? hi)
  have hjl : j < cs.length := by
    rcases Nat.lt_or_ge j cs.length with h' | h'
    · exact h'
    · rw [List.getElem?_eq_none h'] at hj; cases hj
  rcases hx1 with ⟨q1, q2, _⟩ | ⟨β, cap, arr, ty, T, vs, q1, q2, q3, q4, q5, q6, q7, q8⟩
  · rw [q2] at hi; simp at hi
  have hdrop : blk.es.flatten.drop (i * blk.k + j) = .abs k' es' :: blk.es.flatten.drop (i * blk.k + j + 1) := by
    obtain ⟨r, hr⟩ := flatten_at hk1 hi
    have h1 : blk.es.flatten.drop (i * blk.k + j) = (cs ++ r).drop j := by rw [← hr, List.drop_drop]
    have h2 : blk.es.flatten.drop (i * blk.k + j + 1) = (cs ++ r).drop (j + 1) := by rw [← hr, List.drop_drop, Nat.add_assoc]
    rw [h1, h2, List.drop_append_of_le_length (by omega), List.drop_append_of_le_length (by omega), List.drop_eq_getElem_cons hjl]
    have : cs[j] = .abs k' es' := by simpa [hjl] using hj
    rw [this]; rfl
  have hfl : blk.es.flatten = blk.es.flatten.take (i * blk.k + j) ++ ([.abs k' es'] ++ blk.es.flatten.drop (i * blk.k + j + 1)) := by
    rw [List.singleton_append, ← hdrop, List.take_append_drop]
  rw [hfl] at q8
  obtain ⟨v1, v2, S1, S2, e1, e2, e3, e4, e5⟩ := q8.append_inv
  obtain ⟨v3, v4, S3, S4, f1, f2, f3, f4, f5⟩ := e5.append_inv
  subst f1 f2
  obtain ⟨v, r0, S5, S6, rfl, rfl, g1, ⟨rfl, rfl⟩⟩ := f4
  simp only [CellRep] at g1
  rw [List.append_nil] at e2
  have hφ : φ b = β :: (S1 ++ (S5 ++ S4)) := by rw [q6, e2]
  -- the new name's block
  obtain ⟨νc, hνc⟩ : ∃ νc : Option (Nat × Nat), (∀ (h : Hp) (u : Us) (ν' : Nu), ν' c = νc → BlkOk w h u ν' c ⟨k', absEs es'⟩ S5) ∧ (νc = none → v = .slice none 0 0) ∧ (∀ β' cap', νc = some (β', cap') → ownV β' 0 k' es'.length cap' v ∧ β' ∈ S5) := by
    simp only [RepO] at g1
    rcases g1 with ⟨rfl, rfl, rfl⟩ | ⟨β', cap', arr', ty', T', vs', p1, p2, p3, p4, p5, p6, rfl, p8, p9⟩
    · exact ⟨none, fun h u ν' hν => ⟨by simp [absEs], .inl ⟨hν, rfl, rfl⟩⟩, fun _ => rfl, fun _ _ e => by cases e⟩
    · have hl : (absEs es').length = es'.length := by simp [absEs]
      refine ⟨some (β', cap'), fun h u ν' hν => ⟨absEs_lens p6, .inr ⟨β', cap', arr', ty', T', vs', hν, p2, p3, by show (absEs es').length ≤ cap'; omega, p5, rfl, by show arr'.toList.take ((absEs es').length * k') = vs'; rw [hl]; exact p8, ?_⟩⟩, fun e => by (cases e), fun x y e => ?_⟩
      · show CellsRep w h u ν' (absEs es').flatten vs' T'
        rw [absEs_flat]
        exact ov_cells (repOE_flat.1 p9)
      · cases e; rw [p1]; exact ⟨ownV_zero, by simp⟩
  obtain ⟨hB, hn0, hn1⟩ := hνc
  let ν' : Nu := fun x => if x = c then νc else ν x
  have hν1 : ν' c = νc := if_pos rfl
  have hν2 : ∀ x, x ≠ c → ν' x = ν x := fun x hx => if_neg hx
  have hl1 : editHp [(c, some ⟨k', absEs es'⟩), (b, some ⟨blk.k, blk.es.set i (cs.take j ++ [.own c 0 es'.length] ++ cs.drop (j + 1))⟩)] s.heap c = some ⟨k', absEs es'⟩ := by simp [editHp]
  have hl2 : editHp [(c, some ⟨k', absEs es'⟩), (b, some ⟨blk.k, blk.es.set i (cs.take j ++ [.own c 0 es'.length] ++ cs.drop (j + 1))⟩)] s.heap b = some ⟨blk.k, blk.es.set i (cs.take j ++ [.own c 0 es'.length] ++ cs.drop (j + 1))⟩ := by simp [editHp, beq_ne hne]
  have hl3 : ∀ x, x ≠ c → x ≠ b → editHp [(c, some ⟨k', absEs es'⟩), (b, some ⟨blk.k, blk.es.set i (cs.take j ++ [.own c 0 es'.length] ++ cs.drop (j + 1))⟩)] s.heap x = s.heap x := fun x h1 h2 => by simp [editHp, beq_ne h1, beq_ne h2]
  generalize hH : editHp [(c, some ⟨k', absEs es'⟩), (b, some ⟨blk.k, blk.es.set i (cs.take j ++ [.own c 0 es'.length] ++ cs.drop (j + 1))⟩)] s.heap = H at *
  have U : ∀ x, s.used x = true → addUs [c] s.used x = true := fun x hx => by rw [addUs_spec, hx, Bool.or_true]
  have O : ∀ x blk', s.used x = true → H x = some blk' → ∃ y, s.heap x = some y ∧ y.k = blk'.k ∧ y.es.length = blk'.es.length ∧ ν' x = ν x := by
    intro x blk' hu hx
    have hxc : x ≠ c := by rintro rfl; rw [hu] at hc; cases hc
    by_cases e : x = b
    · subst e
      rw [hl2] at hx
      cases hx
      exact ⟨blk, hb, rfl, by simp, hν2 _ hxc⟩
    · rw [hl3 x hxc e] at hx
      exact ⟨blk', hx, rfl, rfl, hν2 _ hxc⟩
  have hfl2 : ∀ d ∈ blk.es.flatten, dfC d = true := by
    intro d hd
    obtain ⟨ds, h1, h2⟩ := List.mem_flatten.1 hd
    exact hdc b blk hb ds h1 d h2
  refine ⟨ν', hs.below, hs.base, hs.fresh, hs.defers, hs.size, fun t x hx => by obtain ⟨v, h1, h2⟩ := hs.env t x hx; exact ⟨v, h1, dfA_rep U O h2 (hdf t x hx)⟩, ⟨fun x => if x = c then S5 else if x = b then β :: (S1 ++ S4) else φ x, ?_, ?_⟩, hs.kp, ?_⟩
  · intro x blk2 hx
    replace hx : H x = some blk2 := hx
    have hnd := hnd1
    rw [hφ] at hnd
    have n1 := List.nodup_cons.1 hnd
    have n2 := List.nodup_append.1 n1.2
    have n3 := List.nodup_append.1 n2.2.1
    by_cases e : x = c
    · subst e
      rw [hl1] at hx
      cases hx
      simp only [if_true]
      refine ⟨by rw [addUs_spec]; simp, hB _ _ _ hν1, n3.1, fun y hy => hB1 y (by rw [hφ]; simp [hy])⟩
    · by_cases e0 : x = b
      · subst e0
        rw [hl2] at hx
        cases hx
        simp only [if_neg e, if_true]
        refine ⟨U _ hub, ⟨?_, .inr ⟨β, cap, arr, ty, S1 ++ S4, vs, (hν2 _ e).trans q1, q2, q3, by simpa using q4, q5, rfl, by simpa using q7, ?_⟩⟩, ?_, ?_⟩
        · intro d hd
          rcases List.mem_or_eq_of_mem_set hd with h | h
          · exact hk1 d h
          · rw [h]; simp; omega
        · rw [set_flatten_y (n := 1) hk1 hi rfl (by omega), e1]
          have m1 : CellsRep w H (addUs [c] s.used) ν' [.own c 0 es'.length] [v] [] := by
            refine ⟨v, [], [], [], rfl, rfl, ⟨⟨by rw [addUs_spec]; simp, fun blk3 h3 => ?_⟩, rfl⟩, rfl, rfl⟩
            rw [hl1] at h3
            cases h3
            refine ⟨by simp [absEs], fun h4 => hn0 (hν1.symm.trans h4), fun β' c' h4 => (hn1 β' c' (hν1.symm.trans h4)).1⟩
          have m2 := (dfCs_rep (w' := w) (h' := H) (u' := addUs [c] s.used) (ν' := ν') U O (fun _ _ => rfl) e4 (fun d hd => hfl2 d (List.mem_of_mem_take hd))).append (m1.append (dfCs_rep (w' := w) (h' := H) (u' := addUs [c] s.used) (ν' := ν') U O (fun _ _ => rfl) f5 (fun d hd => hfl2 d (List.mem_of_mem_drop hd))))
          rw [List.append_assoc (List.take (i * blk.k + j) blk.es.flatten)]
          simpa using m2
        · refine List.nodup_cons.2 ⟨fun hm => n1.1 ?_, List.nodup_append.2 ⟨n2.1, n3.2.1, fun y hy z hz => n2.2.2 y hy z (by simp [hz])⟩⟩
          rcases List.mem_append.1 hm with h | h <;> simp [h]
        · intro y hy
          refine hB1 y ?_
          rw [hφ]
          rcases List.mem_cons.1 hy with rfl | h
          · simp
          · rcases List.mem_append.1 h with h | h <;> simp [h]
      · rw [hl3 x e e0] at hx
        simp only [if_neg e, if_neg e0]
        obtain ⟨p1, p2, p3, p4⟩ := hh.blk x blk2 hx
        exact ⟨U _ p1, dfBlk_rep U O (hν2 _ e) (fun _ _ => rfl) p2 (hdc x blk2 hx), p3, p4⟩
  · have hnd := hnd1
    rw [hφ] at hnd
    have n1 := List.nodup_cons.1 hnd
    have n2 := List.nodup_append.1 n1.2
    have n3 := List.nodup_append.1 n2.2.1
    have hbn : s.heap b ≠ none := by rw [hb]; simp
    have hS5 : ∀ y, y ∈ S5 → y ∈ φ b := fun y hy => by rw [hφ]; simp [hy]
    have hSb : ∀ y, y ∈ β :: (S1 ++ S4) → y ∈ φ b := fun y hy => by
      rw [hφ]
      rcases List.mem_cons.1 hy with rfl | h
      · simp
      · rcases List.mem_append.1 h with h | h <;> simp [h]
    have hcb : ∀ y, y ∈ S5 → y ∉ β :: (S1 ++ S4) := by
      intro y h5 hy
      rcases List.mem_cons.1 hy with rfl | h
      · exact n1.1 (by simp [h5])
      · rcases List.mem_append.1 h with h | h
        · exact n2.2.2 y h y (by simp [h5]) rfl
        · exact n3.2.2 y h5 y h rfl
    intro x1 x2 y hx1 hx2 hne2 hy1 hy2
    replace hx1 : H x1 ≠ none := hx1
    replace hx2 : H x2 ≠ none := hx2
    replace hy1 : y ∈ (if x1 = c then S5 else if x1 = b then β :: (S1 ++ S4) else φ x1) := hy1
    replace hy2 : y ∈ (if x2 = c then S5 else if x2 = b then β :: (S1 ++ S4) else φ x2) := hy2
    by_cases a1 : x1 = c <;> by_cases a2 : x2 = c
    · exact hne2 (a1.trans a2.symm)
    · rw [if_pos a1] at hy1
      rw [if_neg a2] at hy2
      by_cases b2 : x2 = b
      · rw [if_pos b2] at hy2; exact hcb y hy1 hy2
      · rw [if_neg b2] at hy2
        rw [hl3 x2 a2 b2] at hx2
        exact hh.apart b x2 y hbn hx2 (Ne.symm b2) (hS5 y hy1) hy2
    · rw [if_neg a1] at hy1
      rw [if_pos a2] at hy2
      by_cases b1 : x1 = b
      · rw [if_pos b1] at hy1; exact hcb y hy2 hy1
      · rw [if_neg b1] at hy1
        rw [hl3 x1 a1 b1] at hx1
        exact hh.apart b x1 y hbn hx1 (Ne.symm b1) (hS5 y hy2) hy1
    · rw [if_neg a1] at hy1
      rw [if_neg a2] at hy2
      by_cases b1 : x1 = b <;> by_cases b2 : x2 = b
      · exact hne2 (b1.trans b2.symm)
      · rw [if_pos b1] at hy1
        rw [if_neg b2] at hy2
        rw [hl3 x2 a2 b2] at hx2
        exact hh.apart b x2 y hbn hx2 (Ne.symm b2) (hSb y hy1) hy2
      · rw [if_neg b1] at hy1
        rw [if_pos b2] at hy2
        rw [hl3 x1 a1 b1] at hx1
        exact hh.apart b x1 y hbn hx1 (Ne.symm b1) (hSb y hy2) hy1
      · rw [if_neg b1] at hy1
        rw [if_neg b2] at hy2
        rw [hl3 x1 a1 b1] at hx1
        rw [hl3 x2 a2 b2] at hx2
        exact hh.apart x1 x2 y hx1 hx2 hne2 hy1 hy2
  · refine ⟨fun x hx => U x (hs.ext.used x hx), fun x blk' hx hl' => ?_, fun x hx hF => ?_⟩
    · obtain ⟨y, g1, g2, g3, g4⟩ := O x blk' (hs.ext.used x hx) hl'
      obtain ⟨z, k1, k2, k3, k4⟩ := hs.ext.old x y hx g1
      exact ⟨z, k1, k2.trans g2, k3.trans g3, g4.trans k4⟩
    · obtain ⟨g1, g2⟩ := hs.ext.free x hx hF
      refine ⟨g1, fun b2 blk2 β2 c2 hb2 h2 e => ?_⟩
      replace hb2 : H b2 = some blk2 := hb2
      by_cases a1 : b2 = c
      · subst a1
        rw [hν1] at h2
        subst e
        exact C.tm (by rw [← hs.kp]; exact hT) β2 hx (hB1 β2 (by rw [hφ]; simp [(hn1 _ _ h2).2])) hF
      · rw [hν2 _ a1] at h2
        by_cases a2 : b2 = b
        · subst a2; exact g2 b2 blk β2 c2 hb h2 e
        · rw [hl3 b2 a1 a2] at hb2
          exact g2 b2 blk2 β2 c2 hb2 h2 e
end Go.Proofs.Ytjfcjkeghigipaa
end

section
set_option linter.unusedVariables false
set_option linter.unusedSimpArgs false
/-
  Arguments kept as they are (raw), so that marks may be written beside them; rows opened; regions op by op (2). No program stands in this text.
-/
namespace Go.Proofs.Ytjfcjkeghigipaa
open Go.RowKit
set_option linter.unusedVariables false

/-! ## raw arguments -/
/-- The value x is, as it stands, the data d in the memory that the call came into. -/
def Raw1 (κ : Kp) (x d : AV) : Prop := ∃ B W v S, κ.fx = some (B, W) ∧ x = .sc v ∧ RepD W d v S ∧ ∀ b ∈ S, b < B
def RawK (κ : Kp) : AV → AV → Prop
  | .agg xs, .agg ds => All2 (Raw1 κ) xs ds
  | x, d => Raw1 κ x d
theorem Raw1.rep {C : Ctx} {s : AState} {ν ν' : Nu} {a : Act} {w : World} {h : Hp} {u : Us} (hs : Sim C s ν a w) {κ : Kp} (hκ : s.kp = κ) {x d : AV} {v : Value} (r : Rep1 w h u ν' x v) (m : Raw1 κ x d) : ∃ S', RepD w d v S' := by
  obtain ⟨B, W, y, S, h1, rfl, h2, h3⟩ := m
  obtain ⟨e1, e2⟩ := C.fxp (B, W) (by rw [← hs.kp, hκ]; exact h1)
  have hb := hs.below
  rw [e1, e2] at hb
  rw [r.1]
  exact ⟨S, h2.keep fun b hm => hb.block b (h3 b hm)⟩
theorem RawK.rep {C : Ctx} {s : AState} {ν : Nu} {a : Act} {w : World} (hs : Sim C s ν a w) {κ : Kp} (hκ : s.kp = κ) {x d : AV} {v : Value} (r : RepA w s.heap s.used ν x v) (m : RawK κ x d) : ∃ S', RepD w d v S' := by
  by_cases ho : ∃ xs ds, x = .agg xs ∧ d = .agg ds
  · obtain ⟨xs, ds, rfl, rfl⟩ := ho
    obtain ⟨vs, rfl, r⟩ := r
    obtain ⟨S, h⟩ := views_rep (V := Raw1 κ) (fun x d v hr hm => hm.rep hs hκ hr) r m
    exact ⟨S, by simp only [RepD]; exact ⟨vs, rfl, h⟩⟩
  · have m' : Raw1 κ x d := by
      cases x <;> first | exact m | (cases d <;> first | exact m | exact absurd ⟨_, _, rfl, rfl⟩ ho)
    obtain ⟨B, W, y, S, h1, rfl, h2, h3⟩ := m'
    exact Raw1.rep (h := s.heap) (u := s.used) (ν' := ν) (x := .sc y) hs hκ (show Rep1 w s.heap s.used ν (.sc y) v from r) ⟨B, W, y, S, h1, rfl, h2, h3⟩
theorem raw1_d {κ : Kp} {W : World} {d : AV} {v : Value} {S : List Nat} (h : κ.fx = some (W.heap.size, W)) (r : RepD W d v S) : Raw1 κ (.sc v) d := ⟨_, W, v, S, h, rfl, r, r.lt⟩
theorem raw1_sc {κ : Kp} {W : World} {u : Value} (h : κ.fx = some (W.heap.size, W)) (o : u.oneCell' = true) : Raw1 κ (.sc u) (.sc u) := raw1_d h (repD_sc o)
theorem raw_d {κ : Kp} {W : World} {k : Nat} {es : List (List AV)} {v : Value} {S : List Nat} (h : κ.fx = some (W.heap.size, W)) (r : RepD W (.list k es) v S) : RawK κ (.sc v) (.list k es) := raw1_d h r
theorem raw_nil {κ : Kp} : RawK κ (.agg []) (.agg []) := rfl
theorem raw_cons {κ : Kp} {x d : AV} {xs ds : List AV} (a : Raw1 κ x d) (b : RawK κ (.agg xs) (.agg ds)) : RawK κ (.agg (x :: xs)) (.agg (d :: ds)) := ⟨d, ds, rfl, a, b⟩
def viewK (κ : Kp) (h : Hp) (x d : AV) : Prop := viewA h x d ∨ RawK κ x d
theorem vk_nil {κ : Kp} {h : Hp} : All2 (viewK κ h) [] [] := rfl
theorem vk_cons {κ : Kp} {h : Hp} {x d : AV} {xs ds : List AV} (a : viewK κ h x d) (b : All2 (viewK κ h) xs ds) : All2 (viewK κ h) (x :: xs) (d :: ds) := ⟨d, ds, rfl, a, b⟩

theorem views_repA {R : AV → Value → Prop} {V : AV → AV → Prop} {w : World} (hr : ∀ x d v, R x v → V x d → ∃ S', RepD w d v S') {xs ds : List AV} {vs : List Value} (r : All2 R xs vs) (m : All2 V xs ds) : ∃ S', RepVs w ds vs S' := views_rep hr r m

section
variable {P : Program} {dst : Option Tmp} {ty : TypeId} {pos : String} {aft : Array Edge} {g : Option (Nat × Bool)} {ins : Operand → Option AV} {hp : Hp} {κ : Kp}
theorem eff_callK {fo : Operand} {xs : Array Operand} {ats : Array TypeId} {f : FuncId} {avs ds : List AV} {r x : AV} {nb : List (Nat × Blk)} {ns ns' : List Nat} (hf : ins fo = some (.fn f [])) (hx : evs ins xs.toList = some avs) (hc : HasC P f ds r) (hv1 : All2 (viewK κ hp) avs ds) (hg : goodA r)
    (hi : impA ns r = (x, nb, ns')) (hfl : flatA x = true) (hn : ns.Nodup) :
    AEff P ⟨dst, .call ⟨.value fo, xs, ats⟩, ty, pos, aft, g⟩ ins hp κ ⟨x, avs.flatMap (touchA hp), editsOf nb, nb.map (·.1)⟩ := by
  refine ⟨fun C s ν a w Q K {hκ} hi' ht hnw hd hs hK => ?_⟩
  have h1 := hs.ev ((hi' fo (by simp [Op.operands, Call.operands])).trans hf)
  simp only [RepA, RepB] at h1
  obtain ⟨cv, h1, h2⟩ := h1
  simp only [All2] at h2
  subst h2
  obtain ⟨φ, hh⟩ := hs.heap
  have h3 := evs_rep hs (xs := xs.toList) (fun y hy => hi' y (by simp [Op.operands, Call.operands]; exact .inr (Array.mem_toList_iff.1 hy))) hx
  have hv1' : All2 (viewK κ s.heap) avs ds := hv1.congrM fun y hy d hd => hd.elim (fun hd => .inl (hd.congr fun b hb => ht b (List.mem_flatMap.2 ⟨y, hy, hb⟩))) .inr
  obtain ⟨S1, e1⟩ := views_repA (V := viewK κ s.heap) (fun x d v hr hv => hv.elim (fun hv => viewA.rep hh hr hv) (fun hv => hv.rep hs hκ hr)) h3 hv1'
  have hcall := hc.calls w (xs.map a.eval) S1 (by simpa using e1)
  unfold Oper.wp
  have hex : (execOp a.eval ⟨dst, .call ⟨.value fo, xs, ats⟩, ty, pos, aft, g⟩).run P w = .ok (.enter f (xs.map a.eval)) w := by
    have : execOp a.eval ⟨dst, .call ⟨.value fo, xs, ats⟩, ty, pos, aft, g⟩ = callFunc f (xs.map a.eval) := by
      simp [execOp, resolve, h1, Deferred.ofValue, invoke]
    rw [this]
    exact hc.enters _ _
  rw [hex]
  simp only [Oper.upon]
  refine hcall.mono fun e w' ⟨v, S', he, hb, hr, hnew⟩ => ?_
  subst he
  simp only
  obtain ⟨g1, X, Sf, g2, g3⟩ := impA_ok (w := w) hi hfl hr hg hnew.1 hn
  have hnn : (nb.map (·.1)).Nodup := by rw [g1] at hn; exact (List.nodup_append.1 hn).1
  obtain ⟨ν', hs'⟩ := hs.call hd hb g2 hnew hnn (fun b hb => hnw b hb) g3 (touch := avs.flatMap (touchA hp))
  exact hK ν' _ _ hs'
end
section
variable {P : Program} {dst : Option Tmp} {ty : TypeId} {pos : String} {aft : Array Edge} {g : Option (Nat × Bool)} {s : AState}
theorem w_call0sK {f : FuncId} {xs : Array Operand} {ats : Array TypeId} {avs ds : List AV} {u : Value} (hc : HasC P f ds (.sc u)) (hx : evs s.ev xs.toList = some avs) (hv1 : All2 (viewK s.kp s.heap) avs ds) :
    AEff P ⟨dst, .call ⟨.value (.func f), xs, ats⟩, ty, pos, aft, g⟩ s.ev s.heap s.kp ⟨.sc u, avs.flatMap (touchA s.heap), [], []⟩ :=
  eff_callK (ns := []) (nb := []) (r := .sc u) (x := .sc u) rfl hx hc hv1 trivial (impA_sc [] u) rfl (by simp)
theorem w_call0K {f : FuncId} {xs : Array Operand} {ats : Array TypeId} {avs ds : List AV} {r x : AV} {nb : List (Nat × Blk)} {ns' : List Nat} (hc : HasC P f ds r) (hx : evs s.ev xs.toList = some avs) (hi : impA s.ns r = (x, nb, ns')) (hfl : flatA x = true) (hn : nodupB s.ns = true) (hg : goodA r) (hv1 : All2 (viewK s.kp s.heap) avs ds) :
    AEff P ⟨dst, .call ⟨.value (.func f), xs, ats⟩, ty, pos, aft, g⟩ s.ev s.heap s.kp ⟨x, avs.flatMap (touchA s.heap), editsOf nb, nb.map (·.1)⟩ :=
  eff_callK rfl hx hc hv1 hg hi hfl (nodupB_ok hn)
end

/-! ## a function whose arguments stay raw -/
def RawC (w : World) : List AV → (List AV → Prop) → Prop
  | [], K => K []
  | .sc u :: cs, K => RawC w cs (fun xs => K (.sc u :: xs))
  | d :: cs, K => ∀ v S, RepD w d v S → RawC w cs (fun xs => K (.sc v :: xs))
def RawEnv (w : World) : List AV → (List AV → Prop) → Prop
  | [], K => K []
  | .sc u :: ds, K => RawEnv w ds (fun xs => K (.sc u :: xs))
  | .agg cs :: ds, K => RawC w cs (fun xs => RawEnv w ds (fun ys => K (.agg xs :: ys)))
  | d :: ds, K => ∀ v S, RepD w d v S → RawEnv w ds (fun xs => K (.sc v :: xs))
theorem rawC_nil {w : World} {K : List AV → Prop} (h : K []) : RawC w [] K := h
theorem rawC_sc {w : World} {u : Value} {cs : List AV} {K : List AV → Prop} (h : RawC w cs (fun xs => K (.sc u :: xs))) : RawC w (.sc u :: cs) K := h
theorem rawC_d {w : World} {k : Nat} {es : List (List AV)} {cs : List AV} {K : List AV → Prop} (h : ∀ v S, RepD w (.list k es) v S → RawC w cs (fun xs => K (.sc v :: xs))) : RawC w (.list k es :: cs) K := h
theorem rawE_nil {w : World} {K : List AV → Prop} (h : K []) : RawEnv w [] K := h
theorem rawE_sc {w : World} {u : Value} {cs : List AV} {K : List AV → Prop} (h : RawEnv w cs (fun xs => K (.sc u :: xs))) : RawEnv w (.sc u :: cs) K := h
theorem rawE_agg {w : World} {xs cs : List AV} {K : List AV → Prop} (h : RawC w xs (fun xs => RawEnv w cs (fun ys => K (.agg xs :: ys)))) : RawEnv w (.agg xs :: cs) K := h
theorem rawE_d {w : World} {k : Nat} {es : List (List AV)} {cs : List AV} {K : List AV → Prop} (h : ∀ v S, RepD w (.list k es) v S → RawEnv w cs (fun xs => K (.sc v :: xs))) : RawEnv w (.list k es :: cs) K := h
/-- The kinds of arguments that may stay raw. -/
def rawOk : AV → Bool
  | .sc u => u.oneCell'
  | .agg cs => cs.all cellB
  | .list _ _ => true
  | _ => false
theorem repD_one {w : World} {d : AV} {v : Value} {S : List Nat} (r : RepD w d v S) (ok : cellB d = true) : v.oneCell' = true := by
  cases d <;> simp only [cellB, Bool.false_eq_true] at ok <;> simp only [RepD] at r
  · rw [r.1]; exact ok
  · obtain ⟨a, c, rfl, _⟩ := r; rfl
theorem rawC_ok {w : World} : ∀ {cs : List AV} {us : List Value} {S : List Nat} {K : List AV → Prop}, RepVs w cs us S → cs.all cellB = true → RawC w cs K → ∃ xs, K xs ∧ ∀ (w' : World) (h : Hp) (u : Us) (ν : Nu), All2 (Rep1 w' h u ν) xs us
  | [], us, S, K, r, _, k => by simp only [RepVs] at r; obtain ⟨rfl, _⟩ := r; exact ⟨[], k, fun _ _ _ _ => rfl⟩
  | c :: cs, us, S, K, r, ok, k => by
    simp only [RepVs] at r
    obtain ⟨v, q, S1, S2, rfl, rfl, h3, h4⟩ := r
    simp only [List.all_cons, Bool.and_eq_true] at ok
    have key : ∀ x, RawC w cs (fun xs => K (x :: xs)) → x = .sc v → ∃ xs, K xs ∧ ∀ (w' : World) (h : Hp) (u : Us) (ν : Nu), All2 (Rep1 w' h u ν) xs (v :: q) := by
      rintro x k1 rfl
      obtain ⟨xs, g1, g2⟩ := rawC_ok h4 ok.2 k1
      exact ⟨.sc v :: xs, g1, fun w' h u ν => ⟨v, q, rfl, ⟨rfl, repD_one h3 ok.1⟩, g2 w' h u ν⟩⟩
    cases c <;> simp only [cellB, Bool.false_eq_true, false_and] at ok
    · simp only [RepD] at h3
      exact key _ k (by rw [h3.1])
    · exact key _ (k v S1 h3) rfl
theorem rawEnv_ok {w : World} : ∀ {ds : List AV} {vs : List Value} {S : List Nat} {K : List AV → Prop}, RepVs w ds vs S → ds.all rawOk = true → RawEnv w ds K → ∃ xs, K xs ∧ xs.length = ds.length ∧ ∀ (h : Hp) (u : Us) (ν : Nu), All2 (RepA w h u ν) xs vs
  | [], vs, S, K, r, _, k => by simp only [RepVs] at r; obtain ⟨rfl, _⟩ := r; exact ⟨[], k, rfl, fun _ _ _ => rfl⟩
  | d :: ds, vs, S, K, r, ok, k => by
    simp only [RepVs] at r
    obtain ⟨v, q, S1, S2, rfl, rfl, h3, h4⟩ := r
    simp only [List.all_cons, Bool.and_eq_true] at ok
    have key : ∀ x, RawEnv w ds (fun xs => K (x :: xs)) → (∀ (h : Hp) (u : Us) (ν : Nu), RepA w h u ν x v) → ∃ xs, K xs ∧ xs.length = (d :: ds).length ∧ ∀ (h : Hp) (u : Us) (ν : Nu), All2 (RepA w h u ν) xs (v :: q) := by
      intro x k1 hx
      obtain ⟨xs, g1, g2, g3⟩ := rawEnv_ok h4 ok.2 k1
      exact ⟨x :: xs, g1, by simp [g2], fun h u ν => ⟨v, q, rfl, hx h u ν, g3 h u ν⟩⟩
    cases d <;> simp only [rawOk, Bool.false_eq_true, false_and] at ok
    · simp only [RepD] at h3
      exact key _ k fun h u ν => by simp only [RepA, RepB, Rep1]; exact ⟨h3.1, h3.2.1⟩
    · exact key _ (k v S1 h3) fun h u ν => (show Rep1 w h u ν (.sc v) v from ⟨rfl, repD_one h3 rfl⟩)
    · have h3' := h3
      simp only [RepD] at h3'
      obtain ⟨us, rfl, h5⟩ := h3'
      obtain ⟨xs, g1, g2⟩ := rawC_ok h5 ok.1 k
      exact key _ g1 fun h u ν => by simp only [RepA, RepB]; exact ⟨us, rfl, g2 w h u ν⟩
theorem hasC_mkW {P : Program} {T : List (Nat × Ty)} (hT : TyOk P T) {f : FuncId} {fn : Func} {c : Code} {nt : Nat} {ds : List AV} {r : AV} {rvs : List ResultVar} {ns : List Nat} (hf : P.funcs[f]? = some fn) (hb : fn.body = some c) (hname : (fn.name == "runtime.NumGoroutine") = false) (hnt : fn.ntmps = nt) (hres : fn.results.toList = rvs)
    (hlen : Nat.ble ds.length nt = true) (hok : ds.all rawOk = true) (h : ∀ W : World, RawEnv W ds fun xs => AC P nt c ⟨nthA xs, hpL [], ltb 0, ns, ⟨0, true, some (W.heap.size, W)⟩⟩ (RetQ T rvs r)) : HasC P f ds r := by
  refine ⟨Enters.mk hf (by rw [hb]; rfl) hname, fun w args S hargs => ?_⟩
  refine calls_of_wp hf hb ?_
  have hlen' := Nat.le_of_ble_eq_true hlen
  have hal : args.size = ds.length := by have := hargs.len; simpa using this
  obtain ⟨xs, hac, hxl, hxr⟩ := rawEnv_ok hargs hok (h w)
  let C : Ctx := ⟨w.heap.size, w, nt, fun x => w.heap.size ≤ x, fun _ h => h, ⟨0, true, some (w.heap.size, w)⟩, w, hpL [], fun _ => none, fun x => x < w.heap.size, fun _ x hx hm => absurd hx (Nat.not_lt.2 hm), fun p h => by cases h; exact ⟨rfl, rfl⟩⟩
  have hfr : ∀ x, Free (hpL []) (fun _ => none) x := fun x b blk β c hb => by cases hb
  have hsim : Sim C ⟨nthA xs, hpL [], ltb 0, ns, ⟨0, true, some (w.heap.size, w)⟩⟩ (fun _ => none) ⟨args ++ Array.replicate (fn.ntmps - args.size) undef, []⟩ w := by
    refine ⟨Below.refl _ _, Nat.le_refl _, fun _ hx => hx, rfl, by show (args ++ Array.replicate (fn.ntmps - args.size) undef).size = nt; simp [hnt]; omega, ?_, ⟨fun _ => [], fun b blk hb => (by cases hb), fun b c x hb => absurd rfl hb⟩, rfl, ExtF.refl fun x _ _ => hfr x⟩
    intro t x hx
    have hx' : xs[t]? = some x := by rw [← nthA_get]; exact hx
    obtain ⟨v, h1, h2⟩ := (hxr (hpL []) (ltb 0) (fun _ => none)).get hx'
    refine ⟨v, ?_, h2⟩
    have hlt : t < args.size := by
      rcases Nat.lt_or_ge t args.size with h' | h'
      · exact h'
      · rw [List.getElem?_eq_none (by simpa using h')] at h1; cases h1
    show (args ++ Array.replicate (fn.ntmps - args.size) undef)[t]? = some v
    rw [Array.getElem?_append_left hlt]
    simpa using h1
  refine wp_mono (hac.out C rfl _ _ w hsim) fun e a' w' ⟨s', ν', hq, hs'⟩ => ?_
  obtain ⟨he, avs, hv, hn, hfz⟩ := hq
  obtain ⟨us, h1, h2⟩ := resVars_run hT hs' hv
  obtain ⟨φ, hh⟩ := hs'.heap
  have hn' := nodupB_ok hn
  have hrun : (results fn a'.tmps).run P w' = .ok (if hh : us.toArray.size = 1 then us.toArray[0] else .tuple us.toArray) w' := by
    unfold results
    rw [Sem.run_bind, Array.mapM_eq_mapM_toList, Sem.run_map, hres]
    have h1' := h1
    generalize hq : (List.mapM _ rvs : Sem (List Value)) = m
    rw [show Sem.run P m w' = .ok us w' by rw [← hq]; exact h1']
    simp
  have hres2 : ∃ S', ResA w' r (if hh : us.toArray.size = 1 then us.toArray[0] else .tuple us.toArray) S' ∧ New w.heap.size S' := by
    have hul : us.length = avs.length := h2.len
    unfold frzs at hfz
    split at hfz
    · rename_i v r'
      obtain ⟨u, q, rfl, g1, g2⟩ := h2
      simp only [All2] at g2
      subst g2
      simp only [List.flatMap_cons, List.flatMap_nil, List.append_nil] at hn'
      obtain ⟨S', a1, a2, a3, a4⟩ := frzB_rep hh g1 hfz.1 hn'
      refine ⟨S', ?_, a2, a3⟩
      simp only [List.size_toArray, List.length_cons, List.length_nil, Nat.zero_add, dite_true]
      have hnt := hfz.2
      cases r <;> first | exact a1 | exact absurd rfl (hnt _)
    · rename_i vs rs _
      obtain ⟨S', a1, a2, a3, a4⟩ := frzBs_rep hh h2 hfz.2 hn'
      refine ⟨S', ?_, a2, a3⟩
      rw [dif_neg (by simp; rw [hul]; exact hfz.1)]
      exact ⟨us, rfl, a1⟩
    · exact hfz.elim
  obtain ⟨S', hr1, hr2⟩ := hres2
  have hend : bodyPost P fn (fun e w' => ∃ v S', e = .returned v ∧ Below w.heap.size w w' ∧ ResA w' r v S' ∧ New w.heap.size S') .ret a' w' := ⟨hs'.defers, _, hrun, _, S', rfl, hs'.below, hr1, hr2⟩
  cases e <;> simp only [isEnd, Bool.false_eq_true] at he <;> exact hend

/-! ## no data: literal states -/
def dfE : List (Nat × AV) → Prop
  | [] => True
  | (_, x) :: r => dfA x = true ∧ dfE r
theorem dfE_ok : ∀ {l : List (Nat × AV)}, dfE l → ∀ t x, envL l t = some x → dfA x = true
  | [], _, t, x, h => by cases h
  | (k, v) :: r, ⟨h1, h2⟩, t, x, h => by
    simp only [envL] at h
    cases hb : Nat.beq t k with
    | true => rw [hb] at h; cases h; exact h1
    | false => rw [hb] at h; exact dfE_ok h2 t x h
def dfR (y : Blk) : Prop := ∀ cs ∈ y.es, ∀ c ∈ cs, dfC c = true
def dfH (skip : List Nat) : List (Nat × Blk) → Prop
  | [] => True
  | (b, y) :: r => (b ∈ skip ∨ dfR y) ∧ dfH skip r
theorem dfH_ok {skip : List Nat} : ∀ {l : List (Nat × Blk)}, dfH skip l → ∀ b blk, hpL l b = some blk → b ∉ skip → ∀ cs ∈ blk.es, ∀ c ∈ cs, dfC c = true
  | [], _, b, x, h => by cases h
  | (k, v) :: r, ⟨h1, h2⟩, b, x, h => by
    simp only [hpL] at h
    by_cases e : b = k
    · subst e
      rw [beq_self] at h
      cases h
      intro hn
      exact h1.elim (fun h => absurd h hn) id
    · rw [beq_ne e] at h
      exact dfH_ok h2 b x h
theorem EOk.df {α : Type} {k : Nat} {e : α → List AV} (E : EOk k e) (k' : Nat) (l : List α) : dfR ⟨k', l.map (ow e)⟩ := by
  intro cs hcs c hc
  obtain ⟨x, _, rfl⟩ := List.mem_map.1 hcs
  obtain ⟨d, hd, rfl⟩ := List.mem_map.1 hc
  have := E.mem x d hd
  cases d <;> simp only [cellB, Bool.false_eq_true] at this <;> rfl
theorem EOk.dfS {α : Type} {k : Nat} {e : α → List AV} (E : EOk k e) (k' : Nat) (l : List α) (i : Nat) {c : List AV} (h : c.all dfC = true) : dfR ⟨k', (l.map (ow e)).set i c⟩ := by
  intro cs hcs d hd
  rcases List.mem_or_eq_of_mem_set hcs with h1 | rfl
  · exact E.df k' l cs h1 d hd
  · exact List.all_eq_true.1 h d hd
theorem df_lit {k : Nat} {es : List (List AV)} (h : (es.all fun cs => cs.all dfC) = true) : dfR ⟨k, es⟩ := fun cs hcs c hc => List.all_eq_true.1 (List.all_eq_true.1 h cs hcs) c hc

/-! ## a row is opened -/
theorem open_row {α : Type} {e : α → List AV} {l : List α} {i : Nat} {v : α} (h : l[i]? = some v) : l.map (ow e) = (l.map (ow e)).set i (ow e v) := by
  rw [← List.map_set]
  congr 1
  refine List.ext_getElem? fun j => ?_
  rw [List.getElem?_set]
  by_cases e : i = j
  · subst e
    have : i < l.length := by
      rcases Nat.lt_or_ge i l.length with h' | h'
      · exact h'
      · rw [List.getElem?_eq_none h'] at h; cases h
    rw [if_pos rfl, if_pos this, h]
  · rw [if_neg e]
theorem set_plain {α : Type} {k : Nat} {e : α → List AV} (E : EOk k e) {l : List α} {i : Nat} {c : List AV} (h : c.all nameless = true) : plainEs ((l.map (ow e)).set i c) := by
  intro cs hcs d hd
  rcases List.mem_or_eq_of_mem_set hcs with h1 | rfl
  · exact E.plainO l cs h1 d hd
  · exact List.all_eq_true.1 h d hd
theorem ent_openS {s : AState} {b c i j k k' n : Nat} {A es' fs : List (List AV)} {cs : List AV} (hi : i < A.length) (hT : s.kp.T = true) (hb : s.heap b = some ⟨k, A.set i cs⟩) (hj : cs[j]? = some (.abs k' es')) (hc : s.used c = false) (hn : es'.length = n) (hfs : absEs es' = fs) (hdf : ∀ t x, s.env t = some x → dfA x = true) (hdc : ∀ b blk, s.heap b = some blk → b ∉ ([] : List Nat) → ∀ cs ∈ blk.es, ∀ c ∈ cs, dfC c = true) :
    Ent s ⟨s.env, editHp [(c, some ⟨k', fs⟩), (b, some ⟨k, A.set i (setR cs j [.own c 0 n])⟩)] s.heap, addUs [c] s.used, s.ns, s.kp⟩ := by
  subst hn hfs
  have hjl : j < cs.length := by
    rcases Nat.lt_or_ge j cs.length with h' | h'
    · exact h'
    · rw [List.getElem?_eq_none h'] at hj; cases hj
  have h := ent_open (c := c) hT hb (i := i) (cs := cs) (by simp [hi]) hj hc hdf (fun b blk hb => hdc b blk hb (by simp))
  have e := setR_eq (cs := cs) (j := j) (vs := [.own c 0 es'.length]) (by simp; omega)
  simp only [List.length_singleton] at e
  rw [e] at h
  simp only [List.set_set] at h
  exact h
/-- A store into a part of an opened row. -/
theorem x_storeS {P : Program} {T : List (Nat × Ty)} {dst : Option Tmp} {ty : TypeId} {pos : String} {aft : Array Edge} {g : Option (Nat × Bool)} {s : AState} (hT : TyOk P T) {t : TypeId} {y : Ty} {x z : Operand} {val : AV} {b i j kk : Nat} {A : List (List AV)} {cs : List AV} (hi : i < A.length) (hx : s.ev x = some (.ptr b i j)) (hb : s.heap b = some ⟨kk, A.set i cs⟩) (hz : s.ev z = some val) (hy : tyOf T t = some y) (hsz : Nat.beq (cellsOf val).length y.size = true) (ok : (cellsOf val).all (okCell s.heap) = true) (hn : Nat.ble (j + y.size) cs.length = true) :
    AEff P ⟨dst, .store t x z, ty, pos, aft, g⟩ s.ev s.heap s.kp ⟨.dead, b :: namesOf (cellsOf val), [(b, some ⟨kk, A.set i (setR cs j (cellsOf val))⟩)], []⟩ := by
  have h := w_store (P := P) hT (dst := dst) (ty := ty) (pos := pos) (aft := aft) (g := g) hx hb hz hy hsz ok (i := i) (cs := cs) (by simp [hi]) hn
  rw [List.set_set] at h
  exact h

theorem x_srcP {α : Type} {k : Nat} {e : α → List AV} {hp : Hp} {b i n : Nat} {l : List α} (E : EOk k e) (hb : hp b = some ⟨k, l.map (ow e)⟩) : srcEls hp (.own b i n) = some (k, ((l.drop i).take n).map e, [b]) := by
  simp only [srcEls, hb, ← List.map_drop, ← List.map_take]
  rw [x_seen E]

/-! ## regions op by op (2) -/
section
variable {P : Program} {ops : Array Oper} {nt : Nat} {l : List Oper} {s : AState} {K : AState → Prop}
theorem sops_lit {t u : Bool} (i : Nat) (hi : s.env i = some (.sc (.bool t))) (q : t = u) (h : SOps P ops nt l ⟨upd (some i) (.sc (.bool u)) s.env, s.heap, s.used, s.ns, s.kp⟩ K) : SOps P ops nt l s K := by
  subst q
  rw [upd_same hi] at h
  exact h
theorem sops_skip {d : Option Tmp} {op : Op} {ty : TypeId} {pos : String} {aft : Array Edge} {g : Option (Nat × Bool)} (hg : wantedA ops s.env ⟨d, op, ty, pos, aft, g⟩ = some false) (hd : dstB ⟨d, op, ty, pos, aft, g⟩ nt = true) (h : SOps P ops nt l ⟨upd d .dead s.env, s.heap, s.used, s.ns, s.kp⟩ K) : SOps P ops nt (⟨d, op, ty, pos, aft, g⟩ :: l) s K := ⟨fun C hC ν a w hs Q hQ => by
  subst hC
  refine wpList_step fun K' hK' => ?_
  have hst : Step P ops C.nt ⟨d, op, ty, pos, aft, g⟩ s deadEff := ⟨dstB_ok hd, .inr ⟨hg, rfl⟩⟩
  exact step_sound hst hs fun ν' a' w' hs' => hK' _ _ (h.out C rfl ν' a' w' hs' Q hQ)⟩
end
end Go.Proofs.Ytjfcjkeghigipaa
end

section
set_option linter.unusedVariables false
set_option linter.unusedSimpArgs false
/-
  Models and contracts of functions, made by the extractor (ex.py).
-/
namespace Go.Proofs.Ytjfcjkeghigipaa
open Go.RowKit
set_option linter.unusedVariables false
set_option linter.unusedSimpArgs false
set_option maxRecDepth 10000
set_option maxHeartbeats 4000000

noncomputable def m_spec_StarOf_L1 (a0 : Int) (x1 : ((List Int) × (List Int) × Int)) : Option (((List Int) × (List Int) × Int) ⊕ ((List Int) × (List Int))) :=
  bif decide (x1.2.2 < a0) then
    (bif decide (x1.1.length + [x1.2.2].length ≤ 4294967296) then
      (bif decide (x1.2.1.length + [a0].length ≤ 4294967296) then
        (some (.inl ((x1.1 ++ [x1.2.2]), (x1.2.1 ++ [a0]), wr (x1.2.2 + 1))))
      else none)
    else none)
  else
    (some (.inr (x1.1, x1.2.1)))

noncomputable def m_spec_StarOf (a0 : Int) : Option (Qv × Bool) :=
  Option.bind (m_spec_l1In a0 1 4) fun v1 =>
  bif !v1 then
    (some (((⟨0, [], []⟩ : Qv), false)))
  else
    (Option.bind (Lp (m_spec_StarOf_L1 a0) (([] : (List Int)), ([] : (List Int)), 0)) fun y6 =>
    some (((⟨wr (a0 + 1), y6.1, y6.2⟩ : Qv), true)))

theorem c_spec_StarOf (a0 : Int) (r : (Qv × Bool)) (h : m_spec_StarOf a0 = some r) : HasC Try.prog 47 [.int a0] (.tuple [.agg (eQ r.1), .bl r.2]) := by
  refine hasC_mk TT_ok (rvs := [.cell 2 30, .tmp 3]) (ns := [0, 1, 2, 3, 4, 5, 6, 7, 8, 9, 10, 11, 12, 13]) Try.func47 rfl rfl Try.ntmps47 rfl rfl rfl ?_
  refine ac_seq ?_
  refine ac_region ?_
  refine aops_eff (w_alloc TT_ok rfl rfl) rfl rfl rfl ?_
  refine aops_eff (eff_assign rfl) rfl rfl rfl ?_
  refine aops_nil ?_
  refine then_n ?_
  refine ac_seq ?_
  refine ac_seq ?_
  refine ac_region ?_
  refine aops_eff (eff_move rfl) rfl rfl rfl ?_
  obtain ⟨v1, hv1, h⟩ := ob h
  refine aops_eff (w_call0s (c_spec_l1In a0 1 4 v1 hv1) rfl (va_cons (va_same rfl) (va_cons (va_same rfl) (va_cons (va_same rfl) va_nil)))) rfl rfl rfl ?_
  refine aops_eff (w_not rfl) rfl rfl rfl ?_
  refine aops_nil ?_
  refine then_n ?_
  rcases cb h with ⟨q2, h⟩ | ⟨q2, h⟩
  · refine ac_condT rfl q2 ?_
    refine ac_seq ?_
    refine ac_region ?_
    refine aops_eff (w_build TT_ok rfl rfl rfl rfl rfl rfl) rfl rfl rfl ?_
    refine aops_eff (w_store TT_ok rfl rfl rfl rfl rfl rfl rfl rfl) rfl rfl rfl ?_
    refine aops_eff (eff_assign rfl) rfl rfl rfl ?_
    refine aops_nil ?_
    refine then_n ?_
    refine ac_ret ?_
    refine then_ret ?_
    obtain rfl := so h
    exact ret_mk rfl rfl rfl (xz_tuple rfl (xB_cons (xB_agg (x1_cons (rfl) (x1_cons (rfl) (x1_cons (rfl) x1_nil)))) (xB_cons (rfl) xB_nil)))
  · refine ac_condF rfl q2 ?_
    refine ac_skip ?_
    refine then_n ?_
    refine ac_seq ?_
    refine ac_region ?_
    refine aops_eff (eff_move rfl) rfl rfl rfl ?_
    refine aops_eff (x_add rfl rfl) rfl rfl rfl ?_
    refine aops_eff (w_lit TT_ok rfl rfl rfl rfl rfl rfl rfl rfl rfl rfl rfl rfl) rfl rfl rfl ?_
    refine aops_eff (w_lit TT_ok rfl rfl rfl rfl rfl rfl rfl rfl rfl rfl rfl rfl) rfl rfl rfl ?_
    refine aops_eff (w_build TT_ok rfl rfl rfl rfl rfl rfl) rfl rfl rfl ?_
    refine aops_eff (w_alloc TT_ok rfl rfl) rfl rfl rfl ?_
    refine aops_eff (w_store TT_ok rfl rfl rfl rfl rfl rfl rfl rfl) rfl rfl rfl ?_
    refine aops_nil ?_
    refine then_n ?_
    refine ac_ent (t := mkS [(0, .int a0), (2, .ptr 0 0 0), (4, .ptr 3 0 0)] [(0, ⟨3, [[.int 0, .nil 1, .nil 1]]⟩), (1, ⟨1, List.map (ow eI) ([] : (List Int))⟩), (2, ⟨1, List.map (ow eI) ([] : (List Int))⟩), (3, ⟨3, [[.int (wr (a0 + 1)), .own 1 0 (([] : (List Int)).length), .own 2 0 (([] : (List Int)).length)]]⟩)] 4 [4, 5, 6, 7, 8, 9, 10, 11, 12, 13, 14, 15, 16, 17]) (ent_mk (σ := sg [(0, 0), (1, 1), (2, 2), (3, 3)]) ⟨⟨_, rfl, rfl⟩, ⟨_, rfl, ⟨rfl, rfl, rfl, rfl⟩⟩, ⟨_, rfl, ⟨rfl, rfl, rfl, rfl⟩⟩, trivial⟩ ⟨⟨_, rfl, rfl, .inl ⟨rfl, plain_of rfl⟩⟩, rfl, ⟨_, rfl, rfl, .inl ⟨rfl, okI.plainO _⟩⟩, rfl, ⟨_, rfl, rfl, .inl ⟨rfl, okI.plainO _⟩⟩, rfl, ⟨_, rfl, rfl, .inr ⟨_, _, rfl, ⟨_, _, rfl, rfl, ⟨_, _, rfl, ⟨rfl, rfl, (by simp only [len_map, List.length_append, List.length_set, List.length_replicate, List.length_cons, List.length_nil]), rfl⟩, ⟨_, _, rfl, ⟨rfl, rfl, (by simp only [len_map, List.length_append, List.length_set, List.length_replicate, List.length_cons, List.length_nil]), rfl⟩, rfl⟩⟩⟩, rfl⟩⟩, rfl, trivial⟩ rfl) ?_
    refine ac_seq ?_
    refine ac_seq ?_
    refine ac_region ?_
    refine aops_eff (eff_assign rfl) rfl rfl rfl ?_
    refine aops_nil ?_
    refine then_n ?_
    refine ac_block ?_
    obtain ⟨y6, hy6, h⟩ := ob h
    refine ac_Lp (body := (m_spec_StarOf_L1 a0)) hy6 (fun (x1 : ((List Int) × (List Int) × Int)) => mkS [(0, .int a0), (2, .ptr 0 0 0), (4, .ptr 1 0 0), (5, .int x1.2.2)] [(0, ⟨3, [[.int 0, .nil 1, .nil 1]]⟩), (1, ⟨3, [[.int (wr (a0 + 1)), .own 2 0 x1.1.length, .own 3 0 x1.2.1.length]]⟩), (2, ⟨1, List.map (ow eI) x1.1⟩), (3, ⟨1, List.map (ow eI) x1.2.1⟩)] 4 [4, 5, 6, 7, 8, 9, 10, 11, 12, 13, 14, 15, 16, 17]) (fun r e t => e = .exit 0 ∧ Ent t (mkS [(2, .ptr 0 0 0), (4, .ptr 1 0 0)] [(0, ⟨3, [[.int 0, .nil 1, .nil 1]]⟩), (1, ⟨3, [[.int (wr (a0 + 1)), .own 2 0 r.1.length, .own 3 0 r.2.length]]⟩), (2, ⟨1, List.map (ow eI) r.1⟩), (3, ⟨1, List.map (ow eI) r.2⟩)] 4 [4, 5, 6, 7, 8, 9, 10, 11, 12, 13, 14, 15, 16, 17])) (ent_mk (σ := sg [(0, 0), (1, 3), (2, 1), (3, 2)]) ⟨⟨_, rfl, rfl⟩, ⟨_, rfl, ⟨rfl, rfl, rfl, rfl⟩⟩, ⟨_, rfl, ⟨rfl, rfl, rfl, rfl⟩⟩, ⟨_, rfl, rfl⟩, trivial⟩ ⟨⟨_, rfl, rfl, .inl ⟨rfl, plain_of rfl⟩⟩, rfl, ⟨_, rfl, rfl, .inr ⟨_, _, rfl, ⟨_, _, rfl, rfl, ⟨_, _, rfl, ⟨rfl, rfl, rfl, rfl⟩, ⟨_, _, rfl, ⟨rfl, rfl, rfl, rfl⟩, rfl⟩⟩⟩, rfl⟩⟩, rfl, ⟨_, rfl, rfl, .inl ⟨rfl, okI.plainO _⟩⟩, rfl, ⟨_, rfl, rfl, .inl ⟨rfl, okI.plainO _⟩⟩, rfl, trivial⟩ rfl) ?_ ?_
    · intro x1 o h
      refine ac_seq ?_
      refine ac_seq ?_
      refine ac_region ?_
      refine aops_eff (eff_move rfl) rfl rfl rfl ?_
      refine aops_eff (eff_move rfl) rfl rfl rfl ?_
      refine aops_eff (w_cmp rfl rfl rfl) rfl rfl rfl ?_
      refine aops_nil ?_
      refine then_n ?_
      rcases cb h with ⟨q3, h⟩ | ⟨q3, h⟩
      · refine ac_condT rfl q3 ?_
        refine ac_skip ?_
        refine then_n ?_
        refine ac_seq ?_
        refine ac_block ?_
        refine ac_seq ?_
        refine ac_region ?_
        refine aops_eff (w_field_ptr TT_ok rfl rfl rfl rfl rfl rfl rfl) rfl rfl rfl ?_
        refine aops_eff (w_load_ptr TT_ok rfl rfl rfl rfl rfl rfl rfl) rfl rfl rfl ?_
        refine aops_eff (eff_move rfl) rfl rfl rfl ?_
        refine aops_eff (w_lit TT_ok rfl rfl rfl rfl rfl rfl rfl rfl rfl rfl rfl rfl) rfl rfl rfl ?_
        obtain ⟨q4, h⟩ := cg h
        refine aops_eff (x_app TT_ok (l := x1.1) (m := [x1.2.2]) okIo q4 rfl rfl rfl rfl rfl rfl rfl rfl rfl rfl rfl rfl) rfl rfl rfl ?_
        refine aops_eff (w_field_ptr TT_ok rfl rfl rfl rfl rfl rfl rfl) rfl rfl rfl ?_
        refine aops_eff (w_store TT_ok rfl rfl rfl rfl rfl rfl rfl rfl) rfl rfl rfl ?_
        refine aops_nil ?_
        refine then_n ?_
        refine ac_region ?_
        refine aops_eff (w_field_ptr TT_ok rfl rfl rfl rfl rfl rfl rfl) rfl rfl rfl ?_
        refine aops_eff (w_load_ptr TT_ok rfl rfl rfl rfl rfl rfl rfl) rfl rfl rfl ?_
        refine aops_eff (eff_move rfl) rfl rfl rfl ?_
        refine aops_eff (w_lit TT_ok rfl rfl rfl rfl rfl rfl rfl rfl rfl rfl rfl rfl) rfl rfl rfl ?_
        obtain ⟨q5, h⟩ := cg h
        refine aops_eff (x_app TT_ok (l := x1.2.1) (m := [a0]) okIo q5 rfl rfl rfl rfl rfl rfl rfl rfl rfl rfl rfl rfl) rfl rfl rfl ?_
        refine aops_eff (w_field_ptr TT_ok rfl rfl rfl rfl rfl rfl rfl) rfl rfl rfl ?_
        refine aops_eff (w_store TT_ok rfl rfl rfl rfl rfl rfl rfl rfl) rfl rfl rfl ?_
        refine aops_nil ?_
        refine block_n ?_
        refine then_n ?_
        refine ac_ent (t := mkS [(0, .int a0), (2, .ptr 0 0 0), (4, .ptr 1 0 0), (5, .int x1.2.2)] [(0, ⟨3, [[.int 0, .nil 1, .nil 1]]⟩), (1, ⟨3, [[.int (wr (a0 + 1)), .own 5 0 ((x1.1 ++ [x1.2.2]).length), .own 7 0 ((x1.2.1 ++ [a0]).length)]]⟩), (5, ⟨1, List.map (ow eI) (x1.1 ++ [x1.2.2])⟩), (7, ⟨1, List.map (ow eI) (x1.2.1 ++ [a0])⟩)] 8 [8, 9, 10, 11, 12, 13, 14, 15, 16, 17, 18, 19, 20, 21]) (ent_mk (σ := sg [(0, 0), (1, 1), (5, 5), (7, 7)]) ⟨⟨_, rfl, rfl⟩, ⟨_, rfl, ⟨rfl, rfl, rfl, rfl⟩⟩, ⟨_, rfl, ⟨rfl, rfl, rfl, rfl⟩⟩, ⟨_, rfl, rfl⟩, trivial⟩ ⟨⟨_, rfl, rfl, .inl ⟨rfl, plain_of rfl⟩⟩, rfl, ⟨_, rfl, rfl, .inr ⟨_, _, rfl, ⟨_, _, rfl, rfl, ⟨_, _, rfl, ⟨rfl, rfl, rfl, rfl⟩, ⟨_, _, rfl, ⟨rfl, rfl, rfl, rfl⟩, rfl⟩⟩⟩, rfl⟩⟩, rfl, ⟨_, rfl, rfl, .inl ⟨rfl, okI.plainO _⟩⟩, rfl, ⟨_, rfl, rfl, .inl ⟨rfl, okI.plainO _⟩⟩, rfl, trivial⟩ rfl) ?_
        refine ac_region ?_
        refine aops_eff (eff_move rfl) rfl rfl rfl ?_
        refine aops_eff (x_add rfl rfl) rfl rfl rfl ?_
        refine aops_eff (eff_assign rfl) rfl rfl rfl ?_
        refine aops_nil ?_
        refine then_n ?_
        obtain rfl := so h
        exact ⟨_, rfl, (ent_mk (σ := sg [(0, 0), (1, 1), (2, 5), (3, 7)]) ⟨⟨_, rfl, rfl⟩, ⟨_, rfl, ⟨rfl, rfl, rfl, rfl⟩⟩, ⟨_, rfl, ⟨rfl, rfl, rfl, rfl⟩⟩, ⟨_, rfl, rfl⟩, trivial⟩ ⟨⟨_, rfl, rfl, .inl ⟨rfl, plain_of rfl⟩⟩, rfl, ⟨_, rfl, rfl, .inr ⟨_, _, rfl, ⟨_, _, rfl, rfl, ⟨_, _, rfl, ⟨rfl, rfl, rfl, rfl⟩, ⟨_, _, rfl, ⟨rfl, rfl, rfl, rfl⟩, rfl⟩⟩⟩, rfl⟩⟩, rfl, ⟨_, rfl, rfl, .inl ⟨rfl, okI.plainO _⟩⟩, rfl, ⟨_, rfl, rfl, .inl ⟨rfl, okI.plainO _⟩⟩, rfl, trivial⟩ rfl)⟩
      · refine ac_condF rfl q3 ?_
        refine ac_exit ?_
        refine then_exit ?_
        refine then_exit ?_
        obtain rfl := so h
        exact ⟨_, rfl, rfl, (ent_mk (σ := sg [(0, 0), (1, 1), (2, 2), (3, 3)]) ⟨⟨_, rfl, ⟨rfl, rfl, rfl, rfl⟩⟩, ⟨_, rfl, ⟨rfl, rfl, rfl, rfl⟩⟩, trivial⟩ ⟨⟨_, rfl, rfl, .inl ⟨rfl, plain_of rfl⟩⟩, rfl, ⟨_, rfl, rfl, .inr ⟨_, _, rfl, ⟨_, _, rfl, rfl, ⟨_, _, rfl, ⟨rfl, rfl, rfl, rfl⟩, ⟨_, _, rfl, ⟨rfl, rfl, rfl, rfl⟩, rfl⟩⟩⟩, rfl⟩⟩, rfl, ⟨_, rfl, rfl, .inl ⟨rfl, okI.plainO _⟩⟩, rfl, ⟨_, rfl, rfl, .inl ⟨rfl, okI.plainO _⟩⟩, rfl, trivial⟩ rfl)⟩
    · rintro e t ⟨rfl, hent⟩
      refine block_here ?_
      refine then_n ?_
      refine ac_ent hent ?_
      refine ac_seq ?_
      refine ac_region ?_
      refine aops_eff (w_load_ptr TT_ok rfl rfl rfl rfl rfl rfl rfl) rfl rfl rfl ?_
      refine aops_eff (w_store TT_ok rfl rfl rfl rfl rfl rfl rfl rfl) rfl rfl rfl ?_
      refine aops_eff (eff_assign rfl) rfl rfl rfl ?_
      refine aops_nil ?_
      refine then_n ?_
      refine ac_ret ?_
      obtain rfl := so h
      exact ret_mk rfl rfl rfl (xz_tuple rfl (xB_cons (xB_agg (x1_cons (rfl) (x1_cons (x_f1 okI rfl rfl) (x1_cons (x_f1 okI rfl rfl) x1_nil)))) (xB_cons (rfl) xB_nil)))

noncomputable def m_impl_StarOf_L1 (a0 : Int) (x1 : ((List Int) × (List Int) × Int)) : Option (((List Int) × (List Int) × Int) ⊕ ((List Int) × (List Int))) :=
  bif decide (x1.2.2 < a0) then
    (bif decide (x1.1.length + [x1.2.2].length ≤ 4294967296) then
      (bif decide (x1.2.1.length + [a0].length ≤ 4294967296) then
        (some (.inl ((x1.1 ++ [x1.2.2]), (x1.2.1 ++ [a0]), wr (x1.2.2 + 1))))
      else none)
    else none)
  else
    (some (.inr (x1.1, x1.2.1)))

noncomputable def m_impl_StarOf (a0 : Int) : Option (Qv × Bool) :=
  Option.bind (m_impl_within a0 1 4) fun v1 =>
  bif !v1 then
    (some (((⟨0, [], []⟩ : Qv), false)))
  else
    (Option.bind (Lp (m_impl_StarOf_L1 a0) ([], [], 0)) fun y6 =>
    some (((⟨wr (a0 + 1), y6.1, y6.2⟩ : Qv), true)))

theorem c_impl_StarOf (a0 : Int) (r : (Qv × Bool)) (h : m_impl_StarOf a0 = some r) : HasC Try.prog 51 [.int a0] (.tuple [.agg (eQ r.1), .bl r.2]) := by
  refine hasC_mk TT_ok (rvs := [.cell 2 30, .tmp 3]) (ns := [0, 1, 2, 3, 4, 5, 6, 7, 8, 9, 10, 11, 12, 13]) Try.func51 rfl rfl Try.ntmps51 rfl rfl rfl ?_
  refine ac_seq ?_
  refine ac_region ?_
  refine aops_eff (w_alloc TT_ok rfl rfl) rfl rfl rfl ?_
  refine aops_eff (eff_assign rfl) rfl rfl rfl ?_
  refine aops_nil ?_
  refine then_n ?_
  refine ac_seq ?_
  refine ac_seq ?_
  refine ac_region ?_
  refine aops_eff (eff_move rfl) rfl rfl rfl ?_
  obtain ⟨v1, hv1, h⟩ := ob h
  refine aops_eff (w_call0s (c_impl_within a0 1 4 v1 hv1) rfl (va_cons (va_same rfl) (va_cons (va_same rfl) (va_cons (va_same rfl) va_nil)))) rfl rfl rfl ?_
  refine aops_eff (w_not rfl) rfl rfl rfl ?_
  refine aops_nil ?_
  refine then_n ?_
  rcases cb h with ⟨q2, h⟩ | ⟨q2, h⟩
  · refine ac_condT rfl q2 ?_
    refine ac_seq ?_
    refine ac_region ?_
    refine aops_eff (w_build TT_ok rfl rfl rfl rfl rfl rfl) rfl rfl rfl ?_
    refine aops_eff (w_store TT_ok rfl rfl rfl rfl rfl rfl rfl rfl) rfl rfl rfl ?_
    refine aops_eff (eff_assign rfl) rfl rfl rfl ?_
    refine aops_nil ?_
    refine then_n ?_
    refine ac_ret ?_
    refine then_ret ?_
    obtain rfl := so h
    exact ret_mk rfl rfl rfl (xz_tuple rfl (xB_cons (xB_agg (x1_cons (rfl) (x1_cons (rfl) (x1_cons (rfl) x1_nil)))) (xB_cons (rfl) xB_nil)))
  · refine ac_condF rfl q2 ?_
    refine ac_skip ?_
    refine then_n ?_
    refine ac_seq ?_
    refine ac_region ?_
    refine aops_eff (eff_move rfl) rfl rfl rfl ?_
    refine aops_eff (x_add rfl rfl) rfl rfl rfl ?_
    refine aops_eff (w_build TT_ok rfl rfl rfl rfl rfl rfl) rfl rfl rfl ?_
    refine aops_eff (w_alloc TT_ok rfl rfl) rfl rfl rfl ?_
    refine aops_eff (w_store TT_ok rfl rfl rfl rfl rfl rfl rfl rfl) rfl rfl rfl ?_
    refine aops_nil ?_
    refine then_n ?_
    refine ac_seq ?_
    refine ac_seq ?_
    refine ac_region ?_
    refine aops_eff (eff_move rfl) rfl rfl rfl ?_
    refine aops_eff (eff_move rfl) rfl rfl rfl ?_
    refine aops_nil ?_
    refine then_n ?_
    refine ac_ent (t := mkS [(0, .int a0), (2, .ptr 0 0 0), (4, .ptr 1 0 0), (13, .int a0), (14, .int 0)] [(0, ⟨3, [[.int 0, .nil 1, .nil 1]]⟩), (1, ⟨3, [[.int (wr (a0 + 1)), .nil 1, .nil 1]]⟩)] 2 [2, 3, 4, 5, 6, 7, 8, 9, 10, 11, 12, 13, 14, 15]) (ent_mk (σ := sg [(0, 0), (1, 1)]) ⟨⟨_, rfl, rfl⟩, ⟨_, rfl, ⟨rfl, rfl, rfl, rfl⟩⟩, ⟨_, rfl, ⟨rfl, rfl, rfl, rfl⟩⟩, ⟨_, rfl, rfl⟩, ⟨_, rfl, rfl⟩, trivial⟩ ⟨⟨_, rfl, rfl, .inl ⟨rfl, plain_of rfl⟩⟩, rfl, ⟨_, rfl, rfl, .inl ⟨rfl, plain_of rfl⟩⟩, rfl, trivial⟩ rfl) ?_
    refine ac_block ?_
    obtain ⟨y6, hy6, h⟩ := ob h
    refine ac_Lp (body := (m_impl_StarOf_L1 a0)) hy6 (fun (x1 : ((List Int) × (List Int) × Int)) => mkS [(0, .int a0), (2, .ptr 0 0 0), (4, .ptr 1 0 0), (13, .int a0), (14, .int x1.2.2)] [(0, ⟨3, [[.int 0, .nil 1, .nil 1]]⟩), (1, ⟨3, [[.int (wr (a0 + 1)), .own 2 0 x1.1.length, .own 3 0 x1.2.1.length]]⟩), (2, ⟨1, List.map (ow eI) x1.1⟩), (3, ⟨1, List.map (ow eI) x1.2.1⟩)] 4 [4, 5, 6, 7, 8, 9, 10, 11, 12, 13, 14, 15, 16, 17]) (fun r e t => e = .exit 0 ∧ Ent t (mkS [(2, .ptr 0 0 0), (4, .ptr 1 0 0)] [(0, ⟨3, [[.int 0, .nil 1, .nil 1]]⟩), (1, ⟨3, [[.int (wr (a0 + 1)), .own 2 0 r.1.length, .own 3 0 r.2.length]]⟩), (2, ⟨1, List.map (ow eI) r.1⟩), (3, ⟨1, List.map (ow eI) r.2⟩)] 4 [4, 5, 6, 7, 8, 9, 10, 11, 12, 13, 14, 15, 16, 17])) (ent_mk (σ := sg [(0, 0), (1, 1)]) ⟨⟨_, rfl, rfl⟩, ⟨_, rfl, ⟨rfl, rfl, rfl, rfl⟩⟩, ⟨_, rfl, ⟨rfl, rfl, rfl, rfl⟩⟩, ⟨_, rfl, rfl⟩, ⟨_, rfl, rfl⟩, trivial⟩ ⟨⟨_, rfl, rfl, .inl ⟨rfl, plain_of rfl⟩⟩, rfl, ⟨_, rfl, rfl, .inr ⟨_, _, rfl, ⟨_, _, rfl, rfl, ⟨_, _, rfl, ⟨rfl, rfl, rfl, rfl⟩, ⟨_, _, rfl, ⟨rfl, rfl, rfl, rfl⟩, rfl⟩⟩⟩, rfl⟩⟩, rfl, rfl, rfl, rfl, rfl, trivial⟩ rfl) ?_ ?_
    · intro x1 o h
      refine ac_seq ?_
      refine ac_region ?_
      refine aops_eff (w_cmp rfl rfl rfl) rfl rfl rfl ?_
      refine aops_nil ?_
      refine then_n ?_
      refine ac_seq ?_
      rcases cb h with ⟨q3, h⟩ | ⟨q3, h⟩
      · refine ac_condT rfl q3 ?_
        refine ac_skip ?_
        refine then_n ?_
        refine ac_seq ?_
        refine ac_block ?_
        refine ac_seq ?_
        refine ac_region ?_
        refine aops_eff (eff_move rfl) rfl rfl rfl ?_
        refine aops_eff (eff_assign rfl) rfl rfl rfl ?_
        refine aops_nil ?_
        refine then_n ?_
        refine ac_seq ?_
        refine ac_region ?_
        refine aops_eff (w_field_ptr TT_ok rfl rfl rfl rfl rfl rfl rfl) rfl rfl rfl ?_
        refine aops_eff (w_load_ptr TT_ok rfl rfl rfl rfl rfl rfl rfl) rfl rfl rfl ?_
        refine aops_eff (eff_move rfl) rfl rfl rfl ?_
        refine aops_eff (w_lit TT_ok rfl rfl rfl rfl rfl rfl rfl rfl rfl rfl rfl rfl) rfl rfl rfl ?_
        obtain ⟨q4, h⟩ := cg h
        refine aops_eff (x_app TT_ok (l := x1.1) (m := [x1.2.2]) okIo q4 rfl rfl rfl rfl rfl rfl rfl rfl rfl rfl rfl rfl) rfl rfl rfl ?_
        refine aops_eff (w_field_ptr TT_ok rfl rfl rfl rfl rfl rfl rfl) rfl rfl rfl ?_
        refine aops_eff (w_store TT_ok rfl rfl rfl rfl rfl rfl rfl rfl) rfl rfl rfl ?_
        refine aops_nil ?_
        refine then_n ?_
        refine ac_region ?_
        refine aops_eff (w_field_ptr TT_ok rfl rfl rfl rfl rfl rfl rfl) rfl rfl rfl ?_
        refine aops_eff (w_load_ptr TT_ok rfl rfl rfl rfl rfl rfl rfl) rfl rfl rfl ?_
        refine aops_eff (eff_move rfl) rfl rfl rfl ?_
        refine aops_eff (w_lit TT_ok rfl rfl rfl rfl rfl rfl rfl rfl rfl rfl rfl rfl) rfl rfl rfl ?_
        obtain ⟨q5, h⟩ := cg h
        refine aops_eff (x_app TT_ok (l := x1.2.1) (m := [a0]) okIo q5 rfl rfl rfl rfl rfl rfl rfl rfl rfl rfl rfl rfl) rfl rfl rfl ?_
        refine aops_eff (w_field_ptr TT_ok rfl rfl rfl rfl rfl rfl rfl) rfl rfl rfl ?_
        refine aops_eff (w_store TT_ok rfl rfl rfl rfl rfl rfl rfl rfl) rfl rfl rfl ?_
        refine aops_nil ?_
        refine block_n ?_
        refine then_n ?_
        refine ac_ent (t := mkS [(0, .int a0), (2, .ptr 0 0 0), (4, .ptr 1 0 0), (13, .int a0), (14, .int x1.2.2)] [(0, ⟨3, [[.int 0, .nil 1, .nil 1]]⟩), (1, ⟨3, [[.int (wr (a0 + 1)), .own 5 0 ((x1.1 ++ [x1.2.2]).length), .own 7 0 ((x1.2.1 ++ [a0]).length)]]⟩), (5, ⟨1, List.map (ow eI) (x1.1 ++ [x1.2.2])⟩), (7, ⟨1, List.map (ow eI) (x1.2.1 ++ [a0])⟩)] 8 [8, 9, 10, 11, 12, 13, 14, 15, 16, 17, 18, 19, 20, 21]) (ent_mk (σ := sg [(0, 0), (1, 1), (5, 5), (7, 7)]) ⟨⟨_, rfl, rfl⟩, ⟨_, rfl, ⟨rfl, rfl, rfl, rfl⟩⟩, ⟨_, rfl, ⟨rfl, rfl, rfl, rfl⟩⟩, ⟨_, rfl, rfl⟩, ⟨_, rfl, rfl⟩, trivial⟩ ⟨⟨_, rfl, rfl, .inl ⟨rfl, plain_of rfl⟩⟩, rfl, ⟨_, rfl, rfl, .inr ⟨_, _, rfl, ⟨_, _, rfl, rfl, ⟨_, _, rfl, ⟨rfl, rfl, rfl, rfl⟩, ⟨_, _, rfl, ⟨rfl, rfl, rfl, rfl⟩, rfl⟩⟩⟩, rfl⟩⟩, rfl, ⟨_, rfl, rfl, .inl ⟨rfl, okI.plainO _⟩⟩, rfl, ⟨_, rfl, rfl, .inl ⟨rfl, okI.plainO _⟩⟩, rfl, trivial⟩ rfl) ?_
        refine ac_region ?_
        refine aops_eff (x_add rfl rfl) rfl rfl rfl ?_
        refine aops_eff (eff_move rfl) rfl rfl rfl ?_
        refine aops_nil ?_
        refine then_n ?_
        obtain rfl := so h
        exact ⟨_, rfl, (ent_mk (σ := sg [(0, 0), (1, 1), (2, 5), (3, 7)]) ⟨⟨_, rfl, rfl⟩, ⟨_, rfl, ⟨rfl, rfl, rfl, rfl⟩⟩, ⟨_, rfl, ⟨rfl, rfl, rfl, rfl⟩⟩, ⟨_, rfl, rfl⟩, ⟨_, rfl, rfl⟩, trivial⟩ ⟨⟨_, rfl, rfl, .inl ⟨rfl, plain_of rfl⟩⟩, rfl, ⟨_, rfl, rfl, .inr ⟨_, _, rfl, ⟨_, _, rfl, rfl, ⟨_, _, rfl, ⟨rfl, rfl, rfl, rfl⟩, ⟨_, _, rfl, ⟨rfl, rfl, rfl, rfl⟩, rfl⟩⟩⟩, rfl⟩⟩, rfl, ⟨_, rfl, rfl, .inl ⟨rfl, okI.plainO _⟩⟩, rfl, ⟨_, rfl, rfl, .inl ⟨rfl, okI.plainO _⟩⟩, rfl, trivial⟩ rfl)⟩
      · refine ac_condF rfl q3 ?_
        refine ac_exit ?_
        refine then_exit ?_
        refine then_exit ?_
        obtain rfl := so h
        exact ⟨_, rfl, rfl, (ent_mk (σ := sg [(0, 0), (1, 1), (2, 2), (3, 3)]) ⟨⟨_, rfl, ⟨rfl, rfl, rfl, rfl⟩⟩, ⟨_, rfl, ⟨rfl, rfl, rfl, rfl⟩⟩, trivial⟩ ⟨⟨_, rfl, rfl, .inl ⟨rfl, plain_of rfl⟩⟩, rfl, ⟨_, rfl, rfl, .inr ⟨_, _, rfl, ⟨_, _, rfl, rfl, ⟨_, _, rfl, ⟨rfl, rfl, rfl, rfl⟩, ⟨_, _, rfl, ⟨rfl, rfl, rfl, rfl⟩, rfl⟩⟩⟩, rfl⟩⟩, rfl, ⟨_, rfl, rfl, .inl ⟨rfl, okI.plainO _⟩⟩, rfl, ⟨_, rfl, rfl, .inl ⟨rfl, okI.plainO _⟩⟩, rfl, trivial⟩ rfl)⟩
    · rintro e t ⟨rfl, hent⟩
      refine block_here ?_
      refine then_n ?_
      refine ac_ent hent ?_
      refine ac_seq ?_
      refine ac_region ?_
      refine aops_eff (w_load_ptr TT_ok rfl rfl rfl rfl rfl rfl rfl) rfl rfl rfl ?_
      refine aops_eff (w_store TT_ok rfl rfl rfl rfl rfl rfl rfl rfl) rfl rfl rfl ?_
      refine aops_eff (eff_assign rfl) rfl rfl rfl ?_
      refine aops_nil ?_
      refine then_n ?_
      refine ac_ret ?_
      obtain rfl := so h
      exact ret_mk rfl rfl rfl (xz_tuple rfl (xB_cons (xB_agg (x1_cons (rfl) (x1_cons (x_f1 okI rfl rfl) (x1_cons (x_f1 okI rfl rfl) x1_nil)))) (xB_cons (rfl) xB_nil)))

noncomputable def m_impl_Matrix_column_L1 (a0 : Mt) (a1 : Int) (x1 : ((List Int) × Int)) : Option (((List Int) × Int) ⊕ (List Int)) :=
  bif decide (x1.2 < (((List.replicate a0.rows.toNat (0 : Int)).length : Nat) : Int)) then
    (Option.bind (atL a0.cells (wr ((wr (x1.2 * a0.cols)) + a1))) fun v2 =>
    Option.bind (atL x1.1 x1.2) fun v3 =>
    some (.inl ((x1.1.set x1.2.toNat v2), wr (x1.2 + 1))))
  else
    (some (.inr x1.1))

noncomputable def m_impl_Matrix_column (a0 : Mt) (a1 : Int) : Option (List Int) :=
  bif (decide (0 ≤ a0.rows) && decide (a0.rows ≤ 1048576)) then
    (Option.bind (Lp (m_impl_Matrix_column_L1 a0 a1) ((List.replicate a0.rows.toNat (0 : Int)), 0)) fun y4 =>
    some (y4))
  else none

theorem c_impl_Matrix_column (a0 : Mt) (a1 : Int) (r : (List Int)) (h : m_impl_Matrix_column a0 a1 = some r) : HasC Try.prog 144 [.agg (eM a0), .int a1] (.list 1 (List.map eI r)) := by
  refine hasC_mk TT_ok (rvs := [.tmp 4]) (ns := [0, 1, 2, 3, 4, 5, 6, 7, 8, 9, 10, 11, 12, 13]) Try.func144 rfl rfl Try.ntmps144 rfl rfl rfl ?_
  refine ac_seq ?_
  refine ac_region ?_
  refine aops_eff (w_box rfl rfl rfl rfl) rfl rfl rfl ?_
  refine aops_eff (eff_assign rfl) rfl rfl rfl ?_
  refine aops_nil ?_
  refine then_n ?_
  refine ac_seq ?_
  refine ac_region ?_
  refine aops_eff (w_field_ptr TT_ok rfl rfl rfl rfl rfl rfl rfl) rfl rfl rfl ?_
  refine aops_eff (w_load_ptr TT_ok rfl rfl rfl rfl rfl rfl rfl) rfl rfl rfl ?_
  obtain ⟨q5, h⟩ := cg h
  refine aops_eff (x_make TT_ok q5 rfl rfl rfl rfl rfl rfl rfl rfl) rfl rfl rfl ?_
  refine aops_eff (eff_assign rfl) rfl rfl rfl ?_
  refine aops_nil ?_
  refine then_n ?_
  refine ac_ent (t := mkS [(1, .int a1), (2, .ptr 0 0 0), (5, .own 1 0 ((List.replicate a0.rows.toNat (0 : Int)).length))] [(0, ⟨3, [[.int a0.rows, .int a0.cols, .list 1 (List.map eI a0.cells)]]⟩), (1, ⟨1, List.map (ow eI) (List.replicate a0.rows.toNat (0 : Int))⟩)] 2 [2, 3, 4, 5, 6, 7, 8, 9, 10, 11, 12, 13, 14, 15]) (ent_mk (σ := sg [(0, 0), (1, 1)]) ⟨⟨_, rfl, rfl⟩, ⟨_, rfl, ⟨rfl, rfl, rfl, rfl⟩⟩, ⟨_, rfl, ⟨rfl, rfl, (by simp only [len_map, List.length_append, List.length_set, List.length_replicate, List.length_cons, List.length_nil]), rfl⟩⟩, trivial⟩ ⟨⟨_, rfl, rfl, .inl ⟨rfl, plain_of rfl⟩⟩, rfl, ⟨_, rfl, rfl, .inl ⟨rep_eq (e := eI) (z := 0) _, okI.plainO _⟩⟩, rfl, trivial⟩ rfl) ?_
  refine ac_seq ?_
  refine ac_seq ?_
  refine ac_region ?_
  refine aops_eff (eff_move rfl) rfl rfl rfl ?_
  refine aops_eff (w_len_own TT_ok rfl rfl rfl rfl) rfl rfl rfl ?_
  refine aops_eff (eff_move rfl) rfl rfl rfl ?_
  refine aops_nil ?_
  refine then_n ?_
  refine ac_block ?_
  obtain ⟨y4, hy4, h⟩ := ob h
  refine ac_Lp (body := (m_impl_Matrix_column_L1 a0 a1)) hy4 (fun (x1 : ((List Int) × Int)) => mkS [(1, .int a1), (2, .ptr 0 0 0), (5, .own 1 0 x1.1.length), (11, .int (((List.replicate a0.rows.toNat (0 : Int)).length : Nat) : Int)), (12, .int x1.2)] [(0, ⟨3, [[.int a0.rows, .int a0.cols, .list 1 (List.map eI a0.cells)]]⟩), (1, ⟨1, List.map (ow eI) x1.1⟩)] 2 [2, 3, 4, 5, 6, 7, 8, 9, 10, 11, 12, 13, 14, 15]) (fun r e t => e = .exit 0 ∧ Ent t (mkS [(5, .own 0 0 r.length)] [(0, ⟨1, List.map (ow eI) r⟩)] 1 [1, 2, 3, 4, 5, 6, 7, 8, 9, 10, 11, 12, 13, 14])) (ent_mk (σ := sg [(0, 0), (1, 1)]) ⟨⟨_, rfl, rfl⟩, ⟨_, rfl, ⟨rfl, rfl, rfl, rfl⟩⟩, ⟨_, rfl, ⟨rfl, rfl, rfl, rfl⟩⟩, ⟨_, rfl, rfl⟩, ⟨_, rfl, rfl⟩, trivial⟩ ⟨⟨_, rfl, rfl, .inl ⟨rfl, plain_of rfl⟩⟩, rfl, ⟨_, rfl, rfl, .inl ⟨rfl, okI.plainO _⟩⟩, rfl, trivial⟩ rfl) ?_ ?_
  · intro x1 o h
    refine ac_seq ?_
    refine ac_region ?_
    refine aops_eff (w_cmp rfl rfl rfl) rfl rfl rfl ?_
    refine aops_nil ?_
    refine then_n ?_
    refine ac_seq ?_
    rcases cb h with ⟨q1, h⟩ | ⟨q1, h⟩
    · refine ac_condT rfl q1 ?_
      refine ac_skip ?_
      refine then_n ?_
      refine ac_seq ?_
      refine ac_block ?_
      refine ac_seq ?_
      refine ac_region ?_
      refine aops_eff (eff_move rfl) rfl rfl rfl ?_
      refine aops_eff (eff_assign rfl) rfl rfl rfl ?_
      refine aops_nil ?_
      refine then_n ?_
      refine ac_region ?_
      refine aops_eff (eff_move rfl) rfl rfl rfl ?_
      refine aops_eff (eff_move rfl) rfl rfl rfl ?_
      refine aops_eff (w_field_ptr TT_ok rfl rfl rfl rfl rfl rfl rfl) rfl rfl rfl ?_
      refine aops_eff (w_load_ptr TT_ok rfl rfl rfl rfl rfl rfl rfl) rfl rfl rfl ?_
      refine aops_eff (eff_move rfl) rfl rfl rfl ?_
      refine aops_eff (w_field_ptr TT_ok rfl rfl rfl rfl rfl rfl rfl) rfl rfl rfl ?_
      refine aops_eff (w_load_ptr TT_ok rfl rfl rfl rfl rfl rfl rfl) rfl rfl rfl ?_
      refine aops_eff (x_mul rfl rfl) rfl rfl rfl ?_
      refine aops_eff (eff_move rfl) rfl rfl rfl ?_
      refine aops_eff (x_add rfl rfl) rfl rfl rfl ?_
      obtain ⟨v2, hv2, h⟩ := ob h
      refine aops_eff (x_at_list TT_ok hv2 rfl rfl rfl rfl rfl rfl) rfl rfl rfl ?_
      refine aops_eff (w_load_ref TT_ok rfl rfl rfl rfl rfl rfl) rfl rfl rfl ?_
      obtain ⟨v3, hv3, h⟩ := ob h
      refine aops_eff (x_at_own TT_ok (atL_nn hv3) (atL_lt hv3) rfl rfl rfl rfl rfl rfl rfl) rfl rfl rfl ?_
      refine aops_eff (x_store TT_ok okIo (u := v2) (atL_get hv3) rfl rfl rfl rfl rfl rfl) rfl rfl rfl ?_
      refine aops_nil ?_
      refine block_n ?_
      refine then_n ?_
      refine ac_ent (t := mkS [(1, .int a1), (2, .ptr 0 0 0), (5, .own 1 0 ((x1.1.set x1.2.toNat v2).length)), (11, .int (((List.replicate a0.rows.toNat (0 : Int)).length : Nat) : Int)), (12, .int x1.2)] [(0, ⟨3, [[.int a0.rows, .int a0.cols, .list 1 (List.map eI a0.cells)]]⟩), (1, ⟨1, List.map (ow eI) (x1.1.set x1.2.toNat v2)⟩)] 2 [2, 3, 4, 5, 6, 7, 8, 9, 10, 11, 12, 13, 14, 15]) (ent_mk (σ := sg [(0, 0), (1, 1)]) ⟨⟨_, rfl, rfl⟩, ⟨_, rfl, ⟨rfl, rfl, rfl, rfl⟩⟩, ⟨_, rfl, ⟨rfl, rfl, (by simp only [len_map, List.length_append, List.length_set, List.length_replicate, List.length_cons, List.length_nil]), rfl⟩⟩, ⟨_, rfl, rfl⟩, ⟨_, rfl, rfl⟩, trivial⟩ ⟨⟨_, rfl, rfl, .inl ⟨rfl, plain_of rfl⟩⟩, rfl, ⟨_, rfl, rfl, .inl ⟨rfl, okI.plainO _⟩⟩, rfl, trivial⟩ rfl) ?_
      refine ac_region ?_
      refine aops_eff (x_add rfl rfl) rfl rfl rfl ?_
      refine aops_eff (eff_move rfl) rfl rfl rfl ?_
      refine aops_nil ?_
      refine then_n ?_
      obtain rfl := so h
      exact ⟨_, rfl, (ent_mk (σ := sg [(0, 0), (1, 1)]) ⟨⟨_, rfl, rfl⟩, ⟨_, rfl, ⟨rfl, rfl, rfl, rfl⟩⟩, ⟨_, rfl, ⟨rfl, rfl, rfl, rfl⟩⟩, ⟨_, rfl, rfl⟩, ⟨_, rfl, rfl⟩, trivial⟩ ⟨⟨_, rfl, rfl, .inl ⟨rfl, plain_of rfl⟩⟩, rfl, ⟨_, rfl, rfl, .inl ⟨rfl, okI.plainO _⟩⟩, rfl, trivial⟩ rfl)⟩
    · refine ac_condF rfl q1 ?_
      refine ac_exit ?_
      refine then_exit ?_
      refine then_exit ?_
      obtain rfl := so h
      exact ⟨_, rfl, rfl, (ent_mk (σ := sg [(0, 1)]) ⟨⟨_, rfl, ⟨rfl, rfl, rfl, rfl⟩⟩, trivial⟩ ⟨⟨_, rfl, rfl, .inl ⟨rfl, okI.plainO _⟩⟩, rfl, trivial⟩ rfl)⟩
  · rintro e t ⟨rfl, hent⟩
    refine block_here ?_
    refine then_n ?_
    refine ac_ent hent ?_
    refine ac_seq ?_
    refine ac_region ?_
    refine aops_eff (eff_move rfl) rfl rfl rfl ?_
    refine aops_eff (eff_assign rfl) rfl rfl rfl ?_
    refine aops_nil ?_
    refine then_n ?_
    refine ac_ret ?_
    obtain rfl := so h
    exact ret_mk rfl rfl rfl (xz_list (x_f1 okI rfl rfl))

noncomputable def m_impl_Matrix_columns_L1 (a0 : Mt) (x1 : ((List (List Int)) × Int)) : Option (((List (List Int)) × Int) ⊕ (List (List Int))) :=
  bif decide (x1.2 < a0.cols) then
    (Option.bind (m_impl_Matrix_column a0 x1.2) fun v2 =>
    bif decide (x1.1.length + 1 ≤ 4294967296) then
      (some (.inl ((x1.1 ++ [v2]), wr (x1.2 + 1))))
    else none)
  else
    (some (.inr x1.1))

noncomputable def m_impl_Matrix_columns (a0 : Mt) : Option (List (List Int)) :=
  Option.bind (Lp (m_impl_Matrix_columns_L1 a0) ([], 0)) fun y4 =>
  some (y4)

theorem c_impl_Matrix_columns (a0 : Mt) (r : (List (List Int))) (h : m_impl_Matrix_columns a0 = some r) : HasC Try.prog 104 [.agg (eM a0)] (.list 1 (List.map (eLs 1 eI) r)) := by
  refine hasC_mk TT_ok (rvs := [.tmp 2]) (ns := [0, 1, 2, 3, 4, 5, 6, 7, 8, 9, 10, 11, 12, 13]) Try.func104 rfl rfl Try.ntmps104 rfl rfl rfl ?_
  refine ac_seq ?_
  refine ac_region ?_
  refine aops_eff (w_box rfl rfl rfl rfl) rfl rfl rfl ?_
  refine aops_eff (eff_assign rfl) rfl rfl rfl ?_
  refine aops_nil ?_
  refine then_n ?_
  refine ac_seq ?_
  refine ac_region ?_
  refine aops_eff (eff_assign rfl) rfl rfl rfl ?_
  refine aops_nil ?_
  refine then_n ?_
  refine ac_seq ?_
  refine ac_seq ?_
  refine ac_region ?_
  refine aops_eff (w_field_ptr TT_ok rfl rfl rfl rfl rfl rfl rfl) rfl rfl rfl ?_
  refine aops_eff (w_load_ptr TT_ok rfl rfl rfl rfl rfl rfl rfl) rfl rfl rfl ?_
  refine aops_eff (eff_move rfl) rfl rfl rfl ?_
  refine aops_nil ?_
  refine then_n ?_
  refine ac_block ?_
  obtain ⟨y4, hy4, h⟩ := ob h
  refine ac_Lp (body := (m_impl_Matrix_columns_L1 a0)) hy4 (fun (x1 : ((List (List Int)) × Int)) => mkS [(1, .ptr 0 0 0), (3, .own 1 0 x1.1.length), (6, .int a0.cols), (7, .int x1.2)] [(0, ⟨3, [[.int a0.rows, .int a0.cols, .list 1 (List.map eI a0.cells)]]⟩), (1, ⟨1, List.map (ow (eLs 1 eI)) x1.1⟩)] 2 [2, 3, 4, 5, 6, 7, 8, 9, 10, 11, 12, 13, 14, 15]) (fun r e t => e = .exit 0 ∧ Ent t (mkS [(3, .own 0 0 r.length)] [(0, ⟨1, List.map (ow (eLs 1 eI)) r⟩)] 1 [1, 2, 3, 4, 5, 6, 7, 8, 9, 10, 11, 12, 13, 14])) (ent_mk (σ := sg [(0, 0)]) ⟨⟨_, rfl, ⟨rfl, rfl, rfl, rfl⟩⟩, ⟨_, rfl, ⟨rfl, rfl, rfl, rfl⟩⟩, ⟨_, rfl, rfl⟩, ⟨_, rfl, rfl⟩, trivial⟩ ⟨⟨_, rfl, rfl, .inl ⟨rfl, plain_of rfl⟩⟩, rfl, rfl, rfl, trivial⟩ rfl) ?_ ?_
  · intro x1 o h
    refine ac_seq ?_
    refine ac_region ?_
    refine aops_eff (w_cmp rfl rfl rfl) rfl rfl rfl ?_
    refine aops_nil ?_
    refine then_n ?_
    refine ac_seq ?_
    rcases cb h with ⟨q1, h⟩ | ⟨q1, h⟩
    · refine ac_condT rfl q1 ?_
      refine ac_skip ?_
      refine then_n ?_
      refine ac_seq ?_
      refine ac_block ?_
      refine ac_seq ?_
      refine ac_region ?_
      refine aops_eff (eff_move rfl) rfl rfl rfl ?_
      refine aops_eff (eff_assign rfl) rfl rfl rfl ?_
      refine aops_nil ?_
      refine then_n ?_
      refine ac_region ?_
      refine aops_eff (eff_move rfl) rfl rfl rfl ?_
      refine aops_eff (w_load_ptr TT_ok rfl rfl rfl rfl rfl rfl rfl) rfl rfl rfl ?_
      refine aops_eff (eff_move rfl) rfl rfl rfl ?_
      obtain ⟨v2, hv2, h⟩ := ob h
      refine aops_eff (AEff.conv (w_call0 (x := .own 2 0 (List.map eI v2).length) (nb := [(2, ⟨1, absEs (List.map eI v2)⟩)]) (c_impl_Matrix_column a0 x1.2 v2 hv2) rfl (by rfl) rfl rfl (okI.good _) (va_cons (va_agg' (v1_cons (v1_same rfl) (v1_cons (v1_same rfl) (v1_cons (v1_same rfl) v1_nil)))) (va_cons (va_same rfl) va_nil))) (v' := .own 2 0 v2.length) (ed' := [(2, some ⟨1, List.map (ow eI) v2⟩)]) (by simp only [len_map]) (ed_ok (nb' := [(2, ⟨1, List.map (ow eI) v2⟩)]) (by simp only [abs_map]))) rfl rfl rfl ?_
      refine aops_eff (w_lit TT_ok rfl rfl rfl rfl rfl rfl rfl rfl rfl rfl rfl rfl) rfl rfl rfl ?_
      obtain ⟨q3, h⟩ := cg h
      refine aops_eff (x_app1 TT_ok (l := x1.1) (c := [.own 2 0 v2.length]) q3 rfl rfl rfl rfl rfl rfl rfl rfl rfl rfl rfl rfl rfl rfl) rfl rfl rfl ?_
      refine aops_eff (eff_assign rfl) rfl rfl rfl ?_
      refine aops_nil ?_
      refine block_n ?_
      refine then_n ?_
      refine ac_ent (t := mkS [(1, .ptr 0 0 0), (3, .own 4 0 ((x1.1 ++ [v2]).length)), (6, .int a0.cols), (7, .int x1.2)] [(0, ⟨3, [[.int a0.rows, .int a0.cols, .list 1 (List.map eI a0.cells)]]⟩), (4, ⟨1, List.map (ow (eLs 1 eI)) (x1.1 ++ [v2])⟩)] 5 [5, 6, 7, 8, 9, 10, 11, 12, 13, 14, 15, 16, 17, 18]) (Ent.trans (ent_absL (b := 4) (b' := 2) (j := 0) (es' := List.map eI v2) rfl rfl rfl rfl (len_map _ _) (okI.frzs _)) (ent_mk (σ := sg [(0, 0), (4, 4)]) ⟨⟨_, rfl, ⟨rfl, rfl, rfl, rfl⟩⟩, ⟨_, rfl, ⟨rfl, rfl, (by simp only [len_map, List.length_append, List.length_set, List.length_replicate, List.length_cons, List.length_nil]), rfl⟩⟩, ⟨_, rfl, rfl⟩, ⟨_, rfl, rfl⟩, trivial⟩ ⟨⟨_, rfl, rfl, .inl ⟨rfl, plain_of rfl⟩⟩, rfl, ⟨_, rfl, rfl, .inl ⟨app_eq v2 rfl, okLs.plainO _⟩⟩, rfl, trivial⟩ rfl)) ?_
      refine ac_region ?_
      refine aops_eff (x_add rfl rfl) rfl rfl rfl ?_
      refine aops_eff (eff_move rfl) rfl rfl rfl ?_
      refine aops_nil ?_
      refine then_n ?_
      obtain rfl := so h
      exact ⟨_, rfl, (ent_mk (σ := sg [(0, 0), (1, 4)]) ⟨⟨_, rfl, ⟨rfl, rfl, rfl, rfl⟩⟩, ⟨_, rfl, ⟨rfl, rfl, rfl, rfl⟩⟩, ⟨_, rfl, rfl⟩, ⟨_, rfl, rfl⟩, trivial⟩ ⟨⟨_, rfl, rfl, .inl ⟨rfl, plain_of rfl⟩⟩, rfl, ⟨_, rfl, rfl, .inl ⟨rfl, okLs.plainO _⟩⟩, rfl, trivial⟩ rfl)⟩
    · refine ac_condF rfl q1 ?_
      refine ac_exit ?_
      refine then_exit ?_
      refine then_exit ?_
      obtain rfl := so h
      exact ⟨_, rfl, rfl, (ent_mk (σ := sg [(0, 1)]) ⟨⟨_, rfl, ⟨rfl, rfl, rfl, rfl⟩⟩, trivial⟩ ⟨⟨_, rfl, rfl, .inl ⟨rfl, okLs.plainO _⟩⟩, rfl, trivial⟩ rfl)⟩
  · rintro e t ⟨rfl, hent⟩
    refine block_here ?_
    refine then_n ?_
    refine ac_ent hent ?_
    refine ac_seq ?_
    refine ac_region ?_
    refine aops_eff (eff_move rfl) rfl rfl rfl ?_
    refine aops_eff (eff_assign rfl) rfl rfl rfl ?_
    refine aops_nil ?_
    refine then_n ?_
    refine ac_ret ?_
    obtain rfl := so h
    exact ret_mk rfl rfl rfl (xz_list (x_f1 okLs rfl rfl))

noncomputable def m_impl_fromRows (a0 : Int) (a1 : (List (List Int))) : Option Mt :=
  Option.bind (m_slices_Concat_Lint_int a1) fun v1 =>
  some ((⟨(a1.length : Int), a0, v1⟩ : Mt))

theorem c_impl_fromRows (a0 : Int) (a1 : (List (List Int))) (r : Mt) (h : m_impl_fromRows a0 a1 = some r) : HasC Try.prog 142 [.int a0, .list 1 (List.map (eLs 1 eI) a1)] (.agg (eM r)) := by
  refine hasC_mk TT_ok (rvs := [.cell 4 81]) (ns := [0, 1, 2, 3, 4, 5, 6, 7, 8, 9, 10, 11, 12, 13]) Try.func142 rfl rfl Try.ntmps142 rfl rfl rfl ?_
  refine ac_seq ?_
  refine ac_region ?_
  refine aops_eff (w_alloc TT_ok rfl rfl) rfl rfl rfl ?_
  refine aops_nil ?_
  refine then_n ?_
  refine ac_seq ?_
  refine ac_region ?_
  refine aops_eff (eff_move rfl) rfl rfl rfl ?_
  refine aops_eff (AEff.val (w_len_list TT_ok rfl rfl rfl) (v' := .int (a1.length : Int)) (by first | rw [len_map] | rw [encI_len])) rfl rfl rfl ?_
  refine aops_eff (eff_move rfl) rfl rfl rfl ?_
  refine aops_eff (eff_move rfl) rfl rfl rfl ?_
  obtain ⟨v1, hv1, h⟩ := ob h
  refine aops_eff (AEff.conv (w_call0 (x := .own 1 0 (List.map eI v1).length) (nb := [(1, ⟨1, absEs (List.map eI v1)⟩)]) (c_slices_Concat_Lint_int a1 v1 hv1) rfl (by rfl) rfl rfl (okI.good _) (va_cons (va_same rfl) va_nil)) (v' := .own 1 0 v1.length) (ed' := [(1, some ⟨1, List.map (ow eI) v1⟩)]) (by simp only [len_map]) (ed_ok (nb' := [(1, ⟨1, List.map (ow eI) v1⟩)]) (by simp only [abs_map]))) rfl rfl rfl ?_
  refine aops_eff (w_build TT_ok rfl rfl rfl rfl rfl rfl) rfl rfl rfl ?_
  refine aops_eff (w_store TT_ok rfl rfl rfl rfl rfl rfl rfl rfl) rfl rfl rfl ?_
  refine aops_nil ?_
  refine then_n ?_
  refine ac_ret ?_
  obtain rfl := so h
  exact ret_mk rfl rfl rfl (xz_agg (x1_cons (rfl) (x1_cons (rfl) (x1_cons (x_f1 okI rfl rfl) x1_nil))))

noncomputable def m_impl_span_L1 (v2 : (Mt × (List Int))) (x1 : ((List (List Int)) × Int)) : Option (((List (List Int)) × Int) ⊕ (List (List Int))) :=
  bif decide (x1.2 < ((v2.2.length : Nat) : Int)) then
    (Option.bind (m_impl_Matrix_row v2.1 x1.2) fun v4 =>
    Option.bind (m_Clone ((v2.1.cells.drop (0 + (wr (x1.2 * v2.1.cols)).toNat)).take ((wr ((wr (x1.2 + 1)) * v2.1.cols)).toNat - (wr (x1.2 * v2.1.cols)).toNat))) fun v5 =>
    bif decide (x1.1.length + 1 ≤ 4294967296) then
      (some (.inl ((x1.1 ++ [v5]), wr (x1.2 + 1))))
    else none)
  else
    (some (.inr x1.1))

noncomputable def m_impl_span (a0 : Int) (a1 : Int) (a2 : (List (List Int))) : Option Sc :=
  Option.bind (m_impl_fromRows a1 a2) fun v1 =>
  Option.bind (m_impl_reduce a0 v1) fun v2 =>
  Option.bind (Lp (m_impl_span_L1 v2) ([], 0)) fun y7 =>
  some ((⟨a1, y7⟩ : Sc))

theorem c_impl_span (a0 : Int) (a1 : Int) (a2 : (List (List Int))) (r : Sc) (h : m_impl_span a0 a1 a2 = some r) : HasC Try.prog 103 [.int a0, .int a1, .list 1 (List.map (eLs 1 eI) a2)] (.agg (eS r)) := by
  refine hasC_mk TT_ok (rvs := [.cell 6 78]) (ns := [0, 1, 2, 3, 4, 5, 6, 7, 8, 9, 10, 11, 12, 13]) Try.func103 rfl rfl Try.ntmps103 rfl rfl rfl ?_
  refine ac_seq ?_
  refine ac_region ?_
  refine aops_eff (w_alloc TT_ok rfl rfl) rfl rfl rfl ?_
  refine aops_nil ?_
  refine then_n ?_
  refine ac_seq ?_
  refine ac_region ?_
  refine aops_eff (eff_move rfl) rfl rfl rfl ?_
  refine aops_eff (eff_move rfl) rfl rfl rfl ?_
  refine aops_eff (eff_move rfl) rfl rfl rfl ?_
  obtain ⟨v1, hv1, h⟩ := ob h
  refine aops_eff (AEff.conv (w_call0 (x := .agg [.int v1.rows, .int v1.cols, .own 1 0 (List.map eI v1.cells).length]) (nb := [(1, ⟨1, absEs (List.map eI v1.cells)⟩)]) (c_impl_fromRows a1 a2 v1 hv1) rfl (by rfl) rfl rfl (g1_cons trivial (g1_cons trivial (g1_cons (okI.good _) g1_nil))) (va_cons (va_same rfl) (va_cons (va_same rfl) va_nil))) (v' := .agg [.int v1.rows, .int v1.cols, .own 1 0 v1.cells.length]) (ed' := [(1, some ⟨1, List.map (ow eI) v1.cells⟩)]) (by simp only [len_map]) (ed_ok (nb' := [(1, ⟨1, List.map (ow eI) v1.cells⟩)]) (by simp only [abs_map]))) rfl rfl rfl ?_
  obtain ⟨v2, hv2, h⟩ := ob h
  refine aops_eff (AEff.conv (w_call0 (x := .tuple [.agg [.int v2.1.rows, .int v2.1.cols, .own 2 0 (List.map eI v2.1.cells).length], .own 3 0 (List.map eI v2.2).length]) (nb := [(2, ⟨1, absEs (List.map eI v2.1.cells)⟩), (3, ⟨1, absEs (List.map eI v2.2)⟩)]) (c_impl_reduce a0 v1 v2 hv2) rfl (by rfl) rfl rfl (gB_cons (g1_cons trivial (g1_cons trivial (g1_cons (okI.good _) g1_nil))) (gB_cons (okI.good _) gB_nil)) (va_cons (va_same rfl) (va_cons (va_agg' (v1_cons (v1_same rfl) (v1_cons (v1_same rfl) (v1_cons (v1_T okI rfl rfl) v1_nil)))) va_nil))) (v' := .tuple [.agg [.int v2.1.rows, .int v2.1.cols, .own 2 0 v2.1.cells.length], .own 3 0 v2.2.length]) (ed' := [(2, some ⟨1, List.map (ow eI) v2.1.cells⟩), (3, some ⟨1, List.map (ow eI) v2.2⟩)]) (by simp only [len_map]) (ed_ok (nb' := [(2, ⟨1, List.map (ow eI) v2.1.cells⟩), (3, ⟨1, List.map (ow eI) v2.2⟩)]) (by simp only [abs_map]))) rfl rfl rfl ?_
  refine aops_eff (eff_move rfl) rfl rfl rfl ?_
  refine aops_eff (eff_extract rfl rfl (by intro _ h; cases h)) rfl rfl rfl ?_
  refine aops_eff (eff_extract rfl rfl (by intro _ h; cases h)) rfl rfl rfl ?_
  refine aops_eff (w_alloc TT_ok rfl rfl) rfl rfl rfl ?_
  refine aops_eff (w_store TT_ok rfl rfl rfl rfl rfl rfl rfl rfl) rfl rfl rfl ?_
  refine aops_eff (eff_assign rfl) rfl rfl rfl ?_
  refine aops_nil ?_
  refine then_n ?_
  refine ac_ent (t := mkS [(1, .int a1), (6, .ptr 0 0 0), (7, .ptr 4 0 0), (8, .own 3 0 v2.2.length)] [(0, ⟨2, [[.int 0, .nil 1]]⟩), (2, ⟨1, List.map (ow eI) v2.1.cells⟩), (3, ⟨1, List.map (ow eI) v2.2⟩), (4, ⟨3, [[.int v2.1.rows, .int v2.1.cols, .own 2 0 v2.1.cells.length]]⟩)] 5 [5, 6, 7, 8, 9, 10, 11, 12, 13, 14, 15, 16, 17, 18]) (ent_mk (σ := sg [(0, 0), (2, 2), (3, 3), (4, 4)]) ⟨⟨_, rfl, rfl⟩, ⟨_, rfl, ⟨rfl, rfl, rfl, rfl⟩⟩, ⟨_, rfl, ⟨rfl, rfl, rfl, rfl⟩⟩, ⟨_, rfl, ⟨rfl, rfl, rfl, rfl⟩⟩, trivial⟩ ⟨⟨_, rfl, rfl, .inl ⟨rfl, plain_of rfl⟩⟩, rfl, ⟨_, rfl, rfl, .inl ⟨rfl, okI.plainO _⟩⟩, rfl, ⟨_, rfl, rfl, .inl ⟨rfl, okI.plainO _⟩⟩, rfl, ⟨_, rfl, rfl, .inr ⟨_, _, rfl, ⟨_, _, rfl, rfl, ⟨_, _, rfl, rfl, ⟨_, _, rfl, ⟨rfl, rfl, rfl, rfl⟩, rfl⟩⟩⟩, rfl⟩⟩, rfl, trivial⟩ rfl) ?_
  refine ac_seq ?_
  refine ac_region ?_
  refine aops_eff (eff_assign rfl) rfl rfl rfl ?_
  refine aops_nil ?_
  refine then_n ?_
  refine ac_seq ?_
  refine ac_seq ?_
  refine ac_region ?_
  refine aops_eff (eff_move rfl) rfl rfl rfl ?_
  refine aops_eff (w_len_own TT_ok rfl rfl rfl rfl) rfl rfl rfl ?_
  refine aops_eff (eff_move rfl) rfl rfl rfl ?_
  refine aops_nil ?_
  refine then_n ?_
  refine ac_block ?_
  obtain ⟨y7, hy7, h⟩ := ob h
  refine ac_Lp (body := (m_impl_span_L1 v2)) hy7 (fun (x1 : ((List (List Int)) × Int)) => mkS [(1, .int a1), (6, .ptr 0 0 0), (7, .ptr 1 0 0), (9, .own 3 0 x1.1.length), (20, .int ((v2.2.length : Nat) : Int)), (21, .int x1.2)] [(0, ⟨2, [[.int 0, .nil 1]]⟩), (1, ⟨3, [[.int v2.1.rows, .int v2.1.cols, .own 2 0 v2.1.cells.length]]⟩), (2, ⟨1, List.map (ow eI) v2.1.cells⟩), (3, ⟨1, List.map (ow (eLs 1 eI)) x1.1⟩)] 4 [4, 5, 6, 7, 8, 9, 10, 11, 12, 13, 14, 15, 16, 17]) (fun r e t => e = .exit 0 ∧ Ent t (mkS [(1, .int a1), (6, .ptr 0 0 0), (9, .own 1 0 r.length)] [(0, ⟨2, [[.int 0, .nil 1]]⟩), (1, ⟨1, List.map (ow (eLs 1 eI)) r⟩)] 2 [2, 3, 4, 5, 6, 7, 8, 9, 10, 11, 12, 13, 14, 15])) (ent_mk (σ := sg [(0, 0), (1, 4), (2, 2)]) ⟨⟨_, rfl, rfl⟩, ⟨_, rfl, ⟨rfl, rfl, rfl, rfl⟩⟩, ⟨_, rfl, ⟨rfl, rfl, rfl, rfl⟩⟩, ⟨_, rfl, ⟨rfl, rfl, rfl, rfl⟩⟩, ⟨_, rfl, rfl⟩, ⟨_, rfl, rfl⟩, trivial⟩ ⟨⟨_, rfl, rfl, .inl ⟨rfl, plain_of rfl⟩⟩, rfl, ⟨_, rfl, rfl, .inr ⟨_, _, rfl, ⟨_, _, rfl, rfl, ⟨_, _, rfl, rfl, ⟨_, _, rfl, ⟨rfl, rfl, rfl, rfl⟩, rfl⟩⟩⟩, rfl⟩⟩, rfl, ⟨_, rfl, rfl, .inl ⟨rfl, okI.plainO _⟩⟩, rfl, rfl, rfl, trivial⟩ rfl) ?_ ?_
  · intro x1 o h
    refine ac_seq ?_
    refine ac_region ?_
    refine aops_eff (w_cmp rfl rfl rfl) rfl rfl rfl ?_
    refine aops_nil ?_
    refine then_n ?_
    refine ac_seq ?_
    rcases cb h with ⟨q3, h⟩ | ⟨q3, h⟩
    · refine ac_condT rfl q3 ?_
      refine ac_skip ?_
      refine then_n ?_
      refine ac_seq ?_
      refine ac_block ?_
      refine ac_seq ?_
      refine ac_region ?_
      refine aops_eff (eff_move rfl) rfl rfl rfl ?_
      refine aops_eff (eff_assign rfl) rfl rfl rfl ?_
      refine aops_nil ?_
      refine then_n ?_
      refine ac_region ?_
      refine aops_eff (eff_move rfl) rfl rfl rfl ?_
      refine aops_eff (w_load_ptr TT_ok rfl rfl rfl rfl rfl rfl rfl) rfl rfl rfl ?_
      refine aops_eff (eff_move rfl) rfl rfl rfl ?_
      obtain ⟨v4, hv4, h⟩ := ob h
      refine aops_eff (AEff.pureE (eff_hasE (σ := sg [(0, 2)]) (σ' := sg [(2, 0)]) (touch := [2]) (news := []) (hl2 := [(2, ⟨1, List.map (ow eI) v2.1.cells⟩)]) (n' := 4) (r2 := .own 2 (0 + (wr (x1.2 * v2.1.cols)).toNat) ((wr ((wr (x1.2 + 1)) * v2.1.cols)).toNat - (wr (x1.2 * v2.1.cols)).toNat)) (c_impl_Matrix_row v2.1 x1.2 v4 hv4) rfl rfl ⟨_, _, rfl, ⟨_, _, rfl, rfl, ⟨_, _, rfl, rfl, ⟨_, _, rfl, ⟨rfl, rfl, rfl, rfl⟩, rfl⟩⟩⟩, ⟨_, _, rfl, rfl, rfl⟩⟩ ⟨⟨_, rfl, rfl, .inl ⟨rfl, okI.plainO _⟩⟩, rfl, trivial⟩ rfl rfl rfl ⟨⟨_, rfl, rfl, .inl ⟨rfl, okI.plainO _⟩⟩, rfl, trivial⟩ rfl ⟨rfl, rfl, (by simp only [len_map, List.length_append, List.length_set, List.length_replicate, List.length_cons, List.length_nil]), rfl⟩ rfl ⟨rfl, okI.tame _ _, trivial⟩ rfl rfl) ⟨rfl, rfl, trivial⟩) rfl rfl rfl ?_
      obtain ⟨v5, hv5, h⟩ := ob h
      refine aops_eff (AEff.conv (w_call0 (x := .own 4 0 (List.map eI v5).length) (nb := [(4, ⟨1, absEs (List.map eI v5)⟩)]) (c_Clone ((v2.1.cells.drop (0 + (wr (x1.2 * v2.1.cols)).toNat)).take ((wr ((wr (x1.2 + 1)) * v2.1.cols)).toNat - (wr (x1.2 * v2.1.cols)).toNat)) v5 hv5) rfl (by rfl) rfl rfl (okI.good _) (va_cons (va_part okI rfl) va_nil)) (v' := .own 4 0 v5.length) (ed' := [(4, some ⟨1, List.map (ow eI) v5⟩)]) (by simp only [len_map]) (ed_ok (nb' := [(4, ⟨1, List.map (ow eI) v5⟩)]) (by simp only [abs_map]))) rfl rfl rfl ?_
      refine aops_eff (w_lit TT_ok rfl rfl rfl rfl rfl rfl rfl rfl rfl rfl rfl rfl) rfl rfl rfl ?_
      obtain ⟨q6, h⟩ := cg h
      refine aops_eff (x_app1 TT_ok (l := x1.1) (c := [.own 4 0 v5.length]) q6 rfl rfl rfl rfl rfl rfl rfl rfl rfl rfl rfl rfl rfl rfl) rfl rfl rfl ?_
      refine aops_eff (eff_assign rfl) rfl rfl rfl ?_
      refine aops_nil ?_
      refine block_n ?_
      refine then_n ?_
      refine ac_ent (t := mkS [(1, .int a1), (6, .ptr 0 0 0), (7, .ptr 1 0 0), (9, .own 6 0 ((x1.1 ++ [v5]).length)), (20, .int ((v2.2.length : Nat) : Int)), (21, .int x1.2)] [(0, ⟨2, [[.int 0, .nil 1]]⟩), (1, ⟨3, [[.int v2.1.rows, .int v2.1.cols, .own 2 0 v2.1.cells.length]]⟩), (2, ⟨1, List.map (ow eI) v2.1.cells⟩), (6, ⟨1, List.map (ow (eLs 1 eI)) (x1.1 ++ [v5])⟩)] 7 [7, 8, 9, 10, 11, 12, 13, 14, 15, 16, 17, 18, 19, 20]) (Ent.trans (ent_absL (b := 6) (b' := 4) (j := 0) (es' := List.map eI v5) rfl rfl rfl rfl (len_map _ _) (okI.frzs _)) (ent_mk (σ := sg [(0, 0), (1, 1), (2, 2), (6, 6)]) ⟨⟨_, rfl, rfl⟩, ⟨_, rfl, ⟨rfl, rfl, rfl, rfl⟩⟩, ⟨_, rfl, ⟨rfl, rfl, rfl, rfl⟩⟩, ⟨_, rfl, ⟨rfl, rfl, (by simp only [len_map, List.length_append, List.length_set, List.length_replicate, List.length_cons, List.length_nil]), rfl⟩⟩, ⟨_, rfl, rfl⟩, ⟨_, rfl, rfl⟩, trivial⟩ ⟨⟨_, rfl, rfl, .inl ⟨rfl, plain_of rfl⟩⟩, rfl, ⟨_, rfl, rfl, .inr ⟨_, _, rfl, ⟨_, _, rfl, rfl, ⟨_, _, rfl, rfl, ⟨_, _, rfl, ⟨rfl, rfl, rfl, rfl⟩, rfl⟩⟩⟩, rfl⟩⟩, rfl, ⟨_, rfl, rfl, .inl ⟨rfl, okI.plainO _⟩⟩, rfl, ⟨_, rfl, rfl, .inl ⟨app_eq v5 rfl, okLs.plainO _⟩⟩, rfl, trivial⟩ rfl)) ?_
      refine ac_region ?_
      refine aops_eff (x_add rfl rfl) rfl rfl rfl ?_
      refine aops_eff (eff_move rfl) rfl rfl rfl ?_
      refine aops_nil ?_
      refine then_n ?_
      obtain rfl := so h
      exact ⟨_, rfl, (ent_mk (σ := sg [(0, 0), (1, 1), (2, 2), (3, 6)]) ⟨⟨_, rfl, rfl⟩, ⟨_, rfl, ⟨rfl, rfl, rfl, rfl⟩⟩, ⟨_, rfl, ⟨rfl, rfl, rfl, rfl⟩⟩, ⟨_, rfl, ⟨rfl, rfl, rfl, rfl⟩⟩, ⟨_, rfl, rfl⟩, ⟨_, rfl, rfl⟩, trivial⟩ ⟨⟨_, rfl, rfl, .inl ⟨rfl, plain_of rfl⟩⟩, rfl, ⟨_, rfl, rfl, .inr ⟨_, _, rfl, ⟨_, _, rfl, rfl, ⟨_, _, rfl, rfl, ⟨_, _, rfl, ⟨rfl, rfl, rfl, rfl⟩, rfl⟩⟩⟩, rfl⟩⟩, rfl, ⟨_, rfl, rfl, .inl ⟨rfl, okI.plainO _⟩⟩, rfl, ⟨_, rfl, rfl, .inl ⟨rfl, okLs.plainO _⟩⟩, rfl, trivial⟩ rfl)⟩
    · refine ac_condF rfl q3 ?_
      refine ac_exit ?_
      refine then_exit ?_
      refine then_exit ?_
      obtain rfl := so h
      exact ⟨_, rfl, rfl, (ent_mk (σ := sg [(0, 0), (1, 3)]) ⟨⟨_, rfl, rfl⟩, ⟨_, rfl, ⟨rfl, rfl, rfl, rfl⟩⟩, ⟨_, rfl, ⟨rfl, rfl, rfl, rfl⟩⟩, trivial⟩ ⟨⟨_, rfl, rfl, .inl ⟨rfl, plain_of rfl⟩⟩, rfl, ⟨_, rfl, rfl, .inl ⟨rfl, okLs.plainO _⟩⟩, rfl, trivial⟩ rfl)⟩
  · rintro e t ⟨rfl, hent⟩
    refine block_here ?_
    refine then_n ?_
    refine ac_ent hent ?_
    refine ac_seq ?_
    refine ac_region ?_
    refine aops_eff (eff_move rfl) rfl rfl rfl ?_
    refine aops_eff (eff_move rfl) rfl rfl rfl ?_
    refine aops_eff (w_build TT_ok rfl rfl rfl rfl rfl rfl) rfl rfl rfl ?_
    refine aops_eff (w_store TT_ok rfl rfl rfl rfl rfl rfl rfl rfl) rfl rfl rfl ?_
    refine aops_nil ?_
    refine then_n ?_
    refine ac_ret ?_
    obtain rfl := so h
    exact ret_mk rfl rfl rfl (xz_agg (x1_cons (rfl) (x1_cons (x_f1 okLs rfl rfl) x1_nil)))

noncomputable def m_impl_imageSub_L1 (a0 : Int) (a1 : (List Mt)) (x1 : ((List Sc) × Int)) : Option (((List Sc) × Int) ⊕ (List Sc)) :=
  bif decide (x1.2 < (a1.length : Int)) then
    (Option.bind (atL a1 x1.2) fun v2 =>
    Option.bind (m_impl_Matrix_columns v2) fun v3 =>
    Option.bind (m_impl_span a0 v2.rows v3) fun v4 =>
    bif decide (x1.1.length + 1 ≤ 4294967296) then
      (some (.inl ((x1.1 ++ [v4]), wr (x1.2 + 1))))
    else none)
  else
    (some (.inr x1.1))

noncomputable def m_impl_imageSub (a0 : Int) (a1 : (List Mt)) : Option (List Sc) :=
  Option.bind (Lp (m_impl_imageSub_L1 a0 a1) ([], 0)) fun y6 =>
  some (y6)

theorem c_impl_imageSub (a0 : Int) (a1 : (List Mt)) (r : (List Sc)) (h : m_impl_imageSub a0 a1 = some r) : HasC Try.prog 53 [.int a0, .list 3 (List.map eM a1)] (.list 2 (List.map eS r)) := by
  refine hasC_mk TT_ok (rvs := [.tmp 4]) (ns := [0, 1, 2, 3, 4, 5, 6, 7, 8, 9, 10, 11, 12, 13]) Try.func53 rfl rfl Try.ntmps53 rfl rfl rfl ?_
  refine ac_seq ?_
  refine ac_region ?_
  refine aops_eff (eff_assign rfl) rfl rfl rfl ?_
  refine aops_nil ?_
  refine then_n ?_
  refine ac_seq ?_
  refine ac_region ?_
  refine aops_eff (eff_assign rfl) rfl rfl rfl ?_
  refine aops_nil ?_
  refine then_n ?_
  refine ac_seq ?_
  refine ac_seq ?_
  refine ac_region ?_
  refine aops_eff (eff_move rfl) rfl rfl rfl ?_
  refine aops_eff (AEff.val (w_len_list TT_ok rfl rfl rfl) (v' := .int (a1.length : Int)) (by first | rw [len_map] | rw [encI_len])) rfl rfl rfl ?_
  refine aops_eff (eff_move rfl) rfl rfl rfl ?_
  refine aops_nil ?_
  refine then_n ?_
  refine ac_block ?_
  obtain ⟨y6, hy6, h⟩ := ob h
  refine ac_Lp (body := (m_impl_imageSub_L1 a0 a1)) hy6 (fun (x1 : ((List Sc) × Int)) => mkS [(0, .int a0), (5, .own 0 0 x1.1.length), (8, .list 3 (List.map eM a1)), (9, .int (a1.length : Int)), (10, .int x1.2)] [(0, ⟨2, List.map (ow eS) x1.1⟩)] 1 [1, 2, 3, 4, 5, 6, 7, 8, 9, 10, 11, 12, 13, 14]) (fun r e t => e = .exit 0 ∧ Ent t (mkS [(5, .own 0 0 r.length)] [(0, ⟨2, List.map (ow eS) r⟩)] 1 [1, 2, 3, 4, 5, 6, 7, 8, 9, 10, 11, 12, 13, 14])) (ent_mk (σ := sg []) ⟨⟨_, rfl, rfl⟩, ⟨_, rfl, ⟨rfl, rfl, rfl, rfl⟩⟩, ⟨_, rfl, ⟨rfl, rfl⟩⟩, ⟨_, rfl, rfl⟩, ⟨_, rfl, rfl⟩, trivial⟩ ⟨rfl, rfl, trivial⟩ rfl) ?_ ?_
  · intro x1 o h
    refine ac_seq ?_
    refine ac_region ?_
    refine aops_eff (w_cmp rfl rfl rfl) rfl rfl rfl ?_
    refine aops_nil ?_
    refine then_n ?_
    refine ac_seq ?_
    rcases cb h with ⟨q1, h⟩ | ⟨q1, h⟩
    · refine ac_condT rfl q1 ?_
      refine ac_skip ?_
      refine then_n ?_
      refine ac_seq ?_
      refine ac_block ?_
      refine ac_seq ?_
      refine ac_region ?_
      obtain ⟨v2, hv2, h⟩ := ob h
      refine aops_eff (x_at_list TT_ok hv2 rfl rfl rfl rfl rfl rfl) rfl rfl rfl ?_
      refine aops_eff (w_load_ref TT_ok rfl rfl rfl rfl rfl rfl) rfl rfl rfl ?_
      refine aops_eff (w_alloc TT_ok rfl rfl) rfl rfl rfl ?_
      refine aops_eff (w_store TT_ok rfl rfl rfl rfl rfl rfl rfl rfl) rfl rfl rfl ?_
      refine aops_nil ?_
      refine then_n ?_
      refine ac_region_draw MIXX ?_
      refine aops_eff (eff_move rfl) rfl rfl rfl ?_
      refine aops_eff (eff_move rfl) rfl rfl rfl ?_
      refine aops_eff (w_field_ptr TT_ok rfl rfl rfl rfl rfl rfl rfl) rfl rfl rfl ?_
      refine aops_eff (w_load_ptr TT_ok rfl rfl rfl rfl rfl rfl rfl) rfl rfl rfl ?_
      refine aops_eff (w_load_ptr TT_ok rfl rfl rfl rfl rfl rfl rfl) rfl rfl rfl ?_
      obtain ⟨v3, hv3, h⟩ := ob h
      refine aops_eff (AEff.conv (w_call0 (x := .own 2 0 (List.map (eLs 1 eI) v3).length) (nb := [(2, ⟨1, absEs (List.map (eLs 1 eI) v3)⟩)]) (c_impl_Matrix_columns v2 v3 hv3) rfl (by rfl) rfl rfl (okLs.good _) (va_cons (va_agg' (v1_cons (v1_same rfl) (v1_cons (v1_same rfl) (v1_cons (v1_same rfl) v1_nil)))) va_nil)) (v' := .own 2 0 v3.length) (ed' := [(2, some ⟨1, List.map (ow (eLs 1 eI)) v3⟩)]) (by simp only [len_map]) (ed_ok (nb' := [(2, ⟨1, List.map (ow (eLs 1 eI)) v3⟩)]) (by simp only [abs_map]))) rfl rfl rfl ?_
      obtain ⟨v4, hv4, h⟩ := ob h
      refine aops_eff (AEff.conv (w_call0 (x := .agg [.int v4.size, .own 3 0 (List.map (eLs 1 eI) v4.basis).length]) (nb := [(3, ⟨1, absEs (List.map (eLs 1 eI) v4.basis)⟩)]) (c_impl_span a0 v2.rows v3 v4 hv4) rfl (by rfl) rfl rfl (g1_cons trivial (g1_cons (okLs.good _) g1_nil)) (va_cons (va_same rfl) (va_cons (va_same rfl) (va_cons (va_T okLs rfl rfl) va_nil)))) (v' := .agg [.int v4.size, .own 3 0 v4.basis.length]) (ed' := [(3, some ⟨1, List.map (ow (eLs 1 eI)) v4.basis⟩)]) (by simp only [len_map]) (ed_ok (nb' := [(3, ⟨1, List.map (ow (eLs 1 eI)) v4.basis⟩)]) (by simp only [abs_map]))) rfl rfl rfl ?_
      refine aops_eff (w_lit TT_ok rfl rfl rfl rfl rfl rfl rfl rfl rfl rfl rfl rfl) rfl rfl rfl ?_
      obtain ⟨q5, h⟩ := cg h
      refine aops_eff (x_app1 TT_ok (l := x1.1) (c := [.int v4.size, .own 3 0 v4.basis.length]) q5 rfl rfl rfl rfl rfl rfl rfl rfl rfl rfl rfl rfl rfl rfl) rfl rfl rfl ?_
      refine aops_eff (eff_assign rfl) rfl rfl rfl ?_
      refine aops_nil ?_
      refine ⟨by kernel_rfl, ?_⟩
      refine block_n ?_
      refine then_n ?_
      refine ac_ent (t := mkS [(0, .int a0), (5, .own 5 0 ((x1.1 ++ [v4]).length)), (8, .list 3 (List.map eM a1)), (9, .int (a1.length : Int)), (10, .int x1.2)] [(5, ⟨2, List.map (ow eS) (x1.1 ++ [v4])⟩)] 6 [6, 7, 8, 9, 10, 11, 12, 13, 14, 15, 16, 17, 18, 19]) (Ent.trans (ent_absL (b := 5) (b' := 3) (j := 1) (es' := List.map (eLs 1 eI) v4.basis) rfl rfl rfl rfl (len_map _ _) (okLs.frzs _)) (ent_mk (σ := sg [(5, 5)]) ⟨⟨_, rfl, rfl⟩, ⟨_, rfl, ⟨rfl, rfl, (by simp only [len_map, List.length_append, List.length_set, List.length_replicate, List.length_cons, List.length_nil]), rfl⟩⟩, ⟨_, rfl, ⟨rfl, rfl⟩⟩, ⟨_, rfl, rfl⟩, ⟨_, rfl, rfl⟩, trivial⟩ ⟨⟨_, rfl, rfl, .inl ⟨app_eq v4 rfl, okSc.plainO _⟩⟩, rfl, trivial⟩ rfl)) ?_
      refine ac_region ?_
      refine aops_eff (x_add rfl rfl) rfl rfl rfl ?_
      refine aops_eff (eff_move rfl) rfl rfl rfl ?_
      refine aops_nil ?_
      refine then_n ?_
      obtain rfl := so h
      exact ⟨_, rfl, (ent_mk (σ := sg [(0, 5)]) ⟨⟨_, rfl, rfl⟩, ⟨_, rfl, ⟨rfl, rfl, rfl, rfl⟩⟩, ⟨_, rfl, ⟨rfl, rfl⟩⟩, ⟨_, rfl, rfl⟩, ⟨_, rfl, rfl⟩, trivial⟩ ⟨⟨_, rfl, rfl, .inl ⟨rfl, okSc.plainO _⟩⟩, rfl, trivial⟩ rfl)⟩
    · refine ac_condF rfl q1 ?_
      refine ac_exit ?_
      refine then_exit ?_
      refine then_exit ?_
      obtain rfl := so h
      exact ⟨_, rfl, rfl, (ent_mk (σ := sg [(0, 0)]) ⟨⟨_, rfl, ⟨rfl, rfl, rfl, rfl⟩⟩, trivial⟩ ⟨⟨_, rfl, rfl, .inl ⟨rfl, okSc.plainO _⟩⟩, rfl, trivial⟩ rfl)⟩
  · rintro e t ⟨rfl, hent⟩
    refine block_here ?_
    refine then_n ?_
    refine ac_ent hent ?_
    refine ac_seq ?_
    refine ac_region ?_
    refine aops_eff (eff_move rfl) rfl rfl rfl ?_
    refine aops_eff (eff_assign rfl) rfl rfl rfl ?_
    refine aops_nil ?_
    refine then_n ?_
    refine ac_ret ?_
    obtain rfl := so h
    exact ret_mk rfl rfl rfl (xz_list (x_f1 okSc rfl rfl))

noncomputable def m_impl_SubspacesOf (a0 : Rp) : Option ((List Sc) × Bool) :=
  Option.bind (m_impl_StarOf (wr (a0.q.n - 1))) fun v1 =>
  bif !v1.2 then
    (some (([], false)))
  else
    (Option.bind (m_impl_IsRep a0) fun v3 =>
    bif !v3 then
      (some (([], false)))
    else
      (Option.bind (m_impl_EqualQuivers v1.1 a0.q) fun v5 =>
      bif !v5 then
        (some (([], false)))
      else
        (Option.bind (m_impl_imageSub a0.p a0.maps) fun v7 =>
        some ((v7, true)))))

theorem c_impl_SubspacesOf (a0 : Rp) (r : ((List Sc) × Bool)) (h : m_impl_SubspacesOf a0 = some r) : HasC Try.prog 14 [.agg (eR a0)] (.tuple [.list 2 (List.map eS r.1), .bl r.2]) := by
  refine hasC_mk TT_ok (rvs := [.tmp 2, .tmp 3]) (ns := [0, 1, 2, 3, 4, 5, 6, 7, 8, 9, 10, 11, 12, 13]) Try.func14 rfl rfl Try.ntmps14 rfl rfl rfl ?_
  refine ac_seq ?_
  refine ac_region ?_
  refine aops_eff (w_box rfl rfl rfl rfl) rfl rfl rfl ?_
  refine aops_eff (eff_assign rfl) rfl rfl rfl ?_
  refine aops_eff (eff_assign rfl) rfl rfl rfl ?_
  refine aops_nil ?_
  refine then_n ?_
  refine ac_seq ?_
  refine ac_region ?_
  refine aops_eff (w_field_ptr TT_ok rfl rfl rfl rfl rfl rfl rfl) rfl rfl rfl ?_
  refine aops_eff (w_field_ptr TT_ok rfl rfl rfl rfl rfl rfl rfl) rfl rfl rfl ?_
  refine aops_eff (w_load_ptr TT_ok rfl rfl rfl rfl rfl rfl rfl) rfl rfl rfl ?_
  refine aops_eff (x_sub rfl rfl) rfl rfl rfl ?_
  obtain ⟨v1, hv1, h⟩ := ob h
  refine aops_eff (AEff.conv (w_call0 (x := .tuple [.agg [.int v1.1.n, .own 1 0 (List.map eI v1.1.src).length, .own 2 0 (List.map eI v1.1.tgt).length], .bl v1.2]) (nb := [(1, ⟨1, absEs (List.map eI v1.1.src)⟩), (2, ⟨1, absEs (List.map eI v1.1.tgt)⟩)]) (c_impl_StarOf (wr (a0.q.n - 1)) v1 hv1) rfl (by rfl) rfl rfl (gB_cons (g1_cons trivial (g1_cons (okI.good _) (g1_cons (okI.good _) g1_nil))) (gB_cons trivial gB_nil)) (va_cons (va_same rfl) va_nil)) (v' := .tuple [.agg [.int v1.1.n, .own 1 0 v1.1.src.length, .own 2 0 v1.1.tgt.length], .bl v1.2]) (ed' := [(1, some ⟨1, List.map (ow eI) v1.1.src⟩), (2, some ⟨1, List.map (ow eI) v1.1.tgt⟩)]) (by simp only [len_map]) (ed_ok (nb' := [(1, ⟨1, List.map (ow eI) v1.1.src⟩), (2, ⟨1, List.map (ow eI) v1.1.tgt⟩)]) (by simp only [abs_map]))) rfl rfl rfl ?_
  refine aops_eff (eff_move rfl) rfl rfl rfl ?_
  refine aops_eff (eff_extract rfl rfl (by intro _ h; cases h)) rfl rfl rfl ?_
  refine aops_eff (eff_extract rfl rfl (by intro _ h; cases h)) rfl rfl rfl ?_
  refine aops_eff (w_alloc TT_ok rfl rfl) rfl rfl rfl ?_
  refine aops_eff (w_store TT_ok rfl rfl rfl rfl rfl rfl rfl rfl) rfl rfl rfl ?_
  refine aops_eff (eff_assign rfl) rfl rfl rfl ?_
  refine aops_nil ?_
  refine then_n ?_
  refine ac_ent (t := mkS [(1, .ptr 0 0 0), (4, .ptr 3 0 0), (5, .bl v1.2)] [(0, ⟨6, [[.int a0.p, .int a0.q.n, .list 1 (List.map eI a0.q.src), .list 1 (List.map eI a0.q.tgt), .list 1 (List.map eI a0.dims), .list 3 (List.map eM a0.maps)]]⟩), (1, ⟨1, List.map (ow eI) v1.1.src⟩), (2, ⟨1, List.map (ow eI) v1.1.tgt⟩), (3, ⟨3, [[.int v1.1.n, .own 1 0 v1.1.src.length, .own 2 0 v1.1.tgt.length]]⟩)] 4 [4, 5, 6, 7, 8, 9, 10, 11, 12, 13, 14, 15, 16, 17]) (ent_mk (σ := sg [(0, 0), (1, 1), (2, 2), (3, 3)]) ⟨⟨_, rfl, ⟨rfl, rfl, rfl, rfl⟩⟩, ⟨_, rfl, ⟨rfl, rfl, rfl, rfl⟩⟩, ⟨_, rfl, rfl⟩, trivial⟩ ⟨⟨_, rfl, rfl, .inl ⟨rfl, plain_of rfl⟩⟩, rfl, ⟨_, rfl, rfl, .inl ⟨rfl, okI.plainO _⟩⟩, rfl, ⟨_, rfl, rfl, .inl ⟨rfl, okI.plainO _⟩⟩, rfl, ⟨_, rfl, rfl, .inr ⟨_, _, rfl, ⟨_, _, rfl, rfl, ⟨_, _, rfl, ⟨rfl, rfl, rfl, rfl⟩, ⟨_, _, rfl, ⟨rfl, rfl, rfl, rfl⟩, rfl⟩⟩⟩, rfl⟩⟩, rfl, trivial⟩ rfl) ?_
  refine ac_seq ?_
  refine ac_seq ?_
  refine ac_region ?_
  refine aops_eff (eff_move rfl) rfl rfl rfl ?_
  refine aops_eff (w_not rfl) rfl rfl rfl ?_
  refine aops_eff (eff_move rfl) rfl rfl rfl ?_
  rcases cb h with ⟨q2, h⟩ | ⟨q2, h⟩
  · refine aops_lit 16 rfl q2 ?_
    refine aops_skip rfl rfl ?_
    refine aops_skip rfl rfl ?_
    refine aops_skip rfl rfl ?_
    refine aops_eff (eff_pick rfl rfl) rfl rfl rfl ?_
    refine aops_eff (eff_move rfl) rfl rfl rfl ?_
    refine aops_skip rfl rfl ?_
    refine aops_skip rfl rfl ?_
    refine aops_skip rfl rfl ?_
    refine aops_skip rfl rfl ?_
    refine aops_skip rfl rfl ?_
    refine aops_eff (eff_pick rfl rfl) rfl rfl rfl ?_
    refine aops_nil ?_
    refine then_n ?_
    refine ac_ent (t := mkS [(1, .ptr 0 0 0), (27, .bl true)] [(0, ⟨6, [[.int a0.p, .int a0.q.n, .list 1 (List.map eI a0.q.src), .list 1 (List.map eI a0.q.tgt), .list 1 (List.map eI a0.dims), .list 3 (List.map eM a0.maps)]]⟩)] 4 [4, 5, 6, 7, 8, 9, 10, 11, 12, 13, 14, 15, 16, 17]) (ent_mk (σ := sg [(0, 0)]) ⟨⟨_, rfl, ⟨rfl, rfl, rfl, rfl⟩⟩, ⟨_, rfl, rfl⟩, trivial⟩ ⟨⟨_, rfl, rfl, .inl ⟨rfl, plain_of rfl⟩⟩, rfl, trivial⟩ rfl) ?_
    refine ac_condT rfl rfl ?_
    refine ac_seq ?_
    refine ac_region ?_
    refine aops_eff (eff_assign rfl) rfl rfl rfl ?_
    refine aops_eff (eff_assign rfl) rfl rfl rfl ?_
    refine aops_nil ?_
    refine then_n ?_
    refine ac_ret ?_
    refine then_ret ?_
    obtain rfl := so h
    exact ret_mk rfl rfl rfl (xz_tuple rfl (xB_cons (xB_one (rfl)) (xB_cons (rfl) xB_nil)))
  · refine aops_lit 16 rfl q2 ?_
    refine aops_eff (w_load_ptr TT_ok rfl rfl rfl rfl rfl rfl rfl) rfl rfl rfl ?_
    obtain ⟨v3, hv3, h⟩ := ob h
    refine aops_eff (w_call0s (c_impl_IsRep a0 v3 hv3) rfl (va_cons (va_agg' (v1_cons (v1_same rfl) (v1_cons (v1_same rfl) (v1_cons (v1_same rfl) (v1_cons (v1_same rfl) (v1_cons (v1_same rfl) (v1_cons (v1_same rfl) v1_nil))))))) va_nil)) rfl rfl rfl ?_
    refine aops_eff (w_not rfl) rfl rfl rfl ?_
    refine aops_eff (eff_pick rfl rfl) rfl rfl rfl ?_
    refine aops_eff (eff_move rfl) rfl rfl rfl ?_
    rcases cb h with ⟨q4, h⟩ | ⟨q4, h⟩
    · refine aops_lit 21 rfl q4 ?_
      refine aops_skip rfl rfl ?_
      refine aops_skip rfl rfl ?_
      refine aops_skip rfl rfl ?_
      refine aops_skip rfl rfl ?_
      refine aops_skip rfl rfl ?_
      refine aops_eff (eff_pick rfl rfl) rfl rfl rfl ?_
      refine aops_nil ?_
      refine then_n ?_
      refine ac_ent (t := mkS [(1, .ptr 0 0 0), (27, .bl true)] [(0, ⟨6, [[.int a0.p, .int a0.q.n, .list 1 (List.map eI a0.q.src), .list 1 (List.map eI a0.q.tgt), .list 1 (List.map eI a0.dims), .list 3 (List.map eM a0.maps)]]⟩)] 4 [4, 5, 6, 7, 8, 9, 10, 11, 12, 13, 14, 15, 16, 17]) (ent_mk (σ := sg [(0, 0)]) ⟨⟨_, rfl, ⟨rfl, rfl, rfl, rfl⟩⟩, ⟨_, rfl, rfl⟩, trivial⟩ ⟨⟨_, rfl, rfl, .inl ⟨rfl, plain_of rfl⟩⟩, rfl, trivial⟩ rfl) ?_
      refine ac_condT rfl rfl ?_
      refine ac_seq ?_
      refine ac_region ?_
      refine aops_eff (eff_assign rfl) rfl rfl rfl ?_
      refine aops_eff (eff_assign rfl) rfl rfl rfl ?_
      refine aops_nil ?_
      refine then_n ?_
      refine ac_ret ?_
      refine then_ret ?_
      obtain rfl := so h
      exact ret_mk rfl rfl rfl (xz_tuple rfl (xB_cons (xB_one (rfl)) (xB_cons (rfl) xB_nil)))
    · refine aops_lit 21 rfl q4 ?_
      refine aops_eff (w_load_ptr TT_ok rfl rfl rfl rfl rfl rfl rfl) rfl rfl rfl ?_
      refine aops_eff (w_field_ptr TT_ok rfl rfl rfl rfl rfl rfl rfl) rfl rfl rfl ?_
      refine aops_eff (w_load_ptr TT_ok rfl rfl rfl rfl rfl rfl rfl) rfl rfl rfl ?_
      obtain ⟨v5, hv5, h⟩ := ob h
      refine aops_eff (w_call0s (c_impl_EqualQuivers v1.1 a0.q v5 hv5) rfl (va_cons (va_agg' (v1_cons (v1_same rfl) (v1_cons (v1_T okI rfl rfl) (v1_cons (v1_T okI rfl rfl) v1_nil)))) (va_cons (va_agg' (v1_cons (v1_same rfl) (v1_cons (v1_same rfl) (v1_cons (v1_same rfl) v1_nil)))) va_nil))) rfl rfl rfl ?_
      refine aops_eff (w_not rfl) rfl rfl rfl ?_
      refine aops_eff (eff_pick rfl rfl) rfl rfl rfl ?_
      refine aops_nil ?_
      refine then_n ?_
      refine ac_ent (t := mkS [(1, .ptr 0 0 0), (27, .bl (!v5))] [(0, ⟨6, [[.int a0.p, .int a0.q.n, .list 1 (List.map eI a0.q.src), .list 1 (List.map eI a0.q.tgt), .list 1 (List.map eI a0.dims), .list 3 (List.map eM a0.maps)]]⟩)] 4 [4, 5, 6, 7, 8, 9, 10, 11, 12, 13, 14, 15, 16, 17]) (ent_mk (σ := sg [(0, 0)]) ⟨⟨_, rfl, ⟨rfl, rfl, rfl, rfl⟩⟩, ⟨_, rfl, rfl⟩, trivial⟩ ⟨⟨_, rfl, rfl, .inl ⟨rfl, plain_of rfl⟩⟩, rfl, trivial⟩ rfl) ?_
      rcases cb h with ⟨q6, h⟩ | ⟨q6, h⟩
      · refine ac_condT rfl q6 ?_
        refine ac_seq ?_
        refine ac_region ?_
        refine aops_eff (eff_assign rfl) rfl rfl rfl ?_
        refine aops_eff (eff_assign rfl) rfl rfl rfl ?_
        refine aops_nil ?_
        refine then_n ?_
        refine ac_ret ?_
        refine then_ret ?_
        obtain rfl := so h
        exact ret_mk rfl rfl rfl (xz_tuple rfl (xB_cons (xB_one (rfl)) (xB_cons (rfl) xB_nil)))
      · refine ac_condF rfl q6 ?_
        refine ac_skip ?_
        refine then_n ?_
        refine ac_seq ?_
        refine ac_region ?_
        refine aops_eff (w_field_ptr TT_ok rfl rfl rfl rfl rfl rfl rfl) rfl rfl rfl ?_
        refine aops_eff (w_load_ptr TT_ok rfl rfl rfl rfl rfl rfl rfl) rfl rfl rfl ?_
        refine aops_eff (w_field_ptr TT_ok rfl rfl rfl rfl rfl rfl rfl) rfl rfl rfl ?_
        refine aops_eff (w_load_ptr TT_ok rfl rfl rfl rfl rfl rfl rfl) rfl rfl rfl ?_
        obtain ⟨v7, hv7, h⟩ := ob h
        refine aops_eff (AEff.conv (w_call0 (x := .own 4 0 (List.map eS v7).length) (nb := [(4, ⟨2, absEs (List.map eS v7)⟩)]) (c_impl_imageSub a0.p a0.maps v7 hv7) rfl (by rfl) rfl rfl (okSc.good _) (va_cons (va_same rfl) (va_cons (va_same rfl) va_nil))) (v' := .own 4 0 v7.length) (ed' := [(4, some ⟨2, List.map (ow eS) v7⟩)]) (by simp only [len_map]) (ed_ok (nb' := [(4, ⟨2, List.map (ow eS) v7⟩)]) (by simp only [abs_map]))) rfl rfl rfl ?_
        refine aops_eff (eff_assign rfl) rfl rfl rfl ?_
        refine aops_eff (eff_assign rfl) rfl rfl rfl ?_
        refine aops_nil ?_
        refine then_n ?_
        refine ac_ret ?_
        obtain rfl := so h
        exact ret_mk rfl rfl rfl (xz_tuple rfl (xB_cons (xB_one (x_f1 okSc rfl rfl)) (xB_cons (rfl) xB_nil)))

noncomputable def m_spec_l4Image_L2 (a1 : Mt) (v1 : (Mt × (List Int))) (x1 : ((List (List Int)) × Int)) (x2 : ((List Int) × Int)) : Option (((List Int) × Int) ⊕ (List Int)) :=
  bif decide (x2.2 < a1.rows) then
    (Option.bind (atL v1.2 x1.2) fun v4 =>
    Option.bind (atL a1.cells (wr ((wr (x2.2 * a1.cols)) + v4))) fun v5 =>
    bif decide (x2.1.length + [v5].length ≤ 4294967296) then
      (some (.inl ((x2.1 ++ [v5]), wr (x2.2 + 1))))
    else none)
  else
    (some (.inr x2.1))

noncomputable def m_spec_l4Image_L1 (a1 : Mt) (v1 : (Mt × (List Int))) (x1 : ((List (List Int)) × Int)) : Option (((List (List Int)) × Int) ⊕ (List (List Int))) :=
  bif decide (x1.2 < ((v1.2.length : Nat) : Int)) then
    (Option.bind (Lp (m_spec_l4Image_L2 a1 v1 x1) (([] : (List Int)), 0)) fun y7 =>
    bif decide (x1.1.length + 1 ≤ 4294967296) then
      (some (.inl ((x1.1 ++ [y7]), wr (x1.2 + 1))))
    else none)
  else
    (some (.inr x1.1))

noncomputable def m_spec_l4Image (a0 : Int) (a1 : Mt) : Option (List (List Int)) :=
  Option.bind (m_spec_l4Reduce a0 a1) fun v1 =>
  Option.bind (Lp (m_spec_l4Image_L1 a1 v1) (([] : (List (List Int))), 0)) fun y9 =>
  some (y9)

theorem c_spec_l4Image (a0 : Int) (a1 : Mt) (r : (List (List Int))) (h : m_spec_l4Image a0 a1 = some r) : HasC Try.prog 50 [.int a0, .agg (eM a1)] (.list 1 (List.map (eLs 1 eI) r)) := by
  refine hasC_mk TT_ok (rvs := [.tmp 4]) (ns := [0, 1, 2, 3, 4, 5, 6, 7, 8, 9, 10, 11, 12, 13]) Try.func50 rfl rfl Try.ntmps50 rfl rfl rfl ?_
  refine ac_seq ?_
  refine ac_region ?_
  refine aops_eff (w_box rfl rfl rfl rfl) rfl rfl rfl ?_
  refine aops_eff (eff_assign rfl) rfl rfl rfl ?_
  refine aops_nil ?_
  refine then_n ?_
  refine ac_seq ?_
  refine ac_region ?_
  refine aops_eff (eff_move rfl) rfl rfl rfl ?_
  refine aops_eff (w_load_ptr TT_ok rfl rfl rfl rfl rfl rfl rfl) rfl rfl rfl ?_
  obtain ⟨v1, hv1, h⟩ := ob h
  refine aops_eff (AEff.conv (w_call0 (x := .tuple [.agg [.int v1.1.rows, .int v1.1.cols, .own 1 0 (List.map eI v1.1.cells).length], .own 2 0 (List.map eI v1.2).length]) (nb := [(1, ⟨1, absEs (List.map eI v1.1.cells)⟩), (2, ⟨1, absEs (List.map eI v1.2)⟩)]) (c_spec_l4Reduce a0 a1 v1 hv1) rfl (by rfl) rfl rfl (gB_cons (g1_cons trivial (g1_cons trivial (g1_cons (okI.good _) g1_nil))) (gB_cons (okI.good _) gB_nil)) (va_cons (va_same rfl) (va_cons (va_agg' (v1_cons (v1_same rfl) (v1_cons (v1_same rfl) (v1_cons (v1_same rfl) v1_nil)))) va_nil))) (v' := .tuple [.agg [.int v1.1.rows, .int v1.1.cols, .own 1 0 v1.1.cells.length], .own 2 0 v1.2.length]) (ed' := [(1, some ⟨1, List.map (ow eI) v1.1.cells⟩), (2, some ⟨1, List.map (ow eI) v1.2⟩)]) (by simp only [len_map]) (ed_ok (nb' := [(1, ⟨1, List.map (ow eI) v1.1.cells⟩), (2, ⟨1, List.map (ow eI) v1.2⟩)]) (by simp only [abs_map]))) rfl rfl rfl ?_
  refine aops_eff (eff_move rfl) rfl rfl rfl ?_
  refine aops_eff (eff_extract rfl rfl (by intro _ h; cases h)) rfl rfl rfl ?_
  refine aops_eff (eff_extract rfl rfl (by intro _ h; cases h)) rfl rfl rfl ?_
  refine aops_eff (w_alloc TT_ok rfl rfl) rfl rfl rfl ?_
  refine aops_eff (w_store TT_ok rfl rfl rfl rfl rfl rfl rfl rfl) rfl rfl rfl ?_
  refine aops_eff (eff_assign rfl) rfl rfl rfl ?_
  refine aops_nil ?_
  refine then_n ?_
  refine ac_seq ?_
  refine ac_region ?_
  refine aops_eff (w_lit TT_ok rfl rfl rfl rfl rfl rfl rfl rfl rfl rfl rfl rfl) rfl rfl rfl ?_
  refine aops_eff (eff_assign rfl) rfl rfl rfl ?_
  refine aops_nil ?_
  refine then_n ?_
  refine ac_ent (t := mkS [(3, .ptr 0 0 0), (6, .own 2 0 v1.2.length), (7, .own 4 0 (([] : (List (List Int))).length))] [(0, ⟨3, [[.int a1.rows, .int a1.cols, .list 1 (List.map eI a1.cells)]]⟩), (2, ⟨1, List.map (ow eI) v1.2⟩), (4, ⟨1, List.map (ow (eLs 1 eI)) ([] : (List (List Int)))⟩)] 5 [5, 6, 7, 8, 9, 10, 11, 12, 13, 14, 15, 16, 17, 18]) (ent_mk (σ := sg [(0, 0), (2, 2), (4, 4)]) ⟨⟨_, rfl, ⟨rfl, rfl, rfl, rfl⟩⟩, ⟨_, rfl, ⟨rfl, rfl, rfl, rfl⟩⟩, ⟨_, rfl, ⟨rfl, rfl, (by simp only [len_map, List.length_append, List.length_set, List.length_replicate, List.length_cons, List.length_nil]), rfl⟩⟩, trivial⟩ ⟨⟨_, rfl, rfl, .inl ⟨rfl, plain_of rfl⟩⟩, rfl, ⟨_, rfl, rfl, .inl ⟨rfl, okI.plainO _⟩⟩, rfl, ⟨_, rfl, rfl, .inl ⟨rfl, okLs.plainO _⟩⟩, rfl, trivial⟩ rfl) ?_
  refine ac_seq ?_
  refine ac_seq ?_
  refine ac_region ?_
  refine aops_eff (eff_assign rfl) rfl rfl rfl ?_
  refine aops_nil ?_
  refine then_n ?_
  refine ac_block ?_
  obtain ⟨y9, hy9, h⟩ := ob h
  refine ac_Lp (body := (m_spec_l4Image_L1 a1 v1)) hy9 (fun (x1 : ((List (List Int)) × Int)) => mkS [(3, .ptr 0 0 0), (6, .own 1 0 v1.2.length), (7, .own 2 0 x1.1.length), (8, .int x1.2)] [(0, ⟨3, [[.int a1.rows, .int a1.cols, .list 1 (List.map eI a1.cells)]]⟩), (1, ⟨1, List.map (ow eI) v1.2⟩), (2, ⟨1, List.map (ow (eLs 1 eI)) x1.1⟩)] 3 [3, 4, 5, 6, 7, 8, 9, 10, 11, 12, 13, 14, 15, 16]) (fun r e t => e = .exit 0 ∧ Ent t (mkS [(7, .own 0 0 r.length)] [(0, ⟨1, List.map (ow (eLs 1 eI)) r⟩)] 1 [1, 2, 3, 4, 5, 6, 7, 8, 9, 10, 11, 12, 13, 14])) (ent_mk (σ := sg [(0, 0), (1, 2), (2, 4)]) ⟨⟨_, rfl, ⟨rfl, rfl, rfl, rfl⟩⟩, ⟨_, rfl, ⟨rfl, rfl, rfl, rfl⟩⟩, ⟨_, rfl, ⟨rfl, rfl, rfl, rfl⟩⟩, ⟨_, rfl, rfl⟩, trivial⟩ ⟨⟨_, rfl, rfl, .inl ⟨rfl, plain_of rfl⟩⟩, rfl, ⟨_, rfl, rfl, .inl ⟨rfl, okI.plainO _⟩⟩, rfl, ⟨_, rfl, rfl, .inl ⟨rfl, okLs.plainO _⟩⟩, rfl, trivial⟩ rfl) ?_ ?_
  · intro x1 o h
    refine ac_seq ?_
    refine ac_seq ?_
    refine ac_region ?_
    refine aops_eff (eff_move rfl) rfl rfl rfl ?_
    refine aops_eff (eff_move rfl) rfl rfl rfl ?_
    refine aops_eff (w_len_own TT_ok rfl rfl rfl rfl) rfl rfl rfl ?_
    refine aops_eff (w_cmp rfl rfl rfl) rfl rfl rfl ?_
    refine aops_nil ?_
    refine then_n ?_
    rcases cb h with ⟨q2, h⟩ | ⟨q2, h⟩
    · refine ac_condT rfl q2 ?_
      refine ac_skip ?_
      refine then_n ?_
      refine ac_seq ?_
      refine ac_block ?_
      refine ac_seq ?_
      refine ac_region ?_
      refine aops_eff (w_lit TT_ok rfl rfl rfl rfl rfl rfl rfl rfl rfl rfl rfl rfl) rfl rfl rfl ?_
      refine aops_eff (eff_assign rfl) rfl rfl rfl ?_
      refine aops_nil ?_
      refine then_n ?_
      refine ac_ent (t := mkS [(3, .ptr 0 0 0), (6, .own 1 0 v1.2.length), (7, .own 2 0 x1.1.length), (8, .int x1.2), (9, .own 3 0 (([] : (List Int)).length))] [(0, ⟨3, [[.int a1.rows, .int a1.cols, .list 1 (List.map eI a1.cells)]]⟩), (1, ⟨1, List.map (ow eI) v1.2⟩), (2, ⟨1, List.map (ow (eLs 1 eI)) x1.1⟩), (3, ⟨1, List.map (ow eI) ([] : (List Int))⟩)] 4 [4, 5, 6, 7, 8, 9, 10, 11, 12, 13, 14, 15, 16, 17]) (ent_mk (σ := sg [(0, 0), (1, 1), (2, 2), (3, 3)]) ⟨⟨_, rfl, ⟨rfl, rfl, rfl, rfl⟩⟩, ⟨_, rfl, ⟨rfl, rfl, rfl, rfl⟩⟩, ⟨_, rfl, ⟨rfl, rfl, rfl, rfl⟩⟩, ⟨_, rfl, rfl⟩, ⟨_, rfl, ⟨rfl, rfl, (by simp only [len_map, List.length_append, List.length_set, List.length_replicate, List.length_cons, List.length_nil]), rfl⟩⟩, trivial⟩ ⟨⟨_, rfl, rfl, .inl ⟨rfl, plain_of rfl⟩⟩, rfl, ⟨_, rfl, rfl, .inl ⟨rfl, okI.plainO _⟩⟩, rfl, ⟨_, rfl, rfl, .inl ⟨rfl, okLs.plainO _⟩⟩, rfl, ⟨_, rfl, rfl, .inl ⟨rfl, okI.plainO _⟩⟩, rfl, trivial⟩ rfl) ?_
      refine ac_seq ?_
      refine ac_seq ?_
      refine ac_region ?_
      refine aops_eff (eff_assign rfl) rfl rfl rfl ?_
      refine aops_nil ?_
      refine then_n ?_
      refine ac_block ?_
      obtain ⟨y7, hy7, h⟩ := ob h
      refine ac_Lp (body := (m_spec_l4Image_L2 a1 v1 x1)) hy7 (fun (x2 : ((List Int) × Int)) => mkS [(3, .ptr 0 0 0), (6, .own 1 0 v1.2.length), (7, .own 2 0 x1.1.length), (8, .int x1.2), (9, .own 3 0 x2.1.length), (10, .int x2.2)] [(0, ⟨3, [[.int a1.rows, .int a1.cols, .list 1 (List.map eI a1.cells)]]⟩), (1, ⟨1, List.map (ow eI) v1.2⟩), (2, ⟨1, List.map (ow (eLs 1 eI)) x1.1⟩), (3, ⟨1, List.map (ow eI) x2.1⟩)] 4 [4, 5, 6, 7, 8, 9, 10, 11, 12, 13, 14, 15, 16, 17]) (fun r e t => e = .exit 2 ∧ Ent t (mkS [(3, .ptr 0 0 0), (6, .own 1 0 v1.2.length), (7, .own 2 0 x1.1.length), (8, .int x1.2), (9, .own 3 0 r.length)] [(0, ⟨3, [[.int a1.rows, .int a1.cols, .list 1 (List.map eI a1.cells)]]⟩), (1, ⟨1, List.map (ow eI) v1.2⟩), (2, ⟨1, List.map (ow (eLs 1 eI)) x1.1⟩), (3, ⟨1, List.map (ow eI) r⟩)] 4 [4, 5, 6, 7, 8, 9, 10, 11, 12, 13, 14, 15, 16, 17])) (ent_mk (σ := sg [(0, 0), (1, 1), (2, 2), (3, 3)]) ⟨⟨_, rfl, ⟨rfl, rfl, rfl, rfl⟩⟩, ⟨_, rfl, ⟨rfl, rfl, rfl, rfl⟩⟩, ⟨_, rfl, ⟨rfl, rfl, rfl, rfl⟩⟩, ⟨_, rfl, rfl⟩, ⟨_, rfl, ⟨rfl, rfl, rfl, rfl⟩⟩, ⟨_, rfl, rfl⟩, trivial⟩ ⟨⟨_, rfl, rfl, .inl ⟨rfl, plain_of rfl⟩⟩, rfl, ⟨_, rfl, rfl, .inl ⟨rfl, okI.plainO _⟩⟩, rfl, ⟨_, rfl, rfl, .inl ⟨rfl, okLs.plainO _⟩⟩, rfl, ⟨_, rfl, rfl, .inl ⟨rfl, okI.plainO _⟩⟩, rfl, trivial⟩ rfl) ?_ ?_
      · intro x2 o h
        refine ac_seq ?_
        refine ac_seq ?_
        refine ac_region ?_
        refine aops_eff (eff_move rfl) rfl rfl rfl ?_
        refine aops_eff (w_field_ptr TT_ok rfl rfl rfl rfl rfl rfl rfl) rfl rfl rfl ?_
        refine aops_eff (w_load_ptr TT_ok rfl rfl rfl rfl rfl rfl rfl) rfl rfl rfl ?_
        refine aops_eff (w_cmp rfl rfl rfl) rfl rfl rfl ?_
        refine aops_nil ?_
        refine then_n ?_
        rcases cb h with ⟨q3, h⟩ | ⟨q3, h⟩
        · refine ac_condT rfl q3 ?_
          refine ac_skip ?_
          refine then_n ?_
          refine ac_seq ?_
          refine ac_block ?_
          refine ac_region_draw MIXX ?_
          refine aops_eff (eff_move rfl) rfl rfl rfl ?_
          refine aops_eff (w_field_ptr TT_ok rfl rfl rfl rfl rfl rfl rfl) rfl rfl rfl ?_
          refine aops_eff (w_load_ptr TT_ok rfl rfl rfl rfl rfl rfl rfl) rfl rfl rfl ?_
          refine aops_eff (eff_move rfl) rfl rfl rfl ?_
          refine aops_eff (w_field_ptr TT_ok rfl rfl rfl rfl rfl rfl rfl) rfl rfl rfl ?_
          refine aops_eff (w_load_ptr TT_ok rfl rfl rfl rfl rfl rfl rfl) rfl rfl rfl ?_
          refine aops_eff (x_mul rfl rfl) rfl rfl rfl ?_
          refine aops_eff (eff_move rfl) rfl rfl rfl ?_
          refine aops_eff (eff_move rfl) rfl rfl rfl ?_
          obtain ⟨v4, hv4, h⟩ := ob h
          refine aops_eff (x_at_own TT_ok (atL_nn hv4) (atL_lt hv4) rfl rfl rfl rfl rfl rfl rfl) rfl rfl rfl ?_
          refine aops_eff (w_load_ptr TT_ok rfl rfl rfl rfl (map_at (atL_get hv4)) rfl rfl) rfl rfl rfl ?_
          refine aops_eff (x_add rfl rfl) rfl rfl rfl ?_
          obtain ⟨v5, hv5, h⟩ := ob h
          refine aops_eff (x_at_list TT_ok hv5 rfl rfl rfl rfl rfl rfl) rfl rfl rfl ?_
          refine aops_eff (w_load_ref TT_ok rfl rfl rfl rfl rfl rfl) rfl rfl rfl ?_
          refine aops_eff (w_lit TT_ok rfl rfl rfl rfl rfl rfl rfl rfl rfl rfl rfl rfl) rfl rfl rfl ?_
          obtain ⟨q6, h⟩ := cg h
          refine aops_eff (x_app TT_ok (l := x2.1) (m := [v5]) okIo q6 rfl rfl rfl rfl rfl rfl rfl rfl rfl rfl rfl rfl) rfl rfl rfl ?_
          refine aops_eff (eff_assign rfl) rfl rfl rfl ?_
          refine aops_nil ?_
          refine ⟨by kernel_rfl, ?_⟩
          refine block_n ?_
          refine then_n ?_
          refine ac_ent (t := mkS [(3, .ptr 0 0 0), (6, .own 1 0 v1.2.length), (7, .own 2 0 x1.1.length), (8, .int x1.2), (9, .own 5 0 ((x2.1 ++ [v5]).length)), (10, .int x2.2)] [(0, ⟨3, [[.int a1.rows, .int a1.cols, .list 1 (List.map eI a1.cells)]]⟩), (1, ⟨1, List.map (ow eI) v1.2⟩), (2, ⟨1, List.map (ow (eLs 1 eI)) x1.1⟩), (5, ⟨1, List.map (ow eI) (x2.1 ++ [v5])⟩)] 6 [6, 7, 8, 9, 10, 11, 12, 13, 14, 15, 16, 17, 18, 19]) (ent_mk (σ := sg [(0, 0), (1, 1), (2, 2), (5, 5)]) ⟨⟨_, rfl, ⟨rfl, rfl, rfl, rfl⟩⟩, ⟨_, rfl, ⟨rfl, rfl, rfl, rfl⟩⟩, ⟨_, rfl, ⟨rfl, rfl, rfl, rfl⟩⟩, ⟨_, rfl, rfl⟩, ⟨_, rfl, ⟨rfl, rfl, rfl, rfl⟩⟩, ⟨_, rfl, rfl⟩, trivial⟩ ⟨⟨_, rfl, rfl, .inl ⟨rfl, plain_of rfl⟩⟩, rfl, ⟨_, rfl, rfl, .inl ⟨rfl, okI.plainO _⟩⟩, rfl, ⟨_, rfl, rfl, .inl ⟨rfl, okLs.plainO _⟩⟩, rfl, ⟨_, rfl, rfl, .inl ⟨rfl, okI.plainO _⟩⟩, rfl, trivial⟩ rfl) ?_
          refine ac_region ?_
          refine aops_eff (eff_move rfl) rfl rfl rfl ?_
          refine aops_eff (x_add rfl rfl) rfl rfl rfl ?_
          refine aops_eff (eff_assign rfl) rfl rfl rfl ?_
          refine aops_nil ?_
          refine then_n ?_
          obtain rfl := so h
          exact ⟨_, rfl, (ent_mk (σ := sg [(0, 0), (1, 1), (2, 2), (3, 5)]) ⟨⟨_, rfl, ⟨rfl, rfl, rfl, rfl⟩⟩, ⟨_, rfl, ⟨rfl, rfl, rfl, rfl⟩⟩, ⟨_, rfl, ⟨rfl, rfl, rfl, rfl⟩⟩, ⟨_, rfl, rfl⟩, ⟨_, rfl, ⟨rfl, rfl, rfl, rfl⟩⟩, ⟨_, rfl, rfl⟩, trivial⟩ ⟨⟨_, rfl, rfl, .inl ⟨rfl, plain_of rfl⟩⟩, rfl, ⟨_, rfl, rfl, .inl ⟨rfl, okI.plainO _⟩⟩, rfl, ⟨_, rfl, rfl, .inl ⟨rfl, okLs.plainO _⟩⟩, rfl, ⟨_, rfl, rfl, .inl ⟨rfl, okI.plainO _⟩⟩, rfl, trivial⟩ rfl)⟩
        · refine ac_condF rfl q3 ?_
          refine ac_exit ?_
          refine then_exit ?_
          refine then_exit ?_
          obtain rfl := so h
          exact ⟨_, rfl, rfl, (ent_mk (σ := sg [(0, 0), (1, 1), (2, 2), (3, 3)]) ⟨⟨_, rfl, ⟨rfl, rfl, rfl, rfl⟩⟩, ⟨_, rfl, ⟨rfl, rfl, rfl, rfl⟩⟩, ⟨_, rfl, ⟨rfl, rfl, rfl, rfl⟩⟩, ⟨_, rfl, rfl⟩, ⟨_, rfl, ⟨rfl, rfl, rfl, rfl⟩⟩, trivial⟩ ⟨⟨_, rfl, rfl, .inl ⟨rfl, plain_of rfl⟩⟩, rfl, ⟨_, rfl, rfl, .inl ⟨rfl, okI.plainO _⟩⟩, rfl, ⟨_, rfl, rfl, .inl ⟨rfl, okLs.plainO _⟩⟩, rfl, ⟨_, rfl, rfl, .inl ⟨rfl, okI.plainO _⟩⟩, rfl, trivial⟩ rfl)⟩
      · rintro e t ⟨rfl, hent⟩
        refine block_here ?_
        refine then_n ?_
        refine ac_ent hent ?_
        refine ac_region ?_
        refine aops_eff (eff_move rfl) rfl rfl rfl ?_
        refine aops_eff (eff_move rfl) rfl rfl rfl ?_
        refine aops_eff (w_lit TT_ok rfl rfl rfl rfl rfl rfl rfl rfl rfl rfl rfl rfl) rfl rfl rfl ?_
        obtain ⟨q8, h⟩ := cg h
        refine aops_eff (x_app1 TT_ok (l := x1.1) (c := [.own 3 0 y7.length]) q8 rfl rfl rfl rfl rfl rfl rfl rfl rfl rfl rfl rfl rfl rfl) rfl rfl rfl ?_
        refine aops_eff (eff_assign rfl) rfl rfl rfl ?_
        refine aops_nil ?_
        refine block_n ?_
        refine then_n ?_
        refine ac_ent (t := mkS [(3, .ptr 0 0 0), (6, .own 1 0 v1.2.length), (7, .own 5 0 ((x1.1 ++ [y7]).length)), (8, .int x1.2)] [(0, ⟨3, [[.int a1.rows, .int a1.cols, .list 1 (List.map eI a1.cells)]]⟩), (1, ⟨1, List.map (ow eI) v1.2⟩), (5, ⟨1, List.map (ow (eLs 1 eI)) (x1.1 ++ [y7])⟩)] 6 [6, 7, 8, 9, 10, 11, 12, 13, 14, 15, 16, 17, 18, 19]) (Ent.trans (ent_absL (b := 5) (b' := 3) (j := 0) (es' := List.map eI y7) rfl rfl rfl rfl (len_map _ _) (okI.frzs _)) (ent_mk (σ := sg [(0, 0), (1, 1), (5, 5)]) ⟨⟨_, rfl, ⟨rfl, rfl, rfl, rfl⟩⟩, ⟨_, rfl, ⟨rfl, rfl, rfl, rfl⟩⟩, ⟨_, rfl, ⟨rfl, rfl, (by simp only [len_map, List.length_append, List.length_set, List.length_replicate, List.length_cons, List.length_nil]), rfl⟩⟩, ⟨_, rfl, rfl⟩, trivial⟩ ⟨⟨_, rfl, rfl, .inl ⟨rfl, plain_of rfl⟩⟩, rfl, ⟨_, rfl, rfl, .inl ⟨rfl, okI.plainO _⟩⟩, rfl, ⟨_, rfl, rfl, .inl ⟨app_eq y7 rfl, okLs.plainO _⟩⟩, rfl, trivial⟩ rfl)) ?_
        refine ac_region ?_
        refine aops_eff (eff_move rfl) rfl rfl rfl ?_
        refine aops_eff (x_add rfl rfl) rfl rfl rfl ?_
        refine aops_eff (eff_assign rfl) rfl rfl rfl ?_
        refine aops_nil ?_
        refine then_n ?_
        obtain rfl := so h
        exact ⟨_, rfl, (ent_mk (σ := sg [(0, 0), (1, 1), (2, 5)]) ⟨⟨_, rfl, ⟨rfl, rfl, rfl, rfl⟩⟩, ⟨_, rfl, ⟨rfl, rfl, rfl, rfl⟩⟩, ⟨_, rfl, ⟨rfl, rfl, rfl, rfl⟩⟩, ⟨_, rfl, rfl⟩, trivial⟩ ⟨⟨_, rfl, rfl, .inl ⟨rfl, plain_of rfl⟩⟩, rfl, ⟨_, rfl, rfl, .inl ⟨rfl, okI.plainO _⟩⟩, rfl, ⟨_, rfl, rfl, .inl ⟨rfl, okLs.plainO _⟩⟩, rfl, trivial⟩ rfl)⟩
    · refine ac_condF rfl q2 ?_
      refine ac_exit ?_
      refine then_exit ?_
      refine then_exit ?_
      obtain rfl := so h
      exact ⟨_, rfl, rfl, (ent_mk (σ := sg [(0, 2)]) ⟨⟨_, rfl, ⟨rfl, rfl, rfl, rfl⟩⟩, trivial⟩ ⟨⟨_, rfl, rfl, .inl ⟨rfl, okLs.plainO _⟩⟩, rfl, trivial⟩ rfl)⟩
  · rintro e t ⟨rfl, hent⟩
    refine block_here ?_
    refine then_n ?_
    refine ac_ent hent ?_
    refine ac_seq ?_
    refine ac_region ?_
    refine aops_eff (eff_move rfl) rfl rfl rfl ?_
    refine aops_eff (eff_assign rfl) rfl rfl rfl ?_
    refine aops_nil ?_
    refine then_n ?_
    refine ac_ret ?_
    obtain rfl := so h
    exact ret_mk rfl rfl rfl (xz_list (x_f1 okLs rfl rfl))

noncomputable def m_spec_l5Rows_L1 (a1 : (List (List Int))) (x1 : ((List Int) × Int)) : Option (((List Int) × Int) ⊕ (List Int)) :=
  bif decide (x1.2 < (a1.length : Int)) then
    (Option.bind (atL a1 x1.2) fun v2 =>
    bif decide (x1.1.length + v2.length ≤ 4294967296) then
      (some (.inl ((x1.1 ++ v2), wr (x1.2 + 1))))
    else none)
  else
    (some (.inr x1.1))

noncomputable def m_spec_l5Rows (a0 : Int) (a1 : (List (List Int))) : Option Mt :=
  Option.bind (Lp (m_spec_l5Rows_L1 a1) ([], 0)) fun y4 =>
  some ((⟨(a1.length : Int), a0, y4⟩ : Mt))

theorem c_spec_l5Rows (a0 : Int) (a1 : (List (List Int))) (r : Mt) (h : m_spec_l5Rows a0 a1 = some r) : HasC Try.prog 74 [.int a0, .list 1 (List.map (eLs 1 eI) a1)] (.agg (eM r)) := by
  refine hasC_mk TT_ok (rvs := [.cell 4 81]) (ns := [0, 1, 2, 3, 4, 5, 6, 7, 8, 9, 10, 11, 12, 13]) Try.func74 rfl rfl Try.ntmps74 rfl rfl rfl ?_
  refine ac_seq ?_
  refine ac_region ?_
  refine aops_eff (w_alloc TT_ok rfl rfl) rfl rfl rfl ?_
  refine aops_nil ?_
  refine then_n ?_
  refine ac_seq ?_
  refine ac_region ?_
  refine aops_eff (eff_move rfl) rfl rfl rfl ?_
  refine aops_eff (AEff.val (w_len_list TT_ok rfl rfl rfl) (v' := .int (a1.length : Int)) (by first | rw [len_map] | rw [encI_len])) rfl rfl rfl ?_
  refine aops_eff (eff_move rfl) rfl rfl rfl ?_
  refine aops_eff (w_build TT_ok rfl rfl rfl rfl rfl rfl) rfl rfl rfl ?_
  refine aops_eff (w_alloc TT_ok rfl rfl) rfl rfl rfl ?_
  refine aops_eff (w_store TT_ok rfl rfl rfl rfl rfl rfl rfl rfl) rfl rfl rfl ?_
  refine aops_nil ?_
  refine then_n ?_
  refine ac_seq ?_
  refine ac_seq ?_
  refine ac_region ?_
  refine aops_eff (eff_assign rfl) rfl rfl rfl ?_
  refine aops_nil ?_
  refine then_n ?_
  refine ac_block ?_
  obtain ⟨y4, hy4, h⟩ := ob h
  refine ac_Lp (body := (m_spec_l5Rows_L1 a1)) hy4 (fun (x1 : ((List Int) × Int)) => mkS [(1, .list 1 (List.map (eLs 1 eI) a1)), (4, .ptr 0 0 0), (5, .ptr 1 0 0), (6, .int x1.2)] [(0, ⟨3, [[.int 0, .int 0, .nil 1]]⟩), (1, ⟨3, [[.int (a1.length : Int), .int a0, .own 2 0 x1.1.length]]⟩), (2, ⟨1, List.map (ow eI) x1.1⟩)] 3 [3, 4, 5, 6, 7, 8, 9, 10, 11, 12, 13, 14, 15, 16]) (fun r e t => e = .exit 0 ∧ Ent t (mkS [(4, .ptr 0 0 0), (5, .ptr 1 0 0)] [(0, ⟨3, [[.int 0, .int 0, .nil 1]]⟩), (1, ⟨3, [[.int (a1.length : Int), .int a0, .own 2 0 r.length]]⟩), (2, ⟨1, List.map (ow eI) r⟩)] 3 [3, 4, 5, 6, 7, 8, 9, 10, 11, 12, 13, 14, 15, 16])) (ent_mk (σ := sg [(0, 0), (1, 1)]) ⟨⟨_, rfl, ⟨rfl, rfl⟩⟩, ⟨_, rfl, ⟨rfl, rfl, rfl, rfl⟩⟩, ⟨_, rfl, ⟨rfl, rfl, rfl, rfl⟩⟩, ⟨_, rfl, rfl⟩, trivial⟩ ⟨⟨_, rfl, rfl, .inl ⟨rfl, plain_of rfl⟩⟩, rfl, ⟨_, rfl, rfl, .inr ⟨_, _, rfl, ⟨_, _, rfl, rfl, ⟨_, _, rfl, rfl, ⟨_, _, rfl, ⟨rfl, rfl, rfl, rfl⟩, rfl⟩⟩⟩, rfl⟩⟩, rfl, rfl, rfl, trivial⟩ rfl) ?_ ?_
  · intro x1 o h
    refine ac_seq ?_
    refine ac_seq ?_
    refine ac_region ?_
    refine aops_eff (eff_move rfl) rfl rfl rfl ?_
    refine aops_eff (eff_move rfl) rfl rfl rfl ?_
    refine aops_eff (AEff.val (w_len_list TT_ok rfl rfl rfl) (v' := .int (a1.length : Int)) (by first | rw [len_map] | rw [encI_len])) rfl rfl rfl ?_
    refine aops_eff (w_cmp rfl rfl rfl) rfl rfl rfl ?_
    refine aops_nil ?_
    refine then_n ?_
    rcases cb h with ⟨q1, h⟩ | ⟨q1, h⟩
    · refine ac_condT rfl q1 ?_
      refine ac_skip ?_
      refine then_n ?_
      refine ac_seq ?_
      refine ac_block ?_
      refine ac_region_draw MIXX ?_
      refine aops_eff (w_field_ptr TT_ok rfl rfl rfl rfl rfl rfl rfl) rfl rfl rfl ?_
      refine aops_eff (w_load_ptr TT_ok rfl rfl rfl rfl rfl rfl rfl) rfl rfl rfl ?_
      refine aops_eff (eff_move rfl) rfl rfl rfl ?_
      refine aops_eff (eff_move rfl) rfl rfl rfl ?_
      obtain ⟨v2, hv2, h⟩ := ob h
      refine aops_eff (x_at_list TT_ok hv2 rfl rfl rfl rfl rfl rfl) rfl rfl rfl ?_
      refine aops_eff (w_load_ref TT_ok rfl rfl rfl rfl rfl rfl) rfl rfl rfl ?_
      obtain ⟨q3, h⟩ := cg h
      refine aops_eff (x_app TT_ok (l := x1.1) (m := v2) okIo q3 rfl rfl rfl rfl rfl rfl rfl rfl rfl rfl rfl rfl) rfl rfl rfl ?_
      refine aops_eff (w_field_ptr TT_ok rfl rfl rfl rfl rfl rfl rfl) rfl rfl rfl ?_
      refine aops_eff (w_store TT_ok rfl rfl rfl rfl rfl rfl rfl rfl) rfl rfl rfl ?_
      refine aops_nil ?_
      refine ⟨by kernel_rfl, ?_⟩
      refine block_n ?_
      refine then_n ?_
      refine ac_ent (t := mkS [(1, .list 1 (List.map (eLs 1 eI) a1)), (4, .ptr 0 0 0), (5, .ptr 1 0 0), (6, .int x1.2)] [(0, ⟨3, [[.int 0, .int 0, .nil 1]]⟩), (1, ⟨3, [[.int (a1.length : Int), .int a0, .own 3 0 ((x1.1 ++ v2).length)]]⟩), (3, ⟨1, List.map (ow eI) (x1.1 ++ v2)⟩)] 4 [4, 5, 6, 7, 8, 9, 10, 11, 12, 13, 14, 15, 16, 17]) (ent_mk (σ := sg [(0, 0), (1, 1), (3, 3)]) ⟨⟨_, rfl, ⟨rfl, rfl⟩⟩, ⟨_, rfl, ⟨rfl, rfl, rfl, rfl⟩⟩, ⟨_, rfl, ⟨rfl, rfl, rfl, rfl⟩⟩, ⟨_, rfl, rfl⟩, trivial⟩ ⟨⟨_, rfl, rfl, .inl ⟨rfl, plain_of rfl⟩⟩, rfl, ⟨_, rfl, rfl, .inr ⟨_, _, rfl, ⟨_, _, rfl, rfl, ⟨_, _, rfl, rfl, ⟨_, _, rfl, ⟨rfl, rfl, rfl, rfl⟩, rfl⟩⟩⟩, rfl⟩⟩, rfl, ⟨_, rfl, rfl, .inl ⟨rfl, okI.plainO _⟩⟩, rfl, trivial⟩ rfl) ?_
      refine ac_region ?_
      refine aops_eff (eff_move rfl) rfl rfl rfl ?_
      refine aops_eff (x_add rfl rfl) rfl rfl rfl ?_
      refine aops_eff (eff_assign rfl) rfl rfl rfl ?_
      refine aops_nil ?_
      refine then_n ?_
      obtain rfl := so h
      exact ⟨_, rfl, (ent_mk (σ := sg [(0, 0), (1, 1), (2, 3)]) ⟨⟨_, rfl, ⟨rfl, rfl⟩⟩, ⟨_, rfl, ⟨rfl, rfl, rfl, rfl⟩⟩, ⟨_, rfl, ⟨rfl, rfl, rfl, rfl⟩⟩, ⟨_, rfl, rfl⟩, trivial⟩ ⟨⟨_, rfl, rfl, .inl ⟨rfl, plain_of rfl⟩⟩, rfl, ⟨_, rfl, rfl, .inr ⟨_, _, rfl, ⟨_, _, rfl, rfl, ⟨_, _, rfl, rfl, ⟨_, _, rfl, ⟨rfl, rfl, rfl, rfl⟩, rfl⟩⟩⟩, rfl⟩⟩, rfl, ⟨_, rfl, rfl, .inl ⟨rfl, okI.plainO _⟩⟩, rfl, trivial⟩ rfl)⟩
    · refine ac_condF rfl q1 ?_
      refine ac_exit ?_
      refine then_exit ?_
      refine then_exit ?_
      obtain rfl := so h
      exact ⟨_, rfl, rfl, (ent_mk (σ := sg [(0, 0), (1, 1), (2, 2)]) ⟨⟨_, rfl, ⟨rfl, rfl, rfl, rfl⟩⟩, ⟨_, rfl, ⟨rfl, rfl, rfl, rfl⟩⟩, trivial⟩ ⟨⟨_, rfl, rfl, .inl ⟨rfl, plain_of rfl⟩⟩, rfl, ⟨_, rfl, rfl, .inr ⟨_, _, rfl, ⟨_, _, rfl, rfl, ⟨_, _, rfl, rfl, ⟨_, _, rfl, ⟨rfl, rfl, rfl, rfl⟩, rfl⟩⟩⟩, rfl⟩⟩, rfl, ⟨_, rfl, rfl, .inl ⟨rfl, okI.plainO _⟩⟩, rfl, trivial⟩ rfl)⟩
  · rintro e t ⟨rfl, hent⟩
    refine block_here ?_
    refine then_n ?_
    refine ac_ent hent ?_
    refine ac_seq ?_
    refine ac_region ?_
    refine aops_eff (w_load_ptr TT_ok rfl rfl rfl rfl rfl rfl rfl) rfl rfl rfl ?_
    refine aops_eff (w_store TT_ok rfl rfl rfl rfl rfl rfl rfl rfl) rfl rfl rfl ?_
    refine aops_nil ?_
    refine then_n ?_
    refine ac_ret ?_
    obtain rfl := so h
    exact ret_mk rfl rfl rfl (xz_agg (x1_cons (rfl) (x1_cons (rfl) (x1_cons (x_f1 okI rfl rfl) x1_nil))))

noncomputable def m_spec_l5Basis_L1 (v1 : (Mt × (List Int))) (x1 : ((List (List Int)) × Int)) : Option (((List (List Int)) × Int) ⊕ (List (List Int))) :=
  bif decide (x1.2 < ((v1.2.length : Nat) : Int)) then
    (bif (decide (0 ≤ wr (x1.2 * v1.1.cols)) && (decide (wr (x1.2 * v1.1.cols) ≤ wr ((wr (x1.2 * v1.1.cols)) + v1.1.cols)) && decide (wr ((wr (x1.2 * v1.1.cols)) + v1.1.cols) ≤ ((v1.1.cells.length : Nat) : Int)))) then
      (bif decide (([] : (List Int)).length + ((v1.1.cells.drop (0 + (wr (x1.2 * v1.1.cols)).toNat)).take ((wr ((wr (x1.2 * v1.1.cols)) + v1.1.cols)).toNat - (wr (x1.2 * v1.1.cols)).toNat)).length ≤ 4294967296) then
        (bif decide (x1.1.length + 1 ≤ 4294967296) then
          (some (.inl ((x1.1 ++ [(([] : (List Int)) ++ ((v1.1.cells.drop (0 + (wr (x1.2 * v1.1.cols)).toNat)).take ((wr ((wr (x1.2 * v1.1.cols)) + v1.1.cols)).toNat - (wr (x1.2 * v1.1.cols)).toNat)))]), wr (x1.2 + 1))))
        else none)
      else none)
    else none)
  else
    (some (.inr x1.1))

noncomputable def m_spec_l5Basis (a0 : Int) (a1 : Mt) : Option (List (List Int)) :=
  Option.bind (m_spec_l4Reduce a0 a1) fun v1 =>
  Option.bind (Lp (m_spec_l5Basis_L1 v1) (([] : (List (List Int))), 0)) fun y6 =>
  some (y6)

theorem c_spec_l5Basis (a0 : Int) (a1 : Mt) (r : (List (List Int))) (h : m_spec_l5Basis a0 a1 = some r) : HasC Try.prog 101 [.int a0, .agg (eM a1)] (.list 1 (List.map (eLs 1 eI) r)) := by
  refine hasC_mk TT_ok (rvs := [.tmp 4]) (ns := [0, 1, 2, 3, 4, 5, 6, 7, 8, 9, 10, 11, 12, 13]) Try.func101 rfl rfl Try.ntmps101 rfl rfl rfl ?_
  refine ac_seq ?_
  refine ac_region ?_
  refine aops_eff (w_box rfl rfl rfl rfl) rfl rfl rfl ?_
  refine aops_eff (eff_assign rfl) rfl rfl rfl ?_
  refine aops_nil ?_
  refine then_n ?_
  refine ac_seq ?_
  refine ac_region ?_
  refine aops_eff (eff_move rfl) rfl rfl rfl ?_
  refine aops_eff (w_load_ptr TT_ok rfl rfl rfl rfl rfl rfl rfl) rfl rfl rfl ?_
  obtain ⟨v1, hv1, h⟩ := ob h
  refine aops_eff (AEff.conv (w_call0 (x := .tuple [.agg [.int v1.1.rows, .int v1.1.cols, .own 1 0 (List.map eI v1.1.cells).length], .own 2 0 (List.map eI v1.2).length]) (nb := [(1, ⟨1, absEs (List.map eI v1.1.cells)⟩), (2, ⟨1, absEs (List.map eI v1.2)⟩)]) (c_spec_l4Reduce a0 a1 v1 hv1) rfl (by rfl) rfl rfl (gB_cons (g1_cons trivial (g1_cons trivial (g1_cons (okI.good _) g1_nil))) (gB_cons (okI.good _) gB_nil)) (va_cons (va_same rfl) (va_cons (va_agg' (v1_cons (v1_same rfl) (v1_cons (v1_same rfl) (v1_cons (v1_same rfl) v1_nil)))) va_nil))) (v' := .tuple [.agg [.int v1.1.rows, .int v1.1.cols, .own 1 0 v1.1.cells.length], .own 2 0 v1.2.length]) (ed' := [(1, some ⟨1, List.map (ow eI) v1.1.cells⟩), (2, some ⟨1, List.map (ow eI) v1.2⟩)]) (by simp only [len_map]) (ed_ok (nb' := [(1, ⟨1, List.map (ow eI) v1.1.cells⟩), (2, ⟨1, List.map (ow eI) v1.2⟩)]) (by simp only [abs_map]))) rfl rfl rfl ?_
  refine aops_eff (eff_move rfl) rfl rfl rfl ?_
  refine aops_eff (eff_extract rfl rfl (by intro _ h; cases h)) rfl rfl rfl ?_
  refine aops_eff (eff_extract rfl rfl (by intro _ h; cases h)) rfl rfl rfl ?_
  refine aops_eff (w_alloc TT_ok rfl rfl) rfl rfl rfl ?_
  refine aops_eff (w_store TT_ok rfl rfl rfl rfl rfl rfl rfl rfl) rfl rfl rfl ?_
  refine aops_eff (eff_assign rfl) rfl rfl rfl ?_
  refine aops_nil ?_
  refine then_n ?_
  refine ac_seq ?_
  refine ac_region ?_
  refine aops_eff (w_lit TT_ok rfl rfl rfl rfl rfl rfl rfl rfl rfl rfl rfl rfl) rfl rfl rfl ?_
  refine aops_eff (eff_assign rfl) rfl rfl rfl ?_
  refine aops_nil ?_
  refine then_n ?_
  refine ac_ent (t := mkS [(5, .ptr 3 0 0), (6, .own 2 0 v1.2.length), (7, .own 4 0 (([] : (List (List Int))).length))] [(1, ⟨1, List.map (ow eI) v1.1.cells⟩), (2, ⟨1, List.map (ow eI) v1.2⟩), (3, ⟨3, [[.int v1.1.rows, .int v1.1.cols, .own 1 0 v1.1.cells.length]]⟩), (4, ⟨1, List.map (ow (eLs 1 eI)) ([] : (List (List Int)))⟩)] 5 [5, 6, 7, 8, 9, 10, 11, 12, 13, 14, 15, 16, 17, 18]) (ent_mk (σ := sg [(1, 1), (2, 2), (3, 3), (4, 4)]) ⟨⟨_, rfl, ⟨rfl, rfl, rfl, rfl⟩⟩, ⟨_, rfl, ⟨rfl, rfl, rfl, rfl⟩⟩, ⟨_, rfl, ⟨rfl, rfl, (by simp only [len_map, List.length_append, List.length_set, List.length_replicate, List.length_cons, List.length_nil]), rfl⟩⟩, trivial⟩ ⟨⟨_, rfl, rfl, .inl ⟨rfl, okI.plainO _⟩⟩, rfl, ⟨_, rfl, rfl, .inl ⟨rfl, okI.plainO _⟩⟩, rfl, ⟨_, rfl, rfl, .inr ⟨_, _, rfl, ⟨_, _, rfl, rfl, ⟨_, _, rfl, rfl, ⟨_, _, rfl, ⟨rfl, rfl, rfl, rfl⟩, rfl⟩⟩⟩, rfl⟩⟩, rfl, ⟨_, rfl, rfl, .inl ⟨rfl, okLs.plainO _⟩⟩, rfl, trivial⟩ rfl) ?_
  refine ac_seq ?_
  refine ac_seq ?_
  refine ac_region ?_
  refine aops_eff (eff_assign rfl) rfl rfl rfl ?_
  refine aops_nil ?_
  refine then_n ?_
  refine ac_block ?_
  obtain ⟨y6, hy6, h⟩ := ob h
  refine ac_Lp (body := (m_spec_l5Basis_L1 v1)) hy6 (fun (x1 : ((List (List Int)) × Int)) => mkS [(5, .ptr 0 0 0), (6, .own 2 0 v1.2.length), (7, .own 3 0 x1.1.length), (8, .int x1.2)] [(0, ⟨3, [[.int v1.1.rows, .int v1.1.cols, .own 1 0 v1.1.cells.length]]⟩), (1, ⟨1, List.map (ow eI) v1.1.cells⟩), (2, ⟨1, List.map (ow eI) v1.2⟩), (3, ⟨1, List.map (ow (eLs 1 eI)) x1.1⟩)] 4 [4, 5, 6, 7, 8, 9, 10, 11, 12, 13, 14, 15, 16, 17]) (fun r e t => e = .exit 0 ∧ Ent t (mkS [(7, .own 0 0 r.length)] [(0, ⟨1, List.map (ow (eLs 1 eI)) r⟩)] 1 [1, 2, 3, 4, 5, 6, 7, 8, 9, 10, 11, 12, 13, 14])) (ent_mk (σ := sg [(0, 3), (1, 1), (2, 2), (3, 4)]) ⟨⟨_, rfl, ⟨rfl, rfl, rfl, rfl⟩⟩, ⟨_, rfl, ⟨rfl, rfl, rfl, rfl⟩⟩, ⟨_, rfl, ⟨rfl, rfl, rfl, rfl⟩⟩, ⟨_, rfl, rfl⟩, trivial⟩ ⟨⟨_, rfl, rfl, .inr ⟨_, _, rfl, ⟨_, _, rfl, rfl, ⟨_, _, rfl, rfl, ⟨_, _, rfl, ⟨rfl, rfl, rfl, rfl⟩, rfl⟩⟩⟩, rfl⟩⟩, rfl, ⟨_, rfl, rfl, .inl ⟨rfl, okI.plainO _⟩⟩, rfl, ⟨_, rfl, rfl, .inl ⟨rfl, okI.plainO _⟩⟩, rfl, ⟨_, rfl, rfl, .inl ⟨rfl, okLs.plainO _⟩⟩, rfl, trivial⟩ rfl) ?_ ?_
  · intro x1 o h
    refine ac_seq ?_
    refine ac_seq ?_
    refine ac_region ?_
    refine aops_eff (eff_move rfl) rfl rfl rfl ?_
    refine aops_eff (eff_move rfl) rfl rfl rfl ?_
    refine aops_eff (w_len_own TT_ok rfl rfl rfl rfl) rfl rfl rfl ?_
    refine aops_eff (w_cmp rfl rfl rfl) rfl rfl rfl ?_
    refine aops_nil ?_
    refine then_n ?_
    rcases cb h with ⟨q2, h⟩ | ⟨q2, h⟩
    · refine ac_condT rfl q2 ?_
      refine ac_skip ?_
      refine then_n ?_
      refine ac_seq ?_
      refine ac_block ?_
      refine ac_region ?_
      refine aops_eff (eff_move rfl) rfl rfl rfl ?_
      refine aops_eff (w_lit TT_ok rfl rfl rfl rfl rfl rfl rfl rfl rfl rfl rfl rfl) rfl rfl rfl ?_
      refine aops_eff (w_field_ptr TT_ok rfl rfl rfl rfl rfl rfl rfl) rfl rfl rfl ?_
      refine aops_eff (w_load_ptr TT_ok rfl rfl rfl rfl rfl rfl rfl) rfl rfl rfl ?_
      refine aops_eff (eff_move rfl) rfl rfl rfl ?_
      refine aops_eff (w_field_ptr TT_ok rfl rfl rfl rfl rfl rfl rfl) rfl rfl rfl ?_
      refine aops_eff (w_load_ptr TT_ok rfl rfl rfl rfl rfl rfl rfl) rfl rfl rfl ?_
      refine aops_eff (x_mul rfl rfl) rfl rfl rfl ?_
      refine aops_eff (eff_move rfl) rfl rfl rfl ?_
      refine aops_eff (w_field_ptr TT_ok rfl rfl rfl rfl rfl rfl rfl) rfl rfl rfl ?_
      refine aops_eff (w_load_ptr TT_ok rfl rfl rfl rfl rfl rfl rfl) rfl rfl rfl ?_
      refine aops_eff (x_mul rfl rfl) rfl rfl rfl ?_
      refine aops_eff (w_field_ptr TT_ok rfl rfl rfl rfl rfl rfl rfl) rfl rfl rfl ?_
      refine aops_eff (w_load_ptr TT_ok rfl rfl rfl rfl rfl rfl rfl) rfl rfl rfl ?_
      refine aops_eff (x_add rfl rfl) rfl rfl rfl ?_
      obtain ⟨q3, h⟩ := cg h
      refine aops_eff (x_slice_own TT_ok (l := wr (x1.2 * v1.1.cols)) (h := wr ((wr (x1.2 * v1.1.cols)) + v1.1.cols)) q3 rfl rfl rfl rfl rfl rfl rfl rfl) rfl rfl rfl ?_
      obtain ⟨q4, h⟩ := cg h
      refine aops_eff (x_app TT_ok (l := ([] : (List Int))) (m := ((v1.1.cells.drop (0 + (wr (x1.2 * v1.1.cols)).toNat)).take ((wr ((wr (x1.2 * v1.1.cols)) + v1.1.cols)).toNat - (wr (x1.2 * v1.1.cols)).toNat))) okIo q4 rfl rfl rfl rfl rfl (x_srcP okI rfl) rfl rfl rfl rfl rfl rfl) rfl rfl rfl ?_
      refine aops_eff (w_lit TT_ok rfl rfl rfl rfl rfl rfl rfl rfl rfl rfl rfl rfl) rfl rfl rfl ?_
      obtain ⟨q5, h⟩ := cg h
      refine aops_eff (x_app1 TT_ok (l := x1.1) (c := [.own 5 0 ((([] : (List Int)) ++ ((v1.1.cells.drop (0 + (wr (x1.2 * v1.1.cols)).toNat)).take ((wr ((wr (x1.2 * v1.1.cols)) + v1.1.cols)).toNat - (wr (x1.2 * v1.1.cols)).toNat))).length)]) q5 rfl rfl rfl rfl rfl rfl rfl rfl rfl rfl rfl rfl rfl rfl) rfl rfl rfl ?_
      refine aops_eff (eff_assign rfl) rfl rfl rfl ?_
      refine aops_nil ?_
      refine block_n ?_
      refine then_n ?_
      refine ac_ent (t := mkS [(5, .ptr 0 0 0), (6, .own 2 0 v1.2.length), (7, .own 7 0 ((x1.1 ++ [(([] : (List Int)) ++ ((v1.1.cells.drop (0 + (wr (x1.2 * v1.1.cols)).toNat)).take ((wr ((wr (x1.2 * v1.1.cols)) + v1.1.cols)).toNat - (wr (x1.2 * v1.1.cols)).toNat)))]).length)), (8, .int x1.2)] [(0, ⟨3, [[.int v1.1.rows, .int v1.1.cols, .own 1 0 v1.1.cells.length]]⟩), (1, ⟨1, List.map (ow eI) v1.1.cells⟩), (2, ⟨1, List.map (ow eI) v1.2⟩), (7, ⟨1, List.map (ow (eLs 1 eI)) (x1.1 ++ [(([] : (List Int)) ++ ((v1.1.cells.drop (0 + (wr (x1.2 * v1.1.cols)).toNat)).take ((wr ((wr (x1.2 * v1.1.cols)) + v1.1.cols)).toNat - (wr (x1.2 * v1.1.cols)).toNat)))])⟩)] 8 [8, 9, 10, 11, 12, 13, 14, 15, 16, 17, 18, 19, 20, 21]) (Ent.trans (ent_absL (b := 7) (b' := 5) (j := 0) (es' := List.map eI (([] : (List Int)) ++ ((v1.1.cells.drop (0 + (wr (x1.2 * v1.1.cols)).toNat)).take ((wr ((wr (x1.2 * v1.1.cols)) + v1.1.cols)).toNat - (wr (x1.2 * v1.1.cols)).toNat)))) rfl rfl rfl rfl (len_map _ _) (okI.frzs _)) (ent_mk (σ := sg [(0, 0), (1, 1), (2, 2), (7, 7)]) ⟨⟨_, rfl, ⟨rfl, rfl, rfl, rfl⟩⟩, ⟨_, rfl, ⟨rfl, rfl, rfl, rfl⟩⟩, ⟨_, rfl, ⟨rfl, rfl, (by simp only [len_map, List.length_append, List.length_set, List.length_replicate, List.length_cons, List.length_nil]), rfl⟩⟩, ⟨_, rfl, rfl⟩, trivial⟩ ⟨⟨_, rfl, rfl, .inr ⟨_, _, rfl, ⟨_, _, rfl, rfl, ⟨_, _, rfl, rfl, ⟨_, _, rfl, ⟨rfl, rfl, rfl, rfl⟩, rfl⟩⟩⟩, rfl⟩⟩, rfl, ⟨_, rfl, rfl, .inl ⟨rfl, okI.plainO _⟩⟩, rfl, ⟨_, rfl, rfl, .inl ⟨rfl, okI.plainO _⟩⟩, rfl, ⟨_, rfl, rfl, .inl ⟨app_eq (([] : (List Int)) ++ ((v1.1.cells.drop (0 + (wr (x1.2 * v1.1.cols)).toNat)).take ((wr ((wr (x1.2 * v1.1.cols)) + v1.1.cols)).toNat - (wr (x1.2 * v1.1.cols)).toNat))) rfl, okLs.plainO _⟩⟩, rfl, trivial⟩ rfl)) ?_
      refine ac_region ?_
      refine aops_eff (eff_move rfl) rfl rfl rfl ?_
      refine aops_eff (x_add rfl rfl) rfl rfl rfl ?_
      refine aops_eff (eff_assign rfl) rfl rfl rfl ?_
      refine aops_nil ?_
      refine then_n ?_
      obtain rfl := so h
      exact ⟨_, rfl, (ent_mk (σ := sg [(0, 0), (1, 1), (2, 2), (3, 7)]) ⟨⟨_, rfl, ⟨rfl, rfl, rfl, rfl⟩⟩, ⟨_, rfl, ⟨rfl, rfl, rfl, rfl⟩⟩, ⟨_, rfl, ⟨rfl, rfl, rfl, rfl⟩⟩, ⟨_, rfl, rfl⟩, trivial⟩ ⟨⟨_, rfl, rfl, .inr ⟨_, _, rfl, ⟨_, _, rfl, rfl, ⟨_, _, rfl, rfl, ⟨_, _, rfl, ⟨rfl, rfl, rfl, rfl⟩, rfl⟩⟩⟩, rfl⟩⟩, rfl, ⟨_, rfl, rfl, .inl ⟨rfl, okI.plainO _⟩⟩, rfl, ⟨_, rfl, rfl, .inl ⟨rfl, okI.plainO _⟩⟩, rfl, ⟨_, rfl, rfl, .inl ⟨rfl, okLs.plainO _⟩⟩, rfl, trivial⟩ rfl)⟩
    · refine ac_condF rfl q2 ?_
      refine ac_exit ?_
      refine then_exit ?_
      refine then_exit ?_
      obtain rfl := so h
      exact ⟨_, rfl, rfl, (ent_mk (σ := sg [(0, 3)]) ⟨⟨_, rfl, ⟨rfl, rfl, rfl, rfl⟩⟩, trivial⟩ ⟨⟨_, rfl, rfl, .inl ⟨rfl, okLs.plainO _⟩⟩, rfl, trivial⟩ rfl)⟩
  · rintro e t ⟨rfl, hent⟩
    refine block_here ?_
    refine then_n ?_
    refine ac_ent hent ?_
    refine ac_seq ?_
    refine ac_region ?_
    refine aops_eff (eff_move rfl) rfl rfl rfl ?_
    refine aops_eff (eff_assign rfl) rfl rfl rfl ?_
    refine aops_nil ?_
    refine then_n ?_
    refine ac_ret ?_
    obtain rfl := so h
    exact ret_mk rfl rfl rfl (xz_list (x_f1 okLs rfl rfl))

noncomputable def m_spec_l5Span (a0 : Int) (a1 : Int) (a2 : (List (List Int))) : Option Sc :=
  Option.bind (m_spec_l5Rows a1 a2) fun v1 =>
  Option.bind (m_spec_l5Basis a0 v1) fun v2 =>
  some ((⟨a1, v2⟩ : Sc))

theorem c_spec_l5Span (a0 : Int) (a1 : Int) (a2 : (List (List Int))) (r : Sc) (h : m_spec_l5Span a0 a1 a2 = some r) : HasC Try.prog 49 [.int a0, .int a1, .list 1 (List.map (eLs 1 eI) a2)] (.agg (eS r)) := by
  refine hasC_mk TT_ok (rvs := [.cell 6 78]) (ns := [0, 1, 2, 3, 4, 5, 6, 7, 8, 9, 10, 11, 12, 13]) Try.func49 rfl rfl Try.ntmps49 rfl rfl rfl ?_
  refine ac_seq ?_
  refine ac_region ?_
  refine aops_eff (w_alloc TT_ok rfl rfl) rfl rfl rfl ?_
  refine aops_nil ?_
  refine then_n ?_
  refine ac_seq ?_
  refine ac_region ?_
  refine aops_eff (eff_move rfl) rfl rfl rfl ?_
  refine aops_eff (eff_move rfl) rfl rfl rfl ?_
  refine aops_eff (eff_move rfl) rfl rfl rfl ?_
  refine aops_eff (eff_move rfl) rfl rfl rfl ?_
  obtain ⟨v1, hv1, h⟩ := ob h
  refine aops_eff (AEff.conv (w_call0 (x := .agg [.int v1.rows, .int v1.cols, .own 1 0 (List.map eI v1.cells).length]) (nb := [(1, ⟨1, absEs (List.map eI v1.cells)⟩)]) (c_spec_l5Rows a1 a2 v1 hv1) rfl (by rfl) rfl rfl (g1_cons trivial (g1_cons trivial (g1_cons (okI.good _) g1_nil))) (va_cons (va_same rfl) (va_cons (va_same rfl) va_nil))) (v' := .agg [.int v1.rows, .int v1.cols, .own 1 0 v1.cells.length]) (ed' := [(1, some ⟨1, List.map (ow eI) v1.cells⟩)]) (by simp only [len_map]) (ed_ok (nb' := [(1, ⟨1, List.map (ow eI) v1.cells⟩)]) (by simp only [abs_map]))) rfl rfl rfl ?_
  obtain ⟨v2, hv2, h⟩ := ob h
  refine aops_eff (AEff.conv (w_call0 (x := .own 2 0 (List.map (eLs 1 eI) v2).length) (nb := [(2, ⟨1, absEs (List.map (eLs 1 eI) v2)⟩)]) (c_spec_l5Basis a0 v1 v2 hv2) rfl (by rfl) rfl rfl (okLs.good _) (va_cons (va_same rfl) (va_cons (va_agg' (v1_cons (v1_same rfl) (v1_cons (v1_same rfl) (v1_cons (v1_T okI rfl rfl) v1_nil)))) va_nil))) (v' := .own 2 0 v2.length) (ed' := [(2, some ⟨1, List.map (ow (eLs 1 eI)) v2⟩)]) (by simp only [len_map]) (ed_ok (nb' := [(2, ⟨1, List.map (ow (eLs 1 eI)) v2⟩)]) (by simp only [abs_map]))) rfl rfl rfl ?_
  refine aops_eff (w_build TT_ok rfl rfl rfl rfl rfl rfl) rfl rfl rfl ?_
  refine aops_eff (w_store TT_ok rfl rfl rfl rfl rfl rfl rfl rfl) rfl rfl rfl ?_
  refine aops_nil ?_
  refine then_n ?_
  refine ac_ret ?_
  obtain rfl := so h
  exact ret_mk rfl rfl rfl (xz_agg (x1_cons (rfl) (x1_cons (x_f1 okLs rfl rfl) x1_nil)))

noncomputable def m_spec_SubspacesOf_L1 (a0 : Rp) (x1 : ((List Sc) × Int)) : Option (((List Sc) × Int) ⊕ (List Sc)) :=
  bif decide (x1.2 < (a0.maps.length : Int)) then
    (Option.bind (atL a0.maps x1.2) fun v8 =>
    Option.bind (atL a0.maps x1.2) fun v9 =>
    Option.bind (m_spec_l4Image a0.p v9) fun v10 =>
    Option.bind (m_spec_l5Span a0.p v8.rows v10) fun v11 =>
    bif decide (x1.1.length + 1 ≤ 4294967296) then
      (some (.inl ((x1.1 ++ [v11]), wr (x1.2 + 1))))
    else none)
  else
    (some (.inr x1.1))

noncomputable def m_spec_SubspacesOf (a0 : Rp) : Option ((List Sc) × Bool) :=
  Option.bind (m_spec_IsRep a0) fun v1 =>
  bif !v1 then
    (some ((([] : (List Sc)), false)))
  else
    (Option.bind (m_spec_StarOf (wr (a0.q.n - 1))) fun v3 =>
    bif !v3.2 then
      (some ((([] : (List Sc)), false)))
    else
      (Option.bind (m_spec_EqualQuivers v3.1 a0.q) fun v5 =>
      bif !v5 then
        (some ((([] : (List Sc)), false)))
      else
        (Option.bind (Lp (m_spec_SubspacesOf_L1 a0) (([] : (List Sc)), 0)) fun y13 =>
        some ((y13, true)))))

theorem c_spec_SubspacesOf (a0 : Rp) (r : ((List Sc) × Bool)) (h : m_spec_SubspacesOf a0 = some r) : HasC Try.prog 13 [.agg (eR a0)] (.tuple [.list 2 (List.map eS r.1), .bl r.2]) := by
  refine hasC_mk TT_ok (rvs := [.tmp 2, .tmp 3]) (ns := [0, 1, 2, 3, 4, 5, 6, 7, 8, 9, 10, 11, 12, 13]) Try.func13 rfl rfl Try.ntmps13 rfl rfl rfl ?_
  refine ac_seq ?_
  refine ac_region ?_
  refine aops_eff (w_box rfl rfl rfl rfl) rfl rfl rfl ?_
  refine aops_eff (eff_assign rfl) rfl rfl rfl ?_
  refine aops_eff (eff_assign rfl) rfl rfl rfl ?_
  refine aops_nil ?_
  refine then_n ?_
  refine ac_seq ?_
  refine ac_region ?_
  refine aops_eff (w_lit TT_ok rfl rfl rfl rfl rfl rfl rfl rfl rfl rfl rfl rfl) rfl rfl rfl ?_
  refine aops_eff (eff_assign rfl) rfl rfl rfl ?_
  refine aops_nil ?_
  refine then_n ?_
  refine ac_ent (t := mkS [(1, .ptr 0 0 0), (4, .own 1 0 (([] : (List Sc)).length))] [(0, ⟨6, [[.int a0.p, .int a0.q.n, .list 1 (List.map eI a0.q.src), .list 1 (List.map eI a0.q.tgt), .list 1 (List.map eI a0.dims), .list 3 (List.map eM a0.maps)]]⟩), (1, ⟨2, List.map (ow eS) ([] : (List Sc))⟩)] 2 [2, 3, 4, 5, 6, 7, 8, 9, 10, 11, 12, 13, 14, 15]) (ent_mk (σ := sg [(0, 0), (1, 1)]) ⟨⟨_, rfl, ⟨rfl, rfl, rfl, rfl⟩⟩, ⟨_, rfl, ⟨rfl, rfl, (by simp only [len_map, List.length_append, List.length_set, List.length_replicate, List.length_cons, List.length_nil]), rfl⟩⟩, trivial⟩ ⟨⟨_, rfl, rfl, .inl ⟨rfl, plain_of rfl⟩⟩, rfl, ⟨_, rfl, rfl, .inl ⟨rfl, okSc.plainO _⟩⟩, rfl, trivial⟩ rfl) ?_
  refine ac_seq ?_
  refine ac_seq ?_
  refine ac_region ?_
  refine aops_eff (w_load_ptr TT_ok rfl rfl rfl rfl rfl rfl rfl) rfl rfl rfl ?_
  obtain ⟨v1, hv1, h⟩ := ob h
  refine aops_eff (w_call0s (c_spec_IsRep a0 v1 hv1) rfl (va_cons (va_agg' (v1_cons (v1_same rfl) (v1_cons (v1_same rfl) (v1_cons (v1_same rfl) (v1_cons (v1_same rfl) (v1_cons (v1_same rfl) (v1_cons (v1_same rfl) v1_nil))))))) va_nil)) rfl rfl rfl ?_
  refine aops_eff (w_not rfl) rfl rfl rfl ?_
  refine aops_nil ?_
  refine then_n ?_
  rcases cb h with ⟨q2, h⟩ | ⟨q2, h⟩
  · refine ac_condT rfl q2 ?_
    refine ac_seq ?_
    refine ac_region ?_
    refine aops_eff (eff_move rfl) rfl rfl rfl ?_
    refine aops_eff (eff_assign rfl) rfl rfl rfl ?_
    refine aops_eff (eff_assign rfl) rfl rfl rfl ?_
    refine aops_nil ?_
    refine then_n ?_
    refine ac_ret ?_
    refine then_ret ?_
    obtain rfl := so h
    exact ret_mk rfl rfl rfl (xz_tuple rfl (xB_cons (xB_one (x_f1 okSc rfl rfl)) (xB_cons (rfl) xB_nil)))
  · refine ac_condF rfl q2 ?_
    refine ac_skip ?_
    refine then_n ?_
    refine ac_seq ?_
    refine ac_region ?_
    refine aops_eff (w_field_ptr TT_ok rfl rfl rfl rfl rfl rfl rfl) rfl rfl rfl ?_
    refine aops_eff (w_field_ptr TT_ok rfl rfl rfl rfl rfl rfl rfl) rfl rfl rfl ?_
    refine aops_eff (w_load_ptr TT_ok rfl rfl rfl rfl rfl rfl rfl) rfl rfl rfl ?_
    refine aops_eff (x_sub rfl rfl) rfl rfl rfl ?_
    obtain ⟨v3, hv3, h⟩ := ob h
    refine aops_eff (AEff.conv (w_call0 (x := .tuple [.agg [.int v3.1.n, .own 2 0 (List.map eI v3.1.src).length, .own 3 0 (List.map eI v3.1.tgt).length], .bl v3.2]) (nb := [(2, ⟨1, absEs (List.map eI v3.1.src)⟩), (3, ⟨1, absEs (List.map eI v3.1.tgt)⟩)]) (c_spec_StarOf (wr (a0.q.n - 1)) v3 hv3) rfl (by rfl) rfl rfl (gB_cons (g1_cons trivial (g1_cons (okI.good _) (g1_cons (okI.good _) g1_nil))) (gB_cons trivial gB_nil)) (va_cons (va_same rfl) va_nil)) (v' := .tuple [.agg [.int v3.1.n, .own 2 0 v3.1.src.length, .own 3 0 v3.1.tgt.length], .bl v3.2]) (ed' := [(2, some ⟨1, List.map (ow eI) v3.1.src⟩), (3, some ⟨1, List.map (ow eI) v3.1.tgt⟩)]) (by simp only [len_map]) (ed_ok (nb' := [(2, ⟨1, List.map (ow eI) v3.1.src⟩), (3, ⟨1, List.map (ow eI) v3.1.tgt⟩)]) (by simp only [abs_map]))) rfl rfl rfl ?_
    refine aops_eff (eff_move rfl) rfl rfl rfl ?_
    refine aops_eff (eff_extract rfl rfl (by intro _ h; cases h)) rfl rfl rfl ?_
    refine aops_eff (eff_extract rfl rfl (by intro _ h; cases h)) rfl rfl rfl ?_
    refine aops_eff (w_alloc TT_ok rfl rfl) rfl rfl rfl ?_
    refine aops_eff (w_store TT_ok rfl rfl rfl rfl rfl rfl rfl rfl) rfl rfl rfl ?_
    refine aops_eff (eff_assign rfl) rfl rfl rfl ?_
    refine aops_nil ?_
    refine then_n ?_
    refine ac_ent (t := mkS [(1, .ptr 0 0 0), (4, .own 1 0 (([] : (List Sc)).length)), (5, .ptr 4 0 0), (6, .bl v3.2)] [(0, ⟨6, [[.int a0.p, .int a0.q.n, .list 1 (List.map eI a0.q.src), .list 1 (List.map eI a0.q.tgt), .list 1 (List.map eI a0.dims), .list 3 (List.map eM a0.maps)]]⟩), (1, ⟨2, List.map (ow eS) ([] : (List Sc))⟩), (2, ⟨1, List.map (ow eI) v3.1.src⟩), (3, ⟨1, List.map (ow eI) v3.1.tgt⟩), (4, ⟨3, [[.int v3.1.n, .own 2 0 v3.1.src.length, .own 3 0 v3.1.tgt.length]]⟩)] 5 [5, 6, 7, 8, 9, 10, 11, 12, 13, 14, 15, 16, 17, 18]) (ent_mk (σ := sg [(0, 0), (1, 1), (2, 2), (3, 3), (4, 4)]) ⟨⟨_, rfl, ⟨rfl, rfl, rfl, rfl⟩⟩, ⟨_, rfl, ⟨rfl, rfl, rfl, rfl⟩⟩, ⟨_, rfl, ⟨rfl, rfl, rfl, rfl⟩⟩, ⟨_, rfl, rfl⟩, trivial⟩ ⟨⟨_, rfl, rfl, .inl ⟨rfl, plain_of rfl⟩⟩, rfl, ⟨_, rfl, rfl, .inl ⟨rfl, okSc.plainO _⟩⟩, rfl, ⟨_, rfl, rfl, .inl ⟨rfl, okI.plainO _⟩⟩, rfl, ⟨_, rfl, rfl, .inl ⟨rfl, okI.plainO _⟩⟩, rfl, ⟨_, rfl, rfl, .inr ⟨_, _, rfl, ⟨_, _, rfl, rfl, ⟨_, _, rfl, ⟨rfl, rfl, rfl, rfl⟩, ⟨_, _, rfl, ⟨rfl, rfl, rfl, rfl⟩, rfl⟩⟩⟩, rfl⟩⟩, rfl, trivial⟩ rfl) ?_
    refine ac_seq ?_
    refine ac_seq ?_
    refine ac_region ?_
    refine aops_eff (eff_move rfl) rfl rfl rfl ?_
    refine aops_eff (w_not rfl) rfl rfl rfl ?_
    refine aops_eff (eff_move rfl) rfl rfl rfl ?_
    rcases cb h with ⟨q4, h⟩ | ⟨q4, h⟩
    · refine aops_lit 23 rfl q4 ?_
      refine aops_skip rfl rfl ?_
      refine aops_skip rfl rfl ?_
      refine aops_skip rfl rfl ?_
      refine aops_skip rfl rfl ?_
      refine aops_skip rfl rfl ?_
      refine aops_eff (eff_pick rfl rfl) rfl rfl rfl ?_
      refine aops_nil ?_
      refine then_n ?_
      refine ac_condT rfl rfl ?_
      refine ac_seq ?_
      refine ac_region ?_
      refine aops_eff (eff_move rfl) rfl rfl rfl ?_
      refine aops_eff (eff_assign rfl) rfl rfl rfl ?_
      refine aops_eff (eff_assign rfl) rfl rfl rfl ?_
      refine aops_nil ?_
      refine then_n ?_
      refine ac_ent (t := mkS [(2, .own 1 0 (([] : (List Sc)).length)), (3, .bl false)] [(1, ⟨2, List.map (ow eS) ([] : (List Sc))⟩)] 5 [5, 6, 7, 8, 9, 10, 11, 12, 13, 14, 15, 16, 17, 18]) (ent_mk (σ := sg [(1, 1)]) ⟨⟨_, rfl, ⟨rfl, rfl, rfl, rfl⟩⟩, ⟨_, rfl, rfl⟩, trivial⟩ ⟨⟨_, rfl, rfl, .inl ⟨rfl, okSc.plainO _⟩⟩, rfl, trivial⟩ rfl) ?_
      refine ac_ret ?_
      refine then_ret ?_
      obtain rfl := so h
      exact ret_mk rfl rfl rfl (xz_tuple rfl (xB_cons (xB_one (x_f1 okSc rfl rfl)) (xB_cons (rfl) xB_nil)))
    · refine aops_lit 23 rfl q4 ?_
      refine aops_eff (w_load_ptr TT_ok rfl rfl rfl rfl rfl rfl rfl) rfl rfl rfl ?_
      refine aops_eff (w_field_ptr TT_ok rfl rfl rfl rfl rfl rfl rfl) rfl rfl rfl ?_
      refine aops_eff (w_load_ptr TT_ok rfl rfl rfl rfl rfl rfl rfl) rfl rfl rfl ?_
      obtain ⟨v5, hv5, h⟩ := ob h
      refine aops_eff (w_call0s (c_spec_EqualQuivers v3.1 a0.q v5 hv5) rfl (va_cons (va_agg' (v1_cons (v1_same rfl) (v1_cons (v1_T okI rfl rfl) (v1_cons (v1_T okI rfl rfl) v1_nil)))) (va_cons (va_agg' (v1_cons (v1_same rfl) (v1_cons (v1_same rfl) (v1_cons (v1_same rfl) v1_nil)))) va_nil))) rfl rfl rfl ?_
      refine aops_eff (w_not rfl) rfl rfl rfl ?_
      refine aops_eff (eff_pick rfl rfl) rfl rfl rfl ?_
      refine aops_nil ?_
      refine then_n ?_
      rcases cb h with ⟨q6, h⟩ | ⟨q6, h⟩
      · refine ac_condT rfl q6 ?_
        refine ac_seq ?_
        refine ac_region ?_
        refine aops_eff (eff_move rfl) rfl rfl rfl ?_
        refine aops_eff (eff_assign rfl) rfl rfl rfl ?_
        refine aops_eff (eff_assign rfl) rfl rfl rfl ?_
        refine aops_nil ?_
        refine then_n ?_
        refine ac_ent (t := mkS [(2, .own 1 0 (([] : (List Sc)).length)), (3, .bl false)] [(1, ⟨2, List.map (ow eS) ([] : (List Sc))⟩)] 5 [5, 6, 7, 8, 9, 10, 11, 12, 13, 14, 15, 16, 17, 18]) (ent_mk (σ := sg [(1, 1)]) ⟨⟨_, rfl, ⟨rfl, rfl, rfl, rfl⟩⟩, ⟨_, rfl, rfl⟩, trivial⟩ ⟨⟨_, rfl, rfl, .inl ⟨rfl, okSc.plainO _⟩⟩, rfl, trivial⟩ rfl) ?_
        refine ac_ret ?_
        refine then_ret ?_
        obtain rfl := so h
        exact ret_mk rfl rfl rfl (xz_tuple rfl (xB_cons (xB_one (x_f1 okSc rfl rfl)) (xB_cons (rfl) xB_nil)))
      · refine ac_condF rfl q6 ?_
        refine ac_skip ?_
        refine then_n ?_
        refine ac_seq ?_
        refine ac_seq ?_
        refine ac_region ?_
        refine aops_eff (eff_assign rfl) rfl rfl rfl ?_
        refine aops_nil ?_
        refine then_n ?_
        refine ac_block ?_
        obtain ⟨y13, hy13, h⟩ := ob h
        refine ac_Lp (body := (m_spec_SubspacesOf_L1 a0)) hy13 (fun (x1 : ((List Sc) × Int)) => mkS [(1, .ptr 0 0 0), (4, .own 1 0 x1.1.length), (7, .int x1.2)] [(0, ⟨6, [[.int a0.p, .int a0.q.n, .list 1 (List.map eI a0.q.src), .list 1 (List.map eI a0.q.tgt), .list 1 (List.map eI a0.dims), .list 3 (List.map eM a0.maps)]]⟩), (1, ⟨2, List.map (ow eS) x1.1⟩)] 2 [2, 3, 4, 5, 6, 7, 8, 9, 10, 11, 12, 13, 14, 15]) (fun r e t => e = .exit 0 ∧ Ent t (mkS [(4, .own 0 0 r.length)] [(0, ⟨2, List.map (ow eS) r⟩)] 1 [1, 2, 3, 4, 5, 6, 7, 8, 9, 10, 11, 12, 13, 14])) (ent_mk (σ := sg [(0, 0), (1, 1)]) ⟨⟨_, rfl, ⟨rfl, rfl, rfl, rfl⟩⟩, ⟨_, rfl, ⟨rfl, rfl, rfl, rfl⟩⟩, ⟨_, rfl, rfl⟩, trivial⟩ ⟨⟨_, rfl, rfl, .inl ⟨rfl, plain_of rfl⟩⟩, rfl, ⟨_, rfl, rfl, .inl ⟨rfl, okSc.plainO _⟩⟩, rfl, trivial⟩ rfl) ?_ ?_
        · intro x1 o h
          refine ac_seq ?_
          refine ac_seq ?_
          refine ac_region ?_
          refine aops_eff (eff_move rfl) rfl rfl rfl ?_
          refine aops_eff (w_field_ptr TT_ok rfl rfl rfl rfl rfl rfl rfl) rfl rfl rfl ?_
          refine aops_eff (w_load_ptr TT_ok rfl rfl rfl rfl rfl rfl rfl) rfl rfl rfl ?_
          refine aops_eff (AEff.val (w_len_list TT_ok rfl rfl rfl) (v' := .int (a0.maps.length : Int)) (by first | rw [len_map] | rw [encI_len])) rfl rfl rfl ?_
          refine aops_eff (w_cmp rfl rfl rfl) rfl rfl rfl ?_
          refine aops_nil ?_
          refine then_n ?_
          rcases cb h with ⟨q7, h⟩ | ⟨q7, h⟩
          · refine ac_condT rfl q7 ?_
            refine ac_skip ?_
            refine then_n ?_
            refine ac_seq ?_
            refine ac_block ?_
            refine ac_region_draw MIXX ?_
            refine aops_eff (eff_move rfl) rfl rfl rfl ?_
            refine aops_eff (w_field_ptr TT_ok rfl rfl rfl rfl rfl rfl rfl) rfl rfl rfl ?_
            refine aops_eff (w_load_ptr TT_ok rfl rfl rfl rfl rfl rfl rfl) rfl rfl rfl ?_
            refine aops_eff (w_field_ptr TT_ok rfl rfl rfl rfl rfl rfl rfl) rfl rfl rfl ?_
            refine aops_eff (w_load_ptr TT_ok rfl rfl rfl rfl rfl rfl rfl) rfl rfl rfl ?_
            refine aops_eff (eff_move rfl) rfl rfl rfl ?_
            obtain ⟨v8, hv8, h⟩ := ob h
            refine aops_eff (x_at_list TT_ok hv8 rfl rfl rfl rfl rfl rfl) rfl rfl rfl ?_
            refine aops_eff (w_field_ref TT_ok rfl rfl rfl rfl rfl rfl) rfl rfl rfl ?_
            refine aops_eff (w_load_ref TT_ok rfl rfl rfl rfl rfl rfl) rfl rfl rfl ?_
            refine aops_eff (w_field_ptr TT_ok rfl rfl rfl rfl rfl rfl rfl) rfl rfl rfl ?_
            refine aops_eff (w_load_ptr TT_ok rfl rfl rfl rfl rfl rfl rfl) rfl rfl rfl ?_
            refine aops_eff (w_field_ptr TT_ok rfl rfl rfl rfl rfl rfl rfl) rfl rfl rfl ?_
            refine aops_eff (w_load_ptr TT_ok rfl rfl rfl rfl rfl rfl rfl) rfl rfl rfl ?_
            refine aops_eff (eff_move rfl) rfl rfl rfl ?_
            obtain ⟨v9, hv9, h⟩ := ob h
            refine aops_eff (x_at_list TT_ok hv9 rfl rfl rfl rfl rfl rfl) rfl rfl rfl ?_
            refine aops_eff (w_load_ref TT_ok rfl rfl rfl rfl rfl rfl) rfl rfl rfl ?_
            obtain ⟨v10, hv10, h⟩ := ob h
            refine aops_eff (AEff.conv (w_call0 (x := .own 2 0 (List.map (eLs 1 eI) v10).length) (nb := [(2, ⟨1, absEs (List.map (eLs 1 eI) v10)⟩)]) (c_spec_l4Image a0.p v9 v10 hv10) rfl (by rfl) rfl rfl (okLs.good _) (va_cons (va_same rfl) (va_cons (va_agg' (v1_cons (v1_same rfl) (v1_cons (v1_same rfl) (v1_cons (v1_same rfl) v1_nil)))) va_nil))) (v' := .own 2 0 v10.length) (ed' := [(2, some ⟨1, List.map (ow (eLs 1 eI)) v10⟩)]) (by simp only [len_map]) (ed_ok (nb' := [(2, ⟨1, List.map (ow (eLs 1 eI)) v10⟩)]) (by simp only [abs_map]))) rfl rfl rfl ?_
            obtain ⟨v11, hv11, h⟩ := ob h
            refine aops_eff (AEff.conv (w_call0 (x := .agg [.int v11.size, .own 3 0 (List.map (eLs 1 eI) v11.basis).length]) (nb := [(3, ⟨1, absEs (List.map (eLs 1 eI) v11.basis)⟩)]) (c_spec_l5Span a0.p v8.rows v10 v11 hv11) rfl (by rfl) rfl rfl (g1_cons trivial (g1_cons (okLs.good _) g1_nil)) (va_cons (va_same rfl) (va_cons (va_same rfl) (va_cons (va_T okLs rfl rfl) va_nil)))) (v' := .agg [.int v11.size, .own 3 0 v11.basis.length]) (ed' := [(3, some ⟨1, List.map (ow (eLs 1 eI)) v11.basis⟩)]) (by simp only [len_map]) (ed_ok (nb' := [(3, ⟨1, List.map (ow (eLs 1 eI)) v11.basis⟩)]) (by simp only [abs_map]))) rfl rfl rfl ?_
            refine aops_eff (w_lit TT_ok rfl rfl rfl rfl rfl rfl rfl rfl rfl rfl rfl rfl) rfl rfl rfl ?_
            obtain ⟨q12, h⟩ := cg h
            refine aops_eff (x_app1 TT_ok (l := x1.1) (c := [.int v11.size, .own 3 0 v11.basis.length]) q12 rfl rfl rfl rfl rfl rfl rfl rfl rfl rfl rfl rfl rfl rfl) rfl rfl rfl ?_
            refine aops_eff (eff_assign rfl) rfl rfl rfl ?_
            refine aops_nil ?_
            refine ⟨by kernel_rfl, ?_⟩
            refine block_n ?_
            refine then_n ?_
            refine ac_ent (t := mkS [(1, .ptr 0 0 0), (4, .own 5 0 ((x1.1 ++ [v11]).length)), (7, .int x1.2)] [(0, ⟨6, [[.int a0.p, .int a0.q.n, .list 1 (List.map eI a0.q.src), .list 1 (List.map eI a0.q.tgt), .list 1 (List.map eI a0.dims), .list 3 (List.map eM a0.maps)]]⟩), (5, ⟨2, List.map (ow eS) (x1.1 ++ [v11])⟩)] 6 [6, 7, 8, 9, 10, 11, 12, 13, 14, 15, 16, 17, 18, 19]) (Ent.trans (ent_absL (b := 5) (b' := 3) (j := 1) (es' := List.map (eLs 1 eI) v11.basis) rfl rfl rfl rfl (len_map _ _) (okLs.frzs _)) (ent_mk (σ := sg [(0, 0), (5, 5)]) ⟨⟨_, rfl, ⟨rfl, rfl, rfl, rfl⟩⟩, ⟨_, rfl, ⟨rfl, rfl, (by simp only [len_map, List.length_append, List.length_set, List.length_replicate, List.length_cons, List.length_nil]), rfl⟩⟩, ⟨_, rfl, rfl⟩, trivial⟩ ⟨⟨_, rfl, rfl, .inl ⟨rfl, plain_of rfl⟩⟩, rfl, ⟨_, rfl, rfl, .inl ⟨app_eq v11 rfl, okSc.plainO _⟩⟩, rfl, trivial⟩ rfl)) ?_
            refine ac_region ?_
            refine aops_eff (eff_move rfl) rfl rfl rfl ?_
            refine aops_eff (x_add rfl rfl) rfl rfl rfl ?_
            refine aops_eff (eff_assign rfl) rfl rfl rfl ?_
            refine aops_nil ?_
            refine then_n ?_
            obtain rfl := so h
            exact ⟨_, rfl, (ent_mk (σ := sg [(0, 0), (1, 5)]) ⟨⟨_, rfl, ⟨rfl, rfl, rfl, rfl⟩⟩, ⟨_, rfl, ⟨rfl, rfl, rfl, rfl⟩⟩, ⟨_, rfl, rfl⟩, trivial⟩ ⟨⟨_, rfl, rfl, .inl ⟨rfl, plain_of rfl⟩⟩, rfl, ⟨_, rfl, rfl, .inl ⟨rfl, okSc.plainO _⟩⟩, rfl, trivial⟩ rfl)⟩
          · refine ac_condF rfl q7 ?_
            refine ac_exit ?_
            refine then_exit ?_
            refine then_exit ?_
            obtain rfl := so h
            exact ⟨_, rfl, rfl, (ent_mk (σ := sg [(0, 1)]) ⟨⟨_, rfl, ⟨rfl, rfl, rfl, rfl⟩⟩, trivial⟩ ⟨⟨_, rfl, rfl, .inl ⟨rfl, okSc.plainO _⟩⟩, rfl, trivial⟩ rfl)⟩
        · rintro e t ⟨rfl, hent⟩
          refine block_here ?_
          refine then_n ?_
          refine ac_ent hent ?_
          refine ac_seq ?_
          refine ac_region ?_
          refine aops_eff (eff_move rfl) rfl rfl rfl ?_
          refine aops_eff (eff_assign rfl) rfl rfl rfl ?_
          refine aops_eff (eff_assign rfl) rfl rfl rfl ?_
          refine aops_nil ?_
          refine then_n ?_
          refine ac_ret ?_
          obtain rfl := so h
          exact ret_mk rfl rfl rfl (xz_tuple rfl (xB_cons (xB_one (x_f1 okSc rfl rfl)) (xB_cons (rfl) xB_nil)))

end Go.Proofs.Ytjfcjkeghigipaa
end

section
set_option linter.unusedVariables false
set_option linter.unusedSimpArgs false
/-
  Spaces on both sides: rows, reduced bases, spans; which spaces are well formed.
-/
namespace Go.Proofs.Ytjfcjkeghigipaa
open Go.RowKit
set_option linter.unusedVariables false
set_option linter.unusedSimpArgs false

theorem rows_of {l : List (List Int)} {n : Nat} (h : ∀ v ∈ l, v.length = n) : l = (List.range l.length).map fun i => rowL n (rowsF l i) := by
  refine List.ext_getElem (by simp) fun i h1 h2 => ?_
  simp only [List.getElem_map, List.getElem_range]
  refine List.ext_getElem (by rw [rowL_len]; exact h _ (List.getElem_mem h1)) fun j h3 h4 => ?_
  simp [rowL, rowsF, h1, h3]
theorem flat_rows {l : List (List Int)} {n : Nat} (h : ∀ v ∈ l, v.length = n) : l.flatten = tabM l.length n (rowsF l) := by
  have e : l.flatten = ((List.range l.length).map fun i => rowL n (rowsF l i)).flatten := by rw [← rows_of h]
  rw [e, flat_tab]
theorem tb_rows {p : Int} (hp : isF p = true) {n : Nat} {l : List (List Int)} (hn : n ≤ 1024) (hl : l.length ≤ 512) (h : VecsP p n l) : Tb p l.length n (rowsF l) := by
  refine ⟨hp, ?_, by omega, by omega, h.inP⟩
  have := Nat.mul_le_mul hl hn
  omega
theorem take_row {r c i : Nat} (hN : r * c ≤ 1048576) (hr : r ≤ 1048576) (hi : i < r) (F : Nat → Nat → Int) : ((tabM r c F).drop (0 + (i * c))).take ((i * c + c) - i * c) = rowL c (F i) := by
  have h := @rowle r c i hi
  rw [Nat.succ_mul] at h
  refine List.ext_getElem (by simp [tabM_len, rowL_len]; omega) fun t h1 h2 => ?_
  rw [rowL_len] at h2
  rw [List.getElem_take, List.getElem_drop]
  simp [tabM, rowL, ix_div h2, ix_mod h2]
theorem takeRows_rowL (F : Nat → Nat → Int) (r n : Nat) : takeRows F r n = (List.range r).map fun i => rowL n (F i) := rfl
theorem takeRows_snoc (F : Nat → Nat → Int) (r n : Nat) : takeRows F r n ++ [rowL n (F r)] = takeRows F (r + 1) n := by
  rw [takeRows_rowL, takeRows_rowL, List.range_succ, List.map_append]; rfl

theorem n_fromRows {n : Nat} {l : List (List Int)} (hn : n ≤ 1024) (hl : l.length ≤ 512) (h : ∀ v ∈ l, v.length = n) : m_impl_fromRows n l = some ⟨l.length, n, tabM l.length n (rowsF l)⟩ := by
  unfold m_impl_fromRows
  rw [n_concat hl (fun v hv => by rw [h v hv]; exact hn), Option.bind_some, flat_rows h]
theorem n_implSpan {p : Int} (hp : isF p = true) {n : Nat} {l : List (List Int)} (hn : n ≤ 1024) (hl : l.length ≤ 512) (h : VecsP p n l) : m_impl_span p n l = some ⟨n, spanL p n l⟩ := by
  have T := tb_rows hp hn hl h
  have hL := @redUp_len p l.length (rowsF l) n
  have h1 := T.hN
  unfold m_impl_span
  rw [n_fromRows hn hl (fun v hv => (h v hv).1), Option.bind_some, n_implReduce T, Option.bind_some]
  rw [Lp_go (r := spanL p n l) (fun k => (takeRows (redUp p l.length (rowsF l) n).1 k n, (k : Int))) (redUp p l.length (rowsF l) n).2.length (by simp [takeRows]) (fun k hk => ?_) (fun _ => ?_), Option.bind_some]
  · have hkl : k < l.length := by omega
    have h3 := @rowle l.length n k hkl
    rw [Nat.succ_mul] at h3
    unfold m_impl_span_L1
    simp only
    rw [castL_len, dlt hk, cond_true, n_row T.hN T.hm hkl, Option.bind_some, row_lo T.hN hkl, row_hi T.hN T.hm hkl]
    simp only [Int.toNat_natCast]
    rw [take_row T.hN T.hm hkl]
    unfold m_Clone
    rw [rowL_len, decide_eq_true (by omega), cond_true, Option.bind_some, takeRows_len, decide_eq_true (by omega), cond_true, takeRows_snoc, wr_suc hk (by omega)]
  · unfold m_impl_span_L1
    simp only
    rw [castL_len, dnl (Nat.le_refl _), cond_false]
    rfl
theorem n_l5Rows {n : Nat} {l : List (List Int)} (hn : n ≤ 1024) (hl : l.length ≤ 512) (h : ∀ v ∈ l, v.length = n) : m_spec_l5Rows n l = some ⟨l.length, n, tabM l.length n (rowsF l)⟩ := by
  have hb : ∀ k, (l.take k).flatten.length ≤ 1024 * 512 := fun k => by
    have := flat_len (l := l.take k) fun x hx => by rw [h x (List.mem_of_mem_take hx)]; exact hn
    have h2 : (l.take k).length ≤ 512 := by simp; omega
    omega
  unfold m_spec_l5Rows
  rw [Lp_go (r := l.flatten) (fun k => ((l.take k).flatten, (k : Int))) l.length (by simp) (fun k hk => ?_) (fun _ => ?_), Option.bind_some, flat_rows h]
  · unfold m_spec_l5Rows_L1
    simp only
    have e2 := hb (k + 1)
    rw [flat_take hk, List.length_append] at e2
    rw [dlt hk, cond_true, atL_nat hk, Option.bind_some, decide_eq_true (by omega), cond_true, wr_suc hk (by omega), flat_take hk]
  · unfold m_spec_l5Rows_L1
    simp only
    rw [dnl (Nat.le_refl _), cond_false, List.take_length]
theorem n_l5Basis {p : Int} {m n : Nat} {F : Nat → Nat → Int} (T : Tb p m n F) : m_spec_l5Basis p ⟨m, n, tabM m n F⟩ = some (takeRows (redUp p m F n).1 (redUp p m F n).2.length n) := by
  have hL := @redUp_len p m F n
  have hm := T.hm
  have hn := T.hn
  unfold m_spec_l5Basis
  rw [n_specReduce T, Option.bind_some]
  rw [Lp_go (r := takeRows (redUp p m F n).1 (redUp p m F n).2.length n) (fun k => (takeRows (redUp p m F n).1 k n, (k : Int))) (redUp p m F n).2.length (by simp [takeRows]) (fun k hk => ?_) (fun _ => ?_), Option.bind_some]
  · have hkl : k < m := by omega
    have h3 := @rowle m n k hkl
    rw [Nat.succ_mul] at h3
    have h4 := T.hN
    have e : wr (wr ((k : Int) * (n : Int)) + (n : Int)) = ((k * n + n : Nat) : Int) := by rw [row_lo T.hN hkl, wr_sm (by omega)]; omega
    unfold m_spec_l5Basis_L1
    simp only
    rw [castL_len, dlt hk, cond_true, e, row_lo T.hN hkl, tabM_len, decide_eq_true (by omega), decide_eq_true (by omega : ((k * n : Nat) : Int) ≤ ((k * n + n : Nat) : Int)), decide_eq_true (by omega : ((k * n + n : Nat) : Int) ≤ ((m * n : Nat) : Int))]
    simp only [Int.toNat_natCast, Bool.and_self, cond_true, take_row T.hN T.hm hkl]
    rw [rowL_len, decide_eq_true (by simp; omega), cond_true, takeRows_len, decide_eq_true (by omega), cond_true, List.nil_append, takeRows_snoc, wr_suc hk (by omega)]
  · unfold m_spec_l5Basis_L1
    simp only
    rw [castL_len, dnl (Nat.le_refl _), cond_false]
theorem n_l5Span {p : Int} (hp : isF p = true) {n : Nat} {l : List (List Int)} (hn : n ≤ 1024) (hl : l.length ≤ 512) (h : VecsP p n l) : m_spec_l5Span p n l = some ⟨n, spanL p n l⟩ := by
  unfold m_spec_l5Span
  rw [n_l5Rows hn hl (fun v hv => (h v hv).1), Option.bind_some, n_l5Basis (tb_rows hp hn hl h), Option.bind_some]
  rfl

/-! ## which spaces are well formed -/
def bLs (l : List (List Int)) : Prop := l.length ≤ 1048576 ∧ ∀ v ∈ l, bI v
theorem vec_wr (p : Int) (v : List Int) : (isF p && decide (v.length ≤ 64) && v.all fun x => inR x 0 (wr (p - 1))) = vecV p v := by
  unfold vecV
  cases h : isF p with
  | false => rfl
  | true => rw [wr_sm (by have := isF_bd h; omega)]
theorem all_mem {α : Type} {l : List α} {P Q : α → Bool} (h : ∀ x ∈ l, P x = Q x) : l.all P = l.all Q := by
  induction l with
  | nil => rfl
  | cons x l ih => rw [List.all_cons, List.all_cons, h x (by simp), ih fun y hy => h y (by simp [hy])]
theorem any_mem {α : Type} {l : List α} {P Q : α → Bool} (h : ∀ x ∈ l, P x = Q x) : l.any P = l.any Q := by
  induction l with
  | nil => rfl
  | cons x l ih => rw [List.any_cons, List.any_cons, h x (by simp), ih fun y hy => h y (by simp [hy])]
theorem fine_eq (p size : Int) (l : List (List Int)) : fineV p size l = (isF p && inR size 0 8 && decide (l.length ≤ 16) && l.all fun v => decide ((v.length : Int) = size) && vecV p v) := rfl
theorem bLs_of {p : Int} {n : Nat} {l : List (List Int)} (hl : l.length ≤ 1048576) (hn : n ≤ 1048576) (h : VecsP p n l) : bLs l := ⟨hl, fun v hv => by unfold bI; rw [(h v hv).1]; exact hn⟩
theorem bLs_span {p : Int} (hp : isF p = true) {n : Nat} {l : List (List Int)} (hn : n ≤ 1048576) (h : VecsP p n l) : bLs (spanL p n l) := bLs_of (by have := (@span_len p n l).1; omega) hn (vecs_span hp h.inP)
end Go.Proofs.Ytjfcjkeghigipaa
end

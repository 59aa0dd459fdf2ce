/-
  Elimination: both sides' models answer redUp.
-/
import Derived.Test.YtjfcjkeghigipaaP4
namespace Go.Proofs.Ytjfcjkeghigipaa
open Go.RowKit
set_option linter.unusedVariables false

def castL (L : List Nat) : List Int := L.map fun t : Nat => (t : Int)
theorem castL_len (L : List Nat) : (castL L).length = L.length := by simp [castL]
theorem redUp_full {p : Int} {m : Nat} {F : Nat → Nat → Int} {j : Nat} (h : (redUp p m F j).2.length = m) : ∀ d, redUp p m F (j + d) = redUp p m F j
  | 0 => rfl
  | d + 1 => by
    show redStep p m (redUp p m F (j + d)) (j + d) = _
    rw [redUp_full h d]
    unfold redStep
    rw [if_pos]
    rw [h, Nat.sub_self]
    rfl
def swapTo (F : Nat → Nat → Int) (a b x : Nat) : Nat → Nat → Int := fun i y => if y < x then swapF F a b i y else F i y
def scaleTo (p : Int) (F : Nat → Nat → Int) (a : Nat) (s : Int) (x : Nat) : Nat → Nat → Int := fun i y => if y < x then scaleF p F a s i y else F i y
def elimTo (p : Int) (F : Nat → Nat → Int) (a j x : Nat) : Nat → Nat → Int := fun i c => if i < x then elimF p F a j i c else F i c
theorem swap_step {r c a b x : Nat} (F : Nat → Nat → Int) : tabM r c (setF (setF (swapTo F a b x) a x (F b x)) b x (F a x)) = tabM r c (swapTo F a b (x + 1)) := by
  refine tabM_congr fun i y hi hy => ?_
  simp only [setF, swapTo, swapF]
  by_cases e : y = x
  · subst e
    simp only [and_true, Nat.lt_irrefl, if_false, Nat.lt_succ_self, if_true]
    by_cases e1 : i = b
    · rw [if_pos e1]
      by_cases e2 : i = a
      · rw [if_pos e2]
        subst e1; rw [e2]
      · rw [if_neg e2, if_pos e1]
    · rw [if_neg e1]
      by_cases e2 : i = a
      · rw [if_pos e2, if_pos e2]
      · rw [if_neg e2, if_neg e2, if_neg e1]
  · rw [if_neg (by omega), if_neg (by omega)]
    by_cases e1 : y < x
    · rw [if_pos e1, if_pos (show y < x + 1 by omega)]
    · rw [if_neg e1, if_neg (show ¬ y < x + 1 by omega)]
theorem swapTo_at {F : Nat → Nat → Int} {a b x i : Nat} : swapTo F a b x i x = F i x := by simp [swapTo]
theorem scaleTo_at {p : Int} {F : Nat → Nat → Int} {a x i : Nat} {s : Int} : scaleTo p F a s x i x = F i x := by simp [scaleTo]
theorem scale_step {p : Int} {r c a x : Nat} {s : Int} (F : Nat → Nat → Int) : tabM r c (setF (scaleTo p F a s x) a x ((F a x * s) % p)) = tabM r c (scaleTo p F a s (x + 1)) := by
  refine tabM_congr fun i y hi hy => ?_
  simp only [setF, scaleTo, scaleF]
  by_cases e : y = x
  · subst e
    simp only [and_true, Nat.lt_irrefl, if_false, Nat.lt_succ_self, if_true]
  · rw [if_neg (by omega)]
    by_cases e1 : y < x
    · rw [if_pos e1, if_pos (show y < x + 1 by omega)]
    · rw [if_neg e1, if_neg (show ¬ y < x + 1 by omega)]
theorem invR_bd {p r : Int} (hp : isF p = true) (hr : 0 ≤ r ∧ r < p) : 0 ≤ invR p r ∧ invR p r < p := powR_bd hp hr _
theorem swapF_in {p : Int} {m n k r : Nat} {F : Nat → Nat → Int} (h : InP p m n F) (hk : k < m) (hr : r < m) : InP p m n (swapF F k r) := by
  intro i c hi hc
  unfold swapF
  split
  · exact h r c hr hc
  · split
    · exact h k c hk hc
    · exact h i c hi hc
theorem scaleF_in {p : Int} (hp : isF p = true) {m n k : Nat} {s : Int} {F : Nat → Nat → Int} (h : InP p m n F) : InP p m n (scaleF p F k s) := by
  intro i c hi hc
  unfold scaleF
  split
  · exact emod_bd hp
  · exact h i c hi hc
theorem elimTo_in {p : Int} (hp : isF p = true) {m n k j x : Nat} {F : Nat → Nat → Int} (h : InP p m n F) : InP p m n (elimTo p F k j x) := by
  intro i c hi hc
  unfold elimTo elimF
  split
  · split
    · rename_i h1 h2; subst h2; exact h _ c hi hc
    · exact emod_bd hp
  · exact h i c hi hc
theorem elim_row {p : Int} (hp : isF p = true) {m n k j x : Nat} {F : Nat → Nat → Int} (hx : x ≠ k) : tabM m n (addF p (elimTo p F k j x) x (p - F x j) (elimTo p F k j x k)) = tabM m n (elimTo p F k j (x + 1)) := by
  refine tabM_congr fun i c hi hc => ?_
  simp only [addF, elimTo, elimF]
  by_cases e : i = x
  · subst e
    rw [if_pos rfl, if_neg (Nat.lt_irrefl _), if_pos (Nat.lt_succ_self _), if_neg hx]
    simp only [if_true, ite_self]
    rw [show F i c + (p - F i j) * F k c = (F i c - F i j * F k c) + p * F k c by rw [Int.sub_mul]; omega, Int.add_mul_emod_self_left]
  · rw [if_neg e]
    by_cases e1 : i < x
    · rw [if_pos e1, if_pos (show i < x + 1 by omega)]
    · rw [if_neg e1, if_neg (show ¬ i < x + 1 by omega)]
theorem elim_skip {p : Int} {m n k j : Nat} {F : Nat → Nat → Int} : tabM m n (elimTo p F k j k) = tabM m n (elimTo p F k j (k + 1)) := by
  refine tabM_congr fun i c hi hc => ?_
  simp only [elimTo, elimF]
  by_cases e : i < k
  · rw [if_pos e, if_pos (show i < k + 1 by omega)]
  · rw [if_neg e]
    by_cases e1 : i = k
    · subst e1; simp
    · rw [if_neg (show ¬ i < k + 1 by omega)]
theorem redPart_eq {p : Int} {F : Nat → Nat → Int} {k r j : Nat} : redPart p F k r j = elimF p (scaleF p (swapF F k r) k (invR p (F r j))) k j := rfl

/-- What reduces: sides, and a table of rests. -/
structure Tb (p : Int) (m n : Nat) (F : Nat → Nat → Int) : Prop where
  hp : isF p = true
  hN : m * n ≤ 1048576
  hm : m ≤ 1048576
  hn : n ≤ 1048576
  hi : InP p m n F

def rI (n : Nat) (p : Int) (m : Nat) (F : Nat → Nat → Int) (j : Nat) : Int × List Int × List Int := (j, tabM m n (redUp p m F j).1, castL (redUp p m F j).2)
theorem n_pivI {p : Int} {m n : Nat} {F : Nat → Nat → Int} (T : Tb p m n F) {j : Nat} (hj : j < n) (L : List Nat) (hL : L.length ≤ m) (l : List Int) :
    Lp (m_impl_reduce_L2 ⟨m, n, l⟩ ((j : Int), tabM m n F, castL L)) (((castL L).length : Nat) : Int) = some ((pivot F j (m - L.length) L.length : Nat) : Int) := by
  obtain ⟨hp, hN, hm, hn, hi⟩ := T
  have hle := @pivot_le F j (m - L.length) L.length
  have hz := @pivot_zero F j (m - L.length) L.length
  have hh := @pivot_hit F j (m - L.length) L.length
  generalize pivot F j (m - L.length) L.length = r at *
  rw [castL_len]
  refine Lp_go (fun t => ((L.length + t : Nat) : Int)) (r - L.length) (by simp) (fun t ht => ?_) (fun _ => ?_)
  · unfold m_impl_reduce_L2
    simp only
    rw [dlt (by omega), cond_true, n_row hN hm (by omega), Option.bind_some, row_lo hN (by omega), row_hi hN hm (by omega), Int.toNat_natCast, Int.toNat_natCast, Nat.add_sub_cancel_left, dlt hj, gd, cond_true, Nat.zero_add, Int.toNat_natCast, tabM_get _ (by omega) hj, Option.bind_some,
      hz _ (by omega) (by omega), decide_eq_true rfl, cond_true, wr_suc (n := m) (by omega) (by omega), Nat.add_assoc]
  · rw [show L.length + (r - L.length) = r by omega]
    unfold m_impl_reduce_L2
    simp only
    rcases Nat.lt_or_ge r m with h | h
    · rw [dlt h, cond_true, n_row hN hm h, Option.bind_some, row_lo hN h, row_hi hN hm h, Int.toNat_natCast, Int.toNat_natCast, Nat.add_sub_cancel_left, dlt hj, gd, cond_true, Nat.zero_add, Int.toNat_natCast, tabM_get _ h hj, Option.bind_some,
        decide_eq_false (hh (by omega)), cond_false]
    · rw [dnl h, cond_false]
theorem n_stepI {p : Int} {m n : Nat} {F : Nat → Nat → Int} (T : Tb p m n F) {j : Nat} (hj : j < n) (L : List Nat) (hL : L.length ≤ m) (l : List Int) :
    m_impl_reduce_L1 p ⟨m, n, l⟩ ((j : Int), tabM m n F, castL L) = some (.inl (((j + 1 : Nat) : Int), tabM m n (redStep p m (F, L) j).1, castL (redStep p m (F, L) j).2)) := by
  have hpv := n_pivI T hj L hL l
  obtain ⟨hp, hN, hm, hn, hi⟩ := T
  have hb := isF_bd hp
  have hle := @pivot_le F j (m - L.length) L.length
  unfold m_impl_reduce_L1 redStep
  simp only
  rw [dlt hj, cond_true, hpv, Option.bind_some, wr_suc hj (by omega)]
  clear hpv
  generalize pivot F j (m - L.length) L.length = r at *
  by_cases hr : r = m
  · rw [decide_eq_true (by omega), cond_true, if_pos hr]
  · rw [decide_eq_false (by omega), cond_false, if_neg hr]
    have hk : L.length < m := by omega
    have hrm : r < m := by omega
    simp only [castL_len]
    rw [n_row hN hm hk, Option.bind_some, row_lo hN hk, row_hi hN hm hk]
    simp only [Int.toNat_natCast, Nat.add_sub_cancel_left, Nat.zero_add]
    rw [Lp_go (r := tabM m n (swapF F L.length r)) (fun x => (tabM m n (swapTo F L.length r x), (x : Int))) n ?_ (fun x hx => ?_) (fun _ => ?_), Option.bind_some, dlt hj, gd, cond_true, tabM_get _ hk hj, Option.bind_some]
    · have e1 : swapF F L.length r L.length j = F r j := by simp [swapF]
      have hrj := hi r j hrm hj
      rw [e1, n_implInv hp, Option.bind_some, Int.emod_eq_of_lt hrj.1 hrj.2]
      have hs := invR_bd hp hrj
      rw [redPart_eq]
      generalize invR p (F r j) = s at *
      have h1 := swapF_in hi hk hrm
      generalize swapF F L.length r = F1 at *
      rw [Lp_go (r := tabM m n (scaleF p F1 L.length s)) (fun x => (tabM m n (scaleTo p F1 L.length s x), (x : Int))) n ?_ (fun x hx => ?_) (fun _ => ?_), Option.bind_some]
      · have h2 := scaleF_in hp (k := L.length) (s := s) h1
        generalize scaleF p F1 L.length s = F2 at *
        rw [Lp_go (r := tabM m n (elimF p F2 L.length j)) (fun x => (tabM m n (elimTo p F2 L.length j x), (x : Int))) m ?_ (fun x hx => ?_) (fun _ => ?_), Option.bind_some]
        · rw [decide_eq_true (by simp; omega), cond_true]
          simp [castL]
        · congr 1
        · unfold m_impl_reduce_L5
          simp only [castL_len]
          rw [dlt hx, cond_true]
          by_cases hxk : x = L.length
          · rw [decide_eq_true (by omega), Bool.not_true, cond_false, wr_suc hx (by omega), hxk, elim_skip]
          · rw [decide_eq_false (by omega), Bool.not_false, cond_true, n_row hN hm hx, Option.bind_some, Option.bind_some, row_lo hN hx, row_hi hN hm hx, row_lo hN hk, row_hi hN hm hk]
            simp only [Int.toNat_natCast, Nat.add_sub_cancel_left, Nat.zero_add]
            rw [dlt hj, gd, cond_true, tabM_get _ hx hj, Option.bind_some]
            have e2 : elimTo p F2 L.length j x x j = F2 x j := by simp [elimTo]
            have h3 := h2 x j hx hj
            have h4 := elimTo_in hp (k := L.length) (j := j) (x := x) h2
            rw [e2, wr_sm (by omega), n_addMul2 hp hn hx hk hxk (by omega) (fun b hb => h4 _ b hx hb) (fun b hb => h4 _ b hk hb), Option.bind_some, tabM_len, tabM_len, decide_eq_true rfl, cond_true, wr_suc hx (by omega), elim_row hp hxk]
        · unfold m_impl_reduce_L5
          simp only
          rw [dnl (Nat.le_refl _), cond_false]
          congr 2
          exact tabM_congr fun a b ha hb => by simp only [elimTo]; rw [if_pos ha]
      · congr 1
      · unfold m_impl_reduce_L4
        simp only [castL_len]
        rw [row_lo hN hk, row_hi hN hm hk]
        simp only [Int.toNat_natCast, Nat.add_sub_cancel_left, Nat.zero_add]
        have g1 := h1 _ x hk hx
        have g2 := mulb (a := F1 L.length x) (b := s) (by omega) (by omega)
        rw [dlt hx, cond_true, gd, cond_true, tabM_get _ hk hx, Option.bind_some, p_ne hp, cond_true, cond_true, Option.bind_some, scaleTo_at, wr_sm (by omega), Int.tmod_eq_emod_of_nonneg g2.1, tabM_set _ _ hk hx, wr_suc hx (by omega), scale_step]
      · unfold m_impl_reduce_L4
        simp only [castL_len]
        rw [row_lo hN hk, row_hi hN hm hk]
        simp only [Int.toNat_natCast, Nat.add_sub_cancel_left, Nat.zero_add]
        rw [dnl (Nat.le_refl _), cond_false]
        congr 2
        exact tabM_congr fun a b ha hb => by simp only [scaleTo]; rw [if_pos hb]
    · congr 1
    · unfold m_impl_reduce_L3
      simp only [castL_len]
      rw [dlt hx, cond_true, n_row hN hm hrm, Option.bind_some, Option.bind_some, row_lo hN hk, row_hi hN hm hk, row_lo hN hrm, row_hi hN hm hrm]
      simp only [Int.toNat_natCast, Nat.add_sub_cancel_left, Nat.zero_add]
      rw [dlt hx, gd, cond_true, tabM_get _ hrm hx, Option.bind_some, cond_true, tabM_get _ hk hx, Option.bind_some, cond_true, Option.bind_some, cond_true, tabM_set _ _ hk hx, tabM_get _ hrm hx, Option.bind_some, tabM_set _ _ hrm hx, swapTo_at, swapTo_at, wr_suc hx (by omega), swap_step]
    · unfold m_impl_reduce_L3
      simp only
      rw [dnl (Nat.le_refl _), cond_false]
      congr 2
      exact tabM_congr fun a b ha hb => by simp only [swapTo]; rw [if_pos hb]
theorem n_implReduce {p : Int} {m n : Nat} {F : Nat → Nat → Int} (T : Tb p m n F) : m_impl_reduce p ⟨m, n, tabM m n F⟩ = some (⟨m, n, tabM m n (redUp p m F n).1⟩, castL (redUp p m F n).2) := by
  have hN := T.hN
  have hn := T.hn
  unfold m_impl_reduce m_impl_Matrix_clone m_Clone
  simp only
  rw [tabM_len, decide_eq_true hN, cond_true, Option.bind_some, Option.bind_some]
  simp only
  rw [Lp_go (r := (tabM m n (redUp p m F n).1, castL (redUp p m F n).2)) (fun j => ((j : Int), tabM m n (redUp p m F j).1, castL (redUp p m F j).2)) n (by simp [redUp, castL]) (fun j hj => ?_) (fun _ => ?_), Option.bind_some]
  · show _ = some (Sum.inl (((j + 1 : Nat) : Int), tabM m n (redStep p m (redUp p m F j) j).1, castL (redStep p m (redUp p m F j) j).2) : (Int × List Int × List Int) ⊕ (List Int × List Int))
    exact n_stepI ⟨T.hp, T.hN, T.hm, T.hn, redUp_in (by have := isF_bd T.hp; omega) T.hi j⟩ hj _ (redUp_len j) _
  · unfold m_impl_reduce_L1
    simp only
    rw [dnl (Nat.le_refl _), cond_false]
theorem n_implRank {p : Int} {m n : Nat} {F : Nat → Nat → Int} (T : Tb p m n F) : m_impl_rank p ⟨m, n, tabM m n F⟩ = some ((redUp p m F n).2.length : Int) := by
  unfold m_impl_rank
  rw [n_implReduce T, Option.bind_some, castL_len]

theorem n_pivS {p : Int} {m n : Nat} {F : Nat → Nat → Int} (T : Tb p m n F) {j : Nat} (hj : j < n) (L : List Nat) (hL : L.length < m) (l : List Int) :
    Lp (m_spec_l4Reduce_L2 ⟨m, n, l⟩ ((j : Int), tabM m n F, castL L, (L.length : Int))) (-1, wr ((m : Int) - 1)) = some (if pivot F j (m - L.length) L.length = m then -1 else ((pivot F j (m - L.length) L.length : Nat) : Int)) := by
  obtain ⟨hp, hN, hm, hn, hi⟩ := T
  refine Lp_go (fun t => (if pivot F j t (m - t) = m then -1 else ((pivot F j t (m - t) : Nat) : Int), ((m - t : Nat) : Int) - 1)) (m - L.length) ?_ (fun t ht => ?_) (fun _ => ?_)
  · simp only [pivot, Nat.sub_zero, if_true]
    rw [wr_sm (by omega)]
  · unfold m_spec_l4Reduce_L2
    simp only
    have e : ((m - t : Nat) : Int) - 1 = ((m - (t + 1) : Nat) : Int) := by omega
    have hi2 : m - (t + 1) < m := by omega
    rw [e, decide_eq_true (by omega), cond_true, atT hN hi2 hj, Option.bind_some, wr_sm (x := ((m - (t + 1) : Nat) : Int) - 1) (by omega)]
    have ep : pivot F j (t + 1) (m - (t + 1)) = if F (m - (t + 1)) j = 0 then pivot F j t (m - t) else m - (t + 1) := by
      rw [pivot, show m - (t + 1) + 1 = m - t by omega]
    rw [ep]
    by_cases h : F (m - (t + 1)) j = 0
    · rw [decide_eq_true h, Bool.not_true, cond_false, if_pos h]
    · rw [decide_eq_false h, Bool.not_false, cond_true, if_neg h, if_neg (by omega)]
  · rw [show m - (m - L.length) = L.length by omega]
    unfold m_spec_l4Reduce_L2
    simp only
    rw [decide_eq_false (by omega), cond_false]
theorem n_stepS {p : Int} {m n : Nat} {F : Nat → Nat → Int} (T : Tb p m n F) {j : Nat} (hj : j < n) (L : List Nat) (hL : L.length < m) (l : List Int) :
    m_spec_l4Reduce_L1 p ⟨m, n, l⟩ ((j : Int), tabM m n F, castL L, (L.length : Int)) = some (.inl (((j + 1 : Nat) : Int), tabM m n (redStep p m (F, L) j).1, castL (redStep p m (F, L) j).2, ((redStep p m (F, L) j).2.length : Int))) := by
  have hpv := n_pivS T hj L hL l
  obtain ⟨hp, hN, hm, hn, hi⟩ := T
  have hb := isF_bd hp
  have hle := @pivot_le F j (m - L.length) L.length
  unfold m_spec_l4Reduce_L1 redStep
  simp only
  rw [dlt hj, cond_true, dlt hL, cond_true, hpv, Option.bind_some, wr_suc hj (by omega)]
  clear hpv
  generalize pivot F j (m - L.length) L.length = r at *
  have hk : L.length < m := hL
  by_cases hr : r = m
  · rw [if_pos hr, if_pos hr, decide_eq_true (by omega), cond_true]
  · rw [if_neg hr, if_neg hr, decide_eq_false (by omega), cond_false]
    have hrm : r < m := by omega
    rw [Lp_go (r := tabM m n (swapF F L.length r)) (fun x => (tabM m n (swapTo F L.length r x), (x : Int))) n ?_ (fun x hx => ?_) (fun _ => ?_), Option.bind_some, atT hN hk hj, Option.bind_some]
    · have e1 : swapF F L.length r L.length j = F r j := by simp [swapF]
      have hrj := hi r j hrm hj
      rw [e1, n_specInv hp (by omega), Option.bind_some, Int.emod_eq_of_lt hrj.1 hrj.2]
      have hs := invR_bd hp hrj
      rw [redPart_eq]
      generalize invR p (F r j) = s at *
      have h1 := swapF_in hi hk hrm
      generalize swapF F L.length r = F1 at *
      rw [Lp_go (r := tabM m n (scaleF p F1 L.length s)) (fun x => (tabM m n (scaleTo p F1 L.length s x), (x : Int))) n ?_ (fun x hx => ?_) (fun _ => ?_), Option.bind_some]
      · have h2 := scaleF_in hp (k := L.length) (s := s) h1
        generalize scaleF p F1 L.length s = F2 at *
        rw [Lp_go (r := tabM m n (elimF p F2 L.length j)) (fun x => (tabM m n (elimTo p F2 L.length j x), (x : Int))) m ?_ (fun x hx => ?_) (fun _ => ?_), Option.bind_some]
        · rw [castL_len, decide_eq_true (by simp; omega), cond_true, wr_suc hk (by omega)]
          simp [castL]
        · congr 1
        · unfold m_spec_l4Reduce_L5
          simp only
          rw [dlt hx, cond_true, atT hN hx hj, Option.bind_some, wr_suc hx (by omega)]
          have e2 : elimTo p F2 L.length j x x j = F2 x j := by simp [elimTo]
          rw [e2]
          by_cases hxk : x = L.length
          · rw [Lp_stop (r := tabM m n (elimTo p F2 L.length j x)) ?_, Option.bind_some, hxk, elim_skip]
            unfold m_spec_l4Reduce_L6
            simp only
            rcases Nat.eq_zero_or_pos n with h0 | h0
            · omega
            · rw [decide_eq_true (by omega), cond_true, decide_eq_true (by omega), Bool.not_true, cond_false]
          · rw [Lp_go (r := tabM m n (elimTo p F2 L.length j (x + 1))) (fun y => (tabM m n (fun a c => if a = x ∧ c < y then elimF p F2 L.length j x c else elimTo p F2 L.length j x a c), (y : Int))) n (by simp) (fun y hy => ?_) (fun _ => ?_), Option.bind_some]
            · unfold m_spec_l4Reduce_L6
              simp only
              rw [dlt hy, cond_true, decide_eq_false (by omega), Bool.not_false, cond_true, atT hN hx hy, Option.bind_some, atT hN hk hy, Option.bind_some]
              have e3 : elimTo p F2 L.length j x x y = F2 x y := by simp [elimTo]
              have e4 : elimTo p F2 L.length j x L.length y = F2 L.length y := by simp [elimTo, elimF]
              rw [if_neg (by omega), if_neg (by omega), e3, e4]
              have g1 := h2 x j hx hj
              have g2 := h2 L.length y hk hy
              have g3 := h2 x y hx hy
              have g4 := mulb (a := F2 x j) (b := F2 L.length y) (by omega) (by omega)
              rw [wr_sm (x := F2 x j * F2 L.length y) (by omega), wr_sm (x := F2 x y - F2 x j * F2 L.length y) (by omega), n_l2Mod hp (by omega), Option.bind_some, Option.bind_some, setT hN hx hy, wr_suc hy (by omega)]
              congr 3
              refine tabM_congr fun a c ha hc => ?_
              simp only [setF]
              by_cases e5 : a = x ∧ c = y
              · rw [if_pos e5, if_pos (by omega), e5.2]
                simp only [elimF]
                rw [if_neg hxk]
              · rw [if_neg e5]
                by_cases e6 : a = x ∧ c < y
                · rw [if_pos e6, if_pos (by omega)]
                · rw [if_neg e6, if_neg (by omega)]
            · unfold m_spec_l4Reduce_L6
              simp only
              rw [dnl (Nat.le_refl _), cond_false]
              congr 2
              refine tabM_congr fun a c ha hc => ?_
              simp only [elimTo]
              by_cases e5 : a = x
              · rw [if_pos ⟨e5, hc⟩, if_pos (by omega), e5]
              · rw [if_neg (by omega)]
                by_cases e6 : a < x
                · rw [if_pos e6, if_pos (by omega)]
                · rw [if_neg e6, if_neg (by omega)]
        · unfold m_spec_l4Reduce_L5
          simp only
          rw [dnl (Nat.le_refl _), cond_false]
          congr 2
          exact tabM_congr fun a b ha hb => by simp only [elimTo]; rw [if_pos ha]
      · congr 1
      · unfold m_spec_l4Reduce_L4
        simp only
        have g1 := h1 _ x hk hx
        have g2 := mulb (a := F1 L.length x) (b := s) (by omega) (by omega)
        rw [dlt hx, cond_true, atT hN hk hx, Option.bind_some, scaleTo_at, Int.mul_comm, wr_sm (by omega), n_l2Mod hp (by omega), Option.bind_some, Option.bind_some, setT hN hk hx, wr_suc hx (by omega), scale_step]
      · unfold m_spec_l4Reduce_L4
        simp only
        rw [dnl (Nat.le_refl _), cond_false]
        congr 2
        exact tabM_congr fun a b ha hb => by simp only [scaleTo]; rw [if_pos hb]
    · congr 1
    · unfold m_spec_l4Reduce_L3
      simp only
      rw [dlt hx, cond_true, atT hN hk hx, Option.bind_some, atT hN hrm hx, Option.bind_some, Option.bind_some, setT hN hk hx, atT hN hrm hx, Option.bind_some, setT hN hrm hx, swapTo_at, swapTo_at, wr_suc hx (by omega), swap_step]
    · unfold m_spec_l4Reduce_L3
      simp only
      rw [dnl (Nat.le_refl _), cond_false]
      congr 2
      exact tabM_congr fun a b ha hb => by simp only [swapTo]; rw [if_pos hb]
theorem n_specReduce {p : Int} {m n : Nat} {F : Nat → Nat → Int} (T : Tb p m n F) : m_spec_l4Reduce p ⟨m, n, tabM m n F⟩ = some (⟨m, n, tabM m n (redUp p m F n).1⟩, castL (redUp p m F n).2) := by
  have hN := T.hN
  have hn := T.hn
  unfold m_spec_l4Reduce m_spec_l3Copy
  simp only
  rw [tabM_len, decide_eq_true (by simp; omega), cond_true, Option.bind_some]
  simp only [List.nil_append]
  obtain ⟨r, h1, h2⟩ : ∃ r, Lp (m_spec_l4Reduce_L1 p ⟨m, n, tabM m n F⟩) (0, tabM m n F, [], 0) = some r ∧ r = (tabM m n (redUp p m F n).1, castL (redUp p m F n).2) := by
    refine Lp_meas (fun s => ∃ j : Nat, j ≤ n ∧ s = ((j : Int), tabM m n (redUp p m F j).1, castL (redUp p m F j).2, ((redUp p m F j).2.length : Int))) (fun s => n - s.1.toNat) _ ⟨0, Nat.zero_le _, by simp [redUp, castL]⟩ ?_
    rintro s ⟨j, hj, rfl⟩
    rcases Nat.lt_or_ge j n with hlt | hge
    · have hlen := @redUp_len p m F j
      rcases Nat.lt_or_ge (redUp p m F j).2.length m with hl | hl
      · refine .inl ⟨_, n_stepS ⟨T.hp, T.hN, T.hm, T.hn, redUp_in (by have := isF_bd T.hp; omega) T.hi j⟩ hlt _ hl _, ⟨j + 1, hlt, rfl⟩, ?_⟩
        simp; omega
      · refine .inr ⟨_, ?_, rfl⟩
        unfold m_spec_l4Reduce_L1
        simp only
        have e := redUp_full (p := p) (F := F) (j := j) (by omega : (redUp p m F j).2.length = m) (n - j)
        rw [show j + (n - j) = n by omega] at e
        rw [dlt hlt, cond_true, dnl hl, cond_false, e]
    · have e : j = n := by omega
      subst e
      refine .inr ⟨_, ?_, rfl⟩
      unfold m_spec_l4Reduce_L1
      simp only
      rw [dnl (Nat.le_refl _), cond_false]
  rw [h1, h2, Option.bind_some]
end Go.Proofs.Ytjfcjkeghigipaa

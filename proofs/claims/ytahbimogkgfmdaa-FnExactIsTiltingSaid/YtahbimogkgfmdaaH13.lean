/-
  Several texts of the claim in one: each begins with its own remark.
-/
import Derived.Test.YtahbimogkgfmdaaProg
import Derived.Test.YtahbimogkgfmdaaH12
section
set_option linter.unusedVariables false
set_option linter.unusedSimpArgs false
/-
  Sorting by insertion: what the models do, in spec and in impl.
-/
namespace Go.Proofs.Ytahbimogkgfmdaa
open Go.RowKit
set_option linter.unusedVariables false

def insR {α : Type} (lt : α → α → Bool) (x : α) : List α → List α → List α
  | [], acc => x :: acc
  | p :: ps, acc => if lt x p = true then insR lt x ps (p :: acc) else (p :: ps).reverse ++ x :: acc
def insB {α : Type} (lt : α → α → Bool) (x : α) (P : List α) : List α := insR lt x P.reverse []
def sortB {α : Type} (lt : α → α → Bool) (A : List α) : List α := A.foldl (fun S x => insB lt x S) []
theorem insR_len {α : Type} (lt : α → α → Bool) (x : α) : ∀ ps acc, (insR lt x ps acc).length = ps.length + acc.length + 1
  | [], acc => by simp [insR]
  | p :: ps, acc => by
    simp only [insR]
    split
    · rw [insR_len lt x ps (p :: acc)]; simp; omega
    · simp; omega
theorem insR_mem {α : Type} (lt : α → α → Bool) (x y : α) : ∀ ps acc, y ∈ insR lt x ps acc ↔ y = x ∨ y ∈ ps ∨ y ∈ acc
  | [], acc => by simp [insR]
  | p :: ps, acc => by
    simp only [insR]
    split
    · rw [insR_mem lt x y ps (p :: acc)]; simp only [List.mem_cons]; grind
    · simp only [List.mem_append, List.mem_reverse, List.mem_cons]; grind
theorem insB_len {α : Type} (lt : α → α → Bool) (x : α) (P : List α) : (insB lt x P).length = P.length + 1 := by unfold insB; rw [insR_len]; simp
theorem insB_mem {α : Type} {lt : α → α → Bool} {x y : α} {P : List α} : y ∈ insB lt x P ↔ y = x ∨ y ∈ P := by unfold insB; rw [insR_mem]; simp
theorem sortB_snoc {α : Type} (lt : α → α → Bool) (A : List α) (x : α) : sortB lt (A ++ [x]) = insB lt x (sortB lt A) := by simp [sortB]
theorem sortB_spec {α : Type} (lt : α → α → Bool) : ∀ A : List α, (sortB lt A).length = A.length ∧ ∀ y, y ∈ sortB lt A ↔ y ∈ A := by
  have key : ∀ A S : List α, (A.foldl (fun S x => insB lt x S) S).length = S.length + A.length ∧ ∀ y, y ∈ A.foldl (fun S x => insB lt x S) S ↔ y ∈ S ∨ y ∈ A := by
    intro A
    induction A with
    | nil => intro S; simp
    | cons a A ih =>
      intro S
      obtain ⟨h1, h2⟩ := ih (insB lt a S)
      refine ⟨by rw [List.foldl_cons, h1, insB_len]; simp; omega, fun y => ?_⟩
      rw [List.foldl_cons, h2 y, insB_mem]
      simp only [List.mem_cons]; grind
  intro A
  obtain ⟨h1, h2⟩ := key A []
  exact ⟨by unfold sortB; rw [h1]; simp, fun y => by unfold sortB; rw [h2]; simp⟩
/-- An insertion keeps a list sorted. -/
theorem insR_sorted {α : Type} {lt : α → α → Bool} {R : α → α → Prop} (hT : ∀ a b c, R a b → R b c → R a c) {x : α} : ∀ {ps acc : List α}, (ps.reverse ++ acc).Pairwise R → (∀ a ∈ acc, R x a) → (∀ p ∈ ps, lt x p = true → R x p) → (∀ p ∈ ps, lt x p = false → R p x) → (insR lt x ps acc).Pairwise R
  | [], acc, hs, ha, h1, h0 => by simp only [insR]; exact List.pairwise_cons.2 ⟨ha, by simpa using hs⟩
  | p :: ps, acc, hs, ha, h1, h0 => by
    simp only [insR]
    by_cases c : lt x p = true
    · rw [if_pos c]
      have e : (p :: ps).reverse ++ acc = ps.reverse ++ (p :: acc) := by simp
      rw [e] at hs
      refine insR_sorted hT hs (fun a h => ?_) (fun q hq => h1 q (by simp [hq])) (fun q hq => h0 q (by simp [hq]))
      rcases List.mem_cons.1 h with rfl | h
      · exact h1 _ (by simp) c
      · exact ha a h
    · rw [if_neg c]
      have hp := h0 p (by simp) (by simpa using c)
      rw [List.pairwise_append] at hs ⊢
      obtain ⟨g1, g2, g3⟩ := hs
      refine ⟨g1, List.pairwise_cons.2 ⟨ha, g2⟩, fun a h1' b hb => ?_⟩
      rcases List.mem_cons.1 hb with rfl | hb
      · rcases List.mem_reverse.1 h1' |> List.mem_cons.1 with rfl | h
        · exact hp
        · refine hT _ p _ ?_ hp
          rw [List.reverse_cons, List.pairwise_append] at g1
          exact g1.2.2 a (by simpa using h) p (by simp)
      · exact g3 a h1' b hb
theorem insB_sorted {α : Type} {lt : α → α → Bool} {R : α → α → Prop} (hT : ∀ a b c, R a b → R b c → R a c) {x : α} {P : List α} (hP : P.Pairwise R) (h1 : ∀ p ∈ P, lt x p = true → R x p) (h0 : ∀ p ∈ P, lt x p = false → R p x) : (insB lt x P).Pairwise R :=
  insR_sorted hT (by simpa using hP) (by simp) (fun p hp => h1 p (by simpa using hp)) (fun p hp => h0 p (by simpa using hp))
theorem sorted_ext {α : Type} {R : α → α → Prop} (hI : ∀ a, ¬ R a a) (hT : ∀ a b c, R a b → R b c → R a c) : ∀ {l m : List α}, l.Pairwise R → m.Pairwise R → (∀ x, x ∈ l ↔ x ∈ m) → l = m
  | [], m, _, _, h => by
    cases m with
    | nil => rfl
    | cons b m => exact absurd ((h b).2 (by simp)) (by simp)
  | a :: l, m, hl, hm, h => by
    cases m with
    | nil => exact absurd ((h a).1 (by simp)) (by simp)
    | cons b m =>
      have hl' := List.pairwise_cons.1 hl
      have hm' := List.pairwise_cons.1 hm
      have hab : a = b := by
        rcases List.mem_cons.1 ((h a).1 (by simp)) with e | e
        · exact e
        · rcases List.mem_cons.1 ((h b).2 (by simp)) with e2 | e2
          · exact e2.symm
          · exact absurd (hT _ _ _ (hl'.1 b e2) (hm'.1 a e)) (hI a)
      subst hab
      congr 1
      refine sorted_ext hI hT hl'.2 hm'.2 fun x => ?_
      have hx := h x
      simp only [List.mem_cons] at hx
      constructor
      · intro h1
        rcases hx.1 (.inr h1) with rfl | h2
        · exact absurd (hl'.1 _ h1) (hI _)
        · exact h2
      · intro h1
        rcases hx.2 (.inr h1) with rfl | h2
        · exact absurd (hm'.1 _ h1) (hI _)
        · exact h2

/-! ## impl: slices.SortStableFunc of at most twenty -/
/-- Numbers from 0 to 4, at most five. -/
def Vec5 (x : List Int) : Prop := x.length ≤ 5 ∧ ∀ a ∈ x, 0 ≤ a ∧ a ≤ 4
theorem Vec5.sum {x : List Int} (h : Vec5 x) : 0 ≤ x.sum ∧ x.sum ≤ 20 := by have := sum_bd h.2; have := h.1; omega
def sumLt (x y : List Int) : Bool := decide (x.sum < y.sum)
theorem n_cmp {x y : List Int} (hx : Vec5 x) (hy : Vec5 y) : m_impl_roots_1 x y = some (x.sum - y.sum) := by
  have h1 := hx.sum
  have h2 := hy.sum
  unfold m_impl_roots_1
  rw [n_sumOf hx.2 (by have := hx.1; omega), Option.bind_some, n_sumOf hy.2 (by have := hy.1; omega), Option.bind_some, wr_sm (by omega)]
theorem at_mid {α : Type} {u T : List α} {p : α} : atL (u ++ p :: T) (u.length : Int) = some p := by simp [atL]
theorem at_mid1 {α : Type} {u T : List α} {p x : α} : atL (u ++ p :: x :: T) ((u.length + 1 : Nat) : Int) = some x := by
  have := at_mid (u := u ++ [p]) (p := x) (T := T)
  simpa using this
theorem set_mid {α : Type} {u T : List α} {p q : α} : (u ++ p :: T).set u.length q = u ++ q :: T := by simp
theorem set_mid1 {α : Type} {u T : List α} {p x q : α} : (u ++ p :: x :: T).set (u.length + 1) q = u ++ p :: q :: T := by simp
theorem n_insInner {x : List Int} (hx : Vec5 x) (R : List (List Int)) : ∀ ps acc : List (List Int), (∀ p ∈ ps, Vec5 p) → ps.length ≤ 1000 → Lp (m_slices_insertionSortCmpFunc_Lint_L2 0) (ps.reverse ++ x :: (acc ++ R), (ps.length : Int)) = some (insR sumLt x ps acc ++ R)
  | [], acc, _, _ => by
    refine Lp_stop ?_
    unfold m_slices_insertionSortCmpFunc_Lint_L2
    simp [insR]
  | p :: ps, acc, hp, hl => by
    have hpv := hp p (by simp)
    have hl' : ps.length + 1 ≤ 1000 := by simpa using hl
    have e1 : (p :: ps).reverse ++ x :: (acc ++ R) = ps.reverse ++ p :: x :: (acc ++ R) := by simp
    have hlen : ps.reverse.length = ps.length := by simp
    have a1 : atL (ps.reverse ++ p :: x :: (acc ++ R)) ((ps.length + 1 : Nat) : Int) = some x := by rw [← hlen]; exact at_mid1
    have a2 : atL (ps.reverse ++ p :: x :: (acc ++ R)) (ps.length : Int) = some p := by rw [← hlen]; exact at_mid
    have hwr : wr (((ps.length + 1 : Nat) : Int) - 1) = (ps.length : Int) := by rw [wr_sm (by omega)]; omega
    have hbody : m_slices_insertionSortCmpFunc_Lint_L2 0 ((p :: ps).reverse ++ x :: (acc ++ R), ((p :: ps).length : Int)) = some (if sumLt x p = true then .inl (ps.reverse ++ x :: ((p :: acc) ++ R), (ps.length : Int)) else .inr ((p :: ps).reverse ++ x :: (acc ++ R))) := by
      unfold m_slices_insertionSortCmpFunc_Lint_L2
      simp only
      rw [List.length_cons, e1, decide_eq_true (by omega), cond_true, a1, Option.bind_some, hwr, a2, Option.bind_some, n_cmp hx hpv, Option.bind_some]
      simp only [Option.bind_some]
      by_cases c : x.sum < p.sum
      · rw [decide_eq_true (by omega), cond_true, if_pos (by simp [sumLt, c])]
        have s1 : (ps.reverse ++ p :: x :: (acc ++ R)).set ((ps.length + 1 : Nat) : Int).toNat p = ps.reverse ++ p :: p :: (acc ++ R) := by rw [Int.toNat_natCast, ← hlen]; exact set_mid1
        rw [s1]
        have a3 : atL (ps.reverse ++ p :: p :: (acc ++ R)) (ps.length : Int) = some p := by rw [← hlen]; exact at_mid
        rw [a3, Option.bind_some]
        have s2 : (ps.reverse ++ p :: p :: (acc ++ R)).set ((ps.length : Nat) : Int).toNat x = ps.reverse ++ x :: p :: (acc ++ R) := by rw [Int.toNat_natCast, ← hlen]; exact set_mid
        rw [s2]
        rfl
      · rw [decide_eq_false (by omega), cond_false, if_neg (by simp [sumLt, c])]
    by_cases c : sumLt x p = true
    · rw [if_pos c] at hbody
      rw [Lp_step hbody, n_insInner hx R ps (p :: acc) (fun q hq => hp q (by simp [hq])) (by omega)]
      simp only [insR, if_pos c]
    · rw [if_neg c] at hbody
      rw [Lp_stop hbody]
      simp only [insR, if_neg c]
      simp
theorem n_insSort {A : List (List Int)} (hA : ∀ x ∈ A, Vec5 x) (hl : A.length ≤ 1000) : m_slices_insertionSortCmpFunc_Lint A 0 (A.length : Int) = some (sortB sumLt A) := by
  unfold m_slices_insertionSortCmpFunc_Lint
  cases A with
  | nil =>
    rw [Lp_stop (r := ([] : List (List Int)))]
    · rfl
    · unfold m_slices_insertionSortCmpFunc_Lint_L1
      rw [wr_sm (by omega)]; rfl
  | cons a A =>
    have h1 : wr (0 + 1) = ((0 + 1 : Nat) : Int) := by rw [wr_sm (by omega)]; rfl
    simp only [List.length_cons] at hl
    rw [Lp_go (s := (a :: A, wr (0 + 1))) (r := sortB sumLt (a :: A)) (fun k => (sortB sumLt ((a :: A).take (k + 1)) ++ (a :: A).drop (k + 1), ((k + 1 : Nat) : Int))) A.length (by rw [h1]; rfl) (fun k hk => ?_) (fun _ => ?_), Option.bind_some]
    · unfold m_slices_insertionSortCmpFunc_Lint_L1
      simp only
      have hk1 : k + 1 < (a :: A).length := by simp; omega
      obtain ⟨hsl, hsm⟩ := sortB_spec sumLt ((a :: A).take (k + 1))
      have hSl : (sortB sumLt ((a :: A).take (k + 1))).length = k + 1 := by rw [hsl]; simp; omega
      generalize hS : sortB sumLt ((a :: A).take (k + 1)) = S at *
      rw [List.drop_eq_getElem_cons hk1]
      generalize hx : (a :: A)[k + 1] = x
      have hxA : x ∈ a :: A := by rw [← hx]; exact List.getElem_mem hk1
      have hin := n_insInner (hA x hxA) ((a :: A).drop (k + 1 + 1)) S.reverse [] (fun p hp => hA p (List.mem_of_mem_take ((hsm p).1 (by simpa using hp)))) (by simp; omega)
      rw [List.reverse_reverse, List.length_reverse, hSl, List.nil_append] at hin
      rw [dlt hk1, cond_true, hin, Option.bind_some, wr_suc hk1 (by simp; omega)]
      have e : sortB sumLt ((a :: A).take (k + 1 + 1)) = insB sumLt x S := by
        rw [List.take_succ_eq_append_getElem hk1, sortB_snoc, hS, hx]
      rw [e]
      rfl
    · unfold m_slices_insertionSortCmpFunc_Lint_L1
      simp only
      rw [List.length_cons, dnl (Nat.le_refl _), cond_false, List.take_of_length_le (by simp), List.drop_of_length_le (by simp), List.append_nil]
theorem n_insNone (l : List (List Int)) : m_slices_insertionSortCmpFunc_Lint l 20 20 = some l := by
  unfold m_slices_insertionSortCmpFunc_Lint
  rw [Lp_stop (r := l)]
  · rfl
  · unfold m_slices_insertionSortCmpFunc_Lint_L1
    simp only
    rw [wr_sm (by omega)]; rfl
theorem n_sortStable {A : List (List Int)} (hA : ∀ x ∈ A, Vec5 x) (hl : A.length ≤ 20) : m_slices_SortStableFunc_LLint_Lint A = some (sortB sumLt A) := by
  have hS := (sortB_spec sumLt A).1
  have hst : m_slices_stableCmpFunc_Lint A (A.length : Int) = some (sortB sumLt A) := by
    unfold m_slices_stableCmpFunc_Lint
    have hL2 : Lp (m_slices_stableCmpFunc_Lint_L2 (A.length : Int)) 20 = some () := by
      refine Lp_stop ?_
      unfold m_slices_stableCmpFunc_Lint_L2
      rw [decide_eq_false (by omega), cond_false]
    by_cases c : A.length = 20
    · have b1 : m_slices_stableCmpFunc_Lint_L1 (A.length : Int) (A, 0, 20) = some (.inl (sortB sumLt A, 20, 40)) := by
        unfold m_slices_stableCmpFunc_Lint_L1
        simp only
        have := n_insSort hA (by omega)
        rw [c] at this
        rw [decide_eq_true (by omega), cond_true]
        rw [show m_slices_insertionSortCmpFunc_Lint A 0 20 = some (sortB sumLt A) from this, Option.bind_some, decide_eq_true hS, cond_true, wr_sm (by omega)]
        rfl
      have b2 : m_slices_stableCmpFunc_Lint_L1 (A.length : Int) (sortB sumLt A, 20, 40) = some (.inr (sortB sumLt A, 20)) := by
        unfold m_slices_stableCmpFunc_Lint_L1
        simp only
        rw [decide_eq_false (by omega), cond_false]
      rw [Lp_step b1, Lp_stop b2, Option.bind_some]
      simp only
      rw [show ((A.length : Nat) : Int) = 20 by omega, n_insNone, Option.bind_some, decide_eq_true rfl, cond_true]
      rw [show ((A.length : Nat) : Int) = 20 by omega] at hL2
      rw [hL2, Option.bind_some]
    · have b1 : m_slices_stableCmpFunc_Lint_L1 (A.length : Int) (A, 0, 20) = some (.inr (A, 0)) := by
        unfold m_slices_stableCmpFunc_Lint_L1
        simp only
        rw [decide_eq_false (by omega), cond_false]
      rw [Lp_stop b1, Option.bind_some]
      simp only
      rw [n_insSort hA (by omega), Option.bind_some, decide_eq_true hS, cond_true, hL2, Option.bind_some]
  unfold m_slices_SortStableFunc_LLint_Lint
  rw [hst, Option.bind_some, decide_eq_true hS, cond_true]

/-! ## spec: insertion from behind -/
def lessR (x y : List Int) : Bool := decide (x.sum < y.sum) || (decide (x.sum = y.sum) && lexB x y)
theorem n_lex {x y : List Int} (h : x.length = y.length) (hl : x.length ≤ 1000) : ∀ d s : Nat, s + d = x.length → (Option.bind (Lp (m_spec_l20Less_L2 x y) (s : Int)) fun z => Sum.elim (fun _ => some false) (fun b => some b) z) = some (lexB (x.drop s) (y.drop s))
  | 0, s, hs => by
    have : m_spec_l20Less_L2 x y (s : Int) = some (.inr (.inl ())) := by
      unfold m_spec_l20Less_L2
      rw [dnl (by omega), cond_false]
    rw [Lp_stop this, List.drop_of_length_le (by omega)]
    simp [lexB]
  | d + 1, s, hs => by
    have hx : s < x.length := by omega
    have hy : s < y.length := by omega
    have hb : m_spec_l20Less_L2 x y (s : Int) = some (if x[s] = y[s] then .inl ((s + 1 : Nat) : Int) else .inr (.inr (decide (x[s] < y[s])))) := by
      unfold m_spec_l20Less_L2
      rw [dlt hx, cond_true, atL_nat hx, Option.bind_some, atL_nat hy, Option.bind_some]
      by_cases c : x[s] = y[s]
      · rw [decide_eq_true c, Bool.not_true, cond_false, if_pos c, wr_suc hx (by omega)]
      · rw [decide_eq_false c, Bool.not_false, cond_true, if_neg c]
        simp only [Option.bind_some]
    rw [List.drop_eq_getElem_cons hx, List.drop_eq_getElem_cons hy]
    by_cases c : x[s] = y[s]
    · rw [if_pos c] at hb
      rw [Lp_step hb, n_lex h hl d (s + 1) (by omega)]
      simp [lexB, c]
    · rw [if_neg c] at hb
      rw [Lp_stop hb]
      simp [lexB, c]
theorem gx_drop0 (x : List Int) {k : Nat} (h : k < x.length) : gx x k = x[k] := by simp [gx, h]
theorem n_less {x y : List Int} (hx : Vec5 x) (hy : Vec5 y) (h : x.length = y.length) : m_spec_l20Less x y = some (lessR x y) := by
  have l5 := hx.1
  unfold m_spec_l20Less
  have hbd : ∀ z : List Int, Vec5 z → ∀ k : Nat, -(4 * (k : Int)) ≤ sumN k (gx z) ∧ sumN k (gx z) ≤ 4 * k := fun z hz k => sumN_bd fun i _ => by
    rcases Nat.lt_or_ge i z.length with h' | h'
    · have := hz.2 _ (mem_gx h'); omega
    · unfold gx; rw [List.getElem?_eq_none h']; simp
  have hg : ∀ z : List Int, Vec5 z → ∀ k : Nat, 0 ≤ gx z k ∧ gx z k ≤ 4 := fun z hz k => by
    rcases Nat.lt_or_ge k z.length with h' | h'
    · exact hz.2 _ (mem_gx h')
    · unfold gx; rw [List.getElem?_eq_none h']; simp
  rw [Lp_go (s := ((0 : Int), (0 : Int), (0 : Int))) (r := (x.sum, y.sum)) (fun k => (sumN k (gx x), sumN k (gx y), (k : Int))) x.length rfl (fun k hk => ?_) (fun _ => ?_), Option.bind_some]
  · simp only
    by_cases c : x.sum = y.sum
    · rw [decide_eq_true c, Bool.not_true, cond_false]
      refine (n_lex h (by omega) x.length 0 (by omega)).trans ?_
      simp [lessR, c]
    · rw [decide_eq_false c, Bool.not_false, cond_true]
      simp [lessR, c]
  · unfold m_spec_l20Less_L1
    simp only
    have h1 := hbd x hx k
    have h2 := hbd y hy k
    have h3 := hg x hx k
    have h4 := hg y hy k
    rw [dlt hk, cond_true, at_gx hk, Option.bind_some, at_gx (by omega), Option.bind_some, wr_sm (by omega), wr_sm (by omega), wr_suc hk (by omega)]
    rfl
  · unfold m_spec_l20Less_L1
    simp only
    rw [dnl (Nat.le_refl _), cond_false, sum_sumN, sum_sumN, h]
theorem n_insSpec {C : List (List Int)} {n : Nat} {i : Nat} {x : List Int} (hx : Vec5 x) (hxn : x.length = n) (hi : atL C (i : Int) = some x) {out : List (List Int)} (ho : ∀ p ∈ out, Vec5 p ∧ p.length = n) (hl : out.length ≤ 1000) : ∀ ps acc : List (List Int), ps.reverse ++ acc = out →
    ∃ k : Nat, Lp (m_spec_PositiveRoots_L5 (out, (i : Int)) C) (ps.length : Int) = some (k : Int) ∧ k ≤ out.length ∧ out.take k ++ x :: out.drop k = insR lessR x ps acc
  | [], acc, e => by
    refine ⟨0, Lp_stop ?_, Nat.zero_le _, by simp only [insR]; rw [← e]; simp⟩
    unfold m_spec_PositiveRoots_L5
    simp
  | p :: ps, acc, e => by
    have e' : ps.reverse ++ (p :: acc) = out := by rw [← e]; simp
    have hlen : out.length = ps.length + acc.length + 1 := by rw [← e']; simp; omega
    have hp := ho p (by rw [← e']; simp)
    have hwr : wr (((p :: ps).length : Int) - 1) = (ps.length : Int) := by rw [List.length_cons, wr_sm (by omega)]; omega
    have hat : atL out (ps.length : Int) = some p := by rw [← e', ← List.length_reverse]; exact at_mid
    have hb : m_spec_PositiveRoots_L5 (out, (i : Int)) C ((p :: ps).length : Int) = some (if lessR x p = true then .inl (ps.length : Int) else .inr ((p :: ps).length : Int)) := by
      unfold m_spec_PositiveRoots_L5
      simp only
      rw [decide_eq_true (by rw [List.length_cons]; omega), cond_true, hi, Option.bind_some, hwr, hat, Option.bind_some, n_less hx hp.1 (by rw [hxn, hp.2]), Option.bind_some]
      cases lessR x p <;> rfl
    by_cases c : lessR x p = true
    · rw [if_pos c] at hb
      obtain ⟨k, h1, h2, h3⟩ := n_insSpec hx hxn hi ho hl ps (p :: acc) e'
      exact ⟨k, by rw [Lp_step hb]; exact h1, h2, by rw [h3]; simp only [insR, if_pos c]⟩
    · rw [if_neg c] at hb
      refine ⟨(p :: ps).length, Lp_stop hb, by rw [List.length_cons]; omega, ?_⟩
      simp only [insR, if_neg c]
      rw [← e]
      rw [List.take_left' (by simp), List.drop_left' (by simp)]
theorem n_sortSpec {C : List (List Int)} {n : Nat} (hC : ∀ x ∈ C, Vec5 x ∧ x.length = n) (hl : C.length ≤ 1000) : Lp (m_spec_PositiveRoots_L4 C) (([] : List (List Int)), 0) = some (sortB lessR C) := by
  refine Lp_go (fun k => (sortB lessR (C.take k), (k : Int))) C.length rfl (fun k hk => ?_) (fun _ => ?_)
  · unfold m_spec_PositiveRoots_L4
    simp only
    obtain ⟨hsl, hsm⟩ := sortB_spec lessR (C.take k)
    have hSl : (sortB lessR (C.take k)).length = k := by rw [hsl]; simp; omega
    have e : sortB lessR (C.take (k + 1)) = insB lessR C[k] (sortB lessR (C.take k)) := by rw [List.take_succ_eq_append_getElem hk, sortB_snoc]
    rw [e]
    generalize hS : sortB lessR (C.take k) = S at *
    have hx := hC C[k] (List.getElem_mem hk)
    obtain ⟨j, h1, h2, h3⟩ := n_insSpec (C := C) (i := k) hx.1 hx.2 (atL_nat hk) (out := S) (fun p hp => hC p (List.mem_of_mem_take ((hsm p).1 hp))) (by omega) S.reverse [] (by simp)
    rw [List.length_reverse] at h1
    rw [dlt hk, cond_true, h1, Option.bind_some, atL_nat hk]
    simp only [Option.bind_some]
    have f1 : List.take ((j : Int).toNat - (0 : Int).toNat) (List.drop (0 + (0 : Int).toNat) S) = S.take j := by simp
    have f2 : List.take (((S.length : Nat) : Int).toNat - (j : Int).toNat) (List.drop (0 + (j : Int).toNat) S) = S.drop j := by
      rw [Int.toNat_natCast, Int.toNat_natCast, Nat.zero_add, List.take_of_length_le (by simp)]
    rw [f1, f2]
    have g1 : (S.take j).length ≤ 1000 := by simp; omega
    have g2 : (S.drop j).length ≤ 1000 := by simp; omega
    rw [show (decide ((0 : Nat) ≤ 0) && (decide (0 ≤ (j : Int)) && decide ((j : Int) ≤ ((S.length : Nat) : Int)))) = true by simp [h2], cond_true, decide_eq_true (by simp; omega), cond_true, decide_eq_true (by simp; omega), cond_true]
    rw [show (decide (0 ≤ (j : Int)) && (decide ((j : Int) ≤ ((S.length : Nat) : Int)) && decide (((S.length : Nat) : Int) ≤ ((S.length : Nat) : Int)))) = true by simp [h2], cond_true, decide_eq_true (by simp; omega), cond_true, wr_suc hk (by omega)]
    congr 3
    unfold insB
    rw [← h3]
    simp
  · unfold m_spec_PositiveRoots_L4
    simp only
    rw [dnl (Nat.le_refl _), cond_false, List.take_length]
end Go.Proofs.Ytahbimogkgfmdaa
end

section
set_option linter.unusedVariables false
set_option linter.unusedSimpArgs false
/-
  Positive roots: spec and impl answer the same list.
-/
namespace Go.Proofs.Ytahbimogkgfmdaa
open Go.RowKit
set_option linter.unusedVariables false

/-! ## order -/
theorem lexB_trans : ∀ {x y z : List Int}, lexB x y = true → lexB y z = true → lexB x z = true
  | [], y, z, h, _ => by simp [lexB] at h
  | a :: x, [], z, h, _ => by simp [lexB] at h
  | a :: x, b :: y, [], _, h => by simp [lexB] at h
  | a :: x, b :: y, c :: z, h, k => by
    simp only [lexB, Bool.or_eq_true, Bool.and_eq_true, decide_eq_true_eq] at h k ⊢
    rcases h with h | ⟨h, h'⟩ <;> rcases k with k | ⟨k, k'⟩
    · exact .inl (by omega)
    · exact .inl (by omega)
    · exact .inl (by omega)
    · exact .inr ⟨by omega, lexB_trans h' k'⟩
theorem lexB_total : ∀ {x y : List Int}, x.length = y.length → x ≠ y → lexB x y = true ∨ lexB y x = true
  | [], [], _, h => absurd rfl h
  | [], _ :: _, h, _ => by simp at h
  | _ :: _, [], h, _ => by simp at h
  | a :: x, b :: y, h, hne => by
    simp only [lexB, Bool.or_eq_true, Bool.and_eq_true, decide_eq_true_eq]
    by_cases e : a = b
    · subst e
      rcases lexB_total (x := x) (y := y) (by simpa using h) (fun e => hne (by rw [e])) with h1 | h1
      · exact .inl (.inr ⟨rfl, h1⟩)
      · exact .inr (.inr ⟨rfl, h1⟩)
    · rcases Int.lt_or_gt_of_ne e with h1 | h1
      · exact .inl (.inl h1)
      · exact .inr (.inl h1)
def LessP (x y : List Int) : Prop := lessR x y = true
theorem lessP_iff {x y : List Int} : LessP x y ↔ x.sum < y.sum ∨ (x.sum = y.sum ∧ lexB x y = true) := by simp [LessP, lessR]
theorem lessP_irr (x : List Int) : ¬ LessP x x := by rw [lessP_iff, lexB_irr]; simp
theorem lessP_trans (x y z : List Int) (h : LessP x y) (k : LessP y z) : LessP x z := by
  rw [lessP_iff] at *
  rcases h with h | ⟨h, h'⟩ <;> rcases k with k | ⟨k, k'⟩
  · exact .inl (by omega)
  · exact .inl (by omega)
  · exact .inl (by omega)
  · exact .inr ⟨by omega, lexB_trans h' k'⟩
theorem sortB_sorted {α : Type} {lt : α → α → Bool} {R : α → α → Prop} (hT : ∀ a b c, R a b → R b c → R a c) {A : List α} (hA : A.Pairwise fun p x => (lt x p = true → R x p) ∧ (lt x p = false → R p x)) : (sortB lt A).Pairwise R := by
  have key : ∀ k, k ≤ A.length → (sortB lt (A.take k)).Pairwise R := by
    intro k
    induction k with
    | zero => intro _; simp [sortB]
    | succ k ih =>
      intro hk
      have hk' : k < A.length := by omega
      rw [List.take_succ_eq_append_getElem hk', sortB_snoc]
      have hpr : ∀ p ∈ sortB lt (A.take k), (lt A[k] p = true → R A[k] p) ∧ (lt A[k] p = false → R p A[k]) := by
        intro p hp
        have h1 := ((sortB_spec lt (A.take k)).2 p).1 hp
        obtain ⟨j, hj, rfl⟩ := List.mem_iff_getElem.1 h1
        have hjk : j < k := by simp at hj; omega
        have := List.pairwise_iff_getElem.1 hA j k (by omega) hk' hjk
        simpa using this
      exact insB_sorted hT (ih (by omega)) (fun p hp => (hpr p hp).1) (fun p hp => (hpr p hp).2)
  have := key A.length (Nat.le_refl _)
  rwa [List.take_length] at this

/-! ## the roots of a quiver of finite kind -/
structure Fin1 (q : Qv) (n : Nat) : Prop where
  Q : QOk q n
  F : GForm n (matQ q n)
  G : goodT n (matQ q n) = true
def RtQ (q : Qv) (n : Nat) (x : List Int) : Prop := Rt0 n (matQ q n) x
theorem Fin1.vec {q : Qv} {n : Nat} (H : Fin1 q n) {x : List Int} (r : RtQ q n x) : Vec5 x ∧ x.length = n := by
  have h := (goodT_parts H.G).2
  have h1 := r.mem H.F h.1
  exact ⟨⟨by rw [r.len]; exact H.Q.n5, fun a ha => ⟨r.nn a ha, h.2.2 x h1 a ha⟩⟩, r.len⟩
theorem Fin1.num {q : Qv} {n : Nat} (H : Fin1 q n) {l : List (List Int)} (hn : l.Nodup) (h : ∀ x ∈ l, RtQ q n x) : l.length ≤ 20 :=
  Nat.le_trans (nodup_len hn fun x hx => (h x hx).mem H.F (goodT_parts H.G).2.1) (goodT_parts H.G).2.2.1
theorem Vec5.sm {x : List Int} (h : Vec5 x) : Sm x := fun a ha => by have := h.2 a ha; omega
theorem rt_iff {q : Qv} {n : Nat} (Q : QOk q n) (x : List Int) : RtQ q n x ↔ x.length = n ∧ (∀ a ∈ x, 0 ≤ a) ∧ eul q n x x = 1 := by
  constructor
  · intro r
    have := r.two
    rw [qf_eul Q] at this
    exact ⟨r.len, r.nn, by omega⟩
  · rintro ⟨h1, h2, h3⟩
    exact ⟨h1, h2, by rw [qf_eul Q]; omega⟩
/-- impl's list ahead of the sort. -/
def listA (q : Qv) (n : Nat) : List (List Int) := (boxesL (List.replicate n 4)).filter fun x => decide (eul q n x x = 1)
theorem gx_rep {n i : Nat} (h : i < n) (z : Int) : gx (List.replicate n z) i = z := by simp [gx, h]
theorem box_mem {n : Nat} {x : List Int} : x ∈ boxesL (List.replicate n 4) ↔ x.length = n ∧ ∀ a ∈ x, 0 ≤ a ∧ a ≤ 4 := by
  rw [mem_boxes, List.length_replicate]
  constructor
  · rintro ⟨h1, h2⟩
    refine ⟨h1, fun a ha => ?_⟩
    obtain ⟨i, hi, rfl⟩ := List.mem_iff_getElem.1 ha
    have := h2 i (by omega)
    rw [gx_rep (by omega), gx_drop0 x hi] at this
    have h4 : (4 : Int).toNat = 4 := rfl
    omega
  · rintro ⟨h1, h2⟩
    refine ⟨h1, fun i hi => ?_⟩
    have := h2 _ (mem_gx (x := x) (i := i) (by omega))
    rw [gx_rep hi]
    have h4 : (4 : Int).toNat = 4 := rfl
    omega
theorem mem_listA {q : Qv} {n : Nat} (H : Fin1 q n) (x : List Int) : x ∈ listA q n ↔ RtQ q n x := by
  unfold listA
  rw [List.mem_filter, box_mem, decide_eq_true_eq, rt_iff H.Q]
  constructor
  · rintro ⟨⟨h1, h2⟩, h3⟩; exact ⟨h1, fun a ha => (h2 a ha).1, h3⟩
  · rintro ⟨h1, h2, h3⟩
    have hv := H.vec ((rt_iff H.Q x).2 ⟨h1, h2, h3⟩)
    exact ⟨⟨h1, hv.1.2⟩, h3⟩
theorem Fl_filter {f : List Int → List (List Int) → Option (List (List Int) ⊕ Unit)} (p : List Int → Bool) : ∀ (l acc : List (List Int)), (∀ x ∈ l, ∀ acc : List (List Int), acc.length ≤ 4000 → f x acc = some (.inl (if p x = true then acc ++ [x] else acc))) → acc.length + l.length ≤ 4000 → Fl f l acc = some (.inl (acc ++ l.filter p))
  | [], acc, _, _ => by simp [Fl]
  | x :: l, acc, h, hl => by
    simp only [List.length_cons] at hl
    simp only [Fl]
    rw [h x (by simp) acc (by omega)]
    simp only
    rw [Fl_filter p l (if p x = true then acc ++ [x] else acc) (fun y hy => h y (by simp [hy])) (by split <;> (try simp) <;> omega)]
    by_cases c : p x = true
    · simp [c]
    · simp [c]
theorem n_implRoots {q : Qv} {n : Nat} (H : Fin1 q n) : m_impl_roots q = some (sortB sumLt (listA q n)) := by
  have Q := H.Q
  have n5 := Q.n5
  have n1 := Q.n1
  unfold m_impl_roots
  have hn := boxes_num n (by omega)
  rw [Q.n0, decide_eq_true (by omega), decide_eq_true (by omega), Bool.and_self, cond_true, Int.toNat_natCast, box_ok n (by omega), cond_true]
  rw [Fl_filter (fun x => decide (eul q n x x = 1)) (boxesL (List.replicate n 4)) [] (fun x hx acc ha => ?_) (by simp; omega), Option.bind_some]
  · have hA : ∀ x ∈ listA q n, Vec5 x := fun x hx => (H.vec ((mem_listA H x).1 hx)).1
    have hnd : (listA q n).Nodup := (boxes_nodup _).filter _
    have hlen := H.num hnd fun x hx => (mem_listA H x).1 hx
    show (Option.bind (m_slices_SortStableFunc_LLint_Lint (listA q n)) fun v9 => bif decide (v9.length = (listA q n).length) then some v9 else none) = _
    rw [n_sortStable hA hlen, Option.bind_some, decide_eq_true (sortB_spec sumLt _).1, cond_true]
  · obtain ⟨h1, h2⟩ := box_mem.1 hx
    have hv : Vec5 x := ⟨by omega, h2⟩
    unfold m_impl_roots_L1
    rw [n_implEul Q h1 h1 hv.sm hv.sm, Option.bind_some]
    by_cases c : eul q n x x = 1
    · rw [decide_eq_true c, cond_true, if_pos rfl]
      unfold m_Clone
      rw [decide_eq_true (by omega), cond_true, Option.bind_some, decide_eq_true (by omega), cond_true]
    · rw [decide_eq_false c, cond_false, if_neg (by simp)]
theorem sorted_implRoots {q : Qv} {n : Nat} : (sortB sumLt (listA q n)).Pairwise LessP := by
  refine sortB_sorted lessP_trans ?_
  refine (List.Pairwise.filter _ (boxes_lex _)).imp fun {p x} h => ?_
  rw [lessP_iff, lessP_iff]
  simp only [sumLt, decide_eq_true_eq, decide_eq_false_iff_not]
  refine ⟨fun h1 => .inl h1, fun h1 => ?_⟩
  by_cases e : p.sum = x.sum
  · exact .inr ⟨e, h⟩
  · exact .inl (by omega)

/-! ## spec's closure -/
theorem n_reflect {q : Qv} {n : Nat} (Q : QOk q n) {x : List Int} (hx : Vec5 x) (hxn : x.length = n) {v : Nat} (hv : v < n) : m_spec_l20Reflect (matQ q n) x (v : Int) = some (x.set v (gx x v + -(mv n (rowsF (matQ q n)) (gx x) v))) := by
  have n5 := Q.n5
  have m6 := Q.m6
  have hbd : ∀ i, -48 ≤ mF q q.src.length v i * gx x i ∧ mF q q.src.length v i * gx x i ≤ 48 := by
    intro i
    have h1 := mF_bd q m6 v i
    have h2 : 0 ≤ gx x i ∧ gx x i ≤ 4 := by
      rcases Nat.lt_or_ge i x.length with h' | h'
      · exact hx.2 _ (mem_gx h')
      · unfold gx; rw [List.getElem?_eq_none h']; simp
    have h3 : gx x i = 0 ∨ gx x i = 1 ∨ gx x i = 2 ∨ gx x i = 3 ∨ gx x i = 4 := by omega
    rcases h3 with h3 | h3 | h3 | h3 | h3 <;> rw [h3] <;> omega
  have hmv : mv n (rowsF (matQ q n)) (gx x) v = sumN n fun i => mF q q.src.length v i * gx x i := sumN_congr fun i hi => by rw [show rowsF (matQ q n) v i = mF q q.src.length v i from rowsF_matL hv hi]
  have hs := sumN_bd (n := n) (f := fun i => mF q q.src.length v i * gx x i) (B := 48) fun i _ => hbd i
  unfold m_spec_l20Reflect
  rw [decide_eq_true (by simp; omega), cond_true, Lp_go (s := ((0 : Int), (0 : Int))) (r := sumN n fun i => mF q q.src.length v i * gx x i) (fun k => (sumN k fun i => mF q q.src.length v i * gx x i, (k : Int))) n rfl (fun k hk => ?_) (fun _ => ?_), Option.bind_some]
  · have hvl : v < x.length := by omega
    rw [List.nil_append, at_gx hvl]
    simp only [Option.bind_some]
    have h2 := hx.2 _ (mem_gx hvl)
    rw [hmv, wr_sm (by omega), Int.toNat_natCast]
    rfl
  · unfold m_spec_l20Reflect_L1
    simp only
    have h2 := sumN_bd (n := k) (f := fun i => mF q q.src.length v i * gx x i) (B := 48) fun i _ => hbd i
    have h3 := hbd k
    rw [hxn, dlt hk, cond_true, show atL (matQ q n) (v : Int) = some (rowL n (mF q q.src.length v)) from rowL_at hv, Option.bind_some, rowL_at hk, Option.bind_some, at_gx (by omega), Option.bind_some, wr_sm (x := mF q q.src.length v k * gx x k) (by omega), wr_sm (by omega), wr_suc hk (by omega)]
    rfl
  · unfold m_spec_l20Reflect_L1
    simp only
    rw [hxn, dnl (Nat.le_refl _), cond_false]
def reflL (q : Qv) (n : Nat) (x : List Int) (v : Nat) : List Int := x.set v (gx x v + -(mv n (rowsF (matQ q n)) (gx x) v))
theorem refl_root {q : Qv} {n : Nat} (H : Fin1 q n) {x : List Int} (r : RtQ q n x) {v : Nat} (hv : v < n) (h : 0 ≤ gx x v + -(mv n (rowsF (matQ q n)) (gx x) v)) : RtQ q n (reflL q n x v) := by
  have hvl : v < x.length := by rw [r.len]; exact hv
  refine ⟨by unfold reflL; rw [List.length_set]; exact r.len, fun a ha => ?_, ?_⟩
  · rcases mem_set_cases ha with rfl | ha
    · exact h
    · exact r.nn a ha
  · unfold reflL
    rw [gx_inc _ hvl, qf_add _ _ _ hv H.F.sym, r.two, H.F.diag v hv]
    generalize mv n (rowsF (matQ q n)) (gx x) v = s
    grind
def Clos (q : Qv) (n : Nat) (all : List (List Int)) (x : List Int) (v : Nat) : Prop := 0 ≤ gx x v + -(mv n (rowsF (matQ q n)) (gx x) v) → reflL q n x v ∈ all
def AllRt (q : Qv) (n : Nat) (all : List (List Int)) : Prop := all.Nodup ∧ ∀ x ∈ all, RtQ q n x
theorem n_l20Has {l : List (List Int)} {x : List Int} (hl : ∀ r ∈ l, bI r) (hn : l.length ≤ 1000) : m_spec_l20Has l x = some (decide (x ∈ l)) := by
  unfold m_spec_l20Has
  rw [Lp_any (fun k => decide (l[k]?.getD [] = x)) true (n := l.length) (by omega) (fun k hk => ?_) (fun _ => ?_), Option.bind_some]
  · have e : ((List.range l.length).any fun k => decide (l[k]?.getD [] = x)) = decide (x ∈ l) := by
      rw [Bool.eq_iff_iff, List.any_eq_true, decide_eq_true_eq]
      constructor
      · rintro ⟨k, hk, h⟩
        have hk' := List.mem_range.1 hk
        rw [decide_eq_true_eq, List.getElem?_eq_getElem hk', Option.getD_some] at h
        rw [← h]; exact List.getElem_mem hk'
      · intro h
        obtain ⟨k, hk, rfl⟩ := List.mem_iff_getElem.1 h
        exact ⟨k, List.mem_range.2 hk, by simp [hk]⟩
    rw [e]
    cases decide (x ∈ l) <;> rfl
  · unfold m_spec_l20Has_L1
    rw [dlt hk, cond_true, atG [] hk, Option.bind_some, n_l6Same (hl _ (by rw [List.getElem?_eq_getElem hk]; exact List.getElem_mem hk)), Option.bind_some]
    cases decide (l[k]?.getD [] = x) <;> rfl
  · unfold m_spec_l20Has_L1
    rw [dnl (Nat.le_refl _), cond_false]
theorem n_specInner {q : Qv} {n : Nat} (H : Fin1 q n) {all0 : List (List Int)} {i : Nat} {x : List Int} (hi : atL all0 (i : Int) = some x) (h0 : AllRt q n all0) :
    ∃ r, Lp (m_spec_PositiveRoots_L3 q (matQ q n) (all0, (i : Int))) (all0, 0) = some r ∧ (all0 <+: r ∧ AllRt q n r ∧ ∀ u, u < n → Clos q n r x u) := by
  have Q := H.Q
  have n5 := Q.n5
  have hxr : RtQ q n x := h0.2 x (List.mem_of_getElem? (atL_get hi))
  have hxv := H.vec hxr
  refine Lp_meas (fun s => ∃ w : Nat, s.2 = (w : Int) ∧ w ≤ n ∧ all0 <+: s.1 ∧ AllRt q n s.1 ∧ ∀ u, u < w → Clos q n s.1 x u) (fun s => n - s.2.toNat) _ ⟨0, rfl, Nat.zero_le _, List.prefix_refl _, h0, fun u hu => by omega⟩ ?_
  rintro ⟨all, sv⟩ ⟨w, hw, hwn, hpre, hall, hcl⟩
  simp only at hw hpre hall hcl
  subst hw
  have hlen := H.num hall.1 hall.2
  by_cases hlt : w < n
  · left
    have hat : atL all (i : Int) = some x := by
      have h1 := atL_get hi
      obtain ⟨t, rfl⟩ := hpre
      have h2 := atL_lt hi
      rw [Int.toNat_natCast] at h1 h2
      simp only [atL]
      rw [decide_eq_true (by omega), cond_true, Int.toNat_natCast, List.getElem?_append_left h2]
      exact h1
    have hrl : (reflL q n x w).length = n := by unfold reflL; rw [List.length_set]; exact hxv.2
    have hgy : gx (reflL q n x w) w = gx x w + -(mv n (rowsF (matQ q n)) (gx x) w) := by unfold reflL; rw [gx_set _ (by omega), if_pos rfl]
    have hb : m_spec_PositiveRoots_L3 q (matQ q n) (all0, (i : Int)) (all, (w : Int)) = some (.inl (if 0 ≤ gx x w + -(mv n (rowsF (matQ q n)) (gx x) w) ∧ ¬ reflL q n x w ∈ all then all ++ [reflL q n x w] else all, ((w + 1 : Nat) : Int))) := by
      unfold m_spec_PositiveRoots_L3
      simp only
      rw [Q.n0, dlt hlt, cond_true, hat, Option.bind_some, n_reflect Q hxv.1 hxv.2 hlt, Option.bind_some]
      change (Option.bind (atL (reflL q n x w) (w : Int)) fun v13 => _) = _
      rw [at_gx (by omega), Option.bind_some, hgy, wr_suc hlt (by omega)]
      by_cases c : 0 ≤ gx x w + -(mv n (rowsF (matQ q n)) (gx x) w)
      · have hy := refl_root H hxr hlt c
        have hyv := H.vec hy
        rw [decide_eq_true c, cond_true]
        change (Option.bind (m_spec_l20Has all (reflL q n x w)) fun v15 => _) = _
        rw [n_l20Has (fun r hr => by have := (H.vec (hall.2 r hr)).1.1; unfold bI; omega) (by omega), Option.bind_some]
        by_cases c2 : reflL q n x w ∈ all
        · rw [decide_eq_true c2, Bool.not_true, cond_false, if_neg (by simp [c2])]
        · rw [decide_eq_false c2, Bool.not_false, cond_true, if_pos ⟨c, c2⟩]
          unfold m_spec_TitsForm
          change (Option.bind (Option.bind (m_spec_EulerForm q (reflL q n x w) (reflL q n x w)) fun v1 => some v1) fun v17 => _) = _
          rw [n_specEul Q hrl hrl hyv.1.sm hyv.1.sm, Option.bind_some, Option.bind_some, ((rt_iff Q _).1 hy).2.2, decide_eq_true rfl, cond_true, decide_eq_true (by omega), cond_true]
          rfl
      · rw [decide_eq_false c, cond_false, if_neg (by simp [c])]
    refine ⟨_, hb, ⟨w + 1, rfl, by omega, ?_, ?_, ?_⟩, by show n - ((w + 1 : Nat) : Int).toNat < n - (w : Int).toNat; omega⟩
    · simp only
      split
      · exact hpre.trans (List.prefix_append _ _)
      · exact hpre
    · simp only
      split
      · rename_i c
        refine ⟨?_, fun y hy => ?_⟩
        · rw [List.nodup_append]
          refine ⟨hall.1, by simp, fun a ha b hb => ?_⟩
          rw [List.mem_singleton] at hb
          subst hb
          rintro rfl
          exact c.2 ha
        · rcases List.mem_append.1 hy with hy | hy
          · exact hall.2 y hy
          · rw [List.mem_singleton] at hy
            subst hy
            exact refl_root H hxr hlt c.1
      · exact hall
    · intro u hu h
      simp only
      by_cases e : u = w
      · subst e
        split
        · simp
        · rename_i c
          exact Classical.byContradiction fun h2 => c ⟨h, h2⟩
      · have := hcl u (by omega) h
        split
        · simp [this]
        · exact this
  · right
    have : w = n := by omega
    subst this
    refine ⟨all, ?_, hpre, hall, hcl⟩
    unfold m_spec_PositiveRoots_L3
    simp only
    rw [Q.n0, dnl (Nat.le_refl _), cond_false]
theorem n_specOuter {q : Qv} {n : Nat} (H : Fin1 q n) {all0 : List (List Int)} (h0 : AllRt q n all0) :
    ∃ r, Lp (m_spec_PositiveRoots_L2 q (matQ q n)) (all0, 0) = some r ∧ (all0 <+: r ∧ AllRt q n r ∧ ∀ x ∈ r, ∀ u, u < n → Clos q n r x u) := by
  refine Lp_meas (fun s => ∃ k : Nat, s.2 = (k : Int) ∧ k ≤ s.1.length ∧ all0 <+: s.1 ∧ AllRt q n s.1 ∧ ∀ j (hj : j < s.1.length), j < k → ∀ u, u < n → Clos q n s.1 s.1[j] u) (fun s => 21 - s.2.toNat) _ ⟨0, rfl, Nat.zero_le _, List.prefix_refl _, h0, fun j _ hj => by omega⟩ ?_
  rintro ⟨all, sv⟩ ⟨k, hk, hkl, hpre, hall, hcl⟩
  simp only at hk hkl hpre hall hcl
  subst hk
  have hlen := H.num hall.1 hall.2
  by_cases hlt : k < all.length
  · left
    obtain ⟨r, g1, g2, g3, g4⟩ := n_specInner H (atL_nat hlt) hall
    have hrl := g2.length_le
    refine ⟨(r, ((k + 1 : Nat) : Int)), ?_, ⟨k + 1, rfl, by show k + 1 ≤ r.length; omega, hpre.trans g2, g3, ?_⟩, by show 21 - ((k + 1 : Nat) : Int).toNat < 21 - (k : Int).toNat; omega⟩
    · unfold m_spec_PositiveRoots_L2
      simp only
      rw [dlt hlt, cond_true, g1, Option.bind_some, wr_suc hlt (by omega)]
    · intro j hj hjk u hu h
      simp only at hj h ⊢
      obtain ⟨t, rfl⟩ := g2
      have hja : j < all.length := by omega
      have e : (all ++ t)[j] = all[j] := List.getElem_append_left hja
      rw [e] at h ⊢
      by_cases c : j = k
      · subst c; exact g4 u hu h
      · have := hcl j hja (by omega) u hu h
        simp [this]
  · right
    refine ⟨all, ?_, hpre, hall, fun x hx u hu => ?_⟩
    · unfold m_spec_PositiveRoots_L2
      simp only
      rw [dnl (by omega), cond_false]
    · obtain ⟨j, hj, rfl⟩ := List.mem_iff_getElem.1 hx
      exact hcl j hj (by omega) u hu
theorem clos_all {q : Qv} {n : Nat} (H : Fin1 q n) {C : List (List Int)} (hu : ∀ v, v < n → unitL n v ∈ C) (hc : ∀ x ∈ C, ∀ u, u < n → Clos q n C x u) : ∀ (h : Nat) {x : List Int}, RtQ q n x → x.sum = h + 1 → x ∈ C
  | 0, x, r, hs => by
    obtain ⟨v, hv, e⟩ := sum_unit r.nn (by omega)
    rw [r.len] at e hv
    rw [e]; exact hu v hv
  | h + 1, x, r, hs => by
    obtain ⟨v, hv, h1, h2⟩ := r.down H.F (by omega)
    have hvl : v < x.length := by rw [r.len]; exact hv
    have ih := clos_all H hu hc h h2 (by rw [sum_set _ hvl]; omega)
    have h3 : mv n (rowsF (matQ q n)) (gx (x.set v (gx x v + -1))) v = -1 := by
      rw [gx_inc _ hvl, mv_add _ _ _ _ hv, h1, H.F.diag v hv]; rfl
    have h4 : gx (x.set v (gx x v + -1)) v = gx x v + -1 := by rw [gx_set _ hvl, if_pos rfl]
    have h5 := r.nn _ (mem_gx hvl)
    have h6 := hc _ ih v hv (by rw [h3, h4]; omega)
    unfold reflL at h6
    rw [h3, h4, List.set_set] at h6
    have e : x.set v (gx x v + -1 + - -1) = x := by
      refine gx_ext (by simp) fun i _ => ?_
      rw [gx_set _ hvl]
      by_cases e : i = v
      · subst e; rw [if_pos rfl]; omega
      · rw [if_neg e]
    rwa [e] at h6
theorem unit_root {q : Qv} {n : Nat} (H : Fin1 q n) {v : Nat} (hv : v < n) : RtQ q n (unitL n v) := by
  have hz : gx (List.replicate n (0 : Int)) = fun _ => 0 := by
    funext i
    unfold gx
    rw [List.getElem?_replicate]
    split <;> simp
  have hvl : v < (List.replicate n (0 : Int)).length := by simpa using hv
  have e : unitL n v = (List.replicate n (0 : Int)).set v (gx (List.replicate n (0 : Int)) v + 1) := by rw [hz]; rfl
  refine ⟨by simp [unitL], fun a ha => ?_, ?_⟩
  · rcases mem_set_cases ha with rfl | ha
    · omega
    · rw [List.eq_of_mem_replicate ha]; omega
  · rw [e, gx_inc _ hvl, qf_add _ _ _ hv H.F.sym, H.F.diag v hv, hz]
    have h1 : mv n (rowsF (matQ q n)) (fun _ => 0) v = 0 := by
      unfold mv
      rw [sumN_congr (g := fun _ => 0) (fun i _ => by rw [Int.mul_zero]), sumN_zero]
    have h2 : qf n (rowsF (matQ q n)) (fun _ => 0) = 0 := by
      rw [qf_mv, sumN_congr (g := fun _ => 0) (fun i _ => by rw [Int.zero_mul]), sumN_zero]
    rw [h1, h2]; rfl
theorem units_nodup (n : Nat) : ((List.range n).map (unitL n)).Nodup := by
  rw [List.nodup_iff_pairwise_ne, List.pairwise_map]
  refine List.Pairwise.imp_of_mem (fun {a b} ha hb h e => ?_) (List.nodup_iff_pairwise_ne.1 List.nodup_range)
  have h1 : gx (unitL n a) a = 1 := by unfold unitL; rw [gx_set _ (by simpa using List.mem_range.1 ha), if_pos rfl]
  have h2 : gx (unitL n b) a = 0 := by unfold unitL; rw [gx_set _ (by simpa using List.mem_range.1 hb), if_neg h, gx_rep (List.mem_range.1 ha)]
  rw [e, h2] at h1
  cases h1
theorem n_specUnits {q : Qv} {n : Nat} (Q : QOk q n) : Lp (m_spec_PositiveRoots_L1 q) (([] : List (List Int)), 0) = some ((List.range n).map (unitL n)) := by
  have n5 := Q.n5
  refine Lp_go (fun k => ((List.range k).map (unitL n), (k : Int))) n rfl (fun k hk => ?_) (fun _ => ?_)
  · unfold m_spec_PositiveRoots_L1
    simp only
    rw [Q.n0, dlt hk, cond_true, decide_eq_true (by omega), decide_eq_true (by omega), Bool.and_self, cond_true, Int.toNat_natCast, atG 0 (by simpa using hk), Option.bind_some, decide_eq_true (by simp; omega), cond_true, wr_suc hk (by omega), List.range_succ, List.map_append, Int.toNat_natCast]
    rfl
  · unfold m_spec_PositiveRoots_L1
    simp only
    rw [Q.n0, dnl (Nat.le_refl _), cond_false]
/-- The roots, in order. -/
def rootsL (q : Qv) (n : Nat) : List (List Int) := sortB sumLt (listA q n)
theorem mem_rootsL {q : Qv} {n : Nat} (H : Fin1 q n) (x : List Int) : x ∈ rootsL q n ↔ RtQ q n x := by unfold rootsL; rw [(sortB_spec _ _).2, mem_listA H]
theorem rootsL_len {q : Qv} {n : Nat} (H : Fin1 q n) : (rootsL q n).length ≤ 20 := by
  unfold rootsL
  rw [(sortB_spec _ _).1]
  exact H.num ((boxes_nodup _).filter _) fun x hx => (mem_listA H x).1 hx
theorem n_specRoots {q : Qv} {n : Nat} (H : Fin1 q n) : (Option.bind (Lp (m_spec_PositiveRoots_L1 q) (([] : List (List Int)), 0)) fun y8 => Option.bind (Lp (m_spec_PositiveRoots_L2 q (matQ q n)) (y8, 0)) fun y21 => Option.bind (Lp (m_spec_PositiveRoots_L4 y21) (([] : List (List Int)), 0)) fun y35 => some (y35, true)) = some (rootsL q n, true) := by
  have hU : AllRt q n ((List.range n).map (unitL n)) := ⟨units_nodup n, fun x hx => by
    obtain ⟨v, hv, rfl⟩ := List.mem_map.1 hx
    exact unit_root H (List.mem_range.1 hv)⟩
  obtain ⟨C, h1, h2, h3, h4⟩ := n_specOuter H hU
  have hC : ∀ x ∈ C, Vec5 x ∧ x.length = n := fun x hx => H.vec (h3.2 x hx)
  have hlen := H.num h3.1 h3.2
  rw [n_specUnits H.Q, Option.bind_some, h1, Option.bind_some, n_sortSpec hC (by omega), Option.bind_some]
  congr 2
  refine sorted_ext lessP_irr lessP_trans ?_ sorted_implRoots fun x => ?_
  · refine sortB_sorted lessP_trans ?_
    refine List.Pairwise.imp_of_mem (fun {p x} hp hx h => ?_) (List.nodup_iff_pairwise_ne.1 h3.1)
    refine ⟨fun h => h, fun h' => ?_⟩
    have h5 : ¬ LessP x p := by unfold LessP; rw [h']; simp
    rw [lessP_iff] at h5 ⊢
    rcases lexB_total (x := p) (y := x) (by rw [(hC p hp).2, (hC x hx).2]) h with h6 | h6
    · by_cases e : p.sum = x.sum
      · exact .inr ⟨e, h6⟩
      · refine .inl ?_
        have : ¬ x.sum < p.sum := fun h => h5 (.inl h)
        omega
    · refine .inl ?_
      have h7 : ¬ x.sum < p.sum := fun h => h5 (.inl h)
      have h8 : ¬ x.sum = p.sum := fun h => h5 (.inr ⟨h, h6⟩)
      omega
  · rw [(sortB_spec _ _).2, mem_rootsL H]
    constructor
    · exact h3.2 x
    · intro r
      have := r.pos H.F
      exact clos_all H (fun v hv => by
        obtain ⟨t, rfl⟩ := h2
        simp only [List.mem_append]
        exact .inl (List.mem_map.2 ⟨v, List.mem_range.2 hv, rfl⟩)) h4 (x.sum - 1).toNat r (by omega)
end Go.Proofs.Ytahbimogkgfmdaa
end

section
set_option linter.unusedVariables false
set_option linter.unusedSimpArgs false
/-
  The laws' structs as arguments: quivers, matrices, representations, spaces, bars, claims.
-/
namespace Go.Proofs.Ytahbimogkgfmdaa
open Go.ChangeShapes Go.WideShapes Go.ChangeAt Go.RowKit
theorem oI : Opens Try.prog 3 (ShpA 1 eI) := opensA_int Try.underlying3
theorem oL : Opens Try.prog 22 (ShpA 1 eL) := opensA_slice Try.underlying22 (by decide) (by kernel_rfl) oI
theorem oQ : Opens Try.prog 24 (ShpA 3 eQ) := by
  intro H enc w fuel cs d ps h hf
  obtain ⟨x0, T0, u0⟩ := upto_cons Try.underlying24 h hf upto_nil (i := 0) (ft := 3) rfl (k := 1) (by kernel_rfl) oI
  obtain ⟨x1, T1, u1⟩ := upto_cons Try.underlying24 h hf u0 (i := 1) (ft := 22) rfl (k := 1) (by kernel_rfl) oL
  obtain ⟨x2, T2, u2⟩ := upto_cons Try.underlying24 h hf u1 (i := 2) (ft := 22) rfl (k := 1) (by kernel_rfl) oL
  exact ⟨⟨x0, x1, x2⟩, _, upto_end Try.underlying24 h hf u2 (by kernel_rfl) _ rfl⟩
theorem oRows : Opens Try.prog 36 (ShpA 1 (fun l : List (List Int) => [.list 1 (l.map eL)])) := opensA_slice Try.underlying36 (by decide) (by kernel_rfl) oL
end Go.Proofs.Ytahbimogkgfmdaa
end

section
set_option linter.unusedVariables false
set_option linter.unusedSimpArgs false
/-
  A law's arguments: their lists have lengths that fit.
-/
namespace Go.Proofs.Ytahbimogkgfmdaa
open Go.RowKit
set_option linter.unusedVariables false

theorem rvs_mem {w : World} : ∀ {ds : List AV} {vs : List Value} {S : List Nat}, RepVs w ds vs S → ∀ d ∈ ds, ∃ v S', RepD w d v S'
  | [], _, _, _, d, hd => by cases hd
  | c :: cs, vs, S, h, d, hd => by
    simp only [RepVs] at h
    obtain ⟨v, r, S1, S2, _, _, h3, h4⟩ := h
    rcases List.mem_cons.1 hd with rfl | h'
    · exact ⟨v, S1, h3⟩
    · exact rvs_mem h4 d h'
theorem rcs_mem {w : World} {b : Nat} : ∀ {ds : List AV} {o : Nat} {S : List Nat}, RepCs w b o ds S → ∀ d ∈ ds, ∃ v S', RepD w d v S'
  | [], _, _, _, d, hd => by cases hd
  | c :: cs, o, S, h, d, hd => by
    simp only [RepCs] at h
    obtain ⟨v, S1, S2, _, _, _, _, h3, h4⟩ := h
    rcases List.mem_cons.1 hd with rfl | h'
    · exact ⟨v, S1, h3⟩
    · exact rcs_mem h4 d h'
theorem res_mem {w : World} {k b : Nat} : ∀ {es : List (List AV)} {o : Nat} {S : List Nat}, RepEs w k b o es S → ∀ cs ∈ es, ∀ d ∈ cs, ∃ v S', RepD w d v S'
  | [], _, _, _, cs, hc => by cases hc
  | c :: es, o, S, h, cs, hc => by
    simp only [RepEs] at h
    obtain ⟨S1, S2, _, _, h3, h4⟩ := h
    rcases List.mem_cons.1 hc with rfl | h'
    · exact rcs_mem h3
    · exact res_mem h4 cs h'
theorem rd_list {w : World} {k : Nat} {es : List (List AV)} {v : Value} {S : List Nat} (h : RepD w (.list k es) v S) : es.length ≤ 9223372036854775807 ∧ ∀ cs ∈ es, ∀ d ∈ cs, ∃ v S', RepD w d v S' := by
  unfold RepD at h
  obtain ⟨a, c, _, h2, h3, h4⟩ := h
  have hm : maxLen ≤ 9223372036854775807 := by decide
  refine ⟨by omega, ?_⟩
  rcases h4 with ⟨rfl, _⟩ | ⟨b, o, T, _, _, _, h5⟩
  · intro cs hcs; cases hcs
  · exact res_mem h5
theorem fI_of {w : World} {l : List Int} {v : Value} {S : List Nat} (h : RepD w (ints l) v S) : fI l := by
  have := (rd_list (k := 1) (es := List.map eI l) h).1
  rwa [List.length_map] at this
theorem fI_mem {w : World} {ds : List AV} (h : ∀ d ∈ ds, ∃ v S', RepD w d v S') {l : List Int} (hl : ints l ∈ ds) : fI l := by
  obtain ⟨v, S, h⟩ := h _ hl
  exact fI_of h
theorem list_mem {w : World} {ds : List AV} (h : ∀ d ∈ ds, ∃ v S', RepD w d v S') {α : Type} {k : Nat} {e : α → List AV} {l : List α} (hl : AV.list k (l.map e) ∈ ds) : fI l ∧ ∀ x ∈ l, ∀ d ∈ e x, ∃ v S', RepD w d v S' := by
  obtain ⟨v, S, h⟩ := h _ hl
  have := rd_list h
  rw [List.length_map] at this
  exact ⟨this.1, fun x hx => this.2 _ (List.mem_map.2 ⟨x, hx, rfl⟩)⟩
theorem fQ_of {w : World} {q : Qv} (h : ∀ d ∈ eQ q, ∃ v S', RepD w d v S') : fQ q := ⟨fI_mem h (by simp [eQ]), fI_mem h (by simp [eQ])⟩
theorem ret_true {w0 w : World} {v : Value} {S : List Nat} (h : ResA w (.bl true) v S) : Ending.returned v = .returned (.bool true) := by rw [h.1]
end Go.Proofs.Ytahbimogkgfmdaa
end

section
set_option linter.unusedVariables false
set_option linter.unusedSimpArgs false
/-
  Models and contracts of functions, made by the extractor (ex.py).
-/
namespace Go.Proofs.Ytahbimogkgfmdaa
open Go.RowKit
set_option linter.unusedVariables false
set_option linter.unusedSimpArgs false
set_option maxRecDepth 10000
set_option maxHeartbeats 4000000

end Go.Proofs.Ytahbimogkgfmdaa
end

section
set_option linter.unusedVariables false
set_option linter.unusedSimpArgs false
/-
  The laws' sizes, copies and comparisons (2): lists of lists, spaces.
-/
namespace Go.Proofs.Ytahbimogkgfmdaa
open Go.RowKit
set_option linter.unusedVariables false
set_option linter.unusedSimpArgs false

theorem mz_Row {l : List Int} {left : Int} (hl : fI l) (h0 : 0 ≤ left) (h1 : left ≤ 1048576) : m_laws_szIntS l left = some (zRow l left) := mz_I hl h0 h1
def fLs (l : List (List Int)) : Prop := fI l ∧ ∀ m ∈ l, fI m
theorem mz_Ls {l : List (List Int)} {left : Int} (hl : fLs l) (h0 : 0 ≤ left) (h1 : left ≤ 1048576) : m_laws_szIntSS l left = some (zS zRow l left) := by
  obtain ⟨ha, hb⟩ := hl
  unfold fI at ha
  unfold m_laws_szIntSS zS
  rw [wr_eq (by omega)]
  by_cases h : left - l.length < 0
  · rw [decide_eq_true h, if_pos h]; rfl
  · rw [decide_eq_false h, if_neg h, cond_false]
    refine zs_loop (f := zRow) falls_Row (by omega) (fun v k hk g0 g1 => ?_) (fun v => ?_) _ (by omega) (by omega)
    · unfold m_laws_szIntSS_L1
      simp only
      rw [dlt hk, cond_true, atL_nat hk, Option.bind_some, mz_Row (hb _ (List.getElem_mem hk)) g0 g1, Option.bind_some]
      cases decide ((zRow) l[k] v < 0) <;> rfl
    · unfold m_laws_szIntSS_L1
      simp only
      rw [dnl (Nat.le_refl _), cond_false]
theorem mt_Ls {l : List (List Int)} (h : l.length ≤ 1048576 ∧ ∀ m ∈ l, bI m) : m_laws_toIntSS l = some l := by
  obtain ⟨h, hb⟩ := h
  unfold m_laws_toIntSS
  rw [decide_eq_true (by omega), decide_eq_true (by omega : (l.length : Int) ≤ 1048576), Bool.and_self, cond_true]
  rw [copy_loop [] (by omega) (fun k hk r hr => ?_) (fun r => ?_)]; rfl
  · unfold m_laws_toIntSS_L1
    simp only
    rw [dlt hk, cond_true, atL_nat hk, Option.bind_some, mt_I (hb _ (List.getElem_mem hk)), Option.bind_some, atL_nat (hr ▸ hk), Option.bind_some, Int.toNat_natCast]
  · unfold m_laws_toIntSS_L1
    simp only
    rw [dnl (Nat.le_refl _), cond_false]
theorem me_Ls {a b : List (List Int)} (h : a.length ≤ 1048576 ∧ ∀ m ∈ a, bI m) : m_laws_eqIntSS a b = some (decide (a = b)) := by
  obtain ⟨h, hb⟩ := h
  unfold m_laws_eqIntSS
  rw [len_test]
  by_cases e : a.length = b.length
  · rw [decide_eq_true e, Bool.not_true, cond_false]
    refine eq_lists (by omega) e (fun k h1 h2 => ?_) ?_
    · unfold m_laws_eqIntSS_L1
      rw [dlt h1, cond_true, atL_nat h1, Option.bind_some, atL_nat h2, Option.bind_some, me_I (hb _ (List.getElem_mem h1)), Option.bind_some]
      cases decide (a[k] = b[k]) <;> rfl
    · unfold m_laws_eqIntSS_L1
      rw [dnl (Nat.le_refl _), cond_false]
  · rw [decide_eq_false e, Bool.not_false, cond_true, decide_eq_false (by rintro rfl; exact e rfl)]
theorem fLs_of {w : World} {l : List (List Int)} {ds : List AV} (h : ∀ d ∈ ds, ∃ v S', RepD w d v S') (hl : AV.list 1 (l.map eL) ∈ ds) : fLs l := by
  obtain ⟨h1, h2⟩ := list_mem h hl
  refine ⟨h1, fun v hv => ?_⟩
  obtain ⟨v', S', h3⟩ := h2 v hv (ints v) (by simp)
  exact fI_of h3
end Go.Proofs.Ytahbimogkgfmdaa
end

section
set_option linter.unusedVariables false
set_option linter.unusedSimpArgs false
/-
  Models and contracts of functions, made by the extractor (ex.py).
-/
namespace Go.Proofs.Ytahbimogkgfmdaa
open Go.RowKit
set_option linter.unusedVariables false
set_option linter.unusedSimpArgs false
set_option maxRecDepth 10000
set_option maxHeartbeats 4000000

noncomputable def m_laws_FnExactIsTilting (a0 : Qv) (a1 : (List (List Int))) : Option Bool :=
  Option.bind (m_laws_szQuiver a0 1048576) fun v1 =>
  bif decide (v1 < 0) then
    (some (true))
  else
    (Option.bind (m_laws_szIntSS a1 v1) fun v3 =>
    bif decide (v3 < 0) then
      (some (true))
    else
      (Option.bind (m_laws_toQuiver a0) fun v5 =>
      Option.bind (m_laws_toIntSS a1) fun v6 =>
      Option.bind (m_spec_IsTilting v5 v6) fun v7 =>
      Option.bind (m_laws_toQuiver a0) fun v8 =>
      Option.bind (m_laws_toIntSS a1) fun v9 =>
      Option.bind (m_impl_IsTilting v8 v9) fun v10 =>
      bif !(v10 == v7) then
        (some (false))
      else
        (Option.bind (m_laws_toQuiver a0) fun v12 =>
        Option.bind (m_laws_eqQuiver v8 v12) fun v13 =>
        bif !v13 then
          (some (false))
        else
          (Option.bind (m_laws_toIntSS a1) fun v15 =>
          Option.bind (m_laws_eqIntSS v9 v15) fun v16 =>
          bif !v16 then
            (some (false))
          else
            (some (true))))))

theorem c_laws_FnExactIsTilting (a0 : Qv) (a1 : (List (List Int))) (r : Bool) (h : m_laws_FnExactIsTilting a0 a1 = some r) : HasC Try.prog 7 [.agg (eQ a0), .list 1 (List.map (eLs 1 eI) a1)] (.bl r) := by
 refine hasC_mk TT_ok (rvs := [.tmp 4]) (ns := [0, 1, 2, 3, 4, 5, 6, 7, 8, 9, 10, 11, 12]) Try.func7 k k Try.ntmps7 k k k <| sQ <| rg <| ae (w_box k k k k) k <| ae (eff_assign k) k <| an <| tn <| sQ <| rg <| ae (eff_assign k) k ?_
 refine an <| tn <| sQ <| rg <| ae (w_load_ptr TT_ok k k k k k k k) k <| ae (eff_move k) k ?_
 obtain ⟨v1, hv1, h⟩ := ob h
 refine ae (w_call0s (c_laws_szQuiver a0 1048576 v1 hv1) k (va_cons (va_agg' (v1_cons (v1_same k) (v1_cons (v1_same k) (v1_cons (v1_same k) v1_nil)))) (va_cons (va_same k) va_nil))) k <| ae (eff_assign k) k <| an <| tn <| sQ <| sQ <| rg <| ae (eff_move k) k <| ae (w_cmp k k k) k <| an ?_
 refine tn ?_
 rcases cb h with ⟨q2, h⟩ | ⟨q2, h⟩
 ·refine ac_condT k q2 <| sQ <| rg <| ae (eff_assign k) k <| an <| tn <| ac_ret <| then_ret ?_
  obtain rfl := so h
  exact ret_mk k k k (fz_bl k)
 ·refine ac_condF k q2 <| ac_skip <| tn <| sQ <| rg <| ae (eff_move k) k <| ae (eff_move k) k ?_
  obtain ⟨v3, hv3, h⟩ := ob h
  refine ae (w_call0s (c_laws_szIntSS a1 v1 v3 hv3) k (va_cons (va_same k) (va_cons (va_same k) va_nil))) k <| ae (eff_assign k) k <| an <| tn <| ac_ent (t := mkS [(1, .list 1 (List.map (eLs 1 eI) a1)), (2, .ptr 0 0 0), (5, .int v3)] [(0, ⟨3, [[.int a0.n, .list 1 (List.map eI a0.src), .list 1 (List.map eI a0.tgt)]]⟩)] 1 [1, 2, 3, 4, 5, 6, 7, 8, 9, 10, 11, 12]) (ent_mk (σ := sg [(0, 0)]) ⟨⟨_, k, ⟨k, k⟩⟩, ⟨_, k, ⟨k, k, k, k⟩⟩, (e1 k k), trivial⟩ ⟨⟨_, k, k, .inl ⟨k, plain_of k⟩⟩, k, trivial⟩ k) <| sQ <| sQ <| rg <| ae (eff_move k) k <| ae (w_cmp k k k) k ?_
  refine an <| tn ?_
  rcases cb h with ⟨q4, h⟩ | ⟨q4, h⟩
  ·refine ac_condT k q4 <| sQ <| rg <| ae (eff_assign k) k <| an <| tn <| ac_ret <| then_ret ?_
   obtain rfl := so h
   exact ret_mk k k k (fz_bl k)
  ·refine ac_condF k q4 <| ac_skip <| tn <| sQ <| rg <| ae (w_load_ptr TT_ok k k k k k k k) k ?_
   obtain ⟨v5, hv5, h⟩ := ob h
   refine ae (AEff.conv (w_call0 (x := .agg [.int v5.n, .own 1 0 (List.map eI v5.src).length, .own 2 0 (List.map eI v5.tgt).length]) (nb := [(1, ⟨1, absEs (List.map eI v5.src)⟩), (2, ⟨1, absEs (List.map eI v5.tgt)⟩)]) (c_laws_toQuiver a0 v5 hv5) k (by rfl) k k (g1_cons trivial (g1_cons (okI.good _) (g1_cons (okI.good _) g1_nil))) (va_cons (va_agg' (v1_cons (v1_same k) (v1_cons (v1_same k) (v1_cons (v1_same k) v1_nil)))) va_nil)) (v' := .agg [.int v5.n, .own 1 0 v5.src.length, .own 2 0 v5.tgt.length]) (ed' := [(1, some ⟨1, List.map (ow eI) v5.src⟩), (2, some ⟨1, List.map (ow eI) v5.tgt⟩)]) (by simp only [len_map]) (ed_ok (nb' := [(1, ⟨1, List.map (ow eI) v5.src⟩), (2, ⟨1, List.map (ow eI) v5.tgt⟩)]) (by simp only [abs_map]))) k <| ae (eff_move k) k ?_
   obtain ⟨v6, hv6, h⟩ := ob h
   refine ae (AEff.conv (w_call0 (x := .own 3 0 (List.map (eLs 1 eI) v6).length) (nb := [(3, ⟨1, absEs (List.map (eLs 1 eI) v6)⟩)]) (c_laws_toIntSS a1 v6 hv6) k (by rfl) k k (okLs.good _) (va_cons (va_same k) va_nil)) (v' := .own 3 0 v6.length) (ed' := [(3, some ⟨1, List.map (ow (eLs 1 eI)) v6⟩)]) (by simp only [len_map]) (ed_ok (nb' := [(3, ⟨1, List.map (ow (eLs 1 eI)) v6⟩)]) (by simp only [abs_map]))) k ?_
   obtain ⟨v7, hv7, h⟩ := ob h
   refine ae (w_call0s (c_spec_IsTilting v5 v6 v7 hv7) k (va_cons (va_agg' (v1_cons (v1_same k) (v1_cons (v1_T okI k k) (v1_cons (v1_T okI k k) v1_nil)))) (va_cons (va_T okLs k k) va_nil))) k <| ae (eff_assign k) k <| an <| tn <| sQ <| rg <| ae (w_load_ptr TT_ok k k k k k k k) k ?_
   obtain ⟨v8, hv8, h⟩ := ob h
   refine ae (AEff.conv (w_call0 (x := .agg [.int v8.n, .own 4 0 (List.map eI v8.src).length, .own 5 0 (List.map eI v8.tgt).length]) (nb := [(4, ⟨1, absEs (List.map eI v8.src)⟩), (5, ⟨1, absEs (List.map eI v8.tgt)⟩)]) (c_laws_toQuiver a0 v8 hv8) k (by rfl) k k (g1_cons trivial (g1_cons (okI.good _) (g1_cons (okI.good _) g1_nil))) (va_cons (va_agg' (v1_cons (v1_same k) (v1_cons (v1_same k) (v1_cons (v1_same k) v1_nil)))) va_nil)) (v' := .agg [.int v8.n, .own 4 0 v8.src.length, .own 5 0 v8.tgt.length]) (ed' := [(4, some ⟨1, List.map (ow eI) v8.src⟩), (5, some ⟨1, List.map (ow eI) v8.tgt⟩)]) (by simp only [len_map]) (ed_ok (nb' := [(4, ⟨1, List.map (ow eI) v8.src⟩), (5, ⟨1, List.map (ow eI) v8.tgt⟩)]) (by simp only [abs_map]))) k <| ae (w_alloc TT_ok k k) k <| ae (w_store TT_ok k k k k k k k k) k <| an <| tn <| ac_ent (t := mkS [(1, .list 1 (List.map (eLs 1 eI) a1)), (2, .ptr 0 0 0), (6, .bl v7), (7, .ptr 6 0 0)] [(0, ⟨3, [[.int a0.n, .list 1 (List.map eI a0.src), .list 1 (List.map eI a0.tgt)]]⟩), (4, ⟨1, List.map (ow eI) v8.src⟩), (5, ⟨1, List.map (ow eI) v8.tgt⟩), (6, ⟨3, [[.int v8.n, .own 4 0 v8.src.length, .own 5 0 v8.tgt.length]]⟩)] 7 [7, 8, 9, 10, 11, 12]) (ent_mk (σ := sg [(0, 0), (4, 4), (5, 5), (6, 6)]) ⟨⟨_, k, ⟨k, k⟩⟩, ⟨_, k, ⟨k, k, k, k⟩⟩, (e1 k k), ⟨_, k, ⟨k, k, k, k⟩⟩, trivial⟩ ⟨⟨_, k, k, .inl ⟨k, plain_of k⟩⟩, k, ⟨_, k, k, .inl ⟨k, okI.plainO _⟩⟩, k, ⟨_, k, k, .inl ⟨k, okI.plainO _⟩⟩, k, ⟨_, k, k, .inr ⟨_, _, k, ⟨_, _, k, k, ⟨_, _, k, ⟨k, k, k, k⟩, ⟨_, _, k, ⟨k, k, k, k⟩, k⟩⟩⟩, k⟩⟩, k, trivial⟩ k) ?_
   refine sQ <| rg <| ae (eff_move k) k ?_
   obtain ⟨v9, hv9, h⟩ := ob h
   refine ae (AEff.conv (w_call0 (x := .own 7 0 (List.map (eLs 1 eI) v9).length) (nb := [(7, ⟨1, absEs (List.map (eLs 1 eI) v9)⟩)]) (c_laws_toIntSS a1 v9 hv9) k (by rfl) k k (okLs.good _) (va_cons (va_same k) va_nil)) (v' := .own 7 0 v9.length) (ed' := [(7, some ⟨1, List.map (ow (eLs 1 eI)) v9⟩)]) (by simp only [len_map]) (ed_ok (nb' := [(7, ⟨1, List.map (ow (eLs 1 eI)) v9⟩)]) (by simp only [abs_map]))) k <| ae (eff_assign k) k <| an <| tn <| sQ <| rg <| ae (w_load_ptr TT_ok k k k k k k k) k <| ae (eff_move k) k ?_
   obtain ⟨v10, hv10, h⟩ := ob h
   refine ae (w_call0s (c_impl_IsTilting v8 v9 v10 hv10) k (va_cons (va_agg' (v1_cons (v1_same k) (v1_cons (v1_T okI k k) (v1_cons (v1_T okI k k) v1_nil)))) (va_cons (va_T okLs k k) va_nil))) k <| ae (eff_assign k) k <| an <| tn <| sQ <| sQ <| rg <| ae (eff_move k) k <| ae (eff_move k) k <| ae (w_neqB (by kernel_rfl) k k) k ?_
   refine an <| tn ?_
   rcases cb h with ⟨q11, h⟩ | ⟨q11, h⟩
   ·refine ac_condT k q11 <| sQ <| rg <| ae (eff_assign k) k <| an <| tn <| ac_ret <| then_ret ?_
    obtain rfl := so h
    exact ret_mk k k k (fz_bl k)
   ·refine ac_condF k q11 <| ac_skip <| tn <| sQ <| sQ <| ac_region_draw MIXX <| ae (w_load_ptr TT_ok k k k k k k k) k <| ae (w_load_ptr TT_ok k k k k k k k) k ?_
    obtain ⟨v12, hv12, h⟩ := ob h
    refine ae (AEff.conv (w_call0 (x := .agg [.int v12.n, .own 8 0 (List.map eI v12.src).length, .own 9 0 (List.map eI v12.tgt).length]) (nb := [(8, ⟨1, absEs (List.map eI v12.src)⟩), (9, ⟨1, absEs (List.map eI v12.tgt)⟩)]) (c_laws_toQuiver a0 v12 hv12) k (by rfl) k k (g1_cons trivial (g1_cons (okI.good _) (g1_cons (okI.good _) g1_nil))) (va_cons (va_agg' (v1_cons (v1_same k) (v1_cons (v1_same k) (v1_cons (v1_same k) v1_nil)))) va_nil)) (v' := .agg [.int v12.n, .own 8 0 v12.src.length, .own 9 0 v12.tgt.length]) (ed' := [(8, some ⟨1, List.map (ow eI) v12.src⟩), (9, some ⟨1, List.map (ow eI) v12.tgt⟩)]) (by simp only [len_map]) (ed_ok (nb' := [(8, ⟨1, List.map (ow eI) v12.src⟩), (9, ⟨1, List.map (ow eI) v12.tgt⟩)]) (by simp only [abs_map]))) k ?_
    obtain ⟨v13, hv13, h⟩ := ob h
    refine ae (w_call0s (c_laws_eqQuiver v8 v12 v13 hv13) k (va_cons (va_agg' (v1_cons (v1_same k) (v1_cons (v1_T okI k k) (v1_cons (v1_T okI k k) v1_nil)))) (va_cons (va_agg' (v1_cons (v1_same k) (v1_cons (v1_T okI k k) (v1_cons (v1_T okI k k) v1_nil)))) va_nil))) k <| ae (w_not k) k <| an ?_
    refine ⟨by kernel_rfl, ?_⟩
    refine tn <| ac_ent (t := mkS [(1, .list 1 (List.map (eLs 1 eI) a1)), (8, .own 7 0 v9.length), (39, .bl (!v13))] [(7, ⟨1, List.map (ow (eLs 1 eI)) v9⟩)] 10 [10, 11, 12]) (ent_mk (σ := sg [(7, 7)]) ⟨⟨_, k, ⟨k, k⟩⟩, ⟨_, k, ⟨k, k, k, k⟩⟩, (e1 k k), trivial⟩ ⟨⟨_, k, k, .inl ⟨k, okLs.plainO _⟩⟩, k, trivial⟩ k) ?_
    rcases cb h with ⟨q14, h⟩ | ⟨q14, h⟩
    ·refine ac_condT k q14 <| sQ <| rg <| ae (eff_assign k) k <| an <| tn <| ac_ret <| then_ret ?_
     obtain rfl := so h
     exact ret_mk k k k (fz_bl k)
    ·refine ac_condF k q14 <| ac_skip <| tn <| sQ <| sQ <| rg <| ae (eff_move k) k <| ae (eff_move k) k ?_
     obtain ⟨v15, hv15, h⟩ := ob h
     refine ae (AEff.conv (w_call0 (x := .own 10 0 (List.map (eLs 1 eI) v15).length) (nb := [(10, ⟨1, absEs (List.map (eLs 1 eI) v15)⟩)]) (c_laws_toIntSS a1 v15 hv15) k (by rfl) k k (okLs.good _) (va_cons (va_same k) va_nil)) (v' := .own 10 0 v15.length) (ed' := [(10, some ⟨1, List.map (ow (eLs 1 eI)) v15⟩)]) (by simp only [len_map]) (ed_ok (nb' := [(10, ⟨1, List.map (ow (eLs 1 eI)) v15⟩)]) (by simp only [abs_map]))) k ?_
     obtain ⟨v16, hv16, h⟩ := ob h
     refine ae (w_call0s (c_laws_eqIntSS v9 v15 v16 hv16) k (va_cons (va_T okLs k k) (va_cons (va_T okLs k k) va_nil))) k <| ae (w_not k) k <| an <| tn ?_
     rcases cb h with ⟨q17, h⟩ | ⟨q17, h⟩
     ·refine ac_condT k q17 <| sQ <| rg <| ae (eff_assign k) k <| an <| tn <| ac_ret <| then_ret ?_
      obtain rfl := so h
      exact ret_mk k k k (fz_bl k)
     ·refine ac_condF k q17 <| ac_skip <| tn <| sQ <| rg <| ae (eff_assign k) k <| an <| tn <| ac_ret ?_
      obtain rfl := so h
      exact ret_mk k k k (fz_bl k)

end Go.Proofs.Ytahbimogkgfmdaa
end

section
set_option linter.unusedVariables false
set_option linter.unusedSimpArgs false
/-
  Roots of a quiver and their forms: the laws RootExt, RootHom, AreCompatible, IsTilting.
-/
namespace Go.Proofs.Ytahbimogkgfmdaa
open Go.RowKit
set_option linter.unusedVariables false

theorem n_pos {q : Qv} (hb : bQ q) : ∃ L b, m_impl_PositiveRoots q = some (L, b) ∧ m_spec_PositiveRoots q = some (L, b) ∧ ((b = false ∧ L = []) ∨ (b = true ∧ ∃ n, Fin1 q n ∧ L = rootsL q n)) := by
  by_cases hv : quivV q = true
  · obtain ⟨n, Q⟩ := qok hb hv
    by_cases hk : kindR n (matQ q n) (2 ^ n - 1) 1 1 = 1
    · obtain ⟨F, G⟩ := fin_form Q fun t h1 h2 => kindR_one hk t h1 (by omega)
      have H : Fin1 q n := ⟨Q, F, G⟩
      refine ⟨rootsL q n, true, ?_, ?_, .inr ⟨rfl, n, H, rfl⟩⟩
      · unfold m_impl_PositiveRoots
        rw [n_implKind Q, Option.bind_some, hk, decide_eq_true rfl, Bool.not_true, cond_false, n_implRoots H, Option.bind_some]
        rfl
      · unfold m_spec_PositiveRoots
        rw [n_specKind Q, Option.bind_some, hk, decide_eq_true rfl, Bool.not_true, cond_false, n_specSym Q, Option.bind_some]
        exact n_specRoots H
    · refine ⟨[], false, ?_, ?_, .inl ⟨rfl, rfl⟩⟩
      · unfold m_impl_PositiveRoots
        rw [n_implKind Q, Option.bind_some, decide_eq_false hk, Bool.not_false, cond_true]
      · unfold m_spec_PositiveRoots
        rw [n_specKind Q, Option.bind_some, decide_eq_false hk, Bool.not_false, cond_true]
  · have hv' : quivV q = false := by simpa using hv
    refine ⟨[], false, ?_, ?_, .inl ⟨rfl, rfl⟩⟩
    · unfold m_impl_PositiveRoots m_impl_KindOfQuiver
      rw [n_implQ hb, hv', Option.bind_some]
      rfl
    · unfold m_spec_PositiveRoots m_spec_KindOfQuiver
      rw [n_specQ hb, hv', Option.bind_some]
      rfl
theorem n_IndexFuncL {v : List (List Int)} {f : List Int → Option Bool} (P : List Int → Bool) (hf : ∀ x ∈ v, f x = some (P x)) (h : v.length ≤ 1048576) : ∃ i : Int, m_slices_IndexFunc_LLint_Lint v f = some i ∧ decide (0 ≤ i) = v.any P := by
  unfold m_slices_IndexFunc_LLint_Lint
  rw [Lp_search (s0 := 0) (s := 0) (n := v.length) (fun k => bif P (v[k]?.getD []) then some (k : Int) else none) rfl (by omega) (Nat.zero_le _) (fun k _ hk => ?_) (fun _ => ?_)]
  · rw [Option.bind_some]
    cases e : (List.range' 0 (v.length - 0)).findSome? (fun k : Nat => bif P (v[k]?.getD []) then some (k : Int) else none) with
    | none =>
      refine ⟨-1, rfl, ?_⟩
      rw [List.findSome?_eq_none_iff] at e
      have : v.any P = false := by
        rw [List.any_eq_false]
        intro x hx
        obtain ⟨k, hk, rfl⟩ := List.mem_iff_getElem.1 hx
        have := e k (by simp; omega)
        simp only [List.getElem?_eq_getElem hk, Option.getD_some] at this
        cases hp : P v[k] with
        | false => simp
        | true => rw [hp] at this; cases this
      rw [this]; rfl
    | some i =>
      refine ⟨i, rfl, ?_⟩
      obtain ⟨k, hk, he⟩ := List.exists_of_findSome?_eq_some e
      simp at hk
      have hkl : k < v.length := by omega
      rw [List.getElem?_eq_getElem hkl] at he
      simp only [Option.getD_some] at he
      cases hp : P v[k] with
      | false => rw [hp] at he; cases he
      | true =>
        rw [hp] at he
        cases he
        rw [decide_eq_true (by omega), eq_comm, List.any_eq_true]
        exact ⟨_, List.getElem_mem hkl, hp⟩
  · unfold m_slices_IndexFunc_LLint_Lint_L1
    rw [dlt hk, cond_true, atG [] hk, Option.bind_some, hf _ (by rw [List.getElem?_eq_getElem hk]; exact List.getElem_mem hk), Option.bind_some]
    cases P _ <;> rfl
  · unfold m_slices_IndexFunc_LLint_Lint_L1
    rw [dnl (Nat.le_refl _), cond_false]
theorem n_isRoot {q : Qv} (hb : bQ q) (x : List Int) : ∃ b, m_impl_IsRoot q x = some b ∧ m_spec_IsRoot q x = some b ∧ (b = true → ∃ n, Fin1 q n ∧ RtQ q n x) := by
  obtain ⟨L, b, h1, h2, h3⟩ := n_pos hb
  have hL : (∀ r ∈ L, bI r) ∧ L.length ≤ 1000 := by
    rcases h3 with ⟨_, rfl⟩ | ⟨_, n, H, rfl⟩
    · exact ⟨fun r hr => (by cases hr), by simp⟩
    · refine ⟨fun r hr => ?_, by have := rootsL_len H; omega⟩
      have := (H.vec ((mem_rootsL H r).1 hr)).1.1
      unfold bI; omega
  obtain ⟨i, g1, g2⟩ := n_IndexFuncL (f := fun b0 => m_impl_rootIndex_1 b0 x) (fun r => decide (r = x)) (fun r hr => by simp only [m_impl_rootIndex_1]; rw [n_SlEqual (hL.1 r hr), Option.bind_some]) (by omega : L.length ≤ 1048576)
  have hany : (L.any fun r => decide (r = x)) = decide (x ∈ L) := by
    rw [Bool.eq_iff_iff, List.any_eq_true, decide_eq_true_eq]
    exact ⟨fun ⟨r, hr, h⟩ => by rw [decide_eq_true_eq] at h; exact h ▸ hr, fun h => ⟨x, h, by simp⟩⟩
  refine ⟨decide (x ∈ L), ?_, ?_, fun h => ?_⟩
  · unfold m_impl_IsRoot m_impl_rootIndex
    rw [h1, Option.bind_some]
    simp only
    rw [g1, Option.bind_some, Option.bind_some, g2, hany]
  · unfold m_spec_IsRoot
    rw [h2, Option.bind_some]
    simp only
    rcases h3 with ⟨rfl, rfl⟩ | ⟨rfl, _⟩
    · simp
    · rw [cond_true, n_l20Has hL.1 hL.2, Option.bind_some]
  · rw [decide_eq_true_eq] at h
    rcases h3 with ⟨_, rfl⟩ | ⟨_, n, H, rfl⟩
    · cases h
    · exact ⟨n, H, (mem_rootsL H x).1 h⟩
theorem n_rootEul {q : Qv} {x y : List Int} {n m : Nat} (H : Fin1 q n) (hx : RtQ q n x) (H' : Fin1 q m) (hy : RtQ q m y) : ∃ e, m_impl_euler q x y = some e ∧ m_spec_EulerForm q x y = some e := by
  have hnm : n = m := by have h1 := H.Q.n0; have h2 := H'.Q.n0; omega
  subst hnm
  obtain ⟨h1, h2⟩ := H.vec hx
  obtain ⟨h3, h4⟩ := H.vec hy
  exact ⟨_, n_implEul H.Q h2 h4 h1.sm h3.sm, n_specEul H.Q h2 h4 h1.sm h3.sm⟩
theorem n_rootExt {q : Qv} (hb : bQ q) (x y : List Int) : ∃ z, m_impl_RootExt q x y = some z ∧ m_spec_RootExt q x y = some z := by
  obtain ⟨b1, h1, h2, h3⟩ := n_isRoot hb x
  obtain ⟨b2, k1, k2, k3⟩ := n_isRoot hb y
  unfold m_impl_RootExt m_spec_RootExt
  rw [h1, h2, k1, k2]
  cases b1 with
  | false => exact ⟨-1, rfl, rfl⟩
  | true =>
    cases b2 with
    | false => exact ⟨-1, rfl, rfl⟩
    | true =>
      obtain ⟨n, H, hx⟩ := h3 rfl
      obtain ⟨m, H', hy⟩ := k3 rfl
      obtain ⟨e, e1, e2⟩ := n_rootEul H hx H' hy
      refine ⟨max (wr (-e)) 0, ?_, ?_⟩
      · simp only [Option.bind_some, Bool.not_true, cond_false]
        rw [e1, Option.bind_some]
      · simp only [Option.bind_some, Bool.not_true, cond_false]
        rw [e2, Option.bind_some, Int.max_comm]
theorem n_compat {q : Qv} (hb : bQ q) (x y : List Int) : ∃ z, m_impl_AreCompatible q x y = some z ∧ m_spec_AreCompatible q x y = some z := by
  obtain ⟨a, h1, h2⟩ := n_rootExt hb x y
  obtain ⟨b, k1, k2⟩ := n_rootExt hb y x
  unfold m_impl_AreCompatible m_spec_AreCompatible
  rw [h1, h2, k1, k2]
  by_cases c : a = 0
  · exact ⟨decide (b = 0), by simp [c], by simp [c]⟩
  · exact ⟨false, by simp [c], by simp [c]⟩
noncomputable def rootB (q : Qv) (x : List Int) : Bool := (m_spec_IsRoot q x).getD false
noncomputable def compB (q : Qv) (x y : List Int) : Bool := (m_spec_AreCompatible q x y).getD false
theorem n_rootB {q : Qv} (hb : bQ q) (x : List Int) : m_impl_IsRoot q x = some (rootB q x) ∧ m_spec_IsRoot q x = some (rootB q x) := by
  obtain ⟨b, h1, h2, _⟩ := n_isRoot hb x
  unfold rootB
  rw [h1, h2]
  exact ⟨rfl, rfl⟩
theorem n_compB {q : Qv} (hb : bQ q) (x y : List Int) : m_impl_AreCompatible q x y = some (compB q x y) ∧ m_spec_AreCompatible q x y = some (compB q x y) := by
  obtain ⟨b, h1, h2⟩ := n_compat hb x y
  unfold compB
  rw [h1, h2]
  exact ⟨rfl, rfl⟩
noncomputable def tiltP (q : Qv) (l : List (List Int)) (i : Nat) : Bool := rootB q (l[i]?.getD []) && (List.range i).all fun k => !decide (l[i]?.getD [] = l[k]?.getD []) && compB q (l[i]?.getD []) (l[k]?.getD [])
theorem n_implTilt {q : Qv} (hb : bQ q) {l : List (List Int)} (hl : l.length ≤ 1048576 ∧ ∀ r ∈ l, bI r) : m_impl_IsTilting q l = some (quivV q && (decide ((l.length : Int) = q.n) && (List.range l.length).all (tiltP q l))) := by
  obtain ⟨hl, hr⟩ := hl
  unfold m_impl_IsTilting
  rw [n_implQ hb, Option.bind_some]
  cases quivV q with
  | false => rfl
  | true =>
    rw [Bool.not_true, cond_false, Bool.true_and]
    by_cases c : (l.length : Int) = q.n
    · rw [decide_eq_true c, Bool.not_true, cond_false, Bool.true_and]
      rw [Lp_all (tiltP q l) false (n := l.length) (by omega) (fun i hi => ?_) (fun _ => ?_), Option.bind_some]
      · cases (List.range l.length).all (tiltP q l) <;> rfl
      · unfold m_impl_IsTilting_L1
        rw [dlt hi, cond_true, atG [] hi, Option.bind_some, (n_rootB hb _).1, Option.bind_some]
        unfold tiltP
        cases rootB q (l[i]?.getD []) with
        | false => rfl
        | true =>
          rw [Bool.not_true, cond_false, Bool.true_and, show (decide ((0 : Nat) ≤ 0) && (decide ((0 : Int) ≤ (i : Int)) && decide ((i : Int) ≤ (l.length : Int)))) = true by simp; omega, cond_true]
          have e : (l.drop (0 : Int).toNat).take ((i : Int).toNat - (0 : Int).toNat) = l.take i := by simp
          rw [Lp_all (fun k => !decide (l[i]?.getD [] = l[k]?.getD []) && compB q (l[i]?.getD []) (l[k]?.getD [])) false (n := i) (by omega) (fun k hk => ?_) (fun _ => ?_), Option.bind_some]
          · cases (List.range i).all fun k => !decide (l[i]?.getD [] = l[k]?.getD []) && compB q (l[i]?.getD []) (l[k]?.getD []) <;> rfl
          · unfold m_impl_IsTilting_L2
            rw [e]
            have hlen : (l.take i).length = i := by simp; omega
            have hg : (l.take i)[k]? = l[k]? := List.getElem?_take_of_lt hk
            rw [hlen, dlt hk, cond_true, atG [] (by omega), Option.bind_some, hg, n_SlEqual (hr _ (by rw [List.getElem?_eq_getElem hi]; exact List.getElem_mem hi)), Option.bind_some]
            cases decide (l[i]?.getD [] = l[k]?.getD []) with
            | true => rfl
            | false =>
              rw [cond_false, (n_compB hb _ _).1, Option.bind_some]
              cases compB q (l[i]?.getD []) (l[k]?.getD []) <;> rfl
          · unfold m_impl_IsTilting_L2
            have hlen : (l.take i).length = i := by simp; omega
            rw [e, hlen, dnl (Nat.le_refl _), cond_false]
      · unfold m_impl_IsTilting_L1
        rw [dnl (Nat.le_refl _), cond_false]
    · rw [decide_eq_false c, Bool.not_false, cond_true, Bool.false_and]
theorem n_specTilt {q : Qv} (hb : bQ q) {l : List (List Int)} (hl : l.length ≤ 1048576 ∧ ∀ r ∈ l, bI r) : m_spec_IsTilting q l = some (quivV q && (decide ((l.length : Int) = q.n) && (List.range l.length).all (tiltP q l))) := by
  obtain ⟨hl, hr⟩ := hl
  unfold m_spec_IsTilting
  rw [n_specQ hb, Option.bind_some]
  cases quivV q with
  | false => rfl
  | true =>
    rw [Bool.not_true, cond_false, Bool.true_and]
    by_cases c : (l.length : Int) = q.n
    · rw [decide_eq_true c, Bool.not_true, cond_false, Bool.true_and]
      rw [Lp_all (tiltP q l) false (n := l.length) (by omega) (fun i hi => ?_) (fun _ => ?_), Option.bind_some]
      · cases (List.range l.length).all (tiltP q l) <;> rfl
      · unfold m_spec_IsTilting_L1
        rw [dlt hi, cond_true, atG [] hi, Option.bind_some, (n_rootB hb _).2, Option.bind_some]
        unfold tiltP
        cases rootB q (l[i]?.getD []) with
        | false => rfl
        | true =>
          rw [Bool.not_true, cond_false, Bool.true_and]
          rw [Lp_all (fun k => !decide (l[i]?.getD [] = l[k]?.getD []) && compB q (l[i]?.getD []) (l[k]?.getD [])) false (n := i) (by omega) (fun k hk => ?_) (fun _ => ?_), Option.bind_some]
          · cases (List.range i).all fun k => !decide (l[i]?.getD [] = l[k]?.getD []) && compB q (l[i]?.getD []) (l[k]?.getD []) <;> rfl
          · unfold m_spec_IsTilting_L2
            rw [dlt hk, cond_true, atG [] hi, Option.bind_some, atG [] (by omega), Option.bind_some, n_l6Same (hr _ (by rw [List.getElem?_eq_getElem hi]; exact List.getElem_mem hi)), Option.bind_some]
            cases decide (l[i]?.getD [] = l[k]?.getD []) with
            | true => rfl
            | false =>
              rw [cond_false, Option.bind_some, Option.bind_some, (n_compB hb _ _).2, Option.bind_some]
              cases compB q (l[i]?.getD []) (l[k]?.getD []) <;> rfl
          · unfold m_spec_IsTilting_L2
            rw [dnl (Nat.le_refl _), cond_false]
      · unfold m_spec_IsTilting_L1
        rw [dnl (Nat.le_refl _), cond_false]
    · rw [decide_eq_false c, Bool.not_false, cond_true, Bool.false_and]

/-! ## the laws -/
theorem plain_IsTilting {q : Qv} {l : List (List Int)} (fq : fQ q) (fl : fLs l) : m_laws_FnExactIsTilting q l = some true := by
  unfold m_laws_FnExactIsTilting
  rw [mz_Q fq (by decide) (by decide), Option.bind_some]
  rcases falls_Q q 1048576 (by decide) (by decide) with e | ⟨e1, e2, hb⟩
  · rw [e]; rfl
  · rw [decide_eq_false (by omega), cond_false, mz_Ls fl e1 (by omega), Option.bind_some]
    rcases falls_S falls_Row l _ e1 (by omega) with e | ⟨e3, e4, hl⟩
    · rw [e]; rfl
    · rw [decide_eq_false (by omega), cond_false]
      simp only [mt_Q hb, mt_Ls hl, Option.bind_some, n_specTilt hb hl, n_implTilt hb hl, me_Q hb, me_Ls hl, decide_true, beq_self_eq_true, Bool.not_true, cond_false]
end Go.Proofs.Ytahbimogkgfmdaa
end

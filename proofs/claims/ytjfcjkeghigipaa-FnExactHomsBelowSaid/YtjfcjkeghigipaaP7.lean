/-
  A law's arguments: their lists have lengths that fit.
-/
import Derived.Test.YtjfcjkeghigipaaP2
import Derived.Test.YtjfcjkeghigipaaA19
namespace Go.Proofs.Ytjfcjkeghigipaa
open Go.RowKit
set_option linter.unusedVariables false

theorem rvs_mem {w : World} : ∀ {ds : List AV} {vs : List Value} {S : List Nat}, RepVs w ds vs S → ∀ d ∈ ds, ∃ v S', RepD w d v S'
  | [], _, _, _, d, hd => by cases hd
  | c :: cs, vs, S, h, d, hd => by
    simp only [RepVs] at h
    obtain ⟨v, r, S1, S2, _, _, h3, h4⟩ := h
    rcases List.mem_cons.1 hd with rfl | h'
    · exact ⟨v, S1, h3⟩
    · exact rvs_mem h4 d h'
theorem rcs_mem {w : World} {b : Nat} : ∀ {ds : List AV} {o : Nat} {S : List Nat}, RepCs w b o ds S → ∀ d ∈ ds, ∃ v S', RepD w d v S'
  | [], _, _, _, d, hd => by cases hd
  | c :: cs, o, S, h, d, hd => by
    simp only [RepCs] at h
    obtain ⟨v, S1, S2, _, _, _, _, h3, h4⟩ := h
    rcases List.mem_cons.1 hd with rfl | h'
    · exact ⟨v, S1, h3⟩
    · exact rcs_mem h4 d h'
theorem res_mem {w : World} {k b : Nat} : ∀ {es : List (List AV)} {o : Nat} {S : List Nat}, RepEs w k b o es S → ∀ cs ∈ es, ∀ d ∈ cs, ∃ v S', RepD w d v S'
  | [], _, _, _, cs, hc => by cases hc
  | c :: es, o, S, h, cs, hc => by
    simp only [RepEs] at h
    obtain ⟨S1, S2, _, _, h3, h4⟩ := h
    rcases List.mem_cons.1 hc with rfl | h'
    · exact rcs_mem h3
    · exact res_mem h4 cs h'
theorem rd_list {w : World} {k : Nat} {es : List (List AV)} {v : Value} {S : List Nat} (h : RepD w (.list k es) v S) : es.length ≤ 9223372036854775807 ∧ ∀ cs ∈ es, ∀ d ∈ cs, ∃ v S', RepD w d v S' := by
  unfold RepD at h
  obtain ⟨a, c, _, h2, h3, h4⟩ := h
  have hm : maxLen ≤ 9223372036854775807 := by decide
  refine ⟨by omega, ?_⟩
  rcases h4 with ⟨rfl, _⟩ | ⟨b, o, T, _, _, _, h5⟩
  · intro cs hcs; cases hcs
  · exact res_mem h5
theorem fI_of {w : World} {l : List Int} {v : Value} {S : List Nat} (h : RepD w (ints l) v S) : fI l := by
  have := (rd_list (k := 1) (es := List.map eI l) h).1
  rwa [List.length_map] at this
theorem fI_mem {w : World} {ds : List AV} (h : ∀ d ∈ ds, ∃ v S', RepD w d v S') {l : List Int} (hl : ints l ∈ ds) : fI l := by
  obtain ⟨v, S, h⟩ := h _ hl
  exact fI_of h
theorem list_mem {w : World} {ds : List AV} (h : ∀ d ∈ ds, ∃ v S', RepD w d v S') {α : Type} {k : Nat} {e : α → List AV} {l : List α} (hl : AV.list k (l.map e) ∈ ds) : fI l ∧ ∀ x ∈ l, ∀ d ∈ e x, ∃ v S', RepD w d v S' := by
  obtain ⟨v, S, h⟩ := h _ hl
  have := rd_list h
  rw [List.length_map] at this
  exact ⟨this.1, fun x hx => this.2 _ (List.mem_map.2 ⟨x, hx, rfl⟩)⟩
theorem fQ_of {w : World} {q : Qv} (h : ∀ d ∈ eQ q, ∃ v S', RepD w d v S') : fQ q := ⟨fI_mem h (by simp [eQ]), fI_mem h (by simp [eQ])⟩
theorem fM_of {w : World} {m : Mt} (h : ∀ d ∈ eM m, ∃ v S', RepD w d v S') : fM m := fI_mem h (by simp [eM])
theorem fMs_of {w : World} {l : List Mt} {ds : List AV} (h : ∀ d ∈ ds, ∃ v S', RepD w d v S') (hl : AV.list 3 (l.map eM) ∈ ds) : fMs l := by
  obtain ⟨h1, h2⟩ := list_mem h hl
  exact ⟨h1, fun m hm => fM_of (h2 m hm)⟩
theorem fR_of {w : World} {r : Rp} (h : ∀ d ∈ eR r, ∃ v S', RepD w d v S') : fR r := ⟨⟨fI_mem h (by simp [eR]), fI_mem h (by simp [eR])⟩, fI_mem h (by simp [eR]), fMs_of h (by simp [eR])⟩
theorem fRs_of {w : World} {l : List Rp} {ds : List AV} (h : ∀ d ∈ ds, ∃ v S', RepD w d v S') (hl : AV.list 6 (l.map eR) ∈ ds) : fRs l := by
  obtain ⟨h1, h2⟩ := list_mem h hl
  exact ⟨h1, fun m hm => fR_of (h2 m hm)⟩
theorem ret_true {w0 w : World} {v : Value} {S : List Nat} (h : ResA w (.bl true) v S) : Ending.returned v = .returned (.bool true) := by rw [h.1]
end Go.Proofs.Ytjfcjkeghigipaa

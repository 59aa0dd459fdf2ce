/-
  Abstract values: what a Go value reads as, and on which blocks that reading rests. No program stands in this text.
-/
import Derived.Test.YtpngpgbmkkjjgaaLib
namespace Go.Proofs.Ytpngpgbmkkjjgaa
open Go.RowKit

inductive AV where
  | sc (v : Value)
  | nil (k : Nat)
  | list (k : Nat) (es : List (List AV))
  | abs (k : Nat) (es : List (List AV))
  | ref (cs : List AV)
  | agg (cs : List AV)
  | tuple (vs : List AV)
  | fn (f : FuncId) (caps : List AV)
  | own (b i n : Nat)
  | ptr (b i j : Nat)
  | dead

mutual
/-- Data: the value v reads in the world w as the given thing, and the reading rests on the blocks S. -/
def RepD (w : World) : AV → Value → List Nat → Prop
  | .sc u, v, S => v = u ∧ u.oneCell' = true ∧ S = []
  | .list k es, v, S => ∃ a c, v = .slice a es.length c ∧ es.length ≤ c ∧ c ≤ maxLen ∧
      ((es = [] ∧ S = []) ∨ ∃ b o T, a = some ⟨b, o, none⟩ ∧ b < w.heap.size ∧ S = b :: T ∧ RepEs w k b o es T)
  | .ref cs, v, S => ∃ b o T, v = .pointer (some ⟨b, o, none⟩) ∧ b < w.heap.size ∧ S = b :: T ∧ RepCs w b o cs T
  | .agg cs, v, S => ∃ vs, v = .agg vs.toArray ∧ RepVs w cs vs S
  | .tuple cs, v, S => ∃ vs, v = .tuple vs.toArray ∧ RepVs w cs vs S
  | .fn f caps, v, S => ∃ vs, v = .func (.func f) #[] vs.toArray ∧ RepVs w caps vs S
  | _, _, _ => False
def RepVs (w : World) : List AV → List Value → List Nat → Prop
  | [], vs, S => vs = [] ∧ S = []
  | c :: cs, vs, S => ∃ v r S1 S2, vs = v :: r ∧ S = S1 ++ S2 ∧ RepD w c v S1 ∧ RepVs w cs r S2
def RepCs (w : World) (b : Nat) : Nat → List AV → List Nat → Prop
  | _, [], S => S = []
  | o, c :: cs, S => ∃ v S1 S2, w.cell? ⟨b, o, none⟩ = some v ∧ w.frozen? ⟨b, o, none⟩ = false ∧ v.oneCell' = true ∧ S = S1 ++ S2 ∧ RepD w c v S1 ∧ RepCs w b (o + 1) cs S2
def RepEs (w : World) (k b : Nat) : Nat → List (List AV) → List Nat → Prop
  | _, [], S => S = []
  | o, cs :: es, S => ∃ S1 S2, S = S1 ++ S2 ∧ cs.length = k ∧ RepCs w b o cs S1 ∧ RepEs w k b (o + k) es S2
end

theorem lt_of_heap {w w' : World} {b : Nat} (hb : b < w.heap.size) (h : w'.heap[b]? = w.heap[b]?) : b < w'.heap.size := by
  rcases Nat.lt_or_ge b w'.heap.size with h' | h'
  · exact h'
  · rw [Array.getElem?_eq_none h', Array.getElem?_eq_getElem hb] at h
    cases h

theorem cell_at {w w' : World} {b o : Nat} (h : w'.heap[b]? = w.heap[b]?) : w'.cell? ⟨b, o, none⟩ = w.cell? ⟨b, o, none⟩ := World.cell?_of_block (w := w) (a := ⟨b, o, none⟩) h
theorem frozen_at {w w' : World} {b o : Nat} (h : w'.heap[b]? = w.heap[b]?) : w'.frozen? ⟨b, o, none⟩ = w.frozen? ⟨b, o, none⟩ := World.frozen?_of_block (w := w) (a := ⟨b, o, none⟩) h

mutual
theorem RepD.keep {w w' : World} : ∀ {x : AV} {v : Value} {S : List Nat}, RepD w x v S → (∀ b ∈ S, w'.heap[b]? = w.heap[b]?) → RepD w' x v S
  | .sc _, _, _, h, _ => by simpa only [RepD] using h
  | .list k es, v, S, h, hk => by
    simp only [RepD] at h ⊢
    obtain ⟨a, c, h1, h2, h3, h4⟩ := h
    refine ⟨a, c, h1, h2, h3, ?_⟩
    rcases h4 with h4 | ⟨b, o, T, e1, e2, rfl, e4⟩
    · exact .inl h4
    · have hb := hk b (by simp)
      exact .inr ⟨b, o, T, e1, lt_of_heap e2 hb, rfl, e4.keep hb (fun x hx => hk x (by simp [hx]))⟩
  | .ref cs, v, S, h, hk => by
    simp only [RepD] at h ⊢
    obtain ⟨b, o, T, h1, h2, rfl, h4⟩ := h
    have hb := hk b (by simp)
    exact ⟨b, o, T, h1, lt_of_heap h2 hb, rfl, h4.keep hb (fun x hx => hk x (by simp [hx]))⟩
  | .agg cs, v, S, h, hk => by
    simp only [RepD] at h ⊢
    obtain ⟨vs, h1, h2⟩ := h
    exact ⟨vs, h1, h2.keep hk⟩
  | .tuple cs, v, S, h, hk => by
    simp only [RepD] at h ⊢
    obtain ⟨vs, h1, h2⟩ := h
    exact ⟨vs, h1, h2.keep hk⟩
  | .fn f cs, v, S, h, hk => by
    simp only [RepD] at h ⊢
    obtain ⟨vs, h1, h2⟩ := h
    exact ⟨vs, h1, h2.keep hk⟩
  | .nil _, _, _, h, _ => by simp only [RepD] at h
  | .abs _ _, _, _, h, _ => by simp only [RepD] at h
  | .own _ _ _, _, _, h, _ => by simp only [RepD] at h
  | .ptr _ _ _, _, _, h, _ => by simp only [RepD] at h
  | .dead, _, _, h, _ => by simp only [RepD] at h
theorem RepVs.keep {w w' : World} : ∀ {cs : List AV} {vs : List Value} {S : List Nat}, RepVs w cs vs S → (∀ b ∈ S, w'.heap[b]? = w.heap[b]?) → RepVs w' cs vs S
  | [], _, _, h, _ => by simpa only [RepVs] using h
  | c :: cs, vs, S, h, hk => by
    simp only [RepVs] at h ⊢
    obtain ⟨v, r, S1, S2, h1, rfl, h3, h4⟩ := h
    exact ⟨v, r, S1, S2, h1, rfl, h3.keep (fun x hx => hk x (by simp [hx])), h4.keep (fun x hx => hk x (by simp [hx]))⟩
theorem RepCs.keep {w w' : World} {b : Nat} (hb : w'.heap[b]? = w.heap[b]?) : ∀ {o : Nat} {cs : List AV} {S : List Nat}, RepCs w b o cs S → (∀ b ∈ S, w'.heap[b]? = w.heap[b]?) → RepCs w' b o cs S
  | _, [], _, h, _ => by simpa only [RepCs] using h
  | o, c :: cs, S, h, hk => by
    simp only [RepCs] at h ⊢
    obtain ⟨v, S1, S2, h1, h2, h3, rfl, h5, h6⟩ := h
    exact ⟨v, S1, S2, (cell_at hb).trans h1, (frozen_at hb).trans h2, h3, rfl, h5.keep (fun x hx => hk x (by simp [hx])), h6.keep hb (fun x hx => hk x (by simp [hx]))⟩
theorem RepEs.keep {w w' : World} {k b : Nat} (hb : w'.heap[b]? = w.heap[b]?) : ∀ {o : Nat} {es : List (List AV)} {S : List Nat}, RepEs w k b o es S → (∀ b ∈ S, w'.heap[b]? = w.heap[b]?) → RepEs w' k b o es S
  | _, [], _, h, _ => by simpa only [RepEs] using h
  | o, cs :: es, S, h, hk => by
    simp only [RepEs] at h ⊢
    obtain ⟨S1, S2, rfl, h2, h3, h4⟩ := h
    exact ⟨S1, S2, rfl, h2, h3.keep hb (fun x hx => hk x (by simp [hx])), h4.keep hb (fun x hx => hk x (by simp [hx]))⟩
end

mutual
theorem RepD.lt {w : World} : ∀ {x : AV} {v : Value} {S : List Nat}, RepD w x v S → ∀ b ∈ S, b < w.heap.size
  | .sc _, _, _, h => by simp only [RepD] at h; simp [h.2.2]
  | .list k es, v, S, h => by
    simp only [RepD] at h
    obtain ⟨a, c, h1, h2, h3, h4⟩ := h
    rcases h4 with h4 | ⟨b, o, T, e1, e2, rfl, e4⟩
    · simp [h4.2]
    · intro x hx
      rcases List.mem_cons.1 hx with rfl | h
      · exact e2
      · exact e4.lt x h
  | .ref cs, v, S, h => by
    simp only [RepD] at h
    obtain ⟨b, o, T, h1, h2, rfl, h4⟩ := h
    intro x hx
    rcases List.mem_cons.1 hx with rfl | h
    · exact h2
    · exact h4.lt x h
  | .agg cs, v, S, h => by
    simp only [RepD] at h
    obtain ⟨vs, h1, h2⟩ := h
    exact h2.lt
  | .tuple cs, v, S, h => by
    simp only [RepD] at h
    obtain ⟨vs, h1, h2⟩ := h
    exact h2.lt
  | .fn f cs, v, S, h => by
    simp only [RepD] at h
    obtain ⟨vs, h1, h2⟩ := h
    exact h2.lt
  | .nil _, _, _, h => by simp only [RepD] at h
  | .abs _ _, _, _, h => by simp only [RepD] at h
  | .own _ _ _, _, _, h => by simp only [RepD] at h
  | .ptr _ _ _, _, _, h => by simp only [RepD] at h
  | .dead, _, _, h => by simp only [RepD] at h
theorem RepVs.lt {w : World} : ∀ {cs : List AV} {vs : List Value} {S : List Nat}, RepVs w cs vs S → ∀ b ∈ S, b < w.heap.size
  | [], _, _, h => by simp only [RepVs] at h; simp [h.2]
  | c :: cs, vs, S, h => by
    simp only [RepVs] at h
    obtain ⟨v, r, S1, S2, h1, rfl, h3, h4⟩ := h
    intro x hx
    rcases List.mem_append.1 hx with h | h
    · exact h3.lt x h
    · exact h4.lt x h
theorem RepCs.lt {w : World} {b : Nat} : ∀ {o : Nat} {cs : List AV} {S : List Nat}, RepCs w b o cs S → ∀ b ∈ S, b < w.heap.size
  | _, [], _, h => by simp only [RepCs] at h; simp [h]
  | o, c :: cs, S, h => by
    simp only [RepCs] at h
    obtain ⟨v, S1, S2, h1, h2, h3, rfl, h5, h6⟩ := h
    intro x hx
    rcases List.mem_append.1 hx with h | h
    · exact h5.lt x h
    · exact h6.lt x h
theorem RepEs.lt {w : World} {k b : Nat} : ∀ {o : Nat} {es : List (List AV)} {S : List Nat}, RepEs w k b o es S → ∀ b ∈ S, b < w.heap.size
  | _, [], _, h => by simp only [RepEs] at h; simp [h]
  | o, cs :: es, S, h => by
    simp only [RepEs] at h
    obtain ⟨S1, S2, rfl, h2, h3, h4⟩ := h
    intro x hx
    rcases List.mem_append.1 hx with h | h
    · exact h3.lt x h
    · exact h4.lt x h
end

theorem RepD.below {w w' : World} {x : AV} {v : Value} {S : List Nat} (h : RepD w x v S) (hb : Below w.heap.size w w') : RepD w' x v S := h.keep (fun b hm => hb.block b (h.lt b hm))

/-- The element at an index. -/
theorem RepEs.at {w : World} {k b : Nat} : ∀ {o : Nat} {es : List (List AV)} {S : List Nat}, RepEs w k b o es S → ∀ {i : Nat} {cs : List AV}, es[i]? = some cs → cs.length = k ∧ ∃ T, RepCs w b (o + i * k) cs T ∧ ∀ x ∈ T, x ∈ S
  | _, [], _, _, i, cs, hi => by simp at hi
  | o, c :: es, S, h, 0, cs, hi => by
    simp only [RepEs] at h
    obtain ⟨S1, S2, rfl, h2, h3, h4⟩ := h
    simp at hi; subst hi
    exact ⟨h2, S1, by rw [Nat.zero_mul, Nat.add_zero]; exact h3, fun x hx => by simp [hx]⟩
  | o, c :: es, S, h, i + 1, cs, hi => by
    simp only [RepEs] at h
    obtain ⟨S1, S2, rfl, h2, h3, h4⟩ := h
    obtain ⟨h5, T, h6, h7⟩ := h4.at (i := i) (cs := cs) (by simpa using hi)
    exact ⟨h5, T, by rw [show o + (i + 1) * k = o + k + i * k by rw [Nat.add_mul]; omega]; exact h6, fun x hx => by simp [h7 x hx]⟩
theorem RepCs.drop {w : World} {b : Nat} : ∀ {o : Nat} {cs : List AV} {S : List Nat} (n : Nat), RepCs w b o cs S → ∃ T, RepCs w b (o + n) (cs.drop n) T ∧ ∀ x ∈ T, x ∈ S
  | o, cs, S, 0, h => ⟨S, h, fun _ hx => hx⟩
  | o, [], S, n + 1, h => by simp only [RepCs, List.drop_nil] at h ⊢; exact ⟨[], rfl, by simp⟩
  | o, c :: cs, S, n + 1, h => by
    simp only [RepCs] at h
    obtain ⟨v, S1, S2, h1, h2, h3, rfl, h5, h6⟩ := h
    obtain ⟨T, h7, h8⟩ := h6.drop n
    exact ⟨T, by rw [show o + (n + 1) = o + 1 + n by omega]; exact h7, fun x hx => by simp [h8 x hx]⟩
/-- The cells from o on hold values that read as the list. -/
theorem RepCs.vals {w : World} {b : Nat} : ∀ {o : Nat} {cs : List AV} {S : List Nat}, RepCs w b o cs S → ∃ vs, RepVs w cs vs S ∧ vs.length = cs.length ∧ (∀ u ∈ vs, u.oneCell' = true) ∧ ∀ j u, vs[j]? = some u → w.cell? ⟨b, o + j, none⟩ = some u ∧ w.frozen? ⟨b, o + j, none⟩ = false
  | _, [], S, h => by simp only [RepCs] at h; exact ⟨[], by simp [RepVs, h], rfl, by simp, by simp⟩
  | o, c :: cs, S, h => by
    simp only [RepCs] at h
    obtain ⟨v, S1, S2, h1, h2, h3, rfl, h5, h6⟩ := h
    obtain ⟨vs, e1, e2, e3, e4⟩ := h6.vals
    refine ⟨v :: vs, by simp only [RepVs]; exact ⟨v, vs, S1, S2, rfl, rfl, h5, e1⟩, by simp [e2], ?_, ?_⟩
    · intro u hu
      rcases List.mem_cons.1 hu with rfl | h
      · exact h3
      · exact e3 u h
    · intro j u hu
      cases j with
      | zero => simp at hu; subst hu; exact ⟨h1, h2⟩
      | succ j =>
        have := e4 j u (by simpa using hu)
        rw [show o + (j + 1) = o + 1 + j by omega]
        exact this
theorem RepVs.cells {w : World} {b : Nat} : ∀ {o : Nat} {cs : List AV} {vs : List Value} {S : List Nat}, RepVs w cs vs S → (∀ u ∈ vs, u.oneCell' = true) → (∀ j u, vs[j]? = some u → w.cell? ⟨b, o + j, none⟩ = some u ∧ w.frozen? ⟨b, o + j, none⟩ = false) → RepCs w b o cs S
  | _, [], _, _, h, _, _ => by simp only [RepVs] at h; simp [RepCs, h.2]
  | o, c :: cs, vs, S, h, h1, hc => by
    simp only [RepVs] at h
    obtain ⟨v, r, S1, S2, rfl, rfl, h3, h4⟩ := h
    simp only [RepCs]
    refine ⟨v, S1, S2, (hc 0 v rfl).1, (hc 0 v rfl).2, h1 v (by simp), rfl, h3, h4.cells (fun u hu => h1 u (by simp [hu])) (fun j u hu => ?_)⟩
    have := hc (j + 1) u (by simpa using hu)
    rw [show o + (j + 1) = o + 1 + j by omega] at this
    exact this
theorem RepVs.len {w : World} : ∀ {cs : List AV} {vs : List Value} {S : List Nat}, RepVs w cs vs S → vs.length = cs.length
  | [], _, _, h => by simp only [RepVs] at h; simp [h.1]
  | c :: cs, vs, S, h => by
    simp only [RepVs] at h
    obtain ⟨v, r, S1, S2, rfl, rfl, h3, h4⟩ := h
    simp [h4.len]
theorem RepVs.take {w : World} : ∀ {cs : List AV} {vs : List Value} {S : List Nat} (n : Nat), RepVs w cs vs S → ∃ T, RepVs w (cs.take n) (vs.take n) T ∧ ∀ x ∈ T, x ∈ S
  | cs, vs, S, 0, h => ⟨[], by simp [RepVs], by simp⟩
  | [], vs, S, n + 1, h => by simp only [RepVs] at h; exact ⟨[], by simp [RepVs, h.1], by simp⟩
  | c :: cs, vs, S, n + 1, h => by
    simp only [RepVs] at h
    obtain ⟨v, r, S1, S2, rfl, rfl, h3, h4⟩ := h
    obtain ⟨T, e1, e2⟩ := h4.take n
    refine ⟨S1 ++ T, by simp only [List.take_succ_cons, RepVs]; exact ⟨v, _, S1, T, rfl, rfl, h3, e1⟩, ?_⟩
    intro x hx
    rcases List.mem_append.1 hx with h | h
    · simp [h]
    · simp [e2 x h]

def All2 {α β : Type} (R : α → β → Prop) : List α → List β → Prop
  | [], vs => vs = []
  | c :: cs, vs => ∃ v r, vs = v :: r ∧ R c v ∧ All2 R cs r
theorem All2.len {α β : Type} {R : α → β → Prop} : ∀ {cs : List α} {vs : List β}, All2 R cs vs → vs.length = cs.length
  | [], _, h => by simp only [All2] at h; simp [h]
  | c :: cs, vs, h => by simp only [All2] at h; obtain ⟨v, r, rfl, _, h2⟩ := h; simp [h2.len]
theorem All2.mono {α β : Type} {R R' : α → β → Prop} (hr : ∀ x v, R x v → R' x v) : ∀ {cs : List α} {vs : List β}, All2 R cs vs → All2 R' cs vs
  | [], _, h => by simpa only [All2] using h
  | c :: cs, vs, h => by simp only [All2] at h ⊢; obtain ⟨v, r, rfl, h1, h2⟩ := h; exact ⟨v, r, rfl, hr _ _ h1, h2.mono hr⟩
theorem All2.append {α β : Type} {R : α → β → Prop} : ∀ {cs ds : List α} {vs us : List β}, All2 R cs vs → All2 R ds us → All2 R (cs ++ ds) (vs ++ us)
  | [], ds, vs, us, h, g => by simp only [All2] at h; subst h; simpa using g
  | c :: cs, ds, vs, us, h, g => by
    simp only [All2] at h
    obtain ⟨v, r, rfl, h1, h2⟩ := h
    simp only [List.cons_append, All2]
    exact ⟨v, _, rfl, h1, h2.append g⟩
theorem All2.get {α β : Type} {R : α → β → Prop} : ∀ {cs : List α} {vs : List β}, All2 R cs vs → ∀ {i : Nat} {x : α}, cs[i]? = some x → ∃ v, vs[i]? = some v ∧ R x v
  | [], _, _, i, x, hi => by simp at hi
  | c :: cs, vs, h, 0, x, hi => by
    simp only [All2] at h
    obtain ⟨v, r, rfl, h1, h2⟩ := h
    simp at hi; subst hi
    exact ⟨v, rfl, h1⟩
  | c :: cs, vs, h, i + 1, x, hi => by
    simp only [All2] at h
    obtain ⟨v, r, rfl, h1, h2⟩ := h
    simpa using h2.get (i := i) (x := x) (by simpa using hi)
theorem All2.drop {α β : Type} {R : α → β → Prop} : ∀ {cs : List α} {vs : List β} (n : Nat), All2 R cs vs → All2 R (cs.drop n) (vs.drop n)
  | cs, vs, 0, h => h
  | [], vs, n + 1, h => by simp only [All2] at h; simp [h, All2]
  | c :: cs, vs, n + 1, h => by
    simp only [All2] at h
    obtain ⟨v, r, rfl, h1, h2⟩ := h
    simpa using h2.drop n
theorem All2.take {α β : Type} {R : α → β → Prop} : ∀ {cs : List α} {vs : List β} (n : Nat), All2 R cs vs → All2 R (cs.take n) (vs.take n)
  | cs, vs, 0, h => by simp [All2]
  | [], vs, n + 1, h => by simp only [All2] at h; simp [h, All2]
  | c :: cs, vs, n + 1, h => by
    simp only [All2] at h
    obtain ⟨v, r, rfl, h1, h2⟩ := h
    simp only [List.take_succ_cons, All2]
    exact ⟨v, _, rfl, h1, h2.take n⟩
end Go.Proofs.Ytpngpgbmkkjjgaa

/-
  Abstract values: what a Go value reads as, and on which blocks that reading rests. No program stands in this text.
-/
import Derived.Test.YtjfcjkeghigipaaLib
namespace Go.Proofs.Ytjfcjkeghigipaa
open Go.RowKit

inductive AV where
  | sc (v : Value)
  | nil (k : Nat)
  | list (k : Nat) (es : List (List AV))
  | abs (k : Nat) (es : List (List AV))
  | ref (cs : List AV)
  | agg (cs : List AV)
  | tuple (vs : List AV)
  | fn (f : FuncId) (caps : List AV)
  | own (b i n : Nat)
  | ptr (b i j : Nat)
  | dead

mutual
/-- Data: the value v reads in the world w as the given thing, and the reading rests on the blocks S. -/
def RepD (w : World) : AV → Value → List Nat → Prop
  | .sc u, v, S => v = u ∧ u.oneCell' = true ∧ S = []
  | .list k es, v, S => ∃ a c, v = .slice a es.length c ∧ es.length ≤ c ∧ c ≤ maxLen ∧
      ((es = [] ∧ S = []) ∨ ∃ b o T, a = some ⟨b, o, none⟩ ∧ b < w.heap.size ∧ S = b :: T ∧ RepEs w k b o es T)
  | .ref cs, v, S => ∃ b o T, v = .pointer (some ⟨b, o, none⟩) ∧ b < w.heap.size ∧ S = b :: T ∧ RepCs w b o cs T
  | .agg cs, v, S => ∃ vs, v = .agg vs.toArray ∧ RepVs w cs vs S
  | .tuple cs, v, S => ∃ vs, v = .tuple vs.toArray ∧ RepVs w cs vs S
  | .fn f caps, v, S => ∃ vs, v = .func (.func f) #[] vs.toArray ∧ RepVs w caps vs S
  | _, _, _ => False
def RepVs (w : World) : List AV → List Value → List Nat → Prop
  | [], vs, S => vs = [] ∧ S = []
  | c :: cs, vs, S => ∃ v r S1 S2, vs = v :: r ∧ S = S1 ++ S2 ∧ RepD w c v S1 ∧ RepVs w cs r S2
def RepCs (w : World) (b : Nat) : Nat → List AV → List Nat → Prop
  | _, [], S => S = []
  | o, c :: cs, S => ∃ v S1 S2, w.cell? ⟨b, o, none⟩ = some v ∧ w.frozen? ⟨b, o, none⟩ = false ∧ v.oneCell' = true ∧ S = S1 ++ S2 ∧ RepD w c v S1 ∧ RepCs w b (o + 1) cs S2
def RepEs (w : World) (k b : Nat) : Nat → List (List AV) → List Nat → Prop
  | _, [], S => S = []
  | o, cs :: es, S => ∃ S1 S2, S = S1 ++ S2 ∧ cs.length = k ∧ RepCs w b o cs S1 ∧ RepEs w k b (o + k) es S2
end

theorem lt_of_heap {w w' : World} {b : Nat} (hb : b < w.heap.size) (h : w'.heap[b]? = w.heap[b]?) : b < w'.heap.size := by
  rcases Nat.lt_or_ge b w'.heap.size with h' | h'
  · exact h'
  · rw [Array.getElem?_eq_none h', Array.getElem?_eq_getElem hb] at h
    cases h

theorem cell_at {w w' : World} {b o : Nat} (h : w'.heap[b]? = w.heap[b]?) : w'.cell? ⟨b, o, none⟩ = w.cell? ⟨b, o, none⟩ := World.cell?_of_block (w := w) (a := ⟨b, o, none⟩) h
theorem frozen_at {w w' : World} {b o : Nat} (h : w'.heap[b]? = w.heap[b]?) : w'.frozen? ⟨b, o, none⟩ = w.frozen? ⟨b, o, none⟩ := World.frozen?_of_block (w := w) (a := ⟨b, o, none⟩) h

mutual
theorem RepD.keep {w w' : World} : ∀ {x : AV} {v : Value} {S : List Nat}, RepD w x v S → (∀ b ∈ S, w'.heap[b]? = w.heap[b]?) → RepD w' x v S
  | .sc _, _, _, h, _ => by simpa only [RepD] using h
  | .list k es, v, S, h, hk => by
    simp only [RepD] at h ⊢
    obtain ⟨a, c, h1, h2, h3, h4⟩ := h
    refine ⟨a, c, h1, h2, h3, ?_⟩
    rcases h4 with h4 | ⟨b, o, T, e1, e2, rfl, e4⟩
    · exact .inl h4
    · have hb := hk b (by simp)
      exact .inr ⟨b, o, T, e1, lt_of_heap e2 hb, rfl, e4.keep hb (fun x hx => hk x (by simp [hx]))⟩
  | .ref cs, v, S, h, hk => by
    simp only [RepD] at h ⊢
    obtain ⟨b, o, T, h1, h2, rfl, h4⟩ := h
    have hb := hk b (by simp)
    exact ⟨b, o, T, h1, lt_of_heap h2 hb, rfl, h4.keep hb (fun x hx => hk x (by simp [hx]))⟩
  | .agg cs, v, S, h, hk => by
    simp only [RepD] at h ⊢
    obtain ⟨vs, h1, h2⟩ := h
    exact ⟨vs, h1, h2.keep hk⟩
  | .tuple cs, v, S, h, hk => by
    simp only [RepD] at h ⊢
    obtain ⟨vs, h1, h2⟩ := h
    exact ⟨vs, h1, h2.keep hk⟩
  | .fn f cs, v, S, h, hk => by
    simp only [RepD] at h ⊢
    obtain ⟨vs, h1, h2⟩ := h
    exact ⟨vs, h1, h2.keep hk⟩
  | .nil _, _, _, h, _ => by simp only [RepD] at h
  | .abs _ _, _, _, h, _ => by simp only [RepD] at h
  | .own _ _ _, _, _, h, _ => by simp only [RepD] at h
  | .ptr _ _ _, _, _, h, _ => by simp only [RepD] at h
  | .dead, _, _, h, _ => by simp only [RepD] at h
theorem RepVs.keep {w w' : World} : ∀ {cs : List AV} {vs : List Value} {S : List Nat}, RepVs w cs vs S → (∀ b ∈ S, w'.heap[b]? = w.heap[b]?) → RepVs w' cs vs S
  | [], _, _, h, _ => by simpa only [RepVs] using h
  | c :: cs, vs, S, h, hk => by
    simp only [RepVs] at h ⊢
    obtain ⟨v, r, S1, S2, h1, rfl, h3, h4⟩ := h
    exact ⟨v, r, S1, S2, h1, rfl, h3.keep (fun x hx => hk x (by simp [hx])), h4.keep (fun x hx => hk x (by simp [hx]))⟩
theorem RepCs.keep {w w' : World} {b : Nat} (hb : w'.heap[b]? = w.heap[b]?) : ∀ {o : Nat} {cs : List AV} {S : List Nat}, RepCs w b o cs S → (∀ b ∈ S, w'.heap[b]? = w.heap[b]?) → RepCs w' b o cs S
  | _, [], _, h, _ => by simpa only [RepCs] using h
  | o, c :: cs, S, h, hk => by
    simp only [RepCs] at h ⊢
    obtain ⟨v, S1, S2, h1, h2, h3, rfl, h5, h6⟩ := h
    exact ⟨v, S1, S2, (cell_at hb).trans h1, (frozen_at hb).trans h2, h3, rfl, h5.keep (fun x hx => hk x (by simp [hx])), h6.keep hb (fun x hx => hk x (by simp [hx]))⟩
theorem RepEs.keep {w w' : World} {k b : Nat} (hb : w'.heap[b]? = w.heap[b]?) : ∀ {o : Nat} {es : List (List AV)} {S : List Nat}, RepEs w k b o es S → (∀ b ∈ S, w'.heap[b]? = w.heap[b]?) → RepEs w' k b o es S
  | _, [], _, h, _ => by simpa only [RepEs] using h
  | o, cs :: es, S, h, hk => by
    simp only [RepEs] at h ⊢
    obtain ⟨S1, S2, rfl, h2, h3, h4⟩ := h
    exact ⟨S1, S2, rfl, h2, h3.keep hb (fun x hx => hk x (by simp [hx])), h4.keep hb (fun x hx => hk x (by simp [hx]))⟩
end

mutual
theorem RepD.lt {w : World} : ∀ {x : AV} {v : Value} {S : List Nat}, RepD w x v S → ∀ b ∈ S, b < w.heap.size
  | .sc _, _, _, h => by simp only [RepD] at h; simp [h.2.2]
  | .list k es, v, S, h => by
    simp only [RepD] at h
    obtain ⟨a, c, h1, h2, h3, h4⟩ := h
    rcases h4 with h4 | ⟨b, o, T, e1, e2, rfl, e4⟩
    · simp [h4.2]
    · intro x hx
      rcases List.mem_cons.1 hx with rfl | h
      · exact e2
      · exact e4.lt x h
  | .ref cs, v, S, h => by
    simp only [RepD] at h
    obtain ⟨b, o, T, h1, h2, rfl, h4⟩ := h
    intro x hx
    rcases List.mem_cons.1 hx with rfl | h
    · exact h2
    · exact h4.lt x h
  | .agg cs, v, S, h => by
    simp only [RepD] at h
    obtain ⟨vs, h1, h2⟩ := h
    exact h2.lt
  | .tuple cs, v, S, h => by
    simp only [RepD] at h
    obtain ⟨vs, h1, h2⟩ := h
    exact h2.lt
  | .fn f cs, v, S, h => by
    simp only [RepD] at h
    obtain ⟨vs, h1, h2⟩ := h
    exact h2.lt
  | .nil _, _, _, h => by simp only [RepD] at h
  | .abs _ _, _, _, h => by simp only [RepD] at h
  | .own _ _ _, _, _, h => by simp only [RepD] at h
  | .ptr _ _ _, _, _, h => by simp only [RepD] at h
  | .dead, _, _, h => by simp only [RepD] at h
theorem RepVs.lt {w : World} : ∀ {cs : List AV} {vs : List Value} {S : List Nat}, RepVs w cs vs S → ∀ b ∈ S, b < w.heap.size
  | [], _, _, h => by simp only [RepVs] at h; simp [h.2]
  | c :: cs, vs, S, h => by
    simp only [RepVs] at h
    obtain ⟨v, r, S1, S2, h1, rfl, h3, h4⟩ := h
    intro x hx
    rcases List.mem_append.1 hx with h | h
    · exact h3.lt x h
    · exact h4.lt x h
theorem RepCs.lt {w : World} {b : Nat} : ∀ {o : Nat} {cs : List AV} {S : List Nat}, RepCs w b o cs S → ∀ b ∈ S, b < w.heap.size
  | _, [], _, h => by simp only [RepCs] at h; simp [h]
  | o, c :: cs, S, h => by
    simp only [RepCs] at h
    obtain ⟨v, S1, S2, h1, h2, h3, rfl, h5, h6⟩ := h
    intro x hx
    rcases List.mem_append.1 hx with h | h
    · exact h5.lt x h
    · exact h6.lt x h
theorem RepEs.lt {w : World} {k b : Nat} : ∀ {o : Nat} {es : List (List AV)} {S : List Nat}, RepEs w k b o es S → ∀ b ∈ S, b < w.heap.size
  | _, [], _, h => by simp only [RepEs] at h; simp [h]
  | o, cs :: es, S, h => by
    simp only [RepEs] at h
    obtain ⟨S1, S2, rfl, h2, h3, h4⟩ := h
    intro x hx
    rcases List.mem_append.1 hx with h | h
    · exact h3.lt x h
    · exact h4.lt x h
end

theorem RepD.below {w w' : World} {x : AV} {v : Value} {S : List Nat} (h : RepD w x v S) (hb : Below w.heap.size w w') : RepD w' x v S := h.keep (fun b hm => hb.block b (h.lt b hm))

/-- The element at an index. -/
theorem RepEs.at {w : World} {k b : Nat} : ∀ {o : Nat} {es : List (List AV)} {S : List Nat}, RepEs w k b o es S → ∀ {i : Nat} {cs : List AV}, es[i]? = some cs → cs.length = k ∧ ∃ T, RepCs w b (o + i * k) cs T ∧ ∀ x ∈ T, x ∈ S
  | _, [], _, _, i, cs, hi => by simp at hi
  | o, c :: es, S, h, 0, cs, hi => by
    simp only [RepEs] at h
    obtain ⟨S1, S2, rfl, h2, h3, h4⟩ := h
    simp at hi; subst hi
    exact ⟨h2, S1, by rw [Nat.zero_mul, Nat.add_zero]; exact h3, fun x hx => by simp [hx]⟩
  | o, c :: es, S, h, i + 1, cs, hi => by
    simp only [RepEs] at h
    obtain ⟨S1, S2, rfl, h2, h3, h4⟩ := h
    obtain ⟨h5, T, h6, h7⟩ := h4.at (i := i) (cs := cs) (by simpa using hi)
    exact ⟨h5, T, by rw [show o + (i + 1) * k = o + k + i * k by rw [Nat.add_mul]; omega]; exact h6, fun x hx => by simp [h7 x hx]⟩
theorem RepCs.drop {w : World} {b : Nat} : ∀ {o : Nat} {cs : List AV} {S : List Nat} (n : Nat), RepCs w b o cs S → ∃ T, RepCs w b (o + n) (cs.drop n) T ∧ ∀ x ∈ T, x ∈ S
  | o, cs, S, 0, h => ⟨S, h, fun _ hx => hx⟩
  | o, [], S, n + 1, h => by simp only [RepCs, List.drop_nil] at h ⊢; exact ⟨[], rfl, by simp⟩
  | o, c :: cs, S, n + 1, h => by
    simp only [RepCs] at h
    obtain ⟨v, S1, S2, h1, h2, h3, rfl, h5, h6⟩ := h
    obtain ⟨T, h7, h8⟩ := h6.drop n
    exact ⟨T, by rw [show o + (n + 1) = o + 1 + n by omega]; exact h7, fun x hx => by simp [h8 x hx]⟩
/-- The cells from o on hold values that read as the list. -/
theorem RepCs.vals {w : World} {b : Nat} : ∀ {o : Nat} {cs : List AV} {S : List Nat}, RepCs w b o cs S → ∃ vs, RepVs w cs vs S ∧ vs.length = cs.length ∧ (∀ u ∈ vs, u.oneCell' = true) ∧ ∀ j u, vs[j]? = some u → w.cell? ⟨b, o + j, none⟩ = some u ∧ w.frozen? ⟨b, o + j, none⟩ = false
  | _, [], S, h => by simp only [RepCs] at h; exact ⟨[], by simp [RepVs, h], rfl, by simp, by simp⟩
  | o, c :: cs, S, h => by
    simp only [RepCs] at h
    obtain ⟨v, S1, S2, h1, h2, h3, rfl, h5, h6⟩ := h
    obtain ⟨vs, e1, e2, e3, e4⟩ := h6.vals
    refine ⟨v :: vs, by simp only [RepVs]; exact ⟨v, vs, S1, S2, rfl, rfl, h5, e1⟩, by simp [e2], ?_, ?_⟩
    · intro u hu
      rcases List.mem_cons.1 hu with rfl | h
      · exact h3
      · exact e3 u h
    · intro j u hu
      cases j with
      | zero => simp at hu; subst hu; exact ⟨h1, h2⟩
      | succ j =>
        have := e4 j u (by simpa using hu)
        rw [show o + (j + 1) = o + 1 + j by omega]
        exact this
theorem RepVs.cells {w : World} {b : Nat} : ∀ {o : Nat} {cs : List AV} {vs : List Value} {S : List Nat}, RepVs w cs vs S → (∀ u ∈ vs, u.oneCell' = true) → (∀ j u, vs[j]? = some u → w.cell? ⟨b, o + j, none⟩ = some u ∧ w.frozen? ⟨b, o + j, none⟩ = false) → RepCs w b o cs S
  | _, [], _, _, h, _, _ => by simp only [RepVs] at h; simp [RepCs, h.2]
  | o, c :: cs, vs, S, h, h1, hc => by
    simp only [RepVs] at h
    obtain ⟨v, r, S1, S2, rfl, rfl, h3, h4⟩ := h
    simp only [RepCs]
    refine ⟨v, S1, S2, (hc 0 v rfl).1, (hc 0 v rfl).2, h1 v (by simp), rfl, h3, h4.cells (fun u hu => h1 u (by simp [hu])) (fun j u hu => ?_)⟩
    have := hc (j + 1) u (by simpa using hu)
    rw [show o + (j + 1) = o + 1 + j by omega] at this
    exact this
theorem RepVs.len {w : World} : ∀ {cs : List AV} {vs : List Value} {S : List Nat}, RepVs w cs vs S → vs.length = cs.length
  | [], _, _, h => by simp only [RepVs] at h; simp [h.1]
  | c :: cs, vs, S, h => by
    simp only [RepVs] at h
    obtain ⟨v, r, S1, S2, rfl, rfl, h3, h4⟩ := h
    simp [h4.len]
theorem RepVs.take {w : World} : ∀ {cs : List AV} {vs : List Value} {S : List Nat} (n : Nat), RepVs w cs vs S → ∃ T, RepVs w (cs.take n) (vs.take n) T ∧ ∀ x ∈ T, x ∈ S
  | cs, vs, S, 0, h => ⟨[], by simp [RepVs], by simp⟩
  | [], vs, S, n + 1, h => by simp only [RepVs] at h; exact ⟨[], by simp [RepVs, h.1], by simp⟩
  | c :: cs, vs, S, n + 1, h => by
    simp only [RepVs] at h
    obtain ⟨v, r, S1, S2, rfl, rfl, h3, h4⟩ := h
    obtain ⟨T, e1, e2⟩ := h4.take n
    refine ⟨S1 ++ T, by simp only [List.take_succ_cons, RepVs]; exact ⟨v, _, S1, T, rfl, rfl, h3, e1⟩, ?_⟩
    intro x hx
    rcases List.mem_append.1 hx with h | h
    · simp [h]
    · simp [e2 x h]

def All2 {α β : Type} (R : α → β → Prop) : List α → List β → Prop
  | [], vs => vs = []
  | c :: cs, vs => ∃ v r, vs = v :: r ∧ R c v ∧ All2 R cs r
theorem All2.len {α β : Type} {R : α → β → Prop} : ∀ {cs : List α} {vs : List β}, All2 R cs vs → vs.length = cs.length
  | [], _, h => by simp only [All2] at h; simp [h]
  | c :: cs, vs, h => by simp only [All2] at h; obtain ⟨v, r, rfl, _, h2⟩ := h; simp [h2.len]
theorem All2.mono {α β : Type} {R R' : α → β → Prop} (hr : ∀ x v, R x v → R' x v) : ∀ {cs : List α} {vs : List β}, All2 R cs vs → All2 R' cs vs
  | [], _, h => by simpa only [All2] using h
  | c :: cs, vs, h => by simp only [All2] at h ⊢; obtain ⟨v, r, rfl, h1, h2⟩ := h; exact ⟨v, r, rfl, hr _ _ h1, h2.mono hr⟩
theorem All2.append {α β : Type} {R : α → β → Prop} : ∀ {cs ds : List α} {vs us : List β}, All2 R cs vs → All2 R ds us → All2 R (cs ++ ds) (vs ++ us)
  | [], ds, vs, us, h, g => by simp only [All2] at h; subst h; simpa using g
  | c :: cs, ds, vs, us, h, g => by
    simp only [All2] at h
    obtain ⟨v, r, rfl, h1, h2⟩ := h
    simp only [List.cons_append, All2]
    exact ⟨v, _, rfl, h1, h2.append g⟩
theorem All2.get {α β : Type} {R : α → β → Prop} : ∀ {cs : List α} {vs : List β}, All2 R cs vs → ∀ {i : Nat} {x : α}, cs[i]? = some x → ∃ v, vs[i]? = some v ∧ R x v
  | [], _, _, i, x, hi => by simp at hi
  | c :: cs, vs, h, 0, x, hi => by
    simp only [All2] at h
    obtain ⟨v, r, rfl, h1, h2⟩ := h
    simp at hi; subst hi
    exact ⟨v, rfl, h1⟩
  | c :: cs, vs, h, i + 1, x, hi => by
    simp only [All2] at h
    obtain ⟨v, r, rfl, h1, h2⟩ := h
    simpa using h2.get (i := i) (x := x) (by simpa using hi)
theorem All2.drop {α β : Type} {R : α → β → Prop} : ∀ {cs : List α} {vs : List β} (n : Nat), All2 R cs vs → All2 R (cs.drop n) (vs.drop n)
  | cs, vs, 0, h => h
  | [], vs, n + 1, h => by simp only [All2] at h; simp [h, All2]
  | c :: cs, vs, n + 1, h => by
    simp only [All2] at h
    obtain ⟨v, r, rfl, h1, h2⟩ := h
    simpa using h2.drop n
theorem All2.take {α β : Type} {R : α → β → Prop} : ∀ {cs : List α} {vs : List β} (n : Nat), All2 R cs vs → All2 R (cs.take n) (vs.take n)
  | cs, vs, 0, h => by simp [All2]
  | [], vs, n + 1, h => by simp only [All2] at h; simp [h, All2]
  | c :: cs, vs, n + 1, h => by
    simp only [All2] at h
    obtain ⟨v, r, rfl, h1, h2⟩ := h
    simp only [List.take_succ_cons, All2]
    exact ⟨v, _, rfl, h1, h2.take n⟩
theorem RepVs.append1 {w : World} : ∀ {cs ds : List AV} {vs us : List Value} {S T : List Nat}, RepVs w cs vs S → RepVs w ds us T → RepVs w (cs ++ ds) (vs ++ us) (S ++ T)
  | [], ds, vs, us, S, T, h, k => by simp only [RepVs] at h; obtain ⟨rfl, rfl⟩ := h; simpa using k
  | c :: cs, ds, vs, us, S, T, h, k => by
    simp only [RepVs] at h
    obtain ⟨v, r, S1, S2, rfl, rfl, h3, h4⟩ := h
    simp only [List.cons_append, RepVs]
    exact ⟨v, _, S1, S2 ++ T, rfl, by simp, h3, h4.append1 k⟩
theorem RepVs.append_inv {w : World} : ∀ {cs ds : List AV} {vs : List Value} {S : List Nat}, RepVs w (cs ++ ds) vs S → ∃ v1 v2 S1 S2, vs = v1 ++ v2 ∧ S = S1 ++ S2 ∧ v1.length = cs.length ∧ RepVs w cs v1 S1 ∧ RepVs w ds v2 S2
  | [], ds, vs, S, h => ⟨[], vs, [], S, rfl, rfl, rfl, by simp [RepVs], h⟩
  | c :: cs, ds, vs, S, h => by
    simp only [List.cons_append, RepVs] at h
    obtain ⟨v, r, S1, S2, rfl, rfl, h3, h4⟩ := h
    obtain ⟨v1, v2, T1, T2, rfl, rfl, e3, e4, e5⟩ := h4.append_inv
    exact ⟨v :: v1, v2, S1 ++ T1, T2, rfl, by simp, by simp [e3], by simp only [RepVs]; exact ⟨v, v1, S1, T1, rfl, rfl, h3, e4⟩, e5⟩
theorem RepVs.els {w : World} {k b : Nat} : ∀ {es : List (List AV)} {vs : List Value} {S : List Nat} {o : Nat}, RepVs w es.flatten vs S → (∀ c ∈ es, c.length = k) → (∀ v ∈ vs, v.oneCell' = true) → (∀ j u, vs[j]? = some u → w.cell? ⟨b, o + j, none⟩ = some u ∧ w.frozen? ⟨b, o + j, none⟩ = false) → RepEs w k b o es S
  | [], vs, S, o, h, _, _, _ => by simp only [List.flatten_nil, RepVs] at h; simp [RepEs, h.2]
  | c :: es, vs, S, o, h, hk, h1, hc => by
    rw [List.flatten_cons] at h
    obtain ⟨v1, v2, S1, S2, rfl, rfl, e3, e4, e5⟩ := h.append_inv
    have hck := hk c (by simp)
    simp only [RepEs]
    refine ⟨S1, S2, rfl, hck, e4.cells (fun u hu => h1 u (by simp [hu])) (fun j y hy => hc j y ?_), RepVs.els (o := o + k) e5 (fun x hx => hk x (by simp [hx])) (fun u hu => h1 u (by simp [hu])) (fun j y hy => ?_)⟩
    · have hj : j < v1.length := by
        rcases Nat.lt_or_ge j v1.length with h' | h'
        · exact h'
        · rw [List.getElem?_eq_none h'] at hy; cases hy
      rw [List.getElem?_append_left hj]; exact hy
    · have := hc (k + j) y (by rw [List.getElem?_append_right (by omega)]; rw [show k + j - v1.length = j by omega]; exact hy)
      rw [← Nat.add_assoc] at this
      exact this

/-! ## data that own their memory: each list lies in a block of its own, from its beginning -/
mutual
def RepO (w : World) : AV → Value → List Nat → Prop
  | .sc u, v, S => v = u ∧ u.oneCell' = true ∧ S = []
  | .list k es, v, S => (es = [] ∧ v = .slice none 0 0 ∧ S = []) ∨
      ∃ β c arr ty T vs, v = .slice (some ⟨β, 0, none⟩) es.length c ∧ w.heap[β]? = some (.cells arr ty (0, 0)) ∧ arr.size = c * k ∧ es.length ≤ c ∧ c ≤ maxLen ∧ (∀ cs ∈ es, cs.length = k) ∧ S = β :: T ∧ arr.toList.take (es.length * k) = vs ∧ RepOE w es vs T
  | _, _, _ => False
def RepOV (w : World) : List AV → List Value → List Nat → Prop
  | [], vs, S => vs = [] ∧ S = []
  | c :: cs, vs, S => ∃ v r S1 S2, vs = v :: r ∧ S = S1 ++ S2 ∧ v.oneCell' = true ∧ RepO w c v S1 ∧ RepOV w cs r S2
def RepOE (w : World) : List (List AV) → List Value → List Nat → Prop
  | [], vs, S => vs = [] ∧ S = []
  | cs :: es, vs, S => ∃ v1 v2 S1 S2, vs = v1 ++ v2 ∧ S = S1 ++ S2 ∧ RepOV w cs v1 S1 ∧ RepOE w es v2 S2
end
theorem RepOV.append {w : World} : ∀ {cs ds : List AV} {vs us : List Value} {S T : List Nat}, RepOV w cs vs S → RepOV w ds us T → RepOV w (cs ++ ds) (vs ++ us) (S ++ T)
  | [], ds, vs, us, S, T, h, k => by simp only [RepOV] at h; obtain ⟨rfl, rfl⟩ := h; simpa using k
  | c :: cs, ds, vs, us, S, T, h, k => by
    simp only [RepOV] at h
    obtain ⟨v, r, S1, S2, rfl, rfl, h1, h2, h3⟩ := h
    simp only [List.cons_append, RepOV]
    exact ⟨v, _, S1, S2 ++ T, rfl, by simp, h1, h2, h3.append k⟩
theorem RepOV.append_inv {w : World} : ∀ {cs ds : List AV} {vs : List Value} {S : List Nat}, RepOV w (cs ++ ds) vs S → ∃ v1 v2 S1 S2, vs = v1 ++ v2 ∧ S = S1 ++ S2 ∧ v1.length = cs.length ∧ RepOV w cs v1 S1 ∧ RepOV w ds v2 S2
  | [], ds, vs, S, h => ⟨[], vs, [], S, rfl, rfl, rfl, by simp [RepOV], h⟩
  | c :: cs, ds, vs, S, h => by
    simp only [List.cons_append, RepOV] at h
    obtain ⟨v, r, S1, S2, rfl, rfl, h2, h3, h4⟩ := h
    obtain ⟨v1, v2, T1, T2, rfl, rfl, e3, e4, e5⟩ := h4.append_inv
    exact ⟨v :: v1, v2, S1 ++ T1, T2, rfl, by simp, by simp [e3], by simp only [RepOV]; exact ⟨v, v1, S1, T1, rfl, rfl, h2, h3, e4⟩, e5⟩
theorem repOE_flat {w : World} : ∀ {es : List (List AV)} {vs : List Value} {S : List Nat}, RepOE w es vs S ↔ RepOV w es.flatten vs S
  | [], vs, S => by simp only [RepOE, List.flatten_nil, RepOV]
  | c :: es, vs, S => by
    rw [List.flatten_cons]
    simp only [RepOE]
    constructor
    · rintro ⟨v1, v2, S1, S2, rfl, rfl, h1, h2⟩
      exact h1.append (repOE_flat.1 h2)
    · intro h
      obtain ⟨v1, v2, S1, S2, e1, e2, _, e4, e5⟩ := h.append_inv
      exact ⟨v1, v2, S1, S2, e1, e2, e4, repOE_flat.2 e5⟩
mutual
theorem RepO.keep {w w' : World} : ∀ {x : AV} {v : Value} {S : List Nat}, RepO w x v S → (∀ b ∈ S, w'.heap[b]? = w.heap[b]?) → RepO w' x v S
  | .sc _, _, _, h, _ => by simpa only [RepO] using h
  | .list k es, v, S, h, hk => by
    simp only [RepO] at h ⊢
    rcases h with h | ⟨β, c, arr, ty, T, vs, h1, h2, h3, h4, h5, h6, rfl, h8, h9⟩
    · exact .inl h
    · exact .inr ⟨β, c, arr, ty, T, vs, h1, (hk β (by simp)).trans h2, h3, h4, h5, h6, rfl, h8, h9.keep (fun x hx => hk x (by simp [hx]))⟩
  | .nil _, _, _, h, _ => by simp only [RepO] at h
  | .abs _ _, _, _, h, _ => by simp only [RepO] at h
  | .ref _, _, _, h, _ => by simp only [RepO] at h
  | .agg _, _, _, h, _ => by simp only [RepO] at h
  | .tuple _, _, _, h, _ => by simp only [RepO] at h
  | .fn _ _, _, _, h, _ => by simp only [RepO] at h
  | .own _ _ _, _, _, h, _ => by simp only [RepO] at h
  | .ptr _ _ _, _, _, h, _ => by simp only [RepO] at h
  | .dead, _, _, h, _ => by simp only [RepO] at h
theorem RepOV.keep {w w' : World} : ∀ {cs : List AV} {vs : List Value} {S : List Nat}, RepOV w cs vs S → (∀ b ∈ S, w'.heap[b]? = w.heap[b]?) → RepOV w' cs vs S
  | [], _, _, h, _ => by simpa only [RepOV] using h
  | c :: cs, vs, S, h, hk => by
    simp only [RepOV] at h ⊢
    obtain ⟨v, r, S1, S2, h1, rfl, h3, h4, h5⟩ := h
    exact ⟨v, r, S1, S2, h1, rfl, h3, h4.keep (fun x hx => hk x (by simp [hx])), h5.keep (fun x hx => hk x (by simp [hx]))⟩
theorem RepOE.keep {w w' : World} : ∀ {es : List (List AV)} {vs : List Value} {S : List Nat}, RepOE w es vs S → (∀ b ∈ S, w'.heap[b]? = w.heap[b]?) → RepOE w' es vs S
  | [], _, _, h, _ => by simpa only [RepOE] using h
  | c :: es, vs, S, h, hk => by
    simp only [RepOE] at h ⊢
    obtain ⟨v1, v2, S1, S2, h1, rfl, h3, h4⟩ := h
    exact ⟨v1, v2, S1, S2, h1, rfl, h3.keep (fun x hx => hk x (by simp [hx])), h4.keep (fun x hx => hk x (by simp [hx]))⟩
end
mutual
theorem RepO.repD {w : World} : ∀ {x : AV} {v : Value} {S : List Nat}, RepO w x v S → RepD w x v S
  | .sc _, _, _, h => by simp only [RepO] at h; simpa only [RepD] using h
  | .list k es, v, S, h => by
    simp only [RepO] at h
    simp only [RepD]
    rcases h with ⟨rfl, rfl, rfl⟩ | ⟨β, c, arr, ty, T, vs, rfl, h2, h3, h4, h5, h6, rfl, h8, h9⟩
    · exact ⟨none, 0, rfl, by simp, by unfold maxLen; omega, .inl ⟨rfl, rfl⟩⟩
    · have hlt : β < w.heap.size := by
        rcases Nat.lt_or_ge β w.heap.size with h' | h'
        · exact h'
        · rw [Array.getElem?_eq_none h'] at h2; cases h2
      obtain ⟨e1, e2⟩ := h9.repVs
      refine ⟨_, c, rfl, h4, h5, .inr ⟨β, 0, T, rfl, hlt, rfl, RepVs.els e1 h6 e2 (fun j y hy => ?_)⟩⟩
      rw [← h8] at hy
      have hj : j < es.length * k := by
        rcases Nat.lt_or_ge j (es.length * k) with h' | h'
        · exact h'
        · rw [List.getElem?_eq_none (by simp; omega)] at hy; cases hy
      rw [List.getElem?_take_of_lt hj] at hy
      rw [Nat.zero_add]
      refine ⟨?_, by simp [World.frozen?, h2]⟩
      simp only [World.cell?, h2]
      simpa using hy
  | .nil _, _, _, h => by simp only [RepO] at h
  | .abs _ _, _, _, h => by simp only [RepO] at h
  | .ref _, _, _, h => by simp only [RepO] at h
  | .agg _, _, _, h => by simp only [RepO] at h
  | .tuple _, _, _, h => by simp only [RepO] at h
  | .fn _ _, _, _, h => by simp only [RepO] at h
  | .own _ _ _, _, _, h => by simp only [RepO] at h
  | .ptr _ _ _, _, _, h => by simp only [RepO] at h
  | .dead, _, _, h => by simp only [RepO] at h
theorem RepOV.repVs {w : World} : ∀ {cs : List AV} {vs : List Value} {S : List Nat}, RepOV w cs vs S → RepVs w cs vs S ∧ ∀ v ∈ vs, v.oneCell' = true
  | [], _, _, h => by simp only [RepOV] at h; exact ⟨by simpa only [RepVs] using h, by simp [h.1]⟩
  | c :: cs, vs, S, h => by
    simp only [RepOV] at h
    obtain ⟨v, r, S1, S2, rfl, rfl, h3, h4, h5⟩ := h
    obtain ⟨e1, e2⟩ := h5.repVs
    refine ⟨by simp only [RepVs]; exact ⟨v, r, S1, S2, rfl, rfl, h4.repD, e1⟩, ?_⟩
    intro y hy
    rcases List.mem_cons.1 hy with rfl | h'
    · exact h3
    · exact e2 y h'
theorem RepOE.repVs {w : World} : ∀ {es : List (List AV)} {vs : List Value} {S : List Nat}, RepOE w es vs S → RepVs w es.flatten vs S ∧ ∀ v ∈ vs, v.oneCell' = true
  | [], _, _, h => by simp only [RepOE] at h; exact ⟨by simpa only [List.flatten_nil, RepVs] using h, by simp [h.1]⟩
  | c :: es, vs, S, h => by
    simp only [RepOE] at h
    obtain ⟨v1, v2, S1, S2, rfl, rfl, h3, h4⟩ := h
    obtain ⟨e1, e2⟩ := h3.repVs
    obtain ⟨e3, e4⟩ := h4.repVs
    rw [List.flatten_cons]
    refine ⟨e1.append1 e3, ?_⟩
    intro y hy
    rcases List.mem_append.1 hy with h' | h'
    · exact e2 y h'
    · exact e4 y h'
end
theorem RepO.lt {w : World} {x : AV} {v : Value} {S : List Nat} (h : RepO w x v S) : ∀ b ∈ S, b < w.heap.size := h.repD.lt
theorem repO_nil {w : World} {k : Nat} : RepO w (.list k []) (.slice none 0 0) [] := by unfold RepO; exact .inl ⟨rfl, rfl, rfl⟩
theorem repO_sc {w : World} {u : Value} (h : u.oneCell' = true) : RepO w (.sc u) u [] := by unfold RepO; exact ⟨rfl, h, rfl⟩
theorem repO_list {w : World} {k : Nat} {es : List (List AV)} {v : Value} {S : List Nat} : RepO w (.list k es) v S ↔ (es = [] ∧ v = .slice none 0 0 ∧ S = []) ∨
      ∃ β c arr ty T vs, v = .slice (some ⟨β, 0, none⟩) es.length c ∧ w.heap[β]? = some (.cells arr ty (0, 0)) ∧ arr.size = c * k ∧ es.length ≤ c ∧ c ≤ maxLen ∧ (∀ cs ∈ es, cs.length = k) ∧ S = β :: T ∧ arr.toList.take (es.length * k) = vs ∧ RepOV w es.flatten vs T := by
  unfold RepO
  simp only [repOE_flat]
end Go.Proofs.Ytjfcjkeghigipaa

/-
  Readable and fresh data: how a Go value reads in a world, and on which blocks that reading rests. No program stands in this text.
-/
import Derived.WalkKit
import Derived.WalkSpells
import Derived.WalkLawsBesides
import Derived.BigQuiet
import Derived.Lib.Hide
import Derived.Deep.QuietTactic
import Derived.ProofKit
import Derived.Deep.Slices
namespace Go.Proofs.Ytjfcjkeghigipaa
open Go.RowKit

/-! ## plain lists -/
theorem take_snoc {α : Type} (l : List α) (k : Nat) (d : α) (h : k < l.length) : l.take (k + 1) = l.take k ++ [l[k]?.getD d] := by
  rw [List.take_succ_eq_append_getElem h]; simp [h]

theorem getD_of_some {α : Type} {l : List α} {k : Nat} {x : α} (d : α) (h : l[k]? = some x) : l.getD k d = x := by simp [List.getD, h]
theorem get_getD {α : Type} {l : List α} {k : Nat} (d : α) (h : k < l.length) : l[k]? = some (l[k]?.getD d) := by simp [h]

/-! ## the world: what stays -/

/-- Only blocks of S may have changed; new blocks may have come. -/
structure Frm (S : List Nat) (w w' : World) : Prop where
  os : w'.os = w.os
  tape : w'.tape = w.tape
  output : w'.output = w.output
  size : w.heap.size ≤ w'.heap.size
  block : ∀ k, k < w.heap.size → k ∉ S → w'.heap[k]? = w.heap[k]?

theorem Frm.refl (S : List Nat) (w : World) : Frm S w w := ⟨rfl, rfl, rfl, Nat.le_refl _, fun _ _ _ => rfl⟩
theorem Frm.of_below {w w' : World} (h : Below w.heap.size w w') : Frm [] w w' := ⟨h.os, h.tape, h.output, h.size, fun k hk _ => h.block k hk⟩
theorem Frm.below {w w' : World} (h : Frm [] w w') : Below w.heap.size w w' := ⟨h.os, h.tape, h.output, h.size, fun k hk => h.block k hk (by simp)⟩
theorem Frm.mono {S S' : List Nat} {w w' : World} (h : Frm S w w') (hs : ∀ k ∈ S, k < w.heap.size → k ∈ S') : Frm S' w w' :=
  ⟨h.os, h.tape, h.output, h.size, fun k hk hn => h.block k hk (fun hm => hn (hs k hm hk))⟩
theorem Frm.trans {S S' : List Nat} {a b c : World} (h : Frm S a b) (k : Frm S' b c) (hs : ∀ i ∈ S', i < a.heap.size → i ∈ S) : Frm S a c :=
  ⟨k.os.trans h.os, k.tape.trans h.tape, k.output.trans h.output, Nat.le_trans h.size k.size,
    fun i hi hn => (k.block i (Nat.lt_of_lt_of_le hi h.size) (fun hm => hn (hs i hm hi))).trans (h.block i hi hn)⟩
theorem Frm.drew {S : List Nat} {a w : World} (h : Frm S a w) : Frm S a w.drew := ⟨h.os, h.tape, h.output, h.size, h.block⟩
theorem Frm.drewN {S : List Nat} {a w : World} (n : Nat) (h : Frm S a w) : Frm S a (w.drewN n) := ⟨h.os, h.tape, h.output, h.size, h.block⟩
theorem below_drewN {B : Nat} {a w : World} (n : Nat) (h : Below B a w) : Below B a (w.drewN n) := ⟨h.os, h.tape, h.output, h.size, h.block⟩

/-- Two steps that keep all that was there. -/
theorem below_then {a b c : World} (h : Below a.heap.size a b) (k : Below b.heap.size b c) : Below a.heap.size a c := h.trans (k.mono h.size)

/-! ## shapes: how a datum lies in cells -/

/-- Cells cs lie from offset o on in block b, and may be written. -/
def At (w : World) (b o : Nat) (cs : List Value) : Prop :=
  ∀ j u, cs[j]? = some u → w.cell? ⟨b, o + j, none⟩ = some u ∧ w.frozen? ⟨b, o + j, none⟩ = false

theorem At.keep {w w' : World} {b o : Nat} {cs : List Value} (h : At w b o cs) (hb : w'.heap[b]? = w.heap[b]?) : At w' b o cs :=
  fun j u hu => ⟨(World.cell?_of_block (w := w) (a := ⟨b, o + j, none⟩) hb).trans (h j u hu).1, (World.frozen?_of_block (w := w) (a := ⟨b, o + j, none⟩) hb).trans (h j u hu).2⟩

theorem At.c0 {w : World} {b : Nat} {x : Value} {r : List Value} (h : At w b 0 (x :: r)) : w.cell? ⟨b, 0, none⟩ = some x := (h 0 x rfl).1
theorem At.c1 {w : World} {b : Nat} {x y : Value} {r : List Value} (h : At w b 0 (x :: y :: r)) : w.cell? ⟨b, 1, none⟩ = some y := (h 1 y rfl).1
theorem At.c2 {w : World} {b : Nat} {x y z : Value} {r : List Value} (h : At w b 0 (x :: y :: z :: r)) : w.cell? ⟨b, 2, none⟩ = some z := (h 2 z rfl).1
theorem At.f0 {w : World} {b : Nat} {x : Value} {r : List Value} (h : At w b 0 (x :: r)) : w.frozen? ⟨b, 0, none⟩ = false := (h 0 x rfl).2
theorem At.f1 {w : World} {b : Nat} {x y : Value} {r : List Value} (h : At w b 0 (x :: y :: r)) : w.frozen? ⟨b, 1, none⟩ = false := (h 1 y rfl).2
theorem At.f2 {w : World} {b : Nat} {x y z : Value} {r : List Value} (h : At w b 0 (x :: y :: z :: r)) : w.frozen? ⟨b, 2, none⟩ = false := (h 2 z rfl).2
theorem At.set {w : World} {b o : Nat} {cs : List Value} (h : At w b o cs) (j : Nat) (v : Value) (hj : j < cs.length) : At (w.setCell ⟨b, o + j, none⟩ v) b o (cs.set j v) := by
  intro i u hu
  refine ⟨?_, ?_⟩
  · by_cases e : i = j
    · subst e
      rw [List.getElem?_set_self hj] at hu
      simp only [Option.some.injEq] at hu
      subst hu
      exact World.cell?_setCell_same _ _ _ (h i _ (List.getElem?_eq_getElem hj)).1
    · rw [List.getElem?_set_ne (by omega)] at hu
      rw [World.cell?_setCell_other _ _ _ _ (by simp only [ne_eq, Addr.mk.injEq, not_and]; omega)]
      exact (h i u hu).1
  · rw [World.frozen?_setCell]
    have hi : i < cs.length := by
      rcases Nat.lt_or_ge i cs.length with h' | h'
      · exact h'
      · rw [List.getElem?_eq_none (by simpa using h')] at hu; cases hu
    exact (h i _ (List.getElem?_eq_getElem hi)).2
theorem At.alloc (w : World) (cs : Array Value) (e : Nat) : At (w.alloc (.cells cs e)) w.heap.size 0 cs.toList := by
  intro j u hu
  rw [Nat.zero_add, World.cell?_alloc_new, World.frozen?_alloc_new]
  exact ⟨by simpa using hu, rfl⟩

structure Shp (α : Type) where
  size : Nat
  rd : World → List Value → α → List Nat → Prop

structure Shp.Good {α : Type} (s : Shp α) : Prop where
  pos : 0 < s.size
  len : ∀ {w cs x S}, s.rd w cs x S → cs.length = s.size
  one : ∀ {w cs x S}, s.rd w cs x S → ∀ u ∈ cs, u.oneCell' = true
  keep : ∀ {w w' cs x S}, s.rd w cs x S → (∀ b ∈ S, w'.heap[b]? = w.heap[b]?) → s.rd w' cs x S
  lt : ∀ {w cs x S}, s.rd w cs x S → ∀ b ∈ S, b < w.heap.size

theorem Shp.Good.below {α : Type} {s : Shp α} (g : s.Good) {w w' : World} {cs : List Value} {x : α} {S : List Nat} (h : s.rd w cs x S) (hb : Below w.heap.size w w') : s.rd w' cs x S :=
  g.keep h (fun b hm => hb.block b (g.lt h b hm))
theorem Shp.Good.frm {α : Type} {s : Shp α} (g : s.Good) {w w' : World} {cs : List Value} {x : α} {S T : List Nat} (h : s.rd w cs x S) (hf : Frm T w w') (hd : ∀ b ∈ S, b ∉ T) : s.rd w' cs x S :=
  g.keep h (fun b hm => hf.block b (g.lt h b hm) (hd b hm))

def fits (x : Int) : Prop := -9223372036854775808 ≤ x ∧ x ≤ 9223372036854775807

def Shp.int : Shp Int := ⟨1, fun _ cs x S => cs = [.int .i64 x] ∧ S = [] ∧ fits x⟩
theorem Shp.int_good : Shp.int.Good where
  pos := by simp [Shp.int]
  len := by rintro w cs x S ⟨rfl, _⟩; rfl
  one := by rintro w cs x S ⟨rfl, _⟩ u hu; simp at hu; subst hu; rfl
  keep := by rintro w w' cs x S ⟨h, rfl, f⟩ _; exact ⟨h, rfl, f⟩
  lt := by rintro w cs x S ⟨_, rfl, _⟩ b hb; simp at hb

def Shp.bool : Shp Bool := ⟨1, fun _ cs x S => cs = [.bool x] ∧ S = []⟩
theorem Shp.bool_good : Shp.bool.Good where
  pos := by simp [Shp.bool]
  len := by rintro w cs x S ⟨rfl, _⟩; rfl
  one := by rintro w cs x S ⟨rfl, _⟩ u hu; simp at hu; subst hu; rfl
  keep := by rintro w w' cs x S ⟨h, rfl⟩ _; exact ⟨h, rfl⟩
  lt := by rintro w cs x S ⟨_, rfl⟩ b hb; simp at hb

def Shp.pair {α β : Type} (s : Shp α) (t : Shp β) : Shp (α × β) :=
  ⟨s.size + t.size, fun w cs x S => ∃ c1 c2 S1 S2, cs = c1 ++ c2 ∧ S = S1 ++ S2 ∧ s.rd w c1 x.1 S1 ∧ t.rd w c2 x.2 S2⟩
theorem Shp.pair_good {α β : Type} {s : Shp α} {t : Shp β} (gs : s.Good) (gt : t.Good) : (Shp.pair s t).Good where
  pos := by have := gs.pos; simp [Shp.pair]; omega
  len := by rintro w cs x S ⟨c1, c2, S1, S2, rfl, rfl, h1, h2⟩; simp [Shp.pair, gs.len h1, gt.len h2]
  one := by
    rintro w cs x S ⟨c1, c2, S1, S2, rfl, rfl, h1, h2⟩ u hu
    rcases List.mem_append.1 hu with h | h
    · exact gs.one h1 u h
    · exact gt.one h2 u h
  keep := by
    rintro w w' cs x S ⟨c1, c2, S1, S2, rfl, rfl, h1, h2⟩ hk
    exact ⟨c1, c2, S1, S2, rfl, rfl, gs.keep h1 (fun b hb => hk b (by simp [hb])), gt.keep h2 (fun b hb => hk b (by simp [hb]))⟩
  lt := by
    rintro w cs x S ⟨c1, c2, S1, S2, rfl, rfl, h1, h2⟩ b hb
    rcases List.mem_append.1 hb with h | h
    · exact gs.lt h1 b h
    · exact gt.lt h2 b h

def Shp.via {α β : Type} (f : β → α) (s : Shp α) : Shp β := ⟨s.size, fun w cs x S => s.rd w cs (f x) S⟩
theorem Shp.via_good {α β : Type} {f : β → α} {s : Shp α} (g : s.Good) : (Shp.via f s).Good where
  pos := g.pos
  len := fun h => g.len h
  one := fun h => g.one h
  keep := fun h k => g.keep h k
  lt := fun h => g.lt h

/-- Cells that lie one element behind the other read as a list. -/
def CellsRd {α : Type} (s : Shp α) (w : World) : List Value → List α → List Nat → Prop
  | xs, [], S => xs = [] ∧ S = []
  | xs, x :: l, S => ∃ cs ys S1 S2, xs = cs ++ ys ∧ S = S1 ++ S2 ∧ s.rd w cs x S1 ∧ CellsRd s w ys l S2

theorem CellsRd.keep {α : Type} {s : Shp α} (g : s.Good) {w w' : World} : ∀ {l : List α} {xs : List Value} {S : List Nat}, CellsRd s w xs l S → (∀ k ∈ S, w'.heap[k]? = w.heap[k]?) → CellsRd s w' xs l S
  | [], _, _, h, _ => h
  | _ :: _, _, _, ⟨cs, ys, S1, S2, hx, hS, hr, ht⟩, hk => ⟨cs, ys, S1, S2, hx, hS, g.keep hr (fun k hm => hk k (by simp [hS, hm])), ht.keep g (fun k hm => hk k (by simp [hS, hm]))⟩
theorem CellsRd.lt {α : Type} {s : Shp α} (g : s.Good) {w : World} : ∀ {l : List α} {xs : List Value} {S : List Nat}, CellsRd s w xs l S → ∀ k ∈ S, k < w.heap.size
  | [], _, _, h, k, hk => by simp [CellsRd] at h; simp [h] at hk
  | _ :: _, _, _, ⟨cs, ys, S1, S2, _, hS, hr, ht⟩, k, hk => by
    subst hS
    rcases List.mem_append.1 hk with h | h
    · exact g.lt hr k h
    · exact ht.lt g k h
theorem CellsRd.len {α : Type} {s : Shp α} (g : s.Good) {w : World} : ∀ {l : List α} {xs : List Value} {S : List Nat}, CellsRd s w xs l S → xs.length = l.length * s.size
  | [], _, _, h => by simp [h.1]
  | x :: l, _, _, ⟨cs, ys, S1, S2, hx, _, hr, ht⟩ => by simp [hx, g.len hr, ht.len g, Nat.add_mul]; omega
theorem CellsRd.one {α : Type} {s : Shp α} (g : s.Good) {w : World} : ∀ {l : List α} {xs : List Value} {S : List Nat}, CellsRd s w xs l S → ∀ u ∈ xs, u.oneCell' = true
  | [], _, _, h, u, hu => by simp [h.1] at hu
  | _ :: _, _, _, ⟨cs, ys, S1, S2, hx, hS, hr, ht⟩, u, hu => by
    subst hx
    rcases List.mem_append.1 hu with h | h
    · exact g.one hr u h
    · exact ht.one g u h
theorem CellsRd.append {α : Type} {s : Shp α} {w : World} : ∀ {l : List α} {xs : List Value} {S : List Nat} {l' : List α} {xs' : List Value} {S' : List Nat}, CellsRd s w xs l S → CellsRd s w xs' l' S' → CellsRd s w (xs ++ xs') (l ++ l') (S ++ S')
  | [], _, _, _, _, _, h, h' => by obtain ⟨rfl, rfl⟩ := h; simpa using h'
  | x :: l, _, _, _, xs', S', ⟨cs, ys, S1, S2, hx, hS, hr, ht⟩, h' => ⟨cs, ys ++ xs', S1, S2 ++ S', by simp [hx], by simp [hS], hr, ht.append h'⟩
theorem CellsRd.single {α : Type} {s : Shp α} {w : World} {cs : List Value} {x : α} {S : List Nat} (h : s.rd w cs x S) : CellsRd s w cs [x] S :=
  ⟨cs, [], S, [], by simp, by simp, h, rfl, rfl⟩
/-- The element at an index. -/
theorem CellsRd.at {α : Type} {s : Shp α} (g : s.Good) {w : World} : ∀ {l : List α} {xs : List Value} {S : List Nat}, CellsRd s w xs l S → ∀ {i : Nat} {x : α}, l[i]? = some x →
    ∃ cs T, s.rd w cs x T ∧ (∀ j u, cs[j]? = some u → xs[i * s.size + j]? = some u) ∧ ∀ k ∈ T, k ∈ S
  | [], _, _, _, i, x, hx => by simp at hx
  | y :: l, _, S, ⟨cs, ys, S1, S2, hxs, hS, hr, ht⟩, 0, x, hx => by
    simp at hx; subst hx; subst hS; subst hxs
    exact ⟨cs, S1, hr, fun j u hu => by rw [Nat.zero_mul, Nat.zero_add, List.getElem?_append_left (by rw [List.getElem?_eq_some_iff] at hu; exact hu.1)]; exact hu, fun k hk => by simp [hk]⟩
  | y :: l, _, S, ⟨cs, ys, S1, S2, hxs, hS, hr, ht⟩, i + 1, x, hx => by
    obtain ⟨cs', T, h1, h2, h3⟩ := ht.at g (by simpa using hx)
    refine ⟨cs', T, h1, fun j u hu => ?_, fun k hk => by simp [hS, h3 k hk]⟩
    have hl := g.len hr
    subst hxs
    rw [List.getElem?_append_right (by rw [hl, Nat.add_mul]; omega), hl, show (i + 1) * s.size + j - s.size = i * s.size + j by rw [Nat.add_mul]; omega]
    exact h2 j u hu

/-- A slice value reads as a list. -/
def SliceRd {α : Type} (s : Shp α) (w : World) (a : Option Addr) (n c : Nat) (l : List α) (S : List Nat) : Prop :=
  l.length = n ∧ n ≤ c ∧ c ≤ maxLen ∧ ((l = [] ∧ S = []) ∨ ∃ b o xs T, l ≠ [] ∧ a = some ⟨b, o, none⟩ ∧ b < w.heap.size ∧ S = b :: T ∧ At w b o xs ∧ CellsRd s w xs l T)

def Shp.slice {α : Type} (s : Shp α) : Shp (List α) := ⟨1, fun w cs l S => ∃ a n c, cs = [.slice a n c] ∧ SliceRd s w a n c l S⟩

theorem SliceRd.keep {α : Type} {s : Shp α} (g : s.Good) {w w' : World} {a : Option Addr} {n c : Nat} {l : List α} {S : List Nat} (h : SliceRd s w a n c l S) (hk : ∀ k ∈ S, w'.heap[k]? = w.heap[k]?) : SliceRd s w' a n c l S := by
  obtain ⟨h1, h2, h3, h4⟩ := h
  refine ⟨h1, h2, h3, ?_⟩
  rcases h4 with h4 | ⟨b, o, xs, T, hne, ha, hb, rfl, hat, he⟩
  · exact .inl h4
  · have hb' := hk b (by simp)
    refine .inr ⟨b, o, xs, T, hne, ha, ?_, rfl, hat.keep hb', he.keep g (fun k hm => hk k (by simp [hm]))⟩
    rcases Nat.lt_or_ge b w'.heap.size with h | h
    · exact h
    · rw [Array.getElem?_eq_none h, Array.getElem?_eq_getElem hb] at hb'
      cases hb'
theorem SliceRd.lt {α : Type} {s : Shp α} (g : s.Good) {w : World} {a : Option Addr} {n c : Nat} {l : List α} {S : List Nat} (h : SliceRd s w a n c l S) : ∀ k ∈ S, k < w.heap.size := by
  obtain ⟨_, _, _, h4⟩ := h
  rcases h4 with ⟨_, rfl⟩ | ⟨b, o, xs, T, _, _, hb, rfl, _, he⟩
  · simp
  · intro k hk
    rcases List.mem_cons.1 hk with rfl | h
    · exact hb
    · exact he.lt g k h
theorem SliceRd.below {α : Type} {s : Shp α} (g : s.Good) {w w' : World} {a : Option Addr} {n c : Nat} {l : List α} {S : List Nat} (h : SliceRd s w a n c l S) (hb : Below w.heap.size w w') : SliceRd s w' a n c l S :=
  h.keep g (fun k hk => hb.block k (h.lt g k hk))
theorem SliceRd.frm {α : Type} {s : Shp α} (g : s.Good) {w w' : World} {a : Option Addr} {n c : Nat} {l : List α} {S T : List Nat} (h : SliceRd s w a n c l S) (hf : Frm T w w') (hd : ∀ k ∈ S, k ∉ T) : SliceRd s w' a n c l S :=
  h.keep g (fun k hk => hf.block k (h.lt g k hk) (hd k hk))
theorem SliceRd.max {α : Type} {s : Shp α} {w : World} {a : Option Addr} {n c : Nat} {l : List α} {S : List Nat} (h : SliceRd s w a n c l S) : n ≤ 9223372036854775807 := by
  have h2 := h.2.1; have h3 := h.2.2.1; unfold maxLen at h3; omega

theorem Shp.slice_good {α : Type} {s : Shp α} (g : s.Good) : (Shp.slice s).Good where
  pos := by simp [Shp.slice]
  len := by rintro w cs x S ⟨a, n, c, rfl, _⟩; rfl
  one := by rintro w cs x S ⟨a, n, c, rfl, _⟩ u hu; simp at hu; subst hu; rfl
  keep := by rintro w w' cs x S ⟨a, n, c, rfl, h⟩ hk; exact ⟨a, n, c, rfl, h.keep g hk⟩
  lt := by rintro w cs x S ⟨a, n, c, rfl, h⟩; exact h.lt g

/-- The element at an index: its cells, and what they read as. -/
theorem SliceRd.at {α : Type} {s : Shp α} (g : s.Good) {w : World} {a : Option Addr} {n c : Nat} {l : List α} {S : List Nat} (h : SliceRd s w a n c l S) (d : α) {i : Nat} (hi : i < n) :
    ∃ b o cs T, a = some ⟨b, o, none⟩ ∧ b < w.heap.size ∧ b ∈ S ∧ At w b (o + i * s.size) cs ∧ s.rd w cs (l[i]?.getD d) T ∧ ∀ k ∈ T, k ∈ S := by
  obtain ⟨h1, h2, h3, h4⟩ := h
  rcases h4 with ⟨rfl, _⟩ | ⟨b, o, xs, T, hne, ha, hb, rfl, hat, he⟩
  · simp at h1; omega
  · obtain ⟨cs, T', h5, h6, h7⟩ := he.at g (get_getD d (by omega : i < l.length))
    exact ⟨b, o, cs, T', ha, hb, by simp, fun j u hu => by rw [Nat.add_assoc]; exact hat _ u (h6 j u hu), h5, fun k hk => by simp [h7 k hk]⟩

theorem arr_of {cs : Array Value} {l : List Value} (h : cs.toList = l) : cs = l.toArray := by cases cs; simp at h; rw [h]

/-! ## slices of integers, in the walk's form -/

/-- What a walk reads of a slice of integers. -/
structure IntRow (w : World) (a : Option Addr) (n : Nat) (l : List Int) : Prop where
  len : l.length = n
  max : n ≤ 9223372036854775807
  cell : 0 < n → ∃ b off, a = some ⟨b, off, none⟩ ∧ b < w.heap.size ∧ ∀ i, i < n → w.cell? ⟨b, off + i, none⟩ = some (.int .i64 (l[i]?.getD 0)) ∧ w.frozen? ⟨b, off + i, none⟩ = false
  fit : ∀ i, i < n → fits (l[i]?.getD 0)

abbrev Ints (w : World) (a : Option Addr) (n c : Nat) (l : List Int) (S : List Nat) : Prop := SliceRd Shp.int w a n c l S

theorem SliceRd.row {w : World} {a : Option Addr} {n c : Nat} {l : List Int} {S : List Nat} (h : SliceRd Shp.int w a n c l S) : IntRow w a n l where
  len := h.1
  max := h.max
  cell := fun h0 => by
    obtain ⟨b, o, _, _, rfl, hb, _, _, _, _⟩ := h.at Shp.int_good 0 h0
    refine ⟨b, o, rfl, hb, fun i hi => ?_⟩
    obtain ⟨b', o', cs, T, he, hb', _, hat, ⟨rfl, _, _⟩, _⟩ := h.at Shp.int_good 0 hi
    simp at he
    obtain ⟨rfl, rfl⟩ := he
    have := hat 0 _ rfl
    simpa [Shp.int] using this
  fit := fun i hi => by
    obtain ⟨b', o', cs, T, he, hb', _, hat, ⟨rfl, _, hf⟩, _⟩ := h.at Shp.int_good 0 hi
    exact hf

theorem IntRow.below {w w' : World} {a : Option Addr} {n : Nat} {l : List Int} (h : IntRow w a n l) (hb : Below w.heap.size w w') : IntRow w' a n l where
  len := h.len
  max := h.max
  fit := h.fit
  cell := fun h0 => by
    obtain ⟨b, o, rfl, hlt, hc⟩ := h.cell h0
    exact ⟨b, o, rfl, Nat.lt_of_lt_of_le hlt hb.size, fun i hi => ⟨(hb.cell hlt).trans (hc i hi).1, (hb.frozen hlt).trans (hc i hi).2⟩⟩

theorem cells_int {w : World} : ∀ {l : List Int}, (∀ i, i < l.length → fits (l[i]?.getD 0)) → CellsRd Shp.int w (l.map (Value.int .i64)) l []
  | [], _ => ⟨rfl, rfl⟩
  | x :: l, hf => ⟨[.int .i64 x], l.map (Value.int .i64), [], [], rfl, rfl, ⟨rfl, rfl, by simpa using hf 0 (by simp)⟩, cells_int (fun i hi => by simpa using hf (i + 1) (by simp; omega))⟩
theorem cells_int_inv {w : World} : ∀ {l : List Int} {xs : List Value} {S : List Nat}, CellsRd Shp.int w xs l S → xs = l.map (Value.int .i64) ∧ S = [] ∧ ∀ x ∈ l, fits x
  | [], _, _, h => by simp [h.1, h.2]
  | x :: l, _, _, ⟨cs, ys, S1, S2, hx, hS, ⟨hc, h1, hf⟩, ht⟩ => by
    obtain ⟨h2, h3, h4⟩ := cells_int_inv ht
    subst hx; subst hS; subst hc; subst h1; subst h2; subst h3
    exact ⟨rfl, rfl, fun y hy => by rcases List.mem_cons.1 hy with rfl | h; exact hf; exact h4 y h⟩

/-- The block on which a slice of integers rests. -/
def iblk (a : Option Addr) (n : Nat) : List Nat := if n = 0 then [] else match a with | some x => [x.block] | none => []

theorem ints_blk {w : World} {a : Option Addr} {n c : Nat} {l : List Int} {S : List Nat} (h : SliceRd Shp.int w a n c l S) : S = iblk a n := by
  obtain ⟨h1, _, _, h4⟩ := h
  rcases h4 with ⟨rfl, rfl⟩ | ⟨b, o, xs, T, hne, rfl, _, rfl, _, he⟩
  · simp at h1; simp [iblk, ← h1]
  · have : n ≠ 0 := by rintro rfl; exact hne (List.eq_nil_of_length_eq_zero h1)
    simp [iblk, this, (cells_int_inv he).2.1]

theorem ints_mk {w : World} {a : Option Addr} {n c : Nat} {l : List Int} (h : IntRow w a n l) (hc : n ≤ c) (hm : c ≤ maxLen) : SliceRd Shp.int w a n c l (iblk a n) := by
  have hl := h.len
  by_cases h0 : 0 < n
  · obtain ⟨b, o, rfl, hlt, hcell⟩ := h.cell h0
    refine ⟨hl, hc, hm, .inr ⟨b, o, l.map (Value.int .i64), [], ?_, rfl, hlt, ?_, ?_, cells_int (fun i hi => h.fit i (by omega))⟩⟩
    · rintro rfl; simp at hl; omega
    · simp [iblk, show n ≠ 0 by omega]
    · intro j u hu
      have hj : j < l.length := by
        rcases Nat.lt_or_ge j l.length with h' | h'
        · exact h'
        · rw [List.getElem?_eq_none (by simpa using h')] at hu; cases hu
      have hc := hcell j (by omega)
      rw [List.getElem?_map, get_getD 0 hj] at hu
      simp only [Option.map_some, Option.some.injEq] at hu
      subst hu
      exact hc
  · have : l = [] := List.eq_nil_of_length_eq_zero (by omega)
    exact ⟨hl, hc, hm, .inl ⟨this, by simp [iblk, show n = 0 by omega]⟩⟩

theorem Frm.setCell {S : List Nat} {a w : World} (h : Frm S a w) {p : Addr} (hp : p.block < a.heap.size → p.block ∈ S) (u : Value) : Frm S a (w.setCell p u) :=
  h.trans ⟨rfl, rfl, rfl, by simp [World.setCell], fun k _ hn => Below.heap_setCell _ _ _ _ (by rintro rfl; simp at hn)⟩ (S' := [p.block]) (fun i hi hlt => by simp at hi; subst hi; exact hp hlt)

/-! ## fresh data -/

/-- Blocks that are new since B, each once. -/
def New (B : Nat) (S : List Nat) : Prop := S.Nodup ∧ ∀ b ∈ S, B ≤ b
theorem New.nil (B : Nat) : New B [] := ⟨by simp, by simp⟩
theorem New.mono {B B' : Nat} {S : List Nat} (h : New B S) (hb : B' ≤ B) : New B' S := ⟨h.1, fun b hm => Nat.le_trans hb (h.2 b hm)⟩
theorem New.append {B : Nat} {S T : List Nat} (h : New B S) (k : New B T) (hd : ∀ b ∈ S, b ∉ T) : New B (S ++ T) :=
  ⟨List.nodup_append.2 ⟨h.1, k.1, fun a ha b hb e => hd a ha (e ▸ hb)⟩, fun b hm => by rcases List.mem_append.1 hm with h' | h'; exact h.2 b h'; exact k.2 b h'⟩
theorem New.off {B : Nat} {S T : List Nat} (h : New B S) (ht : ∀ b ∈ T, b < B) : ∀ b ∈ S, b ∉ T := fun b hb hm => by have := h.2 b hb; have := ht b hm; omega

/-- A slice that the call has made, with all its room: it reads as l, and it may be appended to. S: all the blocks on which it rests. -/
def Own (e : Nat) {α : Type} (s : Shp α) (w : World) (B : Nat) (v : Value) (l : List α) (S : List Nat) : Prop :=
  ∃ xs T, w.ownsRow B e s.size v l.length xs ∧ CellsRd s w xs l T ∧ S = v.ownBlock.toList ++ T ∧ New B S

theorem own_form {w : World} {B e size : Nat} {v : Value} {n : Nat} {xs : List Value} (h : w.ownsRow B e size v n xs) : ∃ a c, v = .slice a n c ∧ n ≤ c ∧ c ≤ maxLen ∧ ∀ x, a = some x → x = ⟨x.block, 0, none⟩ ∧ B ≤ x.block ∧ x.block < w.heap.size ∧ ∃ cur, w.heap[x.block]? = some (.cells cur e (0, 0)) ∧ cur.size = c * size ∧ cur.toList.take (n * size) = xs := by
  rcases h.2 with ⟨rfl, rfl⟩ | ⟨g, cap, cur, rfl, hb, hg, h1, h2, h3, h4⟩
  · exact ⟨none, 0, rfl, Nat.le_refl _, Nat.zero_le _, by simp⟩
  · refine ⟨_, cap, rfl, h1, h2, ?_⟩
    rintro x hx
    simp at hx
    subst hx
    exact ⟨rfl, hb, (Array.getElem?_eq_some_iff.1 hg).1, cur, hg, h3, h4⟩

theorem at_row {w : World} {g e : Nat} {cur : Array Value} {m : Nat} (hg : w.heap[g]? = some (.cells cur e (0, 0))) : At w g 0 (cur.toList.take m) := by
  intro j u hu
  rw [Nat.zero_add, cell_of_row w g j cur e (0, 0) hg]
  refine ⟨?_, frozen_of_row w g j cur e hg⟩
  rw [List.getElem?_take] at hu
  split at hu
  · simpa using hu
  · cases hu

theorem Own.rd {α : Type} {s : Shp α} {e : Nat} {w : World} {B : Nat} {v : Value} {l : List α} {S : List Nat} (h : Own e s w B v l S) :
    ∃ a n c S', v = .slice a n c ∧ n = l.length ∧ SliceRd s w a n c l S' ∧ New B S' ∧ ∀ b ∈ S', b ∈ S := by
  obtain ⟨xs, T, hown, hc, rfl, hn⟩ := h
  obtain ⟨a, c, rfl, h1, h2, h3⟩ := own_form hown
  by_cases hl : l = []
  · subst hl
    exact ⟨a, _, c, [], rfl, rfl, ⟨rfl, h1, h2, .inl ⟨rfl, rfl⟩⟩, New.nil B, by simp⟩
  · have hl0 : 0 < l.length := List.length_pos_iff.2 hl
    cases a with
    | none =>
      exfalso
      rcases hown.2 with ⟨_, h0⟩ | ⟨g, cap, cur, hv, _⟩
      · omega
      · simp at hv
    | some x =>
      obtain ⟨hx, hB, hlt, cur, hg, _, htake⟩ := h3 x rfl
      refine ⟨_, _, c, x.block :: T, rfl, rfl, ⟨rfl, h1, h2, .inr ⟨x.block, 0, xs, T, hl, by rw [← hx], hlt, rfl, ?_, hc⟩⟩, hn, fun b hb => hb⟩
      rw [← htake]
      exact at_row hg

theorem Own.keep {α : Type} {s : Shp α} (g : s.Good) {e : Nat} {w w' : World} {B : Nat} {v : Value} {l : List α} {S : List Nat} (h : Own e s w B v l S) (hk : ∀ k ∈ S, w'.heap[k]? = w.heap[k]?) : Own e s w' B v l S := by
  obtain ⟨xs, T, hown, hc, rfl, hn⟩ := h
  refine ⟨xs, T, ⟨hown.1, ?_⟩, hc.keep g (fun k hm => hk k (by simp [hm])), rfl, hn⟩
  rcases hown.2 with h1 | ⟨g', cap, cur, rfl, hb, hg, hr⟩
  · exact .inl h1
  · exact .inr ⟨g', cap, cur, rfl, hb, by rw [hk g' (by simp [Value.ownBlock])]; exact hg, hr⟩
theorem Own.lt {α : Type} {s : Shp α} (g : s.Good) {e : Nat} {w : World} {B : Nat} {v : Value} {l : List α} {S : List Nat} (h : Own e s w B v l S) : ∀ b ∈ S, b < w.heap.size := by
  obtain ⟨xs, T, hown, hc, rfl, hn⟩ := h
  intro b hb
  rcases List.mem_append.1 hb with h' | h'
  · exact (hown.lt b (by simpa using h')).2
  · exact hc.lt g b h'
theorem Own.frm {α : Type} {s : Shp α} (g : s.Good) {e : Nat} {w w' : World} {B : Nat} {v : Value} {l : List α} {S T : List Nat} (h : Own e s w B v l S) (hf : Frm T w w') (hd : ∀ b ∈ S, b ∉ T) : Own e s w' B v l S :=
  h.keep g (fun k hk => hf.block k (h.lt g k hk) (hd k hk))
theorem Own.below {α : Type} {s : Shp α} (g : s.Good) {e : Nat} {w w' : World} {B : Nat} {v : Value} {l : List α} {S : List Nat} (h : Own e s w B v l S) (hb : Below w.heap.size w w') : Own e s w' B v l S :=
  h.keep g (fun k hk => hb.block k (h.lt g k hk))
theorem Own.new {α : Type} {s : Shp α} {e : Nat} {w : World} {B : Nat} {v : Value} {l : List α} {S : List Nat} (h : Own e s w B v l S) : New B S := by
  obtain ⟨_, _, _, _, _, hn⟩ := h; exact hn
theorem Own.off {α : Type} {s : Shp α} {e : Nat} {w : World} {B : Nat} {v : Value} {l : List α} {S : List Nat} (h : Own e s w B v l S) {b : Nat} (hb : b < B) : b ∉ S := fun hm => by have := h.new.2 b hm; omega
theorem Own.setOff {α : Type} {s : Shp α} (g : s.Good) {e : Nat} {w : World} {B : Nat} {v : Value} {l : List α} {S : List Nat} (h : Own e s w B v l S) {p : Addr} (hb : p.block ∉ S) (u : Value) : Own e s (w.setCell p u) B v l S :=
  h.keep g (fun k hk => Below.heap_setCell _ _ _ _ (by rintro rfl; exact hb hk))
theorem At.setOff {w : World} {b o : Nat} {cs : List Value} (h : At w b o cs) {p : Addr} (hp : p.block ≠ b) (u : Value) : At (w.setCell p u) b o cs :=
  h.keep (Below.heap_setCell _ _ _ _ (fun e => hp e.symm))
theorem At.frm {w w' : World} {b o : Nat} {cs : List Value} {S : List Nat} (h : At w b o cs) (hf : Frm S w w') (hb : b < w.heap.size) (hn : b ∉ S) : At w' b o cs := h.keep (hf.block b hb hn)
theorem Own.nil {α : Type} (s : Shp α) (e : Nat) (w : World) (B : Nat) : Own e s w B (.slice none 0 0) [] [] :=
  ⟨[], [], World.ownsRow_nil _ _ _ _, ⟨rfl, rfl⟩, rfl, New.nil B⟩

theorem Own.form {α : Type} {s : Shp α} {e : Nat} {w : World} {B : Nat} {v : Value} {l : List α} {S : List Nat} (h : Own e s w B v l S) : ∃ a n c, v = .slice a n c := by
  obtain ⟨xs, T, hown, _⟩ := h
  obtain ⟨a, c, rfl, _⟩ := own_form hown
  exact ⟨_, _, _, rfl⟩

theorem Frm.cell {S : List Nat} {w w' : World} (h : Frm S w w') {p : Addr} (hp : p.block < w.heap.size) (hn : p.block ∉ S) : w'.cell? p = w.cell? p := World.cell?_of_block (w := w) (h.block p.block hp hn)
theorem Frm.frozen {S : List Nat} {w w' : World} (h : Frm S w w') {p : Addr} (hp : p.block < w.heap.size) (hn : p.block ∉ S) : w'.frozen? p = w.frozen? p := World.frozen?_of_block (w := w) (h.block p.block hp hn)
theorem Frm.to_below {S : List Nat} {w w' : World} {B : Nat} (h : Frm S w w') (hB : B ≤ w.heap.size) (hS : ∀ b ∈ S, B ≤ b) : Below B w w' :=
  ⟨h.os, h.tape, h.output, h.size, fun k hk => h.block k (by omega) (fun hm => by have := hS k hm; omega)⟩

/-- An empty literal. -/
theorem Own.lit0 {α : Type} (s : Shp α) (e : Nat) (w : World) {B : Nat} (hB : B ≤ w.heap.size) : Own e s (w.alloc (.cells #[] e)) B (.slice (some ⟨w.heap.size, 0, none⟩) 0 0) [] [w.heap.size] :=
  ⟨[], [], World.ownsRow_made w #[] 0 hB (Nat.zero_le _) (by simp), ⟨rfl, rfl⟩, rfl, ⟨by simp, by simpa using hB⟩⟩

theorem own_row {w : World} {B e : Nat} {g n c : Nat} {l : List Int} (hf : ∀ x ∈ l, fits x) (h : w.ownsRow B e 1 (.slice (some ⟨g, 0, none⟩) n c) n (l.map (Value.int .i64))) : IntRow w (some ⟨g, 0, none⟩) n l where
  len := by have := h.1; simpa using this
  max := by
    rcases h.2 with ⟨h', _⟩ | ⟨_, cap, _, h', _, _, h1, h2, _⟩
    · simp at h'
    · unfold maxLen at h2; omega
  cell := fun _ => by
    have hlen : l.length = n := by have := h.1; simpa using this
    refine ⟨g, 0, rfl, (h.lt g rfl).2, fun i hi => ⟨?_, by rw [Nat.zero_add]; exact h.frozenAt i⟩⟩
    rw [Nat.zero_add, h.cellAt i (by omega)]
    simp [hlen, hi]
  fit := fun i hi => by
    have hlen : l.length = n := by have := h.1; simpa using this
    simp only [List.getElem?_eq_getElem (show i < l.length by omega), Option.getD_some]
    exact hf _ (List.getElem_mem _)

theorem own_ints {w : World} {B e : Nat} {v : Value} {n : Nat} {l : List Int} (hf : ∀ x ∈ l, fits x) (h : w.ownsRow B e 1 v n (l.map (Value.int .i64))) : ∃ S, Own e Shp.int w B v l S := by
  have hlen : l.length = n := by have := h.1; simpa using this
  subst hlen
  refine ⟨_, _, [], h, cells_int (fun i hi => by simpa [hi] using hf _ (List.getElem_mem hi)), rfl, ?_⟩
  cases hv : v.ownBlock with
  | none => exact New.nil B
  | some g => exact ⟨by simp, fun b hb => by simp at hb; subst hb; exact (h.lt _ hv).1⟩

theorem Own.ints {w : World} {B e : Nat} {v : Value} {l : List Int} {S : List Nat} (h : Own e Shp.int w B v l S) : w.ownsRow B e 1 v l.length (l.map (Value.int .i64)) ∧ (∀ x ∈ l, fits x) ∧ S = v.ownBlock.toList := by
  obtain ⟨xs, T, hown, hc, rfl, hn⟩ := h
  obtain ⟨rfl, rfl, hf⟩ := cells_int_inv hc
  exact ⟨hown, hf, by simp⟩

/-! ## append -/

theorem append_blk {P : Program} {w w' : World} {B : Nat} {t ty e : TypeId} {i : TypeInfo} {z : Value} {size bytes : Nat} (ht : P.underlying t = some (.slice e)) (hi : P.info? e = some i) (hz : i.zero = some z)
    (hsize : i.size = size) (hby : i.bytes = bytes) (hzs : z.cells.size = size) (hsz : 0 < size)
    {v v' : Value} {n : Nat} {xs : List Value} (hown : w.ownsRow B e size v n xs)
    {a : Addr} {m c : Nat} {news : List Value} (hl : news.length = m * size) (hnews : ∀ j u, news[j]? = some u → w.cell? (a.add j) = some u) (h1 : ∀ u ∈ news, u.oneCell' = true)
    (h63 : n + m ≤ maxLen) (hbytes : (n + m) * bytes ≤ 140737488355328)
    (hr : (Builtin.append_ #[t, t] ty #[v, .slice (some a) m c]).run P w = .ok v' w') :
    v'.ownBlock = v.ownBlock ∨ ∃ g, v'.ownBlock = some g ∧ w.heap.size ≤ g := by
  have hown' := hown
  rcases hown.2 with ⟨rfl, rfl⟩ | ⟨g, cap, cur, rfl, hb, hg, hnc, hcm, hcs, htake⟩
  · have hx : xs = [] := by have := hown.1; simpa using this
    subst hx
    obtain ⟨v2, w2, hr2, ho, _, hnil⟩ := run_append_own (P := P) w w.heap.size t ty e i z size bytes ht hi hz hsize hby hzs hsz _ 0 [] (World.ownsRow_nil _ _ _ _) a m c news hl hnews h1 h63 hbytes (Nat.le_refl _)
    rw [hr] at hr2
    obtain ⟨rfl, rfl⟩ : v' = v2 ∧ w' = w2 := by injection hr2 with h1 h2; exact ⟨h1, h2⟩
    cases hv : v'.ownBlock with
    | none => exact .inl (by simp [Value.ownBlock])
    | some g => exact .inr ⟨g, rfl, (ho.lt g hv).1⟩
  · by_cases hroom : n + m ≤ cap
    · obtain ⟨w2, hr2, _, _⟩ := run_append_fits (P := P) w B t ty e i size ht hi hsize g n cap xs hown' a m c news hl hnews h1 hroom
      rw [hr] at hr2
      obtain ⟨rfl, rfl⟩ : v' = _ ∧ w' = w2 := by injection hr2 with h1 h2; exact ⟨h1, h2⟩
      exact .inl rfl
    · have hr2 := run_append_grow (P := P) w t ty e i z ht hi hz ⟨g, 0, none⟩ n cap xs (by rw [hsize]; exact hown.1) (hown'.cells (g := g) rfl) a m c news (by rw [hsize]; exact hl) hnews (by omega) (by simp only [maxLen] at h63; omega) (growslice_fits (by omega) (by rw [hby]; exact hbytes))
      rw [hr] at hr2
      obtain ⟨rfl, _⟩ : v' = _ ∧ w' = _ := by injection hr2 with h1 h2; exact ⟨h1, h2⟩
      exact .inr ⟨_, rfl, Nat.le_refl _⟩

theorem run_app {P : Program} {α : Type} {s : Shp α} (g : s.Good) {w : World} {B : Nat} {t ty e : TypeId} {i : TypeInfo} {z : Value} {bytes : Nat} (ht : P.underlying t = some (.slice e)) (hi : P.info? e = some i) (hz : i.zero = some z)
    (hsize : i.size = s.size) (hby : i.bytes = bytes) (hzs : z.cells.size = s.size)
    {v : Value} {l : List α} {S : List Nat} (h : Own e s w B v l S) (hB : B ≤ w.heap.size)
    {a : Addr} {m c : Nat} {news : List Value} {l2 : List α} {T : List Nat} (hm : l2.length = m) (hnews : ∀ j u, news[j]? = some u → w.cell? (a.add j) = some u) (hrd : CellsRd s w news l2 T) (hT : New B T) (hd : ∀ b ∈ S, b ∉ T)
    (h63 : l.length + m ≤ 4294967296) (hbytes : (l.length + m) * bytes ≤ 140737488355328) :
    ∃ v' w' S', (Builtin.append_ #[t, t] ty #[v, .slice (some a) m c]).run P w = .ok v' w' ∧ Own e s w' B v' (l ++ l2) S' ∧ Frm S w w' ∧ ∀ b ∈ S', b ∈ S ∨ b ∈ T ∨ w.heap.size ≤ b := by
  have hOlt := h.lt g
  obtain ⟨xs, T0, hown, hc, rfl, hn⟩ := h
  have hl : news.length = m * s.size := by rw [hrd.len g, hm]
  have hmax : l.length + m ≤ maxLen := by simp only [maxLen]; omega
  obtain ⟨v', w', hr, ho, hgr, _⟩ := run_append_own (P := P) w B t ty e i z s.size bytes ht hi hz hsize hby hzs g.pos v l.length xs hown a m c news hl hnews (hrd.one g) hmax hbytes hB
  have hblk := append_blk ht hi hz hsize hby hzs g.pos hown hl hnews (hrd.one g) hmax hbytes hr
  have hfrm : Frm (v.ownBlock.toList ++ T0) w w' := ⟨hgr.os, hgr.tape, hgr.output, hgr.size, fun k hk hno => hgr.block k hk (fun e => hno (by simp [← e]))⟩
  have hT0 : ∀ k ∈ T0, w'.heap[k]? = w.heap[k]? := fun k hk => hgr.block k (hc.lt g k hk) (fun e => by
    have := (List.nodup_append.1 hn.1).2.2 k (by simp [← e]) k hk
    exact this rfl)
  have hTk : ∀ k ∈ T, w'.heap[k]? = w.heap[k]? := fun k hk => hgr.block k (hrd.lt g k hk) (fun e => hd k (by simp [← e]) hk)
  refine ⟨v', w', v'.ownBlock.toList ++ (T0 ++ T), hr, ⟨_, T0 ++ T, by rw [List.length_append, hm]; exact ho, (hc.keep g hT0).append (hrd.keep g hTk), rfl, ?_⟩, hfrm, ?_⟩
  · have hTT : New B (T0 ++ T) := New.append ⟨(List.nodup_append.1 hn.1).2.1, fun b hb => hn.2 b (by simp [hb])⟩ hT (fun b hb => hd b (by simp [hb]))
    refine New.append ?_ hTT ?_
    · cases hv : v'.ownBlock with
      | none => exact New.nil B
      | some k => exact ⟨by simp, fun b hb => by simp at hb; subst hb; exact (ho.lt _ hv).1⟩
    · intro b hb hm'
      rcases hblk with e | ⟨k, hk, hge⟩
      · rw [e] at hb
        rcases List.mem_append.1 hm' with h' | h'
        · exact (List.nodup_append.1 hn.1).2.2 b hb b h' rfl
        · exact hd b (by simp [hb]) h'
      · rw [hk] at hb
        simp at hb
        subst hb
        rcases List.mem_append.1 hm' with h' | h'
        · have := hc.lt g _ h'; omega
        · have := hrd.lt g _ h'; omega
  · intro b hb
    rcases List.mem_append.1 hb with h' | h'
    · rcases hblk with e | ⟨k, hk, hge⟩
      · exact .inl (by simp [← e, h'])
      · rw [hk] at h'; simp at h'; subst h'; exact .inr (.inr hge)
    · rcases List.mem_append.1 h' with h'' | h''
      · exact .inl (by simp [h''])
      · exact .inr (.inl h'')

/-- What the program's table says of a slice type t and its element type e. -/
structure ElemTy (P : Program) (t e : TypeId) (size bytes : Nat) : Prop where
  ht : P.underlying t = some (.slice e)
  hi : ∃ i z, P.info? e = some i ∧ i.zero = some z ∧ i.size = size ∧ i.bytes = bytes ∧ z.cells.size = size

theorem ElemTy.mk' {P : Program} {t e : TypeId} {size bytes : Nat} {z : Value} (ht : P.underlying t = some (.slice e)) (h : (P.info? e).map (fun i => (i.zero, i.size, i.bytes)) = some (some z, size, bytes)) (hz : z.cells.size = size) : ElemTy P t e size bytes := by
  obtain ⟨i, h1, h2, h3, h4⟩ := info_parts h
  exact ⟨ht, i, z, h1, h2, h3, h4, hz⟩

theorem wp_append_of {P : Program} {o : Oper} {a : Act} {w w' : World} {K : Act → World → Prop} {Q : Exit → Act → World → Prop} {sl x : Operand} {t : TypeId} {v vx v' : Value}
    (ho : o.op = .call { callee := .builtin .append, args := #[sl, x], argTypes := #[t, t] }) (hs : a.eval sl = v) (hx : a.eval x = vx)
    (hr : (Builtin.append_ #[t, t] o.type #[v, vx]).run P w = .ok v' w') (h : K (a.put o.dst v') w') : o.wp P a w K Q := by
  unfold Oper.wp execOp
  simp only [ho, resolve, invoke, builtin, Sem.run_bind, Sem.run_pure, Result.andThen_ok, List.map_toArray, List.map_cons, List.map_nil, hs, hx, hr]
  exact h

/-- append(v, vx..) -/
theorem wpList_app {P : Program} {t e bytes : Nat} {α : Type} {s : Shp α} (et : ElemTy P t e s.size bytes) (g : s.Good) {ops : Array Oper} {rest : List Oper} {o : Oper} {a : Act} {Q : Exit → Act → World → Prop} {w : World} (hgd : o.guard = none)
    (sl x : Operand) (ho : o.op = .call { callee := .builtin .append, args := #[sl, x], argTypes := #[t, t] }) {v : Value} {B : Nat} {l : List α} {S : List Nat} (hs : a.eval sl = v) (h : Own e s w B v l S) (hB : B ≤ w.heap.size)
    {ad : Addr} {m c : Nat} {news : List Value} {l2 : List α} {T : List Nat} (hx : a.eval x = .slice (some ad) m c) (hm : l2.length = m) (hnews : ∀ j u, news[j]? = some u → w.cell? (ad.add j) = some u) (hrd : CellsRd s w news l2 T) (hT : New B T) (hd : ∀ b ∈ S, b ∉ T)
    (h63 : l.length + m ≤ 4294967296) (hbytes : (l.length + m) * bytes ≤ 140737488355328)
    (K : ∀ v' w1 S', Own e s w1 B v' (l ++ l2) S' → Frm S w w1 → (∀ b ∈ S', b ∈ S ∨ b ∈ T ∨ w.heap.size ≤ b) → wpList P ops Q rest (a.put o.dst v') w1) : wpList P ops Q (o :: rest) a w := by
  obtain ⟨i, z, h1, h2, h3, h4, h5⟩ := et.hi
  obtain ⟨v', w', S', hr, ho', hf, hS⟩ := run_app (P := P) g (ty := o.type) et.ht h1 h2 h3 h4 h5 h hB hm hnews hrd hT hd h63 hbytes
  exact wpList_plain hgd fun _ hK => wp_append_of ho hs hx hr (hK _ _ (K v' w' S' ho' hf hS))

/-- append(v, x): one element, which lies in a new block of its own. -/
theorem wpList_app1 {P : Program} {t e bytes : Nat} {α : Type} {s : Shp α} (et : ElemTy P t e s.size bytes) (g : s.Good) {ops : Array Oper} {rest : List Oper} {o : Oper} {a : Act} {Q : Exit → Act → World → Prop} {w : World} (hgd : o.guard = none)
    (sl x : Operand) (ho : o.op = .call { callee := .builtin .append, args := #[sl, x], argTypes := #[t, t] }) {v : Value} {B : Nat} {l : List α} {S : List Nat} (hs : a.eval sl = v) (h : Own e s w B v l S) (hB : B ≤ w.heap.size)
    {cs : List Value} {y : α} {T : List Nat} {z : Nat} (hx : a.eval x = .slice (some ⟨z, 0, none⟩) 1 1) (hz : z = w.heap.size) (hrd : s.rd w cs y T) (hT : New B T) (hd : ∀ b ∈ S, b ∉ T)
    (h63 : l.length + 1 ≤ 4294967296) (hbytes : (l.length + 1) * bytes ≤ 140737488355328)
    (K : ∀ v' w1 S', Own e s w1 B v' (l ++ [y]) S' → Frm S w w1 → (∀ b ∈ S', b ∈ S ∨ b ∈ T ∨ w.heap.size ≤ b) → wpList P ops Q rest (a.put o.dst v') w1) : wpList P ops Q (o :: rest) a (w.alloc (.cells cs.toArray e)) := by
  subst hz
  have hb : Below w.heap.size w (w.alloc (.cells cs.toArray e)) := (Below.refl _ _).alloc (Nat.le_refl _) _
  refine wpList_app et g hgd sl x ho hs (h.below g hb) (by simp; omega) hx (l2 := [y]) rfl ?_ (CellsRd.single (g.below hrd hb)) hT hd h63 hbytes fun v' w1 S' h1 h2 h3 => K v' w1 S' h1 ?_ ?_
  · intro j u hu
    rw [Addr.add_lit, Nat.zero_add, World.cell?_alloc_new]
    simpa using hu
  · exact (Frm.of_below hb |>.mono (S' := S) (by simp)).trans h2 (fun i hi _ => hi)
  · intro b hb'
    rcases h3 b hb' with h | h | h
    · exact .inl h
    · exact .inr (.inl h)
    · exact .inr (.inr (by rw [World.size_alloc] at h; omega))

/-- A call of a function that has a body enters it. -/
def Enters (P : Program) (K : Nat) : Prop := ∀ args w, (callFunc K args).run P w = .ok (.enter K args) w
theorem Enters.mk {P : Program} {K : Nat} {fn : Func} (hK : P.funcs[K]? = some fn) (hb : fn.body.isNone = false) (hn : (fn.name == "runtime.NumGoroutine") = false) : Enters P K := by
  intro args w
  have h : ∀ (k : Program → Sem Next), Sem.run P (program >>= k) w = Sem.run P (k P) w := fun k => rfl
  unfold callFunc
  rw [h]
  simp only [hK, hn, hb]
  rfl

/-! ## what a call returns -/

theorem calls_gen {P : Program} {f : FuncId} {args : Array Value} {w : World} {R : Ending → World → Prop} (h : ∀ w', w' = w → Calls P f args w' R) : Calls P f args w R := h w rfl

/-- The call returns a value of which φ holds; all that was there stays. -/
def Ret (w : World) (φ : Value → World → Prop) (e : Ending) (w' : World) : Prop := ∃ v, e = .returned v ∧ Below w.heap.size w w' ∧ φ v w'

/-- The call returns a value and the world is as it was, but for draws. -/
def Quiet (w : World) (v : Value) (e : Ending) (w' : World) : Prop := e = .returned v ∧ ∃ n, w' = w.drewN n
theorem drawn_below {w w' : World} (h : ∃ n, w' = w.drewN n) : Below w.heap.size w w' := by obtain ⟨n, rfl⟩ := h; exact below_drewN n (Below.refl _ _)
theorem drewN_two (w : World) (m n : Nat) : ∃ k, (w.drewN m).drewN n = w.drewN k := ⟨m + n, by simp [World.drewN, Nat.add_assoc]⟩

theorem ret_int {k : IntKind} {a b : Int} (h : a = b) : Ending.returned (.int k a) = .returned (.int k b) := by rw [h]
theorem ret_bool {a b : Bool} (h : a = b) : Ending.returned (.bool a) = .returned (.bool b) := by rw [h]

end Go.Proofs.Ytjfcjkeghigipaa

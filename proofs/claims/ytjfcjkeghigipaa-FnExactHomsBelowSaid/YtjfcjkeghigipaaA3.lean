/-
  The effects of single operations: those that read. No program stands in this text.
-/
import Derived.Test.YtjfcjkeghigipaaA2
namespace Go.Proofs.Ytjfcjkeghigipaa
open Go.RowKit

/-! ## types -/
inductive TyD where
  | sc
  | slice (e : Nat)
  | struct (fs : List (Nat × Nat))
  | array (n e : Nat)
structure Ty where
  desc : TyD
  size : Nat
  bytes : Nat
  zero : List AV

def descB : TypeDesc → TyD → Bool
  | .slice e, .slice e' => e == e'
  | .struct fs, .struct gs => (fs.toList.map fun f => (f.offset, f.type)) == gs
  | .array n e, .array n' e' => n == n' && e == e'
  | .struct _, .sc => false
  | .array _ _, .sc => false
  | .slice _, .sc => false
  | _, .sc => true
  | _, _ => false
def zeroB : AV → Value → Bool
  | .sc (.int k n), .int k' n' => k == k' && n == n'
  | .sc (.bool b), .bool b' => b == b'
  | .sc (.string s), .string s' => s.data == s'.data
  | .sc .nilFunc, .nilFunc => true
  | .nil _, .slice none 0 0 => true
  | _, _ => false
def zerosB : List AV → List Value → Bool
  | [], [] => true
  | x :: xs, v :: vs => zeroB x v && zerosB xs vs
  | _, _ => false
def tyB (P : Program) (t : Nat) (y : Ty) : Bool :=
  match P.info? t with
  | none => false
  | some i => i.size == y.size && i.bytes == y.bytes && (match i.zero with | some z => zerosB y.zero z.cells.toList | none => false) && (match P.underlying t with | some d => descB d y.desc | none => false)
def tyOf : List (Nat × Ty) → Nat → Option Ty
  | [], _ => none
  | (k, y) :: r, t => bif Nat.beq t k then some y else tyOf r t
def TyOk (P : Program) (T : List (Nat × Ty)) : Prop := ∀ t y, tyOf T t = some y → tyB P t y = true

theorem tyOk_of {P : Program} : ∀ {T : List (Nat × Ty)}, (T.all fun p => tyB P p.1 p.2) = true → TyOk P T
  | [], _ => fun t y h => by simp [tyOf] at h
  | (k, z) :: r, h => fun t y hy => by
    simp only [List.all_cons, Bool.and_eq_true] at h
    simp only [tyOf] at hy
    cases hb : Nat.beq t k with
    | true =>
      rw [hb] at hy
      simp only [cond_true, Option.some.injEq] at hy
      subst hy
      rw [Nat.eq_of_beq_eq_true hb]
      exact h.1
    | false => rw [hb] at hy; exact tyOk_of h.2 t y hy

structure TyIs (P : Program) (t : Nat) (y : Ty) (i : TypeInfo) (z : Value) (d : TypeDesc) : Prop where
  info : P.info? t = some i
  size : i.size = y.size
  bytes : i.bytes = y.bytes
  zero : i.zero = some z
  zeros : zerosB y.zero z.cells.toList = true
  und : P.underlying t = some d
  desc : descB d y.desc = true
theorem TyOk.is {P : Program} {T : List (Nat × Ty)} (h : TyOk P T) {t : Nat} {y : Ty} (hy : tyOf T t = some y) : ∃ i z d, TyIs P t y i z d := by
  have := h t y hy
  unfold tyB at this
  cases hi : P.info? t with
  | none => rw [hi] at this; cases this
  | some i =>
    rw [hi] at this
    simp only [Bool.and_eq_true, beq_iff_eq] at this
    obtain ⟨⟨⟨h1, h2⟩, h3⟩, h4⟩ := this
    cases hz : i.zero with
    | none => rw [hz] at h3; cases h3
    | some z =>
      rw [hz] at h3
      cases hu : P.underlying t with
      | none => rw [hu] at h4; cases h4
      | some d => rw [hu] at h4; exact ⟨i, z, d, hi, h1, h2, hz, h3, hu, h4⟩

theorem zeroB_rep {x : AV} {v : Value} (h : zeroB x v = true) (w : World) (hp : Hp) (u : Us) (ν : Nu) : CellRep w hp u ν x v [] ∧ v.oneCell' = true := by
  unfold zeroB at h
  split at h
  · simp at h; obtain ⟨rfl, rfl⟩ := h; simp [CellRep, Rep1, Value.oneCell']
  · simp at h; subst h; simp [CellRep, Rep1, Value.oneCell']
  · rename_i s s'
    have : s = s' := by cases s; cases s'; simpa using h
    subst this; simp [CellRep, Rep1, Value.oneCell']
  · simp [CellRep, Rep1, Value.oneCell']
  · simp [CellRep, Rep1, Value.oneCell']
  · cases h
theorem zerosB_rep : ∀ {xs : List AV} {vs : List Value}, zerosB xs vs = true → ∀ (w : World) (hp : Hp) (u : Us) (ν : Nu), CellsRep w hp u ν xs vs [] ∧ ∀ v ∈ vs, v.oneCell' = true
  | [], [], _, _, _, _, _ => ⟨⟨rfl, rfl⟩, by simp⟩
  | [], _ :: _, h, _, _, _, _ => by simp [zerosB] at h
  | _ :: _, [], h, _, _, _, _ => by simp [zerosB] at h
  | x :: xs, v :: vs, h, w, hp, u, ν => by
    simp only [zerosB, Bool.and_eq_true] at h
    obtain ⟨h1, h2⟩ := zerosB_rep h.2 w hp u ν
    obtain ⟨h3, h4⟩ := zeroB_rep h.1 w hp u ν
    refine ⟨⟨v, vs, [], [], rfl, rfl, h3, h1⟩, ?_⟩
    intro y hy
    rcases List.mem_cons.1 hy with rfl | h'
    · exact h4
    · exact h2 y h'

theorem run_und {P : Program} {t : Nat} {d : TypeDesc} (h : P.underlying t = some d) (w : World) : (underlying t).run P w = .ok d w := by
  simp [underlying, h]
theorem run_size {P : Program} {t : Nat} {i : TypeInfo} (h : P.info? t = some i) (w : World) : (sizeOf t).run P w = .ok i.size w := by
  simp [sizeOf, typeInfo, h]

def TyD.isAgg : TyD → Bool
  | .struct _ => true
  | .array _ _ => true
  | _ => false
theorem run_isAgg {P : Program} {t : Nat} {y : Ty} {i : TypeInfo} {z : Value} {d : TypeDesc} (h : TyIs P t y i z d) (w : World) : (isAgg t).run P w = .ok y.desc.isAgg w := by
  unfold isAgg
  simp only [Sem.run_bind, run_und h.und, Result.andThen_ok]
  have := h.desc
  unfold descB at this
  split at this <;> simp_all [TyD.isAgg]
  all_goals (split <;> simp_all)

theorem run_loadVar_cells {P : Program} {t : Nat} {y : Ty} {i : TypeInfo} {z : Value} {d : TypeDesc} (h : TyIs P t y i z d) {w : World} {b o : Nat} {vs : List Value} (hl : vs.length = y.size) (h1 : y.desc.isAgg = false → y.size = 1)
    (hc : ∀ j u, vs[j]? = some u → w.cell? ⟨b, o + j, none⟩ = some u) :
    (loadVar t ⟨b, o, none⟩).run P w = .ok (if y.desc.isAgg then .agg vs.toArray else vs[0]?.getD undef) w := by
  unfold loadVar
  simp only [Sem.run_bind, run_isAgg h, Result.andThen_ok]
  cases hg : y.desc.isAgg with
  | true =>
    simp only [if_true, Sem.run_bind, run_size h.info, h.size, Result.andThen_ok, Sem.run_pure]
    rw [← hl, run_loadCells_list w ⟨b, o, none⟩ vs (fun j v hv => by rw [Addr.add_lit]; exact hc j v hv)]
    rfl
  | false =>
    have hs := h1 hg
    match vs, hl with
    | [], hl => simp [hs] at hl
    | u :: r, hl =>
      have := hc 0 u rfl
      rw [Nat.add_zero] at this
      simp [this]

/-! ## cells of the call's own blocks -/

theorem CellsRep.get {w : World} {h : Hp} {u : Us} {ν : Nu} : ∀ {cs : List AV} {vs : List Value} {S : List Nat}, CellsRep w h u ν cs vs S → ∀ {i : Nat} {x : AV}, cs[i]? = some x → ∃ v T, vs[i]? = some v ∧ CellRep w h u ν x v T ∧ ∀ y ∈ T, y ∈ S
  | [], _, _, _, i, x, hi => by simp at hi
  | c :: cs, vs, S, ⟨v, r, S1, S2, h1, h2, h3, h4⟩, 0, x, hi => by
    subst h1; subst h2
    simp at hi; subst hi
    exact ⟨v, S1, rfl, h3, fun y hy => by simp [hy]⟩
  | c :: cs, vs, S, ⟨v, r, S1, S2, h1, h2, h3, h4⟩, i + 1, x, hi => by
    subst h1; subst h2
    obtain ⟨v', T, e1, e2, e3⟩ := h4.get (i := i) (x := x) (by simpa using hi)
    exact ⟨v', T, by simpa using e1, e2, fun y hy => by simp [e3 y hy]⟩
theorem CellsRep.drop {w : World} {h : Hp} {u : Us} {ν : Nu} : ∀ {cs : List AV} {vs : List Value} {S : List Nat} (n : Nat), CellsRep w h u ν cs vs S → ∃ T, CellsRep w h u ν (cs.drop n) (vs.drop n) T ∧ ∀ y ∈ T, y ∈ S
  | cs, vs, S, 0, h => ⟨S, h, fun _ h => h⟩
  | [], vs, S, n + 1, h => ⟨[], by simp [h.1, CellsRep], by simp⟩
  | c :: cs, vs, S, n + 1, ⟨v, r, S1, S2, h1, h2, h3, h4⟩ => by
    subst h1; subst h2
    obtain ⟨T, e1, e2⟩ := h4.drop n
    exact ⟨T, by simpa using e1, fun y hy => by simp [e2 y hy]⟩
theorem CellsRep.take {w : World} {h : Hp} {u : Us} {ν : Nu} : ∀ {cs : List AV} {vs : List Value} {S : List Nat} (n : Nat), CellsRep w h u ν cs vs S → ∃ T, CellsRep w h u ν (cs.take n) (vs.take n) T ∧ ∀ y ∈ T, y ∈ S
  | cs, vs, S, 0, h => ⟨[], by simp [CellsRep], by simp⟩
  | [], vs, S, n + 1, h => ⟨[], by simp [h.1, CellsRep], by simp⟩
  | c :: cs, vs, S, n + 1, ⟨v, r, S1, S2, h1, h2, h3, h4⟩ => by
    subst h1; subst h2
    obtain ⟨T, e1, e2⟩ := h4.take n
    refine ⟨S1 ++ T, ⟨v, _, S1, T, rfl, rfl, h3, e1⟩, ?_⟩
    intro y hy
    rcases List.mem_append.1 hy with h' | h'
    · simp [h']
    · simp [e2 y h']

theorem flatten_at {α : Type} {k : Nat} : ∀ {es : List (List α)}, (∀ cs ∈ es, cs.length = k) → ∀ {i : Nat} {cs : List α}, es[i]? = some cs → ∃ r, es.flatten.drop (i * k) = cs ++ r
  | [], _, i, cs, hi => by simp at hi
  | c :: es, h, 0, cs, hi => by
    simp at hi; subst hi
    exact ⟨es.flatten, by simp⟩
  | c :: es, h, i + 1, cs, hi => by
    obtain ⟨r, e⟩ := flatten_at (es := es) (fun x hx => h x (by simp [hx])) (i := i) (cs := cs) (by simpa using hi)
    refine ⟨r, ?_⟩
    have hc := h c (by simp)
    rw [List.flatten_cons, List.drop_append, List.drop_eq_nil_of_le (by rw [hc, Nat.add_mul]; omega), List.nil_append, hc, show (i + 1) * k - k = i * k by rw [Nat.add_mul]; omega]
    exact e
theorem flatten_len {α : Type} {k : Nat} : ∀ {es : List (List α)}, (∀ cs ∈ es, cs.length = k) → es.flatten.length = es.length * k
  | [], _ => by simp
  | c :: es, h => by
    rw [List.flatten_cons, List.length_append, flatten_len (fun x hx => h x (by simp [hx])), h c (by simp), List.length_cons, Nat.add_mul]
    omega

/-- What is seen of a cell when it is loaded. -/
def view : AV → AV
  | .abs k es => .list k es
  | x => x

theorem CellRep.view {w : World} {h : Hp} {u : Us} {ν : Nu} {x : AV} {v : Value} {S : List Nat} (r : CellRep w h u ν x v S) (hf : ∀ y ∈ S, Free h ν y) : Rep1 w h u ν (view x) v ∧ view x ≠ .dead := by
  cases x <;> simp only [CellRep] at r <;> first
    | exact ⟨r.1, by simp [Proofs.Ytjfcjkeghigipaa.view]⟩
    | exact ⟨⟨S, r.repD, hf⟩, by simp [Proofs.Ytjfcjkeghigipaa.view]⟩
    | exact r.elim

theorem HeapOk.cells {B : Nat → Prop} {w : World} {h : Hp} {u : Us} {ν : Nu} {φ : Nat → List Nat} (hh : HeapOk B w h u ν φ) {b : Nat} {blk : Blk} (hb : h b = some blk) {i j n : Nat} {cs : List AV} (hi : blk.es[i]? = some cs) (hn : j + n ≤ cs.length) :
    ∃ β c vs, ν b = some (β, c) ∧ vs.length = n ∧ All2 (Rep1 w h u ν) (((cs.drop j).take n).map view) vs ∧ (∀ m v, vs[m]? = some v → w.cell? ⟨β, i * blk.k + j + m, none⟩ = some v ∧ w.frozen? ⟨β, i * blk.k + j + m, none⟩ = false) ∧ (∀ x ∈ ((cs.drop j).take n).map view, x ≠ .dead) := by
  obtain ⟨_, ⟨hk, hx⟩, hnd, hB⟩ := hh.blk b blk hb
  rcases hx with ⟨h1, h2, h3⟩ | ⟨β, c, arr, ty, T, vs, h1, h2, h3, h4, h5, h6, h7, h8⟩
  · rw [h2] at hi; simp at hi
  · have hlen := flatten_len hk
    obtain ⟨r, hr⟩ := flatten_at hk hi
    obtain ⟨T1, g1, g2⟩ := h8.drop (i * blk.k)
    rw [hr] at g1
    obtain ⟨T2, g3, g4⟩ := g1.drop j
    obtain ⟨T3, g5, g6⟩ := g3.take n
    rw [List.drop_append_of_le_length (by omega), List.take_append_of_le_length (by simp; omega)] at g5
    refine ⟨β, c, ((vs.drop (i * blk.k)).drop j).take n, h1, ?_, ?_, ?_, ?_⟩
    · rw [g5.len]; simp; omega
    · have hfree : ∀ y ∈ T3, Free h ν y := by
        intro y hy
        have hyT : y ∈ T := g2 y (g4 y (g6 y hy))
        have hyb : y ∈ φ b := by rw [h6]; simp [hyT]
        intro b2 blk2 β2 c2 hb2 hν2
        by_cases e : b2 = b
        · subst e
          rw [h1] at hν2
          injection hν2 with hν2
          injection hν2 with hβ _
          subst hβ
          rw [h6] at hnd
          intro e
          subst e
          exact (List.nodup_cons.1 hnd).1 hyT
        · intro e2
          subst e2
          obtain ⟨_, ⟨_, hx2⟩, _, _⟩ := hh.blk b2 blk2 hb2
          rcases hx2 with ⟨q1, _, _⟩ | ⟨β3, c3, _, _, T3', _, q1, _, _, _, _, q6, _, _⟩
          · rw [q1] at hν2; cases hν2
          · rw [q1] at hν2
            injection hν2 with hν2
            injection hν2 with hβ _
            subst hβ
            refine hh.apart b2 b β3 (by rw [hb2]; simp) (by rw [hb]; simp) e (by rw [q6]; simp) hyb
      clear hr g1 g3
      revert g5 hfree
      generalize ((cs.drop j).take n) = ds
      generalize ((vs.drop (i * blk.k)).drop j).take n = us
      intro g5 hfree
      clear g6
      induction ds generalizing us T3 with
      | nil => simp only [CellsRep] at g5; simp [All2, g5.1]
      | cons d ds ih =>
        obtain ⟨v, r', S1, S2, rfl, rfl, e3, e4⟩ := g5
        simp only [List.map_cons, All2]
        exact ⟨v, r', rfl, (e3.view (fun y hy => hfree y (by simp [hy]))).1, ih _ _ e4 (fun y hy => hfree y (by simp [hy]))⟩
    · intro m v hv
      have hm : m < n := by
        rcases Nat.lt_or_ge m n with h' | h'
        · exact h'
        · rw [List.getElem?_eq_none (by simp; omega)] at hv; cases hv
      rw [List.getElem?_take_of_lt hm, List.getElem?_drop, List.getElem?_drop, ← h7] at hv
      have hlt : i * blk.k + j + m < blk.es.length * blk.k := by
        rcases Nat.lt_or_ge (i * blk.k + j + m) (blk.es.length * blk.k) with h' | h'
        · exact h'
        · rw [List.getElem?_eq_none (by simp; omega)] at hv; cases hv
      rw [show i * blk.k + (j + m) = i * blk.k + j + m by omega, List.getElem?_take_of_lt hlt] at hv
      refine ⟨?_, ?_⟩
      · simp only [World.cell?, h2]
        simpa using hv
      · simp [World.frozen?, h2]
    · have : ∀ x ∈ (cs.drop j).take n, x ≠ .dead := by
        intro x hx
        obtain ⟨m, hm⟩ := List.mem_iff_getElem?.1 hx
        obtain ⟨v, T', _, e2, _⟩ := g5.get hm
        rintro rfl
        exact e2
      intro x hx
      obtain ⟨y, hy, rfl⟩ := List.mem_map.1 hx
      have := this y hy
      cases y <;> simp_all [Proofs.Ytjfcjkeghigipaa.view]
end Go.Proofs.Ytjfcjkeghigipaa

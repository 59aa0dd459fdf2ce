/-
  Abstract states: what is known of a function's temporaries and of the blocks that the call itself has made; when such knowledge fits a world. No program stands in this text.
-/
import Derived.Test.YtjfcjkeghigipaaA1
namespace Go.Proofs.Ytjfcjkeghigipaa
open Go.RowKit

structure Blk where
  k : Nat
  es : List (List AV)

abbrev Hp := Nat → Option Blk
abbrev Us := Nat → Bool
/-- Where a name's block lies, and its capacity; none: no block yet (a nil slice). -/
abbrev Nu := Nat → Option (Nat × Nat)

structure AState where
  env : Nat → Option AV
  heap : Hp
  used : Us
  ns : List Nat
  kp : Nat

/-- No block of the call's own lies there. -/
def Free (h : Hp) (ν : Nu) (x : Nat) : Prop := ∀ b blk β c, h b = some blk → ν b = some (β, c) → β ≠ x

/-- The value of a part of a block (an empty part at the end of the memory stays where the whole began). -/
def ownV (β i k n c : Nat) (v : Value) : Prop := ∃ o, v = .slice (some ⟨β, o, none⟩) n (c - i) ∧ (o = i * k ∨ (0 < i ∧ c ≤ i))
theorem ownV.pos {β i k n c : Nat} {v : Value} (h : ownV β i k n c v) (hi : i < c) : v = .slice (some ⟨β, i * k, none⟩) n (c - i) := by
  obtain ⟨o, h1, h2⟩ := h
  rcases h2 with rfl | h2
  · exact h1
  · omega
theorem ownV.zero {β k n c : Nat} {v : Value} (h : ownV β 0 k n c v) : v = .slice (some ⟨β, 0, none⟩) n c := by
  obtain ⟨o, h1, h2⟩ := h
  rcases h2 with rfl | h2
  · simpa using h1
  · omega
theorem ownV_zero {β k n c : Nat} : ownV β 0 k n c (.slice (some ⟨β, 0, none⟩) n c) := ⟨0, by simp, .inl (by simp)⟩

def Rep1 (w : World) (h : Hp) (u : Us) (ν : Nu) : AV → Value → Prop
  | .sc x, v => v = x ∧ x.oneCell' = true
  | .nil _, v => v = .slice none 0 0
  | .dead, _ => True
  | .list k es, v => ∃ S, RepD w (.list k es) v S ∧ ∀ x ∈ S, Free h ν x
  | .ref cs, v => ∃ S, RepD w (.ref cs) v S ∧ ∀ x ∈ S, Free h ν x
  | .own b i n, v => u b = true ∧ ∀ blk, h b = some blk → i + n ≤ blk.es.length ∧ (ν b = none → v = .slice none 0 0) ∧ ∀ β c, ν b = some (β, c) → ownV β i blk.k n c v
  | .ptr b i j, v => u b = true ∧ ∀ blk, h b = some blk → ∃ β c, ν b = some (β, c) ∧ v = .pointer (some ⟨β, i * blk.k + j, none⟩)
  | _, _ => False
def RepB (w : World) (h : Hp) (u : Us) (ν : Nu) : AV → Value → Prop
  | .agg cs, v => ∃ vs, v = .agg vs.toArray ∧ All2 (Rep1 w h u ν) cs vs
  | .fn f cs, v => ∃ vs, v = .func (.func f) #[] vs.toArray ∧ All2 (Rep1 w h u ν) cs vs
  | x, v => Rep1 w h u ν x v
def RepA (w : World) (h : Hp) (u : Us) (ν : Nu) : AV → Value → Prop
  | .tuple cs, v => ∃ vs, v = .tuple vs.toArray ∧ All2 (RepB w h u ν) cs vs
  | x, v => RepB w h u ν x v

/-- A cell of a block of the call's own. -/
def CellRep (w : World) (h : Hp) (u : Us) (ν : Nu) : AV → Value → List Nat → Prop
  | .abs k es, v, S => RepO w (.list k es) v S
  | .dead, _, _ => False
  | x, v, S => Rep1 w h u ν x v ∧ S = []
def CellsRep (w : World) (h : Hp) (u : Us) (ν : Nu) : List AV → List Value → List Nat → Prop
  | [], vs, S => vs = [] ∧ S = []
  | c :: cs, vs, S => ∃ v r S1 S2, vs = v :: r ∧ S = S1 ++ S2 ∧ CellRep w h u ν c v S1 ∧ CellsRep w h u ν cs r S2

def BlkOk (w : World) (h : Hp) (u : Us) (ν : Nu) (b : Nat) (blk : Blk) (S : List Nat) : Prop :=
  (∀ cs ∈ blk.es, cs.length = blk.k) ∧
  ((ν b = none ∧ blk.es = [] ∧ S = []) ∨
   ∃ β c arr ty T vs, ν b = some (β, c) ∧ w.heap[β]? = some (.cells arr ty (0, 0)) ∧ arr.size = c * blk.k ∧ blk.es.length ≤ c ∧ c ≤ maxLen ∧ S = β :: T ∧ arr.toList.take (blk.es.length * blk.k) = vs ∧ CellsRep w h u ν blk.es.flatten vs T)

/-- A call: the world that it came into, the blocks that it may make its own, and what it was handed (kp names). -/
structure Ctx where
  B : Nat
  w0 : World
  nt : Nat
  M : Nat → Prop
  low : ∀ x, M x → B ≤ x
  kp : Nat
  wE : World
  hE : Hp
  νE : Nu

structure HeapOk (B : Nat → Prop) (w : World) (h : Hp) (u : Us) (ν : Nu) (φ : Nat → List Nat) : Prop where
  blk : ∀ b blk, h b = some blk → u b = true ∧ BlkOk w h u ν b blk (φ b) ∧ (φ b).Nodup ∧ ∀ x ∈ φ b, B x
  apart : ∀ b c x, h b ≠ none → h c ≠ none → b ≠ c → x ∈ φ b → x ∉ φ c

/-! ## what stays -/

structure Ext (w : World) (h : Hp) (u : Us) (ν : Nu) (w' : World) (h' : Hp) (u' : Us) (ν' : Nu) : Prop where
  used : ∀ b, u b = true → u' b = true
  old : ∀ b blk', u b = true → h' b = some blk' → ∃ blk, h b = some blk ∧ blk.k = blk'.k ∧ blk.es.length = blk'.es.length ∧ ν' b = ν b
  free : ∀ x, x < w.heap.size → Free h ν x → w'.heap[x]? = w.heap[x]? ∧ Free h' ν' x

structure Sim (C : Ctx) (s : AState) (ν : Nu) (a : Act) (w : World) : Prop where
  below : Below C.B C.w0 w
  base : C.B ≤ w.heap.size
  fresh : ∀ x, w.heap.size ≤ x → C.M x
  defers : a.defers = []
  size : a.tmps.size = C.nt
  env : ∀ t x, s.env t = some x → ∃ v, a.tmps[t]? = some v ∧ RepA w s.heap s.used ν x v
  heap : ∃ φ, HeapOk C.M w s.heap s.used ν φ
  kp : s.kp = C.kp
  ext : Ext C.wE C.hE (fun b => Nat.blt b C.kp) C.νE w s.heap s.used ν

section
variable {w w' : World} {h h' : Hp} {u u' : Us} {ν ν' : Nu}
theorem Rep1.ext (e : Ext w h u ν w' h' u' ν') : ∀ {x : AV} {v : Value}, Rep1 w h u ν x v → Rep1 w' h' u' ν' x v
  | .sc _, _, r => r
  | .nil _, _, r => r
  | .dead, _, _ => trivial
  | .list k es, v, ⟨S, r, f⟩ => ⟨S, r.keep (fun x hx => (e.free x (r.lt x hx) (f x hx)).1), fun x hx => (e.free x (r.lt x hx) (f x hx)).2⟩
  | .ref cs, v, ⟨S, r, f⟩ => ⟨S, r.keep (fun x hx => (e.free x (r.lt x hx) (f x hx)).1), fun x hx => (e.free x (r.lt x hx) (f x hx)).2⟩
  | .own b i n, v, ⟨r1, r2⟩ => ⟨e.used b r1, fun blk' hb => by
      obtain ⟨blk, q1, q2, q3, q4⟩ := e.old b blk' r1 hb
      obtain ⟨p1, p2, p3⟩ := r2 blk q1
      rw [← q3, ← q2, q4]
      exact ⟨p1, p2, p3⟩⟩
  | .ptr b i j, v, ⟨r1, r2⟩ => ⟨e.used b r1, fun blk' hb => by
      obtain ⟨blk, q1, q2, q3, q4⟩ := e.old b blk' r1 hb
      rw [← q2, q4]
      exact r2 blk q1⟩
theorem RepB.ext (e : Ext w h u ν w' h' u' ν') {x : AV} {v : Value} (r : RepB w h u ν x v) : RepB w' h' u' ν' x v := by
  cases x <;> simp only [RepB] at r ⊢ <;> first
    | exact r.ext e
    | (obtain ⟨vs, h1, h2⟩ := r; exact ⟨vs, h1, h2.mono (fun _ _ h => h.ext e)⟩)
theorem RepA.ext (e : Ext w h u ν w' h' u' ν') {x : AV} {v : Value} (r : RepA w h u ν x v) : RepA w' h' u' ν' x v := by
  cases x <;> simp only [RepA] at r ⊢ <;> first
    | exact r.ext e
    | (obtain ⟨vs, h1, h2⟩ := r; exact ⟨vs, h1, h2.mono (fun _ _ h => h.ext e)⟩)
theorem CellRep.ext (e : Ext w h u ν w' h' u' ν') {x : AV} {v : Value} {S : List Nat} (hk : ∀ b ∈ S, w'.heap[b]? = w.heap[b]?) (r : CellRep w h u ν x v S) : CellRep w' h' u' ν' x v S := by
  cases x <;> simp only [CellRep] at r ⊢ <;> first
    | exact ⟨r.1.ext e, r.2⟩
    | exact r.keep hk
    | exact r
theorem CellsRep.ext (e : Ext w h u ν w' h' u' ν') : ∀ {cs : List AV} {vs : List Value} {S : List Nat}, (∀ b ∈ S, w'.heap[b]? = w.heap[b]?) → CellsRep w h u ν cs vs S → CellsRep w' h' u' ν' cs vs S
  | [], _, _, _, r => r
  | c :: cs, vs, S, hk, ⟨v, r, S1, S2, h1, h2, h3, h4⟩ => by
    subst h2
    exact ⟨v, r, S1, S2, h1, rfl, h3.ext e (fun x hx => hk x (by simp [hx])), h4.ext e (fun x hx => hk x (by simp [hx]))⟩
theorem BlkOk.ext (e : Ext w h u ν w' h' u' ν') {b : Nat} {blk : Blk} {S : List Nat} (hν : ν' b = ν b) (hk : ∀ x ∈ S, w'.heap[x]? = w.heap[x]?) (r : BlkOk w h u ν b blk S) : BlkOk w' h' u' ν' b blk S := by
  refine ⟨r.1, ?_⟩
  rcases r.2 with ⟨h1, h2, h3⟩ | ⟨β, c, arr, ty, T, vs, h1, h2, h3, h4, h5, rfl, h7, h8⟩
  · exact .inl ⟨hν.trans h1, h2, h3⟩
  · exact .inr ⟨β, c, arr, ty, T, vs, hν.trans h1, (hk β (by simp)).trans h2, h3, h4, h5, rfl, h7, h8.ext e (fun x hx => hk x (by simp [hx]))⟩
end

theorem CellRep.lt {w : World} {h : Hp} {u : Us} {ν : Nu} {x : AV} {v : Value} {S : List Nat} (r : CellRep w h u ν x v S) : ∀ b ∈ S, b < w.heap.size := by
  cases x <;> simp only [CellRep] at r <;> first
    | exact r.lt
    | (rw [r.2]; simp)
theorem CellsRep.lt {w : World} {h : Hp} {u : Us} {ν : Nu} : ∀ {cs : List AV} {vs : List Value} {S : List Nat}, CellsRep w h u ν cs vs S → ∀ b ∈ S, b < w.heap.size
  | [], _, _, r => by simp [r.2]
  | c :: cs, vs, S, ⟨v, r, S1, S2, h1, h2, h3, h4⟩ => by
    subst h2
    intro x hx
    rcases List.mem_append.1 hx with h | h
    · exact h3.lt x h
    · exact h4.lt x h
theorem CellsRep.len {w : World} {h : Hp} {u : Us} {ν : Nu} : ∀ {cs : List AV} {vs : List Value} {S : List Nat}, CellsRep w h u ν cs vs S → vs.length = cs.length
  | [], _, _, r => by simp [r.1]
  | c :: cs, vs, S, ⟨v, r, S1, S2, h1, h2, h3, h4⟩ => by subst h1; simp [h4.len]
theorem lt_of_some {w : World} {β : Nat} {o : Obj} (h : w.heap[β]? = some o) : β < w.heap.size := by
  rcases Nat.lt_or_ge β w.heap.size with h' | h'
  · exact h'
  · rw [Array.getElem?_eq_none h'] at h; cases h
theorem BlkOk.lt {w : World} {h : Hp} {u : Us} {ν : Nu} {b : Nat} {blk : Blk} {S : List Nat} (r : BlkOk w h u ν b blk S) : ∀ x ∈ S, x < w.heap.size := by
  rcases r.2 with ⟨h1, h2, h3⟩ | ⟨β, c, arr, ty, T, vs, h1, h2, h3, h4, h5, rfl, h7, h8⟩
  · simp [h3]
  · intro x hx
    rcases List.mem_cons.1 hx with rfl | h'
    · exact lt_of_some h2
    · exact h8.lt x h'
theorem Rep1.oneCell {w : World} {h : Hp} {u : Us} {ν : Nu} {x : AV} {v : Value} (r : Rep1 w h u ν x v) (hd : x ≠ .dead) (ho : ∀ b i n, x = .own b i n → h b ≠ none) (hp : ∀ b i n, x = .ptr b i n → h b ≠ none) : v.oneCell' = true := by
  cases x <;> simp only [Rep1] at r
  case sc => rw [r.1]; exact r.2
  case nil => rw [r]; rfl
  case dead => exact absurd rfl hd
  case list => obtain ⟨S, r, _⟩ := r; simp only [RepD] at r; obtain ⟨a, c, rfl, _⟩ := r; rfl
  case ref => obtain ⟨S, r, _⟩ := r; simp only [RepD] at r; obtain ⟨a, c, _, rfl, _⟩ := r; rfl
  case own b i n =>
    obtain ⟨r1, r2⟩ := r
    cases hb : h b with
    | none => exact absurd hb (ho b i n rfl)
    | some blk =>
      obtain ⟨p1, p2, p3⟩ := r2 blk hb
      cases hν : ν b with
      | none => rw [p2 hν]; rfl
      | some y => obtain ⟨β, c⟩ := y; obtain ⟨o, ho, _⟩ := p3 β c hν; rw [ho]; rfl
  case ptr b i n =>
    obtain ⟨r1, r2⟩ := r
    cases hb : h b with
    | none => exact absurd hb (hp b i n rfl)
    | some blk => obtain ⟨β, c, _, rfl⟩ := r2 blk hb; rfl

/-! ## operands -/

def constAV : Value → Option AV
  | .slice none 0 0 => some (.nil 0)
  | v => if v.oneCell' then some (.sc v) else none
theorem constAV_rep {w : World} {h : Hp} {u : Us} {ν : Nu} {v : Value} {x : AV} (e : constAV v = some x) : RepA w h u ν x v := by
  unfold constAV at e
  split at e
  · cases e; simp [RepA, RepB, Rep1]
  · split at e
    · rename_i ho
      cases e; simp [RepA, RepB, Rep1]; exact ho
    · cases e
def AState.ev (s : AState) : Operand → Option AV
  | .tmp t => s.env t
  | .const v => constAV v
  | .func f => some (.fn f [])
  | .global _ => none

theorem Sim.ev {C : Ctx} {s : AState} {ν : Nu} {a : Act} {w : World} (hs : Sim C s ν a w) {x : Operand} {v : AV} (h : s.ev x = some v) : RepA w s.heap s.used ν v (a.eval x) := by
  cases x with
  | tmp t =>
    obtain ⟨u, h1, h2⟩ := hs.env t v h
    simp only [Act.eval, Array.getD_eq_getD_getElem?, h1, Option.getD_some]
    exact h2
  | const u => exact constAV_rep h
  | func f => simp only [AState.ev, Option.some.injEq] at h; subst h; simp [RepA, RepB, Act.eval, All2]
  | global g => simp [AState.ev] at h

/-! ## steps -/

def upd (dst : Option Tmp) (v : AV) (e : Nat → Option AV) : Nat → Option AV :=
  match dst with
  | none => e
  | some d => fun t => bif Nat.beq t d then some v else e t

structure Eff where
  val : AV
  touch : List Nat
  edits : List (Nat × Option Blk)
  news : List Nat

def editHp (ed : List (Nat × Option Blk)) (h : Hp) : Hp :=
  match ed with
  | [] => h
  | (k, x) :: r => fun b => bif Nat.beq b k then x else editHp r h b
def addUs (ns : List Nat) (u : Us) : Us :=
  match ns with
  | [] => u
  | n :: r => fun b => Nat.beq b n || addUs r u b

def AState.app (s : AState) (dst : Option Tmp) (e : Eff) : AState := ⟨upd dst e.val s.env, editHp e.edits s.heap, addUs e.news s.used, s.ns.drop e.news.length, s.kp⟩

theorem beq_ne {t d : Nat} (h : t ≠ d) : Nat.beq t d = false := by
  cases h' : Nat.beq t d with
  | false => rfl
  | true => exact absurd (Nat.eq_of_beq_eq_true h') h

theorem put_env {a : Act} {nt : Nat} {dst : Option Tmp} {v : Value} {x : AV} {e : Nat → Option AV} {R : AV → Value → Prop} (hsz : a.tmps.size = nt) (hd : ∀ d, dst = some d → d < nt) (he : ∀ t x, e t = some x → ∃ v, a.tmps[t]? = some v ∧ R x v) (hv : R x v) :
    ∀ t y, upd dst x e t = some y → ∃ v', (a.put dst v).tmps[t]? = some v' ∧ R y v' := by
  cases dst with
  | none => exact he
  | some d =>
    intro t y h
    have hd' : d < a.tmps.size := by rw [hsz]; exact hd d rfl
    simp only [upd] at h
    by_cases htd : t = d
    · subst htd
      rw [show Nat.beq t t = true by simp] at h
      simp only [cond_true, Option.some.injEq] at h
      subst h
      refine ⟨v, ?_, hv⟩
      simp only [Act.put]
      rw [Array.getElem?_setIfInBounds_self_of_lt hd']
    · rw [beq_ne htd] at h
      obtain ⟨u, h1, h2⟩ := he t y h
      refine ⟨u, ?_, h2⟩
      simp only [Act.put]
      rw [Array.getElem?_setIfInBounds_ne (fun e => htd e.symm)]
      exact h1

theorem size_put {a : Act} {dst : Option Tmp} {v : Value} : (a.put dst v).tmps.size = a.tmps.size := by cases dst <;> simp [Act.put]
theorem defers_put {a : Act} {dst : Option Tmp} {v : Value} : (a.put dst v).defers = a.defers := by cases dst <;> simp [Act.put]

theorem Ext.trans {w w1 w2 : World} {h h1 h2 : Hp} {u u1 u2 : Us} {ν ν1 ν2 : Nu} (a : Ext w h u ν w1 h1 u1 ν1) (b : Ext w1 h1 u1 ν1 w2 h2 u2 ν2) : Ext w h u ν w2 h2 u2 ν2 where
  used := fun x hx => b.used x (a.used x hx)
  old := fun x blk2 hx h => by
    obtain ⟨blk1, e1, e2, e3, e4⟩ := b.old x blk2 (a.used x hx) h
    obtain ⟨blk0, f1, f2, f3, f4⟩ := a.old x blk1 hx e1
    exact ⟨blk0, f1, f2.trans e2, f3.trans e3, e4.trans f4⟩
  free := fun x hx hf => by
    obtain ⟨e1, e2⟩ := a.free x hx hf
    obtain ⟨f1, f2⟩ := b.free x (lt_of_heap hx e1) e2
    exact ⟨f1.trans e1, f2⟩

theorem Sim.step {C : Ctx} {s s' : AState} {ν ν' : Nu} {a : Act} {w w' : World} {dst : Option Tmp} {x : AV} {v : Value} (hs : Sim C s ν a w) (hd : ∀ d, dst = some d → d < C.nt)
    (ext : Ext w s.heap s.used ν w' s'.heap s'.used ν') (hw : Below C.B w w') (hh : ∃ φ, HeapOk C.M w' s'.heap s'.used ν' φ) (he : s'.env = upd dst x s.env) (hv : RepA w' s'.heap s'.used ν' x v) (hkp : s'.kp = s.kp := by rfl) :
    Sim C s' ν' (a.put dst v) w' where
  below := hs.below.trans hw
  base := Nat.le_trans hs.base hw.size
  fresh := fun x hx => hs.fresh x (Nat.le_trans hw.size hx)
  kp := hkp.trans hs.kp
  ext := hs.ext.trans ext
  defers := by rw [defers_put]; exact hs.defers
  size := by rw [size_put]; exact hs.size
  env := by
    rw [he]
    exact put_env hs.size hd (fun t x h => by obtain ⟨v, h1, h2⟩ := hs.env t x h; exact ⟨v, h1, h2.ext ext⟩) hv
  heap := hh

theorem Ext.refl (w : World) (h : Hp) (u : Us) (ν : Nu) : Ext w h u ν w h u ν :=
  ⟨fun _ h => h, fun _ blk _ h => ⟨blk, h, rfl, rfl, rfl⟩, fun _ _ h => ⟨rfl, h⟩⟩

/-- An operation's effect: in whatever state that agrees on what it looks at. -/
structure AEff (P : Program) (o : Oper) (ins : Operand → Option AV) (hp : Hp) (e : Eff) : Prop where
  out : ∀ (C : Ctx) (s : AState) (ν : Nu) (a : Act) (w : World) (Q : Exit → Act → World → Prop) (K : Act → World → Prop), (∀ x ∈ o.op.operands, s.ev x = ins x) → (∀ b ∈ e.touch, s.heap b = hp b) → (∀ b ∈ e.news, s.used b = false) →
    (∀ d, o.dst = some d → d < C.nt) → Sim C s ν a w → (∀ ν' a' w', Sim C (s.app o.dst e) ν' a' w' → K a' w') → o.wp P a w K Q

theorem AEff.pure {P : Program} {o : Oper} {ins : Operand → Option AV} {hp : Hp} {x : AV} {touch : List Nat}
    (h : ∀ (C : Ctx) (s : AState) (ν : Nu) (a : Act) (w : World), (∀ x ∈ o.op.operands, s.ev x = ins x) → (∀ b ∈ touch, s.heap b = hp b) → Sim C s ν a w → ∃ v, (execOp a.eval o).run P w = .ok (.value v) w ∧ RepA w s.heap s.used ν x v) :
    AEff P o ins hp ⟨x, touch, [], []⟩ := by
  refine ⟨fun C s ν a w Q K hi ht _ hd hs hk => ?_⟩
  obtain ⟨v, h1, h2⟩ := h C s ν a w hi ht hs
  unfold Oper.wp
  rw [h1]
  simp only [Oper.upon]
  exact hk ν _ w (hs.step hd (Ext.refl _ _ _ _) (Below.refl _ _) hs.heap rfl h2)
end Go.Proofs.Ytjfcjkeghigipaa

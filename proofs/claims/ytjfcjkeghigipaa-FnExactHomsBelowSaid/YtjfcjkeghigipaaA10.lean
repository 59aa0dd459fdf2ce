/-
  Regions: the operations in the written order stand for whatever order is drawn. No program stands in this text.
-/
import Derived.Test.YtjfcjkeghigipaaA9
import Derived.Orders
namespace Go.Proofs.Ytjfcjkeghigipaa
open Go.RowKit

def deadEff : Eff := ⟨.dead, [], [], []⟩

/-- Whether an operation with a guard is wanted. -/
def wantedA (ops : Array Oper) (e : Nat → Option AV) (o : Oper) : Option Bool :=
  match o.guard with
  | none => some true
  | some (j, b) => match ((ops[j]?).bind (·.dst)).bind e with
    | some (.sc (.bool v)) => some (v == b)
    | _ => none

def dstOk (o : Oper) (nt : Nat) : Prop := ∀ d, o.dst = some d → d < nt

def Step (P : Program) (ops : Array Oper) (nt : Nat) (o : Oper) (s : AState) (e : Eff) : Prop :=
  dstOk o nt ∧ ((wantedA ops s.env o = some true ∧ AEff P o s.ev s.heap e ∧ ∀ b ∈ e.news, s.used b = false) ∨ (wantedA ops s.env o = some false ∧ e = deadEff))

theorem wanted_of {C : Ctx} {s : AState} {ν : Nu} {a : Act} {w : World} (hs : Sim C s ν a w) {ops : Array Oper} {o : Oper} {t : Bool} (h : wantedA ops s.env o = some t) : Region.wanted o (yielded ops a.tmps) = t := by
  unfold wantedA at h
  unfold Region.wanted
  cases hg : o.guard with
  | none => rw [hg] at h; simpa using h
  | some p =>
    obtain ⟨j, b⟩ := p
    rw [hg] at h
    simp only at h ⊢
    cases hd : (ops[j]?).bind (·.dst) with
    | none => rw [hd] at h; simp at h
    | some d =>
      rw [hd] at h
      simp only [Option.bind_some] at h
      split at h
      · rename_i v hv
        simp only [Option.some.injEq] at h
        obtain ⟨u, h1, h2⟩ := hs.env d _ hv
        simp only [RepA, RepB, Rep1] at h2
        simp only [yielded, hd, Option.bind_some, h1, h2.1]
        subst h
        cases v <;> cases b <;> rfl
      · cases h

theorem app_dead {s : AState} {dst : Option Tmp} : s.app dst deadEff = ⟨upd dst .dead s.env, s.heap, s.used, s.ns, s.kp⟩ := rfl

theorem Sim.skip {C : Ctx} {s : AState} {ν : Nu} {a : Act} {w : World} (hs : Sim C s ν a w) {o : Oper} (hd : dstOk o C.nt) (v : Value) : Sim C (s.app o.dst deadEff) ν (a.put o.dst v) w :=
  hs.step hd (Ext.refl _ _ _ _) (Below.refl _ _) hs.heap rfl (by simp [RepA, RepB, Rep1, deadEff])

theorem step_sound {P : Program} {ops : Array Oper} {C : Ctx} {o : Oper} {s : AState} {e : Eff} (h : Step P ops C.nt o s e) {ν : Nu} {a : Act} {w : World} (hs : Sim C s ν a w) {Q : Exit → Act → World → Prop} {K : Act → World → Prop} (hK : ∀ ν' a' w', Sim C (s.app o.dst e) ν' a' w' → K a' w') :
    if Region.wanted o (yielded ops a.tmps) then o.wp P a w K Q else K (a.put o.dst undef) w := by
  obtain ⟨hd, h⟩ := h
  rcases h with ⟨h1, h2, h3⟩ | ⟨h1, rfl⟩
  · rw [if_pos (wanted_of hs h1)]
    exact h2.out C s ν a w Q K (fun _ _ => rfl) (fun _ _ => rfl) h3 hd hs hK
  · rw [if_neg (by rw [wanted_of hs h1]; simp)]
    exact hK ν _ _ (hs.skip hd undef)

/-! ## the written order -/
def Run (P : Program) (ops : Array Oper) (nt : Nat) : List Oper → AState → List Eff → AState → Prop
  | [], s, es, s' => es = [] ∧ s' = s
  | o :: r, s, es, s' => ∃ e es', es = e :: es' ∧ Step P ops nt o s e ∧ Run P ops nt r (s.app o.dst e) es' s'

theorem run_list {P : Program} {ops : Array Oper} {C : Ctx} {Q : Exit → Act → World → Prop} {s' : AState} (hQ : ∀ ν a w, Sim C s' ν a w → Q .normal a w) : ∀ {l : List Oper} {s : AState} {es : List Eff}, Run P ops C.nt l s es s' → ∀ {ν : Nu} {a : Act} {w : World}, Sim C s ν a w → wpList P ops Q l a w
  | [], s, es, h, ν, a, w, hs => by
    obtain ⟨_, h⟩ := h
    subst h
    exact hQ ν a w hs
  | o :: r, s, es, ⟨e, es', _, hst, hr⟩, ν, a, w, hs => by
    refine wpList_step fun K hK => ?_
    exact step_sound hst hs fun ν' a' w' hs' => hK _ _ (run_list hQ hr hs')

/-! ## whatever order -/
def writes (e : Eff) : List Nat := e.edits.map (·.1) ++ e.news
def disj (l m : List Nat) : Bool := l.all fun x => m.all fun y => !Nat.beq x y
structure Tr where
  touch : List Nat
  writes : List Nat
def trOf (e : Eff) : Tr := ⟨e.touch, writes e⟩
def Tr.indep (a b : Tr) : Bool := disj a.writes (b.touch ++ b.writes) && disj b.writes (a.touch ++ a.writes)

theorem disj_spec {l m : List Nat} (h : disj l m = true) {x : Nat} (hx : x ∈ l) : x ∉ m := by
  unfold disj at h
  rw [List.all_eq_true] at h
  have h1 := h x hx
  rw [List.all_eq_true] at h1
  intro hm
  have := h1 x hm
  simp at this

theorem upd_ne {dst : Option Tmp} {v : AV} {e : Nat → Option AV} {t : Nat} (h : dst ≠ some t) : upd dst v e t = e t := by
  cases dst with
  | none => rfl
  | some d => simp only [upd]; rw [beq_ne (by rintro rfl; exact h rfl)]; rfl
theorem upd_comm {d1 d2 : Option Tmp} {v1 v2 : AV} {e : Nat → Option AV} (h : ∀ d, d1 = some d → d2 ≠ some d) : upd d1 v1 (upd d2 v2 e) = upd d2 v2 (upd d1 v1 e) := by
  cases d1 with
  | none => rfl
  | some a =>
    cases d2 with
    | none => rfl
    | some b =>
      have hne : b ≠ a := fun e => h a rfl (by rw [e])
      funext t
      simp only [upd]
      by_cases h1 : t = a
      · subst h1
        rw [beq_ne (Ne.symm hne), beq_self]; rfl
      · rw [beq_ne h1]; rfl
theorem editHp_ne : ∀ {ed : List (Nat × Option Blk)} {h : Hp} {b : Nat}, b ∉ ed.map (·.1) → editHp ed h b = h b
  | [], h, b, _ => rfl
  | (k, x) :: r, h, b, hb => by
    simp only [List.map_cons, List.mem_cons, not_or] at hb
    simp only [editHp]
    rw [beq_ne hb.1]
    exact editHp_ne hb.2
theorem editHp_eq : ∀ {ed : List (Nat × Option Blk)} {h h' : Hp} {b : Nat}, b ∈ ed.map (·.1) → editHp ed h b = editHp ed h' b
  | [], h, h', b, hb => by cases hb
  | (k, x) :: r, h, h', b, hb => by
    simp only [editHp]
    by_cases e : b = k
    · subst e; rw [beq_self]; rfl
    · rw [beq_ne e]
      simp only [List.map_cons, List.mem_cons, e, false_or] at hb
      exact editHp_eq hb
theorem editHp_comm {e1 e2 : List (Nat × Option Blk)} {h : Hp} (hd : ∀ b, b ∈ e1.map (·.1) → b ∉ e2.map (·.1)) : editHp e1 (editHp e2 h) = editHp e2 (editHp e1 h) := by
  funext b
  by_cases h1 : b ∈ e1.map (·.1)
  · rw [editHp_ne (hd b h1)]
    exact editHp_eq h1
  · rw [editHp_ne h1]
    by_cases h2 : b ∈ e2.map (·.1)
    · exact editHp_eq h2
    · rw [editHp_ne h2, editHp_ne h2, editHp_ne h1]
theorem addUs_spec : ∀ {ns : List Nat} {u : Us} {b : Nat}, addUs ns u b = (ns.contains b || u b)
  | [], u, b => by simp [addUs]
  | n :: r, u, b => by
    simp only [addUs, addUs_spec (ns := r), List.contains_cons]
    have : Nat.beq b n = (b == n) := by
      by_cases h : b = n
      · subst h; simp
      · rw [beq_ne h]; simp [h]
    rw [this, Bool.or_assoc]
theorem addUs_comm {n1 n2 : List Nat} {u : Us} : addUs n1 (addUs n2 u) = addUs n2 (addUs n1 u) := by
  funext b
  simp only [addUs_spec]
  cases n1.contains b <;> cases n2.contains b <;> rfl

theorem ev_upd {s : AState} {dst : Option Tmp} {e : Eff} {x : Operand} (h : ∀ d, dst = some d → x ≠ .tmp d) : (s.app dst e).ev x = s.ev x := by
  cases x with
  | tmp t => exact upd_ne (fun e => h t e rfl)
  | const v => rfl
  | func f => rfl
  | global g => rfl

theorem wantedA_upd {ops : Array Oper} {s : AState} {dst : Option Tmp} {e : Eff} {o : Oper} (h : ∀ d, dst = some d → d ∉ o.looksAt ops) : wantedA ops (s.app dst e).env o = wantedA ops s.env o := by
  unfold wantedA
  cases hg : o.guard with
  | none => rfl
  | some p =>
    obtain ⟨j, b⟩ := p
    simp only
    cases hd : (ops[j]?).bind (·.dst) with
    | none => rfl
    | some d =>
      simp only [Option.bind_some]
      have : (s.app dst e).env d = s.env d := upd_ne (fun e => h d e (by
        unfold Oper.looksAt
        refine List.mem_append_right _ ?_
        rw [hg]
        simp [hd]))
      rw [this]

theorem AEff.congr {P : Program} {o : Oper} {i1 i2 : Operand → Option AV} {h1 h2 : Hp} {e : Eff} (hi : ∀ x ∈ o.op.operands, i1 x = i2 x) (hh : ∀ b ∈ e.touch, h1 b = h2 b) (h : AEff P o i1 h1 e) : AEff P o i2 h2 e := by
  refine ⟨fun C s ν a w Q K g1 g2 => ?_⟩
  exact h.out C s ν a w Q K (fun x hx => (g1 x hx).trans (hi x hx).symm) (fun b hb => (g2 b hb).trans (hh b hb).symm)

theorem looks_op {ops : Array Oper} {o : Oper} {d : Tmp} (h : d ∉ o.looksAt ops) : ∀ x ∈ o.op.operands, x ≠ .tmp d := by
  rintro x hx rfl
  refine h ?_
  unfold Oper.looksAt
  refine List.mem_append_left _ ?_
  rw [List.mem_filterMap]
  exact ⟨.tmp d, Array.mem_toList_iff.2 hx, rfl⟩

theorem step_swap {P : Program} {ops : Array Oper} {nt : Nat} {o1 o2 : Oper} {s : AState} {e1 e2 : Eff} (hap : o1.apart ops o2 = true) (hin : (trOf e1).indep (trOf e2) = true)
    (h1 : Step P ops nt o1 s e1) (h2 : Step P ops nt o2 (s.app o1.dst e1) e2) : Step P ops nt o2 s e2 ∧ Step P ops nt o1 (s.app o2.dst e2) e1 ∧ (s.app o1.dst e1).app o2.dst e2 = (s.app o2.dst e2).app o1.dst e1 := by
  obtain ⟨a1, a2, a3⟩ := Oper.apart_spec hap
  unfold Tr.indep at hin
  simp only [Bool.and_eq_true, trOf] at hin
  obtain ⟨i1, i2⟩ := hin
  have w12 : ∀ b ∈ e2.touch, b ∉ e1.edits.map (·.1) := fun b hb hm => disj_spec i1 (x := b) (by unfold writes; exact List.mem_append_left _ hm) (List.mem_append_left _ hb)
  have w21 : ∀ b ∈ e1.touch, b ∉ e2.edits.map (·.1) := fun b hb hm => disj_spec i2 (x := b) (by unfold writes; exact List.mem_append_left _ hm) (List.mem_append_left _ hb)
  refine ⟨⟨h2.1, ?_⟩, ⟨h1.1, ?_⟩, ?_⟩
  · rcases h2.2 with ⟨g1, g2, g3⟩ | ⟨g1, g2⟩
    · refine .inl ⟨by rw [wantedA_upd a1] at g1; exact g1, g2.congr (fun x hx => ev_upd (fun d hd => looks_op (a1 d hd) x hx)) (fun b hb => editHp_ne (w12 b hb)), fun b hb => ?_⟩
      have := g3 b hb
      simp only [AState.app, addUs_spec, Bool.or_eq_false_iff] at this
      exact this.2
    · exact .inr ⟨by rw [wantedA_upd a1] at g1; exact g1, g2⟩
  · rcases h1.2 with ⟨g1, g2, g3⟩ | ⟨g1, g2⟩
    · refine .inl ⟨by rw [wantedA_upd a3]; exact g1, g2.congr (fun x hx => (ev_upd (fun d hd => looks_op (a3 d hd) x hx)).symm) (fun b hb => (editHp_ne (w21 b hb)).symm), fun b hb => ?_⟩
      simp only [AState.app, addUs_spec, Bool.or_eq_false_iff]
      refine ⟨?_, g3 b hb⟩
      cases hc : e2.news.contains b with
      | false => rfl
      | true =>
        refine absurd ?_ (disj_spec i1 (x := b) (by unfold writes; exact List.mem_append_right _ hb))
        unfold writes
        simp only [List.mem_append]
        exact .inr (.inr (by simpa using hc))
    · exact .inr ⟨by rw [wantedA_upd a3]; exact g1, g2⟩
  · unfold AState.app
    simp only [AState.mk.injEq]
    refine ⟨upd_comm (fun d hd e => a2 d e hd), editHp_comm (fun b hb hm => ?_), addUs_comm, by rw [List.drop_drop, List.drop_drop, Nat.add_comm], trivial⟩
    exact disj_spec i2 (x := b) (by unfold writes; exact List.mem_append_left _ hb) (by unfold writes; exact List.mem_append_right _ (List.mem_append_left _ hm))

/-- The operations of a list of places. -/
def RunI (P : Program) (ops : Array Oper) (nt : Nat) (E : Nat → Eff) : List Nat → AState → AState → Prop
  | [], s, s' => s' = s
  | i :: r, s, s' => ∃ o, ops[i]? = some o ∧ Step P ops nt o s (E i) ∧ RunI P ops nt E r (s.app o.dst (E i)) s'

def indepI (ops : Array Oper) (E : Nat → Tr) (i j : Nat) : Bool :=
  match ops[i]?, ops[j]? with
  | some a, some b => a.apart ops b && (E i).indep (E j)
  | _, _ => false

theorem runI_front {P : Program} {ops : Array Oper} {nt : Nat} {E : Nat → Eff} {j : Nat} {s' : AState} : ∀ {c1 c2 : List Nat} {s : AState}, RunI P ops nt E (c1 ++ j :: c2) s s' → (∀ i ∈ c1, indepI ops (fun i => trOf (E i)) i j = true) → RunI P ops nt E (j :: (c1 ++ c2)) s s'
  | [], c2, s, h, _ => h
  | i :: c1, c2, s, ⟨o1, g1, g2, g3⟩, hi => by
    obtain ⟨o2, k1, k2, k3⟩ := runI_front g3 (fun x hx => hi x (by simp [hx]))
    have hij := hi i (by simp)
    unfold indepI at hij
    rw [g1, k1] at hij
    simp only [Bool.and_eq_true] at hij
    obtain ⟨m1, m2, m3⟩ := step_swap hij.1 hij.2 g2 k2
    rw [m3] at k3
    exact ⟨o2, k1, m1, o1, g1, m2, k3⟩

def edgesOn (o : Oper) : List Nat := (o.after.toList.filter (Region.binds .any)).map (·.on)

/-- What the certificate M must be: the places that lie ahead of each place. -/
def aheadOk (ops : Array Oper) (M : List Nat) : Bool :=
  (List.range ops.size).all fun j => match ops[j]? with
    | none => true
    | some o => ((edgesOn o).all fun e => Nat.blt e j) && (List.range ops.size).all fun c => !(M.getD j 0).testBit c || (edgesOn o).any fun e => Nat.beq e c || (M.getD e 0).testBit c
def regionOk (ops : Array Oper) (tr : List Tr) : Bool :=
  let M := (Region.before ops).toList
  aheadOk ops M && (List.range ops.size).all fun j => (List.range j).all fun i => (M.getD j 0).testBit i || indepI ops (fun i => tr.getD i ⟨[], []⟩) i j

theorem ready_spec {ops : Array Oper} {listed : Array Bool} {i : Nat} (h : i ∈ Region.ready .any ops listed) : i < ops.size ∧ listed.getD i true = false ∧ ∃ o, ops[i]? = some o ∧ ∀ e ∈ edgesOn o, listed.getD e false = true := by
  unfold Region.ready at h
  rw [List.mem_filter, List.mem_range] at h
  obtain ⟨h1, h2⟩ := h
  simp only [Bool.and_eq_true, Bool.not_eq_true'] at h2
  refine ⟨h1, h2.1, ops[i], by simp [h1], ?_⟩
  have h3 := h2.2
  simp only [h1, getElem?_pos, Option.map_some, Option.getD_some] at h3
  intro e he
  unfold edgesOn at he
  rw [List.mem_map] at he
  obtain ⟨x, hx, rfl⟩ := he
  rw [List.mem_filter] at hx
  rw [Array.all_eq_true'] at h3
  have := h3 x (Array.mem_toList_iff.1 hx.1)
  rw [hx.2] at this
  simpa using this

theorem ready_mk {ops : Array Oper} {listed : Array Bool} {i : Nat} (h1 : i < ops.size) (h2 : listed.getD i true = false) (h3 : ∀ e ∈ edgesOn ops[i], listed.getD e false = true) : i ∈ Region.ready .any ops listed := by
  unfold Region.ready
  rw [List.mem_filter, List.mem_range]
  refine ⟨h1, ?_⟩
  simp only [Bool.and_eq_true, Bool.not_eq_true', h2, h1, getElem?_pos, Option.map_some, Option.getD_some, true_and]
  rw [Array.all_eq_true']
  intro x hx
  cases hb : Region.binds .any x with
  | false => rfl
  | true =>
    have := h3 x.on (by unfold edgesOn; rw [List.mem_map]; exact ⟨x, List.mem_filter.2 ⟨Array.mem_toList_iff.2 hx, hb⟩, rfl⟩)
    simpa using this

def restOf (n : Nat) (listed : Array Bool) : List Nat := (List.range n).filter fun i => !listed.getD i true

theorem restOf_set {n : Nat} {listed : Array Bool} {i : Nat} (hsz : listed.size = n) (hi : i < n) (hl : listed.getD i true = false) : ∃ c1 c2, restOf n listed = c1 ++ i :: c2 ∧ restOf n (listed.setIfInBounds i true) = c1 ++ c2 ∧ ∀ c ∈ c1, c < i ∧ listed.getD c true = false := by
  have hr : List.range n = List.range i ++ i :: (List.range (n - i - 1)).map (fun k => i + 1 + k) := by
    have h1 : List.range n = List.range (i + (n - i)) := by congr 1; omega
    rw [h1, List.range_add]
    congr 1
    rw [show n - i = (n - i - 1) + 1 by omega, List.range_succ_eq_map, List.map_cons, List.map_map]
    congr 1
    apply List.map_congr_left
    intro k _
    simp only [Function.comp_apply, Nat.succ_eq_add_one]
    omega
  have hother : ∀ c, c ≠ i → (listed.setIfInBounds i true).getD c true = listed.getD c true := by
    intro c hc
    simp only [Array.getD_eq_getD_getElem?]
    rw [Array.getElem?_setIfInBounds_ne (Ne.symm hc)]
  have hself : (listed.setIfInBounds i true).getD i true = true := by
    simp only [Array.getD_eq_getD_getElem?]
    rw [Array.getElem?_setIfInBounds_self_of_lt (by omega)]
    rfl
  refine ⟨(List.range i).filter fun i => !listed.getD i true, ((List.range (n - i - 1)).map (fun k => i + 1 + k)).filter fun i => !listed.getD i true, ?_, ?_, ?_⟩
  · unfold restOf
    rw [hr, List.filter_append, List.filter_cons, if_pos (by rw [hl]; rfl)]
  · unfold restOf
    rw [hr, List.filter_append, List.filter_cons, if_neg (by rw [hself]; simp)]
    congr 1
    · apply List.filter_congr
      intro c hc
      rw [hother c (by have := List.mem_range.1 hc; omega)]
    · apply List.filter_congr
      intro c hc
      obtain ⟨k, _, rfl⟩ := List.mem_map.1 hc
      rw [hother _ (by omega)]
  · intro c hc
    rw [List.mem_filter, List.mem_range] at hc
    exact ⟨hc.1, by simpa using hc.2⟩

theorem getD_false {listed : Array Bool} {i : Nat} (h : i < listed.size) : listed.getD i false = listed.getD i true := by
  simp [Array.getD_eq_getD_getElem?, h]

theorem run_any {P : Program} {ops : Array Oper} {C : Ctx} {Q : Exit → Act → World → Prop} {s' : AState} {E : Nat → Eff} {M : List Nat} (hQ : ∀ ν a w, Sim C s' ν a w → Q .normal a w) (hM : aheadOk ops M = true)
    (hI : ∀ j, j < ops.size → ∀ i, i < j → (M.getD j 0).testBit i = true ∨ indepI ops (fun i => trOf (E i)) i j = true) :
    ∀ (n : Nat) {listed : Array Bool} {s : AState}, listed.size = ops.size → (restOf ops.size listed).length = n → (∀ j, j < ops.size → listed.getD j true = true → ∀ c, c < ops.size → (M.getD j 0).testBit c = true → listed.getD c true = true) →
      RunI P ops C.nt E (restOf ops.size listed) s s' → ∀ {ν : Nu} {a : Act} {w : World}, Sim C s ν a w → wpAny P .any ops Q n listed a w := by
  have hedge : ∀ j, (hj : j < ops.size) → (∀ e ∈ edgesOn ops[j], e < j) ∧ ∀ c, c < ops.size → (M.getD j 0).testBit c = true → ∃ e ∈ edgesOn ops[j], e = c ∨ (M.getD e 0).testBit c = true := by
    intro j hj
    unfold aheadOk at hM
    rw [List.all_eq_true] at hM
    have h1 := hM j (List.mem_range.2 hj)
    simp only [hj, getElem?_pos, Bool.and_eq_true, List.all_eq_true] at h1
    refine ⟨fun e he => ?_, fun c hc ht => ?_⟩
    · have := h1.1 e he
      rw [Nat.blt_eq] at this
      exact this
    · have := h1.2 c (List.mem_range.2 hc)
      rw [ht] at this
      simp only [Bool.not_true, Bool.false_or, List.any_eq_true, Bool.or_eq_true] at this
      obtain ⟨e, he, h⟩ := this
      rcases h with h | h
      · exact ⟨e, he, .inl (Nat.eq_of_beq_eq_true h)⟩
      · exact ⟨e, he, .inr h⟩
  intro n
  induction n with
  | zero =>
    intro listed s hsz hn hcl hrun ν a w hs
    have hnil := List.eq_nil_of_length_eq_zero hn
    rw [hnil] at hrun
    simp only [RunI] at hrun
    subst hrun
    refine ⟨?_, hQ ν a w hs⟩
    rw [List.eq_nil_iff_forall_not_mem]
    intro i hi
    obtain ⟨h1, h2, _⟩ := ready_spec hi
    have : i ∈ restOf ops.size listed := by unfold restOf; rw [List.mem_filter, List.mem_range]; exact ⟨h1, by rw [h2]; rfl⟩
    rw [hnil] at this
    cases this
  | succ n ih =>
    intro listed s hsz hn hcl hrun ν a w hs
    refine ⟨fun hemp => ?_, fun i hi => ?_⟩
    · exfalso
      have hx : ∃ x r, restOf ops.size listed = x :: r := by
        cases hq : restOf ops.size listed with
        | nil => rw [hq] at hn; simp at hn
        | cons x r => exact ⟨x, r, rfl⟩
      -- the least place not listed is ready
      have hleast : ∃ x, x < ops.size ∧ listed.getD x true = false ∧ ∀ y, y < x → listed.getD y true = true := by
        obtain ⟨x, r, hx⟩ := hx
        have hxm : x ∈ restOf ops.size listed := by rw [hx]; simp
        unfold restOf at hxm
        rw [List.mem_filter, List.mem_range] at hxm
        have : ∀ m, (∃ x, x ≤ m ∧ x < ops.size ∧ listed.getD x true = false) → ∃ x, x < ops.size ∧ listed.getD x true = false ∧ ∀ y, y < x → listed.getD y true = true := by
          intro m
          induction m with
          | zero => rintro ⟨x, h1, h2, h3⟩; exact ⟨x, h2, h3, fun y hy => by omega⟩
          | succ m ihm =>
            rintro ⟨x, h1, h2, h3⟩
            by_cases hq : ∃ y, y < x ∧ listed.getD y true = false
            · obtain ⟨y, q1, q2⟩ := hq
              exact ihm ⟨y, by omega, by omega, q2⟩
            · refine ⟨x, h2, h3, fun y hy => ?_⟩
              cases hz : listed.getD y true with
              | true => rfl
              | false => exact absurd ⟨y, hy, hz⟩ hq
        exact this x ⟨x, Nat.le_refl _, hxm.1, by simpa using hxm.2⟩
      obtain ⟨x, h1, h2, h3⟩ := hleast
      have : x ∈ Region.ready .any ops listed := ready_mk h1 h2 (fun e he => by
        have hlt := (hedge x h1).1 e he
        rw [getD_false (by omega)]
        exact h3 e hlt)
      rw [hemp] at this
      cases this
    · obtain ⟨h1, h2, o, h3, h4⟩ := ready_spec hi
      have ho : ops[i] = o := by simpa [h1] using h3
      obtain ⟨c1, c2, e1, e2, e3⟩ := restOf_set hsz h1 h2
      -- what lies ahead of i is listed
      have hah : ∀ c, c < ops.size → (M.getD i 0).testBit c = true → listed.getD c true = true := by
        intro c hc ht
        obtain ⟨e, he, hor⟩ := (hedge i h1).2 c hc ht
        have hlt := (hedge i h1).1 e he
        rw [ho] at he
        have hle := h4 e he
        rw [getD_false (by omega)] at hle
        rcases hor with rfl | hor
        · exact hle
        · exact hcl e (by omega) hle c hc hor
      rw [e1] at hrun
      obtain ⟨o', k1, k2, k3⟩ := runI_front hrun (fun c hc => by
        obtain ⟨q1, q2⟩ := e3 c hc
        rcases hI i h1 c q1 with h | h
        · have := hah c (by omega) h
          rw [q2] at this; cases this
        · exact h)
      rw [h3] at k1
      cases k1
      have hgoal := step_sound k2 hs (K := wpAny P .any ops Q n (listed.setIfInBounds i true)) (Q := Q) fun ν' a' w' hs' => by
        refine ih (listed := listed.setIfInBounds i true) (by simpa using hsz) ?_ ?_ (by rw [e2]; exact k3) hs'
        · rw [e1] at hn
          rw [e2]
          simp at hn ⊢
          omega
        · intro j hj hjl c hc ht
          by_cases hji : j = i
          · subst hji
            by_cases hcj : c = j
            · subst hcj; simp only [Array.getD_eq_getD_getElem?]; rw [Array.getElem?_setIfInBounds_self_of_lt (by omega)]; rfl
            · simp only [Array.getD_eq_getD_getElem?]
              rw [Array.getElem?_setIfInBounds_ne (Ne.symm hcj)]
              have := hah c hc ht
              simpa [Array.getD_eq_getD_getElem?] using this
          · have hjl' : listed.getD j true = true := by
              simp only [Array.getD_eq_getD_getElem?] at hjl ⊢
              rw [Array.getElem?_setIfInBounds_ne (Ne.symm hji)] at hjl
              exact hjl
            have := hcl j hj hjl' c hc ht
            by_cases hci : c = i
            · subst hci; simp only [Array.getD_eq_getD_getElem?]; rw [Array.getElem?_setIfInBounds_self_of_lt (by omega)]; rfl
            · simp only [Array.getD_eq_getD_getElem?] at this ⊢
              rw [Array.getElem?_setIfInBounds_ne (Ne.symm hci)]
              exact this
      unfold wpOp
      rw [h3]
      simp only
      split
      · rename_i hw
        rw [if_pos hw] at hgoal
        exact .inl hgoal
      · rename_i hw
        rw [if_neg hw] at hgoal
        exact hgoal

theorem runI_of_run {P : Program} {ops : Array Oper} {nt : Nat} {s' : AState} {E : Nat → Eff} : ∀ {l : List Oper} {k : Nat} {s : AState} {es : List Eff}, Run P ops nt l s es s' → (∀ j, l[j]? = ops[k + j]? ∨ l[j]? = none) → (∀ j e, es[j]? = some e → E (k + j) = e) → RunI P ops nt E (List.range' k l.length) s s'
  | [], k, s, es, ⟨_, h⟩, _, _ => h
  | o :: l, k, s, es, ⟨e, es', he, h1, h2⟩, hl, hE => by
    subst he
    have h0 : ops[k]? = some o := by rcases hl 0 with h | h <;> simpa using h.symm
    have hE0 : E k = e := by simpa using hE 0 e rfl
    rw [List.length_cons, List.range'_succ]
    refine ⟨o, h0, by rw [hE0]; exact h1, ?_⟩
    rw [hE0]
    exact runI_of_run h2 (fun j => by have := hl (j + 1); simpa [Nat.add_assoc, Nat.add_comm 1 j] using this) (fun j e he => by have := hE (j + 1) e (by simpa using he); rw [← this]; congr 1; omega)

theorem Run.length {P : Program} {ops : Array Oper} {nt : Nat} {s' : AState} : ∀ {l : List Oper} {s : AState} {es : List Eff}, Run P ops nt l s es s' → es.length = l.length
  | [], s, es, ⟨h, _⟩ => by simp [h]
  | o :: l, s, es, ⟨e, es', he, h1, h2⟩ => by subst he; simp [h2.length]

/-- A region that draws its order. -/
theorem run_draw {P : Program} (hm : P.follows .mixedOrders = true) {l : List Oper} {C : Ctx} {Q : Exit → Act → World → Prop} {s s' : AState} {es : List Eff} (hQ : ∀ ν a w, Sim C s' ν a w → Q .normal a w) (hr : Run P l.toArray C.nt l s es s') (hok : regionOk l.toArray (es.map trOf) = true)
    {id : Nat} {ν : Nu} {a : Act} {w : World} (hs : Sim C s ν a w) : (Code.region id l.toArray true).wp P Q a w := by
  refine wp_region_any hm ?_
  unfold regionOk at hok
  simp only [Bool.and_eq_true, List.all_eq_true, List.mem_range, Bool.or_eq_true] at hok
  have hsim : Sim C s ν a { w with drawn := w.drawn + 1 } := by
    obtain ⟨h1, h2, h2f, h3, h4, h5, h6, hk, he⟩ := hs
    have ext : Ext w s.heap s.used ν { w with drawn := w.drawn + 1 } s.heap s.used ν := ⟨fun _ h => h, fun _ blk _ h => ⟨blk, h, rfl, rfl, rfl⟩, fun _ _ h => ⟨rfl, h⟩⟩
    refine ⟨⟨h1.os, h1.tape, h1.output, h1.size, h1.block⟩, h2, h2f, h3, h4, fun t x h => by obtain ⟨v, g1, g2⟩ := h5 t x h; exact ⟨v, g1, g2.ext ext⟩, ?_, hk, he.trans ext⟩
    obtain ⟨φ, hh⟩ := h6
    exact ⟨φ, ⟨fun b blk hb => by obtain ⟨g1, g2, g3, g4⟩ := hh.blk b blk hb; exact ⟨g1, g2.ext ext rfl (fun _ _ => rfl), g3, g4⟩, hh.apart⟩⟩
  have hlen : es.length = l.length := Run.length hr
  have hrest : restOf l.toArray.size (Array.replicate l.toArray.size false) = List.range' 0 l.length := by
    unfold restOf
    rw [List.range_eq_range', List.size_toArray, List.filter_eq_self]
    intro i hi
    have : i < l.length := by simpa using hi
    simp [Array.getD_eq_getD_getElem?, this]
  have := run_any (P := P) (ops := l.toArray) (C := C) (Q := Q) (s' := s') (E := fun i => es.getD i deadEff) (M := (Region.before l.toArray).toList) hQ hok.1 (fun j hj i hi => by
    rcases hok.2 j hj i hi with h | h
    · exact .inl h
    · refine .inr ?_
      have e1 : ∀ i, i < es.length → (es.map trOf).getD i ⟨[], []⟩ = trOf (es.getD i deadEff) := by
        intro i hi
        simp [List.getD, hi]
      unfold indepI at h ⊢
      simp only [List.size_toArray] at hj
      simp only at h ⊢
      rw [e1 i (by omega), e1 j (by omega)] at h
      exact h) l.length (listed := Array.replicate l.toArray.size false) (s := s) (by simp) (by rw [hrest]; simp) (fun j hj hjl => by simp at hj; simp [Array.getD_eq_getD_getElem?, hj] at hjl)
    (by rw [hrest]; exact runI_of_run hr (fun j => by simp) (fun j e he => by simp [List.getD, he])) hsim
  simpa using this
end Go.Proofs.Ytjfcjkeghigipaa

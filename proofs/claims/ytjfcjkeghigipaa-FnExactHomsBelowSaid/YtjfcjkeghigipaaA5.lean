/-
  The effects of single operations: new blocks and stores. No program stands in this text.
-/
import Derived.Test.YtjfcjkeghigipaaA4
namespace Go.Proofs.Ytjfcjkeghigipaa
open Go.RowKit

theorem CellsRep.append {w : World} {h : Hp} {u : Us} {ν : Nu} : ∀ {cs ds : List AV} {vs us : List Value} {S T : List Nat}, CellsRep w h u ν cs vs S → CellsRep w h u ν ds us T → CellsRep w h u ν (cs ++ ds) (vs ++ us) (S ++ T)
  | [], ds, vs, us, S, T, h, g => by obtain ⟨rfl, rfl⟩ := h; simpa using g
  | c :: cs, ds, vs, us, S, T, ⟨v, r, S1, S2, h1, h2, h3, h4⟩, g => by
    subst h1; subst h2
    exact ⟨v, _, S1, S2 ++ T, rfl, by simp, h3, h4.append g⟩
theorem CellsRep.append_inv {w : World} {h : Hp} {u : Us} {ν : Nu} : ∀ {cs ds : List AV} {vs : List Value} {S : List Nat}, CellsRep w h u ν (cs ++ ds) vs S → ∃ v1 v2 S1 S2, vs = v1 ++ v2 ∧ S = S1 ++ S2 ∧ v1.length = cs.length ∧ CellsRep w h u ν cs v1 S1 ∧ CellsRep w h u ν ds v2 S2
  | [], ds, vs, S, h => ⟨[], vs, [], S, rfl, rfl, rfl, ⟨rfl, rfl⟩, h⟩
  | c :: cs, ds, vs, S, ⟨v, r, S1, S2, h1, h2, h3, h4⟩ => by
    subst h1; subst h2
    obtain ⟨v1, v2, T1, T2, rfl, rfl, e3, e4, e5⟩ := h4.append_inv
    exact ⟨v :: v1, v2, S1 ++ T1, T2, rfl, by simp, by simp [e3], ⟨v, v1, S1, T1, rfl, rfl, h3, e4⟩, e5⟩
theorem CellsRep.repl {w : World} {h : Hp} {u : Us} {ν : Nu} {cs : List AV} {vs : List Value} (r : CellsRep w h u ν cs vs []) : ∀ n, CellsRep w h u ν (List.replicate n cs).flatten (List.replicate n vs).flatten []
  | 0 => ⟨rfl, rfl⟩
  | n + 1 => by
    rw [List.replicate_succ, List.replicate_succ, List.flatten_cons, List.flatten_cons]
    exact r.append (r.repl n)

/-- What may lie in a cell. -/
def okCell (hp : Hp) : AV → Bool
  | .sc _ => true
  | .nil _ => true
  | .list _ _ => true
  | .ref _ => true
  | .own b _ _ => (hp b).isSome
  | .ptr b _ _ => (hp b).isSome
  | _ => false
def namesOf : List AV → List Nat
  | [] => []
  | .own b _ _ :: r => b :: namesOf r
  | .ptr b _ _ :: r => b :: namesOf r
  | _ :: r => namesOf r
theorem okCell.rep {w : World} {h hp : Hp} {u : Us} {ν : Nu} {x : AV} {v : Value} (ok : okCell hp x = true) (hh : ∀ b ∈ namesOf [x], h b = hp b) (r : Rep1 w h u ν x v) : CellRep w h u ν x v [] ∧ v.oneCell' = true := by
  refine ⟨?_, r.oneCell ?_ ?_ ?_⟩
  · cases x <;> simp only [okCell, Bool.false_eq_true] at ok <;> exact ⟨r, rfl⟩
  · rintro rfl; simp [okCell] at ok
  · rintro b i n rfl
    rw [hh b (by simp [namesOf])]
    simp only [okCell] at ok
    intro e; rw [e] at ok; cases ok
  · rintro b i n rfl
    rw [hh b (by simp [namesOf])]
    simp only [okCell] at ok
    intro e; rw [e] at ok; cases ok
theorem namesOf_cons {x : AV} {r : List AV} {b : Nat} : b ∈ namesOf (x :: r) ↔ b ∈ namesOf [x] ∨ b ∈ namesOf r := by
  cases x <;> simp [namesOf]
theorem okCells.rep {w : World} {h hp : Hp} {u : Us} {ν : Nu} : ∀ {cs : List AV} {vs : List Value}, cs.all (okCell hp) = true → (∀ b ∈ namesOf cs, h b = hp b) → All2 (Rep1 w h u ν) cs vs → CellsRep w h u ν cs vs [] ∧ ∀ v ∈ vs, v.oneCell' = true
  | [], _, _, _, r => by simp only [All2] at r; simp [CellsRep, r]
  | c :: cs, vs, ok, hh, ⟨v, r, h1, h2, h3⟩ => by
    subst h1
    simp only [List.all_cons, Bool.and_eq_true] at ok
    obtain ⟨e1, e2⟩ := okCells.rep ok.2 (fun b hb => hh b (namesOf_cons.2 (.inr hb))) h3
    obtain ⟨e3, e4⟩ := okCell.rep ok.1 (fun b hb => hh b (namesOf_cons.2 (.inl hb))) h2
    refine ⟨⟨v, r, [], [], rfl, rfl, e3, e1⟩, ?_⟩
    intro y hy
    rcases List.mem_cons.1 hy with rfl | h'
    · exact e4
    · exact e2 y h'

def cellsOf : AV → List AV
  | .agg cs => cs
  | x => [x]
theorem RepA.cells {w : World} {h hp : Hp} {u : Us} {ν : Nu} {x : AV} {v : Value} (r : RepA w h u ν x v) (ok : (cellsOf x).all (okCell hp) = true) (hh : ∀ b ∈ namesOf (cellsOf x), h b = hp b) :
    All2 (Rep1 w h u ν) (cellsOf x) v.cells.toList ∧ CellsRep w h u ν (cellsOf x) v.cells.toList [] ∧ ∀ y ∈ v.cells.toList, y.oneCell' = true := by
  have key : All2 (Rep1 w h u ν) (cellsOf x) v.cells.toList := by
    cases x
    case agg cs =>
      simp only [RepA, RepB] at r
      obtain ⟨vs, rfl, h2⟩ := r
      simpa [Value.cells, cellsOf] using h2
    case tuple => simp [cellsOf, okCell] at ok
    case fn => simp [cellsOf, okCell] at ok
    case abs => simp [cellsOf, okCell] at ok
    case dead => simp [cellsOf, okCell] at ok
    all_goals
      simp only [RepA, RepB] at r
      have ho := (okCells.rep (hp := hp) (vs := [v]) ok hh ⟨v, [], rfl, r, rfl⟩).2 v (by simp)
      have : v.cells = #[v] := by cases v <;> first | rfl | cases ho
      rw [this]
      exact ⟨v, [], rfl, r, rfl⟩
  exact ⟨key, okCells.rep ok hh key⟩

/-! ## new blocks -/
def updν (b : Nat) (x : Option (Nat × Nat)) (ν : Nu) : Nu := fun c => bif Nat.beq c b then x else ν c
theorem beq_self (b : Nat) : Nat.beq b b = true := by simp

theorem Sim.unused {C : Ctx} {s : AState} {ν : Nu} {a : Act} {w : World} (hs : Sim C s ν a w) {b : Nat} (hu : s.used b = false) : s.heap b = none := by
  obtain ⟨φ, hh⟩ := hs.heap
  cases h : s.heap b with
  | none => rfl
  | some blk => have := (hh.blk b blk h).1; rw [hu] at this; cases this

theorem heap_push {w : World} {o : Obj} {x : Nat} (hx : x < w.heap.size) : (w.alloc o).heap[x]? = w.heap[x]? := by
  simp only [World.alloc, Array.getElem?_push]
  rw [if_neg (by omega)]

theorem heap_new {w : World} {o : Obj} : (w.alloc o).heap[w.heap.size]? = some o := by
  show (w.heap.push o)[w.heap.size]? = _
  simp

theorem ext_alloc {w : World} {h : Hp} {u : Us} {ν : Nu} {b : Nat} {blk : Blk} {o : Obj} {c : Nat} (hu : u b = false) :
    Ext w h u ν (w.alloc o) (editHp [(b, some blk)] h) (addUs [b] u) (updν b (some (w.heap.size, c)) ν) where
  used := fun x hx => by simp [addUs, hx]
  old := fun x blk' hx hb => by
    have hne : x ≠ b := by rintro rfl; rw [hu] at hx; cases hx
    simp only [editHp, beq_ne hne, cond_false] at hb
    exact ⟨blk', hb, rfl, rfl, by simp [updν, beq_ne hne]⟩
  free := fun x hx hf => by
    refine ⟨heap_push hx, fun b' blk' β c' hb hν => ?_⟩
    by_cases e : b' = b
    · subst e
      simp only [updν, beq_self, cond_true, Option.some.injEq, Prod.mk.injEq] at hν
      omega
    · simp only [editHp, beq_ne e, cond_false] at hb
      simp only [updν, beq_ne e, cond_false] at hν
      exact hf b' blk' β c' hb hν

theorem heapOk_alloc {B : Nat → Prop} {w : World} {h : Hp} {u : Us} {ν : Nu} {b : Nat} {k c : Nat} {es : List (List AV)} {arr : Array Value} {ty : TypeId} {vs : List Value} (hB : B w.heap.size) (hu : u b = false) (hn : h b = none) (hh : ∃ φ, HeapOk B w h u ν φ)
    (hk : ∀ cs ∈ es, cs.length = k) (harr : arr.size = c * k) (hl : es.length ≤ c) (hc : c ≤ maxLen) (ht : arr.toList.take (es.length * k) = vs) (hr : CellsRep w h u ν es.flatten vs []) :
    ∃ φ, HeapOk B (w.alloc (.cells arr ty)) (editHp [(b, some ⟨k, es⟩)] h) (addUs [b] u) (updν b (some (w.heap.size, c)) ν) φ := by
  obtain ⟨φ, hh⟩ := hh
  have ext := ext_alloc (h := h) (ν := ν) (blk := ⟨k, es⟩) (o := .cells arr ty) (c := c) (w := w) hu
  refine ⟨fun x => bif Nat.beq x b then [w.heap.size] else φ x, ?_, ?_⟩
  · intro x blk hx
    by_cases e : x = b
    · subst e
      simp only [editHp, beq_self, cond_true, Option.some.injEq] at hx
      subst hx
      simp only [beq_self, cond_true]
      refine ⟨by simp [addUs], ⟨hk, .inr ⟨w.heap.size, c, arr, ty, [], vs, by simp [updν], heap_new, harr, hl, hc, rfl, ht, hr.ext ext (by simp)⟩⟩, by simp, by simpa using hB⟩
    · simp only [editHp, beq_ne e, cond_false] at hx
      simp only [beq_ne e, cond_false]
      obtain ⟨g1, g2, g3, g4⟩ := hh.blk x blk hx
      exact ⟨ext.used x g1, g2.ext ext (by simp [updν, beq_ne e]) (fun y hy => heap_push (g2.lt y hy)), g3, g4⟩
  · intro x y z hx hy hne hzx hzy
    by_cases ex : x = b
    · subst ex
      have ey : y ≠ x := fun e => hne e.symm
      simp only [beq_self, cond_true, List.mem_singleton] at hzx
      simp only [beq_ne ey, cond_false] at hzy
      simp only [editHp, beq_ne ey, cond_false] at hy
      cases hb : h y with
      | none => exact hy hb
      | some blk => have := (hh.blk y blk hb).2.1.lt z hzy; omega
    · simp only [beq_ne ex, cond_false] at hzx
      simp only [editHp, beq_ne ex, cond_false] at hx
      by_cases ey : y = b
      · subst ey
        simp only [beq_self, cond_true, List.mem_singleton] at hzy
        cases hb : h x with
        | none => exact hx hb
        | some blk => have := (hh.blk x blk hb).2.1.lt z hzx; omega
      · simp only [beq_ne ey, cond_false] at hzy
        simp only [editHp, beq_ne ey, cond_false] at hy
        exact hh.apart x y z hx hy hne hzx hzy

/-- An operation that makes one new block. -/
theorem AEff.alloc {P : Program} {o : Oper} {ins : Operand → Option AV} {hp : Hp} {x : AV} {touch : List Nat} {b k : Nat} {es : List (List AV)} (hk : ∀ cs ∈ es, cs.length = k) (hbt : b ∉ touch)
    (h : ∀ (C : Ctx) (s : AState) (ν : Nu) (a : Act) (w : World), (∀ x ∈ o.op.operands, s.ev x = ins x) → (∀ b ∈ touch, s.heap b = hp b) → Sim C s ν a w → ∃ v c arr ty vs, (execOp a.eval o).run P w = .ok (.value v) (w.alloc (.cells arr ty)) ∧
      arr.size = c * k ∧ es.length ≤ c ∧ c ≤ maxLen ∧ arr.toList.take (es.length * k) = vs ∧ CellsRep w s.heap s.used ν es.flatten vs [] ∧
      (x = .ptr b 0 0 ∧ v = .pointer (some ⟨w.heap.size, 0, none⟩) ∨ x = .own b 0 es.length ∧ v = .slice (some ⟨w.heap.size, 0, none⟩) es.length c)) :
    AEff P o ins hp ⟨x, touch, [(b, some ⟨k, es⟩)], [b]⟩ := by
  refine ⟨fun C s ν a w Q K hi ht hn hd hs hK => ?_⟩
  have hu : s.used b = false := hn b (by simp)
  obtain ⟨v, c, arr, ty, vs, h1, h2, h3, h4, h5, h6, h7⟩ := h C s ν a w hi ht hs
  unfold Oper.wp
  rw [h1]
  simp only [Oper.upon]
  have ext := ext_alloc (h := s.heap) (ν := ν) (blk := ⟨k, es⟩) (o := .cells arr ty) (c := c) (w := w) hu
  refine hK (updν b (some (w.heap.size, c)) ν) _ _ (hs.step (x := x) hd ext ((Below.refl _ _).alloc hs.base _) (heapOk_alloc (hs.fresh _ (Nat.le_refl _)) hu (hs.unused hu) hs.heap hk h2 h3 h4 h5 h6) rfl ?_)
  rcases h7 with ⟨rfl, rfl⟩ | ⟨rfl, rfl⟩
  · simp only [RepA, RepB, Rep1, AState.app, addUs, editHp]
    refine ⟨by simp, fun blk hb => ⟨w.heap.size, c, by simp [updν], by simp⟩⟩
  · simp only [RepA, RepB, Rep1, AState.app, addUs, editHp]
    refine ⟨by simp, fun blk hb => ?_⟩
    simp only [beq_self, cond_true, Option.some.injEq] at hb
    subst hb
    refine ⟨by simp, by simp [updν], fun β c' hν => ?_⟩
    simp only [updν, beq_self, cond_true, Option.some.injEq, Prod.mk.injEq] at hν
    obtain ⟨rfl, rfl⟩ := hν
    exact ownV_zero

section
variable {P : Program} {T : List (Nat × Ty)} (hT : TyOk P T) {dst : Option Tmp} {ty : TypeId} {pos : String} {aft : Array Edge} {g : Option (Nat × Bool)} {ins : Operand → Option AV} {hp : Hp}

theorem eff_box {t : TypeId} {x : Operand} {v : AV} {b : Nat} (hx : ins x = some v) (ok : (cellsOf v).all (okCell hp) = true) (hb : (namesOf (cellsOf v)).contains b = false) :
    AEff P ⟨dst, .box t x, ty, pos, aft, g⟩ ins hp ⟨.ptr b 0 0, namesOf (cellsOf v), [(b, some ⟨(cellsOf v).length, [cellsOf v]⟩)], [b]⟩ :=
  AEff.alloc (by simp) (fun hm => by rw [List.contains_eq_mem] at hb; simp [hm] at hb) fun C s ν a w hi ht hs => by
    obtain ⟨h1, h2, h3⟩ := (hs.ev ((hi x (by simp [Op.operands])).trans hx)).cells ok ht
    refine ⟨_, 1, (a.eval x).cells, t, (a.eval x).cells.toList, ?_, ?_, by simp, by decide, ?_, ?_, .inl ⟨rfl, rfl⟩⟩
    · simp [execOp, Instr.box, newVar, newRow]
    · have := h2.len; simp at this; omega
    · have := h2.len; rw [List.take_of_length_le (by simp at this ⊢; omega)]
    · simpa using h2

include hT
theorem eff_alloc {t : TypeId} {y : Ty} {b : Nat} (hy : tyOf T t = some y) : AEff P ⟨dst, .alloc t, ty, pos, aft, g⟩ ins hp ⟨.ptr b 0 0, [], [(b, some ⟨y.zero.length, [y.zero]⟩)], [b]⟩ :=
  AEff.alloc (by simp) (by simp) fun C s ν a w hi ht hs => by
    obtain ⟨i1, z, d, y1⟩ := hT.is hy
    have hz := (zerosB_rep y1.zeros w s.heap s.used ν).1
    refine ⟨_, 1, z.cells, t, z.cells.toList, ?_, ?_, by simp, by decide, ?_, ?_, .inl ⟨rfl, rfl⟩⟩
    · simp [execOp, Instr.alloc, zeroValue, typeInfo, y1.info, y1.zero, newVar, newRow]
    · have := hz.len; simp at this; omega
    · have := hz.len; rw [List.take_of_length_le (by simp at this ⊢; omega)]
    · simpa using hz

omit hT in
theorem range_mod (z : Array Value) : ∀ n, ((List.range (n * z.size)).map fun i => z[i % z.size]!) = (List.replicate n z.toList).flatten
  | 0 => by simp
  | n + 1 => by
    rw [List.replicate_succ', List.flatten_append, ← range_mod z n, Nat.add_mul, Nat.one_mul, List.range_add, List.map_append]
    congr 1
    simp only [List.map_map, List.flatten_cons, List.flatten_nil, List.append_nil]
    apply List.ext_getElem
    · simp
    · intro i h1 h2
      have hi : i < z.size := by simpa using h1
      simp only [List.getElem_map, List.getElem_range, Function.comp_apply, Array.getElem_toList]
      rw [Nat.mul_comm n, Nat.mul_add_mod, Nat.mod_eq_of_lt hi]
      simp [hi]
omit hT in
theorem made_list (z : Array Value) (n : Nat) : (madeCells z (n * z.size)).toList = (List.replicate n z.toList).flatten := by
  rw [← range_mod z n]
  simp [madeCells]
omit hT in
theorem zerosB_len : ∀ {xs : List AV} {vs : List Value}, zerosB xs vs = true → vs.length = xs.length
  | [], [], _ => rfl
  | [], _ :: _, h => by simp [zerosB] at h
  | _ :: _, [], h => by simp [zerosB] at h
  | x :: xs, v :: vs, h => by simp only [zerosB, Bool.and_eq_true] at h; simp [zerosB_len h.2]

theorem eff_makeSlice {t e : TypeId} {y ye : Ty} {l c : Operand} {kl kc : IntKind} {n : Nat} {b : Nat} (hy : tyOf T t = some y) (hd : y.desc = .slice e) (hye : tyOf T e = some ye) (hl : ins l = some (.sc (.int kl (n : Int)))) (hc : ins c = some (.sc (.int kc (n : Int)))) (hb : n * ye.bytes ≤ 140737488355328) (hn : n ≤ 4294967296) (hz : ye.zero.length = ye.size) :
    AEff P ⟨dst, .makeSlice t l c, ty, pos, aft, g⟩ ins hp ⟨.own b 0 n, [], [(b, some ⟨ye.size, List.replicate n ye.zero⟩)], [b]⟩ :=
  AEff.alloc (by intro cs hcs; rw [List.eq_of_mem_replicate hcs, hz]) (by simp) fun C s ν a w hi ht hs => by
    have h1 := hs.ev ((hi l (by simp [Op.operands])).trans hl)
    have h2 := hs.ev ((hi c (by simp [Op.operands])).trans hc)
    simp only [RepA, RepB, Rep1] at h1 h2
    obtain ⟨i1, z1, d1, y1⟩ := hT.is hy
    obtain ⟨i2, z2, d2, y2⟩ := hT.is hye
    have hz2 := (zerosB_rep y2.zeros w s.heap s.used ν).1
    have hzl := zerosB_len y2.zeros
    have hbb : (i2.bytes : Int) * (n : Int) ≤ 281474976710656 := by
      have h3 : ((i2.bytes * n : Nat) : Int) = (i2.bytes : Int) * (n : Int) := by simp
      rw [← h3, y2.bytes, Nat.mul_comm]
      omega
    have hr := run_make w t e i2 z2 (y1.slice hd) y2.info y2.zero kl kc (n : Int) (n : Int) (by omega) (by omega) hbb (by omega)
    have hsz : i2.size = z2.cells.size := by rw [y2.size, ← hz]; simpa using hzl.symm
    refine ⟨_, n, _, e, (List.replicate n z2.cells.toList).flatten, by simp only [execOp, h1.1, h2.1, Sem.run_bind]; rw [hr]; rfl, ?_, by simp, by unfold maxLen; omega, ?_, ?_, .inr ⟨by simp, by simp⟩⟩
    · rw [size_madeCells, y2.size]; simp
    · rw [hsz, Int.toNat_natCast, made_list]
      rw [List.take_of_length_le]
      simp [List.length_flatten, ← y2.size, hsz]
    · exact hz2.repl n
end
end Go.Proofs.Ytjfcjkeghigipaa

/-
  The effects of single operations: literals, stores, append. No program stands in this text.
-/
import Derived.Test.YtjfcjkeghigipaaA5
namespace Go.Proofs.Ytjfcjkeghigipaa
open Go.RowKit

def fillA (place : Nat → Option (Nat × Nat)) (cells : List AV) : List (Nat × List AV) → Option (List AV)
  | [] => some cells
  | (i, ds) :: rest =>
    match place i with
    | none => none
    | some (off, size) => bif Nat.beq ds.length size && Nat.ble (off + ds.length) cells.length then fillA place (cells.take off ++ ds ++ cells.drop (off + ds.length)) rest else none

theorem foldl_set : ∀ (vs : List Value) (off j : Nat) (cs : Array Value), off + j + vs.length ≤ cs.size → (vs.zipIdx j).foldl (fun cs (c, j) => cs.setIfInBounds (off + j) c) cs = (cs.toList.take (off + j) ++ vs ++ cs.toList.drop (off + j + vs.length)).toArray
  | [], off, j, cs, h => by simp
  | v :: vs, off, j, cs, h => by
    simp only [List.zipIdx_cons, List.foldl_cons]
    simp only [List.length_cons] at h
    rw [foldl_set vs off (j + 1) _ (by simp; omega)]
    apply congrArg List.toArray
    have hlt : off + j < cs.toList.length := by simp; omega
    rw [Array.toList_setIfInBounds, show off + (j + 1) = off + j + 1 by omega, List.length_cons, List.take_set, List.drop_set, if_pos (by omega), List.take_succ_eq_append_getElem hlt, List.set_append_right _ _ (by simp; omega)]
    simp only [List.length_take, Nat.min_eq_left (Nat.le_of_lt hlt), Nat.sub_self, List.set_cons_zero, List.append_assoc, List.cons_append, List.nil_append]
    rw [show off + j + (vs.length + 1) = off + j + 1 + vs.length by omega]

theorem fill_rep {R : AV → Value → Prop} {place : Nat → Option (Nat × Nat)} : ∀ {ps : List (Nat × List AV)} {qs : List (Nat × Value)} {cs cs' : List AV} {arr : Array Value}, fillA place cs ps = some cs' → All2 R cs arr.toList → All2 (fun p q => p.1 = q.1 ∧ All2 R p.2 q.2.cells.toList) ps qs →
    ∃ arr', Instr.fill place arr qs = some arr' ∧ All2 R cs' arr'.toList ∧ arr'.size = arr.size
  | [], qs, cs, cs', arr, h, r, hq => by
    simp only [All2] at hq
    subst hq
    simp only [fillA, Option.some.injEq] at h
    subst h
    exact ⟨arr, rfl, r, rfl⟩
  | (i, ds) :: ps, qs, cs, cs', arr, h, r, hq => by
    obtain ⟨⟨i', v⟩, qs', rfl, ⟨rfl, hv⟩, hq'⟩ := hq
    simp only at hv
    simp only [fillA] at h
    simp only [Instr.fill]
    cases hp : place i with
    | none => rw [hp] at h; cases h
    | some p =>
      obtain ⟨off, size⟩ := p
      rw [hp] at h
      simp only at h ⊢
      cases hb : (Nat.beq ds.length size && Nat.ble (off + ds.length) cs.length) with
      | false => rw [hb] at h; cases h
      | true =>
        rw [hb] at h
        simp only [cond_true] at h
        simp only [Bool.and_eq_true] at hb
        have hb1 := Nat.eq_of_beq_eq_true hb.1
        have hb2 := Nat.le_of_ble_eq_true hb.2
        have hl1 := hv.len
        have hl2 := r.len
        simp only [Array.length_toList] at hl1 hl2
        rw [if_neg (by simp; omega)]
        have e : v.cells.zipIdx.foldl (fun cs (c, j) => cs.setIfInBounds (off + j) c) arr = (arr.toList.take off ++ v.cells.toList ++ arr.toList.drop (off + ds.length)).toArray := by
          have := foldl_set v.cells.toList off 0 arr (by simp; omega)
          rw [← Array.foldl_toList, Array.toList_zipIdx]
          rw [this]
          simp [hl1]
        rw [e]
        obtain ⟨arr', g1, g2, g3⟩ := fill_rep h (arr := (arr.toList.take off ++ v.cells.toList ++ arr.toList.drop (off + ds.length)).toArray) (by
          simp only
          exact ((r.take off).append hv).append (r.drop _)) hq'
        exact ⟨arr', g1, g2, by rw [g3]; simp; omega⟩

def partsOf (ins : Operand → Option AV) : List (Nat × Operand) → Option (List (Nat × List AV))
  | [] => some []
  | (i, x) :: r =>
    match ins x, partsOf ins r with
    | some v, some ps => some ((i, cellsOf v) :: ps)
    | _, _ => none

theorem parts_rep {ins : Operand → Option AV} {hp : Hp} {C : Ctx} {s : AState} {ν : Nu} {a : Act} {w : World} (hs : Sim C s ν a w) : ∀ {xs : List (Nat × Operand)} {ps : List (Nat × List AV)}, (∀ x ∈ xs, s.ev x.2 = ins x.2) → partsOf ins xs = some ps → (ps.all fun p => p.2.all (okCell hp)) = true → (∀ b ∈ ps.flatMap (fun p => namesOf p.2), s.heap b = hp b) →
    All2 (fun p q => p.1 = q.1 ∧ All2 (Rep1 w s.heap s.used ν) p.2 q.2.cells.toList) ps (xs.map fun (i, x) => (i, a.eval x))
  | [], ps, _, h, _, _ => by simp only [partsOf, Option.some.injEq] at h; subst h; simp [All2]
  | (i, x) :: xs, ps, hi, h, ok, ht => by
    simp only [partsOf] at h
    split at h
    · rename_i v ps' hv hp'
      cases h
      simp only [List.all_cons, Bool.and_eq_true] at ok
      have h1 := (hs.ev ((hi (i, x) (by simp)).trans hv)).cells ok.1 (fun b hb => ht b (by simp [hb]))
      refine ⟨(i, a.eval x), _, rfl, ⟨rfl, h1.1⟩, parts_rep hs (fun y hy => hi y (by simp [hy])) hp' ok.2 (fun b hb => ht b ?_)⟩
      rw [List.flatMap_cons]
      exact List.mem_append_right _ hb
    · cases h

def chunk (k : Nat) : Nat → List AV → List (List AV)
  | 0, _ => []
  | n + 1, cs => cs.take k :: chunk k n (cs.drop k)
theorem chunk_len {k : Nat} : ∀ {n : Nat} {cs : List AV}, cs.length = n * k → (chunk k n cs).flatten = cs ∧ (chunk k n cs).length = n ∧ ∀ c ∈ chunk k n cs, c.length = k
  | 0, cs, h => by
    have : cs = [] := by simpa using h
    subst this; simp [chunk]
  | n + 1, cs, h => by
    rw [Nat.add_mul] at h
    obtain ⟨e1, e2, e3⟩ := chunk_len (k := k) (n := n) (cs := cs.drop k) (by simp; omega)
    refine ⟨by simp [chunk, e1], by simp [chunk, e2], ?_⟩
    intro c hc
    rcases List.mem_cons.1 hc with rfl | h'
    · simp; omega
    · exact e3 c h'

theorem zeros_rep1 {xs : List AV} {vs : List Value} (h : zerosB xs vs = true) (w : World) (hp : Hp) (u : Us) (ν : Nu) : All2 (Rep1 w hp u ν) xs vs := by
  induction xs generalizing vs with
  | nil => cases vs <;> simp_all [zerosB, All2]
  | cons x xs ih =>
    cases vs with
    | nil => simp [zerosB] at h
    | cons v vs =>
      simp only [zerosB, Bool.and_eq_true] at h
      refine ⟨v, vs, rfl, ?_, ih h.2⟩
      have := (zeroB_rep h.1 w hp u ν).1
      unfold zeroB at h
      cases x <;> simp only [CellRep] at this <;> first | exact this.1 | (simp at h)

theorem All2.repl {α β : Type} {R : α → β → Prop} {cs : List α} {vs : List β} (r : All2 R cs vs) : ∀ n, All2 R (List.replicate n cs).flatten (List.replicate n vs).flatten
  | 0 => rfl
  | n + 1 => by
    rw [List.replicate_succ, List.replicate_succ, List.flatten_cons, List.flatten_cons]
    exact r.append (r.repl n)

section
variable {P : Program} {T : List (Nat × Ty)} (hT : TyOk P T) {dst : Option Tmp} {ty : TypeId} {pos : String} {aft : Array Edge} {g : Option (Nat × Bool)} {ins : Operand → Option AV} {hp : Hp}

theorem run_mapM_arr {α β : Type} (f : α → Sem β) (g : α → β) (w : World) (arr : Array α) (h : ∀ x ∈ arr.toList, (f x).run P w = .ok (g x) w) : (arr.mapM f).run P w = .ok (arr.map g) w := by
  rw [Array.mapM_eq_mapM_toList]
  have key : ∀ l : List α, (∀ x ∈ l, (f x).run P w = .ok (g x) w) → (l.mapM f).run P w = .ok (l.map g) w := by
    intro l
    induction l with
    | nil => intro _; simp
    | cons x l ih =>
      intro h
      simp only [List.mapM_cons, Sem.run_bind, h x (by simp), Result.andThen_ok, ih (fun y hy => h y (by simp [hy])), Sem.run_pure, List.map_cons]
  rw [Sem.run_map, key _ h]
  simp only [Result.andThen_ok]
  congr 1
  apply Array.ext'
  simp

def structPlace (T : List (Nat × Ty)) (fs : List (Nat × Nat)) (i : Nat) : Option (Nat × Nat) :=
  match fs[i]? with
  | none => none
  | some (off, ft) => match tyOf T ft with | some yf => some (off, yf.size) | none => none

include hT
theorem eff_build {t : TypeId} {parts : Array (Nat × Operand)} {y : Ty} {fs : List (Nat × Nat)} {ps : List (Nat × List AV)} {cs : List AV} (hy : tyOf T t = some y) (hd : y.desc = .struct fs) (hf : (fs.all fun f => (tyOf T f.2).isSome) = true)
    (hps : partsOf ins parts.toList = some ps) (hfill : fillA (structPlace T fs) y.zero ps = some cs) (ok : (ps.all fun p => p.2.all (okCell hp)) = true) :
    AEff P ⟨dst, .build t parts, ty, pos, aft, g⟩ ins hp ⟨.agg cs, ps.flatMap (fun p => namesOf p.2), [], []⟩ :=
  AEff.pure fun C s ν a w hi ht hs => by
    have hq := parts_rep (hp := hp) hs (xs := parts.toList) (fun x hx => hi x.2 (by simp [Op.operands]; exact ⟨x.1, Array.mem_toList_iff.1 hx⟩)) hps ok ht
    obtain ⟨i1, z1, d1, y1⟩ := hT.is hy
    have hdd := y1.desc
    rw [hd] at hdd
    have hu := y1.und
    cases d1 <;> simp only [descB, Bool.false_eq_true, beq_iff_eq] at hdd
    rename_i fields
    have hz := zeros_rep1 y1.zeros w s.heap s.used ν
    obtain ⟨arr', g1, g2, -⟩ := fill_rep hfill hz hq
    let gf : Field → Nat × Nat := fun f => (f.offset, match tyOf T f.type with | some yf => yf.size | none => 0)
    have hplaces : (fields.mapM fun f => do pure (f.offset, ← sizeOf f.type) : Sem (Array (Nat × Nat))).run P w = .ok (fields.map gf) w := by
      refine run_mapM_arr _ gf w fields fun f hfm => ?_
      have hmem : (f.offset, f.type) ∈ fs := by rw [← hdd]; exact List.mem_map.2 ⟨f, hfm, rfl⟩
      have hsome := List.all_eq_true.1 hf _ hmem
      cases hq2 : tyOf T f.type with
      | none => simp [hq2] at hsome
      | some yf =>
        obtain ⟨i2, z2, d2, y2⟩ := hT.is hq2
        simp only [Sem.run_bind, run_size y2.info, y2.size, Result.andThen_ok, Sem.run_pure, gf, hq2]
    have hplace : (fun i => (fields.map gf)[i]?) = structPlace T fs := by
      funext i
      unfold structPlace
      rw [← hdd, List.getElem?_map, Array.getElem?_map]
      simp only [Array.getElem?_toList]
      cases hfi : fields[i]? with
      | none => rfl
      | some f =>
        simp only [Option.map_some, gf]
        have hmem : (f.offset, f.type) ∈ fs := by rw [← hdd]; exact List.mem_map.2 ⟨f, Array.mem_toList_iff.2 (Array.mem_of_getElem? hfi), rfl⟩
        have hsome := List.all_eq_true.1 hf _ hmem
        cases hq2 : tyOf T f.type with
        | none => simp [hq2] at hsome
        | some yf => rfl
    refine ⟨.agg arr', ?_, ?_⟩
    · simp only [execOp, Instr.build, Sem.run_bind, zeroValue, typeInfo, Sem.run_pure, Sem.run_map, Result.andThen_ok, run_program, y1.info, y1.zero, run_und hu]
      rw [hplaces]
      simp only [Result.andThen_ok]
      have e : Instr.fill (fun x => (Array.map gf fields)[x]?) z1.cells (parts.map fun (i, x) => (i, a.eval x)).toList = some arr' := by
        rw [hplace]
        rw [Array.toList_map]
        exact g1
      rw [e]
      rfl
    · simp only [RepA, RepB]
      exact ⟨arr'.toList, by simp, g2⟩

theorem eff_buildSlice {t e : TypeId} {n : Nat} {parts : Array (Nat × Operand)} {y ye : Ty} {ps : List (Nat × List AV)} {cs : List AV} {b : Nat} (hy : tyOf T t = some y) (hd : y.desc = .slice e) (hye : tyOf T e = some ye) (hz : ye.zero.length = ye.size) (hn : Nat.ble (n * ye.size) 16777216 = true) (hnn : Nat.ble n 16777216 = true)
    (hps : partsOf ins parts.toList = some ps) (hfill : fillA (fun i => some (i * ye.size, ye.size)) (List.replicate n ye.zero).flatten ps = some cs) (ok : (ps.all fun p => p.2.all (okCell hp)) = true) (hcs : cs.all (okCell hp) = true) (hb : (ps.flatMap (fun p => namesOf p.2) ++ namesOf cs).contains b = false) :
    AEff P ⟨dst, .buildSlice t n parts, ty, pos, aft, g⟩ ins hp ⟨.own b 0 n, ps.flatMap (fun p => namesOf p.2) ++ namesOf cs, [(b, some ⟨ye.size, chunk ye.size n cs⟩)], [b]⟩ := by
  have hn' := Nat.le_of_ble_eq_true hn
  have hlen : ∀ {ps : List (Nat × List AV)} {c0 cs : List AV}, fillA (fun i => some (i * ye.size, ye.size)) c0 ps = some cs → cs.length = c0.length := by
    intro ps
    induction ps with
    | nil => intro c0 cs h; simp only [fillA, Option.some.injEq] at h; rw [h]
    | cons p ps ih =>
      intro c0 cs h
      obtain ⟨i, ds⟩ := p
      simp only [fillA] at h
      cases hb : (Nat.beq ds.length ye.size && Nat.ble (i * ye.size + ds.length) c0.length) with
      | false => rw [hb] at h; cases h
      | true =>
        rw [hb] at h
        simp only [cond_true] at h
        simp only [Bool.and_eq_true] at hb
        have hb2 := Nat.le_of_ble_eq_true hb.2
        rw [ih h]
        simp
        omega
  have hl := hlen hfill
  have hrl : (List.replicate n ye.zero).flatten.length = n * ye.size := by simp [List.length_flatten, hz]
  rw [hrl] at hl
  obtain ⟨c1, c2, c3⟩ := chunk_len hl
  have he : (AV.own b 0 n) = AV.own b 0 (chunk ye.size n cs).length := by rw [c2]
  rw [he]
  refine AEff.alloc c3 (fun hm => by rw [List.contains_eq_mem] at hb; simp only [decide_eq_false_iff_not] at hb; exact hb hm) fun C s ν a w hi ht hs => ?_
  have hq := parts_rep (hp := hp) hs (xs := parts.toList) (fun x hx => hi x.2 (by simp [Op.operands]; exact ⟨x.1, Array.mem_toList_iff.1 hx⟩)) hps ok (fun b hb => ht b (List.mem_append_left _ hb))
  obtain ⟨i1, z1, d1, y1⟩ := hT.is hy
  obtain ⟨i2, z2, d2, y2⟩ := hT.is hye
  have hzl := zerosB_len y2.zeros
  have hsz : i2.size = z2.cells.size := by rw [y2.size, ← hz]; simpa using hzl.symm
  have hz0 := (zeros_rep1 y2.zeros w s.heap s.used ν).repl n
  have hmade : (Array.range (n * i2.size)).map (z2.cells[· % z2.cells.size]!) = madeCells z2.cells (n * z2.cells.size) := by rw [hsz]; rfl
  rw [← made_list] at hz0
  obtain ⟨arr', g1, g2, g3⟩ := fill_rep hfill hz0 hq
  have g4 := (okCells.rep (hp := hp) hcs (fun b hb => ht b (List.mem_append_right _ hb)) g2).1
  have harr : arr'.size = n * ye.size := by rw [g3, size_madeCells, ← hsz, y2.size]
  refine ⟨.slice (some ⟨w.heap.size, 0, none⟩) n n, n, arr', e, arr'.toList, ?_, harr, by rw [c2]; exact Nat.le_refl _, ?_, ?_, by rw [c1]; exact g4, .inr ⟨rfl, by rw [c2]⟩⟩
  · have hcond : ¬ (n * i2.size > 2 ^ 24) := by rw [y2.size]; omega
    have hf : Instr.fill (fun i => some (i * i2.size, i2.size)) (madeCells z2.cells (n * z2.cells.size)) (parts.map fun (i, x) => (i, a.eval x)).toList = some arr' := by
      rw [Array.toList_map, y2.size]
      exact g1
    by_cases h0 : n * i2.size = 0
    · have hm0 : (Array.range (n * i2.size)).map ((#[] : Array Value)[· % (#[] : Array Value).size]!) = madeCells z2.cells (n * z2.cells.size) := by
        rw [← hsz, h0]; simp [madeCells]
      simp only [execOp, Instr.buildSlice, Sem.run_bind, run_und (y1.slice hd), Result.andThen_ok, run_size y2.info, Sem.run_ite, if_neg hcond, if_pos h0, Sem.run_pure, hm0, hf]
      simp [newRow]
    · simp only [execOp, Instr.buildSlice, Sem.run_bind, run_und (y1.slice hd), Result.andThen_ok, run_size y2.info, Sem.run_ite, if_neg hcond, if_neg h0, zeroValue, typeInfo, Sem.run_pure, Sem.run_map, run_program, y2.info, y2.zero, hmade, hf]
      simp [newRow]
  · have := Nat.le_of_ble_eq_true hnn
    unfold maxLen; omega
  · rw [c2, List.take_of_length_le (by simp; omega)]
end
end Go.Proofs.Ytjfcjkeghigipaa

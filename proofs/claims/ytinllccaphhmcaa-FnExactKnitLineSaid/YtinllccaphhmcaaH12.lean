/-
  Several texts of the claim in one: each begins with its own remark.
-/
import Derived.RangeFuncBox
import Derived.Test.YtinllccaphhmcaaH11
section
set_option linter.unusedVariables false
set_option linter.unusedSimpArgs false

namespace Go.Proofs.Ytinllccaphhmcaa
open Go.RowKit
set_option linter.unusedVariables false
set_option maxRecDepth 10000
section
variable {P : Program} {dst : Option Tmp} {ty : TypeId} {pos : String} {aft : Array Edge} {g : Option (Nat × Bool)} {ins : Operand → Option AV} {hp : Hp} {κ : Kp}
theorem Sim.dataRes {C : Ctx} {s : AState} {ν : Nu} {a : Act} {w w' : World} {dst : Option Tmp} {r : AV} {v : Value} {S' touch : List Nat} (hs : Sim C s ν a w) (hd : ∀ d, dst = some d → d < C.nt) (hb : Below w.heap.size w w') (hr : okArg r = true) (hrep : RepD w' r v S') (hS : ∀ x ∈ S', x < w.heap.size → FreeO s.heap ν x) : Sim C (s.app dst ⟨r, touch, [], []⟩) ν (a.put dst v) w' := by
 obtain ⟨φ, hh⟩ := hs.heap
 have ext : Ext w s.heap s.used ν w' s.heap s.used ν := ⟨fun _ h => h, fun _ blk _ h => ⟨blk, h, rfl, rfl, rfl⟩, fun x hx h => ⟨hb.block x hx, h⟩, rfl⟩
 have hfr : ∀ x ∈ S', FreeO s.heap ν x := by
  intro x hx
  rcases Nat.lt_or_ge x w.heap.size with h | h
  ·exact hS x hx h
  ·refine ⟨?_, hs.okM x (hs.fresh x h)⟩
   rintro b blk β c hbl hν rfl
   obtain ⟨g1, g2, g3, g4⟩ := hh.blk b blk hbl
   have := g2.lt _ (blk_main g2 hν)
   omega
 refine hs.step hd (s' := s.app dst _) ext (hb.mono hs.base) ⟨φ, fun b blk hbl => ?_, hh.apart⟩ rfl ?_
 ·obtain ⟨g1, g2, g3, g4⟩ := hh.blk b blk hbl
  exact ⟨g1, g2.ext ext rfl (fun y hy => hb.block y (g2.lt y hy)), g3, g4⟩
 ·show RepA w' s.heap s.used ν r v
  cases r <;> simp only [okArg] at hr <;> first
   | (simp only [RepD] at hrep
      obtain ⟨vs, h1, h2⟩ := hrep
      exact ⟨vs, h1, h2.rep1 hr (fun y hy => hfr y hy)⟩)
   | exact (hrep.rep1 hr (fun y hy => hfr y hy)).repA
theorem eff_callD {fo : Operand} {xs : Array Operand} {ats : Array TypeId} {f : FuncId} {avs ds : List AV} {k : Nat} {es : List (List AV)} (hc : HasC P f ds (.list k es)) (hf : ins fo = some (.fn f [])) (hx : evs ins xs.toList = some avs) (hv1 : All2 (viewA hp) avs ds) :
  AEff P ⟨dst, .call ⟨.value fo, xs, ats⟩, ty, pos, aft, g⟩ ins hp κ ⟨.list k es, avs.flatMap (touchA hp), [], []⟩ := by
 refine ⟨fun C s ν a w Q K {hκ} hi' ht hnw hd hs hK => ?_⟩
 have h1 := hs.ev ((hi' fo (by simp [Op.operands, Call.operands])).trans hf)
 simp only [RepA, RepB] at h1
 obtain ⟨cv, h1, h2⟩ := h1
 simp only [All2] at h2
 subst h2
 obtain ⟨φ, hh⟩ := hs.heap
 have h3 := evs_rep hs (xs := xs.toList) (fun y hy => hi' y (by simp [Op.operands, Call.operands]; exact .inr (Array.mem_toList_iff.1 hy))) hx
 have hv1' : All2 (viewA s.heap) avs ds := hv1.congrM fun y hy d hd => hd.congr fun b hb => ht b (List.mem_flatMap.2 ⟨y, hy, hb⟩)
 obtain ⟨S1, e1⟩ := views_repA (V := viewA s.heap) (fun x d v hr hv => viewA.rep hh hr hv) h3 hv1'
 have hcall := hc.calls w (xs.map a.eval) S1 (by simpa using e1)
 unfold Oper.wp
 have hex : (execOp a.eval ⟨dst, .call ⟨.value fo, xs, ats⟩, ty, pos, aft, g⟩).run P w = .ok (.enter f (xs.map a.eval)) w := by
  have : execOp a.eval ⟨dst, .call ⟨.value fo, xs, ats⟩, ty, pos, aft, g⟩ = callFunc f (xs.map a.eval) := by
   simp [execOp, resolve, h1, Deferred.ofValue, invoke]
  rw [this]
  exact hc.enters _ _
 rw [hex]
 simp only [Oper.upon]
 refine hcall.mono fun e w' ⟨v, S', he, hb, hr, hnew⟩ => ?_
 subst he
 simp only
 refine hK ν _ _ (hs.dataRes hd hb (r := .list k es) (S' := S') rfl ?_ fun x hx h => absurd (hnew.2 x hx) (Nat.not_le.2 h))
 exact RepO.repD (repO_list.2 hr)
structure HasG (P : Program) (f : FuncId) (ds : List AV) (r : AV) : Prop where
 enters : Enters P f
 calls : ∀ (w : World) (args : Array Value) (S : List Nat), RepVs w ds args.toList S → Calls P f args w fun e w' => ∃ v S', e = .returned v ∧ Below w.heap.size w w' ∧ RepD w' r v S' ∧ ∀ x ∈ S', x ∈ S ∨ w.heap.size ≤ x
theorem eff_hasG {fo : Operand} {xs : Array Operand} {ats : Array TypeId} {f : FuncId} {ds : List AV} {r : AV} (hc : HasG P f ds r) (hr : okArg r = true) (hf : ins fo = some (.fn f [])) (hx : evs ins xs.toList = some ds) (hok : ds.all okArg = true) :
  AEff P ⟨dst, .call ⟨.value fo, xs, ats⟩, ty, pos, aft, g⟩ ins hp κ ⟨r, [], [], []⟩ := by
 refine ⟨fun C s ν a w Q K {hκ} hi' ht hnw hd hs hK => ?_⟩
 have h1 := hs.ev ((hi' fo (by simp [Op.operands, Call.operands])).trans hf)
 simp only [RepA, RepB] at h1
 obtain ⟨cv, h1, h2⟩ := h1
 simp only [All2] at h2
 subst h2
 have h3 := evs_rep hs (xs := xs.toList) (fun y hy => hi' y (by simp [Op.operands, Call.operands]; exact .inr (Array.mem_toList_iff.1 hy))) hx
 obtain ⟨S, e1, e2⟩ := repAs_data h3 hok
 have hcall := hc.calls w (xs.map a.eval) S (by simpa using e1)
 unfold Oper.wp
 have hex : (execOp a.eval ⟨dst, .call ⟨.value fo, xs, ats⟩, ty, pos, aft, g⟩).run P w = .ok (.enter f (xs.map a.eval)) w := by
  have : execOp a.eval ⟨dst, .call ⟨.value fo, xs, ats⟩, ty, pos, aft, g⟩ = callFunc f (xs.map a.eval) := by
   simp [execOp, resolve, h1, Deferred.ofValue, invoke]
  rw [this]
  exact hc.enters _ _
 rw [hex]
 simp only [Oper.upon]
 refine hcall.mono fun e w' ⟨v, S', he, hb, hrep, hsub⟩ => ?_
 subst he
 simp only
 refine hK ν _ _ (hs.dataRes hd hb (r := r) (S' := S') hr hrep fun x hx h => ?_)
 rcases hsub x hx with h' | h'
 ·exact e2 x h'
 ·omega
end
end Go.Proofs.Ytinllccaphhmcaa
end

section
set_option linter.unusedVariables false
set_option linter.unusedSimpArgs false

namespace Go.Proofs.Ytinllccaphhmcaa
open Go.RowKit
set_option linter.unusedVariables false
theorem view0.repF {w : World} {h : Hp} {u : Us} {ν : Nu} {x d : AV} {v : Value} {S : List Nat} (r : CellRep w h u ν x v S) (m : view0 x d) : (∃ S', RepD w d v S' ∧ ∀ y ∈ S', y ∈ S ∨ FreeO h ν y) ∧ v.oneCell' = true := by
 have one : ∀ k es S, RepD w (.list k es) v S → v.oneCell' = true := by
  intro k es S r; simp only [RepD] at r; obtain ⟨a, c, rfl, _⟩ := r; rfl
 cases x <;> cases d <;> simp only [view0] at m <;> simp only [CellRep, Rep1] at r
 ·obtain ⟨⟨rfl, r2⟩, _⟩ := r
  subst m
  exact ⟨⟨[], repD_sc r2, by simp⟩, r2⟩
 ·obtain ⟨rfl, _⟩ := r
  subst m
  exact ⟨⟨[], repD_sc rfl, by simp⟩, rfl⟩
 ·obtain ⟨rfl, _⟩ := r
  subst m
  exact ⟨⟨[], repD_nil, by simp⟩, rfl⟩
 ·obtain ⟨⟨S', r1, r2⟩, _⟩ := r
  obtain ⟨rfl, rfl⟩ := m
  exact ⟨⟨S', r1, fun y hy => .inr (r2 y hy)⟩, one _ _ _ r1⟩
 ·obtain ⟨rfl, rfl⟩ := m
  exact ⟨⟨S, r.repD, fun y hy => .inl hy⟩, one _ _ _ r.repD⟩
 ·obtain ⟨⟨S', r1, r2⟩, _⟩ := r
  subst m
  refine ⟨⟨S', r1, fun y hy => .inr (r2 y hy)⟩, ?_⟩
  simp only [RepD] at r1
  obtain ⟨b, o, T, rfl, _⟩ := r1
  rfl
theorem view0.rep1F {w : World} {h : Hp} {u : Us} {ν : Nu} {x d : AV} {v : Value} (r : Rep1 w h u ν x v) (m : view0 x d) : (∃ S', RepD w d v S' ∧ ∀ y ∈ S', FreeO h ν y) ∧ v.oneCell' = true := by
 have key : (∃ S', RepD w d v S' ∧ ∀ y ∈ S', y ∈ ([] : List Nat) ∨ FreeO h ν y) ∧ v.oneCell' = true := by
  refine view0.repF (h := h) (u := u) (ν := ν) (S := []) ?_ m
  cases x <;> first | exact ⟨r, rfl⟩ | exact r.elim | (cases d <;> exact m.elim)
 obtain ⟨⟨S', h1, h2⟩, h3⟩ := key
 exact ⟨⟨S', h1, fun y hy => (h2 y hy).resolve_left (by simp)⟩, h3⟩
theorem cells_dataF {w : World} {h : Hp} {u : Us} {ν : Nu} {β : Nat} : ∀ {cs ds : List AV} {vs : List Value} {S : List Nat} {o : Nat}, CellsRep w h u ν cs vs S → All2 view0 cs ds → (∀ j y, vs[j]? = some y → w.cell? ⟨β, o + j, none⟩ = some y ∧ w.frozen? ⟨β, o + j, none⟩ = false) → ∃ S', RepCs w β o ds S' ∧ ∀ y ∈ S', y ∈ S ∨ FreeO h ν y
 | [], ds, vs, S, o, _, m, _ => by simp only [All2] at m; subst m; exact ⟨[], by simp [RepCs], by simp⟩
 | c :: cs, ds, vs, S, o, ⟨v, r, S1, S2, h1, h2, h3, h4⟩, ⟨d, q, hq, m1, m2⟩, hc => by
  subst h1; subst hq; subst h2
  obtain ⟨⟨S3, e1, f1⟩, e2⟩ := view0.repF h3 m1
  obtain ⟨S4, e3, f3⟩ := cells_dataF (o := o + 1) h4 m2 (fun j y hy => by have := hc (j + 1) y (by simpa using hy); rw [show o + (j + 1) = o + 1 + j by omega] at this; exact this)
  have h0 := hc 0 v rfl
  rw [Nat.add_zero] at h0
  refine ⟨S3 ++ S4, by simp only [RepCs]; exact ⟨v, S3, S4, h0.1, h0.2, e2, rfl, e1, e3⟩, fun y hy => ?_⟩
  rcases List.mem_append.1 hy with hy | hy
  ·exact (f1 y hy).imp (fun h => List.mem_append_left _ h) id
  ·exact (f3 y hy).imp (fun h => List.mem_append_right _ h) id
theorem els_dataF {w : World} {h : Hp} {u : Us} {ν : Nu} {β k : Nat} : ∀ {els es : List (List AV)} {vs : List Value} {S : List Nat} {o : Nat}, (∀ cs ∈ els, cs.length = k) → CellsRep w h u ν els.flatten vs S → All2 (All2 view0) els es → (∀ j y, vs[j]? = some y → w.cell? ⟨β, o + j, none⟩ = some y ∧ w.frozen? ⟨β, o + j, none⟩ = false) → ∃ S', RepEs w k β o es S' ∧ ∀ y ∈ S', y ∈ S ∨ FreeO h ν y
 | [], es, vs, S, o, _, _, m, _ => by simp only [All2] at m; subst m; exact ⟨[], by simp [RepEs], by simp⟩
 | c :: els, es, vs, S, o, hk, r, ⟨d, q, hq, m1, m2⟩, hc => by
  subst hq
  rw [List.flatten_cons] at r
  obtain ⟨v1, v2, S1, S2, rfl, rfl, e3, e4, e5⟩ := r.append_inv
  have hck := hk c (by simp)
  obtain ⟨S3, g1, f1⟩ := cells_dataF (o := o) e4 m1 (fun j y hy => hc j y (by
   have hj : j < v1.length := by
    rcases Nat.lt_or_ge j v1.length with h' | h'
    ·exact h'
    ·rw [List.getElem?_eq_none h'] at hy; cases hy
   rw [List.getElem?_append_left hj]; exact hy))
  obtain ⟨S4, g2, f2⟩ := els_dataF (o := o + k) (fun x hx => hk x (by simp [hx])) e5 m2 (fun j y hy => by
   have := hc (k + j) y (by rw [List.getElem?_append_right (by omega)]; rw [show k + j - v1.length = j by omega]; exact hy)
   rw [← Nat.add_assoc] at this
   exact this)
  refine ⟨S3 ++ S4, by simp only [RepEs]; exact ⟨S3, S4, rfl, by rw [m1.len]; exact hck, g1, g2⟩, fun y hy => ?_⟩
  rcases List.mem_append.1 hy with hy | hy
  ·exact (f1 y hy).imp (fun h => List.mem_append_left _ h) id
  ·exact (f2 y hy).imp (fun h => List.mem_append_right _ h) id
theorem view1.repF {B : Nat → Prop} {w : World} {h : Hp} {u : Us} {ν : Nu} {φ : Nat → List Nat} (hh : HeapOk B w h u ν φ) {x d : AV} {v : Value} (r : Rep1 w h u ν x v) (m : view1 h x d) : (∃ S', RepD w d v S' ∧ ∀ y ∈ S', (∃ b ∈ touch1 x, h b ≠ none ∧ y ∈ φ b) ∨ FreeO h ν y) ∧ v.oneCell' = true := by
 by_cases ho : ∃ b i n, x = .own b i n
 ·obtain ⟨b, i, n, rfl⟩ := ho
  cases d <;> simp only [view1, view0] at m
  rename_i k es
  obtain ⟨blk, hb, rfl, m⟩ := m
  simp only [Rep1] at r
  obtain ⟨r1, r2, r3⟩ := r.2 blk hb
  obtain ⟨_, ⟨hk, hx⟩, _, _⟩ := hh.blk b blk hb
  have hlen : es.length = n := by rw [m.len]; simp; omega
  rcases hx with ⟨q1, q2, _⟩ | ⟨β, c, arr, ty, T, vs, q1, q2, q3, q4, q5, q6, q7, q8⟩
  ·rw [q2] at r1
   have : n = 0 := by simp at r1; omega
   have hes : es = [] := List.eq_nil_of_length_eq_zero (by omega)
   subst hes
   rw [r2 q1]
   exact ⟨⟨[], repD_nil, by simp⟩, rfl⟩
  ·by_cases hic : c ≤ i
   ·have hn : n = 0 := by omega
    have hes : es = [] := List.eq_nil_of_length_eq_zero (by omega)
    subst hes
    subst hn
    obtain ⟨o, ho, _⟩ := r3 β c q1
    rw [ho]
    refine ⟨⟨[], ?_, by simp⟩, rfl⟩
    unfold RepD
    exact ⟨_, _, rfl, by simp, by omega, .inl ⟨rfl, rfl⟩⟩
   obtain ⟨T1, g1, g2⟩ := q8.drop (i * blk.k)
   obtain ⟨T2, g3, g4⟩ := g1.take (n * blk.k)
   rw [← flatten_dt hk] at g3
   obtain ⟨S', g5, g6⟩ := els_dataF (β := β) (o := i * blk.k) (fun cs hcs => hk cs (List.mem_of_mem_drop (List.mem_of_mem_take hcs))) g3 m (fun j y hy => by
    have hj : j < n * blk.k := by
     rcases Nat.lt_or_ge j (n * blk.k) with h' | h'
     ·exact h'
     ·rw [List.getElem?_eq_none (by simp; omega)] at hy; cases hy
    rw [List.getElem?_take_of_lt hj, List.getElem?_drop, ← q7] at hy
    have hlt : i * blk.k + j < blk.es.length * blk.k := by
     rcases Nat.lt_or_ge (i * blk.k + j) (blk.es.length * blk.k) with h' | h'
     ·exact h'
     ·rw [List.getElem?_eq_none (by simp; omega)] at hy; cases hy
    rw [List.getElem?_take_of_lt hlt] at hy
    refine ⟨?_, by simp [World.frozen?, q2]⟩
    simp only [World.cell?, q2]
    simpa using hy)
   rw [(r3 β c q1).pos (by omega)]
   refine ⟨⟨β :: S', ?_, fun y hy => ?_⟩, rfl⟩
   ·simp only [RepD]
    exact ⟨_, c - i, by rw [hlen], by omega, by omega, .inr ⟨β, i * blk.k, S', rfl, lt_of_some q2, rfl, g5⟩⟩
   ·rcases List.mem_cons.1 hy with rfl | hy
    ·exact .inl ⟨b, by simp [touch1], by rw [hb]; simp, by rw [q6]; simp⟩
    ·rcases g6 y hy with h6 | h6
     ·exact .inl ⟨b, by simp [touch1], by rw [hb]; simp, by rw [q6]; exact List.mem_cons_of_mem _ (g2 y (g4 y h6))⟩
     ·exact .inr h6
 ·have m' : view0 x d := by
   cases x <;> simp only [view1] at m <;> first | exact m | exact absurd ⟨_, _, _, rfl⟩ ho
  obtain ⟨⟨S', h1, h2⟩, h3⟩ := view0.rep1F r m'
  exact ⟨⟨S', h1, fun y hy => .inr (h2 y hy)⟩, h3⟩
theorem views_repF {w : World} {R : AV → Value → Prop} {V : AV → AV → Prop} {G : AV → Nat → Prop} (hr : ∀ x d v, R x v → V x d → ∃ S', RepD w d v S' ∧ ∀ y ∈ S', G x y) : ∀ {xs ds : List AV} {vs : List Value}, All2 R xs vs → All2 V xs ds → ∃ S', RepVs w ds vs S' ∧ ∀ y ∈ S', ∃ x ∈ xs, G x y
 | [], ds, vs, r, m => by simp only [All2] at r m; subst r; subst m; exact ⟨[], by simp [RepVs], by simp⟩
 | x :: xs, ds, vs, ⟨v, q, h1, h2, h3⟩, ⟨d, p, g1, g2, g3⟩ => by
  subst h1; subst g1
  obtain ⟨S1, e1, f1⟩ := hr x d v h2 g2
  obtain ⟨S2, e2, f2⟩ := views_repF hr h3 g3
  refine ⟨S1 ++ S2, by simp only [RepVs]; exact ⟨v, q, S1, S2, rfl, rfl, e1, e2⟩, fun y hy => ?_⟩
  rcases List.mem_append.1 hy with hy | hy
  ·exact ⟨x, by simp, f1 y hy⟩
  ·obtain ⟨z, z1, z2⟩ := f2 y hy
   exact ⟨z, by simp [z1], z2⟩
def viewG (h : Hp) : AV → AV → Prop
 | .agg cs, .agg ds => All2 (view1 h) cs ds
 | x, d => view1 h x d
def touchG : AV → List Nat
 | .agg cs => cs.flatMap touch1
 | x => touch1 x
theorem viewG.congr {h h' : Hp} {x d : AV} (v : viewG h x d) (e : ∀ b ∈ touchG x, h' b = h b) : viewG h' x d := by
 by_cases ho : ∃ cs ds, x = .agg cs ∧ d = .agg ds
 ·obtain ⟨cs, ds, rfl, rfl⟩ := ho
  simp only [viewG] at v ⊢
  exact v.congrM fun x hx d hd => hd.congr fun b hb => e b (List.mem_flatMap.2 ⟨x, hx, hb⟩)
 ·have key : ∀ g : Hp, viewG g x d = view1 g x d := by
   intro g
   cases x <;> cases d <;> first | rfl | exact absurd ⟨_, _, rfl, rfl⟩ ho
  rw [key] at v ⊢
  refine v.congr fun b hb => e b ?_
  cases x <;> simp only [touch1, touchG] at hb ⊢ <;> first | exact hb | cases hb
theorem viewG.repF {B : Nat → Prop} {w : World} {h : Hp} {u : Us} {ν : Nu} {φ : Nat → List Nat} (hh : HeapOk B w h u ν φ) {x d : AV} {v : Value} (r : RepA w h u ν x v) (m : viewG h x d) : ∃ S', RepD w d v S' ∧ ∀ y ∈ S', (∃ b ∈ touchG x, h b ≠ none ∧ y ∈ φ b) ∨ FreeO h ν y := by
 cases x <;> simp only [RepA, RepB] at r
 case agg cs =>
  cases d <;> simp only [viewG, view1, view0] at m
  obtain ⟨vs, rfl, r⟩ := r
  obtain ⟨S, e, f⟩ := views_repF (V := view1 h) (G := fun x y => (∃ b ∈ touch1 x, h b ≠ none ∧ y ∈ φ b) ∨ FreeO h ν y) (fun x d v hr hv => (view1.repF hh hr hv).1) r m
  refine ⟨S, by simp only [RepD]; exact ⟨vs, rfl, e⟩, fun y hy => ?_⟩
  obtain ⟨z, z1, z2⟩ := f y hy
  rcases z2 with ⟨b, b1, b2⟩ | z2
  ·exact .inl ⟨b, by simp only [touchG]; exact List.mem_flatMap.2 ⟨z, z1, b1⟩, b2⟩
  ·exact .inr z2
 case fn f cs => cases d <;> exact m.elim
 case tuple cs => cases d <;> exact m.elim
 all_goals
  refine (view1.repF hh r ?_).1
  cases d <;> exact m
end Go.Proofs.Ytinllccaphhmcaa
end

section
set_option linter.unusedVariables false
set_option linter.unusedSimpArgs false

namespace Go.Proofs.Ytinllccaphhmcaa
open Go.RowKit
set_option linter.unusedVariables false
def tamd1 (rl : List Nat) : AV → Bool
 | .sc _ => true
 | .nil _ => true
 | .list _ _ => true
 | .ref _ => true
 | .own b _ _ => rl.contains b
 | .ptr b _ _ => rl.contains b
 | _ => false
def tamdC (rl : List Nat) : AV → Bool
 | .abs _ _ => true
 | x => tamd1 rl x
def tamdB (rl : List Nat) : AV → Bool
 | .agg cs => cs.all (tamd1 rl)
 | x => tamd1 rl x
def tamdA (rl : List Nat) : AV → Bool
 | .tuple cs => cs.all (tamdB rl)
 | x => tamdB rl x
def tamdL (rl : List Nat) : List (Nat × Blk) → Prop
 | [] => True
 | (b, y) :: r => rl.contains b = true ∧ (∀ cs ∈ y.es, ∀ c ∈ cs, tamdC rl c = true) ∧ tamdL rl r
theorem tamdL_mem {rl : List Nat} : ∀ {l : List (Nat × Blk)}, tamdL rl l → ∀ {b : Nat} {y : Blk}, (b, y) ∈ l → rl.contains b = true ∧ ∀ cs ∈ y.es, ∀ c ∈ cs, tamdC rl c = true
 | (c, z) :: r, ⟨h1, h2, h3⟩, b, y, hm => by
  rcases List.mem_cons.1 hm with e | hm'
  ·obtain ⟨rfl, rfl⟩ := Prod.mk.inj e; exact ⟨h1, h2⟩
  ·exact tamdL_mem h3 hm'
section
variable {w : World} {h1 h2 : Hp} {u1 u2 : Us} {ν1 ν2 : Nu} {rl : List Nat} (H : ∀ b ∈ rl, h2 b = h1 b) (N : ∀ b ∈ rl, ν2 b = ν1 b) (U : ∀ b ∈ rl, u2 b = true) (FF : ∀ x, FreeO h1 ν1 x → FreeO h2 ν2 x)
include H N U FF
theorem tamd1_rep {x : AV} {v : Value} (r : Rep1 w h1 u1 ν1 x v) (t : tamd1 rl x = true) : Rep1 w h2 u2 ν2 x v := by
 cases x <;> simp only [tamd1, Bool.false_eq_true] at t <;> simp only [Rep1] at r ⊢
 ·exact r
 ·exact r
 ·obtain ⟨S, r1, r2⟩ := r; exact ⟨S, r1, fun x hx => FF x (r2 x hx)⟩
 ·obtain ⟨S, r1, r2⟩ := r; exact ⟨S, r1, fun x hx => FF x (r2 x hx)⟩
 ·rename_i b i n
  have hb : b ∈ rl := by simpa using t
  refine ⟨U b hb, fun blk hbl => ?_⟩
  rw [H b hb] at hbl
  rw [N b hb]
  exact r.2 blk hbl
 ·rename_i b i n
  have hb : b ∈ rl := by simpa using t
  refine ⟨U b hb, fun blk hbl => ?_⟩
  rw [H b hb] at hbl
  rw [N b hb]
  exact r.2 blk hbl
theorem tamd1s_rep : ∀ {xs : List AV} {vs : List Value}, All2 (Rep1 w h1 u1 ν1) xs vs → xs.all (tamd1 rl) = true → All2 (Rep1 w h2 u2 ν2) xs vs
 | [], vs, r, _ => r
 | x :: xs, vs, ⟨v, q, e, h, k⟩, t => by
  simp only [List.all_cons, Bool.and_eq_true] at t
  exact ⟨v, q, e, tamd1_rep H N U FF h t.1, tamd1s_rep k t.2⟩
theorem tamdB_rep {x : AV} {v : Value} (r : RepB w h1 u1 ν1 x v) (t : tamdB rl x = true) : RepB w h2 u2 ν2 x v := by
 cases x <;> simp only [RepB] at r ⊢ <;> first
  | exact tamd1_rep H N U FF r t
  | (obtain ⟨vs, e, r⟩ := r; exact ⟨vs, e, tamd1s_rep H N U FF r t⟩)
  | (simp only [tamdB, tamd1, Bool.false_eq_true] at t)
theorem tamdA_rep {x : AV} {v : Value} (r : RepA w h1 u1 ν1 x v) (t : tamdA rl x = true) : RepA w h2 u2 ν2 x v := by
 by_cases ht : ∃ cs, x = .tuple cs
 ·obtain ⟨cs, rfl⟩ := ht
  obtain ⟨vs, e, r⟩ := r
  refine ⟨vs, e, r.congrM fun y hy d hd => tamdB_rep H N U FF hd ?_⟩
  exact List.all_eq_true.1 t y hy
 ·have r' : RepB w h1 u1 ν1 x v := by cases x <;> first | exact r | exact absurd ⟨_, rfl⟩ ht
  have t' : tamdB rl x = true := by cases x <;> first | exact t | exact absurd ⟨_, rfl⟩ ht
  have := tamdB_rep H N U FF r' t'
  cases x <;> first | exact this | exact absurd ⟨_, rfl⟩ ht
theorem tamdC_rep {x : AV} {v : Value} {S : List Nat} (r : CellRep w h1 u1 ν1 x v S) (t : tamdC rl x = true) : CellRep w h2 u2 ν2 x v S := by
 cases x <;> simp only [CellRep] at r ⊢ <;> first
  | exact ⟨tamd1_rep H N U FF r.1 t, r.2⟩
  | exact r
theorem tamdCs_rep : ∀ {xs : List AV} {vs : List Value} {S : List Nat}, CellsRep w h1 u1 ν1 xs vs S → (∀ c ∈ xs, tamdC rl c = true) → CellsRep w h2 u2 ν2 xs vs S
 | [], _, _, r, _ => r
 | x :: xs, vs, S, ⟨v, q, S1, S2, e1, e2, h, k⟩, t => ⟨v, q, S1, S2, e1, e2, tamdC_rep H N U FF h (t x (by simp)), tamdCs_rep k (fun c hc => t c (by simp [hc]))⟩
theorem tamdBlk_rep {b : Nat} {blk : Blk} {S : List Nat} (hb : b ∈ rl) (r : BlkOk w h1 u1 ν1 b blk S) (t : ∀ cs ∈ blk.es, ∀ c ∈ cs, tamdC rl c = true) : BlkOk w h2 u2 ν2 b blk S := by
 refine ⟨r.1, ?_⟩
 rcases r.2 with ⟨q1, q2, q3⟩ | ⟨β, c, arr, ty, T, vs, q1, q2, q3, q4, q5, q6, q7, q8⟩
 ·exact .inl ⟨(N b hb).trans q1, q2, q3⟩
 ·refine .inr ⟨β, c, arr, ty, T, vs, (N b hb).trans q1, q2, q3, q4, q5, q6, q7, tamdCs_rep H N U FF q8 fun c hc => ?_⟩
  obtain ⟨cs, hcs, hc⟩ := List.mem_flatten.1 hc
  exact t cs hcs c hc
end
def matchR (σ : Nat → Option Nat) (n : Nat) (r r2 : AV) : Prop := matchA σ n r r2 ∨ ∃ cs ds, r = .tuple cs ∧ r2 = .tuple ds ∧ All2 (match1 σ n) cs ds
theorem Conv.repR {σ : Nat → Option Nat} {n : Nat} {w : World} {h : Hp} {u : Us} {ν : Nu} {hl : List (Nat × Blk)} (cv : Conv σ n w h u ν hl) {r r2 : AV} {v : Value} (hr : RepA w h u ν r v) (m : matchR σ n r r2) : RepA w (hpL hl) (ltb n) (nuOf σ ν) r2 v := by
 rcases m with m | ⟨cs, ds, rfl, rfl, m⟩
 ·exact cv.rep hr m
 ·obtain ⟨vs, e, hv⟩ := hr
  refine ⟨vs, e, all2_conv (R := RepB w h u ν) (Mt := match1 σ n) (R' := RepB w (hpL hl) (ltb n) (nuOf σ ν)) (fun x y v hx hm => ?_) hv m⟩
  have h1 : RepA w h u ν x v := by cases x <;> first | exact hx | exact hx.elim
  have h2 : matchA σ n x y := by
   cases x <;> cases y <;> first | exact hm | exact hm.elim | trivial
  have h3 := cv.rep h1 h2
  cases y <;> first | exact h3 | (cases x <;> exact hm.elim)
def cutN (h : Hp) (ν : Nu) (touch : List Nat) : Nu := ⟨ν.f, fun x => ν.ok x ∧ ∀ b blk β c, h b = some blk → b ∉ touch → ν b = some (β, c) → β ≠ x⟩
section
variable {w : World} {h : Hp} {u : Us} {ν : Nu} {touch : List Nat}
theorem cut_free {x : Nat} (f : FreeO h ν x) : FreeO h (cutN h ν touch) x := ⟨f.1, f.2, fun b blk β c hb _ hν => f.1 b blk β c hb hν⟩
theorem Rep1.cut {x : AV} {v : Value} (r : Rep1 w h u ν x v) : Rep1 w h u (cutN h ν touch) x v := by
 cases x <;> simp only [Rep1] at r ⊢ <;> first
  | exact r
  | (obtain ⟨S, r1, r2⟩ := r; exact ⟨S, r1, fun x hx => cut_free (r2 x hx)⟩)
theorem RepB.cut {x : AV} {v : Value} (r : RepB w h u ν x v) : RepB w h u (cutN h ν touch) x v := by
 cases x <;> simp only [RepB] at r ⊢ <;> first
  | exact r.cut
  | (obtain ⟨vs, h1, h2⟩ := r; exact ⟨vs, h1, h2.mono (fun _ _ h => h.cut)⟩)
theorem RepA.cut {x : AV} {v : Value} (r : RepA w h u ν x v) : RepA w h u (cutN h ν touch) x v := by
 cases x <;> simp only [RepA] at r ⊢ <;> first
  | exact r.cut
  | (obtain ⟨vs, h1, h2⟩ := r; exact ⟨vs, h1, h2.mono (fun _ _ h => h.cut)⟩)
theorem CellRep.cut {x : AV} {v : Value} {S : List Nat} (r : CellRep w h u ν x v S) : CellRep w h u (cutN h ν touch) x v S := by
 cases x <;> simp only [CellRep] at r ⊢ <;> first
  | exact ⟨r.1.cut, r.2⟩
  | exact r
theorem CellsRep.cut : ∀ {cs : List AV} {vs : List Value} {S : List Nat}, CellsRep w h u ν cs vs S → CellsRep w h u (cutN h ν touch) cs vs S
 | [], _, _, r => r
 | c :: cs, vs, S, ⟨v, r, S1, S2, h1, h2, h3, h4⟩ => ⟨v, r, S1, S2, h1, h2, h3.cut, h4.cut⟩
theorem HeapOk.cut {M : Nat → Prop} {φ : Nat → List Nat} (hh : HeapOk M w h u ν φ) : HeapOk M w h u (cutN h ν touch) φ where
 blk := fun b blk hb => by
  obtain ⟨g1, ⟨g2, g3⟩, g4, g5⟩ := hh.blk b blk hb
  refine ⟨g1, ⟨g2, ?_⟩, g4, g5⟩
  rcases g3 with h1 | ⟨β, c, arr, ty, T, vs, h1, h2, h3, h4, h5, h6, h7, h8⟩
  ·exact .inl h1
  ·exact .inr ⟨β, c, arr, ty, T, vs, h1, h2, h3, h4, h5, h6, h7, h8.cut⟩
 apart := hh.apart
end
def outG (σ : Nat → Option Nat) (b : Nat) (hl : List (Nat × Blk)) : Bool := hl.all fun p => match σ p.1 with | some x => !(Nat.beq x b) | none => true
def giveOk (σ : Nat → Option Nat) (touch : List Nat) (hl : List (Nat × Blk)) (bs : List Nat) : Bool := bs.all fun b => touch.contains b && outG σ b hl
def argM (σ : Nat → Option Nat) (n : Nat) (hp : Hp) (touch : List Nat) (hl : List (Nat × Blk)) (x d : AV) : Prop := matchA σ n x d ∨ (viewG hp x d ∧ okArg d = true ∧ giveOk σ touch hl (touchG x) = true)
theorem RepD.repAO {w : World} {h : Hp} {u : Us} {ν : Nu} {r : AV} {v : Value} {S : List Nat} (hrep : RepD w r v S) (hr : okArg r = true) (hfr : ∀ y ∈ S, FreeO h ν y) : RepA w h u ν r v := by
 cases r <;> simp only [okArg] at hr <;> first
  | (simp only [RepD] at hrep
     obtain ⟨vs, h1, h2⟩ := hrep
     exact ⟨vs, h1, h2.rep1 hr (fun y hy => hfr y hy)⟩)
  | exact (hrep.rep1 hr (fun y hy => hfr y hy)).repA
theorem sim_D {C : Ctx} {s : AState} {ν : Nu} {a : Act} {w : World} (hs : Sim C s ν a w) {hl : List (Nat × Blk)} {kp : Nat} {σ : Nat → Option Nat} {touch news : List Nat} {dst : Option Tmp} (hd : ∀ d, dst = some d → d < C.nt) (hnw : ∀ b ∈ news, s.used b = false)
  (hh : EntH σ kp s.heap hl) (hi : injB σ hl = true) (hit : inTouch σ touch hl = true) (hlive : (touch.all fun b => (s.heap b).isSome) = true) :
  ∃ (M : Nat → Prop) (φ0 : Nat → List Nat), (∀ x, M x → C.M x) ∧ (∀ x, w.heap.size ≤ x → M x) ∧ (∀ x, M x → (nuOf σ (cutN s.heap ν touch)).ok x) ∧ HeapOk M w (hpL hl) (ltb kp) (nuOf σ (cutN s.heap ν touch)) φ0 ∧ (∀ x y v, RepA w s.heap s.used ν x v → argM σ kp s.heap touch hl x y → RepA w (hpL hl) (ltb kp) (nuOf σ (cutN s.heap ν touch)) y v) ∧
   ∀ (w' : World) (v : Value) (u1 : Us) (ν1 : Nu) (φ1 : Nat → List Nat) (hl' hl2 : List (Nat × Blk)) (n' : Nat) (r r2 : AV) (σ' : Nat → Option Nat) (ed : List (Nat × Option Blk)), Below C.B w w' → Ext w (hpL hl) (ltb kp) (nuOf σ (cutN s.heap ν touch)) w' (hpL hl') u1 ν1 → HeapOk M w' (hpL hl') u1 ν1 φ1 → RepA w' (hpL hl') u1 ν1 r v →
    EntH σ' n' (hpL hl') hl2 → injB σ' hl2 = true → matchR σ' n' r r2 → backB σ σ' kp news hl2 = true → tamdL (touch ++ news) hl2 → tamdA (touch ++ news) r2 = true → editsL (touch ++ news) hl2 = ed →
    ∃ ν', Sim C (s.app dst ⟨r2, touch, ed, news⟩) ν' (a.put dst v) w' ∧ Ext w s.heap s.used ν w' (editHp ed s.heap) (addUs news s.used) ν' := by
 obtain ⟨φ, hφ⟩ := hs.heap
 let h3 : Hp := fun b => if b ∈ touch then s.heap b else none
 have sub : ∀ b blk, h3 b = some blk → s.heap b = some blk ∧ b ∈ touch := by
  intro b blk hb
  by_cases e : b ∈ touch
  ·simp only [h3, if_pos e] at hb; exact ⟨hb, e⟩
  ·simp only [h3, if_neg e] at hb; cases hb
 let M2 : Nat → Prop := fun x => (∃ b, b ∈ touch ∧ s.heap b ≠ none ∧ x ∈ φ b) ∨ w.heap.size ≤ x
 have hM2 : ∀ x, M2 x → C.M x := by
  rintro x (⟨b, _, hb, hx⟩ | hx)
  ·obtain ⟨blk, hb⟩ := Option.ne_none_iff_exists'.1 hb
   exact (hφ.blk b blk hb).2.2.2 x hx
  ·exact hs.fresh x hx
 have hφc : HeapOk C.M w s.heap s.used (cutN s.heap ν touch) φ := hφ.cut
 have hk3 : HeapOk M2 w h3 s.used (cutN s.heap ν touch) φ := hφc.shrink (fun b blk hb => (sub b blk hb).1) (fun b x hb hx _ => by
  obtain ⟨blk, hb⟩ := Option.ne_none_iff_exists'.1 hb
  obtain ⟨e1, e2⟩ := sub b blk hb
  exact .inl ⟨b, e2, by rw [e1]; simp, hx⟩)
 have hent : EntH σ kp h3 hl := entH_congr (h := s.heap) (touch := touch) (fun b hb => by simp only [h3, if_pos hb]) hit hh
 have cv1 := conv_mk (w := w) (u := s.used) (ν := cutN s.heap ν touch) hent hi
 have hk4 := cv1.heap hk3
 have shr3 : Ext w s.heap s.used (cutN s.heap ν touch) w h3 s.used (cutN s.heap ν touch) := (Ext.refl _ _ _ _).shrink (fun b blk hb => (sub b blk hb).1)
 have hMo : ∀ x, M2 x → (cutN s.heap ν touch).ok x := by
  intro x hx
  refine ⟨hs.okM x (hM2 x hx), fun b blk β c hb hbt hν e => ?_⟩
  subst e
  obtain ⟨_, g2, _, _⟩ := hφ.blk b blk hb
  rcases hx with ⟨b2, e1, e2, e3⟩ | hx
  ·exact hφ.apart b2 b β e2 (by rw [hb]; simp) (by rintro rfl; exact hbt e1) e3 (blk_main g2 hν)
  ·have := g2.lt β (blk_main g2 hν)
   omega
 have hargs : ∀ x y v, RepA w s.heap s.used ν x v → argM σ kp s.heap touch hl x y → RepA w (hpL hl) (ltb kp) (nuOf σ (cutN s.heap ν touch)) y v := by
  rintro x y v hx (hm | ⟨hv, ho, hg⟩)
  ·exact cv1.rep (RepA.ext shr3 hx.cut) hm
  ·obtain ⟨S', e1, e2⟩ := viewG.repF hφ hx hv
   refine e1.repAO ho fun z hz => ?_
   rcases e2 z hz with ⟨b, b1, b2, b3⟩ | hf
   ·have hg1 := List.all_eq_true.1 hg b b1
    simp only [Bool.and_eq_true] at hg1
    have hbt : b ∈ touch := by simpa using hg1.1
    refine ⟨fun b2 blk β c hb2 hν e => ?_, hMo z (.inl ⟨b, hbt, b2, b3⟩)⟩
    subst e
    have hout := List.all_eq_true.1 hg1.2 (b2, blk) (hpL_mem hb2)
    cases hσ : σ b2 with
    | none => simp only [nuOf, hσ] at hν; cases hν
    | some b0 =>
     simp only [hσ] at hout
     simp only [nuOf, hσ] at hν
     obtain ⟨y0, y1, _⟩ := (cv1.look b2 blk hb2).1 b0 hσ
     have y2 := (sub b0 y0 y1).1
     have hne : b0 ≠ b := by rintro rfl; simp at hout
     exact hφ.apart b0 b β (by rw [y2]; simp) ‹s.heap b ≠ none› hne (blk_main (hφ.blk b0 y0 y2).2.1 hν) b3
   ·exact ⟨cv1.free z fun b blk β c hb hν => hf.1 b blk β c (sub b blk hb).1 hν, (cut_free (touch := touch) hf).2⟩
 refine ⟨M2, _, hM2, fun x hx => .inr hx, hMo, hk4, hargs, ?_⟩
 intro w' v u1 ν1 φ1 hl' hl2 n' r r2 σ' ed hbel hext hh1 hrep hh' hi' hr hbk htl htr he
 have cv2 := conv_mk (w := w') (u := u1) (ν := ν1) hh' hi'
 have hh2 := cv2.heap hh1
 generalize hrl : touch ++ news = rl at htl htr he
 let ν' : Nu := ⟨fun b => if b ∈ rl then nuOf σ' ν1 b else ν b, ν.ok⟩
 have hν1 : ∀ b, b ∈ rl → ν' b = nuOf σ' ν1 b := fun b hb => if_pos hb
 have hν2 : ∀ b, b ∉ rl → ν' b = ν b := fun b hb => if_neg hb
 have hheq : ∀ b, editHp ed s.heap b = if b ∈ rl then hpL hl2 b else s.heap b := fun b => by rw [← he]; exact editHp_L
 have hhe1 : ∀ b, b ∈ rl → editHp ed s.heap b = hpL hl2 b := fun b hb => by rw [hheq, if_pos hb]
 have hhe2 : ∀ b, b ∉ rl → editHp ed s.heap b = s.heap b := fun b hb => by rw [hheq, if_neg hb]
 have hused : ∀ b, b ∈ rl → addUs news s.used b = true := by
  intro b hb
  rw [← hrl] at hb
  rw [addUs_spec]
  rcases List.mem_append.1 hb with h | h
  ·have h5 := List.all_eq_true.1 hlive b h
   cases hq : s.heap b with
   | none => rw [hq] at h5; cases h5
   | some blk => rw [(hφ.blk b blk hq).1, Bool.or_true]
  ·have : news.contains b = true := by simpa using h
   rw [this, Bool.true_or]
 have hfree3 : ∀ x, Free s.heap ν x → Free (hpL hl) (nuOf σ (cutN s.heap ν touch)) x := fun x hf => cv1.free x fun b blk β c hb hν => hf b blk β c (sub b blk hb).1 hν
 have extc : Ext w s.heap s.used ν w' (editHp ed s.heap) (addUs news s.used) ν' := by
  refine ⟨fun b hb => by rw [addUs_spec, hb, Bool.or_true], fun b blk' hu hb => ?_, fun x hx hfr => ?_, rfl⟩
  ·by_cases e : b ∈ rl
   ·rw [hhe1 b e] at hb
    obtain ⟨i, e1, e2⟩ := backB_mem hbk (hpL_mem hb)
    obtain ⟨x, f1, f2, f3⟩ := (cv2.look b blk' hb).1 i e1
    rcases e2 with e2 | ⟨e2, e3⟩
    ·rw [hnw b e2] at hu; cases hu
    ·obtain ⟨blk0, g1, g2, g3, g4⟩ := hext.old i x e2 f1
     obtain ⟨z, k1, k2, k3⟩ := (cv1.look i blk0 g1).1 b e3
     refine ⟨z, (sub b z k1).1, k2.trans (g2.trans f2), k3.trans (g3.trans f3), ?_⟩
     rw [hν1 b e]
     simp only [nuOf, e1]
     rw [g4]
     simp only [nuOf, e3, cutN]
   ·rw [hhe2 b e] at hb
    exact ⟨blk', hb, rfl, rfl, hν2 b e⟩
  ·obtain ⟨p1, p2⟩ := hext.free x hx (hfree3 x hfr)
   refine ⟨p1, fun b blk β c hb hν => ?_⟩
   by_cases e : b ∈ rl
   ·rw [hhe1 b e] at hb
    rw [hν1 b e] at hν
    exact cv2.free x p2 b blk β c hb hν
   ·rw [hhe2 b e] at hb
    rw [hν2 b e] at hν
    exact hfr b blk β c hb hν
 have hout : ∀ b blk x, s.heap b = some blk → b ∉ rl → x ∈ φ b → w'.heap[x]? = w.heap[x]? := by
  intro b blk x hb hbr hx
  refine (hext.free x ((hφ.blk b blk hb).2.1.lt x hx) (cv1.free x fun b2 blk2 β c hb2 hν2 => ?_)).1
  rintro rfl
  obtain ⟨e1, e2⟩ := sub b2 blk2 hb2
  have hne : b2 ≠ b := by rintro rfl; exact hbr (by rw [← hrl]; exact List.mem_append_left _ e2)
  exact hφ.apart b2 b β (by rw [e1]; simp) (by rw [hb]; simp) hne (blk_main (hφ.blk b2 blk2 e1).2.1 hν2) hx
 have hcross : ∀ b c x, hpL hl2 b ≠ none → s.heap c ≠ none → c ∉ rl → x ∈ (match σ' b with | some b0 => φ1 b0 | none => []) → x ∉ φ c := by
  intro b c x hb hc' hcr hx hx2
  obtain ⟨y1, hy1⟩ := Option.ne_none_iff_exists'.1 hb
  obtain ⟨y2, hy2⟩ := Option.ne_none_iff_exists'.1 hc'
  rcases (hh2.blk b y1 hy1).2.2.2 x hx with ⟨b2, e1, e2, e3⟩ | e1
  ·have hne : b2 ≠ c := by rintro rfl; exact hcr (by rw [← hrl]; exact List.mem_append_left _ e1)
   exact hφ.apart b2 c x e2 hc' hne e3 hx2
  ·have := (hφ.blk c y2 hy2).2.1.lt x hx2
   omega
 have hFF : ∀ x, FreeO (hpL hl2) (nuOf σ' ν1) x → FreeO (editHp ed s.heap) ν' x := by
  rintro x ⟨hf, ho⟩
  have ho' : (cutN s.heap ν touch).ok x := by
   have h5 : (nuOf σ' ν1).ok = (nuOf σ (cutN s.heap ν touch)).ok := hext.okE
   rw [h5] at ho
   exact ho
  refine ⟨fun b blk β c hb hν => ?_, ho'.1⟩
  by_cases e : b ∈ rl
  ·rw [hhe1 b e] at hb
   rw [hν1 b e] at hν
   exact hf b blk β c hb hν
  ·rw [hhe2 b e] at hb
   rw [hν2 b e] at hν
   exact ho'.2 b blk β c hb (fun h => e (by rw [← hrl]; exact List.mem_append_left _ h)) hν
 refine ⟨ν', hs.step hd (s' := s.app dst ⟨r2, touch, ed, news⟩) extc hbel ⟨fun b => if b ∈ rl then (match σ' b with | some b0 => φ1 b0 | none => []) else φ b, ?_, ?_⟩ rfl ?_, extc⟩
 ·intro b blk' hb
  replace hb : editHp ed s.heap b = some blk' := hb
  by_cases e : b ∈ rl
  ·rw [hhe1 b e] at hb
   simp only [if_pos e]
   obtain ⟨_, g2, g3, g4⟩ := hh2.blk b blk' hb
   exact ⟨hused b e, tamdBlk_rep (h1 := hpL hl2) (u1 := ltb n') (ν1 := nuOf σ' ν1) hhe1 hν1 hused hFF e g2 (tamdL_mem htl (hpL_mem hb)).2, g3, fun x hx => hM2 x (g4 x hx)⟩
  ·rw [hhe2 b e] at hb
   simp only [if_neg e]
   obtain ⟨g1, g2, g3, g4⟩ := hφ.blk b blk' hb
   exact ⟨extc.used b g1, g2.ext extc (hν2 b e) (fun x hx => hout b blk' x hb e hx), g3, g4⟩
 ·intro b c x hb hc' hne hxb hxc
  replace hb : editHp ed s.heap b ≠ none := hb
  replace hc' : editHp ed s.heap c ≠ none := hc'
  by_cases e1 : b ∈ rl <;> by_cases e2 : c ∈ rl
  ·simp only [if_pos e1] at hxb
   simp only [if_pos e2] at hxc
   rw [hhe1 b e1] at hb
   rw [hhe1 c e2] at hc'
   exact hh2.apart b c x hb hc' hne hxb hxc
  ·simp only [if_pos e1] at hxb
   simp only [if_neg e2] at hxc
   rw [hhe1 b e1] at hb
   rw [hhe2 c e2] at hc'
   exact hcross b c x hb hc' e2 hxb hxc
  ·simp only [if_neg e1] at hxb
   simp only [if_pos e2] at hxc
   rw [hhe2 b e1] at hb
   rw [hhe1 c e2] at hc'
   exact hcross c b x hc' hb e1 hxc hxb
  ·simp only [if_neg e1] at hxb
   simp only [if_neg e2] at hxc
   rw [hhe2 b e1] at hb
   rw [hhe2 c e2] at hc'
   exact hφ.apart b c x hb hc' hne hxb hxc
 ·exact tamdA_rep (h1 := hpL hl2) (u1 := ltb n') (ν1 := nuOf σ' ν1) hhe1 hν1 hused hFF (cv2.repR hrep hr) htr
theorem EOk.tamd {α : Type} {k : Nat} {e : α → List AV} (E : EOk k e) (rl : List Nat) (l : List α) : ∀ cs ∈ l.map (ow e), ∀ c ∈ cs, tamdC rl c = true := by
 intro cs hcs c hc
 obtain ⟨x, _, rfl⟩ := List.mem_map.1 hcs
 obtain ⟨d, hd, rfl⟩ := List.mem_map.1 hc
 have := E.mem x d hd
 cases d <;> simp only [cellB, Bool.false_eq_true] at this <;> rfl
theorem EOk.tamdE {α : Type} {k : Nat} {e : α → List AV} (E : EOk k e) (rl : List Nat) (l : List α) : ∀ cs ∈ l.map e, ∀ c ∈ cs, tamdC rl c = true := by
 intro cs hcs c hc
 obtain ⟨x, _, rfl⟩ := List.mem_map.1 hcs
 have := E.mem x c hc
 cases c <;> simp only [cellB, Bool.false_eq_true] at this <;> rfl
theorem x_seenE {α : Type} {k : Nat} {e : α → List AV} (E : EOk k e) (l : List α) : (l.map e).map (List.map view) = l.map e := by
 rw [List.map_map]
 refine List.map_congr_left fun x _ => ?_
 have h := E.cell x
 rw [List.all_eq_true] at h
 refine (List.map_congr_left (g := id) fun c hc => ?_).trans (List.map_id _)
 have := h c hc
 cases c <;> first | rfl | (simp [cellB] at this)
theorem x_srcE {α : Type} {k : Nat} {e : α → List AV} {hp : Hp} {b i n : Nat} {l : List α} (E : EOk k e) (hb : hp b = some ⟨k, l.map e⟩) : srcEls hp (.own b i n) = some (k, ((l.drop i).take n).map e, [b]) := by
 simp only [srcEls, hb, ← List.map_drop, ← List.map_take]
 rw [x_seenE E]
theorem x_srcE0 {α : Type} {k : Nat} {e : α → List AV} {hp : Hp} {b n : Nat} {l : List α} (E : EOk k e) (hb : hp b = some ⟨k, l.map e⟩) (hl : l.length = n) : srcEls hp (.own b 0 n) = some (k, l.map e, [b]) := by
 rw [x_srcE E hb, List.drop_zero, List.take_of_length_le (by omega)]
theorem tamd_lit {rl : List Nat} {es : List (List AV)} (h : (es.all fun cs => cs.all (tamdC rl)) = true) : ∀ cs ∈ es, ∀ c ∈ cs, tamdC rl c = true := fun cs hcs c hc => List.all_eq_true.1 (List.all_eq_true.1 h cs hcs) c hc
section
variable {P : Program} {dst : Option Tmp} {ty : TypeId} {pos : String} {aft : Array Edge} {g : Option (Nat × Bool)} {ins : Operand → Option AV} {hp : Hp} {κ : Kp}
theorem eff_hasD {fo : Operand} {xs : Array Operand} {ats : Array TypeId} {f : FuncId} {caps avs ds : List AV} {hl hl' hl2 : List (Nat × Blk)} {kp n' : Nat} {r r2 : AV} {σ σ' : Nat → Option Nat} {touch news : List Nat} {ed : List (Nat × Option Blk)}
  (hc : HasE P f ds hl kp r hl') (hf : ins fo = some (.fn f caps)) (hx : evs ins xs.toList = some avs) (hav : All2 (argM σ kp hp touch hl) (avs ++ caps) ds) (hh : EntH σ kp hp hl) (hi : injB σ hl = true) (hit : inTouch σ touch hl = true) (hlive : (touch.all fun b => (hp b).isSome) = true)
  (hh' : EntH σ' n' (hpL hl') hl2) (hi' : injB σ' hl2 = true) (hr : matchR σ' n' r r2) (hbk : backB σ σ' kp news hl2 = true) (htl : tamdL (touch ++ news) hl2) (htr : tamdA (touch ++ news) r2 = true) (he : editsL (touch ++ news) hl2 = ed) :
  AEff P ⟨dst, .call ⟨.value fo, xs, ats⟩, ty, pos, aft, g⟩ ins hp κ ⟨r2, touch, ed, news⟩ := by
 refine ⟨fun C s ν a w Q K {hκ} hi0 ht hnw hd hs hK => ?_⟩
 have hfn := hs.ev ((hi0 fo (by simp [Op.operands, Call.operands])).trans hf)
 simp only [RepA, RepB] at hfn
 obtain ⟨cv, hfv, hcap⟩ := hfn
 have hval := evs_rep hs (xs := xs.toList) (fun y hy => hi0 y (by simp [Op.operands, Call.operands]; exact .inr (Array.mem_toList_iff.1 hy))) hx
 have hh0 : EntH σ kp s.heap hl := entH_congr (h := hp) (touch := touch) ht hit hh
 have hlive0 : (touch.all fun b => (s.heap b).isSome) = true := List.all_eq_true.2 fun b hb => by
  have := List.all_eq_true.1 hlive b hb
  rw [ht b hb]; exact this
 have hav0 : All2 (argM σ kp s.heap touch hl) (avs ++ caps) ds := hav.mono fun x d h => by
  rcases h with h | ⟨h1, h2, h3⟩
  ·exact .inl h
  ·refine .inr ⟨h1.congr fun b hb => ht b ?_, h2, h3⟩
   have := List.all_eq_true.1 h3 b hb
   simp only [Bool.and_eq_true] at this
   simpa using this.1
 obtain ⟨M2, φ0, m1, m2, mo, m3, m4, m5⟩ := sim_D hs (dst := dst) hd hnw hh0 hi hit hlive0
 have hargs : All2 (RepA w (hpL hl) (ltb kp) (nuOf σ (cutN s.heap ν touch))) ds (xs.toList.map a.eval ++ cv) :=
  all2_conv (R := RepA w s.heap s.used ν) (Mt := argM σ kp s.heap touch hl) (R' := RepA w (hpL hl) (ltb kp) (nuOf σ (cutN s.heap ν touch))) m4 (hval.append (hcap.mono fun x v h => Rep1.repA h)) hav0
 have hcall := hc.calls C.B M2 w ((xs.map a.eval) ++ cv.toArray) (nuOf σ (cutN s.heap ν touch)) _ (fun x hx => C.low x (m1 x hx)) hs.base m2 mo (by simpa using hargs) m3
 unfold Oper.wp
 have hex : (execOp a.eval ⟨dst, .call ⟨.value fo, xs, ats⟩, ty, pos, aft, g⟩).run P w = .ok (.enter f ((xs.map a.eval) ++ cv.toArray)) w := by
  have : execOp a.eval ⟨dst, .call ⟨.value fo, xs, ats⟩, ty, pos, aft, g⟩ = callFunc f ((xs.map a.eval) ++ cv.toArray) := by
   simp [execOp, resolve, hfv, Deferred.ofValue, invoke]
  rw [this]
  exact hc.enters _ _
 rw [hex]
 simp only [Oper.upon]
 refine hcall.mono fun e w' ⟨v, u1, ν1, φ1, hev, hbel, hext, hh1, hrep⟩ => ?_
 subst hev
 simp only
 obtain ⟨ν', hfin, _⟩ := m5 w' v u1 ν1 φ1 hl' hl2 n' r r2 σ' ed hbel hext hh1 hrep hh' hi' hr hbk htl htr he
 exact hK ν' _ _ hfin
end
section
variable {P : Program} {ops : Array Oper} {nt : Nat} {l : List Oper} {s : AState} {K : AState → Prop} {dst : Option Tmp} {ty : TypeId} {pos : String} {aft : Array Edge}
theorem sops_E {fo : Operand} {xs : Array Operand} {ats : Array TypeId} {f : FuncId} {caps avs ds : List AV} {hl hl' hl2 : List (Nat × Blk)} {kp n' : Nat} {r r2 : AV} {σ σ' : Nat → Option Nat} {touch news : List Nat} {ed : List (Nat × Option Blk)}
  (hc : HasE P f ds hl kp r hl') (hf : s.ev fo = some (.fn f caps)) (hx : evs s.ev xs.toList = some avs) (hav : All2 (argM σ kp s.heap touch hl) (avs ++ caps) ds) (hh : EntH σ kp s.heap hl) (hi : injB σ hl = true) (hit : inTouch σ touch hl = true) (hlive : (touch.all fun b => (s.heap b).isSome) = true)
  (hh' : EntH σ' n' (hpL hl') hl2) (hi' : injB σ' hl2 = true) (hr : matchR σ' n' r r2) (hbk : backB σ σ' kp news hl2 = true) (htl : tamdL (touch ++ news) hl2) (htr : tamdA (touch ++ news) r2 = true) (he : editsL (touch ++ news) hl2 = ed)
  (hd : dstB ⟨dst, .call ⟨.value fo, xs, ats⟩, ty, pos, aft, none⟩ nt = true) (hn : (news.all fun b => !s.used b) = true)
  (h : SOps P ops nt l (s.app dst ⟨r2, touch, ed, news⟩) K) : SOps P ops nt (⟨dst, .call ⟨.value fo, xs, ats⟩, ty, pos, aft, none⟩ :: l) s K := ⟨fun C hC ν a w hs n0 Q hQ => by
 subst hC
 refine wpListIn_step fun K' hK' => ?_
 rw [if_pos (wanted_of hs (ops := ops) (t := true) rfl)]
 refine op_in (fun c h => by cases h) ?_
 have hnw : ∀ b ∈ news, s.used b = false := fun b hb => by have := List.all_eq_true.1 hn b hb; simpa using this
 have hfn := hs.ev hf
 simp only [RepA, RepB] at hfn
 obtain ⟨cv, hfv, hcap⟩ := hfn
 have hval := evs_rep hs (xs := xs.toList) (fun y hy => rfl) hx
 obtain ⟨M2, φ0, m1, m2, mo, m3, m4, m5⟩ := sim_D hs (dst := dst) (dstB_ok hd).1 hnw hh hi hit hlive
 have hargs : All2 (RepA w (hpL hl) (ltb kp) (nuOf σ (cutN s.heap ν touch))) ds (xs.toList.map a.eval ++ cv) :=
  all2_conv (R := RepA w s.heap s.used ν) (Mt := argM σ kp s.heap touch hl) (R' := RepA w (hpL hl) (ltb kp) (nuOf σ (cutN s.heap ν touch))) m4 (hval.append (hcap.mono fun x v h => Rep1.repA h)) hav
 have hcall := hc.calls C.B M2 w ((xs.map a.eval) ++ cv.toArray) (nuOf σ (cutN s.heap ν touch)) _ (fun x hx => C.low x (m1 x hx)) hs.base m2 mo (by simpa using hargs) m3
 unfold Oper.wp
 have hex : (execOp a.eval ⟨dst, .call ⟨.value fo, xs, ats⟩, ty, pos, aft, none⟩).run P w = .ok (.enter f ((xs.map a.eval) ++ cv.toArray)) w := by
  have : execOp a.eval ⟨dst, .call ⟨.value fo, xs, ats⟩, ty, pos, aft, none⟩ = callFunc f ((xs.map a.eval) ++ cv.toArray) := by
   simp [execOp, resolve, hfv, Deferred.ofValue, invoke]
  rw [this]
  exact hc.enters _ _
 rw [hex]
 simp only [Oper.upon]
 refine hcall.mono fun e w' ⟨v, u1, ν1, φ1, hev, hbel, hext, hh1, hrep⟩ => ?_
 subst hev
 simp only
 obtain ⟨ν', hfin, _⟩ := m5 w' v u1 ν1 φ1 hl' hl2 n' r r2 σ' ed hbel hext hh1 hrep hh' hi' hr hbk htl htr he
 exact hK' _ _ (h.out C rfl _ _ _ hfin n0 Q hQ)⟩
end
theorem forget_cs {w : World} {h : Hp} {u : Us} {ν : Nu} : ∀ {cs : List AV} {vs : List Value} {S : List Nat}, CellsRep w h u ν (cs.map toAbs) vs S → (∀ c ∈ cs, cellB c = true) → (∀ x ∈ S, FreeO h ν x) → CellsRep w h u ν cs vs []
 | [], vs, S, r, _, _ => ⟨r.1, rfl⟩
 | c :: cs, vs, S, ⟨v, r, S1, S2, e1, e2, e3, e4⟩, hc, hf => by
  subst e1 e2
  have h4 := forget_cs e4 (fun d hd => hc d (by simp [hd])) (fun x hx => hf x (by simp [hx]))
  refine ⟨v, r, [], [], rfl, rfl, ?_, h4⟩
  have hc0 := hc c (by simp)
  match c, hc0, e3 with
  | .sc x, _, e3 => exact ⟨e3.1, rfl⟩
  | .list k es, _, e3 => exact ⟨⟨S1, RepO.repD e3, fun x hx => hf x (by simp [hx])⟩, rfl⟩
theorem ent_forget {s : AState} {α : Type} {b k : Nat} {e : α → List AV} {l : List α} (E : EOk k e) (hb : s.heap b = some ⟨k, l.map (ow e)⟩) : Ent s ⟨s.env, editHp [(b, some ⟨k, l.map e⟩)] s.heap, s.used, s.ns, s.kp⟩ := by
 intro C ν a w hs
 refine ⟨ν, ?_⟩
 obtain ⟨φ, hh⟩ := hs.heap
 have hat : ∀ c, editHp [(b, some ⟨k, l.map e⟩)] s.heap c = if c = b then some ⟨k, l.map e⟩ else s.heap c := by
  intro c
  simp only [editHp]
  by_cases q : c = b
  ·subst q; simp
  ·rw [beq_ne q, if_neg q]; rfl
 have hfr : ∀ x, Free s.heap ν x → Free (editHp [(b, some ⟨k, l.map e⟩)] s.heap) ν x := by
  intro x hf c blk β c0 hc hν
  rw [hat] at hc
  by_cases q : c = b
  ·subst q; exact hf c _ β c0 hb hν
  ·rw [if_neg q] at hc; exact hf c blk β c0 hc hν
 have ext : Ext w s.heap s.used ν w (editHp [(b, some ⟨k, l.map e⟩)] s.heap) s.used ν := by
  refine ⟨fun _ h => h, fun c blk _ hc => ?_, fun x hx hf => ⟨rfl, hfr x hf⟩, rfl⟩
  rw [hat] at hc
  by_cases q : c = b
  ·subst q
   rw [if_pos rfl] at hc
   cases hc
   exact ⟨_, hb, rfl, by simp, rfl⟩
  ·rw [if_neg q] at hc
   exact ⟨blk, hc, rfl, rfl, rfl⟩
 obtain ⟨g1, ⟨g2, g3⟩, g4, g5⟩ := hh.blk b _ hb
 have hbk : ∃ S, BlkOk w (editHp [(b, some ⟨k, l.map e⟩)] s.heap) s.used ν b ⟨k, l.map e⟩ S ∧ S.Nodup ∧ ∀ x ∈ S, x ∈ φ b := by
  have hlen : ∀ cs ∈ l.map e, cs.length = k := by
   intro cs hcs
   obtain ⟨x, _, rfl⟩ := List.mem_map.1 hcs
   exact E.len x
  rcases g3 with ⟨q1, q2, q3⟩ | ⟨β, c, arr, ty, T, vs, q1, q2, q3, q4, q5, q6, q7, q8⟩
  ·refine ⟨[], ⟨hlen, .inl ⟨q1, ?_, rfl⟩⟩, by simp, by simp⟩
   have : l = [] := by simpa using q2
   rw [this]; rfl
  ·refine ⟨[β], ⟨hlen, .inr ⟨β, c, arr, ty, [], vs, q1, q2, q3, by simpa using q4, q5, rfl, by simpa using q7, ?_⟩⟩, by simp, by rw [q6]; simp⟩
   have h8 : CellsRep w (editHp [(b, some ⟨k, l.map e⟩)] s.heap) s.used ν (((l.map e).flatten).map toAbs) vs T := by
    have := q8.ext ext (fun _ _ => rfl)
    rw [← absEs_flat, abs_map]
    exact this
   refine forget_cs h8 ?_ ?_
   ·intro c hc
    obtain ⟨cs, hcs, hc⟩ := List.mem_flatten.1 hc
    obtain ⟨x, _, rfl⟩ := List.mem_map.1 hcs
    exact E.mem x c hc
   ·intro x hx
    refine ⟨hfr x ?_, hs.okM x (g5 x (by rw [q6]; exact List.mem_cons_of_mem _ hx))⟩
    rintro c' blk β' c0 hc hν rfl
    by_cases q : c' = b
    ·subst q
     rw [hν] at q1
     cases q1
     rw [q6] at g4
     exact (List.nodup_cons.1 g4).1 hx
    ·exact hh.apart c' b β' (by rw [hc]; simp) (by rw [hb]; simp) q (blk_main (hh.blk c' blk hc).2.1 hν) (by rw [q6]; simp [hx])
 obtain ⟨S0, k1, k2, k3⟩ := hbk
 refine ⟨hs.below, hs.base, hs.fresh, hs.defers, hs.size, fun t x hx => by obtain ⟨v, h1, h2⟩ := hs.env t x hx; exact ⟨v, h1, RepA.ext ext h2⟩, ⟨fun c => if c = b then S0 else φ c, ?_, ?_⟩, hs.kp, ⟨hs.ext.used, fun c blk hu hc => ?_, fun x hx hF => ⟨(hs.ext.free x hx hF).1, hfr x (hs.ext.free x hx hF).2⟩, hs.ext.okE⟩, hs.szE, hs.okM, hs.okF⟩
 ·intro c blk hc
  replace hc : editHp [(b, some ⟨k, l.map e⟩)] s.heap c = some blk := hc
  rw [hat] at hc
  by_cases q : c = b
  ·subst q
   rw [if_pos rfl] at hc
   cases hc
   simp only [if_pos]
   exact ⟨g1, k1, k2, fun x hx => g5 x (k3 x hx)⟩
  ·rw [if_neg q] at hc
   simp only [if_neg q]
   obtain ⟨m1, m2, m3, m4⟩ := hh.blk c blk hc
   exact ⟨m1, m2.ext ext rfl (fun _ _ => rfl), m3, m4⟩
 ·have hl : ∀ c, editHp [(b, some ⟨k, l.map e⟩)] s.heap c ≠ none → s.heap c ≠ none := by
   intro c hc
   rw [hat] at hc
   by_cases q : c = b
   ·subst q; rw [hb]; simp
   ·rw [if_neg q] at hc; exact hc
  have hm : ∀ c x, x ∈ (if c = b then S0 else φ c) → x ∈ φ c := by
   intro c x hx
   by_cases q : c = b
   ·subst q; rw [if_pos rfl] at hx; exact k3 x hx
   ·rw [if_neg q] at hx; exact hx
  intro c d x hc hd hne hxc hxd
  exact hh.apart c d x (hl c hc) (hl d hd) hne (hm c x hxc) (hm d x hxd)
 ·obtain ⟨blk0, p1, p2, p3, p4⟩ := ext.old c blk (hs.ext.used c hu) hc
  obtain ⟨z, q1, q2, q3, q4⟩ := hs.ext.old c blk0 hu p1
  exact ⟨z, q1, q2.trans p2, q3.trans p3, p4.trans q4⟩
theorem give_cs {w : World} {h : Hp} {u : Us} {ν : Nu} : ∀ {cs : List AV} {vs : List Value} {S : List Nat}, CellsRep w h u ν cs vs S → cs.all plainD = true → ∃ T, RepVs w cs vs T ∧ (∀ v ∈ vs, v.oneCell' = true) ∧ ∀ x ∈ T, FreeO h ν x
 | [], vs, S, r, _ => by
  obtain ⟨rfl, rfl⟩ := r
  exact ⟨[], by simp [RepVs], by simp, by simp⟩
 | c :: cs, vs, S, ⟨v, r, S1, S2, e1, e2, e3, e4⟩, hp => by
  subst e1
  simp only [List.all_cons, Bool.and_eq_true] at hp
  obtain ⟨T2, g1, g2, g3⟩ := give_cs e4 hp.2
  have hp1 := hp.1
  have hone' : v.oneCell' = true ∧ ∃ T1, RepD w c v T1 ∧ ∀ x ∈ T1, FreeO h ν x := by
   match c, hp1, e3 with
   | .sc x, _, e3 => exact ⟨Rep1.oneCell (x := .sc x) e3.1 (by simp) (by simp) (by simp), [], by simp only [RepD]; exact ⟨e3.1.1, e3.1.2, trivial⟩, by simp⟩
   | .list k es, _, e3 => exact ⟨Rep1.oneCell (x := .list k es) e3.1 (by simp) (by simp) (by simp), e3.1⟩
   | .ref cs, _, e3 => exact ⟨Rep1.oneCell (x := .ref cs) e3.1 (by simp) (by simp) (by simp), e3.1⟩
  obtain ⟨hone, T1, k1, k2⟩ := hone'
  refine ⟨T1 ++ T2, by simp only [RepVs]; exact ⟨v, r, T1, T2, rfl, rfl, k1, g1⟩, ?_, ?_⟩
  ·intro x hx
   rcases List.mem_cons.1 hx with rfl | hx
   ·exact hone
   ·exact g2 x hx
  ·intro x hx
   rcases List.mem_append.1 hx with hx | hx
   ·exact k2 x hx
   ·exact g3 x hx
theorem ent_give {s : AState} {t b k : Nat} {cs : List AV} (ht : s.env t = some (.ptr b 0 0)) (hb : s.heap b = some ⟨k, [cs]⟩) (hp : cs.all plainD = true) : Ent s ⟨upd (some t) (.ref cs) s.env, editHp [(b, none)] s.heap, s.used, s.ns, s.kp⟩ := by
 intro C ν a w hs
 refine ⟨ν, ?_⟩
 have hsub : ∀ c blk, editHp [(b, none)] s.heap c = some blk → s.heap c = some blk := by
  intro c blk h
  simp only [editHp] at h
  cases e : Nat.beq c b with
  | true => rw [e] at h; cases h
  | false => rw [e] at h; exact h
 have hs1 := Sim.shrink (g := editHp [(b, none)] s.heap) (ns' := s.ns) (show Sim C ⟨s.env, s.heap, s.used, s.ns, s.kp⟩ ν a w from hs) hsub
 obtain ⟨v, h1, h2⟩ := hs.env t _ ht
 simp only [RepA, RepB, Rep1] at h2
 obtain ⟨hu, h2⟩ := h2
 obtain ⟨β, c0, hν, hv⟩ := h2 _ hb
 obtain ⟨φ, hh⟩ := hs.heap
 obtain ⟨g1, ⟨g2, g3⟩, g4, g5⟩ := hh.blk b _ hb
 rcases g3 with ⟨q1, _⟩ | ⟨β', c', arr, ty, T, vs, q1, q2, q3, q4, q5, q6, q7, q8⟩
 ·rw [hν] at q1; cases q1
 rw [hν] at q1
 cases q1
 have hkl := g2 cs (by simp)
 simp only at hkl
 simp only [List.flatten_cons, List.flatten_nil, List.append_nil] at q8
 obtain ⟨T', r1, r2, r3⟩ := give_cs q8 hp
 have hlen := q8.len
 have hcells : RepCs w β 0 cs T' := by
  refine RepVs.cells r1 r2 fun j y hj => ?_
  have hjl := (List.getElem?_eq_some_iff.1 hj).1
  rw [← q7] at hj
  have hlt : j < 1 * k := by omega
  simp only [List.length_singleton] at hj
  rw [List.getElem?_take_of_lt hlt] at hj
  refine ⟨?_, by simp [World.frozen?, q2]⟩
  simp only [World.cell?, q2]
  simpa using hj
 have hrep : RepA w (editHp [(b, none)] s.heap) s.used ν (.ref cs) v := by
  simp only [RepA, RepB, Rep1]
  refine ⟨β :: T', ?_, ?_⟩
  ·simp only [RepD]
   exact ⟨β, 0, T', by rw [hv]; simp, lt_of_some q2, rfl, hcells⟩
  ·intro x hx
   refine ⟨?_, ?_⟩
   rotate_left
   ·rcases List.mem_cons.1 hx with rfl | hx
    ·exact hs.okM _ (g5 _ (by rw [q6]; simp))
    ·exact (r3 x hx).2
   intro c blk β2 c2 hc hν2
   have hc' := hsub c blk hc
   rcases List.mem_cons.1 hx with rfl | hx
   ·rintro rfl
    have hne : c ≠ b := by
     rintro rfl
     simp [editHp] at hc
    exact hh.apart c b β2 (by rw [hc']; simp) (by rw [hb]; simp) hne (blk_main (hh.blk c blk hc').2.1 hν2) (by rw [q6]; simp)
   ·exact (r3 x hx).1 c blk β2 c2 hc' hν2
 refine ⟨hs1.below, hs1.base, hs1.fresh, hs1.defers, hs1.size, ?_, hs1.heap, hs1.kp, hs1.ext, hs1.szE, hs1.okM, hs1.okF⟩
 intro t' x hx
 simp only [upd] at hx
 cases e : Nat.beq t' t with
 | true =>
  rw [e] at hx
  simp only [cond_true, Option.some.injEq] at hx
  subst hx
  rw [Nat.eq_of_beq_eq_true e]
  exact ⟨v, h1, hrep⟩
 | false =>
  rw [e] at hx
  exact hs1.env t' x hx
theorem ent_freeze {s : AState} {t : Nat} {x d : AV} (bs : List Nat) (ht : s.env t = some x) (hv : viewG s.heap x d) (ho : okArg d = true) (hb : ((touchG x).all fun b => bs.contains b) = true) : Ent s ⟨upd (some t) d s.env, editHp (bs.map fun b => (b, none)) s.heap, s.used, s.ns, s.kp⟩ := by
 intro C ν a w hs
 refine ⟨ν, ?_⟩
 have hed : ∀ (bs : List Nat) c blk, editHp (bs.map fun b => (b, none)) s.heap c = some blk → c ∉ bs ∧ s.heap c = some blk := by
  intro bs
  induction bs with
  | nil => intro c blk h; exact ⟨by simp, h⟩
  | cons b bs ih =>
   intro c blk h
   simp only [List.map_cons, editHp] at h
   cases e : Nat.beq c b with
   | true => rw [e] at h; cases h
   | false =>
    rw [e] at h
    obtain ⟨h1, h2⟩ := ih c blk h
    refine ⟨fun hm => ?_, h2⟩
    rcases List.mem_cons.1 hm with rfl | hm
    ·simp at e
    ·exact h1 hm
 have hsub : ∀ c blk, editHp (bs.map fun b => (b, none)) s.heap c = some blk → s.heap c = some blk := fun c blk h => (hed bs c blk h).2
 have hs1 := Sim.shrink (g := editHp (bs.map fun b => (b, none)) s.heap) (ns' := s.ns) (show Sim C ⟨s.env, s.heap, s.used, s.ns, s.kp⟩ ν a w from hs) hsub
 obtain ⟨v, h1, h2⟩ := hs.env t _ ht
 obtain ⟨φ, hh⟩ := hs.heap
 obtain ⟨S', e1, e2⟩ := viewG.repF hh h2 hv
 have hrep : RepA w (editHp (bs.map fun b => (b, none)) s.heap) s.used ν d v := by
  refine e1.repAO ho fun y hy => ?_
  rcases e2 y hy with ⟨b, b1, b2, b3⟩ | hf
  ·have hbb : b ∈ bs := by
    have := List.all_eq_true.1 hb b b1
    simpa using this
   refine ⟨fun c blk β c2 hc hν e => ?_, ?_⟩
   ·subst e
    obtain ⟨g1, g2⟩ := hed bs c blk hc
    exact hh.apart c b β (by rw [g2]; simp) b2 (by rintro rfl; exact g1 hbb) (blk_main (hh.blk c blk g2).2.1 hν) b3
   ·obtain ⟨blk, hbl⟩ := Option.ne_none_iff_exists'.1 b2
    exact hs.okM y ((hh.blk b blk hbl).2.2.2 y b3)
  ·exact ⟨fun c blk β c2 hc hν => hf.1 c blk β c2 (hsub c blk hc) hν, hf.2⟩
 refine ⟨hs1.below, hs1.base, hs1.fresh, hs1.defers, hs1.size, ?_, hs1.heap, hs1.kp, hs1.ext, hs1.szE, hs1.okM, hs1.okF⟩
 intro t' x' hx
 simp only [upd] at hx
 cases e : Nat.beq t' t with
 | true =>
  rw [e] at hx
  simp only [cond_true, Option.some.injEq] at hx
  subst hx
  rw [Nat.eq_of_beq_eq_true e]
  exact ⟨v, h1, hrep⟩
 | false =>
  rw [e] at hx
  exact hs1.env t' x' hx
end Go.Proofs.Ytinllccaphhmcaa
end

section
set_option linter.unusedVariables false
set_option linter.unusedSimpArgs false

namespace Go.Proofs.Ytinllccaphhmcaa
open Go.RowKit
set_option linter.unusedVariables false
def cellO : AV → Bool
 | .sc _ => true
 | .nil _ => true
 | .abs _ _ => true
 | _ => false
theorem CellsRep.oneO {w : World} {h : Hp} {u : Us} {ν : Nu} : ∀ {cs : List AV} {vs : List Value} {S : List Nat}, CellsRep w h u ν cs vs S → cs.all cellO = true → ∀ x ∈ vs, x.oneCell' = true
 | [], _, _, r, _, x, hx => by rw [r.1] at hx; cases hx
 | c :: cs, vs, S, ⟨v, r, S1, S2, h1, h2, h3, h4⟩, ok, x, hx => by
  subst h1
  simp only [List.all_cons, Bool.and_eq_true] at ok
  rcases List.mem_cons.1 hx with rfl | hx
  ·have ok1 := ok.1
   match c, ok1, h3 with
   | .sc y, _, h3 => rw [h3.1.1]; exact h3.1.2
   | .nil k, _, h3 => rw [show x = .slice none 0 0 from h3.1]; rfl
   | .abs k es, _, h3 =>
    have h5 := RepO.repD h3
    simp only [RepD] at h5
    obtain ⟨a, c, rfl, _⟩ := h5
    rfl
  ·exact h4.oneO ok.2 x hx
theorem heapOk_swapK {B : Nat → Prop} {w w' : World} {h h' : Hp} {u u' : Us} {ν ν' : Nu} {φ : Nat → List Nat} {Kb : Nat → Prop} {b' : Nat} {blk' : Blk} {F : List Nat} (hh : HeapOk B w h u ν φ) (ext : Ext w h u ν w' h' u' ν') (hu' : u' b' = true)
  (hh' : ∀ b2 blk2, h' b2 = some blk2 → (b2 = b' ∧ blk2 = blk') ∨ (b2 ≠ b' ∧ ¬ Kb b2 ∧ h b2 = some blk2)) (hν' : ∀ b2, b2 ≠ b' → ν' b2 = ν b2)
  (hsame : ∀ b2 blk2 x, h b2 = some blk2 → ¬ Kb b2 → x ∈ φ b2 → w'.heap[x]? = w.heap[x]?)
  (hb : BlkOk w' h' u' ν' b' blk' F) (hn : F.Nodup) (hB : ∀ x ∈ F, B x) (hF : ∀ x ∈ F, (∃ b, Kb b ∧ h b ≠ none ∧ x ∈ φ b) ∨ w.heap.size ≤ x) : ∃ φ, HeapOk B w' h' u' ν' φ := by
 have key : ∀ b2, h' b2 ≠ none → b2 ≠ b' → ¬ Kb b2 ∧ h b2 ≠ none := by
  intro b2 h1 h2
  cases hq : h' b2 with
  | none => exact absurd hq h1
  | some blk2 =>
   rcases hh' b2 blk2 hq with ⟨e, _⟩ | ⟨_, e2, e3⟩
   ·exact absurd e h2
   ·exact ⟨e2, by rw [e3]; simp⟩
 have far : ∀ b2 x, h' b2 ≠ none → b2 ≠ b' → x ∈ φ b2 → x ∉ F := by
  intro b2 x h1 h2 hx hxF
  obtain ⟨k1, k2⟩ := key b2 h1 h2
  rcases hF x hxF with ⟨b, e1, e2, e3⟩ | e
  ·exact hh.apart b2 b x k2 e2 (by rintro rfl; exact k1 e1) hx e3
  ·cases hq : h b2 with
   | none => exact k2 hq
   | some blk2 => have := (hh.blk b2 blk2 hq).2.1.lt x hx; omega
 refine ⟨fun x => bif Nat.beq x b' then F else φ x, ?_, ?_⟩
 ·intro x blk hx
  by_cases e : x = b'
  ·subst e
   simp only [beq_self, cond_true]
   rcases hh' x blk hx with ⟨_, rfl⟩ | ⟨e, _⟩
   ·exact ⟨hu', hb, hn, hB⟩
   ·exact absurd rfl e
  ·simp only [beq_ne e, cond_false]
   rcases hh' x blk hx with ⟨e2, _⟩ | ⟨_, e2, e3⟩
   ·exact absurd e2 e
   ·obtain ⟨g1, g2, g3, g4⟩ := hh.blk x blk e3
    exact ⟨ext.used x g1, g2.ext ext (hν' x e) (fun y hy => hsame x blk y e3 e2 hy), g3, g4⟩
 ·intro x y z hx hy hne hzx hzy
  by_cases ex : x = b'
  ·subst ex
   have ey : y ≠ x := fun e => hne e.symm
   simp only [beq_self, cond_true] at hzx
   simp only [beq_ne ey, cond_false] at hzy
   exact far y z hy ey hzy hzx
  ·simp only [beq_ne ex, cond_false] at hzx
   by_cases ey : y = b'
   ·subst ey
    simp only [beq_self, cond_true] at hzy
    exact far x z hx ex hzx hzy
   ·simp only [beq_ne ey, cond_false] at hzy
    exact hh.apart x y z (key x hx ex).2 (key y hy ey).2 hne hzx hzy
section
variable {P : Program} {dst : Option Tmp} {ty : TypeId}
theorem Sim.appendM {C : Ctx} {s : AState} {ν : Nu} {a : Act} {w : World} (hs : Sim C s ν a w) (hd : ∀ d, dst = some d → d < C.nt) {t ty e : TypeId} {i : TypeInfo} {z : Value} (ht : P.underlying t = some (.slice e)) (hi : P.info? e = some i) (hz : i.zero = some z) (hzs : z.cells.size = i.size)
  {kb : Option Nat} {b' : Nat} {es0 : List (List AV)} {v : Value} {sv : Value} (hu' : s.used b' = false)
  (hdst : (kb = none ∧ es0 = [] ∧ v = .slice none 0 0) ∨ ∃ b blk, kb = some b ∧ s.heap b = some blk ∧ blk = ⟨i.size, es0⟩ ∧ RepA w s.heap s.used ν (.own b 0 es0.length) v)
  {cb : Nat} {cblk : Blk} (hcb : s.heap cb = some cblk) (hck : cblk.k = i.size) (hcr : RepA w s.heap s.used ν (.own cb 0 cblk.es.length) sv) (hcne : kb ≠ some cb) (hco : cblk.es.flatten.all cellO = true) (hb1 : es0.length + cblk.es.length ≤ 4294967296) (hb2 : (es0.length + cblk.es.length) * i.bytes ≤ 140737488355328)
  {edits : List (Nat × Option Blk)} {touch : List Nat} (hed : ∀ b2 blk2, editHp edits s.heap b2 = some blk2 → (b2 = b' ∧ blk2 = ⟨i.size, es0 ++ cblk.es⟩) ∨ (b2 ≠ b' ∧ some b2 ≠ kb ∧ b2 ≠ cb ∧ s.heap b2 = some blk2))
  (hnew : editHp edits s.heap b' = some ⟨i.size, es0 ++ cblk.es⟩) :
  ∃ v' w' ν', (Builtin.append_ #[t, t] ty #[v, sv]).run P w = .ok v' w' ∧ Sim C (s.app dst ⟨.own b' 0 (es0.length + cblk.es.length), touch, edits, [b']⟩) ν' (a.put dst v') w' := by
 obtain ⟨φ, hh⟩ := hs.heap
 obtain ⟨news, hnews⟩ : ∃ news, news = cblk.es := ⟨_, rfl⟩
 rw [← hnews] at hcr hco hb1 hb2 hed hnew ⊢
 -- the block that is taken over
 have hsrc0 : ∃ ao c' vs T1, sv = .slice ao news.length c' ∧ (∀ cs ∈ news, cs.length = i.size) ∧ vs.length = news.length * i.size ∧ CellsRep w s.heap s.used ν news.flatten vs T1 ∧ (news.length = 0 ∨ ∃ ad, ao = some ad ∧ ∀ j u, vs[j]? = some u → w.cell? (ad.add j) = some u) ∧ T1.Nodup ∧ (∀ x ∈ T1, x ∈ φ cb) := by
  simp only [RepA, RepB, Rep1] at hcr
  obtain ⟨r1, r2, r3⟩ := hcr.2 _ hcb
  obtain ⟨_, ⟨hk, hx2⟩, hnd, _⟩ := hh.blk cb _ hcb
  rw [← hnews] at hx2 hk
  rcases hx2 with ⟨q1, q2, q3⟩ | ⟨β, c, arr, bt, T0, vs0, q1, q2, q3, q4, q5, q6, q7, q8⟩
  ·rw [q2]
   exact ⟨none, 0, [], [], r2 q1, by simp, by simp, ⟨rfl, rfl⟩, .inl rfl, by simp, by simp⟩
  ·have e0 := (r3 β c q1).zero
   refine ⟨_, c, vs0, T0, e0, fun cs hcs => by rw [← hck]; exact hk cs hcs, ?_, q8, .inr ⟨_, rfl, fun j u hu => ?_⟩, ?_, fun x hx => by rw [q6]; exact List.mem_cons_of_mem _ hx⟩
   ·rw [q8.len, flatten_len hk, hck]
   ·rw [← q7] at hu
    have hj : j < news.length * cblk.k := by
     rcases Nat.lt_or_ge j (news.length * cblk.k) with h' | h'
     ·exact h'
     ·rw [List.getElem?_eq_none (by simp; omega)] at hu; cases hu
    rw [List.getElem?_take_of_lt hj] at hu
    rw [Addr.add_lit, Nat.zero_add]
    simp only [World.cell?, q2]
    simpa using hu
   ·rw [q6] at hnd
    exact (List.nodup_cons.1 hnd).2
 obtain ⟨ao, c', vs, T1, hsv, hnk, hvl, hcells, hsrc, hT1n, hT1m⟩ := hsrc0
 subst hsv
 have h1 : ∀ u ∈ vs, u.oneCell' = true := hcells.oneO hco
 have hcM : ∀ x ∈ T1, C.M x := fun x hx => (hh.blk cb _ hcb).2.2.2 x (hT1m x hx)
 have hedK : ∀ b2 blk2, editHp edits s.heap b2 = some blk2 → (b2 = b' ∧ blk2 = ⟨i.size, es0 ++ news⟩) ∨ (b2 ≠ b' ∧ ¬ (some b2 = kb ∨ b2 = cb) ∧ s.heap b2 = some blk2) := fun b2 blk2 h => by
  rcases hed b2 blk2 h with h | ⟨h1, h2, h3, h4⟩
  ·exact .inl h
  ·exact .inr ⟨h1, fun h => by rcases h with h | h; exact h2 h; exact h3 h, h4⟩
 have hnb : s.heap b' = none := hs.unused hu'
 -- the old block
 have hold : ∃ olds T0, CellsRep w s.heap s.used ν es0.flatten olds T0 ∧ (∀ cs ∈ es0, cs.length = i.size) ∧
   ((v = .slice none 0 0 ∧ es0 = [] ∧ olds = [] ∧ T0 = []) ∨ ∃ b β c arr bt, kb = some b ∧ s.heap b ≠ none ∧ ν b = some (β, c) ∧ φ b = β :: T0 ∧ v = .slice (some ⟨β, 0, none⟩) es0.length c ∧ w.heap[β]? = some (.cells arr bt (0, 0)) ∧ arr.size = c * i.size ∧ es0.length ≤ c ∧ c ≤ maxLen ∧ arr.toList.take (es0.length * i.size) = olds) := by
  rcases hdst with ⟨rfl, rfl, rfl⟩ | ⟨b, blk, rfl, hb, rfl, hr⟩
  ·exact ⟨[], [], ⟨rfl, rfl⟩, by simp, .inl ⟨rfl, rfl, rfl, rfl⟩⟩
  ·simp only [RepA, RepB, Rep1] at hr
   obtain ⟨r1, r2, r3⟩ := hr.2 _ hb
   obtain ⟨hub, ⟨hk, hx2⟩, hnd, hB⟩ := hh.blk b _ hb
   rcases hx2 with ⟨q1, q2, q3⟩ | ⟨β, c, arr, bt, T0, vs0, q1, q2, q3, q4, q5, q6, q7, q8⟩
   ·simp only at q2
    subst q2
    exact ⟨[], [], ⟨rfl, rfl⟩, by simp, .inl ⟨r2 q1, rfl, rfl, rfl⟩⟩
   ·have := (r3 β c q1).zero
    exact ⟨vs0, T0, q8, hk, .inr ⟨b, β, c, arr, bt, rfl, by rw [hb]; simp, q1, q6, this, q2, q3, q4, q5, q7⟩⟩
 obtain ⟨olds, T0, ho1, ho2, ho3⟩ := hold
 have hv : (v = .slice none 0 0 ∧ es0.length = 0 ∧ olds = []) ∨ ∃ β c arr bt, v = .slice (some ⟨β, 0, none⟩) es0.length c ∧ w.heap[β]? = some (.cells arr bt (0, 0)) ∧ arr.size = c * i.size ∧ es0.length ≤ c ∧ c ≤ maxLen ∧ arr.toList.take (es0.length * i.size) = olds := by
  rcases ho3 with ⟨e1, e2, e3, e4⟩ | ⟨b, β, c, arr, bt, e1, e2, e3, e4, e5, e6, e7, e8, e9, e10⟩
  ·exact .inl ⟨e1, by simp [e2], e3⟩
  ·exact .inr ⟨β, c, arr, bt, e5, e6, e7, e8, e9, e10⟩
 obtain ⟨v', w', hrun, hways⟩ := run_append_ways (P := P) (w := w) (c' := c') t ty e i z ht hi hz hzs hv hvl hsrc h1 hb1 hb2
 have hku : ∀ cs ∈ es0 ++ news, cs.length = i.size := by
  intro cs hcs
  rcases List.mem_append.1 hcs with h | h
  ·exact ho2 cs h
  ·exact hnk cs h
 have hcl : CellsRep w s.heap s.used ν (es0 ++ news).flatten (olds ++ vs) (T0 ++ T1) := by
  have := ho1.append hcells
  rw [List.flatten_append]
  exact this
 have hapart : ∀ b, kb = some b → s.heap b ≠ none → ∀ x ∈ φ b, x ∉ T1 := fun b hb hbn x hx hx1 => hh.apart b cb x hbn (by rw [hcb]; simp) (by rintro rfl; exact hcne hb) hx (hT1m x hx1)
 have hT0 : T0 = [] ∨ ∃ b β, kb = some b ∧ s.heap b ≠ none ∧ φ b = β :: T0 := by
  rcases ho3 with ⟨_, _, _, e4⟩ | ⟨b, β, c, arr, bt, e1, e2, e3, e4, _⟩
  ·exact .inl e4
  ·exact .inr ⟨b, β, e1, e2, e4⟩
 have hnd0 : ∀ b β, s.heap b ≠ none → φ b = β :: T0 → (β :: T0).Nodup ∧ ∀ x ∈ β :: T0, C.M x := by
  intro b β hb hφ
  cases hq : s.heap b with
  | none => exact absurd hq hb
  | some blk => obtain ⟨_, _, g3, g4⟩ := hh.blk b blk hq; rw [hφ] at g3 g4; exact ⟨g3, g4⟩
 have hνd : ∀ (X : Option (Nat × Nat)) b2, b2 ≠ b' → updν b' X ν b2 = ν b2 := fun X b2 hne => by simp [updν, beq_ne hne]
 have hold2 : ∀ (X : Option (Nat × Nat)) b2 blk', s.used b2 = true → editHp edits s.heap b2 = some blk' → ∃ blk, s.heap b2 = some blk ∧ blk.k = blk'.k ∧ blk.es.length = blk'.es.length ∧ updν b' X ν b2 = ν b2 := by
  intro X b2 blk' hu2 hb2
  have hne : b2 ≠ b' := by rintro rfl; rw [hu'] at hu2; cases hu2
  rcases hedK b2 blk' hb2 with ⟨e, _⟩ | ⟨_, _, e⟩
  ·exact absurd e hne
  ·exact ⟨blk', e, rfl, rfl, hνd X b2 hne⟩
 have hub' : addUs [b'] s.used b' = true := by simp [addUs]
 have hus : ∀ b2, s.used b2 = true → addUs [b'] s.used b2 = true := fun b2 h => by simp [addUs, h]
 -- which way
 rcases hways with ⟨w1, rfl, rfl⟩ | ⟨β, c, arr, bt, arr', w1, w2, rfl, w4, w5, rfl, w7, w8⟩ | ⟨c, arr', rfl, w2, w3, rfl, w5, w6⟩
 ·-- nothing comes
  have hnil : news = [] := List.eq_nil_of_length_eq_zero w1
  subst hnil
  have hvs : vs = [] := by simpa using hvl
  subst hvs
  obtain ⟨_, rfl⟩ : ([] : List Value) = [] ∧ T1 = [] := hcells
  rw [List.append_nil T0] at hcl
  rcases ho3 with ⟨e1, e2, e3, e4⟩ | ⟨b, β, c, arr, bt, e1, e2, e3, e4, e5, e6, e7, e8, e9, e10⟩
  ·subst e2 e3 e4
   have ext : Ext w' s.heap s.used ν w' (editHp edits s.heap) (addUs [b'] s.used) (updν b' none ν) :=
    ⟨hus, hold2 none, fun x hx hf => ⟨rfl, fun b2 blk2 β2 c2 hb2 hν2 => by
     rcases hedK b2 blk2 hb2 with ⟨e, _⟩ | ⟨e, _, e'⟩
     ·subst e; simp [updν] at hν2
     ·rw [hνd none b2 e] at hν2; exact hf b2 blk2 β2 c2 e' hν2⟩, rfl⟩
   refine ⟨v', w', updν b' none ν, hrun, hs.step hd ext (Below.refl _ _) (heapOk_swapK (Kb := fun b2 => some b2 = kb ∨ b2 = cb) (F := []) hh ext hub' hedK (hνd none) (fun _ _ _ _ _ _ => rfl) ⟨by simp, .inl ⟨by simp [updν], rfl, rfl⟩⟩ (by simp) (by simp) (by simp)) rfl ?_⟩
   simp only [RepA, RepB, Rep1]
   refine ⟨hub', fun blk hb => ?_⟩
   replace hb : editHp edits s.heap b' = some blk := hb
   rw [hnew] at hb
   cases hb
   refine ⟨by simp, fun _ => e1, fun β2 c2 hν2 => by simp [updν] at hν2⟩
  ·have ext : Ext w' s.heap s.used ν w' (editHp edits s.heap) (addUs [b'] s.used) (updν b' (some (β, c)) ν) :=
    ⟨hus, hold2 _, fun x hx hf => ⟨rfl, fun b2 blk2 β2 c2 hb2 hν2 => by
     rcases hedK b2 blk2 hb2 with ⟨e, _⟩ | ⟨e, _, e'⟩
     ·subst e
      simp only [updν, beq_self, cond_true, Option.some.injEq, Prod.mk.injEq] at hν2
      cases hq : s.heap b with
      | none => exact absurd hq e2
      | some blk => rw [← hν2.1]; exact hf b blk β c hq e3
     ·rw [hνd _ b2 e] at hν2; exact hf b2 blk2 β2 c2 e' hν2⟩, rfl⟩
   obtain ⟨n1, n2⟩ := hnd0 b β e2 e4
   refine ⟨v', w', updν b' (some (β, c)) ν, hrun, hs.step hd ext (Below.refl _ _) (heapOk_swapK (Kb := fun b2 => some b2 = kb ∨ b2 = cb) (F := β :: T0) hh ext hub' hedK (hνd _) (fun _ _ _ _ _ _ => rfl)
    ⟨hku, .inr ⟨β, c, arr, bt, T0, olds ++ [], by simp [updν], e6, e7, by simpa using e8, e9, rfl, by simpa using e10, hcl.ext ext (fun _ _ => rfl)⟩⟩ n1 n2 (fun x hx => .inl ⟨b, .inl e1.symm, e2, by rw [e4]; exact hx⟩)) rfl ?_⟩
   simp only [RepA, RepB, Rep1]
   refine ⟨hub', fun blk hb => ?_⟩
   replace hb : editHp edits s.heap b' = some blk := hb
   rw [hnew] at hb
   cases hb
   refine ⟨by simp, fun hno => by simp [updν] at hno, fun β2 c2 hν2 => ?_⟩
   simp only [updν, beq_self, cond_true, Option.some.injEq, Prod.mk.injEq] at hν2
   obtain ⟨rfl, rfl⟩ := hν2
   exact ⟨0, by simpa using e5, .inl (by simp)⟩
 ·-- in place
  rcases ho3 with ⟨e1, _⟩ | ⟨b, β2, c2, arr2, bt2, e1, e2, e3, e4, e5, e6, e7, e8, e9, e10⟩
  ·rw [e1] at w1; simp at w1
  ·rw [e5] at w1
   simp only [Value.slice.injEq, Option.some.injEq, Addr.mk.injEq] at w1
   obtain ⟨⟨rfl, _⟩, _, rfl⟩ := w1
   have hothers : ∀ x, x ≠ β2 → (w.setRow β2 arr').heap[x]? = w.heap[x]? := fun x hx => heap_setRow_ne hx
   have ext : Ext w s.heap s.used ν (w.setRow β2 arr') (editHp edits s.heap) (addUs [b'] s.used) (updν b' (some (β2, c2)) ν) := by
    obtain ⟨blk, hq⟩ := Option.ne_none_iff_exists'.1 e2
    exact ⟨hus, hold2 _, fun x hx hf => ⟨hothers x (fun e => hf b blk β2 c2 hq e3 e.symm), fun b2 blk2 β3 c3 hb2 hν2 => by
     rcases hedK b2 blk2 hb2 with ⟨e, _⟩ | ⟨e, _, e'⟩
     ·subst e
      simp only [updν, beq_self, cond_true, Option.some.injEq, Prod.mk.injEq] at hν2
      rw [← hν2.1]; exact hf b blk β2 c2 hq e3
     ·rw [hνd _ b2 e] at hν2; exact hf b2 blk2 β3 c3 e' hν2⟩, rfl⟩
   obtain ⟨n1, n2⟩ := hnd0 b β2 e2 e4
   have hap := hapart b e1 e2
   rw [e4] at hap
   have m1 : (β2 :: (T0 ++ T1)).Nodup := by
    rw [← List.cons_append]
    exact List.nodup_append.2 ⟨n1, hT1n, fun x hx y hy e => hap x hx (e ▸ hy)⟩
   have m2 : ∀ x ∈ β2 :: (T0 ++ T1), C.M x := by
    intro x hx
    rw [← List.cons_append] at hx
    rcases List.mem_append.1 hx with hx | hx
    ·exact n2 x hx
    ·exact hcM x hx
   have m3 : ∀ x ∈ β2 :: (T0 ++ T1), (∃ b, (some b = kb ∨ b = cb) ∧ s.heap b ≠ none ∧ x ∈ φ b) ∨ w.heap.size ≤ x := by
    intro x hx
    rw [← List.cons_append] at hx
    rcases List.mem_append.1 hx with hx | hx
    ·exact .inl ⟨b, .inl e1.symm, e2, by rw [e4]; exact hx⟩
    ·exact .inl ⟨cb, .inr rfl, by rw [hcb]; simp, hT1m x hx⟩
   refine ⟨_, _, updν b' (some (β2, c2)) ν, hrun, hs.step hd ext (below_setRow (C.low _ (n2 β2 (by simp)))) (heapOk_swapK (Kb := fun b2 => some b2 = kb ∨ b2 = cb) (F := β2 :: (T0 ++ T1)) hh ext hub' hedK (hνd _) (fun b2 blk2 x hb2 hkb hx => hothers x ?_)
    ⟨hku, .inr ⟨β2, c2, arr', bt, T0 ++ T1, olds ++ vs, by simp [updν], setRow_heap w β2 arr arr' bt (0, 0) w2, w7, by simpa using w4, w5, rfl, by simpa using w8, hcl.ext ext (fun y hy => hothers y ?_)⟩⟩ m1 m2 m3) rfl ?_⟩
   ·rintro rfl
    exact hh.apart b2 b x (by rw [hb2]; simp) e2 (by rintro rfl; exact hkb (.inl e1.symm)) hx (by rw [e4]; simp)
   ·rintro rfl
    exact (List.nodup_cons.1 m1).1 hy
   ·simp only [RepA, RepB, Rep1, AState.app]
    refine ⟨hub', fun blk hb => ?_⟩
    replace hb : editHp edits s.heap b' = some blk := hb
    rw [hnew] at hb
    cases hb
    refine ⟨by simp, fun hno => by simp [updν] at hno, fun β3 c3 hν2 => ?_⟩
    simp only [updν, beq_self, cond_true, Option.some.injEq, Prod.mk.injEq] at hν2
    obtain ⟨rfl, rfl⟩ := hν2
    exact ⟨0, by simp, .inl (by simp)⟩
 ·-- a new block
  have ext : Ext w s.heap s.used ν (w.drew.alloc (.cells arr' e)) (editHp edits s.heap) (addUs [b'] s.used) (updν b' (some (w.heap.size, c)) ν) :=
   ⟨hus, hold2 _, fun x hx hf => ⟨heap_push (w := w.drew) hx, fun b2 blk2 β3 c3 hb2 hν2 => by
    rcases hedK b2 blk2 hb2 with ⟨e, _⟩ | ⟨e, _, e'⟩
    ·subst e
     simp only [updν, beq_self, cond_true, Option.some.injEq, Prod.mk.injEq] at hν2
     omega
    ·rw [hνd _ b2 e] at hν2; exact hf b2 blk2 β3 c3 e' hν2⟩, rfl⟩
  have hlt0 : ∀ y ∈ T0 ++ T1, y < w.heap.size := hcl.lt
  have hT0n : T0.Nodup ∧ (∀ x ∈ T0, C.M x) ∧ (∀ x ∈ T0, x ∉ T1) ∧ ∀ x ∈ T0, ∃ b, kb = some b ∧ s.heap b ≠ none ∧ x ∈ φ b := by
   rcases hT0 with rfl | ⟨b, β, q1, q2, q3⟩
   ·simp
   ·obtain ⟨n1, n2⟩ := hnd0 b β q2 q3
    refine ⟨(List.nodup_cons.1 n1).2, fun x hx => n2 x (List.mem_cons_of_mem _ hx), fun x hx => hapart b q1 q2 x (by rw [q3]; exact List.mem_cons_of_mem _ hx), fun x hx => ⟨b, q1, q2, by rw [q3]; exact List.mem_cons_of_mem _ hx⟩⟩
  obtain ⟨k1, k2, k3, k4⟩ := hT0n
  have hFn : (w.heap.size :: (T0 ++ T1)).Nodup := by
   refine List.nodup_cons.2 ⟨fun hm => by have := hlt0 _ hm; omega, List.nodup_append.2 ⟨k1, hT1n, fun x hx y hy e => k3 x hx (e ▸ hy)⟩⟩
  have hFB : ∀ x ∈ w.heap.size :: (T0 ++ T1), C.M x := by
   intro x hx
   rcases List.mem_cons.1 hx with rfl | h
   ·exact hs.fresh _ (Nat.le_refl _)
   ·rcases List.mem_append.1 h with h | h
    ·exact k2 x h
    ·exact hcM x h
  refine ⟨_, _, updν b' (some (w.heap.size, c)) ν, hrun, hs.step hd ext ((⟨rfl, rfl, rfl, Nat.le_refl _, fun _ _ => rfl⟩ : Below C.B w w.drew).alloc hs.base _) (heapOk_swapK (Kb := fun b2 => some b2 = kb ∨ b2 = cb) (F := w.heap.size :: (T0 ++ T1)) hh ext hub' hedK (hνd _) (fun b2 blk2 x hb2 _ hx => heap_push (w := w.drew) ((hh.blk b2 blk2 hb2).2.1.lt x hx))
   ⟨hku, .inr ⟨w.heap.size, c, arr', e, T0 ++ T1, olds ++ vs, by simp [updν], heap_new (w := w.drew), w5, by simpa using w2, w3, rfl, by simpa using w6, hcl.ext ext (fun y hy => heap_push (w := w.drew) (hlt0 y hy))⟩⟩ hFn hFB (fun x hx => ?_)) rfl ?_⟩
  ·rcases List.mem_cons.1 hx with rfl | h
   ·exact .inr (Nat.le_refl _)
   ·rcases List.mem_append.1 h with h | h
    ·obtain ⟨b, q1, q2, q3⟩ := k4 x h
     exact .inl ⟨b, .inl q1.symm, q2, q3⟩
    ·exact .inl ⟨cb, .inr rfl, by rw [hcb]; simp, hT1m x h⟩
  ·simp only [RepA, RepB, Rep1, AState.app]
   refine ⟨hub', fun blk hb => ?_⟩
   replace hb : editHp edits s.heap b' = some blk := hb
   rw [hnew] at hb
   cases hb
   refine ⟨by simp, fun hno => by simp [updν] at hno, fun β3 c3 hν2 => ?_⟩
   simp only [updν, beq_self, cond_true, Option.some.injEq, Prod.mk.injEq] at hν2
   obtain ⟨rfl, rfl⟩ := hν2
   exact ⟨0, by simp, .inl (by simp)⟩
end
theorem all_ow {α : Type} {k : Nat} {e : α → List AV} (E : EOk k e) (l : List α) : (l.map (ow e)).flatten.all cellO = true := by
 rw [List.all_eq_true]
 intro c hc
 obtain ⟨cs, hcs, hc⟩ := List.mem_flatten.1 hc
 obtain ⟨x, _, rfl⟩ := List.mem_map.1 hcs
 obtain ⟨d, hd, rfl⟩ := List.mem_map.1 hc
 have := E.mem x d hd
 cases d <;> simp only [cellB, Bool.false_eq_true] at this <;> rfl
section
variable {P : Program} {T : List (Nat × Ty)} (hT : TyOk P T) {dst : Option Tmp} {ty : TypeId} {pos : String} {aft : Array Edge} {g : Option (Nat × Bool)} {s : AState} {α : Type} {k : Nat} {e : α → List AV}
include hT
theorem x_app_mv {x z : Operand} {t et : Nat} {y ye : Ty} {b c b' n n2 : Nat} {l m : List α} {dty : TypeId} (E : EOk k e) (hf : decide (l.length + m.length ≤ 4294967296) = true) (hns : s.ns.head? = some b') (hx : s.ev x = some (.own b 0 n)) (hb : s.heap b = some ⟨k, l.map (ow e)⟩) (hl : l.length = n) (hz : s.ev z = some (.own c 0 n2)) (hc : s.heap c = some ⟨k, m.map (ow e)⟩) (hm : m.length = n2) (hbc : Nat.beq b c = false)
  (hy : tyOf T t = some y) (hd : y.desc = .slice et) (hye : tyOf T et = some ye) (hzl : ye.zero.length = ye.size) (hk : ye.size = k) (hby : Nat.ble ye.bytes 32768 = true) :
  AEff P ⟨dst, .call ⟨.builtin .append, #[x, z], #[t, t]⟩, dty, pos, aft, g⟩ s.ev s.heap s.kp ⟨.own b' 0 (l ++ m).length, [b, c], [(b, none), (c, none), (b', some ⟨k, (l ++ m).map (ow e)⟩)], [b']⟩ := by
 have hf := of_decide_eq_true hf
 have hby := Nat.le_of_ble_eq_true hby
 have hbc' : b ≠ c := by rintro rfl; simp at hbc
 refine ⟨fun C s' ν a w Q K {hκ} hi' ht hnw hdst hs hK => ?_⟩
 have hu := hnw b' (by simp)
 have h1 := hs.ev ((hi' x (by simp [Op.operands, Call.operands])).trans hx)
 have h2 := hs.ev ((hi' z (by simp [Op.operands, Call.operands])).trans hz)
 have hb' : s'.heap b = some ⟨k, l.map (ow e)⟩ := (ht b (by simp)).trans hb
 have hc' : s'.heap c = some ⟨k, m.map (ow e)⟩ := (ht c (by simp)).trans hc
 obtain ⟨i1, z1, d1, y1⟩ := hT.is hy
 obtain ⟨i2, z2, d2, y2⟩ := hT.is hye
 have hsz : z2.cells.size = i2.size := by have := zerosB_len y2.zeros; rw [y2.size, ← hzl]; simpa using this
 have hne : b ≠ b' := by rintro rfl; have := hs.unused hu; rw [hb'] at this; cases this
 have hne2 : c ≠ b' := by rintro rfl; have := hs.unused hu; rw [hc'] at this; cases this
 subst hl hm
 have hks : i2.size = k := by rw [y2.size, hk]
 obtain ⟨v', w', ν', hr, hsim⟩ := hs.appendM (P := P) (dst := dst) hdst (ty := dty) (y1.slice hd) y2.info y2.zero hsz (kb := some b) (b' := b') (es0 := l.map (ow e)) (v := a.eval x) (sv := a.eval z) hu
  (.inr ⟨b, _, rfl, hb', by rw [hks], by simpa using h1⟩) hc' hks.symm (by simpa using h2) (fun h => hbc' (by simpa using h)) (all_ow E m) (by simpa using hf) (by
   rw [y2.bytes]
   simp only [List.length_map]
   calc (l.length + m.length) * ye.bytes ≤ 4294967296 * 32768 := Nat.mul_le_mul hf hby
    _ ≤ 140737488355328 := by decide) (edits := [(b, none), (c, none), (b', some ⟨k, (l ++ m).map (ow e)⟩)]) (touch := [b, c])
  (fun b2 blk2 h => by
   simp only [editHp] at h
   by_cases q1 : b2 = b
   ·subst q1; simp at h
   ·rw [beq_ne q1] at h
    by_cases q3 : b2 = c
    ·subst q3; simp at h
    ·rw [beq_ne q3] at h
     by_cases q2 : b2 = b'
     ·subst q2
      simp only [cond_false, beq_self, cond_true, Option.some.injEq] at h
      exact .inl ⟨rfl, by rw [← h, hks, List.map_append]⟩
     ·rw [beq_ne q2] at h
      exact .inr ⟨q2, by simpa using q1, q3, by simpa using h⟩)
  (by simp only [editHp, beq_ne (Ne.symm hne), beq_ne (Ne.symm hne2), cond_false, beq_self, cond_true]; rw [hks, List.map_append])
 unfold Oper.wp
 have hex : (execOp a.eval ⟨dst, .call ⟨.builtin .append, #[x, z], #[t, t]⟩, dty, pos, aft, g⟩).run P w = .ok (.value v') w' := by
  have : (execOp a.eval ⟨dst, .call ⟨.builtin .append, #[x, z], #[t, t]⟩, dty, pos, aft, g⟩) = (do pure (.value (← Builtin.append_ #[t, t] dty #[a.eval x, a.eval z]))) := by simp [execOp, resolve, invoke, builtin]
  rw [this, Sem.run_bind, hr]
  rfl
 rw [hex]
 simp only [Oper.upon]
 refine hK ν' _ _ ?_
 simpa using hsim
theorem x_app_mv_nil {x z : Operand} {t et : Nat} {y ye : Ty} {c b' n2 k0 : Nat} {m : List α} {dty : TypeId} (E : EOk k e) (hf : decide (m.length ≤ 4294967296) = true) (hns : s.ns.head? = some b') (hx : s.ev x = some (.nil k0)) (hz : s.ev z = some (.own c 0 n2)) (hc : s.heap c = some ⟨k, m.map (ow e)⟩) (hm : m.length = n2)
  (hy : tyOf T t = some y) (hd : y.desc = .slice et) (hye : tyOf T et = some ye) (hzl : ye.zero.length = ye.size) (hk : ye.size = k) (hby : Nat.ble ye.bytes 32768 = true) :
  AEff P ⟨dst, .call ⟨.builtin .append, #[x, z], #[t, t]⟩, dty, pos, aft, g⟩ s.ev s.heap s.kp ⟨.own b' 0 m.length, [c], [(c, none), (b', some ⟨k, m.map (ow e)⟩)], [b']⟩ := by
 have hf := of_decide_eq_true hf
 have hby := Nat.le_of_ble_eq_true hby
 refine ⟨fun C s' ν a w Q K {hκ} hi' ht hnw hdst hs hK => ?_⟩
 have hu := hnw b' (by simp)
 have h1 := hs.ev ((hi' x (by simp [Op.operands, Call.operands])).trans hx)
 have h2 := hs.ev ((hi' z (by simp [Op.operands, Call.operands])).trans hz)
 have hc' : s'.heap c = some ⟨k, m.map (ow e)⟩ := (ht c (by simp)).trans hc
 obtain ⟨i1, z1, d1, y1⟩ := hT.is hy
 obtain ⟨i2, z2, d2, y2⟩ := hT.is hye
 have hsz : z2.cells.size = i2.size := by have := zerosB_len y2.zeros; rw [y2.size, ← hzl]; simpa using this
 have hne2 : c ≠ b' := by rintro rfl; have := hs.unused hu; rw [hc'] at this; cases this
 subst hm
 have hks : i2.size = k := by rw [y2.size, hk]
 simp only [RepA, RepB, Rep1] at h1
 obtain ⟨v', w', ν', hr, hsim⟩ := hs.appendM (P := P) (dst := dst) hdst (ty := dty) (y1.slice hd) y2.info y2.zero hsz (kb := none) (b' := b') (es0 := []) (v := a.eval x) (sv := a.eval z) hu
  (.inl ⟨rfl, rfl, h1⟩) hc' hks.symm (by simpa using h2) (by simp) (all_ow E m) (by simpa using hf) (by
   rw [y2.bytes]
   simp only [List.length_map, List.length_nil, Nat.zero_add]
   calc m.length * ye.bytes ≤ 4294967296 * 32768 := Nat.mul_le_mul hf hby
    _ ≤ 140737488355328 := by decide) (edits := [(c, none), (b', some ⟨k, m.map (ow e)⟩)]) (touch := [c])
  (fun b2 blk2 h => by
   simp only [editHp] at h
   by_cases q3 : b2 = c
   ·subst q3; simp at h
   ·rw [beq_ne q3] at h
    by_cases q2 : b2 = b'
    ·subst q2
     simp only [cond_false, beq_self, cond_true, Option.some.injEq] at h
     exact .inl ⟨rfl, by rw [← h, hks, List.nil_append]⟩
    ·rw [beq_ne q2] at h
     exact .inr ⟨q2, by simp, q3, by simpa using h⟩)
  (by simp only [editHp, beq_ne (Ne.symm hne2), cond_false, beq_self, cond_true]; rw [hks, List.nil_append])
 unfold Oper.wp
 have hex : (execOp a.eval ⟨dst, .call ⟨.builtin .append, #[x, z], #[t, t]⟩, dty, pos, aft, g⟩).run P w = .ok (.value v') w' := by
  have : (execOp a.eval ⟨dst, .call ⟨.builtin .append, #[x, z], #[t, t]⟩, dty, pos, aft, g⟩) = (do pure (.value (← Builtin.append_ #[t, t] dty #[a.eval x, a.eval z]))) := by simp [execOp, resolve, invoke, builtin]
  rw [this, Sem.run_bind, hr]
  rfl
 rw [hex]
 simp only [Oper.upon]
 refine hK ν' _ _ ?_
 simpa using hsim
end
end Go.Proofs.Ytinllccaphhmcaa
end

section
set_option linter.unusedVariables false
set_option linter.unusedSimpArgs false

namespace Go.Proofs.Ytinllccaphhmcaa
open Go.RowKit
set_option linter.unusedVariables false
theorem ent_trunc0 {s : AState} {t b c n k : Nat} {A A' : List (List AV)} (ht : s.env t = some (.own b 0 n)) (hb : s.heap b = some ⟨k, A⟩) (hA : A.take n = A') (hc : s.used c = false) : Ent s ⟨upd (some t) (.own c 0 n) s.env, editHp [(b, none), (c, some ⟨k, A'⟩)] s.heap, addUs [c] s.used, s.ns, s.kp⟩ := by
 subst hA
 intro C ν a w hs
 obtain ⟨φ, hh⟩ := hs.heap
 have hcn : s.heap c = none := hs.unused hc
 have hne : c ≠ b := by rintro rfl; rw [hb] at hcn; cases hcn
 let ν' : Nu := ⟨fun x => if x = c then ν b else ν x, ν.ok⟩
 have hν1 : ν' c = ν b := if_pos rfl
 have hν2 : ∀ x, x ≠ c → ν' x = ν x := fun x h => if_neg h
 obtain ⟨H, hH⟩ : ∃ H, H = editHp [(b, none), (c, some ⟨k, A.take n⟩)] s.heap := ⟨_, rfl⟩
 rw [← hH]
 have h1 : H c = some ⟨k, A.take n⟩ := by rw [hH]; simp [editHp, beq_ne hne]
 have h2 : H b = none := by rw [hH]; simp [editHp]
 have h3 : ∀ x, x ≠ c → x ≠ b → H x = s.heap x := fun x e1 e2 => by rw [hH]; simp [editHp, beq_ne e1, beq_ne e2]
 have hsome : ∀ x blk, H x = some blk → (x = c ∧ blk = ⟨k, A.take n⟩) ∨ (x ≠ c ∧ x ≠ b ∧ s.heap x = some blk) := by
  intro x blk hx
  by_cases e1 : x = c
  ·subst e1; rw [h1] at hx; cases hx; exact .inl ⟨rfl, rfl⟩
  ·by_cases e2 : x = b
   ·subst e2; rw [h2] at hx; cases hx
   ·rw [h3 x e1 e2] at hx; exact .inr ⟨e1, e2, hx⟩
 have ext : Ext w s.heap s.used ν w H (addUs [c] s.used) ν' := by
  refine ⟨fun x hx => by simp [addUs, hx], fun x blk hx hb2 => ?_, fun x hx hf => ⟨rfl, fun b2 blk2 β2 c2 hb2 hν => ?_⟩, rfl⟩
  ·rcases hsome x blk hb2 with ⟨rfl, _⟩ | ⟨e1, _, e3⟩
   ·rw [hc] at hx; cases hx
   ·exact ⟨blk, e3, rfl, rfl, hν2 x e1⟩
  ·rcases hsome b2 blk2 hb2 with ⟨rfl, _⟩ | ⟨e1, _, e3⟩
   ·rw [hν1] at hν; exact hf b _ β2 c2 hb hν
   ·rw [hν2 b2 e1] at hν; exact hf b2 blk2 β2 c2 e3 hν
 obtain ⟨hub, ⟨hk, hx2⟩, hnd, hB⟩ := hh.blk b _ hb
 obtain ⟨v, g1, g2⟩ := hs.env t _ ht
 simp only [RepA, RepB, Rep1] at g2
 obtain ⟨r1, r2, r3⟩ := g2.2 _ hb
 simp only [Nat.zero_add] at r1
 have hlen : (A.take n).length = n := by simp; omega
 have hbk : ∃ S, BlkOk w H (addUs [c] s.used) ν' c ⟨k, A.take n⟩ S ∧ S.Nodup ∧ ∀ x ∈ S, x ∈ φ b := by
  have hkt : ∀ cs ∈ A.take n, cs.length = k := fun cs h => hk cs (List.mem_of_mem_take h)
  rcases hx2 with ⟨q1, q2, q3⟩ | ⟨β, c0, arr, ty, T, vs, q1, q2, q3, q4, q5, q6, q7, q8⟩
  ·simp only at q2
   subst q2
   exact ⟨[], ⟨hkt, .inl ⟨hν1.trans q1, by simp, rfl⟩⟩, by simp, by simp⟩
  ·have hf : A.flatten = (A.take n).flatten ++ (A.drop n).flatten := by rw [← List.flatten_append, List.take_append_drop]
   have hfl := flatten_len hkt
   simp only at q8
   rw [hf] at q8
   obtain ⟨v1, v2, S1, S2, e1, e2, e3, e4, e5⟩ := q8.append_inv
   have hnd' : (β :: S1).Nodup := by
    rw [q6, e2, ← List.cons_append] at hnd
    exact (List.nodup_append.1 hnd).1
   refine ⟨β :: S1, ⟨hkt, .inr ⟨β, c0, arr, ty, S1, v1, hν1.trans q1, q2, q3, by simp only [hlen]; simp only at q4; omega, q5, rfl, ?_, e4.ext ext fun _ _ => rfl⟩⟩, hnd', fun x hx => ?_⟩
   ·have h5 : v1 = vs.take v1.length := by rw [e1, List.take_left]
    have hle : n * k ≤ A.length * k := Nat.mul_le_mul_right _ r1
    simp only at q7
    show arr.toList.take ((A.take n).length * k) = v1
    rw [h5, ← q7, List.take_take, e3, hfl]
    show _ = List.take (min ((A.take n).length * k) (A.length * k)) arr.toList
    rw [hlen, Nat.min_eq_left hle]
   ·rw [q6]
    rcases List.mem_cons.1 hx with rfl | hx
    ·simp
    ·rw [e2]; simp [hx]
 obtain ⟨S, k1, k2, k3⟩ := hbk
 have hval : RepA w H (addUs [c] s.used) ν' (.own c 0 n) v := by
  simp only [RepA, RepB, Rep1]
  refine ⟨by simp [addUs], fun blk hbl => ?_⟩
  rw [h1] at hbl
  cases hbl
  exact ⟨by simp only [hlen]; omega, fun h => r2 (hν1.symm.trans h), fun β c0 h => r3 β c0 (hν1.symm.trans h)⟩
 refine ⟨ν', hs.below, hs.base, hs.fresh, hs.defers, hs.size, ?_, ⟨fun x => if x = c then S else φ x, ?_, ?_⟩, hs.kp, hs.ext.trans ext, hs.szE, hs.okM, hs.okF⟩
 ·intro t' x hx
  simp only [upd] at hx
  cases e : Nat.beq t' t with
  | true =>
   rw [e] at hx
   simp only [cond_true, Option.some.injEq] at hx
   subst hx
   rw [Nat.eq_of_beq_eq_true e]
   exact ⟨v, g1, hval⟩
  | false =>
   rw [e] at hx
   obtain ⟨u, p1, p2⟩ := hs.env t' x hx
   exact ⟨u, p1, p2.ext ext⟩
 ·intro x blk hx
  rcases hsome x blk hx with ⟨rfl, rfl⟩ | ⟨e1, e2, e3⟩
  ·simp only [if_pos]
   exact ⟨by simp [addUs], k1, k2, fun y hy => hB y (k3 y hy)⟩
  ·simp only [if_neg e1]
   obtain ⟨p1, p2, p3, p4⟩ := hh.blk x blk e3
   exact ⟨ext.used x p1, p2.ext ext (hν2 x e1) (fun _ _ => rfl), p3, p4⟩
 ·intro x1 x2 yy hx1 hx2' hne2 hy1 hy2
  obtain ⟨b1, hb1⟩ := Option.ne_none_iff_exists'.1 hx1
  obtain ⟨b2, hb2⟩ := Option.ne_none_iff_exists'.1 hx2'
  rcases hsome x1 b1 hb1 with ⟨rfl, _⟩ | ⟨e1, e2, e3⟩ <;> rcases hsome x2 b2 hb2 with ⟨rfl, _⟩ | ⟨f1, f2, f3⟩
  ·exact absurd rfl hne2
  ·simp only [if_pos] at hy1
   simp only [if_neg f1] at hy2
   exact hh.apart b x2 yy (by rw [hb]; simp) (by rw [f3]; simp) (Ne.symm f2) (k3 yy hy1) hy2
  ·simp only [if_neg e1] at hy1
   simp only [if_pos] at hy2
   exact hh.apart x1 b yy (by rw [e3]; simp) (by rw [hb]; simp) e2 hy1 (k3 yy hy2)
  ·simp only [if_neg e1] at hy1
   simp only [if_neg f1] at hy2
   exact hh.apart x1 x2 yy (by rw [e3]; simp) (by rw [f3]; simp) hne2 hy1 hy2
theorem ent_trunc {α : Type} {f : α → List AV} {m : List α} {s : AState} {t b c n k : Nat} {A : List (List AV)} (ht : s.env t = some (.own b 0 n)) (hb : s.heap b = some ⟨k, A⟩) (hA : A.take n = m.map f) (hc : s.used c = false) : Ent s ⟨upd (some t) (.own c 0 m.length) s.env, editHp [(b, none), (c, some ⟨k, m.map f⟩)] s.heap, addUs [c] s.used, s.ns, s.kp⟩ := by
 intro C ν a w hs
 obtain ⟨v, g1, g2⟩ := hs.env t _ ht
 simp only [RepA, RepB, Rep1] at g2
 obtain ⟨r1, _⟩ := g2.2 _ hb
 have hn : m.length = n := by
  have := congrArg List.length hA
  simp only [List.length_take, List.length_map] at this r1
  omega
 rw [hn]
 exact ent_trunc0 ht hb hA hc C ν a w hs
section
variable {P : Program} {T : List (Nat × Ty)} (hT : TyOk P T) {dst : Option Tmp} {dty : TypeId} {pos : String} {aft : Array Edge} {g : Option (Nat × Bool)} {s : AState}
include hT
theorem x_clear {x : Operand} {t et : Nat} {y ye : Ty} {b i n k : Nat} {A : List (List AV)} (hx : s.ev x = some (.own b i n)) (hb : s.heap b = some ⟨k, A⟩) (hl : A.length = i + n) (hy : tyOf T t = some y) (hd : y.desc = .slice et) (hye : tyOf T et = some ye) (hzl : ye.zero.length = ye.size) (hk1 : ye.size = k) :
  AEff P ⟨dst, .call ⟨.builtin .clear, #[x], #[t]⟩, dty, pos, aft, g⟩ s.ev s.heap s.kp ⟨.tuple [], [b], [(b, some ⟨k, A.take i ++ List.replicate n ye.zero⟩)], []⟩ := by
 refine ⟨fun C s' ν a w Q K {hκ} hi' ht hnw hd' hs hK => ?_⟩
 have h1 := hs.ev ((hi' x (by simp [Op.operands, Call.operands])).trans hx)
 have hb' : s'.heap b = some ⟨k, A⟩ := (ht b (by simp)).trans hb
 simp only [RepA, RepB, Rep1] at h1
 obtain ⟨hfit, hnn, hsl⟩ := h1.2 _ hb'
 obtain ⟨φ, hh⟩ := hs.heap
 obtain ⟨hub, ⟨hk, hx2⟩, hnd, hB⟩ := hh.blk b _ hb'
 obtain ⟨i1, z1, d1, y1⟩ := hT.is hy
 obtain ⟨i2, z2, d2, y2⟩ := hT.is hye
 have hzl2 := zerosB_len y2.zeros
 have hzk : z2.cells.size = k := by rw [← hk1, ← hzl]; simpa using hzl2
 have hexe : ∀ (v : Value) (w' : World), (Builtin.clear_ #[t] dty #[a.eval x]).run P w = .ok v w' → (execOp a.eval ⟨dst, .call ⟨.builtin .clear, #[x], #[t]⟩, dty, pos, aft, g⟩).run P w = .ok (.value v) w' := by
  intro v w' hr
  have h0 : execOp a.eval ⟨dst, .call ⟨.builtin .clear, #[x], #[t]⟩, dty, pos, aft, g⟩ = (do let v ← Builtin.clear_ #[t] dty #[a.eval x]; pure (.value v) : Sem Next) := by
   simp [execOp, resolve, invoke, builtin]
  rw [h0, Sem.run_bind, hr]
  rfl
 by_cases hn0 : n = 0
 ·subst hn0
  have hAt : A.take i ++ List.replicate 0 ye.zero = A := by rw [List.replicate_zero, List.append_nil, List.take_of_length_le (by omega)]
  have hval : ∃ ao c, a.eval x = .slice ao 0 c := by
   cases hν : ν b with
   | none => exact ⟨none, 0, hnn hν⟩
   | some p =>
    obtain ⟨β, c⟩ := p
    obtain ⟨o, ho, _⟩ := hsl β c hν
    exact ⟨_, _, ho⟩
  obtain ⟨ao, c, hv⟩ := hval
  have hr : (Builtin.clear_ #[t] dty #[a.eval x]).run P w = .ok (.tuple #[]) w := by
   rw [hv]
   cases ao <;> simp [Builtin.clear_, run_underlying (y1.slice hd)]
  unfold Oper.wp
  rw [hexe _ _ hr]
  simp only [Oper.upon]
  rw [hAt] at hK
  have hheap : editHp [(b, some ⟨k, A⟩)] s'.heap = s'.heap := by
   funext b2
   simp only [editHp]
   by_cases e : b2 = b
   ·subst e; simp [hb']
   ·rw [beq_ne e]; rfl
  have hsim := hs.step (x := .tuple []) (v := .tuple #[]) hd' (s' := s'.app dst ⟨.tuple [], [b], [(b, some ⟨k, A⟩)], []⟩) (by show Ext w s'.heap s'.used ν w (editHp [(b, some ⟨k, A⟩)] s'.heap) s'.used ν; rw [hheap]; exact Ext.refl _ _ _ _) (Below.refl _ _) (by show ∃ φ, HeapOk C.M w (editHp [(b, some ⟨k, A⟩)] s'.heap) s'.used ν φ; rw [hheap]; exact ⟨φ, hh⟩) rfl ⟨[], rfl, rfl⟩
  exact hK ν _ _ hsim
 rcases hx2 with ⟨q1, q2, _⟩ | ⟨β, c, arr, ty', T', vs', q1, q2, q3, q4, q5, q6, q7, q8⟩
 ·simp only at q2
  rw [q2] at hl; simp at hl; omega
 simp only at q3 q4 q7 q8 hfit
 have hsl' := (hsl β c q1).pos (by omega)
 have hik : i * k + n * k = A.length * k := by rw [hl, Nat.add_mul]
 have hcap : A.length * k ≤ arr.size := by rw [q3]; exact Nat.mul_le_mul_right _ q4
 obtain ⟨zs, hzs⟩ : ∃ zs, zs = (List.replicate n z2.cells.toList).flatten := ⟨_, rfl⟩
 have hzsl : zs.length = n * k := by rw [hzs]; simp [List.length_flatten, hzk]
 have hz1 : ∀ v ∈ zs, v.oneCell' = true := by
  intro v hv
  rw [hzs] at hv
  obtain ⟨l0, hl0, hv⟩ := List.mem_flatten.1 hv
  rw [List.eq_of_mem_replicate hl0] at hv
  exact (zerosB_rep y2.zeros w s'.heap s'.used ν).2 v hv
 have hst := run_storeCells_at P β (i * k) ty' zs 0 arr w q2 (by omega) hz1
 simp only [Nat.add_zero] at hst
 have hzc : (Builtin.zeroCells z2.cells n).toList = zs := by
  rw [hzs, ← range_mod]
  simp [Builtin.zeroCells]
 obtain ⟨w', hw'⟩ : ∃ w', w' = w.setRow β (arr.toList.take (i * k) ++ zs ++ arr.toList.drop (i * k + zs.length)).toArray := ⟨_, rfl⟩
 rw [← hw'] at hst
 have hr : (Builtin.clear_ #[t] dty #[a.eval x]).run P w = .ok (.tuple #[]) w' := by
  rw [hsl']
  obtain ⟨m, rfl⟩ : ∃ m, n = m + 1 := ⟨n - 1, by omega⟩
  simp [Builtin.clear_, run_underlying (y1.slice hd), zeroValue, typeInfo, y2.info, y2.zero, hzc, hst]
 unfold Oper.wp
 rw [hexe _ _ hr]
 simp only [Oper.upon]
 have hothers : ∀ x, x ≠ β → w'.heap[x]? = w.heap[x]? := fun x hx => by rw [hw']; exact heap_setRow_ne hx
 have hβ : w'.heap[β]? = some (.cells (arr.toList.take (i * k) ++ zs ++ arr.toList.drop (i * k + zs.length)).toArray ty' (0, 0)) := by rw [hw']; exact setRow_heap w β arr _ ty' (0, 0) q2
 have hll : (A.take i ++ List.replicate n ye.zero).length = A.length := by simp; omega
 have ext : Ext w s'.heap s'.used ν w' (editHp [(b, some ⟨k, A.take i ++ List.replicate n ye.zero⟩)] s'.heap) s'.used ν := by
  refine ⟨fun _ h => h, fun b2 blk2 _ hb2 => ?_, fun x hx hf => ⟨hothers x (fun e => hf b _ β c hb' q1 e.symm), fun b2 blk2 β2 c2 hb2 hν2 => ?_⟩, rfl⟩
  ·by_cases e : b2 = b
   ·subst e
    simp only [editHp, beq_self, cond_true, Option.some.injEq] at hb2
    subst hb2
    exact ⟨_, hb', rfl, hll.symm, rfl⟩
   ·simp only [editHp, beq_ne e, cond_false] at hb2
    exact ⟨blk2, hb2, rfl, rfl, rfl⟩
  ·by_cases e : b2 = b
   ·subst e
    exact hf b2 _ β2 c2 hb' hν2
   ·simp only [editHp, beq_ne e, cond_false] at hb2
    exact hf b2 blk2 β2 c2 hb2 hν2
 have hkt : ∀ cs ∈ A.take i, cs.length = k := fun cs h => hk cs (List.mem_of_mem_take h)
 have hf : A.flatten = (A.take i).flatten ++ (A.drop i).flatten := by rw [← List.flatten_append, List.take_append_drop]
 have hfl : (A.take i).flatten.length = i * k := by rw [flatten_len hkt, List.length_take, Nat.min_eq_left (by omega)]
 rw [hf] at q8
 obtain ⟨v1, v2, S1, S2, e1, e2, e3, e4, e5⟩ := q8.append_inv
 have hno : ∀ y ∈ S1, y ≠ β := by
  intro y hy e
  subst e
  rw [q6] at hnd
  exact (List.nodup_cons.1 hnd).1 (by rw [e2]; simp [hy])
 refine hK ν _ _ (hs.step (x := .tuple []) (v := .tuple #[]) hd' (s' := s'.app dst _) (by exact ext) (by rw [hw']; exact below_setRow (C.low _ (hB β (by rw [q6]; simp)))) ⟨fun x => bif Nat.beq x b then β :: S1 else φ x, ?_, ?_⟩ rfl ⟨[], rfl, rfl⟩)
 ·intro x blk2 hx2
  by_cases e : x = b
  ·subst e
   simp only [AState.app, editHp, beq_self, cond_true, Option.some.injEq] at hx2
   subst hx2
   simp only [beq_self, cond_true]
   refine ⟨hub, ⟨?_, .inr ⟨β, c, _, ty', S1, v1 ++ zs, q1, hβ, ?_, by simp only [hll]; exact q4, q5, rfl, ?_, ?_⟩⟩, ?_, ?_⟩
   ·intro cs hcs
    rcases List.mem_append.1 hcs with h | h
    ·exact hkt cs h
    ·rw [List.eq_of_mem_replicate h, hzl, hk1]
   ·simp only [Array.size, List.length_append, List.length_take, List.length_drop, hzsl]
    have : arr.toList.length = arr.size := rfl
    omega
   ·simp only [hll]
    have hv1 : v1 = arr.toList.take (i * k) := by
     have h5 : v1 = (arr.toList.take (A.length * k)).take v1.length := by rw [q7, e1, List.take_left]
     rw [h5, e3, hfl, List.take_take, Nat.min_eq_left (by omega)]
    rw [hv1]
    show List.take (A.length * k) (arr.toList.take (i * k) ++ zs ++ arr.toList.drop (i * k + zs.length)) = _
    have h6 : (arr.toList.take (i * k) ++ zs).length = A.length * k := by
     simp only [List.length_append, List.length_take, hzsl]
     have : arr.toList.length = arr.size := rfl
     omega
    rw [← h6, List.take_left]
   ·rw [List.flatten_append]
    have g1 := e4.ext ext (fun y hy => hothers y (hno y hy))
    have g2 := ((zerosB_rep y2.zeros w' (editHp [(x, some ⟨k, A.take i ++ List.replicate n ye.zero⟩)] s'.heap) s'.used ν).1).repl n
    rw [← hzs] at g2
    have := g1.append g2
    rwa [List.append_nil] at this
   ·rw [q6, e2, ← List.cons_append] at hnd
    exact (List.nodup_append.1 hnd).1
   ·intro y hy
    refine hB y ?_
    rw [q6]
    rcases List.mem_cons.1 hy with rfl | h
    ·simp
    ·rw [e2]; simp [h]
  ·simp only [AState.app, editHp, beq_ne e, cond_false] at hx2
   simp only [beq_ne e, cond_false]
   obtain ⟨p1, p2, p3, p4⟩ := hh.blk x blk2 hx2
   refine ⟨p1, p2.ext ext rfl (fun y hy => hothers y ?_), p3, p4⟩
   rintro rfl
   exact hh.apart x b y (by rw [hx2]; simp) (by rw [hb']; simp) e hy (by rw [q6]; simp)
 ·have hsub : ∀ y, y ∈ β :: S1 → y ∈ φ b := by
   intro y hy
   rw [q6]
   rcases List.mem_cons.1 hy with rfl | h
   ·simp
   ·rw [e2]; simp [h]
  intro x1 x2 yy hx1 hx2 hne hy1 hy2
  have hlive : ∀ x, (s'.app dst ⟨.tuple [], [b], [(b, some ⟨k, A.take i ++ List.replicate n ye.zero⟩)], []⟩).heap x ≠ none → s'.heap x ≠ none := by
   intro x hx
   by_cases e : x = b
   ·subst e; rw [hb']; simp
   ·simpa only [AState.app, editHp, beq_ne e, cond_false] using hx
  have h1' : yy ∈ φ x1 := by
   by_cases e : x1 = b
   ·subst e; simp only [beq_self, cond_true] at hy1; exact hsub yy hy1
   ·simpa only [beq_ne e, cond_false] using hy1
  have h2' : yy ∈ φ x2 := by
   by_cases e : x2 = b
   ·subst e; simp only [beq_self, cond_true] at hy2; exact hsub yy hy2
   ·simpa only [beq_ne e, cond_false] using hy2
  exact hh.apart x1 x2 yy (hlive x1 hx1) (hlive x2 hx2) hne h1' h2'
end
theorem clr_take {α β : Type} {f : α → β} {l : List α} {i : Nat} (h : i ≤ l.length) {R : List β} : ((l.map f).take i ++ R).take i = (l.take i).map f := by
 rw [List.take_append_of_le_length (by simp; omega), List.take_take, Nat.min_self, List.map_take]
end Go.Proofs.Ytinllccaphhmcaa
end

section
set_option linter.unusedVariables false
set_option linter.unusedSimpArgs false

namespace Go.Proofs.Ytinllccaphhmcaa
open Go.RowKit
set_option linter.unusedVariables false
def boxOk (most : List Int) : Bool := most.all (fun m => decide (0 ≤ m) && decide (m ≤ 1048576)) && decide (most.length ≤ 1048576)
section
variable {P : Program} {dst : Option Tmp} {ty : TypeId} {pos : String} {aft : Array Edge} {g : Option (Nat × Bool)} {s : AState}
theorem w_call0v {fo : Operand} {xs : Array Operand} {ats : Array TypeId} {f : FuncId} {avs ds : List AV} {u : Value} (hc : HasC P f ds (.sc u)) (hf : s.ev fo = some (.fn f [])) (hx : evs s.ev xs.toList = some avs) (hv1 : All2 (viewA s.heap) avs ds) :
  AEff P ⟨dst, .call ⟨.value fo, xs, ats⟩, ty, pos, aft, g⟩ s.ev s.heap s.kp ⟨.sc u, avs.flatMap (touchA s.heap) ++ [].flatMap (touchP s.heap), [], []⟩ :=
 w_callv (caps := []) rfl (by rw [List.append_nil]; exact hc) hf hx hv1
end
section
variable {P : Program} {dst : Option Tmp} {ty : TypeId} {pos : String} {aft : Array Edge} {g : Option (Nat × Bool)} {s : AState}
theorem w_nilcheck_ptr {x : Operand} {b i j : Nat} {blk : Blk} (hx : s.ev x = some (.ptr b i j)) (hb : s.heap b = some blk) : AEff P ⟨dst, .nilCheck x, ty, pos, aft, g⟩ s.ev s.heap s.kp ⟨.ptr b i j, [b], [], []⟩ := by
 refine AEff.pure fun C s' ν a w hi ht hs => ?_
 have h1 := hs.ev ((hi x (by simp [Op.operands])).trans hx)
 refine ⟨a.eval x, ?_, h1⟩
 simp only [RepA, RepB, Rep1] at h1
 obtain ⟨β, c, _, hv⟩ := h1.2 blk ((ht b (by simp)).trans hb)
 simp [execOp, hv]
theorem w_nilcheck_ref {x : Operand} {cs : List AV} (hx : s.ev x = some (.ref cs)) : AEff P ⟨dst, .nilCheck x, ty, pos, aft, g⟩ s.ev s.heap s.kp ⟨.ref cs, [], [], []⟩ := by
 refine AEff.pure fun C s' ν a w hi ht hs => ?_
 have h1 := hs.ev ((hi x (by simp [Op.operands])).trans hx)
 refine ⟨a.eval x, ?_, h1⟩
 simp only [RepA, RepB, Rep1] at h1
 obtain ⟨S, h2, _⟩ := h1
 simp only [RepD] at h2
 obtain ⟨b, o, T, hv, _⟩ := h2
 simp [execOp, hv]
end
def rawAt (v : Value) (k i : Nat) : Value := match v with
 | .slice (some a) _ _ => .pointer (some ⟨a.block, a.off + i * k, none⟩)
 | _ => .bool true
theorem rawAt_rep {W : World} {k i : Nat} {es : List (List AV)} {cs : List AV} {v : Value} {S : List Nat} (r : RepD W (.list k es) v S) (h : es[i]? = some cs) : ∃ S', RepD W (.ref cs) (rawAt v k i) S' := by
 simp only [RepD] at r
 obtain ⟨a, c, rfl, h4, h5, h6⟩ := r
 rcases h6 with ⟨h6, _⟩ | ⟨b, o, S', rfl, h8, rfl, h9⟩
 ·rw [h6] at h; simp at h
 ·obtain ⟨g1, S2, g2, g3⟩ := h9.at h
  exact ⟨b :: S2, by simp only [RepD]; exact ⟨b, o + i * k, S2, rfl, h8, rfl, g2⟩⟩
section
variable {P : Program} {T : List (Nat × Ty)} (hT : TyOk P T) {dst : Option Tmp} {ty : TypeId} {pos : String} {aft : Array Edge} {g : Option (Nat × Bool)} {s : AState} {α : Type} {k : Nat} {e : α → List AV}
include hT
theorem x_len_raw {x : Operand} {t et : Nat} {y : Ty} {l : List α} {dty : TypeId} {W : World} {v : Value} {S : List Nat} (r : RepD W (.list k (l.map e)) v S) (hx : s.ev x = some (.sc v)) (hy : tyOf T t = some y) (hd : y.desc = .slice et) :
  AEff P ⟨dst, .call ⟨.builtin .len, #[x], #[t]⟩, dty, pos, aft, g⟩ s.ev s.heap s.kp ⟨.int (l.length : Int), [], [], []⟩ :=
 AEff.pure fun C s ν a w hi ht hs => by
  have h1 := hs.ev ((hi x (by simp [Op.operands, Call.operands])).trans hx)
  simp only [RepA, RepB, Rep1] at h1
  simp only [RepD] at r
  obtain ⟨ao, c, h3, h4, h5, h6⟩ := r
  rw [h3] at h1
  obtain ⟨i1, z1, d1, y1⟩ := hT.is hy
  refine ⟨.int .i64 l.length, ?_, repA_sc rfl⟩
  simp [execOp, resolve, invoke, builtin, Builtin.len_, h1.1, run_und (y1.slice hd), goInt]
theorem x_at_raw {x ix : Operand} {t et : Nat} {y ye : Ty} {l : List α} {kk : IntKind} {i : Int} {u : α} {W : World} {v : Value} {S : List Nat} (r : RepD W (.list k (l.map e)) v S) (hm : atL l i = some u) (hx : s.ev x = some (.sc v)) (hix : s.ev ix = some (.sc (.int kk i))) (hy : tyOf T t = some y) (hd : y.desc = .slice et) (hye : tyOf T et = some ye) (hk : ye.size = k) :
  AEff P ⟨dst, .indexAddr t x ix, ty, pos, aft, g⟩ s.ev s.heap s.kp ⟨.sc (rawAt v k i.toNat), [], [], []⟩ :=
 AEff.pure fun C s ν a w hi ht hs => by
  have h1 := hs.ev ((hi x (by simp [Op.operands])).trans hx)
  have h2 := hs.ev ((hi ix (by simp [Op.operands])).trans hix)
  simp only [RepA, RepB, Rep1] at h1 h2
  simp only [RepD] at r
  obtain ⟨ao, c, h3, h4, h5, h6⟩ := r
  have h0 := atL_nn hm
  have hlt := atL_lt hm
  rcases h6 with ⟨h6, _⟩ | ⟨b, o, S', rfl, h8, rfl, h9⟩
  ·have : l = [] := by simpa using h6
   rw [this] at hlt; simp at hlt
  ·subst h3
   obtain ⟨i1, z1, d1, y1⟩ := hT.is hy
   obtain ⟨i2, z2, d2, y2⟩ := hT.is hye
   refine ⟨.pointer (some ⟨b, o + i.toNat * k, none⟩), ?_, by simp only [RepA, RepB, Rep1, rawAt]; exact ⟨trivial, rfl⟩⟩
   have hin : (0 : Int) ≤ i ∧ i < ((l.map e).length : Int) := by rw [List.length_map]; omega
   simp only [execOp, Instr.indexAt, h1.1, h2.1, asIntOf, Sem.run_bind, Sem.run_pure, Result.andThen_ok, run_und (y1.slice hd), Sem.run_ite]
   rw [if_pos hin]
   simp only [Sem.run_bind, Sem.run_pure, Result.andThen_ok, run_size y2.info, y2.size, hk]
   rw [Addr.add_lit]
theorem x_load_raw {x : Operand} {t : Nat} {y : Ty} {l : List α} {i : Nat} {u : α} {av : AV} {W : World} {v : Value} {S : List Nat} (r : RepD W (.list k (l.map e)) v S) (hm : l[i]? = some u) (hfx : s.kp.fx = fxW W) (hx : s.ev x = some (.sc (rawAt v k i))) (hy : tyOf T t = some y) (h1 : (y.desc.isAgg || Nat.beq y.size 1) = true) (hn : Nat.ble y.size (e u).length = true) (hpl : ((e u).take y.size).all plainD = true) (hv : pack y.desc.isAgg ((e u).take y.size) = av) :
  AEff P ⟨dst, .load t x, ty, pos, aft, g⟩ s.ev s.heap s.kp ⟨av, [], [], []⟩ := by
 obtain ⟨S', hr⟩ := rawAt_rep (i := i) (cs := e u) r (by rw [List.getElem?_map, hm]; rfl)
 exact hv ▸ eff_load_raw hT hfx hr hr.lt hx hy h1 (Nat.le_of_ble_eq_true hn) hpl
end
end Go.Proofs.Ytinllccaphhmcaa
end

section
set_option linter.unusedVariables false
set_option linter.unusedSimpArgs false

namespace Go.Proofs.Ytinllccaphhmcaa
open Go.RowKit
set_option linter.unusedVariables false
set_option linter.unusedSimpArgs false
set_option maxRecDepth 10000
set_option maxHeartbeats 4000000

noncomputable def m_impl_symmetric_L1 (a0 : Qv) (x1 : ((List (List Int)) × Int)) : Option (((List (List Int)) × Int) ⊕ (List (List Int))) :=
  bif decide (x1.2 < (((List.replicate a0.n.toNat ([] : (List Int))).length : Nat) : Int)) then
    (bif (decide (0 ≤ a0.n) && decide (a0.n ≤ 1048576)) then
      (Option.bind (atL x1.1 x1.2) fun v2 =>
      Option.bind (atL (List.replicate a0.n.toNat (0 : Int)) x1.2) fun v3 =>
      some (.inl ((x1.1.set x1.2.toNat ((List.replicate a0.n.toNat (0 : Int)).set x1.2.toNat 2)), wr (x1.2 + 1))))
    else none)
  else
    (some (.inr x1.1))

noncomputable def m_impl_symmetric_L2 (a0 : Qv) (x2 : ((List (List Int)) × Int)) : Option (((List (List Int)) × Int) ⊕ (List (List Int))) :=
  bif decide (x2.2 < (a0.src.length : Int)) then
    (Option.bind (atL a0.src x2.2) fun v7 =>
    Option.bind (atL x2.1 v7) fun v8 =>
    Option.bind (atL a0.tgt x2.2) fun v9 =>
    Option.bind (atL v8 v9) fun v10 =>
    Option.bind (atL v8 v9) fun v11 =>
    Option.bind (atL a0.tgt x2.2) fun v12 =>
    Option.bind (atL (x2.1.set v7.toNat (v8.set v9.toNat (wr (v10 - 1)))) v12) fun v13 =>
    Option.bind (atL v13 v7) fun v14 =>
    Option.bind (atL v13 v7) fun v15 =>
    some (.inl (((x2.1.set v7.toNat (v8.set v9.toNat (wr (v10 - 1)))).set v12.toNat (v13.set v7.toNat (wr (v14 - 1)))), wr (x2.2 + 1))))
  else
    (some (.inr x2.1))

noncomputable def m_impl_symmetric (a0 : Qv) : Option (List (List Int)) :=
  bif (decide (0 ≤ a0.n) && decide (a0.n ≤ 1048576)) then
    (Option.bind (Lp (m_impl_symmetric_L1 a0) ((List.replicate a0.n.toNat ([] : (List Int))), 0)) fun y5 =>
    Option.bind (Lp (m_impl_symmetric_L2 a0) (y5, 0)) fun y16 =>
    some (y16))
  else none

theorem c_impl_symmetric (a0 : Qv) (r : (List (List Int))) (h : m_impl_symmetric a0 = some r) : HasC Try.prog 28 [.agg (eQ a0)] (.list 1 (List.map (eLs 1 eI) r)) := by
 refine hasC_mkW TT_ok (rvs := [.tmp 2]) (ns := [0, 1, 2, 3, 4, 5]) Try.func28 k k Try.ntmps28 k k k (fun W => ?_)
 refine rawE_agg <| rawC_sc <| rawC_d (fun w0_1 S0_1 r0_1 => ?_)
 refine rawC_d (fun w0_2 S0_2 r0_2 => ?_)
 refine rawC_nil <| rawE_nil <| sQ <| rgS <| se (w_box k k k k) k <| se (eff_assign k) k <| sn <| tn <| sQ <| rgS ?_
 refine se (w_field_ptr TT_ok k k k k k k k) k <| se (w_load_ptr TT_ok k k k k k k k) k ?_
 obtain ⟨q17, h⟩ := cg h
 refine se (x_make TT_ok q17 k k k k k k k k) k <| se (eff_assign k) k <| sn <| tn <| ac_ent (t := mkS [(1, .ptr 0 0 0), (3, .own 1 0 ((List.replicate a0.n.toNat ([] : (List Int))).length))] [(0, ⟨3, [[.int a0.n, .sc w0_1, .sc w0_2]]⟩), (1, ⟨1, List.map (ow (eLs 1 eI)) (List.replicate a0.n.toNat ([] : (List Int)))⟩)] 2 [2, 3, 4, 5] ⟨0, true, fxW W, true⟩) (ent_mk (σ := sg [(0, 0), (1, 1)]) ⟨(pE k k), ⟨_, k, ⟨k, k, (by simp only [len_map, lA, lT, lR, lC, lN]), k⟩⟩, trivial⟩ (hP k k k k <| hX ⟨_, k, k, .inr (rep_match _)⟩ k <| trivial) k) <| sQ <| sQ <| rgS <| se (eff_move k) k <| se (w_len_own TT_ok k k k k) k ?_
 refine se (eff_move k) k <| sn <| tn <| ac_block ?_
 obtain ⟨y5, hy5, h⟩ := ob h
 refine ac_Lp (body := (m_impl_symmetric_L1 a0)) hy5 (fun (x1 : ((List (List Int)) × Int)) => mkS [(1, .ptr 0 0 0), (3, .own 1 0 x1.1.length), (11, .int (((List.replicate a0.n.toNat ([] : (List Int))).length : Nat) : Int)), (12, .int x1.2)] [(0, ⟨3, [[.int a0.n, .sc w0_1, .sc w0_2]]⟩), (1, ⟨1, List.map (ow (eLs 1 eI)) x1.1⟩)] 2 [2, 3, 4, 5] ⟨0, true, fxW W, true⟩) (fun r e t => e = .exit 0 ∧ Ent t (mkS [(1, .ptr 0 0 0), (3, .own 1 0 r.length)] [(0, ⟨3, [[.int a0.n, .sc w0_1, .sc w0_2]]⟩), (1, ⟨1, List.map (ow (eLs 1 eI)) r⟩)] 2 [2, 3, 4, 5] ⟨0, true, fxW W, true⟩)) (ent_mk (σ := sg [(0, 0), (1, 1)]) ⟨(pE k k), (oE k k), (e1 k k), (e1 k k), trivial⟩ (hP k k k k <| hB (okLs.plainO _) k k k <| trivial) k) ?_ ?_
 ·intro x1 o h
  refine sQ <| rgS <| se (w_cmp k k k) k <| sn <| tn <| sQ ?_
  rcases cb h with ⟨q1, h⟩ | ⟨q1, h⟩
  ·refine ac_condT k q1 <| ac_skip <| tn <| sQ <| ac_block <| sQ <| rgS <| se (eff_move k) k <| se (eff_assign k) k <| sn ?_
   refine tn <| sQ <| rgS <| se (eff_move k) k <| se (eff_move k) k <| se (w_field_ptr TT_ok k k k k k k k) k <| se (w_load_ptr TT_ok k k k k k k k) k ?_
   obtain ⟨q4, h⟩ := cg h
   refine se (x_make TT_ok q4 k k k k k k k k) k ?_
   obtain ⟨v2, hv2, h⟩ := ob h
   refine se (x_at_own TT_ok (atL_nn hv2) (atL_lt hv2) k k k k k k k) k <| se (w_store TT_ok k k k k k k (map_at (atL_get hv2)) k) k <| sn <| tn <| ac_ent (t := mkS [(1, .ptr 0 0 0), (3, .own 1 0 x1.1.length), (4, .int x1.2), (11, .int (((List.replicate a0.n.toNat ([] : (List Int))).length : Nat) : Int)), (12, .int x1.2)] [(0, ⟨3, [[.int a0.n, .sc w0_1, .sc w0_2]]⟩), (1, ⟨1, (List.map (ow (eLs 1 eI)) x1.1).set x1.2.toNat [.own 2 0 ((List.replicate a0.n.toNat (0 : Int)).length)]⟩), (2, ⟨1, List.map (ow eI) (List.replicate a0.n.toNat (0 : Int))⟩)] 3 [3, 4, 5] ⟨0, true, fxW W, true⟩) (ent_mk (σ := sg [(0, 0), (1, 1), (2, 2)]) ⟨(pE k k), (oE k k), (e1 k k), (e1 k k), (e1 k k), trivial⟩ (hP k k k k <| hX ⟨_, k, k, .inr (ent_set (σ := sg [(0, 0), (1, 1), (2, 2)]) (m := 3) (e := (eLs 1 eI)) (l := x1.1) (i := x1.2.toNat) (c := [.own 2 0 a0.n.toNat]) (d := [.own 2 0 ((List.replicate a0.n.toNat (0 : Int)).length)]) okLs ⟨_, _, k, ⟨k, k, (by simp only [len_map, lA, lT, lR, lC, lN]), k⟩, k⟩)⟩ k <| hX ⟨_, k, k, .inl ⟨rep_eq (e := eI) (z := 0) _, okI.plainO _⟩⟩ k <| trivial) k) <| rgS <| se (eff_move k) k <| se (eff_move k) k <| se (x_at_own TT_ok (atL_nn hv2) (atL_lt hv2) k k k k k k k) k <| se (w_load_ptr TT_ok k k k k (set_at (atL_lt hv2)) k k) k ?_
   refine se (eff_move k) k ?_
   obtain ⟨v3, hv3, h⟩ := ob h
   refine se (x_at_own TT_ok (atL_nn hv3) (atL_lt hv3) k k k k k k k) k <| se (x_store TT_ok okIo (u := 2) (atL_get hv3) k k k k k k) k <| sn <| block_n <| tn <| ac_ent (t := mkS [(1, .ptr 0 0 0), (3, .own 1 0 ((x1.1.set x1.2.toNat ((List.replicate a0.n.toNat (0 : Int)).set x1.2.toNat 2)).length)), (11, .int (((List.replicate a0.n.toNat ([] : (List Int))).length : Nat) : Int)), (12, .int x1.2)] [(0, ⟨3, [[.int a0.n, .sc w0_1, .sc w0_2]]⟩), (1, ⟨1, List.map (ow (eLs 1 eI)) (x1.1.set x1.2.toNat ((List.replicate a0.n.toNat (0 : Int)).set x1.2.toNat 2))⟩)] 3 [3, 4, 5] ⟨0, true, fxW W, true⟩) (Ent.trans (ent_absS (b := 1) (b' := 2) (j := 0) (es' := List.map eI ((List.replicate a0.n.toNat (0 : Int)).set x1.2.toNat 2)) (by rw [List.length_map]; exact atL_lt hv2) k k k k (by simp only [len_map, lA, lT, lR, lC, lN]) (okI.frzs _)) (ent_mk (σ := sg [(0, 0), (1, 1)]) ⟨(pE k k), ⟨_, k, ⟨k, k, (by simp only [len_map, lA, lT, lR, lC, lN]), k⟩⟩, (e1 k k), (e1 k k), trivial⟩ (hP k k k k <| hX ⟨_, k, k, .inl ⟨set_eq ((List.replicate a0.n.toNat (0 : Int)).set x1.2.toNat 2) k, okLs.plainO _⟩⟩ k <| trivial) k)) <| rgS <| se (x_add k k) k <| se (eff_move k) k <| sn ?_
   refine tn ?_
   obtain rfl := so h
   exact ⟨_, k, (ent_mk (σ := sg [(0, 0), (1, 1)]) ⟨(pE k k), (oE k k), (e1 k k), (e1 k k), trivial⟩ (hP k k k k <| hB (okLs.plainO _) k k k <| trivial) k)⟩
  ·refine ac_condF k q1 <| ac_exit <| then_exit <| then_exit ?_
   obtain rfl := so h
   exact ⟨_, k, k, (ent_mk (σ := sg [(0, 0), (1, 1)]) ⟨(pE k k), (oE k k), trivial⟩ (hP k k k k <| hB (okLs.plainO _) k k k <| trivial) k)⟩
 ·rintro e t ⟨rfl, hent⟩
  refine block_here <| tn <| ac_ent hent <| sQ <| sQ <| rgS <| se (w_field_ptr TT_ok k k k k k k k) k <| se (w_load_ptr TT_ok k k k k k k k) k <| se (x_len_raw TT_ok r0_1 k k k) k <| se (eff_move k) k ?_
  refine sn <| tn <| ac_block ?_
  obtain ⟨y16, hy16, h⟩ := ob h
  refine ac_Lp (body := (m_impl_symmetric_L2 a0)) hy16 (fun (x2 : ((List (List Int)) × Int)) => mkS [(1, .ptr 0 0 0), (3, .own 1 0 x2.1.length), (29, .sc w0_1), (30, .int (a0.src.length : Int)), (31, .int x2.2)] [(0, ⟨3, [[.int a0.n, .sc w0_1, .sc w0_2]]⟩), (1, ⟨1, List.map (ow (eLs 1 eI)) x2.1⟩)] 2 [2, 3, 4, 5] ⟨0, true, fxW W, true⟩) (fun r e t => e = .exit 2 ∧ Ent t (mkS [(3, .own 0 0 r.length)] [(0, ⟨1, List.map (ow (eLs 1 eI)) r⟩)] 1 [1, 2, 3, 4, 5] ⟨0, true, fxW W, true⟩)) (ent_mk (σ := sg [(0, 0), (1, 1)]) ⟨(pE k k), (oE k k), (e1 k k), (e1 k k), (e1 k k), trivial⟩ (hP k k k k <| hB (okLs.plainO _) k k k <| trivial) k) ?_ ?_
  ·intro x2 o h
   refine sQ <| rgS <| se (w_cmp k k k) k <| sn <| tn <| sQ ?_
   rcases cb h with ⟨q6, h⟩ | ⟨q6, h⟩
   ·refine ac_condT k q6 <| ac_skip <| tn <| sQ <| ac_block <| sQ <| rgS <| se (eff_move k) k ?_
    obtain ⟨v7, hv7, h⟩ := ob h
    refine se (x_at_raw TT_ok r0_1 hv7 k k k k k k) k <| se (x_load_raw TT_ok r0_1 (atL_get hv7) k k k k k k k) k <| se (eff_assign k) k <| se (eff_assign k) k <| sn <| tn <| sQ ?_
    obtain ⟨v8, hv8, h⟩ := ob h
    refine ac_ent (t := mkS [(1, .ptr 0 0 0), (3, .own 1 0 x2.1.length), (5, .int x2.2), (6, .int v7), (29, .sc w0_1), (30, .int (a0.src.length : Int)), (31, .int x2.2), (32, .bl (decide (x2.2 < (a0.src.length : Int)))), (33, .int x2.2), (34, .sc (rawAt w0_1 1 x2.2.toNat)), (35, .int v7)] [(0, ⟨3, [[.int a0.n, .sc w0_1, .sc w0_2]]⟩), (1, ⟨1, (List.map (ow (eLs 1 eI)) x2.1).set v7.toNat [.abs 1 (List.map eI v8)]⟩)] 2 [2, 3, 4, 5] ⟨0, true, fxW W, true⟩) (ent_mk (σ := sg [(0, 0), (1, 1)]) ⟨(pE k k), (oE k k), (e1 k k), (e1 k k), (e1 k k), (e1 k k), (e1 k k), (e1 k k), (e1 k k), (e1 k k), (e1 k k), trivial⟩ (hP k k k k <| hX ⟨_, k, k, .inl ⟨open_row (atL_get hv8), set_plain okLs k⟩⟩ k <| trivial) k) <| ac_ent (ent_openS (b := 1) (c := 2) (i := v7.toNat) (j := 0) (n := v8.length) (A := List.map (ow (eLs 1 eI)) x2.1) (fs := List.map (ow eI) v8) (by rw [List.length_map]; exact atL_lt hv8) k k k k (len_map _ _) (abs_map _ _) (dfE_ok ⟨k, k, k, k, k, k, k, k, k, k, k, trivial⟩) (dfH_ok (skip := []) ⟨.inr (df_lit k), .inr (okLs.dfS _ _ _ k), trivial⟩)) <| ac_ent (t := mkS [(1, .ptr 0 0 0), (3, .own 1 0 x2.1.length), (5, .int x2.2), (6, .int v7), (29, .sc w0_1), (30, .int (a0.src.length : Int)), (31, .int x2.2), (32, .bl (decide (x2.2 < (a0.src.length : Int)))), (33, .int x2.2), (34, .sc (rawAt w0_1 1 x2.2.toNat)), (35, .int v7)] [(0, ⟨3, [[.int a0.n, .sc w0_1, .sc w0_2]]⟩), (1, ⟨1, (List.map (ow (eLs 1 eI)) x2.1).set v7.toNat [.own 2 0 v8.length]⟩), (2, ⟨1, List.map (ow eI) v8⟩)] 3 [3, 4, 5] ⟨0, true, fxW W, true⟩) (ent_mk (σ := sg [(0, 0), (1, 1), (2, 2)]) ⟨(pE k k), (oE k k), (e1 k k), (e1 k k), (e1 k k), (e1 k k), (e1 k k), (e1 k k), (e1 k k), (e1 k k), (e1 k k), trivial⟩ (hP k k k k <| hX ⟨_, k, k, .inr (ent_set (σ := sg [(0, 0), (1, 1), (2, 2)]) (m := 3) (e := (eLs 1 eI)) (l := x2.1) (i := v7.toNat) (c := [.own 2 0 v8.length]) (d := [.own 2 0 v8.length]) okLs ⟨_, _, k, ⟨k, k, k, k⟩, k⟩)⟩ k <| hI k k k <| trivial) k) ?_
    refine ac_region_draw MIXX <| am k k <| am k k <| ae (x_at_own TT_ok (atL_nn hv8) (atL_lt hv8) k k k k k k k) k <| ae (w_load_ptr TT_ok k k k k (set_at (atL_lt hv8)) k k) k <| ae (w_field_ptr TT_ok k k k k k k k) k <| ae (w_load_ptr TT_ok k k k k k k k) k <| am k k ?_
    obtain ⟨v9, hv9, h⟩ := ob h
    refine ae (x_at_raw TT_ok r0_2 hv9 k k k k k k) k <| ae (x_load_raw TT_ok r0_2 (atL_get hv9) k k k k k k k) k ?_
    obtain ⟨v10, hv10, h⟩ := ob h
    refine ae (x_at_own TT_ok (atL_nn hv10) (atL_lt hv10) k k k k k k k) k <| ae (w_load_ptr TT_ok k k k k (map_at (atL_get hv10)) k k) k <| ae (x_sub k k) k ?_
    obtain ⟨v11, hv11, h⟩ := ob h
    refine ae (x_at_own TT_ok (atL_nn hv11) (atL_lt hv11) k k k k k k k) k <| ae (x_store TT_ok okIo (u := wr (v10 - 1)) (atL_get hv11) k k k k k k) k <| an ?_
    refine ⟨by kernel_rfl, ?_⟩
    refine tn <| ac_ent (t := mkS [(1, .ptr 0 0 0), (3, .own 1 0 ((x2.1.set v7.toNat (v8.set v9.toNat (wr (v10 - 1)))).length)), (5, .int x2.2), (6, .int v7), (29, .sc w0_1), (30, .int (a0.src.length : Int)), (31, .int x2.2)] [(0, ⟨3, [[.int a0.n, .sc w0_1, .sc w0_2]]⟩), (1, ⟨1, List.map (ow (eLs 1 eI)) (x2.1.set v7.toNat (v8.set v9.toNat (wr (v10 - 1))))⟩)] 3 [3, 4, 5] ⟨0, true, fxW W, true⟩) (Ent.trans (ent_absS (b := 1) (b' := 2) (j := 0) (es' := List.map eI (v8.set v9.toNat (wr (v10 - 1)))) (by rw [List.length_map]; exact atL_lt hv8) k k k k (by simp only [len_map, lA, lT, lR, lC, lN]) (okI.frzs _)) (ent_mk (σ := sg [(0, 0), (1, 1)]) ⟨(pE k k), ⟨_, k, ⟨k, k, (by simp only [len_map, lA, lT, lR, lC, lN]), k⟩⟩, (e1 k k), (e1 k k), (e1 k k), (e1 k k), (e1 k k), trivial⟩ (hP k k k k <| hX ⟨_, k, k, .inl ⟨set_eq (v8.set v9.toNat (wr (v10 - 1))) k, okLs.plainO _⟩⟩ k <| trivial) k)) <| rgS <| se (eff_move k) k <| se (w_field_ptr TT_ok k k k k k k k) k <| se (w_load_ptr TT_ok k k k k k k k) k <| se (eff_move k) k ?_
    obtain ⟨v12, hv12, h⟩ := ob h
    refine se (x_at_raw TT_ok r0_2 hv12 k k k k k k) k <| se (x_load_raw TT_ok r0_2 (atL_get hv12) k k k k k k k) k ?_
    obtain ⟨v13, hv13, h⟩ := ob h
    refine sops_ent (t := mkS [(1, .ptr 0 0 0), (3, .own 1 0 ((x2.1.set v7.toNat (v8.set v9.toNat (wr (v10 - 1)))).length)), (5, .int x2.2), (6, .int v7), (29, .sc w0_1), (30, .int (a0.src.length : Int)), (31, .int x2.2), (49, .own 1 0 ((x2.1.set v7.toNat (v8.set v9.toNat (wr (v10 - 1)))).length)), (50, .ptr 0 0 2), (51, .sc w0_2), (52, .int x2.2), (53, .sc (rawAt w0_2 1 x2.2.toNat)), (54, .int v12)] [(0, ⟨3, [[.int a0.n, .sc w0_1, .sc w0_2]]⟩), (1, ⟨1, (List.map (ow (eLs 1 eI)) (x2.1.set v7.toNat (v8.set v9.toNat (wr (v10 - 1))))).set v12.toNat [.abs 1 (List.map eI v13)]⟩)] 3 [3, 4, 5] ⟨0, true, fxW W, true⟩) (ent_mk (σ := sg [(0, 0), (1, 1)]) ⟨(pE k k), (oE k k), (e1 k k), (e1 k k), (e1 k k), (e1 k k), (e1 k k), (oE k k), (pE k k), (e1 k k), (e1 k k), (e1 k k), (e1 k k), trivial⟩ (hP k k k k <| hX ⟨_, k, k, .inl ⟨open_row (atL_get hv13), set_plain okLs k⟩⟩ k <| trivial) k) <| sops_ent (ent_openS (b := 1) (c := 3) (i := v12.toNat) (j := 0) (n := v13.length) (A := List.map (ow (eLs 1 eI)) (x2.1.set v7.toNat (v8.set v9.toNat (wr (v10 - 1))))) (fs := List.map (ow eI) v13) (by rw [List.length_map]; exact atL_lt hv13) k k k k (len_map _ _) (abs_map _ _) (dfE_ok ⟨k, k, k, k, k, k, k, k, k, k, k, k, k, trivial⟩) (dfH_ok (skip := []) ⟨.inr (df_lit k), .inr (okLs.dfS _ _ _ k), trivial⟩)) <| sops_ent (t := mkS [(1, .ptr 0 0 0), (3, .own 1 0 ((x2.1.set v7.toNat (v8.set v9.toNat (wr (v10 - 1)))).length)), (5, .int x2.2), (6, .int v7), (29, .sc w0_1), (30, .int (a0.src.length : Int)), (31, .int x2.2), (49, .own 1 0 ((x2.1.set v7.toNat (v8.set v9.toNat (wr (v10 - 1)))).length)), (50, .ptr 0 0 2), (51, .sc w0_2), (52, .int x2.2), (53, .sc (rawAt w0_2 1 x2.2.toNat)), (54, .int v12)] [(0, ⟨3, [[.int a0.n, .sc w0_1, .sc w0_2]]⟩), (1, ⟨1, (List.map (ow (eLs 1 eI)) (x2.1.set v7.toNat (v8.set v9.toNat (wr (v10 - 1))))).set v12.toNat [.own 3 0 v13.length]⟩), (3, ⟨1, List.map (ow eI) v13⟩)] 4 [4, 5] ⟨0, true, fxW W, true⟩) (ent_mk (σ := sg [(0, 0), (1, 1), (3, 3)]) ⟨(pE k k), (oE k k), (e1 k k), (e1 k k), (e1 k k), (e1 k k), (e1 k k), (oE k k), (pE k k), (e1 k k), (e1 k k), (e1 k k), (e1 k k), trivial⟩ (hP k k k k <| hX ⟨_, k, k, .inr (ent_set (σ := sg [(0, 0), (1, 1), (3, 3)]) (m := 4) (e := (eLs 1 eI)) (l := (x2.1.set v7.toNat (v8.set v9.toNat (wr (v10 - 1))))) (i := v12.toNat) (c := [.own 3 0 v13.length]) (d := [.own 3 0 v13.length]) okLs ⟨_, _, k, ⟨k, k, k, k⟩, k⟩)⟩ k <| hI k k k <| trivial) k) ?_
    refine se (x_at_own TT_ok (atL_nn hv13) (atL_lt hv13) k k k k k k k) k <| se (w_load_ptr TT_ok k k k k (set_at (atL_lt hv13)) k k) k <| se (eff_move k) k ?_
    obtain ⟨v14, hv14, h⟩ := ob h
    refine se (x_at_own TT_ok (atL_nn hv14) (atL_lt hv14) k k k k k k k) k <| se (w_load_ptr TT_ok k k k k (map_at (atL_get hv14)) k k) k <| se (x_sub k k) k ?_
    obtain ⟨v15, hv15, h⟩ := ob h
    refine se (x_at_own TT_ok (atL_nn hv15) (atL_lt hv15) k k k k k k k) k <| se (x_store TT_ok okIo (u := wr (v14 - 1)) (atL_get hv15) k k k k k k) k <| sn <| block_n <| tn <| ac_ent (t := mkS [(1, .ptr 0 0 0), (3, .own 1 0 (((x2.1.set v7.toNat (v8.set v9.toNat (wr (v10 - 1)))).set v12.toNat (v13.set v7.toNat (wr (v14 - 1)))).length)), (29, .sc w0_1), (30, .int (a0.src.length : Int)), (31, .int x2.2)] [(0, ⟨3, [[.int a0.n, .sc w0_1, .sc w0_2]]⟩), (1, ⟨1, List.map (ow (eLs 1 eI)) ((x2.1.set v7.toNat (v8.set v9.toNat (wr (v10 - 1)))).set v12.toNat (v13.set v7.toNat (wr (v14 - 1))))⟩)] 4 [4, 5] ⟨0, true, fxW W, true⟩) (Ent.trans (ent_absS (b := 1) (b' := 3) (j := 0) (es' := List.map eI (v13.set v7.toNat (wr (v14 - 1)))) (by rw [List.length_map]; exact atL_lt hv13) k k k k (by simp only [len_map, lA, lT, lR, lC, lN]) (okI.frzs _)) (ent_mk (σ := sg [(0, 0), (1, 1)]) ⟨(pE k k), ⟨_, k, ⟨k, k, (by simp only [len_map, lA, lT, lR, lC, lN]), k⟩⟩, (e1 k k), (e1 k k), (e1 k k), trivial⟩ (hP k k k k <| hX ⟨_, k, k, .inl ⟨set_eq (v13.set v7.toNat (wr (v14 - 1))) k, okLs.plainO _⟩⟩ k <| trivial) k)) <| rgS <| se (x_add k k) k <| se (eff_move k) k <| sn ?_
    refine tn ?_
    obtain rfl := so h
    exact ⟨_, k, (ent_mk (σ := sg [(0, 0), (1, 1)]) ⟨(pE k k), (oE k k), (e1 k k), (e1 k k), (e1 k k), trivial⟩ (hP k k k k <| hB (okLs.plainO _) k k k <| trivial) k)⟩
   ·refine ac_condF k q6 <| ac_exit <| then_exit <| then_exit ?_
    obtain rfl := so h
    exact ⟨_, k, k, (ent_mk (σ := sg [(0, 1)]) ⟨(oE k k), trivial⟩ (hB (okLs.plainO _) k k k <| trivial) k)⟩
  ·rintro e t ⟨rfl, hent⟩
   refine block_here <| tn <| ac_ent hent <| sQ <| rgS <| se (eff_move k) k <| se (eff_assign k) k <| sn <| tn <| ac_ret ?_
   obtain rfl := so h
   exact ret_mk k k k (xz_list (x_f1 okLs k k))

noncomputable def m_impl_KindOfQuiver_L3 (v6 : (List Int)) (x1 : (Int × Int)) (x3 : ((List Int) × Int)) : Option (((List Int) × Int) ⊕ (List Int)) :=
  bif decide (x3.2 < (v6.length : Int)) then
    (Option.bind (atL v6 x3.2) fun v9 =>
    bif !decide (x3.2 < 0) then
      (bif decide (andI (shrI x1.2 x3.2) 1 = 1) then
        (bif decide (x3.1.length + [v9].length ≤ 4294967296) then
          (some (.inl ((x3.1 ++ [v9]), wr (x3.2 + 1))))
        else none)
      else
        (some (.inl (x3.1, wr (x3.2 + 1)))))
    else none)
  else
    (some (.inr x3.1))

noncomputable def m_impl_KindOfQuiver_L2 (v3 : (List (List Int))) (x1 : (Int × Int)) (x2 : (Int × (List (List Int)))) : Option ((Int × (List (List Int))) ⊕ (List (List Int))) :=
  bif decide (x2.1 < ((v3.length : Nat) : Int)) then
    (Option.bind (atL v3 x2.1) fun v6 =>
    bif !decide (x2.1 < 0) then
      (bif decide (andI (shrI x1.2 x2.1) 1 = 0) then
        (some (.inl (wr (x2.1 + 1), x2.2)))
      else
        (Option.bind (Lp (m_impl_KindOfQuiver_L3 v6 x1) ([], 0)) fun y13 =>
        bif decide (x2.2.length + 1 ≤ 4294967296) then
          (some (.inl (wr (x2.1 + 1), (x2.2 ++ [y13]))))
        else none))
    else none)
  else
    (some (.inr x2.2))

noncomputable def m_impl_KindOfQuiver_L1 (a0 : Qv) (v3 : (List (List Int))) (x1 : (Int × Int)) : Option ((Int × Int) ⊕ (Int ⊕ Int)) :=
  bif !decide (a0.n < 0) then
    (bif decide (x1.2 < shlI 1 a0.n) then
      (Option.bind (Lp (m_impl_KindOfQuiver_L2 v3 x1) (0, [])) fun y16 =>
      Option.bind (m_impl_determinant 8 y16) fun v17 =>
      bif decide (v17 < 0) then
        (some (.inr (.inr (3))))
      else
        (bif decide (v17 = 0) then
          (some (.inl (2, wr (x1.2 + 1))))
        else
          (some (.inl (x1.1, wr (x1.2 + 1))))))
    else
      (some (.inr (.inl x1.1))))
  else none

noncomputable def m_impl_KindOfQuiver (a0 : Qv) : Option Int :=
  Option.bind (m_impl_IsQuiver a0) fun v1 =>
  bif !v1 then
    (some (0))
  else
    (Option.bind (m_impl_symmetric a0) fun v3 =>
    Option.bind (Lp (m_impl_KindOfQuiver_L1 a0 v3) (1, 1)) fun y21 =>
    Sum.elim (fun y22 =>
      some (y22)
    ) 
    (fun y23 =>
      some y23
    )
     y21)

theorem c_impl_KindOfQuiver (a0 : Qv) (r : Int) (h : m_impl_KindOfQuiver a0 = some r) : HasC Try.prog 14 [.agg (eQ a0)] (.int r) := by
 refine hasC_mk TT_ok (rvs := [.tmp 2]) (ns := [0, 1, 2, 3, 4, 5, 6, 7]) Try.func14 k k Try.ntmps14 k k k <| sQ <| rg <| ae (w_box k k k k) k <| aa k k <| an <| tn <| sQ <| sQ <| rg ?_
 refine ae (w_load_ptr TT_ok k k k k k k k) k ?_
 obtain ⟨v1, hv1, h⟩ := ob h
 refine ae (w_call0s (c_impl_IsQuiver a0 v1 hv1) k (va_cons (va_agg' (v1_cons (v1_same k) (v1_cons (v1_same k) (v1_cons (v1_same k) v1_nil)))) va_nil)) k <| ae (w_not k) k <| an <| tn ?_
 rcases cb h with ⟨q2, h⟩ | ⟨q2, h⟩
 ·refine ac_condT k q2 <| sQ <| rg <| aa k k <| an <| tn <| ac_ret <| then_ret ?_
  obtain rfl := so h
  exact ret_mk k k k (fz_int k)
 ·refine ac_condF k q2 <| ac_skip <| tn <| sQ <| rg <| aa k k <| an <| tn <| sQ <| rg ?_
  refine ae (w_load_ptr TT_ok k k k k k k k) k ?_
  obtain ⟨v3, hv3, h⟩ := ob h
  refine ae (AEff.conv (w_call0 (x := .own 1 0 (List.map (eLs 1 eI) v3).length) (nb := [(1, ⟨1, absEs (List.map (eLs 1 eI) v3)⟩)]) (c_impl_symmetric a0 v3 hv3) k (by rfl) k k (okLs.good _) (va_cons (va_agg' (v1_cons (v1_same k) (v1_cons (v1_same k) (v1_cons (v1_same k) v1_nil)))) va_nil)) (v' := .own 1 0 v3.length) (ed' := [(1, some ⟨1, List.map (ow (eLs 1 eI)) v3⟩)]) (by simp only [len_map]) (ed_ok (nb' := [(1, ⟨1, List.map (ow (eLs 1 eI)) v3⟩)]) (by simp only [abs_map]))) k <| aa k k <| an <| tn <| sQ <| sQ <| rg <| aa k k <| an <| tn ?_
  refine ac_block ?_
  obtain ⟨y21, hy21, h⟩ := ob h
  refine ac_Lp (body := (m_impl_KindOfQuiver_L1 a0 v3)) hy21 (fun (x1 : (Int × Int)) => mkS [(1, .ptr 0 0 0), (3, .int x1.1), (4, .own 1 0 v3.length), (5, .int x1.2)] [(0, ⟨3, [[.int a0.n, .list 1 (List.map eI a0.src), .list 1 (List.map eI a0.tgt)]]⟩), (1, ⟨1, List.map (ow (eLs 1 eI)) v3⟩)] 2 [2, 3, 4, 5, 6, 7]) (fun r e t => Sum.elim (fun a => (fun r e t => e = .exit 0 ∧ Ent t (mkS [(3, .int r)] [] 0 [0, 1, 2, 3, 4, 5, 6, 7])) a e t) (fun b => (fun r e t => e = .ret ∧ RetQ TT [.tmp 2] (.int r) .ret t) b e t) r) (ent_mk (σ := sg [(0, 0), (1, 1)]) ⟨(pE k k), (e1 k k), (oE k k), (e1 k k), trivial⟩ (hP k k k k <| hB (okLs.plainO _) k k k <| trivial) k) ?_ ?_
  ·intro x1 o h
   refine sQ <| sQ <| rg <| am k k <| ae (w_field_ptr TT_ok k k k k k k k) k <| ae (w_load_ptr TT_ok k k k k k k k) k ?_
   obtain ⟨q20, h⟩ := cg h
   refine ae (x_shl k k q20) k <| ae (w_cmp k k k) k <| an <| tn ?_
   rcases cb h with ⟨q4, h⟩ | ⟨q4, h⟩
   ·refine ac_condT k q4 <| ac_skip <| tn <| sQ <| ac_block <| sQ <| rg <| aa k k <| an <| tn ?_
    refine sQ <| sQ <| rg <| am k k <| ae (w_len_own TT_ok k k k k) k <| am k k <| an <| tn <| ac_block ?_
    obtain ⟨y16, hy16, h⟩ := ob h
    refine ac_Lp (body := (m_impl_KindOfQuiver_L2 v3 x1)) hy16 (fun (x2 : (Int × (List (List Int)))) => mkS [(1, .ptr 0 0 0), (3, .int x1.1), (4, .own 1 0 v3.length), (5, .int x1.2), (6, .own 2 0 x2.2.length), (25, .own 1 0 v3.length), (26, .int ((v3.length : Nat) : Int)), (27, .int x2.1)] [(0, ⟨3, [[.int a0.n, .list 1 (List.map eI a0.src), .list 1 (List.map eI a0.tgt)]]⟩), (1, ⟨1, List.map (ow (eLs 1 eI)) v3⟩), (2, ⟨1, List.map (ow (eLs 1 eI)) x2.2⟩)] 3 [3, 4, 5, 6, 7]) (fun r e t => e = .exit 2 ∧ Ent t (mkS [(1, .ptr 0 0 0), (3, .int x1.1), (4, .own 1 0 v3.length), (5, .int x1.2), (6, .own 2 0 r.length)] [(0, ⟨3, [[.int a0.n, .list 1 (List.map eI a0.src), .list 1 (List.map eI a0.tgt)]]⟩), (1, ⟨1, List.map (ow (eLs 1 eI)) v3⟩), (2, ⟨1, List.map (ow (eLs 1 eI)) r⟩)] 3 [3, 4, 5, 6, 7])) (ent_mk (σ := sg [(0, 0), (1, 1)]) ⟨(pE k k), (e1 k k), (oE k k), (e1 k k), ⟨_, k, ⟨k, k, k, k⟩⟩, (oE k k), (e1 k k), (e1 k k), trivial⟩ (hP k k k k <| hB (okLs.plainO _) k k k <| hX k k <| trivial) k) ?_ ?_
    ·intro x2 o h
     refine sQ <| rg <| ae (w_cmp k k k) k <| an <| tn <| sQ ?_
     rcases cb h with ⟨q5, h⟩ | ⟨q5, h⟩
     ·refine ac_condT k q5 <| ac_skip <| tn <| sQ <| ac_block <| sQ <| rg <| am k k ?_
      obtain ⟨v6, hv6, h⟩ := ob h
      refine ae (x_at_own TT_ok (atL_nn hv6) (atL_lt hv6) k k k k k k k) k <| ae (w_load_ptr TT_ok k k k k (map_at (atL_get hv6)) k k) k <| aa k k <| aa k k <| an <| tn <| sQ <| sQ <| rg <| am k k ?_
      refine am k k ?_
      obtain ⟨q15, h⟩ := cg h
      refine ae (x_shr k k q15) k <| ae (x_and k k) k <| ae (w_cmp k k k) k <| an <| tn ?_
      rcases cb h with ⟨q7, h⟩ | ⟨q7, h⟩
      ·refine ac_condT k q7 <| ac_exit <| then_exit <| block_here <| tn <| rg <| ae (x_add k k) k <| am k k <| an <| tn ?_
       obtain rfl := so h
       exact ⟨_, k, (ent_mk (σ := sg [(0, 0), (1, 1), (2, 2)]) ⟨(pE k k), (e1 k k), (oE k k), (e1 k k), (oE k k), (oE k k), (e1 k k), (e1 k k), trivial⟩ (hP k k k k <| hB (okLs.plainO _) k k k <| hB (okLs.plainO _) k k k <| trivial) k)⟩
      ·refine ac_condF k q7 <| ac_skip <| tn <| sQ <| rg <| aa k k <| an <| tn <| ac_ent (t := mkS [(1, .ptr 0 0 0), (3, .int x1.1), (4, .own 1 0 v3.length), (5, .int x1.2), (6, .own 2 0 x2.2.length), (8, .list 1 (List.map eI v6)), (9, .nil 0), (25, .own 1 0 v3.length), (26, .int ((v3.length : Nat) : Int)), (27, .int x2.1)] [(0, ⟨3, [[.int a0.n, .list 1 (List.map eI a0.src), .list 1 (List.map eI a0.tgt)]]⟩), (1, ⟨1, List.map (ow (eLs 1 eI)) v3⟩), (2, ⟨1, List.map (ow (eLs 1 eI)) x2.2⟩)] 3 [3, 4, 5, 6, 7]) (ent_mk (σ := sg [(0, 0), (1, 1), (2, 2)]) ⟨(pE k k), (e1 k k), (oE k k), (e1 k k), (oE k k), ⟨_, k, ⟨k, k⟩⟩, ⟨_, k, trivial⟩, (oE k k), (e1 k k), (e1 k k), trivial⟩ (hP k k k k <| hB (okLs.plainO _) k k k <| hB (okLs.plainO _) k k k <| trivial) k) <| sQ ?_
       refine sQ <| rg <| am k k <| ae (lenL TT_ok k k k) k <| am k k <| an <| tn <| ac_block ?_
       obtain ⟨y13, hy13, h⟩ := ob h
       refine ac_Lp (body := (m_impl_KindOfQuiver_L3 v6 x1)) hy13 (fun (x3 : ((List Int) × Int)) => mkS [(1, .ptr 0 0 0), (3, .int x1.1), (4, .own 1 0 v3.length), (5, .int x1.2), (6, .own 2 0 x2.2.length), (9, .own 3 0 x3.1.length), (25, .own 1 0 v3.length), (26, .int ((v3.length : Nat) : Int)), (27, .int x2.1), (37, .list 1 (List.map eI v6)), (38, .int (v6.length : Int)), (39, .int x3.2)] [(0, ⟨3, [[.int a0.n, .list 1 (List.map eI a0.src), .list 1 (List.map eI a0.tgt)]]⟩), (1, ⟨1, List.map (ow (eLs 1 eI)) v3⟩), (2, ⟨1, List.map (ow (eLs 1 eI)) x2.2⟩), (3, ⟨1, List.map (ow eI) x3.1⟩)] 4 [4, 5, 6, 7]) (fun r e t => e = .exit 4 ∧ Ent t (mkS [(1, .ptr 0 0 0), (3, .int x1.1), (4, .own 1 0 v3.length), (5, .int x1.2), (6, .own 2 0 x2.2.length), (9, .own 3 0 r.length), (25, .own 1 0 v3.length), (26, .int ((v3.length : Nat) : Int)), (27, .int x2.1)] [(0, ⟨3, [[.int a0.n, .list 1 (List.map eI a0.src), .list 1 (List.map eI a0.tgt)]]⟩), (1, ⟨1, List.map (ow (eLs 1 eI)) v3⟩), (2, ⟨1, List.map (ow (eLs 1 eI)) x2.2⟩), (3, ⟨1, List.map (ow eI) r⟩)] 4 [4, 5, 6, 7])) (ent_mk (σ := sg [(0, 0), (1, 1), (2, 2)]) ⟨(pE k k), (e1 k k), (oE k k), (e1 k k), (oE k k), ⟨_, k, ⟨k, k, k, k⟩⟩, (oE k k), (e1 k k), (e1 k k), ⟨_, k, ⟨k, k⟩⟩, (e1 k k), (e1 k k), trivial⟩ (hP k k k k <| hB (okLs.plainO _) k k k <| hB (okLs.plainO _) k k k <| hX k k <| trivial) k) ?_ ?_
       ·intro x3 o h
        refine sQ <| rg <| ae (w_cmp k k k) k <| an <| tn <| sQ ?_
        rcases cb h with ⟨q8, h⟩ | ⟨q8, h⟩
        ·refine ac_condT k q8 <| ac_skip <| tn <| sQ <| ac_block <| sQ <| rg <| am k k ?_
         obtain ⟨v9, hv9, h⟩ := ob h
         refine ae (x_at_list TT_ok hv9 k k k k k k) k <| ae (w_load_ref TT_ok k k k k k k) k <| aa k k <| aa k k <| an <| tn <| sQ <| rg <| am k k <| am k k ?_
         obtain ⟨q12, h⟩ := cg h
         refine ae (x_shr k k q12) k <| ae (x_and k k) k <| ae (w_cmp k k k) k <| an <| tn ?_
         rcases cb h with ⟨q10, h⟩ | ⟨q10, h⟩
         ·refine ac_condT k q10 <| rg <| am k k <| am k k <| ae (w_lit TT_ok k k k k k k k k k k k k) k ?_
          obtain ⟨q11, h⟩ := cg h
          refine ae (x_app TT_ok (l := x3.1) (m := [v9]) okIo q11 k k k k k k k k k k k k) k <| aa k k <| an <| block_n <| tn <| ac_ent (t := mkS [(1, .ptr 0 0 0), (3, .int x1.1), (4, .own 1 0 v3.length), (5, .int x1.2), (6, .own 2 0 x2.2.length), (9, .own 5 0 ((x3.1 ++ [v9]).length)), (25, .own 1 0 v3.length), (26, .int ((v3.length : Nat) : Int)), (27, .int x2.1), (37, .list 1 (List.map eI v6)), (38, .int (v6.length : Int)), (39, .int x3.2)] [(0, ⟨3, [[.int a0.n, .list 1 (List.map eI a0.src), .list 1 (List.map eI a0.tgt)]]⟩), (1, ⟨1, List.map (ow (eLs 1 eI)) v3⟩), (2, ⟨1, List.map (ow (eLs 1 eI)) x2.2⟩), (5, ⟨1, List.map (ow eI) (x3.1 ++ [v9])⟩)] 6 [6, 7]) (ent_mk (σ := sg [(0, 0), (1, 1), (2, 2), (5, 5)]) ⟨(pE k k), (e1 k k), (oE k k), (e1 k k), (oE k k), (oE k k), (oE k k), (e1 k k), (e1 k k), ⟨_, k, ⟨k, k⟩⟩, (e1 k k), (e1 k k), trivial⟩ (hP k k k k <| hB (okLs.plainO _) k k k <| hB (okLs.plainO _) k k k <| hI k k k <| trivial) k) <| rg <| ae (x_add k k) k <| am k k <| an ?_
          refine tn ?_
          obtain rfl := so h
          exact ⟨_, k, (ent_mk (σ := sg [(0, 0), (1, 1), (2, 2), (3, 5)]) ⟨(pE k k), (e1 k k), (oE k k), (e1 k k), (oE k k), (oE k k), (oE k k), (e1 k k), (e1 k k), ⟨_, k, ⟨k, k⟩⟩, (e1 k k), (e1 k k), trivial⟩ (hP k k k k <| hB (okLs.plainO _) k k k <| hB (okLs.plainO _) k k k <| hI k k k <| trivial) k)⟩
         ·refine ac_condF k q10 <| ac_skip <| block_n <| tn <| rg <| ae (x_add k k) k <| am k k <| an <| tn ?_
          obtain rfl := so h
          exact ⟨_, k, (ent_mk (σ := sg [(0, 0), (1, 1), (2, 2), (3, 3)]) ⟨(pE k k), (e1 k k), (oE k k), (e1 k k), (oE k k), (oE k k), (oE k k), (e1 k k), (e1 k k), ⟨_, k, ⟨k, k⟩⟩, (e1 k k), (e1 k k), trivial⟩ (hP k k k k <| hB (okLs.plainO _) k k k <| hB (okLs.plainO _) k k k <| hI k k k <| trivial) k)⟩
        ·refine ac_condF k q8 <| ac_exit <| then_exit <| then_exit ?_
         obtain rfl := so h
         exact ⟨_, k, k, (ent_mk (σ := sg [(0, 0), (1, 1), (2, 2), (3, 3)]) ⟨(pE k k), (e1 k k), (oE k k), (e1 k k), (oE k k), (oE k k), (oE k k), (e1 k k), (e1 k k), trivial⟩ (hP k k k k <| hB (okLs.plainO _) k k k <| hB (okLs.plainO _) k k k <| hI k k k <| trivial) k)⟩
       ·rintro e t ⟨rfl, hent⟩
        refine block_here <| tn <| ac_ent hent <| rg <| am k k <| am k k <| ae (w_lit TT_ok k k k k k k k k k k k k) k ?_
        obtain ⟨q14, h⟩ := cg h
        refine ae (x_app1 TT_ok (l := x2.2) (c := [.own 3 0 y13.length]) q14 k k k k k k k k k k k k k k) k <| aa k k <| an <| block_n <| tn <| ac_ent (t := mkS [(1, .ptr 0 0 0), (3, .int x1.1), (4, .own 1 0 v3.length), (5, .int x1.2), (6, .own 5 0 ((x2.2 ++ [y13]).length)), (25, .own 1 0 v3.length), (26, .int ((v3.length : Nat) : Int)), (27, .int x2.1)] [(0, ⟨3, [[.int a0.n, .list 1 (List.map eI a0.src), .list 1 (List.map eI a0.tgt)]]⟩), (1, ⟨1, List.map (ow (eLs 1 eI)) v3⟩), (5, ⟨1, List.map (ow (eLs 1 eI)) (x2.2 ++ [y13])⟩)] 6 [6, 7]) (Ent.trans (ent_absL (b := 5) (b' := 3) (j := 0) (es' := List.map eI y13) k k k k (len_map _ _) (okI.frzs _)) (ent_mk (σ := sg [(0, 0), (1, 1), (5, 5)]) ⟨(pE k k), (e1 k k), (oE k k), (e1 k k), ⟨_, k, ⟨k, k, (by simp only [len_map, lA, lT, lR, lC, lN]), k⟩⟩, (oE k k), (e1 k k), (e1 k k), trivial⟩ (hP k k k k <| hB (okLs.plainO _) k k k <| hX ⟨_, k, k, .inl ⟨app_eq y13 k, okLs.plainO _⟩⟩ k <| trivial) k)) <| rg <| ae (x_add k k) k <| am k k <| an ?_
        refine tn ?_
        obtain rfl := so h
        exact ⟨_, k, (ent_mk (σ := sg [(0, 0), (1, 1), (2, 5)]) ⟨(pE k k), (e1 k k), (oE k k), (e1 k k), (oE k k), (oE k k), (e1 k k), (e1 k k), trivial⟩ (hP k k k k <| hB (okLs.plainO _) k k k <| hB (okLs.plainO _) k k k <| trivial) k)⟩
     ·refine ac_condF k q5 <| ac_exit <| then_exit <| then_exit ?_
      obtain rfl := so h
      exact ⟨_, k, k, (ent_mk (σ := sg [(0, 0), (1, 1), (2, 2)]) ⟨(pE k k), (e1 k k), (oE k k), (e1 k k), (oE k k), trivial⟩ (hP k k k k <| hB (okLs.plainO _) k k k <| hB (okLs.plainO _) k k k <| trivial) k)⟩
    ·rintro e t ⟨rfl, hent⟩
     refine block_here <| tn <| ac_ent hent <| sQ <| rg <| am k k ?_
     obtain ⟨v17, hv17, h⟩ := ob h
     refine ae (w_call0s (c_impl_determinant 8 y16 v17 hv17) k (va_cons (va_T okLs k k) va_nil)) k <| aa k k <| an <| tn <| ac_block <| sQ <| rg <| am k k <| ae (w_cmp k k k) k <| aa k k ?_
     refine an <| tn ?_
     rcases cb h with ⟨q18, h⟩ | ⟨q18, h⟩
     ·refine ac_condT k q18 <| sQ <| rg <| aa k k <| an <| tn <| ac_ret <| block_ret <| block_ret <| then_ret ?_
      refine then_ret ?_
      obtain rfl := so h
      exact ⟨_, k, k, ret_mk k k k (fz_int k)⟩
     ·refine ac_condF k q18 <| sQ <| rg <| am k k <| ae (w_cmp k k k) k <| aa k k <| an <| tn ?_
      rcases cb h with ⟨q19, h⟩ | ⟨q19, h⟩
      ·refine ac_condT k q19 <| rg <| aa k k <| an <| block_n <| block_n <| tn <| rg <| am k k <| ae (x_add k k) k ?_
       refine aa k k <| an <| tn ?_
       obtain rfl := so h
       exact ⟨_, k, (ent_mk (σ := sg [(0, 0), (1, 1)]) ⟨(pE k k), (e1 k k), (oE k k), (e1 k k), trivial⟩ (hP k k k k <| hB (okLs.plainO _) k k k <| trivial) k)⟩
      ·refine ac_condF k q19 <| ac_skip <| block_n <| block_n <| tn <| rg <| am k k <| ae (x_add k k) k <| aa k k <| an ?_
       refine tn ?_
       obtain rfl := so h
       exact ⟨_, k, (ent_mk (σ := sg [(0, 0), (1, 1)]) ⟨(pE k k), (e1 k k), (oE k k), (e1 k k), trivial⟩ (hP k k k k <| hB (okLs.plainO _) k k k <| trivial) k)⟩
   ·refine ac_condF k q4 <| ac_exit <| then_exit <| then_exit ?_
    obtain rfl := so h
    exact ⟨_, k, k, (ent_mk (σ := sg []) ⟨(e1 k k), trivial⟩ trivial k)⟩
  ·intro e t hX
   rcases y21 with y22 | y23
   ·obtain ⟨rfl, hent⟩ := hX
    refine block_here <| tn <| ac_ent hent <| sQ <| rg <| am k k <| aa k k <| an <| tn <| ac_ret ?_
    obtain rfl := so h
    exact ret_mk k k k (fz_int k)
   ·obtain ⟨rfl, hent⟩ := hX
    refine block_ret <| then_ret ?_
    obtain rfl := so h
    exact hent

end Go.Proofs.Ytinllccaphhmcaa
end

section
set_option linter.unusedVariables false
set_option linter.unusedSimpArgs false

namespace Go.Proofs.Ytinllccaphhmcaa
open Go.RowKit
set_option linter.unusedVariables false
def rowL {α : Type} (n : Nat) (f : Nat → α) : List α := (List.range n).map f
theorem rowL_len {α : Type} (n : Nat) (f : Nat → α) : (rowL n f).length = n := by simp [rowL]
theorem rowL_get {α : Type} {n : Nat} {f : Nat → α} {w : Nat} (h : w < n) : (rowL n f)[w]? = some (f w) := by simp [rowL, h]
theorem rowL_at {α : Type} {n : Nat} {f : Nat → α} {w : Nat} (h : w < n) : atL (rowL n f) (w : Int) = some (f w) := by simp [atL, rowL_get h]
theorem rowL_congr {α : Type} {n : Nat} {f g : Nat → α} (h : ∀ i, i < n → f i = g i) : rowL n f = rowL n g := List.map_congr_left fun i hi => h i (List.mem_range.1 hi)
theorem rowL_set {α : Type} {n : Nat} (f : Nat → α) (a : Nat) (y : α) : (rowL n f).set a y = rowL n fun w => if w = a then y else f w := by
 refine List.ext_getElem (by simp [rowL]) fun i h1 h2 => ?_
 simp only [rowL, List.getElem_set, List.getElem_map, List.getElem_range]
 by_cases e : a = i
 ·simp [e]
 ·simp [e, show ¬ i = a from fun h => e h.symm]
theorem rowL_rep {α : Type} (n : Nat) (z : α) : List.replicate n z = rowL n fun _ => z := by
 refine List.ext_getElem (by simp [rowL]) fun i h1 h2 => by simp [rowL]
theorem gx_rowL {n : Nat} {f : Nat → Int} {w : Nat} (h : w < n) : gx (rowL n f) w = f w := by simp [gx, rowL_get h]
def matL (n : Nat) (F : Nat → Nat → Int) : List (List Int) := rowL n fun v => rowL n (F v)
theorem rowsF_matL {n : Nat} {F : Nat → Nat → Int} {v w : Nat} (hv : v < n) (hw : w < n) : rowsF (matL n F) v w = F v w := by
 unfold rowsF matL
 rw [rowL_get hv, Option.getD_some, rowL_get hw, Option.getD_some]
theorem matL_congr {n : Nat} {F G : Nat → Nat → Int} (h : ∀ v w, v < n → w < n → F v w = G v w) : matL n F = matL n G := rowL_congr fun v hv => rowL_congr fun w hw => h v w hv hw
def hit (q : Qv) (i v w : Nat) : Int := if gx q.src i = (v : Int) ∧ gx q.tgt i = (w : Int) then 1 else 0
def cntN (q : Qv) (k v w : Nat) : Int := sumN k fun i => hit q i v w
def mF (q : Qv) (k v w : Nat) : Int := (if v = w then 2 else 0) - cntN q k v w - cntN q k w v
theorem cnt_bd (q : Qv) : ∀ k v w, 0 ≤ cntN q k v w ∧ cntN q k v w ≤ k
 | 0, v, w => by simp [cntN, sumN]
 | k + 1, v, w => by
  have := cnt_bd q k v w
  unfold cntN at this ⊢
  simp only [sumN]
  have : 0 ≤ hit q k v w ∧ hit q k v w ≤ 1 := by unfold hit; split <;> omega
  omega
theorem mF_bd (q : Qv) {k : Nat} (hk : k ≤ 6) (v w : Nat) : -12 ≤ mF q k v w ∧ mF q k v w ≤ 2 := by
 have h1 := cnt_bd q k v w
 have h2 := cnt_bd q k w v
 unfold mF
 split <;> omega
theorem mF_succ (q : Qv) (k v w : Nat) : mF q (k + 1) v w = mF q k v w - hit q k v w - hit q k w v := by
 unfold mF cntN
 simp only [sumN]
 omega
theorem mF_sym (q : Qv) (k v w : Nat) : mF q k v w = mF q k w v := by
 unfold mF
 by_cases e : v = w
 ·subst e; rfl
 ·rw [if_neg e, if_neg (fun h => e h.symm)]; omega
def matQ (q : Qv) (n : Nat) : List (List Int) := matL n (mF q q.src.length)
structure QOk (q : Qv) (n : Nat) : Prop where
 bq : bQ q
 qv : quivV q = true
 n0 : q.n = n
 n1 : 1 ≤ n
 n5 : n ≤ 5
 eq : q.src.length = q.tgt.length
 m6 : q.src.length ≤ 6
 src : ∀ x ∈ q.src, 0 ≤ x ∧ x < n
 tgt : ∀ x ∈ q.tgt, 0 ≤ x ∧ x < n
theorem qok {q : Qv} (hb : bQ q) (h : quivV q = true) : ∃ n, QOk q n := by
 obtain ⟨n, h1, h2, h3, h4, h5, h6, h7⟩ := quivV_parts h
 exact ⟨n, hb, h, h1, h2, h3, h4, h5, h6, h7⟩
theorem QOk.arrow {q : Qv} {n : Nat} (Q : QOk q n) {i : Nat} (hi : i < q.src.length) : ∃ s t : Nat, s < n ∧ t < n ∧ gx q.src i = s ∧ gx q.tgt i = t ∧ atL q.src (i : Int) = some (s : Int) ∧ atL q.tgt (i : Int) = some (t : Int) := by
 have hi2 : i < q.tgt.length := by rw [← Q.eq]; exact hi
 have h1 := Q.src _ (mem_gx hi)
 have h2 := Q.tgt _ (mem_gx hi2)
 refine ⟨(gx q.src i).toNat, (gx q.tgt i).toNat, by omega, by omega, by omega, by omega, ?_, ?_⟩
 ·rw [atG 0 hi]; show some (gx q.src i) = _; rw [Int.toNat_of_nonneg h1.1]
 ·rw [atG 0 hi2]; show some (gx q.tgt i) = _; rw [Int.toNat_of_nonneg h2.1]
theorem hit_eq {q : Qv} {i s t : Nat} (hs : gx q.src i = s) (ht : gx q.tgt i = t) (v w : Nat) : hit q i v w = if v = s ∧ w = t then 1 else 0 := by
 unfold hit
 rw [hs, ht]
 by_cases e : v = s ∧ w = t
 ·rw [if_pos e, if_pos (by omega)]
 ·rw [if_neg e, if_neg (by omega)]
theorem n_specRow {q : Qv} {n : Nat} (Q : QOk q n) {x1 : List (List Int) × Int} {v : Nat} (hx : x1.2 = (v : Int)) : Lp (m_spec_SymmetricForm_L2 q x1) (rowL n (mF q 0 v), 0) = some (rowL n (mF q q.src.length v)) := by
 have m6 := Q.m6
 refine Lp_go (fun k => (rowL n (mF q k v), (k : Int))) q.src.length rfl (fun k hk => ?_) (fun _ => ?_)
 ·unfold m_spec_SymmetricForm_L2
  simp only
  obtain ⟨s, t, hs, ht, e1, e2, e3, e4⟩ := Q.arrow hk
  have bs := fun w => mF_bd q (k := k) (by omega) v w
  rw [dlt hk, cond_true, e3, Option.bind_some, hx, wr_suc hk (by omega)]
  by_cases c1 : s = v
  ·subst c1
   rw [decide_eq_true (by rfl), cond_true]
   simp only [e4, e3, Option.bind_some, rowL_at ht, Int.toNat_natCast]
   rw [rowL_set, wr_sm (by have := bs t; omega)]
   by_cases c2 : t = s
   ·subst c2
    rw [decide_eq_true (by rfl), cond_true]
    simp only [rowL_at hs, if_pos rfl, Option.bind_some]
    rw [rowL_set, wr_sm (by have := bs t; omega)]
    congr 3
    refine rowL_congr fun w hw => ?_
    rw [mF_succ, hit_eq e1 e2, hit_eq e1 e2]
    by_cases c : w = t
    ·subst c; simp <;> omega
    ·simp [c]
   ·rw [decide_eq_false (by omega), cond_false]
    congr 3
    refine rowL_congr fun w hw => ?_
    rw [mF_succ, hit_eq e1 e2, hit_eq e1 e2]
    by_cases c : w = t
    ·subst c; simp [c2, show ¬ s = w from fun h => c2 h.symm]
    ·simp [c, show ¬ s = t from fun h => c2 h.symm]
  ·rw [decide_eq_false (by omega), cond_false]
   simp only [e4, e3, Option.bind_some]
   by_cases c2 : t = v
   ·subst c2
    rw [decide_eq_true (by rfl), cond_true]
    simp only [rowL_at hs, Option.bind_some, Int.toNat_natCast]
    rw [rowL_set, wr_sm (by have := bs s; omega)]
    congr 3
    refine rowL_congr fun w hw => ?_
    rw [mF_succ, hit_eq e1 e2, hit_eq e1 e2]
    by_cases c : w = s
    ·subst c; simp [c1, show ¬ t = w from fun h => c1 h.symm]
    ·simp [c, show ¬ t = s from fun h => c1 h.symm]
   ·rw [decide_eq_false (by omega), cond_false]
    congr 3
    refine rowL_congr fun w hw => ?_
    rw [mF_succ, hit_eq e1 e2, hit_eq e1 e2]
    simp [show ¬ v = s from fun h => c1 h.symm, show ¬ v = t from fun h => c2 h.symm]
 ·unfold m_spec_SymmetricForm_L2
  simp only
  rw [dnl (Nat.le_refl _), cond_false]
theorem row0 (q : Qv) {n v : Nat} (hv : v < n) : (List.replicate n (0 : Int)).set v 2 = rowL n (mF q 0 v) := by
 rw [rowL_rep, rowL_set]
 refine rowL_congr fun w _ => ?_
 unfold mF cntN
 simp only [sumN]
 by_cases e : w = v
 ·subst e; simp
 ·simp [e, show ¬ v = w from fun h => e h.symm]
theorem n_specSym {q : Qv} {n : Nat} (Q : QOk q n) : m_spec_SymmetricForm q = some (matQ q n) := by
 have n5 := Q.n5
 unfold m_spec_SymmetricForm
 rw [Lp_go (s := (([] : List (List Int)), (0 : Int))) (r := matQ q n) (fun k => ((List.range k).map fun v => rowL n (mF q q.src.length v), (k : Int))) n rfl (fun k hk => ?_) (fun _ => ?_), Option.bind_some]
 ·unfold m_spec_SymmetricForm_L1
  simp only
  rw [Q.n0, dlt hk, cond_true, n_specQ Q.bq, Q.qv, Option.bind_some, cond_true, decide_eq_true (by omega), decide_eq_true (by omega), Bool.and_self, cond_true, Int.toNat_natCast]
  rw [rowL_rep, rowL_at hk, Option.bind_some, Int.toNat_natCast, ← rowL_rep, row0 q hk, n_specRow Q rfl, Option.bind_some, decide_eq_true (by simp; omega), cond_true, wr_suc hk (by omega), List.range_succ, List.map_append]
  rfl
 ·unfold m_spec_SymmetricForm_L1
  simp only
  rw [Q.n0, dnl (Nat.le_refl _), cond_false]
  rfl
theorem n_implSym {q : Qv} {n : Nat} (Q : QOk q n) : m_impl_symmetric q = some (matQ q n) := by
 have n5 := Q.n5
 have m6 := Q.m6
 unfold m_impl_symmetric
 rw [Q.n0, decide_eq_true (by omega), decide_eq_true (by omega), Bool.and_self, cond_true, Int.toNat_natCast]
 rw [Lp_go (r := matL n (mF q 0)) (fun k => (rowL n fun v => if v < k then rowL n (mF q 0 v) else [], (k : Int))) n (by rw [rowL_rep]; rfl) (fun k hk => ?_) (fun _ => ?_), Option.bind_some]
 ·rw [Lp_go (s := (matL n (mF q 0), (0 : Int))) (r := matQ q n) (fun k => (matL n (mF q k), (k : Int))) q.src.length rfl (fun k hk => ?_) (fun _ => ?_), Option.bind_some]
  ·unfold m_impl_symmetric_L2
   simp only
   obtain ⟨s, t, hs, ht, e1, e2, e3, e4⟩ := Q.arrow hk
   have bs := fun v w => mF_bd q (k := k) (by omega) v w
   rw [dlt hk, cond_true, e3, Option.bind_some, e4]
   simp only [Option.bind_some, Int.toNat_natCast]
   unfold matL
   rw [rowL_at hs, Option.bind_some, rowL_at ht]
   simp only [Option.bind_some]
   rw [rowL_set, rowL_at ht]
   simp only [Option.bind_some]
   have e5 : (if t = s then (rowL n (mF q k s)).set t (wr (mF q k s t - 1)) else rowL n (mF q k t)) = rowL n fun w => mF q k t w - if t = s ∧ w = t then 1 else 0 := by
    by_cases c : t = s
    ·subst c
     rw [if_pos rfl, rowL_set, wr_sm (by have := bs t t; omega)]
     refine rowL_congr fun w _ => ?_
     by_cases c2 : w = t
     ·subst c2; simp
     ·simp [c2]
    ·rw [if_neg c]
     exact rowL_congr fun w _ => by simp [c]
   rw [e5, rowL_at hs]
   simp only [Option.bind_some]
   rw [wr_suc hk (by omega), rowL_set, rowL_set]
   congr 3
   refine rowL_congr fun v hv => ?_
   have b1 := bs t s
   have b2 := bs s t
   by_cases c : v = t
   ·subst c
    rw [if_pos rfl, wr_sm (by split <;> omega)]
    try rw [rowL_set]
    refine rowL_congr fun w hw => ?_
    rw [mF_succ, hit_eq e1 e2, hit_eq e1 e2]
    by_cases c1 : w = s
    ·subst c1
     by_cases c2 : v = w
     ·subst c2; simp <;> omega
     ·simp [c2, show ¬ w = v from fun h => c2 h.symm]
    ·rw [if_neg c1]
     by_cases c2 : v = s ∧ w = v
     ·omega
     ·simp [c2, c1]
   ·rw [if_neg c]
    by_cases c1 : v = s
    ·subst c1
     rw [if_pos rfl, wr_sm (by omega)]
     try rw [rowL_set]
     refine rowL_congr fun w hw => ?_
     rw [mF_succ, hit_eq e1 e2, hit_eq e1 e2]
     by_cases c2 : w = t
     ·subst c2; simp [c]
     ·simp [c2, c]
    ·rw [if_neg c1]
     refine rowL_congr fun w hw => ?_
     rw [mF_succ, hit_eq e1 e2, hit_eq e1 e2]
     simp [c, c1]
  ·unfold m_impl_symmetric_L2
   simp only
   rw [dnl (Nat.le_refl _), cond_false]
   rfl
 ·unfold m_impl_symmetric_L1
  simp only
  rw [List.length_replicate, Q.n0, Int.toNat_natCast, dlt hk, cond_true, decide_eq_true (by omega), decide_eq_true (by omega), Bool.and_self, cond_true, rowL_at hk, Option.bind_some]
  rw [rowL_rep n (0 : Int), rowL_at hk, Option.bind_some, Int.toNat_natCast, ← rowL_rep, row0 q hk, rowL_set, wr_suc hk (by omega)]
  congr 3
  refine rowL_congr fun v _ => ?_
  by_cases c : v = k
  ·subst c; simp
  ·rw [if_neg c]
   by_cases c2 : v < k
   ·rw [if_pos c2, if_pos (by omega)]
   ·rw [if_neg c2, if_neg (by omega)]
 ·unfold m_impl_symmetric_L1
  simp only
  rw [List.length_replicate, Q.n0, Int.toNat_natCast, dnl (Nat.le_refl _), cond_false]
  congr 2
  exact rowL_congr fun v hv => by rw [if_pos hv]
end Go.Proofs.Ytinllccaphhmcaa
end

section
set_option linter.unusedVariables false
set_option linter.unusedSimpArgs false

namespace Go.Proofs.Ytinllccaphhmcaa
open Go.RowKit
set_option linter.unusedVariables false
theorem bit_eq : ∀ s : Nat, s < 32 → ∀ v : Nat, v < 5 → andI (shrI (s : Int) (v : Int)) 1 = (if bitN s v then 1 else 0) := by decide +kernel
theorem pick_succ (s k : Nat) : (List.range (k + 1)).filter (bitN s) = (List.range k).filter (bitN s) ++ if bitN s k then [k] else [] := by
 rw [List.range_succ, List.filter_append]
 congr 1
 cases h : bitN s k <;> simp [h]
theorem pick_lt {n s v : Nat} (h : v ∈ pickN n s) : v < n := List.mem_range.1 (List.mem_filter.1 h).1
theorem pick_len (n s : Nat) : (pickN n s).length ≤ n := by
 have := List.length_filter_le (bitN s) (List.range n)
 simpa [pickN] using this
theorem row_pick {body : List Int × Int → Option ((List Int × Int) ⊕ List Int)} {n s : Nat} {f : Nat → Int} (hn : n ≤ 5)
  (hb : ∀ k l, k < n → l.length ≤ 5 → body (l, (k : Int)) = some (.inl (if bitN s k then l ++ [f k] else l, ((k + 1 : Nat) : Int)))) (hr : ∀ l, body (l, (n : Int)) = some (.inr l)) : Lp body ([], 0) = some ((pickN n s).map f) := by
 refine Lp_go (fun k => (((List.range k).filter (bitN s)).map f, (k : Int))) n rfl (fun k hk => ?_) (fun _ => hr _)
 have hl := pick_len k s
 unfold pickN at hl
 rw [hb k _ hk (by rw [List.length_map]; omega), pick_succ]
 cases h : bitN s k <;> simp
theorem n_implMinor {n s : Nat} {F : Nat → Nat → Int} (hn : n ≤ 5) (hs : s < 32) {x1 : Int × Int} (hx : x1.2 = (s : Int)) : Lp (m_impl_KindOfQuiver_L2 (matL n F) x1) (0, []) = some (minorT n (matL n F) s) := by
 have e0 : minorT n (matL n F) s = (pickN n s).map fun v => (pickN n s).map (F v) := by
  unfold minorT
  refine List.map_congr_left fun v hv => List.map_congr_left fun w hw => rowsF_matL (pick_lt hv) (pick_lt hw)
 rw [e0]
 refine Lp_go (fun k => ((k : Int), ((List.range k).filter (bitN s)).map fun v => (pickN n s).map (F v))) n rfl (fun k hk => ?_) (fun _ => ?_)
 ·have hl := pick_len k s
  unfold pickN at hl
  unfold m_impl_KindOfQuiver_L2
  simp only
  rw [show (matL n F).length = n from rowL_len _ _, dlt hk, cond_true, show atL (matL n F) (k : Int) = some (rowL n (F k)) from rowL_at hk, Option.bind_some, decide_eq_false (by omega), Bool.not_false, cond_true, hx, bit_eq s hs k (by omega), wr_suc hk (by omega)]
  have hrow : Lp (m_impl_KindOfQuiver_L3 (rowL n (F k)) x1) ([], 0) = some ((pickN n s).map (F k)) := by
   refine row_pick hn (fun j l hj hl2 => ?_) (fun l => ?_)
   ·unfold m_impl_KindOfQuiver_L3
    simp only
    rw [rowL_len, dlt hj, cond_true, rowL_at hj, Option.bind_some, decide_eq_false (by omega), Bool.not_false, cond_true, hx, bit_eq s hs j (by omega), wr_suc hj (by omega)]
    cases h : bitN s j
    ·simp
    ·simp [show l.length < 4294967296 by omega, show l.length ≤ 4294967295 by omega, show l.length + 1 ≤ 4294967296 by omega]
   ·unfold m_impl_KindOfQuiver_L3
    simp only
    rw [rowL_len, dnl (Nat.le_refl _), cond_false]
  rw [hrow, Option.bind_some, pick_succ]
  generalize List.filter (bitN s) (List.range k) = lk at *
  cases h : bitN s k
  ·simp
  ·simp [show lk.length < 4294967296 by omega, show lk.length ≤ 4294967295 by omega, show lk.length + 1 ≤ 4294967296 by omega]
 ·unfold m_impl_KindOfQuiver_L2
  simp only
  rw [show (matL n F).length = n from rowL_len _ _, dnl (Nat.le_refl _), cond_false]
  rfl
theorem n_specMinor {n s : Nat} {F : Nat → Nat → Int} (hn : n ≤ 5) (hs : s < 32) : m_spec_l18Minor (matL n F) (s : Int) = some (minorT n (matL n F) s) := by
 have e0 : minorT n (matL n F) s = (pickN n s).map fun v => (pickN n s).map (F v) := by
  unfold minorT
  refine List.map_congr_left fun v hv => List.map_congr_left fun w hw => rowsF_matL (pick_lt hv) (pick_lt hw)
 rw [e0]
 unfold m_spec_l18Minor
 rw [Lp_go (s := ((0 : Int), ([] : List (List Int)))) (r := (pickN n s).map fun v => (pickN n s).map (F v)) (fun k => ((k : Int), ((List.range k).filter (bitN s)).map fun v => (pickN n s).map (F v))) n rfl (fun k hk => ?_) (fun _ => ?_), Option.bind_some]
 ·have hl := pick_len k s
  unfold pickN at hl
  unfold m_spec_l18Minor_L1
  simp only
  rw [show (matL n F).length = n from rowL_len _ _, dlt hk, cond_true, decide_eq_false (by omega), Bool.not_false, cond_true, bit_eq s hs k (by omega), wr_suc hk (by omega)]
  have hrow : Lp (m_spec_l18Minor_L2 (matL n F) (s : Int) ((k : Int), ((List.range k).filter (bitN s)).map fun v => (pickN n s).map (F v))) ([], 0) = some ((pickN n s).map (F k)) := by
   refine row_pick hn (fun j l hj hl2 => ?_) (fun l => ?_)
   ·unfold m_spec_l18Minor_L2
    simp only
    rw [show (matL n F).length = n from rowL_len _ _, dlt hj, cond_true, decide_eq_false (by omega), Bool.not_false, cond_true, bit_eq s hs j (by omega), wr_suc hj (by omega), show atL (matL n F) (k : Int) = some (rowL n (F k)) from rowL_at hk, Option.bind_some, rowL_at hj, Option.bind_some]
    cases h : bitN s j
    ·simp
    ·simp [show l.length < 4294967296 by omega, show l.length ≤ 4294967295 by omega, show l.length + 1 ≤ 4294967296 by omega]
   ·unfold m_spec_l18Minor_L2
    simp only
    rw [show (matL n F).length = n from rowL_len _ _, dnl (Nat.le_refl _), cond_false]
  rw [hrow, Option.bind_some, pick_succ]
  generalize List.filter (bitN s) (List.range k) = lk at *
  cases h : bitN s k
  ·simp
  ·simp [show lk.length < 4294967296 by omega, show lk.length ≤ 4294967295 by omega, show lk.length + 1 ≤ 4294967296 by omega]
 ·unfold m_spec_l18Minor_L1
  simp only
  rw [show (matL n F).length = n from rowL_len _ _, dnl (Nat.le_refl _), cond_false]
  rfl
theorem n_concat2 {a b : List Int} (h : a.length + b.length ≤ 1000) : m_slices_Concat_Lint_int [a, b] = some (a ++ b) := by
 have s1 : m_slices_Concat_Lint_int_L1 [a, b] (0, 0) = some (.inl ((a.length : Int), 1)) := by
  unfold m_slices_Concat_Lint_int_L1
  simp [atL]
  rw [wr_sm (by omega), decide_eq_false (by omega), cond_false, wr_sm (by omega)]
 have s2 : m_slices_Concat_Lint_int_L1 [a, b] ((a.length : Int), 1) = some (.inl ((a.length : Int) + b.length, 2)) := by
  unfold m_slices_Concat_Lint_int_L1
  simp [atL]
  rw [wr_sm (by omega), decide_eq_false (by omega), cond_false, wr_sm (by omega)]
 have s3 : m_slices_Concat_Lint_int_L1 [a, b] ((a.length : Int) + b.length, 2) = some (.inr ((a.length : Int) + b.length)) := by
  unfold m_slices_Concat_Lint_int_L1
  simp
 have t1 : m_slices_Concat_Lint_int_L2 [a, b] ([], 0) = some (.inl (a, 1)) := by
  unfold m_slices_Concat_Lint_int_L2
  simp [atL]
  rw [decide_eq_true (by omega), cond_true, wr_sm (by omega)]
 have t2 : m_slices_Concat_Lint_int_L2 [a, b] (a, 1) = some (.inl (a ++ b, 2)) := by
  unfold m_slices_Concat_Lint_int_L2
  simp [atL]
  rw [decide_eq_true (by omega), cond_true, wr_sm (by omega)]
 have t3 : m_slices_Concat_Lint_int_L2 [a, b] (a ++ b, 2) = some (.inr (a ++ b)) := by
  unfold m_slices_Concat_Lint_int_L2
  simp
 unfold m_slices_Concat_Lint_int
 rw [Lp_step s1, Lp_step s2, Lp_stop s3, Option.bind_some]
 unfold m_Grow
 rw [decide_eq_true (by omega), decide_eq_true (by omega), Bool.and_self, cond_true, Option.bind_some, Lp_step t1, Lp_step t2, Lp_stop t3, Option.bind_some]
theorem cutC_len {k : Nat} {row : List Int} (h : k < row.length) : (cutC k row).length = row.length - 1 := by simp [cutC]; omega
theorem sgK_succ (k : Nat) : wr (-sgK k) = sgK (k + 1) := by
 unfold sgK
 rcases Nat.mod_two_eq_zero_or_one k with h | h
 ·rw [h, show (k + 1) % 2 = 1 by omega]; decide
 ·rw [h, show (k + 1) % 2 = 0 by omega]; decide
theorem n_implDet : ∀ (d k : Nat) (M : List (List Int)), k < d → k ≤ 16 → M.length = k → (∀ r ∈ M, r.length = k) → m_impl_determinant d M = some (detW d M)
 | 0, k, M, h, _, _, _ => absurd h (by omega)
 | d + 1, k, M, hd, h16, hl, hr => by
  show m_impl_determinant_b (m_impl_determinant d) M = _
  unfold m_impl_determinant_b
  cases M with
  | nil => rfl
  | cons r0 rest =>
   have hr0 := hr r0 (by simp)
   simp only [List.length_cons] at hl
   rw [decide_eq_false (by simp only [List.length_cons]; omega), cond_false, show atL (r0 :: rest) 0 = some r0 from rfl, Option.bind_some]
   rw [Lp_go (s := ((0 : Int), (1 : Int), (0 : Int))) (r := detW (d + 1) (r0 :: rest)) (fun j => (detS (detW d) r0 rest j, sgK j, (j : Int))) k rfl (fun j hj => ?_) (fun _ => ?_), Option.bind_some]
   ·unfold m_impl_determinant_L1
    simp only
    rw [hr0, dlt hj, cond_true, atG 0 (by omega), Option.bind_some, decide_eq_true (by omega), decide_eq_true (by simp only [List.length_cons]; omega), decide_eq_true (by omega), Bool.and_self, Bool.and_self, cond_true]
    have hmin : Lp (m_impl_determinant_L2 (r0 :: rest) (detS (detW d) r0 rest j, sgK j, (j : Int))) ([], 0) = some (rest.map (cutC j)) := by
     have e0 : ((r0 :: rest).drop (1 : Int).toNat).take (((r0 :: rest).length : Int).toNat - (1 : Int).toNat) = rest := by simp
     refine Lp_go (fun i => ((rest.take i).map (cutC j), (i : Int))) rest.length rfl (fun i hi => ?_) (fun _ => ?_)
     ·unfold m_impl_determinant_L2
      simp only
      rw [e0, dlt hi, cond_true, atG [] hi, Option.bind_some]
      have hrow : (rest[i]?.getD []).length = k := by rw [List.getElem?_eq_getElem hi]; exact hr _ (by simp)
      rw [wr_suc (n := 17) (by omega) (by omega), decide_eq_true (by omega), decide_eq_true (by omega), decide_eq_true (by omega), decide_eq_true (by omega), decide_eq_true (by omega), decide_eq_true (by omega)]
      simp only [Bool.and_self, cond_true]
      have e1 : ((rest[i]?.getD []).drop (0 : Int).toNat).take ((j : Int).toNat - (0 : Int).toNat) = (rest[i]?.getD []).take j := by simp
      have e2 : ((rest[i]?.getD []).drop (((j + 1 : Nat) : Int)).toNat).take (((rest[i]?.getD []).length : Int).toNat - (((j + 1 : Nat) : Int)).toNat) = (rest[i]?.getD []).drop (j + 1) := by
       rw [Int.toNat_natCast, Int.toNat_natCast, List.take_of_length_le (by simp)]
      rw [e1, e2, n_concat2 (by simp; omega), Option.bind_some, decide_eq_true (by simp; omega), cond_true, wr_suc hi (by omega)]
      congr 3
      rw [List.take_succ_eq_append_getElem hi, List.map_append, List.getElem?_eq_getElem hi]
      rfl
     ·unfold m_impl_determinant_L2
      simp only
      rw [e0, dnl (Nat.le_refl _), cond_false, List.take_length]
    rw [hmin, Option.bind_some, n_implDet d (k - 1) (rest.map (cutC j)) (by omega) (by omega) (by simp; omega) (fun r h => by
     obtain ⟨r', h1, rfl⟩ := List.mem_map.1 h
     have := hr r' (by simp [h1])
     rw [cutC_len (by omega)]; omega), Option.bind_some, sgK_succ, wr_suc hj (by omega)]
    rfl
   ·unfold m_impl_determinant_L1
    simp only
    rw [hr0, dnl (Nat.le_refl _), cond_false]
    show some (Sum.inr (detS (detW d) r0 rest k)) = some (Sum.inr (detS (detW d) r0 rest r0.length))
    rw [hr0]
theorem n_specDet : ∀ (d k : Nat) (M : List (List Int)), k < d → k ≤ 16 → M.length = k → (∀ r ∈ M, r.length = k) → m_spec_l18Det d M = some (detW d M)
 | 0, k, M, h, _, _, _ => absurd h (by omega)
 | d + 1, k, M, hd, h16, hl, hr => by
  show m_spec_l18Det_b (m_spec_l18Det d) M = _
  unfold m_spec_l18Det_b
  cases M with
  | nil => rfl
  | cons r0 rest =>
   have hr0 := hr r0 (by simp)
   simp only [List.length_cons] at hl
   rw [decide_eq_false (by simp only [List.length_cons]; omega), cond_false]
   rw [Lp_go (s := ((0 : Int), (1 : Int), (0 : Int))) (r := detW (d + 1) (r0 :: rest)) (fun j => (detS (detW d) r0 rest j, sgK j, (j : Int))) k rfl (fun j hj => ?_) (fun _ => ?_), Option.bind_some]
   ·unfold m_spec_l18Det_L1
    simp only
    rw [show (r0 :: rest).length = k by simp only [List.length_cons]; omega, dlt hj, cond_true]
    have hmin : Lp (m_spec_l18Det_L2 (r0 :: rest) (detS (detW d) r0 rest j, sgK j, (j : Int))) (([] : List (List Int)), 1) = some (rest.map (cutC j)) := by
     refine Lp_go (fun i => ((rest.take i).map (cutC j), ((i + 1 : Nat) : Int))) rest.length rfl (fun i hi => ?_) (fun _ => ?_)
     ·unfold m_spec_l18Det_L2
      simp only
      have hat : atL (r0 :: rest) ((i + 1 : Nat) : Int) = some (rest[i]?.getD []) := by
       rw [atG [] (by simp; omega)]; rfl
      rw [List.length_cons, dlt (by omega), cond_true, hat, Option.bind_some]
      have hrow : (rest[i]?.getD []).length = k := by rw [List.getElem?_eq_getElem hi]; exact hr _ (by simp)
      rw [wr_suc (k := j) (n := 17) (by omega) (by omega), decide_eq_true (by omega), decide_eq_true (by omega), decide_eq_true (by omega)]
      simp only [Bool.and_self, cond_true]
      have e1 : ((rest[i]?.getD []).drop (0 : Int).toNat).take ((j : Int).toNat - (0 : Int).toNat) = (rest[i]?.getD []).take j := by simp
      have e2 : ((rest[i]?.getD []).drop (((j + 1 : Nat) : Int)).toNat).take (((rest[i]?.getD []).length : Int).toNat - (((j + 1 : Nat) : Int)).toNat) = (rest[i]?.getD []).drop (j + 1) := by
       rw [Int.toNat_natCast, Int.toNat_natCast, List.take_of_length_le (by simp)]
      rw [e1, decide_eq_true (by simp; omega), cond_true]
      simp only [Option.bind_some]
      rw [decide_eq_true (by omega), decide_eq_true (by omega), decide_eq_true (by omega)]
      simp only [Bool.and_self, cond_true]
      rw [e2, decide_eq_true (by simp; omega), cond_true, decide_eq_true (by simp; omega), cond_true, wr_suc (k := i + 1) (n := 18) (by omega) (by omega)]
      congr 3
      rw [List.take_succ_eq_append_getElem hi, List.map_append, List.getElem?_eq_getElem hi]
      rfl
     ·unfold m_spec_l18Det_L2
      simp only
      rw [List.length_cons, dnl (Nat.le_refl _), cond_false, List.take_length]
    rw [hmin, Option.bind_some, show atL (r0 :: rest) 0 = some r0 from rfl, Option.bind_some, atG 0 (by omega), Option.bind_some, n_specDet d (k - 1) (rest.map (cutC j)) (by omega) (by omega) (by simp; omega) (fun r h => by
     obtain ⟨r', h1, rfl⟩ := List.mem_map.1 h
     have := hr r' (by simp [h1])
     rw [cutC_len (by omega)]; omega), Option.bind_some, sgK_succ, wr_suc hj (by omega)]
    rfl
   ·unfold m_spec_l18Det_L1
    simp only
    rw [show (r0 :: rest).length = k by simp only [List.length_cons]; omega, dnl (Nat.le_refl _), cond_false]
    show some (Sum.inr (detS (detW d) r0 rest k)) = some (Sum.inr (detS (detW d) r0 rest r0.length))
    rw [hr0]
end Go.Proofs.Ytinllccaphhmcaa
end

section
set_option linter.unusedVariables false
set_option linter.unusedSimpArgs false

namespace Go.Proofs.Ytinllccaphhmcaa
open Go.RowKit
set_option linter.unusedVariables false
def kindR (n : Nat) (T : List (List Int)) : Nat → Int → Nat → Int
 | 0, kind, _ => kind
 | f + 1, kind, s => if detW 8 (minorT n T s) < 0 then 3 else kindR n T f (if detW 8 (minorT n T s) = 0 then 2 else kind) (s + 1)
theorem minor_len {n s : Nat} {T : List (List Int)} : (minorT n T s).length = (pickN n s).length ∧ ∀ r ∈ minorT n T s, r.length = (pickN n s).length := by
 refine ⟨by simp [minorT], fun r hr => ?_⟩
 obtain ⟨v, _, rfl⟩ := List.mem_map.1 hr
 simp
theorem shl_eq : ∀ n : Nat, n < 6 → shlI 1 (n : Int) = ((2 ^ n : Nat) : Int) := by decide +kernel
theorem pow_le : ∀ n : Nat, n < 6 → 2 ^ n ≤ 32 := by decide
theorem kind_loop {body : Int × Int → Option ((Int × Int) ⊕ (Int ⊕ Int))} {n : Nat} {T : List (List Int)} (hn : n < 6)
  (hs : ∀ (kind : Int) (s : Nat), 1 ≤ s → s < 2 ^ n → body (kind, (s : Int)) = some (if detW 8 (minorT n T s) < 0 then .inr (.inr 3) else .inl (if detW 8 (minorT n T s) = 0 then 2 else kind, ((s + 1 : Nat) : Int))))
  (he : ∀ kind : Int, body (kind, ((2 ^ n : Nat) : Int)) = some (.inr (.inl kind))) : ∀ (f : Nat) (kind : Int) (s : Nat), 1 ≤ s → s + f = 2 ^ n → (Option.bind (Lp body (kind, (s : Int))) fun y => Sum.elim (fun a => some a) (fun b => some b) y) = some (kindR n T f kind s)
 | 0, kind, s, h1, h => by
  have h' : s = 2 ^ n := by omega
  subst h'
  rw [Lp_stop (he kind)]; rfl
 | f + 1, kind, s, h1, h => by
  have hb := hs kind s h1 (by omega)
  simp only [kindR]
  by_cases c : detW 8 (minorT n T s) < 0
  ·rw [if_pos c] at hb ⊢
   rw [Lp_stop hb]; rfl
  ·rw [if_neg c] at hb ⊢
   rw [Lp_step hb]
   exact kind_loop hn hs he f _ (s + 1) (by omega) (by omega)
theorem n_implKind {q : Qv} {n : Nat} (Q : QOk q n) : m_impl_KindOfQuiver q = some (kindR n (matQ q n) (2 ^ n - 1) 1 1) := by
 have n5 := Q.n5
 have hp := pow_le n (by omega)
 have hp1 : 1 ≤ 2 ^ n := Nat.one_le_two_pow
 unfold m_impl_KindOfQuiver
 rw [n_implQ Q.bq, Q.qv, Option.bind_some, Bool.not_true, cond_false, n_implSym Q, Option.bind_some]
 refine kind_loop (by omega) (fun kind s h1 h2 => ?_) (fun kind => ?_) _ _ 1 (Nat.le_refl _) (by omega)
 ·unfold m_impl_KindOfQuiver_L1
  simp only
  rw [Q.n0, decide_eq_false (by omega), Bool.not_false, cond_true, shl_eq n (by omega), dlt h2, cond_true]
  unfold matQ
  rw [n_implMinor n5 (by omega) (x1 := (kind, (s : Int))) rfl, Option.bind_some]
  have hl := pick_len n s
  rw [n_implDet 8 (pickN n s).length _ (by omega) (by omega) minor_len.1 minor_len.2, Option.bind_some, wr_suc h2 (by omega)]
  generalize detW 8 (minorT n (matL n (mF q q.src.length)) s) = d
  by_cases c : d < 0
  ·simp [c]
  ·by_cases c2 : d = 0
   ·simp [c2]
   ·simp [c, c2]
 ·unfold m_impl_KindOfQuiver_L1
  simp only
  rw [Q.n0, decide_eq_false (by omega), Bool.not_false, cond_true, shl_eq n (by omega), dnl (Nat.le_refl _), cond_false]
theorem n_specKind {q : Qv} {n : Nat} (Q : QOk q n) : m_spec_KindOfQuiver q = some (kindR n (matQ q n) (2 ^ n - 1) 1 1) := by
 have n5 := Q.n5
 have hp := pow_le n (by omega)
 have hp1 : 1 ≤ 2 ^ n := Nat.one_le_two_pow
 unfold m_spec_KindOfQuiver
 rw [n_specQ Q.bq, Q.qv, Option.bind_some, Bool.not_true, cond_false, n_specSym Q, Option.bind_some]
 refine kind_loop (by omega) (fun kind s h1 h2 => ?_) (fun kind => ?_) _ _ 1 (Nat.le_refl _) (by omega)
 ·unfold m_spec_KindOfQuiver_L1
  simp only
  rw [Q.n0, decide_eq_false (by omega), Bool.not_false, cond_true, shl_eq n (by omega), dlt h2, cond_true]
  unfold matQ
  rw [n_specMinor n5 (by omega), Option.bind_some]
  have hl := pick_len n s
  rw [n_specDet 8 (pickN n s).length _ (by omega) (by omega) minor_len.1 minor_len.2, Option.bind_some, wr_suc h2 (by omega)]
  generalize detW 8 (minorT n (matL n (mF q q.src.length)) s) = d
  by_cases c : d < 0
  ·simp [c]
  ·by_cases c2 : d = 0
   ·simp [c2]
   ·simp [c, c2]
 ·unfold m_spec_KindOfQuiver_L1
  simp only
  rw [Q.n0, decide_eq_false (by omega), Bool.not_false, cond_true, shl_eq n (by omega), dnl (Nat.le_refl _), cond_false]
theorem kindR_two {n : Nat} {T : List (List Int)} : ∀ f s, kindR n T f 2 s ≠ 1
 | 0, s => by simp [kindR]
 | f + 1, s => by
  simp only [kindR]
  split
  ·decide
  ·rw [ite_self]; exact kindR_two f (s + 1)
theorem kindR_one {n : Nat} {T : List (List Int)} : ∀ {f : Nat} {kind : Int} {s : Nat}, kindR n T f kind s = 1 → ∀ t, s ≤ t → t < s + f → 0 < detW 8 (minorT n T t)
 | 0, kind, s, h, t, h1, h2 => by omega
 | f + 1, kind, s, h, t, h1, h2 => by
  simp only [kindR] at h
  split at h
  ·cases h
  ·rename_i c
   by_cases c2 : detW 8 (minorT n T s) = 0
   ·rw [if_pos c2] at h
    exact absurd h (kindR_two f (s + 1))
   ·rw [if_neg c2] at h
    by_cases e : t = s
    ·subst e; omega
    ·exact kindR_one h t (by omega) (by omega)
theorem pick_one : ∀ n, n < 6 → ∀ v, v < n → pickN n (2 ^ v) = [v] := by decide +kernel
theorem pick_two : ∀ n, n < 6 → ∀ v, v < n → ∀ w, w < n → v < w → pickN n (2 ^ v + 2 ^ w) = [v, w] := by decide +kernel
theorem pow_one : ∀ n, n < 6 → ∀ v, v < n → 1 ≤ 2 ^ v ∧ 2 ^ v < 2 ^ n := by decide
theorem pow_two : ∀ n, n < 6 → ∀ v, v < n → ∀ w, w < n → v < w → 1 ≤ 2 ^ v + 2 ^ w ∧ 2 ^ v + 2 ^ w < 2 ^ n := by decide
theorem det_one : ∀ c : Nat, c < 7 → 0 < detW 8 [[2 - 2 * (c : Int)]] → c = 0 := by decide +kernel
theorem det_two : ∀ c : Nat, c < 13 → 0 < detW 8 [[2, -(c : Int)], [-(c : Int), 2]] → c ≤ 1 := by decide +kernel
theorem fin_form {q : Qv} {n : Nat} (Q : QOk q n) (h : ∀ t, 1 ≤ t → t < 2 ^ n → 0 < detW 8 (minorT n (matQ q n) t)) : GForm n (matQ q n) ∧ goodT n (matQ q n) = true := by
 have n5 := Q.n5
 have m6 := Q.m6
 generalize hF : mF q q.src.length = F
 have hT : matQ q n = matL n F := by rw [← hF]; rfl
 rw [hT] at h ⊢
 have hsym : ∀ v w, F v w = F w v := fun v w => by rw [← hF]; exact mF_sym q _ v w
 have hd : ∀ v, v < n → F v v = 2 := by
  intro v hv
  have h1 := h (2 ^ v) (pow_one n (by omega) v hv).1 (pow_one n (by omega) v hv).2
  have e : minorT n (matL n F) (2 ^ v) = [[F v v]] := by
   unfold minorT
   rw [pick_one n (by omega) v hv]
   simp [rowsF_matL hv hv]
  have hc := cnt_bd q q.src.length v v
  have e2 : F v v = 2 - 2 * (((cntN q q.src.length v v).toNat : Nat) : Int) := by
   rw [← hF]; unfold mF; rw [if_pos rfl]; omega
  rw [e, e2] at h1
  have := det_one _ (by omega) h1
  omega
 have ho : ∀ v w, v < n → w < n → v < w → F v w = 0 ∨ F v w = -1 := by
  intro v w hv hw hvw
  have h1 := h (2 ^ v + 2 ^ w) (pow_two n (by omega) v hv w hw hvw).1 (pow_two n (by omega) v hv w hw hvw).2
  have hc := cnt_bd q q.src.length v w
  have hc2 := cnt_bd q q.src.length w v
  have e2 : F v w = -((((cntN q q.src.length v w + cntN q q.src.length w v).toNat : Nat)) : Int) := by
   rw [← hF]; unfold mF; rw [if_neg (by omega)]; omega
  have e : minorT n (matL n F) (2 ^ v + 2 ^ w) = [[2, F v w], [F v w, 2]] := by
   unfold minorT
   rw [pick_two n (by omega) v hv w hw hvw]
   simp [rowsF_matL hv hv, rowsF_matL hv hw, rowsF_matL hw hv, rowsF_matL hw hw, hd v hv, hd w hw, hsym w v]
  rw [e, e2] at h1
  have := det_two _ (by omega) h1
  omega
 have hT2 : matL n F = matL n fun v w => if v = w then 2 else bi (decide (F (min v w) (max v w) = -1)) := by
  refine matL_congr fun v w hv hw => ?_
  by_cases e : v = w
  ·subst e; rw [if_pos rfl]; exact hd v hv
  ·rw [if_neg e]
   rcases Nat.lt_or_gt_of_ne e with c | c
   ·rw [Nat.min_eq_left (by omega), Nat.max_eq_right (by omega)]
    rcases ho v w hv hw c with h | h <;> rw [h] <;> rfl
   ·rw [Nat.min_eq_right (by omega), Nat.max_eq_left (by omega), hsym v w]
    rcases ho w v hw hv c with h | h <;> rw [h] <;> rfl
 have hchk : chkT n (matL n F) = true := by
  rw [hT2]
  have hn1 := Q.n1
  have hcase : n = 1 ∨ n = 2 ∨ n = 3 ∨ n = 4 ∨ n = 5 := by omega
  rcases hcase with rfl | rfl | rfl | rfl | rfl
  ·exact chk1
  ·exact chk2 (decide (F 0 1 = -1))
  ·exact chk3 (decide (F 0 1 = -1)) (decide (F 0 2 = -1)) (decide (F 1 2 = -1))
  ·exact chk4 (decide (F 0 1 = -1)) (decide (F 0 2 = -1)) (decide (F 0 3 = -1)) (decide (F 1 2 = -1)) (decide (F 1 3 = -1)) (decide (F 2 3 = -1))
  ·exact chk5 (decide (F 0 1 = -1)) (decide (F 0 2 = -1)) (decide (F 0 3 = -1)) (decide (F 0 4 = -1)) (decide (F 1 2 = -1)) (decide (F 1 3 = -1)) (decide (F 1 4 = -1)) (decide (F 2 3 = -1)) (decide (F 2 4 = -1)) (decide (F 3 4 = -1))
 have hgood : goodT n (matL n F) = true := by
  unfold chkT at hchk
  rcases Bool.or_eq_true_iff.1 hchk with h1 | h1
  ·exact h1
  ·rw [List.any_eq_true] at h1
   obtain ⟨s, hs, h2⟩ := h1
   simp only [Bool.and_eq_true, decide_eq_true_eq, Nat.blt_eq] at h2
   have hs1 : 1 ≤ s := by simp only [List.mem_cons, List.not_mem_nil, or_false] at hs; omega
   have := h s hs1 h2.1
   omega
 refine ⟨⟨fun i j hi hj => by rw [rowsF_matL hi hj, rowsF_matL hj hi]; exact hsym i j, fun i hi => by rw [rowsF_matL hi hi]; exact hd i hi, (goodT_parts hgood).1⟩, hgood⟩
end Go.Proofs.Ytinllccaphhmcaa
end

section
set_option linter.unusedVariables false
set_option linter.unusedSimpArgs false

namespace Go.Proofs.Ytinllccaphhmcaa
open Go.RowKit
set_option linter.unusedVariables false
def eul (q : Qv) (n : Nat) (x y : List Int) : Int := (sumN n fun v => gx x v * gx y v) - sumN q.src.length fun i => gx x (gx q.src i).toNat * gx y (gx q.tgt i).toNat
theorem sumN_bd {f : Nat → Int} {B : Int} : ∀ {n : Nat}, (∀ i, i < n → -B ≤ f i ∧ f i ≤ B) → -(B * n) ≤ sumN n f ∧ sumN n f ≤ B * n
 | 0, _ => by simp [sumN]
 | n + 1, h => by
  have h1 := sumN_bd (n := n) fun i hi => h i (by omega)
  have h2 := h n (by omega)
  simp only [sumN, Int.natCast_add, Int.mul_add]
  omega
theorem mul_bd {a b : Int} (ha : -100 ≤ a ∧ a ≤ 100) (hb : -100 ≤ b ∧ b ≤ 100) : -10000 ≤ a * b ∧ a * b ≤ 10000 := by
 have h1 := Int.mul_nonneg (a := 100 - a) (b := 100 + b) (by omega) (by omega)
 have h2 := Int.mul_nonneg (a := 100 + a) (b := 100 - b) (by omega) (by omega)
 have h3 := Int.mul_nonneg (a := 100 - a) (b := 100 - b) (by omega) (by omega)
 have h4 := Int.mul_nonneg (a := 100 + a) (b := 100 + b) (by omega) (by omega)
 grind
def Sm (x : List Int) : Prop := ∀ a ∈ x, -100 ≤ a ∧ a ≤ 100
theorem Sm.gx {x : List Int} (h : Sm x) (i : Nat) : -100 ≤ gx x i ∧ gx x i ≤ 100 := by
 rcases Nat.lt_or_ge i x.length with h' | h'
 ·exact h _ (mem_gx h')
 ·unfold Go.Proofs.Ytinllccaphhmcaa.gx
  rw [List.getElem?_eq_none h']; simp
theorem n_eulA {n : Nat} {x y : List Int} (hx : x.length = n) (hy : y.length = n) (n5 : n ≤ 5) (sx : Sm x) (sy : Sm y) {body : Int × Int → Option ((Int × Int) ⊕ Int)}
  (hb : ∀ (s : Int) (k : Nat), k < n → body (s, (k : Int)) = some (.inl (wr (s + wr (gx x k * gx y k)), wr ((k : Int) + 1)))) (he : ∀ s : Int, body (s, (n : Int)) = some (.inr s)) : Lp body (0, 0) = some (sumN n fun v => gx x v * gx y v) := by
 refine Lp_go (fun k => (sumN k fun v => gx x v * gx y v, (k : Int))) n rfl (fun k hk => ?_) (fun _ => he _)
 have h1 := mul_bd (sx.gx k) (sy.gx k)
 have h2 := sumN_bd (n := k) (f := fun v => gx x v * gx y v) (B := 10000) fun i _ => mul_bd (sx.gx i) (sy.gx i)
 rw [hb _ k hk, wr_sm (x := gx x k * gx y k) (by omega), wr_sm (by omega), wr_suc hk (by omega)]
 rfl
theorem n_eulB {q : Qv} {n : Nat} (Q : QOk q n) {x y : List Int} (hx : x.length = n) (hy : y.length = n) (sx : Sm x) (sy : Sm y) {s0 : Int} (hs0 : -50000 ≤ s0 ∧ s0 ≤ 50000) {body : Int × Int → Option ((Int × Int) ⊕ Int)}
  (hb : ∀ (s : Int) (k : Nat), k < q.src.length → body (s, (k : Int)) = some (.inl (wr (s - wr (gx x (gx q.src k).toNat * gx y (gx q.tgt k).toNat)), wr ((k : Int) + 1)))) (he : ∀ s : Int, body (s, (q.src.length : Int)) = some (.inr s)) :
  Lp body (s0, 0) = some (s0 - sumN q.src.length fun i => gx x (gx q.src i).toNat * gx y (gx q.tgt i).toNat) := by
 have m6 := Q.m6
 refine Lp_go (fun k => (s0 - sumN k fun i => gx x (gx q.src i).toNat * gx y (gx q.tgt i).toNat, (k : Int))) q.src.length (by simp [sumN]) (fun k hk => ?_) (fun _ => he _)
 have h1 := mul_bd (sx.gx (gx q.src k).toNat) (sy.gx (gx q.tgt k).toNat)
 have h2 := sumN_bd (n := k) (f := fun i => gx x (gx q.src i).toNat * gx y (gx q.tgt i).toNat) (B := 10000) fun i _ => mul_bd (sx.gx _) (sy.gx _)
 rw [hb _ k hk, wr_sm (x := gx x (gx q.src k).toNat * gx y (gx q.tgt k).toNat) (by omega), wr_sm (by omega), wr_suc hk (by omega)]
 simp only [sumN]
 congr 3
 omega
theorem at_gx {x : List Int} {i : Nat} (h : i < x.length) : atL x (i : Int) = some (gx x i) := by rw [atG 0 h]; rfl
theorem eulA_bd {n : Nat} {x y : List Int} (n5 : n ≤ 5) (sx : Sm x) (sy : Sm y) : -50000 ≤ (sumN n fun v => gx x v * gx y v) ∧ (sumN n fun v => gx x v * gx y v) ≤ 50000 := by
 have := sumN_bd (n := n) (f := fun v => gx x v * gx y v) (B := 10000) fun i _ => mul_bd (sx.gx i) (sy.gx i)
 omega
theorem eul_bd {q : Qv} {n : Nat} (Q : QOk q n) {x y : List Int} (sx : Sm x) (sy : Sm y) : -200000 ≤ eul q n x y ∧ eul q n x y ≤ 200000 := by
 have h1 := eulA_bd (x := x) (y := y) Q.n5 sx sy
 have h2 := sumN_bd (n := q.src.length) (f := fun i => gx x (gx q.src i).toNat * gx y (gx q.tgt i).toNat) (B := 10000) fun i _ => mul_bd (sx.gx _) (sy.gx _)
 have := Q.m6
 unfold eul
 omega
theorem n_l18Vec {q : Qv} (hq : bQ q) {x : List Int} (hx : x.length ≤ 1048576) : m_spec_l18Vector q x = some ((x.all fun a => inR a (-100) 100) && (quivV q && decide ((x.length : Int) = q.n))) := by
 unfold m_spec_l18Vector
 rw [Lp_all (fun k => inR (x[k]?.getD 0) (-100) 100) false (n := x.length) (by omega) (fun k hk => ?_) (fun _ => ?_), all_range 0 x (fun a => inR a (-100) 100), Option.bind_some]
 ·cases x.all fun a => inR a (-100) 100
  ·rfl
  ·rw [cond_true, Bool.true_and]
   show (Option.bind (m_spec_IsQuiver q) fun v7 => bif v7 then some (decide ((x.length : Int) = q.n)) else some false) = _
   rw [n_specQ hq, Option.bind_some]
   cases quivV q <;> rfl
 ·unfold m_spec_l18Vector_L1
  rw [dlt hk, cond_true, atG 0 hk, Option.bind_some, n_l1In, Option.bind_some]
  cases inR _ (-100) 100 <;> rfl
 ·unfold m_spec_l18Vector_L1
  rw [dnl (Nat.le_refl _), cond_false]
theorem Sm.all {x : List Int} (h : Sm x) : (x.all fun a => inR a (-100) 100) = true := by
 rw [List.all_eq_true]
 intro a ha
 exact inR_mk (h a ha).1 (h a ha).2
theorem ind2 {n s t : Nat} (x : Nat → Int) (hs : s < n) (ht : t < n) : (sumN n fun v => sumN n fun w => (if v = s ∧ w = t then 1 else 0) * (x v * x w)) = x s * x t := by
 rw [sumN_congr (g := fun v => if v = s then (fun v => x v * x t) v else 0) (fun v hv => ?_), sumN_one (fun v => x v * x t) hs]
 by_cases c : v = s
 ·rw [if_pos c]
  refine (sumN_congr fun w _ => ?_).trans (sumN_one (fun w => x v * x w) ht)
  by_cases c2 : w = t
  ·simp [c, c2]
  ·simp [c2]
 ·rw [if_neg c, sumN_congr (g := fun _ => 0) (fun w _ => by simp [c]), sumN_zero]
theorem qf_mF {q : Qv} {n : Nat} (Q : QOk q n) (x : Nat → Int) : ∀ k, k ≤ q.src.length → qf n (mF q k) x = 2 * (sumN n fun v => x v * x v) - 2 * sumN k fun i => x (gx q.src i).toNat * x (gx q.tgt i).toNat
 | 0, _ => by
  unfold qf
  simp only [sumN]
  rw [sumN_congr (g := fun v => 2 * (x v * x v)) (fun v hv => ?_), sumN_mul]
  ·omega
  ·rw [← sumN_one (fun w => 2 * (x v * x w)) hv]
   refine sumN_congr fun w _ => ?_
   unfold mF cntN
   simp only [sumN]
   by_cases c : v = w
   ·subst c; simp
   ·simp [c, show ¬ w = v from fun h => c h.symm]
 | k + 1, hk => by
  have ih := qf_mF Q x k (by omega)
  obtain ⟨s, t, hs, ht, e1, e2, e3, e4⟩ := Q.arrow (i := k) (by omega)
  have e : qf n (mF q (k + 1)) x = qf n (mF q k) x + ((-1) * (sumN n fun v => sumN n fun w => (if v = s ∧ w = t then 1 else 0) * (x v * x w)) + (-1) * (sumN n fun v => sumN n fun w => (if v = t ∧ w = s then 1 else 0) * (x v * x w))) := by
   unfold qf
   rw [← sumN_mul, ← sumN_mul, ← sumN_add, ← sumN_add]
   refine sumN_congr fun v _ => ?_
   rw [← sumN_mul, ← sumN_mul, ← sumN_add, ← sumN_add]
   refine sumN_congr fun w _ => ?_
   rw [mF_succ, hit_eq e1 e2, hit_eq e1 e2]
   have c : (if w = s ∧ v = t then (1 : Int) else 0) = if v = t ∧ w = s then 1 else 0 := by
    by_cases h : v = t ∧ w = s
    ·rw [if_pos h, if_pos ⟨h.2, h.1⟩]
    ·rw [if_neg h, if_neg fun h' => h ⟨h'.2, h'.1⟩]
   rw [c]
   grind
  rw [e, ind2 x hs ht, ind2 x ht hs, ih]
  simp only [sumN]
  rw [e1, e2, Int.toNat_natCast, Int.toNat_natCast]
  grind
theorem qf_congr {n : Nat} {m m' : Nat → Nat → Int} (x : Nat → Int) (h : ∀ i j, i < n → j < n → m i j = m' i j) : qf n m x = qf n m' x :=
 sumN_congr fun i hi => sumN_congr fun j hj => by rw [h i j hi hj]
theorem qf_eul {q : Qv} {n : Nat} (Q : QOk q n) (x : List Int) : qf n (rowsF (matQ q n)) (gx x) = 2 * eul q n x x := by
 have e : qf n (rowsF (matQ q n)) (gx x) = qf n (mF q q.src.length) (gx x) := qf_congr _ fun i j hi hj => rowsF_matL hi hj
 rw [e, qf_mF Q _ _ (Nat.le_refl _)]
 unfold eul
 omega
theorem mem_boxes : ∀ {ms x : List Int}, x ∈ boxesL ms ↔ x.length = ms.length ∧ ∀ i, i < ms.length → 0 ≤ gx x i ∧ (gx x i).toNat ≤ (gx ms i).toNat
 | [], x => by
  simp only [boxesL, List.mem_singleton, List.length_nil]
  constructor
  ·rintro rfl; exact ⟨rfl, fun i h => by omega⟩
  ·rintro ⟨h, _⟩; exact List.eq_nil_of_length_eq_zero h
 | m :: ms, x => by
  simp only [boxesL, List.mem_flatMap, List.mem_range, List.mem_map]
  constructor
  ·rintro ⟨i, hi, y, hy, rfl⟩
   obtain ⟨h1, h2⟩ := mem_boxes.1 hy
   refine ⟨by simp [h1], fun j hj => ?_⟩
   cases j with
   | zero => show 0 ≤ (i : Int) ∧ (i : Int).toNat ≤ m.toNat; omega
   | succ j => exact h2 j (by simpa using hj)
  ·rintro ⟨h1, h2⟩
   cases x with
   | nil => simp at h1
   | cons a x =>
    have h3 := h2 0 (by simp)
    have h4 : 0 ≤ a ∧ a.toNat ≤ m.toNat := h3
    refine ⟨a.toNat, by omega, x, mem_boxes.2 ⟨by simpa using h1, fun j hj => h2 (j + 1) (by simpa using hj)⟩, ?_⟩
    rw [Int.toNat_of_nonneg h4.1]
def lexB : List Int → List Int → Bool
 | a :: x, b :: y => decide (a < b) || (decide (a = b) && lexB x y)
 | _, _ => false
theorem boxes_lex : ∀ ms : List Int, (boxesL ms).Pairwise fun x y => lexB x y = true
 | [] => by simp [boxesL]
 | m :: ms => by
  simp only [boxesL]
  rw [List.pairwise_flatMap]
  refine ⟨fun i _ => ?_, ?_⟩
  ·rw [List.pairwise_map]
   exact (boxes_lex ms).imp fun h => by simp [lexB, h]
  ·refine List.pairwise_lt_range.imp fun h => ?_
   intro x hx y hy
   obtain ⟨x', _, rfl⟩ := List.mem_map.1 hx
   obtain ⟨y', _, rfl⟩ := List.mem_map.1 hy
   simp only [lexB, Bool.or_eq_true, decide_eq_true_eq]
   exact .inl (by omega)
theorem lexB_irr : ∀ x : List Int, lexB x x = false
 | [] => rfl
 | a :: x => by simp [lexB, lexB_irr x]
theorem boxes_nodup (ms : List Int) : (boxesL ms).Nodup := (boxes_lex ms).imp fun {x y} h e => by rw [e, lexB_irr] at h; cases h
theorem boxes_num : ∀ n, n < 6 → (boxesL (List.replicate n 4)).length ≤ 3125 := by decide +kernel
theorem box_ok : ∀ n, n < 6 → boxOk (List.replicate n 4) = true := by decide
end Go.Proofs.Ytinllccaphhmcaa
end

section
set_option linter.unusedVariables false
set_option linter.unusedSimpArgs false

namespace Go.Proofs.Ytinllccaphhmcaa
open Go.RowKit
set_option linter.unusedVariables false
def insR {α : Type} (lt : α → α → Bool) (x : α) : List α → List α → List α
 | [], acc => x :: acc
 | p :: ps, acc => if lt x p = true then insR lt x ps (p :: acc) else (p :: ps).reverse ++ x :: acc
def insB {α : Type} (lt : α → α → Bool) (x : α) (P : List α) : List α := insR lt x P.reverse []
def sortB {α : Type} (lt : α → α → Bool) (A : List α) : List α := A.foldl (fun S x => insB lt x S) []
theorem insR_len {α : Type} (lt : α → α → Bool) (x : α) : ∀ ps acc, (insR lt x ps acc).length = ps.length + acc.length + 1
 | [], acc => by simp [insR]
 | p :: ps, acc => by
  simp only [insR]
  split
  ·rw [insR_len lt x ps (p :: acc)]; simp; omega
  ·simp; omega
theorem insR_mem {α : Type} (lt : α → α → Bool) (x y : α) : ∀ ps acc, y ∈ insR lt x ps acc ↔ y = x ∨ y ∈ ps ∨ y ∈ acc
 | [], acc => by simp [insR]
 | p :: ps, acc => by
  simp only [insR]
  split
  ·rw [insR_mem lt x y ps (p :: acc)]; simp only [List.mem_cons]; grind
  ·simp only [List.mem_append, List.mem_reverse, List.mem_cons]; grind
theorem insB_len {α : Type} (lt : α → α → Bool) (x : α) (P : List α) : (insB lt x P).length = P.length + 1 := by unfold insB; rw [insR_len]; simp
theorem insB_mem {α : Type} {lt : α → α → Bool} {x y : α} {P : List α} : y ∈ insB lt x P ↔ y = x ∨ y ∈ P := by unfold insB; rw [insR_mem]; simp
theorem sortB_snoc {α : Type} (lt : α → α → Bool) (A : List α) (x : α) : sortB lt (A ++ [x]) = insB lt x (sortB lt A) := by simp [sortB]
theorem sortB_spec {α : Type} (lt : α → α → Bool) : ∀ A : List α, (sortB lt A).length = A.length ∧ ∀ y, y ∈ sortB lt A ↔ y ∈ A := by
 have key : ∀ A S : List α, (A.foldl (fun S x => insB lt x S) S).length = S.length + A.length ∧ ∀ y, y ∈ A.foldl (fun S x => insB lt x S) S ↔ y ∈ S ∨ y ∈ A := by
  intro A
  induction A with
  | nil => intro S; simp
  | cons a A ih =>
   intro S
   obtain ⟨h1, h2⟩ := ih (insB lt a S)
   refine ⟨by rw [List.foldl_cons, h1, insB_len]; simp; omega, fun y => ?_⟩
   rw [List.foldl_cons, h2 y, insB_mem]
   simp only [List.mem_cons]; grind
 intro A
 obtain ⟨h1, h2⟩ := key A []
 exact ⟨by unfold sortB; rw [h1]; simp, fun y => by unfold sortB; rw [h2]; simp⟩
theorem insR_sorted {α : Type} {lt : α → α → Bool} {R : α → α → Prop} (hT : ∀ a b c, R a b → R b c → R a c) {x : α} : ∀ {ps acc : List α}, (ps.reverse ++ acc).Pairwise R → (∀ a ∈ acc, R x a) → (∀ p ∈ ps, lt x p = true → R x p) → (∀ p ∈ ps, lt x p = false → R p x) → (insR lt x ps acc).Pairwise R
 | [], acc, hs, ha, h1, h0 => by simp only [insR]; exact List.pairwise_cons.2 ⟨ha, by simpa using hs⟩
 | p :: ps, acc, hs, ha, h1, h0 => by
  simp only [insR]
  by_cases c : lt x p = true
  ·rw [if_pos c]
   have e : (p :: ps).reverse ++ acc = ps.reverse ++ (p :: acc) := by simp
   rw [e] at hs
   refine insR_sorted hT hs (fun a h => ?_) (fun q hq => h1 q (by simp [hq])) (fun q hq => h0 q (by simp [hq]))
   rcases List.mem_cons.1 h with rfl | h
   ·exact h1 _ (by simp) c
   ·exact ha a h
  ·rw [if_neg c]
   have hp := h0 p (by simp) (by simpa using c)
   rw [List.pairwise_append] at hs ⊢
   obtain ⟨g1, g2, g3⟩ := hs
   refine ⟨g1, List.pairwise_cons.2 ⟨ha, g2⟩, fun a h1' b hb => ?_⟩
   rcases List.mem_cons.1 hb with rfl | hb
   ·rcases List.mem_reverse.1 h1' |> List.mem_cons.1 with rfl | h
    ·exact hp
    ·refine hT _ p _ ?_ hp
     rw [List.reverse_cons, List.pairwise_append] at g1
     exact g1.2.2 a (by simpa using h) p (by simp)
   ·exact g3 a h1' b hb
theorem insB_sorted {α : Type} {lt : α → α → Bool} {R : α → α → Prop} (hT : ∀ a b c, R a b → R b c → R a c) {x : α} {P : List α} (hP : P.Pairwise R) (h1 : ∀ p ∈ P, lt x p = true → R x p) (h0 : ∀ p ∈ P, lt x p = false → R p x) : (insB lt x P).Pairwise R :=
 insR_sorted hT (by simpa using hP) (by simp) (fun p hp => h1 p (by simpa using hp)) (fun p hp => h0 p (by simpa using hp))
theorem sorted_ext {α : Type} {R : α → α → Prop} (hI : ∀ a, ¬ R a a) (hT : ∀ a b c, R a b → R b c → R a c) : ∀ {l m : List α}, l.Pairwise R → m.Pairwise R → (∀ x, x ∈ l ↔ x ∈ m) → l = m
 | [], m, _, _, h => by
  cases m with
  | nil => rfl
  | cons b m => exact absurd ((h b).2 (by simp)) (by simp)
 | a :: l, m, hl, hm, h => by
  cases m with
  | nil => exact absurd ((h a).1 (by simp)) (by simp)
  | cons b m =>
   have hl' := List.pairwise_cons.1 hl
   have hm' := List.pairwise_cons.1 hm
   have hab : a = b := by
    rcases List.mem_cons.1 ((h a).1 (by simp)) with e | e
    ·exact e
    ·rcases List.mem_cons.1 ((h b).2 (by simp)) with e2 | e2
     ·exact e2.symm
     ·exact absurd (hT _ _ _ (hl'.1 b e2) (hm'.1 a e)) (hI a)
   subst hab
   congr 1
   refine sorted_ext hI hT hl'.2 hm'.2 fun x => ?_
   have hx := h x
   simp only [List.mem_cons] at hx
   constructor
   ·intro h1
    rcases hx.1 (.inr h1) with rfl | h2
    ·exact absurd (hl'.1 _ h1) (hI _)
    ·exact h2
   ·intro h1
    rcases hx.2 (.inr h1) with rfl | h2
    ·exact absurd (hm'.1 _ h1) (hI _)
    ·exact h2
def Vec5 (x : List Int) : Prop := x.length ≤ 5 ∧ ∀ a ∈ x, 0 ≤ a ∧ a ≤ 4
theorem Vec5.sum {x : List Int} (h : Vec5 x) : 0 ≤ x.sum ∧ x.sum ≤ 20 := by have := sum_bd h.2; have := h.1; omega
def sumLt (x y : List Int) : Bool := decide (x.sum < y.sum)
theorem at_mid {α : Type} {u T : List α} {p : α} : atL (u ++ p :: T) (u.length : Int) = some p := by simp [atL]
theorem at_mid1 {α : Type} {u T : List α} {p x : α} : atL (u ++ p :: x :: T) ((u.length + 1 : Nat) : Int) = some x := by
 have := at_mid (u := u ++ [p]) (p := x) (T := T)
 simpa using this
theorem set_mid {α : Type} {u T : List α} {p q : α} : (u ++ p :: T).set u.length q = u ++ q :: T := by simp
theorem set_mid1 {α : Type} {u T : List α} {p x q : α} : (u ++ p :: x :: T).set (u.length + 1) q = u ++ p :: q :: T := by simp
def lessR (x y : List Int) : Bool := decide (x.sum < y.sum) || (decide (x.sum = y.sum) && lexB x y)
theorem gx_drop0 (x : List Int) {k : Nat} (h : k < x.length) : gx x k = x[k] := by simp [gx, h]
end Go.Proofs.Ytinllccaphhmcaa
end

section
set_option linter.unusedVariables false
set_option linter.unusedSimpArgs false

namespace Go.Proofs.Ytinllccaphhmcaa
open Go.RowKit
set_option linter.unusedVariables false
theorem lexB_trans : ∀ {x y z : List Int}, lexB x y = true → lexB y z = true → lexB x z = true
 | [], y, z, h, _ => by simp [lexB] at h
 | a :: x, [], z, h, _ => by simp [lexB] at h
 | a :: x, b :: y, [], _, h => by simp [lexB] at h
 | a :: x, b :: y, c :: z, h, k => by
  simp only [lexB, Bool.or_eq_true, Bool.and_eq_true, decide_eq_true_eq] at h k ⊢
  rcases h with h | ⟨h, h'⟩ <;> rcases k with k | ⟨k, k'⟩
  ·exact .inl (by omega)
  ·exact .inl (by omega)
  ·exact .inl (by omega)
  ·exact .inr ⟨by omega, lexB_trans h' k'⟩
theorem lexB_total : ∀ {x y : List Int}, x.length = y.length → x ≠ y → lexB x y = true ∨ lexB y x = true
 | [], [], _, h => absurd rfl h
 | [], _ :: _, h, _ => by simp at h
 | _ :: _, [], h, _ => by simp at h
 | a :: x, b :: y, h, hne => by
  simp only [lexB, Bool.or_eq_true, Bool.and_eq_true, decide_eq_true_eq]
  by_cases e : a = b
  ·subst e
   rcases lexB_total (x := x) (y := y) (by simpa using h) (fun e => hne (by rw [e])) with h1 | h1
   ·exact .inl (.inr ⟨rfl, h1⟩)
   ·exact .inr (.inr ⟨rfl, h1⟩)
  ·rcases Int.lt_or_gt_of_ne e with h1 | h1
   ·exact .inl (.inl h1)
   ·exact .inr (.inl h1)
def LessP (x y : List Int) : Prop := lessR x y = true
theorem lessP_iff {x y : List Int} : LessP x y ↔ x.sum < y.sum ∨ (x.sum = y.sum ∧ lexB x y = true) := by simp [LessP, lessR]
theorem lessP_irr (x : List Int) : ¬ LessP x x := by rw [lessP_iff, lexB_irr]; simp
theorem lessP_trans (x y z : List Int) (h : LessP x y) (k : LessP y z) : LessP x z := by
 rw [lessP_iff] at *
 rcases h with h | ⟨h, h'⟩ <;> rcases k with k | ⟨k, k'⟩
 ·exact .inl (by omega)
 ·exact .inl (by omega)
 ·exact .inl (by omega)
 ·exact .inr ⟨by omega, lexB_trans h' k'⟩
theorem sortB_sorted {α : Type} {lt : α → α → Bool} {R : α → α → Prop} (hT : ∀ a b c, R a b → R b c → R a c) {A : List α} (hA : A.Pairwise fun p x => (lt x p = true → R x p) ∧ (lt x p = false → R p x)) : (sortB lt A).Pairwise R := by
 have key : ∀ k, k ≤ A.length → (sortB lt (A.take k)).Pairwise R := by
  intro k
  induction k with
  | zero => intro _; simp [sortB]
  | succ k ih =>
   intro hk
   have hk' : k < A.length := by omega
   rw [List.take_succ_eq_append_getElem hk', sortB_snoc]
   have hpr : ∀ p ∈ sortB lt (A.take k), (lt A[k] p = true → R A[k] p) ∧ (lt A[k] p = false → R p A[k]) := by
    intro p hp
    have h1 := ((sortB_spec lt (A.take k)).2 p).1 hp
    obtain ⟨j, hj, rfl⟩ := List.mem_iff_getElem.1 h1
    have hjk : j < k := by simp at hj; omega
    have := List.pairwise_iff_getElem.1 hA j k (by omega) hk' hjk
    simpa using this
   exact insB_sorted hT (ih (by omega)) (fun p hp => (hpr p hp).1) (fun p hp => (hpr p hp).2)
 have := key A.length (Nat.le_refl _)
 rwa [List.take_length] at this
structure Fin1 (q : Qv) (n : Nat) : Prop where
 Q : QOk q n
 F : GForm n (matQ q n)
 G : goodT n (matQ q n) = true
def RtQ (q : Qv) (n : Nat) (x : List Int) : Prop := Rt0 n (matQ q n) x
theorem Fin1.vec {q : Qv} {n : Nat} (H : Fin1 q n) {x : List Int} (r : RtQ q n x) : Vec5 x ∧ x.length = n := by
 have h := (goodT_parts H.G).2
 have h1 := r.mem H.F h.1
 exact ⟨⟨by rw [r.len]; exact H.Q.n5, fun a ha => ⟨r.nn a ha, h.2.2 x h1 a ha⟩⟩, r.len⟩
theorem Fin1.num {q : Qv} {n : Nat} (H : Fin1 q n) {l : List (List Int)} (hn : l.Nodup) (h : ∀ x ∈ l, RtQ q n x) : l.length ≤ 20 :=
 Nat.le_trans (nodup_len hn fun x hx => (h x hx).mem H.F (goodT_parts H.G).2.1) (goodT_parts H.G).2.2.1
theorem Vec5.sm {x : List Int} (h : Vec5 x) : Sm x := fun a ha => by have := h.2 a ha; omega
theorem rt_iff {q : Qv} {n : Nat} (Q : QOk q n) (x : List Int) : RtQ q n x ↔ x.length = n ∧ (∀ a ∈ x, 0 ≤ a) ∧ eul q n x x = 1 := by
 constructor
 ·intro r
  have := r.two
  rw [qf_eul Q] at this
  exact ⟨r.len, r.nn, by omega⟩
 ·rintro ⟨h1, h2, h3⟩
  exact ⟨h1, h2, by rw [qf_eul Q]; omega⟩
def listA (q : Qv) (n : Nat) : List (List Int) := (boxesL (List.replicate n 4)).filter fun x => decide (eul q n x x = 1)
theorem gx_rep {n i : Nat} (h : i < n) (z : Int) : gx (List.replicate n z) i = z := by simp [gx, h]
theorem box_mem {n : Nat} {x : List Int} : x ∈ boxesL (List.replicate n 4) ↔ x.length = n ∧ ∀ a ∈ x, 0 ≤ a ∧ a ≤ 4 := by
 rw [mem_boxes, List.length_replicate]
 constructor
 ·rintro ⟨h1, h2⟩
  refine ⟨h1, fun a ha => ?_⟩
  obtain ⟨i, hi, rfl⟩ := List.mem_iff_getElem.1 ha
  have := h2 i (by omega)
  rw [gx_rep (by omega), gx_drop0 x hi] at this
  have h4 : (4 : Int).toNat = 4 := rfl
  omega
 ·rintro ⟨h1, h2⟩
  refine ⟨h1, fun i hi => ?_⟩
  have := h2 _ (mem_gx (x := x) (i := i) (by omega))
  rw [gx_rep hi]
  have h4 : (4 : Int).toNat = 4 := rfl
  omega
theorem mem_listA {q : Qv} {n : Nat} (H : Fin1 q n) (x : List Int) : x ∈ listA q n ↔ RtQ q n x := by
 unfold listA
 rw [List.mem_filter, box_mem, decide_eq_true_eq, rt_iff H.Q]
 constructor
 ·rintro ⟨⟨h1, h2⟩, h3⟩; exact ⟨h1, fun a ha => (h2 a ha).1, h3⟩
 ·rintro ⟨h1, h2, h3⟩
  have hv := H.vec ((rt_iff H.Q x).2 ⟨h1, h2, h3⟩)
  exact ⟨⟨h1, hv.1.2⟩, h3⟩
theorem Fl_filter {f : List Int → List (List Int) → Option (List (List Int) ⊕ Unit)} (p : List Int → Bool) : ∀ (l acc : List (List Int)), (∀ x ∈ l, ∀ acc : List (List Int), acc.length ≤ 4000 → f x acc = some (.inl (if p x = true then acc ++ [x] else acc))) → acc.length + l.length ≤ 4000 → Fl f l acc = some (.inl (acc ++ l.filter p))
 | [], acc, _, _ => by simp [Fl]
 | x :: l, acc, h, hl => by
  simp only [List.length_cons] at hl
  simp only [Fl]
  rw [h x (by simp) acc (by omega)]
  simp only
  rw [Fl_filter p l (if p x = true then acc ++ [x] else acc) (fun y hy => h y (by simp [hy])) (by split <;> (try simp) <;> omega)]
  by_cases c : p x = true
  ·simp [c]
  ·simp [c]
theorem sorted_implRoots {q : Qv} {n : Nat} : (sortB sumLt (listA q n)).Pairwise LessP := by
 refine sortB_sorted lessP_trans ?_
 refine (List.Pairwise.filter _ (boxes_lex _)).imp fun {p x} h => ?_
 rw [lessP_iff, lessP_iff]
 simp only [sumLt, decide_eq_true_eq, decide_eq_false_iff_not]
 refine ⟨fun h1 => .inl h1, fun h1 => ?_⟩
 by_cases e : p.sum = x.sum
 ·exact .inr ⟨e, h⟩
 ·exact .inl (by omega)
theorem n_reflect {q : Qv} {n : Nat} (Q : QOk q n) {x : List Int} (hx : Vec5 x) (hxn : x.length = n) {v : Nat} (hv : v < n) : m_spec_l20Reflect (matQ q n) x (v : Int) = some (x.set v (gx x v + -(mv n (rowsF (matQ q n)) (gx x) v))) := by
 have n5 := Q.n5
 have m6 := Q.m6
 have hbd : ∀ i, -48 ≤ mF q q.src.length v i * gx x i ∧ mF q q.src.length v i * gx x i ≤ 48 := by
  intro i
  have h1 := mF_bd q m6 v i
  have h2 : 0 ≤ gx x i ∧ gx x i ≤ 4 := by
   rcases Nat.lt_or_ge i x.length with h' | h'
   ·exact hx.2 _ (mem_gx h')
   ·unfold gx; rw [List.getElem?_eq_none h']; simp
  have h3 : gx x i = 0 ∨ gx x i = 1 ∨ gx x i = 2 ∨ gx x i = 3 ∨ gx x i = 4 := by omega
  rcases h3 with h3 | h3 | h3 | h3 | h3 <;> rw [h3] <;> omega
 have hmv : mv n (rowsF (matQ q n)) (gx x) v = sumN n fun i => mF q q.src.length v i * gx x i := sumN_congr fun i hi => by rw [show rowsF (matQ q n) v i = mF q q.src.length v i from rowsF_matL hv hi]
 have hs := sumN_bd (n := n) (f := fun i => mF q q.src.length v i * gx x i) (B := 48) fun i _ => hbd i
 unfold m_spec_l20Reflect
 rw [decide_eq_true (by simp; omega), cond_true, Lp_go (s := ((0 : Int), (0 : Int))) (r := sumN n fun i => mF q q.src.length v i * gx x i) (fun k => (sumN k fun i => mF q q.src.length v i * gx x i, (k : Int))) n rfl (fun k hk => ?_) (fun _ => ?_), Option.bind_some]
 ·have hvl : v < x.length := by omega
  rw [List.nil_append, at_gx hvl]
  simp only [Option.bind_some]
  have h2 := hx.2 _ (mem_gx hvl)
  rw [hmv, wr_sm (by omega), Int.toNat_natCast]
  rfl
 ·unfold m_spec_l20Reflect_L1
  simp only
  have h2 := sumN_bd (n := k) (f := fun i => mF q q.src.length v i * gx x i) (B := 48) fun i _ => hbd i
  have h3 := hbd k
  rw [hxn, dlt hk, cond_true, show atL (matQ q n) (v : Int) = some (rowL n (mF q q.src.length v)) from rowL_at hv, Option.bind_some, rowL_at hk, Option.bind_some, at_gx (by omega), Option.bind_some, wr_sm (x := mF q q.src.length v k * gx x k) (by omega), wr_sm (by omega), wr_suc hk (by omega)]
  rfl
 ·unfold m_spec_l20Reflect_L1
  simp only
  rw [hxn, dnl (Nat.le_refl _), cond_false]
def reflL (q : Qv) (n : Nat) (x : List Int) (v : Nat) : List Int := x.set v (gx x v + -(mv n (rowsF (matQ q n)) (gx x) v))
theorem refl_root {q : Qv} {n : Nat} (H : Fin1 q n) {x : List Int} (r : RtQ q n x) {v : Nat} (hv : v < n) (h : 0 ≤ gx x v + -(mv n (rowsF (matQ q n)) (gx x) v)) : RtQ q n (reflL q n x v) := by
 have hvl : v < x.length := by rw [r.len]; exact hv
 refine ⟨by unfold reflL; rw [List.length_set]; exact r.len, fun a ha => ?_, ?_⟩
 ·rcases mem_set_cases ha with rfl | ha
  ·exact h
  ·exact r.nn a ha
 ·unfold reflL
  rw [gx_inc _ hvl, qf_add _ _ _ hv H.F.sym, r.two, H.F.diag v hv]
  generalize mv n (rowsF (matQ q n)) (gx x) v = s
  grind
def Clos (q : Qv) (n : Nat) (all : List (List Int)) (x : List Int) (v : Nat) : Prop := 0 ≤ gx x v + -(mv n (rowsF (matQ q n)) (gx x) v) → reflL q n x v ∈ all
def AllRt (q : Qv) (n : Nat) (all : List (List Int)) : Prop := all.Nodup ∧ ∀ x ∈ all, RtQ q n x
theorem clos_all {q : Qv} {n : Nat} (H : Fin1 q n) {C : List (List Int)} (hu : ∀ v, v < n → unitL n v ∈ C) (hc : ∀ x ∈ C, ∀ u, u < n → Clos q n C x u) : ∀ (h : Nat) {x : List Int}, RtQ q n x → x.sum = h + 1 → x ∈ C
 | 0, x, r, hs => by
  obtain ⟨v, hv, e⟩ := sum_unit r.nn (by omega)
  rw [r.len] at e hv
  rw [e]; exact hu v hv
 | h + 1, x, r, hs => by
  obtain ⟨v, hv, h1, h2⟩ := r.down H.F (by omega)
  have hvl : v < x.length := by rw [r.len]; exact hv
  have ih := clos_all H hu hc h h2 (by rw [sum_set _ hvl]; omega)
  have h3 : mv n (rowsF (matQ q n)) (gx (x.set v (gx x v + -1))) v = -1 := by
   rw [gx_inc _ hvl, mv_add _ _ _ _ hv, h1, H.F.diag v hv]; rfl
  have h4 : gx (x.set v (gx x v + -1)) v = gx x v + -1 := by rw [gx_set _ hvl, if_pos rfl]
  have h5 := r.nn _ (mem_gx hvl)
  have h6 := hc _ ih v hv (by rw [h3, h4]; omega)
  unfold reflL at h6
  rw [h3, h4, List.set_set] at h6
  have e : x.set v (gx x v + -1 + - -1) = x := by
   refine gx_ext (by simp) fun i _ => ?_
   rw [gx_set _ hvl]
   by_cases e : i = v
   ·subst e; rw [if_pos rfl]; omega
   ·rw [if_neg e]
  rwa [e] at h6
theorem unit_root {q : Qv} {n : Nat} (H : Fin1 q n) {v : Nat} (hv : v < n) : RtQ q n (unitL n v) := by
 have hz : gx (List.replicate n (0 : Int)) = fun _ => 0 := by
  funext i
  unfold gx
  rw [List.getElem?_replicate]
  split <;> simp
 have hvl : v < (List.replicate n (0 : Int)).length := by simpa using hv
 have e : unitL n v = (List.replicate n (0 : Int)).set v (gx (List.replicate n (0 : Int)) v + 1) := by rw [hz]; rfl
 refine ⟨by simp [unitL], fun a ha => ?_, ?_⟩
 ·rcases mem_set_cases ha with rfl | ha
  ·omega
  ·rw [List.eq_of_mem_replicate ha]; omega
 ·rw [e, gx_inc _ hvl, qf_add _ _ _ hv H.F.sym, H.F.diag v hv, hz]
  have h1 : mv n (rowsF (matQ q n)) (fun _ => 0) v = 0 := by
   unfold mv
   rw [sumN_congr (g := fun _ => 0) (fun i _ => by rw [Int.mul_zero]), sumN_zero]
  have h2 : qf n (rowsF (matQ q n)) (fun _ => 0) = 0 := by
   rw [qf_mv, sumN_congr (g := fun _ => 0) (fun i _ => by rw [Int.zero_mul]), sumN_zero]
  rw [h1, h2]; rfl
theorem units_nodup (n : Nat) : ((List.range n).map (unitL n)).Nodup := by
 rw [List.nodup_iff_pairwise_ne, List.pairwise_map]
 refine List.Pairwise.imp_of_mem (fun {a b} ha hb h e => ?_) (List.nodup_iff_pairwise_ne.1 List.nodup_range)
 have h1 : gx (unitL n a) a = 1 := by unfold unitL; rw [gx_set _ (by simpa using List.mem_range.1 ha), if_pos rfl]
 have h2 : gx (unitL n b) a = 0 := by unfold unitL; rw [gx_set _ (by simpa using List.mem_range.1 hb), if_neg h, gx_rep (List.mem_range.1 ha)]
 rw [e, h2] at h1
 cases h1
def rootsL (q : Qv) (n : Nat) : List (List Int) := sortB sumLt (listA q n)
theorem mem_rootsL {q : Qv} {n : Nat} (H : Fin1 q n) (x : List Int) : x ∈ rootsL q n ↔ RtQ q n x := by unfold rootsL; rw [(sortB_spec _ _).2, mem_listA H]
theorem rootsL_len {q : Qv} {n : Nat} (H : Fin1 q n) : (rootsL q n).length ≤ 20 := by
 unfold rootsL
 rw [(sortB_spec _ _).1]
 exact H.num ((boxes_nodup _).filter _) fun x hx => (mem_listA H x).1 hx
end Go.Proofs.Ytinllccaphhmcaa
end

section
set_option linter.unusedVariables false
set_option linter.unusedSimpArgs false

namespace Go.Proofs.Ytinllccaphhmcaa
open Go.RowKit
set_option linter.unusedVariables false
set_option linter.unusedSimpArgs false
set_option maxRecDepth 10000
set_option maxHeartbeats 4000000

noncomputable def m_slices_Min_Lint_int_L1 (a0 : (List Int)) (x1 : (Int × Int)) : Option ((Int × Int) ⊕ Int) :=
  bif decide (x1.2 < (a0.length : Int)) then
    (Option.bind (atL a0 x1.2) fun v4 =>
    some (.inl (min x1.1 v4, wr (x1.2 + 1))))
  else
    (some (.inr x1.1))

noncomputable def m_slices_Min_Lint_int (a0 : (List Int)) : Option Int :=
  bif decide ((a0.length : Int) < 1) then
    (none)
  else
    (Option.bind (atL a0 0) fun v2 =>
    Option.bind (Lp (m_slices_Min_Lint_int_L1 a0) (v2, 1)) fun y5 =>
    some (y5))

theorem c_slices_Min_Lint_int (a0 : (List Int)) (r : Int) (h : m_slices_Min_Lint_int a0 = some r) : HasC Try.prog 32 [.list 1 (List.map eI a0)] (.int r) := by
 refine hasC_mk TT_ok (rvs := [.tmp 2]) (ns := [0, 1]) Try.func32 k k Try.ntmps32 k k k <| sQ <| rg <| aa k k <| an <| tn <| sQ <| sQ <| rg <| am k k ?_
 refine ae (lenL TT_ok k k k) k <| ae (w_cmp k k k) k <| an <| tn ?_
 rcases cb h with ⟨q1, h⟩ | ⟨q1, h⟩
 ·refine ac_condT k q1 <| rg ?_
  cases h
 ·refine ac_condF k q1 <| ac_skip <| tn <| sQ <| rg <| am k k ?_
  obtain ⟨v2, hv2, h⟩ := ob h
  refine ae (x_at_list TT_ok hv2 k k k k k k) k <| ae (w_load_ref TT_ok k k k k k k) k <| aa k k <| an <| tn <| sQ <| sQ <| rg <| aa k k <| an ?_
  refine tn <| ac_block ?_
  obtain ⟨y5, hy5, h⟩ := ob h
  refine ac_Lp (body := (m_slices_Min_Lint_int_L1 a0)) hy5 (fun (x1 : (Int × Int)) => mkS [(0, .list 1 (List.map eI a0)), (3, .int x1.1), (4, .int x1.2)] [] 0 [0, 1]) (fun r e t => e = .exit 0 ∧ Ent t (mkS [(3, .int r)] [] 0 [0, 1])) (ent_mk (σ := sg []) ⟨⟨_, k, ⟨k, k⟩⟩, (e1 k k), (e1 k k), trivial⟩ trivial k) ?_ ?_
  ·intro x1 o h
   refine sQ <| sQ <| rg <| am k k <| am k k <| ae (lenL TT_ok k k k) k <| ae (w_cmp k k k) k <| an <| tn ?_
   rcases cb h with ⟨q3, h⟩ | ⟨q3, h⟩
   ·refine ac_condT k q3 <| ac_skip <| tn <| sQ <| ac_block <| rg <| am k k <| am k k <| am k k ?_
    obtain ⟨v4, hv4, h⟩ := ob h
    refine ae (x_at_list TT_ok hv4 k k k k k k) k <| ae (w_load_ref TT_ok k k k k k k) k <| ae (x_min k k) k <| aa k k <| an <| block_n <| tn <| rg <| am k k <| ae (x_add k k) k ?_
    refine aa k k <| an <| tn ?_
    obtain rfl := so h
    exact ⟨_, k, (ent_mk (σ := sg []) ⟨⟨_, k, ⟨k, k⟩⟩, (e1 k k), (e1 k k), trivial⟩ trivial k)⟩
   ·refine ac_condF k q3 <| ac_exit <| then_exit <| then_exit ?_
    obtain rfl := so h
    exact ⟨_, k, k, (ent_mk (σ := sg []) ⟨(e1 k k), trivial⟩ trivial k)⟩
  ·rintro e t ⟨rfl, hent⟩
   refine block_here <| tn <| ac_ent hent <| sQ <| rg <| am k k <| aa k k <| an <| tn <| ac_ret ?_
   obtain rfl := so h
   exact ret_mk k k k (fz_int k)

end Go.Proofs.Ytinllccaphhmcaa
end

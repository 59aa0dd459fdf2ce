/-
  The effects of single operations: stores and append. No program stands in this text.
-/
import Derived.Test.YtjfcjkeghigipaaA6
namespace Go.Proofs.Ytjfcjkeghigipaa
open Go.RowKit

theorem set_flatten {α : Type} {k : Nat} : ∀ {es : List (List α)} {i j : Nat} {cs ds : List α}, (∀ c ∈ es, c.length = k) → es[i]? = some cs → j + ds.length ≤ cs.length → (es.set i (cs.take j ++ ds ++ cs.drop (j + ds.length))).flatten = es.flatten.take (i * k + j) ++ ds ++ es.flatten.drop (i * k + j + ds.length)
  | [], i, j, cs, ds, _, h, _ => by simp at h
  | c :: es, 0, j, cs, ds, hk, h, hj => by
    simp at h; subst h
    simp only [List.set_cons_zero, List.flatten_cons, Nat.zero_mul, Nat.zero_add]
    rw [List.take_append_of_le_length (by omega), List.drop_append_of_le_length (by omega)]
    simp
  | c :: es, i + 1, j, cs, ds, hk, h, hj => by
    have hc := hk c (by simp)
    have ih := set_flatten (es := es) (i := i) (j := j) (cs := cs) (ds := ds) (fun x hx => hk x (by simp [hx])) (by simpa using h) hj
    simp only [List.set_cons_succ, List.flatten_cons]
    rw [ih]
    have t1 : c.take ((i + 1) * k + j) = c := List.take_of_length_le (by rw [hc, Nat.add_mul]; omega)
    have t2 : c.drop ((i + 1) * k + j + ds.length) = [] := List.drop_eq_nil_of_le (by rw [hc, Nat.add_mul]; omega)
    rw [List.take_append, List.drop_append, t1, t2, hc]
    rw [show (i + 1) * k + j - k = i * k + j by rw [Nat.add_mul]; omega, show (i + 1) * k + j + ds.length - k = i * k + j + ds.length by rw [Nat.add_mul]; omega]
    simp

theorem set_flatten_y {α : Type} {k : Nat} {es : List (List α)} {i j n : Nat} {cs ds : List α} (hk : ∀ c ∈ es, c.length = k) (hi : es[i]? = some cs) (hd : ds.length = n) (hj : j + n ≤ cs.length) : (es.set i (cs.take j ++ ds ++ cs.drop (j + n))).flatten = es.flatten.take (i * k + j) ++ ds ++ es.flatten.drop (i * k + j + n) := by
  subst hd
  exact set_flatten hk hi hj

theorem heap_setRow_ne {w : World} {g x : Nat} {arr : Array Value} (h : x ≠ g) : (w.setRow g arr).heap[x]? = w.heap[x]? := by
  simp only [World.setRow, Array.getElem?_modify]
  rw [if_neg (fun e => h e.symm)]

theorem below_setRow {B : Nat} {w : World} {g : Nat} {arr : Array Value} (h : B ≤ g) : Below B w (w.setRow g arr) :=
  ⟨rfl, rfl, rfl, by simp [World.setRow], fun k hk => heap_setRow_ne (by omega)⟩

theorem Nodup.drop_mid {α : Type} {x : α} {a b c : List α} (h : (x :: (a ++ (b ++ c))).Nodup) : (x :: (a ++ c)).Nodup := by
  refine List.Nodup.sublist ?_ h
  exact List.Sublist.cons_cons x (List.Sublist.append (List.Sublist.refl _) (List.sublist_append_right b c))

section
variable {P : Program} {T : List (Nat × Ty)} (hT : TyOk P T) {dst : Option Tmp} {ty : TypeId} {pos : String} {aft : Array Edge} {g : Option (Nat × Bool)} {ins : Operand → Option AV} {hp : Hp}

include hT
theorem eff_store {t : TypeId} {y : Ty} {x z : Operand} {val : AV} {b i j : Nat} {blk : Blk} {cs : List AV} (hy : tyOf T t = some y) (hx : ins x = some (.ptr b i j)) (hz : ins z = some val) (hsz : (cellsOf val).length = y.size) (hb : hp b = some blk) (hi : blk.es[i]? = some cs) (hn : j + y.size ≤ cs.length)
    (ok : (cellsOf val).all (okCell hp) = true) :
    AEff P ⟨dst, .store t x z, ty, pos, aft, g⟩ ins hp ⟨.dead, b :: namesOf (cellsOf val), [(b, some ⟨blk.k, blk.es.set i (cs.take j ++ cellsOf val ++ cs.drop (j + y.size))⟩)], []⟩ := by
  refine ⟨fun C s ν a w Q K hi' ht hnw hd hs hK => ?_⟩
  have h1 := hs.ev ((hi' x (by simp [Op.operands])).trans hx)
  obtain ⟨g1, g2, g3⟩ := (hs.ev ((hi' z (by simp [Op.operands])).trans hz)).cells ok (fun b hb => ht b (by simp [hb]))
  simp only [RepA, RepB, Rep1] at h1
  have hb' : s.heap b = some blk := (ht b (by simp)).trans hb
  obtain ⟨β, c, hν, h3⟩ := h1.2 blk hb'
  obtain ⟨φ, hh⟩ := hs.heap
  obtain ⟨hub, ⟨hk, hx2⟩, hnd, hB⟩ := hh.blk b blk hb'
  rcases hx2 with ⟨q1, q2, _⟩ | ⟨β', c', arr, ty', T', vs, q1, q2, q3, q4, q5, q6, q7, q8⟩
  · rw [q2] at hi; simp at hi
  · rw [hν] at q1
    cases q1
    obtain ⟨i1, z1, d1, y1⟩ := hT.is hy
    have hcs := hk cs (List.mem_of_getElem? hi)
    have hil : i < blk.es.length := by
      rcases Nat.lt_or_ge i blk.es.length with h' | h'
      · exact h'
      · rw [List.getElem?_eq_none h'] at hi; cases hi
    have hoff : i * blk.k + j + y.size ≤ blk.es.length * blk.k := by
      have : (i + 1) * blk.k ≤ blk.es.length * blk.k := Nat.mul_le_mul_right _ hil
      rw [Nat.add_mul] at this
      omega
    have hcap : blk.es.length * blk.k ≤ arr.size := by rw [q3]; exact Nat.mul_le_mul_right _ q4
    have hvl : (a.eval z).cells.toList.length = y.size := by rw [g2.len, hsz]
    have hst := run_storeCells_at P β (i * blk.k + j) ty' (a.eval z).cells.toList 0 arr w q2 (by omega) g3
    simp only [Nat.add_zero] at hst
    have hexec : (execOp a.eval ⟨dst, .store t x z, ty, pos, aft, g⟩).run P w = .ok .skip (w.setRow β (arr.toList.take (i * blk.k + j) ++ (a.eval z).cells.toList ++ arr.toList.drop (i * blk.k + j + (a.eval z).cells.toList.length)).toArray) := by
      have hne : ¬ ((a.eval z).cells.size ≠ y.size) := by simp at hvl; simpa using hvl
      simp only [execOp, Instr.storeAt, h3, Instr.sureAddr, storeVar, Sem.run_bind, Sem.run_pure, Result.andThen_ok, run_size y1.info, y1.size, Sem.run_ite, if_neg hne, hst]
    unfold Oper.wp
    rw [hexec]
    simp only [Oper.upon]
    generalize hw' : w.setRow β (arr.toList.take (i * blk.k + j) ++ (a.eval z).cells.toList ++ arr.toList.drop (i * blk.k + j + (a.eval z).cells.toList.length)).toArray = w'
    have hothers : ∀ x, x ≠ β → w'.heap[x]? = w.heap[x]? := fun x hx => by rw [← hw']; exact heap_setRow_ne hx
    have hβ : w'.heap[β]? = some (.cells (arr.toList.take (i * blk.k + j) ++ (a.eval z).cells.toList ++ arr.toList.drop (i * blk.k + j + (a.eval z).cells.toList.length)).toArray ty' (0, 0)) := by rw [← hw']; exact setRow_heap w β arr _ ty' (0, 0) q2
    have ext : Ext w s.heap s.used ν w' (editHp [(b, some ⟨blk.k, blk.es.set i (cs.take j ++ cellsOf val ++ cs.drop (j + y.size))⟩)] s.heap) s.used ν := by
      refine ⟨fun _ h => h, fun b2 blk2 _ hb2 => ?_, fun x hx hf => ⟨hothers x (fun e => hf b blk β c hb' hν e.symm), fun b2 blk2 β2 c2 hb2 hν2 => ?_⟩⟩
      · by_cases e : b2 = b
        · subst e
          simp only [editHp, beq_self, cond_true, Option.some.injEq] at hb2
          subst hb2
          exact ⟨blk, hb', rfl, by simp, rfl⟩
        · simp only [editHp, beq_ne e, cond_false] at hb2
          exact ⟨blk2, hb2, rfl, rfl, rfl⟩
      · by_cases e : b2 = b
        · subst e
          exact hf b2 blk β2 c2 hb' hν2
        · simp only [editHp, beq_ne e, cond_false] at hb2
          exact hf b2 blk2 β2 c2 hb2 hν2
    have hfl : blk.es.flatten = blk.es.flatten.take (i * blk.k + j) ++ ((blk.es.flatten.drop (i * blk.k + j)).take y.size ++ blk.es.flatten.drop (i * blk.k + j + y.size)) := by
      have e1 : blk.es.flatten.drop (i * blk.k + j + y.size) = (blk.es.flatten.drop (i * blk.k + j)).drop y.size := by rw [List.drop_drop]
      rw [e1, List.take_append_drop, List.take_append_drop]
    have hfll := flatten_len hk
    rw [hfl] at q8
    obtain ⟨v1, v2, S1, S2, e1, e2, e3, e4, e5⟩ := q8.append_inv
    obtain ⟨v3, v4, S3, S4, f1, f2, f3, f4, f5⟩ := e5.append_inv
    subst f1 f2 e2
    have hno : ∀ y ∈ S1 ++ S4, y ≠ β := by
      intro y hy e
      subst e
      rw [q6] at hnd
      refine (List.nodup_cons.1 hnd).1 ?_
      rcases List.mem_append.1 hy with h | h <;> simp [h]
    refine hK ν _ _ (hs.step (x := .dead) hd (s' := s.app dst _) (by exact ext) (by rw [← hw']; exact below_setRow (C.low _ (hB β (by rw [q6]; simp)))) ⟨fun x => bif Nat.beq x b then β :: (S1 ++ S4) else φ x, ?_, ?_⟩ rfl (by simp only [RepA, RepB, Rep1]))
    · intro x blk2 hx2
      by_cases e : x = b
      · subst e
        simp only [AState.app, editHp, beq_self, cond_true, Option.some.injEq] at hx2
        subst hx2
        simp only [beq_self, cond_true]
        refine ⟨hub, ⟨?_, .inr ⟨β, c, _, ty', S1 ++ S4, v1 ++ ((a.eval z).cells.toList ++ v4), hν, hβ, ?_, by simpa using q4, q5, rfl, ?_, ?_⟩⟩, ?_, ?_⟩
        · intro d hd
          rcases List.mem_or_eq_of_mem_set hd with h | h
          · exact hk d h
          · rw [h]; simp; omega
        · simp; simp at hvl; omega
        · simp only [List.length_set]
          rw [hvl]
          have hv1 : v1 = arr.toList.take (i * blk.k + j) := by
            have h5 : v1 = (arr.toList.take (blk.es.length * blk.k)).take v1.length := by rw [q7, e1, List.take_left]
            rw [h5, e3, List.length_take, List.take_take, hfll]
            congr 1
            omega
          have hv4 : v4 = (arr.toList.take (blk.es.length * blk.k)).drop (i * blk.k + j + y.size) := by
            have hl3 : v3.length = y.size := by rw [f3, List.length_take, List.length_drop, hfll]; omega
            have hl1 : v1.length = i * blk.k + j := by rw [e3, List.length_take, hfll]; omega
            rw [q7, e1, List.drop_append, List.drop_eq_nil_of_le (by omega), List.nil_append, hl1, show i * blk.k + j + y.size - (i * blk.k + j) = y.size by omega, List.drop_append, List.drop_eq_nil_of_le (by omega), List.nil_append, hl3]
            simp
          rw [hv4, ← hv1]
          have hl1 : v1.length = i * blk.k + j := by rw [e3, List.length_take, hfll]; omega
          rw [List.append_assoc, List.take_append, List.take_of_length_le (by omega), List.take_append, List.take_of_length_le (by omega), hl1, hvl, List.take_drop]
          rw [show i * blk.k + j + y.size + (blk.es.length * blk.k - (i * blk.k + j) - y.size) = blk.es.length * blk.k by omega]
        · rw [set_flatten_y hk hi hsz hn]
          have g2' := g2.ext ext (by simp)
          have e4' := e4.ext ext (fun y hy => hothers y (hno y (by simp [hy])))
          have f5' := f5.ext ext (fun y hy => hothers y (hno y (by simp [hy])))
          have := e4'.append (g2'.append f5')
          rw [List.append_assoc (List.take (i * blk.k + j) blk.es.flatten)]
          exact this
        · rw [q6] at hnd
          exact Nodup.drop_mid hnd
        · intro y hy
          refine hB y ?_
          rw [q6]
          rcases List.mem_cons.1 hy with rfl | h
          · simp
          · rcases List.mem_append.1 h with h | h <;> simp [h]
      · simp only [AState.app, editHp, beq_ne e, cond_false] at hx2
        simp only [beq_ne e, cond_false]
        obtain ⟨p1, p2, p3, p4⟩ := hh.blk x blk2 hx2
        refine ⟨p1, p2.ext ext rfl (fun y hy => hothers y ?_), p3, p4⟩
        rintro rfl
        exact hh.apart x b y (by rw [hx2]; simp) (by rw [hb']; simp) e hy (by rw [q6]; simp)
    · have hsub : ∀ y, y ∈ β :: (S1 ++ S4) → y ∈ φ b := by
        intro y hy
        rw [q6]
        rcases List.mem_cons.1 hy with rfl | h
        · simp
        · rcases List.mem_append.1 h with h | h <;> simp [h]
      intro x1 x2 yy hx1 hx2 hne hy1 hy2
      have hlive : ∀ x, (s.app dst ⟨.dead, b :: namesOf (cellsOf val), [(b, some ⟨blk.k, blk.es.set i (cs.take j ++ cellsOf val ++ cs.drop (j + y.size))⟩)], []⟩).heap x ≠ none → s.heap x ≠ none := by
        intro x hx
        by_cases e : x = b
        · subst e; rw [hb']; simp
        · simpa only [AState.app, editHp, beq_ne e, cond_false] using hx
      have h1' : yy ∈ φ x1 := by
        by_cases e : x1 = b
        · subst e; simp only [beq_self, cond_true] at hy1; exact hsub yy hy1
        · simpa only [beq_ne e, cond_false] using hy1
      have h2' : yy ∈ φ x2 := by
        by_cases e : x2 = b
        · subst e; simp only [beq_self, cond_true] at hy2; exact hsub yy hy2
        · simpa only [beq_ne e, cond_false] using hy2
      exact hh.apart x1 x2 yy (hlive x1 hx1) (hlive x2 hx2) hne h1' h2'
end
end Go.Proofs.Ytjfcjkeghigipaa

/-
  Several texts of the claim in one: each begins with its own remark.
-/
import Derived.Shelf.Bits.Mul64
import Derived.Test.YtinllccaphhmcaaProg
import Derived.Test.YtinllccaphhmcaaH10
section
set_option linter.unusedVariables false
set_option linter.unusedSimpArgs false

namespace Go.Proofs.Ytinllccaphhmcaa
open Go.RowKit
set_option linter.unusedVariables false
set_option maxRecDepth 10000
theorem cellsRep_Iv {w : World} {h : Hp} {u : Us} {ν : Nu} : ∀ {x : List Int} {vs : List Value} {S : List Nat}, CellsRep w h u ν (x.map (ow eI)).flatten vs S → vs = x.map (Value.int .i64)
 | [], vs, S, h => h.1
 | z :: x, vs, S, h => by
  simp only [List.map_cons, List.flatten_cons] at h
  obtain ⟨v, r, S1, S2, rfl, rfl, h3, h4⟩ := h
  have h5 : v = Value.int .i64 z := h3.1.1
  rw [h5, cellsRep_Iv h4]
  rfl
theorem repI_v {w : World} {h : Hp} {u : Us} {ν : Nu} : ∀ {x : List Int} {vs : List Value}, All2 (Rep1 w h u ν) (x.map eI).flatten vs → vs = x.map (Value.int .i64)
 | [], vs, h => h
 | z :: x, vs, h => by
  simp only [List.map_cons, List.flatten_cons] at h
  obtain ⟨v, r, rfl, h3, h4⟩ := h
  have h5 : v = Value.int .i64 z := h3.1
  rw [h5, repI_v h4]
  rfl
theorem cellsRep_I' {w : World} {h : Hp} {u : Us} {ν : Nu} : ∀ {x : List Int}, CellsRep w h u ν (x.map (ow eI)).flatten (x.map (Value.int .i64)) []
 | [] => ⟨rfl, rfl⟩
 | z :: x => ⟨_, _, [], [], rfl, rfl, ⟨⟨rfl, rfl⟩, rfl⟩, cellsRep_I'⟩
theorem all_okI {hp : Hp} {x : List Int} : (x.map eI).flatten.all (okCell hp) = true := by
 rw [List.all_eq_true]
 intro c hc
 obtain ⟨cs, hcs, hc⟩ := List.mem_flatten.1 hc
 obtain ⟨z, _, rfl⟩ := List.mem_map.1 hcs
 simp only [eI, List.mem_singleton] at hc
 subst hc
 rfl
theorem x_copy {P : Program} {T : List (Nat × Ty)} (hT : TyOk P T) {dst : Option Tmp} {dty : TypeId} {pos : String} {aft : Array Edge} {g : Option (Nat × Bool)} {s : AState} {xd xs : Operand} {t et : Nat} {y ye : Ty} {b i nd : Nat} {l m : List Int} {sv : AV} {ts : List Nat}
  (hin : i < l.length) (hm : 0 < m.length) (hx : s.ev xd = some (.own b i nd)) (hb : s.heap b = some ⟨1, l.map (ow eI)⟩) (hz : s.ev xs = some sv) (hsrc : srcEls s.heap sv = some (1, m.map eI, ts)) (hy : tyOf T t = some y) (hd : y.desc = .slice et) (hye : tyOf T et = some ye) (hk1 : ye.size = 1) :
  AEff P ⟨dst, .call ⟨.builtin .copy, #[xd, xs], #[t, t]⟩, dty, pos, aft, g⟩ s.ev s.heap s.kp ⟨.int (min m.length nd : Nat), b :: ts, [(b, some ⟨1, (l.take i ++ m.take (min m.length nd) ++ l.drop (i + min m.length nd)).map (ow eI)⟩)], []⟩ := by
 refine ⟨fun C s' ν a w Q K {hκ} hi' ht hnw hd' hs hK => ?_⟩
 have h1 := hs.ev ((hi' xd (by simp [Op.operands, Call.operands])).trans hx)
 have h2 := hs.ev ((hi' xs (by simp [Op.operands, Call.operands])).trans hz)
 have hb' : s'.heap b = some ⟨1, l.map (ow eI)⟩ := (ht b (by simp)).trans hb
 obtain ⟨ao, c0, vs, e1, e2, e3, e4, e5⟩ := hs.src h2 hsrc (fun b hb => ht b (by simp [hb])) all_okI
 have hvs := repI_v e4
 simp only [RepA, RepB, Rep1] at h1
 obtain ⟨hfit, hnn, hsl⟩ := h1.2 _ hb'
 obtain ⟨φ, hh⟩ := hs.heap
 obtain ⟨hub, ⟨hk, hx2⟩, hnd, hB⟩ := hh.blk b _ hb'
 simp only [List.length_map] at hfit
 rcases hx2 with ⟨q1, q2, _⟩ | ⟨β, c, arr, ty', T', vs', q1, q2, q3, q4, q5, q6, q7, q8⟩
 ·have : l = [] := by simpa using q2
  rw [this] at hin; simp at hin
 simp only [List.length_map, Nat.mul_one] at q3 q4 q7
 have hT' := cellsRep_I q8
 have hv' := cellsRep_Iv q8
 subst hT'
 have hsl' := (hsl β c q1).pos (by omega)
 simp only [Nat.mul_one] at hsl'
 obtain ⟨k, hk0⟩ : ∃ k, k = min m.length nd := ⟨_, rfl⟩
 rw [← hk0] at hK
 have hkm : k ≤ m.length := by omega
 have hkn : k ≤ nd := by omega
 obtain ⟨i1, z1, d1, y1⟩ := hT.is hy
 obtain ⟨i2, z2, d2, y2⟩ := hT.is hye
 obtain ⟨ad, rfl, e6⟩ : ∃ ad, ao = some ad ∧ ∀ j u, vs[j]? = some u → w.cell? (ad.add j) = some u := by
  rcases e5 with h | h
  ·rw [List.length_map] at h; omega
  ·exact h
 have hcl : ((m.take k).map (Value.int .i64)).length = k := by simp; omega
 have hrun := run_copy_row (P := P) w t t dty et β i nd (c - i) ad (m.map eI).length c0 arr ty' ((m.take k).map (Value.int .i64)) (y1.slice hd) (by rw [y2.info]; simp [y2.size, hk1]) q2 (by rw [hcl, List.length_map, hk0])
  (fun j v hj => e6 j v (by
   rw [hvs]
   have hjk : j < k := by have := (List.getElem?_eq_some_iff.1 hj).1; omega
   rw [List.map_take, List.getElem?_take_of_lt hjk] at hj
   exact hj)) (by omega) (fun v hv => by obtain ⟨z, _, rfl⟩ := List.mem_map.1 hv; rfl)
 rw [hcl] at hrun
 generalize hw' : w.setRow β (arr.toList.take i ++ (m.take k).map (Value.int .i64) ++ arr.toList.drop (i + k)).toArray = w' at hrun
 have hexec : (execOp a.eval ⟨dst, .call ⟨.builtin .copy, #[xd, xs], #[t, t]⟩, dty, pos, aft, g⟩).run P w = .ok (.value (.int .i64 k)) w' := by
  have h0 : execOp a.eval ⟨dst, .call ⟨.builtin .copy, #[xd, xs], #[t, t]⟩, dty, pos, aft, g⟩ = (do let v ← Builtin.copy_ #[t, t] dty #[a.eval xd, a.eval xs]; pure (.value v) : Sem Next) := by
   simp [execOp, resolve, invoke, builtin]
  rw [h0, hsl', e1, Sem.run_bind, hrun]
  simp [goInt]
 unfold Oper.wp
 rw [hexec]
 simp only [Oper.upon]
 have hothers : ∀ x, x ≠ β → w'.heap[x]? = w.heap[x]? := fun x hx => by rw [← hw']; exact heap_setRow_ne hx
 have hβ : w'.heap[β]? = some (.cells (arr.toList.take i ++ (m.take k).map (Value.int .i64) ++ arr.toList.drop (i + k)).toArray ty' (0, 0)) := by rw [← hw']; exact setRow_heap w β arr _ ty' (0, 0) q2
 have hll : (l.take i ++ m.take k ++ l.drop (i + k)).length = l.length := by simp; omega
 have ext : Ext w s'.heap s'.used ν w' (editHp [(b, some ⟨1, (l.take i ++ m.take k ++ l.drop (i + k)).map (ow eI)⟩)] s'.heap) s'.used ν := by
  refine ⟨fun _ h => h, fun b2 blk2 _ hb2 => ?_, fun x hx hf => ⟨hothers x (fun e => hf b _ β c hb' q1 e.symm), fun b2 blk2 β2 c2 hb2 hν2 => ?_⟩, rfl⟩
  ·by_cases e : b2 = b
   ·subst e
    simp only [editHp, beq_self, cond_true, Option.some.injEq] at hb2
    subst hb2
    exact ⟨_, hb', rfl, by simp only [List.length_map]; exact hll.symm, rfl⟩
   ·simp only [editHp, beq_ne e, cond_false] at hb2
    exact ⟨blk2, hb2, rfl, rfl, rfl⟩
  ·by_cases e : b2 = b
   ·subst e
    exact hf b2 _ β2 c2 hb' hν2
   ·simp only [editHp, beq_ne e, cond_false] at hb2
    exact hf b2 blk2 β2 c2 hb2 hν2
 refine hK ν _ _ (hs.step (x := .int (k : Nat)) (v := .int .i64 k) hd' (s' := s'.app dst _) (by exact ext) (by rw [← hw']; exact below_setRow (C.low _ (hB β (by rw [q6]; simp)))) ⟨φ, ?_, ?_⟩ rfl (repA_sc rfl))
 ·intro x blk2 hx2
  by_cases e : x = b
  ·subst e
   simp only [AState.app, editHp, beq_self, cond_true, Option.some.injEq] at hx2
   subst hx2
   refine ⟨hub, ⟨?_, .inr ⟨β, c, _, ty', [], _, q1, hβ, ?_, by simp only [List.length_map]; omega, q5, q6, rfl, ?_⟩⟩, hnd, hB⟩
   ·intro cs hcs
    obtain ⟨z, _, rfl⟩ := List.mem_map.1 hcs
    rfl
   ·simp; omega
   ·have harr : arr.toList.take l.length = l.map (Value.int .i64) := by rw [q7, hv']
    have h5 : (arr.toList.take i ++ (m.take k).map (Value.int .i64) ++ arr.toList.drop (i + k)).toArray.toList.take ((l.take i ++ m.take k ++ l.drop (i + k)).map (ow eI)).length = (l.take i ++ m.take k ++ l.drop (i + k)).map (Value.int .i64) := by
     rw [List.length_map, hll]
     simp only [List.map_append, List.map_take, List.map_drop, ← harr]
     have hal : arr.toList.length = c := by simpa using q3
     rw [List.take_append, List.take_append, List.take_take, List.take_take]
     simp only [List.length_append, List.length_take, List.length_map, hal, List.take_drop]
     rw [show min i c = i by omega, show min (l.length - i) k = k by omega, show i + k + (l.length - (i + min k m.length)) = l.length by omega, List.take_take]
     simp only [show min l.length i = i by omega, show min i l.length = i by omega]
    rw [Nat.mul_one, h5]
    exact cellsRep_I'
  ·simp only [AState.app, editHp, beq_ne e, cond_false] at hx2
   obtain ⟨p1, p2, p3, p4⟩ := hh.blk x blk2 hx2
   refine ⟨p1, p2.ext ext rfl (fun y hy => hothers y ?_), p3, p4⟩
   rintro rfl
   exact hh.apart x b y (by rw [hx2]; simp) (by rw [hb']; simp) e hy (by rw [q6]; simp)
 ·intro x1 x2 yy hx1 hx2 hne hy1 hy2
  have hlive : ∀ x, (s'.app dst ⟨.int (k : Nat), b :: ts, [(b, some ⟨1, (l.take i ++ m.take k ++ l.drop (i + k)).map (ow eI)⟩)], []⟩).heap x ≠ none → s'.heap x ≠ none := by
   intro x hx
   by_cases e : x = b
   ·subst e; rw [hb']; simp
   ·simpa only [AState.app, editHp, beq_ne e, cond_false] using hx
  exact hh.apart x1 x2 yy (hlive x1 hx1) (hlive x2 hx2) hne hy1 hy2
end Go.Proofs.Ytinllccaphhmcaa
end

section
set_option linter.unusedVariables false
set_option linter.unusedSimpArgs false

namespace Go.Proofs.Ytinllccaphhmcaa
open Go.RowKit
set_option linter.unusedVariables false
set_option linter.unusedSimpArgs false
set_option maxRecDepth 10000
set_option maxHeartbeats 4000000

def m_impl_within (a0 : Int) (a1 : Int) (a2 : Int) : Option Bool :=
  bif decide (a1 ≤ a0) then
    (some (decide (a0 ≤ a2)))
  else
    (some (false))

theorem c_impl_within (a0 : Int) (a1 : Int) (a2 : Int) (r : Bool) (h : m_impl_within a0 a1 a2 = some r) : HasC Try.prog 42 [.int a0, .int a1, .int a2] (.bl r) := by
 refine hasC_mk TT_ok (rvs := [.tmp 6]) (ns := [0, 1]) Try.func42 k k Try.ntmps42 k k k <| sQ <| rg <| aa k k <| an <| tn <| sQ <| rg <| am k k <| am k k ?_
 refine ae (w_cmp k k k) k <| am k k ?_
 rcases cb h with ⟨q1, h⟩ | ⟨q1, h⟩
 ·refine aops_lit 10 k q1 <| am k k <| am k k <| ae (w_cmp k k k) k <| ae (eff_pick k k) k <| aa k k <| an <| tn <| ac_ret ?_
  obtain rfl := so h
  exact ret_mk k k k (fz_bl k)
 ·refine aops_lit 10 k q1 <| ak k k <| ak k k <| ak k k <| ae (eff_pick k k) k <| aa k k <| an <| tn <| ac_ret ?_
  obtain rfl := so h
  exact ret_mk k k k (fz_bl k)

def m_spec_l1In (a0 : Int) (a1 : Int) (a2 : Int) : Option Bool :=
  bif decide (a1 ≤ a0) then
    (some (decide (a0 ≤ a2)))
  else
    (some (false))

theorem c_spec_l1In (a0 : Int) (a1 : Int) (a2 : Int) (r : Bool) (h : m_spec_l1In a0 a1 a2 = some r) : HasC Try.prog 22 [.int a0, .int a1, .int a2] (.bl r) := by
 refine hasC_mk TT_ok (rvs := [.tmp 6]) (ns := [0, 1]) Try.func22 k k Try.ntmps22 k k k <| sQ <| rg <| aa k k <| an <| tn <| sQ <| rg <| am k k <| am k k ?_
 refine ae (w_cmp k k k) k <| am k k ?_
 rcases cb h with ⟨q1, h⟩ | ⟨q1, h⟩
 ·refine aops_lit 10 k q1 <| am k k <| am k k <| ae (w_cmp k k k) k <| ae (eff_pick k k) k <| aa k k <| an <| tn <| ac_ret ?_
  obtain rfl := so h
  exact ret_mk k k k (fz_bl k)
 ·refine aops_lit 10 k q1 <| ak k k <| ak k k <| ak k k <| ae (eff_pick k k) k <| aa k k <| an <| tn <| ac_ret ?_
  obtain rfl := so h
  exact ret_mk k k k (fz_bl k)

noncomputable def m_spec_IsQuiver_L1 (a0 : Qv) (x1 : Int) : Option (Int ⊕ (Unit ⊕ Bool)) :=
  bif decide (x1 < (a0.src.length : Int)) then
    (bif decide (x1 < (a0.tgt.length : Int)) then
      (Option.bind (atL a0.src x1) fun v3 =>
      Option.bind (m_spec_l1In v3 0 (wr (a0.n - 1))) fun v4 =>
      bif !v4 then
        (some (.inr (.inr (false))))
      else
        (Option.bind (atL a0.tgt x1) fun v6 =>
        Option.bind (m_spec_l1In v6 0 (wr (a0.n - 1))) fun v7 =>
        bif !v7 then
          (some (.inr (.inr (false))))
        else
          (some (.inl (wr (x1 + 1))))))
    else
      (some (.inr (.inl ()))))
  else
    (some (.inr (.inl ())))

noncomputable def m_spec_IsQuiver (a0 : Qv) : Option Bool :=
  Option.bind (Lp (m_spec_IsQuiver_L1 a0) 0) fun y9 =>
  Sum.elim (fun y10 =>
    Option.bind (m_spec_l1In a0.n 1 5) fun v11 =>
    bif v11 then
      (bif decide ((a0.src.length : Int) ≤ 6) then
        (some (decide ((a0.tgt.length : Int) = (a0.src.length : Int))))
      else
        (some (false)))
    else
      (some (false))
  ) 
  (fun y14 =>
    some y14
  )
   y9

theorem c_spec_IsQuiver (a0 : Qv) (r : Bool) (h : m_spec_IsQuiver a0 = some r) : HasC Try.prog 18 [.agg (eQ a0)] (.bl r) := by
 refine hasC_mk TT_ok (rvs := [.tmp 2]) (ns := [0, 1, 2]) Try.func18 k k Try.ntmps18 k k k <| sQ <| rg <| ae (w_box k k k k) k <| aa k k <| an <| tn <| sQ <| sQ <| rg ?_
 refine aa k k <| an <| tn <| ac_block ?_
 obtain ⟨y9, hy9, h⟩ := ob h
 refine ac_Lp (body := (m_spec_IsQuiver_L1 a0)) hy9 (fun (x1 : Int) => mkS [(1, .ptr 0 0 0), (3, .int x1)] [(0, ⟨3, [[.int a0.n, .list 1 (List.map eI a0.src), .list 1 (List.map eI a0.tgt)]]⟩)] 1 [1, 2]) (fun r e t => Sum.elim (fun a => (fun r e t => e = .exit 0 ∧ Ent t (mkS [(1, .ptr 0 0 0)] [(0, ⟨3, [[.int a0.n, .list 1 (List.map eI a0.src), .list 1 (List.map eI a0.tgt)]]⟩)] 1 [1, 2])) a e t) (fun b => (fun r e t => e = .ret ∧ RetQ TT [.tmp 2] (.bl r) .ret t) b e t) r) (ent_mk (σ := sg [(0, 0)]) ⟨(pE k k), (e1 k k), trivial⟩ (hP k k k k <| trivial) k) ?_ ?_
 ·intro x1 o h
  refine sQ <| sQ <| rg <| am k k <| ae (w_field_ptr TT_ok k k k k k k k) k <| ae (w_load_ptr TT_ok k k k k k k k) k <| ae (lenL TT_ok k k k) k <| ae (w_cmp k k k) k <| am k k ?_
  rcases cb h with ⟨q1, h⟩ | ⟨q1, h⟩
  ·refine aops_lit 9 k q1 <| am k k <| ae (w_field_ptr TT_ok k k k k k k k) k <| ae (w_load_ptr TT_ok k k k k k k k) k <| ae (lenL TT_ok k k k) k <| ae (w_cmp k k k) k <| ae (eff_pick k k) k <| an <| tn <| ac_ent (t := mkS [(1, .ptr 0 0 0), (3, .int x1), (15, .bl (decide (x1 < (a0.tgt.length : Int))))] [(0, ⟨3, [[.int a0.n, .list 1 (List.map eI a0.src), .list 1 (List.map eI a0.tgt)]]⟩)] 1 [1, 2]) (ent_mk (σ := sg [(0, 0)]) ⟨(pE k k), (e1 k k), (e1 k k), trivial⟩ (hP k k k k <| trivial) k) ?_
   rcases cb h with ⟨q2, h⟩ | ⟨q2, h⟩
   ·refine ac_condT k q2 <| ac_skip <| tn <| sQ <| ac_block <| sQ <| ac_region_draw MIXX <| ae (w_field_ptr TT_ok k k k k k k k) k <| ae (w_load_ptr TT_ok k k k k k k k) k <| am k k ?_
    obtain ⟨v3, hv3, h⟩ := ob h
    refine ae (x_at_list TT_ok hv3 k k k k k k) k <| ae (w_load_ref TT_ok k k k k k k) k <| ae (w_field_ptr TT_ok k k k k k k k) k <| ae (w_load_ptr TT_ok k k k k k k k) k <| ae (x_sub k k) k ?_
    obtain ⟨v4, hv4, h⟩ := ob h
    refine ae (w_call0s (c_spec_l1In v3 0 (wr (a0.n - 1)) v4 hv4) k (va_cons (va_same k) (va_cons (va_same k) (va_cons (va_same k) va_nil)))) k <| ae (w_not k) k <| am k k ?_
    rcases cb h with ⟨q5, h⟩ | ⟨q5, h⟩
    ·refine aops_lit 28 k q5 <| ak k k <| ak k k <| ak k k <| ak k k <| ak k k <| ak k k <| ak k k <| ak k k <| ak k k ?_
     refine ak k k <| ae (eff_pick k k) k <| an ?_
     refine ⟨by kernel_rfl, ?_⟩
     refine tn <| ac_ent (t := mkS [(1, .ptr 0 0 0), (3, .int x1), (39, .bl true)] [(0, ⟨3, [[.int a0.n, .list 1 (List.map eI a0.src), .list 1 (List.map eI a0.tgt)]]⟩)] 1 [1, 2]) (ent_mk (σ := sg [(0, 0)]) ⟨(pE k k), (e1 k k), (e1 k k), trivial⟩ (hP k k k k <| trivial) k) <| ac_condT k k <| sQ <| rg <| aa k k <| an <| tn <| ac_ret <| block_ret ?_
     refine then_ret <| then_ret ?_
     obtain rfl := so h
     exact ⟨_, k, k, ret_mk k k k (fz_bl k)⟩
    ·refine aops_lit 28 k q5 <| ae (w_field_ptr TT_ok k k k k k k k) k <| ae (w_load_ptr TT_ok k k k k k k k) k <| am k k ?_
     obtain ⟨v6, hv6, h⟩ := ob h
     refine ae (x_at_list TT_ok hv6 k k k k k k) k <| ae (w_load_ref TT_ok k k k k k k) k <| ae (w_field_ptr TT_ok k k k k k k k) k <| ae (w_load_ptr TT_ok k k k k k k k) k <| ae (x_sub k k) k ?_
     obtain ⟨v7, hv7, h⟩ := ob h
     refine ae (w_call0s (c_spec_l1In v6 0 (wr (a0.n - 1)) v7 hv7) k (va_cons (va_same k) (va_cons (va_same k) (va_cons (va_same k) va_nil)))) k <| ae (w_not k) k <| ae (eff_pick k k) k <| an ?_
     refine ⟨by kernel_rfl, ?_⟩
     refine tn <| ac_ent (t := mkS [(1, .ptr 0 0 0), (3, .int x1), (39, .bl (!v7))] [(0, ⟨3, [[.int a0.n, .list 1 (List.map eI a0.src), .list 1 (List.map eI a0.tgt)]]⟩)] 1 [1, 2]) (ent_mk (σ := sg [(0, 0)]) ⟨(pE k k), (e1 k k), (e1 k k), trivial⟩ (hP k k k k <| trivial) k) ?_
     rcases cb h with ⟨q8, h⟩ | ⟨q8, h⟩
     ·refine ac_condT k q8 <| sQ <| rg <| aa k k <| an <| tn <| ac_ret <| block_ret <| then_ret <| then_ret ?_
      obtain rfl := so h
      exact ⟨_, k, k, ret_mk k k k (fz_bl k)⟩
     ·refine ac_condF k q8 <| ac_skip <| block_n <| tn <| rg <| am k k <| ae (x_add k k) k <| aa k k <| an <| tn ?_
      obtain rfl := so h
      exact ⟨_, k, (ent_mk (σ := sg [(0, 0)]) ⟨(pE k k), (e1 k k), trivial⟩ (hP k k k k <| trivial) k)⟩
   ·refine ac_condF k q2 <| ac_exit <| then_exit <| then_exit ?_
    obtain rfl := so h
    exact ⟨_, k, k, (ent_mk (σ := sg [(0, 0)]) ⟨(pE k k), trivial⟩ (hP k k k k <| trivial) k)⟩
  ·refine aops_lit 9 k q1 <| ak k k <| ak k k <| ak k k <| ak k k <| ak k k <| ae (eff_pick k k) k <| an <| tn <| ac_ent (t := mkS [(1, .ptr 0 0 0), (3, .int x1), (15, .bl false)] [(0, ⟨3, [[.int a0.n, .list 1 (List.map eI a0.src), .list 1 (List.map eI a0.tgt)]]⟩)] 1 [1, 2]) (ent_mk (σ := sg [(0, 0)]) ⟨(pE k k), (e1 k k), (e1 k k), trivial⟩ (hP k k k k <| trivial) k) ?_
   refine ac_condF k k <| ac_exit <| then_exit <| then_exit ?_
   obtain rfl := so h
   exact ⟨_, k, k, (ent_mk (σ := sg [(0, 0)]) ⟨(pE k k), trivial⟩ (hP k k k k <| trivial) k)⟩
 ·intro e t hX
  rcases y9 with y10 | y14
  ·obtain ⟨rfl, hent⟩ := hX
   refine block_here <| tn <| ac_ent hent <| sQ <| rg <| ae (w_field_ptr TT_ok k k k k k k k) k <| ae (w_load_ptr TT_ok k k k k k k k) k ?_
   obtain ⟨v11, hv11, h⟩ := ob h
   refine ae (w_call0s (c_spec_l1In a0.n 1 5 v11 hv11) k (va_cons (va_same k) (va_cons (va_same k) (va_cons (va_same k) va_nil)))) k <| am k k ?_
   rcases cb h with ⟨q12, h⟩ | ⟨q12, h⟩
   ·refine aops_lit 43 k q12 <| ae (w_field_ptr TT_ok k k k k k k k) k <| ae (w_load_ptr TT_ok k k k k k k k) k <| ae (lenL TT_ok k k k) k <| ae (w_cmp k k k) k <| ae (eff_pick k k) k <| am k k ?_
    rcases cb h with ⟨q13, h⟩ | ⟨q13, h⟩
    ·refine aops_lit 49 k q13 <| ae (w_field_ptr TT_ok k k k k k k k) k <| ae (w_load_ptr TT_ok k k k k k k k) k <| ae (lenL TT_ok k k k) k <| ae (w_field_ptr TT_ok k k k k k k k) k <| ae (w_load_ptr TT_ok k k k k k k k) k <| ae (lenL TT_ok k k k) k <| ae (w_cmp k k k) k <| ae (eff_pick k k) k <| aa k k ?_
     refine an <| tn <| ac_ent (t := mkS [(2, .bl (decide ((a0.tgt.length : Int) = (a0.src.length : Int))))] [] 1 [1, 2]) (ent_mk (σ := sg []) ⟨(e1 k k), trivial⟩ trivial k) <| ac_ret ?_
     obtain rfl := so h
     exact ret_mk k k k (fz_bl k)
    ·refine aops_lit 49 k q13 <| ak k k <| ak k k <| ak k k <| ak k k <| ak k k <| ak k k <| ak k k <| ae (eff_pick k k) k <| aa k k ?_
     refine an <| tn <| ac_ent (t := mkS [(2, .bl false)] [] 1 [1, 2]) (ent_mk (σ := sg []) ⟨(e1 k k), trivial⟩ trivial k) <| ac_ret ?_
     obtain rfl := so h
     exact ret_mk k k k (fz_bl k)
   ·refine aops_lit 43 k q12 <| ak k k <| ak k k <| ak k k <| ak k k <| ae (eff_pick k k) k <| am k k <| ak k k <| ak k k <| ak k k ?_
    refine ak k k <| ak k k <| ak k k <| ak k k <| ae (eff_pick k k) k <| aa k k <| an <| tn <| ac_ent (t := mkS [(2, .bl false)] [] 1 [1, 2]) (ent_mk (σ := sg []) ⟨(e1 k k), trivial⟩ trivial k) <| ac_ret ?_
    obtain rfl := so h
    exact ret_mk k k k (fz_bl k)
  ·obtain ⟨rfl, hent⟩ := hX
   refine block_ret <| then_ret ?_
   obtain rfl := so h
   exact hent

noncomputable def m_slices_IndexFunc_Lint_int_L1 (a0 : (List Int)) (a1 : (Int → Option Bool)) (x1 : Int) : Option (Int ⊕ (Unit ⊕ Int)) :=
  bif decide (x1 < (a0.length : Int)) then
    (Option.bind (atL a0 x1) fun v2 =>
    Option.bind (a1 v2) fun v3 =>
    bif v3 then
      (some (.inr (.inr (x1))))
    else
      (some (.inl (wr (x1 + 1)))))
  else
    (some (.inr (.inl ())))

noncomputable def m_slices_IndexFunc_Lint_int (a0 : (List Int)) (a1 : (Int → Option Bool)) : Option Int :=
  Option.bind (Lp (m_slices_IndexFunc_Lint_int_L1 a0 a1) 0) fun y5 =>
  Sum.elim (fun y6 =>
    some ((-1))
  ) 
  (fun y7 =>
    some y7
  )
   y5

theorem c_slices_IndexFunc_Lint_int (a0 : (List Int)) (a1 : (Int → Option Bool)) {f1 : FuncId} {c1 : List AV} (hc1 : c1.all plainD = true) (hf1 : ∀ b0 r, a1 b0 = some r → HasC Try.prog f1 ([.int b0] ++ c1) (.bl r)) (r : Int) (h : m_slices_IndexFunc_Lint_int a0 a1 = some r) : HasC Try.prog 74 [.list 1 (List.map eI a0), .fn f1 c1] (.int r) := by
 refine hasC_mk TT_ok (rvs := [.tmp 4]) (ns := [0, 1]) Try.func74 k k Try.ntmps74 k k (oa_cons k (oa_cons hc1 oa_nil)) <| sQ <| rg <| aa k k <| an <| tn <| sQ <| sQ <| rg <| am k k ?_
 refine ae (lenL TT_ok k k k) k <| am k k <| an <| tn <| ac_block ?_
 obtain ⟨y5, hy5, h⟩ := ob h
 refine ac_Lp (body := (m_slices_IndexFunc_Lint_int_L1 a0 a1)) hy5 (fun (x1 : Int) => mkS [(0, .list 1 (List.map eI a0)), (1, .fn f1 c1), (7, .int (a0.length : Int)), (8, .int x1)] [] 0 [0, 1]) (fun r e t => Sum.elim (fun a => (fun r e t => e = .exit 0 ∧ Ent t (mkS [] [] 0 [0, 1])) a e t) (fun b => (fun r e t => e = .ret ∧ RetQ TT [.tmp 4] (.int r) .ret t) b e t) r) (ent_mk (σ := sg []) ⟨⟨_, k, ⟨k, k⟩⟩, ⟨_, k, ⟨k, all2_same _ hc1⟩⟩, (e1 k k), (e1 k k), trivial⟩ trivial k) ?_ ?_
 ·intro x1 o h
  refine sQ <| rg <| ae (w_cmp k k k) k <| an <| tn <| sQ ?_
  rcases cb h with ⟨q1, h⟩ | ⟨q1, h⟩
  ·refine ac_condT k q1 <| ac_skip <| tn <| sQ <| ac_block <| sQ <| rg <| am k k <| aa k k <| an ?_
   refine tn <| sQ <| rg <| am k k <| am k k <| am k k ?_
   obtain ⟨v2, hv2, h⟩ := ob h
   refine ae (x_at_list TT_ok hv2 k k k k k k) k <| ae (w_load_ref TT_ok k k k k k k) k ?_
   obtain ⟨v3, hv3, h⟩ := ob h
   refine ae (w_callv hc1 (hf1 v2 v3 hv3) k k (va_cons (va_same k) va_nil)) k <| an <| tn ?_
   rcases cb h with ⟨q4, h⟩ | ⟨q4, h⟩
   ·refine ac_condT k q4 <| sQ <| rg <| am k k <| aa k k <| an <| tn <| ac_ret <| block_ret <| then_ret ?_
    refine then_ret ?_
    obtain rfl := so h
    exact ⟨_, k, k, ret_mk k k k (fz_int k)⟩
   ·refine ac_condF k q4 <| ac_skip <| block_n <| tn <| rg <| ae (x_add k k) k <| am k k <| an <| tn ?_
    obtain rfl := so h
    exact ⟨_, k, (ent_mk (σ := sg []) ⟨⟨_, k, ⟨k, k⟩⟩, ⟨_, k, ⟨k, all2_same _ hc1⟩⟩, (e1 k k), (e1 k k), trivial⟩ trivial k)⟩
  ·refine ac_condF k q1 <| ac_exit <| then_exit <| then_exit ?_
   obtain rfl := so h
   exact ⟨_, k, k, (ent_mk (σ := sg []) trivial trivial k)⟩
 ·intro e t hX
  rcases y5 with y6 | y7
  ·obtain ⟨rfl, hent⟩ := hX
   refine block_here <| tn <| ac_ent hent <| sQ <| rg <| aa k k <| an <| tn <| ac_ret ?_
   obtain rfl := so h
   exact ret_mk k k k (fz_int k)
  ·obtain ⟨rfl, hent⟩ := hX
   refine block_ret <| then_ret ?_
   obtain rfl := so h
   exact hent

noncomputable def m_slices_ContainsFunc_Lint_int (a0 : (List Int)) (a1 : (Int → Option Bool)) : Option Bool :=
  Option.bind (m_slices_IndexFunc_Lint_int a0 a1) fun v1 =>
  some (decide (0 ≤ v1))

theorem c_slices_ContainsFunc_Lint_int (a0 : (List Int)) (a1 : (Int → Option Bool)) {f1 : FuncId} {c1 : List AV} (hc1 : c1.all plainD = true) (hf1 : ∀ b0 r, a1 b0 = some r → HasC Try.prog f1 ([.int b0] ++ c1) (.bl r)) (r : Bool) (h : m_slices_ContainsFunc_Lint_int a0 a1 = some r) : HasC Try.prog 60 [.list 1 (List.map eI a0), .fn f1 c1] (.bl r) := by
 refine hasC_mk TT_ok (rvs := [.tmp 4]) (ns := [0, 1]) Try.func60 k k Try.ntmps60 k k (oa_cons k (oa_cons hc1 oa_nil)) <| sQ <| rg <| aa k k <| an <| tn <| sQ <| rg <| am k k <| am k k ?_
 obtain ⟨v1, hv1, h⟩ := ob h
 refine ae (w_call0s (c_slices_IndexFunc_Lint_int a0 a1 hc1 hf1 v1 hv1) k (va_cons (va_same k) (va_cons (va_fnc hc1) va_nil))) k <| ae (w_cmp k k k) k <| aa k k <| an <| tn <| ac_ret ?_
 obtain rfl := so h
 exact ret_mk k k k (fz_bl k)

noncomputable def m_impl_allWithin_1 (a0 : Int) (a1 : Int) (a2 : Int) : Option Bool :=
  Option.bind (m_impl_within a0 a1 a2) fun v1 =>
  some (!v1)

theorem c_impl_allWithin_1 (a0 : Int) (a1 : Int) (a2 : Int) (r : Bool) (h : m_impl_allWithin_1 a0 a1 a2 = some r) : HasC Try.prog 61 [.int a0, .ref (eI a1), .ref (eI a2)] (.bl r) := by
 refine hasC_mk TT_ok (rvs := [.tmp 4]) (ns := [0, 1]) Try.func61 k k Try.ntmps61 k k k <| sQ <| rg <| aa k k <| an <| tn <| sQ <| rg <| am k k <| ae (w_load_ref TT_ok k k k k k k) k ?_
 refine ae (w_load_ref TT_ok k k k k k k) k ?_
 obtain ⟨v1, hv1, h⟩ := ob h
 refine ae (w_call0s (c_impl_within a0 a1 a2 v1 hv1) k (va_cons (va_same k) (va_cons (va_same k) (va_cons (va_same k) va_nil)))) k <| ae (w_not k) k <| aa k k <| an <| tn <| ac_ret ?_
 obtain rfl := so h
 exact ret_mk k k k (fz_bl k)

noncomputable def m_impl_allWithin (a0 : (List Int)) (a1 : Int) (a2 : Int) : Option Bool :=
  Option.bind (m_slices_ContainsFunc_Lint_int a0 (fun b0 => m_impl_allWithin_1 b0 a1 a2)) fun v1 =>
  some (!v1)

theorem c_impl_allWithin (a0 : (List Int)) (a1 : Int) (a2 : Int) (r : Bool) (h : m_impl_allWithin a0 a1 a2 = some r) : HasC Try.prog 43 [.list 1 (List.map eI a0), .int a1, .int a2] (.bl r) := by
 refine hasC_mk TT_ok (rvs := [.tmp 6]) (ns := [0, 1, 2, 3]) Try.func43 k k Try.ntmps43 k k k <| sQ <| rg <| ae (w_box k k k k) k <| ae (w_box k k k k) k <| aa k k <| an <| tn <| sQ <| rg ?_
 refine am k k <| ae (eff_makeFunc (vs := [.ptr 0 0 0, .ptr 1 0 0]) k (by simp)) k ?_
 obtain ⟨v1, hv1, h⟩ := ob h
 refine ae (w_call0s (c_slices_ContainsFunc_Lint_int a0 (fun b0 => m_impl_allWithin_1 b0 a1 a2) k (fun b0 r h => c_impl_allWithin_1 b0 a1 a2 r h) v1 hv1) k (va_cons (va_same k) (va_cons (va_fn (vp_cons (vp_box k k (v1_cons (v1_same k) v1_nil)) (vp_cons (vp_box k k (v1_cons (v1_same k) v1_nil)) va_nil2))) va_nil))) k <| ae (w_not k) k <| aa k k <| an <| tn <| ac_ret ?_
 obtain rfl := so h
 exact ret_mk k k k (fz_bl k)

noncomputable def m_impl_IsQuiver (a0 : Qv) : Option Bool :=
  Option.bind (m_impl_within a0.n 1 5) fun v1 =>
  bif v1 then
    (bif decide ((a0.src.length : Int) = (a0.tgt.length : Int)) then
      (bif decide ((a0.src.length : Int) ≤ 6) then
        (Option.bind (m_impl_allWithin a0.src 0 (wr (a0.n - 1))) fun v5 =>
        bif v5 then
          (Option.bind (m_impl_allWithin a0.tgt 0 (wr (a0.n - 1))) fun v7 =>
          some (v7))
        else
          (some (false)))
      else
        (some (false)))
    else
      (some (false)))
  else
    (some (false))

theorem c_impl_IsQuiver (a0 : Qv) (r : Bool) (h : m_impl_IsQuiver a0 = some r) : HasC Try.prog 27 [.agg (eQ a0)] (.bl r) := by
 refine hasC_mk TT_ok (rvs := [.tmp 2]) (ns := [0, 1, 2]) Try.func27 k k Try.ntmps27 k k k <| sQ <| rg <| ae (w_box k k k k) k <| aa k k <| an <| tn <| sQ <| rg <| ae (w_field_ptr TT_ok k k k k k k k) k ?_
 refine ae (w_load_ptr TT_ok k k k k k k k) k ?_
 obtain ⟨v1, hv1, h⟩ := ob h
 refine ae (w_call0s (c_impl_within a0.n 1 5 v1 hv1) k (va_cons (va_same k) (va_cons (va_same k) (va_cons (va_same k) va_nil)))) k <| am k k ?_
 rcases cb h with ⟨q2, h⟩ | ⟨q2, h⟩
 ·refine aops_lit 6 k q2 <| ae (w_field_ptr TT_ok k k k k k k k) k <| ae (w_load_ptr TT_ok k k k k k k k) k <| ae (lenL TT_ok k k k) k <| ae (w_field_ptr TT_ok k k k k k k k) k <| ae (w_load_ptr TT_ok k k k k k k k) k <| ae (lenL TT_ok k k k) k <| ae (w_cmp k k k) k <| ae (eff_pick k k) k <| am k k ?_
  rcases cb h with ⟨q3, h⟩ | ⟨q3, h⟩
  ·refine aops_lit 15 k q3 <| ae (w_field_ptr TT_ok k k k k k k k) k <| ae (w_load_ptr TT_ok k k k k k k k) k <| ae (lenL TT_ok k k k) k <| ae (w_cmp k k k) k <| ae (eff_pick k k) k <| am k k ?_
   rcases cb h with ⟨q4, h⟩ | ⟨q4, h⟩
   ·refine aops_lit 21 k q4 <| ae (w_field_ptr TT_ok k k k k k k k) k <| ae (w_load_ptr TT_ok k k k k k k k) k <| ae (w_field_ptr TT_ok k k k k k k k) k <| ae (w_load_ptr TT_ok k k k k k k k) k <| ae (x_sub k k) k ?_
    obtain ⟨v5, hv5, h⟩ := ob h
    refine ae (w_call0s (c_impl_allWithin a0.src 0 (wr (a0.n - 1)) v5 hv5) k (va_cons (va_same k) (va_cons (va_same k) (va_cons (va_same k) va_nil)))) k <| ae (eff_pick k k) k <| am k k ?_
    rcases cb h with ⟨q6, h⟩ | ⟨q6, h⟩
    ·refine aops_lit 29 k q6 <| ae (w_field_ptr TT_ok k k k k k k k) k <| ae (w_load_ptr TT_ok k k k k k k k) k <| ae (w_field_ptr TT_ok k k k k k k k) k <| ae (w_load_ptr TT_ok k k k k k k k) k <| ae (x_sub k k) k ?_
     obtain ⟨v7, hv7, h⟩ := ob h
     refine ae (w_call0s (c_impl_allWithin a0.tgt 0 (wr (a0.n - 1)) v7 hv7) k (va_cons (va_same k) (va_cons (va_same k) (va_cons (va_same k) va_nil)))) k <| ae (eff_pick k k) k <| aa k k <| an <| tn <| ac_ent (t := mkS [(2, .bl v7)] [] 1 [1, 2]) (ent_mk (σ := sg []) ⟨(e1 k k), trivial⟩ trivial k) <| ac_ret ?_
     obtain rfl := so h
     exact ret_mk k k k (fz_bl k)
    ·refine aops_lit 29 k q6 <| ak k k <| ak k k <| ak k k <| ak k k <| ak k k <| ak k k <| ae (eff_pick k k) k <| aa k k <| an ?_
     refine tn <| ac_ent (t := mkS [(2, .bl false)] [] 1 [1, 2]) (ent_mk (σ := sg []) ⟨(e1 k k), trivial⟩ trivial k) <| ac_ret ?_
     obtain rfl := so h
     exact ret_mk k k k (fz_bl k)
   ·refine aops_lit 21 k q4 <| ak k k <| ak k k <| ak k k <| ak k k <| ak k k <| ak k k <| ae (eff_pick k k) k <| am k k <| ak k k ?_
    refine ak k k <| ak k k <| ak k k <| ak k k <| ak k k <| ae (eff_pick k k) k <| aa k k <| an <| tn <| ac_ent (t := mkS [(2, .bl false)] [] 1 [1, 2]) (ent_mk (σ := sg []) ⟨(e1 k k), trivial⟩ trivial k) ?_
    refine ac_ret ?_
    obtain rfl := so h
    exact ret_mk k k k (fz_bl k)
  ·refine aops_lit 15 k q3 <| ak k k <| ak k k <| ak k k <| ak k k <| ae (eff_pick k k) k <| am k k <| ak k k <| ak k k <| ak k k ?_
   refine ak k k <| ak k k <| ak k k <| ae (eff_pick k k) k <| am k k <| ak k k <| ak k k <| ak k k <| ak k k <| ak k k ?_
   refine ak k k <| ae (eff_pick k k) k <| aa k k <| an <| tn <| ac_ent (t := mkS [(2, .bl false)] [] 1 [1, 2]) (ent_mk (σ := sg []) ⟨(e1 k k), trivial⟩ trivial k) <| ac_ret ?_
   obtain rfl := so h
   exact ret_mk k k k (fz_bl k)
 ·refine aops_lit 6 k q2 <| ak k k <| ak k k <| ak k k <| ak k k <| ak k k <| ak k k <| ak k k <| ae (eff_pick k k) k <| am k k ?_
  refine ak k k <| ak k k <| ak k k <| ak k k <| ae (eff_pick k k) k <| am k k <| ak k k <| ak k k <| ak k k <| ak k k ?_
  refine ak k k <| ak k k <| ae (eff_pick k k) k <| am k k <| ak k k <| ak k k <| ak k k <| ak k k <| ak k k <| ak k k ?_
  refine ae (eff_pick k k) k <| aa k k <| an <| tn <| ac_ent (t := mkS [(2, .bl false)] [] 1 [1, 2]) (ent_mk (σ := sg []) ⟨(e1 k k), trivial⟩ trivial k) <| ac_ret ?_
  obtain rfl := so h
  exact ret_mk k k k (fz_bl k)

noncomputable def m_slices_Concat_Lint_int_L1 (a0 : (List (List Int))) (x1 : (Int × Int)) : Option ((Int × Int) ⊕ Int) :=
  bif decide (x1.2 < (a0.length : Int)) then
    (Option.bind (atL a0 x1.2) fun v2 =>
    bif decide (wr (x1.1 + (v2.length : Int)) < 0) then
      (none)
    else
      (some (.inl (wr (x1.1 + (v2.length : Int)), wr (x1.2 + 1)))))
  else
    (some (.inr x1.1))

noncomputable def m_slices_Concat_Lint_int_L2 (a0 : (List (List Int))) (x2 : ((List Int) × Int)) : Option (((List Int) × Int) ⊕ (List Int)) :=
  bif decide (x2.2 < (a0.length : Int)) then
    (Option.bind (atL a0 x2.2) fun v7 =>
    bif decide (x2.1.length + v7.length ≤ 4294967296) then
      (some (.inl ((x2.1 ++ v7), wr (x2.2 + 1))))
    else none)
  else
    (some (.inr x2.1))

noncomputable def m_slices_Concat_Lint_int (a0 : (List (List Int))) : Option (List Int) :=
  Option.bind (Lp (m_slices_Concat_Lint_int_L1 a0) (0, 0)) fun y4 =>
  Option.bind (m_Grow y4) fun v5 =>
  Option.bind (Lp (m_slices_Concat_Lint_int_L2 a0) (v5, 0)) fun y9 =>
  some (y9)

theorem c_slices_Concat_Lint_int (a0 : (List (List Int))) (r : (List Int)) (h : m_slices_Concat_Lint_int a0 = some r) : HasC Try.prog 44 [.list 1 (List.map (eLs 1 eI) a0)] (.list 1 (List.map eI r)) := by
 refine hasC_mk TT_ok (rvs := [.tmp 2]) (ns := [0, 1, 2, 3]) Try.func44 k k Try.ntmps44 k k k <| sQ <| rg <| aa k k <| an <| tn <| sQ <| rg <| aa k k <| an ?_
 refine tn <| sQ <| sQ <| rg <| am k k <| ae (lenL TT_ok k k k) k <| am k k <| an <| tn <| ac_block ?_
 obtain ⟨y4, hy4, h⟩ := ob h
 refine ac_Lp (body := (m_slices_Concat_Lint_int_L1 a0)) hy4 (fun (x1 : (Int × Int)) => mkS [(0, .list 1 (List.map (eLs 1 eI) a0)), (3, .int x1.1), (9, .list 1 (List.map (eLs 1 eI) a0)), (10, .int (a0.length : Int)), (11, .int x1.2)] [] 0 [0, 1, 2, 3]) (fun r e t => e = .exit 0 ∧ Ent t (mkS [(0, .list 1 (List.map (eLs 1 eI) a0)), (3, .int r)] [] 0 [0, 1, 2, 3])) (ent_mk (σ := sg []) ⟨⟨_, k, ⟨k, k⟩⟩, (e1 k k), ⟨_, k, ⟨k, k⟩⟩, (e1 k k), (e1 k k), trivial⟩ trivial k) ?_ ?_
 ·intro x1 o h
  refine sQ <| rg <| ae (w_cmp k k k) k <| an <| tn <| sQ ?_
  rcases cb h with ⟨q1, h⟩ | ⟨q1, h⟩
  ·refine ac_condT k q1 <| ac_skip <| tn <| sQ <| ac_block <| sQ <| rg ?_
   obtain ⟨v2, hv2, h⟩ := ob h
   refine ae (x_at_list TT_ok hv2 k k k k k k) k <| ae (w_load_ref TT_ok k k k k k k) k <| aa k k <| an <| tn <| sQ <| rg <| am k k <| am k k <| ae (lenL TT_ok k k k) k ?_
   refine ae (x_add k k) k <| aa k k <| an <| tn <| sQ <| rg <| am k k <| ae (w_cmp k k k) k <| an <| tn ?_
   rcases cb h with ⟨q3, h⟩ | ⟨q3, h⟩
   ·refine ac_condT k q3 <| rg ?_
    cases h
   ·refine ac_condF k q3 <| ac_skip <| block_n <| tn <| rg <| ae (x_add k k) k <| am k k <| an <| tn ?_
    obtain rfl := so h
    exact ⟨_, k, (ent_mk (σ := sg []) ⟨⟨_, k, ⟨k, k⟩⟩, (e1 k k), ⟨_, k, ⟨k, k⟩⟩, (e1 k k), (e1 k k), trivial⟩ trivial k)⟩
  ·refine ac_condF k q1 <| ac_exit <| then_exit <| then_exit ?_
   obtain rfl := so h
   exact ⟨_, k, k, (ent_mk (σ := sg []) ⟨⟨_, k, ⟨k, k⟩⟩, (e1 k k), trivial⟩ trivial k)⟩
 ·rintro e t ⟨rfl, hent⟩
  refine block_here <| tn <| ac_ent hent <| sQ <| rg <| am k k ?_
  obtain ⟨v5, hv5, h⟩ := ob h
  refine ae (AEff.conv (w_call0 (x := .own 0 0 (List.map eI v5).length) (nb := [(0, ⟨1, absEs (List.map eI v5)⟩)]) (c_Grow y4 v5 hv5) k (by rfl) k k (okI.good _) (va_cons va_nilS (va_cons (va_same k) va_nil))) (v' := .own 0 0 v5.length) (ed' := [(0, some ⟨1, List.map (ow eI) v5⟩)]) (by simp only [len_map]) (ed_ok (nb' := [(0, ⟨1, List.map (ow eI) v5⟩)]) (by simp only [abs_map]))) k <| aa k k <| an <| tn <| sQ <| sQ <| rg <| am k k <| ae (lenL TT_ok k k k) k <| am k k ?_
  refine an <| tn <| ac_block ?_
  obtain ⟨y9, hy9, h⟩ := ob h
  refine ac_Lp (body := (m_slices_Concat_Lint_int_L2 a0)) hy9 (fun (x2 : ((List Int) × Int)) => mkS [(6, .own 0 0 x2.1.length), (25, .list 1 (List.map (eLs 1 eI) a0)), (26, .int (a0.length : Int)), (27, .int x2.2)] [(0, ⟨1, List.map (ow eI) x2.1⟩)] 1 [1, 2, 3]) (fun r e t => e = .exit 2 ∧ Ent t (mkS [(6, .own 0 0 r.length)] [(0, ⟨1, List.map (ow eI) r⟩)] 1 [1, 2, 3])) (ent_mk (σ := sg [(0, 0)]) ⟨(oE k k), ⟨_, k, ⟨k, k⟩⟩, (e1 k k), (e1 k k), trivial⟩ (hI k k k <| trivial) k) ?_ ?_
  ·intro x2 o h
   refine sQ <| rg <| ae (w_cmp k k k) k <| an <| tn <| sQ ?_
   rcases cb h with ⟨q6, h⟩ | ⟨q6, h⟩
   ·refine ac_condT k q6 <| ac_skip <| tn <| sQ <| ac_block <| sQ <| rg ?_
    obtain ⟨v7, hv7, h⟩ := ob h
    refine ae (x_at_list TT_ok hv7 k k k k k k) k <| ae (w_load_ref TT_ok k k k k k k) k <| aa k k <| an <| tn <| rg <| am k k <| am k k ?_
    obtain ⟨q8, h⟩ := cg h
    refine ae (x_app TT_ok (l := x2.1) (m := v7) okIo q8 k k k k k k k k k k k k) k <| aa k k <| an <| block_n <| tn <| rg <| ae (x_add k k) k <| am k k <| an <| tn ?_
    obtain rfl := so h
    exact ⟨_, k, (ent_mk (σ := sg [(0, 1)]) ⟨(oE k k), ⟨_, k, ⟨k, k⟩⟩, (e1 k k), (e1 k k), trivial⟩ (hI k k k <| trivial) k)⟩
   ·refine ac_condF k q6 <| ac_exit <| then_exit <| then_exit ?_
    obtain rfl := so h
    exact ⟨_, k, k, (ent_mk (σ := sg [(0, 0)]) ⟨(oE k k), trivial⟩ (hI k k k <| trivial) k)⟩
  ·rintro e t ⟨rfl, hent⟩
   refine block_here <| tn <| ac_ent hent <| sQ <| rg <| am k k <| aa k k <| an <| tn <| ac_ret ?_
   obtain rfl := so h
   exact ret_mk k k k (xz_list (x_f1 okI k k))

noncomputable def m_spec_l18Vector_L1 (a1 : (List Int)) (x1 : Int) : Option (Int ⊕ (Unit ⊕ Bool)) :=
  bif decide (x1 < (a1.length : Int)) then
    (Option.bind (atL a1 x1) fun v2 =>
    Option.bind (m_spec_l1In v2 (-100) 100) fun v3 =>
    bif !v3 then
      (some (.inr (.inr (false))))
    else
      (some (.inl (wr (x1 + 1)))))
  else
    (some (.inr (.inl ())))

noncomputable def m_spec_l18Vector (a0 : Qv) (a1 : (List Int)) : Option Bool :=
  Option.bind (Lp (m_spec_l18Vector_L1 a1) 0) fun y5 =>
  Sum.elim (fun y6 =>
    Option.bind (m_spec_IsQuiver a0) fun v7 =>
    bif v7 then
      (some (decide ((a1.length : Int) = a0.n)))
    else
      (some (false))
  ) 
  (fun y9 =>
    some y9
  )
   y5

theorem c_spec_l18Vector (a0 : Qv) (a1 : (List Int)) (r : Bool) (h : m_spec_l18Vector a0 a1 = some r) : HasC Try.prog 39 [.agg (eQ a0), .list 1 (List.map eI a1)] (.bl r) := by
 refine hasC_mk TT_ok (rvs := [.tmp 4]) (ns := [0, 1, 2]) Try.func39 k k Try.ntmps39 k k k <| sQ <| rg <| ae (w_box k k k k) k <| aa k k <| an <| tn <| sQ <| sQ <| rg ?_
 refine aa k k <| an <| tn <| ac_block ?_
 obtain ⟨y5, hy5, h⟩ := ob h
 refine ac_Lp (body := (m_spec_l18Vector_L1 a1)) hy5 (fun (x1 : Int) => mkS [(1, .list 1 (List.map eI a1)), (2, .ptr 0 0 0), (5, .int x1)] [(0, ⟨3, [[.int a0.n, .list 1 (List.map eI a0.src), .list 1 (List.map eI a0.tgt)]]⟩)] 1 [1, 2]) (fun r e t => Sum.elim (fun a => (fun r e t => e = .exit 0 ∧ Ent t (mkS [(1, .list 1 (List.map eI a1)), (2, .ptr 0 0 0)] [(0, ⟨3, [[.int a0.n, .list 1 (List.map eI a0.src), .list 1 (List.map eI a0.tgt)]]⟩)] 1 [1, 2])) a e t) (fun b => (fun r e t => e = .ret ∧ RetQ TT [.tmp 4] (.bl r) .ret t) b e t) r) (ent_mk (σ := sg [(0, 0)]) ⟨⟨_, k, ⟨k, k⟩⟩, (pE k k), (e1 k k), trivial⟩ (hP k k k k <| trivial) k) ?_ ?_
 ·intro x1 o h
  refine sQ <| sQ <| rg <| am k k <| am k k <| ae (lenL TT_ok k k k) k <| ae (w_cmp k k k) k <| an <| tn ?_
  rcases cb h with ⟨q1, h⟩ | ⟨q1, h⟩
  ·refine ac_condT k q1 <| ac_skip <| tn <| sQ <| ac_block <| sQ <| rg <| am k k <| am k k ?_
   obtain ⟨v2, hv2, h⟩ := ob h
   refine ae (x_at_list TT_ok hv2 k k k k k k) k <| ae (w_load_ref TT_ok k k k k k k) k ?_
   obtain ⟨v3, hv3, h⟩ := ob h
   refine ae (w_call0s (c_spec_l1In v2 (-100) 100 v3 hv3) k (va_cons (va_same k) (va_cons (va_same k) (va_cons (va_same k) va_nil)))) k <| ae (w_not k) k <| an <| tn ?_
   rcases cb h with ⟨q4, h⟩ | ⟨q4, h⟩
   ·refine ac_condT k q4 <| sQ <| rg <| aa k k <| an <| tn <| ac_ret <| block_ret <| then_ret <| then_ret ?_
    obtain rfl := so h
    exact ⟨_, k, k, ret_mk k k k (fz_bl k)⟩
   ·refine ac_condF k q4 <| ac_skip <| block_n <| tn <| rg <| am k k <| ae (x_add k k) k <| aa k k <| an <| tn ?_
    obtain rfl := so h
    exact ⟨_, k, (ent_mk (σ := sg [(0, 0)]) ⟨⟨_, k, ⟨k, k⟩⟩, (pE k k), (e1 k k), trivial⟩ (hP k k k k <| trivial) k)⟩
  ·refine ac_condF k q1 <| ac_exit <| then_exit <| then_exit ?_
   obtain rfl := so h
   exact ⟨_, k, k, (ent_mk (σ := sg [(0, 0)]) ⟨⟨_, k, ⟨k, k⟩⟩, (pE k k), trivial⟩ (hP k k k k <| trivial) k)⟩
 ·intro e t hX
  rcases y5 with y6 | y9
  ·obtain ⟨rfl, hent⟩ := hX
   refine block_here <| tn <| ac_ent hent <| sQ <| rg <| ae (w_load_ptr TT_ok k k k k k k k) k ?_
   obtain ⟨v7, hv7, h⟩ := ob h
   refine ae (w_call0s (c_spec_IsQuiver a0 v7 hv7) k (va_cons (va_agg' (v1_cons (v1_same k) (v1_cons (v1_same k) (v1_cons (v1_same k) v1_nil)))) va_nil)) k <| am k k ?_
   rcases cb h with ⟨q8, h⟩ | ⟨q8, h⟩
   ·refine aops_lit 20 k q8 <| am k k <| ae (lenL TT_ok k k k) k <| ae (w_field_ptr TT_ok k k k k k k k) k <| ae (w_load_ptr TT_ok k k k k k k k) k <| ae (w_cmp k k k) k <| ae (eff_pick k k) k <| aa k k <| an <| tn ?_
    refine ac_ret ?_
    obtain rfl := so h
    exact ret_mk k k k (fz_bl k)
   ·refine aops_lit 20 k q8 <| ak k k <| ak k k <| ak k k <| ak k k <| ak k k <| ae (eff_pick k k) k <| aa k k <| an <| tn ?_
    refine ac_ret ?_
    obtain rfl := so h
    exact ret_mk k k k (fz_bl k)
  ·obtain ⟨rfl, hent⟩ := hX
   refine block_ret <| then_ret ?_
   obtain rfl := so h
   exact hent

noncomputable def m_spec_l20Reflect_L1 (a0 : (List (List Int))) (a1 : (List Int)) (a2 : Int) (x1 : (Int × Int)) : Option ((Int × Int) ⊕ Int) :=
  bif decide (x1.2 < (a1.length : Int)) then
    (Option.bind (atL a0 a2) fun v3 =>
    Option.bind (atL v3 x1.2) fun v4 =>
    Option.bind (atL a1 x1.2) fun v5 =>
    some (.inl (wr (x1.1 + (wr (v4 * v5))), wr (x1.2 + 1))))
  else
    (some (.inr x1.1))

noncomputable def m_spec_l20Reflect (a0 : (List (List Int))) (a1 : (List Int)) (a2 : Int) : Option (List Int) :=
  bif decide (([] : (List Int)).length + a1.length ≤ 4294967296) then
    (Option.bind (Lp (m_spec_l20Reflect_L1 a0 a1 a2) (0, 0)) fun y6 =>
    Option.bind (atL (([] : (List Int)) ++ a1) a2) fun v7 =>
    Option.bind (atL (([] : (List Int)) ++ a1) a2) fun v8 =>
    some (((([] : (List Int)) ++ a1).set a2.toNat (wr (v7 - y6)))))
  else none

theorem c_spec_l20Reflect (a0 : (List (List Int))) (a1 : (List Int)) (a2 : Int) (r : (List Int)) (h : m_spec_l20Reflect a0 a1 a2 = some r) : HasC Try.prog 73 [.list 1 (List.map (eLs 1 eI) a0), .list 1 (List.map eI a1), .int a2] (.list 1 (List.map eI r)) := by
 refine hasC_mk TT_ok (rvs := [.tmp 6]) (ns := [0, 1, 2, 3]) Try.func73 k k Try.ntmps73 k k k <| sQ <| rg <| aa k k <| an <| tn <| sQ <| rg <| ae (w_lit TT_ok k k k k k k k k k k k k) k <| am k k ?_
 obtain ⟨q1, h⟩ := cg h
 refine ae (x_app TT_ok (l := ([] : (List Int))) (m := a1) okIo q1 k k k k k k k k k k k k) k <| aa k k <| an <| tn <| sQ <| rg <| aa k k <| an <| tn <| sQ ?_
 refine sQ <| rg <| aa k k <| an <| tn <| ac_block ?_
 obtain ⟨y6, hy6, h⟩ := ob h
 refine ac_Lp (body := (m_spec_l20Reflect_L1 a0 a1 a2)) hy6 (fun (x1 : (Int × Int)) => mkS [(0, .list 1 (List.map (eLs 1 eI) a0)), (1, .list 1 (List.map eI a1)), (2, .int a2), (7, .own 0 0 ((([] : (List Int)) ++ a1).length)), (8, .int x1.1), (9, .int x1.2)] [(0, ⟨1, List.map (ow eI) (([] : (List Int)) ++ a1)⟩)] 1 [1, 2, 3]) (fun r e t => e = .exit 0 ∧ Ent t (mkS [(2, .int a2), (7, .own 0 0 ((([] : (List Int)) ++ a1).length)), (8, .int r)] [(0, ⟨1, List.map (ow eI) (([] : (List Int)) ++ a1)⟩)] 1 [1, 2, 3])) (ent_mk (σ := sg [(0, 1)]) ⟨⟨_, k, ⟨k, k⟩⟩, ⟨_, k, ⟨k, k⟩⟩, (e1 k k), (oE k k), (e1 k k), (e1 k k), trivial⟩ (hI k k k <| trivial) k) ?_ ?_
 ·intro x1 o h
  refine sQ <| sQ <| rg <| am k k <| am k k <| ae (lenL TT_ok k k k) k <| ae (w_cmp k k k) k <| an <| tn ?_
  rcases cb h with ⟨q2, h⟩ | ⟨q2, h⟩
  ·refine ac_condT k q2 <| ac_skip <| tn <| sQ <| ac_block <| ac_region_draw MIXX <| am k k <| am k k <| am k k ?_
   obtain ⟨v3, hv3, h⟩ := ob h
   refine ae (x_at_list TT_ok hv3 k k k k k k) k <| ae (w_load_ref TT_ok k k k k k k) k <| am k k ?_
   obtain ⟨v4, hv4, h⟩ := ob h
   refine ae (x_at_list TT_ok hv4 k k k k k k) k <| ae (w_load_ref TT_ok k k k k k k) k <| am k k <| am k k ?_
   obtain ⟨v5, hv5, h⟩ := ob h
   refine ae (x_at_list TT_ok hv5 k k k k k k) k <| ae (w_load_ref TT_ok k k k k k k) k <| ae (x_mul k k) k <| ae (x_add k k) k <| aa k k <| an ?_
   refine ⟨by kernel_rfl, ?_⟩
   refine block_n <| tn <| ac_ent (t := mkS [(0, .list 1 (List.map (eLs 1 eI) a0)), (1, .list 1 (List.map eI a1)), (2, .int a2), (7, .own 0 0 ((([] : (List Int)) ++ a1).length)), (8, .int (wr (x1.1 + (wr (v4 * v5))))), (9, .int x1.2)] [(0, ⟨1, List.map (ow eI) (([] : (List Int)) ++ a1)⟩)] 1 [1, 2, 3]) (ent_mk (σ := sg [(0, 0)]) ⟨⟨_, k, ⟨k, k⟩⟩, ⟨_, k, ⟨k, k⟩⟩, (e1 k k), (oE k k), (e1 k k), (e1 k k), trivial⟩ (hI k k k <| trivial) k) <| rg <| am k k <| ae (x_add k k) k <| aa k k <| an <| tn ?_
   obtain rfl := so h
   exact ⟨_, k, (ent_mk (σ := sg [(0, 0)]) ⟨⟨_, k, ⟨k, k⟩⟩, ⟨_, k, ⟨k, k⟩⟩, (e1 k k), (oE k k), (e1 k k), (e1 k k), trivial⟩ (hI k k k <| trivial) k)⟩
  ·refine ac_condF k q2 <| ac_exit <| then_exit <| then_exit ?_
   obtain rfl := so h
   exact ⟨_, k, k, (ent_mk (σ := sg [(0, 0)]) ⟨(e1 k k), (oE k k), (e1 k k), trivial⟩ (hI k k k <| trivial) k)⟩
 ·rintro e t ⟨rfl, hent⟩
  refine block_here <| tn <| ac_ent hent <| sQ <| rg <| am k k <| am k k <| am k k <| am k k ?_
  obtain ⟨v7, hv7, h⟩ := ob h
  refine ae (x_at_own TT_ok (atL_nn hv7) (atL_lt hv7) k k k k k k k) k <| ae (w_load_ptr TT_ok k k k k (map_at (atL_get hv7)) k k) k <| am k k <| ae (x_sub k k) k ?_
  obtain ⟨v8, hv8, h⟩ := ob h
  refine ae (x_at_own TT_ok (atL_nn hv8) (atL_lt hv8) k k k k k k k) k <| ae (x_store TT_ok okIo (u := wr (v7 - y6)) (atL_get hv8) k k k k k k) k <| an <| tn <| sQ <| rg <| am k k <| aa k k <| an <| tn ?_
  refine ac_ent (t := mkS [(6, .own 0 0 (((([] : (List Int)) ++ a1).set a2.toNat (wr (v7 - y6))).length))] [(0, ⟨1, List.map (ow eI) ((([] : (List Int)) ++ a1).set a2.toNat (wr (v7 - y6)))⟩)] 1 [1, 2, 3]) (ent_mk (σ := sg [(0, 0)]) ⟨⟨_, k, ⟨k, k, (by simp only [len_map, lA, lT, lR, lC, lN]), k⟩⟩, trivial⟩ (hI k k k <| trivial) k) <| ac_ret ?_
  obtain rfl := so h
  exact ret_mk k k k (xz_list (x_f1 okI k k))

noncomputable def m_impl_Quiver_hasVertex (a0 : Qv) (a1 : Int) : Option Bool :=
  Option.bind (m_impl_within a1 0 (wr (a0.n - 1))) fun v1 =>
  some (v1)

theorem c_impl_Quiver_hasVertex (a0 : Qv) (a1 : Int) (r : Bool) (h : m_impl_Quiver_hasVertex a0 a1 = some r) : HasC Try.prog 30 [.agg (eQ a0), .int a1] (.bl r) := by
 refine hasC_mk TT_ok (rvs := [.tmp 4]) (ns := [0, 1, 2]) Try.func30 k k Try.ntmps30 k k k <| sQ <| rg <| ae (w_box k k k k) k <| aa k k <| an <| tn <| sQ <| rg <| am k k ?_
 refine ae (w_field_ptr TT_ok k k k k k k k) k <| ae (w_load_ptr TT_ok k k k k k k k) k <| ae (x_sub k k) k ?_
 obtain ⟨v1, hv1, h⟩ := ob h
 refine ae (w_call0s (c_impl_within a1 0 (wr (a0.n - 1)) v1 hv1) k (va_cons (va_same k) (va_cons (va_same k) (va_cons (va_same k) va_nil)))) k <| aa k k <| an <| tn <| ac_ret ?_
 obtain rfl := so h
 exact ret_mk k k k (fz_bl k)

noncomputable def m_impl_determinant_L2 (a0 : (List (List Int))) (x1 : (Int × Int × Int)) (x2 : ((List (List Int)) × Int)) : Option (((List (List Int)) × Int) ⊕ (List (List Int))) :=
  bif decide (x2.2 < (((a0.drop (1 : Int).toNat).take ((a0.length : Int).toNat - (1 : Int).toNat)).length : Int)) then
    (Option.bind (atL ((a0.drop (1 : Int).toNat).take ((a0.length : Int).toNat - (1 : Int).toNat)) x2.2) fun v7 =>
    bif (decide (0 ≤ 0) && (decide (0 ≤ x1.2.2) && decide (x1.2.2 ≤ (v7.length : Int)))) then
      (bif (decide (0 ≤ wr (x1.2.2 + 1)) && (decide (wr (x1.2.2 + 1) ≤ (v7.length : Int)) && decide ((v7.length : Int) ≤ (v7.length : Int)))) then
        (Option.bind (m_slices_Concat_Lint_int [((v7.drop (0 : Int).toNat).take (x1.2.2.toNat - (0 : Int).toNat)), ((v7.drop (wr (x1.2.2 + 1)).toNat).take ((v7.length : Int).toNat - (wr (x1.2.2 + 1)).toNat))]) fun v10 =>
        bif decide (x2.1.length + 1 ≤ 4294967296) then
          (some (.inl ((x2.1 ++ [v10]), wr (x2.2 + 1))))
        else none)
      else none)
    else none)
  else
    (some (.inr x2.1))

noncomputable def m_impl_determinant_L1 (self : ((List (List Int)) → Option Int)) (a0 : (List (List Int))) (v2 : (List Int)) (x1 : (Int × Int × Int)) : Option ((Int × Int × Int) ⊕ Int) :=
  bif decide (x1.2.2 < (v2.length : Int)) then
    (Option.bind (atL v2 x1.2.2) fun v4 =>
    bif (decide (0 ≤ 1) && (decide (1 ≤ (a0.length : Int)) && decide ((a0.length : Int) ≤ (a0.length : Int)))) then
      (Option.bind (Lp (m_impl_determinant_L2 a0 x1) ([], 0)) fun y12 =>
      Option.bind (self y12) fun v13 =>
      some (.inl (wr (x1.1 + (wr ((wr (x1.2.1 * v4)) * v13))), wr (-x1.2.1), wr (x1.2.2 + 1))))
    else none)
  else
    (some (.inr x1.1))

noncomputable def m_impl_determinant_b (self : (List (List Int)) → Option Int) (a0 : (List (List Int))) : Option Int :=
  bif decide ((a0.length : Int) = 0) then
    (some (1))
  else
    (Option.bind (atL a0 0) fun v2 =>
    Option.bind (Lp (m_impl_determinant_L1 self a0 v2) (0, 1, 0)) fun y14 =>
    some (y14))

noncomputable def m_impl_determinant : Nat → (List (List Int)) → Option Int
  | 0, _ => none
  | n + 1, a0 => m_impl_determinant_b (m_impl_determinant n) a0

theorem c_impl_determinant_b (self : (List (List Int)) → Option Int) (a0 : (List (List Int))) (ih : ∀ (a0 : (List (List Int))) (r : Int), self a0 = some r → HasC Try.prog 29 [.list 1 (List.map (eLs 1 eI) a0)] (.int r)) (r : Int) (h : m_impl_determinant_b self a0 = some r) : HasC Try.prog 29 [.list 1 (List.map (eLs 1 eI) a0)] (.int r) := by
 refine hasC_mk TT_ok (rvs := [.tmp 2]) (ns := [0, 1, 2, 3, 4, 5, 6]) Try.func29 k k Try.ntmps29 k k k <| sQ <| rg <| aa k k <| an <| tn <| sQ <| sQ <| rg <| am k k ?_
 refine ae (lenL TT_ok k k k) k <| ae (w_cmp k k k) k <| an <| tn ?_
 rcases cb h with ⟨q1, h⟩ | ⟨q1, h⟩
 ·refine ac_condT k q1 <| sQ <| rg <| aa k k <| an <| tn <| ac_ret <| then_ret ?_
  obtain rfl := so h
  exact ret_mk k k k (fz_int k)
 ·refine ac_condF k q1 <| ac_skip <| tn <| sQ <| rg <| aa k k <| aa k k <| an <| tn <| sQ ?_
  refine sQ <| rg <| am k k ?_
  obtain ⟨v2, hv2, h⟩ := ob h
  refine ae (x_at_list TT_ok hv2 k k k k k k) k <| ae (w_load_ref TT_ok k k k k k k) k <| ae (lenL TT_ok k k k) k <| am k k <| an <| tn <| ac_block ?_
  obtain ⟨y14, hy14, h⟩ := ob h
  refine ac_Lp (body := (m_impl_determinant_L1 self a0 v2)) hy14 (fun (x1 : (Int × Int × Int)) => mkS [(0, .list 1 (List.map (eLs 1 eI) a0)), (3, .int x1.1), (4, .int x1.2.1), (15, .list 1 (List.map eI v2)), (16, .int (v2.length : Int)), (17, .int x1.2.2)] [] 0 [0, 1, 2, 3, 4, 5, 6]) (fun r e t => e = .exit 0 ∧ Ent t (mkS [(3, .int r)] [] 0 [0, 1, 2, 3, 4, 5, 6])) (ent_mk (σ := sg []) ⟨⟨_, k, ⟨k, k⟩⟩, (e1 k k), (e1 k k), ⟨_, k, ⟨k, k⟩⟩, (e1 k k), (e1 k k), trivial⟩ trivial k) ?_ ?_
  ·intro x1 o h
   refine sQ <| rg <| ae (w_cmp k k k) k <| an <| tn <| sQ ?_
   rcases cb h with ⟨q3, h⟩ | ⟨q3, h⟩
   ·refine ac_condT k q3 <| ac_skip <| tn <| sQ <| ac_block <| sQ <| rg <| am k k ?_
    obtain ⟨v4, hv4, h⟩ := ob h
    refine ae (x_at_list TT_ok hv4 k k k k k k) k <| ae (w_load_ref TT_ok k k k k k k) k <| aa k k <| aa k k <| an <| tn <| sQ <| rg <| aa k k <| an ?_
    refine tn <| sQ <| sQ <| rg <| am k k ?_
    obtain ⟨q5, h⟩ := cg h
    refine ae (x_slice_list TT_ok (l0 := a0) (l := 1) (h := (a0.length : Int)) q5 k k k k k k k) k <| ae (AEff.val (w_len_list TT_ok k k k) (v' := .int (((a0.drop (1 : Int).toNat).take ((a0.length : Int).toNat - (1 : Int).toNat)).length : Int)) (by first | rw [len_map] | rw [encI_len])) k <| am k k <| an <| tn <| ac_block ?_
    obtain ⟨y12, hy12, h⟩ := ob h
    refine ac_Lp (body := (m_impl_determinant_L2 a0 x1)) hy12 (fun (x2 : ((List (List Int)) × Int)) => mkS [(0, .list 1 (List.map (eLs 1 eI) a0)), (3, .int x1.1), (4, .int x1.2.1), (5, .int x1.2.2), (6, .int v4), (7, .own 0 0 x2.1.length), (15, .list 1 (List.map eI v2)), (16, .int (v2.length : Int)), (17, .int x1.2.2), (23, .list 1 (List.map (eLs 1 eI) ((a0.drop (1 : Int).toNat).take ((a0.length : Int).toNat - (1 : Int).toNat)))), (24, .int (((a0.drop (1 : Int).toNat).take ((a0.length : Int).toNat - (1 : Int).toNat)).length : Int)), (25, .int x2.2)] [(0, ⟨1, List.map (ow (eLs 1 eI)) x2.1⟩)] 1 [1, 2, 3, 4, 5, 6]) (fun r e t => e = .exit 2 ∧ Ent t (mkS [(0, .list 1 (List.map (eLs 1 eI) a0)), (3, .int x1.1), (4, .int x1.2.1), (6, .int v4), (7, .own 0 0 r.length), (15, .list 1 (List.map eI v2)), (16, .int (v2.length : Int)), (17, .int x1.2.2)] [(0, ⟨1, List.map (ow (eLs 1 eI)) r⟩)] 1 [1, 2, 3, 4, 5, 6])) (ent_mk (σ := sg []) ⟨⟨_, k, ⟨k, k⟩⟩, (e1 k k), (e1 k k), (e1 k k), (e1 k k), ⟨_, k, ⟨k, k, k, k⟩⟩, ⟨_, k, ⟨k, k⟩⟩, (e1 k k), (e1 k k), ⟨_, k, ⟨k, k⟩⟩, (e1 k k), (e1 k k), trivial⟩ (hX k k <| trivial) k) ?_ ?_
    ·intro x2 o h
     refine sQ <| rg <| ae (w_cmp k k k) k <| an <| tn <| sQ ?_
     rcases cb h with ⟨q6, h⟩ | ⟨q6, h⟩
     ·refine ac_condT k q6 <| ac_skip <| tn <| sQ <| ac_block <| sQ <| rg ?_
      obtain ⟨v7, hv7, h⟩ := ob h
      refine ae (x_at_list TT_ok hv7 k k k k k k) k <| ae (w_load_ref TT_ok k k k k k k) k <| aa k k <| an <| tn <| ac_region_draw MIXX <| am k k <| am k k <| am k k ?_
      obtain ⟨q8, h⟩ := cg h
      refine ae (x_slice_list TT_ok (l0 := v7) (l := 0) (h := x1.2.2) q8 k k k k k k k) k <| am k k <| am k k <| ae (x_add k k) k ?_
      obtain ⟨q9, h⟩ := cg h
      refine ae (x_slice_list TT_ok (l0 := v7) (l := wr (x1.2.2 + 1)) (h := (v7.length : Int)) q9 k k k k k k k) k <| ae (w_lit TT_ok k k k k k k k k k k k k) k ?_
      obtain ⟨v10, hv10, h⟩ := ob h
      refine ae (AEff.conv (w_call0 (x := .own 2 0 (List.map eI v10).length) (nb := [(2, ⟨1, absEs (List.map eI v10)⟩)]) (c_slices_Concat_Lint_int [((v7.drop (0 : Int).toNat).take (x1.2.2.toNat - (0 : Int).toNat)), ((v7.drop (wr (x1.2.2 + 1)).toNat).take ((v7.length : Int).toNat - (wr (x1.2.2 + 1)).toNat))] v10 hv10) k (by rfl) k k (okI.good _) (va_cons (va_lit k k ⟨_, _, k, ⟨_, _, k, ⟨k, k⟩, k⟩, ⟨_, _, k, ⟨_, _, k, ⟨k, k⟩, k⟩, k⟩⟩) va_nil)) (v' := .own 2 0 v10.length) (ed' := [(2, some ⟨1, List.map (ow eI) v10⟩)]) (by simp only [len_map]) (ed_ok (nb' := [(2, ⟨1, List.map (ow eI) v10⟩)]) (by simp only [abs_map]))) k <| ae (w_lit TT_ok k k k k k k k k k k k k) k ?_
      obtain ⟨q11, h⟩ := cg h
      refine ae (x_app1 TT_ok (l := x2.1) (c := [.own 2 0 v10.length]) q11 k k k k k k k k k k k k k k) k <| aa k k <| an ?_
      refine ⟨by kernel_rfl, ?_⟩
      refine block_n <| tn <| ac_ent (t := mkS [(0, .list 1 (List.map (eLs 1 eI) a0)), (3, .int x1.1), (4, .int x1.2.1), (5, .int x1.2.2), (6, .int v4), (7, .own 4 0 ((x2.1 ++ [v10]).length)), (15, .list 1 (List.map eI v2)), (16, .int (v2.length : Int)), (17, .int x1.2.2), (23, .list 1 (List.map (eLs 1 eI) ((a0.drop (1 : Int).toNat).take ((a0.length : Int).toNat - (1 : Int).toNat)))), (24, .int (((a0.drop (1 : Int).toNat).take ((a0.length : Int).toNat - (1 : Int).toNat)).length : Int)), (25, .int x2.2)] [(4, ⟨1, List.map (ow (eLs 1 eI)) (x2.1 ++ [v10])⟩)] 5 [5, 6]) (Ent.trans (ent_absL (b := 4) (b' := 2) (j := 0) (es' := List.map eI v10) k k k k (len_map _ _) (okI.frzs _)) (ent_mk (σ := sg [(4, 4)]) ⟨⟨_, k, ⟨k, k⟩⟩, (e1 k k), (e1 k k), (e1 k k), (e1 k k), ⟨_, k, ⟨k, k, (by simp only [len_map, lA, lT, lR, lC, lN]), k⟩⟩, ⟨_, k, ⟨k, k⟩⟩, (e1 k k), (e1 k k), ⟨_, k, ⟨k, k⟩⟩, (e1 k k), (e1 k k), trivial⟩ (hX ⟨_, k, k, .inl ⟨app_eq v10 k, okLs.plainO _⟩⟩ k <| trivial) k)) <| rg <| ae (x_add k k) k <| am k k <| an <| tn ?_
      obtain rfl := so h
      exact ⟨_, k, (ent_mk (σ := sg [(0, 4)]) ⟨⟨_, k, ⟨k, k⟩⟩, (e1 k k), (e1 k k), (e1 k k), (e1 k k), (oE k k), ⟨_, k, ⟨k, k⟩⟩, (e1 k k), (e1 k k), ⟨_, k, ⟨k, k⟩⟩, (e1 k k), (e1 k k), trivial⟩ (hB (okLs.plainO _) k k k <| trivial) k)⟩
     ·refine ac_condF k q6 <| ac_exit <| then_exit <| then_exit ?_
      obtain rfl := so h
      exact ⟨_, k, k, (ent_mk (σ := sg [(0, 0)]) ⟨⟨_, k, ⟨k, k⟩⟩, (e1 k k), (e1 k k), (e1 k k), (oE k k), ⟨_, k, ⟨k, k⟩⟩, (e1 k k), (e1 k k), trivial⟩ (hB (okLs.plainO _) k k k <| trivial) k)⟩
    ·rintro e t ⟨rfl, hent⟩
     refine block_here <| tn <| ac_ent hent <| sQ <| rg <| am k k <| am k k <| am k k <| ae (x_mul k k) k <| am k k ?_
     obtain ⟨v13, hv13, h⟩ := ob h
     refine ae (w_call0s (ih y12 v13 hv13) k (va_cons (va_T okLs k k) va_nil)) k <| ae (x_mul k k) k <| ae (x_add k k) k <| aa k k <| an <| tn <| rg <| am k k <| ae (x_neg k) k <| aa k k ?_
     refine an <| block_n <| tn <| ac_ent (t := mkS [(0, .list 1 (List.map (eLs 1 eI) a0)), (3, .int (wr (x1.1 + (wr ((wr (x1.2.1 * v4)) * v13))))), (4, .int (wr (-x1.2.1))), (15, .list 1 (List.map eI v2)), (16, .int (v2.length : Int)), (17, .int x1.2.2)] [] 1 [1, 2, 3, 4, 5, 6]) (ent_mk (σ := sg []) ⟨⟨_, k, ⟨k, k⟩⟩, (e1 k k), (e1 k k), ⟨_, k, ⟨k, k⟩⟩, (e1 k k), (e1 k k), trivial⟩ trivial k) <| rg <| ae (x_add k k) k <| am k k <| an <| tn ?_
     obtain rfl := so h
     exact ⟨_, k, (ent_mk (σ := sg []) ⟨⟨_, k, ⟨k, k⟩⟩, (e1 k k), (e1 k k), ⟨_, k, ⟨k, k⟩⟩, (e1 k k), (e1 k k), trivial⟩ trivial k)⟩
   ·refine ac_condF k q3 <| ac_exit <| then_exit <| then_exit ?_
    obtain rfl := so h
    exact ⟨_, k, k, (ent_mk (σ := sg []) ⟨(e1 k k), trivial⟩ trivial k)⟩
  ·rintro e t ⟨rfl, hent⟩
   refine block_here <| tn <| ac_ent hent <| sQ <| rg <| am k k <| aa k k <| an <| tn <| ac_ret ?_
   obtain rfl := so h
   exact ret_mk k k k (fz_int k)
theorem c_impl_determinant : ∀ (n : Nat) (a0 : (List (List Int))) (r : Int), m_impl_determinant n a0 = some r → HasC Try.prog 29 [.list 1 (List.map (eLs 1 eI) a0)] (.int r)
 | 0, a0, r, h => by cases h
 | n + 1, a0, r, h => c_impl_determinant_b (m_impl_determinant n) a0 (c_impl_determinant n) r h

noncomputable def m_spec_l18Det_L2 (a0 : (List (List Int))) (x1 : (Int × Int × Int)) (x2 : ((List (List Int)) × Int)) : Option (((List (List Int)) × Int) ⊕ (List (List Int))) :=
  bif decide (x2.2 < (a0.length : Int)) then
    (Option.bind (atL a0 x2.2) fun v4 =>
    bif (decide (0 ≤ 0) && (decide (0 ≤ x1.2.2) && decide (x1.2.2 ≤ (v4.length : Int)))) then
      (bif decide (([] : (List Int)).length + ((v4.drop (0 : Int).toNat).take (x1.2.2.toNat - (0 : Int).toNat)).length ≤ 4294967296) then
        (Option.bind (atL a0 x2.2) fun v7 =>
        bif (decide (0 ≤ wr (x1.2.2 + 1)) && (decide (wr (x1.2.2 + 1) ≤ (v7.length : Int)) && decide ((v7.length : Int) ≤ (v7.length : Int)))) then
          (bif decide ((([] : (List Int)) ++ ((v4.drop (0 : Int).toNat).take (x1.2.2.toNat - (0 : Int).toNat))).length + ((v7.drop (wr (x1.2.2 + 1)).toNat).take ((v7.length : Int).toNat - (wr (x1.2.2 + 1)).toNat)).length ≤ 4294967296) then
            (bif decide (x2.1.length + 1 ≤ 4294967296) then
              (some (.inl ((x2.1 ++ [((([] : (List Int)) ++ ((v4.drop (0 : Int).toNat).take (x1.2.2.toNat - (0 : Int).toNat))) ++ ((v7.drop (wr (x1.2.2 + 1)).toNat).take ((v7.length : Int).toNat - (wr (x1.2.2 + 1)).toNat)))]), wr (x2.2 + 1))))
            else none)
          else none)
        else none)
      else none)
    else none)
  else
    (some (.inr x2.1))

noncomputable def m_spec_l18Det_L1 (self : ((List (List Int)) → Option Int)) (a0 : (List (List Int))) (x1 : (Int × Int × Int)) : Option ((Int × Int × Int) ⊕ Int) :=
  bif decide (x1.2.2 < (a0.length : Int)) then
    (Option.bind (Lp (m_spec_l18Det_L2 a0 x1) (([] : (List (List Int))), 1)) fun y11 =>
    Option.bind (atL a0 0) fun v12 =>
    Option.bind (atL v12 x1.2.2) fun v13 =>
    Option.bind (self y11) fun v14 =>
    some (.inl (wr (x1.1 + (wr ((wr (x1.2.1 * v13)) * v14))), wr (-x1.2.1), wr (x1.2.2 + 1))))
  else
    (some (.inr x1.1))

noncomputable def m_spec_l18Det_b (self : (List (List Int)) → Option Int) (a0 : (List (List Int))) : Option Int :=
  bif decide ((a0.length : Int) = 0) then
    (some (1))
  else
    (Option.bind (Lp (m_spec_l18Det_L1 self a0) (0, 1, 0)) fun y15 =>
    some (y15))

noncomputable def m_spec_l18Det : Nat → (List (List Int)) → Option Int
  | 0, _ => none
  | n + 1, a0 => m_spec_l18Det_b (m_spec_l18Det n) a0

theorem c_spec_l18Det_b (self : (List (List Int)) → Option Int) (a0 : (List (List Int))) (ih : ∀ (a0 : (List (List Int))) (r : Int), self a0 = some r → HasC Try.prog 20 [.list 1 (List.map (eLs 1 eI) a0)] (.int r)) (r : Int) (h : m_spec_l18Det_b self a0 = some r) : HasC Try.prog 20 [.list 1 (List.map (eLs 1 eI) a0)] (.int r) := by
 refine hasC_mk TT_ok (rvs := [.tmp 2]) (ns := [0, 1, 2, 3, 4, 5, 6, 7]) Try.func20 k k Try.ntmps20 k k k <| sQ <| rg <| aa k k <| an <| tn <| sQ <| sQ <| rg <| am k k ?_
 refine ae (lenL TT_ok k k k) k <| ae (w_cmp k k k) k <| an <| tn ?_
 rcases cb h with ⟨q1, h⟩ | ⟨q1, h⟩
 ·refine ac_condT k q1 <| sQ <| rg <| aa k k <| an <| tn <| ac_ret <| then_ret ?_
  obtain rfl := so h
  exact ret_mk k k k (fz_int k)
 ·refine ac_condF k q1 <| ac_skip <| tn <| sQ <| rg <| aa k k <| an <| tn <| sQ <| rg ?_
  refine aa k k <| an <| tn <| sQ <| sQ <| rg <| aa k k <| an <| tn <| ac_block ?_
  obtain ⟨y15, hy15, h⟩ := ob h
  refine ac_Lp (body := (m_spec_l18Det_L1 self a0)) hy15 (fun (x1 : (Int × Int × Int)) => mkS [(0, .list 1 (List.map (eLs 1 eI) a0)), (3, .int x1.1), (4, .int x1.2.1), (5, .int x1.2.2)] [] 0 [0, 1, 2, 3, 4, 5, 6, 7]) (fun r e t => e = .exit 0 ∧ Ent t (mkS [(3, .int r)] [] 0 [0, 1, 2, 3, 4, 5, 6, 7])) (ent_mk (σ := sg []) ⟨⟨_, k, ⟨k, k⟩⟩, (e1 k k), (e1 k k), (e1 k k), trivial⟩ trivial k) ?_ ?_
  ·intro x1 o h
   refine sQ <| sQ <| rg <| am k k <| am k k <| ae (lenL TT_ok k k k) k <| ae (w_cmp k k k) k <| an <| tn ?_
   rcases cb h with ⟨q2, h⟩ | ⟨q2, h⟩
   ·refine ac_condT k q2 <| ac_skip <| tn <| sQ <| ac_block <| sQ <| rg <| ae (w_lit TT_ok k k k k k k k k k k k k) k <| aa k k <| an ?_
    refine tn <| ac_ent (t := mkS [(0, .list 1 (List.map (eLs 1 eI) a0)), (3, .int x1.1), (4, .int x1.2.1), (5, .int x1.2.2), (6, .own 0 0 (([] : (List (List Int))).length))] [(0, ⟨1, List.map (ow (eLs 1 eI)) ([] : (List (List Int)))⟩)] 1 [1, 2, 3, 4, 5, 6, 7]) (ent_mk (σ := sg [(0, 0)]) ⟨⟨_, k, ⟨k, k⟩⟩, (e1 k k), (e1 k k), (e1 k k), ⟨_, k, ⟨k, k, (by simp only [len_map, lA, lT, lR, lC, lN]), k⟩⟩, trivial⟩ (hB (okLs.plainO _) k k k <| trivial) k) <| sQ <| sQ <| rg <| aa k k <| an <| tn <| ac_block ?_
    obtain ⟨y11, hy11, h⟩ := ob h
    refine ac_Lp (body := (m_spec_l18Det_L2 a0 x1)) hy11 (fun (x2 : ((List (List Int)) × Int)) => mkS [(0, .list 1 (List.map (eLs 1 eI) a0)), (3, .int x1.1), (4, .int x1.2.1), (5, .int x1.2.2), (6, .own 0 0 x2.1.length), (7, .int x2.2)] [(0, ⟨1, List.map (ow (eLs 1 eI)) x2.1⟩)] 1 [1, 2, 3, 4, 5, 6, 7]) (fun r e t => e = .exit 2 ∧ Ent t (mkS [(0, .list 1 (List.map (eLs 1 eI) a0)), (3, .int x1.1), (4, .int x1.2.1), (5, .int x1.2.2), (6, .own 0 0 r.length)] [(0, ⟨1, List.map (ow (eLs 1 eI)) r⟩)] 1 [1, 2, 3, 4, 5, 6, 7])) (ent_mk (σ := sg [(0, 0)]) ⟨⟨_, k, ⟨k, k⟩⟩, (e1 k k), (e1 k k), (e1 k k), (oE k k), (e1 k k), trivial⟩ (hB (okLs.plainO _) k k k <| trivial) k) ?_ ?_
    ·intro x2 o h
     refine sQ <| sQ <| rg <| am k k <| am k k <| ae (lenL TT_ok k k k) k <| ae (w_cmp k k k) k <| an <| tn ?_
     rcases cb h with ⟨q3, h⟩ | ⟨q3, h⟩
     ·refine ac_condT k q3 <| ac_skip <| tn <| sQ <| ac_block <| ac_region_draw MIXX <| am k k <| ae (w_lit TT_ok k k k k k k k k k k k k) k <| am k k <| am k k ?_
      obtain ⟨v4, hv4, h⟩ := ob h
      refine ae (x_at_list TT_ok hv4 k k k k k k) k <| ae (w_load_ref TT_ok k k k k k k) k <| am k k ?_
      obtain ⟨q5, h⟩ := cg h
      refine ae (x_slice_list TT_ok (l0 := v4) (l := 0) (h := x1.2.2) q5 k k k k k k k) k ?_
      obtain ⟨q6, h⟩ := cg h
      refine ae (x_app TT_ok (l := ([] : (List Int))) (m := ((v4.drop (0 : Int).toNat).take (x1.2.2.toNat - (0 : Int).toNat))) okIo q6 k k k k k k k k k k k k) k <| am k k <| am k k ?_
      obtain ⟨v7, hv7, h⟩ := ob h
      refine ae (x_at_list TT_ok hv7 k k k k k k) k <| ae (w_load_ref TT_ok k k k k k k) k <| am k k <| ae (x_add k k) k ?_
      obtain ⟨q8, h⟩ := cg h
      refine ae (x_slice_list TT_ok (l0 := v7) (l := wr (x1.2.2 + 1)) (h := (v7.length : Int)) q8 k k k k k k k) k ?_
      obtain ⟨q9, h⟩ := cg h
      refine ae (x_app TT_ok (l := (([] : (List Int)) ++ ((v4.drop (0 : Int).toNat).take (x1.2.2.toNat - (0 : Int).toNat)))) (m := ((v7.drop (wr (x1.2.2 + 1)).toNat).take ((v7.length : Int).toNat - (wr (x1.2.2 + 1)).toNat))) okIo q9 k k k k k k k k k k k k) k <| ae (w_lit TT_ok k k k k k k k k k k k k) k ?_
      obtain ⟨q10, h⟩ := cg h
      refine ae (x_app1 TT_ok (l := x2.1) (c := [.own 3 0 (((([] : (List Int)) ++ ((v4.drop (0 : Int).toNat).take (x1.2.2.toNat - (0 : Int).toNat))) ++ ((v7.drop (wr (x1.2.2 + 1)).toNat).take ((v7.length : Int).toNat - (wr (x1.2.2 + 1)).toNat))).length)]) q10 k k k k k k k k k k k k k k) k <| aa k k <| an ?_
      refine ⟨by kernel_rfl, ?_⟩
      refine block_n <| tn <| ac_ent (t := mkS [(0, .list 1 (List.map (eLs 1 eI) a0)), (3, .int x1.1), (4, .int x1.2.1), (5, .int x1.2.2), (6, .own 5 0 ((x2.1 ++ [((([] : (List Int)) ++ ((v4.drop (0 : Int).toNat).take (x1.2.2.toNat - (0 : Int).toNat))) ++ ((v7.drop (wr (x1.2.2 + 1)).toNat).take ((v7.length : Int).toNat - (wr (x1.2.2 + 1)).toNat)))]).length)), (7, .int x2.2)] [(5, ⟨1, List.map (ow (eLs 1 eI)) (x2.1 ++ [((([] : (List Int)) ++ ((v4.drop (0 : Int).toNat).take (x1.2.2.toNat - (0 : Int).toNat))) ++ ((v7.drop (wr (x1.2.2 + 1)).toNat).take ((v7.length : Int).toNat - (wr (x1.2.2 + 1)).toNat)))])⟩)] 6 [6, 7]) (Ent.trans (ent_absL (b := 5) (b' := 3) (j := 0) (es' := List.map eI ((([] : (List Int)) ++ ((v4.drop (0 : Int).toNat).take (x1.2.2.toNat - (0 : Int).toNat))) ++ ((v7.drop (wr (x1.2.2 + 1)).toNat).take ((v7.length : Int).toNat - (wr (x1.2.2 + 1)).toNat)))) k k k k (len_map _ _) (okI.frzs _)) (ent_mk (σ := sg [(5, 5)]) ⟨⟨_, k, ⟨k, k⟩⟩, (e1 k k), (e1 k k), (e1 k k), ⟨_, k, ⟨k, k, (by simp only [len_map, lA, lT, lR, lC, lN]), k⟩⟩, (e1 k k), trivial⟩ (hX ⟨_, k, k, .inl ⟨app_eq ((([] : (List Int)) ++ ((v4.drop (0 : Int).toNat).take (x1.2.2.toNat - (0 : Int).toNat))) ++ ((v7.drop (wr (x1.2.2 + 1)).toNat).take ((v7.length : Int).toNat - (wr (x1.2.2 + 1)).toNat))) k, okLs.plainO _⟩⟩ k <| trivial) k)) <| rg <| am k k <| ae (x_add k k) k <| aa k k <| an <| tn ?_
      obtain rfl := so h
      exact ⟨_, k, (ent_mk (σ := sg [(0, 5)]) ⟨⟨_, k, ⟨k, k⟩⟩, (e1 k k), (e1 k k), (e1 k k), (oE k k), (e1 k k), trivial⟩ (hB (okLs.plainO _) k k k <| trivial) k)⟩
     ·refine ac_condF k q3 <| ac_exit <| then_exit <| then_exit ?_
      obtain rfl := so h
      exact ⟨_, k, k, (ent_mk (σ := sg [(0, 0)]) ⟨⟨_, k, ⟨k, k⟩⟩, (e1 k k), (e1 k k), (e1 k k), (oE k k), trivial⟩ (hB (okLs.plainO _) k k k <| trivial) k)⟩
    ·rintro e t ⟨rfl, hent⟩
     refine block_here <| tn <| ac_ent hent <| sQ <| ac_region_draw MIXX <| am k k <| am k k <| am k k ?_
     obtain ⟨v12, hv12, h⟩ := ob h
     refine ae (x_at_list TT_ok hv12 k k k k k k) k <| ae (w_load_ref TT_ok k k k k k k) k <| am k k ?_
     obtain ⟨v13, hv13, h⟩ := ob h
     refine ae (x_at_list TT_ok hv13 k k k k k k) k <| ae (w_load_ref TT_ok k k k k k k) k <| ae (x_mul k k) k <| am k k ?_
     obtain ⟨v14, hv14, h⟩ := ob h
     refine ae (w_call0s (ih y11 v14 hv14) k (va_cons (va_T okLs k k) va_nil)) k <| ae (x_mul k k) k <| ae (x_add k k) k <| aa k k <| an ?_
     refine ⟨by kernel_rfl, ?_⟩
     refine tn <| ac_ent (t := mkS [(0, .list 1 (List.map (eLs 1 eI) a0)), (3, .int (wr (x1.1 + (wr ((wr (x1.2.1 * v13)) * v14))))), (4, .int x1.2.1), (5, .int x1.2.2)] [] 1 [1, 2, 3, 4, 5, 6, 7]) (ent_mk (σ := sg []) ⟨⟨_, k, ⟨k, k⟩⟩, (e1 k k), (e1 k k), (e1 k k), trivial⟩ trivial k) <| rg <| am k k <| ae (x_neg k) k <| aa k k <| an <| block_n <| tn <| rg ?_
     refine am k k <| ae (x_add k k) k <| aa k k <| an <| tn ?_
     obtain rfl := so h
     exact ⟨_, k, (ent_mk (σ := sg []) ⟨⟨_, k, ⟨k, k⟩⟩, (e1 k k), (e1 k k), (e1 k k), trivial⟩ trivial k)⟩
   ·refine ac_condF k q2 <| ac_exit <| then_exit <| then_exit ?_
    obtain rfl := so h
    exact ⟨_, k, k, (ent_mk (σ := sg []) ⟨(e1 k k), trivial⟩ trivial k)⟩
  ·rintro e t ⟨rfl, hent⟩
   refine block_here <| tn <| ac_ent hent <| sQ <| rg <| am k k <| aa k k <| an <| tn <| ac_ret ?_
   obtain rfl := so h
   exact ret_mk k k k (fz_int k)
theorem c_spec_l18Det : ∀ (n : Nat) (a0 : (List (List Int))) (r : Int), m_spec_l18Det n a0 = some r → HasC Try.prog 20 [.list 1 (List.map (eLs 1 eI) a0)] (.int r)
 | 0, a0, r, h => by cases h
 | n + 1, a0, r, h => c_spec_l18Det_b (m_spec_l18Det n) a0 (c_spec_l18Det n) r h

noncomputable def m_spec_SymmetricForm_L2 (a0 : Qv) (x1 : ((List (List Int)) × Int)) (x2 : ((List Int) × Int)) : Option (((List Int) × Int) ⊕ (List Int)) :=
  bif decide (x2.2 < (a0.src.length : Int)) then
    (Option.bind (atL a0.src x2.2) fun v6 =>
    bif decide (v6 = x1.2) then
      (Option.bind (atL a0.tgt x2.2) fun v8 =>
      Option.bind (atL a0.tgt x2.2) fun v9 =>
      Option.bind (atL x2.1 v9) fun v10 =>
      Option.bind (atL x2.1 v8) fun v11 =>
      Option.bind (atL a0.tgt x2.2) fun v12 =>
      bif decide (v12 = x1.2) then
        (Option.bind (atL a0.src x2.2) fun v14 =>
        Option.bind (atL a0.src x2.2) fun v15 =>
        Option.bind (atL (x2.1.set v8.toNat (wr (v10 - 1))) v15) fun v16 =>
        Option.bind (atL (x2.1.set v8.toNat (wr (v10 - 1))) v14) fun v17 =>
        some (.inl (((x2.1.set v8.toNat (wr (v10 - 1))).set v14.toNat (wr (v16 - 1))), wr (x2.2 + 1))))
      else
        (some (.inl ((x2.1.set v8.toNat (wr (v10 - 1))), wr (x2.2 + 1)))))
    else
      (Option.bind (atL a0.tgt x2.2) fun v18 =>
      bif decide (v18 = x1.2) then
        (Option.bind (atL a0.src x2.2) fun v20 =>
        Option.bind (atL a0.src x2.2) fun v21 =>
        Option.bind (atL x2.1 v21) fun v22 =>
        Option.bind (atL x2.1 v20) fun v23 =>
        some (.inl ((x2.1.set v20.toNat (wr (v22 - 1))), wr (x2.2 + 1))))
      else
        (some (.inl (x2.1, wr (x2.2 + 1))))))
  else
    (some (.inr x2.1))

noncomputable def m_spec_SymmetricForm_L1 (a0 : Qv) (x1 : ((List (List Int)) × Int)) : Option (((List (List Int)) × Int) ⊕ (List (List Int))) :=
  bif decide (x1.2 < a0.n) then
    (Option.bind (m_spec_IsQuiver a0) fun v2 =>
    bif v2 then
      (bif (decide (0 ≤ a0.n) && decide (a0.n ≤ 1048576)) then
        (Option.bind (atL (List.replicate a0.n.toNat (0 : Int)) x1.2) fun v4 =>
        Option.bind (Lp (m_spec_SymmetricForm_L2 a0 x1) (((List.replicate a0.n.toNat (0 : Int)).set x1.2.toNat 2), 0)) fun y24 =>
        bif decide (x1.1.length + 1 ≤ 4294967296) then
          (some (.inl ((x1.1 ++ [y24]), wr (x1.2 + 1))))
        else none)
      else none)
    else
      (some (.inr x1.1)))
  else
    (some (.inr x1.1))

noncomputable def m_spec_SymmetricForm (a0 : Qv) : Option (List (List Int)) :=
  Option.bind (Lp (m_spec_SymmetricForm_L1 a0) (([] : (List (List Int))), 0)) fun y27 =>
  some (y27)

theorem c_spec_SymmetricForm (a0 : Qv) (r : (List (List Int))) (h : m_spec_SymmetricForm a0 = some r) : HasC Try.prog 19 [.agg (eQ a0)] (.list 1 (List.map (eLs 1 eI) r)) := by
 refine hasC_mk TT_ok (rvs := [.tmp 2]) (ns := [0, 1, 2, 3, 4, 5, 6]) Try.func19 k k Try.ntmps19 k k k <| sQ <| rg <| ae (w_box k k k k) k <| aa k k <| an <| tn <| sQ <| rg <| ae (w_lit TT_ok k k k k k k k k k k k k) k ?_
 refine aa k k <| an <| tn <| ac_ent (t := mkS [(1, .ptr 0 0 0), (3, .own 1 0 (([] : (List (List Int))).length))] [(0, ⟨3, [[.int a0.n, .list 1 (List.map eI a0.src), .list 1 (List.map eI a0.tgt)]]⟩), (1, ⟨1, List.map (ow (eLs 1 eI)) ([] : (List (List Int)))⟩)] 2 [2, 3, 4, 5, 6]) (ent_mk (σ := sg [(0, 0), (1, 1)]) ⟨(pE k k), ⟨_, k, ⟨k, k, (by simp only [len_map, lA, lT, lR, lC, lN]), k⟩⟩, trivial⟩ (hP k k k k <| hB (okLs.plainO _) k k k <| trivial) k) <| sQ <| sQ <| rg <| aa k k <| an <| tn ?_
 refine ac_block ?_
 obtain ⟨y27, hy27, h⟩ := ob h
 refine ac_Lp (body := (m_spec_SymmetricForm_L1 a0)) hy27 (fun (x1 : ((List (List Int)) × Int)) => mkS [(1, .ptr 0 0 0), (3, .own 1 0 x1.1.length), (4, .int x1.2)] [(0, ⟨3, [[.int a0.n, .list 1 (List.map eI a0.src), .list 1 (List.map eI a0.tgt)]]⟩), (1, ⟨1, List.map (ow (eLs 1 eI)) x1.1⟩)] 2 [2, 3, 4, 5, 6]) (fun r e t => e = .exit 0 ∧ Ent t (mkS [(3, .own 0 0 r.length)] [(0, ⟨1, List.map (ow (eLs 1 eI)) r⟩)] 1 [1, 2, 3, 4, 5, 6])) (ent_mk (σ := sg [(0, 0), (1, 1)]) ⟨(pE k k), (oE k k), (e1 k k), trivial⟩ (hP k k k k <| hB (okLs.plainO _) k k k <| trivial) k) ?_ ?_
 ·intro x1 o h
  refine sQ <| sQ <| rg <| am k k <| ae (w_field_ptr TT_ok k k k k k k k) k <| ae (w_load_ptr TT_ok k k k k k k k) k <| ae (w_cmp k k k) k <| am k k ?_
  rcases cb h with ⟨q1, h⟩ | ⟨q1, h⟩
  ·refine aops_lit 12 k q1 <| ae (w_load_ptr TT_ok k k k k k k k) k ?_
   obtain ⟨v2, hv2, h⟩ := ob h
   refine ae (w_call0s (c_spec_IsQuiver a0 v2 hv2) k (va_cons (va_agg' (v1_cons (v1_same k) (v1_cons (v1_same k) (v1_cons (v1_same k) v1_nil)))) va_nil)) k <| ae (eff_pick k k) k <| an <| tn ?_
   rcases cb h with ⟨q3, h⟩ | ⟨q3, h⟩
   ·refine ac_condT k q3 <| ac_skip <| tn <| sQ <| ac_block <| sQ <| rg <| ae (w_field_ptr TT_ok k k k k k k k) k <| ae (w_load_ptr TT_ok k k k k k k k) k ?_
    obtain ⟨q26, h⟩ := cg h
    refine ae (x_make TT_ok q26 k k k k k k k k) k <| aa k k <| an <| tn <| ac_ent (t := mkS [(1, .ptr 0 0 0), (3, .own 1 0 x1.1.length), (4, .int x1.2), (5, .own 2 0 ((List.replicate a0.n.toNat (0 : Int)).length))] [(0, ⟨3, [[.int a0.n, .list 1 (List.map eI a0.src), .list 1 (List.map eI a0.tgt)]]⟩), (1, ⟨1, List.map (ow (eLs 1 eI)) x1.1⟩), (2, ⟨1, List.map (ow eI) (List.replicate a0.n.toNat (0 : Int))⟩)] 3 [3, 4, 5, 6]) (ent_mk (σ := sg [(0, 0), (1, 1), (2, 2)]) ⟨(pE k k), (oE k k), (e1 k k), ⟨_, k, ⟨k, k, (by simp only [len_map, lA, lT, lR, lC, lN]), k⟩⟩, trivial⟩ (hP k k k k <| hB (okLs.plainO _) k k k <| hX ⟨_, k, k, .inl ⟨rep_eq (e := eI) (z := 0) _, okI.plainO _⟩⟩ k <| trivial) k) <| sQ <| rg <| am k k <| am k k ?_
    obtain ⟨v4, hv4, h⟩ := ob h
    refine ae (x_at_own TT_ok (atL_nn hv4) (atL_lt hv4) k k k k k k k) k <| ae (x_store TT_ok okIo (u := 2) (atL_get hv4) k k k k k k) k <| an <| tn <| sQ <| sQ <| rg <| aa k k <| an <| tn ?_
    refine ac_block ?_
    obtain ⟨y24, hy24, h⟩ := ob h
    refine ac_Lp (body := (m_spec_SymmetricForm_L2 a0 x1)) hy24 (fun (x2 : ((List Int) × Int)) => mkS [(1, .ptr 0 0 0), (3, .own 1 0 x1.1.length), (4, .int x1.2), (5, .own 2 0 x2.1.length), (6, .int x2.2)] [(0, ⟨3, [[.int a0.n, .list 1 (List.map eI a0.src), .list 1 (List.map eI a0.tgt)]]⟩), (1, ⟨1, List.map (ow (eLs 1 eI)) x1.1⟩), (2, ⟨1, List.map (ow eI) x2.1⟩)] 3 [3, 4, 5, 6]) (fun r e t => e = .exit 2 ∧ Ent t (mkS [(1, .ptr 0 0 0), (3, .own 1 0 x1.1.length), (4, .int x1.2), (5, .own 2 0 r.length)] [(0, ⟨3, [[.int a0.n, .list 1 (List.map eI a0.src), .list 1 (List.map eI a0.tgt)]]⟩), (1, ⟨1, List.map (ow (eLs 1 eI)) x1.1⟩), (2, ⟨1, List.map (ow eI) r⟩)] 3 [3, 4, 5, 6])) (ent_mk (σ := sg [(0, 0), (1, 1), (2, 2)]) ⟨(pE k k), (oE k k), (e1 k k), ⟨_, k, ⟨k, k, (by simp only [len_map, lA, lT, lR, lC, lN]), k⟩⟩, (e1 k k), trivial⟩ (hP k k k k <| hB (okLs.plainO _) k k k <| hI k k k <| trivial) k) ?_ ?_
    ·intro x2 o h
     refine sQ <| sQ <| rg <| am k k <| ae (w_field_ptr TT_ok k k k k k k k) k <| ae (w_load_ptr TT_ok k k k k k k k) k <| ae (lenL TT_ok k k k) k <| ae (w_cmp k k k) k <| an <| tn ?_
     rcases cb h with ⟨q5, h⟩ | ⟨q5, h⟩
     ·refine ac_condT k q5 <| ac_skip <| tn <| sQ <| ac_block <| sQ <| sQ <| rg <| ae (w_field_ptr TT_ok k k k k k k k) k <| ae (w_load_ptr TT_ok k k k k k k k) k ?_
      refine am k k ?_
      obtain ⟨v6, hv6, h⟩ := ob h
      refine ae (x_at_list TT_ok hv6 k k k k k k) k <| ae (w_load_ref TT_ok k k k k k k) k <| am k k <| ae (w_cmp k k k) k <| an <| tn <| ac_ent (t := mkS [(1, .ptr 0 0 0), (3, .own 1 0 x1.1.length), (4, .int x1.2), (5, .own 2 0 x2.1.length), (6, .int x2.2), (37, .bl (decide (v6 = x1.2)))] [(0, ⟨3, [[.int a0.n, .list 1 (List.map eI a0.src), .list 1 (List.map eI a0.tgt)]]⟩), (1, ⟨1, List.map (ow (eLs 1 eI)) x1.1⟩), (2, ⟨1, List.map (ow eI) x2.1⟩)] 3 [3, 4, 5, 6]) (ent_mk (σ := sg [(0, 0), (1, 1), (2, 2)]) ⟨(pE k k), (oE k k), (e1 k k), (oE k k), (e1 k k), (e1 k k), trivial⟩ (hP k k k k <| hB (okLs.plainO _) k k k <| hI k k k <| trivial) k) ?_
      rcases cb h with ⟨q7, h⟩ | ⟨q7, h⟩
      ·refine ac_condT k q7 <| ac_region_draw MIXX <| am k k <| ae (w_field_ptr TT_ok k k k k k k k) k <| ae (w_load_ptr TT_ok k k k k k k k) k <| am k k ?_
       obtain ⟨v8, hv8, h⟩ := ob h
       refine ae (x_at_list TT_ok hv8 k k k k k k) k <| ae (w_load_ref TT_ok k k k k k k) k <| am k k <| ae (w_field_ptr TT_ok k k k k k k k) k <| ae (w_load_ptr TT_ok k k k k k k k) k <| am k k ?_
       obtain ⟨v9, hv9, h⟩ := ob h
       refine ae (x_at_list TT_ok hv9 k k k k k k) k <| ae (w_load_ref TT_ok k k k k k k) k ?_
       obtain ⟨v10, hv10, h⟩ := ob h
       refine ae (x_at_own TT_ok (atL_nn hv10) (atL_lt hv10) k k k k k k k) k <| ae (w_load_ptr TT_ok k k k k (map_at (atL_get hv10)) k k) k <| ae (x_sub k k) k ?_
       obtain ⟨v11, hv11, h⟩ := ob h
       refine ae (x_at_own TT_ok (atL_nn hv11) (atL_lt hv11) k k k k k k k) k <| ae (x_store TT_ok okIo (u := wr (v10 - 1)) (atL_get hv11) k k k k k k) k <| an ?_
       refine ⟨by kernel_rfl, ?_⟩
       refine tn <| ac_ent (t := mkS [(1, .ptr 0 0 0), (3, .own 1 0 x1.1.length), (4, .int x1.2), (5, .own 2 0 ((x2.1.set v8.toNat (wr (v10 - 1))).length)), (6, .int x2.2)] [(0, ⟨3, [[.int a0.n, .list 1 (List.map eI a0.src), .list 1 (List.map eI a0.tgt)]]⟩), (1, ⟨1, List.map (ow (eLs 1 eI)) x1.1⟩), (2, ⟨1, List.map (ow eI) (x2.1.set v8.toNat (wr (v10 - 1)))⟩)] 3 [3, 4, 5, 6]) (ent_mk (σ := sg [(0, 0), (1, 1), (2, 2)]) ⟨(pE k k), (oE k k), (e1 k k), ⟨_, k, ⟨k, k, (by simp only [len_map, lA, lT, lR, lC, lN]), k⟩⟩, (e1 k k), trivial⟩ (hP k k k k <| hB (okLs.plainO _) k k k <| hI k k k <| trivial) k) <| sQ <| rg <| ae (w_field_ptr TT_ok k k k k k k k) k <| ae (w_load_ptr TT_ok k k k k k k k) k <| am k k ?_
       obtain ⟨v12, hv12, h⟩ := ob h
       refine ae (x_at_list TT_ok hv12 k k k k k k) k <| ae (w_load_ref TT_ok k k k k k k) k <| am k k <| ae (w_cmp k k k) k <| an <| tn ?_
       rcases cb h with ⟨q13, h⟩ | ⟨q13, h⟩
       ·refine ac_condT k q13 <| ac_region_draw MIXX <| am k k <| ae (w_field_ptr TT_ok k k k k k k k) k <| ae (w_load_ptr TT_ok k k k k k k k) k <| am k k ?_
        obtain ⟨v14, hv14, h⟩ := ob h
        refine ae (x_at_list TT_ok hv14 k k k k k k) k <| ae (w_load_ref TT_ok k k k k k k) k <| am k k <| ae (w_field_ptr TT_ok k k k k k k k) k <| ae (w_load_ptr TT_ok k k k k k k k) k <| am k k ?_
        obtain ⟨v15, hv15, h⟩ := ob h
        refine ae (x_at_list TT_ok hv15 k k k k k k) k <| ae (w_load_ref TT_ok k k k k k k) k ?_
        obtain ⟨v16, hv16, h⟩ := ob h
        refine ae (x_at_own TT_ok (atL_nn hv16) (atL_lt hv16) k k k k k k k) k <| ae (w_load_ptr TT_ok k k k k (map_at (atL_get hv16)) k k) k <| ae (x_sub k k) k ?_
        obtain ⟨v17, hv17, h⟩ := ob h
        refine ae (x_at_own TT_ok (atL_nn hv17) (atL_lt hv17) k k k k k k k) k <| ae (x_store TT_ok okIo (u := wr (v16 - 1)) (atL_get hv17) k k k k k k) k <| an ?_
        refine ⟨by kernel_rfl, ?_⟩
        refine block_n <| tn <| ac_ent (t := mkS [(1, .ptr 0 0 0), (3, .own 1 0 x1.1.length), (4, .int x1.2), (5, .own 2 0 (((x2.1.set v8.toNat (wr (v10 - 1))).set v14.toNat (wr (v16 - 1))).length)), (6, .int x2.2)] [(0, ⟨3, [[.int a0.n, .list 1 (List.map eI a0.src), .list 1 (List.map eI a0.tgt)]]⟩), (1, ⟨1, List.map (ow (eLs 1 eI)) x1.1⟩), (2, ⟨1, List.map (ow eI) ((x2.1.set v8.toNat (wr (v10 - 1))).set v14.toNat (wr (v16 - 1)))⟩)] 3 [3, 4, 5, 6]) (ent_mk (σ := sg [(0, 0), (1, 1), (2, 2)]) ⟨(pE k k), (oE k k), (e1 k k), ⟨_, k, ⟨k, k, (by simp only [len_map, lA, lT, lR, lC, lN]), k⟩⟩, (e1 k k), trivial⟩ (hP k k k k <| hB (okLs.plainO _) k k k <| hI k k k <| trivial) k) <| rg <| am k k <| ae (x_add k k) k <| aa k k <| an <| tn ?_
        obtain rfl := so h
        exact ⟨_, k, (ent_mk (σ := sg [(0, 0), (1, 1), (2, 2)]) ⟨(pE k k), (oE k k), (e1 k k), (oE k k), (e1 k k), trivial⟩ (hP k k k k <| hB (okLs.plainO _) k k k <| hI k k k <| trivial) k)⟩
       ·refine ac_condF k q13 <| ac_skip <| block_n <| tn <| rg <| am k k <| ae (x_add k k) k <| aa k k <| an <| tn ?_
        obtain rfl := so h
        exact ⟨_, k, (ent_mk (σ := sg [(0, 0), (1, 1), (2, 2)]) ⟨(pE k k), (oE k k), (e1 k k), (oE k k), (e1 k k), trivial⟩ (hP k k k k <| hB (okLs.plainO _) k k k <| hI k k k <| trivial) k)⟩
      ·refine ac_condF k q7 <| ac_skip <| tn <| sQ <| rg <| ae (w_field_ptr TT_ok k k k k k k k) k <| ae (w_load_ptr TT_ok k k k k k k k) k <| am k k ?_
       obtain ⟨v18, hv18, h⟩ := ob h
       refine ae (x_at_list TT_ok hv18 k k k k k k) k <| ae (w_load_ref TT_ok k k k k k k) k <| am k k <| ae (w_cmp k k k) k <| an <| tn ?_
       rcases cb h with ⟨q19, h⟩ | ⟨q19, h⟩
       ·refine ac_condT k q19 <| ac_region_draw MIXX <| am k k <| ae (w_field_ptr TT_ok k k k k k k k) k <| ae (w_load_ptr TT_ok k k k k k k k) k <| am k k ?_
        obtain ⟨v20, hv20, h⟩ := ob h
        refine ae (x_at_list TT_ok hv20 k k k k k k) k <| ae (w_load_ref TT_ok k k k k k k) k <| am k k <| ae (w_field_ptr TT_ok k k k k k k k) k <| ae (w_load_ptr TT_ok k k k k k k k) k <| am k k ?_
        obtain ⟨v21, hv21, h⟩ := ob h
        refine ae (x_at_list TT_ok hv21 k k k k k k) k <| ae (w_load_ref TT_ok k k k k k k) k ?_
        obtain ⟨v22, hv22, h⟩ := ob h
        refine ae (x_at_own TT_ok (atL_nn hv22) (atL_lt hv22) k k k k k k k) k <| ae (w_load_ptr TT_ok k k k k (map_at (atL_get hv22)) k k) k <| ae (x_sub k k) k ?_
        obtain ⟨v23, hv23, h⟩ := ob h
        refine ae (x_at_own TT_ok (atL_nn hv23) (atL_lt hv23) k k k k k k k) k <| ae (x_store TT_ok okIo (u := wr (v22 - 1)) (atL_get hv23) k k k k k k) k <| an ?_
        refine ⟨by kernel_rfl, ?_⟩
        refine block_n <| tn <| ac_ent (t := mkS [(1, .ptr 0 0 0), (3, .own 1 0 x1.1.length), (4, .int x1.2), (5, .own 2 0 ((x2.1.set v20.toNat (wr (v22 - 1))).length)), (6, .int x2.2)] [(0, ⟨3, [[.int a0.n, .list 1 (List.map eI a0.src), .list 1 (List.map eI a0.tgt)]]⟩), (1, ⟨1, List.map (ow (eLs 1 eI)) x1.1⟩), (2, ⟨1, List.map (ow eI) (x2.1.set v20.toNat (wr (v22 - 1)))⟩)] 3 [3, 4, 5, 6]) (ent_mk (σ := sg [(0, 0), (1, 1), (2, 2)]) ⟨(pE k k), (oE k k), (e1 k k), ⟨_, k, ⟨k, k, (by simp only [len_map, lA, lT, lR, lC, lN]), k⟩⟩, (e1 k k), trivial⟩ (hP k k k k <| hB (okLs.plainO _) k k k <| hI k k k <| trivial) k) <| rg <| am k k <| ae (x_add k k) k <| aa k k <| an <| tn ?_
        obtain rfl := so h
        exact ⟨_, k, (ent_mk (σ := sg [(0, 0), (1, 1), (2, 2)]) ⟨(pE k k), (oE k k), (e1 k k), (oE k k), (e1 k k), trivial⟩ (hP k k k k <| hB (okLs.plainO _) k k k <| hI k k k <| trivial) k)⟩
       ·refine ac_condF k q19 <| ac_skip <| block_n <| tn <| rg <| am k k <| ae (x_add k k) k <| aa k k <| an <| tn ?_
        obtain rfl := so h
        exact ⟨_, k, (ent_mk (σ := sg [(0, 0), (1, 1), (2, 2)]) ⟨(pE k k), (oE k k), (e1 k k), (oE k k), (e1 k k), trivial⟩ (hP k k k k <| hB (okLs.plainO _) k k k <| hI k k k <| trivial) k)⟩
     ·refine ac_condF k q5 <| ac_exit <| then_exit <| then_exit ?_
      obtain rfl := so h
      exact ⟨_, k, k, (ent_mk (σ := sg [(0, 0), (1, 1), (2, 2)]) ⟨(pE k k), (oE k k), (e1 k k), (oE k k), trivial⟩ (hP k k k k <| hB (okLs.plainO _) k k k <| hI k k k <| trivial) k)⟩
    ·rintro e t ⟨rfl, hent⟩
     refine block_here <| tn <| ac_ent hent <| rg <| am k k <| am k k <| ae (w_lit TT_ok k k k k k k k k k k k k) k ?_
     obtain ⟨q25, h⟩ := cg h
     refine ae (x_app1 TT_ok (l := x1.1) (c := [.own 2 0 y24.length]) q25 k k k k k k k k k k k k k k) k <| aa k k <| an <| block_n <| tn <| ac_ent (t := mkS [(1, .ptr 0 0 0), (3, .own 4 0 ((x1.1 ++ [y24]).length)), (4, .int x1.2)] [(0, ⟨3, [[.int a0.n, .list 1 (List.map eI a0.src), .list 1 (List.map eI a0.tgt)]]⟩), (4, ⟨1, List.map (ow (eLs 1 eI)) (x1.1 ++ [y24])⟩)] 5 [5, 6]) (Ent.trans (ent_absL (b := 4) (b' := 2) (j := 0) (es' := List.map eI y24) k k k k (len_map _ _) (okI.frzs _)) (ent_mk (σ := sg [(0, 0), (4, 4)]) ⟨(pE k k), ⟨_, k, ⟨k, k, (by simp only [len_map, lA, lT, lR, lC, lN]), k⟩⟩, (e1 k k), trivial⟩ (hP k k k k <| hX ⟨_, k, k, .inl ⟨app_eq y24 k, okLs.plainO _⟩⟩ k <| trivial) k)) <| rg <| am k k <| ae (x_add k k) k <| aa k k ?_
     refine an <| tn ?_
     obtain rfl := so h
     exact ⟨_, k, (ent_mk (σ := sg [(0, 0), (1, 4)]) ⟨(pE k k), (oE k k), (e1 k k), trivial⟩ (hP k k k k <| hB (okLs.plainO _) k k k <| trivial) k)⟩
   ·refine ac_condF k q3 <| ac_exit <| then_exit <| then_exit ?_
    obtain rfl := so h
    exact ⟨_, k, k, (ent_mk (σ := sg [(0, 1)]) ⟨(oE k k), trivial⟩ (hB (okLs.plainO _) k k k <| trivial) k)⟩
  ·refine aops_lit 12 k q1 <| ak k k <| ak k k <| ae (eff_pick k k) k <| an <| tn <| ac_condF k k <| ac_exit <| then_exit <| then_exit ?_
   obtain rfl := so h
   exact ⟨_, k, k, (ent_mk (σ := sg [(0, 1)]) ⟨(oE k k), trivial⟩ (hB (okLs.plainO _) k k k <| trivial) k)⟩
 ·rintro e t ⟨rfl, hent⟩
  refine block_here <| tn <| ac_ent hent <| sQ <| rg <| am k k <| aa k k <| an <| tn <| ac_ret ?_
  obtain rfl := so h
  exact ret_mk k k k (xz_list (x_f1 okLs k k))

noncomputable def m_spec_l18Minor_L2 (a0 : (List (List Int))) (a1 : Int) (x1 : (Int × (List (List Int)))) (x2 : ((List Int) × Int)) : Option (((List Int) × Int) ⊕ (List Int)) :=
  bif decide (x2.2 < (a0.length : Int)) then
    (bif !decide (x2.2 < 0) then
      (bif decide (andI (shrI a1 x2.2) 1 = 1) then
        (Option.bind (atL a0 x1.1) fun v5 =>
        Option.bind (atL v5 x2.2) fun v6 =>
        bif decide (x2.1.length + [v6].length ≤ 4294967296) then
          (some (.inl ((x2.1 ++ [v6]), wr (x2.2 + 1))))
        else none)
      else
        (some (.inl (x2.1, wr (x2.2 + 1)))))
    else none)
  else
    (some (.inr x2.1))

noncomputable def m_spec_l18Minor_L1 (a0 : (List (List Int))) (a1 : Int) (x1 : (Int × (List (List Int)))) : Option ((Int × (List (List Int))) ⊕ (List (List Int))) :=
  bif decide (x1.1 < (a0.length : Int)) then
    (bif !decide (x1.1 < 0) then
      (bif decide (andI (shrI a1 x1.1) 1 = 0) then
        (some (.inl (wr (x1.1 + 1), x1.2)))
      else
        (Option.bind (Lp (m_spec_l18Minor_L2 a0 a1 x1) (([] : (List Int)), 0)) fun y9 =>
        bif decide (x1.2.length + 1 ≤ 4294967296) then
          (some (.inl (wr (x1.1 + 1), (x1.2 ++ [y9]))))
        else none))
    else none)
  else
    (some (.inr x1.2))

noncomputable def m_spec_l18Minor (a0 : (List (List Int))) (a1 : Int) : Option (List (List Int)) :=
  Option.bind (Lp (m_spec_l18Minor_L1 a0 a1) (0, ([] : (List (List Int))))) fun y12 =>
  some (y12)

theorem c_spec_l18Minor (a0 : (List (List Int))) (a1 : Int) (r : (List (List Int))) (h : m_spec_l18Minor a0 a1 = some r) : HasC Try.prog 21 [.list 1 (List.map (eLs 1 eI) a0), .int a1] (.list 1 (List.map (eLs 1 eI) r)) := by
 refine hasC_mk TT_ok (rvs := [.tmp 4]) (ns := [0, 1, 2, 3, 4, 5]) Try.func21 k k Try.ntmps21 k k k <| sQ <| rg <| aa k k <| an <| tn <| sQ <| rg <| ae (w_lit TT_ok k k k k k k k k k k k k) k <| aa k k ?_
 refine an <| tn <| ac_ent (t := mkS [(0, .list 1 (List.map (eLs 1 eI) a0)), (1, .int a1), (5, .own 0 0 (([] : (List (List Int))).length))] [(0, ⟨1, List.map (ow (eLs 1 eI)) ([] : (List (List Int)))⟩)] 1 [1, 2, 3, 4, 5]) (ent_mk (σ := sg [(0, 0)]) ⟨⟨_, k, ⟨k, k⟩⟩, (e1 k k), ⟨_, k, ⟨k, k, (by simp only [len_map, lA, lT, lR, lC, lN]), k⟩⟩, trivial⟩ (hB (okLs.plainO _) k k k <| trivial) k) <| sQ <| sQ <| rg <| aa k k <| an <| tn <| ac_block ?_
 obtain ⟨y12, hy12, h⟩ := ob h
 refine ac_Lp (body := (m_spec_l18Minor_L1 a0 a1)) hy12 (fun (x1 : (Int × (List (List Int)))) => mkS [(0, .list 1 (List.map (eLs 1 eI) a0)), (1, .int a1), (5, .own 0 0 x1.2.length), (6, .int x1.1)] [(0, ⟨1, List.map (ow (eLs 1 eI)) x1.2⟩)] 1 [1, 2, 3, 4, 5]) (fun r e t => e = .exit 0 ∧ Ent t (mkS [(5, .own 0 0 r.length)] [(0, ⟨1, List.map (ow (eLs 1 eI)) r⟩)] 1 [1, 2, 3, 4, 5])) (ent_mk (σ := sg [(0, 0)]) ⟨⟨_, k, ⟨k, k⟩⟩, (e1 k k), (oE k k), (e1 k k), trivial⟩ (hB (okLs.plainO _) k k k <| trivial) k) ?_ ?_
 ·intro x1 o h
  refine sQ <| sQ <| rg <| am k k <| am k k <| ae (lenL TT_ok k k k) k <| ae (w_cmp k k k) k <| an <| tn ?_
  rcases cb h with ⟨q1, h⟩ | ⟨q1, h⟩
  ·refine ac_condT k q1 <| ac_skip <| tn <| sQ <| ac_block <| sQ <| sQ <| rg <| am k k <| am k k ?_
   obtain ⟨q11, h⟩ := cg h
   refine ae (x_shr k k q11) k <| ae (x_and k k) k <| ae (w_cmp k k k) k <| an <| tn ?_
   rcases cb h with ⟨q2, h⟩ | ⟨q2, h⟩
   ·refine ac_condT k q2 <| ac_exit <| then_exit <| block_here <| tn <| rg <| am k k <| ae (x_add k k) k <| aa k k <| an ?_
    refine tn ?_
    obtain rfl := so h
    exact ⟨_, k, (ent_mk (σ := sg [(0, 0)]) ⟨⟨_, k, ⟨k, k⟩⟩, (e1 k k), (oE k k), (e1 k k), trivial⟩ (hB (okLs.plainO _) k k k <| trivial) k)⟩
   ·refine ac_condF k q2 <| ac_skip <| tn <| sQ <| rg <| ae (w_lit TT_ok k k k k k k k k k k k k) k <| aa k k <| an <| tn <| ac_ent (t := mkS [(0, .list 1 (List.map (eLs 1 eI) a0)), (1, .int a1), (5, .own 0 0 x1.2.length), (6, .int x1.1), (7, .own 1 0 (([] : (List Int)).length))] [(0, ⟨1, List.map (ow (eLs 1 eI)) x1.2⟩), (1, ⟨1, List.map (ow eI) ([] : (List Int))⟩)] 2 [2, 3, 4, 5]) (ent_mk (σ := sg [(0, 0), (1, 1)]) ⟨⟨_, k, ⟨k, k⟩⟩, (e1 k k), (oE k k), (e1 k k), ⟨_, k, ⟨k, k, (by simp only [len_map, lA, lT, lR, lC, lN]), k⟩⟩, trivial⟩ (hB (okLs.plainO _) k k k <| hI k k k <| trivial) k) ?_
    refine sQ <| sQ <| rg <| aa k k <| an <| tn <| ac_block ?_
    obtain ⟨y9, hy9, h⟩ := ob h
    refine ac_Lp (body := (m_spec_l18Minor_L2 a0 a1 x1)) hy9 (fun (x2 : ((List Int) × Int)) => mkS [(0, .list 1 (List.map (eLs 1 eI) a0)), (1, .int a1), (5, .own 0 0 x1.2.length), (6, .int x1.1), (7, .own 1 0 x2.1.length), (8, .int x2.2)] [(0, ⟨1, List.map (ow (eLs 1 eI)) x1.2⟩), (1, ⟨1, List.map (ow eI) x2.1⟩)] 2 [2, 3, 4, 5]) (fun r e t => e = .exit 2 ∧ Ent t (mkS [(0, .list 1 (List.map (eLs 1 eI) a0)), (1, .int a1), (5, .own 0 0 x1.2.length), (6, .int x1.1), (7, .own 1 0 r.length)] [(0, ⟨1, List.map (ow (eLs 1 eI)) x1.2⟩), (1, ⟨1, List.map (ow eI) r⟩)] 2 [2, 3, 4, 5])) (ent_mk (σ := sg [(0, 0), (1, 1)]) ⟨⟨_, k, ⟨k, k⟩⟩, (e1 k k), (oE k k), (e1 k k), (oE k k), (e1 k k), trivial⟩ (hB (okLs.plainO _) k k k <| hI k k k <| trivial) k) ?_ ?_
    ·intro x2 o h
     refine sQ <| sQ <| rg <| am k k <| am k k <| ae (lenL TT_ok k k k) k <| ae (w_cmp k k k) k <| an <| tn ?_
     rcases cb h with ⟨q3, h⟩ | ⟨q3, h⟩
     ·refine ac_condT k q3 <| ac_skip <| tn <| sQ <| ac_block <| sQ <| rg <| am k k <| am k k ?_
      obtain ⟨q8, h⟩ := cg h
      refine ae (x_shr k k q8) k <| ae (x_and k k) k <| ae (w_cmp k k k) k <| an <| tn ?_
      rcases cb h with ⟨q4, h⟩ | ⟨q4, h⟩
      ·refine ac_condT k q4 <| rg <| am k k <| am k k <| am k k ?_
       obtain ⟨v5, hv5, h⟩ := ob h
       refine ae (x_at_list TT_ok hv5 k k k k k k) k <| ae (w_load_ref TT_ok k k k k k k) k <| am k k ?_
       obtain ⟨v6, hv6, h⟩ := ob h
       refine ae (x_at_list TT_ok hv6 k k k k k k) k <| ae (w_load_ref TT_ok k k k k k k) k <| ae (w_lit TT_ok k k k k k k k k k k k k) k ?_
       obtain ⟨q7, h⟩ := cg h
       refine ae (x_app TT_ok (l := x2.1) (m := [v6]) okIo q7 k k k k k k k k k k k k) k <| aa k k <| an <| block_n <| tn <| ac_ent (t := mkS [(0, .list 1 (List.map (eLs 1 eI) a0)), (1, .int a1), (5, .own 0 0 x1.2.length), (6, .int x1.1), (7, .own 3 0 ((x2.1 ++ [v6]).length)), (8, .int x2.2)] [(0, ⟨1, List.map (ow (eLs 1 eI)) x1.2⟩), (3, ⟨1, List.map (ow eI) (x2.1 ++ [v6])⟩)] 4 [4, 5]) (ent_mk (σ := sg [(0, 0), (3, 3)]) ⟨⟨_, k, ⟨k, k⟩⟩, (e1 k k), (oE k k), (e1 k k), (oE k k), (e1 k k), trivial⟩ (hB (okLs.plainO _) k k k <| hI k k k <| trivial) k) <| rg <| am k k <| ae (x_add k k) k <| aa k k ?_
       refine an <| tn ?_
       obtain rfl := so h
       exact ⟨_, k, (ent_mk (σ := sg [(0, 0), (1, 3)]) ⟨⟨_, k, ⟨k, k⟩⟩, (e1 k k), (oE k k), (e1 k k), (oE k k), (e1 k k), trivial⟩ (hB (okLs.plainO _) k k k <| hI k k k <| trivial) k)⟩
      ·refine ac_condF k q4 <| ac_skip <| block_n <| tn <| rg <| am k k <| ae (x_add k k) k <| aa k k <| an <| tn ?_
       obtain rfl := so h
       exact ⟨_, k, (ent_mk (σ := sg [(0, 0), (1, 1)]) ⟨⟨_, k, ⟨k, k⟩⟩, (e1 k k), (oE k k), (e1 k k), (oE k k), (e1 k k), trivial⟩ (hB (okLs.plainO _) k k k <| hI k k k <| trivial) k)⟩
     ·refine ac_condF k q3 <| ac_exit <| then_exit <| then_exit ?_
      obtain rfl := so h
      exact ⟨_, k, k, (ent_mk (σ := sg [(0, 0), (1, 1)]) ⟨⟨_, k, ⟨k, k⟩⟩, (e1 k k), (oE k k), (e1 k k), (oE k k), trivial⟩ (hB (okLs.plainO _) k k k <| hI k k k <| trivial) k)⟩
    ·rintro e t ⟨rfl, hent⟩
     refine block_here <| tn <| ac_ent hent <| rg <| am k k <| am k k <| ae (w_lit TT_ok k k k k k k k k k k k k) k ?_
     obtain ⟨q10, h⟩ := cg h
     refine ae (x_app1 TT_ok (l := x1.2) (c := [.own 1 0 y9.length]) q10 k k k k k k k k k k k k k k) k <| aa k k <| an <| block_n <| tn <| ac_ent (t := mkS [(0, .list 1 (List.map (eLs 1 eI) a0)), (1, .int a1), (5, .own 3 0 ((x1.2 ++ [y9]).length)), (6, .int x1.1)] [(3, ⟨1, List.map (ow (eLs 1 eI)) (x1.2 ++ [y9])⟩)] 4 [4, 5]) (Ent.trans (ent_absL (b := 3) (b' := 1) (j := 0) (es' := List.map eI y9) k k k k (len_map _ _) (okI.frzs _)) (ent_mk (σ := sg [(3, 3)]) ⟨⟨_, k, ⟨k, k⟩⟩, (e1 k k), ⟨_, k, ⟨k, k, (by simp only [len_map, lA, lT, lR, lC, lN]), k⟩⟩, (e1 k k), trivial⟩ (hX ⟨_, k, k, .inl ⟨app_eq y9 k, okLs.plainO _⟩⟩ k <| trivial) k)) <| rg <| am k k <| ae (x_add k k) k <| aa k k ?_
     refine an <| tn ?_
     obtain rfl := so h
     exact ⟨_, k, (ent_mk (σ := sg [(0, 3)]) ⟨⟨_, k, ⟨k, k⟩⟩, (e1 k k), (oE k k), (e1 k k), trivial⟩ (hB (okLs.plainO _) k k k <| trivial) k)⟩
  ·refine ac_condF k q1 <| ac_exit <| then_exit <| then_exit ?_
   obtain rfl := so h
   exact ⟨_, k, k, (ent_mk (σ := sg [(0, 0)]) ⟨(oE k k), trivial⟩ (hB (okLs.plainO _) k k k <| trivial) k)⟩
 ·rintro e t ⟨rfl, hent⟩
  refine block_here <| tn <| ac_ent hent <| sQ <| rg <| am k k <| aa k k <| an <| tn <| ac_ret ?_
  obtain rfl := so h
  exact ret_mk k k k (xz_list (x_f1 okLs k k))

noncomputable def m_spec_KindOfQuiver_L1 (a0 : Qv) (v3 : (List (List Int))) (x1 : (Int × Int)) : Option ((Int × Int) ⊕ (Int ⊕ Int)) :=
  bif !decide (a0.n < 0) then
    (bif decide (x1.2 < shlI 1 a0.n) then
      (Option.bind (m_spec_l18Minor v3 x1.2) fun v5 =>
      Option.bind (m_spec_l18Det 8 v5) fun v6 =>
      bif decide (v6 < 0) then
        (some (.inr (.inr (3))))
      else
        (bif decide (v6 = 0) then
          (some (.inl (2, wr (x1.2 + 1))))
        else
          (some (.inl (x1.1, wr (x1.2 + 1))))))
    else
      (some (.inr (.inl x1.1))))
  else none

noncomputable def m_spec_KindOfQuiver (a0 : Qv) : Option Int :=
  Option.bind (m_spec_IsQuiver a0) fun v1 =>
  bif !v1 then
    (some (0))
  else
    (Option.bind (m_spec_SymmetricForm a0) fun v3 =>
    Option.bind (Lp (m_spec_KindOfQuiver_L1 a0 v3) (1, 1)) fun y10 =>
    Sum.elim (fun y11 =>
      some (y11)
    ) 
    (fun y12 =>
      some y12
    )
     y10)

theorem c_spec_KindOfQuiver (a0 : Qv) (r : Int) (h : m_spec_KindOfQuiver a0 = some r) : HasC Try.prog 10 [.agg (eQ a0)] (.int r) := by
 refine hasC_mk TT_ok (rvs := [.tmp 2]) (ns := [0, 1, 2, 3, 4]) Try.func10 k k Try.ntmps10 k k k <| sQ <| rg <| ae (w_box k k k k) k <| aa k k <| an <| tn <| sQ <| sQ <| rg ?_
 refine ae (w_load_ptr TT_ok k k k k k k k) k ?_
 obtain ⟨v1, hv1, h⟩ := ob h
 refine ae (w_call0s (c_spec_IsQuiver a0 v1 hv1) k (va_cons (va_agg' (v1_cons (v1_same k) (v1_cons (v1_same k) (v1_cons (v1_same k) v1_nil)))) va_nil)) k <| ae (w_not k) k <| an <| tn ?_
 rcases cb h with ⟨q2, h⟩ | ⟨q2, h⟩
 ·refine ac_condT k q2 <| sQ <| rg <| aa k k <| an <| tn <| ac_ret <| then_ret ?_
  obtain rfl := so h
  exact ret_mk k k k (fz_int k)
 ·refine ac_condF k q2 <| ac_skip <| tn <| sQ <| rg <| ae (w_load_ptr TT_ok k k k k k k k) k ?_
  obtain ⟨v3, hv3, h⟩ := ob h
  refine ae (AEff.conv (w_call0 (x := .own 1 0 (List.map (eLs 1 eI) v3).length) (nb := [(1, ⟨1, absEs (List.map (eLs 1 eI) v3)⟩)]) (c_spec_SymmetricForm a0 v3 hv3) k (by rfl) k k (okLs.good _) (va_cons (va_agg' (v1_cons (v1_same k) (v1_cons (v1_same k) (v1_cons (v1_same k) v1_nil)))) va_nil)) (v' := .own 1 0 v3.length) (ed' := [(1, some ⟨1, List.map (ow (eLs 1 eI)) v3⟩)]) (by simp only [len_map]) (ed_ok (nb' := [(1, ⟨1, List.map (ow (eLs 1 eI)) v3⟩)]) (by simp only [abs_map]))) k <| aa k k <| an <| tn <| sQ <| rg <| aa k k <| an <| tn <| sQ ?_
  refine sQ <| rg <| aa k k <| an <| tn <| ac_block ?_
  obtain ⟨y10, hy10, h⟩ := ob h
  refine ac_Lp (body := (m_spec_KindOfQuiver_L1 a0 v3)) hy10 (fun (x1 : (Int × Int)) => mkS [(1, .ptr 0 0 0), (3, .own 1 0 v3.length), (4, .int x1.1), (5, .int x1.2)] [(0, ⟨3, [[.int a0.n, .list 1 (List.map eI a0.src), .list 1 (List.map eI a0.tgt)]]⟩), (1, ⟨1, List.map (ow (eLs 1 eI)) v3⟩)] 2 [2, 3, 4]) (fun r e t => Sum.elim (fun a => (fun r e t => e = .exit 0 ∧ Ent t (mkS [(4, .int r)] [] 0 [0, 1, 2, 3, 4])) a e t) (fun b => (fun r e t => e = .ret ∧ RetQ TT [.tmp 2] (.int r) .ret t) b e t) r) (ent_mk (σ := sg [(0, 0), (1, 1)]) ⟨(pE k k), (oE k k), (e1 k k), (e1 k k), trivial⟩ (hP k k k k <| hB (okLs.plainO _) k k k <| trivial) k) ?_ ?_
  ·intro x1 o h
   refine sQ <| sQ <| rg <| am k k <| ae (w_field_ptr TT_ok k k k k k k k) k <| ae (w_load_ptr TT_ok k k k k k k k) k ?_
   obtain ⟨q9, h⟩ := cg h
   refine ae (x_shl k k q9) k <| ae (w_cmp k k k) k <| an <| tn ?_
   rcases cb h with ⟨q4, h⟩ | ⟨q4, h⟩
   ·refine ac_condT k q4 <| ac_skip <| tn <| sQ <| ac_block <| sQ <| rg <| am k k <| am k k ?_
    obtain ⟨v5, hv5, h⟩ := ob h
    refine ae (AEff.conv (w_call0 (x := .own 2 0 (List.map (eLs 1 eI) v5).length) (nb := [(2, ⟨1, absEs (List.map (eLs 1 eI) v5)⟩)]) (c_spec_l18Minor v3 x1.2 v5 hv5) k (by rfl) k k (okLs.good _) (va_cons (va_T okLs k k) (va_cons (va_same k) va_nil))) (v' := .own 2 0 v5.length) (ed' := [(2, some ⟨1, List.map (ow (eLs 1 eI)) v5⟩)]) (by simp only [len_map]) (ed_ok (nb' := [(2, ⟨1, List.map (ow (eLs 1 eI)) v5⟩)]) (by simp only [abs_map]))) k ?_
    obtain ⟨v6, hv6, h⟩ := ob h
    refine ae (w_call0s (c_spec_l18Det 8 v5 v6 hv6) k (va_cons (va_T okLs k k) va_nil)) k <| aa k k <| an <| tn <| sQ <| sQ <| rg <| am k k <| ae (w_cmp k k k) k <| an ?_
    refine tn <| ac_ent (t := mkS [(1, .ptr 0 0 0), (3, .own 1 0 v3.length), (4, .int x1.1), (5, .int x1.2), (6, .int v6), (24, .bl (decide (v6 < 0)))] [(0, ⟨3, [[.int a0.n, .list 1 (List.map eI a0.src), .list 1 (List.map eI a0.tgt)]]⟩), (1, ⟨1, List.map (ow (eLs 1 eI)) v3⟩)] 3 [3, 4]) (ent_mk (σ := sg [(0, 0), (1, 1)]) ⟨(pE k k), (oE k k), (e1 k k), (e1 k k), (e1 k k), (e1 k k), trivial⟩ (hP k k k k <| hB (okLs.plainO _) k k k <| trivial) k) ?_
    rcases cb h with ⟨q7, h⟩ | ⟨q7, h⟩
    ·refine ac_condT k q7 <| sQ <| rg <| aa k k <| an <| tn <| ac_ret <| then_ret <| block_ret <| then_ret ?_
     refine then_ret ?_
     obtain rfl := so h
     exact ⟨_, k, k, ret_mk k k k (fz_int k)⟩
    ·refine ac_condF k q7 <| ac_skip <| tn <| sQ <| rg <| am k k <| ae (w_cmp k k k) k <| an <| tn ?_
     rcases cb h with ⟨q8, h⟩ | ⟨q8, h⟩
     ·refine ac_condT k q8 <| rg <| aa k k <| an <| block_n <| tn <| rg <| am k k <| ae (x_add k k) k <| aa k k ?_
      refine an <| tn ?_
      obtain rfl := so h
      exact ⟨_, k, (ent_mk (σ := sg [(0, 0), (1, 1)]) ⟨(pE k k), (oE k k), (e1 k k), (e1 k k), trivial⟩ (hP k k k k <| hB (okLs.plainO _) k k k <| trivial) k)⟩
     ·refine ac_condF k q8 <| ac_skip <| block_n <| tn <| rg <| am k k <| ae (x_add k k) k <| aa k k <| an <| tn ?_
      obtain rfl := so h
      exact ⟨_, k, (ent_mk (σ := sg [(0, 0), (1, 1)]) ⟨(pE k k), (oE k k), (e1 k k), (e1 k k), trivial⟩ (hP k k k k <| hB (okLs.plainO _) k k k <| trivial) k)⟩
   ·refine ac_condF k q4 <| ac_exit <| then_exit <| then_exit ?_
    obtain rfl := so h
    exact ⟨_, k, k, (ent_mk (σ := sg []) ⟨(e1 k k), trivial⟩ trivial k)⟩
  ·intro e t hX
   rcases y10 with y11 | y12
   ·obtain ⟨rfl, hent⟩ := hX
    refine block_here <| tn <| ac_ent hent <| sQ <| rg <| am k k <| aa k k <| an <| tn <| ac_ret ?_
    obtain rfl := so h
    exact ret_mk k k k (fz_int k)
   ·obtain ⟨rfl, hent⟩ := hX
    refine block_ret <| then_ret ?_
    obtain rfl := so h
    exact hent

end Go.Proofs.Ytinllccaphhmcaa
end

section
set_option linter.unusedVariables false
set_option linter.unusedSimpArgs false

namespace Go.Proofs.Ytinllccaphhmcaa
open Go.RowKit
set_option linter.unusedVariables false
set_option linter.unusedSimpArgs false
set_option maxRecDepth 10000
set_option maxHeartbeats 4000000

def m_laws_szIntS (a0 : (List Int)) (a1 : Int) : Option Int :=
  bif decide (wr (a1 - (a0.length : Int)) < 0) then
    (some ((-1)))
  else
    (some (wr (a1 - (a0.length : Int))))

theorem c_laws_szIntS (a0 : (List Int)) (a1 : Int) (r : Int) (h : m_laws_szIntS a0 a1 = some r) : HasC Try.prog 9 [.list 1 (List.map eI a0), .int a1] (.int r) := by
 refine hasC_mk TT_ok (rvs := [.tmp 4]) (ns := [0, 1]) Try.func9 k k Try.ntmps9 k k k <| sQ <| rg <| aa k k <| an <| tn <| sQ <| rg <| am k k <| am k k ?_
 refine ae (lenL TT_ok k k k) k <| ae (x_sub k k) k <| aa k k <| an <| tn <| sQ <| sQ <| rg <| am k k <| ae (w_cmp k k k) k ?_
 refine an <| tn ?_
 rcases cb h with ⟨q1, h⟩ | ⟨q1, h⟩
 ·refine ac_condT k q1 <| sQ <| rg <| aa k k <| an <| tn <| ac_ret <| then_ret ?_
  obtain rfl := so h
  exact ret_mk k k k (fz_int k)
 ·refine ac_condF k q1 <| ac_skip <| tn <| sQ <| rg <| am k k <| aa k k <| an <| tn <| ac_ret ?_
  obtain rfl := so h
  exact ret_mk k k k (fz_int k)

noncomputable def m_laws_szQuiver (a0 : Qv) (a1 : Int) : Option Int :=
  Option.bind (m_laws_szIntS a0.src a1) fun v1 =>
  bif decide (v1 < 0) then
    (some ((-1)))
  else
    (Option.bind (m_laws_szIntS a0.tgt v1) fun v3 =>
    bif decide (v3 < 0) then
      (some ((-1)))
    else
      (some (v3)))

theorem c_laws_szQuiver (a0 : Qv) (a1 : Int) (r : Int) (h : m_laws_szQuiver a0 a1 = some r) : HasC Try.prog 4 [.agg (eQ a0), .int a1] (.int r) := by
 refine hasC_mk TT_ok (rvs := [.tmp 4]) (ns := [0, 1, 2]) Try.func4 k k Try.ntmps4 k k k <| sQ <| rg <| ae (w_box k k k k) k <| aa k k <| an <| tn <| sQ <| rg <| ae (w_field_ptr TT_ok k k k k k k k) k ?_
 refine ae (w_load_ptr TT_ok k k k k k k k) k <| am k k ?_
 obtain ⟨v1, hv1, h⟩ := ob h
 refine ae (w_call0s (c_laws_szIntS a0.src a1 v1 hv1) k (va_cons (va_same k) (va_cons (va_same k) va_nil))) k <| aa k k <| an <| tn <| sQ <| sQ <| rg <| am k k <| ae (w_cmp k k k) k <| an ?_
 refine tn ?_
 rcases cb h with ⟨q2, h⟩ | ⟨q2, h⟩
 ·refine ac_condT k q2 <| sQ <| rg <| aa k k <| an <| tn <| ac_ret <| then_ret ?_
  obtain rfl := so h
  exact ret_mk k k k (fz_int k)
 ·refine ac_condF k q2 <| ac_skip <| tn <| sQ <| rg <| ae (w_field_ptr TT_ok k k k k k k k) k <| ae (w_load_ptr TT_ok k k k k k k k) k <| am k k ?_
  obtain ⟨v3, hv3, h⟩ := ob h
  refine ae (w_call0s (c_laws_szIntS a0.tgt v1 v3 hv3) k (va_cons (va_same k) (va_cons (va_same k) va_nil))) k <| aa k k <| an <| tn <| ac_ent (t := mkS [(1, .int v3)] [] 1 [1, 2]) (ent_mk (σ := sg []) ⟨(e1 k k), trivial⟩ trivial k) <| sQ <| sQ <| rg <| am k k <| ae (w_cmp k k k) k ?_
  refine an <| tn ?_
  rcases cb h with ⟨q4, h⟩ | ⟨q4, h⟩
  ·refine ac_condT k q4 <| sQ <| rg <| aa k k <| an <| tn <| ac_ret <| then_ret ?_
   obtain rfl := so h
   exact ret_mk k k k (fz_int k)
  ·refine ac_condF k q4 <| ac_skip <| tn <| sQ <| rg <| am k k <| aa k k <| an <| tn <| ac_ret ?_
   obtain rfl := so h
   exact ret_mk k k k (fz_int k)

noncomputable def m_laws_toIntS_L1 (a0 : (List Int)) (x1 : ((List Int) × Int)) : Option (((List Int) × Int) ⊕ (List Int)) :=
  bif decide (x1.2 < (a0.length : Int)) then
    (Option.bind (atL a0 x1.2) fun v2 =>
    Option.bind (atL x1.1 x1.2) fun v3 =>
    some (.inl ((x1.1.set x1.2.toNat v2), wr (x1.2 + 1))))
  else
    (some (.inr x1.1))

noncomputable def m_laws_toIntS (a0 : (List Int)) : Option (List Int) :=
  bif (decide (0 ≤ (a0.length : Int)) && decide ((a0.length : Int) ≤ 1048576)) then
    (Option.bind (Lp (m_laws_toIntS_L1 a0) ((List.replicate ((a0.length : Int).toNat) (0 : Int)), 0)) fun y4 =>
    some (y4))
  else none

theorem c_laws_toIntS (a0 : (List Int)) (r : (List Int)) (h : m_laws_toIntS a0 = some r) : HasC Try.prog 13 [.list 1 (List.map eI a0)] (.list 1 (List.map eI r)) := by
 refine hasC_mk TT_ok (rvs := [.tmp 2]) (ns := [0, 1, 2]) Try.func13 k k Try.ntmps13 k k k <| sQ <| rg <| aa k k <| an <| tn <| sQ <| rg <| am k k <| ae (lenL TT_ok k k k) k ?_
 obtain ⟨q5, h⟩ := cg h
 refine ae (x_make TT_ok q5 k k k k k k k k) k <| aa k k <| an <| tn <| ac_ent (t := mkS [(0, .list 1 (List.map eI a0)), (3, .own 0 0 ((List.replicate ((a0.length : Int).toNat) (0 : Int)).length))] [(0, ⟨1, List.map (ow eI) (List.replicate ((a0.length : Int).toNat) (0 : Int))⟩)] 1 [1, 2]) (ent_mk (σ := sg [(0, 0)]) ⟨⟨_, k, ⟨k, k⟩⟩, ⟨_, k, ⟨k, k, (by simp only [len_map, lA, lT, lR, lC, lN]), k⟩⟩, trivial⟩ (hX ⟨_, k, k, .inl ⟨rep_eq (e := eI) (z := 0) _, okI.plainO _⟩⟩ k <| trivial) k) <| sQ <| sQ <| rg <| aa k k <| an ?_
 refine tn <| ac_block ?_
 obtain ⟨y4, hy4, h⟩ := ob h
 refine ac_Lp (body := (m_laws_toIntS_L1 a0)) hy4 (fun (x1 : ((List Int) × Int)) => mkS [(0, .list 1 (List.map eI a0)), (3, .own 0 0 x1.1.length), (4, .int x1.2)] [(0, ⟨1, List.map (ow eI) x1.1⟩)] 1 [1, 2]) (fun r e t => e = .exit 0 ∧ Ent t (mkS [(3, .own 0 0 r.length)] [(0, ⟨1, List.map (ow eI) r⟩)] 1 [1, 2])) (ent_mk (σ := sg [(0, 0)]) ⟨⟨_, k, ⟨k, k⟩⟩, (oE k k), (e1 k k), trivial⟩ (hI k k k <| trivial) k) ?_ ?_
 ·intro x1 o h
  refine sQ <| sQ <| rg <| am k k <| am k k <| ae (lenL TT_ok k k k) k <| ae (w_cmp k k k) k <| an <| tn ?_
  rcases cb h with ⟨q1, h⟩ | ⟨q1, h⟩
  ·refine ac_condT k q1 <| ac_skip <| tn <| sQ <| ac_block <| rg <| am k k <| am k k <| am k k <| am k k ?_
   obtain ⟨v2, hv2, h⟩ := ob h
   refine ae (x_at_list TT_ok hv2 k k k k k k) k <| ae (w_load_ref TT_ok k k k k k k) k ?_
   obtain ⟨v3, hv3, h⟩ := ob h
   refine ae (x_at_own TT_ok (atL_nn hv3) (atL_lt hv3) k k k k k k k) k <| ae (x_store TT_ok okIo (u := v2) (atL_get hv3) k k k k k k) k <| an <| block_n <| tn <| ac_ent (t := mkS [(0, .list 1 (List.map eI a0)), (3, .own 0 0 ((x1.1.set x1.2.toNat v2).length)), (4, .int x1.2)] [(0, ⟨1, List.map (ow eI) (x1.1.set x1.2.toNat v2)⟩)] 1 [1, 2]) (ent_mk (σ := sg [(0, 0)]) ⟨⟨_, k, ⟨k, k⟩⟩, ⟨_, k, ⟨k, k, (by simp only [len_map, lA, lT, lR, lC, lN]), k⟩⟩, (e1 k k), trivial⟩ (hI k k k <| trivial) k) <| rg <| am k k <| ae (x_add k k) k <| aa k k ?_
   refine an <| tn ?_
   obtain rfl := so h
   exact ⟨_, k, (ent_mk (σ := sg [(0, 0)]) ⟨⟨_, k, ⟨k, k⟩⟩, (oE k k), (e1 k k), trivial⟩ (hI k k k <| trivial) k)⟩
  ·refine ac_condF k q1 <| ac_exit <| then_exit <| then_exit ?_
   obtain rfl := so h
   exact ⟨_, k, k, (ent_mk (σ := sg [(0, 0)]) ⟨(oE k k), trivial⟩ (hI k k k <| trivial) k)⟩
 ·rintro e t ⟨rfl, hent⟩
  refine block_here <| tn <| ac_ent hent <| sQ <| rg <| am k k <| aa k k <| an <| tn <| ac_ret ?_
  obtain rfl := so h
  exact ret_mk k k k (xz_list (x_f1 okI k k))

noncomputable def m_laws_toQuiver (a0 : Qv) : Option Qv :=
  Option.bind (m_laws_toIntS a0.src) fun v1 =>
  Option.bind (m_laws_toIntS a0.tgt) fun v2 =>
  some ((⟨a0.n, v1, v2⟩ : Qv))

theorem c_laws_toQuiver (a0 : Qv) (r : Qv) (h : m_laws_toQuiver a0 = some r) : HasC Try.prog 6 [.agg (eQ a0)] (.agg (eQ r)) := by
 refine hasC_mk TT_ok (rvs := [.cell 2 27]) (ns := [0, 1, 2, 3, 4, 5, 6]) Try.func6 k k Try.ntmps6 k k k <| sQ <| rg <| ae (w_box k k k k) k <| ae (w_alloc TT_ok k k) k <| an <| tn <| sQ <| rg <| ae (w_alloc TT_ok k k) k ?_
 refine an <| tn <| sQ <| rg <| ae (w_field_ptr TT_ok k k k k k k k) k <| ae (w_load_ptr TT_ok k k k k k k k) k <| ae (w_field_ptr TT_ok k k k k k k k) k <| ae (w_store TT_ok k k k k k k k k) k <| an <| tn ?_
 refine sQ <| rg <| ae (w_field_ptr TT_ok k k k k k k k) k <| ae (w_load_ptr TT_ok k k k k k k k) k ?_
 obtain ⟨v1, hv1, h⟩ := ob h
 refine ae (AEff.conv (w_call0 (x := .own 3 0 (List.map eI v1).length) (nb := [(3, ⟨1, absEs (List.map eI v1)⟩)]) (c_laws_toIntS a0.src v1 hv1) k (by rfl) k k (okI.good _) (va_cons (va_same k) va_nil)) (v' := .own 3 0 v1.length) (ed' := [(3, some ⟨1, List.map (ow eI) v1⟩)]) (by simp only [len_map]) (ed_ok (nb' := [(3, ⟨1, List.map (ow eI) v1⟩)]) (by simp only [abs_map]))) k <| ae (w_field_ptr TT_ok k k k k k k k) k <| ae (w_store TT_ok k k k k k k k k) k <| an <| tn <| ac_ent (t := mkS [(1, .ptr 0 0 0), (2, .ptr 1 0 0), (3, .ptr 2 0 0)] [(0, ⟨3, [[.int a0.n, .list 1 (List.map eI a0.src), .list 1 (List.map eI a0.tgt)]]⟩), (1, ⟨3, [[.int 0, .nil 1, .nil 1]]⟩), (2, ⟨3, [[.int a0.n, .own 3 0 v1.length, .nil 1]]⟩), (3, ⟨1, List.map (ow eI) v1⟩)] 4 [4, 5, 6]) (ent_mk (σ := sg [(0, 0), (1, 1), (2, 2), (3, 3)]) ⟨(pE k k), (pE k k), (pE k k), trivial⟩ (hP k k k k <| hP k k k k <| hX ⟨_, k, k, .inr ⟨_, _, k, ⟨_, _, k, k, ⟨_, _, k, ⟨k, k, k, k⟩, ⟨_, _, k, trivial, k⟩⟩⟩, k⟩⟩ k <| hI k k k <| trivial) k) <| sQ <| rg <| ae (w_field_ptr TT_ok k k k k k k k) k <| ae (w_load_ptr TT_ok k k k k k k k) k ?_
 obtain ⟨v2, hv2, h⟩ := ob h
 refine ae (AEff.conv (w_call0 (x := .own 4 0 (List.map eI v2).length) (nb := [(4, ⟨1, absEs (List.map eI v2)⟩)]) (c_laws_toIntS a0.tgt v2 hv2) k (by rfl) k k (okI.good _) (va_cons (va_same k) va_nil)) (v' := .own 4 0 v2.length) (ed' := [(4, some ⟨1, List.map (ow eI) v2⟩)]) (by simp only [len_map]) (ed_ok (nb' := [(4, ⟨1, List.map (ow eI) v2⟩)]) (by simp only [abs_map]))) k <| ae (w_field_ptr TT_ok k k k k k k k) k <| ae (w_store TT_ok k k k k k k k k) k <| an <| tn <| sQ <| rg <| ae (w_load_ptr TT_ok k k k k k k k) k <| ae (w_store TT_ok k k k k k k k k) k <| an ?_
 refine tn <| ac_ret ?_
 obtain rfl := so h
 exact ret_mk k k k (xz_agg (x1_cons (k) (x1_cons (x_f1 okI k k) (x1_cons (x_f1 okI k k) x1_nil))))

noncomputable def m_laws_eqIntS_L1 (a0 : (List Int)) (a1 : (List Int)) (x1 : Int) : Option (Int ⊕ (Unit ⊕ Bool)) :=
  bif decide (x1 < (a0.length : Int)) then
    (Option.bind (atL a0 x1) fun v3 =>
    Option.bind (atL a1 x1) fun v4 =>
    bif !decide (v3 = v4) then
      (some (.inr (.inr (false))))
    else
      (some (.inl (wr (x1 + 1)))))
  else
    (some (.inr (.inl ())))

noncomputable def m_laws_eqIntS (a0 : (List Int)) (a1 : (List Int)) : Option Bool :=
  bif !decide ((a0.length : Int) = (a1.length : Int)) then
    (some (false))
  else
    (Option.bind (Lp (m_laws_eqIntS_L1 a0 a1) 0) fun y6 =>
    Sum.elim (fun y7 =>
      some (true)
    ) 
    (fun y8 =>
      some y8
    )
     y6)

theorem c_laws_eqIntS (a0 : (List Int)) (a1 : (List Int)) (r : Bool) (h : m_laws_eqIntS a0 a1 = some r) : HasC Try.prog 17 [.list 1 (List.map eI a0), .list 1 (List.map eI a1)] (.bl r) := by
 refine hasC_mk TT_ok (rvs := [.tmp 4]) (ns := [0, 1]) Try.func17 k k Try.ntmps17 k k k <| sQ <| rg <| aa k k <| an <| tn <| sQ <| sQ <| rg <| am k k ?_
 refine ae (lenL TT_ok k k k) k <| am k k <| ae (lenL TT_ok k k k) k <| ae (w_cmp k k k) k <| an <| tn ?_
 rcases cb h with ⟨q1, h⟩ | ⟨q1, h⟩
 ·refine ac_condT k q1 <| sQ <| rg <| aa k k <| an <| tn <| ac_ret <| then_ret ?_
  obtain rfl := so h
  exact ret_mk k k k (fz_bl k)
 ·refine ac_condF k q1 <| ac_skip <| tn <| sQ <| sQ <| rg <| aa k k <| an <| tn <| ac_block ?_
  obtain ⟨y6, hy6, h⟩ := ob h
  refine ac_Lp (body := (m_laws_eqIntS_L1 a0 a1)) hy6 (fun (x1 : Int) => mkS [(0, .list 1 (List.map eI a0)), (1, .list 1 (List.map eI a1)), (5, .int x1)] [] 0 [0, 1]) (fun r e t => Sum.elim (fun a => (fun r e t => e = .exit 0 ∧ Ent t (mkS [] [] 0 [0, 1])) a e t) (fun b => (fun r e t => e = .ret ∧ RetQ TT [.tmp 4] (.bl r) .ret t) b e t) r) (ent_mk (σ := sg []) ⟨⟨_, k, ⟨k, k⟩⟩, ⟨_, k, ⟨k, k⟩⟩, (e1 k k), trivial⟩ trivial k) ?_ ?_
  ·intro x1 o h
   refine sQ <| sQ <| rg <| am k k <| am k k <| ae (lenL TT_ok k k k) k <| ae (w_cmp k k k) k <| an <| tn ?_
   rcases cb h with ⟨q2, h⟩ | ⟨q2, h⟩
   ·refine ac_condT k q2 <| ac_skip <| tn <| sQ <| ac_block <| sQ <| ac_region_draw MIXX <| am k k <| am k k ?_
    obtain ⟨v3, hv3, h⟩ := ob h
    refine ae (x_at_list TT_ok hv3 k k k k k k) k <| ae (w_load_ref TT_ok k k k k k k) k <| am k k <| am k k ?_
    obtain ⟨v4, hv4, h⟩ := ob h
    refine ae (x_at_list TT_ok hv4 k k k k k k) k <| ae (w_load_ref TT_ok k k k k k k) k <| ae (w_cmp k k k) k <| an ?_
    refine ⟨by kernel_rfl, ?_⟩
    refine tn <| ac_ent (t := mkS [(0, .list 1 (List.map eI a0)), (1, .list 1 (List.map eI a1)), (5, .int x1), (25, .bl (!decide (v3 = v4)))] [] 0 [0, 1]) (ent_mk (σ := sg []) ⟨⟨_, k, ⟨k, k⟩⟩, ⟨_, k, ⟨k, k⟩⟩, (e1 k k), (e1 k k), trivial⟩ trivial k) ?_
    rcases cb h with ⟨q5, h⟩ | ⟨q5, h⟩
    ·refine ac_condT k q5 <| sQ <| rg <| aa k k <| an <| tn <| ac_ret <| block_ret <| then_ret <| then_ret ?_
     obtain rfl := so h
     exact ⟨_, k, k, ret_mk k k k (fz_bl k)⟩
    ·refine ac_condF k q5 <| ac_skip <| block_n <| tn <| rg <| am k k <| ae (x_add k k) k <| aa k k <| an <| tn ?_
     obtain rfl := so h
     exact ⟨_, k, (ent_mk (σ := sg []) ⟨⟨_, k, ⟨k, k⟩⟩, ⟨_, k, ⟨k, k⟩⟩, (e1 k k), trivial⟩ trivial k)⟩
   ·refine ac_condF k q2 <| ac_exit <| then_exit <| then_exit ?_
    obtain rfl := so h
    exact ⟨_, k, k, (ent_mk (σ := sg []) trivial trivial k)⟩
  ·intro e t hX
   rcases y6 with y7 | y8
   ·obtain ⟨rfl, hent⟩ := hX
    refine block_here <| tn <| ac_ent hent <| sQ <| rg <| aa k k <| an <| tn <| ac_ret ?_
    obtain rfl := so h
    exact ret_mk k k k (fz_bl k)
   ·obtain ⟨rfl, hent⟩ := hX
    refine block_ret <| then_ret ?_
    obtain rfl := so h
    exact hent

noncomputable def m_laws_eqQuiver (a0 : Qv) (a1 : Qv) : Option Bool :=
  bif !decide (a0.n = a1.n) then
    (some (false))
  else
    (Option.bind (m_laws_eqIntS a0.src a1.src) fun v2 =>
    bif !v2 then
      (some (false))
    else
      (Option.bind (m_laws_eqIntS a0.tgt a1.tgt) fun v4 =>
      bif !v4 then
        (some (false))
      else
        (some (true))))

theorem c_laws_eqQuiver (a0 : Qv) (a1 : Qv) (r : Bool) (h : m_laws_eqQuiver a0 a1 = some r) : HasC Try.prog 8 [.agg (eQ a0), .agg (eQ a1)] (.bl r) := by
 refine hasC_mk TT_ok (rvs := [.tmp 4]) (ns := [0, 1, 2, 3]) Try.func8 k k Try.ntmps8 k k k <| sQ <| rg <| ae (w_box k k k k) k <| ae (w_box k k k k) k <| aa k k <| an <| tn <| sQ <| sQ ?_
 refine rg <| ae (w_field_ptr TT_ok k k k k k k k) k <| ae (w_load_ptr TT_ok k k k k k k k) k <| ae (w_field_ptr TT_ok k k k k k k k) k <| ae (w_load_ptr TT_ok k k k k k k k) k <| ae (w_cmp k k k) k <| an <| tn ?_
 rcases cb h with ⟨q1, h⟩ | ⟨q1, h⟩
 ·refine ac_condT k q1 <| sQ <| rg <| aa k k <| an <| tn <| ac_ret <| then_ret ?_
  obtain rfl := so h
  exact ret_mk k k k (fz_bl k)
 ·refine ac_condF k q1 <| ac_skip <| tn <| sQ <| sQ <| rg <| ae (w_field_ptr TT_ok k k k k k k k) k <| ae (w_load_ptr TT_ok k k k k k k k) k <| ae (w_field_ptr TT_ok k k k k k k k) k <| ae (w_load_ptr TT_ok k k k k k k k) k ?_
  obtain ⟨v2, hv2, h⟩ := ob h
  refine ae (w_call0s (c_laws_eqIntS a0.src a1.src v2 hv2) k (va_cons (va_same k) (va_cons (va_same k) va_nil))) k <| ae (w_not k) k <| an <| tn <| ac_ent (t := mkS [(2, .ptr 0 0 0), (3, .ptr 1 0 0), (15, .bl (!v2))] [(0, ⟨3, [[.int a0.n, .list 1 (List.map eI a0.src), .list 1 (List.map eI a0.tgt)]]⟩), (1, ⟨3, [[.int a1.n, .list 1 (List.map eI a1.src), .list 1 (List.map eI a1.tgt)]]⟩)] 2 [2, 3]) (ent_mk (σ := sg [(0, 0), (1, 1)]) ⟨(pE k k), (pE k k), (e1 k k), trivial⟩ (hP k k k k <| hP k k k k <| trivial) k) ?_
  rcases cb h with ⟨q3, h⟩ | ⟨q3, h⟩
  ·refine ac_condT k q3 <| sQ <| rg <| aa k k <| an <| tn <| ac_ret <| then_ret ?_
   obtain rfl := so h
   exact ret_mk k k k (fz_bl k)
  ·refine ac_condF k q3 <| ac_skip <| tn <| sQ <| sQ <| rg <| ae (w_field_ptr TT_ok k k k k k k k) k <| ae (w_load_ptr TT_ok k k k k k k k) k <| ae (w_field_ptr TT_ok k k k k k k k) k <| ae (w_load_ptr TT_ok k k k k k k k) k ?_
   obtain ⟨v4, hv4, h⟩ := ob h
   refine ae (w_call0s (c_laws_eqIntS a0.tgt a1.tgt v4 hv4) k (va_cons (va_same k) (va_cons (va_same k) va_nil))) k <| ae (w_not k) k <| an <| tn ?_
   rcases cb h with ⟨q5, h⟩ | ⟨q5, h⟩
   ·refine ac_condT k q5 <| sQ <| rg <| aa k k <| an <| tn <| ac_ret <| then_ret ?_
    obtain rfl := so h
    exact ret_mk k k k (fz_bl k)
   ·refine ac_condF k q5 <| ac_skip <| tn <| sQ <| rg <| aa k k <| an <| tn <| ac_ret ?_
    obtain rfl := so h
    exact ret_mk k k k (fz_bl k)

end Go.Proofs.Ytinllccaphhmcaa
end

section
set_option linter.unusedVariables false
set_option linter.unusedSimpArgs false

namespace Go.Proofs.Ytinllccaphhmcaa
open Go.RowKit
set_option linter.unusedVariables false
def zI (n : Nat) (left : Int) : Int := if left - n < 0 then -1 else left - n
def zC : List (Int → Int) → Int → Int
 | [], left => left
 | f :: fs, left => if f left < 0 then -1 else zC fs (f left)
def zS {α : Type} (f : α → Int → Int) (l : List α) (left : Int) : Int := if left - l.length < 0 then -1 else zC (l.map f) (left - l.length)
def zQ (q : Qv) : Int → Int := zC [zI q.src.length, zI q.tgt.length]
def zM (m : Mt) : Int → Int := zC [zI m.cells.length]
def zR (r : Rp) : Int → Int := zC [zQ r.q, zI r.dims.length, zS zM r.maps]
def zRow (l : List Int) : Int → Int := zI l.length
def zSc (s : Sc) : Int → Int := zC [zS zRow s.basis]
def zB (l : List Br) : Int → Int := zI l.length
def zCl (c : Cl) : Int → Int := zC [zR c.rep, zR c.other, zS zR c.parts, zS zM c.maps, zB c.bars, zI c.theta.length, zS zSc c.subs]
def Falls (f : Int → Int) (b : Prop) : Prop := ∀ left, 0 ≤ left → left ≤ 1048576 → f left = -1 ∨ (0 ≤ f left ∧ f left ≤ left ∧ b)
theorem falls_I (n : Nat) : Falls (zI n) (n ≤ 1048576) := by
 intro left h0 h1
 unfold zI
 by_cases h : left - n < 0
 ·rw [if_pos h]; exact .inl rfl
 ·rw [if_neg h]; exact .inr ⟨by omega, by omega, by omega⟩
theorem falls_nil : Falls (zC []) True := fun left h0 _ => .inr ⟨h0, Int.le_refl _, trivial⟩
theorem falls_cons {f : Int → Int} {fs : List (Int → Int)} {b bs : Prop} (h : Falls f b) (k : Falls (zC fs) bs) : Falls (zC (f :: fs)) (b ∧ bs) := by
 intro left h0 h1
 unfold zC
 rcases h left h0 h1 with e | ⟨e1, e2, e3⟩
 ·rw [e, if_pos (by decide)]; exact .inl rfl
 ·rw [if_neg (by omega)]
  rcases k (f left) e1 (by omega) with g | ⟨g1, g2, g3⟩
  ·exact .inl g
  ·exact .inr ⟨g1, by omega, e3, g3⟩
theorem falls_map {α : Type} {f : α → Int → Int} {b : α → Prop} (h : ∀ x, Falls (f x) (b x)) : ∀ l : List α, Falls (zC (l.map f)) (∀ x ∈ l, b x)
 | [] => fun left h0 _ => .inr ⟨h0, Int.le_refl _, by simp⟩
 | x :: l => fun left h0 h1 => by
  rcases falls_cons (h x) (falls_map h l) left h0 h1 with e | ⟨e1, e2, e3, e4⟩
  ·exact .inl e
  ·exact .inr ⟨e1, e2, fun y hy => by rcases List.mem_cons.1 hy with rfl | h'; exact e3; exact e4 y h'⟩
theorem falls_S {α : Type} {f : α → Int → Int} {b : α → Prop} (h : ∀ x, Falls (f x) (b x)) (l : List α) : Falls (zS f l) (l.length ≤ 1048576 ∧ ∀ x ∈ l, b x) := by
 intro left h0 h1
 unfold zS
 by_cases e : left - l.length < 0
 ·rw [if_pos e]; exact .inl rfl
 ·rw [if_neg e]
  rcases falls_map h l (left - l.length) (by omega) (by omega) with g | ⟨g1, g2, g3⟩
  ·exact .inl g
  ·exact .inr ⟨g1, by omega, by omega, g3⟩
def bI (l : List Int) : Prop := l.length ≤ 1048576
def bQ (q : Qv) : Prop := bI q.src ∧ bI q.tgt ∧ True
def bM (m : Mt) : Prop := bI m.cells ∧ True
def bR (r : Rp) : Prop := bQ r.q ∧ bI r.dims ∧ (r.maps.length ≤ 1048576 ∧ ∀ m ∈ r.maps, bM m) ∧ True
def bS (s : Sc) : Prop := (s.basis.length ≤ 1048576 ∧ ∀ v ∈ s.basis, bI v) ∧ True
def bC (c : Cl) : Prop := bR c.rep ∧ bR c.other ∧ (c.parts.length ≤ 1048576 ∧ ∀ r ∈ c.parts, bR r) ∧ (c.maps.length ≤ 1048576 ∧ ∀ m ∈ c.maps, bM m) ∧ c.bars.length ≤ 1048576 ∧ bI c.theta ∧ (c.subs.length ≤ 1048576 ∧ ∀ s ∈ c.subs, bS s) ∧ True
theorem falls_Q (q : Qv) : Falls (zQ q) (bQ q) := falls_cons (falls_I _) (falls_cons (falls_I _) falls_nil)
theorem falls_M (m : Mt) : Falls (zM m) (bM m) := falls_cons (falls_I _) falls_nil
theorem falls_R (r : Rp) : Falls (zR r) (bR r) := falls_cons (falls_Q _) (falls_cons (falls_I _) (falls_cons (falls_S falls_M _) falls_nil))
theorem falls_Row (l : List Int) : Falls (zRow l) (bI l) := falls_I _
theorem falls_Sc (s : Sc) : Falls (zSc s) (bS s) := falls_cons (falls_S falls_Row _) falls_nil
theorem falls_B (l : List Br) : Falls (zB l) (l.length ≤ 1048576) := falls_I _
theorem falls_Cl (c : Cl) : Falls (zCl c) (bC c) := falls_cons (falls_R _) (falls_cons (falls_R _) (falls_cons (falls_S falls_R _) (falls_cons (falls_S falls_M _) (falls_cons (falls_B _) (falls_cons (falls_I _) (falls_cons (falls_S falls_Sc _) falls_nil))))))
def fI {α : Type} (l : List α) : Prop := l.length ≤ 9223372036854775807
theorem zs_cons {o : Option Int} {z : Int → Int} {zs : List (Int → Int)} {b : Prop} {left : Int} {k : Int → Option Int} (ho : o = some (z left)) (hf : Falls z b) (h0 : 0 ≤ left) (h1 : left ≤ 1048576) (hk : ∀ v, 0 ≤ v → v ≤ 1048576 → k v = some (zC zs v)) :
  Option.bind o (fun v => bif decide (v < 0) then some (-1) else k v) = some (zC (z :: zs) left) := by
 rw [ho, Option.bind_some]
 unfold zC
 rcases hf left h0 h1 with e | ⟨e1, e2, _⟩
 ·rw [e]; rfl
 ·rw [if_neg (by omega), decide_eq_false (by omega : ¬ z left < 0), cond_false]; exact hk _ e1 (by omega)
theorem zs_loop {α : Type} {body : Int × Int → Option ((Int × Int) ⊕ (Int ⊕ Int))} {f : α → Int → Int} {b : α → Prop} {l : List α} (hf : ∀ x, Falls (f x) (b x)) (hl : l.length ≤ 1048576)
  (hs : ∀ (v : Int) (k : Nat) (hk : k < l.length), 0 ≤ v → v ≤ 1048576 → body (v, k) = some (bif decide (f l[k] v < 0) then .inr (.inr (-1)) else .inl (f l[k] v, wr (k + 1)))) (he : ∀ v, body (v, l.length) = some (.inr (.inl v))) (v : Int) (h0 : 0 ≤ v) (h1 : v ≤ 1048576) :
  Option.bind (Lp body (v, 0)) (fun y => Sum.elim (fun y => some y) (fun y => some y) y) = some (zC (l.map f) v) := by
 have key : ∀ d k : Nat, k + d = l.length → ∀ v : Int, 0 ≤ v → v ≤ 1048576 → Option.bind (Lp body (v, (k : Int))) (fun y => Sum.elim (fun y => some y) (fun y => some y) y) = some (zC ((l.drop k).map f) v) := by
  intro d
  induction d with
  | zero =>
   intro k hk v _ _
   rw [Nat.add_zero] at hk; subst hk
   rw [Lp_stop (he v)]
   simp [zC]
  | succ d ih =>
   intro k hk v h0 h1
   have h := hs v k (by omega) h0 h1
   rw [List.drop_eq_getElem_cons (by omega : k < l.length), List.map_cons]
   unfold zC
   rcases hf l[k] v h0 h1 with e | ⟨e1, e2, _⟩
   ·rw [e] at h ⊢
    rw [Lp_stop (r := .inr (-1)) (by rw [h]; rfl)]; rfl
   ·rw [if_neg (by omega)]
    rw [decide_eq_false (by omega : ¬ f l[k] v < 0), cond_false, wr_suc (n := l.length) (by omega) (by omega)] at h
    rw [Lp_step h]
    exact ih (k + 1) (by omega) _ e1 (by omega)
 have := key l.length 0 (by omega) v h0 h1
 simpa using this
theorem mz_I {l : List Int} {left : Int} (hl : fI l) (h0 : 0 ≤ left) (h1 : left ≤ 1048576) : m_laws_szIntS l left = some (zI l.length left) := by
 unfold fI at hl
 unfold m_laws_szIntS zI
 rw [wr_eq (by omega)]
 by_cases h : left - l.length < 0
 ·rw [decide_eq_true h, if_pos h]; rfl
 ·rw [decide_eq_false h, if_neg h]; rfl
def fQ (q : Qv) : Prop := fI q.src ∧ fI q.tgt
theorem mz_Q {q : Qv} {left : Int} (hl : fQ q) (h0 : 0 ≤ left) (h1 : left ≤ 1048576) : m_laws_szQuiver q left = some (zQ q left) :=
 zs_cons (mz_I hl.1 h0 h1) (falls_I _) h0 h1 fun v g0 g1 => zs_cons (mz_I hl.2 g0 g1) (falls_I _) g0 g1 fun v _ _ => rfl
theorem copy_loop {α : Type} {body : List α × Int → Option ((List α × Int) ⊕ List α)} {l : List α} (z : α) (hl : l.length ≤ 4611686018427387904)
  (hs : ∀ (k : Nat) (hk : k < l.length) (r : List α), r.length = l.length → body (r, k) = some (.inl (r.set k l[k], wr (k + 1)))) (he : ∀ r, body (r, l.length) = some (.inr r)) : Lp body (List.replicate ((l.length : Int).toNat) z, 0) = some l := by
 refine Lp_inv (fun k => (l.take k ++ List.replicate (l.length - k) z, (k : Int))) l.length (by simp) (fun k hk => ?_) ?_
 ·rw [hs k hk _ (by simp; omega), wr_suc hk hl]
  congr 3
  rw [show l.length - k = (l.length - (k + 1)) + 1 by omega, List.replicate_succ, List.set_append_right _ _ (by simp; omega)]
  rw [List.take_succ_eq_append_getElem hk, List.length_take, Nat.min_eq_left (Nat.le_of_lt hk), Nat.sub_self, List.set_cons_zero, List.append_assoc]; rfl
 ·rw [he]; simp
theorem mt_I {l : List Int} (h : bI l) : m_laws_toIntS l = some l := by
 unfold bI at h
 unfold m_laws_toIntS
 rw [decide_eq_true (by omega), decide_eq_true (by omega : (l.length : Int) ≤ 1048576), Bool.and_self, cond_true]
 rw [copy_loop 0 (by omega) (fun k hk r hr => ?_) (fun r => ?_)]; rfl
 ·unfold m_laws_toIntS_L1
  simp only
  rw [dlt hk, cond_true, atL_nat hk, Option.bind_some, atL_nat (hr ▸ hk), Option.bind_some, Int.toNat_natCast]
 ·unfold m_laws_toIntS_L1
  simp only
  rw [dnl (Nat.le_refl _), cond_false]
theorem mt_Q {q : Qv} (h : bQ q) : m_laws_toQuiver q = some q := by
 unfold m_laws_toQuiver
 rw [mt_I h.1, Option.bind_some, mt_I h.2.1, Option.bind_some]
theorem eq_lists {α : Type} [DecidableEq α] {body : Int → Option (Int ⊕ (Unit ⊕ Bool))} {a b : List α} (hl : a.length ≤ 4611686018427387904) (hab : a.length = b.length)
  (hs : ∀ (k : Nat) (h1 : k < a.length) (h2 : k < b.length), body k = some (bif decide (a[k] = b[k]) then .inl (wr (k + 1)) else .inr (.inr false))) (he : body a.length = some (.inr (.inl ()))) :
  Option.bind (Lp body 0) (fun y => Sum.elim (fun _ => some true) (fun y => some y) y) = some (decide (a = b)) := by
 have key : ∀ (P : Nat → Bool), (∀ (k : Nat) (h1 : k < a.length) (h2 : k < b.length), P k = decide (a[k] = b[k])) → Lp body 0 = some (bif (List.range a.length).all P then .inl () else .inr false) → Option.bind (Lp body 0) (fun y => Sum.elim (fun _ => some true) (fun y => some y) y) = some (decide (a = b)) := by
  intro P hP e
  rw [e, Option.bind_some]
  have : (List.range a.length).all P = decide (a = b) := by
   rw [Bool.eq_iff_iff, range_all, decide_eq_true_eq]
   constructor
   ·intro h
    refine List.ext_getElem hab fun k h1 h2 => ?_
    have := h k h1
    rw [hP k h1 h2] at this
    exact of_decide_eq_true this
   ·rintro rfl k hk; rw [hP k hk hk]; simp
  rw [this]
  cases decide (a = b) <;> rfl
 refine key (fun k => if h : k < a.length then if h2 : k < b.length then decide (a[k] = b[k]) else false else false) (fun k h1 h2 => by rw [dif_pos h1, dif_pos h2]) (Lp_all _ _ hl (fun k hk => ?_) (fun _ => he))
 rw [dif_pos hk, dif_pos (hab ▸ hk)]
 exact hs k hk (hab ▸ hk)
theorem len_test {α β : Type} {a : List α} {b : List β} : decide ((a.length : Int) = (b.length : Int)) = decide (a.length = b.length) := by
 rw [Bool.eq_iff_iff, decide_eq_true_eq, decide_eq_true_eq]; omega
theorem eq_ints {body : Int → Option (Int ⊕ (Unit ⊕ Bool))} {a b : List Int} (hl : a.length ≤ 4611686018427387904)
  (hb : body = fun x => bif decide (x < (a.length : Int)) then (Option.bind (atL a x) fun v3 => Option.bind (atL b x) fun v4 => bif !decide (v3 = v4) then (some (.inr (.inr (false)))) else (some (.inl (wr (x + 1))))) else (some (.inr (.inl ())))) :
  (bif !decide ((a.length : Int) = (b.length : Int)) then some false else Option.bind (Lp body 0) (fun y => Sum.elim (fun _ => some true) (fun y => some y) y)) = some (decide (a = b)) := by
 rw [len_test]
 by_cases h : a.length = b.length
 ·rw [decide_eq_true h, Bool.not_true, cond_false]
  refine eq_lists hl h (fun k h1 h2 => ?_) ?_
  ·rw [hb]
   simp only
   rw [dlt h1, cond_true, atL_nat h1, Option.bind_some, atL_nat h2, Option.bind_some]
   cases decide (a[k] = b[k]) <;> rfl
  ·rw [hb]
   simp only
   rw [dnl (Nat.le_refl _), cond_false]
 ·rw [decide_eq_false h, Bool.not_false, cond_true, decide_eq_false (by rintro rfl; exact h rfl)]
theorem and_bif {c d : Bool} : (bif !c then some false else bif !d then some false else some true) = some (c && d) := by cases c <;> cases d <;> rfl
theorem bif_tail {c d : Bool} {o : Option Bool} (h : c = true → o = some d) : (bif !c then some false else o) = some (c && d) := by cases c with | false => rfl | true => exact h rfl
theorem me_I {a b : List Int} (h : bI a) : m_laws_eqIntS a b = some (decide (a = b)) := by
 unfold bI at h
 exact eq_ints (body := m_laws_eqIntS_L1 a b) (by omega) rfl
theorem bif_one {d : Bool} : (bif !d then some false else some true) = some d := by cases d <;> rfl
theorem me_Q {a b : Qv} (h : bQ a) : m_laws_eqQuiver a b = some (decide (a = b)) := by
 unfold m_laws_eqQuiver
 rw [bif_tail (d := decide (a.src = b.src) && decide (a.tgt = b.tgt)) (fun _ => ?_)]
 ·cases a; cases b; simp [Bool.and_assoc]
 ·rw [me_I h.1, Option.bind_some]
  refine bif_tail fun _ => ?_
  rw [me_I h.2.1, Option.bind_some, bif_one]
end Go.Proofs.Ytinllccaphhmcaa
end

section
set_option linter.unusedVariables false
set_option linter.unusedSimpArgs false

namespace Go.Proofs.Ytinllccaphhmcaa
open Go.ChangeShapes Go.WideShapes Go.ChangeAt Go.RowKit
theorem oI : Opens Try.prog 3 (ShpA 1 eI) := opensA_int Try.underlying3
theorem oL : Opens Try.prog 22 (ShpA 1 eL) := opensA_slice Try.underlying22 (by decide) (by kernel_rfl) oI
theorem oQ : Opens Try.prog 24 (ShpA 3 eQ) := by
 intro H enc w fuel cs d ps h hf
 obtain ⟨x0, T0, u0⟩ := upto_cons Try.underlying24 h hf upto_nil (i := 0) (ft := 3) rfl (k := 1) (by kernel_rfl) oI
 obtain ⟨x1, T1, u1⟩ := upto_cons Try.underlying24 h hf u0 (i := 1) (ft := 22) rfl (k := 1) (by kernel_rfl) oL
 obtain ⟨x2, T2, u2⟩ := upto_cons Try.underlying24 h hf u1 (i := 2) (ft := 22) rfl (k := 1) (by kernel_rfl) oL
 exact ⟨⟨x0, x1, x2⟩, _, upto_end Try.underlying24 h hf u2 (by kernel_rfl) _ rfl⟩
end Go.Proofs.Ytinllccaphhmcaa
end

section
set_option linter.unusedVariables false
set_option linter.unusedSimpArgs false

namespace Go.Proofs.Ytinllccaphhmcaa
open Go.RowKit
set_option linter.unusedVariables false
theorem rvs_mem {w : World} : ∀ {ds : List AV} {vs : List Value} {S : List Nat}, RepVs w ds vs S → ∀ d ∈ ds, ∃ v S', RepD w d v S'
 | [], _, _, _, d, hd => by cases hd
 | c :: cs, vs, S, h, d, hd => by
  simp only [RepVs] at h
  obtain ⟨v, r, S1, S2, _, _, h3, h4⟩ := h
  rcases List.mem_cons.1 hd with rfl | h'
  ·exact ⟨v, S1, h3⟩
  ·exact rvs_mem h4 d h'
theorem rcs_mem {w : World} {b : Nat} : ∀ {ds : List AV} {o : Nat} {S : List Nat}, RepCs w b o ds S → ∀ d ∈ ds, ∃ v S', RepD w d v S'
 | [], _, _, _, d, hd => by cases hd
 | c :: cs, o, S, h, d, hd => by
  simp only [RepCs] at h
  obtain ⟨v, S1, S2, _, _, _, _, h3, h4⟩ := h
  rcases List.mem_cons.1 hd with rfl | h'
  ·exact ⟨v, S1, h3⟩
  ·exact rcs_mem h4 d h'
theorem res_mem {w : World} {k b : Nat} : ∀ {es : List (List AV)} {o : Nat} {S : List Nat}, RepEs w k b o es S → ∀ cs ∈ es, ∀ d ∈ cs, ∃ v S', RepD w d v S'
 | [], _, _, _, cs, hc => by cases hc
 | c :: es, o, S, h, cs, hc => by
  simp only [RepEs] at h
  obtain ⟨S1, S2, _, _, h3, h4⟩ := h
  rcases List.mem_cons.1 hc with rfl | h'
  ·exact rcs_mem h3
  ·exact res_mem h4 cs h'
theorem rd_list {w : World} {k : Nat} {es : List (List AV)} {v : Value} {S : List Nat} (h : RepD w (.list k es) v S) : es.length ≤ 9223372036854775807 ∧ ∀ cs ∈ es, ∀ d ∈ cs, ∃ v S', RepD w d v S' := by
 unfold RepD at h
 obtain ⟨a, c, _, h2, h3, h4⟩ := h
 have hm : maxLen ≤ 9223372036854775807 := by decide
 refine ⟨by omega, ?_⟩
 rcases h4 with ⟨rfl, _⟩ | ⟨b, o, T, _, _, _, h5⟩
 ·intro cs hcs; cases hcs
 ·exact res_mem h5
theorem fI_of {w : World} {l : List Int} {v : Value} {S : List Nat} (h : RepD w (ints l) v S) : fI l := by
 have := (rd_list (k := 1) (es := List.map eI l) h).1
 rwa [List.length_map] at this
theorem fI_mem {w : World} {ds : List AV} (h : ∀ d ∈ ds, ∃ v S', RepD w d v S') {l : List Int} (hl : ints l ∈ ds) : fI l := by
 obtain ⟨v, S, h⟩ := h _ hl
 exact fI_of h
theorem list_mem {w : World} {ds : List AV} (h : ∀ d ∈ ds, ∃ v S', RepD w d v S') {α : Type} {k : Nat} {e : α → List AV} {l : List α} (hl : AV.list k (l.map e) ∈ ds) : fI l ∧ ∀ x ∈ l, ∀ d ∈ e x, ∃ v S', RepD w d v S' := by
 obtain ⟨v, S, h⟩ := h _ hl
 have := rd_list h
 rw [List.length_map] at this
 exact ⟨this.1, fun x hx => this.2 _ (List.mem_map.2 ⟨x, hx, rfl⟩)⟩
theorem fQ_of {w : World} {q : Qv} (h : ∀ d ∈ eQ q, ∃ v S', RepD w d v S') : fQ q := ⟨fI_mem h (by simp [eQ]), fI_mem h (by simp [eQ])⟩
theorem ret_true {w0 w : World} {v : Value} {S : List Nat} (h : ResA w (.bl true) v S) : Ending.returned v = .returned (.bool true) := by rw [h.1]
end Go.Proofs.Ytinllccaphhmcaa
end

section
set_option linter.unusedVariables false
set_option linter.unusedSimpArgs false

namespace Go.Proofs.Ytinllccaphhmcaa
open Go.RowKit
set_option linter.unusedVariables false
set_option maxRecDepth 100000
def sumN : Nat → (Nat → Int) → Int
 | 0, _ => 0
 | n + 1, f => sumN n f + f n
def cutC (k : Nat) (row : List Int) : List Int := row.take k ++ row.drop (k + 1)
def sgK (k : Nat) : Int := if Nat.beq (k % 2) 0 then 1 else -1
def detS (det : List (List Int) → Int) (r0 : List Int) (rest : List (List Int)) : Nat → Int
 | 0 => 0
 | k + 1 => wr (detS det r0 rest k + wr (wr (sgK k * r0[k]?.getD 0) * det (rest.map (cutC k))))
def detW : Nat → List (List Int) → Int
 | 0, _ => 0
 | _ + 1, [] => 1
 | d + 1, r0 :: rest => detS (detW d) r0 rest r0.length
def bitN (s v : Nat) : Bool := Nat.beq (s / 2 ^ v % 2) 1
def pickN (n s : Nat) : List Nat := (List.range n).filter (bitN s)
def minorT (n : Nat) (T : List (List Int)) (s : Nat) : List (List Int) := (pickN n s).map fun v => (pickN n s).map fun w => rowsF T v w
def pdF : Nat → (Nat → Nat → Int) → Bool
 | 0, _ => true
 | n + 1, m => decide (0 < m 0 0) && pdF n (fun i j => m 0 0 * m (i + 1) (j + 1) - m (i + 1) 0 * m 0 (j + 1))
def mvT (n : Nat) (T : List (List Int)) (x : List Int) (v : Nat) : Int := sumN n fun w => rowsF T v w * x[w]?.getD 0
def incL (x : List Int) (v : Nat) : List Int := x.set v (x[v]?.getD 0 + 1)
def unitL (n v : Nat) : List Int := (List.replicate n (0 : Int)).set v 1
def addNew (x : List Int) (l : List (List Int)) : List (List Int) := if x ∈ l then l else x :: l
def nextL (n : Nat) (T : List (List Int)) (l : List (List Int)) : List (List Int) := (l.flatMap fun x => ((List.range n).filter fun v => decide (mvT n T x v = -1)).map (incL x)).foldr addNew []
def runL (n : Nat) (T : List (List Int)) : Nat → List (List Int) → List (List Int) → List (List Int) × Bool
 | 0, cur, acc => (acc ++ cur, cur.isEmpty)
 | k + 1, cur, acc => runL n T k (nextL n T cur) (acc ++ cur)
def rootsT (n : Nat) (T : List (List Int)) : List (List Int) × Bool := runL n T 8 ((List.range n).map (unitL n)) []
def goodT (n : Nat) (T : List (List Int)) : Bool := pdF n (rowsF T) && (match rootsT n T with | (l, e) => e && decide (l.length ≤ 20) && l.all fun x => x.all fun a => decide (a ≤ 4))
def chkT (n : Nat) (T : List (List Int)) : Bool := goodT n T || [7, 11, 13, 14, 19, 21, 22, 25, 26, 28, 15, 23, 27, 29, 30, 31].any fun s => Nat.blt s (2 ^ n) && decide (detW 8 (minorT n T s) ≤ 0)
def bi (b : Bool) : Int := if b then -1 else 0
theorem chk1 : chkT 1 [[2]] = true := by decide +kernel
theorem chk2 : ∀ a : Bool, chkT 2 [[2, bi a], [bi a, 2]] = true := by decide +kernel
theorem chk3 : ∀ a b c : Bool, chkT 3 [[2, bi a, bi b], [bi a, 2, bi c], [bi b, bi c, 2]] = true := by decide +kernel
theorem chk4 : ∀ a b c d e f : Bool, chkT 4 [[2, bi a, bi b, bi c], [bi a, 2, bi d, bi e], [bi b, bi d, 2, bi f], [bi c, bi e, bi f, 2]] = true := by decide +kernel
theorem chk5_0 : ∀ e f g h i j : Bool, chkT 5 [[2, bi false, bi false, bi false, bi false], [bi false, 2, bi e, bi f, bi g], [bi false, bi e, 2, bi h, bi i], [bi false, bi f, bi h, 2, bi j], [bi false, bi g, bi i, bi j, 2]] = true := by decide +kernel
theorem chk5_1 : ∀ e f g h i j : Bool, chkT 5 [[2, bi true, bi false, bi false, bi false], [bi true, 2, bi e, bi f, bi g], [bi false, bi e, 2, bi h, bi i], [bi false, bi f, bi h, 2, bi j], [bi false, bi g, bi i, bi j, 2]] = true := by decide +kernel
theorem chk5_2 : ∀ e f g h i j : Bool, chkT 5 [[2, bi false, bi true, bi false, bi false], [bi false, 2, bi e, bi f, bi g], [bi true, bi e, 2, bi h, bi i], [bi false, bi f, bi h, 2, bi j], [bi false, bi g, bi i, bi j, 2]] = true := by decide +kernel
theorem chk5_3 : ∀ e f g h i j : Bool, chkT 5 [[2, bi true, bi true, bi false, bi false], [bi true, 2, bi e, bi f, bi g], [bi true, bi e, 2, bi h, bi i], [bi false, bi f, bi h, 2, bi j], [bi false, bi g, bi i, bi j, 2]] = true := by decide +kernel
theorem chk5_4 : ∀ e f g h i j : Bool, chkT 5 [[2, bi false, bi false, bi true, bi false], [bi false, 2, bi e, bi f, bi g], [bi false, bi e, 2, bi h, bi i], [bi true, bi f, bi h, 2, bi j], [bi false, bi g, bi i, bi j, 2]] = true := by decide +kernel
theorem chk5_5 : ∀ e f g h i j : Bool, chkT 5 [[2, bi true, bi false, bi true, bi false], [bi true, 2, bi e, bi f, bi g], [bi false, bi e, 2, bi h, bi i], [bi true, bi f, bi h, 2, bi j], [bi false, bi g, bi i, bi j, 2]] = true := by decide +kernel
theorem chk5_6 : ∀ e f g h i j : Bool, chkT 5 [[2, bi false, bi true, bi true, bi false], [bi false, 2, bi e, bi f, bi g], [bi true, bi e, 2, bi h, bi i], [bi true, bi f, bi h, 2, bi j], [bi false, bi g, bi i, bi j, 2]] = true := by decide +kernel
theorem chk5_7 : ∀ e f g h i j : Bool, chkT 5 [[2, bi true, bi true, bi true, bi false], [bi true, 2, bi e, bi f, bi g], [bi true, bi e, 2, bi h, bi i], [bi true, bi f, bi h, 2, bi j], [bi false, bi g, bi i, bi j, 2]] = true := by decide +kernel
theorem chk5_8 : ∀ e f g h i j : Bool, chkT 5 [[2, bi false, bi false, bi false, bi true], [bi false, 2, bi e, bi f, bi g], [bi false, bi e, 2, bi h, bi i], [bi false, bi f, bi h, 2, bi j], [bi true, bi g, bi i, bi j, 2]] = true := by decide +kernel
theorem chk5_9 : ∀ e f g h i j : Bool, chkT 5 [[2, bi true, bi false, bi false, bi true], [bi true, 2, bi e, bi f, bi g], [bi false, bi e, 2, bi h, bi i], [bi false, bi f, bi h, 2, bi j], [bi true, bi g, bi i, bi j, 2]] = true := by decide +kernel
theorem chk5_10 : ∀ e f g h i j : Bool, chkT 5 [[2, bi false, bi true, bi false, bi true], [bi false, 2, bi e, bi f, bi g], [bi true, bi e, 2, bi h, bi i], [bi false, bi f, bi h, 2, bi j], [bi true, bi g, bi i, bi j, 2]] = true := by decide +kernel
theorem chk5_11 : ∀ e f g h i j : Bool, chkT 5 [[2, bi true, bi true, bi false, bi true], [bi true, 2, bi e, bi f, bi g], [bi true, bi e, 2, bi h, bi i], [bi false, bi f, bi h, 2, bi j], [bi true, bi g, bi i, bi j, 2]] = true := by decide +kernel
theorem chk5_12 : ∀ e f g h i j : Bool, chkT 5 [[2, bi false, bi false, bi true, bi true], [bi false, 2, bi e, bi f, bi g], [bi false, bi e, 2, bi h, bi i], [bi true, bi f, bi h, 2, bi j], [bi true, bi g, bi i, bi j, 2]] = true := by decide +kernel
theorem chk5_13 : ∀ e f g h i j : Bool, chkT 5 [[2, bi true, bi false, bi true, bi true], [bi true, 2, bi e, bi f, bi g], [bi false, bi e, 2, bi h, bi i], [bi true, bi f, bi h, 2, bi j], [bi true, bi g, bi i, bi j, 2]] = true := by decide +kernel
theorem chk5_14 : ∀ e f g h i j : Bool, chkT 5 [[2, bi false, bi true, bi true, bi true], [bi false, 2, bi e, bi f, bi g], [bi true, bi e, 2, bi h, bi i], [bi true, bi f, bi h, 2, bi j], [bi true, bi g, bi i, bi j, 2]] = true := by decide +kernel
theorem chk5_15 : ∀ e f g h i j : Bool, chkT 5 [[2, bi true, bi true, bi true, bi true], [bi true, 2, bi e, bi f, bi g], [bi true, bi e, 2, bi h, bi i], [bi true, bi f, bi h, 2, bi j], [bi true, bi g, bi i, bi j, 2]] = true := by decide +kernel
theorem chk5 (a b c d e f g h i j : Bool) : chkT 5 [[2, bi a, bi b, bi c, bi d], [bi a, 2, bi e, bi f, bi g], [bi b, bi e, 2, bi h, bi i], [bi c, bi f, bi h, 2, bi j], [bi d, bi g, bi i, bi j, 2]] = true := by
 cases a <;> cases b <;> cases c <;> cases d
 ·exact chk5_0 e f g h i j
 ·exact chk5_8 e f g h i j
 ·exact chk5_4 e f g h i j
 ·exact chk5_12 e f g h i j
 ·exact chk5_2 e f g h i j
 ·exact chk5_10 e f g h i j
 ·exact chk5_6 e f g h i j
 ·exact chk5_14 e f g h i j
 ·exact chk5_1 e f g h i j
 ·exact chk5_9 e f g h i j
 ·exact chk5_5 e f g h i j
 ·exact chk5_13 e f g h i j
 ·exact chk5_3 e f g h i j
 ·exact chk5_11 e f g h i j
 ·exact chk5_7 e f g h i j
 ·exact chk5_15 e f g h i j
end Go.Proofs.Ytinllccaphhmcaa
end

section
set_option linter.unusedVariables false
set_option linter.unusedSimpArgs false

namespace Go.Proofs.Ytinllccaphhmcaa
open Go.RowKit
set_option linter.unusedVariables false
theorem sumN_congr {f g : Nat → Int} : ∀ {n : Nat}, (∀ i, i < n → f i = g i) → sumN n f = sumN n g
 | 0, _ => rfl
 | n + 1, h => by simp only [sumN]; rw [sumN_congr (n := n) fun i hi => h i (by omega), h n (by omega)]
theorem sumN_front (f : Nat → Int) : ∀ n, sumN (n + 1) f = f 0 + sumN n fun i => f (i + 1)
 | 0 => by simp [sumN]
 | n + 1 => by rw [sumN, sumN_front f n]; simp only [sumN]; omega
theorem sumN_add (f g : Nat → Int) : ∀ n, (sumN n fun i => f i + g i) = sumN n f + sumN n g
 | 0 => by simp [sumN]
 | n + 1 => by simp only [sumN]; rw [sumN_add f g n]; omega
theorem sumN_mul (c : Int) (f : Nat → Int) : ∀ n, (sumN n fun i => c * f i) = c * sumN n f
 | 0 => by simp [sumN]
 | n + 1 => by simp only [sumN]; rw [sumN_mul c f n, Int.mul_add]
theorem sumN_zero : ∀ n, (sumN n fun _ => (0 : Int)) = 0
 | 0 => rfl
 | n + 1 => by simp only [sumN]; rw [sumN_zero n]; rfl
theorem sumN_nonneg {f : Nat → Int} : ∀ {n : Nat}, (∀ i, i < n → 0 ≤ f i) → 0 ≤ sumN n f
 | 0, _ => Int.le_refl 0
 | n + 1, h => by simp only [sumN]; have := sumN_nonneg (n := n) fun i hi => h i (by omega); have := h n (by omega); omega
theorem sumN_pos_ex {f : Nat → Int} : ∀ {n : Nat}, 0 < sumN n f → ∃ i, i < n ∧ 0 < f i
 | 0, h => absurd h (by simp [sumN])
 | n + 1, h => by
  simp only [sumN] at h
  by_cases h1 : 0 < f n
  ·exact ⟨n, by omega, h1⟩
  ·obtain ⟨i, h2, h3⟩ := sumN_pos_ex (f := f) (n := n) (by omega)
   exact ⟨i, by omega, h3⟩
theorem sumN_ge {f : Nat → Int} {n i : Nat} (h : ∀ i, i < n → 0 ≤ f i) (hi : i < n) : f i ≤ sumN n f := by
 induction n with
 | zero => omega
 | succ n ih =>
  simp only [sumN]
  have h1 := sumN_nonneg (f := f) (n := n) fun i hi => h i (by omega)
  by_cases e : i = n
  ·subst e; omega
  ·have := ih (fun i hi => h i (by omega)) (by omega)
   have := h n (by omega)
   omega
theorem sumN_one {n v : Nat} (f : Nat → Int) (hv : v < n) : (sumN n fun i => if i = v then f i else 0) = f v := by
 induction n with
 | zero => omega
 | succ n ih =>
  simp only [sumN]
  by_cases e : v = n
  ·subst e
   rw [if_pos rfl, sumN_congr (g := fun _ => 0) (fun i hi => if_neg (by omega)), sumN_zero]; omega
  ·rw [ih (by omega), if_neg (fun h => e h.symm)]; omega
def qf (n : Nat) (m : Nat → Nat → Int) (x : Nat → Int) : Int := sumN n fun i => sumN n fun j => m i j * (x i * x j)
def mv (n : Nat) (m : Nat → Nat → Int) (x : Nat → Int) (v : Nat) : Int := sumN n fun w => m v w * x w
theorem qf_mv (n : Nat) (m : Nat → Nat → Int) (x : Nat → Int) : qf n m x = sumN n fun i => x i * mv n m x i := by
 unfold qf mv
 refine sumN_congr fun i _ => ?_
 rw [← sumN_mul]
 exact sumN_congr fun j _ => by grind
theorem qf_step (n : Nat) (m : Nat → Nat → Int) (x : Nat → Int) (hs : ∀ i, i < n → m (i + 1) 0 = m 0 (i + 1)) :
  m 0 0 * qf (n + 1) m x = (m 0 0 * x 0 + sumN n fun j => m 0 (j + 1) * x (j + 1)) * (m 0 0 * x 0 + sumN n fun j => m 0 (j + 1) * x (j + 1)) + qf n (fun i j => m 0 0 * m (i + 1) (j + 1) - m (i + 1) 0 * m 0 (j + 1)) (fun i => x (i + 1)) := by
 have e1 : qf (n + 1) m x = (m 0 0 * (x 0 * x 0) + x 0 * sumN n fun j => m 0 (j + 1) * x (j + 1)) + (x 0 * (sumN n fun j => m 0 (j + 1) * x (j + 1)) + sumN n fun i => sumN n fun j => m (i + 1) (j + 1) * (x (i + 1) * x (j + 1))) := by
  unfold qf
  rw [sumN_front]
  congr 1
  ·rw [sumN_front, ← sumN_mul]
   congr 1
   exact sumN_congr fun j _ => by grind
  ·rw [← sumN_mul, ← sumN_add]
   refine sumN_congr fun i hi => ?_
   rw [sumN_front, hs i hi]
   congr 1
   grind
 have e2 : qf n (fun i j => m 0 0 * m (i + 1) (j + 1) - m (i + 1) 0 * m 0 (j + 1)) (fun i => x (i + 1)) = m 0 0 * (sumN n fun i => sumN n fun j => m (i + 1) (j + 1) * (x (i + 1) * x (j + 1))) + (-(sumN n fun j => m 0 (j + 1) * x (j + 1))) * sumN n fun j => m 0 (j + 1) * x (j + 1) := by
  unfold qf
  rw [← sumN_mul, ← sumN_mul, ← sumN_add]
  refine sumN_congr fun i hi => ?_
  rw [← sumN_mul, show -(sumN n fun j => m 0 (j + 1) * x (j + 1)) * (m 0 (i + 1) * x (i + 1)) = (-(m 0 (i + 1) * x (i + 1))) * sumN n fun j => m 0 (j + 1) * x (j + 1) by grind, ← sumN_mul, ← sumN_add]
  refine sumN_congr fun j hj => ?_
  dsimp only
  rw [hs i hi]
  grind
 rw [e1, e2]
 generalize (sumN n fun j => m 0 (j + 1) * x (j + 1)) = L
 generalize (sumN n fun i => sumN n fun j => m (i + 1) (j + 1) * (x (i + 1) * x (j + 1))) = R
 grind
theorem sq_nonneg (a : Int) : 0 ≤ a * a := by
 rcases Int.le_total 0 a with h | h
 ·exact Int.mul_nonneg h h
 ·have := Int.mul_nonneg (Int.neg_nonneg_of_nonpos h) (Int.neg_nonneg_of_nonpos h); rwa [Int.neg_mul_neg] at this
theorem sq_pos {a : Int} (h : a ≠ 0) : 0 < a * a := by
 rcases Int.lt_or_gt_of_ne h with h | h
 ·have := Int.mul_pos (Int.neg_pos_of_neg h) (Int.neg_pos_of_neg h); rwa [Int.neg_mul_neg] at this
 ·exact Int.mul_pos h h
theorem pd_pos : ∀ (n : Nat) (m : Nat → Nat → Int), pdF n m = true → (∀ i j, i < n → j < n → m i j = m j i) → ∀ x : Nat → Int, 0 ≤ qf n m x ∧ ((∃ i, i < n ∧ x i ≠ 0) → 0 < qf n m x)
 | 0, m, _, _, x => ⟨by simp [qf, sumN], fun ⟨i, h, _⟩ => by omega⟩
 | n + 1, m, hp, hs, x => by
  simp only [pdF, Bool.and_eq_true, decide_eq_true_eq] at hp
  obtain ⟨ha, hp⟩ := hp
  have ih := pd_pos n _ hp (fun i j hi hj => by rw [hs (i + 1) (j + 1) (by omega) (by omega), hs (i + 1) 0 (by omega) (by omega), hs 0 (j + 1) (by omega) (by omega)]; grind) (fun i => x (i + 1))
  have id := qf_step n m x (fun i hi => hs _ _ (by omega) (by omega))
  generalize hL : (sumN n fun j => m 0 (j + 1) * x (j + 1)) = L at id
  have hsq := sq_nonneg (m 0 0 * x 0 + L)
  refine ⟨?_, ?_⟩
  ·rcases Int.lt_or_le (qf (n + 1) m x) 0 with h | h
   ·have := Int.mul_neg_of_pos_of_neg ha h; omega
   ·exact h
  ·rintro ⟨i, hi, hx⟩
   have hpos : 0 < m 0 0 * qf (n + 1) m x := by
    by_cases hex : ∃ i, i < n ∧ x (i + 1) ≠ 0
    ·have := ih.2 hex; omega
    ·have hz : ∀ i, i < n → x (i + 1) = 0 := fun i hi => Classical.byContradiction fun h => hex ⟨i, hi, h⟩
     have hL0 : L = 0 := by
      rw [← hL, sumN_congr (g := fun _ => 0) (fun j hj => by rw [hz j hj, Int.mul_zero]), sumN_zero]
     have hx0 : x 0 ≠ 0 := by
      cases i with
      | zero => exact hx
      | succ i => exact absurd (hz i (by omega)) hx
     have : m 0 0 * x 0 + L ≠ 0 := by
      rw [hL0, Int.add_zero]
      exact Int.mul_ne_zero (by omega) hx0
     have := sq_pos this
     have := ih.1
     omega
   rcases Int.lt_or_le 0 (qf (n + 1) m x) with h | h
   ·exact h
   ·have := Int.mul_nonpos_of_nonneg_of_nonpos (Int.le_of_lt ha) h; omega
theorem mv_add {n v : Nat} (m : Nat → Nat → Int) (x : Nat → Int) (d : Int) (w : Nat) (hv : v < n) : mv n m (fun i => x i + if i = v then d else 0) w = mv n m x w + d * m w v := by
 unfold mv
 rw [← sumN_one (n := n) (v := v) (fun i => d * m w i) hv, ← sumN_add]
 refine sumN_congr fun i _ => ?_
 by_cases e : i = v
 ·simp only [if_pos e]; grind
 ·simp only [if_neg e]; grind
theorem qf_add {n v : Nat} (m : Nat → Nat → Int) (x : Nat → Int) (d : Int) (hv : v < n) (hs : ∀ i j, i < n → j < n → m i j = m j i) : qf n m (fun i => x i + if i = v then d else 0) = qf n m x + 2 * d * mv n m x v + d * d * m v v := by
 rw [qf_mv, qf_mv]
 have e1 : (sumN n fun i => (x i + if i = v then d else 0) * mv n m (fun i => x i + if i = v then d else 0) i) = sumN n fun i => (x i * mv n m x i + d * (m v i * x i)) + if i = v then d * (mv n m x i + d * m i v) else 0 := by
  refine sumN_congr fun i hi => ?_
  rw [mv_add m x d i hv, hs i v hi hv]
  by_cases e : i = v
  ·simp only [if_pos e]; grind
  ·simp only [if_neg e]; grind
 rw [e1, sumN_add, sumN_add, sumN_mul, sumN_one (fun i => d * (mv n m x i + d * m i v)) hv]
 change _ + d * mv n m x v + _ = _
 grind
def gx (x : List Int) (i : Nat) : Int := x[i]?.getD 0
theorem gx_set {x : List Int} {v : Nat} (a : Int) (hv : v < x.length) (i : Nat) : gx (x.set v a) i = if i = v then a else gx x i := by
 unfold gx
 rw [List.getElem?_set]
 by_cases e : v = i
 ·subst e; simp [hv]
 ·rw [if_neg e, if_neg (fun h => e h.symm)]
theorem gx_inc {x : List Int} {v : Nat} (d : Int) (hv : v < x.length) : gx (x.set v (gx x v + d)) = fun i => gx x i + if i = v then d else 0 := by
 funext i
 rw [gx_set _ hv]
 by_cases e : i = v
 ·subst e; simp
 ·simp [e]
theorem gx_ext {x y : List Int} (hl : x.length = y.length) (h : ∀ i, i < x.length → gx x i = gx y i) : x = y := by
 refine List.ext_getElem hl fun i h1 h2 => ?_
 have := h i h1
 simpa [gx, h1, h2] using this
theorem sum_sumN : ∀ x : List Int, x.sum = sumN x.length (gx x)
 | [] => rfl
 | a :: x => by
  rw [List.length_cons, sumN_front, List.sum_cons, sum_sumN x]
  rfl
theorem sum_set {x : List Int} {v : Nat} (d : Int) (hv : v < x.length) : (x.set v (gx x v + d)).sum = x.sum + d := by
 rw [sum_sumN, sum_sumN, List.length_set, gx_inc d hv, sumN_add, sumN_one (fun _ => d) hv]
theorem sum_nn {x : List Int} (h : ∀ a ∈ x, 0 ≤ a) : 0 ≤ x.sum := by
 induction x with
 | nil => simp
 | cons a x ih => rw [List.sum_cons]; have := h a (by simp); have := ih fun b hb => h b (by simp [hb]); omega
theorem sum_zero : ∀ {x : List Int}, (∀ a ∈ x, 0 ≤ a) → x.sum = 0 → x = List.replicate x.length 0
 | [], _, _ => rfl
 | a :: x, h, hs => by
  rw [List.sum_cons] at hs
  have h1 := h a (by simp)
  have h2 := sum_nn (x := x) fun b hb => h b (by simp [hb])
  have h3 := sum_zero (x := x) (fun b hb => h b (by simp [hb])) (by omega)
  have h4 : a = 0 := by omega
  rw [h4, List.length_cons, List.replicate_succ, ← h3]
theorem sum_unit : ∀ {x : List Int}, (∀ a ∈ x, 0 ≤ a) → x.sum = 1 → ∃ v, v < x.length ∧ x = unitL x.length v
 | [], _, hs => by simp at hs
 | a :: x, h, hs => by
  rw [List.sum_cons] at hs
  have h1 := h a (by simp)
  have h2 := sum_nn (x := x) fun b hb => h b (by simp [hb])
  by_cases e : a = 0
  ·obtain ⟨v, g1, g2⟩ := sum_unit (x := x) (fun b hb => h b (by simp [hb])) (by omega)
   refine ⟨v + 1, by simpa using g1, ?_⟩
   rw [e, List.length_cons]
   show _ = 0 :: unitL x.length v
   rw [← g2]
  ·have h3 := sum_zero (x := x) (fun b hb => h b (by simp [hb])) (by omega)
   refine ⟨0, by simp, ?_⟩
   have h4 : a = 1 := by omega
   rw [h4, List.length_cons]
   show _ = 1 :: List.replicate x.length 0
   rw [← h3]
theorem mem_gx {x : List Int} {i : Nat} (h : i < x.length) : gx x i ∈ x := by
 unfold gx
 rw [List.getElem?_eq_getElem h]
 exact List.getElem_mem h
theorem mem_set_cases {x : List Int} {v : Nat} {a b : Int} (h : b ∈ x.set v a) : b = a ∨ b ∈ x := by
 rcases List.mem_or_eq_of_mem_set h with h | h
 ·exact .inr h
 ·exact .inl h
structure GForm (n : Nat) (T : List (List Int)) : Prop where
 sym : ∀ i j, i < n → j < n → rowsF T i j = rowsF T j i
 diag : ∀ i, i < n → rowsF T i i = 2
 pd : pdF n (rowsF T) = true
structure Rt0 (n : Nat) (T : List (List Int)) (x : List Int) : Prop where
 len : x.length = n
 nn : ∀ a ∈ x, 0 ≤ a
 two : qf n (rowsF T) (gx x) = 2
theorem mvT_eq (n : Nat) (T : List (List Int)) (x : List Int) (v : Nat) : mvT n T x v = mv n (rowsF T) (gx x) v := rfl
theorem Rt0.pos {n : Nat} {T : List (List Int)} {x : List Int} (F : GForm n T) (r : Rt0 n T x) : 1 ≤ x.sum := by
 have h := sum_nn r.nn
 rcases Int.lt_or_le x.sum 1 with h1 | h1
 ·have h2 := sum_zero r.nn (by omega)
  have h3 := r.two
  rw [qf_mv, sumN_congr (g := fun _ => 0) (fun i hi => ?_), sumN_zero] at h3
  ·omega
  ·rw [h2]; unfold gx
   rw [List.getElem?_replicate]
   split <;> simp
 ·exact h1
theorem Rt0.down {n : Nat} {T : List (List Int)} {x : List Int} (F : GForm n T) (r : Rt0 n T x) (h : 2 ≤ x.sum) : ∃ v, v < n ∧ mv n (rowsF T) (gx x) v = 1 ∧ Rt0 n T (x.set v (gx x v + -1)) := by
 have h1 := r.two
 rw [qf_mv] at h1
 obtain ⟨v, hv, h2⟩ := sumN_pos_ex (n := n) (f := fun i => gx x i * mv n (rowsF T) (gx x) i) (by omega)
 have hvl : v < x.length := by rw [r.len]; exact hv
 have h3 := r.nn _ (mem_gx hvl)
 have h4 : 0 < gx x v := by
  rcases Int.lt_or_le 0 (gx x v) with h | h
  ·exact h
  ·have : gx x v = 0 := by omega
   rw [this] at h2; simp at h2
 have h5 : 0 < mv n (rowsF T) (gx x) v := by
  rcases Int.lt_or_le 0 (mv n (rowsF T) (gx x) v) with h | h
  ·exact h
  ·have := Int.mul_nonpos_of_nonneg_of_nonpos h3 h; omega
 have hnn : ∀ a ∈ x.set v (gx x v + -1), 0 ≤ a := fun a ha => by
  rcases mem_set_cases ha with rfl | ha
  ·omega
  ·exact r.nn a ha
 have hq : qf n (rowsF T) (gx (x.set v (gx x v + -1))) = 4 - 2 * mv n (rowsF T) (gx x) v := by
  rw [gx_inc _ hvl, qf_add _ _ _ hv F.sym, r.two, F.diag v hv]; omega
 have hs := sum_set (-1) hvl
 have hpos : 0 < qf n (rowsF T) (gx (x.set v (gx x v + -1))) := by
  refine (pd_pos n _ F.pd F.sym _).2 ?_
  rw [sum_sumN, List.length_set, r.len] at hs
  obtain ⟨i, hi, h6⟩ := sumN_pos_ex (n := n) (f := gx (x.set v (gx x v + -1))) (by omega)
  exact ⟨i, hi, by omega⟩
 have h7 : mv n (rowsF T) (gx x) v = 1 := by omega
 exact ⟨v, hv, h7, by rw [List.length_set]; exact r.len, hnn, by omega⟩
def lvl (n : Nat) (T : List (List Int)) : Nat → List (List Int)
 | 0 => (List.range n).map (unitL n)
 | k + 1 => nextL n T (lvl n T k)
theorem mem_addNew {x y : List Int} {l : List (List Int)} : y ∈ addNew x l ↔ y = x ∨ y ∈ l := by
 unfold addNew
 split
 ·rename_i h; exact ⟨.inr, fun h' => h'.elim (fun e => e ▸ h) id⟩
 ·simp
theorem mem_dedup {y : List Int} : ∀ {l : List (List Int)}, y ∈ l.foldr addNew [] ↔ y ∈ l
 | [] => by simp
 | x :: l => by rw [List.foldr_cons, mem_addNew, mem_dedup (l := l), List.mem_cons]
theorem mem_nextL {n : Nat} {T : List (List Int)} {l : List (List Int)} {x : List Int} {v : Nat} (hx : x ∈ l) (hv : v < n) (h : mvT n T x v = -1) : incL x v ∈ nextL n T l := by
 unfold nextL
 rw [mem_dedup, List.mem_flatMap]
 exact ⟨x, hx, List.mem_map.2 ⟨v, List.mem_filter.2 ⟨List.mem_range.2 hv, decide_eq_true h⟩, rfl⟩⟩
theorem Rt0.lvl {n : Nat} {T : List (List Int)} (F : GForm n T) : ∀ (h : Nat) {x : List Int}, Rt0 n T x → x.sum = h + 1 → x ∈ lvl n T h
 | 0, x, r, hs => by
  obtain ⟨v, hv, e⟩ := sum_unit r.nn (by omega)
  rw [r.len] at e hv
  exact List.mem_map.2 ⟨v, List.mem_range.2 hv, e.symm⟩
 | h + 1, x, r, hs => by
  obtain ⟨v, hv, h1, h2⟩ := r.down F (by omega)
  have hvl : v < x.length := by rw [r.len]; exact hv
  have ih := Rt0.lvl F h h2 (by rw [sum_set _ hvl]; omega)
  have h3 : mvT n T (x.set v (gx x v + -1)) v = -1 := by
   rw [mvT_eq, gx_inc _ hvl, mv_add _ _ _ _ hv, h1, F.diag v hv]; rfl
  have h4 := mem_nextL ih hv h3
  have h5 : incL (x.set v (gx x v + -1)) v = x := by
   unfold incL
   change (x.set v (gx x v + -1)).set v (gx (x.set v (gx x v + -1)) v + 1) = x
   rw [gx_set _ hvl, if_pos rfl, List.set_set]
   refine gx_ext (by simp) fun i _ => ?_
   rw [gx_set _ hvl]
   by_cases e : i = v
   ·subst e; rw [if_pos rfl]; omega
   ·rw [if_neg e]
  rw [h5] at h4
  exact h4
def itL (n : Nat) (T : List (List Int)) (l : List (List Int)) : Nat → List (List Int)
 | 0 => l
 | k + 1 => itL n T (nextL n T l) k
theorem itL_succ (n : Nat) (T : List (List Int)) : ∀ (k : Nat) (l : List (List Int)), itL n T l (k + 1) = nextL n T (itL n T l k)
 | 0, l => rfl
 | k + 1, l => itL_succ n T k (nextL n T l)
theorem lvl_it (n : Nat) (T : List (List Int)) : ∀ k, lvl n T k = itL n T ((List.range n).map (unitL n)) k
 | 0 => rfl
 | k + 1 => by rw [itL_succ, ← lvl_it n T k]; rfl
theorem runL_spec (n : Nat) (T : List (List Int)) : ∀ (k : Nat) (cur acc : List (List Int)), (∀ x ∈ acc, x ∈ (runL n T k cur acc).1) ∧ (∀ j x, j ≤ k → x ∈ itL n T cur j → x ∈ (runL n T k cur acc).1) ∧ (runL n T k cur acc).2 = (itL n T cur k).isEmpty
 | 0, cur, acc => ⟨fun x h => by simp [runL, h], fun j x hj hx => by
   have : j = 0 := by omega
   subst this; simp only [runL, itL] at hx ⊢; simp [hx], rfl⟩
 | k + 1, cur, acc => by
  obtain ⟨h1, h2, h3⟩ := runL_spec n T k (nextL n T cur) (acc ++ cur)
  refine ⟨fun x h => h1 x (by simp [h]), fun j x hj hx => ?_, h3⟩
  cases j with
  | zero => exact h1 x (by simp only [itL] at hx; simp [hx])
  | succ j => exact h2 j x (by omega) hx
theorem itL_nil (n : Nat) (T : List (List Int)) : ∀ k, itL n T [] k = []
 | 0 => rfl
 | k + 1 => itL_nil n T k
theorem itL_more (n : Nat) (T : List (List Int)) : ∀ (d k : Nat) (l : List (List Int)), itL n T l k = [] → itL n T l (k + d) = []
 | 0, k, l, h => h
 | d + 1, k, l, h => by
  rw [← Nat.add_assoc, itL_succ, itL_more n T d k l h]; rfl
theorem Rt0.mem {n : Nat} {T : List (List Int)} (F : GForm n T) (he : (rootsT n T).2 = true) {x : List Int} (r : Rt0 n T x) : x ∈ (rootsT n T).1 := by
 have h1 := r.pos F
 obtain ⟨h, hh⟩ : ∃ h : Nat, x.sum = h + 1 := ⟨(x.sum - 1).toNat, by omega⟩
 have h2 := Rt0.lvl F h r hh
 rw [lvl_it] at h2
 obtain ⟨g1, g2, g3⟩ := runL_spec n T 8 ((List.range n).map (unitL n)) []
 unfold rootsT at he ⊢
 rw [he] at g3
 have h8 : itL n T ((List.range n).map (unitL n)) 8 = [] := by simpa using g3.symm
 rcases Nat.lt_or_ge 8 h with h3 | h3
 ·have := itL_more n T (h - 8) 8 _ h8
  rw [show 8 + (h - 8) = h by omega] at this
  rw [this] at h2; cases h2
 ·exact g2 h x h3 h2
theorem nodup_len {α : Type} [DecidableEq α] : ∀ {l m : List α}, l.Nodup → (∀ x ∈ l, x ∈ m) → l.length ≤ m.length
 | [], m, _, _ => Nat.zero_le _
 | a :: l, m, hn, hs => by
  have h1 := hs a (by simp)
  have hn' := List.nodup_cons.1 hn
  have h2 := nodup_len (l := l) (m := m.erase a) hn'.2 fun x hx => (List.mem_erase_of_ne (by rintro rfl; exact hn'.1 hx)).2 (hs x (by simp [hx]))
  have h3 := List.length_erase_of_mem h1
  have h4 := List.length_pos_of_mem h1
  simp only [List.length_cons]
  omega
theorem goodT_parts {n : Nat} {T : List (List Int)} (h : goodT n T = true) : pdF n (rowsF T) = true ∧ (rootsT n T).2 = true ∧ (rootsT n T).1.length ≤ 20 ∧ ∀ x ∈ (rootsT n T).1, ∀ a ∈ x, a ≤ 4 := by
 simp only [goodT, Bool.and_eq_true] at h
 obtain ⟨h1, ⟨h2, h3⟩, h4⟩ := h
 refine ⟨h1, h2, of_decide_eq_true h3, fun x hx a ha => ?_⟩
 exact of_decide_eq_true (List.all_eq_true.1 (List.all_eq_true.1 h4 x hx) a ha)
end Go.Proofs.Ytinllccaphhmcaa
end

section
set_option linter.unusedVariables false
set_option linter.unusedSimpArgs false

namespace Go.Proofs.Ytinllccaphhmcaa
open Go.RowKit
set_option linter.unusedVariables false
theorem bif_and {c d : Bool} {o : Option Bool} (h : c = true → o = some d) : (bif c then o else some false) = some (c && d) := by cases c with | false => rfl | true => exact h rfl
theorem bif_and1 {c d : Bool} : (bif c then some d else some false) = some (c && d) := by cases c <;> rfl
theorem inR_two {x a b : Int} : (bif decide (a ≤ x) then some (decide (x ≤ b)) else some false) = some (inR x a b) := by
 rw [bif_and1]
 unfold inR
 by_cases h1 : a ≤ x <;> by_cases h2 : x ≤ b <;> simp [h1, h2]
theorem n_within (x a b : Int) : m_impl_within x a b = some (inR x a b) := inR_two
theorem n_l1In (x a b : Int) : m_spec_l1In x a b = some (inR x a b) := inR_two
theorem isF_test (p : Int) : (bif decide (p = 2) then some true else bif decide (p = 3) then some true else some (decide (p = 5))) = some (isF p) := by
 unfold isF
 by_cases h2 : p = 2 <;> by_cases h3 : p = 3 <;> by_cases h5 : p = 5 <;> simp [h2, h3, h5]
theorem n_IndexFunc {v : List Int} {f : Int → Option Bool} (P : Int → Bool) (hf : ∀ x, f x = some (P x)) (h : bI v) : ∃ i : Int, m_slices_IndexFunc_Lint_int v f = some i ∧ decide (0 ≤ i) = v.any P := by
 unfold bI at h
 unfold m_slices_IndexFunc_Lint_int
 rw [Lp_search (s0 := 0) (s := 0) (n := v.length) (fun k => bif P (v[k]?.getD 0) then some (k : Int) else none) rfl (by omega) (Nat.zero_le _) (fun k _ hk => ?_) (fun _ => ?_)]
 ·rw [Option.bind_some]
  cases e : (List.range' 0 (v.length - 0)).findSome? (fun k : Nat => bif P (v[k]?.getD 0) then some (k : Int) else none) with
  | none =>
   refine ⟨-1, rfl, ?_⟩
   rw [List.findSome?_eq_none_iff] at e
   have : v.any P = false := by
    rw [List.any_eq_false]
    intro x hx
    obtain ⟨k, hk, rfl⟩ := List.mem_iff_getElem.1 hx
    have := e k (by simp; omega)
    simp only [List.getElem?_eq_getElem hk, Option.getD_some] at this
    cases hp : P v[k] with
    | false => simp
    | true => rw [hp] at this; cases this
   rw [this]; rfl
  | some i =>
   refine ⟨i, rfl, ?_⟩
   obtain ⟨k, hk, he⟩ := List.exists_of_findSome?_eq_some e
   simp at hk
   have hkl : k < v.length := by omega
   rw [List.getElem?_eq_getElem hkl] at he
   simp only [Option.getD_some] at he
   cases hp : P v[k] with
   | false => rw [hp] at he; cases he
   | true =>
    rw [hp] at he
    cases he
    rw [decide_eq_true (by omega), eq_comm, List.any_eq_true]
    exact ⟨_, List.getElem_mem hkl, hp⟩
 ·unfold m_slices_IndexFunc_Lint_int_L1
  rw [dlt hk, cond_true, atG 0 hk, Option.bind_some, hf, Option.bind_some]
  cases P _ <;> rfl
 ·unfold m_slices_IndexFunc_Lint_int_L1
  rw [dnl (Nat.le_refl _), cond_false]
theorem n_allWithin {v : List Int} (h : bI v) (a b : Int) : m_impl_allWithin v a b = some (v.all fun x => inR x a b) := by
 unfold m_impl_allWithin m_slices_ContainsFunc_Lint_int
 obtain ⟨i, h1, h2⟩ := n_IndexFunc (f := fun b0 => m_impl_allWithin_1 b0 a b) (fun x => !inR x a b) (fun x => by simp only [m_impl_allWithin_1]; rw [n_within, Option.bind_some]) h
 rw [h1, Option.bind_some, Option.bind_some, h2, List.not_any_eq_all_not]
 simp
def matV (p : Int) (m : Mt) : Bool := inR m.rows 0 8 && (inR m.cols 0 8 && (decide ((m.cells.length : Int) = wr (m.rows * m.cols)) && (isF p && decide (m.cells.length ≤ 64) && m.cells.all fun x => inR x 0 (wr (p - 1)))))
theorem matV_parts {p : Int} {m : Mt} (h : matV p m = true) : isF p = true ∧ ∃ (r c : Nat) (F : Nat → Nat → Int), r ≤ 8 ∧ c ≤ 8 ∧ m = ⟨r, c, tabM r c F⟩ ∧ ∀ i j, i < r → j < c → 0 ≤ F i j ∧ F i j < p := by
 unfold matV at h
 simp only [Bool.and_eq_true, decide_eq_true_eq, List.all_eq_true] at h
 obtain ⟨h1, h2, h3, ⟨h4, h5⟩, h6⟩ := h
 have h1 := inR_true h1
 have h2 := inR_true h2
 refine ⟨h4, m.rows.toNat, m.cols.toNat, fun i j => m.cells[i * m.cols.toNat + j]?.getD 0, by omega, by omega, ?_, ?_⟩
 ·obtain ⟨a, b, l⟩ := m
  simp only at *
  obtain ⟨r, rfl⟩ := Int.eq_ofNat_of_zero_le h1.1
  obtain ⟨c, rfl⟩ := Int.eq_ofNat_of_zero_le h2.1
  have hb : r * c ≤ 64 := Nat.mul_le_mul (by omega : r ≤ 8) (by omega : c ≤ 8)
  rw [wmul (by omega)] at h3
  simp only [Int.toNat_natCast]
  rw [← tabM_of (by omega)]
 ·intro i j hi hj
  show 0 ≤ m.cells[i * m.cols.toNat + j]?.getD 0 ∧ m.cells[i * m.cols.toNat + j]?.getD 0 < p
  have hx := ix_lt hi hj
  have e : ((m.rows.toNat * m.cols.toNat : Nat) : Int) = m.rows * m.cols := by
   rw [Int.natCast_mul, Int.toNat_of_nonneg h1.1, Int.toNat_of_nonneg h2.1]
  have hb : m.rows.toNat * m.cols.toNat ≤ 64 := Nat.mul_le_mul (by omega : m.rows.toNat ≤ 8) (by omega : m.cols.toNat ≤ 8)
  rw [wr_sm (by omega)] at h3
  have hl : i * m.cols.toNat + j < m.cells.length := by omega
  have := inR_true (h6 _ (List.getElem_mem hl))
  rw [List.getElem?_eq_getElem hl, Option.getD_some]
  have hp := isF_bd h4
  rw [wr_sm (by omega)] at this
  omega
def quivV (q : Qv) : Bool := inR q.n 1 5 && (decide ((q.src.length : Int) = (q.tgt.length : Int)) && (decide ((q.src.length : Int) ≤ 6) && ((q.src.all fun x => inR x 0 (wr (q.n - 1))) && (q.tgt.all fun x => inR x 0 (wr (q.n - 1))))))
theorem n_implQ {q : Qv} (h : bQ q) : m_impl_IsQuiver q = some (quivV q) := by
 unfold m_impl_IsQuiver quivV
 rw [n_within, Option.bind_some]
 refine bif_and fun _ => bif_and fun _ => bif_and fun _ => ?_
 rw [n_allWithin h.1, Option.bind_some]
 refine bif_and fun _ => ?_
 rw [n_allWithin h.2.1, Option.bind_some]
theorem n_specQ {q : Qv} (h : bQ q) : m_spec_IsQuiver q = some (quivV q) := by
 obtain ⟨h1, h2, _⟩ := h
 unfold bI at h1 h2
 unfold m_spec_IsQuiver
 rw [Lp_all (n := min q.src.length q.tgt.length) (fun k => inR (q.src[k]?.getD 0) 0 (wr (q.n - 1)) && inR (q.tgt[k]?.getD 0) 0 (wr (q.n - 1))) false (by omega) (fun k hk => ?_) (fun _ => ?_)]
 ·rw [Option.bind_some]
  unfold quivV
  by_cases e : q.src.length = q.tgt.length
  ·have e2 : min q.src.length q.tgt.length = q.src.length := by omega
   have hall : (List.range q.src.length).all (fun k => inR (q.src[k]?.getD 0) 0 (wr (q.n - 1)) && inR (q.tgt[k]?.getD 0) 0 (wr (q.n - 1))) = ((q.src.all fun x => inR x 0 (wr (q.n - 1))) && (q.tgt.all fun x => inR x 0 (wr (q.n - 1)))) := by
    rw [← all_range 0 q.src, ← all_range 0 q.tgt, ← e]
    rw [Bool.eq_iff_iff, Bool.and_eq_true, range_all, range_all, range_all]
    simp only [Bool.and_eq_true]
    exact ⟨fun h => ⟨fun k hk => (h k hk).1, fun k hk => (h k hk).2⟩, fun h k hk => ⟨h.1 k hk, h.2 k hk⟩⟩
   rw [e2, hall, decide_eq_true (by omega : (q.src.length : Int) = (q.tgt.length : Int))]
   cases (q.src.all fun x => inR x 0 (wr (q.n - 1))) && (q.tgt.all fun x => inR x 0 (wr (q.n - 1))) with
   | false => simp
   | true =>
    simp only [cond_true, Sum.elim_inl]
    rw [n_l1In, Option.bind_some, decide_eq_true (by omega : (q.tgt.length : Int) = (q.src.length : Int)), bif_and1, bif_and1]
    simp
  ·rw [decide_eq_false (by omega : ¬ (q.src.length : Int) = (q.tgt.length : Int))]
   simp only [Bool.false_and, Bool.and_false]
   cases (List.range (min q.src.length q.tgt.length)).all _ with
   | false => rfl
   | true =>
    simp only [cond_true, Sum.elim_inl]
    rw [n_l1In, Option.bind_some, decide_eq_false (by omega : ¬ (q.tgt.length : Int) = (q.src.length : Int)), bif_and1, bif_and1]
    simp
 ·unfold m_spec_IsQuiver_L1
  rw [dlt (by omega), cond_true, dlt (by omega), cond_true, atG 0 (by omega), Option.bind_some, n_l1In, Option.bind_some, atG 0 (by omega), Option.bind_some, n_l1In, Option.bind_some]
  cases inR (q.src[k]?.getD 0) 0 (wr (q.n - 1)) <;> cases inR (q.tgt[k]?.getD 0) 0 (wr (q.n - 1)) <;> rfl
 ·unfold m_spec_IsQuiver_L1
  by_cases e : q.src.length ≤ q.tgt.length
  ·rw [dnl (by omega), cond_false]
  ·rw [dlt (by omega), cond_true, dnl (by omega), cond_false]
theorem quivV_parts {q : Qv} (h : quivV q = true) : ∃ n : Nat, q.n = n ∧ 1 ≤ n ∧ n ≤ 5 ∧ q.src.length = q.tgt.length ∧ q.src.length ≤ 6 ∧ (∀ x ∈ q.src, 0 ≤ x ∧ x < n) ∧ ∀ x ∈ q.tgt, 0 ≤ x ∧ x < n := by
 unfold quivV at h
 simp only [Bool.and_eq_true, decide_eq_true_eq, List.all_eq_true] at h
 obtain ⟨h1, h2, h3, h4, h5⟩ := h
 have h1 := inR_true h1
 rw [wr_sm (by omega)] at h4 h5
 refine ⟨q.n.toNat, by omega, by omega, by omega, by omega, by omega, fun x hx => ?_, fun x hx => ?_⟩
 ·have := inR_true (h4 x hx); omega
 ·have := inR_true (h5 x hx); omega
def dimsV (q : Qv) (d : List Int) : Bool := quivV q && (decide ((d.length : Int) = q.n) && ((d.all fun x => inR x 0 4) && decide (d.sum ≤ 8)))
theorem sum_bd {d : List Int} (h : ∀ x ∈ d, 0 ≤ x ∧ x ≤ 4) : 0 ≤ d.sum ∧ d.sum ≤ 4 * d.length := by
 induction d with
 | nil => simp
 | cons x d ih =>
  have h1 := h x (by simp)
  have h2 := ih fun y hy => h y (by simp [hy])
  simp only [List.sum_cons, List.length_cons]
  omega
theorem sum_take {d : List Int} {k : Nat} (hk : k < d.length) : (d.take (k + 1)).sum = (d.take k).sum + d[k]?.getD 0 := by
 rw [List.take_succ_eq_append_getElem hk, List.sum_append]
 simp [hk]
theorem dimsV_parts {q : Qv} {d : List Int} (h : dimsV q d = true) : quivV q = true ∧ (d.length : Int) = q.n ∧ (∀ x ∈ d, 0 ≤ x ∧ x ≤ 4) ∧ d.sum ≤ 8 := by
 unfold dimsV at h
 simp only [Bool.and_eq_true, decide_eq_true_eq, List.all_eq_true] at h
 exact ⟨h.1, h.2.1, fun x hx => inR_true (h.2.2.1 x hx), h.2.2.2⟩
def repV (r : Rp) : Bool := isF r.p && (dimsV r.q r.dims && (decide ((r.maps.length : Int) = (r.q.src.length : Int)) && (List.range r.maps.length).all fun k =>
 matV r.p (r.maps[k]?.getD ⟨0, 0, []⟩) && (decide ((r.maps[k]?.getD ⟨0, 0, []⟩).cols = r.dims[(r.q.src[k]?.getD 0).toNat]?.getD 0) && decide ((r.maps[k]?.getD ⟨0, 0, []⟩).rows = r.dims[(r.q.tgt[k]?.getD 0).toNat]?.getD 0))))
theorem bif_true {c d : Bool} : (bif !c then some false else some d) = some (c && d) := by cases c <;> rfl
theorem mem_get {α : Type} {l : List α} {k : Nat} (d : α) (h : k < l.length) : l[k]?.getD d ∈ l := by rw [List.getElem?_eq_getElem h]; exact List.getElem_mem h
def lineV (q : Qv) : Bool := quivV q && (decide ((q.src.length : Int) = wr (q.n - 1)) && (List.range q.src.length).all fun k => decide (q.src[k]?.getD 0 = k) && decide (q.tgt[k]?.getD 0 = k + 1))
end Go.Proofs.Ytinllccaphhmcaa
end

section
set_option linter.unusedVariables false
set_option linter.unusedSimpArgs false

namespace Go.Proofs.Ytinllccaphhmcaa
open Go.RowKit
set_option linter.unusedVariables false
set_option maxRecDepth 10000
end Go.Proofs.Ytinllccaphhmcaa
end

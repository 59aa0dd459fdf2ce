/-
  Several texts of the claim in one: each begins with its own remark.
-/
import Derived.Test.YtdhjmmnjapkmkaaGreatH10
section
set_option linter.unusedVariables false
set_option linter.unusedSimpArgs false

namespace Go.Proofs.YtdhjmmnjapkmkaaGreat
open Go.RowKit
set_option linter.unusedVariables false
set_option linter.unusedSimpArgs false
set_option maxRecDepth 10000
set_option maxHeartbeats 4000000

def m_laws_eqBar (a0 : Br) (a1 : Br) : Option Bool :=
  bif !decide (a0.first = a1.first) then
    (some (false))
  else
    (bif !decide (a0.last = a1.last) then
      (some (false))
    else
      (bif !decide (a0.count = a1.count) then
        (some (false))
      else
        (some (true))))

theorem c_laws_eqBar (a0 : Br) (a1 : Br) (r : Bool) (h : m_laws_eqBar a0 a1 = some r) : HasC Tryz.prog 63 [.agg (eB a0), .agg (eB a1)] (.bl r) := by
 refine hasC_mk TT_ok (rvs := [.tmp 4]) (ns := [0, 1, 2, 3]) Tryz.func63 k k Tryz.ntmps63 k k k <| sQ <| rg <| ae (w_box k k k k) k <| ae (w_box k k k k) k <| aa k k <| an <| tn <| sQ <| sQ ?_
 refine rg <| ae (w_field_ptr TT_ok k k k k k k k) k <| ae (w_load_ptr TT_ok k k k k k k k) k <| ae (w_field_ptr TT_ok k k k k k k k) k <| ae (w_load_ptr TT_ok k k k k k k k) k <| ae (w_cmp k k k) k <| an <| tn ?_
 rcases cb h with ⟨q1, h⟩ | ⟨q1, h⟩
 ·refine ac_condT k q1 <| sQ <| rg <| aa k k <| an <| tn <| ac_ret <| then_ret ?_
  obtain rfl := so h
  exact ret_mk k k k (fz_bl k)
 ·refine ac_condF k q1 <| ac_skip <| tn <| sQ <| sQ <| rg <| ae (w_field_ptr TT_ok k k k k k k k) k <| ae (w_load_ptr TT_ok k k k k k k k) k <| ae (w_field_ptr TT_ok k k k k k k k) k <| ae (w_load_ptr TT_ok k k k k k k k) k ?_
  refine ae (w_cmp k k k) k <| an <| tn <| ac_ent (t := mkS [(2, .ptr 0 0 0), (3, .ptr 1 0 0), (14, .bl (!decide (a0.last = a1.last)))] [(0, ⟨3, [[.int a0.first, .int a0.last, .int a0.count]]⟩), (1, ⟨3, [[.int a1.first, .int a1.last, .int a1.count]]⟩)] 2 [2, 3]) (ent_mk (σ := sg [(0, 0), (1, 1)]) ⟨(pE k k), (pE k k), (e1 k k), trivial⟩ (hP k k k k <| hP k k k k <| trivial) k) ?_
  rcases cb h with ⟨q2, h⟩ | ⟨q2, h⟩
  ·refine ac_condT k q2 <| sQ <| rg <| aa k k <| an <| tn <| ac_ret <| then_ret ?_
   obtain rfl := so h
   exact ret_mk k k k (fz_bl k)
  ·refine ac_condF k q2 <| ac_skip <| tn <| sQ <| sQ <| rg <| ae (w_field_ptr TT_ok k k k k k k k) k <| ae (w_load_ptr TT_ok k k k k k k k) k <| ae (w_field_ptr TT_ok k k k k k k k) k <| ae (w_load_ptr TT_ok k k k k k k k) k ?_
   refine ae (w_cmp k k k) k <| an <| tn ?_
   rcases cb h with ⟨q3, h⟩ | ⟨q3, h⟩
   ·refine ac_condT k q3 <| sQ <| rg <| aa k k <| an <| tn <| ac_ret <| then_ret ?_
    obtain rfl := so h
    exact ret_mk k k k (fz_bl k)
   ·refine ac_condF k q3 <| ac_skip <| tn <| sQ <| rg <| aa k k <| an <| tn <| ac_ret ?_
    obtain rfl := so h
    exact ret_mk k k k (fz_bl k)

noncomputable def m_laws_eqBarS_L1 (a0 : (List Br)) (a1 : (List Br)) (x1 : Int) : Option (Int ⊕ (Unit ⊕ Bool)) :=
  bif decide (x1 < (a0.length : Int)) then
    (Option.bind (atL a0 x1) fun v3 =>
    Option.bind (atL a1 x1) fun v4 =>
    Option.bind (m_laws_eqBar v3 v4) fun v5 =>
    bif !v5 then
      (some (.inr (.inr (false))))
    else
      (some (.inl (wr (x1 + 1)))))
  else
    (some (.inr (.inl ())))

noncomputable def m_laws_eqBarS (a0 : (List Br)) (a1 : (List Br)) : Option Bool :=
  bif !decide ((a0.length : Int) = (a1.length : Int)) then
    (some (false))
  else
    (Option.bind (Lp (m_laws_eqBarS_L1 a0 a1) 0) fun y7 =>
    Sum.elim (fun y8 =>
      some (true)
    ) 
    (fun y9 =>
      some y9
    )
     y7)

theorem c_laws_eqBarS (a0 : (List Br)) (a1 : (List Br)) (r : Bool) (h : m_laws_eqBarS a0 a1 = some r) : HasC Tryz.prog 25 [.list 3 (List.map eB a0), .list 3 (List.map eB a1)] (.bl r) := by
 refine hasC_mk TT_ok (rvs := [.tmp 4]) (ns := [0, 1]) Tryz.func25 k k Tryz.ntmps25 k k k <| sQ <| rg <| aa k k <| an <| tn <| sQ <| sQ <| rg <| am k k ?_
 refine ae (lenL TT_ok k k k) k <| am k k <| ae (lenL TT_ok k k k) k <| ae (w_cmp k k k) k <| an <| tn ?_
 rcases cb h with ⟨q1, h⟩ | ⟨q1, h⟩
 ·refine ac_condT k q1 <| sQ <| rg <| aa k k <| an <| tn <| ac_ret <| then_ret ?_
  obtain rfl := so h
  exact ret_mk k k k (fz_bl k)
 ·refine ac_condF k q1 <| ac_skip <| tn <| sQ <| sQ <| rg <| aa k k <| an <| tn <| ac_block ?_
  obtain ⟨y7, hy7, h⟩ := ob h
  refine ac_Lp (body := (m_laws_eqBarS_L1 a0 a1)) hy7 (fun (x1 : Int) => mkS [(0, .list 3 (List.map eB a0)), (1, .list 3 (List.map eB a1)), (5, .int x1)] [] 0 [0, 1]) (fun r e t => Sum.elim (fun a => (fun r e t => e = .exit 0 ∧ Ent t (mkS [] [] 0 [0, 1])) a e t) (fun b => (fun r e t => e = .ret ∧ RetQ TT [.tmp 4] (.bl r) .ret t) b e t) r) (ent_mk (σ := sg []) ⟨⟨_, k, ⟨k, k⟩⟩, ⟨_, k, ⟨k, k⟩⟩, (e1 k k), trivial⟩ trivial k) ?_ ?_
  ·intro x1 o h
   refine sQ <| sQ <| rg <| am k k <| am k k <| ae (lenL TT_ok k k k) k <| ae (w_cmp k k k) k <| an <| tn ?_
   rcases cb h with ⟨q2, h⟩ | ⟨q2, h⟩
   ·refine ac_condT k q2 <| ac_skip <| tn <| sQ <| ac_block <| sQ <| ac_region_draw MIXX <| am k k <| am k k ?_
    obtain ⟨v3, hv3, h⟩ := ob h
    refine ae (x_at_list TT_ok hv3 k k k k k k) k <| ae (w_load_ref TT_ok k k k k k k) k <| am k k <| am k k ?_
    obtain ⟨v4, hv4, h⟩ := ob h
    refine ae (x_at_list TT_ok hv4 k k k k k k) k <| ae (w_load_ref TT_ok k k k k k k) k ?_
    obtain ⟨v5, hv5, h⟩ := ob h
    refine ae (w_call0s (c_laws_eqBar v3 v4 v5 hv5) k (va_cons (va_agg' (v1_cons (v1_same k) (v1_cons (v1_same k) (v1_cons (v1_same k) v1_nil)))) (va_cons (va_agg' (v1_cons (v1_same k) (v1_cons (v1_same k) (v1_cons (v1_same k) v1_nil)))) va_nil))) k <| ae (w_not k) k <| an ?_
    refine ⟨by kernel_rfl, ?_⟩
    refine tn <| ac_ent (t := mkS [(0, .list 3 (List.map eB a0)), (1, .list 3 (List.map eB a1)), (5, .int x1), (26, .bl (!v5))] [] 0 [0, 1]) (ent_mk (σ := sg []) ⟨⟨_, k, ⟨k, k⟩⟩, ⟨_, k, ⟨k, k⟩⟩, (e1 k k), (e1 k k), trivial⟩ trivial k) ?_
    rcases cb h with ⟨q6, h⟩ | ⟨q6, h⟩
    ·refine ac_condT k q6 <| sQ <| rg <| aa k k <| an <| tn <| ac_ret <| block_ret <| then_ret <| then_ret ?_
     obtain rfl := so h
     exact ⟨_, k, k, ret_mk k k k (fz_bl k)⟩
    ·refine ac_condF k q6 <| ac_skip <| block_n <| tn <| rg <| am k k <| ae (x_add k k) k <| aa k k <| an <| tn ?_
     obtain rfl := so h
     exact ⟨_, k, (ent_mk (σ := sg []) ⟨⟨_, k, ⟨k, k⟩⟩, ⟨_, k, ⟨k, k⟩⟩, (e1 k k), trivial⟩ trivial k)⟩
   ·refine ac_condF k q2 <| ac_exit <| then_exit <| then_exit ?_
    obtain rfl := so h
    exact ⟨_, k, k, (ent_mk (σ := sg []) trivial trivial k)⟩
  ·intro e t hX
   rcases y7 with y8 | y9
   ·obtain ⟨rfl, hent⟩ := hX
    refine block_here <| tn <| ac_ent hent <| sQ <| rg <| aa k k <| an <| tn <| ac_ret ?_
    obtain rfl := so h
    exact ret_mk k k k (fz_bl k)
   ·obtain ⟨rfl, hent⟩ := hX
    refine block_ret <| then_ret ?_
    obtain rfl := so h
    exact hent

noncomputable def m_laws_eqClaim (a0 : Cl) (a1 : Cl) : Option Bool :=
  bif !decide (a0.kind = a1.kind) then
    (some (false))
  else
    (Option.bind (m_laws_eqRep a0.rep a1.rep) fun v2 =>
    bif !v2 then
      (some (false))
    else
      (Option.bind (m_laws_eqRep a0.other a1.other) fun v4 =>
      bif !v4 then
        (some (false))
      else
        (Option.bind (m_laws_eqRepS a0.parts a1.parts) fun v6 =>
        bif !v6 then
          (some (false))
        else
          (Option.bind (m_laws_eqMatrixS a0.maps a1.maps) fun v8 =>
          bif !v8 then
            (some (false))
          else
            (Option.bind (m_laws_eqBarS a0.bars a1.bars) fun v10 =>
            bif !v10 then
              (some (false))
            else
              (Option.bind (m_laws_eqIntS a0.theta a1.theta) fun v12 =>
              bif !v12 then
                (some (false))
              else
                (Option.bind (m_laws_eqSpaceS a0.subs a1.subs) fun v14 =>
                bif !v14 then
                  (some (false))
                else
                  (some (true)))))))))

theorem c_laws_eqClaim (a0 : Cl) (a1 : Cl) (r : Bool) (h : m_laws_eqClaim a0 a1 = some r) : HasC Tryz.prog 8 [.agg (eC a0), .agg (eC a1)] (.bl r) := by
 refine hasC_mk TT_ok (rvs := [.tmp 4]) (ns := [0, 1, 2, 3]) Tryz.func8 k k Tryz.ntmps8 k k k <| sQ <| rg <| ae (w_box k k k k) k <| ae (w_box k k k k) k <| aa k k <| an <| tn <| sQ <| sQ ?_
 refine rg <| ae (w_field_ptr TT_ok k k k k k k k) k <| ae (w_load_ptr TT_ok k k k k k k k) k <| ae (w_field_ptr TT_ok k k k k k k k) k <| ae (w_load_ptr TT_ok k k k k k k k) k <| ae (w_cmp k k k) k <| an <| tn ?_
 rcases cb h with ⟨q1, h⟩ | ⟨q1, h⟩
 ·refine ac_condT k q1 <| sQ <| rg <| aa k k <| an <| tn <| ac_ret <| then_ret ?_
  obtain rfl := so h
  exact ret_mk k k k (fz_bl k)
 ·refine ac_condF k q1 <| ac_skip <| tn <| sQ <| sQ <| rg <| ae (w_field_ptr TT_ok k k k k k k k) k <| ae (w_load_ptr TT_ok k k k k k k k) k <| ae (w_field_ptr TT_ok k k k k k k k) k <| ae (w_load_ptr TT_ok k k k k k k k) k ?_
  obtain ⟨v2, hv2, h⟩ := ob h
  refine ae (w_call0s (c_laws_eqRep a0.rep a1.rep v2 hv2) k (va_cons (va_agg' (v1_cons (v1_same k) (v1_cons (v1_same k) (v1_cons (v1_same k) (v1_cons (v1_same k) (v1_cons (v1_same k) (v1_cons (v1_same k) v1_nil))))))) (va_cons (va_agg' (v1_cons (v1_same k) (v1_cons (v1_same k) (v1_cons (v1_same k) (v1_cons (v1_same k) (v1_cons (v1_same k) (v1_cons (v1_same k) v1_nil))))))) va_nil))) k <| ae (w_not k) k <| an <| tn <| ac_ent (t := mkS [(2, .ptr 0 0 0), (3, .ptr 1 0 0), (15, .bl (!v2))] [(0, ⟨18, [[.int a0.kind, .int a0.rep.p, .int a0.rep.q.n, .list 1 (List.map eI a0.rep.q.src), .list 1 (List.map eI a0.rep.q.tgt), .list 1 (List.map eI a0.rep.dims), .list 3 (List.map eM a0.rep.maps), .int a0.other.p, .int a0.other.q.n, .list 1 (List.map eI a0.other.q.src), .list 1 (List.map eI a0.other.q.tgt), .list 1 (List.map eI a0.other.dims), .list 3 (List.map eM a0.other.maps), .list 6 (List.map eR a0.parts), .list 3 (List.map eM a0.maps), .list 3 (List.map eB a0.bars), .list 1 (List.map eI a0.theta), .list 2 (List.map eS a0.subs)]]⟩), (1, ⟨18, [[.int a1.kind, .int a1.rep.p, .int a1.rep.q.n, .list 1 (List.map eI a1.rep.q.src), .list 1 (List.map eI a1.rep.q.tgt), .list 1 (List.map eI a1.rep.dims), .list 3 (List.map eM a1.rep.maps), .int a1.other.p, .int a1.other.q.n, .list 1 (List.map eI a1.other.q.src), .list 1 (List.map eI a1.other.q.tgt), .list 1 (List.map eI a1.other.dims), .list 3 (List.map eM a1.other.maps), .list 6 (List.map eR a1.parts), .list 3 (List.map eM a1.maps), .list 3 (List.map eB a1.bars), .list 1 (List.map eI a1.theta), .list 2 (List.map eS a1.subs)]]⟩)] 2 [2, 3]) (ent_mk (σ := sg [(0, 0), (1, 1)]) ⟨(pE k k), (pE k k), (e1 k k), trivial⟩ (hP k k k k <| hP k k k k <| trivial) k) ?_
  rcases cb h with ⟨q3, h⟩ | ⟨q3, h⟩
  ·refine ac_condT k q3 <| sQ <| rg <| aa k k <| an <| tn <| ac_ret <| then_ret ?_
   obtain rfl := so h
   exact ret_mk k k k (fz_bl k)
  ·refine ac_condF k q3 <| ac_skip <| tn <| sQ <| sQ <| rg <| ae (w_field_ptr TT_ok k k k k k k k) k <| ae (w_load_ptr TT_ok k k k k k k k) k <| ae (w_field_ptr TT_ok k k k k k k k) k <| ae (w_load_ptr TT_ok k k k k k k k) k ?_
   obtain ⟨v4, hv4, h⟩ := ob h
   refine ae (w_call0s (c_laws_eqRep a0.other a1.other v4 hv4) k (va_cons (va_agg' (v1_cons (v1_same k) (v1_cons (v1_same k) (v1_cons (v1_same k) (v1_cons (v1_same k) (v1_cons (v1_same k) (v1_cons (v1_same k) v1_nil))))))) (va_cons (va_agg' (v1_cons (v1_same k) (v1_cons (v1_same k) (v1_cons (v1_same k) (v1_cons (v1_same k) (v1_cons (v1_same k) (v1_cons (v1_same k) v1_nil))))))) va_nil))) k <| ae (w_not k) k <| an <| tn ?_
   rcases cb h with ⟨q5, h⟩ | ⟨q5, h⟩
   ·refine ac_condT k q5 <| sQ <| rg <| aa k k <| an <| tn <| ac_ret <| then_ret ?_
    obtain rfl := so h
    exact ret_mk k k k (fz_bl k)
   ·refine ac_condF k q5 <| ac_skip <| tn <| sQ <| sQ <| rg <| ae (w_field_ptr TT_ok k k k k k k k) k <| ae (w_load_ptr TT_ok k k k k k k k) k <| ae (w_field_ptr TT_ok k k k k k k k) k <| ae (w_load_ptr TT_ok k k k k k k k) k ?_
    obtain ⟨v6, hv6, h⟩ := ob h
    refine ae (w_call0s (c_laws_eqRepS a0.parts a1.parts v6 hv6) k (va_cons (va_same k) (va_cons (va_same k) va_nil))) k <| ae (w_not k) k <| an <| tn <| ac_ent (t := mkS [(2, .ptr 0 0 0), (3, .ptr 1 0 0), (27, .bl (!v6))] [(0, ⟨18, [[.int a0.kind, .int a0.rep.p, .int a0.rep.q.n, .list 1 (List.map eI a0.rep.q.src), .list 1 (List.map eI a0.rep.q.tgt), .list 1 (List.map eI a0.rep.dims), .list 3 (List.map eM a0.rep.maps), .int a0.other.p, .int a0.other.q.n, .list 1 (List.map eI a0.other.q.src), .list 1 (List.map eI a0.other.q.tgt), .list 1 (List.map eI a0.other.dims), .list 3 (List.map eM a0.other.maps), .list 6 (List.map eR a0.parts), .list 3 (List.map eM a0.maps), .list 3 (List.map eB a0.bars), .list 1 (List.map eI a0.theta), .list 2 (List.map eS a0.subs)]]⟩), (1, ⟨18, [[.int a1.kind, .int a1.rep.p, .int a1.rep.q.n, .list 1 (List.map eI a1.rep.q.src), .list 1 (List.map eI a1.rep.q.tgt), .list 1 (List.map eI a1.rep.dims), .list 3 (List.map eM a1.rep.maps), .int a1.other.p, .int a1.other.q.n, .list 1 (List.map eI a1.other.q.src), .list 1 (List.map eI a1.other.q.tgt), .list 1 (List.map eI a1.other.dims), .list 3 (List.map eM a1.other.maps), .list 6 (List.map eR a1.parts), .list 3 (List.map eM a1.maps), .list 3 (List.map eB a1.bars), .list 1 (List.map eI a1.theta), .list 2 (List.map eS a1.subs)]]⟩)] 2 [2, 3]) (ent_mk (σ := sg [(0, 0), (1, 1)]) ⟨(pE k k), (pE k k), (e1 k k), trivial⟩ (hP k k k k <| hP k k k k <| trivial) k) ?_
    rcases cb h with ⟨q7, h⟩ | ⟨q7, h⟩
    ·refine ac_condT k q7 <| sQ <| rg <| aa k k <| an <| tn <| ac_ret <| then_ret ?_
     obtain rfl := so h
     exact ret_mk k k k (fz_bl k)
    ·refine ac_condF k q7 <| ac_skip <| tn <| sQ <| sQ <| rg <| ae (w_field_ptr TT_ok k k k k k k k) k <| ae (w_load_ptr TT_ok k k k k k k k) k <| ae (w_field_ptr TT_ok k k k k k k k) k <| ae (w_load_ptr TT_ok k k k k k k k) k ?_
     obtain ⟨v8, hv8, h⟩ := ob h
     refine ae (w_call0s (c_laws_eqMatrixS a0.maps a1.maps v8 hv8) k (va_cons (va_same k) (va_cons (va_same k) va_nil))) k <| ae (w_not k) k <| an <| tn ?_
     rcases cb h with ⟨q9, h⟩ | ⟨q9, h⟩
     ·refine ac_condT k q9 <| sQ <| rg <| aa k k <| an <| tn <| ac_ret <| then_ret ?_
      obtain rfl := so h
      exact ret_mk k k k (fz_bl k)
     ·refine ac_condF k q9 <| ac_skip <| tn <| sQ <| sQ <| rg <| ae (w_field_ptr TT_ok k k k k k k k) k <| ae (w_load_ptr TT_ok k k k k k k k) k <| ae (w_field_ptr TT_ok k k k k k k k) k <| ae (w_load_ptr TT_ok k k k k k k k) k ?_
      obtain ⟨v10, hv10, h⟩ := ob h
      refine ae (w_call0s (c_laws_eqBarS a0.bars a1.bars v10 hv10) k (va_cons (va_same k) (va_cons (va_same k) va_nil))) k <| ae (w_not k) k <| an <| tn <| ac_ent (t := mkS [(2, .ptr 0 0 0), (3, .ptr 1 0 0), (39, .bl (!v10))] [(0, ⟨18, [[.int a0.kind, .int a0.rep.p, .int a0.rep.q.n, .list 1 (List.map eI a0.rep.q.src), .list 1 (List.map eI a0.rep.q.tgt), .list 1 (List.map eI a0.rep.dims), .list 3 (List.map eM a0.rep.maps), .int a0.other.p, .int a0.other.q.n, .list 1 (List.map eI a0.other.q.src), .list 1 (List.map eI a0.other.q.tgt), .list 1 (List.map eI a0.other.dims), .list 3 (List.map eM a0.other.maps), .list 6 (List.map eR a0.parts), .list 3 (List.map eM a0.maps), .list 3 (List.map eB a0.bars), .list 1 (List.map eI a0.theta), .list 2 (List.map eS a0.subs)]]⟩), (1, ⟨18, [[.int a1.kind, .int a1.rep.p, .int a1.rep.q.n, .list 1 (List.map eI a1.rep.q.src), .list 1 (List.map eI a1.rep.q.tgt), .list 1 (List.map eI a1.rep.dims), .list 3 (List.map eM a1.rep.maps), .int a1.other.p, .int a1.other.q.n, .list 1 (List.map eI a1.other.q.src), .list 1 (List.map eI a1.other.q.tgt), .list 1 (List.map eI a1.other.dims), .list 3 (List.map eM a1.other.maps), .list 6 (List.map eR a1.parts), .list 3 (List.map eM a1.maps), .list 3 (List.map eB a1.bars), .list 1 (List.map eI a1.theta), .list 2 (List.map eS a1.subs)]]⟩)] 2 [2, 3]) (ent_mk (σ := sg [(0, 0), (1, 1)]) ⟨(pE k k), (pE k k), (e1 k k), trivial⟩ (hP k k k k <| hP k k k k <| trivial) k) ?_
      rcases cb h with ⟨q11, h⟩ | ⟨q11, h⟩
      ·refine ac_condT k q11 <| sQ <| rg <| aa k k <| an <| tn <| ac_ret <| then_ret ?_
       obtain rfl := so h
       exact ret_mk k k k (fz_bl k)
      ·refine ac_condF k q11 <| ac_skip <| tn <| sQ <| sQ <| rg <| ae (w_field_ptr TT_ok k k k k k k k) k <| ae (w_load_ptr TT_ok k k k k k k k) k <| ae (w_field_ptr TT_ok k k k k k k k) k <| ae (w_load_ptr TT_ok k k k k k k k) k ?_
       obtain ⟨v12, hv12, h⟩ := ob h
       refine ae (w_call0s (c_laws_eqIntS a0.theta a1.theta v12 hv12) k (va_cons (va_same k) (va_cons (va_same k) va_nil))) k <| ae (w_not k) k <| an <| tn ?_
       rcases cb h with ⟨q13, h⟩ | ⟨q13, h⟩
       ·refine ac_condT k q13 <| sQ <| rg <| aa k k <| an <| tn <| ac_ret <| then_ret ?_
        obtain rfl := so h
        exact ret_mk k k k (fz_bl k)
       ·refine ac_condF k q13 <| ac_skip <| tn <| sQ <| sQ <| rg <| ae (w_field_ptr TT_ok k k k k k k k) k <| ae (w_load_ptr TT_ok k k k k k k k) k <| ae (w_field_ptr TT_ok k k k k k k k) k <| ae (w_load_ptr TT_ok k k k k k k k) k ?_
        obtain ⟨v14, hv14, h⟩ := ob h
        refine ae (w_call0s (c_laws_eqSpaceS a0.subs a1.subs v14 hv14) k (va_cons (va_same k) (va_cons (va_same k) va_nil))) k <| ae (w_not k) k <| an <| tn <| ac_ent (t := mkS [(51, .bl (!v14))] [] 2 [2, 3]) (ent_mk (σ := sg []) ⟨(e1 k k), trivial⟩ trivial k) ?_
        rcases cb h with ⟨q15, h⟩ | ⟨q15, h⟩
        ·refine ac_condT k q15 <| sQ <| rg <| aa k k <| an <| tn <| ac_ret <| then_ret ?_
         obtain rfl := so h
         exact ret_mk k k k (fz_bl k)
        ·refine ac_condF k q15 <| ac_skip <| tn <| sQ <| rg <| aa k k <| an <| tn <| ac_ret ?_
         obtain rfl := so h
         exact ret_mk k k k (fz_bl k)

noncomputable def m_laws_FnExactClaimOfExtension (a0 : Rp) (a1 : Rp) : Option Bool :=
  Option.bind (m_laws_szRep a0 1048576) fun v1 =>
  bif decide (v1 < 0) then
    (some (true))
  else
    (Option.bind (m_laws_szRep a1 v1) fun v3 =>
    bif decide (v3 < 0) then
      (some (true))
    else
      (Option.bind (m_laws_toRep a0) fun v5 =>
      Option.bind (m_laws_toRep a1) fun v6 =>
      Option.bind (m_spec_ClaimOfExtension v5 v6) fun v7 =>
      Option.bind (m_laws_toRep a0) fun v8 =>
      Option.bind (m_laws_toRep a1) fun v9 =>
      Option.bind (m_impl_ClaimOfExtension v8 v9) fun v10 =>
      Option.bind (m_laws_eqClaim v10.1 v7.1) fun v11 =>
      bif !v11 then
        (some (false))
      else
        (bif !(v10.2 == v7.2) then
          (some (false))
        else
          (Option.bind (m_laws_toRep a0) fun v14 =>
          Option.bind (m_laws_eqRep v8 v14) fun v15 =>
          bif !v15 then
            (some (false))
          else
            (Option.bind (m_laws_toRep a1) fun v17 =>
            Option.bind (m_laws_eqRep v9 v17) fun v18 =>
            bif !v18 then
              (some (false))
            else
              (Option.bind (m_laws_markRep v8 1) fun v20 =>
              bif decide (v20.1.length = v8.q.src.length) then
                (bif decide (v20.2.1.length = v8.q.tgt.length) then
                  (bif decide (v20.2.2.1.length = v8.dims.length) then
                    (bif decide (v20.2.2.2.1.length = v8.maps.length) then
                      (Option.bind (m_laws_markRep v9 v20.2.2.2.2) fun v25 =>
                      bif decide (v25.1.length = v9.q.src.length) then
                        (bif decide (v25.2.1.length = v9.q.tgt.length) then
                          (bif decide (v25.2.2.1.length = v9.dims.length) then
                            (bif decide (v25.2.2.2.1.length = v9.maps.length) then
                              (bif decide (v25.2.2.2.2 < 0) then
                                (some (false))
                              else
                                (Option.bind (m_laws_eqClaim v10.1 v7.1) fun v31 =>
                                bif !v31 then
                                  (some (false))
                                else
                                  (bif !(v10.2 == v7.2) then
                                    (some (false))
                                  else
                                    (Option.bind (m_laws_markClaim v10.1 1) fun v34 =>
                                    bif decide (v34.1.length = v10.1.rep.q.src.length) then
                                      (bif decide (v34.2.1.length = v10.1.rep.q.tgt.length) then
                                        (bif decide (v34.2.2.1.length = v10.1.rep.dims.length) then
                                          (bif decide (v34.2.2.2.1.length = v10.1.rep.maps.length) then
                                            (bif decide (v34.2.2.2.2.1.length = v10.1.other.q.src.length) then
                                              (bif decide (v34.2.2.2.2.2.1.length = v10.1.other.q.tgt.length) then
                                                (bif decide (v34.2.2.2.2.2.2.1.length = v10.1.other.dims.length) then
                                                  (bif decide (v34.2.2.2.2.2.2.2.1.length = v10.1.other.maps.length) then
                                                    (bif decide (v34.2.2.2.2.2.2.2.2.1.length = v10.1.parts.length) then
                                                      (bif decide (v34.2.2.2.2.2.2.2.2.2.1.length = v10.1.maps.length) then
                                                        (bif decide (v34.2.2.2.2.2.2.2.2.2.2.1.length = v10.1.bars.length) then
                                                          (bif decide (v34.2.2.2.2.2.2.2.2.2.2.2.1.length = v10.1.theta.length) then
                                                            (bif decide (v34.2.2.2.2.2.2.2.2.2.2.2.2.1.length = v10.1.subs.length) then
                                                              (Option.bind (m_laws_heldClaim (⟨v10.1.kind, (⟨v10.1.rep.p, (⟨v10.1.rep.q.n, v34.1, v34.2.1⟩ : Qv), v34.2.2.1, v34.2.2.2.1⟩ : Rp), (⟨v10.1.other.p, (⟨v10.1.other.q.n, v34.2.2.2.2.1, v34.2.2.2.2.2.1⟩ : Qv), v34.2.2.2.2.2.2.1, v34.2.2.2.2.2.2.2.1⟩ : Rp), v34.2.2.2.2.2.2.2.2.1, v34.2.2.2.2.2.2.2.2.2.1, v34.2.2.2.2.2.2.2.2.2.2.1, v34.2.2.2.2.2.2.2.2.2.2.2.1, v34.2.2.2.2.2.2.2.2.2.2.2.2.1⟩ : Cl) 1) fun v48 =>
                                                              bif decide (v48 < 0) then
                                                                (some (false))
                                                              else
                                                                (bif !decide (v48 = v34.2.2.2.2.2.2.2.2.2.2.2.2.2) then
                                                                  (some (false))
                                                                else
                                                                  (Option.bind (m_laws_toRep a0) fun v51 =>
                                                                  Option.bind (m_laws_toRep a1) fun v52 =>
                                                                  Option.bind (m_impl_ClaimOfExtension v51 v52) fun v53 =>
                                                                  Option.bind (m_laws_eqClaim v53.1 v7.1) fun v54 =>
                                                                  bif !v54 then
                                                                    (some (false))
                                                                  else
                                                                    (bif !(v53.2 == v7.2) then
                                                                      (some (false))
                                                                    else
                                                                      (Option.bind (m_laws_heldClaim (⟨v10.1.kind, (⟨v10.1.rep.p, (⟨v10.1.rep.q.n, v34.1, v34.2.1⟩ : Qv), v34.2.2.1, v34.2.2.2.1⟩ : Rp), (⟨v10.1.other.p, (⟨v10.1.other.q.n, v34.2.2.2.2.1, v34.2.2.2.2.2.1⟩ : Qv), v34.2.2.2.2.2.2.1, v34.2.2.2.2.2.2.2.1⟩ : Rp), v34.2.2.2.2.2.2.2.2.1, v34.2.2.2.2.2.2.2.2.2.1, v34.2.2.2.2.2.2.2.2.2.2.1, v34.2.2.2.2.2.2.2.2.2.2.2.1, v34.2.2.2.2.2.2.2.2.2.2.2.2.1⟩ : Cl) 1) fun v57 =>
                                                                      bif decide (v57 < 0) then
                                                                        (some (false))
                                                                      else
                                                                        (bif !decide (v57 = v34.2.2.2.2.2.2.2.2.2.2.2.2.2) then
                                                                          (some (false))
                                                                        else
                                                                          (some (true))))))))
                                                            else none)
                                                          else none)
                                                        else none)
                                                      else none)
                                                    else none)
                                                  else none)
                                                else none)
                                              else none)
                                            else none)
                                          else none)
                                        else none)
                                      else none)
                                    else none))))
                            else none)
                          else none)
                        else none)
                      else none)
                    else none)
                  else none)
                else none)
              else none))))))

theorem c_laws_FnExactClaimOfExtension (a0 : Rp) (a1 : Rp) (r : Bool) (h : m_laws_FnExactClaimOfExtension a0 a1 = some r) : HasC Tryz.prog 3 [.agg (eR a0), .agg (eR a1)] (.bl r) := by
 refine hasC_mkW TT_ok (rvs := [.tmp 4]) (ns := [0, 1, 2, 3, 4, 5, 6, 7, 8, 9, 10, 11, 12, 13, 14, 15, 16, 17, 18, 19, 20, 21, 22, 23, 24, 25, 26, 27, 28, 29, 30, 31, 32, 33, 34, 35, 36, 37, 38, 39, 40, 41, 42, 43, 44, 45, 46, 47, 48, 49, 50, 51, 52, 53, 54, 55, 56, 57, 58, 59, 60, 61, 62, 63, 64, 65, 66, 67, 68, 69, 70, 71, 72, 73, 74, 75, 76, 77, 78, 79]) Tryz.func3 k k Tryz.ntmps3 k k k (fun W => ?_)
 refine rawE_agg <| rawC_sc <| rawC_sc <| rawC_d (fun w0_2 S0_2 r0_2 => ?_)
 refine rawC_d (fun w0_3 S0_3 r0_3 => ?_)
 refine rawC_d (fun w0_4 S0_4 r0_4 => ?_)
 refine rawC_d (fun w0_5 S0_5 r0_5 => ?_)
 refine rawC_nil <| rawE_agg <| rawC_sc <| rawC_sc <| rawC_d (fun w1_2 S1_2 r1_2 => ?_)
 refine rawC_d (fun w1_3 S1_3 r1_3 => ?_)
 refine rawC_d (fun w1_4 S1_4 r1_4 => ?_)
 refine rawC_d (fun w1_5 S1_5 r1_5 => ?_)
 refine rawC_nil <| rawE_nil <| sQ <| rgS <| se (w_box k k k k) k <| se (w_box k k k k) k <| se (eff_assign k) k <| sn <| tn <| sQ ?_
 refine rgS <| se (eff_assign k) k <| sn <| tn <| sQ <| rgS <| se (w_load_ptr TT_ok k k k k k k k) k <| se (eff_move k) k ?_
 obtain ⟨v1, hv1, h⟩ := ob h
 refine se (w_call0sK (c_laws_szRep a0 1048576 v1 hv1) k (vk_cons (.inr (raw_cons (raw1_sc k k) (raw_cons (raw1_sc k k) (raw_cons (raw1_d k r0_2) (raw_cons (raw1_d k r0_3) (raw_cons (raw1_d k r0_4) (raw_cons (raw1_d k r0_5) raw_nil))))))) (vk_cons (.inl (va_same k)) vk_nil))) k <| se (eff_assign k) k <| sn <| tn <| sQ <| sQ <| rgS <| se (eff_move k) k <| se (w_cmp k k k) k <| sn ?_
 refine tn ?_
 rcases cb h with ⟨q2, h⟩ | ⟨q2, h⟩
 ·refine ac_condT k q2 <| sQ <| rgS <| se (eff_assign k) k <| sn <| tn <| ac_ret <| then_ret ?_
  obtain rfl := so h
  exact ret_mk k k k (fz_bl k)
 ·refine ac_condF k q2 <| ac_skip <| tn <| sQ <| rgS <| se (w_load_ptr TT_ok k k k k k k k) k <| se (eff_move k) k ?_
  obtain ⟨v3, hv3, h⟩ := ob h
  refine se (w_call0sK (c_laws_szRep a1 v1 v3 hv3) k (vk_cons (.inr (raw_cons (raw1_sc k k) (raw_cons (raw1_sc k k) (raw_cons (raw1_d k r1_2) (raw_cons (raw1_d k r1_3) (raw_cons (raw1_d k r1_4) (raw_cons (raw1_d k r1_5) raw_nil))))))) (vk_cons (.inl (va_same k)) vk_nil))) k <| se (eff_assign k) k <| sn <| tn <| ac_ent (t := mkS [(2, .ptr 0 0 0), (3, .ptr 1 0 0), (5, .int v3)] [(0, ⟨6, [[.int a0.p, .int a0.q.n, .sc w0_2, .sc w0_3, .sc w0_4, .sc w0_5]]⟩), (1, ⟨6, [[.int a1.p, .int a1.q.n, .sc w1_2, .sc w1_3, .sc w1_4, .sc w1_5]]⟩)] 2 [2, 3, 4, 5, 6, 7, 8, 9, 10, 11, 12, 13, 14, 15, 16, 17, 18, 19, 20, 21, 22, 23, 24, 25, 26, 27, 28, 29, 30, 31, 32, 33, 34, 35, 36, 37, 38, 39, 40, 41, 42, 43, 44, 45, 46, 47, 48, 49, 50, 51, 52, 53, 54, 55, 56, 57, 58, 59, 60, 61, 62, 63, 64, 65, 66, 67, 68, 69, 70, 71, 72, 73, 74, 75, 76, 77, 78, 79] ⟨0, true, fxW W, true⟩) (ent_mk (σ := sg [(0, 0), (1, 1)]) ⟨(pE k k), (pE k k), (e1 k k), trivial⟩ (hP k k k k <| hP k k k k <| trivial) k) <| sQ <| sQ <| rgS <| se (eff_move k) k <| se (w_cmp k k k) k ?_
  refine sn <| tn ?_
  rcases cb h with ⟨q4, h⟩ | ⟨q4, h⟩
  ·refine ac_condT k q4 <| sQ <| rgS <| se (eff_assign k) k <| sn <| tn <| ac_ret <| then_ret ?_
   obtain rfl := so h
   exact ret_mk k k k (fz_bl k)
  ·refine ac_condF k q4 <| ac_skip <| tn <| sQ <| ac_region_draw MIXX <| ae (w_load_ptr TT_ok k k k k k k k) k ?_
   obtain ⟨v5, hv5, h⟩ := ob h
   refine ae (AEff.conv (w_call0K (x := .agg [.int v5.p, .int v5.q.n, .own 2 0 (List.map eI v5.q.src).length, .own 3 0 (List.map eI v5.q.tgt).length, .own 4 0 (List.map eI v5.dims).length, .own 5 0 (List.map eM v5.maps).length]) (nb := [(2, ⟨1, absEs (List.map eI v5.q.src)⟩), (3, ⟨1, absEs (List.map eI v5.q.tgt)⟩), (4, ⟨1, absEs (List.map eI v5.dims)⟩), (5, ⟨3, absEs (List.map eM v5.maps)⟩)]) (c_laws_toRep a0 v5 hv5) k (by rfl) k k (g1_cons trivial (g1_cons trivial (g1_cons (okI.good _) (g1_cons (okI.good _) (g1_cons (okI.good _) (g1_cons (okMt.good _) g1_nil)))))) (vk_cons (.inr (raw_cons (raw1_sc k k) (raw_cons (raw1_sc k k) (raw_cons (raw1_d k r0_2) (raw_cons (raw1_d k r0_3) (raw_cons (raw1_d k r0_4) (raw_cons (raw1_d k r0_5) raw_nil))))))) vk_nil)) (v' := .agg [.int v5.p, .int v5.q.n, .own 2 0 v5.q.src.length, .own 3 0 v5.q.tgt.length, .own 4 0 v5.dims.length, .own 5 0 v5.maps.length]) (ed' := [(2, some ⟨1, List.map (ow eI) v5.q.src⟩), (3, some ⟨1, List.map (ow eI) v5.q.tgt⟩), (4, some ⟨1, List.map (ow eI) v5.dims⟩), (5, some ⟨3, List.map (ow eM) v5.maps⟩)]) (by simp only [len_map]) (ed_ok (nb' := [(2, ⟨1, List.map (ow eI) v5.q.src⟩), (3, ⟨1, List.map (ow eI) v5.q.tgt⟩), (4, ⟨1, List.map (ow eI) v5.dims⟩), (5, ⟨3, List.map (ow eM) v5.maps⟩)]) (by simp only [abs_map]))) k <| ae (w_load_ptr TT_ok k k k k k k k) k ?_
   obtain ⟨v6, hv6, h⟩ := ob h
   refine ae (AEff.conv (w_call0K (x := .agg [.int v6.p, .int v6.q.n, .own 6 0 (List.map eI v6.q.src).length, .own 7 0 (List.map eI v6.q.tgt).length, .own 8 0 (List.map eI v6.dims).length, .own 9 0 (List.map eM v6.maps).length]) (nb := [(6, ⟨1, absEs (List.map eI v6.q.src)⟩), (7, ⟨1, absEs (List.map eI v6.q.tgt)⟩), (8, ⟨1, absEs (List.map eI v6.dims)⟩), (9, ⟨3, absEs (List.map eM v6.maps)⟩)]) (c_laws_toRep a1 v6 hv6) k (by rfl) k k (g1_cons trivial (g1_cons trivial (g1_cons (okI.good _) (g1_cons (okI.good _) (g1_cons (okI.good _) (g1_cons (okMt.good _) g1_nil)))))) (vk_cons (.inr (raw_cons (raw1_sc k k) (raw_cons (raw1_sc k k) (raw_cons (raw1_d k r1_2) (raw_cons (raw1_d k r1_3) (raw_cons (raw1_d k r1_4) (raw_cons (raw1_d k r1_5) raw_nil))))))) vk_nil)) (v' := .agg [.int v6.p, .int v6.q.n, .own 6 0 v6.q.src.length, .own 7 0 v6.q.tgt.length, .own 8 0 v6.dims.length, .own 9 0 v6.maps.length]) (ed' := [(6, some ⟨1, List.map (ow eI) v6.q.src⟩), (7, some ⟨1, List.map (ow eI) v6.q.tgt⟩), (8, some ⟨1, List.map (ow eI) v6.dims⟩), (9, some ⟨3, List.map (ow eM) v6.maps⟩)]) (by simp only [len_map]) (ed_ok (nb' := [(6, ⟨1, List.map (ow eI) v6.q.src⟩), (7, ⟨1, List.map (ow eI) v6.q.tgt⟩), (8, ⟨1, List.map (ow eI) v6.dims⟩), (9, ⟨3, List.map (ow eM) v6.maps⟩)]) (by simp only [abs_map]))) k ?_
   obtain ⟨v7, hv7, h⟩ := ob h
   refine ae (AEff.conv (w_call0K (x := .tuple [.agg [.int v7.1.kind, .int v7.1.rep.p, .int v7.1.rep.q.n, .own 10 0 (List.map eI v7.1.rep.q.src).length, .own 11 0 (List.map eI v7.1.rep.q.tgt).length, .own 12 0 (List.map eI v7.1.rep.dims).length, .own 13 0 (List.map eM v7.1.rep.maps).length, .int v7.1.other.p, .int v7.1.other.q.n, .own 14 0 (List.map eI v7.1.other.q.src).length, .own 15 0 (List.map eI v7.1.other.q.tgt).length, .own 16 0 (List.map eI v7.1.other.dims).length, .own 17 0 (List.map eM v7.1.other.maps).length, .own 18 0 (List.map eR v7.1.parts).length, .own 19 0 (List.map eM v7.1.maps).length, .own 20 0 (List.map eB v7.1.bars).length, .own 21 0 (List.map eI v7.1.theta).length, .own 22 0 (List.map eS v7.1.subs).length], .bl v7.2]) (nb := [(10, ⟨1, absEs (List.map eI v7.1.rep.q.src)⟩), (11, ⟨1, absEs (List.map eI v7.1.rep.q.tgt)⟩), (12, ⟨1, absEs (List.map eI v7.1.rep.dims)⟩), (13, ⟨3, absEs (List.map eM v7.1.rep.maps)⟩), (14, ⟨1, absEs (List.map eI v7.1.other.q.src)⟩), (15, ⟨1, absEs (List.map eI v7.1.other.q.tgt)⟩), (16, ⟨1, absEs (List.map eI v7.1.other.dims)⟩), (17, ⟨3, absEs (List.map eM v7.1.other.maps)⟩), (18, ⟨6, absEs (List.map eR v7.1.parts)⟩), (19, ⟨3, absEs (List.map eM v7.1.maps)⟩), (20, ⟨3, absEs (List.map eB v7.1.bars)⟩), (21, ⟨1, absEs (List.map eI v7.1.theta)⟩), (22, ⟨2, absEs (List.map eS v7.1.subs)⟩)]) (c_spec_ClaimOfExtension v5 v6 v7 hv7) k (by rfl) k k (gB_cons (g1_cons trivial (g1_cons trivial (g1_cons trivial (g1_cons (okI.good _) (g1_cons (okI.good _) (g1_cons (okI.good _) (g1_cons (okMt.good _) (g1_cons trivial (g1_cons trivial (g1_cons (okI.good _) (g1_cons (okI.good _) (g1_cons (okI.good _) (g1_cons (okMt.good _) (g1_cons (okRp.good _) (g1_cons (okMt.good _) (g1_cons (okBr.good _) (g1_cons (okI.good _) (g1_cons (okSc.good _) g1_nil)))))))))))))))))) (gB_cons trivial gB_nil)) (vk_cons (.inl (va_agg' (v1_cons (v1_same k) (v1_cons (v1_same k) (v1_cons (v1_T okI k k) (v1_cons (v1_T okI k k) (v1_cons (v1_T okI k k) (v1_cons (v1_T okMt k k) v1_nil)))))))) (vk_cons (.inl (va_agg' (v1_cons (v1_same k) (v1_cons (v1_same k) (v1_cons (v1_T okI k k) (v1_cons (v1_T okI k k) (v1_cons (v1_T okI k k) (v1_cons (v1_T okMt k k) v1_nil)))))))) vk_nil))) (v' := .tuple [.agg [.int v7.1.kind, .int v7.1.rep.p, .int v7.1.rep.q.n, .own 10 0 v7.1.rep.q.src.length, .own 11 0 v7.1.rep.q.tgt.length, .own 12 0 v7.1.rep.dims.length, .own 13 0 v7.1.rep.maps.length, .int v7.1.other.p, .int v7.1.other.q.n, .own 14 0 v7.1.other.q.src.length, .own 15 0 v7.1.other.q.tgt.length, .own 16 0 v7.1.other.dims.length, .own 17 0 v7.1.other.maps.length, .own 18 0 v7.1.parts.length, .own 19 0 v7.1.maps.length, .own 20 0 v7.1.bars.length, .own 21 0 v7.1.theta.length, .own 22 0 v7.1.subs.length], .bl v7.2]) (ed' := [(10, some ⟨1, List.map (ow eI) v7.1.rep.q.src⟩), (11, some ⟨1, List.map (ow eI) v7.1.rep.q.tgt⟩), (12, some ⟨1, List.map (ow eI) v7.1.rep.dims⟩), (13, some ⟨3, List.map (ow eM) v7.1.rep.maps⟩), (14, some ⟨1, List.map (ow eI) v7.1.other.q.src⟩), (15, some ⟨1, List.map (ow eI) v7.1.other.q.tgt⟩), (16, some ⟨1, List.map (ow eI) v7.1.other.dims⟩), (17, some ⟨3, List.map (ow eM) v7.1.other.maps⟩), (18, some ⟨6, List.map (ow eR) v7.1.parts⟩), (19, some ⟨3, List.map (ow eM) v7.1.maps⟩), (20, some ⟨3, List.map (ow eB) v7.1.bars⟩), (21, some ⟨1, List.map (ow eI) v7.1.theta⟩), (22, some ⟨2, List.map (ow eS) v7.1.subs⟩)]) (by simp only [len_map]) (ed_ok (nb' := [(10, ⟨1, List.map (ow eI) v7.1.rep.q.src⟩), (11, ⟨1, List.map (ow eI) v7.1.rep.q.tgt⟩), (12, ⟨1, List.map (ow eI) v7.1.rep.dims⟩), (13, ⟨3, List.map (ow eM) v7.1.rep.maps⟩), (14, ⟨1, List.map (ow eI) v7.1.other.q.src⟩), (15, ⟨1, List.map (ow eI) v7.1.other.q.tgt⟩), (16, ⟨1, List.map (ow eI) v7.1.other.dims⟩), (17, ⟨3, List.map (ow eM) v7.1.other.maps⟩), (18, ⟨6, List.map (ow eR) v7.1.parts⟩), (19, ⟨3, List.map (ow eM) v7.1.maps⟩), (20, ⟨3, List.map (ow eB) v7.1.bars⟩), (21, ⟨1, List.map (ow eI) v7.1.theta⟩), (22, ⟨2, List.map (ow eS) v7.1.subs⟩)]) (by simp only [abs_map]))) k ?_
   refine am k k <| ae (eff_extract k k (by intro _ h; cases h)) k <| ae (eff_extract k k (by intro _ h; cases h)) k <| ae (w_alloc TT_ok k k) k <| ae (w_store TT_ok k k k k k k k k) k <| aa k k <| an ?_
   refine ⟨by kernel_rfl, ?_⟩
   refine tn <| ac_ent (t := mkS [(2, .ptr 0 0 0), (3, .ptr 1 0 0), (6, .ptr 23 0 0), (7, .bl v7.2)] [(0, ⟨6, [[.int a0.p, .int a0.q.n, .sc w0_2, .sc w0_3, .sc w0_4, .sc w0_5]]⟩), (1, ⟨6, [[.int a1.p, .int a1.q.n, .sc w1_2, .sc w1_3, .sc w1_4, .sc w1_5]]⟩), (10, ⟨1, List.map (ow eI) v7.1.rep.q.src⟩), (11, ⟨1, List.map (ow eI) v7.1.rep.q.tgt⟩), (12, ⟨1, List.map (ow eI) v7.1.rep.dims⟩), (13, ⟨3, List.map (ow eM) v7.1.rep.maps⟩), (14, ⟨1, List.map (ow eI) v7.1.other.q.src⟩), (15, ⟨1, List.map (ow eI) v7.1.other.q.tgt⟩), (16, ⟨1, List.map (ow eI) v7.1.other.dims⟩), (17, ⟨3, List.map (ow eM) v7.1.other.maps⟩), (18, ⟨6, List.map (ow eR) v7.1.parts⟩), (19, ⟨3, List.map (ow eM) v7.1.maps⟩), (20, ⟨3, List.map (ow eB) v7.1.bars⟩), (21, ⟨1, List.map (ow eI) v7.1.theta⟩), (22, ⟨2, List.map (ow eS) v7.1.subs⟩), (23, ⟨18, [[.int v7.1.kind, .int v7.1.rep.p, .int v7.1.rep.q.n, .own 10 0 v7.1.rep.q.src.length, .own 11 0 v7.1.rep.q.tgt.length, .own 12 0 v7.1.rep.dims.length, .own 13 0 v7.1.rep.maps.length, .int v7.1.other.p, .int v7.1.other.q.n, .own 14 0 v7.1.other.q.src.length, .own 15 0 v7.1.other.q.tgt.length, .own 16 0 v7.1.other.dims.length, .own 17 0 v7.1.other.maps.length, .own 18 0 v7.1.parts.length, .own 19 0 v7.1.maps.length, .own 20 0 v7.1.bars.length, .own 21 0 v7.1.theta.length, .own 22 0 v7.1.subs.length]]⟩)] 24 [24, 25, 26, 27, 28, 29, 30, 31, 32, 33, 34, 35, 36, 37, 38, 39, 40, 41, 42, 43, 44, 45, 46, 47, 48, 49, 50, 51, 52, 53, 54, 55, 56, 57, 58, 59, 60, 61, 62, 63, 64, 65, 66, 67, 68, 69, 70, 71, 72, 73, 74, 75, 76, 77, 78, 79] ⟨0, true, fxW W, true⟩) (ent_mk (σ := sg [(0, 0), (1, 1), (10, 10), (11, 11), (12, 12), (13, 13), (14, 14), (15, 15), (16, 16), (17, 17), (18, 18), (19, 19), (20, 20), (21, 21), (22, 22), (23, 23)]) ⟨(pE k k), (pE k k), (pE k k), (e1 k k), trivial⟩ (hP k k k k <| hP k k k k <| hI k k k <| hI k k k <| hI k k k <| hB (okMt.plainO _) k k k <| hI k k k <| hI k k k <| hI k k k <| hB (okMt.plainO _) k k k <| hB (okRp.plainO _) k k k <| hB (okMt.plainO _) k k k <| hB (okBr.plainO _) k k k <| hI k k k <| hB (okSc.plainO _) k k k <| hX ⟨_, k, k, .inr ⟨_, _, k, ⟨_, _, k, k, ⟨_, _, k, k, ⟨_, _, k, k, ⟨_, _, k, ⟨k, k, k, k⟩, ⟨_, _, k, ⟨k, k, k, k⟩, ⟨_, _, k, ⟨k, k, k, k⟩, ⟨_, _, k, ⟨k, k, k, k⟩, ⟨_, _, k, k, ⟨_, _, k, k, ⟨_, _, k, ⟨k, k, k, k⟩, ⟨_, _, k, ⟨k, k, k, k⟩, ⟨_, _, k, ⟨k, k, k, k⟩, ⟨_, _, k, ⟨k, k, k, k⟩, ⟨_, _, k, ⟨k, k, k, k⟩, ⟨_, _, k, ⟨k, k, k, k⟩, ⟨_, _, k, ⟨k, k, k, k⟩, ⟨_, _, k, ⟨k, k, k, k⟩, ⟨_, _, k, ⟨k, k, k, k⟩, k⟩⟩⟩⟩⟩⟩⟩⟩⟩⟩⟩⟩⟩⟩⟩⟩⟩⟩, k⟩⟩ k <| trivial) k) ?_
   refine sQ <| rgS <| se (w_load_ptr TT_ok k k k k k k k) k ?_
   obtain ⟨v8, hv8, h⟩ := ob h
   refine se (AEff.conv (w_call0K (x := .agg [.int v8.p, .int v8.q.n, .own 24 0 (List.map eI v8.q.src).length, .own 25 0 (List.map eI v8.q.tgt).length, .own 26 0 (List.map eI v8.dims).length, .own 27 0 (List.map eM v8.maps).length]) (nb := [(24, ⟨1, absEs (List.map eI v8.q.src)⟩), (25, ⟨1, absEs (List.map eI v8.q.tgt)⟩), (26, ⟨1, absEs (List.map eI v8.dims)⟩), (27, ⟨3, absEs (List.map eM v8.maps)⟩)]) (c_laws_toRep a0 v8 hv8) k (by rfl) k k (g1_cons trivial (g1_cons trivial (g1_cons (okI.good _) (g1_cons (okI.good _) (g1_cons (okI.good _) (g1_cons (okMt.good _) g1_nil)))))) (vk_cons (.inr (raw_cons (raw1_sc k k) (raw_cons (raw1_sc k k) (raw_cons (raw1_d k r0_2) (raw_cons (raw1_d k r0_3) (raw_cons (raw1_d k r0_4) (raw_cons (raw1_d k r0_5) raw_nil))))))) vk_nil)) (v' := .agg [.int v8.p, .int v8.q.n, .own 24 0 v8.q.src.length, .own 25 0 v8.q.tgt.length, .own 26 0 v8.dims.length, .own 27 0 v8.maps.length]) (ed' := [(24, some ⟨1, List.map (ow eI) v8.q.src⟩), (25, some ⟨1, List.map (ow eI) v8.q.tgt⟩), (26, some ⟨1, List.map (ow eI) v8.dims⟩), (27, some ⟨3, List.map (ow eM) v8.maps⟩)]) (by simp only [len_map]) (ed_ok (nb' := [(24, ⟨1, List.map (ow eI) v8.q.src⟩), (25, ⟨1, List.map (ow eI) v8.q.tgt⟩), (26, ⟨1, List.map (ow eI) v8.dims⟩), (27, ⟨3, List.map (ow eM) v8.maps⟩)]) (by simp only [abs_map]))) k <| se (w_alloc TT_ok k k) k <| se (w_store TT_ok k k k k k k k k) k <| sn <| tn <| sQ <| rgS <| se (w_load_ptr TT_ok k k k k k k k) k ?_
   obtain ⟨v9, hv9, h⟩ := ob h
   refine se (AEff.conv (w_call0K (x := .agg [.int v9.p, .int v9.q.n, .own 29 0 (List.map eI v9.q.src).length, .own 30 0 (List.map eI v9.q.tgt).length, .own 31 0 (List.map eI v9.dims).length, .own 32 0 (List.map eM v9.maps).length]) (nb := [(29, ⟨1, absEs (List.map eI v9.q.src)⟩), (30, ⟨1, absEs (List.map eI v9.q.tgt)⟩), (31, ⟨1, absEs (List.map eI v9.dims)⟩), (32, ⟨3, absEs (List.map eM v9.maps)⟩)]) (c_laws_toRep a1 v9 hv9) k (by rfl) k k (g1_cons trivial (g1_cons trivial (g1_cons (okI.good _) (g1_cons (okI.good _) (g1_cons (okI.good _) (g1_cons (okMt.good _) g1_nil)))))) (vk_cons (.inr (raw_cons (raw1_sc k k) (raw_cons (raw1_sc k k) (raw_cons (raw1_d k r1_2) (raw_cons (raw1_d k r1_3) (raw_cons (raw1_d k r1_4) (raw_cons (raw1_d k r1_5) raw_nil))))))) vk_nil)) (v' := .agg [.int v9.p, .int v9.q.n, .own 29 0 v9.q.src.length, .own 30 0 v9.q.tgt.length, .own 31 0 v9.dims.length, .own 32 0 v9.maps.length]) (ed' := [(29, some ⟨1, List.map (ow eI) v9.q.src⟩), (30, some ⟨1, List.map (ow eI) v9.q.tgt⟩), (31, some ⟨1, List.map (ow eI) v9.dims⟩), (32, some ⟨3, List.map (ow eM) v9.maps⟩)]) (by simp only [len_map]) (ed_ok (nb' := [(29, ⟨1, List.map (ow eI) v9.q.src⟩), (30, ⟨1, List.map (ow eI) v9.q.tgt⟩), (31, ⟨1, List.map (ow eI) v9.dims⟩), (32, ⟨3, List.map (ow eM) v9.maps⟩)]) (by simp only [abs_map]))) k <| se (w_alloc TT_ok k k) k <| se (w_store TT_ok k k k k k k k k) k <| sn <| tn <| sQ <| rgS <| se (w_load_ptr TT_ok k k k k k k k) k <| se (w_load_ptr TT_ok k k k k k k k) k ?_
   obtain ⟨v10, hv10, h⟩ := ob h
   refine se (AEff.conv (w_call0K (x := .tuple [.agg [.int v10.1.kind, .int v10.1.rep.p, .int v10.1.rep.q.n, .own 34 0 (List.map eI v10.1.rep.q.src).length, .own 35 0 (List.map eI v10.1.rep.q.tgt).length, .own 36 0 (List.map eI v10.1.rep.dims).length, .own 37 0 (List.map eM v10.1.rep.maps).length, .int v10.1.other.p, .int v10.1.other.q.n, .own 38 0 (List.map eI v10.1.other.q.src).length, .own 39 0 (List.map eI v10.1.other.q.tgt).length, .own 40 0 (List.map eI v10.1.other.dims).length, .own 41 0 (List.map eM v10.1.other.maps).length, .own 42 0 (List.map eR v10.1.parts).length, .own 43 0 (List.map eM v10.1.maps).length, .own 44 0 (List.map eB v10.1.bars).length, .own 45 0 (List.map eI v10.1.theta).length, .own 46 0 (List.map eS v10.1.subs).length], .bl v10.2]) (nb := [(34, ⟨1, absEs (List.map eI v10.1.rep.q.src)⟩), (35, ⟨1, absEs (List.map eI v10.1.rep.q.tgt)⟩), (36, ⟨1, absEs (List.map eI v10.1.rep.dims)⟩), (37, ⟨3, absEs (List.map eM v10.1.rep.maps)⟩), (38, ⟨1, absEs (List.map eI v10.1.other.q.src)⟩), (39, ⟨1, absEs (List.map eI v10.1.other.q.tgt)⟩), (40, ⟨1, absEs (List.map eI v10.1.other.dims)⟩), (41, ⟨3, absEs (List.map eM v10.1.other.maps)⟩), (42, ⟨6, absEs (List.map eR v10.1.parts)⟩), (43, ⟨3, absEs (List.map eM v10.1.maps)⟩), (44, ⟨3, absEs (List.map eB v10.1.bars)⟩), (45, ⟨1, absEs (List.map eI v10.1.theta)⟩), (46, ⟨2, absEs (List.map eS v10.1.subs)⟩)]) (c_impl_ClaimOfExtension v8 v9 v10 hv10) k (by rfl) k k (gB_cons (g1_cons trivial (g1_cons trivial (g1_cons trivial (g1_cons (okI.good _) (g1_cons (okI.good _) (g1_cons (okI.good _) (g1_cons (okMt.good _) (g1_cons trivial (g1_cons trivial (g1_cons (okI.good _) (g1_cons (okI.good _) (g1_cons (okI.good _) (g1_cons (okMt.good _) (g1_cons (okRp.good _) (g1_cons (okMt.good _) (g1_cons (okBr.good _) (g1_cons (okI.good _) (g1_cons (okSc.good _) g1_nil)))))))))))))))))) (gB_cons trivial gB_nil)) (vk_cons (.inl (va_agg' (v1_cons (v1_same k) (v1_cons (v1_same k) (v1_cons (v1_T okI k k) (v1_cons (v1_T okI k k) (v1_cons (v1_T okI k k) (v1_cons (v1_T okMt k k) v1_nil)))))))) (vk_cons (.inl (va_agg' (v1_cons (v1_same k) (v1_cons (v1_same k) (v1_cons (v1_T okI k k) (v1_cons (v1_T okI k k) (v1_cons (v1_T okI k k) (v1_cons (v1_T okMt k k) v1_nil)))))))) vk_nil))) (v' := .tuple [.agg [.int v10.1.kind, .int v10.1.rep.p, .int v10.1.rep.q.n, .own 34 0 v10.1.rep.q.src.length, .own 35 0 v10.1.rep.q.tgt.length, .own 36 0 v10.1.rep.dims.length, .own 37 0 v10.1.rep.maps.length, .int v10.1.other.p, .int v10.1.other.q.n, .own 38 0 v10.1.other.q.src.length, .own 39 0 v10.1.other.q.tgt.length, .own 40 0 v10.1.other.dims.length, .own 41 0 v10.1.other.maps.length, .own 42 0 v10.1.parts.length, .own 43 0 v10.1.maps.length, .own 44 0 v10.1.bars.length, .own 45 0 v10.1.theta.length, .own 46 0 v10.1.subs.length], .bl v10.2]) (ed' := [(34, some ⟨1, List.map (ow eI) v10.1.rep.q.src⟩), (35, some ⟨1, List.map (ow eI) v10.1.rep.q.tgt⟩), (36, some ⟨1, List.map (ow eI) v10.1.rep.dims⟩), (37, some ⟨3, List.map (ow eM) v10.1.rep.maps⟩), (38, some ⟨1, List.map (ow eI) v10.1.other.q.src⟩), (39, some ⟨1, List.map (ow eI) v10.1.other.q.tgt⟩), (40, some ⟨1, List.map (ow eI) v10.1.other.dims⟩), (41, some ⟨3, List.map (ow eM) v10.1.other.maps⟩), (42, some ⟨6, List.map (ow eR) v10.1.parts⟩), (43, some ⟨3, List.map (ow eM) v10.1.maps⟩), (44, some ⟨3, List.map (ow eB) v10.1.bars⟩), (45, some ⟨1, List.map (ow eI) v10.1.theta⟩), (46, some ⟨2, List.map (ow eS) v10.1.subs⟩)]) (by simp only [len_map]) (ed_ok (nb' := [(34, ⟨1, List.map (ow eI) v10.1.rep.q.src⟩), (35, ⟨1, List.map (ow eI) v10.1.rep.q.tgt⟩), (36, ⟨1, List.map (ow eI) v10.1.rep.dims⟩), (37, ⟨3, List.map (ow eM) v10.1.rep.maps⟩), (38, ⟨1, List.map (ow eI) v10.1.other.q.src⟩), (39, ⟨1, List.map (ow eI) v10.1.other.q.tgt⟩), (40, ⟨1, List.map (ow eI) v10.1.other.dims⟩), (41, ⟨3, List.map (ow eM) v10.1.other.maps⟩), (42, ⟨6, List.map (ow eR) v10.1.parts⟩), (43, ⟨3, List.map (ow eM) v10.1.maps⟩), (44, ⟨3, List.map (ow eB) v10.1.bars⟩), (45, ⟨1, List.map (ow eI) v10.1.theta⟩), (46, ⟨2, List.map (ow eS) v10.1.subs⟩)]) (by simp only [abs_map]))) k ?_
   refine se (eff_move k) k <| se (eff_extract k k (by intro _ h; cases h)) k <| se (eff_extract k k (by intro _ h; cases h)) k <| se (w_alloc TT_ok k k) k <| se (w_store TT_ok k k k k k k k k) k <| se (eff_assign k) k <| sn <| tn <| ac_ent (t := mkS [(2, .ptr 0 0 0), (3, .ptr 1 0 0), (6, .ptr 23 0 0), (7, .bl v7.2), (8, .ptr 28 0 0), (9, .ptr 33 0 0), (10, .ptr 47 0 0), (11, .bl v10.2)] ((0, ⟨6, [[.int a0.p, .int a0.q.n, .sc w0_2, .sc w0_3, .sc w0_4, .sc w0_5]]⟩) :: (1, ⟨6, [[.int a1.p, .int a1.q.n, .sc w1_2, .sc w1_3, .sc w1_4, .sc w1_5]]⟩) :: (10, ⟨1, List.map (ow eI) v7.1.rep.q.src⟩) :: (11, ⟨1, List.map (ow eI) v7.1.rep.q.tgt⟩) :: (12, ⟨1, List.map (ow eI) v7.1.rep.dims⟩) :: (13, ⟨3, List.map (ow eM) v7.1.rep.maps⟩) :: (14, ⟨1, List.map (ow eI) v7.1.other.q.src⟩) :: (15, ⟨1, List.map (ow eI) v7.1.other.q.tgt⟩) :: (16, ⟨1, List.map (ow eI) v7.1.other.dims⟩) :: (17, ⟨3, List.map (ow eM) v7.1.other.maps⟩) :: (18, ⟨6, List.map (ow eR) v7.1.parts⟩) :: (19, ⟨3, List.map (ow eM) v7.1.maps⟩) :: (20, ⟨3, List.map (ow eB) v7.1.bars⟩) :: (21, ⟨1, List.map (ow eI) v7.1.theta⟩) :: (22, ⟨2, List.map (ow eS) v7.1.subs⟩) :: (23, ⟨18, [[.int v7.1.kind, .int v7.1.rep.p, .int v7.1.rep.q.n, .own 10 0 v7.1.rep.q.src.length, .own 11 0 v7.1.rep.q.tgt.length, .own 12 0 v7.1.rep.dims.length, .own 13 0 v7.1.rep.maps.length, .int v7.1.other.p, .int v7.1.other.q.n, .own 14 0 v7.1.other.q.src.length, .own 15 0 v7.1.other.q.tgt.length, .own 16 0 v7.1.other.dims.length, .own 17 0 v7.1.other.maps.length, .own 18 0 v7.1.parts.length, .own 19 0 v7.1.maps.length, .own 20 0 v7.1.bars.length, .own 21 0 v7.1.theta.length, .own 22 0 v7.1.subs.length]]⟩) :: (24, ⟨1, List.map (ow eI) v8.q.src⟩) :: (25, ⟨1, List.map (ow eI) v8.q.tgt⟩) :: (26, ⟨1, List.map (ow eI) v8.dims⟩) :: (27, ⟨3, List.map (ow eM) v8.maps⟩) :: (28, ⟨6, [[.int v8.p, .int v8.q.n, .own 24 0 v8.q.src.length, .own 25 0 v8.q.tgt.length, .own 26 0 v8.dims.length, .own 27 0 v8.maps.length]]⟩) :: (29, ⟨1, List.map (ow eI) v9.q.src⟩) :: (30, ⟨1, List.map (ow eI) v9.q.tgt⟩) :: (31, ⟨1, List.map (ow eI) v9.dims⟩) :: (32, ⟨3, List.map (ow eM) v9.maps⟩) :: (33, ⟨6, [[.int v9.p, .int v9.q.n, .own 29 0 v9.q.src.length, .own 30 0 v9.q.tgt.length, .own 31 0 v9.dims.length, .own 32 0 v9.maps.length]]⟩) :: (34, ⟨1, List.map (ow eI) v10.1.rep.q.src⟩) :: (35, ⟨1, List.map (ow eI) v10.1.rep.q.tgt⟩) :: (36, ⟨1, List.map (ow eI) v10.1.rep.dims⟩) :: (37, ⟨3, List.map (ow eM) v10.1.rep.maps⟩) :: (38, ⟨1, List.map (ow eI) v10.1.other.q.src⟩) :: (39, ⟨1, List.map (ow eI) v10.1.other.q.tgt⟩) :: (40, ⟨1, List.map (ow eI) v10.1.other.dims⟩) :: (41, ⟨3, List.map (ow eM) v10.1.other.maps⟩) :: (42, ⟨6, List.map (ow eR) v10.1.parts⟩) :: (43, ⟨3, List.map (ow eM) v10.1.maps⟩) :: (44, ⟨3, List.map (ow eB) v10.1.bars⟩) :: (45, ⟨1, List.map (ow eI) v10.1.theta⟩) :: (46, ⟨2, List.map (ow eS) v10.1.subs⟩) :: (47, ⟨18, [[.int v10.1.kind, .int v10.1.rep.p, .int v10.1.rep.q.n, .own 34 0 v10.1.rep.q.src.length, .own 35 0 v10.1.rep.q.tgt.length, .own 36 0 v10.1.rep.dims.length, .own 37 0 v10.1.rep.maps.length, .int v10.1.other.p, .int v10.1.other.q.n, .own 38 0 v10.1.other.q.src.length, .own 39 0 v10.1.other.q.tgt.length, .own 40 0 v10.1.other.dims.length, .own 41 0 v10.1.other.maps.length, .own 42 0 v10.1.parts.length, .own 43 0 v10.1.maps.length, .own 44 0 v10.1.bars.length, .own 45 0 v10.1.theta.length, .own 46 0 v10.1.subs.length]]⟩) :: []) 48 [48, 49, 50, 51, 52, 53, 54, 55, 56, 57, 58, 59, 60, 61, 62, 63, 64, 65, 66, 67, 68, 69, 70, 71, 72, 73, 74, 75, 76, 77, 78, 79] ⟨0, true, fxW W, true⟩) (ent_mk (σ := sg ((0, 0) :: (1, 1) :: (10, 10) :: (11, 11) :: (12, 12) :: (13, 13) :: (14, 14) :: (15, 15) :: (16, 16) :: (17, 17) :: (18, 18) :: (19, 19) :: (20, 20) :: (21, 21) :: (22, 22) :: (23, 23) :: (24, 24) :: (25, 25) :: (26, 26) :: (27, 27) :: (28, 28) :: (29, 29) :: (30, 30) :: (31, 31) :: (32, 32) :: (33, 33) :: (34, 34) :: (35, 35) :: (36, 36) :: (37, 37) :: (38, 38) :: (39, 39) :: (40, 40) :: (41, 41) :: (42, 42) :: (43, 43) :: (44, 44) :: (45, 45) :: (46, 46) :: (47, 47) :: [])) ⟨(pE k k), (pE k k), (pE k k), (e1 k k), (pE k k), (pE k k), (pE k k), (e1 k k), trivial⟩ (hP k k k k <| hP k k k k <| hI k k k <| hI k k k <| hI k k k <| hB (okMt.plainO _) k k k <| hI k k k <| hI k k k <| hI k k k <| hB (okMt.plainO _) k k k <| hB (okRp.plainO _) k k k <| hB (okMt.plainO _) k k k <| hB (okBr.plainO _) k k k <| hI k k k <| hB (okSc.plainO _) k k k <| hX ⟨_, k, k, .inr ⟨_, _, k, ⟨_, _, k, k, ⟨_, _, k, k, ⟨_, _, k, k, ⟨_, _, k, ⟨k, k, k, k⟩, ⟨_, _, k, ⟨k, k, k, k⟩, ⟨_, _, k, ⟨k, k, k, k⟩, ⟨_, _, k, ⟨k, k, k, k⟩, ⟨_, _, k, k, ⟨_, _, k, k, ⟨_, _, k, ⟨k, k, k, k⟩, ⟨_, _, k, ⟨k, k, k, k⟩, ⟨_, _, k, ⟨k, k, k, k⟩, ⟨_, _, k, ⟨k, k, k, k⟩, ⟨_, _, k, ⟨k, k, k, k⟩, ⟨_, _, k, ⟨k, k, k, k⟩, ⟨_, _, k, ⟨k, k, k, k⟩, ⟨_, _, k, ⟨k, k, k, k⟩, ⟨_, _, k, ⟨k, k, k, k⟩, k⟩⟩⟩⟩⟩⟩⟩⟩⟩⟩⟩⟩⟩⟩⟩⟩⟩⟩, k⟩⟩ k <| hI k k k <| hI k k k <| hI k k k <| hB (okMt.plainO _) k k k <| hX ⟨_, k, k, .inr ⟨_, _, k, ⟨_, _, k, k, ⟨_, _, k, k, ⟨_, _, k, ⟨k, k, k, k⟩, ⟨_, _, k, ⟨k, k, k, k⟩, ⟨_, _, k, ⟨k, k, k, k⟩, ⟨_, _, k, ⟨k, k, k, k⟩, k⟩⟩⟩⟩⟩⟩, k⟩⟩ k <| hI k k k <| hI k k k <| hI k k k <| hB (okMt.plainO _) k k k <| hX ⟨_, k, k, .inr ⟨_, _, k, ⟨_, _, k, k, ⟨_, _, k, k, ⟨_, _, k, ⟨k, k, k, k⟩, ⟨_, _, k, ⟨k, k, k, k⟩, ⟨_, _, k, ⟨k, k, k, k⟩, ⟨_, _, k, ⟨k, k, k, k⟩, k⟩⟩⟩⟩⟩⟩, k⟩⟩ k <| hI k k k <| hI k k k <| hI k k k <| hB (okMt.plainO _) k k k <| hI k k k <| hI k k k <| hI k k k <| hB (okMt.plainO _) k k k <| hB (okRp.plainO _) k k k <| hB (okMt.plainO _) k k k <| hB (okBr.plainO _) k k k <| hI k k k <| hB (okSc.plainO _) k k k <| hX ⟨_, k, k, .inr ⟨_, _, k, ⟨_, _, k, k, ⟨_, _, k, k, ⟨_, _, k, k, ⟨_, _, k, ⟨k, k, k, k⟩, ⟨_, _, k, ⟨k, k, k, k⟩, ⟨_, _, k, ⟨k, k, k, k⟩, ⟨_, _, k, ⟨k, k, k, k⟩, ⟨_, _, k, k, ⟨_, _, k, k, ⟨_, _, k, ⟨k, k, k, k⟩, ⟨_, _, k, ⟨k, k, k, k⟩, ⟨_, _, k, ⟨k, k, k, k⟩, ⟨_, _, k, ⟨k, k, k, k⟩, ⟨_, _, k, ⟨k, k, k, k⟩, ⟨_, _, k, ⟨k, k, k, k⟩, ⟨_, _, k, ⟨k, k, k, k⟩, ⟨_, _, k, ⟨k, k, k, k⟩, ⟨_, _, k, ⟨k, k, k, k⟩, k⟩⟩⟩⟩⟩⟩⟩⟩⟩⟩⟩⟩⟩⟩⟩⟩⟩⟩, k⟩⟩ k <| trivial) k) ?_
   refine sQ <| sQ <| rgS <| se (w_load_ptr TT_ok k k k k k k k) k <| se (w_load_ptr TT_ok k k k k k k k) k ?_
   obtain ⟨v11, hv11, h⟩ := ob h
   refine se (w_call0sK (c_laws_eqClaim v10.1 v7.1 v11 hv11) k (vk_cons (.inl (va_agg' (v1_cons (v1_same k) (v1_cons (v1_same k) (v1_cons (v1_same k) (v1_cons (v1_T okI k k) (v1_cons (v1_T okI k k) (v1_cons (v1_T okI k k) (v1_cons (v1_T okMt k k) (v1_cons (v1_same k) (v1_cons (v1_same k) (v1_cons (v1_T okI k k) (v1_cons (v1_T okI k k) (v1_cons (v1_T okI k k) (v1_cons (v1_T okMt k k) (v1_cons (v1_T okRp k k) (v1_cons (v1_T okMt k k) (v1_cons (v1_T okBr k k) (v1_cons (v1_T okI k k) (v1_cons (v1_T okSc k k) v1_nil)))))))))))))))))))) (vk_cons (.inl (va_agg' (v1_cons (v1_same k) (v1_cons (v1_same k) (v1_cons (v1_same k) (v1_cons (v1_T okI k k) (v1_cons (v1_T okI k k) (v1_cons (v1_T okI k k) (v1_cons (v1_T okMt k k) (v1_cons (v1_same k) (v1_cons (v1_same k) (v1_cons (v1_T okI k k) (v1_cons (v1_T okI k k) (v1_cons (v1_T okI k k) (v1_cons (v1_T okMt k k) (v1_cons (v1_T okRp k k) (v1_cons (v1_T okMt k k) (v1_cons (v1_T okBr k k) (v1_cons (v1_T okI k k) (v1_cons (v1_T okSc k k) v1_nil)))))))))))))))))))) vk_nil))) k <| se (w_not k) k <| se (eff_move k) k ?_
   rcases cb h with ⟨q12, h⟩ | ⟨q12, h⟩
   ·refine sops_lit 49 k q12 <| sops_skip k k <| sops_skip k k <| sops_skip k k <| se (eff_pick k k) k <| sn <| tn <| ac_condT k k <| sQ <| rgS ?_
    refine se (eff_assign k) k <| sn <| tn <| ac_ret <| then_ret ?_
    obtain rfl := so h
    exact ret_mk k k k (fz_bl k)
   ·refine sops_lit 49 k q12 <| se (eff_move k) k <| se (eff_move k) k <| se (w_neqB (by kernel_rfl) k k) k <| se (eff_pick k k) k <| sn <| tn ?_
    rcases cb h with ⟨q13, h⟩ | ⟨q13, h⟩
    ·refine ac_condT k q13 <| sQ <| rgS <| se (eff_assign k) k <| sn <| tn <| ac_ret <| then_ret ?_
     obtain rfl := so h
     exact ret_mk k k k (fz_bl k)
    ·refine ac_condF k q13 <| ac_skip <| tn <| sQ <| sQ <| ac_region_draw MIXX <| ae (w_load_ptr TT_ok k k k k k k k) k <| ae (w_load_ptr TT_ok k k k k k k k) k ?_
     obtain ⟨v14, hv14, h⟩ := ob h
     refine ae (AEff.conv (w_call0K (x := .agg [.int v14.p, .int v14.q.n, .own 48 0 (List.map eI v14.q.src).length, .own 49 0 (List.map eI v14.q.tgt).length, .own 50 0 (List.map eI v14.dims).length, .own 51 0 (List.map eM v14.maps).length]) (nb := [(48, ⟨1, absEs (List.map eI v14.q.src)⟩), (49, ⟨1, absEs (List.map eI v14.q.tgt)⟩), (50, ⟨1, absEs (List.map eI v14.dims)⟩), (51, ⟨3, absEs (List.map eM v14.maps)⟩)]) (c_laws_toRep a0 v14 hv14) k (by rfl) k k (g1_cons trivial (g1_cons trivial (g1_cons (okI.good _) (g1_cons (okI.good _) (g1_cons (okI.good _) (g1_cons (okMt.good _) g1_nil)))))) (vk_cons (.inr (raw_cons (raw1_sc k k) (raw_cons (raw1_sc k k) (raw_cons (raw1_d k r0_2) (raw_cons (raw1_d k r0_3) (raw_cons (raw1_d k r0_4) (raw_cons (raw1_d k r0_5) raw_nil))))))) vk_nil)) (v' := .agg [.int v14.p, .int v14.q.n, .own 48 0 v14.q.src.length, .own 49 0 v14.q.tgt.length, .own 50 0 v14.dims.length, .own 51 0 v14.maps.length]) (ed' := [(48, some ⟨1, List.map (ow eI) v14.q.src⟩), (49, some ⟨1, List.map (ow eI) v14.q.tgt⟩), (50, some ⟨1, List.map (ow eI) v14.dims⟩), (51, some ⟨3, List.map (ow eM) v14.maps⟩)]) (by simp only [len_map]) (ed_ok (nb' := [(48, ⟨1, List.map (ow eI) v14.q.src⟩), (49, ⟨1, List.map (ow eI) v14.q.tgt⟩), (50, ⟨1, List.map (ow eI) v14.dims⟩), (51, ⟨3, List.map (ow eM) v14.maps⟩)]) (by simp only [abs_map]))) k ?_
     obtain ⟨v15, hv15, h⟩ := ob h
     refine ae (w_call0sK (c_laws_eqRep v8 v14 v15 hv15) k (vk_cons (.inl (va_agg' (v1_cons (v1_same k) (v1_cons (v1_same k) (v1_cons (v1_T okI k k) (v1_cons (v1_T okI k k) (v1_cons (v1_T okI k k) (v1_cons (v1_T okMt k k) v1_nil)))))))) (vk_cons (.inl (va_agg' (v1_cons (v1_same k) (v1_cons (v1_same k) (v1_cons (v1_T okI k k) (v1_cons (v1_T okI k k) (v1_cons (v1_T okI k k) (v1_cons (v1_T okMt k k) v1_nil)))))))) vk_nil))) k <| ae (w_not k) k <| an ?_
     refine ⟨by kernel_rfl, ?_⟩
     refine tn <| ac_ent (t := mkS [(2, .ptr 0 0 0), (3, .ptr 1 0 0), (6, .ptr 23 0 0), (7, .bl v7.2), (8, .ptr 28 0 0), (9, .ptr 33 0 0), (10, .ptr 47 0 0), (11, .bl v10.2), (58, .bl (!v15))] ((0, ⟨6, [[.int a0.p, .int a0.q.n, .sc w0_2, .sc w0_3, .sc w0_4, .sc w0_5]]⟩) :: (1, ⟨6, [[.int a1.p, .int a1.q.n, .sc w1_2, .sc w1_3, .sc w1_4, .sc w1_5]]⟩) :: (10, ⟨1, List.map (ow eI) v7.1.rep.q.src⟩) :: (11, ⟨1, List.map (ow eI) v7.1.rep.q.tgt⟩) :: (12, ⟨1, List.map (ow eI) v7.1.rep.dims⟩) :: (13, ⟨3, List.map (ow eM) v7.1.rep.maps⟩) :: (14, ⟨1, List.map (ow eI) v7.1.other.q.src⟩) :: (15, ⟨1, List.map (ow eI) v7.1.other.q.tgt⟩) :: (16, ⟨1, List.map (ow eI) v7.1.other.dims⟩) :: (17, ⟨3, List.map (ow eM) v7.1.other.maps⟩) :: (18, ⟨6, List.map (ow eR) v7.1.parts⟩) :: (19, ⟨3, List.map (ow eM) v7.1.maps⟩) :: (20, ⟨3, List.map (ow eB) v7.1.bars⟩) :: (21, ⟨1, List.map (ow eI) v7.1.theta⟩) :: (22, ⟨2, List.map (ow eS) v7.1.subs⟩) :: (23, ⟨18, [[.int v7.1.kind, .int v7.1.rep.p, .int v7.1.rep.q.n, .own 10 0 v7.1.rep.q.src.length, .own 11 0 v7.1.rep.q.tgt.length, .own 12 0 v7.1.rep.dims.length, .own 13 0 v7.1.rep.maps.length, .int v7.1.other.p, .int v7.1.other.q.n, .own 14 0 v7.1.other.q.src.length, .own 15 0 v7.1.other.q.tgt.length, .own 16 0 v7.1.other.dims.length, .own 17 0 v7.1.other.maps.length, .own 18 0 v7.1.parts.length, .own 19 0 v7.1.maps.length, .own 20 0 v7.1.bars.length, .own 21 0 v7.1.theta.length, .own 22 0 v7.1.subs.length]]⟩) :: (24, ⟨1, List.map (ow eI) v8.q.src⟩) :: (25, ⟨1, List.map (ow eI) v8.q.tgt⟩) :: (26, ⟨1, List.map (ow eI) v8.dims⟩) :: (27, ⟨3, List.map (ow eM) v8.maps⟩) :: (28, ⟨6, [[.int v8.p, .int v8.q.n, .own 24 0 v8.q.src.length, .own 25 0 v8.q.tgt.length, .own 26 0 v8.dims.length, .own 27 0 v8.maps.length]]⟩) :: (29, ⟨1, List.map (ow eI) v9.q.src⟩) :: (30, ⟨1, List.map (ow eI) v9.q.tgt⟩) :: (31, ⟨1, List.map (ow eI) v9.dims⟩) :: (32, ⟨3, List.map (ow eM) v9.maps⟩) :: (33, ⟨6, [[.int v9.p, .int v9.q.n, .own 29 0 v9.q.src.length, .own 30 0 v9.q.tgt.length, .own 31 0 v9.dims.length, .own 32 0 v9.maps.length]]⟩) :: (34, ⟨1, List.map (ow eI) v10.1.rep.q.src⟩) :: (35, ⟨1, List.map (ow eI) v10.1.rep.q.tgt⟩) :: (36, ⟨1, List.map (ow eI) v10.1.rep.dims⟩) :: (37, ⟨3, List.map (ow eM) v10.1.rep.maps⟩) :: (38, ⟨1, List.map (ow eI) v10.1.other.q.src⟩) :: (39, ⟨1, List.map (ow eI) v10.1.other.q.tgt⟩) :: (40, ⟨1, List.map (ow eI) v10.1.other.dims⟩) :: (41, ⟨3, List.map (ow eM) v10.1.other.maps⟩) :: (42, ⟨6, List.map (ow eR) v10.1.parts⟩) :: (43, ⟨3, List.map (ow eM) v10.1.maps⟩) :: (44, ⟨3, List.map (ow eB) v10.1.bars⟩) :: (45, ⟨1, List.map (ow eI) v10.1.theta⟩) :: (46, ⟨2, List.map (ow eS) v10.1.subs⟩) :: (47, ⟨18, [[.int v10.1.kind, .int v10.1.rep.p, .int v10.1.rep.q.n, .own 34 0 v10.1.rep.q.src.length, .own 35 0 v10.1.rep.q.tgt.length, .own 36 0 v10.1.rep.dims.length, .own 37 0 v10.1.rep.maps.length, .int v10.1.other.p, .int v10.1.other.q.n, .own 38 0 v10.1.other.q.src.length, .own 39 0 v10.1.other.q.tgt.length, .own 40 0 v10.1.other.dims.length, .own 41 0 v10.1.other.maps.length, .own 42 0 v10.1.parts.length, .own 43 0 v10.1.maps.length, .own 44 0 v10.1.bars.length, .own 45 0 v10.1.theta.length, .own 46 0 v10.1.subs.length]]⟩) :: []) 52 [52, 53, 54, 55, 56, 57, 58, 59, 60, 61, 62, 63, 64, 65, 66, 67, 68, 69, 70, 71, 72, 73, 74, 75, 76, 77, 78, 79] ⟨0, true, fxW W, true⟩) (ent_mk (σ := sg ((0, 0) :: (1, 1) :: (10, 10) :: (11, 11) :: (12, 12) :: (13, 13) :: (14, 14) :: (15, 15) :: (16, 16) :: (17, 17) :: (18, 18) :: (19, 19) :: (20, 20) :: (21, 21) :: (22, 22) :: (23, 23) :: (24, 24) :: (25, 25) :: (26, 26) :: (27, 27) :: (28, 28) :: (29, 29) :: (30, 30) :: (31, 31) :: (32, 32) :: (33, 33) :: (34, 34) :: (35, 35) :: (36, 36) :: (37, 37) :: (38, 38) :: (39, 39) :: (40, 40) :: (41, 41) :: (42, 42) :: (43, 43) :: (44, 44) :: (45, 45) :: (46, 46) :: (47, 47) :: [])) ⟨(pE k k), (pE k k), (pE k k), (e1 k k), (pE k k), (pE k k), (pE k k), (e1 k k), (e1 k k), trivial⟩ (hP k k k k <| hP k k k k <| hI k k k <| hI k k k <| hI k k k <| hB (okMt.plainO _) k k k <| hI k k k <| hI k k k <| hI k k k <| hB (okMt.plainO _) k k k <| hB (okRp.plainO _) k k k <| hB (okMt.plainO _) k k k <| hB (okBr.plainO _) k k k <| hI k k k <| hB (okSc.plainO _) k k k <| hX ⟨_, k, k, .inr ⟨_, _, k, ⟨_, _, k, k, ⟨_, _, k, k, ⟨_, _, k, k, ⟨_, _, k, ⟨k, k, k, k⟩, ⟨_, _, k, ⟨k, k, k, k⟩, ⟨_, _, k, ⟨k, k, k, k⟩, ⟨_, _, k, ⟨k, k, k, k⟩, ⟨_, _, k, k, ⟨_, _, k, k, ⟨_, _, k, ⟨k, k, k, k⟩, ⟨_, _, k, ⟨k, k, k, k⟩, ⟨_, _, k, ⟨k, k, k, k⟩, ⟨_, _, k, ⟨k, k, k, k⟩, ⟨_, _, k, ⟨k, k, k, k⟩, ⟨_, _, k, ⟨k, k, k, k⟩, ⟨_, _, k, ⟨k, k, k, k⟩, ⟨_, _, k, ⟨k, k, k, k⟩, ⟨_, _, k, ⟨k, k, k, k⟩, k⟩⟩⟩⟩⟩⟩⟩⟩⟩⟩⟩⟩⟩⟩⟩⟩⟩⟩, k⟩⟩ k <| hI k k k <| hI k k k <| hI k k k <| hB (okMt.plainO _) k k k <| hX ⟨_, k, k, .inr ⟨_, _, k, ⟨_, _, k, k, ⟨_, _, k, k, ⟨_, _, k, ⟨k, k, k, k⟩, ⟨_, _, k, ⟨k, k, k, k⟩, ⟨_, _, k, ⟨k, k, k, k⟩, ⟨_, _, k, ⟨k, k, k, k⟩, k⟩⟩⟩⟩⟩⟩, k⟩⟩ k <| hI k k k <| hI k k k <| hI k k k <| hB (okMt.plainO _) k k k <| hX ⟨_, k, k, .inr ⟨_, _, k, ⟨_, _, k, k, ⟨_, _, k, k, ⟨_, _, k, ⟨k, k, k, k⟩, ⟨_, _, k, ⟨k, k, k, k⟩, ⟨_, _, k, ⟨k, k, k, k⟩, ⟨_, _, k, ⟨k, k, k, k⟩, k⟩⟩⟩⟩⟩⟩, k⟩⟩ k <| hI k k k <| hI k k k <| hI k k k <| hB (okMt.plainO _) k k k <| hI k k k <| hI k k k <| hI k k k <| hB (okMt.plainO _) k k k <| hB (okRp.plainO _) k k k <| hB (okMt.plainO _) k k k <| hB (okBr.plainO _) k k k <| hI k k k <| hB (okSc.plainO _) k k k <| hX ⟨_, k, k, .inr ⟨_, _, k, ⟨_, _, k, k, ⟨_, _, k, k, ⟨_, _, k, k, ⟨_, _, k, ⟨k, k, k, k⟩, ⟨_, _, k, ⟨k, k, k, k⟩, ⟨_, _, k, ⟨k, k, k, k⟩, ⟨_, _, k, ⟨k, k, k, k⟩, ⟨_, _, k, k, ⟨_, _, k, k, ⟨_, _, k, ⟨k, k, k, k⟩, ⟨_, _, k, ⟨k, k, k, k⟩, ⟨_, _, k, ⟨k, k, k, k⟩, ⟨_, _, k, ⟨k, k, k, k⟩, ⟨_, _, k, ⟨k, k, k, k⟩, ⟨_, _, k, ⟨k, k, k, k⟩, ⟨_, _, k, ⟨k, k, k, k⟩, ⟨_, _, k, ⟨k, k, k, k⟩, ⟨_, _, k, ⟨k, k, k, k⟩, k⟩⟩⟩⟩⟩⟩⟩⟩⟩⟩⟩⟩⟩⟩⟩⟩⟩⟩, k⟩⟩ k <| trivial) k) ?_
     rcases cb h with ⟨q16, h⟩ | ⟨q16, h⟩
     ·refine ac_condT k q16 <| sQ <| rgS <| se (eff_assign k) k <| sn <| tn <| ac_ret <| then_ret ?_
      obtain rfl := so h
      exact ret_mk k k k (fz_bl k)
     ·refine ac_condF k q16 <| ac_skip <| tn <| sQ <| sQ <| ac_region_draw MIXX <| ae (w_load_ptr TT_ok k k k k k k k) k <| ae (w_load_ptr TT_ok k k k k k k k) k ?_
      obtain ⟨v17, hv17, h⟩ := ob h
      refine ae (AEff.conv (w_call0K (x := .agg [.int v17.p, .int v17.q.n, .own 52 0 (List.map eI v17.q.src).length, .own 53 0 (List.map eI v17.q.tgt).length, .own 54 0 (List.map eI v17.dims).length, .own 55 0 (List.map eM v17.maps).length]) (nb := [(52, ⟨1, absEs (List.map eI v17.q.src)⟩), (53, ⟨1, absEs (List.map eI v17.q.tgt)⟩), (54, ⟨1, absEs (List.map eI v17.dims)⟩), (55, ⟨3, absEs (List.map eM v17.maps)⟩)]) (c_laws_toRep a1 v17 hv17) k (by rfl) k k (g1_cons trivial (g1_cons trivial (g1_cons (okI.good _) (g1_cons (okI.good _) (g1_cons (okI.good _) (g1_cons (okMt.good _) g1_nil)))))) (vk_cons (.inr (raw_cons (raw1_sc k k) (raw_cons (raw1_sc k k) (raw_cons (raw1_d k r1_2) (raw_cons (raw1_d k r1_3) (raw_cons (raw1_d k r1_4) (raw_cons (raw1_d k r1_5) raw_nil))))))) vk_nil)) (v' := .agg [.int v17.p, .int v17.q.n, .own 52 0 v17.q.src.length, .own 53 0 v17.q.tgt.length, .own 54 0 v17.dims.length, .own 55 0 v17.maps.length]) (ed' := [(52, some ⟨1, List.map (ow eI) v17.q.src⟩), (53, some ⟨1, List.map (ow eI) v17.q.tgt⟩), (54, some ⟨1, List.map (ow eI) v17.dims⟩), (55, some ⟨3, List.map (ow eM) v17.maps⟩)]) (by simp only [len_map]) (ed_ok (nb' := [(52, ⟨1, List.map (ow eI) v17.q.src⟩), (53, ⟨1, List.map (ow eI) v17.q.tgt⟩), (54, ⟨1, List.map (ow eI) v17.dims⟩), (55, ⟨3, List.map (ow eM) v17.maps⟩)]) (by simp only [abs_map]))) k ?_
      obtain ⟨v18, hv18, h⟩ := ob h
      refine ae (w_call0sK (c_laws_eqRep v9 v17 v18 hv18) k (vk_cons (.inl (va_agg' (v1_cons (v1_same k) (v1_cons (v1_same k) (v1_cons (v1_T okI k k) (v1_cons (v1_T okI k k) (v1_cons (v1_T okI k k) (v1_cons (v1_T okMt k k) v1_nil)))))))) (vk_cons (.inl (va_agg' (v1_cons (v1_same k) (v1_cons (v1_same k) (v1_cons (v1_T okI k k) (v1_cons (v1_T okI k k) (v1_cons (v1_T okI k k) (v1_cons (v1_T okMt k k) v1_nil)))))))) vk_nil))) k <| ae (w_not k) k <| an ?_
      refine ⟨by kernel_rfl, ?_⟩
      refine tn ?_
      rcases cb h with ⟨q19, h⟩ | ⟨q19, h⟩
      ·refine ac_condT k q19 <| sQ <| rgS <| se (eff_assign k) k <| sn <| tn <| ac_ret <| then_ret ?_
       obtain rfl := so h
       exact ret_mk k k k (fz_bl k)
      ·refine ac_condF k q19 <| ac_skip <| tn <| sQ <| rgS <| se (eff_assign k) k <| sn <| tn <| sQ <| rgS ?_
       refine se (w_load_ptr TT_ok k k k k k k k) k <| se (eff_move k) k ?_
       obtain ⟨v20, hv20, h⟩ := ob h
       refine sops_ent (t := mkS [(2, .ptr 0 0 0), (3, .ptr 1 0 0), (6, .ptr 23 0 0), (7, .bl v7.2), (8, .ptr 28 0 0), (9, .ptr 33 0 0), (10, .ptr 47 0 0), (11, .bl v10.2), (12, .int 1), (58, .bl (!v15)), (59, .agg [.int v9.p, .int v9.q.n, .own 29 0 v9.q.src.length, .own 30 0 v9.q.tgt.length, .own 31 0 v9.dims.length, .own 32 0 v9.maps.length]), (60, .agg [.int a1.p, .int a1.q.n, .sc w1_2, .sc w1_3, .sc w1_4, .sc w1_5]), (61, .agg [.int v17.p, .int v17.q.n, .own 52 0 v17.q.src.length, .own 53 0 v17.q.tgt.length, .own 54 0 v17.dims.length, .own 55 0 v17.maps.length]), (62, .bl v18), (63, .bl (!v18)), (64, .agg [.int v8.p, .int v8.q.n, .own 24 0 v8.q.src.length, .own 25 0 v8.q.tgt.length, .own 26 0 v8.dims.length, .own 27 0 v8.maps.length]), (65, .int 1)] ((0, ⟨6, [[.int a0.p, .int a0.q.n, .sc w0_2, .sc w0_3, .sc w0_4, .sc w0_5]]⟩) :: (1, ⟨6, [[.int a1.p, .int a1.q.n, .sc w1_2, .sc w1_3, .sc w1_4, .sc w1_5]]⟩) :: (10, ⟨1, List.map (ow eI) v7.1.rep.q.src⟩) :: (11, ⟨1, List.map (ow eI) v7.1.rep.q.tgt⟩) :: (12, ⟨1, List.map (ow eI) v7.1.rep.dims⟩) :: (13, ⟨3, List.map (ow eM) v7.1.rep.maps⟩) :: (14, ⟨1, List.map (ow eI) v7.1.other.q.src⟩) :: (15, ⟨1, List.map (ow eI) v7.1.other.q.tgt⟩) :: (16, ⟨1, List.map (ow eI) v7.1.other.dims⟩) :: (17, ⟨3, List.map (ow eM) v7.1.other.maps⟩) :: (18, ⟨6, List.map (ow eR) v7.1.parts⟩) :: (19, ⟨3, List.map (ow eM) v7.1.maps⟩) :: (20, ⟨3, List.map (ow eB) v7.1.bars⟩) :: (21, ⟨1, List.map (ow eI) v7.1.theta⟩) :: (22, ⟨2, List.map (ow eS) v7.1.subs⟩) :: (23, ⟨18, [[.int v7.1.kind, .int v7.1.rep.p, .int v7.1.rep.q.n, .own 10 0 v7.1.rep.q.src.length, .own 11 0 v7.1.rep.q.tgt.length, .own 12 0 v7.1.rep.dims.length, .own 13 0 v7.1.rep.maps.length, .int v7.1.other.p, .int v7.1.other.q.n, .own 14 0 v7.1.other.q.src.length, .own 15 0 v7.1.other.q.tgt.length, .own 16 0 v7.1.other.dims.length, .own 17 0 v7.1.other.maps.length, .own 18 0 v7.1.parts.length, .own 19 0 v7.1.maps.length, .own 20 0 v7.1.bars.length, .own 21 0 v7.1.theta.length, .own 22 0 v7.1.subs.length]]⟩) :: (24, ⟨1, List.map (ow eI) v8.q.src⟩) :: (25, ⟨1, List.map (ow eI) v8.q.tgt⟩) :: (26, ⟨1, List.map (ow eI) v8.dims⟩) :: (27, ⟨3, List.map (ow eM) v8.maps⟩) :: (28, ⟨6, [[.int v8.p, .int v8.q.n, .own 24 0 v8.q.src.length, .own 25 0 v8.q.tgt.length, .own 26 0 v8.dims.length, .own 27 0 v8.maps.length]]⟩) :: (29, ⟨1, List.map (ow eI) v9.q.src⟩) :: (30, ⟨1, List.map (ow eI) v9.q.tgt⟩) :: (31, ⟨1, List.map (ow eI) v9.dims⟩) :: (32, ⟨3, List.map (ow eM) v9.maps⟩) :: (33, ⟨6, [[.int v9.p, .int v9.q.n, .own 29 0 v9.q.src.length, .own 30 0 v9.q.tgt.length, .own 31 0 v9.dims.length, .own 32 0 v9.maps.length]]⟩) :: (34, ⟨1, List.map (ow eI) v10.1.rep.q.src⟩) :: (35, ⟨1, List.map (ow eI) v10.1.rep.q.tgt⟩) :: (36, ⟨1, List.map (ow eI) v10.1.rep.dims⟩) :: (37, ⟨3, List.map (ow eM) v10.1.rep.maps⟩) :: (38, ⟨1, List.map (ow eI) v10.1.other.q.src⟩) :: (39, ⟨1, List.map (ow eI) v10.1.other.q.tgt⟩) :: (40, ⟨1, List.map (ow eI) v10.1.other.dims⟩) :: (41, ⟨3, List.map (ow eM) v10.1.other.maps⟩) :: (42, ⟨6, List.map (ow eR) v10.1.parts⟩) :: (43, ⟨3, List.map (ow eM) v10.1.maps⟩) :: (44, ⟨3, List.map (ow eB) v10.1.bars⟩) :: (45, ⟨1, List.map (ow eI) v10.1.theta⟩) :: (46, ⟨2, List.map (ow eS) v10.1.subs⟩) :: (47, ⟨18, [[.int v10.1.kind, .int v10.1.rep.p, .int v10.1.rep.q.n, .own 34 0 v10.1.rep.q.src.length, .own 35 0 v10.1.rep.q.tgt.length, .own 36 0 v10.1.rep.dims.length, .own 37 0 v10.1.rep.maps.length, .int v10.1.other.p, .int v10.1.other.q.n, .own 38 0 v10.1.other.q.src.length, .own 39 0 v10.1.other.q.tgt.length, .own 40 0 v10.1.other.dims.length, .own 41 0 v10.1.other.maps.length, .own 42 0 v10.1.parts.length, .own 43 0 v10.1.maps.length, .own 44 0 v10.1.bars.length, .own 45 0 v10.1.theta.length, .own 46 0 v10.1.subs.length]]⟩) :: (52, ⟨1, List.map (ow eI) v17.q.src⟩) :: (53, ⟨1, List.map (ow eI) v17.q.tgt⟩) :: (54, ⟨1, List.map (ow eI) v17.dims⟩) :: (55, ⟨3, List.map (ow eM) v17.maps⟩) :: []) 56 [56, 57, 58, 59, 60, 61, 62, 63, 64, 65, 66, 67, 68, 69, 70, 71, 72, 73, 74, 75, 76, 77, 78, 79] ⟨0, true, fxW W, true⟩) (ent_mk (σ := sg ((0, 0) :: (1, 1) :: (10, 10) :: (11, 11) :: (12, 12) :: (13, 13) :: (14, 14) :: (15, 15) :: (16, 16) :: (17, 17) :: (18, 18) :: (19, 19) :: (20, 20) :: (21, 21) :: (22, 22) :: (23, 23) :: (24, 24) :: (25, 25) :: (26, 26) :: (27, 27) :: (28, 28) :: (29, 29) :: (30, 30) :: (31, 31) :: (32, 32) :: (33, 33) :: (34, 34) :: (35, 35) :: (36, 36) :: (37, 37) :: (38, 38) :: (39, 39) :: (40, 40) :: (41, 41) :: (42, 42) :: (43, 43) :: (44, 44) :: (45, 45) :: (46, 46) :: (47, 47) :: (52, 52) :: (53, 53) :: (54, 54) :: (55, 55) :: [])) ⟨(pE k k), (pE k k), (pE k k), (e1 k k), (pE k k), (pE k k), (pE k k), (e1 k k), (e1 k k), (e1 k k), ⟨_, k, ⟨_, _, k, k, ⟨_, _, k, k, ⟨_, _, k, ⟨k, k, k, k⟩, ⟨_, _, k, ⟨k, k, k, k⟩, ⟨_, _, k, ⟨k, k, k, k⟩, ⟨_, _, k, ⟨k, k, k, k⟩, k⟩⟩⟩⟩⟩⟩⟩, ⟨_, k, ⟨_, _, k, k, ⟨_, _, k, k, ⟨_, _, k, k, ⟨_, _, k, k, ⟨_, _, k, k, ⟨_, _, k, k, k⟩⟩⟩⟩⟩⟩⟩, ⟨_, k, ⟨_, _, k, k, ⟨_, _, k, k, ⟨_, _, k, ⟨k, k, k, k⟩, ⟨_, _, k, ⟨k, k, k, k⟩, ⟨_, _, k, ⟨k, k, k, k⟩, ⟨_, _, k, ⟨k, k, k, k⟩, k⟩⟩⟩⟩⟩⟩⟩, (e1 k k), (e1 k k), ⟨_, k, ⟨_, _, k, k, ⟨_, _, k, k, ⟨_, _, k, ⟨k, k, k, k⟩, ⟨_, _, k, ⟨k, k, k, k⟩, ⟨_, _, k, ⟨k, k, k, k⟩, ⟨_, _, k, ⟨k, k, k, k⟩, k⟩⟩⟩⟩⟩⟩⟩, (e1 k k), trivial⟩ (hP k k k k <| hP k k k k <| hI k k k <| hI k k k <| hI k k k <| hB (okMt.plainO _) k k k <| hI k k k <| hI k k k <| hI k k k <| hB (okMt.plainO _) k k k <| hB (okRp.plainO _) k k k <| hB (okMt.plainO _) k k k <| hB (okBr.plainO _) k k k <| hI k k k <| hB (okSc.plainO _) k k k <| hX ⟨_, k, k, .inr ⟨_, _, k, ⟨_, _, k, k, ⟨_, _, k, k, ⟨_, _, k, k, ⟨_, _, k, ⟨k, k, k, k⟩, ⟨_, _, k, ⟨k, k, k, k⟩, ⟨_, _, k, ⟨k, k, k, k⟩, ⟨_, _, k, ⟨k, k, k, k⟩, ⟨_, _, k, k, ⟨_, _, k, k, ⟨_, _, k, ⟨k, k, k, k⟩, ⟨_, _, k, ⟨k, k, k, k⟩, ⟨_, _, k, ⟨k, k, k, k⟩, ⟨_, _, k, ⟨k, k, k, k⟩, ⟨_, _, k, ⟨k, k, k, k⟩, ⟨_, _, k, ⟨k, k, k, k⟩, ⟨_, _, k, ⟨k, k, k, k⟩, ⟨_, _, k, ⟨k, k, k, k⟩, ⟨_, _, k, ⟨k, k, k, k⟩, k⟩⟩⟩⟩⟩⟩⟩⟩⟩⟩⟩⟩⟩⟩⟩⟩⟩⟩, k⟩⟩ k <| hI k k k <| hI k k k <| hI k k k <| hB (okMt.plainO _) k k k <| hX ⟨_, k, k, .inr ⟨_, _, k, ⟨_, _, k, k, ⟨_, _, k, k, ⟨_, _, k, ⟨k, k, k, k⟩, ⟨_, _, k, ⟨k, k, k, k⟩, ⟨_, _, k, ⟨k, k, k, k⟩, ⟨_, _, k, ⟨k, k, k, k⟩, k⟩⟩⟩⟩⟩⟩, k⟩⟩ k <| hI k k k <| hI k k k <| hI k k k <| hB (okMt.plainO _) k k k <| hX ⟨_, k, k, .inr ⟨_, _, k, ⟨_, _, k, k, ⟨_, _, k, k, ⟨_, _, k, ⟨k, k, k, k⟩, ⟨_, _, k, ⟨k, k, k, k⟩, ⟨_, _, k, ⟨k, k, k, k⟩, ⟨_, _, k, ⟨k, k, k, k⟩, k⟩⟩⟩⟩⟩⟩, k⟩⟩ k <| hI k k k <| hI k k k <| hI k k k <| hB (okMt.plainO _) k k k <| hI k k k <| hI k k k <| hI k k k <| hB (okMt.plainO _) k k k <| hB (okRp.plainO _) k k k <| hB (okMt.plainO _) k k k <| hB (okBr.plainO _) k k k <| hI k k k <| hB (okSc.plainO _) k k k <| hX ⟨_, k, k, .inr ⟨_, _, k, ⟨_, _, k, k, ⟨_, _, k, k, ⟨_, _, k, k, ⟨_, _, k, ⟨k, k, k, k⟩, ⟨_, _, k, ⟨k, k, k, k⟩, ⟨_, _, k, ⟨k, k, k, k⟩, ⟨_, _, k, ⟨k, k, k, k⟩, ⟨_, _, k, k, ⟨_, _, k, k, ⟨_, _, k, ⟨k, k, k, k⟩, ⟨_, _, k, ⟨k, k, k, k⟩, ⟨_, _, k, ⟨k, k, k, k⟩, ⟨_, _, k, ⟨k, k, k, k⟩, ⟨_, _, k, ⟨k, k, k, k⟩, ⟨_, _, k, ⟨k, k, k, k⟩, ⟨_, _, k, ⟨k, k, k, k⟩, ⟨_, _, k, ⟨k, k, k, k⟩, ⟨_, _, k, ⟨k, k, k, k⟩, k⟩⟩⟩⟩⟩⟩⟩⟩⟩⟩⟩⟩⟩⟩⟩⟩⟩⟩, k⟩⟩ k <| hI k k k <| hI k k k <| hI k k k <| hB (okMt.plainO _) k k k <| trivial) k) ?_
       refine sops_T (σ := sg [(0, 24), (1, 25), (2, 26), (3, 27)]) (σ' := sg [(24, 0), (25, 1), (26, 2), (27, 3)]) (touch := [24, 25, 26, 27]) (news := []) (hl2 := [(24, ⟨1, List.map (ow eI) v20.1⟩), (25, ⟨1, List.map (ow eI) v20.2.1⟩), (26, ⟨1, List.map (ow eI) v20.2.2.1⟩), (27, ⟨3, List.map (ow eM) v20.2.2.2.1⟩)]) (n' := 56) (r2 := .int v20.2.2.2.2) (c_laws_markRep v8 1 v20 hv20) k k ⟨_, _, k, ⟨_, _, k, k, ⟨_, _, k, k, ⟨_, _, k, ⟨k, k, k, k⟩, ⟨_, _, k, ⟨k, k, k, k⟩, ⟨_, _, k, ⟨k, k, k, k⟩, ⟨_, _, k, ⟨k, k, k, k⟩, k⟩⟩⟩⟩⟩⟩, ⟨_, _, k, k, k⟩⟩ ⟨⟨_, k, k, .inl ⟨k, okI.plainO _⟩⟩, k, ⟨_, k, k, .inl ⟨k, okI.plainO _⟩⟩, k, ⟨_, k, k, .inl ⟨k, okI.plainO _⟩⟩, k, ⟨_, k, k, .inl ⟨k, okMt.plainO _⟩⟩, k, trivial⟩ k k k ⟨⟨_, k, k, .inl ⟨k, okI.plainO _⟩⟩, k, ⟨_, k, k, .inl ⟨k, okI.plainO _⟩⟩, k, ⟨_, k, k, .inl ⟨k, okI.plainO _⟩⟩, k, ⟨_, k, k, .inl ⟨k, okMt.plainO _⟩⟩, k, trivial⟩ k k k ⟨k, okI.tame _ _, ⟨k, okI.tame _ _, ⟨k, okI.tame _ _, ⟨k, okMt.tame _ _, trivial⟩⟩⟩⟩ k k k k k (dfE_ok ⟨k, k, k, k, k, k, k, k, k, k, k, k, k, k, k, k, k, trivial⟩) (dfH_ok (skip := [24, 25, 26, 27]) ⟨.inr (df_lit k), .inr (df_lit k), .inr (okI.df _ _), .inr (okI.df _ _), .inr (okI.df _ _), .inr (okMt.df _ _), .inr (okI.df _ _), .inr (okI.df _ _), .inr (okI.df _ _), .inr (okMt.df _ _), .inr (okRp.df _ _), .inr (okMt.df _ _), .inr (okBr.df _ _), .inr (okI.df _ _), .inr (okSc.df _ _), .inr (df_lit k), .inl (by decide), .inl (by decide), .inl (by decide), .inl (by decide), .inr (df_lit k), .inr (okI.df _ _), .inr (okI.df _ _), .inr (okI.df _ _), .inr (okMt.df _ _), .inr (df_lit k), .inr (okI.df _ _), .inr (okI.df _ _), .inr (okI.df _ _), .inr (okMt.df _ _), .inr (okI.df _ _), .inr (okI.df _ _), .inr (okI.df _ _), .inr (okMt.df _ _), .inr (okRp.df _ _), .inr (okMt.df _ _), .inr (okBr.df _ _), .inr (okI.df _ _), .inr (okSc.df _ _), .inr (df_lit k), .inr (okI.df _ _), .inr (okI.df _ _), .inr (okI.df _ _), .inr (okMt.df _ _), trivial⟩) ?_
       obtain ⟨q21, h⟩ := cg h
       obtain ⟨q22, h⟩ := cg h
       obtain ⟨q23, h⟩ := cg h
       obtain ⟨q24, h⟩ := cg h
       refine se (eff_assign k) k <| sn <| tn <| sQ <| rgS <| se (w_load_ptr TT_ok k k k k k k k) k <| se (eff_move k) k ?_
       obtain ⟨v25, hv25, h⟩ := ob h
       refine sops_ent (t := mkS [(2, .ptr 0 0 0), (3, .ptr 1 0 0), (6, .ptr 23 0 0), (7, .bl v7.2), (8, .ptr 28 0 0), (9, .ptr 33 0 0), (10, .ptr 47 0 0), (11, .bl v10.2), (12, .int v20.2.2.2.2), (58, .bl (!v15)), (59, .agg [.int v9.p, .int v9.q.n, .own 29 0 v9.q.src.length, .own 30 0 v9.q.tgt.length, .own 31 0 v9.dims.length, .own 32 0 v9.maps.length]), (60, .agg [.int a1.p, .int a1.q.n, .sc w1_2, .sc w1_3, .sc w1_4, .sc w1_5]), (61, .agg [.int v17.p, .int v17.q.n, .own 52 0 v17.q.src.length, .own 53 0 v17.q.tgt.length, .own 54 0 v17.dims.length, .own 55 0 v17.maps.length]), (62, .bl v18), (63, .bl (!v18)), (64, .agg [.int v8.p, .int v8.q.n, .own 24 0 v8.q.src.length, .own 25 0 v8.q.tgt.length, .own 26 0 v8.dims.length, .own 27 0 v8.maps.length]), (65, .int 1), (66, .int v20.2.2.2.2), (67, .agg [.int v9.p, .int v9.q.n, .own 29 0 v9.q.src.length, .own 30 0 v9.q.tgt.length, .own 31 0 v9.dims.length, .own 32 0 v9.maps.length]), (68, .int v20.2.2.2.2)] ((0, ⟨6, [[.int a0.p, .int a0.q.n, .sc w0_2, .sc w0_3, .sc w0_4, .sc w0_5]]⟩) :: (1, ⟨6, [[.int a1.p, .int a1.q.n, .sc w1_2, .sc w1_3, .sc w1_4, .sc w1_5]]⟩) :: (10, ⟨1, List.map (ow eI) v7.1.rep.q.src⟩) :: (11, ⟨1, List.map (ow eI) v7.1.rep.q.tgt⟩) :: (12, ⟨1, List.map (ow eI) v7.1.rep.dims⟩) :: (13, ⟨3, List.map (ow eM) v7.1.rep.maps⟩) :: (14, ⟨1, List.map (ow eI) v7.1.other.q.src⟩) :: (15, ⟨1, List.map (ow eI) v7.1.other.q.tgt⟩) :: (16, ⟨1, List.map (ow eI) v7.1.other.dims⟩) :: (17, ⟨3, List.map (ow eM) v7.1.other.maps⟩) :: (18, ⟨6, List.map (ow eR) v7.1.parts⟩) :: (19, ⟨3, List.map (ow eM) v7.1.maps⟩) :: (20, ⟨3, List.map (ow eB) v7.1.bars⟩) :: (21, ⟨1, List.map (ow eI) v7.1.theta⟩) :: (22, ⟨2, List.map (ow eS) v7.1.subs⟩) :: (23, ⟨18, [[.int v7.1.kind, .int v7.1.rep.p, .int v7.1.rep.q.n, .own 10 0 v7.1.rep.q.src.length, .own 11 0 v7.1.rep.q.tgt.length, .own 12 0 v7.1.rep.dims.length, .own 13 0 v7.1.rep.maps.length, .int v7.1.other.p, .int v7.1.other.q.n, .own 14 0 v7.1.other.q.src.length, .own 15 0 v7.1.other.q.tgt.length, .own 16 0 v7.1.other.dims.length, .own 17 0 v7.1.other.maps.length, .own 18 0 v7.1.parts.length, .own 19 0 v7.1.maps.length, .own 20 0 v7.1.bars.length, .own 21 0 v7.1.theta.length, .own 22 0 v7.1.subs.length]]⟩) :: (24, ⟨1, List.map (ow eI) v20.1⟩) :: (25, ⟨1, List.map (ow eI) v20.2.1⟩) :: (26, ⟨1, List.map (ow eI) v20.2.2.1⟩) :: (27, ⟨3, List.map (ow eM) v20.2.2.2.1⟩) :: (28, ⟨6, [[.int v8.p, .int v8.q.n, .own 24 0 v8.q.src.length, .own 25 0 v8.q.tgt.length, .own 26 0 v8.dims.length, .own 27 0 v8.maps.length]]⟩) :: (29, ⟨1, List.map (ow eI) v9.q.src⟩) :: (30, ⟨1, List.map (ow eI) v9.q.tgt⟩) :: (31, ⟨1, List.map (ow eI) v9.dims⟩) :: (32, ⟨3, List.map (ow eM) v9.maps⟩) :: (33, ⟨6, [[.int v9.p, .int v9.q.n, .own 29 0 v9.q.src.length, .own 30 0 v9.q.tgt.length, .own 31 0 v9.dims.length, .own 32 0 v9.maps.length]]⟩) :: (34, ⟨1, List.map (ow eI) v10.1.rep.q.src⟩) :: (35, ⟨1, List.map (ow eI) v10.1.rep.q.tgt⟩) :: (36, ⟨1, List.map (ow eI) v10.1.rep.dims⟩) :: (37, ⟨3, List.map (ow eM) v10.1.rep.maps⟩) :: (38, ⟨1, List.map (ow eI) v10.1.other.q.src⟩) :: (39, ⟨1, List.map (ow eI) v10.1.other.q.tgt⟩) :: (40, ⟨1, List.map (ow eI) v10.1.other.dims⟩) :: (41, ⟨3, List.map (ow eM) v10.1.other.maps⟩) :: (42, ⟨6, List.map (ow eR) v10.1.parts⟩) :: (43, ⟨3, List.map (ow eM) v10.1.maps⟩) :: (44, ⟨3, List.map (ow eB) v10.1.bars⟩) :: (45, ⟨1, List.map (ow eI) v10.1.theta⟩) :: (46, ⟨2, List.map (ow eS) v10.1.subs⟩) :: (47, ⟨18, [[.int v10.1.kind, .int v10.1.rep.p, .int v10.1.rep.q.n, .own 34 0 v10.1.rep.q.src.length, .own 35 0 v10.1.rep.q.tgt.length, .own 36 0 v10.1.rep.dims.length, .own 37 0 v10.1.rep.maps.length, .int v10.1.other.p, .int v10.1.other.q.n, .own 38 0 v10.1.other.q.src.length, .own 39 0 v10.1.other.q.tgt.length, .own 40 0 v10.1.other.dims.length, .own 41 0 v10.1.other.maps.length, .own 42 0 v10.1.parts.length, .own 43 0 v10.1.maps.length, .own 44 0 v10.1.bars.length, .own 45 0 v10.1.theta.length, .own 46 0 v10.1.subs.length]]⟩) :: (52, ⟨1, List.map (ow eI) v17.q.src⟩) :: (53, ⟨1, List.map (ow eI) v17.q.tgt⟩) :: (54, ⟨1, List.map (ow eI) v17.dims⟩) :: (55, ⟨3, List.map (ow eM) v17.maps⟩) :: []) 56 [56, 57, 58, 59, 60, 61, 62, 63, 64, 65, 66, 67, 68, 69, 70, 71, 72, 73, 74, 75, 76, 77, 78, 79] ⟨0, true, fxW W, true⟩) (ent_mk (σ := sg ((0, 0) :: (1, 1) :: (10, 10) :: (11, 11) :: (12, 12) :: (13, 13) :: (14, 14) :: (15, 15) :: (16, 16) :: (17, 17) :: (18, 18) :: (19, 19) :: (20, 20) :: (21, 21) :: (22, 22) :: (23, 23) :: (24, 24) :: (25, 25) :: (26, 26) :: (27, 27) :: (28, 28) :: (29, 29) :: (30, 30) :: (31, 31) :: (32, 32) :: (33, 33) :: (34, 34) :: (35, 35) :: (36, 36) :: (37, 37) :: (38, 38) :: (39, 39) :: (40, 40) :: (41, 41) :: (42, 42) :: (43, 43) :: (44, 44) :: (45, 45) :: (46, 46) :: (47, 47) :: (52, 52) :: (53, 53) :: (54, 54) :: (55, 55) :: [])) ⟨(pE k k), (pE k k), (pE k k), (e1 k k), (pE k k), (pE k k), (pE k k), (e1 k k), (e1 k k), (e1 k k), ⟨_, k, ⟨_, _, k, k, ⟨_, _, k, k, ⟨_, _, k, ⟨k, k, k, k⟩, ⟨_, _, k, ⟨k, k, k, k⟩, ⟨_, _, k, ⟨k, k, k, k⟩, ⟨_, _, k, ⟨k, k, k, k⟩, k⟩⟩⟩⟩⟩⟩⟩, ⟨_, k, ⟨_, _, k, k, ⟨_, _, k, k, ⟨_, _, k, k, ⟨_, _, k, k, ⟨_, _, k, k, ⟨_, _, k, k, k⟩⟩⟩⟩⟩⟩⟩, ⟨_, k, ⟨_, _, k, k, ⟨_, _, k, k, ⟨_, _, k, ⟨k, k, k, k⟩, ⟨_, _, k, ⟨k, k, k, k⟩, ⟨_, _, k, ⟨k, k, k, k⟩, ⟨_, _, k, ⟨k, k, k, k⟩, k⟩⟩⟩⟩⟩⟩⟩, (e1 k k), (e1 k k), ⟨_, k, ⟨_, _, k, k, ⟨_, _, k, k, ⟨_, _, k, ⟨k, k, k, k⟩, ⟨_, _, k, ⟨k, k, k, k⟩, ⟨_, _, k, ⟨k, k, k, k⟩, ⟨_, _, k, ⟨k, k, k, k⟩, k⟩⟩⟩⟩⟩⟩⟩, (e1 k k), (e1 k k), ⟨_, k, ⟨_, _, k, k, ⟨_, _, k, k, ⟨_, _, k, ⟨k, k, k, k⟩, ⟨_, _, k, ⟨k, k, k, k⟩, ⟨_, _, k, ⟨k, k, k, k⟩, ⟨_, _, k, ⟨k, k, k, k⟩, k⟩⟩⟩⟩⟩⟩⟩, (e1 k k), trivial⟩ (hP k k k k <| hP k k k k <| hI k k k <| hI k k k <| hI k k k <| hB (okMt.plainO _) k k k <| hI k k k <| hI k k k <| hI k k k <| hB (okMt.plainO _) k k k <| hB (okRp.plainO _) k k k <| hB (okMt.plainO _) k k k <| hB (okBr.plainO _) k k k <| hI k k k <| hB (okSc.plainO _) k k k <| hX ⟨_, k, k, .inr ⟨_, _, k, ⟨_, _, k, k, ⟨_, _, k, k, ⟨_, _, k, k, ⟨_, _, k, ⟨k, k, k, k⟩, ⟨_, _, k, ⟨k, k, k, k⟩, ⟨_, _, k, ⟨k, k, k, k⟩, ⟨_, _, k, ⟨k, k, k, k⟩, ⟨_, _, k, k, ⟨_, _, k, k, ⟨_, _, k, ⟨k, k, k, k⟩, ⟨_, _, k, ⟨k, k, k, k⟩, ⟨_, _, k, ⟨k, k, k, k⟩, ⟨_, _, k, ⟨k, k, k, k⟩, ⟨_, _, k, ⟨k, k, k, k⟩, ⟨_, _, k, ⟨k, k, k, k⟩, ⟨_, _, k, ⟨k, k, k, k⟩, ⟨_, _, k, ⟨k, k, k, k⟩, ⟨_, _, k, ⟨k, k, k, k⟩, k⟩⟩⟩⟩⟩⟩⟩⟩⟩⟩⟩⟩⟩⟩⟩⟩⟩⟩, k⟩⟩ k <| hI k k k <| hI k k k <| hI k k k <| hB (okMt.plainO _) k k k <| hX ⟨_, k, k, .inr ⟨_, _, k, ⟨_, _, k, k, ⟨_, _, k, k, ⟨_, _, k, ⟨k, k, k, k⟩, ⟨_, _, k, ⟨k, k, k, k⟩, ⟨_, _, k, ⟨k, k, k, k⟩, ⟨_, _, k, ⟨k, k, k, k⟩, k⟩⟩⟩⟩⟩⟩, k⟩⟩ k <| hI k k k <| hI k k k <| hI k k k <| hB (okMt.plainO _) k k k <| hX ⟨_, k, k, .inr ⟨_, _, k, ⟨_, _, k, k, ⟨_, _, k, k, ⟨_, _, k, ⟨k, k, k, k⟩, ⟨_, _, k, ⟨k, k, k, k⟩, ⟨_, _, k, ⟨k, k, k, k⟩, ⟨_, _, k, ⟨k, k, k, k⟩, k⟩⟩⟩⟩⟩⟩, k⟩⟩ k <| hI k k k <| hI k k k <| hI k k k <| hB (okMt.plainO _) k k k <| hI k k k <| hI k k k <| hI k k k <| hB (okMt.plainO _) k k k <| hB (okRp.plainO _) k k k <| hB (okMt.plainO _) k k k <| hB (okBr.plainO _) k k k <| hI k k k <| hB (okSc.plainO _) k k k <| hX ⟨_, k, k, .inr ⟨_, _, k, ⟨_, _, k, k, ⟨_, _, k, k, ⟨_, _, k, k, ⟨_, _, k, ⟨k, k, k, k⟩, ⟨_, _, k, ⟨k, k, k, k⟩, ⟨_, _, k, ⟨k, k, k, k⟩, ⟨_, _, k, ⟨k, k, k, k⟩, ⟨_, _, k, k, ⟨_, _, k, k, ⟨_, _, k, ⟨k, k, k, k⟩, ⟨_, _, k, ⟨k, k, k, k⟩, ⟨_, _, k, ⟨k, k, k, k⟩, ⟨_, _, k, ⟨k, k, k, k⟩, ⟨_, _, k, ⟨k, k, k, k⟩, ⟨_, _, k, ⟨k, k, k, k⟩, ⟨_, _, k, ⟨k, k, k, k⟩, ⟨_, _, k, ⟨k, k, k, k⟩, ⟨_, _, k, ⟨k, k, k, k⟩, k⟩⟩⟩⟩⟩⟩⟩⟩⟩⟩⟩⟩⟩⟩⟩⟩⟩⟩, k⟩⟩ k <| hI k k k <| hI k k k <| hI k k k <| hB (okMt.plainO _) k k k <| trivial) k) ?_
       refine sops_T (σ := sg [(0, 29), (1, 30), (2, 31), (3, 32)]) (σ' := sg [(29, 0), (30, 1), (31, 2), (32, 3)]) (touch := [29, 30, 31, 32]) (news := []) (hl2 := [(29, ⟨1, List.map (ow eI) v25.1⟩), (30, ⟨1, List.map (ow eI) v25.2.1⟩), (31, ⟨1, List.map (ow eI) v25.2.2.1⟩), (32, ⟨3, List.map (ow eM) v25.2.2.2.1⟩)]) (n' := 56) (r2 := .int v25.2.2.2.2) (c_laws_markRep v9 v20.2.2.2.2 v25 hv25) k k ⟨_, _, k, ⟨_, _, k, k, ⟨_, _, k, k, ⟨_, _, k, ⟨k, k, k, k⟩, ⟨_, _, k, ⟨k, k, k, k⟩, ⟨_, _, k, ⟨k, k, k, k⟩, ⟨_, _, k, ⟨k, k, k, k⟩, k⟩⟩⟩⟩⟩⟩, ⟨_, _, k, k, k⟩⟩ ⟨⟨_, k, k, .inl ⟨k, okI.plainO _⟩⟩, k, ⟨_, k, k, .inl ⟨k, okI.plainO _⟩⟩, k, ⟨_, k, k, .inl ⟨k, okI.plainO _⟩⟩, k, ⟨_, k, k, .inl ⟨k, okMt.plainO _⟩⟩, k, trivial⟩ k k k ⟨⟨_, k, k, .inl ⟨k, okI.plainO _⟩⟩, k, ⟨_, k, k, .inl ⟨k, okI.plainO _⟩⟩, k, ⟨_, k, k, .inl ⟨k, okI.plainO _⟩⟩, k, ⟨_, k, k, .inl ⟨k, okMt.plainO _⟩⟩, k, trivial⟩ k k k ⟨k, okI.tame _ _, ⟨k, okI.tame _ _, ⟨k, okI.tame _ _, ⟨k, okMt.tame _ _, trivial⟩⟩⟩⟩ k k k k k (dfE_ok ⟨k, k, k, k, k, k, k, k, k, k, k, k, k, k, k, k, k, k, k, k, trivial⟩) (dfH_ok (skip := [29, 30, 31, 32]) ⟨.inr (df_lit k), .inr (df_lit k), .inr (okI.df _ _), .inr (okI.df _ _), .inr (okI.df _ _), .inr (okMt.df _ _), .inr (okI.df _ _), .inr (okI.df _ _), .inr (okI.df _ _), .inr (okMt.df _ _), .inr (okRp.df _ _), .inr (okMt.df _ _), .inr (okBr.df _ _), .inr (okI.df _ _), .inr (okSc.df _ _), .inr (df_lit k), .inr (okI.df _ _), .inr (okI.df _ _), .inr (okI.df _ _), .inr (okMt.df _ _), .inr (df_lit k), .inl (by decide), .inl (by decide), .inl (by decide), .inl (by decide), .inr (df_lit k), .inr (okI.df _ _), .inr (okI.df _ _), .inr (okI.df _ _), .inr (okMt.df _ _), .inr (okI.df _ _), .inr (okI.df _ _), .inr (okI.df _ _), .inr (okMt.df _ _), .inr (okRp.df _ _), .inr (okMt.df _ _), .inr (okBr.df _ _), .inr (okI.df _ _), .inr (okSc.df _ _), .inr (df_lit k), .inr (okI.df _ _), .inr (okI.df _ _), .inr (okI.df _ _), .inr (okMt.df _ _), trivial⟩) ?_
       obtain ⟨q26, h⟩ := cg h
       obtain ⟨q27, h⟩ := cg h
       obtain ⟨q28, h⟩ := cg h
       obtain ⟨q29, h⟩ := cg h
       refine se (eff_assign k) k <| sn <| tn <| sQ <| sQ <| rgS <| se (eff_move k) k <| se (w_cmp k k k) k <| se (eff_move k) k ?_
       rcases cb h with ⟨q30, h⟩ | ⟨q30, h⟩
       ·refine sops_lit 72 k q30 <| sops_skip k k <| sops_skip k k <| sops_skip k k <| sops_skip k k <| se (eff_pick k k) k <| se (eff_move k) k <| sops_skip k k <| sops_skip k k <| sops_skip k k ?_
        refine se (eff_pick k k) k <| sn <| tn <| ac_ent (t := mkS [(2, .ptr 0 0 0), (3, .ptr 1 0 0), (6, .ptr 23 0 0), (7, .bl v7.2), (10, .ptr 47 0 0), (82, .bl true)] ((0, ⟨6, [[.int a0.p, .int a0.q.n, .sc w0_2, .sc w0_3, .sc w0_4, .sc w0_5]]⟩) :: (1, ⟨6, [[.int a1.p, .int a1.q.n, .sc w1_2, .sc w1_3, .sc w1_4, .sc w1_5]]⟩) :: (10, ⟨1, List.map (ow eI) v7.1.rep.q.src⟩) :: (11, ⟨1, List.map (ow eI) v7.1.rep.q.tgt⟩) :: (12, ⟨1, List.map (ow eI) v7.1.rep.dims⟩) :: (13, ⟨3, List.map (ow eM) v7.1.rep.maps⟩) :: (14, ⟨1, List.map (ow eI) v7.1.other.q.src⟩) :: (15, ⟨1, List.map (ow eI) v7.1.other.q.tgt⟩) :: (16, ⟨1, List.map (ow eI) v7.1.other.dims⟩) :: (17, ⟨3, List.map (ow eM) v7.1.other.maps⟩) :: (18, ⟨6, List.map (ow eR) v7.1.parts⟩) :: (19, ⟨3, List.map (ow eM) v7.1.maps⟩) :: (20, ⟨3, List.map (ow eB) v7.1.bars⟩) :: (21, ⟨1, List.map (ow eI) v7.1.theta⟩) :: (22, ⟨2, List.map (ow eS) v7.1.subs⟩) :: (23, ⟨18, [[.int v7.1.kind, .int v7.1.rep.p, .int v7.1.rep.q.n, .own 10 0 v7.1.rep.q.src.length, .own 11 0 v7.1.rep.q.tgt.length, .own 12 0 v7.1.rep.dims.length, .own 13 0 v7.1.rep.maps.length, .int v7.1.other.p, .int v7.1.other.q.n, .own 14 0 v7.1.other.q.src.length, .own 15 0 v7.1.other.q.tgt.length, .own 16 0 v7.1.other.dims.length, .own 17 0 v7.1.other.maps.length, .own 18 0 v7.1.parts.length, .own 19 0 v7.1.maps.length, .own 20 0 v7.1.bars.length, .own 21 0 v7.1.theta.length, .own 22 0 v7.1.subs.length]]⟩) :: (34, ⟨1, List.map (ow eI) v10.1.rep.q.src⟩) :: (35, ⟨1, List.map (ow eI) v10.1.rep.q.tgt⟩) :: (36, ⟨1, List.map (ow eI) v10.1.rep.dims⟩) :: (37, ⟨3, List.map (ow eM) v10.1.rep.maps⟩) :: (38, ⟨1, List.map (ow eI) v10.1.other.q.src⟩) :: (39, ⟨1, List.map (ow eI) v10.1.other.q.tgt⟩) :: (40, ⟨1, List.map (ow eI) v10.1.other.dims⟩) :: (41, ⟨3, List.map (ow eM) v10.1.other.maps⟩) :: (42, ⟨6, List.map (ow eR) v10.1.parts⟩) :: (43, ⟨3, List.map (ow eM) v10.1.maps⟩) :: (44, ⟨3, List.map (ow eB) v10.1.bars⟩) :: (45, ⟨1, List.map (ow eI) v10.1.theta⟩) :: (46, ⟨2, List.map (ow eS) v10.1.subs⟩) :: (47, ⟨18, [[.int v10.1.kind, .int v10.1.rep.p, .int v10.1.rep.q.n, .own 34 0 v10.1.rep.q.src.length, .own 35 0 v10.1.rep.q.tgt.length, .own 36 0 v10.1.rep.dims.length, .own 37 0 v10.1.rep.maps.length, .int v10.1.other.p, .int v10.1.other.q.n, .own 38 0 v10.1.other.q.src.length, .own 39 0 v10.1.other.q.tgt.length, .own 40 0 v10.1.other.dims.length, .own 41 0 v10.1.other.maps.length, .own 42 0 v10.1.parts.length, .own 43 0 v10.1.maps.length, .own 44 0 v10.1.bars.length, .own 45 0 v10.1.theta.length, .own 46 0 v10.1.subs.length]]⟩) :: []) 56 [56, 57, 58, 59, 60, 61, 62, 63, 64, 65, 66, 67, 68, 69, 70, 71, 72, 73, 74, 75, 76, 77, 78, 79] ⟨0, true, fxW W, true⟩) (ent_mk (σ := sg ((0, 0) :: (1, 1) :: (10, 10) :: (11, 11) :: (12, 12) :: (13, 13) :: (14, 14) :: (15, 15) :: (16, 16) :: (17, 17) :: (18, 18) :: (19, 19) :: (20, 20) :: (21, 21) :: (22, 22) :: (23, 23) :: (34, 34) :: (35, 35) :: (36, 36) :: (37, 37) :: (38, 38) :: (39, 39) :: (40, 40) :: (41, 41) :: (42, 42) :: (43, 43) :: (44, 44) :: (45, 45) :: (46, 46) :: (47, 47) :: [])) ⟨(pE k k), (pE k k), (pE k k), (e1 k k), (pE k k), (e1 k k), trivial⟩ (hP k k k k <| hP k k k k <| hI k k k <| hI k k k <| hI k k k <| hB (okMt.plainO _) k k k <| hI k k k <| hI k k k <| hI k k k <| hB (okMt.plainO _) k k k <| hB (okRp.plainO _) k k k <| hB (okMt.plainO _) k k k <| hB (okBr.plainO _) k k k <| hI k k k <| hB (okSc.plainO _) k k k <| hX ⟨_, k, k, .inr ⟨_, _, k, ⟨_, _, k, k, ⟨_, _, k, k, ⟨_, _, k, k, ⟨_, _, k, ⟨k, k, k, k⟩, ⟨_, _, k, ⟨k, k, k, k⟩, ⟨_, _, k, ⟨k, k, k, k⟩, ⟨_, _, k, ⟨k, k, k, k⟩, ⟨_, _, k, k, ⟨_, _, k, k, ⟨_, _, k, ⟨k, k, k, k⟩, ⟨_, _, k, ⟨k, k, k, k⟩, ⟨_, _, k, ⟨k, k, k, k⟩, ⟨_, _, k, ⟨k, k, k, k⟩, ⟨_, _, k, ⟨k, k, k, k⟩, ⟨_, _, k, ⟨k, k, k, k⟩, ⟨_, _, k, ⟨k, k, k, k⟩, ⟨_, _, k, ⟨k, k, k, k⟩, ⟨_, _, k, ⟨k, k, k, k⟩, k⟩⟩⟩⟩⟩⟩⟩⟩⟩⟩⟩⟩⟩⟩⟩⟩⟩⟩, k⟩⟩ k <| hI k k k <| hI k k k <| hI k k k <| hB (okMt.plainO _) k k k <| hI k k k <| hI k k k <| hI k k k <| hB (okMt.plainO _) k k k <| hB (okRp.plainO _) k k k <| hB (okMt.plainO _) k k k <| hB (okBr.plainO _) k k k <| hI k k k <| hB (okSc.plainO _) k k k <| hX ⟨_, k, k, .inr ⟨_, _, k, ⟨_, _, k, k, ⟨_, _, k, k, ⟨_, _, k, k, ⟨_, _, k, ⟨k, k, k, k⟩, ⟨_, _, k, ⟨k, k, k, k⟩, ⟨_, _, k, ⟨k, k, k, k⟩, ⟨_, _, k, ⟨k, k, k, k⟩, ⟨_, _, k, k, ⟨_, _, k, k, ⟨_, _, k, ⟨k, k, k, k⟩, ⟨_, _, k, ⟨k, k, k, k⟩, ⟨_, _, k, ⟨k, k, k, k⟩, ⟨_, _, k, ⟨k, k, k, k⟩, ⟨_, _, k, ⟨k, k, k, k⟩, ⟨_, _, k, ⟨k, k, k, k⟩, ⟨_, _, k, ⟨k, k, k, k⟩, ⟨_, _, k, ⟨k, k, k, k⟩, ⟨_, _, k, ⟨k, k, k, k⟩, k⟩⟩⟩⟩⟩⟩⟩⟩⟩⟩⟩⟩⟩⟩⟩⟩⟩⟩, k⟩⟩ k <| trivial) k) ?_
        refine ac_condT k k <| sQ <| rgS <| se (eff_assign k) k <| sn <| tn <| ac_ret <| then_ret ?_
        obtain rfl := so h
        exact ret_mk k k k (fz_bl k)
       ·refine sops_lit 72 k q30 <| se (w_load_ptr TT_ok k k k k k k k) k <| se (w_load_ptr TT_ok k k k k k k k) k ?_
        obtain ⟨v31, hv31, h⟩ := ob h
        refine se (w_call0sK (c_laws_eqClaim v10.1 v7.1 v31 hv31) k (vk_cons (.inl (va_agg' (v1_cons (v1_same k) (v1_cons (v1_same k) (v1_cons (v1_same k) (v1_cons (v1_T okI k k) (v1_cons (v1_T okI k k) (v1_cons (v1_T okI k k) (v1_cons (v1_T okMt k k) (v1_cons (v1_same k) (v1_cons (v1_same k) (v1_cons (v1_T okI k k) (v1_cons (v1_T okI k k) (v1_cons (v1_T okI k k) (v1_cons (v1_T okMt k k) (v1_cons (v1_T okRp k k) (v1_cons (v1_T okMt k k) (v1_cons (v1_T okBr k k) (v1_cons (v1_T okI k k) (v1_cons (v1_T okSc k k) v1_nil)))))))))))))))))))) (vk_cons (.inl (va_agg' (v1_cons (v1_same k) (v1_cons (v1_same k) (v1_cons (v1_same k) (v1_cons (v1_T okI k k) (v1_cons (v1_T okI k k) (v1_cons (v1_T okI k k) (v1_cons (v1_T okMt k k) (v1_cons (v1_same k) (v1_cons (v1_same k) (v1_cons (v1_T okI k k) (v1_cons (v1_T okI k k) (v1_cons (v1_T okI k k) (v1_cons (v1_T okMt k k) (v1_cons (v1_T okRp k k) (v1_cons (v1_T okMt k k) (v1_cons (v1_T okBr k k) (v1_cons (v1_T okI k k) (v1_cons (v1_T okSc k k) v1_nil)))))))))))))))))))) vk_nil))) k <| se (w_not k) k <| se (eff_pick k k) k <| se (eff_move k) k ?_
        rcases cb h with ⟨q32, h⟩ | ⟨q32, h⟩
        ·refine sops_lit 78 k q32 <| sops_skip k k <| sops_skip k k <| sops_skip k k <| se (eff_pick k k) k <| sn <| tn <| ac_ent (t := mkS [(2, .ptr 0 0 0), (3, .ptr 1 0 0), (6, .ptr 23 0 0), (7, .bl v7.2), (10, .ptr 47 0 0), (82, .bl true)] ((0, ⟨6, [[.int a0.p, .int a0.q.n, .sc w0_2, .sc w0_3, .sc w0_4, .sc w0_5]]⟩) :: (1, ⟨6, [[.int a1.p, .int a1.q.n, .sc w1_2, .sc w1_3, .sc w1_4, .sc w1_5]]⟩) :: (10, ⟨1, List.map (ow eI) v7.1.rep.q.src⟩) :: (11, ⟨1, List.map (ow eI) v7.1.rep.q.tgt⟩) :: (12, ⟨1, List.map (ow eI) v7.1.rep.dims⟩) :: (13, ⟨3, List.map (ow eM) v7.1.rep.maps⟩) :: (14, ⟨1, List.map (ow eI) v7.1.other.q.src⟩) :: (15, ⟨1, List.map (ow eI) v7.1.other.q.tgt⟩) :: (16, ⟨1, List.map (ow eI) v7.1.other.dims⟩) :: (17, ⟨3, List.map (ow eM) v7.1.other.maps⟩) :: (18, ⟨6, List.map (ow eR) v7.1.parts⟩) :: (19, ⟨3, List.map (ow eM) v7.1.maps⟩) :: (20, ⟨3, List.map (ow eB) v7.1.bars⟩) :: (21, ⟨1, List.map (ow eI) v7.1.theta⟩) :: (22, ⟨2, List.map (ow eS) v7.1.subs⟩) :: (23, ⟨18, [[.int v7.1.kind, .int v7.1.rep.p, .int v7.1.rep.q.n, .own 10 0 v7.1.rep.q.src.length, .own 11 0 v7.1.rep.q.tgt.length, .own 12 0 v7.1.rep.dims.length, .own 13 0 v7.1.rep.maps.length, .int v7.1.other.p, .int v7.1.other.q.n, .own 14 0 v7.1.other.q.src.length, .own 15 0 v7.1.other.q.tgt.length, .own 16 0 v7.1.other.dims.length, .own 17 0 v7.1.other.maps.length, .own 18 0 v7.1.parts.length, .own 19 0 v7.1.maps.length, .own 20 0 v7.1.bars.length, .own 21 0 v7.1.theta.length, .own 22 0 v7.1.subs.length]]⟩) :: (34, ⟨1, List.map (ow eI) v10.1.rep.q.src⟩) :: (35, ⟨1, List.map (ow eI) v10.1.rep.q.tgt⟩) :: (36, ⟨1, List.map (ow eI) v10.1.rep.dims⟩) :: (37, ⟨3, List.map (ow eM) v10.1.rep.maps⟩) :: (38, ⟨1, List.map (ow eI) v10.1.other.q.src⟩) :: (39, ⟨1, List.map (ow eI) v10.1.other.q.tgt⟩) :: (40, ⟨1, List.map (ow eI) v10.1.other.dims⟩) :: (41, ⟨3, List.map (ow eM) v10.1.other.maps⟩) :: (42, ⟨6, List.map (ow eR) v10.1.parts⟩) :: (43, ⟨3, List.map (ow eM) v10.1.maps⟩) :: (44, ⟨3, List.map (ow eB) v10.1.bars⟩) :: (45, ⟨1, List.map (ow eI) v10.1.theta⟩) :: (46, ⟨2, List.map (ow eS) v10.1.subs⟩) :: (47, ⟨18, [[.int v10.1.kind, .int v10.1.rep.p, .int v10.1.rep.q.n, .own 34 0 v10.1.rep.q.src.length, .own 35 0 v10.1.rep.q.tgt.length, .own 36 0 v10.1.rep.dims.length, .own 37 0 v10.1.rep.maps.length, .int v10.1.other.p, .int v10.1.other.q.n, .own 38 0 v10.1.other.q.src.length, .own 39 0 v10.1.other.q.tgt.length, .own 40 0 v10.1.other.dims.length, .own 41 0 v10.1.other.maps.length, .own 42 0 v10.1.parts.length, .own 43 0 v10.1.maps.length, .own 44 0 v10.1.bars.length, .own 45 0 v10.1.theta.length, .own 46 0 v10.1.subs.length]]⟩) :: []) 56 [56, 57, 58, 59, 60, 61, 62, 63, 64, 65, 66, 67, 68, 69, 70, 71, 72, 73, 74, 75, 76, 77, 78, 79] ⟨0, true, fxW W, true⟩) (ent_mk (σ := sg ((0, 0) :: (1, 1) :: (10, 10) :: (11, 11) :: (12, 12) :: (13, 13) :: (14, 14) :: (15, 15) :: (16, 16) :: (17, 17) :: (18, 18) :: (19, 19) :: (20, 20) :: (21, 21) :: (22, 22) :: (23, 23) :: (34, 34) :: (35, 35) :: (36, 36) :: (37, 37) :: (38, 38) :: (39, 39) :: (40, 40) :: (41, 41) :: (42, 42) :: (43, 43) :: (44, 44) :: (45, 45) :: (46, 46) :: (47, 47) :: [])) ⟨(pE k k), (pE k k), (pE k k), (e1 k k), (pE k k), (e1 k k), trivial⟩ (hP k k k k <| hP k k k k <| hI k k k <| hI k k k <| hI k k k <| hB (okMt.plainO _) k k k <| hI k k k <| hI k k k <| hI k k k <| hB (okMt.plainO _) k k k <| hB (okRp.plainO _) k k k <| hB (okMt.plainO _) k k k <| hB (okBr.plainO _) k k k <| hI k k k <| hB (okSc.plainO _) k k k <| hX ⟨_, k, k, .inr ⟨_, _, k, ⟨_, _, k, k, ⟨_, _, k, k, ⟨_, _, k, k, ⟨_, _, k, ⟨k, k, k, k⟩, ⟨_, _, k, ⟨k, k, k, k⟩, ⟨_, _, k, ⟨k, k, k, k⟩, ⟨_, _, k, ⟨k, k, k, k⟩, ⟨_, _, k, k, ⟨_, _, k, k, ⟨_, _, k, ⟨k, k, k, k⟩, ⟨_, _, k, ⟨k, k, k, k⟩, ⟨_, _, k, ⟨k, k, k, k⟩, ⟨_, _, k, ⟨k, k, k, k⟩, ⟨_, _, k, ⟨k, k, k, k⟩, ⟨_, _, k, ⟨k, k, k, k⟩, ⟨_, _, k, ⟨k, k, k, k⟩, ⟨_, _, k, ⟨k, k, k, k⟩, ⟨_, _, k, ⟨k, k, k, k⟩, k⟩⟩⟩⟩⟩⟩⟩⟩⟩⟩⟩⟩⟩⟩⟩⟩⟩⟩, k⟩⟩ k <| hI k k k <| hI k k k <| hI k k k <| hB (okMt.plainO _) k k k <| hI k k k <| hI k k k <| hI k k k <| hB (okMt.plainO _) k k k <| hB (okRp.plainO _) k k k <| hB (okMt.plainO _) k k k <| hB (okBr.plainO _) k k k <| hI k k k <| hB (okSc.plainO _) k k k <| hX ⟨_, k, k, .inr ⟨_, _, k, ⟨_, _, k, k, ⟨_, _, k, k, ⟨_, _, k, k, ⟨_, _, k, ⟨k, k, k, k⟩, ⟨_, _, k, ⟨k, k, k, k⟩, ⟨_, _, k, ⟨k, k, k, k⟩, ⟨_, _, k, ⟨k, k, k, k⟩, ⟨_, _, k, k, ⟨_, _, k, k, ⟨_, _, k, ⟨k, k, k, k⟩, ⟨_, _, k, ⟨k, k, k, k⟩, ⟨_, _, k, ⟨k, k, k, k⟩, ⟨_, _, k, ⟨k, k, k, k⟩, ⟨_, _, k, ⟨k, k, k, k⟩, ⟨_, _, k, ⟨k, k, k, k⟩, ⟨_, _, k, ⟨k, k, k, k⟩, ⟨_, _, k, ⟨k, k, k, k⟩, ⟨_, _, k, ⟨k, k, k, k⟩, k⟩⟩⟩⟩⟩⟩⟩⟩⟩⟩⟩⟩⟩⟩⟩⟩⟩⟩, k⟩⟩ k <| trivial) k) ?_
         refine ac_condT k k <| sQ <| rgS <| se (eff_assign k) k <| sn <| tn <| ac_ret <| then_ret ?_
         obtain rfl := so h
         exact ret_mk k k k (fz_bl k)
        ·refine sops_lit 78 k q32 <| se (eff_move k) k <| se (eff_move k) k <| se (w_neqB (by kernel_rfl) k k) k <| se (eff_pick k k) k <| sn <| tn <| ac_ent (t := mkS [(2, .ptr 0 0 0), (3, .ptr 1 0 0), (6, .ptr 23 0 0), (7, .bl v7.2), (10, .ptr 47 0 0), (82, .bl (!(v10.2 == v7.2)))] ((0, ⟨6, [[.int a0.p, .int a0.q.n, .sc w0_2, .sc w0_3, .sc w0_4, .sc w0_5]]⟩) :: (1, ⟨6, [[.int a1.p, .int a1.q.n, .sc w1_2, .sc w1_3, .sc w1_4, .sc w1_5]]⟩) :: (10, ⟨1, List.map (ow eI) v7.1.rep.q.src⟩) :: (11, ⟨1, List.map (ow eI) v7.1.rep.q.tgt⟩) :: (12, ⟨1, List.map (ow eI) v7.1.rep.dims⟩) :: (13, ⟨3, List.map (ow eM) v7.1.rep.maps⟩) :: (14, ⟨1, List.map (ow eI) v7.1.other.q.src⟩) :: (15, ⟨1, List.map (ow eI) v7.1.other.q.tgt⟩) :: (16, ⟨1, List.map (ow eI) v7.1.other.dims⟩) :: (17, ⟨3, List.map (ow eM) v7.1.other.maps⟩) :: (18, ⟨6, List.map (ow eR) v7.1.parts⟩) :: (19, ⟨3, List.map (ow eM) v7.1.maps⟩) :: (20, ⟨3, List.map (ow eB) v7.1.bars⟩) :: (21, ⟨1, List.map (ow eI) v7.1.theta⟩) :: (22, ⟨2, List.map (ow eS) v7.1.subs⟩) :: (23, ⟨18, [[.int v7.1.kind, .int v7.1.rep.p, .int v7.1.rep.q.n, .own 10 0 v7.1.rep.q.src.length, .own 11 0 v7.1.rep.q.tgt.length, .own 12 0 v7.1.rep.dims.length, .own 13 0 v7.1.rep.maps.length, .int v7.1.other.p, .int v7.1.other.q.n, .own 14 0 v7.1.other.q.src.length, .own 15 0 v7.1.other.q.tgt.length, .own 16 0 v7.1.other.dims.length, .own 17 0 v7.1.other.maps.length, .own 18 0 v7.1.parts.length, .own 19 0 v7.1.maps.length, .own 20 0 v7.1.bars.length, .own 21 0 v7.1.theta.length, .own 22 0 v7.1.subs.length]]⟩) :: (34, ⟨1, List.map (ow eI) v10.1.rep.q.src⟩) :: (35, ⟨1, List.map (ow eI) v10.1.rep.q.tgt⟩) :: (36, ⟨1, List.map (ow eI) v10.1.rep.dims⟩) :: (37, ⟨3, List.map (ow eM) v10.1.rep.maps⟩) :: (38, ⟨1, List.map (ow eI) v10.1.other.q.src⟩) :: (39, ⟨1, List.map (ow eI) v10.1.other.q.tgt⟩) :: (40, ⟨1, List.map (ow eI) v10.1.other.dims⟩) :: (41, ⟨3, List.map (ow eM) v10.1.other.maps⟩) :: (42, ⟨6, List.map (ow eR) v10.1.parts⟩) :: (43, ⟨3, List.map (ow eM) v10.1.maps⟩) :: (44, ⟨3, List.map (ow eB) v10.1.bars⟩) :: (45, ⟨1, List.map (ow eI) v10.1.theta⟩) :: (46, ⟨2, List.map (ow eS) v10.1.subs⟩) :: (47, ⟨18, [[.int v10.1.kind, .int v10.1.rep.p, .int v10.1.rep.q.n, .own 34 0 v10.1.rep.q.src.length, .own 35 0 v10.1.rep.q.tgt.length, .own 36 0 v10.1.rep.dims.length, .own 37 0 v10.1.rep.maps.length, .int v10.1.other.p, .int v10.1.other.q.n, .own 38 0 v10.1.other.q.src.length, .own 39 0 v10.1.other.q.tgt.length, .own 40 0 v10.1.other.dims.length, .own 41 0 v10.1.other.maps.length, .own 42 0 v10.1.parts.length, .own 43 0 v10.1.maps.length, .own 44 0 v10.1.bars.length, .own 45 0 v10.1.theta.length, .own 46 0 v10.1.subs.length]]⟩) :: []) 56 [56, 57, 58, 59, 60, 61, 62, 63, 64, 65, 66, 67, 68, 69, 70, 71, 72, 73, 74, 75, 76, 77, 78, 79] ⟨0, true, fxW W, true⟩) (ent_mk (σ := sg ((0, 0) :: (1, 1) :: (10, 10) :: (11, 11) :: (12, 12) :: (13, 13) :: (14, 14) :: (15, 15) :: (16, 16) :: (17, 17) :: (18, 18) :: (19, 19) :: (20, 20) :: (21, 21) :: (22, 22) :: (23, 23) :: (34, 34) :: (35, 35) :: (36, 36) :: (37, 37) :: (38, 38) :: (39, 39) :: (40, 40) :: (41, 41) :: (42, 42) :: (43, 43) :: (44, 44) :: (45, 45) :: (46, 46) :: (47, 47) :: [])) ⟨(pE k k), (pE k k), (pE k k), (e1 k k), (pE k k), (e1 k k), trivial⟩ (hP k k k k <| hP k k k k <| hI k k k <| hI k k k <| hI k k k <| hB (okMt.plainO _) k k k <| hI k k k <| hI k k k <| hI k k k <| hB (okMt.plainO _) k k k <| hB (okRp.plainO _) k k k <| hB (okMt.plainO _) k k k <| hB (okBr.plainO _) k k k <| hI k k k <| hB (okSc.plainO _) k k k <| hX ⟨_, k, k, .inr ⟨_, _, k, ⟨_, _, k, k, ⟨_, _, k, k, ⟨_, _, k, k, ⟨_, _, k, ⟨k, k, k, k⟩, ⟨_, _, k, ⟨k, k, k, k⟩, ⟨_, _, k, ⟨k, k, k, k⟩, ⟨_, _, k, ⟨k, k, k, k⟩, ⟨_, _, k, k, ⟨_, _, k, k, ⟨_, _, k, ⟨k, k, k, k⟩, ⟨_, _, k, ⟨k, k, k, k⟩, ⟨_, _, k, ⟨k, k, k, k⟩, ⟨_, _, k, ⟨k, k, k, k⟩, ⟨_, _, k, ⟨k, k, k, k⟩, ⟨_, _, k, ⟨k, k, k, k⟩, ⟨_, _, k, ⟨k, k, k, k⟩, ⟨_, _, k, ⟨k, k, k, k⟩, ⟨_, _, k, ⟨k, k, k, k⟩, k⟩⟩⟩⟩⟩⟩⟩⟩⟩⟩⟩⟩⟩⟩⟩⟩⟩⟩, k⟩⟩ k <| hI k k k <| hI k k k <| hI k k k <| hB (okMt.plainO _) k k k <| hI k k k <| hI k k k <| hI k k k <| hB (okMt.plainO _) k k k <| hB (okRp.plainO _) k k k <| hB (okMt.plainO _) k k k <| hB (okBr.plainO _) k k k <| hI k k k <| hB (okSc.plainO _) k k k <| hX ⟨_, k, k, .inr ⟨_, _, k, ⟨_, _, k, k, ⟨_, _, k, k, ⟨_, _, k, k, ⟨_, _, k, ⟨k, k, k, k⟩, ⟨_, _, k, ⟨k, k, k, k⟩, ⟨_, _, k, ⟨k, k, k, k⟩, ⟨_, _, k, ⟨k, k, k, k⟩, ⟨_, _, k, k, ⟨_, _, k, k, ⟨_, _, k, ⟨k, k, k, k⟩, ⟨_, _, k, ⟨k, k, k, k⟩, ⟨_, _, k, ⟨k, k, k, k⟩, ⟨_, _, k, ⟨k, k, k, k⟩, ⟨_, _, k, ⟨k, k, k, k⟩, ⟨_, _, k, ⟨k, k, k, k⟩, ⟨_, _, k, ⟨k, k, k, k⟩, ⟨_, _, k, ⟨k, k, k, k⟩, ⟨_, _, k, ⟨k, k, k, k⟩, k⟩⟩⟩⟩⟩⟩⟩⟩⟩⟩⟩⟩⟩⟩⟩⟩⟩⟩, k⟩⟩ k <| trivial) k) ?_
         rcases cb h with ⟨q33, h⟩ | ⟨q33, h⟩
         ·refine ac_condT k q33 <| sQ <| rgS <| se (eff_assign k) k <| sn <| tn <| ac_ret <| then_ret ?_
          obtain rfl := so h
          exact ret_mk k k k (fz_bl k)
         ·refine ac_condF k q33 <| ac_skip <| tn <| sQ <| rgS <| se (eff_assign k) k <| sn <| tn <| sQ <| rgS ?_
          refine se (w_load_ptr TT_ok k k k k k k k) k <| se (eff_move k) k ?_
          obtain ⟨v34, hv34, h⟩ := ob h
          refine sops_ent (t := mkS [(2, .ptr 0 0 0), (3, .ptr 1 0 0), (6, .ptr 23 0 0), (7, .bl v7.2), (10, .ptr 47 0 0), (13, .int 1), (82, .bl (!(v10.2 == v7.2))), (83, .agg [.int v10.1.kind, .int v10.1.rep.p, .int v10.1.rep.q.n, .own 34 0 v10.1.rep.q.src.length, .own 35 0 v10.1.rep.q.tgt.length, .own 36 0 v10.1.rep.dims.length, .own 37 0 v10.1.rep.maps.length, .int v10.1.other.p, .int v10.1.other.q.n, .own 38 0 v10.1.other.q.src.length, .own 39 0 v10.1.other.q.tgt.length, .own 40 0 v10.1.other.dims.length, .own 41 0 v10.1.other.maps.length, .own 42 0 v10.1.parts.length, .own 43 0 v10.1.maps.length, .own 44 0 v10.1.bars.length, .own 45 0 v10.1.theta.length, .own 46 0 v10.1.subs.length]), (84, .int 1)] ((0, ⟨6, [[.int a0.p, .int a0.q.n, .sc w0_2, .sc w0_3, .sc w0_4, .sc w0_5]]⟩) :: (1, ⟨6, [[.int a1.p, .int a1.q.n, .sc w1_2, .sc w1_3, .sc w1_4, .sc w1_5]]⟩) :: (10, ⟨1, List.map (ow eI) v7.1.rep.q.src⟩) :: (11, ⟨1, List.map (ow eI) v7.1.rep.q.tgt⟩) :: (12, ⟨1, List.map (ow eI) v7.1.rep.dims⟩) :: (13, ⟨3, List.map (ow eM) v7.1.rep.maps⟩) :: (14, ⟨1, List.map (ow eI) v7.1.other.q.src⟩) :: (15, ⟨1, List.map (ow eI) v7.1.other.q.tgt⟩) :: (16, ⟨1, List.map (ow eI) v7.1.other.dims⟩) :: (17, ⟨3, List.map (ow eM) v7.1.other.maps⟩) :: (18, ⟨6, List.map (ow eR) v7.1.parts⟩) :: (19, ⟨3, List.map (ow eM) v7.1.maps⟩) :: (20, ⟨3, List.map (ow eB) v7.1.bars⟩) :: (21, ⟨1, List.map (ow eI) v7.1.theta⟩) :: (22, ⟨2, List.map (ow eS) v7.1.subs⟩) :: (23, ⟨18, [[.int v7.1.kind, .int v7.1.rep.p, .int v7.1.rep.q.n, .own 10 0 v7.1.rep.q.src.length, .own 11 0 v7.1.rep.q.tgt.length, .own 12 0 v7.1.rep.dims.length, .own 13 0 v7.1.rep.maps.length, .int v7.1.other.p, .int v7.1.other.q.n, .own 14 0 v7.1.other.q.src.length, .own 15 0 v7.1.other.q.tgt.length, .own 16 0 v7.1.other.dims.length, .own 17 0 v7.1.other.maps.length, .own 18 0 v7.1.parts.length, .own 19 0 v7.1.maps.length, .own 20 0 v7.1.bars.length, .own 21 0 v7.1.theta.length, .own 22 0 v7.1.subs.length]]⟩) :: (34, ⟨1, List.map (ow eI) v10.1.rep.q.src⟩) :: (35, ⟨1, List.map (ow eI) v10.1.rep.q.tgt⟩) :: (36, ⟨1, List.map (ow eI) v10.1.rep.dims⟩) :: (37, ⟨3, List.map (ow eM) v10.1.rep.maps⟩) :: (38, ⟨1, List.map (ow eI) v10.1.other.q.src⟩) :: (39, ⟨1, List.map (ow eI) v10.1.other.q.tgt⟩) :: (40, ⟨1, List.map (ow eI) v10.1.other.dims⟩) :: (41, ⟨3, List.map (ow eM) v10.1.other.maps⟩) :: (42, ⟨6, List.map (ow eR) v10.1.parts⟩) :: (43, ⟨3, List.map (ow eM) v10.1.maps⟩) :: (44, ⟨3, List.map (ow eB) v10.1.bars⟩) :: (45, ⟨1, List.map (ow eI) v10.1.theta⟩) :: (46, ⟨2, List.map (ow eS) v10.1.subs⟩) :: (47, ⟨18, [[.int v10.1.kind, .int v10.1.rep.p, .int v10.1.rep.q.n, .own 34 0 v10.1.rep.q.src.length, .own 35 0 v10.1.rep.q.tgt.length, .own 36 0 v10.1.rep.dims.length, .own 37 0 v10.1.rep.maps.length, .int v10.1.other.p, .int v10.1.other.q.n, .own 38 0 v10.1.other.q.src.length, .own 39 0 v10.1.other.q.tgt.length, .own 40 0 v10.1.other.dims.length, .own 41 0 v10.1.other.maps.length, .own 42 0 v10.1.parts.length, .own 43 0 v10.1.maps.length, .own 44 0 v10.1.bars.length, .own 45 0 v10.1.theta.length, .own 46 0 v10.1.subs.length]]⟩) :: []) 56 [56, 57, 58, 59, 60, 61, 62, 63, 64, 65, 66, 67, 68, 69, 70, 71, 72, 73, 74, 75, 76, 77, 78, 79] ⟨0, true, fxW W, true⟩) (ent_mk (σ := sg ((0, 0) :: (1, 1) :: (10, 10) :: (11, 11) :: (12, 12) :: (13, 13) :: (14, 14) :: (15, 15) :: (16, 16) :: (17, 17) :: (18, 18) :: (19, 19) :: (20, 20) :: (21, 21) :: (22, 22) :: (23, 23) :: (34, 34) :: (35, 35) :: (36, 36) :: (37, 37) :: (38, 38) :: (39, 39) :: (40, 40) :: (41, 41) :: (42, 42) :: (43, 43) :: (44, 44) :: (45, 45) :: (46, 46) :: (47, 47) :: [])) ⟨(pE k k), (pE k k), (pE k k), (e1 k k), (pE k k), (e1 k k), (e1 k k), ⟨_, k, ⟨_, _, k, k, ⟨_, _, k, k, ⟨_, _, k, k, ⟨_, _, k, ⟨k, k, k, k⟩, ⟨_, _, k, ⟨k, k, k, k⟩, ⟨_, _, k, ⟨k, k, k, k⟩, ⟨_, _, k, ⟨k, k, k, k⟩, ⟨_, _, k, k, ⟨_, _, k, k, ⟨_, _, k, ⟨k, k, k, k⟩, ⟨_, _, k, ⟨k, k, k, k⟩, ⟨_, _, k, ⟨k, k, k, k⟩, ⟨_, _, k, ⟨k, k, k, k⟩, ⟨_, _, k, ⟨k, k, k, k⟩, ⟨_, _, k, ⟨k, k, k, k⟩, ⟨_, _, k, ⟨k, k, k, k⟩, ⟨_, _, k, ⟨k, k, k, k⟩, ⟨_, _, k, ⟨k, k, k, k⟩, k⟩⟩⟩⟩⟩⟩⟩⟩⟩⟩⟩⟩⟩⟩⟩⟩⟩⟩⟩, (e1 k k), trivial⟩ (hP k k k k <| hP k k k k <| hI k k k <| hI k k k <| hI k k k <| hB (okMt.plainO _) k k k <| hI k k k <| hI k k k <| hI k k k <| hB (okMt.plainO _) k k k <| hB (okRp.plainO _) k k k <| hB (okMt.plainO _) k k k <| hB (okBr.plainO _) k k k <| hI k k k <| hB (okSc.plainO _) k k k <| hX ⟨_, k, k, .inr ⟨_, _, k, ⟨_, _, k, k, ⟨_, _, k, k, ⟨_, _, k, k, ⟨_, _, k, ⟨k, k, k, k⟩, ⟨_, _, k, ⟨k, k, k, k⟩, ⟨_, _, k, ⟨k, k, k, k⟩, ⟨_, _, k, ⟨k, k, k, k⟩, ⟨_, _, k, k, ⟨_, _, k, k, ⟨_, _, k, ⟨k, k, k, k⟩, ⟨_, _, k, ⟨k, k, k, k⟩, ⟨_, _, k, ⟨k, k, k, k⟩, ⟨_, _, k, ⟨k, k, k, k⟩, ⟨_, _, k, ⟨k, k, k, k⟩, ⟨_, _, k, ⟨k, k, k, k⟩, ⟨_, _, k, ⟨k, k, k, k⟩, ⟨_, _, k, ⟨k, k, k, k⟩, ⟨_, _, k, ⟨k, k, k, k⟩, k⟩⟩⟩⟩⟩⟩⟩⟩⟩⟩⟩⟩⟩⟩⟩⟩⟩⟩, k⟩⟩ k <| hI k k k <| hI k k k <| hI k k k <| hB (okMt.plainO _) k k k <| hI k k k <| hI k k k <| hI k k k <| hB (okMt.plainO _) k k k <| hB (okRp.plainO _) k k k <| hB (okMt.plainO _) k k k <| hB (okBr.plainO _) k k k <| hI k k k <| hB (okSc.plainO _) k k k <| hX ⟨_, k, k, .inr ⟨_, _, k, ⟨_, _, k, k, ⟨_, _, k, k, ⟨_, _, k, k, ⟨_, _, k, ⟨k, k, k, k⟩, ⟨_, _, k, ⟨k, k, k, k⟩, ⟨_, _, k, ⟨k, k, k, k⟩, ⟨_, _, k, ⟨k, k, k, k⟩, ⟨_, _, k, k, ⟨_, _, k, k, ⟨_, _, k, ⟨k, k, k, k⟩, ⟨_, _, k, ⟨k, k, k, k⟩, ⟨_, _, k, ⟨k, k, k, k⟩, ⟨_, _, k, ⟨k, k, k, k⟩, ⟨_, _, k, ⟨k, k, k, k⟩, ⟨_, _, k, ⟨k, k, k, k⟩, ⟨_, _, k, ⟨k, k, k, k⟩, ⟨_, _, k, ⟨k, k, k, k⟩, ⟨_, _, k, ⟨k, k, k, k⟩, k⟩⟩⟩⟩⟩⟩⟩⟩⟩⟩⟩⟩⟩⟩⟩⟩⟩⟩, k⟩⟩ k <| trivial) k) ?_
          refine sops_T (σ := sg [(0, 34), (1, 35), (2, 36), (3, 37), (4, 38), (5, 39), (6, 40), (7, 41), (8, 42), (9, 43), (10, 44), (11, 45), (12, 46)]) (σ' := sg [(34, 0), (35, 1), (36, 2), (37, 3), (38, 4), (39, 5), (40, 6), (41, 7), (42, 8), (43, 9), (44, 10), (45, 11), (46, 12)]) (touch := [34, 35, 36, 37, 38, 39, 40, 41, 42, 43, 44, 45, 46]) (news := []) (hl2 := [(34, ⟨1, List.map (ow eI) v34.1⟩), (35, ⟨1, List.map (ow eI) v34.2.1⟩), (36, ⟨1, List.map (ow eI) v34.2.2.1⟩), (37, ⟨3, List.map (ow eM) v34.2.2.2.1⟩), (38, ⟨1, List.map (ow eI) v34.2.2.2.2.1⟩), (39, ⟨1, List.map (ow eI) v34.2.2.2.2.2.1⟩), (40, ⟨1, List.map (ow eI) v34.2.2.2.2.2.2.1⟩), (41, ⟨3, List.map (ow eM) v34.2.2.2.2.2.2.2.1⟩), (42, ⟨6, List.map (ow eR) v34.2.2.2.2.2.2.2.2.1⟩), (43, ⟨3, List.map (ow eM) v34.2.2.2.2.2.2.2.2.2.1⟩), (44, ⟨3, List.map (ow eB) v34.2.2.2.2.2.2.2.2.2.2.1⟩), (45, ⟨1, List.map (ow eI) v34.2.2.2.2.2.2.2.2.2.2.2.1⟩), (46, ⟨2, List.map (ow eS) v34.2.2.2.2.2.2.2.2.2.2.2.2.1⟩)]) (n' := 56) (r2 := .int v34.2.2.2.2.2.2.2.2.2.2.2.2.2) (c_laws_markClaim v10.1 1 v34 hv34) k k ⟨_, _, k, ⟨_, _, k, k, ⟨_, _, k, k, ⟨_, _, k, k, ⟨_, _, k, ⟨k, k, k, k⟩, ⟨_, _, k, ⟨k, k, k, k⟩, ⟨_, _, k, ⟨k, k, k, k⟩, ⟨_, _, k, ⟨k, k, k, k⟩, ⟨_, _, k, k, ⟨_, _, k, k, ⟨_, _, k, ⟨k, k, k, k⟩, ⟨_, _, k, ⟨k, k, k, k⟩, ⟨_, _, k, ⟨k, k, k, k⟩, ⟨_, _, k, ⟨k, k, k, k⟩, ⟨_, _, k, ⟨k, k, k, k⟩, ⟨_, _, k, ⟨k, k, k, k⟩, ⟨_, _, k, ⟨k, k, k, k⟩, ⟨_, _, k, ⟨k, k, k, k⟩, ⟨_, _, k, ⟨k, k, k, k⟩, k⟩⟩⟩⟩⟩⟩⟩⟩⟩⟩⟩⟩⟩⟩⟩⟩⟩⟩, ⟨_, _, k, k, k⟩⟩ ⟨⟨_, k, k, .inl ⟨k, okI.plainO _⟩⟩, k, ⟨_, k, k, .inl ⟨k, okI.plainO _⟩⟩, k, ⟨_, k, k, .inl ⟨k, okI.plainO _⟩⟩, k, ⟨_, k, k, .inl ⟨k, okMt.plainO _⟩⟩, k, ⟨_, k, k, .inl ⟨k, okI.plainO _⟩⟩, k, ⟨_, k, k, .inl ⟨k, okI.plainO _⟩⟩, k, ⟨_, k, k, .inl ⟨k, okI.plainO _⟩⟩, k, ⟨_, k, k, .inl ⟨k, okMt.plainO _⟩⟩, k, ⟨_, k, k, .inl ⟨k, okRp.plainO _⟩⟩, k, ⟨_, k, k, .inl ⟨k, okMt.plainO _⟩⟩, k, ⟨_, k, k, .inl ⟨k, okBr.plainO _⟩⟩, k, ⟨_, k, k, .inl ⟨k, okI.plainO _⟩⟩, k, ⟨_, k, k, .inl ⟨k, okSc.plainO _⟩⟩, k, trivial⟩ k k k ⟨⟨_, k, k, .inl ⟨k, okI.plainO _⟩⟩, k, ⟨_, k, k, .inl ⟨k, okI.plainO _⟩⟩, k, ⟨_, k, k, .inl ⟨k, okI.plainO _⟩⟩, k, ⟨_, k, k, .inl ⟨k, okMt.plainO _⟩⟩, k, ⟨_, k, k, .inl ⟨k, okI.plainO _⟩⟩, k, ⟨_, k, k, .inl ⟨k, okI.plainO _⟩⟩, k, ⟨_, k, k, .inl ⟨k, okI.plainO _⟩⟩, k, ⟨_, k, k, .inl ⟨k, okMt.plainO _⟩⟩, k, ⟨_, k, k, .inl ⟨k, okRp.plainO _⟩⟩, k, ⟨_, k, k, .inl ⟨k, okMt.plainO _⟩⟩, k, ⟨_, k, k, .inl ⟨k, okBr.plainO _⟩⟩, k, ⟨_, k, k, .inl ⟨k, okI.plainO _⟩⟩, k, ⟨_, k, k, .inl ⟨k, okSc.plainO _⟩⟩, k, trivial⟩ k k k ⟨k, okI.tame _ _, ⟨k, okI.tame _ _, ⟨k, okI.tame _ _, ⟨k, okMt.tame _ _, ⟨k, okI.tame _ _, ⟨k, okI.tame _ _, ⟨k, okI.tame _ _, ⟨k, okMt.tame _ _, ⟨k, okRp.tame _ _, ⟨k, okMt.tame _ _, ⟨k, okBr.tame _ _, ⟨k, okI.tame _ _, ⟨k, okSc.tame _ _, trivial⟩⟩⟩⟩⟩⟩⟩⟩⟩⟩⟩⟩⟩ k k k k k (dfE_ok ⟨k, k, k, k, k, k, k, k, k, trivial⟩) (dfH_ok (skip := [34, 35, 36, 37, 38, 39, 40, 41, 42, 43, 44, 45, 46]) ⟨.inr (df_lit k), .inr (df_lit k), .inr (okI.df _ _), .inr (okI.df _ _), .inr (okI.df _ _), .inr (okMt.df _ _), .inr (okI.df _ _), .inr (okI.df _ _), .inr (okI.df _ _), .inr (okMt.df _ _), .inr (okRp.df _ _), .inr (okMt.df _ _), .inr (okBr.df _ _), .inr (okI.df _ _), .inr (okSc.df _ _), .inr (df_lit k), .inl (by decide), .inl (by decide), .inl (by decide), .inl (by decide), .inl (by decide), .inl (by decide), .inl (by decide), .inl (by decide), .inl (by decide), .inl (by decide), .inl (by decide), .inl (by decide), .inl (by decide), .inr (df_lit k), trivial⟩) ?_
          obtain ⟨q35, h⟩ := cg h
          obtain ⟨q36, h⟩ := cg h
          obtain ⟨q37, h⟩ := cg h
          obtain ⟨q38, h⟩ := cg h
          obtain ⟨q39, h⟩ := cg h
          obtain ⟨q40, h⟩ := cg h
          obtain ⟨q41, h⟩ := cg h
          obtain ⟨q42, h⟩ := cg h
          obtain ⟨q43, h⟩ := cg h
          obtain ⟨q44, h⟩ := cg h
          obtain ⟨q45, h⟩ := cg h
          obtain ⟨q46, h⟩ := cg h
          obtain ⟨q47, h⟩ := cg h
          refine se (eff_assign k) k <| sn <| tn <| sQ <| rgS <| se (eff_assign k) k <| sn <| tn <| sQ <| rgS ?_
          refine se (w_load_ptr TT_ok k k k k k k k) k <| se (eff_move k) k ?_
          obtain ⟨v48, hv48, h⟩ := ob h
          refine se (w_call0sK (c_laws_heldClaim (⟨v10.1.kind, (⟨v10.1.rep.p, (⟨v10.1.rep.q.n, v34.1, v34.2.1⟩ : Qv), v34.2.2.1, v34.2.2.2.1⟩ : Rp), (⟨v10.1.other.p, (⟨v10.1.other.q.n, v34.2.2.2.2.1, v34.2.2.2.2.2.1⟩ : Qv), v34.2.2.2.2.2.2.1, v34.2.2.2.2.2.2.2.1⟩ : Rp), v34.2.2.2.2.2.2.2.2.1, v34.2.2.2.2.2.2.2.2.2.1, v34.2.2.2.2.2.2.2.2.2.2.1, v34.2.2.2.2.2.2.2.2.2.2.2.1, v34.2.2.2.2.2.2.2.2.2.2.2.2.1⟩ : Cl) 1 v48 hv48) k (vk_cons (.inl (va_agg' (v1_cons (v1_same k) (v1_cons (v1_same k) (v1_cons (v1_same k) (v1_cons (v1_T okI k (by first | rfl | simp only [List.length_set, of_decide_eq_true q35])) (v1_cons (v1_T okI k (by first | rfl | simp only [List.length_set, of_decide_eq_true q36])) (v1_cons (v1_T okI k (by first | rfl | simp only [List.length_set, of_decide_eq_true q37])) (v1_cons (v1_T okMt k (by first | rfl | simp only [List.length_set, of_decide_eq_true q38])) (v1_cons (v1_same k) (v1_cons (v1_same k) (v1_cons (v1_T okI k (by first | rfl | simp only [List.length_set, of_decide_eq_true q39])) (v1_cons (v1_T okI k (by first | rfl | simp only [List.length_set, of_decide_eq_true q40])) (v1_cons (v1_T okI k (by first | rfl | simp only [List.length_set, of_decide_eq_true q41])) (v1_cons (v1_T okMt k (by first | rfl | simp only [List.length_set, of_decide_eq_true q42])) (v1_cons (v1_T okRp k (by first | rfl | simp only [List.length_set, of_decide_eq_true q43])) (v1_cons (v1_T okMt k (by first | rfl | simp only [List.length_set, of_decide_eq_true q44])) (v1_cons (v1_T okBr k (by first | rfl | simp only [List.length_set, of_decide_eq_true q45])) (v1_cons (v1_T okI k (by first | rfl | simp only [List.length_set, of_decide_eq_true q46])) (v1_cons (v1_T okSc k (by first | rfl | simp only [List.length_set, of_decide_eq_true q47])) v1_nil)))))))))))))))))))) (vk_cons (.inl (va_same k)) vk_nil))) k ?_
          refine se (eff_assign k) k <| sn <| tn <| sQ <| sQ <| rgS <| se (eff_move k) k <| se (w_cmp k k k) k <| sn <| tn ?_
          rcases cb h with ⟨q49, h⟩ | ⟨q49, h⟩
          ·refine ac_condT k q49 <| sQ <| rgS <| se (eff_assign k) k <| sn <| tn <| ac_ret <| then_ret ?_
           obtain rfl := so h
           exact ret_mk k k k (fz_bl k)
          ·refine ac_condF k q49 <| ac_skip <| tn <| sQ <| sQ <| rgS <| se (eff_move k) k <| se (eff_move k) k <| se (w_cmp k k k) k <| sn ?_
           refine tn ?_
           rcases cb h with ⟨q50, h⟩ | ⟨q50, h⟩
           ·refine ac_condT k q50 <| sQ <| rgS <| se (eff_assign k) k <| sn <| tn <| ac_ent (t := mkS [(4, .bl false)] [] 56 [56, 57, 58, 59, 60, 61, 62, 63, 64, 65, 66, 67, 68, 69, 70, 71, 72, 73, 74, 75, 76, 77, 78, 79] ⟨0, true, fxW W, true⟩) (ent_mk (σ := sg []) ⟨(e1 k k), trivial⟩ trivial k) <| ac_ret <| then_ret ?_
            obtain rfl := so h
            exact ret_mk k k k (fz_bl k)
           ·refine ac_condF k q50 <| ac_skip <| tn <| sQ <| ac_region_draw MIXX <| ae (w_load_ptr TT_ok k k k k k k k) k ?_
            obtain ⟨v51, hv51, h⟩ := ob h
            refine ae (AEff.conv (w_call0K (x := .agg [.int v51.p, .int v51.q.n, .own 56 0 (List.map eI v51.q.src).length, .own 57 0 (List.map eI v51.q.tgt).length, .own 58 0 (List.map eI v51.dims).length, .own 59 0 (List.map eM v51.maps).length]) (nb := [(56, ⟨1, absEs (List.map eI v51.q.src)⟩), (57, ⟨1, absEs (List.map eI v51.q.tgt)⟩), (58, ⟨1, absEs (List.map eI v51.dims)⟩), (59, ⟨3, absEs (List.map eM v51.maps)⟩)]) (c_laws_toRep a0 v51 hv51) k (by rfl) k k (g1_cons trivial (g1_cons trivial (g1_cons (okI.good _) (g1_cons (okI.good _) (g1_cons (okI.good _) (g1_cons (okMt.good _) g1_nil)))))) (vk_cons (.inr (raw_cons (raw1_sc k k) (raw_cons (raw1_sc k k) (raw_cons (raw1_d k r0_2) (raw_cons (raw1_d k r0_3) (raw_cons (raw1_d k r0_4) (raw_cons (raw1_d k r0_5) raw_nil))))))) vk_nil)) (v' := .agg [.int v51.p, .int v51.q.n, .own 56 0 v51.q.src.length, .own 57 0 v51.q.tgt.length, .own 58 0 v51.dims.length, .own 59 0 v51.maps.length]) (ed' := [(56, some ⟨1, List.map (ow eI) v51.q.src⟩), (57, some ⟨1, List.map (ow eI) v51.q.tgt⟩), (58, some ⟨1, List.map (ow eI) v51.dims⟩), (59, some ⟨3, List.map (ow eM) v51.maps⟩)]) (by simp only [len_map]) (ed_ok (nb' := [(56, ⟨1, List.map (ow eI) v51.q.src⟩), (57, ⟨1, List.map (ow eI) v51.q.tgt⟩), (58, ⟨1, List.map (ow eI) v51.dims⟩), (59, ⟨3, List.map (ow eM) v51.maps⟩)]) (by simp only [abs_map]))) k <| ae (w_load_ptr TT_ok k k k k k k k) k ?_
            obtain ⟨v52, hv52, h⟩ := ob h
            refine ae (AEff.conv (w_call0K (x := .agg [.int v52.p, .int v52.q.n, .own 60 0 (List.map eI v52.q.src).length, .own 61 0 (List.map eI v52.q.tgt).length, .own 62 0 (List.map eI v52.dims).length, .own 63 0 (List.map eM v52.maps).length]) (nb := [(60, ⟨1, absEs (List.map eI v52.q.src)⟩), (61, ⟨1, absEs (List.map eI v52.q.tgt)⟩), (62, ⟨1, absEs (List.map eI v52.dims)⟩), (63, ⟨3, absEs (List.map eM v52.maps)⟩)]) (c_laws_toRep a1 v52 hv52) k (by rfl) k k (g1_cons trivial (g1_cons trivial (g1_cons (okI.good _) (g1_cons (okI.good _) (g1_cons (okI.good _) (g1_cons (okMt.good _) g1_nil)))))) (vk_cons (.inr (raw_cons (raw1_sc k k) (raw_cons (raw1_sc k k) (raw_cons (raw1_d k r1_2) (raw_cons (raw1_d k r1_3) (raw_cons (raw1_d k r1_4) (raw_cons (raw1_d k r1_5) raw_nil))))))) vk_nil)) (v' := .agg [.int v52.p, .int v52.q.n, .own 60 0 v52.q.src.length, .own 61 0 v52.q.tgt.length, .own 62 0 v52.dims.length, .own 63 0 v52.maps.length]) (ed' := [(60, some ⟨1, List.map (ow eI) v52.q.src⟩), (61, some ⟨1, List.map (ow eI) v52.q.tgt⟩), (62, some ⟨1, List.map (ow eI) v52.dims⟩), (63, some ⟨3, List.map (ow eM) v52.maps⟩)]) (by simp only [len_map]) (ed_ok (nb' := [(60, ⟨1, List.map (ow eI) v52.q.src⟩), (61, ⟨1, List.map (ow eI) v52.q.tgt⟩), (62, ⟨1, List.map (ow eI) v52.dims⟩), (63, ⟨3, List.map (ow eM) v52.maps⟩)]) (by simp only [abs_map]))) k ?_
            obtain ⟨v53, hv53, h⟩ := ob h
            refine ae (AEff.conv (w_call0K (x := .tuple [.agg [.int v53.1.kind, .int v53.1.rep.p, .int v53.1.rep.q.n, .own 64 0 (List.map eI v53.1.rep.q.src).length, .own 65 0 (List.map eI v53.1.rep.q.tgt).length, .own 66 0 (List.map eI v53.1.rep.dims).length, .own 67 0 (List.map eM v53.1.rep.maps).length, .int v53.1.other.p, .int v53.1.other.q.n, .own 68 0 (List.map eI v53.1.other.q.src).length, .own 69 0 (List.map eI v53.1.other.q.tgt).length, .own 70 0 (List.map eI v53.1.other.dims).length, .own 71 0 (List.map eM v53.1.other.maps).length, .own 72 0 (List.map eR v53.1.parts).length, .own 73 0 (List.map eM v53.1.maps).length, .own 74 0 (List.map eB v53.1.bars).length, .own 75 0 (List.map eI v53.1.theta).length, .own 76 0 (List.map eS v53.1.subs).length], .bl v53.2]) (nb := [(64, ⟨1, absEs (List.map eI v53.1.rep.q.src)⟩), (65, ⟨1, absEs (List.map eI v53.1.rep.q.tgt)⟩), (66, ⟨1, absEs (List.map eI v53.1.rep.dims)⟩), (67, ⟨3, absEs (List.map eM v53.1.rep.maps)⟩), (68, ⟨1, absEs (List.map eI v53.1.other.q.src)⟩), (69, ⟨1, absEs (List.map eI v53.1.other.q.tgt)⟩), (70, ⟨1, absEs (List.map eI v53.1.other.dims)⟩), (71, ⟨3, absEs (List.map eM v53.1.other.maps)⟩), (72, ⟨6, absEs (List.map eR v53.1.parts)⟩), (73, ⟨3, absEs (List.map eM v53.1.maps)⟩), (74, ⟨3, absEs (List.map eB v53.1.bars)⟩), (75, ⟨1, absEs (List.map eI v53.1.theta)⟩), (76, ⟨2, absEs (List.map eS v53.1.subs)⟩)]) (c_impl_ClaimOfExtension v51 v52 v53 hv53) k (by rfl) k k (gB_cons (g1_cons trivial (g1_cons trivial (g1_cons trivial (g1_cons (okI.good _) (g1_cons (okI.good _) (g1_cons (okI.good _) (g1_cons (okMt.good _) (g1_cons trivial (g1_cons trivial (g1_cons (okI.good _) (g1_cons (okI.good _) (g1_cons (okI.good _) (g1_cons (okMt.good _) (g1_cons (okRp.good _) (g1_cons (okMt.good _) (g1_cons (okBr.good _) (g1_cons (okI.good _) (g1_cons (okSc.good _) g1_nil)))))))))))))))))) (gB_cons trivial gB_nil)) (vk_cons (.inl (va_agg' (v1_cons (v1_same k) (v1_cons (v1_same k) (v1_cons (v1_T okI k k) (v1_cons (v1_T okI k k) (v1_cons (v1_T okI k k) (v1_cons (v1_T okMt k k) v1_nil)))))))) (vk_cons (.inl (va_agg' (v1_cons (v1_same k) (v1_cons (v1_same k) (v1_cons (v1_T okI k k) (v1_cons (v1_T okI k k) (v1_cons (v1_T okI k k) (v1_cons (v1_T okMt k k) v1_nil)))))))) vk_nil))) (v' := .tuple [.agg [.int v53.1.kind, .int v53.1.rep.p, .int v53.1.rep.q.n, .own 64 0 v53.1.rep.q.src.length, .own 65 0 v53.1.rep.q.tgt.length, .own 66 0 v53.1.rep.dims.length, .own 67 0 v53.1.rep.maps.length, .int v53.1.other.p, .int v53.1.other.q.n, .own 68 0 v53.1.other.q.src.length, .own 69 0 v53.1.other.q.tgt.length, .own 70 0 v53.1.other.dims.length, .own 71 0 v53.1.other.maps.length, .own 72 0 v53.1.parts.length, .own 73 0 v53.1.maps.length, .own 74 0 v53.1.bars.length, .own 75 0 v53.1.theta.length, .own 76 0 v53.1.subs.length], .bl v53.2]) (ed' := [(64, some ⟨1, List.map (ow eI) v53.1.rep.q.src⟩), (65, some ⟨1, List.map (ow eI) v53.1.rep.q.tgt⟩), (66, some ⟨1, List.map (ow eI) v53.1.rep.dims⟩), (67, some ⟨3, List.map (ow eM) v53.1.rep.maps⟩), (68, some ⟨1, List.map (ow eI) v53.1.other.q.src⟩), (69, some ⟨1, List.map (ow eI) v53.1.other.q.tgt⟩), (70, some ⟨1, List.map (ow eI) v53.1.other.dims⟩), (71, some ⟨3, List.map (ow eM) v53.1.other.maps⟩), (72, some ⟨6, List.map (ow eR) v53.1.parts⟩), (73, some ⟨3, List.map (ow eM) v53.1.maps⟩), (74, some ⟨3, List.map (ow eB) v53.1.bars⟩), (75, some ⟨1, List.map (ow eI) v53.1.theta⟩), (76, some ⟨2, List.map (ow eS) v53.1.subs⟩)]) (by simp only [len_map]) (ed_ok (nb' := [(64, ⟨1, List.map (ow eI) v53.1.rep.q.src⟩), (65, ⟨1, List.map (ow eI) v53.1.rep.q.tgt⟩), (66, ⟨1, List.map (ow eI) v53.1.rep.dims⟩), (67, ⟨3, List.map (ow eM) v53.1.rep.maps⟩), (68, ⟨1, List.map (ow eI) v53.1.other.q.src⟩), (69, ⟨1, List.map (ow eI) v53.1.other.q.tgt⟩), (70, ⟨1, List.map (ow eI) v53.1.other.dims⟩), (71, ⟨3, List.map (ow eM) v53.1.other.maps⟩), (72, ⟨6, List.map (ow eR) v53.1.parts⟩), (73, ⟨3, List.map (ow eM) v53.1.maps⟩), (74, ⟨3, List.map (ow eB) v53.1.bars⟩), (75, ⟨1, List.map (ow eI) v53.1.theta⟩), (76, ⟨2, List.map (ow eS) v53.1.subs⟩)]) (by simp only [abs_map]))) k ?_
            refine am k k <| ae (eff_extract k k (by intro _ h; cases h)) k <| ae (eff_extract k k (by intro _ h; cases h)) k <| ae (w_alloc TT_ok k k) k <| ae (w_store TT_ok k k k k k k k k) k <| aa k k <| an ?_
            refine ⟨by kernel_rfl, ?_⟩
            refine tn <| ac_ent (t := mkS [(6, .ptr 23 0 0), (7, .bl v7.2), (10, .ptr 47 0 0), (13, .int v34.2.2.2.2.2.2.2.2.2.2.2.2.2), (15, .ptr 77 0 0), (16, .bl v53.2)] ((10, ⟨1, List.map (ow eI) v7.1.rep.q.src⟩) :: (11, ⟨1, List.map (ow eI) v7.1.rep.q.tgt⟩) :: (12, ⟨1, List.map (ow eI) v7.1.rep.dims⟩) :: (13, ⟨3, List.map (ow eM) v7.1.rep.maps⟩) :: (14, ⟨1, List.map (ow eI) v7.1.other.q.src⟩) :: (15, ⟨1, List.map (ow eI) v7.1.other.q.tgt⟩) :: (16, ⟨1, List.map (ow eI) v7.1.other.dims⟩) :: (17, ⟨3, List.map (ow eM) v7.1.other.maps⟩) :: (18, ⟨6, List.map (ow eR) v7.1.parts⟩) :: (19, ⟨3, List.map (ow eM) v7.1.maps⟩) :: (20, ⟨3, List.map (ow eB) v7.1.bars⟩) :: (21, ⟨1, List.map (ow eI) v7.1.theta⟩) :: (22, ⟨2, List.map (ow eS) v7.1.subs⟩) :: (23, ⟨18, [[.int v7.1.kind, .int v7.1.rep.p, .int v7.1.rep.q.n, .own 10 0 v7.1.rep.q.src.length, .own 11 0 v7.1.rep.q.tgt.length, .own 12 0 v7.1.rep.dims.length, .own 13 0 v7.1.rep.maps.length, .int v7.1.other.p, .int v7.1.other.q.n, .own 14 0 v7.1.other.q.src.length, .own 15 0 v7.1.other.q.tgt.length, .own 16 0 v7.1.other.dims.length, .own 17 0 v7.1.other.maps.length, .own 18 0 v7.1.parts.length, .own 19 0 v7.1.maps.length, .own 20 0 v7.1.bars.length, .own 21 0 v7.1.theta.length, .own 22 0 v7.1.subs.length]]⟩) :: (34, ⟨1, List.map (ow eI) v34.1⟩) :: (35, ⟨1, List.map (ow eI) v34.2.1⟩) :: (36, ⟨1, List.map (ow eI) v34.2.2.1⟩) :: (37, ⟨3, List.map (ow eM) v34.2.2.2.1⟩) :: (38, ⟨1, List.map (ow eI) v34.2.2.2.2.1⟩) :: (39, ⟨1, List.map (ow eI) v34.2.2.2.2.2.1⟩) :: (40, ⟨1, List.map (ow eI) v34.2.2.2.2.2.2.1⟩) :: (41, ⟨3, List.map (ow eM) v34.2.2.2.2.2.2.2.1⟩) :: (42, ⟨6, List.map (ow eR) v34.2.2.2.2.2.2.2.2.1⟩) :: (43, ⟨3, List.map (ow eM) v34.2.2.2.2.2.2.2.2.2.1⟩) :: (44, ⟨3, List.map (ow eB) v34.2.2.2.2.2.2.2.2.2.2.1⟩) :: (45, ⟨1, List.map (ow eI) v34.2.2.2.2.2.2.2.2.2.2.2.1⟩) :: (46, ⟨2, List.map (ow eS) v34.2.2.2.2.2.2.2.2.2.2.2.2.1⟩) :: (47, ⟨18, [[.int v10.1.kind, .int v10.1.rep.p, .int v10.1.rep.q.n, .own 34 0 v34.1.length, .own 35 0 v34.2.1.length, .own 36 0 v34.2.2.1.length, .own 37 0 v34.2.2.2.1.length, .int v10.1.other.p, .int v10.1.other.q.n, .own 38 0 v34.2.2.2.2.1.length, .own 39 0 v34.2.2.2.2.2.1.length, .own 40 0 v34.2.2.2.2.2.2.1.length, .own 41 0 v34.2.2.2.2.2.2.2.1.length, .own 42 0 v34.2.2.2.2.2.2.2.2.1.length, .own 43 0 v34.2.2.2.2.2.2.2.2.2.1.length, .own 44 0 v34.2.2.2.2.2.2.2.2.2.2.1.length, .own 45 0 v34.2.2.2.2.2.2.2.2.2.2.2.1.length, .own 46 0 v34.2.2.2.2.2.2.2.2.2.2.2.2.1.length]]⟩) :: (64, ⟨1, List.map (ow eI) v53.1.rep.q.src⟩) :: (65, ⟨1, List.map (ow eI) v53.1.rep.q.tgt⟩) :: (66, ⟨1, List.map (ow eI) v53.1.rep.dims⟩) :: (67, ⟨3, List.map (ow eM) v53.1.rep.maps⟩) :: (68, ⟨1, List.map (ow eI) v53.1.other.q.src⟩) :: (69, ⟨1, List.map (ow eI) v53.1.other.q.tgt⟩) :: (70, ⟨1, List.map (ow eI) v53.1.other.dims⟩) :: (71, ⟨3, List.map (ow eM) v53.1.other.maps⟩) :: (72, ⟨6, List.map (ow eR) v53.1.parts⟩) :: (73, ⟨3, List.map (ow eM) v53.1.maps⟩) :: (74, ⟨3, List.map (ow eB) v53.1.bars⟩) :: (75, ⟨1, List.map (ow eI) v53.1.theta⟩) :: (76, ⟨2, List.map (ow eS) v53.1.subs⟩) :: (77, ⟨18, [[.int v53.1.kind, .int v53.1.rep.p, .int v53.1.rep.q.n, .own 64 0 v53.1.rep.q.src.length, .own 65 0 v53.1.rep.q.tgt.length, .own 66 0 v53.1.rep.dims.length, .own 67 0 v53.1.rep.maps.length, .int v53.1.other.p, .int v53.1.other.q.n, .own 68 0 v53.1.other.q.src.length, .own 69 0 v53.1.other.q.tgt.length, .own 70 0 v53.1.other.dims.length, .own 71 0 v53.1.other.maps.length, .own 72 0 v53.1.parts.length, .own 73 0 v53.1.maps.length, .own 74 0 v53.1.bars.length, .own 75 0 v53.1.theta.length, .own 76 0 v53.1.subs.length]]⟩) :: []) 78 [78, 79] ⟨0, true, fxW W, true⟩) (ent_mk (σ := sg ((10, 10) :: (11, 11) :: (12, 12) :: (13, 13) :: (14, 14) :: (15, 15) :: (16, 16) :: (17, 17) :: (18, 18) :: (19, 19) :: (20, 20) :: (21, 21) :: (22, 22) :: (23, 23) :: (34, 34) :: (35, 35) :: (36, 36) :: (37, 37) :: (38, 38) :: (39, 39) :: (40, 40) :: (41, 41) :: (42, 42) :: (43, 43) :: (44, 44) :: (45, 45) :: (46, 46) :: (47, 47) :: (64, 64) :: (65, 65) :: (66, 66) :: (67, 67) :: (68, 68) :: (69, 69) :: (70, 70) :: (71, 71) :: (72, 72) :: (73, 73) :: (74, 74) :: (75, 75) :: (76, 76) :: (77, 77) :: [])) ⟨(pE k k), (e1 k k), (pE k k), (e1 k k), (pE k k), (e1 k k), trivial⟩ (hI k k k <| hI k k k <| hI k k k <| hB (okMt.plainO _) k k k <| hI k k k <| hI k k k <| hI k k k <| hB (okMt.plainO _) k k k <| hB (okRp.plainO _) k k k <| hB (okMt.plainO _) k k k <| hB (okBr.plainO _) k k k <| hI k k k <| hB (okSc.plainO _) k k k <| hX ⟨_, k, k, .inr ⟨_, _, k, ⟨_, _, k, k, ⟨_, _, k, k, ⟨_, _, k, k, ⟨_, _, k, ⟨k, k, k, k⟩, ⟨_, _, k, ⟨k, k, k, k⟩, ⟨_, _, k, ⟨k, k, k, k⟩, ⟨_, _, k, ⟨k, k, k, k⟩, ⟨_, _, k, k, ⟨_, _, k, k, ⟨_, _, k, ⟨k, k, k, k⟩, ⟨_, _, k, ⟨k, k, k, k⟩, ⟨_, _, k, ⟨k, k, k, k⟩, ⟨_, _, k, ⟨k, k, k, k⟩, ⟨_, _, k, ⟨k, k, k, k⟩, ⟨_, _, k, ⟨k, k, k, k⟩, ⟨_, _, k, ⟨k, k, k, k⟩, ⟨_, _, k, ⟨k, k, k, k⟩, ⟨_, _, k, ⟨k, k, k, k⟩, k⟩⟩⟩⟩⟩⟩⟩⟩⟩⟩⟩⟩⟩⟩⟩⟩⟩⟩, k⟩⟩ k <| hI k k k <| hI k k k <| hI k k k <| hB (okMt.plainO _) k k k <| hI k k k <| hI k k k <| hI k k k <| hB (okMt.plainO _) k k k <| hB (okRp.plainO _) k k k <| hB (okMt.plainO _) k k k <| hB (okBr.plainO _) k k k <| hI k k k <| hB (okSc.plainO _) k k k <| hX ⟨_, k, k, .inr ⟨_, _, k, ⟨_, _, k, k, ⟨_, _, k, k, ⟨_, _, k, k, ⟨_, _, k, ⟨k, k, (by simp only [len_map, lA, lT, lR, lC, lN, of_decide_eq_true q35]), k⟩, ⟨_, _, k, ⟨k, k, (by simp only [len_map, lA, lT, lR, lC, lN, of_decide_eq_true q36]), k⟩, ⟨_, _, k, ⟨k, k, (by simp only [len_map, lA, lT, lR, lC, lN, of_decide_eq_true q37]), k⟩, ⟨_, _, k, ⟨k, k, (by simp only [len_map, lA, lT, lR, lC, lN, of_decide_eq_true q38]), k⟩, ⟨_, _, k, k, ⟨_, _, k, k, ⟨_, _, k, ⟨k, k, (by simp only [len_map, lA, lT, lR, lC, lN, of_decide_eq_true q39]), k⟩, ⟨_, _, k, ⟨k, k, (by simp only [len_map, lA, lT, lR, lC, lN, of_decide_eq_true q40]), k⟩, ⟨_, _, k, ⟨k, k, (by simp only [len_map, lA, lT, lR, lC, lN, of_decide_eq_true q41]), k⟩, ⟨_, _, k, ⟨k, k, (by simp only [len_map, lA, lT, lR, lC, lN, of_decide_eq_true q42]), k⟩, ⟨_, _, k, ⟨k, k, (by simp only [len_map, lA, lT, lR, lC, lN, of_decide_eq_true q43]), k⟩, ⟨_, _, k, ⟨k, k, (by simp only [len_map, lA, lT, lR, lC, lN, of_decide_eq_true q44]), k⟩, ⟨_, _, k, ⟨k, k, (by simp only [len_map, lA, lT, lR, lC, lN, of_decide_eq_true q45]), k⟩, ⟨_, _, k, ⟨k, k, (by simp only [len_map, lA, lT, lR, lC, lN, of_decide_eq_true q46]), k⟩, ⟨_, _, k, ⟨k, k, (by simp only [len_map, lA, lT, lR, lC, lN, of_decide_eq_true q47]), k⟩, k⟩⟩⟩⟩⟩⟩⟩⟩⟩⟩⟩⟩⟩⟩⟩⟩⟩⟩, k⟩⟩ k <| hI k k k <| hI k k k <| hI k k k <| hB (okMt.plainO _) k k k <| hI k k k <| hI k k k <| hI k k k <| hB (okMt.plainO _) k k k <| hB (okRp.plainO _) k k k <| hB (okMt.plainO _) k k k <| hB (okBr.plainO _) k k k <| hI k k k <| hB (okSc.plainO _) k k k <| hX ⟨_, k, k, .inr ⟨_, _, k, ⟨_, _, k, k, ⟨_, _, k, k, ⟨_, _, k, k, ⟨_, _, k, ⟨k, k, k, k⟩, ⟨_, _, k, ⟨k, k, k, k⟩, ⟨_, _, k, ⟨k, k, k, k⟩, ⟨_, _, k, ⟨k, k, k, k⟩, ⟨_, _, k, k, ⟨_, _, k, k, ⟨_, _, k, ⟨k, k, k, k⟩, ⟨_, _, k, ⟨k, k, k, k⟩, ⟨_, _, k, ⟨k, k, k, k⟩, ⟨_, _, k, ⟨k, k, k, k⟩, ⟨_, _, k, ⟨k, k, k, k⟩, ⟨_, _, k, ⟨k, k, k, k⟩, ⟨_, _, k, ⟨k, k, k, k⟩, ⟨_, _, k, ⟨k, k, k, k⟩, ⟨_, _, k, ⟨k, k, k, k⟩, k⟩⟩⟩⟩⟩⟩⟩⟩⟩⟩⟩⟩⟩⟩⟩⟩⟩⟩, k⟩⟩ k <| trivial) k) ?_
            refine sQ <| sQ <| rgS <| se (w_load_ptr TT_ok k k k k k k k) k <| se (w_load_ptr TT_ok k k k k k k k) k ?_
            obtain ⟨v54, hv54, h⟩ := ob h
            refine se (w_call0sK (c_laws_eqClaim v53.1 v7.1 v54 hv54) k (vk_cons (.inl (va_agg' (v1_cons (v1_same k) (v1_cons (v1_same k) (v1_cons (v1_same k) (v1_cons (v1_T okI k k) (v1_cons (v1_T okI k k) (v1_cons (v1_T okI k k) (v1_cons (v1_T okMt k k) (v1_cons (v1_same k) (v1_cons (v1_same k) (v1_cons (v1_T okI k k) (v1_cons (v1_T okI k k) (v1_cons (v1_T okI k k) (v1_cons (v1_T okMt k k) (v1_cons (v1_T okRp k k) (v1_cons (v1_T okMt k k) (v1_cons (v1_T okBr k k) (v1_cons (v1_T okI k k) (v1_cons (v1_T okSc k k) v1_nil)))))))))))))))))))) (vk_cons (.inl (va_agg' (v1_cons (v1_same k) (v1_cons (v1_same k) (v1_cons (v1_same k) (v1_cons (v1_T okI k k) (v1_cons (v1_T okI k k) (v1_cons (v1_T okI k k) (v1_cons (v1_T okMt k k) (v1_cons (v1_same k) (v1_cons (v1_same k) (v1_cons (v1_T okI k k) (v1_cons (v1_T okI k k) (v1_cons (v1_T okI k k) (v1_cons (v1_T okMt k k) (v1_cons (v1_T okRp k k) (v1_cons (v1_T okMt k k) (v1_cons (v1_T okBr k k) (v1_cons (v1_T okI k k) (v1_cons (v1_T okSc k k) v1_nil)))))))))))))))))))) vk_nil))) k <| se (w_not k) k <| se (eff_move k) k ?_
            rcases cb h with ⟨q55, h⟩ | ⟨q55, h⟩
            ·refine sops_lit 106 k q55 <| sops_skip k k <| sops_skip k k <| sops_skip k k <| se (eff_pick k k) k <| sn <| tn <| ac_condT k k <| sQ <| rgS ?_
             refine se (eff_assign k) k <| sn <| tn <| ac_ret <| then_ret ?_
             obtain rfl := so h
             exact ret_mk k k k (fz_bl k)
            ·refine sops_lit 106 k q55 <| se (eff_move k) k <| se (eff_move k) k <| se (w_neqB (by kernel_rfl) k k) k <| se (eff_pick k k) k <| sn <| tn ?_
             rcases cb h with ⟨q56, h⟩ | ⟨q56, h⟩
             ·refine ac_condT k q56 <| sQ <| rgS <| se (eff_assign k) k <| sn <| tn <| ac_ret <| then_ret ?_
              obtain rfl := so h
              exact ret_mk k k k (fz_bl k)
             ·refine ac_condF k q56 <| ac_skip <| tn <| sQ <| rgS <| se (eff_assign k) k <| sn <| tn <| sQ <| rgS ?_
              refine se (w_load_ptr TT_ok k k k k k k k) k <| se (eff_move k) k ?_
              obtain ⟨v57, hv57, h⟩ := ob h
              refine se (w_call0sK (c_laws_heldClaim (⟨v10.1.kind, (⟨v10.1.rep.p, (⟨v10.1.rep.q.n, v34.1, v34.2.1⟩ : Qv), v34.2.2.1, v34.2.2.2.1⟩ : Rp), (⟨v10.1.other.p, (⟨v10.1.other.q.n, v34.2.2.2.2.1, v34.2.2.2.2.2.1⟩ : Qv), v34.2.2.2.2.2.2.1, v34.2.2.2.2.2.2.2.1⟩ : Rp), v34.2.2.2.2.2.2.2.2.1, v34.2.2.2.2.2.2.2.2.2.1, v34.2.2.2.2.2.2.2.2.2.2.1, v34.2.2.2.2.2.2.2.2.2.2.2.1, v34.2.2.2.2.2.2.2.2.2.2.2.2.1⟩ : Cl) 1 v57 hv57) k (vk_cons (.inl (va_agg' (v1_cons (v1_same k) (v1_cons (v1_same k) (v1_cons (v1_same k) (v1_cons (v1_T okI k (by first | rfl | simp only [List.length_set, of_decide_eq_true q35])) (v1_cons (v1_T okI k (by first | rfl | simp only [List.length_set, of_decide_eq_true q36])) (v1_cons (v1_T okI k (by first | rfl | simp only [List.length_set, of_decide_eq_true q37])) (v1_cons (v1_T okMt k (by first | rfl | simp only [List.length_set, of_decide_eq_true q38])) (v1_cons (v1_same k) (v1_cons (v1_same k) (v1_cons (v1_T okI k (by first | rfl | simp only [List.length_set, of_decide_eq_true q39])) (v1_cons (v1_T okI k (by first | rfl | simp only [List.length_set, of_decide_eq_true q40])) (v1_cons (v1_T okI k (by first | rfl | simp only [List.length_set, of_decide_eq_true q41])) (v1_cons (v1_T okMt k (by first | rfl | simp only [List.length_set, of_decide_eq_true q42])) (v1_cons (v1_T okRp k (by first | rfl | simp only [List.length_set, of_decide_eq_true q43])) (v1_cons (v1_T okMt k (by first | rfl | simp only [List.length_set, of_decide_eq_true q44])) (v1_cons (v1_T okBr k (by first | rfl | simp only [List.length_set, of_decide_eq_true q45])) (v1_cons (v1_T okI k (by first | rfl | simp only [List.length_set, of_decide_eq_true q46])) (v1_cons (v1_T okSc k (by first | rfl | simp only [List.length_set, of_decide_eq_true q47])) v1_nil)))))))))))))))))))) (vk_cons (.inl (va_same k)) vk_nil))) k ?_
              refine se (eff_assign k) k <| sn <| tn <| ac_ent (t := mkS [(13, .int v34.2.2.2.2.2.2.2.2.2.2.2.2.2), (14, .int v57)] [] 78 [78, 79] ⟨0, true, fxW W, true⟩) (ent_mk (σ := sg []) ⟨(e1 k k), (e1 k k), trivial⟩ trivial k) <| sQ <| sQ <| rgS <| se (eff_move k) k <| se (w_cmp k k k) k <| sn ?_
              refine tn ?_
              rcases cb h with ⟨q58, h⟩ | ⟨q58, h⟩
              ·refine ac_condT k q58 <| sQ <| rgS <| se (eff_assign k) k <| sn <| tn <| ac_ret <| then_ret ?_
               obtain rfl := so h
               exact ret_mk k k k (fz_bl k)
              ·refine ac_condF k q58 <| ac_skip <| tn <| sQ <| sQ <| rgS <| se (eff_move k) k <| se (eff_move k) k <| se (w_cmp k k k) k <| sn ?_
               refine tn ?_
               rcases cb h with ⟨q59, h⟩ | ⟨q59, h⟩
               ·refine ac_condT k q59 <| sQ <| rgS <| se (eff_assign k) k <| sn <| tn <| ac_ret <| then_ret ?_
                obtain rfl := so h
                exact ret_mk k k k (fz_bl k)
               ·refine ac_condF k q59 <| ac_skip <| tn <| sQ <| rgS <| se (eff_assign k) k <| sn <| tn <| ac_ret ?_
                obtain rfl := so h
                exact ret_mk k k k (fz_bl k)

end Go.Proofs.YtdhjmmnjapkmkaaGreat
end

section
set_option linter.unusedVariables false
set_option linter.unusedSimpArgs false

namespace Go.Proofs.YtdhjmmnjapkmkaaGreat
open Go.RowKit
set_option linter.unusedVariables false
set_option linter.unusedSimpArgs false
theorem n_contains {L : List Nat} (hL : L.length ≤ 1048576) (k : Nat) : m_slices_Contains_Lint_int (castL L) (k : Int) = some (L.contains k) := by
 have hl := castL_len L
 unfold m_slices_Contains_Lint_int m_slices_Index_Lint_int
 rw [Lp_search (s0 := 0) (s := 0) (n := L.length) (fun i => bif decide ((k : Int) = (castL L)[i]?.getD 0) then some (i : Int) else none) rfl (by omega) (Nat.zero_le _) (fun i _ hi => ?_) (fun _ => ?_)]
 ·rw [Option.bind_some]
  cases e : (List.range' 0 (L.length - 0)).findSome? (fun i : Nat => bif decide ((k : Int) = (castL L)[i]?.getD 0) then some (i : Int) else none) with
  | none =>
   rw [List.findSome?_eq_none_iff] at e
   have : L.contains k = false := by
    rw [Bool.eq_false_iff]
    intro hc
    have hm : k ∈ L := by simpa using hc
    obtain ⟨j, hj, e2⟩ := List.mem_iff_getElem.1 hm
    have := e j (by simp; omega)
    have hg : (castL L)[j]?.getD 0 = (k : Int) := by simp [castL, hj, e2]
    rw [hg, decide_eq_true rfl] at this
    cases this
   rw [this]; rfl
  | some i =>
   obtain ⟨j, hj, he⟩ := List.exists_of_findSome?_eq_some e
   simp at hj
   have hjl : j < L.length := by omega
   have hg : (castL L)[j]?.getD 0 = ((L[j] : Nat) : Int) := by simp [castL, hjl]
   rw [hg] at he
   by_cases c : (k : Int) = ((L[j] : Nat) : Int)
   ·rw [decide_eq_true c] at he
    cases he
    have : L.contains k = true := by
     have : k = L[j] := by omega
     rw [this]; simp
    rw [this]
    show (Option.bind (some ((j : Nat) : Int)) fun v1 => some (decide (0 ≤ v1))) = some true
    rw [Option.bind_some, decide_eq_true (by omega)]
   ·rw [decide_eq_false c] at he; cases he
 ·unfold m_slices_Index_Lint_int_L1
  rw [hl, dlt hi, cond_true, atG 0 (by omega), Option.bind_some]
  cases decide ((k : Int) = (castL L)[i]?.getD 0) <;> rfl
 ·unfold m_slices_Index_Lint_int_L1
  rw [hl, dnl (Nat.le_refl _), cond_false]
theorem free_succ (L : List Nat) (k : Nat) : freeL (k + 1) L = freeL k L ++ if L.contains k = true then [] else [k] := by
 unfold freeL
 rw [List.range_succ, List.filter_append]
 congr 1
 cases h : L.contains k <;> simp at h <;> simp [h]
theorem freeL_le (n : Nat) (L : List Nat) : (freeL n L).length ≤ n := by
 have := List.length_filter_le (fun k => !L.contains k) (List.range n)
 simpa [freeL] using this
theorem freeL_lt {n k : Nat} {L : List Nat} (h : k ∈ freeL n L) : k < n := List.mem_range.1 (List.mem_filter.1 h).1
theorem n_freeCols {n : Nat} {L : List Nat} (hn : n ≤ 1048576) (hL : L.length ≤ 1048576) : m_impl_freeColumns (n : Int) (castL L) = some (castL (freeL n L)) := by
 unfold m_impl_freeColumns
 rw [Lp_go (s := (([] : List Int), (0 : Int))) (r := castL (freeL n L)) (fun k => (castL (freeL k L), (k : Int))) n rfl (fun k hk => ?_) (fun _ => ?_), Option.bind_some]
 ·have h1 := freeL_le k L
  unfold m_impl_freeColumns_L1
  simp only
  rw [dlt hk, cond_true, n_contains hL, Option.bind_some, free_succ, wr_suc hk (by omega)]
  cases hc : L.contains k
  ·rw [Bool.not_false, cond_true, decide_eq_true (by rw [castL_len]; simp; omega), cond_true]
   simp [castL]
  ·rw [Bool.not_true, cond_false]
   simp
 ·unfold m_impl_freeColumns_L1
  simp only
  rw [dnl (Nat.le_refl _), cond_false]
theorem n_rows {r c : Nat} (hN : r * c ≤ 1048576) (hr : r ≤ 1048576) (hc : c ≤ 1048576) (F : Nat → Nat → Int) : m_impl_Matrix_rows ⟨r, c, tabM r c F⟩ = some ((List.range r).map fun i => rowL c (F i)) := by
 unfold m_impl_Matrix_rows
 rw [Lp_go (s := (([] : List (List Int)), (0 : Int))) (r := (List.range r).map fun i => rowL c (F i)) (fun k => ((List.range k).map fun i => rowL c (F i), (k : Int))) r rfl (fun k hk => ?_) (fun _ => ?_), Option.bind_some]
 ·unfold m_impl_Matrix_rows_L1
  simp only
  rw [dlt hk, cond_true, n_rowD hN hr hk, Option.bind_some]
  unfold m_Clone
  rw [decide_eq_true (by simp [rowL]; omega), cond_true, Option.bind_some, decide_eq_true (by simp; omega), cond_true, wr_suc hk (by omega), snoc_map (f := fun i => rowL c (F i))]
 ·unfold m_impl_Matrix_rows_L1
  simp only
  rw [dnl (Nat.le_refl _), cond_false]
def unitE (a b : Rp) (x : Nat) : Nat → Nat → Int := fun i y => if off (lE a b) i + y = x then 1 else 0
def shpE (a b : Rp) (x : Nat) : List Mt := (List.range a.q.src.length).map fun i => (⟨dN b (tV a i), dN a (sV a i), (List.range (lE a b i)).map (unitE a b x i)⟩ : Mt)
theorem unit_cat {a b : Rp} {x : Nat} (hx : x < nE a b) : (List.replicate (nE a b) (0 : Int)).set x 1 = cat (lE a b) (unitE a b x) a.q.src.length := by
 refine cat_ext (by simp [nE]) fun i y hi hy => ?_
 have := off_lt (l := lE a b) hi hy
 rw [List.getElem?_set]
 by_cases c : x = off (lE a b) i + y
 ·rw [if_pos c]
  have : x < (List.replicate (nE a b) (0 : Int)).length := by simpa using hx
  rw [if_pos this]
  unfold unitE
  rw [if_pos c.symm]
 ·rw [if_neg c, List.getElem?_replicate, if_pos (by unfold nE; omega)]
  unfold unitE
  rw [if_neg fun h => c h.symm]
theorem n_implShape {a b : Rp} (h : Fit a b) {x : Nat} (hx : x < nE a b) : (Option.bind (m_impl_cocycleZeros a b) fun v11 => m_impl_shaped v11 ((List.replicate (nE a b) (0 : Int)).set x 1)) = some (shpE a b x) := by
 have hE := h.offE (Nat.le_refl _)
 have e6 := h.ra.e6
 rw [n_cocycleZeros h, Option.bind_some, unit_cat hx]
 exact n_shaped (r := fun i => (dN b (tV a i) : Int)) (c := fun i => (dN a (sV a i) : Int)) (z := fun i => tabM (dN b (tV a i)) (dN a (sV a i)) fun _ _ => 0) (l := lE a b) (by omega) (by omega) (fun v _ => by rw [tabM_len]; rfl)
theorem n_l19Cut {a b : Rp} (h : Fit a b) {x : Nat} (hx : x < nE a b) : m_spec_l19Cut a b ((List.replicate (nE a b) (0 : Int)).set x 1) = some (shpE a b x) := by
 have hE := h.offE (Nat.le_refl _)
 have e6 := h.ra.e6
 have ml := h.ra.ml
 rw [unit_cat hx]
 unfold m_spec_l19Cut
 rw [Lp_go (s := (([] : List Mt), (0 : Int), (0 : Int))) (r := shpE a b x) (fun k => ((List.range k).map fun i => (⟨dN b (tV a i), dN a (sV a i), (List.range (lE a b i)).map (unitE a b x i)⟩ : Mt), ((off (lE a b) k : Nat) : Int), (k : Int))) a.q.src.length rfl (fun k hk => ?_) (fun _ => ?_), Option.bind_some]
 ·obtain ⟨s1, s2⟩ := h.ra.s k hk
  obtain ⟨t1, t2⟩ := h.ra.t k hk
  have t3 : tV a k < b.dims.length := by rw [h.ne]; exact t2
  have tl := h.ra.tl
  have h1 := @off_le (lE a b) (k + 1) a.q.src.length hk
  have e : off (lE a b) (k + 1) = off (lE a b) k + lE a b k := rfl
  have hl := h.lE hk
  have hw : wr ((dN b (tV a k) : Int) * (dN a (sV a k) : Int)) = ((lE a b k : Nat) : Int) := by
   have : ((dN b (tV a k) : Int) * (dN a (sV a k) : Int)) = ((lE a b k : Nat) : Int) := by unfold lE; rw [Int.natCast_mul]
   rw [this, wr_sm (by omega)]
  unfold m_spec_l19Cut_L1
  simp only
  rw [ml, dlt hk, cond_true, atG 0 (by omega), Option.bind_some, t1, atG 0 t3, Option.bind_some, atG 0 hk, Option.bind_some, s1, atG 0 s2, Option.bind_some, (h.ra.d _ s2).1, (h.rb.d _ t3).1, hw]
  rw [show wr (((off (lE a b) k : Nat) : Int) + ((lE a b k : Nat) : Int)) = ((off (lE a b) (k + 1) : Nat) : Int) by rw [wr_sm (by omega)]; omega]
  rw [cat_len, show (decide ((0 : Int) ≤ ((off (lE a b) k : Nat) : Int)) && (decide (((off (lE a b) k : Nat) : Int) ≤ ((off (lE a b) (k + 1) : Nat) : Int)) && decide (((off (lE a b) (k + 1) : Nat) : Int) ≤ ((off (lE a b) a.q.src.length : Nat) : Int)))) = true by simp; omega, cond_true]
  have e2 : ((cat (lE a b) (unitE a b x) a.q.src.length).drop ((off (lE a b) k : Nat) : Int).toNat).take (((off (lE a b) (k + 1) : Nat) : Int).toNat - ((off (lE a b) k : Nat) : Int).toNat) = (List.range (lE a b k)).map (unitE a b x k) := by
   rw [Int.toNat_natCast, Int.toNat_natCast, e, Nat.add_sub_cancel_left]
   exact cat_take hk
  rw [e2, decide_eq_true (by simp; omega), cond_true, decide_eq_true (by simp; omega), cond_true, wr_suc hk (by omega), List.nil_append, snoc_map (f := fun i => (⟨dN b (tV a i), dN a (sV a i), (List.range (lE a b i)).map (unitE a b x i)⟩ : Mt))]
 ·unfold m_spec_l19Cut_L1
  simp only
  rw [ml, dnl (Nat.le_refl _), cond_false]
  rfl
def mT (a b : Rp) : Nat → Nat → Int := fun i k => mE a b k i
theorem tb_mT {a b : Rp} (h : Fit a b) : Tb a.p (nV a b) (nE a b) (mT a b) := by
 have bV : nV a b ≤ 80 := h.offV (Nat.le_refl _)
 have bE : nE a b ≤ 96 := h.offE (Nat.le_refl _)
 have hm := Nat.mul_le_mul bV bE
 exact ⟨h.ra.hp, by omega, by omega, by omega, fun i j hi hj => mE_in h j i hj hi⟩
def fE (a b : Rp) : List Nat := freeL (nE a b) (redUp a.p (nV a b) (mT a b) (nE a b)).2
def bE (a b : Rp) : List (List Mt) × Bool := bif fitV a b then ((fE a b).map (shpE a b), true) else ([], false)
theorem n_implExt {a b : Rp} (ha : bR a) (hb : bR b) : m_impl_ExtBasis a b = some (bE a b) := by
 unfold m_impl_ExtBasis bE
 rw [n_fit ha hb, Option.bind_some]
 change (bif !(fitV a b) then _ else _) = _
 cases hf : fitV a b with
 | false => rfl
 | true =>
  have h := fitV_fit hf
  have bV : nV a b ≤ 80 := h.offV (Nat.le_refl _)
  have hE : nE a b ≤ 96 := h.offE (Nat.le_refl _)
  have hm := Nat.mul_le_mul hE bV
  have hm2 := Nat.mul_le_mul bV hE
  have hred := redUp_len' (p := a.p) (m := nV a b) (F := mT a b) (nE a b)
  rw [Bool.not_true, cond_false, cond_true, n_boundaries h, Option.bind_some, n_rows (by omega) (by omega) (by omega), Option.bind_some]
  have e0 := n_fromColumns (R := nV a b) (N := nE a b) (by omega) (by omega) (by omega) (mT a b)
  change m_impl_fromColumns ((nV a b : Nat) : Int) ((List.range (nE a b)).map fun i => rowL (nV a b) (mE a b i)) = _ at e0
  simp only
  rw [e0, Option.bind_some, n_implReduce (tb_mT h), Option.bind_some]
  simp only
  rw [n_freeCols (by omega) (by omega), Option.bind_some]
  have hfl := freeL_le (nE a b) (redUp a.p (nV a b) (mT a b) (nE a b)).2
  change (Option.bind (Lp (m_impl_ExtBasis_L1 a b _ (castL (fE a b))) ([], 0)) fun y15 => some (y15, true)) = _
  rw [Lp_go (s := (([] : List (List Mt)), (0 : Int))) (r := (fE a b).map (shpE a b)) (fun k => (((fE a b).take k).map (shpE a b), (k : Int))) (fE a b).length rfl (fun k hk => ?_) (fun _ => ?_), Option.bind_some]
  ·have hx : (fE a b)[k] < nE a b := freeL_lt (List.getElem_mem hk)
   have hfe : (fE a b).length ≤ nE a b := hfl
   unfold m_impl_ExtBasis_L1
   simp only
   rw [castL_len, dlt hk, cond_true, castL_at hk, Option.bind_some, List.getElem?_eq_getElem hk, Option.getD_some, decide_eq_true (by omega), decide_eq_true (by omega), Bool.and_self, cond_true, Int.toNat_natCast, atG 0 (by simpa using hx), Option.bind_some, Int.toNat_natCast]
   have := n_implShape h hx
   obtain ⟨z, hz1, hz2⟩ : ∃ z, m_impl_cocycleZeros a b = some z ∧ m_impl_shaped z ((List.replicate (nE a b) (0 : Int)).set (fE a b)[k] 1) = some (shpE a b (fE a b)[k]) := by
    cases hz : m_impl_cocycleZeros a b with
    | none => rw [hz] at this; cases this
    | some z => rw [hz] at this; exact ⟨z, rfl, this⟩
   rw [hz1, Option.bind_some, hz2, Option.bind_some, decide_eq_true (by simp; omega), cond_true, wr_suc hk (by omega), List.take_succ_eq_append_getElem hk, List.map_append]
   rfl
  ·unfold m_impl_ExtBasis_L1
   simp only
   rw [castL_len, dnl (Nat.le_refl _), cond_false, List.take_length]
theorem n_specExt {a b : Rp} (ha : bR a) (hb : bR b) : m_spec_ExtBasis a b = some (bE a b) := by
 unfold m_spec_ExtBasis bE
 rw [n_l9Fit ha hb, Option.bind_some]
 change (bif !(fitV a b) then _ else _) = _
 cases hf : fitV a b with
 | false => rfl
 | true =>
  have h := fitV_fit hf
  have bV : nV a b ≤ 80 := h.offV (Nat.le_refl _)
  have hE : nE a b ≤ 96 := h.offE (Nat.le_refl _)
  have hm2 := Nat.mul_le_mul bV hE
  have hred := redUp_len' (p := a.p) (m := nV a b) (F := mT a b) (nE a b)
  rw [Bool.not_true, cond_false, cond_true, n_l11Equations h, Option.bind_some, n_l3Transpose (by omega) (by omega) (by omega), Option.bind_some]
  change (Option.bind (m_spec_l4Reduce a.p ⟨nV a b, nE a b, tabM (nV a b) (nE a b) (mT a b)⟩) fun v5 => _) = _
  rw [n_specReduce (tb_mT h), Option.bind_some]
  generalize hL : (redUp a.p (nV a b) (mT a b) (nE a b)).2 = L at *
  have hfE : fE a b = freeL (nE a b) L := by unfold fE; rw [hL]
  rw [Lp_go (s := ((0 : Int), ([] : List (List Mt)))) (r := (fE a b).map (shpE a b)) (fun k => ((k : Int), (freeL k L).map (shpE a b))) (nE a b) rfl (fun k hk => ?_) (fun _ => ?_), Option.bind_some]
  ·have hfl := freeL_le k L
   unfold m_spec_ExtBasis_L1
   simp only
   rw [dlt hk, cond_true, n_l4Has (by omega), Option.bind_some, free_succ]
   cases hc : L.contains k
   ·rw [cond_false, decide_eq_true (by omega), decide_eq_true (by omega), Bool.and_self, cond_true, Int.toNat_natCast, atG 0 (by simpa using hk), Option.bind_some, Int.toNat_natCast, n_l19Cut h hk, Option.bind_some, decide_eq_true (by simp; omega), cond_true, wr_suc hk (by omega)]
    simp
   ·rw [cond_true, wr_suc hk (by omega)]
    simp
  ·unfold m_spec_ExtBasis_L1
   simp only
   rw [dnl (Nat.le_refl _), cond_false, hfE]
theorem n_implClone {r : Rp} (h : bR r) : m_impl_Rep_clone r = some r := by
 obtain ⟨⟨h1, h2, _⟩, h3, ⟨h4, h5⟩, _⟩ := h
 unfold bI at h1 h2 h3
 have hc : m_impl_copyMatrices r.maps = some r.maps := by
  unfold m_impl_copyMatrices
  rw [Lp_go (s := (([] : List Mt), (0 : Int))) (r := r.maps) (fun k => (r.maps.take k, (k : Int))) r.maps.length rfl (fun k hk => ?_) (fun _ => ?_), Option.bind_some]
  ·have := (h5 _ (List.getElem_mem hk)).1
   unfold bI at this
   unfold m_impl_copyMatrices_L1
   simp only
   rw [dlt hk, cond_true, atL_nat hk, Option.bind_some]
   unfold m_impl_Matrix_clone m_Clone
   rw [decide_eq_true this, cond_true, Option.bind_some, Option.bind_some, decide_eq_true (by simp; omega), cond_true, wr_suc hk (by omega), List.take_succ_eq_append_getElem hk]
  ·unfold m_impl_copyMatrices_L1
   simp only
   rw [dnl (Nat.le_refl _), cond_false, List.take_length]
 unfold m_impl_Rep_clone m_impl_Quiver_clone m_Clone
 rw [decide_eq_true h1, decide_eq_true h2, decide_eq_true h3, hc]
 rfl
theorem n_l8Copy {r : Rp} (h : bR r) : m_spec_l8Copy r = some r := by
 obtain ⟨hq, h3, ⟨h4, h5⟩, _⟩ := h
 unfold bI at h3
 unfold m_spec_l8Copy
 rw [n_l6Copy hq, Option.bind_some, decide_eq_true (by simp; omega), cond_true]
 rw [Lp_go (s := (([] : List Mt), (0 : Int))) (r := r.maps) (fun k => (r.maps.take k, (k : Int))) r.maps.length rfl (fun k hk => ?_) (fun _ => ?_), Option.bind_some, List.nil_append]
 ·have := (h5 _ (List.getElem_mem hk)).1
  unfold bI at this
  unfold m_spec_l8Copy_L1
  simp only
  rw [dlt hk, cond_true, atL_nat hk, Option.bind_some]
  unfold m_spec_l3Copy
  rw [decide_eq_true (by simp; omega), cond_true, Option.bind_some, decide_eq_true (by simp; omega), cond_true, wr_suc hk (by omega), List.take_succ_eq_append_getElem hk, List.nil_append]
 ·unfold m_spec_l8Copy_L1
  simp only
  rw [dnl (Nat.le_refl _), cond_false, List.take_length]
def noCl : Cl := ⟨0, ⟨0, ⟨0, [], []⟩, [], []⟩, ⟨0, ⟨0, [], []⟩, [], []⟩, [], [], [], [], []⟩
def extV (a b : Rp) : Cl × Bool := match (bE a b).1 with
 | [] => (noCl, false)
 | l :: _ => (⟨4, a, b, [], l, [], [], []⟩, true)
theorem n_implCl {a b : Rp} (ha : bR a) (hb : bR b) : m_impl_ClaimOfExtension a b = some (extV a b) := by
 unfold m_impl_ClaimOfExtension extV
 rw [n_implExt ha hb, Option.bind_some]
 cases hl : (bE a b).1 with
 | nil => rfl
 | cons l r =>
  rw [decide_eq_false (by simp only [List.length_cons]; omega), cond_false, show atL (l :: r) 0 = some l from rfl, Option.bind_some, n_implClone ha, Option.bind_some, n_implClone hb, Option.bind_some]
theorem n_specCl {a b : Rp} (ha : bR a) (hb : bR b) : m_spec_ClaimOfExtension a b = some (extV a b) := by
 unfold m_spec_ClaimOfExtension extV
 rw [n_specExt ha hb, Option.bind_some]
 cases hl : (bE a b).1 with
 | nil =>
  cases (bE a b).2 <;> rfl
 | cons l r =>
  have h2 : (bE a b).2 = true := by
   unfold bE at hl ⊢
   cases hf : fitV a b with
   | false => rw [hf] at hl; cases hl
   | true => rfl
  rw [h2, Bool.not_true, cond_false, decide_eq_false (by simp only [List.length_cons]; omega), cond_false, show atL (l :: r) 0 = some l from rfl, Option.bind_some, n_l8Copy ha, Option.bind_some, n_l8Copy hb, Option.bind_some]
structure Cl4 (c : Cl) : Prop where
 rep : bR c.rep
 other : bR c.other
 parts : c.parts = []
 maps : c.maps.length ≤ 1048576 ∧ ∀ m ∈ c.maps, bM m
 bars : c.bars = []
 theta : c.theta = []
 subs : c.subs = []
theorem shpE_b {a b : Rp} (h : Fit a b) (x : Nat) : (shpE a b x).length ≤ 1048576 ∧ ∀ m ∈ shpE a b x, bM m := by
 have e6 := h.ra.e6
 refine ⟨by simp [shpE]; omega, fun m hm => ?_⟩
 obtain ⟨i, hi, rfl⟩ := List.mem_map.1 hm
 have := h.lE (List.mem_range.1 hi)
 exact ⟨by simp [bI]; omega, trivial⟩
theorem extV_ok {a b : Rp} (ha : bR a) (hb : bR b) : Cl4 (extV a b).1 := by
 unfold extV
 cases hl : (bE a b).1 with
 | nil => exact ⟨noRep_b, noRep_b, rfl, ⟨by simp [noCl], by simp [noCl]⟩, rfl, rfl, rfl⟩
 | cons l r =>
  refine ⟨ha, hb, rfl, ?_, rfl, rfl, rfl⟩
  unfold bE at hl
  cases hf : fitV a b with
  | false => rw [hf] at hl; cases hl
  | true =>
   rw [hf, cond_true] at hl
   simp only at hl
   cases hfe : fE a b with
   | nil => rw [hfe] at hl; cases hl
   | cons k ks =>
    rw [hfe, List.map_cons] at hl
    cases hl
    exact shpE_b (fitV_fit hf) k
theorem eqRs_nil : m_laws_eqRepS [] [] = some true := by
 unfold m_laws_eqRepS
 rw [decide_eq_true rfl, Bool.not_true, cond_false, Lp_stop (r := .inl ()) (by unfold m_laws_eqRepS_L1; rfl)]
 rfl
theorem eqBs_nil : m_laws_eqBarS [] [] = some true := by
 unfold m_laws_eqBarS
 rw [decide_eq_true rfl, Bool.not_true, cond_false, Lp_stop (r := .inl ()) (by unfold m_laws_eqBarS_L1; rfl)]
 rfl
theorem eqIs_nil : m_laws_eqIntS [] [] = some true := by
 unfold m_laws_eqIntS
 rw [decide_eq_true rfl, Bool.not_true, cond_false, Lp_stop (r := .inl ()) (by unfold m_laws_eqIntS_L1; rfl)]
 rfl
theorem eqSs_nil : m_laws_eqSpaceS [] [] = some true := by
 unfold m_laws_eqSpaceS
 rw [decide_eq_true rfl, Bool.not_true, cond_false, Lp_stop (r := .inl ()) (by unfold m_laws_eqSpaceS_L1; rfl)]
 rfl
theorem me_Cl {c : Cl} (h : Cl4 c) : m_laws_eqClaim c c = some true := by
 unfold m_laws_eqClaim
 rw [decide_eq_true rfl, Bool.not_true, cond_false, me_R h.rep, Option.bind_some, decide_eq_true rfl, Bool.not_true, cond_false, me_R h.other, Option.bind_some, decide_eq_true rfl, Bool.not_true, cond_false, h.parts, h.bars, h.theta, h.subs, eqRs_nil, Option.bind_some, Bool.not_true, cond_false, me_Ms h.maps, Option.bind_some, decide_eq_true rfl, Bool.not_true, cond_false, eqBs_nil, Option.bind_some, Bool.not_true, cond_false, eqIs_nil, Option.bind_some, Bool.not_true, cond_false, eqSs_nil, Option.bind_some, Bool.not_true, cond_false]
theorem mkRs_nil (k : Int) : m_laws_markRepS [] k = some ([], k) := by
 unfold m_laws_markRepS
 rw [Lp_stop (r := ([], k)) (by unfold m_laws_markRepS_L1; rfl)]
 rfl
theorem mkBs_nil (k : Int) : m_laws_markBarS [] k = some ([], k) := by
 unfold m_laws_markBarS
 rw [Lp_stop (r := ([], k)) (by unfold m_laws_markBarS_L1; rfl)]
 rfl
theorem mkIs_nil (k : Int) : m_laws_markIntS [] k = some ([], k) := by
 unfold m_laws_markIntS
 rw [Lp_stop (r := ([], k)) (by unfold m_laws_markIntS_L1; rfl)]
 rfl
theorem mkSs_nil (k : Int) : m_laws_markSpaceS [] k = some ([], k) := by
 unfold m_laws_markSpaceS
 rw [Lp_stop (r := ([], k)) (by unfold m_laws_markSpaceS_L1; rfl)]
 rfl
theorem hdRs_nil (k : Int) : m_laws_heldRepS [] k = some k := by
 unfold m_laws_heldRepS
 rw [Lp_stop (r := .inl k) (by unfold m_laws_heldRepS_L1; rfl)]
 rfl
theorem hdBs_nil (k : Int) : m_laws_heldBarS [] k = some k := by
 unfold m_laws_heldBarS
 rw [Lp_stop (r := .inl k) (by unfold m_laws_heldBarS_L1; rfl)]
 rfl
theorem hdIs_nil (k : Int) : m_laws_heldIntS [] k = some k := by
 unfold m_laws_heldIntS
 rw [Lp_stop (r := .inl k) (by unfold m_laws_heldIntS_L1; rfl)]
 rfl
theorem hdSs_nil (k : Int) : m_laws_heldSpaceS [] k = some k := by
 unfold m_laws_heldSpaceS
 rw [Lp_stop (r := .inl k) (by unfold m_laws_heldSpaceS_L1; rfl)]
 rfl
def kC (c : Cl) : Int := 1 + nR c.rep + nR c.other + nMs c.maps
def mvC (c : Cl) : Cl := ⟨c.kind, mvR 1 c.rep, mvR (1 + nR c.rep) c.other, [], mvMs (1 + nR c.rep + nR c.other) c.maps, [], [], []⟩
theorem mm_Cl {c : Cl} (h : Cl4 c) : m_laws_markClaim c 1 = some ((mvC c).rep.q.src, (mvC c).rep.q.tgt, (mvC c).rep.dims, (mvC c).rep.maps, (mvC c).other.q.src, (mvC c).other.q.tgt, (mvC c).other.dims, (mvC c).other.maps, [], (mvC c).maps, [], [], [], kC c) := by
 have b1 := nR_bd h.rep
 have b2 := nR_bd h.other
 have b3 := nMs_bd h.maps
 have l1 := h.rep.2.2.1.1
 have l2 := h.other.2.2.1.1
 obtain ⟨g1, g2, g3, g4⟩ := mvR_len 1 c.rep
 obtain ⟨k1, k2, k3, k4⟩ := mvR_len (1 + nR c.rep) c.other
 unfold m_laws_markClaim
 rw [mm_R (by omega) (by omega) (by omega), Option.bind_some]
 simp only [g1, g2, g3, g4, decide_true, cond_true]
 rw [mm_R (by omega) (by omega) (by omega), Option.bind_some]
 simp only [k1, k2, k3, k4, decide_true, cond_true]
 rw [h.parts, h.bars, h.theta, h.subs, mkRs_nil, Option.bind_some]
 simp only [decide_true, cond_true]
 rw [mm_Ms (by omega) (by omega) (by have := h.maps.1; omega), Option.bind_some]
 simp only [mvMs_len, decide_true, cond_true]
 rw [mkBs_nil, Option.bind_some]
 simp only [decide_true, cond_true]
 rw [mkIs_nil, Option.bind_some]
 simp only [decide_true, cond_true]
 rw [mkSs_nil, Option.bind_some]
 simp only [decide_true, cond_true]
 rfl
theorem mh_Cl {c : Cl} (h : Cl4 c) : m_laws_heldClaim (mvC c) 1 = some (kC c) := by
 have b1 := nR_bd h.rep
 have b2 := nR_bd h.other
 have b3 := nMs_bd h.maps
 have l1 := h.rep.2.2.1.1
 have l2 := h.other.2.2.1.1
 have l3 := h.maps.1
 unfold m_laws_heldClaim mvC
 simp only
 rw [mh_R (by omega) (by omega) (by omega), Option.bind_some, decide_eq_false (by omega), cond_false, mh_R (by omega) (by omega) (by omega), Option.bind_some, decide_eq_false (by omega), cond_false, hdRs_nil, Option.bind_some, decide_eq_false (by omega), cond_false, mh_Ms (by omega) (by omega) (by omega), Option.bind_some, decide_eq_false (by omega), cond_false, hdBs_nil, Option.bind_some, decide_eq_false (by omega), cond_false, hdIs_nil, Option.bind_some, decide_eq_false (by omega), cond_false, hdSs_nil, Option.bind_some, decide_eq_false (by omega), cond_false]
 rfl
theorem plain_ClaimOfExtension {a b : Rp} (fa : fR a) (fb : fR b) : m_laws_FnExactClaimOfExtension a b = some true := by
 unfold m_laws_FnExactClaimOfExtension
 rw [mz_R fa (by decide) (by decide), Option.bind_some]
 rcases falls_R a 1048576 (by decide) (by decide) with e | ⟨e1, e2, ha⟩
 ·rw [e]; rfl
 ·rw [decide_eq_false (by omega), cond_false, mz_R fb e1 (by omega), Option.bind_some]
  rcases falls_R b _ e1 (by omega) with e | ⟨e3, e4, hb⟩
  ·rw [e]; rfl
  ·rw [decide_eq_false (by omega), cond_false]
   have hC := extV_ok ha hb
   have n1 := nR_bd ha
   have n2 := nR_bd hb
   have l1 := ha.2.2.1.1
   have l2 := hb.2.2.1.1
   obtain ⟨g1, g2, g3, g4⟩ := mvR_len 1 a
   obtain ⟨k1, k2, k3, k4⟩ := mvR_len (1 + nR a) b
   simp only [mt_R ha, mt_R hb, Option.bind_some, n_specCl ha hb, n_implCl ha hb, me_Cl hC, Bool.not_true, cond_false, beq_self_eq_true, me_R ha, me_R hb, decide_true]
   generalize hc : (extV a b).1 = c at *
   rw [mm_R (by omega) (by omega) (by omega), Option.bind_some]
   simp only [g1, g2, g3, g4, decide_true, cond_true]
   rw [mm_R (by omega) (by omega) (by omega), Option.bind_some]
   simp only [k1, k2, k3, k4, decide_true, cond_true]
   rw [decide_eq_false (by omega), cond_false, mm_Cl hC, Option.bind_some]
   obtain ⟨p1, p2, p3, p4⟩ := mvR_len 1 c.rep
   obtain ⟨q1, q2, q3, q4⟩ := mvR_len (1 + nR c.rep) c.other
   have hk : decide (kC c < 0) = false := decide_eq_false (by unfold kC; omega)
   have hh := mh_Cl hC
   unfold mvC at hh ⊢
   simp only at hh ⊢
   simp only [p1, p2, p3, p4, q1, q2, q3, q4, hC.parts, hC.bars, hC.theta, hC.subs, mvMs_len, decide_true, cond_true, List.length_nil]
   have e0 : (⟨c.kind, ⟨c.rep.p, ⟨c.rep.q.n, (mvR 1 c.rep).q.src, (mvR 1 c.rep).q.tgt⟩, (mvR 1 c.rep).dims, (mvR 1 c.rep).maps⟩, ⟨c.other.p, ⟨c.other.q.n, (mvR (1 + nR c.rep) c.other).q.src, (mvR (1 + nR c.rep) c.other).q.tgt⟩, (mvR (1 + nR c.rep) c.other).dims, (mvR (1 + nR c.rep) c.other).maps⟩, [], mvMs (1 + nR c.rep + nR c.other) c.maps, [], [], []⟩ : Cl) = ⟨c.kind, mvR 1 c.rep, mvR (1 + nR c.rep) c.other, [], mvMs (1 + nR c.rep + nR c.other) c.maps, [], [], []⟩ := rfl
   simp only [e0, hh, Option.bind_some, hk, cond_false, decide_true, Bool.not_true]
end Go.Proofs.YtdhjmmnjapkmkaaGreat
end

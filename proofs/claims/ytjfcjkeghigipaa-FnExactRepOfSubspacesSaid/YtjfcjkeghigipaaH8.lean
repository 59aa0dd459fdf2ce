/-
  Several texts of the claim in one: each begins with its own remark.
-/
import Derived.Test.YtjfcjkeghigipaaH7
section
set_option linter.unusedVariables false
set_option linter.unusedSimpArgs false
/-
  Models and contracts of functions, made by the extractor (ex.py).
-/
namespace Go.Proofs.Ytjfcjkeghigipaa
open Go.RowKit
set_option linter.unusedVariables false
set_option linter.unusedSimpArgs false
set_option maxRecDepth 10000
set_option maxHeartbeats 4000000

noncomputable def m_spec_StarOf_L1 (a0 : Int) (x1 : ((List Int) × (List Int) × Int)) : Option (((List Int) × (List Int) × Int) ⊕ ((List Int) × (List Int))) :=
  bif decide (x1.2.2 < a0) then
    (bif decide (x1.1.length + [x1.2.2].length ≤ 4294967296) then
      (bif decide (x1.2.1.length + [a0].length ≤ 4294967296) then
        (some (.inl ((x1.1 ++ [x1.2.2]), (x1.2.1 ++ [a0]), wr (x1.2.2 + 1))))
      else none)
    else none)
  else
    (some (.inr (x1.1, x1.2.1)))

noncomputable def m_spec_StarOf (a0 : Int) : Option (Qv × Bool) :=
  Option.bind (m_spec_l1In a0 1 4) fun v1 =>
  bif !v1 then
    (some (((⟨0, [], []⟩ : Qv), false)))
  else
    (Option.bind (Lp (m_spec_StarOf_L1 a0) (([] : (List Int)), ([] : (List Int)), 0)) fun y6 =>
    some (((⟨wr (a0 + 1), y6.1, y6.2⟩ : Qv), true)))

theorem c_spec_StarOf (a0 : Int) (r : (Qv × Bool)) (h : m_spec_StarOf a0 = some r) : HasC Try.prog 47 [.int a0] (.tuple [.agg (eQ r.1), .bl r.2]) := by
 refine hasC_mk TT_ok (rvs := [.cell 2 30, .tmp 3]) (ns := [0, 1, 2, 3, 4, 5, 6, 7, 8, 9]) Try.func47 k k Try.ntmps47 k k k <| sQ <| rg <| ae (w_alloc TT_ok k k) k <| ae (eff_assign k) k <| an <| tn <| sQ <| sQ <| rg ?_
 refine ae (eff_move k) k ?_
 obtain ⟨v1, hv1, h⟩ := ob h
 refine ae (w_call0s (c_spec_l1In a0 1 4 v1 hv1) k (va_cons (va_same k) (va_cons (va_same k) (va_cons (va_same k) va_nil)))) k <| ae (w_not k) k <| an <| tn ?_
 rcases cb h with ⟨q2, h⟩ | ⟨q2, h⟩
 ·refine ac_condT k q2 <| sQ <| rg <| ae (w_build TT_ok k k k k k k) k <| ae (w_store TT_ok k k k k k k k k) k <| ae (eff_assign k) k <| an <| tn <| ac_ret <| then_ret ?_
  obtain rfl := so h
  exact ret_mk k k k (xz_tuple k (xB_cons (xB_agg (x1_cons (k) (x1_cons (k) (x1_cons (k) x1_nil)))) (xB_cons (k) xB_nil)))
 ·refine ac_condF k q2 <| ac_skip <| tn <| sQ <| rg <| ae (eff_move k) k <| ae (x_add k k) k <| ae (w_lit TT_ok k k k k k k k k k k k k) k <| ae (w_lit TT_ok k k k k k k k k k k k k) k <| ae (w_build TT_ok k k k k k k) k ?_
  refine ae (w_alloc TT_ok k k) k <| ae (w_store TT_ok k k k k k k k k) k <| an <| tn <| ac_ent (t := mkS [(0, .int a0), (2, .ptr 0 0 0), (4, .ptr 3 0 0)] [(0, ⟨3, [[.int 0, .nil 1, .nil 1]]⟩), (1, ⟨1, List.map (ow eI) ([] : (List Int))⟩), (2, ⟨1, List.map (ow eI) ([] : (List Int))⟩), (3, ⟨3, [[.int (wr (a0 + 1)), .own 1 0 (([] : (List Int)).length), .own 2 0 (([] : (List Int)).length)]]⟩)] 4 [4, 5, 6, 7, 8, 9]) (ent_mk (σ := sg [(0, 0), (1, 1), (2, 2), (3, 3)]) ⟨(e1 k k), ⟨_, k, ⟨k, k, k, k⟩⟩, ⟨_, k, ⟨k, k, k, k⟩⟩, trivial⟩ ⟨⟨_, k, k, .inl ⟨k, plain_of k⟩⟩, k, ⟨_, k, k, .inl ⟨k, okI.plainO _⟩⟩, k, ⟨_, k, k, .inl ⟨k, okI.plainO _⟩⟩, k, ⟨_, k, k, .inr ⟨_, _, k, ⟨_, _, k, k, ⟨_, _, k, ⟨k, k, (by simp only [len_map, List.length_append, List.length_set, List.length_replicate, List.length_cons, List.length_nil]), k⟩, ⟨_, _, k, ⟨k, k, (by simp only [len_map, List.length_append, List.length_set, List.length_replicate, List.length_cons, List.length_nil]), k⟩, k⟩⟩⟩, k⟩⟩, k, trivial⟩ k) <| sQ <| sQ <| rg <| ae (eff_assign k) k <| an ?_
  refine tn <| ac_block ?_
  obtain ⟨y6, hy6, h⟩ := ob h
  refine ac_Lp (body := (m_spec_StarOf_L1 a0)) hy6 (fun (x1 : ((List Int) × (List Int) × Int)) => mkS [(0, .int a0), (2, .ptr 0 0 0), (4, .ptr 1 0 0), (5, .int x1.2.2)] [(0, ⟨3, [[.int 0, .nil 1, .nil 1]]⟩), (1, ⟨3, [[.int (wr (a0 + 1)), .own 2 0 x1.1.length, .own 3 0 x1.2.1.length]]⟩), (2, ⟨1, List.map (ow eI) x1.1⟩), (3, ⟨1, List.map (ow eI) x1.2.1⟩)] 4 [4, 5, 6, 7, 8, 9]) (fun r e t => e = .exit 0 ∧ Ent t (mkS [(2, .ptr 0 0 0), (4, .ptr 1 0 0)] [(0, ⟨3, [[.int 0, .nil 1, .nil 1]]⟩), (1, ⟨3, [[.int (wr (a0 + 1)), .own 2 0 r.1.length, .own 3 0 r.2.length]]⟩), (2, ⟨1, List.map (ow eI) r.1⟩), (3, ⟨1, List.map (ow eI) r.2⟩)] 4 [4, 5, 6, 7, 8, 9])) (ent_mk (σ := sg [(0, 0), (1, 3), (2, 1), (3, 2)]) ⟨(e1 k k), ⟨_, k, ⟨k, k, k, k⟩⟩, ⟨_, k, ⟨k, k, k, k⟩⟩, (e1 k k), trivial⟩ ⟨⟨_, k, k, .inl ⟨k, plain_of k⟩⟩, k, ⟨_, k, k, .inr ⟨_, _, k, ⟨_, _, k, k, ⟨_, _, k, ⟨k, k, k, k⟩, ⟨_, _, k, ⟨k, k, k, k⟩, k⟩⟩⟩, k⟩⟩, k, ⟨_, k, k, .inl ⟨k, okI.plainO _⟩⟩, k, ⟨_, k, k, .inl ⟨k, okI.plainO _⟩⟩, k, trivial⟩ k) ?_ ?_
  ·intro x1 o h
   refine sQ <| sQ <| rg <| ae (eff_move k) k <| ae (eff_move k) k <| ae (w_cmp k k k) k <| an <| tn ?_
   rcases cb h with ⟨q3, h⟩ | ⟨q3, h⟩
   ·refine ac_condT k q3 <| ac_skip <| tn <| sQ <| ac_block <| sQ <| rg <| ae (w_field_ptr TT_ok k k k k k k k) k <| ae (w_load_ptr TT_ok k k k k k k k) k <| ae (eff_move k) k ?_
    refine ae (w_lit TT_ok k k k k k k k k k k k k) k ?_
    obtain ⟨q4, h⟩ := cg h
    refine ae (x_app TT_ok (l := x1.1) (m := [x1.2.2]) okIo q4 k k k k k k k k k k k k) k <| ae (w_field_ptr TT_ok k k k k k k k) k <| ae (w_store TT_ok k k k k k k k k) k <| an <| tn <| rg <| ae (w_field_ptr TT_ok k k k k k k k) k <| ae (w_load_ptr TT_ok k k k k k k k) k <| ae (eff_move k) k <| ae (w_lit TT_ok k k k k k k k k k k k k) k ?_
    obtain ⟨q5, h⟩ := cg h
    refine ae (x_app TT_ok (l := x1.2.1) (m := [a0]) okIo q5 k k k k k k k k k k k k) k <| ae (w_field_ptr TT_ok k k k k k k k) k <| ae (w_store TT_ok k k k k k k k k) k <| an <| block_n <| tn <| ac_ent (t := mkS [(0, .int a0), (2, .ptr 0 0 0), (4, .ptr 1 0 0), (5, .int x1.2.2)] [(0, ⟨3, [[.int 0, .nil 1, .nil 1]]⟩), (1, ⟨3, [[.int (wr (a0 + 1)), .own 5 0 ((x1.1 ++ [x1.2.2]).length), .own 7 0 ((x1.2.1 ++ [a0]).length)]]⟩), (5, ⟨1, List.map (ow eI) (x1.1 ++ [x1.2.2])⟩), (7, ⟨1, List.map (ow eI) (x1.2.1 ++ [a0])⟩)] 8 [8, 9]) (ent_mk (σ := sg [(0, 0), (1, 1), (5, 5), (7, 7)]) ⟨(e1 k k), ⟨_, k, ⟨k, k, k, k⟩⟩, ⟨_, k, ⟨k, k, k, k⟩⟩, (e1 k k), trivial⟩ ⟨⟨_, k, k, .inl ⟨k, plain_of k⟩⟩, k, ⟨_, k, k, .inr ⟨_, _, k, ⟨_, _, k, k, ⟨_, _, k, ⟨k, k, k, k⟩, ⟨_, _, k, ⟨k, k, k, k⟩, k⟩⟩⟩, k⟩⟩, k, ⟨_, k, k, .inl ⟨k, okI.plainO _⟩⟩, k, ⟨_, k, k, .inl ⟨k, okI.plainO _⟩⟩, k, trivial⟩ k) <| rg <| ae (eff_move k) k <| ae (x_add k k) k ?_
    refine ae (eff_assign k) k <| an <| tn ?_
    obtain rfl := so h
    exact ⟨_, k, (ent_mk (σ := sg [(0, 0), (1, 1), (2, 5), (3, 7)]) ⟨(e1 k k), ⟨_, k, ⟨k, k, k, k⟩⟩, ⟨_, k, ⟨k, k, k, k⟩⟩, (e1 k k), trivial⟩ ⟨⟨_, k, k, .inl ⟨k, plain_of k⟩⟩, k, ⟨_, k, k, .inr ⟨_, _, k, ⟨_, _, k, k, ⟨_, _, k, ⟨k, k, k, k⟩, ⟨_, _, k, ⟨k, k, k, k⟩, k⟩⟩⟩, k⟩⟩, k, ⟨_, k, k, .inl ⟨k, okI.plainO _⟩⟩, k, ⟨_, k, k, .inl ⟨k, okI.plainO _⟩⟩, k, trivial⟩ k)⟩
   ·refine ac_condF k q3 <| ac_exit <| then_exit <| then_exit ?_
    obtain rfl := so h
    exact ⟨_, k, k, (ent_mk (σ := sg [(0, 0), (1, 1), (2, 2), (3, 3)]) ⟨⟨_, k, ⟨k, k, k, k⟩⟩, ⟨_, k, ⟨k, k, k, k⟩⟩, trivial⟩ ⟨⟨_, k, k, .inl ⟨k, plain_of k⟩⟩, k, ⟨_, k, k, .inr ⟨_, _, k, ⟨_, _, k, k, ⟨_, _, k, ⟨k, k, k, k⟩, ⟨_, _, k, ⟨k, k, k, k⟩, k⟩⟩⟩, k⟩⟩, k, ⟨_, k, k, .inl ⟨k, okI.plainO _⟩⟩, k, ⟨_, k, k, .inl ⟨k, okI.plainO _⟩⟩, k, trivial⟩ k)⟩
  ·rintro e t ⟨rfl, hent⟩
   refine block_here <| tn <| ac_ent hent <| sQ <| rg <| ae (w_load_ptr TT_ok k k k k k k k) k <| ae (w_store TT_ok k k k k k k k k) k <| ae (eff_assign k) k <| an <| tn ?_
   refine ac_ret ?_
   obtain rfl := so h
   exact ret_mk k k k (xz_tuple k (xB_cons (xB_agg (x1_cons (k) (x1_cons (x_f1 okI k k) (x1_cons (x_f1 okI k k) x1_nil)))) (xB_cons (k) xB_nil)))

noncomputable def m_impl_StarOf_L1 (a0 : Int) (x1 : ((List Int) × (List Int) × Int)) : Option (((List Int) × (List Int) × Int) ⊕ ((List Int) × (List Int))) :=
  bif decide (x1.2.2 < a0) then
    (bif decide (x1.1.length + [x1.2.2].length ≤ 4294967296) then
      (bif decide (x1.2.1.length + [a0].length ≤ 4294967296) then
        (some (.inl ((x1.1 ++ [x1.2.2]), (x1.2.1 ++ [a0]), wr (x1.2.2 + 1))))
      else none)
    else none)
  else
    (some (.inr (x1.1, x1.2.1)))

noncomputable def m_impl_StarOf (a0 : Int) : Option (Qv × Bool) :=
  Option.bind (m_impl_within a0 1 4) fun v1 =>
  bif !v1 then
    (some (((⟨0, [], []⟩ : Qv), false)))
  else
    (Option.bind (Lp (m_impl_StarOf_L1 a0) ([], [], 0)) fun y6 =>
    some (((⟨wr (a0 + 1), y6.1, y6.2⟩ : Qv), true)))

theorem c_impl_StarOf (a0 : Int) (r : (Qv × Bool)) (h : m_impl_StarOf a0 = some r) : HasC Try.prog 51 [.int a0] (.tuple [.agg (eQ r.1), .bl r.2]) := by
 refine hasC_mk TT_ok (rvs := [.cell 2 30, .tmp 3]) (ns := [0, 1, 2, 3, 4, 5, 6, 7, 8, 9]) Try.func51 k k Try.ntmps51 k k k <| sQ <| rg <| ae (w_alloc TT_ok k k) k <| ae (eff_assign k) k <| an <| tn <| sQ <| sQ <| rg ?_
 refine ae (eff_move k) k ?_
 obtain ⟨v1, hv1, h⟩ := ob h
 refine ae (w_call0s (c_impl_within a0 1 4 v1 hv1) k (va_cons (va_same k) (va_cons (va_same k) (va_cons (va_same k) va_nil)))) k <| ae (w_not k) k <| an <| tn ?_
 rcases cb h with ⟨q2, h⟩ | ⟨q2, h⟩
 ·refine ac_condT k q2 <| sQ <| rg <| ae (w_build TT_ok k k k k k k) k <| ae (w_store TT_ok k k k k k k k k) k <| ae (eff_assign k) k <| an <| tn <| ac_ret <| then_ret ?_
  obtain rfl := so h
  exact ret_mk k k k (xz_tuple k (xB_cons (xB_agg (x1_cons (k) (x1_cons (k) (x1_cons (k) x1_nil)))) (xB_cons (k) xB_nil)))
 ·refine ac_condF k q2 <| ac_skip <| tn <| sQ <| rg <| ae (eff_move k) k <| ae (x_add k k) k <| ae (w_build TT_ok k k k k k k) k <| ae (w_alloc TT_ok k k) k <| ae (w_store TT_ok k k k k k k k k) k ?_
  refine an <| tn <| sQ <| sQ <| rg <| ae (eff_move k) k <| ae (eff_move k) k <| an <| tn <| ac_ent (t := mkS [(0, .int a0), (2, .ptr 0 0 0), (4, .ptr 1 0 0), (13, .int a0), (14, .int 0)] [(0, ⟨3, [[.int 0, .nil 1, .nil 1]]⟩), (1, ⟨3, [[.int (wr (a0 + 1)), .nil 1, .nil 1]]⟩)] 2 [2, 3, 4, 5, 6, 7, 8, 9]) (ent_mk (σ := sg [(0, 0), (1, 1)]) ⟨(e1 k k), ⟨_, k, ⟨k, k, k, k⟩⟩, ⟨_, k, ⟨k, k, k, k⟩⟩, (e1 k k), (e1 k k), trivial⟩ ⟨⟨_, k, k, .inl ⟨k, plain_of k⟩⟩, k, ⟨_, k, k, .inl ⟨k, plain_of k⟩⟩, k, trivial⟩ k) ?_
  refine ac_block ?_
  obtain ⟨y6, hy6, h⟩ := ob h
  refine ac_Lp (body := (m_impl_StarOf_L1 a0)) hy6 (fun (x1 : ((List Int) × (List Int) × Int)) => mkS [(0, .int a0), (2, .ptr 0 0 0), (4, .ptr 1 0 0), (13, .int a0), (14, .int x1.2.2)] [(0, ⟨3, [[.int 0, .nil 1, .nil 1]]⟩), (1, ⟨3, [[.int (wr (a0 + 1)), .own 2 0 x1.1.length, .own 3 0 x1.2.1.length]]⟩), (2, ⟨1, List.map (ow eI) x1.1⟩), (3, ⟨1, List.map (ow eI) x1.2.1⟩)] 4 [4, 5, 6, 7, 8, 9]) (fun r e t => e = .exit 0 ∧ Ent t (mkS [(2, .ptr 0 0 0), (4, .ptr 1 0 0)] [(0, ⟨3, [[.int 0, .nil 1, .nil 1]]⟩), (1, ⟨3, [[.int (wr (a0 + 1)), .own 2 0 r.1.length, .own 3 0 r.2.length]]⟩), (2, ⟨1, List.map (ow eI) r.1⟩), (3, ⟨1, List.map (ow eI) r.2⟩)] 4 [4, 5, 6, 7, 8, 9])) (ent_mk (σ := sg [(0, 0), (1, 1)]) ⟨(e1 k k), ⟨_, k, ⟨k, k, k, k⟩⟩, ⟨_, k, ⟨k, k, k, k⟩⟩, (e1 k k), (e1 k k), trivial⟩ ⟨⟨_, k, k, .inl ⟨k, plain_of k⟩⟩, k, ⟨_, k, k, .inr ⟨_, _, k, ⟨_, _, k, k, ⟨_, _, k, ⟨k, k, k, k⟩, ⟨_, _, k, ⟨k, k, k, k⟩, k⟩⟩⟩, k⟩⟩, k, k, k, k, k, trivial⟩ k) ?_ ?_
  ·intro x1 o h
   refine sQ <| rg <| ae (w_cmp k k k) k <| an <| tn <| sQ ?_
   rcases cb h with ⟨q3, h⟩ | ⟨q3, h⟩
   ·refine ac_condT k q3 <| ac_skip <| tn <| sQ <| ac_block <| sQ <| rg <| ae (eff_move k) k <| ae (eff_assign k) k <| an ?_
    refine tn <| sQ <| rg <| ae (w_field_ptr TT_ok k k k k k k k) k <| ae (w_load_ptr TT_ok k k k k k k k) k <| ae (eff_move k) k <| ae (w_lit TT_ok k k k k k k k k k k k k) k ?_
    obtain ⟨q4, h⟩ := cg h
    refine ae (x_app TT_ok (l := x1.1) (m := [x1.2.2]) okIo q4 k k k k k k k k k k k k) k <| ae (w_field_ptr TT_ok k k k k k k k) k <| ae (w_store TT_ok k k k k k k k k) k <| an <| tn <| rg <| ae (w_field_ptr TT_ok k k k k k k k) k <| ae (w_load_ptr TT_ok k k k k k k k) k <| ae (eff_move k) k <| ae (w_lit TT_ok k k k k k k k k k k k k) k ?_
    obtain ⟨q5, h⟩ := cg h
    refine ae (x_app TT_ok (l := x1.2.1) (m := [a0]) okIo q5 k k k k k k k k k k k k) k <| ae (w_field_ptr TT_ok k k k k k k k) k <| ae (w_store TT_ok k k k k k k k k) k <| an <| block_n <| tn <| ac_ent (t := mkS [(0, .int a0), (2, .ptr 0 0 0), (4, .ptr 1 0 0), (13, .int a0), (14, .int x1.2.2)] [(0, ⟨3, [[.int 0, .nil 1, .nil 1]]⟩), (1, ⟨3, [[.int (wr (a0 + 1)), .own 5 0 ((x1.1 ++ [x1.2.2]).length), .own 7 0 ((x1.2.1 ++ [a0]).length)]]⟩), (5, ⟨1, List.map (ow eI) (x1.1 ++ [x1.2.2])⟩), (7, ⟨1, List.map (ow eI) (x1.2.1 ++ [a0])⟩)] 8 [8, 9]) (ent_mk (σ := sg [(0, 0), (1, 1), (5, 5), (7, 7)]) ⟨(e1 k k), ⟨_, k, ⟨k, k, k, k⟩⟩, ⟨_, k, ⟨k, k, k, k⟩⟩, (e1 k k), (e1 k k), trivial⟩ ⟨⟨_, k, k, .inl ⟨k, plain_of k⟩⟩, k, ⟨_, k, k, .inr ⟨_, _, k, ⟨_, _, k, k, ⟨_, _, k, ⟨k, k, k, k⟩, ⟨_, _, k, ⟨k, k, k, k⟩, k⟩⟩⟩, k⟩⟩, k, ⟨_, k, k, .inl ⟨k, okI.plainO _⟩⟩, k, ⟨_, k, k, .inl ⟨k, okI.plainO _⟩⟩, k, trivial⟩ k) <| rg <| ae (x_add k k) k <| ae (eff_move k) k ?_
    refine an <| tn ?_
    obtain rfl := so h
    exact ⟨_, k, (ent_mk (σ := sg [(0, 0), (1, 1), (2, 5), (3, 7)]) ⟨(e1 k k), ⟨_, k, ⟨k, k, k, k⟩⟩, ⟨_, k, ⟨k, k, k, k⟩⟩, (e1 k k), (e1 k k), trivial⟩ ⟨⟨_, k, k, .inl ⟨k, plain_of k⟩⟩, k, ⟨_, k, k, .inr ⟨_, _, k, ⟨_, _, k, k, ⟨_, _, k, ⟨k, k, k, k⟩, ⟨_, _, k, ⟨k, k, k, k⟩, k⟩⟩⟩, k⟩⟩, k, ⟨_, k, k, .inl ⟨k, okI.plainO _⟩⟩, k, ⟨_, k, k, .inl ⟨k, okI.plainO _⟩⟩, k, trivial⟩ k)⟩
   ·refine ac_condF k q3 <| ac_exit <| then_exit <| then_exit ?_
    obtain rfl := so h
    exact ⟨_, k, k, (ent_mk (σ := sg [(0, 0), (1, 1), (2, 2), (3, 3)]) ⟨⟨_, k, ⟨k, k, k, k⟩⟩, ⟨_, k, ⟨k, k, k, k⟩⟩, trivial⟩ ⟨⟨_, k, k, .inl ⟨k, plain_of k⟩⟩, k, ⟨_, k, k, .inr ⟨_, _, k, ⟨_, _, k, k, ⟨_, _, k, ⟨k, k, k, k⟩, ⟨_, _, k, ⟨k, k, k, k⟩, k⟩⟩⟩, k⟩⟩, k, ⟨_, k, k, .inl ⟨k, okI.plainO _⟩⟩, k, ⟨_, k, k, .inl ⟨k, okI.plainO _⟩⟩, k, trivial⟩ k)⟩
  ·rintro e t ⟨rfl, hent⟩
   refine block_here <| tn <| ac_ent hent <| sQ <| rg <| ae (w_load_ptr TT_ok k k k k k k k) k <| ae (w_store TT_ok k k k k k k k k) k <| ae (eff_assign k) k <| an <| tn ?_
   refine ac_ret ?_
   obtain rfl := so h
   exact ret_mk k k k (xz_tuple k (xB_cons (xB_agg (x1_cons (k) (x1_cons (x_f1 okI k k) (x1_cons (x_f1 okI k k) x1_nil)))) (xB_cons (k) xB_nil)))

noncomputable def m_impl_fromRows (a0 : Int) (a1 : (List (List Int))) : Option Mt :=
  Option.bind (m_slices_Concat_Lint_int a1) fun v1 =>
  some ((⟨(a1.length : Int), a0, v1⟩ : Mt))

theorem c_impl_fromRows (a0 : Int) (a1 : (List (List Int))) (r : Mt) (h : m_impl_fromRows a0 a1 = some r) : HasC Try.prog 142 [.int a0, .list 1 (List.map (eLs 1 eI) a1)] (.agg (eM r)) := by
 refine hasC_mk TT_ok (rvs := [.cell 4 81]) (ns := [0, 1, 2, 3]) Try.func142 k k Try.ntmps142 k k k <| sQ <| rg <| ae (w_alloc TT_ok k k) k <| an <| tn <| sQ <| rg <| ae (eff_move k) k <| ae (AEff.val (w_len_list TT_ok k k k) (v' := .int (a1.length : Int)) (by first | rw [len_map] | rw [encI_len])) k ?_
 refine ae (eff_move k) k <| ae (eff_move k) k ?_
 obtain ⟨v1, hv1, h⟩ := ob h
 refine ae (AEff.conv (w_call0 (x := .own 1 0 (List.map eI v1).length) (nb := [(1, ⟨1, absEs (List.map eI v1)⟩)]) (c_slices_Concat_Lint_int a1 v1 hv1) k (by rfl) k k (okI.good _) (va_cons (va_same k) va_nil)) (v' := .own 1 0 v1.length) (ed' := [(1, some ⟨1, List.map (ow eI) v1⟩)]) (by simp only [len_map]) (ed_ok (nb' := [(1, ⟨1, List.map (ow eI) v1⟩)]) (by simp only [abs_map]))) k <| ae (w_build TT_ok k k k k k k) k <| ae (w_store TT_ok k k k k k k k k) k <| an <| tn <| ac_ret ?_
 obtain rfl := so h
 exact ret_mk k k k (xz_agg (x1_cons (k) (x1_cons (k) (x1_cons (x_f1 okI k k) x1_nil))))

noncomputable def m_impl_span_L1 (v2 : (Mt × (List Int))) (x1 : ((List (List Int)) × Int)) : Option (((List (List Int)) × Int) ⊕ (List (List Int))) :=
  bif decide (x1.2 < ((v2.2.length : Nat) : Int)) then
    (Option.bind (m_impl_Matrix_row v2.1 x1.2) fun v4 =>
    Option.bind (m_Clone ((v2.1.cells.drop (0 + (wr (x1.2 * v2.1.cols)).toNat)).take ((wr ((wr (x1.2 + 1)) * v2.1.cols)).toNat - (wr (x1.2 * v2.1.cols)).toNat))) fun v5 =>
    bif decide (x1.1.length + 1 ≤ 4294967296) then
      (some (.inl ((x1.1 ++ [v5]), wr (x1.2 + 1))))
    else none)
  else
    (some (.inr x1.1))

noncomputable def m_impl_span (a0 : Int) (a1 : Int) (a2 : (List (List Int))) : Option Sc :=
  Option.bind (m_impl_fromRows a1 a2) fun v1 =>
  Option.bind (m_impl_reduce a0 v1) fun v2 =>
  Option.bind (Lp (m_impl_span_L1 v2) ([], 0)) fun y7 =>
  some ((⟨a1, y7⟩ : Sc))

theorem c_impl_span (a0 : Int) (a1 : Int) (a2 : (List (List Int))) (r : Sc) (h : m_impl_span a0 a1 a2 = some r) : HasC Try.prog 103 [.int a0, .int a1, .list 1 (List.map (eLs 1 eI) a2)] (.agg (eS r)) := by
 refine hasC_mk TT_ok (rvs := [.cell 6 78]) (ns := [0, 1, 2, 3, 4, 5, 6, 7, 8]) Try.func103 k k Try.ntmps103 k k k <| sQ <| rg <| ae (w_alloc TT_ok k k) k <| an <| tn <| sQ <| rg <| ae (eff_move k) k <| ae (eff_move k) k ?_
 refine ae (eff_move k) k ?_
 obtain ⟨v1, hv1, h⟩ := ob h
 refine ae (AEff.conv (w_call0 (x := .agg [.int v1.rows, .int v1.cols, .own 1 0 (List.map eI v1.cells).length]) (nb := [(1, ⟨1, absEs (List.map eI v1.cells)⟩)]) (c_impl_fromRows a1 a2 v1 hv1) k (by rfl) k k (g1_cons trivial (g1_cons trivial (g1_cons (okI.good _) g1_nil))) (va_cons (va_same k) (va_cons (va_same k) va_nil))) (v' := .agg [.int v1.rows, .int v1.cols, .own 1 0 v1.cells.length]) (ed' := [(1, some ⟨1, List.map (ow eI) v1.cells⟩)]) (by simp only [len_map]) (ed_ok (nb' := [(1, ⟨1, List.map (ow eI) v1.cells⟩)]) (by simp only [abs_map]))) k ?_
 obtain ⟨v2, hv2, h⟩ := ob h
 refine ae (AEff.conv (w_call0 (x := .tuple [.agg [.int v2.1.rows, .int v2.1.cols, .own 2 0 (List.map eI v2.1.cells).length], .own 3 0 (List.map eI v2.2).length]) (nb := [(2, ⟨1, absEs (List.map eI v2.1.cells)⟩), (3, ⟨1, absEs (List.map eI v2.2)⟩)]) (c_impl_reduce a0 v1 v2 hv2) k (by rfl) k k (gB_cons (g1_cons trivial (g1_cons trivial (g1_cons (okI.good _) g1_nil))) (gB_cons (okI.good _) gB_nil)) (va_cons (va_same k) (va_cons (va_agg' (v1_cons (v1_same k) (v1_cons (v1_same k) (v1_cons (v1_T okI k k) v1_nil)))) va_nil))) (v' := .tuple [.agg [.int v2.1.rows, .int v2.1.cols, .own 2 0 v2.1.cells.length], .own 3 0 v2.2.length]) (ed' := [(2, some ⟨1, List.map (ow eI) v2.1.cells⟩), (3, some ⟨1, List.map (ow eI) v2.2⟩)]) (by simp only [len_map]) (ed_ok (nb' := [(2, ⟨1, List.map (ow eI) v2.1.cells⟩), (3, ⟨1, List.map (ow eI) v2.2⟩)]) (by simp only [abs_map]))) k <| ae (eff_move k) k <| ae (eff_extract k k (by intro _ h; cases h)) k <| ae (eff_extract k k (by intro _ h; cases h)) k <| ae (w_alloc TT_ok k k) k <| ae (w_store TT_ok k k k k k k k k) k <| ae (eff_assign k) k <| an <| tn <| ac_ent (t := mkS [(1, .int a1), (6, .ptr 0 0 0), (7, .ptr 4 0 0), (8, .own 3 0 v2.2.length)] [(0, ⟨2, [[.int 0, .nil 1]]⟩), (2, ⟨1, List.map (ow eI) v2.1.cells⟩), (3, ⟨1, List.map (ow eI) v2.2⟩), (4, ⟨3, [[.int v2.1.rows, .int v2.1.cols, .own 2 0 v2.1.cells.length]]⟩)] 5 [5, 6, 7, 8]) (ent_mk (σ := sg [(0, 0), (2, 2), (3, 3), (4, 4)]) ⟨(e1 k k), ⟨_, k, ⟨k, k, k, k⟩⟩, ⟨_, k, ⟨k, k, k, k⟩⟩, ⟨_, k, ⟨k, k, k, k⟩⟩, trivial⟩ ⟨⟨_, k, k, .inl ⟨k, plain_of k⟩⟩, k, ⟨_, k, k, .inl ⟨k, okI.plainO _⟩⟩, k, ⟨_, k, k, .inl ⟨k, okI.plainO _⟩⟩, k, ⟨_, k, k, .inr ⟨_, _, k, ⟨_, _, k, k, ⟨_, _, k, k, ⟨_, _, k, ⟨k, k, k, k⟩, k⟩⟩⟩, k⟩⟩, k, trivial⟩ k) ?_
 refine sQ <| rg <| ae (eff_assign k) k <| an <| tn <| sQ <| sQ <| rg <| ae (eff_move k) k <| ae (w_len_own TT_ok k k k k) k ?_
 refine ae (eff_move k) k <| an <| tn <| ac_block ?_
 obtain ⟨y7, hy7, h⟩ := ob h
 refine ac_Lp (body := (m_impl_span_L1 v2)) hy7 (fun (x1 : ((List (List Int)) × Int)) => mkS [(1, .int a1), (6, .ptr 0 0 0), (7, .ptr 1 0 0), (9, .own 3 0 x1.1.length), (20, .int ((v2.2.length : Nat) : Int)), (21, .int x1.2)] [(0, ⟨2, [[.int 0, .nil 1]]⟩), (1, ⟨3, [[.int v2.1.rows, .int v2.1.cols, .own 2 0 v2.1.cells.length]]⟩), (2, ⟨1, List.map (ow eI) v2.1.cells⟩), (3, ⟨1, List.map (ow (eLs 1 eI)) x1.1⟩)] 4 [4, 5, 6, 7, 8]) (fun r e t => e = .exit 0 ∧ Ent t (mkS [(1, .int a1), (6, .ptr 0 0 0), (9, .own 1 0 r.length)] [(0, ⟨2, [[.int 0, .nil 1]]⟩), (1, ⟨1, List.map (ow (eLs 1 eI)) r⟩)] 2 [2, 3, 4, 5, 6, 7, 8])) (ent_mk (σ := sg [(0, 0), (1, 4), (2, 2)]) ⟨(e1 k k), ⟨_, k, ⟨k, k, k, k⟩⟩, ⟨_, k, ⟨k, k, k, k⟩⟩, ⟨_, k, ⟨k, k, k, k⟩⟩, (e1 k k), (e1 k k), trivial⟩ ⟨⟨_, k, k, .inl ⟨k, plain_of k⟩⟩, k, ⟨_, k, k, .inr ⟨_, _, k, ⟨_, _, k, k, ⟨_, _, k, k, ⟨_, _, k, ⟨k, k, k, k⟩, k⟩⟩⟩, k⟩⟩, k, ⟨_, k, k, .inl ⟨k, okI.plainO _⟩⟩, k, k, k, trivial⟩ k) ?_ ?_
 ·intro x1 o h
  refine sQ <| rg <| ae (w_cmp k k k) k <| an <| tn <| sQ ?_
  rcases cb h with ⟨q3, h⟩ | ⟨q3, h⟩
  ·refine ac_condT k q3 <| ac_skip <| tn <| sQ <| ac_block <| sQ <| rg <| ae (eff_move k) k <| ae (eff_assign k) k <| an ?_
   refine tn <| rg <| ae (eff_move k) k <| ae (w_load_ptr TT_ok k k k k k k k) k <| ae (eff_move k) k ?_
   obtain ⟨v4, hv4, h⟩ := ob h
   refine ae (AEff.pureE (eff_hasE (σ := sg [(0, 2)]) (σ' := sg [(2, 0)]) (touch := [2]) (news := []) (hl2 := [(2, ⟨1, List.map (ow eI) v2.1.cells⟩)]) (n' := 4) (r2 := .own 2 (0 + (wr (x1.2 * v2.1.cols)).toNat) ((wr ((wr (x1.2 + 1)) * v2.1.cols)).toNat - (wr (x1.2 * v2.1.cols)).toNat)) (c_impl_Matrix_row v2.1 x1.2 v4 hv4) k k ⟨_, _, k, ⟨_, _, k, k, ⟨_, _, k, k, ⟨_, _, k, ⟨k, k, k, k⟩, k⟩⟩⟩, ⟨_, _, k, k, k⟩⟩ ⟨⟨_, k, k, .inl ⟨k, okI.plainO _⟩⟩, k, trivial⟩ k k k ⟨⟨_, k, k, .inl ⟨k, okI.plainO _⟩⟩, k, trivial⟩ k ⟨k, k, (by simp only [len_map, List.length_append, List.length_set, List.length_replicate, List.length_cons, List.length_nil]), k⟩ k ⟨k, okI.tame _ _, trivial⟩ k k) ⟨k, k, trivial⟩) k ?_
   obtain ⟨v5, hv5, h⟩ := ob h
   refine ae (AEff.conv (w_call0 (x := .own 4 0 (List.map eI v5).length) (nb := [(4, ⟨1, absEs (List.map eI v5)⟩)]) (c_Clone ((v2.1.cells.drop (0 + (wr (x1.2 * v2.1.cols)).toNat)).take ((wr ((wr (x1.2 + 1)) * v2.1.cols)).toNat - (wr (x1.2 * v2.1.cols)).toNat)) v5 hv5) k (by rfl) k k (okI.good _) (va_cons (va_part okI k) va_nil)) (v' := .own 4 0 v5.length) (ed' := [(4, some ⟨1, List.map (ow eI) v5⟩)]) (by simp only [len_map]) (ed_ok (nb' := [(4, ⟨1, List.map (ow eI) v5⟩)]) (by simp only [abs_map]))) k <| ae (w_lit TT_ok k k k k k k k k k k k k) k ?_
   obtain ⟨q6, h⟩ := cg h
   refine ae (x_app1 TT_ok (l := x1.1) (c := [.own 4 0 v5.length]) q6 k k k k k k k k k k k k k k) k <| ae (eff_assign k) k <| an <| block_n <| tn <| ac_ent (t := mkS [(1, .int a1), (6, .ptr 0 0 0), (7, .ptr 1 0 0), (9, .own 6 0 ((x1.1 ++ [v5]).length)), (20, .int ((v2.2.length : Nat) : Int)), (21, .int x1.2)] [(0, ⟨2, [[.int 0, .nil 1]]⟩), (1, ⟨3, [[.int v2.1.rows, .int v2.1.cols, .own 2 0 v2.1.cells.length]]⟩), (2, ⟨1, List.map (ow eI) v2.1.cells⟩), (6, ⟨1, List.map (ow (eLs 1 eI)) (x1.1 ++ [v5])⟩)] 7 [7, 8]) (Ent.trans (ent_absL (b := 6) (b' := 4) (j := 0) (es' := List.map eI v5) k k k k (len_map _ _) (okI.frzs _)) (ent_mk (σ := sg [(0, 0), (1, 1), (2, 2), (6, 6)]) ⟨(e1 k k), ⟨_, k, ⟨k, k, k, k⟩⟩, ⟨_, k, ⟨k, k, k, k⟩⟩, ⟨_, k, ⟨k, k, (by simp only [len_map, List.length_append, List.length_set, List.length_replicate, List.length_cons, List.length_nil]), k⟩⟩, (e1 k k), (e1 k k), trivial⟩ ⟨⟨_, k, k, .inl ⟨k, plain_of k⟩⟩, k, ⟨_, k, k, .inr ⟨_, _, k, ⟨_, _, k, k, ⟨_, _, k, k, ⟨_, _, k, ⟨k, k, k, k⟩, k⟩⟩⟩, k⟩⟩, k, ⟨_, k, k, .inl ⟨k, okI.plainO _⟩⟩, k, ⟨_, k, k, .inl ⟨app_eq v5 k, okLs.plainO _⟩⟩, k, trivial⟩ k)) <| rg <| ae (x_add k k) k <| ae (eff_move k) k <| an ?_
   refine tn ?_
   obtain rfl := so h
   exact ⟨_, k, (ent_mk (σ := sg [(0, 0), (1, 1), (2, 2), (3, 6)]) ⟨(e1 k k), ⟨_, k, ⟨k, k, k, k⟩⟩, ⟨_, k, ⟨k, k, k, k⟩⟩, ⟨_, k, ⟨k, k, k, k⟩⟩, (e1 k k), (e1 k k), trivial⟩ ⟨⟨_, k, k, .inl ⟨k, plain_of k⟩⟩, k, ⟨_, k, k, .inr ⟨_, _, k, ⟨_, _, k, k, ⟨_, _, k, k, ⟨_, _, k, ⟨k, k, k, k⟩, k⟩⟩⟩, k⟩⟩, k, ⟨_, k, k, .inl ⟨k, okI.plainO _⟩⟩, k, ⟨_, k, k, .inl ⟨k, okLs.plainO _⟩⟩, k, trivial⟩ k)⟩
  ·refine ac_condF k q3 <| ac_exit <| then_exit <| then_exit ?_
   obtain rfl := so h
   exact ⟨_, k, k, (ent_mk (σ := sg [(0, 0), (1, 3)]) ⟨(e1 k k), ⟨_, k, ⟨k, k, k, k⟩⟩, ⟨_, k, ⟨k, k, k, k⟩⟩, trivial⟩ ⟨⟨_, k, k, .inl ⟨k, plain_of k⟩⟩, k, ⟨_, k, k, .inl ⟨k, okLs.plainO _⟩⟩, k, trivial⟩ k)⟩
 ·rintro e t ⟨rfl, hent⟩
  refine block_here <| tn <| ac_ent hent <| sQ <| rg <| ae (eff_move k) k <| ae (eff_move k) k <| ae (w_build TT_ok k k k k k k) k <| ae (w_store TT_ok k k k k k k k k) k <| an ?_
  refine tn <| ac_ret ?_
  obtain rfl := so h
  exact ret_mk k k k (xz_agg (x1_cons (k) (x1_cons (x_f1 okLs k k) x1_nil)))

noncomputable def m_spec_l5Rows_L1 (a1 : (List (List Int))) (x1 : ((List Int) × Int)) : Option (((List Int) × Int) ⊕ (List Int)) :=
  bif decide (x1.2 < (a1.length : Int)) then
    (Option.bind (atL a1 x1.2) fun v2 =>
    bif decide (x1.1.length + v2.length ≤ 4294967296) then
      (some (.inl ((x1.1 ++ v2), wr (x1.2 + 1))))
    else none)
  else
    (some (.inr x1.1))

noncomputable def m_spec_l5Rows (a0 : Int) (a1 : (List (List Int))) : Option Mt :=
  Option.bind (Lp (m_spec_l5Rows_L1 a1) ([], 0)) fun y4 =>
  some ((⟨(a1.length : Int), a0, y4⟩ : Mt))

theorem c_spec_l5Rows (a0 : Int) (a1 : (List (List Int))) (r : Mt) (h : m_spec_l5Rows a0 a1 = some r) : HasC Try.prog 74 [.int a0, .list 1 (List.map (eLs 1 eI) a1)] (.agg (eM r)) := by
 refine hasC_mk TT_ok (rvs := [.cell 4 81]) (ns := [0, 1, 2, 3, 4, 5]) Try.func74 k k Try.ntmps74 k k k <| sQ <| rg <| ae (w_alloc TT_ok k k) k <| an <| tn <| sQ <| rg <| ae (eff_move k) k <| ae (AEff.val (w_len_list TT_ok k k k) (v' := .int (a1.length : Int)) (by first | rw [len_map] | rw [encI_len])) k ?_
 refine ae (eff_move k) k <| ae (w_build TT_ok k k k k k k) k <| ae (w_alloc TT_ok k k) k <| ae (w_store TT_ok k k k k k k k k) k <| an <| tn <| sQ <| sQ <| rg <| ae (eff_assign k) k ?_
 refine an <| tn <| ac_block ?_
 obtain ⟨y4, hy4, h⟩ := ob h
 refine ac_Lp (body := (m_spec_l5Rows_L1 a1)) hy4 (fun (x1 : ((List Int) × Int)) => mkS [(1, .list 1 (List.map (eLs 1 eI) a1)), (4, .ptr 0 0 0), (5, .ptr 1 0 0), (6, .int x1.2)] [(0, ⟨3, [[.int 0, .int 0, .nil 1]]⟩), (1, ⟨3, [[.int (a1.length : Int), .int a0, .own 2 0 x1.1.length]]⟩), (2, ⟨1, List.map (ow eI) x1.1⟩)] 3 [3, 4, 5]) (fun r e t => e = .exit 0 ∧ Ent t (mkS [(4, .ptr 0 0 0), (5, .ptr 1 0 0)] [(0, ⟨3, [[.int 0, .int 0, .nil 1]]⟩), (1, ⟨3, [[.int (a1.length : Int), .int a0, .own 2 0 r.length]]⟩), (2, ⟨1, List.map (ow eI) r⟩)] 3 [3, 4, 5])) (ent_mk (σ := sg [(0, 0), (1, 1)]) ⟨⟨_, k, ⟨k, k⟩⟩, ⟨_, k, ⟨k, k, k, k⟩⟩, ⟨_, k, ⟨k, k, k, k⟩⟩, (e1 k k), trivial⟩ ⟨⟨_, k, k, .inl ⟨k, plain_of k⟩⟩, k, ⟨_, k, k, .inr ⟨_, _, k, ⟨_, _, k, k, ⟨_, _, k, k, ⟨_, _, k, ⟨k, k, k, k⟩, k⟩⟩⟩, k⟩⟩, k, k, k, trivial⟩ k) ?_ ?_
 ·intro x1 o h
  refine sQ <| sQ <| rg <| ae (eff_move k) k <| ae (eff_move k) k <| ae (AEff.val (w_len_list TT_ok k k k) (v' := .int (a1.length : Int)) (by first | rw [len_map] | rw [encI_len])) k <| ae (w_cmp k k k) k <| an <| tn ?_
  rcases cb h with ⟨q1, h⟩ | ⟨q1, h⟩
  ·refine ac_condT k q1 <| ac_skip <| tn <| sQ <| ac_block <| ac_region_draw MIXX <| ae (w_field_ptr TT_ok k k k k k k k) k <| ae (w_load_ptr TT_ok k k k k k k k) k <| ae (eff_move k) k <| ae (eff_move k) k ?_
   obtain ⟨v2, hv2, h⟩ := ob h
   refine ae (x_at_list TT_ok hv2 k k k k k k) k <| ae (w_load_ref TT_ok k k k k k k) k ?_
   obtain ⟨q3, h⟩ := cg h
   refine ae (x_app TT_ok (l := x1.1) (m := v2) okIo q3 k k k k k k k k k k k k) k <| ae (w_field_ptr TT_ok k k k k k k k) k <| ae (w_store TT_ok k k k k k k k k) k <| an ?_
   refine ⟨by kernel_rfl, ?_⟩
   refine block_n <| tn <| ac_ent (t := mkS [(1, .list 1 (List.map (eLs 1 eI) a1)), (4, .ptr 0 0 0), (5, .ptr 1 0 0), (6, .int x1.2)] [(0, ⟨3, [[.int 0, .int 0, .nil 1]]⟩), (1, ⟨3, [[.int (a1.length : Int), .int a0, .own 3 0 ((x1.1 ++ v2).length)]]⟩), (3, ⟨1, List.map (ow eI) (x1.1 ++ v2)⟩)] 4 [4, 5]) (ent_mk (σ := sg [(0, 0), (1, 1), (3, 3)]) ⟨⟨_, k, ⟨k, k⟩⟩, ⟨_, k, ⟨k, k, k, k⟩⟩, ⟨_, k, ⟨k, k, k, k⟩⟩, (e1 k k), trivial⟩ ⟨⟨_, k, k, .inl ⟨k, plain_of k⟩⟩, k, ⟨_, k, k, .inr ⟨_, _, k, ⟨_, _, k, k, ⟨_, _, k, k, ⟨_, _, k, ⟨k, k, k, k⟩, k⟩⟩⟩, k⟩⟩, k, ⟨_, k, k, .inl ⟨k, okI.plainO _⟩⟩, k, trivial⟩ k) <| rg <| ae (eff_move k) k <| ae (x_add k k) k <| ae (eff_assign k) k <| an <| tn ?_
   obtain rfl := so h
   exact ⟨_, k, (ent_mk (σ := sg [(0, 0), (1, 1), (2, 3)]) ⟨⟨_, k, ⟨k, k⟩⟩, ⟨_, k, ⟨k, k, k, k⟩⟩, ⟨_, k, ⟨k, k, k, k⟩⟩, (e1 k k), trivial⟩ ⟨⟨_, k, k, .inl ⟨k, plain_of k⟩⟩, k, ⟨_, k, k, .inr ⟨_, _, k, ⟨_, _, k, k, ⟨_, _, k, k, ⟨_, _, k, ⟨k, k, k, k⟩, k⟩⟩⟩, k⟩⟩, k, ⟨_, k, k, .inl ⟨k, okI.plainO _⟩⟩, k, trivial⟩ k)⟩
  ·refine ac_condF k q1 <| ac_exit <| then_exit <| then_exit ?_
   obtain rfl := so h
   exact ⟨_, k, k, (ent_mk (σ := sg [(0, 0), (1, 1), (2, 2)]) ⟨⟨_, k, ⟨k, k, k, k⟩⟩, ⟨_, k, ⟨k, k, k, k⟩⟩, trivial⟩ ⟨⟨_, k, k, .inl ⟨k, plain_of k⟩⟩, k, ⟨_, k, k, .inr ⟨_, _, k, ⟨_, _, k, k, ⟨_, _, k, k, ⟨_, _, k, ⟨k, k, k, k⟩, k⟩⟩⟩, k⟩⟩, k, ⟨_, k, k, .inl ⟨k, okI.plainO _⟩⟩, k, trivial⟩ k)⟩
 ·rintro e t ⟨rfl, hent⟩
  refine block_here <| tn <| ac_ent hent <| sQ <| rg <| ae (w_load_ptr TT_ok k k k k k k k) k <| ae (w_store TT_ok k k k k k k k k) k <| an <| tn <| ac_ret ?_
  obtain rfl := so h
  exact ret_mk k k k (xz_agg (x1_cons (k) (x1_cons (k) (x1_cons (x_f1 okI k k) x1_nil))))

noncomputable def m_spec_l5Basis_L1 (v1 : (Mt × (List Int))) (x1 : ((List (List Int)) × Int)) : Option (((List (List Int)) × Int) ⊕ (List (List Int))) :=
  bif decide (x1.2 < ((v1.2.length : Nat) : Int)) then
    (bif (decide (0 ≤ wr (x1.2 * v1.1.cols)) && (decide (wr (x1.2 * v1.1.cols) ≤ wr ((wr (x1.2 * v1.1.cols)) + v1.1.cols)) && decide (wr ((wr (x1.2 * v1.1.cols)) + v1.1.cols) ≤ ((v1.1.cells.length : Nat) : Int)))) then
      (bif decide (([] : (List Int)).length + ((v1.1.cells.drop (0 + (wr (x1.2 * v1.1.cols)).toNat)).take ((wr ((wr (x1.2 * v1.1.cols)) + v1.1.cols)).toNat - (wr (x1.2 * v1.1.cols)).toNat)).length ≤ 4294967296) then
        (bif decide (x1.1.length + 1 ≤ 4294967296) then
          (some (.inl ((x1.1 ++ [(([] : (List Int)) ++ ((v1.1.cells.drop (0 + (wr (x1.2 * v1.1.cols)).toNat)).take ((wr ((wr (x1.2 * v1.1.cols)) + v1.1.cols)).toNat - (wr (x1.2 * v1.1.cols)).toNat)))]), wr (x1.2 + 1))))
        else none)
      else none)
    else none)
  else
    (some (.inr x1.1))

noncomputable def m_spec_l5Basis (a0 : Int) (a1 : Mt) : Option (List (List Int)) :=
  Option.bind (m_spec_l4Reduce a0 a1) fun v1 =>
  Option.bind (Lp (m_spec_l5Basis_L1 v1) (([] : (List (List Int))), 0)) fun y6 =>
  some (y6)

theorem c_spec_l5Basis (a0 : Int) (a1 : Mt) (r : (List (List Int))) (h : m_spec_l5Basis a0 a1 = some r) : HasC Try.prog 101 [.int a0, .agg (eM a1)] (.list 1 (List.map (eLs 1 eI) r)) := by
 refine hasC_mk TT_ok (rvs := [.tmp 4]) (ns := [0, 1, 2, 3, 4, 5, 6, 7, 8, 9]) Try.func101 k k Try.ntmps101 k k k <| sQ <| rg <| ae (w_box k k k k) k <| ae (eff_assign k) k <| an <| tn <| sQ <| rg <| ae (eff_move k) k ?_
 refine ae (w_load_ptr TT_ok k k k k k k k) k ?_
 obtain ⟨v1, hv1, h⟩ := ob h
 refine ae (AEff.conv (w_call0 (x := .tuple [.agg [.int v1.1.rows, .int v1.1.cols, .own 1 0 (List.map eI v1.1.cells).length], .own 2 0 (List.map eI v1.2).length]) (nb := [(1, ⟨1, absEs (List.map eI v1.1.cells)⟩), (2, ⟨1, absEs (List.map eI v1.2)⟩)]) (c_spec_l4Reduce a0 a1 v1 hv1) k (by rfl) k k (gB_cons (g1_cons trivial (g1_cons trivial (g1_cons (okI.good _) g1_nil))) (gB_cons (okI.good _) gB_nil)) (va_cons (va_same k) (va_cons (va_agg' (v1_cons (v1_same k) (v1_cons (v1_same k) (v1_cons (v1_same k) v1_nil)))) va_nil))) (v' := .tuple [.agg [.int v1.1.rows, .int v1.1.cols, .own 1 0 v1.1.cells.length], .own 2 0 v1.2.length]) (ed' := [(1, some ⟨1, List.map (ow eI) v1.1.cells⟩), (2, some ⟨1, List.map (ow eI) v1.2⟩)]) (by simp only [len_map]) (ed_ok (nb' := [(1, ⟨1, List.map (ow eI) v1.1.cells⟩), (2, ⟨1, List.map (ow eI) v1.2⟩)]) (by simp only [abs_map]))) k <| ae (eff_move k) k <| ae (eff_extract k k (by intro _ h; cases h)) k <| ae (eff_extract k k (by intro _ h; cases h)) k <| ae (w_alloc TT_ok k k) k <| ae (w_store TT_ok k k k k k k k k) k <| ae (eff_assign k) k <| an <| tn <| sQ ?_
 refine rg <| ae (w_lit TT_ok k k k k k k k k k k k k) k <| ae (eff_assign k) k <| an <| tn <| ac_ent (t := mkS [(5, .ptr 3 0 0), (6, .own 2 0 v1.2.length), (7, .own 4 0 (([] : (List (List Int))).length))] [(1, ⟨1, List.map (ow eI) v1.1.cells⟩), (2, ⟨1, List.map (ow eI) v1.2⟩), (3, ⟨3, [[.int v1.1.rows, .int v1.1.cols, .own 1 0 v1.1.cells.length]]⟩), (4, ⟨1, List.map (ow (eLs 1 eI)) ([] : (List (List Int)))⟩)] 5 [5, 6, 7, 8, 9]) (ent_mk (σ := sg [(1, 1), (2, 2), (3, 3), (4, 4)]) ⟨⟨_, k, ⟨k, k, k, k⟩⟩, ⟨_, k, ⟨k, k, k, k⟩⟩, ⟨_, k, ⟨k, k, (by simp only [len_map, List.length_append, List.length_set, List.length_replicate, List.length_cons, List.length_nil]), k⟩⟩, trivial⟩ ⟨⟨_, k, k, .inl ⟨k, okI.plainO _⟩⟩, k, ⟨_, k, k, .inl ⟨k, okI.plainO _⟩⟩, k, ⟨_, k, k, .inr ⟨_, _, k, ⟨_, _, k, k, ⟨_, _, k, k, ⟨_, _, k, ⟨k, k, k, k⟩, k⟩⟩⟩, k⟩⟩, k, ⟨_, k, k, .inl ⟨k, okLs.plainO _⟩⟩, k, trivial⟩ k) <| sQ <| sQ <| rg <| ae (eff_assign k) k ?_
 refine an <| tn <| ac_block ?_
 obtain ⟨y6, hy6, h⟩ := ob h
 refine ac_Lp (body := (m_spec_l5Basis_L1 v1)) hy6 (fun (x1 : ((List (List Int)) × Int)) => mkS [(5, .ptr 0 0 0), (6, .own 2 0 v1.2.length), (7, .own 3 0 x1.1.length), (8, .int x1.2)] [(0, ⟨3, [[.int v1.1.rows, .int v1.1.cols, .own 1 0 v1.1.cells.length]]⟩), (1, ⟨1, List.map (ow eI) v1.1.cells⟩), (2, ⟨1, List.map (ow eI) v1.2⟩), (3, ⟨1, List.map (ow (eLs 1 eI)) x1.1⟩)] 4 [4, 5, 6, 7, 8, 9]) (fun r e t => e = .exit 0 ∧ Ent t (mkS [(7, .own 0 0 r.length)] [(0, ⟨1, List.map (ow (eLs 1 eI)) r⟩)] 1 [1, 2, 3, 4, 5, 6, 7, 8, 9])) (ent_mk (σ := sg [(0, 3), (1, 1), (2, 2), (3, 4)]) ⟨⟨_, k, ⟨k, k, k, k⟩⟩, ⟨_, k, ⟨k, k, k, k⟩⟩, ⟨_, k, ⟨k, k, k, k⟩⟩, (e1 k k), trivial⟩ ⟨⟨_, k, k, .inr ⟨_, _, k, ⟨_, _, k, k, ⟨_, _, k, k, ⟨_, _, k, ⟨k, k, k, k⟩, k⟩⟩⟩, k⟩⟩, k, ⟨_, k, k, .inl ⟨k, okI.plainO _⟩⟩, k, ⟨_, k, k, .inl ⟨k, okI.plainO _⟩⟩, k, ⟨_, k, k, .inl ⟨k, okLs.plainO _⟩⟩, k, trivial⟩ k) ?_ ?_
 ·intro x1 o h
  refine sQ <| sQ <| rg <| ae (eff_move k) k <| ae (eff_move k) k <| ae (w_len_own TT_ok k k k k) k <| ae (w_cmp k k k) k <| an <| tn ?_
  rcases cb h with ⟨q2, h⟩ | ⟨q2, h⟩
  ·refine ac_condT k q2 <| ac_skip <| tn <| sQ <| ac_block <| rg <| ae (eff_move k) k <| ae (w_lit TT_ok k k k k k k k k k k k k) k <| ae (w_field_ptr TT_ok k k k k k k k) k <| ae (w_load_ptr TT_ok k k k k k k k) k ?_
   refine ae (eff_move k) k <| ae (w_field_ptr TT_ok k k k k k k k) k <| ae (w_load_ptr TT_ok k k k k k k k) k <| ae (x_mul k k) k <| ae (eff_move k) k <| ae (w_field_ptr TT_ok k k k k k k k) k <| ae (w_load_ptr TT_ok k k k k k k k) k <| ae (x_mul k k) k <| ae (w_field_ptr TT_ok k k k k k k k) k <| ae (w_load_ptr TT_ok k k k k k k k) k ?_
   refine ae (x_add k k) k ?_
   obtain ⟨q3, h⟩ := cg h
   refine ae (x_slice_own TT_ok (l := wr (x1.2 * v1.1.cols)) (h := wr ((wr (x1.2 * v1.1.cols)) + v1.1.cols)) q3 k k k k k k k k) k ?_
   obtain ⟨q4, h⟩ := cg h
   refine ae (x_app TT_ok (l := ([] : (List Int))) (m := ((v1.1.cells.drop (0 + (wr (x1.2 * v1.1.cols)).toNat)).take ((wr ((wr (x1.2 * v1.1.cols)) + v1.1.cols)).toNat - (wr (x1.2 * v1.1.cols)).toNat))) okIo q4 k k k k k (x_srcP okI k) k k k k k k) k <| ae (w_lit TT_ok k k k k k k k k k k k k) k ?_
   obtain ⟨q5, h⟩ := cg h
   refine ae (x_app1 TT_ok (l := x1.1) (c := [.own 5 0 ((([] : (List Int)) ++ ((v1.1.cells.drop (0 + (wr (x1.2 * v1.1.cols)).toNat)).take ((wr ((wr (x1.2 * v1.1.cols)) + v1.1.cols)).toNat - (wr (x1.2 * v1.1.cols)).toNat))).length)]) q5 k k k k k k k k k k k k k k) k <| ae (eff_assign k) k <| an <| block_n <| tn <| ac_ent (t := mkS [(5, .ptr 0 0 0), (6, .own 2 0 v1.2.length), (7, .own 7 0 ((x1.1 ++ [(([] : (List Int)) ++ ((v1.1.cells.drop (0 + (wr (x1.2 * v1.1.cols)).toNat)).take ((wr ((wr (x1.2 * v1.1.cols)) + v1.1.cols)).toNat - (wr (x1.2 * v1.1.cols)).toNat)))]).length)), (8, .int x1.2)] [(0, ⟨3, [[.int v1.1.rows, .int v1.1.cols, .own 1 0 v1.1.cells.length]]⟩), (1, ⟨1, List.map (ow eI) v1.1.cells⟩), (2, ⟨1, List.map (ow eI) v1.2⟩), (7, ⟨1, List.map (ow (eLs 1 eI)) (x1.1 ++ [(([] : (List Int)) ++ ((v1.1.cells.drop (0 + (wr (x1.2 * v1.1.cols)).toNat)).take ((wr ((wr (x1.2 * v1.1.cols)) + v1.1.cols)).toNat - (wr (x1.2 * v1.1.cols)).toNat)))])⟩)] 8 [8, 9]) (Ent.trans (ent_absL (b := 7) (b' := 5) (j := 0) (es' := List.map eI (([] : (List Int)) ++ ((v1.1.cells.drop (0 + (wr (x1.2 * v1.1.cols)).toNat)).take ((wr ((wr (x1.2 * v1.1.cols)) + v1.1.cols)).toNat - (wr (x1.2 * v1.1.cols)).toNat)))) k k k k (len_map _ _) (okI.frzs _)) (ent_mk (σ := sg [(0, 0), (1, 1), (2, 2), (7, 7)]) ⟨⟨_, k, ⟨k, k, k, k⟩⟩, ⟨_, k, ⟨k, k, k, k⟩⟩, ⟨_, k, ⟨k, k, (by simp only [len_map, List.length_append, List.length_set, List.length_replicate, List.length_cons, List.length_nil]), k⟩⟩, (e1 k k), trivial⟩ ⟨⟨_, k, k, .inr ⟨_, _, k, ⟨_, _, k, k, ⟨_, _, k, k, ⟨_, _, k, ⟨k, k, k, k⟩, k⟩⟩⟩, k⟩⟩, k, ⟨_, k, k, .inl ⟨k, okI.plainO _⟩⟩, k, ⟨_, k, k, .inl ⟨k, okI.plainO _⟩⟩, k, ⟨_, k, k, .inl ⟨app_eq (([] : (List Int)) ++ ((v1.1.cells.drop (0 + (wr (x1.2 * v1.1.cols)).toNat)).take ((wr ((wr (x1.2 * v1.1.cols)) + v1.1.cols)).toNat - (wr (x1.2 * v1.1.cols)).toNat))) k, okLs.plainO _⟩⟩, k, trivial⟩ k)) ?_
   refine rg <| ae (eff_move k) k <| ae (x_add k k) k <| ae (eff_assign k) k <| an <| tn ?_
   obtain rfl := so h
   exact ⟨_, k, (ent_mk (σ := sg [(0, 0), (1, 1), (2, 2), (3, 7)]) ⟨⟨_, k, ⟨k, k, k, k⟩⟩, ⟨_, k, ⟨k, k, k, k⟩⟩, ⟨_, k, ⟨k, k, k, k⟩⟩, (e1 k k), trivial⟩ ⟨⟨_, k, k, .inr ⟨_, _, k, ⟨_, _, k, k, ⟨_, _, k, k, ⟨_, _, k, ⟨k, k, k, k⟩, k⟩⟩⟩, k⟩⟩, k, ⟨_, k, k, .inl ⟨k, okI.plainO _⟩⟩, k, ⟨_, k, k, .inl ⟨k, okI.plainO _⟩⟩, k, ⟨_, k, k, .inl ⟨k, okLs.plainO _⟩⟩, k, trivial⟩ k)⟩
  ·refine ac_condF k q2 <| ac_exit <| then_exit <| then_exit ?_
   obtain rfl := so h
   exact ⟨_, k, k, (ent_mk (σ := sg [(0, 3)]) ⟨⟨_, k, ⟨k, k, k, k⟩⟩, trivial⟩ ⟨⟨_, k, k, .inl ⟨k, okLs.plainO _⟩⟩, k, trivial⟩ k)⟩
 ·rintro e t ⟨rfl, hent⟩
  refine block_here <| tn <| ac_ent hent <| sQ <| rg <| ae (eff_move k) k <| ae (eff_assign k) k <| an <| tn <| ac_ret ?_
  obtain rfl := so h
  exact ret_mk k k k (xz_list (x_f1 okLs k k))

noncomputable def m_impl_areVectors_1 (a0 : (List Int)) (a1 : Int) (a2 : Int) : Option Bool :=
  bif !decide ((a0.length : Int) = a1) then
    (some (true))
  else
    (Option.bind (m_impl_IsVector a2 a0) fun v2 =>
    some (!v2))

theorem c_impl_areVectors_1 (a0 : (List Int)) (a1 : Int) (a2 : Int) (r : Bool) (h : m_impl_areVectors_1 a0 a1 a2 = some r) : HasC Try.prog 146 [.list 1 (List.map eI a0), .ref (eI a1), .ref (eI a2)] (.bl r) := by
 refine hasC_mk TT_ok (rvs := [.tmp 4]) (ns := [0, 1]) Try.func146 k k Try.ntmps146 k k k <| sQ <| rg <| ae (eff_assign k) k <| an <| tn <| sQ <| rg <| ae (eff_move k) k <| ae (AEff.val (w_len_list TT_ok k k k) (v' := .int (a0.length : Int)) (by first | rw [len_map] | rw [encI_len])) k ?_
 refine ae (w_load_ref TT_ok k k k k k k) k <| ae (w_cmp k k k) k <| ae (eff_move k) k ?_
 rcases cb h with ⟨q1, h⟩ | ⟨q1, h⟩
 ·refine aops_lit 9 k q1 <| aops_skip k k <| aops_skip k k <| aops_skip k k <| aops_skip k k <| ae (eff_pick k k) k <| ae (eff_assign k) k <| an <| tn <| ac_ent (t := mkS [(4, .bl true)] [] 0 [0, 1]) (ent_mk (σ := sg []) ⟨(e1 k k), trivial⟩ trivial k) ?_
  refine ac_ret ?_
  obtain rfl := so h
  exact ret_mk k k k (fz_bl k)
 ·refine aops_lit 9 k q1 <| ae (w_load_ref TT_ok k k k k k k) k <| ae (eff_move k) k ?_
  obtain ⟨v2, hv2, h⟩ := ob h
  refine ae (w_call0s (c_impl_IsVector a2 a0 v2 hv2) k (va_cons (va_same k) (va_cons (va_same k) va_nil))) k <| ae (w_not k) k <| ae (eff_pick k k) k <| ae (eff_assign k) k <| an <| tn <| ac_ent (t := mkS [(4, .bl (!v2))] [] 0 [0, 1]) (ent_mk (σ := sg []) ⟨(e1 k k), trivial⟩ trivial k) <| ac_ret ?_
  obtain rfl := so h
  exact ret_mk k k k (fz_bl k)

noncomputable def m_impl_areVectors (a0 : Int) (a1 : Int) (a2 : (List (List Int))) : Option Bool :=
  Option.bind (m_impl_within a1 0 8) fun v1 =>
  bif v1 then
    (bif decide ((a2.length : Int) ≤ 16) then
      (Option.bind (m_slices_ContainsFunc_LLint_Lint a2 (fun b0 => m_impl_areVectors_1 b0 a1 a0)) fun v4 =>
      some (!v4))
    else
      (some (false)))
  else
    (some (false))

theorem c_impl_areVectors (a0 : Int) (a1 : Int) (a2 : (List (List Int))) (r : Bool) (h : m_impl_areVectors a0 a1 a2 = some r) : HasC Try.prog 114 [.int a0, .int a1, .list 1 (List.map (eLs 1 eI) a2)] (.bl r) := by
 refine hasC_mk TT_ok (rvs := [.tmp 6]) (ns := [0, 1, 2, 3]) Try.func114 k k Try.ntmps114 k k k <| sQ <| rg <| ae (w_box k k k k) k <| ae (w_box k k k k) k <| ae (eff_assign k) k <| an <| tn <| sQ <| rg ?_
 refine ae (w_load_ptr TT_ok k k k k k k k) k ?_
 obtain ⟨v1, hv1, h⟩ := ob h
 refine ae (w_call0s (c_impl_within a1 0 8 v1 hv1) k (va_cons (va_same k) (va_cons (va_same k) (va_cons (va_same k) va_nil)))) k <| ae (eff_move k) k ?_
 rcases cb h with ⟨q2, h⟩ | ⟨q2, h⟩
 ·refine aops_lit 9 k q2 <| ae (eff_move k) k <| ae (AEff.val (w_len_list TT_ok k k k) (v' := .int (a2.length : Int)) (by first | rw [len_map] | rw [encI_len])) k <| ae (w_cmp k k k) k <| ae (eff_pick k k) k <| ae (eff_move k) k ?_
  rcases cb h with ⟨q3, h⟩ | ⟨q3, h⟩
  ·refine aops_lit 14 k q3 <| ae (eff_move k) k <| ae (eff_makeFunc (vs := [.ptr 1 0 0, .ptr 0 0 0]) k (by simp)) k ?_
   obtain ⟨v4, hv4, h⟩ := ob h
   refine ae (w_call0s (c_slices_ContainsFunc_LLint_Lint a2 (fun b0 => m_impl_areVectors_1 b0 a1 a0) k (fun b0 r h => c_impl_areVectors_1 b0 a1 a0 r h) v4 hv4) k (va_cons (va_same k) (va_cons (va_fn (vp_cons (vp_box k k (v1_cons (v1_same k) v1_nil)) (vp_cons (vp_box k k (v1_cons (v1_same k) v1_nil)) va_nil2))) va_nil))) k <| ae (w_not k) k <| ae (eff_pick k k) k <| ae (eff_assign k) k <| an <| tn <| ac_ent (t := mkS [(6, .bl (!v4))] [] 2 [2, 3]) (ent_mk (σ := sg []) ⟨(e1 k k), trivial⟩ trivial k) <| ac_ret ?_
   obtain rfl := so h
   exact ret_mk k k k (fz_bl k)
  ·refine aops_lit 14 k q3 <| aops_skip k k <| aops_skip k k <| aops_skip k k <| aops_skip k k <| ae (eff_pick k k) k <| ae (eff_assign k) k <| an <| tn <| ac_ent (t := mkS [(6, .bl false)] [] 2 [2, 3]) (ent_mk (σ := sg []) ⟨(e1 k k), trivial⟩ trivial k) ?_
   refine ac_ret ?_
   obtain rfl := so h
   exact ret_mk k k k (fz_bl k)
 ·refine aops_lit 9 k q2 <| aops_skip k k <| aops_skip k k <| aops_skip k k <| ae (eff_pick k k) k <| ae (eff_move k) k <| aops_skip k k <| aops_skip k k <| aops_skip k k <| aops_skip k k ?_
  refine ae (eff_pick k k) k <| ae (eff_assign k) k <| an <| tn <| ac_ent (t := mkS [(6, .bl false)] [] 2 [2, 3]) (ent_mk (σ := sg []) ⟨(e1 k k), trivial⟩ trivial k) <| ac_ret ?_
  obtain rfl := so h
  exact ret_mk k k k (fz_bl k)

noncomputable def m_impl_EqualSpaces_1 (a0 : (List Int)) (a1 : (List Int)) : Option Bool :=
  Option.bind (m_slices_Equal_Lint_int a0 a1) fun v1 =>
  some (v1)

theorem c_impl_EqualSpaces_1 (a0 : (List Int)) (a1 : (List Int)) (r : Bool) (h : m_impl_EqualSpaces_1 a0 a1 = some r) : HasC Try.prog 148 [.list 1 (List.map eI a0), .list 1 (List.map eI a1)] (.bl r) := by
 refine hasC_mk TT_ok (rvs := [.tmp 4]) (ns := [0, 1]) Try.func148 k k Try.ntmps148 k k k <| sQ <| rg <| ae (eff_assign k) k <| an <| tn <| sQ <| rg <| ae (eff_move k) k <| ae (eff_move k) k ?_
 obtain ⟨v1, hv1, h⟩ := ob h
 refine ae (w_call0s (c_slices_Equal_Lint_int a0 a1 v1 hv1) k (va_cons (va_same k) (va_cons (va_same k) va_nil))) k <| ae (eff_assign k) k <| an <| tn <| ac_ret ?_
 obtain rfl := so h
 exact ret_mk k k k (fz_bl k)

noncomputable def m_slices_EqualFunc_LLint_LLint_Lint_Lint_L1 (a0 : (List (List Int))) (a1 : (List (List Int))) (a2 : ((List Int) → (List Int) → Option Bool)) (x1 : Int) : Option (Int ⊕ (Unit ⊕ Bool)) :=
  bif decide (x1 < (a0.length : Int)) then
    (Option.bind (atL a0 x1) fun v3 =>
    Option.bind (atL a1 x1) fun v4 =>
    Option.bind (a2 v3 v4) fun v5 =>
    bif !v5 then
      (some (.inr (.inr (false))))
    else
      (some (.inl (wr (x1 + 1)))))
  else
    (some (.inr (.inl ())))

noncomputable def m_slices_EqualFunc_LLint_LLint_Lint_Lint (a0 : (List (List Int))) (a1 : (List (List Int))) (a2 : ((List Int) → (List Int) → Option Bool)) : Option Bool :=
  bif !decide ((a0.length : Int) = (a1.length : Int)) then
    (some (false))
  else
    (Option.bind (Lp (m_slices_EqualFunc_LLint_LLint_Lint_Lint_L1 a0 a1 a2) 0) fun y7 =>
    Sum.elim (fun y8 =>
      some (true)
    ) 
    (fun y9 =>
      some y9
    )
     y7)

theorem c_slices_EqualFunc_LLint_LLint_Lint_Lint (a0 : (List (List Int))) (a1 : (List (List Int))) (a2 : ((List Int) → (List Int) → Option Bool)) {f2 : FuncId} {c2 : List AV} (hc2 : c2.all plainD = true) (hf2 : ∀ b0 b1 r, a2 b0 b1 = some r → HasC Try.prog f2 ([.list 1 (List.map eI b0), .list 1 (List.map eI b1)] ++ c2) (.bl r)) (r : Bool) (h : m_slices_EqualFunc_LLint_LLint_Lint_Lint a0 a1 a2 = some r) : HasC Try.prog 147 [.list 1 (List.map (eLs 1 eI) a0), .list 1 (List.map (eLs 1 eI) a1), .fn f2 c2] (.bl r) := by
 refine hasC_mk TT_ok (rvs := [.tmp 6]) (ns := [0, 1]) Try.func147 k k Try.ntmps147 k k (by simp only [List.all_cons, List.all_nil, okArg, plainD, Bool.and_true, Bool.true_and]; first | done | simp [hc2]) <| sQ <| rg <| ae (eff_assign k) k <| an <| tn <| sQ <| sQ <| rg <| ae (eff_move k) k ?_
 refine ae (AEff.val (w_len_list TT_ok k k k) (v' := .int (a0.length : Int)) (by first | rw [len_map] | rw [encI_len])) k <| ae (eff_move k) k <| ae (AEff.val (w_len_list TT_ok k k k) (v' := .int (a1.length : Int)) (by first | rw [len_map] | rw [encI_len])) k <| ae (w_cmp k k k) k <| an <| tn ?_
 rcases cb h with ⟨q1, h⟩ | ⟨q1, h⟩
 ·refine ac_condT k q1 <| sQ <| rg <| ae (eff_assign k) k <| an <| tn <| ac_ret <| then_ret ?_
  obtain rfl := so h
  exact ret_mk k k k (fz_bl k)
 ·refine ac_condF k q1 <| ac_skip <| tn <| sQ <| sQ <| rg <| ae (eff_move k) k <| ae (AEff.val (w_len_list TT_ok k k k) (v' := .int (a0.length : Int)) (by first | rw [len_map] | rw [encI_len])) k <| ae (eff_move k) k <| an ?_
  refine tn <| ac_block ?_
  obtain ⟨y7, hy7, h⟩ := ob h
  refine ac_Lp (body := (m_slices_EqualFunc_LLint_LLint_Lint_Lint_L1 a0 a1 a2)) hy7 (fun (x1 : Int) => mkS [(1, .list 1 (List.map (eLs 1 eI) a1)), (2, .fn f2 c2), (15, .list 1 (List.map (eLs 1 eI) a0)), (16, .int (a0.length : Int)), (17, .int x1)] [] 0 [0, 1]) (fun r e t => Sum.elim (fun a => (fun r e t => e = .exit 0 ∧ Ent t (mkS [] [] 0 [0, 1])) a e t) (fun b => (fun r e t => e = .ret ∧ RetQ TT [.tmp 6] (.bl r) .ret t) b e t) r) (ent_mk (σ := sg []) ⟨⟨_, k, ⟨k, k⟩⟩, ⟨_, k, ⟨k, all2_same _ hc2⟩⟩, ⟨_, k, ⟨k, k⟩⟩, (e1 k k), (e1 k k), trivial⟩ trivial k) ?_ ?_
  ·intro x1 o h
   refine sQ <| rg <| ae (w_cmp k k k) k <| an <| tn <| sQ ?_
   rcases cb h with ⟨q2, h⟩ | ⟨q2, h⟩
   ·refine ac_condT k q2 <| ac_skip <| tn <| sQ <| ac_block <| sQ <| rg <| ae (eff_move k) k ?_
    obtain ⟨v3, hv3, h⟩ := ob h
    refine ae (x_at_list TT_ok hv3 k k k k k k) k <| ae (w_load_ref TT_ok k k k k k k) k <| ae (eff_assign k) k <| ae (eff_assign k) k <| an <| tn <| sQ <| rg <| ae (eff_move k) k <| ae (eff_move k) k ?_
    obtain ⟨v4, hv4, h⟩ := ob h
    refine ae (x_at_list TT_ok hv4 k k k k k k) k <| ae (w_load_ref TT_ok k k k k k k) k <| ae (eff_assign k) k <| an <| tn <| sQ <| rg <| ae (eff_move k) k <| ae (eff_move k) k <| ae (eff_move k) k ?_
    obtain ⟨v5, hv5, h⟩ := ob h
    refine ae (w_callv hc2 (hf2 v3 v4 v5 hv5) k k (va_cons (va_same k) (va_cons (va_same k) va_nil))) k <| ae (w_not k) k <| an <| tn <| ac_ent (t := mkS [(1, .list 1 (List.map (eLs 1 eI) a1)), (2, .fn f2 c2), (15, .list 1 (List.map (eLs 1 eI) a0)), (16, .int (a0.length : Int)), (17, .int x1), (30, .bl (!v5))] [] 0 [0, 1]) (ent_mk (σ := sg []) ⟨⟨_, k, ⟨k, k⟩⟩, ⟨_, k, ⟨k, all2_same _ hc2⟩⟩, ⟨_, k, ⟨k, k⟩⟩, (e1 k k), (e1 k k), (e1 k k), trivial⟩ trivial k) ?_
    rcases cb h with ⟨q6, h⟩ | ⟨q6, h⟩
    ·refine ac_condT k q6 <| sQ <| rg <| ae (eff_assign k) k <| an <| tn <| ac_ret <| block_ret <| then_ret <| then_ret ?_
     obtain rfl := so h
     exact ⟨_, k, k, ret_mk k k k (fz_bl k)⟩
    ·refine ac_condF k q6 <| ac_skip <| block_n <| tn <| rg <| ae (x_add k k) k <| ae (eff_move k) k <| an <| tn ?_
     obtain rfl := so h
     exact ⟨_, k, (ent_mk (σ := sg []) ⟨⟨_, k, ⟨k, k⟩⟩, ⟨_, k, ⟨k, all2_same _ hc2⟩⟩, ⟨_, k, ⟨k, k⟩⟩, (e1 k k), (e1 k k), trivial⟩ trivial k)⟩
   ·refine ac_condF k q2 <| ac_exit <| then_exit <| then_exit ?_
    obtain rfl := so h
    exact ⟨_, k, k, (ent_mk (σ := sg []) trivial trivial k)⟩
  ·intro e t hX
   rcases y7 with y8 | y9
   ·obtain ⟨rfl, hent⟩ := hX
    refine block_here <| tn <| ac_ent hent <| sQ <| rg <| ae (eff_assign k) k <| an <| tn <| ac_ret ?_
    obtain rfl := so h
    exact ret_mk k k k (fz_bl k)
   ·obtain ⟨rfl, hent⟩ := hX
    refine block_ret <| then_ret ?_
    obtain rfl := so h
    exact hent

noncomputable def m_impl_EqualSpaces (a0 : Sc) (a1 : Sc) : Option Bool :=
  bif decide (a0.size = a1.size) then
    (Option.bind (m_slices_EqualFunc_LLint_LLint_Lint_Lint a0.basis a1.basis (fun b0 b1 => m_impl_EqualSpaces_1 b0 b1)) fun v2 =>
    some (v2))
  else
    (some (false))

theorem c_impl_EqualSpaces (a0 : Sc) (a1 : Sc) (r : Bool) (h : m_impl_EqualSpaces a0 a1 = some r) : HasC Try.prog 115 [.agg (eS a0), .agg (eS a1)] (.bl r) := by
 refine hasC_mk TT_ok (rvs := [.tmp 4]) (ns := [0, 1, 2, 3]) Try.func115 k k Try.ntmps115 k k k <| sQ <| rg <| ae (w_box k k k k) k <| ae (w_box k k k k) k <| ae (eff_assign k) k <| an <| tn <| sQ <| rg ?_
 refine ae (w_field_ptr TT_ok k k k k k k k) k <| ae (w_load_ptr TT_ok k k k k k k k) k <| ae (w_field_ptr TT_ok k k k k k k k) k <| ae (w_load_ptr TT_ok k k k k k k k) k <| ae (w_cmp k k k) k <| ae (eff_move k) k ?_
 rcases cb h with ⟨q1, h⟩ | ⟨q1, h⟩
 ·refine aops_lit 10 k q1 <| ae (w_field_ptr TT_ok k k k k k k k) k <| ae (w_load_ptr TT_ok k k k k k k k) k <| ae (w_field_ptr TT_ok k k k k k k k) k <| ae (w_load_ptr TT_ok k k k k k k k) k ?_
  obtain ⟨v2, hv2, h⟩ := ob h
  refine ae (w_call0s (c_slices_EqualFunc_LLint_LLint_Lint_Lint a0.basis a1.basis (fun b0 b1 => m_impl_EqualSpaces_1 b0 b1) k (fun b0 b1 r h => c_impl_EqualSpaces_1 b0 b1 r h) v2 hv2) k (va_cons (va_same k) (va_cons (va_same k) (va_cons (va_fn va_nil2) va_nil)))) k <| ae (eff_pick k k) k <| ae (eff_assign k) k <| an <| tn <| ac_ent (t := mkS [(4, .bl v2)] [] 2 [2, 3]) (ent_mk (σ := sg []) ⟨(e1 k k), trivial⟩ trivial k) <| ac_ret ?_
  obtain rfl := so h
  exact ret_mk k k k (fz_bl k)
 ·refine aops_lit 10 k q1 <| aops_skip k k <| aops_skip k k <| aops_skip k k <| aops_skip k k <| aops_skip k k <| ae (eff_pick k k) k <| ae (eff_assign k) k <| an <| tn ?_
  refine ac_ent (t := mkS [(4, .bl false)] [] 2 [2, 3]) (ent_mk (σ := sg []) ⟨(e1 k k), trivial⟩ trivial k) <| ac_ret ?_
  obtain rfl := so h
  exact ret_mk k k k (fz_bl k)

noncomputable def m_impl_IsSpace (a0 : Int) (a1 : Sc) : Option Bool :=
  Option.bind (m_impl_IsField a0) fun v1 =>
  bif !v1 then
    (some (false))
  else
    (Option.bind (m_impl_areVectors a0 a1.size a1.basis) fun v3 =>
    bif !v3 then
      (some (false))
    else
      (Option.bind (m_impl_span a0 a1.size a1.basis) fun v5 =>
      Option.bind (m_impl_EqualSpaces v5 a1) fun v6 =>
      some (v6)))

theorem c_impl_IsSpace (a0 : Int) (a1 : Sc) (r : Bool) (h : m_impl_IsSpace a0 a1 = some r) : HasC Try.prog 78 [.int a0, .agg (eS a1)] (.bl r) := by
 refine hasC_mk TT_ok (rvs := [.tmp 4]) (ns := [0, 1, 2, 3]) Try.func78 k k Try.ntmps78 k k k <| sQ <| rg <| ae (w_box k k k k) k <| ae (eff_assign k) k <| an <| tn <| sQ <| sQ <| rg ?_
 refine ae (eff_move k) k ?_
 obtain ⟨v1, hv1, h⟩ := ob h
 refine ae (w_call0s (c_impl_IsField a0 v1 hv1) k (va_cons (va_same k) va_nil)) k <| ae (w_not k) k <| ae (eff_move k) k ?_
 rcases cb h with ⟨q2, h⟩ | ⟨q2, h⟩
 ·refine aops_lit 8 k q2 <| aops_skip k k <| aops_skip k k <| aops_skip k k <| aops_skip k k <| aops_skip k k <| aops_skip k k <| aops_skip k k <| ae (eff_pick k k) k <| an ?_
  refine tn <| ac_ent (t := mkS [(0, .int a0), (3, .ptr 0 0 0), (16, .bl true)] [(0, ⟨2, [[.int a1.size, .list 1 (List.map (eLs 1 eI) a1.basis)]]⟩)] 1 [1, 2, 3]) (ent_mk (σ := sg [(0, 0)]) ⟨(e1 k k), ⟨_, k, ⟨k, k, k, k⟩⟩, (e1 k k), trivial⟩ ⟨⟨_, k, k, .inl ⟨k, plain_of k⟩⟩, k, trivial⟩ k) <| ac_condT k k <| sQ <| rg <| ae (eff_assign k) k <| an <| tn <| ac_ret <| then_ret ?_
  obtain rfl := so h
  exact ret_mk k k k (fz_bl k)
 ·refine aops_lit 8 k q2 <| ae (eff_move k) k <| ae (w_field_ptr TT_ok k k k k k k k) k <| ae (w_load_ptr TT_ok k k k k k k k) k <| ae (w_field_ptr TT_ok k k k k k k k) k <| ae (w_load_ptr TT_ok k k k k k k k) k ?_
  obtain ⟨v3, hv3, h⟩ := ob h
  refine ae (w_call0s (c_impl_areVectors a0 a1.size a1.basis v3 hv3) k (va_cons (va_same k) (va_cons (va_same k) (va_cons (va_same k) va_nil)))) k <| ae (w_not k) k <| ae (eff_pick k k) k <| an <| tn <| ac_ent (t := mkS [(0, .int a0), (3, .ptr 0 0 0), (16, .bl (!v3))] [(0, ⟨2, [[.int a1.size, .list 1 (List.map (eLs 1 eI) a1.basis)]]⟩)] 1 [1, 2, 3]) (ent_mk (σ := sg [(0, 0)]) ⟨(e1 k k), ⟨_, k, ⟨k, k, k, k⟩⟩, (e1 k k), trivial⟩ ⟨⟨_, k, k, .inl ⟨k, plain_of k⟩⟩, k, trivial⟩ k) ?_
  rcases cb h with ⟨q4, h⟩ | ⟨q4, h⟩
  ·refine ac_condT k q4 <| sQ <| rg <| ae (eff_assign k) k <| an <| tn <| ac_ret <| then_ret ?_
   obtain rfl := so h
   exact ret_mk k k k (fz_bl k)
  ·refine ac_condF k q4 <| ac_skip <| tn <| sQ <| ac_region_draw MIXX <| ae (eff_move k) k <| ae (w_field_ptr TT_ok k k k k k k k) k <| ae (w_load_ptr TT_ok k k k k k k k) k <| ae (w_field_ptr TT_ok k k k k k k k) k <| ae (w_load_ptr TT_ok k k k k k k k) k ?_
   obtain ⟨v5, hv5, h⟩ := ob h
   refine ae (AEff.conv (w_call0 (x := .agg [.int v5.size, .own 1 0 (List.map (eLs 1 eI) v5.basis).length]) (nb := [(1, ⟨1, absEs (List.map (eLs 1 eI) v5.basis)⟩)]) (c_impl_span a0 a1.size a1.basis v5 hv5) k (by rfl) k k (g1_cons trivial (g1_cons (okLs.good _) g1_nil)) (va_cons (va_same k) (va_cons (va_same k) (va_cons (va_same k) va_nil)))) (v' := .agg [.int v5.size, .own 1 0 v5.basis.length]) (ed' := [(1, some ⟨1, List.map (ow (eLs 1 eI)) v5.basis⟩)]) (by simp only [len_map]) (ed_ok (nb' := [(1, ⟨1, List.map (ow (eLs 1 eI)) v5.basis⟩)]) (by simp only [abs_map]))) k <| ae (w_load_ptr TT_ok k k k k k k k) k ?_
   obtain ⟨v6, hv6, h⟩ := ob h
   refine ae (w_call0s (c_impl_EqualSpaces v5 a1 v6 hv6) k (va_cons (va_agg' (v1_cons (v1_same k) (v1_cons (v1_T okLs k k) v1_nil))) (va_cons (va_agg' (v1_cons (v1_same k) (v1_cons (v1_same k) v1_nil))) va_nil))) k <| ae (eff_assign k) k <| an ?_
   refine ⟨by kernel_rfl, ?_⟩
   refine tn <| ac_ret ?_
   obtain rfl := so h
   exact ret_mk k k k (fz_bl k)

noncomputable def m_impl_RepOfSubspaces_L1 (a0 : Int) (a1 : Int) (a2 : (List Sc)) (x1 : ((List Int) × (List Mt) × Int)) : Option (((List Int) × (List Mt) × Int) ⊕ (((List Int) × (List Mt)) ⊕ (Rp × Bool))) :=
  bif decide (x1.2.2 < (a2.length : Int)) then
    (Option.bind (atL a2 x1.2.2) fun v8 =>
    Option.bind (m_impl_IsSpace a0 v8) fun v9 =>
    bif !v9 then
      (some (.inr (.inr (((⟨0, (⟨0, [], []⟩ : Qv), [], []⟩ : Rp), false)))))
    else
      (bif !decide (v8.size = a1) then
        (some (.inr (.inr (((⟨0, (⟨0, [], []⟩ : Qv), [], []⟩ : Rp), false)))))
      else
        (bif decide (x1.1.length + [(v8.basis.length : Int)].length ≤ 4294967296) then
          (Option.bind (m_impl_fromColumns a1 v8.basis) fun v13 =>
          bif decide (x1.2.1.length + 1 ≤ 4294967296) then
            (some (.inl ((x1.1 ++ [(v8.basis.length : Int)]), (x1.2.1 ++ [v13]), wr (x1.2.2 + 1))))
          else none)
        else none)))
  else
    (some (.inr (.inl (x1.1, x1.2.1))))

noncomputable def m_impl_RepOfSubspaces (a0 : Int) (a1 : Int) (a2 : (List Sc)) : Option (Rp × Bool) :=
  Option.bind (m_impl_StarOf (a2.length : Int)) fun v1 =>
  bif !v1.2 then
    (some (((⟨0, (⟨0, [], []⟩ : Qv), [], []⟩ : Rp), false)))
  else
    (Option.bind (m_impl_IsField a0) fun v3 =>
    bif !v3 then
      (some (((⟨0, (⟨0, [], []⟩ : Qv), [], []⟩ : Rp), false)))
    else
      (Option.bind (m_impl_within a1 0 4) fun v5 =>
      bif !v5 then
        (some (((⟨0, (⟨0, [], []⟩ : Qv), [], []⟩ : Rp), false)))
      else
        (Option.bind (Lp (m_impl_RepOfSubspaces_L1 a0 a1 a2) ([], [], 0)) fun y15 =>
        Sum.elim (fun y16 =>
          bif decide (y16.1.length + [a1].length ≤ 4294967296) then
            (Option.bind (m_impl_IsRep (⟨a0, v1.1, (y16.1 ++ [a1]), y16.2⟩ : Rp)) fun v18 =>
            bif !v18 then
              (some (((⟨0, (⟨0, [], []⟩ : Qv), [], []⟩ : Rp), false)))
            else
              (some (((⟨a0, v1.1, (y16.1 ++ [a1]), y16.2⟩ : Rp), true))))
          else none
        ) 
        (fun y20 =>
          some y20
        )
         y15)))

theorem c_impl_RepOfSubspaces (a0 : Int) (a1 : Int) (a2 : (List Sc)) (r : (Rp × Bool)) (h : m_impl_RepOfSubspaces a0 a1 a2 = some r) : HasC Try.prog 27 [.int a0, .int a1, .list 2 (List.map eS a2)] (.tuple [.agg (eR r.1), .bl r.2]) := by
 refine hasC_mk TT_ok (rvs := [.cell 6 33, .tmp 7]) (ns := [0, 1, 2, 3, 4, 5, 6, 7, 8, 9, 10, 11, 12, 13]) Try.func27 k k Try.ntmps27 k k k <| sQ <| rg <| ae (w_alloc TT_ok k k) k <| ae (eff_assign k) k <| an <| tn <| sQ <| rg <| ae (eff_move k) k ?_
 refine ae (AEff.val (w_len_list TT_ok k k k) (v' := .int (a2.length : Int)) (by first | rw [len_map] | rw [encI_len])) k ?_
 obtain ⟨v1, hv1, h⟩ := ob h
 refine ae (AEff.conv (w_call0 (x := .tuple [.agg [.int v1.1.n, .own 1 0 (List.map eI v1.1.src).length, .own 2 0 (List.map eI v1.1.tgt).length], .bl v1.2]) (nb := [(1, ⟨1, absEs (List.map eI v1.1.src)⟩), (2, ⟨1, absEs (List.map eI v1.1.tgt)⟩)]) (c_impl_StarOf (a2.length : Int) v1 hv1) k (by rfl) k k (gB_cons (g1_cons trivial (g1_cons (okI.good _) (g1_cons (okI.good _) g1_nil))) (gB_cons trivial gB_nil)) (va_cons (va_same k) va_nil)) (v' := .tuple [.agg [.int v1.1.n, .own 1 0 v1.1.src.length, .own 2 0 v1.1.tgt.length], .bl v1.2]) (ed' := [(1, some ⟨1, List.map (ow eI) v1.1.src⟩), (2, some ⟨1, List.map (ow eI) v1.1.tgt⟩)]) (by simp only [len_map]) (ed_ok (nb' := [(1, ⟨1, List.map (ow eI) v1.1.src⟩), (2, ⟨1, List.map (ow eI) v1.1.tgt⟩)]) (by simp only [abs_map]))) k <| ae (eff_move k) k <| ae (eff_extract k k (by intro _ h; cases h)) k <| ae (eff_extract k k (by intro _ h; cases h)) k <| ae (w_alloc TT_ok k k) k <| ae (w_store TT_ok k k k k k k k k) k <| ae (eff_assign k) k <| an <| tn <| sQ ?_
 refine sQ <| rg <| ae (eff_move k) k <| ae (w_not k) k <| ae (eff_move k) k ?_
 rcases cb h with ⟨q2, h⟩ | ⟨q2, h⟩
 ·refine aops_lit 21 k q2 <| aops_skip k k <| aops_skip k k <| aops_skip k k <| ae (eff_pick k k) k <| ae (eff_move k) k <| aops_skip k k <| aops_skip k k <| aops_skip k k <| ae (eff_pick k k) k ?_
  refine an <| tn <| ac_ent (t := mkS [(0, .int a0), (1, .int a1), (2, .list 2 (List.map eS a2)), (6, .ptr 0 0 0), (8, .ptr 3 0 0), (30, .bl true)] [(0, ⟨6, [[.int 0, .int 0, .nil 1, .nil 1, .nil 1, .nil 3]]⟩), (1, ⟨1, List.map (ow eI) v1.1.src⟩), (2, ⟨1, List.map (ow eI) v1.1.tgt⟩), (3, ⟨3, [[.int v1.1.n, .own 1 0 v1.1.src.length, .own 2 0 v1.1.tgt.length]]⟩)] 4 [4, 5, 6, 7, 8, 9, 10, 11, 12, 13]) (ent_mk (σ := sg [(0, 0), (1, 1), (2, 2), (3, 3)]) ⟨(e1 k k), (e1 k k), ⟨_, k, ⟨k, k⟩⟩, ⟨_, k, ⟨k, k, k, k⟩⟩, ⟨_, k, ⟨k, k, k, k⟩⟩, (e1 k k), trivial⟩ ⟨⟨_, k, k, .inl ⟨k, plain_of k⟩⟩, k, ⟨_, k, k, .inl ⟨k, okI.plainO _⟩⟩, k, ⟨_, k, k, .inl ⟨k, okI.plainO _⟩⟩, k, ⟨_, k, k, .inr ⟨_, _, k, ⟨_, _, k, k, ⟨_, _, k, ⟨k, k, k, k⟩, ⟨_, _, k, ⟨k, k, k, k⟩, k⟩⟩⟩, k⟩⟩, k, trivial⟩ k) <| ac_condT k k <| sQ <| rg <| ae (w_build TT_ok k k k k k k) k <| ae (w_store TT_ok k k k k k k k k) k <| ae (eff_assign k) k <| an ?_
  refine tn <| ac_ret <| then_ret ?_
  obtain rfl := so h
  exact ret_mk k k k (xz_tuple k (xB_cons (xB_agg (x1_cons (k) (x1_cons (k) (x1_cons (k) (x1_cons (k) (x1_cons (k) (x1_cons (k) x1_nil))))))) (xB_cons (k) xB_nil)))
 ·refine aops_lit 21 k q2 <| ae (eff_move k) k ?_
  obtain ⟨v3, hv3, h⟩ := ob h
  refine ae (w_call0s (c_impl_IsField a0 v3 hv3) k (va_cons (va_same k) va_nil)) k <| ae (w_not k) k <| ae (eff_pick k k) k <| ae (eff_move k) k ?_
  rcases cb h with ⟨q4, h⟩ | ⟨q4, h⟩
  ·refine aops_lit 26 k q4 <| aops_skip k k <| aops_skip k k <| aops_skip k k <| ae (eff_pick k k) k <| an <| tn <| ac_ent (t := mkS [(0, .int a0), (1, .int a1), (2, .list 2 (List.map eS a2)), (6, .ptr 0 0 0), (8, .ptr 3 0 0), (30, .bl true)] [(0, ⟨6, [[.int 0, .int 0, .nil 1, .nil 1, .nil 1, .nil 3]]⟩), (1, ⟨1, List.map (ow eI) v1.1.src⟩), (2, ⟨1, List.map (ow eI) v1.1.tgt⟩), (3, ⟨3, [[.int v1.1.n, .own 1 0 v1.1.src.length, .own 2 0 v1.1.tgt.length]]⟩)] 4 [4, 5, 6, 7, 8, 9, 10, 11, 12, 13]) (ent_mk (σ := sg [(0, 0), (1, 1), (2, 2), (3, 3)]) ⟨(e1 k k), (e1 k k), ⟨_, k, ⟨k, k⟩⟩, ⟨_, k, ⟨k, k, k, k⟩⟩, ⟨_, k, ⟨k, k, k, k⟩⟩, (e1 k k), trivial⟩ ⟨⟨_, k, k, .inl ⟨k, plain_of k⟩⟩, k, ⟨_, k, k, .inl ⟨k, okI.plainO _⟩⟩, k, ⟨_, k, k, .inl ⟨k, okI.plainO _⟩⟩, k, ⟨_, k, k, .inr ⟨_, _, k, ⟨_, _, k, k, ⟨_, _, k, ⟨k, k, k, k⟩, ⟨_, _, k, ⟨k, k, k, k⟩, k⟩⟩⟩, k⟩⟩, k, trivial⟩ k) <| ac_condT k k <| sQ ?_
   refine rg <| ae (w_build TT_ok k k k k k k) k <| ae (w_store TT_ok k k k k k k k k) k <| ae (eff_assign k) k <| an <| tn <| ac_ret <| then_ret ?_
   obtain rfl := so h
   exact ret_mk k k k (xz_tuple k (xB_cons (xB_agg (x1_cons (k) (x1_cons (k) (x1_cons (k) (x1_cons (k) (x1_cons (k) (x1_cons (k) x1_nil))))))) (xB_cons (k) xB_nil)))
  ·refine aops_lit 26 k q4 <| ae (eff_move k) k ?_
   obtain ⟨v5, hv5, h⟩ := ob h
   refine ae (w_call0s (c_impl_within a1 0 4 v5 hv5) k (va_cons (va_same k) (va_cons (va_same k) (va_cons (va_same k) va_nil)))) k <| ae (w_not k) k <| ae (eff_pick k k) k <| an <| tn <| ac_ent (t := mkS [(0, .int a0), (1, .int a1), (2, .list 2 (List.map eS a2)), (6, .ptr 0 0 0), (8, .ptr 3 0 0), (30, .bl (!v5))] [(0, ⟨6, [[.int 0, .int 0, .nil 1, .nil 1, .nil 1, .nil 3]]⟩), (1, ⟨1, List.map (ow eI) v1.1.src⟩), (2, ⟨1, List.map (ow eI) v1.1.tgt⟩), (3, ⟨3, [[.int v1.1.n, .own 1 0 v1.1.src.length, .own 2 0 v1.1.tgt.length]]⟩)] 4 [4, 5, 6, 7, 8, 9, 10, 11, 12, 13]) (ent_mk (σ := sg [(0, 0), (1, 1), (2, 2), (3, 3)]) ⟨(e1 k k), (e1 k k), ⟨_, k, ⟨k, k⟩⟩, ⟨_, k, ⟨k, k, k, k⟩⟩, ⟨_, k, ⟨k, k, k, k⟩⟩, (e1 k k), trivial⟩ ⟨⟨_, k, k, .inl ⟨k, plain_of k⟩⟩, k, ⟨_, k, k, .inl ⟨k, okI.plainO _⟩⟩, k, ⟨_, k, k, .inl ⟨k, okI.plainO _⟩⟩, k, ⟨_, k, k, .inr ⟨_, _, k, ⟨_, _, k, k, ⟨_, _, k, ⟨k, k, k, k⟩, ⟨_, _, k, ⟨k, k, k, k⟩, k⟩⟩⟩, k⟩⟩, k, trivial⟩ k) ?_
   rcases cb h with ⟨q6, h⟩ | ⟨q6, h⟩
   ·refine ac_condT k q6 <| sQ <| rg <| ae (w_build TT_ok k k k k k k) k <| ae (w_store TT_ok k k k k k k k k) k <| ae (eff_assign k) k <| an <| tn <| ac_ret <| then_ret ?_
    obtain rfl := so h
    exact ret_mk k k k (xz_tuple k (xB_cons (xB_agg (x1_cons (k) (x1_cons (k) (x1_cons (k) (x1_cons (k) (x1_cons (k) (x1_cons (k) x1_nil))))))) (xB_cons (k) xB_nil)))
   ·refine ac_condF k q6 <| ac_skip <| tn <| sQ <| rg <| ae (eff_move k) k <| ae (w_load_ptr TT_ok k k k k k k k) k <| ae (w_build TT_ok k k k k k k) k <| ae (w_alloc TT_ok k k) k <| ae (w_store TT_ok k k k k k k k k) k ?_
    refine an <| tn <| sQ <| sQ <| rg <| ae (eff_move k) k <| ae (AEff.val (w_len_list TT_ok k k k) (v' := .int (a2.length : Int)) (by first | rw [len_map] | rw [encI_len])) k <| ae (eff_move k) k <| an <| tn ?_
    refine ac_block ?_
    obtain ⟨y15, hy15, h⟩ := ob h
    refine ac_Lp (body := (m_impl_RepOfSubspaces_L1 a0 a1 a2)) hy15 (fun (x1 : ((List Int) × (List Mt) × Int)) => mkS [(0, .int a0), (1, .int a1), (6, .ptr 0 0 0), (10, .ptr 1 0 0), (35, .list 2 (List.map eS a2)), (36, .int (a2.length : Int)), (37, .int x1.2.2)] [(0, ⟨6, [[.int 0, .int 0, .nil 1, .nil 1, .nil 1, .nil 3]]⟩), (1, ⟨6, [[.int a0, .int v1.1.n, .own 2 0 v1.1.src.length, .own 3 0 v1.1.tgt.length, .own 4 0 x1.1.length, .own 5 0 x1.2.1.length]]⟩), (2, ⟨1, List.map (ow eI) v1.1.src⟩), (3, ⟨1, List.map (ow eI) v1.1.tgt⟩), (4, ⟨1, List.map (ow eI) x1.1⟩), (5, ⟨3, List.map (ow eM) x1.2.1⟩)] 6 [6, 7, 8, 9, 10, 11, 12, 13]) (fun r e t => Sum.elim (fun a => (fun r e t => e = .exit 0 ∧ Ent t (mkS [(1, .int a1), (6, .ptr 0 0 0), (10, .ptr 1 0 0)] [(0, ⟨6, [[.int 0, .int 0, .nil 1, .nil 1, .nil 1, .nil 3]]⟩), (1, ⟨6, [[.int a0, .int v1.1.n, .own 2 0 v1.1.src.length, .own 3 0 v1.1.tgt.length, .own 4 0 r.1.length, .own 5 0 r.2.length]]⟩), (2, ⟨1, List.map (ow eI) v1.1.src⟩), (3, ⟨1, List.map (ow eI) v1.1.tgt⟩), (4, ⟨1, List.map (ow eI) r.1⟩), (5, ⟨3, List.map (ow eM) r.2⟩)] 6 [6, 7, 8, 9, 10, 11, 12, 13])) a e t) (fun b => (fun r e t => e = .ret ∧ RetQ TT [.cell 6 33, .tmp 7] (.tuple [.agg (eR r.1), .bl r.2]) .ret t) b e t) r) (ent_mk (σ := sg [(0, 0), (1, 4), (2, 1), (3, 2)]) ⟨(e1 k k), (e1 k k), ⟨_, k, ⟨k, k, k, k⟩⟩, ⟨_, k, ⟨k, k, k, k⟩⟩, ⟨_, k, ⟨k, k⟩⟩, (e1 k k), (e1 k k), trivial⟩ ⟨⟨_, k, k, .inl ⟨k, plain_of k⟩⟩, k, ⟨_, k, k, .inr ⟨_, _, k, ⟨_, _, k, k, ⟨_, _, k, k, ⟨_, _, k, ⟨k, k, k, k⟩, ⟨_, _, k, ⟨k, k, k, k⟩, ⟨_, _, k, ⟨k, k, k, k⟩, ⟨_, _, k, ⟨k, k, k, k⟩, k⟩⟩⟩⟩⟩⟩, k⟩⟩, k, ⟨_, k, k, .inl ⟨k, okI.plainO _⟩⟩, k, ⟨_, k, k, .inl ⟨k, okI.plainO _⟩⟩, k, k, k, k, k, trivial⟩ k) ?_ ?_
    ·intro x1 o h
     refine sQ <| rg <| ae (w_cmp k k k) k <| an <| tn <| sQ ?_
     rcases cb h with ⟨q7, h⟩ | ⟨q7, h⟩
     ·refine ac_condT k q7 <| ac_skip <| tn <| sQ <| ac_block <| sQ <| rg ?_
      obtain ⟨v8, hv8, h⟩ := ob h
      refine ae (x_at_list TT_ok hv8 k k k k k k) k <| ae (w_load_ref TT_ok k k k k k k) k <| ae (w_alloc TT_ok k k) k <| ae (w_store TT_ok k k k k k k k k) k <| an <| tn <| sQ <| sQ <| rg <| ae (eff_move k) k ?_
      refine ae (w_load_ptr TT_ok k k k k k k k) k ?_
      obtain ⟨v9, hv9, h⟩ := ob h
      refine ae (w_call0s (c_impl_IsSpace a0 v8 v9 hv9) k (va_cons (va_same k) (va_cons (va_agg' (v1_cons (v1_same k) (v1_cons (v1_same k) v1_nil))) va_nil))) k <| ae (w_not k) k <| ae (eff_move k) k ?_
      rcases cb h with ⟨q10, h⟩ | ⟨q10, h⟩
      ·refine aops_lit 45 k q10 <| aops_skip k k <| aops_skip k k <| aops_skip k k <| aops_skip k k <| ae (eff_pick k k) k <| an <| tn <| ac_ent (t := mkS [(0, .int a0), (1, .int a1), (6, .ptr 0 0 0), (10, .ptr 1 0 0), (12, .ptr 6 0 0), (35, .list 2 (List.map eS a2)), (36, .int (a2.length : Int)), (37, .int x1.2.2), (50, .bl true)] [(0, ⟨6, [[.int 0, .int 0, .nil 1, .nil 1, .nil 1, .nil 3]]⟩), (1, ⟨6, [[.int a0, .int v1.1.n, .own 2 0 v1.1.src.length, .own 3 0 v1.1.tgt.length, .own 4 0 x1.1.length, .own 5 0 x1.2.1.length]]⟩), (2, ⟨1, List.map (ow eI) v1.1.src⟩), (3, ⟨1, List.map (ow eI) v1.1.tgt⟩), (4, ⟨1, List.map (ow eI) x1.1⟩), (5, ⟨3, List.map (ow eM) x1.2.1⟩), (6, ⟨2, [[.int v8.size, .list 1 (List.map (eLs 1 eI) v8.basis)]]⟩)] 7 [7, 8, 9, 10, 11, 12, 13]) (ent_mk (σ := sg [(0, 0), (1, 1), (2, 2), (3, 3), (4, 4), (5, 5), (6, 6)]) ⟨(e1 k k), (e1 k k), ⟨_, k, ⟨k, k, k, k⟩⟩, ⟨_, k, ⟨k, k, k, k⟩⟩, ⟨_, k, ⟨k, k, k, k⟩⟩, ⟨_, k, ⟨k, k⟩⟩, (e1 k k), (e1 k k), (e1 k k), trivial⟩ ⟨⟨_, k, k, .inl ⟨k, plain_of k⟩⟩, k, ⟨_, k, k, .inr ⟨_, _, k, ⟨_, _, k, k, ⟨_, _, k, k, ⟨_, _, k, ⟨k, k, k, k⟩, ⟨_, _, k, ⟨k, k, k, k⟩, ⟨_, _, k, ⟨k, k, k, k⟩, ⟨_, _, k, ⟨k, k, k, k⟩, k⟩⟩⟩⟩⟩⟩, k⟩⟩, k, ⟨_, k, k, .inl ⟨k, okI.plainO _⟩⟩, k, ⟨_, k, k, .inl ⟨k, okI.plainO _⟩⟩, k, ⟨_, k, k, .inl ⟨k, okI.plainO _⟩⟩, k, ⟨_, k, k, .inl ⟨k, okMt.plainO _⟩⟩, k, ⟨_, k, k, .inl ⟨k, plain_of k⟩⟩, k, trivial⟩ k) <| ac_condT k k ?_
       refine sQ <| rg <| ae (w_build TT_ok k k k k k k) k <| ae (w_store TT_ok k k k k k k k k) k <| ae (eff_assign k) k <| an <| tn <| ac_ret <| then_ret <| block_ret ?_
       refine then_ret <| then_ret ?_
       obtain rfl := so h
       exact ⟨_, k, k, ret_mk k k k (xz_tuple k (xB_cons (xB_agg (x1_cons (k) (x1_cons (k) (x1_cons (k) (x1_cons (k) (x1_cons (k) (x1_cons (k) x1_nil))))))) (xB_cons (k) xB_nil)))⟩
      ·refine aops_lit 45 k q10 <| ae (w_field_ptr TT_ok k k k k k k k) k <| ae (w_load_ptr TT_ok k k k k k k k) k <| ae (eff_move k) k <| ae (w_cmp k k k) k <| ae (eff_pick k k) k <| an <| tn <| ac_ent (t := mkS [(0, .int a0), (1, .int a1), (6, .ptr 0 0 0), (10, .ptr 1 0 0), (12, .ptr 6 0 0), (35, .list 2 (List.map eS a2)), (36, .int (a2.length : Int)), (37, .int x1.2.2), (50, .bl (!decide (v8.size = a1)))] [(0, ⟨6, [[.int 0, .int 0, .nil 1, .nil 1, .nil 1, .nil 3]]⟩), (1, ⟨6, [[.int a0, .int v1.1.n, .own 2 0 v1.1.src.length, .own 3 0 v1.1.tgt.length, .own 4 0 x1.1.length, .own 5 0 x1.2.1.length]]⟩), (2, ⟨1, List.map (ow eI) v1.1.src⟩), (3, ⟨1, List.map (ow eI) v1.1.tgt⟩), (4, ⟨1, List.map (ow eI) x1.1⟩), (5, ⟨3, List.map (ow eM) x1.2.1⟩), (6, ⟨2, [[.int v8.size, .list 1 (List.map (eLs 1 eI) v8.basis)]]⟩)] 7 [7, 8, 9, 10, 11, 12, 13]) (ent_mk (σ := sg [(0, 0), (1, 1), (2, 2), (3, 3), (4, 4), (5, 5), (6, 6)]) ⟨(e1 k k), (e1 k k), ⟨_, k, ⟨k, k, k, k⟩⟩, ⟨_, k, ⟨k, k, k, k⟩⟩, ⟨_, k, ⟨k, k, k, k⟩⟩, ⟨_, k, ⟨k, k⟩⟩, (e1 k k), (e1 k k), (e1 k k), trivial⟩ ⟨⟨_, k, k, .inl ⟨k, plain_of k⟩⟩, k, ⟨_, k, k, .inr ⟨_, _, k, ⟨_, _, k, k, ⟨_, _, k, k, ⟨_, _, k, ⟨k, k, k, k⟩, ⟨_, _, k, ⟨k, k, k, k⟩, ⟨_, _, k, ⟨k, k, k, k⟩, ⟨_, _, k, ⟨k, k, k, k⟩, k⟩⟩⟩⟩⟩⟩, k⟩⟩, k, ⟨_, k, k, .inl ⟨k, okI.plainO _⟩⟩, k, ⟨_, k, k, .inl ⟨k, okI.plainO _⟩⟩, k, ⟨_, k, k, .inl ⟨k, okI.plainO _⟩⟩, k, ⟨_, k, k, .inl ⟨k, okMt.plainO _⟩⟩, k, ⟨_, k, k, .inl ⟨k, plain_of k⟩⟩, k, trivial⟩ k) ?_
       rcases cb h with ⟨q11, h⟩ | ⟨q11, h⟩
       ·refine ac_condT k q11 <| sQ <| rg <| ae (w_build TT_ok k k k k k k) k <| ae (w_store TT_ok k k k k k k k k) k <| ae (eff_assign k) k <| an <| tn <| ac_ret <| then_ret ?_
        refine block_ret <| then_ret <| then_ret ?_
        obtain rfl := so h
        exact ⟨_, k, k, ret_mk k k k (xz_tuple k (xB_cons (xB_agg (x1_cons (k) (x1_cons (k) (x1_cons (k) (x1_cons (k) (x1_cons (k) (x1_cons (k) x1_nil))))))) (xB_cons (k) xB_nil)))⟩
       ·refine ac_condF k q11 <| ac_skip <| tn <| sQ <| rg <| ae (w_field_ptr TT_ok k k k k k k k) k <| ae (w_load_ptr TT_ok k k k k k k k) k <| ae (w_field_ptr TT_ok k k k k k k k) k <| ae (w_load_ptr TT_ok k k k k k k k) k <| ae (AEff.val (w_len_list TT_ok k k k) (v' := .int (v8.basis.length : Int)) (by first | rw [len_map] | rw [encI_len])) k ?_
        refine ae (w_lit TT_ok k k k k k k k k k k k k) k ?_
        obtain ⟨q12, h⟩ := cg h
        refine ae (x_app TT_ok (l := x1.1) (m := [(v8.basis.length : Int)]) okIo q12 k k k k k k k k k k k k) k <| ae (w_field_ptr TT_ok k k k k k k k) k <| ae (w_store TT_ok k k k k k k k k) k <| an <| tn <| ac_region_draw MIXX <| ae (w_field_ptr TT_ok k k k k k k k) k <| ae (w_load_ptr TT_ok k k k k k k k) k <| ae (eff_move k) k <| ae (w_field_ptr TT_ok k k k k k k k) k ?_
        refine ae (w_load_ptr TT_ok k k k k k k k) k ?_
        obtain ⟨v13, hv13, h⟩ := ob h
        refine ae (AEff.conv (w_call0 (x := .agg [.int v13.rows, .int v13.cols, .own 9 0 (List.map eI v13.cells).length]) (nb := [(9, ⟨1, absEs (List.map eI v13.cells)⟩)]) (c_impl_fromColumns a1 v8.basis v13 hv13) k (by rfl) k k (g1_cons trivial (g1_cons trivial (g1_cons (okI.good _) g1_nil))) (va_cons (va_same k) (va_cons (va_same k) va_nil))) (v' := .agg [.int v13.rows, .int v13.cols, .own 9 0 v13.cells.length]) (ed' := [(9, some ⟨1, List.map (ow eI) v13.cells⟩)]) (by simp only [len_map]) (ed_ok (nb' := [(9, ⟨1, List.map (ow eI) v13.cells⟩)]) (by simp only [abs_map]))) k <| ae (w_lit TT_ok k k k k k k k k k k k k) k ?_
        obtain ⟨q14, h⟩ := cg h
        refine ae (x_app1 TT_ok (l := x1.2.1) (c := [.int v13.rows, .int v13.cols, .own 9 0 v13.cells.length]) q14 k k k k k k k k k k k k k k) k <| ae (w_field_ptr TT_ok k k k k k k k) k <| ae (w_store TT_ok k k k k k k k k) k <| an ?_
        refine ⟨by kernel_rfl, ?_⟩
        refine block_n <| tn <| ac_ent (t := mkS [(0, .int a0), (1, .int a1), (6, .ptr 0 0 0), (10, .ptr 1 0 0), (35, .list 2 (List.map eS a2)), (36, .int (a2.length : Int)), (37, .int x1.2.2)] [(0, ⟨6, [[.int 0, .int 0, .nil 1, .nil 1, .nil 1, .nil 3]]⟩), (1, ⟨6, [[.int a0, .int v1.1.n, .own 2 0 v1.1.src.length, .own 3 0 v1.1.tgt.length, .own 8 0 ((x1.1 ++ [(v8.basis.length : Int)]).length), .own 11 0 ((x1.2.1 ++ [v13]).length)]]⟩), (2, ⟨1, List.map (ow eI) v1.1.src⟩), (3, ⟨1, List.map (ow eI) v1.1.tgt⟩), (8, ⟨1, List.map (ow eI) (x1.1 ++ [(v8.basis.length : Int)])⟩), (11, ⟨3, List.map (ow eM) (x1.2.1 ++ [v13])⟩)] 12 [12, 13]) (Ent.trans (ent_absL (b := 11) (b' := 9) (j := 2) (es' := List.map eI v13.cells) k k k k (len_map _ _) (okI.frzs _)) (ent_mk (σ := sg [(0, 0), (1, 1), (2, 2), (3, 3), (8, 8), (11, 11)]) ⟨(e1 k k), (e1 k k), ⟨_, k, ⟨k, k, k, k⟩⟩, ⟨_, k, ⟨k, k, k, k⟩⟩, ⟨_, k, ⟨k, k⟩⟩, (e1 k k), (e1 k k), trivial⟩ ⟨⟨_, k, k, .inl ⟨k, plain_of k⟩⟩, k, ⟨_, k, k, .inr ⟨_, _, k, ⟨_, _, k, k, ⟨_, _, k, k, ⟨_, _, k, ⟨k, k, k, k⟩, ⟨_, _, k, ⟨k, k, k, k⟩, ⟨_, _, k, ⟨k, k, k, k⟩, ⟨_, _, k, ⟨k, k, (by simp only [len_map, List.length_append, List.length_set, List.length_replicate, List.length_cons, List.length_nil]), k⟩, k⟩⟩⟩⟩⟩⟩, k⟩⟩, k, ⟨_, k, k, .inl ⟨k, okI.plainO _⟩⟩, k, ⟨_, k, k, .inl ⟨k, okI.plainO _⟩⟩, k, ⟨_, k, k, .inl ⟨k, okI.plainO _⟩⟩, k, ⟨_, k, k, .inl ⟨app_eq v13 k, okMt.plainO _⟩⟩, k, trivial⟩ k)) <| rg <| ae (x_add k k) k <| ae (eff_move k) k <| an <| tn ?_
        obtain rfl := so h
        exact ⟨_, k, (ent_mk (σ := sg [(0, 0), (1, 1), (2, 2), (3, 3), (4, 8), (5, 11)]) ⟨(e1 k k), (e1 k k), ⟨_, k, ⟨k, k, k, k⟩⟩, ⟨_, k, ⟨k, k, k, k⟩⟩, ⟨_, k, ⟨k, k⟩⟩, (e1 k k), (e1 k k), trivial⟩ ⟨⟨_, k, k, .inl ⟨k, plain_of k⟩⟩, k, ⟨_, k, k, .inr ⟨_, _, k, ⟨_, _, k, k, ⟨_, _, k, k, ⟨_, _, k, ⟨k, k, k, k⟩, ⟨_, _, k, ⟨k, k, k, k⟩, ⟨_, _, k, ⟨k, k, k, k⟩, ⟨_, _, k, ⟨k, k, k, k⟩, k⟩⟩⟩⟩⟩⟩, k⟩⟩, k, ⟨_, k, k, .inl ⟨k, okI.plainO _⟩⟩, k, ⟨_, k, k, .inl ⟨k, okI.plainO _⟩⟩, k, ⟨_, k, k, .inl ⟨k, okI.plainO _⟩⟩, k, ⟨_, k, k, .inl ⟨k, okMt.plainO _⟩⟩, k, trivial⟩ k)⟩
     ·refine ac_condF k q7 <| ac_exit <| then_exit <| then_exit ?_
      obtain rfl := so h
      exact ⟨_, k, k, (ent_mk (σ := sg [(0, 0), (1, 1), (2, 2), (3, 3), (4, 4), (5, 5)]) ⟨(e1 k k), ⟨_, k, ⟨k, k, k, k⟩⟩, ⟨_, k, ⟨k, k, k, k⟩⟩, trivial⟩ ⟨⟨_, k, k, .inl ⟨k, plain_of k⟩⟩, k, ⟨_, k, k, .inr ⟨_, _, k, ⟨_, _, k, k, ⟨_, _, k, k, ⟨_, _, k, ⟨k, k, k, k⟩, ⟨_, _, k, ⟨k, k, k, k⟩, ⟨_, _, k, ⟨k, k, k, k⟩, ⟨_, _, k, ⟨k, k, k, k⟩, k⟩⟩⟩⟩⟩⟩, k⟩⟩, k, ⟨_, k, k, .inl ⟨k, okI.plainO _⟩⟩, k, ⟨_, k, k, .inl ⟨k, okI.plainO _⟩⟩, k, ⟨_, k, k, .inl ⟨k, okI.plainO _⟩⟩, k, ⟨_, k, k, .inl ⟨k, okMt.plainO _⟩⟩, k, trivial⟩ k)⟩
    ·intro e t hX
     rcases y15 with y16 | y20
     ·obtain ⟨rfl, hent⟩ := hX
      refine block_here <| tn <| ac_ent hent <| sQ <| rg <| ae (w_field_ptr TT_ok k k k k k k k) k <| ae (w_load_ptr TT_ok k k k k k k k) k <| ae (eff_move k) k <| ae (w_lit TT_ok k k k k k k k k k k k k) k ?_
      obtain ⟨q17, h⟩ := cg h
      refine ae (x_app TT_ok (l := y16.1) (m := [a1]) okIo q17 k k k k k k k k k k k k) k <| ae (w_field_ptr TT_ok k k k k k k k) k <| ae (w_store TT_ok k k k k k k k k) k <| an <| tn <| sQ <| sQ <| rg <| ae (w_load_ptr TT_ok k k k k k k k) k ?_
      obtain ⟨v18, hv18, h⟩ := ob h
      refine ae (w_call0s (c_impl_IsRep (⟨a0, v1.1, (y16.1 ++ [a1]), y16.2⟩ : Rp) v18 hv18) k (va_cons (va_agg' (v1_cons (v1_same k) (v1_cons (v1_same k) (v1_cons (v1_T okI k k) (v1_cons (v1_T okI k k) (v1_cons (v1_T okI k k) (v1_cons (v1_T okMt k k) v1_nil))))))) va_nil)) k <| ae (w_not k) k <| an <| tn ?_
      rcases cb h with ⟨q19, h⟩ | ⟨q19, h⟩
      ·refine ac_condT k q19 <| sQ <| rg <| ae (w_build TT_ok k k k k k k) k <| ae (w_store TT_ok k k k k k k k k) k <| ae (eff_assign k) k <| an <| tn <| ac_ent (t := mkS [(6, .ptr 0 0 0), (7, .bl false)] [(0, ⟨6, [[.int 0, .int 0, .nil 1, .nil 1, .nil 1, .nil 3]]⟩)] 8 [8, 9, 10, 11, 12, 13]) (ent_mk (σ := sg [(0, 0)]) ⟨⟨_, k, ⟨k, k, k, k⟩⟩, (e1 k k), trivial⟩ ⟨⟨_, k, k, .inl ⟨k, plain_of k⟩⟩, k, trivial⟩ k) <| ac_ret ?_
       refine then_ret ?_
       obtain rfl := so h
       exact ret_mk k k k (xz_tuple k (xB_cons (xB_agg (x1_cons (k) (x1_cons (k) (x1_cons (k) (x1_cons (k) (x1_cons (k) (x1_cons (k) x1_nil))))))) (xB_cons (k) xB_nil)))
      ·refine ac_condF k q19 <| ac_skip <| tn <| sQ <| rg <| ae (w_load_ptr TT_ok k k k k k k k) k <| ae (w_store TT_ok k k k k k k k k) k <| ae (eff_assign k) k <| an <| tn ?_
       refine ac_ent (t := mkS [(6, .ptr 0 0 0), (7, .bl true)] [(0, ⟨6, [[.int a0, .int v1.1.n, .own 2 0 v1.1.src.length, .own 3 0 v1.1.tgt.length, .own 7 0 ((y16.1 ++ [a1]).length), .own 5 0 y16.2.length]]⟩), (2, ⟨1, List.map (ow eI) v1.1.src⟩), (3, ⟨1, List.map (ow eI) v1.1.tgt⟩), (5, ⟨3, List.map (ow eM) y16.2⟩), (7, ⟨1, List.map (ow eI) (y16.1 ++ [a1])⟩)] 8 [8, 9, 10, 11, 12, 13]) (ent_mk (σ := sg [(0, 0), (2, 2), (3, 3), (5, 5), (7, 7)]) ⟨⟨_, k, ⟨k, k, k, k⟩⟩, (e1 k k), trivial⟩ ⟨⟨_, k, k, .inr ⟨_, _, k, ⟨_, _, k, k, ⟨_, _, k, k, ⟨_, _, k, ⟨k, k, k, k⟩, ⟨_, _, k, ⟨k, k, k, k⟩, ⟨_, _, k, ⟨k, k, k, k⟩, ⟨_, _, k, ⟨k, k, k, k⟩, k⟩⟩⟩⟩⟩⟩, k⟩⟩, k, ⟨_, k, k, .inl ⟨k, okI.plainO _⟩⟩, k, ⟨_, k, k, .inl ⟨k, okI.plainO _⟩⟩, k, ⟨_, k, k, .inl ⟨k, okMt.plainO _⟩⟩, k, ⟨_, k, k, .inl ⟨k, okI.plainO _⟩⟩, k, trivial⟩ k) <| ac_ret ?_
       obtain rfl := so h
       exact ret_mk k k k (xz_tuple k (xB_cons (xB_agg (x1_cons (k) (x1_cons (k) (x1_cons (x_f1 okI k k) (x1_cons (x_f1 okI k k) (x1_cons (x_f1 okI k k) (x1_cons (x_f1 okMt k k) x1_nil))))))) (xB_cons (k) xB_nil)))
     ·obtain ⟨rfl, hent⟩ := hX
      refine block_ret <| then_ret ?_
      obtain rfl := so h
      exact hent

noncomputable def m_spec_l3Transpose_L2 (a0 : Mt) (x1 : ((List Int) × Int)) (x2 : ((List Int) × Int)) : Option (((List Int) × Int) ⊕ (List Int)) :=
  bif decide (x2.2 < a0.cols) then
    (Option.bind (atL a0.cells (wr ((wr (x1.2 * a0.cols)) + x2.2))) fun v4 =>
    Option.bind (atL x2.1 (wr ((wr (x2.2 * a0.rows)) + x1.2))) fun v5 =>
    some (.inl ((x2.1.set ((wr ((wr (x2.2 * a0.rows)) + x1.2)).toNat) v4), wr (x2.2 + 1))))
  else
    (some (.inr x2.1))

noncomputable def m_spec_l3Transpose_L1 (a0 : Mt) (x1 : ((List Int) × Int)) : Option (((List Int) × Int) ⊕ (List Int)) :=
  bif decide (x1.2 < a0.rows) then
    (Option.bind (Lp (m_spec_l3Transpose_L2 a0 x1) (x1.1, 0)) fun y6 =>
    some (.inl (y6, wr (x1.2 + 1))))
  else
    (some (.inr x1.1))

noncomputable def m_spec_l3Transpose (a0 : Mt) : Option Mt :=
  Option.bind (m_spec_l3Zero a0.cols a0.rows) fun v1 =>
  Option.bind (Lp (m_spec_l3Transpose_L1 a0) (v1.cells, 0)) fun y7 =>
  some ((⟨v1.rows, v1.cols, y7⟩ : Mt))

theorem c_spec_l3Transpose (a0 : Mt) (r : Mt) (h : m_spec_l3Transpose a0 = some r) : HasC Try.prog 73 [.agg (eM a0)] (.agg (eM r)) := by
 refine hasC_mk TT_ok (rvs := [.cell 2 81]) (ns := [0, 1, 2, 3, 4, 5]) Try.func73 k k Try.ntmps73 k k k <| sQ <| rg <| ae (w_box k k k k) k <| ae (w_alloc TT_ok k k) k <| an <| tn <| sQ <| rg <| ae (w_field_ptr TT_ok k k k k k k k) k ?_
 refine ae (w_load_ptr TT_ok k k k k k k k) k <| ae (w_field_ptr TT_ok k k k k k k k) k <| ae (w_load_ptr TT_ok k k k k k k k) k ?_
 obtain ⟨v1, hv1, h⟩ := ob h
 refine ae (AEff.conv (w_call0 (x := .agg [.int v1.rows, .int v1.cols, .own 2 0 (List.map eI v1.cells).length]) (nb := [(2, ⟨1, absEs (List.map eI v1.cells)⟩)]) (c_spec_l3Zero a0.cols a0.rows v1 hv1) k (by rfl) k k (g1_cons trivial (g1_cons trivial (g1_cons (okI.good _) g1_nil))) (va_cons (va_same k) (va_cons (va_same k) va_nil))) (v' := .agg [.int v1.rows, .int v1.cols, .own 2 0 v1.cells.length]) (ed' := [(2, some ⟨1, List.map (ow eI) v1.cells⟩)]) (by simp only [len_map]) (ed_ok (nb' := [(2, ⟨1, List.map (ow eI) v1.cells⟩)]) (by simp only [abs_map]))) k <| ae (w_alloc TT_ok k k) k <| ae (w_store TT_ok k k k k k k k k) k <| an <| tn <| sQ <| sQ <| rg <| ae (eff_assign k) k <| an ?_
 refine tn <| ac_block ?_
 obtain ⟨y7, hy7, h⟩ := ob h
 refine ac_Lp (body := (m_spec_l3Transpose_L1 a0)) hy7 (fun (x1 : ((List Int) × Int)) => mkS [(1, .ptr 0 0 0), (2, .ptr 1 0 0), (3, .ptr 2 0 0), (4, .int x1.2)] [(0, ⟨3, [[.int a0.rows, .int a0.cols, .list 1 (List.map eI a0.cells)]]⟩), (1, ⟨3, [[.int 0, .int 0, .nil 1]]⟩), (2, ⟨3, [[.int v1.rows, .int v1.cols, .own 3 0 x1.1.length]]⟩), (3, ⟨1, List.map (ow eI) x1.1⟩)] 4 [4, 5]) (fun r e t => e = .exit 0 ∧ Ent t (mkS [(2, .ptr 0 0 0), (3, .ptr 1 0 0)] [(0, ⟨3, [[.int 0, .int 0, .nil 1]]⟩), (1, ⟨3, [[.int v1.rows, .int v1.cols, .own 2 0 r.length]]⟩), (2, ⟨1, List.map (ow eI) r⟩)] 3 [3, 4, 5])) (ent_mk (σ := sg [(0, 0), (1, 1), (2, 3), (3, 2)]) ⟨⟨_, k, ⟨k, k, k, k⟩⟩, ⟨_, k, ⟨k, k, k, k⟩⟩, ⟨_, k, ⟨k, k, k, k⟩⟩, (e1 k k), trivial⟩ ⟨⟨_, k, k, .inl ⟨k, plain_of k⟩⟩, k, ⟨_, k, k, .inl ⟨k, plain_of k⟩⟩, k, ⟨_, k, k, .inr ⟨_, _, k, ⟨_, _, k, k, ⟨_, _, k, k, ⟨_, _, k, ⟨k, k, k, k⟩, k⟩⟩⟩, k⟩⟩, k, ⟨_, k, k, .inl ⟨k, okI.plainO _⟩⟩, k, trivial⟩ k) ?_ ?_
 ·intro x1 o h
  refine sQ <| sQ <| rg <| ae (eff_move k) k <| ae (w_field_ptr TT_ok k k k k k k k) k <| ae (w_load_ptr TT_ok k k k k k k k) k <| ae (w_cmp k k k) k <| an <| tn ?_
  rcases cb h with ⟨q2, h⟩ | ⟨q2, h⟩
  ·refine ac_condT k q2 <| ac_skip <| tn <| sQ <| ac_block <| sQ <| rg <| ae (eff_assign k) k <| an <| tn ?_
   refine ac_block ?_
   obtain ⟨y6, hy6, h⟩ := ob h
   refine ac_Lp (body := (m_spec_l3Transpose_L2 a0 x1)) hy6 (fun (x2 : ((List Int) × Int)) => mkS [(1, .ptr 0 0 0), (2, .ptr 1 0 0), (3, .ptr 2 0 0), (4, .int x1.2), (5, .int x2.2)] [(0, ⟨3, [[.int a0.rows, .int a0.cols, .list 1 (List.map eI a0.cells)]]⟩), (1, ⟨3, [[.int 0, .int 0, .nil 1]]⟩), (2, ⟨3, [[.int v1.rows, .int v1.cols, .own 3 0 x2.1.length]]⟩), (3, ⟨1, List.map (ow eI) x2.1⟩)] 4 [4, 5]) (fun r e t => e = .exit 2 ∧ Ent t (mkS [(1, .ptr 0 0 0), (2, .ptr 1 0 0), (3, .ptr 2 0 0), (4, .int x1.2)] [(0, ⟨3, [[.int a0.rows, .int a0.cols, .list 1 (List.map eI a0.cells)]]⟩), (1, ⟨3, [[.int 0, .int 0, .nil 1]]⟩), (2, ⟨3, [[.int v1.rows, .int v1.cols, .own 3 0 r.length]]⟩), (3, ⟨1, List.map (ow eI) r⟩)] 4 [4, 5])) (ent_mk (σ := sg [(0, 0), (1, 1), (2, 2), (3, 3)]) ⟨⟨_, k, ⟨k, k, k, k⟩⟩, ⟨_, k, ⟨k, k, k, k⟩⟩, ⟨_, k, ⟨k, k, k, k⟩⟩, (e1 k k), (e1 k k), trivial⟩ ⟨⟨_, k, k, .inl ⟨k, plain_of k⟩⟩, k, ⟨_, k, k, .inl ⟨k, plain_of k⟩⟩, k, ⟨_, k, k, .inr ⟨_, _, k, ⟨_, _, k, k, ⟨_, _, k, k, ⟨_, _, k, ⟨k, k, k, k⟩, k⟩⟩⟩, k⟩⟩, k, ⟨_, k, k, .inl ⟨k, okI.plainO _⟩⟩, k, trivial⟩ k) ?_ ?_
   ·intro x2 o h
    refine sQ <| sQ <| rg <| ae (eff_move k) k <| ae (w_field_ptr TT_ok k k k k k k k) k <| ae (w_load_ptr TT_ok k k k k k k k) k <| ae (w_cmp k k k) k <| an <| tn ?_
    rcases cb h with ⟨q3, h⟩ | ⟨q3, h⟩
    ·refine ac_condT k q3 <| ac_skip <| tn <| sQ <| ac_block <| ac_region_draw MIXX <| ae (w_field_ptr TT_ok k k k k k k k) k <| ae (w_load_ptr TT_ok k k k k k k k) k <| ae (eff_move k) k <| ae (w_field_ptr TT_ok k k k k k k k) k ?_
     refine ae (w_load_ptr TT_ok k k k k k k k) k <| ae (x_mul k k) k <| ae (eff_move k) k <| ae (x_add k k) k <| ae (w_field_ptr TT_ok k k k k k k k) k <| ae (w_load_ptr TT_ok k k k k k k k) k <| ae (eff_move k) k <| ae (w_field_ptr TT_ok k k k k k k k) k <| ae (w_load_ptr TT_ok k k k k k k k) k <| ae (x_mul k k) k ?_
     refine ae (eff_move k) k <| ae (x_add k k) k ?_
     obtain ⟨v4, hv4, h⟩ := ob h
     refine ae (x_at_list TT_ok hv4 k k k k k k) k <| ae (w_load_ref TT_ok k k k k k k) k ?_
     obtain ⟨v5, hv5, h⟩ := ob h
     refine ae (x_at_own TT_ok (atL_nn hv5) (atL_lt hv5) k k k k k k k) k <| ae (x_store TT_ok okIo (u := v4) (atL_get hv5) k k k k k k) k <| an ?_
     refine ⟨by kernel_rfl, ?_⟩
     refine block_n <| tn <| ac_ent (t := mkS [(1, .ptr 0 0 0), (2, .ptr 1 0 0), (3, .ptr 2 0 0), (4, .int x1.2), (5, .int x2.2)] [(0, ⟨3, [[.int a0.rows, .int a0.cols, .list 1 (List.map eI a0.cells)]]⟩), (1, ⟨3, [[.int 0, .int 0, .nil 1]]⟩), (2, ⟨3, [[.int v1.rows, .int v1.cols, .own 3 0 ((x2.1.set ((wr ((wr (x2.2 * a0.rows)) + x1.2)).toNat) v4).length)]]⟩), (3, ⟨1, List.map (ow eI) (x2.1.set ((wr ((wr (x2.2 * a0.rows)) + x1.2)).toNat) v4)⟩)] 4 [4, 5]) (ent_mk (σ := sg [(0, 0), (1, 1), (2, 2), (3, 3)]) ⟨⟨_, k, ⟨k, k, k, k⟩⟩, ⟨_, k, ⟨k, k, k, k⟩⟩, ⟨_, k, ⟨k, k, k, k⟩⟩, (e1 k k), (e1 k k), trivial⟩ ⟨⟨_, k, k, .inl ⟨k, plain_of k⟩⟩, k, ⟨_, k, k, .inl ⟨k, plain_of k⟩⟩, k, ⟨_, k, k, .inr ⟨_, _, k, ⟨_, _, k, k, ⟨_, _, k, k, ⟨_, _, k, ⟨k, k, (by simp only [len_map, List.length_append, List.length_set, List.length_replicate, List.length_cons, List.length_nil]), k⟩, k⟩⟩⟩, k⟩⟩, k, ⟨_, k, k, .inl ⟨k, okI.plainO _⟩⟩, k, trivial⟩ k) <| rg <| ae (eff_move k) k <| ae (x_add k k) k <| ae (eff_assign k) k <| an <| tn ?_
     obtain rfl := so h
     exact ⟨_, k, (ent_mk (σ := sg [(0, 0), (1, 1), (2, 2), (3, 3)]) ⟨⟨_, k, ⟨k, k, k, k⟩⟩, ⟨_, k, ⟨k, k, k, k⟩⟩, ⟨_, k, ⟨k, k, k, k⟩⟩, (e1 k k), (e1 k k), trivial⟩ ⟨⟨_, k, k, .inl ⟨k, plain_of k⟩⟩, k, ⟨_, k, k, .inl ⟨k, plain_of k⟩⟩, k, ⟨_, k, k, .inr ⟨_, _, k, ⟨_, _, k, k, ⟨_, _, k, k, ⟨_, _, k, ⟨k, k, k, k⟩, k⟩⟩⟩, k⟩⟩, k, ⟨_, k, k, .inl ⟨k, okI.plainO _⟩⟩, k, trivial⟩ k)⟩
    ·refine ac_condF k q3 <| ac_exit <| then_exit <| then_exit ?_
     obtain rfl := so h
     exact ⟨_, k, k, (ent_mk (σ := sg [(0, 0), (1, 1), (2, 2), (3, 3)]) ⟨⟨_, k, ⟨k, k, k, k⟩⟩, ⟨_, k, ⟨k, k, k, k⟩⟩, ⟨_, k, ⟨k, k, k, k⟩⟩, (e1 k k), trivial⟩ ⟨⟨_, k, k, .inl ⟨k, plain_of k⟩⟩, k, ⟨_, k, k, .inl ⟨k, plain_of k⟩⟩, k, ⟨_, k, k, .inr ⟨_, _, k, ⟨_, _, k, k, ⟨_, _, k, k, ⟨_, _, k, ⟨k, k, k, k⟩, k⟩⟩⟩, k⟩⟩, k, ⟨_, k, k, .inl ⟨k, okI.plainO _⟩⟩, k, trivial⟩ k)⟩
   ·rintro e t ⟨rfl, hent⟩
    refine block_here <| block_n <| tn <| ac_ent hent <| rg <| ae (eff_move k) k <| ae (x_add k k) k <| ae (eff_assign k) k <| an <| tn ?_
    obtain rfl := so h
    exact ⟨_, k, (ent_mk (σ := sg [(0, 0), (1, 1), (2, 2), (3, 3)]) ⟨⟨_, k, ⟨k, k, k, k⟩⟩, ⟨_, k, ⟨k, k, k, k⟩⟩, ⟨_, k, ⟨k, k, k, k⟩⟩, (e1 k k), trivial⟩ ⟨⟨_, k, k, .inl ⟨k, plain_of k⟩⟩, k, ⟨_, k, k, .inl ⟨k, plain_of k⟩⟩, k, ⟨_, k, k, .inr ⟨_, _, k, ⟨_, _, k, k, ⟨_, _, k, k, ⟨_, _, k, ⟨k, k, k, k⟩, k⟩⟩⟩, k⟩⟩, k, ⟨_, k, k, .inl ⟨k, okI.plainO _⟩⟩, k, trivial⟩ k)⟩
  ·refine ac_condF k q2 <| ac_exit <| then_exit <| then_exit ?_
   obtain rfl := so h
   exact ⟨_, k, k, (ent_mk (σ := sg [(0, 1), (1, 2), (2, 3)]) ⟨⟨_, k, ⟨k, k, k, k⟩⟩, ⟨_, k, ⟨k, k, k, k⟩⟩, trivial⟩ ⟨⟨_, k, k, .inl ⟨k, plain_of k⟩⟩, k, ⟨_, k, k, .inr ⟨_, _, k, ⟨_, _, k, k, ⟨_, _, k, k, ⟨_, _, k, ⟨k, k, k, k⟩, k⟩⟩⟩, k⟩⟩, k, ⟨_, k, k, .inl ⟨k, okI.plainO _⟩⟩, k, trivial⟩ k)⟩
 ·rintro e t ⟨rfl, hent⟩
  refine block_here <| tn <| ac_ent hent <| sQ <| rg <| ae (w_load_ptr TT_ok k k k k k k k) k <| ae (w_store TT_ok k k k k k k k k) k <| an <| tn <| ac_ret ?_
  obtain rfl := so h
  exact ret_mk k k k (xz_agg (x1_cons (k) (x1_cons (k) (x1_cons (x_f1 okI k k) x1_nil))))

noncomputable def m_spec_l5Fine_L1 (a0 : Int) (a1 : Int) (a2 : (List (List Int))) (x1 : Int) : Option (Int ⊕ (Unit ⊕ Bool)) :=
  bif decide (x1 < (a2.length : Int)) then
    (Option.bind (atL a2 x1) fun v2 =>
    bif !decide ((v2.length : Int) = a1) then
      (some (.inr (.inr (false))))
    else
      (Option.bind (atL a2 x1) fun v4 =>
      Option.bind (m_spec_IsVector a0 v4) fun v5 =>
      bif !v5 then
        (some (.inr (.inr (false))))
      else
        (some (.inl (wr (x1 + 1))))))
  else
    (some (.inr (.inl ())))

noncomputable def m_spec_l5Fine (a0 : Int) (a1 : Int) (a2 : (List (List Int))) : Option Bool :=
  Option.bind (Lp (m_spec_l5Fine_L1 a0 a1 a2) 0) fun y7 =>
  Sum.elim (fun y8 =>
    Option.bind (m_spec_IsField a0) fun v9 =>
    bif v9 then
      (Option.bind (m_spec_l1In a1 0 8) fun v11 =>
      bif v11 then
        (some (decide ((a2.length : Int) ≤ 16)))
      else
        (some (false)))
    else
      (some (false))
  ) 
  (fun y13 =>
    some y13
  )
   y7

theorem c_spec_l5Fine (a0 : Int) (a1 : Int) (a2 : (List (List Int))) (r : Bool) (h : m_spec_l5Fine a0 a1 a2 = some r) : HasC Try.prog 108 [.int a0, .int a1, .list 1 (List.map (eLs 1 eI) a2)] (.bl r) := by
 refine hasC_mk TT_ok (rvs := [.tmp 6]) (ns := [0, 1]) Try.func108 k k Try.ntmps108 k k k <| sQ <| rg <| ae (eff_assign k) k <| an <| tn <| sQ <| sQ <| rg <| ae (eff_assign k) k ?_
 refine an <| tn <| ac_block ?_
 obtain ⟨y7, hy7, h⟩ := ob h
 refine ac_Lp (body := (m_spec_l5Fine_L1 a0 a1 a2)) hy7 (fun (x1 : Int) => mkS [(0, .int a0), (1, .int a1), (2, .list 1 (List.map (eLs 1 eI) a2)), (7, .int x1)] [] 0 [0, 1]) (fun r e t => Sum.elim (fun a => (fun r e t => e = .exit 0 ∧ Ent t (mkS [(0, .int a0), (1, .int a1), (2, .list 1 (List.map (eLs 1 eI) a2))] [] 0 [0, 1])) a e t) (fun b => (fun r e t => e = .ret ∧ RetQ TT [.tmp 6] (.bl r) .ret t) b e t) r) (ent_mk (σ := sg []) ⟨(e1 k k), (e1 k k), ⟨_, k, ⟨k, k⟩⟩, (e1 k k), trivial⟩ trivial k) ?_ ?_
 ·intro x1 o h
  refine sQ <| sQ <| rg <| ae (eff_move k) k <| ae (eff_move k) k <| ae (AEff.val (w_len_list TT_ok k k k) (v' := .int (a2.length : Int)) (by first | rw [len_map] | rw [encI_len])) k <| ae (w_cmp k k k) k <| an <| tn ?_
  rcases cb h with ⟨q1, h⟩ | ⟨q1, h⟩
  ·refine ac_condT k q1 <| ac_skip <| tn <| sQ <| ac_block <| sQ <| rg <| ae (eff_move k) k <| ae (eff_move k) k ?_
   obtain ⟨v2, hv2, h⟩ := ob h
   refine ae (x_at_list TT_ok hv2 k k k k k k) k <| ae (w_load_ref TT_ok k k k k k k) k <| ae (AEff.val (w_len_list TT_ok k k k) (v' := .int (v2.length : Int)) (by first | rw [len_map] | rw [encI_len])) k <| ae (eff_move k) k <| ae (w_cmp k k k) k <| ae (eff_move k) k ?_
   rcases cb h with ⟨q3, h⟩ | ⟨q3, h⟩
   ·refine aops_lit 21 k q3 <| aops_skip k k <| aops_skip k k <| aops_skip k k <| aops_skip k k <| aops_skip k k <| aops_skip k k <| aops_skip k k <| ae (eff_pick k k) k <| an ?_
    refine tn <| ac_ent (t := mkS [(0, .int a0), (1, .int a1), (2, .list 1 (List.map (eLs 1 eI) a2)), (7, .int x1), (29, .bl true)] [] 0 [0, 1]) (ent_mk (σ := sg []) ⟨(e1 k k), (e1 k k), ⟨_, k, ⟨k, k⟩⟩, (e1 k k), (e1 k k), trivial⟩ trivial k) <| ac_condT k k <| sQ <| rg <| ae (eff_assign k) k <| an <| tn <| ac_ret <| block_ret ?_
    refine then_ret <| then_ret ?_
    obtain rfl := so h
    exact ⟨_, k, k, ret_mk k k k (fz_bl k)⟩
   ·refine aops_lit 21 k q3 <| ae (eff_move k) k <| ae (eff_move k) k <| ae (eff_move k) k ?_
    obtain ⟨v4, hv4, h⟩ := ob h
    refine ae (x_at_list TT_ok hv4 k k k k k k) k <| ae (w_load_ref TT_ok k k k k k k) k ?_
    obtain ⟨v5, hv5, h⟩ := ob h
    refine ae (w_call0s (c_spec_IsVector a0 v4 v5 hv5) k (va_cons (va_same k) (va_cons (va_same k) va_nil))) k <| ae (w_not k) k <| ae (eff_pick k k) k <| an <| tn <| ac_ent (t := mkS [(0, .int a0), (1, .int a1), (2, .list 1 (List.map (eLs 1 eI) a2)), (7, .int x1), (29, .bl (!v5))] [] 0 [0, 1]) (ent_mk (σ := sg []) ⟨(e1 k k), (e1 k k), ⟨_, k, ⟨k, k⟩⟩, (e1 k k), (e1 k k), trivial⟩ trivial k) ?_
    rcases cb h with ⟨q6, h⟩ | ⟨q6, h⟩
    ·refine ac_condT k q6 <| sQ <| rg <| ae (eff_assign k) k <| an <| tn <| ac_ret <| block_ret <| then_ret <| then_ret ?_
     obtain rfl := so h
     exact ⟨_, k, k, ret_mk k k k (fz_bl k)⟩
    ·refine ac_condF k q6 <| ac_skip <| block_n <| tn <| rg <| ae (eff_move k) k <| ae (x_add k k) k <| ae (eff_assign k) k <| an <| tn ?_
     obtain rfl := so h
     exact ⟨_, k, (ent_mk (σ := sg []) ⟨(e1 k k), (e1 k k), ⟨_, k, ⟨k, k⟩⟩, (e1 k k), trivial⟩ trivial k)⟩
  ·refine ac_condF k q1 <| ac_exit <| then_exit <| then_exit ?_
   obtain rfl := so h
   exact ⟨_, k, k, (ent_mk (σ := sg []) ⟨(e1 k k), (e1 k k), ⟨_, k, ⟨k, k⟩⟩, trivial⟩ trivial k)⟩
 ·intro e t hX
  rcases y7 with y8 | y13
  ·obtain ⟨rfl, hent⟩ := hX
   refine block_here <| tn <| ac_ent hent <| sQ <| rg <| ae (eff_move k) k ?_
   obtain ⟨v9, hv9, h⟩ := ob h
   refine ae (w_call0s (c_spec_IsField a0 v9 hv9) k (va_cons (va_same k) va_nil)) k <| ae (eff_move k) k ?_
   rcases cb h with ⟨q10, h⟩ | ⟨q10, h⟩
   ·refine aops_lit 32 k q10 <| ae (eff_move k) k ?_
    obtain ⟨v11, hv11, h⟩ := ob h
    refine ae (w_call0s (c_spec_l1In a1 0 8 v11 hv11) k (va_cons (va_same k) (va_cons (va_same k) (va_cons (va_same k) va_nil)))) k <| ae (eff_pick k k) k <| ae (eff_move k) k ?_
    rcases cb h with ⟨q12, h⟩ | ⟨q12, h⟩
    ·refine aops_lit 36 k q12 <| ae (eff_move k) k <| ae (AEff.val (w_len_list TT_ok k k k) (v' := .int (a2.length : Int)) (by first | rw [len_map] | rw [encI_len])) k <| ae (w_cmp k k k) k <| ae (eff_pick k k) k <| ae (eff_assign k) k <| an <| tn <| ac_ent (t := mkS [(6, .bl (decide ((a2.length : Int) ≤ 16)))] [] 0 [0, 1]) (ent_mk (σ := sg []) ⟨(e1 k k), trivial⟩ trivial k) <| ac_ret ?_
     obtain rfl := so h
     exact ret_mk k k k (fz_bl k)
    ·refine aops_lit 36 k q12 <| aops_skip k k <| aops_skip k k <| aops_skip k k <| ae (eff_pick k k) k <| ae (eff_assign k) k <| an <| tn <| ac_ent (t := mkS [(6, .bl false)] [] 0 [0, 1]) (ent_mk (σ := sg []) ⟨(e1 k k), trivial⟩ trivial k) <| ac_ret ?_
     obtain rfl := so h
     exact ret_mk k k k (fz_bl k)
   ·refine aops_lit 32 k q10 <| aops_skip k k <| aops_skip k k <| ae (eff_pick k k) k <| ae (eff_move k) k <| aops_skip k k <| aops_skip k k <| aops_skip k k <| ae (eff_pick k k) k <| ae (eff_assign k) k ?_
    refine an <| tn <| ac_ent (t := mkS [(6, .bl false)] [] 0 [0, 1]) (ent_mk (σ := sg []) ⟨(e1 k k), trivial⟩ trivial k) <| ac_ret ?_
    obtain rfl := so h
    exact ret_mk k k k (fz_bl k)
  ·obtain ⟨rfl, hent⟩ := hX
   refine block_ret <| then_ret ?_
   obtain rfl := so h
   exact hent

noncomputable def m_spec_l5Same_L2 (a0 : (List (List Int))) (a1 : (List (List Int))) (x1 : Int) (x2 : Int) : Option (Int ⊕ (Unit ⊕ Bool)) :=
  Option.bind (atL a0 x1) fun v6 =>
  bif decide (x2 < (v6.length : Int)) then
    (Option.bind (atL a0 x1) fun v8 =>
    Option.bind (atL v8 x2) fun v9 =>
    Option.bind (atL a1 x1) fun v10 =>
    Option.bind (atL v10 x2) fun v11 =>
    bif !decide (v9 = v11) then
      (some (.inr (.inr (false))))
    else
      (some (.inl (wr (x2 + 1)))))
  else
    (some (.inr (.inl ())))

noncomputable def m_spec_l5Same_L1 (a0 : (List (List Int))) (a1 : (List (List Int))) (x1 : Int) : Option (Int ⊕ (Unit ⊕ Bool)) :=
  bif decide (x1 < (a0.length : Int)) then
    (Option.bind (atL a0 x1) fun v3 =>
    Option.bind (atL a1 x1) fun v4 =>
    bif !decide ((v3.length : Int) = (v4.length : Int)) then
      (some (.inr (.inr (false))))
    else
      (Option.bind (Lp (m_spec_l5Same_L2 a0 a1 x1) 0) fun y13 =>
      Sum.elim (fun y14 =>
        some (.inl (wr (x1 + 1)))
      ) 
      (fun y15 =>
        some (.inr (.inr y15))
      )
       y13))
  else
    (some (.inr (.inl ())))

noncomputable def m_spec_l5Same (a0 : (List (List Int))) (a1 : (List (List Int))) : Option Bool :=
  bif !decide ((a0.length : Int) = (a1.length : Int)) then
    (some (false))
  else
    (Option.bind (Lp (m_spec_l5Same_L1 a0 a1) 0) fun y16 =>
    Sum.elim (fun y17 =>
      some (true)
    ) 
    (fun y18 =>
      some y18
    )
     y16)

theorem c_spec_l5Same (a0 : (List (List Int))) (a1 : (List (List Int))) (r : Bool) (h : m_spec_l5Same a0 a1 = some r) : HasC Try.prog 109 [.list 1 (List.map (eLs 1 eI) a0), .list 1 (List.map (eLs 1 eI) a1)] (.bl r) := by
 refine hasC_mk TT_ok (rvs := [.tmp 4]) (ns := [0, 1]) Try.func109 k k Try.ntmps109 k k k <| sQ <| rg <| ae (eff_assign k) k <| an <| tn <| sQ <| sQ <| rg <| ae (eff_move k) k ?_
 refine ae (AEff.val (w_len_list TT_ok k k k) (v' := .int (a0.length : Int)) (by first | rw [len_map] | rw [encI_len])) k <| ae (eff_move k) k <| ae (AEff.val (w_len_list TT_ok k k k) (v' := .int (a1.length : Int)) (by first | rw [len_map] | rw [encI_len])) k <| ae (w_cmp k k k) k <| an <| tn ?_
 rcases cb h with ⟨q1, h⟩ | ⟨q1, h⟩
 ·refine ac_condT k q1 <| sQ <| rg <| ae (eff_assign k) k <| an <| tn <| ac_ret <| then_ret ?_
  obtain rfl := so h
  exact ret_mk k k k (fz_bl k)
 ·refine ac_condF k q1 <| ac_skip <| tn <| sQ <| sQ <| rg <| ae (eff_assign k) k <| an <| tn <| ac_block ?_
  obtain ⟨y16, hy16, h⟩ := ob h
  refine ac_Lp (body := (m_spec_l5Same_L1 a0 a1)) hy16 (fun (x1 : Int) => mkS [(0, .list 1 (List.map (eLs 1 eI) a0)), (1, .list 1 (List.map (eLs 1 eI) a1)), (5, .int x1)] [] 0 [0, 1]) (fun r e t => Sum.elim (fun a => (fun r e t => e = .exit 0 ∧ Ent t (mkS [] [] 0 [0, 1])) a e t) (fun b => (fun r e t => e = .ret ∧ RetQ TT [.tmp 4] (.bl r) .ret t) b e t) r) (ent_mk (σ := sg []) ⟨⟨_, k, ⟨k, k⟩⟩, ⟨_, k, ⟨k, k⟩⟩, (e1 k k), trivial⟩ trivial k) ?_ ?_
  ·intro x1 o h
   refine sQ <| sQ <| rg <| ae (eff_move k) k <| ae (eff_move k) k <| ae (AEff.val (w_len_list TT_ok k k k) (v' := .int (a0.length : Int)) (by first | rw [len_map] | rw [encI_len])) k <| ae (w_cmp k k k) k <| an <| tn ?_
   rcases cb h with ⟨q2, h⟩ | ⟨q2, h⟩
   ·refine ac_condT k q2 <| ac_skip <| tn <| sQ <| ac_block <| sQ <| sQ <| ac_region_draw MIXX <| ae (eff_move k) k <| ae (eff_move k) k ?_
    obtain ⟨v3, hv3, h⟩ := ob h
    refine ae (x_at_list TT_ok hv3 k k k k k k) k <| ae (w_load_ref TT_ok k k k k k k) k <| ae (AEff.val (w_len_list TT_ok k k k) (v' := .int (v3.length : Int)) (by first | rw [len_map] | rw [encI_len])) k <| ae (eff_move k) k <| ae (eff_move k) k ?_
    obtain ⟨v4, hv4, h⟩ := ob h
    refine ae (x_at_list TT_ok hv4 k k k k k k) k <| ae (w_load_ref TT_ok k k k k k k) k <| ae (AEff.val (w_len_list TT_ok k k k) (v' := .int (v4.length : Int)) (by first | rw [len_map] | rw [encI_len])) k <| ae (w_cmp k k k) k <| an ?_
    refine ⟨by kernel_rfl, ?_⟩
    refine tn <| ac_ent (t := mkS [(0, .list 1 (List.map (eLs 1 eI) a0)), (1, .list 1 (List.map (eLs 1 eI) a1)), (5, .int x1), (28, .bl (!decide ((v3.length : Int) = (v4.length : Int))))] [] 0 [0, 1]) (ent_mk (σ := sg []) ⟨⟨_, k, ⟨k, k⟩⟩, ⟨_, k, ⟨k, k⟩⟩, (e1 k k), (e1 k k), trivial⟩ trivial k) ?_
    rcases cb h with ⟨q5, h⟩ | ⟨q5, h⟩
    ·refine ac_condT k q5 <| sQ <| rg <| ae (eff_assign k) k <| an <| tn <| ac_ret <| then_ret <| block_ret <| then_ret ?_
     refine then_ret ?_
     obtain rfl := so h
     exact ⟨_, k, k, ret_mk k k k (fz_bl k)⟩
    ·refine ac_condF k q5 <| ac_skip <| tn <| sQ <| rg <| ae (eff_assign k) k <| an <| tn <| ac_block ?_
     obtain ⟨y13, hy13, h⟩ := ob h
     refine ac_Lp (body := (m_spec_l5Same_L2 a0 a1 x1)) hy13 (fun (x2 : Int) => mkS [(0, .list 1 (List.map (eLs 1 eI) a0)), (1, .list 1 (List.map (eLs 1 eI) a1)), (5, .int x1), (6, .int x2)] [] 0 [0, 1]) (fun r e t => Sum.elim (fun a => (fun r e t => e = .exit 2 ∧ Ent t (mkS [(0, .list 1 (List.map (eLs 1 eI) a0)), (1, .list 1 (List.map (eLs 1 eI) a1)), (5, .int x1)] [] 0 [0, 1])) a e t) (fun b => (fun r e t => e = .ret ∧ RetQ TT [.tmp 4] (.bl r) .ret t) b e t) r) (ent_mk (σ := sg []) ⟨⟨_, k, ⟨k, k⟩⟩, ⟨_, k, ⟨k, k⟩⟩, (e1 k k), (e1 k k), trivial⟩ trivial k) ?_ ?_
     ·intro x2 o h
      refine sQ <| sQ <| rg <| ae (eff_move k) k <| ae (eff_move k) k <| ae (eff_move k) k ?_
      obtain ⟨v6, hv6, h⟩ := ob h
      refine ae (x_at_list TT_ok hv6 k k k k k k) k <| ae (w_load_ref TT_ok k k k k k k) k <| ae (AEff.val (w_len_list TT_ok k k k) (v' := .int (v6.length : Int)) (by first | rw [len_map] | rw [encI_len])) k <| ae (w_cmp k k k) k <| an <| tn ?_
      rcases cb h with ⟨q7, h⟩ | ⟨q7, h⟩
      ·refine ac_condT k q7 <| ac_skip <| tn <| sQ <| ac_block <| sQ <| ac_region_draw MIXX <| ae (eff_move k) k <| ae (eff_move k) k ?_
       obtain ⟨v8, hv8, h⟩ := ob h
       refine ae (x_at_list TT_ok hv8 k k k k k k) k <| ae (w_load_ref TT_ok k k k k k k) k <| ae (eff_move k) k ?_
       obtain ⟨v9, hv9, h⟩ := ob h
       refine ae (x_at_list TT_ok hv9 k k k k k k) k <| ae (w_load_ref TT_ok k k k k k k) k <| ae (eff_move k) k <| ae (eff_move k) k ?_
       obtain ⟨v10, hv10, h⟩ := ob h
       refine ae (x_at_list TT_ok hv10 k k k k k k) k <| ae (w_load_ref TT_ok k k k k k k) k <| ae (eff_move k) k ?_
       obtain ⟨v11, hv11, h⟩ := ob h
       refine ae (x_at_list TT_ok hv11 k k k k k k) k <| ae (w_load_ref TT_ok k k k k k k) k <| ae (w_cmp k k k) k <| an ?_
       refine ⟨by kernel_rfl, ?_⟩
       refine tn <| ac_ent (t := mkS [(0, .list 1 (List.map (eLs 1 eI) a0)), (1, .list 1 (List.map (eLs 1 eI) a1)), (5, .int x1), (6, .int x2), (52, .bl (!decide (v9 = v11)))] [] 0 [0, 1]) (ent_mk (σ := sg []) ⟨⟨_, k, ⟨k, k⟩⟩, ⟨_, k, ⟨k, k⟩⟩, (e1 k k), (e1 k k), (e1 k k), trivial⟩ trivial k) ?_
       rcases cb h with ⟨q12, h⟩ | ⟨q12, h⟩
       ·refine ac_condT k q12 <| sQ <| rg <| ae (eff_assign k) k <| an <| tn <| ac_ret <| block_ret <| then_ret <| then_ret ?_
        obtain rfl := so h
        exact ⟨_, k, k, ret_mk k k k (fz_bl k)⟩
       ·refine ac_condF k q12 <| ac_skip <| block_n <| tn <| rg <| ae (eff_move k) k <| ae (x_add k k) k <| ae (eff_assign k) k <| an <| tn ?_
        obtain rfl := so h
        exact ⟨_, k, (ent_mk (σ := sg []) ⟨⟨_, k, ⟨k, k⟩⟩, ⟨_, k, ⟨k, k⟩⟩, (e1 k k), (e1 k k), trivial⟩ trivial k)⟩
      ·refine ac_condF k q7 <| ac_exit <| then_exit <| then_exit ?_
       obtain rfl := so h
       exact ⟨_, k, k, (ent_mk (σ := sg []) ⟨⟨_, k, ⟨k, k⟩⟩, ⟨_, k, ⟨k, k⟩⟩, (e1 k k), trivial⟩ trivial k)⟩
     ·intro e t hX
      rcases y13 with y14 | y15
      ·obtain ⟨rfl, hent⟩ := hX
       refine block_here <| block_n <| tn <| ac_ent hent <| rg <| ae (eff_move k) k <| ae (x_add k k) k <| ae (eff_assign k) k <| an <| tn ?_
       obtain rfl := so h
       exact ⟨_, k, (ent_mk (σ := sg []) ⟨⟨_, k, ⟨k, k⟩⟩, ⟨_, k, ⟨k, k⟩⟩, (e1 k k), trivial⟩ trivial k)⟩
      ·obtain ⟨rfl, hent⟩ := hX
       refine block_ret <| block_ret <| then_ret <| then_ret ?_
       obtain rfl := so h
       exact ⟨_, k, k, hent⟩
   ·refine ac_condF k q2 <| ac_exit <| then_exit <| then_exit ?_
    obtain rfl := so h
    exact ⟨_, k, k, (ent_mk (σ := sg []) trivial trivial k)⟩
  ·intro e t hX
   rcases y16 with y17 | y18
   ·obtain ⟨rfl, hent⟩ := hX
    refine block_here <| tn <| ac_ent hent <| sQ <| rg <| ae (eff_assign k) k <| an <| tn <| ac_ret ?_
    obtain rfl := so h
    exact ret_mk k k k (fz_bl k)
   ·obtain ⟨rfl, hent⟩ := hX
    refine block_ret <| then_ret ?_
    obtain rfl := so h
    exact hent

noncomputable def m_spec_IsSpace (a0 : Int) (a1 : Sc) : Option Bool :=
  Option.bind (m_spec_l5Fine a0 a1.size a1.basis) fun v1 =>
  bif !v1 then
    (some (false))
  else
    (Option.bind (m_spec_l5Rows a1.size a1.basis) fun v3 =>
    Option.bind (m_spec_l5Basis a0 v3) fun v4 =>
    Option.bind (m_spec_l5Same v4 a1.basis) fun v5 =>
    some (v5))

theorem c_spec_IsSpace (a0 : Int) (a1 : Sc) (r : Bool) (h : m_spec_IsSpace a0 a1 = some r) : HasC Try.prog 70 [.int a0, .agg (eS a1)] (.bl r) := by
 refine hasC_mk TT_ok (rvs := [.tmp 4]) (ns := [0, 1, 2, 3, 4]) Try.func70 k k Try.ntmps70 k k k <| sQ <| rg <| ae (w_box k k k k) k <| ae (eff_assign k) k <| an <| tn <| sQ <| sQ <| rg ?_
 refine ae (eff_move k) k <| ae (w_field_ptr TT_ok k k k k k k k) k <| ae (w_load_ptr TT_ok k k k k k k k) k <| ae (w_field_ptr TT_ok k k k k k k k) k <| ae (w_load_ptr TT_ok k k k k k k k) k ?_
 obtain ⟨v1, hv1, h⟩ := ob h
 refine ae (w_call0s (c_spec_l5Fine a0 a1.size a1.basis v1 hv1) k (va_cons (va_same k) (va_cons (va_same k) (va_cons (va_same k) va_nil)))) k <| ae (w_not k) k <| an <| tn ?_
 rcases cb h with ⟨q2, h⟩ | ⟨q2, h⟩
 ·refine ac_condT k q2 <| sQ <| rg <| ae (eff_assign k) k <| an <| tn <| ac_ret <| then_ret ?_
  obtain rfl := so h
  exact ret_mk k k k (fz_bl k)
 ·refine ac_condF k q2 <| ac_skip <| tn <| sQ <| ac_region_draw MIXX <| ae (eff_move k) k <| ae (w_field_ptr TT_ok k k k k k k k) k <| ae (w_load_ptr TT_ok k k k k k k k) k <| ae (w_field_ptr TT_ok k k k k k k k) k <| ae (w_load_ptr TT_ok k k k k k k k) k ?_
  obtain ⟨v3, hv3, h⟩ := ob h
  refine ae (AEff.conv (w_call0 (x := .agg [.int v3.rows, .int v3.cols, .own 1 0 (List.map eI v3.cells).length]) (nb := [(1, ⟨1, absEs (List.map eI v3.cells)⟩)]) (c_spec_l5Rows a1.size a1.basis v3 hv3) k (by rfl) k k (g1_cons trivial (g1_cons trivial (g1_cons (okI.good _) g1_nil))) (va_cons (va_same k) (va_cons (va_same k) va_nil))) (v' := .agg [.int v3.rows, .int v3.cols, .own 1 0 v3.cells.length]) (ed' := [(1, some ⟨1, List.map (ow eI) v3.cells⟩)]) (by simp only [len_map]) (ed_ok (nb' := [(1, ⟨1, List.map (ow eI) v3.cells⟩)]) (by simp only [abs_map]))) k ?_
  obtain ⟨v4, hv4, h⟩ := ob h
  refine ae (AEff.conv (w_call0 (x := .own 2 0 (List.map (eLs 1 eI) v4).length) (nb := [(2, ⟨1, absEs (List.map (eLs 1 eI) v4)⟩)]) (c_spec_l5Basis a0 v3 v4 hv4) k (by rfl) k k (okLs.good _) (va_cons (va_same k) (va_cons (va_agg' (v1_cons (v1_same k) (v1_cons (v1_same k) (v1_cons (v1_T okI k k) v1_nil)))) va_nil))) (v' := .own 2 0 v4.length) (ed' := [(2, some ⟨1, List.map (ow (eLs 1 eI)) v4⟩)]) (by simp only [len_map]) (ed_ok (nb' := [(2, ⟨1, List.map (ow (eLs 1 eI)) v4⟩)]) (by simp only [abs_map]))) k <| ae (w_field_ptr TT_ok k k k k k k k) k <| ae (w_load_ptr TT_ok k k k k k k k) k ?_
  obtain ⟨v5, hv5, h⟩ := ob h
  refine ae (w_call0s (c_spec_l5Same v4 a1.basis v5 hv5) k (va_cons (va_T okLs k k) (va_cons (va_same k) va_nil))) k <| ae (eff_assign k) k <| an ?_
  refine ⟨by kernel_rfl, ?_⟩
  refine tn <| ac_ent (t := mkS [(4, .bl v5)] [] 3 [3, 4]) (ent_mk (σ := sg []) ⟨(e1 k k), trivial⟩ trivial k) <| ac_ret ?_
  obtain rfl := so h
  exact ret_mk k k k (fz_bl k)

def m_spec_l6Copy (a0 : Qv) : Option Qv :=
  bif decide (([] : (List Int)).length + a0.src.length ≤ 4294967296) then
    (bif decide (([] : (List Int)).length + a0.tgt.length ≤ 4294967296) then
      (some ((⟨a0.n, (([] : (List Int)) ++ a0.src), (([] : (List Int)) ++ a0.tgt)⟩ : Qv)))
    else none)
  else none

theorem c_spec_l6Copy (a0 : Qv) (r : Qv) (h : m_spec_l6Copy a0 = some r) : HasC Try.prog 111 [.agg (eQ a0)] (.agg (eQ r)) := by
 refine hasC_mk TT_ok (rvs := [.cell 2 30]) (ns := [0, 1, 2, 3, 4, 5, 6, 7]) Try.func111 k k Try.ntmps111 k k k <| sQ <| rg <| ae (w_box k k k k) k <| ae (w_alloc TT_ok k k) k <| an <| tn <| sQ <| ac_region_draw MIXX <| ae (w_field_ptr TT_ok k k k k k k k) k ?_
 refine ae (w_load_ptr TT_ok k k k k k k k) k <| ae (w_lit TT_ok k k k k k k k k k k k k) k <| ae (w_field_ptr TT_ok k k k k k k k) k <| ae (w_load_ptr TT_ok k k k k k k k) k ?_
 obtain ⟨q1, h⟩ := cg h
 refine ae (x_app TT_ok (l := ([] : (List Int))) (m := a0.src) okIo q1 k k k k k k k k k k k k) k <| ae (w_lit TT_ok k k k k k k k k k k k k) k <| ae (w_field_ptr TT_ok k k k k k k k) k <| ae (w_load_ptr TT_ok k k k k k k k) k ?_
 obtain ⟨q2, h⟩ := cg h
 refine ae (x_app TT_ok (l := ([] : (List Int))) (m := a0.tgt) okIo q2 k k k k k k k k k k k k) k <| ae (w_build TT_ok k k k k k k) k <| ae (w_store TT_ok k k k k k k k k) k <| an ?_
 refine ⟨by kernel_rfl, ?_⟩
 refine tn <| ac_ent (t := mkS [(2, .ptr 1 0 0)] [(1, ⟨3, [[.int a0.n, .own 3 0 ((([] : (List Int)) ++ a0.src).length), .own 5 0 ((([] : (List Int)) ++ a0.tgt).length)]]⟩), (3, ⟨1, List.map (ow eI) (([] : (List Int)) ++ a0.src)⟩), (5, ⟨1, List.map (ow eI) (([] : (List Int)) ++ a0.tgt)⟩)] 6 [6, 7]) (ent_mk (σ := sg [(1, 1), (3, 3), (5, 5)]) ⟨⟨_, k, ⟨k, k, k, k⟩⟩, trivial⟩ ⟨⟨_, k, k, .inr ⟨_, _, k, ⟨_, _, k, k, ⟨_, _, k, ⟨k, k, k, k⟩, ⟨_, _, k, ⟨k, k, k, k⟩, k⟩⟩⟩, k⟩⟩, k, ⟨_, k, k, .inl ⟨k, okI.plainO _⟩⟩, k, ⟨_, k, k, .inl ⟨k, okI.plainO _⟩⟩, k, trivial⟩ k) <| ac_ret ?_
 obtain rfl := so h
 exact ret_mk k k k (xz_agg (x1_cons (k) (x1_cons (x_f1 okI k k) (x1_cons (x_f1 okI k k) x1_nil))))

noncomputable def m_spec_l8Zero_L1 (a1 : Qv) (a2 : (List Int)) (x1 : ((List Mt) × Int)) : Option (((List Mt) × Int) ⊕ (List Mt)) :=
  bif decide (x1.2 < (a1.src.length : Int)) then
    (Option.bind (atL a1.tgt x1.2) fun v4 =>
    Option.bind (atL a2 v4) fun v5 =>
    Option.bind (atL a1.src x1.2) fun v6 =>
    Option.bind (atL a2 v6) fun v7 =>
    Option.bind (m_spec_l3Zero v5 v7) fun v8 =>
    bif decide (x1.1.length + 1 ≤ 4294967296) then
      (some (.inl ((x1.1 ++ [v8]), wr (x1.2 + 1))))
    else none)
  else
    (some (.inr x1.1))

noncomputable def m_spec_l8Zero (a0 : Int) (a1 : Qv) (a2 : (List Int)) : Option Rp :=
  Option.bind (m_spec_l6Copy a1) fun v1 =>
  bif decide (([] : (List Int)).length + a2.length ≤ 4294967296) then
    (Option.bind (Lp (m_spec_l8Zero_L1 a1 a2) (([] : (List Mt)), 0)) fun y10 =>
    some ((⟨a0, v1, (([] : (List Int)) ++ a2), y10⟩ : Rp)))
  else none

theorem c_spec_l8Zero (a0 : Int) (a1 : Qv) (a2 : (List Int)) (r : Rp) (h : m_spec_l8Zero a0 a1 a2 = some r) : HasC Try.prog 72 [.int a0, .agg (eQ a1), .list 1 (List.map eI a2)] (.agg (eR r)) := by
 refine hasC_mk TT_ok (rvs := [.cell 6 33]) (ns := [0, 1, 2, 3, 4, 5, 6, 7, 8, 9, 10, 11]) Try.func72 k k Try.ntmps72 k k k <| sQ <| rg <| ae (w_box k k k k) k <| ae (w_alloc TT_ok k k) k <| an <| tn <| sQ <| rg <| ae (eff_move k) k ?_
 refine ae (w_load_ptr TT_ok k k k k k k k) k ?_
 obtain ⟨v1, hv1, h⟩ := ob h
 refine ae (AEff.conv (w_call0 (x := .agg [.int v1.n, .own 2 0 (List.map eI v1.src).length, .own 3 0 (List.map eI v1.tgt).length]) (nb := [(2, ⟨1, absEs (List.map eI v1.src)⟩), (3, ⟨1, absEs (List.map eI v1.tgt)⟩)]) (c_spec_l6Copy a1 v1 hv1) k (by rfl) k k (g1_cons trivial (g1_cons (okI.good _) (g1_cons (okI.good _) g1_nil))) (va_cons (va_agg' (v1_cons (v1_same k) (v1_cons (v1_same k) (v1_cons (v1_same k) v1_nil)))) va_nil)) (v' := .agg [.int v1.n, .own 2 0 v1.src.length, .own 3 0 v1.tgt.length]) (ed' := [(2, some ⟨1, List.map (ow eI) v1.src⟩), (3, some ⟨1, List.map (ow eI) v1.tgt⟩)]) (by simp only [len_map]) (ed_ok (nb' := [(2, ⟨1, List.map (ow eI) v1.src⟩), (3, ⟨1, List.map (ow eI) v1.tgt⟩)]) (by simp only [abs_map]))) k <| ae (w_lit TT_ok k k k k k k k k k k k k) k <| ae (eff_move k) k ?_
 obtain ⟨q2, h⟩ := cg h
 refine ae (x_app TT_ok (l := ([] : (List Int))) (m := a2) okIo q2 k k k k k k k k k k k k) k <| ae (w_lit TT_ok k k k k k k k k k k k k) k <| ae (w_build TT_ok k k k k k k) k <| ae (w_alloc TT_ok k k) k <| ae (w_store TT_ok k k k k k k k k) k <| an <| tn <| ac_ent (t := mkS [(2, .list 1 (List.map eI a2)), (4, .ptr 0 0 0), (6, .ptr 1 0 0), (7, .ptr 7 0 0)] [(0, ⟨3, [[.int a1.n, .list 1 (List.map eI a1.src), .list 1 (List.map eI a1.tgt)]]⟩), (1, ⟨6, [[.int 0, .int 0, .nil 1, .nil 1, .nil 1, .nil 3]]⟩), (2, ⟨1, List.map (ow eI) v1.src⟩), (3, ⟨1, List.map (ow eI) v1.tgt⟩), (5, ⟨1, List.map (ow eI) (([] : (List Int)) ++ a2)⟩), (6, ⟨3, List.map (ow eM) ([] : (List Mt))⟩), (7, ⟨6, [[.int a0, .int v1.n, .own 2 0 v1.src.length, .own 3 0 v1.tgt.length, .own 5 0 ((([] : (List Int)) ++ a2).length), .own 6 0 (([] : (List Mt)).length)]]⟩)] 8 [8, 9, 10, 11]) (ent_mk (σ := sg [(0, 0), (1, 1), (2, 2), (3, 3), (5, 5), (6, 6), (7, 7)]) ⟨⟨_, k, ⟨k, k⟩⟩, ⟨_, k, ⟨k, k, k, k⟩⟩, ⟨_, k, ⟨k, k, k, k⟩⟩, ⟨_, k, ⟨k, k, k, k⟩⟩, trivial⟩ ⟨⟨_, k, k, .inl ⟨k, plain_of k⟩⟩, k, ⟨_, k, k, .inl ⟨k, plain_of k⟩⟩, k, ⟨_, k, k, .inl ⟨k, okI.plainO _⟩⟩, k, ⟨_, k, k, .inl ⟨k, okI.plainO _⟩⟩, k, ⟨_, k, k, .inl ⟨k, okI.plainO _⟩⟩, k, ⟨_, k, k, .inl ⟨k, okMt.plainO _⟩⟩, k, ⟨_, k, k, .inr ⟨_, _, k, ⟨_, _, k, k, ⟨_, _, k, k, ⟨_, _, k, ⟨k, k, k, k⟩, ⟨_, _, k, ⟨k, k, k, k⟩, ⟨_, _, k, ⟨k, k, k, k⟩, ⟨_, _, k, ⟨k, k, (by simp only [len_map, List.length_append, List.length_set, List.length_replicate, List.length_cons, List.length_nil]), k⟩, k⟩⟩⟩⟩⟩⟩, k⟩⟩, k, trivial⟩ k) ?_
 refine sQ <| sQ <| rg <| ae (eff_assign k) k <| an <| tn <| ac_block ?_
 obtain ⟨y10, hy10, h⟩ := ob h
 refine ac_Lp (body := (m_spec_l8Zero_L1 a1 a2)) hy10 (fun (x1 : ((List Mt) × Int)) => mkS [(2, .list 1 (List.map eI a2)), (4, .ptr 0 0 0), (6, .ptr 1 0 0), (7, .ptr 2 0 0), (8, .int x1.2)] [(0, ⟨3, [[.int a1.n, .list 1 (List.map eI a1.src), .list 1 (List.map eI a1.tgt)]]⟩), (1, ⟨6, [[.int 0, .int 0, .nil 1, .nil 1, .nil 1, .nil 3]]⟩), (2, ⟨6, [[.int a0, .int v1.n, .own 3 0 v1.src.length, .own 4 0 v1.tgt.length, .own 5 0 ((([] : (List Int)) ++ a2).length), .own 6 0 x1.1.length]]⟩), (3, ⟨1, List.map (ow eI) v1.src⟩), (4, ⟨1, List.map (ow eI) v1.tgt⟩), (5, ⟨1, List.map (ow eI) (([] : (List Int)) ++ a2)⟩), (6, ⟨3, List.map (ow eM) x1.1⟩)] 7 [7, 8, 9, 10, 11]) (fun r e t => e = .exit 0 ∧ Ent t (mkS [(6, .ptr 0 0 0), (7, .ptr 1 0 0)] [(0, ⟨6, [[.int 0, .int 0, .nil 1, .nil 1, .nil 1, .nil 3]]⟩), (1, ⟨6, [[.int a0, .int v1.n, .own 2 0 v1.src.length, .own 3 0 v1.tgt.length, .own 4 0 ((([] : (List Int)) ++ a2).length), .own 5 0 r.length]]⟩), (2, ⟨1, List.map (ow eI) v1.src⟩), (3, ⟨1, List.map (ow eI) v1.tgt⟩), (4, ⟨1, List.map (ow eI) (([] : (List Int)) ++ a2)⟩), (5, ⟨3, List.map (ow eM) r⟩)] 6 [6, 7, 8, 9, 10, 11])) (ent_mk (σ := sg [(0, 0), (1, 1), (2, 7), (3, 2), (4, 3), (5, 5), (6, 6)]) ⟨⟨_, k, ⟨k, k⟩⟩, ⟨_, k, ⟨k, k, k, k⟩⟩, ⟨_, k, ⟨k, k, k, k⟩⟩, ⟨_, k, ⟨k, k, k, k⟩⟩, (e1 k k), trivial⟩ ⟨⟨_, k, k, .inl ⟨k, plain_of k⟩⟩, k, ⟨_, k, k, .inl ⟨k, plain_of k⟩⟩, k, ⟨_, k, k, .inr ⟨_, _, k, ⟨_, _, k, k, ⟨_, _, k, k, ⟨_, _, k, ⟨k, k, k, k⟩, ⟨_, _, k, ⟨k, k, k, k⟩, ⟨_, _, k, ⟨k, k, k, k⟩, ⟨_, _, k, ⟨k, k, k, k⟩, k⟩⟩⟩⟩⟩⟩, k⟩⟩, k, ⟨_, k, k, .inl ⟨k, okI.plainO _⟩⟩, k, ⟨_, k, k, .inl ⟨k, okI.plainO _⟩⟩, k, ⟨_, k, k, .inl ⟨k, okI.plainO _⟩⟩, k, ⟨_, k, k, .inl ⟨k, okMt.plainO _⟩⟩, k, trivial⟩ k) ?_ ?_
 ·intro x1 o h
  refine sQ <| sQ <| rg <| ae (eff_move k) k <| ae (w_field_ptr TT_ok k k k k k k k) k <| ae (w_load_ptr TT_ok k k k k k k k) k <| ae (AEff.val (w_len_list TT_ok k k k) (v' := .int (a1.src.length : Int)) (by first | rw [len_map] | rw [encI_len])) k <| ae (w_cmp k k k) k <| an <| tn ?_
  rcases cb h with ⟨q3, h⟩ | ⟨q3, h⟩
  ·refine ac_condT k q3 <| ac_skip <| tn <| sQ <| ac_block <| ac_region_draw MIXX <| ae (w_field_ptr TT_ok k k k k k k k) k <| ae (w_load_ptr TT_ok k k k k k k k) k <| ae (eff_move k) k <| ae (w_field_ptr TT_ok k k k k k k k) k ?_
   refine ae (w_load_ptr TT_ok k k k k k k k) k <| ae (eff_move k) k ?_
   obtain ⟨v4, hv4, h⟩ := ob h
   refine ae (x_at_list TT_ok hv4 k k k k k k) k <| ae (w_load_ref TT_ok k k k k k k) k ?_
   obtain ⟨v5, hv5, h⟩ := ob h
   refine ae (x_at_list TT_ok hv5 k k k k k k) k <| ae (w_load_ref TT_ok k k k k k k) k <| ae (eff_move k) k <| ae (w_field_ptr TT_ok k k k k k k k) k <| ae (w_load_ptr TT_ok k k k k k k k) k <| ae (eff_move k) k ?_
   obtain ⟨v6, hv6, h⟩ := ob h
   refine ae (x_at_list TT_ok hv6 k k k k k k) k <| ae (w_load_ref TT_ok k k k k k k) k ?_
   obtain ⟨v7, hv7, h⟩ := ob h
   refine ae (x_at_list TT_ok hv7 k k k k k k) k <| ae (w_load_ref TT_ok k k k k k k) k ?_
   obtain ⟨v8, hv8, h⟩ := ob h
   refine ae (AEff.conv (w_call0 (x := .agg [.int v8.rows, .int v8.cols, .own 7 0 (List.map eI v8.cells).length]) (nb := [(7, ⟨1, absEs (List.map eI v8.cells)⟩)]) (c_spec_l3Zero v5 v7 v8 hv8) k (by rfl) k k (g1_cons trivial (g1_cons trivial (g1_cons (okI.good _) g1_nil))) (va_cons (va_same k) (va_cons (va_same k) va_nil))) (v' := .agg [.int v8.rows, .int v8.cols, .own 7 0 v8.cells.length]) (ed' := [(7, some ⟨1, List.map (ow eI) v8.cells⟩)]) (by simp only [len_map]) (ed_ok (nb' := [(7, ⟨1, List.map (ow eI) v8.cells⟩)]) (by simp only [abs_map]))) k <| ae (w_lit TT_ok k k k k k k k k k k k k) k ?_
   obtain ⟨q9, h⟩ := cg h
   refine ae (x_app1 TT_ok (l := x1.1) (c := [.int v8.rows, .int v8.cols, .own 7 0 v8.cells.length]) q9 k k k k k k k k k k k k k k) k <| ae (w_field_ptr TT_ok k k k k k k k) k <| ae (w_store TT_ok k k k k k k k k) k <| an ?_
   refine ⟨by kernel_rfl, ?_⟩
   refine block_n <| tn <| ac_ent (t := mkS [(2, .list 1 (List.map eI a2)), (4, .ptr 0 0 0), (6, .ptr 1 0 0), (7, .ptr 2 0 0), (8, .int x1.2)] [(0, ⟨3, [[.int a1.n, .list 1 (List.map eI a1.src), .list 1 (List.map eI a1.tgt)]]⟩), (1, ⟨6, [[.int 0, .int 0, .nil 1, .nil 1, .nil 1, .nil 3]]⟩), (2, ⟨6, [[.int a0, .int v1.n, .own 3 0 v1.src.length, .own 4 0 v1.tgt.length, .own 5 0 ((([] : (List Int)) ++ a2).length), .own 9 0 ((x1.1 ++ [v8]).length)]]⟩), (3, ⟨1, List.map (ow eI) v1.src⟩), (4, ⟨1, List.map (ow eI) v1.tgt⟩), (5, ⟨1, List.map (ow eI) (([] : (List Int)) ++ a2)⟩), (9, ⟨3, List.map (ow eM) (x1.1 ++ [v8])⟩)] 10 [10, 11]) (Ent.trans (ent_absL (b := 9) (b' := 7) (j := 2) (es' := List.map eI v8.cells) k k k k (len_map _ _) (okI.frzs _)) (ent_mk (σ := sg [(0, 0), (1, 1), (2, 2), (3, 3), (4, 4), (5, 5), (9, 9)]) ⟨⟨_, k, ⟨k, k⟩⟩, ⟨_, k, ⟨k, k, k, k⟩⟩, ⟨_, k, ⟨k, k, k, k⟩⟩, ⟨_, k, ⟨k, k, k, k⟩⟩, (e1 k k), trivial⟩ ⟨⟨_, k, k, .inl ⟨k, plain_of k⟩⟩, k, ⟨_, k, k, .inl ⟨k, plain_of k⟩⟩, k, ⟨_, k, k, .inr ⟨_, _, k, ⟨_, _, k, k, ⟨_, _, k, k, ⟨_, _, k, ⟨k, k, k, k⟩, ⟨_, _, k, ⟨k, k, k, k⟩, ⟨_, _, k, ⟨k, k, k, k⟩, ⟨_, _, k, ⟨k, k, (by simp only [len_map, List.length_append, List.length_set, List.length_replicate, List.length_cons, List.length_nil]), k⟩, k⟩⟩⟩⟩⟩⟩, k⟩⟩, k, ⟨_, k, k, .inl ⟨k, okI.plainO _⟩⟩, k, ⟨_, k, k, .inl ⟨k, okI.plainO _⟩⟩, k, ⟨_, k, k, .inl ⟨k, okI.plainO _⟩⟩, k, ⟨_, k, k, .inl ⟨app_eq v8 k, okMt.plainO _⟩⟩, k, trivial⟩ k)) <| rg <| ae (eff_move k) k <| ae (x_add k k) k ?_
   refine ae (eff_assign k) k <| an <| tn ?_
   obtain rfl := so h
   exact ⟨_, k, (ent_mk (σ := sg [(0, 0), (1, 1), (2, 2), (3, 3), (4, 4), (5, 5), (6, 9)]) ⟨⟨_, k, ⟨k, k⟩⟩, ⟨_, k, ⟨k, k, k, k⟩⟩, ⟨_, k, ⟨k, k, k, k⟩⟩, ⟨_, k, ⟨k, k, k, k⟩⟩, (e1 k k), trivial⟩ ⟨⟨_, k, k, .inl ⟨k, plain_of k⟩⟩, k, ⟨_, k, k, .inl ⟨k, plain_of k⟩⟩, k, ⟨_, k, k, .inr ⟨_, _, k, ⟨_, _, k, k, ⟨_, _, k, k, ⟨_, _, k, ⟨k, k, k, k⟩, ⟨_, _, k, ⟨k, k, k, k⟩, ⟨_, _, k, ⟨k, k, k, k⟩, ⟨_, _, k, ⟨k, k, k, k⟩, k⟩⟩⟩⟩⟩⟩, k⟩⟩, k, ⟨_, k, k, .inl ⟨k, okI.plainO _⟩⟩, k, ⟨_, k, k, .inl ⟨k, okI.plainO _⟩⟩, k, ⟨_, k, k, .inl ⟨k, okI.plainO _⟩⟩, k, ⟨_, k, k, .inl ⟨k, okMt.plainO _⟩⟩, k, trivial⟩ k)⟩
  ·refine ac_condF k q3 <| ac_exit <| then_exit <| then_exit ?_
   obtain rfl := so h
   exact ⟨_, k, k, (ent_mk (σ := sg [(0, 1), (1, 2), (2, 3), (3, 4), (4, 5), (5, 6)]) ⟨⟨_, k, ⟨k, k, k, k⟩⟩, ⟨_, k, ⟨k, k, k, k⟩⟩, trivial⟩ ⟨⟨_, k, k, .inl ⟨k, plain_of k⟩⟩, k, ⟨_, k, k, .inr ⟨_, _, k, ⟨_, _, k, k, ⟨_, _, k, k, ⟨_, _, k, ⟨k, k, k, k⟩, ⟨_, _, k, ⟨k, k, k, k⟩, ⟨_, _, k, ⟨k, k, k, k⟩, ⟨_, _, k, ⟨k, k, k, k⟩, k⟩⟩⟩⟩⟩⟩, k⟩⟩, k, ⟨_, k, k, .inl ⟨k, okI.plainO _⟩⟩, k, ⟨_, k, k, .inl ⟨k, okI.plainO _⟩⟩, k, ⟨_, k, k, .inl ⟨k, okI.plainO _⟩⟩, k, ⟨_, k, k, .inl ⟨k, okMt.plainO _⟩⟩, k, trivial⟩ k)⟩
 ·rintro e t ⟨rfl, hent⟩
  refine block_here <| tn <| ac_ent hent <| sQ <| rg <| ae (w_load_ptr TT_ok k k k k k k k) k <| ae (w_store TT_ok k k k k k k k k) k <| an <| tn <| ac_ret ?_
  obtain rfl := so h
  exact ret_mk k k k (xz_agg (x1_cons (k) (x1_cons (k) (x1_cons (x_f1 okI k k) (x1_cons (x_f1 okI k k) (x1_cons (x_f1 okI k k) (x1_cons (x_f1 okMt k k) x1_nil)))))))

noncomputable def m_spec_RepOfSubspaces_L1 (a0 : Int) (a1 : Int) (a2 : (List Sc)) (x1 : ((List Int) × Int)) : Option (((List Int) × Int) ⊕ ((List Int) ⊕ (Rp × Bool))) :=
  bif decide (x1.2 < (a2.length : Int)) then
    (Option.bind (atL a2 x1.2) fun v8 =>
    Option.bind (m_spec_IsSpace a0 v8) fun v9 =>
    bif !v9 then
      (some (.inr (.inr (((⟨0, (⟨0, [], []⟩ : Qv), [], []⟩ : Rp), false)))))
    else
      (Option.bind (atL a2 x1.2) fun v11 =>
      bif !decide (v11.size = a1) then
        (some (.inr (.inr (((⟨0, (⟨0, [], []⟩ : Qv), [], []⟩ : Rp), false)))))
      else
        (Option.bind (atL a2 x1.2) fun v13 =>
        bif decide (x1.1.length + [(v13.basis.length : Int)].length ≤ 4294967296) then
          (some (.inl ((x1.1 ++ [(v13.basis.length : Int)]), wr (x1.2 + 1))))
        else none)))
  else
    (some (.inr (.inl x1.1)))

noncomputable def m_spec_RepOfSubspaces_L2 (a1 : Int) (a2 : (List Sc)) (x2 : ((List Mt) × Int)) : Option (((List Mt) × Int) ⊕ (List Mt)) :=
  bif decide (x2.2 < (a2.length : Int)) then
    (Option.bind (atL a2 x2.2) fun v22 =>
    Option.bind (m_spec_l5Rows a1 v22.basis) fun v23 =>
    Option.bind (m_spec_l3Transpose v23) fun v24 =>
    Option.bind (atL x2.1 x2.2) fun v25 =>
    some (.inl ((x2.1.set x2.2.toNat v24), wr (x2.2 + 1))))
  else
    (some (.inr x2.1))

noncomputable def m_spec_RepOfSubspaces (a0 : Int) (a1 : Int) (a2 : (List Sc)) : Option (Rp × Bool) :=
  Option.bind (m_spec_StarOf (a2.length : Int)) fun v1 =>
  bif !v1.2 then
    (some (((⟨0, (⟨0, [], []⟩ : Qv), [], []⟩ : Rp), false)))
  else
    (Option.bind (m_spec_IsField a0) fun v3 =>
    bif !v3 then
      (some (((⟨0, (⟨0, [], []⟩ : Qv), [], []⟩ : Rp), false)))
    else
      (Option.bind (m_spec_l1In a1 0 4) fun v5 =>
      bif !v5 then
        (some (((⟨0, (⟨0, [], []⟩ : Qv), [], []⟩ : Rp), false)))
      else
        (Option.bind (Lp (m_spec_RepOfSubspaces_L1 a0 a1 a2) (([] : (List Int)), 0)) fun y15 =>
        Sum.elim (fun y16 =>
          bif decide (y16.length + [a1].length ≤ 4294967296) then
            (Option.bind (m_spec_AreDims v1.1 (y16 ++ [a1])) fun v18 =>
            bif !v18 then
              (some (((⟨0, (⟨0, [], []⟩ : Qv), [], []⟩ : Rp), false)))
            else
              (Option.bind (m_spec_l8Zero a0 v1.1 (y16 ++ [a1])) fun v20 =>
              Option.bind (Lp (m_spec_RepOfSubspaces_L2 a1 a2) (v20.maps, 0)) fun y26 =>
              some (((⟨v20.p, v20.q, v20.dims, y26⟩ : Rp), true))))
          else none
        ) 
        (fun y27 =>
          some y27
        )
         y15)))

theorem c_spec_RepOfSubspaces (a0 : Int) (a1 : Int) (a2 : (List Sc)) (r : (Rp × Bool)) (h : m_spec_RepOfSubspaces a0 a1 a2 = some r) : HasC Try.prog 25 [.int a0, .int a1, .list 2 (List.map eS a2)] (.tuple [.agg (eR r.1), .bl r.2]) := by
 refine hasC_mk TT_ok (rvs := [.cell 6 33, .tmp 7]) (ns := [0, 1, 2, 3, 4, 5, 6, 7, 8, 9, 10, 11, 12, 13]) Try.func25 k k Try.ntmps25 k k k <| sQ <| rg <| ae (w_alloc TT_ok k k) k <| ae (eff_assign k) k <| an <| tn <| sQ <| rg <| ae (eff_move k) k ?_
 refine ae (AEff.val (w_len_list TT_ok k k k) (v' := .int (a2.length : Int)) (by first | rw [len_map] | rw [encI_len])) k ?_
 obtain ⟨v1, hv1, h⟩ := ob h
 refine ae (AEff.conv (w_call0 (x := .tuple [.agg [.int v1.1.n, .own 1 0 (List.map eI v1.1.src).length, .own 2 0 (List.map eI v1.1.tgt).length], .bl v1.2]) (nb := [(1, ⟨1, absEs (List.map eI v1.1.src)⟩), (2, ⟨1, absEs (List.map eI v1.1.tgt)⟩)]) (c_spec_StarOf (a2.length : Int) v1 hv1) k (by rfl) k k (gB_cons (g1_cons trivial (g1_cons (okI.good _) (g1_cons (okI.good _) g1_nil))) (gB_cons trivial gB_nil)) (va_cons (va_same k) va_nil)) (v' := .tuple [.agg [.int v1.1.n, .own 1 0 v1.1.src.length, .own 2 0 v1.1.tgt.length], .bl v1.2]) (ed' := [(1, some ⟨1, List.map (ow eI) v1.1.src⟩), (2, some ⟨1, List.map (ow eI) v1.1.tgt⟩)]) (by simp only [len_map]) (ed_ok (nb' := [(1, ⟨1, List.map (ow eI) v1.1.src⟩), (2, ⟨1, List.map (ow eI) v1.1.tgt⟩)]) (by simp only [abs_map]))) k <| ae (eff_move k) k <| ae (eff_extract k k (by intro _ h; cases h)) k <| ae (eff_extract k k (by intro _ h; cases h)) k <| ae (w_alloc TT_ok k k) k <| ae (w_store TT_ok k k k k k k k k) k <| ae (eff_assign k) k <| an <| tn <| sQ ?_
 refine sQ <| rg <| ae (eff_move k) k <| ae (w_not k) k <| ae (eff_move k) k ?_
 rcases cb h with ⟨q2, h⟩ | ⟨q2, h⟩
 ·refine aops_lit 22 k q2 <| aops_skip k k <| aops_skip k k <| aops_skip k k <| ae (eff_pick k k) k <| ae (eff_move k) k <| aops_skip k k <| aops_skip k k <| aops_skip k k <| ae (eff_pick k k) k ?_
  refine an <| tn <| ac_ent (t := mkS [(0, .int a0), (1, .int a1), (2, .list 2 (List.map eS a2)), (6, .ptr 0 0 0), (8, .ptr 3 0 0), (31, .bl true)] [(0, ⟨6, [[.int 0, .int 0, .nil 1, .nil 1, .nil 1, .nil 3]]⟩), (1, ⟨1, List.map (ow eI) v1.1.src⟩), (2, ⟨1, List.map (ow eI) v1.1.tgt⟩), (3, ⟨3, [[.int v1.1.n, .own 1 0 v1.1.src.length, .own 2 0 v1.1.tgt.length]]⟩)] 4 [4, 5, 6, 7, 8, 9, 10, 11, 12, 13]) (ent_mk (σ := sg [(0, 0), (1, 1), (2, 2), (3, 3)]) ⟨(e1 k k), (e1 k k), ⟨_, k, ⟨k, k⟩⟩, ⟨_, k, ⟨k, k, k, k⟩⟩, ⟨_, k, ⟨k, k, k, k⟩⟩, (e1 k k), trivial⟩ ⟨⟨_, k, k, .inl ⟨k, plain_of k⟩⟩, k, ⟨_, k, k, .inl ⟨k, okI.plainO _⟩⟩, k, ⟨_, k, k, .inl ⟨k, okI.plainO _⟩⟩, k, ⟨_, k, k, .inr ⟨_, _, k, ⟨_, _, k, k, ⟨_, _, k, ⟨k, k, k, k⟩, ⟨_, _, k, ⟨k, k, k, k⟩, k⟩⟩⟩, k⟩⟩, k, trivial⟩ k) <| ac_condT k k <| sQ <| rg <| ae (w_build TT_ok k k k k k k) k <| ae (w_store TT_ok k k k k k k k k) k <| ae (eff_assign k) k <| an ?_
  refine tn <| ac_ret <| then_ret ?_
  obtain rfl := so h
  exact ret_mk k k k (xz_tuple k (xB_cons (xB_agg (x1_cons (k) (x1_cons (k) (x1_cons (k) (x1_cons (k) (x1_cons (k) (x1_cons (k) x1_nil))))))) (xB_cons (k) xB_nil)))
 ·refine aops_lit 22 k q2 <| ae (eff_move k) k ?_
  obtain ⟨v3, hv3, h⟩ := ob h
  refine ae (w_call0s (c_spec_IsField a0 v3 hv3) k (va_cons (va_same k) va_nil)) k <| ae (w_not k) k <| ae (eff_pick k k) k <| ae (eff_move k) k ?_
  rcases cb h with ⟨q4, h⟩ | ⟨q4, h⟩
  ·refine aops_lit 27 k q4 <| aops_skip k k <| aops_skip k k <| aops_skip k k <| ae (eff_pick k k) k <| an <| tn <| ac_ent (t := mkS [(0, .int a0), (1, .int a1), (2, .list 2 (List.map eS a2)), (6, .ptr 0 0 0), (8, .ptr 3 0 0), (31, .bl true)] [(0, ⟨6, [[.int 0, .int 0, .nil 1, .nil 1, .nil 1, .nil 3]]⟩), (1, ⟨1, List.map (ow eI) v1.1.src⟩), (2, ⟨1, List.map (ow eI) v1.1.tgt⟩), (3, ⟨3, [[.int v1.1.n, .own 1 0 v1.1.src.length, .own 2 0 v1.1.tgt.length]]⟩)] 4 [4, 5, 6, 7, 8, 9, 10, 11, 12, 13]) (ent_mk (σ := sg [(0, 0), (1, 1), (2, 2), (3, 3)]) ⟨(e1 k k), (e1 k k), ⟨_, k, ⟨k, k⟩⟩, ⟨_, k, ⟨k, k, k, k⟩⟩, ⟨_, k, ⟨k, k, k, k⟩⟩, (e1 k k), trivial⟩ ⟨⟨_, k, k, .inl ⟨k, plain_of k⟩⟩, k, ⟨_, k, k, .inl ⟨k, okI.plainO _⟩⟩, k, ⟨_, k, k, .inl ⟨k, okI.plainO _⟩⟩, k, ⟨_, k, k, .inr ⟨_, _, k, ⟨_, _, k, k, ⟨_, _, k, ⟨k, k, k, k⟩, ⟨_, _, k, ⟨k, k, k, k⟩, k⟩⟩⟩, k⟩⟩, k, trivial⟩ k) <| ac_condT k k <| sQ ?_
   refine rg <| ae (w_build TT_ok k k k k k k) k <| ae (w_store TT_ok k k k k k k k k) k <| ae (eff_assign k) k <| an <| tn <| ac_ret <| then_ret ?_
   obtain rfl := so h
   exact ret_mk k k k (xz_tuple k (xB_cons (xB_agg (x1_cons (k) (x1_cons (k) (x1_cons (k) (x1_cons (k) (x1_cons (k) (x1_cons (k) x1_nil))))))) (xB_cons (k) xB_nil)))
  ·refine aops_lit 27 k q4 <| ae (eff_move k) k ?_
   obtain ⟨v5, hv5, h⟩ := ob h
   refine ae (w_call0s (c_spec_l1In a1 0 4 v5 hv5) k (va_cons (va_same k) (va_cons (va_same k) (va_cons (va_same k) va_nil)))) k <| ae (w_not k) k <| ae (eff_pick k k) k <| an <| tn <| ac_ent (t := mkS [(0, .int a0), (1, .int a1), (2, .list 2 (List.map eS a2)), (6, .ptr 0 0 0), (8, .ptr 3 0 0), (31, .bl (!v5))] [(0, ⟨6, [[.int 0, .int 0, .nil 1, .nil 1, .nil 1, .nil 3]]⟩), (1, ⟨1, List.map (ow eI) v1.1.src⟩), (2, ⟨1, List.map (ow eI) v1.1.tgt⟩), (3, ⟨3, [[.int v1.1.n, .own 1 0 v1.1.src.length, .own 2 0 v1.1.tgt.length]]⟩)] 4 [4, 5, 6, 7, 8, 9, 10, 11, 12, 13]) (ent_mk (σ := sg [(0, 0), (1, 1), (2, 2), (3, 3)]) ⟨(e1 k k), (e1 k k), ⟨_, k, ⟨k, k⟩⟩, ⟨_, k, ⟨k, k, k, k⟩⟩, ⟨_, k, ⟨k, k, k, k⟩⟩, (e1 k k), trivial⟩ ⟨⟨_, k, k, .inl ⟨k, plain_of k⟩⟩, k, ⟨_, k, k, .inl ⟨k, okI.plainO _⟩⟩, k, ⟨_, k, k, .inl ⟨k, okI.plainO _⟩⟩, k, ⟨_, k, k, .inr ⟨_, _, k, ⟨_, _, k, k, ⟨_, _, k, ⟨k, k, k, k⟩, ⟨_, _, k, ⟨k, k, k, k⟩, k⟩⟩⟩, k⟩⟩, k, trivial⟩ k) ?_
   rcases cb h with ⟨q6, h⟩ | ⟨q6, h⟩
   ·refine ac_condT k q6 <| sQ <| rg <| ae (w_build TT_ok k k k k k k) k <| ae (w_store TT_ok k k k k k k k k) k <| ae (eff_assign k) k <| an <| tn <| ac_ret <| then_ret ?_
    obtain rfl := so h
    exact ret_mk k k k (xz_tuple k (xB_cons (xB_agg (x1_cons (k) (x1_cons (k) (x1_cons (k) (x1_cons (k) (x1_cons (k) (x1_cons (k) x1_nil))))))) (xB_cons (k) xB_nil)))
   ·refine ac_condF k q6 <| ac_skip <| tn <| sQ <| rg <| ae (w_lit TT_ok k k k k k k k k k k k k) k <| ae (eff_assign k) k <| an <| tn <| ac_ent (t := mkS [(0, .int a0), (1, .int a1), (2, .list 2 (List.map eS a2)), (6, .ptr 0 0 0), (8, .ptr 3 0 0), (10, .own 4 0 (([] : (List Int)).length))] [(0, ⟨6, [[.int 0, .int 0, .nil 1, .nil 1, .nil 1, .nil 3]]⟩), (1, ⟨1, List.map (ow eI) v1.1.src⟩), (2, ⟨1, List.map (ow eI) v1.1.tgt⟩), (3, ⟨3, [[.int v1.1.n, .own 1 0 v1.1.src.length, .own 2 0 v1.1.tgt.length]]⟩), (4, ⟨1, List.map (ow eI) ([] : (List Int))⟩)] 5 [5, 6, 7, 8, 9, 10, 11, 12, 13]) (ent_mk (σ := sg [(0, 0), (1, 1), (2, 2), (3, 3), (4, 4)]) ⟨(e1 k k), (e1 k k), ⟨_, k, ⟨k, k⟩⟩, ⟨_, k, ⟨k, k, k, k⟩⟩, ⟨_, k, ⟨k, k, k, k⟩⟩, ⟨_, k, ⟨k, k, (by simp only [len_map, List.length_append, List.length_set, List.length_replicate, List.length_cons, List.length_nil]), k⟩⟩, trivial⟩ ⟨⟨_, k, k, .inl ⟨k, plain_of k⟩⟩, k, ⟨_, k, k, .inl ⟨k, okI.plainO _⟩⟩, k, ⟨_, k, k, .inl ⟨k, okI.plainO _⟩⟩, k, ⟨_, k, k, .inr ⟨_, _, k, ⟨_, _, k, k, ⟨_, _, k, ⟨k, k, k, k⟩, ⟨_, _, k, ⟨k, k, k, k⟩, k⟩⟩⟩, k⟩⟩, k, ⟨_, k, k, .inl ⟨k, okI.plainO _⟩⟩, k, trivial⟩ k) ?_
    refine sQ <| sQ <| rg <| ae (eff_assign k) k <| an <| tn <| ac_block ?_
    obtain ⟨y15, hy15, h⟩ := ob h
    refine ac_Lp (body := (m_spec_RepOfSubspaces_L1 a0 a1 a2)) hy15 (fun (x1 : ((List Int) × Int)) => mkS [(0, .int a0), (1, .int a1), (2, .list 2 (List.map eS a2)), (6, .ptr 0 0 0), (8, .ptr 1 0 0), (10, .own 4 0 x1.1.length), (11, .int x1.2)] [(0, ⟨6, [[.int 0, .int 0, .nil 1, .nil 1, .nil 1, .nil 3]]⟩), (1, ⟨3, [[.int v1.1.n, .own 2 0 v1.1.src.length, .own 3 0 v1.1.tgt.length]]⟩), (2, ⟨1, List.map (ow eI) v1.1.src⟩), (3, ⟨1, List.map (ow eI) v1.1.tgt⟩), (4, ⟨1, List.map (ow eI) x1.1⟩)] 5 [5, 6, 7, 8, 9, 10, 11, 12, 13]) (fun r e t => Sum.elim (fun a => (fun r e t => e = .exit 0 ∧ Ent t (mkS [(0, .int a0), (1, .int a1), (2, .list 2 (List.map eS a2)), (6, .ptr 0 0 0), (8, .ptr 1 0 0), (10, .own 4 0 r.length)] [(0, ⟨6, [[.int 0, .int 0, .nil 1, .nil 1, .nil 1, .nil 3]]⟩), (1, ⟨3, [[.int v1.1.n, .own 2 0 v1.1.src.length, .own 3 0 v1.1.tgt.length]]⟩), (2, ⟨1, List.map (ow eI) v1.1.src⟩), (3, ⟨1, List.map (ow eI) v1.1.tgt⟩), (4, ⟨1, List.map (ow eI) r⟩)] 5 [5, 6, 7, 8, 9, 10, 11, 12, 13])) a e t) (fun b => (fun r e t => e = .ret ∧ RetQ TT [.cell 6 33, .tmp 7] (.tuple [.agg (eR r.1), .bl r.2]) .ret t) b e t) r) (ent_mk (σ := sg [(0, 0), (1, 3), (2, 1), (3, 2), (4, 4)]) ⟨(e1 k k), (e1 k k), ⟨_, k, ⟨k, k⟩⟩, ⟨_, k, ⟨k, k, k, k⟩⟩, ⟨_, k, ⟨k, k, k, k⟩⟩, ⟨_, k, ⟨k, k, k, k⟩⟩, (e1 k k), trivial⟩ ⟨⟨_, k, k, .inl ⟨k, plain_of k⟩⟩, k, ⟨_, k, k, .inr ⟨_, _, k, ⟨_, _, k, k, ⟨_, _, k, ⟨k, k, k, k⟩, ⟨_, _, k, ⟨k, k, k, k⟩, k⟩⟩⟩, k⟩⟩, k, ⟨_, k, k, .inl ⟨k, okI.plainO _⟩⟩, k, ⟨_, k, k, .inl ⟨k, okI.plainO _⟩⟩, k, ⟨_, k, k, .inl ⟨k, okI.plainO _⟩⟩, k, trivial⟩ k) ?_ ?_
    ·intro x1 o h
     refine sQ <| sQ <| rg <| ae (eff_move k) k <| ae (eff_move k) k <| ae (AEff.val (w_len_list TT_ok k k k) (v' := .int (a2.length : Int)) (by first | rw [len_map] | rw [encI_len])) k <| ae (w_cmp k k k) k <| an <| tn ?_
     rcases cb h with ⟨q7, h⟩ | ⟨q7, h⟩
     ·refine ac_condT k q7 <| ac_skip <| tn <| sQ <| ac_block <| sQ <| sQ <| rg <| ae (eff_move k) k <| ae (eff_move k) k ?_
      refine ae (eff_move k) k ?_
      obtain ⟨v8, hv8, h⟩ := ob h
      refine ae (x_at_list TT_ok hv8 k k k k k k) k <| ae (w_load_ref TT_ok k k k k k k) k ?_
      obtain ⟨v9, hv9, h⟩ := ob h
      refine ae (w_call0s (c_spec_IsSpace a0 v8 v9 hv9) k (va_cons (va_same k) (va_cons (va_agg' (v1_cons (v1_same k) (v1_cons (v1_same k) v1_nil))) va_nil))) k <| ae (w_not k) k <| ae (eff_move k) k ?_
      rcases cb h with ⟨q10, h⟩ | ⟨q10, h⟩
      ·refine aops_lit 47 k q10 <| aops_skip k k <| aops_skip k k <| aops_skip k k <| aops_skip k k <| aops_skip k k <| aops_skip k k <| aops_skip k k <| ae (eff_pick k k) k <| an ?_
       refine tn <| ac_ent (t := mkS [(0, .int a0), (1, .int a1), (2, .list 2 (List.map eS a2)), (6, .ptr 0 0 0), (8, .ptr 1 0 0), (10, .own 4 0 x1.1.length), (11, .int x1.2), (55, .bl true)] [(0, ⟨6, [[.int 0, .int 0, .nil 1, .nil 1, .nil 1, .nil 3]]⟩), (1, ⟨3, [[.int v1.1.n, .own 2 0 v1.1.src.length, .own 3 0 v1.1.tgt.length]]⟩), (2, ⟨1, List.map (ow eI) v1.1.src⟩), (3, ⟨1, List.map (ow eI) v1.1.tgt⟩), (4, ⟨1, List.map (ow eI) x1.1⟩)] 5 [5, 6, 7, 8, 9, 10, 11, 12, 13]) (ent_mk (σ := sg [(0, 0), (1, 1), (2, 2), (3, 3), (4, 4)]) ⟨(e1 k k), (e1 k k), ⟨_, k, ⟨k, k⟩⟩, ⟨_, k, ⟨k, k, k, k⟩⟩, ⟨_, k, ⟨k, k, k, k⟩⟩, ⟨_, k, ⟨k, k, k, k⟩⟩, (e1 k k), (e1 k k), trivial⟩ ⟨⟨_, k, k, .inl ⟨k, plain_of k⟩⟩, k, ⟨_, k, k, .inr ⟨_, _, k, ⟨_, _, k, k, ⟨_, _, k, ⟨k, k, k, k⟩, ⟨_, _, k, ⟨k, k, k, k⟩, k⟩⟩⟩, k⟩⟩, k, ⟨_, k, k, .inl ⟨k, okI.plainO _⟩⟩, k, ⟨_, k, k, .inl ⟨k, okI.plainO _⟩⟩, k, ⟨_, k, k, .inl ⟨k, okI.plainO _⟩⟩, k, trivial⟩ k) <| ac_condT k k <| sQ <| rg <| ae (w_build TT_ok k k k k k k) k <| ae (w_store TT_ok k k k k k k k k) k <| ae (eff_assign k) k <| an <| tn ?_
       refine ac_ret <| then_ret <| block_ret <| then_ret <| then_ret ?_
       obtain rfl := so h
       exact ⟨_, k, k, ret_mk k k k (xz_tuple k (xB_cons (xB_agg (x1_cons (k) (x1_cons (k) (x1_cons (k) (x1_cons (k) (x1_cons (k) (x1_cons (k) x1_nil))))))) (xB_cons (k) xB_nil)))⟩
      ·refine aops_lit 47 k q10 <| ae (eff_move k) k <| ae (eff_move k) k ?_
       obtain ⟨v11, hv11, h⟩ := ob h
       refine ae (x_at_list TT_ok hv11 k k k k k k) k <| ae (w_field_ref TT_ok k k k k k k) k <| ae (w_load_ref TT_ok k k k k k k) k <| ae (eff_move k) k <| ae (w_cmp k k k) k <| ae (eff_pick k k) k <| an <| tn <| ac_ent (t := mkS [(0, .int a0), (1, .int a1), (2, .list 2 (List.map eS a2)), (6, .ptr 0 0 0), (8, .ptr 1 0 0), (10, .own 4 0 x1.1.length), (11, .int x1.2), (55, .bl (!decide (v11.size = a1)))] [(0, ⟨6, [[.int 0, .int 0, .nil 1, .nil 1, .nil 1, .nil 3]]⟩), (1, ⟨3, [[.int v1.1.n, .own 2 0 v1.1.src.length, .own 3 0 v1.1.tgt.length]]⟩), (2, ⟨1, List.map (ow eI) v1.1.src⟩), (3, ⟨1, List.map (ow eI) v1.1.tgt⟩), (4, ⟨1, List.map (ow eI) x1.1⟩)] 5 [5, 6, 7, 8, 9, 10, 11, 12, 13]) (ent_mk (σ := sg [(0, 0), (1, 1), (2, 2), (3, 3), (4, 4)]) ⟨(e1 k k), (e1 k k), ⟨_, k, ⟨k, k⟩⟩, ⟨_, k, ⟨k, k, k, k⟩⟩, ⟨_, k, ⟨k, k, k, k⟩⟩, ⟨_, k, ⟨k, k, k, k⟩⟩, (e1 k k), (e1 k k), trivial⟩ ⟨⟨_, k, k, .inl ⟨k, plain_of k⟩⟩, k, ⟨_, k, k, .inr ⟨_, _, k, ⟨_, _, k, k, ⟨_, _, k, ⟨k, k, k, k⟩, ⟨_, _, k, ⟨k, k, k, k⟩, k⟩⟩⟩, k⟩⟩, k, ⟨_, k, k, .inl ⟨k, okI.plainO _⟩⟩, k, ⟨_, k, k, .inl ⟨k, okI.plainO _⟩⟩, k, ⟨_, k, k, .inl ⟨k, okI.plainO _⟩⟩, k, trivial⟩ k) ?_
       rcases cb h with ⟨q12, h⟩ | ⟨q12, h⟩
       ·refine ac_condT k q12 <| sQ <| rg <| ae (w_build TT_ok k k k k k k) k <| ae (w_store TT_ok k k k k k k k k) k <| ae (eff_assign k) k <| an <| tn <| ac_ret <| then_ret ?_
        refine block_ret <| then_ret <| then_ret ?_
        obtain rfl := so h
        exact ⟨_, k, k, ret_mk k k k (xz_tuple k (xB_cons (xB_agg (x1_cons (k) (x1_cons (k) (x1_cons (k) (x1_cons (k) (x1_cons (k) (x1_cons (k) x1_nil))))))) (xB_cons (k) xB_nil)))⟩
       ·refine ac_condF k q12 <| ac_skip <| tn <| rg <| ae (eff_move k) k <| ae (eff_move k) k <| ae (eff_move k) k ?_
        obtain ⟨v13, hv13, h⟩ := ob h
        refine ae (x_at_list TT_ok hv13 k k k k k k) k <| ae (w_field_ref TT_ok k k k k k k) k <| ae (w_load_ref TT_ok k k k k k k) k <| ae (AEff.val (w_len_list TT_ok k k k) (v' := .int (v13.basis.length : Int)) (by first | rw [len_map] | rw [encI_len])) k <| ae (w_lit TT_ok k k k k k k k k k k k k) k ?_
        obtain ⟨q14, h⟩ := cg h
        refine ae (x_app TT_ok (l := x1.1) (m := [(v13.basis.length : Int)]) okIo q14 k k k k k k k k k k k k) k <| ae (eff_assign k) k <| an <| block_n <| tn <| rg <| ae (eff_move k) k <| ae (x_add k k) k <| ae (eff_assign k) k <| an ?_
        refine tn ?_
        obtain rfl := so h
        exact ⟨_, k, (ent_mk (σ := sg [(0, 0), (1, 1), (2, 2), (3, 3), (4, 6)]) ⟨(e1 k k), (e1 k k), ⟨_, k, ⟨k, k⟩⟩, ⟨_, k, ⟨k, k, k, k⟩⟩, ⟨_, k, ⟨k, k, k, k⟩⟩, ⟨_, k, ⟨k, k, k, k⟩⟩, (e1 k k), trivial⟩ ⟨⟨_, k, k, .inl ⟨k, plain_of k⟩⟩, k, ⟨_, k, k, .inr ⟨_, _, k, ⟨_, _, k, k, ⟨_, _, k, ⟨k, k, k, k⟩, ⟨_, _, k, ⟨k, k, k, k⟩, k⟩⟩⟩, k⟩⟩, k, ⟨_, k, k, .inl ⟨k, okI.plainO _⟩⟩, k, ⟨_, k, k, .inl ⟨k, okI.plainO _⟩⟩, k, ⟨_, k, k, .inl ⟨k, okI.plainO _⟩⟩, k, trivial⟩ k)⟩
     ·refine ac_condF k q7 <| ac_exit <| then_exit <| then_exit ?_
      obtain rfl := so h
      exact ⟨_, k, k, (ent_mk (σ := sg [(0, 0), (1, 1), (2, 2), (3, 3), (4, 4)]) ⟨(e1 k k), (e1 k k), ⟨_, k, ⟨k, k⟩⟩, ⟨_, k, ⟨k, k, k, k⟩⟩, ⟨_, k, ⟨k, k, k, k⟩⟩, ⟨_, k, ⟨k, k, k, k⟩⟩, trivial⟩ ⟨⟨_, k, k, .inl ⟨k, plain_of k⟩⟩, k, ⟨_, k, k, .inr ⟨_, _, k, ⟨_, _, k, k, ⟨_, _, k, ⟨k, k, k, k⟩, ⟨_, _, k, ⟨k, k, k, k⟩, k⟩⟩⟩, k⟩⟩, k, ⟨_, k, k, .inl ⟨k, okI.plainO _⟩⟩, k, ⟨_, k, k, .inl ⟨k, okI.plainO _⟩⟩, k, ⟨_, k, k, .inl ⟨k, okI.plainO _⟩⟩, k, trivial⟩ k)⟩
    ·intro e t hX
     rcases y15 with y16 | y27
     ·obtain ⟨rfl, hent⟩ := hX
      refine block_here <| tn <| ac_ent hent <| sQ <| rg <| ae (eff_move k) k <| ae (eff_move k) k <| ae (w_lit TT_ok k k k k k k k k k k k k) k ?_
      obtain ⟨q17, h⟩ := cg h
      refine ae (x_app TT_ok (l := y16) (m := [a1]) okIo q17 k k k k k k k k k k k k) k <| ae (eff_assign k) k <| an <| tn <| sQ <| sQ <| rg <| ae (w_load_ptr TT_ok k k k k k k k) k <| ae (eff_move k) k ?_
      obtain ⟨v18, hv18, h⟩ := ob h
      refine ae (w_call0s (c_spec_AreDims v1.1 (y16 ++ [a1]) v18 hv18) k (va_cons (va_agg' (v1_cons (v1_same k) (v1_cons (v1_T okI k k) (v1_cons (v1_T okI k k) v1_nil)))) (va_cons (va_T okI k k) va_nil))) k <| ae (w_not k) k <| an <| tn ?_
      rcases cb h with ⟨q19, h⟩ | ⟨q19, h⟩
      ·refine ac_condT k q19 <| sQ <| rg <| ae (w_build TT_ok k k k k k k) k <| ae (w_store TT_ok k k k k k k k k) k <| ae (eff_assign k) k <| an <| tn <| ac_ent (t := mkS [(6, .ptr 0 0 0), (7, .bl false)] [(0, ⟨6, [[.int 0, .int 0, .nil 1, .nil 1, .nil 1, .nil 3]]⟩)] 7 [7, 8, 9, 10, 11, 12, 13]) (ent_mk (σ := sg [(0, 0)]) ⟨⟨_, k, ⟨k, k, k, k⟩⟩, (e1 k k), trivial⟩ ⟨⟨_, k, k, .inl ⟨k, plain_of k⟩⟩, k, trivial⟩ k) <| ac_ret ?_
       refine then_ret ?_
       obtain rfl := so h
       exact ret_mk k k k (xz_tuple k (xB_cons (xB_agg (x1_cons (k) (x1_cons (k) (x1_cons (k) (x1_cons (k) (x1_cons (k) (x1_cons (k) x1_nil))))))) (xB_cons (k) xB_nil)))
      ·refine ac_condF k q19 <| ac_skip <| tn <| sQ <| rg <| ae (eff_move k) k <| ae (w_load_ptr TT_ok k k k k k k k) k <| ae (eff_move k) k ?_
       obtain ⟨v20, hv20, h⟩ := ob h
       refine ae (AEff.conv (w_call0 (x := .agg [.int v20.p, .int v20.q.n, .own 7 0 (List.map eI v20.q.src).length, .own 8 0 (List.map eI v20.q.tgt).length, .own 9 0 (List.map eI v20.dims).length, .own 10 0 (List.map eM v20.maps).length]) (nb := [(7, ⟨1, absEs (List.map eI v20.q.src)⟩), (8, ⟨1, absEs (List.map eI v20.q.tgt)⟩), (9, ⟨1, absEs (List.map eI v20.dims)⟩), (10, ⟨3, absEs (List.map eM v20.maps)⟩)]) (c_spec_l8Zero a0 v1.1 (y16 ++ [a1]) v20 hv20) k (by rfl) k k (g1_cons trivial (g1_cons trivial (g1_cons (okI.good _) (g1_cons (okI.good _) (g1_cons (okI.good _) (g1_cons (okMt.good _) g1_nil)))))) (va_cons (va_same k) (va_cons (va_agg' (v1_cons (v1_same k) (v1_cons (v1_T okI k k) (v1_cons (v1_T okI k k) v1_nil)))) (va_cons (va_T okI k k) va_nil)))) (v' := .agg [.int v20.p, .int v20.q.n, .own 7 0 v20.q.src.length, .own 8 0 v20.q.tgt.length, .own 9 0 v20.dims.length, .own 10 0 v20.maps.length]) (ed' := [(7, some ⟨1, List.map (ow eI) v20.q.src⟩), (8, some ⟨1, List.map (ow eI) v20.q.tgt⟩), (9, some ⟨1, List.map (ow eI) v20.dims⟩), (10, some ⟨3, List.map (ow eM) v20.maps⟩)]) (by simp only [len_map]) (ed_ok (nb' := [(7, ⟨1, List.map (ow eI) v20.q.src⟩), (8, ⟨1, List.map (ow eI) v20.q.tgt⟩), (9, ⟨1, List.map (ow eI) v20.dims⟩), (10, ⟨3, List.map (ow eM) v20.maps⟩)]) (by simp only [abs_map]))) k <| ae (w_alloc TT_ok k k) k <| ae (w_store TT_ok k k k k k k k k) k <| an <| tn <| ac_ent (t := mkS [(1, .int a1), (2, .list 2 (List.map eS a2)), (6, .ptr 0 0 0), (12, .ptr 11 0 0)] [(0, ⟨6, [[.int 0, .int 0, .nil 1, .nil 1, .nil 1, .nil 3]]⟩), (7, ⟨1, List.map (ow eI) v20.q.src⟩), (8, ⟨1, List.map (ow eI) v20.q.tgt⟩), (9, ⟨1, List.map (ow eI) v20.dims⟩), (10, ⟨3, List.map (ow eM) v20.maps⟩), (11, ⟨6, [[.int v20.p, .int v20.q.n, .own 7 0 v20.q.src.length, .own 8 0 v20.q.tgt.length, .own 9 0 v20.dims.length, .own 10 0 v20.maps.length]]⟩)] 12 [12, 13]) (ent_mk (σ := sg [(0, 0), (7, 7), (8, 8), (9, 9), (10, 10), (11, 11)]) ⟨(e1 k k), ⟨_, k, ⟨k, k⟩⟩, ⟨_, k, ⟨k, k, k, k⟩⟩, ⟨_, k, ⟨k, k, k, k⟩⟩, trivial⟩ ⟨⟨_, k, k, .inl ⟨k, plain_of k⟩⟩, k, ⟨_, k, k, .inl ⟨k, okI.plainO _⟩⟩, k, ⟨_, k, k, .inl ⟨k, okI.plainO _⟩⟩, k, ⟨_, k, k, .inl ⟨k, okI.plainO _⟩⟩, k, ⟨_, k, k, .inl ⟨k, okMt.plainO _⟩⟩, k, ⟨_, k, k, .inr ⟨_, _, k, ⟨_, _, k, k, ⟨_, _, k, k, ⟨_, _, k, ⟨k, k, k, k⟩, ⟨_, _, k, ⟨k, k, k, k⟩, ⟨_, _, k, ⟨k, k, k, k⟩, ⟨_, _, k, ⟨k, k, k, k⟩, k⟩⟩⟩⟩⟩⟩, k⟩⟩, k, trivial⟩ k) ?_
       refine sQ <| sQ <| rg <| ae (eff_assign k) k <| an <| tn <| ac_block ?_
       obtain ⟨y26, hy26, h⟩ := ob h
       refine ac_Lp (body := (m_spec_RepOfSubspaces_L2 a1 a2)) hy26 (fun (x2 : ((List Mt) × Int)) => mkS [(1, .int a1), (2, .list 2 (List.map eS a2)), (6, .ptr 0 0 0), (12, .ptr 1 0 0), (13, .int x2.2)] [(0, ⟨6, [[.int 0, .int 0, .nil 1, .nil 1, .nil 1, .nil 3]]⟩), (1, ⟨6, [[.int v20.p, .int v20.q.n, .own 2 0 v20.q.src.length, .own 3 0 v20.q.tgt.length, .own 4 0 v20.dims.length, .own 5 0 x2.1.length]]⟩), (2, ⟨1, List.map (ow eI) v20.q.src⟩), (3, ⟨1, List.map (ow eI) v20.q.tgt⟩), (4, ⟨1, List.map (ow eI) v20.dims⟩), (5, ⟨3, List.map (ow eM) x2.1⟩)] 6 [6, 7, 8, 9, 10, 11, 12, 13]) (fun r e t => e = .exit 2 ∧ Ent t (mkS [(6, .ptr 0 0 0), (12, .ptr 1 0 0)] [(0, ⟨6, [[.int 0, .int 0, .nil 1, .nil 1, .nil 1, .nil 3]]⟩), (1, ⟨6, [[.int v20.p, .int v20.q.n, .own 2 0 v20.q.src.length, .own 3 0 v20.q.tgt.length, .own 4 0 v20.dims.length, .own 5 0 r.length]]⟩), (2, ⟨1, List.map (ow eI) v20.q.src⟩), (3, ⟨1, List.map (ow eI) v20.q.tgt⟩), (4, ⟨1, List.map (ow eI) v20.dims⟩), (5, ⟨3, List.map (ow eM) r⟩)] 6 [6, 7, 8, 9, 10, 11, 12, 13])) (ent_mk (σ := sg [(0, 0), (1, 11), (2, 7), (3, 8), (4, 9), (5, 10)]) ⟨(e1 k k), ⟨_, k, ⟨k, k⟩⟩, ⟨_, k, ⟨k, k, k, k⟩⟩, ⟨_, k, ⟨k, k, k, k⟩⟩, (e1 k k), trivial⟩ ⟨⟨_, k, k, .inl ⟨k, plain_of k⟩⟩, k, ⟨_, k, k, .inr ⟨_, _, k, ⟨_, _, k, k, ⟨_, _, k, k, ⟨_, _, k, ⟨k, k, k, k⟩, ⟨_, _, k, ⟨k, k, k, k⟩, ⟨_, _, k, ⟨k, k, k, k⟩, ⟨_, _, k, ⟨k, k, k, k⟩, k⟩⟩⟩⟩⟩⟩, k⟩⟩, k, ⟨_, k, k, .inl ⟨k, okI.plainO _⟩⟩, k, ⟨_, k, k, .inl ⟨k, okI.plainO _⟩⟩, k, ⟨_, k, k, .inl ⟨k, okI.plainO _⟩⟩, k, ⟨_, k, k, .inl ⟨k, okMt.plainO _⟩⟩, k, trivial⟩ k) ?_ ?_
       ·intro x2 o h
        refine sQ <| sQ <| rg <| ae (eff_move k) k <| ae (eff_move k) k <| ae (AEff.val (w_len_list TT_ok k k k) (v' := .int (a2.length : Int)) (by first | rw [len_map] | rw [encI_len])) k <| ae (w_cmp k k k) k <| an <| tn ?_
        rcases cb h with ⟨q21, h⟩ | ⟨q21, h⟩
        ·refine ac_condT k q21 <| ac_skip <| tn <| sQ <| ac_block <| ac_region_draw MIXX <| ae (w_field_ptr TT_ok k k k k k k k) k <| ae (w_load_ptr TT_ok k k k k k k k) k <| ae (eff_move k) k <| ae (eff_move k) k ?_
         refine ae (eff_move k) k <| ae (eff_move k) k ?_
         obtain ⟨v22, hv22, h⟩ := ob h
         refine ae (x_at_list TT_ok hv22 k k k k k k) k <| ae (w_field_ref TT_ok k k k k k k) k <| ae (w_load_ref TT_ok k k k k k k) k ?_
         obtain ⟨v23, hv23, h⟩ := ob h
         refine ae (AEff.conv (w_call0 (x := .agg [.int v23.rows, .int v23.cols, .own 6 0 (List.map eI v23.cells).length]) (nb := [(6, ⟨1, absEs (List.map eI v23.cells)⟩)]) (c_spec_l5Rows a1 v22.basis v23 hv23) k (by rfl) k k (g1_cons trivial (g1_cons trivial (g1_cons (okI.good _) g1_nil))) (va_cons (va_same k) (va_cons (va_same k) va_nil))) (v' := .agg [.int v23.rows, .int v23.cols, .own 6 0 v23.cells.length]) (ed' := [(6, some ⟨1, List.map (ow eI) v23.cells⟩)]) (by simp only [len_map]) (ed_ok (nb' := [(6, ⟨1, List.map (ow eI) v23.cells⟩)]) (by simp only [abs_map]))) k ?_
         obtain ⟨v24, hv24, h⟩ := ob h
         refine ae (AEff.conv (w_call0 (x := .agg [.int v24.rows, .int v24.cols, .own 7 0 (List.map eI v24.cells).length]) (nb := [(7, ⟨1, absEs (List.map eI v24.cells)⟩)]) (c_spec_l3Transpose v23 v24 hv24) k (by rfl) k k (g1_cons trivial (g1_cons trivial (g1_cons (okI.good _) g1_nil))) (va_cons (va_agg' (v1_cons (v1_same k) (v1_cons (v1_same k) (v1_cons (v1_T okI k k) v1_nil)))) va_nil)) (v' := .agg [.int v24.rows, .int v24.cols, .own 7 0 v24.cells.length]) (ed' := [(7, some ⟨1, List.map (ow eI) v24.cells⟩)]) (by simp only [len_map]) (ed_ok (nb' := [(7, ⟨1, List.map (ow eI) v24.cells⟩)]) (by simp only [abs_map]))) k ?_
         obtain ⟨v25, hv25, h⟩ := ob h
         refine ae (x_at_own TT_ok (atL_nn hv25) (atL_lt hv25) k k k k k k k) k <| ae (w_store TT_ok k k k k k k (map_at (atL_get hv25)) k) k <| an ?_
         refine ⟨by kernel_rfl, ?_⟩
         refine block_n <| tn <| ac_ent (t := mkS [(1, .int a1), (2, .list 2 (List.map eS a2)), (6, .ptr 0 0 0), (12, .ptr 1 0 0), (13, .int x2.2)] [(0, ⟨6, [[.int 0, .int 0, .nil 1, .nil 1, .nil 1, .nil 3]]⟩), (1, ⟨6, [[.int v20.p, .int v20.q.n, .own 2 0 v20.q.src.length, .own 3 0 v20.q.tgt.length, .own 4 0 v20.dims.length, .own 5 0 x2.1.length]]⟩), (2, ⟨1, List.map (ow eI) v20.q.src⟩), (3, ⟨1, List.map (ow eI) v20.q.tgt⟩), (4, ⟨1, List.map (ow eI) v20.dims⟩), (5, ⟨3, (List.map (ow eM) x2.1).set x2.2.toNat [.int v24.rows, .int v24.cols, .own 7 0 v24.cells.length]⟩), (7, ⟨1, List.map (ow eI) v24.cells⟩)] 8 [8, 9, 10, 11, 12, 13]) (ent_mk (σ := sg [(0, 0), (1, 1), (2, 2), (3, 3), (4, 4), (5, 5), (7, 7)]) ⟨(e1 k k), ⟨_, k, ⟨k, k⟩⟩, ⟨_, k, ⟨k, k, k, k⟩⟩, ⟨_, k, ⟨k, k, k, k⟩⟩, (e1 k k), trivial⟩ ⟨⟨_, k, k, .inl ⟨k, plain_of k⟩⟩, k, ⟨_, k, k, .inr ⟨_, _, k, ⟨_, _, k, k, ⟨_, _, k, k, ⟨_, _, k, ⟨k, k, k, k⟩, ⟨_, _, k, ⟨k, k, k, k⟩, ⟨_, _, k, ⟨k, k, k, k⟩, ⟨_, _, k, ⟨k, k, k, k⟩, k⟩⟩⟩⟩⟩⟩, k⟩⟩, k, ⟨_, k, k, .inl ⟨k, okI.plainO _⟩⟩, k, ⟨_, k, k, .inl ⟨k, okI.plainO _⟩⟩, k, ⟨_, k, k, .inl ⟨k, okI.plainO _⟩⟩, k, ⟨_, k, k, .inr (ent_set (σ := sg [(0, 0), (1, 1), (2, 2), (3, 3), (4, 4), (5, 5), (7, 7)]) (m := 8) (e := eM) (l := x2.1) (i := x2.2.toNat) (c := [.int v24.rows, .int v24.cols, .own 7 0 v24.cells.length]) (d := [.int v24.rows, .int v24.cols, .own 7 0 v24.cells.length]) okMt ⟨_, _, k, k, ⟨_, _, k, k, ⟨_, _, k, ⟨k, k, k, k⟩, k⟩⟩⟩)⟩, k, ⟨_, k, k, .inl ⟨k, okI.plainO _⟩⟩, k, trivial⟩ k) <| rg ?_
         refine ae (eff_move k) k <| ae (x_add k k) k <| ae (eff_assign k) k <| an <| tn ?_
         obtain rfl := so h
         exact ⟨_, k, (Ent.trans (show Ent _ (mkS [(1, .int a1), (2, .list 2 (List.map eS a2)), (6, .ptr 0 0 0), (12, .ptr 1 0 0), (13, .int (wr (x2.2 + 1)))] [(0, ⟨6, [[.int 0, .int 0, .nil 1, .nil 1, .nil 1, .nil 3]]⟩), (1, ⟨6, [[.int v20.p, .int v20.q.n, .own 2 0 v20.q.src.length, .own 3 0 v20.q.tgt.length, .own 4 0 v20.dims.length, .own 5 0 ((x2.1.set x2.2.toNat v24).length)]]⟩), (2, ⟨1, List.map (ow eI) v20.q.src⟩), (3, ⟨1, List.map (ow eI) v20.q.tgt⟩), (4, ⟨1, List.map (ow eI) v20.dims⟩), (5, ⟨3, List.map (ow eM) (x2.1.set x2.2.toNat v24)⟩)] 8 [8, 9, 10, 11, 12, 13]) from (Ent.trans (ent_absS (b := 5) (b' := 7) (j := 2) (es' := List.map eI v24.cells) (by rw [List.length_map]; exact atL_lt hv25) k k k k (len_map _ _) (okI.frzs _)) (ent_mk (σ := sg [(0, 0), (1, 1), (2, 2), (3, 3), (4, 4), (5, 5)]) ⟨(e1 k k), ⟨_, k, ⟨k, k⟩⟩, ⟨_, k, ⟨k, k, k, k⟩⟩, ⟨_, k, ⟨k, k, k, k⟩⟩, (e1 k k), trivial⟩ ⟨⟨_, k, k, .inl ⟨k, plain_of k⟩⟩, k, ⟨_, k, k, .inr ⟨_, _, k, ⟨_, _, k, k, ⟨_, _, k, k, ⟨_, _, k, ⟨k, k, k, k⟩, ⟨_, _, k, ⟨k, k, k, k⟩, ⟨_, _, k, ⟨k, k, k, k⟩, ⟨_, _, k, ⟨k, k, (by simp only [len_map, List.length_append, List.length_set, List.length_replicate, List.length_cons, List.length_nil]), k⟩, k⟩⟩⟩⟩⟩⟩, k⟩⟩, k, ⟨_, k, k, .inl ⟨k, okI.plainO _⟩⟩, k, ⟨_, k, k, .inl ⟨k, okI.plainO _⟩⟩, k, ⟨_, k, k, .inl ⟨k, okI.plainO _⟩⟩, k, ⟨_, k, k, .inl ⟨set_eq v24 k, okMt.plainO _⟩⟩, k, trivial⟩ k))) (ent_mk (σ := sg [(0, 0), (1, 1), (2, 2), (3, 3), (4, 4), (5, 5)]) ⟨(e1 k k), ⟨_, k, ⟨k, k⟩⟩, ⟨_, k, ⟨k, k, k, k⟩⟩, ⟨_, k, ⟨k, k, k, k⟩⟩, (e1 k k), trivial⟩ ⟨⟨_, k, k, .inl ⟨k, plain_of k⟩⟩, k, ⟨_, k, k, .inr ⟨_, _, k, ⟨_, _, k, k, ⟨_, _, k, k, ⟨_, _, k, ⟨k, k, k, k⟩, ⟨_, _, k, ⟨k, k, k, k⟩, ⟨_, _, k, ⟨k, k, k, k⟩, ⟨_, _, k, ⟨k, k, k, k⟩, k⟩⟩⟩⟩⟩⟩, k⟩⟩, k, ⟨_, k, k, .inl ⟨k, okI.plainO _⟩⟩, k, ⟨_, k, k, .inl ⟨k, okI.plainO _⟩⟩, k, ⟨_, k, k, .inl ⟨k, okI.plainO _⟩⟩, k, ⟨_, k, k, .inl ⟨k, okMt.plainO _⟩⟩, k, trivial⟩ k))⟩
        ·refine ac_condF k q21 <| ac_exit <| then_exit <| then_exit ?_
         obtain rfl := so h
         exact ⟨_, k, k, (ent_mk (σ := sg [(0, 0), (1, 1), (2, 2), (3, 3), (4, 4), (5, 5)]) ⟨⟨_, k, ⟨k, k, k, k⟩⟩, ⟨_, k, ⟨k, k, k, k⟩⟩, trivial⟩ ⟨⟨_, k, k, .inl ⟨k, plain_of k⟩⟩, k, ⟨_, k, k, .inr ⟨_, _, k, ⟨_, _, k, k, ⟨_, _, k, k, ⟨_, _, k, ⟨k, k, k, k⟩, ⟨_, _, k, ⟨k, k, k, k⟩, ⟨_, _, k, ⟨k, k, k, k⟩, ⟨_, _, k, ⟨k, k, k, k⟩, k⟩⟩⟩⟩⟩⟩, k⟩⟩, k, ⟨_, k, k, .inl ⟨k, okI.plainO _⟩⟩, k, ⟨_, k, k, .inl ⟨k, okI.plainO _⟩⟩, k, ⟨_, k, k, .inl ⟨k, okI.plainO _⟩⟩, k, ⟨_, k, k, .inl ⟨k, okMt.plainO _⟩⟩, k, trivial⟩ k)⟩
       ·rintro e t ⟨rfl, hent⟩
        refine block_here <| tn <| ac_ent hent <| sQ <| rg <| ae (w_load_ptr TT_ok k k k k k k k) k <| ae (w_store TT_ok k k k k k k k k) k <| ae (eff_assign k) k <| an <| tn ?_
        refine ac_ret ?_
        obtain rfl := so h
        exact ret_mk k k k (xz_tuple k (xB_cons (xB_agg (x1_cons (k) (x1_cons (k) (x1_cons (x_f1 okI k k) (x1_cons (x_f1 okI k k) (x1_cons (x_f1 okI k k) (x1_cons (x_f1 okMt k k) x1_nil))))))) (xB_cons (k) xB_nil)))
     ·obtain ⟨rfl, hent⟩ := hX
      refine block_ret <| then_ret ?_
      obtain rfl := so h
      exact hent

end Go.Proofs.Ytjfcjkeghigipaa
end

section
set_option linter.unusedVariables false
set_option linter.unusedSimpArgs false
/-
  Spaces on both sides: rows, reduced bases, spans; which spaces are well formed.
-/
namespace Go.Proofs.Ytjfcjkeghigipaa
open Go.RowKit
set_option linter.unusedVariables false
set_option linter.unusedSimpArgs false

theorem rows_of {l : List (List Int)} {n : Nat} (h : ∀ v ∈ l, v.length = n) : l = (List.range l.length).map fun i => rowL n (rowsF l i) := by
  refine List.ext_getElem (by simp) fun i h1 h2 => ?_
  simp only [List.getElem_map, List.getElem_range]
  refine List.ext_getElem (by rw [rowL_len]; exact h _ (List.getElem_mem h1)) fun j h3 h4 => ?_
  simp [rowL, rowsF, h1, h3]
theorem flat_rows {l : List (List Int)} {n : Nat} (h : ∀ v ∈ l, v.length = n) : l.flatten = tabM l.length n (rowsF l) := by
  have e : l.flatten = ((List.range l.length).map fun i => rowL n (rowsF l i)).flatten := by rw [← rows_of h]
  rw [e, flat_tab]
theorem tb_rows {p : Int} (hp : isF p = true) {n : Nat} {l : List (List Int)} (hn : n ≤ 1024) (hl : l.length ≤ 512) (h : VecsP p n l) : Tb p l.length n (rowsF l) := by
  refine ⟨hp, ?_, by omega, by omega, h.inP⟩
  have := Nat.mul_le_mul hl hn
  omega
theorem take_row {r c i : Nat} (hN : r * c ≤ 1048576) (hr : r ≤ 1048576) (hi : i < r) (F : Nat → Nat → Int) : ((tabM r c F).drop (0 + (i * c))).take ((i * c + c) - i * c) = rowL c (F i) := by
  have h := @rowle r c i hi
  rw [Nat.succ_mul] at h
  refine List.ext_getElem (by simp [tabM_len, rowL_len]; omega) fun t h1 h2 => ?_
  rw [rowL_len] at h2
  rw [List.getElem_take, List.getElem_drop]
  simp [tabM, rowL, ix_div h2, ix_mod h2]
theorem takeRows_rowL (F : Nat → Nat → Int) (r n : Nat) : takeRows F r n = (List.range r).map fun i => rowL n (F i) := rfl
theorem takeRows_snoc (F : Nat → Nat → Int) (r n : Nat) : takeRows F r n ++ [rowL n (F r)] = takeRows F (r + 1) n := by
  rw [takeRows_rowL, takeRows_rowL, List.range_succ, List.map_append]; rfl

theorem n_fromRows {n : Nat} {l : List (List Int)} (hn : n ≤ 1024) (hl : l.length ≤ 512) (h : ∀ v ∈ l, v.length = n) : m_impl_fromRows n l = some ⟨l.length, n, tabM l.length n (rowsF l)⟩ := by
  unfold m_impl_fromRows
  rw [n_concat hl (fun v hv => by rw [h v hv]; exact hn), Option.bind_some, flat_rows h]
theorem n_implSpan {p : Int} (hp : isF p = true) {n : Nat} {l : List (List Int)} (hn : n ≤ 1024) (hl : l.length ≤ 512) (h : VecsP p n l) : m_impl_span p n l = some ⟨n, spanL p n l⟩ := by
  have T := tb_rows hp hn hl h
  have hL := @redUp_len p l.length (rowsF l) n
  have h1 := T.hN
  unfold m_impl_span
  rw [n_fromRows hn hl (fun v hv => (h v hv).1), Option.bind_some, n_implReduce T, Option.bind_some]
  rw [Lp_go (r := spanL p n l) (fun k => (takeRows (redUp p l.length (rowsF l) n).1 k n, (k : Int))) (redUp p l.length (rowsF l) n).2.length (by simp [takeRows]) (fun k hk => ?_) (fun _ => ?_), Option.bind_some]
  · have hkl : k < l.length := by omega
    have h3 := @rowle l.length n k hkl
    rw [Nat.succ_mul] at h3
    unfold m_impl_span_L1
    simp only
    rw [castL_len, dlt hk, cond_true, n_row T.hN T.hm hkl, Option.bind_some, row_lo T.hN hkl, row_hi T.hN T.hm hkl]
    simp only [Int.toNat_natCast]
    rw [take_row T.hN T.hm hkl]
    unfold m_Clone
    rw [rowL_len, decide_eq_true (by omega), cond_true, Option.bind_some, takeRows_len, decide_eq_true (by omega), cond_true, takeRows_snoc, wr_suc hk (by omega)]
  · unfold m_impl_span_L1
    simp only
    rw [castL_len, dnl (Nat.le_refl _), cond_false]
    rfl
theorem n_l5Rows {n : Nat} {l : List (List Int)} (hn : n ≤ 1024) (hl : l.length ≤ 512) (h : ∀ v ∈ l, v.length = n) : m_spec_l5Rows n l = some ⟨l.length, n, tabM l.length n (rowsF l)⟩ := by
  have hb : ∀ k, (l.take k).flatten.length ≤ 1024 * 512 := fun k => by
    have := flat_len (l := l.take k) fun x hx => by rw [h x (List.mem_of_mem_take hx)]; exact hn
    have h2 : (l.take k).length ≤ 512 := by simp; omega
    omega
  unfold m_spec_l5Rows
  rw [Lp_go (r := l.flatten) (fun k => ((l.take k).flatten, (k : Int))) l.length (by simp) (fun k hk => ?_) (fun _ => ?_), Option.bind_some, flat_rows h]
  · unfold m_spec_l5Rows_L1
    simp only
    have e2 := hb (k + 1)
    rw [flat_take hk, List.length_append] at e2
    rw [dlt hk, cond_true, atL_nat hk, Option.bind_some, decide_eq_true (by omega), cond_true, wr_suc hk (by omega), flat_take hk]
  · unfold m_spec_l5Rows_L1
    simp only
    rw [dnl (Nat.le_refl _), cond_false, List.take_length]
theorem n_l5Basis {p : Int} {m n : Nat} {F : Nat → Nat → Int} (T : Tb p m n F) : m_spec_l5Basis p ⟨m, n, tabM m n F⟩ = some (takeRows (redUp p m F n).1 (redUp p m F n).2.length n) := by
  have hL := @redUp_len p m F n
  have hm := T.hm
  have hn := T.hn
  unfold m_spec_l5Basis
  rw [n_specReduce T, Option.bind_some]
  rw [Lp_go (r := takeRows (redUp p m F n).1 (redUp p m F n).2.length n) (fun k => (takeRows (redUp p m F n).1 k n, (k : Int))) (redUp p m F n).2.length (by simp [takeRows]) (fun k hk => ?_) (fun _ => ?_), Option.bind_some]
  · have hkl : k < m := by omega
    have h3 := @rowle m n k hkl
    rw [Nat.succ_mul] at h3
    have h4 := T.hN
    have e : wr (wr ((k : Int) * (n : Int)) + (n : Int)) = ((k * n + n : Nat) : Int) := by rw [row_lo T.hN hkl, wr_sm (by omega)]; omega
    unfold m_spec_l5Basis_L1
    simp only
    rw [castL_len, dlt hk, cond_true, e, row_lo T.hN hkl, tabM_len, decide_eq_true (by omega), decide_eq_true (by omega : ((k * n : Nat) : Int) ≤ ((k * n + n : Nat) : Int)), decide_eq_true (by omega : ((k * n + n : Nat) : Int) ≤ ((m * n : Nat) : Int))]
    simp only [Int.toNat_natCast, Bool.and_self, cond_true, take_row T.hN T.hm hkl]
    rw [rowL_len, decide_eq_true (by simp; omega), cond_true, takeRows_len, decide_eq_true (by omega), cond_true, List.nil_append, takeRows_snoc, wr_suc hk (by omega)]
  · unfold m_spec_l5Basis_L1
    simp only
    rw [castL_len, dnl (Nat.le_refl _), cond_false]

/-! ## which spaces are well formed -/
def bLs (l : List (List Int)) : Prop := l.length ≤ 1048576 ∧ ∀ v ∈ l, bI v
theorem vec_wr (p : Int) (v : List Int) : (isF p && decide (v.length ≤ 64) && v.all fun x => inR x 0 (wr (p - 1))) = vecV p v := by
  unfold vecV
  cases h : isF p with
  | false => rfl
  | true => rw [wr_sm (by have := isF_bd h; omega)]
theorem all_mem {α : Type} {l : List α} {P Q : α → Bool} (h : ∀ x ∈ l, P x = Q x) : l.all P = l.all Q := by
  induction l with
  | nil => rfl
  | cons x l ih => rw [List.all_cons, List.all_cons, h x (by simp), ih fun y hy => h y (by simp [hy])]
theorem any_mem {α : Type} {l : List α} {P Q : α → Bool} (h : ∀ x ∈ l, P x = Q x) : l.any P = l.any Q := by
  induction l with
  | nil => rfl
  | cons x l ih => rw [List.any_cons, List.any_cons, h x (by simp), ih fun y hy => h y (by simp [hy])]
theorem fine_eq (p size : Int) (l : List (List Int)) : fineV p size l = (isF p && inR size 0 8 && decide (l.length ≤ 16) && l.all fun v => decide ((v.length : Int) = size) && vecV p v) := rfl
theorem n_containsLL {l : List (List Int)} {f : List Int → Option Bool} (P : List Int → Bool) (hf : ∀ x ∈ l, f x = some (P x)) (h : l.length ≤ 1048576) : m_slices_ContainsFunc_LLint_Lint l f = some (l.any P) := by
  unfold m_slices_ContainsFunc_LLint_Lint m_slices_IndexFunc_LLint_Lint
  rw [Lp_search (s0 := 0) (s := 0) (n := l.length) (fun k => bif P (l[k]?.getD []) then some (k : Int) else none) rfl (by omega) (Nat.zero_le _) (fun k _ hk => ?_) (fun _ => ?_)]
  · rw [Option.bind_some]
    cases e : (List.range' 0 (l.length - 0)).findSome? (fun k : Nat => bif P (l[k]?.getD []) then some (k : Int) else none) with
    | none =>
      rw [List.findSome?_eq_none_iff] at e
      have : l.any P = false := by
        rw [List.any_eq_false]
        intro x hx
        obtain ⟨k, hk, rfl⟩ := List.mem_iff_getElem.1 hx
        have := e k (by simp; omega)
        simp only [List.getElem?_eq_getElem hk, Option.getD_some] at this
        cases hp : P l[k] with
        | false => simp
        | true => rw [hp] at this; cases this
      rw [this]; rfl
    | some i =>
      obtain ⟨k, hk, he⟩ := List.exists_of_findSome?_eq_some e
      simp at hk
      have hkl : k < l.length := by omega
      rw [List.getElem?_eq_getElem hkl] at he
      simp only [Option.getD_some] at he
      cases hp : P l[k] with
      | false => rw [hp] at he; cases he
      | true =>
        rw [hp] at he
        cases he
        have : l.any P = true := List.any_eq_true.2 ⟨_, List.getElem_mem hkl, hp⟩
        rw [this]
        simp only [Sum.elim_inr, Option.bind_some]
        rw [decide_eq_true (by omega)]
  · unfold m_slices_IndexFunc_LLint_Lint_L1
    rw [dlt hk, cond_true, atG [] hk, Option.bind_some, hf _ (mem_get [] hk), Option.bind_some]
    cases P _ <;> rfl
  · unfold m_slices_IndexFunc_LLint_Lint_L1
    rw [dnl (Nat.le_refl _), cond_false]
theorem n_areVectors (p n : Int) {l : List (List Int)} (h : bLs l) : m_impl_areVectors p n l = some (inR n 0 8 && (decide (l.length ≤ 16) && l.all fun v => decide ((v.length : Int) = n) && vecV p v)) := by
  unfold m_impl_areVectors
  rw [n_within, Option.bind_some]
  refine bif_and fun _ => ?_
  rw [show decide ((l.length : Int) ≤ 16) = decide (l.length ≤ 16) by rw [Bool.eq_iff_iff, decide_eq_true_eq, decide_eq_true_eq]; omega]
  refine bif_and fun _ => ?_
  rw [n_containsLL (fun v => !(decide ((v.length : Int) = n) && vecV p v)) (fun v hv => ?_) h.1, Option.bind_some, List.not_any_eq_all_not]
  · simp
  · unfold m_impl_areVectors_1
    cases decide ((v.length : Int) = n) with
    | false => rfl
    | true => rw [Bool.not_true, cond_false, n_implVec p (h.2 v hv), Option.bind_some, vec_wr, Bool.true_and]
theorem n_equalLL {a b : List (List Int)} (h : bLs a) : m_slices_EqualFunc_LLint_LLint_Lint_Lint a b (fun b0 b1 => m_impl_EqualSpaces_1 b0 b1) = some (decide (a = b)) := by
  obtain ⟨h, hb⟩ := h
  unfold m_slices_EqualFunc_LLint_LLint_Lint_Lint
  rw [len_test]
  by_cases e : a.length = b.length
  · rw [decide_eq_true e, Bool.not_true, cond_false]
    refine eq_lists (by omega) e (fun k h1 h2 => ?_) ?_
    · unfold m_slices_EqualFunc_LLint_LLint_Lint_Lint_L1 m_impl_EqualSpaces_1
      simp only
      rw [dlt h1, cond_true, atL_nat h1, Option.bind_some, atL_nat h2, Option.bind_some, n_SlEqual (hb _ (List.getElem_mem h1)), Option.bind_some, Option.bind_some]
      cases decide (a[k] = b[k]) <;> rfl
    · unfold m_slices_EqualFunc_LLint_LLint_Lint_Lint_L1
      rw [dnl (Nat.le_refl _), cond_false]
  · rw [decide_eq_false e, Bool.not_false, cond_true, decide_eq_false (by rintro rfl; exact e rfl)]
theorem n_equalSpaces {a b : Sc} (h : bLs a.basis) : m_impl_EqualSpaces a b = some (decide (a.size = b.size) && decide (a.basis = b.basis)) := by
  unfold m_impl_EqualSpaces
  refine bif_and fun _ => ?_
  rw [n_equalLL h, Option.bind_some]
theorem bLs_of {p : Int} {n : Nat} {l : List (List Int)} (hl : l.length ≤ 1048576) (hn : n ≤ 1048576) (h : VecsP p n l) : bLs l := ⟨hl, fun v hv => by unfold bI; rw [(h v hv).1]; exact hn⟩
theorem bLs_span {p : Int} (hp : isF p = true) {n : Nat} {l : List (List Int)} (hn : n ≤ 1048576) (h : VecsP p n l) : bLs (spanL p n l) := bLs_of (by have := (@span_len p n l).1; omega) hn (vecs_span hp h.inP)
theorem n_implIsSpace (p : Int) {s : Sc} (h : bS s) : m_impl_IsSpace p s = some (spaceV p s.size s.basis) := by
  unfold m_impl_IsSpace spaceV
  rw [n_implF, Option.bind_some, n_areVectors p s.size h.1, Option.bind_some, fine_eq]
  cases hf : isF p with
  | false => simp
  | true =>
    rw [Bool.not_true, cond_false]
    cases hv : (inR s.size 0 8 && (decide (s.basis.length ≤ 16) && s.basis.all fun v => decide ((v.length : Int) = s.size) && vecV p v)) with
    | false =>
      have hx : (true && inR s.size 0 8 && decide (s.basis.length ≤ 16) && s.basis.all fun v => decide ((v.length : Int) = s.size) && vecV p v) = false := by rw [Bool.true_and, Bool.and_assoc]; exact hv
      rw [hx]; rfl
    | true =>
      have hfine : fineV p s.size s.basis = true := by rw [fine_eq, hf]; simp only [Bool.true_and, Bool.and_assoc]; exact hv
      obtain ⟨_, n, e, hn, hl, hv2⟩ := fineV_parts hfine
      rw [Bool.not_true, cond_false, e, n_implSpan hf (by omega) (by omega) hv2, Option.bind_some, n_equalSpaces (bLs_span hf (by omega) hv2), Option.bind_some]
      rw [e] at hfine
      rw [fine_eq, hf] at hfine
      rw [hfine]
      simp [e]
theorem n_l5Fine (p n : Int) {l : List (List Int)} (h : bLs l) : m_spec_l5Fine p n l = some (fineV p n l) := by
  unfold m_spec_l5Fine
  have hall := all_range ([] : List Int) l (fun v => decide ((v.length : Int) = n) && vecV p v)
  have hb := h.1
  rw [Lp_all (fun k => decide ((((l[k]?.getD []).length : Nat) : Int) = n) && vecV p (l[k]?.getD [])) false (n := l.length) (by omega) (fun k hk => ?_) (fun _ => ?_), Option.bind_some, hall, fine_eq]
  · cases l.all fun v => decide ((v.length : Int) = n) && vecV p v with
    | false => simp
    | true =>
      simp only [cond_true, Sum.elim_inl]
      rw [n_specF, Option.bind_some, n_l1In, Option.bind_some, Bool.and_true, Bool.and_assoc]
      refine bif_and fun _ => ?_
      refine bif_and fun _ => ?_
      congr 1
      rw [Bool.eq_iff_iff, decide_eq_true_eq, decide_eq_true_eq]; omega
  · unfold m_spec_l5Fine_L1
    rw [dlt hk, cond_true, atG [] hk, Option.bind_some, Option.bind_some, n_specVec p (h.2 _ (mem_get [] hk)), Option.bind_some, vec_wr]
    cases decide ((((l[k]?.getD []).length : Nat) : Int) = n) <;> cases vecV p (l[k]?.getD []) <;> rfl
  · unfold m_spec_l5Fine_L1
    rw [dnl (Nat.le_refl _), cond_false]
theorem n_l5Same {a b : List (List Int)} (h : bLs a) : m_spec_l5Same a b = some (decide (a = b)) := by
  obtain ⟨h, hb⟩ := h
  unfold m_spec_l5Same
  rw [len_test]
  by_cases e : a.length = b.length
  · rw [decide_eq_true e, Bool.not_true, cond_false]
    refine eq_lists (by omega) e (fun k h1 h2 => ?_) ?_
    · have hbk := hb _ (List.getElem_mem h1)
      unfold bI at hbk
      unfold m_spec_l5Same_L1
      rw [dlt h1, cond_true, atL_nat h1, Option.bind_some, atL_nat h2, Option.bind_some, len_test]
      by_cases e2 : a[k].length = b[k].length
      · rw [decide_eq_true e2, Bool.not_true, cond_false]
        have h3 := Lp_all (body := m_spec_l5Same_L2 a b k) (fun j => decide (a[k][j]?.getD 0 = b[k][j]?.getD 0)) false (n := a[k].length) (by omega) (fun j hj => ?_) ?_
        · rw [h3, all_eq_list e2, Option.bind_some]
          cases decide (a[k] = b[k]) <;> rfl
        · unfold m_spec_l5Same_L2
          rw [atL_nat h1, Option.bind_some, dlt hj, cond_true, Option.bind_some, atG 0 hj, Option.bind_some, atL_nat h2, Option.bind_some, atG 0 (e2 ▸ hj), Option.bind_some]
          cases decide (a[k][j]?.getD 0 = b[k][j]?.getD 0) <;> rfl
        · intro _
          unfold m_spec_l5Same_L2
          rw [atL_nat h1, Option.bind_some, dnl (Nat.le_refl _), cond_false]
      · rw [decide_eq_false e2, Bool.not_false, cond_true, decide_eq_false (fun e3 => e2 (by rw [e3])), cond_false]
    · unfold m_spec_l5Same_L1
      rw [dnl (Nat.le_refl _), cond_false]
  · rw [decide_eq_false e, Bool.not_false, cond_true, decide_eq_false (by rintro rfl; exact e rfl)]
theorem n_specIsSpace (p : Int) {s : Sc} (h : bS s) : m_spec_IsSpace p s = some (spaceV p s.size s.basis) := by
  unfold m_spec_IsSpace spaceV
  rw [n_l5Fine p s.size h.1, Option.bind_some]
  cases hf : fineV p s.size s.basis with
  | false => rfl
  | true =>
    obtain ⟨hp, n, e, hn, hl, hv⟩ := fineV_parts hf
    rw [Bool.not_true, cond_false, e, n_l5Rows (by omega) (by omega) (fun v hv' => (hv v hv').1), Option.bind_some, n_l5Basis (tb_rows hp (by omega) (by omega) hv), Option.bind_some, show takeRows (redUp p s.basis.length (rowsF s.basis) n).1 (redUp p s.basis.length (rowsF s.basis) n).2.length n = spanL p n s.basis from rfl, n_l5Same (bLs_span hp (by omega) hv), Option.bind_some]
    simp
end Go.Proofs.Ytjfcjkeghigipaa
end

section
set_option linter.unusedVariables false
set_option linter.unusedSimpArgs false
/-
  Models and contracts of functions, made by the extractor (ex.py).
-/
namespace Go.Proofs.Ytjfcjkeghigipaa
open Go.RowKit
set_option linter.unusedVariables false
set_option linter.unusedSimpArgs false
set_option maxRecDepth 10000
set_option maxHeartbeats 4000000

noncomputable def m_laws_markIntS_L1  (x1 : ((List Int) × Int × Int)) : Option (((List Int) × Int × Int) ⊕ ((List Int) × Int)) :=
  bif decide (x1.2.2 < ((x1.1.length : Nat) : Int)) then
    (Option.bind (atL x1.1 x1.2.2) fun v2 =>
    some (.inl ((x1.1.set x1.2.2.toNat x1.2.1), wr (x1.2.1 + 1), wr (x1.2.2 + 1))))
  else
    (some (.inr (x1.1, x1.2.1)))

noncomputable def m_laws_markIntS (a0 : (List Int)) (a1 : Int) : Option ((List Int) × Int) :=
  Option.bind (Lp m_laws_markIntS_L1 (a0, a1, 0)) fun y3 =>
  some (y3.1, y3.2)

theorem c_laws_markIntS (a0 : (List Int)) (a1 : Int) (r : ((List Int) × Int)) (h : m_laws_markIntS a0 a1 = some r) : HasE Try.prog 56 [.own 0 0 a0.length, .int a1] [(0, ⟨1, List.map (ow eI) a0⟩)] 1 (.int r.2) [(0, ⟨1, List.map (ow eI) r.1⟩)] := by
 refine hasE_mk TT_ok (rvs := [.tmp 4]) (ns := [1, 2]) Try.func56 k k Try.ntmps56 k k <| sQ <| rg <| ae (eff_assign k) k <| an <| tn <| sQ <| sQ <| rg <| ae (eff_assign k) k ?_
 refine an <| tn <| ac_block ?_
 obtain ⟨y3, hy3, h⟩ := ob h
 refine ac_Lp (body := m_laws_markIntS_L1) hy3 (fun (x1 : ((List Int) × Int × Int)) => mkS [(0, .own 0 0 x1.1.length), (1, .int x1.2.1), (5, .int x1.2.2)] [(0, ⟨1, List.map (ow eI) x1.1⟩)] 1 [1, 2] 1) (fun r e t => e = .exit 0 ∧ Ent t (mkS [(1, .int r.2)] [(0, ⟨1, List.map (ow eI) r.1⟩)] 1 [1, 2] 1)) (ent_mk (σ := sg [(0, 0)]) ⟨⟨_, k, ⟨k, k, k, k⟩⟩, (e1 k k), (e1 k k), trivial⟩ ⟨⟨_, k, k, .inl ⟨k, okI.plainO _⟩⟩, k, trivial⟩ k) ?_ ?_
 ·intro x1 o h
  refine sQ <| sQ <| rg <| ae (eff_move k) k <| ae (eff_move k) k <| ae (w_len_own TT_ok k k k k) k <| ae (w_cmp k k k) k <| an <| tn ?_
  rcases cb h with ⟨q1, h⟩ | ⟨q1, h⟩
  ·refine ac_condT k q1 <| ac_skip <| tn <| sQ <| ac_block <| sQ <| rg <| ae (eff_move k) k <| ae (eff_move k) k <| ae (eff_move k) k ?_
   obtain ⟨v2, hv2, h⟩ := ob h
   refine ae (x_at_own TT_ok (atL_nn hv2) (atL_lt hv2) k k k k k k k) k <| ae (x_store TT_ok okIo (u := x1.2.1) (atL_get hv2) k k k k k k) k <| an <| tn <| rg <| ae (eff_move k) k <| ae (x_add k k) k <| ae (eff_assign k) k <| an <| block_n ?_
   refine tn <| ac_ent (t := mkS [(0, .own 0 0 ((x1.1.set x1.2.2.toNat x1.2.1).length)), (1, .int (wr (x1.2.1 + 1))), (5, .int x1.2.2)] [(0, ⟨1, List.map (ow eI) (x1.1.set x1.2.2.toNat x1.2.1)⟩)] 1 [1, 2] 1) (ent_mk (σ := sg [(0, 0)]) ⟨⟨_, k, ⟨k, k, (by simp only [len_map, List.length_append, List.length_set, List.length_replicate, List.length_cons, List.length_nil]), k⟩⟩, (e1 k k), (e1 k k), trivial⟩ ⟨⟨_, k, k, .inl ⟨k, okI.plainO _⟩⟩, k, trivial⟩ k) <| rg <| ae (eff_move k) k <| ae (x_add k k) k <| ae (eff_assign k) k <| an <| tn ?_
   obtain rfl := so h
   exact ⟨_, k, (ent_mk (σ := sg [(0, 0)]) ⟨⟨_, k, ⟨k, k, k, k⟩⟩, (e1 k k), (e1 k k), trivial⟩ ⟨⟨_, k, k, .inl ⟨k, okI.plainO _⟩⟩, k, trivial⟩ k)⟩
  ·refine ac_condF k q1 <| ac_exit <| then_exit <| then_exit ?_
   obtain rfl := so h
   exact ⟨_, k, k, (ent_mk (σ := sg [(0, 0)]) ⟨(e1 k k), trivial⟩ ⟨⟨_, k, k, .inl ⟨k, okI.plainO _⟩⟩, k, trivial⟩ k)⟩
 ·rintro e t ⟨rfl, hent⟩
  refine block_here <| tn <| ac_ent hent <| sQ <| rg <| ae (eff_move k) k <| ae (eff_assign k) k <| an <| tn <| ac_ret ?_
  obtain rfl := so h
  exact ⟨mkS [(4, .int y3.2)] [(0, ⟨1, List.map (ow eI) y3.1⟩)] 1 [1, 2] 1, (ent_mk (σ := sg [(0, 0)]) ⟨(e1 k k), trivial⟩ ⟨⟨_, k, k, .inl ⟨k, okI.plainO _⟩⟩, k, trivial⟩ k), k, ⟨_, k, .inl k⟩, ⟨k, trivial⟩⟩

noncomputable def m_laws_markIntSS_L1  (x1 : ((List (List Int)) × Int × Int)) : Option (((List (List Int)) × Int × Int) ⊕ ((List (List Int)) × Int)) :=
  bif decide (x1.2.2 < ((x1.1.length : Nat) : Int)) then
    (Option.bind (atL x1.1 x1.2.2) fun v2 =>
    Option.bind (m_laws_markIntS v2 x1.2.1) fun v3 =>
    bif decide (v3.1.length = v2.length) then
      (some (.inl ((x1.1.set x1.2.2.toNat v3.1), v3.2, wr (x1.2.2 + 1))))
    else none)
  else
    (some (.inr (x1.1, x1.2.1)))

noncomputable def m_laws_markIntSS (a0 : (List (List Int))) (a1 : Int) : Option ((List (List Int)) × Int) :=
  Option.bind (Lp m_laws_markIntSS_L1 (a0, a1, 0)) fun y5 =>
  some (y5.1, y5.2)

theorem c_laws_markIntSS (a0 : (List (List Int))) (a1 : Int) (r : ((List (List Int)) × Int)) (h : m_laws_markIntSS a0 a1 = some r) : HasT Try.prog 58 [.own 0 0 a0.length, .int a1] [(0, ⟨1, List.map (ow (eLs 1 eI)) a0⟩)] 1 (.int r.2) [(0, ⟨1, List.map (ow (eLs 1 eI)) r.1⟩)] := by
 refine hasT_mk TT_ok (rvs := [.tmp 4]) (ns := [1, 2, 3]) Try.func58 k k Try.ntmps58 k k <| sQ <| rgS <| se (eff_assign k) k <| sn <| tn <| sQ <| sQ <| rgS <| se (eff_assign k) k ?_
 refine sn <| tn <| ac_block ?_
 obtain ⟨y5, hy5, h⟩ := ob h
 refine ac_Lp (body := m_laws_markIntSS_L1) hy5 (fun (x1 : ((List (List Int)) × Int × Int)) => mkS [(0, .own 0 0 x1.1.length), (1, .int x1.2.1), (5, .int x1.2.2)] [(0, ⟨1, List.map (ow (eLs 1 eI)) x1.1⟩)] 1 [1, 2, 3] ⟨1, true, none⟩) (fun r e t => e = .exit 0 ∧ Ent t (mkS [(1, .int r.2)] [(0, ⟨1, List.map (ow (eLs 1 eI)) r.1⟩)] 1 [1, 2, 3] ⟨1, true, none⟩)) (ent_mk (σ := sg [(0, 0)]) ⟨⟨_, k, ⟨k, k, k, k⟩⟩, (e1 k k), (e1 k k), trivial⟩ ⟨⟨_, k, k, .inl ⟨k, okLs.plainO _⟩⟩, k, trivial⟩ k) ?_ ?_
 ·intro x1 o h
  refine sQ <| sQ <| rgS <| se (eff_move k) k <| se (eff_move k) k <| se (w_len_own TT_ok k k k k) k <| se (w_cmp k k k) k <| sn <| tn ?_
  rcases cb h with ⟨q1, h⟩ | ⟨q1, h⟩
  ·refine ac_condT k q1 <| ac_skip <| tn <| sQ <| ac_block <| rgS <| se (eff_move k) k <| se (eff_move k) k ?_
   obtain ⟨v2, hv2, h⟩ := ob h
   refine sops_ent (t := mkS [(0, .own 0 0 x1.1.length), (1, .int x1.2.1), (5, .int x1.2.2), (6, .int x1.2.2), (7, .own 0 0 x1.1.length), (8, .int ((x1.1.length : Nat) : Int)), (9, .bl (decide (x1.2.2 < ((x1.1.length : Nat) : Int)))), (12, .own 0 0 x1.1.length), (13, .int x1.2.2)] [(0, ⟨1, (List.map (ow (eLs 1 eI)) x1.1).set x1.2.2.toNat [.abs 1 (List.map eI v2)]⟩)] 1 [1, 2, 3] ⟨1, true, none⟩) (ent_mk (σ := sg [(0, 0)]) ⟨⟨_, k, ⟨k, k, k, k⟩⟩, (e1 k k), (e1 k k), (e1 k k), ⟨_, k, ⟨k, k, k, k⟩⟩, (e1 k k), (e1 k k), ⟨_, k, ⟨k, k, k, k⟩⟩, (e1 k k), trivial⟩ ⟨⟨_, k, k, .inl ⟨open_row (atL_get hv2), set_plain okLs k⟩⟩, k, trivial⟩ k) <| sops_ent (ent_openS (b := 0) (c := 1) (i := x1.2.2.toNat) (j := 0) (n := v2.length) (A := List.map (ow (eLs 1 eI)) x1.1) (fs := List.map (ow eI) v2) (by rw [List.length_map]; exact atL_lt hv2) k k k k (len_map _ _) (abs_map _ _) (dfE_ok ⟨k, k, k, k, k, k, k, k, k, trivial⟩) (dfH_ok (skip := []) ⟨.inr (okLs.dfS _ _ _ k), trivial⟩)) <| sops_ent (t := mkS [(0, .own 0 0 x1.1.length), (1, .int x1.2.1), (5, .int x1.2.2), (6, .int x1.2.2), (7, .own 0 0 x1.1.length), (8, .int ((x1.1.length : Nat) : Int)), (9, .bl (decide (x1.2.2 < ((x1.1.length : Nat) : Int)))), (12, .own 0 0 x1.1.length), (13, .int x1.2.2)] [(0, ⟨1, (List.map (ow (eLs 1 eI)) x1.1).set x1.2.2.toNat [.own 1 0 v2.length]⟩), (1, ⟨1, List.map (ow eI) v2⟩)] 2 [2, 3] ⟨1, true, none⟩) (ent_mk (σ := sg [(0, 0), (1, 1)]) ⟨⟨_, k, ⟨k, k, k, k⟩⟩, (e1 k k), (e1 k k), (e1 k k), ⟨_, k, ⟨k, k, k, k⟩⟩, (e1 k k), (e1 k k), ⟨_, k, ⟨k, k, k, k⟩⟩, (e1 k k), trivial⟩ ⟨⟨_, k, k, .inr (ent_set (σ := sg [(0, 0), (1, 1)]) (m := 2) (e := (eLs 1 eI)) (l := x1.1) (i := x1.2.2.toNat) (c := [.own 1 0 v2.length]) (d := [.own 1 0 v2.length]) okLs ⟨_, _, k, ⟨k, k, k, k⟩, k⟩)⟩, k, ⟨_, k, k, .inl ⟨k, okI.plainO _⟩⟩, k, trivial⟩ k) ?_
   refine se (x_at_own TT_ok (atL_nn hv2) (atL_lt hv2) k k k k k k k) k <| se (w_load_ptr TT_ok k k k k (set_at (atL_lt hv2)) k k) k <| se (eff_move k) k ?_
   obtain ⟨v3, hv3, h⟩ := ob h
   refine se (eff_hasE (σ := sg [(0, 1)]) (σ' := sg [(1, 0)]) (touch := [1]) (news := []) (hl2 := [(1, ⟨1, List.map (ow eI) v3.1⟩)]) (n' := 2) (r2 := .int v3.2) (c_laws_markIntS v2 x1.2.1 v3 hv3) k k ⟨_, _, k, ⟨k, k, k, k⟩, ⟨_, _, k, k, k⟩⟩ ⟨⟨_, k, k, .inl ⟨k, okI.plainO _⟩⟩, k, trivial⟩ k k k ⟨⟨_, k, k, .inl ⟨k, okI.plainO _⟩⟩, k, trivial⟩ k k k ⟨k, okI.tame _ _, trivial⟩ k k) k ?_
   obtain ⟨q4, h⟩ := cg h
   refine se (eff_assign k) k <| sn <| block_n <| tn <| rgS <| se (eff_move k) k <| se (x_add k k) k <| se (eff_assign k) k <| sn <| tn ?_
   obtain rfl := so h
   exact ⟨_, k, (Ent.trans (show Ent _ (mkS [(0, .own 0 0 ((x1.1.set x1.2.2.toNat v3.1).length)), (1, .int v3.2), (5, .int (wr (x1.2.2 + 1)))] [(0, ⟨1, List.map (ow (eLs 1 eI)) (x1.1.set x1.2.2.toNat v3.1)⟩)] 2 [2, 3] ⟨1, true, none⟩) from (Ent.trans (ent_absS (b := 0) (b' := 1) (j := 0) (es' := List.map eI v3.1) (by rw [List.length_map]; exact atL_lt hv2) k k k k (by simp only [len_map, List.length_append, List.length_set, List.length_replicate, List.length_cons, List.length_nil, of_decide_eq_true q4]) (okI.frzs _)) (ent_mk (σ := sg [(0, 0)]) ⟨⟨_, k, ⟨k, k, (by simp only [len_map, List.length_append, List.length_set, List.length_replicate, List.length_cons, List.length_nil, of_decide_eq_true q4]), k⟩⟩, (e1 k k), (e1 k k), trivial⟩ ⟨⟨_, k, k, .inl ⟨set_eq v3.1 k, okLs.plainO _⟩⟩, k, trivial⟩ k))) (ent_mk (σ := sg [(0, 0)]) ⟨⟨_, k, ⟨k, k, k, k⟩⟩, (e1 k k), (e1 k k), trivial⟩ ⟨⟨_, k, k, .inl ⟨k, okLs.plainO _⟩⟩, k, trivial⟩ k))⟩
  ·refine ac_condF k q1 <| ac_exit <| then_exit <| then_exit ?_
   obtain rfl := so h
   exact ⟨_, k, k, (ent_mk (σ := sg [(0, 0)]) ⟨(e1 k k), trivial⟩ ⟨⟨_, k, k, .inl ⟨k, okLs.plainO _⟩⟩, k, trivial⟩ k)⟩
 ·rintro e t ⟨rfl, hent⟩
  refine block_here <| tn <| ac_ent hent <| sQ <| rgS <| se (eff_move k) k <| se (eff_assign k) k <| sn <| tn <| ac_ret ?_
  obtain rfl := so h
  exact ⟨mkS [(4, .int y5.2)] [(0, ⟨1, List.map (ow (eLs 1 eI)) y5.1⟩)] 1 [1, 2, 3] ⟨1, true, none⟩, (ent_mk (σ := sg [(0, 0)]) ⟨(e1 k k), trivial⟩ ⟨⟨_, k, k, .inl ⟨k, okLs.plainO _⟩⟩, k, trivial⟩ k), k, ⟨_, k, .inl k⟩, ⟨k, trivial⟩⟩

noncomputable def m_laws_markSpaceS_L1  (x1 : ((List Sc) × Int × Int)) : Option (((List Sc) × Int × Int) ⊕ ((List Sc) × Int)) :=
  bif decide (x1.2.2 < ((x1.1.length : Nat) : Int)) then
    (Option.bind (atL x1.1 x1.2.2) fun v2 =>
    Option.bind (m_laws_markIntSS v2.basis (wr (x1.2.1 + 1))) fun v3 =>
    bif decide (v3.1.length = v2.basis.length) then
      (some (.inl ((x1.1.set x1.2.2.toNat (⟨x1.2.1, v3.1⟩ : Sc)), v3.2, wr (x1.2.2 + 1))))
    else none)
  else
    (some (.inr (x1.1, x1.2.1)))

noncomputable def m_laws_markSpaceS (a0 : (List Sc)) (a1 : Int) : Option ((List Sc) × Int) :=
  Option.bind (Lp m_laws_markSpaceS_L1 (a0, a1, 0)) fun y5 =>
  some (y5.1, y5.2)

theorem c_laws_markSpaceS (a0 : (List Sc)) (a1 : Int) (r : ((List Sc) × Int)) (h : m_laws_markSpaceS a0 a1 = some r) : HasT Try.prog 17 [.own 0 0 a0.length, .int a1] [(0, ⟨2, List.map (ow eS) a0⟩)] 1 (.int r.2) [(0, ⟨2, List.map (ow eS) r.1⟩)] := by
 refine hasT_mk TT_ok (rvs := [.tmp 4]) (ns := [1, 2, 3]) Try.func17 k k Try.ntmps17 k k <| sQ <| rgS <| se (eff_assign k) k <| sn <| tn <| sQ <| sQ <| rgS <| se (eff_assign k) k ?_
 refine sn <| tn <| ac_block ?_
 obtain ⟨y5, hy5, h⟩ := ob h
 refine ac_Lp (body := m_laws_markSpaceS_L1) hy5 (fun (x1 : ((List Sc) × Int × Int)) => mkS [(0, .own 0 0 x1.1.length), (1, .int x1.2.1), (5, .int x1.2.2)] [(0, ⟨2, List.map (ow eS) x1.1⟩)] 1 [1, 2, 3] ⟨1, true, none⟩) (fun r e t => e = .exit 0 ∧ Ent t (mkS [(1, .int r.2)] [(0, ⟨2, List.map (ow eS) r.1⟩)] 1 [1, 2, 3] ⟨1, true, none⟩)) (ent_mk (σ := sg [(0, 0)]) ⟨⟨_, k, ⟨k, k, k, k⟩⟩, (e1 k k), (e1 k k), trivial⟩ ⟨⟨_, k, k, .inl ⟨k, okSc.plainO _⟩⟩, k, trivial⟩ k) ?_ ?_
 ·intro x1 o h
  refine sQ <| sQ <| rgS <| se (eff_move k) k <| se (eff_move k) k <| se (w_len_own TT_ok k k k k) k <| se (w_cmp k k k) k <| sn <| tn ?_
  rcases cb h with ⟨q1, h⟩ | ⟨q1, h⟩
  ·refine ac_condT k q1 <| ac_skip <| tn <| sQ <| ac_block <| sQ <| rgS <| se (eff_move k) k <| se (eff_move k) k <| se (eff_move k) k ?_
   obtain ⟨v2, hv2, h⟩ := ob h
   refine sops_ent (t := mkS [(0, .own 0 0 x1.1.length), (1, .int x1.2.1), (5, .int x1.2.2), (6, .int x1.2.2), (7, .own 0 0 x1.1.length), (8, .int ((x1.1.length : Nat) : Int)), (9, .bl (decide (x1.2.2 < ((x1.1.length : Nat) : Int)))), (12, .own 0 0 x1.1.length), (13, .int x1.2.2), (14, .int x1.2.1)] [(0, ⟨2, (List.map (ow eS) x1.1).set x1.2.2.toNat [.int v2.size, .abs 1 (List.map (eLs 1 eI) v2.basis)]⟩)] 1 [1, 2, 3] ⟨1, true, none⟩) (ent_mk (σ := sg [(0, 0)]) ⟨⟨_, k, ⟨k, k, k, k⟩⟩, (e1 k k), (e1 k k), (e1 k k), ⟨_, k, ⟨k, k, k, k⟩⟩, (e1 k k), (e1 k k), ⟨_, k, ⟨k, k, k, k⟩⟩, (e1 k k), (e1 k k), trivial⟩ ⟨⟨_, k, k, .inl ⟨open_row (atL_get hv2), set_plain okSc k⟩⟩, k, trivial⟩ k) <| sops_ent (ent_openS (b := 0) (c := 1) (i := x1.2.2.toNat) (j := 1) (n := v2.basis.length) (A := List.map (ow eS) x1.1) (fs := List.map (ow (eLs 1 eI)) v2.basis) (by rw [List.length_map]; exact atL_lt hv2) k k k k (len_map _ _) (abs_map _ _) (dfE_ok ⟨k, k, k, k, k, k, k, k, k, k, trivial⟩) (dfH_ok (skip := []) ⟨.inr (okSc.dfS _ _ _ k), trivial⟩)) <| sops_ent (t := mkS [(0, .own 0 0 x1.1.length), (1, .int x1.2.1), (5, .int x1.2.2), (6, .int x1.2.2), (7, .own 0 0 x1.1.length), (8, .int ((x1.1.length : Nat) : Int)), (9, .bl (decide (x1.2.2 < ((x1.1.length : Nat) : Int)))), (12, .own 0 0 x1.1.length), (13, .int x1.2.2), (14, .int x1.2.1)] [(0, ⟨2, (List.map (ow eS) x1.1).set x1.2.2.toNat [.int v2.size, .own 1 0 v2.basis.length]⟩), (1, ⟨1, List.map (ow (eLs 1 eI)) v2.basis⟩)] 2 [2, 3] ⟨1, true, none⟩) (ent_mk (σ := sg [(0, 0), (1, 1)]) ⟨⟨_, k, ⟨k, k, k, k⟩⟩, (e1 k k), (e1 k k), (e1 k k), ⟨_, k, ⟨k, k, k, k⟩⟩, (e1 k k), (e1 k k), ⟨_, k, ⟨k, k, k, k⟩⟩, (e1 k k), (e1 k k), trivial⟩ ⟨⟨_, k, k, .inr (ent_set (σ := sg [(0, 0), (1, 1)]) (m := 2) (e := eS) (l := x1.1) (i := x1.2.2.toNat) (c := [.int v2.size, .own 1 0 v2.basis.length]) (d := [.int v2.size, .own 1 0 v2.basis.length]) okSc ⟨_, _, k, k, ⟨_, _, k, ⟨k, k, k, k⟩, k⟩⟩)⟩, k, ⟨_, k, k, .inl ⟨k, okLs.plainO _⟩⟩, k, trivial⟩ k) ?_
   refine se (x_at_own TT_ok (atL_nn hv2) (atL_lt hv2) k k k k k k k) k <| se (w_field_ptr TT_ok k k k k k k k) k <| se (x_storeS TT_ok (A := List.map (ow eS) x1.1) (by rw [List.length_map]; exact atL_lt hv2) k k k k k k k) k <| sn <| tn <| sQ <| rgS <| se (eff_move k) k <| se (x_add k k) k <| se (eff_assign k) k ?_
   refine sn <| tn <| rgS <| se (eff_move k) k <| se (eff_move k) k <| se (x_at_own TT_ok (atL_nn hv2) (atL_lt hv2) k k k k k k k) k <| se (w_field_ptr TT_ok k k k k k k k) k <| se (w_load_ptr TT_ok k k k k (set_at (atL_lt hv2)) k k) k <| se (eff_move k) k ?_
   obtain ⟨v3, hv3, h⟩ := ob h
   refine sops_ent (t := mkS [(0, .own 0 0 x1.1.length), (1, .int (wr (x1.2.1 + 1))), (5, .int x1.2.2), (6, .int x1.2.2), (7, .own 0 0 x1.1.length), (8, .int ((x1.1.length : Nat) : Int)), (9, .bl (decide (x1.2.2 < ((x1.1.length : Nat) : Int)))), (12, .own 0 0 x1.1.length), (13, .int x1.2.2), (14, .int x1.2.1), (15, .ptr 0 x1.2.2.toNat 0), (16, .ptr 0 x1.2.2.toNat 0), (17, .int x1.2.1), (18, .int (wr (x1.2.1 + 1))), (19, .own 0 0 x1.1.length), (20, .int x1.2.2), (21, .ptr 0 x1.2.2.toNat 0), (22, .ptr 0 x1.2.2.toNat 1), (23, .own 1 0 v2.basis.length), (24, .int (wr (x1.2.1 + 1)))] [(0, ⟨2, (List.map (ow eS) x1.1).set x1.2.2.toNat [.int x1.2.1, .own 1 0 v2.basis.length]⟩), (1, ⟨1, List.map (ow (eLs 1 eI)) v2.basis⟩)] 2 [2, 3] ⟨1, true, none⟩) (ent_mk (σ := sg [(0, 0), (1, 1)]) ⟨⟨_, k, ⟨k, k, k, k⟩⟩, (e1 k k), (e1 k k), (e1 k k), ⟨_, k, ⟨k, k, k, k⟩⟩, (e1 k k), (e1 k k), ⟨_, k, ⟨k, k, k, k⟩⟩, (e1 k k), (e1 k k), ⟨_, k, ⟨k, k, k, k⟩⟩, ⟨_, k, ⟨k, k, k, k⟩⟩, (e1 k k), (e1 k k), ⟨_, k, ⟨k, k, k, k⟩⟩, (e1 k k), ⟨_, k, ⟨k, k, k, k⟩⟩, ⟨_, k, ⟨k, k, k, k⟩⟩, ⟨_, k, ⟨k, k, k, k⟩⟩, (e1 k k), trivial⟩ ⟨⟨_, k, k, .inr (ent_set (σ := sg [(0, 0), (1, 1)]) (m := 2) (e := eS) (l := x1.1) (i := x1.2.2.toNat) (c := [.int x1.2.1, .own 1 0 v2.basis.length]) (d := [.int x1.2.1, .own 1 0 v2.basis.length]) okSc ⟨_, _, k, k, ⟨_, _, k, ⟨k, k, k, k⟩, k⟩⟩)⟩, k, ⟨_, k, k, .inl ⟨k, okLs.plainO _⟩⟩, k, trivial⟩ k) <| sops_T (σ := sg [(0, 1)]) (σ' := sg [(1, 0)]) (touch := [1]) (news := []) (hl2 := [(1, ⟨1, List.map (ow (eLs 1 eI)) v3.1⟩)]) (n' := 2) (r2 := .int v3.2) (c_laws_markIntSS v2.basis (wr (x1.2.1 + 1)) v3 hv3) k k ⟨_, _, k, ⟨k, k, k, k⟩, ⟨_, _, k, k, k⟩⟩ ⟨⟨_, k, k, .inl ⟨k, okLs.plainO _⟩⟩, k, trivial⟩ k k k ⟨⟨_, k, k, .inl ⟨k, okLs.plainO _⟩⟩, k, trivial⟩ k k k ⟨k, okLs.tame _ _, trivial⟩ k k k k k (dfE_ok ⟨k, k, k, k, k, k, k, k, k, k, k, k, k, k, k, k, k, k, k, k, trivial⟩) (dfH_ok (skip := [1]) ⟨.inr (okSc.dfS _ _ _ k), .inl (by decide), trivial⟩) ?_
   obtain ⟨q4, h⟩ := cg h
   refine se (eff_assign k) k <| sn <| block_n <| tn <| rgS <| se (eff_move k) k <| se (x_add k k) k <| se (eff_assign k) k <| sn <| tn ?_
   obtain rfl := so h
   exact ⟨_, k, (Ent.trans (show Ent _ (mkS [(0, .own 0 0 ((x1.1.set x1.2.2.toNat (⟨x1.2.1, v3.1⟩ : Sc)).length)), (1, .int v3.2), (5, .int (wr (x1.2.2 + 1)))] [(0, ⟨2, List.map (ow eS) (x1.1.set x1.2.2.toNat (⟨x1.2.1, v3.1⟩ : Sc))⟩)] 2 [2, 3] ⟨1, true, none⟩) from (Ent.trans (ent_absS (b := 0) (b' := 1) (j := 1) (es' := List.map (eLs 1 eI) v3.1) (by rw [List.length_map]; exact atL_lt hv2) k k k k (by simp only [len_map, List.length_append, List.length_set, List.length_replicate, List.length_cons, List.length_nil, of_decide_eq_true q4]) (okLs.frzs _)) (ent_mk (σ := sg [(0, 0)]) ⟨⟨_, k, ⟨k, k, (by simp only [len_map, List.length_append, List.length_set, List.length_replicate, List.length_cons, List.length_nil, of_decide_eq_true q4]), k⟩⟩, (e1 k k), (e1 k k), trivial⟩ ⟨⟨_, k, k, .inl ⟨set_eq (⟨x1.2.1, v3.1⟩ : Sc) k, okSc.plainO _⟩⟩, k, trivial⟩ k))) (ent_mk (σ := sg [(0, 0)]) ⟨⟨_, k, ⟨k, k, k, k⟩⟩, (e1 k k), (e1 k k), trivial⟩ ⟨⟨_, k, k, .inl ⟨k, okSc.plainO _⟩⟩, k, trivial⟩ k))⟩
  ·refine ac_condF k q1 <| ac_exit <| then_exit <| then_exit ?_
   obtain rfl := so h
   exact ⟨_, k, k, (ent_mk (σ := sg [(0, 0)]) ⟨(e1 k k), trivial⟩ ⟨⟨_, k, k, .inl ⟨k, okSc.plainO _⟩⟩, k, trivial⟩ k)⟩
 ·rintro e t ⟨rfl, hent⟩
  refine block_here <| tn <| ac_ent hent <| sQ <| rgS <| se (eff_move k) k <| se (eff_assign k) k <| sn <| tn <| ac_ret ?_
  obtain rfl := so h
  exact ⟨mkS [(4, .int y5.2)] [(0, ⟨2, List.map (ow eS) y5.1⟩)] 1 [1, 2, 3] ⟨1, true, none⟩, (ent_mk (σ := sg [(0, 0)]) ⟨(e1 k k), trivial⟩ ⟨⟨_, k, k, .inl ⟨k, okSc.plainO _⟩⟩, k, trivial⟩ k), k, ⟨_, k, .inl k⟩, ⟨k, trivial⟩⟩

noncomputable def m_laws_markQuiver (a0 : Qv) (a1 : Int) : Option ((List Int) × (List Int) × Int) :=
  Option.bind (m_laws_markIntS a0.src a1) fun v1 =>
  bif decide (v1.1.length = a0.src.length) then
    (Option.bind (m_laws_markIntS a0.tgt v1.2) fun v3 =>
    bif decide (v3.1.length = a0.tgt.length) then
      (some (v1.1, v3.1, v3.2))
    else none)
  else none

theorem c_laws_markQuiver (a0 : Qv) (a1 : Int) (r : ((List Int) × (List Int) × Int)) (h : m_laws_markQuiver a0 a1 = some r) : HasE Try.prog 55 [.agg [.int a0.n, .own 0 0 a0.src.length, .own 1 0 a0.tgt.length], .int a1] [(0, ⟨1, List.map (ow eI) a0.src⟩), (1, ⟨1, List.map (ow eI) a0.tgt⟩)] 2 (.int r.2.2) [(0, ⟨1, List.map (ow eI) r.1⟩), (1, ⟨1, List.map (ow eI) r.2.1⟩)] := by
 refine hasE_mk TT_ok (rvs := [.tmp 4]) (ns := [2, 3, 4]) Try.func55 k k Try.ntmps55 k k <| sQ <| rg <| ae (w_box k k k k) k <| ae (eff_assign k) k <| an <| tn <| sQ <| rg <| ae (w_field_ptr TT_ok k k k k k k k) k ?_
 refine ae (w_load_ptr TT_ok k k k k k k k) k <| ae (eff_move k) k ?_
 obtain ⟨v1, hv1, h⟩ := ob h
 refine ae (eff_hasE (σ := sg [(0, 0)]) (σ' := sg [(0, 0)]) (touch := [0]) (news := []) (hl2 := [(0, ⟨1, List.map (ow eI) v1.1⟩)]) (n' := 3) (r2 := .int v1.2) (c_laws_markIntS a0.src a1 v1 hv1) k k ⟨_, _, k, ⟨k, k, k, k⟩, ⟨_, _, k, k, k⟩⟩ ⟨⟨_, k, k, .inl ⟨k, okI.plainO _⟩⟩, k, trivial⟩ k k k ⟨⟨_, k, k, .inl ⟨k, okI.plainO _⟩⟩, k, trivial⟩ k k k ⟨k, okI.tame _ _, trivial⟩ k k) k ?_
 obtain ⟨q2, h⟩ := cg h
 refine ae (eff_assign k) k <| an <| tn <| sQ <| rg <| ae (w_field_ptr TT_ok k k k k k k k) k <| ae (w_load_ptr TT_ok k k k k k k k) k <| ae (eff_move k) k ?_
 obtain ⟨v3, hv3, h⟩ := ob h
 refine ae (eff_hasE (σ := sg [(0, 1)]) (σ' := sg [(1, 0)]) (touch := [1]) (news := []) (hl2 := [(1, ⟨1, List.map (ow eI) v3.1⟩)]) (n' := 3) (r2 := .int v3.2) (c_laws_markIntS a0.tgt v1.2 v3 hv3) k k ⟨_, _, k, ⟨k, k, k, k⟩, ⟨_, _, k, k, k⟩⟩ ⟨⟨_, k, k, .inl ⟨k, okI.plainO _⟩⟩, k, trivial⟩ k k k ⟨⟨_, k, k, .inl ⟨k, okI.plainO _⟩⟩, k, trivial⟩ k k k ⟨k, okI.tame _ _, trivial⟩ k k) k ?_
 obtain ⟨q4, h⟩ := cg h
 refine ae (eff_assign k) k <| an <| tn <| ac_ent (t := mkS [(1, .int v3.2)] [(0, ⟨1, List.map (ow eI) v1.1⟩), (1, ⟨1, List.map (ow eI) v3.1⟩)] 3 [3, 4] 2) (ent_mk (σ := sg [(0, 0), (1, 1)]) ⟨(e1 k k), trivial⟩ ⟨⟨_, k, k, .inl ⟨k, okI.plainO _⟩⟩, k, ⟨_, k, k, .inl ⟨k, okI.plainO _⟩⟩, k, trivial⟩ k) <| sQ <| rg <| ae (eff_move k) k <| ae (eff_assign k) k <| an <| tn ?_
 refine ac_ret ?_
 obtain rfl := so h
 exact ⟨mkS [(4, .int v3.2)] [(0, ⟨1, List.map (ow eI) v1.1⟩), (1, ⟨1, List.map (ow eI) v3.1⟩)] 2 [2, 3, 4] 2, (ent_mk (σ := sg [(0, 0), (1, 1)]) ⟨(e1 k k), trivial⟩ ⟨⟨_, k, k, .inl ⟨k, okI.plainO _⟩⟩, k, ⟨_, k, k, .inl ⟨k, okI.plainO _⟩⟩, k, trivial⟩ k), k, ⟨_, k, .inl k⟩, ⟨k, k, trivial⟩⟩

noncomputable def m_laws_markMatrixS_L1  (x1 : ((List Mt) × Int × Int)) : Option (((List Mt) × Int × Int) ⊕ ((List Mt) × Int)) :=
  bif decide (x1.2.2 < ((x1.1.length : Nat) : Int)) then
    (Option.bind (atL x1.1 x1.2.2) fun v2 =>
    Option.bind (m_laws_markIntS v2.cells (wr ((wr (x1.2.1 + 1)) + 1))) fun v3 =>
    bif decide (v3.1.length = v2.cells.length) then
      (some (.inl ((x1.1.set x1.2.2.toNat (⟨x1.2.1, wr (x1.2.1 + 1), v3.1⟩ : Mt)), v3.2, wr (x1.2.2 + 1))))
    else none)
  else
    (some (.inr (x1.1, x1.2.1)))

noncomputable def m_laws_markMatrixS (a0 : (List Mt)) (a1 : Int) : Option ((List Mt) × Int) :=
  Option.bind (Lp m_laws_markMatrixS_L1 (a0, a1, 0)) fun y5 =>
  some (y5.1, y5.2)

theorem c_laws_markMatrixS (a0 : (List Mt)) (a1 : Int) (r : ((List Mt) × Int)) (h : m_laws_markMatrixS a0 a1 = some r) : HasT Try.prog 57 [.own 0 0 a0.length, .int a1] [(0, ⟨3, List.map (ow eM) a0⟩)] 1 (.int r.2) [(0, ⟨3, List.map (ow eM) r.1⟩)] := by
 refine hasT_mk TT_ok (rvs := [.tmp 4]) (ns := [1, 2, 3]) Try.func57 k k Try.ntmps57 k k <| sQ <| rgS <| se (eff_assign k) k <| sn <| tn <| sQ <| sQ <| rgS <| se (eff_assign k) k ?_
 refine sn <| tn <| ac_block ?_
 obtain ⟨y5, hy5, h⟩ := ob h
 refine ac_Lp (body := m_laws_markMatrixS_L1) hy5 (fun (x1 : ((List Mt) × Int × Int)) => mkS [(0, .own 0 0 x1.1.length), (1, .int x1.2.1), (5, .int x1.2.2)] [(0, ⟨3, List.map (ow eM) x1.1⟩)] 1 [1, 2, 3] ⟨1, true, none⟩) (fun r e t => e = .exit 0 ∧ Ent t (mkS [(1, .int r.2)] [(0, ⟨3, List.map (ow eM) r.1⟩)] 1 [1, 2, 3] ⟨1, true, none⟩)) (ent_mk (σ := sg [(0, 0)]) ⟨⟨_, k, ⟨k, k, k, k⟩⟩, (e1 k k), (e1 k k), trivial⟩ ⟨⟨_, k, k, .inl ⟨k, okMt.plainO _⟩⟩, k, trivial⟩ k) ?_ ?_
 ·intro x1 o h
  refine sQ <| sQ <| rgS <| se (eff_move k) k <| se (eff_move k) k <| se (w_len_own TT_ok k k k k) k <| se (w_cmp k k k) k <| sn <| tn ?_
  rcases cb h with ⟨q1, h⟩ | ⟨q1, h⟩
  ·refine ac_condT k q1 <| ac_skip <| tn <| sQ <| ac_block <| sQ <| rgS <| se (eff_move k) k <| se (eff_move k) k <| se (eff_move k) k ?_
   obtain ⟨v2, hv2, h⟩ := ob h
   refine sops_ent (t := mkS [(0, .own 0 0 x1.1.length), (1, .int x1.2.1), (5, .int x1.2.2), (6, .int x1.2.2), (7, .own 0 0 x1.1.length), (8, .int ((x1.1.length : Nat) : Int)), (9, .bl (decide (x1.2.2 < ((x1.1.length : Nat) : Int)))), (12, .own 0 0 x1.1.length), (13, .int x1.2.2), (14, .int x1.2.1)] [(0, ⟨3, (List.map (ow eM) x1.1).set x1.2.2.toNat [.int v2.rows, .int v2.cols, .abs 1 (List.map eI v2.cells)]⟩)] 1 [1, 2, 3] ⟨1, true, none⟩) (ent_mk (σ := sg [(0, 0)]) ⟨⟨_, k, ⟨k, k, k, k⟩⟩, (e1 k k), (e1 k k), (e1 k k), ⟨_, k, ⟨k, k, k, k⟩⟩, (e1 k k), (e1 k k), ⟨_, k, ⟨k, k, k, k⟩⟩, (e1 k k), (e1 k k), trivial⟩ ⟨⟨_, k, k, .inl ⟨open_row (atL_get hv2), set_plain okMt k⟩⟩, k, trivial⟩ k) <| sops_ent (ent_openS (b := 0) (c := 1) (i := x1.2.2.toNat) (j := 2) (n := v2.cells.length) (A := List.map (ow eM) x1.1) (fs := List.map (ow eI) v2.cells) (by rw [List.length_map]; exact atL_lt hv2) k k k k (len_map _ _) (abs_map _ _) (dfE_ok ⟨k, k, k, k, k, k, k, k, k, k, trivial⟩) (dfH_ok (skip := []) ⟨.inr (okMt.dfS _ _ _ k), trivial⟩)) <| sops_ent (t := mkS [(0, .own 0 0 x1.1.length), (1, .int x1.2.1), (5, .int x1.2.2), (6, .int x1.2.2), (7, .own 0 0 x1.1.length), (8, .int ((x1.1.length : Nat) : Int)), (9, .bl (decide (x1.2.2 < ((x1.1.length : Nat) : Int)))), (12, .own 0 0 x1.1.length), (13, .int x1.2.2), (14, .int x1.2.1)] [(0, ⟨3, (List.map (ow eM) x1.1).set x1.2.2.toNat [.int v2.rows, .int v2.cols, .own 1 0 v2.cells.length]⟩), (1, ⟨1, List.map (ow eI) v2.cells⟩)] 2 [2, 3] ⟨1, true, none⟩) (ent_mk (σ := sg [(0, 0), (1, 1)]) ⟨⟨_, k, ⟨k, k, k, k⟩⟩, (e1 k k), (e1 k k), (e1 k k), ⟨_, k, ⟨k, k, k, k⟩⟩, (e1 k k), (e1 k k), ⟨_, k, ⟨k, k, k, k⟩⟩, (e1 k k), (e1 k k), trivial⟩ ⟨⟨_, k, k, .inr (ent_set (σ := sg [(0, 0), (1, 1)]) (m := 2) (e := eM) (l := x1.1) (i := x1.2.2.toNat) (c := [.int v2.rows, .int v2.cols, .own 1 0 v2.cells.length]) (d := [.int v2.rows, .int v2.cols, .own 1 0 v2.cells.length]) okMt ⟨_, _, k, k, ⟨_, _, k, k, ⟨_, _, k, ⟨k, k, k, k⟩, k⟩⟩⟩)⟩, k, ⟨_, k, k, .inl ⟨k, okI.plainO _⟩⟩, k, trivial⟩ k) ?_
   refine se (x_at_own TT_ok (atL_nn hv2) (atL_lt hv2) k k k k k k k) k <| se (w_field_ptr TT_ok k k k k k k k) k <| se (x_storeS TT_ok (A := List.map (ow eM) x1.1) (by rw [List.length_map]; exact atL_lt hv2) k k k k k k k) k <| sn <| tn <| sQ <| rgS <| se (eff_move k) k <| se (x_add k k) k <| se (eff_assign k) k ?_
   refine sn <| tn <| sQ <| rgS <| se (eff_move k) k <| se (eff_move k) k <| se (eff_move k) k <| se (x_at_own TT_ok (atL_nn hv2) (atL_lt hv2) k k k k k k k) k <| se (w_field_ptr TT_ok k k k k k k k) k <| se (x_storeS TT_ok (A := List.map (ow eM) x1.1) (by rw [List.length_map]; exact atL_lt hv2) k k k k k k k) k ?_
   refine sn <| tn <| sQ <| rgS <| se (eff_move k) k <| se (x_add k k) k <| se (eff_assign k) k <| sn <| tn <| ac_ent (t := mkS [(0, .own 0 0 x1.1.length), (1, .int (wr ((wr (x1.2.1 + 1)) + 1))), (5, .int x1.2.2)] [(0, ⟨3, (List.map (ow eM) x1.1).set x1.2.2.toNat [.int x1.2.1, .int (wr (x1.2.1 + 1)), .own 1 0 v2.cells.length]⟩), (1, ⟨1, List.map (ow eI) v2.cells⟩)] 2 [2, 3] ⟨1, true, none⟩) (ent_mk (σ := sg [(0, 0), (1, 1)]) ⟨⟨_, k, ⟨k, k, k, k⟩⟩, (e1 k k), (e1 k k), trivial⟩ ⟨⟨_, k, k, .inr (ent_set (σ := sg [(0, 0), (1, 1)]) (m := 2) (e := eM) (l := x1.1) (i := x1.2.2.toNat) (c := [.int x1.2.1, .int (wr (x1.2.1 + 1)), .own 1 0 v2.cells.length]) (d := [.int x1.2.1, .int (wr (x1.2.1 + 1)), .own 1 0 v2.cells.length]) okMt ⟨_, _, k, k, ⟨_, _, k, k, ⟨_, _, k, ⟨k, k, k, k⟩, k⟩⟩⟩)⟩, k, ⟨_, k, k, .inl ⟨k, okI.plainO _⟩⟩, k, trivial⟩ k) ?_
   refine rgS <| se (eff_move k) k <| se (eff_move k) k <| se (x_at_own TT_ok (atL_nn hv2) (atL_lt hv2) k k k k k k k) k <| se (w_field_ptr TT_ok k k k k k k k) k <| se (w_load_ptr TT_ok k k k k (set_at (atL_lt hv2)) k k) k <| se (eff_move k) k ?_
   obtain ⟨v3, hv3, h⟩ := ob h
   refine se (eff_hasE (σ := sg [(0, 1)]) (σ' := sg [(1, 0)]) (touch := [1]) (news := []) (hl2 := [(1, ⟨1, List.map (ow eI) v3.1⟩)]) (n' := 2) (r2 := .int v3.2) (c_laws_markIntS v2.cells (wr ((wr (x1.2.1 + 1)) + 1)) v3 hv3) k k ⟨_, _, k, ⟨k, k, k, k⟩, ⟨_, _, k, k, k⟩⟩ ⟨⟨_, k, k, .inl ⟨k, okI.plainO _⟩⟩, k, trivial⟩ k k k ⟨⟨_, k, k, .inl ⟨k, okI.plainO _⟩⟩, k, trivial⟩ k k k ⟨k, okI.tame _ _, trivial⟩ k k) k ?_
   obtain ⟨q4, h⟩ := cg h
   refine se (eff_assign k) k <| sn <| block_n <| tn <| rgS <| se (eff_move k) k <| se (x_add k k) k <| se (eff_assign k) k <| sn <| tn ?_
   obtain rfl := so h
   exact ⟨_, k, (Ent.trans (show Ent _ (mkS [(0, .own 0 0 ((x1.1.set x1.2.2.toNat (⟨x1.2.1, wr (x1.2.1 + 1), v3.1⟩ : Mt)).length)), (1, .int v3.2), (5, .int (wr (x1.2.2 + 1)))] [(0, ⟨3, List.map (ow eM) (x1.1.set x1.2.2.toNat (⟨x1.2.1, wr (x1.2.1 + 1), v3.1⟩ : Mt))⟩)] 2 [2, 3] ⟨1, true, none⟩) from (Ent.trans (ent_absS (b := 0) (b' := 1) (j := 2) (es' := List.map eI v3.1) (by rw [List.length_map]; exact atL_lt hv2) k k k k (by simp only [len_map, List.length_append, List.length_set, List.length_replicate, List.length_cons, List.length_nil, of_decide_eq_true q4]) (okI.frzs _)) (ent_mk (σ := sg [(0, 0)]) ⟨⟨_, k, ⟨k, k, (by simp only [len_map, List.length_append, List.length_set, List.length_replicate, List.length_cons, List.length_nil, of_decide_eq_true q4]), k⟩⟩, (e1 k k), (e1 k k), trivial⟩ ⟨⟨_, k, k, .inl ⟨set_eq (⟨x1.2.1, wr (x1.2.1 + 1), v3.1⟩ : Mt) k, okMt.plainO _⟩⟩, k, trivial⟩ k))) (ent_mk (σ := sg [(0, 0)]) ⟨⟨_, k, ⟨k, k, k, k⟩⟩, (e1 k k), (e1 k k), trivial⟩ ⟨⟨_, k, k, .inl ⟨k, okMt.plainO _⟩⟩, k, trivial⟩ k))⟩
  ·refine ac_condF k q1 <| ac_exit <| then_exit <| then_exit ?_
   obtain rfl := so h
   exact ⟨_, k, k, (ent_mk (σ := sg [(0, 0)]) ⟨(e1 k k), trivial⟩ ⟨⟨_, k, k, .inl ⟨k, okMt.plainO _⟩⟩, k, trivial⟩ k)⟩
 ·rintro e t ⟨rfl, hent⟩
  refine block_here <| tn <| ac_ent hent <| sQ <| rgS <| se (eff_move k) k <| se (eff_assign k) k <| sn <| tn <| ac_ret ?_
  obtain rfl := so h
  exact ⟨mkS [(4, .int y5.2)] [(0, ⟨3, List.map (ow eM) y5.1⟩)] 1 [1, 2, 3] ⟨1, true, none⟩, (ent_mk (σ := sg [(0, 0)]) ⟨(e1 k k), trivial⟩ ⟨⟨_, k, k, .inl ⟨k, okMt.plainO _⟩⟩, k, trivial⟩ k), k, ⟨_, k, .inl k⟩, ⟨k, trivial⟩⟩

noncomputable def m_laws_markRep (a0 : Rp) (a1 : Int) : Option ((List Int) × (List Int) × (List Int) × (List Mt) × Int) :=
  Option.bind (m_laws_markQuiver a0.q a1) fun v1 =>
  bif decide (v1.1.length = a0.q.src.length) then
    (bif decide (v1.2.1.length = a0.q.tgt.length) then
      (Option.bind (m_laws_markIntS a0.dims v1.2.2) fun v4 =>
      bif decide (v4.1.length = a0.dims.length) then
        (Option.bind (m_laws_markMatrixS a0.maps v4.2) fun v6 =>
        bif decide (v6.1.length = a0.maps.length) then
          (some (v1.1, v1.2.1, v4.1, v6.1, v6.2))
        else none)
      else none)
    else none)
  else none

theorem c_laws_markRep (a0 : Rp) (a1 : Int) (r : ((List Int) × (List Int) × (List Int) × (List Mt) × Int)) (h : m_laws_markRep a0 a1 = some r) : HasT Try.prog 16 [.agg [.int a0.p, .int a0.q.n, .own 0 0 a0.q.src.length, .own 1 0 a0.q.tgt.length, .own 2 0 a0.dims.length, .own 3 0 a0.maps.length], .int a1] [(0, ⟨1, List.map (ow eI) a0.q.src⟩), (1, ⟨1, List.map (ow eI) a0.q.tgt⟩), (2, ⟨1, List.map (ow eI) a0.dims⟩), (3, ⟨3, List.map (ow eM) a0.maps⟩)] 4 (.int r.2.2.2.2) [(0, ⟨1, List.map (ow eI) r.1⟩), (1, ⟨1, List.map (ow eI) r.2.1⟩), (2, ⟨1, List.map (ow eI) r.2.2.1⟩), (3, ⟨3, List.map (ow eM) r.2.2.2.1⟩)] := by
 refine hasT_mk TT_ok (rvs := [.tmp 4]) (ns := [4, 5, 6]) Try.func16 k k Try.ntmps16 k k <| sQ <| rgS <| se (w_box k k k k) k <| se (eff_assign k) k <| sn <| tn <| sQ <| rgS <| se (w_field_ptr TT_ok k k k k k k k) k ?_
 refine se (w_load_ptr TT_ok k k k k k k k) k <| se (eff_move k) k ?_
 obtain ⟨v1, hv1, h⟩ := ob h
 refine se (eff_hasE (σ := sg [(0, 0), (1, 1)]) (σ' := sg [(0, 0), (1, 1)]) (touch := [0, 1]) (news := []) (hl2 := [(0, ⟨1, List.map (ow eI) v1.1⟩), (1, ⟨1, List.map (ow eI) v1.2.1⟩)]) (n' := 5) (r2 := .int v1.2.2) (c_laws_markQuiver a0.q a1 v1 hv1) k k ⟨_, _, k, ⟨_, _, k, k, ⟨_, _, k, ⟨k, k, k, k⟩, ⟨_, _, k, ⟨k, k, k, k⟩, k⟩⟩⟩, ⟨_, _, k, k, k⟩⟩ ⟨⟨_, k, k, .inl ⟨k, okI.plainO _⟩⟩, k, ⟨_, k, k, .inl ⟨k, okI.plainO _⟩⟩, k, trivial⟩ k k k ⟨⟨_, k, k, .inl ⟨k, okI.plainO _⟩⟩, k, ⟨_, k, k, .inl ⟨k, okI.plainO _⟩⟩, k, trivial⟩ k k k ⟨k, okI.tame _ _, ⟨k, okI.tame _ _, trivial⟩⟩ k k) k ?_
 obtain ⟨q2, h⟩ := cg h
 obtain ⟨q3, h⟩ := cg h
 refine se (eff_assign k) k <| sn <| tn <| sQ <| rgS <| se (w_field_ptr TT_ok k k k k k k k) k <| se (w_load_ptr TT_ok k k k k k k k) k <| se (eff_move k) k ?_
 obtain ⟨v4, hv4, h⟩ := ob h
 refine se (eff_hasE (σ := sg [(0, 2)]) (σ' := sg [(2, 0)]) (touch := [2]) (news := []) (hl2 := [(2, ⟨1, List.map (ow eI) v4.1⟩)]) (n' := 5) (r2 := .int v4.2) (c_laws_markIntS a0.dims v1.2.2 v4 hv4) k k ⟨_, _, k, ⟨k, k, k, k⟩, ⟨_, _, k, k, k⟩⟩ ⟨⟨_, k, k, .inl ⟨k, okI.plainO _⟩⟩, k, trivial⟩ k k k ⟨⟨_, k, k, .inl ⟨k, okI.plainO _⟩⟩, k, trivial⟩ k k k ⟨k, okI.tame _ _, trivial⟩ k k) k ?_
 obtain ⟨q5, h⟩ := cg h
 refine se (eff_assign k) k <| sn <| tn <| ac_ent (t := mkS [(1, .int v4.2), (2, .ptr 4 0 0)] [(0, ⟨1, List.map (ow eI) v1.1⟩), (1, ⟨1, List.map (ow eI) v1.2.1⟩), (2, ⟨1, List.map (ow eI) v4.1⟩), (3, ⟨3, List.map (ow eM) a0.maps⟩), (4, ⟨6, [[.int a0.p, .int a0.q.n, .own 0 0 v1.1.length, .own 1 0 v1.2.1.length, .own 2 0 v4.1.length, .own 3 0 a0.maps.length]]⟩)] 5 [5, 6] ⟨4, true, none⟩) (ent_mk (σ := sg [(0, 0), (1, 1), (2, 2), (3, 3), (4, 4)]) ⟨(e1 k k), ⟨_, k, ⟨k, k, k, k⟩⟩, trivial⟩ ⟨⟨_, k, k, .inl ⟨k, okI.plainO _⟩⟩, k, ⟨_, k, k, .inl ⟨k, okI.plainO _⟩⟩, k, ⟨_, k, k, .inl ⟨k, okI.plainO _⟩⟩, k, ⟨_, k, k, .inl ⟨k, okMt.plainO _⟩⟩, k, ⟨_, k, k, .inr ⟨_, _, k, ⟨_, _, k, k, ⟨_, _, k, k, ⟨_, _, k, ⟨k, k, (by simp only [len_map, List.length_append, List.length_set, List.length_replicate, List.length_cons, List.length_nil, of_decide_eq_true q2]), k⟩, ⟨_, _, k, ⟨k, k, (by simp only [len_map, List.length_append, List.length_set, List.length_replicate, List.length_cons, List.length_nil, of_decide_eq_true q3]), k⟩, ⟨_, _, k, ⟨k, k, (by simp only [len_map, List.length_append, List.length_set, List.length_replicate, List.length_cons, List.length_nil, of_decide_eq_true q5]), k⟩, ⟨_, _, k, ⟨k, k, k, k⟩, k⟩⟩⟩⟩⟩⟩, k⟩⟩, k, trivial⟩ k) <| sQ <| rgS <| se (w_field_ptr TT_ok k k k k k k k) k <| se (w_load_ptr TT_ok k k k k k k k) k <| se (eff_move k) k ?_
 obtain ⟨v6, hv6, h⟩ := ob h
 refine sops_ent (t := mkS [(1, .int v4.2), (2, .ptr 4 0 0), (13, .ptr 4 0 5), (14, .own 3 0 a0.maps.length), (15, .int v4.2)] [(0, ⟨1, List.map (ow eI) v1.1⟩), (1, ⟨1, List.map (ow eI) v1.2.1⟩), (2, ⟨1, List.map (ow eI) v4.1⟩), (3, ⟨3, List.map (ow eM) a0.maps⟩), (4, ⟨6, [[.int a0.p, .int a0.q.n, .own 0 0 v1.1.length, .own 1 0 v1.2.1.length, .own 2 0 v4.1.length, .own 3 0 a0.maps.length]]⟩)] 5 [5, 6] ⟨4, true, none⟩) (ent_mk (σ := sg [(0, 0), (1, 1), (2, 2), (3, 3), (4, 4)]) ⟨(e1 k k), ⟨_, k, ⟨k, k, k, k⟩⟩, ⟨_, k, ⟨k, k, k, k⟩⟩, ⟨_, k, ⟨k, k, k, k⟩⟩, (e1 k k), trivial⟩ ⟨⟨_, k, k, .inl ⟨k, okI.plainO _⟩⟩, k, ⟨_, k, k, .inl ⟨k, okI.plainO _⟩⟩, k, ⟨_, k, k, .inl ⟨k, okI.plainO _⟩⟩, k, ⟨_, k, k, .inl ⟨k, okMt.plainO _⟩⟩, k, ⟨_, k, k, .inr ⟨_, _, k, ⟨_, _, k, k, ⟨_, _, k, k, ⟨_, _, k, ⟨k, k, k, k⟩, ⟨_, _, k, ⟨k, k, k, k⟩, ⟨_, _, k, ⟨k, k, k, k⟩, ⟨_, _, k, ⟨k, k, k, k⟩, k⟩⟩⟩⟩⟩⟩, k⟩⟩, k, trivial⟩ k) <| sops_T (σ := sg [(0, 3)]) (σ' := sg [(3, 0)]) (touch := [3]) (news := []) (hl2 := [(3, ⟨3, List.map (ow eM) v6.1⟩)]) (n' := 5) (r2 := .int v6.2) (c_laws_markMatrixS a0.maps v4.2 v6 hv6) k k ⟨_, _, k, ⟨k, k, k, k⟩, ⟨_, _, k, k, k⟩⟩ ⟨⟨_, k, k, .inl ⟨k, okMt.plainO _⟩⟩, k, trivial⟩ k k k ⟨⟨_, k, k, .inl ⟨k, okMt.plainO _⟩⟩, k, trivial⟩ k k k ⟨k, okMt.tame _ _, trivial⟩ k k k k k (dfE_ok ⟨k, k, k, k, k, trivial⟩) (dfH_ok (skip := [3]) ⟨.inr (okI.df _ _), .inr (okI.df _ _), .inr (okI.df _ _), .inl (by decide), .inr (df_lit k), trivial⟩) ?_
 obtain ⟨q7, h⟩ := cg h
 refine se (eff_assign k) k <| sn <| tn <| sQ <| rgS <| se (eff_move k) k <| se (eff_assign k) k <| sn <| tn <| ac_ret ?_
 obtain rfl := so h
 exact ⟨mkS [(4, .int v6.2)] [(0, ⟨1, List.map (ow eI) v1.1⟩), (1, ⟨1, List.map (ow eI) v1.2.1⟩), (2, ⟨1, List.map (ow eI) v4.1⟩), (3, ⟨3, List.map (ow eM) v6.1⟩)] 4 [4, 5, 6] ⟨4, true, none⟩, (ent_mk (σ := sg [(0, 0), (1, 1), (2, 2), (3, 3)]) ⟨(e1 k k), trivial⟩ ⟨⟨_, k, k, .inl ⟨k, okI.plainO _⟩⟩, k, ⟨_, k, k, .inl ⟨k, okI.plainO _⟩⟩, k, ⟨_, k, k, .inl ⟨k, okI.plainO _⟩⟩, k, ⟨_, k, k, .inl ⟨k, okMt.plainO _⟩⟩, k, trivial⟩ k), k, ⟨_, k, .inl k⟩, ⟨k, k, k, k, trivial⟩⟩

noncomputable def m_laws_heldIntS_L1 (a0 : (List Int)) (x1 : (Int × Int)) : Option ((Int × Int) ⊕ (Int ⊕ Int)) :=
  bif decide (x1.2 < (a0.length : Int)) then
    (Option.bind (atL a0 x1.2) fun v2 =>
    bif !decide (v2 = x1.1) then
      (some (.inr (.inr ((-1)))))
    else
      (some (.inl (wr (x1.1 + 1), wr (x1.2 + 1)))))
  else
    (some (.inr (.inl x1.1)))

noncomputable def m_laws_heldIntS (a0 : (List Int)) (a1 : Int) : Option Int :=
  Option.bind (Lp (m_laws_heldIntS_L1 a0) (a1, 0)) fun y4 =>
  Sum.elim (fun y5 =>
    some (y5)
  ) 
  (fun y6 =>
    some y6
  )
   y4

theorem c_laws_heldIntS (a0 : (List Int)) (a1 : Int) (r : Int) (h : m_laws_heldIntS a0 a1 = some r) : HasC Try.prog 81 [.list 1 (List.map eI a0), .int a1] (.int r) := by
 refine hasC_mk TT_ok (rvs := [.tmp 4]) (ns := [0, 1]) Try.func81 k k Try.ntmps81 k k k <| sQ <| rg <| ae (eff_assign k) k <| an <| tn <| sQ <| sQ <| rg <| ae (eff_assign k) k ?_
 refine an <| tn <| ac_block ?_
 obtain ⟨y4, hy4, h⟩ := ob h
 refine ac_Lp (body := (m_laws_heldIntS_L1 a0)) hy4 (fun (x1 : (Int × Int)) => mkS [(0, .list 1 (List.map eI a0)), (1, .int x1.1), (5, .int x1.2)] [] 0 [0, 1]) (fun r e t => Sum.elim (fun a => (fun r e t => e = .exit 0 ∧ Ent t (mkS [(1, .int r)] [] 0 [0, 1])) a e t) (fun b => (fun r e t => e = .ret ∧ RetQ TT [.tmp 4] (.int r) .ret t) b e t) r) (ent_mk (σ := sg []) ⟨⟨_, k, ⟨k, k⟩⟩, (e1 k k), (e1 k k), trivial⟩ trivial k) ?_ ?_
 ·intro x1 o h
  refine sQ <| sQ <| rg <| ae (eff_move k) k <| ae (eff_move k) k <| ae (AEff.val (w_len_list TT_ok k k k) (v' := .int (a0.length : Int)) (by first | rw [len_map] | rw [encI_len])) k <| ae (w_cmp k k k) k <| an <| tn ?_
  rcases cb h with ⟨q1, h⟩ | ⟨q1, h⟩
  ·refine ac_condT k q1 <| ac_skip <| tn <| sQ <| ac_block <| sQ <| sQ <| rg <| ae (eff_move k) k <| ae (eff_move k) k ?_
   obtain ⟨v2, hv2, h⟩ := ob h
   refine ae (x_at_list TT_ok hv2 k k k k k k) k <| ae (w_load_ref TT_ok k k k k k k) k <| ae (eff_move k) k <| ae (w_cmp k k k) k <| an <| tn ?_
   rcases cb h with ⟨q3, h⟩ | ⟨q3, h⟩
   ·refine ac_condT k q3 <| sQ <| rg <| ae (eff_assign k) k <| an <| tn <| ac_ret <| then_ret <| block_ret <| then_ret ?_
    refine then_ret ?_
    obtain rfl := so h
    exact ⟨_, k, k, ret_mk k k k (fz_int k)⟩
   ·refine ac_condF k q3 <| ac_skip <| tn <| rg <| ae (eff_move k) k <| ae (x_add k k) k <| ae (eff_assign k) k <| an <| block_n <| tn ?_
    refine ac_ent (t := mkS [(0, .list 1 (List.map eI a0)), (1, .int (wr (x1.1 + 1))), (5, .int x1.2)] [] 0 [0, 1]) (ent_mk (σ := sg []) ⟨⟨_, k, ⟨k, k⟩⟩, (e1 k k), (e1 k k), trivial⟩ trivial k) <| rg <| ae (eff_move k) k <| ae (x_add k k) k <| ae (eff_assign k) k <| an <| tn ?_
    obtain rfl := so h
    exact ⟨_, k, (ent_mk (σ := sg []) ⟨⟨_, k, ⟨k, k⟩⟩, (e1 k k), (e1 k k), trivial⟩ trivial k)⟩
  ·refine ac_condF k q1 <| ac_exit <| then_exit <| then_exit ?_
   obtain rfl := so h
   exact ⟨_, k, k, (ent_mk (σ := sg []) ⟨(e1 k k), trivial⟩ trivial k)⟩
 ·intro e t hX
  rcases y4 with y5 | y6
  ·obtain ⟨rfl, hent⟩ := hX
   refine block_here <| tn <| ac_ent hent <| sQ <| rg <| ae (eff_move k) k <| ae (eff_assign k) k <| an <| tn <| ac_ret ?_
   obtain rfl := so h
   exact ret_mk k k k (fz_int k)
  ·obtain ⟨rfl, hent⟩ := hX
   refine block_ret <| then_ret ?_
   obtain rfl := so h
   exact hent

noncomputable def m_laws_heldQuiver (a0 : Qv) (a1 : Int) : Option Int :=
  Option.bind (m_laws_heldIntS a0.src a1) fun v1 =>
  bif decide (v1 < 0) then
    (some ((-1)))
  else
    (Option.bind (m_laws_heldIntS a0.tgt v1) fun v3 =>
    bif decide (v3 < 0) then
      (some ((-1)))
    else
      (some (v3)))

theorem c_laws_heldQuiver (a0 : Qv) (a1 : Int) (r : Int) (h : m_laws_heldQuiver a0 a1 = some r) : HasC Try.prog 80 [.agg (eQ a0), .int a1] (.int r) := by
 refine hasC_mk TT_ok (rvs := [.tmp 4]) (ns := [0, 1, 2]) Try.func80 k k Try.ntmps80 k k k <| sQ <| rg <| ae (w_box k k k k) k <| ae (eff_assign k) k <| an <| tn <| sQ <| rg <| ae (w_field_ptr TT_ok k k k k k k k) k ?_
 refine ae (w_load_ptr TT_ok k k k k k k k) k <| ae (eff_move k) k ?_
 obtain ⟨v1, hv1, h⟩ := ob h
 refine ae (w_call0s (c_laws_heldIntS a0.src a1 v1 hv1) k (va_cons (va_same k) (va_cons (va_same k) va_nil))) k <| ae (eff_assign k) k <| an <| tn <| sQ <| sQ <| rg <| ae (eff_move k) k <| ae (w_cmp k k k) k <| an ?_
 refine tn ?_
 rcases cb h with ⟨q2, h⟩ | ⟨q2, h⟩
 ·refine ac_condT k q2 <| sQ <| rg <| ae (eff_assign k) k <| an <| tn <| ac_ret <| then_ret ?_
  obtain rfl := so h
  exact ret_mk k k k (fz_int k)
 ·refine ac_condF k q2 <| ac_skip <| tn <| sQ <| rg <| ae (w_field_ptr TT_ok k k k k k k k) k <| ae (w_load_ptr TT_ok k k k k k k k) k <| ae (eff_move k) k ?_
  obtain ⟨v3, hv3, h⟩ := ob h
  refine ae (w_call0s (c_laws_heldIntS a0.tgt v1 v3 hv3) k (va_cons (va_same k) (va_cons (va_same k) va_nil))) k <| ae (eff_assign k) k <| an <| tn <| ac_ent (t := mkS [(1, .int v3)] [] 1 [1, 2]) (ent_mk (σ := sg []) ⟨(e1 k k), trivial⟩ trivial k) <| sQ <| sQ <| rg <| ae (eff_move k) k <| ae (w_cmp k k k) k ?_
  refine an <| tn ?_
  rcases cb h with ⟨q4, h⟩ | ⟨q4, h⟩
  ·refine ac_condT k q4 <| sQ <| rg <| ae (eff_assign k) k <| an <| tn <| ac_ret <| then_ret ?_
   obtain rfl := so h
   exact ret_mk k k k (fz_int k)
  ·refine ac_condF k q4 <| ac_skip <| tn <| sQ <| rg <| ae (eff_move k) k <| ae (eff_assign k) k <| an <| tn <| ac_ret ?_
   obtain rfl := so h
   exact ret_mk k k k (fz_int k)

noncomputable def m_laws_heldMatrixS_L1 (a0 : (List Mt)) (x1 : (Int × Int)) : Option ((Int × Int) ⊕ (Int ⊕ Int)) :=
  bif decide (x1.2 < (a0.length : Int)) then
    (Option.bind (atL a0 x1.2) fun v2 =>
    bif !decide (v2.rows = x1.1) then
      (some (.inr (.inr ((-1)))))
    else
      (Option.bind (atL a0 x1.2) fun v4 =>
      bif !decide (v4.cols = wr (x1.1 + 1)) then
        (some (.inr (.inr ((-1)))))
      else
        (Option.bind (atL a0 x1.2) fun v6 =>
        Option.bind (m_laws_heldIntS v6.cells (wr ((wr (x1.1 + 1)) + 1))) fun v7 =>
        bif decide (v7 < 0) then
          (some (.inr (.inr ((-1)))))
        else
          (some (.inl (v7, wr (x1.2 + 1)))))))
  else
    (some (.inr (.inl x1.1)))

noncomputable def m_laws_heldMatrixS (a0 : (List Mt)) (a1 : Int) : Option Int :=
  Option.bind (Lp (m_laws_heldMatrixS_L1 a0) (a1, 0)) fun y9 =>
  Sum.elim (fun y10 =>
    some (y10)
  ) 
  (fun y11 =>
    some y11
  )
   y9

theorem c_laws_heldMatrixS (a0 : (List Mt)) (a1 : Int) (r : Int) (h : m_laws_heldMatrixS a0 a1 = some r) : HasC Try.prog 82 [.list 3 (List.map eM a0), .int a1] (.int r) := by
 refine hasC_mk TT_ok (rvs := [.tmp 4]) (ns := [0, 1]) Try.func82 k k Try.ntmps82 k k k <| sQ <| rg <| ae (eff_assign k) k <| an <| tn <| sQ <| sQ <| rg <| ae (eff_assign k) k ?_
 refine an <| tn <| ac_block ?_
 obtain ⟨y9, hy9, h⟩ := ob h
 refine ac_Lp (body := (m_laws_heldMatrixS_L1 a0)) hy9 (fun (x1 : (Int × Int)) => mkS [(0, .list 3 (List.map eM a0)), (1, .int x1.1), (5, .int x1.2)] [] 0 [0, 1]) (fun r e t => Sum.elim (fun a => (fun r e t => e = .exit 0 ∧ Ent t (mkS [(1, .int r)] [] 0 [0, 1])) a e t) (fun b => (fun r e t => e = .ret ∧ RetQ TT [.tmp 4] (.int r) .ret t) b e t) r) (ent_mk (σ := sg []) ⟨⟨_, k, ⟨k, k⟩⟩, (e1 k k), (e1 k k), trivial⟩ trivial k) ?_ ?_
 ·intro x1 o h
  refine sQ <| sQ <| rg <| ae (eff_move k) k <| ae (eff_move k) k <| ae (AEff.val (w_len_list TT_ok k k k) (v' := .int (a0.length : Int)) (by first | rw [len_map] | rw [encI_len])) k <| ae (w_cmp k k k) k <| an <| tn ?_
  rcases cb h with ⟨q1, h⟩ | ⟨q1, h⟩
  ·refine ac_condT k q1 <| ac_skip <| tn <| sQ <| ac_block <| sQ <| sQ <| rg <| ae (eff_move k) k <| ae (eff_move k) k ?_
   obtain ⟨v2, hv2, h⟩ := ob h
   refine ae (x_at_list TT_ok hv2 k k k k k k) k <| ae (w_field_ref TT_ok k k k k k k) k <| ae (w_load_ref TT_ok k k k k k k) k <| ae (eff_move k) k <| ae (w_cmp k k k) k <| an <| tn ?_
   rcases cb h with ⟨q3, h⟩ | ⟨q3, h⟩
   ·refine ac_condT k q3 <| sQ <| rg <| ae (eff_assign k) k <| an <| tn <| ac_ent (t := mkS [(4, .int (-1))] [] 0 [0, 1]) (ent_mk (σ := sg []) ⟨(e1 k k), trivial⟩ trivial k) <| ac_ret <| then_ret <| block_ret ?_
    refine then_ret <| then_ret ?_
    obtain rfl := so h
    exact ⟨_, k, k, ret_mk k k k (fz_int k)⟩
   ·refine ac_condF k q3 <| ac_skip <| tn <| sQ <| rg <| ae (eff_move k) k <| ae (x_add k k) k <| ae (eff_assign k) k <| an <| tn ?_
    refine ac_ent (t := mkS [(0, .list 3 (List.map eM a0)), (1, .int (wr (x1.1 + 1))), (5, .int x1.2)] [] 0 [0, 1]) (ent_mk (σ := sg []) ⟨⟨_, k, ⟨k, k⟩⟩, (e1 k k), (e1 k k), trivial⟩ trivial k) <| sQ <| sQ <| rg <| ae (eff_move k) k <| ae (eff_move k) k ?_
    obtain ⟨v4, hv4, h⟩ := ob h
    refine ae (x_at_list TT_ok hv4 k k k k k k) k <| ae (w_field_ref TT_ok k k k k k k) k <| ae (w_load_ref TT_ok k k k k k k) k <| ae (eff_move k) k <| ae (w_cmp k k k) k <| an <| tn ?_
    rcases cb h with ⟨q5, h⟩ | ⟨q5, h⟩
    ·refine ac_condT k q5 <| sQ <| rg <| ae (eff_assign k) k <| an <| tn <| ac_ret <| then_ret <| block_ret <| then_ret ?_
     refine then_ret ?_
     obtain rfl := so h
     exact ⟨_, k, k, ret_mk k k k (fz_int k)⟩
    ·refine ac_condF k q5 <| ac_skip <| tn <| sQ <| rg <| ae (eff_move k) k <| ae (x_add k k) k <| ae (eff_assign k) k <| an <| tn ?_
     refine sQ <| rg <| ae (eff_move k) k <| ae (eff_move k) k ?_
     obtain ⟨v6, hv6, h⟩ := ob h
     refine ae (x_at_list TT_ok hv6 k k k k k k) k <| ae (w_field_ref TT_ok k k k k k k) k <| ae (w_load_ref TT_ok k k k k k k) k <| ae (eff_move k) k ?_
     obtain ⟨v7, hv7, h⟩ := ob h
     refine ae (w_call0s (c_laws_heldIntS v6.cells (wr ((wr (x1.1 + 1)) + 1)) v7 hv7) k (va_cons (va_same k) (va_cons (va_same k) va_nil))) k <| ae (eff_assign k) k <| an <| tn <| ac_ent (t := mkS [(0, .list 3 (List.map eM a0)), (1, .int v7), (5, .int x1.2)] [] 0 [0, 1]) (ent_mk (σ := sg []) ⟨⟨_, k, ⟨k, k⟩⟩, (e1 k k), (e1 k k), trivial⟩ trivial k) <| sQ <| rg <| ae (eff_move k) k <| ae (w_cmp k k k) k <| an ?_
     refine tn ?_
     rcases cb h with ⟨q8, h⟩ | ⟨q8, h⟩
     ·refine ac_condT k q8 <| sQ <| rg <| ae (eff_assign k) k <| an <| tn <| ac_ret <| block_ret <| then_ret <| then_ret ?_
      obtain rfl := so h
      exact ⟨_, k, k, ret_mk k k k (fz_int k)⟩
     ·refine ac_condF k q8 <| ac_skip <| block_n <| tn <| rg <| ae (eff_move k) k <| ae (x_add k k) k <| ae (eff_assign k) k <| an <| tn ?_
      obtain rfl := so h
      exact ⟨_, k, (ent_mk (σ := sg []) ⟨⟨_, k, ⟨k, k⟩⟩, (e1 k k), (e1 k k), trivial⟩ trivial k)⟩
  ·refine ac_condF k q1 <| ac_exit <| then_exit <| then_exit ?_
   obtain rfl := so h
   exact ⟨_, k, k, (ent_mk (σ := sg []) ⟨(e1 k k), trivial⟩ trivial k)⟩
 ·intro e t hX
  rcases y9 with y10 | y11
  ·obtain ⟨rfl, hent⟩ := hX
   refine block_here <| tn <| ac_ent hent <| sQ <| rg <| ae (eff_move k) k <| ae (eff_assign k) k <| an <| tn <| ac_ret ?_
   obtain rfl := so h
   exact ret_mk k k k (fz_int k)
  ·obtain ⟨rfl, hent⟩ := hX
   refine block_ret <| then_ret ?_
   obtain rfl := so h
   exact hent

noncomputable def m_laws_heldRep (a0 : Rp) (a1 : Int) : Option Int :=
  Option.bind (m_laws_heldQuiver a0.q a1) fun v1 =>
  bif decide (v1 < 0) then
    (some ((-1)))
  else
    (Option.bind (m_laws_heldIntS a0.dims v1) fun v3 =>
    bif decide (v3 < 0) then
      (some ((-1)))
    else
      (Option.bind (m_laws_heldMatrixS a0.maps v3) fun v5 =>
      bif decide (v5 < 0) then
        (some ((-1)))
      else
        (some (v5))))

theorem c_laws_heldRep (a0 : Rp) (a1 : Int) (r : Int) (h : m_laws_heldRep a0 a1 = some r) : HasC Try.prog 28 [.agg (eR a0), .int a1] (.int r) := by
 refine hasC_mk TT_ok (rvs := [.tmp 4]) (ns := [0, 1, 2]) Try.func28 k k Try.ntmps28 k k k <| sQ <| rg <| ae (w_box k k k k) k <| ae (eff_assign k) k <| an <| tn <| sQ <| rg <| ae (w_field_ptr TT_ok k k k k k k k) k ?_
 refine ae (w_load_ptr TT_ok k k k k k k k) k <| ae (eff_move k) k ?_
 obtain ⟨v1, hv1, h⟩ := ob h
 refine ae (w_call0s (c_laws_heldQuiver a0.q a1 v1 hv1) k (va_cons (va_agg' (v1_cons (v1_same k) (v1_cons (v1_same k) (v1_cons (v1_same k) v1_nil)))) (va_cons (va_same k) va_nil))) k <| ae (eff_assign k) k <| an <| tn <| sQ <| sQ <| rg <| ae (eff_move k) k <| ae (w_cmp k k k) k <| an ?_
 refine tn ?_
 rcases cb h with ⟨q2, h⟩ | ⟨q2, h⟩
 ·refine ac_condT k q2 <| sQ <| rg <| ae (eff_assign k) k <| an <| tn <| ac_ret <| then_ret ?_
  obtain rfl := so h
  exact ret_mk k k k (fz_int k)
 ·refine ac_condF k q2 <| ac_skip <| tn <| sQ <| rg <| ae (w_field_ptr TT_ok k k k k k k k) k <| ae (w_load_ptr TT_ok k k k k k k k) k <| ae (eff_move k) k ?_
  obtain ⟨v3, hv3, h⟩ := ob h
  refine ae (w_call0s (c_laws_heldIntS a0.dims v1 v3 hv3) k (va_cons (va_same k) (va_cons (va_same k) va_nil))) k <| ae (eff_assign k) k <| an <| tn <| ac_ent (t := mkS [(1, .int v3), (2, .ptr 0 0 0)] [(0, ⟨6, [[.int a0.p, .int a0.q.n, .list 1 (List.map eI a0.q.src), .list 1 (List.map eI a0.q.tgt), .list 1 (List.map eI a0.dims), .list 3 (List.map eM a0.maps)]]⟩)] 1 [1, 2]) (ent_mk (σ := sg [(0, 0)]) ⟨(e1 k k), ⟨_, k, ⟨k, k, k, k⟩⟩, trivial⟩ ⟨⟨_, k, k, .inl ⟨k, plain_of k⟩⟩, k, trivial⟩ k) <| sQ <| sQ <| rg <| ae (eff_move k) k <| ae (w_cmp k k k) k ?_
  refine an <| tn ?_
  rcases cb h with ⟨q4, h⟩ | ⟨q4, h⟩
  ·refine ac_condT k q4 <| sQ <| rg <| ae (eff_assign k) k <| an <| tn <| ac_ret <| then_ret ?_
   obtain rfl := so h
   exact ret_mk k k k (fz_int k)
  ·refine ac_condF k q4 <| ac_skip <| tn <| sQ <| rg <| ae (w_field_ptr TT_ok k k k k k k k) k <| ae (w_load_ptr TT_ok k k k k k k k) k <| ae (eff_move k) k ?_
   obtain ⟨v5, hv5, h⟩ := ob h
   refine ae (w_call0s (c_laws_heldMatrixS a0.maps v3 v5 hv5) k (va_cons (va_same k) (va_cons (va_same k) va_nil))) k <| ae (eff_assign k) k <| an <| tn <| sQ <| sQ <| rg <| ae (eff_move k) k <| ae (w_cmp k k k) k <| an ?_
   refine tn ?_
   rcases cb h with ⟨q6, h⟩ | ⟨q6, h⟩
   ·refine ac_condT k q6 <| sQ <| rg <| ae (eff_assign k) k <| an <| tn <| ac_ret <| then_ret ?_
    obtain rfl := so h
    exact ret_mk k k k (fz_int k)
   ·refine ac_condF k q6 <| ac_skip <| tn <| sQ <| rg <| ae (eff_move k) k <| ae (eff_assign k) k <| an <| tn <| ac_ret ?_
    obtain rfl := so h
    exact ret_mk k k k (fz_int k)

end Go.Proofs.Ytjfcjkeghigipaa
end

section
set_option linter.unusedVariables false
set_option linter.unusedSimpArgs false
/-
  The laws' marks: what is written into a value, and that it is held there.
-/
namespace Go.Proofs.Ytjfcjkeghigipaa
open Go.RowKit
set_option linter.unusedVariables false
set_option linter.unusedSimpArgs false

/-- How many numbers a list takes, and the list with its marks from k on. -/
def nvS {α : Type} (nv : α → Nat) : List α → Nat
  | [] => 0
  | x :: l => nv x + nvS nv l
def mvS {α : Type} (mv : Int → α → α) (nv : α → Nat) : Int → List α → List α
  | _, [] => []
  | k, x :: l => mv k x :: mvS mv nv (k + nv x) l
section
variable {α : Type} {mv : Int → α → α} {nv : α → Nat}
theorem mvS_len : ∀ (l : List α) (k : Int), (mvS mv nv k l).length = l.length
  | [], _ => rfl
  | x :: l, k => by simp [mvS, mvS_len l]
theorem nvS_app : ∀ (l m : List α), nvS nv (l ++ m) = nvS nv l + nvS nv m
  | [], m => by simp [nvS]
  | x :: l, m => by simp [nvS, nvS_app l m]; omega
theorem mvS_app : ∀ (l m : List α) (k : Int), mvS mv nv k (l ++ m) = mvS mv nv k l ++ mvS mv nv (k + nvS nv l) m
  | [], m, k => by simp [mvS, nvS]
  | x :: l, m, k => by
    simp only [List.cons_append, mvS, nvS, mvS_app l m]
    rw [show k + ((nv x + nvS nv l : Nat) : Int) = k + (nv x : Int) + (nvS nv l : Int) by omega]
theorem nvS_take {l : List α} {i : Nat} (hi : i < l.length) : nvS nv (l.take (i + 1)) = nvS nv (l.take i) + nv l[i] := by
  rw [List.take_succ_eq_append_getElem hi, nvS_app]; simp [nvS]
theorem nvS_take_le (l : List α) (i : Nat) : nvS nv (l.take i) ≤ nvS nv l := by
  have h : nvS nv (l.take i ++ l.drop i) = nvS nv l := by rw [List.take_append_drop]
  rw [nvS_app] at h; omega
theorem nvS_le {c : Nat} : ∀ {l : List α}, (∀ x ∈ l, nv x ≤ c) → nvS nv l ≤ c * l.length
  | [], _ => by simp [nvS]
  | x :: l, h => by
    have h1 := h x (by simp)
    have h2 := nvS_le (l := l) fun y hy => h y (by simp [hy])
    simp only [nvS, List.length_cons, Nat.mul_add, Nat.mul_one]; omega
theorem mvS_get {l : List α} {k : Int} {i : Nat} (hi : i < l.length) : (mvS mv nv k l)[i]? = some (mv (k + nvS nv (l.take i)) l[i]) := by
  have e : l = l.take i ++ l[i] :: l.drop (i + 1) := by rw [← List.drop_eq_getElem_cons hi, List.take_append_drop]
  have e2 : mvS mv nv k l = mvS mv nv k (l.take i) ++ mvS mv nv (k + nvS nv (l.take i)) (l[i] :: l.drop (i + 1)) := by rw [← mvS_app, ← e]
  rw [e2, List.getElem?_append_right (by rw [mvS_len]; simp; omega), mvS_len]
  simp [mvS, Nat.min_eq_left (Nat.le_of_lt hi)]
theorem mark_loop {l : List α} {k0 : Int} {body : List α × Int × Int → Option ((List α × Int × Int) ⊕ (List α × Int))} (h0 : 0 ≤ k0) (hk : k0 + nvS nv l ≤ 4611686018427387904) (hl : l.length ≤ 4611686018427387904)
    (hs : ∀ (r : List α) (i : Nat) (k : Int) (hi : i < r.length), r[i] ∈ l → 0 ≤ k → k + nv r[i] ≤ 4611686018427387904 → body (r, k, i) = some (.inl (r.set i (mv k r[i]), k + nv r[i], wr (i + 1)))) (he : ∀ r k, body (r, k, (r.length : Int)) = some (.inr (r, k))) :
    Lp body (l, k0, 0) = some (mvS mv nv k0 l, k0 + nvS nv l) := by
  rw [Lp_go (r := (mvS mv nv k0 l, k0 + nvS nv l)) (fun i => (mvS mv nv k0 (l.take i) ++ l.drop i, k0 + nvS nv (l.take i), (i : Int))) l.length (by simp [mvS, nvS]) (fun i hi => ?_) (fun _ => ?_)]
  · have hm : (mvS mv nv k0 (l.take i)).length = i := by rw [mvS_len]; simp; omega
    have hg : (mvS mv nv k0 (l.take i) ++ l.drop i)[i]'(by simp [mvS_len]; omega) = l[i] := by
      rw [List.getElem_append_right (by omega)]
      simp [hm]
    have hb := nvS_take_le (nv := nv) l (i + 1)
    rw [nvS_take hi] at hb
    rw [hs _ i _ (by simp [mvS_len]; omega) (by rw [hg]; exact List.getElem_mem hi) (by omega) (by rw [hg]; omega), hg, wr_suc hi hl]
    congr 2
    refine Prod.ext ?_ (Prod.ext ?_ rfl)
    · simp only
      rw [List.set_append_right _ _ (by omega), hm, Nat.sub_self, List.drop_eq_getElem_cons hi, List.set_cons_zero, List.take_succ_eq_append_getElem hi, mvS_app]
      simp [mvS]
    · simp only
      rw [nvS_take hi]; omega
  · have := he (mvS mv nv k0 (l.take l.length) ++ l.drop l.length) (k0 + nvS nv (l.take l.length))
    simp only [List.take_length, List.drop_length, List.append_nil, mvS_len] at this ⊢
    exact this
theorem held_loop {l : List α} {k0 : Int} {body : Int × Int → Option ((Int × Int) ⊕ (Int ⊕ Int))} (h0 : 0 ≤ k0) (hk : k0 + nvS nv l ≤ 4611686018427387904) (hl : l.length ≤ 4611686018427387904)
    (hs : ∀ (i : Nat) (hi : i < l.length) (k : Int), k = k0 + nvS nv (l.take i) → 0 ≤ k → k + nv l[i] ≤ 4611686018427387904 → body (k, i) = some (.inl (k + nv l[i], wr (i + 1)))) (he : ∀ k, body (k, (l.length : Int)) = some (.inr (.inl k))) :
    Lp body (k0, 0) = some (.inl (k0 + nvS nv l)) := by
  rw [Lp_go (r := Sum.inl (k0 + nvS nv l)) (fun i => (k0 + nvS nv (l.take i), (i : Int))) l.length (by simp [nvS]) (fun i hi => ?_) (fun _ => ?_)]
  · have hb := nvS_take_le (nv := nv) l (i + 1)
    rw [nvS_take hi] at hb
    rw [hs i hi _ rfl (by omega) (by omega), wr_suc hi hl, nvS_take hi]
    congr 3
    omega
  · rw [he]; simp
end

/-! ## numbers -/
def nI (l : List Int) : Nat := nvS (fun _ => 1) l
def mvI : Int → List Int → List Int := mvS (fun k _ => k) (fun _ => 1)
theorem nI_len : ∀ l : List Int, nI l = l.length
  | [] => rfl
  | x :: l => by have := nI_len l; simp only [nI] at this; simp only [nI, nvS, List.length_cons]; omega
theorem mvI_len (k : Int) (l : List Int) : (mvI k l).length = l.length := mvS_len l k
theorem nneg {k : Int} {n : Nat} (h : 0 ≤ k) : decide (k + (n : Int) < 0) = false := decide_eq_false (by omega)
theorem mm_I {l : List Int} {k : Int} (h0 : 0 ≤ k) (hk : k + nI l ≤ 4611686018427387904) : m_laws_markIntS l k = some (mvI k l, k + nI l) := by
  have hl := nI_len l
  unfold m_laws_markIntS
  rw [mark_loop (mv := fun k _ => k) (nv := fun _ => 1) h0 hk (by omega) (fun r i k hi _ g0 g1 => ?_) (fun r k => ?_), Option.bind_some]
  · rfl
  · unfold m_laws_markIntS_L1
    simp only
    rw [dlt hi, cond_true, atL_nat hi, Option.bind_some, Int.toNat_natCast, wr_sm (x := k + 1) (by omega)]
    simp
  · unfold m_laws_markIntS_L1
    simp only
    rw [dnl (Nat.le_refl _), cond_false]
theorem mh_I {l : List Int} {k : Int} (h0 : 0 ≤ k) (hk : k + nI l ≤ 4611686018427387904) : m_laws_heldIntS (mvI k l) k = some (k + nI l) := by
  have hl := nI_len l
  have hm := mvI_len k l
  unfold m_laws_heldIntS
  rw [held_loop (l := l) (nv := fun _ => 1) h0 hk (by omega) (fun i hi k' e g0 g1 => ?_) (fun k' => ?_), Option.bind_some]
  · rfl
  · unfold m_laws_heldIntS_L1
    simp only
    have hg : (mvI k l)[i]? = some k' := by unfold mvI; rw [mvS_get hi, e]
    rw [hm, dlt hi, cond_true, atL_nat (by omega), Option.bind_some]
    have hg' : (mvI k l)[i]'(by omega) = k' := by rw [List.getElem?_eq_getElem (by omega)] at hg; exact Option.some.inj hg
    rw [hg', decide_eq_true rfl, Bool.not_true, cond_false, wr_sm (x := k' + 1) (by omega)]
    simp
  · unfold m_laws_heldIntS_L1
    simp only
    rw [hm, dnl (Nat.le_refl _), cond_false]

/-! ## lists of lists -/
def nIS : List (List Int) → Nat := nvS nI
def mvIS : Int → List (List Int) → List (List Int) := mvS mvI nI
theorem get_of {α : Type} {l : List α} {i : Nat} {v : α} (h : l[i]? = some v) (hi : i < l.length) : l[i] = v := by rw [List.getElem?_eq_getElem hi] at h; exact Option.some.inj h
theorem mm_IS {l : List (List Int)} {k : Int} (h0 : 0 ≤ k) (hk : k + nIS l ≤ 4611686018427387904) (hl : l.length ≤ 4611686018427387904) : m_laws_markIntSS l k = some (mvIS k l, k + nIS l) := by
  unfold m_laws_markIntSS
  rw [mark_loop (mv := mvI) (nv := nI) h0 hk hl (fun r i k hi _ g0 g1 => ?_) (fun r k => ?_), Option.bind_some]
  · rfl
  · unfold m_laws_markIntSS_L1
    simp only
    rw [dlt hi, cond_true, atL_nat hi, Option.bind_some, mm_I g0 g1, Option.bind_some, Int.toNat_natCast, mvI_len, decide_eq_true rfl, cond_true]
  · unfold m_laws_markIntSS_L1
    simp only
    rw [dnl (Nat.le_refl _), cond_false]

/-! ## spaces -/
def nSe (s : Sc) : Nat := 1 + nIS s.basis
def mvSe (k : Int) (s : Sc) : Sc := ⟨k, mvIS (k + 1) s.basis⟩
def nSs : List Sc → Nat := nvS nSe
def mvSs : Int → List Sc → List Sc := mvS mvSe nSe
def lS (l : List Sc) : Prop := l.length ≤ 4611686018427387904 ∧ ∀ s ∈ l, s.basis.length ≤ 4611686018427387904
theorem mvIS_len (k : Int) (l : List (List Int)) : (mvIS k l).length = l.length := mvS_len l k
theorem mvSs_len (k : Int) (l : List Sc) : (mvSs k l).length = l.length := mvS_len l k
theorem mm_Ss {l : List Sc} {k : Int} (h0 : 0 ≤ k) (hk : k + nSs l ≤ 4611686018427387904) (hl : lS l) : m_laws_markSpaceS l k = some (mvSs k l, k + nSs l) := by
  unfold m_laws_markSpaceS
  rw [mark_loop (mv := mvSe) (nv := nSe) h0 hk hl.1 (fun r i k hi hm g0 g1 => ?_) (fun r k => ?_), Option.bind_some]
  · rfl
  · unfold nSe at g1
    unfold m_laws_markSpaceS_L1
    simp only
    rw [dlt hi, cond_true, atL_nat hi, Option.bind_some, wr_sm (x := k + 1) (by omega), mm_IS (by omega) (by omega) (hl.2 _ hm), Option.bind_some, mvIS_len, decide_eq_true rfl, cond_true, Int.toNat_natCast]
    unfold mvSe nSe
    congr 4
    omega
  · unfold m_laws_markSpaceS_L1
    simp only
    rw [dnl (Nat.le_refl _), cond_false]

/-! ## quivers, matrices, representations -/
def nQ (q : Qv) : Nat := nI q.src + nI q.tgt
def mvQ (k : Int) (q : Qv) : Qv := ⟨q.n, mvI k q.src, mvI (k + nI q.src) q.tgt⟩
theorem mm_Q {q : Qv} {k : Int} (h0 : 0 ≤ k) (hk : k + nQ q ≤ 4611686018427387904) : m_laws_markQuiver q k = some ((mvQ k q).src, (mvQ k q).tgt, k + nQ q) := by
  unfold nQ at hk
  unfold m_laws_markQuiver
  rw [mm_I h0 (by omega), Option.bind_some, mvI_len, decide_eq_true rfl, cond_true, mm_I (by omega) (by omega), Option.bind_some, mvI_len, decide_eq_true rfl, cond_true]
  unfold mvQ nQ
  congr 3
  omega
theorem mh_Q {q : Qv} {k : Int} (h0 : 0 ≤ k) (hk : k + nQ q ≤ 4611686018427387904) : m_laws_heldQuiver (mvQ k q) k = some (k + nQ q) := by
  unfold nQ at hk
  unfold m_laws_heldQuiver mvQ
  simp only
  rw [mh_I h0 (by omega), Option.bind_some, nneg h0, cond_false, mh_I (by omega) (by omega), Option.bind_some, nneg (by omega), cond_false]
  unfold nQ
  congr 1
  omega
def nMe (m : Mt) : Nat := 2 + nI m.cells
def mvMe (k : Int) (m : Mt) : Mt := ⟨k, k + 1, mvI (k + 2) m.cells⟩
def nMs : List Mt → Nat := nvS nMe
def mvMs : Int → List Mt → List Mt := mvS mvMe nMe
theorem mvMs_len (k : Int) (l : List Mt) : (mvMs k l).length = l.length := mvS_len l k
theorem mm_Ms {l : List Mt} {k : Int} (h0 : 0 ≤ k) (hk : k + nMs l ≤ 4611686018427387904) (hl : l.length ≤ 4611686018427387904) : m_laws_markMatrixS l k = some (mvMs k l, k + nMs l) := by
  unfold m_laws_markMatrixS
  rw [mark_loop (mv := mvMe) (nv := nMe) h0 hk hl (fun r i k hi hm g0 g1 => ?_) (fun r k => ?_), Option.bind_some]
  · rfl
  · unfold nMe at g1
    unfold m_laws_markMatrixS_L1
    simp only
    rw [dlt hi, cond_true, atL_nat hi, Option.bind_some, wr_sm (x := k + 1) (by omega), wr_sm (x := k + 1 + 1) (by omega), show k + 1 + 1 = k + 2 by omega, mm_I (by omega) (by omega), Option.bind_some, mvI_len, decide_eq_true rfl, cond_true, Int.toNat_natCast]
    unfold mvMe nMe
    congr 4
    omega
  · unfold m_laws_markMatrixS_L1
    simp only
    rw [dnl (Nat.le_refl _), cond_false]
theorem mh_Ms {l : List Mt} {k : Int} (h0 : 0 ≤ k) (hk : k + nMs l ≤ 4611686018427387904) (hl : l.length ≤ 4611686018427387904) : m_laws_heldMatrixS (mvMs k l) k = some (k + nMs l) := by
  have hm : (mvMs k l).length = l.length := mvS_len l k
  unfold m_laws_heldMatrixS
  rw [held_loop (l := l) (nv := nMe) h0 hk hl (fun i hi k' e g0 g1 => ?_) (fun k' => ?_), Option.bind_some]
  · rfl
  · unfold nMe at g1
    unfold m_laws_heldMatrixS_L1
    simp only
    rw [hm, dlt hi, cond_true, atL_nat (by omega), Option.bind_some, get_of (v := mvMe k' l[i]) (by unfold mvMs; rw [mvS_get hi, e]) (by omega)]
    unfold mvMe
    simp only [decide_true, Bool.not_true, cond_false, Option.bind_some, wr_sm (x := k' + 1) (by omega)]
    rw [wr_sm (x := k' + 1 + 1) (by omega), show k' + 1 + 1 = k' + 2 by omega, mh_I (by omega) (by omega), Option.bind_some, nneg (by omega), cond_false]
    unfold nMe
    congr 3
    omega
  · unfold m_laws_heldMatrixS_L1
    simp only
    rw [hm, dnl (Nat.le_refl _), cond_false]
def nR (r : Rp) : Nat := nQ r.q + nI r.dims + nMs r.maps
def mvR (k : Int) (r : Rp) : Rp := ⟨r.p, mvQ k r.q, mvI (k + nQ r.q) r.dims, mvMs (k + nQ r.q + nI r.dims) r.maps⟩
theorem mm_R {r : Rp} {k : Int} (h0 : 0 ≤ k) (hk : k + nR r ≤ 4611686018427387904) (hl : r.maps.length ≤ 4611686018427387904) : m_laws_markRep r k = some ((mvR k r).q.src, (mvR k r).q.tgt, (mvR k r).dims, (mvR k r).maps, k + nR r) := by
  unfold nR at hk
  unfold m_laws_markRep
  rw [mm_Q h0 (by omega), Option.bind_some]
  simp only [mvQ, mvI_len, decide_true, cond_true]
  rw [mm_I (by omega) (by omega), Option.bind_some]
  simp only [mvI_len, decide_true, cond_true]
  rw [mm_Ms (by omega) (by omega) hl, Option.bind_some]
  simp only [mvMs_len, decide_true, cond_true]
  unfold mvR nR
  congr 5
  omega
theorem mh_R {r : Rp} {k : Int} (h0 : 0 ≤ k) (hk : k + nR r ≤ 4611686018427387904) (hl : r.maps.length ≤ 4611686018427387904) : m_laws_heldRep (mvR k r) k = some (k + nR r) := by
  unfold nR at hk
  unfold m_laws_heldRep mvR
  simp only
  rw [mh_Q h0 (by omega), Option.bind_some, nneg h0, cond_false, mh_I (by omega) (by omega), Option.bind_some, nneg (by omega), cond_false, mh_Ms (by omega) (by omega) hl, Option.bind_some, nneg (by omega), cond_false]
  unfold nR
  congr 1
  omega
theorem mvR_len (k : Int) (r : Rp) : (mvR k r).q.src.length = r.q.src.length ∧ (mvR k r).q.tgt.length = r.q.tgt.length ∧ (mvR k r).dims.length = r.dims.length ∧ (mvR k r).maps.length = r.maps.length := ⟨mvI_len _ _, mvI_len _ _, mvI_len _ _, mvMs_len _ _⟩

/-! ## what bounded values take -/
theorem nMs_bd {l : List Mt} (h : l.length ≤ 1048576 ∧ ∀ m ∈ l, bM m) : nMs l ≤ 2097152 * 1048576 := by
  have := nvS_le (nv := nMe) (c := 2097152) (l := l) fun m hm => by have := (h.2 m hm).1; unfold bI at this; unfold nMe; rw [nI_len]; omega
  unfold nMs
  calc nvS nMe l ≤ 2097152 * l.length := this
    _ ≤ 2097152 * 1048576 := Nat.mul_le_mul_left _ h.1
theorem nR_bd {r : Rp} (h : bR r) : nR r ≤ 4398046511104 := by
  obtain ⟨⟨h1, h2, _⟩, h3, h4, _⟩ := h
  have := nMs_bd h4
  unfold bI at h1 h2 h3
  unfold nR nQ
  rw [nI_len, nI_len, nI_len]
  omega
theorem nIS_bd {l : List (List Int)} (h : l.length ≤ 1048576 ∧ ∀ v ∈ l, bI v) : nIS l ≤ 1048576 * 1048576 := by
  have := nvS_le (nv := nI) (c := 1048576) (l := l) fun m hm => by have := h.2 m hm; unfold bI at this; rw [nI_len]; exact this
  unfold nIS
  calc nvS nI l ≤ 1048576 * l.length := this
    _ ≤ 1048576 * 1048576 := Nat.mul_le_mul_left _ h.1
theorem nSs_bd {l : List Sc} (h : l.length ≤ 1048576 ∧ ∀ s ∈ l, bS s) : nSs l ≤ 2305843009213693952 := by
  have := nvS_le (nv := nSe) (c := 2097152 * 1048576) (l := l) fun m hm => by have := nIS_bd (h.2 m hm).1; unfold nSe; omega
  unfold nSs
  calc nvS nSe l ≤ 2097152 * 1048576 * l.length := this
    _ ≤ 2097152 * 1048576 * 1048576 := Nat.mul_le_mul_left _ h.1
    _ ≤ 2305843009213693952 := by decide
theorem lS_of {l : List Sc} (h : l.length ≤ 1048576 ∧ ∀ s ∈ l, bS s) : lS l := ⟨by omega, fun s hs => by have := (h.2 s hs).1.1; omega⟩
end Go.Proofs.Ytjfcjkeghigipaa
end

/-
  Several texts of the claim in one: each begins with its own remark.
-/
import Derived.Test.YtinllccaphhmcaaH12
section
set_option linter.unusedVariables false
set_option linter.unusedSimpArgs false

namespace Go.Proofs.Ytinllccaphhmcaa
open Go.RowKit
set_option linter.unusedVariables false
set_option linter.unusedSimpArgs false
set_option maxRecDepth 10000
set_option maxHeartbeats 4000000

noncomputable def m_slices_Index_Lint_int_L1 (a0 : (List Int)) (a1 : Int) (x1 : Int) : Option (Int ⊕ (Unit ⊕ Int)) :=
  bif decide (x1 < (a0.length : Int)) then
    (Option.bind (atL a0 x1) fun v2 =>
    bif decide (a1 = v2) then
      (some (.inr (.inr (x1))))
    else
      (some (.inl (wr (x1 + 1)))))
  else
    (some (.inr (.inl ())))

noncomputable def m_slices_Index_Lint_int (a0 : (List Int)) (a1 : Int) : Option Int :=
  Option.bind (Lp (m_slices_Index_Lint_int_L1 a0 a1) 0) fun y4 =>
  Sum.elim (fun y5 =>
    some ((-1))
  ) 
  (fun y6 =>
    some y6
  )
   y4

theorem c_slices_Index_Lint_int (a0 : (List Int)) (a1 : Int) (r : Int) (h : m_slices_Index_Lint_int a0 a1 = some r) : HasC Try.prog 85 [.list 1 (List.map eI a0), .int a1] (.int r) := by
 refine hasC_mk TT_ok (rvs := [.tmp 4]) (ns := [0, 1]) Try.func85 k k Try.ntmps85 k k k <| sQ <| rg <| aa k k <| an <| tn <| sQ <| sQ <| rg <| am k k ?_
 refine ae (lenL TT_ok k k k) k <| am k k <| an <| tn <| ac_block ?_
 obtain ⟨y4, hy4, h⟩ := ob h
 refine ac_Lp (body := (m_slices_Index_Lint_int_L1 a0 a1)) hy4 (fun (x1 : Int) => mkS [(0, .list 1 (List.map eI a0)), (1, .int a1), (7, .int (a0.length : Int)), (8, .int x1)] [] 0 [0, 1]) (fun r e t => Sum.elim (fun a => (fun r e t => e = .exit 0 ∧ Ent t (mkS [] [] 0 [0, 1])) a e t) (fun b => (fun r e t => e = .ret ∧ RetQ TT [.tmp 4] (.int r) .ret t) b e t) r) (ent_mk (σ := sg []) ⟨⟨_, k, ⟨k, k⟩⟩, (e1 k k), (e1 k k), (e1 k k), trivial⟩ trivial k) ?_ ?_
 ·intro x1 o h
  refine sQ <| rg <| ae (w_cmp k k k) k <| an <| tn <| sQ ?_
  rcases cb h with ⟨q1, h⟩ | ⟨q1, h⟩
  ·refine ac_condT k q1 <| ac_skip <| tn <| sQ <| ac_block <| sQ <| rg <| am k k <| aa k k <| an ?_
   refine tn <| sQ <| rg <| am k k <| am k k <| am k k ?_
   obtain ⟨v2, hv2, h⟩ := ob h
   refine ae (x_at_list TT_ok hv2 k k k k k k) k <| ae (w_load_ref TT_ok k k k k k k) k <| ae (w_cmp k k k) k <| an <| tn ?_
   rcases cb h with ⟨q3, h⟩ | ⟨q3, h⟩
   ·refine ac_condT k q3 <| sQ <| rg <| am k k <| aa k k <| an <| tn <| ac_ret <| block_ret <| then_ret ?_
    refine then_ret ?_
    obtain rfl := so h
    exact ⟨_, k, k, ret_mk k k k (fz_int k)⟩
   ·refine ac_condF k q3 <| ac_skip <| block_n <| tn <| rg <| ae (x_add k k) k <| am k k <| an <| tn ?_
    obtain rfl := so h
    exact ⟨_, k, (ent_mk (σ := sg []) ⟨⟨_, k, ⟨k, k⟩⟩, (e1 k k), (e1 k k), (e1 k k), trivial⟩ trivial k)⟩
  ·refine ac_condF k q1 <| ac_exit <| then_exit <| then_exit ?_
   obtain rfl := so h
   exact ⟨_, k, k, (ent_mk (σ := sg []) trivial trivial k)⟩
 ·intro e t hX
  rcases y4 with y5 | y6
  ·obtain ⟨rfl, hent⟩ := hX
   refine block_here <| tn <| ac_ent hent <| sQ <| rg <| aa k k <| an <| tn <| ac_ret ?_
   obtain rfl := so h
   exact ret_mk k k k (fz_int k)
  ·obtain ⟨rfl, hent⟩ := hX
   refine block_ret <| then_ret ?_
   obtain rfl := so h
   exact hent

noncomputable def m_slices_Contains_Lint_int (a0 : (List Int)) (a1 : Int) : Option Bool :=
  Option.bind (m_slices_Index_Lint_int a0 a1) fun v1 =>
  some (decide (0 ≤ v1))

theorem c_slices_Contains_Lint_int (a0 : (List Int)) (a1 : Int) (r : Bool) (h : m_slices_Contains_Lint_int a0 a1 = some r) : HasC Try.prog 76 [.list 1 (List.map eI a0), .int a1] (.bl r) := by
 refine hasC_mk TT_ok (rvs := [.tmp 4]) (ns := [0, 1]) Try.func76 k k Try.ntmps76 k k k <| sQ <| rg <| aa k k <| an <| tn <| sQ <| rg <| am k k <| am k k ?_
 obtain ⟨v1, hv1, h⟩ := ob h
 refine ae (w_call0s (c_slices_Index_Lint_int a0 a1 v1 hv1) k (va_cons (va_same k) (va_cons (va_same k) va_nil))) k <| ae (w_cmp k k k) k <| aa k k <| an <| tn <| ac_ret ?_
 obtain rfl := so h
 exact ret_mk k k k (fz_bl k)

noncomputable def m_slices_Reverse_Lint_int_L1  (x1 : ((List Int) × Int × Int)) : Option (((List Int) × Int × Int) ⊕ (List Int)) :=
  bif decide (x1.2.1 < x1.2.2) then
    (Option.bind (atL x1.1 x1.2.2) fun v2 =>
    Option.bind (atL x1.1 x1.2.1) fun v3 =>
    Option.bind (atL x1.1 x1.2.1) fun v4 =>
    Option.bind (atL (x1.1.set x1.2.1.toNat v2) x1.2.2) fun v5 =>
    some (.inl (((x1.1.set x1.2.1.toNat v2).set x1.2.2.toNat v3), wr (x1.2.1 + 1), wr (x1.2.2 - 1))))
  else
    (some (.inr x1.1))

noncomputable def m_slices_Reverse_Lint_int (a0 : (List Int)) : Option (List Int) :=
  Option.bind (Lp m_slices_Reverse_Lint_int_L1 (a0, 0, wr (((a0.length : Nat) : Int) - 1))) fun y6 =>
  some y6

theorem c_slices_Reverse_Lint_int (a0 : (List Int)) (r : (List Int)) (h : m_slices_Reverse_Lint_int a0 = some r) : HasE Try.prog 50 [.own 0 0 a0.length] [(0, ⟨1, List.map (ow eI) a0⟩)] 1 (.tuple []) [(0, ⟨1, List.map (ow eI) r⟩)] := by
 refine hasE_mk TT_ok (rvs := []) (ns := [1, 2]) Try.func50 k k Try.ntmps50 k k <| sQ <| rg <| am k k <| ae (w_len_own TT_ok k k k k) k <| ae (x_sub k k) k <| aa k k <| aa k k <| an <| tn ?_
 refine ac_block ?_
 obtain ⟨y6, hy6, h⟩ := ob h
 refine ac_Lp (body := m_slices_Reverse_Lint_int_L1) hy6 (fun (x1 : ((List Int) × Int × Int)) => mkS [(0, .own 0 0 x1.1.length), (2, .int x1.2.1), (3, .int x1.2.2)] [(0, ⟨1, List.map (ow eI) x1.1⟩)] 1 [1, 2] 1) (fun r e t => e = .exit 0 ∧ Ent t (mkS [] [(0, ⟨1, List.map (ow eI) r⟩)] 1 [1, 2] 1)) (ent_mk (σ := sg [(0, 0)]) ⟨(oE k k), (e1 k k), (e1 k k), trivial⟩ (hI k k k <| trivial) k) ?_ ?_
 ·intro x1 o h
  refine sQ <| sQ <| rg <| am k k <| am k k <| ae (w_cmp k k k) k <| an <| tn ?_
  rcases cb h with ⟨q1, h⟩ | ⟨q1, h⟩
  ·refine ac_condT k q1 <| ac_skip <| tn <| sQ <| ac_block <| ac_region_draw MIXX <| am k k <| am k k <| am k k <| am k k ?_
   refine am k k <| am k k ?_
   obtain ⟨v2, hv2, h⟩ := ob h
   refine ae (x_at_own TT_ok (atL_nn hv2) (atL_lt hv2) k k k k k k k) k <| ae (w_load_ptr TT_ok k k k k (map_at (atL_get hv2)) k k) k <| am k k <| am k k ?_
   obtain ⟨v3, hv3, h⟩ := ob h
   refine ae (x_at_own TT_ok (atL_nn hv3) (atL_lt hv3) k k k k k k k) k <| ae (w_load_ptr TT_ok k k k k (map_at (atL_get hv3)) k k) k ?_
   obtain ⟨v4, hv4, h⟩ := ob h
   refine ae (x_at_own TT_ok (atL_nn hv4) (atL_lt hv4) k k k k k k k) k <| ae (x_store TT_ok okIo (u := v2) (atL_get hv4) k k k k k k) k ?_
   obtain ⟨v5, hv5, h⟩ := ob h
   refine ae (x_at_own TT_ok (n := x1.1.length) (atL_nn hv5) (Nat.lt_of_lt_of_eq (atL_lt hv5) (by simp only [List.length_set])) k k k k k k k) k <| ae (x_store TT_ok okIo (u := v3) (atL_get hv5) k k k k k k) k <| an ?_
   refine ⟨by kernel_rfl, ?_⟩
   refine block_n <| tn <| ac_ent (t := mkS [(0, .own 0 0 (((x1.1.set x1.2.1.toNat v2).set x1.2.2.toNat v3).length)), (2, .int x1.2.1), (3, .int x1.2.2)] [(0, ⟨1, List.map (ow eI) ((x1.1.set x1.2.1.toNat v2).set x1.2.2.toNat v3)⟩)] 1 [1, 2] 1) (ent_mk (σ := sg [(0, 0)]) ⟨⟨_, k, ⟨k, k, (by simp only [len_map, lA, lT, lR, lC, lN]), k⟩⟩, (e1 k k), (e1 k k), trivial⟩ (hI k k k <| trivial) k) <| rg <| am k k <| ae (x_add k k) k <| am k k <| ae (x_sub k k) k <| aa k k <| aa k k ?_
   refine an <| tn ?_
   obtain rfl := so h
   exact ⟨_, k, (ent_mk (σ := sg [(0, 0)]) ⟨(oE k k), (e1 k k), (e1 k k), trivial⟩ (hI k k k <| trivial) k)⟩
  ·refine ac_condF k q1 <| ac_exit <| then_exit <| then_exit ?_
   obtain rfl := so h
   exact ⟨_, k, k, (ent_mk (σ := sg [(0, 0)]) trivial (hI k k k <| trivial) k)⟩
 ·rintro e t ⟨rfl, hent⟩
  refine block_here ?_
  obtain rfl := so h
  exact ⟨mkS [] [(0, ⟨1, List.map (ow eI) y6⟩)] 1 [1, 2] 1, (Ent.trans hent (ent_mk (σ := sg [(0, 0)]) trivial (hI k k k <| trivial) k)), k, ⟨_, k, .inr ⟨(by simp), k, k⟩⟩, ⟨k, trivial⟩⟩

noncomputable def m_spec_l4Has_L1 (a0 : (List Int)) (a1 : Int) (x1 : Int) : Option (Int ⊕ (Unit ⊕ Bool)) :=
  bif decide (x1 < (a0.length : Int)) then
    (Option.bind (atL a0 x1) fun v2 =>
    bif decide (v2 = a1) then
      (some (.inr (.inr (true))))
    else
      (some (.inl (wr (x1 + 1)))))
  else
    (some (.inr (.inl ())))

noncomputable def m_spec_l4Has (a0 : (List Int)) (a1 : Int) : Option Bool :=
  Option.bind (Lp (m_spec_l4Has_L1 a0 a1) 0) fun y4 =>
  Sum.elim (fun y5 =>
    some (false)
  ) 
  (fun y6 =>
    some y6
  )
   y4

theorem c_spec_l4Has (a0 : (List Int)) (a1 : Int) (r : Bool) (h : m_spec_l4Has a0 a1 = some r) : HasC Try.prog 69 [.list 1 (List.map eI a0), .int a1] (.bl r) := by
 refine hasC_mk TT_ok (rvs := [.tmp 4]) (ns := [0, 1]) Try.func69 k k Try.ntmps69 k k k <| sQ <| rg <| aa k k <| an <| tn <| sQ <| sQ <| rg <| aa k k ?_
 refine an <| tn <| ac_block ?_
 obtain ⟨y4, hy4, h⟩ := ob h
 refine ac_Lp (body := (m_spec_l4Has_L1 a0 a1)) hy4 (fun (x1 : Int) => mkS [(0, .list 1 (List.map eI a0)), (1, .int a1), (5, .int x1)] [] 0 [0, 1]) (fun r e t => Sum.elim (fun a => (fun r e t => e = .exit 0 ∧ Ent t (mkS [] [] 0 [0, 1])) a e t) (fun b => (fun r e t => e = .ret ∧ RetQ TT [.tmp 4] (.bl r) .ret t) b e t) r) (ent_mk (σ := sg []) ⟨⟨_, k, ⟨k, k⟩⟩, (e1 k k), (e1 k k), trivial⟩ trivial k) ?_ ?_
 ·intro x1 o h
  refine sQ <| sQ <| rg <| am k k <| am k k <| ae (lenL TT_ok k k k) k <| ae (w_cmp k k k) k <| an <| tn ?_
  rcases cb h with ⟨q1, h⟩ | ⟨q1, h⟩
  ·refine ac_condT k q1 <| ac_skip <| tn <| sQ <| ac_block <| sQ <| rg <| am k k <| am k k ?_
   obtain ⟨v2, hv2, h⟩ := ob h
   refine ae (x_at_list TT_ok hv2 k k k k k k) k <| ae (w_load_ref TT_ok k k k k k k) k <| am k k <| ae (w_cmp k k k) k <| an <| tn ?_
   rcases cb h with ⟨q3, h⟩ | ⟨q3, h⟩
   ·refine ac_condT k q3 <| sQ <| rg <| aa k k <| an <| tn <| ac_ret <| block_ret <| then_ret <| then_ret ?_
    obtain rfl := so h
    exact ⟨_, k, k, ret_mk k k k (fz_bl k)⟩
   ·refine ac_condF k q3 <| ac_skip <| block_n <| tn <| rg <| am k k <| ae (x_add k k) k <| aa k k <| an <| tn ?_
    obtain rfl := so h
    exact ⟨_, k, (ent_mk (σ := sg []) ⟨⟨_, k, ⟨k, k⟩⟩, (e1 k k), (e1 k k), trivial⟩ trivial k)⟩
  ·refine ac_condF k q1 <| ac_exit <| then_exit <| then_exit ?_
   obtain rfl := so h
   exact ⟨_, k, k, (ent_mk (σ := sg []) trivial trivial k)⟩
 ·intro e t hX
  rcases y4 with y5 | y6
  ·obtain ⟨rfl, hent⟩ := hX
   refine block_here <| tn <| ac_ent hent <| sQ <| rg <| aa k k <| an <| tn <| ac_ret ?_
   obtain rfl := so h
   exact ret_mk k k k (fz_bl k)
  ·obtain ⟨rfl, hent⟩ := hX
   refine block_ret <| then_ret ?_
   obtain rfl := so h
   exact hent

noncomputable def m_spec_OrderOf_L3 (a0 : Qv) (x1 : (List Int)) (x2 : (Int × Int)) (x3 : (Bool × Int)) : Option ((Bool × Int) ⊕ Bool) :=
  bif decide (x3.2 < (a0.src.length : Int)) then
    (bif x3.1 then
      (Option.bind (atL a0.tgt x3.2) fun v8 =>
      bif !decide (v8 = x2.2) then
        (some (.inl (true, wr (x3.2 + 1))))
      else
        (Option.bind (atL a0.src x3.2) fun v10 =>
        Option.bind (m_spec_l4Has x1 v10) fun v11 =>
        some (.inl (v11, wr (x3.2 + 1)))))
    else
      (some (.inl (false, wr (x3.2 + 1)))))
  else
    (some (.inr x3.1))

noncomputable def m_spec_OrderOf_L2 (a0 : Qv) (x1 : (List Int)) (x2 : (Int × Int)) : Option ((Int × Int) ⊕ Int) :=
  bif decide (0 ≤ x2.2) then
    (Option.bind (m_spec_l4Has x1 x2.2) fun v5 =>
    Option.bind (Lp (m_spec_OrderOf_L3 a0 x1 x2) (!v5, 0)) fun y12 =>
    bif y12 then
      (some (.inl (x2.2, wr (x2.2 - 1))))
    else
      (some (.inl (x2.1, wr (x2.2 - 1)))))
  else
    (some (.inr x2.1))

noncomputable def m_spec_OrderOf_L1 (a0 : Qv) (x1 : (List Int)) : Option ((List Int) ⊕ ((List Int) ⊕ ((List Int) × Bool))) :=
  Option.bind (m_spec_IsQuiver a0) fun v1 =>
  bif v1 then
    (bif decide (((x1.length : Nat) : Int) < a0.n) then
      (Option.bind (Lp (m_spec_OrderOf_L2 a0 x1) ((-1), wr (a0.n - 1))) fun y14 =>
      bif decide (y14 < 0) then
        (some (.inr (.inr ((([] : (List Int)), false)))))
      else
        (bif decide (x1.length + [y14].length ≤ 4294967296) then
          (some (.inl (x1 ++ [y14])))
        else none))
    else
      (some (.inr (.inl x1))))
  else
    (some (.inr (.inl x1)))

noncomputable def m_spec_OrderOf (a0 : Qv) : Option ((List Int) × Bool) :=
  Option.bind (Lp (m_spec_OrderOf_L1 a0) ([] : (List Int))) fun y17 =>
  Sum.elim (fun y18 =>
    Option.bind (m_spec_IsQuiver a0) fun v19 =>
    some ((y18, v19))
  ) 
  (fun y20 =>
    some y20
  )
   y17

theorem c_spec_OrderOf (a0 : Qv) (r : ((List Int) × Bool)) (h : m_spec_OrderOf a0 = some r) : HasC Try.prog 57 [.agg (eQ a0)] (.tuple [.list 1 (List.map eI r.1), .bl r.2]) := by
 refine hasC_mk TT_ok (rvs := [.tmp 2, .tmp 3]) (ns := [0, 1, 2, 3, 4, 5]) Try.func57 k k Try.ntmps57 k k k <| sQ <| rg <| ae (w_box k k k k) k <| aa k k <| aa k k <| an <| tn <| sQ <| rg ?_
 refine ae (w_lit TT_ok k k k k k k k k k k k k) k <| aa k k <| an <| tn <| ac_ent (t := mkS [(1, .ptr 0 0 0), (4, .own 1 0 (([] : (List Int)).length))] [(0, ⟨3, [[.int a0.n, .list 1 (List.map eI a0.src), .list 1 (List.map eI a0.tgt)]]⟩), (1, ⟨1, List.map (ow eI) ([] : (List Int))⟩)] 2 [2, 3, 4, 5]) (ent_mk (σ := sg [(0, 0), (1, 1)]) ⟨(pE k k), ⟨_, k, ⟨k, k, (by simp only [len_map, lA, lT, lR, lC, lN]), k⟩⟩, trivial⟩ (hP k k k k <| hI k k k <| trivial) k) <| sQ <| ac_block ?_
 obtain ⟨y17, hy17, h⟩ := ob h
 refine ac_Lp (body := (m_spec_OrderOf_L1 a0)) hy17 (fun (x1 : (List Int)) => mkS [(1, .ptr 0 0 0), (4, .own 1 0 x1.length)] [(0, ⟨3, [[.int a0.n, .list 1 (List.map eI a0.src), .list 1 (List.map eI a0.tgt)]]⟩), (1, ⟨1, List.map (ow eI) x1⟩)] 2 [2, 3, 4, 5]) (fun r e t => Sum.elim (fun a => (fun r e t => e = .exit 0 ∧ Ent t (mkS [(1, .ptr 0 0 0), (4, .own 1 0 r.length)] [(0, ⟨3, [[.int a0.n, .list 1 (List.map eI a0.src), .list 1 (List.map eI a0.tgt)]]⟩), (1, ⟨1, List.map (ow eI) r⟩)] 2 [2, 3, 4, 5])) a e t) (fun b => (fun r e t => e = .ret ∧ RetQ TT [.tmp 2, .tmp 3] (.tuple [.list 1 (List.map eI r.1), .bl r.2]) .ret t) b e t) r) (ent_mk (σ := sg [(0, 0), (1, 1)]) ⟨(pE k k), (oE k k), trivial⟩ (hP k k k k <| hI k k k <| trivial) k) ?_ ?_
 ·intro x1 o h
  refine sQ <| sQ <| rg <| ae (w_load_ptr TT_ok k k k k k k k) k ?_
  obtain ⟨v1, hv1, h⟩ := ob h
  refine ae (w_call0s (c_spec_IsQuiver a0 v1 hv1) k (va_cons (va_agg' (v1_cons (v1_same k) (v1_cons (v1_same k) (v1_cons (v1_same k) v1_nil)))) va_nil)) k <| am k k ?_
  rcases cb h with ⟨q2, h⟩ | ⟨q2, h⟩
  ·refine aops_lit 12 k q2 <| am k k <| ae (w_len_own TT_ok k k k k) k <| ae (w_field_ptr TT_ok k k k k k k k) k <| ae (w_load_ptr TT_ok k k k k k k k) k <| ae (w_cmp k k k) k <| ae (eff_pick k k) k <| an <| tn ?_
   rcases cb h with ⟨q3, h⟩ | ⟨q3, h⟩
   ·refine ac_condT k q3 <| ac_skip <| tn <| ac_block <| sQ <| rg <| aa k k <| an <| tn <| sQ ?_
    refine sQ <| rg <| ae (w_field_ptr TT_ok k k k k k k k) k <| ae (w_load_ptr TT_ok k k k k k k k) k <| ae (x_sub k k) k <| aa k k <| an <| tn <| ac_ent (t := mkS [(1, .ptr 0 0 0), (4, .own 1 0 x1.length), (5, .int (-1)), (6, .int (wr (a0.n - 1)))] [(0, ⟨3, [[.int a0.n, .list 1 (List.map eI a0.src), .list 1 (List.map eI a0.tgt)]]⟩), (1, ⟨1, List.map (ow eI) x1⟩)] 2 [2, 3, 4, 5]) (ent_mk (σ := sg [(0, 0), (1, 1)]) ⟨(pE k k), (oE k k), (e1 k k), (e1 k k), trivial⟩ (hP k k k k <| hI k k k <| trivial) k) <| ac_block ?_
    obtain ⟨y14, hy14, h⟩ := ob h
    refine ac_Lp (body := (m_spec_OrderOf_L2 a0 x1)) hy14 (fun (x2 : (Int × Int)) => mkS [(1, .ptr 0 0 0), (4, .own 1 0 x1.length), (5, .int x2.1), (6, .int x2.2)] [(0, ⟨3, [[.int a0.n, .list 1 (List.map eI a0.src), .list 1 (List.map eI a0.tgt)]]⟩), (1, ⟨1, List.map (ow eI) x1⟩)] 2 [2, 3, 4, 5]) (fun r e t => e = .exit 2 ∧ Ent t (mkS [(1, .ptr 0 0 0), (4, .own 1 0 x1.length), (5, .int r)] [(0, ⟨3, [[.int a0.n, .list 1 (List.map eI a0.src), .list 1 (List.map eI a0.tgt)]]⟩), (1, ⟨1, List.map (ow eI) x1⟩)] 2 [2, 3, 4, 5])) (ent_mk (σ := sg [(0, 0), (1, 1)]) ⟨(pE k k), (oE k k), (e1 k k), (e1 k k), trivial⟩ (hP k k k k <| hI k k k <| trivial) k) ?_ ?_
    ·intro x2 o h
     refine sQ <| sQ <| rg <| am k k <| ae (w_cmp k k k) k <| an <| tn ?_
     rcases cb h with ⟨q4, h⟩ | ⟨q4, h⟩
     ·refine ac_condT k q4 <| ac_skip <| tn <| sQ <| ac_block <| sQ <| rg <| am k k <| am k k ?_
      obtain ⟨v5, hv5, h⟩ := ob h
      refine ae (w_call0s (c_spec_l4Has x1 x2.2 v5 hv5) k (va_cons (va_T okI k k) (va_cons (va_same k) va_nil))) k <| ae (w_not k) k <| aa k k <| an <| tn <| sQ <| sQ <| rg <| aa k k <| an ?_
      refine tn <| ac_block ?_
      obtain ⟨y12, hy12, h⟩ := ob h
      refine ac_Lp (body := (m_spec_OrderOf_L3 a0 x1 x2)) hy12 (fun (x3 : (Bool × Int)) => mkS [(1, .ptr 0 0 0), (4, .own 1 0 x1.length), (5, .int x2.1), (6, .int x2.2), (7, .bl x3.1), (8, .int x3.2)] [(0, ⟨3, [[.int a0.n, .list 1 (List.map eI a0.src), .list 1 (List.map eI a0.tgt)]]⟩), (1, ⟨1, List.map (ow eI) x1⟩)] 2 [2, 3, 4, 5]) (fun r e t => e = .exit 4 ∧ Ent t (mkS [(1, .ptr 0 0 0), (4, .own 1 0 x1.length), (5, .int x2.1), (6, .int x2.2), (7, .bl r)] [(0, ⟨3, [[.int a0.n, .list 1 (List.map eI a0.src), .list 1 (List.map eI a0.tgt)]]⟩), (1, ⟨1, List.map (ow eI) x1⟩)] 2 [2, 3, 4, 5])) (ent_mk (σ := sg [(0, 0), (1, 1)]) ⟨(pE k k), (oE k k), (e1 k k), (e1 k k), (e1 k k), (e1 k k), trivial⟩ (hP k k k k <| hI k k k <| trivial) k) ?_ ?_
      ·intro x3 o h
       refine sQ <| sQ <| rg <| am k k <| ae (w_field_ptr TT_ok k k k k k k k) k <| ae (w_load_ptr TT_ok k k k k k k k) k <| ae (lenL TT_ok k k k) k <| ae (w_cmp k k k) k <| an <| tn ?_
       rcases cb h with ⟨q6, h⟩ | ⟨q6, h⟩
       ·refine ac_condT k q6 <| ac_skip <| tn <| sQ <| ac_block <| rg <| am k k <| am k k ?_
        rcases cb h with ⟨q7, h⟩ | ⟨q7, h⟩
        ·refine aops_lit 38 k q7 <| ae (w_field_ptr TT_ok k k k k k k k) k <| ae (w_load_ptr TT_ok k k k k k k k) k <| am k k ?_
         obtain ⟨v8, hv8, h⟩ := ob h
         refine ae (x_at_list TT_ok hv8 k k k k k k) k <| ae (w_load_ref TT_ok k k k k k k) k <| am k k <| ae (w_cmp k k k) k <| am k k ?_
         rcases cb h with ⟨q9, h⟩ | ⟨q9, h⟩
         ·refine aops_lit 46 k q9 <| ak k k <| ak k k <| ak k k <| ak k k <| ak k k <| ak k k <| ak k k <| ae (eff_pick k k) k <| ae (eff_pick k k) k ?_
          refine aa k k <| an <| block_n <| tn <| ac_ent (t := mkS [(1, .ptr 0 0 0), (4, .own 1 0 x1.length), (5, .int x2.1), (6, .int x2.2), (7, .bl true), (8, .int x3.2)] [(0, ⟨3, [[.int a0.n, .list 1 (List.map eI a0.src), .list 1 (List.map eI a0.tgt)]]⟩), (1, ⟨1, List.map (ow eI) x1⟩)] 2 [2, 3, 4, 5]) (ent_mk (σ := sg [(0, 0), (1, 1)]) ⟨(pE k k), (oE k k), (e1 k k), (e1 k k), (e1 k k), (e1 k k), trivial⟩ (hP k k k k <| hI k k k <| trivial) k) <| rg <| am k k <| ae (x_add k k) k <| aa k k <| an ?_
          refine tn ?_
          obtain rfl := so h
          exact ⟨_, k, (ent_mk (σ := sg [(0, 0), (1, 1)]) ⟨(pE k k), (oE k k), (e1 k k), (e1 k k), (e1 k k), (e1 k k), trivial⟩ (hP k k k k <| hI k k k <| trivial) k)⟩
         ·refine aops_lit 46 k q9 <| am k k <| ae (w_field_ptr TT_ok k k k k k k k) k <| ae (w_load_ptr TT_ok k k k k k k k) k <| am k k ?_
          obtain ⟨v10, hv10, h⟩ := ob h
          refine ae (x_at_list TT_ok hv10 k k k k k k) k <| ae (w_load_ref TT_ok k k k k k k) k ?_
          obtain ⟨v11, hv11, h⟩ := ob h
          refine ae (w_call0s (c_spec_l4Has x1 v10 v11 hv11) k (va_cons (va_T okI k k) (va_cons (va_same k) va_nil))) k <| ae (eff_pick k k) k <| ae (eff_pick k k) k <| aa k k <| an <| block_n <| tn <| ac_ent (t := mkS [(1, .ptr 0 0 0), (4, .own 1 0 x1.length), (5, .int x2.1), (6, .int x2.2), (7, .bl v11), (8, .int x3.2)] [(0, ⟨3, [[.int a0.n, .list 1 (List.map eI a0.src), .list 1 (List.map eI a0.tgt)]]⟩), (1, ⟨1, List.map (ow eI) x1⟩)] 2 [2, 3, 4, 5]) (ent_mk (σ := sg [(0, 0), (1, 1)]) ⟨(pE k k), (oE k k), (e1 k k), (e1 k k), (e1 k k), (e1 k k), trivial⟩ (hP k k k k <| hI k k k <| trivial) k) <| rg <| am k k ?_
          refine ae (x_add k k) k <| aa k k <| an <| tn ?_
          obtain rfl := so h
          exact ⟨_, k, (ent_mk (σ := sg [(0, 0), (1, 1)]) ⟨(pE k k), (oE k k), (e1 k k), (e1 k k), (e1 k k), (e1 k k), trivial⟩ (hP k k k k <| hI k k k <| trivial) k)⟩
        ·refine aops_lit 38 k q7 <| ak k k <| ak k k <| ak k k <| ak k k <| ak k k <| ak k k <| ak k k <| ak k k <| ak k k ?_
         refine ak k k <| ak k k <| ak k k <| ak k k <| ak k k <| ak k k <| ak k k <| ae (eff_pick k k) k <| aa k k <| an ?_
         refine block_n <| tn <| ac_ent (t := mkS [(1, .ptr 0 0 0), (4, .own 1 0 x1.length), (5, .int x2.1), (6, .int x2.2), (7, .bl false), (8, .int x3.2)] [(0, ⟨3, [[.int a0.n, .list 1 (List.map eI a0.src), .list 1 (List.map eI a0.tgt)]]⟩), (1, ⟨1, List.map (ow eI) x1⟩)] 2 [2, 3, 4, 5]) (ent_mk (σ := sg [(0, 0), (1, 1)]) ⟨(pE k k), (oE k k), (e1 k k), (e1 k k), (e1 k k), (e1 k k), trivial⟩ (hP k k k k <| hI k k k <| trivial) k) <| rg <| am k k <| ae (x_add k k) k <| aa k k <| an <| tn ?_
         obtain rfl := so h
         exact ⟨_, k, (ent_mk (σ := sg [(0, 0), (1, 1)]) ⟨(pE k k), (oE k k), (e1 k k), (e1 k k), (e1 k k), (e1 k k), trivial⟩ (hP k k k k <| hI k k k <| trivial) k)⟩
       ·refine ac_condF k q6 <| ac_exit <| then_exit <| then_exit ?_
        obtain rfl := so h
        exact ⟨_, k, k, (ent_mk (σ := sg [(0, 0), (1, 1)]) ⟨(pE k k), (oE k k), (e1 k k), (e1 k k), (e1 k k), trivial⟩ (hP k k k k <| hI k k k <| trivial) k)⟩
      ·rintro e t ⟨rfl, hent⟩
       refine block_here <| tn <| ac_ent hent <| sQ <| rg <| am k k <| an <| tn ?_
       rcases cb h with ⟨q13, h⟩ | ⟨q13, h⟩
       ·refine ac_condT k q13 <| rg <| am k k <| aa k k <| an <| block_n <| tn <| rg <| am k k <| ae (x_sub k k) k ?_
        refine aa k k <| an <| tn ?_
        obtain rfl := so h
        exact ⟨_, k, (ent_mk (σ := sg [(0, 0), (1, 1)]) ⟨(pE k k), (oE k k), (e1 k k), (e1 k k), trivial⟩ (hP k k k k <| hI k k k <| trivial) k)⟩
       ·refine ac_condF k q13 <| ac_skip <| block_n <| tn <| rg <| am k k <| ae (x_sub k k) k <| aa k k <| an <| tn ?_
        obtain rfl := so h
        exact ⟨_, k, (ent_mk (σ := sg [(0, 0), (1, 1)]) ⟨(pE k k), (oE k k), (e1 k k), (e1 k k), trivial⟩ (hP k k k k <| hI k k k <| trivial) k)⟩
     ·refine ac_condF k q4 <| ac_exit <| then_exit <| then_exit ?_
      obtain rfl := so h
      exact ⟨_, k, k, (ent_mk (σ := sg [(0, 0), (1, 1)]) ⟨(pE k k), (oE k k), (e1 k k), trivial⟩ (hP k k k k <| hI k k k <| trivial) k)⟩
    ·rintro e t ⟨rfl, hent⟩
     refine block_here <| tn <| ac_ent hent <| sQ <| sQ <| rg <| am k k <| ae (w_cmp k k k) k <| an <| tn ?_
     rcases cb h with ⟨q15, h⟩ | ⟨q15, h⟩
     ·refine ac_condT k q15 <| sQ <| rg <| ae (w_lit TT_ok k k k k k k k k k k k k) k <| aa k k <| aa k k <| an <| tn <| ac_ent (t := mkS [(2, .own 2 0 (([] : (List Int)).length)), (3, .bl false)] [(2, ⟨1, List.map (ow eI) ([] : (List Int))⟩)] 3 [3, 4, 5]) (ent_mk (σ := sg [(2, 2)]) ⟨⟨_, k, ⟨k, k, (by simp only [len_map, lA, lT, lR, lC, lN]), k⟩⟩, (e1 k k), trivial⟩ (hI k k k <| trivial) k) <| ac_ret ?_
      refine then_ret <| block_ret <| then_ret ?_
      obtain rfl := so h
      exact ⟨_, k, k, ret_mk k k k (xz_tuple k (xB_cons (xB_one (x_f1 okI k k)) (xB_cons (k) xB_nil)))⟩
     ·refine ac_condF k q15 <| ac_skip <| tn <| rg <| am k k <| am k k <| ae (w_lit TT_ok k k k k k k k k k k k k) k ?_
      obtain ⟨q16, h⟩ := cg h
      refine ae (x_app TT_ok (l := x1) (m := [y14]) okIo q16 k k k k k k k k k k k k) k <| aa k k <| an <| block_n <| tn ?_
      obtain rfl := so h
      exact ⟨_, k, (ent_mk (σ := sg [(0, 0), (1, 3)]) ⟨(pE k k), (oE k k), trivial⟩ (hP k k k k <| hI k k k <| trivial) k)⟩
   ·refine ac_condF k q3 <| ac_exit <| then_exit <| then_exit ?_
    obtain rfl := so h
    exact ⟨_, k, k, (ent_mk (σ := sg [(0, 0), (1, 1)]) ⟨(pE k k), (oE k k), trivial⟩ (hP k k k k <| hI k k k <| trivial) k)⟩
  ·refine aops_lit 12 k q2 <| ak k k <| ak k k <| ak k k <| ak k k <| ak k k <| ae (eff_pick k k) k <| an <| tn <| ac_condF k k ?_
   refine ac_exit <| then_exit <| then_exit ?_
   obtain rfl := so h
   exact ⟨_, k, k, (ent_mk (σ := sg [(0, 0), (1, 1)]) ⟨(pE k k), (oE k k), trivial⟩ (hP k k k k <| hI k k k <| trivial) k)⟩
 ·intro e t hX
  rcases y17 with y18 | y20
  ·obtain ⟨rfl, hent⟩ := hX
   refine block_here <| tn <| ac_ent hent <| sQ <| rg <| am k k <| ae (w_load_ptr TT_ok k k k k k k k) k ?_
   obtain ⟨v19, hv19, h⟩ := ob h
   refine ae (w_call0s (c_spec_IsQuiver a0 v19 hv19) k (va_cons (va_agg' (v1_cons (v1_same k) (v1_cons (v1_same k) (v1_cons (v1_same k) v1_nil)))) va_nil)) k <| aa k k <| aa k k <| an <| tn <| ac_ret ?_
   obtain rfl := so h
   exact ret_mk k k k (xz_tuple k (xB_cons (xB_one (x_f1 okI k k)) (xB_cons (k) xB_nil)))
  ·obtain ⟨rfl, hent⟩ := hX
   refine block_ret <| then_ret ?_
   obtain rfl := so h
   exact hent

noncomputable def m_spec_IsAcyclic (a0 : Qv) : Option Bool :=
  Option.bind (m_spec_OrderOf a0) fun v1 =>
  some (v1.2)

theorem c_spec_IsAcyclic (a0 : Qv) (r : Bool) (h : m_spec_IsAcyclic a0 = some r) : HasC Try.prog 36 [.agg (eQ a0)] (.bl r) := by
 refine hasC_mk TT_ok (rvs := [.tmp 2]) (ns := [0, 1, 2, 3]) Try.func36 k k Try.ntmps36 k k k <| sQ <| rg <| ae (w_box k k k k) k <| aa k k <| an <| tn <| sQ <| rg <| ae (w_load_ptr TT_ok k k k k k k k) k ?_
 obtain ⟨v1, hv1, h⟩ := ob h
 refine ae (AEff.conv (w_call0 (x := .tuple [.own 1 0 (List.map eI v1.1).length, .bl v1.2]) (nb := [(1, ⟨1, absEs (List.map eI v1.1)⟩)]) (c_spec_OrderOf a0 v1 hv1) k (by rfl) k k (gB_cons (okI.good _) (gB_cons trivial gB_nil)) (va_cons (va_agg' (v1_cons (v1_same k) (v1_cons (v1_same k) (v1_cons (v1_same k) v1_nil)))) va_nil)) (v' := .tuple [.own 1 0 v1.1.length, .bl v1.2]) (ed' := [(1, some ⟨1, List.map (ow eI) v1.1⟩)]) (by simp only [len_map]) (ed_ok (nb' := [(1, ⟨1, List.map (ow eI) v1.1⟩)]) (by simp only [abs_map]))) k <| am k k <| ae (eff_extract k k (by intro _ h; cases h)) k <| ae (eff_extract k k (by intro _ h; cases h)) k <| aa k k <| aa k k <| an <| tn <| sQ <| rg ?_
 refine am k k <| aa k k <| an <| tn <| ac_ret ?_
 obtain rfl := so h
 exact ret_mk k k k (fz_bl k)

noncomputable def m_spec_CoxeterOrder_L1 (v1 : ((List Int) × Bool)) (x1 : ((List Int) × Int)) : Option (((List Int) × Int) ⊕ (List Int)) :=
  bif decide (0 ≤ x1.2) then
    (Option.bind (atL v1.1 x1.2) fun v3 =>
    bif decide (x1.1.length + [v3].length ≤ 4294967296) then
      (some (.inl ((x1.1 ++ [v3]), wr (x1.2 - 1))))
    else none)
  else
    (some (.inr x1.1))

noncomputable def m_spec_CoxeterOrder (a0 : Qv) : Option ((List Int) × Bool) :=
  Option.bind (m_spec_OrderOf a0) fun v1 =>
  Option.bind (Lp (m_spec_CoxeterOrder_L1 v1) (([] : (List Int)), wr (((v1.1.length : Nat) : Int) - 1))) fun y5 =>
  some ((y5, v1.2))

theorem c_spec_CoxeterOrder (a0 : Qv) (r : ((List Int) × Bool)) (h : m_spec_CoxeterOrder a0 = some r) : HasC Try.prog 38 [.agg (eQ a0)] (.tuple [.list 1 (List.map eI r.1), .bl r.2]) := by
 refine hasC_mk TT_ok (rvs := [.tmp 2, .tmp 3]) (ns := [0, 1, 2, 3, 4, 5]) Try.func38 k k Try.ntmps38 k k k <| sQ <| rg <| ae (w_box k k k k) k <| aa k k <| aa k k <| an <| tn <| sQ <| rg ?_
 refine ae (w_load_ptr TT_ok k k k k k k k) k ?_
 obtain ⟨v1, hv1, h⟩ := ob h
 refine ae (AEff.conv (w_call0 (x := .tuple [.own 1 0 (List.map eI v1.1).length, .bl v1.2]) (nb := [(1, ⟨1, absEs (List.map eI v1.1)⟩)]) (c_spec_OrderOf a0 v1 hv1) k (by rfl) k k (gB_cons (okI.good _) (gB_cons trivial gB_nil)) (va_cons (va_agg' (v1_cons (v1_same k) (v1_cons (v1_same k) (v1_cons (v1_same k) v1_nil)))) va_nil)) (v' := .tuple [.own 1 0 v1.1.length, .bl v1.2]) (ed' := [(1, some ⟨1, List.map (ow eI) v1.1⟩)]) (by simp only [len_map]) (ed_ok (nb' := [(1, ⟨1, List.map (ow eI) v1.1⟩)]) (by simp only [abs_map]))) k <| am k k <| ae (eff_extract k k (by intro _ h; cases h)) k <| ae (eff_extract k k (by intro _ h; cases h)) k <| aa k k <| aa k k <| an <| tn <| sQ <| rg ?_
 refine ae (w_lit TT_ok k k k k k k k k k k k k) k <| aa k k <| an <| tn <| ac_ent (t := mkS [(4, .own 1 0 v1.1.length), (5, .bl v1.2), (6, .own 2 0 (([] : (List Int)).length))] [(1, ⟨1, List.map (ow eI) v1.1⟩), (2, ⟨1, List.map (ow eI) ([] : (List Int))⟩)] 3 [3, 4, 5]) (ent_mk (σ := sg [(1, 1), (2, 2)]) ⟨(oE k k), (e1 k k), ⟨_, k, ⟨k, k, (by simp only [len_map, lA, lT, lR, lC, lN]), k⟩⟩, trivial⟩ (hI k k k <| hI k k k <| trivial) k) <| sQ <| sQ <| rg <| am k k <| ae (w_len_own TT_ok k k k k) k ?_
 refine ae (x_sub k k) k <| aa k k <| an <| tn <| ac_block ?_
 obtain ⟨y5, hy5, h⟩ := ob h
 refine ac_Lp (body := (m_spec_CoxeterOrder_L1 v1)) hy5 (fun (x1 : ((List Int) × Int)) => mkS [(4, .own 0 0 v1.1.length), (5, .bl v1.2), (6, .own 1 0 x1.1.length), (7, .int x1.2)] [(0, ⟨1, List.map (ow eI) v1.1⟩), (1, ⟨1, List.map (ow eI) x1.1⟩)] 2 [2, 3, 4, 5]) (fun r e t => e = .exit 0 ∧ Ent t (mkS [(5, .bl v1.2), (6, .own 0 0 r.length)] [(0, ⟨1, List.map (ow eI) r⟩)] 1 [1, 2, 3, 4, 5])) (ent_mk (σ := sg [(0, 1), (1, 2)]) ⟨(oE k k), (e1 k k), (oE k k), (e1 k k), trivial⟩ (hI k k k <| hI k k k <| trivial) k) ?_ ?_
 ·intro x1 o h
  refine sQ <| sQ <| rg <| am k k <| ae (w_cmp k k k) k <| an <| tn ?_
  rcases cb h with ⟨q2, h⟩ | ⟨q2, h⟩
  ·refine ac_condT k q2 <| ac_skip <| tn <| sQ <| ac_block <| rg <| am k k <| am k k <| am k k ?_
   obtain ⟨v3, hv3, h⟩ := ob h
   refine ae (x_at_own TT_ok (atL_nn hv3) (atL_lt hv3) k k k k k k k) k <| ae (w_load_ptr TT_ok k k k k (map_at (atL_get hv3)) k k) k <| ae (w_lit TT_ok k k k k k k k k k k k k) k ?_
   obtain ⟨q4, h⟩ := cg h
   refine ae (x_app TT_ok (l := x1.1) (m := [v3]) okIo q4 k k k k k k k k k k k k) k <| aa k k <| an <| block_n <| tn <| rg <| am k k <| ae (x_sub k k) k <| aa k k <| an ?_
   refine tn ?_
   obtain rfl := so h
   exact ⟨_, k, (ent_mk (σ := sg [(0, 0), (1, 3)]) ⟨(oE k k), (e1 k k), (oE k k), (e1 k k), trivial⟩ (hI k k k <| hI k k k <| trivial) k)⟩
  ·refine ac_condF k q2 <| ac_exit <| then_exit <| then_exit ?_
   obtain rfl := so h
   exact ⟨_, k, k, (ent_mk (σ := sg [(0, 1)]) ⟨(e1 k k), (oE k k), trivial⟩ (hI k k k <| trivial) k)⟩
 ·rintro e t ⟨rfl, hent⟩
  refine block_here <| tn <| ac_ent hent <| sQ <| rg <| am k k <| am k k <| aa k k <| aa k k <| an ?_
  refine tn <| ac_ret ?_
  obtain rfl := so h
  exact ret_mk k k k (xz_tuple k (xB_cons (xB_one (x_f1 okI k k)) (xB_cons (k) xB_nil)))

noncomputable def m_spec_l21Loop_L1 (a0 : Qv) (a1 : Int) (x1 : Int) : Option (Int ⊕ (Unit ⊕ Bool)) :=
  bif decide (x1 < (a0.src.length : Int)) then
    (Option.bind (atL a0.src x1) fun v2 =>
    bif decide (v2 = a1) then
      (Option.bind (atL a0.tgt x1) fun v4 =>
      bif decide (v4 = a1) then
        (some (.inr (.inr (true))))
      else
        (some (.inl (wr (x1 + 1)))))
    else
      (some (.inl (wr (x1 + 1)))))
  else
    (some (.inr (.inl ())))

noncomputable def m_spec_l21Loop (a0 : Qv) (a1 : Int) : Option Bool :=
  Option.bind (Lp (m_spec_l21Loop_L1 a0 a1) 0) fun y6 =>
  Sum.elim (fun y7 =>
    some (false)
  ) 
  (fun y8 =>
    some y8
  )
   y6

theorem c_spec_l21Loop (a0 : Qv) (a1 : Int) (r : Bool) (h : m_spec_l21Loop a0 a1 = some r) : HasC Try.prog 72 [.agg (eQ a0), .int a1] (.bl r) := by
 refine hasC_mk TT_ok (rvs := [.tmp 4]) (ns := [0, 1, 2]) Try.func72 k k Try.ntmps72 k k k <| sQ <| rg <| ae (w_box k k k k) k <| aa k k <| an <| tn <| sQ <| sQ <| rg ?_
 refine aa k k <| an <| tn <| ac_block ?_
 obtain ⟨y6, hy6, h⟩ := ob h
 refine ac_Lp (body := (m_spec_l21Loop_L1 a0 a1)) hy6 (fun (x1 : Int) => mkS [(1, .int a1), (2, .ptr 0 0 0), (5, .int x1)] [(0, ⟨3, [[.int a0.n, .list 1 (List.map eI a0.src), .list 1 (List.map eI a0.tgt)]]⟩)] 1 [1, 2]) (fun r e t => Sum.elim (fun a => (fun r e t => e = .exit 0 ∧ Ent t (mkS [] [] 0 [0, 1, 2])) a e t) (fun b => (fun r e t => e = .ret ∧ RetQ TT [.tmp 4] (.bl r) .ret t) b e t) r) (ent_mk (σ := sg [(0, 0)]) ⟨(e1 k k), (pE k k), (e1 k k), trivial⟩ (hP k k k k <| trivial) k) ?_ ?_
 ·intro x1 o h
  refine sQ <| sQ <| rg <| am k k <| ae (w_field_ptr TT_ok k k k k k k k) k <| ae (w_load_ptr TT_ok k k k k k k k) k <| ae (lenL TT_ok k k k) k <| ae (w_cmp k k k) k <| an <| tn ?_
  rcases cb h with ⟨q1, h⟩ | ⟨q1, h⟩
  ·refine ac_condT k q1 <| ac_skip <| tn <| sQ <| ac_block <| sQ <| rg <| ae (w_field_ptr TT_ok k k k k k k k) k <| ae (w_load_ptr TT_ok k k k k k k k) k <| am k k ?_
   obtain ⟨v2, hv2, h⟩ := ob h
   refine ae (x_at_list TT_ok hv2 k k k k k k) k <| ae (w_load_ref TT_ok k k k k k k) k <| am k k <| ae (w_cmp k k k) k <| am k k ?_
   rcases cb h with ⟨q3, h⟩ | ⟨q3, h⟩
   ·refine aops_lit 20 k q3 <| ae (w_field_ptr TT_ok k k k k k k k) k <| ae (w_load_ptr TT_ok k k k k k k k) k <| am k k ?_
    obtain ⟨v4, hv4, h⟩ := ob h
    refine ae (x_at_list TT_ok hv4 k k k k k k) k <| ae (w_load_ref TT_ok k k k k k k) k <| am k k <| ae (w_cmp k k k) k <| ae (eff_pick k k) k <| an <| tn <| ac_ent (t := mkS [(1, .int a1), (2, .ptr 0 0 0), (5, .int x1), (28, .bl (decide (v4 = a1)))] [(0, ⟨3, [[.int a0.n, .list 1 (List.map eI a0.src), .list 1 (List.map eI a0.tgt)]]⟩)] 1 [1, 2]) (ent_mk (σ := sg [(0, 0)]) ⟨(e1 k k), (pE k k), (e1 k k), (e1 k k), trivial⟩ (hP k k k k <| trivial) k) ?_
    rcases cb h with ⟨q5, h⟩ | ⟨q5, h⟩
    ·refine ac_condT k q5 <| sQ <| rg <| aa k k <| an <| tn <| ac_ret <| block_ret <| then_ret <| then_ret ?_
     obtain rfl := so h
     exact ⟨_, k, k, ret_mk k k k (fz_bl k)⟩
    ·refine ac_condF k q5 <| ac_skip <| block_n <| tn <| rg <| am k k <| ae (x_add k k) k <| aa k k <| an <| tn ?_
     obtain rfl := so h
     exact ⟨_, k, (ent_mk (σ := sg [(0, 0)]) ⟨(e1 k k), (pE k k), (e1 k k), trivial⟩ (hP k k k k <| trivial) k)⟩
   ·refine aops_lit 20 k q3 <| ak k k <| ak k k <| ak k k <| ak k k <| ak k k <| ak k k <| ak k k <| ae (eff_pick k k) k <| an ?_
    refine tn <| ac_ent (t := mkS [(1, .int a1), (2, .ptr 0 0 0), (5, .int x1), (28, .bl false)] [(0, ⟨3, [[.int a0.n, .list 1 (List.map eI a0.src), .list 1 (List.map eI a0.tgt)]]⟩)] 1 [1, 2]) (ent_mk (σ := sg [(0, 0)]) ⟨(e1 k k), (pE k k), (e1 k k), (e1 k k), trivial⟩ (hP k k k k <| trivial) k) <| ac_condF k k <| ac_skip <| block_n <| tn <| rg <| am k k <| ae (x_add k k) k <| aa k k ?_
    refine an <| tn ?_
    obtain rfl := so h
    exact ⟨_, k, (ent_mk (σ := sg [(0, 0)]) ⟨(e1 k k), (pE k k), (e1 k k), trivial⟩ (hP k k k k <| trivial) k)⟩
  ·refine ac_condF k q1 <| ac_exit <| then_exit <| then_exit ?_
   obtain rfl := so h
   exact ⟨_, k, k, (ent_mk (σ := sg []) trivial trivial k)⟩
 ·intro e t hX
  rcases y6 with y7 | y8
  ·obtain ⟨rfl, hent⟩ := hX
   refine block_here <| tn <| ac_ent hent <| sQ <| rg <| aa k k <| an <| tn <| ac_ret ?_
   obtain rfl := so h
   exact ret_mk k k k (fz_bl k)
  ·obtain ⟨rfl, hent⟩ := hX
   refine block_ret <| then_ret ?_
   obtain rfl := so h
   exact hent

noncomputable def m_spec_ReflectDims (a0 : Qv) (a1 : (List Int)) (a2 : Int) : Option ((List Int) × Bool) :=
  Option.bind (m_spec_l18Vector a0 a1) fun v1 =>
  bif !v1 then
    (some ((([] : (List Int)), false)))
  else
    (Option.bind (m_spec_l1In a2 0 (wr (a0.n - 1))) fun v3 =>
    bif !v3 then
      (some ((([] : (List Int)), false)))
    else
      (Option.bind (m_spec_l21Loop a0 a2) fun v5 =>
      bif v5 then
        (some ((([] : (List Int)), false)))
      else
        (Option.bind (m_spec_SymmetricForm a0) fun v7 =>
        Option.bind (m_spec_l20Reflect v7 a1 a2) fun v8 =>
        some ((v8, true)))))

theorem c_spec_ReflectDims (a0 : Qv) (a1 : (List Int)) (a2 : Int) (r : ((List Int) × Bool)) (h : m_spec_ReflectDims a0 a1 a2 = some r) : HasC Try.prog 59 [.agg (eQ a0), .list 1 (List.map eI a1), .int a2] (.tuple [.list 1 (List.map eI r.1), .bl r.2]) := by
 refine hasC_mk TT_ok (rvs := [.tmp 6, .tmp 7]) (ns := [0, 1, 2, 3, 4]) Try.func59 k k Try.ntmps59 k k k <| sQ <| rg <| ae (w_box k k k k) k <| aa k k <| aa k k <| an <| tn <| sQ <| sQ ?_
 refine rg <| ae (w_load_ptr TT_ok k k k k k k k) k <| am k k ?_
 obtain ⟨v1, hv1, h⟩ := ob h
 refine ae (w_call0s (c_spec_l18Vector a0 a1 v1 hv1) k (va_cons (va_agg' (v1_cons (v1_same k) (v1_cons (v1_same k) (v1_cons (v1_same k) v1_nil)))) (va_cons (va_same k) va_nil))) k <| ae (w_not k) k <| am k k ?_
 rcases cb h with ⟨q2, h⟩ | ⟨q2, h⟩
 ·refine aops_lit 12 k q2 <| ak k k <| ak k k <| ak k k <| ak k k <| ak k k <| ak k k <| ae (eff_pick k k) k <| am k k <| ak k k ?_
  refine ak k k <| ak k k <| ae (eff_pick k k) k <| an <| tn <| ac_ent (t := mkS [(1, .list 1 (List.map eI a1)), (2, .int a2), (3, .ptr 0 0 0), (24, .bl true)] [(0, ⟨3, [[.int a0.n, .list 1 (List.map eI a0.src), .list 1 (List.map eI a0.tgt)]]⟩)] 1 [1, 2, 3, 4]) (ent_mk (σ := sg [(0, 0)]) ⟨⟨_, k, ⟨k, k⟩⟩, (e1 k k), (pE k k), (e1 k k), trivial⟩ (hP k k k k <| trivial) k) <| ac_condT k k <| sQ <| rg <| ae (w_lit TT_ok k k k k k k k k k k k k) k ?_
  refine aa k k <| aa k k <| an <| tn <| ac_ent (t := mkS [(6, .own 1 0 (([] : (List Int)).length)), (7, .bl false)] [(1, ⟨1, List.map (ow eI) ([] : (List Int))⟩)] 2 [2, 3, 4]) (ent_mk (σ := sg [(1, 1)]) ⟨⟨_, k, ⟨k, k, (by simp only [len_map, lA, lT, lR, lC, lN]), k⟩⟩, (e1 k k), trivial⟩ (hI k k k <| trivial) k) <| ac_ret <| then_ret ?_
  obtain rfl := so h
  exact ret_mk k k k (xz_tuple k (xB_cons (xB_one (x_f1 okI k k)) (xB_cons (k) xB_nil)))
 ·refine aops_lit 12 k q2 <| am k k <| ae (w_field_ptr TT_ok k k k k k k k) k <| ae (w_load_ptr TT_ok k k k k k k k) k <| ae (x_sub k k) k ?_
  obtain ⟨v3, hv3, h⟩ := ob h
  refine ae (w_call0s (c_spec_l1In a2 0 (wr (a0.n - 1)) v3 hv3) k (va_cons (va_same k) (va_cons (va_same k) (va_cons (va_same k) va_nil)))) k <| ae (w_not k) k <| ae (eff_pick k k) k <| am k k ?_
  rcases cb h with ⟨q4, h⟩ | ⟨q4, h⟩
  ·refine aops_lit 20 k q4 <| ak k k <| ak k k <| ak k k <| ae (eff_pick k k) k <| an <| tn <| ac_ent (t := mkS [(1, .list 1 (List.map eI a1)), (2, .int a2), (3, .ptr 0 0 0), (24, .bl true)] [(0, ⟨3, [[.int a0.n, .list 1 (List.map eI a0.src), .list 1 (List.map eI a0.tgt)]]⟩)] 1 [1, 2, 3, 4]) (ent_mk (σ := sg [(0, 0)]) ⟨⟨_, k, ⟨k, k⟩⟩, (e1 k k), (pE k k), (e1 k k), trivial⟩ (hP k k k k <| trivial) k) <| ac_condT k k <| sQ ?_
   refine rg <| ae (w_lit TT_ok k k k k k k k k k k k k) k <| aa k k <| aa k k <| an <| tn <| ac_ent (t := mkS [(6, .own 1 0 (([] : (List Int)).length)), (7, .bl false)] [(1, ⟨1, List.map (ow eI) ([] : (List Int))⟩)] 2 [2, 3, 4]) (ent_mk (σ := sg [(1, 1)]) ⟨⟨_, k, ⟨k, k, (by simp only [len_map, lA, lT, lR, lC, lN]), k⟩⟩, (e1 k k), trivial⟩ (hI k k k <| trivial) k) <| ac_ret <| then_ret ?_
   obtain rfl := so h
   exact ret_mk k k k (xz_tuple k (xB_cons (xB_one (x_f1 okI k k)) (xB_cons (k) xB_nil)))
  ·refine aops_lit 20 k q4 <| ae (w_load_ptr TT_ok k k k k k k k) k <| am k k ?_
   obtain ⟨v5, hv5, h⟩ := ob h
   refine ae (w_call0s (c_spec_l21Loop a0 a2 v5 hv5) k (va_cons (va_agg' (v1_cons (v1_same k) (v1_cons (v1_same k) (v1_cons (v1_same k) v1_nil)))) (va_cons (va_same k) va_nil))) k <| ae (eff_pick k k) k <| an <| tn <| ac_ent (t := mkS [(1, .list 1 (List.map eI a1)), (2, .int a2), (3, .ptr 0 0 0), (24, .bl v5)] [(0, ⟨3, [[.int a0.n, .list 1 (List.map eI a0.src), .list 1 (List.map eI a0.tgt)]]⟩)] 1 [1, 2, 3, 4]) (ent_mk (σ := sg [(0, 0)]) ⟨⟨_, k, ⟨k, k⟩⟩, (e1 k k), (pE k k), (e1 k k), trivial⟩ (hP k k k k <| trivial) k) ?_
   rcases cb h with ⟨q6, h⟩ | ⟨q6, h⟩
   ·refine ac_condT k q6 <| sQ <| rg <| ae (w_lit TT_ok k k k k k k k k k k k k) k <| aa k k <| aa k k <| an <| tn <| ac_ent (t := mkS [(6, .own 1 0 (([] : (List Int)).length)), (7, .bl false)] [(1, ⟨1, List.map (ow eI) ([] : (List Int))⟩)] 2 [2, 3, 4]) (ent_mk (σ := sg [(1, 1)]) ⟨⟨_, k, ⟨k, k, (by simp only [len_map, lA, lT, lR, lC, lN]), k⟩⟩, (e1 k k), trivial⟩ (hI k k k <| trivial) k) <| ac_ret ?_
    refine then_ret ?_
    obtain rfl := so h
    exact ret_mk k k k (xz_tuple k (xB_cons (xB_one (x_f1 okI k k)) (xB_cons (k) xB_nil)))
   ·refine ac_condF k q6 <| ac_skip <| tn <| sQ <| rg <| ae (w_load_ptr TT_ok k k k k k k k) k ?_
    obtain ⟨v7, hv7, h⟩ := ob h
    refine ae (AEff.conv (w_call0 (x := .own 1 0 (List.map (eLs 1 eI) v7).length) (nb := [(1, ⟨1, absEs (List.map (eLs 1 eI) v7)⟩)]) (c_spec_SymmetricForm a0 v7 hv7) k (by rfl) k k (okLs.good _) (va_cons (va_agg' (v1_cons (v1_same k) (v1_cons (v1_same k) (v1_cons (v1_same k) v1_nil)))) va_nil)) (v' := .own 1 0 v7.length) (ed' := [(1, some ⟨1, List.map (ow (eLs 1 eI)) v7⟩)]) (by simp only [len_map]) (ed_ok (nb' := [(1, ⟨1, List.map (ow (eLs 1 eI)) v7⟩)]) (by simp only [abs_map]))) k <| am k k <| am k k ?_
    obtain ⟨v8, hv8, h⟩ := ob h
    refine ae (AEff.conv (w_call0 (x := .own 2 0 (List.map eI v8).length) (nb := [(2, ⟨1, absEs (List.map eI v8)⟩)]) (c_spec_l20Reflect v7 a1 a2 v8 hv8) k (by rfl) k k (okI.good _) (va_cons (va_T okLs k k) (va_cons (va_same k) (va_cons (va_same k) va_nil)))) (v' := .own 2 0 v8.length) (ed' := [(2, some ⟨1, List.map (ow eI) v8⟩)]) (by simp only [len_map]) (ed_ok (nb' := [(2, ⟨1, List.map (ow eI) v8⟩)]) (by simp only [abs_map]))) k <| aa k k <| aa k k <| an <| tn <| ac_ret ?_
    obtain rfl := so h
    exact ret_mk k k k (xz_tuple k (xB_cons (xB_one (x_f1 okI k k)) (xB_cons (k) xB_nil)))

noncomputable def m_spec_ReflectWord_L1 (a0 : Qv) (a2 : (List Int)) (x1 : ((List Int) × Int)) : Option (((List Int) × Int) ⊕ ((List Int) ⊕ ((List Int) × Bool))) :=
  bif decide (x1.2 < (a2.length : Int)) then
    (Option.bind (atL a2 x1.2) fun v6 =>
    Option.bind (m_spec_ReflectDims a0 x1.1 v6) fun v7 =>
    bif !v7.2 then
      (some (.inr (.inr ((([] : (List Int)), false)))))
    else
      (some (.inl (v7.1, wr (x1.2 + 1)))))
  else
    (some (.inr (.inl x1.1)))

noncomputable def m_spec_ReflectWord (a0 : Qv) (a1 : (List Int)) (a2 : (List Int)) : Option ((List Int) × Bool) :=
  Option.bind (m_spec_l18Vector a0 a1) fun v1 =>
  bif !v1 then
    (some ((([] : (List Int)), false)))
  else
    (bif decide (200 < (a2.length : Int)) then
      (some ((([] : (List Int)), false)))
    else
      (bif decide (([] : (List Int)).length + a1.length ≤ 4294967296) then
        (Option.bind (Lp (m_spec_ReflectWord_L1 a0 a2) ((([] : (List Int)) ++ a1), 0)) fun y9 =>
        Sum.elim (fun y10 =>
          some ((y10, true))
        ) 
        (fun y11 =>
          some y11
        )
         y9)
      else none))

theorem c_spec_ReflectWord (a0 : Qv) (a1 : (List Int)) (a2 : (List Int)) (r : ((List Int) × Bool)) (h : m_spec_ReflectWord a0 a1 a2 = some r) : HasC Try.prog 40 [.agg (eQ a0), .list 1 (List.map eI a1), .list 1 (List.map eI a2)] (.tuple [.list 1 (List.map eI r.1), .bl r.2]) := by
 refine hasC_mk TT_ok (rvs := [.tmp 6, .tmp 7]) (ns := [0, 1, 2, 3, 4, 5]) Try.func40 k k Try.ntmps40 k k k <| sQ <| rg <| ae (w_box k k k k) k <| aa k k <| aa k k <| an <| tn <| sQ <| sQ ?_
 refine rg <| ae (w_load_ptr TT_ok k k k k k k k) k <| am k k ?_
 obtain ⟨v1, hv1, h⟩ := ob h
 refine ae (w_call0s (c_spec_l18Vector a0 a1 v1 hv1) k (va_cons (va_agg' (v1_cons (v1_same k) (v1_cons (v1_same k) (v1_cons (v1_same k) v1_nil)))) (va_cons (va_same k) va_nil))) k <| ae (w_not k) k <| am k k ?_
 rcases cb h with ⟨q2, h⟩ | ⟨q2, h⟩
 ·refine aops_lit 16 k q2 <| ak k k <| ak k k <| ak k k <| ae (eff_pick k k) k <| an <| tn <| ac_ent (t := mkS [(1, .list 1 (List.map eI a1)), (2, .list 1 (List.map eI a2)), (3, .ptr 0 0 0), (20, .bl true)] [(0, ⟨3, [[.int a0.n, .list 1 (List.map eI a0.src), .list 1 (List.map eI a0.tgt)]]⟩)] 1 [1, 2, 3, 4, 5]) (ent_mk (σ := sg [(0, 0)]) ⟨⟨_, k, ⟨k, k⟩⟩, ⟨_, k, ⟨k, k⟩⟩, (pE k k), (e1 k k), trivial⟩ (hP k k k k <| trivial) k) <| ac_condT k k <| sQ ?_
  refine rg <| ae (w_lit TT_ok k k k k k k k k k k k k) k <| aa k k <| aa k k <| an <| tn <| ac_ent (t := mkS [(6, .own 1 0 (([] : (List Int)).length)), (7, .bl false)] [(1, ⟨1, List.map (ow eI) ([] : (List Int))⟩)] 2 [2, 3, 4, 5]) (ent_mk (σ := sg [(1, 1)]) ⟨⟨_, k, ⟨k, k, (by simp only [len_map, lA, lT, lR, lC, lN]), k⟩⟩, (e1 k k), trivial⟩ (hI k k k <| trivial) k) <| ac_ret <| then_ret ?_
  obtain rfl := so h
  exact ret_mk k k k (xz_tuple k (xB_cons (xB_one (x_f1 okI k k)) (xB_cons (k) xB_nil)))
 ·refine aops_lit 16 k q2 <| am k k <| ae (lenL TT_ok k k k) k <| ae (w_cmp k k k) k <| ae (eff_pick k k) k <| an <| tn <| ac_ent (t := mkS [(1, .list 1 (List.map eI a1)), (2, .list 1 (List.map eI a2)), (3, .ptr 0 0 0), (20, .bl (decide (200 < (a2.length : Int))))] [(0, ⟨3, [[.int a0.n, .list 1 (List.map eI a0.src), .list 1 (List.map eI a0.tgt)]]⟩)] 1 [1, 2, 3, 4, 5]) (ent_mk (σ := sg [(0, 0)]) ⟨⟨_, k, ⟨k, k⟩⟩, ⟨_, k, ⟨k, k⟩⟩, (pE k k), (e1 k k), trivial⟩ (hP k k k k <| trivial) k) ?_
  rcases cb h with ⟨q3, h⟩ | ⟨q3, h⟩
  ·refine ac_condT k q3 <| sQ <| rg <| ae (w_lit TT_ok k k k k k k k k k k k k) k <| aa k k <| aa k k <| an <| tn <| ac_ent (t := mkS [(6, .own 1 0 (([] : (List Int)).length)), (7, .bl false)] [(1, ⟨1, List.map (ow eI) ([] : (List Int))⟩)] 2 [2, 3, 4, 5]) (ent_mk (σ := sg [(1, 1)]) ⟨⟨_, k, ⟨k, k, (by simp only [len_map, lA, lT, lR, lC, lN]), k⟩⟩, (e1 k k), trivial⟩ (hI k k k <| trivial) k) <| ac_ret ?_
   refine then_ret ?_
   obtain rfl := so h
   exact ret_mk k k k (xz_tuple k (xB_cons (xB_one (x_f1 okI k k)) (xB_cons (k) xB_nil)))
  ·refine ac_condF k q3 <| ac_skip <| tn <| sQ <| rg <| ae (w_lit TT_ok k k k k k k k k k k k k) k <| am k k ?_
   obtain ⟨q4, h⟩ := cg h
   refine ae (x_app TT_ok (l := ([] : (List Int))) (m := a1) okIo q4 k k k k k k k k k k k k) k <| aa k k <| an <| tn <| sQ <| sQ <| rg <| aa k k <| an <| tn ?_
   refine ac_block ?_
   obtain ⟨y9, hy9, h⟩ := ob h
   refine ac_Lp (body := (m_spec_ReflectWord_L1 a0 a2)) hy9 (fun (x1 : ((List Int) × Int)) => mkS [(2, .list 1 (List.map eI a2)), (3, .ptr 0 0 0), (8, .own 1 0 x1.1.length), (9, .int x1.2)] [(0, ⟨3, [[.int a0.n, .list 1 (List.map eI a0.src), .list 1 (List.map eI a0.tgt)]]⟩), (1, ⟨1, List.map (ow eI) x1.1⟩)] 2 [2, 3, 4, 5]) (fun r e t => Sum.elim (fun a => (fun r e t => e = .exit 0 ∧ Ent t (mkS [(8, .own 0 0 r.length)] [(0, ⟨1, List.map (ow eI) r⟩)] 1 [1, 2, 3, 4, 5])) a e t) (fun b => (fun r e t => e = .ret ∧ RetQ TT [.tmp 6, .tmp 7] (.tuple [.list 1 (List.map eI r.1), .bl r.2]) .ret t) b e t) r) (ent_mk (σ := sg [(0, 0), (1, 2)]) ⟨⟨_, k, ⟨k, k⟩⟩, (pE k k), (oE k k), (e1 k k), trivial⟩ (hP k k k k <| hI k k k <| trivial) k) ?_ ?_
   ·intro x1 o h
    refine sQ <| sQ <| rg <| am k k <| am k k <| ae (lenL TT_ok k k k) k <| ae (w_cmp k k k) k <| an <| tn ?_
    rcases cb h with ⟨q5, h⟩ | ⟨q5, h⟩
    ·refine ac_condT k q5 <| ac_skip <| tn <| sQ <| ac_block <| sQ <| ac_region_draw MIXX <| ae (w_load_ptr TT_ok k k k k k k k) k <| am k k <| am k k ?_
     refine am k k ?_
     obtain ⟨v6, hv6, h⟩ := ob h
     refine ae (x_at_list TT_ok hv6 k k k k k k) k <| ae (w_load_ref TT_ok k k k k k k) k ?_
     obtain ⟨v7, hv7, h⟩ := ob h
     refine ae (AEff.conv (w_call0 (x := .tuple [.own 2 0 (List.map eI v7.1).length, .bl v7.2]) (nb := [(2, ⟨1, absEs (List.map eI v7.1)⟩)]) (c_spec_ReflectDims a0 x1.1 v6 v7 hv7) k (by rfl) k k (gB_cons (okI.good _) (gB_cons trivial gB_nil)) (va_cons (va_agg' (v1_cons (v1_same k) (v1_cons (v1_same k) (v1_cons (v1_same k) v1_nil)))) (va_cons (va_T okI k k) (va_cons (va_same k) va_nil)))) (v' := .tuple [.own 2 0 v7.1.length, .bl v7.2]) (ed' := [(2, some ⟨1, List.map (ow eI) v7.1⟩)]) (by simp only [len_map]) (ed_ok (nb' := [(2, ⟨1, List.map (ow eI) v7.1⟩)]) (by simp only [abs_map]))) k <| am k k <| ae (eff_extract k k (by intro _ h; cases h)) k <| ae (eff_extract k k (by intro _ h; cases h)) k <| aa k k <| aa k k <| an ?_
     refine ⟨by kernel_rfl, ?_⟩
     refine tn <| ac_ent (t := mkS [(2, .list 1 (List.map eI a2)), (3, .ptr 0 0 0), (9, .int x1.2), (10, .own 2 0 v7.1.length), (11, .bl v7.2)] [(0, ⟨3, [[.int a0.n, .list 1 (List.map eI a0.src), .list 1 (List.map eI a0.tgt)]]⟩), (2, ⟨1, List.map (ow eI) v7.1⟩)] 3 [3, 4, 5]) (ent_mk (σ := sg [(0, 0), (2, 2)]) ⟨⟨_, k, ⟨k, k⟩⟩, (pE k k), (e1 k k), (oE k k), (e1 k k), trivial⟩ (hP k k k k <| hI k k k <| trivial) k) <| sQ <| sQ <| rg <| am k k <| ae (w_not k) k <| an <| tn ?_
     rcases cb h with ⟨q8, h⟩ | ⟨q8, h⟩
     ·refine ac_condT k q8 <| sQ <| rg <| ae (w_lit TT_ok k k k k k k k k k k k k) k <| aa k k <| aa k k <| an <| tn <| ac_ent (t := mkS [(6, .own 3 0 (([] : (List Int)).length)), (7, .bl false)] [(3, ⟨1, List.map (ow eI) ([] : (List Int))⟩)] 4 [4, 5]) (ent_mk (σ := sg [(3, 3)]) ⟨⟨_, k, ⟨k, k, (by simp only [len_map, lA, lT, lR, lC, lN]), k⟩⟩, (e1 k k), trivial⟩ (hI k k k <| trivial) k) <| ac_ret ?_
      refine then_ret <| block_ret <| then_ret <| then_ret ?_
      obtain rfl := so h
      exact ⟨_, k, k, ret_mk k k k (xz_tuple k (xB_cons (xB_one (x_f1 okI k k)) (xB_cons (k) xB_nil)))⟩
     ·refine ac_condF k q8 <| ac_skip <| tn <| rg <| am k k <| aa k k <| an <| block_n <| tn <| rg ?_
      refine am k k <| ae (x_add k k) k <| aa k k <| an <| tn ?_
      obtain rfl := so h
      exact ⟨_, k, (ent_mk (σ := sg [(0, 0), (1, 2)]) ⟨⟨_, k, ⟨k, k⟩⟩, (pE k k), (oE k k), (e1 k k), trivial⟩ (hP k k k k <| hI k k k <| trivial) k)⟩
    ·refine ac_condF k q5 <| ac_exit <| then_exit <| then_exit ?_
     obtain rfl := so h
     exact ⟨_, k, k, (ent_mk (σ := sg [(0, 1)]) ⟨(oE k k), trivial⟩ (hI k k k <| trivial) k)⟩
   ·intro e t hX
    rcases y9 with y10 | y11
    ·obtain ⟨rfl, hent⟩ := hX
     refine block_here <| tn <| ac_ent hent <| sQ <| rg <| am k k <| aa k k <| aa k k <| an <| tn ?_
     refine ac_ret ?_
     obtain rfl := so h
     exact ret_mk k k k (xz_tuple k (xB_cons (xB_one (x_f1 okI k k)) (xB_cons (k) xB_nil)))
    ·obtain ⟨rfl, hent⟩ := hX
     refine block_ret <| then_ret ?_
     obtain rfl := so h
     exact hent

noncomputable def m_spec_CoxeterPower_L1 (v1 : ((List Int) × Bool)) (x1 : ((List Int) × Int)) : Option (((List Int) × Int) ⊕ (List Int)) :=
  bif decide (0 ≤ x1.2) then
    (Option.bind (atL v1.1 x1.2) fun v9 =>
    bif decide (x1.1.length + [v9].length ≤ 4294967296) then
      (some (.inl ((x1.1 ++ [v9]), wr (x1.2 - 1))))
    else none)
  else
    (some (.inr x1.1))

noncomputable def m_spec_CoxeterPower_L2 (a0 : Qv) (a2 : Int) (y11 : (List Int)) (x2 : ((List Int) × Int)) : Option (((List Int) × Int) ⊕ ((List Int) ⊕ ((List Int) × Bool))) :=
  bif decide (x2.2 < wr (-a2)) then
    (Option.bind (m_spec_ReflectWord a0 x2.1 y11) fun v14 =>
    bif !v14.2 then
      (some (.inr (.inr ((([] : (List Int)), false)))))
    else
      (some (.inl (v14.1, wr (x2.2 + 1)))))
  else
    (some (.inr (.inl x2.1)))

noncomputable def m_spec_CoxeterPower_L3 (a0 : Qv) (a2 : Int) (v1 : ((List Int) × Bool)) (x3 : ((List Int) × Int)) : Option (((List Int) × Int) ⊕ ((List Int) ⊕ ((List Int) × Bool))) :=
  bif decide (x3.2 < a2) then
    (Option.bind (m_spec_ReflectWord a0 x3.1 v1.1) fun v21 =>
    bif !v21.2 then
      (some (.inr (.inr ((([] : (List Int)), false)))))
    else
      (some (.inl (v21.1, wr (x3.2 + 1)))))
  else
    (some (.inr (.inl x3.1)))

noncomputable def m_spec_CoxeterPower (a0 : Qv) (a1 : (List Int)) (a2 : Int) : Option ((List Int) × Bool) :=
  Option.bind (m_spec_CoxeterOrder a0) fun v1 =>
  bif !v1.2 then
    (some ((([] : (List Int)), false)))
  else
    (Option.bind (m_spec_l1In a2 (-40) 40) fun v3 =>
    bif !v3 then
      (some ((([] : (List Int)), false)))
    else
      (Option.bind (m_spec_l18Vector a0 a1) fun v5 =>
      bif !v5 then
        (some ((([] : (List Int)), false)))
      else
        (bif decide (a2 < 0) then
          (Option.bind (Lp (m_spec_CoxeterPower_L1 v1) (([] : (List Int)), wr (((v1.1.length : Nat) : Int) - 1))) fun y11 =>
          bif decide (([] : (List Int)).length + a1.length ≤ 4294967296) then
            (Option.bind (Lp (m_spec_CoxeterPower_L2 a0 a2 y11) ((([] : (List Int)) ++ a1), 0)) fun y16 =>
            Sum.elim (fun y17 =>
              some ((y17, true))
            ) 
            (fun y18 =>
              some y18
            )
             y16)
          else none)
        else
          (bif decide (([] : (List Int)).length + a1.length ≤ 4294967296) then
            (Option.bind (Lp (m_spec_CoxeterPower_L3 a0 a2 v1) ((([] : (List Int)) ++ a1), 0)) fun y23 =>
            Sum.elim (fun y24 =>
              some ((y24, true))
            ) 
            (fun y25 =>
              some y25
            )
             y23)
          else none))))

theorem c_spec_CoxeterPower (a0 : Qv) (a1 : (List Int)) (a2 : Int) (r : ((List Int) × Bool)) (h : m_spec_CoxeterPower a0 a1 a2 = some r) : HasC Try.prog 25 [.agg (eQ a0), .list 1 (List.map eI a1), .int a2] (.tuple [.list 1 (List.map eI r.1), .bl r.2]) := by
 refine hasC_mk TT_ok (rvs := [.tmp 6, .tmp 7]) (ns := [0, 1, 2, 3, 4, 5, 6]) Try.func25 k k Try.ntmps25 k k k <| sQ <| rg <| ae (w_box k k k k) k <| aa k k <| aa k k <| an <| tn <| sQ <| rg ?_
 refine ae (w_load_ptr TT_ok k k k k k k k) k ?_
 obtain ⟨v1, hv1, h⟩ := ob h
 refine ae (AEff.conv (w_call0 (x := .tuple [.own 1 0 (List.map eI v1.1).length, .bl v1.2]) (nb := [(1, ⟨1, absEs (List.map eI v1.1)⟩)]) (c_spec_CoxeterOrder a0 v1 hv1) k (by rfl) k k (gB_cons (okI.good _) (gB_cons trivial gB_nil)) (va_cons (va_agg' (v1_cons (v1_same k) (v1_cons (v1_same k) (v1_cons (v1_same k) v1_nil)))) va_nil)) (v' := .tuple [.own 1 0 v1.1.length, .bl v1.2]) (ed' := [(1, some ⟨1, List.map (ow eI) v1.1⟩)]) (by simp only [len_map]) (ed_ok (nb' := [(1, ⟨1, List.map (ow eI) v1.1⟩)]) (by simp only [abs_map]))) k <| am k k <| ae (eff_extract k k (by intro _ h; cases h)) k <| ae (eff_extract k k (by intro _ h; cases h)) k <| aa k k <| aa k k <| an <| tn <| sQ <| sQ ?_
 refine rg <| am k k <| ae (w_not k) k <| am k k ?_
 rcases cb h with ⟨q2, h⟩ | ⟨q2, h⟩
 ·refine aops_lit 23 k q2 <| ak k k <| ak k k <| ak k k <| ae (eff_pick k k) k <| am k k <| ak k k <| ak k k <| ak k k <| ak k k ?_
  refine ae (eff_pick k k) k <| an <| tn <| ac_ent (t := mkS [(1, .list 1 (List.map eI a1)), (2, .int a2), (3, .ptr 0 0 0), (8, .own 1 0 v1.1.length), (33, .bl true)] [(0, ⟨3, [[.int a0.n, .list 1 (List.map eI a0.src), .list 1 (List.map eI a0.tgt)]]⟩), (1, ⟨1, List.map (ow eI) v1.1⟩)] 2 [2, 3, 4, 5, 6]) (ent_mk (σ := sg [(0, 0), (1, 1)]) ⟨⟨_, k, ⟨k, k⟩⟩, (e1 k k), (pE k k), (oE k k), (e1 k k), trivial⟩ (hP k k k k <| hI k k k <| trivial) k) <| ac_condT k k <| sQ <| rg <| ae (w_lit TT_ok k k k k k k k k k k k k) k <| aa k k <| aa k k ?_
  refine an <| tn <| ac_ent (t := mkS [(6, .own 2 0 (([] : (List Int)).length)), (7, .bl false)] [(2, ⟨1, List.map (ow eI) ([] : (List Int))⟩)] 3 [3, 4, 5, 6]) (ent_mk (σ := sg [(2, 2)]) ⟨⟨_, k, ⟨k, k, (by simp only [len_map, lA, lT, lR, lC, lN]), k⟩⟩, (e1 k k), trivial⟩ (hI k k k <| trivial) k) <| ac_ret <| then_ret ?_
  obtain rfl := so h
  exact ret_mk k k k (xz_tuple k (xB_cons (xB_one (x_f1 okI k k)) (xB_cons (k) xB_nil)))
 ·refine aops_lit 23 k q2 <| am k k ?_
  obtain ⟨v3, hv3, h⟩ := ob h
  refine ae (w_call0s (c_spec_l1In a2 (-40) 40 v3 hv3) k (va_cons (va_same k) (va_cons (va_same k) (va_cons (va_same k) va_nil)))) k <| ae (w_not k) k <| ae (eff_pick k k) k <| am k k ?_
  rcases cb h with ⟨q4, h⟩ | ⟨q4, h⟩
  ·refine aops_lit 28 k q4 <| ak k k <| ak k k <| ak k k <| ak k k <| ae (eff_pick k k) k <| an <| tn <| ac_ent (t := mkS [(1, .list 1 (List.map eI a1)), (2, .int a2), (3, .ptr 0 0 0), (8, .own 1 0 v1.1.length), (33, .bl true)] [(0, ⟨3, [[.int a0.n, .list 1 (List.map eI a0.src), .list 1 (List.map eI a0.tgt)]]⟩), (1, ⟨1, List.map (ow eI) v1.1⟩)] 2 [2, 3, 4, 5, 6]) (ent_mk (σ := sg [(0, 0), (1, 1)]) ⟨⟨_, k, ⟨k, k⟩⟩, (e1 k k), (pE k k), (oE k k), (e1 k k), trivial⟩ (hP k k k k <| hI k k k <| trivial) k) <| ac_condT k k ?_
   refine sQ <| rg <| ae (w_lit TT_ok k k k k k k k k k k k k) k <| aa k k <| aa k k <| an <| tn <| ac_ent (t := mkS [(6, .own 2 0 (([] : (List Int)).length)), (7, .bl false)] [(2, ⟨1, List.map (ow eI) ([] : (List Int))⟩)] 3 [3, 4, 5, 6]) (ent_mk (σ := sg [(2, 2)]) ⟨⟨_, k, ⟨k, k, (by simp only [len_map, lA, lT, lR, lC, lN]), k⟩⟩, (e1 k k), trivial⟩ (hI k k k <| trivial) k) <| ac_ret <| then_ret ?_
   obtain rfl := so h
   exact ret_mk k k k (xz_tuple k (xB_cons (xB_one (x_f1 okI k k)) (xB_cons (k) xB_nil)))
  ·refine aops_lit 28 k q4 <| ae (w_load_ptr TT_ok k k k k k k k) k <| am k k ?_
   obtain ⟨v5, hv5, h⟩ := ob h
   refine ae (w_call0s (c_spec_l18Vector a0 a1 v5 hv5) k (va_cons (va_agg' (v1_cons (v1_same k) (v1_cons (v1_same k) (v1_cons (v1_same k) v1_nil)))) (va_cons (va_same k) va_nil))) k <| ae (w_not k) k <| ae (eff_pick k k) k <| an <| tn <| ac_ent (t := mkS [(1, .list 1 (List.map eI a1)), (2, .int a2), (3, .ptr 0 0 0), (8, .own 1 0 v1.1.length), (33, .bl (!v5))] [(0, ⟨3, [[.int a0.n, .list 1 (List.map eI a0.src), .list 1 (List.map eI a0.tgt)]]⟩), (1, ⟨1, List.map (ow eI) v1.1⟩)] 2 [2, 3, 4, 5, 6]) (ent_mk (σ := sg [(0, 0), (1, 1)]) ⟨⟨_, k, ⟨k, k⟩⟩, (e1 k k), (pE k k), (oE k k), (e1 k k), trivial⟩ (hP k k k k <| hI k k k <| trivial) k) ?_
   rcases cb h with ⟨q6, h⟩ | ⟨q6, h⟩
   ·refine ac_condT k q6 <| sQ <| rg <| ae (w_lit TT_ok k k k k k k k k k k k k) k <| aa k k <| aa k k <| an <| tn <| ac_ent (t := mkS [(6, .own 2 0 (([] : (List Int)).length)), (7, .bl false)] [(2, ⟨1, List.map (ow eI) ([] : (List Int))⟩)] 3 [3, 4, 5, 6]) (ent_mk (σ := sg [(2, 2)]) ⟨⟨_, k, ⟨k, k, (by simp only [len_map, lA, lT, lR, lC, lN]), k⟩⟩, (e1 k k), trivial⟩ (hI k k k <| trivial) k) <| ac_ret ?_
    refine then_ret ?_
    obtain rfl := so h
    exact ret_mk k k k (xz_tuple k (xB_cons (xB_one (x_f1 okI k k)) (xB_cons (k) xB_nil)))
   ·refine ac_condF k q6 <| ac_skip <| tn <| sQ <| sQ <| rg <| am k k <| ae (w_cmp k k k) k <| an <| tn ?_
    rcases cb h with ⟨q7, h⟩ | ⟨q7, h⟩
    ·refine ac_condT k q7 <| sQ <| rg <| ae (w_lit TT_ok k k k k k k k k k k k k) k <| aa k k <| an <| tn <| ac_ent (t := mkS [(1, .list 1 (List.map eI a1)), (2, .int a2), (3, .ptr 0 0 0), (8, .own 1 0 v1.1.length), (10, .own 2 0 (([] : (List Int)).length))] [(0, ⟨3, [[.int a0.n, .list 1 (List.map eI a0.src), .list 1 (List.map eI a0.tgt)]]⟩), (1, ⟨1, List.map (ow eI) v1.1⟩), (2, ⟨1, List.map (ow eI) ([] : (List Int))⟩)] 3 [3, 4, 5, 6]) (ent_mk (σ := sg [(0, 0), (1, 1), (2, 2)]) ⟨⟨_, k, ⟨k, k⟩⟩, (e1 k k), (pE k k), (oE k k), ⟨_, k, ⟨k, k, (by simp only [len_map, lA, lT, lR, lC, lN]), k⟩⟩, trivial⟩ (hP k k k k <| hI k k k <| hI k k k <| trivial) k) <| sQ <| sQ ?_
     refine rg <| am k k <| ae (w_len_own TT_ok k k k k) k <| ae (x_sub k k) k <| aa k k <| an <| tn <| ac_block ?_
     obtain ⟨y11, hy11, h⟩ := ob h
     refine ac_Lp (body := (m_spec_CoxeterPower_L1 v1)) hy11 (fun (x1 : ((List Int) × Int)) => mkS [(1, .list 1 (List.map eI a1)), (2, .int a2), (3, .ptr 0 0 0), (8, .own 1 0 v1.1.length), (10, .own 2 0 x1.1.length), (11, .int x1.2)] [(0, ⟨3, [[.int a0.n, .list 1 (List.map eI a0.src), .list 1 (List.map eI a0.tgt)]]⟩), (1, ⟨1, List.map (ow eI) v1.1⟩), (2, ⟨1, List.map (ow eI) x1.1⟩)] 3 [3, 4, 5, 6]) (fun r e t => e = .exit 0 ∧ Ent t (mkS [(1, .list 1 (List.map eI a1)), (2, .int a2), (3, .ptr 0 0 0), (10, .own 1 0 r.length)] [(0, ⟨3, [[.int a0.n, .list 1 (List.map eI a0.src), .list 1 (List.map eI a0.tgt)]]⟩), (1, ⟨1, List.map (ow eI) r⟩)] 2 [2, 3, 4, 5, 6])) (ent_mk (σ := sg [(0, 0), (1, 1), (2, 2)]) ⟨⟨_, k, ⟨k, k⟩⟩, (e1 k k), (pE k k), (oE k k), (oE k k), (e1 k k), trivial⟩ (hP k k k k <| hI k k k <| hI k k k <| trivial) k) ?_ ?_
     ·intro x1 o h
      refine sQ <| sQ <| rg <| am k k <| ae (w_cmp k k k) k <| an <| tn ?_
      rcases cb h with ⟨q8, h⟩ | ⟨q8, h⟩
      ·refine ac_condT k q8 <| ac_skip <| tn <| sQ <| ac_block <| rg <| am k k <| am k k <| am k k ?_
       obtain ⟨v9, hv9, h⟩ := ob h
       refine ae (x_at_own TT_ok (atL_nn hv9) (atL_lt hv9) k k k k k k k) k <| ae (w_load_ptr TT_ok k k k k (map_at (atL_get hv9)) k k) k <| ae (w_lit TT_ok k k k k k k k k k k k k) k ?_
       obtain ⟨q10, h⟩ := cg h
       refine ae (x_app TT_ok (l := x1.1) (m := [v9]) okIo q10 k k k k k k k k k k k k) k <| aa k k <| an <| block_n <| tn <| rg <| am k k <| ae (x_sub k k) k <| aa k k <| an ?_
       refine tn ?_
       obtain rfl := so h
       exact ⟨_, k, (ent_mk (σ := sg [(0, 0), (1, 1), (2, 4)]) ⟨⟨_, k, ⟨k, k⟩⟩, (e1 k k), (pE k k), (oE k k), (oE k k), (e1 k k), trivial⟩ (hP k k k k <| hI k k k <| hI k k k <| trivial) k)⟩
      ·refine ac_condF k q8 <| ac_exit <| then_exit <| then_exit ?_
       obtain rfl := so h
       exact ⟨_, k, k, (ent_mk (σ := sg [(0, 0), (1, 2)]) ⟨⟨_, k, ⟨k, k⟩⟩, (e1 k k), (pE k k), (oE k k), trivial⟩ (hP k k k k <| hI k k k <| trivial) k)⟩
     ·rintro e t ⟨rfl, hent⟩
      refine block_here <| tn <| ac_ent hent <| sQ <| rg <| am k k <| aa k k <| an <| tn <| rg ?_
      refine am k k <| ae (x_neg k) k <| aa k k <| an <| tn <| sQ <| rg <| ae (w_lit TT_ok k k k k k k k k k k k k) k <| am k k ?_
      obtain ⟨q12, h⟩ := cg h
      refine ae (x_app TT_ok (l := ([] : (List Int))) (m := a1) okIo q12 k k k k k k k k k k k k) k <| aa k k <| an <| tn <| sQ <| sQ <| rg <| aa k k <| an <| tn ?_
      refine ac_block ?_
      obtain ⟨y16, hy16, h⟩ := ob h
      refine ac_Lp (body := (m_spec_CoxeterPower_L2 a0 a2 y11)) hy16 (fun (x2 : ((List Int) × Int)) => mkS [(2, .int (wr (-a2))), (3, .ptr 0 0 0), (8, .own 1 0 y11.length), (12, .own 2 0 x2.1.length), (13, .int x2.2)] [(0, ⟨3, [[.int a0.n, .list 1 (List.map eI a0.src), .list 1 (List.map eI a0.tgt)]]⟩), (1, ⟨1, List.map (ow eI) y11⟩), (2, ⟨1, List.map (ow eI) x2.1⟩)] 3 [3, 4, 5, 6]) (fun r e t => Sum.elim (fun a => (fun r e t => e = .exit 2 ∧ Ent t (mkS [(12, .own 0 0 r.length)] [(0, ⟨1, List.map (ow eI) r⟩)] 1 [1, 2, 3, 4, 5, 6])) a e t) (fun b => (fun r e t => e = .ret ∧ RetQ TT [.tmp 6, .tmp 7] (.tuple [.list 1 (List.map eI r.1), .bl r.2]) .ret t) b e t) r) (ent_mk (σ := sg [(0, 0), (1, 1), (2, 3)]) ⟨(e1 k k), (pE k k), (oE k k), (oE k k), (e1 k k), trivial⟩ (hP k k k k <| hI k k k <| hI k k k <| trivial) k) ?_ ?_
      ·intro x2 o h
       refine sQ <| sQ <| rg <| am k k <| am k k <| ae (w_cmp k k k) k <| an <| tn ?_
       rcases cb h with ⟨q13, h⟩ | ⟨q13, h⟩
       ·refine ac_condT k q13 <| ac_skip <| tn <| sQ <| ac_block <| sQ <| rg <| ae (w_load_ptr TT_ok k k k k k k k) k <| am k k <| am k k ?_
        obtain ⟨v14, hv14, h⟩ := ob h
        refine ae (AEff.conv (w_call0 (x := .tuple [.own 3 0 (List.map eI v14.1).length, .bl v14.2]) (nb := [(3, ⟨1, absEs (List.map eI v14.1)⟩)]) (c_spec_ReflectWord a0 x2.1 y11 v14 hv14) k (by rfl) k k (gB_cons (okI.good _) (gB_cons trivial gB_nil)) (va_cons (va_agg' (v1_cons (v1_same k) (v1_cons (v1_same k) (v1_cons (v1_same k) v1_nil)))) (va_cons (va_T okI k k) (va_cons (va_T okI k k) va_nil)))) (v' := .tuple [.own 3 0 v14.1.length, .bl v14.2]) (ed' := [(3, some ⟨1, List.map (ow eI) v14.1⟩)]) (by simp only [len_map]) (ed_ok (nb' := [(3, ⟨1, List.map (ow eI) v14.1⟩)]) (by simp only [abs_map]))) k <| am k k <| ae (eff_extract k k (by intro _ h; cases h)) k <| ae (eff_extract k k (by intro _ h; cases h)) k <| aa k k <| aa k k <| an <| tn <| ac_ent (t := mkS [(2, .int (wr (-a2))), (3, .ptr 0 0 0), (8, .own 1 0 y11.length), (13, .int x2.2), (14, .own 3 0 v14.1.length), (15, .bl v14.2)] [(0, ⟨3, [[.int a0.n, .list 1 (List.map eI a0.src), .list 1 (List.map eI a0.tgt)]]⟩), (1, ⟨1, List.map (ow eI) y11⟩), (3, ⟨1, List.map (ow eI) v14.1⟩)] 4 [4, 5, 6]) (ent_mk (σ := sg [(0, 0), (1, 1), (3, 3)]) ⟨(e1 k k), (pE k k), (oE k k), (e1 k k), (oE k k), (e1 k k), trivial⟩ (hP k k k k <| hI k k k <| hI k k k <| trivial) k) <| sQ ?_
        refine sQ <| rg <| am k k <| ae (w_not k) k <| an <| tn ?_
        rcases cb h with ⟨q15, h⟩ | ⟨q15, h⟩
        ·refine ac_condT k q15 <| sQ <| rg <| ae (w_lit TT_ok k k k k k k k k k k k k) k <| aa k k <| aa k k <| an <| tn <| ac_ent (t := mkS [(6, .own 4 0 (([] : (List Int)).length)), (7, .bl false)] [(4, ⟨1, List.map (ow eI) ([] : (List Int))⟩)] 5 [5, 6]) (ent_mk (σ := sg [(4, 4)]) ⟨⟨_, k, ⟨k, k, (by simp only [len_map, lA, lT, lR, lC, lN]), k⟩⟩, (e1 k k), trivial⟩ (hI k k k <| trivial) k) <| ac_ret ?_
         refine then_ret <| block_ret <| then_ret <| then_ret ?_
         obtain rfl := so h
         exact ⟨_, k, k, ret_mk k k k (xz_tuple k (xB_cons (xB_one (x_f1 okI k k)) (xB_cons (k) xB_nil)))⟩
        ·refine ac_condF k q15 <| ac_skip <| tn <| rg <| am k k <| aa k k <| an <| block_n <| tn <| rg ?_
         refine am k k <| ae (x_add k k) k <| aa k k <| an <| tn ?_
         obtain rfl := so h
         exact ⟨_, k, (ent_mk (σ := sg [(0, 0), (1, 1), (2, 3)]) ⟨(e1 k k), (pE k k), (oE k k), (oE k k), (e1 k k), trivial⟩ (hP k k k k <| hI k k k <| hI k k k <| trivial) k)⟩
       ·refine ac_condF k q13 <| ac_exit <| then_exit <| then_exit ?_
        obtain rfl := so h
        exact ⟨_, k, k, (ent_mk (σ := sg [(0, 2)]) ⟨(oE k k), trivial⟩ (hI k k k <| trivial) k)⟩
      ·intro e t hX
       rcases y16 with y17 | y18
       ·obtain ⟨rfl, hent⟩ := hX
        refine block_here <| tn <| ac_ent hent <| sQ <| rg <| am k k <| aa k k <| aa k k <| an <| tn ?_
        refine ac_ret ?_
        obtain rfl := so h
        exact ret_mk k k k (xz_tuple k (xB_cons (xB_one (x_f1 okI k k)) (xB_cons (k) xB_nil)))
       ·obtain ⟨rfl, hent⟩ := hX
        refine block_ret <| then_ret ?_
        obtain rfl := so h
        exact hent
    ·refine ac_condF k q7 <| ac_skip <| tn <| sQ <| rg <| ae (w_lit TT_ok k k k k k k k k k k k k) k <| am k k ?_
     obtain ⟨q19, h⟩ := cg h
     refine ae (x_app TT_ok (l := ([] : (List Int))) (m := a1) okIo q19 k k k k k k k k k k k k) k <| aa k k <| an <| tn <| sQ <| sQ <| rg <| aa k k <| an <| tn ?_
     refine ac_block ?_
     obtain ⟨y23, hy23, h⟩ := ob h
     refine ac_Lp (body := (m_spec_CoxeterPower_L3 a0 a2 v1)) hy23 (fun (x3 : ((List Int) × Int)) => mkS [(2, .int a2), (3, .ptr 0 0 0), (8, .own 1 0 v1.1.length), (12, .own 2 0 x3.1.length), (13, .int x3.2)] [(0, ⟨3, [[.int a0.n, .list 1 (List.map eI a0.src), .list 1 (List.map eI a0.tgt)]]⟩), (1, ⟨1, List.map (ow eI) v1.1⟩), (2, ⟨1, List.map (ow eI) x3.1⟩)] 3 [3, 4, 5, 6]) (fun r e t => Sum.elim (fun a => (fun r e t => e = .exit 2 ∧ Ent t (mkS [(12, .own 0 0 r.length)] [(0, ⟨1, List.map (ow eI) r⟩)] 1 [1, 2, 3, 4, 5, 6])) a e t) (fun b => (fun r e t => e = .ret ∧ RetQ TT [.tmp 6, .tmp 7] (.tuple [.list 1 (List.map eI r.1), .bl r.2]) .ret t) b e t) r) (ent_mk (σ := sg [(0, 0), (1, 1), (2, 3)]) ⟨(e1 k k), (pE k k), (oE k k), (oE k k), (e1 k k), trivial⟩ (hP k k k k <| hI k k k <| hI k k k <| trivial) k) ?_ ?_
     ·intro x3 o h
      refine sQ <| sQ <| rg <| am k k <| am k k <| ae (w_cmp k k k) k <| an <| tn ?_
      rcases cb h with ⟨q20, h⟩ | ⟨q20, h⟩
      ·refine ac_condT k q20 <| ac_skip <| tn <| sQ <| ac_block <| sQ <| rg <| ae (w_load_ptr TT_ok k k k k k k k) k <| am k k <| am k k ?_
       obtain ⟨v21, hv21, h⟩ := ob h
       refine ae (AEff.conv (w_call0 (x := .tuple [.own 3 0 (List.map eI v21.1).length, .bl v21.2]) (nb := [(3, ⟨1, absEs (List.map eI v21.1)⟩)]) (c_spec_ReflectWord a0 x3.1 v1.1 v21 hv21) k (by rfl) k k (gB_cons (okI.good _) (gB_cons trivial gB_nil)) (va_cons (va_agg' (v1_cons (v1_same k) (v1_cons (v1_same k) (v1_cons (v1_same k) v1_nil)))) (va_cons (va_T okI k k) (va_cons (va_T okI k k) va_nil)))) (v' := .tuple [.own 3 0 v21.1.length, .bl v21.2]) (ed' := [(3, some ⟨1, List.map (ow eI) v21.1⟩)]) (by simp only [len_map]) (ed_ok (nb' := [(3, ⟨1, List.map (ow eI) v21.1⟩)]) (by simp only [abs_map]))) k <| am k k <| ae (eff_extract k k (by intro _ h; cases h)) k <| ae (eff_extract k k (by intro _ h; cases h)) k <| aa k k <| aa k k <| an <| tn <| ac_ent (t := mkS [(2, .int a2), (3, .ptr 0 0 0), (8, .own 1 0 v1.1.length), (13, .int x3.2), (14, .own 3 0 v21.1.length), (15, .bl v21.2)] [(0, ⟨3, [[.int a0.n, .list 1 (List.map eI a0.src), .list 1 (List.map eI a0.tgt)]]⟩), (1, ⟨1, List.map (ow eI) v1.1⟩), (3, ⟨1, List.map (ow eI) v21.1⟩)] 4 [4, 5, 6]) (ent_mk (σ := sg [(0, 0), (1, 1), (3, 3)]) ⟨(e1 k k), (pE k k), (oE k k), (e1 k k), (oE k k), (e1 k k), trivial⟩ (hP k k k k <| hI k k k <| hI k k k <| trivial) k) <| sQ ?_
       refine sQ <| rg <| am k k <| ae (w_not k) k <| an <| tn ?_
       rcases cb h with ⟨q22, h⟩ | ⟨q22, h⟩
       ·refine ac_condT k q22 <| sQ <| rg <| ae (w_lit TT_ok k k k k k k k k k k k k) k <| aa k k <| aa k k <| an <| tn <| ac_ent (t := mkS [(6, .own 4 0 (([] : (List Int)).length)), (7, .bl false)] [(4, ⟨1, List.map (ow eI) ([] : (List Int))⟩)] 5 [5, 6]) (ent_mk (σ := sg [(4, 4)]) ⟨⟨_, k, ⟨k, k, (by simp only [len_map, lA, lT, lR, lC, lN]), k⟩⟩, (e1 k k), trivial⟩ (hI k k k <| trivial) k) <| ac_ret ?_
        refine then_ret <| block_ret <| then_ret <| then_ret ?_
        obtain rfl := so h
        exact ⟨_, k, k, ret_mk k k k (xz_tuple k (xB_cons (xB_one (x_f1 okI k k)) (xB_cons (k) xB_nil)))⟩
       ·refine ac_condF k q22 <| ac_skip <| tn <| rg <| am k k <| aa k k <| an <| block_n <| tn <| rg ?_
        refine am k k <| ae (x_add k k) k <| aa k k <| an <| tn ?_
        obtain rfl := so h
        exact ⟨_, k, (ent_mk (σ := sg [(0, 0), (1, 1), (2, 3)]) ⟨(e1 k k), (pE k k), (oE k k), (oE k k), (e1 k k), trivial⟩ (hP k k k k <| hI k k k <| hI k k k <| trivial) k)⟩
      ·refine ac_condF k q20 <| ac_exit <| then_exit <| then_exit ?_
       obtain rfl := so h
       exact ⟨_, k, k, (ent_mk (σ := sg [(0, 2)]) ⟨(oE k k), trivial⟩ (hI k k k <| trivial) k)⟩
     ·intro e t hX
      rcases y23 with y24 | y25
      ·obtain ⟨rfl, hent⟩ := hX
       refine block_here <| tn <| ac_ent hent <| sQ <| rg <| am k k <| aa k k <| aa k k <| an <| tn ?_
       refine ac_ret ?_
       obtain rfl := so h
       exact ret_mk k k k (xz_tuple k (xB_cons (xB_one (x_f1 okI k k)) (xB_cons (k) xB_nil)))
      ·obtain ⟨rfl, hent⟩ := hX
       refine block_ret <| then_ret ?_
       obtain rfl := so h
       exact hent

noncomputable def m_spec_IsPath_L1 (a0 : Qv) (a1 : Pa) (x1 : (Int × Int)) : Option ((Int × Int) ⊕ (Unit ⊕ Bool)) :=
  bif decide (x1.2 < (a1.arrows.length : Int)) then
    (Option.bind (atL a1.arrows x1.2) fun v7 =>
    Option.bind (m_spec_l1In v7 0 (wr ((a0.src.length : Int) - 1))) fun v8 =>
    bif !v8 then
      (some (.inr (.inr (false))))
    else
      (Option.bind (atL a1.arrows x1.2) fun v10 =>
      Option.bind (atL a0.src v10) fun v11 =>
      bif !decide (v11 = x1.1) then
        (some (.inr (.inr (false))))
      else
        (Option.bind (atL a1.arrows x1.2) fun v13 =>
        Option.bind (atL a0.tgt v13) fun v14 =>
        some (.inl (v14, wr (x1.2 + 1))))))
  else
    (some (.inr (.inl ())))

noncomputable def m_spec_IsPath (a0 : Qv) (a1 : Pa) : Option Bool :=
  Option.bind (m_spec_IsQuiver a0) fun v1 =>
  bif !v1 then
    (some (false))
  else
    (Option.bind (m_spec_l1In a1.start 0 (wr (a0.n - 1))) fun v3 =>
    bif !v3 then
      (some (false))
    else
      (bif decide (20 < (a1.arrows.length : Int)) then
        (some (false))
      else
        (Option.bind (Lp (m_spec_IsPath_L1 a0 a1) (a1.start, 0)) fun y15 =>
        Sum.elim (fun y16 =>
          some (true)
        ) 
        (fun y17 =>
          some y17
        )
         y15)))

theorem c_spec_IsPath (a0 : Qv) (a1 : Pa) (r : Bool) (h : m_spec_IsPath a0 a1 = some r) : HasC Try.prog 80 [.agg (eQ a0), .agg (ePa a1)] (.bl r) := by
 refine hasC_mk TT_ok (rvs := [.tmp 4]) (ns := [0, 1, 2, 3]) Try.func80 k k Try.ntmps80 k k k <| sQ <| rg <| ae (w_box k k k k) k <| ae (w_box k k k k) k <| aa k k <| an <| tn <| sQ <| rg ?_
 refine ae (w_field_ptr TT_ok k k k k k k k) k <| ae (w_load_ptr TT_ok k k k k k k k) k <| aa k k <| an <| tn <| sQ <| sQ <| rg <| ae (w_load_ptr TT_ok k k k k k k k) k ?_
 obtain ⟨v1, hv1, h⟩ := ob h
 refine ae (w_call0s (c_spec_IsQuiver a0 v1 hv1) k (va_cons (va_agg' (v1_cons (v1_same k) (v1_cons (v1_same k) (v1_cons (v1_same k) v1_nil)))) va_nil)) k <| ae (w_not k) k <| am k k ?_
 rcases cb h with ⟨q2, h⟩ | ⟨q2, h⟩
 ·refine aops_lit 12 k q2 <| ak k k <| ak k k <| ak k k <| ak k k <| ak k k <| ak k k <| ae (eff_pick k k) k <| am k k <| ak k k ?_
  refine ak k k <| ak k k <| ak k k <| ae (eff_pick k k) k <| an <| tn <| ac_ent (t := mkS [(2, .ptr 0 0 0), (3, .ptr 1 0 0), (5, .int a1.start), (25, .bl true)] [(0, ⟨3, [[.int a0.n, .list 1 (List.map eI a0.src), .list 1 (List.map eI a0.tgt)]]⟩), (1, ⟨2, [[.int a1.start, .list 1 (List.map eI a1.arrows)]]⟩)] 2 [2, 3]) (ent_mk (σ := sg [(0, 0), (1, 1)]) ⟨(pE k k), (pE k k), (e1 k k), (e1 k k), trivial⟩ (hP k k k k <| hP k k k k <| trivial) k) <| ac_condT k k <| sQ <| rg ?_
  refine aa k k <| an <| tn <| ac_ret <| then_ret ?_
  obtain rfl := so h
  exact ret_mk k k k (fz_bl k)
 ·refine aops_lit 12 k q2 <| am k k <| ae (w_field_ptr TT_ok k k k k k k k) k <| ae (w_load_ptr TT_ok k k k k k k k) k <| ae (x_sub k k) k ?_
  obtain ⟨v3, hv3, h⟩ := ob h
  refine ae (w_call0s (c_spec_l1In a1.start 0 (wr (a0.n - 1)) v3 hv3) k (va_cons (va_same k) (va_cons (va_same k) (va_cons (va_same k) va_nil)))) k <| ae (w_not k) k <| ae (eff_pick k k) k <| am k k ?_
  rcases cb h with ⟨q4, h⟩ | ⟨q4, h⟩
  ·refine aops_lit 20 k q4 <| ak k k <| ak k k <| ak k k <| ak k k <| ae (eff_pick k k) k <| an <| tn <| ac_ent (t := mkS [(2, .ptr 0 0 0), (3, .ptr 1 0 0), (5, .int a1.start), (25, .bl true)] [(0, ⟨3, [[.int a0.n, .list 1 (List.map eI a0.src), .list 1 (List.map eI a0.tgt)]]⟩), (1, ⟨2, [[.int a1.start, .list 1 (List.map eI a1.arrows)]]⟩)] 2 [2, 3]) (ent_mk (σ := sg [(0, 0), (1, 1)]) ⟨(pE k k), (pE k k), (e1 k k), (e1 k k), trivial⟩ (hP k k k k <| hP k k k k <| trivial) k) <| ac_condT k k ?_
   refine sQ <| rg <| aa k k <| an <| tn <| ac_ret <| then_ret ?_
   obtain rfl := so h
   exact ret_mk k k k (fz_bl k)
  ·refine aops_lit 20 k q4 <| ae (w_field_ptr TT_ok k k k k k k k) k <| ae (w_load_ptr TT_ok k k k k k k k) k <| ae (lenL TT_ok k k k) k <| ae (w_cmp k k k) k <| ae (eff_pick k k) k <| an <| tn <| ac_ent (t := mkS [(2, .ptr 0 0 0), (3, .ptr 1 0 0), (5, .int a1.start), (25, .bl (decide (20 < (a1.arrows.length : Int))))] [(0, ⟨3, [[.int a0.n, .list 1 (List.map eI a0.src), .list 1 (List.map eI a0.tgt)]]⟩), (1, ⟨2, [[.int a1.start, .list 1 (List.map eI a1.arrows)]]⟩)] 2 [2, 3]) (ent_mk (σ := sg [(0, 0), (1, 1)]) ⟨(pE k k), (pE k k), (e1 k k), (e1 k k), trivial⟩ (hP k k k k <| hP k k k k <| trivial) k) ?_
   rcases cb h with ⟨q5, h⟩ | ⟨q5, h⟩
   ·refine ac_condT k q5 <| sQ <| rg <| aa k k <| an <| tn <| ac_ret <| then_ret ?_
    obtain rfl := so h
    exact ret_mk k k k (fz_bl k)
   ·refine ac_condF k q5 <| ac_skip <| tn <| sQ <| sQ <| rg <| aa k k <| an <| tn <| ac_block ?_
    obtain ⟨y15, hy15, h⟩ := ob h
    refine ac_Lp (body := (m_spec_IsPath_L1 a0 a1)) hy15 (fun (x1 : (Int × Int)) => mkS [(2, .ptr 0 0 0), (3, .ptr 1 0 0), (5, .int x1.1), (6, .int x1.2)] [(0, ⟨3, [[.int a0.n, .list 1 (List.map eI a0.src), .list 1 (List.map eI a0.tgt)]]⟩), (1, ⟨2, [[.int a1.start, .list 1 (List.map eI a1.arrows)]]⟩)] 2 [2, 3]) (fun r e t => Sum.elim (fun a => (fun r e t => e = .exit 0 ∧ Ent t (mkS [] [] 0 [0, 1, 2, 3])) a e t) (fun b => (fun r e t => e = .ret ∧ RetQ TT [.tmp 4] (.bl r) .ret t) b e t) r) (ent_mk (σ := sg [(0, 0), (1, 1)]) ⟨(pE k k), (pE k k), (e1 k k), (e1 k k), trivial⟩ (hP k k k k <| hP k k k k <| trivial) k) ?_ ?_
    ·intro x1 o h
     refine sQ <| sQ <| rg <| am k k <| ae (w_field_ptr TT_ok k k k k k k k) k <| ae (w_load_ptr TT_ok k k k k k k k) k <| ae (lenL TT_ok k k k) k <| ae (w_cmp k k k) k <| an <| tn ?_
     rcases cb h with ⟨q6, h⟩ | ⟨q6, h⟩
     ·refine ac_condT k q6 <| ac_skip <| tn <| sQ <| ac_block <| sQ <| sQ <| ac_region_draw MIXX <| ae (w_field_ptr TT_ok k k k k k k k) k <| ae (w_load_ptr TT_ok k k k k k k k) k ?_
      refine am k k ?_
      obtain ⟨v7, hv7, h⟩ := ob h
      refine ae (x_at_list TT_ok hv7 k k k k k k) k <| ae (w_load_ref TT_ok k k k k k k) k <| ae (w_field_ptr TT_ok k k k k k k k) k <| ae (w_load_ptr TT_ok k k k k k k k) k <| ae (lenL TT_ok k k k) k <| ae (x_sub k k) k ?_
      obtain ⟨v8, hv8, h⟩ := ob h
      refine ae (w_call0s (c_spec_l1In v7 0 (wr ((a0.src.length : Int) - 1)) v8 hv8) k (va_cons (va_same k) (va_cons (va_same k) (va_cons (va_same k) va_nil)))) k <| ae (w_not k) k <| am k k ?_
      rcases cb h with ⟨q9, h⟩ | ⟨q9, h⟩
      ·refine aops_lit 44 k q9 <| ak k k <| ak k k <| ak k k <| ak k k <| ak k k <| ak k k <| ak k k <| ak k k <| ak k k ?_
       refine ak k k <| ak k k <| ae (eff_pick k k) k <| an ?_
       refine ⟨by kernel_rfl, ?_⟩
       refine tn <| ac_ent (t := mkS [(2, .ptr 0 0 0), (3, .ptr 1 0 0), (6, .int x1.2), (56, .bl true)] [(0, ⟨3, [[.int a0.n, .list 1 (List.map eI a0.src), .list 1 (List.map eI a0.tgt)]]⟩), (1, ⟨2, [[.int a1.start, .list 1 (List.map eI a1.arrows)]]⟩)] 2 [2, 3]) (ent_mk (σ := sg [(0, 0), (1, 1)]) ⟨(pE k k), (pE k k), (e1 k k), (e1 k k), trivial⟩ (hP k k k k <| hP k k k k <| trivial) k) <| ac_condT k k <| sQ <| rg <| aa k k <| an <| tn <| ac_ret <| then_ret ?_
       refine block_ret <| then_ret <| then_ret ?_
       obtain rfl := so h
       exact ⟨_, k, k, ret_mk k k k (fz_bl k)⟩
      ·refine aops_lit 44 k q9 <| ae (w_field_ptr TT_ok k k k k k k k) k <| ae (w_load_ptr TT_ok k k k k k k k) k <| ae (w_field_ptr TT_ok k k k k k k k) k <| ae (w_load_ptr TT_ok k k k k k k k) k <| am k k ?_
       obtain ⟨v10, hv10, h⟩ := ob h
       refine ae (x_at_list TT_ok hv10 k k k k k k) k <| ae (w_load_ref TT_ok k k k k k k) k ?_
       obtain ⟨v11, hv11, h⟩ := ob h
       refine ae (x_at_list TT_ok hv11 k k k k k k) k <| ae (w_load_ref TT_ok k k k k k k) k <| am k k <| ae (w_cmp k k k) k <| ae (eff_pick k k) k <| an ?_
       refine ⟨by kernel_rfl, ?_⟩
       refine tn <| ac_ent (t := mkS [(2, .ptr 0 0 0), (3, .ptr 1 0 0), (6, .int x1.2), (56, .bl (!decide (v11 = x1.1)))] [(0, ⟨3, [[.int a0.n, .list 1 (List.map eI a0.src), .list 1 (List.map eI a0.tgt)]]⟩), (1, ⟨2, [[.int a1.start, .list 1 (List.map eI a1.arrows)]]⟩)] 2 [2, 3]) (ent_mk (σ := sg [(0, 0), (1, 1)]) ⟨(pE k k), (pE k k), (e1 k k), (e1 k k), trivial⟩ (hP k k k k <| hP k k k k <| trivial) k) ?_
       rcases cb h with ⟨q12, h⟩ | ⟨q12, h⟩
       ·refine ac_condT k q12 <| sQ <| rg <| aa k k <| an <| tn <| ac_ret <| then_ret <| block_ret <| then_ret ?_
        refine then_ret ?_
        obtain rfl := so h
        exact ⟨_, k, k, ret_mk k k k (fz_bl k)⟩
       ·refine ac_condF k q12 <| ac_skip <| tn <| ac_region_draw MIXX <| ae (w_field_ptr TT_ok k k k k k k k) k <| ae (w_load_ptr TT_ok k k k k k k k) k <| ae (w_field_ptr TT_ok k k k k k k k) k <| ae (w_load_ptr TT_ok k k k k k k k) k <| am k k ?_
        obtain ⟨v13, hv13, h⟩ := ob h
        refine ae (x_at_list TT_ok hv13 k k k k k k) k <| ae (w_load_ref TT_ok k k k k k k) k ?_
        obtain ⟨v14, hv14, h⟩ := ob h
        refine ae (x_at_list TT_ok hv14 k k k k k k) k <| ae (w_load_ref TT_ok k k k k k k) k <| aa k k <| an ?_
        refine ⟨by kernel_rfl, ?_⟩
        refine block_n <| tn <| rg <| am k k <| ae (x_add k k) k <| aa k k <| an <| tn ?_
        obtain rfl := so h
        exact ⟨_, k, (ent_mk (σ := sg [(0, 0), (1, 1)]) ⟨(pE k k), (pE k k), (e1 k k), (e1 k k), trivial⟩ (hP k k k k <| hP k k k k <| trivial) k)⟩
     ·refine ac_condF k q6 <| ac_exit <| then_exit <| then_exit ?_
      obtain rfl := so h
      exact ⟨_, k, k, (ent_mk (σ := sg []) trivial trivial k)⟩
    ·intro e t hX
     rcases y15 with y16 | y17
     ·obtain ⟨rfl, hent⟩ := hX
      refine block_here <| tn <| ac_ent hent <| sQ <| rg <| aa k k <| an <| tn <| ac_ret ?_
      obtain rfl := so h
      exact ret_mk k k k (fz_bl k)
     ·obtain ⟨rfl, hent⟩ := hX
      refine block_ret <| then_ret ?_
      obtain rfl := so h
      exact hent

noncomputable def m_spec_EndOf (a0 : Qv) (a1 : Pa) : Option Int :=
  Option.bind (m_spec_IsPath a0 a1) fun v1 =>
  bif !v1 then
    (some ((-1)))
  else
    (bif decide ((a1.arrows.length : Int) = 0) then
      (some (a1.start))
    else
      (Option.bind (atL a1.arrows (wr ((a1.arrows.length : Int) - 1))) fun v4 =>
      Option.bind (atL a0.tgt v4) fun v5 =>
      some (v5)))

theorem c_spec_EndOf (a0 : Qv) (a1 : Pa) (r : Int) (h : m_spec_EndOf a0 a1 = some r) : HasC Try.prog 71 [.agg (eQ a0), .agg (ePa a1)] (.int r) := by
 refine hasC_mk TT_ok (rvs := [.tmp 4]) (ns := [0, 1, 2, 3]) Try.func71 k k Try.ntmps71 k k k <| sQ <| rg <| ae (w_box k k k k) k <| ae (w_box k k k k) k <| aa k k <| an <| tn <| sQ <| sQ ?_
 refine rg <| ae (w_load_ptr TT_ok k k k k k k k) k <| ae (w_load_ptr TT_ok k k k k k k k) k ?_
 obtain ⟨v1, hv1, h⟩ := ob h
 refine ae (w_call0s (c_spec_IsPath a0 a1 v1 hv1) k (va_cons (va_agg' (v1_cons (v1_same k) (v1_cons (v1_same k) (v1_cons (v1_same k) v1_nil)))) (va_cons (va_agg' (v1_cons (v1_same k) (v1_cons (v1_same k) v1_nil))) va_nil))) k <| ae (w_not k) k <| an <| tn ?_
 rcases cb h with ⟨q2, h⟩ | ⟨q2, h⟩
 ·refine ac_condT k q2 <| sQ <| rg <| aa k k <| an <| tn <| ac_ret <| then_ret ?_
  obtain rfl := so h
  exact ret_mk k k k (fz_int k)
 ·refine ac_condF k q2 <| ac_skip <| tn <| sQ <| sQ <| rg <| ae (w_field_ptr TT_ok k k k k k k k) k <| ae (w_load_ptr TT_ok k k k k k k k) k <| ae (lenL TT_ok k k k) k <| ae (w_cmp k k k) k ?_
  refine an <| tn ?_
  rcases cb h with ⟨q3, h⟩ | ⟨q3, h⟩
  ·refine ac_condT k q3 <| sQ <| rg <| ae (w_field_ptr TT_ok k k k k k k k) k <| ae (w_load_ptr TT_ok k k k k k k k) k <| aa k k <| an <| tn <| ac_ent (t := mkS [(4, .int a1.start)] [] 2 [2, 3]) (ent_mk (σ := sg []) ⟨(e1 k k), trivial⟩ trivial k) <| ac_ret ?_
   refine then_ret ?_
   obtain rfl := so h
   exact ret_mk k k k (fz_int k)
  ·refine ac_condF k q3 <| ac_skip <| tn <| sQ <| ac_region_draw MIXX <| ae (w_field_ptr TT_ok k k k k k k k) k <| ae (w_load_ptr TT_ok k k k k k k k) k <| ae (w_field_ptr TT_ok k k k k k k k) k <| ae (w_load_ptr TT_ok k k k k k k k) k <| ae (w_field_ptr TT_ok k k k k k k k) k ?_
   refine ae (w_load_ptr TT_ok k k k k k k k) k <| ae (lenL TT_ok k k k) k <| ae (x_sub k k) k ?_
   obtain ⟨v4, hv4, h⟩ := ob h
   refine ae (x_at_list TT_ok hv4 k k k k k k) k <| ae (w_load_ref TT_ok k k k k k k) k ?_
   obtain ⟨v5, hv5, h⟩ := ob h
   refine ae (x_at_list TT_ok hv5 k k k k k k) k <| ae (w_load_ref TT_ok k k k k k k) k <| aa k k <| an ?_
   refine ⟨by kernel_rfl, ?_⟩
   refine tn <| ac_ent (t := mkS [(4, .int v5)] [] 2 [2, 3]) (ent_mk (σ := sg []) ⟨(e1 k k), trivial⟩ trivial k) <| ac_ret ?_
   obtain rfl := so h
   exact ret_mk k k k (fz_int k)

noncomputable def m_spec_l7From_L2 (a1 : Int) (v5 : (List Pa)) (x1 : (Int × (List Pa))) (x2 : ((List Pa) × Int)) : Option (((List Pa) × Int) ⊕ (List Pa)) :=
  bif decide (x2.2 < ((v5.length : Nat) : Int)) then
    (Option.bind (atL v5 x2.2) fun v7 =>
    bif decide ([x1.1].length + v7.arrows.length ≤ 4294967296) then
      (bif decide (x2.1.length + 1 ≤ 4294967296) then
        (some (.inl ((x2.1 ++ [(⟨a1, ([x1.1] ++ v7.arrows)⟩ : Pa)]), wr (x2.2 + 1))))
      else none)
    else none)
  else
    (some (.inr x2.1))

noncomputable def m_spec_l7From_L1 (self : (Qv → Int → Option (List Pa))) (a0 : Qv) (a1 : Int) (x1 : (Int × (List Pa))) : Option ((Int × (List Pa)) ⊕ (List Pa)) :=
  bif decide (x1.1 < (a0.src.length : Int)) then
    (Option.bind (atL a0.src x1.1) fun v2 =>
    bif !decide (v2 = a1) then
      (some (.inl (wr (x1.1 + 1), x1.2)))
    else
      (Option.bind (atL a0.tgt x1.1) fun v4 =>
      Option.bind (self a0 v4) fun v5 =>
      Option.bind (Lp (m_spec_l7From_L2 a1 v5 x1) (x1.2, 0)) fun y10 =>
      some (.inl (wr (x1.1 + 1), y10))))
  else
    (some (.inr x1.2))

noncomputable def m_spec_l7From_b (self : Qv → Int → Option (List Pa)) (a0 : Qv) (a1 : Int) : Option (List Pa) :=
  Option.bind (Lp (m_spec_l7From_L1 self a0 a1) (0, [(⟨a1, ([] : (List Int))⟩ : Pa)])) fun y11 =>
  some (y11)

noncomputable def m_spec_l7From : Nat → Qv → Int → Option (List Pa)
  | 0, _, _ => none
  | n + 1, a0, a1 => m_spec_l7From_b (m_spec_l7From n) a0 a1

theorem c_spec_l7From_b (self : Qv → Int → Option (List Pa)) (a0 : Qv) (a1 : Int) (ih : ∀ (a0 : Qv) (a1 : Int) (r : (List Pa)), self a0 a1 = some r → HasC Try.prog 70 [.agg (eQ a0), .int a1] (.list 2 (List.map ePa r))) (r : (List Pa)) (h : m_spec_l7From_b self a0 a1 = some r) : HasC Try.prog 70 [.agg (eQ a0), .int a1] (.list 2 (List.map ePa r)) := by
 refine hasC_mk TT_ok (rvs := [.tmp 4]) (ns := [0, 1, 2, 3, 4, 5, 6, 7, 8]) Try.func70 k k Try.ntmps70 k k k <| sQ <| rg <| ae (w_box k k k k) k <| aa k k <| an <| tn <| sQ <| rg <| am k k ?_
 refine ae (w_lit TT_ok k k k k k k k k k k k k) k <| ae (w_build TT_ok k k k k k k) k <| ae (w_lit TT_ok k k k k k k k k k k k k) k <| aa k k <| an <| tn <| ac_ent (t := mkS [(1, .int a1), (2, .ptr 0 0 0), (5, .own 2 0 ([(⟨a1, ([] : (List Int))⟩ : Pa)].length))] [(0, ⟨3, [[.int a0.n, .list 1 (List.map eI a0.src), .list 1 (List.map eI a0.tgt)]]⟩), (2, ⟨2, List.map (ow ePa) [(⟨a1, ([] : (List Int))⟩ : Pa)]⟩)] 3 [3, 4, 5, 6, 7, 8]) (Ent.trans (ent_absorb' (b := 2) (b' := 1) (i := 0) (j := 1) (es' := List.map eI ([] : (List Int))) k k k k k k k (okI.frzs ([] : (List Int)))) (ent_mk (σ := sg [(0, 0), (2, 2)]) ⟨(e1 k k), (pE k k), ⟨_, k, ⟨k, k, (by simp only [len_map, lA, lT, lR, lC, lN]), k⟩⟩, trivial⟩ (hP k k k k <| hB (okPa.plainO _) k k k <| trivial) k)) <| sQ <| sQ <| rg ?_
 refine aa k k <| an <| tn <| ac_block ?_
 obtain ⟨y11, hy11, h⟩ := ob h
 refine ac_Lp (body := (m_spec_l7From_L1 self a0 a1)) hy11 (fun (x1 : (Int × (List Pa))) => mkS [(1, .int a1), (2, .ptr 0 0 0), (5, .own 1 0 x1.2.length), (6, .int x1.1)] [(0, ⟨3, [[.int a0.n, .list 1 (List.map eI a0.src), .list 1 (List.map eI a0.tgt)]]⟩), (1, ⟨2, List.map (ow ePa) x1.2⟩)] 2 [2, 3, 4, 5, 6, 7, 8]) (fun r e t => e = .exit 0 ∧ Ent t (mkS [(5, .own 0 0 r.length)] [(0, ⟨2, List.map (ow ePa) r⟩)] 1 [1, 2, 3, 4, 5, 6, 7, 8])) (ent_mk (σ := sg [(0, 0), (1, 2)]) ⟨(e1 k k), (pE k k), (oE k k), (e1 k k), trivial⟩ (hP k k k k <| hB (okPa.plainO _) k k k <| trivial) k) ?_ ?_
 ·intro x1 o h
  refine sQ <| sQ <| rg <| am k k <| ae (w_field_ptr TT_ok k k k k k k k) k <| ae (w_load_ptr TT_ok k k k k k k k) k <| ae (lenL TT_ok k k k) k <| ae (w_cmp k k k) k <| an <| tn ?_
  rcases cb h with ⟨q1, h⟩ | ⟨q1, h⟩
  ·refine ac_condT k q1 <| ac_skip <| tn <| sQ <| ac_block <| sQ <| sQ <| rg <| ae (w_field_ptr TT_ok k k k k k k k) k <| ae (w_load_ptr TT_ok k k k k k k k) k ?_
   refine am k k ?_
   obtain ⟨v2, hv2, h⟩ := ob h
   refine ae (x_at_list TT_ok hv2 k k k k k k) k <| ae (w_load_ref TT_ok k k k k k k) k <| am k k <| ae (w_cmp k k k) k <| an <| tn <| ac_ent (t := mkS [(1, .int a1), (2, .ptr 0 0 0), (5, .own 1 0 x1.2.length), (6, .int x1.1), (26, .bl (!decide (v2 = a1)))] [(0, ⟨3, [[.int a0.n, .list 1 (List.map eI a0.src), .list 1 (List.map eI a0.tgt)]]⟩), (1, ⟨2, List.map (ow ePa) x1.2⟩)] 2 [2, 3, 4, 5, 6, 7, 8]) (ent_mk (σ := sg [(0, 0), (1, 1)]) ⟨(e1 k k), (pE k k), (oE k k), (e1 k k), (e1 k k), trivial⟩ (hP k k k k <| hB (okPa.plainO _) k k k <| trivial) k) ?_
   rcases cb h with ⟨q3, h⟩ | ⟨q3, h⟩
   ·refine ac_condT k q3 <| ac_exit <| then_exit <| block_here <| tn <| rg <| am k k <| ae (x_add k k) k <| aa k k <| an ?_
    refine tn ?_
    obtain rfl := so h
    exact ⟨_, k, (ent_mk (σ := sg [(0, 0), (1, 1)]) ⟨(e1 k k), (pE k k), (oE k k), (e1 k k), trivial⟩ (hP k k k k <| hB (okPa.plainO _) k k k <| trivial) k)⟩
   ·refine ac_condF k q3 <| ac_skip <| tn <| sQ <| ac_region_draw MIXX <| ae (w_load_ptr TT_ok k k k k k k k) k <| ae (w_field_ptr TT_ok k k k k k k k) k <| ae (w_load_ptr TT_ok k k k k k k k) k <| am k k ?_
    obtain ⟨v4, hv4, h⟩ := ob h
    refine ae (x_at_list TT_ok hv4 k k k k k k) k <| ae (w_load_ref TT_ok k k k k k k) k ?_
    obtain ⟨v5, hv5, h⟩ := ob h
    refine ae (AEff.conv (w_call0 (x := .own 2 0 (List.map ePa v5).length) (nb := [(2, ⟨2, absEs (List.map ePa v5)⟩)]) (ih a0 v4 v5 hv5) k (by rfl) k k (okPa.good _) (va_cons (va_agg' (v1_cons (v1_same k) (v1_cons (v1_same k) (v1_cons (v1_same k) v1_nil)))) (va_cons (va_same k) va_nil))) (v' := .own 2 0 v5.length) (ed' := [(2, some ⟨2, List.map (ow ePa) v5⟩)]) (by simp only [len_map]) (ed_ok (nb' := [(2, ⟨2, List.map (ow ePa) v5⟩)]) (by simp only [abs_map]))) k <| aa k k <| an ?_
    refine ⟨by kernel_rfl, ?_⟩
    refine tn <| sQ <| rg <| aa k k <| an <| tn <| ac_block ?_
    obtain ⟨y10, hy10, h⟩ := ob h
    refine ac_Lp (body := (m_spec_l7From_L2 a1 v5 x1)) hy10 (fun (x2 : ((List Pa) × Int)) => mkS [(1, .int a1), (2, .ptr 0 0 0), (5, .own 1 0 x2.1.length), (6, .int x1.1), (7, .own 2 0 v5.length), (8, .int x2.2)] [(0, ⟨3, [[.int a0.n, .list 1 (List.map eI a0.src), .list 1 (List.map eI a0.tgt)]]⟩), (1, ⟨2, List.map (ow ePa) x2.1⟩), (2, ⟨2, List.map (ow ePa) v5⟩)] 3 [3, 4, 5, 6, 7, 8]) (fun r e t => e = .exit 2 ∧ Ent t (mkS [(1, .int a1), (2, .ptr 0 0 0), (5, .own 1 0 r.length), (6, .int x1.1)] [(0, ⟨3, [[.int a0.n, .list 1 (List.map eI a0.src), .list 1 (List.map eI a0.tgt)]]⟩), (1, ⟨2, List.map (ow ePa) r⟩)] 2 [2, 3, 4, 5, 6, 7, 8])) (ent_mk (σ := sg [(0, 0), (1, 1), (2, 2)]) ⟨(e1 k k), (pE k k), (oE k k), (e1 k k), (oE k k), (e1 k k), trivial⟩ (hP k k k k <| hB (okPa.plainO _) k k k <| hB (okPa.plainO _) k k k <| trivial) k) ?_ ?_
    ·intro x2 o h
     refine sQ <| sQ <| rg <| am k k <| am k k <| ae (w_len_own TT_ok k k k k) k <| ae (w_cmp k k k) k <| an <| tn ?_
     rcases cb h with ⟨q6, h⟩ | ⟨q6, h⟩
     ·refine ac_condT k q6 <| ac_skip <| tn <| sQ <| ac_block <| rg <| am k k <| am k k <| am k k <| ae (w_lit TT_ok k k k k k k k k k k k k) k ?_
      refine am k k <| am k k ?_
      obtain ⟨v7, hv7, h⟩ := ob h
      refine ae (x_at_own TT_ok (atL_nn hv7) (atL_lt hv7) k k k k k k k) k <| ae (w_field_ptr TT_ok k k k k k k k) k <| ae (w_load_ptr TT_ok k k k k (map_at (atL_get hv7)) k k) k ?_
      obtain ⟨q8, h⟩ := cg h
      refine ae (x_app TT_ok (l := [x1.1]) (m := v7.arrows) okIo q8 k k k k k k k k k k k k) k <| ae (w_build TT_ok k k k k k k) k <| ae (w_lit TT_ok k k k k k k k k k k k k) k ?_
      obtain ⟨q9, h⟩ := cg h
      refine ae (x_app1 TT_ok (l := x2.1) (c := [.int a1, .own 4 0 (([x1.1] ++ v7.arrows).length)]) q9 k k k k k k k k k k k k k k) k <| aa k k <| an <| block_n <| tn <| ac_ent (t := mkS [(1, .int a1), (2, .ptr 0 0 0), (5, .own 6 0 ((x2.1 ++ [(⟨a1, ([x1.1] ++ v7.arrows)⟩ : Pa)]).length)), (6, .int x1.1), (7, .own 2 0 v5.length), (8, .int x2.2)] [(0, ⟨3, [[.int a0.n, .list 1 (List.map eI a0.src), .list 1 (List.map eI a0.tgt)]]⟩), (2, ⟨2, List.map (ow ePa) v5⟩), (6, ⟨2, List.map (ow ePa) (x2.1 ++ [(⟨a1, ([x1.1] ++ v7.arrows)⟩ : Pa)])⟩)] 7 [7, 8]) (Ent.trans (ent_absL (b := 6) (b' := 4) (j := 1) (es' := List.map eI ([x1.1] ++ v7.arrows)) k k k k (len_map _ _) (okI.frzs _)) (ent_mk (σ := sg [(0, 0), (2, 2), (6, 6)]) ⟨(e1 k k), (pE k k), ⟨_, k, ⟨k, k, (by simp only [len_map, lA, lT, lR, lC, lN]), k⟩⟩, (e1 k k), (oE k k), (e1 k k), trivial⟩ (hP k k k k <| hB (okPa.plainO _) k k k <| hX ⟨_, k, k, .inl ⟨app_eq (⟨a1, ([x1.1] ++ v7.arrows)⟩ : Pa) k, okPa.plainO _⟩⟩ k <| trivial) k)) <| rg <| am k k <| ae (x_add k k) k <| aa k k ?_
      refine an <| tn ?_
      obtain rfl := so h
      exact ⟨_, k, (ent_mk (σ := sg [(0, 0), (1, 6), (2, 2)]) ⟨(e1 k k), (pE k k), (oE k k), (e1 k k), (oE k k), (e1 k k), trivial⟩ (hP k k k k <| hB (okPa.plainO _) k k k <| hB (okPa.plainO _) k k k <| trivial) k)⟩
     ·refine ac_condF k q6 <| ac_exit <| then_exit <| then_exit ?_
      obtain rfl := so h
      exact ⟨_, k, k, (ent_mk (σ := sg [(0, 0), (1, 1)]) ⟨(e1 k k), (pE k k), (oE k k), (e1 k k), trivial⟩ (hP k k k k <| hB (okPa.plainO _) k k k <| trivial) k)⟩
    ·rintro e t ⟨rfl, hent⟩
     refine block_here <| block_n <| tn <| ac_ent hent <| rg <| am k k <| ae (x_add k k) k <| aa k k <| an <| tn ?_
     obtain rfl := so h
     exact ⟨_, k, (ent_mk (σ := sg [(0, 0), (1, 1)]) ⟨(e1 k k), (pE k k), (oE k k), (e1 k k), trivial⟩ (hP k k k k <| hB (okPa.plainO _) k k k <| trivial) k)⟩
  ·refine ac_condF k q1 <| ac_exit <| then_exit <| then_exit ?_
   obtain rfl := so h
   exact ⟨_, k, k, (ent_mk (σ := sg [(0, 1)]) ⟨(oE k k), trivial⟩ (hB (okPa.plainO _) k k k <| trivial) k)⟩
 ·rintro e t ⟨rfl, hent⟩
  refine block_here <| tn <| ac_ent hent <| sQ <| rg <| am k k <| aa k k <| an <| tn <| ac_ret ?_
  obtain rfl := so h
  exact ret_mk k k k (xz_list (x_f1 okPa k k))
theorem c_spec_l7From : ∀ (n : Nat) (a0 : Qv) (a1 : Int) (r : (List Pa)), m_spec_l7From n a0 a1 = some r → HasC Try.prog 70 [.agg (eQ a0), .int a1] (.list 2 (List.map ePa r))
 | 0, a0, a1, r, h => by cases h
 | n + 1, a0, a1, r, h => c_spec_l7From_b (m_spec_l7From n) a0 a1 (c_spec_l7From n) r h

noncomputable def m_spec_PathsBetween_L1 (a0 : Qv) (a2 : Int) (v7 : (List Pa)) (x1 : ((List Pa) × Int)) : Option (((List Pa) × Int) ⊕ (List Pa)) :=
  bif decide (x1.2 < ((v7.length : Nat) : Int)) then
    (Option.bind (atL v7 x1.2) fun v9 =>
    Option.bind (m_spec_EndOf a0 v9) fun v10 =>
    bif decide (v10 = a2) then
      (Option.bind (atL v7 x1.2) fun v12 =>
      bif decide (x1.1.length + 1 ≤ 4294967296) then
        (some (.inl ((x1.1 ++ [v12]), wr (x1.2 + 1))))
      else none)
    else
      (some (.inl (x1.1, wr (x1.2 + 1)))))
  else
    (some (.inr x1.1))

noncomputable def m_spec_PathsBetween (a0 : Qv) (a1 : Int) (a2 : Int) : Option ((List Pa) × Bool) :=
  Option.bind (m_spec_IsAcyclic a0) fun v1 =>
  bif !v1 then
    (some (([] : (List Pa)), false))
  else
    (Option.bind (m_spec_l1In a1 0 (wr (a0.n - 1))) fun v3 =>
    bif !v3 then
      (some (([] : (List Pa)), false))
    else
      (Option.bind (m_spec_l1In a2 0 (wr (a0.n - 1))) fun v5 =>
      bif !v5 then
        (some (([] : (List Pa)), false))
      else
        (Option.bind (m_spec_l7From 8 a0 a1) fun v7 =>
        Option.bind (Lp (m_spec_PathsBetween_L1 a0 a2 v7) (([] : (List Pa)), 0)) fun y14 =>
        some (y14, true))))

theorem c_spec_PathsBetween (a0 : Qv) (a1 : Int) (a2 : Int) (r : ((List Pa) × Bool)) (h : m_spec_PathsBetween a0 a1 a2 = some r) : HasE Try.prog 58 [.agg (eQ a0), .int a1, .int a2] [] 0 (.tuple [.own 0 0 r.1.length, .bl r.2]) [(0, ⟨2, List.map ePa r.1⟩)] := by
 refine hasE_mk TT_ok (rvs := [.tmp 6, .tmp 7]) (ns := [0, 1, 2, 3, 4, 5, 6]) Try.func58 k k Try.ntmps58 k k <| sQ <| rg <| ae (w_box k k k k) k <| aa k k <| aa k k <| an <| tn <| sQ <| rg ?_
 refine ae (w_lit TT_ok k k k k k k k k k k k k) k <| aa k k <| an <| tn <| ac_ent (t := mkS [(1, .int a1), (2, .int a2), (3, .ptr 0 0 0), (8, .own 1 0 (([] : (List Pa)).length))] [(0, ⟨3, [[.int a0.n, .list 1 (List.map eI a0.src), .list 1 (List.map eI a0.tgt)]]⟩), (1, ⟨2, List.map (ow ePa) ([] : (List Pa))⟩)] 2 [2, 3, 4, 5, 6] ⟨0, false, none, true⟩) (ent_mk (σ := sg [(0, 0), (1, 1)]) ⟨(e1 k k), (e1 k k), (pE k k), ⟨_, k, ⟨k, k, (by simp only [len_map, lA, lT, lR, lC, lN]), k⟩⟩, trivial⟩ (hP k k k k <| hB (okPa.plainO _) k k k <| trivial) k) <| sQ <| sQ <| rg <| ae (w_load_ptr TT_ok k k k k k k k) k ?_
 obtain ⟨v1, hv1, h⟩ := ob h
 refine ae (w_call0s (c_spec_IsAcyclic a0 v1 hv1) k (va_cons (va_agg' (v1_cons (v1_same k) (v1_cons (v1_same k) (v1_cons (v1_same k) v1_nil)))) va_nil)) k <| ae (w_not k) k <| am k k ?_
 rcases cb h with ⟨q2, h⟩ | ⟨q2, h⟩
 ·refine aops_lit 15 k q2 <| ak k k <| ak k k <| ak k k <| ak k k <| ak k k <| ak k k <| ae (eff_pick k k) k <| am k k <| ak k k ?_
  refine ak k k <| ak k k <| ak k k <| ak k k <| ak k k <| ae (eff_pick k k) k <| an <| tn <| ac_ent (t := mkS [(1, .int a1), (2, .int a2), (3, .ptr 0 0 0), (8, .own 1 0 (([] : (List Pa)).length)), (30, .bl true)] [(0, ⟨3, [[.int a0.n, .list 1 (List.map eI a0.src), .list 1 (List.map eI a0.tgt)]]⟩), (1, ⟨2, List.map (ow ePa) ([] : (List Pa))⟩)] 2 [2, 3, 4, 5, 6] ⟨0, false, none, true⟩) (ent_mk (σ := sg [(0, 0), (1, 1)]) ⟨(e1 k k), (e1 k k), (pE k k), (oE k k), (e1 k k), trivial⟩ (hP k k k k <| hB (okPa.plainO _) k k k <| trivial) k) <| ac_condT k k ?_
  refine sQ <| rg <| am k k <| aa k k <| aa k k <| an <| tn <| ac_ret <| then_ret ?_
  obtain rfl := so h
  exact ⟨mkS [(6, .own 0 0 (([] : (List Pa)).length)), (7, .bl false)] [(0, ⟨2, List.map ePa ([] : (List Pa))⟩)] 1 [1, 2, 3, 4, 5, 6] ⟨0, false, none, true⟩, (Ent.trans (ent_forget (b := 1) okPa k) (ent_mk (σ := sg [(0, 1)]) ⟨(oE k k), (e1 k k), trivial⟩ (hB (okPa.plainE _) k k k <| trivial) k)), k, ⟨_, k, .inr ⟨(by simp), k, k⟩⟩, ⟨k, trivial⟩⟩
 ·refine aops_lit 15 k q2 <| am k k <| ae (w_field_ptr TT_ok k k k k k k k) k <| ae (w_load_ptr TT_ok k k k k k k k) k <| ae (x_sub k k) k ?_
  obtain ⟨v3, hv3, h⟩ := ob h
  refine ae (w_call0s (c_spec_l1In a1 0 (wr (a0.n - 1)) v3 hv3) k (va_cons (va_same k) (va_cons (va_same k) (va_cons (va_same k) va_nil)))) k <| ae (w_not k) k <| ae (eff_pick k k) k <| am k k ?_
  rcases cb h with ⟨q4, h⟩ | ⟨q4, h⟩
  ·refine aops_lit 23 k q4 <| ak k k <| ak k k <| ak k k <| ak k k <| ak k k <| ak k k <| ae (eff_pick k k) k <| an <| tn ?_
   refine ac_ent (t := mkS [(1, .int a1), (2, .int a2), (3, .ptr 0 0 0), (8, .own 1 0 (([] : (List Pa)).length)), (30, .bl true)] [(0, ⟨3, [[.int a0.n, .list 1 (List.map eI a0.src), .list 1 (List.map eI a0.tgt)]]⟩), (1, ⟨2, List.map (ow ePa) ([] : (List Pa))⟩)] 2 [2, 3, 4, 5, 6] ⟨0, false, none, true⟩) (ent_mk (σ := sg [(0, 0), (1, 1)]) ⟨(e1 k k), (e1 k k), (pE k k), (oE k k), (e1 k k), trivial⟩ (hP k k k k <| hB (okPa.plainO _) k k k <| trivial) k) <| ac_condT k k <| sQ <| rg <| am k k <| aa k k <| aa k k <| an <| tn <| ac_ret ?_
   refine then_ret ?_
   obtain rfl := so h
   exact ⟨mkS [(6, .own 0 0 (([] : (List Pa)).length)), (7, .bl false)] [(0, ⟨2, List.map ePa ([] : (List Pa))⟩)] 1 [1, 2, 3, 4, 5, 6] ⟨0, false, none, true⟩, (Ent.trans (ent_forget (b := 1) okPa k) (ent_mk (σ := sg [(0, 1)]) ⟨(oE k k), (e1 k k), trivial⟩ (hB (okPa.plainE _) k k k <| trivial) k)), k, ⟨_, k, .inr ⟨(by simp), k, k⟩⟩, ⟨k, trivial⟩⟩
  ·refine aops_lit 23 k q4 <| am k k <| ae (w_field_ptr TT_ok k k k k k k k) k <| ae (w_load_ptr TT_ok k k k k k k k) k <| ae (x_sub k k) k ?_
   obtain ⟨v5, hv5, h⟩ := ob h
   refine ae (w_call0s (c_spec_l1In a2 0 (wr (a0.n - 1)) v5 hv5) k (va_cons (va_same k) (va_cons (va_same k) (va_cons (va_same k) va_nil)))) k <| ae (w_not k) k <| ae (eff_pick k k) k <| an <| tn <| ac_ent (t := mkS [(1, .int a1), (2, .int a2), (3, .ptr 0 0 0), (8, .own 1 0 (([] : (List Pa)).length)), (30, .bl (!v5))] [(0, ⟨3, [[.int a0.n, .list 1 (List.map eI a0.src), .list 1 (List.map eI a0.tgt)]]⟩), (1, ⟨2, List.map (ow ePa) ([] : (List Pa))⟩)] 2 [2, 3, 4, 5, 6] ⟨0, false, none, true⟩) (ent_mk (σ := sg [(0, 0), (1, 1)]) ⟨(e1 k k), (e1 k k), (pE k k), (oE k k), (e1 k k), trivial⟩ (hP k k k k <| hB (okPa.plainO _) k k k <| trivial) k) ?_
   rcases cb h with ⟨q6, h⟩ | ⟨q6, h⟩
   ·refine ac_condT k q6 <| sQ <| rg <| am k k <| aa k k <| aa k k <| an <| tn <| ac_ret <| then_ret ?_
    obtain rfl := so h
    exact ⟨mkS [(6, .own 0 0 (([] : (List Pa)).length)), (7, .bl false)] [(0, ⟨2, List.map ePa ([] : (List Pa))⟩)] 1 [1, 2, 3, 4, 5, 6] ⟨0, false, none, true⟩, (Ent.trans (ent_forget (b := 1) okPa k) (ent_mk (σ := sg [(0, 1)]) ⟨(oE k k), (e1 k k), trivial⟩ (hB (okPa.plainE _) k k k <| trivial) k)), k, ⟨_, k, .inr ⟨(by simp), k, k⟩⟩, ⟨k, trivial⟩⟩
   ·refine ac_condF k q6 <| ac_skip <| tn <| sQ <| rg <| ae (w_load_ptr TT_ok k k k k k k k) k <| am k k ?_
    obtain ⟨v7, hv7, h⟩ := ob h
    refine ae (AEff.conv (w_call0 (x := .own 2 0 (List.map ePa v7).length) (nb := [(2, ⟨2, absEs (List.map ePa v7)⟩)]) (c_spec_l7From 8 a0 a1 v7 hv7) k (by rfl) k k (okPa.good _) (va_cons (va_agg' (v1_cons (v1_same k) (v1_cons (v1_same k) (v1_cons (v1_same k) v1_nil)))) (va_cons (va_same k) va_nil))) (v' := .own 2 0 v7.length) (ed' := [(2, some ⟨2, List.map (ow ePa) v7⟩)]) (by simp only [len_map]) (ed_ok (nb' := [(2, ⟨2, List.map (ow ePa) v7⟩)]) (by simp only [abs_map]))) k <| aa k k <| an <| tn <| sQ <| sQ <| rg <| aa k k <| an <| tn ?_
    refine ac_block ?_
    obtain ⟨y14, hy14, h⟩ := ob h
    refine ac_Lp (body := (m_spec_PathsBetween_L1 a0 a2 v7)) hy14 (fun (x1 : ((List Pa) × Int)) => mkS [(2, .int a2), (3, .ptr 0 0 0), (8, .own 1 0 x1.1.length), (9, .own 2 0 v7.length), (10, .int x1.2)] [(0, ⟨3, [[.int a0.n, .list 1 (List.map eI a0.src), .list 1 (List.map eI a0.tgt)]]⟩), (1, ⟨2, List.map ePa x1.1⟩), (2, ⟨2, List.map (ow ePa) v7⟩)] 3 [3, 4, 5, 6] ⟨0, false, none, true⟩) (fun r e t => e = .exit 0 ∧ Ent t (mkS [(8, .own 0 0 r.length)] [(0, ⟨2, List.map ePa r⟩)] 1 [1, 2, 3, 4, 5, 6] ⟨0, false, none, true⟩)) (ent_mk (σ := sg [(0, 0), (1, 1), (2, 2)]) ⟨(e1 k k), (pE k k), (oE k k), (oE k k), (e1 k k), trivial⟩ (hP k k k k <| hB (okPa.plainE _) k k k <| hB (okPa.plainO _) k k k <| trivial) k) ?_ ?_
    ·intro x1 o h
     refine sQ <| sQ <| rg <| am k k <| am k k <| ae (w_len_own TT_ok k k k k) k <| ae (w_cmp k k k) k <| an <| tn ?_
     rcases cb h with ⟨q8, h⟩ | ⟨q8, h⟩
     ·refine ac_condT k q8 <| ac_skip <| tn <| sQ <| ac_block <| sQ <| ac_region_draw MIXX <| ae (w_load_ptr TT_ok k k k k k k k) k <| am k k <| am k k ?_
      obtain ⟨v9, hv9, h⟩ := ob h
      refine ae (x_at_own TT_ok (atL_nn hv9) (atL_lt hv9) k k k k k k k) k <| ae (w_load_ptr TT_ok k k k k (map_at (atL_get hv9)) k k) k ?_
      obtain ⟨v10, hv10, h⟩ := ob h
      refine ae (w_call0s (c_spec_EndOf a0 v9 v10 hv10) k (va_cons (va_agg' (v1_cons (v1_same k) (v1_cons (v1_same k) (v1_cons (v1_same k) v1_nil)))) (va_cons (va_agg' (v1_cons (v1_same k) (v1_cons (v1_same k) v1_nil))) va_nil))) k <| am k k <| ae (w_cmp k k k) k <| an ?_
      refine ⟨by kernel_rfl, ?_⟩
      refine tn <| ac_ent (t := mkS [(2, .int a2), (3, .ptr 0 0 0), (8, .own 1 0 x1.1.length), (9, .own 2 0 v7.length), (10, .int x1.2), (48, .bl (decide (v10 = a2)))] [(0, ⟨3, [[.int a0.n, .list 1 (List.map eI a0.src), .list 1 (List.map eI a0.tgt)]]⟩), (1, ⟨2, List.map ePa x1.1⟩), (2, ⟨2, List.map (ow ePa) v7⟩)] 3 [3, 4, 5, 6] ⟨0, false, none, true⟩) (ent_mk (σ := sg [(0, 0), (1, 1), (2, 2)]) ⟨(e1 k k), (pE k k), (oE k k), (oE k k), (e1 k k), (e1 k k), trivial⟩ (hP k k k k <| hB (okPa.plainE _) k k k <| hB (okPa.plainO _) k k k <| trivial) k) ?_
      rcases cb h with ⟨q11, h⟩ | ⟨q11, h⟩
      ·refine ac_condT k q11 <| rg <| am k k <| am k k <| am k k ?_
       obtain ⟨v12, hv12, h⟩ := ob h
       refine ae (x_at_own TT_ok (atL_nn hv12) (atL_lt hv12) k k k k k k k) k <| ae (w_load_ptr TT_ok k k k k (map_at (atL_get hv12)) k k) k <| ae (w_lit TT_ok k k k k k k k k k k k k) k ?_
       obtain ⟨q13, h⟩ := cg h
       refine ae (AEff.conv (x_app1 TT_ok (e := ePa) (l := x1.1) (c := [.int v12.start, .list 1 (List.map eI v12.arrows)]) q13 k k k k k k k k k k k k k k) (v' := .own 4 0 (x1.1 ++ [v12]).length) (ed' := [(1, none), (4, some ⟨2, List.map ePa (x1.1 ++ [v12])⟩)]) (by simp only [List.length_append, List.length_cons, List.length_nil]) (by rw [show List.map ePa (x1.1 ++ [v12]) = List.map ePa x1.1 ++ [[.int v12.start, .list 1 (List.map eI v12.arrows)]] from List.map_append])) k <| aa k k <| an <| block_n <| tn <| rg <| am k k <| ae (x_add k k) k <| aa k k <| an ?_
       refine tn ?_
       obtain rfl := so h
       exact ⟨_, k, (ent_mk (σ := sg [(0, 0), (1, 4), (2, 2)]) ⟨(e1 k k), (pE k k), (oE k k), (oE k k), (e1 k k), trivial⟩ (hP k k k k <| hB (okPa.plainE _) k k k <| hB (okPa.plainO _) k k k <| trivial) k)⟩
      ·refine ac_condF k q11 <| ac_skip <| block_n <| tn <| rg <| am k k <| ae (x_add k k) k <| aa k k <| an <| tn ?_
       obtain rfl := so h
       exact ⟨_, k, (ent_mk (σ := sg [(0, 0), (1, 1), (2, 2)]) ⟨(e1 k k), (pE k k), (oE k k), (oE k k), (e1 k k), trivial⟩ (hP k k k k <| hB (okPa.plainE _) k k k <| hB (okPa.plainO _) k k k <| trivial) k)⟩
     ·refine ac_condF k q8 <| ac_exit <| then_exit <| then_exit ?_
      obtain rfl := so h
      exact ⟨_, k, k, (ent_mk (σ := sg [(0, 1)]) ⟨(oE k k), trivial⟩ (hB (okPa.plainE _) k k k <| trivial) k)⟩
    ·rintro e t ⟨rfl, hent⟩
     refine block_here <| tn <| ac_ent hent <| sQ <| rg <| am k k <| aa k k <| aa k k <| an <| tn ?_
     refine ac_ret ?_
     obtain rfl := so h
     exact ⟨mkS [(6, .own 0 0 y14.length), (7, .bl true)] [(0, ⟨2, List.map ePa y14⟩)] 1 [1, 2, 3, 4, 5, 6] ⟨0, false, none, true⟩, (ent_mk (σ := sg [(0, 0)]) ⟨(oE k k), (e1 k k), trivial⟩ (hB (okPa.plainE _) k k k <| trivial) k), k, ⟨_, k, .inr ⟨(by simp), k, k⟩⟩, ⟨k, trivial⟩⟩

noncomputable def m_spec_CountPaths (a0 : Qv) (a1 : Int) (a2 : Int) : Option Int :=
  Option.bind (m_spec_PathsBetween a0 a1 a2) fun v1 =>
  bif !v1.2 then
    (some ((-1)))
  else
    (some (((v1.1.length : Nat) : Int)))

theorem c_spec_CountPaths (a0 : Qv) (a1 : Int) (a2 : Int) (r : Int) (h : m_spec_CountPaths a0 a1 a2 = some r) : HasC Try.prog 37 [.agg (eQ a0), .int a1, .int a2] (.int r) := by
 refine hasC_mk TT_ok (rvs := [.tmp 6]) (ns := [0, 1, 2, 3]) Try.func37 k k Try.ntmps37 k k k <| sQ <| rg <| ae (w_box k k k k) k <| aa k k <| an <| tn <| sQ <| rg <| ae (w_load_ptr TT_ok k k k k k k k) k ?_
 refine am k k <| am k k ?_
 obtain ⟨v1, hv1, h⟩ := ob h
 refine ae (eff_hasD (σ := sg []) (σ' := sg [(1, 0)]) (touch := []) (news := [1]) (hl2 := [(1, ⟨2, List.map ePa v1.1⟩)]) (n' := 2) (r2 := .tuple [.own 1 0 v1.1.length, .bl v1.2]) (c_spec_PathsBetween a0 a1 a2 v1 hv1) k k ⟨_, _, k, (.inl ⟨_, _, k, k, ⟨_, _, k, ⟨k, k⟩, ⟨_, _, k, ⟨k, k⟩, k⟩⟩⟩), ⟨_, _, k, (.inl k), ⟨_, _, k, (.inl k), k⟩⟩⟩ trivial k k k ⟨⟨_, k, k, .inl ⟨k, okPa.plainE _⟩⟩, k, trivial⟩ k (.inr ⟨_, _, k, k, ⟨_, _, k, ⟨k, k, (by simp only [len_map, lA, lT, lR, lC, lN]), k⟩, ⟨_, _, k, k, k⟩⟩⟩) k ⟨k, okPa.tamdE _ _, trivial⟩ k k) k <| am k k <| ae (eff_extract k k (by intro _ h; cases h)) k <| ae (eff_extract k k (by intro _ h; cases h)) k <| aa k k <| aa k k <| an <| tn <| sQ <| sQ ?_
 refine rg <| am k k <| ae (w_not k) k <| an <| tn <| ac_ent (t := mkS [(7, .own 1 0 v1.1.length), (17, .bl (!v1.2))] [(1, ⟨2, List.map ePa v1.1⟩)] 2 [2, 3]) (ent_mk (σ := sg [(1, 1)]) ⟨(oE k k), (e1 k k), trivial⟩ (hB (okPa.plainE _) k k k <| trivial) k) ?_
 rcases cb h with ⟨q2, h⟩ | ⟨q2, h⟩
 ·refine ac_condT k q2 <| sQ <| rg <| aa k k <| an <| tn <| ac_ret <| then_ret ?_
  obtain rfl := so h
  exact ret_mk k k k (fz_int k)
 ·refine ac_condF k q2 <| ac_skip <| tn <| sQ <| rg <| am k k <| ae (w_len_own TT_ok k k k k) k <| aa k k <| an <| tn ?_
  refine ac_ret ?_
  obtain rfl := so h
  exact ret_mk k k k (fz_int k)

noncomputable def m_spec_ProjectiveDims_L1 (a0 : Qv) (a1 : Int) (x1 : ((List Int) × Int)) : Option (((List Int) × Int) ⊕ (List Int)) :=
  bif decide (x1.2 < a0.n) then
    (Option.bind (m_spec_IsAcyclic a0) fun v2 =>
    bif v2 then
      (Option.bind (m_spec_l1In a1 0 (wr (a0.n - 1))) fun v4 =>
      bif v4 then
        (Option.bind (m_spec_CountPaths a0 a1 x1.2) fun v6 =>
        bif decide (x1.1.length + [v6].length ≤ 4294967296) then
          (some (.inl ((x1.1 ++ [v6]), wr (x1.2 + 1))))
        else none)
      else
        (some (.inr x1.1)))
    else
      (some (.inr x1.1)))
  else
    (some (.inr x1.1))

noncomputable def m_spec_ProjectiveDims (a0 : Qv) (a1 : Int) : Option (List Int) :=
  Option.bind (Lp (m_spec_ProjectiveDims_L1 a0 a1) (([] : (List Int)), 0)) fun y8 =>
  some (y8)

theorem c_spec_ProjectiveDims (a0 : Qv) (a1 : Int) (r : (List Int)) (h : m_spec_ProjectiveDims a0 a1 = some r) : HasC Try.prog 23 [.agg (eQ a0), .int a1] (.list 1 (List.map eI r)) := by
 refine hasC_mk TT_ok (rvs := [.tmp 4]) (ns := [0, 1, 2, 3, 4, 5]) Try.func23 k k Try.ntmps23 k k k <| sQ <| rg <| ae (w_box k k k k) k <| aa k k <| an <| tn <| sQ <| rg <| ae (w_lit TT_ok k k k k k k k k k k k k) k ?_
 refine aa k k <| an <| tn <| ac_ent (t := mkS [(1, .int a1), (2, .ptr 0 0 0), (5, .own 1 0 (([] : (List Int)).length))] [(0, ⟨3, [[.int a0.n, .list 1 (List.map eI a0.src), .list 1 (List.map eI a0.tgt)]]⟩), (1, ⟨1, List.map (ow eI) ([] : (List Int))⟩)] 2 [2, 3, 4, 5]) (ent_mk (σ := sg [(0, 0), (1, 1)]) ⟨(e1 k k), (pE k k), ⟨_, k, ⟨k, k, (by simp only [len_map, lA, lT, lR, lC, lN]), k⟩⟩, trivial⟩ (hP k k k k <| hI k k k <| trivial) k) <| sQ <| sQ <| rg <| aa k k <| an <| tn ?_
 refine ac_block ?_
 obtain ⟨y8, hy8, h⟩ := ob h
 refine ac_Lp (body := (m_spec_ProjectiveDims_L1 a0 a1)) hy8 (fun (x1 : ((List Int) × Int)) => mkS [(1, .int a1), (2, .ptr 0 0 0), (5, .own 1 0 x1.1.length), (6, .int x1.2)] [(0, ⟨3, [[.int a0.n, .list 1 (List.map eI a0.src), .list 1 (List.map eI a0.tgt)]]⟩), (1, ⟨1, List.map (ow eI) x1.1⟩)] 2 [2, 3, 4, 5]) (fun r e t => e = .exit 0 ∧ Ent t (mkS [(5, .own 0 0 r.length)] [(0, ⟨1, List.map (ow eI) r⟩)] 1 [1, 2, 3, 4, 5])) (ent_mk (σ := sg [(0, 0), (1, 1)]) ⟨(e1 k k), (pE k k), (oE k k), (e1 k k), trivial⟩ (hP k k k k <| hI k k k <| trivial) k) ?_ ?_
 ·intro x1 o h
  refine sQ <| sQ <| rg <| am k k <| ae (w_field_ptr TT_ok k k k k k k k) k <| ae (w_load_ptr TT_ok k k k k k k k) k <| ae (w_cmp k k k) k <| am k k ?_
  rcases cb h with ⟨q1, h⟩ | ⟨q1, h⟩
  ·refine aops_lit 12 k q1 <| ae (w_load_ptr TT_ok k k k k k k k) k ?_
   obtain ⟨v2, hv2, h⟩ := ob h
   refine ae (w_call0s (c_spec_IsAcyclic a0 v2 hv2) k (va_cons (va_agg' (v1_cons (v1_same k) (v1_cons (v1_same k) (v1_cons (v1_same k) v1_nil)))) va_nil)) k <| ae (eff_pick k k) k <| am k k ?_
   rcases cb h with ⟨q3, h⟩ | ⟨q3, h⟩
   ·refine aops_lit 16 k q3 <| am k k <| ae (w_field_ptr TT_ok k k k k k k k) k <| ae (w_load_ptr TT_ok k k k k k k k) k <| ae (x_sub k k) k ?_
    obtain ⟨v4, hv4, h⟩ := ob h
    refine ae (w_call0s (c_spec_l1In a1 0 (wr (a0.n - 1)) v4 hv4) k (va_cons (va_same k) (va_cons (va_same k) (va_cons (va_same k) va_nil)))) k <| ae (eff_pick k k) k <| an <| tn <| ac_ent (t := mkS [(1, .int a1), (2, .ptr 0 0 0), (5, .own 1 0 x1.1.length), (6, .int x1.2), (22, .bl v4)] [(0, ⟨3, [[.int a0.n, .list 1 (List.map eI a0.src), .list 1 (List.map eI a0.tgt)]]⟩), (1, ⟨1, List.map (ow eI) x1.1⟩)] 2 [2, 3, 4, 5]) (ent_mk (σ := sg [(0, 0), (1, 1)]) ⟨(e1 k k), (pE k k), (oE k k), (e1 k k), (e1 k k), trivial⟩ (hP k k k k <| hI k k k <| trivial) k) ?_
    rcases cb h with ⟨q5, h⟩ | ⟨q5, h⟩
    ·refine ac_condT k q5 <| ac_skip <| tn <| sQ <| ac_block <| rg <| am k k <| ae (w_load_ptr TT_ok k k k k k k k) k <| am k k <| am k k ?_
     obtain ⟨v6, hv6, h⟩ := ob h
     refine ae (w_call0s (c_spec_CountPaths a0 a1 x1.2 v6 hv6) k (va_cons (va_agg' (v1_cons (v1_same k) (v1_cons (v1_same k) (v1_cons (v1_same k) v1_nil)))) (va_cons (va_same k) (va_cons (va_same k) va_nil)))) k <| ae (w_lit TT_ok k k k k k k k k k k k k) k ?_
     obtain ⟨q7, h⟩ := cg h
     refine ae (x_app TT_ok (l := x1.1) (m := [v6]) okIo q7 k k k k k k k k k k k k) k <| aa k k <| an <| block_n <| tn <| rg <| am k k <| ae (x_add k k) k <| aa k k <| an ?_
     refine tn ?_
     obtain rfl := so h
     exact ⟨_, k, (ent_mk (σ := sg [(0, 0), (1, 3)]) ⟨(e1 k k), (pE k k), (oE k k), (e1 k k), trivial⟩ (hP k k k k <| hI k k k <| trivial) k)⟩
    ·refine ac_condF k q5 <| ac_exit <| then_exit <| then_exit ?_
     obtain rfl := so h
     exact ⟨_, k, k, (ent_mk (σ := sg [(0, 1)]) ⟨(oE k k), trivial⟩ (hI k k k <| trivial) k)⟩
   ·refine aops_lit 16 k q3 <| ak k k <| ak k k <| ak k k <| ak k k <| ak k k <| ae (eff_pick k k) k <| an <| tn <| ac_ent (t := mkS [(1, .int a1), (2, .ptr 0 0 0), (5, .own 1 0 x1.1.length), (6, .int x1.2), (22, .bl false)] [(0, ⟨3, [[.int a0.n, .list 1 (List.map eI a0.src), .list 1 (List.map eI a0.tgt)]]⟩), (1, ⟨1, List.map (ow eI) x1.1⟩)] 2 [2, 3, 4, 5]) (ent_mk (σ := sg [(0, 0), (1, 1)]) ⟨(e1 k k), (pE k k), (oE k k), (e1 k k), (e1 k k), trivial⟩ (hP k k k k <| hI k k k <| trivial) k) ?_
    refine ac_condF k k <| ac_exit <| then_exit <| then_exit ?_
    obtain rfl := so h
    exact ⟨_, k, k, (ent_mk (σ := sg [(0, 1)]) ⟨(oE k k), trivial⟩ (hI k k k <| trivial) k)⟩
  ·refine aops_lit 12 k q1 <| ak k k <| ak k k <| ae (eff_pick k k) k <| am k k <| ak k k <| ak k k <| ak k k <| ak k k <| ak k k ?_
   refine ae (eff_pick k k) k <| an <| tn <| ac_ent (t := mkS [(1, .int a1), (2, .ptr 0 0 0), (5, .own 1 0 x1.1.length), (6, .int x1.2), (22, .bl false)] [(0, ⟨3, [[.int a0.n, .list 1 (List.map eI a0.src), .list 1 (List.map eI a0.tgt)]]⟩), (1, ⟨1, List.map (ow eI) x1.1⟩)] 2 [2, 3, 4, 5]) (ent_mk (σ := sg [(0, 0), (1, 1)]) ⟨(e1 k k), (pE k k), (oE k k), (e1 k k), (e1 k k), trivial⟩ (hP k k k k <| hI k k k <| trivial) k) <| ac_condF k k <| ac_exit <| then_exit <| then_exit ?_
   obtain rfl := so h
   exact ⟨_, k, k, (ent_mk (σ := sg [(0, 1)]) ⟨(oE k k), trivial⟩ (hI k k k <| trivial) k)⟩
 ·rintro e t ⟨rfl, hent⟩
  refine block_here <| tn <| ac_ent hent <| sQ <| rg <| am k k <| aa k k <| an <| tn <| ac_ret ?_
  obtain rfl := so h
  exact ret_mk k k k (xz_list (x_f1 okI k k))

noncomputable def m_spec_l27Positive_L1 (a0 : (List Int)) (x1 : (Bool × Int)) : Option ((Bool × Int) ⊕ (Bool ⊕ Bool)) :=
  bif decide (x1.2 < (a0.length : Int)) then
    (Option.bind (atL a0 x1.2) fun v2 =>
    bif decide (v2 < 0) then
      (some (.inr (.inr (false))))
    else
      (bif x1.1 then
        (some (.inl (true, wr (x1.2 + 1))))
      else
        (Option.bind (atL a0 x1.2) fun v5 =>
        some (.inl (decide (0 < v5), wr (x1.2 + 1))))))
  else
    (some (.inr (.inl x1.1)))

noncomputable def m_spec_l27Positive (a0 : (List Int)) : Option Bool :=
  Option.bind (Lp (m_spec_l27Positive_L1 a0) (false, 0)) fun y6 =>
  Sum.elim (fun y7 =>
    some (y7)
  ) 
  (fun y8 =>
    some y8
  )
   y6

theorem c_spec_l27Positive (a0 : (List Int)) (r : Bool) (h : m_spec_l27Positive a0 = some r) : HasC Try.prog 24 [.list 1 (List.map eI a0)] (.bl r) := by
 refine hasC_mk TT_ok (rvs := [.tmp 2]) (ns := [0, 1]) Try.func24 k k Try.ntmps24 k k k <| sQ <| rg <| aa k k <| an <| tn <| sQ <| rg <| aa k k <| an ?_
 refine tn <| sQ <| sQ <| rg <| aa k k <| an <| tn <| ac_block ?_
 obtain ⟨y6, hy6, h⟩ := ob h
 refine ac_Lp (body := (m_spec_l27Positive_L1 a0)) hy6 (fun (x1 : (Bool × Int)) => mkS [(0, .list 1 (List.map eI a0)), (3, .bl x1.1), (4, .int x1.2)] [] 0 [0, 1]) (fun r e t => Sum.elim (fun a => (fun r e t => e = .exit 0 ∧ Ent t (mkS [(3, .bl r)] [] 0 [0, 1])) a e t) (fun b => (fun r e t => e = .ret ∧ RetQ TT [.tmp 2] (.bl r) .ret t) b e t) r) (ent_mk (σ := sg []) ⟨⟨_, k, ⟨k, k⟩⟩, (e1 k k), (e1 k k), trivial⟩ trivial k) ?_ ?_
 ·intro x1 o h
  refine sQ <| sQ <| rg <| am k k <| am k k <| ae (lenL TT_ok k k k) k <| ae (w_cmp k k k) k <| an <| tn ?_
  rcases cb h with ⟨q1, h⟩ | ⟨q1, h⟩
  ·refine ac_condT k q1 <| ac_skip <| tn <| sQ <| ac_block <| sQ <| sQ <| rg <| am k k <| am k k ?_
   obtain ⟨v2, hv2, h⟩ := ob h
   refine ae (x_at_list TT_ok hv2 k k k k k k) k <| ae (w_load_ref TT_ok k k k k k k) k <| ae (w_cmp k k k) k <| an <| tn ?_
   rcases cb h with ⟨q3, h⟩ | ⟨q3, h⟩
   ·refine ac_condT k q3 <| sQ <| rg <| aa k k <| an <| tn <| ac_ret <| then_ret <| block_ret <| then_ret ?_
    refine then_ret ?_
    obtain rfl := so h
    exact ⟨_, k, k, ret_mk k k k (fz_bl k)⟩
   ·refine ac_condF k q3 <| ac_skip <| tn <| rg <| am k k <| am k k ?_
    rcases cb h with ⟨q4, h⟩ | ⟨q4, h⟩
    ·refine aops_lit 17 k q4 <| ak k k <| ak k k <| ak k k <| ak k k <| ak k k <| ae (eff_pick k k) k <| aa k k <| an <| block_n ?_
     refine tn <| ac_ent (t := mkS [(0, .list 1 (List.map eI a0)), (3, .bl true), (4, .int x1.2)] [] 0 [0, 1]) (ent_mk (σ := sg []) ⟨⟨_, k, ⟨k, k⟩⟩, (e1 k k), (e1 k k), trivial⟩ trivial k) <| rg <| am k k <| ae (x_add k k) k <| aa k k <| an <| tn ?_
     obtain rfl := so h
     exact ⟨_, k, (ent_mk (σ := sg []) ⟨⟨_, k, ⟨k, k⟩⟩, (e1 k k), (e1 k k), trivial⟩ trivial k)⟩
    ·refine aops_lit 17 k q4 <| am k k <| am k k ?_
     obtain ⟨v5, hv5, h⟩ := ob h
     refine ae (x_at_list TT_ok hv5 k k k k k k) k <| ae (w_load_ref TT_ok k k k k k k) k <| ae (w_cmp k k k) k <| ae (eff_pick k k) k <| aa k k <| an <| block_n <| tn <| ac_ent (t := mkS [(0, .list 1 (List.map eI a0)), (3, .bl (decide (0 < v5))), (4, .int x1.2)] [] 0 [0, 1]) (ent_mk (σ := sg []) ⟨⟨_, k, ⟨k, k⟩⟩, (e1 k k), (e1 k k), trivial⟩ trivial k) <| rg ?_
     refine am k k <| ae (x_add k k) k <| aa k k <| an <| tn ?_
     obtain rfl := so h
     exact ⟨_, k, (ent_mk (σ := sg []) ⟨⟨_, k, ⟨k, k⟩⟩, (e1 k k), (e1 k k), trivial⟩ trivial k)⟩
  ·refine ac_condF k q1 <| ac_exit <| then_exit <| then_exit ?_
   obtain rfl := so h
   exact ⟨_, k, k, (ent_mk (σ := sg []) ⟨(e1 k k), trivial⟩ trivial k)⟩
 ·intro e t hX
  rcases y6 with y7 | y8
  ·obtain ⟨rfl, hent⟩ := hX
   refine block_here <| tn <| ac_ent hent <| sQ <| rg <| am k k <| aa k k <| an <| tn <| ac_ret ?_
   obtain rfl := so h
   exact ret_mk k k k (fz_bl k)
  ·obtain ⟨rfl, hent⟩ := hX
   refine block_ret <| then_ret ?_
   obtain rfl := so h
   exact hent

noncomputable def m_spec_KnitRow_L1 (a0 : Qv) (x1 : ((List (List Int)) × (List Int) × Int)) : Option (((List (List Int)) × (List Int) × Int) ⊕ (List (List Int))) :=
  bif decide (x1.2.2 < 40) then
    (Option.bind (m_spec_l27Positive x1.2.1) fun v7 =>
    bif v7 then
      (bif decide (x1.1.length + 1 ≤ 4294967296) then
        (Option.bind (m_spec_CoxeterPower a0 x1.2.1 (-1)) fun v10 =>
        some (.inl ((x1.1 ++ [x1.2.1]), v10.1, wr (x1.2.2 + 1))))
      else none)
    else
      (some (.inr x1.1)))
  else
    (some (.inr x1.1))

noncomputable def m_spec_KnitRow (a0 : Qv) (a1 : Int) : Option ((List (List Int)) × Bool) :=
  Option.bind (m_spec_KindOfQuiver a0) fun v1 =>
  bif !decide (v1 = 1) then
    (some ((([] : (List (List Int))), false)))
  else
    (Option.bind (m_spec_l1In a1 0 (wr (a0.n - 1))) fun v3 =>
    bif !v3 then
      (some ((([] : (List (List Int))), false)))
    else
      (Option.bind (m_spec_ProjectiveDims a0 a1) fun v5 =>
      Option.bind (Lp (m_spec_KnitRow_L1 a0) (([] : (List (List Int))), v5, 0)) fun y11 =>
      some ((y11, true))))

theorem c_spec_KnitRow (a0 : Qv) (a1 : Int) (r : ((List (List Int)) × Bool)) (h : m_spec_KnitRow a0 a1 = some r) : HasC Try.prog 11 [.agg (eQ a0), .int a1] (.tuple [.list 1 (List.map (eLs 1 eI) r.1), .bl r.2]) := by
 refine hasC_mk TT_ok (rvs := [.tmp 4, .tmp 5]) (ns := [0, 1, 2, 3, 4, 5, 6, 7]) Try.func11 k k Try.ntmps11 k k k <| sQ <| rg <| ae (w_box k k k k) k <| aa k k <| aa k k <| an <| tn <| sQ <| rg ?_
 refine ae (w_lit TT_ok k k k k k k k k k k k k) k <| aa k k <| an <| tn <| ac_ent (t := mkS [(1, .int a1), (2, .ptr 0 0 0), (6, .own 1 0 (([] : (List (List Int))).length))] [(0, ⟨3, [[.int a0.n, .list 1 (List.map eI a0.src), .list 1 (List.map eI a0.tgt)]]⟩), (1, ⟨1, List.map (ow (eLs 1 eI)) ([] : (List (List Int)))⟩)] 2 [2, 3, 4, 5, 6, 7]) (ent_mk (σ := sg [(0, 0), (1, 1)]) ⟨(e1 k k), (pE k k), ⟨_, k, ⟨k, k, (by simp only [len_map, lA, lT, lR, lC, lN]), k⟩⟩, trivial⟩ (hP k k k k <| hB (okLs.plainO _) k k k <| trivial) k) <| sQ <| sQ <| rg <| ae (w_load_ptr TT_ok k k k k k k k) k ?_
 obtain ⟨v1, hv1, h⟩ := ob h
 refine ae (w_call0s (c_spec_KindOfQuiver a0 v1 hv1) k (va_cons (va_agg' (v1_cons (v1_same k) (v1_cons (v1_same k) (v1_cons (v1_same k) v1_nil)))) va_nil)) k <| ae (w_cmp k k k) k <| am k k ?_
 rcases cb h with ⟨q2, h⟩ | ⟨q2, h⟩
 ·refine aops_lit 13 k q2 <| ak k k <| ak k k <| ak k k <| ak k k <| ak k k <| ak k k <| ae (eff_pick k k) k <| an <| tn ?_
  refine ac_condT k k <| sQ <| rg <| am k k <| aa k k <| aa k k <| an <| tn <| ac_ent (t := mkS [(4, .own 1 0 (([] : (List (List Int))).length)), (5, .bl false)] [(1, ⟨1, List.map (ow (eLs 1 eI)) ([] : (List (List Int)))⟩)] 2 [2, 3, 4, 5, 6, 7]) (ent_mk (σ := sg [(1, 1)]) ⟨(oE k k), (e1 k k), trivial⟩ (hB (okLs.plainO _) k k k <| trivial) k) <| ac_ret ?_
  refine then_ret ?_
  obtain rfl := so h
  exact ret_mk k k k (xz_tuple k (xB_cons (xB_one (x_f1 okLs k k)) (xB_cons (k) xB_nil)))
 ·refine aops_lit 13 k q2 <| am k k <| ae (w_field_ptr TT_ok k k k k k k k) k <| ae (w_load_ptr TT_ok k k k k k k k) k <| ae (x_sub k k) k ?_
  obtain ⟨v3, hv3, h⟩ := ob h
  refine ae (w_call0s (c_spec_l1In a1 0 (wr (a0.n - 1)) v3 hv3) k (va_cons (va_same k) (va_cons (va_same k) (va_cons (va_same k) va_nil)))) k <| ae (w_not k) k <| ae (eff_pick k k) k <| an <| tn ?_
  rcases cb h with ⟨q4, h⟩ | ⟨q4, h⟩
  ·refine ac_condT k q4 <| sQ <| rg <| am k k <| aa k k <| aa k k <| an <| tn <| ac_ent (t := mkS [(4, .own 1 0 (([] : (List (List Int))).length)), (5, .bl false)] [(1, ⟨1, List.map (ow (eLs 1 eI)) ([] : (List (List Int)))⟩)] 2 [2, 3, 4, 5, 6, 7]) (ent_mk (σ := sg [(1, 1)]) ⟨(oE k k), (e1 k k), trivial⟩ (hB (okLs.plainO _) k k k <| trivial) k) <| ac_ret ?_
   refine then_ret ?_
   obtain rfl := so h
   exact ret_mk k k k (xz_tuple k (xB_cons (xB_one (x_f1 okLs k k)) (xB_cons (k) xB_nil)))
  ·refine ac_condF k q4 <| ac_skip <| tn <| sQ <| rg <| ae (w_load_ptr TT_ok k k k k k k k) k <| am k k ?_
   obtain ⟨v5, hv5, h⟩ := ob h
   refine ae (AEff.conv (w_call0 (x := .own 2 0 (List.map eI v5).length) (nb := [(2, ⟨1, absEs (List.map eI v5)⟩)]) (c_spec_ProjectiveDims a0 a1 v5 hv5) k (by rfl) k k (okI.good _) (va_cons (va_agg' (v1_cons (v1_same k) (v1_cons (v1_same k) (v1_cons (v1_same k) v1_nil)))) (va_cons (va_same k) va_nil))) (v' := .own 2 0 v5.length) (ed' := [(2, some ⟨1, List.map (ow eI) v5⟩)]) (by simp only [len_map]) (ed_ok (nb' := [(2, ⟨1, List.map (ow eI) v5⟩)]) (by simp only [abs_map]))) k <| aa k k <| an <| tn <| ac_ent (t := mkS [(2, .ptr 0 0 0), (6, .own 1 0 (([] : (List (List Int))).length)), (7, .own 2 0 v5.length)] [(0, ⟨3, [[.int a0.n, .list 1 (List.map eI a0.src), .list 1 (List.map eI a0.tgt)]]⟩), (1, ⟨1, List.map (ow (eLs 1 eI)) ([] : (List (List Int)))⟩), (2, ⟨1, List.map (ow eI) v5⟩)] 3 [3, 4, 5, 6, 7]) (ent_mk (σ := sg [(0, 0), (1, 1), (2, 2)]) ⟨(pE k k), (oE k k), (oE k k), trivial⟩ (hP k k k k <| hB (okLs.plainO _) k k k <| hI k k k <| trivial) k) <| sQ <| sQ <| rg <| aa k k <| an ?_
   refine tn <| ac_block ?_
   obtain ⟨y11, hy11, h⟩ := ob h
   refine ac_Lp (body := (m_spec_KnitRow_L1 a0)) hy11 (fun (x1 : ((List (List Int)) × (List Int) × Int)) => mkS [(2, .ptr 0 0 0), (6, .own 1 0 x1.1.length), (7, .own 2 0 x1.2.1.length), (8, .int x1.2.2)] [(0, ⟨3, [[.int a0.n, .list 1 (List.map eI a0.src), .list 1 (List.map eI a0.tgt)]]⟩), (1, ⟨1, List.map (ow (eLs 1 eI)) x1.1⟩), (2, ⟨1, List.map (ow eI) x1.2.1⟩)] 3 [3, 4, 5, 6, 7]) (fun r e t => e = .exit 0 ∧ Ent t (mkS [(6, .own 0 0 r.length)] [(0, ⟨1, List.map (ow (eLs 1 eI)) r⟩)] 1 [1, 2, 3, 4, 5, 6, 7])) (ent_mk (σ := sg [(0, 0), (1, 1), (2, 2)]) ⟨(pE k k), (oE k k), (oE k k), (e1 k k), trivial⟩ (hP k k k k <| hB (okLs.plainO _) k k k <| hI k k k <| trivial) k) ?_ ?_
   ·intro x1 o h
    refine sQ <| sQ <| rg <| am k k <| ae (w_cmp k k k) k <| am k k ?_
    rcases cb h with ⟨q6, h⟩ | ⟨q6, h⟩
    ·refine aops_lit 27 k q6 <| am k k ?_
     obtain ⟨v7, hv7, h⟩ := ob h
     refine ae (w_call0s (c_spec_l27Positive x1.2.1 v7 hv7) k (va_cons (va_T okI k k) va_nil)) k <| ae (eff_pick k k) k <| an <| tn ?_
     rcases cb h with ⟨q8, h⟩ | ⟨q8, h⟩
     ·refine ac_condT k q8 <| ac_skip <| tn <| sQ <| ac_block <| sQ <| rg <| am k k <| am k k <| ae (w_lit TT_ok k k k k k k k k k k k k) k ?_
      obtain ⟨q9, h⟩ := cg h
      refine ae (x_app1 TT_ok (l := x1.1) (c := [.own 2 0 x1.2.1.length]) q9 k k k k k k k k k k k k k k) k <| aa k k <| an <| tn <| rg <| ae (w_load_ptr TT_ok k k k k k k k) k <| am k k ?_
      obtain ⟨v10, hv10, h⟩ := ob h
      refine ae (AEff.conv (w_call0 (x := .tuple [.own 5 0 (List.map eI v10.1).length, .bl v10.2]) (nb := [(5, ⟨1, absEs (List.map eI v10.1)⟩)]) (c_spec_CoxeterPower a0 x1.2.1 (-1) v10 hv10) k (by rfl) k k (gB_cons (okI.good _) (gB_cons trivial gB_nil)) (va_cons (va_agg' (v1_cons (v1_same k) (v1_cons (v1_same k) (v1_cons (v1_same k) v1_nil)))) (va_cons (va_T okI k k) (va_cons (va_same k) va_nil)))) (v' := .tuple [.own 5 0 v10.1.length, .bl v10.2]) (ed' := [(5, some ⟨1, List.map (ow eI) v10.1⟩)]) (by simp only [len_map]) (ed_ok (nb' := [(5, ⟨1, List.map (ow eI) v10.1⟩)]) (by simp only [abs_map]))) k <| am k k <| ae (eff_extract k k (by intro _ h; cases h)) k <| ae (eff_extract k k (by intro _ h; cases h)) k <| aa k k <| an <| block_n <| tn <| ac_ent (t := mkS [(2, .ptr 0 0 0), (6, .own 4 0 ((x1.1 ++ [x1.2.1]).length)), (7, .own 5 0 v10.1.length), (8, .int x1.2.2)] [(0, ⟨3, [[.int a0.n, .list 1 (List.map eI a0.src), .list 1 (List.map eI a0.tgt)]]⟩), (4, ⟨1, List.map (ow (eLs 1 eI)) (x1.1 ++ [x1.2.1])⟩), (5, ⟨1, List.map (ow eI) v10.1⟩)] 6 [6, 7]) (Ent.trans (ent_absL (b := 4) (b' := 2) (j := 0) (es' := List.map eI x1.2.1) k k k k (len_map _ _) (okI.frzs _)) (ent_mk (σ := sg [(0, 0), (4, 4), (5, 5)]) ⟨(pE k k), ⟨_, k, ⟨k, k, (by simp only [len_map, lA, lT, lR, lC, lN]), k⟩⟩, (oE k k), (e1 k k), trivial⟩ (hP k k k k <| hX ⟨_, k, k, .inl ⟨app_eq x1.2.1 k, okLs.plainO _⟩⟩ k <| hI k k k <| trivial) k)) <| rg ?_
      refine am k k <| ae (x_add k k) k <| aa k k <| an <| tn ?_
      obtain rfl := so h
      exact ⟨_, k, (ent_mk (σ := sg [(0, 0), (1, 4), (2, 5)]) ⟨(pE k k), (oE k k), (oE k k), (e1 k k), trivial⟩ (hP k k k k <| hB (okLs.plainO _) k k k <| hI k k k <| trivial) k)⟩
     ·refine ac_condF k q8 <| ac_exit <| then_exit <| then_exit ?_
      obtain rfl := so h
      exact ⟨_, k, k, (ent_mk (σ := sg [(0, 1)]) ⟨(oE k k), trivial⟩ (hB (okLs.plainO _) k k k <| trivial) k)⟩
    ·refine aops_lit 27 k q6 <| ak k k <| ak k k <| ae (eff_pick k k) k <| an <| tn <| ac_condF k k <| ac_exit <| then_exit <| then_exit ?_
     obtain rfl := so h
     exact ⟨_, k, k, (ent_mk (σ := sg [(0, 1)]) ⟨(oE k k), trivial⟩ (hB (okLs.plainO _) k k k <| trivial) k)⟩
   ·rintro e t ⟨rfl, hent⟩
    refine block_here <| tn <| ac_ent hent <| sQ <| rg <| am k k <| aa k k <| aa k k <| an <| tn ?_
    refine ac_ret ?_
    obtain rfl := so h
    exact ret_mk k k k (xz_tuple k (xB_cons (xB_one (x_f1 okLs k k)) (xB_cons (k) xB_nil)))

noncomputable def m_impl_Quiver_isReady_L1 (a0 : Qv) (a1 : Int) (a2 : (List Int)) (x1 : Int) : Option (Int ⊕ (Unit ⊕ Bool)) :=
  bif decide (x1 < (a0.tgt.length : Int)) then
    (Option.bind (atL a0.tgt x1) fun v2 =>
    bif decide (v2 = a1) then
      (Option.bind (atL a0.src x1) fun v4 =>
      Option.bind (m_slices_Contains_Lint_int a2 v4) fun v5 =>
      bif !v5 then
        (some (.inr (.inr (false))))
      else
        (some (.inl (wr (x1 + 1)))))
    else
      (some (.inl (wr (x1 + 1)))))
  else
    (some (.inr (.inl ())))

noncomputable def m_impl_Quiver_isReady (a0 : Qv) (a1 : Int) (a2 : (List Int)) : Option Bool :=
  Option.bind (Lp (m_impl_Quiver_isReady_L1 a0 a1 a2) 0) fun y7 =>
  Sum.elim (fun y8 =>
    some (true)
  ) 
  (fun y9 =>
    some y9
  )
   y7

theorem c_impl_Quiver_isReady (a0 : Qv) (a1 : Int) (a2 : (List Int)) (r : Bool) (h : m_impl_Quiver_isReady a0 a1 a2 = some r) : HasC Try.prog 77 [.agg (eQ a0), .int a1, .list 1 (List.map eI a2)] (.bl r) := by
 refine hasC_mk TT_ok (rvs := [.tmp 6]) (ns := [0, 1, 2]) Try.func77 k k Try.ntmps77 k k k <| sQ <| rg <| ae (w_box k k k k) k <| aa k k <| an <| tn <| sQ <| sQ <| rg ?_
 refine ae (w_field_ptr TT_ok k k k k k k k) k <| ae (w_load_ptr TT_ok k k k k k k k) k <| ae (lenL TT_ok k k k) k <| am k k <| an <| tn <| ac_block ?_
 obtain ⟨y7, hy7, h⟩ := ob h
 refine ac_Lp (body := (m_impl_Quiver_isReady_L1 a0 a1 a2)) hy7 (fun (x1 : Int) => mkS [(1, .int a1), (2, .list 1 (List.map eI a2)), (3, .ptr 0 0 0), (10, .list 1 (List.map eI a0.tgt)), (11, .int (a0.tgt.length : Int)), (12, .int x1)] [(0, ⟨3, [[.int a0.n, .list 1 (List.map eI a0.src), .list 1 (List.map eI a0.tgt)]]⟩)] 1 [1, 2]) (fun r e t => Sum.elim (fun a => (fun r e t => e = .exit 0 ∧ Ent t (mkS [] [] 0 [0, 1, 2])) a e t) (fun b => (fun r e t => e = .ret ∧ RetQ TT [.tmp 6] (.bl r) .ret t) b e t) r) (ent_mk (σ := sg [(0, 0)]) ⟨(e1 k k), ⟨_, k, ⟨k, k⟩⟩, (pE k k), ⟨_, k, ⟨k, k⟩⟩, (e1 k k), (e1 k k), trivial⟩ (hP k k k k <| trivial) k) ?_ ?_
 ·intro x1 o h
  refine sQ <| rg <| ae (w_cmp k k k) k <| an <| tn <| sQ ?_
  rcases cb h with ⟨q1, h⟩ | ⟨q1, h⟩
  ·refine ac_condT k q1 <| ac_skip <| tn <| sQ <| ac_block <| sQ <| rg <| am k k ?_
   obtain ⟨v2, hv2, h⟩ := ob h
   refine ae (x_at_list TT_ok hv2 k k k k k k) k <| ae (w_load_ref TT_ok k k k k k k) k <| aa k k <| aa k k <| an <| tn <| sQ <| rg <| am k k <| am k k ?_
   refine ae (w_cmp k k k) k <| am k k ?_
   rcases cb h with ⟨q3, h⟩ | ⟨q3, h⟩
   ·refine aops_lit 20 k q3 <| am k k <| ae (w_field_ptr TT_ok k k k k k k k) k <| ae (w_load_ptr TT_ok k k k k k k k) k <| am k k ?_
    obtain ⟨v4, hv4, h⟩ := ob h
    refine ae (x_at_list TT_ok hv4 k k k k k k) k <| ae (w_load_ref TT_ok k k k k k k) k ?_
    obtain ⟨v5, hv5, h⟩ := ob h
    refine ae (w_call0s (c_slices_Contains_Lint_int a2 v4 v5 hv5) k (va_cons (va_same k) (va_cons (va_same k) va_nil))) k <| ae (w_not k) k <| ae (eff_pick k k) k <| an <| tn <| ac_ent (t := mkS [(1, .int a1), (2, .list 1 (List.map eI a2)), (3, .ptr 0 0 0), (10, .list 1 (List.map eI a0.tgt)), (11, .int (a0.tgt.length : Int)), (12, .int x1), (29, .bl (!v5))] [(0, ⟨3, [[.int a0.n, .list 1 (List.map eI a0.src), .list 1 (List.map eI a0.tgt)]]⟩)] 1 [1, 2]) (ent_mk (σ := sg [(0, 0)]) ⟨(e1 k k), ⟨_, k, ⟨k, k⟩⟩, (pE k k), ⟨_, k, ⟨k, k⟩⟩, (e1 k k), (e1 k k), (e1 k k), trivial⟩ (hP k k k k <| trivial) k) ?_
    rcases cb h with ⟨q6, h⟩ | ⟨q6, h⟩
    ·refine ac_condT k q6 <| sQ <| rg <| aa k k <| an <| tn <| ac_ret <| block_ret <| then_ret <| then_ret ?_
     obtain rfl := so h
     exact ⟨_, k, k, ret_mk k k k (fz_bl k)⟩
    ·refine ac_condF k q6 <| ac_skip <| block_n <| tn <| rg <| ae (x_add k k) k <| am k k <| an <| tn ?_
     obtain rfl := so h
     exact ⟨_, k, (ent_mk (σ := sg [(0, 0)]) ⟨(e1 k k), ⟨_, k, ⟨k, k⟩⟩, (pE k k), ⟨_, k, ⟨k, k⟩⟩, (e1 k k), (e1 k k), trivial⟩ (hP k k k k <| trivial) k)⟩
   ·refine aops_lit 20 k q3 <| ak k k <| ak k k <| ak k k <| ak k k <| ak k k <| ak k k <| ak k k <| ak k k <| ae (eff_pick k k) k ?_
    refine an <| tn <| ac_ent (t := mkS [(1, .int a1), (2, .list 1 (List.map eI a2)), (3, .ptr 0 0 0), (10, .list 1 (List.map eI a0.tgt)), (11, .int (a0.tgt.length : Int)), (12, .int x1), (29, .bl false)] [(0, ⟨3, [[.int a0.n, .list 1 (List.map eI a0.src), .list 1 (List.map eI a0.tgt)]]⟩)] 1 [1, 2]) (ent_mk (σ := sg [(0, 0)]) ⟨(e1 k k), ⟨_, k, ⟨k, k⟩⟩, (pE k k), ⟨_, k, ⟨k, k⟩⟩, (e1 k k), (e1 k k), (e1 k k), trivial⟩ (hP k k k k <| trivial) k) <| ac_condF k k <| ac_skip <| block_n <| tn <| rg <| ae (x_add k k) k <| am k k ?_
    refine an <| tn ?_
    obtain rfl := so h
    exact ⟨_, k, (ent_mk (σ := sg [(0, 0)]) ⟨(e1 k k), ⟨_, k, ⟨k, k⟩⟩, (pE k k), ⟨_, k, ⟨k, k⟩⟩, (e1 k k), (e1 k k), trivial⟩ (hP k k k k <| trivial) k)⟩
  ·refine ac_condF k q1 <| ac_exit <| then_exit <| then_exit ?_
   obtain rfl := so h
   exact ⟨_, k, k, (ent_mk (σ := sg []) trivial trivial k)⟩
 ·intro e t hX
  rcases y7 with y8 | y9
  ·obtain ⟨rfl, hent⟩ := hX
   refine block_here <| tn <| ac_ent hent <| sQ <| rg <| aa k k <| an <| tn <| ac_ret ?_
   obtain rfl := so h
   exact ret_mk k k k (fz_bl k)
  ·obtain ⟨rfl, hent⟩ := hX
   refine block_ret <| then_ret ?_
   obtain rfl := so h
   exact hent

noncomputable def m_impl_OrderOf_L2 (a0 : Qv) (x1 : (List Int)) (x2 : (Int × Int)) : Option ((Int × Int) ⊕ Int) :=
  bif decide (0 ≤ x2.2) then
    (Option.bind (m_slices_Contains_Lint_int x1 x2.2) fun v5 =>
    bif !v5 then
      (Option.bind (m_impl_Quiver_isReady a0 x2.2 x1) fun v7 =>
      bif v7 then
        (some (.inl (x2.2, wr (x2.2 - 1))))
      else
        (some (.inl (x2.1, wr (x2.2 - 1)))))
    else
      (some (.inl (x2.1, wr (x2.2 - 1)))))
  else
    (some (.inr x2.1))

noncomputable def m_impl_OrderOf_L1 (a0 : Qv) (x1 : (List Int)) : Option ((List Int) ⊕ ((List Int) ⊕ ((List Int) × Bool))) :=
  bif decide (((x1.length : Nat) : Int) < a0.n) then
    (Option.bind (Lp (m_impl_OrderOf_L2 a0 x1) ((-1), wr (a0.n - 1))) fun y9 =>
    bif decide (y9 < 0) then
      (some (.inr (.inr (([], false)))))
    else
      (bif decide (x1.length + [y9].length ≤ 4294967296) then
        (some (.inl (x1 ++ [y9])))
      else none))
  else
    (some (.inr (.inl x1)))

noncomputable def m_impl_OrderOf (a0 : Qv) : Option ((List Int) × Bool) :=
  Option.bind (m_impl_IsQuiver a0) fun v1 =>
  bif !v1 then
    (some (([], false)))
  else
    (Option.bind (Lp (m_impl_OrderOf_L1 a0) []) fun y12 =>
    Sum.elim (fun y13 =>
      some ((y13, true))
    ) 
    (fun y14 =>
      some y14
    )
     y12)

theorem c_impl_OrderOf (a0 : Qv) (r : ((List Int) × Bool)) (h : m_impl_OrderOf a0 = some r) : HasC Try.prog 65 [.agg (eQ a0)] (.tuple [.list 1 (List.map eI r.1), .bl r.2]) := by
 refine hasC_mk TT_ok (rvs := [.tmp 2, .tmp 3]) (ns := [0, 1, 2, 3, 4, 5]) Try.func65 k k Try.ntmps65 k k k <| sQ <| rg <| ae (w_box k k k k) k <| aa k k <| aa k k <| an <| tn <| sQ <| sQ ?_
 refine rg <| ae (w_load_ptr TT_ok k k k k k k k) k ?_
 obtain ⟨v1, hv1, h⟩ := ob h
 refine ae (w_call0s (c_impl_IsQuiver a0 v1 hv1) k (va_cons (va_agg' (v1_cons (v1_same k) (v1_cons (v1_same k) (v1_cons (v1_same k) v1_nil)))) va_nil)) k <| ae (w_not k) k <| an <| tn ?_
 rcases cb h with ⟨q2, h⟩ | ⟨q2, h⟩
 ·refine ac_condT k q2 <| sQ <| rg <| aa k k <| aa k k <| an <| tn <| ac_ret <| then_ret ?_
  obtain rfl := so h
  exact ret_mk k k k (xz_tuple k (xB_cons (xB_one (k)) (xB_cons (k) xB_nil)))
 ·refine ac_condF k q2 <| ac_skip <| tn <| sQ <| rg <| aa k k <| an <| tn <| sQ <| ac_block ?_
  obtain ⟨y12, hy12, h⟩ := ob h
  refine ac_Lp (body := (m_impl_OrderOf_L1 a0)) hy12 (fun (x1 : (List Int)) => mkS [(1, .ptr 0 0 0), (4, .own 1 0 x1.length)] [(0, ⟨3, [[.int a0.n, .list 1 (List.map eI a0.src), .list 1 (List.map eI a0.tgt)]]⟩), (1, ⟨1, List.map (ow eI) x1⟩)] 2 [2, 3, 4, 5]) (fun r e t => Sum.elim (fun a => (fun r e t => e = .exit 0 ∧ Ent t (mkS [(4, .own 0 0 r.length)] [(0, ⟨1, List.map (ow eI) r⟩)] 1 [1, 2, 3, 4, 5])) a e t) (fun b => (fun r e t => e = .ret ∧ RetQ TT [.tmp 2, .tmp 3] (.tuple [.list 1 (List.map eI r.1), .bl r.2]) .ret t) b e t) r) (ent_mk (σ := sg [(0, 0)]) ⟨(pE k k), ⟨_, k, ⟨k, k, k, k⟩⟩, trivial⟩ (hP k k k k <| hX k k <| trivial) k) ?_ ?_
  ·intro x1 o h
   refine sQ <| sQ <| rg <| am k k <| ae (w_len_own TT_ok k k k k) k <| ae (w_field_ptr TT_ok k k k k k k k) k <| ae (w_load_ptr TT_ok k k k k k k k) k <| ae (w_cmp k k k) k <| an <| tn ?_
   rcases cb h with ⟨q3, h⟩ | ⟨q3, h⟩
   ·refine ac_condT k q3 <| ac_skip <| tn <| ac_block <| sQ <| rg <| aa k k <| an <| tn <| sQ ?_
    refine sQ <| rg <| ae (w_field_ptr TT_ok k k k k k k k) k <| ae (w_load_ptr TT_ok k k k k k k k) k <| ae (x_sub k k) k <| aa k k <| an <| tn <| ac_block ?_
    obtain ⟨y9, hy9, h⟩ := ob h
    refine ac_Lp (body := (m_impl_OrderOf_L2 a0 x1)) hy9 (fun (x2 : (Int × Int)) => mkS [(1, .ptr 0 0 0), (4, .own 1 0 x1.length), (5, .int x2.1), (6, .int x2.2)] [(0, ⟨3, [[.int a0.n, .list 1 (List.map eI a0.src), .list 1 (List.map eI a0.tgt)]]⟩), (1, ⟨1, List.map (ow eI) x1⟩)] 2 [2, 3, 4, 5]) (fun r e t => e = .exit 2 ∧ Ent t (mkS [(1, .ptr 0 0 0), (4, .own 1 0 x1.length), (5, .int r)] [(0, ⟨3, [[.int a0.n, .list 1 (List.map eI a0.src), .list 1 (List.map eI a0.tgt)]]⟩), (1, ⟨1, List.map (ow eI) x1⟩)] 2 [2, 3, 4, 5])) (ent_mk (σ := sg [(0, 0), (1, 1)]) ⟨(pE k k), (oE k k), (e1 k k), (e1 k k), trivial⟩ (hP k k k k <| hI k k k <| trivial) k) ?_ ?_
    ·intro x2 o h
     refine sQ <| sQ <| rg <| am k k <| ae (w_cmp k k k) k <| an <| tn ?_
     rcases cb h with ⟨q4, h⟩ | ⟨q4, h⟩
     ·refine ac_condT k q4 <| ac_skip <| tn <| sQ <| ac_block <| sQ <| rg <| am k k <| am k k ?_
      obtain ⟨v5, hv5, h⟩ := ob h
      refine ae (w_call0s (c_slices_Contains_Lint_int x1 x2.2 v5 hv5) k (va_cons (va_T okI k k) (va_cons (va_same k) va_nil))) k <| ae (w_not k) k <| am k k ?_
      rcases cb h with ⟨q6, h⟩ | ⟨q6, h⟩
      ·refine aops_lit 26 k q6 <| ae (w_load_ptr TT_ok k k k k k k k) k <| am k k <| am k k ?_
       obtain ⟨v7, hv7, h⟩ := ob h
       refine ae (w_call0s (c_impl_Quiver_isReady a0 x2.2 x1 v7 hv7) k (va_cons (va_agg' (v1_cons (v1_same k) (v1_cons (v1_same k) (v1_cons (v1_same k) v1_nil)))) (va_cons (va_same k) (va_cons (va_T okI k k) va_nil)))) k <| ae (eff_pick k k) k <| an <| tn <| ac_ent (t := mkS [(1, .ptr 0 0 0), (4, .own 1 0 x1.length), (5, .int x2.1), (6, .int x2.2), (31, .bl v7)] [(0, ⟨3, [[.int a0.n, .list 1 (List.map eI a0.src), .list 1 (List.map eI a0.tgt)]]⟩), (1, ⟨1, List.map (ow eI) x1⟩)] 2 [2, 3, 4, 5]) (ent_mk (σ := sg [(0, 0), (1, 1)]) ⟨(pE k k), (oE k k), (e1 k k), (e1 k k), (e1 k k), trivial⟩ (hP k k k k <| hI k k k <| trivial) k) ?_
       rcases cb h with ⟨q8, h⟩ | ⟨q8, h⟩
       ·refine ac_condT k q8 <| rg <| am k k <| aa k k <| an <| block_n <| tn <| rg <| am k k <| ae (x_sub k k) k ?_
        refine aa k k <| an <| tn ?_
        obtain rfl := so h
        exact ⟨_, k, (ent_mk (σ := sg [(0, 0), (1, 1)]) ⟨(pE k k), (oE k k), (e1 k k), (e1 k k), trivial⟩ (hP k k k k <| hI k k k <| trivial) k)⟩
       ·refine ac_condF k q8 <| ac_skip <| block_n <| tn <| rg <| am k k <| ae (x_sub k k) k <| aa k k <| an <| tn ?_
        obtain rfl := so h
        exact ⟨_, k, (ent_mk (σ := sg [(0, 0), (1, 1)]) ⟨(pE k k), (oE k k), (e1 k k), (e1 k k), trivial⟩ (hP k k k k <| hI k k k <| trivial) k)⟩
      ·refine aops_lit 26 k q6 <| ak k k <| ak k k <| ak k k <| ak k k <| ae (eff_pick k k) k <| an <| tn <| ac_ent (t := mkS [(1, .ptr 0 0 0), (4, .own 1 0 x1.length), (5, .int x2.1), (6, .int x2.2), (31, .bl false)] [(0, ⟨3, [[.int a0.n, .list 1 (List.map eI a0.src), .list 1 (List.map eI a0.tgt)]]⟩), (1, ⟨1, List.map (ow eI) x1⟩)] 2 [2, 3, 4, 5]) (ent_mk (σ := sg [(0, 0), (1, 1)]) ⟨(pE k k), (oE k k), (e1 k k), (e1 k k), (e1 k k), trivial⟩ (hP k k k k <| hI k k k <| trivial) k) <| ac_condF k k ?_
       refine ac_skip <| block_n <| tn <| rg <| am k k <| ae (x_sub k k) k <| aa k k <| an <| tn ?_
       obtain rfl := so h
       exact ⟨_, k, (ent_mk (σ := sg [(0, 0), (1, 1)]) ⟨(pE k k), (oE k k), (e1 k k), (e1 k k), trivial⟩ (hP k k k k <| hI k k k <| trivial) k)⟩
     ·refine ac_condF k q4 <| ac_exit <| then_exit <| then_exit ?_
      obtain rfl := so h
      exact ⟨_, k, k, (ent_mk (σ := sg [(0, 0), (1, 1)]) ⟨(pE k k), (oE k k), (e1 k k), trivial⟩ (hP k k k k <| hI k k k <| trivial) k)⟩
    ·rintro e t ⟨rfl, hent⟩
     refine block_here <| tn <| ac_ent hent <| sQ <| sQ <| rg <| am k k <| ae (w_cmp k k k) k <| an <| tn ?_
     rcases cb h with ⟨q10, h⟩ | ⟨q10, h⟩
     ·refine ac_condT k q10 <| sQ <| rg <| aa k k <| aa k k <| an <| tn <| ac_ret <| then_ret <| block_ret ?_
      refine then_ret ?_
      obtain rfl := so h
      exact ⟨_, k, k, ret_mk k k k (xz_tuple k (xB_cons (xB_one (k)) (xB_cons (k) xB_nil)))⟩
     ·refine ac_condF k q10 <| ac_skip <| tn <| rg <| am k k <| am k k <| ae (w_lit TT_ok k k k k k k k k k k k k) k ?_
      obtain ⟨q11, h⟩ := cg h
      refine ae (x_app TT_ok (l := x1) (m := [y9]) okIo q11 k k k k k k k k k k k k) k <| aa k k <| an <| block_n <| tn ?_
      obtain rfl := so h
      exact ⟨_, k, (ent_mk (σ := sg [(0, 0), (1, 3)]) ⟨(pE k k), (oE k k), trivial⟩ (hP k k k k <| hI k k k <| trivial) k)⟩
   ·refine ac_condF k q3 <| ac_exit <| then_exit <| then_exit ?_
    obtain rfl := so h
    exact ⟨_, k, k, (ent_mk (σ := sg [(0, 1)]) ⟨(oE k k), trivial⟩ (hI k k k <| trivial) k)⟩
  ·intro e t hX
   rcases y12 with y13 | y14
   ·obtain ⟨rfl, hent⟩ := hX
    refine block_here <| tn <| ac_ent hent <| sQ <| rg <| am k k <| aa k k <| aa k k <| an <| tn ?_
    refine ac_ret ?_
    obtain rfl := so h
    exact ret_mk k k k (xz_tuple k (xB_cons (xB_one (x_f1 okI k k)) (xB_cons (k) xB_nil)))
   ·obtain ⟨rfl, hent⟩ := hX
    refine block_ret <| then_ret ?_
    obtain rfl := so h
    exact hent

noncomputable def m_impl_IsAcyclic (a0 : Qv) : Option Bool :=
  Option.bind (m_impl_OrderOf a0) fun v1 =>
  some (v1.2)

theorem c_impl_IsAcyclic (a0 : Qv) (r : Bool) (h : m_impl_IsAcyclic a0 = some r) : HasC Try.prog 63 [.agg (eQ a0)] (.bl r) := by
 refine hasC_mk TT_ok (rvs := [.tmp 2]) (ns := [0, 1, 2, 3]) Try.func63 k k Try.ntmps63 k k k <| sQ <| rg <| ae (w_box k k k k) k <| aa k k <| an <| tn <| sQ <| rg <| ae (w_load_ptr TT_ok k k k k k k k) k ?_
 obtain ⟨v1, hv1, h⟩ := ob h
 refine ae (AEff.conv (w_call0 (x := .tuple [.own 1 0 (List.map eI v1.1).length, .bl v1.2]) (nb := [(1, ⟨1, absEs (List.map eI v1.1)⟩)]) (c_impl_OrderOf a0 v1 hv1) k (by rfl) k k (gB_cons (okI.good _) (gB_cons trivial gB_nil)) (va_cons (va_agg' (v1_cons (v1_same k) (v1_cons (v1_same k) (v1_cons (v1_same k) v1_nil)))) va_nil)) (v' := .tuple [.own 1 0 v1.1.length, .bl v1.2]) (ed' := [(1, some ⟨1, List.map (ow eI) v1.1⟩)]) (by simp only [len_map]) (ed_ok (nb' := [(1, ⟨1, List.map (ow eI) v1.1⟩)]) (by simp only [abs_map]))) k <| am k k <| ae (eff_extract k k (by intro _ h; cases h)) k <| ae (eff_extract k k (by intro _ h; cases h)) k <| aa k k <| aa k k <| an <| tn <| sQ <| rg ?_
 refine am k k <| aa k k <| an <| tn <| ac_ret ?_
 obtain rfl := so h
 exact ret_mk k k k (fz_bl k)

noncomputable def m_impl_CoxeterOrder (a0 : Qv) : Option ((List Int) × Bool) :=
  Option.bind (m_impl_OrderOf a0) fun v1 =>
  Option.bind (m_slices_Reverse_Lint_int v1.1) fun v2 =>
  bif decide (v2.length = v1.1.length) then
    (some ((v2, v1.2)))
  else none

theorem c_impl_CoxeterOrder (a0 : Qv) (r : ((List Int) × Bool)) (h : m_impl_CoxeterOrder a0 = some r) : HasC Try.prog 48 [.agg (eQ a0)] (.tuple [.list 1 (List.map eI r.1), .bl r.2]) := by
 refine hasC_mk TT_ok (rvs := [.tmp 2, .tmp 3]) (ns := [0, 1, 2, 3]) Try.func48 k k Try.ntmps48 k k k <| sQ <| rg <| ae (w_box k k k k) k <| aa k k <| aa k k <| an <| tn <| sQ <| rg ?_
 refine ae (w_load_ptr TT_ok k k k k k k k) k ?_
 obtain ⟨v1, hv1, h⟩ := ob h
 refine ae (AEff.conv (w_call0 (x := .tuple [.own 1 0 (List.map eI v1.1).length, .bl v1.2]) (nb := [(1, ⟨1, absEs (List.map eI v1.1)⟩)]) (c_impl_OrderOf a0 v1 hv1) k (by rfl) k k (gB_cons (okI.good _) (gB_cons trivial gB_nil)) (va_cons (va_agg' (v1_cons (v1_same k) (v1_cons (v1_same k) (v1_cons (v1_same k) v1_nil)))) va_nil)) (v' := .tuple [.own 1 0 v1.1.length, .bl v1.2]) (ed' := [(1, some ⟨1, List.map (ow eI) v1.1⟩)]) (by simp only [len_map]) (ed_ok (nb' := [(1, ⟨1, List.map (ow eI) v1.1⟩)]) (by simp only [abs_map]))) k <| am k k <| ae (eff_extract k k (by intro _ h; cases h)) k <| ae (eff_extract k k (by intro _ h; cases h)) k <| aa k k <| aa k k <| an <| tn <| sQ <| rg ?_
 refine am k k ?_
 obtain ⟨v2, hv2, h⟩ := ob h
 refine ae (eff_hasD (σ := sg [(0, 1)]) (σ' := sg [(1, 0)]) (touch := [1]) (news := []) (hl2 := [(1, ⟨1, List.map (ow eI) v2⟩)]) (n' := 2) (r2 := .tuple []) (c_slices_Reverse_Lint_int v1.1 v2 hv2) k k ⟨_, _, k, (.inl ⟨k, k, k, k⟩), k⟩ ⟨⟨_, k, k, .inl ⟨k, okI.plainO _⟩⟩, k, trivial⟩ k k k ⟨⟨_, k, k, .inl ⟨k, okI.plainO _⟩⟩, k, trivial⟩ k (.inr ⟨_, _, k, k, k⟩) k ⟨k, okI.tamd _ _, trivial⟩ k k) k ?_
 obtain ⟨q3, h⟩ := cg h
 refine an <| tn <| ac_ent (t := mkS [(4, .own 1 0 v2.length), (5, .bl v1.2)] [(1, ⟨1, List.map (ow eI) v2⟩)] 2 [2, 3]) (ent_mk (σ := sg [(1, 1)]) ⟨⟨_, k, ⟨k, k, (by simp only [len_map, lA, lT, lR, lC, lN, of_decide_eq_true q3]), k⟩⟩, (e1 k k), trivial⟩ (hI k k k <| trivial) k) <| sQ <| rg <| am k k <| am k k <| aa k k <| aa k k <| an ?_
 refine tn <| ac_ret ?_
 obtain rfl := so h
 exact ret_mk k k k (xz_tuple k (xB_cons (xB_one (x_f1 okI k k)) (xB_cons (k) xB_nil)))

noncomputable def m_impl_areNumbers (a0 : Qv) (a1 : (List Int)) : Option Bool :=
  Option.bind (m_impl_IsQuiver a0) fun v1 =>
  bif v1 then
    (bif decide ((a1.length : Int) = a0.n) then
      (Option.bind (m_impl_allWithin a1 (-100) 100) fun v4 =>
      some (v4))
    else
      (some (false)))
  else
    (some (false))

theorem c_impl_areNumbers (a0 : Qv) (a1 : (List Int)) (r : Bool) (h : m_impl_areNumbers a0 a1 = some r) : HasC Try.prog 49 [.agg (eQ a0), .list 1 (List.map eI a1)] (.bl r) := by
 refine hasC_mk TT_ok (rvs := [.tmp 4]) (ns := [0, 1, 2]) Try.func49 k k Try.ntmps49 k k k <| sQ <| rg <| ae (w_box k k k k) k <| aa k k <| an <| tn <| sQ <| rg <| ae (w_load_ptr TT_ok k k k k k k k) k ?_
 obtain ⟨v1, hv1, h⟩ := ob h
 refine ae (w_call0s (c_impl_IsQuiver a0 v1 hv1) k (va_cons (va_agg' (v1_cons (v1_same k) (v1_cons (v1_same k) (v1_cons (v1_same k) v1_nil)))) va_nil)) k <| am k k ?_
 rcases cb h with ⟨q2, h⟩ | ⟨q2, h⟩
 ·refine aops_lit 7 k q2 <| am k k <| ae (lenL TT_ok k k k) k <| ae (w_field_ptr TT_ok k k k k k k k) k <| ae (w_load_ptr TT_ok k k k k k k k) k <| ae (w_cmp k k k) k <| ae (eff_pick k k) k <| am k k ?_
  rcases cb h with ⟨q3, h⟩ | ⟨q3, h⟩
  ·refine aops_lit 14 k q3 <| am k k ?_
   obtain ⟨v4, hv4, h⟩ := ob h
   refine ae (w_call0s (c_impl_allWithin a1 (-100) 100 v4 hv4) k (va_cons (va_same k) (va_cons (va_same k) (va_cons (va_same k) va_nil)))) k <| ae (eff_pick k k) k <| aa k k <| an <| tn <| ac_ent (t := mkS [(4, .bl v4)] [] 1 [1, 2]) (ent_mk (σ := sg []) ⟨(e1 k k), trivial⟩ trivial k) <| ac_ret ?_
   obtain rfl := so h
   exact ret_mk k k k (fz_bl k)
  ·refine aops_lit 14 k q3 <| ak k k <| ak k k <| ae (eff_pick k k) k <| aa k k <| an <| tn <| ac_ent (t := mkS [(4, .bl false)] [] 1 [1, 2]) (ent_mk (σ := sg []) ⟨(e1 k k), trivial⟩ trivial k) <| ac_ret ?_
   obtain rfl := so h
   exact ret_mk k k k (fz_bl k)
 ·refine aops_lit 7 k q2 <| ak k k <| ak k k <| ak k k <| ak k k <| ak k k <| ae (eff_pick k k) k <| am k k <| ak k k <| ak k k ?_
  refine ae (eff_pick k k) k <| aa k k <| an <| tn <| ac_ent (t := mkS [(4, .bl false)] [] 1 [1, 2]) (ent_mk (σ := sg []) ⟨(e1 k k), trivial⟩ trivial k) <| ac_ret ?_
  obtain rfl := so h
  exact ret_mk k k k (fz_bl k)

noncomputable def m_impl_ReflectDims_L1 (a1 : (List Int)) (a2 : Int) (v11 : (List Int)) (x1 : ((List Int) × Int)) : Option (((List Int) × Int) ⊕ (List Int)) :=
  bif decide (x1.2 < (v11.length : Int)) then
    (Option.bind (atL v11 x1.2) fun v13 =>
    Option.bind (atL x1.1 a2) fun v14 =>
    Option.bind (atL a1 x1.2) fun v15 =>
    Option.bind (atL x1.1 a2) fun v16 =>
    some (.inl ((x1.1.set a2.toNat (wr (v14 - (wr (v13 * v15))))), wr (x1.2 + 1))))
  else
    (some (.inr x1.1))

noncomputable def m_impl_ReflectDims (a0 : Qv) (a1 : (List Int)) (a2 : Int) : Option ((List Int) × Bool) :=
  Option.bind (m_impl_areNumbers a0 a1) fun v1 =>
  bif !v1 then
    (some (([], false)))
  else
    (Option.bind (m_impl_Quiver_hasVertex a0 a2) fun v3 =>
    bif !v3 then
      (some (([], false)))
    else
      (Option.bind (m_impl_symmetric a0) fun v5 =>
      Option.bind (atL v5 a2) fun v6 =>
      Option.bind (atL v6 a2) fun v7 =>
      bif !decide (v7 = 2) then
        (some (([], false)))
      else
        (Option.bind (m_Clone a1) fun v9 =>
        Option.bind (m_impl_symmetric a0) fun v10 =>
        Option.bind (atL v10 a2) fun v11 =>
        Option.bind (Lp (m_impl_ReflectDims_L1 a1 a2 v11) (v9, 0)) fun y17 =>
        some ((y17, true)))))

theorem c_impl_ReflectDims (a0 : Qv) (a1 : (List Int)) (a2 : Int) (r : ((List Int) × Bool)) (h : m_impl_ReflectDims a0 a1 a2 = some r) : HasC Try.prog 66 [.agg (eQ a0), .list 1 (List.map eI a1), .int a2] (.tuple [.list 1 (List.map eI r.1), .bl r.2]) := by
 refine hasC_mk TT_ok (rvs := [.tmp 6, .tmp 7]) (ns := [0, 1, 2, 3, 4, 5]) Try.func66 k k Try.ntmps66 k k k <| sQ <| rg <| ae (w_box k k k k) k <| aa k k <| aa k k <| an <| tn <| sQ <| sQ ?_
 refine rg <| ae (w_load_ptr TT_ok k k k k k k k) k <| am k k ?_
 obtain ⟨v1, hv1, h⟩ := ob h
 refine ae (w_call0s (c_impl_areNumbers a0 a1 v1 hv1) k (va_cons (va_agg' (v1_cons (v1_same k) (v1_cons (v1_same k) (v1_cons (v1_same k) v1_nil)))) (va_cons (va_same k) va_nil))) k <| ae (w_not k) k <| am k k ?_
 rcases cb h with ⟨q2, h⟩ | ⟨q2, h⟩
 ·refine aops_lit 15 k q2 <| ak k k <| ak k k <| ak k k <| ak k k <| ae (eff_pick k k) k <| am k k <| ak k k <| ak k k <| ak k k ?_
  refine ak k k <| ak k k <| ak k k <| ak k k <| ak k k <| ak k k <| ae (eff_pick k k) k <| an <| tn <| ac_ent (t := mkS [(1, .list 1 (List.map eI a1)), (2, .int a2), (3, .ptr 0 0 0), (31, .bl true)] [(0, ⟨3, [[.int a0.n, .list 1 (List.map eI a0.src), .list 1 (List.map eI a0.tgt)]]⟩)] 1 [1, 2, 3, 4, 5]) (ent_mk (σ := sg [(0, 0)]) ⟨⟨_, k, ⟨k, k⟩⟩, (e1 k k), (pE k k), (e1 k k), trivial⟩ (hP k k k k <| trivial) k) ?_
  refine ac_condT k k <| sQ <| rg <| aa k k <| aa k k <| an <| tn <| ac_ret <| then_ret ?_
  obtain rfl := so h
  exact ret_mk k k k (xz_tuple k (xB_cons (xB_one (k)) (xB_cons (k) xB_nil)))
 ·refine aops_lit 15 k q2 <| ae (w_load_ptr TT_ok k k k k k k k) k <| am k k ?_
  obtain ⟨v3, hv3, h⟩ := ob h
  refine ae (w_call0s (c_impl_Quiver_hasVertex a0 a2 v3 hv3) k (va_cons (va_agg' (v1_cons (v1_same k) (v1_cons (v1_same k) (v1_cons (v1_same k) v1_nil)))) (va_cons (va_same k) va_nil))) k <| ae (w_not k) k <| ae (eff_pick k k) k <| am k k ?_
  rcases cb h with ⟨q4, h⟩ | ⟨q4, h⟩
  ·refine aops_lit 21 k q4 <| ak k k <| ak k k <| ak k k <| ak k k <| ak k k <| ak k k <| ak k k <| ak k k <| ak k k ?_
   refine ae (eff_pick k k) k <| an <| tn <| ac_ent (t := mkS [(1, .list 1 (List.map eI a1)), (2, .int a2), (3, .ptr 0 0 0), (31, .bl true)] [(0, ⟨3, [[.int a0.n, .list 1 (List.map eI a0.src), .list 1 (List.map eI a0.tgt)]]⟩)] 1 [1, 2, 3, 4, 5]) (ent_mk (σ := sg [(0, 0)]) ⟨⟨_, k, ⟨k, k⟩⟩, (e1 k k), (pE k k), (e1 k k), trivial⟩ (hP k k k k <| trivial) k) <| ac_condT k k <| sQ <| rg <| aa k k <| aa k k <| an ?_
   refine tn <| ac_ret <| then_ret ?_
   obtain rfl := so h
   exact ret_mk k k k (xz_tuple k (xB_cons (xB_one (k)) (xB_cons (k) xB_nil)))
  ·refine aops_lit 21 k q4 <| ae (w_load_ptr TT_ok k k k k k k k) k ?_
   obtain ⟨v5, hv5, h⟩ := ob h
   refine ae (AEff.conv (w_call0 (x := .own 1 0 (List.map (eLs 1 eI) v5).length) (nb := [(1, ⟨1, absEs (List.map (eLs 1 eI) v5)⟩)]) (c_impl_symmetric a0 v5 hv5) k (by rfl) k k (okLs.good _) (va_cons (va_agg' (v1_cons (v1_same k) (v1_cons (v1_same k) (v1_cons (v1_same k) v1_nil)))) va_nil)) (v' := .own 1 0 v5.length) (ed' := [(1, some ⟨1, List.map (ow (eLs 1 eI)) v5⟩)]) (by simp only [len_map]) (ed_ok (nb' := [(1, ⟨1, List.map (ow (eLs 1 eI)) v5⟩)]) (by simp only [abs_map]))) k <| am k k ?_
   obtain ⟨v6, hv6, h⟩ := ob h
   refine ae (x_at_own TT_ok (atL_nn hv6) (atL_lt hv6) k k k k k k k) k <| ae (w_load_ptr TT_ok k k k k (map_at (atL_get hv6)) k k) k <| am k k ?_
   obtain ⟨v7, hv7, h⟩ := ob h
   refine ae (x_at_list TT_ok hv7 k k k k k k) k <| ae (w_load_ref TT_ok k k k k k k) k <| ae (w_cmp k k k) k <| ae (eff_pick k k) k <| an <| tn <| ac_ent (t := mkS [(1, .list 1 (List.map eI a1)), (2, .int a2), (3, .ptr 0 0 0), (31, .bl (!decide (v7 = 2)))] [(0, ⟨3, [[.int a0.n, .list 1 (List.map eI a0.src), .list 1 (List.map eI a0.tgt)]]⟩)] 2 [2, 3, 4, 5]) (ent_mk (σ := sg [(0, 0)]) ⟨⟨_, k, ⟨k, k⟩⟩, (e1 k k), (pE k k), (e1 k k), trivial⟩ (hP k k k k <| trivial) k) ?_
   rcases cb h with ⟨q8, h⟩ | ⟨q8, h⟩
   ·refine ac_condT k q8 <| sQ <| rg <| aa k k <| aa k k <| an <| tn <| ac_ret <| then_ret ?_
    obtain rfl := so h
    exact ret_mk k k k (xz_tuple k (xB_cons (xB_one (k)) (xB_cons (k) xB_nil)))
   ·refine ac_condF k q8 <| ac_skip <| tn <| sQ <| rg <| am k k ?_
    obtain ⟨v9, hv9, h⟩ := ob h
    refine ae (AEff.conv (w_call0 (x := .own 2 0 (List.map eI v9).length) (nb := [(2, ⟨1, absEs (List.map eI v9)⟩)]) (c_Clone a1 v9 hv9) k (by rfl) k k (okI.good _) (va_cons (va_same k) va_nil)) (v' := .own 2 0 v9.length) (ed' := [(2, some ⟨1, List.map (ow eI) v9⟩)]) (by simp only [len_map]) (ed_ok (nb' := [(2, ⟨1, List.map (ow eI) v9⟩)]) (by simp only [abs_map]))) k <| aa k k <| an <| tn <| sQ <| sQ <| rg <| ae (w_load_ptr TT_ok k k k k k k k) k ?_
    obtain ⟨v10, hv10, h⟩ := ob h
    refine ae (AEff.conv (w_call0 (x := .own 3 0 (List.map (eLs 1 eI) v10).length) (nb := [(3, ⟨1, absEs (List.map (eLs 1 eI) v10)⟩)]) (c_impl_symmetric a0 v10 hv10) k (by rfl) k k (okLs.good _) (va_cons (va_agg' (v1_cons (v1_same k) (v1_cons (v1_same k) (v1_cons (v1_same k) v1_nil)))) va_nil)) (v' := .own 3 0 v10.length) (ed' := [(3, some ⟨1, List.map (ow (eLs 1 eI)) v10⟩)]) (by simp only [len_map]) (ed_ok (nb' := [(3, ⟨1, List.map (ow (eLs 1 eI)) v10⟩)]) (by simp only [abs_map]))) k <| am k k ?_
    obtain ⟨v11, hv11, h⟩ := ob h
    refine ae (x_at_own TT_ok (atL_nn hv11) (atL_lt hv11) k k k k k k k) k <| ae (w_load_ptr TT_ok k k k k (map_at (atL_get hv11)) k k) k <| ae (lenL TT_ok k k k) k <| am k k <| an <| tn <| ac_block ?_
    obtain ⟨y17, hy17, h⟩ := ob h
    refine ac_Lp (body := (m_impl_ReflectDims_L1 a1 a2 v11)) hy17 (fun (x1 : ((List Int) × Int)) => mkS [(1, .list 1 (List.map eI a1)), (2, .int a2), (8, .own 0 0 x1.1.length), (38, .list 1 (List.map eI v11)), (39, .int (v11.length : Int)), (40, .int x1.2)] [(0, ⟨1, List.map (ow eI) x1.1⟩)] 1 [1, 2, 3, 4, 5]) (fun r e t => e = .exit 0 ∧ Ent t (mkS [(8, .own 0 0 r.length)] [(0, ⟨1, List.map (ow eI) r⟩)] 1 [1, 2, 3, 4, 5])) (ent_mk (σ := sg [(0, 2)]) ⟨⟨_, k, ⟨k, k⟩⟩, (e1 k k), (oE k k), ⟨_, k, ⟨k, k⟩⟩, (e1 k k), (e1 k k), trivial⟩ (hI k k k <| trivial) k) ?_ ?_
    ·intro x1 o h
     refine sQ <| rg <| ae (w_cmp k k k) k <| an <| tn <| sQ ?_
     rcases cb h with ⟨q12, h⟩ | ⟨q12, h⟩
     ·refine ac_condT k q12 <| ac_skip <| tn <| sQ <| ac_block <| sQ <| rg <| am k k ?_
      obtain ⟨v13, hv13, h⟩ := ob h
      refine ae (x_at_list TT_ok hv13 k k k k k k) k <| ae (w_load_ref TT_ok k k k k k k) k <| aa k k <| aa k k <| an <| tn <| ac_region_draw MIXX <| am k k <| am k k ?_
      obtain ⟨v14, hv14, h⟩ := ob h
      refine ae (x_at_own TT_ok (atL_nn hv14) (atL_lt hv14) k k k k k k k) k <| ae (w_load_ptr TT_ok k k k k (map_at (atL_get hv14)) k k) k <| am k k <| am k k <| am k k ?_
      obtain ⟨v15, hv15, h⟩ := ob h
      refine ae (x_at_list TT_ok hv15 k k k k k k) k <| ae (w_load_ref TT_ok k k k k k k) k <| ae (x_mul k k) k <| ae (x_sub k k) k ?_
      obtain ⟨v16, hv16, h⟩ := ob h
      refine ae (x_at_own TT_ok (atL_nn hv16) (atL_lt hv16) k k k k k k k) k <| ae (x_store TT_ok okIo (u := wr (v14 - (wr (v13 * v15)))) (atL_get hv16) k k k k k k) k <| an ?_
      refine ⟨by kernel_rfl, ?_⟩
      refine block_n <| tn <| ac_ent (t := mkS [(1, .list 1 (List.map eI a1)), (2, .int a2), (8, .own 0 0 ((x1.1.set a2.toNat (wr (v14 - (wr (v13 * v15))))).length)), (38, .list 1 (List.map eI v11)), (39, .int (v11.length : Int)), (40, .int x1.2)] [(0, ⟨1, List.map (ow eI) (x1.1.set a2.toNat (wr (v14 - (wr (v13 * v15)))))⟩)] 1 [1, 2, 3, 4, 5]) (ent_mk (σ := sg [(0, 0)]) ⟨⟨_, k, ⟨k, k⟩⟩, (e1 k k), ⟨_, k, ⟨k, k, (by simp only [len_map, lA, lT, lR, lC, lN]), k⟩⟩, ⟨_, k, ⟨k, k⟩⟩, (e1 k k), (e1 k k), trivial⟩ (hI k k k <| trivial) k) <| rg <| ae (x_add k k) k <| am k k <| an <| tn ?_
      obtain rfl := so h
      exact ⟨_, k, (ent_mk (σ := sg [(0, 0)]) ⟨⟨_, k, ⟨k, k⟩⟩, (e1 k k), (oE k k), ⟨_, k, ⟨k, k⟩⟩, (e1 k k), (e1 k k), trivial⟩ (hI k k k <| trivial) k)⟩
     ·refine ac_condF k q12 <| ac_exit <| then_exit <| then_exit ?_
      obtain rfl := so h
      exact ⟨_, k, k, (ent_mk (σ := sg [(0, 0)]) ⟨(oE k k), trivial⟩ (hI k k k <| trivial) k)⟩
    ·rintro e t ⟨rfl, hent⟩
     refine block_here <| tn <| ac_ent hent <| sQ <| rg <| am k k <| aa k k <| aa k k <| an <| tn ?_
     refine ac_ret ?_
     obtain rfl := so h
     exact ret_mk k k k (xz_tuple k (xB_cons (xB_one (x_f1 okI k k)) (xB_cons (k) xB_nil)))

noncomputable def m_impl_ReflectWord_L1 (a0 : Qv) (a2 : (List Int)) (x1 : ((List Int) × Int)) : Option (((List Int) × Int) ⊕ ((List Int) ⊕ ((List Int) × Bool))) :=
  bif decide (x1.2 < (a2.length : Int)) then
    (Option.bind (atL a2 x1.2) fun v6 =>
    Option.bind (m_impl_ReflectDims a0 x1.1 v6) fun v7 =>
    bif !v7.2 then
      (some (.inr (.inr (([], false)))))
    else
      (some (.inl (v7.1, wr (x1.2 + 1)))))
  else
    (some (.inr (.inl x1.1)))

noncomputable def m_impl_ReflectWord (a0 : Qv) (a1 : (List Int)) (a2 : (List Int)) : Option ((List Int) × Bool) :=
  Option.bind (m_impl_areNumbers a0 a1) fun v1 =>
  bif !v1 then
    (some (([], false)))
  else
    (bif decide (200 < (a2.length : Int)) then
      (some (([], false)))
    else
      (Option.bind (m_Clone a1) fun v4 =>
      Option.bind (Lp (m_impl_ReflectWord_L1 a0 a2) (v4, 0)) fun y9 =>
      Sum.elim (fun y10 =>
        some ((y10, true))
      ) 
      (fun y11 =>
        some y11
      )
       y9))

theorem c_impl_ReflectWord (a0 : Qv) (a1 : (List Int)) (a2 : (List Int)) (r : ((List Int) × Bool)) (h : m_impl_ReflectWord a0 a1 a2 = some r) : HasC Try.prog 52 [.agg (eQ a0), .list 1 (List.map eI a1), .list 1 (List.map eI a2)] (.tuple [.list 1 (List.map eI r.1), .bl r.2]) := by
 refine hasC_mk TT_ok (rvs := [.tmp 6, .tmp 7]) (ns := [0, 1, 2, 3, 4]) Try.func52 k k Try.ntmps52 k k k <| sQ <| rg <| ae (w_box k k k k) k <| aa k k <| aa k k <| an <| tn <| sQ <| sQ ?_
 refine rg <| ae (w_load_ptr TT_ok k k k k k k k) k <| am k k ?_
 obtain ⟨v1, hv1, h⟩ := ob h
 refine ae (w_call0s (c_impl_areNumbers a0 a1 v1 hv1) k (va_cons (va_agg' (v1_cons (v1_same k) (v1_cons (v1_same k) (v1_cons (v1_same k) v1_nil)))) (va_cons (va_same k) va_nil))) k <| ae (w_not k) k <| am k k ?_
 rcases cb h with ⟨q2, h⟩ | ⟨q2, h⟩
 ·refine aops_lit 16 k q2 <| ak k k <| ak k k <| ak k k <| ae (eff_pick k k) k <| an <| tn <| ac_ent (t := mkS [(1, .list 1 (List.map eI a1)), (2, .list 1 (List.map eI a2)), (3, .ptr 0 0 0), (20, .bl true)] [(0, ⟨3, [[.int a0.n, .list 1 (List.map eI a0.src), .list 1 (List.map eI a0.tgt)]]⟩)] 1 [1, 2, 3, 4]) (ent_mk (σ := sg [(0, 0)]) ⟨⟨_, k, ⟨k, k⟩⟩, ⟨_, k, ⟨k, k⟩⟩, (pE k k), (e1 k k), trivial⟩ (hP k k k k <| trivial) k) <| ac_condT k k <| sQ ?_
  refine rg <| aa k k <| aa k k <| an <| tn <| ac_ret <| then_ret ?_
  obtain rfl := so h
  exact ret_mk k k k (xz_tuple k (xB_cons (xB_one (k)) (xB_cons (k) xB_nil)))
 ·refine aops_lit 16 k q2 <| am k k <| ae (lenL TT_ok k k k) k <| ae (w_cmp k k k) k <| ae (eff_pick k k) k <| an <| tn <| ac_ent (t := mkS [(1, .list 1 (List.map eI a1)), (2, .list 1 (List.map eI a2)), (3, .ptr 0 0 0), (20, .bl (decide (200 < (a2.length : Int))))] [(0, ⟨3, [[.int a0.n, .list 1 (List.map eI a0.src), .list 1 (List.map eI a0.tgt)]]⟩)] 1 [1, 2, 3, 4]) (ent_mk (σ := sg [(0, 0)]) ⟨⟨_, k, ⟨k, k⟩⟩, ⟨_, k, ⟨k, k⟩⟩, (pE k k), (e1 k k), trivial⟩ (hP k k k k <| trivial) k) ?_
  rcases cb h with ⟨q3, h⟩ | ⟨q3, h⟩
  ·refine ac_condT k q3 <| sQ <| rg <| aa k k <| aa k k <| an <| tn <| ac_ret <| then_ret ?_
   obtain rfl := so h
   exact ret_mk k k k (xz_tuple k (xB_cons (xB_one (k)) (xB_cons (k) xB_nil)))
  ·refine ac_condF k q3 <| ac_skip <| tn <| sQ <| rg <| am k k ?_
   obtain ⟨v4, hv4, h⟩ := ob h
   refine ae (AEff.conv (w_call0 (x := .own 1 0 (List.map eI v4).length) (nb := [(1, ⟨1, absEs (List.map eI v4)⟩)]) (c_Clone a1 v4 hv4) k (by rfl) k k (okI.good _) (va_cons (va_same k) va_nil)) (v' := .own 1 0 v4.length) (ed' := [(1, some ⟨1, List.map (ow eI) v4⟩)]) (by simp only [len_map]) (ed_ok (nb' := [(1, ⟨1, List.map (ow eI) v4⟩)]) (by simp only [abs_map]))) k <| aa k k <| aa k k <| an <| tn <| sQ <| sQ <| rg <| am k k <| ae (lenL TT_ok k k k) k ?_
   refine am k k <| an <| tn <| ac_block ?_
   obtain ⟨y9, hy9, h⟩ := ob h
   refine ac_Lp (body := (m_impl_ReflectWord_L1 a0 a2)) hy9 (fun (x1 : ((List Int) × Int)) => mkS [(3, .ptr 0 0 0), (8, .own 1 0 x1.1.length), (23, .list 1 (List.map eI a2)), (24, .int (a2.length : Int)), (25, .int x1.2)] [(0, ⟨3, [[.int a0.n, .list 1 (List.map eI a0.src), .list 1 (List.map eI a0.tgt)]]⟩), (1, ⟨1, List.map (ow eI) x1.1⟩)] 2 [2, 3, 4]) (fun r e t => Sum.elim (fun a => (fun r e t => e = .exit 0 ∧ Ent t (mkS [(8, .own 0 0 r.length)] [(0, ⟨1, List.map (ow eI) r⟩)] 1 [1, 2, 3, 4])) a e t) (fun b => (fun r e t => e = .ret ∧ RetQ TT [.tmp 6, .tmp 7] (.tuple [.list 1 (List.map eI r.1), .bl r.2]) .ret t) b e t) r) (ent_mk (σ := sg [(0, 0), (1, 1)]) ⟨(pE k k), (oE k k), ⟨_, k, ⟨k, k⟩⟩, (e1 k k), (e1 k k), trivial⟩ (hP k k k k <| hI k k k <| trivial) k) ?_ ?_
   ·intro x1 o h
    refine sQ <| rg <| ae (w_cmp k k k) k <| an <| tn <| sQ ?_
    rcases cb h with ⟨q5, h⟩ | ⟨q5, h⟩
    ·refine ac_condT k q5 <| ac_skip <| tn <| sQ <| ac_block <| sQ <| rg ?_
     obtain ⟨v6, hv6, h⟩ := ob h
     refine ae (x_at_list TT_ok hv6 k k k k k k) k <| ae (w_load_ref TT_ok k k k k k k) k <| aa k k <| an <| tn <| sQ <| rg <| ae (w_load_ptr TT_ok k k k k k k k) k <| am k k <| am k k ?_
     obtain ⟨v7, hv7, h⟩ := ob h
     refine ae (AEff.conv (w_call0 (x := .tuple [.own 2 0 (List.map eI v7.1).length, .bl v7.2]) (nb := [(2, ⟨1, absEs (List.map eI v7.1)⟩)]) (c_impl_ReflectDims a0 x1.1 v6 v7 hv7) k (by rfl) k k (gB_cons (okI.good _) (gB_cons trivial gB_nil)) (va_cons (va_agg' (v1_cons (v1_same k) (v1_cons (v1_same k) (v1_cons (v1_same k) v1_nil)))) (va_cons (va_T okI k k) (va_cons (va_same k) va_nil)))) (v' := .tuple [.own 2 0 v7.1.length, .bl v7.2]) (ed' := [(2, some ⟨1, List.map (ow eI) v7.1⟩)]) (by simp only [len_map]) (ed_ok (nb' := [(2, ⟨1, List.map (ow eI) v7.1⟩)]) (by simp only [abs_map]))) k <| am k k <| ae (eff_extract k k (by intro _ h; cases h)) k <| ae (eff_extract k k (by intro _ h; cases h)) k <| aa k k <| aa k k <| an <| tn <| ac_ent (t := mkS [(3, .ptr 0 0 0), (8, .own 2 0 v7.1.length), (9, .bl v7.2), (23, .list 1 (List.map eI a2)), (24, .int (a2.length : Int)), (25, .int x1.2)] [(0, ⟨3, [[.int a0.n, .list 1 (List.map eI a0.src), .list 1 (List.map eI a0.tgt)]]⟩), (2, ⟨1, List.map (ow eI) v7.1⟩)] 3 [3, 4]) (ent_mk (σ := sg [(0, 0), (2, 2)]) ⟨(pE k k), (oE k k), (e1 k k), ⟨_, k, ⟨k, k⟩⟩, (e1 k k), (e1 k k), trivial⟩ (hP k k k k <| hI k k k <| trivial) k) <| sQ ?_
     refine rg <| am k k <| ae (w_not k) k <| an <| tn ?_
     rcases cb h with ⟨q8, h⟩ | ⟨q8, h⟩
     ·refine ac_condT k q8 <| sQ <| rg <| aa k k <| aa k k <| an <| tn <| ac_ret <| block_ret <| then_ret ?_
      refine then_ret ?_
      obtain rfl := so h
      exact ⟨_, k, k, ret_mk k k k (xz_tuple k (xB_cons (xB_one (k)) (xB_cons (k) xB_nil)))⟩
     ·refine ac_condF k q8 <| ac_skip <| block_n <| tn <| rg <| ae (x_add k k) k <| am k k <| an <| tn ?_
      obtain rfl := so h
      exact ⟨_, k, (ent_mk (σ := sg [(0, 0), (1, 2)]) ⟨(pE k k), (oE k k), ⟨_, k, ⟨k, k⟩⟩, (e1 k k), (e1 k k), trivial⟩ (hP k k k k <| hI k k k <| trivial) k)⟩
    ·refine ac_condF k q5 <| ac_exit <| then_exit <| then_exit ?_
     obtain rfl := so h
     exact ⟨_, k, k, (ent_mk (σ := sg [(0, 1)]) ⟨(oE k k), trivial⟩ (hI k k k <| trivial) k)⟩
   ·intro e t hX
    rcases y9 with y10 | y11
    ·obtain ⟨rfl, hent⟩ := hX
     refine block_here <| tn <| ac_ent hent <| sQ <| rg <| am k k <| aa k k <| aa k k <| an <| tn ?_
     refine ac_ret ?_
     obtain rfl := so h
     exact ret_mk k k k (xz_tuple k (xB_cons (xB_one (x_f1 okI k k)) (xB_cons (k) xB_nil)))
    ·obtain ⟨rfl, hent⟩ := hX
     refine block_ret <| then_ret ?_
     obtain rfl := so h
     exact hent

noncomputable def m_impl_CoxeterPower_L1 (a0 : Qv) (a2 : Int) (v8 : (List Int)) (x1 : ((List Int) × Int)) : Option (((List Int) × Int) ⊕ ((List Int) ⊕ ((List Int) × Bool))) :=
  bif decide (x1.2 < max a2 (wr (-a2))) then
    (Option.bind (m_impl_ReflectWord a0 x1.1 v8) fun v12 =>
    bif !v12.2 then
      (some (.inr (.inr (([], false)))))
    else
      (some (.inl (v12.1, wr (x1.2 + 1)))))
  else
    (some (.inr (.inl x1.1)))

noncomputable def m_impl_CoxeterPower_L2 (a0 : Qv) (a2 : Int) (v1 : ((List Int) × Bool)) (x2 : ((List Int) × Int)) : Option (((List Int) × Int) ⊕ ((List Int) ⊕ ((List Int) × Bool))) :=
  bif decide (x2.2 < max a2 (wr (-a2))) then
    (Option.bind (m_impl_ReflectWord a0 x2.1 v1.1) fun v19 =>
    bif !v19.2 then
      (some (.inr (.inr (([], false)))))
    else
      (some (.inl (v19.1, wr (x2.2 + 1)))))
  else
    (some (.inr (.inl x2.1)))

noncomputable def m_impl_CoxeterPower (a0 : Qv) (a1 : (List Int)) (a2 : Int) : Option ((List Int) × Bool) :=
  Option.bind (m_impl_CoxeterOrder a0) fun v1 =>
  bif !v1.2 then
    (some (([], false)))
  else
    (Option.bind (m_impl_areNumbers a0 a1) fun v3 =>
    bif !v3 then
      (some (([], false)))
    else
      (Option.bind (m_impl_within a2 (-40) 40) fun v5 =>
      bif !v5 then
        (some (([], false)))
      else
        (bif decide (a2 < 0) then
          (Option.bind (m_slices_Reverse_Lint_int v1.1) fun v8 =>
          bif decide (v8.length = v1.1.length) then
            (Option.bind (m_Clone a1) fun v10 =>
            Option.bind (Lp (m_impl_CoxeterPower_L1 a0 a2 v8) (v10, 0)) fun y14 =>
            Sum.elim (fun y15 =>
              some ((y15, true))
            ) 
            (fun y16 =>
              some y16
            )
             y14)
          else none)
        else
          (Option.bind (m_Clone a1) fun v17 =>
          Option.bind (Lp (m_impl_CoxeterPower_L2 a0 a2 v1) (v17, 0)) fun y21 =>
          Sum.elim (fun y22 =>
            some ((y22, true))
          ) 
          (fun y23 =>
            some y23
          )
           y21))))

theorem c_impl_CoxeterPower (a0 : Qv) (a1 : (List Int)) (a2 : Int) (r : ((List Int) × Bool)) (h : m_impl_CoxeterPower a0 a1 a2 = some r) : HasC Try.prog 33 [.agg (eQ a0), .list 1 (List.map eI a1), .int a2] (.tuple [.list 1 (List.map eI r.1), .bl r.2]) := by
 refine hasC_mk TT_ok (rvs := [.tmp 6, .tmp 7]) (ns := [0, 1, 2, 3, 4, 5]) Try.func33 k k Try.ntmps33 k k k <| sQ <| rg <| ae (w_box k k k k) k <| aa k k <| aa k k <| an <| tn <| sQ <| rg ?_
 refine ae (w_load_ptr TT_ok k k k k k k k) k ?_
 obtain ⟨v1, hv1, h⟩ := ob h
 refine ae (AEff.conv (w_call0 (x := .tuple [.own 1 0 (List.map eI v1.1).length, .bl v1.2]) (nb := [(1, ⟨1, absEs (List.map eI v1.1)⟩)]) (c_impl_CoxeterOrder a0 v1 hv1) k (by rfl) k k (gB_cons (okI.good _) (gB_cons trivial gB_nil)) (va_cons (va_agg' (v1_cons (v1_same k) (v1_cons (v1_same k) (v1_cons (v1_same k) v1_nil)))) va_nil)) (v' := .tuple [.own 1 0 v1.1.length, .bl v1.2]) (ed' := [(1, some ⟨1, List.map (ow eI) v1.1⟩)]) (by simp only [len_map]) (ed_ok (nb' := [(1, ⟨1, List.map (ow eI) v1.1⟩)]) (by simp only [abs_map]))) k <| am k k <| ae (eff_extract k k (by intro _ h; cases h)) k <| ae (eff_extract k k (by intro _ h; cases h)) k <| aa k k <| aa k k <| an <| tn <| sQ <| sQ ?_
 refine rg <| am k k <| ae (w_not k) k <| am k k ?_
 rcases cb h with ⟨q2, h⟩ | ⟨q2, h⟩
 ·refine aops_lit 18 k q2 <| ak k k <| ak k k <| ak k k <| ak k k <| ae (eff_pick k k) k <| am k k <| ak k k <| ak k k <| ak k k ?_
  refine ae (eff_pick k k) k <| an <| tn <| ac_ent (t := mkS [(1, .list 1 (List.map eI a1)), (2, .int a2), (3, .ptr 0 0 0), (8, .own 1 0 v1.1.length), (28, .bl true)] [(0, ⟨3, [[.int a0.n, .list 1 (List.map eI a0.src), .list 1 (List.map eI a0.tgt)]]⟩), (1, ⟨1, List.map (ow eI) v1.1⟩)] 2 [2, 3, 4, 5]) (ent_mk (σ := sg [(0, 0), (1, 1)]) ⟨⟨_, k, ⟨k, k⟩⟩, (e1 k k), (pE k k), (oE k k), (e1 k k), trivial⟩ (hP k k k k <| hI k k k <| trivial) k) <| ac_condT k k <| sQ <| rg <| aa k k <| aa k k <| an ?_
  refine tn <| ac_ret <| then_ret ?_
  obtain rfl := so h
  exact ret_mk k k k (xz_tuple k (xB_cons (xB_one (k)) (xB_cons (k) xB_nil)))
 ·refine aops_lit 18 k q2 <| ae (w_load_ptr TT_ok k k k k k k k) k <| am k k ?_
  obtain ⟨v3, hv3, h⟩ := ob h
  refine ae (w_call0s (c_impl_areNumbers a0 a1 v3 hv3) k (va_cons (va_agg' (v1_cons (v1_same k) (v1_cons (v1_same k) (v1_cons (v1_same k) v1_nil)))) (va_cons (va_same k) va_nil))) k <| ae (w_not k) k <| ae (eff_pick k k) k <| am k k ?_
  rcases cb h with ⟨q4, h⟩ | ⟨q4, h⟩
  ·refine aops_lit 24 k q4 <| ak k k <| ak k k <| ak k k <| ae (eff_pick k k) k <| an <| tn <| ac_ent (t := mkS [(1, .list 1 (List.map eI a1)), (2, .int a2), (3, .ptr 0 0 0), (8, .own 1 0 v1.1.length), (28, .bl true)] [(0, ⟨3, [[.int a0.n, .list 1 (List.map eI a0.src), .list 1 (List.map eI a0.tgt)]]⟩), (1, ⟨1, List.map (ow eI) v1.1⟩)] 2 [2, 3, 4, 5]) (ent_mk (σ := sg [(0, 0), (1, 1)]) ⟨⟨_, k, ⟨k, k⟩⟩, (e1 k k), (pE k k), (oE k k), (e1 k k), trivial⟩ (hP k k k k <| hI k k k <| trivial) k) <| ac_condT k k <| sQ ?_
   refine rg <| aa k k <| aa k k <| an <| tn <| ac_ret <| then_ret ?_
   obtain rfl := so h
   exact ret_mk k k k (xz_tuple k (xB_cons (xB_one (k)) (xB_cons (k) xB_nil)))
  ·refine aops_lit 24 k q4 <| am k k ?_
   obtain ⟨v5, hv5, h⟩ := ob h
   refine ae (w_call0s (c_impl_within a2 (-40) 40 v5 hv5) k (va_cons (va_same k) (va_cons (va_same k) (va_cons (va_same k) va_nil)))) k <| ae (w_not k) k <| ae (eff_pick k k) k <| an <| tn <| ac_ent (t := mkS [(1, .list 1 (List.map eI a1)), (2, .int a2), (3, .ptr 0 0 0), (8, .own 1 0 v1.1.length), (28, .bl (!v5))] [(0, ⟨3, [[.int a0.n, .list 1 (List.map eI a0.src), .list 1 (List.map eI a0.tgt)]]⟩), (1, ⟨1, List.map (ow eI) v1.1⟩)] 2 [2, 3, 4, 5]) (ent_mk (σ := sg [(0, 0), (1, 1)]) ⟨⟨_, k, ⟨k, k⟩⟩, (e1 k k), (pE k k), (oE k k), (e1 k k), trivial⟩ (hP k k k k <| hI k k k <| trivial) k) ?_
   rcases cb h with ⟨q6, h⟩ | ⟨q6, h⟩
   ·refine ac_condT k q6 <| sQ <| rg <| aa k k <| aa k k <| an <| tn <| ac_ret <| then_ret ?_
    obtain rfl := so h
    exact ret_mk k k k (xz_tuple k (xB_cons (xB_one (k)) (xB_cons (k) xB_nil)))
   ·refine ac_condF k q6 <| ac_skip <| tn <| sQ <| sQ <| rg <| am k k <| ae (w_cmp k k k) k <| an <| tn ?_
    rcases cb h with ⟨q7, h⟩ | ⟨q7, h⟩
    ·refine ac_condT k q7 <| rg <| am k k ?_
     obtain ⟨v8, hv8, h⟩ := ob h
     refine ae (eff_hasD (σ := sg [(0, 1)]) (σ' := sg [(1, 0)]) (touch := [1]) (news := []) (hl2 := [(1, ⟨1, List.map (ow eI) v8⟩)]) (n' := 2) (r2 := .tuple []) (c_slices_Reverse_Lint_int v1.1 v8 hv8) k k ⟨_, _, k, (.inl ⟨k, k, k, k⟩), k⟩ ⟨⟨_, k, k, .inl ⟨k, okI.plainO _⟩⟩, k, trivial⟩ k k k ⟨⟨_, k, k, .inl ⟨k, okI.plainO _⟩⟩, k, trivial⟩ k (.inr ⟨_, _, k, k, k⟩) k ⟨k, okI.tamd _ _, trivial⟩ k k) k ?_
     obtain ⟨q9, h⟩ := cg h
     refine an <| tn <| sQ <| rg <| am k k ?_
     obtain ⟨v10, hv10, h⟩ := ob h
     refine ae (AEff.conv (w_call0 (x := .own 2 0 (List.map eI v10).length) (nb := [(2, ⟨1, absEs (List.map eI v10)⟩)]) (c_Clone a1 v10 hv10) k (by rfl) k k (okI.good _) (va_cons (va_same k) va_nil)) (v' := .own 2 0 v10.length) (ed' := [(2, some ⟨1, List.map (ow eI) v10⟩)]) (by simp only [len_map]) (ed_ok (nb' := [(2, ⟨1, List.map (ow eI) v10⟩)]) (by simp only [abs_map]))) k <| aa k k <| an <| tn <| sQ <| sQ <| rg <| am k k <| am k k <| ae (x_neg k) k ?_
     refine ae (x_max k k) k <| am k k <| an <| tn <| ac_ent (t := mkS [(3, .ptr 0 0 0), (8, .own 1 0 v8.length), (10, .own 2 0 v10.length), (38, .int (max a2 (wr (-a2)))), (39, .int 0)] [(0, ⟨3, [[.int a0.n, .list 1 (List.map eI a0.src), .list 1 (List.map eI a0.tgt)]]⟩), (1, ⟨1, List.map (ow eI) v8⟩), (2, ⟨1, List.map (ow eI) v10⟩)] 3 [3, 4, 5]) (ent_mk (σ := sg [(0, 0), (1, 1), (2, 2)]) ⟨(pE k k), ⟨_, k, ⟨k, k, (by simp only [len_map, lA, lT, lR, lC, lN, of_decide_eq_true q9]), k⟩⟩, (oE k k), (e1 k k), (e1 k k), trivial⟩ (hP k k k k <| hI k k k <| hI k k k <| trivial) k) <| ac_block ?_
     obtain ⟨y14, hy14, h⟩ := ob h
     refine ac_Lp (body := (m_impl_CoxeterPower_L1 a0 a2 v8)) hy14 (fun (x1 : ((List Int) × Int)) => mkS [(3, .ptr 0 0 0), (8, .own 1 0 v8.length), (10, .own 2 0 x1.1.length), (38, .int (max a2 (wr (-a2)))), (39, .int x1.2)] [(0, ⟨3, [[.int a0.n, .list 1 (List.map eI a0.src), .list 1 (List.map eI a0.tgt)]]⟩), (1, ⟨1, List.map (ow eI) v8⟩), (2, ⟨1, List.map (ow eI) x1.1⟩)] 3 [3, 4, 5]) (fun r e t => Sum.elim (fun a => (fun r e t => e = .exit 0 ∧ Ent t (mkS [(10, .own 0 0 r.length)] [(0, ⟨1, List.map (ow eI) r⟩)] 1 [1, 2, 3, 4, 5])) a e t) (fun b => (fun r e t => e = .ret ∧ RetQ TT [.tmp 6, .tmp 7] (.tuple [.list 1 (List.map eI r.1), .bl r.2]) .ret t) b e t) r) (ent_mk (σ := sg [(0, 0), (1, 1), (2, 2)]) ⟨(pE k k), (oE k k), (oE k k), (e1 k k), (e1 k k), trivial⟩ (hP k k k k <| hI k k k <| hI k k k <| trivial) k) ?_ ?_
     ·intro x1 o h
      refine sQ <| rg <| ae (w_cmp k k k) k <| an <| tn <| sQ ?_
      rcases cb h with ⟨q11, h⟩ | ⟨q11, h⟩
      ·refine ac_condT k q11 <| ac_skip <| tn <| sQ <| ac_block <| sQ <| rg <| ae (w_load_ptr TT_ok k k k k k k k) k <| am k k <| am k k ?_
       obtain ⟨v12, hv12, h⟩ := ob h
       refine ae (AEff.conv (w_call0 (x := .tuple [.own 3 0 (List.map eI v12.1).length, .bl v12.2]) (nb := [(3, ⟨1, absEs (List.map eI v12.1)⟩)]) (c_impl_ReflectWord a0 x1.1 v8 v12 hv12) k (by rfl) k k (gB_cons (okI.good _) (gB_cons trivial gB_nil)) (va_cons (va_agg' (v1_cons (v1_same k) (v1_cons (v1_same k) (v1_cons (v1_same k) v1_nil)))) (va_cons (va_T okI k k) (va_cons (va_T okI k (by first | rfl | simp only [List.length_set, of_decide_eq_true q9])) va_nil)))) (v' := .tuple [.own 3 0 v12.1.length, .bl v12.2]) (ed' := [(3, some ⟨1, List.map (ow eI) v12.1⟩)]) (by simp only [len_map]) (ed_ok (nb' := [(3, ⟨1, List.map (ow eI) v12.1⟩)]) (by simp only [abs_map]))) k <| am k k <| ae (eff_extract k k (by intro _ h; cases h)) k <| ae (eff_extract k k (by intro _ h; cases h)) k <| aa k k <| aa k k <| an <| tn <| sQ <| rg ?_
       refine am k k <| ae (w_not k) k <| an <| tn <| ac_ent (t := mkS [(3, .ptr 0 0 0), (8, .own 1 0 v8.length), (10, .own 3 0 v12.1.length), (38, .int (max a2 (wr (-a2)))), (39, .int x1.2), (49, .bl (!v12.2))] [(0, ⟨3, [[.int a0.n, .list 1 (List.map eI a0.src), .list 1 (List.map eI a0.tgt)]]⟩), (1, ⟨1, List.map (ow eI) v8⟩), (3, ⟨1, List.map (ow eI) v12.1⟩)] 4 [4, 5]) (ent_mk (σ := sg [(0, 0), (1, 1), (3, 3)]) ⟨(pE k k), (oE k k), (oE k k), (e1 k k), (e1 k k), (e1 k k), trivial⟩ (hP k k k k <| hI k k k <| hI k k k <| trivial) k) ?_
       rcases cb h with ⟨q13, h⟩ | ⟨q13, h⟩
       ·refine ac_condT k q13 <| sQ <| rg <| aa k k <| aa k k <| an <| tn <| ac_ret <| block_ret <| then_ret ?_
        refine then_ret ?_
        obtain rfl := so h
        exact ⟨_, k, k, ret_mk k k k (xz_tuple k (xB_cons (xB_one (k)) (xB_cons (k) xB_nil)))⟩
       ·refine ac_condF k q13 <| ac_skip <| block_n <| tn <| rg <| ae (x_add k k) k <| am k k <| an <| tn ?_
        obtain rfl := so h
        exact ⟨_, k, (ent_mk (σ := sg [(0, 0), (1, 1), (2, 3)]) ⟨(pE k k), (oE k k), (oE k k), (e1 k k), (e1 k k), trivial⟩ (hP k k k k <| hI k k k <| hI k k k <| trivial) k)⟩
      ·refine ac_condF k q11 <| ac_exit <| then_exit <| then_exit ?_
       obtain rfl := so h
       exact ⟨_, k, k, (ent_mk (σ := sg [(0, 2)]) ⟨(oE k k), trivial⟩ (hI k k k <| trivial) k)⟩
     ·intro e t hX
      rcases y14 with y15 | y16
      ·obtain ⟨rfl, hent⟩ := hX
       refine block_here <| tn <| ac_ent hent <| sQ <| rg <| am k k <| aa k k <| aa k k <| an <| tn ?_
       refine ac_ret ?_
       obtain rfl := so h
       exact ret_mk k k k (xz_tuple k (xB_cons (xB_one (x_f1 okI k k)) (xB_cons (k) xB_nil)))
      ·obtain ⟨rfl, hent⟩ := hX
       refine block_ret <| then_ret ?_
       obtain rfl := so h
       exact hent
    ·refine ac_condF k q7 <| ac_skip <| tn <| sQ <| rg <| am k k ?_
     obtain ⟨v17, hv17, h⟩ := ob h
     refine ae (AEff.conv (w_call0 (x := .own 2 0 (List.map eI v17).length) (nb := [(2, ⟨1, absEs (List.map eI v17)⟩)]) (c_Clone a1 v17 hv17) k (by rfl) k k (okI.good _) (va_cons (va_same k) va_nil)) (v' := .own 2 0 v17.length) (ed' := [(2, some ⟨1, List.map (ow eI) v17⟩)]) (by simp only [len_map]) (ed_ok (nb' := [(2, ⟨1, List.map (ow eI) v17⟩)]) (by simp only [abs_map]))) k <| aa k k <| an <| tn <| sQ <| sQ <| rg <| am k k <| am k k <| ae (x_neg k) k ?_
     refine ae (x_max k k) k <| am k k <| an <| tn <| ac_block ?_
     obtain ⟨y21, hy21, h⟩ := ob h
     refine ac_Lp (body := (m_impl_CoxeterPower_L2 a0 a2 v1)) hy21 (fun (x2 : ((List Int) × Int)) => mkS [(3, .ptr 0 0 0), (8, .own 1 0 v1.1.length), (10, .own 2 0 x2.1.length), (38, .int (max a2 (wr (-a2)))), (39, .int x2.2)] [(0, ⟨3, [[.int a0.n, .list 1 (List.map eI a0.src), .list 1 (List.map eI a0.tgt)]]⟩), (1, ⟨1, List.map (ow eI) v1.1⟩), (2, ⟨1, List.map (ow eI) x2.1⟩)] 3 [3, 4, 5]) (fun r e t => Sum.elim (fun a => (fun r e t => e = .exit 0 ∧ Ent t (mkS [(10, .own 0 0 r.length)] [(0, ⟨1, List.map (ow eI) r⟩)] 1 [1, 2, 3, 4, 5])) a e t) (fun b => (fun r e t => e = .ret ∧ RetQ TT [.tmp 6, .tmp 7] (.tuple [.list 1 (List.map eI r.1), .bl r.2]) .ret t) b e t) r) (ent_mk (σ := sg [(0, 0), (1, 1), (2, 2)]) ⟨(pE k k), (oE k k), (oE k k), (e1 k k), (e1 k k), trivial⟩ (hP k k k k <| hI k k k <| hI k k k <| trivial) k) ?_ ?_
     ·intro x2 o h
      refine sQ <| rg <| ae (w_cmp k k k) k <| an <| tn <| sQ ?_
      rcases cb h with ⟨q18, h⟩ | ⟨q18, h⟩
      ·refine ac_condT k q18 <| ac_skip <| tn <| sQ <| ac_block <| sQ <| rg <| ae (w_load_ptr TT_ok k k k k k k k) k <| am k k <| am k k ?_
       obtain ⟨v19, hv19, h⟩ := ob h
       refine ae (AEff.conv (w_call0 (x := .tuple [.own 3 0 (List.map eI v19.1).length, .bl v19.2]) (nb := [(3, ⟨1, absEs (List.map eI v19.1)⟩)]) (c_impl_ReflectWord a0 x2.1 v1.1 v19 hv19) k (by rfl) k k (gB_cons (okI.good _) (gB_cons trivial gB_nil)) (va_cons (va_agg' (v1_cons (v1_same k) (v1_cons (v1_same k) (v1_cons (v1_same k) v1_nil)))) (va_cons (va_T okI k k) (va_cons (va_T okI k k) va_nil)))) (v' := .tuple [.own 3 0 v19.1.length, .bl v19.2]) (ed' := [(3, some ⟨1, List.map (ow eI) v19.1⟩)]) (by simp only [len_map]) (ed_ok (nb' := [(3, ⟨1, List.map (ow eI) v19.1⟩)]) (by simp only [abs_map]))) k <| am k k <| ae (eff_extract k k (by intro _ h; cases h)) k <| ae (eff_extract k k (by intro _ h; cases h)) k <| aa k k <| aa k k <| an <| tn <| sQ <| rg ?_
       refine am k k <| ae (w_not k) k <| an <| tn <| ac_ent (t := mkS [(3, .ptr 0 0 0), (8, .own 1 0 v1.1.length), (10, .own 3 0 v19.1.length), (38, .int (max a2 (wr (-a2)))), (39, .int x2.2), (49, .bl (!v19.2))] [(0, ⟨3, [[.int a0.n, .list 1 (List.map eI a0.src), .list 1 (List.map eI a0.tgt)]]⟩), (1, ⟨1, List.map (ow eI) v1.1⟩), (3, ⟨1, List.map (ow eI) v19.1⟩)] 4 [4, 5]) (ent_mk (σ := sg [(0, 0), (1, 1), (3, 3)]) ⟨(pE k k), (oE k k), (oE k k), (e1 k k), (e1 k k), (e1 k k), trivial⟩ (hP k k k k <| hI k k k <| hI k k k <| trivial) k) ?_
       rcases cb h with ⟨q20, h⟩ | ⟨q20, h⟩
       ·refine ac_condT k q20 <| sQ <| rg <| aa k k <| aa k k <| an <| tn <| ac_ret <| block_ret <| then_ret ?_
        refine then_ret ?_
        obtain rfl := so h
        exact ⟨_, k, k, ret_mk k k k (xz_tuple k (xB_cons (xB_one (k)) (xB_cons (k) xB_nil)))⟩
       ·refine ac_condF k q20 <| ac_skip <| block_n <| tn <| rg <| ae (x_add k k) k <| am k k <| an <| tn ?_
        obtain rfl := so h
        exact ⟨_, k, (ent_mk (σ := sg [(0, 0), (1, 1), (2, 3)]) ⟨(pE k k), (oE k k), (oE k k), (e1 k k), (e1 k k), trivial⟩ (hP k k k k <| hI k k k <| hI k k k <| trivial) k)⟩
      ·refine ac_condF k q18 <| ac_exit <| then_exit <| then_exit ?_
       obtain rfl := so h
       exact ⟨_, k, k, (ent_mk (σ := sg [(0, 2)]) ⟨(oE k k), trivial⟩ (hI k k k <| trivial) k)⟩
     ·intro e t hX
      rcases y21 with y22 | y23
      ·obtain ⟨rfl, hent⟩ := hX
       refine block_here <| tn <| ac_ent hent <| sQ <| rg <| am k k <| aa k k <| aa k k <| an <| tn ?_
       refine ac_ret ?_
       obtain rfl := so h
       exact ret_mk k k k (xz_tuple k (xB_cons (xB_one (x_f1 okI k k)) (xB_cons (k) xB_nil)))
      ·obtain ⟨rfl, hent⟩ := hX
       refine block_ret <| then_ret ?_
       obtain rfl := so h
       exact hent

def m_impl_Quiver_end (a0 : Qv) (a1 : Pa) : Option Int :=
  bif decide ((a1.arrows.length : Int) = 0) then
    (some (a1.start))
  else
    (Option.bind (atL a1.arrows (wr ((a1.arrows.length : Int) - 1))) fun v2 =>
    Option.bind (atL a0.tgt v2) fun v3 =>
    some (v3))

theorem c_impl_Quiver_end (a0 : Qv) (a1 : Pa) (r : Int) (h : m_impl_Quiver_end a0 a1 = some r) : HasC Try.prog 84 [.agg (eQ a0), .agg (ePa a1)] (.int r) := by
 refine hasC_mk TT_ok (rvs := [.tmp 4]) (ns := [0, 1, 2, 3]) Try.func84 k k Try.ntmps84 k k k <| sQ <| rg <| ae (w_box k k k k) k <| ae (w_box k k k k) k <| aa k k <| an <| tn <| sQ <| sQ ?_
 refine rg <| ae (w_field_ptr TT_ok k k k k k k k) k <| ae (w_load_ptr TT_ok k k k k k k k) k <| ae (lenL TT_ok k k k) k <| ae (w_cmp k k k) k <| an <| tn ?_
 rcases cb h with ⟨q1, h⟩ | ⟨q1, h⟩
 ·refine ac_condT k q1 <| sQ <| rg <| ae (w_field_ptr TT_ok k k k k k k k) k <| ae (w_load_ptr TT_ok k k k k k k k) k <| aa k k <| an <| tn <| ac_ret <| then_ret ?_
  obtain rfl := so h
  exact ret_mk k k k (fz_int k)
 ·refine ac_condF k q1 <| ac_skip <| tn <| sQ <| ac_region_draw MIXX <| ae (w_field_ptr TT_ok k k k k k k k) k <| ae (w_load_ptr TT_ok k k k k k k k) k <| ae (w_field_ptr TT_ok k k k k k k k) k <| ae (w_load_ptr TT_ok k k k k k k k) k <| ae (w_field_ptr TT_ok k k k k k k k) k ?_
  refine ae (w_load_ptr TT_ok k k k k k k k) k <| ae (lenL TT_ok k k k) k <| ae (x_sub k k) k ?_
  obtain ⟨v2, hv2, h⟩ := ob h
  refine ae (x_at_list TT_ok hv2 k k k k k k) k <| ae (w_load_ref TT_ok k k k k k k) k ?_
  obtain ⟨v3, hv3, h⟩ := ob h
  refine ae (x_at_list TT_ok hv3 k k k k k k) k <| ae (w_load_ref TT_ok k k k k k k) k <| aa k k <| an ?_
  refine ⟨by kernel_rfl, ?_⟩
  refine tn <| ac_ent (t := mkS [(4, .int v3)] [] 2 [2, 3]) (ent_mk (σ := sg []) ⟨(e1 k k), trivial⟩ trivial k) <| ac_ret ?_
  obtain rfl := so h
  exact ret_mk k k k (fz_int k)

noncomputable def m_impl_Quiver_pathsFrom_L1 (self : (Qv → Pa → Option (List Pa))) (a0 : Qv) (a1 : Pa) (x1 : ((List Pa) × Int)) : Option (((List Pa) × Int) ⊕ (List Pa)) :=
  bif decide (x1.2 < (a0.src.length : Int)) then
    (Option.bind (atL a0.src x1.2) fun v2 =>
    Option.bind (m_impl_Quiver_end a0 a1) fun v3 =>
    bif decide (v2 = v3) then
      (Option.bind (m_Clone a1.arrows) fun v5 =>
      bif decide (v5.length + [x1.2].length ≤ 4294967296) then
        (Option.bind (self a0 (⟨a1.start, (v5 ++ [x1.2])⟩ : Pa)) fun v7 =>
        bif decide (x1.1.length + v7.length ≤ 4294967296) then
          (some (.inl ((x1.1 ++ v7), wr (x1.2 + 1))))
        else none)
      else none)
    else
      (some (.inl (x1.1, wr (x1.2 + 1)))))
  else
    (some (.inr x1.1))

noncomputable def m_impl_Quiver_pathsFrom_b (self : Qv → Pa → Option (List Pa)) (a0 : Qv) (a1 : Pa) : Option (List Pa) :=
  Option.bind (Lp (m_impl_Quiver_pathsFrom_L1 self a0 a1) ([a1], 0)) fun y9 =>
  some y9

noncomputable def m_impl_Quiver_pathsFrom : Nat → Qv → Pa → Option (List Pa)
  | 0, _, _ => none
  | n + 1, a0, a1 => m_impl_Quiver_pathsFrom_b (m_impl_Quiver_pathsFrom n) a0 a1

theorem c_impl_Quiver_pathsFrom_b (self : Qv → Pa → Option (List Pa)) (a0 : Qv) (a1 : Pa) (ih : ∀ (a0 : Qv) (a1 : Pa) (r : (List Pa)), self a0 a1 = some r → HasE Try.prog 82 [.agg (eQ a0), .agg (ePa a1)] [] 0 (.own 0 0 r.length) [(0, ⟨2, List.map ePa r⟩)]) (r : (List Pa)) (h : m_impl_Quiver_pathsFrom_b self a0 a1 = some r) : HasE Try.prog 82 [.agg (eQ a0), .agg (ePa a1)] [] 0 (.own 0 0 r.length) [(0, ⟨2, List.map ePa r⟩)] := by
 refine hasE_mk TT_ok (rvs := [.tmp 4]) (ns := [0, 1, 2, 3, 4, 5, 6, 7, 8, 9]) Try.func82 k k Try.ntmps82 k k <| sQ <| rg <| ae (w_box k k k k) k <| ae (w_box k k k k) k <| aa k k <| an <| tn <| sQ <| rg ?_
 refine ae (w_load_ptr TT_ok k k k k k k k) k <| ae (w_lit TT_ok k k k k k k k k k k k k) k <| aa k k <| an <| tn <| ac_ent (t := mkS [(2, .ptr 0 0 0), (3, .ptr 1 0 0), (5, .own 2 0 ([a1].length))] [(0, ⟨3, [[.int a0.n, .list 1 (List.map eI a0.src), .list 1 (List.map eI a0.tgt)]]⟩), (1, ⟨2, [[.int a1.start, .list 1 (List.map eI a1.arrows)]]⟩), (2, ⟨2, List.map ePa [a1]⟩)] 3 [3, 4, 5, 6, 7, 8, 9] ⟨0, false, none, true⟩) (ent_mk (σ := sg [(0, 0), (1, 1), (2, 2)]) ⟨(pE k k), (pE k k), ⟨_, k, ⟨k, k, (by simp only [len_map, lA, lT, lR, lC, lN]), k⟩⟩, trivial⟩ (hP k k k k <| hP k k k k <| hB (okPa.plainE _) k k k <| trivial) k) <| sQ <| sQ <| rg <| ae (w_field_ptr TT_ok k k k k k k k) k ?_
 refine ae (w_load_ptr TT_ok k k k k k k k) k <| ae (lenL TT_ok k k k) k <| am k k <| an <| tn <| ac_block ?_
 obtain ⟨y9, hy9, h⟩ := ob h
 refine ac_Lp (body := (m_impl_Quiver_pathsFrom_L1 self a0 a1)) hy9 (fun (x1 : ((List Pa) × Int)) => mkS [(2, .ptr 0 0 0), (3, .ptr 1 0 0), (5, .own 2 0 x1.1.length), (11, .list 1 (List.map eI a0.src)), (12, .int (a0.src.length : Int)), (13, .int x1.2)] [(0, ⟨3, [[.int a0.n, .list 1 (List.map eI a0.src), .list 1 (List.map eI a0.tgt)]]⟩), (1, ⟨2, [[.int a1.start, .list 1 (List.map eI a1.arrows)]]⟩), (2, ⟨2, List.map ePa x1.1⟩)] 3 [3, 4, 5, 6, 7, 8, 9] ⟨0, false, none, true⟩) (fun r e t => e = .exit 0 ∧ Ent t (mkS [(5, .own 0 0 r.length)] [(0, ⟨2, List.map ePa r⟩)] 1 [1, 2, 3, 4, 5, 6, 7, 8, 9] ⟨0, false, none, true⟩)) (ent_mk (σ := sg [(0, 0), (1, 1), (2, 2)]) ⟨(pE k k), (pE k k), (oE k k), ⟨_, k, ⟨k, k⟩⟩, (e1 k k), (e1 k k), trivial⟩ (hP k k k k <| hP k k k k <| hB (okPa.plainE _) k k k <| trivial) k) ?_ ?_
 ·intro x1 o h
  refine sQ <| rg <| ae (w_cmp k k k) k <| an <| tn <| sQ ?_
  rcases cb h with ⟨q1, h⟩ | ⟨q1, h⟩
  ·refine ac_condT k q1 <| ac_skip <| tn <| sQ <| ac_block <| sQ <| rg <| am k k ?_
   obtain ⟨v2, hv2, h⟩ := ob h
   refine ae (x_at_list TT_ok hv2 k k k k k k) k <| ae (w_load_ref TT_ok k k k k k k) k <| aa k k <| aa k k <| an <| tn <| sQ <| rg <| am k k <| ae (w_load_ptr TT_ok k k k k k k k) k ?_
   refine ae (w_load_ptr TT_ok k k k k k k k) k ?_
   obtain ⟨v3, hv3, h⟩ := ob h
   refine ae (w_call0s (c_impl_Quiver_end a0 a1 v3 hv3) k (va_cons (va_agg' (v1_cons (v1_same k) (v1_cons (v1_same k) (v1_cons (v1_same k) v1_nil)))) (va_cons (va_agg' (v1_cons (v1_same k) (v1_cons (v1_same k) v1_nil))) va_nil))) k <| ae (w_cmp k k k) k <| an <| tn ?_
   rcases cb h with ⟨q4, h⟩ | ⟨q4, h⟩
   ·refine ac_condT k q4 <| ac_region_draw MIXX <| am k k <| ae (w_load_ptr TT_ok k k k k k k k) k <| ae (w_field_ptr TT_ok k k k k k k k) k <| ae (w_load_ptr TT_ok k k k k k k k) k <| ae (w_field_ptr TT_ok k k k k k k k) k <| ae (w_load_ptr TT_ok k k k k k k k) k ?_
    obtain ⟨v5, hv5, h⟩ := ob h
    refine ae (AEff.conv (w_call0 (x := .own 3 0 (List.map eI v5).length) (nb := [(3, ⟨1, absEs (List.map eI v5)⟩)]) (c_Clone a1.arrows v5 hv5) k (by rfl) k k (okI.good _) (va_cons (va_same k) va_nil)) (v' := .own 3 0 v5.length) (ed' := [(3, some ⟨1, List.map (ow eI) v5⟩)]) (by simp only [len_map]) (ed_ok (nb' := [(3, ⟨1, List.map (ow eI) v5⟩)]) (by simp only [abs_map]))) k <| am k k <| ae (w_lit TT_ok k k k k k k k k k k k k) k ?_
    obtain ⟨q6, h⟩ := cg h
    refine ae (x_app TT_ok (l := v5) (m := [x1.2]) okIo q6 k k k k k k k k k k k k) k <| ae (w_build TT_ok k k k k k k) k ?_
    obtain ⟨v7, hv7, h⟩ := ob h
    refine ae (eff_hasD (σ := sg []) (σ' := sg [(6, 0)]) (touch := [5]) (news := [6]) (hl2 := [(6, ⟨2, List.map ePa v7⟩)]) (n' := 7) (r2 := .own 6 0 v7.length) (ih a0 (⟨a1.start, (v5 ++ [x1.2])⟩ : Pa) v7 hv7) k k ⟨_, _, k, (.inl ⟨_, _, k, k, ⟨_, _, k, ⟨k, k⟩, ⟨_, _, k, ⟨k, k⟩, k⟩⟩⟩), ⟨_, _, k, (.inr ⟨⟨_, _, k, (v1_same k), ⟨_, _, k, (v1_T okI k k), k⟩⟩, k, k⟩), k⟩⟩ trivial k k k ⟨⟨_, k, k, .inl ⟨k, okPa.plainE _⟩⟩, k, trivial⟩ k (.inl ⟨k, k, (by simp only [len_map, lA, lT, lR, lC, lN]), k⟩) k ⟨k, okPa.tamdE _ _, trivial⟩ k k) k ?_
    obtain ⟨q8, h⟩ := cg h
    refine ae (x_app TT_ok (l := x1.1) (m := v7) okPa q8 k k k k k ((x_srcE0 okPa k k)) k k k k k k) k <| aa k k <| an ?_
    refine ⟨by kernel_rfl, ?_⟩
    refine block_n <| tn <| ac_ent (t := mkS [(2, .ptr 0 0 0), (3, .ptr 1 0 0), (5, .own 7 0 ((x1.1 ++ v7).length)), (11, .list 1 (List.map eI a0.src)), (12, .int (a0.src.length : Int)), (13, .int x1.2)] [(0, ⟨3, [[.int a0.n, .list 1 (List.map eI a0.src), .list 1 (List.map eI a0.tgt)]]⟩), (1, ⟨2, [[.int a1.start, .list 1 (List.map eI a1.arrows)]]⟩), (7, ⟨2, List.map ePa (x1.1 ++ v7)⟩)] 8 [8, 9] ⟨0, false, none, true⟩) (ent_mk (σ := sg [(0, 0), (1, 1), (7, 7)]) ⟨(pE k k), (pE k k), (oE k k), ⟨_, k, ⟨k, k⟩⟩, (e1 k k), (e1 k k), trivial⟩ (hP k k k k <| hP k k k k <| hB (okPa.plainE _) k k k <| trivial) k) <| rg <| ae (x_add k k) k <| am k k <| an <| tn ?_
    obtain rfl := so h
    exact ⟨_, k, (ent_mk (σ := sg [(0, 0), (1, 1), (2, 7)]) ⟨(pE k k), (pE k k), (oE k k), ⟨_, k, ⟨k, k⟩⟩, (e1 k k), (e1 k k), trivial⟩ (hP k k k k <| hP k k k k <| hB (okPa.plainE _) k k k <| trivial) k)⟩
   ·refine ac_condF k q4 <| ac_skip <| block_n <| tn <| rg <| ae (x_add k k) k <| am k k <| an <| tn ?_
    obtain rfl := so h
    exact ⟨_, k, (ent_mk (σ := sg [(0, 0), (1, 1), (2, 2)]) ⟨(pE k k), (pE k k), (oE k k), ⟨_, k, ⟨k, k⟩⟩, (e1 k k), (e1 k k), trivial⟩ (hP k k k k <| hP k k k k <| hB (okPa.plainE _) k k k <| trivial) k)⟩
  ·refine ac_condF k q1 <| ac_exit <| then_exit <| then_exit ?_
   obtain rfl := so h
   exact ⟨_, k, k, (ent_mk (σ := sg [(0, 2)]) ⟨(oE k k), trivial⟩ (hB (okPa.plainE _) k k k <| trivial) k)⟩
 ·rintro e t ⟨rfl, hent⟩
  refine block_here <| tn <| ac_ent hent <| sQ <| rg <| am k k <| aa k k <| an <| tn <| ac_ret ?_
  obtain rfl := so h
  exact ⟨mkS [(4, .own 0 0 y9.length)] [(0, ⟨2, List.map ePa y9⟩)] 1 [1, 2, 3, 4, 5, 6, 7, 8, 9] ⟨0, false, none, true⟩, (ent_mk (σ := sg [(0, 0)]) ⟨(oE k k), trivial⟩ (hB (okPa.plainE _) k k k <| trivial) k), k, ⟨_, k, .inl k⟩, ⟨k, trivial⟩⟩
theorem c_impl_Quiver_pathsFrom : ∀ (n : Nat) (a0 : Qv) (a1 : Pa) (r : (List Pa)), m_impl_Quiver_pathsFrom n a0 a1 = some r → HasE Try.prog 82 [.agg (eQ a0), .agg (ePa a1)] [] 0 (.own 0 0 r.length) [(0, ⟨2, List.map ePa r⟩)]
 | 0, a0, a1, r, h => by cases h
 | n + 1, a0, a1, r, h => c_impl_Quiver_pathsFrom_b (m_impl_Quiver_pathsFrom n) a0 a1 (c_impl_Quiver_pathsFrom n) r h

noncomputable def m_impl_Quiver_pathsBetween_1 (a0 : Pa) (a1 : Qv) (a2 : Int) : Option Bool :=
  Option.bind (m_impl_Quiver_end a1 a0) fun v1 =>
  some (!decide (v1 = a2))

theorem c_impl_Quiver_pathsBetween_1 (a0 : Pa) (a1 : Qv) (a2 : Int) (r : Bool) (h : m_impl_Quiver_pathsBetween_1 a0 a1 a2 = some r) : HasC Try.prog 83 [.agg (ePa a0), .ref (eQ a1), .ref (eI a2)] (.bl r) := by
 refine hasC_mk TT_ok (rvs := [.tmp 4]) (ns := [0, 1, 2]) Try.func83 k k Try.ntmps83 k k k <| sQ <| rg <| ae (w_box k k k k) k <| aa k k <| an <| tn <| sQ <| ac_region_draw MIXX <| ae (w_load_ref TT_ok k k k k k k) k ?_
 refine ae (w_load_ptr TT_ok k k k k k k k) k ?_
 obtain ⟨v1, hv1, h⟩ := ob h
 refine ae (w_call0s (c_impl_Quiver_end a1 a0 v1 hv1) k (va_cons (va_agg' (v1_cons (v1_same k) (v1_cons (v1_same k) (v1_cons (v1_same k) v1_nil)))) (va_cons (va_agg' (v1_cons (v1_same k) (v1_cons (v1_same k) v1_nil))) va_nil))) k <| ae (w_load_ref TT_ok k k k k k k) k <| ae (w_cmp k k k) k <| aa k k <| an ?_
 refine ⟨by kernel_rfl, ?_⟩
 refine tn <| ac_ret ?_
 obtain rfl := so h
 exact ret_mk k k k (fz_bl k)

noncomputable def m_slices_IndexFunc_Limpl_Path_impl_Path_L1 (a0 : (List Pa)) (a1 : (Pa → Option Bool)) (x1 : Int) : Option (Int ⊕ (Unit ⊕ Int)) :=
  bif decide (x1 < (a0.length : Int)) then
    (Option.bind (atL a0 x1) fun v2 =>
    Option.bind (a1 v2) fun v3 =>
    bif v3 then
      (some (.inr (.inr (x1))))
    else
      (some (.inl (wr (x1 + 1)))))
  else
    (some (.inr (.inl ())))

noncomputable def m_slices_IndexFunc_Limpl_Path_impl_Path (a0 : (List Pa)) (a1 : (Pa → Option Bool)) : Option Int :=
  Option.bind (Lp (m_slices_IndexFunc_Limpl_Path_impl_Path_L1 a0 a1) 0) fun y5 =>
  Sum.elim (fun y6 =>
    some ((-1))
  ) 
  (fun y7 =>
    some y7
  )
   y5

theorem c_slices_IndexFunc_Limpl_Path_impl_Path (a0 : (List Pa)) (a1 : (Pa → Option Bool)) {f1 : FuncId} {c1 : List AV} (hc1 : c1.all plainD = true) (hf1 : ∀ b0 r, a1 b0 = some r → HasC Try.prog f1 ([.agg (ePa b0)] ++ c1) (.bl r)) (r : Int) (h : m_slices_IndexFunc_Limpl_Path_impl_Path a0 a1 = some r) : HasC Try.prog 86 [.list 2 (List.map ePa a0), .fn f1 c1] (.int r) := by
 refine hasC_mk TT_ok (rvs := [.tmp 4]) (ns := [0, 1]) Try.func86 k k Try.ntmps86 k k (oa_cons k (oa_cons hc1 oa_nil)) <| sQ <| rg <| aa k k <| an <| tn <| sQ <| sQ <| rg <| am k k ?_
 refine ae (lenL TT_ok k k k) k <| am k k <| an <| tn <| ac_block ?_
 obtain ⟨y5, hy5, h⟩ := ob h
 refine ac_Lp (body := (m_slices_IndexFunc_Limpl_Path_impl_Path_L1 a0 a1)) hy5 (fun (x1 : Int) => mkS [(0, .list 2 (List.map ePa a0)), (1, .fn f1 c1), (7, .int (a0.length : Int)), (8, .int x1)] [] 0 [0, 1]) (fun r e t => Sum.elim (fun a => (fun r e t => e = .exit 0 ∧ Ent t (mkS [] [] 0 [0, 1])) a e t) (fun b => (fun r e t => e = .ret ∧ RetQ TT [.tmp 4] (.int r) .ret t) b e t) r) (ent_mk (σ := sg []) ⟨⟨_, k, ⟨k, k⟩⟩, ⟨_, k, ⟨k, all2_same _ hc1⟩⟩, (e1 k k), (e1 k k), trivial⟩ trivial k) ?_ ?_
 ·intro x1 o h
  refine sQ <| rg <| ae (w_cmp k k k) k <| an <| tn <| sQ ?_
  rcases cb h with ⟨q1, h⟩ | ⟨q1, h⟩
  ·refine ac_condT k q1 <| ac_skip <| tn <| sQ <| ac_block <| sQ <| rg <| am k k <| aa k k <| an ?_
   refine tn <| sQ <| rg <| am k k <| am k k <| am k k ?_
   obtain ⟨v2, hv2, h⟩ := ob h
   refine ae (x_at_list TT_ok hv2 k k k k k k) k <| ae (w_load_ref TT_ok k k k k k k) k ?_
   obtain ⟨v3, hv3, h⟩ := ob h
   refine ae (w_callv hc1 (hf1 v2 v3 hv3) k k (va_cons (va_agg' (v1_cons (v1_same k) (v1_cons (v1_same k) v1_nil))) va_nil)) k <| an <| tn ?_
   rcases cb h with ⟨q4, h⟩ | ⟨q4, h⟩
   ·refine ac_condT k q4 <| sQ <| rg <| am k k <| aa k k <| an <| tn <| ac_ret <| block_ret <| then_ret ?_
    refine then_ret ?_
    obtain rfl := so h
    exact ⟨_, k, k, ret_mk k k k (fz_int k)⟩
   ·refine ac_condF k q4 <| ac_skip <| block_n <| tn <| rg <| ae (x_add k k) k <| am k k <| an <| tn ?_
    obtain rfl := so h
    exact ⟨_, k, (ent_mk (σ := sg []) ⟨⟨_, k, ⟨k, k⟩⟩, ⟨_, k, ⟨k, all2_same _ hc1⟩⟩, (e1 k k), (e1 k k), trivial⟩ trivial k)⟩
  ·refine ac_condF k q1 <| ac_exit <| then_exit <| then_exit ?_
   obtain rfl := so h
   exact ⟨_, k, k, (ent_mk (σ := sg []) trivial trivial k)⟩
 ·intro e t hX
  rcases y5 with y6 | y7
  ·obtain ⟨rfl, hent⟩ := hX
   refine block_here <| tn <| ac_ent hent <| sQ <| rg <| aa k k <| an <| tn <| ac_ret ?_
   obtain rfl := so h
   exact ret_mk k k k (fz_int k)
  ·obtain ⟨rfl, hent⟩ := hX
   refine block_ret <| then_ret ?_
   obtain rfl := so h
   exact hent

noncomputable def m_slices_DeleteFunc_Limpl_Path_impl_Path_L1 (a1 : (Pa → Option Bool)) (x1 : ((List Pa) × Int × Int)) : Option (((List Pa) × Int × Int) ⊕ ((List Pa) × Int)) :=
  bif decide (x1.2.2 < ((x1.1.length : Nat) : Int)) then
    (Option.bind (atL x1.1 x1.2.2) fun v4 =>
    Option.bind (a1 v4) fun v5 =>
    bif !v5 then
      (Option.bind (atL x1.1 x1.2.1) fun v7 =>
      some (.inl ((x1.1.set x1.2.1.toNat v4), wr (x1.2.1 + 1), wr (x1.2.2 + 1))))
    else
      (some (.inl (x1.1, x1.2.1, wr (x1.2.2 + 1)))))
  else
    (some (.inr (x1.1, x1.2.1)))

noncomputable def m_slices_DeleteFunc_Limpl_Path_impl_Path (a0 : (List Pa)) (a1 : (Pa → Option Bool)) : Option (List Pa) :=
  Option.bind (m_slices_IndexFunc_Limpl_Path_impl_Path a0 a1) fun v1 =>
  bif decide (v1 = (-1)) then
    (some a0)
  else
    (Option.bind (Lp (m_slices_DeleteFunc_Limpl_Path_impl_Path_L1 a1) (a0, v1, wr (v1 + 1))) fun y8 =>
    bif (decide (0 ≤ y8.2) && (decide (y8.2 ≤ ((y8.1.length : Nat) : Int)) && decide (((y8.1.length : Nat) : Int) ≤ ((y8.1.length : Nat) : Int)))) then
      (bif (decide (0 ≤ 0) && (decide (0 ≤ y8.2) && decide (y8.2 ≤ ((y8.1.length : Nat) : Int)))) then
        (some (y8.1.take y8.2.toNat))
      else none)
    else none)

theorem c_slices_DeleteFunc_Limpl_Path_impl_Path (a0 : (List Pa)) (a1 : (Pa → Option Bool)) {f1 : FuncId} {c1 : List AV} (hc1 : c1.all plainD = true) (hf1 : ∀ b0 r, a1 b0 = some r → HasC Try.prog f1 ([.agg (ePa b0)] ++ c1) (.bl r)) (r : (List Pa)) (h : m_slices_DeleteFunc_Limpl_Path_impl_Path a0 a1 = some r) : HasE Try.prog 81 [.own 0 0 a0.length, .fn f1 c1] [(0, ⟨2, List.map ePa a0⟩)] 1 (.own 1 0 r.length) [(1, ⟨2, List.map ePa r⟩)] := by
 refine hasE_mk TT_ok (rvs := [.tmp 4]) (ns := [1, 2, 3]) Try.func81 k k Try.ntmps81 k k <| sQ <| rg <| aa k k <| an <| tn <| sQ <| rg <| am k k <| am k k ?_
 obtain ⟨v1, hv1, h⟩ := ob h
 refine ae (w_call0s (c_slices_IndexFunc_Limpl_Path_impl_Path a0 a1 hc1 hf1 v1 hv1) k (va_cons (va_TE okPa k k) (va_cons (va_fnc hc1) va_nil))) k <| aa k k <| an <| tn <| sQ <| sQ <| rg <| am k k <| ae (w_cmp k k k) k <| an ?_
 refine tn ?_
 rcases cb h with ⟨q2, h⟩ | ⟨q2, h⟩
 ·refine ac_condT k q2 <| sQ <| rg <| am k k <| aa k k <| an <| tn <| ac_ret <| then_ret ?_
  obtain rfl := so h
  exact ⟨mkS [(4, .own 1 0 a0.length)] [(1, ⟨2, List.map ePa a0⟩)] 2 [2, 3] 1, (ent_mk (σ := sg [(1, 0)]) ⟨(oE k k), trivial⟩ (hB (okPa.plainE _) k k k <| trivial) k), k, ⟨_, k, .inl k⟩, ⟨k, trivial⟩⟩
 ·refine ac_condF k q2 <| ac_skip <| tn <| sQ <| sQ <| rg <| am k k <| ae (x_add k k) k <| aa k k <| an ?_
  refine tn <| ac_block ?_
  obtain ⟨y8, hy8, h⟩ := ob h
  refine ac_Lp (body := (m_slices_DeleteFunc_Limpl_Path_impl_Path_L1 a1)) hy8 (fun (x1 : ((List Pa) × Int × Int)) => mkS [(0, .own 0 0 x1.1.length), (1, .fn f1 c1), (5, .int x1.2.1), (6, .int x1.2.2)] [(0, ⟨2, List.map ePa x1.1⟩)] 1 [1, 2, 3] 1) (fun r e t => e = .exit 0 ∧ Ent t (mkS [(0, .own 0 0 r.1.length), (5, .int r.2)] [(0, ⟨2, List.map ePa r.1⟩)] 1 [1, 2, 3] 1)) (ent_mk (σ := sg [(0, 0)]) ⟨(oE k k), ⟨_, k, ⟨k, all2_same _ hc1⟩⟩, (e1 k k), (e1 k k), trivial⟩ (hB (okPa.plainE _) k k k <| trivial) k) ?_ ?_
  ·intro x1 o h
   refine sQ <| sQ <| rg <| am k k <| am k k <| ae (w_len_own TT_ok k k k k) k <| ae (w_cmp k k k) k <| an <| tn ?_
   rcases cb h with ⟨q3, h⟩ | ⟨q3, h⟩
   ·refine ac_condT k q3 <| ac_skip <| tn <| sQ <| ac_block <| sQ <| rg <| am k k <| am k k ?_
    obtain ⟨v4, hv4, h⟩ := ob h
    refine ae (x_at_own TT_ok (atL_nn hv4) (atL_lt hv4) k k k k k k k) k <| ae (w_load_ptr TT_ok k k k k (map_at (atL_get hv4)) k k) k <| ae (w_alloc TT_ok k k) k <| ae (w_store TT_ok k k k k k k k k) k <| an <| tn <| sQ <| rg <| am k k <| ae (w_load_ptr TT_ok k k k k k k k) k ?_
    obtain ⟨v5, hv5, h⟩ := ob h
    refine ae (w_callv hc1 (hf1 v4 v5 hv5) k k (va_cons (va_agg' (v1_cons (v1_same k) (v1_cons (v1_same k) v1_nil))) va_nil)) k <| ae (w_not k) k <| an <| tn <| ac_ent (t := mkS [(0, .own 0 0 x1.1.length), (1, .fn f1 c1), (5, .int x1.2.1), (6, .int x1.2.2), (7, .ptr 1 0 0), (29, .bl (!v5))] [(0, ⟨2, List.map ePa x1.1⟩), (1, ⟨2, [[.int v4.start, .list 1 (List.map eI v4.arrows)]]⟩)] 2 [2, 3] 1) (ent_mk (σ := sg [(0, 0), (1, 1)]) ⟨(oE k k), ⟨_, k, ⟨k, all2_same _ hc1⟩⟩, (e1 k k), (e1 k k), (pE k k), (e1 k k), trivial⟩ (hB (okPa.plainE _) k k k <| hP k k k k <| trivial) k) ?_
    rcases cb h with ⟨q6, h⟩ | ⟨q6, h⟩
    ·refine ac_condT k q6 <| sQ <| rg <| am k k <| am k k <| ae (w_load_ptr TT_ok k k k k k k k) k ?_
     obtain ⟨v7, hv7, h⟩ := ob h
     refine ae (x_at_own TT_ok (atL_nn hv7) (atL_lt hv7) k k k k k k k) k <| ae (x_store TT_ok (e := ePa) (val := .agg [.int v4.start, .list 1 (List.map eI v4.arrows)]) okPa (u := v4) (atL_get hv7) k k k k k k) k <| an <| tn <| rg <| am k k <| ae (x_add k k) k <| aa k k <| an <| block_n ?_
     refine tn <| rg <| am k k <| ae (x_add k k) k <| aa k k <| an <| tn ?_
     obtain rfl := so h
     exact ⟨_, k, (ent_mk (σ := sg [(0, 0)]) ⟨⟨_, k, ⟨k, k, (by simp only [len_map, lA, lT, lR, lC, lN]), k⟩⟩, ⟨_, k, ⟨k, all2_same _ hc1⟩⟩, (e1 k k), (e1 k k), trivial⟩ (hB (okPa.plainE _) k k k <| trivial) k)⟩
    ·refine ac_condF k q6 <| ac_skip <| block_n <| tn <| rg <| am k k <| ae (x_add k k) k <| aa k k <| an <| tn ?_
     obtain rfl := so h
     exact ⟨_, k, (ent_mk (σ := sg [(0, 0)]) ⟨(oE k k), ⟨_, k, ⟨k, all2_same _ hc1⟩⟩, (e1 k k), (e1 k k), trivial⟩ (hB (okPa.plainE _) k k k <| trivial) k)⟩
   ·refine ac_condF k q3 <| ac_exit <| then_exit <| then_exit ?_
    obtain rfl := so h
    exact ⟨_, k, k, (ent_mk (σ := sg [(0, 0)]) ⟨(oE k k), (e1 k k), trivial⟩ (hB (okPa.plainE _) k k k <| trivial) k)⟩
  ·rintro e t ⟨rfl, hent⟩
   refine block_here <| tn <| ac_ent hent <| sQ <| rg <| am k k <| am k k ?_
   obtain ⟨q9, h⟩ := cg h
   refine ae (x_slice_own TT_ok (l := y8.2) (h := ((y8.1.length : Nat) : Int)) q9 k k k k k k k k) k <| ae (x_clear TT_ok k k (by have hq := q9; simp only [Bool.and_eq_true, decide_eq_true_eq] at hq; rw [List.length_map]; omega) k k k k k) k <| an <| tn <| sQ <| rg <| am k k <| am k k ?_
   obtain ⟨q10, h⟩ := cg h
   refine ae (x_slice_own TT_ok (l := 0) (h := y8.2) q10 k k k k k k k k) k <| aa k k <| an <| tn <| ac_ret ?_
   obtain rfl := so h
   exact ⟨mkS [(4, .own 1 0 ((y8.1.take y8.2.toNat).length))] [(1, ⟨2, List.map ePa (y8.1.take y8.2.toNat)⟩)] 2 [2, 3] 1, (Ent.trans (ent_trunc (f := ePa) (m := (y8.1.take y8.2.toNat)) (t := 4) (b := 0) (c := 1) (n := y8.2.toNat) k k (by simp only [Nat.zero_add, Int.toNat_zero, Nat.sub_zero]; exact clr_take (by have hq := q9; simp only [Bool.and_eq_true, decide_eq_true_eq] at hq; omega)) k) (ent_mk (σ := sg [(1, 1)]) ⟨(oE k k), trivial⟩ (hB (okPa.plainE _) k k k <| trivial) k)), k, ⟨_, k, .inl k⟩, ⟨k, trivial⟩⟩

noncomputable def m_impl_Quiver_pathsBetween (a0 : Qv) (a1 : Int) (a2 : Int) : Option (List Pa) :=
  Option.bind (m_impl_Quiver_pathsFrom 8 a0 (⟨a1, []⟩ : Pa)) fun v1 =>
  Option.bind (m_slices_DeleteFunc_Limpl_Path_impl_Path v1 (fun b0 => m_impl_Quiver_pathsBetween_1 b0 a0 a2)) fun v2 =>
  some v2

theorem c_impl_Quiver_pathsBetween (a0 : Qv) (a1 : Int) (a2 : Int) (r : (List Pa)) (h : m_impl_Quiver_pathsBetween a0 a1 a2 = some r) : HasE Try.prog 75 [.agg (eQ a0), .int a1, .int a2] [] 0 (.own 0 0 r.length) [(0, ⟨2, List.map ePa r⟩)] := by
 refine hasE_mk TT_ok (rvs := [.tmp 6]) (ns := [0, 1, 2, 3, 4, 5]) Try.func75 k k Try.ntmps75 k k <| sQ <| rg <| ae (w_box k k k k) k <| ae (w_box k k k k) k <| aa k k <| an <| tn <| ac_ent (ent_give (t := 3) (b := 0) k k k) <| ac_ent (ent_give (t := 5) (b := 1) k k k) ?_
 refine sQ <| rg <| ae (w_load_ref TT_ok k k k k k k) k <| am k k <| ae (w_build TT_ok k k k k k k) k ?_
 obtain ⟨v1, hv1, h⟩ := ob h
 refine ae (eff_hasD (σ := sg []) (σ' := sg [(2, 0)]) (touch := []) (news := [2]) (hl2 := [(2, ⟨2, List.map ePa v1⟩)]) (n' := 3) (r2 := .own 2 0 v1.length) (c_impl_Quiver_pathsFrom 8 a0 (⟨a1, []⟩ : Pa) v1 hv1) k k ⟨_, _, k, (.inl ⟨_, _, k, k, ⟨_, _, k, ⟨k, k⟩, ⟨_, _, k, ⟨k, k⟩, k⟩⟩⟩), ⟨_, _, k, (.inl ⟨_, _, k, k, ⟨_, _, k, k, k⟩⟩), k⟩⟩ trivial k k k ⟨⟨_, k, k, .inl ⟨k, okPa.plainE _⟩⟩, k, trivial⟩ k (.inl ⟨k, k, (by simp only [len_map, lA, lT, lR, lC, lN]), k⟩) k ⟨k, okPa.tamdE _ _, trivial⟩ k k) k <| ae (eff_makeFunc (vs := [.ref [.int a0.n, .list 1 (List.map eI a0.src), .list 1 (List.map eI a0.tgt)], .ref [.int a2]]) k (by simp)) k ?_
 obtain ⟨v2, hv2, h⟩ := ob h
 refine ae (eff_hasD (σ := sg [(0, 2)]) (σ' := sg [(2, 0), (3, 1)]) (touch := [2]) (news := [3]) (hl2 := [(3, ⟨2, List.map ePa v2⟩)]) (n' := 4) (r2 := .own 3 0 v2.length) (c_slices_DeleteFunc_Limpl_Path_impl_Path v1 (fun b0 => m_impl_Quiver_pathsBetween_1 b0 a0 a2) k (fun b0 r h => c_impl_Quiver_pathsBetween_1 b0 a0 a2 r h) v2 hv2) k k ⟨_, _, k, (.inl ⟨k, k, k, k⟩), ⟨_, _, k, (.inl ⟨k, ⟨_, _, k, k, ⟨_, _, k, k, k⟩⟩⟩), k⟩⟩ ⟨⟨_, k, k, .inl ⟨k, okPa.plainE _⟩⟩, k, trivial⟩ k k k ⟨⟨_, k, k, .inl ⟨k, okPa.plainE _⟩⟩, k, trivial⟩ k (.inl ⟨k, k, (by simp only [len_map, lA, lT, lR, lC, lN]), k⟩) k ⟨k, okPa.tamdE _ _, trivial⟩ k k) k <| aa k k <| an <| tn <| ac_ret ?_
 obtain rfl := so h
 exact ⟨mkS [(6, .own 0 0 v2.length)] [(0, ⟨2, List.map ePa v2⟩)] 1 [1, 2, 3, 4, 5] ⟨0, false, none, true⟩, (ent_mk (σ := sg [(0, 3)]) ⟨(oE k k), trivial⟩ (hB (okPa.plainE _) k k k <| trivial) k), k, ⟨_, k, .inl k⟩, ⟨k, trivial⟩⟩

noncomputable def m_impl_PathsBetween (a0 : Qv) (a1 : Int) (a2 : Int) : Option ((List Pa) × Bool) :=
  Option.bind (m_impl_IsAcyclic a0) fun v1 =>
  bif !v1 then
    (some ([], false))
  else
    (Option.bind (m_impl_Quiver_hasVertex a0 a1) fun v3 =>
    bif !v3 then
      (some ([], false))
    else
      (Option.bind (m_impl_Quiver_hasVertex a0 a2) fun v5 =>
      bif !v5 then
        (some ([], false))
      else
        (Option.bind (m_impl_Quiver_pathsBetween a0 a1 a2) fun v7 =>
        some (v7, true))))

theorem c_impl_PathsBetween (a0 : Qv) (a1 : Int) (a2 : Int) (r : ((List Pa) × Bool)) (h : m_impl_PathsBetween a0 a1 a2 = some r) : HasE Try.prog 64 [.agg (eQ a0), .int a1, .int a2] [] 0 (.tuple [.own 0 0 r.1.length, .bl r.2]) [(0, ⟨2, List.map ePa r.1⟩)] := by
 refine hasE_mk TT_ok (rvs := [.tmp 6, .tmp 7]) (ns := [0, 1, 2, 3]) Try.func64 k k Try.ntmps64 k k <| sQ <| rg <| ae (w_box k k k k) k <| aa k k <| aa k k <| an <| tn <| sQ <| sQ ?_
 refine rg <| ae (w_load_ptr TT_ok k k k k k k k) k ?_
 obtain ⟨v1, hv1, h⟩ := ob h
 refine ae (w_call0s (c_impl_IsAcyclic a0 v1 hv1) k (va_cons (va_agg' (v1_cons (v1_same k) (v1_cons (v1_same k) (v1_cons (v1_same k) v1_nil)))) va_nil)) k <| ae (w_not k) k <| am k k ?_
 rcases cb h with ⟨q2, h⟩ | ⟨q2, h⟩
 ·refine aops_lit 11 k q2 <| ak k k <| ak k k <| ak k k <| ak k k <| ae (eff_pick k k) k <| am k k <| ak k k <| ak k k <| ak k k ?_
  refine ak k k <| ae (eff_pick k k) k <| an <| tn <| ac_ent (t := mkS [(1, .int a1), (2, .int a2), (3, .ptr 0 0 0), (22, .bl true)] [(0, ⟨3, [[.int a0.n, .list 1 (List.map eI a0.src), .list 1 (List.map eI a0.tgt)]]⟩)] 1 [1, 2, 3] ⟨0, false, none, true⟩) (ent_mk (σ := sg [(0, 0)]) ⟨(e1 k k), (e1 k k), (pE k k), (e1 k k), trivial⟩ (hP k k k k <| trivial) k) <| ac_condT k k <| sQ <| rg <| aa k k <| aa k k ?_
  refine an <| tn <| ac_ret <| then_ret ?_
  obtain rfl := so h
  exact ⟨mkS [(6, .own 0 0 ([].length)), (7, .bl false)] [(0, ⟨2, List.map ePa []⟩)] 1 [1, 2, 3] ⟨0, false, none, true⟩, (ent_mk (σ := sg []) ⟨⟨_, k, ⟨k, k, k, k⟩⟩, (e1 k k), trivial⟩ (hX k k <| trivial) k), k, ⟨_, k, .inr ⟨(by simp), k, k⟩⟩, ⟨k, trivial⟩⟩
 ·refine aops_lit 11 k q2 <| ae (w_load_ptr TT_ok k k k k k k k) k <| am k k ?_
  obtain ⟨v3, hv3, h⟩ := ob h
  refine ae (w_call0s (c_impl_Quiver_hasVertex a0 a1 v3 hv3) k (va_cons (va_agg' (v1_cons (v1_same k) (v1_cons (v1_same k) (v1_cons (v1_same k) v1_nil)))) (va_cons (va_same k) va_nil))) k <| ae (w_not k) k <| ae (eff_pick k k) k <| am k k ?_
  rcases cb h with ⟨q4, h⟩ | ⟨q4, h⟩
  ·refine aops_lit 17 k q4 <| ak k k <| ak k k <| ak k k <| ak k k <| ae (eff_pick k k) k <| an <| tn <| ac_ent (t := mkS [(1, .int a1), (2, .int a2), (3, .ptr 0 0 0), (22, .bl true)] [(0, ⟨3, [[.int a0.n, .list 1 (List.map eI a0.src), .list 1 (List.map eI a0.tgt)]]⟩)] 1 [1, 2, 3] ⟨0, false, none, true⟩) (ent_mk (σ := sg [(0, 0)]) ⟨(e1 k k), (e1 k k), (pE k k), (e1 k k), trivial⟩ (hP k k k k <| trivial) k) <| ac_condT k k ?_
   refine sQ <| rg <| aa k k <| aa k k <| an <| tn <| ac_ret <| then_ret ?_
   obtain rfl := so h
   exact ⟨mkS [(6, .own 0 0 ([].length)), (7, .bl false)] [(0, ⟨2, List.map ePa []⟩)] 1 [1, 2, 3] ⟨0, false, none, true⟩, (ent_mk (σ := sg []) ⟨⟨_, k, ⟨k, k, k, k⟩⟩, (e1 k k), trivial⟩ (hX k k <| trivial) k), k, ⟨_, k, .inr ⟨(by simp), k, k⟩⟩, ⟨k, trivial⟩⟩
  ·refine aops_lit 17 k q4 <| ae (w_load_ptr TT_ok k k k k k k k) k <| am k k ?_
   obtain ⟨v5, hv5, h⟩ := ob h
   refine ae (w_call0s (c_impl_Quiver_hasVertex a0 a2 v5 hv5) k (va_cons (va_agg' (v1_cons (v1_same k) (v1_cons (v1_same k) (v1_cons (v1_same k) v1_nil)))) (va_cons (va_same k) va_nil))) k <| ae (w_not k) k <| ae (eff_pick k k) k <| an <| tn <| ac_ent (t := mkS [(1, .int a1), (2, .int a2), (3, .ptr 0 0 0), (22, .bl (!v5))] [(0, ⟨3, [[.int a0.n, .list 1 (List.map eI a0.src), .list 1 (List.map eI a0.tgt)]]⟩)] 1 [1, 2, 3] ⟨0, false, none, true⟩) (ent_mk (σ := sg [(0, 0)]) ⟨(e1 k k), (e1 k k), (pE k k), (e1 k k), trivial⟩ (hP k k k k <| trivial) k) ?_
   rcases cb h with ⟨q6, h⟩ | ⟨q6, h⟩
   ·refine ac_condT k q6 <| sQ <| rg <| aa k k <| aa k k <| an <| tn <| ac_ret <| then_ret ?_
    obtain rfl := so h
    exact ⟨mkS [(6, .own 0 0 ([].length)), (7, .bl false)] [(0, ⟨2, List.map ePa []⟩)] 1 [1, 2, 3] ⟨0, false, none, true⟩, (ent_mk (σ := sg []) ⟨⟨_, k, ⟨k, k, k, k⟩⟩, (e1 k k), trivial⟩ (hX k k <| trivial) k), k, ⟨_, k, .inr ⟨(by simp), k, k⟩⟩, ⟨k, trivial⟩⟩
   ·refine ac_condF k q6 <| ac_skip <| tn <| sQ <| rg <| ae (w_load_ptr TT_ok k k k k k k k) k <| am k k <| am k k ?_
    obtain ⟨v7, hv7, h⟩ := ob h
    refine ae (eff_hasD (σ := sg []) (σ' := sg [(1, 0)]) (touch := []) (news := [1]) (hl2 := [(1, ⟨2, List.map ePa v7⟩)]) (n' := 2) (r2 := .own 1 0 v7.length) (c_impl_Quiver_pathsBetween a0 a1 a2 v7 hv7) k k ⟨_, _, k, (.inl ⟨_, _, k, k, ⟨_, _, k, ⟨k, k⟩, ⟨_, _, k, ⟨k, k⟩, k⟩⟩⟩), ⟨_, _, k, (.inl k), ⟨_, _, k, (.inl k), k⟩⟩⟩ trivial k k k ⟨⟨_, k, k, .inl ⟨k, okPa.plainE _⟩⟩, k, trivial⟩ k (.inl ⟨k, k, (by simp only [len_map, lA, lT, lR, lC, lN]), k⟩) k ⟨k, okPa.tamdE _ _, trivial⟩ k k) k <| aa k k <| aa k k <| an <| tn <| ac_ret ?_
    obtain rfl := so h
    exact ⟨mkS [(6, .own 0 0 v7.length), (7, .bl true)] [(0, ⟨2, List.map ePa v7⟩)] 1 [1, 2, 3] ⟨0, false, none, true⟩, (ent_mk (σ := sg [(0, 1)]) ⟨(oE k k), (e1 k k), trivial⟩ (hB (okPa.plainE _) k k k <| trivial) k), k, ⟨_, k, .inr ⟨(by simp), k, k⟩⟩, ⟨k, trivial⟩⟩

noncomputable def m_impl_CountPaths (a0 : Qv) (a1 : Int) (a2 : Int) : Option Int :=
  Option.bind (m_impl_PathsBetween a0 a1 a2) fun v1 =>
  bif !v1.2 then
    (some ((-1)))
  else
    (some (((v1.1.length : Nat) : Int)))

theorem c_impl_CountPaths (a0 : Qv) (a1 : Int) (a2 : Int) (r : Int) (h : m_impl_CountPaths a0 a1 a2 = some r) : HasC Try.prog 47 [.agg (eQ a0), .int a1, .int a2] (.int r) := by
 refine hasC_mk TT_ok (rvs := [.tmp 6]) (ns := [0, 1, 2, 3]) Try.func47 k k Try.ntmps47 k k k <| sQ <| rg <| ae (w_box k k k k) k <| aa k k <| an <| tn <| sQ <| rg <| ae (w_load_ptr TT_ok k k k k k k k) k ?_
 refine am k k <| am k k ?_
 obtain ⟨v1, hv1, h⟩ := ob h
 refine ae (eff_hasD (σ := sg []) (σ' := sg [(1, 0)]) (touch := []) (news := [1]) (hl2 := [(1, ⟨2, List.map ePa v1.1⟩)]) (n' := 2) (r2 := .tuple [.own 1 0 v1.1.length, .bl v1.2]) (c_impl_PathsBetween a0 a1 a2 v1 hv1) k k ⟨_, _, k, (.inl ⟨_, _, k, k, ⟨_, _, k, ⟨k, k⟩, ⟨_, _, k, ⟨k, k⟩, k⟩⟩⟩), ⟨_, _, k, (.inl k), ⟨_, _, k, (.inl k), k⟩⟩⟩ trivial k k k ⟨⟨_, k, k, .inl ⟨k, okPa.plainE _⟩⟩, k, trivial⟩ k (.inr ⟨_, _, k, k, ⟨_, _, k, ⟨k, k, (by simp only [len_map, lA, lT, lR, lC, lN]), k⟩, ⟨_, _, k, k, k⟩⟩⟩) k ⟨k, okPa.tamdE _ _, trivial⟩ k k) k <| am k k <| ae (eff_extract k k (by intro _ h; cases h)) k <| ae (eff_extract k k (by intro _ h; cases h)) k <| aa k k <| aa k k <| an <| tn <| sQ <| sQ ?_
 refine rg <| am k k <| ae (w_not k) k <| an <| tn <| ac_ent (t := mkS [(7, .own 1 0 v1.1.length), (17, .bl (!v1.2))] [(1, ⟨2, List.map ePa v1.1⟩)] 2 [2, 3]) (ent_mk (σ := sg [(1, 1)]) ⟨(oE k k), (e1 k k), trivial⟩ (hB (okPa.plainE _) k k k <| trivial) k) ?_
 rcases cb h with ⟨q2, h⟩ | ⟨q2, h⟩
 ·refine ac_condT k q2 <| sQ <| rg <| aa k k <| an <| tn <| ac_ret <| then_ret ?_
  obtain rfl := so h
  exact ret_mk k k k (fz_int k)
 ·refine ac_condF k q2 <| ac_skip <| tn <| sQ <| rg <| am k k <| ae (w_len_own TT_ok k k k k) k <| aa k k <| an <| tn ?_
  refine ac_ret ?_
  obtain rfl := so h
  exact ret_mk k k k (fz_int k)

noncomputable def m_impl_ProjectiveDims_1 (a0 : Int) (a1 : Qv) (a2 : Int) : Option Int :=
  Option.bind (m_impl_CountPaths a1 a2 a0) fun v1 =>
  some (v1)

theorem c_impl_ProjectiveDims_1 (a0 : Int) (a1 : Qv) (a2 : Int) (r : Int) (h : m_impl_ProjectiveDims_1 a0 a1 a2 = some r) : HasC Try.prog 46 [.int a0, .ref (eQ a1), .ref (eI a2)] (.int r) := by
 refine hasC_mk TT_ok (rvs := [.tmp 4]) (ns := [0, 1]) Try.func46 k k Try.ntmps46 k k k <| sQ <| rg <| aa k k <| an <| tn <| sQ <| rg <| ae (w_load_ref TT_ok k k k k k k) k <| ae (w_load_ref TT_ok k k k k k k) k ?_
 refine am k k ?_
 obtain ⟨v1, hv1, h⟩ := ob h
 refine ae (w_call0s (c_impl_CountPaths a1 a2 a0 v1 hv1) k (va_cons (va_agg' (v1_cons (v1_same k) (v1_cons (v1_same k) (v1_cons (v1_same k) v1_nil)))) (va_cons (va_same k) (va_cons (va_same k) va_nil)))) k <| aa k k <| an <| tn <| ac_ret ?_
 obtain rfl := so h
 exact ret_mk k k k (fz_int k)

noncomputable def m_impl_countAll_L1 (a0 : Qv) (a2 : (Int → Option Int)) (x1 : ((List Int) × Int)) : Option (((List Int) × Int) ⊕ (List Int)) :=
  bif decide (x1.2 < a0.n) then
    (Option.bind (a2 x1.2) fun v6 =>
    bif decide (x1.1.length + [v6].length ≤ 4294967296) then
      (some (.inl ((x1.1 ++ [v6]), wr (x1.2 + 1))))
    else none)
  else
    (some (.inr x1.1))

noncomputable def m_impl_countAll (a0 : Qv) (a1 : Int) (a2 : (Int → Option Int)) : Option (List Int) :=
  Option.bind (m_impl_IsAcyclic a0) fun v1 =>
  bif !v1 then
    (some ([]))
  else
    (Option.bind (m_impl_Quiver_hasVertex a0 a1) fun v3 =>
    bif !v3 then
      (some ([]))
    else
      (Option.bind (Lp (m_impl_countAll_L1 a0 a2) ([], 0)) fun y8 =>
      some (y8)))

theorem c_impl_countAll (a0 : Qv) (a1 : Int) (a2 : (Int → Option Int)) {f2 : FuncId} {c2 : List AV} (hc2 : c2.all plainD = true) (hf2 : ∀ b0 r, a2 b0 = some r → HasC Try.prog f2 ([.int b0] ++ c2) (.int r)) (r : (List Int)) (h : m_impl_countAll a0 a1 a2 = some r) : HasC Try.prog 45 [.agg (eQ a0), .int a1, .fn f2 c2] (.list 1 (List.map eI r)) := by
 refine hasC_mk TT_ok (rvs := [.tmp 6]) (ns := [0, 1, 2, 3, 4]) Try.func45 k k Try.ntmps45 k k (oa_cons k (oa_cons k (oa_cons hc2 oa_nil))) <| sQ <| rg <| ae (w_box k k k k) k <| aa k k <| an <| tn <| sQ <| sQ <| rg ?_
 refine ae (w_load_ptr TT_ok k k k k k k k) k ?_
 obtain ⟨v1, hv1, h⟩ := ob h
 refine ae (w_call0s (c_impl_IsAcyclic a0 v1 hv1) k (va_cons (va_agg' (v1_cons (v1_same k) (v1_cons (v1_same k) (v1_cons (v1_same k) v1_nil)))) va_nil)) k <| ae (w_not k) k <| am k k ?_
 rcases cb h with ⟨q2, h⟩ | ⟨q2, h⟩
 ·refine aops_lit 12 k q2 <| ak k k <| ak k k <| ak k k <| ak k k <| ae (eff_pick k k) k <| an <| tn <| ac_condT k k <| sQ ?_
  refine rg <| aa k k <| an <| tn <| ac_ent (t := mkS [(6, .nil 0)] [] 1 [1, 2, 3, 4]) (ent_mk (σ := sg []) ⟨⟨_, k, trivial⟩, trivial⟩ trivial k) <| ac_ret <| then_ret ?_
  obtain rfl := so h
  exact ret_mk k k k (xz_list (k))
 ·refine aops_lit 12 k q2 <| ae (w_load_ptr TT_ok k k k k k k k) k <| am k k ?_
  obtain ⟨v3, hv3, h⟩ := ob h
  refine ae (w_call0s (c_impl_Quiver_hasVertex a0 a1 v3 hv3) k (va_cons (va_agg' (v1_cons (v1_same k) (v1_cons (v1_same k) (v1_cons (v1_same k) v1_nil)))) (va_cons (va_same k) va_nil))) k <| ae (w_not k) k <| ae (eff_pick k k) k <| an <| tn ?_
  rcases cb h with ⟨q4, h⟩ | ⟨q4, h⟩
  ·refine ac_condT k q4 <| sQ <| rg <| aa k k <| an <| tn <| ac_ent (t := mkS [(6, .nil 0)] [] 1 [1, 2, 3, 4]) (ent_mk (σ := sg []) ⟨⟨_, k, trivial⟩, trivial⟩ trivial k) <| ac_ret <| then_ret ?_
   obtain rfl := so h
   exact ret_mk k k k (xz_list (k))
  ·refine ac_condF k q4 <| ac_skip <| tn <| sQ <| rg <| aa k k <| an <| tn <| ac_ent (t := mkS [(2, .fn f2 c2), (3, .ptr 0 0 0), (7, .nil 0)] [(0, ⟨3, [[.int a0.n, .list 1 (List.map eI a0.src), .list 1 (List.map eI a0.tgt)]]⟩)] 1 [1, 2, 3, 4]) (ent_mk (σ := sg [(0, 0)]) ⟨⟨_, k, ⟨k, all2_same _ hc2⟩⟩, (pE k k), ⟨_, k, trivial⟩, trivial⟩ (hP k k k k <| trivial) k) <| sQ ?_
   refine sQ <| rg <| ae (w_field_ptr TT_ok k k k k k k k) k <| ae (w_load_ptr TT_ok k k k k k k k) k <| am k k <| an <| tn <| ac_block ?_
   obtain ⟨y8, hy8, h⟩ := ob h
   refine ac_Lp (body := (m_impl_countAll_L1 a0 a2)) hy8 (fun (x1 : ((List Int) × Int)) => mkS [(2, .fn f2 c2), (7, .own 0 0 x1.1.length), (19, .int a0.n), (20, .int x1.2)] [(0, ⟨1, List.map (ow eI) x1.1⟩)] 1 [1, 2, 3, 4]) (fun r e t => e = .exit 0 ∧ Ent t (mkS [(7, .own 0 0 r.length)] [(0, ⟨1, List.map (ow eI) r⟩)] 1 [1, 2, 3, 4])) (ent_mk (σ := sg []) ⟨⟨_, k, ⟨k, all2_same _ hc2⟩⟩, ⟨_, k, ⟨k, k, k, k⟩⟩, (e1 k k), (e1 k k), trivial⟩ (hX k k <| trivial) k) ?_ ?_
   ·intro x1 o h
    refine sQ <| rg <| ae (w_cmp k k k) k <| an <| tn <| sQ ?_
    rcases cb h with ⟨q5, h⟩ | ⟨q5, h⟩
    ·refine ac_condT k q5 <| ac_skip <| tn <| sQ <| ac_block <| sQ <| rg <| am k k <| aa k k <| an ?_
     refine tn <| rg <| am k k <| am k k <| am k k ?_
     obtain ⟨v6, hv6, h⟩ := ob h
     refine ae (w_callv hc2 (hf2 x1.2 v6 hv6) k k (va_cons (va_same k) va_nil)) k <| ae (w_lit TT_ok k k k k k k k k k k k k) k ?_
     obtain ⟨q7, h⟩ := cg h
     refine ae (x_app TT_ok (l := x1.1) (m := [v6]) okIo q7 k k k k k k k k k k k k) k <| aa k k <| an <| block_n <| tn <| rg <| ae (x_add k k) k <| am k k <| an <| tn ?_
     obtain rfl := so h
     exact ⟨_, k, (ent_mk (σ := sg [(0, 2)]) ⟨⟨_, k, ⟨k, all2_same _ hc2⟩⟩, (oE k k), (e1 k k), (e1 k k), trivial⟩ (hI k k k <| trivial) k)⟩
    ·refine ac_condF k q5 <| ac_exit <| then_exit <| then_exit ?_
     obtain rfl := so h
     exact ⟨_, k, k, (ent_mk (σ := sg [(0, 0)]) ⟨(oE k k), trivial⟩ (hI k k k <| trivial) k)⟩
   ·rintro e t ⟨rfl, hent⟩
    refine block_here <| tn <| ac_ent hent <| sQ <| rg <| am k k <| aa k k <| an <| tn <| ac_ret ?_
    obtain rfl := so h
    exact ret_mk k k k (xz_list (x_f1 okI k k))

noncomputable def m_impl_ProjectiveDims (a0 : Qv) (a1 : Int) : Option (List Int) :=
  Option.bind (m_impl_countAll a0 a1 (fun b0 => m_impl_ProjectiveDims_1 b0 a0 a1)) fun v1 =>
  some (v1)

theorem c_impl_ProjectiveDims (a0 : Qv) (a1 : Int) (r : (List Int)) (h : m_impl_ProjectiveDims a0 a1 = some r) : HasC Try.prog 31 [.agg (eQ a0), .int a1] (.list 1 (List.map eI r)) := by
 refine hasC_mk TT_ok (rvs := [.tmp 4]) (ns := [0, 1, 2, 3, 4]) Try.func31 k k Try.ntmps31 k k k <| sQ <| rg <| ae (w_box k k k k) k <| ae (w_box k k k k) k <| aa k k <| an <| tn <| sQ <| rg ?_
 refine ae (w_load_ptr TT_ok k k k k k k k) k <| ae (w_load_ptr TT_ok k k k k k k k) k <| ae (eff_makeFunc (vs := [.ptr 0 0 0, .ptr 1 0 0]) k (by simp)) k ?_
 obtain ⟨v1, hv1, h⟩ := ob h
 refine ae (AEff.conv (w_call0 (x := .own 2 0 (List.map eI v1).length) (nb := [(2, ⟨1, absEs (List.map eI v1)⟩)]) (c_impl_countAll a0 a1 (fun b0 => m_impl_ProjectiveDims_1 b0 a0 a1) k (fun b0 r h => c_impl_ProjectiveDims_1 b0 a0 a1 r h) v1 hv1) k (by rfl) k k (okI.good _) (va_cons (va_agg' (v1_cons (v1_same k) (v1_cons (v1_same k) (v1_cons (v1_same k) v1_nil)))) (va_cons (va_same k) (va_cons (va_fn (vp_cons (vp_box k k (v1_cons (v1_same k) (v1_cons (v1_same k) (v1_cons (v1_same k) v1_nil)))) (vp_cons (vp_box k k (v1_cons (v1_same k) v1_nil)) va_nil2))) va_nil)))) (v' := .own 2 0 v1.length) (ed' := [(2, some ⟨1, List.map (ow eI) v1⟩)]) (by simp only [len_map]) (ed_ok (nb' := [(2, ⟨1, List.map (ow eI) v1⟩)]) (by simp only [abs_map]))) k <| aa k k <| an <| tn <| ac_ret ?_
 obtain rfl := so h
 exact ret_mk k k k (xz_list (x_f1 okI k k))

noncomputable def m_impl_KnitRow_L1 (a0 : Qv) (x1 : ((List (List Int)) × (List Int) × Bool)) : Option (((List (List Int)) × (List Int) × Bool) ⊕ (List (List Int))) :=
  bif x1.2.2 then
    (Option.bind (m_slices_Min_Lint_int x1.2.1) fun v7 =>
    bif decide (0 ≤ v7) then
      (bif decide (x1.1.length + 1 ≤ 4294967296) then
        (Option.bind (m_impl_CoxeterPower a0 x1.2.1 (-1)) fun v10 =>
        some (.inl ((x1.1 ++ [x1.2.1]), v10.1, v10.2)))
      else none)
    else
      (some (.inr x1.1)))
  else
    (some (.inr x1.1))

noncomputable def m_impl_KnitRow (a0 : Qv) (a1 : Int) : Option ((List (List Int)) × Bool) :=
  Option.bind (m_impl_KindOfQuiver a0) fun v1 =>
  bif !decide (v1 = 1) then
    (some (([], false)))
  else
    (Option.bind (m_impl_Quiver_hasVertex a0 a1) fun v3 =>
    bif !v3 then
      (some (([], false)))
    else
      (Option.bind (m_impl_ProjectiveDims a0 a1) fun v5 =>
      Option.bind (Lp (m_impl_KnitRow_L1 a0) ([], v5, true)) fun y11 =>
      some ((y11, true))))

theorem c_impl_KnitRow (a0 : Qv) (a1 : Int) (r : ((List (List Int)) × Bool)) (h : m_impl_KnitRow a0 a1 = some r) : HasC Try.prog 15 [.agg (eQ a0), .int a1] (.tuple [.list 1 (List.map (eLs 1 eI) r.1), .bl r.2]) := by
 refine hasC_mk TT_ok (rvs := [.tmp 4, .tmp 5]) (ns := [0, 1, 2, 3, 4, 5, 6, 7]) Try.func15 k k Try.ntmps15 k k k <| sQ <| rg <| ae (w_box k k k k) k <| aa k k <| aa k k <| an <| tn <| sQ <| sQ ?_
 refine rg <| ae (w_load_ptr TT_ok k k k k k k k) k ?_
 obtain ⟨v1, hv1, h⟩ := ob h
 refine ae (w_call0s (c_impl_KindOfQuiver a0 v1 hv1) k (va_cons (va_agg' (v1_cons (v1_same k) (v1_cons (v1_same k) (v1_cons (v1_same k) v1_nil)))) va_nil)) k <| ae (w_cmp k k k) k <| am k k ?_
 rcases cb h with ⟨q2, h⟩ | ⟨q2, h⟩
 ·refine aops_lit 12 k q2 <| ak k k <| ak k k <| ak k k <| ak k k <| ae (eff_pick k k) k <| an <| tn <| ac_ent (t := mkS [(1, .int a1), (2, .ptr 0 0 0), (17, .bl true)] [(0, ⟨3, [[.int a0.n, .list 1 (List.map eI a0.src), .list 1 (List.map eI a0.tgt)]]⟩)] 1 [1, 2, 3, 4, 5, 6, 7]) (ent_mk (σ := sg [(0, 0)]) ⟨(e1 k k), (pE k k), (e1 k k), trivial⟩ (hP k k k k <| trivial) k) <| ac_condT k k ?_
  refine sQ <| rg <| aa k k <| aa k k <| an <| tn <| ac_ret <| then_ret ?_
  obtain rfl := so h
  exact ret_mk k k k (xz_tuple k (xB_cons (xB_one (k)) (xB_cons (k) xB_nil)))
 ·refine aops_lit 12 k q2 <| ae (w_load_ptr TT_ok k k k k k k k) k <| am k k ?_
  obtain ⟨v3, hv3, h⟩ := ob h
  refine ae (w_call0s (c_impl_Quiver_hasVertex a0 a1 v3 hv3) k (va_cons (va_agg' (v1_cons (v1_same k) (v1_cons (v1_same k) (v1_cons (v1_same k) v1_nil)))) (va_cons (va_same k) va_nil))) k <| ae (w_not k) k <| ae (eff_pick k k) k <| an <| tn <| ac_ent (t := mkS [(1, .int a1), (2, .ptr 0 0 0), (17, .bl (!v3))] [(0, ⟨3, [[.int a0.n, .list 1 (List.map eI a0.src), .list 1 (List.map eI a0.tgt)]]⟩)] 1 [1, 2, 3, 4, 5, 6, 7]) (ent_mk (σ := sg [(0, 0)]) ⟨(e1 k k), (pE k k), (e1 k k), trivial⟩ (hP k k k k <| trivial) k) ?_
  rcases cb h with ⟨q4, h⟩ | ⟨q4, h⟩
  ·refine ac_condT k q4 <| sQ <| rg <| aa k k <| aa k k <| an <| tn <| ac_ret <| then_ret ?_
   obtain rfl := so h
   exact ret_mk k k k (xz_tuple k (xB_cons (xB_one (k)) (xB_cons (k) xB_nil)))
  ·refine ac_condF k q4 <| ac_skip <| tn <| sQ <| rg <| aa k k <| an <| tn <| sQ <| sQ ?_
   refine rg <| ae (w_load_ptr TT_ok k k k k k k k) k <| am k k ?_
   obtain ⟨v5, hv5, h⟩ := ob h
   refine ae (AEff.conv (w_call0 (x := .own 1 0 (List.map eI v5).length) (nb := [(1, ⟨1, absEs (List.map eI v5)⟩)]) (c_impl_ProjectiveDims a0 a1 v5 hv5) k (by rfl) k k (okI.good _) (va_cons (va_agg' (v1_cons (v1_same k) (v1_cons (v1_same k) (v1_cons (v1_same k) v1_nil)))) (va_cons (va_same k) va_nil))) (v' := .own 1 0 v5.length) (ed' := [(1, some ⟨1, List.map (ow eI) v5⟩)]) (by simp only [len_map]) (ed_ok (nb' := [(1, ⟨1, List.map (ow eI) v5⟩)]) (by simp only [abs_map]))) k <| aa k k <| aa k k <| an <| tn <| ac_block ?_
   obtain ⟨y11, hy11, h⟩ := ob h
   refine ac_Lp (body := (m_impl_KnitRow_L1 a0)) hy11 (fun (x1 : ((List (List Int)) × (List Int) × Bool)) => mkS [(2, .ptr 0 0 0), (6, .own 1 0 x1.1.length), (7, .own 2 0 x1.2.1.length), (8, .bl x1.2.2)] [(0, ⟨3, [[.int a0.n, .list 1 (List.map eI a0.src), .list 1 (List.map eI a0.tgt)]]⟩), (1, ⟨1, List.map (ow (eLs 1 eI)) x1.1⟩), (2, ⟨1, List.map (ow eI) x1.2.1⟩)] 3 [3, 4, 5, 6, 7]) (fun r e t => e = .exit 0 ∧ Ent t (mkS [(6, .own 0 0 r.length)] [(0, ⟨1, List.map (ow (eLs 1 eI)) r⟩)] 1 [1, 2, 3, 4, 5, 6, 7])) (ent_mk (σ := sg [(0, 0), (2, 1)]) ⟨(pE k k), ⟨_, k, ⟨k, k, k, k⟩⟩, (oE k k), (e1 k k), trivial⟩ (hP k k k k <| hX k k <| hI k k k <| trivial) k) ?_ ?_
   ·intro x1 o h
    refine sQ <| sQ <| rg <| am k k <| am k k ?_
    rcases cb h with ⟨q6, h⟩ | ⟨q6, h⟩
    ·refine aops_lit 22 k q6 <| am k k ?_
     obtain ⟨v7, hv7, h⟩ := ob h
     refine ae (w_call0s (c_slices_Min_Lint_int x1.2.1 v7 hv7) k (va_cons (va_T okI k k) va_nil)) k <| ae (w_cmp k k k) k <| ae (eff_pick k k) k <| an <| tn ?_
     rcases cb h with ⟨q8, h⟩ | ⟨q8, h⟩
     ·refine ac_condT k q8 <| ac_skip <| tn <| sQ <| ac_block <| rg <| am k k <| am k k <| ae (w_lit TT_ok k k k k k k k k k k k k) k ?_
      obtain ⟨q9, h⟩ := cg h
      refine ae (x_app1 TT_ok (l := x1.1) (c := [.own 2 0 x1.2.1.length]) q9 k k k k k k k k k k k k k k) k <| aa k k <| an <| block_n <| tn <| rg <| ae (w_load_ptr TT_ok k k k k k k k) k <| am k k ?_
      obtain ⟨v10, hv10, h⟩ := ob h
      refine ae (AEff.conv (w_call0 (x := .tuple [.own 5 0 (List.map eI v10.1).length, .bl v10.2]) (nb := [(5, ⟨1, absEs (List.map eI v10.1)⟩)]) (c_impl_CoxeterPower a0 x1.2.1 (-1) v10 hv10) k (by rfl) k k (gB_cons (okI.good _) (gB_cons trivial gB_nil)) (va_cons (va_agg' (v1_cons (v1_same k) (v1_cons (v1_same k) (v1_cons (v1_same k) v1_nil)))) (va_cons (va_T okI k k) (va_cons (va_same k) va_nil)))) (v' := .tuple [.own 5 0 v10.1.length, .bl v10.2]) (ed' := [(5, some ⟨1, List.map (ow eI) v10.1⟩)]) (by simp only [len_map]) (ed_ok (nb' := [(5, ⟨1, List.map (ow eI) v10.1⟩)]) (by simp only [abs_map]))) k <| am k k <| ae (eff_extract k k (by intro _ h; cases h)) k <| ae (eff_extract k k (by intro _ h; cases h)) k <| aa k k <| aa k k <| an <| tn ?_
      obtain rfl := so h
      exact ⟨_, k, (Ent.trans (show Ent _ (mkS [(2, .ptr 0 0 0), (6, .own 4 0 ((x1.1 ++ [x1.2.1]).length)), (7, .own 5 0 v10.1.length), (8, .bl v10.2)] [(0, ⟨3, [[.int a0.n, .list 1 (List.map eI a0.src), .list 1 (List.map eI a0.tgt)]]⟩), (4, ⟨1, List.map (ow (eLs 1 eI)) (x1.1 ++ [x1.2.1])⟩), (5, ⟨1, List.map (ow eI) v10.1⟩)] 6 [6, 7]) from (Ent.trans (ent_absL (b := 4) (b' := 2) (j := 0) (es' := List.map eI x1.2.1) k k k k (len_map _ _) (okI.frzs _)) (ent_mk (σ := sg [(0, 0), (4, 4), (5, 5)]) ⟨(pE k k), ⟨_, k, ⟨k, k, (by simp only [len_map, lA, lT, lR, lC, lN]), k⟩⟩, (oE k k), (e1 k k), trivial⟩ (hP k k k k <| hX ⟨_, k, k, .inl ⟨app_eq x1.2.1 k, okLs.plainO _⟩⟩ k <| hI k k k <| trivial) k))) (ent_mk (σ := sg [(0, 0), (1, 4), (2, 5)]) ⟨(pE k k), (oE k k), (oE k k), (e1 k k), trivial⟩ (hP k k k k <| hB (okLs.plainO _) k k k <| hI k k k <| trivial) k))⟩
     ·refine ac_condF k q8 <| ac_exit <| then_exit <| then_exit ?_
      obtain rfl := so h
      exact ⟨_, k, k, (ent_mk (σ := sg [(0, 1)]) ⟨(oE k k), trivial⟩ (hB (okLs.plainO _) k k k <| trivial) k)⟩
    ·refine aops_lit 22 k q6 <| ak k k <| ak k k <| ak k k <| ae (eff_pick k k) k <| an <| tn <| ac_condF k k <| ac_exit <| then_exit ?_
     refine then_exit ?_
     obtain rfl := so h
     exact ⟨_, k, k, (ent_mk (σ := sg [(0, 1)]) ⟨(oE k k), trivial⟩ (hB (okLs.plainO _) k k k <| trivial) k)⟩
   ·rintro e t ⟨rfl, hent⟩
    refine block_here <| tn <| ac_ent hent <| sQ <| rg <| am k k <| aa k k <| aa k k <| an <| tn ?_
    refine ac_ret ?_
    obtain rfl := so h
    exact ret_mk k k k (xz_tuple k (xB_cons (xB_one (x_f1 okLs k k)) (xB_cons (k) xB_nil)))

end Go.Proofs.Ytinllccaphhmcaa
end

section
set_option linter.unusedVariables false
set_option linter.unusedSimpArgs false

namespace Go.Proofs.Ytinllccaphhmcaa
open Go.RowKit
set_option linter.unusedVariables false
theorem n_hasI {l : List Int} (hl : l.length ≤ 1048576) (k : Int) : m_spec_l4Has l k = some (decide (k ∈ l)) := by
 unfold m_spec_l4Has
 rw [Lp_any (n := l.length) (fun i => decide (gx l i = k)) true (by omega) (fun i hi => ?_) (fun _ => ?_), Option.bind_some]
 ·have e : (List.range l.length).any (fun i => decide (gx l i = k)) = decide (k ∈ l) := by
   rw [Bool.eq_iff_iff, List.any_eq_true, decide_eq_true_eq]
   constructor
   ·rintro ⟨i, hi, he⟩
    have hi := List.mem_range.1 hi
    have he := of_decide_eq_true he
    subst he
    exact mem_gx hi
   ·intro h
    obtain ⟨i, hi, rfl⟩ := List.mem_iff_getElem.1 h
    exact ⟨i, List.mem_range.2 hi, by simp [gx, hi]⟩
  rw [e]
  cases decide (k ∈ l) <;> rfl
 ·unfold m_spec_l4Has_L1
  rw [dlt hi, cond_true, at_gx hi, Option.bind_some]
  cases decide (gx l i = k) <;> rfl
 ·unfold m_spec_l4Has_L1
  rw [dnl (Nat.le_refl _), cond_false]
theorem n_contI {l : List Int} (hl : l.length ≤ 1048576) (k : Int) : m_slices_Contains_Lint_int l k = some (decide (k ∈ l)) := by
 unfold m_slices_Contains_Lint_int m_slices_Index_Lint_int
 rw [Lp_search (s0 := 0) (s := 0) (n := l.length) (fun i => bif decide (k = gx l i) then some (i : Int) else none) rfl (by omega) (Nat.zero_le _) (fun i _ hi => ?_) (fun _ => ?_)]
 ·rw [Option.bind_some]
  cases e : (List.range' 0 (l.length - 0)).findSome? (fun i : Nat => bif decide (k = gx l i) then some (i : Int) else none) with
  | none =>
   rw [List.findSome?_eq_none_iff] at e
   have : decide (k ∈ l) = false := by
    rw [decide_eq_false_iff_not]
    intro hm
    obtain ⟨j, hj, e2⟩ := List.mem_iff_getElem.1 hm
    have := e j (by simp; omega)
    have hg : gx l j = k := by simp [gx, hj, e2]
    rw [hg, decide_eq_true rfl] at this
    cases this
   rw [this]; rfl
  | some i =>
   obtain ⟨j, hj, he⟩ := List.exists_of_findSome?_eq_some e
   simp at hj
   have hjl : j < l.length := by omega
   by_cases c : k = gx l j
   ·rw [decide_eq_true c] at he
    cases he
    rw [decide_eq_true (show k ∈ l by rw [c]; exact mem_gx hjl)]
    show (Option.bind (some ((j : Nat) : Int)) fun v1 => some (decide (0 ≤ v1))) = some true
    rw [Option.bind_some, decide_eq_true (by omega)]
   ·rw [decide_eq_false c] at he; cases he
 ·unfold m_slices_Index_Lint_int_L1
  rw [dlt hi, cond_true, at_gx hi, Option.bind_some]
  cases decide (k = gx l i) <;> rfl
 ·unfold m_slices_Index_Lint_int_L1
  rw [dnl (Nat.le_refl _), cond_false]
def dn (c : Nat → Bool) : Nat → Int → Int
 | 0, acc => acc
 | k + 1, acc => dn c k (bif c k then (k : Int) else acc)
theorem dn_spec (c : Nat → Bool) : ∀ (k : Nat) (acc : Int), dn c k acc = acc ∨ ∃ j : Nat, j < k ∧ dn c k acc = j ∧ c j = true
 | 0, acc => .inl rfl
 | k + 1, acc => by
  rcases dn_spec c k (bif c k then (k : Int) else acc) with h | ⟨j, h1, h2, h3⟩
  ·cases hc : c k with
   | false => left; rw [dn, h, hc]; rfl
   | true => right; exact ⟨k, by omega, by rw [dn, h, hc]; rfl, hc⟩
  ·exact .inr ⟨j, by omega, h2, h3⟩
theorem Lp_down {body : Int × Int → Option ((Int × Int) ⊕ Int)} (c : Nat → Bool) {n : Nat} (hn : n ≤ 1000) (hs : ∀ (acc : Int) (k : Nat), k < n → body (acc, (k : Int)) = some (.inl (bif c k then (k : Int) else acc, wr ((k : Int) - 1)))) (he : ∀ acc : Int, body (acc, -1) = some (.inr acc)) :
  ∀ (k : Nat) (acc : Int), k ≤ n → Lp body (acc, (k : Int) - 1) = some (dn c k acc)
 | 0, acc, _ => Lp_stop (by rw [show ((0 : Nat) : Int) - 1 = -1 by omega]; exact he acc)
 | k + 1, acc, hk => by
  have h := hs acc k (by omega)
  rw [show ((k + 1 : Nat) : Int) - 1 = (k : Int) by omega, Lp_step h, wr_sm (by omega)]
  exact Lp_down c hn hs he k _ (by omega)
def readyB (q : Qv) (out : List Int) (v : Nat) : Bool := (List.range q.src.length).all fun i => !decide (gx q.tgt i = v) || decide (gx q.src i ∈ out)
def cO (q : Qv) (out : List Int) (v : Nat) : Bool := !decide ((v : Int) ∈ out) && readyB q out v
def ordS (q : Qv) (n : Nat) : Nat → List Int → List Int ⊕ (List Int × Bool)
 | 0, out => .inl out
 | k + 1, out => if dn (cO q out) n (-1) < 0 then .inr ([], false) else ordS q n k (out ++ [dn (cO q out) n (-1)])
def ordF (q : Qv) (n : Nat) : List Int × Bool := match ordS q n n [] with
 | .inl l => (l, true)
 | .inr r => r
theorem n_ready {q : Qv} {n : Nat} (Q : QOk q n) {out : List Int} (ho : out.length ≤ 1000) (v : Nat) : m_impl_Quiver_isReady q v out = some (readyB q out v) := by
 have m6 := Q.m6
 have me := Q.eq
 unfold m_impl_Quiver_isReady
 rw [Lp_all (n := q.tgt.length) (fun i => !decide (gx q.tgt i = v) || decide (gx q.src i ∈ out)) false (by omega) (fun i hi => ?_) (fun _ => ?_), Option.bind_some]
 ·rw [← me]
  show Sum.elim _ _ (bif readyB q out v then _ else _) = _
  cases readyB q out v <;> rfl
 ·unfold m_impl_Quiver_isReady_L1
  rw [dlt hi, cond_true, at_gx hi, Option.bind_some]
  cases h1 : decide (gx q.tgt i = (v : Int)) with
  | false => rfl
  | true =>
   rw [cond_true, at_gx (by omega), Option.bind_some, n_contI (by omega), Option.bind_some]
   cases decide (gx q.src i ∈ out) <;> rfl
 ·unfold m_impl_Quiver_isReady_L1
  rw [dnl (Nat.le_refl _), cond_false]
theorem n_implNext {q : Qv} {n : Nat} (Q : QOk q n) {out : List Int} (ho : out.length ≤ 1000) : Lp (m_impl_OrderOf_L2 q out) (-1, wr (q.n - 1)) = some (dn (cO q out) n (-1)) := by
 have n5 := Q.n5
 have n1 := Q.n1
 rw [Q.n0, wr_sm (by omega)]
 refine Lp_down (cO q out) (n := n) (by omega) (fun acc k hk => ?_) (fun acc => ?_) n _ (Nat.le_refl _)
 ·unfold m_impl_OrderOf_L2
  simp only
  rw [decide_eq_true (by omega), cond_true, n_contI (by omega), Option.bind_some]
  unfold cO
  cases h1 : decide ((k : Int) ∈ out) with
  | true => rfl
  | false =>
   rw [Bool.not_false, cond_true, n_ready Q ho, Option.bind_some, Bool.true_and]
   cases readyB q out k <;> rfl
 ·unfold m_impl_OrderOf_L2
  simp only
  rw [decide_eq_false (by omega), cond_false]
theorem n_specNext {q : Qv} {n : Nat} (Q : QOk q n) {out : List Int} (ho : out.length ≤ 1000) : Lp (m_spec_OrderOf_L2 q out) (-1, wr (q.n - 1)) = some (dn (cO q out) n (-1)) := by
 have n5 := Q.n5
 have n1 := Q.n1
 have m6 := Q.m6
 have me := Q.eq
 rw [Q.n0, wr_sm (by omega)]
 refine Lp_down (cO q out) (n := n) (by omega) (fun acc k hk => ?_) (fun acc => ?_) n _ (Nat.le_refl _)
 ·unfold m_spec_OrderOf_L2
  simp only
  rw [decide_eq_true (by omega), cond_true, n_hasI (by omega), Option.bind_some,
   Lp_go (s := (!decide ((k : Int) ∈ out), (0 : Int))) (r := cO q out k) (fun j => (!decide ((k : Int) ∈ out) && (List.range j).all fun i => !decide (gx q.tgt i = (k : Int)) || decide (gx q.src i ∈ out), (j : Int))) q.src.length (by simp) (fun j hj => ?_) (fun _ => ?_), Option.bind_some]
  ·cases cO q out k <;> rfl
  ·unfold m_spec_OrderOf_L3
   simp only
   rw [dlt hj, cond_true, List.range_succ, List.all_append, ← Bool.and_assoc]
   cases !decide ((k : Int) ∈ out) && (List.range j).all fun i => !decide (gx q.tgt i = (k : Int)) || decide (gx q.src i ∈ out) with
   | false => rw [wr_suc hj (by omega)]; rfl
   | true =>
    rw [cond_true, at_gx (by omega), Option.bind_some, wr_suc hj (by omega)]
    simp only [List.all_cons, List.all_nil, Bool.and_true, Bool.true_and]
    cases h1 : decide (gx q.tgt j = (k : Int)) with
    | false => rfl
    | true =>
     rw [Bool.not_true, cond_false, at_gx hj, Option.bind_some, n_hasI (by omega), Option.bind_some]
     rfl
  ·unfold m_spec_OrderOf_L3
   simp only
   rw [dnl (Nat.le_refl _), cond_false]
   rfl
 ·unfold m_spec_OrderOf_L2
  simp only
  rw [decide_eq_false (by omega), cond_false]
theorem ordS_len {q : Qv} {n : Nat} : ∀ (d : Nat) {out l : List Int}, ordS q n d out = .inl l → l.length = out.length + d
 | 0, out, l, h => by cases h; rfl
 | d + 1, out, l, h => by
  rw [ordS] at h
  split at h
  ·cases h
  ·rw [ordS_len d h]; simp; omega
theorem n_implOrd {q : Qv} {n : Nat} (Q : QOk q n) : ∀ (d : Nat) {out : List Int}, out.length + d = n → Lp (m_impl_OrderOf_L1 q) out = some (ordS q n d out)
 | 0, out, h => by
  refine Lp_stop ?_
  unfold m_impl_OrderOf_L1
  rw [Q.n0, decide_eq_false (by omega), cond_false]
  rfl
 | d + 1, out, h => by
  have n5 := Q.n5
  have hb : m_impl_OrderOf_L1 q out = some (if dn (cO q out) n (-1) < 0 then .inr (.inr ([], false)) else .inl (out ++ [dn (cO q out) n (-1)])) := by
   unfold m_impl_OrderOf_L1
   rw [show decide (((out.length : Nat) : Int) < q.n) = true from decide_eq_true (by rw [Q.n0]; omega), cond_true, n_implNext Q (by omega), Option.bind_some]
   by_cases h1 : dn (cO q out) n (-1) < 0
   ·rw [decide_eq_true h1, cond_true, if_pos h1]
   ·rw [decide_eq_false h1, cond_false, if_neg h1, decide_eq_true (by simp; omega), cond_true]
  rw [ordS]
  by_cases h1 : dn (cO q out) n (-1) < 0
  ·rw [if_pos h1] at hb ⊢
   exact Lp_stop hb
  ·rw [if_neg h1] at hb ⊢
   rw [Lp_step hb]
   exact n_implOrd Q d (by simp; omega)
theorem n_specOrd {q : Qv} {n : Nat} (Q : QOk q n) : ∀ (d : Nat) {out : List Int}, out.length + d = n → Lp (m_spec_OrderOf_L1 q) out = some (ordS q n d out)
 | 0, out, h => by
  refine Lp_stop ?_
  unfold m_spec_OrderOf_L1
  rw [n_specQ Q.bq, Q.qv, Option.bind_some, cond_true, Q.n0, decide_eq_false (by omega), cond_false]
  rfl
 | d + 1, out, h => by
  have n5 := Q.n5
  have hb : m_spec_OrderOf_L1 q out = some (if dn (cO q out) n (-1) < 0 then .inr (.inr ([], false)) else .inl (out ++ [dn (cO q out) n (-1)])) := by
   unfold m_spec_OrderOf_L1
   rw [n_specQ Q.bq, Q.qv, Option.bind_some, cond_true, show decide (((out.length : Nat) : Int) < q.n) = true from decide_eq_true (by rw [Q.n0]; omega), cond_true, n_specNext Q (by omega), Option.bind_some]
   by_cases h1 : dn (cO q out) n (-1) < 0
   ·rw [decide_eq_true h1, cond_true, if_pos h1]
   ·rw [decide_eq_false h1, cond_false, if_neg h1, decide_eq_true (by simp; omega), cond_true]
  rw [ordS]
  by_cases h1 : dn (cO q out) n (-1) < 0
  ·rw [if_pos h1] at hb ⊢
   exact Lp_stop hb
  ·rw [if_neg h1] at hb ⊢
   rw [Lp_step hb]
   exact n_specOrd Q d (by simp; omega)
theorem n_implOrder {q : Qv} {n : Nat} (Q : QOk q n) : m_impl_OrderOf q = some (ordF q n) := by
 unfold m_impl_OrderOf ordF
 rw [n_implQ Q.bq, Q.qv, Option.bind_some, Bool.not_true, cond_false, n_implOrd Q n (by simp), Option.bind_some]
 cases ordS q n n [] <;> rfl
theorem n_specOrder {q : Qv} {n : Nat} (Q : QOk q n) : m_spec_OrderOf q = some (ordF q n) := by
 unfold m_spec_OrderOf ordF
 rw [n_specOrd Q n (by simp), Option.bind_some]
 cases ordS q n n [] with
 | inl l =>
  simp only [Sum.elim_inl]
  rw [n_specQ Q.bq, Q.qv, Option.bind_some]
 | inr r => rfl
theorem n_orderN {q : Qv} (hb : bQ q) (hv : quivV q = false) : m_impl_OrderOf q = some ([], false) ∧ m_spec_OrderOf q = some ([], false) := by
 constructor
 ·unfold m_impl_OrderOf
  rw [n_implQ hb, hv, Option.bind_some, Bool.not_false, cond_true]
 ·unfold m_spec_OrderOf
  rw [Lp_stop (r := .inl []) (by unfold m_spec_OrderOf_L1; rw [n_specQ hb, hv, Option.bind_some, cond_false]), Option.bind_some]
  simp only [Sum.elim_inl]
  rw [n_specQ hb, hv, Option.bind_some]
theorem n_order {q : Qv} (hb : bQ q) : ∃ o, m_impl_OrderOf q = some o ∧ m_spec_OrderOf q = some o := by
 by_cases hv : quivV q = true
 ·obtain ⟨n, Q⟩ := qok hb hv
  exact ⟨_, n_implOrder Q, n_specOrder Q⟩
 ·have hv' : quivV q = false := by simpa using hv
  exact ⟨_, n_orderN hb hv'⟩
structure Topo (q : Qv) (n : Nat) (L : List Int) : Prop where
 len : L.length = n
 nd : L.Nodup
 rg : ∀ v ∈ L, 0 ≤ v ∧ v < n
 pre : ∀ a v b, L = a ++ v :: b → ∀ i, i < q.src.length → gx q.tgt i = v → gx q.src i ∈ a
structure TopoP (q : Qv) (n : Nat) (L : List Int) : Prop where
 nd : L.Nodup
 rg : ∀ v ∈ L, 0 ≤ v ∧ v < n
 pre : ∀ a v b, L = a ++ v :: b → ∀ i, i < q.src.length → gx q.tgt i = v → gx q.src i ∈ a
theorem TopoP.snoc {q : Qv} {n : Nat} {L : List Int} (h : TopoP q n L) {v : Nat} (hv : v < n) (hc : cO q L v = true) : TopoP q n (L ++ [(v : Int)]) := by
 unfold cO at hc
 simp only [Bool.and_eq_true, Bool.not_eq_true', decide_eq_false_iff_not] at hc
 obtain ⟨h1, h2⟩ := hc
 refine ⟨List.nodup_append.2 ⟨h.nd, by simp, fun a ha b hb e => ?_⟩, fun w hw => ?_, fun a w b e i hi ht => ?_⟩
 ·rw [List.mem_singleton] at hb
  subst hb e
  exact h1 ha
 ·rcases List.mem_append.1 hw with hw | hw
  ·exact h.rg w hw
  ·rw [List.mem_singleton] at hw; omega
 ·rcases List.eq_nil_or_concat b with rfl | ⟨b', z, rfl⟩
  ·have e2 := List.append_inj' e rfl
   obtain ⟨e3, e4⟩ := e2
   subst e3
   have e5 : (v : Int) = w := by simpa using e4
   unfold readyB at h2
   have := List.all_eq_true.1 h2 i (List.mem_range.2 hi)
   rw [ht, ← e5, decide_eq_true rfl] at this
   simpa using this
  ·have e' : L ++ [(v : Int)] = (a ++ w :: b') ++ [z] := by rw [e]; simp
   have e2 := List.append_inj' e' rfl
   exact h.pre a w b' e2.1 i hi ht
theorem ordS_topo {q : Qv} {n : Nat} : ∀ (d : Nat) {out l : List Int}, TopoP q n out → ordS q n d out = .inl l → TopoP q n l
 | 0, out, l, h, e => by cases e; exact h
 | d + 1, out, l, h, e => by
  rw [ordS] at e
  split at e
  ·cases e
  ·rename_i h1
   rcases dn_spec (cO q out) n (-1) with h2 | ⟨j, h2, h3, h4⟩
   ·rw [h2] at h1; omega
   ·rw [h3] at e
    exact ordS_topo d (h.snoc h2 h4) e
theorem ordS_nil {q : Qv} {n : Nat} : ∀ (d : Nat) {out : List Int} {r : List Int × Bool}, ordS q n d out = .inr r → r = ([], false)
 | 0, out, r, e => by cases e
 | d + 1, out, r, e => by
  rw [ordS] at e
  split at e
  ·cases e; rfl
  ·exact ordS_nil d e
theorem ordF_topo {q : Qv} {n : Nat} {L : List Int} (h : ordF q n = (L, true)) : Topo q n L := by
 unfold ordF at h
 cases e : ordS q n n [] with
 | inl l =>
  rw [e] at h
  simp only [Prod.mk.injEq, and_true] at h
  subst h
  have h0 : TopoP q n [] := ⟨by simp, by simp, fun a v b e => by simp at e⟩
  have h1 := ordS_topo n h0 e
  have h2 := ordS_len n e
  exact ⟨by simpa using h2, h1.nd, h1.rg, h1.pre⟩
 | inr r =>
  rw [e] at h
  simp only at h
  rw [ordS_nil n e] at h
  cases h
theorem ordF_false {q : Qv} {n : Nat} (h : (ordF q n).2 = false) : ordF q n = ([], false) := by
 unfold ordF at h ⊢
 cases e : ordS q n n [] with
 | inl l => rw [e] at h; cases h
 | inr r => simp only; exact ordS_nil n e
theorem Topo.all {q : Qv} {n : Nat} {L : List Int} (h : Topo q n L) {v : Nat} (hv : v < n) : (v : Int) ∈ L := by
 refine Classical.byContradiction fun hn => ?_
 have h1 : ((v : Int) :: L).Nodup := List.nodup_cons.2 ⟨hn, h.nd⟩
 have h2 := nodup_len (m := (List.range n).map fun i : Nat => (i : Int)) h1 (fun x hx => by
  rw [List.mem_map]
  rcases List.mem_cons.1 hx with rfl | hx
  ·exact ⟨v, List.mem_range.2 hv, rfl⟩
  ·have := h.rg x hx
   exact ⟨x.toNat, List.mem_range.2 (by omega), by omega⟩)
 simp only [List.length_cons, h.len, List.length_map, List.length_range] at h2
 omega
def rk (L : List Int) (v : Nat) : Nat := L.idxOf (v : Int)
theorem Topo.rk_lt {q : Qv} {n : Nat} {L : List Int} (h : Topo q n L) {v : Nat} (hv : v < n) : rk L v < n := by
 rw [← h.len]
 exact List.idxOf_lt_length_iff.2 (h.all hv)
theorem idxOf_split {a b : List Int} {v : Int} (h : (a ++ v :: b).Nodup) : (a ++ v :: b).idxOf v = a.length := by
 have hn : v ∉ a := fun hm => (List.nodup_append.1 h).2.2 v hm v (by simp) rfl
 rw [List.idxOf_append, if_neg hn]
 simp
theorem Topo.rk_arrow {q : Qv} {n : Nat} {L : List Int} (h : Topo q n L) {i s t : Nat} (hi : i < q.src.length) (hs : gx q.src i = s) (ht : gx q.tgt i = t) (htn : t < n) : rk L s < rk L t := by
 obtain ⟨a, b, e⟩ := List.append_of_mem (h.all htn)
 have h1 := h.pre a _ b e i hi ht
 rw [hs] at h1
 unfold rk
 have h2 : L.idxOf (t : Int) = a.length := by rw [e]; exact idxOf_split (by rw [← e]; exact h.nd)
 rw [h2, e, List.idxOf_append, if_pos h1]
 exact List.idxOf_lt_length_iff.2 h1
end Go.Proofs.Ytinllccaphhmcaa
end

/-
  Models and contracts of functions, made by the extractor (ex.py).
-/
import Derived.Test.YtjfcjkeghigipaaZ1b
namespace Go.Proofs.Ytjfcjkeghigipaa
open Go.RowKit
set_option linter.unusedVariables false
set_option linter.unusedSimpArgs false
set_option maxRecDepth 10000
set_option maxHeartbeats 4000000

noncomputable def m_slices_IndexFunc_Lint_int_L1 (a0 : (List Int)) (a1 : (Int → Option Bool)) (x1 : Int) : Option (Int ⊕ (Unit ⊕ Int)) :=
  bif decide (x1 < (a0.length : Int)) then
    (Option.bind (atL a0 x1) fun v2 =>
    Option.bind (a1 v2) fun v3 =>
    bif v3 then
      (some (.inr (.inr (x1))))
    else
      (some (.inl (wr (x1 + 1)))))
  else
    (some (.inr (.inl ())))

noncomputable def m_slices_IndexFunc_Lint_int (a0 : (List Int)) (a1 : (Int → Option Bool)) : Option Int :=
  Option.bind (Lp (m_slices_IndexFunc_Lint_int_L1 a0 a1) 0) fun y5 =>
  Sum.elim (fun y6 =>
    some ((-1))
  ) 
  (fun y7 =>
    some y7
  )
   y5

theorem c_slices_IndexFunc_Lint_int (a0 : (List Int)) (a1 : (Int → Option Bool)) {f1 : FuncId} {c1 : List AV} (hc1 : c1.all plainD = true) (hf1 : ∀ b0 r, a1 b0 = some r → HasC Try.prog f1 ([.int b0] ++ c1) (.bl r)) (r : Int) (h : m_slices_IndexFunc_Lint_int a0 a1 = some r) : HasC Try.prog 169 [.list 1 (List.map eI a0), .fn f1 c1] (.int r) := by
  refine hasC_mk TT_ok (rvs := [.tmp 4]) (ns := [0, 1, 2, 3, 4, 5, 6, 7, 8, 9, 10, 11, 12, 13]) Try.func169 rfl rfl Try.ntmps169 rfl rfl (by simp only [List.all_cons, List.all_nil, okArg, plainD, Bool.and_true, Bool.true_and]; first | done | simp [hc1]) ?_
  refine ac_seq ?_
  refine ac_region ?_
  refine aops_eff (eff_assign rfl) rfl rfl rfl ?_
  refine aops_nil ?_
  refine then_n ?_
  refine ac_seq ?_
  refine ac_seq ?_
  refine ac_region ?_
  refine aops_eff (eff_move rfl) rfl rfl rfl ?_
  refine aops_eff (AEff.val (w_len_list TT_ok rfl rfl rfl) (v' := .int (a0.length : Int)) (by first | rw [len_map] | rw [encI_len])) rfl rfl rfl ?_
  refine aops_eff (eff_move rfl) rfl rfl rfl ?_
  refine aops_nil ?_
  refine then_n ?_
  refine ac_block ?_
  obtain ⟨y5, hy5, h⟩ := ob h
  refine ac_Lp (body := (m_slices_IndexFunc_Lint_int_L1 a0 a1)) hy5 (fun (x1 : Int) => mkS [(0, .list 1 (List.map eI a0)), (1, .fn f1 c1), (7, .int (a0.length : Int)), (8, .int x1)] [] 0 [0, 1, 2, 3, 4, 5, 6, 7, 8, 9, 10, 11, 12, 13]) (fun r e t => Sum.elim (fun a => (fun r e t => e = .exit 0 ∧ Ent t (mkS [] [] 0 [0, 1, 2, 3, 4, 5, 6, 7, 8, 9, 10, 11, 12, 13])) a e t) (fun b => (fun r e t => e = .ret ∧ RetQ TT [.tmp 4] (.int r) .ret t) b e t) r) (ent_mk (σ := sg []) ⟨⟨_, rfl, ⟨rfl, rfl⟩⟩, ⟨_, rfl, ⟨rfl, all2_same _ hc1⟩⟩, ⟨_, rfl, rfl⟩, ⟨_, rfl, rfl⟩, trivial⟩ trivial rfl) ?_ ?_
  · intro x1 o h
    refine ac_seq ?_
    refine ac_region ?_
    refine aops_eff (w_cmp rfl rfl rfl) rfl rfl rfl ?_
    refine aops_nil ?_
    refine then_n ?_
    refine ac_seq ?_
    rcases cb h with ⟨q1, h⟩ | ⟨q1, h⟩
    · refine ac_condT rfl q1 ?_
      refine ac_skip ?_
      refine then_n ?_
      refine ac_seq ?_
      refine ac_block ?_
      refine ac_seq ?_
      refine ac_region ?_
      refine aops_eff (eff_move rfl) rfl rfl rfl ?_
      refine aops_eff (eff_assign rfl) rfl rfl rfl ?_
      refine aops_nil ?_
      refine then_n ?_
      refine ac_seq ?_
      refine ac_region ?_
      refine aops_eff (eff_move rfl) rfl rfl rfl ?_
      refine aops_eff (eff_move rfl) rfl rfl rfl ?_
      refine aops_eff (eff_move rfl) rfl rfl rfl ?_
      obtain ⟨v2, hv2, h⟩ := ob h
      refine aops_eff (x_at_list TT_ok hv2 rfl rfl rfl rfl rfl rfl) rfl rfl rfl ?_
      refine aops_eff (w_load_ref TT_ok rfl rfl rfl rfl rfl rfl) rfl rfl rfl ?_
      obtain ⟨v3, hv3, h⟩ := ob h
      refine aops_eff (w_callv hc1 (hf1 v2 v3 hv3) rfl rfl (va_cons (va_same rfl) va_nil)) rfl rfl rfl ?_
      refine aops_nil ?_
      refine then_n ?_
      rcases cb h with ⟨q4, h⟩ | ⟨q4, h⟩
      · refine ac_condT rfl q4 ?_
        refine ac_seq ?_
        refine ac_region ?_
        refine aops_eff (eff_move rfl) rfl rfl rfl ?_
        refine aops_eff (eff_assign rfl) rfl rfl rfl ?_
        refine aops_nil ?_
        refine then_n ?_
        refine ac_ret ?_
        refine block_ret ?_
        refine then_ret ?_
        refine then_ret ?_
        obtain rfl := so h
        exact ⟨_, rfl, rfl, ret_mk rfl rfl rfl (fz_int rfl)⟩
      · refine ac_condF rfl q4 ?_
        refine ac_skip ?_
        refine block_n ?_
        refine then_n ?_
        refine ac_region ?_
        refine aops_eff (x_add rfl rfl) rfl rfl rfl ?_
        refine aops_eff (eff_move rfl) rfl rfl rfl ?_
        refine aops_nil ?_
        refine then_n ?_
        obtain rfl := so h
        exact ⟨_, rfl, (ent_mk (σ := sg []) ⟨⟨_, rfl, ⟨rfl, rfl⟩⟩, ⟨_, rfl, ⟨rfl, all2_same _ hc1⟩⟩, ⟨_, rfl, rfl⟩, ⟨_, rfl, rfl⟩, trivial⟩ trivial rfl)⟩
    · refine ac_condF rfl q1 ?_
      refine ac_exit ?_
      refine then_exit ?_
      refine then_exit ?_
      obtain rfl := so h
      exact ⟨_, rfl, rfl, (ent_mk (σ := sg []) trivial trivial rfl)⟩
  · intro e t hX
    rcases y5 with y6 | y7
    · obtain ⟨rfl, hent⟩ := hX
      refine block_here ?_
      refine then_n ?_
      refine ac_ent hent ?_
      refine ac_seq ?_
      refine ac_region ?_
      refine aops_eff (eff_assign rfl) rfl rfl rfl ?_
      refine aops_nil ?_
      refine then_n ?_
      refine ac_ret ?_
      obtain rfl := so h
      exact ret_mk rfl rfl rfl (fz_int rfl)
    · obtain ⟨rfl, hent⟩ := hX
      refine block_ret ?_
      refine then_ret ?_
      obtain rfl := so h
      exact hent

noncomputable def m_slices_ContainsFunc_Lint_int (a0 : (List Int)) (a1 : (Int → Option Bool)) : Option Bool :=
  Option.bind (m_slices_IndexFunc_Lint_int a0 a1) fun v1 =>
  some (decide (0 ≤ v1))

theorem c_slices_ContainsFunc_Lint_int (a0 : (List Int)) (a1 : (Int → Option Bool)) {f1 : FuncId} {c1 : List AV} (hc1 : c1.all plainD = true) (hf1 : ∀ b0 r, a1 b0 = some r → HasC Try.prog f1 ([.int b0] ++ c1) (.bl r)) (r : Bool) (h : m_slices_ContainsFunc_Lint_int a0 a1 = some r) : HasC Try.prog 160 [.list 1 (List.map eI a0), .fn f1 c1] (.bl r) := by
  refine hasC_mk TT_ok (rvs := [.tmp 4]) (ns := [0, 1, 2, 3, 4, 5, 6, 7, 8, 9, 10, 11, 12, 13]) Try.func160 rfl rfl Try.ntmps160 rfl rfl (by simp only [List.all_cons, List.all_nil, okArg, plainD, Bool.and_true, Bool.true_and]; first | done | simp [hc1]) ?_
  refine ac_seq ?_
  refine ac_region ?_
  refine aops_eff (eff_assign rfl) rfl rfl rfl ?_
  refine aops_nil ?_
  refine then_n ?_
  refine ac_seq ?_
  refine ac_region ?_
  refine aops_eff (eff_move rfl) rfl rfl rfl ?_
  refine aops_eff (eff_move rfl) rfl rfl rfl ?_
  obtain ⟨v1, hv1, h⟩ := ob h
  refine aops_eff (w_call0s (c_slices_IndexFunc_Lint_int a0 a1 hc1 hf1 v1 hv1) rfl (va_cons (va_same rfl) (va_cons (va_fnc hc1) va_nil))) rfl rfl rfl ?_
  refine aops_eff (w_cmp rfl rfl rfl) rfl rfl rfl ?_
  refine aops_eff (eff_assign rfl) rfl rfl rfl ?_
  refine aops_nil ?_
  refine then_n ?_
  refine ac_ret ?_
  obtain rfl := so h
  exact ret_mk rfl rfl rfl (fz_bl rfl)

noncomputable def m_impl_allWithin_1 (a0 : Int) (a1 : Int) (a2 : Int) : Option Bool :=
  Option.bind (m_impl_within a0 a1 a2) fun v1 =>
  some (!v1)

theorem c_impl_allWithin_1 (a0 : Int) (a1 : Int) (a2 : Int) (r : Bool) (h : m_impl_allWithin_1 a0 a1 a2 = some r) : HasC Try.prog 161 [.int a0, .ref (eI a1), .ref (eI a2)] (.bl r) := by
  refine hasC_mk TT_ok (rvs := [.tmp 4]) (ns := [0, 1, 2, 3, 4, 5, 6, 7, 8, 9, 10, 11, 12, 13]) Try.func161 rfl rfl Try.ntmps161 rfl rfl rfl ?_
  refine ac_seq ?_
  refine ac_region ?_
  refine aops_eff (eff_assign rfl) rfl rfl rfl ?_
  refine aops_nil ?_
  refine then_n ?_
  refine ac_seq ?_
  refine ac_region ?_
  refine aops_eff (eff_move rfl) rfl rfl rfl ?_
  refine aops_eff (w_load_ref TT_ok rfl rfl rfl rfl rfl rfl) rfl rfl rfl ?_
  refine aops_eff (w_load_ref TT_ok rfl rfl rfl rfl rfl rfl) rfl rfl rfl ?_
  obtain ⟨v1, hv1, h⟩ := ob h
  refine aops_eff (w_call0s (c_impl_within a0 a1 a2 v1 hv1) rfl (va_cons (va_same rfl) (va_cons (va_same rfl) (va_cons (va_same rfl) va_nil)))) rfl rfl rfl ?_
  refine aops_eff (w_not rfl) rfl rfl rfl ?_
  refine aops_eff (eff_assign rfl) rfl rfl rfl ?_
  refine aops_nil ?_
  refine then_n ?_
  refine ac_ret ?_
  obtain rfl := so h
  exact ret_mk rfl rfl rfl (fz_bl rfl)

noncomputable def m_impl_allWithin (a0 : (List Int)) (a1 : Int) (a2 : Int) : Option Bool :=
  Option.bind (m_slices_ContainsFunc_Lint_int a0 (fun b0 => m_impl_allWithin_1 b0 a1 a2)) fun v1 =>
  some (!v1)

theorem c_impl_allWithin (a0 : (List Int)) (a1 : Int) (a2 : Int) (r : Bool) (h : m_impl_allWithin a0 a1 a2 = some r) : HasC Try.prog 131 [.list 1 (List.map eI a0), .int a1, .int a2] (.bl r) := by
  refine hasC_mk TT_ok (rvs := [.tmp 6]) (ns := [0, 1, 2, 3, 4, 5, 6, 7, 8, 9, 10, 11, 12, 13]) Try.func131 rfl rfl Try.ntmps131 rfl rfl rfl ?_
  refine ac_seq ?_
  refine ac_region ?_
  refine aops_eff (w_box rfl rfl rfl rfl) rfl rfl rfl ?_
  refine aops_eff (w_box rfl rfl rfl rfl) rfl rfl rfl ?_
  refine aops_eff (eff_assign rfl) rfl rfl rfl ?_
  refine aops_nil ?_
  refine then_n ?_
  refine ac_seq ?_
  refine ac_region ?_
  refine aops_eff (eff_move rfl) rfl rfl rfl ?_
  refine aops_eff (eff_makeFunc (vs := [.ptr 0 0 0, .ptr 1 0 0]) rfl (by simp)) rfl rfl rfl ?_
  obtain ⟨v1, hv1, h⟩ := ob h
  refine aops_eff (w_call0s (c_slices_ContainsFunc_Lint_int a0 (fun b0 => m_impl_allWithin_1 b0 a1 a2) rfl (fun b0 r h => c_impl_allWithin_1 b0 a1 a2 r h) v1 hv1) rfl (va_cons (va_same rfl) (va_cons (va_fn (vp_cons (vp_box rfl rfl (v1_cons (v1_same rfl) v1_nil)) (vp_cons (vp_box rfl rfl (v1_cons (v1_same rfl) v1_nil)) va_nil2))) va_nil))) rfl rfl rfl ?_
  refine aops_eff (w_not rfl) rfl rfl rfl ?_
  refine aops_eff (eff_assign rfl) rfl rfl rfl ?_
  refine aops_nil ?_
  refine then_n ?_
  refine ac_ret ?_
  obtain rfl := so h
  exact ret_mk rfl rfl rfl (fz_bl rfl)

noncomputable def m_impl_IsVector (a0 : Int) (a1 : (List Int)) : Option Bool :=
  Option.bind (m_impl_IsField a0) fun v1 =>
  bif v1 then
    (bif decide ((a1.length : Int) ≤ 64) then
      (Option.bind (m_impl_allWithin a1 0 (wr (a0 - 1))) fun v4 =>
      some (v4))
    else
      (some (false)))
  else
    (some (false))

theorem c_impl_IsVector (a0 : Int) (a1 : (List Int)) (r : Bool) (h : m_impl_IsVector a0 a1 = some r) : HasC Try.prog 133 [.int a0, .list 1 (List.map eI a1)] (.bl r) := by
  refine hasC_mk TT_ok (rvs := [.tmp 4]) (ns := [0, 1, 2, 3, 4, 5, 6, 7, 8, 9, 10, 11, 12, 13]) Try.func133 rfl rfl Try.ntmps133 rfl rfl rfl ?_
  refine ac_seq ?_
  refine ac_region ?_
  refine aops_eff (eff_assign rfl) rfl rfl rfl ?_
  refine aops_nil ?_
  refine then_n ?_
  refine ac_seq ?_
  refine ac_region ?_
  refine aops_eff (eff_move rfl) rfl rfl rfl ?_
  obtain ⟨v1, hv1, h⟩ := ob h
  refine aops_eff (w_call0s (c_impl_IsField a0 v1 hv1) rfl (va_cons (va_same rfl) va_nil)) rfl rfl rfl ?_
  refine aops_eff (eff_move rfl) rfl rfl rfl ?_
  rcases cb h with ⟨q2, h⟩ | ⟨q2, h⟩
  · refine aops_lit 7 rfl q2 ?_
    refine aops_eff (eff_move rfl) rfl rfl rfl ?_
    refine aops_eff (AEff.val (w_len_list TT_ok rfl rfl rfl) (v' := .int (a1.length : Int)) (by first | rw [len_map] | rw [encI_len])) rfl rfl rfl ?_
    refine aops_eff (w_cmp rfl rfl rfl) rfl rfl rfl ?_
    refine aops_eff (eff_pick rfl rfl) rfl rfl rfl ?_
    refine aops_eff (eff_move rfl) rfl rfl rfl ?_
    rcases cb h with ⟨q3, h⟩ | ⟨q3, h⟩
    · refine aops_lit 12 rfl q3 ?_
      refine aops_eff (eff_move rfl) rfl rfl rfl ?_
      refine aops_eff (eff_move rfl) rfl rfl rfl ?_
      refine aops_eff (x_sub rfl rfl) rfl rfl rfl ?_
      obtain ⟨v4, hv4, h⟩ := ob h
      refine aops_eff (w_call0s (c_impl_allWithin a1 0 (wr (a0 - 1)) v4 hv4) rfl (va_cons (va_same rfl) (va_cons (va_same rfl) (va_cons (va_same rfl) va_nil)))) rfl rfl rfl ?_
      refine aops_eff (eff_pick rfl rfl) rfl rfl rfl ?_
      refine aops_eff (eff_assign rfl) rfl rfl rfl ?_
      refine aops_nil ?_
      refine then_n ?_
      refine ac_ent (t := mkS [(4, .bl v4)] [] 0 [0, 1, 2, 3, 4, 5, 6, 7, 8, 9, 10, 11, 12, 13]) (ent_mk (σ := sg []) ⟨⟨_, rfl, rfl⟩, trivial⟩ trivial rfl) ?_
      refine ac_ret ?_
      obtain rfl := so h
      exact ret_mk rfl rfl rfl (fz_bl rfl)
    · refine aops_lit 12 rfl q3 ?_
      refine aops_skip rfl rfl ?_
      refine aops_skip rfl rfl ?_
      refine aops_skip rfl rfl ?_
      refine aops_skip rfl rfl ?_
      refine aops_eff (eff_pick rfl rfl) rfl rfl rfl ?_
      refine aops_eff (eff_assign rfl) rfl rfl rfl ?_
      refine aops_nil ?_
      refine then_n ?_
      refine ac_ent (t := mkS [(4, .bl false)] [] 0 [0, 1, 2, 3, 4, 5, 6, 7, 8, 9, 10, 11, 12, 13]) (ent_mk (σ := sg []) ⟨⟨_, rfl, rfl⟩, trivial⟩ trivial rfl) ?_
      refine ac_ret ?_
      obtain rfl := so h
      exact ret_mk rfl rfl rfl (fz_bl rfl)
  · refine aops_lit 7 rfl q2 ?_
    refine aops_skip rfl rfl ?_
    refine aops_skip rfl rfl ?_
    refine aops_skip rfl rfl ?_
    refine aops_eff (eff_pick rfl rfl) rfl rfl rfl ?_
    refine aops_eff (eff_move rfl) rfl rfl rfl ?_
    refine aops_skip rfl rfl ?_
    refine aops_skip rfl rfl ?_
    refine aops_skip rfl rfl ?_
    refine aops_skip rfl rfl ?_
    refine aops_eff (eff_pick rfl rfl) rfl rfl rfl ?_
    refine aops_eff (eff_assign rfl) rfl rfl rfl ?_
    refine aops_nil ?_
    refine then_n ?_
    refine ac_ent (t := mkS [(4, .bl false)] [] 0 [0, 1, 2, 3, 4, 5, 6, 7, 8, 9, 10, 11, 12, 13]) (ent_mk (σ := sg []) ⟨⟨_, rfl, rfl⟩, trivial⟩ trivial rfl) ?_
    refine ac_ret ?_
    obtain rfl := so h
    exact ret_mk rfl rfl rfl (fz_bl rfl)

noncomputable def m_impl_IsMatrix (a0 : Int) (a1 : Mt) : Option Bool :=
  Option.bind (m_impl_within a1.rows 0 8) fun v1 =>
  bif v1 then
    (Option.bind (m_impl_within a1.cols 0 8) fun v3 =>
    bif v3 then
      (bif decide ((a1.cells.length : Int) = wr (a1.rows * a1.cols)) then
        (Option.bind (m_impl_IsVector a0 a1.cells) fun v6 =>
        some (v6))
      else
        (some (false)))
    else
      (some (false)))
  else
    (some (false))

theorem c_impl_IsMatrix (a0 : Int) (a1 : Mt) (r : Bool) (h : m_impl_IsMatrix a0 a1 = some r) : HasC Try.prog 97 [.int a0, .agg (eM a1)] (.bl r) := by
  refine hasC_mk TT_ok (rvs := [.tmp 4]) (ns := [0, 1, 2, 3, 4, 5, 6, 7, 8, 9, 10, 11, 12, 13]) Try.func97 rfl rfl Try.ntmps97 rfl rfl rfl ?_
  refine ac_seq ?_
  refine ac_region ?_
  refine aops_eff (w_box rfl rfl rfl rfl) rfl rfl rfl ?_
  refine aops_eff (eff_assign rfl) rfl rfl rfl ?_
  refine aops_nil ?_
  refine then_n ?_
  refine ac_seq ?_
  refine ac_region ?_
  refine aops_eff (w_field_ptr TT_ok rfl rfl rfl rfl rfl rfl rfl) rfl rfl rfl ?_
  refine aops_eff (w_load_ptr TT_ok rfl rfl rfl rfl rfl rfl rfl) rfl rfl rfl ?_
  obtain ⟨v1, hv1, h⟩ := ob h
  refine aops_eff (w_call0s (c_impl_within a1.rows 0 8 v1 hv1) rfl (va_cons (va_same rfl) (va_cons (va_same rfl) (va_cons (va_same rfl) va_nil)))) rfl rfl rfl ?_
  refine aops_eff (eff_move rfl) rfl rfl rfl ?_
  rcases cb h with ⟨q2, h⟩ | ⟨q2, h⟩
  · refine aops_lit 8 rfl q2 ?_
    refine aops_eff (w_field_ptr TT_ok rfl rfl rfl rfl rfl rfl rfl) rfl rfl rfl ?_
    refine aops_eff (w_load_ptr TT_ok rfl rfl rfl rfl rfl rfl rfl) rfl rfl rfl ?_
    obtain ⟨v3, hv3, h⟩ := ob h
    refine aops_eff (w_call0s (c_impl_within a1.cols 0 8 v3 hv3) rfl (va_cons (va_same rfl) (va_cons (va_same rfl) (va_cons (va_same rfl) va_nil)))) rfl rfl rfl ?_
    refine aops_eff (eff_pick rfl rfl) rfl rfl rfl ?_
    refine aops_eff (eff_move rfl) rfl rfl rfl ?_
    rcases cb h with ⟨q4, h⟩ | ⟨q4, h⟩
    · refine aops_lit 13 rfl q4 ?_
      refine aops_eff (w_field_ptr TT_ok rfl rfl rfl rfl rfl rfl rfl) rfl rfl rfl ?_
      refine aops_eff (w_load_ptr TT_ok rfl rfl rfl rfl rfl rfl rfl) rfl rfl rfl ?_
      refine aops_eff (AEff.val (w_len_list TT_ok rfl rfl rfl) (v' := .int (a1.cells.length : Int)) (by first | rw [len_map] | rw [encI_len])) rfl rfl rfl ?_
      refine aops_eff (w_field_ptr TT_ok rfl rfl rfl rfl rfl rfl rfl) rfl rfl rfl ?_
      refine aops_eff (w_load_ptr TT_ok rfl rfl rfl rfl rfl rfl rfl) rfl rfl rfl ?_
      refine aops_eff (w_field_ptr TT_ok rfl rfl rfl rfl rfl rfl rfl) rfl rfl rfl ?_
      refine aops_eff (w_load_ptr TT_ok rfl rfl rfl rfl rfl rfl rfl) rfl rfl rfl ?_
      refine aops_eff (x_mul rfl rfl) rfl rfl rfl ?_
      refine aops_eff (w_cmp rfl rfl rfl) rfl rfl rfl ?_
      refine aops_eff (eff_pick rfl rfl) rfl rfl rfl ?_
      refine aops_eff (eff_move rfl) rfl rfl rfl ?_
      rcases cb h with ⟨q5, h⟩ | ⟨q5, h⟩
      · refine aops_lit 24 rfl q5 ?_
        refine aops_eff (eff_move rfl) rfl rfl rfl ?_
        refine aops_eff (w_field_ptr TT_ok rfl rfl rfl rfl rfl rfl rfl) rfl rfl rfl ?_
        refine aops_eff (w_load_ptr TT_ok rfl rfl rfl rfl rfl rfl rfl) rfl rfl rfl ?_
        obtain ⟨v6, hv6, h⟩ := ob h
        refine aops_eff (w_call0s (c_impl_IsVector a0 a1.cells v6 hv6) rfl (va_cons (va_same rfl) (va_cons (va_same rfl) va_nil))) rfl rfl rfl ?_
        refine aops_eff (eff_pick rfl rfl) rfl rfl rfl ?_
        refine aops_eff (eff_assign rfl) rfl rfl rfl ?_
        refine aops_nil ?_
        refine then_n ?_
        refine ac_ent (t := mkS [(4, .bl v6)] [] 1 [1, 2, 3, 4, 5, 6, 7, 8, 9, 10, 11, 12, 13, 14]) (ent_mk (σ := sg []) ⟨⟨_, rfl, rfl⟩, trivial⟩ trivial rfl) ?_
        refine ac_ret ?_
        obtain rfl := so h
        exact ret_mk rfl rfl rfl (fz_bl rfl)
      · refine aops_lit 24 rfl q5 ?_
        refine aops_skip rfl rfl ?_
        refine aops_skip rfl rfl ?_
        refine aops_skip rfl rfl ?_
        refine aops_skip rfl rfl ?_
        refine aops_eff (eff_pick rfl rfl) rfl rfl rfl ?_
        refine aops_eff (eff_assign rfl) rfl rfl rfl ?_
        refine aops_nil ?_
        refine then_n ?_
        refine ac_ent (t := mkS [(4, .bl false)] [] 1 [1, 2, 3, 4, 5, 6, 7, 8, 9, 10, 11, 12, 13, 14]) (ent_mk (σ := sg []) ⟨⟨_, rfl, rfl⟩, trivial⟩ trivial rfl) ?_
        refine ac_ret ?_
        obtain rfl := so h
        exact ret_mk rfl rfl rfl (fz_bl rfl)
    · refine aops_lit 13 rfl q4 ?_
      refine aops_skip rfl rfl ?_
      refine aops_skip rfl rfl ?_
      refine aops_skip rfl rfl ?_
      refine aops_skip rfl rfl ?_
      refine aops_skip rfl rfl ?_
      refine aops_skip rfl rfl ?_
      refine aops_skip rfl rfl ?_
      refine aops_skip rfl rfl ?_
      refine aops_skip rfl rfl ?_
      refine aops_eff (eff_pick rfl rfl) rfl rfl rfl ?_
      refine aops_eff (eff_move rfl) rfl rfl rfl ?_
      refine aops_skip rfl rfl ?_
      refine aops_skip rfl rfl ?_
      refine aops_skip rfl rfl ?_
      refine aops_skip rfl rfl ?_
      refine aops_eff (eff_pick rfl rfl) rfl rfl rfl ?_
      refine aops_eff (eff_assign rfl) rfl rfl rfl ?_
      refine aops_nil ?_
      refine then_n ?_
      refine ac_ent (t := mkS [(4, .bl false)] [] 1 [1, 2, 3, 4, 5, 6, 7, 8, 9, 10, 11, 12, 13, 14]) (ent_mk (σ := sg []) ⟨⟨_, rfl, rfl⟩, trivial⟩ trivial rfl) ?_
      refine ac_ret ?_
      obtain rfl := so h
      exact ret_mk rfl rfl rfl (fz_bl rfl)
  · refine aops_lit 8 rfl q2 ?_
    refine aops_skip rfl rfl ?_
    refine aops_skip rfl rfl ?_
    refine aops_skip rfl rfl ?_
    refine aops_eff (eff_pick rfl rfl) rfl rfl rfl ?_
    refine aops_eff (eff_move rfl) rfl rfl rfl ?_
    refine aops_skip rfl rfl ?_
    refine aops_skip rfl rfl ?_
    refine aops_skip rfl rfl ?_
    refine aops_skip rfl rfl ?_
    refine aops_skip rfl rfl ?_
    refine aops_skip rfl rfl ?_
    refine aops_skip rfl rfl ?_
    refine aops_skip rfl rfl ?_
    refine aops_skip rfl rfl ?_
    refine aops_eff (eff_pick rfl rfl) rfl rfl rfl ?_
    refine aops_eff (eff_move rfl) rfl rfl rfl ?_
    refine aops_skip rfl rfl ?_
    refine aops_skip rfl rfl ?_
    refine aops_skip rfl rfl ?_
    refine aops_skip rfl rfl ?_
    refine aops_eff (eff_pick rfl rfl) rfl rfl rfl ?_
    refine aops_eff (eff_assign rfl) rfl rfl rfl ?_
    refine aops_nil ?_
    refine then_n ?_
    refine ac_ent (t := mkS [(4, .bl false)] [] 1 [1, 2, 3, 4, 5, 6, 7, 8, 9, 10, 11, 12, 13, 14]) (ent_mk (σ := sg []) ⟨⟨_, rfl, rfl⟩, trivial⟩ trivial rfl) ?_
    refine ac_ret ?_
    obtain rfl := so h
    exact ret_mk rfl rfl rfl (fz_bl rfl)

noncomputable def m_impl_IsQuiver (a0 : Qv) : Option Bool :=
  Option.bind (m_impl_within a0.n 1 5) fun v1 =>
  bif v1 then
    (bif decide ((a0.src.length : Int) = (a0.tgt.length : Int)) then
      (bif decide ((a0.src.length : Int) ≤ 6) then
        (Option.bind (m_impl_allWithin a0.src 0 (wr (a0.n - 1))) fun v5 =>
        bif v5 then
          (Option.bind (m_impl_allWithin a0.tgt 0 (wr (a0.n - 1))) fun v7 =>
          some (v7))
        else
          (some (false)))
      else
        (some (false)))
    else
      (some (false)))
  else
    (some (false))

theorem c_impl_IsQuiver (a0 : Qv) (r : Bool) (h : m_impl_IsQuiver a0 = some r) : HasC Try.prog 130 [.agg (eQ a0)] (.bl r) := by
  refine hasC_mk TT_ok (rvs := [.tmp 2]) (ns := [0, 1, 2, 3, 4, 5, 6, 7, 8, 9, 10, 11, 12, 13]) Try.func130 rfl rfl Try.ntmps130 rfl rfl rfl ?_
  refine ac_seq ?_
  refine ac_region ?_
  refine aops_eff (w_box rfl rfl rfl rfl) rfl rfl rfl ?_
  refine aops_eff (eff_assign rfl) rfl rfl rfl ?_
  refine aops_nil ?_
  refine then_n ?_
  refine ac_seq ?_
  refine ac_region ?_
  refine aops_eff (w_field_ptr TT_ok rfl rfl rfl rfl rfl rfl rfl) rfl rfl rfl ?_
  refine aops_eff (w_load_ptr TT_ok rfl rfl rfl rfl rfl rfl rfl) rfl rfl rfl ?_
  obtain ⟨v1, hv1, h⟩ := ob h
  refine aops_eff (w_call0s (c_impl_within a0.n 1 5 v1 hv1) rfl (va_cons (va_same rfl) (va_cons (va_same rfl) (va_cons (va_same rfl) va_nil)))) rfl rfl rfl ?_
  refine aops_eff (eff_move rfl) rfl rfl rfl ?_
  rcases cb h with ⟨q2, h⟩ | ⟨q2, h⟩
  · refine aops_lit 6 rfl q2 ?_
    refine aops_eff (w_field_ptr TT_ok rfl rfl rfl rfl rfl rfl rfl) rfl rfl rfl ?_
    refine aops_eff (w_load_ptr TT_ok rfl rfl rfl rfl rfl rfl rfl) rfl rfl rfl ?_
    refine aops_eff (AEff.val (w_len_list TT_ok rfl rfl rfl) (v' := .int (a0.src.length : Int)) (by first | rw [len_map] | rw [encI_len])) rfl rfl rfl ?_
    refine aops_eff (w_field_ptr TT_ok rfl rfl rfl rfl rfl rfl rfl) rfl rfl rfl ?_
    refine aops_eff (w_load_ptr TT_ok rfl rfl rfl rfl rfl rfl rfl) rfl rfl rfl ?_
    refine aops_eff (AEff.val (w_len_list TT_ok rfl rfl rfl) (v' := .int (a0.tgt.length : Int)) (by first | rw [len_map] | rw [encI_len])) rfl rfl rfl ?_
    refine aops_eff (w_cmp rfl rfl rfl) rfl rfl rfl ?_
    refine aops_eff (eff_pick rfl rfl) rfl rfl rfl ?_
    refine aops_eff (eff_move rfl) rfl rfl rfl ?_
    rcases cb h with ⟨q3, h⟩ | ⟨q3, h⟩
    · refine aops_lit 15 rfl q3 ?_
      refine aops_eff (w_field_ptr TT_ok rfl rfl rfl rfl rfl rfl rfl) rfl rfl rfl ?_
      refine aops_eff (w_load_ptr TT_ok rfl rfl rfl rfl rfl rfl rfl) rfl rfl rfl ?_
      refine aops_eff (AEff.val (w_len_list TT_ok rfl rfl rfl) (v' := .int (a0.src.length : Int)) (by first | rw [len_map] | rw [encI_len])) rfl rfl rfl ?_
      refine aops_eff (w_cmp rfl rfl rfl) rfl rfl rfl ?_
      refine aops_eff (eff_pick rfl rfl) rfl rfl rfl ?_
      refine aops_eff (eff_move rfl) rfl rfl rfl ?_
      rcases cb h with ⟨q4, h⟩ | ⟨q4, h⟩
      · refine aops_lit 21 rfl q4 ?_
        refine aops_eff (w_field_ptr TT_ok rfl rfl rfl rfl rfl rfl rfl) rfl rfl rfl ?_
        refine aops_eff (w_load_ptr TT_ok rfl rfl rfl rfl rfl rfl rfl) rfl rfl rfl ?_
        refine aops_eff (w_field_ptr TT_ok rfl rfl rfl rfl rfl rfl rfl) rfl rfl rfl ?_
        refine aops_eff (w_load_ptr TT_ok rfl rfl rfl rfl rfl rfl rfl) rfl rfl rfl ?_
        refine aops_eff (x_sub rfl rfl) rfl rfl rfl ?_
        obtain ⟨v5, hv5, h⟩ := ob h
        refine aops_eff (w_call0s (c_impl_allWithin a0.src 0 (wr (a0.n - 1)) v5 hv5) rfl (va_cons (va_same rfl) (va_cons (va_same rfl) (va_cons (va_same rfl) va_nil)))) rfl rfl rfl ?_
        refine aops_eff (eff_pick rfl rfl) rfl rfl rfl ?_
        refine aops_eff (eff_move rfl) rfl rfl rfl ?_
        rcases cb h with ⟨q6, h⟩ | ⟨q6, h⟩
        · refine aops_lit 29 rfl q6 ?_
          refine aops_eff (w_field_ptr TT_ok rfl rfl rfl rfl rfl rfl rfl) rfl rfl rfl ?_
          refine aops_eff (w_load_ptr TT_ok rfl rfl rfl rfl rfl rfl rfl) rfl rfl rfl ?_
          refine aops_eff (w_field_ptr TT_ok rfl rfl rfl rfl rfl rfl rfl) rfl rfl rfl ?_
          refine aops_eff (w_load_ptr TT_ok rfl rfl rfl rfl rfl rfl rfl) rfl rfl rfl ?_
          refine aops_eff (x_sub rfl rfl) rfl rfl rfl ?_
          obtain ⟨v7, hv7, h⟩ := ob h
          refine aops_eff (w_call0s (c_impl_allWithin a0.tgt 0 (wr (a0.n - 1)) v7 hv7) rfl (va_cons (va_same rfl) (va_cons (va_same rfl) (va_cons (va_same rfl) va_nil)))) rfl rfl rfl ?_
          refine aops_eff (eff_pick rfl rfl) rfl rfl rfl ?_
          refine aops_eff (eff_assign rfl) rfl rfl rfl ?_
          refine aops_nil ?_
          refine then_n ?_
          refine ac_ent (t := mkS [(2, .bl v7)] [] 1 [1, 2, 3, 4, 5, 6, 7, 8, 9, 10, 11, 12, 13, 14]) (ent_mk (σ := sg []) ⟨⟨_, rfl, rfl⟩, trivial⟩ trivial rfl) ?_
          refine ac_ret ?_
          obtain rfl := so h
          exact ret_mk rfl rfl rfl (fz_bl rfl)
        · refine aops_lit 29 rfl q6 ?_
          refine aops_skip rfl rfl ?_
          refine aops_skip rfl rfl ?_
          refine aops_skip rfl rfl ?_
          refine aops_skip rfl rfl ?_
          refine aops_skip rfl rfl ?_
          refine aops_skip rfl rfl ?_
          refine aops_eff (eff_pick rfl rfl) rfl rfl rfl ?_
          refine aops_eff (eff_assign rfl) rfl rfl rfl ?_
          refine aops_nil ?_
          refine then_n ?_
          refine ac_ent (t := mkS [(2, .bl false)] [] 1 [1, 2, 3, 4, 5, 6, 7, 8, 9, 10, 11, 12, 13, 14]) (ent_mk (σ := sg []) ⟨⟨_, rfl, rfl⟩, trivial⟩ trivial rfl) ?_
          refine ac_ret ?_
          obtain rfl := so h
          exact ret_mk rfl rfl rfl (fz_bl rfl)
      · refine aops_lit 21 rfl q4 ?_
        refine aops_skip rfl rfl ?_
        refine aops_skip rfl rfl ?_
        refine aops_skip rfl rfl ?_
        refine aops_skip rfl rfl ?_
        refine aops_skip rfl rfl ?_
        refine aops_skip rfl rfl ?_
        refine aops_eff (eff_pick rfl rfl) rfl rfl rfl ?_
        refine aops_eff (eff_move rfl) rfl rfl rfl ?_
        refine aops_skip rfl rfl ?_
        refine aops_skip rfl rfl ?_
        refine aops_skip rfl rfl ?_
        refine aops_skip rfl rfl ?_
        refine aops_skip rfl rfl ?_
        refine aops_skip rfl rfl ?_
        refine aops_eff (eff_pick rfl rfl) rfl rfl rfl ?_
        refine aops_eff (eff_assign rfl) rfl rfl rfl ?_
        refine aops_nil ?_
        refine then_n ?_
        refine ac_ent (t := mkS [(2, .bl false)] [] 1 [1, 2, 3, 4, 5, 6, 7, 8, 9, 10, 11, 12, 13, 14]) (ent_mk (σ := sg []) ⟨⟨_, rfl, rfl⟩, trivial⟩ trivial rfl) ?_
        refine ac_ret ?_
        obtain rfl := so h
        exact ret_mk rfl rfl rfl (fz_bl rfl)
    · refine aops_lit 15 rfl q3 ?_
      refine aops_skip rfl rfl ?_
      refine aops_skip rfl rfl ?_
      refine aops_skip rfl rfl ?_
      refine aops_skip rfl rfl ?_
      refine aops_eff (eff_pick rfl rfl) rfl rfl rfl ?_
      refine aops_eff (eff_move rfl) rfl rfl rfl ?_
      refine aops_skip rfl rfl ?_
      refine aops_skip rfl rfl ?_
      refine aops_skip rfl rfl ?_
      refine aops_skip rfl rfl ?_
      refine aops_skip rfl rfl ?_
      refine aops_skip rfl rfl ?_
      refine aops_eff (eff_pick rfl rfl) rfl rfl rfl ?_
      refine aops_eff (eff_move rfl) rfl rfl rfl ?_
      refine aops_skip rfl rfl ?_
      refine aops_skip rfl rfl ?_
      refine aops_skip rfl rfl ?_
      refine aops_skip rfl rfl ?_
      refine aops_skip rfl rfl ?_
      refine aops_skip rfl rfl ?_
      refine aops_eff (eff_pick rfl rfl) rfl rfl rfl ?_
      refine aops_eff (eff_assign rfl) rfl rfl rfl ?_
      refine aops_nil ?_
      refine then_n ?_
      refine ac_ent (t := mkS [(2, .bl false)] [] 1 [1, 2, 3, 4, 5, 6, 7, 8, 9, 10, 11, 12, 13, 14]) (ent_mk (σ := sg []) ⟨⟨_, rfl, rfl⟩, trivial⟩ trivial rfl) ?_
      refine ac_ret ?_
      obtain rfl := so h
      exact ret_mk rfl rfl rfl (fz_bl rfl)
  · refine aops_lit 6 rfl q2 ?_
    refine aops_skip rfl rfl ?_
    refine aops_skip rfl rfl ?_
    refine aops_skip rfl rfl ?_
    refine aops_skip rfl rfl ?_
    refine aops_skip rfl rfl ?_
    refine aops_skip rfl rfl ?_
    refine aops_skip rfl rfl ?_
    refine aops_eff (eff_pick rfl rfl) rfl rfl rfl ?_
    refine aops_eff (eff_move rfl) rfl rfl rfl ?_
    refine aops_skip rfl rfl ?_
    refine aops_skip rfl rfl ?_
    refine aops_skip rfl rfl ?_
    refine aops_skip rfl rfl ?_
    refine aops_eff (eff_pick rfl rfl) rfl rfl rfl ?_
    refine aops_eff (eff_move rfl) rfl rfl rfl ?_
    refine aops_skip rfl rfl ?_
    refine aops_skip rfl rfl ?_
    refine aops_skip rfl rfl ?_
    refine aops_skip rfl rfl ?_
    refine aops_skip rfl rfl ?_
    refine aops_skip rfl rfl ?_
    refine aops_eff (eff_pick rfl rfl) rfl rfl rfl ?_
    refine aops_eff (eff_move rfl) rfl rfl rfl ?_
    refine aops_skip rfl rfl ?_
    refine aops_skip rfl rfl ?_
    refine aops_skip rfl rfl ?_
    refine aops_skip rfl rfl ?_
    refine aops_skip rfl rfl ?_
    refine aops_skip rfl rfl ?_
    refine aops_eff (eff_pick rfl rfl) rfl rfl rfl ?_
    refine aops_eff (eff_assign rfl) rfl rfl rfl ?_
    refine aops_nil ?_
    refine then_n ?_
    refine ac_ent (t := mkS [(2, .bl false)] [] 1 [1, 2, 3, 4, 5, 6, 7, 8, 9, 10, 11, 12, 13, 14]) (ent_mk (σ := sg []) ⟨⟨_, rfl, rfl⟩, trivial⟩ trivial rfl) ?_
    refine ac_ret ?_
    obtain rfl := so h
    exact ret_mk rfl rfl rfl (fz_bl rfl)

noncomputable def m_impl_AreDims (a0 : Qv) (a1 : (List Int)) : Option Bool :=
  Option.bind (m_impl_IsQuiver a0) fun v1 =>
  bif v1 then
    (bif decide ((a1.length : Int) = a0.n) then
      (Option.bind (m_impl_allWithin a1 0 4) fun v4 =>
      bif v4 then
        (Option.bind (m_impl_sumOf a1) fun v6 =>
        some (decide (v6 ≤ 8)))
      else
        (some (false)))
    else
      (some (false)))
  else
    (some (false))

theorem c_impl_AreDims (a0 : Qv) (a1 : (List Int)) (r : Bool) (h : m_impl_AreDims a0 a1 = some r) : HasC Try.prog 96 [.agg (eQ a0), .list 1 (List.map eI a1)] (.bl r) := by
  refine hasC_mk TT_ok (rvs := [.tmp 4]) (ns := [0, 1, 2, 3, 4, 5, 6, 7, 8, 9, 10, 11, 12, 13]) Try.func96 rfl rfl Try.ntmps96 rfl rfl rfl ?_
  refine ac_seq ?_
  refine ac_region ?_
  refine aops_eff (w_box rfl rfl rfl rfl) rfl rfl rfl ?_
  refine aops_eff (eff_assign rfl) rfl rfl rfl ?_
  refine aops_nil ?_
  refine then_n ?_
  refine ac_seq ?_
  refine ac_region ?_
  refine aops_eff (w_load_ptr TT_ok rfl rfl rfl rfl rfl rfl rfl) rfl rfl rfl ?_
  obtain ⟨v1, hv1, h⟩ := ob h
  refine aops_eff (w_call0s (c_impl_IsQuiver a0 v1 hv1) rfl (va_cons (va_agg' (v1_cons (v1_same rfl) (v1_cons (v1_same rfl) (v1_cons (v1_same rfl) v1_nil)))) va_nil)) rfl rfl rfl ?_
  refine aops_eff (eff_move rfl) rfl rfl rfl ?_
  rcases cb h with ⟨q2, h⟩ | ⟨q2, h⟩
  · refine aops_lit 7 rfl q2 ?_
    refine aops_eff (eff_move rfl) rfl rfl rfl ?_
    refine aops_eff (AEff.val (w_len_list TT_ok rfl rfl rfl) (v' := .int (a1.length : Int)) (by first | rw [len_map] | rw [encI_len])) rfl rfl rfl ?_
    refine aops_eff (w_field_ptr TT_ok rfl rfl rfl rfl rfl rfl rfl) rfl rfl rfl ?_
    refine aops_eff (w_load_ptr TT_ok rfl rfl rfl rfl rfl rfl rfl) rfl rfl rfl ?_
    refine aops_eff (w_cmp rfl rfl rfl) rfl rfl rfl ?_
    refine aops_eff (eff_pick rfl rfl) rfl rfl rfl ?_
    refine aops_eff (eff_move rfl) rfl rfl rfl ?_
    rcases cb h with ⟨q3, h⟩ | ⟨q3, h⟩
    · refine aops_lit 14 rfl q3 ?_
      refine aops_eff (eff_move rfl) rfl rfl rfl ?_
      obtain ⟨v4, hv4, h⟩ := ob h
      refine aops_eff (w_call0s (c_impl_allWithin a1 0 4 v4 hv4) rfl (va_cons (va_same rfl) (va_cons (va_same rfl) (va_cons (va_same rfl) va_nil)))) rfl rfl rfl ?_
      refine aops_eff (eff_pick rfl rfl) rfl rfl rfl ?_
      refine aops_eff (eff_move rfl) rfl rfl rfl ?_
      rcases cb h with ⟨q5, h⟩ | ⟨q5, h⟩
      · refine aops_lit 18 rfl q5 ?_
        refine aops_eff (eff_move rfl) rfl rfl rfl ?_
        obtain ⟨v6, hv6, h⟩ := ob h
        refine aops_eff (w_call0s (c_impl_sumOf a1 v6 hv6) rfl (va_cons (va_same rfl) va_nil)) rfl rfl rfl ?_
        refine aops_eff (w_cmp rfl rfl rfl) rfl rfl rfl ?_
        refine aops_eff (eff_pick rfl rfl) rfl rfl rfl ?_
        refine aops_eff (eff_assign rfl) rfl rfl rfl ?_
        refine aops_nil ?_
        refine then_n ?_
        refine ac_ent (t := mkS [(4, .bl (decide (v6 ≤ 8)))] [] 1 [1, 2, 3, 4, 5, 6, 7, 8, 9, 10, 11, 12, 13, 14]) (ent_mk (σ := sg []) ⟨⟨_, rfl, rfl⟩, trivial⟩ trivial rfl) ?_
        refine ac_ret ?_
        obtain rfl := so h
        exact ret_mk rfl rfl rfl (fz_bl rfl)
      · refine aops_lit 18 rfl q5 ?_
        refine aops_skip rfl rfl ?_
        refine aops_skip rfl rfl ?_
        refine aops_skip rfl rfl ?_
        refine aops_eff (eff_pick rfl rfl) rfl rfl rfl ?_
        refine aops_eff (eff_assign rfl) rfl rfl rfl ?_
        refine aops_nil ?_
        refine then_n ?_
        refine ac_ent (t := mkS [(4, .bl false)] [] 1 [1, 2, 3, 4, 5, 6, 7, 8, 9, 10, 11, 12, 13, 14]) (ent_mk (σ := sg []) ⟨⟨_, rfl, rfl⟩, trivial⟩ trivial rfl) ?_
        refine ac_ret ?_
        obtain rfl := so h
        exact ret_mk rfl rfl rfl (fz_bl rfl)
    · refine aops_lit 14 rfl q3 ?_
      refine aops_skip rfl rfl ?_
      refine aops_skip rfl rfl ?_
      refine aops_eff (eff_pick rfl rfl) rfl rfl rfl ?_
      refine aops_eff (eff_move rfl) rfl rfl rfl ?_
      refine aops_skip rfl rfl ?_
      refine aops_skip rfl rfl ?_
      refine aops_skip rfl rfl ?_
      refine aops_eff (eff_pick rfl rfl) rfl rfl rfl ?_
      refine aops_eff (eff_assign rfl) rfl rfl rfl ?_
      refine aops_nil ?_
      refine then_n ?_
      refine ac_ent (t := mkS [(4, .bl false)] [] 1 [1, 2, 3, 4, 5, 6, 7, 8, 9, 10, 11, 12, 13, 14]) (ent_mk (σ := sg []) ⟨⟨_, rfl, rfl⟩, trivial⟩ trivial rfl) ?_
      refine ac_ret ?_
      obtain rfl := so h
      exact ret_mk rfl rfl rfl (fz_bl rfl)
  · refine aops_lit 7 rfl q2 ?_
    refine aops_skip rfl rfl ?_
    refine aops_skip rfl rfl ?_
    refine aops_skip rfl rfl ?_
    refine aops_skip rfl rfl ?_
    refine aops_skip rfl rfl ?_
    refine aops_eff (eff_pick rfl rfl) rfl rfl rfl ?_
    refine aops_eff (eff_move rfl) rfl rfl rfl ?_
    refine aops_skip rfl rfl ?_
    refine aops_skip rfl rfl ?_
    refine aops_eff (eff_pick rfl rfl) rfl rfl rfl ?_
    refine aops_eff (eff_move rfl) rfl rfl rfl ?_
    refine aops_skip rfl rfl ?_
    refine aops_skip rfl rfl ?_
    refine aops_skip rfl rfl ?_
    refine aops_eff (eff_pick rfl rfl) rfl rfl rfl ?_
    refine aops_eff (eff_assign rfl) rfl rfl rfl ?_
    refine aops_nil ?_
    refine then_n ?_
    refine ac_ent (t := mkS [(4, .bl false)] [] 1 [1, 2, 3, 4, 5, 6, 7, 8, 9, 10, 11, 12, 13, 14]) (ent_mk (σ := sg []) ⟨⟨_, rfl, rfl⟩, trivial⟩ trivial rfl) ?_
    refine ac_ret ?_
    obtain rfl := so h
    exact ret_mk rfl rfl rfl (fz_bl rfl)

noncomputable def m_impl_IsRep_L1 (a0 : Rp) (x1 : Int) : Option (Int ⊕ (Unit ⊕ Bool)) :=
  bif decide (x1 < (a0.maps.length : Int)) then
    (Option.bind (atL a0.maps x1) fun v7 =>
    Option.bind (m_impl_IsMatrix a0.p v7) fun v8 =>
    bif !v8 then
      (some (.inr (.inr (false))))
    else
      (Option.bind (atL a0.q.src x1) fun v10 =>
      Option.bind (atL a0.dims v10) fun v11 =>
      bif !decide (v7.cols = v11) then
        (some (.inr (.inr (false))))
      else
        (Option.bind (atL a0.q.tgt x1) fun v13 =>
        Option.bind (atL a0.dims v13) fun v14 =>
        bif !decide (v7.rows = v14) then
          (some (.inr (.inr (false))))
        else
          (some (.inl (wr (x1 + 1)))))))
  else
    (some (.inr (.inl ())))

noncomputable def m_impl_IsRep (a0 : Rp) : Option Bool :=
  Option.bind (m_impl_IsField a0.p) fun v1 =>
  bif !v1 then
    (some (false))
  else
    (Option.bind (m_impl_AreDims a0.q a0.dims) fun v3 =>
    bif !v3 then
      (some (false))
    else
      (bif !decide ((a0.maps.length : Int) = (a0.q.src.length : Int)) then
        (some (false))
      else
        (Option.bind (Lp (m_impl_IsRep_L1 a0) 0) fun y16 =>
        Sum.elim (fun y17 =>
          some (true)
        ) 
        (fun y18 =>
          some y18
        )
         y16)))

theorem c_impl_IsRep (a0 : Rp) (r : Bool) (h : m_impl_IsRep a0 = some r) : HasC Try.prog 42 [.agg (eR a0)] (.bl r) := by
  refine hasC_mk TT_ok (rvs := [.tmp 2]) (ns := [0, 1, 2, 3, 4, 5, 6, 7, 8, 9, 10, 11, 12, 13]) Try.func42 rfl rfl Try.ntmps42 rfl rfl rfl ?_
  refine ac_seq ?_
  refine ac_region ?_
  refine aops_eff (w_box rfl rfl rfl rfl) rfl rfl rfl ?_
  refine aops_eff (eff_assign rfl) rfl rfl rfl ?_
  refine aops_nil ?_
  refine then_n ?_
  refine ac_seq ?_
  refine ac_seq ?_
  refine ac_region ?_
  refine aops_eff (w_field_ptr TT_ok rfl rfl rfl rfl rfl rfl rfl) rfl rfl rfl ?_
  refine aops_eff (w_load_ptr TT_ok rfl rfl rfl rfl rfl rfl rfl) rfl rfl rfl ?_
  obtain ⟨v1, hv1, h⟩ := ob h
  refine aops_eff (w_call0s (c_impl_IsField a0.p v1 hv1) rfl (va_cons (va_same rfl) va_nil)) rfl rfl rfl ?_
  refine aops_eff (w_not rfl) rfl rfl rfl ?_
  refine aops_eff (eff_move rfl) rfl rfl rfl ?_
  rcases cb h with ⟨q2, h⟩ | ⟨q2, h⟩
  · refine aops_lit 9 rfl q2 ?_
    refine aops_skip rfl rfl ?_
    refine aops_skip rfl rfl ?_
    refine aops_skip rfl rfl ?_
    refine aops_skip rfl rfl ?_
    refine aops_skip rfl rfl ?_
    refine aops_skip rfl rfl ?_
    refine aops_eff (eff_pick rfl rfl) rfl rfl rfl ?_
    refine aops_eff (eff_move rfl) rfl rfl rfl ?_
    refine aops_skip rfl rfl ?_
    refine aops_skip rfl rfl ?_
    refine aops_skip rfl rfl ?_
    refine aops_skip rfl rfl ?_
    refine aops_skip rfl rfl ?_
    refine aops_skip rfl rfl ?_
    refine aops_skip rfl rfl ?_
    refine aops_skip rfl rfl ?_
    refine aops_eff (eff_pick rfl rfl) rfl rfl rfl ?_
    refine aops_nil ?_
    refine then_n ?_
    refine ac_ent (t := mkS [(1, .ptr 0 0 0), (26, .bl true)] [(0, ⟨6, [[.int a0.p, .int a0.q.n, .list 1 (List.map eI a0.q.src), .list 1 (List.map eI a0.q.tgt), .list 1 (List.map eI a0.dims), .list 3 (List.map eM a0.maps)]]⟩)] 1 [1, 2, 3, 4, 5, 6, 7, 8, 9, 10, 11, 12, 13, 14]) (ent_mk (σ := sg [(0, 0)]) ⟨⟨_, rfl, ⟨rfl, rfl, rfl, rfl⟩⟩, ⟨_, rfl, rfl⟩, trivial⟩ ⟨⟨_, rfl, rfl, .inl ⟨rfl, plain_of rfl⟩⟩, rfl, trivial⟩ rfl) ?_
    refine ac_condT rfl rfl ?_
    refine ac_seq ?_
    refine ac_region ?_
    refine aops_eff (eff_assign rfl) rfl rfl rfl ?_
    refine aops_nil ?_
    refine then_n ?_
    refine ac_ret ?_
    refine then_ret ?_
    obtain rfl := so h
    exact ret_mk rfl rfl rfl (fz_bl rfl)
  · refine aops_lit 9 rfl q2 ?_
    refine aops_eff (w_field_ptr TT_ok rfl rfl rfl rfl rfl rfl rfl) rfl rfl rfl ?_
    refine aops_eff (w_load_ptr TT_ok rfl rfl rfl rfl rfl rfl rfl) rfl rfl rfl ?_
    refine aops_eff (w_field_ptr TT_ok rfl rfl rfl rfl rfl rfl rfl) rfl rfl rfl ?_
    refine aops_eff (w_load_ptr TT_ok rfl rfl rfl rfl rfl rfl rfl) rfl rfl rfl ?_
    obtain ⟨v3, hv3, h⟩ := ob h
    refine aops_eff (w_call0s (c_impl_AreDims a0.q a0.dims v3 hv3) rfl (va_cons (va_agg' (v1_cons (v1_same rfl) (v1_cons (v1_same rfl) (v1_cons (v1_same rfl) v1_nil)))) (va_cons (va_same rfl) va_nil))) rfl rfl rfl ?_
    refine aops_eff (w_not rfl) rfl rfl rfl ?_
    refine aops_eff (eff_pick rfl rfl) rfl rfl rfl ?_
    refine aops_eff (eff_move rfl) rfl rfl rfl ?_
    rcases cb h with ⟨q4, h⟩ | ⟨q4, h⟩
    · refine aops_lit 17 rfl q4 ?_
      refine aops_skip rfl rfl ?_
      refine aops_skip rfl rfl ?_
      refine aops_skip rfl rfl ?_
      refine aops_skip rfl rfl ?_
      refine aops_skip rfl rfl ?_
      refine aops_skip rfl rfl ?_
      refine aops_skip rfl rfl ?_
      refine aops_skip rfl rfl ?_
      refine aops_eff (eff_pick rfl rfl) rfl rfl rfl ?_
      refine aops_nil ?_
      refine then_n ?_
      refine ac_ent (t := mkS [(1, .ptr 0 0 0), (26, .bl true)] [(0, ⟨6, [[.int a0.p, .int a0.q.n, .list 1 (List.map eI a0.q.src), .list 1 (List.map eI a0.q.tgt), .list 1 (List.map eI a0.dims), .list 3 (List.map eM a0.maps)]]⟩)] 1 [1, 2, 3, 4, 5, 6, 7, 8, 9, 10, 11, 12, 13, 14]) (ent_mk (σ := sg [(0, 0)]) ⟨⟨_, rfl, ⟨rfl, rfl, rfl, rfl⟩⟩, ⟨_, rfl, rfl⟩, trivial⟩ ⟨⟨_, rfl, rfl, .inl ⟨rfl, plain_of rfl⟩⟩, rfl, trivial⟩ rfl) ?_
      refine ac_condT rfl rfl ?_
      refine ac_seq ?_
      refine ac_region ?_
      refine aops_eff (eff_assign rfl) rfl rfl rfl ?_
      refine aops_nil ?_
      refine then_n ?_
      refine ac_ret ?_
      refine then_ret ?_
      obtain rfl := so h
      exact ret_mk rfl rfl rfl (fz_bl rfl)
    · refine aops_lit 17 rfl q4 ?_
      refine aops_eff (w_field_ptr TT_ok rfl rfl rfl rfl rfl rfl rfl) rfl rfl rfl ?_
      refine aops_eff (w_load_ptr TT_ok rfl rfl rfl rfl rfl rfl rfl) rfl rfl rfl ?_
      refine aops_eff (AEff.val (w_len_list TT_ok rfl rfl rfl) (v' := .int (a0.maps.length : Int)) (by first | rw [len_map] | rw [encI_len])) rfl rfl rfl ?_
      refine aops_eff (w_field_ptr TT_ok rfl rfl rfl rfl rfl rfl rfl) rfl rfl rfl ?_
      refine aops_eff (w_field_ptr TT_ok rfl rfl rfl rfl rfl rfl rfl) rfl rfl rfl ?_
      refine aops_eff (w_load_ptr TT_ok rfl rfl rfl rfl rfl rfl rfl) rfl rfl rfl ?_
      refine aops_eff (AEff.val (w_len_list TT_ok rfl rfl rfl) (v' := .int (a0.q.src.length : Int)) (by first | rw [len_map] | rw [encI_len])) rfl rfl rfl ?_
      refine aops_eff (w_cmp rfl rfl rfl) rfl rfl rfl ?_
      refine aops_eff (eff_pick rfl rfl) rfl rfl rfl ?_
      refine aops_nil ?_
      refine then_n ?_
      refine ac_ent (t := mkS [(1, .ptr 0 0 0), (26, .bl (!decide ((a0.maps.length : Int) = (a0.q.src.length : Int))))] [(0, ⟨6, [[.int a0.p, .int a0.q.n, .list 1 (List.map eI a0.q.src), .list 1 (List.map eI a0.q.tgt), .list 1 (List.map eI a0.dims), .list 3 (List.map eM a0.maps)]]⟩)] 1 [1, 2, 3, 4, 5, 6, 7, 8, 9, 10, 11, 12, 13, 14]) (ent_mk (σ := sg [(0, 0)]) ⟨⟨_, rfl, ⟨rfl, rfl, rfl, rfl⟩⟩, ⟨_, rfl, rfl⟩, trivial⟩ ⟨⟨_, rfl, rfl, .inl ⟨rfl, plain_of rfl⟩⟩, rfl, trivial⟩ rfl) ?_
      rcases cb h with ⟨q5, h⟩ | ⟨q5, h⟩
      · refine ac_condT rfl q5 ?_
        refine ac_seq ?_
        refine ac_region ?_
        refine aops_eff (eff_assign rfl) rfl rfl rfl ?_
        refine aops_nil ?_
        refine then_n ?_
        refine ac_ret ?_
        refine then_ret ?_
        obtain rfl := so h
        exact ret_mk rfl rfl rfl (fz_bl rfl)
      · refine ac_condF rfl q5 ?_
        refine ac_skip ?_
        refine then_n ?_
        refine ac_seq ?_
        refine ac_seq ?_
        refine ac_region ?_
        refine aops_eff (w_field_ptr TT_ok rfl rfl rfl rfl rfl rfl rfl) rfl rfl rfl ?_
        refine aops_eff (w_load_ptr TT_ok rfl rfl rfl rfl rfl rfl rfl) rfl rfl rfl ?_
        refine aops_eff (AEff.val (w_len_list TT_ok rfl rfl rfl) (v' := .int (a0.maps.length : Int)) (by first | rw [len_map] | rw [encI_len])) rfl rfl rfl ?_
        refine aops_eff (eff_move rfl) rfl rfl rfl ?_
        refine aops_nil ?_
        refine then_n ?_
        refine ac_block ?_
        obtain ⟨y16, hy16, h⟩ := ob h
        refine ac_Lp (body := (m_impl_IsRep_L1 a0)) hy16 (fun (x1 : Int) => mkS [(1, .ptr 0 0 0), (28, .list 3 (List.map eM a0.maps)), (29, .int (a0.maps.length : Int)), (30, .int x1)] [(0, ⟨6, [[.int a0.p, .int a0.q.n, .list 1 (List.map eI a0.q.src), .list 1 (List.map eI a0.q.tgt), .list 1 (List.map eI a0.dims), .list 3 (List.map eM a0.maps)]]⟩)] 1 [1, 2, 3, 4, 5, 6, 7, 8, 9, 10, 11, 12, 13, 14]) (fun r e t => Sum.elim (fun a => (fun r e t => e = .exit 0 ∧ Ent t (mkS [] [] 0 [0, 1, 2, 3, 4, 5, 6, 7, 8, 9, 10, 11, 12, 13])) a e t) (fun b => (fun r e t => e = .ret ∧ RetQ TT [.tmp 2] (.bl r) .ret t) b e t) r) (ent_mk (σ := sg [(0, 0)]) ⟨⟨_, rfl, ⟨rfl, rfl, rfl, rfl⟩⟩, ⟨_, rfl, ⟨rfl, rfl⟩⟩, ⟨_, rfl, rfl⟩, ⟨_, rfl, rfl⟩, trivial⟩ ⟨⟨_, rfl, rfl, .inl ⟨rfl, plain_of rfl⟩⟩, rfl, trivial⟩ rfl) ?_ ?_
        · intro x1 o h
          refine ac_seq ?_
          refine ac_region ?_
          refine aops_eff (w_cmp rfl rfl rfl) rfl rfl rfl ?_
          refine aops_nil ?_
          refine then_n ?_
          refine ac_seq ?_
          rcases cb h with ⟨q6, h⟩ | ⟨q6, h⟩
          · refine ac_condT rfl q6 ?_
            refine ac_skip ?_
            refine then_n ?_
            refine ac_seq ?_
            refine ac_block ?_
            refine ac_seq ?_
            refine ac_region ?_
            refine aops_eff (eff_move rfl) rfl rfl rfl ?_
            obtain ⟨v7, hv7, h⟩ := ob h
            refine aops_eff (x_at_list TT_ok hv7 rfl rfl rfl rfl rfl rfl) rfl rfl rfl ?_
            refine aops_eff (w_load_ref TT_ok rfl rfl rfl rfl rfl rfl) rfl rfl rfl ?_
            refine aops_eff (w_alloc TT_ok rfl rfl) rfl rfl rfl ?_
            refine aops_eff (eff_assign rfl) rfl rfl rfl ?_
            refine aops_eff (w_store TT_ok rfl rfl rfl rfl rfl rfl rfl rfl) rfl rfl rfl ?_
            refine aops_nil ?_
            refine then_n ?_
            refine ac_seq ?_
            refine ac_region_draw MIXX ?_
            refine aops_eff (w_field_ptr TT_ok rfl rfl rfl rfl rfl rfl rfl) rfl rfl rfl ?_
            refine aops_eff (w_load_ptr TT_ok rfl rfl rfl rfl rfl rfl rfl) rfl rfl rfl ?_
            refine aops_eff (w_load_ptr TT_ok rfl rfl rfl rfl rfl rfl rfl) rfl rfl rfl ?_
            obtain ⟨v8, hv8, h⟩ := ob h
            refine aops_eff (w_call0s (c_impl_IsMatrix a0.p v7 v8 hv8) rfl (va_cons (va_same rfl) (va_cons (va_agg' (v1_cons (v1_same rfl) (v1_cons (v1_same rfl) (v1_cons (v1_same rfl) v1_nil)))) va_nil))) rfl rfl rfl ?_
            refine aops_eff (w_not rfl) rfl rfl rfl ?_
            refine aops_eff (eff_move rfl) rfl rfl rfl ?_
            rcases cb h with ⟨q9, h⟩ | ⟨q9, h⟩
            · refine aops_lit 40 rfl q9 ?_
              refine aops_skip rfl rfl ?_
              refine aops_skip rfl rfl ?_
              refine aops_skip rfl rfl ?_
              refine aops_skip rfl rfl ?_
              refine aops_skip rfl rfl ?_
              refine aops_skip rfl rfl ?_
              refine aops_skip rfl rfl ?_
              refine aops_skip rfl rfl ?_
              refine aops_skip rfl rfl ?_
              refine aops_skip rfl rfl ?_
              refine aops_skip rfl rfl ?_
              refine aops_skip rfl rfl ?_
              refine aops_skip rfl rfl ?_
              refine aops_eff (eff_pick rfl rfl) rfl rfl rfl ?_
              refine aops_eff (eff_move rfl) rfl rfl rfl ?_
              refine aops_skip rfl rfl ?_
              refine aops_skip rfl rfl ?_
              refine aops_skip rfl rfl ?_
              refine aops_skip rfl rfl ?_
              refine aops_skip rfl rfl ?_
              refine aops_skip rfl rfl ?_
              refine aops_skip rfl rfl ?_
              refine aops_skip rfl rfl ?_
              refine aops_skip rfl rfl ?_
              refine aops_skip rfl rfl ?_
              refine aops_skip rfl rfl ?_
              refine aops_skip rfl rfl ?_
              refine aops_skip rfl rfl ?_
              refine aops_eff (eff_pick rfl rfl) rfl rfl rfl ?_
              refine aops_nil ?_
              refine ⟨by kernel_rfl, ?_⟩
              refine then_n ?_
              refine ac_ent (t := mkS [(1, .ptr 0 0 0), (28, .list 3 (List.map eM a0.maps)), (29, .int (a0.maps.length : Int)), (30, .int x1), (69, .bl true)] [(0, ⟨6, [[.int a0.p, .int a0.q.n, .list 1 (List.map eI a0.q.src), .list 1 (List.map eI a0.q.tgt), .list 1 (List.map eI a0.dims), .list 3 (List.map eM a0.maps)]]⟩)] 2 [2, 3, 4, 5, 6, 7, 8, 9, 10, 11, 12, 13, 14, 15]) (ent_mk (σ := sg [(0, 0)]) ⟨⟨_, rfl, ⟨rfl, rfl, rfl, rfl⟩⟩, ⟨_, rfl, ⟨rfl, rfl⟩⟩, ⟨_, rfl, rfl⟩, ⟨_, rfl, rfl⟩, ⟨_, rfl, rfl⟩, trivial⟩ ⟨⟨_, rfl, rfl, .inl ⟨rfl, plain_of rfl⟩⟩, rfl, trivial⟩ rfl) ?_
              refine ac_condT rfl rfl ?_
              refine ac_seq ?_
              refine ac_region ?_
              refine aops_eff (eff_assign rfl) rfl rfl rfl ?_
              refine aops_nil ?_
              refine then_n ?_
              refine ac_ret ?_
              refine block_ret ?_
              refine then_ret ?_
              refine then_ret ?_
              obtain rfl := so h
              exact ⟨_, rfl, rfl, ret_mk rfl rfl rfl (fz_bl rfl)⟩
            · refine aops_lit 40 rfl q9 ?_
              refine aops_eff (w_field_ptr TT_ok rfl rfl rfl rfl rfl rfl rfl) rfl rfl rfl ?_
              refine aops_eff (w_load_ptr TT_ok rfl rfl rfl rfl rfl rfl rfl) rfl rfl rfl ?_
              refine aops_eff (w_field_ptr TT_ok rfl rfl rfl rfl rfl rfl rfl) rfl rfl rfl ?_
              refine aops_eff (w_load_ptr TT_ok rfl rfl rfl rfl rfl rfl rfl) rfl rfl rfl ?_
              refine aops_eff (w_field_ptr TT_ok rfl rfl rfl rfl rfl rfl rfl) rfl rfl rfl ?_
              refine aops_eff (w_field_ptr TT_ok rfl rfl rfl rfl rfl rfl rfl) rfl rfl rfl ?_
              refine aops_eff (w_load_ptr TT_ok rfl rfl rfl rfl rfl rfl rfl) rfl rfl rfl ?_
              refine aops_eff (eff_move rfl) rfl rfl rfl ?_
              obtain ⟨v10, hv10, h⟩ := ob h
              refine aops_eff (x_at_list TT_ok hv10 rfl rfl rfl rfl rfl rfl) rfl rfl rfl ?_
              refine aops_eff (w_load_ref TT_ok rfl rfl rfl rfl rfl rfl) rfl rfl rfl ?_
              obtain ⟨v11, hv11, h⟩ := ob h
              refine aops_eff (x_at_list TT_ok hv11 rfl rfl rfl rfl rfl rfl) rfl rfl rfl ?_
              refine aops_eff (w_load_ref TT_ok rfl rfl rfl rfl rfl rfl) rfl rfl rfl ?_
              refine aops_eff (w_cmp rfl rfl rfl) rfl rfl rfl ?_
              refine aops_eff (eff_pick rfl rfl) rfl rfl rfl ?_
              refine aops_eff (eff_move rfl) rfl rfl rfl ?_
              rcases cb h with ⟨q12, h⟩ | ⟨q12, h⟩
              · refine aops_lit 55 rfl q12 ?_
                refine aops_skip rfl rfl ?_
                refine aops_skip rfl rfl ?_
                refine aops_skip rfl rfl ?_
                refine aops_skip rfl rfl ?_
                refine aops_skip rfl rfl ?_
                refine aops_skip rfl rfl ?_
                refine aops_skip rfl rfl ?_
                refine aops_skip rfl rfl ?_
                refine aops_skip rfl rfl ?_
                refine aops_skip rfl rfl ?_
                refine aops_skip rfl rfl ?_
                refine aops_skip rfl rfl ?_
                refine aops_skip rfl rfl ?_
                refine aops_eff (eff_pick rfl rfl) rfl rfl rfl ?_
                refine aops_nil ?_
                refine ⟨by kernel_rfl, ?_⟩
                refine then_n ?_
                refine ac_ent (t := mkS [(1, .ptr 0 0 0), (28, .list 3 (List.map eM a0.maps)), (29, .int (a0.maps.length : Int)), (30, .int x1), (69, .bl true)] [(0, ⟨6, [[.int a0.p, .int a0.q.n, .list 1 (List.map eI a0.q.src), .list 1 (List.map eI a0.q.tgt), .list 1 (List.map eI a0.dims), .list 3 (List.map eM a0.maps)]]⟩)] 2 [2, 3, 4, 5, 6, 7, 8, 9, 10, 11, 12, 13, 14, 15]) (ent_mk (σ := sg [(0, 0)]) ⟨⟨_, rfl, ⟨rfl, rfl, rfl, rfl⟩⟩, ⟨_, rfl, ⟨rfl, rfl⟩⟩, ⟨_, rfl, rfl⟩, ⟨_, rfl, rfl⟩, ⟨_, rfl, rfl⟩, trivial⟩ ⟨⟨_, rfl, rfl, .inl ⟨rfl, plain_of rfl⟩⟩, rfl, trivial⟩ rfl) ?_
                refine ac_condT rfl rfl ?_
                refine ac_seq ?_
                refine ac_region ?_
                refine aops_eff (eff_assign rfl) rfl rfl rfl ?_
                refine aops_nil ?_
                refine then_n ?_
                refine ac_ret ?_
                refine block_ret ?_
                refine then_ret ?_
                refine then_ret ?_
                obtain rfl := so h
                exact ⟨_, rfl, rfl, ret_mk rfl rfl rfl (fz_bl rfl)⟩
              · refine aops_lit 55 rfl q12 ?_
                refine aops_eff (w_field_ptr TT_ok rfl rfl rfl rfl rfl rfl rfl) rfl rfl rfl ?_
                refine aops_eff (w_load_ptr TT_ok rfl rfl rfl rfl rfl rfl rfl) rfl rfl rfl ?_
                refine aops_eff (w_field_ptr TT_ok rfl rfl rfl rfl rfl rfl rfl) rfl rfl rfl ?_
                refine aops_eff (w_load_ptr TT_ok rfl rfl rfl rfl rfl rfl rfl) rfl rfl rfl ?_
                refine aops_eff (w_field_ptr TT_ok rfl rfl rfl rfl rfl rfl rfl) rfl rfl rfl ?_
                refine aops_eff (w_field_ptr TT_ok rfl rfl rfl rfl rfl rfl rfl) rfl rfl rfl ?_
                refine aops_eff (w_load_ptr TT_ok rfl rfl rfl rfl rfl rfl rfl) rfl rfl rfl ?_
                refine aops_eff (eff_move rfl) rfl rfl rfl ?_
                obtain ⟨v13, hv13, h⟩ := ob h
                refine aops_eff (x_at_list TT_ok hv13 rfl rfl rfl rfl rfl rfl) rfl rfl rfl ?_
                refine aops_eff (w_load_ref TT_ok rfl rfl rfl rfl rfl rfl) rfl rfl rfl ?_
                obtain ⟨v14, hv14, h⟩ := ob h
                refine aops_eff (x_at_list TT_ok hv14 rfl rfl rfl rfl rfl rfl) rfl rfl rfl ?_
                refine aops_eff (w_load_ref TT_ok rfl rfl rfl rfl rfl rfl) rfl rfl rfl ?_
                refine aops_eff (w_cmp rfl rfl rfl) rfl rfl rfl ?_
                refine aops_eff (eff_pick rfl rfl) rfl rfl rfl ?_
                refine aops_nil ?_
                refine ⟨by kernel_rfl, ?_⟩
                refine then_n ?_
                refine ac_ent (t := mkS [(1, .ptr 0 0 0), (28, .list 3 (List.map eM a0.maps)), (29, .int (a0.maps.length : Int)), (30, .int x1), (69, .bl (!decide (v7.rows = v14)))] [(0, ⟨6, [[.int a0.p, .int a0.q.n, .list 1 (List.map eI a0.q.src), .list 1 (List.map eI a0.q.tgt), .list 1 (List.map eI a0.dims), .list 3 (List.map eM a0.maps)]]⟩)] 2 [2, 3, 4, 5, 6, 7, 8, 9, 10, 11, 12, 13, 14, 15]) (ent_mk (σ := sg [(0, 0)]) ⟨⟨_, rfl, ⟨rfl, rfl, rfl, rfl⟩⟩, ⟨_, rfl, ⟨rfl, rfl⟩⟩, ⟨_, rfl, rfl⟩, ⟨_, rfl, rfl⟩, ⟨_, rfl, rfl⟩, trivial⟩ ⟨⟨_, rfl, rfl, .inl ⟨rfl, plain_of rfl⟩⟩, rfl, trivial⟩ rfl) ?_
                rcases cb h with ⟨q15, h⟩ | ⟨q15, h⟩
                · refine ac_condT rfl q15 ?_
                  refine ac_seq ?_
                  refine ac_region ?_
                  refine aops_eff (eff_assign rfl) rfl rfl rfl ?_
                  refine aops_nil ?_
                  refine then_n ?_
                  refine ac_ret ?_
                  refine block_ret ?_
                  refine then_ret ?_
                  refine then_ret ?_
                  obtain rfl := so h
                  exact ⟨_, rfl, rfl, ret_mk rfl rfl rfl (fz_bl rfl)⟩
                · refine ac_condF rfl q15 ?_
                  refine ac_skip ?_
                  refine block_n ?_
                  refine then_n ?_
                  refine ac_region ?_
                  refine aops_eff (x_add rfl rfl) rfl rfl rfl ?_
                  refine aops_eff (eff_move rfl) rfl rfl rfl ?_
                  refine aops_nil ?_
                  refine then_n ?_
                  obtain rfl := so h
                  exact ⟨_, rfl, (ent_mk (σ := sg [(0, 0)]) ⟨⟨_, rfl, ⟨rfl, rfl, rfl, rfl⟩⟩, ⟨_, rfl, ⟨rfl, rfl⟩⟩, ⟨_, rfl, rfl⟩, ⟨_, rfl, rfl⟩, trivial⟩ ⟨⟨_, rfl, rfl, .inl ⟨rfl, plain_of rfl⟩⟩, rfl, trivial⟩ rfl)⟩
          · refine ac_condF rfl q6 ?_
            refine ac_exit ?_
            refine then_exit ?_
            refine then_exit ?_
            obtain rfl := so h
            exact ⟨_, rfl, rfl, (ent_mk (σ := sg []) trivial trivial rfl)⟩
        · intro e t hX
          rcases y16 with y17 | y18
          · obtain ⟨rfl, hent⟩ := hX
            refine block_here ?_
            refine then_n ?_
            refine ac_ent hent ?_
            refine ac_seq ?_
            refine ac_region ?_
            refine aops_eff (eff_assign rfl) rfl rfl rfl ?_
            refine aops_nil ?_
            refine then_n ?_
            refine ac_ret ?_
            obtain rfl := so h
            exact ret_mk rfl rfl rfl (fz_bl rfl)
          · obtain ⟨rfl, hent⟩ := hX
            refine block_ret ?_
            refine then_ret ?_
            obtain rfl := so h
            exact hent

noncomputable def m_impl_Matrix_clone (a0 : Mt) : Option Mt :=
  Option.bind (m_Clone a0.cells) fun v1 =>
  some ((⟨a0.rows, a0.cols, v1⟩ : Mt))

theorem c_impl_Matrix_clone (a0 : Mt) (r : Mt) (h : m_impl_Matrix_clone a0 = some r) : HasC Try.prog 156 [.agg (eM a0)] (.agg (eM r)) := by
  refine hasC_mk TT_ok (rvs := [.cell 2 81]) (ns := [0, 1, 2, 3, 4, 5, 6, 7, 8, 9, 10, 11, 12, 13]) Try.func156 rfl rfl Try.ntmps156 rfl rfl rfl ?_
  refine ac_seq ?_
  refine ac_region ?_
  refine aops_eff (w_box rfl rfl rfl rfl) rfl rfl rfl ?_
  refine aops_eff (w_alloc TT_ok rfl rfl) rfl rfl rfl ?_
  refine aops_nil ?_
  refine then_n ?_
  refine ac_seq ?_
  refine ac_region ?_
  refine aops_eff (w_field_ptr TT_ok rfl rfl rfl rfl rfl rfl rfl) rfl rfl rfl ?_
  refine aops_eff (w_load_ptr TT_ok rfl rfl rfl rfl rfl rfl rfl) rfl rfl rfl ?_
  obtain ⟨v1, hv1, h⟩ := ob h
  refine aops_eff (AEff.conv (w_call0 (x := .own 2 0 (List.map eI v1).length) (nb := [(2, ⟨1, absEs (List.map eI v1)⟩)]) (c_Clone a0.cells v1 hv1) rfl (by rfl) rfl rfl (okI.good _) (va_cons (va_same rfl) va_nil)) (v' := .own 2 0 v1.length) (ed' := [(2, some ⟨1, List.map (ow eI) v1⟩)]) (by simp only [len_map]) (ed_ok (nb' := [(2, ⟨1, List.map (ow eI) v1⟩)]) (by simp only [abs_map]))) rfl rfl rfl ?_
  refine aops_eff (w_field_ptr TT_ok rfl rfl rfl rfl rfl rfl rfl) rfl rfl rfl ?_
  refine aops_eff (w_store TT_ok rfl rfl rfl rfl rfl rfl rfl rfl) rfl rfl rfl ?_
  refine aops_nil ?_
  refine then_n ?_
  refine ac_seq ?_
  refine ac_region ?_
  refine aops_eff (w_load_ptr TT_ok rfl rfl rfl rfl rfl rfl rfl) rfl rfl rfl ?_
  refine aops_eff (w_store TT_ok rfl rfl rfl rfl rfl rfl rfl rfl) rfl rfl rfl ?_
  refine aops_nil ?_
  refine then_n ?_
  refine ac_ret ?_
  obtain rfl := so h
  exact ret_mk rfl rfl rfl (xz_agg (x1_cons (rfl) (x1_cons (rfl) (x1_cons (x_f1 okI rfl rfl) x1_nil))))

noncomputable def m_impl_times_L2 (a0 : Int) (a2 : Mt) (v1 : Mt) (v3 : (List Int)) (x1 : ((List Int) × Int)) (x2 : ((List Int) × Int)) : Option (((List Int) × Int) ⊕ (List Int)) :=
  bif decide (x2.2 < (v3.length : Int)) then
    (Option.bind (atL v3 x2.2) fun v5 =>
    Option.bind (m_impl_Matrix_row (⟨v1.rows, v1.cols, x2.1⟩ : Mt) x1.2) fun v6 =>
    Option.bind (m_rowD a2 x2.2) fun v7 =>
    Option.bind (m_impl_addMultiple a0 x2.1 (0 + (wr (x1.2 * v1.cols)).toNat) ((wr ((wr (x1.2 + 1)) * v1.cols)).toNat - (wr (x1.2 * v1.cols)).toNat) v5 v7) fun v8 =>
    bif decide (v8.length = x2.1.length) then
      (some (.inl (v8, wr (x2.2 + 1))))
    else none)
  else
    (some (.inr x2.1))

noncomputable def m_impl_times_L1 (a0 : Int) (a1 : Mt) (a2 : Mt) (v1 : Mt) (x1 : ((List Int) × Int)) : Option (((List Int) × Int) ⊕ (List Int)) :=
  bif decide (x1.2 < a1.rows) then
    (Option.bind (m_rowD a1 x1.2) fun v3 =>
    Option.bind (Lp (m_impl_times_L2 a0 a2 v1 v3 x1) (x1.1, 0)) fun y10 =>
    some (.inl (y10, wr (x1.2 + 1))))
  else
    (some (.inr x1.1))

noncomputable def m_impl_times (a0 : Int) (a1 : Mt) (a2 : Mt) : Option Mt :=
  Option.bind (m_impl_zero a1.rows a2.cols) fun v1 =>
  Option.bind (Lp (m_impl_times_L1 a0 a1 a2 v1) (v1.cells, 0)) fun y11 =>
  some ((⟨v1.rows, v1.cols, y11⟩ : Mt))

theorem c_impl_times (a0 : Int) (a1 : Mt) (a2 : Mt) (r : Mt) (h : m_impl_times a0 a1 a2 = some r) : HasC Try.prog 155 [.int a0, .agg (eM a1), .agg (eM a2)] (.agg (eM r)) := by
  refine hasC_mk TT_ok (rvs := [.cell 6 81]) (ns := [0, 1, 2, 3, 4, 5, 6, 7, 8, 9, 10, 11, 12, 13]) Try.func155 rfl rfl Try.ntmps155 rfl rfl rfl ?_
  refine ac_seq ?_
  refine ac_region ?_
  refine aops_eff (w_box rfl rfl rfl rfl) rfl rfl rfl ?_
  refine aops_eff (w_box rfl rfl rfl rfl) rfl rfl rfl ?_
  refine aops_eff (w_alloc TT_ok rfl rfl) rfl rfl rfl ?_
  refine aops_nil ?_
  refine then_n ?_
  refine ac_seq ?_
  refine ac_region ?_
  refine aops_eff (w_field_ptr TT_ok rfl rfl rfl rfl rfl rfl rfl) rfl rfl rfl ?_
  refine aops_eff (w_load_ptr TT_ok rfl rfl rfl rfl rfl rfl rfl) rfl rfl rfl ?_
  refine aops_eff (w_field_ptr TT_ok rfl rfl rfl rfl rfl rfl rfl) rfl rfl rfl ?_
  refine aops_eff (w_load_ptr TT_ok rfl rfl rfl rfl rfl rfl rfl) rfl rfl rfl ?_
  obtain ⟨v1, hv1, h⟩ := ob h
  refine aops_eff (AEff.conv (w_call0 (x := .agg [.int v1.rows, .int v1.cols, .own 3 0 (List.map eI v1.cells).length]) (nb := [(3, ⟨1, absEs (List.map eI v1.cells)⟩)]) (c_impl_zero a1.rows a2.cols v1 hv1) rfl (by rfl) rfl rfl (g1_cons trivial (g1_cons trivial (g1_cons (okI.good _) g1_nil))) (va_cons (va_same rfl) (va_cons (va_same rfl) va_nil))) (v' := .agg [.int v1.rows, .int v1.cols, .own 3 0 v1.cells.length]) (ed' := [(3, some ⟨1, List.map (ow eI) v1.cells⟩)]) (by simp only [len_map]) (ed_ok (nb' := [(3, ⟨1, List.map (ow eI) v1.cells⟩)]) (by simp only [abs_map]))) rfl rfl rfl ?_
  refine aops_eff (w_alloc TT_ok rfl rfl) rfl rfl rfl ?_
  refine aops_eff (w_store TT_ok rfl rfl rfl rfl rfl rfl rfl rfl) rfl rfl rfl ?_
  refine aops_nil ?_
  refine then_n ?_
  refine ac_seq ?_
  refine ac_seq ?_
  refine ac_region ?_
  refine aops_eff (w_field_ptr TT_ok rfl rfl rfl rfl rfl rfl rfl) rfl rfl rfl ?_
  refine aops_eff (w_load_ptr TT_ok rfl rfl rfl rfl rfl rfl rfl) rfl rfl rfl ?_
  refine aops_eff (eff_move rfl) rfl rfl rfl ?_
  refine aops_nil ?_
  refine then_n ?_
  refine ac_ent (t := mkS [(0, .int a0), (4, .ptr 0 0 0), (5, .ptr 1 0 0), (6, .ptr 2 0 0), (7, .ptr 4 0 0), (17, .int a1.rows), (18, .int 0)] [(0, ⟨3, [[.int a1.rows, .int a1.cols, .list 1 (List.map eI a1.cells)]]⟩), (1, ⟨3, [[.int a2.rows, .int a2.cols, .list 1 (List.map eI a2.cells)]]⟩), (2, ⟨3, [[.int 0, .int 0, .nil 1]]⟩), (3, ⟨1, List.map (ow eI) v1.cells⟩), (4, ⟨3, [[.int v1.rows, .int v1.cols, .own 3 0 v1.cells.length]]⟩)] 5 [5, 6, 7, 8, 9, 10, 11, 12, 13, 14, 15, 16, 17, 18]) (ent_mk (σ := sg [(0, 0), (1, 1), (2, 2), (3, 3), (4, 4)]) ⟨⟨_, rfl, rfl⟩, ⟨_, rfl, ⟨rfl, rfl, rfl, rfl⟩⟩, ⟨_, rfl, ⟨rfl, rfl, rfl, rfl⟩⟩, ⟨_, rfl, ⟨rfl, rfl, rfl, rfl⟩⟩, ⟨_, rfl, ⟨rfl, rfl, rfl, rfl⟩⟩, ⟨_, rfl, rfl⟩, ⟨_, rfl, rfl⟩, trivial⟩ ⟨⟨_, rfl, rfl, .inl ⟨rfl, plain_of rfl⟩⟩, rfl, ⟨_, rfl, rfl, .inl ⟨rfl, plain_of rfl⟩⟩, rfl, ⟨_, rfl, rfl, .inl ⟨rfl, plain_of rfl⟩⟩, rfl, ⟨_, rfl, rfl, .inl ⟨rfl, okI.plainO _⟩⟩, rfl, ⟨_, rfl, rfl, .inr ⟨_, _, rfl, ⟨_, _, rfl, rfl, ⟨_, _, rfl, rfl, ⟨_, _, rfl, ⟨rfl, rfl, rfl, rfl⟩, rfl⟩⟩⟩, rfl⟩⟩, rfl, trivial⟩ rfl) ?_
  refine ac_block ?_
  obtain ⟨y11, hy11, h⟩ := ob h
  refine ac_Lp (body := (m_impl_times_L1 a0 a1 a2 v1)) hy11 (fun (x1 : ((List Int) × Int)) => mkS [(0, .int a0), (4, .ptr 0 0 0), (5, .ptr 1 0 0), (6, .ptr 2 0 0), (7, .ptr 3 0 0), (17, .int a1.rows), (18, .int x1.2)] [(0, ⟨3, [[.int a1.rows, .int a1.cols, .list 1 (List.map eI a1.cells)]]⟩), (1, ⟨3, [[.int a2.rows, .int a2.cols, .list 1 (List.map eI a2.cells)]]⟩), (2, ⟨3, [[.int 0, .int 0, .nil 1]]⟩), (3, ⟨3, [[.int v1.rows, .int v1.cols, .own 4 0 x1.1.length]]⟩), (4, ⟨1, List.map (ow eI) x1.1⟩)] 5 [5, 6, 7, 8, 9, 10, 11, 12, 13, 14, 15, 16, 17, 18]) (fun r e t => e = .exit 0 ∧ Ent t (mkS [(6, .ptr 0 0 0), (7, .ptr 1 0 0)] [(0, ⟨3, [[.int 0, .int 0, .nil 1]]⟩), (1, ⟨3, [[.int v1.rows, .int v1.cols, .own 2 0 r.length]]⟩), (2, ⟨1, List.map (ow eI) r⟩)] 3 [3, 4, 5, 6, 7, 8, 9, 10, 11, 12, 13, 14, 15, 16])) (ent_mk (σ := sg [(0, 0), (1, 1), (2, 2), (3, 4), (4, 3)]) ⟨⟨_, rfl, rfl⟩, ⟨_, rfl, ⟨rfl, rfl, rfl, rfl⟩⟩, ⟨_, rfl, ⟨rfl, rfl, rfl, rfl⟩⟩, ⟨_, rfl, ⟨rfl, rfl, rfl, rfl⟩⟩, ⟨_, rfl, ⟨rfl, rfl, rfl, rfl⟩⟩, ⟨_, rfl, rfl⟩, ⟨_, rfl, rfl⟩, trivial⟩ ⟨⟨_, rfl, rfl, .inl ⟨rfl, plain_of rfl⟩⟩, rfl, ⟨_, rfl, rfl, .inl ⟨rfl, plain_of rfl⟩⟩, rfl, ⟨_, rfl, rfl, .inl ⟨rfl, plain_of rfl⟩⟩, rfl, ⟨_, rfl, rfl, .inr ⟨_, _, rfl, ⟨_, _, rfl, rfl, ⟨_, _, rfl, rfl, ⟨_, _, rfl, ⟨rfl, rfl, rfl, rfl⟩, rfl⟩⟩⟩, rfl⟩⟩, rfl, ⟨_, rfl, rfl, .inl ⟨rfl, okI.plainO _⟩⟩, rfl, trivial⟩ rfl) ?_ ?_
  · intro x1 o h
    refine ac_seq ?_
    refine ac_region ?_
    refine aops_eff (w_cmp rfl rfl rfl) rfl rfl rfl ?_
    refine aops_nil ?_
    refine then_n ?_
    refine ac_seq ?_
    rcases cb h with ⟨q2, h⟩ | ⟨q2, h⟩
    · refine ac_condT rfl q2 ?_
      refine ac_skip ?_
      refine then_n ?_
      refine ac_seq ?_
      refine ac_block ?_
      refine ac_seq ?_
      refine ac_region ?_
      refine aops_eff (eff_move rfl) rfl rfl rfl ?_
      refine aops_eff (eff_assign rfl) rfl rfl rfl ?_
      refine aops_nil ?_
      refine then_n ?_
      refine ac_seq ?_
      refine ac_region ?_
      refine aops_eff (w_load_ptr TT_ok rfl rfl rfl rfl rfl rfl rfl) rfl rfl rfl ?_
      refine aops_eff (eff_move rfl) rfl rfl rfl ?_
      obtain ⟨v3, hv3, h⟩ := ob h
      refine aops_eff (eff_hasV (c_rowD a1 x1.2 v3 hv3) rfl rfl rfl) rfl rfl rfl ?_
      refine aops_eff (AEff.val (w_len_list TT_ok rfl rfl rfl) (v' := .int (v3.length : Int)) (by first | rw [len_map] | rw [encI_len])) rfl rfl rfl ?_
      refine aops_eff (eff_move rfl) rfl rfl rfl ?_
      refine aops_nil ?_
      refine then_n ?_
      refine ac_block ?_
      obtain ⟨y10, hy10, h⟩ := ob h
      refine ac_Lp (body := (m_impl_times_L2 a0 a2 v1 v3 x1)) hy10 (fun (x2 : ((List Int) × Int)) => mkS [(0, .int a0), (4, .ptr 0 0 0), (5, .ptr 1 0 0), (6, .ptr 2 0 0), (7, .ptr 3 0 0), (8, .int x1.2), (17, .int a1.rows), (18, .int x1.2), (23, .list 1 (List.map eI v3)), (24, .int (v3.length : Int)), (25, .int x2.2)] [(0, ⟨3, [[.int a1.rows, .int a1.cols, .list 1 (List.map eI a1.cells)]]⟩), (1, ⟨3, [[.int a2.rows, .int a2.cols, .list 1 (List.map eI a2.cells)]]⟩), (2, ⟨3, [[.int 0, .int 0, .nil 1]]⟩), (3, ⟨3, [[.int v1.rows, .int v1.cols, .own 4 0 x2.1.length]]⟩), (4, ⟨1, List.map (ow eI) x2.1⟩)] 5 [5, 6, 7, 8, 9, 10, 11, 12, 13, 14, 15, 16, 17, 18]) (fun r e t => e = .exit 2 ∧ Ent t (mkS [(0, .int a0), (4, .ptr 0 0 0), (5, .ptr 1 0 0), (6, .ptr 2 0 0), (7, .ptr 3 0 0), (17, .int a1.rows), (18, .int x1.2)] [(0, ⟨3, [[.int a1.rows, .int a1.cols, .list 1 (List.map eI a1.cells)]]⟩), (1, ⟨3, [[.int a2.rows, .int a2.cols, .list 1 (List.map eI a2.cells)]]⟩), (2, ⟨3, [[.int 0, .int 0, .nil 1]]⟩), (3, ⟨3, [[.int v1.rows, .int v1.cols, .own 4 0 r.length]]⟩), (4, ⟨1, List.map (ow eI) r⟩)] 5 [5, 6, 7, 8, 9, 10, 11, 12, 13, 14, 15, 16, 17, 18])) (ent_mk (σ := sg [(0, 0), (1, 1), (2, 2), (3, 3), (4, 4)]) ⟨⟨_, rfl, rfl⟩, ⟨_, rfl, ⟨rfl, rfl, rfl, rfl⟩⟩, ⟨_, rfl, ⟨rfl, rfl, rfl, rfl⟩⟩, ⟨_, rfl, ⟨rfl, rfl, rfl, rfl⟩⟩, ⟨_, rfl, ⟨rfl, rfl, rfl, rfl⟩⟩, ⟨_, rfl, rfl⟩, ⟨_, rfl, rfl⟩, ⟨_, rfl, rfl⟩, ⟨_, rfl, ⟨rfl, rfl⟩⟩, ⟨_, rfl, rfl⟩, ⟨_, rfl, rfl⟩, trivial⟩ ⟨⟨_, rfl, rfl, .inl ⟨rfl, plain_of rfl⟩⟩, rfl, ⟨_, rfl, rfl, .inl ⟨rfl, plain_of rfl⟩⟩, rfl, ⟨_, rfl, rfl, .inl ⟨rfl, plain_of rfl⟩⟩, rfl, ⟨_, rfl, rfl, .inr ⟨_, _, rfl, ⟨_, _, rfl, rfl, ⟨_, _, rfl, rfl, ⟨_, _, rfl, ⟨rfl, rfl, rfl, rfl⟩, rfl⟩⟩⟩, rfl⟩⟩, rfl, ⟨_, rfl, rfl, .inl ⟨rfl, okI.plainO _⟩⟩, rfl, trivial⟩ rfl) ?_ ?_
      · intro x2 o h
        refine ac_seq ?_
        refine ac_region ?_
        refine aops_eff (w_cmp rfl rfl rfl) rfl rfl rfl ?_
        refine aops_nil ?_
        refine then_n ?_
        refine ac_seq ?_
        rcases cb h with ⟨q4, h⟩ | ⟨q4, h⟩
        · refine ac_condT rfl q4 ?_
          refine ac_skip ?_
          refine then_n ?_
          refine ac_seq ?_
          refine ac_block ?_
          refine ac_seq ?_
          refine ac_region ?_
          refine aops_eff (eff_move rfl) rfl rfl rfl ?_
          obtain ⟨v5, hv5, h⟩ := ob h
          refine aops_eff (x_at_list TT_ok hv5 rfl rfl rfl rfl rfl rfl) rfl rfl rfl ?_
          refine aops_eff (w_load_ref TT_ok rfl rfl rfl rfl rfl rfl) rfl rfl rfl ?_
          refine aops_eff (eff_assign rfl) rfl rfl rfl ?_
          refine aops_eff (eff_assign rfl) rfl rfl rfl ?_
          refine aops_nil ?_
          refine then_n ?_
          refine ac_region_draw MIXX ?_
          refine aops_eff (eff_move rfl) rfl rfl rfl ?_
          refine aops_eff (w_load_ptr TT_ok rfl rfl rfl rfl rfl rfl rfl) rfl rfl rfl ?_
          refine aops_eff (eff_move rfl) rfl rfl rfl ?_
          obtain ⟨v6, hv6, h⟩ := ob h
          refine aops_eff (AEff.pureE (eff_hasE (σ := sg [(0, 4)]) (σ' := sg [(4, 0)]) (touch := [4]) (news := []) (hl2 := [(4, ⟨1, List.map (ow eI) x2.1⟩)]) (n' := 5) (r2 := .own 4 (0 + (wr (x1.2 * v1.cols)).toNat) ((wr ((wr (x1.2 + 1)) * v1.cols)).toNat - (wr (x1.2 * v1.cols)).toNat)) (c_impl_Matrix_row (⟨v1.rows, v1.cols, x2.1⟩ : Mt) x1.2 v6 hv6) rfl rfl ⟨_, _, rfl, ⟨_, _, rfl, rfl, ⟨_, _, rfl, rfl, ⟨_, _, rfl, ⟨rfl, rfl, rfl, rfl⟩, rfl⟩⟩⟩, ⟨_, _, rfl, rfl, rfl⟩⟩ ⟨⟨_, rfl, rfl, .inl ⟨rfl, okI.plainO _⟩⟩, rfl, trivial⟩ rfl rfl rfl ⟨⟨_, rfl, rfl, .inl ⟨rfl, okI.plainO _⟩⟩, rfl, trivial⟩ rfl ⟨rfl, rfl, (by simp only [len_map, List.length_append, List.length_set, List.length_replicate, List.length_cons, List.length_nil]), rfl⟩ rfl ⟨rfl, okI.tame _ _, trivial⟩ rfl rfl) ⟨rfl, rfl, trivial⟩) rfl rfl rfl ?_
          refine aops_eff (eff_move rfl) rfl rfl rfl ?_
          refine aops_eff (w_load_ptr TT_ok rfl rfl rfl rfl rfl rfl rfl) rfl rfl rfl ?_
          refine aops_eff (eff_move rfl) rfl rfl rfl ?_
          obtain ⟨v7, hv7, h⟩ := ob h
          refine aops_eff (eff_hasV (c_rowD a2 x2.2 v7 hv7) rfl rfl rfl) rfl rfl rfl ?_
          obtain ⟨v8, hv8, h⟩ := ob h
          refine aops_eff (eff_hasE (σ := sg [(0, 4)]) (σ' := sg [(4, 0)]) (touch := [4]) (news := []) (hl2 := [(4, ⟨1, List.map (ow eI) v8⟩)]) (n' := 5) (r2 := .own 4 (0 + (wr (x1.2 * v1.cols)).toNat) ((wr ((wr (x1.2 + 1)) * v1.cols)).toNat - (wr (x1.2 * v1.cols)).toNat)) (c_impl_addMultiple a0 x2.1 (0 + (wr (x1.2 * v1.cols)).toNat) ((wr ((wr (x1.2 + 1)) * v1.cols)).toNat - (wr (x1.2 * v1.cols)).toNat) v5 v7 v8 hv8) rfl rfl ⟨_, _, rfl, rfl, ⟨_, _, rfl, ⟨rfl, rfl, rfl, rfl⟩, ⟨_, _, rfl, rfl, ⟨_, _, rfl, ⟨rfl, rfl⟩, rfl⟩⟩⟩⟩ ⟨⟨_, rfl, rfl, .inl ⟨rfl, okI.plainO _⟩⟩, rfl, trivial⟩ rfl rfl rfl ⟨⟨_, rfl, rfl, .inl ⟨rfl, okI.plainO _⟩⟩, rfl, trivial⟩ rfl ⟨rfl, rfl, (by simp only [len_map, List.length_append, List.length_set, List.length_replicate, List.length_cons, List.length_nil]), rfl⟩ rfl ⟨rfl, okI.tame _ _, trivial⟩ rfl rfl) rfl rfl rfl ?_
          obtain ⟨q9, h⟩ := cg h
          refine aops_nil ?_
          refine ⟨by kernel_rfl, ?_⟩
          refine block_n ?_
          refine then_n ?_
          refine ac_ent (t := mkS [(0, .int a0), (4, .ptr 0 0 0), (5, .ptr 1 0 0), (6, .ptr 2 0 0), (7, .ptr 3 0 0), (8, .int x1.2), (17, .int a1.rows), (18, .int x1.2), (23, .list 1 (List.map eI v3)), (24, .int (v3.length : Int)), (25, .int x2.2)] [(0, ⟨3, [[.int a1.rows, .int a1.cols, .list 1 (List.map eI a1.cells)]]⟩), (1, ⟨3, [[.int a2.rows, .int a2.cols, .list 1 (List.map eI a2.cells)]]⟩), (2, ⟨3, [[.int 0, .int 0, .nil 1]]⟩), (3, ⟨3, [[.int v1.rows, .int v1.cols, .own 4 0 v8.length]]⟩), (4, ⟨1, List.map (ow eI) v8⟩)] 5 [5, 6, 7, 8, 9, 10, 11, 12, 13, 14, 15, 16, 17, 18]) (ent_mk (σ := sg [(0, 0), (1, 1), (2, 2), (3, 3), (4, 4)]) ⟨⟨_, rfl, rfl⟩, ⟨_, rfl, ⟨rfl, rfl, rfl, rfl⟩⟩, ⟨_, rfl, ⟨rfl, rfl, rfl, rfl⟩⟩, ⟨_, rfl, ⟨rfl, rfl, rfl, rfl⟩⟩, ⟨_, rfl, ⟨rfl, rfl, rfl, rfl⟩⟩, ⟨_, rfl, rfl⟩, ⟨_, rfl, rfl⟩, ⟨_, rfl, rfl⟩, ⟨_, rfl, ⟨rfl, rfl⟩⟩, ⟨_, rfl, rfl⟩, ⟨_, rfl, rfl⟩, trivial⟩ ⟨⟨_, rfl, rfl, .inl ⟨rfl, plain_of rfl⟩⟩, rfl, ⟨_, rfl, rfl, .inl ⟨rfl, plain_of rfl⟩⟩, rfl, ⟨_, rfl, rfl, .inl ⟨rfl, plain_of rfl⟩⟩, rfl, ⟨_, rfl, rfl, .inr ⟨_, _, rfl, ⟨_, _, rfl, rfl, ⟨_, _, rfl, rfl, ⟨_, _, rfl, ⟨rfl, rfl, (by simp only [len_map, List.length_append, List.length_set, List.length_replicate, List.length_cons, List.length_nil, of_decide_eq_true q9]), rfl⟩, rfl⟩⟩⟩, rfl⟩⟩, rfl, ⟨_, rfl, rfl, .inl ⟨rfl, okI.plainO _⟩⟩, rfl, trivial⟩ rfl) ?_
          refine ac_region ?_
          refine aops_eff (x_add rfl rfl) rfl rfl rfl ?_
          refine aops_eff (eff_move rfl) rfl rfl rfl ?_
          refine aops_nil ?_
          refine then_n ?_
          obtain rfl := so h
          exact ⟨_, rfl, (ent_mk (σ := sg [(0, 0), (1, 1), (2, 2), (3, 3), (4, 4)]) ⟨⟨_, rfl, rfl⟩, ⟨_, rfl, ⟨rfl, rfl, rfl, rfl⟩⟩, ⟨_, rfl, ⟨rfl, rfl, rfl, rfl⟩⟩, ⟨_, rfl, ⟨rfl, rfl, rfl, rfl⟩⟩, ⟨_, rfl, ⟨rfl, rfl, rfl, rfl⟩⟩, ⟨_, rfl, rfl⟩, ⟨_, rfl, rfl⟩, ⟨_, rfl, rfl⟩, ⟨_, rfl, ⟨rfl, rfl⟩⟩, ⟨_, rfl, rfl⟩, ⟨_, rfl, rfl⟩, trivial⟩ ⟨⟨_, rfl, rfl, .inl ⟨rfl, plain_of rfl⟩⟩, rfl, ⟨_, rfl, rfl, .inl ⟨rfl, plain_of rfl⟩⟩, rfl, ⟨_, rfl, rfl, .inl ⟨rfl, plain_of rfl⟩⟩, rfl, ⟨_, rfl, rfl, .inr ⟨_, _, rfl, ⟨_, _, rfl, rfl, ⟨_, _, rfl, rfl, ⟨_, _, rfl, ⟨rfl, rfl, rfl, rfl⟩, rfl⟩⟩⟩, rfl⟩⟩, rfl, ⟨_, rfl, rfl, .inl ⟨rfl, okI.plainO _⟩⟩, rfl, trivial⟩ rfl)⟩
        · refine ac_condF rfl q4 ?_
          refine ac_exit ?_
          refine then_exit ?_
          refine then_exit ?_
          obtain rfl := so h
          exact ⟨_, rfl, rfl, (ent_mk (σ := sg [(0, 0), (1, 1), (2, 2), (3, 3), (4, 4)]) ⟨⟨_, rfl, rfl⟩, ⟨_, rfl, ⟨rfl, rfl, rfl, rfl⟩⟩, ⟨_, rfl, ⟨rfl, rfl, rfl, rfl⟩⟩, ⟨_, rfl, ⟨rfl, rfl, rfl, rfl⟩⟩, ⟨_, rfl, ⟨rfl, rfl, rfl, rfl⟩⟩, ⟨_, rfl, rfl⟩, ⟨_, rfl, rfl⟩, trivial⟩ ⟨⟨_, rfl, rfl, .inl ⟨rfl, plain_of rfl⟩⟩, rfl, ⟨_, rfl, rfl, .inl ⟨rfl, plain_of rfl⟩⟩, rfl, ⟨_, rfl, rfl, .inl ⟨rfl, plain_of rfl⟩⟩, rfl, ⟨_, rfl, rfl, .inr ⟨_, _, rfl, ⟨_, _, rfl, rfl, ⟨_, _, rfl, rfl, ⟨_, _, rfl, ⟨rfl, rfl, rfl, rfl⟩, rfl⟩⟩⟩, rfl⟩⟩, rfl, ⟨_, rfl, rfl, .inl ⟨rfl, okI.plainO _⟩⟩, rfl, trivial⟩ rfl)⟩
      · rintro e t ⟨rfl, hent⟩
        refine block_here ?_
        refine block_n ?_
        refine then_n ?_
        refine ac_ent hent ?_
        refine ac_region ?_
        refine aops_eff (x_add rfl rfl) rfl rfl rfl ?_
        refine aops_eff (eff_move rfl) rfl rfl rfl ?_
        refine aops_nil ?_
        refine then_n ?_
        obtain rfl := so h
        exact ⟨_, rfl, (ent_mk (σ := sg [(0, 0), (1, 1), (2, 2), (3, 3), (4, 4)]) ⟨⟨_, rfl, rfl⟩, ⟨_, rfl, ⟨rfl, rfl, rfl, rfl⟩⟩, ⟨_, rfl, ⟨rfl, rfl, rfl, rfl⟩⟩, ⟨_, rfl, ⟨rfl, rfl, rfl, rfl⟩⟩, ⟨_, rfl, ⟨rfl, rfl, rfl, rfl⟩⟩, ⟨_, rfl, rfl⟩, ⟨_, rfl, rfl⟩, trivial⟩ ⟨⟨_, rfl, rfl, .inl ⟨rfl, plain_of rfl⟩⟩, rfl, ⟨_, rfl, rfl, .inl ⟨rfl, plain_of rfl⟩⟩, rfl, ⟨_, rfl, rfl, .inl ⟨rfl, plain_of rfl⟩⟩, rfl, ⟨_, rfl, rfl, .inr ⟨_, _, rfl, ⟨_, _, rfl, rfl, ⟨_, _, rfl, rfl, ⟨_, _, rfl, ⟨rfl, rfl, rfl, rfl⟩, rfl⟩⟩⟩, rfl⟩⟩, rfl, ⟨_, rfl, rfl, .inl ⟨rfl, okI.plainO _⟩⟩, rfl, trivial⟩ rfl)⟩
    · refine ac_condF rfl q2 ?_
      refine ac_exit ?_
      refine then_exit ?_
      refine then_exit ?_
      obtain rfl := so h
      exact ⟨_, rfl, rfl, (ent_mk (σ := sg [(0, 2), (1, 3), (2, 4)]) ⟨⟨_, rfl, ⟨rfl, rfl, rfl, rfl⟩⟩, ⟨_, rfl, ⟨rfl, rfl, rfl, rfl⟩⟩, trivial⟩ ⟨⟨_, rfl, rfl, .inl ⟨rfl, plain_of rfl⟩⟩, rfl, ⟨_, rfl, rfl, .inr ⟨_, _, rfl, ⟨_, _, rfl, rfl, ⟨_, _, rfl, rfl, ⟨_, _, rfl, ⟨rfl, rfl, rfl, rfl⟩, rfl⟩⟩⟩, rfl⟩⟩, rfl, ⟨_, rfl, rfl, .inl ⟨rfl, okI.plainO _⟩⟩, rfl, trivial⟩ rfl)⟩
  · rintro e t ⟨rfl, hent⟩
    refine block_here ?_
    refine then_n ?_
    refine ac_ent hent ?_
    refine ac_seq ?_
    refine ac_region ?_
    refine aops_eff (w_load_ptr TT_ok rfl rfl rfl rfl rfl rfl rfl) rfl rfl rfl ?_
    refine aops_eff (w_store TT_ok rfl rfl rfl rfl rfl rfl rfl rfl) rfl rfl rfl ?_
    refine aops_nil ?_
    refine then_n ?_
    refine ac_ret ?_
    obtain rfl := so h
    exact ret_mk rfl rfl rfl (xz_agg (x1_cons (rfl) (x1_cons (rfl) (x1_cons (x_f1 okI rfl rfl) x1_nil))))

noncomputable def m_impl_reduce_L2 (v1 : Mt) (x1 : (Int × (List Int) × (List Int))) (x2 : Int) : Option (Int ⊕ Int) :=
  bif decide (x2 < v1.rows) then
    (Option.bind (m_impl_Matrix_row (⟨v1.rows, v1.cols, x1.2.1⟩ : Mt) x2) fun v4 =>
    bif (decide (0 ≤ x1.1) && decide (x1.1 < ((((wr ((wr (x2 + 1)) * v1.cols)).toNat - (wr (x2 * v1.cols)).toNat) : Nat) : Int))) then
      (Option.bind (x1.2.1[((0 + (wr (x2 * v1.cols)).toNat) + x1.1.toNat)]?) fun v5 =>
      bif decide (v5 = 0) then
        (some (.inl (wr (x2 + 1))))
      else
        (some (.inr x2))
      )
    else none)
  else
    (some (.inr x2))

noncomputable def m_impl_reduce_L3 (v1 : Mt) (x1 : (Int × (List Int) × (List Int))) (y8 : Int) (x3 : ((List Int) × Int)) : Option (((List Int) × Int) ⊕ (List Int)) :=
  bif decide (x3.2 < v1.cols) then
    (Option.bind (m_impl_Matrix_row (⟨v1.rows, v1.cols, x3.1⟩ : Mt) y8) fun v12 =>
    Option.bind (m_impl_Matrix_row (⟨v1.rows, v1.cols, x3.1⟩ : Mt) y8) fun v13 =>
    bif (decide (0 ≤ x3.2) && decide (x3.2 < ((((wr ((wr (y8 + 1)) * v1.cols)).toNat - (wr (y8 * v1.cols)).toNat) : Nat) : Int))) then
      (Option.bind (x3.1[((0 + (wr (y8 * v1.cols)).toNat) + x3.2.toNat)]?) fun v14 =>
      bif (decide (0 ≤ x3.2) && decide (x3.2 < ((((wr ((wr (((x1.2.2.length : Nat) : Int) + 1)) * v1.cols)).toNat - (wr (((x1.2.2.length : Nat) : Int) * v1.cols)).toNat) : Nat) : Int))) then
        (Option.bind (x3.1[((0 + (wr (((x1.2.2.length : Nat) : Int) * v1.cols)).toNat) + x3.2.toNat)]?) fun v16 =>
        bif (decide (0 ≤ x3.2) && decide (x3.2 < ((((wr ((wr (((x1.2.2.length : Nat) : Int) + 1)) * v1.cols)).toNat - (wr (((x1.2.2.length : Nat) : Int) * v1.cols)).toNat) : Nat) : Int))) then
          (Option.bind (x3.1[((0 + (wr (((x1.2.2.length : Nat) : Int) * v1.cols)).toNat) + x3.2.toNat)]?) fun v18 =>
          bif (decide (0 ≤ x3.2) && decide (x3.2 < ((((wr ((wr (y8 + 1)) * v1.cols)).toNat - (wr (y8 * v1.cols)).toNat) : Nat) : Int))) then
            (Option.bind ((x3.1.set ((0 + (wr (((x1.2.2.length : Nat) : Int) * v1.cols)).toNat) + x3.2.toNat) v14)[((0 + (wr (y8 * v1.cols)).toNat) + x3.2.toNat)]?) fun v20 =>
            some (.inl (((x3.1.set ((0 + (wr (((x1.2.2.length : Nat) : Int) * v1.cols)).toNat) + x3.2.toNat) v14).set ((0 + (wr (y8 * v1.cols)).toNat) + x3.2.toNat) v16), wr (x3.2 + 1)))
            )
          else none
          )
        else none
        )
      else none
      )
    else none)
  else
    (some (.inr x3.1))

noncomputable def m_impl_reduce_L4 (a0 : Int) (v1 : Mt) (v25 : Int) (x1 : (Int × (List Int) × (List Int))) (x4 : ((List Int) × Int)) : Option (((List Int) × Int) ⊕ (List Int)) :=
  bif decide (x4.2 < ((((wr ((wr (((x1.2.2.length : Nat) : Int) + 1)) * v1.cols)).toNat - (wr (((x1.2.2.length : Nat) : Int) * v1.cols)).toNat) : Nat) : Int)) then
    (bif (decide (0 ≤ x4.2) && decide (x4.2 < ((((wr ((wr (((x1.2.2.length : Nat) : Int) + 1)) * v1.cols)).toNat - (wr (((x1.2.2.length : Nat) : Int) * v1.cols)).toNat) : Nat) : Int))) then
      (Option.bind (x4.1[((0 + (wr (((x1.2.2.length : Nat) : Int) * v1.cols)).toNat) + x4.2.toNat)]?) fun v27 =>
      bif !decide (a0 = 0) then
        (bif (decide (0 ≤ x4.2) && decide (x4.2 < ((((wr ((wr (((x1.2.2.length : Nat) : Int) + 1)) * v1.cols)).toNat - (wr (((x1.2.2.length : Nat) : Int) * v1.cols)).toNat) : Nat) : Int))) then
          (Option.bind (x4.1[((0 + (wr (((x1.2.2.length : Nat) : Int) * v1.cols)).toNat) + x4.2.toNat)]?) fun v29 =>
          some (.inl ((x4.1.set ((0 + (wr (((x1.2.2.length : Nat) : Int) * v1.cols)).toNat) + x4.2.toNat) ((wr (v27 * v25)).tmod a0)), wr (x4.2 + 1)))
          )
        else none)
      else none
      )
    else none)
  else
    (some (.inr x4.1))

noncomputable def m_impl_reduce_L5 (a0 : Int) (v1 : Mt) (x1 : (Int × (List Int) × (List Int))) (x5 : ((List Int) × Int)) : Option (((List Int) × Int) ⊕ (List Int)) :=
  bif decide (x5.2 < v1.rows) then
    (bif !decide (x5.2 = ((x1.2.2.length : Nat) : Int)) then
      (Option.bind (m_impl_Matrix_row (⟨v1.rows, v1.cols, x5.1⟩ : Mt) x5.2) fun v35 =>
      Option.bind (m_impl_Matrix_row (⟨v1.rows, v1.cols, x5.1⟩ : Mt) x5.2) fun v36 =>
      bif (decide (0 ≤ x1.1) && decide (x1.1 < ((((wr ((wr (x5.2 + 1)) * v1.cols)).toNat - (wr (x5.2 * v1.cols)).toNat) : Nat) : Int))) then
        (Option.bind (x5.1[((0 + (wr (x5.2 * v1.cols)).toNat) + x1.1.toNat)]?) fun v37 =>
        Option.bind (m_impl_addMultiple_same a0 x5.1 (0 + (wr (x5.2 * v1.cols)).toNat) ((wr ((wr (x5.2 + 1)) * v1.cols)).toNat - (wr (x5.2 * v1.cols)).toNat) (wr (a0 - v37)) (0 + (wr (((x1.2.2.length : Nat) : Int) * v1.cols)).toNat) ((wr ((wr (((x1.2.2.length : Nat) : Int) + 1)) * v1.cols)).toNat - (wr (((x1.2.2.length : Nat) : Int) * v1.cols)).toNat)) fun v39 =>
        bif decide (v39.length = x5.1.length) then
          (some (.inl (v39, wr (x5.2 + 1))))
        else none
        )
      else none)
    else
      (some (.inl (x5.1, wr (x5.2 + 1)))))
  else
    (some (.inr x5.1))

noncomputable def m_impl_reduce_L1 (a0 : Int) (v1 : Mt) (x1 : (Int × (List Int) × (List Int))) : Option ((Int × (List Int) × (List Int)) ⊕ ((List Int) × (List Int))) :=
  bif decide (x1.1 < v1.cols) then
    (Option.bind (Lp (m_impl_reduce_L2 v1 x1) ((x1.2.2.length : Nat) : Int)) fun y8 =>
    bif decide (y8 = v1.rows) then
      (some (.inl (wr (x1.1 + 1), x1.2.1, x1.2.2)))
    else
      (Option.bind (m_impl_Matrix_row (⟨v1.rows, v1.cols, x1.2.1⟩ : Mt) ((x1.2.2.length : Nat) : Int)) fun v10 =>
      Option.bind (Lp (m_impl_reduce_L3 v1 x1 y8) (x1.2.1, 0)) fun y22 =>
      bif (decide (0 ≤ x1.1) && decide (x1.1 < ((((wr ((wr (((x1.2.2.length : Nat) : Int) + 1)) * v1.cols)).toNat - (wr (((x1.2.2.length : Nat) : Int) * v1.cols)).toNat) : Nat) : Int))) then
        (Option.bind (y22[((0 + (wr (((x1.2.2.length : Nat) : Int) * v1.cols)).toNat) + x1.1.toNat)]?) fun v23 =>
        Option.bind (m_impl_InverseMod a0 v23) fun v25 =>
        Option.bind (Lp (m_impl_reduce_L4 a0 v1 v25 x1) (y22, 0)) fun y32 =>
        Option.bind (Lp (m_impl_reduce_L5 a0 v1 x1) (y32, 0)) fun y41 =>
        bif decide (x1.2.2.length + [x1.1].length ≤ 4294967296) then
          (some (.inl (wr (x1.1 + 1), y41, (x1.2.2 ++ [x1.1]))))
        else none
        )
      else none))
  else
    (some (.inr (x1.2.1, x1.2.2)))

noncomputable def m_impl_reduce (a0 : Int) (a1 : Mt) : Option (Mt × (List Int)) :=
  Option.bind (m_impl_Matrix_clone a1) fun v1 =>
  Option.bind (Lp (m_impl_reduce_L1 a0 v1) (0, v1.cells, [])) fun y43 =>
  some (((⟨v1.rows, v1.cols, y43.1⟩ : Mt), y43.2))

theorem c_impl_reduce (a0 : Int) (a1 : Mt) (r : (Mt × (List Int))) (h : m_impl_reduce a0 a1 = some r) : HasC Try.prog 139 [.int a0, .agg (eM a1)] (.tuple [.agg (eM r.1), .list 1 (List.map eI r.2)]) := by
  refine hasC_mk TT_ok (rvs := [.cell 4 81, .tmp 5]) (ns := [0, 1, 2, 3, 4, 5, 6, 7, 8, 9, 10, 11, 12, 13]) Try.func139 rfl rfl Try.ntmps139 rfl rfl rfl ?_
  refine ac_seq ?_
  refine ac_region ?_
  refine aops_eff (w_box rfl rfl rfl rfl) rfl rfl rfl ?_
  refine aops_eff (w_alloc TT_ok rfl rfl) rfl rfl rfl ?_
  refine aops_eff (eff_assign rfl) rfl rfl rfl ?_
  refine aops_nil ?_
  refine then_n ?_
  refine ac_seq ?_
  refine ac_region ?_
  refine aops_eff (w_load_ptr TT_ok rfl rfl rfl rfl rfl rfl rfl) rfl rfl rfl ?_
  obtain ⟨v1, hv1, h⟩ := ob h
  refine aops_eff (AEff.conv (w_call0 (x := .agg [.int v1.rows, .int v1.cols, .own 2 0 (List.map eI v1.cells).length]) (nb := [(2, ⟨1, absEs (List.map eI v1.cells)⟩)]) (c_impl_Matrix_clone a1 v1 hv1) rfl (by rfl) rfl rfl (g1_cons trivial (g1_cons trivial (g1_cons (okI.good _) g1_nil))) (va_cons (va_agg' (v1_cons (v1_same rfl) (v1_cons (v1_same rfl) (v1_cons (v1_same rfl) v1_nil)))) va_nil)) (v' := .agg [.int v1.rows, .int v1.cols, .own 2 0 v1.cells.length]) (ed' := [(2, some ⟨1, List.map (ow eI) v1.cells⟩)]) (by simp only [len_map]) (ed_ok (nb' := [(2, ⟨1, List.map (ow eI) v1.cells⟩)]) (by simp only [abs_map]))) rfl rfl rfl ?_
  refine aops_eff (w_store TT_ok rfl rfl rfl rfl rfl rfl rfl rfl) rfl rfl rfl ?_
  refine aops_nil ?_
  refine then_n ?_
  refine ac_seq ?_
  refine ac_region ?_
  refine aops_eff (eff_assign rfl) rfl rfl rfl ?_
  refine aops_nil ?_
  refine then_n ?_
  refine ac_seq ?_
  refine ac_seq ?_
  refine ac_region ?_
  refine aops_eff (w_field_ptr TT_ok rfl rfl rfl rfl rfl rfl rfl) rfl rfl rfl ?_
  refine aops_eff (w_load_ptr TT_ok rfl rfl rfl rfl rfl rfl rfl) rfl rfl rfl ?_
  refine aops_eff (eff_move rfl) rfl rfl rfl ?_
  refine aops_nil ?_
  refine then_n ?_
  refine ac_block ?_
  obtain ⟨y43, hy43, h⟩ := ob h
  refine ac_Lp (body := (m_impl_reduce_L1 a0 v1)) hy43 (fun (x1 : (Int × (List Int) × (List Int))) => mkS [(0, .int a0), (3, .ptr 0 0 0), (4, .ptr 2 0 0), (6, .own 3 0 x1.2.2.length), (17, .int v1.cols), (18, .int x1.1)] [(0, ⟨3, [[.int v1.rows, .int v1.cols, .own 1 0 x1.2.1.length]]⟩), (1, ⟨1, List.map (ow eI) x1.2.1⟩), (2, ⟨3, [[.int 0, .int 0, .nil 1]]⟩), (3, ⟨1, List.map (ow eI) x1.2.2⟩)] 4 [4, 5, 6, 7, 8, 9, 10, 11, 12, 13, 14, 15, 16, 17]) (fun r e t => e = .exit 0 ∧ Ent t (mkS [(3, .ptr 0 0 0), (4, .ptr 2 0 0), (6, .own 3 0 r.2.length)] [(0, ⟨3, [[.int v1.rows, .int v1.cols, .own 1 0 r.1.length]]⟩), (1, ⟨1, List.map (ow eI) r.1⟩), (2, ⟨3, [[.int 0, .int 0, .nil 1]]⟩), (3, ⟨1, List.map (ow eI) r.2⟩)] 4 [4, 5, 6, 7, 8, 9, 10, 11, 12, 13, 14, 15, 16, 17])) (ent_mk (σ := sg [(0, 0), (1, 2), (2, 1)]) ⟨⟨_, rfl, rfl⟩, ⟨_, rfl, ⟨rfl, rfl, rfl, rfl⟩⟩, ⟨_, rfl, ⟨rfl, rfl, rfl, rfl⟩⟩, ⟨_, rfl, ⟨rfl, rfl, rfl, rfl⟩⟩, ⟨_, rfl, rfl⟩, ⟨_, rfl, rfl⟩, trivial⟩ ⟨⟨_, rfl, rfl, .inr ⟨_, _, rfl, ⟨_, _, rfl, rfl, ⟨_, _, rfl, rfl, ⟨_, _, rfl, ⟨rfl, rfl, rfl, rfl⟩, rfl⟩⟩⟩, rfl⟩⟩, rfl, ⟨_, rfl, rfl, .inl ⟨rfl, okI.plainO _⟩⟩, rfl, ⟨_, rfl, rfl, .inl ⟨rfl, plain_of rfl⟩⟩, rfl, rfl, rfl, trivial⟩ rfl) ?_ ?_
  · intro x1 o h
    refine ac_seq ?_
    refine ac_region ?_
    refine aops_eff (w_cmp rfl rfl rfl) rfl rfl rfl ?_
    refine aops_nil ?_
    refine then_n ?_
    refine ac_seq ?_
    rcases cb h with ⟨q2, h⟩ | ⟨q2, h⟩
    · refine ac_condT rfl q2 ?_
      refine ac_skip ?_
      refine then_n ?_
      refine ac_seq ?_
      refine ac_block ?_
      refine ac_seq ?_
      refine ac_region ?_
      refine aops_eff (eff_move rfl) rfl rfl rfl ?_
      refine aops_eff (eff_assign rfl) rfl rfl rfl ?_
      refine aops_nil ?_
      refine then_n ?_
      refine ac_seq ?_
      refine ac_region ?_
      refine aops_eff (eff_move rfl) rfl rfl rfl ?_
      refine aops_eff (w_len_own TT_ok rfl rfl rfl rfl) rfl rfl rfl ?_
      refine aops_eff (eff_assign rfl) rfl rfl rfl ?_
      refine aops_nil ?_
      refine then_n ?_
      refine ac_seq ?_
      refine ac_block ?_
      obtain ⟨y8, hy8, h⟩ := ob h
      refine ac_Lp (body := (m_impl_reduce_L2 v1 x1)) hy8 (fun (x2 : Int) => mkS [(0, .int a0), (3, .ptr 0 0 0), (4, .ptr 2 0 0), (6, .own 3 0 x1.2.2.length), (7, .int x1.1), (8, .int x2), (17, .int v1.cols), (18, .int x1.1)] [(0, ⟨3, [[.int v1.rows, .int v1.cols, .own 1 0 x1.2.1.length]]⟩), (1, ⟨1, List.map (ow eI) x1.2.1⟩), (2, ⟨3, [[.int 0, .int 0, .nil 1]]⟩), (3, ⟨1, List.map (ow eI) x1.2.2⟩)] 4 [4, 5, 6, 7, 8, 9, 10, 11, 12, 13, 14, 15, 16, 17]) (fun r e t => e = .exit 2 ∧ Ent t (mkS [(0, .int a0), (3, .ptr 0 0 0), (4, .ptr 2 0 0), (6, .own 3 0 x1.2.2.length), (7, .int x1.1), (8, .int r), (17, .int v1.cols), (18, .int x1.1)] [(0, ⟨3, [[.int v1.rows, .int v1.cols, .own 1 0 x1.2.1.length]]⟩), (1, ⟨1, List.map (ow eI) x1.2.1⟩), (2, ⟨3, [[.int 0, .int 0, .nil 1]]⟩), (3, ⟨1, List.map (ow eI) x1.2.2⟩)] 4 [4, 5, 6, 7, 8, 9, 10, 11, 12, 13, 14, 15, 16, 17])) (ent_mk (σ := sg [(0, 0), (1, 1), (2, 2), (3, 3)]) ⟨⟨_, rfl, rfl⟩, ⟨_, rfl, ⟨rfl, rfl, rfl, rfl⟩⟩, ⟨_, rfl, ⟨rfl, rfl, rfl, rfl⟩⟩, ⟨_, rfl, ⟨rfl, rfl, rfl, rfl⟩⟩, ⟨_, rfl, rfl⟩, ⟨_, rfl, rfl⟩, ⟨_, rfl, rfl⟩, ⟨_, rfl, rfl⟩, trivial⟩ ⟨⟨_, rfl, rfl, .inr ⟨_, _, rfl, ⟨_, _, rfl, rfl, ⟨_, _, rfl, rfl, ⟨_, _, rfl, ⟨rfl, rfl, rfl, rfl⟩, rfl⟩⟩⟩, rfl⟩⟩, rfl, ⟨_, rfl, rfl, .inl ⟨rfl, okI.plainO _⟩⟩, rfl, ⟨_, rfl, rfl, .inl ⟨rfl, plain_of rfl⟩⟩, rfl, ⟨_, rfl, rfl, .inl ⟨rfl, okI.plainO _⟩⟩, rfl, trivial⟩ rfl) ?_ ?_
      · intro x2 o h
        refine ac_seq ?_
        refine ac_seq ?_
        refine ac_region ?_
        refine aops_eff (eff_move rfl) rfl rfl rfl ?_
        refine aops_eff (w_field_ptr TT_ok rfl rfl rfl rfl rfl rfl rfl) rfl rfl rfl ?_
        refine aops_eff (w_load_ptr TT_ok rfl rfl rfl rfl rfl rfl rfl) rfl rfl rfl ?_
        refine aops_eff (w_cmp rfl rfl rfl) rfl rfl rfl ?_
        refine aops_eff (eff_move rfl) rfl rfl rfl ?_
        rcases cb h with ⟨q3, h⟩ | ⟨q3, h⟩
        · refine aops_lit 27 rfl q3 ?_
          refine aops_eff (w_load_ptr TT_ok rfl rfl rfl rfl rfl rfl rfl) rfl rfl rfl ?_
          refine aops_eff (eff_move rfl) rfl rfl rfl ?_
          obtain ⟨v4, hv4, h⟩ := ob h
          refine aops_eff (AEff.pureE (eff_hasE (σ := sg [(0, 1)]) (σ' := sg [(1, 0)]) (touch := [1]) (news := []) (hl2 := [(1, ⟨1, List.map (ow eI) x1.2.1⟩)]) (n' := 4) (r2 := .own 1 (0 + (wr (x2 * v1.cols)).toNat) ((wr ((wr (x2 + 1)) * v1.cols)).toNat - (wr (x2 * v1.cols)).toNat)) (c_impl_Matrix_row (⟨v1.rows, v1.cols, x1.2.1⟩ : Mt) x2 v4 hv4) rfl rfl ⟨_, _, rfl, ⟨_, _, rfl, rfl, ⟨_, _, rfl, rfl, ⟨_, _, rfl, ⟨rfl, rfl, rfl, rfl⟩, rfl⟩⟩⟩, ⟨_, _, rfl, rfl, rfl⟩⟩ ⟨⟨_, rfl, rfl, .inl ⟨rfl, okI.plainO _⟩⟩, rfl, trivial⟩ rfl rfl rfl ⟨⟨_, rfl, rfl, .inl ⟨rfl, okI.plainO _⟩⟩, rfl, trivial⟩ rfl ⟨rfl, rfl, (by simp only [len_map, List.length_append, List.length_set, List.length_replicate, List.length_cons, List.length_nil]), rfl⟩ rfl ⟨rfl, okI.tame _ _, trivial⟩ rfl rfl) ⟨rfl, rfl, trivial⟩) rfl rfl rfl ?_
          refine aops_eff (eff_move rfl) rfl rfl rfl ?_
          obtain ⟨q6, h⟩ := cg h
          obtain ⟨v5, hv5, h⟩ := ob h
          refine aops_eff (x_at_part TT_ok q6 rfl rfl rfl rfl rfl rfl rfl) rfl rfl rfl ?_
          refine aops_eff (w_load_ptr TT_ok rfl rfl rfl rfl (map_at (hv5)) rfl rfl) rfl rfl rfl ?_
          refine aops_eff (w_cmp rfl rfl rfl) rfl rfl rfl ?_
          refine aops_eff (eff_pick rfl rfl) rfl rfl rfl ?_
          refine aops_nil ?_
          refine then_n ?_
          refine ac_ent (t := mkS [(0, .int a0), (3, .ptr 0 0 0), (4, .ptr 2 0 0), (6, .own 3 0 x1.2.2.length), (7, .int x1.1), (8, .int x2), (17, .int v1.cols), (18, .int x1.1), (35, .bl (decide (v5 = 0)))] [(0, ⟨3, [[.int v1.rows, .int v1.cols, .own 1 0 x1.2.1.length]]⟩), (1, ⟨1, List.map (ow eI) x1.2.1⟩), (2, ⟨3, [[.int 0, .int 0, .nil 1]]⟩), (3, ⟨1, List.map (ow eI) x1.2.2⟩)] 4 [4, 5, 6, 7, 8, 9, 10, 11, 12, 13, 14, 15, 16, 17]) (ent_mk (σ := sg [(0, 0), (1, 1), (2, 2), (3, 3)]) ⟨⟨_, rfl, rfl⟩, ⟨_, rfl, ⟨rfl, rfl, rfl, rfl⟩⟩, ⟨_, rfl, ⟨rfl, rfl, rfl, rfl⟩⟩, ⟨_, rfl, ⟨rfl, rfl, rfl, rfl⟩⟩, ⟨_, rfl, rfl⟩, ⟨_, rfl, rfl⟩, ⟨_, rfl, rfl⟩, ⟨_, rfl, rfl⟩, ⟨_, rfl, rfl⟩, trivial⟩ ⟨⟨_, rfl, rfl, .inr ⟨_, _, rfl, ⟨_, _, rfl, rfl, ⟨_, _, rfl, rfl, ⟨_, _, rfl, ⟨rfl, rfl, rfl, rfl⟩, rfl⟩⟩⟩, rfl⟩⟩, rfl, ⟨_, rfl, rfl, .inl ⟨rfl, okI.plainO _⟩⟩, rfl, ⟨_, rfl, rfl, .inl ⟨rfl, plain_of rfl⟩⟩, rfl, ⟨_, rfl, rfl, .inl ⟨rfl, okI.plainO _⟩⟩, rfl, trivial⟩ rfl) ?_
          rcases cb h with ⟨q7, h⟩ | ⟨q7, h⟩
          · refine ac_condT rfl q7 ?_
            refine ac_skip ?_
            refine then_n ?_
            refine ac_block ?_
            refine ac_region ?_
            refine aops_eff (eff_move rfl) rfl rfl rfl ?_
            refine aops_eff (x_add rfl rfl) rfl rfl rfl ?_
            refine aops_eff (eff_assign rfl) rfl rfl rfl ?_
            refine aops_nil ?_
            refine block_n ?_
            refine then_n ?_
            obtain rfl := so h
            exact ⟨_, rfl, (ent_mk (σ := sg [(0, 0), (1, 1), (2, 2), (3, 3)]) ⟨⟨_, rfl, rfl⟩, ⟨_, rfl, ⟨rfl, rfl, rfl, rfl⟩⟩, ⟨_, rfl, ⟨rfl, rfl, rfl, rfl⟩⟩, ⟨_, rfl, ⟨rfl, rfl, rfl, rfl⟩⟩, ⟨_, rfl, rfl⟩, ⟨_, rfl, rfl⟩, ⟨_, rfl, rfl⟩, ⟨_, rfl, rfl⟩, trivial⟩ ⟨⟨_, rfl, rfl, .inr ⟨_, _, rfl, ⟨_, _, rfl, rfl, ⟨_, _, rfl, rfl, ⟨_, _, rfl, ⟨rfl, rfl, rfl, rfl⟩, rfl⟩⟩⟩, rfl⟩⟩, rfl, ⟨_, rfl, rfl, .inl ⟨rfl, okI.plainO _⟩⟩, rfl, ⟨_, rfl, rfl, .inl ⟨rfl, plain_of rfl⟩⟩, rfl, ⟨_, rfl, rfl, .inl ⟨rfl, okI.plainO _⟩⟩, rfl, trivial⟩ rfl)⟩
          · refine ac_condF rfl q7 ?_
            refine ac_exit ?_
            refine then_exit ?_
            refine then_exit ?_
            obtain rfl := so h
            exact ⟨_, rfl, rfl, (ent_mk (σ := sg [(0, 0), (1, 1), (2, 2), (3, 3)]) ⟨⟨_, rfl, rfl⟩, ⟨_, rfl, ⟨rfl, rfl, rfl, rfl⟩⟩, ⟨_, rfl, ⟨rfl, rfl, rfl, rfl⟩⟩, ⟨_, rfl, ⟨rfl, rfl, rfl, rfl⟩⟩, ⟨_, rfl, rfl⟩, ⟨_, rfl, rfl⟩, ⟨_, rfl, rfl⟩, ⟨_, rfl, rfl⟩, trivial⟩ ⟨⟨_, rfl, rfl, .inr ⟨_, _, rfl, ⟨_, _, rfl, rfl, ⟨_, _, rfl, rfl, ⟨_, _, rfl, ⟨rfl, rfl, rfl, rfl⟩, rfl⟩⟩⟩, rfl⟩⟩, rfl, ⟨_, rfl, rfl, .inl ⟨rfl, okI.plainO _⟩⟩, rfl, ⟨_, rfl, rfl, .inl ⟨rfl, plain_of rfl⟩⟩, rfl, ⟨_, rfl, rfl, .inl ⟨rfl, okI.plainO _⟩⟩, rfl, trivial⟩ rfl)⟩
        · refine aops_lit 27 rfl q3 ?_
          refine aops_skip rfl rfl ?_
          refine aops_skip rfl rfl ?_
          refine aops_skip rfl rfl ?_
          refine aops_skip rfl rfl ?_
          refine aops_skip rfl rfl ?_
          refine aops_skip rfl rfl ?_
          refine aops_skip rfl rfl ?_
          refine aops_eff (eff_pick rfl rfl) rfl rfl rfl ?_
          refine aops_nil ?_
          refine then_n ?_
          refine ac_ent (t := mkS [(0, .int a0), (3, .ptr 0 0 0), (4, .ptr 2 0 0), (6, .own 3 0 x1.2.2.length), (7, .int x1.1), (8, .int x2), (17, .int v1.cols), (18, .int x1.1), (35, .bl false)] [(0, ⟨3, [[.int v1.rows, .int v1.cols, .own 1 0 x1.2.1.length]]⟩), (1, ⟨1, List.map (ow eI) x1.2.1⟩), (2, ⟨3, [[.int 0, .int 0, .nil 1]]⟩), (3, ⟨1, List.map (ow eI) x1.2.2⟩)] 4 [4, 5, 6, 7, 8, 9, 10, 11, 12, 13, 14, 15, 16, 17]) (ent_mk (σ := sg [(0, 0), (1, 1), (2, 2), (3, 3)]) ⟨⟨_, rfl, rfl⟩, ⟨_, rfl, ⟨rfl, rfl, rfl, rfl⟩⟩, ⟨_, rfl, ⟨rfl, rfl, rfl, rfl⟩⟩, ⟨_, rfl, ⟨rfl, rfl, rfl, rfl⟩⟩, ⟨_, rfl, rfl⟩, ⟨_, rfl, rfl⟩, ⟨_, rfl, rfl⟩, ⟨_, rfl, rfl⟩, ⟨_, rfl, rfl⟩, trivial⟩ ⟨⟨_, rfl, rfl, .inr ⟨_, _, rfl, ⟨_, _, rfl, rfl, ⟨_, _, rfl, rfl, ⟨_, _, rfl, ⟨rfl, rfl, rfl, rfl⟩, rfl⟩⟩⟩, rfl⟩⟩, rfl, ⟨_, rfl, rfl, .inl ⟨rfl, okI.plainO _⟩⟩, rfl, ⟨_, rfl, rfl, .inl ⟨rfl, plain_of rfl⟩⟩, rfl, ⟨_, rfl, rfl, .inl ⟨rfl, okI.plainO _⟩⟩, rfl, trivial⟩ rfl) ?_
          refine ac_condF rfl rfl ?_
          refine ac_exit ?_
          refine then_exit ?_
          refine then_exit ?_
          obtain rfl := so h
          exact ⟨_, rfl, rfl, (ent_mk (σ := sg [(0, 0), (1, 1), (2, 2), (3, 3)]) ⟨⟨_, rfl, rfl⟩, ⟨_, rfl, ⟨rfl, rfl, rfl, rfl⟩⟩, ⟨_, rfl, ⟨rfl, rfl, rfl, rfl⟩⟩, ⟨_, rfl, ⟨rfl, rfl, rfl, rfl⟩⟩, ⟨_, rfl, rfl⟩, ⟨_, rfl, rfl⟩, ⟨_, rfl, rfl⟩, ⟨_, rfl, rfl⟩, trivial⟩ ⟨⟨_, rfl, rfl, .inr ⟨_, _, rfl, ⟨_, _, rfl, rfl, ⟨_, _, rfl, rfl, ⟨_, _, rfl, ⟨rfl, rfl, rfl, rfl⟩, rfl⟩⟩⟩, rfl⟩⟩, rfl, ⟨_, rfl, rfl, .inl ⟨rfl, okI.plainO _⟩⟩, rfl, ⟨_, rfl, rfl, .inl ⟨rfl, plain_of rfl⟩⟩, rfl, ⟨_, rfl, rfl, .inl ⟨rfl, okI.plainO _⟩⟩, rfl, trivial⟩ rfl)⟩
      · rintro e t ⟨rfl, hent⟩
        refine block_here ?_
        refine then_n ?_
        refine ac_ent hent ?_
        refine ac_seq ?_
        refine ac_seq ?_
        refine ac_region ?_
        refine aops_eff (eff_move rfl) rfl rfl rfl ?_
        refine aops_eff (w_field_ptr TT_ok rfl rfl rfl rfl rfl rfl rfl) rfl rfl rfl ?_
        refine aops_eff (w_load_ptr TT_ok rfl rfl rfl rfl rfl rfl rfl) rfl rfl rfl ?_
        refine aops_eff (w_cmp rfl rfl rfl) rfl rfl rfl ?_
        refine aops_nil ?_
        refine then_n ?_
        rcases cb h with ⟨q9, h⟩ | ⟨q9, h⟩
        · refine ac_condT rfl q9 ?_
          refine ac_exit ?_
          refine then_exit ?_
          refine block_here ?_
          refine then_n ?_
          refine ac_region ?_
          refine aops_eff (x_add rfl rfl) rfl rfl rfl ?_
          refine aops_eff (eff_move rfl) rfl rfl rfl ?_
          refine aops_nil ?_
          refine then_n ?_
          obtain rfl := so h
          exact ⟨_, rfl, (ent_mk (σ := sg [(0, 0), (1, 1), (2, 2), (3, 3)]) ⟨⟨_, rfl, rfl⟩, ⟨_, rfl, ⟨rfl, rfl, rfl, rfl⟩⟩, ⟨_, rfl, ⟨rfl, rfl, rfl, rfl⟩⟩, ⟨_, rfl, ⟨rfl, rfl, rfl, rfl⟩⟩, ⟨_, rfl, rfl⟩, ⟨_, rfl, rfl⟩, trivial⟩ ⟨⟨_, rfl, rfl, .inr ⟨_, _, rfl, ⟨_, _, rfl, rfl, ⟨_, _, rfl, rfl, ⟨_, _, rfl, ⟨rfl, rfl, rfl, rfl⟩, rfl⟩⟩⟩, rfl⟩⟩, rfl, ⟨_, rfl, rfl, .inl ⟨rfl, okI.plainO _⟩⟩, rfl, ⟨_, rfl, rfl, .inl ⟨rfl, plain_of rfl⟩⟩, rfl, ⟨_, rfl, rfl, .inl ⟨rfl, okI.plainO _⟩⟩, rfl, trivial⟩ rfl)⟩
        · refine ac_condF rfl q9 ?_
          refine ac_skip ?_
          refine then_n ?_
          refine ac_seq ?_
          refine ac_region ?_
          refine aops_eff (w_load_ptr TT_ok rfl rfl rfl rfl rfl rfl rfl) rfl rfl rfl ?_
          refine aops_eff (eff_move rfl) rfl rfl rfl ?_
          refine aops_eff (w_len_own TT_ok rfl rfl rfl rfl) rfl rfl rfl ?_
          obtain ⟨v10, hv10, h⟩ := ob h
          refine aops_eff (AEff.pureE (eff_hasE (σ := sg [(0, 1)]) (σ' := sg [(1, 0)]) (touch := [1]) (news := []) (hl2 := [(1, ⟨1, List.map (ow eI) x1.2.1⟩)]) (n' := 4) (r2 := .own 1 (0 + (wr (((x1.2.2.length : Nat) : Int) * v1.cols)).toNat) ((wr ((wr (((x1.2.2.length : Nat) : Int) + 1)) * v1.cols)).toNat - (wr (((x1.2.2.length : Nat) : Int) * v1.cols)).toNat)) (c_impl_Matrix_row (⟨v1.rows, v1.cols, x1.2.1⟩ : Mt) ((x1.2.2.length : Nat) : Int) v10 hv10) rfl rfl ⟨_, _, rfl, ⟨_, _, rfl, rfl, ⟨_, _, rfl, rfl, ⟨_, _, rfl, ⟨rfl, rfl, rfl, rfl⟩, rfl⟩⟩⟩, ⟨_, _, rfl, rfl, rfl⟩⟩ ⟨⟨_, rfl, rfl, .inl ⟨rfl, okI.plainO _⟩⟩, rfl, trivial⟩ rfl rfl rfl ⟨⟨_, rfl, rfl, .inl ⟨rfl, okI.plainO _⟩⟩, rfl, trivial⟩ rfl ⟨rfl, rfl, (by simp only [len_map, List.length_append, List.length_set, List.length_replicate, List.length_cons, List.length_nil]), rfl⟩ rfl ⟨rfl, okI.tame _ _, trivial⟩ rfl rfl) ⟨rfl, rfl, trivial⟩) rfl rfl rfl ?_
          refine aops_eff (eff_assign rfl) rfl rfl rfl ?_
          refine aops_nil ?_
          refine then_n ?_
          refine ac_seq ?_
          refine ac_seq ?_
          refine ac_region ?_
          refine aops_eff (w_field_ptr TT_ok rfl rfl rfl rfl rfl rfl rfl) rfl rfl rfl ?_
          refine aops_eff (w_load_ptr TT_ok rfl rfl rfl rfl rfl rfl rfl) rfl rfl rfl ?_
          refine aops_eff (eff_move rfl) rfl rfl rfl ?_
          refine aops_nil ?_
          refine then_n ?_
          refine ac_ent (t := mkS [(0, .int a0), (3, .ptr 0 0 0), (4, .ptr 2 0 0), (6, .own 3 0 x1.2.2.length), (7, .int x1.1), (8, .int y8), (9, .own 1 (0 + (wr (((x1.2.2.length : Nat) : Int) * v1.cols)).toNat) ((wr ((wr (((x1.2.2.length : Nat) : Int) + 1)) * v1.cols)).toNat - (wr (((x1.2.2.length : Nat) : Int) * v1.cols)).toNat)), (17, .int v1.cols), (18, .int x1.1), (47, .int v1.cols), (48, .int 0)] [(0, ⟨3, [[.int v1.rows, .int v1.cols, .own 1 0 x1.2.1.length]]⟩), (1, ⟨1, List.map (ow eI) x1.2.1⟩), (2, ⟨3, [[.int 0, .int 0, .nil 1]]⟩), (3, ⟨1, List.map (ow eI) x1.2.2⟩)] 4 [4, 5, 6, 7, 8, 9, 10, 11, 12, 13, 14, 15, 16, 17]) (ent_mk (σ := sg [(0, 0), (1, 1), (2, 2), (3, 3)]) ⟨⟨_, rfl, rfl⟩, ⟨_, rfl, ⟨rfl, rfl, rfl, rfl⟩⟩, ⟨_, rfl, ⟨rfl, rfl, rfl, rfl⟩⟩, ⟨_, rfl, ⟨rfl, rfl, rfl, rfl⟩⟩, ⟨_, rfl, rfl⟩, ⟨_, rfl, rfl⟩, ⟨_, rfl, ⟨rfl, rfl, rfl, rfl⟩⟩, ⟨_, rfl, rfl⟩, ⟨_, rfl, rfl⟩, ⟨_, rfl, rfl⟩, ⟨_, rfl, rfl⟩, trivial⟩ ⟨⟨_, rfl, rfl, .inr ⟨_, _, rfl, ⟨_, _, rfl, rfl, ⟨_, _, rfl, rfl, ⟨_, _, rfl, ⟨rfl, rfl, rfl, rfl⟩, rfl⟩⟩⟩, rfl⟩⟩, rfl, ⟨_, rfl, rfl, .inl ⟨rfl, okI.plainO _⟩⟩, rfl, ⟨_, rfl, rfl, .inl ⟨rfl, plain_of rfl⟩⟩, rfl, ⟨_, rfl, rfl, .inl ⟨rfl, okI.plainO _⟩⟩, rfl, trivial⟩ rfl) ?_
          refine ac_block ?_
          obtain ⟨y22, hy22, h⟩ := ob h
          refine ac_Lp (body := (m_impl_reduce_L3 v1 x1 y8)) hy22 (fun (x3 : ((List Int) × Int)) => mkS [(0, .int a0), (3, .ptr 0 0 0), (4, .ptr 2 0 0), (6, .own 3 0 x1.2.2.length), (7, .int x1.1), (8, .int y8), (9, .own 1 (0 + (wr (((x1.2.2.length : Nat) : Int) * v1.cols)).toNat) ((wr ((wr (((x1.2.2.length : Nat) : Int) + 1)) * v1.cols)).toNat - (wr (((x1.2.2.length : Nat) : Int) * v1.cols)).toNat)), (17, .int v1.cols), (18, .int x1.1), (47, .int v1.cols), (48, .int x3.2)] [(0, ⟨3, [[.int v1.rows, .int v1.cols, .own 1 0 x3.1.length]]⟩), (1, ⟨1, List.map (ow eI) x3.1⟩), (2, ⟨3, [[.int 0, .int 0, .nil 1]]⟩), (3, ⟨1, List.map (ow eI) x1.2.2⟩)] 4 [4, 5, 6, 7, 8, 9, 10, 11, 12, 13, 14, 15, 16, 17]) (fun r e t => e = .exit 4 ∧ Ent t (mkS [(0, .int a0), (3, .ptr 0 0 0), (4, .ptr 2 0 0), (6, .own 3 0 x1.2.2.length), (7, .int x1.1), (9, .own 1 (0 + (wr (((x1.2.2.length : Nat) : Int) * v1.cols)).toNat) ((wr ((wr (((x1.2.2.length : Nat) : Int) + 1)) * v1.cols)).toNat - (wr (((x1.2.2.length : Nat) : Int) * v1.cols)).toNat)), (17, .int v1.cols), (18, .int x1.1)] [(0, ⟨3, [[.int v1.rows, .int v1.cols, .own 1 0 r.length]]⟩), (1, ⟨1, List.map (ow eI) r⟩), (2, ⟨3, [[.int 0, .int 0, .nil 1]]⟩), (3, ⟨1, List.map (ow eI) x1.2.2⟩)] 4 [4, 5, 6, 7, 8, 9, 10, 11, 12, 13, 14, 15, 16, 17])) (ent_mk (σ := sg [(0, 0), (1, 1), (2, 2), (3, 3)]) ⟨⟨_, rfl, rfl⟩, ⟨_, rfl, ⟨rfl, rfl, rfl, rfl⟩⟩, ⟨_, rfl, ⟨rfl, rfl, rfl, rfl⟩⟩, ⟨_, rfl, ⟨rfl, rfl, rfl, rfl⟩⟩, ⟨_, rfl, rfl⟩, ⟨_, rfl, rfl⟩, ⟨_, rfl, ⟨rfl, rfl, rfl, rfl⟩⟩, ⟨_, rfl, rfl⟩, ⟨_, rfl, rfl⟩, ⟨_, rfl, rfl⟩, ⟨_, rfl, rfl⟩, trivial⟩ ⟨⟨_, rfl, rfl, .inr ⟨_, _, rfl, ⟨_, _, rfl, rfl, ⟨_, _, rfl, rfl, ⟨_, _, rfl, ⟨rfl, rfl, rfl, rfl⟩, rfl⟩⟩⟩, rfl⟩⟩, rfl, ⟨_, rfl, rfl, .inl ⟨rfl, okI.plainO _⟩⟩, rfl, ⟨_, rfl, rfl, .inl ⟨rfl, plain_of rfl⟩⟩, rfl, ⟨_, rfl, rfl, .inl ⟨rfl, okI.plainO _⟩⟩, rfl, trivial⟩ rfl) ?_ ?_
          · intro x3 o h
            refine ac_seq ?_
            refine ac_region ?_
            refine aops_eff (w_cmp rfl rfl rfl) rfl rfl rfl ?_
            refine aops_nil ?_
            refine then_n ?_
            refine ac_seq ?_
            rcases cb h with ⟨q11, h⟩ | ⟨q11, h⟩
            · refine ac_condT rfl q11 ?_
              refine ac_skip ?_
              refine then_n ?_
              refine ac_seq ?_
              refine ac_block ?_
              refine ac_seq ?_
              refine ac_region ?_
              refine aops_eff (eff_move rfl) rfl rfl rfl ?_
              refine aops_eff (eff_assign rfl) rfl rfl rfl ?_
              refine aops_nil ?_
              refine then_n ?_
              refine ac_region_draw MIXX ?_
              refine aops_eff (eff_move rfl) rfl rfl rfl ?_
              refine aops_eff (eff_move rfl) rfl rfl rfl ?_
              refine aops_eff (w_load_ptr TT_ok rfl rfl rfl rfl rfl rfl rfl) rfl rfl rfl ?_
              refine aops_eff (eff_move rfl) rfl rfl rfl ?_
              obtain ⟨v12, hv12, h⟩ := ob h
              refine aops_eff (AEff.pureE (eff_hasE (σ := sg [(0, 1)]) (σ' := sg [(1, 0)]) (touch := [1]) (news := []) (hl2 := [(1, ⟨1, List.map (ow eI) x3.1⟩)]) (n' := 4) (r2 := .own 1 (0 + (wr (y8 * v1.cols)).toNat) ((wr ((wr (y8 + 1)) * v1.cols)).toNat - (wr (y8 * v1.cols)).toNat)) (c_impl_Matrix_row (⟨v1.rows, v1.cols, x3.1⟩ : Mt) y8 v12 hv12) rfl rfl ⟨_, _, rfl, ⟨_, _, rfl, rfl, ⟨_, _, rfl, rfl, ⟨_, _, rfl, ⟨rfl, rfl, rfl, rfl⟩, rfl⟩⟩⟩, ⟨_, _, rfl, rfl, rfl⟩⟩ ⟨⟨_, rfl, rfl, .inl ⟨rfl, okI.plainO _⟩⟩, rfl, trivial⟩ rfl rfl rfl ⟨⟨_, rfl, rfl, .inl ⟨rfl, okI.plainO _⟩⟩, rfl, trivial⟩ rfl ⟨rfl, rfl, (by simp only [len_map, List.length_append, List.length_set, List.length_replicate, List.length_cons, List.length_nil]), rfl⟩ rfl ⟨rfl, okI.tame _ _, trivial⟩ rfl rfl) ⟨rfl, rfl, trivial⟩) rfl rfl rfl ?_
              refine aops_eff (eff_move rfl) rfl rfl rfl ?_
              refine aops_eff (w_load_ptr TT_ok rfl rfl rfl rfl rfl rfl rfl) rfl rfl rfl ?_
              refine aops_eff (eff_move rfl) rfl rfl rfl ?_
              obtain ⟨v13, hv13, h⟩ := ob h
              refine aops_eff (AEff.pureE (eff_hasE (σ := sg [(0, 1)]) (σ' := sg [(1, 0)]) (touch := [1]) (news := []) (hl2 := [(1, ⟨1, List.map (ow eI) x3.1⟩)]) (n' := 4) (r2 := .own 1 (0 + (wr (y8 * v1.cols)).toNat) ((wr ((wr (y8 + 1)) * v1.cols)).toNat - (wr (y8 * v1.cols)).toNat)) (c_impl_Matrix_row (⟨v1.rows, v1.cols, x3.1⟩ : Mt) y8 v13 hv13) rfl rfl ⟨_, _, rfl, ⟨_, _, rfl, rfl, ⟨_, _, rfl, rfl, ⟨_, _, rfl, ⟨rfl, rfl, rfl, rfl⟩, rfl⟩⟩⟩, ⟨_, _, rfl, rfl, rfl⟩⟩ ⟨⟨_, rfl, rfl, .inl ⟨rfl, okI.plainO _⟩⟩, rfl, trivial⟩ rfl rfl rfl ⟨⟨_, rfl, rfl, .inl ⟨rfl, okI.plainO _⟩⟩, rfl, trivial⟩ rfl ⟨rfl, rfl, (by simp only [len_map, List.length_append, List.length_set, List.length_replicate, List.length_cons, List.length_nil]), rfl⟩ rfl ⟨rfl, okI.tame _ _, trivial⟩ rfl rfl) ⟨rfl, rfl, trivial⟩) rfl rfl rfl ?_
              refine aops_eff (eff_move rfl) rfl rfl rfl ?_
              obtain ⟨q15, h⟩ := cg h
              obtain ⟨v14, hv14, h⟩ := ob h
              refine aops_eff (x_at_part TT_ok q15 rfl rfl rfl rfl rfl rfl rfl) rfl rfl rfl ?_
              refine aops_eff (w_load_ptr TT_ok rfl rfl rfl rfl (map_at (hv14)) rfl rfl) rfl rfl rfl ?_
              refine aops_eff (eff_move rfl) rfl rfl rfl ?_
              refine aops_eff (eff_move rfl) rfl rfl rfl ?_
              obtain ⟨q17, h⟩ := cg h
              obtain ⟨v16, hv16, h⟩ := ob h
              refine aops_eff (x_at_part TT_ok q17 rfl rfl rfl rfl rfl rfl rfl) rfl rfl rfl ?_
              refine aops_eff (w_load_ptr TT_ok rfl rfl rfl rfl (map_at (hv16)) rfl rfl) rfl rfl rfl ?_
              obtain ⟨q19, h⟩ := cg h
              obtain ⟨v18, hv18, h⟩ := ob h
              refine aops_eff (x_at_part TT_ok q19 rfl rfl rfl rfl rfl rfl rfl) rfl rfl rfl ?_
              refine aops_eff (x_store TT_ok okIo (u := v14) (hv18) rfl rfl rfl rfl rfl rfl) rfl rfl rfl ?_
              obtain ⟨q21, h⟩ := cg h
              obtain ⟨v20, hv20, h⟩ := ob h
              refine aops_eff (x_at_part TT_ok q21 rfl rfl rfl rfl rfl rfl rfl) rfl rfl rfl ?_
              refine aops_eff (x_store TT_ok okIo (u := v16) (hv20) rfl rfl rfl rfl rfl rfl) rfl rfl rfl ?_
              refine aops_nil ?_
              refine ⟨by kernel_rfl, ?_⟩
              refine block_n ?_
              refine then_n ?_
              refine ac_ent (t := mkS [(0, .int a0), (3, .ptr 0 0 0), (4, .ptr 2 0 0), (6, .own 3 0 x1.2.2.length), (7, .int x1.1), (8, .int y8), (9, .own 1 (0 + (wr (((x1.2.2.length : Nat) : Int) * v1.cols)).toNat) ((wr ((wr (((x1.2.2.length : Nat) : Int) + 1)) * v1.cols)).toNat - (wr (((x1.2.2.length : Nat) : Int) * v1.cols)).toNat)), (17, .int v1.cols), (18, .int x1.1), (47, .int v1.cols), (48, .int x3.2)] [(0, ⟨3, [[.int v1.rows, .int v1.cols, .own 1 0 (((x3.1.set ((0 + (wr (((x1.2.2.length : Nat) : Int) * v1.cols)).toNat) + x3.2.toNat) v14).set ((0 + (wr (y8 * v1.cols)).toNat) + x3.2.toNat) v16).length)]]⟩), (1, ⟨1, List.map (ow eI) ((x3.1.set ((0 + (wr (((x1.2.2.length : Nat) : Int) * v1.cols)).toNat) + x3.2.toNat) v14).set ((0 + (wr (y8 * v1.cols)).toNat) + x3.2.toNat) v16)⟩), (2, ⟨3, [[.int 0, .int 0, .nil 1]]⟩), (3, ⟨1, List.map (ow eI) x1.2.2⟩)] 4 [4, 5, 6, 7, 8, 9, 10, 11, 12, 13, 14, 15, 16, 17]) (ent_mk (σ := sg [(0, 0), (1, 1), (2, 2), (3, 3)]) ⟨⟨_, rfl, rfl⟩, ⟨_, rfl, ⟨rfl, rfl, rfl, rfl⟩⟩, ⟨_, rfl, ⟨rfl, rfl, rfl, rfl⟩⟩, ⟨_, rfl, ⟨rfl, rfl, rfl, rfl⟩⟩, ⟨_, rfl, rfl⟩, ⟨_, rfl, rfl⟩, ⟨_, rfl, ⟨rfl, rfl, rfl, rfl⟩⟩, ⟨_, rfl, rfl⟩, ⟨_, rfl, rfl⟩, ⟨_, rfl, rfl⟩, ⟨_, rfl, rfl⟩, trivial⟩ ⟨⟨_, rfl, rfl, .inr ⟨_, _, rfl, ⟨_, _, rfl, rfl, ⟨_, _, rfl, rfl, ⟨_, _, rfl, ⟨rfl, rfl, (by simp only [len_map, List.length_append, List.length_set, List.length_replicate, List.length_cons, List.length_nil]), rfl⟩, rfl⟩⟩⟩, rfl⟩⟩, rfl, ⟨_, rfl, rfl, .inl ⟨rfl, okI.plainO _⟩⟩, rfl, ⟨_, rfl, rfl, .inl ⟨rfl, plain_of rfl⟩⟩, rfl, ⟨_, rfl, rfl, .inl ⟨rfl, okI.plainO _⟩⟩, rfl, trivial⟩ rfl) ?_
              refine ac_region ?_
              refine aops_eff (x_add rfl rfl) rfl rfl rfl ?_
              refine aops_eff (eff_move rfl) rfl rfl rfl ?_
              refine aops_nil ?_
              refine then_n ?_
              obtain rfl := so h
              exact ⟨_, rfl, (ent_mk (σ := sg [(0, 0), (1, 1), (2, 2), (3, 3)]) ⟨⟨_, rfl, rfl⟩, ⟨_, rfl, ⟨rfl, rfl, rfl, rfl⟩⟩, ⟨_, rfl, ⟨rfl, rfl, rfl, rfl⟩⟩, ⟨_, rfl, ⟨rfl, rfl, rfl, rfl⟩⟩, ⟨_, rfl, rfl⟩, ⟨_, rfl, rfl⟩, ⟨_, rfl, ⟨rfl, rfl, rfl, rfl⟩⟩, ⟨_, rfl, rfl⟩, ⟨_, rfl, rfl⟩, ⟨_, rfl, rfl⟩, ⟨_, rfl, rfl⟩, trivial⟩ ⟨⟨_, rfl, rfl, .inr ⟨_, _, rfl, ⟨_, _, rfl, rfl, ⟨_, _, rfl, rfl, ⟨_, _, rfl, ⟨rfl, rfl, rfl, rfl⟩, rfl⟩⟩⟩, rfl⟩⟩, rfl, ⟨_, rfl, rfl, .inl ⟨rfl, okI.plainO _⟩⟩, rfl, ⟨_, rfl, rfl, .inl ⟨rfl, plain_of rfl⟩⟩, rfl, ⟨_, rfl, rfl, .inl ⟨rfl, okI.plainO _⟩⟩, rfl, trivial⟩ rfl)⟩
            · refine ac_condF rfl q11 ?_
              refine ac_exit ?_
              refine then_exit ?_
              refine then_exit ?_
              obtain rfl := so h
              exact ⟨_, rfl, rfl, (ent_mk (σ := sg [(0, 0), (1, 1), (2, 2), (3, 3)]) ⟨⟨_, rfl, rfl⟩, ⟨_, rfl, ⟨rfl, rfl, rfl, rfl⟩⟩, ⟨_, rfl, ⟨rfl, rfl, rfl, rfl⟩⟩, ⟨_, rfl, ⟨rfl, rfl, rfl, rfl⟩⟩, ⟨_, rfl, rfl⟩, ⟨_, rfl, ⟨rfl, rfl, rfl, rfl⟩⟩, ⟨_, rfl, rfl⟩, ⟨_, rfl, rfl⟩, trivial⟩ ⟨⟨_, rfl, rfl, .inr ⟨_, _, rfl, ⟨_, _, rfl, rfl, ⟨_, _, rfl, rfl, ⟨_, _, rfl, ⟨rfl, rfl, rfl, rfl⟩, rfl⟩⟩⟩, rfl⟩⟩, rfl, ⟨_, rfl, rfl, .inl ⟨rfl, okI.plainO _⟩⟩, rfl, ⟨_, rfl, rfl, .inl ⟨rfl, plain_of rfl⟩⟩, rfl, ⟨_, rfl, rfl, .inl ⟨rfl, okI.plainO _⟩⟩, rfl, trivial⟩ rfl)⟩
          · rintro e t ⟨rfl, hent⟩
            refine block_here ?_
            refine then_n ?_
            refine ac_ent hent ?_
            refine ac_seq ?_
            refine ac_region ?_
            refine aops_eff (eff_move rfl) rfl rfl rfl ?_
            refine aops_eff (eff_move rfl) rfl rfl rfl ?_
            refine aops_eff (eff_move rfl) rfl rfl rfl ?_
            obtain ⟨q24, h⟩ := cg h
            obtain ⟨v23, hv23, h⟩ := ob h
            refine aops_eff (x_at_part TT_ok q24 rfl rfl rfl rfl rfl rfl rfl) rfl rfl rfl ?_
            refine aops_eff (w_load_ptr TT_ok rfl rfl rfl rfl (map_at (hv23)) rfl rfl) rfl rfl rfl ?_
            obtain ⟨v25, hv25, h⟩ := ob h
            refine aops_eff (w_call0s (c_impl_InverseMod a0 v23 v25 hv25) rfl (va_cons (va_same rfl) (va_cons (va_same rfl) va_nil))) rfl rfl rfl ?_
            refine aops_eff (eff_assign rfl) rfl rfl rfl ?_
            refine aops_nil ?_
            refine then_n ?_
            refine ac_seq ?_
            refine ac_seq ?_
            refine ac_region ?_
            refine aops_eff (eff_move rfl) rfl rfl rfl ?_
            refine aops_eff (w_len_own TT_ok rfl rfl rfl rfl) rfl rfl rfl ?_
            refine aops_eff (eff_move rfl) rfl rfl rfl ?_
            refine aops_nil ?_
            refine then_n ?_
            refine ac_block ?_
            obtain ⟨y32, hy32, h⟩ := ob h
            refine ac_Lp (body := (m_impl_reduce_L4 a0 v1 v25 x1)) hy32 (fun (x4 : ((List Int) × Int)) => mkS [(0, .int a0), (3, .ptr 0 0 0), (4, .ptr 2 0 0), (6, .own 3 0 x1.2.2.length), (7, .int x1.1), (9, .own 1 (0 + (wr (((x1.2.2.length : Nat) : Int) * v1.cols)).toNat) ((wr ((wr (((x1.2.2.length : Nat) : Int) + 1)) * v1.cols)).toNat - (wr (((x1.2.2.length : Nat) : Int) * v1.cols)).toNat)), (11, .int v25), (17, .int v1.cols), (18, .int x1.1), (77, .int ((((wr ((wr (((x1.2.2.length : Nat) : Int) + 1)) * v1.cols)).toNat - (wr (((x1.2.2.length : Nat) : Int) * v1.cols)).toNat) : Nat) : Int)), (78, .int x4.2)] [(0, ⟨3, [[.int v1.rows, .int v1.cols, .own 1 0 x4.1.length]]⟩), (1, ⟨1, List.map (ow eI) x4.1⟩), (2, ⟨3, [[.int 0, .int 0, .nil 1]]⟩), (3, ⟨1, List.map (ow eI) x1.2.2⟩)] 4 [4, 5, 6, 7, 8, 9, 10, 11, 12, 13, 14, 15, 16, 17]) (fun r e t => e = .exit 6 ∧ Ent t (mkS [(0, .int a0), (3, .ptr 0 0 0), (4, .ptr 2 0 0), (6, .own 3 0 x1.2.2.length), (7, .int x1.1), (9, .own 1 (0 + (wr (((x1.2.2.length : Nat) : Int) * v1.cols)).toNat) ((wr ((wr (((x1.2.2.length : Nat) : Int) + 1)) * v1.cols)).toNat - (wr (((x1.2.2.length : Nat) : Int) * v1.cols)).toNat)), (17, .int v1.cols), (18, .int x1.1)] [(0, ⟨3, [[.int v1.rows, .int v1.cols, .own 1 0 r.length]]⟩), (1, ⟨1, List.map (ow eI) r⟩), (2, ⟨3, [[.int 0, .int 0, .nil 1]]⟩), (3, ⟨1, List.map (ow eI) x1.2.2⟩)] 4 [4, 5, 6, 7, 8, 9, 10, 11, 12, 13, 14, 15, 16, 17])) (ent_mk (σ := sg [(0, 0), (1, 1), (2, 2), (3, 3)]) ⟨⟨_, rfl, rfl⟩, ⟨_, rfl, ⟨rfl, rfl, rfl, rfl⟩⟩, ⟨_, rfl, ⟨rfl, rfl, rfl, rfl⟩⟩, ⟨_, rfl, ⟨rfl, rfl, rfl, rfl⟩⟩, ⟨_, rfl, rfl⟩, ⟨_, rfl, ⟨rfl, rfl, rfl, rfl⟩⟩, ⟨_, rfl, rfl⟩, ⟨_, rfl, rfl⟩, ⟨_, rfl, rfl⟩, ⟨_, rfl, rfl⟩, ⟨_, rfl, rfl⟩, trivial⟩ ⟨⟨_, rfl, rfl, .inr ⟨_, _, rfl, ⟨_, _, rfl, rfl, ⟨_, _, rfl, rfl, ⟨_, _, rfl, ⟨rfl, rfl, rfl, rfl⟩, rfl⟩⟩⟩, rfl⟩⟩, rfl, ⟨_, rfl, rfl, .inl ⟨rfl, okI.plainO _⟩⟩, rfl, ⟨_, rfl, rfl, .inl ⟨rfl, plain_of rfl⟩⟩, rfl, ⟨_, rfl, rfl, .inl ⟨rfl, okI.plainO _⟩⟩, rfl, trivial⟩ rfl) ?_ ?_
            · intro x4 o h
              refine ac_seq ?_
              refine ac_region ?_
              refine aops_eff (w_cmp rfl rfl rfl) rfl rfl rfl ?_
              refine aops_nil ?_
              refine then_n ?_
              refine ac_seq ?_
              rcases cb h with ⟨q26, h⟩ | ⟨q26, h⟩
              · refine ac_condT rfl q26 ?_
                refine ac_skip ?_
                refine then_n ?_
                refine ac_seq ?_
                refine ac_block ?_
                refine ac_seq ?_
                refine ac_region ?_
                refine aops_eff (eff_move rfl) rfl rfl rfl ?_
                refine aops_eff (eff_assign rfl) rfl rfl rfl ?_
                refine aops_nil ?_
                refine then_n ?_
                refine ac_region ?_
                refine aops_eff (eff_move rfl) rfl rfl rfl ?_
                refine aops_eff (eff_move rfl) rfl rfl rfl ?_
                refine aops_eff (eff_move rfl) rfl rfl rfl ?_
                refine aops_eff (eff_move rfl) rfl rfl rfl ?_
                obtain ⟨q28, h⟩ := cg h
                obtain ⟨v27, hv27, h⟩ := ob h
                refine aops_eff (x_at_part TT_ok q28 rfl rfl rfl rfl rfl rfl rfl) rfl rfl rfl ?_
                refine aops_eff (w_load_ptr TT_ok rfl rfl rfl rfl (map_at (hv27)) rfl rfl) rfl rfl rfl ?_
                refine aops_eff (eff_move rfl) rfl rfl rfl ?_
                refine aops_eff (x_mul rfl rfl) rfl rfl rfl ?_
                refine aops_eff (eff_move rfl) rfl rfl rfl ?_
                obtain ⟨q31, h⟩ := cg h
                refine aops_eff (x_rem rfl rfl q31) rfl rfl rfl ?_
                obtain ⟨q30, h⟩ := cg h
                obtain ⟨v29, hv29, h⟩ := ob h
                refine aops_eff (x_at_part TT_ok q30 rfl rfl rfl rfl rfl rfl rfl) rfl rfl rfl ?_
                refine aops_eff (x_store TT_ok okIo (u := (wr (v27 * v25)).tmod a0) (hv29) rfl rfl rfl rfl rfl rfl) rfl rfl rfl ?_
                refine aops_nil ?_
                refine block_n ?_
                refine then_n ?_
                refine ac_ent (t := mkS [(0, .int a0), (3, .ptr 0 0 0), (4, .ptr 2 0 0), (6, .own 3 0 x1.2.2.length), (7, .int x1.1), (9, .own 1 (0 + (wr (((x1.2.2.length : Nat) : Int) * v1.cols)).toNat) ((wr ((wr (((x1.2.2.length : Nat) : Int) + 1)) * v1.cols)).toNat - (wr (((x1.2.2.length : Nat) : Int) * v1.cols)).toNat)), (11, .int v25), (17, .int v1.cols), (18, .int x1.1), (77, .int ((((wr ((wr (((x1.2.2.length : Nat) : Int) + 1)) * v1.cols)).toNat - (wr (((x1.2.2.length : Nat) : Int) * v1.cols)).toNat) : Nat) : Int)), (78, .int x4.2)] [(0, ⟨3, [[.int v1.rows, .int v1.cols, .own 1 0 ((x4.1.set ((0 + (wr (((x1.2.2.length : Nat) : Int) * v1.cols)).toNat) + x4.2.toNat) ((wr (v27 * v25)).tmod a0)).length)]]⟩), (1, ⟨1, List.map (ow eI) (x4.1.set ((0 + (wr (((x1.2.2.length : Nat) : Int) * v1.cols)).toNat) + x4.2.toNat) ((wr (v27 * v25)).tmod a0))⟩), (2, ⟨3, [[.int 0, .int 0, .nil 1]]⟩), (3, ⟨1, List.map (ow eI) x1.2.2⟩)] 4 [4, 5, 6, 7, 8, 9, 10, 11, 12, 13, 14, 15, 16, 17]) (ent_mk (σ := sg [(0, 0), (1, 1), (2, 2), (3, 3)]) ⟨⟨_, rfl, rfl⟩, ⟨_, rfl, ⟨rfl, rfl, rfl, rfl⟩⟩, ⟨_, rfl, ⟨rfl, rfl, rfl, rfl⟩⟩, ⟨_, rfl, ⟨rfl, rfl, rfl, rfl⟩⟩, ⟨_, rfl, rfl⟩, ⟨_, rfl, ⟨rfl, rfl, rfl, rfl⟩⟩, ⟨_, rfl, rfl⟩, ⟨_, rfl, rfl⟩, ⟨_, rfl, rfl⟩, ⟨_, rfl, rfl⟩, ⟨_, rfl, rfl⟩, trivial⟩ ⟨⟨_, rfl, rfl, .inr ⟨_, _, rfl, ⟨_, _, rfl, rfl, ⟨_, _, rfl, rfl, ⟨_, _, rfl, ⟨rfl, rfl, (by simp only [len_map, List.length_append, List.length_set, List.length_replicate, List.length_cons, List.length_nil]), rfl⟩, rfl⟩⟩⟩, rfl⟩⟩, rfl, ⟨_, rfl, rfl, .inl ⟨rfl, okI.plainO _⟩⟩, rfl, ⟨_, rfl, rfl, .inl ⟨rfl, plain_of rfl⟩⟩, rfl, ⟨_, rfl, rfl, .inl ⟨rfl, okI.plainO _⟩⟩, rfl, trivial⟩ rfl) ?_
                refine ac_region ?_
                refine aops_eff (x_add rfl rfl) rfl rfl rfl ?_
                refine aops_eff (eff_move rfl) rfl rfl rfl ?_
                refine aops_nil ?_
                refine then_n ?_
                obtain rfl := so h
                exact ⟨_, rfl, (ent_mk (σ := sg [(0, 0), (1, 1), (2, 2), (3, 3)]) ⟨⟨_, rfl, rfl⟩, ⟨_, rfl, ⟨rfl, rfl, rfl, rfl⟩⟩, ⟨_, rfl, ⟨rfl, rfl, rfl, rfl⟩⟩, ⟨_, rfl, ⟨rfl, rfl, rfl, rfl⟩⟩, ⟨_, rfl, rfl⟩, ⟨_, rfl, ⟨rfl, rfl, rfl, rfl⟩⟩, ⟨_, rfl, rfl⟩, ⟨_, rfl, rfl⟩, ⟨_, rfl, rfl⟩, ⟨_, rfl, rfl⟩, ⟨_, rfl, rfl⟩, trivial⟩ ⟨⟨_, rfl, rfl, .inr ⟨_, _, rfl, ⟨_, _, rfl, rfl, ⟨_, _, rfl, rfl, ⟨_, _, rfl, ⟨rfl, rfl, rfl, rfl⟩, rfl⟩⟩⟩, rfl⟩⟩, rfl, ⟨_, rfl, rfl, .inl ⟨rfl, okI.plainO _⟩⟩, rfl, ⟨_, rfl, rfl, .inl ⟨rfl, plain_of rfl⟩⟩, rfl, ⟨_, rfl, rfl, .inl ⟨rfl, okI.plainO _⟩⟩, rfl, trivial⟩ rfl)⟩
              · refine ac_condF rfl q26 ?_
                refine ac_exit ?_
                refine then_exit ?_
                refine then_exit ?_
                obtain rfl := so h
                exact ⟨_, rfl, rfl, (ent_mk (σ := sg [(0, 0), (1, 1), (2, 2), (3, 3)]) ⟨⟨_, rfl, rfl⟩, ⟨_, rfl, ⟨rfl, rfl, rfl, rfl⟩⟩, ⟨_, rfl, ⟨rfl, rfl, rfl, rfl⟩⟩, ⟨_, rfl, ⟨rfl, rfl, rfl, rfl⟩⟩, ⟨_, rfl, rfl⟩, ⟨_, rfl, ⟨rfl, rfl, rfl, rfl⟩⟩, ⟨_, rfl, rfl⟩, ⟨_, rfl, rfl⟩, trivial⟩ ⟨⟨_, rfl, rfl, .inr ⟨_, _, rfl, ⟨_, _, rfl, rfl, ⟨_, _, rfl, rfl, ⟨_, _, rfl, ⟨rfl, rfl, rfl, rfl⟩, rfl⟩⟩⟩, rfl⟩⟩, rfl, ⟨_, rfl, rfl, .inl ⟨rfl, okI.plainO _⟩⟩, rfl, ⟨_, rfl, rfl, .inl ⟨rfl, plain_of rfl⟩⟩, rfl, ⟨_, rfl, rfl, .inl ⟨rfl, okI.plainO _⟩⟩, rfl, trivial⟩ rfl)⟩
            · rintro e t ⟨rfl, hent⟩
              refine block_here ?_
              refine then_n ?_
              refine ac_ent hent ?_
              refine ac_seq ?_
              refine ac_seq ?_
              refine ac_region ?_
              refine aops_eff (w_field_ptr TT_ok rfl rfl rfl rfl rfl rfl rfl) rfl rfl rfl ?_
              refine aops_eff (w_load_ptr TT_ok rfl rfl rfl rfl rfl rfl rfl) rfl rfl rfl ?_
              refine aops_eff (eff_move rfl) rfl rfl rfl ?_
              refine aops_nil ?_
              refine then_n ?_
              refine ac_block ?_
              obtain ⟨y41, hy41, h⟩ := ob h
              refine ac_Lp (body := (m_impl_reduce_L5 a0 v1 x1)) hy41 (fun (x5 : ((List Int) × Int)) => mkS [(0, .int a0), (3, .ptr 0 0 0), (4, .ptr 2 0 0), (6, .own 3 0 x1.2.2.length), (7, .int x1.1), (9, .own 1 (0 + (wr (((x1.2.2.length : Nat) : Int) * v1.cols)).toNat) ((wr ((wr (((x1.2.2.length : Nat) : Int) + 1)) * v1.cols)).toNat - (wr (((x1.2.2.length : Nat) : Int) * v1.cols)).toNat)), (17, .int v1.cols), (18, .int x1.1), (94, .int v1.rows), (95, .int x5.2)] [(0, ⟨3, [[.int v1.rows, .int v1.cols, .own 1 0 x5.1.length]]⟩), (1, ⟨1, List.map (ow eI) x5.1⟩), (2, ⟨3, [[.int 0, .int 0, .nil 1]]⟩), (3, ⟨1, List.map (ow eI) x1.2.2⟩)] 4 [4, 5, 6, 7, 8, 9, 10, 11, 12, 13, 14, 15, 16, 17]) (fun r e t => e = .exit 8 ∧ Ent t (mkS [(0, .int a0), (3, .ptr 0 0 0), (4, .ptr 2 0 0), (6, .own 3 0 x1.2.2.length), (7, .int x1.1), (17, .int v1.cols), (18, .int x1.1)] [(0, ⟨3, [[.int v1.rows, .int v1.cols, .own 1 0 r.length]]⟩), (1, ⟨1, List.map (ow eI) r⟩), (2, ⟨3, [[.int 0, .int 0, .nil 1]]⟩), (3, ⟨1, List.map (ow eI) x1.2.2⟩)] 4 [4, 5, 6, 7, 8, 9, 10, 11, 12, 13, 14, 15, 16, 17])) (ent_mk (σ := sg [(0, 0), (1, 1), (2, 2), (3, 3)]) ⟨⟨_, rfl, rfl⟩, ⟨_, rfl, ⟨rfl, rfl, rfl, rfl⟩⟩, ⟨_, rfl, ⟨rfl, rfl, rfl, rfl⟩⟩, ⟨_, rfl, ⟨rfl, rfl, rfl, rfl⟩⟩, ⟨_, rfl, rfl⟩, ⟨_, rfl, ⟨rfl, rfl, rfl, rfl⟩⟩, ⟨_, rfl, rfl⟩, ⟨_, rfl, rfl⟩, ⟨_, rfl, rfl⟩, ⟨_, rfl, rfl⟩, trivial⟩ ⟨⟨_, rfl, rfl, .inr ⟨_, _, rfl, ⟨_, _, rfl, rfl, ⟨_, _, rfl, rfl, ⟨_, _, rfl, ⟨rfl, rfl, rfl, rfl⟩, rfl⟩⟩⟩, rfl⟩⟩, rfl, ⟨_, rfl, rfl, .inl ⟨rfl, okI.plainO _⟩⟩, rfl, ⟨_, rfl, rfl, .inl ⟨rfl, plain_of rfl⟩⟩, rfl, ⟨_, rfl, rfl, .inl ⟨rfl, okI.plainO _⟩⟩, rfl, trivial⟩ rfl) ?_ ?_
              · intro x5 o h
                refine ac_seq ?_
                refine ac_region ?_
                refine aops_eff (w_cmp rfl rfl rfl) rfl rfl rfl ?_
                refine aops_nil ?_
                refine then_n ?_
                refine ac_seq ?_
                rcases cb h with ⟨q33, h⟩ | ⟨q33, h⟩
                · refine ac_condT rfl q33 ?_
                  refine ac_skip ?_
                  refine then_n ?_
                  refine ac_seq ?_
                  refine ac_block ?_
                  refine ac_seq ?_
                  refine ac_region ?_
                  refine aops_eff (eff_move rfl) rfl rfl rfl ?_
                  refine aops_eff (eff_assign rfl) rfl rfl rfl ?_
                  refine aops_nil ?_
                  refine then_n ?_
                  refine ac_seq ?_
                  refine ac_region ?_
                  refine aops_eff (eff_move rfl) rfl rfl rfl ?_
                  refine aops_eff (eff_move rfl) rfl rfl rfl ?_
                  refine aops_eff (w_len_own TT_ok rfl rfl rfl rfl) rfl rfl rfl ?_
                  refine aops_eff (w_cmp rfl rfl rfl) rfl rfl rfl ?_
                  refine aops_nil ?_
                  refine then_n ?_
                  rcases cb h with ⟨q34, h⟩ | ⟨q34, h⟩
                  · refine ac_condT rfl q34 ?_
                    refine ac_region_draw MIXX ?_
                    refine aops_eff (eff_move rfl) rfl rfl rfl ?_
                    refine aops_eff (w_load_ptr TT_ok rfl rfl rfl rfl rfl rfl rfl) rfl rfl rfl ?_
                    refine aops_eff (eff_move rfl) rfl rfl rfl ?_
                    obtain ⟨v35, hv35, h⟩ := ob h
                    refine aops_eff (AEff.pureE (eff_hasE (σ := sg [(0, 1)]) (σ' := sg [(1, 0)]) (touch := [1]) (news := []) (hl2 := [(1, ⟨1, List.map (ow eI) x5.1⟩)]) (n' := 4) (r2 := .own 1 (0 + (wr (x5.2 * v1.cols)).toNat) ((wr ((wr (x5.2 + 1)) * v1.cols)).toNat - (wr (x5.2 * v1.cols)).toNat)) (c_impl_Matrix_row (⟨v1.rows, v1.cols, x5.1⟩ : Mt) x5.2 v35 hv35) rfl rfl ⟨_, _, rfl, ⟨_, _, rfl, rfl, ⟨_, _, rfl, rfl, ⟨_, _, rfl, ⟨rfl, rfl, rfl, rfl⟩, rfl⟩⟩⟩, ⟨_, _, rfl, rfl, rfl⟩⟩ ⟨⟨_, rfl, rfl, .inl ⟨rfl, okI.plainO _⟩⟩, rfl, trivial⟩ rfl rfl rfl ⟨⟨_, rfl, rfl, .inl ⟨rfl, okI.plainO _⟩⟩, rfl, trivial⟩ rfl ⟨rfl, rfl, (by simp only [len_map, List.length_append, List.length_set, List.length_replicate, List.length_cons, List.length_nil]), rfl⟩ rfl ⟨rfl, okI.tame _ _, trivial⟩ rfl rfl) ⟨rfl, rfl, trivial⟩) rfl rfl rfl ?_
                    refine aops_eff (eff_move rfl) rfl rfl rfl ?_
                    refine aops_eff (w_load_ptr TT_ok rfl rfl rfl rfl rfl rfl rfl) rfl rfl rfl ?_
                    refine aops_eff (eff_move rfl) rfl rfl rfl ?_
                    obtain ⟨v36, hv36, h⟩ := ob h
                    refine aops_eff (AEff.pureE (eff_hasE (σ := sg [(0, 1)]) (σ' := sg [(1, 0)]) (touch := [1]) (news := []) (hl2 := [(1, ⟨1, List.map (ow eI) x5.1⟩)]) (n' := 4) (r2 := .own 1 (0 + (wr (x5.2 * v1.cols)).toNat) ((wr ((wr (x5.2 + 1)) * v1.cols)).toNat - (wr (x5.2 * v1.cols)).toNat)) (c_impl_Matrix_row (⟨v1.rows, v1.cols, x5.1⟩ : Mt) x5.2 v36 hv36) rfl rfl ⟨_, _, rfl, ⟨_, _, rfl, rfl, ⟨_, _, rfl, rfl, ⟨_, _, rfl, ⟨rfl, rfl, rfl, rfl⟩, rfl⟩⟩⟩, ⟨_, _, rfl, rfl, rfl⟩⟩ ⟨⟨_, rfl, rfl, .inl ⟨rfl, okI.plainO _⟩⟩, rfl, trivial⟩ rfl rfl rfl ⟨⟨_, rfl, rfl, .inl ⟨rfl, okI.plainO _⟩⟩, rfl, trivial⟩ rfl ⟨rfl, rfl, (by simp only [len_map, List.length_append, List.length_set, List.length_replicate, List.length_cons, List.length_nil]), rfl⟩ rfl ⟨rfl, okI.tame _ _, trivial⟩ rfl rfl) ⟨rfl, rfl, trivial⟩) rfl rfl rfl ?_
                    refine aops_eff (eff_move rfl) rfl rfl rfl ?_
                    obtain ⟨q38, h⟩ := cg h
                    obtain ⟨v37, hv37, h⟩ := ob h
                    refine aops_eff (x_at_part TT_ok q38 rfl rfl rfl rfl rfl rfl rfl) rfl rfl rfl ?_
                    refine aops_eff (w_load_ptr TT_ok rfl rfl rfl rfl (map_at (hv37)) rfl rfl) rfl rfl rfl ?_
                    refine aops_eff (x_sub rfl rfl) rfl rfl rfl ?_
                    refine aops_eff (eff_move rfl) rfl rfl rfl ?_
                    obtain ⟨v39, hv39, h⟩ := ob h
                    refine aops_eff (eff_hasE (σ := sg [(0, 1)]) (σ' := sg [(1, 0)]) (touch := [1]) (news := []) (hl2 := [(1, ⟨1, List.map (ow eI) v39⟩)]) (n' := 4) (r2 := .own 1 (0 + (wr (x5.2 * v1.cols)).toNat) ((wr ((wr (x5.2 + 1)) * v1.cols)).toNat - (wr (x5.2 * v1.cols)).toNat)) (c_impl_addMultiple_same a0 x5.1 (0 + (wr (x5.2 * v1.cols)).toNat) ((wr ((wr (x5.2 + 1)) * v1.cols)).toNat - (wr (x5.2 * v1.cols)).toNat) (wr (a0 - v37)) (0 + (wr (((x1.2.2.length : Nat) : Int) * v1.cols)).toNat) ((wr ((wr (((x1.2.2.length : Nat) : Int) + 1)) * v1.cols)).toNat - (wr (((x1.2.2.length : Nat) : Int) * v1.cols)).toNat) v39 hv39) rfl rfl ⟨_, _, rfl, rfl, ⟨_, _, rfl, ⟨rfl, rfl, rfl, rfl⟩, ⟨_, _, rfl, rfl, ⟨_, _, rfl, ⟨rfl, rfl, rfl, rfl⟩, rfl⟩⟩⟩⟩ ⟨⟨_, rfl, rfl, .inl ⟨rfl, okI.plainO _⟩⟩, rfl, trivial⟩ rfl rfl rfl ⟨⟨_, rfl, rfl, .inl ⟨rfl, okI.plainO _⟩⟩, rfl, trivial⟩ rfl ⟨rfl, rfl, (by simp only [len_map, List.length_append, List.length_set, List.length_replicate, List.length_cons, List.length_nil]), rfl⟩ rfl ⟨rfl, okI.tame _ _, trivial⟩ rfl rfl) rfl rfl rfl ?_
                    obtain ⟨q40, h⟩ := cg h
                    refine aops_nil ?_
                    refine ⟨by kernel_rfl, ?_⟩
                    refine block_n ?_
                    refine then_n ?_
                    refine ac_ent (t := mkS [(0, .int a0), (3, .ptr 0 0 0), (4, .ptr 2 0 0), (6, .own 3 0 x1.2.2.length), (7, .int x1.1), (9, .own 1 (0 + (wr (((x1.2.2.length : Nat) : Int) * v1.cols)).toNat) ((wr ((wr (((x1.2.2.length : Nat) : Int) + 1)) * v1.cols)).toNat - (wr (((x1.2.2.length : Nat) : Int) * v1.cols)).toNat)), (17, .int v1.cols), (18, .int x1.1), (94, .int v1.rows), (95, .int x5.2)] [(0, ⟨3, [[.int v1.rows, .int v1.cols, .own 1 0 v39.length]]⟩), (1, ⟨1, List.map (ow eI) v39⟩), (2, ⟨3, [[.int 0, .int 0, .nil 1]]⟩), (3, ⟨1, List.map (ow eI) x1.2.2⟩)] 4 [4, 5, 6, 7, 8, 9, 10, 11, 12, 13, 14, 15, 16, 17]) (ent_mk (σ := sg [(0, 0), (1, 1), (2, 2), (3, 3)]) ⟨⟨_, rfl, rfl⟩, ⟨_, rfl, ⟨rfl, rfl, rfl, rfl⟩⟩, ⟨_, rfl, ⟨rfl, rfl, rfl, rfl⟩⟩, ⟨_, rfl, ⟨rfl, rfl, rfl, rfl⟩⟩, ⟨_, rfl, rfl⟩, ⟨_, rfl, ⟨rfl, rfl, rfl, rfl⟩⟩, ⟨_, rfl, rfl⟩, ⟨_, rfl, rfl⟩, ⟨_, rfl, rfl⟩, ⟨_, rfl, rfl⟩, trivial⟩ ⟨⟨_, rfl, rfl, .inr ⟨_, _, rfl, ⟨_, _, rfl, rfl, ⟨_, _, rfl, rfl, ⟨_, _, rfl, ⟨rfl, rfl, (by simp only [len_map, List.length_append, List.length_set, List.length_replicate, List.length_cons, List.length_nil, of_decide_eq_true q40]), rfl⟩, rfl⟩⟩⟩, rfl⟩⟩, rfl, ⟨_, rfl, rfl, .inl ⟨rfl, okI.plainO _⟩⟩, rfl, ⟨_, rfl, rfl, .inl ⟨rfl, plain_of rfl⟩⟩, rfl, ⟨_, rfl, rfl, .inl ⟨rfl, okI.plainO _⟩⟩, rfl, trivial⟩ rfl) ?_
                    refine ac_region ?_
                    refine aops_eff (x_add rfl rfl) rfl rfl rfl ?_
                    refine aops_eff (eff_move rfl) rfl rfl rfl ?_
                    refine aops_nil ?_
                    refine then_n ?_
                    obtain rfl := so h
                    exact ⟨_, rfl, (ent_mk (σ := sg [(0, 0), (1, 1), (2, 2), (3, 3)]) ⟨⟨_, rfl, rfl⟩, ⟨_, rfl, ⟨rfl, rfl, rfl, rfl⟩⟩, ⟨_, rfl, ⟨rfl, rfl, rfl, rfl⟩⟩, ⟨_, rfl, ⟨rfl, rfl, rfl, rfl⟩⟩, ⟨_, rfl, rfl⟩, ⟨_, rfl, ⟨rfl, rfl, rfl, rfl⟩⟩, ⟨_, rfl, rfl⟩, ⟨_, rfl, rfl⟩, ⟨_, rfl, rfl⟩, ⟨_, rfl, rfl⟩, trivial⟩ ⟨⟨_, rfl, rfl, .inr ⟨_, _, rfl, ⟨_, _, rfl, rfl, ⟨_, _, rfl, rfl, ⟨_, _, rfl, ⟨rfl, rfl, rfl, rfl⟩, rfl⟩⟩⟩, rfl⟩⟩, rfl, ⟨_, rfl, rfl, .inl ⟨rfl, okI.plainO _⟩⟩, rfl, ⟨_, rfl, rfl, .inl ⟨rfl, plain_of rfl⟩⟩, rfl, ⟨_, rfl, rfl, .inl ⟨rfl, okI.plainO _⟩⟩, rfl, trivial⟩ rfl)⟩
                  · refine ac_condF rfl q34 ?_
                    refine ac_skip ?_
                    refine block_n ?_
                    refine then_n ?_
                    refine ac_region ?_
                    refine aops_eff (x_add rfl rfl) rfl rfl rfl ?_
                    refine aops_eff (eff_move rfl) rfl rfl rfl ?_
                    refine aops_nil ?_
                    refine then_n ?_
                    obtain rfl := so h
                    exact ⟨_, rfl, (ent_mk (σ := sg [(0, 0), (1, 1), (2, 2), (3, 3)]) ⟨⟨_, rfl, rfl⟩, ⟨_, rfl, ⟨rfl, rfl, rfl, rfl⟩⟩, ⟨_, rfl, ⟨rfl, rfl, rfl, rfl⟩⟩, ⟨_, rfl, ⟨rfl, rfl, rfl, rfl⟩⟩, ⟨_, rfl, rfl⟩, ⟨_, rfl, ⟨rfl, rfl, rfl, rfl⟩⟩, ⟨_, rfl, rfl⟩, ⟨_, rfl, rfl⟩, ⟨_, rfl, rfl⟩, ⟨_, rfl, rfl⟩, trivial⟩ ⟨⟨_, rfl, rfl, .inr ⟨_, _, rfl, ⟨_, _, rfl, rfl, ⟨_, _, rfl, rfl, ⟨_, _, rfl, ⟨rfl, rfl, rfl, rfl⟩, rfl⟩⟩⟩, rfl⟩⟩, rfl, ⟨_, rfl, rfl, .inl ⟨rfl, okI.plainO _⟩⟩, rfl, ⟨_, rfl, rfl, .inl ⟨rfl, plain_of rfl⟩⟩, rfl, ⟨_, rfl, rfl, .inl ⟨rfl, okI.plainO _⟩⟩, rfl, trivial⟩ rfl)⟩
                · refine ac_condF rfl q33 ?_
                  refine ac_exit ?_
                  refine then_exit ?_
                  refine then_exit ?_
                  obtain rfl := so h
                  exact ⟨_, rfl, rfl, (ent_mk (σ := sg [(0, 0), (1, 1), (2, 2), (3, 3)]) ⟨⟨_, rfl, rfl⟩, ⟨_, rfl, ⟨rfl, rfl, rfl, rfl⟩⟩, ⟨_, rfl, ⟨rfl, rfl, rfl, rfl⟩⟩, ⟨_, rfl, ⟨rfl, rfl, rfl, rfl⟩⟩, ⟨_, rfl, rfl⟩, ⟨_, rfl, rfl⟩, ⟨_, rfl, rfl⟩, trivial⟩ ⟨⟨_, rfl, rfl, .inr ⟨_, _, rfl, ⟨_, _, rfl, rfl, ⟨_, _, rfl, rfl, ⟨_, _, rfl, ⟨rfl, rfl, rfl, rfl⟩, rfl⟩⟩⟩, rfl⟩⟩, rfl, ⟨_, rfl, rfl, .inl ⟨rfl, okI.plainO _⟩⟩, rfl, ⟨_, rfl, rfl, .inl ⟨rfl, plain_of rfl⟩⟩, rfl, ⟨_, rfl, rfl, .inl ⟨rfl, okI.plainO _⟩⟩, rfl, trivial⟩ rfl)⟩
              · rintro e t ⟨rfl, hent⟩
                refine block_here ?_
                refine then_n ?_
                refine ac_ent hent ?_
                refine ac_region ?_
                refine aops_eff (eff_move rfl) rfl rfl rfl ?_
                refine aops_eff (eff_move rfl) rfl rfl rfl ?_
                refine aops_eff (w_lit TT_ok rfl rfl rfl rfl rfl rfl rfl rfl rfl rfl rfl rfl) rfl rfl rfl ?_
                obtain ⟨q42, h⟩ := cg h
                refine aops_eff (x_app TT_ok (l := x1.2.2) (m := [x1.1]) okIo q42 rfl rfl rfl rfl rfl rfl rfl rfl rfl rfl rfl rfl) rfl rfl rfl ?_
                refine aops_eff (eff_assign rfl) rfl rfl rfl ?_
                refine aops_nil ?_
                refine block_n ?_
                refine then_n ?_
                refine ac_region ?_
                refine aops_eff (x_add rfl rfl) rfl rfl rfl ?_
                refine aops_eff (eff_move rfl) rfl rfl rfl ?_
                refine aops_nil ?_
                refine then_n ?_
                obtain rfl := so h
                exact ⟨_, rfl, (ent_mk (σ := sg [(0, 0), (1, 1), (2, 2), (3, 5)]) ⟨⟨_, rfl, rfl⟩, ⟨_, rfl, ⟨rfl, rfl, rfl, rfl⟩⟩, ⟨_, rfl, ⟨rfl, rfl, rfl, rfl⟩⟩, ⟨_, rfl, ⟨rfl, rfl, rfl, rfl⟩⟩, ⟨_, rfl, rfl⟩, ⟨_, rfl, rfl⟩, trivial⟩ ⟨⟨_, rfl, rfl, .inr ⟨_, _, rfl, ⟨_, _, rfl, rfl, ⟨_, _, rfl, rfl, ⟨_, _, rfl, ⟨rfl, rfl, rfl, rfl⟩, rfl⟩⟩⟩, rfl⟩⟩, rfl, ⟨_, rfl, rfl, .inl ⟨rfl, okI.plainO _⟩⟩, rfl, ⟨_, rfl, rfl, .inl ⟨rfl, plain_of rfl⟩⟩, rfl, ⟨_, rfl, rfl, .inl ⟨rfl, okI.plainO _⟩⟩, rfl, trivial⟩ rfl)⟩
    · refine ac_condF rfl q2 ?_
      refine ac_exit ?_
      refine then_exit ?_
      refine then_exit ?_
      obtain rfl := so h
      exact ⟨_, rfl, rfl, (ent_mk (σ := sg [(0, 0), (1, 1), (2, 2), (3, 3)]) ⟨⟨_, rfl, ⟨rfl, rfl, rfl, rfl⟩⟩, ⟨_, rfl, ⟨rfl, rfl, rfl, rfl⟩⟩, ⟨_, rfl, ⟨rfl, rfl, rfl, rfl⟩⟩, trivial⟩ ⟨⟨_, rfl, rfl, .inr ⟨_, _, rfl, ⟨_, _, rfl, rfl, ⟨_, _, rfl, rfl, ⟨_, _, rfl, ⟨rfl, rfl, rfl, rfl⟩, rfl⟩⟩⟩, rfl⟩⟩, rfl, ⟨_, rfl, rfl, .inl ⟨rfl, okI.plainO _⟩⟩, rfl, ⟨_, rfl, rfl, .inl ⟨rfl, plain_of rfl⟩⟩, rfl, ⟨_, rfl, rfl, .inl ⟨rfl, okI.plainO _⟩⟩, rfl, trivial⟩ rfl)⟩
  · rintro e t ⟨rfl, hent⟩
    refine block_here ?_
    refine then_n ?_
    refine ac_ent hent ?_
    refine ac_seq ?_
    refine ac_region ?_
    refine aops_eff (w_load_ptr TT_ok rfl rfl rfl rfl rfl rfl rfl) rfl rfl rfl ?_
    refine aops_eff (eff_move rfl) rfl rfl rfl ?_
    refine aops_eff (w_store TT_ok rfl rfl rfl rfl rfl rfl rfl rfl) rfl rfl rfl ?_
    refine aops_eff (eff_assign rfl) rfl rfl rfl ?_
    refine aops_nil ?_
    refine then_n ?_
    refine ac_ret ?_
    obtain rfl := so h
    exact ret_mk rfl rfl rfl (xz_tuple rfl (xB_cons (xB_agg (x1_cons (rfl) (x1_cons (rfl) (x1_cons (x_f1 okI rfl rfl) x1_nil)))) (xB_cons (xB_one (x_f1 okI rfl rfl)) xB_nil)))

noncomputable def m_impl_rank (a0 : Int) (a1 : Mt) : Option Int :=
  Option.bind (m_impl_reduce a0 a1) fun v1 =>
  some (((v1.2.length : Nat) : Int))

theorem c_impl_rank (a0 : Int) (a1 : Mt) (r : Int) (h : m_impl_rank a0 a1 = some r) : HasC Try.prog 99 [.int a0, .agg (eM a1)] (.int r) := by
  refine hasC_mk TT_ok (rvs := [.tmp 4]) (ns := [0, 1, 2, 3, 4, 5, 6, 7, 8, 9, 10, 11, 12, 13]) Try.func99 rfl rfl Try.ntmps99 rfl rfl rfl ?_
  refine ac_seq ?_
  refine ac_region ?_
  refine aops_eff (w_box rfl rfl rfl rfl) rfl rfl rfl ?_
  refine aops_eff (eff_assign rfl) rfl rfl rfl ?_
  refine aops_nil ?_
  refine then_n ?_
  refine ac_seq ?_
  refine ac_region ?_
  refine aops_eff (eff_move rfl) rfl rfl rfl ?_
  refine aops_eff (w_load_ptr TT_ok rfl rfl rfl rfl rfl rfl rfl) rfl rfl rfl ?_
  obtain ⟨v1, hv1, h⟩ := ob h
  refine aops_eff (AEff.conv (w_call0 (x := .tuple [.agg [.int v1.1.rows, .int v1.1.cols, .own 1 0 (List.map eI v1.1.cells).length], .own 2 0 (List.map eI v1.2).length]) (nb := [(1, ⟨1, absEs (List.map eI v1.1.cells)⟩), (2, ⟨1, absEs (List.map eI v1.2)⟩)]) (c_impl_reduce a0 a1 v1 hv1) rfl (by rfl) rfl rfl (gB_cons (g1_cons trivial (g1_cons trivial (g1_cons (okI.good _) g1_nil))) (gB_cons (okI.good _) gB_nil)) (va_cons (va_same rfl) (va_cons (va_agg' (v1_cons (v1_same rfl) (v1_cons (v1_same rfl) (v1_cons (v1_same rfl) v1_nil)))) va_nil))) (v' := .tuple [.agg [.int v1.1.rows, .int v1.1.cols, .own 1 0 v1.1.cells.length], .own 2 0 v1.2.length]) (ed' := [(1, some ⟨1, List.map (ow eI) v1.1.cells⟩), (2, some ⟨1, List.map (ow eI) v1.2⟩)]) (by simp only [len_map]) (ed_ok (nb' := [(1, ⟨1, List.map (ow eI) v1.1.cells⟩), (2, ⟨1, List.map (ow eI) v1.2⟩)]) (by simp only [abs_map]))) rfl rfl rfl ?_
  refine aops_eff (eff_move rfl) rfl rfl rfl ?_
  refine aops_eff (eff_extract rfl rfl (by intro _ h; cases h)) rfl rfl rfl ?_
  refine aops_eff (eff_extract rfl rfl (by intro _ h; cases h)) rfl rfl rfl ?_
  refine aops_eff (w_alloc TT_ok rfl rfl) rfl rfl rfl ?_
  refine aops_eff (w_store TT_ok rfl rfl rfl rfl rfl rfl rfl rfl) rfl rfl rfl ?_
  refine aops_eff (eff_assign rfl) rfl rfl rfl ?_
  refine aops_nil ?_
  refine then_n ?_
  refine ac_seq ?_
  refine ac_region ?_
  refine aops_eff (eff_move rfl) rfl rfl rfl ?_
  refine aops_eff (w_len_own TT_ok rfl rfl rfl rfl) rfl rfl rfl ?_
  refine aops_eff (eff_assign rfl) rfl rfl rfl ?_
  refine aops_nil ?_
  refine then_n ?_
  refine ac_ent (t := mkS [(4, .int ((v1.2.length : Nat) : Int))] [] 4 [4, 5, 6, 7, 8, 9, 10, 11, 12, 13, 14, 15, 16, 17]) (ent_mk (σ := sg []) ⟨⟨_, rfl, rfl⟩, trivial⟩ trivial rfl) ?_
  refine ac_ret ?_
  obtain rfl := so h
  exact ret_mk rfl rfl rfl (fz_int rfl)

noncomputable def m_impl_fit (a0 : Rp) (a1 : Rp) : Option Bool :=
  Option.bind (m_impl_IsRep a0) fun v1 =>
  bif v1 then
    (Option.bind (m_impl_IsRep a1) fun v3 =>
    bif v3 then
      (bif decide (a0.p = a1.p) then
        (Option.bind (m_impl_EqualQuivers a0.q a1.q) fun v6 =>
        some (v6))
      else
        (some (false)))
    else
      (some (false)))
  else
    (some (false))

theorem c_impl_fit (a0 : Rp) (a1 : Rp) (r : Bool) (h : m_impl_fit a0 a1 = some r) : HasC Try.prog 63 [.agg (eR a0), .agg (eR a1)] (.bl r) := by
  refine hasC_mk TT_ok (rvs := [.tmp 4]) (ns := [0, 1, 2, 3, 4, 5, 6, 7, 8, 9, 10, 11, 12, 13]) Try.func63 rfl rfl Try.ntmps63 rfl rfl rfl ?_
  refine ac_seq ?_
  refine ac_region ?_
  refine aops_eff (w_box rfl rfl rfl rfl) rfl rfl rfl ?_
  refine aops_eff (w_box rfl rfl rfl rfl) rfl rfl rfl ?_
  refine aops_eff (eff_assign rfl) rfl rfl rfl ?_
  refine aops_nil ?_
  refine then_n ?_
  refine ac_seq ?_
  refine ac_region ?_
  refine aops_eff (w_load_ptr TT_ok rfl rfl rfl rfl rfl rfl rfl) rfl rfl rfl ?_
  obtain ⟨v1, hv1, h⟩ := ob h
  refine aops_eff (w_call0s (c_impl_IsRep a0 v1 hv1) rfl (va_cons (va_agg' (v1_cons (v1_same rfl) (v1_cons (v1_same rfl) (v1_cons (v1_same rfl) (v1_cons (v1_same rfl) (v1_cons (v1_same rfl) (v1_cons (v1_same rfl) v1_nil))))))) va_nil)) rfl rfl rfl ?_
  refine aops_eff (eff_move rfl) rfl rfl rfl ?_
  rcases cb h with ⟨q2, h⟩ | ⟨q2, h⟩
  · refine aops_lit 7 rfl q2 ?_
    refine aops_eff (w_load_ptr TT_ok rfl rfl rfl rfl rfl rfl rfl) rfl rfl rfl ?_
    obtain ⟨v3, hv3, h⟩ := ob h
    refine aops_eff (w_call0s (c_impl_IsRep a1 v3 hv3) rfl (va_cons (va_agg' (v1_cons (v1_same rfl) (v1_cons (v1_same rfl) (v1_cons (v1_same rfl) (v1_cons (v1_same rfl) (v1_cons (v1_same rfl) (v1_cons (v1_same rfl) v1_nil))))))) va_nil)) rfl rfl rfl ?_
    refine aops_eff (eff_pick rfl rfl) rfl rfl rfl ?_
    refine aops_eff (eff_move rfl) rfl rfl rfl ?_
    rcases cb h with ⟨q4, h⟩ | ⟨q4, h⟩
    · refine aops_lit 11 rfl q4 ?_
      refine aops_eff (w_field_ptr TT_ok rfl rfl rfl rfl rfl rfl rfl) rfl rfl rfl ?_
      refine aops_eff (w_load_ptr TT_ok rfl rfl rfl rfl rfl rfl rfl) rfl rfl rfl ?_
      refine aops_eff (w_field_ptr TT_ok rfl rfl rfl rfl rfl rfl rfl) rfl rfl rfl ?_
      refine aops_eff (w_load_ptr TT_ok rfl rfl rfl rfl rfl rfl rfl) rfl rfl rfl ?_
      refine aops_eff (w_cmp rfl rfl rfl) rfl rfl rfl ?_
      refine aops_eff (eff_pick rfl rfl) rfl rfl rfl ?_
      refine aops_eff (eff_move rfl) rfl rfl rfl ?_
      rcases cb h with ⟨q5, h⟩ | ⟨q5, h⟩
      · refine aops_lit 18 rfl q5 ?_
        refine aops_eff (w_field_ptr TT_ok rfl rfl rfl rfl rfl rfl rfl) rfl rfl rfl ?_
        refine aops_eff (w_load_ptr TT_ok rfl rfl rfl rfl rfl rfl rfl) rfl rfl rfl ?_
        refine aops_eff (w_field_ptr TT_ok rfl rfl rfl rfl rfl rfl rfl) rfl rfl rfl ?_
        refine aops_eff (w_load_ptr TT_ok rfl rfl rfl rfl rfl rfl rfl) rfl rfl rfl ?_
        obtain ⟨v6, hv6, h⟩ := ob h
        refine aops_eff (w_call0s (c_impl_EqualQuivers a0.q a1.q v6 hv6) rfl (va_cons (va_agg' (v1_cons (v1_same rfl) (v1_cons (v1_same rfl) (v1_cons (v1_same rfl) v1_nil)))) (va_cons (va_agg' (v1_cons (v1_same rfl) (v1_cons (v1_same rfl) (v1_cons (v1_same rfl) v1_nil)))) va_nil))) rfl rfl rfl ?_
        refine aops_eff (eff_pick rfl rfl) rfl rfl rfl ?_
        refine aops_eff (eff_assign rfl) rfl rfl rfl ?_
        refine aops_nil ?_
        refine then_n ?_
        refine ac_ent (t := mkS [(4, .bl v6)] [] 2 [2, 3, 4, 5, 6, 7, 8, 9, 10, 11, 12, 13, 14, 15]) (ent_mk (σ := sg []) ⟨⟨_, rfl, rfl⟩, trivial⟩ trivial rfl) ?_
        refine ac_ret ?_
        obtain rfl := so h
        exact ret_mk rfl rfl rfl (fz_bl rfl)
      · refine aops_lit 18 rfl q5 ?_
        refine aops_skip rfl rfl ?_
        refine aops_skip rfl rfl ?_
        refine aops_skip rfl rfl ?_
        refine aops_skip rfl rfl ?_
        refine aops_skip rfl rfl ?_
        refine aops_eff (eff_pick rfl rfl) rfl rfl rfl ?_
        refine aops_eff (eff_assign rfl) rfl rfl rfl ?_
        refine aops_nil ?_
        refine then_n ?_
        refine ac_ent (t := mkS [(4, .bl false)] [] 2 [2, 3, 4, 5, 6, 7, 8, 9, 10, 11, 12, 13, 14, 15]) (ent_mk (σ := sg []) ⟨⟨_, rfl, rfl⟩, trivial⟩ trivial rfl) ?_
        refine ac_ret ?_
        obtain rfl := so h
        exact ret_mk rfl rfl rfl (fz_bl rfl)
    · refine aops_lit 11 rfl q4 ?_
      refine aops_skip rfl rfl ?_
      refine aops_skip rfl rfl ?_
      refine aops_skip rfl rfl ?_
      refine aops_skip rfl rfl ?_
      refine aops_skip rfl rfl ?_
      refine aops_eff (eff_pick rfl rfl) rfl rfl rfl ?_
      refine aops_eff (eff_move rfl) rfl rfl rfl ?_
      refine aops_skip rfl rfl ?_
      refine aops_skip rfl rfl ?_
      refine aops_skip rfl rfl ?_
      refine aops_skip rfl rfl ?_
      refine aops_skip rfl rfl ?_
      refine aops_eff (eff_pick rfl rfl) rfl rfl rfl ?_
      refine aops_eff (eff_assign rfl) rfl rfl rfl ?_
      refine aops_nil ?_
      refine then_n ?_
      refine ac_ent (t := mkS [(4, .bl false)] [] 2 [2, 3, 4, 5, 6, 7, 8, 9, 10, 11, 12, 13, 14, 15]) (ent_mk (σ := sg []) ⟨⟨_, rfl, rfl⟩, trivial⟩ trivial rfl) ?_
      refine ac_ret ?_
      obtain rfl := so h
      exact ret_mk rfl rfl rfl (fz_bl rfl)
  · refine aops_lit 7 rfl q2 ?_
    refine aops_skip rfl rfl ?_
    refine aops_skip rfl rfl ?_
    refine aops_eff (eff_pick rfl rfl) rfl rfl rfl ?_
    refine aops_eff (eff_move rfl) rfl rfl rfl ?_
    refine aops_skip rfl rfl ?_
    refine aops_skip rfl rfl ?_
    refine aops_skip rfl rfl ?_
    refine aops_skip rfl rfl ?_
    refine aops_skip rfl rfl ?_
    refine aops_eff (eff_pick rfl rfl) rfl rfl rfl ?_
    refine aops_eff (eff_move rfl) rfl rfl rfl ?_
    refine aops_skip rfl rfl ?_
    refine aops_skip rfl rfl ?_
    refine aops_skip rfl rfl ?_
    refine aops_skip rfl rfl ?_
    refine aops_skip rfl rfl ?_
    refine aops_eff (eff_pick rfl rfl) rfl rfl rfl ?_
    refine aops_eff (eff_assign rfl) rfl rfl rfl ?_
    refine aops_nil ?_
    refine then_n ?_
    refine ac_ent (t := mkS [(4, .bl false)] [] 2 [2, 3, 4, 5, 6, 7, 8, 9, 10, 11, 12, 13, 14, 15]) (ent_mk (σ := sg []) ⟨⟨_, rfl, rfl⟩, trivial⟩ trivial rfl) ?_
    refine ac_ret ?_
    obtain rfl := so h
    exact ret_mk rfl rfl rfl (fz_bl rfl)

noncomputable def m_impl_isBelow_L1 (a0 : (List Int)) (a1 : (List Int)) (x1 : Int) : Option (Int ⊕ (Unit ⊕ Bool)) :=
  bif decide (x1 < (a0.length : Int)) then
    (Option.bind (atL a0 x1) fun v2 =>
    Option.bind (atL a1 x1) fun v3 =>
    bif decide (v3 < v2) then
      (some (.inr (.inr (false))))
    else
      (some (.inl (wr (x1 + 1)))))
  else
    (some (.inr (.inl ())))

noncomputable def m_impl_isBelow (a0 : (List Int)) (a1 : (List Int)) : Option Bool :=
  Option.bind (Lp (m_impl_isBelow_L1 a0 a1) 0) fun y5 =>
  Sum.elim (fun y6 =>
    some (true)
  ) 
  (fun y7 =>
    some y7
  )
   y5

theorem c_impl_isBelow (a0 : (List Int)) (a1 : (List Int)) (r : Bool) (h : m_impl_isBelow a0 a1 = some r) : HasC Try.prog 65 [.list 1 (List.map eI a0), .list 1 (List.map eI a1)] (.bl r) := by
  refine hasC_mk TT_ok (rvs := [.tmp 4]) (ns := [0, 1, 2, 3, 4, 5, 6, 7, 8, 9, 10, 11, 12, 13]) Try.func65 rfl rfl Try.ntmps65 rfl rfl rfl ?_
  refine ac_seq ?_
  refine ac_region ?_
  refine aops_eff (eff_assign rfl) rfl rfl rfl ?_
  refine aops_nil ?_
  refine then_n ?_
  refine ac_seq ?_
  refine ac_seq ?_
  refine ac_region ?_
  refine aops_eff (eff_move rfl) rfl rfl rfl ?_
  refine aops_eff (AEff.val (w_len_list TT_ok rfl rfl rfl) (v' := .int (a0.length : Int)) (by first | rw [len_map] | rw [encI_len])) rfl rfl rfl ?_
  refine aops_eff (eff_move rfl) rfl rfl rfl ?_
  refine aops_nil ?_
  refine then_n ?_
  refine ac_block ?_
  obtain ⟨y5, hy5, h⟩ := ob h
  refine ac_Lp (body := (m_impl_isBelow_L1 a0 a1)) hy5 (fun (x1 : Int) => mkS [(1, .list 1 (List.map eI a1)), (7, .list 1 (List.map eI a0)), (8, .int (a0.length : Int)), (9, .int x1)] [] 0 [0, 1, 2, 3, 4, 5, 6, 7, 8, 9, 10, 11, 12, 13]) (fun r e t => Sum.elim (fun a => (fun r e t => e = .exit 0 ∧ Ent t (mkS [] [] 0 [0, 1, 2, 3, 4, 5, 6, 7, 8, 9, 10, 11, 12, 13])) a e t) (fun b => (fun r e t => e = .ret ∧ RetQ TT [.tmp 4] (.bl r) .ret t) b e t) r) (ent_mk (σ := sg []) ⟨⟨_, rfl, ⟨rfl, rfl⟩⟩, ⟨_, rfl, ⟨rfl, rfl⟩⟩, ⟨_, rfl, rfl⟩, ⟨_, rfl, rfl⟩, trivial⟩ trivial rfl) ?_ ?_
  · intro x1 o h
    refine ac_seq ?_
    refine ac_region ?_
    refine aops_eff (w_cmp rfl rfl rfl) rfl rfl rfl ?_
    refine aops_nil ?_
    refine then_n ?_
    refine ac_seq ?_
    rcases cb h with ⟨q1, h⟩ | ⟨q1, h⟩
    · refine ac_condT rfl q1 ?_
      refine ac_skip ?_
      refine then_n ?_
      refine ac_seq ?_
      refine ac_block ?_
      refine ac_seq ?_
      refine ac_region ?_
      refine aops_eff (eff_move rfl) rfl rfl rfl ?_
      obtain ⟨v2, hv2, h⟩ := ob h
      refine aops_eff (x_at_list TT_ok hv2 rfl rfl rfl rfl rfl rfl) rfl rfl rfl ?_
      refine aops_eff (w_load_ref TT_ok rfl rfl rfl rfl rfl rfl) rfl rfl rfl ?_
      refine aops_eff (eff_assign rfl) rfl rfl rfl ?_
      refine aops_eff (eff_assign rfl) rfl rfl rfl ?_
      refine aops_nil ?_
      refine then_n ?_
      refine ac_seq ?_
      refine ac_region ?_
      refine aops_eff (eff_move rfl) rfl rfl rfl ?_
      refine aops_eff (eff_move rfl) rfl rfl rfl ?_
      refine aops_eff (eff_move rfl) rfl rfl rfl ?_
      obtain ⟨v3, hv3, h⟩ := ob h
      refine aops_eff (x_at_list TT_ok hv3 rfl rfl rfl rfl rfl rfl) rfl rfl rfl ?_
      refine aops_eff (w_load_ref TT_ok rfl rfl rfl rfl rfl rfl) rfl rfl rfl ?_
      refine aops_eff (w_cmp rfl rfl rfl) rfl rfl rfl ?_
      refine aops_nil ?_
      refine then_n ?_
      refine ac_ent (t := mkS [(1, .list 1 (List.map eI a1)), (7, .list 1 (List.map eI a0)), (8, .int (a0.length : Int)), (9, .int x1), (19, .bl (decide (v3 < v2)))] [] 0 [0, 1, 2, 3, 4, 5, 6, 7, 8, 9, 10, 11, 12, 13]) (ent_mk (σ := sg []) ⟨⟨_, rfl, ⟨rfl, rfl⟩⟩, ⟨_, rfl, ⟨rfl, rfl⟩⟩, ⟨_, rfl, rfl⟩, ⟨_, rfl, rfl⟩, ⟨_, rfl, rfl⟩, trivial⟩ trivial rfl) ?_
      rcases cb h with ⟨q4, h⟩ | ⟨q4, h⟩
      · refine ac_condT rfl q4 ?_
        refine ac_seq ?_
        refine ac_region ?_
        refine aops_eff (eff_assign rfl) rfl rfl rfl ?_
        refine aops_nil ?_
        refine then_n ?_
        refine ac_ret ?_
        refine block_ret ?_
        refine then_ret ?_
        refine then_ret ?_
        obtain rfl := so h
        exact ⟨_, rfl, rfl, ret_mk rfl rfl rfl (fz_bl rfl)⟩
      · refine ac_condF rfl q4 ?_
        refine ac_skip ?_
        refine block_n ?_
        refine then_n ?_
        refine ac_region ?_
        refine aops_eff (x_add rfl rfl) rfl rfl rfl ?_
        refine aops_eff (eff_move rfl) rfl rfl rfl ?_
        refine aops_nil ?_
        refine then_n ?_
        obtain rfl := so h
        exact ⟨_, rfl, (ent_mk (σ := sg []) ⟨⟨_, rfl, ⟨rfl, rfl⟩⟩, ⟨_, rfl, ⟨rfl, rfl⟩⟩, ⟨_, rfl, rfl⟩, ⟨_, rfl, rfl⟩, trivial⟩ trivial rfl)⟩
    · refine ac_condF rfl q1 ?_
      refine ac_exit ?_
      refine then_exit ?_
      refine then_exit ?_
      obtain rfl := so h
      exact ⟨_, rfl, rfl, (ent_mk (σ := sg []) trivial trivial rfl)⟩
  · intro e t hX
    rcases y5 with y6 | y7
    · obtain ⟨rfl, hent⟩ := hX
      refine block_here ?_
      refine then_n ?_
      refine ac_ent hent ?_
      refine ac_seq ?_
      refine ac_region ?_
      refine aops_eff (eff_assign rfl) rfl rfl rfl ?_
      refine aops_nil ?_
      refine then_n ?_
      refine ac_ret ?_
      obtain rfl := so h
      exact ret_mk rfl rfl rfl (fz_bl rfl)
    · obtain ⟨rfl, hent⟩ := hX
      refine block_ret ?_
      refine then_ret ?_
      obtain rfl := so h
      exact hent

end Go.Proofs.Ytjfcjkeghigipaa

/-
  Several texts of the claim in one: each begins with its own remark.
-/
import Derived.Test.YtdhjmmnjapkmkaaProg
import Derived.Test.YtdhjmmnjapkmkaaH7
section
set_option linter.unusedVariables false
set_option linter.unusedSimpArgs false

namespace Go.Proofs.Ytdhjmmnjapkmkaa
open Go.RowKit
set_option linter.unusedVariables false
set_option linter.unusedSimpArgs false
set_option maxRecDepth 10000
set_option maxHeartbeats 4000000

noncomputable def m_slices_IndexFunc_Lint_int_L1 (a0 : (List Int)) (a1 : (Int → Option Bool)) (x1 : Int) : Option (Int ⊕ (Unit ⊕ Int)) :=
  bif decide (x1 < (a0.length : Int)) then
    (Option.bind (atL a0 x1) fun v2 =>
    Option.bind (a1 v2) fun v3 =>
    bif v3 then
      (some (.inr (.inr (x1))))
    else
      (some (.inl (wr (x1 + 1)))))
  else
    (some (.inr (.inl ())))

noncomputable def m_slices_IndexFunc_Lint_int (a0 : (List Int)) (a1 : (Int → Option Bool)) : Option Int :=
  Option.bind (Lp (m_slices_IndexFunc_Lint_int_L1 a0 a1) 0) fun y5 =>
  Sum.elim (fun y6 =>
    some ((-1))
  ) 
  (fun y7 =>
    some y7
  )
   y5

theorem c_slices_IndexFunc_Lint_int (a0 : (List Int)) (a1 : (Int → Option Bool)) {f1 : FuncId} {c1 : List AV} (hc1 : c1.all plainD = true) (hf1 : ∀ b0 r, a1 b0 = some r → HasC Try.prog f1 ([.int b0] ++ c1) (.bl r)) (r : Int) (h : m_slices_IndexFunc_Lint_int a0 a1 = some r) : HasC Try.prog 170 [.list 1 (List.map eI a0), .fn f1 c1] (.int r) := by
 refine hasC_mk TT_ok (rvs := [.tmp 4]) (ns := [0, 1]) Try.func170 k k Try.ntmps170 k k (oa_cons k (oa_cons hc1 oa_nil)) <| sQ <| rg <| aa k k <| an <| tn <| sQ <| sQ <| rg <| am k k ?_
 refine ae (lenL TT_ok k k k) k <| am k k <| an <| tn <| ac_block ?_
 obtain ⟨y5, hy5, h⟩ := ob h
 refine ac_Lp (body := (m_slices_IndexFunc_Lint_int_L1 a0 a1)) hy5 (fun (x1 : Int) => mkS [(0, .list 1 (List.map eI a0)), (1, .fn f1 c1), (7, .int (a0.length : Int)), (8, .int x1)] [] 0 [0, 1]) (fun r e t => Sum.elim (fun a => (fun r e t => e = .exit 0 ∧ Ent t (mkS [] [] 0 [0, 1])) a e t) (fun b => (fun r e t => e = .ret ∧ RetQ TT [.tmp 4] (.int r) .ret t) b e t) r) (ent_mk (σ := sg []) ⟨⟨_, k, ⟨k, k⟩⟩, ⟨_, k, ⟨k, all2_same _ hc1⟩⟩, (e1 k k), (e1 k k), trivial⟩ trivial k) ?_ ?_
 ·intro x1 o h
  refine sQ <| rg <| ae (w_cmp k k k) k <| an <| tn <| sQ ?_
  rcases cb h with ⟨q1, h⟩ | ⟨q1, h⟩
  ·refine ac_condT k q1 <| ac_skip <| tn <| sQ <| ac_block <| sQ <| rg <| am k k <| aa k k <| an ?_
   refine tn <| sQ <| rg <| am k k <| am k k <| am k k ?_
   obtain ⟨v2, hv2, h⟩ := ob h
   refine ae (x_at_list TT_ok hv2 k k k k k k) k <| ae (w_load_ref TT_ok k k k k k k) k ?_
   obtain ⟨v3, hv3, h⟩ := ob h
   refine ae (w_callv hc1 (hf1 v2 v3 hv3) k k (va_cons (va_same k) va_nil)) k <| an <| tn ?_
   rcases cb h with ⟨q4, h⟩ | ⟨q4, h⟩
   ·refine ac_condT k q4 <| sQ <| rg <| am k k <| aa k k <| an <| tn <| ac_ret <| block_ret <| then_ret ?_
    refine then_ret ?_
    obtain rfl := so h
    exact ⟨_, k, k, ret_mk k k k (fz_int k)⟩
   ·refine ac_condF k q4 <| ac_skip <| block_n <| tn <| rg <| ae (x_add k k) k <| am k k <| an <| tn ?_
    obtain rfl := so h
    exact ⟨_, k, (ent_mk (σ := sg []) ⟨⟨_, k, ⟨k, k⟩⟩, ⟨_, k, ⟨k, all2_same _ hc1⟩⟩, (e1 k k), (e1 k k), trivial⟩ trivial k)⟩
  ·refine ac_condF k q1 <| ac_exit <| then_exit <| then_exit ?_
   obtain rfl := so h
   exact ⟨_, k, k, (ent_mk (σ := sg []) trivial trivial k)⟩
 ·intro e t hX
  rcases y5 with y6 | y7
  ·obtain ⟨rfl, hent⟩ := hX
   refine block_here <| tn <| ac_ent hent <| sQ <| rg <| aa k k <| an <| tn <| ac_ret ?_
   obtain rfl := so h
   exact ret_mk k k k (fz_int k)
  ·obtain ⟨rfl, hent⟩ := hX
   refine block_ret <| then_ret ?_
   obtain rfl := so h
   exact hent

noncomputable def m_slices_ContainsFunc_Lint_int (a0 : (List Int)) (a1 : (Int → Option Bool)) : Option Bool :=
  Option.bind (m_slices_IndexFunc_Lint_int a0 a1) fun v1 =>
  some (decide (0 ≤ v1))

theorem c_slices_ContainsFunc_Lint_int (a0 : (List Int)) (a1 : (Int → Option Bool)) {f1 : FuncId} {c1 : List AV} (hc1 : c1.all plainD = true) (hf1 : ∀ b0 r, a1 b0 = some r → HasC Try.prog f1 ([.int b0] ++ c1) (.bl r)) (r : Bool) (h : m_slices_ContainsFunc_Lint_int a0 a1 = some r) : HasC Try.prog 152 [.list 1 (List.map eI a0), .fn f1 c1] (.bl r) := by
 refine hasC_mk TT_ok (rvs := [.tmp 4]) (ns := [0, 1]) Try.func152 k k Try.ntmps152 k k (oa_cons k (oa_cons hc1 oa_nil)) <| sQ <| rg <| aa k k <| an <| tn <| sQ <| rg <| am k k <| am k k ?_
 obtain ⟨v1, hv1, h⟩ := ob h
 refine ae (w_call0s (c_slices_IndexFunc_Lint_int a0 a1 hc1 hf1 v1 hv1) k (va_cons (va_same k) (va_cons (va_fnc hc1) va_nil))) k <| ae (w_cmp k k k) k <| aa k k <| an <| tn <| ac_ret ?_
 obtain rfl := so h
 exact ret_mk k k k (fz_bl k)

noncomputable def m_impl_allWithin_1 (a0 : Int) (a1 : Int) (a2 : Int) : Option Bool :=
  Option.bind (m_impl_within a0 a1 a2) fun v1 =>
  some (!v1)

theorem c_impl_allWithin_1 (a0 : Int) (a1 : Int) (a2 : Int) (r : Bool) (h : m_impl_allWithin_1 a0 a1 a2 = some r) : HasC Try.prog 153 [.int a0, .ref (eI a1), .ref (eI a2)] (.bl r) := by
 refine hasC_mk TT_ok (rvs := [.tmp 4]) (ns := [0, 1]) Try.func153 k k Try.ntmps153 k k k <| sQ <| rg <| aa k k <| an <| tn <| sQ <| rg <| am k k <| ae (w_load_ref TT_ok k k k k k k) k ?_
 refine ae (w_load_ref TT_ok k k k k k k) k ?_
 obtain ⟨v1, hv1, h⟩ := ob h
 refine ae (w_call0s (c_impl_within a0 a1 a2 v1 hv1) k (va_cons (va_same k) (va_cons (va_same k) (va_cons (va_same k) va_nil)))) k <| ae (w_not k) k <| aa k k <| an <| tn <| ac_ret ?_
 obtain rfl := so h
 exact ret_mk k k k (fz_bl k)

noncomputable def m_impl_allWithin (a0 : (List Int)) (a1 : Int) (a2 : Int) : Option Bool :=
  Option.bind (m_slices_ContainsFunc_Lint_int a0 (fun b0 => m_impl_allWithin_1 b0 a1 a2)) fun v1 =>
  some (!v1)

theorem c_impl_allWithin (a0 : (List Int)) (a1 : Int) (a2 : Int) (r : Bool) (h : m_impl_allWithin a0 a1 a2 = some r) : HasC Try.prog 124 [.list 1 (List.map eI a0), .int a1, .int a2] (.bl r) := by
 refine hasC_mk TT_ok (rvs := [.tmp 6]) (ns := [0, 1, 2, 3]) Try.func124 k k Try.ntmps124 k k k <| sQ <| rg <| ae (w_box k k k k) k <| ae (w_box k k k k) k <| aa k k <| an <| tn <| sQ <| rg ?_
 refine am k k <| ae (eff_makeFunc (vs := [.ptr 0 0 0, .ptr 1 0 0]) k (by simp)) k ?_
 obtain ⟨v1, hv1, h⟩ := ob h
 refine ae (w_call0s (c_slices_ContainsFunc_Lint_int a0 (fun b0 => m_impl_allWithin_1 b0 a1 a2) k (fun b0 r h => c_impl_allWithin_1 b0 a1 a2 r h) v1 hv1) k (va_cons (va_same k) (va_cons (va_fn (vp_cons (vp_box k k (v1_cons (v1_same k) v1_nil)) (vp_cons (vp_box k k (v1_cons (v1_same k) v1_nil)) va_nil2))) va_nil))) k <| ae (w_not k) k <| aa k k <| an <| tn <| ac_ret ?_
 obtain rfl := so h
 exact ret_mk k k k (fz_bl k)

noncomputable def m_impl_IsVector (a0 : Int) (a1 : (List Int)) : Option Bool :=
  Option.bind (m_impl_IsField a0) fun v1 =>
  bif v1 then
    (bif decide ((a1.length : Int) ≤ 64) then
      (Option.bind (m_impl_allWithin a1 0 (wr (a0 - 1))) fun v4 =>
      some (v4))
    else
      (some (false)))
  else
    (some (false))

theorem c_impl_IsVector (a0 : Int) (a1 : (List Int)) (r : Bool) (h : m_impl_IsVector a0 a1 = some r) : HasC Try.prog 158 [.int a0, .list 1 (List.map eI a1)] (.bl r) := by
 refine hasC_mk TT_ok (rvs := [.tmp 4]) (ns := [0, 1]) Try.func158 k k Try.ntmps158 k k k <| sQ <| rg <| aa k k <| an <| tn <| sQ <| rg <| am k k ?_
 obtain ⟨v1, hv1, h⟩ := ob h
 refine ae (w_call0s (c_impl_IsField a0 v1 hv1) k (va_cons (va_same k) va_nil)) k <| am k k ?_
 rcases cb h with ⟨q2, h⟩ | ⟨q2, h⟩
 ·refine aops_lit 7 k q2 <| am k k <| ae (lenL TT_ok k k k) k <| ae (w_cmp k k k) k <| ae (eff_pick k k) k <| am k k ?_
  rcases cb h with ⟨q3, h⟩ | ⟨q3, h⟩
  ·refine aops_lit 12 k q3 <| am k k <| am k k <| ae (x_sub k k) k ?_
   obtain ⟨v4, hv4, h⟩ := ob h
   refine ae (w_call0s (c_impl_allWithin a1 0 (wr (a0 - 1)) v4 hv4) k (va_cons (va_same k) (va_cons (va_same k) (va_cons (va_same k) va_nil)))) k <| ae (eff_pick k k) k <| aa k k <| an <| tn <| ac_ent (t := mkS [(4, .bl v4)] [] 0 [0, 1]) (ent_mk (σ := sg []) ⟨(e1 k k), trivial⟩ trivial k) <| ac_ret ?_
   obtain rfl := so h
   exact ret_mk k k k (fz_bl k)
  ·refine aops_lit 12 k q3 <| ak k k <| ak k k <| ak k k <| ak k k <| ae (eff_pick k k) k <| aa k k <| an <| tn <| ac_ent (t := mkS [(4, .bl false)] [] 0 [0, 1]) (ent_mk (σ := sg []) ⟨(e1 k k), trivial⟩ trivial k) ?_
   refine ac_ret ?_
   obtain rfl := so h
   exact ret_mk k k k (fz_bl k)
 ·refine aops_lit 7 k q2 <| ak k k <| ak k k <| ak k k <| ae (eff_pick k k) k <| am k k <| ak k k <| ak k k <| ak k k <| ak k k ?_
  refine ae (eff_pick k k) k <| aa k k <| an <| tn <| ac_ent (t := mkS [(4, .bl false)] [] 0 [0, 1]) (ent_mk (σ := sg []) ⟨(e1 k k), trivial⟩ trivial k) <| ac_ret ?_
  obtain rfl := so h
  exact ret_mk k k k (fz_bl k)

noncomputable def m_impl_IsMatrix (a0 : Int) (a1 : Mt) : Option Bool :=
  Option.bind (m_impl_within a1.rows 0 8) fun v1 =>
  bif v1 then
    (Option.bind (m_impl_within a1.cols 0 8) fun v3 =>
    bif v3 then
      (bif decide ((a1.cells.length : Int) = wr (a1.rows * a1.cols)) then
        (Option.bind (m_impl_IsVector a0 a1.cells) fun v6 =>
        some (v6))
      else
        (some (false)))
    else
      (some (false)))
  else
    (some (false))

theorem c_impl_IsMatrix (a0 : Int) (a1 : Mt) (r : Bool) (h : m_impl_IsMatrix a0 a1 = some r) : HasC Try.prog 134 [.int a0, .agg (eM a1)] (.bl r) := by
 refine hasC_mk TT_ok (rvs := [.tmp 4]) (ns := [0, 1, 2]) Try.func134 k k Try.ntmps134 k k k <| sQ <| rg <| ae (w_box k k k k) k <| aa k k <| an <| tn <| sQ <| rg <| ae (w_field_ptr TT_ok k k k k k k k) k ?_
 refine ae (w_load_ptr TT_ok k k k k k k k) k ?_
 obtain ⟨v1, hv1, h⟩ := ob h
 refine ae (w_call0s (c_impl_within a1.rows 0 8 v1 hv1) k (va_cons (va_same k) (va_cons (va_same k) (va_cons (va_same k) va_nil)))) k <| am k k ?_
 rcases cb h with ⟨q2, h⟩ | ⟨q2, h⟩
 ·refine aops_lit 8 k q2 <| ae (w_field_ptr TT_ok k k k k k k k) k <| ae (w_load_ptr TT_ok k k k k k k k) k ?_
  obtain ⟨v3, hv3, h⟩ := ob h
  refine ae (w_call0s (c_impl_within a1.cols 0 8 v3 hv3) k (va_cons (va_same k) (va_cons (va_same k) (va_cons (va_same k) va_nil)))) k <| ae (eff_pick k k) k <| am k k ?_
  rcases cb h with ⟨q4, h⟩ | ⟨q4, h⟩
  ·refine aops_lit 13 k q4 <| ae (w_field_ptr TT_ok k k k k k k k) k <| ae (w_load_ptr TT_ok k k k k k k k) k <| ae (lenL TT_ok k k k) k <| ae (w_field_ptr TT_ok k k k k k k k) k <| ae (w_load_ptr TT_ok k k k k k k k) k <| ae (w_field_ptr TT_ok k k k k k k k) k <| ae (w_load_ptr TT_ok k k k k k k k) k <| ae (x_mul k k) k <| ae (w_cmp k k k) k ?_
   refine ae (eff_pick k k) k <| am k k ?_
   rcases cb h with ⟨q5, h⟩ | ⟨q5, h⟩
   ·refine aops_lit 24 k q5 <| am k k <| ae (w_field_ptr TT_ok k k k k k k k) k <| ae (w_load_ptr TT_ok k k k k k k k) k ?_
    obtain ⟨v6, hv6, h⟩ := ob h
    refine ae (w_call0s (c_impl_IsVector a0 a1.cells v6 hv6) k (va_cons (va_same k) (va_cons (va_same k) va_nil))) k <| ae (eff_pick k k) k <| aa k k <| an <| tn <| ac_ent (t := mkS [(4, .bl v6)] [] 1 [1, 2]) (ent_mk (σ := sg []) ⟨(e1 k k), trivial⟩ trivial k) <| ac_ret ?_
    obtain rfl := so h
    exact ret_mk k k k (fz_bl k)
   ·refine aops_lit 24 k q5 <| ak k k <| ak k k <| ak k k <| ak k k <| ae (eff_pick k k) k <| aa k k <| an <| tn <| ac_ent (t := mkS [(4, .bl false)] [] 1 [1, 2]) (ent_mk (σ := sg []) ⟨(e1 k k), trivial⟩ trivial k) ?_
    refine ac_ret ?_
    obtain rfl := so h
    exact ret_mk k k k (fz_bl k)
  ·refine aops_lit 13 k q4 <| ak k k <| ak k k <| ak k k <| ak k k <| ak k k <| ak k k <| ak k k <| ak k k <| ak k k ?_
   refine ae (eff_pick k k) k <| am k k <| ak k k <| ak k k <| ak k k <| ak k k <| ae (eff_pick k k) k <| aa k k <| an <| tn ?_
   refine ac_ent (t := mkS [(4, .bl false)] [] 1 [1, 2]) (ent_mk (σ := sg []) ⟨(e1 k k), trivial⟩ trivial k) <| ac_ret ?_
   obtain rfl := so h
   exact ret_mk k k k (fz_bl k)
 ·refine aops_lit 8 k q2 <| ak k k <| ak k k <| ak k k <| ae (eff_pick k k) k <| am k k <| ak k k <| ak k k <| ak k k <| ak k k ?_
  refine ak k k <| ak k k <| ak k k <| ak k k <| ak k k <| ae (eff_pick k k) k <| am k k <| ak k k <| ak k k <| ak k k ?_
  refine ak k k <| ae (eff_pick k k) k <| aa k k <| an <| tn <| ac_ent (t := mkS [(4, .bl false)] [] 1 [1, 2]) (ent_mk (σ := sg []) ⟨(e1 k k), trivial⟩ trivial k) <| ac_ret ?_
  obtain rfl := so h
  exact ret_mk k k k (fz_bl k)

noncomputable def m_impl_IsQuiver (a0 : Qv) : Option Bool :=
  Option.bind (m_impl_within a0.n 1 5) fun v1 =>
  bif v1 then
    (bif decide ((a0.src.length : Int) = (a0.tgt.length : Int)) then
      (bif decide ((a0.src.length : Int) ≤ 6) then
        (Option.bind (m_impl_allWithin a0.src 0 (wr (a0.n - 1))) fun v5 =>
        bif v5 then
          (Option.bind (m_impl_allWithin a0.tgt 0 (wr (a0.n - 1))) fun v7 =>
          some (v7))
        else
          (some (false)))
      else
        (some (false)))
    else
      (some (false)))
  else
    (some (false))

theorem c_impl_IsQuiver (a0 : Qv) (r : Bool) (h : m_impl_IsQuiver a0 = some r) : HasC Try.prog 123 [.agg (eQ a0)] (.bl r) := by
 refine hasC_mk TT_ok (rvs := [.tmp 2]) (ns := [0, 1, 2]) Try.func123 k k Try.ntmps123 k k k <| sQ <| rg <| ae (w_box k k k k) k <| aa k k <| an <| tn <| sQ <| rg <| ae (w_field_ptr TT_ok k k k k k k k) k ?_
 refine ae (w_load_ptr TT_ok k k k k k k k) k ?_
 obtain ⟨v1, hv1, h⟩ := ob h
 refine ae (w_call0s (c_impl_within a0.n 1 5 v1 hv1) k (va_cons (va_same k) (va_cons (va_same k) (va_cons (va_same k) va_nil)))) k <| am k k ?_
 rcases cb h with ⟨q2, h⟩ | ⟨q2, h⟩
 ·refine aops_lit 6 k q2 <| ae (w_field_ptr TT_ok k k k k k k k) k <| ae (w_load_ptr TT_ok k k k k k k k) k <| ae (lenL TT_ok k k k) k <| ae (w_field_ptr TT_ok k k k k k k k) k <| ae (w_load_ptr TT_ok k k k k k k k) k <| ae (lenL TT_ok k k k) k <| ae (w_cmp k k k) k <| ae (eff_pick k k) k <| am k k ?_
  rcases cb h with ⟨q3, h⟩ | ⟨q3, h⟩
  ·refine aops_lit 15 k q3 <| ae (w_field_ptr TT_ok k k k k k k k) k <| ae (w_load_ptr TT_ok k k k k k k k) k <| ae (lenL TT_ok k k k) k <| ae (w_cmp k k k) k <| ae (eff_pick k k) k <| am k k ?_
   rcases cb h with ⟨q4, h⟩ | ⟨q4, h⟩
   ·refine aops_lit 21 k q4 <| ae (w_field_ptr TT_ok k k k k k k k) k <| ae (w_load_ptr TT_ok k k k k k k k) k <| ae (w_field_ptr TT_ok k k k k k k k) k <| ae (w_load_ptr TT_ok k k k k k k k) k <| ae (x_sub k k) k ?_
    obtain ⟨v5, hv5, h⟩ := ob h
    refine ae (w_call0s (c_impl_allWithin a0.src 0 (wr (a0.n - 1)) v5 hv5) k (va_cons (va_same k) (va_cons (va_same k) (va_cons (va_same k) va_nil)))) k <| ae (eff_pick k k) k <| am k k ?_
    rcases cb h with ⟨q6, h⟩ | ⟨q6, h⟩
    ·refine aops_lit 29 k q6 <| ae (w_field_ptr TT_ok k k k k k k k) k <| ae (w_load_ptr TT_ok k k k k k k k) k <| ae (w_field_ptr TT_ok k k k k k k k) k <| ae (w_load_ptr TT_ok k k k k k k k) k <| ae (x_sub k k) k ?_
     obtain ⟨v7, hv7, h⟩ := ob h
     refine ae (w_call0s (c_impl_allWithin a0.tgt 0 (wr (a0.n - 1)) v7 hv7) k (va_cons (va_same k) (va_cons (va_same k) (va_cons (va_same k) va_nil)))) k <| ae (eff_pick k k) k <| aa k k <| an <| tn <| ac_ent (t := mkS [(2, .bl v7)] [] 1 [1, 2]) (ent_mk (σ := sg []) ⟨(e1 k k), trivial⟩ trivial k) <| ac_ret ?_
     obtain rfl := so h
     exact ret_mk k k k (fz_bl k)
    ·refine aops_lit 29 k q6 <| ak k k <| ak k k <| ak k k <| ak k k <| ak k k <| ak k k <| ae (eff_pick k k) k <| aa k k <| an ?_
     refine tn <| ac_ent (t := mkS [(2, .bl false)] [] 1 [1, 2]) (ent_mk (σ := sg []) ⟨(e1 k k), trivial⟩ trivial k) <| ac_ret ?_
     obtain rfl := so h
     exact ret_mk k k k (fz_bl k)
   ·refine aops_lit 21 k q4 <| ak k k <| ak k k <| ak k k <| ak k k <| ak k k <| ak k k <| ae (eff_pick k k) k <| am k k <| ak k k ?_
    refine ak k k <| ak k k <| ak k k <| ak k k <| ak k k <| ae (eff_pick k k) k <| aa k k <| an <| tn <| ac_ent (t := mkS [(2, .bl false)] [] 1 [1, 2]) (ent_mk (σ := sg []) ⟨(e1 k k), trivial⟩ trivial k) ?_
    refine ac_ret ?_
    obtain rfl := so h
    exact ret_mk k k k (fz_bl k)
  ·refine aops_lit 15 k q3 <| ak k k <| ak k k <| ak k k <| ak k k <| ae (eff_pick k k) k <| am k k <| ak k k <| ak k k <| ak k k ?_
   refine ak k k <| ak k k <| ak k k <| ae (eff_pick k k) k <| am k k <| ak k k <| ak k k <| ak k k <| ak k k <| ak k k ?_
   refine ak k k <| ae (eff_pick k k) k <| aa k k <| an <| tn <| ac_ent (t := mkS [(2, .bl false)] [] 1 [1, 2]) (ent_mk (σ := sg []) ⟨(e1 k k), trivial⟩ trivial k) <| ac_ret ?_
   obtain rfl := so h
   exact ret_mk k k k (fz_bl k)
 ·refine aops_lit 6 k q2 <| ak k k <| ak k k <| ak k k <| ak k k <| ak k k <| ak k k <| ak k k <| ae (eff_pick k k) k <| am k k ?_
  refine ak k k <| ak k k <| ak k k <| ak k k <| ae (eff_pick k k) k <| am k k <| ak k k <| ak k k <| ak k k <| ak k k ?_
  refine ak k k <| ak k k <| ae (eff_pick k k) k <| am k k <| ak k k <| ak k k <| ak k k <| ak k k <| ak k k <| ak k k ?_
  refine ae (eff_pick k k) k <| aa k k <| an <| tn <| ac_ent (t := mkS [(2, .bl false)] [] 1 [1, 2]) (ent_mk (σ := sg []) ⟨(e1 k k), trivial⟩ trivial k) <| ac_ret ?_
  obtain rfl := so h
  exact ret_mk k k k (fz_bl k)

noncomputable def m_impl_AreDims (a0 : Qv) (a1 : (List Int)) : Option Bool :=
  Option.bind (m_impl_IsQuiver a0) fun v1 =>
  bif v1 then
    (bif decide ((a1.length : Int) = a0.n) then
      (Option.bind (m_impl_allWithin a1 0 4) fun v4 =>
      bif v4 then
        (Option.bind (m_impl_sumOf a1) fun v6 =>
        some (decide (v6 ≤ 8)))
      else
        (some (false)))
    else
      (some (false)))
  else
    (some (false))

theorem c_impl_AreDims (a0 : Qv) (a1 : (List Int)) (r : Bool) (h : m_impl_AreDims a0 a1 = some r) : HasC Try.prog 133 [.agg (eQ a0), .list 1 (List.map eI a1)] (.bl r) := by
 refine hasC_mk TT_ok (rvs := [.tmp 4]) (ns := [0, 1, 2]) Try.func133 k k Try.ntmps133 k k k <| sQ <| rg <| ae (w_box k k k k) k <| aa k k <| an <| tn <| sQ <| rg <| ae (w_load_ptr TT_ok k k k k k k k) k ?_
 obtain ⟨v1, hv1, h⟩ := ob h
 refine ae (w_call0s (c_impl_IsQuiver a0 v1 hv1) k (va_cons (va_agg' (v1_cons (v1_same k) (v1_cons (v1_same k) (v1_cons (v1_same k) v1_nil)))) va_nil)) k <| am k k ?_
 rcases cb h with ⟨q2, h⟩ | ⟨q2, h⟩
 ·refine aops_lit 7 k q2 <| am k k <| ae (lenL TT_ok k k k) k <| ae (w_field_ptr TT_ok k k k k k k k) k <| ae (w_load_ptr TT_ok k k k k k k k) k <| ae (w_cmp k k k) k <| ae (eff_pick k k) k <| am k k ?_
  rcases cb h with ⟨q3, h⟩ | ⟨q3, h⟩
  ·refine aops_lit 14 k q3 <| am k k ?_
   obtain ⟨v4, hv4, h⟩ := ob h
   refine ae (w_call0s (c_impl_allWithin a1 0 4 v4 hv4) k (va_cons (va_same k) (va_cons (va_same k) (va_cons (va_same k) va_nil)))) k <| ae (eff_pick k k) k <| am k k ?_
   rcases cb h with ⟨q5, h⟩ | ⟨q5, h⟩
   ·refine aops_lit 18 k q5 <| am k k ?_
    obtain ⟨v6, hv6, h⟩ := ob h
    refine ae (w_call0s (c_impl_sumOf a1 v6 hv6) k (va_cons (va_same k) va_nil)) k <| ae (w_cmp k k k) k <| ae (eff_pick k k) k <| aa k k <| an <| tn <| ac_ent (t := mkS [(4, .bl (decide (v6 ≤ 8)))] [] 1 [1, 2]) (ent_mk (σ := sg []) ⟨(e1 k k), trivial⟩ trivial k) <| ac_ret ?_
    obtain rfl := so h
    exact ret_mk k k k (fz_bl k)
   ·refine aops_lit 18 k q5 <| ak k k <| ak k k <| ak k k <| ae (eff_pick k k) k <| aa k k <| an <| tn <| ac_ent (t := mkS [(4, .bl false)] [] 1 [1, 2]) (ent_mk (σ := sg []) ⟨(e1 k k), trivial⟩ trivial k) <| ac_ret ?_
    obtain rfl := so h
    exact ret_mk k k k (fz_bl k)
  ·refine aops_lit 14 k q3 <| ak k k <| ak k k <| ae (eff_pick k k) k <| am k k <| ak k k <| ak k k <| ak k k <| ae (eff_pick k k) k <| aa k k ?_
   refine an <| tn <| ac_ent (t := mkS [(4, .bl false)] [] 1 [1, 2]) (ent_mk (σ := sg []) ⟨(e1 k k), trivial⟩ trivial k) <| ac_ret ?_
   obtain rfl := so h
   exact ret_mk k k k (fz_bl k)
 ·refine aops_lit 7 k q2 <| ak k k <| ak k k <| ak k k <| ak k k <| ak k k <| ae (eff_pick k k) k <| am k k <| ak k k <| ak k k ?_
  refine ae (eff_pick k k) k <| am k k <| ak k k <| ak k k <| ak k k <| ae (eff_pick k k) k <| aa k k <| an <| tn <| ac_ent (t := mkS [(4, .bl false)] [] 1 [1, 2]) (ent_mk (σ := sg []) ⟨(e1 k k), trivial⟩ trivial k) ?_
  refine ac_ret ?_
  obtain rfl := so h
  exact ret_mk k k k (fz_bl k)

noncomputable def m_impl_IsRep_L1 (a0 : Rp) (x1 : Int) : Option (Int ⊕ (Unit ⊕ Bool)) :=
  bif decide (x1 < (a0.maps.length : Int)) then
    (Option.bind (atL a0.maps x1) fun v7 =>
    Option.bind (m_impl_IsMatrix a0.p v7) fun v8 =>
    bif !v8 then
      (some (.inr (.inr (false))))
    else
      (Option.bind (atL a0.q.src x1) fun v10 =>
      Option.bind (atL a0.dims v10) fun v11 =>
      bif !decide (v7.cols = v11) then
        (some (.inr (.inr (false))))
      else
        (Option.bind (atL a0.q.tgt x1) fun v13 =>
        Option.bind (atL a0.dims v13) fun v14 =>
        bif !decide (v7.rows = v14) then
          (some (.inr (.inr (false))))
        else
          (some (.inl (wr (x1 + 1)))))))
  else
    (some (.inr (.inl ())))

noncomputable def m_impl_IsRep (a0 : Rp) : Option Bool :=
  Option.bind (m_impl_IsField a0.p) fun v1 =>
  bif !v1 then
    (some (false))
  else
    (Option.bind (m_impl_AreDims a0.q a0.dims) fun v3 =>
    bif !v3 then
      (some (false))
    else
      (bif !decide ((a0.maps.length : Int) = (a0.q.src.length : Int)) then
        (some (false))
      else
        (Option.bind (Lp (m_impl_IsRep_L1 a0) 0) fun y16 =>
        Sum.elim (fun y17 =>
          some (true)
        ) 
        (fun y18 =>
          some y18
        )
         y16)))

theorem c_impl_IsRep (a0 : Rp) (r : Bool) (h : m_impl_IsRep a0 = some r) : HasC Try.prog 99 [.agg (eR a0)] (.bl r) := by
 refine hasC_mk TT_ok (rvs := [.tmp 2]) (ns := [0, 1, 2, 3]) Try.func99 k k Try.ntmps99 k k k <| sQ <| rg <| ae (w_box k k k k) k <| aa k k <| an <| tn <| sQ <| sQ <| rg ?_
 refine ae (w_field_ptr TT_ok k k k k k k k) k <| ae (w_load_ptr TT_ok k k k k k k k) k ?_
 obtain ⟨v1, hv1, h⟩ := ob h
 refine ae (w_call0s (c_impl_IsField a0.p v1 hv1) k (va_cons (va_same k) va_nil)) k <| ae (w_not k) k <| am k k ?_
 rcases cb h with ⟨q2, h⟩ | ⟨q2, h⟩
 ·refine aops_lit 9 k q2 <| ak k k <| ak k k <| ak k k <| ak k k <| ak k k <| ak k k <| ae (eff_pick k k) k <| am k k <| ak k k ?_
  refine ak k k <| ak k k <| ak k k <| ak k k <| ak k k <| ak k k <| ak k k <| ae (eff_pick k k) k <| an <| tn ?_
  refine ac_ent (t := mkS [(1, .ptr 0 0 0), (26, .bl true)] [(0, ⟨6, [[.int a0.p, .int a0.q.n, .list 1 (List.map eI a0.q.src), .list 1 (List.map eI a0.q.tgt), .list 1 (List.map eI a0.dims), .list 3 (List.map eM a0.maps)]]⟩)] 1 [1, 2, 3]) (ent_mk (σ := sg [(0, 0)]) ⟨(pE k k), (e1 k k), trivial⟩ (hP k k k k <| trivial) k) <| ac_condT k k <| sQ <| rg <| aa k k <| an <| tn <| ac_ret <| then_ret ?_
  obtain rfl := so h
  exact ret_mk k k k (fz_bl k)
 ·refine aops_lit 9 k q2 <| ae (w_field_ptr TT_ok k k k k k k k) k <| ae (w_load_ptr TT_ok k k k k k k k) k <| ae (w_field_ptr TT_ok k k k k k k k) k <| ae (w_load_ptr TT_ok k k k k k k k) k ?_
  obtain ⟨v3, hv3, h⟩ := ob h
  refine ae (w_call0s (c_impl_AreDims a0.q a0.dims v3 hv3) k (va_cons (va_agg' (v1_cons (v1_same k) (v1_cons (v1_same k) (v1_cons (v1_same k) v1_nil)))) (va_cons (va_same k) va_nil))) k <| ae (w_not k) k <| ae (eff_pick k k) k <| am k k ?_
  rcases cb h with ⟨q4, h⟩ | ⟨q4, h⟩
  ·refine aops_lit 17 k q4 <| ak k k <| ak k k <| ak k k <| ak k k <| ak k k <| ak k k <| ak k k <| ak k k <| ae (eff_pick k k) k ?_
   refine an <| tn <| ac_ent (t := mkS [(1, .ptr 0 0 0), (26, .bl true)] [(0, ⟨6, [[.int a0.p, .int a0.q.n, .list 1 (List.map eI a0.q.src), .list 1 (List.map eI a0.q.tgt), .list 1 (List.map eI a0.dims), .list 3 (List.map eM a0.maps)]]⟩)] 1 [1, 2, 3]) (ent_mk (σ := sg [(0, 0)]) ⟨(pE k k), (e1 k k), trivial⟩ (hP k k k k <| trivial) k) <| ac_condT k k <| sQ <| rg <| aa k k <| an <| tn <| ac_ret ?_
   refine then_ret ?_
   obtain rfl := so h
   exact ret_mk k k k (fz_bl k)
  ·refine aops_lit 17 k q4 <| ae (w_field_ptr TT_ok k k k k k k k) k <| ae (w_load_ptr TT_ok k k k k k k k) k <| ae (lenL TT_ok k k k) k <| ae (w_field_ptr TT_ok k k k k k k k) k <| ae (w_field_ptr TT_ok k k k k k k k) k <| ae (w_load_ptr TT_ok k k k k k k k) k <| ae (lenL TT_ok k k k) k <| ae (w_cmp k k k) k <| ae (eff_pick k k) k ?_
   refine an <| tn <| ac_ent (t := mkS [(1, .ptr 0 0 0), (26, .bl (!decide ((a0.maps.length : Int) = (a0.q.src.length : Int))))] [(0, ⟨6, [[.int a0.p, .int a0.q.n, .list 1 (List.map eI a0.q.src), .list 1 (List.map eI a0.q.tgt), .list 1 (List.map eI a0.dims), .list 3 (List.map eM a0.maps)]]⟩)] 1 [1, 2, 3]) (ent_mk (σ := sg [(0, 0)]) ⟨(pE k k), (e1 k k), trivial⟩ (hP k k k k <| trivial) k) ?_
   rcases cb h with ⟨q5, h⟩ | ⟨q5, h⟩
   ·refine ac_condT k q5 <| sQ <| rg <| aa k k <| an <| tn <| ac_ret <| then_ret ?_
    obtain rfl := so h
    exact ret_mk k k k (fz_bl k)
   ·refine ac_condF k q5 <| ac_skip <| tn <| sQ <| sQ <| rg <| ae (w_field_ptr TT_ok k k k k k k k) k <| ae (w_load_ptr TT_ok k k k k k k k) k <| ae (lenL TT_ok k k k) k <| am k k ?_
    refine an <| tn <| ac_block ?_
    obtain ⟨y16, hy16, h⟩ := ob h
    refine ac_Lp (body := (m_impl_IsRep_L1 a0)) hy16 (fun (x1 : Int) => mkS [(1, .ptr 0 0 0), (28, .list 3 (List.map eM a0.maps)), (29, .int (a0.maps.length : Int)), (30, .int x1)] [(0, ⟨6, [[.int a0.p, .int a0.q.n, .list 1 (List.map eI a0.q.src), .list 1 (List.map eI a0.q.tgt), .list 1 (List.map eI a0.dims), .list 3 (List.map eM a0.maps)]]⟩)] 1 [1, 2, 3]) (fun r e t => Sum.elim (fun a => (fun r e t => e = .exit 0 ∧ Ent t (mkS [] [] 0 [0, 1, 2, 3])) a e t) (fun b => (fun r e t => e = .ret ∧ RetQ TT [.tmp 2] (.bl r) .ret t) b e t) r) (ent_mk (σ := sg [(0, 0)]) ⟨(pE k k), ⟨_, k, ⟨k, k⟩⟩, (e1 k k), (e1 k k), trivial⟩ (hP k k k k <| trivial) k) ?_ ?_
    ·intro x1 o h
     refine sQ <| rg <| ae (w_cmp k k k) k <| an <| tn <| sQ ?_
     rcases cb h with ⟨q6, h⟩ | ⟨q6, h⟩
     ·refine ac_condT k q6 <| ac_skip <| tn <| sQ <| ac_block <| sQ <| rg <| am k k ?_
      obtain ⟨v7, hv7, h⟩ := ob h
      refine ae (x_at_list TT_ok hv7 k k k k k k) k <| ae (w_load_ref TT_ok k k k k k k) k <| ae (w_alloc TT_ok k k) k <| aa k k <| ae (w_store TT_ok k k k k k k k k) k <| an <| tn <| sQ <| ac_region_draw MIXX <| ae (w_field_ptr TT_ok k k k k k k k) k ?_
      refine ae (w_load_ptr TT_ok k k k k k k k) k <| ae (w_load_ptr TT_ok k k k k k k k) k ?_
      obtain ⟨v8, hv8, h⟩ := ob h
      refine ae (w_call0s (c_impl_IsMatrix a0.p v7 v8 hv8) k (va_cons (va_same k) (va_cons (va_agg' (v1_cons (v1_same k) (v1_cons (v1_same k) (v1_cons (v1_same k) v1_nil)))) va_nil))) k <| ae (w_not k) k <| am k k ?_
      rcases cb h with ⟨q9, h⟩ | ⟨q9, h⟩
      ·refine aops_lit 40 k q9 <| ak k k <| ak k k <| ak k k <| ak k k <| ak k k <| ak k k <| ak k k <| ak k k <| ak k k ?_
       refine ak k k <| ak k k <| ak k k <| ak k k <| ae (eff_pick k k) k <| am k k <| ak k k <| ak k k <| ak k k <| ak k k ?_
       refine ak k k <| ak k k <| ak k k <| ak k k <| ak k k <| ak k k <| ak k k <| ak k k <| ak k k <| ae (eff_pick k k) k ?_
       refine an ?_
       refine ⟨by kernel_rfl, ?_⟩
       refine tn <| ac_ent (t := mkS [(1, .ptr 0 0 0), (28, .list 3 (List.map eM a0.maps)), (29, .int (a0.maps.length : Int)), (30, .int x1), (69, .bl true)] [(0, ⟨6, [[.int a0.p, .int a0.q.n, .list 1 (List.map eI a0.q.src), .list 1 (List.map eI a0.q.tgt), .list 1 (List.map eI a0.dims), .list 3 (List.map eM a0.maps)]]⟩)] 2 [2, 3]) (ent_mk (σ := sg [(0, 0)]) ⟨(pE k k), ⟨_, k, ⟨k, k⟩⟩, (e1 k k), (e1 k k), (e1 k k), trivial⟩ (hP k k k k <| trivial) k) <| ac_condT k k <| sQ <| rg <| aa k k <| an <| tn <| ac_ret <| block_ret ?_
       refine then_ret <| then_ret ?_
       obtain rfl := so h
       exact ⟨_, k, k, ret_mk k k k (fz_bl k)⟩
      ·refine aops_lit 40 k q9 <| ae (w_field_ptr TT_ok k k k k k k k) k <| ae (w_load_ptr TT_ok k k k k k k k) k <| ae (w_field_ptr TT_ok k k k k k k k) k <| ae (w_load_ptr TT_ok k k k k k k k) k <| ae (w_field_ptr TT_ok k k k k k k k) k <| ae (w_field_ptr TT_ok k k k k k k k) k <| ae (w_load_ptr TT_ok k k k k k k k) k <| am k k ?_
       obtain ⟨v10, hv10, h⟩ := ob h
       refine ae (x_at_list TT_ok hv10 k k k k k k) k <| ae (w_load_ref TT_ok k k k k k k) k ?_
       obtain ⟨v11, hv11, h⟩ := ob h
       refine ae (x_at_list TT_ok hv11 k k k k k k) k <| ae (w_load_ref TT_ok k k k k k k) k <| ae (w_cmp k k k) k <| ae (eff_pick k k) k <| am k k ?_
       rcases cb h with ⟨q12, h⟩ | ⟨q12, h⟩
       ·refine aops_lit 55 k q12 <| ak k k <| ak k k <| ak k k <| ak k k <| ak k k <| ak k k <| ak k k <| ak k k <| ak k k ?_
        refine ak k k <| ak k k <| ak k k <| ak k k <| ae (eff_pick k k) k <| an ?_
        refine ⟨by kernel_rfl, ?_⟩
        refine tn <| ac_ent (t := mkS [(1, .ptr 0 0 0), (28, .list 3 (List.map eM a0.maps)), (29, .int (a0.maps.length : Int)), (30, .int x1), (69, .bl true)] [(0, ⟨6, [[.int a0.p, .int a0.q.n, .list 1 (List.map eI a0.q.src), .list 1 (List.map eI a0.q.tgt), .list 1 (List.map eI a0.dims), .list 3 (List.map eM a0.maps)]]⟩)] 2 [2, 3]) (ent_mk (σ := sg [(0, 0)]) ⟨(pE k k), ⟨_, k, ⟨k, k⟩⟩, (e1 k k), (e1 k k), (e1 k k), trivial⟩ (hP k k k k <| trivial) k) <| ac_condT k k <| sQ <| rg <| aa k k <| an <| tn <| ac_ret <| block_ret ?_
        refine then_ret <| then_ret ?_
        obtain rfl := so h
        exact ⟨_, k, k, ret_mk k k k (fz_bl k)⟩
       ·refine aops_lit 55 k q12 <| ae (w_field_ptr TT_ok k k k k k k k) k <| ae (w_load_ptr TT_ok k k k k k k k) k <| ae (w_field_ptr TT_ok k k k k k k k) k <| ae (w_load_ptr TT_ok k k k k k k k) k <| ae (w_field_ptr TT_ok k k k k k k k) k <| ae (w_field_ptr TT_ok k k k k k k k) k <| ae (w_load_ptr TT_ok k k k k k k k) k <| am k k ?_
        obtain ⟨v13, hv13, h⟩ := ob h
        refine ae (x_at_list TT_ok hv13 k k k k k k) k <| ae (w_load_ref TT_ok k k k k k k) k ?_
        obtain ⟨v14, hv14, h⟩ := ob h
        refine ae (x_at_list TT_ok hv14 k k k k k k) k <| ae (w_load_ref TT_ok k k k k k k) k <| ae (w_cmp k k k) k <| ae (eff_pick k k) k <| an ?_
        refine ⟨by kernel_rfl, ?_⟩
        refine tn <| ac_ent (t := mkS [(1, .ptr 0 0 0), (28, .list 3 (List.map eM a0.maps)), (29, .int (a0.maps.length : Int)), (30, .int x1), (69, .bl (!decide (v7.rows = v14)))] [(0, ⟨6, [[.int a0.p, .int a0.q.n, .list 1 (List.map eI a0.q.src), .list 1 (List.map eI a0.q.tgt), .list 1 (List.map eI a0.dims), .list 3 (List.map eM a0.maps)]]⟩)] 2 [2, 3]) (ent_mk (σ := sg [(0, 0)]) ⟨(pE k k), ⟨_, k, ⟨k, k⟩⟩, (e1 k k), (e1 k k), (e1 k k), trivial⟩ (hP k k k k <| trivial) k) ?_
        rcases cb h with ⟨q15, h⟩ | ⟨q15, h⟩
        ·refine ac_condT k q15 <| sQ <| rg <| aa k k <| an <| tn <| ac_ret <| block_ret <| then_ret <| then_ret ?_
         obtain rfl := so h
         exact ⟨_, k, k, ret_mk k k k (fz_bl k)⟩
        ·refine ac_condF k q15 <| ac_skip <| block_n <| tn <| rg <| ae (x_add k k) k <| am k k <| an <| tn ?_
         obtain rfl := so h
         exact ⟨_, k, (ent_mk (σ := sg [(0, 0)]) ⟨(pE k k), ⟨_, k, ⟨k, k⟩⟩, (e1 k k), (e1 k k), trivial⟩ (hP k k k k <| trivial) k)⟩
     ·refine ac_condF k q6 <| ac_exit <| then_exit <| then_exit ?_
      obtain rfl := so h
      exact ⟨_, k, k, (ent_mk (σ := sg []) trivial trivial k)⟩
    ·intro e t hX
     rcases y16 with y17 | y18
     ·obtain ⟨rfl, hent⟩ := hX
      refine block_here <| tn <| ac_ent hent <| sQ <| rg <| aa k k <| an <| tn <| ac_ret ?_
      obtain rfl := so h
      exact ret_mk k k k (fz_bl k)
     ·obtain ⟨rfl, hent⟩ := hX
      refine block_ret <| then_ret ?_
      obtain rfl := so h
      exact hent

noncomputable def m_impl_IsZigzag_L1 (a0 : Qv) (x1 : Int) : Option (Int ⊕ (Unit ⊕ Bool)) :=
  bif decide (x1 < (a0.src.length : Int)) then
    (Option.bind (atL a0.src x1) fun v5 =>
    Option.bind (atL a0.tgt x1) fun v6 =>
    bif !decide (min v5 v6 = x1) then
      (some (.inr (.inr (false))))
    else
      (Option.bind (atL a0.tgt x1) fun v8 =>
      bif !decide (max v5 v8 = wr (x1 + 1)) then
        (some (.inr (.inr (false))))
      else
        (some (.inl (wr (x1 + 1))))))
  else
    (some (.inr (.inl ())))

noncomputable def m_impl_IsZigzag (a0 : Qv) : Option Bool :=
  Option.bind (m_impl_IsQuiver a0) fun v1 =>
  bif !v1 then
    (some (false))
  else
    (bif !decide ((a0.src.length : Int) = wr (a0.n - 1)) then
      (some (false))
    else
      (Option.bind (Lp (m_impl_IsZigzag_L1 a0) 0) fun y10 =>
      Sum.elim (fun y11 =>
        some (true)
      ) 
      (fun y12 =>
        some y12
      )
       y10))

theorem c_impl_IsZigzag (a0 : Qv) (r : Bool) (h : m_impl_IsZigzag a0 = some r) : HasC Try.prog 135 [.agg (eQ a0)] (.bl r) := by
 refine hasC_mk TT_ok (rvs := [.tmp 2]) (ns := [0, 1, 2]) Try.func135 k k Try.ntmps135 k k k <| sQ <| rg <| ae (w_box k k k k) k <| aa k k <| an <| tn <| sQ <| sQ <| rg ?_
 refine ae (w_load_ptr TT_ok k k k k k k k) k ?_
 obtain ⟨v1, hv1, h⟩ := ob h
 refine ae (w_call0s (c_impl_IsQuiver a0 v1 hv1) k (va_cons (va_agg' (v1_cons (v1_same k) (v1_cons (v1_same k) (v1_cons (v1_same k) v1_nil)))) va_nil)) k <| ae (w_not k) k <| am k k ?_
 rcases cb h with ⟨q2, h⟩ | ⟨q2, h⟩
 ·refine aops_lit 8 k q2 <| ak k k <| ak k k <| ak k k <| ak k k <| ak k k <| ak k k <| ak k k <| ae (eff_pick k k) k <| an ?_
  refine tn <| ac_ent (t := mkS [(1, .ptr 0 0 0), (16, .bl true)] [(0, ⟨3, [[.int a0.n, .list 1 (List.map eI a0.src), .list 1 (List.map eI a0.tgt)]]⟩)] 1 [1, 2]) (ent_mk (σ := sg [(0, 0)]) ⟨(pE k k), (e1 k k), trivial⟩ (hP k k k k <| trivial) k) <| ac_condT k k <| sQ <| rg <| aa k k <| an <| tn <| ac_ret <| then_ret ?_
  obtain rfl := so h
  exact ret_mk k k k (fz_bl k)
 ·refine aops_lit 8 k q2 <| ae (w_field_ptr TT_ok k k k k k k k) k <| ae (w_load_ptr TT_ok k k k k k k k) k <| ae (lenL TT_ok k k k) k <| ae (w_field_ptr TT_ok k k k k k k k) k <| ae (w_load_ptr TT_ok k k k k k k k) k <| ae (x_sub k k) k <| ae (w_cmp k k k) k <| ae (eff_pick k k) k <| an ?_
  refine tn <| ac_ent (t := mkS [(1, .ptr 0 0 0), (16, .bl (!decide ((a0.src.length : Int) = wr (a0.n - 1))))] [(0, ⟨3, [[.int a0.n, .list 1 (List.map eI a0.src), .list 1 (List.map eI a0.tgt)]]⟩)] 1 [1, 2]) (ent_mk (σ := sg [(0, 0)]) ⟨(pE k k), (e1 k k), trivial⟩ (hP k k k k <| trivial) k) ?_
  rcases cb h with ⟨q3, h⟩ | ⟨q3, h⟩
  ·refine ac_condT k q3 <| sQ <| rg <| aa k k <| an <| tn <| ac_ret <| then_ret ?_
   obtain rfl := so h
   exact ret_mk k k k (fz_bl k)
  ·refine ac_condF k q3 <| ac_skip <| tn <| sQ <| sQ <| rg <| ae (w_field_ptr TT_ok k k k k k k k) k <| ae (w_load_ptr TT_ok k k k k k k k) k <| ae (lenL TT_ok k k k) k <| am k k ?_
   refine an <| tn <| ac_block ?_
   obtain ⟨y10, hy10, h⟩ := ob h
   refine ac_Lp (body := (m_impl_IsZigzag_L1 a0)) hy10 (fun (x1 : Int) => mkS [(1, .ptr 0 0 0), (18, .list 1 (List.map eI a0.src)), (19, .int (a0.src.length : Int)), (20, .int x1)] [(0, ⟨3, [[.int a0.n, .list 1 (List.map eI a0.src), .list 1 (List.map eI a0.tgt)]]⟩)] 1 [1, 2]) (fun r e t => Sum.elim (fun a => (fun r e t => e = .exit 0 ∧ Ent t (mkS [] [] 0 [0, 1, 2])) a e t) (fun b => (fun r e t => e = .ret ∧ RetQ TT [.tmp 2] (.bl r) .ret t) b e t) r) (ent_mk (σ := sg [(0, 0)]) ⟨(pE k k), ⟨_, k, ⟨k, k⟩⟩, (e1 k k), (e1 k k), trivial⟩ (hP k k k k <| trivial) k) ?_ ?_
   ·intro x1 o h
    refine sQ <| rg <| ae (w_cmp k k k) k <| an <| tn <| sQ ?_
    rcases cb h with ⟨q4, h⟩ | ⟨q4, h⟩
    ·refine ac_condT k q4 <| ac_skip <| tn <| sQ <| ac_block <| sQ <| rg <| am k k ?_
     obtain ⟨v5, hv5, h⟩ := ob h
     refine ae (x_at_list TT_ok hv5 k k k k k k) k <| ae (w_load_ref TT_ok k k k k k k) k <| aa k k <| aa k k <| an <| tn <| sQ <| rg <| am k k <| ae (w_field_ptr TT_ok k k k k k k k) k ?_
     refine ae (w_load_ptr TT_ok k k k k k k k) k <| am k k ?_
     obtain ⟨v6, hv6, h⟩ := ob h
     refine ae (x_at_list TT_ok hv6 k k k k k k) k <| ae (w_load_ref TT_ok k k k k k k) k <| ae (x_min k k) k <| am k k <| ae (w_cmp k k k) k <| am k k ?_
     rcases cb h with ⟨q7, h⟩ | ⟨q7, h⟩
     ·refine aops_lit 34 k q7 <| ak k k <| ak k k <| ak k k <| ak k k <| ak k k <| ak k k <| ak k k <| ak k k <| ak k k ?_
      refine ak k k <| ae (eff_pick k k) k <| an <| tn <| ac_ent (t := mkS [(1, .ptr 0 0 0), (18, .list 1 (List.map eI a0.src)), (19, .int (a0.src.length : Int)), (20, .int x1), (45, .bl true)] [(0, ⟨3, [[.int a0.n, .list 1 (List.map eI a0.src), .list 1 (List.map eI a0.tgt)]]⟩)] 1 [1, 2]) (ent_mk (σ := sg [(0, 0)]) ⟨(pE k k), ⟨_, k, ⟨k, k⟩⟩, (e1 k k), (e1 k k), (e1 k k), trivial⟩ (hP k k k k <| trivial) k) <| ac_condT k k <| sQ <| rg <| aa k k <| an ?_
      refine tn <| ac_ret <| block_ret <| then_ret <| then_ret ?_
      obtain rfl := so h
      exact ⟨_, k, k, ret_mk k k k (fz_bl k)⟩
     ·refine aops_lit 34 k q7 <| am k k <| ae (w_field_ptr TT_ok k k k k k k k) k <| ae (w_load_ptr TT_ok k k k k k k k) k <| am k k ?_
      obtain ⟨v8, hv8, h⟩ := ob h
      refine ae (x_at_list TT_ok hv8 k k k k k k) k <| ae (w_load_ref TT_ok k k k k k k) k <| ae (x_max k k) k <| am k k <| ae (x_add k k) k <| ae (w_cmp k k k) k <| ae (eff_pick k k) k <| an <| tn <| ac_ent (t := mkS [(1, .ptr 0 0 0), (18, .list 1 (List.map eI a0.src)), (19, .int (a0.src.length : Int)), (20, .int x1), (45, .bl (!decide (max v5 v8 = wr (x1 + 1))))] [(0, ⟨3, [[.int a0.n, .list 1 (List.map eI a0.src), .list 1 (List.map eI a0.tgt)]]⟩)] 1 [1, 2]) (ent_mk (σ := sg [(0, 0)]) ⟨(pE k k), ⟨_, k, ⟨k, k⟩⟩, (e1 k k), (e1 k k), (e1 k k), trivial⟩ (hP k k k k <| trivial) k) ?_
      rcases cb h with ⟨q9, h⟩ | ⟨q9, h⟩
      ·refine ac_condT k q9 <| sQ <| rg <| aa k k <| an <| tn <| ac_ret <| block_ret <| then_ret <| then_ret ?_
       obtain rfl := so h
       exact ⟨_, k, k, ret_mk k k k (fz_bl k)⟩
      ·refine ac_condF k q9 <| ac_skip <| block_n <| tn <| rg <| ae (x_add k k) k <| am k k <| an <| tn ?_
       obtain rfl := so h
       exact ⟨_, k, (ent_mk (σ := sg [(0, 0)]) ⟨(pE k k), ⟨_, k, ⟨k, k⟩⟩, (e1 k k), (e1 k k), trivial⟩ (hP k k k k <| trivial) k)⟩
    ·refine ac_condF k q4 <| ac_exit <| then_exit <| then_exit ?_
     obtain rfl := so h
     exact ⟨_, k, k, (ent_mk (σ := sg []) trivial trivial k)⟩
   ·intro e t hX
    rcases y10 with y11 | y12
    ·obtain ⟨rfl, hent⟩ := hX
     refine block_here <| tn <| ac_ent hent <| sQ <| rg <| aa k k <| an <| tn <| ac_ret ?_
     obtain rfl := so h
     exact ret_mk k k k (fz_bl k)
    ·obtain ⟨rfl, hent⟩ := hX
     refine block_ret <| then_ret ?_
     obtain rfl := so h
     exact hent

noncomputable def m_impl_IsLine_L1 (a0 : Qv) (x1 : Int) : Option (Int ⊕ (Unit ⊕ Bool)) :=
  bif decide (x1 < (a0.src.length : Int)) then
    (Option.bind (atL a0.src x1) fun v4 =>
    bif !decide (v4 = x1) then
      (some (.inr (.inr (false))))
    else
      (some (.inl (wr (x1 + 1)))))
  else
    (some (.inr (.inl ())))

noncomputable def m_impl_IsLine (a0 : Qv) : Option Bool :=
  Option.bind (m_impl_IsZigzag a0) fun v1 =>
  bif !v1 then
    (some (false))
  else
    (Option.bind (Lp (m_impl_IsLine_L1 a0) 0) fun y6 =>
    Sum.elim (fun y7 =>
      some (true)
    ) 
    (fun y8 =>
      some y8
    )
     y6)

theorem c_impl_IsLine (a0 : Qv) (r : Bool) (h : m_impl_IsLine a0 = some r) : HasC Try.prog 100 [.agg (eQ a0)] (.bl r) := by
 refine hasC_mk TT_ok (rvs := [.tmp 2]) (ns := [0, 1, 2]) Try.func100 k k Try.ntmps100 k k k <| sQ <| rg <| ae (w_box k k k k) k <| aa k k <| an <| tn <| sQ <| sQ <| rg ?_
 refine ae (w_load_ptr TT_ok k k k k k k k) k ?_
 obtain ⟨v1, hv1, h⟩ := ob h
 refine ae (w_call0s (c_impl_IsZigzag a0 v1 hv1) k (va_cons (va_agg' (v1_cons (v1_same k) (v1_cons (v1_same k) (v1_cons (v1_same k) v1_nil)))) va_nil)) k <| ae (w_not k) k <| an <| tn ?_
 rcases cb h with ⟨q2, h⟩ | ⟨q2, h⟩
 ·refine ac_condT k q2 <| sQ <| rg <| aa k k <| an <| tn <| ac_ret <| then_ret ?_
  obtain rfl := so h
  exact ret_mk k k k (fz_bl k)
 ·refine ac_condF k q2 <| ac_skip <| tn <| sQ <| sQ <| rg <| ae (w_field_ptr TT_ok k k k k k k k) k <| ae (w_load_ptr TT_ok k k k k k k k) k <| ae (lenL TT_ok k k k) k <| am k k ?_
  refine an <| tn <| ac_block ?_
  obtain ⟨y6, hy6, h⟩ := ob h
  refine ac_Lp (body := (m_impl_IsLine_L1 a0)) hy6 (fun (x1 : Int) => mkS [(9, .list 1 (List.map eI a0.src)), (10, .int (a0.src.length : Int)), (11, .int x1)] [] 0 [0, 1, 2]) (fun r e t => Sum.elim (fun a => (fun r e t => e = .exit 0 ∧ Ent t (mkS [] [] 0 [0, 1, 2])) a e t) (fun b => (fun r e t => e = .ret ∧ RetQ TT [.tmp 2] (.bl r) .ret t) b e t) r) (ent_mk (σ := sg []) ⟨⟨_, k, ⟨k, k⟩⟩, (e1 k k), (e1 k k), trivial⟩ trivial k) ?_ ?_
  ·intro x1 o h
   refine sQ <| rg <| ae (w_cmp k k k) k <| an <| tn <| sQ ?_
   rcases cb h with ⟨q3, h⟩ | ⟨q3, h⟩
   ·refine ac_condT k q3 <| ac_skip <| tn <| sQ <| ac_block <| sQ <| rg <| am k k ?_
    obtain ⟨v4, hv4, h⟩ := ob h
    refine ae (x_at_list TT_ok hv4 k k k k k k) k <| ae (w_load_ref TT_ok k k k k k k) k <| aa k k <| aa k k <| an <| tn <| sQ <| rg <| am k k <| am k k ?_
    refine ae (w_cmp k k k) k <| an <| tn ?_
    rcases cb h with ⟨q5, h⟩ | ⟨q5, h⟩
    ·refine ac_condT k q5 <| sQ <| rg <| aa k k <| an <| tn <| ac_ret <| block_ret <| then_ret <| then_ret ?_
     obtain rfl := so h
     exact ⟨_, k, k, ret_mk k k k (fz_bl k)⟩
    ·refine ac_condF k q5 <| ac_skip <| block_n <| tn <| rg <| ae (x_add k k) k <| am k k <| an <| tn ?_
     obtain rfl := so h
     exact ⟨_, k, (ent_mk (σ := sg []) ⟨⟨_, k, ⟨k, k⟩⟩, (e1 k k), (e1 k k), trivial⟩ trivial k)⟩
   ·refine ac_condF k q3 <| ac_exit <| then_exit <| then_exit ?_
    obtain rfl := so h
    exact ⟨_, k, k, (ent_mk (σ := sg []) trivial trivial k)⟩
  ·intro e t hX
   rcases y6 with y7 | y8
   ·obtain ⟨rfl, hent⟩ := hX
    refine block_here <| tn <| ac_ent hent <| sQ <| rg <| aa k k <| an <| tn <| ac_ret ?_
    obtain rfl := so h
    exact ret_mk k k k (fz_bl k)
   ·obtain ⟨rfl, hent⟩ := hX
    refine block_ret <| then_ret ?_
    obtain rfl := so h
    exact hent

noncomputable def m_impl_Matrix_clone (a0 : Mt) : Option Mt :=
  Option.bind (m_Clone a0.cells) fun v1 =>
  some ((⟨a0.rows, a0.cols, v1⟩ : Mt))

theorem c_impl_Matrix_clone (a0 : Mt) (r : Mt) (h : m_impl_Matrix_clone a0 = some r) : HasC Try.prog 104 [.agg (eM a0)] (.agg (eM r)) := by
 refine hasC_mk TT_ok (rvs := [.cell 2 82]) (ns := [0, 1, 2, 3, 4]) Try.func104 k k Try.ntmps104 k k k <| sQ <| rg <| ae (w_box k k k k) k <| ae (w_alloc TT_ok k k) k <| an <| tn <| sQ <| rg <| ae (w_field_ptr TT_ok k k k k k k k) k ?_
 refine ae (w_load_ptr TT_ok k k k k k k k) k ?_
 obtain ⟨v1, hv1, h⟩ := ob h
 refine ae (AEff.conv (w_call0 (x := .own 2 0 (List.map eI v1).length) (nb := [(2, ⟨1, absEs (List.map eI v1)⟩)]) (c_Clone a0.cells v1 hv1) k (by rfl) k k (okI.good _) (va_cons (va_same k) va_nil)) (v' := .own 2 0 v1.length) (ed' := [(2, some ⟨1, List.map (ow eI) v1⟩)]) (by simp only [len_map]) (ed_ok (nb' := [(2, ⟨1, List.map (ow eI) v1⟩)]) (by simp only [abs_map]))) k <| ae (w_field_ptr TT_ok k k k k k k k) k <| ae (w_store TT_ok k k k k k k k k) k <| an <| tn <| sQ <| rg <| ae (w_load_ptr TT_ok k k k k k k k) k <| ae (w_store TT_ok k k k k k k k k) k <| an ?_
 refine tn <| ac_ret ?_
 obtain rfl := so h
 exact ret_mk k k k (xz_agg (x1_cons (k) (x1_cons (k) (x1_cons (x_f1 okI k k) x1_nil))))

noncomputable def m_impl_times_L2 (a0 : Int) (a2 : Mt) (v1 : Mt) (v3 : (List Int)) (x1 : ((List Int) × Int)) (x2 : ((List Int) × Int)) : Option (((List Int) × Int) ⊕ (List Int)) :=
  bif decide (x2.2 < (v3.length : Int)) then
    (Option.bind (atL v3 x2.2) fun v5 =>
    Option.bind (m_impl_Matrix_row (⟨v1.rows, v1.cols, x2.1⟩ : Mt) x1.2) fun v6 =>
    Option.bind (m_rowD a2 x2.2) fun v7 =>
    Option.bind (m_impl_addMultiple a0 x2.1 (0 + (wr (x1.2 * v1.cols)).toNat) ((wr ((wr (x1.2 + 1)) * v1.cols)).toNat - (wr (x1.2 * v1.cols)).toNat) v5 v7) fun v8 =>
    bif decide (v8.length = x2.1.length) then
      (some (.inl (v8, wr (x2.2 + 1))))
    else none)
  else
    (some (.inr x2.1))

noncomputable def m_impl_times_L1 (a0 : Int) (a1 : Mt) (a2 : Mt) (v1 : Mt) (x1 : ((List Int) × Int)) : Option (((List Int) × Int) ⊕ (List Int)) :=
  bif decide (x1.2 < a1.rows) then
    (Option.bind (m_rowD a1 x1.2) fun v3 =>
    Option.bind (Lp (m_impl_times_L2 a0 a2 v1 v3 x1) (x1.1, 0)) fun y10 =>
    some (.inl (y10, wr (x1.2 + 1))))
  else
    (some (.inr x1.1))

noncomputable def m_impl_times (a0 : Int) (a1 : Mt) (a2 : Mt) : Option Mt :=
  Option.bind (m_impl_zero a1.rows a2.cols) fun v1 =>
  Option.bind (Lp (m_impl_times_L1 a0 a1 a2 v1) (v1.cells, 0)) fun y11 =>
  some ((⟨v1.rows, v1.cols, y11⟩ : Mt))

theorem c_impl_times (a0 : Int) (a1 : Mt) (a2 : Mt) (r : Mt) (h : m_impl_times a0 a1 a2 = some r) : HasC Try.prog 102 [.int a0, .agg (eM a1), .agg (eM a2)] (.agg (eM r)) := by
 refine hasC_mk TT_ok (rvs := [.cell 6 82]) (ns := [0, 1, 2, 3, 4, 5, 6]) Try.func102 k k Try.ntmps102 k k k <| sQ <| rg <| ae (w_box k k k k) k <| ae (w_box k k k k) k <| ae (w_alloc TT_ok k k) k <| an <| tn <| sQ <| rg ?_
 refine ae (w_field_ptr TT_ok k k k k k k k) k <| ae (w_load_ptr TT_ok k k k k k k k) k <| ae (w_field_ptr TT_ok k k k k k k k) k <| ae (w_load_ptr TT_ok k k k k k k k) k ?_
 obtain ⟨v1, hv1, h⟩ := ob h
 refine ae (AEff.conv (w_call0 (x := .agg [.int v1.rows, .int v1.cols, .own 3 0 (List.map eI v1.cells).length]) (nb := [(3, ⟨1, absEs (List.map eI v1.cells)⟩)]) (c_impl_zero a1.rows a2.cols v1 hv1) k (by rfl) k k (g1_cons trivial (g1_cons trivial (g1_cons (okI.good _) g1_nil))) (va_cons (va_same k) (va_cons (va_same k) va_nil))) (v' := .agg [.int v1.rows, .int v1.cols, .own 3 0 v1.cells.length]) (ed' := [(3, some ⟨1, List.map (ow eI) v1.cells⟩)]) (by simp only [len_map]) (ed_ok (nb' := [(3, ⟨1, List.map (ow eI) v1.cells⟩)]) (by simp only [abs_map]))) k <| ae (w_alloc TT_ok k k) k <| ae (w_store TT_ok k k k k k k k k) k <| an <| tn <| sQ <| sQ <| rg <| ae (w_field_ptr TT_ok k k k k k k k) k <| ae (w_load_ptr TT_ok k k k k k k k) k ?_
 refine am k k <| an <| tn <| ac_ent (t := mkS [(0, .int a0), (4, .ptr 0 0 0), (5, .ptr 1 0 0), (6, .ptr 2 0 0), (7, .ptr 4 0 0), (17, .int a1.rows), (18, .int 0)] [(0, ⟨3, [[.int a1.rows, .int a1.cols, .list 1 (List.map eI a1.cells)]]⟩), (1, ⟨3, [[.int a2.rows, .int a2.cols, .list 1 (List.map eI a2.cells)]]⟩), (2, ⟨3, [[.int 0, .int 0, .nil 1]]⟩), (3, ⟨1, List.map (ow eI) v1.cells⟩), (4, ⟨3, [[.int v1.rows, .int v1.cols, .own 3 0 v1.cells.length]]⟩)] 5 [5, 6]) (ent_mk (σ := sg [(0, 0), (1, 1), (2, 2), (3, 3), (4, 4)]) ⟨(e1 k k), (pE k k), (pE k k), (pE k k), (pE k k), (e1 k k), (e1 k k), trivial⟩ (hP k k k k <| hP k k k k <| hP k k k k <| hI k k k <| hX ⟨_, k, k, .inr ⟨_, _, k, ⟨_, _, k, k, ⟨_, _, k, k, ⟨_, _, k, ⟨k, k, k, k⟩, k⟩⟩⟩, k⟩⟩ k <| trivial) k) <| ac_block ?_
 obtain ⟨y11, hy11, h⟩ := ob h
 refine ac_Lp (body := (m_impl_times_L1 a0 a1 a2 v1)) hy11 (fun (x1 : ((List Int) × Int)) => mkS [(0, .int a0), (4, .ptr 0 0 0), (5, .ptr 1 0 0), (6, .ptr 2 0 0), (7, .ptr 3 0 0), (17, .int a1.rows), (18, .int x1.2)] [(0, ⟨3, [[.int a1.rows, .int a1.cols, .list 1 (List.map eI a1.cells)]]⟩), (1, ⟨3, [[.int a2.rows, .int a2.cols, .list 1 (List.map eI a2.cells)]]⟩), (2, ⟨3, [[.int 0, .int 0, .nil 1]]⟩), (3, ⟨3, [[.int v1.rows, .int v1.cols, .own 4 0 x1.1.length]]⟩), (4, ⟨1, List.map (ow eI) x1.1⟩)] 5 [5, 6]) (fun r e t => e = .exit 0 ∧ Ent t (mkS [(6, .ptr 0 0 0), (7, .ptr 1 0 0)] [(0, ⟨3, [[.int 0, .int 0, .nil 1]]⟩), (1, ⟨3, [[.int v1.rows, .int v1.cols, .own 2 0 r.length]]⟩), (2, ⟨1, List.map (ow eI) r⟩)] 3 [3, 4, 5, 6])) (ent_mk (σ := sg [(0, 0), (1, 1), (2, 2), (3, 4), (4, 3)]) ⟨(e1 k k), (pE k k), (pE k k), (pE k k), (pE k k), (e1 k k), (e1 k k), trivial⟩ (hP k k k k <| hP k k k k <| hP k k k k <| hX ⟨_, k, k, .inr ⟨_, _, k, ⟨_, _, k, k, ⟨_, _, k, k, ⟨_, _, k, ⟨k, k, k, k⟩, k⟩⟩⟩, k⟩⟩ k <| hI k k k <| trivial) k) ?_ ?_
 ·intro x1 o h
  refine sQ <| rg <| ae (w_cmp k k k) k <| an <| tn <| sQ ?_
  rcases cb h with ⟨q2, h⟩ | ⟨q2, h⟩
  ·refine ac_condT k q2 <| ac_skip <| tn <| sQ <| ac_block <| sQ <| rg <| am k k <| aa k k <| an ?_
   refine tn <| sQ <| rg <| ae (w_load_ptr TT_ok k k k k k k k) k <| am k k ?_
   obtain ⟨v3, hv3, h⟩ := ob h
   refine ae (eff_hasV (c_rowD a1 x1.2 v3 hv3) k k k) k <| ae (lenL TT_ok k k k) k <| am k k <| an <| tn <| ac_block ?_
   obtain ⟨y10, hy10, h⟩ := ob h
   refine ac_Lp (body := (m_impl_times_L2 a0 a2 v1 v3 x1)) hy10 (fun (x2 : ((List Int) × Int)) => mkS [(0, .int a0), (4, .ptr 0 0 0), (5, .ptr 1 0 0), (6, .ptr 2 0 0), (7, .ptr 3 0 0), (8, .int x1.2), (17, .int a1.rows), (18, .int x1.2), (23, .list 1 (List.map eI v3)), (24, .int (v3.length : Int)), (25, .int x2.2)] [(0, ⟨3, [[.int a1.rows, .int a1.cols, .list 1 (List.map eI a1.cells)]]⟩), (1, ⟨3, [[.int a2.rows, .int a2.cols, .list 1 (List.map eI a2.cells)]]⟩), (2, ⟨3, [[.int 0, .int 0, .nil 1]]⟩), (3, ⟨3, [[.int v1.rows, .int v1.cols, .own 4 0 x2.1.length]]⟩), (4, ⟨1, List.map (ow eI) x2.1⟩)] 5 [5, 6]) (fun r e t => e = .exit 2 ∧ Ent t (mkS [(0, .int a0), (4, .ptr 0 0 0), (5, .ptr 1 0 0), (6, .ptr 2 0 0), (7, .ptr 3 0 0), (17, .int a1.rows), (18, .int x1.2)] [(0, ⟨3, [[.int a1.rows, .int a1.cols, .list 1 (List.map eI a1.cells)]]⟩), (1, ⟨3, [[.int a2.rows, .int a2.cols, .list 1 (List.map eI a2.cells)]]⟩), (2, ⟨3, [[.int 0, .int 0, .nil 1]]⟩), (3, ⟨3, [[.int v1.rows, .int v1.cols, .own 4 0 r.length]]⟩), (4, ⟨1, List.map (ow eI) r⟩)] 5 [5, 6])) (ent_mk (σ := sg [(0, 0), (1, 1), (2, 2), (3, 3), (4, 4)]) ⟨(e1 k k), (pE k k), (pE k k), (pE k k), (pE k k), (e1 k k), (e1 k k), (e1 k k), ⟨_, k, ⟨k, k⟩⟩, (e1 k k), (e1 k k), trivial⟩ (hP k k k k <| hP k k k k <| hP k k k k <| hX ⟨_, k, k, .inr ⟨_, _, k, ⟨_, _, k, k, ⟨_, _, k, k, ⟨_, _, k, ⟨k, k, k, k⟩, k⟩⟩⟩, k⟩⟩ k <| hI k k k <| trivial) k) ?_ ?_
   ·intro x2 o h
    refine sQ <| rg <| ae (w_cmp k k k) k <| an <| tn <| sQ ?_
    rcases cb h with ⟨q4, h⟩ | ⟨q4, h⟩
    ·refine ac_condT k q4 <| ac_skip <| tn <| sQ <| ac_block <| sQ <| rg <| am k k ?_
     obtain ⟨v5, hv5, h⟩ := ob h
     refine ae (x_at_list TT_ok hv5 k k k k k k) k <| ae (w_load_ref TT_ok k k k k k k) k <| aa k k <| aa k k <| an <| tn <| ac_region_draw MIXX <| am k k <| ae (w_load_ptr TT_ok k k k k k k k) k <| am k k ?_
     obtain ⟨v6, hv6, h⟩ := ob h
     refine ae (AEff.pureE (eff_hasE (σ := sg [(0, 4)]) (σ' := sg [(4, 0)]) (touch := [4]) (news := []) (hl2 := [(4, ⟨1, List.map (ow eI) x2.1⟩)]) (n' := 5) (r2 := .own 4 (0 + (wr (x1.2 * v1.cols)).toNat) ((wr ((wr (x1.2 + 1)) * v1.cols)).toNat - (wr (x1.2 * v1.cols)).toNat)) (c_impl_Matrix_row (⟨v1.rows, v1.cols, x2.1⟩ : Mt) x1.2 v6 hv6) k k ⟨_, _, k, ⟨_, _, k, k, ⟨_, _, k, k, ⟨_, _, k, ⟨k, k, k, k⟩, k⟩⟩⟩, ⟨_, _, k, k, k⟩⟩ ⟨⟨_, k, k, .inl ⟨k, okI.plainO _⟩⟩, k, trivial⟩ k k k ⟨⟨_, k, k, .inl ⟨k, okI.plainO _⟩⟩, k, trivial⟩ k ⟨k, k, (by simp only [len_map, lA, lT, lR, lC, lN]), k⟩ k ⟨k, okI.tame _ _, trivial⟩ k k) ⟨k, k, trivial⟩) k <| am k k <| ae (w_load_ptr TT_ok k k k k k k k) k <| am k k ?_
     obtain ⟨v7, hv7, h⟩ := ob h
     refine ae (eff_hasV (c_rowD a2 x2.2 v7 hv7) k k k) k ?_
     obtain ⟨v8, hv8, h⟩ := ob h
     refine ae (eff_hasE (σ := sg [(0, 4)]) (σ' := sg [(4, 0)]) (touch := [4]) (news := []) (hl2 := [(4, ⟨1, List.map (ow eI) v8⟩)]) (n' := 5) (r2 := .own 4 (0 + (wr (x1.2 * v1.cols)).toNat) ((wr ((wr (x1.2 + 1)) * v1.cols)).toNat - (wr (x1.2 * v1.cols)).toNat)) (c_impl_addMultiple a0 x2.1 (0 + (wr (x1.2 * v1.cols)).toNat) ((wr ((wr (x1.2 + 1)) * v1.cols)).toNat - (wr (x1.2 * v1.cols)).toNat) v5 v7 v8 hv8) k k ⟨_, _, k, k, ⟨_, _, k, ⟨k, k, k, k⟩, ⟨_, _, k, k, ⟨_, _, k, ⟨k, k⟩, k⟩⟩⟩⟩ ⟨⟨_, k, k, .inl ⟨k, okI.plainO _⟩⟩, k, trivial⟩ k k k ⟨⟨_, k, k, .inl ⟨k, okI.plainO _⟩⟩, k, trivial⟩ k ⟨k, k, (by simp only [len_map, lA, lT, lR, lC, lN]), k⟩ k ⟨k, okI.tame _ _, trivial⟩ k k) k ?_
     obtain ⟨q9, h⟩ := cg h
     refine an ?_
     refine ⟨by kernel_rfl, ?_⟩
     refine block_n <| tn <| ac_ent (t := mkS [(0, .int a0), (4, .ptr 0 0 0), (5, .ptr 1 0 0), (6, .ptr 2 0 0), (7, .ptr 3 0 0), (8, .int x1.2), (17, .int a1.rows), (18, .int x1.2), (23, .list 1 (List.map eI v3)), (24, .int (v3.length : Int)), (25, .int x2.2)] [(0, ⟨3, [[.int a1.rows, .int a1.cols, .list 1 (List.map eI a1.cells)]]⟩), (1, ⟨3, [[.int a2.rows, .int a2.cols, .list 1 (List.map eI a2.cells)]]⟩), (2, ⟨3, [[.int 0, .int 0, .nil 1]]⟩), (3, ⟨3, [[.int v1.rows, .int v1.cols, .own 4 0 v8.length]]⟩), (4, ⟨1, List.map (ow eI) v8⟩)] 5 [5, 6]) (ent_mk (σ := sg [(0, 0), (1, 1), (2, 2), (3, 3), (4, 4)]) ⟨(e1 k k), (pE k k), (pE k k), (pE k k), (pE k k), (e1 k k), (e1 k k), (e1 k k), ⟨_, k, ⟨k, k⟩⟩, (e1 k k), (e1 k k), trivial⟩ (hP k k k k <| hP k k k k <| hP k k k k <| hX ⟨_, k, k, .inr ⟨_, _, k, ⟨_, _, k, k, ⟨_, _, k, k, ⟨_, _, k, ⟨k, k, (by simp only [len_map, lA, lT, lR, lC, lN, of_decide_eq_true q9]), k⟩, k⟩⟩⟩, k⟩⟩ k <| hI k k k <| trivial) k) <| rg <| ae (x_add k k) k <| am k k <| an <| tn ?_
     obtain rfl := so h
     exact ⟨_, k, (ent_mk (σ := sg [(0, 0), (1, 1), (2, 2), (3, 3), (4, 4)]) ⟨(e1 k k), (pE k k), (pE k k), (pE k k), (pE k k), (e1 k k), (e1 k k), (e1 k k), ⟨_, k, ⟨k, k⟩⟩, (e1 k k), (e1 k k), trivial⟩ (hP k k k k <| hP k k k k <| hP k k k k <| hX ⟨_, k, k, .inr ⟨_, _, k, ⟨_, _, k, k, ⟨_, _, k, k, ⟨_, _, k, ⟨k, k, k, k⟩, k⟩⟩⟩, k⟩⟩ k <| hI k k k <| trivial) k)⟩
    ·refine ac_condF k q4 <| ac_exit <| then_exit <| then_exit ?_
     obtain rfl := so h
     exact ⟨_, k, k, (ent_mk (σ := sg [(0, 0), (1, 1), (2, 2), (3, 3), (4, 4)]) ⟨(e1 k k), (pE k k), (pE k k), (pE k k), (pE k k), (e1 k k), (e1 k k), trivial⟩ (hP k k k k <| hP k k k k <| hP k k k k <| hX ⟨_, k, k, .inr ⟨_, _, k, ⟨_, _, k, k, ⟨_, _, k, k, ⟨_, _, k, ⟨k, k, k, k⟩, k⟩⟩⟩, k⟩⟩ k <| hI k k k <| trivial) k)⟩
   ·rintro e t ⟨rfl, hent⟩
    refine block_here <| block_n <| tn <| ac_ent hent <| rg <| ae (x_add k k) k <| am k k <| an <| tn ?_
    obtain rfl := so h
    exact ⟨_, k, (ent_mk (σ := sg [(0, 0), (1, 1), (2, 2), (3, 3), (4, 4)]) ⟨(e1 k k), (pE k k), (pE k k), (pE k k), (pE k k), (e1 k k), (e1 k k), trivial⟩ (hP k k k k <| hP k k k k <| hP k k k k <| hX ⟨_, k, k, .inr ⟨_, _, k, ⟨_, _, k, k, ⟨_, _, k, k, ⟨_, _, k, ⟨k, k, k, k⟩, k⟩⟩⟩, k⟩⟩ k <| hI k k k <| trivial) k)⟩
  ·refine ac_condF k q2 <| ac_exit <| then_exit <| then_exit ?_
   obtain rfl := so h
   exact ⟨_, k, k, (ent_mk (σ := sg [(0, 2), (1, 3), (2, 4)]) ⟨(pE k k), (pE k k), trivial⟩ (hP k k k k <| hX ⟨_, k, k, .inr ⟨_, _, k, ⟨_, _, k, k, ⟨_, _, k, k, ⟨_, _, k, ⟨k, k, k, k⟩, k⟩⟩⟩, k⟩⟩ k <| hI k k k <| trivial) k)⟩
 ·rintro e t ⟨rfl, hent⟩
  refine block_here <| tn <| ac_ent hent <| sQ <| rg <| ae (w_load_ptr TT_ok k k k k k k k) k <| ae (w_store TT_ok k k k k k k k k) k <| an <| tn <| ac_ret ?_
  obtain rfl := so h
  exact ret_mk k k k (xz_agg (x1_cons (k) (x1_cons (k) (x1_cons (x_f1 okI k k) x1_nil))))

noncomputable def m_impl_reduce_L2 (v1 : Mt) (x1 : (Int × (List Int) × (List Int))) (x2 : Int) : Option (Int ⊕ Int) :=
  bif decide (x2 < v1.rows) then
    (Option.bind (m_impl_Matrix_row (⟨v1.rows, v1.cols, x1.2.1⟩ : Mt) x2) fun v4 =>
    bif (decide (0 ≤ x1.1) && decide (x1.1 < ((((wr ((wr (x2 + 1)) * v1.cols)).toNat - (wr (x2 * v1.cols)).toNat) : Nat) : Int))) then
      (Option.bind (x1.2.1[((0 + (wr (x2 * v1.cols)).toNat) + x1.1.toNat)]?) fun v5 =>
      bif decide (v5 = 0) then
        (some (.inl (wr (x2 + 1))))
      else
        (some (.inr x2))
      )
    else none)
  else
    (some (.inr x2))

noncomputable def m_impl_reduce_L3 (v1 : Mt) (x1 : (Int × (List Int) × (List Int))) (y8 : Int) (x3 : ((List Int) × Int)) : Option (((List Int) × Int) ⊕ (List Int)) :=
  bif decide (x3.2 < v1.cols) then
    (Option.bind (m_impl_Matrix_row (⟨v1.rows, v1.cols, x3.1⟩ : Mt) y8) fun v12 =>
    Option.bind (m_impl_Matrix_row (⟨v1.rows, v1.cols, x3.1⟩ : Mt) y8) fun v13 =>
    bif (decide (0 ≤ x3.2) && decide (x3.2 < ((((wr ((wr (y8 + 1)) * v1.cols)).toNat - (wr (y8 * v1.cols)).toNat) : Nat) : Int))) then
      (Option.bind (x3.1[((0 + (wr (y8 * v1.cols)).toNat) + x3.2.toNat)]?) fun v14 =>
      bif (decide (0 ≤ x3.2) && decide (x3.2 < ((((wr ((wr (((x1.2.2.length : Nat) : Int) + 1)) * v1.cols)).toNat - (wr (((x1.2.2.length : Nat) : Int) * v1.cols)).toNat) : Nat) : Int))) then
        (Option.bind (x3.1[((0 + (wr (((x1.2.2.length : Nat) : Int) * v1.cols)).toNat) + x3.2.toNat)]?) fun v16 =>
        bif (decide (0 ≤ x3.2) && decide (x3.2 < ((((wr ((wr (((x1.2.2.length : Nat) : Int) + 1)) * v1.cols)).toNat - (wr (((x1.2.2.length : Nat) : Int) * v1.cols)).toNat) : Nat) : Int))) then
          (Option.bind (x3.1[((0 + (wr (((x1.2.2.length : Nat) : Int) * v1.cols)).toNat) + x3.2.toNat)]?) fun v18 =>
          bif (decide (0 ≤ x3.2) && decide (x3.2 < ((((wr ((wr (y8 + 1)) * v1.cols)).toNat - (wr (y8 * v1.cols)).toNat) : Nat) : Int))) then
            (Option.bind ((x3.1.set ((0 + (wr (((x1.2.2.length : Nat) : Int) * v1.cols)).toNat) + x3.2.toNat) v14)[((0 + (wr (y8 * v1.cols)).toNat) + x3.2.toNat)]?) fun v20 =>
            some (.inl (((x3.1.set ((0 + (wr (((x1.2.2.length : Nat) : Int) * v1.cols)).toNat) + x3.2.toNat) v14).set ((0 + (wr (y8 * v1.cols)).toNat) + x3.2.toNat) v16), wr (x3.2 + 1)))
            )
          else none
          )
        else none
        )
      else none
      )
    else none)
  else
    (some (.inr x3.1))

noncomputable def m_impl_reduce_L4 (a0 : Int) (v1 : Mt) (v25 : Int) (x1 : (Int × (List Int) × (List Int))) (x4 : ((List Int) × Int)) : Option (((List Int) × Int) ⊕ (List Int)) :=
  bif decide (x4.2 < ((((wr ((wr (((x1.2.2.length : Nat) : Int) + 1)) * v1.cols)).toNat - (wr (((x1.2.2.length : Nat) : Int) * v1.cols)).toNat) : Nat) : Int)) then
    (bif (decide (0 ≤ x4.2) && decide (x4.2 < ((((wr ((wr (((x1.2.2.length : Nat) : Int) + 1)) * v1.cols)).toNat - (wr (((x1.2.2.length : Nat) : Int) * v1.cols)).toNat) : Nat) : Int))) then
      (Option.bind (x4.1[((0 + (wr (((x1.2.2.length : Nat) : Int) * v1.cols)).toNat) + x4.2.toNat)]?) fun v27 =>
      bif !decide (a0 = 0) then
        (bif (decide (0 ≤ x4.2) && decide (x4.2 < ((((wr ((wr (((x1.2.2.length : Nat) : Int) + 1)) * v1.cols)).toNat - (wr (((x1.2.2.length : Nat) : Int) * v1.cols)).toNat) : Nat) : Int))) then
          (Option.bind (x4.1[((0 + (wr (((x1.2.2.length : Nat) : Int) * v1.cols)).toNat) + x4.2.toNat)]?) fun v29 =>
          some (.inl ((x4.1.set ((0 + (wr (((x1.2.2.length : Nat) : Int) * v1.cols)).toNat) + x4.2.toNat) ((wr (v27 * v25)).tmod a0)), wr (x4.2 + 1)))
          )
        else none)
      else none
      )
    else none)
  else
    (some (.inr x4.1))

noncomputable def m_impl_reduce_L5 (a0 : Int) (v1 : Mt) (x1 : (Int × (List Int) × (List Int))) (x5 : ((List Int) × Int)) : Option (((List Int) × Int) ⊕ (List Int)) :=
  bif decide (x5.2 < v1.rows) then
    (bif !decide (x5.2 = ((x1.2.2.length : Nat) : Int)) then
      (Option.bind (m_impl_Matrix_row (⟨v1.rows, v1.cols, x5.1⟩ : Mt) x5.2) fun v35 =>
      Option.bind (m_impl_Matrix_row (⟨v1.rows, v1.cols, x5.1⟩ : Mt) x5.2) fun v36 =>
      bif (decide (0 ≤ x1.1) && decide (x1.1 < ((((wr ((wr (x5.2 + 1)) * v1.cols)).toNat - (wr (x5.2 * v1.cols)).toNat) : Nat) : Int))) then
        (Option.bind (x5.1[((0 + (wr (x5.2 * v1.cols)).toNat) + x1.1.toNat)]?) fun v37 =>
        Option.bind (m_impl_addMultiple_same a0 x5.1 (0 + (wr (x5.2 * v1.cols)).toNat) ((wr ((wr (x5.2 + 1)) * v1.cols)).toNat - (wr (x5.2 * v1.cols)).toNat) (wr (a0 - v37)) (0 + (wr (((x1.2.2.length : Nat) : Int) * v1.cols)).toNat) ((wr ((wr (((x1.2.2.length : Nat) : Int) + 1)) * v1.cols)).toNat - (wr (((x1.2.2.length : Nat) : Int) * v1.cols)).toNat)) fun v39 =>
        bif decide (v39.length = x5.1.length) then
          (some (.inl (v39, wr (x5.2 + 1))))
        else none
        )
      else none)
    else
      (some (.inl (x5.1, wr (x5.2 + 1)))))
  else
    (some (.inr x5.1))

noncomputable def m_impl_reduce_L1 (a0 : Int) (v1 : Mt) (x1 : (Int × (List Int) × (List Int))) : Option ((Int × (List Int) × (List Int)) ⊕ ((List Int) × (List Int))) :=
  bif decide (x1.1 < v1.cols) then
    (Option.bind (Lp (m_impl_reduce_L2 v1 x1) ((x1.2.2.length : Nat) : Int)) fun y8 =>
    bif decide (y8 = v1.rows) then
      (some (.inl (wr (x1.1 + 1), x1.2.1, x1.2.2)))
    else
      (Option.bind (m_impl_Matrix_row (⟨v1.rows, v1.cols, x1.2.1⟩ : Mt) ((x1.2.2.length : Nat) : Int)) fun v10 =>
      Option.bind (Lp (m_impl_reduce_L3 v1 x1 y8) (x1.2.1, 0)) fun y22 =>
      bif (decide (0 ≤ x1.1) && decide (x1.1 < ((((wr ((wr (((x1.2.2.length : Nat) : Int) + 1)) * v1.cols)).toNat - (wr (((x1.2.2.length : Nat) : Int) * v1.cols)).toNat) : Nat) : Int))) then
        (Option.bind (y22[((0 + (wr (((x1.2.2.length : Nat) : Int) * v1.cols)).toNat) + x1.1.toNat)]?) fun v23 =>
        Option.bind (m_impl_InverseMod a0 v23) fun v25 =>
        Option.bind (Lp (m_impl_reduce_L4 a0 v1 v25 x1) (y22, 0)) fun y32 =>
        Option.bind (Lp (m_impl_reduce_L5 a0 v1 x1) (y32, 0)) fun y41 =>
        bif decide (x1.2.2.length + [x1.1].length ≤ 4294967296) then
          (some (.inl (wr (x1.1 + 1), y41, (x1.2.2 ++ [x1.1]))))
        else none
        )
      else none))
  else
    (some (.inr (x1.2.1, x1.2.2)))

noncomputable def m_impl_reduce (a0 : Int) (a1 : Mt) : Option (Mt × (List Int)) :=
  Option.bind (m_impl_Matrix_clone a1) fun v1 =>
  Option.bind (Lp (m_impl_reduce_L1 a0 v1) (0, v1.cells, [])) fun y43 =>
  some (((⟨v1.rows, v1.cols, y43.1⟩ : Mt), y43.2))

theorem c_impl_reduce (a0 : Int) (a1 : Mt) (r : (Mt × (List Int))) (h : m_impl_reduce a0 a1 = some r) : HasC Try.prog 139 [.int a0, .agg (eM a1)] (.tuple [.agg (eM r.1), .list 1 (List.map eI r.2)]) := by
 refine hasC_mk TT_ok (rvs := [.cell 4 82, .tmp 5]) (ns := [0, 1, 2, 3, 4, 5, 6, 7]) Try.func139 k k Try.ntmps139 k k k <| sQ <| rg <| ae (w_box k k k k) k <| ae (w_alloc TT_ok k k) k <| aa k k <| an <| tn <| sQ <| rg ?_
 refine ae (w_load_ptr TT_ok k k k k k k k) k ?_
 obtain ⟨v1, hv1, h⟩ := ob h
 refine ae (AEff.conv (w_call0 (x := .agg [.int v1.rows, .int v1.cols, .own 2 0 (List.map eI v1.cells).length]) (nb := [(2, ⟨1, absEs (List.map eI v1.cells)⟩)]) (c_impl_Matrix_clone a1 v1 hv1) k (by rfl) k k (g1_cons trivial (g1_cons trivial (g1_cons (okI.good _) g1_nil))) (va_cons (va_agg' (v1_cons (v1_same k) (v1_cons (v1_same k) (v1_cons (v1_same k) v1_nil)))) va_nil)) (v' := .agg [.int v1.rows, .int v1.cols, .own 2 0 v1.cells.length]) (ed' := [(2, some ⟨1, List.map (ow eI) v1.cells⟩)]) (by simp only [len_map]) (ed_ok (nb' := [(2, ⟨1, List.map (ow eI) v1.cells⟩)]) (by simp only [abs_map]))) k <| ae (w_store TT_ok k k k k k k k k) k <| an <| tn <| sQ <| rg <| aa k k <| an <| tn <| sQ ?_
 refine sQ <| rg <| ae (w_field_ptr TT_ok k k k k k k k) k <| ae (w_load_ptr TT_ok k k k k k k k) k <| am k k <| an <| tn <| ac_block ?_
 obtain ⟨y43, hy43, h⟩ := ob h
 refine ac_Lp (body := (m_impl_reduce_L1 a0 v1)) hy43 (fun (x1 : (Int × (List Int) × (List Int))) => mkS [(0, .int a0), (3, .ptr 0 0 0), (4, .ptr 2 0 0), (6, .own 3 0 x1.2.2.length), (17, .int v1.cols), (18, .int x1.1)] [(0, ⟨3, [[.int v1.rows, .int v1.cols, .own 1 0 x1.2.1.length]]⟩), (1, ⟨1, List.map (ow eI) x1.2.1⟩), (2, ⟨3, [[.int 0, .int 0, .nil 1]]⟩), (3, ⟨1, List.map (ow eI) x1.2.2⟩)] 4 [4, 5, 6, 7]) (fun r e t => e = .exit 0 ∧ Ent t (mkS [(3, .ptr 0 0 0), (4, .ptr 2 0 0), (6, .own 3 0 r.2.length)] [(0, ⟨3, [[.int v1.rows, .int v1.cols, .own 1 0 r.1.length]]⟩), (1, ⟨1, List.map (ow eI) r.1⟩), (2, ⟨3, [[.int 0, .int 0, .nil 1]]⟩), (3, ⟨1, List.map (ow eI) r.2⟩)] 4 [4, 5, 6, 7])) (ent_mk (σ := sg [(0, 0), (1, 2), (2, 1)]) ⟨(e1 k k), (pE k k), (pE k k), ⟨_, k, ⟨k, k, k, k⟩⟩, (e1 k k), (e1 k k), trivial⟩ (hX ⟨_, k, k, .inr ⟨_, _, k, ⟨_, _, k, k, ⟨_, _, k, k, ⟨_, _, k, ⟨k, k, k, k⟩, k⟩⟩⟩, k⟩⟩ k <| hI k k k <| hP k k k k <| hX k k <| trivial) k) ?_ ?_
 ·intro x1 o h
  refine sQ <| rg <| ae (w_cmp k k k) k <| an <| tn <| sQ ?_
  rcases cb h with ⟨q2, h⟩ | ⟨q2, h⟩
  ·refine ac_condT k q2 <| ac_skip <| tn <| sQ <| ac_block <| sQ <| rg <| am k k <| aa k k <| an ?_
   refine tn <| sQ <| rg <| am k k <| ae (w_len_own TT_ok k k k k) k <| aa k k <| an <| tn <| sQ <| ac_block ?_
   obtain ⟨y8, hy8, h⟩ := ob h
   refine ac_Lp (body := (m_impl_reduce_L2 v1 x1)) hy8 (fun (x2 : Int) => mkS [(0, .int a0), (3, .ptr 0 0 0), (4, .ptr 2 0 0), (6, .own 3 0 x1.2.2.length), (7, .int x1.1), (8, .int x2), (17, .int v1.cols), (18, .int x1.1)] [(0, ⟨3, [[.int v1.rows, .int v1.cols, .own 1 0 x1.2.1.length]]⟩), (1, ⟨1, List.map (ow eI) x1.2.1⟩), (2, ⟨3, [[.int 0, .int 0, .nil 1]]⟩), (3, ⟨1, List.map (ow eI) x1.2.2⟩)] 4 [4, 5, 6, 7]) (fun r e t => e = .exit 2 ∧ Ent t (mkS [(0, .int a0), (3, .ptr 0 0 0), (4, .ptr 2 0 0), (6, .own 3 0 x1.2.2.length), (7, .int x1.1), (8, .int r), (17, .int v1.cols), (18, .int x1.1)] [(0, ⟨3, [[.int v1.rows, .int v1.cols, .own 1 0 x1.2.1.length]]⟩), (1, ⟨1, List.map (ow eI) x1.2.1⟩), (2, ⟨3, [[.int 0, .int 0, .nil 1]]⟩), (3, ⟨1, List.map (ow eI) x1.2.2⟩)] 4 [4, 5, 6, 7])) (ent_mk (σ := sg [(0, 0), (1, 1), (2, 2), (3, 3)]) ⟨(e1 k k), (pE k k), (pE k k), (oE k k), (e1 k k), (e1 k k), (e1 k k), (e1 k k), trivial⟩ (hX ⟨_, k, k, .inr ⟨_, _, k, ⟨_, _, k, k, ⟨_, _, k, k, ⟨_, _, k, ⟨k, k, k, k⟩, k⟩⟩⟩, k⟩⟩ k <| hI k k k <| hP k k k k <| hI k k k <| trivial) k) ?_ ?_
   ·intro x2 o h
    refine sQ <| sQ <| rg <| am k k <| ae (w_field_ptr TT_ok k k k k k k k) k <| ae (w_load_ptr TT_ok k k k k k k k) k <| ae (w_cmp k k k) k <| am k k ?_
    rcases cb h with ⟨q3, h⟩ | ⟨q3, h⟩
    ·refine aops_lit 27 k q3 <| ae (w_load_ptr TT_ok k k k k k k k) k <| am k k ?_
     obtain ⟨v4, hv4, h⟩ := ob h
     refine ae (AEff.pureE (eff_hasE (σ := sg [(0, 1)]) (σ' := sg [(1, 0)]) (touch := [1]) (news := []) (hl2 := [(1, ⟨1, List.map (ow eI) x1.2.1⟩)]) (n' := 4) (r2 := .own 1 (0 + (wr (x2 * v1.cols)).toNat) ((wr ((wr (x2 + 1)) * v1.cols)).toNat - (wr (x2 * v1.cols)).toNat)) (c_impl_Matrix_row (⟨v1.rows, v1.cols, x1.2.1⟩ : Mt) x2 v4 hv4) k k ⟨_, _, k, ⟨_, _, k, k, ⟨_, _, k, k, ⟨_, _, k, ⟨k, k, k, k⟩, k⟩⟩⟩, ⟨_, _, k, k, k⟩⟩ ⟨⟨_, k, k, .inl ⟨k, okI.plainO _⟩⟩, k, trivial⟩ k k k ⟨⟨_, k, k, .inl ⟨k, okI.plainO _⟩⟩, k, trivial⟩ k ⟨k, k, (by simp only [len_map, lA, lT, lR, lC, lN]), k⟩ k ⟨k, okI.tame _ _, trivial⟩ k k) ⟨k, k, trivial⟩) k <| am k k ?_
     obtain ⟨q6, h⟩ := cg h
     obtain ⟨v5, hv5, h⟩ := ob h
     refine ae (x_at_part TT_ok q6 k k k k k k k) k <| ae (w_load_ptr TT_ok k k k k (map_at (hv5)) k k) k <| ae (w_cmp k k k) k <| ae (eff_pick k k) k <| an <| tn <| ac_ent (t := mkS [(0, .int a0), (3, .ptr 0 0 0), (4, .ptr 2 0 0), (6, .own 3 0 x1.2.2.length), (7, .int x1.1), (8, .int x2), (17, .int v1.cols), (18, .int x1.1), (35, .bl (decide (v5 = 0)))] [(0, ⟨3, [[.int v1.rows, .int v1.cols, .own 1 0 x1.2.1.length]]⟩), (1, ⟨1, List.map (ow eI) x1.2.1⟩), (2, ⟨3, [[.int 0, .int 0, .nil 1]]⟩), (3, ⟨1, List.map (ow eI) x1.2.2⟩)] 4 [4, 5, 6, 7]) (ent_mk (σ := sg [(0, 0), (1, 1), (2, 2), (3, 3)]) ⟨(e1 k k), (pE k k), (pE k k), (oE k k), (e1 k k), (e1 k k), (e1 k k), (e1 k k), (e1 k k), trivial⟩ (hX ⟨_, k, k, .inr ⟨_, _, k, ⟨_, _, k, k, ⟨_, _, k, k, ⟨_, _, k, ⟨k, k, k, k⟩, k⟩⟩⟩, k⟩⟩ k <| hI k k k <| hP k k k k <| hI k k k <| trivial) k) ?_
     rcases cb h with ⟨q7, h⟩ | ⟨q7, h⟩
     ·refine ac_condT k q7 <| ac_skip <| tn <| ac_block <| rg <| am k k <| ae (x_add k k) k <| aa k k <| an <| block_n ?_
      refine tn ?_
      obtain rfl := so h
      exact ⟨_, k, (ent_mk (σ := sg [(0, 0), (1, 1), (2, 2), (3, 3)]) ⟨(e1 k k), (pE k k), (pE k k), (oE k k), (e1 k k), (e1 k k), (e1 k k), (e1 k k), trivial⟩ (hX ⟨_, k, k, .inr ⟨_, _, k, ⟨_, _, k, k, ⟨_, _, k, k, ⟨_, _, k, ⟨k, k, k, k⟩, k⟩⟩⟩, k⟩⟩ k <| hI k k k <| hP k k k k <| hI k k k <| trivial) k)⟩
     ·refine ac_condF k q7 <| ac_exit <| then_exit <| then_exit ?_
      obtain rfl := so h
      exact ⟨_, k, k, (ent_mk (σ := sg [(0, 0), (1, 1), (2, 2), (3, 3)]) ⟨(e1 k k), (pE k k), (pE k k), (oE k k), (e1 k k), (e1 k k), (e1 k k), (e1 k k), trivial⟩ (hX ⟨_, k, k, .inr ⟨_, _, k, ⟨_, _, k, k, ⟨_, _, k, k, ⟨_, _, k, ⟨k, k, k, k⟩, k⟩⟩⟩, k⟩⟩ k <| hI k k k <| hP k k k k <| hI k k k <| trivial) k)⟩
    ·refine aops_lit 27 k q3 <| ak k k <| ak k k <| ak k k <| ak k k <| ak k k <| ak k k <| ak k k <| ae (eff_pick k k) k <| an ?_
     refine tn <| ac_ent (t := mkS [(0, .int a0), (3, .ptr 0 0 0), (4, .ptr 2 0 0), (6, .own 3 0 x1.2.2.length), (7, .int x1.1), (8, .int x2), (17, .int v1.cols), (18, .int x1.1), (35, .bl false)] [(0, ⟨3, [[.int v1.rows, .int v1.cols, .own 1 0 x1.2.1.length]]⟩), (1, ⟨1, List.map (ow eI) x1.2.1⟩), (2, ⟨3, [[.int 0, .int 0, .nil 1]]⟩), (3, ⟨1, List.map (ow eI) x1.2.2⟩)] 4 [4, 5, 6, 7]) (ent_mk (σ := sg [(0, 0), (1, 1), (2, 2), (3, 3)]) ⟨(e1 k k), (pE k k), (pE k k), (oE k k), (e1 k k), (e1 k k), (e1 k k), (e1 k k), (e1 k k), trivial⟩ (hX ⟨_, k, k, .inr ⟨_, _, k, ⟨_, _, k, k, ⟨_, _, k, k, ⟨_, _, k, ⟨k, k, k, k⟩, k⟩⟩⟩, k⟩⟩ k <| hI k k k <| hP k k k k <| hI k k k <| trivial) k) <| ac_condF k k <| ac_exit <| then_exit <| then_exit ?_
     obtain rfl := so h
     exact ⟨_, k, k, (ent_mk (σ := sg [(0, 0), (1, 1), (2, 2), (3, 3)]) ⟨(e1 k k), (pE k k), (pE k k), (oE k k), (e1 k k), (e1 k k), (e1 k k), (e1 k k), trivial⟩ (hX ⟨_, k, k, .inr ⟨_, _, k, ⟨_, _, k, k, ⟨_, _, k, k, ⟨_, _, k, ⟨k, k, k, k⟩, k⟩⟩⟩, k⟩⟩ k <| hI k k k <| hP k k k k <| hI k k k <| trivial) k)⟩
   ·rintro e t ⟨rfl, hent⟩
    refine block_here <| tn <| ac_ent hent <| sQ <| sQ <| rg <| am k k <| ae (w_field_ptr TT_ok k k k k k k k) k <| ae (w_load_ptr TT_ok k k k k k k k) k <| ae (w_cmp k k k) k ?_
    refine an <| tn ?_
    rcases cb h with ⟨q9, h⟩ | ⟨q9, h⟩
    ·refine ac_condT k q9 <| ac_exit <| then_exit <| block_here <| tn <| rg <| ae (x_add k k) k <| am k k <| an <| tn ?_
     obtain rfl := so h
     exact ⟨_, k, (ent_mk (σ := sg [(0, 0), (1, 1), (2, 2), (3, 3)]) ⟨(e1 k k), (pE k k), (pE k k), (oE k k), (e1 k k), (e1 k k), trivial⟩ (hX ⟨_, k, k, .inr ⟨_, _, k, ⟨_, _, k, k, ⟨_, _, k, k, ⟨_, _, k, ⟨k, k, k, k⟩, k⟩⟩⟩, k⟩⟩ k <| hI k k k <| hP k k k k <| hI k k k <| trivial) k)⟩
    ·refine ac_condF k q9 <| ac_skip <| tn <| sQ <| rg <| ae (w_load_ptr TT_ok k k k k k k k) k <| am k k <| ae (w_len_own TT_ok k k k k) k ?_
     obtain ⟨v10, hv10, h⟩ := ob h
     refine ae (AEff.pureE (eff_hasE (σ := sg [(0, 1)]) (σ' := sg [(1, 0)]) (touch := [1]) (news := []) (hl2 := [(1, ⟨1, List.map (ow eI) x1.2.1⟩)]) (n' := 4) (r2 := .own 1 (0 + (wr (((x1.2.2.length : Nat) : Int) * v1.cols)).toNat) ((wr ((wr (((x1.2.2.length : Nat) : Int) + 1)) * v1.cols)).toNat - (wr (((x1.2.2.length : Nat) : Int) * v1.cols)).toNat)) (c_impl_Matrix_row (⟨v1.rows, v1.cols, x1.2.1⟩ : Mt) ((x1.2.2.length : Nat) : Int) v10 hv10) k k ⟨_, _, k, ⟨_, _, k, k, ⟨_, _, k, k, ⟨_, _, k, ⟨k, k, k, k⟩, k⟩⟩⟩, ⟨_, _, k, k, k⟩⟩ ⟨⟨_, k, k, .inl ⟨k, okI.plainO _⟩⟩, k, trivial⟩ k k k ⟨⟨_, k, k, .inl ⟨k, okI.plainO _⟩⟩, k, trivial⟩ k ⟨k, k, (by simp only [len_map, lA, lT, lR, lC, lN]), k⟩ k ⟨k, okI.tame _ _, trivial⟩ k k) ⟨k, k, trivial⟩) k <| aa k k <| an <| tn <| sQ <| sQ <| rg <| ae (w_field_ptr TT_ok k k k k k k k) k <| ae (w_load_ptr TT_ok k k k k k k k) k <| am k k ?_
     refine an <| tn <| ac_ent (t := mkS [(0, .int a0), (3, .ptr 0 0 0), (4, .ptr 2 0 0), (6, .own 3 0 x1.2.2.length), (7, .int x1.1), (8, .int y8), (9, .own 1 (0 + (wr (((x1.2.2.length : Nat) : Int) * v1.cols)).toNat) ((wr ((wr (((x1.2.2.length : Nat) : Int) + 1)) * v1.cols)).toNat - (wr (((x1.2.2.length : Nat) : Int) * v1.cols)).toNat)), (17, .int v1.cols), (18, .int x1.1), (47, .int v1.cols), (48, .int 0)] [(0, ⟨3, [[.int v1.rows, .int v1.cols, .own 1 0 x1.2.1.length]]⟩), (1, ⟨1, List.map (ow eI) x1.2.1⟩), (2, ⟨3, [[.int 0, .int 0, .nil 1]]⟩), (3, ⟨1, List.map (ow eI) x1.2.2⟩)] 4 [4, 5, 6, 7]) (ent_mk (σ := sg [(0, 0), (1, 1), (2, 2), (3, 3)]) ⟨(e1 k k), (pE k k), (pE k k), (oE k k), (e1 k k), (e1 k k), (oE k k), (e1 k k), (e1 k k), (e1 k k), (e1 k k), trivial⟩ (hX ⟨_, k, k, .inr ⟨_, _, k, ⟨_, _, k, k, ⟨_, _, k, k, ⟨_, _, k, ⟨k, k, k, k⟩, k⟩⟩⟩, k⟩⟩ k <| hI k k k <| hP k k k k <| hI k k k <| trivial) k) <| ac_block ?_
     obtain ⟨y22, hy22, h⟩ := ob h
     refine ac_Lp (body := (m_impl_reduce_L3 v1 x1 y8)) hy22 (fun (x3 : ((List Int) × Int)) => mkS [(0, .int a0), (3, .ptr 0 0 0), (4, .ptr 2 0 0), (6, .own 3 0 x1.2.2.length), (7, .int x1.1), (8, .int y8), (9, .own 1 (0 + (wr (((x1.2.2.length : Nat) : Int) * v1.cols)).toNat) ((wr ((wr (((x1.2.2.length : Nat) : Int) + 1)) * v1.cols)).toNat - (wr (((x1.2.2.length : Nat) : Int) * v1.cols)).toNat)), (17, .int v1.cols), (18, .int x1.1), (47, .int v1.cols), (48, .int x3.2)] [(0, ⟨3, [[.int v1.rows, .int v1.cols, .own 1 0 x3.1.length]]⟩), (1, ⟨1, List.map (ow eI) x3.1⟩), (2, ⟨3, [[.int 0, .int 0, .nil 1]]⟩), (3, ⟨1, List.map (ow eI) x1.2.2⟩)] 4 [4, 5, 6, 7]) (fun r e t => e = .exit 4 ∧ Ent t (mkS [(0, .int a0), (3, .ptr 0 0 0), (4, .ptr 2 0 0), (6, .own 3 0 x1.2.2.length), (7, .int x1.1), (9, .own 1 (0 + (wr (((x1.2.2.length : Nat) : Int) * v1.cols)).toNat) ((wr ((wr (((x1.2.2.length : Nat) : Int) + 1)) * v1.cols)).toNat - (wr (((x1.2.2.length : Nat) : Int) * v1.cols)).toNat)), (17, .int v1.cols), (18, .int x1.1)] [(0, ⟨3, [[.int v1.rows, .int v1.cols, .own 1 0 r.length]]⟩), (1, ⟨1, List.map (ow eI) r⟩), (2, ⟨3, [[.int 0, .int 0, .nil 1]]⟩), (3, ⟨1, List.map (ow eI) x1.2.2⟩)] 4 [4, 5, 6, 7])) (ent_mk (σ := sg [(0, 0), (1, 1), (2, 2), (3, 3)]) ⟨(e1 k k), (pE k k), (pE k k), (oE k k), (e1 k k), (e1 k k), (oE k k), (e1 k k), (e1 k k), (e1 k k), (e1 k k), trivial⟩ (hX ⟨_, k, k, .inr ⟨_, _, k, ⟨_, _, k, k, ⟨_, _, k, k, ⟨_, _, k, ⟨k, k, k, k⟩, k⟩⟩⟩, k⟩⟩ k <| hI k k k <| hP k k k k <| hI k k k <| trivial) k) ?_ ?_
     ·intro x3 o h
      refine sQ <| rg <| ae (w_cmp k k k) k <| an <| tn <| sQ ?_
      rcases cb h with ⟨q11, h⟩ | ⟨q11, h⟩
      ·refine ac_condT k q11 <| ac_skip <| tn <| sQ <| ac_block <| sQ <| rg <| am k k <| aa k k <| an ?_
       refine tn <| ac_region_draw MIXX <| am k k <| am k k <| ae (w_load_ptr TT_ok k k k k k k k) k <| am k k ?_
       obtain ⟨v12, hv12, h⟩ := ob h
       refine ae (AEff.pureE (eff_hasE (σ := sg [(0, 1)]) (σ' := sg [(1, 0)]) (touch := [1]) (news := []) (hl2 := [(1, ⟨1, List.map (ow eI) x3.1⟩)]) (n' := 4) (r2 := .own 1 (0 + (wr (y8 * v1.cols)).toNat) ((wr ((wr (y8 + 1)) * v1.cols)).toNat - (wr (y8 * v1.cols)).toNat)) (c_impl_Matrix_row (⟨v1.rows, v1.cols, x3.1⟩ : Mt) y8 v12 hv12) k k ⟨_, _, k, ⟨_, _, k, k, ⟨_, _, k, k, ⟨_, _, k, ⟨k, k, k, k⟩, k⟩⟩⟩, ⟨_, _, k, k, k⟩⟩ ⟨⟨_, k, k, .inl ⟨k, okI.plainO _⟩⟩, k, trivial⟩ k k k ⟨⟨_, k, k, .inl ⟨k, okI.plainO _⟩⟩, k, trivial⟩ k ⟨k, k, (by simp only [len_map, lA, lT, lR, lC, lN]), k⟩ k ⟨k, okI.tame _ _, trivial⟩ k k) ⟨k, k, trivial⟩) k <| am k k <| ae (w_load_ptr TT_ok k k k k k k k) k <| am k k ?_
       obtain ⟨v13, hv13, h⟩ := ob h
       refine ae (AEff.pureE (eff_hasE (σ := sg [(0, 1)]) (σ' := sg [(1, 0)]) (touch := [1]) (news := []) (hl2 := [(1, ⟨1, List.map (ow eI) x3.1⟩)]) (n' := 4) (r2 := .own 1 (0 + (wr (y8 * v1.cols)).toNat) ((wr ((wr (y8 + 1)) * v1.cols)).toNat - (wr (y8 * v1.cols)).toNat)) (c_impl_Matrix_row (⟨v1.rows, v1.cols, x3.1⟩ : Mt) y8 v13 hv13) k k ⟨_, _, k, ⟨_, _, k, k, ⟨_, _, k, k, ⟨_, _, k, ⟨k, k, k, k⟩, k⟩⟩⟩, ⟨_, _, k, k, k⟩⟩ ⟨⟨_, k, k, .inl ⟨k, okI.plainO _⟩⟩, k, trivial⟩ k k k ⟨⟨_, k, k, .inl ⟨k, okI.plainO _⟩⟩, k, trivial⟩ k ⟨k, k, (by simp only [len_map, lA, lT, lR, lC, lN]), k⟩ k ⟨k, okI.tame _ _, trivial⟩ k k) ⟨k, k, trivial⟩) k <| am k k ?_
       obtain ⟨q15, h⟩ := cg h
       obtain ⟨v14, hv14, h⟩ := ob h
       refine ae (x_at_part TT_ok q15 k k k k k k k) k <| ae (w_load_ptr TT_ok k k k k (map_at (hv14)) k k) k <| am k k <| am k k ?_
       obtain ⟨q17, h⟩ := cg h
       obtain ⟨v16, hv16, h⟩ := ob h
       refine ae (x_at_part TT_ok q17 k k k k k k k) k <| ae (w_load_ptr TT_ok k k k k (map_at (hv16)) k k) k ?_
       obtain ⟨q19, h⟩ := cg h
       obtain ⟨v18, hv18, h⟩ := ob h
       refine ae (x_at_part TT_ok q19 k k k k k k k) k <| ae (x_store TT_ok okIo (u := v14) (hv18) k k k k k k) k ?_
       obtain ⟨q21, h⟩ := cg h
       obtain ⟨v20, hv20, h⟩ := ob h
       refine ae (x_at_part TT_ok q21 k k k k k k k) k <| ae (x_store TT_ok okIo (u := v16) (hv20) k k k k k k) k <| an ?_
       refine ⟨by kernel_rfl, ?_⟩
       refine block_n <| tn <| ac_ent (t := mkS [(0, .int a0), (3, .ptr 0 0 0), (4, .ptr 2 0 0), (6, .own 3 0 x1.2.2.length), (7, .int x1.1), (8, .int y8), (9, .own 1 (0 + (wr (((x1.2.2.length : Nat) : Int) * v1.cols)).toNat) ((wr ((wr (((x1.2.2.length : Nat) : Int) + 1)) * v1.cols)).toNat - (wr (((x1.2.2.length : Nat) : Int) * v1.cols)).toNat)), (17, .int v1.cols), (18, .int x1.1), (47, .int v1.cols), (48, .int x3.2)] [(0, ⟨3, [[.int v1.rows, .int v1.cols, .own 1 0 (((x3.1.set ((0 + (wr (((x1.2.2.length : Nat) : Int) * v1.cols)).toNat) + x3.2.toNat) v14).set ((0 + (wr (y8 * v1.cols)).toNat) + x3.2.toNat) v16).length)]]⟩), (1, ⟨1, List.map (ow eI) ((x3.1.set ((0 + (wr (((x1.2.2.length : Nat) : Int) * v1.cols)).toNat) + x3.2.toNat) v14).set ((0 + (wr (y8 * v1.cols)).toNat) + x3.2.toNat) v16)⟩), (2, ⟨3, [[.int 0, .int 0, .nil 1]]⟩), (3, ⟨1, List.map (ow eI) x1.2.2⟩)] 4 [4, 5, 6, 7]) (ent_mk (σ := sg [(0, 0), (1, 1), (2, 2), (3, 3)]) ⟨(e1 k k), (pE k k), (pE k k), (oE k k), (e1 k k), (e1 k k), (oE k k), (e1 k k), (e1 k k), (e1 k k), (e1 k k), trivial⟩ (hX ⟨_, k, k, .inr ⟨_, _, k, ⟨_, _, k, k, ⟨_, _, k, k, ⟨_, _, k, ⟨k, k, (by simp only [len_map, lA, lT, lR, lC, lN]), k⟩, k⟩⟩⟩, k⟩⟩ k <| hI k k k <| hP k k k k <| hI k k k <| trivial) k) <| rg <| ae (x_add k k) k <| am k k <| an <| tn ?_
       obtain rfl := so h
       exact ⟨_, k, (ent_mk (σ := sg [(0, 0), (1, 1), (2, 2), (3, 3)]) ⟨(e1 k k), (pE k k), (pE k k), (oE k k), (e1 k k), (e1 k k), (oE k k), (e1 k k), (e1 k k), (e1 k k), (e1 k k), trivial⟩ (hX ⟨_, k, k, .inr ⟨_, _, k, ⟨_, _, k, k, ⟨_, _, k, k, ⟨_, _, k, ⟨k, k, k, k⟩, k⟩⟩⟩, k⟩⟩ k <| hI k k k <| hP k k k k <| hI k k k <| trivial) k)⟩
      ·refine ac_condF k q11 <| ac_exit <| then_exit <| then_exit ?_
       obtain rfl := so h
       exact ⟨_, k, k, (ent_mk (σ := sg [(0, 0), (1, 1), (2, 2), (3, 3)]) ⟨(e1 k k), (pE k k), (pE k k), (oE k k), (e1 k k), (oE k k), (e1 k k), (e1 k k), trivial⟩ (hX ⟨_, k, k, .inr ⟨_, _, k, ⟨_, _, k, k, ⟨_, _, k, k, ⟨_, _, k, ⟨k, k, k, k⟩, k⟩⟩⟩, k⟩⟩ k <| hI k k k <| hP k k k k <| hI k k k <| trivial) k)⟩
     ·rintro e t ⟨rfl, hent⟩
      refine block_here <| tn <| ac_ent hent <| sQ <| rg <| am k k <| am k k <| am k k ?_
      obtain ⟨q24, h⟩ := cg h
      obtain ⟨v23, hv23, h⟩ := ob h
      refine ae (x_at_part TT_ok q24 k k k k k k k) k <| ae (w_load_ptr TT_ok k k k k (map_at (hv23)) k k) k ?_
      obtain ⟨v25, hv25, h⟩ := ob h
      refine ae (w_call0s (c_impl_InverseMod a0 v23 v25 hv25) k (va_cons (va_same k) (va_cons (va_same k) va_nil))) k <| aa k k <| an <| tn <| sQ <| sQ <| rg <| am k k <| ae (w_len_own TT_ok k k k k) k <| am k k ?_
      refine an <| tn <| ac_block ?_
      obtain ⟨y32, hy32, h⟩ := ob h
      refine ac_Lp (body := (m_impl_reduce_L4 a0 v1 v25 x1)) hy32 (fun (x4 : ((List Int) × Int)) => mkS [(0, .int a0), (3, .ptr 0 0 0), (4, .ptr 2 0 0), (6, .own 3 0 x1.2.2.length), (7, .int x1.1), (9, .own 1 (0 + (wr (((x1.2.2.length : Nat) : Int) * v1.cols)).toNat) ((wr ((wr (((x1.2.2.length : Nat) : Int) + 1)) * v1.cols)).toNat - (wr (((x1.2.2.length : Nat) : Int) * v1.cols)).toNat)), (11, .int v25), (17, .int v1.cols), (18, .int x1.1), (77, .int ((((wr ((wr (((x1.2.2.length : Nat) : Int) + 1)) * v1.cols)).toNat - (wr (((x1.2.2.length : Nat) : Int) * v1.cols)).toNat) : Nat) : Int)), (78, .int x4.2)] [(0, ⟨3, [[.int v1.rows, .int v1.cols, .own 1 0 x4.1.length]]⟩), (1, ⟨1, List.map (ow eI) x4.1⟩), (2, ⟨3, [[.int 0, .int 0, .nil 1]]⟩), (3, ⟨1, List.map (ow eI) x1.2.2⟩)] 4 [4, 5, 6, 7]) (fun r e t => e = .exit 6 ∧ Ent t (mkS [(0, .int a0), (3, .ptr 0 0 0), (4, .ptr 2 0 0), (6, .own 3 0 x1.2.2.length), (7, .int x1.1), (9, .own 1 (0 + (wr (((x1.2.2.length : Nat) : Int) * v1.cols)).toNat) ((wr ((wr (((x1.2.2.length : Nat) : Int) + 1)) * v1.cols)).toNat - (wr (((x1.2.2.length : Nat) : Int) * v1.cols)).toNat)), (17, .int v1.cols), (18, .int x1.1)] [(0, ⟨3, [[.int v1.rows, .int v1.cols, .own 1 0 r.length]]⟩), (1, ⟨1, List.map (ow eI) r⟩), (2, ⟨3, [[.int 0, .int 0, .nil 1]]⟩), (3, ⟨1, List.map (ow eI) x1.2.2⟩)] 4 [4, 5, 6, 7])) (ent_mk (σ := sg [(0, 0), (1, 1), (2, 2), (3, 3)]) ⟨(e1 k k), (pE k k), (pE k k), (oE k k), (e1 k k), (oE k k), (e1 k k), (e1 k k), (e1 k k), (e1 k k), (e1 k k), trivial⟩ (hX ⟨_, k, k, .inr ⟨_, _, k, ⟨_, _, k, k, ⟨_, _, k, k, ⟨_, _, k, ⟨k, k, k, k⟩, k⟩⟩⟩, k⟩⟩ k <| hI k k k <| hP k k k k <| hI k k k <| trivial) k) ?_ ?_
      ·intro x4 o h
       refine sQ <| rg <| ae (w_cmp k k k) k <| an <| tn <| sQ ?_
       rcases cb h with ⟨q26, h⟩ | ⟨q26, h⟩
       ·refine ac_condT k q26 <| ac_skip <| tn <| sQ <| ac_block <| sQ <| rg <| am k k <| aa k k <| an ?_
        refine tn <| rg <| am k k <| am k k <| am k k <| am k k ?_
        obtain ⟨q28, h⟩ := cg h
        obtain ⟨v27, hv27, h⟩ := ob h
        refine ae (x_at_part TT_ok q28 k k k k k k k) k <| ae (w_load_ptr TT_ok k k k k (map_at (hv27)) k k) k <| am k k <| ae (x_mul k k) k <| am k k ?_
        obtain ⟨q31, h⟩ := cg h
        refine ae (x_rem k k q31) k ?_
        obtain ⟨q30, h⟩ := cg h
        obtain ⟨v29, hv29, h⟩ := ob h
        refine ae (x_at_part TT_ok q30 k k k k k k k) k <| ae (x_store TT_ok okIo (u := (wr (v27 * v25)).tmod a0) (hv29) k k k k k k) k <| an <| block_n <| tn <| ac_ent (t := mkS [(0, .int a0), (3, .ptr 0 0 0), (4, .ptr 2 0 0), (6, .own 3 0 x1.2.2.length), (7, .int x1.1), (9, .own 1 (0 + (wr (((x1.2.2.length : Nat) : Int) * v1.cols)).toNat) ((wr ((wr (((x1.2.2.length : Nat) : Int) + 1)) * v1.cols)).toNat - (wr (((x1.2.2.length : Nat) : Int) * v1.cols)).toNat)), (11, .int v25), (17, .int v1.cols), (18, .int x1.1), (77, .int ((((wr ((wr (((x1.2.2.length : Nat) : Int) + 1)) * v1.cols)).toNat - (wr (((x1.2.2.length : Nat) : Int) * v1.cols)).toNat) : Nat) : Int)), (78, .int x4.2)] [(0, ⟨3, [[.int v1.rows, .int v1.cols, .own 1 0 ((x4.1.set ((0 + (wr (((x1.2.2.length : Nat) : Int) * v1.cols)).toNat) + x4.2.toNat) ((wr (v27 * v25)).tmod a0)).length)]]⟩), (1, ⟨1, List.map (ow eI) (x4.1.set ((0 + (wr (((x1.2.2.length : Nat) : Int) * v1.cols)).toNat) + x4.2.toNat) ((wr (v27 * v25)).tmod a0))⟩), (2, ⟨3, [[.int 0, .int 0, .nil 1]]⟩), (3, ⟨1, List.map (ow eI) x1.2.2⟩)] 4 [4, 5, 6, 7]) (ent_mk (σ := sg [(0, 0), (1, 1), (2, 2), (3, 3)]) ⟨(e1 k k), (pE k k), (pE k k), (oE k k), (e1 k k), (oE k k), (e1 k k), (e1 k k), (e1 k k), (e1 k k), (e1 k k), trivial⟩ (hX ⟨_, k, k, .inr ⟨_, _, k, ⟨_, _, k, k, ⟨_, _, k, k, ⟨_, _, k, ⟨k, k, (by simp only [len_map, lA, lT, lR, lC, lN]), k⟩, k⟩⟩⟩, k⟩⟩ k <| hI k k k <| hP k k k k <| hI k k k <| trivial) k) <| rg <| ae (x_add k k) k <| am k k <| an ?_
        refine tn ?_
        obtain rfl := so h
        exact ⟨_, k, (ent_mk (σ := sg [(0, 0), (1, 1), (2, 2), (3, 3)]) ⟨(e1 k k), (pE k k), (pE k k), (oE k k), (e1 k k), (oE k k), (e1 k k), (e1 k k), (e1 k k), (e1 k k), (e1 k k), trivial⟩ (hX ⟨_, k, k, .inr ⟨_, _, k, ⟨_, _, k, k, ⟨_, _, k, k, ⟨_, _, k, ⟨k, k, k, k⟩, k⟩⟩⟩, k⟩⟩ k <| hI k k k <| hP k k k k <| hI k k k <| trivial) k)⟩
       ·refine ac_condF k q26 <| ac_exit <| then_exit <| then_exit ?_
        obtain rfl := so h
        exact ⟨_, k, k, (ent_mk (σ := sg [(0, 0), (1, 1), (2, 2), (3, 3)]) ⟨(e1 k k), (pE k k), (pE k k), (oE k k), (e1 k k), (oE k k), (e1 k k), (e1 k k), trivial⟩ (hX ⟨_, k, k, .inr ⟨_, _, k, ⟨_, _, k, k, ⟨_, _, k, k, ⟨_, _, k, ⟨k, k, k, k⟩, k⟩⟩⟩, k⟩⟩ k <| hI k k k <| hP k k k k <| hI k k k <| trivial) k)⟩
      ·rintro e t ⟨rfl, hent⟩
       refine block_here <| tn <| ac_ent hent <| sQ <| sQ <| rg <| ae (w_field_ptr TT_ok k k k k k k k) k <| ae (w_load_ptr TT_ok k k k k k k k) k <| am k k <| an ?_
       refine tn <| ac_block ?_
       obtain ⟨y41, hy41, h⟩ := ob h
       refine ac_Lp (body := (m_impl_reduce_L5 a0 v1 x1)) hy41 (fun (x5 : ((List Int) × Int)) => mkS [(0, .int a0), (3, .ptr 0 0 0), (4, .ptr 2 0 0), (6, .own 3 0 x1.2.2.length), (7, .int x1.1), (9, .own 1 (0 + (wr (((x1.2.2.length : Nat) : Int) * v1.cols)).toNat) ((wr ((wr (((x1.2.2.length : Nat) : Int) + 1)) * v1.cols)).toNat - (wr (((x1.2.2.length : Nat) : Int) * v1.cols)).toNat)), (17, .int v1.cols), (18, .int x1.1), (94, .int v1.rows), (95, .int x5.2)] [(0, ⟨3, [[.int v1.rows, .int v1.cols, .own 1 0 x5.1.length]]⟩), (1, ⟨1, List.map (ow eI) x5.1⟩), (2, ⟨3, [[.int 0, .int 0, .nil 1]]⟩), (3, ⟨1, List.map (ow eI) x1.2.2⟩)] 4 [4, 5, 6, 7]) (fun r e t => e = .exit 8 ∧ Ent t (mkS [(0, .int a0), (3, .ptr 0 0 0), (4, .ptr 2 0 0), (6, .own 3 0 x1.2.2.length), (7, .int x1.1), (17, .int v1.cols), (18, .int x1.1)] [(0, ⟨3, [[.int v1.rows, .int v1.cols, .own 1 0 r.length]]⟩), (1, ⟨1, List.map (ow eI) r⟩), (2, ⟨3, [[.int 0, .int 0, .nil 1]]⟩), (3, ⟨1, List.map (ow eI) x1.2.2⟩)] 4 [4, 5, 6, 7])) (ent_mk (σ := sg [(0, 0), (1, 1), (2, 2), (3, 3)]) ⟨(e1 k k), (pE k k), (pE k k), (oE k k), (e1 k k), (oE k k), (e1 k k), (e1 k k), (e1 k k), (e1 k k), trivial⟩ (hX ⟨_, k, k, .inr ⟨_, _, k, ⟨_, _, k, k, ⟨_, _, k, k, ⟨_, _, k, ⟨k, k, k, k⟩, k⟩⟩⟩, k⟩⟩ k <| hI k k k <| hP k k k k <| hI k k k <| trivial) k) ?_ ?_
       ·intro x5 o h
        refine sQ <| rg <| ae (w_cmp k k k) k <| an <| tn <| sQ ?_
        rcases cb h with ⟨q33, h⟩ | ⟨q33, h⟩
        ·refine ac_condT k q33 <| ac_skip <| tn <| sQ <| ac_block <| sQ <| rg <| am k k <| aa k k <| an ?_
         refine tn <| sQ <| rg <| am k k <| am k k <| ae (w_len_own TT_ok k k k k) k <| ae (w_cmp k k k) k <| an <| tn ?_
         rcases cb h with ⟨q34, h⟩ | ⟨q34, h⟩
         ·refine ac_condT k q34 <| ac_region_draw MIXX <| am k k <| ae (w_load_ptr TT_ok k k k k k k k) k <| am k k ?_
          obtain ⟨v35, hv35, h⟩ := ob h
          refine ae (AEff.pureE (eff_hasE (σ := sg [(0, 1)]) (σ' := sg [(1, 0)]) (touch := [1]) (news := []) (hl2 := [(1, ⟨1, List.map (ow eI) x5.1⟩)]) (n' := 4) (r2 := .own 1 (0 + (wr (x5.2 * v1.cols)).toNat) ((wr ((wr (x5.2 + 1)) * v1.cols)).toNat - (wr (x5.2 * v1.cols)).toNat)) (c_impl_Matrix_row (⟨v1.rows, v1.cols, x5.1⟩ : Mt) x5.2 v35 hv35) k k ⟨_, _, k, ⟨_, _, k, k, ⟨_, _, k, k, ⟨_, _, k, ⟨k, k, k, k⟩, k⟩⟩⟩, ⟨_, _, k, k, k⟩⟩ ⟨⟨_, k, k, .inl ⟨k, okI.plainO _⟩⟩, k, trivial⟩ k k k ⟨⟨_, k, k, .inl ⟨k, okI.plainO _⟩⟩, k, trivial⟩ k ⟨k, k, (by simp only [len_map, lA, lT, lR, lC, lN]), k⟩ k ⟨k, okI.tame _ _, trivial⟩ k k) ⟨k, k, trivial⟩) k <| am k k <| ae (w_load_ptr TT_ok k k k k k k k) k <| am k k ?_
          obtain ⟨v36, hv36, h⟩ := ob h
          refine ae (AEff.pureE (eff_hasE (σ := sg [(0, 1)]) (σ' := sg [(1, 0)]) (touch := [1]) (news := []) (hl2 := [(1, ⟨1, List.map (ow eI) x5.1⟩)]) (n' := 4) (r2 := .own 1 (0 + (wr (x5.2 * v1.cols)).toNat) ((wr ((wr (x5.2 + 1)) * v1.cols)).toNat - (wr (x5.2 * v1.cols)).toNat)) (c_impl_Matrix_row (⟨v1.rows, v1.cols, x5.1⟩ : Mt) x5.2 v36 hv36) k k ⟨_, _, k, ⟨_, _, k, k, ⟨_, _, k, k, ⟨_, _, k, ⟨k, k, k, k⟩, k⟩⟩⟩, ⟨_, _, k, k, k⟩⟩ ⟨⟨_, k, k, .inl ⟨k, okI.plainO _⟩⟩, k, trivial⟩ k k k ⟨⟨_, k, k, .inl ⟨k, okI.plainO _⟩⟩, k, trivial⟩ k ⟨k, k, (by simp only [len_map, lA, lT, lR, lC, lN]), k⟩ k ⟨k, okI.tame _ _, trivial⟩ k k) ⟨k, k, trivial⟩) k <| am k k ?_
          obtain ⟨q38, h⟩ := cg h
          obtain ⟨v37, hv37, h⟩ := ob h
          refine ae (x_at_part TT_ok q38 k k k k k k k) k <| ae (w_load_ptr TT_ok k k k k (map_at (hv37)) k k) k <| ae (x_sub k k) k <| am k k ?_
          obtain ⟨v39, hv39, h⟩ := ob h
          refine ae (eff_hasE (σ := sg [(0, 1)]) (σ' := sg [(1, 0)]) (touch := [1]) (news := []) (hl2 := [(1, ⟨1, List.map (ow eI) v39⟩)]) (n' := 4) (r2 := .own 1 (0 + (wr (x5.2 * v1.cols)).toNat) ((wr ((wr (x5.2 + 1)) * v1.cols)).toNat - (wr (x5.2 * v1.cols)).toNat)) (c_impl_addMultiple_same a0 x5.1 (0 + (wr (x5.2 * v1.cols)).toNat) ((wr ((wr (x5.2 + 1)) * v1.cols)).toNat - (wr (x5.2 * v1.cols)).toNat) (wr (a0 - v37)) (0 + (wr (((x1.2.2.length : Nat) : Int) * v1.cols)).toNat) ((wr ((wr (((x1.2.2.length : Nat) : Int) + 1)) * v1.cols)).toNat - (wr (((x1.2.2.length : Nat) : Int) * v1.cols)).toNat) v39 hv39) k k ⟨_, _, k, k, ⟨_, _, k, ⟨k, k, k, k⟩, ⟨_, _, k, k, ⟨_, _, k, ⟨k, k, k, k⟩, k⟩⟩⟩⟩ ⟨⟨_, k, k, .inl ⟨k, okI.plainO _⟩⟩, k, trivial⟩ k k k ⟨⟨_, k, k, .inl ⟨k, okI.plainO _⟩⟩, k, trivial⟩ k ⟨k, k, (by simp only [len_map, lA, lT, lR, lC, lN]), k⟩ k ⟨k, okI.tame _ _, trivial⟩ k k) k ?_
          obtain ⟨q40, h⟩ := cg h
          refine an ?_
          refine ⟨by kernel_rfl, ?_⟩
          refine block_n <| tn <| ac_ent (t := mkS [(0, .int a0), (3, .ptr 0 0 0), (4, .ptr 2 0 0), (6, .own 3 0 x1.2.2.length), (7, .int x1.1), (9, .own 1 (0 + (wr (((x1.2.2.length : Nat) : Int) * v1.cols)).toNat) ((wr ((wr (((x1.2.2.length : Nat) : Int) + 1)) * v1.cols)).toNat - (wr (((x1.2.2.length : Nat) : Int) * v1.cols)).toNat)), (17, .int v1.cols), (18, .int x1.1), (94, .int v1.rows), (95, .int x5.2)] [(0, ⟨3, [[.int v1.rows, .int v1.cols, .own 1 0 v39.length]]⟩), (1, ⟨1, List.map (ow eI) v39⟩), (2, ⟨3, [[.int 0, .int 0, .nil 1]]⟩), (3, ⟨1, List.map (ow eI) x1.2.2⟩)] 4 [4, 5, 6, 7]) (ent_mk (σ := sg [(0, 0), (1, 1), (2, 2), (3, 3)]) ⟨(e1 k k), (pE k k), (pE k k), (oE k k), (e1 k k), (oE k k), (e1 k k), (e1 k k), (e1 k k), (e1 k k), trivial⟩ (hX ⟨_, k, k, .inr ⟨_, _, k, ⟨_, _, k, k, ⟨_, _, k, k, ⟨_, _, k, ⟨k, k, (by simp only [len_map, lA, lT, lR, lC, lN, of_decide_eq_true q40]), k⟩, k⟩⟩⟩, k⟩⟩ k <| hI k k k <| hP k k k k <| hI k k k <| trivial) k) <| rg <| ae (x_add k k) k <| am k k <| an <| tn ?_
          obtain rfl := so h
          exact ⟨_, k, (ent_mk (σ := sg [(0, 0), (1, 1), (2, 2), (3, 3)]) ⟨(e1 k k), (pE k k), (pE k k), (oE k k), (e1 k k), (oE k k), (e1 k k), (e1 k k), (e1 k k), (e1 k k), trivial⟩ (hX ⟨_, k, k, .inr ⟨_, _, k, ⟨_, _, k, k, ⟨_, _, k, k, ⟨_, _, k, ⟨k, k, k, k⟩, k⟩⟩⟩, k⟩⟩ k <| hI k k k <| hP k k k k <| hI k k k <| trivial) k)⟩
         ·refine ac_condF k q34 <| ac_skip <| block_n <| tn <| rg <| ae (x_add k k) k <| am k k <| an <| tn ?_
          obtain rfl := so h
          exact ⟨_, k, (ent_mk (σ := sg [(0, 0), (1, 1), (2, 2), (3, 3)]) ⟨(e1 k k), (pE k k), (pE k k), (oE k k), (e1 k k), (oE k k), (e1 k k), (e1 k k), (e1 k k), (e1 k k), trivial⟩ (hX ⟨_, k, k, .inr ⟨_, _, k, ⟨_, _, k, k, ⟨_, _, k, k, ⟨_, _, k, ⟨k, k, k, k⟩, k⟩⟩⟩, k⟩⟩ k <| hI k k k <| hP k k k k <| hI k k k <| trivial) k)⟩
        ·refine ac_condF k q33 <| ac_exit <| then_exit <| then_exit ?_
         obtain rfl := so h
         exact ⟨_, k, k, (ent_mk (σ := sg [(0, 0), (1, 1), (2, 2), (3, 3)]) ⟨(e1 k k), (pE k k), (pE k k), (oE k k), (e1 k k), (e1 k k), (e1 k k), trivial⟩ (hX ⟨_, k, k, .inr ⟨_, _, k, ⟨_, _, k, k, ⟨_, _, k, k, ⟨_, _, k, ⟨k, k, k, k⟩, k⟩⟩⟩, k⟩⟩ k <| hI k k k <| hP k k k k <| hI k k k <| trivial) k)⟩
       ·rintro e t ⟨rfl, hent⟩
        refine block_here <| tn <| ac_ent hent <| rg <| am k k <| am k k <| ae (w_lit TT_ok k k k k k k k k k k k k) k ?_
        obtain ⟨q42, h⟩ := cg h
        refine ae (x_app TT_ok (l := x1.2.2) (m := [x1.1]) okIo q42 k k k k k k k k k k k k) k <| aa k k <| an <| block_n <| tn <| rg <| ae (x_add k k) k <| am k k <| an <| tn ?_
        obtain rfl := so h
        exact ⟨_, k, (ent_mk (σ := sg [(0, 0), (1, 1), (2, 2), (3, 5)]) ⟨(e1 k k), (pE k k), (pE k k), (oE k k), (e1 k k), (e1 k k), trivial⟩ (hX ⟨_, k, k, .inr ⟨_, _, k, ⟨_, _, k, k, ⟨_, _, k, k, ⟨_, _, k, ⟨k, k, k, k⟩, k⟩⟩⟩, k⟩⟩ k <| hI k k k <| hP k k k k <| hI k k k <| trivial) k)⟩
  ·refine ac_condF k q2 <| ac_exit <| then_exit <| then_exit ?_
   obtain rfl := so h
   exact ⟨_, k, k, (ent_mk (σ := sg [(0, 0), (1, 1), (2, 2), (3, 3)]) ⟨(pE k k), (pE k k), (oE k k), trivial⟩ (hX ⟨_, k, k, .inr ⟨_, _, k, ⟨_, _, k, k, ⟨_, _, k, k, ⟨_, _, k, ⟨k, k, k, k⟩, k⟩⟩⟩, k⟩⟩ k <| hI k k k <| hP k k k k <| hI k k k <| trivial) k)⟩
 ·rintro e t ⟨rfl, hent⟩
  refine block_here <| tn <| ac_ent hent <| sQ <| rg <| ae (w_load_ptr TT_ok k k k k k k k) k <| am k k <| ae (w_store TT_ok k k k k k k k k) k <| aa k k <| an ?_
  refine tn <| ac_ret ?_
  obtain rfl := so h
  exact ret_mk k k k (xz_tuple k (xB_cons (xB_agg (x1_cons (k) (x1_cons (k) (x1_cons (x_f1 okI k k) x1_nil)))) (xB_cons (xB_one (x_f1 okI k k)) xB_nil)))

noncomputable def m_impl_rank (a0 : Int) (a1 : Mt) : Option Int :=
  Option.bind (m_impl_reduce a0 a1) fun v1 =>
  some (((v1.2.length : Nat) : Int))

theorem c_impl_rank (a0 : Int) (a1 : Mt) (r : Int) (h : m_impl_rank a0 a1 = some r) : HasC Try.prog 103 [.int a0, .agg (eM a1)] (.int r) := by
 refine hasC_mk TT_ok (rvs := [.tmp 4]) (ns := [0, 1, 2, 3, 4, 5]) Try.func103 k k Try.ntmps103 k k k <| sQ <| rg <| ae (w_box k k k k) k <| aa k k <| an <| tn <| sQ <| rg <| am k k ?_
 refine ae (w_load_ptr TT_ok k k k k k k k) k ?_
 obtain ⟨v1, hv1, h⟩ := ob h
 refine ae (AEff.conv (w_call0 (x := .tuple [.agg [.int v1.1.rows, .int v1.1.cols, .own 1 0 (List.map eI v1.1.cells).length], .own 2 0 (List.map eI v1.2).length]) (nb := [(1, ⟨1, absEs (List.map eI v1.1.cells)⟩), (2, ⟨1, absEs (List.map eI v1.2)⟩)]) (c_impl_reduce a0 a1 v1 hv1) k (by rfl) k k (gB_cons (g1_cons trivial (g1_cons trivial (g1_cons (okI.good _) g1_nil))) (gB_cons (okI.good _) gB_nil)) (va_cons (va_same k) (va_cons (va_agg' (v1_cons (v1_same k) (v1_cons (v1_same k) (v1_cons (v1_same k) v1_nil)))) va_nil))) (v' := .tuple [.agg [.int v1.1.rows, .int v1.1.cols, .own 1 0 v1.1.cells.length], .own 2 0 v1.2.length]) (ed' := [(1, some ⟨1, List.map (ow eI) v1.1.cells⟩), (2, some ⟨1, List.map (ow eI) v1.2⟩)]) (by simp only [len_map]) (ed_ok (nb' := [(1, ⟨1, List.map (ow eI) v1.1.cells⟩), (2, ⟨1, List.map (ow eI) v1.2⟩)]) (by simp only [abs_map]))) k <| am k k <| ae (eff_extract k k (by intro _ h; cases h)) k <| ae (eff_extract k k (by intro _ h; cases h)) k <| ae (w_alloc TT_ok k k) k <| ae (w_store TT_ok k k k k k k k k) k <| aa k k <| an <| tn <| sQ ?_
 refine rg <| am k k <| ae (w_len_own TT_ok k k k k) k <| aa k k <| an <| tn <| ac_ent (t := mkS [(4, .int ((v1.2.length : Nat) : Int))] [] 4 [4, 5]) (ent_mk (σ := sg []) ⟨(e1 k k), trivial⟩ trivial k) <| ac_ret ?_
 obtain rfl := so h
 exact ret_mk k k k (fz_int k)

noncomputable def m_impl_RankTable_L2 (a0 : Rp) (x2 : ((List Int) × Int × Int × (List Int) × Int)) : Option (((List Int) × Int × Int × (List Int) × Int) ⊕ (List Int)) :=
  bif decide (x2.2.2.2.2 < (a0.dims.length : Int)) then
    (Option.bind (atL a0.maps (wr (x2.2.2.2.2 - 1))) fun v11 =>
    Option.bind (m_impl_times a0.p v11 (⟨x2.2.1, x2.2.2.1, x2.2.2.2.1⟩ : Mt)) fun v12 =>
    Option.bind (m_impl_rank a0.p v12) fun v13 =>
    Option.bind (atL x2.1 x2.2.2.2.2) fun v14 =>
    some (.inl ((x2.1.set x2.2.2.2.2.toNat v13), v12.rows, v12.cols, v12.cells, wr (x2.2.2.2.2 + 1))))
  else
    (some (.inr x2.1))

noncomputable def m_impl_RankTable_L1 (a0 : Rp) (x1 : ((List (List Int)) × Int)) : Option (((List (List Int)) × Int) ⊕ (List (List Int))) :=
  bif decide (x1.2 < (a0.dims.length : Int)) then
    (Option.bind (atL a0.dims x1.2) fun v6 =>
    bif (decide (0 ≤ (a0.dims.length : Int)) && decide ((a0.dims.length : Int) ≤ 1048576)) then
      (Option.bind (atL x1.1 x1.2) fun v7 =>
      Option.bind (atL (List.replicate ((a0.dims.length : Int).toNat) (0 : Int)) x1.2) fun v8 =>
      Option.bind (m_impl_identity v6) fun v9 =>
      Option.bind (Lp (m_impl_RankTable_L2 a0) (((List.replicate ((a0.dims.length : Int).toNat) (0 : Int)).set x1.2.toNat v6), v9.rows, v9.cols, v9.cells, wr (x1.2 + 1))) fun y15 =>
      some (.inl ((x1.1.set x1.2.toNat y15), wr (x1.2 + 1))))
    else none)
  else
    (some (.inr x1.1))

noncomputable def m_impl_RankTable (a0 : Rp) : Option ((List (List Int)) × Bool) :=
  Option.bind (m_impl_IsRep a0) fun v1 =>
  bif !v1 then
    (some (([], false)))
  else
    (Option.bind (m_impl_IsLine a0.q) fun v3 =>
    bif !v3 then
      (some (([], false)))
    else
      (bif (decide (0 ≤ (a0.dims.length : Int)) && decide ((a0.dims.length : Int) ≤ 1048576)) then
        (Option.bind (Lp (m_impl_RankTable_L1 a0) ((List.replicate ((a0.dims.length : Int).toNat) ([] : (List Int))), 0)) fun y17 =>
        some ((y17, true)))
      else none))

theorem c_impl_RankTable (a0 : Rp) (r : ((List (List Int)) × Bool)) (h : m_impl_RankTable a0 = some r) : HasC Try.prog 63 [.agg (eR a0)] (.tuple [.list 1 (List.map (eLs 1 eI) r.1), .bl r.2]) := by
 refine hasC_mk TT_ok (rvs := [.tmp 2, .tmp 3]) (ns := [0, 1, 2, 3, 4, 5, 6, 7]) Try.func63 k k Try.ntmps63 k k k <| sQ <| rg <| ae (w_box k k k k) k <| aa k k <| aa k k <| an <| tn <| sQ <| sQ ?_
 refine rg <| ae (w_load_ptr TT_ok k k k k k k k) k ?_
 obtain ⟨v1, hv1, h⟩ := ob h
 refine ae (w_call0s (c_impl_IsRep a0 v1 hv1) k (va_cons (va_agg' (v1_cons (v1_same k) (v1_cons (v1_same k) (v1_cons (v1_same k) (v1_cons (v1_same k) (v1_cons (v1_same k) (v1_cons (v1_same k) v1_nil))))))) va_nil)) k <| ae (w_not k) k <| am k k ?_
 rcases cb h with ⟨q2, h⟩ | ⟨q2, h⟩
 ·refine aops_lit 12 k q2 <| ak k k <| ak k k <| ak k k <| ak k k <| ae (eff_pick k k) k <| an <| tn <| ac_ent (t := mkS [(1, .ptr 0 0 0), (17, .bl true)] [(0, ⟨6, [[.int a0.p, .int a0.q.n, .list 1 (List.map eI a0.q.src), .list 1 (List.map eI a0.q.tgt), .list 1 (List.map eI a0.dims), .list 3 (List.map eM a0.maps)]]⟩)] 1 [1, 2, 3, 4, 5, 6, 7]) (ent_mk (σ := sg [(0, 0)]) ⟨(pE k k), (e1 k k), trivial⟩ (hP k k k k <| trivial) k) <| ac_condT k k ?_
  refine sQ <| rg <| aa k k <| aa k k <| an <| tn <| ac_ret <| then_ret ?_
  obtain rfl := so h
  exact ret_mk k k k (xz_tuple k (xB_cons (xB_one (k)) (xB_cons (k) xB_nil)))
 ·refine aops_lit 12 k q2 <| ae (w_field_ptr TT_ok k k k k k k k) k <| ae (w_load_ptr TT_ok k k k k k k k) k ?_
  obtain ⟨v3, hv3, h⟩ := ob h
  refine ae (w_call0s (c_impl_IsLine a0.q v3 hv3) k (va_cons (va_agg' (v1_cons (v1_same k) (v1_cons (v1_same k) (v1_cons (v1_same k) v1_nil)))) va_nil)) k <| ae (w_not k) k <| ae (eff_pick k k) k <| an <| tn <| ac_ent (t := mkS [(1, .ptr 0 0 0), (17, .bl (!v3))] [(0, ⟨6, [[.int a0.p, .int a0.q.n, .list 1 (List.map eI a0.q.src), .list 1 (List.map eI a0.q.tgt), .list 1 (List.map eI a0.dims), .list 3 (List.map eM a0.maps)]]⟩)] 1 [1, 2, 3, 4, 5, 6, 7]) (ent_mk (σ := sg [(0, 0)]) ⟨(pE k k), (e1 k k), trivial⟩ (hP k k k k <| trivial) k) ?_
  rcases cb h with ⟨q4, h⟩ | ⟨q4, h⟩
  ·refine ac_condT k q4 <| sQ <| rg <| aa k k <| aa k k <| an <| tn <| ac_ret <| then_ret ?_
   obtain rfl := so h
   exact ret_mk k k k (xz_tuple k (xB_cons (xB_one (k)) (xB_cons (k) xB_nil)))
  ·refine ac_condF k q4 <| ac_skip <| tn <| sQ <| rg <| ae (w_field_ptr TT_ok k k k k k k k) k <| ae (w_load_ptr TT_ok k k k k k k k) k <| ae (lenL TT_ok k k k) k ?_
   obtain ⟨q18, h⟩ := cg h
   refine ae (x_make TT_ok q18 k k k k k k k k) k <| aa k k <| an <| tn <| ac_ent (t := mkS [(1, .ptr 0 0 0), (4, .own 1 0 ((List.replicate ((a0.dims.length : Int).toNat) ([] : (List Int))).length))] [(0, ⟨6, [[.int a0.p, .int a0.q.n, .list 1 (List.map eI a0.q.src), .list 1 (List.map eI a0.q.tgt), .list 1 (List.map eI a0.dims), .list 3 (List.map eM a0.maps)]]⟩), (1, ⟨1, List.map (ow (eLs 1 eI)) (List.replicate ((a0.dims.length : Int).toNat) ([] : (List Int)))⟩)] 2 [2, 3, 4, 5, 6, 7]) (ent_mk (σ := sg [(0, 0), (1, 1)]) ⟨(pE k k), ⟨_, k, ⟨k, k, (by simp only [len_map, lA, lT, lR, lC, lN]), k⟩⟩, trivial⟩ (hP k k k k <| hX ⟨_, k, k, .inr (rep_match _)⟩ k <| trivial) k) <| sQ <| sQ <| rg <| ae (w_field_ptr TT_ok k k k k k k k) k <| ae (w_load_ptr TT_ok k k k k k k k) k ?_
   refine ae (lenL TT_ok k k k) k <| am k k <| an <| tn <| ac_block ?_
   obtain ⟨y17, hy17, h⟩ := ob h
   refine ac_Lp (body := (m_impl_RankTable_L1 a0)) hy17 (fun (x1 : ((List (List Int)) × Int)) => mkS [(1, .ptr 0 0 0), (4, .own 1 0 x1.1.length), (23, .list 1 (List.map eI a0.dims)), (24, .int (a0.dims.length : Int)), (25, .int x1.2)] [(0, ⟨6, [[.int a0.p, .int a0.q.n, .list 1 (List.map eI a0.q.src), .list 1 (List.map eI a0.q.tgt), .list 1 (List.map eI a0.dims), .list 3 (List.map eM a0.maps)]]⟩), (1, ⟨1, List.map (ow (eLs 1 eI)) x1.1⟩)] 2 [2, 3, 4, 5, 6, 7]) (fun r e t => e = .exit 0 ∧ Ent t (mkS [(4, .own 0 0 r.length)] [(0, ⟨1, List.map (ow (eLs 1 eI)) r⟩)] 1 [1, 2, 3, 4, 5, 6, 7])) (ent_mk (σ := sg [(0, 0), (1, 1)]) ⟨(pE k k), (oE k k), ⟨_, k, ⟨k, k⟩⟩, (e1 k k), (e1 k k), trivial⟩ (hP k k k k <| hB (okLs.plainO _) k k k <| trivial) k) ?_ ?_
   ·intro x1 o h
    refine sQ <| rg <| ae (w_cmp k k k) k <| an <| tn <| sQ ?_
    rcases cb h with ⟨q5, h⟩ | ⟨q5, h⟩
    ·refine ac_condT k q5 <| ac_skip <| tn <| sQ <| ac_block <| sQ <| rg <| am k k ?_
     obtain ⟨v6, hv6, h⟩ := ob h
     refine ae (x_at_list TT_ok hv6 k k k k k k) k <| ae (w_load_ref TT_ok k k k k k k) k <| aa k k <| aa k k <| an <| tn <| sQ <| rg <| am k k <| am k k ?_
     refine ae (w_field_ptr TT_ok k k k k k k k) k <| ae (w_load_ptr TT_ok k k k k k k k) k <| ae (lenL TT_ok k k k) k ?_
     obtain ⟨q16, h⟩ := cg h
     refine ae (x_make TT_ok q16 k k k k k k k k) k ?_
     obtain ⟨v7, hv7, h⟩ := ob h
     refine ae (x_at_own TT_ok (atL_nn hv7) (atL_lt hv7) k k k k k k k) k <| ae (w_store TT_ok k k k k k k (map_at (atL_get hv7)) k) k <| an <| tn <| ac_ent (t := mkS [(1, .ptr 0 0 0), (4, .own 1 0 x1.1.length), (5, .int x1.2), (6, .int v6), (23, .list 1 (List.map eI a0.dims)), (24, .int (a0.dims.length : Int)), (25, .int x1.2)] [(0, ⟨6, [[.int a0.p, .int a0.q.n, .list 1 (List.map eI a0.q.src), .list 1 (List.map eI a0.q.tgt), .list 1 (List.map eI a0.dims), .list 3 (List.map eM a0.maps)]]⟩), (1, ⟨1, (List.map (ow (eLs 1 eI)) x1.1).set x1.2.toNat [.own 2 0 ((List.replicate ((a0.dims.length : Int).toNat) (0 : Int)).length)]⟩), (2, ⟨1, List.map (ow eI) (List.replicate ((a0.dims.length : Int).toNat) (0 : Int))⟩)] 3 [3, 4, 5, 6, 7]) (ent_mk (σ := sg [(0, 0), (1, 1), (2, 2)]) ⟨(pE k k), (oE k k), (e1 k k), (e1 k k), ⟨_, k, ⟨k, k⟩⟩, (e1 k k), (e1 k k), trivial⟩ (hP k k k k <| hX ⟨_, k, k, .inr (ent_set (σ := sg [(0, 0), (1, 1), (2, 2)]) (m := 3) (e := (eLs 1 eI)) (l := x1.1) (i := x1.2.toNat) (c := [.own 2 0 ((a0.dims.length : Int).toNat)]) (d := [.own 2 0 ((List.replicate ((a0.dims.length : Int).toNat) (0 : Int)).length)]) okLs ⟨_, _, k, ⟨k, k, (by simp only [len_map, lA, lT, lR, lC, lN]), k⟩, k⟩)⟩ k <| hX ⟨_, k, k, .inl ⟨rep_eq (e := eI) (z := 0) _, okI.plainO _⟩⟩ k <| trivial) k) <| sQ <| rg <| am k k <| am k k <| ae (x_at_own TT_ok (atL_nn hv7) (atL_lt hv7) k k k k k k k) k ?_
     refine ae (w_load_ptr TT_ok k k k k (set_at (atL_lt hv7)) k k) k <| am k k <| am k k ?_
     obtain ⟨v8, hv8, h⟩ := ob h
     refine ae (x_at_own TT_ok (atL_nn hv8) (atL_lt hv8) k k k k k k k) k <| ae (x_store TT_ok okIo (u := v6) (atL_get hv8) k k k k k k) k <| an <| tn <| sQ <| rg <| am k k ?_
     obtain ⟨v9, hv9, h⟩ := ob h
     refine ae (AEff.conv (w_call0 (x := .agg [.int v9.rows, .int v9.cols, .own 3 0 (List.map eI v9.cells).length]) (nb := [(3, ⟨1, absEs (List.map eI v9.cells)⟩)]) (c_impl_identity v6 v9 hv9) k (by rfl) k k (g1_cons trivial (g1_cons trivial (g1_cons (okI.good _) g1_nil))) (va_cons (va_same k) va_nil)) (v' := .agg [.int v9.rows, .int v9.cols, .own 3 0 v9.cells.length]) (ed' := [(3, some ⟨1, List.map (ow eI) v9.cells⟩)]) (by simp only [len_map]) (ed_ok (nb' := [(3, ⟨1, List.map (ow eI) v9.cells⟩)]) (by simp only [abs_map]))) k <| ae (w_alloc TT_ok k k) k <| ae (w_store TT_ok k k k k k k k k) k <| an <| tn <| ac_ent (t := mkS [(1, .ptr 0 0 0), (4, .own 1 0 x1.1.length), (5, .int x1.2), (7, .ptr 4 0 0), (23, .list 1 (List.map eI a0.dims)), (24, .int (a0.dims.length : Int)), (25, .int x1.2)] [(0, ⟨6, [[.int a0.p, .int a0.q.n, .list 1 (List.map eI a0.q.src), .list 1 (List.map eI a0.q.tgt), .list 1 (List.map eI a0.dims), .list 3 (List.map eM a0.maps)]]⟩), (1, ⟨1, (List.map (ow (eLs 1 eI)) x1.1).set x1.2.toNat [.own 2 0 (((List.replicate ((a0.dims.length : Int).toNat) (0 : Int)).set x1.2.toNat v6).length)]⟩), (2, ⟨1, List.map (ow eI) ((List.replicate ((a0.dims.length : Int).toNat) (0 : Int)).set x1.2.toNat v6)⟩), (3, ⟨1, List.map (ow eI) v9.cells⟩), (4, ⟨3, [[.int v9.rows, .int v9.cols, .own 3 0 v9.cells.length]]⟩)] 5 [5, 6, 7]) (ent_mk (σ := sg [(0, 0), (1, 1), (2, 2), (3, 3), (4, 4)]) ⟨(pE k k), (oE k k), (e1 k k), (pE k k), ⟨_, k, ⟨k, k⟩⟩, (e1 k k), (e1 k k), trivial⟩ (hP k k k k <| hX ⟨_, k, k, .inr (ent_set (σ := sg [(0, 0), (1, 1), (2, 2), (3, 3), (4, 4)]) (m := 5) (e := (eLs 1 eI)) (l := x1.1) (i := x1.2.toNat) (c := [.own 2 0 ((List.replicate ((a0.dims.length : Int).toNat) (0 : Int)).length)]) (d := [.own 2 0 (((List.replicate ((a0.dims.length : Int).toNat) (0 : Int)).set x1.2.toNat v6).length)]) okLs ⟨_, _, k, ⟨k, k, (by simp only [len_map, lA, lT, lR, lC, lN]), k⟩, k⟩)⟩ k <| hI k k k <| hI k k k <| hX ⟨_, k, k, .inr ⟨_, _, k, ⟨_, _, k, k, ⟨_, _, k, k, ⟨_, _, k, ⟨k, k, k, k⟩, k⟩⟩⟩, k⟩⟩ k <| trivial) k) ?_
     refine sQ <| rg <| am k k <| ae (x_add k k) k <| aa k k <| an <| tn <| ac_block ?_
     obtain ⟨y15, hy15, h⟩ := ob h
     refine ac_Lp (body := (m_impl_RankTable_L2 a0)) hy15 (fun (x2 : ((List Int) × Int × Int × (List Int) × Int)) => mkS [(1, .ptr 0 0 0), (4, .own 1 0 x1.1.length), (5, .int x1.2), (7, .ptr 3 0 0), (8, .int x2.2.2.2.2), (23, .list 1 (List.map eI a0.dims)), (24, .int (a0.dims.length : Int)), (25, .int x1.2)] [(0, ⟨6, [[.int a0.p, .int a0.q.n, .list 1 (List.map eI a0.q.src), .list 1 (List.map eI a0.q.tgt), .list 1 (List.map eI a0.dims), .list 3 (List.map eM a0.maps)]]⟩), (1, ⟨1, (List.map (ow (eLs 1 eI)) x1.1).set x1.2.toNat [.own 2 0 x2.1.length]⟩), (2, ⟨1, List.map (ow eI) x2.1⟩), (3, ⟨3, [[.int x2.2.1, .int x2.2.2.1, .own 4 0 x2.2.2.2.1.length]]⟩), (4, ⟨1, List.map (ow eI) x2.2.2.2.1⟩)] 5 [5, 6, 7]) (fun r e t => e = .exit 2 ∧ Ent t (mkS [(1, .ptr 0 0 0), (4, .own 1 0 x1.1.length), (23, .list 1 (List.map eI a0.dims)), (24, .int (a0.dims.length : Int)), (25, .int x1.2)] [(0, ⟨6, [[.int a0.p, .int a0.q.n, .list 1 (List.map eI a0.q.src), .list 1 (List.map eI a0.q.tgt), .list 1 (List.map eI a0.dims), .list 3 (List.map eM a0.maps)]]⟩), (1, ⟨1, (List.map (ow (eLs 1 eI)) x1.1).set x1.2.toNat [.own 2 0 r.length]⟩), (2, ⟨1, List.map (ow eI) r⟩)] 3 [3, 4, 5, 6, 7])) (ent_mk (σ := sg [(0, 0), (1, 1), (2, 2), (3, 4), (4, 3)]) ⟨(pE k k), (oE k k), (e1 k k), (pE k k), (e1 k k), ⟨_, k, ⟨k, k⟩⟩, (e1 k k), (e1 k k), trivial⟩ (hP k k k k <| hX ⟨_, k, k, .inr (ent_set (σ := sg [(0, 0), (1, 1), (2, 2), (3, 4), (4, 3)]) (m := 5) (e := (eLs 1 eI)) (l := x1.1) (i := x1.2.toNat) (c := [.own 2 0 (((List.replicate ((a0.dims.length : Int).toNat) (0 : Int)).set x1.2.toNat v6).length)]) (d := [.own 2 0 (((List.replicate ((a0.dims.length : Int).toNat) (0 : Int)).set x1.2.toNat v6).length)]) okLs ⟨_, _, k, ⟨k, k, k, k⟩, k⟩)⟩ k <| hI k k k <| hX ⟨_, k, k, .inr ⟨_, _, k, ⟨_, _, k, k, ⟨_, _, k, k, ⟨_, _, k, ⟨k, k, k, k⟩, k⟩⟩⟩, k⟩⟩ k <| hI k k k <| trivial) k) ?_ ?_
     ·intro x2 o h
      refine sQ <| sQ <| rg <| am k k <| ae (w_field_ptr TT_ok k k k k k k k) k <| ae (w_load_ptr TT_ok k k k k k k k) k <| ae (lenL TT_ok k k k) k <| ae (w_cmp k k k) k <| an <| tn ?_
      rcases cb h with ⟨q10, h⟩ | ⟨q10, h⟩
      ·refine ac_condT k q10 <| ac_skip <| tn <| sQ <| ac_block <| sQ <| ac_region_draw MIXX <| ae (w_field_ptr TT_ok k k k k k k k) k <| ae (w_load_ptr TT_ok k k k k k k k) k <| ae (w_field_ptr TT_ok k k k k k k k) k ?_
       refine ae (w_load_ptr TT_ok k k k k k k k) k <| am k k <| ae (x_sub k k) k ?_
       obtain ⟨v11, hv11, h⟩ := ob h
       refine ae (x_at_list TT_ok hv11 k k k k k k) k <| ae (w_load_ref TT_ok k k k k k k) k <| ae (w_load_ptr TT_ok k k k k k k k) k ?_
       obtain ⟨v12, hv12, h⟩ := ob h
       refine ae (AEff.conv (w_call0 (x := .agg [.int v12.rows, .int v12.cols, .own 5 0 (List.map eI v12.cells).length]) (nb := [(5, ⟨1, absEs (List.map eI v12.cells)⟩)]) (c_impl_times a0.p v11 (⟨x2.2.1, x2.2.2.1, x2.2.2.2.1⟩ : Mt) v12 hv12) k (by rfl) k k (g1_cons trivial (g1_cons trivial (g1_cons (okI.good _) g1_nil))) (va_cons (va_same k) (va_cons (va_agg' (v1_cons (v1_same k) (v1_cons (v1_same k) (v1_cons (v1_same k) v1_nil)))) (va_cons (va_agg' (v1_cons (v1_same k) (v1_cons (v1_same k) (v1_cons (v1_T okI k k) v1_nil)))) va_nil)))) (v' := .agg [.int v12.rows, .int v12.cols, .own 5 0 v12.cells.length]) (ed' := [(5, some ⟨1, List.map (ow eI) v12.cells⟩)]) (by simp only [len_map]) (ed_ok (nb' := [(5, ⟨1, List.map (ow eI) v12.cells⟩)]) (by simp only [abs_map]))) k <| ae (w_store TT_ok k k k k k k k k) k <| an ?_
       refine ⟨by kernel_rfl, ?_⟩
       refine tn <| ac_ent (t := mkS [(1, .ptr 0 0 0), (4, .own 1 0 x1.1.length), (5, .int x1.2), (7, .ptr 3 0 0), (8, .int x2.2.2.2.2), (23, .list 1 (List.map eI a0.dims)), (24, .int (a0.dims.length : Int)), (25, .int x1.2)] [(0, ⟨6, [[.int a0.p, .int a0.q.n, .list 1 (List.map eI a0.q.src), .list 1 (List.map eI a0.q.tgt), .list 1 (List.map eI a0.dims), .list 3 (List.map eM a0.maps)]]⟩), (1, ⟨1, (List.map (ow (eLs 1 eI)) x1.1).set x1.2.toNat [.own 2 0 x2.1.length]⟩), (2, ⟨1, List.map (ow eI) x2.1⟩), (3, ⟨3, [[.int v12.rows, .int v12.cols, .own 5 0 v12.cells.length]]⟩), (5, ⟨1, List.map (ow eI) v12.cells⟩)] 6 [6, 7]) (ent_mk (σ := sg [(0, 0), (1, 1), (2, 2), (3, 3), (5, 5)]) ⟨(pE k k), (oE k k), (e1 k k), (pE k k), (e1 k k), ⟨_, k, ⟨k, k⟩⟩, (e1 k k), (e1 k k), trivial⟩ (hP k k k k <| hX ⟨_, k, k, .inr (ent_set (σ := sg [(0, 0), (1, 1), (2, 2), (3, 3), (5, 5)]) (m := 6) (e := (eLs 1 eI)) (l := x1.1) (i := x1.2.toNat) (c := [.own 2 0 x2.1.length]) (d := [.own 2 0 x2.1.length]) okLs ⟨_, _, k, ⟨k, k, k, k⟩, k⟩)⟩ k <| hI k k k <| hX ⟨_, k, k, .inr ⟨_, _, k, ⟨_, _, k, k, ⟨_, _, k, k, ⟨_, _, k, ⟨k, k, k, k⟩, k⟩⟩⟩, k⟩⟩ k <| hI k k k <| trivial) k) <| ac_region_draw MIXX <| am k k <| am k k <| ae (x_at_own TT_ok (atL_nn hv7) (atL_lt hv7) k k k k k k k) k <| ae (w_load_ptr TT_ok k k k k (set_at (atL_lt hv7)) k k) k <| am k k <| ae (w_field_ptr TT_ok k k k k k k k) k <| ae (w_load_ptr TT_ok k k k k k k k) k ?_
       refine ae (w_load_ptr TT_ok k k k k k k k) k ?_
       obtain ⟨v13, hv13, h⟩ := ob h
       refine ae (w_call0s (c_impl_rank a0.p v12 v13 hv13) k (va_cons (va_same k) (va_cons (va_agg' (v1_cons (v1_same k) (v1_cons (v1_same k) (v1_cons (v1_T okI k k) v1_nil)))) va_nil))) k ?_
       obtain ⟨v14, hv14, h⟩ := ob h
       refine ae (x_at_own TT_ok (atL_nn hv14) (atL_lt hv14) k k k k k k k) k <| ae (x_store TT_ok okIo (u := v13) (atL_get hv14) k k k k k k) k <| an ?_
       refine ⟨by kernel_rfl, ?_⟩
       refine block_n <| tn <| rg <| am k k <| ae (x_add k k) k <| aa k k <| an <| tn ?_
       obtain rfl := so h
       exact ⟨_, k, (ent_mk (σ := sg [(0, 0), (1, 1), (2, 2), (3, 3), (4, 5)]) ⟨(pE k k), (oE k k), (e1 k k), (pE k k), (e1 k k), ⟨_, k, ⟨k, k⟩⟩, (e1 k k), (e1 k k), trivial⟩ (hP k k k k <| hX ⟨_, k, k, .inr (ent_set (σ := sg [(0, 0), (1, 1), (2, 2), (3, 3), (4, 5)]) (m := 5) (e := (eLs 1 eI)) (l := x1.1) (i := x1.2.toNat) (c := [.own 2 0 x2.1.length]) (d := [.own 2 0 ((x2.1.set x2.2.2.2.2.toNat v13).length)]) okLs ⟨_, _, k, ⟨k, k, (by simp only [len_map, lA, lT, lR, lC, lN]), k⟩, k⟩)⟩ k <| hI k k k <| hX ⟨_, k, k, .inr ⟨_, _, k, ⟨_, _, k, k, ⟨_, _, k, k, ⟨_, _, k, ⟨k, k, k, k⟩, k⟩⟩⟩, k⟩⟩ k <| hI k k k <| trivial) k)⟩
      ·refine ac_condF k q10 <| ac_exit <| then_exit <| then_exit ?_
       obtain rfl := so h
       exact ⟨_, k, k, (ent_mk (σ := sg [(0, 0), (1, 1), (2, 2)]) ⟨(pE k k), (oE k k), ⟨_, k, ⟨k, k⟩⟩, (e1 k k), (e1 k k), trivial⟩ (hP k k k k <| hX ⟨_, k, k, .inr (ent_set (σ := sg [(0, 0), (1, 1), (2, 2)]) (m := 3) (e := (eLs 1 eI)) (l := x1.1) (i := x1.2.toNat) (c := [.own 2 0 x2.1.length]) (d := [.own 2 0 x2.1.length]) okLs ⟨_, _, k, ⟨k, k, k, k⟩, k⟩)⟩ k <| hI k k k <| trivial) k)⟩
     ·rintro e t ⟨rfl, hent⟩
      refine block_here <| block_n <| tn <| ac_ent hent <| rg <| ae (x_add k k) k <| am k k <| an <| tn ?_
      obtain rfl := so h
      exact ⟨_, k, (Ent.trans (show Ent _ (mkS [(1, .ptr 0 0 0), (4, .own 1 0 ((x1.1.set x1.2.toNat y15).length)), (23, .list 1 (List.map eI a0.dims)), (24, .int (a0.dims.length : Int)), (25, .int (wr (x1.2 + 1)))] [(0, ⟨6, [[.int a0.p, .int a0.q.n, .list 1 (List.map eI a0.q.src), .list 1 (List.map eI a0.q.tgt), .list 1 (List.map eI a0.dims), .list 3 (List.map eM a0.maps)]]⟩), (1, ⟨1, List.map (ow (eLs 1 eI)) (x1.1.set x1.2.toNat y15)⟩)] 3 [3, 4, 5, 6, 7]) from (Ent.trans (ent_absS (b := 1) (b' := 2) (j := 0) (es' := List.map eI y15) (by rw [List.length_map]; exact atL_lt hv7) k k k k (len_map _ _) (okI.frzs _)) (ent_mk (σ := sg [(0, 0), (1, 1)]) ⟨(pE k k), ⟨_, k, ⟨k, k, (by simp only [len_map, lA, lT, lR, lC, lN]), k⟩⟩, ⟨_, k, ⟨k, k⟩⟩, (e1 k k), (e1 k k), trivial⟩ (hP k k k k <| hX ⟨_, k, k, .inl ⟨set_eq y15 k, okLs.plainO _⟩⟩ k <| trivial) k))) (ent_mk (σ := sg [(0, 0), (1, 1)]) ⟨(pE k k), (oE k k), ⟨_, k, ⟨k, k⟩⟩, (e1 k k), (e1 k k), trivial⟩ (hP k k k k <| hB (okLs.plainO _) k k k <| trivial) k))⟩
    ·refine ac_condF k q5 <| ac_exit <| then_exit <| then_exit ?_
     obtain rfl := so h
     exact ⟨_, k, k, (ent_mk (σ := sg [(0, 1)]) ⟨(oE k k), trivial⟩ (hB (okLs.plainO _) k k k <| trivial) k)⟩
   ·rintro e t ⟨rfl, hent⟩
    refine block_here <| tn <| ac_ent hent <| sQ <| rg <| am k k <| aa k k <| aa k k <| an <| tn ?_
    refine ac_ret ?_
    obtain rfl := so h
    exact ret_mk k k k (xz_tuple k (xB_cons (xB_one (x_f1 okLs k k)) (xB_cons (k) xB_nil)))

end Go.Proofs.Ytdhjmmnjapkmkaa
end

section
set_option linter.unusedVariables false
set_option linter.unusedSimpArgs false

namespace Go.Proofs.Ytdhjmmnjapkmkaa
open Go.RowKit
set_option linter.unusedVariables false
set_option linter.unusedSimpArgs false
set_option maxRecDepth 10000
set_option maxHeartbeats 4000000

def m_laws_szIntS (a0 : (List Int)) (a1 : Int) : Option Int :=
  bif decide (wr (a1 - (a0.length : Int)) < 0) then
    (some ((-1)))
  else
    (some (wr (a1 - (a0.length : Int))))

theorem c_laws_szIntS (a0 : (List Int)) (a1 : Int) (r : Int) (h : m_laws_szIntS a0 a1 = some r) : HasC Try.prog 27 [.list 1 (List.map eI a0), .int a1] (.int r) := by
 refine hasC_mk TT_ok (rvs := [.tmp 4]) (ns := [0, 1]) Try.func27 k k Try.ntmps27 k k k <| sQ <| rg <| aa k k <| an <| tn <| sQ <| rg <| am k k <| am k k ?_
 refine ae (lenL TT_ok k k k) k <| ae (x_sub k k) k <| aa k k <| an <| tn <| sQ <| sQ <| rg <| am k k <| ae (w_cmp k k k) k ?_
 refine an <| tn ?_
 rcases cb h with ⟨q1, h⟩ | ⟨q1, h⟩
 ·refine ac_condT k q1 <| sQ <| rg <| aa k k <| an <| tn <| ac_ret <| then_ret ?_
  obtain rfl := so h
  exact ret_mk k k k (fz_int k)
 ·refine ac_condF k q1 <| ac_skip <| tn <| sQ <| rg <| am k k <| aa k k <| an <| tn <| ac_ret ?_
  obtain rfl := so h
  exact ret_mk k k k (fz_int k)

noncomputable def m_laws_szQuiver (a0 : Qv) (a1 : Int) : Option Int :=
  Option.bind (m_laws_szIntS a0.src a1) fun v1 =>
  bif decide (v1 < 0) then
    (some ((-1)))
  else
    (Option.bind (m_laws_szIntS a0.tgt v1) fun v3 =>
    bif decide (v3 < 0) then
      (some ((-1)))
    else
      (some (v3)))

theorem c_laws_szQuiver (a0 : Qv) (a1 : Int) (r : Int) (h : m_laws_szQuiver a0 a1 = some r) : HasC Try.prog 15 [.agg (eQ a0), .int a1] (.int r) := by
 refine hasC_mk TT_ok (rvs := [.tmp 4]) (ns := [0, 1, 2]) Try.func15 k k Try.ntmps15 k k k <| sQ <| rg <| ae (w_box k k k k) k <| aa k k <| an <| tn <| sQ <| rg <| ae (w_field_ptr TT_ok k k k k k k k) k ?_
 refine ae (w_load_ptr TT_ok k k k k k k k) k <| am k k ?_
 obtain ⟨v1, hv1, h⟩ := ob h
 refine ae (w_call0s (c_laws_szIntS a0.src a1 v1 hv1) k (va_cons (va_same k) (va_cons (va_same k) va_nil))) k <| aa k k <| an <| tn <| sQ <| sQ <| rg <| am k k <| ae (w_cmp k k k) k <| an ?_
 refine tn ?_
 rcases cb h with ⟨q2, h⟩ | ⟨q2, h⟩
 ·refine ac_condT k q2 <| sQ <| rg <| aa k k <| an <| tn <| ac_ret <| then_ret ?_
  obtain rfl := so h
  exact ret_mk k k k (fz_int k)
 ·refine ac_condF k q2 <| ac_skip <| tn <| sQ <| rg <| ae (w_field_ptr TT_ok k k k k k k k) k <| ae (w_load_ptr TT_ok k k k k k k k) k <| am k k ?_
  obtain ⟨v3, hv3, h⟩ := ob h
  refine ae (w_call0s (c_laws_szIntS a0.tgt v1 v3 hv3) k (va_cons (va_same k) (va_cons (va_same k) va_nil))) k <| aa k k <| an <| tn <| ac_ent (t := mkS [(1, .int v3)] [] 1 [1, 2]) (ent_mk (σ := sg []) ⟨(e1 k k), trivial⟩ trivial k) <| sQ <| sQ <| rg <| am k k <| ae (w_cmp k k k) k ?_
  refine an <| tn ?_
  rcases cb h with ⟨q4, h⟩ | ⟨q4, h⟩
  ·refine ac_condT k q4 <| sQ <| rg <| aa k k <| an <| tn <| ac_ret <| then_ret ?_
   obtain rfl := so h
   exact ret_mk k k k (fz_int k)
  ·refine ac_condF k q4 <| ac_skip <| tn <| sQ <| rg <| am k k <| aa k k <| an <| tn <| ac_ret ?_
   obtain rfl := so h
   exact ret_mk k k k (fz_int k)

noncomputable def m_laws_szMatrix (a0 : Mt) (a1 : Int) : Option Int :=
  Option.bind (m_laws_szIntS a0.cells a1) fun v1 =>
  bif decide (v1 < 0) then
    (some ((-1)))
  else
    (some (v1))

theorem c_laws_szMatrix (a0 : Mt) (a1 : Int) (r : Int) (h : m_laws_szMatrix a0 a1 = some r) : HasC Try.prog 57 [.agg (eM a0), .int a1] (.int r) := by
 refine hasC_mk TT_ok (rvs := [.tmp 4]) (ns := [0, 1, 2]) Try.func57 k k Try.ntmps57 k k k <| sQ <| rg <| ae (w_box k k k k) k <| aa k k <| an <| tn <| sQ <| rg <| ae (w_field_ptr TT_ok k k k k k k k) k ?_
 refine ae (w_load_ptr TT_ok k k k k k k k) k <| am k k ?_
 obtain ⟨v1, hv1, h⟩ := ob h
 refine ae (w_call0s (c_laws_szIntS a0.cells a1 v1 hv1) k (va_cons (va_same k) (va_cons (va_same k) va_nil))) k <| aa k k <| an <| tn <| sQ <| sQ <| rg <| am k k <| ae (w_cmp k k k) k <| an ?_
 refine tn ?_
 rcases cb h with ⟨q2, h⟩ | ⟨q2, h⟩
 ·refine ac_condT k q2 <| sQ <| rg <| aa k k <| an <| tn <| ac_ret <| then_ret ?_
  obtain rfl := so h
  exact ret_mk k k k (fz_int k)
 ·refine ac_condF k q2 <| ac_skip <| tn <| sQ <| rg <| am k k <| aa k k <| an <| tn <| ac_ret ?_
  obtain rfl := so h
  exact ret_mk k k k (fz_int k)

noncomputable def m_laws_szMatrixS_L1 (a0 : (List Mt)) (x1 : (Int × Int)) : Option ((Int × Int) ⊕ (Int ⊕ Int)) :=
  bif decide (x1.2 < (a0.length : Int)) then
    (Option.bind (atL a0 x1.2) fun v3 =>
    Option.bind (m_laws_szMatrix v3 x1.1) fun v4 =>
    bif decide (v4 < 0) then
      (some (.inr (.inr ((-1)))))
    else
      (some (.inl (v4, wr (x1.2 + 1)))))
  else
    (some (.inr (.inl x1.1)))

noncomputable def m_laws_szMatrixS (a0 : (List Mt)) (a1 : Int) : Option Int :=
  bif decide (wr (a1 - (a0.length : Int)) < 0) then
    (some ((-1)))
  else
    (Option.bind (Lp (m_laws_szMatrixS_L1 a0) (wr (a1 - (a0.length : Int)), 0)) fun y6 =>
    Sum.elim (fun y7 =>
      some (y7)
    ) 
    (fun y8 =>
      some y8
    )
     y6)

theorem c_laws_szMatrixS (a0 : (List Mt)) (a1 : Int) (r : Int) (h : m_laws_szMatrixS a0 a1 = some r) : HasC Try.prog 28 [.list 3 (List.map eM a0), .int a1] (.int r) := by
 refine hasC_mk TT_ok (rvs := [.tmp 4]) (ns := [0, 1]) Try.func28 k k Try.ntmps28 k k k <| sQ <| rg <| aa k k <| an <| tn <| sQ <| rg <| am k k <| am k k ?_
 refine ae (lenL TT_ok k k k) k <| ae (x_sub k k) k <| aa k k <| an <| tn <| sQ <| sQ <| rg <| am k k <| ae (w_cmp k k k) k ?_
 refine an <| tn ?_
 rcases cb h with ⟨q1, h⟩ | ⟨q1, h⟩
 ·refine ac_condT k q1 <| sQ <| rg <| aa k k <| an <| tn <| ac_ret <| then_ret ?_
  obtain rfl := so h
  exact ret_mk k k k (fz_int k)
 ·refine ac_condF k q1 <| ac_skip <| tn <| sQ <| sQ <| rg <| aa k k <| an <| tn <| ac_block ?_
  obtain ⟨y6, hy6, h⟩ := ob h
  refine ac_Lp (body := (m_laws_szMatrixS_L1 a0)) hy6 (fun (x1 : (Int × Int)) => mkS [(0, .list 3 (List.map eM a0)), (1, .int x1.1), (5, .int x1.2)] [] 0 [0, 1]) (fun r e t => Sum.elim (fun a => (fun r e t => e = .exit 0 ∧ Ent t (mkS [(1, .int r)] [] 0 [0, 1])) a e t) (fun b => (fun r e t => e = .ret ∧ RetQ TT [.tmp 4] (.int r) .ret t) b e t) r) (ent_mk (σ := sg []) ⟨⟨_, k, ⟨k, k⟩⟩, (e1 k k), (e1 k k), trivial⟩ trivial k) ?_ ?_
  ·intro x1 o h
   refine sQ <| sQ <| rg <| am k k <| am k k <| ae (lenL TT_ok k k k) k <| ae (w_cmp k k k) k <| an <| tn ?_
   rcases cb h with ⟨q2, h⟩ | ⟨q2, h⟩
   ·refine ac_condT k q2 <| ac_skip <| tn <| sQ <| ac_block <| sQ <| rg <| am k k <| am k k ?_
    obtain ⟨v3, hv3, h⟩ := ob h
    refine ae (x_at_list TT_ok hv3 k k k k k k) k <| ae (w_load_ref TT_ok k k k k k k) k <| am k k ?_
    obtain ⟨v4, hv4, h⟩ := ob h
    refine ae (w_call0s (c_laws_szMatrix v3 x1.1 v4 hv4) k (va_cons (va_agg' (v1_cons (v1_same k) (v1_cons (v1_same k) (v1_cons (v1_same k) v1_nil)))) (va_cons (va_same k) va_nil))) k <| aa k k <| an <| tn <| sQ <| rg <| am k k <| ae (w_cmp k k k) k <| an <| tn ?_
    refine ac_ent (t := mkS [(0, .list 3 (List.map eM a0)), (1, .int v4), (5, .int x1.2), (25, .bl (decide (v4 < 0)))] [] 0 [0, 1]) (ent_mk (σ := sg []) ⟨⟨_, k, ⟨k, k⟩⟩, (e1 k k), (e1 k k), (e1 k k), trivial⟩ trivial k) ?_
    rcases cb h with ⟨q5, h⟩ | ⟨q5, h⟩
    ·refine ac_condT k q5 <| sQ <| rg <| aa k k <| an <| tn <| ac_ret <| block_ret <| then_ret <| then_ret ?_
     obtain rfl := so h
     exact ⟨_, k, k, ret_mk k k k (fz_int k)⟩
    ·refine ac_condF k q5 <| ac_skip <| block_n <| tn <| rg <| am k k <| ae (x_add k k) k <| aa k k <| an <| tn ?_
     obtain rfl := so h
     exact ⟨_, k, (ent_mk (σ := sg []) ⟨⟨_, k, ⟨k, k⟩⟩, (e1 k k), (e1 k k), trivial⟩ trivial k)⟩
   ·refine ac_condF k q2 <| ac_exit <| then_exit <| then_exit ?_
    obtain rfl := so h
    exact ⟨_, k, k, (ent_mk (σ := sg []) ⟨(e1 k k), trivial⟩ trivial k)⟩
  ·intro e t hX
   rcases y6 with y7 | y8
   ·obtain ⟨rfl, hent⟩ := hX
    refine block_here <| tn <| ac_ent hent <| sQ <| rg <| am k k <| aa k k <| an <| tn <| ac_ret ?_
    obtain rfl := so h
    exact ret_mk k k k (fz_int k)
   ·obtain ⟨rfl, hent⟩ := hX
    refine block_ret <| then_ret ?_
    obtain rfl := so h
    exact hent

noncomputable def m_laws_szRep (a0 : Rp) (a1 : Int) : Option Int :=
  Option.bind (m_laws_szQuiver a0.q a1) fun v1 =>
  bif decide (v1 < 0) then
    (some ((-1)))
  else
    (Option.bind (m_laws_szIntS a0.dims v1) fun v3 =>
    bif decide (v3 < 0) then
      (some ((-1)))
    else
      (Option.bind (m_laws_szMatrixS a0.maps v3) fun v5 =>
      bif decide (v5 < 0) then
        (some ((-1)))
      else
        (some (v5))))

theorem c_laws_szRep (a0 : Rp) (a1 : Int) (r : Int) (h : m_laws_szRep a0 a1 = some r) : HasC Try.prog 6 [.agg (eR a0), .int a1] (.int r) := by
 refine hasC_mk TT_ok (rvs := [.tmp 4]) (ns := [0, 1, 2]) Try.func6 k k Try.ntmps6 k k k <| sQ <| rg <| ae (w_box k k k k) k <| aa k k <| an <| tn <| sQ <| rg <| ae (w_field_ptr TT_ok k k k k k k k) k ?_
 refine ae (w_load_ptr TT_ok k k k k k k k) k <| am k k ?_
 obtain ⟨v1, hv1, h⟩ := ob h
 refine ae (w_call0s (c_laws_szQuiver a0.q a1 v1 hv1) k (va_cons (va_agg' (v1_cons (v1_same k) (v1_cons (v1_same k) (v1_cons (v1_same k) v1_nil)))) (va_cons (va_same k) va_nil))) k <| aa k k <| an <| tn <| sQ <| sQ <| rg <| am k k <| ae (w_cmp k k k) k <| an ?_
 refine tn ?_
 rcases cb h with ⟨q2, h⟩ | ⟨q2, h⟩
 ·refine ac_condT k q2 <| sQ <| rg <| aa k k <| an <| tn <| ac_ret <| then_ret ?_
  obtain rfl := so h
  exact ret_mk k k k (fz_int k)
 ·refine ac_condF k q2 <| ac_skip <| tn <| sQ <| rg <| ae (w_field_ptr TT_ok k k k k k k k) k <| ae (w_load_ptr TT_ok k k k k k k k) k <| am k k ?_
  obtain ⟨v3, hv3, h⟩ := ob h
  refine ae (w_call0s (c_laws_szIntS a0.dims v1 v3 hv3) k (va_cons (va_same k) (va_cons (va_same k) va_nil))) k <| aa k k <| an <| tn <| ac_ent (t := mkS [(1, .int v3), (2, .ptr 0 0 0)] [(0, ⟨6, [[.int a0.p, .int a0.q.n, .list 1 (List.map eI a0.q.src), .list 1 (List.map eI a0.q.tgt), .list 1 (List.map eI a0.dims), .list 3 (List.map eM a0.maps)]]⟩)] 1 [1, 2]) (ent_mk (σ := sg [(0, 0)]) ⟨(e1 k k), (pE k k), trivial⟩ (hP k k k k <| trivial) k) <| sQ <| sQ <| rg <| am k k <| ae (w_cmp k k k) k ?_
  refine an <| tn ?_
  rcases cb h with ⟨q4, h⟩ | ⟨q4, h⟩
  ·refine ac_condT k q4 <| sQ <| rg <| aa k k <| an <| tn <| ac_ret <| then_ret ?_
   obtain rfl := so h
   exact ret_mk k k k (fz_int k)
  ·refine ac_condF k q4 <| ac_skip <| tn <| sQ <| rg <| ae (w_field_ptr TT_ok k k k k k k k) k <| ae (w_load_ptr TT_ok k k k k k k k) k <| am k k ?_
   obtain ⟨v5, hv5, h⟩ := ob h
   refine ae (w_call0s (c_laws_szMatrixS a0.maps v3 v5 hv5) k (va_cons (va_same k) (va_cons (va_same k) va_nil))) k <| aa k k <| an <| tn <| sQ <| sQ <| rg <| am k k <| ae (w_cmp k k k) k <| an ?_
   refine tn ?_
   rcases cb h with ⟨q6, h⟩ | ⟨q6, h⟩
   ·refine ac_condT k q6 <| sQ <| rg <| aa k k <| an <| tn <| ac_ret <| then_ret ?_
    obtain rfl := so h
    exact ret_mk k k k (fz_int k)
   ·refine ac_condF k q6 <| ac_skip <| tn <| sQ <| rg <| am k k <| aa k k <| an <| tn <| ac_ret ?_
    obtain rfl := so h
    exact ret_mk k k k (fz_int k)

noncomputable def m_laws_toIntS_L1 (a0 : (List Int)) (x1 : ((List Int) × Int)) : Option (((List Int) × Int) ⊕ (List Int)) :=
  bif decide (x1.2 < (a0.length : Int)) then
    (Option.bind (atL a0 x1.2) fun v2 =>
    Option.bind (atL x1.1 x1.2) fun v3 =>
    some (.inl ((x1.1.set x1.2.toNat v2), wr (x1.2 + 1))))
  else
    (some (.inr x1.1))

noncomputable def m_laws_toIntS (a0 : (List Int)) : Option (List Int) :=
  bif (decide (0 ≤ (a0.length : Int)) && decide ((a0.length : Int) ≤ 1048576)) then
    (Option.bind (Lp (m_laws_toIntS_L1 a0) ((List.replicate ((a0.length : Int).toNat) (0 : Int)), 0)) fun y4 =>
    some (y4))
  else none

theorem c_laws_toIntS (a0 : (List Int)) (r : (List Int)) (h : m_laws_toIntS a0 = some r) : HasC Try.prog 18 [.list 1 (List.map eI a0)] (.list 1 (List.map eI r)) := by
 refine hasC_mk TT_ok (rvs := [.tmp 2]) (ns := [0, 1, 2]) Try.func18 k k Try.ntmps18 k k k <| sQ <| rg <| aa k k <| an <| tn <| sQ <| rg <| am k k <| ae (lenL TT_ok k k k) k ?_
 obtain ⟨q5, h⟩ := cg h
 refine ae (x_make TT_ok q5 k k k k k k k k) k <| aa k k <| an <| tn <| ac_ent (t := mkS [(0, .list 1 (List.map eI a0)), (3, .own 0 0 ((List.replicate ((a0.length : Int).toNat) (0 : Int)).length))] [(0, ⟨1, List.map (ow eI) (List.replicate ((a0.length : Int).toNat) (0 : Int))⟩)] 1 [1, 2]) (ent_mk (σ := sg [(0, 0)]) ⟨⟨_, k, ⟨k, k⟩⟩, ⟨_, k, ⟨k, k, (by simp only [len_map, lA, lT, lR, lC, lN]), k⟩⟩, trivial⟩ (hX ⟨_, k, k, .inl ⟨rep_eq (e := eI) (z := 0) _, okI.plainO _⟩⟩ k <| trivial) k) <| sQ <| sQ <| rg <| aa k k <| an ?_
 refine tn <| ac_block ?_
 obtain ⟨y4, hy4, h⟩ := ob h
 refine ac_Lp (body := (m_laws_toIntS_L1 a0)) hy4 (fun (x1 : ((List Int) × Int)) => mkS [(0, .list 1 (List.map eI a0)), (3, .own 0 0 x1.1.length), (4, .int x1.2)] [(0, ⟨1, List.map (ow eI) x1.1⟩)] 1 [1, 2]) (fun r e t => e = .exit 0 ∧ Ent t (mkS [(3, .own 0 0 r.length)] [(0, ⟨1, List.map (ow eI) r⟩)] 1 [1, 2])) (ent_mk (σ := sg [(0, 0)]) ⟨⟨_, k, ⟨k, k⟩⟩, (oE k k), (e1 k k), trivial⟩ (hI k k k <| trivial) k) ?_ ?_
 ·intro x1 o h
  refine sQ <| sQ <| rg <| am k k <| am k k <| ae (lenL TT_ok k k k) k <| ae (w_cmp k k k) k <| an <| tn ?_
  rcases cb h with ⟨q1, h⟩ | ⟨q1, h⟩
  ·refine ac_condT k q1 <| ac_skip <| tn <| sQ <| ac_block <| rg <| am k k <| am k k <| am k k <| am k k ?_
   obtain ⟨v2, hv2, h⟩ := ob h
   refine ae (x_at_list TT_ok hv2 k k k k k k) k <| ae (w_load_ref TT_ok k k k k k k) k ?_
   obtain ⟨v3, hv3, h⟩ := ob h
   refine ae (x_at_own TT_ok (atL_nn hv3) (atL_lt hv3) k k k k k k k) k <| ae (x_store TT_ok okIo (u := v2) (atL_get hv3) k k k k k k) k <| an <| block_n <| tn <| ac_ent (t := mkS [(0, .list 1 (List.map eI a0)), (3, .own 0 0 ((x1.1.set x1.2.toNat v2).length)), (4, .int x1.2)] [(0, ⟨1, List.map (ow eI) (x1.1.set x1.2.toNat v2)⟩)] 1 [1, 2]) (ent_mk (σ := sg [(0, 0)]) ⟨⟨_, k, ⟨k, k⟩⟩, ⟨_, k, ⟨k, k, (by simp only [len_map, lA, lT, lR, lC, lN]), k⟩⟩, (e1 k k), trivial⟩ (hI k k k <| trivial) k) <| rg <| am k k <| ae (x_add k k) k <| aa k k ?_
   refine an <| tn ?_
   obtain rfl := so h
   exact ⟨_, k, (ent_mk (σ := sg [(0, 0)]) ⟨⟨_, k, ⟨k, k⟩⟩, (oE k k), (e1 k k), trivial⟩ (hI k k k <| trivial) k)⟩
  ·refine ac_condF k q1 <| ac_exit <| then_exit <| then_exit ?_
   obtain rfl := so h
   exact ⟨_, k, k, (ent_mk (σ := sg [(0, 0)]) ⟨(oE k k), trivial⟩ (hI k k k <| trivial) k)⟩
 ·rintro e t ⟨rfl, hent⟩
  refine block_here <| tn <| ac_ent hent <| sQ <| rg <| am k k <| aa k k <| an <| tn <| ac_ret ?_
  obtain rfl := so h
  exact ret_mk k k k (xz_list (x_f1 okI k k))

noncomputable def m_laws_toQuiver (a0 : Qv) : Option Qv :=
  Option.bind (m_laws_toIntS a0.src) fun v1 =>
  Option.bind (m_laws_toIntS a0.tgt) fun v2 =>
  some ((⟨a0.n, v1, v2⟩ : Qv))

theorem c_laws_toQuiver (a0 : Qv) (r : Qv) (h : m_laws_toQuiver a0 = some r) : HasC Try.prog 17 [.agg (eQ a0)] (.agg (eQ r)) := by
 refine hasC_mk TT_ok (rvs := [.cell 2 29]) (ns := [0, 1, 2, 3, 4, 5, 6]) Try.func17 k k Try.ntmps17 k k k <| sQ <| rg <| ae (w_box k k k k) k <| ae (w_alloc TT_ok k k) k <| an <| tn <| sQ <| rg <| ae (w_alloc TT_ok k k) k ?_
 refine an <| tn <| sQ <| rg <| ae (w_field_ptr TT_ok k k k k k k k) k <| ae (w_load_ptr TT_ok k k k k k k k) k <| ae (w_field_ptr TT_ok k k k k k k k) k <| ae (w_store TT_ok k k k k k k k k) k <| an <| tn ?_
 refine sQ <| rg <| ae (w_field_ptr TT_ok k k k k k k k) k <| ae (w_load_ptr TT_ok k k k k k k k) k ?_
 obtain ⟨v1, hv1, h⟩ := ob h
 refine ae (AEff.conv (w_call0 (x := .own 3 0 (List.map eI v1).length) (nb := [(3, ⟨1, absEs (List.map eI v1)⟩)]) (c_laws_toIntS a0.src v1 hv1) k (by rfl) k k (okI.good _) (va_cons (va_same k) va_nil)) (v' := .own 3 0 v1.length) (ed' := [(3, some ⟨1, List.map (ow eI) v1⟩)]) (by simp only [len_map]) (ed_ok (nb' := [(3, ⟨1, List.map (ow eI) v1⟩)]) (by simp only [abs_map]))) k <| ae (w_field_ptr TT_ok k k k k k k k) k <| ae (w_store TT_ok k k k k k k k k) k <| an <| tn <| ac_ent (t := mkS [(1, .ptr 0 0 0), (2, .ptr 1 0 0), (3, .ptr 2 0 0)] [(0, ⟨3, [[.int a0.n, .list 1 (List.map eI a0.src), .list 1 (List.map eI a0.tgt)]]⟩), (1, ⟨3, [[.int 0, .nil 1, .nil 1]]⟩), (2, ⟨3, [[.int a0.n, .own 3 0 v1.length, .nil 1]]⟩), (3, ⟨1, List.map (ow eI) v1⟩)] 4 [4, 5, 6]) (ent_mk (σ := sg [(0, 0), (1, 1), (2, 2), (3, 3)]) ⟨(pE k k), (pE k k), (pE k k), trivial⟩ (hP k k k k <| hP k k k k <| hX ⟨_, k, k, .inr ⟨_, _, k, ⟨_, _, k, k, ⟨_, _, k, ⟨k, k, k, k⟩, ⟨_, _, k, trivial, k⟩⟩⟩, k⟩⟩ k <| hI k k k <| trivial) k) <| sQ <| rg <| ae (w_field_ptr TT_ok k k k k k k k) k <| ae (w_load_ptr TT_ok k k k k k k k) k ?_
 obtain ⟨v2, hv2, h⟩ := ob h
 refine ae (AEff.conv (w_call0 (x := .own 4 0 (List.map eI v2).length) (nb := [(4, ⟨1, absEs (List.map eI v2)⟩)]) (c_laws_toIntS a0.tgt v2 hv2) k (by rfl) k k (okI.good _) (va_cons (va_same k) va_nil)) (v' := .own 4 0 v2.length) (ed' := [(4, some ⟨1, List.map (ow eI) v2⟩)]) (by simp only [len_map]) (ed_ok (nb' := [(4, ⟨1, List.map (ow eI) v2⟩)]) (by simp only [abs_map]))) k <| ae (w_field_ptr TT_ok k k k k k k k) k <| ae (w_store TT_ok k k k k k k k k) k <| an <| tn <| sQ <| rg <| ae (w_load_ptr TT_ok k k k k k k k) k <| ae (w_store TT_ok k k k k k k k k) k <| an ?_
 refine tn <| ac_ret ?_
 obtain rfl := so h
 exact ret_mk k k k (xz_agg (x1_cons (k) (x1_cons (x_f1 okI k k) (x1_cons (x_f1 okI k k) x1_nil))))

noncomputable def m_laws_toMatrix (a0 : Mt) : Option Mt :=
  Option.bind (m_laws_toIntS a0.cells) fun v1 =>
  some ((⟨a0.rows, a0.cols, v1⟩ : Mt))

theorem c_laws_toMatrix (a0 : Mt) (r : Mt) (h : m_laws_toMatrix a0 = some r) : HasC Try.prog 62 [.agg (eM a0)] (.agg (eM r)) := by
 refine hasC_mk TT_ok (rvs := [.cell 2 82]) (ns := [0, 1, 2, 3, 4, 5]) Try.func62 k k Try.ntmps62 k k k <| sQ <| rg <| ae (w_box k k k k) k <| ae (w_alloc TT_ok k k) k <| an <| tn <| sQ <| rg <| ae (w_alloc TT_ok k k) k ?_
 refine an <| tn <| sQ <| rg <| ae (w_field_ptr TT_ok k k k k k k k) k <| ae (w_load_ptr TT_ok k k k k k k k) k <| ae (w_field_ptr TT_ok k k k k k k k) k <| ae (w_store TT_ok k k k k k k k k) k <| an <| tn ?_
 refine sQ <| rg <| ae (w_field_ptr TT_ok k k k k k k k) k <| ae (w_load_ptr TT_ok k k k k k k k) k <| ae (w_field_ptr TT_ok k k k k k k k) k <| ae (w_store TT_ok k k k k k k k k) k <| an <| tn <| sQ <| rg ?_
 refine ae (w_field_ptr TT_ok k k k k k k k) k <| ae (w_load_ptr TT_ok k k k k k k k) k ?_
 obtain ⟨v1, hv1, h⟩ := ob h
 refine ae (AEff.conv (w_call0 (x := .own 3 0 (List.map eI v1).length) (nb := [(3, ⟨1, absEs (List.map eI v1)⟩)]) (c_laws_toIntS a0.cells v1 hv1) k (by rfl) k k (okI.good _) (va_cons (va_same k) va_nil)) (v' := .own 3 0 v1.length) (ed' := [(3, some ⟨1, List.map (ow eI) v1⟩)]) (by simp only [len_map]) (ed_ok (nb' := [(3, ⟨1, List.map (ow eI) v1⟩)]) (by simp only [abs_map]))) k <| ae (w_field_ptr TT_ok k k k k k k k) k <| ae (w_store TT_ok k k k k k k k k) k <| an <| tn <| ac_ent (t := mkS [(2, .ptr 1 0 0), (3, .ptr 2 0 0)] [(1, ⟨3, [[.int 0, .int 0, .nil 1]]⟩), (2, ⟨3, [[.int a0.rows, .int a0.cols, .own 3 0 v1.length]]⟩), (3, ⟨1, List.map (ow eI) v1⟩)] 4 [4, 5]) (ent_mk (σ := sg [(1, 1), (2, 2), (3, 3)]) ⟨(pE k k), (pE k k), trivial⟩ (hP k k k k <| hX ⟨_, k, k, .inr ⟨_, _, k, ⟨_, _, k, k, ⟨_, _, k, k, ⟨_, _, k, ⟨k, k, k, k⟩, k⟩⟩⟩, k⟩⟩ k <| hI k k k <| trivial) k) <| sQ <| rg <| ae (w_load_ptr TT_ok k k k k k k k) k <| ae (w_store TT_ok k k k k k k k k) k ?_
 refine an <| tn <| ac_ret ?_
 obtain rfl := so h
 exact ret_mk k k k (xz_agg (x1_cons (k) (x1_cons (k) (x1_cons (x_f1 okI k k) x1_nil))))

noncomputable def m_laws_toMatrixS_L1 (a0 : (List Mt)) (x1 : ((List Mt) × Int)) : Option (((List Mt) × Int) ⊕ (List Mt)) :=
  bif decide (x1.2 < (a0.length : Int)) then
    (Option.bind (atL a0 x1.2) fun v2 =>
    Option.bind (m_laws_toMatrix v2) fun v3 =>
    Option.bind (atL x1.1 x1.2) fun v4 =>
    some (.inl ((x1.1.set x1.2.toNat v3), wr (x1.2 + 1))))
  else
    (some (.inr x1.1))

noncomputable def m_laws_toMatrixS (a0 : (List Mt)) : Option (List Mt) :=
  bif (decide (0 ≤ (a0.length : Int)) && decide ((a0.length : Int) ≤ 1048576)) then
    (Option.bind (Lp (m_laws_toMatrixS_L1 a0) ((List.replicate ((a0.length : Int).toNat) ((⟨0, 0, []⟩ : Mt) : Mt)), 0)) fun y5 =>
    some (y5))
  else none

theorem c_laws_toMatrixS (a0 : (List Mt)) (r : (List Mt)) (h : m_laws_toMatrixS a0 = some r) : HasC Try.prog 31 [.list 3 (List.map eM a0)] (.list 3 (List.map eM r)) := by
 refine hasC_mk TT_ok (rvs := [.tmp 2]) (ns := [0, 1, 2, 3]) Try.func31 k k Try.ntmps31 k k k <| sQ <| rg <| aa k k <| an <| tn <| sQ <| rg <| am k k <| ae (lenL TT_ok k k k) k ?_
 obtain ⟨q6, h⟩ := cg h
 refine ae (x_make TT_ok q6 k k k k k k k k) k <| aa k k <| an <| tn <| ac_ent (t := mkS [(0, .list 3 (List.map eM a0)), (3, .own 0 0 ((List.replicate ((a0.length : Int).toNat) ((⟨0, 0, []⟩ : Mt) : Mt)).length))] [(0, ⟨3, List.map (ow eM) (List.replicate ((a0.length : Int).toNat) ((⟨0, 0, []⟩ : Mt) : Mt))⟩)] 1 [1, 2, 3]) (ent_mk (σ := sg [(0, 0)]) ⟨⟨_, k, ⟨k, k⟩⟩, ⟨_, k, ⟨k, k, (by simp only [len_map, lA, lT, lR, lC, lN]), k⟩⟩, trivial⟩ (hX ⟨_, k, k, .inr (rep_matchS (e := eM) (z := (⟨0, 0, []⟩ : Mt)) (zc := [.int 0, .int 0, .nil 1]) ⟨_, _, k, k, ⟨_, _, k, k, ⟨_, _, k, k, k⟩⟩⟩ _)⟩ k <| trivial) k) <| sQ <| sQ <| rg <| aa k k <| an ?_
 refine tn <| ac_block ?_
 obtain ⟨y5, hy5, h⟩ := ob h
 refine ac_Lp (body := (m_laws_toMatrixS_L1 a0)) hy5 (fun (x1 : ((List Mt) × Int)) => mkS [(0, .list 3 (List.map eM a0)), (3, .own 0 0 x1.1.length), (4, .int x1.2)] [(0, ⟨3, List.map (ow eM) x1.1⟩)] 1 [1, 2, 3]) (fun r e t => e = .exit 0 ∧ Ent t (mkS [(3, .own 0 0 r.length)] [(0, ⟨3, List.map (ow eM) r⟩)] 1 [1, 2, 3])) (ent_mk (σ := sg [(0, 0)]) ⟨⟨_, k, ⟨k, k⟩⟩, (oE k k), (e1 k k), trivial⟩ (hB (okMt.plainO _) k k k <| trivial) k) ?_ ?_
 ·intro x1 o h
  refine sQ <| sQ <| rg <| am k k <| am k k <| ae (lenL TT_ok k k k) k <| ae (w_cmp k k k) k <| an <| tn ?_
  rcases cb h with ⟨q1, h⟩ | ⟨q1, h⟩
  ·refine ac_condT k q1 <| ac_skip <| tn <| sQ <| ac_block <| rg <| am k k <| am k k <| am k k <| am k k ?_
   obtain ⟨v2, hv2, h⟩ := ob h
   refine ae (x_at_list TT_ok hv2 k k k k k k) k <| ae (w_load_ref TT_ok k k k k k k) k ?_
   obtain ⟨v3, hv3, h⟩ := ob h
   refine ae (AEff.conv (w_call0 (x := .agg [.int v3.rows, .int v3.cols, .own 1 0 (List.map eI v3.cells).length]) (nb := [(1, ⟨1, absEs (List.map eI v3.cells)⟩)]) (c_laws_toMatrix v2 v3 hv3) k (by rfl) k k (g1_cons trivial (g1_cons trivial (g1_cons (okI.good _) g1_nil))) (va_cons (va_agg' (v1_cons (v1_same k) (v1_cons (v1_same k) (v1_cons (v1_same k) v1_nil)))) va_nil)) (v' := .agg [.int v3.rows, .int v3.cols, .own 1 0 v3.cells.length]) (ed' := [(1, some ⟨1, List.map (ow eI) v3.cells⟩)]) (by simp only [len_map]) (ed_ok (nb' := [(1, ⟨1, List.map (ow eI) v3.cells⟩)]) (by simp only [abs_map]))) k ?_
   obtain ⟨v4, hv4, h⟩ := ob h
   refine ae (x_at_own TT_ok (atL_nn hv4) (atL_lt hv4) k k k k k k k) k <| ae (w_store TT_ok k k k k k k (map_at (atL_get hv4)) k) k <| an <| block_n <| tn <| ac_ent (t := mkS [(0, .list 3 (List.map eM a0)), (3, .own 0 0 x1.1.length), (4, .int x1.2)] [(0, ⟨3, (List.map (ow eM) x1.1).set x1.2.toNat [.int v3.rows, .int v3.cols, .own 1 0 v3.cells.length]⟩), (1, ⟨1, List.map (ow eI) v3.cells⟩)] 2 [2, 3]) (ent_mk (σ := sg [(0, 0), (1, 1)]) ⟨⟨_, k, ⟨k, k⟩⟩, (oE k k), (e1 k k), trivial⟩ (hX ⟨_, k, k, .inr (ent_set (σ := sg [(0, 0), (1, 1)]) (m := 2) (e := eM) (l := x1.1) (i := x1.2.toNat) (c := [.int v3.rows, .int v3.cols, .own 1 0 v3.cells.length]) (d := [.int v3.rows, .int v3.cols, .own 1 0 v3.cells.length]) okMt ⟨_, _, k, k, ⟨_, _, k, k, ⟨_, _, k, ⟨k, k, k, k⟩, k⟩⟩⟩)⟩ k <| hI k k k <| trivial) k) <| rg <| am k k <| ae (x_add k k) k <| aa k k ?_
   refine an <| tn ?_
   obtain rfl := so h
   exact ⟨_, k, (Ent.trans (show Ent _ (mkS [(0, .list 3 (List.map eM a0)), (3, .own 0 0 ((x1.1.set x1.2.toNat v3).length)), (4, .int (wr (x1.2 + 1)))] [(0, ⟨3, List.map (ow eM) (x1.1.set x1.2.toNat v3)⟩)] 2 [2, 3]) from (Ent.trans (ent_absS (b := 0) (b' := 1) (j := 2) (es' := List.map eI v3.cells) (by rw [List.length_map]; exact atL_lt hv4) k k k k (len_map _ _) (okI.frzs _)) (ent_mk (σ := sg [(0, 0)]) ⟨⟨_, k, ⟨k, k⟩⟩, ⟨_, k, ⟨k, k, (by simp only [len_map, lA, lT, lR, lC, lN]), k⟩⟩, (e1 k k), trivial⟩ (hX ⟨_, k, k, .inl ⟨set_eq v3 k, okMt.plainO _⟩⟩ k <| trivial) k))) (ent_mk (σ := sg [(0, 0)]) ⟨⟨_, k, ⟨k, k⟩⟩, (oE k k), (e1 k k), trivial⟩ (hB (okMt.plainO _) k k k <| trivial) k))⟩
  ·refine ac_condF k q1 <| ac_exit <| then_exit <| then_exit ?_
   obtain rfl := so h
   exact ⟨_, k, k, (ent_mk (σ := sg [(0, 0)]) ⟨(oE k k), trivial⟩ (hB (okMt.plainO _) k k k <| trivial) k)⟩
 ·rintro e t ⟨rfl, hent⟩
  refine block_here <| tn <| ac_ent hent <| sQ <| rg <| am k k <| aa k k <| an <| tn <| ac_ret ?_
  obtain rfl := so h
  exact ret_mk k k k (xz_list (x_f1 okMt k k))

noncomputable def m_laws_toRep (a0 : Rp) : Option Rp :=
  Option.bind (m_laws_toQuiver a0.q) fun v1 =>
  Option.bind (m_laws_toIntS a0.dims) fun v2 =>
  Option.bind (m_laws_toMatrixS a0.maps) fun v3 =>
  some ((⟨a0.p, v1, v2, v3⟩ : Rp))

theorem c_laws_toRep (a0 : Rp) (r : Rp) (h : m_laws_toRep a0 = some r) : HasC Try.prog 8 [.agg (eR a0)] (.agg (eR r)) := by
 refine hasC_mk TT_ok (rvs := [.cell 2 32]) (ns := [0, 1, 2, 3, 4, 5, 6, 7, 8]) Try.func8 k k Try.ntmps8 k k k <| sQ <| rg <| ae (w_box k k k k) k <| ae (w_alloc TT_ok k k) k <| an <| tn <| sQ <| rg <| ae (w_alloc TT_ok k k) k ?_
 refine an <| tn <| sQ <| rg <| ae (w_field_ptr TT_ok k k k k k k k) k <| ae (w_load_ptr TT_ok k k k k k k k) k <| ae (w_field_ptr TT_ok k k k k k k k) k <| ae (w_store TT_ok k k k k k k k k) k <| an <| tn ?_
 refine sQ <| rg <| ae (w_field_ptr TT_ok k k k k k k k) k <| ae (w_load_ptr TT_ok k k k k k k k) k ?_
 obtain ⟨v1, hv1, h⟩ := ob h
 refine ae (AEff.conv (w_call0 (x := .agg [.int v1.n, .own 3 0 (List.map eI v1.src).length, .own 4 0 (List.map eI v1.tgt).length]) (nb := [(3, ⟨1, absEs (List.map eI v1.src)⟩), (4, ⟨1, absEs (List.map eI v1.tgt)⟩)]) (c_laws_toQuiver a0.q v1 hv1) k (by rfl) k k (g1_cons trivial (g1_cons (okI.good _) (g1_cons (okI.good _) g1_nil))) (va_cons (va_agg' (v1_cons (v1_same k) (v1_cons (v1_same k) (v1_cons (v1_same k) v1_nil)))) va_nil)) (v' := .agg [.int v1.n, .own 3 0 v1.src.length, .own 4 0 v1.tgt.length]) (ed' := [(3, some ⟨1, List.map (ow eI) v1.src⟩), (4, some ⟨1, List.map (ow eI) v1.tgt⟩)]) (by simp only [len_map]) (ed_ok (nb' := [(3, ⟨1, List.map (ow eI) v1.src⟩), (4, ⟨1, List.map (ow eI) v1.tgt⟩)]) (by simp only [abs_map]))) k <| ae (w_field_ptr TT_ok k k k k k k k) k <| ae (w_store TT_ok k k k k k k k k) k <| an <| tn <| ac_ent (t := mkS [(1, .ptr 0 0 0), (2, .ptr 1 0 0), (3, .ptr 2 0 0)] [(0, ⟨6, [[.int a0.p, .int a0.q.n, .list 1 (List.map eI a0.q.src), .list 1 (List.map eI a0.q.tgt), .list 1 (List.map eI a0.dims), .list 3 (List.map eM a0.maps)]]⟩), (1, ⟨6, [[.int 0, .int 0, .nil 1, .nil 1, .nil 1, .nil 3]]⟩), (2, ⟨6, [[.int a0.p, .int v1.n, .own 3 0 v1.src.length, .own 4 0 v1.tgt.length, .nil 1, .nil 3]]⟩), (3, ⟨1, List.map (ow eI) v1.src⟩), (4, ⟨1, List.map (ow eI) v1.tgt⟩)] 5 [5, 6, 7, 8]) (ent_mk (σ := sg [(0, 0), (1, 1), (2, 2), (3, 3), (4, 4)]) ⟨(pE k k), (pE k k), (pE k k), trivial⟩ (hP k k k k <| hP k k k k <| hX ⟨_, k, k, .inr ⟨_, _, k, ⟨_, _, k, k, ⟨_, _, k, k, ⟨_, _, k, ⟨k, k, k, k⟩, ⟨_, _, k, ⟨k, k, k, k⟩, ⟨_, _, k, trivial, ⟨_, _, k, trivial, k⟩⟩⟩⟩⟩⟩, k⟩⟩ k <| hI k k k <| hI k k k <| trivial) k) ?_
 refine sQ <| rg <| ae (w_field_ptr TT_ok k k k k k k k) k <| ae (w_load_ptr TT_ok k k k k k k k) k ?_
 obtain ⟨v2, hv2, h⟩ := ob h
 refine ae (AEff.conv (w_call0 (x := .own 5 0 (List.map eI v2).length) (nb := [(5, ⟨1, absEs (List.map eI v2)⟩)]) (c_laws_toIntS a0.dims v2 hv2) k (by rfl) k k (okI.good _) (va_cons (va_same k) va_nil)) (v' := .own 5 0 v2.length) (ed' := [(5, some ⟨1, List.map (ow eI) v2⟩)]) (by simp only [len_map]) (ed_ok (nb' := [(5, ⟨1, List.map (ow eI) v2⟩)]) (by simp only [abs_map]))) k <| ae (w_field_ptr TT_ok k k k k k k k) k <| ae (w_store TT_ok k k k k k k k k) k <| an <| tn <| sQ <| rg <| ae (w_field_ptr TT_ok k k k k k k k) k <| ae (w_load_ptr TT_ok k k k k k k k) k ?_
 obtain ⟨v3, hv3, h⟩ := ob h
 refine ae (AEff.conv (w_call0 (x := .own 6 0 (List.map eM v3).length) (nb := [(6, ⟨3, absEs (List.map eM v3)⟩)]) (c_laws_toMatrixS a0.maps v3 hv3) k (by rfl) k k (okMt.good _) (va_cons (va_same k) va_nil)) (v' := .own 6 0 v3.length) (ed' := [(6, some ⟨3, List.map (ow eM) v3⟩)]) (by simp only [len_map]) (ed_ok (nb' := [(6, ⟨3, List.map (ow eM) v3⟩)]) (by simp only [abs_map]))) k <| ae (w_field_ptr TT_ok k k k k k k k) k <| ae (w_store TT_ok k k k k k k k k) k <| an <| tn <| sQ <| rg <| ae (w_load_ptr TT_ok k k k k k k k) k <| ae (w_store TT_ok k k k k k k k k) k <| an ?_
 refine tn <| ac_ent (t := mkS [(2, .ptr 1 0 0)] [(1, ⟨6, [[.int a0.p, .int v1.n, .own 3 0 v1.src.length, .own 4 0 v1.tgt.length, .own 5 0 v2.length, .own 6 0 v3.length]]⟩), (3, ⟨1, List.map (ow eI) v1.src⟩), (4, ⟨1, List.map (ow eI) v1.tgt⟩), (5, ⟨1, List.map (ow eI) v2⟩), (6, ⟨3, List.map (ow eM) v3⟩)] 7 [7, 8]) (ent_mk (σ := sg [(1, 1), (3, 3), (4, 4), (5, 5), (6, 6)]) ⟨(pE k k), trivial⟩ (hX ⟨_, k, k, .inr ⟨_, _, k, ⟨_, _, k, k, ⟨_, _, k, k, ⟨_, _, k, ⟨k, k, k, k⟩, ⟨_, _, k, ⟨k, k, k, k⟩, ⟨_, _, k, ⟨k, k, k, k⟩, ⟨_, _, k, ⟨k, k, k, k⟩, k⟩⟩⟩⟩⟩⟩, k⟩⟩ k <| hI k k k <| hI k k k <| hI k k k <| hB (okMt.plainO _) k k k <| trivial) k) <| ac_ret ?_
 obtain rfl := so h
 exact ret_mk k k k (xz_agg (x1_cons (k) (x1_cons (k) (x1_cons (x_f1 okI k k) (x1_cons (x_f1 okI k k) (x1_cons (x_f1 okI k k) (x1_cons (x_f1 okMt k k) x1_nil)))))))

noncomputable def m_laws_eqIntS_L1 (a0 : (List Int)) (a1 : (List Int)) (x1 : Int) : Option (Int ⊕ (Unit ⊕ Bool)) :=
  bif decide (x1 < (a0.length : Int)) then
    (Option.bind (atL a0 x1) fun v3 =>
    Option.bind (atL a1 x1) fun v4 =>
    bif !decide (v3 = v4) then
      (some (.inr (.inr (false))))
    else
      (some (.inl (wr (x1 + 1)))))
  else
    (some (.inr (.inl ())))

noncomputable def m_laws_eqIntS (a0 : (List Int)) (a1 : (List Int)) : Option Bool :=
  bif !decide ((a0.length : Int) = (a1.length : Int)) then
    (some (false))
  else
    (Option.bind (Lp (m_laws_eqIntS_L1 a0 a1) 0) fun y6 =>
    Sum.elim (fun y7 =>
      some (true)
    ) 
    (fun y8 =>
      some y8
    )
     y6)

theorem c_laws_eqIntS (a0 : (List Int)) (a1 : (List Int)) (r : Bool) (h : m_laws_eqIntS a0 a1 = some r) : HasC Try.prog 20 [.list 1 (List.map eI a0), .list 1 (List.map eI a1)] (.bl r) := by
 refine hasC_mk TT_ok (rvs := [.tmp 4]) (ns := [0, 1]) Try.func20 k k Try.ntmps20 k k k <| sQ <| rg <| aa k k <| an <| tn <| sQ <| sQ <| rg <| am k k ?_
 refine ae (lenL TT_ok k k k) k <| am k k <| ae (lenL TT_ok k k k) k <| ae (w_cmp k k k) k <| an <| tn ?_
 rcases cb h with ⟨q1, h⟩ | ⟨q1, h⟩
 ·refine ac_condT k q1 <| sQ <| rg <| aa k k <| an <| tn <| ac_ret <| then_ret ?_
  obtain rfl := so h
  exact ret_mk k k k (fz_bl k)
 ·refine ac_condF k q1 <| ac_skip <| tn <| sQ <| sQ <| rg <| aa k k <| an <| tn <| ac_block ?_
  obtain ⟨y6, hy6, h⟩ := ob h
  refine ac_Lp (body := (m_laws_eqIntS_L1 a0 a1)) hy6 (fun (x1 : Int) => mkS [(0, .list 1 (List.map eI a0)), (1, .list 1 (List.map eI a1)), (5, .int x1)] [] 0 [0, 1]) (fun r e t => Sum.elim (fun a => (fun r e t => e = .exit 0 ∧ Ent t (mkS [] [] 0 [0, 1])) a e t) (fun b => (fun r e t => e = .ret ∧ RetQ TT [.tmp 4] (.bl r) .ret t) b e t) r) (ent_mk (σ := sg []) ⟨⟨_, k, ⟨k, k⟩⟩, ⟨_, k, ⟨k, k⟩⟩, (e1 k k), trivial⟩ trivial k) ?_ ?_
  ·intro x1 o h
   refine sQ <| sQ <| rg <| am k k <| am k k <| ae (lenL TT_ok k k k) k <| ae (w_cmp k k k) k <| an <| tn ?_
   rcases cb h with ⟨q2, h⟩ | ⟨q2, h⟩
   ·refine ac_condT k q2 <| ac_skip <| tn <| sQ <| ac_block <| sQ <| ac_region_draw MIXX <| am k k <| am k k ?_
    obtain ⟨v3, hv3, h⟩ := ob h
    refine ae (x_at_list TT_ok hv3 k k k k k k) k <| ae (w_load_ref TT_ok k k k k k k) k <| am k k <| am k k ?_
    obtain ⟨v4, hv4, h⟩ := ob h
    refine ae (x_at_list TT_ok hv4 k k k k k k) k <| ae (w_load_ref TT_ok k k k k k k) k <| ae (w_cmp k k k) k <| an ?_
    refine ⟨by kernel_rfl, ?_⟩
    refine tn <| ac_ent (t := mkS [(0, .list 1 (List.map eI a0)), (1, .list 1 (List.map eI a1)), (5, .int x1), (25, .bl (!decide (v3 = v4)))] [] 0 [0, 1]) (ent_mk (σ := sg []) ⟨⟨_, k, ⟨k, k⟩⟩, ⟨_, k, ⟨k, k⟩⟩, (e1 k k), (e1 k k), trivial⟩ trivial k) ?_
    rcases cb h with ⟨q5, h⟩ | ⟨q5, h⟩
    ·refine ac_condT k q5 <| sQ <| rg <| aa k k <| an <| tn <| ac_ret <| block_ret <| then_ret <| then_ret ?_
     obtain rfl := so h
     exact ⟨_, k, k, ret_mk k k k (fz_bl k)⟩
    ·refine ac_condF k q5 <| ac_skip <| block_n <| tn <| rg <| am k k <| ae (x_add k k) k <| aa k k <| an <| tn ?_
     obtain rfl := so h
     exact ⟨_, k, (ent_mk (σ := sg []) ⟨⟨_, k, ⟨k, k⟩⟩, ⟨_, k, ⟨k, k⟩⟩, (e1 k k), trivial⟩ trivial k)⟩
   ·refine ac_condF k q2 <| ac_exit <| then_exit <| then_exit ?_
    obtain rfl := so h
    exact ⟨_, k, k, (ent_mk (σ := sg []) trivial trivial k)⟩
  ·intro e t hX
   rcases y6 with y7 | y8
   ·obtain ⟨rfl, hent⟩ := hX
    refine block_here <| tn <| ac_ent hent <| sQ <| rg <| aa k k <| an <| tn <| ac_ret ?_
    obtain rfl := so h
    exact ret_mk k k k (fz_bl k)
   ·obtain ⟨rfl, hent⟩ := hX
    refine block_ret <| then_ret ?_
    obtain rfl := so h
    exact hent

noncomputable def m_laws_eqQuiver (a0 : Qv) (a1 : Qv) : Option Bool :=
  bif !decide (a0.n = a1.n) then
    (some (false))
  else
    (Option.bind (m_laws_eqIntS a0.src a1.src) fun v2 =>
    bif !v2 then
      (some (false))
    else
      (Option.bind (m_laws_eqIntS a0.tgt a1.tgt) fun v4 =>
      bif !v4 then
        (some (false))
      else
        (some (true))))

theorem c_laws_eqQuiver (a0 : Qv) (a1 : Qv) (r : Bool) (h : m_laws_eqQuiver a0 a1 = some r) : HasC Try.prog 21 [.agg (eQ a0), .agg (eQ a1)] (.bl r) := by
 refine hasC_mk TT_ok (rvs := [.tmp 4]) (ns := [0, 1, 2, 3]) Try.func21 k k Try.ntmps21 k k k <| sQ <| rg <| ae (w_box k k k k) k <| ae (w_box k k k k) k <| aa k k <| an <| tn <| sQ <| sQ ?_
 refine rg <| ae (w_field_ptr TT_ok k k k k k k k) k <| ae (w_load_ptr TT_ok k k k k k k k) k <| ae (w_field_ptr TT_ok k k k k k k k) k <| ae (w_load_ptr TT_ok k k k k k k k) k <| ae (w_cmp k k k) k <| an <| tn ?_
 rcases cb h with ⟨q1, h⟩ | ⟨q1, h⟩
 ·refine ac_condT k q1 <| sQ <| rg <| aa k k <| an <| tn <| ac_ret <| then_ret ?_
  obtain rfl := so h
  exact ret_mk k k k (fz_bl k)
 ·refine ac_condF k q1 <| ac_skip <| tn <| sQ <| sQ <| rg <| ae (w_field_ptr TT_ok k k k k k k k) k <| ae (w_load_ptr TT_ok k k k k k k k) k <| ae (w_field_ptr TT_ok k k k k k k k) k <| ae (w_load_ptr TT_ok k k k k k k k) k ?_
  obtain ⟨v2, hv2, h⟩ := ob h
  refine ae (w_call0s (c_laws_eqIntS a0.src a1.src v2 hv2) k (va_cons (va_same k) (va_cons (va_same k) va_nil))) k <| ae (w_not k) k <| an <| tn <| ac_ent (t := mkS [(2, .ptr 0 0 0), (3, .ptr 1 0 0), (15, .bl (!v2))] [(0, ⟨3, [[.int a0.n, .list 1 (List.map eI a0.src), .list 1 (List.map eI a0.tgt)]]⟩), (1, ⟨3, [[.int a1.n, .list 1 (List.map eI a1.src), .list 1 (List.map eI a1.tgt)]]⟩)] 2 [2, 3]) (ent_mk (σ := sg [(0, 0), (1, 1)]) ⟨(pE k k), (pE k k), (e1 k k), trivial⟩ (hP k k k k <| hP k k k k <| trivial) k) ?_
  rcases cb h with ⟨q3, h⟩ | ⟨q3, h⟩
  ·refine ac_condT k q3 <| sQ <| rg <| aa k k <| an <| tn <| ac_ret <| then_ret ?_
   obtain rfl := so h
   exact ret_mk k k k (fz_bl k)
  ·refine ac_condF k q3 <| ac_skip <| tn <| sQ <| sQ <| rg <| ae (w_field_ptr TT_ok k k k k k k k) k <| ae (w_load_ptr TT_ok k k k k k k k) k <| ae (w_field_ptr TT_ok k k k k k k k) k <| ae (w_load_ptr TT_ok k k k k k k k) k ?_
   obtain ⟨v4, hv4, h⟩ := ob h
   refine ae (w_call0s (c_laws_eqIntS a0.tgt a1.tgt v4 hv4) k (va_cons (va_same k) (va_cons (va_same k) va_nil))) k <| ae (w_not k) k <| an <| tn ?_
   rcases cb h with ⟨q5, h⟩ | ⟨q5, h⟩
   ·refine ac_condT k q5 <| sQ <| rg <| aa k k <| an <| tn <| ac_ret <| then_ret ?_
    obtain rfl := so h
    exact ret_mk k k k (fz_bl k)
   ·refine ac_condF k q5 <| ac_skip <| tn <| sQ <| rg <| aa k k <| an <| tn <| ac_ret ?_
    obtain rfl := so h
    exact ret_mk k k k (fz_bl k)

noncomputable def m_laws_eqMatrix (a0 : Mt) (a1 : Mt) : Option Bool :=
  bif !decide (a0.rows = a1.rows) then
    (some (false))
  else
    (bif !decide (a0.cols = a1.cols) then
      (some (false))
    else
      (Option.bind (m_laws_eqIntS a0.cells a1.cells) fun v3 =>
      bif !v3 then
        (some (false))
      else
        (some (true))))

theorem c_laws_eqMatrix (a0 : Mt) (a1 : Mt) (r : Bool) (h : m_laws_eqMatrix a0 a1 = some r) : HasC Try.prog 68 [.agg (eM a0), .agg (eM a1)] (.bl r) := by
 refine hasC_mk TT_ok (rvs := [.tmp 4]) (ns := [0, 1, 2, 3]) Try.func68 k k Try.ntmps68 k k k <| sQ <| rg <| ae (w_box k k k k) k <| ae (w_box k k k k) k <| aa k k <| an <| tn <| sQ <| sQ ?_
 refine rg <| ae (w_field_ptr TT_ok k k k k k k k) k <| ae (w_load_ptr TT_ok k k k k k k k) k <| ae (w_field_ptr TT_ok k k k k k k k) k <| ae (w_load_ptr TT_ok k k k k k k k) k <| ae (w_cmp k k k) k <| an <| tn ?_
 rcases cb h with ⟨q1, h⟩ | ⟨q1, h⟩
 ·refine ac_condT k q1 <| sQ <| rg <| aa k k <| an <| tn <| ac_ret <| then_ret ?_
  obtain rfl := so h
  exact ret_mk k k k (fz_bl k)
 ·refine ac_condF k q1 <| ac_skip <| tn <| sQ <| sQ <| rg <| ae (w_field_ptr TT_ok k k k k k k k) k <| ae (w_load_ptr TT_ok k k k k k k k) k <| ae (w_field_ptr TT_ok k k k k k k k) k <| ae (w_load_ptr TT_ok k k k k k k k) k ?_
  refine ae (w_cmp k k k) k <| an <| tn <| ac_ent (t := mkS [(2, .ptr 0 0 0), (3, .ptr 1 0 0), (14, .bl (!decide (a0.cols = a1.cols)))] [(0, ⟨3, [[.int a0.rows, .int a0.cols, .list 1 (List.map eI a0.cells)]]⟩), (1, ⟨3, [[.int a1.rows, .int a1.cols, .list 1 (List.map eI a1.cells)]]⟩)] 2 [2, 3]) (ent_mk (σ := sg [(0, 0), (1, 1)]) ⟨(pE k k), (pE k k), (e1 k k), trivial⟩ (hP k k k k <| hP k k k k <| trivial) k) ?_
  rcases cb h with ⟨q2, h⟩ | ⟨q2, h⟩
  ·refine ac_condT k q2 <| sQ <| rg <| aa k k <| an <| tn <| ac_ret <| then_ret ?_
   obtain rfl := so h
   exact ret_mk k k k (fz_bl k)
  ·refine ac_condF k q2 <| ac_skip <| tn <| sQ <| sQ <| rg <| ae (w_field_ptr TT_ok k k k k k k k) k <| ae (w_load_ptr TT_ok k k k k k k k) k <| ae (w_field_ptr TT_ok k k k k k k k) k <| ae (w_load_ptr TT_ok k k k k k k k) k ?_
   obtain ⟨v3, hv3, h⟩ := ob h
   refine ae (w_call0s (c_laws_eqIntS a0.cells a1.cells v3 hv3) k (va_cons (va_same k) (va_cons (va_same k) va_nil))) k <| ae (w_not k) k <| an <| tn ?_
   rcases cb h with ⟨q4, h⟩ | ⟨q4, h⟩
   ·refine ac_condT k q4 <| sQ <| rg <| aa k k <| an <| tn <| ac_ret <| then_ret ?_
    obtain rfl := so h
    exact ret_mk k k k (fz_bl k)
   ·refine ac_condF k q4 <| ac_skip <| tn <| sQ <| rg <| aa k k <| an <| tn <| ac_ret ?_
    obtain rfl := so h
    exact ret_mk k k k (fz_bl k)

noncomputable def m_laws_eqMatrixS_L1 (a0 : (List Mt)) (a1 : (List Mt)) (x1 : Int) : Option (Int ⊕ (Unit ⊕ Bool)) :=
  bif decide (x1 < (a0.length : Int)) then
    (Option.bind (atL a0 x1) fun v3 =>
    Option.bind (atL a1 x1) fun v4 =>
    Option.bind (m_laws_eqMatrix v3 v4) fun v5 =>
    bif !v5 then
      (some (.inr (.inr (false))))
    else
      (some (.inl (wr (x1 + 1)))))
  else
    (some (.inr (.inl ())))

noncomputable def m_laws_eqMatrixS (a0 : (List Mt)) (a1 : (List Mt)) : Option Bool :=
  bif !decide ((a0.length : Int) = (a1.length : Int)) then
    (some (false))
  else
    (Option.bind (Lp (m_laws_eqMatrixS_L1 a0 a1) 0) fun y7 =>
    Sum.elim (fun y8 =>
      some (true)
    ) 
    (fun y9 =>
      some y9
    )
     y7)

theorem c_laws_eqMatrixS (a0 : (List Mt)) (a1 : (List Mt)) (r : Bool) (h : m_laws_eqMatrixS a0 a1 = some r) : HasC Try.prog 35 [.list 3 (List.map eM a0), .list 3 (List.map eM a1)] (.bl r) := by
 refine hasC_mk TT_ok (rvs := [.tmp 4]) (ns := [0, 1]) Try.func35 k k Try.ntmps35 k k k <| sQ <| rg <| aa k k <| an <| tn <| sQ <| sQ <| rg <| am k k ?_
 refine ae (lenL TT_ok k k k) k <| am k k <| ae (lenL TT_ok k k k) k <| ae (w_cmp k k k) k <| an <| tn ?_
 rcases cb h with ⟨q1, h⟩ | ⟨q1, h⟩
 ·refine ac_condT k q1 <| sQ <| rg <| aa k k <| an <| tn <| ac_ret <| then_ret ?_
  obtain rfl := so h
  exact ret_mk k k k (fz_bl k)
 ·refine ac_condF k q1 <| ac_skip <| tn <| sQ <| sQ <| rg <| aa k k <| an <| tn <| ac_block ?_
  obtain ⟨y7, hy7, h⟩ := ob h
  refine ac_Lp (body := (m_laws_eqMatrixS_L1 a0 a1)) hy7 (fun (x1 : Int) => mkS [(0, .list 3 (List.map eM a0)), (1, .list 3 (List.map eM a1)), (5, .int x1)] [] 0 [0, 1]) (fun r e t => Sum.elim (fun a => (fun r e t => e = .exit 0 ∧ Ent t (mkS [] [] 0 [0, 1])) a e t) (fun b => (fun r e t => e = .ret ∧ RetQ TT [.tmp 4] (.bl r) .ret t) b e t) r) (ent_mk (σ := sg []) ⟨⟨_, k, ⟨k, k⟩⟩, ⟨_, k, ⟨k, k⟩⟩, (e1 k k), trivial⟩ trivial k) ?_ ?_
  ·intro x1 o h
   refine sQ <| sQ <| rg <| am k k <| am k k <| ae (lenL TT_ok k k k) k <| ae (w_cmp k k k) k <| an <| tn ?_
   rcases cb h with ⟨q2, h⟩ | ⟨q2, h⟩
   ·refine ac_condT k q2 <| ac_skip <| tn <| sQ <| ac_block <| sQ <| ac_region_draw MIXX <| am k k <| am k k ?_
    obtain ⟨v3, hv3, h⟩ := ob h
    refine ae (x_at_list TT_ok hv3 k k k k k k) k <| ae (w_load_ref TT_ok k k k k k k) k <| am k k <| am k k ?_
    obtain ⟨v4, hv4, h⟩ := ob h
    refine ae (x_at_list TT_ok hv4 k k k k k k) k <| ae (w_load_ref TT_ok k k k k k k) k ?_
    obtain ⟨v5, hv5, h⟩ := ob h
    refine ae (w_call0s (c_laws_eqMatrix v3 v4 v5 hv5) k (va_cons (va_agg' (v1_cons (v1_same k) (v1_cons (v1_same k) (v1_cons (v1_same k) v1_nil)))) (va_cons (va_agg' (v1_cons (v1_same k) (v1_cons (v1_same k) (v1_cons (v1_same k) v1_nil)))) va_nil))) k <| ae (w_not k) k <| an ?_
    refine ⟨by kernel_rfl, ?_⟩
    refine tn <| ac_ent (t := mkS [(0, .list 3 (List.map eM a0)), (1, .list 3 (List.map eM a1)), (5, .int x1), (26, .bl (!v5))] [] 0 [0, 1]) (ent_mk (σ := sg []) ⟨⟨_, k, ⟨k, k⟩⟩, ⟨_, k, ⟨k, k⟩⟩, (e1 k k), (e1 k k), trivial⟩ trivial k) ?_
    rcases cb h with ⟨q6, h⟩ | ⟨q6, h⟩
    ·refine ac_condT k q6 <| sQ <| rg <| aa k k <| an <| tn <| ac_ret <| block_ret <| then_ret <| then_ret ?_
     obtain rfl := so h
     exact ⟨_, k, k, ret_mk k k k (fz_bl k)⟩
    ·refine ac_condF k q6 <| ac_skip <| block_n <| tn <| rg <| am k k <| ae (x_add k k) k <| aa k k <| an <| tn ?_
     obtain rfl := so h
     exact ⟨_, k, (ent_mk (σ := sg []) ⟨⟨_, k, ⟨k, k⟩⟩, ⟨_, k, ⟨k, k⟩⟩, (e1 k k), trivial⟩ trivial k)⟩
   ·refine ac_condF k q2 <| ac_exit <| then_exit <| then_exit ?_
    obtain rfl := so h
    exact ⟨_, k, k, (ent_mk (σ := sg []) trivial trivial k)⟩
  ·intro e t hX
   rcases y7 with y8 | y9
   ·obtain ⟨rfl, hent⟩ := hX
    refine block_here <| tn <| ac_ent hent <| sQ <| rg <| aa k k <| an <| tn <| ac_ret ?_
    obtain rfl := so h
    exact ret_mk k k k (fz_bl k)
   ·obtain ⟨rfl, hent⟩ := hX
    refine block_ret <| then_ret ?_
    obtain rfl := so h
    exact hent

noncomputable def m_laws_eqRep (a0 : Rp) (a1 : Rp) : Option Bool :=
  bif !decide (a0.p = a1.p) then
    (some (false))
  else
    (Option.bind (m_laws_eqQuiver a0.q a1.q) fun v2 =>
    bif !v2 then
      (some (false))
    else
      (Option.bind (m_laws_eqIntS a0.dims a1.dims) fun v4 =>
      bif !v4 then
        (some (false))
      else
        (Option.bind (m_laws_eqMatrixS a0.maps a1.maps) fun v6 =>
        bif !v6 then
          (some (false))
        else
          (some (true)))))

theorem c_laws_eqRep (a0 : Rp) (a1 : Rp) (r : Bool) (h : m_laws_eqRep a0 a1 = some r) : HasC Try.prog 11 [.agg (eR a0), .agg (eR a1)] (.bl r) := by
 refine hasC_mk TT_ok (rvs := [.tmp 4]) (ns := [0, 1, 2, 3]) Try.func11 k k Try.ntmps11 k k k <| sQ <| rg <| ae (w_box k k k k) k <| ae (w_box k k k k) k <| aa k k <| an <| tn <| sQ <| sQ ?_
 refine rg <| ae (w_field_ptr TT_ok k k k k k k k) k <| ae (w_load_ptr TT_ok k k k k k k k) k <| ae (w_field_ptr TT_ok k k k k k k k) k <| ae (w_load_ptr TT_ok k k k k k k k) k <| ae (w_cmp k k k) k <| an <| tn ?_
 rcases cb h with ⟨q1, h⟩ | ⟨q1, h⟩
 ·refine ac_condT k q1 <| sQ <| rg <| aa k k <| an <| tn <| ac_ret <| then_ret ?_
  obtain rfl := so h
  exact ret_mk k k k (fz_bl k)
 ·refine ac_condF k q1 <| ac_skip <| tn <| sQ <| sQ <| rg <| ae (w_field_ptr TT_ok k k k k k k k) k <| ae (w_load_ptr TT_ok k k k k k k k) k <| ae (w_field_ptr TT_ok k k k k k k k) k <| ae (w_load_ptr TT_ok k k k k k k k) k ?_
  obtain ⟨v2, hv2, h⟩ := ob h
  refine ae (w_call0s (c_laws_eqQuiver a0.q a1.q v2 hv2) k (va_cons (va_agg' (v1_cons (v1_same k) (v1_cons (v1_same k) (v1_cons (v1_same k) v1_nil)))) (va_cons (va_agg' (v1_cons (v1_same k) (v1_cons (v1_same k) (v1_cons (v1_same k) v1_nil)))) va_nil))) k <| ae (w_not k) k <| an <| tn <| ac_ent (t := mkS [(2, .ptr 0 0 0), (3, .ptr 1 0 0), (15, .bl (!v2))] [(0, ⟨6, [[.int a0.p, .int a0.q.n, .list 1 (List.map eI a0.q.src), .list 1 (List.map eI a0.q.tgt), .list 1 (List.map eI a0.dims), .list 3 (List.map eM a0.maps)]]⟩), (1, ⟨6, [[.int a1.p, .int a1.q.n, .list 1 (List.map eI a1.q.src), .list 1 (List.map eI a1.q.tgt), .list 1 (List.map eI a1.dims), .list 3 (List.map eM a1.maps)]]⟩)] 2 [2, 3]) (ent_mk (σ := sg [(0, 0), (1, 1)]) ⟨(pE k k), (pE k k), (e1 k k), trivial⟩ (hP k k k k <| hP k k k k <| trivial) k) ?_
  rcases cb h with ⟨q3, h⟩ | ⟨q3, h⟩
  ·refine ac_condT k q3 <| sQ <| rg <| aa k k <| an <| tn <| ac_ret <| then_ret ?_
   obtain rfl := so h
   exact ret_mk k k k (fz_bl k)
  ·refine ac_condF k q3 <| ac_skip <| tn <| sQ <| sQ <| rg <| ae (w_field_ptr TT_ok k k k k k k k) k <| ae (w_load_ptr TT_ok k k k k k k k) k <| ae (w_field_ptr TT_ok k k k k k k k) k <| ae (w_load_ptr TT_ok k k k k k k k) k ?_
   obtain ⟨v4, hv4, h⟩ := ob h
   refine ae (w_call0s (c_laws_eqIntS a0.dims a1.dims v4 hv4) k (va_cons (va_same k) (va_cons (va_same k) va_nil))) k <| ae (w_not k) k <| an <| tn ?_
   rcases cb h with ⟨q5, h⟩ | ⟨q5, h⟩
   ·refine ac_condT k q5 <| sQ <| rg <| aa k k <| an <| tn <| ac_ret <| then_ret ?_
    obtain rfl := so h
    exact ret_mk k k k (fz_bl k)
   ·refine ac_condF k q5 <| ac_skip <| tn <| sQ <| sQ <| rg <| ae (w_field_ptr TT_ok k k k k k k k) k <| ae (w_load_ptr TT_ok k k k k k k k) k <| ae (w_field_ptr TT_ok k k k k k k k) k <| ae (w_load_ptr TT_ok k k k k k k k) k ?_
    obtain ⟨v6, hv6, h⟩ := ob h
    refine ae (w_call0s (c_laws_eqMatrixS a0.maps a1.maps v6 hv6) k (va_cons (va_same k) (va_cons (va_same k) va_nil))) k <| ae (w_not k) k <| an <| tn <| ac_ent (t := mkS [(27, .bl (!v6))] [] 2 [2, 3]) (ent_mk (σ := sg []) ⟨(e1 k k), trivial⟩ trivial k) ?_
    rcases cb h with ⟨q7, h⟩ | ⟨q7, h⟩
    ·refine ac_condT k q7 <| sQ <| rg <| aa k k <| an <| tn <| ac_ret <| then_ret ?_
     obtain rfl := so h
     exact ret_mk k k k (fz_bl k)
    ·refine ac_condF k q7 <| ac_skip <| tn <| sQ <| rg <| aa k k <| an <| tn <| ac_ret ?_
     obtain rfl := so h
     exact ret_mk k k k (fz_bl k)

noncomputable def m_laws_eqRepS_L1 (a0 : (List Rp)) (a1 : (List Rp)) (x1 : Int) : Option (Int ⊕ (Unit ⊕ Bool)) :=
  bif decide (x1 < (a0.length : Int)) then
    (Option.bind (atL a0 x1) fun v3 =>
    Option.bind (atL a1 x1) fun v4 =>
    Option.bind (m_laws_eqRep v3 v4) fun v5 =>
    bif !v5 then
      (some (.inr (.inr (false))))
    else
      (some (.inl (wr (x1 + 1)))))
  else
    (some (.inr (.inl ())))

noncomputable def m_laws_eqRepS (a0 : (List Rp)) (a1 : (List Rp)) : Option Bool :=
  bif !decide ((a0.length : Int) = (a1.length : Int)) then
    (some (false))
  else
    (Option.bind (Lp (m_laws_eqRepS_L1 a0 a1) 0) fun y7 =>
    Sum.elim (fun y8 =>
      some (true)
    ) 
    (fun y9 =>
      some y9
    )
     y7)

theorem c_laws_eqRepS (a0 : (List Rp)) (a1 : (List Rp)) (r : Bool) (h : m_laws_eqRepS a0 a1 = some r) : HasC Try.prog 34 [.list 6 (List.map eR a0), .list 6 (List.map eR a1)] (.bl r) := by
 refine hasC_mk TT_ok (rvs := [.tmp 4]) (ns := [0, 1]) Try.func34 k k Try.ntmps34 k k k <| sQ <| rg <| aa k k <| an <| tn <| sQ <| sQ <| rg <| am k k ?_
 refine ae (lenL TT_ok k k k) k <| am k k <| ae (lenL TT_ok k k k) k <| ae (w_cmp k k k) k <| an <| tn ?_
 rcases cb h with ⟨q1, h⟩ | ⟨q1, h⟩
 ·refine ac_condT k q1 <| sQ <| rg <| aa k k <| an <| tn <| ac_ret <| then_ret ?_
  obtain rfl := so h
  exact ret_mk k k k (fz_bl k)
 ·refine ac_condF k q1 <| ac_skip <| tn <| sQ <| sQ <| rg <| aa k k <| an <| tn <| ac_block ?_
  obtain ⟨y7, hy7, h⟩ := ob h
  refine ac_Lp (body := (m_laws_eqRepS_L1 a0 a1)) hy7 (fun (x1 : Int) => mkS [(0, .list 6 (List.map eR a0)), (1, .list 6 (List.map eR a1)), (5, .int x1)] [] 0 [0, 1]) (fun r e t => Sum.elim (fun a => (fun r e t => e = .exit 0 ∧ Ent t (mkS [] [] 0 [0, 1])) a e t) (fun b => (fun r e t => e = .ret ∧ RetQ TT [.tmp 4] (.bl r) .ret t) b e t) r) (ent_mk (σ := sg []) ⟨⟨_, k, ⟨k, k⟩⟩, ⟨_, k, ⟨k, k⟩⟩, (e1 k k), trivial⟩ trivial k) ?_ ?_
  ·intro x1 o h
   refine sQ <| sQ <| rg <| am k k <| am k k <| ae (lenL TT_ok k k k) k <| ae (w_cmp k k k) k <| an <| tn ?_
   rcases cb h with ⟨q2, h⟩ | ⟨q2, h⟩
   ·refine ac_condT k q2 <| ac_skip <| tn <| sQ <| ac_block <| sQ <| ac_region_draw MIXX <| am k k <| am k k ?_
    obtain ⟨v3, hv3, h⟩ := ob h
    refine ae (x_at_list TT_ok hv3 k k k k k k) k <| ae (w_load_ref TT_ok k k k k k k) k <| am k k <| am k k ?_
    obtain ⟨v4, hv4, h⟩ := ob h
    refine ae (x_at_list TT_ok hv4 k k k k k k) k <| ae (w_load_ref TT_ok k k k k k k) k ?_
    obtain ⟨v5, hv5, h⟩ := ob h
    refine ae (w_call0s (c_laws_eqRep v3 v4 v5 hv5) k (va_cons (va_agg' (v1_cons (v1_same k) (v1_cons (v1_same k) (v1_cons (v1_same k) (v1_cons (v1_same k) (v1_cons (v1_same k) (v1_cons (v1_same k) v1_nil))))))) (va_cons (va_agg' (v1_cons (v1_same k) (v1_cons (v1_same k) (v1_cons (v1_same k) (v1_cons (v1_same k) (v1_cons (v1_same k) (v1_cons (v1_same k) v1_nil))))))) va_nil))) k <| ae (w_not k) k <| an ?_
    refine ⟨by kernel_rfl, ?_⟩
    refine tn <| ac_ent (t := mkS [(0, .list 6 (List.map eR a0)), (1, .list 6 (List.map eR a1)), (5, .int x1), (26, .bl (!v5))] [] 0 [0, 1]) (ent_mk (σ := sg []) ⟨⟨_, k, ⟨k, k⟩⟩, ⟨_, k, ⟨k, k⟩⟩, (e1 k k), (e1 k k), trivial⟩ trivial k) ?_
    rcases cb h with ⟨q6, h⟩ | ⟨q6, h⟩
    ·refine ac_condT k q6 <| sQ <| rg <| aa k k <| an <| tn <| ac_ret <| block_ret <| then_ret <| then_ret ?_
     obtain rfl := so h
     exact ⟨_, k, k, ret_mk k k k (fz_bl k)⟩
    ·refine ac_condF k q6 <| ac_skip <| block_n <| tn <| rg <| am k k <| ae (x_add k k) k <| aa k k <| an <| tn ?_
     obtain rfl := so h
     exact ⟨_, k, (ent_mk (σ := sg []) ⟨⟨_, k, ⟨k, k⟩⟩, ⟨_, k, ⟨k, k⟩⟩, (e1 k k), trivial⟩ trivial k)⟩
   ·refine ac_condF k q2 <| ac_exit <| then_exit <| then_exit ?_
    obtain rfl := so h
    exact ⟨_, k, k, (ent_mk (σ := sg []) trivial trivial k)⟩
  ·intro e t hX
   rcases y7 with y8 | y9
   ·obtain ⟨rfl, hent⟩ := hX
    refine block_here <| tn <| ac_ent hent <| sQ <| rg <| aa k k <| an <| tn <| ac_ret ?_
    obtain rfl := so h
    exact ret_mk k k k (fz_bl k)
   ·obtain ⟨rfl, hent⟩ := hX
    refine block_ret <| then_ret ?_
    obtain rfl := so h
    exact hent

end Go.Proofs.Ytdhjmmnjapkmkaa
end

section
set_option linter.unusedVariables false
set_option linter.unusedSimpArgs false

namespace Go.Proofs.Ytdhjmmnjapkmkaa
open Go.RowKit
set_option linter.unusedVariables false
def zI (n : Nat) (left : Int) : Int := if left - n < 0 then -1 else left - n
def zC : List (Int → Int) → Int → Int
 | [], left => left
 | f :: fs, left => if f left < 0 then -1 else zC fs (f left)
def zS {α : Type} (f : α → Int → Int) (l : List α) (left : Int) : Int := if left - l.length < 0 then -1 else zC (l.map f) (left - l.length)
def zQ (q : Qv) : Int → Int := zC [zI q.src.length, zI q.tgt.length]
def zM (m : Mt) : Int → Int := zC [zI m.cells.length]
def zR (r : Rp) : Int → Int := zC [zQ r.q, zI r.dims.length, zS zM r.maps]
def Falls (f : Int → Int) (b : Prop) : Prop := ∀ left, 0 ≤ left → left ≤ 1048576 → f left = -1 ∨ (0 ≤ f left ∧ f left ≤ left ∧ b)
theorem falls_I (n : Nat) : Falls (zI n) (n ≤ 1048576) := by
 intro left h0 h1
 unfold zI
 by_cases h : left - n < 0
 ·rw [if_pos h]; exact .inl rfl
 ·rw [if_neg h]; exact .inr ⟨by omega, by omega, by omega⟩
theorem falls_nil : Falls (zC []) True := fun left h0 _ => .inr ⟨h0, Int.le_refl _, trivial⟩
theorem falls_cons {f : Int → Int} {fs : List (Int → Int)} {b bs : Prop} (h : Falls f b) (k : Falls (zC fs) bs) : Falls (zC (f :: fs)) (b ∧ bs) := by
 intro left h0 h1
 unfold zC
 rcases h left h0 h1 with e | ⟨e1, e2, e3⟩
 ·rw [e, if_pos (by decide)]; exact .inl rfl
 ·rw [if_neg (by omega)]
  rcases k (f left) e1 (by omega) with g | ⟨g1, g2, g3⟩
  ·exact .inl g
  ·exact .inr ⟨g1, by omega, e3, g3⟩
theorem falls_map {α : Type} {f : α → Int → Int} {b : α → Prop} (h : ∀ x, Falls (f x) (b x)) : ∀ l : List α, Falls (zC (l.map f)) (∀ x ∈ l, b x)
 | [] => fun left h0 _ => .inr ⟨h0, Int.le_refl _, by simp⟩
 | x :: l => fun left h0 h1 => by
  rcases falls_cons (h x) (falls_map h l) left h0 h1 with e | ⟨e1, e2, e3, e4⟩
  ·exact .inl e
  ·exact .inr ⟨e1, e2, fun y hy => by rcases List.mem_cons.1 hy with rfl | h'; exact e3; exact e4 y h'⟩
theorem falls_S {α : Type} {f : α → Int → Int} {b : α → Prop} (h : ∀ x, Falls (f x) (b x)) (l : List α) : Falls (zS f l) (l.length ≤ 1048576 ∧ ∀ x ∈ l, b x) := by
 intro left h0 h1
 unfold zS
 by_cases e : left - l.length < 0
 ·rw [if_pos e]; exact .inl rfl
 ·rw [if_neg e]
  rcases falls_map h l (left - l.length) (by omega) (by omega) with g | ⟨g1, g2, g3⟩
  ·exact .inl g
  ·exact .inr ⟨g1, by omega, by omega, g3⟩
def bI (l : List Int) : Prop := l.length ≤ 1048576
def bQ (q : Qv) : Prop := bI q.src ∧ bI q.tgt ∧ True
def bM (m : Mt) : Prop := bI m.cells ∧ True
def bR (r : Rp) : Prop := bQ r.q ∧ bI r.dims ∧ (r.maps.length ≤ 1048576 ∧ ∀ m ∈ r.maps, bM m) ∧ True
theorem falls_Q (q : Qv) : Falls (zQ q) (bQ q) := falls_cons (falls_I _) (falls_cons (falls_I _) falls_nil)
theorem falls_M (m : Mt) : Falls (zM m) (bM m) := falls_cons (falls_I _) falls_nil
theorem falls_R (r : Rp) : Falls (zR r) (bR r) := falls_cons (falls_Q _) (falls_cons (falls_I _) (falls_cons (falls_S falls_M _) falls_nil))
def fI {α : Type} (l : List α) : Prop := l.length ≤ 9223372036854775807
theorem zs_cons {o : Option Int} {z : Int → Int} {zs : List (Int → Int)} {b : Prop} {left : Int} {k : Int → Option Int} (ho : o = some (z left)) (hf : Falls z b) (h0 : 0 ≤ left) (h1 : left ≤ 1048576) (hk : ∀ v, 0 ≤ v → v ≤ 1048576 → k v = some (zC zs v)) :
  Option.bind o (fun v => bif decide (v < 0) then some (-1) else k v) = some (zC (z :: zs) left) := by
 rw [ho, Option.bind_some]
 unfold zC
 rcases hf left h0 h1 with e | ⟨e1, e2, _⟩
 ·rw [e]; rfl
 ·rw [if_neg (by omega), decide_eq_false (by omega : ¬ z left < 0), cond_false]; exact hk _ e1 (by omega)
theorem zs_loop {α : Type} {body : Int × Int → Option ((Int × Int) ⊕ (Int ⊕ Int))} {f : α → Int → Int} {b : α → Prop} {l : List α} (hf : ∀ x, Falls (f x) (b x)) (hl : l.length ≤ 1048576)
  (hs : ∀ (v : Int) (k : Nat) (hk : k < l.length), 0 ≤ v → v ≤ 1048576 → body (v, k) = some (bif decide (f l[k] v < 0) then .inr (.inr (-1)) else .inl (f l[k] v, wr (k + 1)))) (he : ∀ v, body (v, l.length) = some (.inr (.inl v))) (v : Int) (h0 : 0 ≤ v) (h1 : v ≤ 1048576) :
  Option.bind (Lp body (v, 0)) (fun y => Sum.elim (fun y => some y) (fun y => some y) y) = some (zC (l.map f) v) := by
 have key : ∀ d k : Nat, k + d = l.length → ∀ v : Int, 0 ≤ v → v ≤ 1048576 → Option.bind (Lp body (v, (k : Int))) (fun y => Sum.elim (fun y => some y) (fun y => some y) y) = some (zC ((l.drop k).map f) v) := by
  intro d
  induction d with
  | zero =>
   intro k hk v _ _
   rw [Nat.add_zero] at hk; subst hk
   rw [Lp_stop (he v)]
   simp [zC]
  | succ d ih =>
   intro k hk v h0 h1
   have h := hs v k (by omega) h0 h1
   rw [List.drop_eq_getElem_cons (by omega : k < l.length), List.map_cons]
   unfold zC
   rcases hf l[k] v h0 h1 with e | ⟨e1, e2, _⟩
   ·rw [e] at h ⊢
    rw [Lp_stop (r := .inr (-1)) (by rw [h]; rfl)]; rfl
   ·rw [if_neg (by omega)]
    rw [decide_eq_false (by omega : ¬ f l[k] v < 0), cond_false, wr_suc (n := l.length) (by omega) (by omega)] at h
    rw [Lp_step h]
    exact ih (k + 1) (by omega) _ e1 (by omega)
 have := key l.length 0 (by omega) v h0 h1
 simpa using this
theorem mz_I {l : List Int} {left : Int} (hl : fI l) (h0 : 0 ≤ left) (h1 : left ≤ 1048576) : m_laws_szIntS l left = some (zI l.length left) := by
 unfold fI at hl
 unfold m_laws_szIntS zI
 rw [wr_eq (by omega)]
 by_cases h : left - l.length < 0
 ·rw [decide_eq_true h, if_pos h]; rfl
 ·rw [decide_eq_false h, if_neg h]; rfl
def fQ (q : Qv) : Prop := fI q.src ∧ fI q.tgt
theorem mz_Q {q : Qv} {left : Int} (hl : fQ q) (h0 : 0 ≤ left) (h1 : left ≤ 1048576) : m_laws_szQuiver q left = some (zQ q left) :=
 zs_cons (mz_I hl.1 h0 h1) (falls_I _) h0 h1 fun v g0 g1 => zs_cons (mz_I hl.2 g0 g1) (falls_I _) g0 g1 fun v _ _ => rfl
def fM (m : Mt) : Prop := fI m.cells
theorem mz_M {m : Mt} {left : Int} (hl : fM m) (h0 : 0 ≤ left) (h1 : left ≤ 1048576) : m_laws_szMatrix m left = some (zM m left) :=
 zs_cons (mz_I hl h0 h1) (falls_I _) h0 h1 fun v _ _ => rfl
def fMs (l : List Mt) : Prop := fI l ∧ ∀ m ∈ l, fM m
theorem mz_Ms {l : List Mt} {left : Int} (hl : fMs l) (h0 : 0 ≤ left) (h1 : left ≤ 1048576) : m_laws_szMatrixS l left = some (zS zM l left) := by
 obtain ⟨ha, hb⟩ := hl
 unfold fI at ha
 unfold m_laws_szMatrixS zS
 rw [wr_eq (by omega)]
 by_cases h : left - l.length < 0
 ·rw [decide_eq_true h, if_pos h]; rfl
 ·rw [decide_eq_false h, if_neg h, cond_false]
  refine zs_loop (f := zM) falls_M (by omega) (fun v k hk g0 g1 => ?_) (fun v => ?_) _ (by omega) (by omega)
  ·unfold m_laws_szMatrixS_L1
   simp only
   rw [dlt hk, cond_true, atL_nat hk, Option.bind_some, mz_M (hb _ (List.getElem_mem hk)) g0 g1, Option.bind_some]
   cases decide (zM l[k] v < 0) <;> rfl
  ·unfold m_laws_szMatrixS_L1
   simp only
   rw [dnl (Nat.le_refl _), cond_false]
def fR (r : Rp) : Prop := fQ r.q ∧ fI r.dims ∧ fMs r.maps
theorem mz_R {r : Rp} {left : Int} (hl : fR r) (h0 : 0 ≤ left) (h1 : left ≤ 1048576) : m_laws_szRep r left = some (zR r left) :=
 zs_cons (mz_Q hl.1 h0 h1) (falls_Q _) h0 h1 fun v g0 g1 => zs_cons (mz_I hl.2.1 g0 g1) (falls_I _) g0 g1 fun v g2 g3 => zs_cons (mz_Ms hl.2.2 g2 g3) (falls_S falls_M _) g2 g3 fun v _ _ => rfl
theorem copy_loop {α : Type} {body : List α × Int → Option ((List α × Int) ⊕ List α)} {l : List α} (z : α) (hl : l.length ≤ 4611686018427387904)
  (hs : ∀ (k : Nat) (hk : k < l.length) (r : List α), r.length = l.length → body (r, k) = some (.inl (r.set k l[k], wr (k + 1)))) (he : ∀ r, body (r, l.length) = some (.inr r)) : Lp body (List.replicate ((l.length : Int).toNat) z, 0) = some l := by
 refine Lp_inv (fun k => (l.take k ++ List.replicate (l.length - k) z, (k : Int))) l.length (by simp) (fun k hk => ?_) ?_
 ·rw [hs k hk _ (by simp; omega), wr_suc hk hl]
  congr 3
  rw [show l.length - k = (l.length - (k + 1)) + 1 by omega, List.replicate_succ, List.set_append_right _ _ (by simp; omega)]
  rw [List.take_succ_eq_append_getElem hk, List.length_take, Nat.min_eq_left (Nat.le_of_lt hk), Nat.sub_self, List.set_cons_zero, List.append_assoc]; rfl
 ·rw [he]; simp
theorem mt_I {l : List Int} (h : bI l) : m_laws_toIntS l = some l := by
 unfold bI at h
 unfold m_laws_toIntS
 rw [decide_eq_true (by omega), decide_eq_true (by omega : (l.length : Int) ≤ 1048576), Bool.and_self, cond_true]
 rw [copy_loop 0 (by omega) (fun k hk r hr => ?_) (fun r => ?_)]; rfl
 ·unfold m_laws_toIntS_L1
  simp only
  rw [dlt hk, cond_true, atL_nat hk, Option.bind_some, atL_nat (hr ▸ hk), Option.bind_some, Int.toNat_natCast]
 ·unfold m_laws_toIntS_L1
  simp only
  rw [dnl (Nat.le_refl _), cond_false]
theorem mt_Q {q : Qv} (h : bQ q) : m_laws_toQuiver q = some q := by
 unfold m_laws_toQuiver
 rw [mt_I h.1, Option.bind_some, mt_I h.2.1, Option.bind_some]
theorem mt_M {m : Mt} (h : bM m) : m_laws_toMatrix m = some m := by
 unfold m_laws_toMatrix
 rw [mt_I h.1, Option.bind_some]
theorem mt_Ms {l : List Mt} (h : l.length ≤ 1048576 ∧ ∀ m ∈ l, bM m) : m_laws_toMatrixS l = some l := by
 obtain ⟨h, hb⟩ := h
 unfold m_laws_toMatrixS
 rw [decide_eq_true (by omega), decide_eq_true (by omega : (l.length : Int) ≤ 1048576), Bool.and_self, cond_true]
 rw [copy_loop _ (by omega) (fun k hk r hr => ?_) (fun r => ?_)]; rfl
 ·unfold m_laws_toMatrixS_L1
  simp only
  rw [dlt hk, cond_true, atL_nat hk, Option.bind_some, mt_M (hb _ (List.getElem_mem hk)), Option.bind_some, atL_nat (hr ▸ hk), Option.bind_some, Int.toNat_natCast]
 ·unfold m_laws_toMatrixS_L1
  simp only
  rw [dnl (Nat.le_refl _), cond_false]
theorem mt_R {r : Rp} (h : bR r) : m_laws_toRep r = some r := by
 unfold m_laws_toRep
 rw [mt_Q h.1, Option.bind_some, mt_I h.2.1, Option.bind_some, mt_Ms h.2.2.1, Option.bind_some]
theorem eq_lists {α : Type} [DecidableEq α] {body : Int → Option (Int ⊕ (Unit ⊕ Bool))} {a b : List α} (hl : a.length ≤ 4611686018427387904) (hab : a.length = b.length)
  (hs : ∀ (k : Nat) (h1 : k < a.length) (h2 : k < b.length), body k = some (bif decide (a[k] = b[k]) then .inl (wr (k + 1)) else .inr (.inr false))) (he : body a.length = some (.inr (.inl ()))) :
  Option.bind (Lp body 0) (fun y => Sum.elim (fun _ => some true) (fun y => some y) y) = some (decide (a = b)) := by
 have key : ∀ (P : Nat → Bool), (∀ (k : Nat) (h1 : k < a.length) (h2 : k < b.length), P k = decide (a[k] = b[k])) → Lp body 0 = some (bif (List.range a.length).all P then .inl () else .inr false) → Option.bind (Lp body 0) (fun y => Sum.elim (fun _ => some true) (fun y => some y) y) = some (decide (a = b)) := by
  intro P hP e
  rw [e, Option.bind_some]
  have : (List.range a.length).all P = decide (a = b) := by
   rw [Bool.eq_iff_iff, range_all, decide_eq_true_eq]
   constructor
   ·intro h
    refine List.ext_getElem hab fun k h1 h2 => ?_
    have := h k h1
    rw [hP k h1 h2] at this
    exact of_decide_eq_true this
   ·rintro rfl k hk; rw [hP k hk hk]; simp
  rw [this]
  cases decide (a = b) <;> rfl
 refine key (fun k => if h : k < a.length then if h2 : k < b.length then decide (a[k] = b[k]) else false else false) (fun k h1 h2 => by rw [dif_pos h1, dif_pos h2]) (Lp_all _ _ hl (fun k hk => ?_) (fun _ => he))
 rw [dif_pos hk, dif_pos (hab ▸ hk)]
 exact hs k hk (hab ▸ hk)
theorem len_test {α β : Type} {a : List α} {b : List β} : decide ((a.length : Int) = (b.length : Int)) = decide (a.length = b.length) := by
 rw [Bool.eq_iff_iff, decide_eq_true_eq, decide_eq_true_eq]; omega
theorem eq_ints {body : Int → Option (Int ⊕ (Unit ⊕ Bool))} {a b : List Int} (hl : a.length ≤ 4611686018427387904)
  (hb : body = fun x => bif decide (x < (a.length : Int)) then (Option.bind (atL a x) fun v3 => Option.bind (atL b x) fun v4 => bif !decide (v3 = v4) then (some (.inr (.inr (false)))) else (some (.inl (wr (x + 1))))) else (some (.inr (.inl ())))) :
  (bif !decide ((a.length : Int) = (b.length : Int)) then some false else Option.bind (Lp body 0) (fun y => Sum.elim (fun _ => some true) (fun y => some y) y)) = some (decide (a = b)) := by
 rw [len_test]
 by_cases h : a.length = b.length
 ·rw [decide_eq_true h, Bool.not_true, cond_false]
  refine eq_lists hl h (fun k h1 h2 => ?_) ?_
  ·rw [hb]
   simp only
   rw [dlt h1, cond_true, atL_nat h1, Option.bind_some, atL_nat h2, Option.bind_some]
   cases decide (a[k] = b[k]) <;> rfl
  ·rw [hb]
   simp only
   rw [dnl (Nat.le_refl _), cond_false]
 ·rw [decide_eq_false h, Bool.not_false, cond_true, decide_eq_false (by rintro rfl; exact h rfl)]
theorem bif_tail {c d : Bool} {o : Option Bool} (h : c = true → o = some d) : (bif !c then some false else o) = some (c && d) := by cases c with | false => rfl | true => exact h rfl
theorem me_I {a b : List Int} (h : bI a) : m_laws_eqIntS a b = some (decide (a = b)) := by
 unfold bI at h
 exact eq_ints (body := m_laws_eqIntS_L1 a b) (by omega) rfl
theorem bif_one {d : Bool} : (bif !d then some false else some true) = some d := by cases d <;> rfl
theorem me_Q {a b : Qv} (h : bQ a) : m_laws_eqQuiver a b = some (decide (a = b)) := by
 unfold m_laws_eqQuiver
 rw [bif_tail (d := decide (a.src = b.src) && decide (a.tgt = b.tgt)) (fun _ => ?_)]
 ·cases a; cases b; simp [Bool.and_assoc]
 ·rw [me_I h.1, Option.bind_some]
  refine bif_tail fun _ => ?_
  rw [me_I h.2.1, Option.bind_some, bif_one]
theorem me_M {a b : Mt} (h : bM a) : m_laws_eqMatrix a b = some (decide (a = b)) := by
 unfold m_laws_eqMatrix
 rw [bif_tail (d := decide (a.cols = b.cols) && decide (a.cells = b.cells)) (fun _ => ?_)]
 ·cases a; cases b; simp [Bool.and_assoc]
 ·refine bif_tail fun _ => ?_
  rw [me_I h.1, Option.bind_some, bif_one]
theorem me_Ms {a b : List Mt} (h : a.length ≤ 1048576 ∧ ∀ m ∈ a, bM m) : m_laws_eqMatrixS a b = some (decide (a = b)) := by
 obtain ⟨h, hb⟩ := h
 unfold m_laws_eqMatrixS
 rw [len_test]
 by_cases e : a.length = b.length
 ·rw [decide_eq_true e, Bool.not_true, cond_false]
  refine eq_lists (by omega) e (fun k h1 h2 => ?_) ?_
  ·unfold m_laws_eqMatrixS_L1
   rw [dlt h1, cond_true, atL_nat h1, Option.bind_some, atL_nat h2, Option.bind_some, me_M (hb _ (List.getElem_mem h1)), Option.bind_some]
   cases decide (a[k] = b[k]) <;> rfl
  ·unfold m_laws_eqMatrixS_L1
   rw [dnl (Nat.le_refl _), cond_false]
 ·rw [decide_eq_false e, Bool.not_false, cond_true, decide_eq_false (by rintro rfl; exact e rfl)]
theorem me_R {a b : Rp} (h : bR a) : m_laws_eqRep a b = some (decide (a = b)) := by
 unfold m_laws_eqRep
 rw [bif_tail (d := decide (a.q = b.q) && (decide (a.dims = b.dims) && decide (a.maps = b.maps))) (fun _ => ?_)]
 ·cases a; cases b; simp [Bool.and_assoc]
 ·rw [me_Q h.1, Option.bind_some]
  refine bif_tail fun _ => ?_
  rw [me_I h.2.1, Option.bind_some]
  refine bif_tail fun _ => ?_
  rw [me_Ms h.2.2.1, Option.bind_some, bif_one]
end Go.Proofs.Ytdhjmmnjapkmkaa
end

section
set_option linter.unusedVariables false
set_option linter.unusedSimpArgs false

namespace Go.Proofs.Ytdhjmmnjapkmkaa
open Go.ChangeShapes Go.WideShapes Go.ChangeAt Go.RowKit
theorem oI : Opens Try.prog 3 (ShpA 1 eI) := opensA_int Try.underlying3
theorem oL : Opens Try.prog 22 (ShpA 1 eL) := opensA_slice Try.underlying22 (by decide) (by kernel_rfl) oI
theorem oQ : Opens Try.prog 24 (ShpA 3 eQ) := by
 intro H enc w fuel cs d ps h hf
 obtain ⟨x0, T0, u0⟩ := upto_cons Try.underlying24 h hf upto_nil (i := 0) (ft := 3) rfl (k := 1) (by kernel_rfl) oI
 obtain ⟨x1, T1, u1⟩ := upto_cons Try.underlying24 h hf u0 (i := 1) (ft := 22) rfl (k := 1) (by kernel_rfl) oL
 obtain ⟨x2, T2, u2⟩ := upto_cons Try.underlying24 h hf u1 (i := 2) (ft := 22) rfl (k := 1) (by kernel_rfl) oL
 exact ⟨⟨x0, x1, x2⟩, _, upto_end Try.underlying24 h hf u2 (by kernel_rfl) _ rfl⟩
theorem oM : Opens Try.prog 74 (ShpA 3 eM) := by
 intro H enc w fuel cs d ps h hf
 obtain ⟨x0, T0, u0⟩ := upto_cons Try.underlying74 h hf upto_nil (i := 0) (ft := 3) rfl (k := 1) (by kernel_rfl) oI
 obtain ⟨x1, T1, u1⟩ := upto_cons Try.underlying74 h hf u0 (i := 1) (ft := 3) rfl (k := 1) (by kernel_rfl) oI
 obtain ⟨x2, T2, u2⟩ := upto_cons Try.underlying74 h hf u1 (i := 2) (ft := 22) rfl (k := 1) (by kernel_rfl) oL
 exact ⟨⟨x0, x1, x2⟩, _, upto_end Try.underlying74 h hf u2 (by kernel_rfl) _ rfl⟩
theorem oMs : Opens Try.prog 25 (ShpA 1 (fun l : List Mt => [.list 3 (l.map eM)])) := opensA_slice Try.underlying25 (by decide) (by kernel_rfl) oM
theorem oR : Opens Try.prog 27 (ShpA 6 eR) := by
 intro H enc w fuel cs d ps h hf
 obtain ⟨x0, T0, u0⟩ := upto_cons Try.underlying27 h hf upto_nil (i := 0) (ft := 3) rfl (k := 1) (by kernel_rfl) oI
 obtain ⟨x1, T1, u1⟩ := upto_cons Try.underlying27 h hf u0 (i := 1) (ft := 24) rfl (k := 3) (by kernel_rfl) oQ
 obtain ⟨x2, T2, u2⟩ := upto_cons Try.underlying27 h hf u1 (i := 2) (ft := 22) rfl (k := 1) (by kernel_rfl) oL
 obtain ⟨x3, T3, u3⟩ := upto_cons Try.underlying27 h hf u2 (i := 3) (ft := 25) rfl (k := 1) (by kernel_rfl) oMs
 exact ⟨⟨x0, x1, x2, x3⟩, _, upto_end Try.underlying27 h hf u3 (by kernel_rfl) _ rfl⟩
end Go.Proofs.Ytdhjmmnjapkmkaa
end

section
set_option linter.unusedVariables false
set_option linter.unusedSimpArgs false

namespace Go.Proofs.Ytdhjmmnjapkmkaa
open Go.RowKit
set_option linter.unusedVariables false
theorem rvs_mem {w : World} : ∀ {ds : List AV} {vs : List Value} {S : List Nat}, RepVs w ds vs S → ∀ d ∈ ds, ∃ v S', RepD w d v S'
 | [], _, _, _, d, hd => by cases hd
 | c :: cs, vs, S, h, d, hd => by
  simp only [RepVs] at h
  obtain ⟨v, r, S1, S2, _, _, h3, h4⟩ := h
  rcases List.mem_cons.1 hd with rfl | h'
  ·exact ⟨v, S1, h3⟩
  ·exact rvs_mem h4 d h'
theorem rcs_mem {w : World} {b : Nat} : ∀ {ds : List AV} {o : Nat} {S : List Nat}, RepCs w b o ds S → ∀ d ∈ ds, ∃ v S', RepD w d v S'
 | [], _, _, _, d, hd => by cases hd
 | c :: cs, o, S, h, d, hd => by
  simp only [RepCs] at h
  obtain ⟨v, S1, S2, _, _, _, _, h3, h4⟩ := h
  rcases List.mem_cons.1 hd with rfl | h'
  ·exact ⟨v, S1, h3⟩
  ·exact rcs_mem h4 d h'
theorem res_mem {w : World} {k b : Nat} : ∀ {es : List (List AV)} {o : Nat} {S : List Nat}, RepEs w k b o es S → ∀ cs ∈ es, ∀ d ∈ cs, ∃ v S', RepD w d v S'
 | [], _, _, _, cs, hc => by cases hc
 | c :: es, o, S, h, cs, hc => by
  simp only [RepEs] at h
  obtain ⟨S1, S2, _, _, h3, h4⟩ := h
  rcases List.mem_cons.1 hc with rfl | h'
  ·exact rcs_mem h3
  ·exact res_mem h4 cs h'
theorem rd_list {w : World} {k : Nat} {es : List (List AV)} {v : Value} {S : List Nat} (h : RepD w (.list k es) v S) : es.length ≤ 9223372036854775807 ∧ ∀ cs ∈ es, ∀ d ∈ cs, ∃ v S', RepD w d v S' := by
 unfold RepD at h
 obtain ⟨a, c, _, h2, h3, h4⟩ := h
 have hm : maxLen ≤ 9223372036854775807 := by decide
 refine ⟨by omega, ?_⟩
 rcases h4 with ⟨rfl, _⟩ | ⟨b, o, T, _, _, _, h5⟩
 ·intro cs hcs; cases hcs
 ·exact res_mem h5
theorem fI_of {w : World} {l : List Int} {v : Value} {S : List Nat} (h : RepD w (ints l) v S) : fI l := by
 have := (rd_list (k := 1) (es := List.map eI l) h).1
 rwa [List.length_map] at this
theorem fI_mem {w : World} {ds : List AV} (h : ∀ d ∈ ds, ∃ v S', RepD w d v S') {l : List Int} (hl : ints l ∈ ds) : fI l := by
 obtain ⟨v, S, h⟩ := h _ hl
 exact fI_of h
theorem list_mem {w : World} {ds : List AV} (h : ∀ d ∈ ds, ∃ v S', RepD w d v S') {α : Type} {k : Nat} {e : α → List AV} {l : List α} (hl : AV.list k (l.map e) ∈ ds) : fI l ∧ ∀ x ∈ l, ∀ d ∈ e x, ∃ v S', RepD w d v S' := by
 obtain ⟨v, S, h⟩ := h _ hl
 have := rd_list h
 rw [List.length_map] at this
 exact ⟨this.1, fun x hx => this.2 _ (List.mem_map.2 ⟨x, hx, rfl⟩)⟩
theorem fM_of {w : World} {m : Mt} (h : ∀ d ∈ eM m, ∃ v S', RepD w d v S') : fM m := fI_mem h (by simp [eM])
theorem fMs_of {w : World} {l : List Mt} {ds : List AV} (h : ∀ d ∈ ds, ∃ v S', RepD w d v S') (hl : AV.list 3 (l.map eM) ∈ ds) : fMs l := by
 obtain ⟨h1, h2⟩ := list_mem h hl
 exact ⟨h1, fun m hm => fM_of (h2 m hm)⟩
theorem fR_of {w : World} {r : Rp} (h : ∀ d ∈ eR r, ∃ v S', RepD w d v S') : fR r := ⟨⟨fI_mem h (by simp [eR]), fI_mem h (by simp [eR])⟩, fI_mem h (by simp [eR]), fMs_of h (by simp [eR])⟩
theorem ret_true {w0 w : World} {v : Value} {S : List Nat} (h : ResA w (.bl true) v S) : Ending.returned v = .returned (.bool true) := by rw [h.1]
end Go.Proofs.Ytdhjmmnjapkmkaa
end

section
set_option linter.unusedVariables false
set_option linter.unusedSimpArgs false

namespace Go.Proofs.Ytdhjmmnjapkmkaa
open Go.RowKit
set_option linter.unusedVariables false
theorem bif_and {c d : Bool} {o : Option Bool} (h : c = true → o = some d) : (bif c then o else some false) = some (c && d) := by cases c with | false => rfl | true => exact h rfl
theorem bif_and1 {c d : Bool} : (bif c then some d else some false) = some (c && d) := by cases c <;> rfl
theorem inR_two {x a b : Int} : (bif decide (a ≤ x) then some (decide (x ≤ b)) else some false) = some (inR x a b) := by
 rw [bif_and1]
 unfold inR
 by_cases h1 : a ≤ x <;> by_cases h2 : x ≤ b <;> simp [h1, h2]
theorem n_within (x a b : Int) : m_impl_within x a b = some (inR x a b) := inR_two
theorem n_l1In (x a b : Int) : m_spec_l1In x a b = some (inR x a b) := inR_two
theorem isF_test (p : Int) : (bif decide (p = 2) then some true else bif decide (p = 3) then some true else some (decide (p = 5))) = some (isF p) := by
 unfold isF
 by_cases h2 : p = 2 <;> by_cases h3 : p = 3 <;> by_cases h5 : p = 5 <;> simp [h2, h3, h5]
theorem n_specF (p : Int) : m_spec_IsField p = some (isF p) := isF_test p
theorem n_implF (p : Int) : m_impl_IsField p = some (isF p) := isF_test p
theorem n_specVec (p : Int) {v : List Int} (h : bI v) : m_spec_IsVector p v = some (isF p && decide (v.length ≤ 64) && v.all fun x => inR x 0 (wr (p - 1))) := by
 unfold bI at h
 unfold m_spec_IsVector
 rw [n_specF, Option.bind_some]
 cases isF p with
 | false => rfl
 | true =>
  rw [Bool.not_true, cond_false, Bool.true_and]
  by_cases h64 : v.length ≤ 64
  ·rw [decide_eq_false (by omega), cond_false, decide_eq_true h64, Bool.true_and]
   rw [Lp_all (fun k => inR (v[k]?.getD 0) 0 (wr (p - 1))) false (n := v.length) (by omega) (fun k hk => ?_) (fun _ => ?_), all_range 0 v (fun x => inR x 0 (wr (p - 1))), Option.bind_some]
   ·cases v.all _ <;> rfl
   ·unfold m_spec_IsVector_L1
    rw [dlt hk, cond_true, atG 0 hk, Option.bind_some, n_l1In, Option.bind_some]
    cases inR _ 0 _ <;> rfl
   ·unfold m_spec_IsVector_L1
    rw [dnl (Nat.le_refl _), cond_false]
  ·rw [decide_eq_true (by omega), cond_true, decide_eq_false h64, Bool.false_and]
theorem n_IndexFunc {v : List Int} {f : Int → Option Bool} (P : Int → Bool) (hf : ∀ x, f x = some (P x)) (h : bI v) : ∃ i : Int, m_slices_IndexFunc_Lint_int v f = some i ∧ decide (0 ≤ i) = v.any P := by
 unfold bI at h
 unfold m_slices_IndexFunc_Lint_int
 rw [Lp_search (s0 := 0) (s := 0) (n := v.length) (fun k => bif P (v[k]?.getD 0) then some (k : Int) else none) rfl (by omega) (Nat.zero_le _) (fun k _ hk => ?_) (fun _ => ?_)]
 ·rw [Option.bind_some]
  cases e : (List.range' 0 (v.length - 0)).findSome? (fun k : Nat => bif P (v[k]?.getD 0) then some (k : Int) else none) with
  | none =>
   refine ⟨-1, rfl, ?_⟩
   rw [List.findSome?_eq_none_iff] at e
   have : v.any P = false := by
    rw [List.any_eq_false]
    intro x hx
    obtain ⟨k, hk, rfl⟩ := List.mem_iff_getElem.1 hx
    have := e k (by simp; omega)
    simp only [List.getElem?_eq_getElem hk, Option.getD_some] at this
    cases hp : P v[k] with
    | false => simp
    | true => rw [hp] at this; cases this
   rw [this]; rfl
  | some i =>
   refine ⟨i, rfl, ?_⟩
   obtain ⟨k, hk, he⟩ := List.exists_of_findSome?_eq_some e
   simp at hk
   have hkl : k < v.length := by omega
   rw [List.getElem?_eq_getElem hkl] at he
   simp only [Option.getD_some] at he
   cases hp : P v[k] with
   | false => rw [hp] at he; cases he
   | true =>
    rw [hp] at he
    cases he
    rw [decide_eq_true (by omega), eq_comm, List.any_eq_true]
    exact ⟨_, List.getElem_mem hkl, hp⟩
 ·unfold m_slices_IndexFunc_Lint_int_L1
  rw [dlt hk, cond_true, atG 0 hk, Option.bind_some, hf, Option.bind_some]
  cases P _ <;> rfl
 ·unfold m_slices_IndexFunc_Lint_int_L1
  rw [dnl (Nat.le_refl _), cond_false]
theorem n_allWithin {v : List Int} (h : bI v) (a b : Int) : m_impl_allWithin v a b = some (v.all fun x => inR x a b) := by
 unfold m_impl_allWithin m_slices_ContainsFunc_Lint_int
 obtain ⟨i, h1, h2⟩ := n_IndexFunc (f := fun b0 => m_impl_allWithin_1 b0 a b) (fun x => !inR x a b) (fun x => by simp only [m_impl_allWithin_1]; rw [n_within, Option.bind_some]) h
 rw [h1, Option.bind_some, Option.bind_some, h2, List.not_any_eq_all_not]
 simp
theorem n_implVec (p : Int) {v : List Int} (h : bI v) : m_impl_IsVector p v = some (isF p && decide (v.length ≤ 64) && v.all fun x => inR x 0 (wr (p - 1))) := by
 unfold m_impl_IsVector
 rw [n_implF, Option.bind_some, n_allWithin h, Option.bind_some, bif_and1, bif_and1, Bool.and_assoc]
 congr 3
 rw [Bool.eq_iff_iff, decide_eq_true_eq, decide_eq_true_eq]; omega
def matV (p : Int) (m : Mt) : Bool := inR m.rows 0 8 && (inR m.cols 0 8 && (decide ((m.cells.length : Int) = wr (m.rows * m.cols)) && (isF p && decide (m.cells.length ≤ 64) && m.cells.all fun x => inR x 0 (wr (p - 1)))))
theorem n_specMat (p : Int) {m : Mt} (h : bM m) : m_spec_IsMatrix p m = some (matV p m) := by
 unfold m_spec_IsMatrix matV
 rw [n_l1In, Option.bind_some]
 refine bif_and fun _ => ?_
 rw [n_l1In, Option.bind_some]
 refine bif_and fun _ => ?_
 refine bif_and fun _ => ?_
 rw [n_specVec p h.1, Option.bind_some]
theorem n_implMat (p : Int) {m : Mt} (h : bM m) : m_impl_IsMatrix p m = some (matV p m) := by
 unfold m_impl_IsMatrix matV
 rw [n_within, Option.bind_some]
 refine bif_and fun _ => ?_
 rw [n_within, Option.bind_some]
 refine bif_and fun _ => ?_
 refine bif_and fun _ => ?_
 rw [n_implVec p h.1, Option.bind_some]
theorem matV_parts {p : Int} {m : Mt} (h : matV p m = true) : isF p = true ∧ ∃ (r c : Nat) (F : Nat → Nat → Int), r ≤ 8 ∧ c ≤ 8 ∧ m = ⟨r, c, tabM r c F⟩ ∧ ∀ i j, i < r → j < c → 0 ≤ F i j ∧ F i j < p := by
 unfold matV at h
 simp only [Bool.and_eq_true, decide_eq_true_eq, List.all_eq_true] at h
 obtain ⟨h1, h2, h3, ⟨h4, h5⟩, h6⟩ := h
 have h1 := inR_true h1
 have h2 := inR_true h2
 refine ⟨h4, m.rows.toNat, m.cols.toNat, fun i j => m.cells[i * m.cols.toNat + j]?.getD 0, by omega, by omega, ?_, ?_⟩
 ·obtain ⟨a, b, l⟩ := m
  simp only at *
  obtain ⟨r, rfl⟩ := Int.eq_ofNat_of_zero_le h1.1
  obtain ⟨c, rfl⟩ := Int.eq_ofNat_of_zero_le h2.1
  have hb : r * c ≤ 64 := Nat.mul_le_mul (by omega : r ≤ 8) (by omega : c ≤ 8)
  rw [wmul (by omega)] at h3
  simp only [Int.toNat_natCast]
  rw [← tabM_of (by omega)]
 ·intro i j hi hj
  show 0 ≤ m.cells[i * m.cols.toNat + j]?.getD 0 ∧ m.cells[i * m.cols.toNat + j]?.getD 0 < p
  have hx := ix_lt hi hj
  have e : ((m.rows.toNat * m.cols.toNat : Nat) : Int) = m.rows * m.cols := by
   rw [Int.natCast_mul, Int.toNat_of_nonneg h1.1, Int.toNat_of_nonneg h2.1]
  have hb : m.rows.toNat * m.cols.toNat ≤ 64 := Nat.mul_le_mul (by omega : m.rows.toNat ≤ 8) (by omega : m.cols.toNat ≤ 8)
  rw [wr_sm (by omega)] at h3
  have hl : i * m.cols.toNat + j < m.cells.length := by omega
  have := inR_true (h6 _ (List.getElem_mem hl))
  rw [List.getElem?_eq_getElem hl, Option.getD_some]
  have hp := isF_bd h4
  rw [wr_sm (by omega)] at this
  omega
def quivV (q : Qv) : Bool := inR q.n 1 5 && (decide ((q.src.length : Int) = (q.tgt.length : Int)) && (decide ((q.src.length : Int) ≤ 6) && ((q.src.all fun x => inR x 0 (wr (q.n - 1))) && (q.tgt.all fun x => inR x 0 (wr (q.n - 1))))))
theorem n_implQ {q : Qv} (h : bQ q) : m_impl_IsQuiver q = some (quivV q) := by
 unfold m_impl_IsQuiver quivV
 rw [n_within, Option.bind_some]
 refine bif_and fun _ => bif_and fun _ => bif_and fun _ => ?_
 rw [n_allWithin h.1, Option.bind_some]
 refine bif_and fun _ => ?_
 rw [n_allWithin h.2.1, Option.bind_some]
theorem n_specQ {q : Qv} (h : bQ q) : m_spec_IsQuiver q = some (quivV q) := by
 obtain ⟨h1, h2, _⟩ := h
 unfold bI at h1 h2
 unfold m_spec_IsQuiver
 rw [Lp_all (n := min q.src.length q.tgt.length) (fun k => inR (q.src[k]?.getD 0) 0 (wr (q.n - 1)) && inR (q.tgt[k]?.getD 0) 0 (wr (q.n - 1))) false (by omega) (fun k hk => ?_) (fun _ => ?_)]
 ·rw [Option.bind_some]
  unfold quivV
  by_cases e : q.src.length = q.tgt.length
  ·have e2 : min q.src.length q.tgt.length = q.src.length := by omega
   have hall : (List.range q.src.length).all (fun k => inR (q.src[k]?.getD 0) 0 (wr (q.n - 1)) && inR (q.tgt[k]?.getD 0) 0 (wr (q.n - 1))) = ((q.src.all fun x => inR x 0 (wr (q.n - 1))) && (q.tgt.all fun x => inR x 0 (wr (q.n - 1)))) := by
    rw [← all_range 0 q.src, ← all_range 0 q.tgt, ← e]
    rw [Bool.eq_iff_iff, Bool.and_eq_true, range_all, range_all, range_all]
    simp only [Bool.and_eq_true]
    exact ⟨fun h => ⟨fun k hk => (h k hk).1, fun k hk => (h k hk).2⟩, fun h k hk => ⟨h.1 k hk, h.2 k hk⟩⟩
   rw [e2, hall, decide_eq_true (by omega : (q.src.length : Int) = (q.tgt.length : Int))]
   cases (q.src.all fun x => inR x 0 (wr (q.n - 1))) && (q.tgt.all fun x => inR x 0 (wr (q.n - 1))) with
   | false => simp
   | true =>
    simp only [cond_true, Sum.elim_inl]
    rw [n_l1In, Option.bind_some, decide_eq_true (by omega : (q.tgt.length : Int) = (q.src.length : Int)), bif_and1, bif_and1]
    simp
  ·rw [decide_eq_false (by omega : ¬ (q.src.length : Int) = (q.tgt.length : Int))]
   simp only [Bool.false_and, Bool.and_false]
   cases (List.range (min q.src.length q.tgt.length)).all _ with
   | false => rfl
   | true =>
    simp only [cond_true, Sum.elim_inl]
    rw [n_l1In, Option.bind_some, decide_eq_false (by omega : ¬ (q.tgt.length : Int) = (q.src.length : Int)), bif_and1, bif_and1]
    simp
 ·unfold m_spec_IsQuiver_L1
  rw [dlt (by omega), cond_true, dlt (by omega), cond_true, atG 0 (by omega), Option.bind_some, n_l1In, Option.bind_some, atG 0 (by omega), Option.bind_some, n_l1In, Option.bind_some]
  cases inR (q.src[k]?.getD 0) 0 (wr (q.n - 1)) <;> cases inR (q.tgt[k]?.getD 0) 0 (wr (q.n - 1)) <;> rfl
 ·unfold m_spec_IsQuiver_L1
  by_cases e : q.src.length ≤ q.tgt.length
  ·rw [dnl (by omega), cond_false]
  ·rw [dlt (by omega), cond_true, dnl (by omega), cond_false]
theorem quivV_parts {q : Qv} (h : quivV q = true) : ∃ n : Nat, q.n = n ∧ 1 ≤ n ∧ n ≤ 5 ∧ q.src.length = q.tgt.length ∧ q.src.length ≤ 6 ∧ (∀ x ∈ q.src, 0 ≤ x ∧ x < n) ∧ ∀ x ∈ q.tgt, 0 ≤ x ∧ x < n := by
 unfold quivV at h
 simp only [Bool.and_eq_true, decide_eq_true_eq, List.all_eq_true] at h
 obtain ⟨h1, h2, h3, h4, h5⟩ := h
 have h1 := inR_true h1
 rw [wr_sm (by omega)] at h4 h5
 refine ⟨q.n.toNat, by omega, by omega, by omega, by omega, by omega, fun x hx => ?_, fun x hx => ?_⟩
 ·have := inR_true (h4 x hx); omega
 ·have := inR_true (h5 x hx); omega
def dimsV (q : Qv) (d : List Int) : Bool := quivV q && (decide ((d.length : Int) = q.n) && ((d.all fun x => inR x 0 4) && decide (d.sum ≤ 8)))
theorem sum_bd {d : List Int} (h : ∀ x ∈ d, 0 ≤ x ∧ x ≤ 4) : 0 ≤ d.sum ∧ d.sum ≤ 4 * d.length := by
 induction d with
 | nil => simp
 | cons x d ih =>
  have h1 := h x (by simp)
  have h2 := ih fun y hy => h y (by simp [hy])
  simp only [List.sum_cons, List.length_cons]
  omega
theorem sum_take {d : List Int} {k : Nat} (hk : k < d.length) : (d.take (k + 1)).sum = (d.take k).sum + d[k]?.getD 0 := by
 rw [List.take_succ_eq_append_getElem hk, List.sum_append]
 simp [hk]
theorem n_sumOf {d : List Int} (h : ∀ x ∈ d, 0 ≤ x ∧ x ≤ 4) (hl : d.length ≤ 1048576) : m_impl_sumOf d = some d.sum := by
 unfold m_impl_sumOf
 rw [Lp_go (r := d.sum) (fun k => ((d.take k).sum, (k : Int))) d.length (by simp) (fun k hk => ?_) (fun _ => ?_)]; rfl
 ·unfold m_impl_sumOf_L1
  simp only
  rw [dlt hk, cond_true, atG 0 hk, Option.bind_some, wr_suc hk (by omega)]
  have h1 := sum_bd (d := d.take (k + 1)) fun x hx => h x (List.mem_of_mem_take hx)
  rw [← sum_take hk, wr_sm (by simp at h1; omega)]
 ·unfold m_impl_sumOf_L1
  simp only
  rw [dnl (Nat.le_refl _), cond_false, List.take_length]
theorem n_implDims {q : Qv} {d : List Int} (hq : bQ q) (hd : bI d) : m_impl_AreDims q d = some (dimsV q d) := by
 unfold m_impl_AreDims dimsV
 rw [n_implQ hq, Option.bind_some]
 refine bif_and fun _ => bif_and fun _ => ?_
 rw [n_allWithin hd, Option.bind_some]
 refine bif_and fun h => ?_
 rw [n_sumOf (fun x hx => inR_true (List.all_eq_true.1 h x hx)) hd, Option.bind_some]
theorem n_specDims {q : Qv} {d : List Int} (hq : bQ q) (hd : bI d) : m_spec_AreDims q d = some (dimsV q d) := by
 unfold bI at hd
 unfold m_spec_AreDims dimsV
 rw [n_specQ hq, Option.bind_some]
 refine bif_tail fun _ => bif_tail fun _ => ?_
 cases hall : d.all (fun x => inR x 0 4) with
 | true =>
  have hb : ∀ x ∈ d, 0 ≤ x ∧ x ≤ 4 := fun x hx => inR_true (List.all_eq_true.1 hall x hx)
  rw [Lp_go (r := .inl d.sum) (fun k => ((d.take k).sum, (k : Int))) d.length (by simp) (fun k hk => ?_) (fun _ => ?_)]; rfl
  ·unfold m_spec_AreDims_L1
   simp only
   rw [dlt hk, cond_true, atG 0 hk, Option.bind_some, n_l1In, Option.bind_some]
   have hin : inR (d[k]?.getD 0) 0 4 = true := by rw [List.getElem?_eq_getElem hk]; exact List.all_eq_true.1 hall _ (List.getElem_mem hk)
   rw [hin, Bool.not_true, cond_false, Option.bind_some, wr_suc hk (by omega)]
   have h1 := sum_bd (d := d.take (k + 1)) fun x hx => hb x (List.mem_of_mem_take hx)
   rw [← sum_take hk, wr_sm (by simp at h1; omega)]
  ·unfold m_spec_AreDims_L1
   simp only
   rw [dnl (Nat.le_refl _), cond_false, List.take_length]
 | false =>
  have key := Lp_meas (body := m_spec_AreDims_L1 d) (s := (0, 0)) (fun s => ∃ k : Nat, s.2 = k ∧ k ≤ d.length ∧ ∀ j, j < k → inR (d[j]?.getD 0) 0 4 = true) (fun s => d.length - s.2.toNat) (fun r => r = .inr false)
   ⟨0, rfl, Nat.zero_le _, fun j hj => absurd hj (Nat.not_lt_zero _)⟩ (fun s ⟨k, hs, hk, hj⟩ => ?_)
  ·obtain ⟨r, h1, h2⟩ := key
   rw [h1, h2]; rfl
  ·obtain ⟨t, s2⟩ := s
   simp only at hs
   subst hs
   rcases Nat.lt_or_ge k d.length with hlt | hge
   ·unfold m_spec_AreDims_L1
    simp only
    rw [dlt hlt, cond_true, atG 0 hlt, Option.bind_some, n_l1In, Option.bind_some]
    cases hin : inR (d[k]?.getD 0) 0 4 with
    | false => exact .inr ⟨_, rfl, rfl⟩
    | true =>
     rw [Bool.not_true, cond_false, Option.bind_some, wr_suc hlt (by omega)]
     refine .inl ⟨_, rfl, ⟨k + 1, rfl, hlt, fun j hj2 => ?_⟩, by simp; omega⟩
     by_cases e : j = k
     ·subst e; exact hin
     ·exact hj j (by omega)
   ·exfalso
    have : d.all (fun x => inR x 0 4) = true := by
     rw [← all_range 0 d, range_all]; exact fun j hj' => hj j (by omega)
    rw [hall] at this; cases this
theorem dimsV_parts {q : Qv} {d : List Int} (h : dimsV q d = true) : quivV q = true ∧ (d.length : Int) = q.n ∧ (∀ x ∈ d, 0 ≤ x ∧ x ≤ 4) ∧ d.sum ≤ 8 := by
 unfold dimsV at h
 simp only [Bool.and_eq_true, decide_eq_true_eq, List.all_eq_true] at h
 exact ⟨h.1, h.2.1, fun x hx => inR_true (h.2.2.1 x hx), h.2.2.2⟩
def repV (r : Rp) : Bool := isF r.p && (dimsV r.q r.dims && (decide ((r.maps.length : Int) = (r.q.src.length : Int)) && (List.range r.maps.length).all fun k =>
 matV r.p (r.maps[k]?.getD ⟨0, 0, []⟩) && (decide ((r.maps[k]?.getD ⟨0, 0, []⟩).cols = r.dims[(r.q.src[k]?.getD 0).toNat]?.getD 0) && decide ((r.maps[k]?.getD ⟨0, 0, []⟩).rows = r.dims[(r.q.tgt[k]?.getD 0).toNat]?.getD 0))))
theorem mem_get {α : Type} {l : List α} {k : Nat} (d : α) (h : k < l.length) : l[k]?.getD d ∈ l := by rw [List.getElem?_eq_getElem h]; exact List.getElem_mem h
theorem n_specRep {r : Rp} (h : bR r) : m_spec_IsRep r = some (repV r) := by
 obtain ⟨h1, h2, ⟨h3, h4⟩, _⟩ := h
 unfold m_spec_IsRep repV
 rw [n_specF, Option.bind_some]
 refine bif_tail fun hF => ?_
 rw [n_specDims h1 h2, Option.bind_some]
 refine bif_tail fun hD => ?_
 obtain ⟨hQ, hd1, hd2, _⟩ := dimsV_parts hD
 obtain ⟨n, hn, _, _, hq1, hq2, hq3, hq4⟩ := quivV_parts hQ
 refine bif_tail fun hL => ?_
 have hL := of_decide_eq_true hL
 rw [Lp_all (fun k => matV r.p (r.maps[k]?.getD ⟨0, 0, []⟩) && (decide ((r.maps[k]?.getD ⟨0, 0, []⟩).cols = r.dims[(r.q.src[k]?.getD 0).toNat]?.getD 0) && decide ((r.maps[k]?.getD ⟨0, 0, []⟩).rows = r.dims[(r.q.tgt[k]?.getD 0).toNat]?.getD 0))) false (n := r.maps.length) (by omega) (fun k hk => ?_) (fun _ => ?_), Option.bind_some]
 ·cases (List.range r.maps.length).all _ <;> rfl
 ·have hs := hq3 _ (mem_get 0 (show k < r.q.src.length by omega))
  have ht := hq4 _ (mem_get 0 (show k < r.q.tgt.length by omega))
  unfold m_spec_IsRep_L1
  rw [dlt hk, cond_true, atG ⟨0, 0, []⟩ hk, Option.bind_some, n_specMat _ (h4 _ (mem_get _ hk)), Option.bind_some, Option.bind_some, atG 0 (by omega), Option.bind_some, atI 0 hs.1 (by omega), Option.bind_some, Option.bind_some, atG 0 (by omega), Option.bind_some, atI 0 ht.1 (by omega), Option.bind_some]
  cases matV r.p _ <;> cases decide ((r.maps[k]?.getD _).cols = _) <;> cases decide ((r.maps[k]?.getD _).rows = _) <;> rfl
 ·unfold m_spec_IsRep_L1
  rw [dnl (Nat.le_refl _), cond_false]
theorem n_implRep {r : Rp} (h : bR r) : m_impl_IsRep r = some (repV r) := by
 obtain ⟨h1, h2, ⟨h3, h4⟩, _⟩ := h
 unfold m_impl_IsRep repV
 rw [n_implF, Option.bind_some]
 refine bif_tail fun hF => ?_
 rw [n_implDims h1 h2, Option.bind_some]
 refine bif_tail fun hD => ?_
 obtain ⟨hQ, hd1, hd2, _⟩ := dimsV_parts hD
 obtain ⟨n, hn, _, _, hq1, hq2, hq3, hq4⟩ := quivV_parts hQ
 refine bif_tail fun hL => ?_
 have hL := of_decide_eq_true hL
 rw [Lp_all (fun k => matV r.p (r.maps[k]?.getD ⟨0, 0, []⟩) && (decide ((r.maps[k]?.getD ⟨0, 0, []⟩).cols = r.dims[(r.q.src[k]?.getD 0).toNat]?.getD 0) && decide ((r.maps[k]?.getD ⟨0, 0, []⟩).rows = r.dims[(r.q.tgt[k]?.getD 0).toNat]?.getD 0))) false (n := r.maps.length) (by omega) (fun k hk => ?_) (fun _ => ?_), Option.bind_some]
 ·cases (List.range r.maps.length).all _ <;> rfl
 ·have hs := hq3 _ (mem_get 0 (show k < r.q.src.length by omega))
  have ht := hq4 _ (mem_get 0 (show k < r.q.tgt.length by omega))
  unfold m_impl_IsRep_L1
  rw [dlt hk, cond_true, atG ⟨0, 0, []⟩ hk, Option.bind_some, n_implMat _ (h4 _ (mem_get _ hk)), Option.bind_some, atG 0 (by omega), Option.bind_some, atI 0 hs.1 (by omega), Option.bind_some, atG 0 (by omega), Option.bind_some, atI 0 ht.1 (by omega), Option.bind_some]
  cases matV r.p _ <;> cases decide ((r.maps[k]?.getD _).cols = _) <;> cases decide ((r.maps[k]?.getD _).rows = _) <;> rfl
 ·unfold m_impl_IsRep_L1
  rw [dnl (Nat.le_refl _), cond_false]
def lineV (q : Qv) : Bool := quivV q && (decide ((q.src.length : Int) = wr (q.n - 1)) && (List.range q.src.length).all fun k => decide (q.src[k]?.getD 0 = k) && decide (q.tgt[k]?.getD 0 = k + 1))
theorem n_specLine {q : Qv} (h : bQ q) : m_spec_IsLine q = some (lineV q) := by
 unfold m_spec_IsLine lineV
 rw [n_specQ h, Option.bind_some]
 refine bif_tail fun hQ => ?_
 obtain ⟨n, hn, _, _, hq1, hq2, hq3, hq4⟩ := quivV_parts hQ
 refine bif_tail fun hL => ?_
 rw [Lp_all (fun k => decide (q.src[k]?.getD 0 = k) && decide (q.tgt[k]?.getD 0 = k + 1)) false (n := q.src.length) (by omega) (fun k hk => ?_) (fun _ => ?_), Option.bind_some]
 ·cases (List.range q.src.length).all _ <;> rfl
 ·unfold m_spec_IsLine_L1
  rw [dlt hk, cond_true, atG 0 hk, Option.bind_some, atG 0 (by omega), Option.bind_some, wr_sm (x := (k : Int) + 1) (by omega)]
  cases decide (q.src[k]?.getD 0 = k) <;> cases decide (q.tgt[k]?.getD 0 = k + 1) <;> rfl
 ·unfold m_spec_IsLine_L1
  rw [dnl (Nat.le_refl _), cond_false]
def zigV (q : Qv) : Bool := quivV q && (decide ((q.src.length : Int) = wr (q.n - 1)) && (List.range q.src.length).all fun k => decide (min (q.src[k]?.getD 0) (q.tgt[k]?.getD 0) = k) && decide (max (q.src[k]?.getD 0) (q.tgt[k]?.getD 0) = k + 1))
theorem n_implZig {q : Qv} (h : bQ q) : m_impl_IsZigzag q = some (zigV q) := by
 unfold m_impl_IsZigzag zigV
 rw [n_implQ h, Option.bind_some]
 refine bif_tail fun hQ => ?_
 obtain ⟨n, hn, _, _, hq1, hq2, hq3, hq4⟩ := quivV_parts hQ
 refine bif_tail fun hL => ?_
 rw [Lp_all (fun k => decide (min (q.src[k]?.getD 0) (q.tgt[k]?.getD 0) = k) && decide (max (q.src[k]?.getD 0) (q.tgt[k]?.getD 0) = k + 1)) false (n := q.src.length) (by omega) (fun k hk => ?_) (fun _ => ?_), Option.bind_some]
 ·cases (List.range q.src.length).all _ <;> rfl
 ·unfold m_impl_IsZigzag_L1
  rw [dlt hk, cond_true, atG 0 hk, Option.bind_some, atG 0 (by omega), Option.bind_some, Option.bind_some, wr_sm (x := (k : Int) + 1) (by omega)]
  cases decide (min (q.src[k]?.getD 0) (q.tgt[k]?.getD 0) = k) <;> cases decide (max (q.src[k]?.getD 0) (q.tgt[k]?.getD 0) = k + 1) <;> rfl
 ·unfold m_impl_IsZigzag_L1
  rw [dnl (Nat.le_refl _), cond_false]
theorem n_implLine {q : Qv} (h : bQ q) : m_impl_IsLine q = some (lineV q) := by
 have hb := h.1
 unfold bI at hb
 unfold m_impl_IsLine
 rw [n_implZig h, Option.bind_some]
 rw [Lp_all (fun k => decide (q.src[k]?.getD 0 = k)) false (n := q.src.length) (by omega) (fun k hk => ?_) (fun _ => ?_), Option.bind_some]
 ·have e : lineV q = (zigV q && (List.range q.src.length).all fun k => decide (q.src[k]?.getD 0 = k)) := by
   unfold lineV zigV
   rw [Bool.and_assoc, Bool.and_assoc]
   congr 2
   rw [Bool.eq_iff_iff, Bool.and_eq_true, range_all, range_all, range_all]
   simp only [Bool.and_eq_true, decide_eq_true_eq]
   constructor
   ·intro g
    refine ⟨fun k hk => ?_, fun k hk => (g k hk).1⟩
    have := g k hk
    omega
   ·rintro ⟨g1, g2⟩ k hk
    have := g1 k hk
    have := g2 k hk
    omega
  rw [e]
  cases zigV q <;> cases (List.range q.src.length).all (fun k => decide (q.src[k]?.getD 0 = k)) <;> rfl
 ·unfold m_impl_IsLine_L1
  rw [dlt hk, cond_true, atG 0 hk, Option.bind_some]
  cases decide (q.src[k]?.getD 0 = k) <;> rfl
 ·unfold m_impl_IsLine_L1
  rw [dnl (Nat.le_refl _), cond_false]
end Go.Proofs.Ytdhjmmnjapkmkaa
end

section
set_option linter.unusedVariables false
set_option linter.unusedSimpArgs false

namespace Go.Proofs.Ytdhjmmnjapkmkaa
open Go.RowKit
set_option linter.unusedVariables false
theorem mulb {a b : Int} (ha : 0 ≤ a ∧ a ≤ 5) (hb : 0 ≤ b ∧ b ≤ 5) : 0 ≤ a * b ∧ a * b ≤ 25 := by
 refine ⟨Int.mul_nonneg ha.1 hb.1, ?_⟩
 have := Int.mul_le_mul ha.2 hb.2 hb.1 (by decide : (0 : Int) ≤ 5)
 omega
theorem emod_bd {x p : Int} (hp : isF p = true) : 0 ≤ x % p ∧ x % p < p := by
 have := isF_bd hp
 exact ⟨Int.emod_nonneg _ (by omega), Int.emod_lt_of_pos _ (by omega)⟩
theorem n_l2Mod {p x : Int} (hp : isF p = true) (hx : -4611686018427387904 ≤ x ∧ x ≤ 4611686018427387904) : m_spec_l2Mod p x = some (x % p) := by
 have hb := isF_bd hp
 have hr := tmod_range x p (by omega)
 unfold m_spec_l2Mod
 rw [decide_eq_false (by omega), Bool.not_false, cond_true]
 rcases tmod_cases x p (by omega) with ⟨h, e⟩ | ⟨h, e⟩
 ·rw [decide_eq_false (by omega), cond_false, e]
 ·rw [decide_eq_true h, cond_true, wr_sm (by omega), e]
  congr 1
  omega
theorem n_reduceMod {p x : Int} (hp : isF p = true) : m_impl_ReduceMod p x = some (x % p) := by
 have hb := isF_bd hp
 have hr := tmod_range x p (by omega)
 unfold m_impl_ReduceMod
 rw [n_implF, hp, Option.bind_some, Bool.not_true, cond_false, decide_eq_false (by omega), Bool.not_false, cond_true, cond_true, wr_sm (by omega), tmod_emod _ _ (by omega)]
theorem n_powerMod {p x : Int} (hp : isF p = true) {k : Nat} (hk : k ≤ 1000) : m_impl_PowerMod p x k = some (powR p (x % p) k) := by
 have hb := isF_bd hp
 unfold m_impl_PowerMod
 rw [n_implF, hp, Option.bind_some, Bool.not_true, cond_false, n_within, inR_mk (by omega) (by omega), Option.bind_some, Bool.not_true, cond_false]
 rw [Lp_go (r := powR p (x % p) k) (fun t => (powR p (x % p) t, (t : Int))) k (by rfl) (fun t ht => ?_) (fun _ => ?_), Option.bind_some]
 ·unfold m_impl_PowerMod_L1
  simp only
  have h1 := powR_bd hp (emod_bd (x := x) hp) t
  have h2 := emod_bd (x := x) hp
  have h3 := mulb (a := powR p (x % p) t) (b := x % p) (by omega) (by omega)
  rw [dlt ht, cond_true, n_reduceMod hp, Option.bind_some, decide_eq_false (by omega), Bool.not_false, cond_true, wr_suc ht (by omega), wr_sm (by omega), Int.tmod_eq_emod_of_nonneg h3.1]
  rfl
 ·unfold m_impl_PowerMod_L1
  simp only
  rw [dnl (Nat.le_refl _), cond_false]
theorem n_implInv {p x : Int} (hp : isF p = true) : m_impl_InverseMod p x = some (invR p (x % p)) := by
 have hb := isF_bd hp
 unfold m_impl_InverseMod invR
 rw [n_implF, hp, Option.bind_some, Bool.not_true, cond_false, wr_sm (by omega)]
 have e : max (p - 2) 1 = (((max (p - 2) 1).toNat : Nat) : Int) := by omega
 rw [e, n_powerMod hp (by omega), Option.bind_some, Int.toNat_natCast]
theorem n_specInv {p x : Int} (hp : isF p = true) (hx : -4611686018427387904 ≤ x ∧ x ≤ 4611686018427387904) : m_spec_InverseMod p x = some (invR p (x % p)) := by
 have hb := isF_bd hp
 have h2 := emod_bd (x := x) hp
 obtain ⟨n, hn⟩ : ∃ n : Nat, p = n := ⟨p.toNat, by omega⟩
 unfold m_spec_InverseMod
 rw [Lp_search (s0 := 1) (s := 1) (n := n) (fun k : Nat => bif decide ((x % p * k) % p = 1) then some (k : Int) else none) rfl (by omega) (by omega) (fun k h1 hk => ?_) (fun _ => ?_), Option.bind_some]
 ·cases e : (List.range' 1 (n - 1)).findSome? (fun k : Nat => bif decide ((x % p * k) % p = 1) then some (k : Int) else none) with
  | none =>
   rw [List.findSome?_eq_none_iff] at e
   rw [inv_miss hp h2 fun y h3 h4 h5 => ?_]; rfl
   have := e y (by simp; omega)
   rw [decide_eq_true h5] at this
   cases this
  | some i =>
   obtain ⟨k, hk, he⟩ := List.exists_of_findSome?_eq_some e
   simp at hk
   cases hd : decide ((x % p * k) % p = 1) with
   | false => rw [hd] at he; cases he
   | true =>
    rw [hd] at he
    cases he
    rw [inv_hit hp h2 (y := k) (by omega) (of_decide_eq_true hd)]; rfl
 ·unfold m_spec_InverseMod_L1
  have h3 := mulb (a := x % p) (b := k) (by omega) (by omega)
  rw [decide_eq_true (by omega), cond_true, n_specF, hp, Option.bind_some, cond_true, n_l2Mod hp hx, Option.bind_some, wr_sm (by omega), n_l2Mod hp (by omega), Option.bind_some]
  cases decide (x % p * k % p = 1) <;> rfl
 ·unfold m_spec_InverseMod_L1
  rw [decide_eq_false (by omega), cond_false]
theorem rowle {r c i : Nat} (hi : i < r) : (i + 1) * c ≤ r * c := Nat.mul_le_mul_right c hi
theorem ixw {r c i j : Nat} (hN : r * c ≤ 1048576) (hi : i < r) (hj : j < c) : wr (wr ((i : Int) * (c : Int)) + (j : Int)) = ((i * c + j : Nat) : Int) := wix (by have := ix_lt hi hj; omega)
theorem atT {r c i j : Nat} (hN : r * c ≤ 1048576) (hi : i < r) (hj : j < c) (F : Nat → Nat → Int) : atL (tabM r c F) (wr (wr ((i : Int) * (c : Int)) + (j : Int))) = some (F i j) := by rw [ixw hN hi hj, tabM_at F hi hj]
theorem setT {r c i j : Nat} (hN : r * c ≤ 1048576) (hi : i < r) (hj : j < c) (F : Nat → Nat → Int) (v : Int) : (tabM r c F).set (wr (wr ((i : Int) * (c : Int)) + (j : Int))).toNat v = tabM r c (setF F i j v) := by rw [ixw hN hi hj, Int.toNat_natCast, tabM_set F v hi hj]
theorem row_lo {r c i : Nat} (hN : r * c ≤ 1048576) (hi : i < r) : wr ((i : Int) * (c : Int)) = ((i * c : Nat) : Int) := wmul (by have := @rowle r c i hi; rw [Nat.succ_mul] at this; omega)
theorem row_hi {r c i : Nat} (hN : r * c ≤ 1048576) (hr : r ≤ 1048576) (hi : i < r) : wr (wr ((i : Int) + 1) * (c : Int)) = ((i * c + c : Nat) : Int) := by
 have := @rowle r c i hi
 rw [wr_suc hi (by omega), wmul (by omega), Nat.succ_mul]
def rowL (c : Nat) (f : Nat → Int) : List Int := (List.range c).map f
theorem rowL_len (c : Nat) (f : Nat → Int) : (rowL c f).length = c := by simp [rowL]
theorem rowL_at {c : Nat} (f : Nat → Int) {j : Nat} (h : j < c) : atL (rowL c f) (j : Int) = some (f j) := by rw [atL_nat (by rw [rowL_len]; exact h)]; simp [rowL]
theorem n_row {r c i : Nat} (hN : r * c ≤ 1048576) (hr : r ≤ 1048576) (hi : i < r) (F : Nat → Nat → Int) : m_impl_Matrix_row ⟨r, c, tabM r c F⟩ i = some () := by
 have := @rowle r c i hi
 rw [Nat.succ_mul] at this
 unfold m_impl_Matrix_row
 simp only
 rw [row_lo hN hi, row_hi hN hr hi, tabM_len, decide_eq_true (by omega), decide_eq_true (by omega : ((i * c : Nat) : Int) ≤ ((i * c + c : Nat) : Int)), decide_eq_true (by omega : ((i * c + c : Nat) : Int) ≤ ((r * c : Nat) : Int))]
 rfl
theorem n_rowD {r c i : Nat} (hN : r * c ≤ 1048576) (hr : r ≤ 1048576) (hi : i < r) (F : Nat → Nat → Int) : m_rowD ⟨r, c, tabM r c F⟩ i = some (rowL c (F i)) := by
 have h := @rowle r c i hi
 rw [Nat.succ_mul] at h
 unfold m_rowD rowLo rowHi
 simp only
 rw [row_lo hN hi, row_hi hN hr hi, tabM_len, decide_eq_true (by omega), decide_eq_true (by omega : ((i * c : Nat) : Int) ≤ ((i * c + c : Nat) : Int)), decide_eq_true (by omega : ((i * c + c : Nat) : Int) ≤ ((r * c : Nat) : Int))]
 simp only [Bool.and_self, cond_true, Int.toNat_natCast]
 congr 1
 refine List.ext_getElem (by simp [tabM_len, rowL_len]; omega) fun t h1 h2 => ?_
 rw [rowL_len] at h2
 rw [List.getElem_take, List.getElem_drop]
 simp [tabM, rowL, ix_div h2, ix_mod h2]
def addF (p : Int) (F : Nat → Nat → Int) (i : Nat) (k : Int) (g : Nat → Int) : Nat → Nat → Int := fun a b => if a = i then (F i b + k * g b) % p else F a b
theorem gd (x : Nat) : (decide (0 ≤ (x : Int)) && true) = true := by rw [decide_eq_true (by omega)]; rfl
theorem p_ne {p : Int} (hp : isF p = true) : (!decide (p = 0)) = true := by have := isF_bd hp; rw [decide_eq_false (by omega)]; rfl
theorem n_addMul {p : Int} (hp : isF p = true) {r c i : Nat} (hc : c ≤ 1048576) (hi : i < r) {F : Nat → Nat → Int} {g : Nat → Int} {k : Int} (hk : 0 ≤ k ∧ k ≤ 5) (hF : ∀ b, b < c → 0 ≤ F i b ∧ F i b < p) (hg : ∀ b, b < c → 0 ≤ g b ∧ g b < p) :
  m_impl_addMultiple p (tabM r c F) (i * c) c k (rowL c g) = some (tabM r c (addF p F i k g)) := by
 have hb := isF_bd hp
 unfold m_impl_addMultiple
 rw [Lp_go (r := tabM r c (addF p F i k g)) (fun x => (tabM r c (fun a b => if a = i ∧ b < x then (F i b + k * g b) % p else F a b), (x : Int))) c (by simp) (fun x hx => ?_) (fun _ => ?_)]; rfl
 ·have h1 := hF x hx
  have h2 := hg x hx
  have h3 := mulb hk (show 0 ≤ g x ∧ g x ≤ 5 by omega)
  unfold m_impl_addMultiple_L1
  simp only
  rw [rowL_len, dlt hx, cond_true, rowL_at _ hx, Option.bind_some, gd x, cond_true, Int.toNat_natCast, tabM_get _ hi hx, Option.bind_some, p_ne hp, cond_true, cond_true, Option.bind_some, tabM_set _ _ hi hx, wr_suc hx (by omega)]
  rw [if_neg (by omega), wr_sm (x := k * g x) (by omega), wr_sm (by omega), Int.tmod_eq_emod_of_nonneg (by omega)]
  congr 3
  refine tabM_congr fun a b ha hb => ?_
  simp only [setF]
  by_cases e1 : a = i ∧ b = x
  ·obtain ⟨rfl, rfl⟩ := e1
   rw [if_pos ⟨rfl, rfl⟩, if_pos ⟨rfl, by omega⟩]
  ·rw [if_neg e1]
   by_cases e2 : a = i ∧ b < x
   ·rw [if_pos e2, if_pos ⟨e2.1, by omega⟩]
   ·rw [if_neg e2, if_neg (by omega)]
 ·unfold m_impl_addMultiple_L1
  simp only
  rw [rowL_len, dnl (Nat.le_refl _), cond_false]
  congr 2
  refine tabM_congr fun a b ha hb => ?_
  simp only [addF]
  by_cases e : a = i
  ·rw [if_pos ⟨e, hb⟩, if_pos e]
  ·rw [if_neg (by omega), if_neg e]
theorem n_addMul2 {p : Int} (hp : isF p = true) {r c i j : Nat} (hc : c ≤ 1048576) (hi : i < r) (hj : j < r) (hij : i ≠ j) {F : Nat → Nat → Int} {k : Int} (hk : 0 ≤ k ∧ k ≤ 5) (hF : ∀ b, b < c → 0 ≤ F i b ∧ F i b < p) (hg : ∀ b, b < c → 0 ≤ F j b ∧ F j b < p) :
  m_impl_addMultiple_same p (tabM r c F) (i * c) c k (j * c) c = some (tabM r c (addF p F i k (F j))) := by
 have hb := isF_bd hp
 unfold m_impl_addMultiple_same
 rw [Lp_go (r := tabM r c (addF p F i k (F j))) (fun x => (tabM r c (fun a b => if a = i ∧ b < x then (F i b + k * F j b) % p else F a b), (x : Int))) c (by simp) (fun x hx => ?_) (fun _ => ?_)]; rfl
 ·have h1 := hF x hx
  have h2 := hg x hx
  have h3 := mulb hk (show 0 ≤ F j x ∧ F j x ≤ 5 by omega)
  unfold m_impl_addMultiple_same_L1
  simp only
  rw [dlt hx, cond_true, gd x, cond_true, Int.toNat_natCast, tabM_get _ hj hx, Option.bind_some, cond_true, tabM_get _ hi hx, Option.bind_some, p_ne hp, cond_true, cond_true, Option.bind_some, tabM_set _ _ hi hx, wr_suc hx (by omega)]
  rw [if_neg (by omega), if_neg (by omega), wr_sm (x := k * F j x) (by omega), wr_sm (by omega), Int.tmod_eq_emod_of_nonneg (by omega)]
  congr 3
  refine tabM_congr fun a b ha hb => ?_
  simp only [setF]
  by_cases e1 : a = i ∧ b = x
  ·obtain ⟨rfl, rfl⟩ := e1
   rw [if_pos ⟨rfl, rfl⟩, if_pos ⟨rfl, by omega⟩]
  ·rw [if_neg e1]
   by_cases e2 : a = i ∧ b < x
   ·rw [if_pos e2, if_pos ⟨e2.1, by omega⟩]
   ·rw [if_neg e2, if_neg (by omega)]
 ·unfold m_impl_addMultiple_same_L1
  simp only
  rw [dnl (Nat.le_refl _), cond_false]
  congr 2
  refine tabM_congr fun a b ha hb => ?_
  simp only [addF]
  by_cases e : a = i
  ·rw [if_pos ⟨e, hb⟩, if_pos e]
  ·rw [if_neg (by omega), if_neg e]
theorem zguard {r c : Nat} (hN : r * c ≤ 1048576) : (decide (0 ≤ wr ((r : Int) * (c : Int))) && decide (wr ((r : Int) * (c : Int)) ≤ 1048576)) = true := by
 rw [wmul (by omega), decide_eq_true (by omega), decide_eq_true (by omega)]; rfl
theorem n_zero {r c : Nat} (hN : r * c ≤ 1048576) : m_impl_zero r c = some ⟨r, c, tabM r c fun _ _ => 0⟩ := by
 unfold m_impl_zero
 rw [zguard hN, cond_true, wmul (by omega), Int.toNat_natCast, tabM_zero]
theorem n_l3Zero {r c : Nat} (hN : r * c ≤ 1048576) : m_spec_l3Zero r c = some ⟨r, c, tabM r c fun _ _ => 0⟩ := by
 unfold m_spec_l3Zero
 rw [zguard hN, cond_true, wmul (by omega), Int.toNat_natCast, tabM_zero]
def unitF : Nat → Nat → Int := fun a b => if a = b then 1 else 0
theorem unit_step {n k : Nat} (hk : k < n) : tabM n n (setF (fun a b => if a = b ∧ a < k then 1 else 0) k k 1) = tabM n n (fun a b => if a = b ∧ a < k + 1 then 1 else 0) := by
 refine tabM_congr fun a b ha hb => ?_
 simp only [setF]
 by_cases e : a = k ∧ b = k
 ·rw [if_pos e, if_pos (by omega)]
 ·rw [if_neg e]
  by_cases e2 : a = b ∧ a < k
  ·rw [if_pos e2, if_pos (by omega)]
  ·rw [if_neg e2, if_neg (by omega)]
theorem n_identity {n : Nat} (hN : n * n ≤ 1048576) (hn : n ≤ 1048576) : m_impl_identity n = some ⟨n, n, tabM n n unitF⟩ := by
 unfold m_impl_identity
 rw [n_zero hN, Option.bind_some]
 rw [Lp_go (r := tabM n n unitF) (fun k => (tabM n n (fun a b => if a = b ∧ a < k then 1 else 0), (k : Int))) n (by simp) (fun k hk => ?_) (fun _ => ?_), Option.bind_some]
 ·unfold m_impl_identity_L1
  simp only
  rw [dlt hk, cond_true, atT hN hk hk, Option.bind_some, setT hN hk hk, wr_suc hk (by omega), unit_step hk]
 ·unfold m_impl_identity_L1
  simp only
  rw [dnl (Nat.le_refl _), cond_false]
  congr 2
  refine tabM_congr fun a b ha hb => ?_
  unfold unitF
  by_cases e : a = b
  ·rw [if_pos ⟨e, ha⟩, if_pos e]
  ·rw [if_neg (by omega), if_neg e]
theorem n_l3Identity {n : Nat} (hN : n * n ≤ 1048576) (hn : n ≤ 1048576) : m_spec_l3Identity n = some ⟨n, n, tabM n n unitF⟩ := by
 unfold m_spec_l3Identity
 rw [n_l3Zero hN, Option.bind_some]
 rw [Lp_go (r := tabM n n unitF) (fun k => (tabM n n (fun a b => if a = b ∧ a < k then 1 else 0), (k : Int))) n (by simp) (fun k hk => ?_) (fun _ => ?_), Option.bind_some]
 ·unfold m_spec_l3Identity_L1
  simp only
  rw [dlt hk, cond_true, atT hN hk hk, Option.bind_some, setT hN hk hk, wr_suc hk (by omega), unit_step hk]
 ·unfold m_spec_l3Identity_L1
  simp only
  rw [dnl (Nat.le_refl _), cond_false]
  congr 2
  refine tabM_congr fun a b ha hb => ?_
  unfold unitF
  by_cases e : a = b
  ·rw [if_pos ⟨e, ha⟩, if_pos e]
  ·rw [if_neg (by omega), if_neg e]
def dotS (F G : Nat → Nat → Int) (i j : Nat) : Nat → Int
 | 0 => 0
 | k + 1 => dotS F G i j k + F i k * G k j
def dotR (p : Int) (F G : Nat → Nat → Int) (i j : Nat) : Nat → Int
 | 0 => 0
 | k + 1 => (dotR p F G i j k + F i k * G k j) % p
theorem dotR_eq {p : Int} (hp : isF p = true) (F G : Nat → Nat → Int) (i j : Nat) : ∀ k, dotR p F G i j k = dotS F G i j k % p
 | 0 => by simp [dotR, dotS]
 | k + 1 => by rw [dotR, dotS, dotR_eq hp F G i j k]; simp [Int.add_emod]
theorem dotS_bd {p : Int} (hp : isF p = true) {F G : Nat → Nat → Int} {i j : Nat} : ∀ {k : Nat}, (∀ t, t < k → 0 ≤ F i t ∧ F i t < p) → (∀ t, t < k → 0 ≤ G t j ∧ G t j < p) → 0 ≤ dotS F G i j k ∧ dotS F G i j k ≤ 25 * k
 | 0, _, _ => by simp [dotS]
 | k + 1, hF, hG => by
  have hb := isF_bd hp
  have h := dotS_bd hp (k := k) (fun t ht => hF t (by omega)) (fun t ht => hG t (by omega))
  have h1 := hF k (by omega)
  have h2 := hG k (by omega)
  have h3 := mulb (a := F i k) (b := G k j) (by omega) (by omega)
  rw [dotS]
  omega
def mulF (p : Int) (n : Nat) (F G : Nat → Nat → Int) : Nat → Nat → Int := fun i j => dotS F G i j n % p
theorem mulF_in {p : Int} (hp : isF p = true) (n : Nat) (F G : Nat → Nat → Int) (m c : Nat) : InP p m c (mulF p n F G) := fun i j _ _ => emod_bd hp
theorem n_l3Multiply {p : Int} (hp : isF p = true) {r n c : Nat} (h1 : r * n ≤ 1048576) (h2 : n * c ≤ 1048576) (h3 : r * c ≤ 1048576) (hr : r ≤ 1048576) (hn : n ≤ 1048576) (hc : c ≤ 1048576) {F G : Nat → Nat → Int} (hF : InP p r n F) (hG : InP p n c G) :
  m_spec_l3Multiply p ⟨r, n, tabM r n F⟩ ⟨n, c, tabM n c G⟩ = some ⟨r, c, tabM r c (mulF p n F G)⟩ := by
 have hb := isF_bd hp
 unfold m_spec_l3Multiply
 simp only
 rw [n_l3Zero h3, Option.bind_some]
 simp only
 rw [Lp_go (r := tabM r c (mulF p n F G)) (fun i => (tabM r c (fun a b => if a < i then mulF p n F G a b else 0), (i : Int))) r (by simp) (fun i hi => ?_) (fun _ => ?_), Option.bind_some]
 ·unfold m_spec_l3Multiply_L1
  simp only
  rw [dlt hi, cond_true]
  rw [Lp_go (r := tabM r c (fun a b => if a < i + 1 then mulF p n F G a b else 0)) (fun j => (tabM r c (fun a b => if a < i ∨ (a = i ∧ b < j) then mulF p n F G a b else 0), (j : Int))) c (by simp) (fun j hj => ?_) (fun _ => ?_), Option.bind_some, wr_suc hi (by omega)]
  ·unfold m_spec_l3Multiply_L2
   simp only
   rw [dlt hj, cond_true]
   have hbd := dotS_bd hp (F := F) (G := G) (i := i) (j := j) (k := n) (fun t ht => hF i t hi ht) (fun t ht => hG t j ht hj)
   rw [Lp_go (r := dotS F G i j n) (fun k => (dotS F G i j k, (k : Int))) n (by simp [dotS]) (fun k hk => ?_) (fun _ => ?_), Option.bind_some, n_l2Mod hp (by omega), Option.bind_some, atT h3 hi hj, Option.bind_some, setT h3 hi hj, wr_suc hj (by omega)]
   ·congr 3
    refine tabM_congr fun a b ha hb => ?_
    simp only [setF]
    by_cases e : a = i ∧ b = j
    ·rw [if_pos e, if_pos (by omega), e.1, e.2]; rfl
    ·rw [if_neg e]
     by_cases e2 : a < i ∨ a = i ∧ b < j
     ·rw [if_pos e2, if_pos (by omega)]
     ·rw [if_neg e2, if_neg (by omega)]
   ·unfold m_spec_l3Multiply_L3
    simp only
    have g1 := hF i k hi hk
    have g2 := hG k j hk hj
    have g3 := mulb (a := F i k) (b := G k j) (by omega) (by omega)
    have g4 := dotS_bd hp (F := F) (G := G) (i := i) (j := j) (k := k) (fun t ht => hF i t hi (by omega)) (fun t ht => hG t j (by omega) hj)
    rw [dlt hk, cond_true, atT h1 hi hk, Option.bind_some, atT h2 hk hj, Option.bind_some, wr_suc hk (by omega), wr_sm (x := F i k * G k j) (by omega), wr_sm (by omega)]
    rfl
   ·unfold m_spec_l3Multiply_L3
    simp only
    rw [dnl (Nat.le_refl _), cond_false]
  ·unfold m_spec_l3Multiply_L2
   simp only
   rw [dnl (Nat.le_refl _), cond_false]
   congr 2
   refine tabM_congr fun a b ha hb => ?_
   by_cases e : a < i + 1
   ·rw [if_pos e, if_pos (by omega)]
   ·rw [if_neg e, if_neg (by omega)]
 ·unfold m_spec_l3Multiply_L1
  simp only
  rw [dnl (Nat.le_refl _), cond_false]
  congr 2
  exact tabM_congr fun a b ha hb => by rw [if_pos ha]
theorem n_times {p : Int} (hp : isF p = true) {r n c : Nat} (h1 : r * n ≤ 1048576) (h2 : n * c ≤ 1048576) (h3 : r * c ≤ 1048576) (hr : r ≤ 1048576) (hn : n ≤ 1048576) (hc : c ≤ 1048576) {F G : Nat → Nat → Int} (hF : InP p r n F) (hG : InP p n c G) :
  m_impl_times p ⟨r, n, tabM r n F⟩ ⟨n, c, tabM n c G⟩ = some ⟨r, c, tabM r c (mulF p n F G)⟩ := by
 have hb := isF_bd hp
 have hD : ∀ i j, dotR p F G i j n = mulF p n F G i j := fun i j => dotR_eq hp F G i j n
 unfold m_impl_times
 simp only
 rw [n_zero h3, Option.bind_some]
 simp only
 rw [Lp_go (r := tabM r c (mulF p n F G)) (fun i => (tabM r c (fun a b => if a < i then mulF p n F G a b else 0), (i : Int))) r (by simp) (fun i hi => ?_) (fun _ => ?_), Option.bind_some]
 ·unfold m_impl_times_L1
  simp only
  rw [dlt hi, cond_true, n_rowD h1 hr hi, Option.bind_some]
  rw [Lp_go (r := tabM r c (fun a b => if a < i + 1 then mulF p n F G a b else 0)) (fun k => (tabM r c (fun a b => if a < i then mulF p n F G a b else if a = i then dotR p F G i b k else 0), (k : Int))) n ?_ (fun k hk => ?_) (fun _ => ?_), Option.bind_some, wr_suc hi (by omega)]
  ·congr 1
   exact tabM_congr fun a b ha hb => by
    by_cases e : a < i
    ·rw [if_pos e, if_pos e]
    ·rw [if_neg e, if_neg e]; simp [dotR]
  ·unfold m_impl_times_L2
   simp only
   have g1 := hF i k hi hk
   rw [rowL_len, dlt hk, cond_true, rowL_at _ hk, Option.bind_some, n_row h3 hr hi, Option.bind_some, n_rowD h2 hn hk, Option.bind_some, Nat.zero_add, row_lo h3 hi, row_hi h3 hr hi, Int.toNat_natCast, Int.toNat_natCast, show i * c + c - i * c = c by omega]
   rw [n_addMul hp hc hi (by omega) (fun b hb => ?_) (fun b hb => hG k b hk hb), Option.bind_some, tabM_len, tabM_len, decide_eq_true rfl, cond_true, wr_suc hk (by omega)]
   ·congr 3
    refine tabM_congr fun a b ha hb => ?_
    simp only [addF]
    by_cases e : a = i
    ·subst e
     simp [dotR]
    ·rw [if_neg e, if_neg e, if_neg e]
   ·rw [if_neg (by omega), if_pos rfl, dotR_eq hp]
    exact emod_bd hp
  ·unfold m_impl_times_L2
   simp only
   rw [rowL_len, dnl (Nat.le_refl _), cond_false]
   congr 2
   refine tabM_congr fun a b ha hb => ?_
   by_cases e : a < i
   ·rw [if_pos e, if_pos (by omega)]
   ·by_cases e2 : a = i
    ·subst e2
     rw [if_neg (by omega), if_pos rfl, if_pos (by omega), hD]
    ·rw [if_neg e, if_neg e2, if_neg (by omega)]
 ·unfold m_impl_times_L1
  simp only
  rw [dnl (Nat.le_refl _), cond_false]
  congr 2
  exact tabM_congr fun a b ha hb => by rw [if_pos ha]
end Go.Proofs.Ytdhjmmnjapkmkaa
end

section
set_option linter.unusedVariables false
set_option linter.unusedSimpArgs false

namespace Go.Proofs.Ytdhjmmnjapkmkaa
open Go.RowKit
set_option linter.unusedVariables false
def castL (L : List Nat) : List Int := L.map fun t : Nat => (t : Int)
theorem castL_len (L : List Nat) : (castL L).length = L.length := by simp [castL]
theorem redUp_full {p : Int} {m : Nat} {F : Nat → Nat → Int} {j : Nat} (h : (redUp p m F j).2.length = m) : ∀ d, redUp p m F (j + d) = redUp p m F j
 | 0 => rfl
 | d + 1 => by
  show redStep p m (redUp p m F (j + d)) (j + d) = _
  rw [redUp_full h d]
  unfold redStep
  rw [if_pos]
  rw [h, Nat.sub_self]
  rfl
def swapTo (F : Nat → Nat → Int) (a b x : Nat) : Nat → Nat → Int := fun i y => if y < x then swapF F a b i y else F i y
def scaleTo (p : Int) (F : Nat → Nat → Int) (a : Nat) (s : Int) (x : Nat) : Nat → Nat → Int := fun i y => if y < x then scaleF p F a s i y else F i y
def elimTo (p : Int) (F : Nat → Nat → Int) (a j x : Nat) : Nat → Nat → Int := fun i c => if i < x then elimF p F a j i c else F i c
theorem swap_step {r c a b x : Nat} (F : Nat → Nat → Int) : tabM r c (setF (setF (swapTo F a b x) a x (F b x)) b x (F a x)) = tabM r c (swapTo F a b (x + 1)) := by
 refine tabM_congr fun i y hi hy => ?_
 simp only [setF, swapTo, swapF]
 by_cases e : y = x
 ·subst e
  simp only [and_true, Nat.lt_irrefl, if_false, Nat.lt_succ_self, if_true]
  by_cases e1 : i = b
  ·rw [if_pos e1]
   by_cases e2 : i = a
   ·rw [if_pos e2]
    subst e1; rw [e2]
   ·rw [if_neg e2, if_pos e1]
  ·rw [if_neg e1]
   by_cases e2 : i = a
   ·rw [if_pos e2, if_pos e2]
   ·rw [if_neg e2, if_neg e2, if_neg e1]
 ·rw [if_neg (by omega), if_neg (by omega)]
  by_cases e1 : y < x
  ·rw [if_pos e1, if_pos (show y < x + 1 by omega)]
  ·rw [if_neg e1, if_neg (show ¬ y < x + 1 by omega)]
theorem swapTo_at {F : Nat → Nat → Int} {a b x i : Nat} : swapTo F a b x i x = F i x := by simp [swapTo]
theorem scaleTo_at {p : Int} {F : Nat → Nat → Int} {a x i : Nat} {s : Int} : scaleTo p F a s x i x = F i x := by simp [scaleTo]
theorem scale_step {p : Int} {r c a x : Nat} {s : Int} (F : Nat → Nat → Int) : tabM r c (setF (scaleTo p F a s x) a x ((F a x * s) % p)) = tabM r c (scaleTo p F a s (x + 1)) := by
 refine tabM_congr fun i y hi hy => ?_
 simp only [setF, scaleTo, scaleF]
 by_cases e : y = x
 ·subst e
  simp only [and_true, Nat.lt_irrefl, if_false, Nat.lt_succ_self, if_true]
 ·rw [if_neg (by omega)]
  by_cases e1 : y < x
  ·rw [if_pos e1, if_pos (show y < x + 1 by omega)]
  ·rw [if_neg e1, if_neg (show ¬ y < x + 1 by omega)]
theorem invR_bd {p r : Int} (hp : isF p = true) (hr : 0 ≤ r ∧ r < p) : 0 ≤ invR p r ∧ invR p r < p := powR_bd hp hr _
theorem swapF_in {p : Int} {m n k r : Nat} {F : Nat → Nat → Int} (h : InP p m n F) (hk : k < m) (hr : r < m) : InP p m n (swapF F k r) := by
 intro i c hi hc
 unfold swapF
 split
 ·exact h r c hr hc
 ·split
  ·exact h k c hk hc
  ·exact h i c hi hc
theorem scaleF_in {p : Int} (hp : isF p = true) {m n k : Nat} {s : Int} {F : Nat → Nat → Int} (h : InP p m n F) : InP p m n (scaleF p F k s) := by
 intro i c hi hc
 unfold scaleF
 split
 ·exact emod_bd hp
 ·exact h i c hi hc
theorem elimTo_in {p : Int} (hp : isF p = true) {m n k j x : Nat} {F : Nat → Nat → Int} (h : InP p m n F) : InP p m n (elimTo p F k j x) := by
 intro i c hi hc
 unfold elimTo elimF
 split
 ·split
  ·rename_i h1 h2; subst h2; exact h _ c hi hc
  ·exact emod_bd hp
 ·exact h i c hi hc
theorem elim_row {p : Int} (hp : isF p = true) {m n k j x : Nat} {F : Nat → Nat → Int} (hx : x ≠ k) : tabM m n (addF p (elimTo p F k j x) x (p - F x j) (elimTo p F k j x k)) = tabM m n (elimTo p F k j (x + 1)) := by
 refine tabM_congr fun i c hi hc => ?_
 simp only [addF, elimTo, elimF]
 by_cases e : i = x
 ·subst e
  rw [if_pos rfl, if_neg (Nat.lt_irrefl _), if_pos (Nat.lt_succ_self _), if_neg hx]
  simp only [if_true, ite_self]
  rw [show F i c + (p - F i j) * F k c = (F i c - F i j * F k c) + p * F k c by rw [Int.sub_mul]; omega, Int.add_mul_emod_self_left]
 ·rw [if_neg e]
  by_cases e1 : i < x
  ·rw [if_pos e1, if_pos (show i < x + 1 by omega)]
  ·rw [if_neg e1, if_neg (show ¬ i < x + 1 by omega)]
theorem elim_skip {p : Int} {m n k j : Nat} {F : Nat → Nat → Int} : tabM m n (elimTo p F k j k) = tabM m n (elimTo p F k j (k + 1)) := by
 refine tabM_congr fun i c hi hc => ?_
 simp only [elimTo, elimF]
 by_cases e : i < k
 ·rw [if_pos e, if_pos (show i < k + 1 by omega)]
 ·rw [if_neg e]
  by_cases e1 : i = k
  ·subst e1; simp
  ·rw [if_neg (show ¬ i < k + 1 by omega)]
theorem redPart_eq {p : Int} {F : Nat → Nat → Int} {k r j : Nat} : redPart p F k r j = elimF p (scaleF p (swapF F k r) k (invR p (F r j))) k j := rfl
structure Tb (p : Int) (m n : Nat) (F : Nat → Nat → Int) : Prop where
 hp : isF p = true
 hN : m * n ≤ 1048576
 hm : m ≤ 1048576
 hn : n ≤ 1048576
 hi : InP p m n F
theorem n_pivI {p : Int} {m n : Nat} {F : Nat → Nat → Int} (T : Tb p m n F) {j : Nat} (hj : j < n) (L : List Nat) (hL : L.length ≤ m) (l : List Int) :
  Lp (m_impl_reduce_L2 ⟨m, n, l⟩ ((j : Int), tabM m n F, castL L)) (((castL L).length : Nat) : Int) = some ((pivot F j (m - L.length) L.length : Nat) : Int) := by
 obtain ⟨hp, hN, hm, hn, hi⟩ := T
 have hle := @pivot_le F j (m - L.length) L.length
 have hz := @pivot_zero F j (m - L.length) L.length
 have hh := @pivot_hit F j (m - L.length) L.length
 generalize pivot F j (m - L.length) L.length = r at *
 rw [castL_len]
 refine Lp_go (fun t => ((L.length + t : Nat) : Int)) (r - L.length) (by simp) (fun t ht => ?_) (fun _ => ?_)
 ·unfold m_impl_reduce_L2
  simp only
  rw [dlt (by omega), cond_true, n_row hN hm (by omega), Option.bind_some, row_lo hN (by omega), row_hi hN hm (by omega), Int.toNat_natCast, Int.toNat_natCast, Nat.add_sub_cancel_left, dlt hj, gd, cond_true, Nat.zero_add, Int.toNat_natCast, tabM_get _ (by omega) hj, Option.bind_some,
   hz _ (by omega) (by omega), decide_eq_true rfl, cond_true, wr_suc (n := m) (by omega) (by omega), Nat.add_assoc]
 ·rw [show L.length + (r - L.length) = r by omega]
  unfold m_impl_reduce_L2
  simp only
  rcases Nat.lt_or_ge r m with h | h
  ·rw [dlt h, cond_true, n_row hN hm h, Option.bind_some, row_lo hN h, row_hi hN hm h, Int.toNat_natCast, Int.toNat_natCast, Nat.add_sub_cancel_left, dlt hj, gd, cond_true, Nat.zero_add, Int.toNat_natCast, tabM_get _ h hj, Option.bind_some,
    decide_eq_false (hh (by omega)), cond_false]
  ·rw [dnl h, cond_false]
theorem n_stepI {p : Int} {m n : Nat} {F : Nat → Nat → Int} (T : Tb p m n F) {j : Nat} (hj : j < n) (L : List Nat) (hL : L.length ≤ m) (l : List Int) :
  m_impl_reduce_L1 p ⟨m, n, l⟩ ((j : Int), tabM m n F, castL L) = some (.inl (((j + 1 : Nat) : Int), tabM m n (redStep p m (F, L) j).1, castL (redStep p m (F, L) j).2)) := by
 have hpv := n_pivI T hj L hL l
 obtain ⟨hp, hN, hm, hn, hi⟩ := T
 have hb := isF_bd hp
 have hle := @pivot_le F j (m - L.length) L.length
 unfold m_impl_reduce_L1 redStep
 simp only
 rw [dlt hj, cond_true, hpv, Option.bind_some, wr_suc hj (by omega)]
 clear hpv
 generalize pivot F j (m - L.length) L.length = r at *
 by_cases hr : r = m
 ·rw [decide_eq_true (by omega), cond_true, if_pos hr]
 ·rw [decide_eq_false (by omega), cond_false, if_neg hr]
  have hk : L.length < m := by omega
  have hrm : r < m := by omega
  simp only [castL_len]
  rw [n_row hN hm hk, Option.bind_some, row_lo hN hk, row_hi hN hm hk]
  simp only [Int.toNat_natCast, Nat.add_sub_cancel_left, Nat.zero_add]
  rw [Lp_go (r := tabM m n (swapF F L.length r)) (fun x => (tabM m n (swapTo F L.length r x), (x : Int))) n ?_ (fun x hx => ?_) (fun _ => ?_), Option.bind_some, dlt hj, gd, cond_true, tabM_get _ hk hj, Option.bind_some]
  ·have e1 : swapF F L.length r L.length j = F r j := by simp [swapF]
   have hrj := hi r j hrm hj
   rw [e1, n_implInv hp, Option.bind_some, Int.emod_eq_of_lt hrj.1 hrj.2]
   have hs := invR_bd hp hrj
   rw [redPart_eq]
   generalize invR p (F r j) = s at *
   have h1 := swapF_in hi hk hrm
   generalize swapF F L.length r = F1 at *
   rw [Lp_go (r := tabM m n (scaleF p F1 L.length s)) (fun x => (tabM m n (scaleTo p F1 L.length s x), (x : Int))) n ?_ (fun x hx => ?_) (fun _ => ?_), Option.bind_some]
   ·have h2 := scaleF_in hp (k := L.length) (s := s) h1
    generalize scaleF p F1 L.length s = F2 at *
    rw [Lp_go (r := tabM m n (elimF p F2 L.length j)) (fun x => (tabM m n (elimTo p F2 L.length j x), (x : Int))) m ?_ (fun x hx => ?_) (fun _ => ?_), Option.bind_some]
    ·rw [decide_eq_true (by simp; omega), cond_true]
     simp [castL]
    ·congr 1
    ·unfold m_impl_reduce_L5
     simp only [castL_len]
     rw [dlt hx, cond_true]
     by_cases hxk : x = L.length
     ·rw [decide_eq_true (by omega), Bool.not_true, cond_false, wr_suc hx (by omega), hxk, elim_skip]
     ·rw [decide_eq_false (by omega), Bool.not_false, cond_true, n_row hN hm hx, Option.bind_some, Option.bind_some, row_lo hN hx, row_hi hN hm hx, row_lo hN hk, row_hi hN hm hk]
      simp only [Int.toNat_natCast, Nat.add_sub_cancel_left, Nat.zero_add]
      rw [dlt hj, gd, cond_true, tabM_get _ hx hj, Option.bind_some]
      have e2 : elimTo p F2 L.length j x x j = F2 x j := by simp [elimTo]
      have h3 := h2 x j hx hj
      have h4 := elimTo_in hp (k := L.length) (j := j) (x := x) h2
      rw [e2, wr_sm (by omega), n_addMul2 hp hn hx hk hxk (by omega) (fun b hb => h4 _ b hx hb) (fun b hb => h4 _ b hk hb), Option.bind_some, tabM_len, tabM_len, decide_eq_true rfl, cond_true, wr_suc hx (by omega), elim_row hp hxk]
    ·unfold m_impl_reduce_L5
     simp only
     rw [dnl (Nat.le_refl _), cond_false]
     congr 2
     exact tabM_congr fun a b ha hb => by simp only [elimTo]; rw [if_pos ha]
   ·congr 1
   ·unfold m_impl_reduce_L4
    simp only [castL_len]
    rw [row_lo hN hk, row_hi hN hm hk]
    simp only [Int.toNat_natCast, Nat.add_sub_cancel_left, Nat.zero_add]
    have g1 := h1 _ x hk hx
    have g2 := mulb (a := F1 L.length x) (b := s) (by omega) (by omega)
    rw [dlt hx, cond_true, gd, cond_true, tabM_get _ hk hx, Option.bind_some, p_ne hp, cond_true, cond_true, Option.bind_some, scaleTo_at, wr_sm (by omega), Int.tmod_eq_emod_of_nonneg g2.1, tabM_set _ _ hk hx, wr_suc hx (by omega), scale_step]
   ·unfold m_impl_reduce_L4
    simp only [castL_len]
    rw [row_lo hN hk, row_hi hN hm hk]
    simp only [Int.toNat_natCast, Nat.add_sub_cancel_left, Nat.zero_add]
    rw [dnl (Nat.le_refl _), cond_false]
    congr 2
    exact tabM_congr fun a b ha hb => by simp only [scaleTo]; rw [if_pos hb]
  ·congr 1
  ·unfold m_impl_reduce_L3
   simp only [castL_len]
   rw [dlt hx, cond_true, n_row hN hm hrm, Option.bind_some, Option.bind_some, row_lo hN hk, row_hi hN hm hk, row_lo hN hrm, row_hi hN hm hrm]
   simp only [Int.toNat_natCast, Nat.add_sub_cancel_left, Nat.zero_add]
   rw [dlt hx, gd, cond_true, tabM_get _ hrm hx, Option.bind_some, cond_true, tabM_get _ hk hx, Option.bind_some, cond_true, Option.bind_some, cond_true, tabM_set _ _ hk hx, tabM_get _ hrm hx, Option.bind_some, tabM_set _ _ hrm hx, swapTo_at, swapTo_at, wr_suc hx (by omega), swap_step]
  ·unfold m_impl_reduce_L3
   simp only
   rw [dnl (Nat.le_refl _), cond_false]
   congr 2
   exact tabM_congr fun a b ha hb => by simp only [swapTo]; rw [if_pos hb]
theorem n_implReduce {p : Int} {m n : Nat} {F : Nat → Nat → Int} (T : Tb p m n F) : m_impl_reduce p ⟨m, n, tabM m n F⟩ = some (⟨m, n, tabM m n (redUp p m F n).1⟩, castL (redUp p m F n).2) := by
 have hN := T.hN
 have hn := T.hn
 unfold m_impl_reduce m_impl_Matrix_clone m_Clone
 simp only
 rw [tabM_len, decide_eq_true hN, cond_true, Option.bind_some, Option.bind_some]
 simp only
 rw [Lp_go (r := (tabM m n (redUp p m F n).1, castL (redUp p m F n).2)) (fun j => ((j : Int), tabM m n (redUp p m F j).1, castL (redUp p m F j).2)) n (by simp [redUp, castL]) (fun j hj => ?_) (fun _ => ?_), Option.bind_some]
 ·show _ = some (Sum.inl (((j + 1 : Nat) : Int), tabM m n (redStep p m (redUp p m F j) j).1, castL (redStep p m (redUp p m F j) j).2) : (Int × List Int × List Int) ⊕ (List Int × List Int))
  exact n_stepI ⟨T.hp, T.hN, T.hm, T.hn, redUp_in (by have := isF_bd T.hp; omega) T.hi j⟩ hj _ (redUp_len j) _
 ·unfold m_impl_reduce_L1
  simp only
  rw [dnl (Nat.le_refl _), cond_false]
theorem n_implRank {p : Int} {m n : Nat} {F : Nat → Nat → Int} (T : Tb p m n F) : m_impl_rank p ⟨m, n, tabM m n F⟩ = some ((redUp p m F n).2.length : Int) := by
 unfold m_impl_rank
 rw [n_implReduce T, Option.bind_some, castL_len]
theorem n_pivS {p : Int} {m n : Nat} {F : Nat → Nat → Int} (T : Tb p m n F) {j : Nat} (hj : j < n) (L : List Nat) (hL : L.length < m) (l : List Int) :
  Lp (m_spec_l4Reduce_L2 ⟨m, n, l⟩ ((j : Int), tabM m n F, castL L, (L.length : Int))) (-1, wr ((m : Int) - 1)) = some (if pivot F j (m - L.length) L.length = m then -1 else ((pivot F j (m - L.length) L.length : Nat) : Int)) := by
 obtain ⟨hp, hN, hm, hn, hi⟩ := T
 refine Lp_go (fun t => (if pivot F j t (m - t) = m then -1 else ((pivot F j t (m - t) : Nat) : Int), ((m - t : Nat) : Int) - 1)) (m - L.length) ?_ (fun t ht => ?_) (fun _ => ?_)
 ·simp only [pivot, Nat.sub_zero, if_true]
  rw [wr_sm (by omega)]
 ·unfold m_spec_l4Reduce_L2
  simp only
  have e : ((m - t : Nat) : Int) - 1 = ((m - (t + 1) : Nat) : Int) := by omega
  have hi2 : m - (t + 1) < m := by omega
  rw [e, decide_eq_true (by omega), cond_true, atT hN hi2 hj, Option.bind_some, wr_sm (x := ((m - (t + 1) : Nat) : Int) - 1) (by omega)]
  have ep : pivot F j (t + 1) (m - (t + 1)) = if F (m - (t + 1)) j = 0 then pivot F j t (m - t) else m - (t + 1) := by
   rw [pivot, show m - (t + 1) + 1 = m - t by omega]
  rw [ep]
  by_cases h : F (m - (t + 1)) j = 0
  ·rw [decide_eq_true h, Bool.not_true, cond_false, if_pos h]
  ·rw [decide_eq_false h, Bool.not_false, cond_true, if_neg h, if_neg (by omega)]
 ·rw [show m - (m - L.length) = L.length by omega]
  unfold m_spec_l4Reduce_L2
  simp only
  rw [decide_eq_false (by omega), cond_false]
theorem n_stepS {p : Int} {m n : Nat} {F : Nat → Nat → Int} (T : Tb p m n F) {j : Nat} (hj : j < n) (L : List Nat) (hL : L.length < m) (l : List Int) :
  m_spec_l4Reduce_L1 p ⟨m, n, l⟩ ((j : Int), tabM m n F, castL L, (L.length : Int)) = some (.inl (((j + 1 : Nat) : Int), tabM m n (redStep p m (F, L) j).1, castL (redStep p m (F, L) j).2, ((redStep p m (F, L) j).2.length : Int))) := by
 have hpv := n_pivS T hj L hL l
 obtain ⟨hp, hN, hm, hn, hi⟩ := T
 have hb := isF_bd hp
 have hle := @pivot_le F j (m - L.length) L.length
 unfold m_spec_l4Reduce_L1 redStep
 simp only
 rw [dlt hj, cond_true, dlt hL, cond_true, hpv, Option.bind_some, wr_suc hj (by omega)]
 clear hpv
 generalize pivot F j (m - L.length) L.length = r at *
 have hk : L.length < m := hL
 by_cases hr : r = m
 ·rw [if_pos hr, if_pos hr, decide_eq_true (by omega), cond_true]
 ·rw [if_neg hr, if_neg hr, decide_eq_false (by omega), cond_false]
  have hrm : r < m := by omega
  rw [Lp_go (r := tabM m n (swapF F L.length r)) (fun x => (tabM m n (swapTo F L.length r x), (x : Int))) n ?_ (fun x hx => ?_) (fun _ => ?_), Option.bind_some, atT hN hk hj, Option.bind_some]
  ·have e1 : swapF F L.length r L.length j = F r j := by simp [swapF]
   have hrj := hi r j hrm hj
   rw [e1, n_specInv hp (by omega), Option.bind_some, Int.emod_eq_of_lt hrj.1 hrj.2]
   have hs := invR_bd hp hrj
   rw [redPart_eq]
   generalize invR p (F r j) = s at *
   have h1 := swapF_in hi hk hrm
   generalize swapF F L.length r = F1 at *
   rw [Lp_go (r := tabM m n (scaleF p F1 L.length s)) (fun x => (tabM m n (scaleTo p F1 L.length s x), (x : Int))) n ?_ (fun x hx => ?_) (fun _ => ?_), Option.bind_some]
   ·have h2 := scaleF_in hp (k := L.length) (s := s) h1
    generalize scaleF p F1 L.length s = F2 at *
    rw [Lp_go (r := tabM m n (elimF p F2 L.length j)) (fun x => (tabM m n (elimTo p F2 L.length j x), (x : Int))) m ?_ (fun x hx => ?_) (fun _ => ?_), Option.bind_some]
    ·rw [castL_len, decide_eq_true (by simp; omega), cond_true, wr_suc hk (by omega)]
     simp [castL]
    ·congr 1
    ·unfold m_spec_l4Reduce_L5
     simp only
     rw [dlt hx, cond_true, atT hN hx hj, Option.bind_some, wr_suc hx (by omega)]
     have e2 : elimTo p F2 L.length j x x j = F2 x j := by simp [elimTo]
     rw [e2]
     by_cases hxk : x = L.length
     ·rw [Lp_stop (r := tabM m n (elimTo p F2 L.length j x)) ?_, Option.bind_some, hxk, elim_skip]
      unfold m_spec_l4Reduce_L6
      simp only
      rcases Nat.eq_zero_or_pos n with h0 | h0
      ·omega
      ·rw [decide_eq_true (by omega), cond_true, decide_eq_true (by omega), Bool.not_true, cond_false]
     ·rw [Lp_go (r := tabM m n (elimTo p F2 L.length j (x + 1))) (fun y => (tabM m n (fun a c => if a = x ∧ c < y then elimF p F2 L.length j x c else elimTo p F2 L.length j x a c), (y : Int))) n (by simp) (fun y hy => ?_) (fun _ => ?_), Option.bind_some]
      ·unfold m_spec_l4Reduce_L6
       simp only
       rw [dlt hy, cond_true, decide_eq_false (by omega), Bool.not_false, cond_true, atT hN hx hy, Option.bind_some, atT hN hk hy, Option.bind_some]
       have e3 : elimTo p F2 L.length j x x y = F2 x y := by simp [elimTo]
       have e4 : elimTo p F2 L.length j x L.length y = F2 L.length y := by simp [elimTo, elimF]
       rw [if_neg (by omega), if_neg (by omega), e3, e4]
       have g1 := h2 x j hx hj
       have g2 := h2 L.length y hk hy
       have g3 := h2 x y hx hy
       have g4 := mulb (a := F2 x j) (b := F2 L.length y) (by omega) (by omega)
       rw [wr_sm (x := F2 x j * F2 L.length y) (by omega), wr_sm (x := F2 x y - F2 x j * F2 L.length y) (by omega), n_l2Mod hp (by omega), Option.bind_some, Option.bind_some, setT hN hx hy, wr_suc hy (by omega)]
       congr 3
       refine tabM_congr fun a c ha hc => ?_
       simp only [setF]
       by_cases e5 : a = x ∧ c = y
       ·rw [if_pos e5, if_pos (by omega), e5.2]
        simp only [elimF]
        rw [if_neg hxk]
       ·rw [if_neg e5]
        by_cases e6 : a = x ∧ c < y
        ·rw [if_pos e6, if_pos (by omega)]
        ·rw [if_neg e6, if_neg (by omega)]
      ·unfold m_spec_l4Reduce_L6
       simp only
       rw [dnl (Nat.le_refl _), cond_false]
       congr 2
       refine tabM_congr fun a c ha hc => ?_
       simp only [elimTo]
       by_cases e5 : a = x
       ·rw [if_pos ⟨e5, hc⟩, if_pos (by omega), e5]
       ·rw [if_neg (by omega)]
        by_cases e6 : a < x
        ·rw [if_pos e6, if_pos (by omega)]
        ·rw [if_neg e6, if_neg (by omega)]
    ·unfold m_spec_l4Reduce_L5
     simp only
     rw [dnl (Nat.le_refl _), cond_false]
     congr 2
     exact tabM_congr fun a b ha hb => by simp only [elimTo]; rw [if_pos ha]
   ·congr 1
   ·unfold m_spec_l4Reduce_L4
    simp only
    have g1 := h1 _ x hk hx
    have g2 := mulb (a := F1 L.length x) (b := s) (by omega) (by omega)
    rw [dlt hx, cond_true, atT hN hk hx, Option.bind_some, scaleTo_at, Int.mul_comm, wr_sm (by omega), n_l2Mod hp (by omega), Option.bind_some, Option.bind_some, setT hN hk hx, wr_suc hx (by omega), scale_step]
   ·unfold m_spec_l4Reduce_L4
    simp only
    rw [dnl (Nat.le_refl _), cond_false]
    congr 2
    exact tabM_congr fun a b ha hb => by simp only [scaleTo]; rw [if_pos hb]
  ·congr 1
  ·unfold m_spec_l4Reduce_L3
   simp only
   rw [dlt hx, cond_true, atT hN hk hx, Option.bind_some, atT hN hrm hx, Option.bind_some, Option.bind_some, setT hN hk hx, atT hN hrm hx, Option.bind_some, setT hN hrm hx, swapTo_at, swapTo_at, wr_suc hx (by omega), swap_step]
  ·unfold m_spec_l4Reduce_L3
   simp only
   rw [dnl (Nat.le_refl _), cond_false]
   congr 2
   exact tabM_congr fun a b ha hb => by simp only [swapTo]; rw [if_pos hb]
theorem n_specReduce {p : Int} {m n : Nat} {F : Nat → Nat → Int} (T : Tb p m n F) : m_spec_l4Reduce p ⟨m, n, tabM m n F⟩ = some (⟨m, n, tabM m n (redUp p m F n).1⟩, castL (redUp p m F n).2) := by
 have hN := T.hN
 have hn := T.hn
 unfold m_spec_l4Reduce m_spec_l3Copy
 simp only
 rw [tabM_len, decide_eq_true (by simp; omega), cond_true, Option.bind_some]
 simp only [List.nil_append]
 obtain ⟨r, h1, h2⟩ : ∃ r, Lp (m_spec_l4Reduce_L1 p ⟨m, n, tabM m n F⟩) (0, tabM m n F, [], 0) = some r ∧ r = (tabM m n (redUp p m F n).1, castL (redUp p m F n).2) := by
  refine Lp_meas (fun s => ∃ j : Nat, j ≤ n ∧ s = ((j : Int), tabM m n (redUp p m F j).1, castL (redUp p m F j).2, ((redUp p m F j).2.length : Int))) (fun s => n - s.1.toNat) _ ⟨0, Nat.zero_le _, by simp [redUp, castL]⟩ ?_
  rintro s ⟨j, hj, rfl⟩
  rcases Nat.lt_or_ge j n with hlt | hge
  ·have hlen := @redUp_len p m F j
   rcases Nat.lt_or_ge (redUp p m F j).2.length m with hl | hl
   ·refine .inl ⟨_, n_stepS ⟨T.hp, T.hN, T.hm, T.hn, redUp_in (by have := isF_bd T.hp; omega) T.hi j⟩ hlt _ hl _, ⟨j + 1, hlt, rfl⟩, ?_⟩
    simp; omega
   ·refine .inr ⟨_, ?_, rfl⟩
    unfold m_spec_l4Reduce_L1
    simp only
    have e := redUp_full (p := p) (F := F) (j := j) (by omega : (redUp p m F j).2.length = m) (n - j)
    rw [show j + (n - j) = n by omega] at e
    rw [dlt hlt, cond_true, dnl hl, cond_false, e]
  ·have e : j = n := by omega
   subst e
   refine .inr ⟨_, ?_, rfl⟩
   unfold m_spec_l4Reduce_L1
   simp only
   rw [dnl (Nat.le_refl _), cond_false]
 rw [h1, h2, Option.bind_some]
end Go.Proofs.Ytdhjmmnjapkmkaa
end

section
set_option linter.unusedVariables false
set_option linter.unusedSimpArgs false

namespace Go.Proofs.Ytdhjmmnjapkmkaa
open Go.RowKit
set_option linter.unusedVariables false
set_option linter.unusedSimpArgs false
set_option maxRecDepth 10000
set_option maxHeartbeats 4000000

end Go.Proofs.Ytdhjmmnjapkmkaa
end

section
set_option linter.unusedVariables false
set_option linter.unusedSimpArgs false

namespace Go.Proofs.Ytdhjmmnjapkmkaa
open Go.RowKit
set_option linter.unusedVariables false
set_option linter.unusedSimpArgs false
set_option maxRecDepth 10000
set_option maxHeartbeats 4000000

end Go.Proofs.Ytdhjmmnjapkmkaa
end

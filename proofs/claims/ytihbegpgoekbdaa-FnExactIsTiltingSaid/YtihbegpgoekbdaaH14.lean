/-
  Several texts of the claim in one: each begins with its own remark.
-/
import Derived.Test.YtihbegpgoekbdaaH13
section
set_option linter.unusedVariables false
set_option linter.unusedSimpArgs false
/-
  Models and contracts of functions, made by the extractor (ex.py).
-/
namespace Go.Proofs.Ytihbegpgoekbdaa
open Go.RowKit
set_option linter.unusedVariables false
set_option linter.unusedSimpArgs false
set_option maxRecDepth 10000
set_option maxHeartbeats 4000000

noncomputable def m_laws_FnExactIsTilting (a0 : Qv) (a1 : (List (List Int))) : Option Bool :=
  Option.bind (m_laws_szQuiver a0 1048576) fun v1 =>
  bif decide (v1 < 0) then
    (some (true))
  else
    (Option.bind (m_laws_szIntSS a1 v1) fun v3 =>
    bif decide (v3 < 0) then
      (some (true))
    else
      (Option.bind (m_laws_toQuiver a0) fun v5 =>
      Option.bind (m_laws_toIntSS a1) fun v6 =>
      Option.bind (m_spec_IsTilting v5 v6) fun v7 =>
      Option.bind (m_laws_toQuiver a0) fun v8 =>
      Option.bind (m_laws_toIntSS a1) fun v9 =>
      Option.bind (m_impl_IsTilting v8 v9) fun v10 =>
      bif !(v10 == v7) then
        (some (false))
      else
        (Option.bind (m_laws_toQuiver a0) fun v12 =>
        Option.bind (m_laws_eqQuiver v8 v12) fun v13 =>
        bif !v13 then
          (some (false))
        else
          (Option.bind (m_laws_toIntSS a1) fun v15 =>
          Option.bind (m_laws_eqIntSS v9 v15) fun v16 =>
          bif !v16 then
            (some (false))
          else
            (some (true))))))

theorem c_laws_FnExactIsTilting (a0 : Qv) (a1 : (List (List Int))) (r : Bool) (h : m_laws_FnExactIsTilting a0 a1 = some r) : HasC Try.prog 8 [.agg (eQ a0), .list 1 (List.map (eLs 1 eI) a1)] (.bl r) := by
 refine hasC_mk TT_ok (rvs := [.tmp 4]) (ns := [0, 1, 2, 3, 4, 5, 6, 7, 8, 9, 10, 11, 12]) Try.func8 k k Try.ntmps8 k k k <| sQ <| rg <| ae (w_box k k k k) k <| ae (eff_assign k) k <| an <| tn <| sQ <| rg <| ae (eff_assign k) k ?_
 refine an <| tn <| sQ <| rg <| ae (w_load_ptr TT_ok k k k k k k k) k <| ae (eff_move k) k ?_
 obtain ⟨v1, hv1, h⟩ := ob h
 refine ae (w_call0s (c_laws_szQuiver a0 1048576 v1 hv1) k (va_cons (va_agg' (v1_cons (v1_same k) (v1_cons (v1_same k) (v1_cons (v1_same k) v1_nil)))) (va_cons (va_same k) va_nil))) k <| ae (eff_assign k) k <| an <| tn <| sQ <| sQ <| rg <| ae (eff_move k) k <| ae (w_cmp k k k) k <| an ?_
 refine tn ?_
 rcases cb h with ⟨q2, h⟩ | ⟨q2, h⟩
 ·refine ac_condT k q2 <| sQ <| rg <| ae (eff_assign k) k <| an <| tn <| ac_ret <| then_ret ?_
  obtain rfl := so h
  exact ret_mk k k k (fz_bl k)
 ·refine ac_condF k q2 <| ac_skip <| tn <| sQ <| rg <| ae (eff_move k) k <| ae (eff_move k) k ?_
  obtain ⟨v3, hv3, h⟩ := ob h
  refine ae (w_call0s (c_laws_szIntSS a1 v1 v3 hv3) k (va_cons (va_same k) (va_cons (va_same k) va_nil))) k <| ae (eff_assign k) k <| an <| tn <| ac_ent (t := mkS [(1, .list 1 (List.map (eLs 1 eI) a1)), (2, .ptr 0 0 0), (5, .int v3)] [(0, ⟨3, [[.int a0.n, .list 1 (List.map eI a0.src), .list 1 (List.map eI a0.tgt)]]⟩)] 1 [1, 2, 3, 4, 5, 6, 7, 8, 9, 10, 11, 12]) (ent_mk (σ := sg [(0, 0)]) ⟨⟨_, k, ⟨k, k⟩⟩, ⟨_, k, ⟨k, k, k, k⟩⟩, (e1 k k), trivial⟩ ⟨⟨_, k, k, .inl ⟨k, plain_of k⟩⟩, k, trivial⟩ k) <| sQ <| sQ <| rg <| ae (eff_move k) k <| ae (w_cmp k k k) k ?_
  refine an <| tn ?_
  rcases cb h with ⟨q4, h⟩ | ⟨q4, h⟩
  ·refine ac_condT k q4 <| sQ <| rg <| ae (eff_assign k) k <| an <| tn <| ac_ret <| then_ret ?_
   obtain rfl := so h
   exact ret_mk k k k (fz_bl k)
  ·refine ac_condF k q4 <| ac_skip <| tn <| sQ <| rg <| ae (w_load_ptr TT_ok k k k k k k k) k ?_
   obtain ⟨v5, hv5, h⟩ := ob h
   refine ae (AEff.conv (w_call0 (x := .agg [.int v5.n, .own 1 0 (List.map eI v5.src).length, .own 2 0 (List.map eI v5.tgt).length]) (nb := [(1, ⟨1, absEs (List.map eI v5.src)⟩), (2, ⟨1, absEs (List.map eI v5.tgt)⟩)]) (c_laws_toQuiver a0 v5 hv5) k (by rfl) k k (g1_cons trivial (g1_cons (okI.good _) (g1_cons (okI.good _) g1_nil))) (va_cons (va_agg' (v1_cons (v1_same k) (v1_cons (v1_same k) (v1_cons (v1_same k) v1_nil)))) va_nil)) (v' := .agg [.int v5.n, .own 1 0 v5.src.length, .own 2 0 v5.tgt.length]) (ed' := [(1, some ⟨1, List.map (ow eI) v5.src⟩), (2, some ⟨1, List.map (ow eI) v5.tgt⟩)]) (by simp only [len_map]) (ed_ok (nb' := [(1, ⟨1, List.map (ow eI) v5.src⟩), (2, ⟨1, List.map (ow eI) v5.tgt⟩)]) (by simp only [abs_map]))) k <| ae (eff_move k) k ?_
   obtain ⟨v6, hv6, h⟩ := ob h
   refine ae (AEff.conv (w_call0 (x := .own 3 0 (List.map (eLs 1 eI) v6).length) (nb := [(3, ⟨1, absEs (List.map (eLs 1 eI) v6)⟩)]) (c_laws_toIntSS a1 v6 hv6) k (by rfl) k k (okLs.good _) (va_cons (va_same k) va_nil)) (v' := .own 3 0 v6.length) (ed' := [(3, some ⟨1, List.map (ow (eLs 1 eI)) v6⟩)]) (by simp only [len_map]) (ed_ok (nb' := [(3, ⟨1, List.map (ow (eLs 1 eI)) v6⟩)]) (by simp only [abs_map]))) k ?_
   obtain ⟨v7, hv7, h⟩ := ob h
   refine ae (w_call0s (c_spec_IsTilting v5 v6 v7 hv7) k (va_cons (va_agg' (v1_cons (v1_same k) (v1_cons (v1_T okI k k) (v1_cons (v1_T okI k k) v1_nil)))) (va_cons (va_T okLs k k) va_nil))) k <| ae (eff_assign k) k <| an <| tn <| sQ <| rg <| ae (w_load_ptr TT_ok k k k k k k k) k ?_
   obtain ⟨v8, hv8, h⟩ := ob h
   refine ae (AEff.conv (w_call0 (x := .agg [.int v8.n, .own 4 0 (List.map eI v8.src).length, .own 5 0 (List.map eI v8.tgt).length]) (nb := [(4, ⟨1, absEs (List.map eI v8.src)⟩), (5, ⟨1, absEs (List.map eI v8.tgt)⟩)]) (c_laws_toQuiver a0 v8 hv8) k (by rfl) k k (g1_cons trivial (g1_cons (okI.good _) (g1_cons (okI.good _) g1_nil))) (va_cons (va_agg' (v1_cons (v1_same k) (v1_cons (v1_same k) (v1_cons (v1_same k) v1_nil)))) va_nil)) (v' := .agg [.int v8.n, .own 4 0 v8.src.length, .own 5 0 v8.tgt.length]) (ed' := [(4, some ⟨1, List.map (ow eI) v8.src⟩), (5, some ⟨1, List.map (ow eI) v8.tgt⟩)]) (by simp only [len_map]) (ed_ok (nb' := [(4, ⟨1, List.map (ow eI) v8.src⟩), (5, ⟨1, List.map (ow eI) v8.tgt⟩)]) (by simp only [abs_map]))) k <| ae (w_alloc TT_ok k k) k <| ae (w_store TT_ok k k k k k k k k) k <| an <| tn <| ac_ent (t := mkS [(1, .list 1 (List.map (eLs 1 eI) a1)), (2, .ptr 0 0 0), (6, .bl v7), (7, .ptr 6 0 0)] [(0, ⟨3, [[.int a0.n, .list 1 (List.map eI a0.src), .list 1 (List.map eI a0.tgt)]]⟩), (4, ⟨1, List.map (ow eI) v8.src⟩), (5, ⟨1, List.map (ow eI) v8.tgt⟩), (6, ⟨3, [[.int v8.n, .own 4 0 v8.src.length, .own 5 0 v8.tgt.length]]⟩)] 7 [7, 8, 9, 10, 11, 12]) (ent_mk (σ := sg [(0, 0), (4, 4), (5, 5), (6, 6)]) ⟨⟨_, k, ⟨k, k⟩⟩, ⟨_, k, ⟨k, k, k, k⟩⟩, (e1 k k), ⟨_, k, ⟨k, k, k, k⟩⟩, trivial⟩ ⟨⟨_, k, k, .inl ⟨k, plain_of k⟩⟩, k, ⟨_, k, k, .inl ⟨k, okI.plainO _⟩⟩, k, ⟨_, k, k, .inl ⟨k, okI.plainO _⟩⟩, k, ⟨_, k, k, .inr ⟨_, _, k, ⟨_, _, k, k, ⟨_, _, k, ⟨k, k, k, k⟩, ⟨_, _, k, ⟨k, k, k, k⟩, k⟩⟩⟩, k⟩⟩, k, trivial⟩ k) ?_
   refine sQ <| rg <| ae (eff_move k) k ?_
   obtain ⟨v9, hv9, h⟩ := ob h
   refine ae (AEff.conv (w_call0 (x := .own 7 0 (List.map (eLs 1 eI) v9).length) (nb := [(7, ⟨1, absEs (List.map (eLs 1 eI) v9)⟩)]) (c_laws_toIntSS a1 v9 hv9) k (by rfl) k k (okLs.good _) (va_cons (va_same k) va_nil)) (v' := .own 7 0 v9.length) (ed' := [(7, some ⟨1, List.map (ow (eLs 1 eI)) v9⟩)]) (by simp only [len_map]) (ed_ok (nb' := [(7, ⟨1, List.map (ow (eLs 1 eI)) v9⟩)]) (by simp only [abs_map]))) k <| ae (eff_assign k) k <| an <| tn <| sQ <| rg <| ae (w_load_ptr TT_ok k k k k k k k) k <| ae (eff_move k) k ?_
   obtain ⟨v10, hv10, h⟩ := ob h
   refine ae (w_call0s (c_impl_IsTilting v8 v9 v10 hv10) k (va_cons (va_agg' (v1_cons (v1_same k) (v1_cons (v1_T okI k k) (v1_cons (v1_T okI k k) v1_nil)))) (va_cons (va_T okLs k k) va_nil))) k <| ae (eff_assign k) k <| an <| tn <| sQ <| sQ <| rg <| ae (eff_move k) k <| ae (eff_move k) k <| ae (w_neqB (by kernel_rfl) k k) k ?_
   refine an <| tn ?_
   rcases cb h with ⟨q11, h⟩ | ⟨q11, h⟩
   ·refine ac_condT k q11 <| sQ <| rg <| ae (eff_assign k) k <| an <| tn <| ac_ret <| then_ret ?_
    obtain rfl := so h
    exact ret_mk k k k (fz_bl k)
   ·refine ac_condF k q11 <| ac_skip <| tn <| sQ <| sQ <| ac_region_draw MIXX <| ae (w_load_ptr TT_ok k k k k k k k) k <| ae (w_load_ptr TT_ok k k k k k k k) k ?_
    obtain ⟨v12, hv12, h⟩ := ob h
    refine ae (AEff.conv (w_call0 (x := .agg [.int v12.n, .own 8 0 (List.map eI v12.src).length, .own 9 0 (List.map eI v12.tgt).length]) (nb := [(8, ⟨1, absEs (List.map eI v12.src)⟩), (9, ⟨1, absEs (List.map eI v12.tgt)⟩)]) (c_laws_toQuiver a0 v12 hv12) k (by rfl) k k (g1_cons trivial (g1_cons (okI.good _) (g1_cons (okI.good _) g1_nil))) (va_cons (va_agg' (v1_cons (v1_same k) (v1_cons (v1_same k) (v1_cons (v1_same k) v1_nil)))) va_nil)) (v' := .agg [.int v12.n, .own 8 0 v12.src.length, .own 9 0 v12.tgt.length]) (ed' := [(8, some ⟨1, List.map (ow eI) v12.src⟩), (9, some ⟨1, List.map (ow eI) v12.tgt⟩)]) (by simp only [len_map]) (ed_ok (nb' := [(8, ⟨1, List.map (ow eI) v12.src⟩), (9, ⟨1, List.map (ow eI) v12.tgt⟩)]) (by simp only [abs_map]))) k ?_
    obtain ⟨v13, hv13, h⟩ := ob h
    refine ae (w_call0s (c_laws_eqQuiver v8 v12 v13 hv13) k (va_cons (va_agg' (v1_cons (v1_same k) (v1_cons (v1_T okI k k) (v1_cons (v1_T okI k k) v1_nil)))) (va_cons (va_agg' (v1_cons (v1_same k) (v1_cons (v1_T okI k k) (v1_cons (v1_T okI k k) v1_nil)))) va_nil))) k <| ae (w_not k) k <| an ?_
    refine ⟨by kernel_rfl, ?_⟩
    refine tn <| ac_ent (t := mkS [(1, .list 1 (List.map (eLs 1 eI) a1)), (8, .own 7 0 v9.length), (39, .bl (!v13))] [(7, ⟨1, List.map (ow (eLs 1 eI)) v9⟩)] 10 [10, 11, 12]) (ent_mk (σ := sg [(7, 7)]) ⟨⟨_, k, ⟨k, k⟩⟩, ⟨_, k, ⟨k, k, k, k⟩⟩, (e1 k k), trivial⟩ ⟨⟨_, k, k, .inl ⟨k, okLs.plainO _⟩⟩, k, trivial⟩ k) ?_
    rcases cb h with ⟨q14, h⟩ | ⟨q14, h⟩
    ·refine ac_condT k q14 <| sQ <| rg <| ae (eff_assign k) k <| an <| tn <| ac_ret <| then_ret ?_
     obtain rfl := so h
     exact ret_mk k k k (fz_bl k)
    ·refine ac_condF k q14 <| ac_skip <| tn <| sQ <| sQ <| rg <| ae (eff_move k) k <| ae (eff_move k) k ?_
     obtain ⟨v15, hv15, h⟩ := ob h
     refine ae (AEff.conv (w_call0 (x := .own 10 0 (List.map (eLs 1 eI) v15).length) (nb := [(10, ⟨1, absEs (List.map (eLs 1 eI) v15)⟩)]) (c_laws_toIntSS a1 v15 hv15) k (by rfl) k k (okLs.good _) (va_cons (va_same k) va_nil)) (v' := .own 10 0 v15.length) (ed' := [(10, some ⟨1, List.map (ow (eLs 1 eI)) v15⟩)]) (by simp only [len_map]) (ed_ok (nb' := [(10, ⟨1, List.map (ow (eLs 1 eI)) v15⟩)]) (by simp only [abs_map]))) k ?_
     obtain ⟨v16, hv16, h⟩ := ob h
     refine ae (w_call0s (c_laws_eqIntSS v9 v15 v16 hv16) k (va_cons (va_T okLs k k) (va_cons (va_T okLs k k) va_nil))) k <| ae (w_not k) k <| an <| tn ?_
     rcases cb h with ⟨q17, h⟩ | ⟨q17, h⟩
     ·refine ac_condT k q17 <| sQ <| rg <| ae (eff_assign k) k <| an <| tn <| ac_ret <| then_ret ?_
      obtain rfl := so h
      exact ret_mk k k k (fz_bl k)
     ·refine ac_condF k q17 <| ac_skip <| tn <| sQ <| rg <| ae (eff_assign k) k <| an <| tn <| ac_ret ?_
      obtain rfl := so h
      exact ret_mk k k k (fz_bl k)

end Go.Proofs.Ytihbegpgoekbdaa
end

section
set_option linter.unusedVariables false
set_option linter.unusedSimpArgs false
/-
  Roots of a quiver and their forms: the laws RootExt, RootHom, AreCompatible, IsTilting.
-/
namespace Go.Proofs.Ytihbegpgoekbdaa
open Go.RowKit
set_option linter.unusedVariables false

theorem n_pos {q : Qv} (hb : bQ q) : ∃ L b, m_impl_PositiveRoots q = some (L, b) ∧ m_spec_PositiveRoots q = some (L, b) ∧ ((b = false ∧ L = []) ∨ (b = true ∧ ∃ n, Fin1 q n ∧ L = rootsL q n)) := by
  by_cases hv : quivV q = true
  · obtain ⟨n, Q⟩ := qok hb hv
    by_cases hk : kindR n (matQ q n) (2 ^ n - 1) 1 1 = 1
    · obtain ⟨F, G⟩ := fin_form Q fun t h1 h2 => kindR_one hk t h1 (by omega)
      have H : Fin1 q n := ⟨Q, F, G⟩
      refine ⟨rootsL q n, true, ?_, ?_, .inr ⟨rfl, n, H, rfl⟩⟩
      · unfold m_impl_PositiveRoots
        rw [n_implKind Q, Option.bind_some, hk, decide_eq_true rfl, Bool.not_true, cond_false, n_implRoots H, Option.bind_some]
        rfl
      · unfold m_spec_PositiveRoots
        rw [n_specKind Q, Option.bind_some, hk, decide_eq_true rfl, Bool.not_true, cond_false, n_specSym Q, Option.bind_some]
        exact n_specRoots H
    · refine ⟨[], false, ?_, ?_, .inl ⟨rfl, rfl⟩⟩
      · unfold m_impl_PositiveRoots
        rw [n_implKind Q, Option.bind_some, decide_eq_false hk, Bool.not_false, cond_true]
      · unfold m_spec_PositiveRoots
        rw [n_specKind Q, Option.bind_some, decide_eq_false hk, Bool.not_false, cond_true]
  · have hv' : quivV q = false := by simpa using hv
    refine ⟨[], false, ?_, ?_, .inl ⟨rfl, rfl⟩⟩
    · unfold m_impl_PositiveRoots m_impl_KindOfQuiver
      rw [n_implQ hb, hv', Option.bind_some]
      rfl
    · unfold m_spec_PositiveRoots m_spec_KindOfQuiver
      rw [n_specQ hb, hv', Option.bind_some]
      rfl
theorem n_IndexFuncL {v : List (List Int)} {f : List Int → Option Bool} (P : List Int → Bool) (hf : ∀ x ∈ v, f x = some (P x)) (h : v.length ≤ 1048576) : ∃ i : Int, m_slices_IndexFunc_LLint_Lint v f = some i ∧ decide (0 ≤ i) = v.any P := by
  unfold m_slices_IndexFunc_LLint_Lint
  rw [Lp_search (s0 := 0) (s := 0) (n := v.length) (fun k => bif P (v[k]?.getD []) then some (k : Int) else none) rfl (by omega) (Nat.zero_le _) (fun k _ hk => ?_) (fun _ => ?_)]
  · rw [Option.bind_some]
    cases e : (List.range' 0 (v.length - 0)).findSome? (fun k : Nat => bif P (v[k]?.getD []) then some (k : Int) else none) with
    | none =>
      refine ⟨-1, rfl, ?_⟩
      rw [List.findSome?_eq_none_iff] at e
      have : v.any P = false := by
        rw [List.any_eq_false]
        intro x hx
        obtain ⟨k, hk, rfl⟩ := List.mem_iff_getElem.1 hx
        have := e k (by simp; omega)
        simp only [List.getElem?_eq_getElem hk, Option.getD_some] at this
        cases hp : P v[k] with
        | false => simp
        | true => rw [hp] at this; cases this
      rw [this]; rfl
    | some i =>
      refine ⟨i, rfl, ?_⟩
      obtain ⟨k, hk, he⟩ := List.exists_of_findSome?_eq_some e
      simp at hk
      have hkl : k < v.length := by omega
      rw [List.getElem?_eq_getElem hkl] at he
      simp only [Option.getD_some] at he
      cases hp : P v[k] with
      | false => rw [hp] at he; cases he
      | true =>
        rw [hp] at he
        cases he
        rw [decide_eq_true (by omega), eq_comm, List.any_eq_true]
        exact ⟨_, List.getElem_mem hkl, hp⟩
  · unfold m_slices_IndexFunc_LLint_Lint_L1
    rw [dlt hk, cond_true, atG [] hk, Option.bind_some, hf _ (by rw [List.getElem?_eq_getElem hk]; exact List.getElem_mem hk), Option.bind_some]
    cases P _ <;> rfl
  · unfold m_slices_IndexFunc_LLint_Lint_L1
    rw [dnl (Nat.le_refl _), cond_false]
theorem n_isRoot {q : Qv} (hb : bQ q) (x : List Int) : ∃ b, m_impl_IsRoot q x = some b ∧ m_spec_IsRoot q x = some b ∧ (b = true → ∃ n, Fin1 q n ∧ RtQ q n x) := by
  obtain ⟨L, b, h1, h2, h3⟩ := n_pos hb
  have hL : (∀ r ∈ L, bI r) ∧ L.length ≤ 1000 := by
    rcases h3 with ⟨_, rfl⟩ | ⟨_, n, H, rfl⟩
    · exact ⟨fun r hr => (by cases hr), by simp⟩
    · refine ⟨fun r hr => ?_, by have := rootsL_len H; omega⟩
      have := (H.vec ((mem_rootsL H r).1 hr)).1.1
      unfold bI; omega
  obtain ⟨i, g1, g2⟩ := n_IndexFuncL (f := fun b0 => m_impl_rootIndex_1 b0 x) (fun r => decide (r = x)) (fun r hr => by simp only [m_impl_rootIndex_1]; rw [n_SlEqual (hL.1 r hr), Option.bind_some]) (by omega : L.length ≤ 1048576)
  have hany : (L.any fun r => decide (r = x)) = decide (x ∈ L) := by
    rw [Bool.eq_iff_iff, List.any_eq_true, decide_eq_true_eq]
    exact ⟨fun ⟨r, hr, h⟩ => by rw [decide_eq_true_eq] at h; exact h ▸ hr, fun h => ⟨x, h, by simp⟩⟩
  refine ⟨decide (x ∈ L), ?_, ?_, fun h => ?_⟩
  · unfold m_impl_IsRoot m_impl_rootIndex
    rw [h1, Option.bind_some]
    simp only
    rw [g1, Option.bind_some, Option.bind_some, g2, hany]
  · unfold m_spec_IsRoot
    rw [h2, Option.bind_some]
    simp only
    rcases h3 with ⟨rfl, rfl⟩ | ⟨rfl, _⟩
    · simp
    · rw [cond_true, n_l20Has hL.1 hL.2, Option.bind_some]
  · rw [decide_eq_true_eq] at h
    rcases h3 with ⟨_, rfl⟩ | ⟨_, n, H, rfl⟩
    · cases h
    · exact ⟨n, H, (mem_rootsL H x).1 h⟩
theorem n_rootEul {q : Qv} {x y : List Int} {n m : Nat} (H : Fin1 q n) (hx : RtQ q n x) (H' : Fin1 q m) (hy : RtQ q m y) : ∃ e, m_impl_euler q x y = some e ∧ m_spec_EulerForm q x y = some e := by
  have hnm : n = m := by have h1 := H.Q.n0; have h2 := H'.Q.n0; omega
  subst hnm
  obtain ⟨h1, h2⟩ := H.vec hx
  obtain ⟨h3, h4⟩ := H.vec hy
  exact ⟨_, n_implEul H.Q h2 h4 h1.sm h3.sm, n_specEul H.Q h2 h4 h1.sm h3.sm⟩
theorem n_rootExt {q : Qv} (hb : bQ q) (x y : List Int) : ∃ z, m_impl_RootExt q x y = some z ∧ m_spec_RootExt q x y = some z := by
  obtain ⟨b1, h1, h2, h3⟩ := n_isRoot hb x
  obtain ⟨b2, k1, k2, k3⟩ := n_isRoot hb y
  unfold m_impl_RootExt m_spec_RootExt
  rw [h1, h2, k1, k2]
  cases b1 with
  | false => exact ⟨-1, rfl, rfl⟩
  | true =>
    cases b2 with
    | false => exact ⟨-1, rfl, rfl⟩
    | true =>
      obtain ⟨n, H, hx⟩ := h3 rfl
      obtain ⟨m, H', hy⟩ := k3 rfl
      obtain ⟨e, e1, e2⟩ := n_rootEul H hx H' hy
      refine ⟨max (wr (-e)) 0, ?_, ?_⟩
      · simp only [Option.bind_some, Bool.not_true, cond_false]
        rw [e1, Option.bind_some]
      · simp only [Option.bind_some, Bool.not_true, cond_false]
        rw [e2, Option.bind_some, Int.max_comm]
theorem n_compat {q : Qv} (hb : bQ q) (x y : List Int) : ∃ z, m_impl_AreCompatible q x y = some z ∧ m_spec_AreCompatible q x y = some z := by
  obtain ⟨a, h1, h2⟩ := n_rootExt hb x y
  obtain ⟨b, k1, k2⟩ := n_rootExt hb y x
  unfold m_impl_AreCompatible m_spec_AreCompatible
  rw [h1, h2, k1, k2]
  by_cases c : a = 0
  · exact ⟨decide (b = 0), by simp [c], by simp [c]⟩
  · exact ⟨false, by simp [c], by simp [c]⟩
noncomputable def rootB (q : Qv) (x : List Int) : Bool := (m_spec_IsRoot q x).getD false
noncomputable def compB (q : Qv) (x y : List Int) : Bool := (m_spec_AreCompatible q x y).getD false
theorem n_rootB {q : Qv} (hb : bQ q) (x : List Int) : m_impl_IsRoot q x = some (rootB q x) ∧ m_spec_IsRoot q x = some (rootB q x) := by
  obtain ⟨b, h1, h2, _⟩ := n_isRoot hb x
  unfold rootB
  rw [h1, h2]
  exact ⟨rfl, rfl⟩
theorem n_compB {q : Qv} (hb : bQ q) (x y : List Int) : m_impl_AreCompatible q x y = some (compB q x y) ∧ m_spec_AreCompatible q x y = some (compB q x y) := by
  obtain ⟨b, h1, h2⟩ := n_compat hb x y
  unfold compB
  rw [h1, h2]
  exact ⟨rfl, rfl⟩
noncomputable def tiltP (q : Qv) (l : List (List Int)) (i : Nat) : Bool := rootB q (l[i]?.getD []) && (List.range i).all fun k => !decide (l[i]?.getD [] = l[k]?.getD []) && compB q (l[i]?.getD []) (l[k]?.getD [])
theorem n_implTilt {q : Qv} (hb : bQ q) {l : List (List Int)} (hl : l.length ≤ 1048576 ∧ ∀ r ∈ l, bI r) : m_impl_IsTilting q l = some (quivV q && (decide ((l.length : Int) = q.n) && (List.range l.length).all (tiltP q l))) := by
  obtain ⟨hl, hr⟩ := hl
  unfold m_impl_IsTilting
  rw [n_implQ hb, Option.bind_some]
  cases quivV q with
  | false => rfl
  | true =>
    rw [Bool.not_true, cond_false, Bool.true_and]
    by_cases c : (l.length : Int) = q.n
    · rw [decide_eq_true c, Bool.not_true, cond_false, Bool.true_and]
      rw [Lp_all (tiltP q l) false (n := l.length) (by omega) (fun i hi => ?_) (fun _ => ?_), Option.bind_some]
      · cases (List.range l.length).all (tiltP q l) <;> rfl
      · unfold m_impl_IsTilting_L1
        rw [dlt hi, cond_true, atG [] hi, Option.bind_some, (n_rootB hb _).1, Option.bind_some]
        unfold tiltP
        cases rootB q (l[i]?.getD []) with
        | false => rfl
        | true =>
          rw [Bool.not_true, cond_false, Bool.true_and, show (decide ((0 : Nat) ≤ 0) && (decide ((0 : Int) ≤ (i : Int)) && decide ((i : Int) ≤ (l.length : Int)))) = true by simp; omega, cond_true]
          have e : (l.drop (0 : Int).toNat).take ((i : Int).toNat - (0 : Int).toNat) = l.take i := by simp
          rw [Lp_all (fun k => !decide (l[i]?.getD [] = l[k]?.getD []) && compB q (l[i]?.getD []) (l[k]?.getD [])) false (n := i) (by omega) (fun k hk => ?_) (fun _ => ?_), Option.bind_some]
          · cases (List.range i).all fun k => !decide (l[i]?.getD [] = l[k]?.getD []) && compB q (l[i]?.getD []) (l[k]?.getD []) <;> rfl
          · unfold m_impl_IsTilting_L2
            rw [e]
            have hlen : (l.take i).length = i := by simp; omega
            have hg : (l.take i)[k]? = l[k]? := List.getElem?_take_of_lt hk
            rw [hlen, dlt hk, cond_true, atG [] (by omega), Option.bind_some, hg, n_SlEqual (hr _ (by rw [List.getElem?_eq_getElem hi]; exact List.getElem_mem hi)), Option.bind_some]
            cases decide (l[i]?.getD [] = l[k]?.getD []) with
            | true => rfl
            | false =>
              rw [cond_false, (n_compB hb _ _).1, Option.bind_some]
              cases compB q (l[i]?.getD []) (l[k]?.getD []) <;> rfl
          · unfold m_impl_IsTilting_L2
            have hlen : (l.take i).length = i := by simp; omega
            rw [e, hlen, dnl (Nat.le_refl _), cond_false]
      · unfold m_impl_IsTilting_L1
        rw [dnl (Nat.le_refl _), cond_false]
    · rw [decide_eq_false c, Bool.not_false, cond_true, Bool.false_and]
theorem n_specTilt {q : Qv} (hb : bQ q) {l : List (List Int)} (hl : l.length ≤ 1048576 ∧ ∀ r ∈ l, bI r) : m_spec_IsTilting q l = some (quivV q && (decide ((l.length : Int) = q.n) && (List.range l.length).all (tiltP q l))) := by
  obtain ⟨hl, hr⟩ := hl
  unfold m_spec_IsTilting
  rw [n_specQ hb, Option.bind_some]
  cases quivV q with
  | false => rfl
  | true =>
    rw [Bool.not_true, cond_false, Bool.true_and]
    by_cases c : (l.length : Int) = q.n
    · rw [decide_eq_true c, Bool.not_true, cond_false, Bool.true_and]
      rw [Lp_all (tiltP q l) false (n := l.length) (by omega) (fun i hi => ?_) (fun _ => ?_), Option.bind_some]
      · cases (List.range l.length).all (tiltP q l) <;> rfl
      · unfold m_spec_IsTilting_L1
        rw [dlt hi, cond_true, atG [] hi, Option.bind_some, (n_rootB hb _).2, Option.bind_some]
        unfold tiltP
        cases rootB q (l[i]?.getD []) with
        | false => rfl
        | true =>
          rw [Bool.not_true, cond_false, Bool.true_and]
          rw [Lp_all (fun k => !decide (l[i]?.getD [] = l[k]?.getD []) && compB q (l[i]?.getD []) (l[k]?.getD [])) false (n := i) (by omega) (fun k hk => ?_) (fun _ => ?_), Option.bind_some]
          · cases (List.range i).all fun k => !decide (l[i]?.getD [] = l[k]?.getD []) && compB q (l[i]?.getD []) (l[k]?.getD []) <;> rfl
          · unfold m_spec_IsTilting_L2
            rw [dlt hk, cond_true, atG [] hi, Option.bind_some, atG [] (by omega), Option.bind_some, n_l6Same (hr _ (by rw [List.getElem?_eq_getElem hi]; exact List.getElem_mem hi)), Option.bind_some]
            cases decide (l[i]?.getD [] = l[k]?.getD []) with
            | true => rfl
            | false =>
              rw [cond_false, Option.bind_some, Option.bind_some, (n_compB hb _ _).2, Option.bind_some]
              cases compB q (l[i]?.getD []) (l[k]?.getD []) <;> rfl
          · unfold m_spec_IsTilting_L2
            rw [dnl (Nat.le_refl _), cond_false]
      · unfold m_spec_IsTilting_L1
        rw [dnl (Nat.le_refl _), cond_false]
    · rw [decide_eq_false c, Bool.not_false, cond_true, Bool.false_and]

/-! ## the laws -/
theorem plain_IsTilting {q : Qv} {l : List (List Int)} (fq : fQ q) (fl : fLs l) : m_laws_FnExactIsTilting q l = some true := by
  unfold m_laws_FnExactIsTilting
  rw [mz_Q fq (by decide) (by decide), Option.bind_some]
  rcases falls_Q q 1048576 (by decide) (by decide) with e | ⟨e1, e2, hb⟩
  · rw [e]; rfl
  · rw [decide_eq_false (by omega), cond_false, mz_Ls fl e1 (by omega), Option.bind_some]
    rcases falls_S falls_Row l _ e1 (by omega) with e | ⟨e3, e4, hl⟩
    · rw [e]; rfl
    · rw [decide_eq_false (by omega), cond_false]
      simp only [mt_Q hb, mt_Ls hl, Option.bind_some, n_specTilt hb hl, n_implTilt hb hl, me_Q hb, me_Ls hl, decide_true, beq_self_eq_true, Bool.not_true, cond_false]
end Go.Proofs.Ytihbegpgoekbdaa
end

/-
  Several texts of the claim in one: each begins with its own remark.
-/
import Derived.Test.YtdhjmmnjapkmkaaGreatH9
section
set_option linter.unusedVariables false
set_option linter.unusedSimpArgs false

namespace Go.Proofs.YtdhjmmnjapkmkaaGreat
open Go.RowKit
set_option linter.unusedVariables false
set_option linter.unusedSimpArgs false
set_option maxRecDepth 10000
set_option maxHeartbeats 4000000

noncomputable def m_laws_markIntS_L1  (x1 : ((List Int) × Int × Int)) : Option (((List Int) × Int × Int) ⊕ ((List Int) × Int)) :=
  bif decide (x1.2.2 < ((x1.1.length : Nat) : Int)) then
    (Option.bind (atL x1.1 x1.2.2) fun v2 =>
    some (.inl ((x1.1.set x1.2.2.toNat x1.2.1), wr (x1.2.1 + 1), wr (x1.2.2 + 1))))
  else
    (some (.inr (x1.1, x1.2.1)))

noncomputable def m_laws_markIntS (a0 : (List Int)) (a1 : Int) : Option ((List Int) × Int) :=
  Option.bind (Lp m_laws_markIntS_L1 (a0, a1, 0)) fun y3 =>
  some (y3.1, y3.2)

theorem c_laws_markIntS (a0 : (List Int)) (a1 : Int) (r : ((List Int) × Int)) (h : m_laws_markIntS a0 a1 = some r) : HasE Tryz.prog 30 [.own 0 0 a0.length, .int a1] [(0, ⟨1, List.map (ow eI) a0⟩)] 1 (.int r.2) [(0, ⟨1, List.map (ow eI) r.1⟩)] := by
 refine hasE_mk TT_ok (rvs := [.tmp 4]) (ns := [1, 2]) Tryz.func30 k k Tryz.ntmps30 k k <| sQ <| rg <| aa k k <| an <| tn <| sQ <| sQ <| rg <| aa k k ?_
 refine an <| tn <| ac_block ?_
 obtain ⟨y3, hy3, h⟩ := ob h
 refine ac_Lp (body := m_laws_markIntS_L1) hy3 (fun (x1 : ((List Int) × Int × Int)) => mkS [(0, .own 0 0 x1.1.length), (1, .int x1.2.1), (5, .int x1.2.2)] [(0, ⟨1, List.map (ow eI) x1.1⟩)] 1 [1, 2] 1) (fun r e t => e = .exit 0 ∧ Ent t (mkS [(1, .int r.2)] [(0, ⟨1, List.map (ow eI) r.1⟩)] 1 [1, 2] 1)) (ent_mk (σ := sg [(0, 0)]) ⟨(oE k k), (e1 k k), (e1 k k), trivial⟩ (hI k k k <| trivial) k) ?_ ?_
 ·intro x1 o h
  refine sQ <| sQ <| rg <| am k k <| am k k <| ae (w_len_own TT_ok k k k k) k <| ae (w_cmp k k k) k <| an <| tn ?_
  rcases cb h with ⟨q1, h⟩ | ⟨q1, h⟩
  ·refine ac_condT k q1 <| ac_skip <| tn <| sQ <| ac_block <| sQ <| rg <| am k k <| am k k <| am k k ?_
   obtain ⟨v2, hv2, h⟩ := ob h
   refine ae (x_at_own TT_ok (atL_nn hv2) (atL_lt hv2) k k k k k k k) k <| ae (x_store TT_ok okIo (u := x1.2.1) (atL_get hv2) k k k k k k) k <| an <| tn <| rg <| am k k <| ae (x_add k k) k <| aa k k <| an <| block_n ?_
   refine tn <| ac_ent (t := mkS [(0, .own 0 0 ((x1.1.set x1.2.2.toNat x1.2.1).length)), (1, .int (wr (x1.2.1 + 1))), (5, .int x1.2.2)] [(0, ⟨1, List.map (ow eI) (x1.1.set x1.2.2.toNat x1.2.1)⟩)] 1 [1, 2] 1) (ent_mk (σ := sg [(0, 0)]) ⟨⟨_, k, ⟨k, k, (by simp only [len_map, lA, lT, lR, lC, lN]), k⟩⟩, (e1 k k), (e1 k k), trivial⟩ (hI k k k <| trivial) k) <| rg <| am k k <| ae (x_add k k) k <| aa k k <| an <| tn ?_
   obtain rfl := so h
   exact ⟨_, k, (ent_mk (σ := sg [(0, 0)]) ⟨(oE k k), (e1 k k), (e1 k k), trivial⟩ (hI k k k <| trivial) k)⟩
  ·refine ac_condF k q1 <| ac_exit <| then_exit <| then_exit ?_
   obtain rfl := so h
   exact ⟨_, k, k, (ent_mk (σ := sg [(0, 0)]) ⟨(e1 k k), trivial⟩ (hI k k k <| trivial) k)⟩
 ·rintro e t ⟨rfl, hent⟩
  refine block_here <| tn <| ac_ent hent <| sQ <| rg <| am k k <| aa k k <| an <| tn <| ac_ret ?_
  obtain rfl := so h
  exact ⟨mkS [(4, .int y3.2)] [(0, ⟨1, List.map (ow eI) y3.1⟩)] 1 [1, 2] 1, (ent_mk (σ := sg [(0, 0)]) ⟨(e1 k k), trivial⟩ (hI k k k <| trivial) k), k, ⟨_, k, .inl k⟩, ⟨k, trivial⟩⟩

noncomputable def m_laws_markIntSS_L1  (x1 : ((List (List Int)) × Int × Int)) : Option (((List (List Int)) × Int × Int) ⊕ ((List (List Int)) × Int)) :=
  bif decide (x1.2.2 < ((x1.1.length : Nat) : Int)) then
    (Option.bind (atL x1.1 x1.2.2) fun v2 =>
    Option.bind (m_laws_markIntS v2 x1.2.1) fun v3 =>
    bif decide (v3.1.length = v2.length) then
      (some (.inl ((x1.1.set x1.2.2.toNat v3.1), v3.2, wr (x1.2.2 + 1))))
    else none)
  else
    (some (.inr (x1.1, x1.2.1)))

noncomputable def m_laws_markIntSS (a0 : (List (List Int))) (a1 : Int) : Option ((List (List Int)) × Int) :=
  Option.bind (Lp m_laws_markIntSS_L1 (a0, a1, 0)) fun y5 =>
  some (y5.1, y5.2)

theorem c_laws_markIntSS (a0 : (List (List Int))) (a1 : Int) (r : ((List (List Int)) × Int)) (h : m_laws_markIntSS a0 a1 = some r) : HasT Tryz.prog 65 [.own 0 0 a0.length, .int a1] [(0, ⟨1, List.map (ow (eLs 1 eI)) a0⟩)] 1 (.int r.2) [(0, ⟨1, List.map (ow (eLs 1 eI)) r.1⟩)] := by
 refine hasT_mk TT_ok (rvs := [.tmp 4]) (ns := [1, 2, 3]) Tryz.func65 k k Tryz.ntmps65 k k <| sQ <| rgS <| se (eff_assign k) k <| sn <| tn <| sQ <| sQ <| rgS <| se (eff_assign k) k ?_
 refine sn <| tn <| ac_block ?_
 obtain ⟨y5, hy5, h⟩ := ob h
 refine ac_Lp (body := m_laws_markIntSS_L1) hy5 (fun (x1 : ((List (List Int)) × Int × Int)) => mkS [(0, .own 0 0 x1.1.length), (1, .int x1.2.1), (5, .int x1.2.2)] [(0, ⟨1, List.map (ow (eLs 1 eI)) x1.1⟩)] 1 [1, 2, 3] ⟨1, true, none, true⟩) (fun r e t => e = .exit 0 ∧ Ent t (mkS [(1, .int r.2)] [(0, ⟨1, List.map (ow (eLs 1 eI)) r.1⟩)] 1 [1, 2, 3] ⟨1, true, none, true⟩)) (ent_mk (σ := sg [(0, 0)]) ⟨(oE k k), (e1 k k), (e1 k k), trivial⟩ (hB (okLs.plainO _) k k k <| trivial) k) ?_ ?_
 ·intro x1 o h
  refine sQ <| sQ <| rgS <| se (eff_move k) k <| se (eff_move k) k <| se (w_len_own TT_ok k k k k) k <| se (w_cmp k k k) k <| sn <| tn ?_
  rcases cb h with ⟨q1, h⟩ | ⟨q1, h⟩
  ·refine ac_condT k q1 <| ac_skip <| tn <| sQ <| ac_block <| rgS <| se (eff_move k) k <| se (eff_move k) k ?_
   obtain ⟨v2, hv2, h⟩ := ob h
   refine sops_ent (t := mkS [(0, .own 0 0 x1.1.length), (1, .int x1.2.1), (5, .int x1.2.2), (6, .int x1.2.2), (7, .own 0 0 x1.1.length), (8, .int ((x1.1.length : Nat) : Int)), (9, .bl (decide (x1.2.2 < ((x1.1.length : Nat) : Int)))), (12, .own 0 0 x1.1.length), (13, .int x1.2.2)] [(0, ⟨1, (List.map (ow (eLs 1 eI)) x1.1).set x1.2.2.toNat [.abs 1 (List.map eI v2)]⟩)] 1 [1, 2, 3] ⟨1, true, none, true⟩) (ent_mk (σ := sg [(0, 0)]) ⟨(oE k k), (e1 k k), (e1 k k), (e1 k k), (oE k k), (e1 k k), (e1 k k), (oE k k), (e1 k k), trivial⟩ (hX ⟨_, k, k, .inl ⟨open_row (atL_get hv2), set_plain okLs k⟩⟩ k <| trivial) k) <| sops_ent (ent_openS (b := 0) (c := 1) (i := x1.2.2.toNat) (j := 0) (n := v2.length) (A := List.map (ow (eLs 1 eI)) x1.1) (fs := List.map (ow eI) v2) (by rw [List.length_map]; exact atL_lt hv2) k k k k (len_map _ _) (abs_map _ _) (dfE_ok ⟨k, k, k, k, k, k, k, k, k, trivial⟩) (dfH_ok (skip := []) ⟨.inr (okLs.dfS _ _ _ k), trivial⟩)) <| sops_ent (t := mkS [(0, .own 0 0 x1.1.length), (1, .int x1.2.1), (5, .int x1.2.2), (6, .int x1.2.2), (7, .own 0 0 x1.1.length), (8, .int ((x1.1.length : Nat) : Int)), (9, .bl (decide (x1.2.2 < ((x1.1.length : Nat) : Int)))), (12, .own 0 0 x1.1.length), (13, .int x1.2.2)] [(0, ⟨1, (List.map (ow (eLs 1 eI)) x1.1).set x1.2.2.toNat [.own 1 0 v2.length]⟩), (1, ⟨1, List.map (ow eI) v2⟩)] 2 [2, 3] ⟨1, true, none, true⟩) (ent_mk (σ := sg [(0, 0), (1, 1)]) ⟨(oE k k), (e1 k k), (e1 k k), (e1 k k), (oE k k), (e1 k k), (e1 k k), (oE k k), (e1 k k), trivial⟩ (hX ⟨_, k, k, .inr (ent_set (σ := sg [(0, 0), (1, 1)]) (m := 2) (e := (eLs 1 eI)) (l := x1.1) (i := x1.2.2.toNat) (c := [.own 1 0 v2.length]) (d := [.own 1 0 v2.length]) okLs ⟨_, _, k, ⟨k, k, k, k⟩, k⟩)⟩ k <| hI k k k <| trivial) k) ?_
   refine se (x_at_own TT_ok (atL_nn hv2) (atL_lt hv2) k k k k k k k) k <| se (w_load_ptr TT_ok k k k k (set_at (atL_lt hv2)) k k) k <| se (eff_move k) k ?_
   obtain ⟨v3, hv3, h⟩ := ob h
   refine se (eff_hasE (σ := sg [(0, 1)]) (σ' := sg [(1, 0)]) (touch := [1]) (news := []) (hl2 := [(1, ⟨1, List.map (ow eI) v3.1⟩)]) (n' := 2) (r2 := .int v3.2) (c_laws_markIntS v2 x1.2.1 v3 hv3) k k ⟨_, _, k, ⟨k, k, k, k⟩, ⟨_, _, k, k, k⟩⟩ ⟨⟨_, k, k, .inl ⟨k, okI.plainO _⟩⟩, k, trivial⟩ k k k ⟨⟨_, k, k, .inl ⟨k, okI.plainO _⟩⟩, k, trivial⟩ k k k ⟨k, okI.tame _ _, trivial⟩ k k) k ?_
   obtain ⟨q4, h⟩ := cg h
   refine se (eff_assign k) k <| sn <| block_n <| tn <| rgS <| se (eff_move k) k <| se (x_add k k) k <| se (eff_assign k) k <| sn <| tn ?_
   obtain rfl := so h
   exact ⟨_, k, (Ent.trans (show Ent _ (mkS [(0, .own 0 0 ((x1.1.set x1.2.2.toNat v3.1).length)), (1, .int v3.2), (5, .int (wr (x1.2.2 + 1)))] [(0, ⟨1, List.map (ow (eLs 1 eI)) (x1.1.set x1.2.2.toNat v3.1)⟩)] 2 [2, 3] ⟨1, true, none, true⟩) from (Ent.trans (ent_absS (b := 0) (b' := 1) (j := 0) (es' := List.map eI v3.1) (by rw [List.length_map]; exact atL_lt hv2) k k k k (by simp only [len_map, lA, lT, lR, lC, lN, of_decide_eq_true q4]) (okI.frzs _)) (ent_mk (σ := sg [(0, 0)]) ⟨⟨_, k, ⟨k, k, (by simp only [len_map, lA, lT, lR, lC, lN, of_decide_eq_true q4]), k⟩⟩, (e1 k k), (e1 k k), trivial⟩ (hX ⟨_, k, k, .inl ⟨set_eq v3.1 k, okLs.plainO _⟩⟩ k <| trivial) k))) (ent_mk (σ := sg [(0, 0)]) ⟨(oE k k), (e1 k k), (e1 k k), trivial⟩ (hB (okLs.plainO _) k k k <| trivial) k))⟩
  ·refine ac_condF k q1 <| ac_exit <| then_exit <| then_exit ?_
   obtain rfl := so h
   exact ⟨_, k, k, (ent_mk (σ := sg [(0, 0)]) ⟨(e1 k k), trivial⟩ (hB (okLs.plainO _) k k k <| trivial) k)⟩
 ·rintro e t ⟨rfl, hent⟩
  refine block_here <| tn <| ac_ent hent <| sQ <| rgS <| se (eff_move k) k <| se (eff_assign k) k <| sn <| tn <| ac_ret ?_
  obtain rfl := so h
  exact ⟨mkS [(4, .int y5.2)] [(0, ⟨1, List.map (ow (eLs 1 eI)) y5.1⟩)] 1 [1, 2, 3] ⟨1, true, none, true⟩, (ent_mk (σ := sg [(0, 0)]) ⟨(e1 k k), trivial⟩ (hB (okLs.plainO _) k k k <| trivial) k), k, ⟨_, k, .inl k⟩, ⟨k, trivial⟩⟩

noncomputable def m_laws_markSpaceS_L1  (x1 : ((List Sc) × Int × Int)) : Option (((List Sc) × Int × Int) ⊕ ((List Sc) × Int)) :=
  bif decide (x1.2.2 < ((x1.1.length : Nat) : Int)) then
    (Option.bind (atL x1.1 x1.2.2) fun v2 =>
    Option.bind (m_laws_markIntSS v2.basis (wr (x1.2.1 + 1))) fun v3 =>
    bif decide (v3.1.length = v2.basis.length) then
      (some (.inl ((x1.1.set x1.2.2.toNat (⟨x1.2.1, v3.1⟩ : Sc)), v3.2, wr (x1.2.2 + 1))))
    else none)
  else
    (some (.inr (x1.1, x1.2.1)))

noncomputable def m_laws_markSpaceS (a0 : (List Sc)) (a1 : Int) : Option ((List Sc) × Int) :=
  Option.bind (Lp m_laws_markSpaceS_L1 (a0, a1, 0)) fun y5 =>
  some (y5.1, y5.2)

theorem c_laws_markSpaceS (a0 : (List Sc)) (a1 : Int) (r : ((List Sc) × Int)) (h : m_laws_markSpaceS a0 a1 = some r) : HasT Tryz.prog 34 [.own 0 0 a0.length, .int a1] [(0, ⟨2, List.map (ow eS) a0⟩)] 1 (.int r.2) [(0, ⟨2, List.map (ow eS) r.1⟩)] := by
 refine hasT_mk TT_ok (rvs := [.tmp 4]) (ns := [1, 2, 3]) Tryz.func34 k k Tryz.ntmps34 k k <| sQ <| rgS <| se (eff_assign k) k <| sn <| tn <| sQ <| sQ <| rgS <| se (eff_assign k) k ?_
 refine sn <| tn <| ac_block ?_
 obtain ⟨y5, hy5, h⟩ := ob h
 refine ac_Lp (body := m_laws_markSpaceS_L1) hy5 (fun (x1 : ((List Sc) × Int × Int)) => mkS [(0, .own 0 0 x1.1.length), (1, .int x1.2.1), (5, .int x1.2.2)] [(0, ⟨2, List.map (ow eS) x1.1⟩)] 1 [1, 2, 3] ⟨1, true, none, true⟩) (fun r e t => e = .exit 0 ∧ Ent t (mkS [(1, .int r.2)] [(0, ⟨2, List.map (ow eS) r.1⟩)] 1 [1, 2, 3] ⟨1, true, none, true⟩)) (ent_mk (σ := sg [(0, 0)]) ⟨(oE k k), (e1 k k), (e1 k k), trivial⟩ (hB (okSc.plainO _) k k k <| trivial) k) ?_ ?_
 ·intro x1 o h
  refine sQ <| sQ <| rgS <| se (eff_move k) k <| se (eff_move k) k <| se (w_len_own TT_ok k k k k) k <| se (w_cmp k k k) k <| sn <| tn ?_
  rcases cb h with ⟨q1, h⟩ | ⟨q1, h⟩
  ·refine ac_condT k q1 <| ac_skip <| tn <| sQ <| ac_block <| sQ <| rgS <| se (eff_move k) k <| se (eff_move k) k <| se (eff_move k) k ?_
   obtain ⟨v2, hv2, h⟩ := ob h
   refine sops_ent (t := mkS [(0, .own 0 0 x1.1.length), (1, .int x1.2.1), (5, .int x1.2.2), (6, .int x1.2.2), (7, .own 0 0 x1.1.length), (8, .int ((x1.1.length : Nat) : Int)), (9, .bl (decide (x1.2.2 < ((x1.1.length : Nat) : Int)))), (12, .own 0 0 x1.1.length), (13, .int x1.2.2), (14, .int x1.2.1)] [(0, ⟨2, (List.map (ow eS) x1.1).set x1.2.2.toNat [.int v2.size, .abs 1 (List.map (eLs 1 eI) v2.basis)]⟩)] 1 [1, 2, 3] ⟨1, true, none, true⟩) (ent_mk (σ := sg [(0, 0)]) ⟨(oE k k), (e1 k k), (e1 k k), (e1 k k), (oE k k), (e1 k k), (e1 k k), (oE k k), (e1 k k), (e1 k k), trivial⟩ (hX ⟨_, k, k, .inl ⟨open_row (atL_get hv2), set_plain okSc k⟩⟩ k <| trivial) k) <| sops_ent (ent_openS (b := 0) (c := 1) (i := x1.2.2.toNat) (j := 1) (n := v2.basis.length) (A := List.map (ow eS) x1.1) (fs := List.map (ow (eLs 1 eI)) v2.basis) (by rw [List.length_map]; exact atL_lt hv2) k k k k (len_map _ _) (abs_map _ _) (dfE_ok ⟨k, k, k, k, k, k, k, k, k, k, trivial⟩) (dfH_ok (skip := []) ⟨.inr (okSc.dfS _ _ _ k), trivial⟩)) <| sops_ent (t := mkS [(0, .own 0 0 x1.1.length), (1, .int x1.2.1), (5, .int x1.2.2), (6, .int x1.2.2), (7, .own 0 0 x1.1.length), (8, .int ((x1.1.length : Nat) : Int)), (9, .bl (decide (x1.2.2 < ((x1.1.length : Nat) : Int)))), (12, .own 0 0 x1.1.length), (13, .int x1.2.2), (14, .int x1.2.1)] [(0, ⟨2, (List.map (ow eS) x1.1).set x1.2.2.toNat [.int v2.size, .own 1 0 v2.basis.length]⟩), (1, ⟨1, List.map (ow (eLs 1 eI)) v2.basis⟩)] 2 [2, 3] ⟨1, true, none, true⟩) (ent_mk (σ := sg [(0, 0), (1, 1)]) ⟨(oE k k), (e1 k k), (e1 k k), (e1 k k), (oE k k), (e1 k k), (e1 k k), (oE k k), (e1 k k), (e1 k k), trivial⟩ (hX ⟨_, k, k, .inr (ent_set (σ := sg [(0, 0), (1, 1)]) (m := 2) (e := eS) (l := x1.1) (i := x1.2.2.toNat) (c := [.int v2.size, .own 1 0 v2.basis.length]) (d := [.int v2.size, .own 1 0 v2.basis.length]) okSc ⟨_, _, k, k, ⟨_, _, k, ⟨k, k, k, k⟩, k⟩⟩)⟩ k <| hB (okLs.plainO _) k k k <| trivial) k) ?_
   refine se (x_at_own TT_ok (atL_nn hv2) (atL_lt hv2) k k k k k k k) k <| se (w_field_ptr TT_ok k k k k k k k) k <| se (x_storeS TT_ok (A := List.map (ow eS) x1.1) (by rw [List.length_map]; exact atL_lt hv2) k k k k k k k) k <| sn <| tn <| sQ <| rgS <| se (eff_move k) k <| se (x_add k k) k <| se (eff_assign k) k ?_
   refine sn <| tn <| rgS <| se (eff_move k) k <| se (eff_move k) k <| se (x_at_own TT_ok (atL_nn hv2) (atL_lt hv2) k k k k k k k) k <| se (w_field_ptr TT_ok k k k k k k k) k <| se (w_load_ptr TT_ok k k k k (set_at (atL_lt hv2)) k k) k <| se (eff_move k) k ?_
   obtain ⟨v3, hv3, h⟩ := ob h
   refine sops_ent (t := mkS [(0, .own 0 0 x1.1.length), (1, .int (wr (x1.2.1 + 1))), (5, .int x1.2.2), (6, .int x1.2.2), (7, .own 0 0 x1.1.length), (8, .int ((x1.1.length : Nat) : Int)), (9, .bl (decide (x1.2.2 < ((x1.1.length : Nat) : Int)))), (12, .own 0 0 x1.1.length), (13, .int x1.2.2), (14, .int x1.2.1), (15, .ptr 0 x1.2.2.toNat 0), (16, .ptr 0 x1.2.2.toNat 0), (17, .int x1.2.1), (18, .int (wr (x1.2.1 + 1))), (19, .own 0 0 x1.1.length), (20, .int x1.2.2), (21, .ptr 0 x1.2.2.toNat 0), (22, .ptr 0 x1.2.2.toNat 1), (23, .own 1 0 v2.basis.length), (24, .int (wr (x1.2.1 + 1)))] [(0, ⟨2, (List.map (ow eS) x1.1).set x1.2.2.toNat [.int x1.2.1, .own 1 0 v2.basis.length]⟩), (1, ⟨1, List.map (ow (eLs 1 eI)) v2.basis⟩)] 2 [2, 3] ⟨1, true, none, true⟩) (ent_mk (σ := sg [(0, 0), (1, 1)]) ⟨(oE k k), (e1 k k), (e1 k k), (e1 k k), (oE k k), (e1 k k), (e1 k k), (oE k k), (e1 k k), (e1 k k), (pE k k), (pE k k), (e1 k k), (e1 k k), (oE k k), (e1 k k), (pE k k), (pE k k), (oE k k), (e1 k k), trivial⟩ (hX ⟨_, k, k, .inr (ent_set (σ := sg [(0, 0), (1, 1)]) (m := 2) (e := eS) (l := x1.1) (i := x1.2.2.toNat) (c := [.int x1.2.1, .own 1 0 v2.basis.length]) (d := [.int x1.2.1, .own 1 0 v2.basis.length]) okSc ⟨_, _, k, k, ⟨_, _, k, ⟨k, k, k, k⟩, k⟩⟩)⟩ k <| hB (okLs.plainO _) k k k <| trivial) k) <| sops_T (σ := sg [(0, 1)]) (σ' := sg [(1, 0)]) (touch := [1]) (news := []) (hl2 := [(1, ⟨1, List.map (ow (eLs 1 eI)) v3.1⟩)]) (n' := 2) (r2 := .int v3.2) (c_laws_markIntSS v2.basis (wr (x1.2.1 + 1)) v3 hv3) k k ⟨_, _, k, ⟨k, k, k, k⟩, ⟨_, _, k, k, k⟩⟩ ⟨⟨_, k, k, .inl ⟨k, okLs.plainO _⟩⟩, k, trivial⟩ k k k ⟨⟨_, k, k, .inl ⟨k, okLs.plainO _⟩⟩, k, trivial⟩ k k k ⟨k, okLs.tame _ _, trivial⟩ k k k k k (dfE_ok ⟨k, k, k, k, k, k, k, k, k, k, k, k, k, k, k, k, k, k, k, k, trivial⟩) (dfH_ok (skip := [1]) ⟨.inr (okSc.dfS _ _ _ k), .inl (by decide), trivial⟩) ?_
   obtain ⟨q4, h⟩ := cg h
   refine se (eff_assign k) k <| sn <| block_n <| tn <| rgS <| se (eff_move k) k <| se (x_add k k) k <| se (eff_assign k) k <| sn <| tn ?_
   obtain rfl := so h
   exact ⟨_, k, (Ent.trans (show Ent _ (mkS [(0, .own 0 0 ((x1.1.set x1.2.2.toNat (⟨x1.2.1, v3.1⟩ : Sc)).length)), (1, .int v3.2), (5, .int (wr (x1.2.2 + 1)))] [(0, ⟨2, List.map (ow eS) (x1.1.set x1.2.2.toNat (⟨x1.2.1, v3.1⟩ : Sc))⟩)] 2 [2, 3] ⟨1, true, none, true⟩) from (Ent.trans (ent_absS (b := 0) (b' := 1) (j := 1) (es' := List.map (eLs 1 eI) v3.1) (by rw [List.length_map]; exact atL_lt hv2) k k k k (by simp only [len_map, lA, lT, lR, lC, lN, of_decide_eq_true q4]) (okLs.frzs _)) (ent_mk (σ := sg [(0, 0)]) ⟨⟨_, k, ⟨k, k, (by simp only [len_map, lA, lT, lR, lC, lN, of_decide_eq_true q4]), k⟩⟩, (e1 k k), (e1 k k), trivial⟩ (hX ⟨_, k, k, .inl ⟨set_eq (⟨x1.2.1, v3.1⟩ : Sc) k, okSc.plainO _⟩⟩ k <| trivial) k))) (ent_mk (σ := sg [(0, 0)]) ⟨(oE k k), (e1 k k), (e1 k k), trivial⟩ (hB (okSc.plainO _) k k k <| trivial) k))⟩
  ·refine ac_condF k q1 <| ac_exit <| then_exit <| then_exit ?_
   obtain rfl := so h
   exact ⟨_, k, k, (ent_mk (σ := sg [(0, 0)]) ⟨(e1 k k), trivial⟩ (hB (okSc.plainO _) k k k <| trivial) k)⟩
 ·rintro e t ⟨rfl, hent⟩
  refine block_here <| tn <| ac_ent hent <| sQ <| rgS <| se (eff_move k) k <| se (eff_assign k) k <| sn <| tn <| ac_ret ?_
  obtain rfl := so h
  exact ⟨mkS [(4, .int y5.2)] [(0, ⟨2, List.map (ow eS) y5.1⟩)] 1 [1, 2, 3] ⟨1, true, none, true⟩, (ent_mk (σ := sg [(0, 0)]) ⟨(e1 k k), trivial⟩ (hB (okSc.plainO _) k k k <| trivial) k), k, ⟨_, k, .inl k⟩, ⟨k, trivial⟩⟩

noncomputable def m_laws_markQuiver (a0 : Qv) (a1 : Int) : Option ((List Int) × (List Int) × Int) :=
  Option.bind (m_laws_markIntS a0.src a1) fun v1 =>
  bif decide (v1.1.length = a0.src.length) then
    (Option.bind (m_laws_markIntS a0.tgt v1.2) fun v3 =>
    bif decide (v3.1.length = a0.tgt.length) then
      (some (v1.1, v3.1, v3.2))
    else none)
  else none

theorem c_laws_markQuiver (a0 : Qv) (a1 : Int) (r : ((List Int) × (List Int) × Int)) (h : m_laws_markQuiver a0 a1 = some r) : HasE Tryz.prog 29 [.agg [.int a0.n, .own 0 0 a0.src.length, .own 1 0 a0.tgt.length], .int a1] [(0, ⟨1, List.map (ow eI) a0.src⟩), (1, ⟨1, List.map (ow eI) a0.tgt⟩)] 2 (.int r.2.2) [(0, ⟨1, List.map (ow eI) r.1⟩), (1, ⟨1, List.map (ow eI) r.2.1⟩)] := by
 refine hasE_mk TT_ok (rvs := [.tmp 4]) (ns := [2, 3, 4]) Tryz.func29 k k Tryz.ntmps29 k k <| sQ <| rg <| ae (w_box k k k k) k <| aa k k <| an <| tn <| sQ <| rg <| ae (w_field_ptr TT_ok k k k k k k k) k ?_
 refine ae (w_load_ptr TT_ok k k k k k k k) k <| am k k ?_
 obtain ⟨v1, hv1, h⟩ := ob h
 refine ae (eff_hasE (σ := sg [(0, 0)]) (σ' := sg [(0, 0)]) (touch := [0]) (news := []) (hl2 := [(0, ⟨1, List.map (ow eI) v1.1⟩)]) (n' := 3) (r2 := .int v1.2) (c_laws_markIntS a0.src a1 v1 hv1) k k ⟨_, _, k, ⟨k, k, k, k⟩, ⟨_, _, k, k, k⟩⟩ ⟨⟨_, k, k, .inl ⟨k, okI.plainO _⟩⟩, k, trivial⟩ k k k ⟨⟨_, k, k, .inl ⟨k, okI.plainO _⟩⟩, k, trivial⟩ k k k ⟨k, okI.tame _ _, trivial⟩ k k) k ?_
 obtain ⟨q2, h⟩ := cg h
 refine aa k k <| an <| tn <| sQ <| rg <| ae (w_field_ptr TT_ok k k k k k k k) k <| ae (w_load_ptr TT_ok k k k k k k k) k <| am k k ?_
 obtain ⟨v3, hv3, h⟩ := ob h
 refine ae (eff_hasE (σ := sg [(0, 1)]) (σ' := sg [(1, 0)]) (touch := [1]) (news := []) (hl2 := [(1, ⟨1, List.map (ow eI) v3.1⟩)]) (n' := 3) (r2 := .int v3.2) (c_laws_markIntS a0.tgt v1.2 v3 hv3) k k ⟨_, _, k, ⟨k, k, k, k⟩, ⟨_, _, k, k, k⟩⟩ ⟨⟨_, k, k, .inl ⟨k, okI.plainO _⟩⟩, k, trivial⟩ k k k ⟨⟨_, k, k, .inl ⟨k, okI.plainO _⟩⟩, k, trivial⟩ k k k ⟨k, okI.tame _ _, trivial⟩ k k) k ?_
 obtain ⟨q4, h⟩ := cg h
 refine aa k k <| an <| tn <| ac_ent (t := mkS [(1, .int v3.2)] [(0, ⟨1, List.map (ow eI) v1.1⟩), (1, ⟨1, List.map (ow eI) v3.1⟩)] 3 [3, 4] 2) (ent_mk (σ := sg [(0, 0), (1, 1)]) ⟨(e1 k k), trivial⟩ (hI k k k <| hI k k k <| trivial) k) <| sQ <| rg <| am k k <| aa k k <| an <| tn ?_
 refine ac_ret ?_
 obtain rfl := so h
 exact ⟨mkS [(4, .int v3.2)] [(0, ⟨1, List.map (ow eI) v1.1⟩), (1, ⟨1, List.map (ow eI) v3.1⟩)] 2 [2, 3, 4] 2, (ent_mk (σ := sg [(0, 0), (1, 1)]) ⟨(e1 k k), trivial⟩ (hI k k k <| hI k k k <| trivial) k), k, ⟨_, k, .inl k⟩, ⟨k, k, trivial⟩⟩

noncomputable def m_laws_markMatrixS_L1  (x1 : ((List Mt) × Int × Int)) : Option (((List Mt) × Int × Int) ⊕ ((List Mt) × Int)) :=
  bif decide (x1.2.2 < ((x1.1.length : Nat) : Int)) then
    (Option.bind (atL x1.1 x1.2.2) fun v2 =>
    Option.bind (m_laws_markIntS v2.cells (wr ((wr (x1.2.1 + 1)) + 1))) fun v3 =>
    bif decide (v3.1.length = v2.cells.length) then
      (some (.inl ((x1.1.set x1.2.2.toNat (⟨x1.2.1, wr (x1.2.1 + 1), v3.1⟩ : Mt)), v3.2, wr (x1.2.2 + 1))))
    else none)
  else
    (some (.inr (x1.1, x1.2.1)))

noncomputable def m_laws_markMatrixS (a0 : (List Mt)) (a1 : Int) : Option ((List Mt) × Int) :=
  Option.bind (Lp m_laws_markMatrixS_L1 (a0, a1, 0)) fun y5 =>
  some (y5.1, y5.2)

theorem c_laws_markMatrixS (a0 : (List Mt)) (a1 : Int) (r : ((List Mt) × Int)) (h : m_laws_markMatrixS a0 a1 = some r) : HasT Tryz.prog 31 [.own 0 0 a0.length, .int a1] [(0, ⟨3, List.map (ow eM) a0⟩)] 1 (.int r.2) [(0, ⟨3, List.map (ow eM) r.1⟩)] := by
 refine hasT_mk TT_ok (rvs := [.tmp 4]) (ns := [1, 2, 3]) Tryz.func31 k k Tryz.ntmps31 k k <| sQ <| rgS <| se (eff_assign k) k <| sn <| tn <| sQ <| sQ <| rgS <| se (eff_assign k) k ?_
 refine sn <| tn <| ac_block ?_
 obtain ⟨y5, hy5, h⟩ := ob h
 refine ac_Lp (body := m_laws_markMatrixS_L1) hy5 (fun (x1 : ((List Mt) × Int × Int)) => mkS [(0, .own 0 0 x1.1.length), (1, .int x1.2.1), (5, .int x1.2.2)] [(0, ⟨3, List.map (ow eM) x1.1⟩)] 1 [1, 2, 3] ⟨1, true, none, true⟩) (fun r e t => e = .exit 0 ∧ Ent t (mkS [(1, .int r.2)] [(0, ⟨3, List.map (ow eM) r.1⟩)] 1 [1, 2, 3] ⟨1, true, none, true⟩)) (ent_mk (σ := sg [(0, 0)]) ⟨(oE k k), (e1 k k), (e1 k k), trivial⟩ (hB (okMt.plainO _) k k k <| trivial) k) ?_ ?_
 ·intro x1 o h
  refine sQ <| sQ <| rgS <| se (eff_move k) k <| se (eff_move k) k <| se (w_len_own TT_ok k k k k) k <| se (w_cmp k k k) k <| sn <| tn ?_
  rcases cb h with ⟨q1, h⟩ | ⟨q1, h⟩
  ·refine ac_condT k q1 <| ac_skip <| tn <| sQ <| ac_block <| sQ <| rgS <| se (eff_move k) k <| se (eff_move k) k <| se (eff_move k) k ?_
   obtain ⟨v2, hv2, h⟩ := ob h
   refine sops_ent (t := mkS [(0, .own 0 0 x1.1.length), (1, .int x1.2.1), (5, .int x1.2.2), (6, .int x1.2.2), (7, .own 0 0 x1.1.length), (8, .int ((x1.1.length : Nat) : Int)), (9, .bl (decide (x1.2.2 < ((x1.1.length : Nat) : Int)))), (12, .own 0 0 x1.1.length), (13, .int x1.2.2), (14, .int x1.2.1)] [(0, ⟨3, (List.map (ow eM) x1.1).set x1.2.2.toNat [.int v2.rows, .int v2.cols, .abs 1 (List.map eI v2.cells)]⟩)] 1 [1, 2, 3] ⟨1, true, none, true⟩) (ent_mk (σ := sg [(0, 0)]) ⟨(oE k k), (e1 k k), (e1 k k), (e1 k k), (oE k k), (e1 k k), (e1 k k), (oE k k), (e1 k k), (e1 k k), trivial⟩ (hX ⟨_, k, k, .inl ⟨open_row (atL_get hv2), set_plain okMt k⟩⟩ k <| trivial) k) <| sops_ent (ent_openS (b := 0) (c := 1) (i := x1.2.2.toNat) (j := 2) (n := v2.cells.length) (A := List.map (ow eM) x1.1) (fs := List.map (ow eI) v2.cells) (by rw [List.length_map]; exact atL_lt hv2) k k k k (len_map _ _) (abs_map _ _) (dfE_ok ⟨k, k, k, k, k, k, k, k, k, k, trivial⟩) (dfH_ok (skip := []) ⟨.inr (okMt.dfS _ _ _ k), trivial⟩)) <| sops_ent (t := mkS [(0, .own 0 0 x1.1.length), (1, .int x1.2.1), (5, .int x1.2.2), (6, .int x1.2.2), (7, .own 0 0 x1.1.length), (8, .int ((x1.1.length : Nat) : Int)), (9, .bl (decide (x1.2.2 < ((x1.1.length : Nat) : Int)))), (12, .own 0 0 x1.1.length), (13, .int x1.2.2), (14, .int x1.2.1)] [(0, ⟨3, (List.map (ow eM) x1.1).set x1.2.2.toNat [.int v2.rows, .int v2.cols, .own 1 0 v2.cells.length]⟩), (1, ⟨1, List.map (ow eI) v2.cells⟩)] 2 [2, 3] ⟨1, true, none, true⟩) (ent_mk (σ := sg [(0, 0), (1, 1)]) ⟨(oE k k), (e1 k k), (e1 k k), (e1 k k), (oE k k), (e1 k k), (e1 k k), (oE k k), (e1 k k), (e1 k k), trivial⟩ (hX ⟨_, k, k, .inr (ent_set (σ := sg [(0, 0), (1, 1)]) (m := 2) (e := eM) (l := x1.1) (i := x1.2.2.toNat) (c := [.int v2.rows, .int v2.cols, .own 1 0 v2.cells.length]) (d := [.int v2.rows, .int v2.cols, .own 1 0 v2.cells.length]) okMt ⟨_, _, k, k, ⟨_, _, k, k, ⟨_, _, k, ⟨k, k, k, k⟩, k⟩⟩⟩)⟩ k <| hI k k k <| trivial) k) ?_
   refine se (x_at_own TT_ok (atL_nn hv2) (atL_lt hv2) k k k k k k k) k <| se (w_field_ptr TT_ok k k k k k k k) k <| se (x_storeS TT_ok (A := List.map (ow eM) x1.1) (by rw [List.length_map]; exact atL_lt hv2) k k k k k k k) k <| sn <| tn <| sQ <| rgS <| se (eff_move k) k <| se (x_add k k) k <| se (eff_assign k) k ?_
   refine sn <| tn <| sQ <| rgS <| se (eff_move k) k <| se (eff_move k) k <| se (eff_move k) k <| se (x_at_own TT_ok (atL_nn hv2) (atL_lt hv2) k k k k k k k) k <| se (w_field_ptr TT_ok k k k k k k k) k <| se (x_storeS TT_ok (A := List.map (ow eM) x1.1) (by rw [List.length_map]; exact atL_lt hv2) k k k k k k k) k ?_
   refine sn <| tn <| sQ <| rgS <| se (eff_move k) k <| se (x_add k k) k <| se (eff_assign k) k <| sn <| tn <| ac_ent (t := mkS [(0, .own 0 0 x1.1.length), (1, .int (wr ((wr (x1.2.1 + 1)) + 1))), (5, .int x1.2.2)] [(0, ⟨3, (List.map (ow eM) x1.1).set x1.2.2.toNat [.int x1.2.1, .int (wr (x1.2.1 + 1)), .own 1 0 v2.cells.length]⟩), (1, ⟨1, List.map (ow eI) v2.cells⟩)] 2 [2, 3] ⟨1, true, none, true⟩) (ent_mk (σ := sg [(0, 0), (1, 1)]) ⟨(oE k k), (e1 k k), (e1 k k), trivial⟩ (hX ⟨_, k, k, .inr (ent_set (σ := sg [(0, 0), (1, 1)]) (m := 2) (e := eM) (l := x1.1) (i := x1.2.2.toNat) (c := [.int x1.2.1, .int (wr (x1.2.1 + 1)), .own 1 0 v2.cells.length]) (d := [.int x1.2.1, .int (wr (x1.2.1 + 1)), .own 1 0 v2.cells.length]) okMt ⟨_, _, k, k, ⟨_, _, k, k, ⟨_, _, k, ⟨k, k, k, k⟩, k⟩⟩⟩)⟩ k <| hI k k k <| trivial) k) ?_
   refine rgS <| se (eff_move k) k <| se (eff_move k) k <| se (x_at_own TT_ok (atL_nn hv2) (atL_lt hv2) k k k k k k k) k <| se (w_field_ptr TT_ok k k k k k k k) k <| se (w_load_ptr TT_ok k k k k (set_at (atL_lt hv2)) k k) k <| se (eff_move k) k ?_
   obtain ⟨v3, hv3, h⟩ := ob h
   refine se (eff_hasE (σ := sg [(0, 1)]) (σ' := sg [(1, 0)]) (touch := [1]) (news := []) (hl2 := [(1, ⟨1, List.map (ow eI) v3.1⟩)]) (n' := 2) (r2 := .int v3.2) (c_laws_markIntS v2.cells (wr ((wr (x1.2.1 + 1)) + 1)) v3 hv3) k k ⟨_, _, k, ⟨k, k, k, k⟩, ⟨_, _, k, k, k⟩⟩ ⟨⟨_, k, k, .inl ⟨k, okI.plainO _⟩⟩, k, trivial⟩ k k k ⟨⟨_, k, k, .inl ⟨k, okI.plainO _⟩⟩, k, trivial⟩ k k k ⟨k, okI.tame _ _, trivial⟩ k k) k ?_
   obtain ⟨q4, h⟩ := cg h
   refine se (eff_assign k) k <| sn <| block_n <| tn <| rgS <| se (eff_move k) k <| se (x_add k k) k <| se (eff_assign k) k <| sn <| tn ?_
   obtain rfl := so h
   exact ⟨_, k, (Ent.trans (show Ent _ (mkS [(0, .own 0 0 ((x1.1.set x1.2.2.toNat (⟨x1.2.1, wr (x1.2.1 + 1), v3.1⟩ : Mt)).length)), (1, .int v3.2), (5, .int (wr (x1.2.2 + 1)))] [(0, ⟨3, List.map (ow eM) (x1.1.set x1.2.2.toNat (⟨x1.2.1, wr (x1.2.1 + 1), v3.1⟩ : Mt))⟩)] 2 [2, 3] ⟨1, true, none, true⟩) from (Ent.trans (ent_absS (b := 0) (b' := 1) (j := 2) (es' := List.map eI v3.1) (by rw [List.length_map]; exact atL_lt hv2) k k k k (by simp only [len_map, lA, lT, lR, lC, lN, of_decide_eq_true q4]) (okI.frzs _)) (ent_mk (σ := sg [(0, 0)]) ⟨⟨_, k, ⟨k, k, (by simp only [len_map, lA, lT, lR, lC, lN, of_decide_eq_true q4]), k⟩⟩, (e1 k k), (e1 k k), trivial⟩ (hX ⟨_, k, k, .inl ⟨set_eq (⟨x1.2.1, wr (x1.2.1 + 1), v3.1⟩ : Mt) k, okMt.plainO _⟩⟩ k <| trivial) k))) (ent_mk (σ := sg [(0, 0)]) ⟨(oE k k), (e1 k k), (e1 k k), trivial⟩ (hB (okMt.plainO _) k k k <| trivial) k))⟩
  ·refine ac_condF k q1 <| ac_exit <| then_exit <| then_exit ?_
   obtain rfl := so h
   exact ⟨_, k, k, (ent_mk (σ := sg [(0, 0)]) ⟨(e1 k k), trivial⟩ (hB (okMt.plainO _) k k k <| trivial) k)⟩
 ·rintro e t ⟨rfl, hent⟩
  refine block_here <| tn <| ac_ent hent <| sQ <| rgS <| se (eff_move k) k <| se (eff_assign k) k <| sn <| tn <| ac_ret ?_
  obtain rfl := so h
  exact ⟨mkS [(4, .int y5.2)] [(0, ⟨3, List.map (ow eM) y5.1⟩)] 1 [1, 2, 3] ⟨1, true, none, true⟩, (ent_mk (σ := sg [(0, 0)]) ⟨(e1 k k), trivial⟩ (hB (okMt.plainO _) k k k <| trivial) k), k, ⟨_, k, .inl k⟩, ⟨k, trivial⟩⟩

noncomputable def m_laws_markRep (a0 : Rp) (a1 : Int) : Option ((List Int) × (List Int) × (List Int) × (List Mt) × Int) :=
  Option.bind (m_laws_markQuiver a0.q a1) fun v1 =>
  bif decide (v1.1.length = a0.q.src.length) then
    (bif decide (v1.2.1.length = a0.q.tgt.length) then
      (Option.bind (m_laws_markIntS a0.dims v1.2.2) fun v4 =>
      bif decide (v4.1.length = a0.dims.length) then
        (Option.bind (m_laws_markMatrixS a0.maps v4.2) fun v6 =>
        bif decide (v6.1.length = a0.maps.length) then
          (some (v1.1, v1.2.1, v4.1, v6.1, v6.2))
        else none)
      else none)
    else none)
  else none

theorem c_laws_markRep (a0 : Rp) (a1 : Int) (r : ((List Int) × (List Int) × (List Int) × (List Mt) × Int)) (h : m_laws_markRep a0 a1 = some r) : HasT Tryz.prog 10 [.agg [.int a0.p, .int a0.q.n, .own 0 0 a0.q.src.length, .own 1 0 a0.q.tgt.length, .own 2 0 a0.dims.length, .own 3 0 a0.maps.length], .int a1] [(0, ⟨1, List.map (ow eI) a0.q.src⟩), (1, ⟨1, List.map (ow eI) a0.q.tgt⟩), (2, ⟨1, List.map (ow eI) a0.dims⟩), (3, ⟨3, List.map (ow eM) a0.maps⟩)] 4 (.int r.2.2.2.2) [(0, ⟨1, List.map (ow eI) r.1⟩), (1, ⟨1, List.map (ow eI) r.2.1⟩), (2, ⟨1, List.map (ow eI) r.2.2.1⟩), (3, ⟨3, List.map (ow eM) r.2.2.2.1⟩)] := by
 refine hasT_mk TT_ok (rvs := [.tmp 4]) (ns := [4, 5, 6]) Tryz.func10 k k Tryz.ntmps10 k k <| sQ <| rgS <| se (w_box k k k k) k <| se (eff_assign k) k <| sn <| tn <| sQ <| rgS <| se (w_field_ptr TT_ok k k k k k k k) k ?_
 refine se (w_load_ptr TT_ok k k k k k k k) k <| se (eff_move k) k ?_
 obtain ⟨v1, hv1, h⟩ := ob h
 refine se (eff_hasE (σ := sg [(0, 0), (1, 1)]) (σ' := sg [(0, 0), (1, 1)]) (touch := [0, 1]) (news := []) (hl2 := [(0, ⟨1, List.map (ow eI) v1.1⟩), (1, ⟨1, List.map (ow eI) v1.2.1⟩)]) (n' := 5) (r2 := .int v1.2.2) (c_laws_markQuiver a0.q a1 v1 hv1) k k ⟨_, _, k, ⟨_, _, k, k, ⟨_, _, k, ⟨k, k, k, k⟩, ⟨_, _, k, ⟨k, k, k, k⟩, k⟩⟩⟩, ⟨_, _, k, k, k⟩⟩ ⟨⟨_, k, k, .inl ⟨k, okI.plainO _⟩⟩, k, ⟨_, k, k, .inl ⟨k, okI.plainO _⟩⟩, k, trivial⟩ k k k ⟨⟨_, k, k, .inl ⟨k, okI.plainO _⟩⟩, k, ⟨_, k, k, .inl ⟨k, okI.plainO _⟩⟩, k, trivial⟩ k k k ⟨k, okI.tame _ _, ⟨k, okI.tame _ _, trivial⟩⟩ k k) k ?_
 obtain ⟨q2, h⟩ := cg h
 obtain ⟨q3, h⟩ := cg h
 refine se (eff_assign k) k <| sn <| tn <| sQ <| rgS <| se (w_field_ptr TT_ok k k k k k k k) k <| se (w_load_ptr TT_ok k k k k k k k) k <| se (eff_move k) k ?_
 obtain ⟨v4, hv4, h⟩ := ob h
 refine se (eff_hasE (σ := sg [(0, 2)]) (σ' := sg [(2, 0)]) (touch := [2]) (news := []) (hl2 := [(2, ⟨1, List.map (ow eI) v4.1⟩)]) (n' := 5) (r2 := .int v4.2) (c_laws_markIntS a0.dims v1.2.2 v4 hv4) k k ⟨_, _, k, ⟨k, k, k, k⟩, ⟨_, _, k, k, k⟩⟩ ⟨⟨_, k, k, .inl ⟨k, okI.plainO _⟩⟩, k, trivial⟩ k k k ⟨⟨_, k, k, .inl ⟨k, okI.plainO _⟩⟩, k, trivial⟩ k k k ⟨k, okI.tame _ _, trivial⟩ k k) k ?_
 obtain ⟨q5, h⟩ := cg h
 refine se (eff_assign k) k <| sn <| tn <| ac_ent (t := mkS [(1, .int v4.2), (2, .ptr 4 0 0)] [(0, ⟨1, List.map (ow eI) v1.1⟩), (1, ⟨1, List.map (ow eI) v1.2.1⟩), (2, ⟨1, List.map (ow eI) v4.1⟩), (3, ⟨3, List.map (ow eM) a0.maps⟩), (4, ⟨6, [[.int a0.p, .int a0.q.n, .own 0 0 v1.1.length, .own 1 0 v1.2.1.length, .own 2 0 v4.1.length, .own 3 0 a0.maps.length]]⟩)] 5 [5, 6] ⟨4, true, none, true⟩) (ent_mk (σ := sg [(0, 0), (1, 1), (2, 2), (3, 3), (4, 4)]) ⟨(e1 k k), (pE k k), trivial⟩ (hI k k k <| hI k k k <| hI k k k <| hB (okMt.plainO _) k k k <| hX ⟨_, k, k, .inr ⟨_, _, k, ⟨_, _, k, k, ⟨_, _, k, k, ⟨_, _, k, ⟨k, k, (by simp only [len_map, lA, lT, lR, lC, lN, of_decide_eq_true q2]), k⟩, ⟨_, _, k, ⟨k, k, (by simp only [len_map, lA, lT, lR, lC, lN, of_decide_eq_true q3]), k⟩, ⟨_, _, k, ⟨k, k, (by simp only [len_map, lA, lT, lR, lC, lN, of_decide_eq_true q5]), k⟩, ⟨_, _, k, ⟨k, k, k, k⟩, k⟩⟩⟩⟩⟩⟩, k⟩⟩ k <| trivial) k) <| sQ <| rgS <| se (w_field_ptr TT_ok k k k k k k k) k <| se (w_load_ptr TT_ok k k k k k k k) k <| se (eff_move k) k ?_
 obtain ⟨v6, hv6, h⟩ := ob h
 refine sops_ent (t := mkS [(1, .int v4.2), (2, .ptr 4 0 0), (13, .ptr 4 0 5), (14, .own 3 0 a0.maps.length), (15, .int v4.2)] [(0, ⟨1, List.map (ow eI) v1.1⟩), (1, ⟨1, List.map (ow eI) v1.2.1⟩), (2, ⟨1, List.map (ow eI) v4.1⟩), (3, ⟨3, List.map (ow eM) a0.maps⟩), (4, ⟨6, [[.int a0.p, .int a0.q.n, .own 0 0 v1.1.length, .own 1 0 v1.2.1.length, .own 2 0 v4.1.length, .own 3 0 a0.maps.length]]⟩)] 5 [5, 6] ⟨4, true, none, true⟩) (ent_mk (σ := sg [(0, 0), (1, 1), (2, 2), (3, 3), (4, 4)]) ⟨(e1 k k), (pE k k), (pE k k), (oE k k), (e1 k k), trivial⟩ (hI k k k <| hI k k k <| hI k k k <| hB (okMt.plainO _) k k k <| hX ⟨_, k, k, .inr ⟨_, _, k, ⟨_, _, k, k, ⟨_, _, k, k, ⟨_, _, k, ⟨k, k, k, k⟩, ⟨_, _, k, ⟨k, k, k, k⟩, ⟨_, _, k, ⟨k, k, k, k⟩, ⟨_, _, k, ⟨k, k, k, k⟩, k⟩⟩⟩⟩⟩⟩, k⟩⟩ k <| trivial) k) <| sops_T (σ := sg [(0, 3)]) (σ' := sg [(3, 0)]) (touch := [3]) (news := []) (hl2 := [(3, ⟨3, List.map (ow eM) v6.1⟩)]) (n' := 5) (r2 := .int v6.2) (c_laws_markMatrixS a0.maps v4.2 v6 hv6) k k ⟨_, _, k, ⟨k, k, k, k⟩, ⟨_, _, k, k, k⟩⟩ ⟨⟨_, k, k, .inl ⟨k, okMt.plainO _⟩⟩, k, trivial⟩ k k k ⟨⟨_, k, k, .inl ⟨k, okMt.plainO _⟩⟩, k, trivial⟩ k k k ⟨k, okMt.tame _ _, trivial⟩ k k k k k (dfE_ok ⟨k, k, k, k, k, trivial⟩) (dfH_ok (skip := [3]) ⟨.inr (okI.df _ _), .inr (okI.df _ _), .inr (okI.df _ _), .inl (by decide), .inr (df_lit k), trivial⟩) ?_
 obtain ⟨q7, h⟩ := cg h
 refine se (eff_assign k) k <| sn <| tn <| sQ <| rgS <| se (eff_move k) k <| se (eff_assign k) k <| sn <| tn <| ac_ret ?_
 obtain rfl := so h
 exact ⟨mkS [(4, .int v6.2)] [(0, ⟨1, List.map (ow eI) v1.1⟩), (1, ⟨1, List.map (ow eI) v1.2.1⟩), (2, ⟨1, List.map (ow eI) v4.1⟩), (3, ⟨3, List.map (ow eM) v6.1⟩)] 4 [4, 5, 6] ⟨4, true, none, true⟩, (ent_mk (σ := sg [(0, 0), (1, 1), (2, 2), (3, 3)]) ⟨(e1 k k), trivial⟩ (hI k k k <| hI k k k <| hI k k k <| hB (okMt.plainO _) k k k <| trivial) k), k, ⟨_, k, .inl k⟩, ⟨k, k, k, k, trivial⟩⟩

noncomputable def m_laws_markRepS_L1  (x1 : ((List Rp) × Int × Int)) : Option (((List Rp) × Int × Int) ⊕ ((List Rp) × Int)) :=
  bif decide (x1.2.2 < ((x1.1.length : Nat) : Int)) then
    (Option.bind (atL x1.1 x1.2.2) fun v2 =>
    Option.bind (m_laws_markIntS v2.q.src (wr ((wr (x1.2.1 + 1)) + 1))) fun v3 =>
    bif decide (v3.1.length = v2.q.src.length) then
      (Option.bind (m_laws_markIntS v2.q.tgt v3.2) fun v5 =>
      bif decide (v5.1.length = v2.q.tgt.length) then
        (Option.bind (m_laws_markIntS v2.dims v5.2) fun v7 =>
        bif decide (v7.1.length = v2.dims.length) then
          (Option.bind (m_laws_markMatrixS v2.maps v7.2) fun v9 =>
          bif decide (v9.1.length = v2.maps.length) then
            (some (.inl ((x1.1.set x1.2.2.toNat (⟨x1.2.1, (⟨wr (x1.2.1 + 1), v3.1, v5.1⟩ : Qv), v7.1, v9.1⟩ : Rp)), v9.2, wr (x1.2.2 + 1))))
          else none)
        else none)
      else none)
    else none)
  else
    (some (.inr (x1.1, x1.2.1)))

noncomputable def m_laws_markRepS (a0 : (List Rp)) (a1 : Int) : Option ((List Rp) × Int) :=
  Option.bind (Lp m_laws_markRepS_L1 (a0, a1, 0)) fun y11 =>
  some (y11.1, y11.2)

theorem c_laws_markRepS (a0 : (List Rp)) (a1 : Int) (r : ((List Rp) × Int)) (h : m_laws_markRepS a0 a1 = some r) : HasT Tryz.prog 32 [.own 0 0 a0.length, .int a1] [(0, ⟨6, List.map (ow eR) a0⟩)] 1 (.int r.2) [(0, ⟨6, List.map (ow eR) r.1⟩)] := by
 refine hasT_mk TT_ok (rvs := [.tmp 4]) (ns := [1, 2, 3, 4, 5, 6]) Tryz.func32 k k Tryz.ntmps32 k k <| sQ <| rgS <| se (eff_assign k) k <| sn <| tn <| sQ <| sQ <| rgS <| se (eff_assign k) k ?_
 refine sn <| tn <| ac_block ?_
 obtain ⟨y11, hy11, h⟩ := ob h
 refine ac_Lp (body := m_laws_markRepS_L1) hy11 (fun (x1 : ((List Rp) × Int × Int)) => mkS [(0, .own 0 0 x1.1.length), (1, .int x1.2.1), (5, .int x1.2.2)] [(0, ⟨6, List.map (ow eR) x1.1⟩)] 1 [1, 2, 3, 4, 5, 6] ⟨1, true, none, true⟩) (fun r e t => e = .exit 0 ∧ Ent t (mkS [(1, .int r.2)] [(0, ⟨6, List.map (ow eR) r.1⟩)] 1 [1, 2, 3, 4, 5, 6] ⟨1, true, none, true⟩)) (ent_mk (σ := sg [(0, 0)]) ⟨(oE k k), (e1 k k), (e1 k k), trivial⟩ (hB (okRp.plainO _) k k k <| trivial) k) ?_ ?_
 ·intro x1 o h
  refine sQ <| sQ <| rgS <| se (eff_move k) k <| se (eff_move k) k <| se (w_len_own TT_ok k k k k) k <| se (w_cmp k k k) k <| sn <| tn ?_
  rcases cb h with ⟨q1, h⟩ | ⟨q1, h⟩
  ·refine ac_condT k q1 <| ac_skip <| tn <| sQ <| ac_block <| sQ <| rgS <| se (eff_move k) k <| se (eff_move k) k <| se (eff_move k) k ?_
   obtain ⟨v2, hv2, h⟩ := ob h
   refine sops_ent (t := mkS [(0, .own 0 0 x1.1.length), (1, .int x1.2.1), (5, .int x1.2.2), (6, .int x1.2.2), (7, .own 0 0 x1.1.length), (8, .int ((x1.1.length : Nat) : Int)), (9, .bl (decide (x1.2.2 < ((x1.1.length : Nat) : Int)))), (12, .own 0 0 x1.1.length), (13, .int x1.2.2), (14, .int x1.2.1)] [(0, ⟨6, (List.map (ow eR) x1.1).set x1.2.2.toNat [.int v2.p, .int v2.q.n, .abs 1 (List.map eI v2.q.src), .abs 1 (List.map eI v2.q.tgt), .abs 1 (List.map eI v2.dims), .abs 3 (List.map eM v2.maps)]⟩)] 1 [1, 2, 3, 4, 5, 6] ⟨1, true, none, true⟩) (ent_mk (σ := sg [(0, 0)]) ⟨(oE k k), (e1 k k), (e1 k k), (e1 k k), (oE k k), (e1 k k), (e1 k k), (oE k k), (e1 k k), (e1 k k), trivial⟩ (hX ⟨_, k, k, .inl ⟨open_row (atL_get hv2), set_plain okRp k⟩⟩ k <| trivial) k) <| sops_ent (ent_openS (b := 0) (c := 1) (i := x1.2.2.toNat) (j := 2) (n := v2.q.src.length) (A := List.map (ow eR) x1.1) (fs := List.map (ow eI) v2.q.src) (by rw [List.length_map]; exact atL_lt hv2) k k k k (len_map _ _) (abs_map _ _) (dfE_ok ⟨k, k, k, k, k, k, k, k, k, k, trivial⟩) (dfH_ok (skip := []) ⟨.inr (okRp.dfS _ _ _ k), trivial⟩)) <| sops_ent (t := mkS [(0, .own 0 0 x1.1.length), (1, .int x1.2.1), (5, .int x1.2.2), (6, .int x1.2.2), (7, .own 0 0 x1.1.length), (8, .int ((x1.1.length : Nat) : Int)), (9, .bl (decide (x1.2.2 < ((x1.1.length : Nat) : Int)))), (12, .own 0 0 x1.1.length), (13, .int x1.2.2), (14, .int x1.2.1)] [(0, ⟨6, (List.map (ow eR) x1.1).set x1.2.2.toNat [.int v2.p, .int v2.q.n, .own 1 0 v2.q.src.length, .abs 1 (List.map eI v2.q.tgt), .abs 1 (List.map eI v2.dims), .abs 3 (List.map eM v2.maps)]⟩), (1, ⟨1, List.map (ow eI) v2.q.src⟩)] 2 [2, 3, 4, 5, 6] ⟨1, true, none, true⟩) (ent_mk (σ := sg [(0, 0), (1, 1)]) ⟨(oE k k), (e1 k k), (e1 k k), (e1 k k), (oE k k), (e1 k k), (e1 k k), (oE k k), (e1 k k), (e1 k k), trivial⟩ (hX ⟨_, k, k, .inr (ent_set (σ := sg [(0, 0), (1, 1)]) (m := 2) (e := eR) (l := x1.1) (i := x1.2.2.toNat) (c := [.int v2.p, .int v2.q.n, .own 1 0 v2.q.src.length, .abs 1 (List.map eI v2.q.tgt), .abs 1 (List.map eI v2.dims), .abs 3 (List.map eM v2.maps)]) (d := [.int v2.p, .int v2.q.n, .own 1 0 v2.q.src.length, .abs 1 (List.map eI v2.q.tgt), .abs 1 (List.map eI v2.dims), .abs 3 (List.map eM v2.maps)]) okRp ⟨_, _, k, k, ⟨_, _, k, k, ⟨_, _, k, ⟨k, k, k, k⟩, ⟨_, _, k, ⟨k, k⟩, ⟨_, _, k, ⟨k, k⟩, ⟨_, _, k, ⟨k, k⟩, k⟩⟩⟩⟩⟩⟩)⟩ k <| hI k k k <| trivial) k) ?_
   refine sops_ent (ent_openS (b := 0) (c := 2) (i := x1.2.2.toNat) (j := 3) (n := v2.q.tgt.length) (A := List.map (ow eR) x1.1) (fs := List.map (ow eI) v2.q.tgt) (by rw [List.length_map]; exact atL_lt hv2) k k k k (len_map _ _) (abs_map _ _) (dfE_ok ⟨k, k, k, k, k, k, k, k, k, k, trivial⟩) (dfH_ok (skip := []) ⟨.inr (okRp.dfS _ _ _ k), .inr (okI.df _ _), trivial⟩)) <| sops_ent (t := mkS [(0, .own 0 0 x1.1.length), (1, .int x1.2.1), (5, .int x1.2.2), (6, .int x1.2.2), (7, .own 0 0 x1.1.length), (8, .int ((x1.1.length : Nat) : Int)), (9, .bl (decide (x1.2.2 < ((x1.1.length : Nat) : Int)))), (12, .own 0 0 x1.1.length), (13, .int x1.2.2), (14, .int x1.2.1)] [(0, ⟨6, (List.map (ow eR) x1.1).set x1.2.2.toNat [.int v2.p, .int v2.q.n, .own 1 0 v2.q.src.length, .own 2 0 v2.q.tgt.length, .abs 1 (List.map eI v2.dims), .abs 3 (List.map eM v2.maps)]⟩), (1, ⟨1, List.map (ow eI) v2.q.src⟩), (2, ⟨1, List.map (ow eI) v2.q.tgt⟩)] 3 [3, 4, 5, 6] ⟨1, true, none, true⟩) (ent_mk (σ := sg [(0, 0), (1, 1), (2, 2)]) ⟨(oE k k), (e1 k k), (e1 k k), (e1 k k), (oE k k), (e1 k k), (e1 k k), (oE k k), (e1 k k), (e1 k k), trivial⟩ (hX ⟨_, k, k, .inr (ent_set (σ := sg [(0, 0), (1, 1), (2, 2)]) (m := 3) (e := eR) (l := x1.1) (i := x1.2.2.toNat) (c := [.int v2.p, .int v2.q.n, .own 1 0 v2.q.src.length, .own 2 0 v2.q.tgt.length, .abs 1 (List.map eI v2.dims), .abs 3 (List.map eM v2.maps)]) (d := [.int v2.p, .int v2.q.n, .own 1 0 v2.q.src.length, .own 2 0 v2.q.tgt.length, .abs 1 (List.map eI v2.dims), .abs 3 (List.map eM v2.maps)]) okRp ⟨_, _, k, k, ⟨_, _, k, k, ⟨_, _, k, ⟨k, k, k, k⟩, ⟨_, _, k, ⟨k, k, k, k⟩, ⟨_, _, k, ⟨k, k⟩, ⟨_, _, k, ⟨k, k⟩, k⟩⟩⟩⟩⟩⟩)⟩ k <| hI k k k <| hI k k k <| trivial) k) ?_
   refine sops_ent (ent_openS (b := 0) (c := 3) (i := x1.2.2.toNat) (j := 4) (n := v2.dims.length) (A := List.map (ow eR) x1.1) (fs := List.map (ow eI) v2.dims) (by rw [List.length_map]; exact atL_lt hv2) k k k k (len_map _ _) (abs_map _ _) (dfE_ok ⟨k, k, k, k, k, k, k, k, k, k, trivial⟩) (dfH_ok (skip := []) ⟨.inr (okRp.dfS _ _ _ k), .inr (okI.df _ _), .inr (okI.df _ _), trivial⟩)) <| sops_ent (t := mkS [(0, .own 0 0 x1.1.length), (1, .int x1.2.1), (5, .int x1.2.2), (6, .int x1.2.2), (7, .own 0 0 x1.1.length), (8, .int ((x1.1.length : Nat) : Int)), (9, .bl (decide (x1.2.2 < ((x1.1.length : Nat) : Int)))), (12, .own 0 0 x1.1.length), (13, .int x1.2.2), (14, .int x1.2.1)] [(0, ⟨6, (List.map (ow eR) x1.1).set x1.2.2.toNat [.int v2.p, .int v2.q.n, .own 1 0 v2.q.src.length, .own 2 0 v2.q.tgt.length, .own 3 0 v2.dims.length, .abs 3 (List.map eM v2.maps)]⟩), (1, ⟨1, List.map (ow eI) v2.q.src⟩), (2, ⟨1, List.map (ow eI) v2.q.tgt⟩), (3, ⟨1, List.map (ow eI) v2.dims⟩)] 4 [4, 5, 6] ⟨1, true, none, true⟩) (ent_mk (σ := sg [(0, 0), (1, 1), (2, 2), (3, 3)]) ⟨(oE k k), (e1 k k), (e1 k k), (e1 k k), (oE k k), (e1 k k), (e1 k k), (oE k k), (e1 k k), (e1 k k), trivial⟩ (hX ⟨_, k, k, .inr (ent_set (σ := sg [(0, 0), (1, 1), (2, 2), (3, 3)]) (m := 4) (e := eR) (l := x1.1) (i := x1.2.2.toNat) (c := [.int v2.p, .int v2.q.n, .own 1 0 v2.q.src.length, .own 2 0 v2.q.tgt.length, .own 3 0 v2.dims.length, .abs 3 (List.map eM v2.maps)]) (d := [.int v2.p, .int v2.q.n, .own 1 0 v2.q.src.length, .own 2 0 v2.q.tgt.length, .own 3 0 v2.dims.length, .abs 3 (List.map eM v2.maps)]) okRp ⟨_, _, k, k, ⟨_, _, k, k, ⟨_, _, k, ⟨k, k, k, k⟩, ⟨_, _, k, ⟨k, k, k, k⟩, ⟨_, _, k, ⟨k, k, k, k⟩, ⟨_, _, k, ⟨k, k⟩, k⟩⟩⟩⟩⟩⟩)⟩ k <| hI k k k <| hI k k k <| hI k k k <| trivial) k) ?_
   refine sops_ent (ent_openS (b := 0) (c := 4) (i := x1.2.2.toNat) (j := 5) (n := v2.maps.length) (A := List.map (ow eR) x1.1) (fs := List.map (ow eM) v2.maps) (by rw [List.length_map]; exact atL_lt hv2) k k k k (len_map _ _) (abs_map _ _) (dfE_ok ⟨k, k, k, k, k, k, k, k, k, k, trivial⟩) (dfH_ok (skip := []) ⟨.inr (okRp.dfS _ _ _ k), .inr (okI.df _ _), .inr (okI.df _ _), .inr (okI.df _ _), trivial⟩)) <| sops_ent (t := mkS [(0, .own 0 0 x1.1.length), (1, .int x1.2.1), (5, .int x1.2.2), (6, .int x1.2.2), (7, .own 0 0 x1.1.length), (8, .int ((x1.1.length : Nat) : Int)), (9, .bl (decide (x1.2.2 < ((x1.1.length : Nat) : Int)))), (12, .own 0 0 x1.1.length), (13, .int x1.2.2), (14, .int x1.2.1)] [(0, ⟨6, (List.map (ow eR) x1.1).set x1.2.2.toNat [.int v2.p, .int v2.q.n, .own 1 0 v2.q.src.length, .own 2 0 v2.q.tgt.length, .own 3 0 v2.dims.length, .own 4 0 v2.maps.length]⟩), (1, ⟨1, List.map (ow eI) v2.q.src⟩), (2, ⟨1, List.map (ow eI) v2.q.tgt⟩), (3, ⟨1, List.map (ow eI) v2.dims⟩), (4, ⟨3, List.map (ow eM) v2.maps⟩)] 5 [5, 6] ⟨1, true, none, true⟩) (ent_mk (σ := sg [(0, 0), (1, 1), (2, 2), (3, 3), (4, 4)]) ⟨(oE k k), (e1 k k), (e1 k k), (e1 k k), (oE k k), (e1 k k), (e1 k k), (oE k k), (e1 k k), (e1 k k), trivial⟩ (hX ⟨_, k, k, .inr (ent_set (σ := sg [(0, 0), (1, 1), (2, 2), (3, 3), (4, 4)]) (m := 5) (e := eR) (l := x1.1) (i := x1.2.2.toNat) (c := [.int v2.p, .int v2.q.n, .own 1 0 v2.q.src.length, .own 2 0 v2.q.tgt.length, .own 3 0 v2.dims.length, .own 4 0 v2.maps.length]) (d := [.int v2.p, .int v2.q.n, .own 1 0 v2.q.src.length, .own 2 0 v2.q.tgt.length, .own 3 0 v2.dims.length, .own 4 0 v2.maps.length]) okRp ⟨_, _, k, k, ⟨_, _, k, k, ⟨_, _, k, ⟨k, k, k, k⟩, ⟨_, _, k, ⟨k, k, k, k⟩, ⟨_, _, k, ⟨k, k, k, k⟩, ⟨_, _, k, ⟨k, k, k, k⟩, k⟩⟩⟩⟩⟩⟩)⟩ k <| hI k k k <| hI k k k <| hI k k k <| hB (okMt.plainO _) k k k <| trivial) k) ?_
   refine se (x_at_own TT_ok (atL_nn hv2) (atL_lt hv2) k k k k k k k) k <| se (w_field_ptr TT_ok k k k k k k k) k <| se (x_storeS TT_ok (A := List.map (ow eR) x1.1) (by rw [List.length_map]; exact atL_lt hv2) k k k k k k k) k <| sn <| tn <| sQ <| rgS <| se (eff_move k) k <| se (x_add k k) k <| se (eff_assign k) k ?_
   refine sn <| tn <| sQ <| rgS <| se (eff_move k) k <| se (eff_move k) k <| se (eff_move k) k <| se (x_at_own TT_ok (atL_nn hv2) (atL_lt hv2) k k k k k k k) k <| se (w_field_ptr TT_ok k k k k k k k) k <| se (w_field_ptr TT_ok k k k k k k k) k ?_
   refine se (x_storeS TT_ok (A := List.map (ow eR) x1.1) (by rw [List.length_map]; exact atL_lt hv2) k k k k k k k) k <| sn <| tn <| ac_ent (t := mkS [(0, .own 0 0 x1.1.length), (1, .int (wr (x1.2.1 + 1))), (5, .int x1.2.2)] [(0, ⟨6, (List.map (ow eR) x1.1).set x1.2.2.toNat [.int x1.2.1, .int (wr (x1.2.1 + 1)), .own 1 0 v2.q.src.length, .own 2 0 v2.q.tgt.length, .own 3 0 v2.dims.length, .own 4 0 v2.maps.length]⟩), (1, ⟨1, List.map (ow eI) v2.q.src⟩), (2, ⟨1, List.map (ow eI) v2.q.tgt⟩), (3, ⟨1, List.map (ow eI) v2.dims⟩), (4, ⟨3, List.map (ow eM) v2.maps⟩)] 5 [5, 6] ⟨1, true, none, true⟩) (ent_mk (σ := sg [(0, 0), (1, 1), (2, 2), (3, 3), (4, 4)]) ⟨(oE k k), (e1 k k), (e1 k k), trivial⟩ (hX ⟨_, k, k, .inr (ent_set (σ := sg [(0, 0), (1, 1), (2, 2), (3, 3), (4, 4)]) (m := 5) (e := eR) (l := x1.1) (i := x1.2.2.toNat) (c := [.int x1.2.1, .int (wr (x1.2.1 + 1)), .own 1 0 v2.q.src.length, .own 2 0 v2.q.tgt.length, .own 3 0 v2.dims.length, .own 4 0 v2.maps.length]) (d := [.int x1.2.1, .int (wr (x1.2.1 + 1)), .own 1 0 v2.q.src.length, .own 2 0 v2.q.tgt.length, .own 3 0 v2.dims.length, .own 4 0 v2.maps.length]) okRp ⟨_, _, k, k, ⟨_, _, k, k, ⟨_, _, k, ⟨k, k, k, k⟩, ⟨_, _, k, ⟨k, k, k, k⟩, ⟨_, _, k, ⟨k, k, k, k⟩, ⟨_, _, k, ⟨k, k, k, k⟩, k⟩⟩⟩⟩⟩⟩)⟩ k <| hI k k k <| hI k k k <| hI k k k <| hB (okMt.plainO _) k k k <| trivial) k) <| sQ <| rgS <| se (eff_move k) k <| se (x_add k k) k <| se (eff_assign k) k <| sn ?_
   refine tn <| sQ <| rgS <| se (eff_move k) k <| se (eff_move k) k <| se (x_at_own TT_ok (atL_nn hv2) (atL_lt hv2) k k k k k k k) k <| se (w_field_ptr TT_ok k k k k k k k) k <| se (w_field_ptr TT_ok k k k k k k k) k <| se (w_load_ptr TT_ok k k k k (set_at (atL_lt hv2)) k k) k <| se (eff_move k) k ?_
   obtain ⟨v3, hv3, h⟩ := ob h
   refine se (eff_hasE (σ := sg [(0, 1)]) (σ' := sg [(1, 0)]) (touch := [1]) (news := []) (hl2 := [(1, ⟨1, List.map (ow eI) v3.1⟩)]) (n' := 5) (r2 := .int v3.2) (c_laws_markIntS v2.q.src (wr ((wr (x1.2.1 + 1)) + 1)) v3 hv3) k k ⟨_, _, k, ⟨k, k, k, k⟩, ⟨_, _, k, k, k⟩⟩ ⟨⟨_, k, k, .inl ⟨k, okI.plainO _⟩⟩, k, trivial⟩ k k k ⟨⟨_, k, k, .inl ⟨k, okI.plainO _⟩⟩, k, trivial⟩ k k k ⟨k, okI.tame _ _, trivial⟩ k k) k ?_
   obtain ⟨q4, h⟩ := cg h
   refine se (eff_assign k) k <| sn <| tn <| ac_ent (t := mkS [(0, .own 0 0 x1.1.length), (1, .int v3.2), (5, .int x1.2.2)] [(0, ⟨6, (List.map (ow eR) x1.1).set x1.2.2.toNat [.int x1.2.1, .int (wr (x1.2.1 + 1)), .own 1 0 v3.1.length, .own 2 0 v2.q.tgt.length, .own 3 0 v2.dims.length, .own 4 0 v2.maps.length]⟩), (1, ⟨1, List.map (ow eI) v3.1⟩), (2, ⟨1, List.map (ow eI) v2.q.tgt⟩), (3, ⟨1, List.map (ow eI) v2.dims⟩), (4, ⟨3, List.map (ow eM) v2.maps⟩)] 5 [5, 6] ⟨1, true, none, true⟩) (ent_mk (σ := sg [(0, 0), (1, 1), (2, 2), (3, 3), (4, 4)]) ⟨(oE k k), (e1 k k), (e1 k k), trivial⟩ (hX ⟨_, k, k, .inr (ent_set (σ := sg [(0, 0), (1, 1), (2, 2), (3, 3), (4, 4)]) (m := 5) (e := eR) (l := x1.1) (i := x1.2.2.toNat) (c := [.int x1.2.1, .int (wr (x1.2.1 + 1)), .own 1 0 v2.q.src.length, .own 2 0 v2.q.tgt.length, .own 3 0 v2.dims.length, .own 4 0 v2.maps.length]) (d := [.int x1.2.1, .int (wr (x1.2.1 + 1)), .own 1 0 v3.1.length, .own 2 0 v2.q.tgt.length, .own 3 0 v2.dims.length, .own 4 0 v2.maps.length]) okRp ⟨_, _, k, k, ⟨_, _, k, k, ⟨_, _, k, ⟨k, k, (by simp only [len_map, lA, lT, lR, lC, lN, of_decide_eq_true q4]), k⟩, ⟨_, _, k, ⟨k, k, k, k⟩, ⟨_, _, k, ⟨k, k, k, k⟩, ⟨_, _, k, ⟨k, k, k, k⟩, k⟩⟩⟩⟩⟩⟩)⟩ k <| hI k k k <| hI k k k <| hI k k k <| hB (okMt.plainO _) k k k <| trivial) k) <| sQ <| rgS <| se (eff_move k) k <| se (eff_move k) k <| se (x_at_own TT_ok (atL_nn hv2) (atL_lt hv2) k k k k k k k) k <| se (w_field_ptr TT_ok k k k k k k k) k ?_
   refine se (w_field_ptr TT_ok k k k k k k k) k <| se (w_load_ptr TT_ok k k k k (set_at (atL_lt hv2)) k k) k <| se (eff_move k) k ?_
   obtain ⟨v5, hv5, h⟩ := ob h
   refine se (eff_hasE (σ := sg [(0, 2)]) (σ' := sg [(2, 0)]) (touch := [2]) (news := []) (hl2 := [(2, ⟨1, List.map (ow eI) v5.1⟩)]) (n' := 5) (r2 := .int v5.2) (c_laws_markIntS v2.q.tgt v3.2 v5 hv5) k k ⟨_, _, k, ⟨k, k, k, k⟩, ⟨_, _, k, k, k⟩⟩ ⟨⟨_, k, k, .inl ⟨k, okI.plainO _⟩⟩, k, trivial⟩ k k k ⟨⟨_, k, k, .inl ⟨k, okI.plainO _⟩⟩, k, trivial⟩ k k k ⟨k, okI.tame _ _, trivial⟩ k k) k ?_
   obtain ⟨q6, h⟩ := cg h
   refine se (eff_assign k) k <| sn <| tn <| sQ <| rgS <| se (eff_move k) k <| se (eff_move k) k <| se (x_at_own TT_ok (atL_nn hv2) (atL_lt hv2) k k k k k k k) k <| se (w_field_ptr TT_ok k k k k k k k) k <| se (w_load_ptr TT_ok k k k k (set_at (atL_lt hv2)) k k) k ?_
   refine se (eff_move k) k ?_
   obtain ⟨v7, hv7, h⟩ := ob h
   refine se (eff_hasE (σ := sg [(0, 3)]) (σ' := sg [(3, 0)]) (touch := [3]) (news := []) (hl2 := [(3, ⟨1, List.map (ow eI) v7.1⟩)]) (n' := 5) (r2 := .int v7.2) (c_laws_markIntS v2.dims v5.2 v7 hv7) k k ⟨_, _, k, ⟨k, k, k, k⟩, ⟨_, _, k, k, k⟩⟩ ⟨⟨_, k, k, .inl ⟨k, okI.plainO _⟩⟩, k, trivial⟩ k k k ⟨⟨_, k, k, .inl ⟨k, okI.plainO _⟩⟩, k, trivial⟩ k k k ⟨k, okI.tame _ _, trivial⟩ k k) k ?_
   obtain ⟨q8, h⟩ := cg h
   refine se (eff_assign k) k <| sn <| tn <| ac_ent (t := mkS [(0, .own 0 0 x1.1.length), (1, .int v7.2), (5, .int x1.2.2)] [(0, ⟨6, (List.map (ow eR) x1.1).set x1.2.2.toNat [.int x1.2.1, .int (wr (x1.2.1 + 1)), .own 1 0 v3.1.length, .own 2 0 v5.1.length, .own 3 0 v7.1.length, .own 4 0 v2.maps.length]⟩), (1, ⟨1, List.map (ow eI) v3.1⟩), (2, ⟨1, List.map (ow eI) v5.1⟩), (3, ⟨1, List.map (ow eI) v7.1⟩), (4, ⟨3, List.map (ow eM) v2.maps⟩)] 5 [5, 6] ⟨1, true, none, true⟩) (ent_mk (σ := sg [(0, 0), (1, 1), (2, 2), (3, 3), (4, 4)]) ⟨(oE k k), (e1 k k), (e1 k k), trivial⟩ (hX ⟨_, k, k, .inr (ent_set (σ := sg [(0, 0), (1, 1), (2, 2), (3, 3), (4, 4)]) (m := 5) (e := eR) (l := x1.1) (i := x1.2.2.toNat) (c := [.int x1.2.1, .int (wr (x1.2.1 + 1)), .own 1 0 v3.1.length, .own 2 0 v2.q.tgt.length, .own 3 0 v2.dims.length, .own 4 0 v2.maps.length]) (d := [.int x1.2.1, .int (wr (x1.2.1 + 1)), .own 1 0 v3.1.length, .own 2 0 v5.1.length, .own 3 0 v7.1.length, .own 4 0 v2.maps.length]) okRp ⟨_, _, k, k, ⟨_, _, k, k, ⟨_, _, k, ⟨k, k, k, k⟩, ⟨_, _, k, ⟨k, k, (by simp only [len_map, lA, lT, lR, lC, lN, of_decide_eq_true q6]), k⟩, ⟨_, _, k, ⟨k, k, (by simp only [len_map, lA, lT, lR, lC, lN, of_decide_eq_true q8]), k⟩, ⟨_, _, k, ⟨k, k, k, k⟩, k⟩⟩⟩⟩⟩⟩)⟩ k <| hI k k k <| hI k k k <| hI k k k <| hB (okMt.plainO _) k k k <| trivial) k) <| rgS <| se (eff_move k) k <| se (eff_move k) k <| se (x_at_own TT_ok (atL_nn hv2) (atL_lt hv2) k k k k k k k) k <| se (w_field_ptr TT_ok k k k k k k k) k <| se (w_load_ptr TT_ok k k k k (set_at (atL_lt hv2)) k k) k ?_
   refine se (eff_move k) k ?_
   obtain ⟨v9, hv9, h⟩ := ob h
   refine sops_ent (t := mkS [(0, .own 0 0 x1.1.length), (1, .int v7.2), (5, .int x1.2.2), (50, .own 0 0 x1.1.length), (51, .int x1.2.2), (52, .ptr 0 x1.2.2.toNat 0), (53, .ptr 0 x1.2.2.toNat 5), (54, .own 4 0 v2.maps.length), (55, .int v7.2)] [(0, ⟨6, (List.map (ow eR) x1.1).set x1.2.2.toNat [.int x1.2.1, .int (wr (x1.2.1 + 1)), .own 1 0 v3.1.length, .own 2 0 v5.1.length, .own 3 0 v7.1.length, .own 4 0 v2.maps.length]⟩), (1, ⟨1, List.map (ow eI) v3.1⟩), (2, ⟨1, List.map (ow eI) v5.1⟩), (3, ⟨1, List.map (ow eI) v7.1⟩), (4, ⟨3, List.map (ow eM) v2.maps⟩)] 5 [5, 6] ⟨1, true, none, true⟩) (ent_mk (σ := sg [(0, 0), (1, 1), (2, 2), (3, 3), (4, 4)]) ⟨(oE k k), (e1 k k), (e1 k k), (oE k k), (e1 k k), (pE k k), (pE k k), (oE k k), (e1 k k), trivial⟩ (hX ⟨_, k, k, .inr (ent_set (σ := sg [(0, 0), (1, 1), (2, 2), (3, 3), (4, 4)]) (m := 5) (e := eR) (l := x1.1) (i := x1.2.2.toNat) (c := [.int x1.2.1, .int (wr (x1.2.1 + 1)), .own 1 0 v3.1.length, .own 2 0 v5.1.length, .own 3 0 v7.1.length, .own 4 0 v2.maps.length]) (d := [.int x1.2.1, .int (wr (x1.2.1 + 1)), .own 1 0 v3.1.length, .own 2 0 v5.1.length, .own 3 0 v7.1.length, .own 4 0 v2.maps.length]) okRp ⟨_, _, k, k, ⟨_, _, k, k, ⟨_, _, k, ⟨k, k, k, k⟩, ⟨_, _, k, ⟨k, k, k, k⟩, ⟨_, _, k, ⟨k, k, k, k⟩, ⟨_, _, k, ⟨k, k, k, k⟩, k⟩⟩⟩⟩⟩⟩)⟩ k <| hI k k k <| hI k k k <| hI k k k <| hB (okMt.plainO _) k k k <| trivial) k) <| sops_T (σ := sg [(0, 4)]) (σ' := sg [(4, 0)]) (touch := [4]) (news := []) (hl2 := [(4, ⟨3, List.map (ow eM) v9.1⟩)]) (n' := 5) (r2 := .int v9.2) (c_laws_markMatrixS v2.maps v7.2 v9 hv9) k k ⟨_, _, k, ⟨k, k, k, k⟩, ⟨_, _, k, k, k⟩⟩ ⟨⟨_, k, k, .inl ⟨k, okMt.plainO _⟩⟩, k, trivial⟩ k k k ⟨⟨_, k, k, .inl ⟨k, okMt.plainO _⟩⟩, k, trivial⟩ k k k ⟨k, okMt.tame _ _, trivial⟩ k k k k k (dfE_ok ⟨k, k, k, k, k, k, k, k, k, trivial⟩) (dfH_ok (skip := [4]) ⟨.inr (okRp.dfS _ _ _ k), .inr (okI.df _ _), .inr (okI.df _ _), .inr (okI.df _ _), .inl (by decide), trivial⟩) ?_
   obtain ⟨q10, h⟩ := cg h
   refine se (eff_assign k) k <| sn <| block_n <| tn <| rgS <| se (eff_move k) k <| se (x_add k k) k <| se (eff_assign k) k <| sn <| tn ?_
   obtain rfl := so h
   exact ⟨_, k, (Ent.trans (show Ent _ (mkS [(0, .own 0 0 ((x1.1.set x1.2.2.toNat (⟨x1.2.1, (⟨wr (x1.2.1 + 1), v3.1, v5.1⟩ : Qv), v7.1, v9.1⟩ : Rp)).length)), (1, .int v9.2), (5, .int (wr (x1.2.2 + 1)))] [(0, ⟨6, List.map (ow eR) (x1.1.set x1.2.2.toNat (⟨x1.2.1, (⟨wr (x1.2.1 + 1), v3.1, v5.1⟩ : Qv), v7.1, v9.1⟩ : Rp))⟩)] 5 [5, 6] ⟨1, true, none, true⟩) from (Ent.trans (ent_absS (b := 0) (b' := 1) (j := 2) (es' := List.map eI v3.1) (by rw [List.length_map]; exact atL_lt hv2) k k k k (len_map _ _) (okI.frzs _)) (Ent.trans (ent_absS (b := 0) (b' := 2) (j := 3) (es' := List.map eI v5.1) (by rw [List.length_map]; exact atL_lt hv2) k k k k (len_map _ _) (okI.frzs _)) (Ent.trans (ent_absS (b := 0) (b' := 3) (j := 4) (es' := List.map eI v7.1) (by rw [List.length_map]; exact atL_lt hv2) k k k k (len_map _ _) (okI.frzs _)) (Ent.trans (ent_absS (b := 0) (b' := 4) (j := 5) (es' := List.map eM v9.1) (by rw [List.length_map]; exact atL_lt hv2) k k k k (by simp only [len_map, lA, lT, lR, lC, lN, of_decide_eq_true q10]) (okMt.frzs _)) (ent_mk (σ := sg [(0, 0)]) ⟨⟨_, k, ⟨k, k, (by simp only [len_map, lA, lT, lR, lC, lN, of_decide_eq_true q4, of_decide_eq_true q6, of_decide_eq_true q8, of_decide_eq_true q10]), k⟩⟩, (e1 k k), (e1 k k), trivial⟩ (hX ⟨_, k, k, .inl ⟨set_eq (⟨x1.2.1, (⟨wr (x1.2.1 + 1), v3.1, v5.1⟩ : Qv), v7.1, v9.1⟩ : Rp) k, okRp.plainO _⟩⟩ k <| trivial) k)))))) (ent_mk (σ := sg [(0, 0)]) ⟨(oE k k), (e1 k k), (e1 k k), trivial⟩ (hB (okRp.plainO _) k k k <| trivial) k))⟩
  ·refine ac_condF k q1 <| ac_exit <| then_exit <| then_exit ?_
   obtain rfl := so h
   exact ⟨_, k, k, (ent_mk (σ := sg [(0, 0)]) ⟨(e1 k k), trivial⟩ (hB (okRp.plainO _) k k k <| trivial) k)⟩
 ·rintro e t ⟨rfl, hent⟩
  refine block_here <| tn <| ac_ent hent <| sQ <| rgS <| se (eff_move k) k <| se (eff_assign k) k <| sn <| tn <| ac_ret ?_
  obtain rfl := so h
  exact ⟨mkS [(4, .int y11.2)] [(0, ⟨6, List.map (ow eR) y11.1⟩)] 1 [1, 2, 3, 4, 5, 6] ⟨1, true, none, true⟩, (ent_mk (σ := sg [(0, 0)]) ⟨(e1 k k), trivial⟩ (hB (okRp.plainO _) k k k <| trivial) k), k, ⟨_, k, .inl k⟩, ⟨k, trivial⟩⟩

noncomputable def m_laws_markBarS_L1  (x1 : ((List Br) × Int × Int)) : Option (((List Br) × Int × Int) ⊕ ((List Br) × Int)) :=
  bif decide (x1.2.2 < ((x1.1.length : Nat) : Int)) then
    (Option.bind (atL x1.1 x1.2.2) fun v2 =>
    some (.inl ((x1.1.set x1.2.2.toNat (⟨x1.2.1, wr (x1.2.1 + 1), wr ((wr (x1.2.1 + 1)) + 1)⟩ : Br)), wr ((wr ((wr (x1.2.1 + 1)) + 1)) + 1), wr (x1.2.2 + 1))))
  else
    (some (.inr (x1.1, x1.2.1)))

noncomputable def m_laws_markBarS (a0 : (List Br)) (a1 : Int) : Option ((List Br) × Int) :=
  Option.bind (Lp m_laws_markBarS_L1 (a0, a1, 0)) fun y3 =>
  some (y3.1, y3.2)

theorem c_laws_markBarS (a0 : (List Br)) (a1 : Int) (r : ((List Br) × Int)) (h : m_laws_markBarS a0 a1 = some r) : HasT Tryz.prog 33 [.own 0 0 a0.length, .int a1] [(0, ⟨3, List.map (ow eB) a0⟩)] 1 (.int r.2) [(0, ⟨3, List.map (ow eB) r.1⟩)] := by
 refine hasT_mk TT_ok (rvs := [.tmp 4]) (ns := [1, 2]) Tryz.func33 k k Tryz.ntmps33 k k <| sQ <| rgS <| se (eff_assign k) k <| sn <| tn <| sQ <| sQ <| rgS <| se (eff_assign k) k ?_
 refine sn <| tn <| ac_block ?_
 obtain ⟨y3, hy3, h⟩ := ob h
 refine ac_Lp (body := m_laws_markBarS_L1) hy3 (fun (x1 : ((List Br) × Int × Int)) => mkS [(0, .own 0 0 x1.1.length), (1, .int x1.2.1), (5, .int x1.2.2)] [(0, ⟨3, List.map (ow eB) x1.1⟩)] 1 [1, 2] ⟨1, true, none, true⟩) (fun r e t => e = .exit 0 ∧ Ent t (mkS [(1, .int r.2)] [(0, ⟨3, List.map (ow eB) r.1⟩)] 1 [1, 2] ⟨1, true, none, true⟩)) (ent_mk (σ := sg [(0, 0)]) ⟨(oE k k), (e1 k k), (e1 k k), trivial⟩ (hB (okBr.plainO _) k k k <| trivial) k) ?_ ?_
 ·intro x1 o h
  refine sQ <| sQ <| rgS <| se (eff_move k) k <| se (eff_move k) k <| se (w_len_own TT_ok k k k k) k <| se (w_cmp k k k) k <| sn <| tn ?_
  rcases cb h with ⟨q1, h⟩ | ⟨q1, h⟩
  ·refine ac_condT k q1 <| ac_skip <| tn <| sQ <| ac_block <| sQ <| rgS <| se (eff_move k) k <| se (eff_move k) k <| se (eff_move k) k ?_
   obtain ⟨v2, hv2, h⟩ := ob h
   refine sops_ent (t := mkS [(0, .own 0 0 x1.1.length), (1, .int x1.2.1), (5, .int x1.2.2), (6, .int x1.2.2), (7, .own 0 0 x1.1.length), (8, .int ((x1.1.length : Nat) : Int)), (9, .bl (decide (x1.2.2 < ((x1.1.length : Nat) : Int)))), (12, .own 0 0 x1.1.length), (13, .int x1.2.2), (14, .int x1.2.1)] [(0, ⟨3, (List.map (ow eB) x1.1).set x1.2.2.toNat [.int v2.first, .int v2.last, .int v2.count]⟩)] 1 [1, 2] ⟨1, true, none, true⟩) (ent_mk (σ := sg [(0, 0)]) ⟨(oE k k), (e1 k k), (e1 k k), (e1 k k), (oE k k), (e1 k k), (e1 k k), (oE k k), (e1 k k), (e1 k k), trivial⟩ (hX ⟨_, k, k, .inl ⟨open_row (atL_get hv2), set_plain okBr k⟩⟩ k <| trivial) k) <| se (x_at_own TT_ok (atL_nn hv2) (atL_lt hv2) k k k k k k k) k <| se (w_field_ptr TT_ok k k k k k k k) k <| se (x_storeS TT_ok (A := List.map (ow eB) x1.1) (by rw [List.length_map]; exact atL_lt hv2) k k k k k k k) k <| sn <| tn <| sQ <| rgS <| se (eff_move k) k <| se (x_add k k) k ?_
   refine se (eff_assign k) k <| sn <| tn <| sQ <| rgS <| se (eff_move k) k <| se (eff_move k) k <| se (eff_move k) k <| se (x_at_own TT_ok (atL_nn hv2) (atL_lt hv2) k k k k k k k) k <| se (w_field_ptr TT_ok k k k k k k k) k ?_
   refine se (x_storeS TT_ok (A := List.map (ow eB) x1.1) (by rw [List.length_map]; exact atL_lt hv2) k k k k k k k) k <| sn <| tn <| sQ <| rgS <| se (eff_move k) k <| se (x_add k k) k <| se (eff_assign k) k <| sn <| tn ?_
   refine ac_ent (t := mkS [(0, .own 0 0 x1.1.length), (1, .int (wr ((wr (x1.2.1 + 1)) + 1))), (5, .int x1.2.2)] [(0, ⟨3, (List.map (ow eB) x1.1).set x1.2.2.toNat [.int x1.2.1, .int (wr (x1.2.1 + 1)), .int v2.count]⟩)] 1 [1, 2] ⟨1, true, none, true⟩) (ent_mk (σ := sg [(0, 0)]) ⟨(oE k k), (e1 k k), (e1 k k), trivial⟩ (hX ⟨_, k, k, .inr (ent_set (σ := sg [(0, 0)]) (m := 1) (e := eB) (l := x1.1) (i := x1.2.2.toNat) (c := [.int x1.2.1, .int (wr (x1.2.1 + 1)), .int v2.count]) (d := [.int x1.2.1, .int (wr (x1.2.1 + 1)), .int v2.count]) okBr ⟨_, _, k, k, ⟨_, _, k, k, ⟨_, _, k, k, k⟩⟩⟩)⟩ k <| trivial) k) <| sQ <| rgS <| se (eff_move k) k <| se (eff_move k) k <| se (eff_move k) k <| se (x_at_own TT_ok (atL_nn hv2) (atL_lt hv2) k k k k k k k) k <| se (w_field_ptr TT_ok k k k k k k k) k <| se (x_storeS TT_ok (A := List.map (ow eB) x1.1) (by rw [List.length_map]; exact atL_lt hv2) k k k k k k k) k <| sn ?_
   refine tn <| rgS <| se (eff_move k) k <| se (x_add k k) k <| se (eff_assign k) k <| sn <| block_n <| tn <| rgS <| se (eff_move k) k ?_
   refine se (x_add k k) k <| se (eff_assign k) k <| sn <| tn ?_
   obtain rfl := so h
   exact ⟨_, k, (Ent.trans (show Ent _ (mkS [(0, .own 0 0 ((x1.1.set x1.2.2.toNat (⟨x1.2.1, wr (x1.2.1 + 1), wr ((wr (x1.2.1 + 1)) + 1)⟩ : Br)).length)), (1, .int (wr ((wr ((wr (x1.2.1 + 1)) + 1)) + 1))), (5, .int (wr (x1.2.2 + 1)))] [(0, ⟨3, List.map (ow eB) (x1.1.set x1.2.2.toNat (⟨x1.2.1, wr (x1.2.1 + 1), wr ((wr (x1.2.1 + 1)) + 1)⟩ : Br))⟩)] 1 [1, 2] ⟨1, true, none, true⟩) from (ent_mk (σ := sg [(0, 0)]) ⟨⟨_, k, ⟨k, k, (by simp only [len_map, lA, lT, lR, lC, lN]), k⟩⟩, (e1 k k), (e1 k k), trivial⟩ (hX ⟨_, k, k, .inl ⟨set_eq (⟨x1.2.1, wr (x1.2.1 + 1), wr ((wr (x1.2.1 + 1)) + 1)⟩ : Br) k, okBr.plainO _⟩⟩ k <| trivial) k)) (ent_mk (σ := sg [(0, 0)]) ⟨(oE k k), (e1 k k), (e1 k k), trivial⟩ (hB (okBr.plainO _) k k k <| trivial) k))⟩
  ·refine ac_condF k q1 <| ac_exit <| then_exit <| then_exit ?_
   obtain rfl := so h
   exact ⟨_, k, k, (ent_mk (σ := sg [(0, 0)]) ⟨(e1 k k), trivial⟩ (hB (okBr.plainO _) k k k <| trivial) k)⟩
 ·rintro e t ⟨rfl, hent⟩
  refine block_here <| tn <| ac_ent hent <| sQ <| rgS <| se (eff_move k) k <| se (eff_assign k) k <| sn <| tn <| ac_ret ?_
  obtain rfl := so h
  exact ⟨mkS [(4, .int y3.2)] [(0, ⟨3, List.map (ow eB) y3.1⟩)] 1 [1, 2] ⟨1, true, none, true⟩, (ent_mk (σ := sg [(0, 0)]) ⟨(e1 k k), trivial⟩ (hB (okBr.plainO _) k k k <| trivial) k), k, ⟨_, k, .inl k⟩, ⟨k, trivial⟩⟩

noncomputable def m_laws_markClaim (a0 : Cl) (a1 : Int) : Option ((List Int) × (List Int) × (List Int) × (List Mt) × (List Int) × (List Int) × (List Int) × (List Mt) × (List Rp) × (List Mt) × (List Br) × (List Int) × (List Sc) × Int) :=
  Option.bind (m_laws_markRep a0.rep a1) fun v1 =>
  bif decide (v1.1.length = a0.rep.q.src.length) then
    (bif decide (v1.2.1.length = a0.rep.q.tgt.length) then
      (bif decide (v1.2.2.1.length = a0.rep.dims.length) then
        (bif decide (v1.2.2.2.1.length = a0.rep.maps.length) then
          (Option.bind (m_laws_markRep a0.other v1.2.2.2.2) fun v6 =>
          bif decide (v6.1.length = a0.other.q.src.length) then
            (bif decide (v6.2.1.length = a0.other.q.tgt.length) then
              (bif decide (v6.2.2.1.length = a0.other.dims.length) then
                (bif decide (v6.2.2.2.1.length = a0.other.maps.length) then
                  (Option.bind (m_laws_markRepS a0.parts v6.2.2.2.2) fun v11 =>
                  bif decide (v11.1.length = a0.parts.length) then
                    (Option.bind (m_laws_markMatrixS a0.maps v11.2) fun v13 =>
                    bif decide (v13.1.length = a0.maps.length) then
                      (Option.bind (m_laws_markBarS a0.bars v13.2) fun v15 =>
                      bif decide (v15.1.length = a0.bars.length) then
                        (Option.bind (m_laws_markIntS a0.theta v15.2) fun v17 =>
                        bif decide (v17.1.length = a0.theta.length) then
                          (Option.bind (m_laws_markSpaceS a0.subs v17.2) fun v19 =>
                          bif decide (v19.1.length = a0.subs.length) then
                            (some (v1.1, v1.2.1, v1.2.2.1, v1.2.2.2.1, v6.1, v6.2.1, v6.2.2.1, v6.2.2.2.1, v11.1, v13.1, v15.1, v17.1, v19.1, v19.2))
                          else none)
                        else none)
                      else none)
                    else none)
                  else none)
                else none)
              else none)
            else none)
          else none)
        else none)
      else none)
    else none)
  else none

theorem c_laws_markClaim (a0 : Cl) (a1 : Int) (r : ((List Int) × (List Int) × (List Int) × (List Mt) × (List Int) × (List Int) × (List Int) × (List Mt) × (List Rp) × (List Mt) × (List Br) × (List Int) × (List Sc) × Int)) (h : m_laws_markClaim a0 a1 = some r) : HasT Tryz.prog 11 [.agg [.int a0.kind, .int a0.rep.p, .int a0.rep.q.n, .own 0 0 a0.rep.q.src.length, .own 1 0 a0.rep.q.tgt.length, .own 2 0 a0.rep.dims.length, .own 3 0 a0.rep.maps.length, .int a0.other.p, .int a0.other.q.n, .own 4 0 a0.other.q.src.length, .own 5 0 a0.other.q.tgt.length, .own 6 0 a0.other.dims.length, .own 7 0 a0.other.maps.length, .own 8 0 a0.parts.length, .own 9 0 a0.maps.length, .own 10 0 a0.bars.length, .own 11 0 a0.theta.length, .own 12 0 a0.subs.length], .int a1] [(0, ⟨1, List.map (ow eI) a0.rep.q.src⟩), (1, ⟨1, List.map (ow eI) a0.rep.q.tgt⟩), (2, ⟨1, List.map (ow eI) a0.rep.dims⟩), (3, ⟨3, List.map (ow eM) a0.rep.maps⟩), (4, ⟨1, List.map (ow eI) a0.other.q.src⟩), (5, ⟨1, List.map (ow eI) a0.other.q.tgt⟩), (6, ⟨1, List.map (ow eI) a0.other.dims⟩), (7, ⟨3, List.map (ow eM) a0.other.maps⟩), (8, ⟨6, List.map (ow eR) a0.parts⟩), (9, ⟨3, List.map (ow eM) a0.maps⟩), (10, ⟨3, List.map (ow eB) a0.bars⟩), (11, ⟨1, List.map (ow eI) a0.theta⟩), (12, ⟨2, List.map (ow eS) a0.subs⟩)] 13 (.int r.2.2.2.2.2.2.2.2.2.2.2.2.2) [(0, ⟨1, List.map (ow eI) r.1⟩), (1, ⟨1, List.map (ow eI) r.2.1⟩), (2, ⟨1, List.map (ow eI) r.2.2.1⟩), (3, ⟨3, List.map (ow eM) r.2.2.2.1⟩), (4, ⟨1, List.map (ow eI) r.2.2.2.2.1⟩), (5, ⟨1, List.map (ow eI) r.2.2.2.2.2.1⟩), (6, ⟨1, List.map (ow eI) r.2.2.2.2.2.2.1⟩), (7, ⟨3, List.map (ow eM) r.2.2.2.2.2.2.2.1⟩), (8, ⟨6, List.map (ow eR) r.2.2.2.2.2.2.2.2.1⟩), (9, ⟨3, List.map (ow eM) r.2.2.2.2.2.2.2.2.2.1⟩), (10, ⟨3, List.map (ow eB) r.2.2.2.2.2.2.2.2.2.2.1⟩), (11, ⟨1, List.map (ow eI) r.2.2.2.2.2.2.2.2.2.2.2.1⟩), (12, ⟨2, List.map (ow eS) r.2.2.2.2.2.2.2.2.2.2.2.2.1⟩)] := by
 refine hasT_mk TT_ok (rvs := [.tmp 4]) (ns := [13, 14, 15]) Tryz.func11 k k Tryz.ntmps11 k k <| sQ <| rgS <| se (w_box k k k k) k <| se (eff_assign k) k <| sn <| tn <| sQ <| rgS <| se (w_field_ptr TT_ok k k k k k k k) k ?_
 refine se (w_load_ptr TT_ok k k k k k k k) k <| se (eff_move k) k ?_
 obtain ⟨v1, hv1, h⟩ := ob h
 refine sops_ent (t := mkS [(0, .agg [.int a0.kind, .int a0.rep.p, .int a0.rep.q.n, .own 0 0 a0.rep.q.src.length, .own 1 0 a0.rep.q.tgt.length, .own 2 0 a0.rep.dims.length, .own 3 0 a0.rep.maps.length, .int a0.other.p, .int a0.other.q.n, .own 4 0 a0.other.q.src.length, .own 5 0 a0.other.q.tgt.length, .own 6 0 a0.other.dims.length, .own 7 0 a0.other.maps.length, .own 8 0 a0.parts.length, .own 9 0 a0.maps.length, .own 10 0 a0.bars.length, .own 11 0 a0.theta.length, .own 12 0 a0.subs.length]), (1, .int a1), (2, .ptr 13 0 0), (4, .int 0), (5, .ptr 13 0 1), (6, .agg [.int a0.rep.p, .int a0.rep.q.n, .own 0 0 a0.rep.q.src.length, .own 1 0 a0.rep.q.tgt.length, .own 2 0 a0.rep.dims.length, .own 3 0 a0.rep.maps.length]), (7, .int a1)] [(0, ⟨1, List.map (ow eI) a0.rep.q.src⟩), (1, ⟨1, List.map (ow eI) a0.rep.q.tgt⟩), (2, ⟨1, List.map (ow eI) a0.rep.dims⟩), (3, ⟨3, List.map (ow eM) a0.rep.maps⟩), (4, ⟨1, List.map (ow eI) a0.other.q.src⟩), (5, ⟨1, List.map (ow eI) a0.other.q.tgt⟩), (6, ⟨1, List.map (ow eI) a0.other.dims⟩), (7, ⟨3, List.map (ow eM) a0.other.maps⟩), (8, ⟨6, List.map (ow eR) a0.parts⟩), (9, ⟨3, List.map (ow eM) a0.maps⟩), (10, ⟨3, List.map (ow eB) a0.bars⟩), (11, ⟨1, List.map (ow eI) a0.theta⟩), (12, ⟨2, List.map (ow eS) a0.subs⟩), (13, ⟨18, [[.int a0.kind, .int a0.rep.p, .int a0.rep.q.n, .own 0 0 a0.rep.q.src.length, .own 1 0 a0.rep.q.tgt.length, .own 2 0 a0.rep.dims.length, .own 3 0 a0.rep.maps.length, .int a0.other.p, .int a0.other.q.n, .own 4 0 a0.other.q.src.length, .own 5 0 a0.other.q.tgt.length, .own 6 0 a0.other.dims.length, .own 7 0 a0.other.maps.length, .own 8 0 a0.parts.length, .own 9 0 a0.maps.length, .own 10 0 a0.bars.length, .own 11 0 a0.theta.length, .own 12 0 a0.subs.length]]⟩)] 14 [14, 15] ⟨13, true, none, true⟩) (ent_mk (σ := sg [(0, 0), (1, 1), (2, 2), (3, 3), (4, 4), (5, 5), (6, 6), (7, 7), (8, 8), (9, 9), (10, 10), (11, 11), (12, 12), (13, 13)]) ⟨⟨_, k, ⟨_, _, k, k, ⟨_, _, k, k, ⟨_, _, k, k, ⟨_, _, k, ⟨k, k, k, k⟩, ⟨_, _, k, ⟨k, k, k, k⟩, ⟨_, _, k, ⟨k, k, k, k⟩, ⟨_, _, k, ⟨k, k, k, k⟩, ⟨_, _, k, k, ⟨_, _, k, k, ⟨_, _, k, ⟨k, k, k, k⟩, ⟨_, _, k, ⟨k, k, k, k⟩, ⟨_, _, k, ⟨k, k, k, k⟩, ⟨_, _, k, ⟨k, k, k, k⟩, ⟨_, _, k, ⟨k, k, k, k⟩, ⟨_, _, k, ⟨k, k, k, k⟩, ⟨_, _, k, ⟨k, k, k, k⟩, ⟨_, _, k, ⟨k, k, k, k⟩, ⟨_, _, k, ⟨k, k, k, k⟩, k⟩⟩⟩⟩⟩⟩⟩⟩⟩⟩⟩⟩⟩⟩⟩⟩⟩⟩⟩, (e1 k k), (pE k k), (e1 k k), (pE k k), ⟨_, k, ⟨_, _, k, k, ⟨_, _, k, k, ⟨_, _, k, ⟨k, k, k, k⟩, ⟨_, _, k, ⟨k, k, k, k⟩, ⟨_, _, k, ⟨k, k, k, k⟩, ⟨_, _, k, ⟨k, k, k, k⟩, k⟩⟩⟩⟩⟩⟩⟩, (e1 k k), trivial⟩ (hI k k k <| hI k k k <| hI k k k <| hB (okMt.plainO _) k k k <| hI k k k <| hI k k k <| hI k k k <| hB (okMt.plainO _) k k k <| hB (okRp.plainO _) k k k <| hB (okMt.plainO _) k k k <| hB (okBr.plainO _) k k k <| hI k k k <| hB (okSc.plainO _) k k k <| hX ⟨_, k, k, .inr ⟨_, _, k, ⟨_, _, k, k, ⟨_, _, k, k, ⟨_, _, k, k, ⟨_, _, k, ⟨k, k, k, k⟩, ⟨_, _, k, ⟨k, k, k, k⟩, ⟨_, _, k, ⟨k, k, k, k⟩, ⟨_, _, k, ⟨k, k, k, k⟩, ⟨_, _, k, k, ⟨_, _, k, k, ⟨_, _, k, ⟨k, k, k, k⟩, ⟨_, _, k, ⟨k, k, k, k⟩, ⟨_, _, k, ⟨k, k, k, k⟩, ⟨_, _, k, ⟨k, k, k, k⟩, ⟨_, _, k, ⟨k, k, k, k⟩, ⟨_, _, k, ⟨k, k, k, k⟩, ⟨_, _, k, ⟨k, k, k, k⟩, ⟨_, _, k, ⟨k, k, k, k⟩, ⟨_, _, k, ⟨k, k, k, k⟩, k⟩⟩⟩⟩⟩⟩⟩⟩⟩⟩⟩⟩⟩⟩⟩⟩⟩⟩, k⟩⟩ k <| trivial) k) ?_
 refine sops_T (σ := sg [(0, 0), (1, 1), (2, 2), (3, 3)]) (σ' := sg [(0, 0), (1, 1), (2, 2), (3, 3)]) (touch := [0, 1, 2, 3]) (news := []) (hl2 := [(0, ⟨1, List.map (ow eI) v1.1⟩), (1, ⟨1, List.map (ow eI) v1.2.1⟩), (2, ⟨1, List.map (ow eI) v1.2.2.1⟩), (3, ⟨3, List.map (ow eM) v1.2.2.2.1⟩)]) (n' := 14) (r2 := .int v1.2.2.2.2) (c_laws_markRep a0.rep a1 v1 hv1) k k ⟨_, _, k, ⟨_, _, k, k, ⟨_, _, k, k, ⟨_, _, k, ⟨k, k, k, k⟩, ⟨_, _, k, ⟨k, k, k, k⟩, ⟨_, _, k, ⟨k, k, k, k⟩, ⟨_, _, k, ⟨k, k, k, k⟩, k⟩⟩⟩⟩⟩⟩, ⟨_, _, k, k, k⟩⟩ ⟨⟨_, k, k, .inl ⟨k, okI.plainO _⟩⟩, k, ⟨_, k, k, .inl ⟨k, okI.plainO _⟩⟩, k, ⟨_, k, k, .inl ⟨k, okI.plainO _⟩⟩, k, ⟨_, k, k, .inl ⟨k, okMt.plainO _⟩⟩, k, trivial⟩ k k k ⟨⟨_, k, k, .inl ⟨k, okI.plainO _⟩⟩, k, ⟨_, k, k, .inl ⟨k, okI.plainO _⟩⟩, k, ⟨_, k, k, .inl ⟨k, okI.plainO _⟩⟩, k, ⟨_, k, k, .inl ⟨k, okMt.plainO _⟩⟩, k, trivial⟩ k k k ⟨k, okI.tame _ _, ⟨k, okI.tame _ _, ⟨k, okI.tame _ _, ⟨k, okMt.tame _ _, trivial⟩⟩⟩⟩ k k k k k (dfE_ok ⟨k, k, k, k, k, k, k, trivial⟩) (dfH_ok (skip := [0, 1, 2, 3]) ⟨.inl (by decide), .inl (by decide), .inl (by decide), .inl (by decide), .inr (okI.df _ _), .inr (okI.df _ _), .inr (okI.df _ _), .inr (okMt.df _ _), .inr (okRp.df _ _), .inr (okMt.df _ _), .inr (okBr.df _ _), .inr (okI.df _ _), .inr (okSc.df _ _), .inr (df_lit k), trivial⟩) ?_
 obtain ⟨q2, h⟩ := cg h
 obtain ⟨q3, h⟩ := cg h
 obtain ⟨q4, h⟩ := cg h
 obtain ⟨q5, h⟩ := cg h
 refine se (eff_assign k) k <| sn <| tn <| sQ <| rgS <| se (w_field_ptr TT_ok k k k k k k k) k <| se (w_load_ptr TT_ok k k k k k k k) k <| se (eff_move k) k ?_
 obtain ⟨v6, hv6, h⟩ := ob h
 refine sops_ent (t := mkS [(0, .agg [.int a0.kind, .int a0.rep.p, .int a0.rep.q.n, .own 0 0 a0.rep.q.src.length, .own 1 0 a0.rep.q.tgt.length, .own 2 0 a0.rep.dims.length, .own 3 0 a0.rep.maps.length, .int a0.other.p, .int a0.other.q.n, .own 4 0 a0.other.q.src.length, .own 5 0 a0.other.q.tgt.length, .own 6 0 a0.other.dims.length, .own 7 0 a0.other.maps.length, .own 8 0 a0.parts.length, .own 9 0 a0.maps.length, .own 10 0 a0.bars.length, .own 11 0 a0.theta.length, .own 12 0 a0.subs.length]), (1, .int v1.2.2.2.2), (2, .ptr 13 0 0), (4, .int 0), (5, .ptr 13 0 1), (6, .agg [.int a0.rep.p, .int a0.rep.q.n, .own 0 0 a0.rep.q.src.length, .own 1 0 a0.rep.q.tgt.length, .own 2 0 a0.rep.dims.length, .own 3 0 a0.rep.maps.length]), (7, .int a1), (8, .int v1.2.2.2.2), (9, .ptr 13 0 7), (10, .agg [.int a0.other.p, .int a0.other.q.n, .own 4 0 a0.other.q.src.length, .own 5 0 a0.other.q.tgt.length, .own 6 0 a0.other.dims.length, .own 7 0 a0.other.maps.length]), (11, .int v1.2.2.2.2)] [(0, ⟨1, List.map (ow eI) v1.1⟩), (1, ⟨1, List.map (ow eI) v1.2.1⟩), (2, ⟨1, List.map (ow eI) v1.2.2.1⟩), (3, ⟨3, List.map (ow eM) v1.2.2.2.1⟩), (4, ⟨1, List.map (ow eI) a0.other.q.src⟩), (5, ⟨1, List.map (ow eI) a0.other.q.tgt⟩), (6, ⟨1, List.map (ow eI) a0.other.dims⟩), (7, ⟨3, List.map (ow eM) a0.other.maps⟩), (8, ⟨6, List.map (ow eR) a0.parts⟩), (9, ⟨3, List.map (ow eM) a0.maps⟩), (10, ⟨3, List.map (ow eB) a0.bars⟩), (11, ⟨1, List.map (ow eI) a0.theta⟩), (12, ⟨2, List.map (ow eS) a0.subs⟩), (13, ⟨18, [[.int a0.kind, .int a0.rep.p, .int a0.rep.q.n, .own 0 0 a0.rep.q.src.length, .own 1 0 a0.rep.q.tgt.length, .own 2 0 a0.rep.dims.length, .own 3 0 a0.rep.maps.length, .int a0.other.p, .int a0.other.q.n, .own 4 0 a0.other.q.src.length, .own 5 0 a0.other.q.tgt.length, .own 6 0 a0.other.dims.length, .own 7 0 a0.other.maps.length, .own 8 0 a0.parts.length, .own 9 0 a0.maps.length, .own 10 0 a0.bars.length, .own 11 0 a0.theta.length, .own 12 0 a0.subs.length]]⟩)] 14 [14, 15] ⟨13, true, none, true⟩) (ent_mk (σ := sg [(0, 0), (1, 1), (2, 2), (3, 3), (4, 4), (5, 5), (6, 6), (7, 7), (8, 8), (9, 9), (10, 10), (11, 11), (12, 12), (13, 13)]) ⟨⟨_, k, ⟨_, _, k, k, ⟨_, _, k, k, ⟨_, _, k, k, ⟨_, _, k, ⟨k, k, k, k⟩, ⟨_, _, k, ⟨k, k, k, k⟩, ⟨_, _, k, ⟨k, k, k, k⟩, ⟨_, _, k, ⟨k, k, k, k⟩, ⟨_, _, k, k, ⟨_, _, k, k, ⟨_, _, k, ⟨k, k, k, k⟩, ⟨_, _, k, ⟨k, k, k, k⟩, ⟨_, _, k, ⟨k, k, k, k⟩, ⟨_, _, k, ⟨k, k, k, k⟩, ⟨_, _, k, ⟨k, k, k, k⟩, ⟨_, _, k, ⟨k, k, k, k⟩, ⟨_, _, k, ⟨k, k, k, k⟩, ⟨_, _, k, ⟨k, k, k, k⟩, ⟨_, _, k, ⟨k, k, k, k⟩, k⟩⟩⟩⟩⟩⟩⟩⟩⟩⟩⟩⟩⟩⟩⟩⟩⟩⟩⟩, (e1 k k), (pE k k), (e1 k k), (pE k k), ⟨_, k, ⟨_, _, k, k, ⟨_, _, k, k, ⟨_, _, k, ⟨k, k, k, k⟩, ⟨_, _, k, ⟨k, k, k, k⟩, ⟨_, _, k, ⟨k, k, k, k⟩, ⟨_, _, k, ⟨k, k, k, k⟩, k⟩⟩⟩⟩⟩⟩⟩, (e1 k k), (e1 k k), (pE k k), ⟨_, k, ⟨_, _, k, k, ⟨_, _, k, k, ⟨_, _, k, ⟨k, k, k, k⟩, ⟨_, _, k, ⟨k, k, k, k⟩, ⟨_, _, k, ⟨k, k, k, k⟩, ⟨_, _, k, ⟨k, k, k, k⟩, k⟩⟩⟩⟩⟩⟩⟩, (e1 k k), trivial⟩ (hI k k k <| hI k k k <| hI k k k <| hB (okMt.plainO _) k k k <| hI k k k <| hI k k k <| hI k k k <| hB (okMt.plainO _) k k k <| hB (okRp.plainO _) k k k <| hB (okMt.plainO _) k k k <| hB (okBr.plainO _) k k k <| hI k k k <| hB (okSc.plainO _) k k k <| hX ⟨_, k, k, .inr ⟨_, _, k, ⟨_, _, k, k, ⟨_, _, k, k, ⟨_, _, k, k, ⟨_, _, k, ⟨k, k, k, k⟩, ⟨_, _, k, ⟨k, k, k, k⟩, ⟨_, _, k, ⟨k, k, k, k⟩, ⟨_, _, k, ⟨k, k, k, k⟩, ⟨_, _, k, k, ⟨_, _, k, k, ⟨_, _, k, ⟨k, k, k, k⟩, ⟨_, _, k, ⟨k, k, k, k⟩, ⟨_, _, k, ⟨k, k, k, k⟩, ⟨_, _, k, ⟨k, k, k, k⟩, ⟨_, _, k, ⟨k, k, k, k⟩, ⟨_, _, k, ⟨k, k, k, k⟩, ⟨_, _, k, ⟨k, k, k, k⟩, ⟨_, _, k, ⟨k, k, k, k⟩, ⟨_, _, k, ⟨k, k, k, k⟩, k⟩⟩⟩⟩⟩⟩⟩⟩⟩⟩⟩⟩⟩⟩⟩⟩⟩⟩, k⟩⟩ k <| trivial) k) ?_
 refine sops_T (σ := sg [(0, 4), (1, 5), (2, 6), (3, 7)]) (σ' := sg [(4, 0), (5, 1), (6, 2), (7, 3)]) (touch := [4, 5, 6, 7]) (news := []) (hl2 := [(4, ⟨1, List.map (ow eI) v6.1⟩), (5, ⟨1, List.map (ow eI) v6.2.1⟩), (6, ⟨1, List.map (ow eI) v6.2.2.1⟩), (7, ⟨3, List.map (ow eM) v6.2.2.2.1⟩)]) (n' := 14) (r2 := .int v6.2.2.2.2) (c_laws_markRep a0.other v1.2.2.2.2 v6 hv6) k k ⟨_, _, k, ⟨_, _, k, k, ⟨_, _, k, k, ⟨_, _, k, ⟨k, k, k, k⟩, ⟨_, _, k, ⟨k, k, k, k⟩, ⟨_, _, k, ⟨k, k, k, k⟩, ⟨_, _, k, ⟨k, k, k, k⟩, k⟩⟩⟩⟩⟩⟩, ⟨_, _, k, k, k⟩⟩ ⟨⟨_, k, k, .inl ⟨k, okI.plainO _⟩⟩, k, ⟨_, k, k, .inl ⟨k, okI.plainO _⟩⟩, k, ⟨_, k, k, .inl ⟨k, okI.plainO _⟩⟩, k, ⟨_, k, k, .inl ⟨k, okMt.plainO _⟩⟩, k, trivial⟩ k k k ⟨⟨_, k, k, .inl ⟨k, okI.plainO _⟩⟩, k, ⟨_, k, k, .inl ⟨k, okI.plainO _⟩⟩, k, ⟨_, k, k, .inl ⟨k, okI.plainO _⟩⟩, k, ⟨_, k, k, .inl ⟨k, okMt.plainO _⟩⟩, k, trivial⟩ k k k ⟨k, okI.tame _ _, ⟨k, okI.tame _ _, ⟨k, okI.tame _ _, ⟨k, okMt.tame _ _, trivial⟩⟩⟩⟩ k k k k k (dfE_ok ⟨k, k, k, k, k, k, k, k, k, k, k, trivial⟩) (dfH_ok (skip := [4, 5, 6, 7]) ⟨.inr (okI.df _ _), .inr (okI.df _ _), .inr (okI.df _ _), .inr (okMt.df _ _), .inl (by decide), .inl (by decide), .inl (by decide), .inl (by decide), .inr (okRp.df _ _), .inr (okMt.df _ _), .inr (okBr.df _ _), .inr (okI.df _ _), .inr (okSc.df _ _), .inr (df_lit k), trivial⟩) ?_
 obtain ⟨q7, h⟩ := cg h
 obtain ⟨q8, h⟩ := cg h
 obtain ⟨q9, h⟩ := cg h
 obtain ⟨q10, h⟩ := cg h
 refine se (eff_assign k) k <| sn <| tn <| sQ <| rgS <| se (w_field_ptr TT_ok k k k k k k k) k <| se (w_load_ptr TT_ok k k k k k k k) k <| se (eff_move k) k ?_
 obtain ⟨v11, hv11, h⟩ := ob h
 refine sops_ent (t := mkS [(0, .agg [.int a0.kind, .int a0.rep.p, .int a0.rep.q.n, .own 0 0 a0.rep.q.src.length, .own 1 0 a0.rep.q.tgt.length, .own 2 0 a0.rep.dims.length, .own 3 0 a0.rep.maps.length, .int a0.other.p, .int a0.other.q.n, .own 4 0 a0.other.q.src.length, .own 5 0 a0.other.q.tgt.length, .own 6 0 a0.other.dims.length, .own 7 0 a0.other.maps.length, .own 8 0 a0.parts.length, .own 9 0 a0.maps.length, .own 10 0 a0.bars.length, .own 11 0 a0.theta.length, .own 12 0 a0.subs.length]), (1, .int v6.2.2.2.2), (2, .ptr 13 0 0), (4, .int 0), (5, .ptr 13 0 1), (6, .agg [.int a0.rep.p, .int a0.rep.q.n, .own 0 0 a0.rep.q.src.length, .own 1 0 a0.rep.q.tgt.length, .own 2 0 a0.rep.dims.length, .own 3 0 a0.rep.maps.length]), (7, .int a1), (8, .int v1.2.2.2.2), (9, .ptr 13 0 7), (10, .agg [.int a0.other.p, .int a0.other.q.n, .own 4 0 a0.other.q.src.length, .own 5 0 a0.other.q.tgt.length, .own 6 0 a0.other.dims.length, .own 7 0 a0.other.maps.length]), (11, .int v1.2.2.2.2), (12, .int v6.2.2.2.2), (13, .ptr 13 0 13), (14, .own 8 0 a0.parts.length), (15, .int v6.2.2.2.2)] [(0, ⟨1, List.map (ow eI) v1.1⟩), (1, ⟨1, List.map (ow eI) v1.2.1⟩), (2, ⟨1, List.map (ow eI) v1.2.2.1⟩), (3, ⟨3, List.map (ow eM) v1.2.2.2.1⟩), (4, ⟨1, List.map (ow eI) v6.1⟩), (5, ⟨1, List.map (ow eI) v6.2.1⟩), (6, ⟨1, List.map (ow eI) v6.2.2.1⟩), (7, ⟨3, List.map (ow eM) v6.2.2.2.1⟩), (8, ⟨6, List.map (ow eR) a0.parts⟩), (9, ⟨3, List.map (ow eM) a0.maps⟩), (10, ⟨3, List.map (ow eB) a0.bars⟩), (11, ⟨1, List.map (ow eI) a0.theta⟩), (12, ⟨2, List.map (ow eS) a0.subs⟩), (13, ⟨18, [[.int a0.kind, .int a0.rep.p, .int a0.rep.q.n, .own 0 0 a0.rep.q.src.length, .own 1 0 a0.rep.q.tgt.length, .own 2 0 a0.rep.dims.length, .own 3 0 a0.rep.maps.length, .int a0.other.p, .int a0.other.q.n, .own 4 0 a0.other.q.src.length, .own 5 0 a0.other.q.tgt.length, .own 6 0 a0.other.dims.length, .own 7 0 a0.other.maps.length, .own 8 0 a0.parts.length, .own 9 0 a0.maps.length, .own 10 0 a0.bars.length, .own 11 0 a0.theta.length, .own 12 0 a0.subs.length]]⟩)] 14 [14, 15] ⟨13, true, none, true⟩) (ent_mk (σ := sg [(0, 0), (1, 1), (2, 2), (3, 3), (4, 4), (5, 5), (6, 6), (7, 7), (8, 8), (9, 9), (10, 10), (11, 11), (12, 12), (13, 13)]) ⟨⟨_, k, ⟨_, _, k, k, ⟨_, _, k, k, ⟨_, _, k, k, ⟨_, _, k, ⟨k, k, k, k⟩, ⟨_, _, k, ⟨k, k, k, k⟩, ⟨_, _, k, ⟨k, k, k, k⟩, ⟨_, _, k, ⟨k, k, k, k⟩, ⟨_, _, k, k, ⟨_, _, k, k, ⟨_, _, k, ⟨k, k, k, k⟩, ⟨_, _, k, ⟨k, k, k, k⟩, ⟨_, _, k, ⟨k, k, k, k⟩, ⟨_, _, k, ⟨k, k, k, k⟩, ⟨_, _, k, ⟨k, k, k, k⟩, ⟨_, _, k, ⟨k, k, k, k⟩, ⟨_, _, k, ⟨k, k, k, k⟩, ⟨_, _, k, ⟨k, k, k, k⟩, ⟨_, _, k, ⟨k, k, k, k⟩, k⟩⟩⟩⟩⟩⟩⟩⟩⟩⟩⟩⟩⟩⟩⟩⟩⟩⟩⟩, (e1 k k), (pE k k), (e1 k k), (pE k k), ⟨_, k, ⟨_, _, k, k, ⟨_, _, k, k, ⟨_, _, k, ⟨k, k, k, k⟩, ⟨_, _, k, ⟨k, k, k, k⟩, ⟨_, _, k, ⟨k, k, k, k⟩, ⟨_, _, k, ⟨k, k, k, k⟩, k⟩⟩⟩⟩⟩⟩⟩, (e1 k k), (e1 k k), (pE k k), ⟨_, k, ⟨_, _, k, k, ⟨_, _, k, k, ⟨_, _, k, ⟨k, k, k, k⟩, ⟨_, _, k, ⟨k, k, k, k⟩, ⟨_, _, k, ⟨k, k, k, k⟩, ⟨_, _, k, ⟨k, k, k, k⟩, k⟩⟩⟩⟩⟩⟩⟩, (e1 k k), (e1 k k), (pE k k), (oE k k), (e1 k k), trivial⟩ (hI k k k <| hI k k k <| hI k k k <| hB (okMt.plainO _) k k k <| hI k k k <| hI k k k <| hI k k k <| hB (okMt.plainO _) k k k <| hB (okRp.plainO _) k k k <| hB (okMt.plainO _) k k k <| hB (okBr.plainO _) k k k <| hI k k k <| hB (okSc.plainO _) k k k <| hX ⟨_, k, k, .inr ⟨_, _, k, ⟨_, _, k, k, ⟨_, _, k, k, ⟨_, _, k, k, ⟨_, _, k, ⟨k, k, k, k⟩, ⟨_, _, k, ⟨k, k, k, k⟩, ⟨_, _, k, ⟨k, k, k, k⟩, ⟨_, _, k, ⟨k, k, k, k⟩, ⟨_, _, k, k, ⟨_, _, k, k, ⟨_, _, k, ⟨k, k, k, k⟩, ⟨_, _, k, ⟨k, k, k, k⟩, ⟨_, _, k, ⟨k, k, k, k⟩, ⟨_, _, k, ⟨k, k, k, k⟩, ⟨_, _, k, ⟨k, k, k, k⟩, ⟨_, _, k, ⟨k, k, k, k⟩, ⟨_, _, k, ⟨k, k, k, k⟩, ⟨_, _, k, ⟨k, k, k, k⟩, ⟨_, _, k, ⟨k, k, k, k⟩, k⟩⟩⟩⟩⟩⟩⟩⟩⟩⟩⟩⟩⟩⟩⟩⟩⟩⟩, k⟩⟩ k <| trivial) k) ?_
 refine sops_T (σ := sg [(0, 8)]) (σ' := sg [(8, 0)]) (touch := [8]) (news := []) (hl2 := [(8, ⟨6, List.map (ow eR) v11.1⟩)]) (n' := 14) (r2 := .int v11.2) (c_laws_markRepS a0.parts v6.2.2.2.2 v11 hv11) k k ⟨_, _, k, ⟨k, k, k, k⟩, ⟨_, _, k, k, k⟩⟩ ⟨⟨_, k, k, .inl ⟨k, okRp.plainO _⟩⟩, k, trivial⟩ k k k ⟨⟨_, k, k, .inl ⟨k, okRp.plainO _⟩⟩, k, trivial⟩ k k k ⟨k, okRp.tame _ _, trivial⟩ k k k k k (dfE_ok ⟨k, k, k, k, k, k, k, k, k, k, k, k, k, k, k, trivial⟩) (dfH_ok (skip := [8]) ⟨.inr (okI.df _ _), .inr (okI.df _ _), .inr (okI.df _ _), .inr (okMt.df _ _), .inr (okI.df _ _), .inr (okI.df _ _), .inr (okI.df _ _), .inr (okMt.df _ _), .inl (by decide), .inr (okMt.df _ _), .inr (okBr.df _ _), .inr (okI.df _ _), .inr (okSc.df _ _), .inr (df_lit k), trivial⟩) ?_
 obtain ⟨q12, h⟩ := cg h
 refine se (eff_assign k) k <| sn <| tn <| sQ <| rgS <| se (w_field_ptr TT_ok k k k k k k k) k <| se (w_load_ptr TT_ok k k k k k k k) k <| se (eff_move k) k ?_
 obtain ⟨v13, hv13, h⟩ := ob h
 refine sops_ent (t := mkS [(0, .agg [.int a0.kind, .int a0.rep.p, .int a0.rep.q.n, .own 0 0 a0.rep.q.src.length, .own 1 0 a0.rep.q.tgt.length, .own 2 0 a0.rep.dims.length, .own 3 0 a0.rep.maps.length, .int a0.other.p, .int a0.other.q.n, .own 4 0 a0.other.q.src.length, .own 5 0 a0.other.q.tgt.length, .own 6 0 a0.other.dims.length, .own 7 0 a0.other.maps.length, .own 8 0 a0.parts.length, .own 9 0 a0.maps.length, .own 10 0 a0.bars.length, .own 11 0 a0.theta.length, .own 12 0 a0.subs.length]), (1, .int v11.2), (2, .ptr 13 0 0), (4, .int 0), (5, .ptr 13 0 1), (6, .agg [.int a0.rep.p, .int a0.rep.q.n, .own 0 0 a0.rep.q.src.length, .own 1 0 a0.rep.q.tgt.length, .own 2 0 a0.rep.dims.length, .own 3 0 a0.rep.maps.length]), (7, .int a1), (8, .int v1.2.2.2.2), (9, .ptr 13 0 7), (10, .agg [.int a0.other.p, .int a0.other.q.n, .own 4 0 a0.other.q.src.length, .own 5 0 a0.other.q.tgt.length, .own 6 0 a0.other.dims.length, .own 7 0 a0.other.maps.length]), (11, .int v1.2.2.2.2), (12, .int v6.2.2.2.2), (13, .ptr 13 0 13), (14, .own 8 0 a0.parts.length), (15, .int v6.2.2.2.2), (16, .int v11.2), (17, .ptr 13 0 14), (18, .own 9 0 a0.maps.length), (19, .int v11.2)] [(0, ⟨1, List.map (ow eI) v1.1⟩), (1, ⟨1, List.map (ow eI) v1.2.1⟩), (2, ⟨1, List.map (ow eI) v1.2.2.1⟩), (3, ⟨3, List.map (ow eM) v1.2.2.2.1⟩), (4, ⟨1, List.map (ow eI) v6.1⟩), (5, ⟨1, List.map (ow eI) v6.2.1⟩), (6, ⟨1, List.map (ow eI) v6.2.2.1⟩), (7, ⟨3, List.map (ow eM) v6.2.2.2.1⟩), (8, ⟨6, List.map (ow eR) v11.1⟩), (9, ⟨3, List.map (ow eM) a0.maps⟩), (10, ⟨3, List.map (ow eB) a0.bars⟩), (11, ⟨1, List.map (ow eI) a0.theta⟩), (12, ⟨2, List.map (ow eS) a0.subs⟩), (13, ⟨18, [[.int a0.kind, .int a0.rep.p, .int a0.rep.q.n, .own 0 0 a0.rep.q.src.length, .own 1 0 a0.rep.q.tgt.length, .own 2 0 a0.rep.dims.length, .own 3 0 a0.rep.maps.length, .int a0.other.p, .int a0.other.q.n, .own 4 0 a0.other.q.src.length, .own 5 0 a0.other.q.tgt.length, .own 6 0 a0.other.dims.length, .own 7 0 a0.other.maps.length, .own 8 0 a0.parts.length, .own 9 0 a0.maps.length, .own 10 0 a0.bars.length, .own 11 0 a0.theta.length, .own 12 0 a0.subs.length]]⟩)] 14 [14, 15] ⟨13, true, none, true⟩) (ent_mk (σ := sg [(0, 0), (1, 1), (2, 2), (3, 3), (4, 4), (5, 5), (6, 6), (7, 7), (8, 8), (9, 9), (10, 10), (11, 11), (12, 12), (13, 13)]) ⟨⟨_, k, ⟨_, _, k, k, ⟨_, _, k, k, ⟨_, _, k, k, ⟨_, _, k, ⟨k, k, k, k⟩, ⟨_, _, k, ⟨k, k, k, k⟩, ⟨_, _, k, ⟨k, k, k, k⟩, ⟨_, _, k, ⟨k, k, k, k⟩, ⟨_, _, k, k, ⟨_, _, k, k, ⟨_, _, k, ⟨k, k, k, k⟩, ⟨_, _, k, ⟨k, k, k, k⟩, ⟨_, _, k, ⟨k, k, k, k⟩, ⟨_, _, k, ⟨k, k, k, k⟩, ⟨_, _, k, ⟨k, k, k, k⟩, ⟨_, _, k, ⟨k, k, k, k⟩, ⟨_, _, k, ⟨k, k, k, k⟩, ⟨_, _, k, ⟨k, k, k, k⟩, ⟨_, _, k, ⟨k, k, k, k⟩, k⟩⟩⟩⟩⟩⟩⟩⟩⟩⟩⟩⟩⟩⟩⟩⟩⟩⟩⟩, (e1 k k), (pE k k), (e1 k k), (pE k k), ⟨_, k, ⟨_, _, k, k, ⟨_, _, k, k, ⟨_, _, k, ⟨k, k, k, k⟩, ⟨_, _, k, ⟨k, k, k, k⟩, ⟨_, _, k, ⟨k, k, k, k⟩, ⟨_, _, k, ⟨k, k, k, k⟩, k⟩⟩⟩⟩⟩⟩⟩, (e1 k k), (e1 k k), (pE k k), ⟨_, k, ⟨_, _, k, k, ⟨_, _, k, k, ⟨_, _, k, ⟨k, k, k, k⟩, ⟨_, _, k, ⟨k, k, k, k⟩, ⟨_, _, k, ⟨k, k, k, k⟩, ⟨_, _, k, ⟨k, k, k, k⟩, k⟩⟩⟩⟩⟩⟩⟩, (e1 k k), (e1 k k), (pE k k), (oE k k), (e1 k k), (e1 k k), (pE k k), (oE k k), (e1 k k), trivial⟩ (hI k k k <| hI k k k <| hI k k k <| hB (okMt.plainO _) k k k <| hI k k k <| hI k k k <| hI k k k <| hB (okMt.plainO _) k k k <| hB (okRp.plainO _) k k k <| hB (okMt.plainO _) k k k <| hB (okBr.plainO _) k k k <| hI k k k <| hB (okSc.plainO _) k k k <| hX ⟨_, k, k, .inr ⟨_, _, k, ⟨_, _, k, k, ⟨_, _, k, k, ⟨_, _, k, k, ⟨_, _, k, ⟨k, k, k, k⟩, ⟨_, _, k, ⟨k, k, k, k⟩, ⟨_, _, k, ⟨k, k, k, k⟩, ⟨_, _, k, ⟨k, k, k, k⟩, ⟨_, _, k, k, ⟨_, _, k, k, ⟨_, _, k, ⟨k, k, k, k⟩, ⟨_, _, k, ⟨k, k, k, k⟩, ⟨_, _, k, ⟨k, k, k, k⟩, ⟨_, _, k, ⟨k, k, k, k⟩, ⟨_, _, k, ⟨k, k, k, k⟩, ⟨_, _, k, ⟨k, k, k, k⟩, ⟨_, _, k, ⟨k, k, k, k⟩, ⟨_, _, k, ⟨k, k, k, k⟩, ⟨_, _, k, ⟨k, k, k, k⟩, k⟩⟩⟩⟩⟩⟩⟩⟩⟩⟩⟩⟩⟩⟩⟩⟩⟩⟩, k⟩⟩ k <| trivial) k) ?_
 refine sops_T (σ := sg [(0, 9)]) (σ' := sg [(9, 0)]) (touch := [9]) (news := []) (hl2 := [(9, ⟨3, List.map (ow eM) v13.1⟩)]) (n' := 14) (r2 := .int v13.2) (c_laws_markMatrixS a0.maps v11.2 v13 hv13) k k ⟨_, _, k, ⟨k, k, k, k⟩, ⟨_, _, k, k, k⟩⟩ ⟨⟨_, k, k, .inl ⟨k, okMt.plainO _⟩⟩, k, trivial⟩ k k k ⟨⟨_, k, k, .inl ⟨k, okMt.plainO _⟩⟩, k, trivial⟩ k k k ⟨k, okMt.tame _ _, trivial⟩ k k k k k (dfE_ok ⟨k, k, k, k, k, k, k, k, k, k, k, k, k, k, k, k, k, k, k, trivial⟩) (dfH_ok (skip := [9]) ⟨.inr (okI.df _ _), .inr (okI.df _ _), .inr (okI.df _ _), .inr (okMt.df _ _), .inr (okI.df _ _), .inr (okI.df _ _), .inr (okI.df _ _), .inr (okMt.df _ _), .inr (okRp.df _ _), .inl (by decide), .inr (okBr.df _ _), .inr (okI.df _ _), .inr (okSc.df _ _), .inr (df_lit k), trivial⟩) ?_
 obtain ⟨q14, h⟩ := cg h
 refine se (eff_assign k) k <| sn <| tn <| sQ <| rgS <| se (w_field_ptr TT_ok k k k k k k k) k <| se (w_load_ptr TT_ok k k k k k k k) k <| se (eff_move k) k ?_
 obtain ⟨v15, hv15, h⟩ := ob h
 refine sops_ent (t := mkS [(0, .agg [.int a0.kind, .int a0.rep.p, .int a0.rep.q.n, .own 0 0 a0.rep.q.src.length, .own 1 0 a0.rep.q.tgt.length, .own 2 0 a0.rep.dims.length, .own 3 0 a0.rep.maps.length, .int a0.other.p, .int a0.other.q.n, .own 4 0 a0.other.q.src.length, .own 5 0 a0.other.q.tgt.length, .own 6 0 a0.other.dims.length, .own 7 0 a0.other.maps.length, .own 8 0 a0.parts.length, .own 9 0 a0.maps.length, .own 10 0 a0.bars.length, .own 11 0 a0.theta.length, .own 12 0 a0.subs.length]), (1, .int v13.2), (2, .ptr 13 0 0), (4, .int 0), (5, .ptr 13 0 1), (6, .agg [.int a0.rep.p, .int a0.rep.q.n, .own 0 0 a0.rep.q.src.length, .own 1 0 a0.rep.q.tgt.length, .own 2 0 a0.rep.dims.length, .own 3 0 a0.rep.maps.length]), (7, .int a1), (8, .int v1.2.2.2.2), (9, .ptr 13 0 7), (10, .agg [.int a0.other.p, .int a0.other.q.n, .own 4 0 a0.other.q.src.length, .own 5 0 a0.other.q.tgt.length, .own 6 0 a0.other.dims.length, .own 7 0 a0.other.maps.length]), (11, .int v1.2.2.2.2), (12, .int v6.2.2.2.2), (13, .ptr 13 0 13), (14, .own 8 0 a0.parts.length), (15, .int v6.2.2.2.2), (16, .int v11.2), (17, .ptr 13 0 14), (18, .own 9 0 a0.maps.length), (19, .int v11.2), (20, .int v13.2), (21, .ptr 13 0 15), (22, .own 10 0 a0.bars.length), (23, .int v13.2)] [(0, ⟨1, List.map (ow eI) v1.1⟩), (1, ⟨1, List.map (ow eI) v1.2.1⟩), (2, ⟨1, List.map (ow eI) v1.2.2.1⟩), (3, ⟨3, List.map (ow eM) v1.2.2.2.1⟩), (4, ⟨1, List.map (ow eI) v6.1⟩), (5, ⟨1, List.map (ow eI) v6.2.1⟩), (6, ⟨1, List.map (ow eI) v6.2.2.1⟩), (7, ⟨3, List.map (ow eM) v6.2.2.2.1⟩), (8, ⟨6, List.map (ow eR) v11.1⟩), (9, ⟨3, List.map (ow eM) v13.1⟩), (10, ⟨3, List.map (ow eB) a0.bars⟩), (11, ⟨1, List.map (ow eI) a0.theta⟩), (12, ⟨2, List.map (ow eS) a0.subs⟩), (13, ⟨18, [[.int a0.kind, .int a0.rep.p, .int a0.rep.q.n, .own 0 0 a0.rep.q.src.length, .own 1 0 a0.rep.q.tgt.length, .own 2 0 a0.rep.dims.length, .own 3 0 a0.rep.maps.length, .int a0.other.p, .int a0.other.q.n, .own 4 0 a0.other.q.src.length, .own 5 0 a0.other.q.tgt.length, .own 6 0 a0.other.dims.length, .own 7 0 a0.other.maps.length, .own 8 0 a0.parts.length, .own 9 0 a0.maps.length, .own 10 0 a0.bars.length, .own 11 0 a0.theta.length, .own 12 0 a0.subs.length]]⟩)] 14 [14, 15] ⟨13, true, none, true⟩) (ent_mk (σ := sg [(0, 0), (1, 1), (2, 2), (3, 3), (4, 4), (5, 5), (6, 6), (7, 7), (8, 8), (9, 9), (10, 10), (11, 11), (12, 12), (13, 13)]) ⟨⟨_, k, ⟨_, _, k, k, ⟨_, _, k, k, ⟨_, _, k, k, ⟨_, _, k, ⟨k, k, k, k⟩, ⟨_, _, k, ⟨k, k, k, k⟩, ⟨_, _, k, ⟨k, k, k, k⟩, ⟨_, _, k, ⟨k, k, k, k⟩, ⟨_, _, k, k, ⟨_, _, k, k, ⟨_, _, k, ⟨k, k, k, k⟩, ⟨_, _, k, ⟨k, k, k, k⟩, ⟨_, _, k, ⟨k, k, k, k⟩, ⟨_, _, k, ⟨k, k, k, k⟩, ⟨_, _, k, ⟨k, k, k, k⟩, ⟨_, _, k, ⟨k, k, k, k⟩, ⟨_, _, k, ⟨k, k, k, k⟩, ⟨_, _, k, ⟨k, k, k, k⟩, ⟨_, _, k, ⟨k, k, k, k⟩, k⟩⟩⟩⟩⟩⟩⟩⟩⟩⟩⟩⟩⟩⟩⟩⟩⟩⟩⟩, (e1 k k), (pE k k), (e1 k k), (pE k k), ⟨_, k, ⟨_, _, k, k, ⟨_, _, k, k, ⟨_, _, k, ⟨k, k, k, k⟩, ⟨_, _, k, ⟨k, k, k, k⟩, ⟨_, _, k, ⟨k, k, k, k⟩, ⟨_, _, k, ⟨k, k, k, k⟩, k⟩⟩⟩⟩⟩⟩⟩, (e1 k k), (e1 k k), (pE k k), ⟨_, k, ⟨_, _, k, k, ⟨_, _, k, k, ⟨_, _, k, ⟨k, k, k, k⟩, ⟨_, _, k, ⟨k, k, k, k⟩, ⟨_, _, k, ⟨k, k, k, k⟩, ⟨_, _, k, ⟨k, k, k, k⟩, k⟩⟩⟩⟩⟩⟩⟩, (e1 k k), (e1 k k), (pE k k), (oE k k), (e1 k k), (e1 k k), (pE k k), (oE k k), (e1 k k), (e1 k k), (pE k k), (oE k k), (e1 k k), trivial⟩ (hI k k k <| hI k k k <| hI k k k <| hB (okMt.plainO _) k k k <| hI k k k <| hI k k k <| hI k k k <| hB (okMt.plainO _) k k k <| hB (okRp.plainO _) k k k <| hB (okMt.plainO _) k k k <| hB (okBr.plainO _) k k k <| hI k k k <| hB (okSc.plainO _) k k k <| hX ⟨_, k, k, .inr ⟨_, _, k, ⟨_, _, k, k, ⟨_, _, k, k, ⟨_, _, k, k, ⟨_, _, k, ⟨k, k, k, k⟩, ⟨_, _, k, ⟨k, k, k, k⟩, ⟨_, _, k, ⟨k, k, k, k⟩, ⟨_, _, k, ⟨k, k, k, k⟩, ⟨_, _, k, k, ⟨_, _, k, k, ⟨_, _, k, ⟨k, k, k, k⟩, ⟨_, _, k, ⟨k, k, k, k⟩, ⟨_, _, k, ⟨k, k, k, k⟩, ⟨_, _, k, ⟨k, k, k, k⟩, ⟨_, _, k, ⟨k, k, k, k⟩, ⟨_, _, k, ⟨k, k, k, k⟩, ⟨_, _, k, ⟨k, k, k, k⟩, ⟨_, _, k, ⟨k, k, k, k⟩, ⟨_, _, k, ⟨k, k, k, k⟩, k⟩⟩⟩⟩⟩⟩⟩⟩⟩⟩⟩⟩⟩⟩⟩⟩⟩⟩, k⟩⟩ k <| trivial) k) ?_
 refine sops_T (σ := sg [(0, 10)]) (σ' := sg [(10, 0)]) (touch := [10]) (news := []) (hl2 := [(10, ⟨3, List.map (ow eB) v15.1⟩)]) (n' := 14) (r2 := .int v15.2) (c_laws_markBarS a0.bars v13.2 v15 hv15) k k ⟨_, _, k, ⟨k, k, k, k⟩, ⟨_, _, k, k, k⟩⟩ ⟨⟨_, k, k, .inl ⟨k, okBr.plainO _⟩⟩, k, trivial⟩ k k k ⟨⟨_, k, k, .inl ⟨k, okBr.plainO _⟩⟩, k, trivial⟩ k k k ⟨k, okBr.tame _ _, trivial⟩ k k k k k (dfE_ok ⟨k, k, k, k, k, k, k, k, k, k, k, k, k, k, k, k, k, k, k, k, k, k, k, trivial⟩) (dfH_ok (skip := [10]) ⟨.inr (okI.df _ _), .inr (okI.df _ _), .inr (okI.df _ _), .inr (okMt.df _ _), .inr (okI.df _ _), .inr (okI.df _ _), .inr (okI.df _ _), .inr (okMt.df _ _), .inr (okRp.df _ _), .inr (okMt.df _ _), .inl (by decide), .inr (okI.df _ _), .inr (okSc.df _ _), .inr (df_lit k), trivial⟩) ?_
 obtain ⟨q16, h⟩ := cg h
 refine se (eff_assign k) k <| sn <| tn <| sQ <| rgS <| se (w_field_ptr TT_ok k k k k k k k) k <| se (w_load_ptr TT_ok k k k k k k k) k <| se (eff_move k) k ?_
 obtain ⟨v17, hv17, h⟩ := ob h
 refine se (eff_hasE (σ := sg [(0, 11)]) (σ' := sg [(11, 0)]) (touch := [11]) (news := []) (hl2 := [(11, ⟨1, List.map (ow eI) v17.1⟩)]) (n' := 14) (r2 := .int v17.2) (c_laws_markIntS a0.theta v15.2 v17 hv17) k k ⟨_, _, k, ⟨k, k, k, k⟩, ⟨_, _, k, k, k⟩⟩ ⟨⟨_, k, k, .inl ⟨k, okI.plainO _⟩⟩, k, trivial⟩ k k k ⟨⟨_, k, k, .inl ⟨k, okI.plainO _⟩⟩, k, trivial⟩ k k k ⟨k, okI.tame _ _, trivial⟩ k k) k ?_
 obtain ⟨q18, h⟩ := cg h
 refine se (eff_assign k) k <| sn <| tn <| sQ <| rgS <| se (w_field_ptr TT_ok k k k k k k k) k <| se (w_load_ptr TT_ok k k k k k k k) k <| se (eff_move k) k ?_
 obtain ⟨v19, hv19, h⟩ := ob h
 refine sops_ent (t := mkS ((0, .agg [.int a0.kind, .int a0.rep.p, .int a0.rep.q.n, .own 0 0 a0.rep.q.src.length, .own 1 0 a0.rep.q.tgt.length, .own 2 0 a0.rep.dims.length, .own 3 0 a0.rep.maps.length, .int a0.other.p, .int a0.other.q.n, .own 4 0 a0.other.q.src.length, .own 5 0 a0.other.q.tgt.length, .own 6 0 a0.other.dims.length, .own 7 0 a0.other.maps.length, .own 8 0 a0.parts.length, .own 9 0 a0.maps.length, .own 10 0 a0.bars.length, .own 11 0 a0.theta.length, .own 12 0 a0.subs.length]) :: (1, .int v17.2) :: (2, .ptr 13 0 0) :: (4, .int 0) :: (5, .ptr 13 0 1) :: (6, .agg [.int a0.rep.p, .int a0.rep.q.n, .own 0 0 a0.rep.q.src.length, .own 1 0 a0.rep.q.tgt.length, .own 2 0 a0.rep.dims.length, .own 3 0 a0.rep.maps.length]) :: (7, .int a1) :: (8, .int v1.2.2.2.2) :: (9, .ptr 13 0 7) :: (10, .agg [.int a0.other.p, .int a0.other.q.n, .own 4 0 a0.other.q.src.length, .own 5 0 a0.other.q.tgt.length, .own 6 0 a0.other.dims.length, .own 7 0 a0.other.maps.length]) :: (11, .int v1.2.2.2.2) :: (12, .int v6.2.2.2.2) :: (13, .ptr 13 0 13) :: (14, .own 8 0 a0.parts.length) :: (15, .int v6.2.2.2.2) :: (16, .int v11.2) :: (17, .ptr 13 0 14) :: (18, .own 9 0 a0.maps.length) :: (19, .int v11.2) :: (20, .int v13.2) :: (21, .ptr 13 0 15) :: (22, .own 10 0 a0.bars.length) :: (23, .int v13.2) :: (24, .int v15.2) :: (25, .ptr 13 0 16) :: (26, .own 11 0 a0.theta.length) :: (27, .int v15.2) :: (28, .int v17.2) :: (29, .ptr 13 0 17) :: (30, .own 12 0 a0.subs.length) :: (31, .int v17.2) :: []) [(0, ⟨1, List.map (ow eI) v1.1⟩), (1, ⟨1, List.map (ow eI) v1.2.1⟩), (2, ⟨1, List.map (ow eI) v1.2.2.1⟩), (3, ⟨3, List.map (ow eM) v1.2.2.2.1⟩), (4, ⟨1, List.map (ow eI) v6.1⟩), (5, ⟨1, List.map (ow eI) v6.2.1⟩), (6, ⟨1, List.map (ow eI) v6.2.2.1⟩), (7, ⟨3, List.map (ow eM) v6.2.2.2.1⟩), (8, ⟨6, List.map (ow eR) v11.1⟩), (9, ⟨3, List.map (ow eM) v13.1⟩), (10, ⟨3, List.map (ow eB) v15.1⟩), (11, ⟨1, List.map (ow eI) v17.1⟩), (12, ⟨2, List.map (ow eS) a0.subs⟩), (13, ⟨18, [[.int a0.kind, .int a0.rep.p, .int a0.rep.q.n, .own 0 0 a0.rep.q.src.length, .own 1 0 a0.rep.q.tgt.length, .own 2 0 a0.rep.dims.length, .own 3 0 a0.rep.maps.length, .int a0.other.p, .int a0.other.q.n, .own 4 0 a0.other.q.src.length, .own 5 0 a0.other.q.tgt.length, .own 6 0 a0.other.dims.length, .own 7 0 a0.other.maps.length, .own 8 0 a0.parts.length, .own 9 0 a0.maps.length, .own 10 0 a0.bars.length, .own 11 0 a0.theta.length, .own 12 0 a0.subs.length]]⟩)] 14 [14, 15] ⟨13, true, none, true⟩) (ent_mk (σ := sg [(0, 0), (1, 1), (2, 2), (3, 3), (4, 4), (5, 5), (6, 6), (7, 7), (8, 8), (9, 9), (10, 10), (11, 11), (12, 12), (13, 13)]) ⟨⟨_, k, ⟨_, _, k, k, ⟨_, _, k, k, ⟨_, _, k, k, ⟨_, _, k, ⟨k, k, k, k⟩, ⟨_, _, k, ⟨k, k, k, k⟩, ⟨_, _, k, ⟨k, k, k, k⟩, ⟨_, _, k, ⟨k, k, k, k⟩, ⟨_, _, k, k, ⟨_, _, k, k, ⟨_, _, k, ⟨k, k, k, k⟩, ⟨_, _, k, ⟨k, k, k, k⟩, ⟨_, _, k, ⟨k, k, k, k⟩, ⟨_, _, k, ⟨k, k, k, k⟩, ⟨_, _, k, ⟨k, k, k, k⟩, ⟨_, _, k, ⟨k, k, k, k⟩, ⟨_, _, k, ⟨k, k, k, k⟩, ⟨_, _, k, ⟨k, k, k, k⟩, ⟨_, _, k, ⟨k, k, k, k⟩, k⟩⟩⟩⟩⟩⟩⟩⟩⟩⟩⟩⟩⟩⟩⟩⟩⟩⟩⟩, (e1 k k), (pE k k), (e1 k k), (pE k k), ⟨_, k, ⟨_, _, k, k, ⟨_, _, k, k, ⟨_, _, k, ⟨k, k, k, k⟩, ⟨_, _, k, ⟨k, k, k, k⟩, ⟨_, _, k, ⟨k, k, k, k⟩, ⟨_, _, k, ⟨k, k, k, k⟩, k⟩⟩⟩⟩⟩⟩⟩, (e1 k k), (e1 k k), (pE k k), ⟨_, k, ⟨_, _, k, k, ⟨_, _, k, k, ⟨_, _, k, ⟨k, k, k, k⟩, ⟨_, _, k, ⟨k, k, k, k⟩, ⟨_, _, k, ⟨k, k, k, k⟩, ⟨_, _, k, ⟨k, k, k, k⟩, k⟩⟩⟩⟩⟩⟩⟩, (e1 k k), (e1 k k), (pE k k), (oE k k), (e1 k k), (e1 k k), (pE k k), (oE k k), (e1 k k), (e1 k k), (pE k k), (oE k k), (e1 k k), (e1 k k), (pE k k), (oE k k), (e1 k k), (e1 k k), (pE k k), (oE k k), (e1 k k), trivial⟩ (hI k k k <| hI k k k <| hI k k k <| hB (okMt.plainO _) k k k <| hI k k k <| hI k k k <| hI k k k <| hB (okMt.plainO _) k k k <| hB (okRp.plainO _) k k k <| hB (okMt.plainO _) k k k <| hB (okBr.plainO _) k k k <| hI k k k <| hB (okSc.plainO _) k k k <| hX ⟨_, k, k, .inr ⟨_, _, k, ⟨_, _, k, k, ⟨_, _, k, k, ⟨_, _, k, k, ⟨_, _, k, ⟨k, k, k, k⟩, ⟨_, _, k, ⟨k, k, k, k⟩, ⟨_, _, k, ⟨k, k, k, k⟩, ⟨_, _, k, ⟨k, k, k, k⟩, ⟨_, _, k, k, ⟨_, _, k, k, ⟨_, _, k, ⟨k, k, k, k⟩, ⟨_, _, k, ⟨k, k, k, k⟩, ⟨_, _, k, ⟨k, k, k, k⟩, ⟨_, _, k, ⟨k, k, k, k⟩, ⟨_, _, k, ⟨k, k, k, k⟩, ⟨_, _, k, ⟨k, k, k, k⟩, ⟨_, _, k, ⟨k, k, k, k⟩, ⟨_, _, k, ⟨k, k, k, k⟩, ⟨_, _, k, ⟨k, k, k, k⟩, k⟩⟩⟩⟩⟩⟩⟩⟩⟩⟩⟩⟩⟩⟩⟩⟩⟩⟩, k⟩⟩ k <| trivial) k) ?_
 refine sops_T (σ := sg [(0, 12)]) (σ' := sg [(12, 0)]) (touch := [12]) (news := []) (hl2 := [(12, ⟨2, List.map (ow eS) v19.1⟩)]) (n' := 14) (r2 := .int v19.2) (c_laws_markSpaceS a0.subs v17.2 v19 hv19) k k ⟨_, _, k, ⟨k, k, k, k⟩, ⟨_, _, k, k, k⟩⟩ ⟨⟨_, k, k, .inl ⟨k, okSc.plainO _⟩⟩, k, trivial⟩ k k k ⟨⟨_, k, k, .inl ⟨k, okSc.plainO _⟩⟩, k, trivial⟩ k k k ⟨k, okSc.tame _ _, trivial⟩ k k k k k (dfE_ok ⟨k, k, k, k, k, k, k, k, k, k, k, k, k, k, k, k, k, k, k, k, k, k, k, k, k, k, k, k, k, k, k, trivial⟩) (dfH_ok (skip := [12]) ⟨.inr (okI.df _ _), .inr (okI.df _ _), .inr (okI.df _ _), .inr (okMt.df _ _), .inr (okI.df _ _), .inr (okI.df _ _), .inr (okI.df _ _), .inr (okMt.df _ _), .inr (okRp.df _ _), .inr (okMt.df _ _), .inr (okBr.df _ _), .inr (okI.df _ _), .inl (by decide), .inr (df_lit k), trivial⟩) ?_
 obtain ⟨q20, h⟩ := cg h
 refine se (eff_assign k) k <| sn <| tn <| sQ <| rgS <| se (eff_move k) k <| se (eff_assign k) k <| sn <| tn <| ac_ret ?_
 obtain rfl := so h
 exact ⟨mkS [(4, .int v19.2)] [(0, ⟨1, List.map (ow eI) v1.1⟩), (1, ⟨1, List.map (ow eI) v1.2.1⟩), (2, ⟨1, List.map (ow eI) v1.2.2.1⟩), (3, ⟨3, List.map (ow eM) v1.2.2.2.1⟩), (4, ⟨1, List.map (ow eI) v6.1⟩), (5, ⟨1, List.map (ow eI) v6.2.1⟩), (6, ⟨1, List.map (ow eI) v6.2.2.1⟩), (7, ⟨3, List.map (ow eM) v6.2.2.2.1⟩), (8, ⟨6, List.map (ow eR) v11.1⟩), (9, ⟨3, List.map (ow eM) v13.1⟩), (10, ⟨3, List.map (ow eB) v15.1⟩), (11, ⟨1, List.map (ow eI) v17.1⟩), (12, ⟨2, List.map (ow eS) v19.1⟩)] 13 [13, 14, 15] ⟨13, true, none, true⟩, (ent_mk (σ := sg [(0, 0), (1, 1), (2, 2), (3, 3), (4, 4), (5, 5), (6, 6), (7, 7), (8, 8), (9, 9), (10, 10), (11, 11), (12, 12)]) ⟨(e1 k k), trivial⟩ (hI k k k <| hI k k k <| hI k k k <| hB (okMt.plainO _) k k k <| hI k k k <| hI k k k <| hI k k k <| hB (okMt.plainO _) k k k <| hB (okRp.plainO _) k k k <| hB (okMt.plainO _) k k k <| hB (okBr.plainO _) k k k <| hI k k k <| hB (okSc.plainO _) k k k <| trivial) k), k, ⟨_, k, .inl k⟩, ⟨k, k, k, k, k, k, k, k, k, k, k, k, k, trivial⟩⟩

noncomputable def m_laws_heldIntS_L1 (a0 : (List Int)) (x1 : (Int × Int)) : Option ((Int × Int) ⊕ (Int ⊕ Int)) :=
  bif decide (x1.2 < (a0.length : Int)) then
    (Option.bind (atL a0 x1.2) fun v2 =>
    bif !decide (v2 = x1.1) then
      (some (.inr (.inr ((-1)))))
    else
      (some (.inl (wr (x1.1 + 1), wr (x1.2 + 1)))))
  else
    (some (.inr (.inl x1.1)))

noncomputable def m_laws_heldIntS (a0 : (List Int)) (a1 : Int) : Option Int :=
  Option.bind (Lp (m_laws_heldIntS_L1 a0) (a1, 0)) fun y4 =>
  Sum.elim (fun y5 =>
    some (y5)
  ) 
  (fun y6 =>
    some y6
  )
   y4

theorem c_laws_heldIntS (a0 : (List Int)) (a1 : Int) (r : Int) (h : m_laws_heldIntS a0 a1 = some r) : HasC Tryz.prog 39 [.list 1 (List.map eI a0), .int a1] (.int r) := by
 refine hasC_mk TT_ok (rvs := [.tmp 4]) (ns := [0, 1]) Tryz.func39 k k Tryz.ntmps39 k k k <| sQ <| rg <| aa k k <| an <| tn <| sQ <| sQ <| rg <| aa k k ?_
 refine an <| tn <| ac_block ?_
 obtain ⟨y4, hy4, h⟩ := ob h
 refine ac_Lp (body := (m_laws_heldIntS_L1 a0)) hy4 (fun (x1 : (Int × Int)) => mkS [(0, .list 1 (List.map eI a0)), (1, .int x1.1), (5, .int x1.2)] [] 0 [0, 1]) (fun r e t => Sum.elim (fun a => (fun r e t => e = .exit 0 ∧ Ent t (mkS [(1, .int r)] [] 0 [0, 1])) a e t) (fun b => (fun r e t => e = .ret ∧ RetQ TT [.tmp 4] (.int r) .ret t) b e t) r) (ent_mk (σ := sg []) ⟨⟨_, k, ⟨k, k⟩⟩, (e1 k k), (e1 k k), trivial⟩ trivial k) ?_ ?_
 ·intro x1 o h
  refine sQ <| sQ <| rg <| am k k <| am k k <| ae (lenL TT_ok k k k) k <| ae (w_cmp k k k) k <| an <| tn ?_
  rcases cb h with ⟨q1, h⟩ | ⟨q1, h⟩
  ·refine ac_condT k q1 <| ac_skip <| tn <| sQ <| ac_block <| sQ <| sQ <| rg <| am k k <| am k k ?_
   obtain ⟨v2, hv2, h⟩ := ob h
   refine ae (x_at_list TT_ok hv2 k k k k k k) k <| ae (w_load_ref TT_ok k k k k k k) k <| am k k <| ae (w_cmp k k k) k <| an <| tn ?_
   rcases cb h with ⟨q3, h⟩ | ⟨q3, h⟩
   ·refine ac_condT k q3 <| sQ <| rg <| aa k k <| an <| tn <| ac_ret <| then_ret <| block_ret <| then_ret ?_
    refine then_ret ?_
    obtain rfl := so h
    exact ⟨_, k, k, ret_mk k k k (fz_int k)⟩
   ·refine ac_condF k q3 <| ac_skip <| tn <| rg <| am k k <| ae (x_add k k) k <| aa k k <| an <| block_n <| tn ?_
    refine ac_ent (t := mkS [(0, .list 1 (List.map eI a0)), (1, .int (wr (x1.1 + 1))), (5, .int x1.2)] [] 0 [0, 1]) (ent_mk (σ := sg []) ⟨⟨_, k, ⟨k, k⟩⟩, (e1 k k), (e1 k k), trivial⟩ trivial k) <| rg <| am k k <| ae (x_add k k) k <| aa k k <| an <| tn ?_
    obtain rfl := so h
    exact ⟨_, k, (ent_mk (σ := sg []) ⟨⟨_, k, ⟨k, k⟩⟩, (e1 k k), (e1 k k), trivial⟩ trivial k)⟩
  ·refine ac_condF k q1 <| ac_exit <| then_exit <| then_exit ?_
   obtain rfl := so h
   exact ⟨_, k, k, (ent_mk (σ := sg []) ⟨(e1 k k), trivial⟩ trivial k)⟩
 ·intro e t hX
  rcases y4 with y5 | y6
  ·obtain ⟨rfl, hent⟩ := hX
   refine block_here <| tn <| ac_ent hent <| sQ <| rg <| am k k <| aa k k <| an <| tn <| ac_ret ?_
   obtain rfl := so h
   exact ret_mk k k k (fz_int k)
  ·obtain ⟨rfl, hent⟩ := hX
   refine block_ret <| then_ret ?_
   obtain rfl := so h
   exact hent

noncomputable def m_laws_heldIntSS_L1 (a0 : (List (List Int))) (x1 : (Int × Int)) : Option ((Int × Int) ⊕ (Int ⊕ Int)) :=
  bif decide (x1.2 < (a0.length : Int)) then
    (Option.bind (atL a0 x1.2) fun v2 =>
    Option.bind (m_laws_heldIntS v2 x1.1) fun v3 =>
    bif decide (v3 < 0) then
      (some (.inr (.inr ((-1)))))
    else
      (some (.inl (v3, wr (x1.2 + 1)))))
  else
    (some (.inr (.inl x1.1)))

noncomputable def m_laws_heldIntSS (a0 : (List (List Int))) (a1 : Int) : Option Int :=
  Option.bind (Lp (m_laws_heldIntSS_L1 a0) (a1, 0)) fun y5 =>
  Sum.elim (fun y6 =>
    some (y6)
  ) 
  (fun y7 =>
    some y7
  )
   y5

theorem c_laws_heldIntSS (a0 : (List (List Int))) (a1 : Int) (r : Int) (h : m_laws_heldIntSS a0 a1 = some r) : HasC Tryz.prog 67 [.list 1 (List.map (eLs 1 eI) a0), .int a1] (.int r) := by
 refine hasC_mk TT_ok (rvs := [.tmp 4]) (ns := [0, 1]) Tryz.func67 k k Tryz.ntmps67 k k k <| sQ <| rg <| aa k k <| an <| tn <| sQ <| sQ <| rg <| aa k k ?_
 refine an <| tn <| ac_block ?_
 obtain ⟨y5, hy5, h⟩ := ob h
 refine ac_Lp (body := (m_laws_heldIntSS_L1 a0)) hy5 (fun (x1 : (Int × Int)) => mkS [(0, .list 1 (List.map (eLs 1 eI) a0)), (1, .int x1.1), (5, .int x1.2)] [] 0 [0, 1]) (fun r e t => Sum.elim (fun a => (fun r e t => e = .exit 0 ∧ Ent t (mkS [(1, .int r)] [] 0 [0, 1])) a e t) (fun b => (fun r e t => e = .ret ∧ RetQ TT [.tmp 4] (.int r) .ret t) b e t) r) (ent_mk (σ := sg []) ⟨⟨_, k, ⟨k, k⟩⟩, (e1 k k), (e1 k k), trivial⟩ trivial k) ?_ ?_
 ·intro x1 o h
  refine sQ <| sQ <| rg <| am k k <| am k k <| ae (lenL TT_ok k k k) k <| ae (w_cmp k k k) k <| an <| tn ?_
  rcases cb h with ⟨q1, h⟩ | ⟨q1, h⟩
  ·refine ac_condT k q1 <| ac_skip <| tn <| sQ <| ac_block <| sQ <| rg <| am k k <| am k k ?_
   obtain ⟨v2, hv2, h⟩ := ob h
   refine ae (x_at_list TT_ok hv2 k k k k k k) k <| ae (w_load_ref TT_ok k k k k k k) k <| am k k ?_
   obtain ⟨v3, hv3, h⟩ := ob h
   refine ae (w_call0s (c_laws_heldIntS v2 x1.1 v3 hv3) k (va_cons (va_same k) (va_cons (va_same k) va_nil))) k <| aa k k <| an <| tn <| sQ <| rg <| am k k <| ae (w_cmp k k k) k <| an <| tn ?_
   refine ac_ent (t := mkS [(0, .list 1 (List.map (eLs 1 eI) a0)), (1, .int v3), (5, .int x1.2), (19, .bl (decide (v3 < 0)))] [] 0 [0, 1]) (ent_mk (σ := sg []) ⟨⟨_, k, ⟨k, k⟩⟩, (e1 k k), (e1 k k), (e1 k k), trivial⟩ trivial k) ?_
   rcases cb h with ⟨q4, h⟩ | ⟨q4, h⟩
   ·refine ac_condT k q4 <| sQ <| rg <| aa k k <| an <| tn <| ac_ret <| block_ret <| then_ret <| then_ret ?_
    obtain rfl := so h
    exact ⟨_, k, k, ret_mk k k k (fz_int k)⟩
   ·refine ac_condF k q4 <| ac_skip <| block_n <| tn <| rg <| am k k <| ae (x_add k k) k <| aa k k <| an <| tn ?_
    obtain rfl := so h
    exact ⟨_, k, (ent_mk (σ := sg []) ⟨⟨_, k, ⟨k, k⟩⟩, (e1 k k), (e1 k k), trivial⟩ trivial k)⟩
  ·refine ac_condF k q1 <| ac_exit <| then_exit <| then_exit ?_
   obtain rfl := so h
   exact ⟨_, k, k, (ent_mk (σ := sg []) ⟨(e1 k k), trivial⟩ trivial k)⟩
 ·intro e t hX
  rcases y5 with y6 | y7
  ·obtain ⟨rfl, hent⟩ := hX
   refine block_here <| tn <| ac_ent hent <| sQ <| rg <| am k k <| aa k k <| an <| tn <| ac_ret ?_
   obtain rfl := so h
   exact ret_mk k k k (fz_int k)
  ·obtain ⟨rfl, hent⟩ := hX
   refine block_ret <| then_ret ?_
   obtain rfl := so h
   exact hent

noncomputable def m_laws_heldSpaceS_L1 (a0 : (List Sc)) (x1 : (Int × Int)) : Option ((Int × Int) ⊕ (Int ⊕ Int)) :=
  bif decide (x1.2 < (a0.length : Int)) then
    (Option.bind (atL a0 x1.2) fun v2 =>
    bif !decide (v2.size = x1.1) then
      (some (.inr (.inr ((-1)))))
    else
      (Option.bind (atL a0 x1.2) fun v4 =>
      Option.bind (m_laws_heldIntSS v4.basis (wr (x1.1 + 1))) fun v5 =>
      bif decide (v5 < 0) then
        (some (.inr (.inr ((-1)))))
      else
        (some (.inl (v5, wr (x1.2 + 1))))))
  else
    (some (.inr (.inl x1.1)))

noncomputable def m_laws_heldSpaceS (a0 : (List Sc)) (a1 : Int) : Option Int :=
  Option.bind (Lp (m_laws_heldSpaceS_L1 a0) (a1, 0)) fun y7 =>
  Sum.elim (fun y8 =>
    some (y8)
  ) 
  (fun y9 =>
    some y9
  )
   y7

theorem c_laws_heldSpaceS (a0 : (List Sc)) (a1 : Int) (r : Int) (h : m_laws_heldSpaceS a0 a1 = some r) : HasC Tryz.prog 40 [.list 2 (List.map eS a0), .int a1] (.int r) := by
 refine hasC_mk TT_ok (rvs := [.tmp 4]) (ns := [0, 1]) Tryz.func40 k k Tryz.ntmps40 k k k <| sQ <| rg <| aa k k <| an <| tn <| sQ <| sQ <| rg <| aa k k ?_
 refine an <| tn <| ac_block ?_
 obtain ⟨y7, hy7, h⟩ := ob h
 refine ac_Lp (body := (m_laws_heldSpaceS_L1 a0)) hy7 (fun (x1 : (Int × Int)) => mkS [(0, .list 2 (List.map eS a0)), (1, .int x1.1), (5, .int x1.2)] [] 0 [0, 1]) (fun r e t => Sum.elim (fun a => (fun r e t => e = .exit 0 ∧ Ent t (mkS [(1, .int r)] [] 0 [0, 1])) a e t) (fun b => (fun r e t => e = .ret ∧ RetQ TT [.tmp 4] (.int r) .ret t) b e t) r) (ent_mk (σ := sg []) ⟨⟨_, k, ⟨k, k⟩⟩, (e1 k k), (e1 k k), trivial⟩ trivial k) ?_ ?_
 ·intro x1 o h
  refine sQ <| sQ <| rg <| am k k <| am k k <| ae (lenL TT_ok k k k) k <| ae (w_cmp k k k) k <| an <| tn ?_
  rcases cb h with ⟨q1, h⟩ | ⟨q1, h⟩
  ·refine ac_condT k q1 <| ac_skip <| tn <| sQ <| ac_block <| sQ <| sQ <| rg <| am k k <| am k k ?_
   obtain ⟨v2, hv2, h⟩ := ob h
   refine ae (x_at_list TT_ok hv2 k k k k k k) k <| ae (w_field_ref TT_ok k k k k k k) k <| ae (w_load_ref TT_ok k k k k k k) k <| am k k <| ae (w_cmp k k k) k <| an <| tn ?_
   rcases cb h with ⟨q3, h⟩ | ⟨q3, h⟩
   ·refine ac_condT k q3 <| sQ <| rg <| aa k k <| an <| tn <| ac_ent (t := mkS [(4, .int (-1))] [] 0 [0, 1]) (ent_mk (σ := sg []) ⟨(e1 k k), trivial⟩ trivial k) <| ac_ret <| then_ret <| block_ret ?_
    refine then_ret <| then_ret ?_
    obtain rfl := so h
    exact ⟨_, k, k, ret_mk k k k (fz_int k)⟩
   ·refine ac_condF k q3 <| ac_skip <| tn <| sQ <| rg <| am k k <| ae (x_add k k) k <| aa k k <| an <| tn ?_
    refine ac_ent (t := mkS [(0, .list 2 (List.map eS a0)), (1, .int (wr (x1.1 + 1))), (5, .int x1.2)] [] 0 [0, 1]) (ent_mk (σ := sg []) ⟨⟨_, k, ⟨k, k⟩⟩, (e1 k k), (e1 k k), trivial⟩ trivial k) <| sQ <| rg <| am k k <| am k k ?_
    obtain ⟨v4, hv4, h⟩ := ob h
    refine ae (x_at_list TT_ok hv4 k k k k k k) k <| ae (w_field_ref TT_ok k k k k k k) k <| ae (w_load_ref TT_ok k k k k k k) k <| am k k ?_
    obtain ⟨v5, hv5, h⟩ := ob h
    refine ae (w_call0s (c_laws_heldIntSS v4.basis (wr (x1.1 + 1)) v5 hv5) k (va_cons (va_same k) (va_cons (va_same k) va_nil))) k <| aa k k <| an <| tn <| sQ <| rg <| am k k <| ae (w_cmp k k k) k <| an <| tn ?_
    rcases cb h with ⟨q6, h⟩ | ⟨q6, h⟩
    ·refine ac_condT k q6 <| sQ <| rg <| aa k k <| an <| tn <| ac_ret <| block_ret <| then_ret <| then_ret ?_
     obtain rfl := so h
     exact ⟨_, k, k, ret_mk k k k (fz_int k)⟩
    ·refine ac_condF k q6 <| ac_skip <| block_n <| tn <| rg <| am k k <| ae (x_add k k) k <| aa k k <| an <| tn ?_
     obtain rfl := so h
     exact ⟨_, k, (ent_mk (σ := sg []) ⟨⟨_, k, ⟨k, k⟩⟩, (e1 k k), (e1 k k), trivial⟩ trivial k)⟩
  ·refine ac_condF k q1 <| ac_exit <| then_exit <| then_exit ?_
   obtain rfl := so h
   exact ⟨_, k, k, (ent_mk (σ := sg []) ⟨(e1 k k), trivial⟩ trivial k)⟩
 ·intro e t hX
  rcases y7 with y8 | y9
  ·obtain ⟨rfl, hent⟩ := hX
   refine block_here <| tn <| ac_ent hent <| sQ <| rg <| am k k <| aa k k <| an <| tn <| ac_ret ?_
   obtain rfl := so h
   exact ret_mk k k k (fz_int k)
  ·obtain ⟨rfl, hent⟩ := hX
   refine block_ret <| then_ret ?_
   obtain rfl := so h
   exact hent

noncomputable def m_laws_heldQuiver (a0 : Qv) (a1 : Int) : Option Int :=
  Option.bind (m_laws_heldIntS a0.src a1) fun v1 =>
  bif decide (v1 < 0) then
    (some ((-1)))
  else
    (Option.bind (m_laws_heldIntS a0.tgt v1) fun v3 =>
    bif decide (v3 < 0) then
      (some ((-1)))
    else
      (some (v3)))

theorem c_laws_heldQuiver (a0 : Qv) (a1 : Int) (r : Int) (h : m_laws_heldQuiver a0 a1 = some r) : HasC Tryz.prog 66 [.agg (eQ a0), .int a1] (.int r) := by
 refine hasC_mk TT_ok (rvs := [.tmp 4]) (ns := [0, 1, 2]) Tryz.func66 k k Tryz.ntmps66 k k k <| sQ <| rg <| ae (w_box k k k k) k <| aa k k <| an <| tn <| sQ <| rg <| ae (w_field_ptr TT_ok k k k k k k k) k ?_
 refine ae (w_load_ptr TT_ok k k k k k k k) k <| am k k ?_
 obtain ⟨v1, hv1, h⟩ := ob h
 refine ae (w_call0s (c_laws_heldIntS a0.src a1 v1 hv1) k (va_cons (va_same k) (va_cons (va_same k) va_nil))) k <| aa k k <| an <| tn <| sQ <| sQ <| rg <| am k k <| ae (w_cmp k k k) k <| an ?_
 refine tn ?_
 rcases cb h with ⟨q2, h⟩ | ⟨q2, h⟩
 ·refine ac_condT k q2 <| sQ <| rg <| aa k k <| an <| tn <| ac_ret <| then_ret ?_
  obtain rfl := so h
  exact ret_mk k k k (fz_int k)
 ·refine ac_condF k q2 <| ac_skip <| tn <| sQ <| rg <| ae (w_field_ptr TT_ok k k k k k k k) k <| ae (w_load_ptr TT_ok k k k k k k k) k <| am k k ?_
  obtain ⟨v3, hv3, h⟩ := ob h
  refine ae (w_call0s (c_laws_heldIntS a0.tgt v1 v3 hv3) k (va_cons (va_same k) (va_cons (va_same k) va_nil))) k <| aa k k <| an <| tn <| ac_ent (t := mkS [(1, .int v3)] [] 1 [1, 2]) (ent_mk (σ := sg []) ⟨(e1 k k), trivial⟩ trivial k) <| sQ <| sQ <| rg <| am k k <| ae (w_cmp k k k) k ?_
  refine an <| tn ?_
  rcases cb h with ⟨q4, h⟩ | ⟨q4, h⟩
  ·refine ac_condT k q4 <| sQ <| rg <| aa k k <| an <| tn <| ac_ret <| then_ret ?_
   obtain rfl := so h
   exact ret_mk k k k (fz_int k)
  ·refine ac_condF k q4 <| ac_skip <| tn <| sQ <| rg <| am k k <| aa k k <| an <| tn <| ac_ret ?_
   obtain rfl := so h
   exact ret_mk k k k (fz_int k)

noncomputable def m_laws_heldMatrixS_L1 (a0 : (List Mt)) (x1 : (Int × Int)) : Option ((Int × Int) ⊕ (Int ⊕ Int)) :=
  bif decide (x1.2 < (a0.length : Int)) then
    (Option.bind (atL a0 x1.2) fun v2 =>
    bif !decide (v2.rows = x1.1) then
      (some (.inr (.inr ((-1)))))
    else
      (Option.bind (atL a0 x1.2) fun v4 =>
      bif !decide (v4.cols = wr (x1.1 + 1)) then
        (some (.inr (.inr ((-1)))))
      else
        (Option.bind (atL a0 x1.2) fun v6 =>
        Option.bind (m_laws_heldIntS v6.cells (wr ((wr (x1.1 + 1)) + 1))) fun v7 =>
        bif decide (v7 < 0) then
          (some (.inr (.inr ((-1)))))
        else
          (some (.inl (v7, wr (x1.2 + 1)))))))
  else
    (some (.inr (.inl x1.1)))

noncomputable def m_laws_heldMatrixS (a0 : (List Mt)) (a1 : Int) : Option Int :=
  Option.bind (Lp (m_laws_heldMatrixS_L1 a0) (a1, 0)) fun y9 =>
  Sum.elim (fun y10 =>
    some (y10)
  ) 
  (fun y11 =>
    some y11
  )
   y9

theorem c_laws_heldMatrixS (a0 : (List Mt)) (a1 : Int) (r : Int) (h : m_laws_heldMatrixS a0 a1 = some r) : HasC Tryz.prog 37 [.list 3 (List.map eM a0), .int a1] (.int r) := by
 refine hasC_mk TT_ok (rvs := [.tmp 4]) (ns := [0, 1]) Tryz.func37 k k Tryz.ntmps37 k k k <| sQ <| rg <| aa k k <| an <| tn <| sQ <| sQ <| rg <| aa k k ?_
 refine an <| tn <| ac_block ?_
 obtain ⟨y9, hy9, h⟩ := ob h
 refine ac_Lp (body := (m_laws_heldMatrixS_L1 a0)) hy9 (fun (x1 : (Int × Int)) => mkS [(0, .list 3 (List.map eM a0)), (1, .int x1.1), (5, .int x1.2)] [] 0 [0, 1]) (fun r e t => Sum.elim (fun a => (fun r e t => e = .exit 0 ∧ Ent t (mkS [(1, .int r)] [] 0 [0, 1])) a e t) (fun b => (fun r e t => e = .ret ∧ RetQ TT [.tmp 4] (.int r) .ret t) b e t) r) (ent_mk (σ := sg []) ⟨⟨_, k, ⟨k, k⟩⟩, (e1 k k), (e1 k k), trivial⟩ trivial k) ?_ ?_
 ·intro x1 o h
  refine sQ <| sQ <| rg <| am k k <| am k k <| ae (lenL TT_ok k k k) k <| ae (w_cmp k k k) k <| an <| tn ?_
  rcases cb h with ⟨q1, h⟩ | ⟨q1, h⟩
  ·refine ac_condT k q1 <| ac_skip <| tn <| sQ <| ac_block <| sQ <| sQ <| rg <| am k k <| am k k ?_
   obtain ⟨v2, hv2, h⟩ := ob h
   refine ae (x_at_list TT_ok hv2 k k k k k k) k <| ae (w_field_ref TT_ok k k k k k k) k <| ae (w_load_ref TT_ok k k k k k k) k <| am k k <| ae (w_cmp k k k) k <| an <| tn ?_
   rcases cb h with ⟨q3, h⟩ | ⟨q3, h⟩
   ·refine ac_condT k q3 <| sQ <| rg <| aa k k <| an <| tn <| ac_ent (t := mkS [(4, .int (-1))] [] 0 [0, 1]) (ent_mk (σ := sg []) ⟨(e1 k k), trivial⟩ trivial k) <| ac_ret <| then_ret <| block_ret ?_
    refine then_ret <| then_ret ?_
    obtain rfl := so h
    exact ⟨_, k, k, ret_mk k k k (fz_int k)⟩
   ·refine ac_condF k q3 <| ac_skip <| tn <| sQ <| rg <| am k k <| ae (x_add k k) k <| aa k k <| an <| tn ?_
    refine ac_ent (t := mkS [(0, .list 3 (List.map eM a0)), (1, .int (wr (x1.1 + 1))), (5, .int x1.2)] [] 0 [0, 1]) (ent_mk (σ := sg []) ⟨⟨_, k, ⟨k, k⟩⟩, (e1 k k), (e1 k k), trivial⟩ trivial k) <| sQ <| sQ <| rg <| am k k <| am k k ?_
    obtain ⟨v4, hv4, h⟩ := ob h
    refine ae (x_at_list TT_ok hv4 k k k k k k) k <| ae (w_field_ref TT_ok k k k k k k) k <| ae (w_load_ref TT_ok k k k k k k) k <| am k k <| ae (w_cmp k k k) k <| an <| tn ?_
    rcases cb h with ⟨q5, h⟩ | ⟨q5, h⟩
    ·refine ac_condT k q5 <| sQ <| rg <| aa k k <| an <| tn <| ac_ret <| then_ret <| block_ret <| then_ret ?_
     refine then_ret ?_
     obtain rfl := so h
     exact ⟨_, k, k, ret_mk k k k (fz_int k)⟩
    ·refine ac_condF k q5 <| ac_skip <| tn <| sQ <| rg <| am k k <| ae (x_add k k) k <| aa k k <| an <| tn ?_
     refine sQ <| rg <| am k k <| am k k ?_
     obtain ⟨v6, hv6, h⟩ := ob h
     refine ae (x_at_list TT_ok hv6 k k k k k k) k <| ae (w_field_ref TT_ok k k k k k k) k <| ae (w_load_ref TT_ok k k k k k k) k <| am k k ?_
     obtain ⟨v7, hv7, h⟩ := ob h
     refine ae (w_call0s (c_laws_heldIntS v6.cells (wr ((wr (x1.1 + 1)) + 1)) v7 hv7) k (va_cons (va_same k) (va_cons (va_same k) va_nil))) k <| aa k k <| an <| tn <| ac_ent (t := mkS [(0, .list 3 (List.map eM a0)), (1, .int v7), (5, .int x1.2)] [] 0 [0, 1]) (ent_mk (σ := sg []) ⟨⟨_, k, ⟨k, k⟩⟩, (e1 k k), (e1 k k), trivial⟩ trivial k) <| sQ <| rg <| am k k <| ae (w_cmp k k k) k <| an ?_
     refine tn ?_
     rcases cb h with ⟨q8, h⟩ | ⟨q8, h⟩
     ·refine ac_condT k q8 <| sQ <| rg <| aa k k <| an <| tn <| ac_ret <| block_ret <| then_ret <| then_ret ?_
      obtain rfl := so h
      exact ⟨_, k, k, ret_mk k k k (fz_int k)⟩
     ·refine ac_condF k q8 <| ac_skip <| block_n <| tn <| rg <| am k k <| ae (x_add k k) k <| aa k k <| an <| tn ?_
      obtain rfl := so h
      exact ⟨_, k, (ent_mk (σ := sg []) ⟨⟨_, k, ⟨k, k⟩⟩, (e1 k k), (e1 k k), trivial⟩ trivial k)⟩
  ·refine ac_condF k q1 <| ac_exit <| then_exit <| then_exit ?_
   obtain rfl := so h
   exact ⟨_, k, k, (ent_mk (σ := sg []) ⟨(e1 k k), trivial⟩ trivial k)⟩
 ·intro e t hX
  rcases y9 with y10 | y11
  ·obtain ⟨rfl, hent⟩ := hX
   refine block_here <| tn <| ac_ent hent <| sQ <| rg <| am k k <| aa k k <| an <| tn <| ac_ret ?_
   obtain rfl := so h
   exact ret_mk k k k (fz_int k)
  ·obtain ⟨rfl, hent⟩ := hX
   refine block_ret <| then_ret ?_
   obtain rfl := so h
   exact hent

noncomputable def m_laws_heldRep (a0 : Rp) (a1 : Int) : Option Int :=
  Option.bind (m_laws_heldQuiver a0.q a1) fun v1 =>
  bif decide (v1 < 0) then
    (some ((-1)))
  else
    (Option.bind (m_laws_heldIntS a0.dims v1) fun v3 =>
    bif decide (v3 < 0) then
      (some ((-1)))
    else
      (Option.bind (m_laws_heldMatrixS a0.maps v3) fun v5 =>
      bif decide (v5 < 0) then
        (some ((-1)))
      else
        (some (v5))))

theorem c_laws_heldRep (a0 : Rp) (a1 : Int) (r : Int) (h : m_laws_heldRep a0 a1 = some r) : HasC Tryz.prog 35 [.agg (eR a0), .int a1] (.int r) := by
 refine hasC_mk TT_ok (rvs := [.tmp 4]) (ns := [0, 1, 2]) Tryz.func35 k k Tryz.ntmps35 k k k <| sQ <| rg <| ae (w_box k k k k) k <| aa k k <| an <| tn <| sQ <| rg <| ae (w_field_ptr TT_ok k k k k k k k) k ?_
 refine ae (w_load_ptr TT_ok k k k k k k k) k <| am k k ?_
 obtain ⟨v1, hv1, h⟩ := ob h
 refine ae (w_call0s (c_laws_heldQuiver a0.q a1 v1 hv1) k (va_cons (va_agg' (v1_cons (v1_same k) (v1_cons (v1_same k) (v1_cons (v1_same k) v1_nil)))) (va_cons (va_same k) va_nil))) k <| aa k k <| an <| tn <| sQ <| sQ <| rg <| am k k <| ae (w_cmp k k k) k <| an ?_
 refine tn ?_
 rcases cb h with ⟨q2, h⟩ | ⟨q2, h⟩
 ·refine ac_condT k q2 <| sQ <| rg <| aa k k <| an <| tn <| ac_ret <| then_ret ?_
  obtain rfl := so h
  exact ret_mk k k k (fz_int k)
 ·refine ac_condF k q2 <| ac_skip <| tn <| sQ <| rg <| ae (w_field_ptr TT_ok k k k k k k k) k <| ae (w_load_ptr TT_ok k k k k k k k) k <| am k k ?_
  obtain ⟨v3, hv3, h⟩ := ob h
  refine ae (w_call0s (c_laws_heldIntS a0.dims v1 v3 hv3) k (va_cons (va_same k) (va_cons (va_same k) va_nil))) k <| aa k k <| an <| tn <| ac_ent (t := mkS [(1, .int v3), (2, .ptr 0 0 0)] [(0, ⟨6, [[.int a0.p, .int a0.q.n, .list 1 (List.map eI a0.q.src), .list 1 (List.map eI a0.q.tgt), .list 1 (List.map eI a0.dims), .list 3 (List.map eM a0.maps)]]⟩)] 1 [1, 2]) (ent_mk (σ := sg [(0, 0)]) ⟨(e1 k k), (pE k k), trivial⟩ (hP k k k k <| trivial) k) <| sQ <| sQ <| rg <| am k k <| ae (w_cmp k k k) k ?_
  refine an <| tn ?_
  rcases cb h with ⟨q4, h⟩ | ⟨q4, h⟩
  ·refine ac_condT k q4 <| sQ <| rg <| aa k k <| an <| tn <| ac_ret <| then_ret ?_
   obtain rfl := so h
   exact ret_mk k k k (fz_int k)
  ·refine ac_condF k q4 <| ac_skip <| tn <| sQ <| rg <| ae (w_field_ptr TT_ok k k k k k k k) k <| ae (w_load_ptr TT_ok k k k k k k k) k <| am k k ?_
   obtain ⟨v5, hv5, h⟩ := ob h
   refine ae (w_call0s (c_laws_heldMatrixS a0.maps v3 v5 hv5) k (va_cons (va_same k) (va_cons (va_same k) va_nil))) k <| aa k k <| an <| tn <| sQ <| sQ <| rg <| am k k <| ae (w_cmp k k k) k <| an ?_
   refine tn ?_
   rcases cb h with ⟨q6, h⟩ | ⟨q6, h⟩
   ·refine ac_condT k q6 <| sQ <| rg <| aa k k <| an <| tn <| ac_ret <| then_ret ?_
    obtain rfl := so h
    exact ret_mk k k k (fz_int k)
   ·refine ac_condF k q6 <| ac_skip <| tn <| sQ <| rg <| am k k <| aa k k <| an <| tn <| ac_ret ?_
    obtain rfl := so h
    exact ret_mk k k k (fz_int k)

noncomputable def m_laws_heldRepS_L1 (a0 : (List Rp)) (x1 : (Int × Int)) : Option ((Int × Int) ⊕ (Int ⊕ Int)) :=
  bif decide (x1.2 < (a0.length : Int)) then
    (Option.bind (atL a0 x1.2) fun v2 =>
    bif !decide (v2.p = x1.1) then
      (some (.inr (.inr ((-1)))))
    else
      (Option.bind (atL a0 x1.2) fun v4 =>
      bif !decide (v4.q.n = wr (x1.1 + 1)) then
        (some (.inr (.inr ((-1)))))
      else
        (Option.bind (atL a0 x1.2) fun v6 =>
        Option.bind (m_laws_heldIntS v6.q.src (wr ((wr (x1.1 + 1)) + 1))) fun v7 =>
        bif decide (v7 < 0) then
          (some (.inr (.inr ((-1)))))
        else
          (Option.bind (atL a0 x1.2) fun v9 =>
          Option.bind (m_laws_heldIntS v9.q.tgt v7) fun v10 =>
          bif decide (v10 < 0) then
            (some (.inr (.inr ((-1)))))
          else
            (Option.bind (atL a0 x1.2) fun v12 =>
            Option.bind (m_laws_heldIntS v12.dims v10) fun v13 =>
            bif decide (v13 < 0) then
              (some (.inr (.inr ((-1)))))
            else
              (Option.bind (atL a0 x1.2) fun v15 =>
              Option.bind (m_laws_heldMatrixS v15.maps v13) fun v16 =>
              bif decide (v16 < 0) then
                (some (.inr (.inr ((-1)))))
              else
                (some (.inl (v16, wr (x1.2 + 1))))))))))
  else
    (some (.inr (.inl x1.1)))

noncomputable def m_laws_heldRepS (a0 : (List Rp)) (a1 : Int) : Option Int :=
  Option.bind (Lp (m_laws_heldRepS_L1 a0) (a1, 0)) fun y18 =>
  Sum.elim (fun y19 =>
    some (y19)
  ) 
  (fun y20 =>
    some y20
  )
   y18

theorem c_laws_heldRepS (a0 : (List Rp)) (a1 : Int) (r : Int) (h : m_laws_heldRepS a0 a1 = some r) : HasC Tryz.prog 36 [.list 6 (List.map eR a0), .int a1] (.int r) := by
 refine hasC_mk TT_ok (rvs := [.tmp 4]) (ns := [0, 1]) Tryz.func36 k k Tryz.ntmps36 k k k <| sQ <| rg <| aa k k <| an <| tn <| sQ <| sQ <| rg <| aa k k ?_
 refine an <| tn <| ac_block ?_
 obtain ⟨y18, hy18, h⟩ := ob h
 refine ac_Lp (body := (m_laws_heldRepS_L1 a0)) hy18 (fun (x1 : (Int × Int)) => mkS [(0, .list 6 (List.map eR a0)), (1, .int x1.1), (5, .int x1.2)] [] 0 [0, 1]) (fun r e t => Sum.elim (fun a => (fun r e t => e = .exit 0 ∧ Ent t (mkS [(1, .int r)] [] 0 [0, 1])) a e t) (fun b => (fun r e t => e = .ret ∧ RetQ TT [.tmp 4] (.int r) .ret t) b e t) r) (ent_mk (σ := sg []) ⟨⟨_, k, ⟨k, k⟩⟩, (e1 k k), (e1 k k), trivial⟩ trivial k) ?_ ?_
 ·intro x1 o h
  refine sQ <| sQ <| rg <| am k k <| am k k <| ae (lenL TT_ok k k k) k <| ae (w_cmp k k k) k <| an <| tn ?_
  rcases cb h with ⟨q1, h⟩ | ⟨q1, h⟩
  ·refine ac_condT k q1 <| ac_skip <| tn <| sQ <| ac_block <| sQ <| sQ <| rg <| am k k <| am k k ?_
   obtain ⟨v2, hv2, h⟩ := ob h
   refine ae (x_at_list TT_ok hv2 k k k k k k) k <| ae (w_field_ref TT_ok k k k k k k) k <| ae (w_load_ref TT_ok k k k k k k) k <| am k k <| ae (w_cmp k k k) k <| an <| tn ?_
   rcases cb h with ⟨q3, h⟩ | ⟨q3, h⟩
   ·refine ac_condT k q3 <| sQ <| rg <| aa k k <| an <| tn <| ac_ent (t := mkS [(4, .int (-1))] [] 0 [0, 1]) (ent_mk (σ := sg []) ⟨(e1 k k), trivial⟩ trivial k) <| ac_ret <| then_ret <| block_ret ?_
    refine then_ret <| then_ret ?_
    obtain rfl := so h
    exact ⟨_, k, k, ret_mk k k k (fz_int k)⟩
   ·refine ac_condF k q3 <| ac_skip <| tn <| sQ <| rg <| am k k <| ae (x_add k k) k <| aa k k <| an <| tn ?_
    refine ac_ent (t := mkS [(0, .list 6 (List.map eR a0)), (1, .int (wr (x1.1 + 1))), (5, .int x1.2)] [] 0 [0, 1]) (ent_mk (σ := sg []) ⟨⟨_, k, ⟨k, k⟩⟩, (e1 k k), (e1 k k), trivial⟩ trivial k) <| sQ <| sQ <| rg <| am k k <| am k k ?_
    obtain ⟨v4, hv4, h⟩ := ob h
    refine ae (x_at_list TT_ok hv4 k k k k k k) k <| ae (w_field_ref TT_ok k k k k k k) k <| ae (w_field_ref TT_ok k k k k k k) k <| ae (w_load_ref TT_ok k k k k k k) k <| am k k <| ae (w_cmp k k k) k <| an <| tn ?_
    rcases cb h with ⟨q5, h⟩ | ⟨q5, h⟩
    ·refine ac_condT k q5 <| sQ <| rg <| aa k k <| an <| tn <| ac_ret <| then_ret <| block_ret <| then_ret ?_
     refine then_ret ?_
     obtain rfl := so h
     exact ⟨_, k, k, ret_mk k k k (fz_int k)⟩
    ·refine ac_condF k q5 <| ac_skip <| tn <| sQ <| rg <| am k k <| ae (x_add k k) k <| aa k k <| an <| tn ?_
     refine sQ <| rg <| am k k <| am k k ?_
     obtain ⟨v6, hv6, h⟩ := ob h
     refine ae (x_at_list TT_ok hv6 k k k k k k) k <| ae (w_field_ref TT_ok k k k k k k) k <| ae (w_field_ref TT_ok k k k k k k) k <| ae (w_load_ref TT_ok k k k k k k) k <| am k k ?_
     obtain ⟨v7, hv7, h⟩ := ob h
     refine ae (w_call0s (c_laws_heldIntS v6.q.src (wr ((wr (x1.1 + 1)) + 1)) v7 hv7) k (va_cons (va_same k) (va_cons (va_same k) va_nil))) k <| aa k k <| an <| tn <| ac_ent (t := mkS [(0, .list 6 (List.map eR a0)), (1, .int v7), (5, .int x1.2)] [] 0 [0, 1]) (ent_mk (σ := sg []) ⟨⟨_, k, ⟨k, k⟩⟩, (e1 k k), (e1 k k), trivial⟩ trivial k) <| sQ <| sQ <| rg <| am k k <| ae (w_cmp k k k) k ?_
     refine an <| tn ?_
     rcases cb h with ⟨q8, h⟩ | ⟨q8, h⟩
     ·refine ac_condT k q8 <| sQ <| rg <| aa k k <| an <| tn <| ac_ret <| then_ret <| block_ret <| then_ret ?_
      refine then_ret ?_
      obtain rfl := so h
      exact ⟨_, k, k, ret_mk k k k (fz_int k)⟩
     ·refine ac_condF k q8 <| ac_skip <| tn <| sQ <| rg <| am k k <| am k k ?_
      obtain ⟨v9, hv9, h⟩ := ob h
      refine ae (x_at_list TT_ok hv9 k k k k k k) k <| ae (w_field_ref TT_ok k k k k k k) k <| ae (w_field_ref TT_ok k k k k k k) k <| ae (w_load_ref TT_ok k k k k k k) k <| am k k ?_
      obtain ⟨v10, hv10, h⟩ := ob h
      refine ae (w_call0s (c_laws_heldIntS v9.q.tgt v7 v10 hv10) k (va_cons (va_same k) (va_cons (va_same k) va_nil))) k <| aa k k <| an <| tn <| sQ <| sQ <| rg <| am k k <| ae (w_cmp k k k) k <| an ?_
      refine tn <| ac_ent (t := mkS [(0, .list 6 (List.map eR a0)), (1, .int v10), (5, .int x1.2), (50, .bl (decide (v10 < 0)))] [] 0 [0, 1]) (ent_mk (σ := sg []) ⟨⟨_, k, ⟨k, k⟩⟩, (e1 k k), (e1 k k), (e1 k k), trivial⟩ trivial k) ?_
      rcases cb h with ⟨q11, h⟩ | ⟨q11, h⟩
      ·refine ac_condT k q11 <| sQ <| rg <| aa k k <| an <| tn <| ac_ret <| then_ret <| block_ret <| then_ret ?_
       refine then_ret ?_
       obtain rfl := so h
       exact ⟨_, k, k, ret_mk k k k (fz_int k)⟩
      ·refine ac_condF k q11 <| ac_skip <| tn <| sQ <| rg <| am k k <| am k k ?_
       obtain ⟨v12, hv12, h⟩ := ob h
       refine ae (x_at_list TT_ok hv12 k k k k k k) k <| ae (w_field_ref TT_ok k k k k k k) k <| ae (w_load_ref TT_ok k k k k k k) k <| am k k ?_
       obtain ⟨v13, hv13, h⟩ := ob h
       refine ae (w_call0s (c_laws_heldIntS v12.dims v10 v13 hv13) k (va_cons (va_same k) (va_cons (va_same k) va_nil))) k <| aa k k <| an <| tn <| sQ <| sQ <| rg <| am k k <| ae (w_cmp k k k) k <| an ?_
       refine tn ?_
       rcases cb h with ⟨q14, h⟩ | ⟨q14, h⟩
       ·refine ac_condT k q14 <| sQ <| rg <| aa k k <| an <| tn <| ac_ret <| then_ret <| block_ret <| then_ret ?_
        refine then_ret ?_
        obtain rfl := so h
        exact ⟨_, k, k, ret_mk k k k (fz_int k)⟩
       ·refine ac_condF k q14 <| ac_skip <| tn <| sQ <| rg <| am k k <| am k k ?_
        obtain ⟨v15, hv15, h⟩ := ob h
        refine ae (x_at_list TT_ok hv15 k k k k k k) k <| ae (w_field_ref TT_ok k k k k k k) k <| ae (w_load_ref TT_ok k k k k k k) k <| am k k ?_
        obtain ⟨v16, hv16, h⟩ := ob h
        refine ae (w_call0s (c_laws_heldMatrixS v15.maps v13 v16 hv16) k (va_cons (va_same k) (va_cons (va_same k) va_nil))) k <| aa k k <| an <| tn <| ac_ent (t := mkS [(0, .list 6 (List.map eR a0)), (1, .int v16), (5, .int x1.2)] [] 0 [0, 1]) (ent_mk (σ := sg []) ⟨⟨_, k, ⟨k, k⟩⟩, (e1 k k), (e1 k k), trivial⟩ trivial k) <| sQ <| rg <| am k k <| ae (w_cmp k k k) k <| an ?_
        refine tn ?_
        rcases cb h with ⟨q17, h⟩ | ⟨q17, h⟩
        ·refine ac_condT k q17 <| sQ <| rg <| aa k k <| an <| tn <| ac_ret <| block_ret <| then_ret <| then_ret ?_
         obtain rfl := so h
         exact ⟨_, k, k, ret_mk k k k (fz_int k)⟩
        ·refine ac_condF k q17 <| ac_skip <| block_n <| tn <| rg <| am k k <| ae (x_add k k) k <| aa k k <| an <| tn ?_
         obtain rfl := so h
         exact ⟨_, k, (ent_mk (σ := sg []) ⟨⟨_, k, ⟨k, k⟩⟩, (e1 k k), (e1 k k), trivial⟩ trivial k)⟩
  ·refine ac_condF k q1 <| ac_exit <| then_exit <| then_exit ?_
   obtain rfl := so h
   exact ⟨_, k, k, (ent_mk (σ := sg []) ⟨(e1 k k), trivial⟩ trivial k)⟩
 ·intro e t hX
  rcases y18 with y19 | y20
  ·obtain ⟨rfl, hent⟩ := hX
   refine block_here <| tn <| ac_ent hent <| sQ <| rg <| am k k <| aa k k <| an <| tn <| ac_ret ?_
   obtain rfl := so h
   exact ret_mk k k k (fz_int k)
  ·obtain ⟨rfl, hent⟩ := hX
   refine block_ret <| then_ret ?_
   obtain rfl := so h
   exact hent

noncomputable def m_laws_heldBarS_L1 (a0 : (List Br)) (x1 : (Int × Int)) : Option ((Int × Int) ⊕ (Int ⊕ Int)) :=
  bif decide (x1.2 < (a0.length : Int)) then
    (Option.bind (atL a0 x1.2) fun v2 =>
    bif !decide (v2.first = x1.1) then
      (some (.inr (.inr ((-1)))))
    else
      (Option.bind (atL a0 x1.2) fun v4 =>
      bif !decide (v4.last = wr (x1.1 + 1)) then
        (some (.inr (.inr ((-1)))))
      else
        (Option.bind (atL a0 x1.2) fun v6 =>
        bif !decide (v6.count = wr ((wr (x1.1 + 1)) + 1)) then
          (some (.inr (.inr ((-1)))))
        else
          (some (.inl (wr ((wr ((wr (x1.1 + 1)) + 1)) + 1), wr (x1.2 + 1)))))))
  else
    (some (.inr (.inl x1.1)))

noncomputable def m_laws_heldBarS (a0 : (List Br)) (a1 : Int) : Option Int :=
  Option.bind (Lp (m_laws_heldBarS_L1 a0) (a1, 0)) fun y8 =>
  Sum.elim (fun y9 =>
    some (y9)
  ) 
  (fun y10 =>
    some y10
  )
   y8

theorem c_laws_heldBarS (a0 : (List Br)) (a1 : Int) (r : Int) (h : m_laws_heldBarS a0 a1 = some r) : HasC Tryz.prog 38 [.list 3 (List.map eB a0), .int a1] (.int r) := by
 refine hasC_mk TT_ok (rvs := [.tmp 4]) (ns := [0, 1]) Tryz.func38 k k Tryz.ntmps38 k k k <| sQ <| rg <| aa k k <| an <| tn <| sQ <| sQ <| rg <| aa k k ?_
 refine an <| tn <| ac_block ?_
 obtain ⟨y8, hy8, h⟩ := ob h
 refine ac_Lp (body := (m_laws_heldBarS_L1 a0)) hy8 (fun (x1 : (Int × Int)) => mkS [(0, .list 3 (List.map eB a0)), (1, .int x1.1), (5, .int x1.2)] [] 0 [0, 1]) (fun r e t => Sum.elim (fun a => (fun r e t => e = .exit 0 ∧ Ent t (mkS [(1, .int r)] [] 0 [0, 1])) a e t) (fun b => (fun r e t => e = .ret ∧ RetQ TT [.tmp 4] (.int r) .ret t) b e t) r) (ent_mk (σ := sg []) ⟨⟨_, k, ⟨k, k⟩⟩, (e1 k k), (e1 k k), trivial⟩ trivial k) ?_ ?_
 ·intro x1 o h
  refine sQ <| sQ <| rg <| am k k <| am k k <| ae (lenL TT_ok k k k) k <| ae (w_cmp k k k) k <| an <| tn ?_
  rcases cb h with ⟨q1, h⟩ | ⟨q1, h⟩
  ·refine ac_condT k q1 <| ac_skip <| tn <| sQ <| ac_block <| sQ <| sQ <| rg <| am k k <| am k k ?_
   obtain ⟨v2, hv2, h⟩ := ob h
   refine ae (x_at_list TT_ok hv2 k k k k k k) k <| ae (w_field_ref TT_ok k k k k k k) k <| ae (w_load_ref TT_ok k k k k k k) k <| am k k <| ae (w_cmp k k k) k <| an <| tn ?_
   rcases cb h with ⟨q3, h⟩ | ⟨q3, h⟩
   ·refine ac_condT k q3 <| sQ <| rg <| aa k k <| an <| tn <| ac_ent (t := mkS [(4, .int (-1))] [] 0 [0, 1]) (ent_mk (σ := sg []) ⟨(e1 k k), trivial⟩ trivial k) <| ac_ret <| then_ret <| block_ret ?_
    refine then_ret <| then_ret ?_
    obtain rfl := so h
    exact ⟨_, k, k, ret_mk k k k (fz_int k)⟩
   ·refine ac_condF k q3 <| ac_skip <| tn <| sQ <| rg <| am k k <| ae (x_add k k) k <| aa k k <| an <| tn ?_
    refine ac_ent (t := mkS [(0, .list 3 (List.map eB a0)), (1, .int (wr (x1.1 + 1))), (5, .int x1.2)] [] 0 [0, 1]) (ent_mk (σ := sg []) ⟨⟨_, k, ⟨k, k⟩⟩, (e1 k k), (e1 k k), trivial⟩ trivial k) <| sQ <| sQ <| rg <| am k k <| am k k ?_
    obtain ⟨v4, hv4, h⟩ := ob h
    refine ae (x_at_list TT_ok hv4 k k k k k k) k <| ae (w_field_ref TT_ok k k k k k k) k <| ae (w_load_ref TT_ok k k k k k k) k <| am k k <| ae (w_cmp k k k) k <| an <| tn ?_
    rcases cb h with ⟨q5, h⟩ | ⟨q5, h⟩
    ·refine ac_condT k q5 <| sQ <| rg <| aa k k <| an <| tn <| ac_ret <| then_ret <| block_ret <| then_ret ?_
     refine then_ret ?_
     obtain rfl := so h
     exact ⟨_, k, k, ret_mk k k k (fz_int k)⟩
    ·refine ac_condF k q5 <| ac_skip <| tn <| sQ <| rg <| am k k <| ae (x_add k k) k <| aa k k <| an <| tn ?_
     refine sQ <| sQ <| rg <| am k k <| am k k ?_
     obtain ⟨v6, hv6, h⟩ := ob h
     refine ae (x_at_list TT_ok hv6 k k k k k k) k <| ae (w_field_ref TT_ok k k k k k k) k <| ae (w_load_ref TT_ok k k k k k k) k <| am k k <| ae (w_cmp k k k) k <| an <| tn <| ac_ent (t := mkS [(0, .list 3 (List.map eB a0)), (1, .int (wr ((wr (x1.1 + 1)) + 1))), (5, .int x1.2), (36, .bl (!decide (v6.count = wr ((wr (x1.1 + 1)) + 1))))] [] 0 [0, 1]) (ent_mk (σ := sg []) ⟨⟨_, k, ⟨k, k⟩⟩, (e1 k k), (e1 k k), (e1 k k), trivial⟩ trivial k) ?_
     rcases cb h with ⟨q7, h⟩ | ⟨q7, h⟩
     ·refine ac_condT k q7 <| sQ <| rg <| aa k k <| an <| tn <| ac_ret <| then_ret <| block_ret <| then_ret ?_
      refine then_ret ?_
      obtain rfl := so h
      exact ⟨_, k, k, ret_mk k k k (fz_int k)⟩
     ·refine ac_condF k q7 <| ac_skip <| tn <| rg <| am k k <| ae (x_add k k) k <| aa k k <| an <| block_n <| tn ?_
      refine rg <| am k k <| ae (x_add k k) k <| aa k k <| an <| tn ?_
      obtain rfl := so h
      exact ⟨_, k, (ent_mk (σ := sg []) ⟨⟨_, k, ⟨k, k⟩⟩, (e1 k k), (e1 k k), trivial⟩ trivial k)⟩
  ·refine ac_condF k q1 <| ac_exit <| then_exit <| then_exit ?_
   obtain rfl := so h
   exact ⟨_, k, k, (ent_mk (σ := sg []) ⟨(e1 k k), trivial⟩ trivial k)⟩
 ·intro e t hX
  rcases y8 with y9 | y10
  ·obtain ⟨rfl, hent⟩ := hX
   refine block_here <| tn <| ac_ent hent <| sQ <| rg <| am k k <| aa k k <| an <| tn <| ac_ret ?_
   obtain rfl := so h
   exact ret_mk k k k (fz_int k)
  ·obtain ⟨rfl, hent⟩ := hX
   refine block_ret <| then_ret ?_
   obtain rfl := so h
   exact hent

noncomputable def m_laws_heldClaim (a0 : Cl) (a1 : Int) : Option Int :=
  Option.bind (m_laws_heldRep a0.rep a1) fun v1 =>
  bif decide (v1 < 0) then
    (some ((-1)))
  else
    (Option.bind (m_laws_heldRep a0.other v1) fun v3 =>
    bif decide (v3 < 0) then
      (some ((-1)))
    else
      (Option.bind (m_laws_heldRepS a0.parts v3) fun v5 =>
      bif decide (v5 < 0) then
        (some ((-1)))
      else
        (Option.bind (m_laws_heldMatrixS a0.maps v5) fun v7 =>
        bif decide (v7 < 0) then
          (some ((-1)))
        else
          (Option.bind (m_laws_heldBarS a0.bars v7) fun v9 =>
          bif decide (v9 < 0) then
            (some ((-1)))
          else
            (Option.bind (m_laws_heldIntS a0.theta v9) fun v11 =>
            bif decide (v11 < 0) then
              (some ((-1)))
            else
              (Option.bind (m_laws_heldSpaceS a0.subs v11) fun v13 =>
              bif decide (v13 < 0) then
                (some ((-1)))
              else
                (some (v13))))))))

theorem c_laws_heldClaim (a0 : Cl) (a1 : Int) (r : Int) (h : m_laws_heldClaim a0 a1 = some r) : HasC Tryz.prog 12 [.agg (eC a0), .int a1] (.int r) := by
 refine hasC_mk TT_ok (rvs := [.tmp 4]) (ns := [0, 1, 2]) Tryz.func12 k k Tryz.ntmps12 k k k <| sQ <| rg <| ae (w_box k k k k) k <| aa k k <| an <| tn <| sQ <| rg <| ae (w_field_ptr TT_ok k k k k k k k) k ?_
 refine ae (w_load_ptr TT_ok k k k k k k k) k <| am k k ?_
 obtain ⟨v1, hv1, h⟩ := ob h
 refine ae (w_call0s (c_laws_heldRep a0.rep a1 v1 hv1) k (va_cons (va_agg' (v1_cons (v1_same k) (v1_cons (v1_same k) (v1_cons (v1_same k) (v1_cons (v1_same k) (v1_cons (v1_same k) (v1_cons (v1_same k) v1_nil))))))) (va_cons (va_same k) va_nil))) k <| aa k k <| an <| tn <| sQ <| sQ <| rg <| am k k <| ae (w_cmp k k k) k <| an ?_
 refine tn ?_
 rcases cb h with ⟨q2, h⟩ | ⟨q2, h⟩
 ·refine ac_condT k q2 <| sQ <| rg <| aa k k <| an <| tn <| ac_ret <| then_ret ?_
  obtain rfl := so h
  exact ret_mk k k k (fz_int k)
 ·refine ac_condF k q2 <| ac_skip <| tn <| sQ <| rg <| ae (w_field_ptr TT_ok k k k k k k k) k <| ae (w_load_ptr TT_ok k k k k k k k) k <| am k k ?_
  obtain ⟨v3, hv3, h⟩ := ob h
  refine ae (w_call0s (c_laws_heldRep a0.other v1 v3 hv3) k (va_cons (va_agg' (v1_cons (v1_same k) (v1_cons (v1_same k) (v1_cons (v1_same k) (v1_cons (v1_same k) (v1_cons (v1_same k) (v1_cons (v1_same k) v1_nil))))))) (va_cons (va_same k) va_nil))) k <| aa k k <| an <| tn <| ac_ent (t := mkS [(1, .int v3), (2, .ptr 0 0 0)] [(0, ⟨18, [[.int a0.kind, .int a0.rep.p, .int a0.rep.q.n, .list 1 (List.map eI a0.rep.q.src), .list 1 (List.map eI a0.rep.q.tgt), .list 1 (List.map eI a0.rep.dims), .list 3 (List.map eM a0.rep.maps), .int a0.other.p, .int a0.other.q.n, .list 1 (List.map eI a0.other.q.src), .list 1 (List.map eI a0.other.q.tgt), .list 1 (List.map eI a0.other.dims), .list 3 (List.map eM a0.other.maps), .list 6 (List.map eR a0.parts), .list 3 (List.map eM a0.maps), .list 3 (List.map eB a0.bars), .list 1 (List.map eI a0.theta), .list 2 (List.map eS a0.subs)]]⟩)] 1 [1, 2]) (ent_mk (σ := sg [(0, 0)]) ⟨(e1 k k), (pE k k), trivial⟩ (hP k k k k <| trivial) k) <| sQ <| sQ <| rg <| am k k <| ae (w_cmp k k k) k ?_
  refine an <| tn ?_
  rcases cb h with ⟨q4, h⟩ | ⟨q4, h⟩
  ·refine ac_condT k q4 <| sQ <| rg <| aa k k <| an <| tn <| ac_ret <| then_ret ?_
   obtain rfl := so h
   exact ret_mk k k k (fz_int k)
  ·refine ac_condF k q4 <| ac_skip <| tn <| sQ <| rg <| ae (w_field_ptr TT_ok k k k k k k k) k <| ae (w_load_ptr TT_ok k k k k k k k) k <| am k k ?_
   obtain ⟨v5, hv5, h⟩ := ob h
   refine ae (w_call0s (c_laws_heldRepS a0.parts v3 v5 hv5) k (va_cons (va_same k) (va_cons (va_same k) va_nil))) k <| aa k k <| an <| tn <| sQ <| sQ <| rg <| am k k <| ae (w_cmp k k k) k <| an ?_
   refine tn ?_
   rcases cb h with ⟨q6, h⟩ | ⟨q6, h⟩
   ·refine ac_condT k q6 <| sQ <| rg <| aa k k <| an <| tn <| ac_ret <| then_ret ?_
    obtain rfl := so h
    exact ret_mk k k k (fz_int k)
   ·refine ac_condF k q6 <| ac_skip <| tn <| sQ <| rg <| ae (w_field_ptr TT_ok k k k k k k k) k <| ae (w_load_ptr TT_ok k k k k k k k) k <| am k k ?_
    obtain ⟨v7, hv7, h⟩ := ob h
    refine ae (w_call0s (c_laws_heldMatrixS a0.maps v5 v7 hv7) k (va_cons (va_same k) (va_cons (va_same k) va_nil))) k <| aa k k <| an <| tn <| ac_ent (t := mkS [(1, .int v7), (2, .ptr 0 0 0)] [(0, ⟨18, [[.int a0.kind, .int a0.rep.p, .int a0.rep.q.n, .list 1 (List.map eI a0.rep.q.src), .list 1 (List.map eI a0.rep.q.tgt), .list 1 (List.map eI a0.rep.dims), .list 3 (List.map eM a0.rep.maps), .int a0.other.p, .int a0.other.q.n, .list 1 (List.map eI a0.other.q.src), .list 1 (List.map eI a0.other.q.tgt), .list 1 (List.map eI a0.other.dims), .list 3 (List.map eM a0.other.maps), .list 6 (List.map eR a0.parts), .list 3 (List.map eM a0.maps), .list 3 (List.map eB a0.bars), .list 1 (List.map eI a0.theta), .list 2 (List.map eS a0.subs)]]⟩)] 1 [1, 2]) (ent_mk (σ := sg [(0, 0)]) ⟨(e1 k k), (pE k k), trivial⟩ (hP k k k k <| trivial) k) <| sQ <| sQ <| rg <| am k k <| ae (w_cmp k k k) k ?_
    refine an <| tn ?_
    rcases cb h with ⟨q8, h⟩ | ⟨q8, h⟩
    ·refine ac_condT k q8 <| sQ <| rg <| aa k k <| an <| tn <| ac_ret <| then_ret ?_
     obtain rfl := so h
     exact ret_mk k k k (fz_int k)
    ·refine ac_condF k q8 <| ac_skip <| tn <| sQ <| rg <| ae (w_field_ptr TT_ok k k k k k k k) k <| ae (w_load_ptr TT_ok k k k k k k k) k <| am k k ?_
     obtain ⟨v9, hv9, h⟩ := ob h
     refine ae (w_call0s (c_laws_heldBarS a0.bars v7 v9 hv9) k (va_cons (va_same k) (va_cons (va_same k) va_nil))) k <| aa k k <| an <| tn <| sQ <| sQ <| rg <| am k k <| ae (w_cmp k k k) k <| an ?_
     refine tn ?_
     rcases cb h with ⟨q10, h⟩ | ⟨q10, h⟩
     ·refine ac_condT k q10 <| sQ <| rg <| aa k k <| an <| tn <| ac_ret <| then_ret ?_
      obtain rfl := so h
      exact ret_mk k k k (fz_int k)
     ·refine ac_condF k q10 <| ac_skip <| tn <| sQ <| rg <| ae (w_field_ptr TT_ok k k k k k k k) k <| ae (w_load_ptr TT_ok k k k k k k k) k <| am k k ?_
      obtain ⟨v11, hv11, h⟩ := ob h
      refine ae (w_call0s (c_laws_heldIntS a0.theta v9 v11 hv11) k (va_cons (va_same k) (va_cons (va_same k) va_nil))) k <| aa k k <| an <| tn <| ac_ent (t := mkS [(1, .int v11), (2, .ptr 0 0 0)] [(0, ⟨18, [[.int a0.kind, .int a0.rep.p, .int a0.rep.q.n, .list 1 (List.map eI a0.rep.q.src), .list 1 (List.map eI a0.rep.q.tgt), .list 1 (List.map eI a0.rep.dims), .list 3 (List.map eM a0.rep.maps), .int a0.other.p, .int a0.other.q.n, .list 1 (List.map eI a0.other.q.src), .list 1 (List.map eI a0.other.q.tgt), .list 1 (List.map eI a0.other.dims), .list 3 (List.map eM a0.other.maps), .list 6 (List.map eR a0.parts), .list 3 (List.map eM a0.maps), .list 3 (List.map eB a0.bars), .list 1 (List.map eI a0.theta), .list 2 (List.map eS a0.subs)]]⟩)] 1 [1, 2]) (ent_mk (σ := sg [(0, 0)]) ⟨(e1 k k), (pE k k), trivial⟩ (hP k k k k <| trivial) k) <| sQ <| sQ <| rg <| am k k <| ae (w_cmp k k k) k ?_
      refine an <| tn ?_
      rcases cb h with ⟨q12, h⟩ | ⟨q12, h⟩
      ·refine ac_condT k q12 <| sQ <| rg <| aa k k <| an <| tn <| ac_ret <| then_ret ?_
       obtain rfl := so h
       exact ret_mk k k k (fz_int k)
      ·refine ac_condF k q12 <| ac_skip <| tn <| sQ <| rg <| ae (w_field_ptr TT_ok k k k k k k k) k <| ae (w_load_ptr TT_ok k k k k k k k) k <| am k k ?_
       obtain ⟨v13, hv13, h⟩ := ob h
       refine ae (w_call0s (c_laws_heldSpaceS a0.subs v11 v13 hv13) k (va_cons (va_same k) (va_cons (va_same k) va_nil))) k <| aa k k <| an <| tn <| sQ <| sQ <| rg <| am k k <| ae (w_cmp k k k) k <| an ?_
       refine tn ?_
       rcases cb h with ⟨q14, h⟩ | ⟨q14, h⟩
       ·refine ac_condT k q14 <| sQ <| rg <| aa k k <| an <| tn <| ac_ret <| then_ret ?_
        obtain rfl := so h
        exact ret_mk k k k (fz_int k)
       ·refine ac_condF k q14 <| ac_skip <| tn <| sQ <| rg <| am k k <| aa k k <| an <| tn <| ac_ret ?_
        obtain rfl := so h
        exact ret_mk k k k (fz_int k)

end Go.Proofs.YtdhjmmnjapkmkaaGreat
end

section
set_option linter.unusedVariables false
set_option linter.unusedSimpArgs false

namespace Go.Proofs.YtdhjmmnjapkmkaaGreat
open Go.RowKit
set_option linter.unusedVariables false
set_option linter.unusedSimpArgs false
def nvS {α : Type} (nv : α → Nat) : List α → Nat
 | [] => 0
 | x :: l => nv x + nvS nv l
def mvS {α : Type} (mv : Int → α → α) (nv : α → Nat) : Int → List α → List α
 | _, [] => []
 | k, x :: l => mv k x :: mvS mv nv (k + nv x) l
section
variable {α : Type} {mv : Int → α → α} {nv : α → Nat}
theorem mvS_len : ∀ (l : List α) (k : Int), (mvS mv nv k l).length = l.length
 | [], _ => rfl
 | x :: l, k => by simp [mvS, mvS_len l]
theorem nvS_app : ∀ (l m : List α), nvS nv (l ++ m) = nvS nv l + nvS nv m
 | [], m => by simp [nvS]
 | x :: l, m => by simp [nvS, nvS_app l m]; omega
theorem mvS_app : ∀ (l m : List α) (k : Int), mvS mv nv k (l ++ m) = mvS mv nv k l ++ mvS mv nv (k + nvS nv l) m
 | [], m, k => by simp [mvS, nvS]
 | x :: l, m, k => by
  simp only [List.cons_append, mvS, nvS, mvS_app l m]
  rw [show k + ((nv x + nvS nv l : Nat) : Int) = k + (nv x : Int) + (nvS nv l : Int) by omega]
theorem nvS_take {l : List α} {i : Nat} (hi : i < l.length) : nvS nv (l.take (i + 1)) = nvS nv (l.take i) + nv l[i] := by
 rw [List.take_succ_eq_append_getElem hi, nvS_app]; simp [nvS]
theorem nvS_take_le (l : List α) (i : Nat) : nvS nv (l.take i) ≤ nvS nv l := by
 have h : nvS nv (l.take i ++ l.drop i) = nvS nv l := by rw [List.take_append_drop]
 rw [nvS_app] at h; omega
theorem nvS_le {c : Nat} : ∀ {l : List α}, (∀ x ∈ l, nv x ≤ c) → nvS nv l ≤ c * l.length
 | [], _ => by simp [nvS]
 | x :: l, h => by
  have h1 := h x (by simp)
  have h2 := nvS_le (l := l) fun y hy => h y (by simp [hy])
  simp only [nvS, List.length_cons, Nat.mul_add, Nat.mul_one]; omega
theorem mvS_get {l : List α} {k : Int} {i : Nat} (hi : i < l.length) : (mvS mv nv k l)[i]? = some (mv (k + nvS nv (l.take i)) l[i]) := by
 have e : l = l.take i ++ l[i] :: l.drop (i + 1) := by rw [← List.drop_eq_getElem_cons hi, List.take_append_drop]
 have e2 : mvS mv nv k l = mvS mv nv k (l.take i) ++ mvS mv nv (k + nvS nv (l.take i)) (l[i] :: l.drop (i + 1)) := by rw [← mvS_app, ← e]
 rw [e2, List.getElem?_append_right (by rw [mvS_len]; simp; omega), mvS_len]
 simp [mvS, Nat.min_eq_left (Nat.le_of_lt hi)]
theorem mark_loop {l : List α} {k0 : Int} {body : List α × Int × Int → Option ((List α × Int × Int) ⊕ (List α × Int))} (h0 : 0 ≤ k0) (hk : k0 + nvS nv l ≤ 4611686018427387904) (hl : l.length ≤ 4611686018427387904)
  (hs : ∀ (r : List α) (i : Nat) (k : Int) (hi : i < r.length), r[i] ∈ l → 0 ≤ k → k + nv r[i] ≤ 4611686018427387904 → body (r, k, i) = some (.inl (r.set i (mv k r[i]), k + nv r[i], wr (i + 1)))) (he : ∀ r k, body (r, k, (r.length : Int)) = some (.inr (r, k))) :
  Lp body (l, k0, 0) = some (mvS mv nv k0 l, k0 + nvS nv l) := by
 rw [Lp_go (r := (mvS mv nv k0 l, k0 + nvS nv l)) (fun i => (mvS mv nv k0 (l.take i) ++ l.drop i, k0 + nvS nv (l.take i), (i : Int))) l.length (by simp [mvS, nvS]) (fun i hi => ?_) (fun _ => ?_)]
 ·have hm : (mvS mv nv k0 (l.take i)).length = i := by rw [mvS_len]; simp; omega
  have hg : (mvS mv nv k0 (l.take i) ++ l.drop i)[i]'(by simp [mvS_len]; omega) = l[i] := by
   rw [List.getElem_append_right (by omega)]
   simp [hm]
  have hb := nvS_take_le (nv := nv) l (i + 1)
  rw [nvS_take hi] at hb
  rw [hs _ i _ (by simp [mvS_len]; omega) (by rw [hg]; exact List.getElem_mem hi) (by omega) (by rw [hg]; omega), hg, wr_suc hi hl]
  congr 2
  refine Prod.ext ?_ (Prod.ext ?_ rfl)
  ·simp only
   rw [List.set_append_right _ _ (by omega), hm, Nat.sub_self, List.drop_eq_getElem_cons hi, List.set_cons_zero, List.take_succ_eq_append_getElem hi, mvS_app]
   simp [mvS]
  ·simp only
   rw [nvS_take hi]; omega
 ·have := he (mvS mv nv k0 (l.take l.length) ++ l.drop l.length) (k0 + nvS nv (l.take l.length))
  simp only [List.take_length, List.drop_length, List.append_nil, mvS_len] at this ⊢
  exact this
theorem held_loop {l : List α} {k0 : Int} {body : Int × Int → Option ((Int × Int) ⊕ (Int ⊕ Int))} (h0 : 0 ≤ k0) (hk : k0 + nvS nv l ≤ 4611686018427387904) (hl : l.length ≤ 4611686018427387904)
  (hs : ∀ (i : Nat) (hi : i < l.length) (k : Int), k = k0 + nvS nv (l.take i) → 0 ≤ k → k + nv l[i] ≤ 4611686018427387904 → body (k, i) = some (.inl (k + nv l[i], wr (i + 1)))) (he : ∀ k, body (k, (l.length : Int)) = some (.inr (.inl k))) :
  Lp body (k0, 0) = some (.inl (k0 + nvS nv l)) := by
 rw [Lp_go (r := Sum.inl (k0 + nvS nv l)) (fun i => (k0 + nvS nv (l.take i), (i : Int))) l.length (by simp [nvS]) (fun i hi => ?_) (fun _ => ?_)]
 ·have hb := nvS_take_le (nv := nv) l (i + 1)
  rw [nvS_take hi] at hb
  rw [hs i hi _ rfl (by omega) (by omega), wr_suc hi hl, nvS_take hi]
  congr 3
  omega
 ·rw [he]; simp
end
def nI (l : List Int) : Nat := nvS (fun _ => 1) l
def mvI : Int → List Int → List Int := mvS (fun k _ => k) (fun _ => 1)
theorem nI_len : ∀ l : List Int, nI l = l.length
 | [] => rfl
 | x :: l => by have := nI_len l; simp only [nI] at this; simp only [nI, nvS, List.length_cons]; omega
theorem mvI_len (k : Int) (l : List Int) : (mvI k l).length = l.length := mvS_len l k
theorem nneg {k : Int} {n : Nat} (h : 0 ≤ k) : decide (k + (n : Int) < 0) = false := decide_eq_false (by omega)
theorem mm_I {l : List Int} {k : Int} (h0 : 0 ≤ k) (hk : k + nI l ≤ 4611686018427387904) : m_laws_markIntS l k = some (mvI k l, k + nI l) := by
 have hl := nI_len l
 unfold m_laws_markIntS
 rw [mark_loop (mv := fun k _ => k) (nv := fun _ => 1) h0 hk (by omega) (fun r i k hi _ g0 g1 => ?_) (fun r k => ?_), Option.bind_some]
 ·rfl
 ·unfold m_laws_markIntS_L1
  simp only
  rw [dlt hi, cond_true, atL_nat hi, Option.bind_some, Int.toNat_natCast, wr_sm (x := k + 1) (by omega)]
  simp
 ·unfold m_laws_markIntS_L1
  simp only
  rw [dnl (Nat.le_refl _), cond_false]
theorem mh_I {l : List Int} {k : Int} (h0 : 0 ≤ k) (hk : k + nI l ≤ 4611686018427387904) : m_laws_heldIntS (mvI k l) k = some (k + nI l) := by
 have hl := nI_len l
 have hm := mvI_len k l
 unfold m_laws_heldIntS
 rw [held_loop (l := l) (nv := fun _ => 1) h0 hk (by omega) (fun i hi k' e g0 g1 => ?_) (fun k' => ?_), Option.bind_some]
 ·rfl
 ·unfold m_laws_heldIntS_L1
  simp only
  have hg : (mvI k l)[i]? = some k' := by unfold mvI; rw [mvS_get hi, e]
  rw [hm, dlt hi, cond_true, atL_nat (by omega), Option.bind_some]
  have hg' : (mvI k l)[i]'(by omega) = k' := by rw [List.getElem?_eq_getElem (by omega)] at hg; exact Option.some.inj hg
  rw [hg', decide_eq_true rfl, Bool.not_true, cond_false, wr_sm (x := k' + 1) (by omega)]
  simp
 ·unfold m_laws_heldIntS_L1
  simp only
  rw [hm, dnl (Nat.le_refl _), cond_false]
theorem get_of {α : Type} {l : List α} {i : Nat} {v : α} (h : l[i]? = some v) (hi : i < l.length) : l[i] = v := by rw [List.getElem?_eq_getElem hi] at h; exact Option.some.inj h
def nQ (q : Qv) : Nat := nI q.src + nI q.tgt
def mvQ (k : Int) (q : Qv) : Qv := ⟨q.n, mvI k q.src, mvI (k + nI q.src) q.tgt⟩
theorem mm_Q {q : Qv} {k : Int} (h0 : 0 ≤ k) (hk : k + nQ q ≤ 4611686018427387904) : m_laws_markQuiver q k = some ((mvQ k q).src, (mvQ k q).tgt, k + nQ q) := by
 unfold nQ at hk
 unfold m_laws_markQuiver
 rw [mm_I h0 (by omega), Option.bind_some, mvI_len, decide_eq_true rfl, cond_true, mm_I (by omega) (by omega), Option.bind_some, mvI_len, decide_eq_true rfl, cond_true]
 unfold mvQ nQ
 congr 3
 omega
theorem mh_Q {q : Qv} {k : Int} (h0 : 0 ≤ k) (hk : k + nQ q ≤ 4611686018427387904) : m_laws_heldQuiver (mvQ k q) k = some (k + nQ q) := by
 unfold nQ at hk
 unfold m_laws_heldQuiver mvQ
 simp only
 rw [mh_I h0 (by omega), Option.bind_some, nneg h0, cond_false, mh_I (by omega) (by omega), Option.bind_some, nneg (by omega), cond_false]
 unfold nQ
 congr 1
 omega
def nMe (m : Mt) : Nat := 2 + nI m.cells
def mvMe (k : Int) (m : Mt) : Mt := ⟨k, k + 1, mvI (k + 2) m.cells⟩
def nMs : List Mt → Nat := nvS nMe
def mvMs : Int → List Mt → List Mt := mvS mvMe nMe
theorem mvMs_len (k : Int) (l : List Mt) : (mvMs k l).length = l.length := mvS_len l k
theorem mm_Ms {l : List Mt} {k : Int} (h0 : 0 ≤ k) (hk : k + nMs l ≤ 4611686018427387904) (hl : l.length ≤ 4611686018427387904) : m_laws_markMatrixS l k = some (mvMs k l, k + nMs l) := by
 unfold m_laws_markMatrixS
 rw [mark_loop (mv := mvMe) (nv := nMe) h0 hk hl (fun r i k hi hm g0 g1 => ?_) (fun r k => ?_), Option.bind_some]
 ·rfl
 ·unfold nMe at g1
  unfold m_laws_markMatrixS_L1
  simp only
  rw [dlt hi, cond_true, atL_nat hi, Option.bind_some, wr_sm (x := k + 1) (by omega), wr_sm (x := k + 1 + 1) (by omega), show k + 1 + 1 = k + 2 by omega, mm_I (by omega) (by omega), Option.bind_some, mvI_len, decide_eq_true rfl, cond_true, Int.toNat_natCast]
  unfold mvMe nMe
  congr 4
  omega
 ·unfold m_laws_markMatrixS_L1
  simp only
  rw [dnl (Nat.le_refl _), cond_false]
theorem mh_Ms {l : List Mt} {k : Int} (h0 : 0 ≤ k) (hk : k + nMs l ≤ 4611686018427387904) (hl : l.length ≤ 4611686018427387904) : m_laws_heldMatrixS (mvMs k l) k = some (k + nMs l) := by
 have hm : (mvMs k l).length = l.length := mvS_len l k
 unfold m_laws_heldMatrixS
 rw [held_loop (l := l) (nv := nMe) h0 hk hl (fun i hi k' e g0 g1 => ?_) (fun k' => ?_), Option.bind_some]
 ·rfl
 ·unfold nMe at g1
  unfold m_laws_heldMatrixS_L1
  simp only
  rw [hm, dlt hi, cond_true, atL_nat (by omega), Option.bind_some, get_of (v := mvMe k' l[i]) (by unfold mvMs; rw [mvS_get hi, e]) (by omega)]
  unfold mvMe
  simp only [decide_true, Bool.not_true, cond_false, Option.bind_some, wr_sm (x := k' + 1) (by omega)]
  rw [wr_sm (x := k' + 1 + 1) (by omega), show k' + 1 + 1 = k' + 2 by omega, mh_I (by omega) (by omega), Option.bind_some, nneg (by omega), cond_false]
  unfold nMe
  congr 3
  omega
 ·unfold m_laws_heldMatrixS_L1
  simp only
  rw [hm, dnl (Nat.le_refl _), cond_false]
def nR (r : Rp) : Nat := nQ r.q + nI r.dims + nMs r.maps
def mvR (k : Int) (r : Rp) : Rp := ⟨r.p, mvQ k r.q, mvI (k + nQ r.q) r.dims, mvMs (k + nQ r.q + nI r.dims) r.maps⟩
theorem mm_R {r : Rp} {k : Int} (h0 : 0 ≤ k) (hk : k + nR r ≤ 4611686018427387904) (hl : r.maps.length ≤ 4611686018427387904) : m_laws_markRep r k = some ((mvR k r).q.src, (mvR k r).q.tgt, (mvR k r).dims, (mvR k r).maps, k + nR r) := by
 unfold nR at hk
 unfold m_laws_markRep
 rw [mm_Q h0 (by omega), Option.bind_some]
 simp only [mvQ, mvI_len, decide_true, cond_true]
 rw [mm_I (by omega) (by omega), Option.bind_some]
 simp only [mvI_len, decide_true, cond_true]
 rw [mm_Ms (by omega) (by omega) hl, Option.bind_some]
 simp only [mvMs_len, decide_true, cond_true]
 unfold mvR nR
 congr 5
 omega
theorem mh_R {r : Rp} {k : Int} (h0 : 0 ≤ k) (hk : k + nR r ≤ 4611686018427387904) (hl : r.maps.length ≤ 4611686018427387904) : m_laws_heldRep (mvR k r) k = some (k + nR r) := by
 unfold nR at hk
 unfold m_laws_heldRep mvR
 simp only
 rw [mh_Q h0 (by omega), Option.bind_some, nneg h0, cond_false, mh_I (by omega) (by omega), Option.bind_some, nneg (by omega), cond_false, mh_Ms (by omega) (by omega) hl, Option.bind_some, nneg (by omega), cond_false]
 unfold nR
 congr 1
 omega
theorem mvR_len (k : Int) (r : Rp) : (mvR k r).q.src.length = r.q.src.length ∧ (mvR k r).q.tgt.length = r.q.tgt.length ∧ (mvR k r).dims.length = r.dims.length ∧ (mvR k r).maps.length = r.maps.length := ⟨mvI_len _ _, mvI_len _ _, mvI_len _ _, mvMs_len _ _⟩
theorem nMs_bd {l : List Mt} (h : l.length ≤ 1048576 ∧ ∀ m ∈ l, bM m) : nMs l ≤ 2097152 * 1048576 := by
 have := nvS_le (nv := nMe) (c := 2097152) (l := l) fun m hm => by have := (h.2 m hm).1; unfold bI at this; unfold nMe; rw [nI_len]; omega
 unfold nMs
 calc nvS nMe l ≤ 2097152 * l.length := this
  _ ≤ 2097152 * 1048576 := Nat.mul_le_mul_left _ h.1
theorem nR_bd {r : Rp} (h : bR r) : nR r ≤ 4398046511104 := by
 obtain ⟨⟨h1, h2, _⟩, h3, h4, _⟩ := h
 have := nMs_bd h4
 unfold bI at h1 h2 h3
 unfold nR nQ
 rw [nI_len, nI_len, nI_len]
 omega
end Go.Proofs.YtdhjmmnjapkmkaaGreat
end

section
set_option linter.unusedVariables false
set_option linter.unusedSimpArgs false

namespace Go.Proofs.YtdhjmmnjapkmkaaGreat
open Go.RowKit
set_option linter.unusedVariables false
set_option linter.unusedSimpArgs false
set_option maxRecDepth 10000
set_option maxHeartbeats 4000000

end Go.Proofs.YtdhjmmnjapkmkaaGreat
end

section
set_option linter.unusedVariables false
set_option linter.unusedSimpArgs false

namespace Go.Proofs.YtdhjmmnjapkmkaaGreat
open Go.RowKit
set_option linter.unusedVariables false
set_option linter.unusedSimpArgs false
end Go.Proofs.YtdhjmmnjapkmkaaGreat
end

section
set_option linter.unusedVariables false
set_option linter.unusedSimpArgs false

namespace Go.Proofs.YtdhjmmnjapkmkaaGreat
open Go.RowKit
set_option linter.unusedVariables false
set_option linter.unusedSimpArgs false
theorem n_l3Transpose {r c : Nat} (hN : c * r ≤ 1048576) (hr : r ≤ 1048576) (hc : c ≤ 1048576) (F : Nat → Nat → Int) : m_spec_l3Transpose ⟨r, c, tabM r c F⟩ = some ⟨c, r, tabM c r fun i k => F k i⟩ := by
 have hN' : r * c ≤ 1048576 := by rw [Nat.mul_comm]; exact hN
 unfold m_spec_l3Transpose
 simp only
 rw [n_l3Zero hN, Option.bind_some]
 simp only
 rw [Lp_go (r := tabM c r fun i k => F k i) (fun t => (tabM c r (fun i k => if k < t then F k i else 0), (t : Int))) r (by simp) (fun t ht => ?_) (fun _ => ?_), Option.bind_some]
 ·unfold m_spec_l3Transpose_L1
  simp only
  rw [dlt ht, cond_true]
  rw [Lp_go (r := tabM c r (fun i k => if k < t + 1 then F k i else 0)) (fun x => (tabM c r (fun i k => if k < t ∨ (k = t ∧ i < x) then F k i else 0), (x : Int))) c (by simp) (fun x hx => ?_) (fun _ => ?_), Option.bind_some, wr_suc ht (by omega)]
  ·unfold m_spec_l3Transpose_L2
   simp only
   rw [dlt hx, cond_true, atT hN' ht hx, Option.bind_some, atT hN hx ht, Option.bind_some, setT hN hx ht, wr_suc hx (by omega)]
   congr 3
   refine tabM_congr fun i j hi hj => ?_
   simp only [setF]
   by_cases e : i = x ∧ j = t
   ·rw [if_pos e, if_pos (by omega), e.1, e.2]
   ·rw [if_neg e]
    by_cases e2 : j < t ∨ j = t ∧ i < x
    ·rw [if_pos e2, if_pos (by omega)]
    ·rw [if_neg e2, if_neg (by omega)]
  ·unfold m_spec_l3Transpose_L2
   simp only
   rw [dnl (Nat.le_refl _), cond_false]
   congr 2
   refine tabM_congr fun i j hi hj => ?_
   by_cases e : j < t + 1
   ·rw [if_pos e, if_pos (by omega)]
   ·rw [if_neg e, if_neg (by omega)]
 ·unfold m_spec_l3Transpose_L1
  simp only
  rw [dnl (Nat.le_refl _), cond_false]
  congr 2
  exact tabM_congr fun i j hi hj => by rw [if_pos hj]
def noRep : Rp × Bool := (⟨0, ⟨0, [], []⟩, [], []⟩, false)
theorem noRep_b : bR noRep.1 := ⟨⟨by simp [bI, noRep], by simp [bI, noRep], trivial⟩, by simp [bI, noRep], ⟨by simp [noRep], by simp [noRep]⟩, trivial⟩
theorem n_l6Copy {q : Qv} (h : bQ q) : m_spec_l6Copy q = some q := by
 obtain ⟨h1, h2, _⟩ := h
 unfold bI at h1 h2
 unfold m_spec_l6Copy
 rw [decide_eq_true (by simp; omega), cond_true, decide_eq_true (by simp; omega), cond_true]
 simp
end Go.Proofs.YtdhjmmnjapkmkaaGreat
end

section
set_option linter.unusedVariables false
set_option linter.unusedSimpArgs false

namespace Go.Proofs.YtdhjmmnjapkmkaaGreat
open Go.RowKit
set_option linter.unusedVariables false
set_option linter.unusedSimpArgs false
set_option maxRecDepth 10000
set_option maxHeartbeats 4000000

noncomputable def m_impl_copyMatrices_L1 (a0 : (List Mt)) (x1 : ((List Mt) × Int)) : Option (((List Mt) × Int) ⊕ (List Mt)) :=
  bif decide (x1.2 < (a0.length : Int)) then
    (Option.bind (atL a0 x1.2) fun v2 =>
    Option.bind (m_impl_Matrix_clone v2) fun v3 =>
    bif decide (x1.1.length + 1 ≤ 4294967296) then
      (some (.inl ((x1.1 ++ [v3]), wr (x1.2 + 1))))
    else none)
  else
    (some (.inr x1.1))

noncomputable def m_impl_copyMatrices (a0 : (List Mt)) : Option (List Mt) :=
  Option.bind (Lp (m_impl_copyMatrices_L1 a0) ([], 0)) fun y5 =>
  some (y5)

theorem c_impl_copyMatrices (a0 : (List Mt)) (r : (List Mt)) (h : m_impl_copyMatrices a0 = some r) : HasC Tryz.prog 61 [.list 3 (List.map eM a0)] (.list 3 (List.map eM r)) := by
 refine hasC_mk TT_ok (rvs := [.tmp 2]) (ns := [0, 1, 2, 3, 4, 5, 6]) Tryz.func61 k k Tryz.ntmps61 k k k <| sQ <| rg <| aa k k <| an <| tn <| sQ <| rg <| aa k k <| an ?_
 refine tn <| sQ <| sQ <| rg <| am k k <| ae (lenL TT_ok k k k) k <| am k k <| an <| tn <| ac_block ?_
 obtain ⟨y5, hy5, h⟩ := ob h
 refine ac_Lp (body := (m_impl_copyMatrices_L1 a0)) hy5 (fun (x1 : ((List Mt) × Int)) => mkS [(3, .own 0 0 x1.1.length), (6, .list 3 (List.map eM a0)), (7, .int (a0.length : Int)), (8, .int x1.2)] [(0, ⟨3, List.map (ow eM) x1.1⟩)] 1 [1, 2, 3, 4, 5, 6]) (fun r e t => e = .exit 0 ∧ Ent t (mkS [(3, .own 0 0 r.length)] [(0, ⟨3, List.map (ow eM) r⟩)] 1 [1, 2, 3, 4, 5, 6])) (ent_mk (σ := sg []) ⟨⟨_, k, ⟨k, k, k, k⟩⟩, ⟨_, k, ⟨k, k⟩⟩, (e1 k k), (e1 k k), trivial⟩ (hX k k <| trivial) k) ?_ ?_
 ·intro x1 o h
  refine sQ <| rg <| ae (w_cmp k k k) k <| an <| tn <| sQ ?_
  rcases cb h with ⟨q1, h⟩ | ⟨q1, h⟩
  ·refine ac_condT k q1 <| ac_skip <| tn <| sQ <| ac_block <| sQ <| rg ?_
   obtain ⟨v2, hv2, h⟩ := ob h
   refine ae (x_at_list TT_ok hv2 k k k k k k) k <| ae (w_load_ref TT_ok k k k k k k) k <| ae (w_alloc TT_ok k k) k <| ae (w_store TT_ok k k k k k k k k) k <| an <| tn <| rg <| am k k <| ae (w_load_ptr TT_ok k k k k k k k) k ?_
   obtain ⟨v3, hv3, h⟩ := ob h
   refine ae (AEff.conv (w_call0 (x := .agg [.int v3.rows, .int v3.cols, .own 2 0 (List.map eI v3.cells).length]) (nb := [(2, ⟨1, absEs (List.map eI v3.cells)⟩)]) (c_impl_Matrix_clone v2 v3 hv3) k (by rfl) k k (g1_cons trivial (g1_cons trivial (g1_cons (okI.good _) g1_nil))) (va_cons (va_agg' (v1_cons (v1_same k) (v1_cons (v1_same k) (v1_cons (v1_same k) v1_nil)))) va_nil)) (v' := .agg [.int v3.rows, .int v3.cols, .own 2 0 v3.cells.length]) (ed' := [(2, some ⟨1, List.map (ow eI) v3.cells⟩)]) (by simp only [len_map]) (ed_ok (nb' := [(2, ⟨1, List.map (ow eI) v3.cells⟩)]) (by simp only [abs_map]))) k <| ae (w_lit TT_ok k k k k k k k k k k k k) k ?_
   obtain ⟨q4, h⟩ := cg h
   refine ae (x_app1 TT_ok (l := x1.1) (c := [.int v3.rows, .int v3.cols, .own 2 0 v3.cells.length]) q4 k k k k k k k k k k k k k k) k <| aa k k <| an <| block_n <| tn <| ac_ent (t := mkS [(3, .own 4 0 ((x1.1 ++ [v3]).length)), (6, .list 3 (List.map eM a0)), (7, .int (a0.length : Int)), (8, .int x1.2)] [(4, ⟨3, List.map (ow eM) (x1.1 ++ [v3])⟩)] 5 [5, 6]) (Ent.trans (ent_absL (b := 4) (b' := 2) (j := 2) (es' := List.map eI v3.cells) k k k k (len_map _ _) (okI.frzs _)) (ent_mk (σ := sg [(4, 4)]) ⟨⟨_, k, ⟨k, k, (by simp only [len_map, lA, lT, lR, lC, lN]), k⟩⟩, ⟨_, k, ⟨k, k⟩⟩, (e1 k k), (e1 k k), trivial⟩ (hX ⟨_, k, k, .inl ⟨app_eq v3 k, okMt.plainO _⟩⟩ k <| trivial) k)) <| rg <| ae (x_add k k) k <| am k k <| an ?_
   refine tn ?_
   obtain rfl := so h
   exact ⟨_, k, (ent_mk (σ := sg [(0, 4)]) ⟨(oE k k), ⟨_, k, ⟨k, k⟩⟩, (e1 k k), (e1 k k), trivial⟩ (hB (okMt.plainO _) k k k <| trivial) k)⟩
  ·refine ac_condF k q1 <| ac_exit <| then_exit <| then_exit ?_
   obtain rfl := so h
   exact ⟨_, k, k, (ent_mk (σ := sg [(0, 0)]) ⟨(oE k k), trivial⟩ (hB (okMt.plainO _) k k k <| trivial) k)⟩
 ·rintro e t ⟨rfl, hent⟩
  refine block_here <| tn <| ac_ent hent <| sQ <| rg <| am k k <| aa k k <| an <| tn <| ac_ret ?_
  obtain rfl := so h
  exact ret_mk k k k (xz_list (x_f1 okMt k k))

noncomputable def m_impl_Quiver_clone (a0 : Qv) : Option Qv :=
  Option.bind (m_Clone a0.src) fun v1 =>
  Option.bind (m_Clone a0.tgt) fun v2 =>
  some ((⟨a0.n, v1, v2⟩ : Qv))

theorem c_impl_Quiver_clone (a0 : Qv) (r : Qv) (h : m_impl_Quiver_clone a0 = some r) : HasC Tryz.prog 59 [.agg (eQ a0)] (.agg (eQ r)) := by
 refine hasC_mk TT_ok (rvs := [.cell 2 29]) (ns := [0, 1, 2, 3, 4, 5]) Tryz.func59 k k Tryz.ntmps59 k k k <| sQ <| rg <| ae (w_box k k k k) k <| ae (w_alloc TT_ok k k) k <| an <| tn <| sQ <| ac_region_draw MIXX <| ae (w_field_ptr TT_ok k k k k k k k) k ?_
 refine ae (w_load_ptr TT_ok k k k k k k k) k <| ae (w_field_ptr TT_ok k k k k k k k) k <| ae (w_load_ptr TT_ok k k k k k k k) k ?_
 obtain ⟨v1, hv1, h⟩ := ob h
 refine ae (AEff.conv (w_call0 (x := .own 2 0 (List.map eI v1).length) (nb := [(2, ⟨1, absEs (List.map eI v1)⟩)]) (c_Clone a0.src v1 hv1) k (by rfl) k k (okI.good _) (va_cons (va_same k) va_nil)) (v' := .own 2 0 v1.length) (ed' := [(2, some ⟨1, List.map (ow eI) v1⟩)]) (by simp only [len_map]) (ed_ok (nb' := [(2, ⟨1, List.map (ow eI) v1⟩)]) (by simp only [abs_map]))) k <| ae (w_field_ptr TT_ok k k k k k k k) k <| ae (w_load_ptr TT_ok k k k k k k k) k ?_
 obtain ⟨v2, hv2, h⟩ := ob h
 refine ae (AEff.conv (w_call0 (x := .own 3 0 (List.map eI v2).length) (nb := [(3, ⟨1, absEs (List.map eI v2)⟩)]) (c_Clone a0.tgt v2 hv2) k (by rfl) k k (okI.good _) (va_cons (va_same k) va_nil)) (v' := .own 3 0 v2.length) (ed' := [(3, some ⟨1, List.map (ow eI) v2⟩)]) (by simp only [len_map]) (ed_ok (nb' := [(3, ⟨1, List.map (ow eI) v2⟩)]) (by simp only [abs_map]))) k <| ae (w_build TT_ok k k k k k k) k <| ae (w_store TT_ok k k k k k k k k) k <| an ?_
 refine ⟨by kernel_rfl, ?_⟩
 refine tn <| ac_ent (t := mkS [(2, .ptr 1 0 0)] [(1, ⟨3, [[.int a0.n, .own 2 0 v1.length, .own 3 0 v2.length]]⟩), (2, ⟨1, List.map (ow eI) v1⟩), (3, ⟨1, List.map (ow eI) v2⟩)] 4 [4, 5]) (ent_mk (σ := sg [(1, 1), (2, 2), (3, 3)]) ⟨(pE k k), trivial⟩ (hX ⟨_, k, k, .inr ⟨_, _, k, ⟨_, _, k, k, ⟨_, _, k, ⟨k, k, k, k⟩, ⟨_, _, k, ⟨k, k, k, k⟩, k⟩⟩⟩, k⟩⟩ k <| hI k k k <| hI k k k <| trivial) k) <| ac_ret ?_
 obtain rfl := so h
 exact ret_mk k k k (xz_agg (x1_cons (k) (x1_cons (x_f1 okI k k) (x1_cons (x_f1 okI k k) x1_nil))))

noncomputable def m_impl_Rep_clone (a0 : Rp) : Option Rp :=
  Option.bind (m_impl_Quiver_clone a0.q) fun v1 =>
  Option.bind (m_Clone a0.dims) fun v2 =>
  Option.bind (m_impl_copyMatrices a0.maps) fun v3 =>
  some ((⟨a0.p, v1, v2, v3⟩ : Rp))

theorem c_impl_Rep_clone (a0 : Rp) (r : Rp) (h : m_impl_Rep_clone a0 = some r) : HasC Tryz.prog 22 [.agg (eR a0)] (.agg (eR r)) := by
 refine hasC_mk TT_ok (rvs := [.cell 2 32]) (ns := [0, 1, 2, 3, 4, 5, 6, 7]) Tryz.func22 k k Tryz.ntmps22 k k k <| sQ <| rg <| ae (w_box k k k k) k <| ae (w_alloc TT_ok k k) k <| an <| tn <| sQ <| ac_region_draw MIXX <| ae (w_field_ptr TT_ok k k k k k k k) k ?_
 refine ae (w_load_ptr TT_ok k k k k k k k) k <| ae (w_field_ptr TT_ok k k k k k k k) k <| ae (w_load_ptr TT_ok k k k k k k k) k ?_
 obtain ⟨v1, hv1, h⟩ := ob h
 refine ae (AEff.conv (w_call0 (x := .agg [.int v1.n, .own 2 0 (List.map eI v1.src).length, .own 3 0 (List.map eI v1.tgt).length]) (nb := [(2, ⟨1, absEs (List.map eI v1.src)⟩), (3, ⟨1, absEs (List.map eI v1.tgt)⟩)]) (c_impl_Quiver_clone a0.q v1 hv1) k (by rfl) k k (g1_cons trivial (g1_cons (okI.good _) (g1_cons (okI.good _) g1_nil))) (va_cons (va_agg' (v1_cons (v1_same k) (v1_cons (v1_same k) (v1_cons (v1_same k) v1_nil)))) va_nil)) (v' := .agg [.int v1.n, .own 2 0 v1.src.length, .own 3 0 v1.tgt.length]) (ed' := [(2, some ⟨1, List.map (ow eI) v1.src⟩), (3, some ⟨1, List.map (ow eI) v1.tgt⟩)]) (by simp only [len_map]) (ed_ok (nb' := [(2, ⟨1, List.map (ow eI) v1.src⟩), (3, ⟨1, List.map (ow eI) v1.tgt⟩)]) (by simp only [abs_map]))) k <| ae (w_field_ptr TT_ok k k k k k k k) k <| ae (w_load_ptr TT_ok k k k k k k k) k ?_
 obtain ⟨v2, hv2, h⟩ := ob h
 refine ae (AEff.conv (w_call0 (x := .own 4 0 (List.map eI v2).length) (nb := [(4, ⟨1, absEs (List.map eI v2)⟩)]) (c_Clone a0.dims v2 hv2) k (by rfl) k k (okI.good _) (va_cons (va_same k) va_nil)) (v' := .own 4 0 v2.length) (ed' := [(4, some ⟨1, List.map (ow eI) v2⟩)]) (by simp only [len_map]) (ed_ok (nb' := [(4, ⟨1, List.map (ow eI) v2⟩)]) (by simp only [abs_map]))) k <| ae (w_field_ptr TT_ok k k k k k k k) k <| ae (w_load_ptr TT_ok k k k k k k k) k ?_
 obtain ⟨v3, hv3, h⟩ := ob h
 refine ae (AEff.conv (w_call0 (x := .own 5 0 (List.map eM v3).length) (nb := [(5, ⟨3, absEs (List.map eM v3)⟩)]) (c_impl_copyMatrices a0.maps v3 hv3) k (by rfl) k k (okMt.good _) (va_cons (va_same k) va_nil)) (v' := .own 5 0 v3.length) (ed' := [(5, some ⟨3, List.map (ow eM) v3⟩)]) (by simp only [len_map]) (ed_ok (nb' := [(5, ⟨3, List.map (ow eM) v3⟩)]) (by simp only [abs_map]))) k <| ae (w_build TT_ok k k k k k k) k <| ae (w_store TT_ok k k k k k k k k) k <| an ?_
 refine ⟨by kernel_rfl, ?_⟩
 refine tn <| ac_ent (t := mkS [(2, .ptr 1 0 0)] [(1, ⟨6, [[.int a0.p, .int v1.n, .own 2 0 v1.src.length, .own 3 0 v1.tgt.length, .own 4 0 v2.length, .own 5 0 v3.length]]⟩), (2, ⟨1, List.map (ow eI) v1.src⟩), (3, ⟨1, List.map (ow eI) v1.tgt⟩), (4, ⟨1, List.map (ow eI) v2⟩), (5, ⟨3, List.map (ow eM) v3⟩)] 6 [6, 7]) (ent_mk (σ := sg [(1, 1), (2, 2), (3, 3), (4, 4), (5, 5)]) ⟨(pE k k), trivial⟩ (hX ⟨_, k, k, .inr ⟨_, _, k, ⟨_, _, k, k, ⟨_, _, k, k, ⟨_, _, k, ⟨k, k, k, k⟩, ⟨_, _, k, ⟨k, k, k, k⟩, ⟨_, _, k, ⟨k, k, k, k⟩, ⟨_, _, k, ⟨k, k, k, k⟩, k⟩⟩⟩⟩⟩⟩, k⟩⟩ k <| hI k k k <| hI k k k <| hI k k k <| hB (okMt.plainO _) k k k <| trivial) k) <| ac_ret ?_
 obtain rfl := so h
 exact ret_mk k k k (xz_agg (x1_cons (k) (x1_cons (k) (x1_cons (x_f1 okI k k) (x1_cons (x_f1 okI k k) (x1_cons (x_f1 okI k k) (x1_cons (x_f1 okMt k k) x1_nil)))))))

noncomputable def m_impl_Matrix_rows_L1 (a0 : Mt) (x1 : ((List (List Int)) × Int)) : Option (((List (List Int)) × Int) ⊕ (List (List Int))) :=
  bif decide (x1.2 < a0.rows) then
    (Option.bind (m_rowD a0 x1.2) fun v2 =>
    Option.bind (m_Clone v2) fun v3 =>
    bif decide (x1.1.length + 1 ≤ 4294967296) then
      (some (.inl ((x1.1 ++ [v3]), wr (x1.2 + 1))))
    else none)
  else
    (some (.inr x1.1))

noncomputable def m_impl_Matrix_rows (a0 : Mt) : Option (List (List Int)) :=
  Option.bind (Lp (m_impl_Matrix_rows_L1 a0) ([], 0)) fun y5 =>
  some (y5)

theorem c_impl_Matrix_rows (a0 : Mt) (r : (List (List Int))) (h : m_impl_Matrix_rows a0 = some r) : HasC Tryz.prog 55 [.agg (eM a0)] (.list 1 (List.map (eLs 1 eI) r)) := by
 refine hasC_mk TT_ok (rvs := [.tmp 2]) (ns := [0, 1, 2, 3, 4, 5, 6]) Tryz.func55 k k Tryz.ntmps55 k k k <| sQ <| rg <| ae (w_box k k k k) k <| aa k k <| an <| tn <| sQ <| rg <| aa k k ?_
 refine an <| tn <| sQ <| sQ <| rg <| ae (w_field_ptr TT_ok k k k k k k k) k <| ae (w_load_ptr TT_ok k k k k k k k) k <| am k k <| an <| tn ?_
 refine ac_block ?_
 obtain ⟨y5, hy5, h⟩ := ob h
 refine ac_Lp (body := (m_impl_Matrix_rows_L1 a0)) hy5 (fun (x1 : ((List (List Int)) × Int)) => mkS [(1, .ptr 0 0 0), (3, .own 1 0 x1.1.length), (6, .int a0.rows), (7, .int x1.2)] [(0, ⟨3, [[.int a0.rows, .int a0.cols, .list 1 (List.map eI a0.cells)]]⟩), (1, ⟨1, List.map (ow (eLs 1 eI)) x1.1⟩)] 2 [2, 3, 4, 5, 6]) (fun r e t => e = .exit 0 ∧ Ent t (mkS [(3, .own 0 0 r.length)] [(0, ⟨1, List.map (ow (eLs 1 eI)) r⟩)] 1 [1, 2, 3, 4, 5, 6])) (ent_mk (σ := sg [(0, 0)]) ⟨(pE k k), ⟨_, k, ⟨k, k, k, k⟩⟩, (e1 k k), (e1 k k), trivial⟩ (hP k k k k <| hX k k <| trivial) k) ?_ ?_
 ·intro x1 o h
  refine sQ <| rg <| ae (w_cmp k k k) k <| an <| tn <| sQ ?_
  rcases cb h with ⟨q1, h⟩ | ⟨q1, h⟩
  ·refine ac_condT k q1 <| ac_skip <| tn <| sQ <| ac_block <| sQ <| rg <| am k k <| aa k k <| an ?_
   refine tn <| rg <| am k k <| ae (w_load_ptr TT_ok k k k k k k k) k <| am k k ?_
   obtain ⟨v2, hv2, h⟩ := ob h
   refine ae (eff_hasV (c_rowD a0 x1.2 v2 hv2) k k k) k ?_
   obtain ⟨v3, hv3, h⟩ := ob h
   refine ae (AEff.conv (w_call0 (x := .own 2 0 (List.map eI v3).length) (nb := [(2, ⟨1, absEs (List.map eI v3)⟩)]) (c_Clone v2 v3 hv3) k (by rfl) k k (okI.good _) (va_cons (va_same k) va_nil)) (v' := .own 2 0 v3.length) (ed' := [(2, some ⟨1, List.map (ow eI) v3⟩)]) (by simp only [len_map]) (ed_ok (nb' := [(2, ⟨1, List.map (ow eI) v3⟩)]) (by simp only [abs_map]))) k <| ae (w_lit TT_ok k k k k k k k k k k k k) k ?_
   obtain ⟨q4, h⟩ := cg h
   refine ae (x_app1 TT_ok (l := x1.1) (c := [.own 2 0 v3.length]) q4 k k k k k k k k k k k k k k) k <| aa k k <| an <| block_n <| tn <| ac_ent (t := mkS [(1, .ptr 0 0 0), (3, .own 4 0 ((x1.1 ++ [v3]).length)), (6, .int a0.rows), (7, .int x1.2)] [(0, ⟨3, [[.int a0.rows, .int a0.cols, .list 1 (List.map eI a0.cells)]]⟩), (4, ⟨1, List.map (ow (eLs 1 eI)) (x1.1 ++ [v3])⟩)] 5 [5, 6]) (Ent.trans (ent_absL (b := 4) (b' := 2) (j := 0) (es' := List.map eI v3) k k k k (len_map _ _) (okI.frzs _)) (ent_mk (σ := sg [(0, 0), (4, 4)]) ⟨(pE k k), ⟨_, k, ⟨k, k, (by simp only [len_map, lA, lT, lR, lC, lN]), k⟩⟩, (e1 k k), (e1 k k), trivial⟩ (hP k k k k <| hX ⟨_, k, k, .inl ⟨app_eq v3 k, okLs.plainO _⟩⟩ k <| trivial) k)) <| rg <| ae (x_add k k) k <| am k k <| an ?_
   refine tn ?_
   obtain rfl := so h
   exact ⟨_, k, (ent_mk (σ := sg [(0, 0), (1, 4)]) ⟨(pE k k), (oE k k), (e1 k k), (e1 k k), trivial⟩ (hP k k k k <| hB (okLs.plainO _) k k k <| trivial) k)⟩
  ·refine ac_condF k q1 <| ac_exit <| then_exit <| then_exit ?_
   obtain rfl := so h
   exact ⟨_, k, k, (ent_mk (σ := sg [(0, 1)]) ⟨(oE k k), trivial⟩ (hB (okLs.plainO _) k k k <| trivial) k)⟩
 ·rintro e t ⟨rfl, hent⟩
  refine block_here <| tn <| ac_ent hent <| sQ <| rg <| am k k <| aa k k <| an <| tn <| ac_ret ?_
  obtain rfl := so h
  exact ret_mk k k k (xz_list (x_f1 okLs k k))

noncomputable def m_impl_ExtBasis_L1 (a0 : Rp) (a1 : Rp) (v3 : Mt) (v7 : (List Int)) (x1 : ((List (List Mt)) × Int)) : Option (((List (List Mt)) × Int) ⊕ (List (List Mt))) :=
  bif decide (x1.2 < ((v7.length : Nat) : Int)) then
    (Option.bind (atL v7 x1.2) fun v9 =>
    bif (decide (0 ≤ v3.rows) && decide (v3.rows ≤ 1048576)) then
      (Option.bind (atL (List.replicate v3.rows.toNat (0 : Int)) v9) fun v10 =>
      Option.bind (m_impl_cocycleZeros a0 a1) fun v11 =>
      Option.bind (m_impl_shaped v11 ((List.replicate v3.rows.toNat (0 : Int)).set v9.toNat 1)) fun v12 =>
      bif decide (x1.1.length + 1 ≤ 4294967296) then
        (some (.inl ((x1.1 ++ [v12]), wr (x1.2 + 1))))
      else none)
    else none)
  else
    (some (.inr x1.1))

noncomputable def m_impl_ExtBasis (a0 : Rp) (a1 : Rp) : Option ((List (List Mt)) × Bool) :=
  Option.bind (m_impl_fit a0 a1) fun v1 =>
  bif !v1 then
    (some (([], false)))
  else
    (Option.bind (m_impl_boundaries a0 a1) fun v3 =>
    Option.bind (m_impl_Matrix_rows v3) fun v4 =>
    Option.bind (m_impl_fromColumns v3.cols v4) fun v5 =>
    Option.bind (m_impl_reduce a0.p v5) fun v6 =>
    Option.bind (m_impl_freeColumns v3.rows v6.2) fun v7 =>
    Option.bind (Lp (m_impl_ExtBasis_L1 a0 a1 v3 v7) ([], 0)) fun y15 =>
    some ((y15, true)))

theorem c_impl_ExtBasis (a0 : Rp) (a1 : Rp) (r : ((List (List Mt)) × Bool)) (h : m_impl_ExtBasis a0 a1 = some r) : HasC Tryz.prog 21 [.agg (eR a0), .agg (eR a1)] (.tuple [.list 1 (List.map (eLs 3 eM) r.1), .bl r.2]) := by
 refine hasC_mk TT_ok (rvs := [.tmp 4, .tmp 5]) (ns := [0, 1, 2, 3, 4, 5, 6, 7, 8, 9, 10, 11, 12]) Tryz.func21 k k Tryz.ntmps21 k k k <| sQ <| rg <| ae (w_box k k k k) k <| ae (w_box k k k k) k <| aa k k <| aa k k <| an <| tn <| sQ ?_
 refine sQ <| rg <| ae (w_load_ptr TT_ok k k k k k k k) k <| ae (w_load_ptr TT_ok k k k k k k k) k ?_
 obtain ⟨v1, hv1, h⟩ := ob h
 refine ae (w_call0s (c_impl_fit a0 a1 v1 hv1) k (va_cons (va_agg' (v1_cons (v1_same k) (v1_cons (v1_same k) (v1_cons (v1_same k) (v1_cons (v1_same k) (v1_cons (v1_same k) (v1_cons (v1_same k) v1_nil))))))) (va_cons (va_agg' (v1_cons (v1_same k) (v1_cons (v1_same k) (v1_cons (v1_same k) (v1_cons (v1_same k) (v1_cons (v1_same k) (v1_cons (v1_same k) v1_nil))))))) va_nil))) k <| ae (w_not k) k <| an <| tn ?_
 rcases cb h with ⟨q2, h⟩ | ⟨q2, h⟩
 ·refine ac_condT k q2 <| sQ <| rg <| aa k k <| aa k k <| an <| tn <| ac_ret <| then_ret ?_
  obtain rfl := so h
  exact ret_mk k k k (xz_tuple k (xB_cons (xB_one (k)) (xB_cons (k) xB_nil)))
 ·refine ac_condF k q2 <| ac_skip <| tn <| sQ <| rg <| ae (w_load_ptr TT_ok k k k k k k k) k <| ae (w_load_ptr TT_ok k k k k k k k) k ?_
  obtain ⟨v3, hv3, h⟩ := ob h
  refine ae (AEff.conv (w_call0 (x := .agg [.int v3.rows, .int v3.cols, .own 2 0 (List.map eI v3.cells).length]) (nb := [(2, ⟨1, absEs (List.map eI v3.cells)⟩)]) (c_impl_boundaries a0 a1 v3 hv3) k (by rfl) k k (g1_cons trivial (g1_cons trivial (g1_cons (okI.good _) g1_nil))) (va_cons (va_agg' (v1_cons (v1_same k) (v1_cons (v1_same k) (v1_cons (v1_same k) (v1_cons (v1_same k) (v1_cons (v1_same k) (v1_cons (v1_same k) v1_nil))))))) (va_cons (va_agg' (v1_cons (v1_same k) (v1_cons (v1_same k) (v1_cons (v1_same k) (v1_cons (v1_same k) (v1_cons (v1_same k) (v1_cons (v1_same k) v1_nil))))))) va_nil))) (v' := .agg [.int v3.rows, .int v3.cols, .own 2 0 v3.cells.length]) (ed' := [(2, some ⟨1, List.map (ow eI) v3.cells⟩)]) (by simp only [len_map]) (ed_ok (nb' := [(2, ⟨1, List.map (ow eI) v3.cells⟩)]) (by simp only [abs_map]))) k <| ae (w_alloc TT_ok k k) k <| ae (w_store TT_ok k k k k k k k k) k <| an <| tn <| ac_ent (t := mkS [(2, .ptr 0 0 0), (3, .ptr 1 0 0), (6, .ptr 3 0 0)] [(0, ⟨6, [[.int a0.p, .int a0.q.n, .list 1 (List.map eI a0.q.src), .list 1 (List.map eI a0.q.tgt), .list 1 (List.map eI a0.dims), .list 3 (List.map eM a0.maps)]]⟩), (1, ⟨6, [[.int a1.p, .int a1.q.n, .list 1 (List.map eI a1.q.src), .list 1 (List.map eI a1.q.tgt), .list 1 (List.map eI a1.dims), .list 3 (List.map eM a1.maps)]]⟩), (2, ⟨1, List.map (ow eI) v3.cells⟩), (3, ⟨3, [[.int v3.rows, .int v3.cols, .own 2 0 v3.cells.length]]⟩)] 4 [4, 5, 6, 7, 8, 9, 10, 11, 12]) (ent_mk (σ := sg [(0, 0), (1, 1), (2, 2), (3, 3)]) ⟨(pE k k), (pE k k), (pE k k), trivial⟩ (hP k k k k <| hP k k k k <| hI k k k <| hX ⟨_, k, k, .inr ⟨_, _, k, ⟨_, _, k, k, ⟨_, _, k, k, ⟨_, _, k, ⟨k, k, k, k⟩, k⟩⟩⟩, k⟩⟩ k <| trivial) k) ?_
  refine sQ <| ac_region_draw MIXX <| ae (w_field_ptr TT_ok k k k k k k k) k <| ae (w_load_ptr TT_ok k k k k k k k) k <| ae (w_field_ptr TT_ok k k k k k k k) k <| ae (w_load_ptr TT_ok k k k k k k k) k <| ae (w_load_ptr TT_ok k k k k k k k) k ?_
  obtain ⟨v4, hv4, h⟩ := ob h
  refine ae (AEff.conv (w_call0 (x := .own 4 0 (List.map (eLs 1 eI) v4).length) (nb := [(4, ⟨1, absEs (List.map (eLs 1 eI) v4)⟩)]) (c_impl_Matrix_rows v3 v4 hv4) k (by rfl) k k (okLs.good _) (va_cons (va_agg' (v1_cons (v1_same k) (v1_cons (v1_same k) (v1_cons (v1_T okI k k) v1_nil)))) va_nil)) (v' := .own 4 0 v4.length) (ed' := [(4, some ⟨1, List.map (ow (eLs 1 eI)) v4⟩)]) (by simp only [len_map]) (ed_ok (nb' := [(4, ⟨1, List.map (ow (eLs 1 eI)) v4⟩)]) (by simp only [abs_map]))) k ?_
  obtain ⟨v5, hv5, h⟩ := ob h
  refine ae (AEff.conv (w_call0 (x := .agg [.int v5.rows, .int v5.cols, .own 5 0 (List.map eI v5.cells).length]) (nb := [(5, ⟨1, absEs (List.map eI v5.cells)⟩)]) (c_impl_fromColumns v3.cols v4 v5 hv5) k (by rfl) k k (g1_cons trivial (g1_cons trivial (g1_cons (okI.good _) g1_nil))) (va_cons (va_same k) (va_cons (va_T okLs k k) va_nil))) (v' := .agg [.int v5.rows, .int v5.cols, .own 5 0 v5.cells.length]) (ed' := [(5, some ⟨1, List.map (ow eI) v5.cells⟩)]) (by simp only [len_map]) (ed_ok (nb' := [(5, ⟨1, List.map (ow eI) v5.cells⟩)]) (by simp only [abs_map]))) k ?_
  obtain ⟨v6, hv6, h⟩ := ob h
  refine ae (AEff.conv (w_call0 (x := .tuple [.agg [.int v6.1.rows, .int v6.1.cols, .own 6 0 (List.map eI v6.1.cells).length], .own 7 0 (List.map eI v6.2).length]) (nb := [(6, ⟨1, absEs (List.map eI v6.1.cells)⟩), (7, ⟨1, absEs (List.map eI v6.2)⟩)]) (c_impl_reduce a0.p v5 v6 hv6) k (by rfl) k k (gB_cons (g1_cons trivial (g1_cons trivial (g1_cons (okI.good _) g1_nil))) (gB_cons (okI.good _) gB_nil)) (va_cons (va_same k) (va_cons (va_agg' (v1_cons (v1_same k) (v1_cons (v1_same k) (v1_cons (v1_T okI k k) v1_nil)))) va_nil))) (v' := .tuple [.agg [.int v6.1.rows, .int v6.1.cols, .own 6 0 v6.1.cells.length], .own 7 0 v6.2.length]) (ed' := [(6, some ⟨1, List.map (ow eI) v6.1.cells⟩), (7, some ⟨1, List.map (ow eI) v6.2⟩)]) (by simp only [len_map]) (ed_ok (nb' := [(6, ⟨1, List.map (ow eI) v6.1.cells⟩), (7, ⟨1, List.map (ow eI) v6.2⟩)]) (by simp only [abs_map]))) k <| am k k <| ae (eff_extract k k (by intro _ h; cases h)) k <| ae (eff_extract k k (by intro _ h; cases h)) k <| ae (w_alloc TT_ok k k) k <| ae (w_store TT_ok k k k k k k k k) k <| aa k k <| an ?_
  refine ⟨by kernel_rfl, ?_⟩
  refine tn <| ac_ent (t := mkS [(2, .ptr 0 0 0), (3, .ptr 1 0 0), (6, .ptr 3 0 0), (8, .own 7 0 v6.2.length)] [(0, ⟨6, [[.int a0.p, .int a0.q.n, .list 1 (List.map eI a0.q.src), .list 1 (List.map eI a0.q.tgt), .list 1 (List.map eI a0.dims), .list 3 (List.map eM a0.maps)]]⟩), (1, ⟨6, [[.int a1.p, .int a1.q.n, .list 1 (List.map eI a1.q.src), .list 1 (List.map eI a1.q.tgt), .list 1 (List.map eI a1.dims), .list 3 (List.map eM a1.maps)]]⟩), (2, ⟨1, List.map (ow eI) v3.cells⟩), (3, ⟨3, [[.int v3.rows, .int v3.cols, .own 2 0 v3.cells.length]]⟩), (7, ⟨1, List.map (ow eI) v6.2⟩)] 9 [9, 10, 11, 12]) (ent_mk (σ := sg [(0, 0), (1, 1), (2, 2), (3, 3), (7, 7)]) ⟨(pE k k), (pE k k), (pE k k), (oE k k), trivial⟩ (hP k k k k <| hP k k k k <| hI k k k <| hX ⟨_, k, k, .inr ⟨_, _, k, ⟨_, _, k, k, ⟨_, _, k, k, ⟨_, _, k, ⟨k, k, k, k⟩, k⟩⟩⟩, k⟩⟩ k <| hI k k k <| trivial) k) <| sQ <| rg <| aa k k <| an <| tn <| sQ <| sQ <| rg ?_
  refine ae (w_field_ptr TT_ok k k k k k k k) k <| ae (w_load_ptr TT_ok k k k k k k k) k <| am k k ?_
  obtain ⟨v7, hv7, h⟩ := ob h
  refine ae (AEff.conv (w_call0 (x := .own 9 0 (List.map eI v7).length) (nb := [(9, ⟨1, absEs (List.map eI v7)⟩)]) (c_impl_freeColumns v3.rows v6.2 v7 hv7) k (by rfl) k k (okI.good _) (va_cons (va_same k) (va_cons (va_T okI k k) va_nil))) (v' := .own 9 0 v7.length) (ed' := [(9, some ⟨1, List.map (ow eI) v7⟩)]) (by simp only [len_map]) (ed_ok (nb' := [(9, ⟨1, List.map (ow eI) v7⟩)]) (by simp only [abs_map]))) k <| ae (w_len_own TT_ok k k k k) k <| am k k <| an <| tn <| ac_block ?_
  obtain ⟨y15, hy15, h⟩ := ob h
  refine ac_Lp (body := (m_impl_ExtBasis_L1 a0 a1 v3 v7)) hy15 (fun (x1 : ((List (List Mt)) × Int)) => mkS [(2, .ptr 0 0 0), (3, .ptr 1 0 0), (6, .ptr 2 0 0), (9, .own 4 0 x1.1.length), (34, .own 5 0 v7.length), (35, .int ((v7.length : Nat) : Int)), (36, .int x1.2)] [(0, ⟨6, [[.int a0.p, .int a0.q.n, .list 1 (List.map eI a0.q.src), .list 1 (List.map eI a0.q.tgt), .list 1 (List.map eI a0.dims), .list 3 (List.map eM a0.maps)]]⟩), (1, ⟨6, [[.int a1.p, .int a1.q.n, .list 1 (List.map eI a1.q.src), .list 1 (List.map eI a1.q.tgt), .list 1 (List.map eI a1.dims), .list 3 (List.map eM a1.maps)]]⟩), (2, ⟨3, [[.int v3.rows, .int v3.cols, .own 3 0 v3.cells.length]]⟩), (3, ⟨1, List.map (ow eI) v3.cells⟩), (4, ⟨1, List.map (ow (eLs 3 eM)) x1.1⟩), (5, ⟨1, List.map (ow eI) v7⟩)] 6 [6, 7, 8, 9, 10, 11, 12]) (fun r e t => e = .exit 0 ∧ Ent t (mkS [(9, .own 0 0 r.length)] [(0, ⟨1, List.map (ow (eLs 3 eM)) r⟩)] 1 [1, 2, 3, 4, 5, 6, 7, 8, 9, 10, 11, 12])) (ent_mk (σ := sg [(0, 0), (1, 1), (2, 3), (3, 2), (5, 9)]) ⟨(pE k k), (pE k k), (pE k k), ⟨_, k, ⟨k, k, k, k⟩⟩, (oE k k), (e1 k k), (e1 k k), trivial⟩ (hP k k k k <| hP k k k k <| hX ⟨_, k, k, .inr ⟨_, _, k, ⟨_, _, k, k, ⟨_, _, k, k, ⟨_, _, k, ⟨k, k, k, k⟩, k⟩⟩⟩, k⟩⟩ k <| hI k k k <| hX k k <| hI k k k <| trivial) k) ?_ ?_
  ·intro x1 o h
   refine sQ <| rg <| ae (w_cmp k k k) k <| an <| tn <| sQ ?_
   rcases cb h with ⟨q8, h⟩ | ⟨q8, h⟩
   ·refine ac_condT k q8 <| ac_skip <| tn <| sQ <| ac_block <| sQ <| rg ?_
    obtain ⟨v9, hv9, h⟩ := ob h
    refine ae (x_at_own TT_ok (atL_nn hv9) (atL_lt hv9) k k k k k k k) k <| ae (w_load_ptr TT_ok k k k k (map_at (atL_get hv9)) k k) k <| aa k k <| an <| tn <| sQ <| rg <| ae (w_field_ptr TT_ok k k k k k k k) k <| ae (w_load_ptr TT_ok k k k k k k k) k ?_
    obtain ⟨q14, h⟩ := cg h
    refine ae (x_make TT_ok q14 k k k k k k k k) k <| aa k k <| an <| tn <| ac_ent (t := mkS [(2, .ptr 0 0 0), (3, .ptr 1 0 0), (6, .ptr 2 0 0), (9, .own 4 0 x1.1.length), (11, .int v9), (12, .own 6 0 ((List.replicate v3.rows.toNat (0 : Int)).length)), (34, .own 5 0 v7.length), (35, .int ((v7.length : Nat) : Int)), (36, .int x1.2)] [(0, ⟨6, [[.int a0.p, .int a0.q.n, .list 1 (List.map eI a0.q.src), .list 1 (List.map eI a0.q.tgt), .list 1 (List.map eI a0.dims), .list 3 (List.map eM a0.maps)]]⟩), (1, ⟨6, [[.int a1.p, .int a1.q.n, .list 1 (List.map eI a1.q.src), .list 1 (List.map eI a1.q.tgt), .list 1 (List.map eI a1.dims), .list 3 (List.map eM a1.maps)]]⟩), (2, ⟨3, [[.int v3.rows, .int v3.cols, .own 3 0 v3.cells.length]]⟩), (3, ⟨1, List.map (ow eI) v3.cells⟩), (4, ⟨1, List.map (ow (eLs 3 eM)) x1.1⟩), (5, ⟨1, List.map (ow eI) v7⟩), (6, ⟨1, List.map (ow eI) (List.replicate v3.rows.toNat (0 : Int))⟩)] 7 [7, 8, 9, 10, 11, 12]) (ent_mk (σ := sg [(0, 0), (1, 1), (2, 2), (3, 3), (4, 4), (5, 5), (6, 6)]) ⟨(pE k k), (pE k k), (pE k k), (oE k k), (e1 k k), ⟨_, k, ⟨k, k, (by simp only [len_map, lA, lT, lR, lC, lN]), k⟩⟩, (oE k k), (e1 k k), (e1 k k), trivial⟩ (hP k k k k <| hP k k k k <| hX ⟨_, k, k, .inr ⟨_, _, k, ⟨_, _, k, k, ⟨_, _, k, k, ⟨_, _, k, ⟨k, k, k, k⟩, k⟩⟩⟩, k⟩⟩ k <| hI k k k <| hB (okLs.plainO _) k k k <| hI k k k <| hX ⟨_, k, k, .inl ⟨rep_eq (e := eI) (z := 0) _, okI.plainO _⟩⟩ k <| trivial) k) <| sQ <| rg <| am k k <| am k k ?_
    obtain ⟨v10, hv10, h⟩ := ob h
    refine ae (x_at_own TT_ok (atL_nn hv10) (atL_lt hv10) k k k k k k k) k <| ae (x_store TT_ok okIo (u := 1) (atL_get hv10) k k k k k k) k <| an <| tn <| rg <| am k k <| ae (w_load_ptr TT_ok k k k k k k k) k <| ae (w_load_ptr TT_ok k k k k k k k) k ?_
    obtain ⟨v11, hv11, h⟩ := ob h
    refine ae (AEff.conv (w_call0 (x := .own 7 0 (List.map eM v11).length) (nb := [(7, ⟨3, absEs (List.map eM v11)⟩)]) (c_impl_cocycleZeros a0 a1 v11 hv11) k (by rfl) k k (okMt.good _) (va_cons (va_agg' (v1_cons (v1_same k) (v1_cons (v1_same k) (v1_cons (v1_same k) (v1_cons (v1_same k) (v1_cons (v1_same k) (v1_cons (v1_same k) v1_nil))))))) (va_cons (va_agg' (v1_cons (v1_same k) (v1_cons (v1_same k) (v1_cons (v1_same k) (v1_cons (v1_same k) (v1_cons (v1_same k) (v1_cons (v1_same k) v1_nil))))))) va_nil))) (v' := .own 7 0 v11.length) (ed' := [(7, some ⟨3, List.map (ow eM) v11⟩)]) (by simp only [len_map]) (ed_ok (nb' := [(7, ⟨3, List.map (ow eM) v11⟩)]) (by simp only [abs_map]))) k <| am k k ?_
    obtain ⟨v12, hv12, h⟩ := ob h
    refine ae (AEff.conv (w_call0 (x := .own 8 0 (List.map eM v12).length) (nb := [(8, ⟨3, absEs (List.map eM v12)⟩)]) (c_impl_shaped v11 ((List.replicate v3.rows.toNat (0 : Int)).set v9.toNat 1) v12 hv12) k (by rfl) k k (okMt.good _) (va_cons (va_T okMt k k) (va_cons (va_T okI k (by first | rfl | simp only [List.length_set])) va_nil))) (v' := .own 8 0 v12.length) (ed' := [(8, some ⟨3, List.map (ow eM) v12⟩)]) (by simp only [len_map]) (ed_ok (nb' := [(8, ⟨3, List.map (ow eM) v12⟩)]) (by simp only [abs_map]))) k <| ae (w_lit TT_ok k k k k k k k k k k k k) k ?_
    obtain ⟨q13, h⟩ := cg h
    refine ae (x_app1 TT_ok (l := x1.1) (c := [.own 8 0 v12.length]) q13 k k k k k k k k k k k k k k) k <| aa k k <| an <| block_n <| tn <| ac_ent (t := mkS [(2, .ptr 0 0 0), (3, .ptr 1 0 0), (6, .ptr 2 0 0), (9, .own 10 0 ((x1.1 ++ [v12]).length)), (34, .own 5 0 v7.length), (35, .int ((v7.length : Nat) : Int)), (36, .int x1.2)] [(0, ⟨6, [[.int a0.p, .int a0.q.n, .list 1 (List.map eI a0.q.src), .list 1 (List.map eI a0.q.tgt), .list 1 (List.map eI a0.dims), .list 3 (List.map eM a0.maps)]]⟩), (1, ⟨6, [[.int a1.p, .int a1.q.n, .list 1 (List.map eI a1.q.src), .list 1 (List.map eI a1.q.tgt), .list 1 (List.map eI a1.dims), .list 3 (List.map eM a1.maps)]]⟩), (2, ⟨3, [[.int v3.rows, .int v3.cols, .own 3 0 v3.cells.length]]⟩), (3, ⟨1, List.map (ow eI) v3.cells⟩), (5, ⟨1, List.map (ow eI) v7⟩), (10, ⟨1, List.map (ow (eLs 3 eM)) (x1.1 ++ [v12])⟩)] 11 [11, 12]) (Ent.trans (ent_absL (b := 10) (b' := 8) (j := 0) (es' := List.map eM v12) k k k k (len_map _ _) (okMt.frzs _)) (ent_mk (σ := sg [(0, 0), (1, 1), (2, 2), (3, 3), (5, 5), (10, 10)]) ⟨(pE k k), (pE k k), (pE k k), ⟨_, k, ⟨k, k, (by simp only [len_map, lA, lT, lR, lC, lN]), k⟩⟩, (oE k k), (e1 k k), (e1 k k), trivial⟩ (hP k k k k <| hP k k k k <| hX ⟨_, k, k, .inr ⟨_, _, k, ⟨_, _, k, k, ⟨_, _, k, k, ⟨_, _, k, ⟨k, k, k, k⟩, k⟩⟩⟩, k⟩⟩ k <| hI k k k <| hI k k k <| hX ⟨_, k, k, .inl ⟨app_eq v12 k, okLs.plainO _⟩⟩ k <| trivial) k)) <| rg <| ae (x_add k k) k <| am k k <| an ?_
    refine tn ?_
    obtain rfl := so h
    exact ⟨_, k, (ent_mk (σ := sg [(0, 0), (1, 1), (2, 2), (3, 3), (4, 10), (5, 5)]) ⟨(pE k k), (pE k k), (pE k k), (oE k k), (oE k k), (e1 k k), (e1 k k), trivial⟩ (hP k k k k <| hP k k k k <| hX ⟨_, k, k, .inr ⟨_, _, k, ⟨_, _, k, k, ⟨_, _, k, k, ⟨_, _, k, ⟨k, k, k, k⟩, k⟩⟩⟩, k⟩⟩ k <| hI k k k <| hB (okLs.plainO _) k k k <| hI k k k <| trivial) k)⟩
   ·refine ac_condF k q8 <| ac_exit <| then_exit <| then_exit ?_
    obtain rfl := so h
    exact ⟨_, k, k, (ent_mk (σ := sg [(0, 4)]) ⟨(oE k k), trivial⟩ (hB (okLs.plainO _) k k k <| trivial) k)⟩
  ·rintro e t ⟨rfl, hent⟩
   refine block_here <| tn <| ac_ent hent <| sQ <| rg <| am k k <| aa k k <| aa k k <| an <| tn ?_
   refine ac_ret ?_
   obtain rfl := so h
   exact ret_mk k k k (xz_tuple k (xB_cons (xB_one (x_f1 okLs k k)) (xB_cons (k) xB_nil)))

noncomputable def m_spec_l8Copy_L1 (a0 : Rp) (x1 : ((List Mt) × Int)) : Option (((List Mt) × Int) ⊕ (List Mt)) :=
  bif decide (x1.2 < (a0.maps.length : Int)) then
    (Option.bind (atL a0.maps x1.2) fun v4 =>
    Option.bind (m_spec_l3Copy v4) fun v5 =>
    bif decide (x1.1.length + 1 ≤ 4294967296) then
      (some (.inl ((x1.1 ++ [v5]), wr (x1.2 + 1))))
    else none)
  else
    (some (.inr x1.1))

noncomputable def m_spec_l8Copy (a0 : Rp) : Option Rp :=
  Option.bind (m_spec_l6Copy a0.q) fun v1 =>
  bif decide (([] : (List Int)).length + a0.dims.length ≤ 4294967296) then
    (Option.bind (Lp (m_spec_l8Copy_L1 a0) (([] : (List Mt)), 0)) fun y7 =>
    some ((⟨a0.p, v1, (([] : (List Int)) ++ a0.dims), y7⟩ : Rp)))
  else none

theorem c_spec_l8Copy (a0 : Rp) (r : Rp) (h : m_spec_l8Copy a0 = some r) : HasC Tryz.prog 17 [.agg (eR a0)] (.agg (eR r)) := by
 refine hasC_mk TT_ok (rvs := [.cell 2 32]) (ns := [0, 1, 2, 3, 4, 5, 6, 7, 8, 9, 10, 11]) Tryz.func17 k k Tryz.ntmps17 k k k <| sQ <| rg <| ae (w_box k k k k) k <| ae (w_alloc TT_ok k k) k <| an <| tn <| sQ <| ac_region_draw MIXX <| ae (w_field_ptr TT_ok k k k k k k k) k ?_
 refine ae (w_load_ptr TT_ok k k k k k k k) k <| ae (w_field_ptr TT_ok k k k k k k k) k <| ae (w_load_ptr TT_ok k k k k k k k) k ?_
 obtain ⟨v1, hv1, h⟩ := ob h
 refine ae (AEff.conv (w_call0 (x := .agg [.int v1.n, .own 2 0 (List.map eI v1.src).length, .own 3 0 (List.map eI v1.tgt).length]) (nb := [(2, ⟨1, absEs (List.map eI v1.src)⟩), (3, ⟨1, absEs (List.map eI v1.tgt)⟩)]) (c_spec_l6Copy a0.q v1 hv1) k (by rfl) k k (g1_cons trivial (g1_cons (okI.good _) (g1_cons (okI.good _) g1_nil))) (va_cons (va_agg' (v1_cons (v1_same k) (v1_cons (v1_same k) (v1_cons (v1_same k) v1_nil)))) va_nil)) (v' := .agg [.int v1.n, .own 2 0 v1.src.length, .own 3 0 v1.tgt.length]) (ed' := [(2, some ⟨1, List.map (ow eI) v1.src⟩), (3, some ⟨1, List.map (ow eI) v1.tgt⟩)]) (by simp only [len_map]) (ed_ok (nb' := [(2, ⟨1, List.map (ow eI) v1.src⟩), (3, ⟨1, List.map (ow eI) v1.tgt⟩)]) (by simp only [abs_map]))) k <| ae (w_lit TT_ok k k k k k k k k k k k k) k <| ae (w_field_ptr TT_ok k k k k k k k) k <| ae (w_load_ptr TT_ok k k k k k k k) k ?_
 obtain ⟨q2, h⟩ := cg h
 refine ae (x_app TT_ok (l := ([] : (List Int))) (m := a0.dims) okIo q2 k k k k k k k k k k k k) k <| ae (w_lit TT_ok k k k k k k k k k k k k) k <| ae (w_build TT_ok k k k k k k) k <| ae (w_alloc TT_ok k k) k <| ae (w_store TT_ok k k k k k k k k) k <| an ?_
 refine ⟨by kernel_rfl, ?_⟩
 refine tn <| ac_ent (t := mkS [(1, .ptr 0 0 0), (2, .ptr 1 0 0), (3, .ptr 7 0 0)] [(0, ⟨6, [[.int a0.p, .int a0.q.n, .list 1 (List.map eI a0.q.src), .list 1 (List.map eI a0.q.tgt), .list 1 (List.map eI a0.dims), .list 3 (List.map eM a0.maps)]]⟩), (1, ⟨6, [[.int 0, .int 0, .nil 1, .nil 1, .nil 1, .nil 3]]⟩), (2, ⟨1, List.map (ow eI) v1.src⟩), (3, ⟨1, List.map (ow eI) v1.tgt⟩), (5, ⟨1, List.map (ow eI) (([] : (List Int)) ++ a0.dims)⟩), (6, ⟨3, List.map (ow eM) ([] : (List Mt))⟩), (7, ⟨6, [[.int a0.p, .int v1.n, .own 2 0 v1.src.length, .own 3 0 v1.tgt.length, .own 5 0 ((([] : (List Int)) ++ a0.dims).length), .own 6 0 (([] : (List Mt)).length)]]⟩)] 8 [8, 9, 10, 11]) (ent_mk (σ := sg [(0, 0), (1, 1), (2, 2), (3, 3), (5, 5), (6, 6), (7, 7)]) ⟨(pE k k), (pE k k), (pE k k), trivial⟩ (hP k k k k <| hP k k k k <| hI k k k <| hI k k k <| hI k k k <| hB (okMt.plainO _) k k k <| hX ⟨_, k, k, .inr ⟨_, _, k, ⟨_, _, k, k, ⟨_, _, k, k, ⟨_, _, k, ⟨k, k, k, k⟩, ⟨_, _, k, ⟨k, k, k, k⟩, ⟨_, _, k, ⟨k, k, k, k⟩, ⟨_, _, k, ⟨k, k, (by simp only [len_map, lA, lT, lR, lC, lN]), k⟩, k⟩⟩⟩⟩⟩⟩, k⟩⟩ k <| trivial) k) <| sQ <| sQ <| rg <| aa k k <| an <| tn <| ac_block ?_
 obtain ⟨y7, hy7, h⟩ := ob h
 refine ac_Lp (body := (m_spec_l8Copy_L1 a0)) hy7 (fun (x1 : ((List Mt) × Int)) => mkS [(1, .ptr 0 0 0), (2, .ptr 1 0 0), (3, .ptr 2 0 0), (4, .int x1.2)] [(0, ⟨6, [[.int a0.p, .int a0.q.n, .list 1 (List.map eI a0.q.src), .list 1 (List.map eI a0.q.tgt), .list 1 (List.map eI a0.dims), .list 3 (List.map eM a0.maps)]]⟩), (1, ⟨6, [[.int 0, .int 0, .nil 1, .nil 1, .nil 1, .nil 3]]⟩), (2, ⟨6, [[.int a0.p, .int v1.n, .own 3 0 v1.src.length, .own 4 0 v1.tgt.length, .own 5 0 ((([] : (List Int)) ++ a0.dims).length), .own 6 0 x1.1.length]]⟩), (3, ⟨1, List.map (ow eI) v1.src⟩), (4, ⟨1, List.map (ow eI) v1.tgt⟩), (5, ⟨1, List.map (ow eI) (([] : (List Int)) ++ a0.dims)⟩), (6, ⟨3, List.map (ow eM) x1.1⟩)] 7 [7, 8, 9, 10, 11]) (fun r e t => e = .exit 0 ∧ Ent t (mkS [(2, .ptr 0 0 0), (3, .ptr 1 0 0)] [(0, ⟨6, [[.int 0, .int 0, .nil 1, .nil 1, .nil 1, .nil 3]]⟩), (1, ⟨6, [[.int a0.p, .int v1.n, .own 2 0 v1.src.length, .own 3 0 v1.tgt.length, .own 4 0 ((([] : (List Int)) ++ a0.dims).length), .own 5 0 r.length]]⟩), (2, ⟨1, List.map (ow eI) v1.src⟩), (3, ⟨1, List.map (ow eI) v1.tgt⟩), (4, ⟨1, List.map (ow eI) (([] : (List Int)) ++ a0.dims)⟩), (5, ⟨3, List.map (ow eM) r⟩)] 6 [6, 7, 8, 9, 10, 11])) (ent_mk (σ := sg [(0, 0), (1, 1), (2, 7), (3, 2), (4, 3), (5, 5), (6, 6)]) ⟨(pE k k), (pE k k), (pE k k), (e1 k k), trivial⟩ (hP k k k k <| hP k k k k <| hX ⟨_, k, k, .inr ⟨_, _, k, ⟨_, _, k, k, ⟨_, _, k, k, ⟨_, _, k, ⟨k, k, k, k⟩, ⟨_, _, k, ⟨k, k, k, k⟩, ⟨_, _, k, ⟨k, k, k, k⟩, ⟨_, _, k, ⟨k, k, k, k⟩, k⟩⟩⟩⟩⟩⟩, k⟩⟩ k <| hI k k k <| hI k k k <| hI k k k <| hB (okMt.plainO _) k k k <| trivial) k) ?_ ?_
 ·intro x1 o h
  refine sQ <| sQ <| rg <| am k k <| ae (w_field_ptr TT_ok k k k k k k k) k <| ae (w_load_ptr TT_ok k k k k k k k) k <| ae (lenL TT_ok k k k) k <| ae (w_cmp k k k) k <| an <| tn ?_
  rcases cb h with ⟨q3, h⟩ | ⟨q3, h⟩
  ·refine ac_condT k q3 <| ac_skip <| tn <| sQ <| ac_block <| ac_region_draw MIXX <| ae (w_field_ptr TT_ok k k k k k k k) k <| ae (w_load_ptr TT_ok k k k k k k k) k <| ae (w_field_ptr TT_ok k k k k k k k) k <| ae (w_load_ptr TT_ok k k k k k k k) k ?_
   refine am k k ?_
   obtain ⟨v4, hv4, h⟩ := ob h
   refine ae (x_at_list TT_ok hv4 k k k k k k) k <| ae (w_load_ref TT_ok k k k k k k) k ?_
   obtain ⟨v5, hv5, h⟩ := ob h
   refine ae (AEff.conv (w_call0 (x := .agg [.int v5.rows, .int v5.cols, .own 7 0 (List.map eI v5.cells).length]) (nb := [(7, ⟨1, absEs (List.map eI v5.cells)⟩)]) (c_spec_l3Copy v4 v5 hv5) k (by rfl) k k (g1_cons trivial (g1_cons trivial (g1_cons (okI.good _) g1_nil))) (va_cons (va_agg' (v1_cons (v1_same k) (v1_cons (v1_same k) (v1_cons (v1_same k) v1_nil)))) va_nil)) (v' := .agg [.int v5.rows, .int v5.cols, .own 7 0 v5.cells.length]) (ed' := [(7, some ⟨1, List.map (ow eI) v5.cells⟩)]) (by simp only [len_map]) (ed_ok (nb' := [(7, ⟨1, List.map (ow eI) v5.cells⟩)]) (by simp only [abs_map]))) k <| ae (w_lit TT_ok k k k k k k k k k k k k) k ?_
   obtain ⟨q6, h⟩ := cg h
   refine ae (x_app1 TT_ok (l := x1.1) (c := [.int v5.rows, .int v5.cols, .own 7 0 v5.cells.length]) q6 k k k k k k k k k k k k k k) k <| ae (w_field_ptr TT_ok k k k k k k k) k <| ae (w_store TT_ok k k k k k k k k) k <| an ?_
   refine ⟨by kernel_rfl, ?_⟩
   refine block_n <| tn <| ac_ent (t := mkS [(1, .ptr 0 0 0), (2, .ptr 1 0 0), (3, .ptr 2 0 0), (4, .int x1.2)] [(0, ⟨6, [[.int a0.p, .int a0.q.n, .list 1 (List.map eI a0.q.src), .list 1 (List.map eI a0.q.tgt), .list 1 (List.map eI a0.dims), .list 3 (List.map eM a0.maps)]]⟩), (1, ⟨6, [[.int 0, .int 0, .nil 1, .nil 1, .nil 1, .nil 3]]⟩), (2, ⟨6, [[.int a0.p, .int v1.n, .own 3 0 v1.src.length, .own 4 0 v1.tgt.length, .own 5 0 ((([] : (List Int)) ++ a0.dims).length), .own 9 0 ((x1.1 ++ [v5]).length)]]⟩), (3, ⟨1, List.map (ow eI) v1.src⟩), (4, ⟨1, List.map (ow eI) v1.tgt⟩), (5, ⟨1, List.map (ow eI) (([] : (List Int)) ++ a0.dims)⟩), (9, ⟨3, List.map (ow eM) (x1.1 ++ [v5])⟩)] 10 [10, 11]) (Ent.trans (ent_absL (b := 9) (b' := 7) (j := 2) (es' := List.map eI v5.cells) k k k k (len_map _ _) (okI.frzs _)) (ent_mk (σ := sg [(0, 0), (1, 1), (2, 2), (3, 3), (4, 4), (5, 5), (9, 9)]) ⟨(pE k k), (pE k k), (pE k k), (e1 k k), trivial⟩ (hP k k k k <| hP k k k k <| hX ⟨_, k, k, .inr ⟨_, _, k, ⟨_, _, k, k, ⟨_, _, k, k, ⟨_, _, k, ⟨k, k, k, k⟩, ⟨_, _, k, ⟨k, k, k, k⟩, ⟨_, _, k, ⟨k, k, k, k⟩, ⟨_, _, k, ⟨k, k, (by simp only [len_map, lA, lT, lR, lC, lN]), k⟩, k⟩⟩⟩⟩⟩⟩, k⟩⟩ k <| hI k k k <| hI k k k <| hI k k k <| hX ⟨_, k, k, .inl ⟨app_eq v5 k, okMt.plainO _⟩⟩ k <| trivial) k)) <| rg <| am k k <| ae (x_add k k) k <| aa k k <| an <| tn ?_
   obtain rfl := so h
   exact ⟨_, k, (ent_mk (σ := sg [(0, 0), (1, 1), (2, 2), (3, 3), (4, 4), (5, 5), (6, 9)]) ⟨(pE k k), (pE k k), (pE k k), (e1 k k), trivial⟩ (hP k k k k <| hP k k k k <| hX ⟨_, k, k, .inr ⟨_, _, k, ⟨_, _, k, k, ⟨_, _, k, k, ⟨_, _, k, ⟨k, k, k, k⟩, ⟨_, _, k, ⟨k, k, k, k⟩, ⟨_, _, k, ⟨k, k, k, k⟩, ⟨_, _, k, ⟨k, k, k, k⟩, k⟩⟩⟩⟩⟩⟩, k⟩⟩ k <| hI k k k <| hI k k k <| hI k k k <| hB (okMt.plainO _) k k k <| trivial) k)⟩
  ·refine ac_condF k q3 <| ac_exit <| then_exit <| then_exit ?_
   obtain rfl := so h
   exact ⟨_, k, k, (ent_mk (σ := sg [(0, 1), (1, 2), (2, 3), (3, 4), (4, 5), (5, 6)]) ⟨(pE k k), (pE k k), trivial⟩ (hP k k k k <| hX ⟨_, k, k, .inr ⟨_, _, k, ⟨_, _, k, k, ⟨_, _, k, k, ⟨_, _, k, ⟨k, k, k, k⟩, ⟨_, _, k, ⟨k, k, k, k⟩, ⟨_, _, k, ⟨k, k, k, k⟩, ⟨_, _, k, ⟨k, k, k, k⟩, k⟩⟩⟩⟩⟩⟩, k⟩⟩ k <| hI k k k <| hI k k k <| hI k k k <| hB (okMt.plainO _) k k k <| trivial) k)⟩
 ·rintro e t ⟨rfl, hent⟩
  refine block_here <| tn <| ac_ent hent <| sQ <| rg <| ae (w_load_ptr TT_ok k k k k k k k) k <| ae (w_store TT_ok k k k k k k k k) k <| an <| tn <| ac_ret ?_
  obtain rfl := so h
  exact ret_mk k k k (xz_agg (x1_cons (k) (x1_cons (k) (x1_cons (x_f1 okI k k) (x1_cons (x_f1 okI k k) (x1_cons (x_f1 okI k k) (x1_cons (x_f1 okMt k k) x1_nil)))))))

noncomputable def m_spec_l19Cut_L1 (a0 : Rp) (a1 : Rp) (a2 : (List Int)) (x1 : ((List Mt) × Int × Int)) : Option (((List Mt) × Int × Int) ⊕ (List Mt)) :=
  bif decide (x1.2.2 < (a0.maps.length : Int)) then
    (Option.bind (atL a0.q.tgt x1.2.2) fun v2 =>
    Option.bind (atL a1.dims v2) fun v3 =>
    Option.bind (atL a0.q.src x1.2.2) fun v4 =>
    Option.bind (atL a0.dims v4) fun v5 =>
    bif (decide (0 ≤ x1.2.1) && (decide (x1.2.1 ≤ wr (x1.2.1 + (wr (v3 * v5)))) && decide (wr (x1.2.1 + (wr (v3 * v5))) ≤ (a2.length : Int)))) then
      (bif decide (([] : (List Int)).length + ((a2.drop x1.2.1.toNat).take ((wr (x1.2.1 + (wr (v3 * v5)))).toNat - x1.2.1.toNat)).length ≤ 4294967296) then
        (bif decide (x1.1.length + 1 ≤ 4294967296) then
          (some (.inl ((x1.1 ++ [(⟨v3, v5, (([] : (List Int)) ++ ((a2.drop x1.2.1.toNat).take ((wr (x1.2.1 + (wr (v3 * v5)))).toNat - x1.2.1.toNat)))⟩ : Mt)]), wr (x1.2.1 + (wr (v3 * v5))), wr (x1.2.2 + 1))))
        else none)
      else none)
    else none)
  else
    (some (.inr x1.1))

noncomputable def m_spec_l19Cut (a0 : Rp) (a1 : Rp) (a2 : (List Int)) : Option (List Mt) :=
  Option.bind (Lp (m_spec_l19Cut_L1 a0 a1 a2) (([] : (List Mt)), 0, 0)) fun y9 =>
  some (y9)

theorem c_spec_l19Cut (a0 : Rp) (a1 : Rp) (a2 : (List Int)) (r : (List Mt)) (h : m_spec_l19Cut a0 a1 a2 = some r) : HasC Tryz.prog 47 [.agg (eR a0), .agg (eR a1), .list 1 (List.map eI a2)] (.list 3 (List.map eM r)) := by
 refine hasC_mk TT_ok (rvs := [.tmp 6]) (ns := [0, 1, 2, 3, 4, 5, 6, 7, 8]) Tryz.func47 k k Tryz.ntmps47 k k k <| sQ <| rg <| ae (w_box k k k k) k <| ae (w_box k k k k) k <| aa k k <| an <| tn <| sQ <| rg ?_
 refine ae (w_lit TT_ok k k k k k k k k k k k k) k <| aa k k <| an <| tn <| ac_ent (t := mkS [(2, .list 1 (List.map eI a2)), (3, .ptr 0 0 0), (4, .ptr 1 0 0), (7, .own 2 0 (([] : (List Mt)).length))] [(0, ⟨6, [[.int a0.p, .int a0.q.n, .list 1 (List.map eI a0.q.src), .list 1 (List.map eI a0.q.tgt), .list 1 (List.map eI a0.dims), .list 3 (List.map eM a0.maps)]]⟩), (1, ⟨6, [[.int a1.p, .int a1.q.n, .list 1 (List.map eI a1.q.src), .list 1 (List.map eI a1.q.tgt), .list 1 (List.map eI a1.dims), .list 3 (List.map eM a1.maps)]]⟩), (2, ⟨3, List.map (ow eM) ([] : (List Mt))⟩)] 3 [3, 4, 5, 6, 7, 8]) (ent_mk (σ := sg [(0, 0), (1, 1), (2, 2)]) ⟨⟨_, k, ⟨k, k⟩⟩, (pE k k), (pE k k), ⟨_, k, ⟨k, k, (by simp only [len_map, lA, lT, lR, lC, lN]), k⟩⟩, trivial⟩ (hP k k k k <| hP k k k k <| hB (okMt.plainO _) k k k <| trivial) k) <| sQ <| rg <| aa k k <| an <| tn ?_
 refine sQ <| sQ <| rg <| aa k k <| an <| tn <| ac_block ?_
 obtain ⟨y9, hy9, h⟩ := ob h
 refine ac_Lp (body := (m_spec_l19Cut_L1 a0 a1 a2)) hy9 (fun (x1 : ((List Mt) × Int × Int)) => mkS [(2, .list 1 (List.map eI a2)), (3, .ptr 0 0 0), (4, .ptr 1 0 0), (7, .own 2 0 x1.1.length), (8, .int x1.2.1), (9, .int x1.2.2)] [(0, ⟨6, [[.int a0.p, .int a0.q.n, .list 1 (List.map eI a0.q.src), .list 1 (List.map eI a0.q.tgt), .list 1 (List.map eI a0.dims), .list 3 (List.map eM a0.maps)]]⟩), (1, ⟨6, [[.int a1.p, .int a1.q.n, .list 1 (List.map eI a1.q.src), .list 1 (List.map eI a1.q.tgt), .list 1 (List.map eI a1.dims), .list 3 (List.map eM a1.maps)]]⟩), (2, ⟨3, List.map (ow eM) x1.1⟩)] 3 [3, 4, 5, 6, 7, 8]) (fun r e t => e = .exit 0 ∧ Ent t (mkS [(7, .own 0 0 r.length)] [(0, ⟨3, List.map (ow eM) r⟩)] 1 [1, 2, 3, 4, 5, 6, 7, 8])) (ent_mk (σ := sg [(0, 0), (1, 1), (2, 2)]) ⟨⟨_, k, ⟨k, k⟩⟩, (pE k k), (pE k k), (oE k k), (e1 k k), (e1 k k), trivial⟩ (hP k k k k <| hP k k k k <| hB (okMt.plainO _) k k k <| trivial) k) ?_ ?_
 ·intro x1 o h
  refine sQ <| sQ <| rg <| am k k <| ae (w_field_ptr TT_ok k k k k k k k) k <| ae (w_load_ptr TT_ok k k k k k k k) k <| ae (lenL TT_ok k k k) k <| ae (w_cmp k k k) k <| an <| tn ?_
  rcases cb h with ⟨q1, h⟩ | ⟨q1, h⟩
  ·refine ac_condT k q1 <| ac_skip <| tn <| sQ <| ac_block <| sQ <| ac_region_draw MIXX <| ae (w_field_ptr TT_ok k k k k k k k) k <| ae (w_load_ptr TT_ok k k k k k k k) k <| ae (w_field_ptr TT_ok k k k k k k k) k ?_
   refine ae (w_field_ptr TT_ok k k k k k k k) k <| ae (w_load_ptr TT_ok k k k k k k k) k <| am k k ?_
   obtain ⟨v2, hv2, h⟩ := ob h
   refine ae (x_at_list TT_ok hv2 k k k k k k) k <| ae (w_load_ref TT_ok k k k k k k) k ?_
   obtain ⟨v3, hv3, h⟩ := ob h
   refine ae (x_at_list TT_ok hv3 k k k k k k) k <| ae (w_load_ref TT_ok k k k k k k) k <| aa k k <| an ?_
   refine ⟨by kernel_rfl, ?_⟩
   refine tn <| ac_ent (t := mkS [(2, .list 1 (List.map eI a2)), (3, .ptr 0 0 0), (4, .ptr 1 0 0), (7, .own 2 0 x1.1.length), (8, .int x1.2.1), (9, .int x1.2.2), (10, .int v3)] [(0, ⟨6, [[.int a0.p, .int a0.q.n, .list 1 (List.map eI a0.q.src), .list 1 (List.map eI a0.q.tgt), .list 1 (List.map eI a0.dims), .list 3 (List.map eM a0.maps)]]⟩), (1, ⟨6, [[.int a1.p, .int a1.q.n, .list 1 (List.map eI a1.q.src), .list 1 (List.map eI a1.q.tgt), .list 1 (List.map eI a1.dims), .list 3 (List.map eM a1.maps)]]⟩), (2, ⟨3, List.map (ow eM) x1.1⟩)] 3 [3, 4, 5, 6, 7, 8]) (ent_mk (σ := sg [(0, 0), (1, 1), (2, 2)]) ⟨⟨_, k, ⟨k, k⟩⟩, (pE k k), (pE k k), (oE k k), (e1 k k), (e1 k k), (e1 k k), trivial⟩ (hP k k k k <| hP k k k k <| hB (okMt.plainO _) k k k <| trivial) k) <| sQ <| ac_region_draw MIXX <| ae (w_field_ptr TT_ok k k k k k k k) k <| ae (w_load_ptr TT_ok k k k k k k k) k <| ae (w_field_ptr TT_ok k k k k k k k) k <| ae (w_field_ptr TT_ok k k k k k k k) k <| ae (w_load_ptr TT_ok k k k k k k k) k <| am k k ?_
   obtain ⟨v4, hv4, h⟩ := ob h
   refine ae (x_at_list TT_ok hv4 k k k k k k) k <| ae (w_load_ref TT_ok k k k k k k) k ?_
   obtain ⟨v5, hv5, h⟩ := ob h
   refine ae (x_at_list TT_ok hv5 k k k k k k) k <| ae (w_load_ref TT_ok k k k k k k) k <| aa k k <| an ?_
   refine ⟨by kernel_rfl, ?_⟩
   refine tn <| sQ <| rg <| am k k <| am k k <| am k k <| ae (w_lit TT_ok k k k k k k k k k k k k) k <| am k k <| am k k <| am k k ?_
   refine am k k <| am k k <| ae (x_mul k k) k <| ae (x_add k k) k ?_
   obtain ⟨q6, h⟩ := cg h
   refine ae (x_slice_list TT_ok (l0 := a2) (l := x1.2.1) (h := wr (x1.2.1 + (wr (v3 * v5)))) q6 k k k k k k k) k ?_
   obtain ⟨q7, h⟩ := cg h
   refine ae (x_app TT_ok (l := ([] : (List Int))) (m := ((a2.drop x1.2.1.toNat).take ((wr (x1.2.1 + (wr (v3 * v5)))).toNat - x1.2.1.toNat))) okIo q7 k k k k k k k k k k k k) k <| ae (w_build TT_ok k k k k k k) k <| ae (w_lit TT_ok k k k k k k k k k k k k) k ?_
   obtain ⟨q8, h⟩ := cg h
   refine ae (x_app1 TT_ok (l := x1.1) (c := [.int v3, .int v5, .own 4 0 ((([] : (List Int)) ++ ((a2.drop x1.2.1.toNat).take ((wr (x1.2.1 + (wr (v3 * v5)))).toNat - x1.2.1.toNat))).length)]) q8 k k k k k k k k k k k k k k) k <| aa k k <| an <| tn <| ac_ent (t := mkS [(2, .list 1 (List.map eI a2)), (3, .ptr 0 0 0), (4, .ptr 1 0 0), (7, .own 6 0 ((x1.1 ++ [(⟨v3, v5, (([] : (List Int)) ++ ((a2.drop x1.2.1.toNat).take ((wr (x1.2.1 + (wr (v3 * v5)))).toNat - x1.2.1.toNat)))⟩ : Mt)]).length)), (8, .int x1.2.1), (9, .int x1.2.2), (10, .int v3), (11, .int v5)] [(0, ⟨6, [[.int a0.p, .int a0.q.n, .list 1 (List.map eI a0.q.src), .list 1 (List.map eI a0.q.tgt), .list 1 (List.map eI a0.dims), .list 3 (List.map eM a0.maps)]]⟩), (1, ⟨6, [[.int a1.p, .int a1.q.n, .list 1 (List.map eI a1.q.src), .list 1 (List.map eI a1.q.tgt), .list 1 (List.map eI a1.dims), .list 3 (List.map eM a1.maps)]]⟩), (6, ⟨3, List.map (ow eM) (x1.1 ++ [(⟨v3, v5, (([] : (List Int)) ++ ((a2.drop x1.2.1.toNat).take ((wr (x1.2.1 + (wr (v3 * v5)))).toNat - x1.2.1.toNat)))⟩ : Mt)])⟩)] 7 [7, 8]) (Ent.trans (ent_absL (b := 6) (b' := 4) (j := 2) (es' := List.map eI (([] : (List Int)) ++ ((a2.drop x1.2.1.toNat).take ((wr (x1.2.1 + (wr (v3 * v5)))).toNat - x1.2.1.toNat)))) k k k k (len_map _ _) (okI.frzs _)) (ent_mk (σ := sg [(0, 0), (1, 1), (6, 6)]) ⟨⟨_, k, ⟨k, k⟩⟩, (pE k k), (pE k k), ⟨_, k, ⟨k, k, (by simp only [len_map, lA, lT, lR, lC, lN]), k⟩⟩, (e1 k k), (e1 k k), (e1 k k), (e1 k k), trivial⟩ (hP k k k k <| hP k k k k <| hX ⟨_, k, k, .inl ⟨app_eq (⟨v3, v5, (([] : (List Int)) ++ ((a2.drop x1.2.1.toNat).take ((wr (x1.2.1 + (wr (v3 * v5)))).toNat - x1.2.1.toNat)))⟩ : Mt) k, okMt.plainO _⟩⟩ k <| trivial) k)) ?_
   refine rg <| am k k <| am k k <| am k k <| ae (x_mul k k) k <| ae (x_add k k) k <| aa k k <| an <| block_n <| tn ?_
   refine rg <| am k k <| ae (x_add k k) k <| aa k k <| an <| tn ?_
   obtain rfl := so h
   exact ⟨_, k, (ent_mk (σ := sg [(0, 0), (1, 1), (2, 6)]) ⟨⟨_, k, ⟨k, k⟩⟩, (pE k k), (pE k k), (oE k k), (e1 k k), (e1 k k), trivial⟩ (hP k k k k <| hP k k k k <| hB (okMt.plainO _) k k k <| trivial) k)⟩
  ·refine ac_condF k q1 <| ac_exit <| then_exit <| then_exit ?_
   obtain rfl := so h
   exact ⟨_, k, k, (ent_mk (σ := sg [(0, 2)]) ⟨(oE k k), trivial⟩ (hB (okMt.plainO _) k k k <| trivial) k)⟩
 ·rintro e t ⟨rfl, hent⟩
  refine block_here <| tn <| ac_ent hent <| sQ <| rg <| am k k <| aa k k <| an <| tn <| ac_ret ?_
  obtain rfl := so h
  exact ret_mk k k k (xz_list (x_f1 okMt k k))

noncomputable def m_spec_ExtBasis_L1 (a0 : Rp) (a1 : Rp) (v3 : Mt) (v5 : (Mt × (List Int))) (x1 : (Int × (List (List Mt)))) : Option ((Int × (List (List Mt))) ⊕ (List (List Mt))) :=
  bif decide (x1.1 < v3.rows) then
    (Option.bind (m_spec_l4Has v5.2 x1.1) fun v7 =>
    bif v7 then
      (some (.inl (wr (x1.1 + 1), x1.2)))
    else
      (bif (decide (0 ≤ v3.rows) && decide (v3.rows ≤ 1048576)) then
        (Option.bind (atL (List.replicate v3.rows.toNat (0 : Int)) x1.1) fun v9 =>
        Option.bind (m_spec_l19Cut a0 a1 ((List.replicate v3.rows.toNat (0 : Int)).set x1.1.toNat 1)) fun v10 =>
        bif decide (x1.2.length + 1 ≤ 4294967296) then
          (some (.inl (wr (x1.1 + 1), (x1.2 ++ [v10]))))
        else none)
      else none))
  else
    (some (.inr x1.2))

noncomputable def m_spec_ExtBasis (a0 : Rp) (a1 : Rp) : Option ((List (List Mt)) × Bool) :=
  Option.bind (m_spec_l9Fit a0 a1) fun v1 =>
  bif !v1 then
    (some ((([] : (List (List Mt))), false)))
  else
    (Option.bind (m_spec_l11Equations a0 a1) fun v3 =>
    Option.bind (m_spec_l3Transpose v3) fun v4 =>
    Option.bind (m_spec_l4Reduce a0.p v4) fun v5 =>
    Option.bind (Lp (m_spec_ExtBasis_L1 a0 a1 v3 v5) (0, ([] : (List (List Mt))))) fun y13 =>
    some ((y13, true)))

theorem c_spec_ExtBasis (a0 : Rp) (a1 : Rp) (r : ((List (List Mt)) × Bool)) (h : m_spec_ExtBasis a0 a1 = some r) : HasC Tryz.prog 16 [.agg (eR a0), .agg (eR a1)] (.tuple [.list 1 (List.map (eLs 3 eM) r.1), .bl r.2]) := by
 refine hasC_mk TT_ok (rvs := [.tmp 4, .tmp 5]) (ns := [0, 1, 2, 3, 4, 5, 6, 7, 8, 9, 10, 11]) Tryz.func16 k k Tryz.ntmps16 k k k <| sQ <| rg <| ae (w_box k k k k) k <| ae (w_box k k k k) k <| aa k k <| aa k k <| an <| tn <| sQ ?_
 refine rg <| ae (w_lit TT_ok k k k k k k k k k k k k) k <| aa k k <| an <| tn <| ac_ent (t := mkS [(2, .ptr 0 0 0), (3, .ptr 1 0 0), (6, .own 2 0 (([] : (List (List Mt))).length))] [(0, ⟨6, [[.int a0.p, .int a0.q.n, .list 1 (List.map eI a0.q.src), .list 1 (List.map eI a0.q.tgt), .list 1 (List.map eI a0.dims), .list 3 (List.map eM a0.maps)]]⟩), (1, ⟨6, [[.int a1.p, .int a1.q.n, .list 1 (List.map eI a1.q.src), .list 1 (List.map eI a1.q.tgt), .list 1 (List.map eI a1.dims), .list 3 (List.map eM a1.maps)]]⟩), (2, ⟨1, List.map (ow (eLs 3 eM)) ([] : (List (List Mt)))⟩)] 3 [3, 4, 5, 6, 7, 8, 9, 10, 11]) (ent_mk (σ := sg [(0, 0), (1, 1), (2, 2)]) ⟨(pE k k), (pE k k), ⟨_, k, ⟨k, k, (by simp only [len_map, lA, lT, lR, lC, lN]), k⟩⟩, trivial⟩ (hP k k k k <| hP k k k k <| hB (okLs.plainO _) k k k <| trivial) k) <| sQ <| sQ <| rg <| ae (w_load_ptr TT_ok k k k k k k k) k ?_
 refine ae (w_load_ptr TT_ok k k k k k k k) k ?_
 obtain ⟨v1, hv1, h⟩ := ob h
 refine ae (w_call0s (c_spec_l9Fit a0 a1 v1 hv1) k (va_cons (va_agg' (v1_cons (v1_same k) (v1_cons (v1_same k) (v1_cons (v1_same k) (v1_cons (v1_same k) (v1_cons (v1_same k) (v1_cons (v1_same k) v1_nil))))))) (va_cons (va_agg' (v1_cons (v1_same k) (v1_cons (v1_same k) (v1_cons (v1_same k) (v1_cons (v1_same k) (v1_cons (v1_same k) (v1_cons (v1_same k) v1_nil))))))) va_nil))) k <| ae (w_not k) k <| an <| tn ?_
 rcases cb h with ⟨q2, h⟩ | ⟨q2, h⟩
 ·refine ac_condT k q2 <| sQ <| rg <| am k k <| aa k k <| aa k k <| an <| tn <| ac_ret <| then_ret ?_
  obtain rfl := so h
  exact ret_mk k k k (xz_tuple k (xB_cons (xB_one (x_f1 okLs k k)) (xB_cons (k) xB_nil)))
 ·refine ac_condF k q2 <| ac_skip <| tn <| sQ <| rg <| ae (w_load_ptr TT_ok k k k k k k k) k <| ae (w_load_ptr TT_ok k k k k k k k) k ?_
  obtain ⟨v3, hv3, h⟩ := ob h
  refine ae (AEff.conv (w_call0 (x := .agg [.int v3.rows, .int v3.cols, .own 3 0 (List.map eI v3.cells).length]) (nb := [(3, ⟨1, absEs (List.map eI v3.cells)⟩)]) (c_spec_l11Equations a0 a1 v3 hv3) k (by rfl) k k (g1_cons trivial (g1_cons trivial (g1_cons (okI.good _) g1_nil))) (va_cons (va_agg' (v1_cons (v1_same k) (v1_cons (v1_same k) (v1_cons (v1_same k) (v1_cons (v1_same k) (v1_cons (v1_same k) (v1_cons (v1_same k) v1_nil))))))) (va_cons (va_agg' (v1_cons (v1_same k) (v1_cons (v1_same k) (v1_cons (v1_same k) (v1_cons (v1_same k) (v1_cons (v1_same k) (v1_cons (v1_same k) v1_nil))))))) va_nil))) (v' := .agg [.int v3.rows, .int v3.cols, .own 3 0 v3.cells.length]) (ed' := [(3, some ⟨1, List.map (ow eI) v3.cells⟩)]) (by simp only [len_map]) (ed_ok (nb' := [(3, ⟨1, List.map (ow eI) v3.cells⟩)]) (by simp only [abs_map]))) k <| ae (w_alloc TT_ok k k) k <| ae (w_store TT_ok k k k k k k k k) k <| an <| tn <| sQ <| ac_region_draw MIXX <| ae (w_field_ptr TT_ok k k k k k k k) k <| ae (w_load_ptr TT_ok k k k k k k k) k <| ae (w_load_ptr TT_ok k k k k k k k) k ?_
  obtain ⟨v4, hv4, h⟩ := ob h
  refine ae (AEff.conv (w_call0 (x := .agg [.int v4.rows, .int v4.cols, .own 5 0 (List.map eI v4.cells).length]) (nb := [(5, ⟨1, absEs (List.map eI v4.cells)⟩)]) (c_spec_l3Transpose v3 v4 hv4) k (by rfl) k k (g1_cons trivial (g1_cons trivial (g1_cons (okI.good _) g1_nil))) (va_cons (va_agg' (v1_cons (v1_same k) (v1_cons (v1_same k) (v1_cons (v1_T okI k k) v1_nil)))) va_nil)) (v' := .agg [.int v4.rows, .int v4.cols, .own 5 0 v4.cells.length]) (ed' := [(5, some ⟨1, List.map (ow eI) v4.cells⟩)]) (by simp only [len_map]) (ed_ok (nb' := [(5, ⟨1, List.map (ow eI) v4.cells⟩)]) (by simp only [abs_map]))) k ?_
  obtain ⟨v5, hv5, h⟩ := ob h
  refine ae (AEff.conv (w_call0 (x := .tuple [.agg [.int v5.1.rows, .int v5.1.cols, .own 6 0 (List.map eI v5.1.cells).length], .own 7 0 (List.map eI v5.2).length]) (nb := [(6, ⟨1, absEs (List.map eI v5.1.cells)⟩), (7, ⟨1, absEs (List.map eI v5.2)⟩)]) (c_spec_l4Reduce a0.p v4 v5 hv5) k (by rfl) k k (gB_cons (g1_cons trivial (g1_cons trivial (g1_cons (okI.good _) g1_nil))) (gB_cons (okI.good _) gB_nil)) (va_cons (va_same k) (va_cons (va_agg' (v1_cons (v1_same k) (v1_cons (v1_same k) (v1_cons (v1_T okI k k) v1_nil)))) va_nil))) (v' := .tuple [.agg [.int v5.1.rows, .int v5.1.cols, .own 6 0 v5.1.cells.length], .own 7 0 v5.2.length]) (ed' := [(6, some ⟨1, List.map (ow eI) v5.1.cells⟩), (7, some ⟨1, List.map (ow eI) v5.2⟩)]) (by simp only [len_map]) (ed_ok (nb' := [(6, ⟨1, List.map (ow eI) v5.1.cells⟩), (7, ⟨1, List.map (ow eI) v5.2⟩)]) (by simp only [abs_map]))) k <| am k k <| ae (eff_extract k k (by intro _ h; cases h)) k <| ae (eff_extract k k (by intro _ h; cases h)) k <| ae (w_alloc TT_ok k k) k <| ae (w_store TT_ok k k k k k k k k) k <| aa k k <| an ?_
  refine ⟨by kernel_rfl, ?_⟩
  refine tn <| ac_ent (t := mkS [(2, .ptr 0 0 0), (3, .ptr 1 0 0), (6, .own 2 0 (([] : (List (List Mt))).length)), (7, .ptr 4 0 0), (9, .own 7 0 v5.2.length)] [(0, ⟨6, [[.int a0.p, .int a0.q.n, .list 1 (List.map eI a0.q.src), .list 1 (List.map eI a0.q.tgt), .list 1 (List.map eI a0.dims), .list 3 (List.map eM a0.maps)]]⟩), (1, ⟨6, [[.int a1.p, .int a1.q.n, .list 1 (List.map eI a1.q.src), .list 1 (List.map eI a1.q.tgt), .list 1 (List.map eI a1.dims), .list 3 (List.map eM a1.maps)]]⟩), (2, ⟨1, List.map (ow (eLs 3 eM)) ([] : (List (List Mt)))⟩), (3, ⟨1, List.map (ow eI) v3.cells⟩), (4, ⟨3, [[.int v3.rows, .int v3.cols, .own 3 0 v3.cells.length]]⟩), (7, ⟨1, List.map (ow eI) v5.2⟩)] 9 [9, 10, 11]) (ent_mk (σ := sg [(0, 0), (1, 1), (2, 2), (3, 3), (4, 4), (7, 7)]) ⟨(pE k k), (pE k k), (oE k k), (pE k k), (oE k k), trivial⟩ (hP k k k k <| hP k k k k <| hB (okLs.plainO _) k k k <| hI k k k <| hX ⟨_, k, k, .inr ⟨_, _, k, ⟨_, _, k, k, ⟨_, _, k, k, ⟨_, _, k, ⟨k, k, k, k⟩, k⟩⟩⟩, k⟩⟩ k <| hI k k k <| trivial) k) <| sQ <| sQ <| rg <| aa k k <| an <| tn <| ac_block ?_
  obtain ⟨y13, hy13, h⟩ := ob h
  refine ac_Lp (body := (m_spec_ExtBasis_L1 a0 a1 v3 v5)) hy13 (fun (x1 : (Int × (List (List Mt)))) => mkS [(2, .ptr 0 0 0), (3, .ptr 1 0 0), (6, .own 2 0 x1.2.length), (7, .ptr 3 0 0), (9, .own 5 0 v5.2.length), (10, .int x1.1)] [(0, ⟨6, [[.int a0.p, .int a0.q.n, .list 1 (List.map eI a0.q.src), .list 1 (List.map eI a0.q.tgt), .list 1 (List.map eI a0.dims), .list 3 (List.map eM a0.maps)]]⟩), (1, ⟨6, [[.int a1.p, .int a1.q.n, .list 1 (List.map eI a1.q.src), .list 1 (List.map eI a1.q.tgt), .list 1 (List.map eI a1.dims), .list 3 (List.map eM a1.maps)]]⟩), (2, ⟨1, List.map (ow (eLs 3 eM)) x1.2⟩), (3, ⟨3, [[.int v3.rows, .int v3.cols, .own 4 0 v3.cells.length]]⟩), (4, ⟨1, List.map (ow eI) v3.cells⟩), (5, ⟨1, List.map (ow eI) v5.2⟩)] 6 [6, 7, 8, 9, 10, 11]) (fun r e t => e = .exit 0 ∧ Ent t (mkS [(6, .own 0 0 r.length)] [(0, ⟨1, List.map (ow (eLs 3 eM)) r⟩)] 1 [1, 2, 3, 4, 5, 6, 7, 8, 9, 10, 11])) (ent_mk (σ := sg [(0, 0), (1, 1), (2, 2), (3, 4), (4, 3), (5, 7)]) ⟨(pE k k), (pE k k), (oE k k), (pE k k), (oE k k), (e1 k k), trivial⟩ (hP k k k k <| hP k k k k <| hB (okLs.plainO _) k k k <| hX ⟨_, k, k, .inr ⟨_, _, k, ⟨_, _, k, k, ⟨_, _, k, k, ⟨_, _, k, ⟨k, k, k, k⟩, k⟩⟩⟩, k⟩⟩ k <| hI k k k <| hI k k k <| trivial) k) ?_ ?_
  ·intro x1 o h
   refine sQ <| sQ <| rg <| am k k <| ae (w_field_ptr TT_ok k k k k k k k) k <| ae (w_load_ptr TT_ok k k k k k k k) k <| ae (w_cmp k k k) k <| an <| tn ?_
   rcases cb h with ⟨q6, h⟩ | ⟨q6, h⟩
   ·refine ac_condT k q6 <| ac_skip <| tn <| sQ <| ac_block <| sQ <| sQ <| rg <| am k k <| am k k ?_
    obtain ⟨v7, hv7, h⟩ := ob h
    refine ae (w_call0s (c_spec_l4Has v5.2 x1.1 v7 hv7) k (va_cons (va_T okI k k) (va_cons (va_same k) va_nil))) k <| an <| tn ?_
    rcases cb h with ⟨q8, h⟩ | ⟨q8, h⟩
    ·refine ac_condT k q8 <| ac_exit <| then_exit <| block_here <| tn <| rg <| am k k <| ae (x_add k k) k <| aa k k <| an ?_
     refine tn ?_
     obtain rfl := so h
     exact ⟨_, k, (ent_mk (σ := sg [(0, 0), (1, 1), (2, 2), (3, 3), (4, 4), (5, 5)]) ⟨(pE k k), (pE k k), (oE k k), (pE k k), (oE k k), (e1 k k), trivial⟩ (hP k k k k <| hP k k k k <| hB (okLs.plainO _) k k k <| hX ⟨_, k, k, .inr ⟨_, _, k, ⟨_, _, k, k, ⟨_, _, k, k, ⟨_, _, k, ⟨k, k, k, k⟩, k⟩⟩⟩, k⟩⟩ k <| hI k k k <| hI k k k <| trivial) k)⟩
    ·refine ac_condF k q8 <| ac_skip <| tn <| sQ <| rg <| ae (w_field_ptr TT_ok k k k k k k k) k <| ae (w_load_ptr TT_ok k k k k k k k) k ?_
     obtain ⟨q12, h⟩ := cg h
     refine ae (x_make TT_ok q12 k k k k k k k k) k <| aa k k <| an <| tn <| ac_ent (t := mkS [(2, .ptr 0 0 0), (3, .ptr 1 0 0), (6, .own 2 0 x1.2.length), (7, .ptr 3 0 0), (9, .own 5 0 v5.2.length), (10, .int x1.1), (11, .own 6 0 ((List.replicate v3.rows.toNat (0 : Int)).length))] [(0, ⟨6, [[.int a0.p, .int a0.q.n, .list 1 (List.map eI a0.q.src), .list 1 (List.map eI a0.q.tgt), .list 1 (List.map eI a0.dims), .list 3 (List.map eM a0.maps)]]⟩), (1, ⟨6, [[.int a1.p, .int a1.q.n, .list 1 (List.map eI a1.q.src), .list 1 (List.map eI a1.q.tgt), .list 1 (List.map eI a1.dims), .list 3 (List.map eM a1.maps)]]⟩), (2, ⟨1, List.map (ow (eLs 3 eM)) x1.2⟩), (3, ⟨3, [[.int v3.rows, .int v3.cols, .own 4 0 v3.cells.length]]⟩), (4, ⟨1, List.map (ow eI) v3.cells⟩), (5, ⟨1, List.map (ow eI) v5.2⟩), (6, ⟨1, List.map (ow eI) (List.replicate v3.rows.toNat (0 : Int))⟩)] 7 [7, 8, 9, 10, 11]) (ent_mk (σ := sg [(0, 0), (1, 1), (2, 2), (3, 3), (4, 4), (5, 5), (6, 6)]) ⟨(pE k k), (pE k k), (oE k k), (pE k k), (oE k k), (e1 k k), ⟨_, k, ⟨k, k, (by simp only [len_map, lA, lT, lR, lC, lN]), k⟩⟩, trivial⟩ (hP k k k k <| hP k k k k <| hB (okLs.plainO _) k k k <| hX ⟨_, k, k, .inr ⟨_, _, k, ⟨_, _, k, k, ⟨_, _, k, k, ⟨_, _, k, ⟨k, k, k, k⟩, k⟩⟩⟩, k⟩⟩ k <| hI k k k <| hI k k k <| hX ⟨_, k, k, .inl ⟨rep_eq (e := eI) (z := 0) _, okI.plainO _⟩⟩ k <| trivial) k) <| sQ <| rg <| am k k <| am k k ?_
     obtain ⟨v9, hv9, h⟩ := ob h
     refine ae (x_at_own TT_ok (atL_nn hv9) (atL_lt hv9) k k k k k k k) k <| ae (x_store TT_ok okIo (u := 1) (atL_get hv9) k k k k k k) k <| an <| tn <| rg <| am k k <| ae (w_load_ptr TT_ok k k k k k k k) k <| ae (w_load_ptr TT_ok k k k k k k k) k <| am k k ?_
     obtain ⟨v10, hv10, h⟩ := ob h
     refine ae (AEff.conv (w_call0 (x := .own 7 0 (List.map eM v10).length) (nb := [(7, ⟨3, absEs (List.map eM v10)⟩)]) (c_spec_l19Cut a0 a1 ((List.replicate v3.rows.toNat (0 : Int)).set x1.1.toNat 1) v10 hv10) k (by rfl) k k (okMt.good _) (va_cons (va_agg' (v1_cons (v1_same k) (v1_cons (v1_same k) (v1_cons (v1_same k) (v1_cons (v1_same k) (v1_cons (v1_same k) (v1_cons (v1_same k) v1_nil))))))) (va_cons (va_agg' (v1_cons (v1_same k) (v1_cons (v1_same k) (v1_cons (v1_same k) (v1_cons (v1_same k) (v1_cons (v1_same k) (v1_cons (v1_same k) v1_nil))))))) (va_cons (va_T okI k (by first | rfl | simp only [List.length_set])) va_nil)))) (v' := .own 7 0 v10.length) (ed' := [(7, some ⟨3, List.map (ow eM) v10⟩)]) (by simp only [len_map]) (ed_ok (nb' := [(7, ⟨3, List.map (ow eM) v10⟩)]) (by simp only [abs_map]))) k <| ae (w_lit TT_ok k k k k k k k k k k k k) k ?_
     obtain ⟨q11, h⟩ := cg h
     refine ae (x_app1 TT_ok (l := x1.2) (c := [.own 7 0 v10.length]) q11 k k k k k k k k k k k k k k) k <| aa k k <| an <| block_n <| tn <| ac_ent (t := mkS [(2, .ptr 0 0 0), (3, .ptr 1 0 0), (6, .own 9 0 ((x1.2 ++ [v10]).length)), (7, .ptr 3 0 0), (9, .own 5 0 v5.2.length), (10, .int x1.1)] [(0, ⟨6, [[.int a0.p, .int a0.q.n, .list 1 (List.map eI a0.q.src), .list 1 (List.map eI a0.q.tgt), .list 1 (List.map eI a0.dims), .list 3 (List.map eM a0.maps)]]⟩), (1, ⟨6, [[.int a1.p, .int a1.q.n, .list 1 (List.map eI a1.q.src), .list 1 (List.map eI a1.q.tgt), .list 1 (List.map eI a1.dims), .list 3 (List.map eM a1.maps)]]⟩), (3, ⟨3, [[.int v3.rows, .int v3.cols, .own 4 0 v3.cells.length]]⟩), (4, ⟨1, List.map (ow eI) v3.cells⟩), (5, ⟨1, List.map (ow eI) v5.2⟩), (9, ⟨1, List.map (ow (eLs 3 eM)) (x1.2 ++ [v10])⟩)] 10 [10, 11]) (Ent.trans (ent_absL (b := 9) (b' := 7) (j := 0) (es' := List.map eM v10) k k k k (len_map _ _) (okMt.frzs _)) (ent_mk (σ := sg [(0, 0), (1, 1), (3, 3), (4, 4), (5, 5), (9, 9)]) ⟨(pE k k), (pE k k), ⟨_, k, ⟨k, k, (by simp only [len_map, lA, lT, lR, lC, lN]), k⟩⟩, (pE k k), (oE k k), (e1 k k), trivial⟩ (hP k k k k <| hP k k k k <| hX ⟨_, k, k, .inr ⟨_, _, k, ⟨_, _, k, k, ⟨_, _, k, k, ⟨_, _, k, ⟨k, k, k, k⟩, k⟩⟩⟩, k⟩⟩ k <| hI k k k <| hI k k k <| hX ⟨_, k, k, .inl ⟨app_eq v10 k, okLs.plainO _⟩⟩ k <| trivial) k)) <| rg <| am k k <| ae (x_add k k) k <| aa k k ?_
     refine an <| tn ?_
     obtain rfl := so h
     exact ⟨_, k, (ent_mk (σ := sg [(0, 0), (1, 1), (2, 9), (3, 3), (4, 4), (5, 5)]) ⟨(pE k k), (pE k k), (oE k k), (pE k k), (oE k k), (e1 k k), trivial⟩ (hP k k k k <| hP k k k k <| hB (okLs.plainO _) k k k <| hX ⟨_, k, k, .inr ⟨_, _, k, ⟨_, _, k, k, ⟨_, _, k, k, ⟨_, _, k, ⟨k, k, k, k⟩, k⟩⟩⟩, k⟩⟩ k <| hI k k k <| hI k k k <| trivial) k)⟩
   ·refine ac_condF k q6 <| ac_exit <| then_exit <| then_exit ?_
    obtain rfl := so h
    exact ⟨_, k, k, (ent_mk (σ := sg [(0, 2)]) ⟨(oE k k), trivial⟩ (hB (okLs.plainO _) k k k <| trivial) k)⟩
  ·rintro e t ⟨rfl, hent⟩
   refine block_here <| tn <| ac_ent hent <| sQ <| rg <| am k k <| aa k k <| aa k k <| an <| tn ?_
   refine ac_ret ?_
   obtain rfl := so h
   exact ret_mk k k k (xz_tuple k (xB_cons (xB_one (x_f1 okLs k k)) (xB_cons (k) xB_nil)))

noncomputable def m_impl_ClaimOfExtension (a0 : Rp) (a1 : Rp) : Option (Cl × Bool) :=
  Option.bind (m_impl_ExtBasis a0 a1) fun v1 =>
  bif decide (((v1.1.length : Nat) : Int) = 0) then
    (some (((⟨0, (⟨0, (⟨0, [], []⟩ : Qv), [], []⟩ : Rp), (⟨0, (⟨0, [], []⟩ : Qv), [], []⟩ : Rp), [], [], [], [], []⟩ : Cl), false)))
  else
    (Option.bind (atL v1.1 0) fun v3 =>
    Option.bind (m_impl_Rep_clone a0) fun v4 =>
    Option.bind (m_impl_Rep_clone a1) fun v5 =>
    some (((⟨4, v4, v5, [], v3, [], [], []⟩ : Cl), true)))

theorem c_impl_ClaimOfExtension (a0 : Rp) (a1 : Rp) (r : (Cl × Bool)) (h : m_impl_ClaimOfExtension a0 a1 = some r) : HasC Tryz.prog 7 [.agg (eR a0), .agg (eR a1)] (.tuple [.agg (eC r.1), .bl r.2]) := by
 refine hasC_mkW TT_ok (rvs := [.cell 4 37, .tmp 5]) (ns := [0, 1, 2, 3, 4, 5, 6, 7, 8, 9, 10, 11, 12, 13, 14]) Tryz.func7 k k Tryz.ntmps7 k k k (fun W => ?_)
 refine rawE_agg <| rawC_sc <| rawC_sc <| rawC_d (fun w0_2 S0_2 r0_2 => ?_)
 refine rawC_d (fun w0_3 S0_3 r0_3 => ?_)
 refine rawC_d (fun w0_4 S0_4 r0_4 => ?_)
 refine rawC_d (fun w0_5 S0_5 r0_5 => ?_)
 refine rawC_nil <| rawE_agg <| rawC_sc <| rawC_sc <| rawC_d (fun w1_2 S1_2 r1_2 => ?_)
 refine rawC_d (fun w1_3 S1_3 r1_3 => ?_)
 refine rawC_d (fun w1_4 S1_4 r1_4 => ?_)
 refine rawC_d (fun w1_5 S1_5 r1_5 => ?_)
 refine rawC_nil <| rawE_nil <| sQ <| rgS <| se (w_box k k k k) k <| se (w_box k k k k) k <| se (w_alloc TT_ok k k) k <| se (eff_assign k) k <| sn <| tn ?_
 refine sQ <| rgS <| se (w_load_ptr TT_ok k k k k k k k) k <| se (w_load_ptr TT_ok k k k k k k k) k ?_
 obtain ⟨v1, hv1, h⟩ := ob h
 refine se (AEff.conv (w_call0K (x := .tuple [.own 3 0 (List.map (eLs 3 eM) v1.1).length, .bl v1.2]) (nb := [(3, ⟨1, absEs (List.map (eLs 3 eM) v1.1)⟩)]) (c_impl_ExtBasis a0 a1 v1 hv1) k (by rfl) k k (gB_cons (okLs.good _) (gB_cons trivial gB_nil)) (vk_cons (.inr (raw_cons (raw1_sc k k) (raw_cons (raw1_sc k k) (raw_cons (raw1_d k r0_2) (raw_cons (raw1_d k r0_3) (raw_cons (raw1_d k r0_4) (raw_cons (raw1_d k r0_5) raw_nil))))))) (vk_cons (.inr (raw_cons (raw1_sc k k) (raw_cons (raw1_sc k k) (raw_cons (raw1_d k r1_2) (raw_cons (raw1_d k r1_3) (raw_cons (raw1_d k r1_4) (raw_cons (raw1_d k r1_5) raw_nil))))))) vk_nil))) (v' := .tuple [.own 3 0 v1.1.length, .bl v1.2]) (ed' := [(3, some ⟨1, List.map (ow (eLs 3 eM)) v1.1⟩)]) (by simp only [len_map]) (ed_ok (nb' := [(3, ⟨1, List.map (ow (eLs 3 eM)) v1.1⟩)]) (by simp only [abs_map]))) k <| se (eff_move k) k <| se (eff_extract k k (by intro _ h; cases h)) k <| se (eff_extract k k (by intro _ h; cases h)) k <| se (eff_assign k) k <| se (eff_assign k) k <| sn <| tn <| ac_ent (t := mkS [(2, .ptr 0 0 0), (3, .ptr 1 0 0), (4, .ptr 2 0 0), (6, .own 3 0 v1.1.length)] [(0, ⟨6, [[.int a0.p, .int a0.q.n, .sc w0_2, .sc w0_3, .sc w0_4, .sc w0_5]]⟩), (1, ⟨6, [[.int a1.p, .int a1.q.n, .sc w1_2, .sc w1_3, .sc w1_4, .sc w1_5]]⟩), (2, ⟨18, [[.int 0, .int 0, .int 0, .nil 1, .nil 1, .nil 1, .nil 3, .int 0, .int 0, .nil 1, .nil 1, .nil 1, .nil 3, .nil 6, .nil 3, .nil 3, .nil 1, .nil 2]]⟩), (3, ⟨1, List.map (ow (eLs 3 eM)) v1.1⟩)] 4 [4, 5, 6, 7, 8, 9, 10, 11, 12, 13, 14] ⟨0, true, fxW W, true⟩) (ent_mk (σ := sg [(0, 0), (1, 1), (2, 2), (3, 3)]) ⟨(pE k k), (pE k k), (pE k k), (oE k k), trivial⟩ (hP k k k k <| hP k k k k <| hP k k k k <| hB (okLs.plainO _) k k k <| trivial) k) ?_
 refine sQ <| sQ <| rgS <| se (eff_move k) k <| se (w_len_own TT_ok k k k k) k <| se (w_cmp k k k) k <| sn <| tn ?_
 rcases cb h with ⟨q2, h⟩ | ⟨q2, h⟩
 ·refine ac_condT k q2 <| sQ <| rgS <| se (w_build TT_ok k k k k k k) k <| se (w_store TT_ok k k k k k k k k) k <| se (eff_assign k) k <| sn <| tn <| ac_ret <| then_ret ?_
  obtain rfl := so h
  exact ret_mk k k k (xz_tuple k (xB_cons (xB_agg (x1_cons (k) (x1_cons (k) (x1_cons (k) (x1_cons (k) (x1_cons (k) (x1_cons (k) (x1_cons (k) (x1_cons (k) (x1_cons (k) (x1_cons (k) (x1_cons (k) (x1_cons (k) (x1_cons (k) (x1_cons (k) (x1_cons (k) (x1_cons (k) (x1_cons (k) (x1_cons (k) x1_nil))))))))))))))))))) (xB_cons (k) xB_nil)))
 ·refine ac_condF k q2 <| ac_skip <| tn <| sQ ?_
  obtain ⟨v3, hv3, h⟩ := ob h
  refine ac_ent (t := mkS [(2, .ptr 0 0 0), (3, .ptr 1 0 0), (4, .ptr 2 0 0), (6, .own 3 0 v1.1.length), (14, .own 3 0 v1.1.length), (15, .int ((v1.1.length : Nat) : Int)), (16, .bl (decide (((v1.1.length : Nat) : Int) = 0)))] [(0, ⟨6, [[.int a0.p, .int a0.q.n, .sc w0_2, .sc w0_3, .sc w0_4, .sc w0_5]]⟩), (1, ⟨6, [[.int a1.p, .int a1.q.n, .sc w1_2, .sc w1_3, .sc w1_4, .sc w1_5]]⟩), (2, ⟨18, [[.int 0, .int 0, .int 0, .nil 1, .nil 1, .nil 1, .nil 3, .int 0, .int 0, .nil 1, .nil 1, .nil 1, .nil 3, .nil 6, .nil 3, .nil 3, .nil 1, .nil 2]]⟩), (3, ⟨1, (List.map (ow (eLs 3 eM)) v1.1).set ((0 : Int).toNat) [.abs 3 (List.map eM v3)]⟩)] 4 [4, 5, 6, 7, 8, 9, 10, 11, 12, 13, 14] ⟨0, true, fxW W, true⟩) (ent_mk (σ := sg [(0, 0), (1, 1), (2, 2), (3, 3)]) ⟨(pE k k), (pE k k), (pE k k), (oE k k), (oE k k), (e1 k k), (e1 k k), trivial⟩ (hP k k k k <| hP k k k k <| hP k k k k <| hX ⟨_, k, k, .inl ⟨open_row (atL_get hv3), set_plain okLs k⟩⟩ k <| trivial) k) <| ac_ent (ent_openS (b := 3) (c := 4) (i := (0 : Int).toNat) (j := 0) (n := v3.length) (A := List.map (ow (eLs 3 eM)) v1.1) (fs := List.map (ow eM) v3) (by rw [List.length_map]; exact atL_lt hv3) k k k k (len_map _ _) (abs_map _ _) (dfE_ok ⟨k, k, k, k, k, k, k, trivial⟩) (dfH_ok (skip := []) ⟨.inr (df_lit k), .inr (df_lit k), .inr (df_lit k), .inr (okLs.dfS _ _ _ k), trivial⟩)) <| ac_ent (t := mkS [(2, .ptr 0 0 0), (3, .ptr 1 0 0), (4, .ptr 2 0 0), (6, .own 3 0 v1.1.length), (14, .own 3 0 v1.1.length), (15, .int ((v1.1.length : Nat) : Int)), (16, .bl (decide (((v1.1.length : Nat) : Int) = 0)))] [(0, ⟨6, [[.int a0.p, .int a0.q.n, .sc w0_2, .sc w0_3, .sc w0_4, .sc w0_5]]⟩), (1, ⟨6, [[.int a1.p, .int a1.q.n, .sc w1_2, .sc w1_3, .sc w1_4, .sc w1_5]]⟩), (2, ⟨18, [[.int 0, .int 0, .int 0, .nil 1, .nil 1, .nil 1, .nil 3, .int 0, .int 0, .nil 1, .nil 1, .nil 1, .nil 3, .nil 6, .nil 3, .nil 3, .nil 1, .nil 2]]⟩), (3, ⟨1, (List.map (ow (eLs 3 eM)) v1.1).set ((0 : Int).toNat) [.own 4 0 v3.length]⟩), (4, ⟨3, List.map (ow eM) v3⟩)] 5 [5, 6, 7, 8, 9, 10, 11, 12, 13, 14] ⟨0, true, fxW W, true⟩) (ent_mk (σ := sg [(0, 0), (1, 1), (2, 2), (3, 3), (4, 4)]) ⟨(pE k k), (pE k k), (pE k k), (oE k k), (oE k k), (e1 k k), (e1 k k), trivial⟩ (hP k k k k <| hP k k k k <| hP k k k k <| hX ⟨_, k, k, .inr (ent_set (σ := sg [(0, 0), (1, 1), (2, 2), (3, 3), (4, 4)]) (m := 5) (e := (eLs 3 eM)) (l := v1.1) (i := (0 : Int).toNat) (c := [.own 4 0 v3.length]) (d := [.own 4 0 v3.length]) okLs ⟨_, _, k, ⟨k, k, k, k⟩, k⟩)⟩ k <| hB (okMt.plainO _) k k k <| trivial) k) ?_
  refine ac_region_draw MIXX <| ae (w_load_ptr TT_ok k k k k k k k) k ?_
  obtain ⟨v4, hv4, h⟩ := ob h
  refine ae (AEff.conv (w_call0K (x := .agg [.int v4.p, .int v4.q.n, .own 5 0 (List.map eI v4.q.src).length, .own 6 0 (List.map eI v4.q.tgt).length, .own 7 0 (List.map eI v4.dims).length, .own 8 0 (List.map eM v4.maps).length]) (nb := [(5, ⟨1, absEs (List.map eI v4.q.src)⟩), (6, ⟨1, absEs (List.map eI v4.q.tgt)⟩), (7, ⟨1, absEs (List.map eI v4.dims)⟩), (8, ⟨3, absEs (List.map eM v4.maps)⟩)]) (c_impl_Rep_clone a0 v4 hv4) k (by rfl) k k (g1_cons trivial (g1_cons trivial (g1_cons (okI.good _) (g1_cons (okI.good _) (g1_cons (okI.good _) (g1_cons (okMt.good _) g1_nil)))))) (vk_cons (.inr (raw_cons (raw1_sc k k) (raw_cons (raw1_sc k k) (raw_cons (raw1_d k r0_2) (raw_cons (raw1_d k r0_3) (raw_cons (raw1_d k r0_4) (raw_cons (raw1_d k r0_5) raw_nil))))))) vk_nil)) (v' := .agg [.int v4.p, .int v4.q.n, .own 5 0 v4.q.src.length, .own 6 0 v4.q.tgt.length, .own 7 0 v4.dims.length, .own 8 0 v4.maps.length]) (ed' := [(5, some ⟨1, List.map (ow eI) v4.q.src⟩), (6, some ⟨1, List.map (ow eI) v4.q.tgt⟩), (7, some ⟨1, List.map (ow eI) v4.dims⟩), (8, some ⟨3, List.map (ow eM) v4.maps⟩)]) (by simp only [len_map]) (ed_ok (nb' := [(5, ⟨1, List.map (ow eI) v4.q.src⟩), (6, ⟨1, List.map (ow eI) v4.q.tgt⟩), (7, ⟨1, List.map (ow eI) v4.dims⟩), (8, ⟨3, List.map (ow eM) v4.maps⟩)]) (by simp only [abs_map]))) k <| ae (w_load_ptr TT_ok k k k k k k k) k ?_
  obtain ⟨v5, hv5, h⟩ := ob h
  refine ae (AEff.conv (w_call0K (x := .agg [.int v5.p, .int v5.q.n, .own 9 0 (List.map eI v5.q.src).length, .own 10 0 (List.map eI v5.q.tgt).length, .own 11 0 (List.map eI v5.dims).length, .own 12 0 (List.map eM v5.maps).length]) (nb := [(9, ⟨1, absEs (List.map eI v5.q.src)⟩), (10, ⟨1, absEs (List.map eI v5.q.tgt)⟩), (11, ⟨1, absEs (List.map eI v5.dims)⟩), (12, ⟨3, absEs (List.map eM v5.maps)⟩)]) (c_impl_Rep_clone a1 v5 hv5) k (by rfl) k k (g1_cons trivial (g1_cons trivial (g1_cons (okI.good _) (g1_cons (okI.good _) (g1_cons (okI.good _) (g1_cons (okMt.good _) g1_nil)))))) (vk_cons (.inr (raw_cons (raw1_sc k k) (raw_cons (raw1_sc k k) (raw_cons (raw1_d k r1_2) (raw_cons (raw1_d k r1_3) (raw_cons (raw1_d k r1_4) (raw_cons (raw1_d k r1_5) raw_nil))))))) vk_nil)) (v' := .agg [.int v5.p, .int v5.q.n, .own 9 0 v5.q.src.length, .own 10 0 v5.q.tgt.length, .own 11 0 v5.dims.length, .own 12 0 v5.maps.length]) (ed' := [(9, some ⟨1, List.map (ow eI) v5.q.src⟩), (10, some ⟨1, List.map (ow eI) v5.q.tgt⟩), (11, some ⟨1, List.map (ow eI) v5.dims⟩), (12, some ⟨3, List.map (ow eM) v5.maps⟩)]) (by simp only [len_map]) (ed_ok (nb' := [(9, ⟨1, List.map (ow eI) v5.q.src⟩), (10, ⟨1, List.map (ow eI) v5.q.tgt⟩), (11, ⟨1, List.map (ow eI) v5.dims⟩), (12, ⟨3, List.map (ow eM) v5.maps⟩)]) (by simp only [abs_map]))) k <| am k k <| ae (x_at_own TT_ok (atL_nn hv3) (atL_lt hv3) k k k k k k k) k <| ae (w_load_ptr TT_ok k k k k (set_at (atL_lt hv3)) k k) k <| ae (w_build TT_ok k k k k k k) k <| ae (w_store TT_ok k k k k k k k k) k ?_
  refine aa k k <| an ?_
  refine ⟨by kernel_rfl, ?_⟩
  refine tn <| ac_ret ?_
  obtain rfl := so h
  exact ret_mk k k k (xz_tuple k (xB_cons (xB_agg (x1_cons (k) (x1_cons (k) (x1_cons (k) (x1_cons (x_f1 okI k k) (x1_cons (x_f1 okI k k) (x1_cons (x_f1 okI k k) (x1_cons (x_f1 okMt k k) (x1_cons (k) (x1_cons (k) (x1_cons (x_f1 okI k k) (x1_cons (x_f1 okI k k) (x1_cons (x_f1 okI k k) (x1_cons (x_f1 okMt k k) (x1_cons (k) (x1_cons (x_f1 okMt k k) (x1_cons (k) (x1_cons (k) (x1_cons (k) x1_nil))))))))))))))))))) (xB_cons (k) xB_nil)))

noncomputable def m_spec_ClaimOfExtension (a0 : Rp) (a1 : Rp) : Option (Cl × Bool) :=
  Option.bind (m_spec_ExtBasis a0 a1) fun v1 =>
  bif !v1.2 then
    (some (((⟨0, (⟨0, (⟨0, [], []⟩ : Qv), [], []⟩ : Rp), (⟨0, (⟨0, [], []⟩ : Qv), [], []⟩ : Rp), [], [], [], [], []⟩ : Cl), false)))
  else
    (bif decide (((v1.1.length : Nat) : Int) = 0) then
      (some (((⟨0, (⟨0, (⟨0, [], []⟩ : Qv), [], []⟩ : Rp), (⟨0, (⟨0, [], []⟩ : Qv), [], []⟩ : Rp), [], [], [], [], []⟩ : Cl), false)))
    else
      (Option.bind (atL v1.1 0) fun v4 =>
      Option.bind (m_spec_l8Copy a0) fun v5 =>
      Option.bind (m_spec_l8Copy a1) fun v6 =>
      some (((⟨4, v5, v6, [], v4, [], [], []⟩ : Cl), true))))

theorem c_spec_ClaimOfExtension (a0 : Rp) (a1 : Rp) (r : (Cl × Bool)) (h : m_spec_ClaimOfExtension a0 a1 = some r) : HasC Tryz.prog 5 [.agg (eR a0), .agg (eR a1)] (.tuple [.agg (eC r.1), .bl r.2]) := by
 refine hasC_mkW TT_ok (rvs := [.cell 4 37, .tmp 5]) (ns := [0, 1, 2, 3, 4, 5, 6, 7, 8, 9, 10, 11, 12, 13, 14]) Tryz.func5 k k Tryz.ntmps5 k k k (fun W => ?_)
 refine rawE_agg <| rawC_sc <| rawC_sc <| rawC_d (fun w0_2 S0_2 r0_2 => ?_)
 refine rawC_d (fun w0_3 S0_3 r0_3 => ?_)
 refine rawC_d (fun w0_4 S0_4 r0_4 => ?_)
 refine rawC_d (fun w0_5 S0_5 r0_5 => ?_)
 refine rawC_nil <| rawE_agg <| rawC_sc <| rawC_sc <| rawC_d (fun w1_2 S1_2 r1_2 => ?_)
 refine rawC_d (fun w1_3 S1_3 r1_3 => ?_)
 refine rawC_d (fun w1_4 S1_4 r1_4 => ?_)
 refine rawC_d (fun w1_5 S1_5 r1_5 => ?_)
 refine rawC_nil <| rawE_nil <| sQ <| rgS <| se (w_box k k k k) k <| se (w_box k k k k) k <| se (w_alloc TT_ok k k) k <| se (eff_assign k) k <| sn <| tn ?_
 refine sQ <| rgS <| se (w_load_ptr TT_ok k k k k k k k) k <| se (w_load_ptr TT_ok k k k k k k k) k ?_
 obtain ⟨v1, hv1, h⟩ := ob h
 refine se (AEff.conv (w_call0K (x := .tuple [.own 3 0 (List.map (eLs 3 eM) v1.1).length, .bl v1.2]) (nb := [(3, ⟨1, absEs (List.map (eLs 3 eM) v1.1)⟩)]) (c_spec_ExtBasis a0 a1 v1 hv1) k (by rfl) k k (gB_cons (okLs.good _) (gB_cons trivial gB_nil)) (vk_cons (.inr (raw_cons (raw1_sc k k) (raw_cons (raw1_sc k k) (raw_cons (raw1_d k r0_2) (raw_cons (raw1_d k r0_3) (raw_cons (raw1_d k r0_4) (raw_cons (raw1_d k r0_5) raw_nil))))))) (vk_cons (.inr (raw_cons (raw1_sc k k) (raw_cons (raw1_sc k k) (raw_cons (raw1_d k r1_2) (raw_cons (raw1_d k r1_3) (raw_cons (raw1_d k r1_4) (raw_cons (raw1_d k r1_5) raw_nil))))))) vk_nil))) (v' := .tuple [.own 3 0 v1.1.length, .bl v1.2]) (ed' := [(3, some ⟨1, List.map (ow (eLs 3 eM)) v1.1⟩)]) (by simp only [len_map]) (ed_ok (nb' := [(3, ⟨1, List.map (ow (eLs 3 eM)) v1.1⟩)]) (by simp only [abs_map]))) k <| se (eff_move k) k <| se (eff_extract k k (by intro _ h; cases h)) k <| se (eff_extract k k (by intro _ h; cases h)) k <| se (eff_assign k) k <| se (eff_assign k) k <| sn <| tn <| ac_ent (t := mkS [(2, .ptr 0 0 0), (3, .ptr 1 0 0), (4, .ptr 2 0 0), (6, .own 3 0 v1.1.length), (7, .bl v1.2)] [(0, ⟨6, [[.int a0.p, .int a0.q.n, .sc w0_2, .sc w0_3, .sc w0_4, .sc w0_5]]⟩), (1, ⟨6, [[.int a1.p, .int a1.q.n, .sc w1_2, .sc w1_3, .sc w1_4, .sc w1_5]]⟩), (2, ⟨18, [[.int 0, .int 0, .int 0, .nil 1, .nil 1, .nil 1, .nil 3, .int 0, .int 0, .nil 1, .nil 1, .nil 1, .nil 3, .nil 6, .nil 3, .nil 3, .nil 1, .nil 2]]⟩), (3, ⟨1, List.map (ow (eLs 3 eM)) v1.1⟩)] 4 [4, 5, 6, 7, 8, 9, 10, 11, 12, 13, 14] ⟨0, true, fxW W, true⟩) (ent_mk (σ := sg [(0, 0), (1, 1), (2, 2), (3, 3)]) ⟨(pE k k), (pE k k), (pE k k), (oE k k), (e1 k k), trivial⟩ (hP k k k k <| hP k k k k <| hP k k k k <| hB (okLs.plainO _) k k k <| trivial) k) ?_
 refine sQ <| sQ <| rgS <| se (eff_move k) k <| se (w_not k) k <| se (eff_move k) k ?_
 rcases cb h with ⟨q2, h⟩ | ⟨q2, h⟩
 ·refine sops_lit 16 k q2 <| sops_skip k k <| sops_skip k k <| sops_skip k k <| se (eff_pick k k) k <| sn <| tn <| ac_condT k k <| sQ <| rgS ?_
  refine se (w_build TT_ok k k k k k k) k <| se (w_store TT_ok k k k k k k k k) k <| se (eff_assign k) k <| sn <| tn <| ac_ret <| then_ret ?_
  obtain rfl := so h
  exact ret_mk k k k (xz_tuple k (xB_cons (xB_agg (x1_cons (k) (x1_cons (k) (x1_cons (k) (x1_cons (k) (x1_cons (k) (x1_cons (k) (x1_cons (k) (x1_cons (k) (x1_cons (k) (x1_cons (k) (x1_cons (k) (x1_cons (k) (x1_cons (k) (x1_cons (k) (x1_cons (k) (x1_cons (k) (x1_cons (k) (x1_cons (k) x1_nil))))))))))))))))))) (xB_cons (k) xB_nil)))
 ·refine sops_lit 16 k q2 <| se (eff_move k) k <| se (w_len_own TT_ok k k k k) k <| se (w_cmp k k k) k <| se (eff_pick k k) k <| sn <| tn ?_
  rcases cb h with ⟨q3, h⟩ | ⟨q3, h⟩
  ·refine ac_condT k q3 <| sQ <| rgS <| se (w_build TT_ok k k k k k k) k <| se (w_store TT_ok k k k k k k k k) k <| se (eff_assign k) k <| sn <| tn <| ac_ret <| then_ret ?_
   obtain rfl := so h
   exact ret_mk k k k (xz_tuple k (xB_cons (xB_agg (x1_cons (k) (x1_cons (k) (x1_cons (k) (x1_cons (k) (x1_cons (k) (x1_cons (k) (x1_cons (k) (x1_cons (k) (x1_cons (k) (x1_cons (k) (x1_cons (k) (x1_cons (k) (x1_cons (k) (x1_cons (k) (x1_cons (k) (x1_cons (k) (x1_cons (k) (x1_cons (k) x1_nil))))))))))))))))))) (xB_cons (k) xB_nil)))
  ·refine ac_condF k q3 <| ac_skip <| tn <| sQ ?_
   obtain ⟨v4, hv4, h⟩ := ob h
   refine ac_ent (t := mkS [(2, .ptr 0 0 0), (3, .ptr 1 0 0), (4, .ptr 2 0 0), (6, .own 3 0 v1.1.length), (7, .bl v1.2), (14, .bl v1.2), (15, .bl (!v1.2)), (16, .bl false), (17, .own 3 0 v1.1.length), (18, .int ((v1.1.length : Nat) : Int)), (19, .bl (decide (((v1.1.length : Nat) : Int) = 0))), (20, .bl (decide (((v1.1.length : Nat) : Int) = 0)))] [(0, ⟨6, [[.int a0.p, .int a0.q.n, .sc w0_2, .sc w0_3, .sc w0_4, .sc w0_5]]⟩), (1, ⟨6, [[.int a1.p, .int a1.q.n, .sc w1_2, .sc w1_3, .sc w1_4, .sc w1_5]]⟩), (2, ⟨18, [[.int 0, .int 0, .int 0, .nil 1, .nil 1, .nil 1, .nil 3, .int 0, .int 0, .nil 1, .nil 1, .nil 1, .nil 3, .nil 6, .nil 3, .nil 3, .nil 1, .nil 2]]⟩), (3, ⟨1, (List.map (ow (eLs 3 eM)) v1.1).set ((0 : Int).toNat) [.abs 3 (List.map eM v4)]⟩)] 4 [4, 5, 6, 7, 8, 9, 10, 11, 12, 13, 14] ⟨0, true, fxW W, true⟩) (ent_mk (σ := sg [(0, 0), (1, 1), (2, 2), (3, 3)]) ⟨(pE k k), (pE k k), (pE k k), (oE k k), (e1 k k), (e1 k k), (e1 k k), (e1 k k), (oE k k), (e1 k k), (e1 k k), (e1 k k), trivial⟩ (hP k k k k <| hP k k k k <| hP k k k k <| hX ⟨_, k, k, .inl ⟨open_row (atL_get hv4), set_plain okLs k⟩⟩ k <| trivial) k) <| ac_ent (ent_openS (b := 3) (c := 4) (i := (0 : Int).toNat) (j := 0) (n := v4.length) (A := List.map (ow (eLs 3 eM)) v1.1) (fs := List.map (ow eM) v4) (by rw [List.length_map]; exact atL_lt hv4) k k k k (len_map _ _) (abs_map _ _) (dfE_ok ⟨k, k, k, k, k, k, k, k, k, k, k, k, trivial⟩) (dfH_ok (skip := []) ⟨.inr (df_lit k), .inr (df_lit k), .inr (df_lit k), .inr (okLs.dfS _ _ _ k), trivial⟩)) ?_
   refine ac_ent (t := mkS [(2, .ptr 0 0 0), (3, .ptr 1 0 0), (4, .ptr 2 0 0), (6, .own 3 0 v1.1.length), (7, .bl v1.2), (14, .bl v1.2), (15, .bl (!v1.2)), (16, .bl false), (17, .own 3 0 v1.1.length), (18, .int ((v1.1.length : Nat) : Int)), (19, .bl (decide (((v1.1.length : Nat) : Int) = 0))), (20, .bl (decide (((v1.1.length : Nat) : Int) = 0)))] [(0, ⟨6, [[.int a0.p, .int a0.q.n, .sc w0_2, .sc w0_3, .sc w0_4, .sc w0_5]]⟩), (1, ⟨6, [[.int a1.p, .int a1.q.n, .sc w1_2, .sc w1_3, .sc w1_4, .sc w1_5]]⟩), (2, ⟨18, [[.int 0, .int 0, .int 0, .nil 1, .nil 1, .nil 1, .nil 3, .int 0, .int 0, .nil 1, .nil 1, .nil 1, .nil 3, .nil 6, .nil 3, .nil 3, .nil 1, .nil 2]]⟩), (3, ⟨1, (List.map (ow (eLs 3 eM)) v1.1).set ((0 : Int).toNat) [.own 4 0 v4.length]⟩), (4, ⟨3, List.map (ow eM) v4⟩)] 5 [5, 6, 7, 8, 9, 10, 11, 12, 13, 14] ⟨0, true, fxW W, true⟩) (ent_mk (σ := sg [(0, 0), (1, 1), (2, 2), (3, 3), (4, 4)]) ⟨(pE k k), (pE k k), (pE k k), (oE k k), (e1 k k), (e1 k k), (e1 k k), (e1 k k), (oE k k), (e1 k k), (e1 k k), (e1 k k), trivial⟩ (hP k k k k <| hP k k k k <| hP k k k k <| hX ⟨_, k, k, .inr (ent_set (σ := sg [(0, 0), (1, 1), (2, 2), (3, 3), (4, 4)]) (m := 5) (e := (eLs 3 eM)) (l := v1.1) (i := (0 : Int).toNat) (c := [.own 4 0 v4.length]) (d := [.own 4 0 v4.length]) okLs ⟨_, _, k, ⟨k, k, k, k⟩, k⟩)⟩ k <| hB (okMt.plainO _) k k k <| trivial) k) <| ac_region_draw MIXX <| ae (w_load_ptr TT_ok k k k k k k k) k ?_
   obtain ⟨v5, hv5, h⟩ := ob h
   refine ae (AEff.conv (w_call0K (x := .agg [.int v5.p, .int v5.q.n, .own 5 0 (List.map eI v5.q.src).length, .own 6 0 (List.map eI v5.q.tgt).length, .own 7 0 (List.map eI v5.dims).length, .own 8 0 (List.map eM v5.maps).length]) (nb := [(5, ⟨1, absEs (List.map eI v5.q.src)⟩), (6, ⟨1, absEs (List.map eI v5.q.tgt)⟩), (7, ⟨1, absEs (List.map eI v5.dims)⟩), (8, ⟨3, absEs (List.map eM v5.maps)⟩)]) (c_spec_l8Copy a0 v5 hv5) k (by rfl) k k (g1_cons trivial (g1_cons trivial (g1_cons (okI.good _) (g1_cons (okI.good _) (g1_cons (okI.good _) (g1_cons (okMt.good _) g1_nil)))))) (vk_cons (.inr (raw_cons (raw1_sc k k) (raw_cons (raw1_sc k k) (raw_cons (raw1_d k r0_2) (raw_cons (raw1_d k r0_3) (raw_cons (raw1_d k r0_4) (raw_cons (raw1_d k r0_5) raw_nil))))))) vk_nil)) (v' := .agg [.int v5.p, .int v5.q.n, .own 5 0 v5.q.src.length, .own 6 0 v5.q.tgt.length, .own 7 0 v5.dims.length, .own 8 0 v5.maps.length]) (ed' := [(5, some ⟨1, List.map (ow eI) v5.q.src⟩), (6, some ⟨1, List.map (ow eI) v5.q.tgt⟩), (7, some ⟨1, List.map (ow eI) v5.dims⟩), (8, some ⟨3, List.map (ow eM) v5.maps⟩)]) (by simp only [len_map]) (ed_ok (nb' := [(5, ⟨1, List.map (ow eI) v5.q.src⟩), (6, ⟨1, List.map (ow eI) v5.q.tgt⟩), (7, ⟨1, List.map (ow eI) v5.dims⟩), (8, ⟨3, List.map (ow eM) v5.maps⟩)]) (by simp only [abs_map]))) k <| ae (w_load_ptr TT_ok k k k k k k k) k ?_
   obtain ⟨v6, hv6, h⟩ := ob h
   refine ae (AEff.conv (w_call0K (x := .agg [.int v6.p, .int v6.q.n, .own 9 0 (List.map eI v6.q.src).length, .own 10 0 (List.map eI v6.q.tgt).length, .own 11 0 (List.map eI v6.dims).length, .own 12 0 (List.map eM v6.maps).length]) (nb := [(9, ⟨1, absEs (List.map eI v6.q.src)⟩), (10, ⟨1, absEs (List.map eI v6.q.tgt)⟩), (11, ⟨1, absEs (List.map eI v6.dims)⟩), (12, ⟨3, absEs (List.map eM v6.maps)⟩)]) (c_spec_l8Copy a1 v6 hv6) k (by rfl) k k (g1_cons trivial (g1_cons trivial (g1_cons (okI.good _) (g1_cons (okI.good _) (g1_cons (okI.good _) (g1_cons (okMt.good _) g1_nil)))))) (vk_cons (.inr (raw_cons (raw1_sc k k) (raw_cons (raw1_sc k k) (raw_cons (raw1_d k r1_2) (raw_cons (raw1_d k r1_3) (raw_cons (raw1_d k r1_4) (raw_cons (raw1_d k r1_5) raw_nil))))))) vk_nil)) (v' := .agg [.int v6.p, .int v6.q.n, .own 9 0 v6.q.src.length, .own 10 0 v6.q.tgt.length, .own 11 0 v6.dims.length, .own 12 0 v6.maps.length]) (ed' := [(9, some ⟨1, List.map (ow eI) v6.q.src⟩), (10, some ⟨1, List.map (ow eI) v6.q.tgt⟩), (11, some ⟨1, List.map (ow eI) v6.dims⟩), (12, some ⟨3, List.map (ow eM) v6.maps⟩)]) (by simp only [len_map]) (ed_ok (nb' := [(9, ⟨1, List.map (ow eI) v6.q.src⟩), (10, ⟨1, List.map (ow eI) v6.q.tgt⟩), (11, ⟨1, List.map (ow eI) v6.dims⟩), (12, ⟨3, List.map (ow eM) v6.maps⟩)]) (by simp only [abs_map]))) k <| am k k <| ae (x_at_own TT_ok (atL_nn hv4) (atL_lt hv4) k k k k k k k) k <| ae (w_load_ptr TT_ok k k k k (set_at (atL_lt hv4)) k k) k <| ae (w_build TT_ok k k k k k k) k <| ae (w_store TT_ok k k k k k k k k) k ?_
   refine aa k k <| an ?_
   refine ⟨by kernel_rfl, ?_⟩
   refine tn <| ac_ret ?_
   obtain rfl := so h
   exact ret_mk k k k (xz_tuple k (xB_cons (xB_agg (x1_cons (k) (x1_cons (k) (x1_cons (k) (x1_cons (x_f1 okI k k) (x1_cons (x_f1 okI k k) (x1_cons (x_f1 okI k k) (x1_cons (x_f1 okMt k k) (x1_cons (k) (x1_cons (k) (x1_cons (x_f1 okI k k) (x1_cons (x_f1 okI k k) (x1_cons (x_f1 okI k k) (x1_cons (x_f1 okMt k k) (x1_cons (k) (x1_cons (x_f1 okMt k k) (x1_cons (k) (x1_cons (k) (x1_cons (k) x1_nil))))))))))))))))))) (xB_cons (k) xB_nil)))

end Go.Proofs.YtdhjmmnjapkmkaaGreat
end

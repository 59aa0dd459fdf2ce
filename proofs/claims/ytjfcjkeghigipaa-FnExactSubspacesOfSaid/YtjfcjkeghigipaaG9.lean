/-
  Several texts of the claim in one: each begins with its own remark.
-/
import Derived.Test.YtjfcjkeghigipaaG8
section
set_option linter.unusedVariables false
set_option linter.unusedSimpArgs false
/-
  Models and contracts of functions, made by the extractor (ex.py).
-/
namespace Go.Proofs.Ytjfcjkeghigipaa
open Go.RowKit
set_option linter.unusedVariables false
set_option linter.unusedSimpArgs false
set_option maxRecDepth 10000
set_option maxHeartbeats 4000000

noncomputable def m_laws_markIntS_L1  (x1 : ((List Int) × Int × Int)) : Option (((List Int) × Int × Int) ⊕ ((List Int) × Int)) :=
  bif decide (x1.2.2 < ((x1.1.length : Nat) : Int)) then
    (Option.bind (atL x1.1 x1.2.2) fun v2 =>
    some (.inl ((x1.1.set x1.2.2.toNat x1.2.1), wr (x1.2.1 + 1), wr (x1.2.2 + 1))))
  else
    (some (.inr (x1.1, x1.2.1)))

noncomputable def m_laws_markIntS (a0 : (List Int)) (a1 : Int) : Option ((List Int) × Int) :=
  Option.bind (Lp m_laws_markIntS_L1 (a0, a1, 0)) fun y3 =>
  some (y3.1, y3.2)

theorem c_laws_markIntS (a0 : (List Int)) (a1 : Int) (r : ((List Int) × Int)) (h : m_laws_markIntS a0 a1 = some r) : HasE Try.prog 56 [.own 0 0 a0.length, .int a1] [(0, ⟨1, List.map (ow eI) a0⟩)] 1 (.int r.2) [(0, ⟨1, List.map (ow eI) r.1⟩)] := by
  refine hasE_mk TT_ok (rvs := [.tmp 4]) (ns := [1, 2, 3, 4, 5, 6, 7, 8, 9, 10, 11, 12, 13, 14]) Try.func56 rfl rfl Try.ntmps56 rfl rfl ?_
  refine ac_seq ?_
  refine ac_region ?_
  refine aops_eff (eff_assign rfl) rfl rfl rfl ?_
  refine aops_nil ?_
  refine then_n ?_
  refine ac_seq ?_
  refine ac_seq ?_
  refine ac_region ?_
  refine aops_eff (eff_assign rfl) rfl rfl rfl ?_
  refine aops_nil ?_
  refine then_n ?_
  refine ac_block ?_
  obtain ⟨y3, hy3, h⟩ := ob h
  refine ac_Lp (body := m_laws_markIntS_L1) hy3 (fun (x1 : ((List Int) × Int × Int)) => mkS [(0, .own 0 0 x1.1.length), (1, .int x1.2.1), (5, .int x1.2.2)] [(0, ⟨1, List.map (ow eI) x1.1⟩)] 1 [1, 2, 3, 4, 5, 6, 7, 8, 9, 10, 11, 12, 13, 14] 1) (fun r e t => e = .exit 0 ∧ Ent t (mkS [(1, .int r.2)] [(0, ⟨1, List.map (ow eI) r.1⟩)] 1 [1, 2, 3, 4, 5, 6, 7, 8, 9, 10, 11, 12, 13, 14] 1)) (ent_mk (σ := sg [(0, 0)]) ⟨⟨_, rfl, ⟨rfl, rfl, rfl, rfl⟩⟩, ⟨_, rfl, rfl⟩, ⟨_, rfl, rfl⟩, trivial⟩ ⟨⟨_, rfl, rfl, .inl ⟨rfl, okI.plainO _⟩⟩, rfl, trivial⟩ rfl) ?_ ?_
  · intro x1 o h
    refine ac_seq ?_
    refine ac_seq ?_
    refine ac_region ?_
    refine aops_eff (eff_move rfl) rfl rfl rfl ?_
    refine aops_eff (eff_move rfl) rfl rfl rfl ?_
    refine aops_eff (w_len_own TT_ok rfl rfl rfl rfl) rfl rfl rfl ?_
    refine aops_eff (w_cmp rfl rfl rfl) rfl rfl rfl ?_
    refine aops_nil ?_
    refine then_n ?_
    rcases cb h with ⟨q1, h⟩ | ⟨q1, h⟩
    · refine ac_condT rfl q1 ?_
      refine ac_skip ?_
      refine then_n ?_
      refine ac_seq ?_
      refine ac_block ?_
      refine ac_seq ?_
      refine ac_region ?_
      refine aops_eff (eff_move rfl) rfl rfl rfl ?_
      refine aops_eff (eff_move rfl) rfl rfl rfl ?_
      refine aops_eff (eff_move rfl) rfl rfl rfl ?_
      obtain ⟨v2, hv2, h⟩ := ob h
      refine aops_eff (x_at_own TT_ok (atL_nn hv2) (atL_lt hv2) rfl rfl rfl rfl rfl rfl rfl) rfl rfl rfl ?_
      refine aops_eff (x_store TT_ok okIo (u := x1.2.1) (atL_get hv2) rfl rfl rfl rfl rfl rfl) rfl rfl rfl ?_
      refine aops_nil ?_
      refine then_n ?_
      refine ac_region ?_
      refine aops_eff (eff_move rfl) rfl rfl rfl ?_
      refine aops_eff (x_add rfl rfl) rfl rfl rfl ?_
      refine aops_eff (eff_assign rfl) rfl rfl rfl ?_
      refine aops_nil ?_
      refine block_n ?_
      refine then_n ?_
      refine ac_ent (t := mkS [(0, .own 0 0 ((x1.1.set x1.2.2.toNat x1.2.1).length)), (1, .int (wr (x1.2.1 + 1))), (5, .int x1.2.2)] [(0, ⟨1, List.map (ow eI) (x1.1.set x1.2.2.toNat x1.2.1)⟩)] 1 [1, 2, 3, 4, 5, 6, 7, 8, 9, 10, 11, 12, 13, 14] 1) (ent_mk (σ := sg [(0, 0)]) ⟨⟨_, rfl, ⟨rfl, rfl, (by simp only [len_map, List.length_append, List.length_set, List.length_replicate, List.length_cons, List.length_nil]), rfl⟩⟩, ⟨_, rfl, rfl⟩, ⟨_, rfl, rfl⟩, trivial⟩ ⟨⟨_, rfl, rfl, .inl ⟨rfl, okI.plainO _⟩⟩, rfl, trivial⟩ rfl) ?_
      refine ac_region ?_
      refine aops_eff (eff_move rfl) rfl rfl rfl ?_
      refine aops_eff (x_add rfl rfl) rfl rfl rfl ?_
      refine aops_eff (eff_assign rfl) rfl rfl rfl ?_
      refine aops_nil ?_
      refine then_n ?_
      obtain rfl := so h
      exact ⟨_, rfl, (ent_mk (σ := sg [(0, 0)]) ⟨⟨_, rfl, ⟨rfl, rfl, rfl, rfl⟩⟩, ⟨_, rfl, rfl⟩, ⟨_, rfl, rfl⟩, trivial⟩ ⟨⟨_, rfl, rfl, .inl ⟨rfl, okI.plainO _⟩⟩, rfl, trivial⟩ rfl)⟩
    · refine ac_condF rfl q1 ?_
      refine ac_exit ?_
      refine then_exit ?_
      refine then_exit ?_
      obtain rfl := so h
      exact ⟨_, rfl, rfl, (ent_mk (σ := sg [(0, 0)]) ⟨⟨_, rfl, rfl⟩, trivial⟩ ⟨⟨_, rfl, rfl, .inl ⟨rfl, okI.plainO _⟩⟩, rfl, trivial⟩ rfl)⟩
  · rintro e t ⟨rfl, hent⟩
    refine block_here ?_
    refine then_n ?_
    refine ac_ent hent ?_
    refine ac_seq ?_
    refine ac_region ?_
    refine aops_eff (eff_move rfl) rfl rfl rfl ?_
    refine aops_eff (eff_assign rfl) rfl rfl rfl ?_
    refine aops_nil ?_
    refine then_n ?_
    refine ac_ret ?_
    obtain rfl := so h
    exact ⟨mkS [(4, .int y3.2)] [(0, ⟨1, List.map (ow eI) y3.1⟩)] 1 [1, 2, 3, 4, 5, 6, 7, 8, 9, 10, 11, 12, 13, 14] 1, (ent_mk (σ := sg [(0, 0)]) ⟨⟨_, rfl, rfl⟩, trivial⟩ ⟨⟨_, rfl, rfl, .inl ⟨rfl, okI.plainO _⟩⟩, rfl, trivial⟩ rfl), rfl, ⟨_, rfl, .inl rfl⟩, ⟨rfl, trivial⟩⟩

noncomputable def m_laws_markIntSS_L1  (x1 : ((List (List Int)) × Int × Int)) : Option (((List (List Int)) × Int × Int) ⊕ ((List (List Int)) × Int)) :=
  bif decide (x1.2.2 < ((x1.1.length : Nat) : Int)) then
    (Option.bind (atL x1.1 x1.2.2) fun v2 =>
    Option.bind (m_laws_markIntS v2 x1.2.1) fun v3 =>
    bif decide (v3.1.length = v2.length) then
      (some (.inl ((x1.1.set x1.2.2.toNat v3.1), v3.2, wr (x1.2.2 + 1))))
    else none)
  else
    (some (.inr (x1.1, x1.2.1)))

noncomputable def m_laws_markIntSS (a0 : (List (List Int))) (a1 : Int) : Option ((List (List Int)) × Int) :=
  Option.bind (Lp m_laws_markIntSS_L1 (a0, a1, 0)) fun y5 =>
  some (y5.1, y5.2)

theorem c_laws_markIntSS (a0 : (List (List Int))) (a1 : Int) (r : ((List (List Int)) × Int)) (h : m_laws_markIntSS a0 a1 = some r) : HasT Try.prog 58 [.own 0 0 a0.length, .int a1] [(0, ⟨1, List.map (ow (eLs 1 eI)) a0⟩)] 1 (.int r.2) [(0, ⟨1, List.map (ow (eLs 1 eI)) r.1⟩)] := by
  refine hasT_mk TT_ok (rvs := [.tmp 4]) (ns := [1, 2, 3, 4, 5, 6, 7, 8, 9, 10, 11, 12, 13, 14]) Try.func58 rfl rfl Try.ntmps58 rfl rfl ?_
  refine ac_seq ?_
  refine ac_regionS ?_
  refine sops_eff (eff_assign rfl) rfl rfl rfl ?_
  refine sops_nil ?_
  refine then_n ?_
  refine ac_seq ?_
  refine ac_seq ?_
  refine ac_regionS ?_
  refine sops_eff (eff_assign rfl) rfl rfl rfl ?_
  refine sops_nil ?_
  refine then_n ?_
  refine ac_block ?_
  obtain ⟨y5, hy5, h⟩ := ob h
  refine ac_Lp (body := m_laws_markIntSS_L1) hy5 (fun (x1 : ((List (List Int)) × Int × Int)) => mkS [(0, .own 0 0 x1.1.length), (1, .int x1.2.1), (5, .int x1.2.2)] [(0, ⟨1, List.map (ow (eLs 1 eI)) x1.1⟩)] 1 [1, 2, 3, 4, 5, 6, 7, 8, 9, 10, 11, 12, 13, 14] ⟨1, true, none⟩) (fun r e t => e = .exit 0 ∧ Ent t (mkS [(1, .int r.2)] [(0, ⟨1, List.map (ow (eLs 1 eI)) r.1⟩)] 1 [1, 2, 3, 4, 5, 6, 7, 8, 9, 10, 11, 12, 13, 14] ⟨1, true, none⟩)) (ent_mk (σ := sg [(0, 0)]) ⟨⟨_, rfl, ⟨rfl, rfl, rfl, rfl⟩⟩, ⟨_, rfl, rfl⟩, ⟨_, rfl, rfl⟩, trivial⟩ ⟨⟨_, rfl, rfl, .inl ⟨rfl, okLs.plainO _⟩⟩, rfl, trivial⟩ rfl) ?_ ?_
  · intro x1 o h
    refine ac_seq ?_
    refine ac_seq ?_
    refine ac_regionS ?_
    refine sops_eff (eff_move rfl) rfl rfl rfl ?_
    refine sops_eff (eff_move rfl) rfl rfl rfl ?_
    refine sops_eff (w_len_own TT_ok rfl rfl rfl rfl) rfl rfl rfl ?_
    refine sops_eff (w_cmp rfl rfl rfl) rfl rfl rfl ?_
    refine sops_nil ?_
    refine then_n ?_
    rcases cb h with ⟨q1, h⟩ | ⟨q1, h⟩
    · refine ac_condT rfl q1 ?_
      refine ac_skip ?_
      refine then_n ?_
      refine ac_seq ?_
      refine ac_block ?_
      refine ac_regionS ?_
      refine sops_eff (eff_move rfl) rfl rfl rfl ?_
      refine sops_eff (eff_move rfl) rfl rfl rfl ?_
      obtain ⟨v2, hv2, h⟩ := ob h
      refine sops_ent (t := mkS [(0, .own 0 0 x1.1.length), (1, .int x1.2.1), (5, .int x1.2.2), (6, .int x1.2.2), (7, .own 0 0 x1.1.length), (8, .int ((x1.1.length : Nat) : Int)), (9, .bl (decide (x1.2.2 < ((x1.1.length : Nat) : Int)))), (12, .own 0 0 x1.1.length), (13, .int x1.2.2)] [(0, ⟨1, (List.map (ow (eLs 1 eI)) x1.1).set x1.2.2.toNat [.abs 1 (List.map eI v2)]⟩)] 1 [1, 2, 3, 4, 5, 6, 7, 8, 9, 10, 11, 12, 13, 14] ⟨1, true, none⟩) (ent_mk (σ := sg [(0, 0)]) ⟨⟨_, rfl, ⟨rfl, rfl, rfl, rfl⟩⟩, ⟨_, rfl, rfl⟩, ⟨_, rfl, rfl⟩, ⟨_, rfl, rfl⟩, ⟨_, rfl, ⟨rfl, rfl, rfl, rfl⟩⟩, ⟨_, rfl, rfl⟩, ⟨_, rfl, rfl⟩, ⟨_, rfl, ⟨rfl, rfl, rfl, rfl⟩⟩, ⟨_, rfl, rfl⟩, trivial⟩ ⟨⟨_, rfl, rfl, .inl ⟨open_row (atL_get hv2), set_plain okLs rfl⟩⟩, rfl, trivial⟩ rfl) ?_
      refine sops_ent (ent_openS (b := 0) (c := 1) (i := x1.2.2.toNat) (j := 0) (n := v2.length) (A := List.map (ow (eLs 1 eI)) x1.1) (fs := List.map (ow eI) v2) (by rw [List.length_map]; exact atL_lt hv2) rfl rfl rfl rfl (len_map _ _) (abs_map _ _) (dfE_ok ⟨rfl, rfl, rfl, rfl, rfl, rfl, rfl, rfl, rfl, trivial⟩) (dfH_ok (skip := []) ⟨.inr (okLs.dfS _ _ _ rfl), trivial⟩)) ?_
      refine sops_ent (t := mkS [(0, .own 0 0 x1.1.length), (1, .int x1.2.1), (5, .int x1.2.2), (6, .int x1.2.2), (7, .own 0 0 x1.1.length), (8, .int ((x1.1.length : Nat) : Int)), (9, .bl (decide (x1.2.2 < ((x1.1.length : Nat) : Int)))), (12, .own 0 0 x1.1.length), (13, .int x1.2.2)] [(0, ⟨1, (List.map (ow (eLs 1 eI)) x1.1).set x1.2.2.toNat [.own 1 0 v2.length]⟩), (1, ⟨1, List.map (ow eI) v2⟩)] 2 [2, 3, 4, 5, 6, 7, 8, 9, 10, 11, 12, 13, 14, 15] ⟨1, true, none⟩) (ent_mk (σ := sg [(0, 0), (1, 1)]) ⟨⟨_, rfl, ⟨rfl, rfl, rfl, rfl⟩⟩, ⟨_, rfl, rfl⟩, ⟨_, rfl, rfl⟩, ⟨_, rfl, rfl⟩, ⟨_, rfl, ⟨rfl, rfl, rfl, rfl⟩⟩, ⟨_, rfl, rfl⟩, ⟨_, rfl, rfl⟩, ⟨_, rfl, ⟨rfl, rfl, rfl, rfl⟩⟩, ⟨_, rfl, rfl⟩, trivial⟩ ⟨⟨_, rfl, rfl, .inr (ent_set (σ := sg [(0, 0), (1, 1)]) (m := 2) (e := (eLs 1 eI)) (l := x1.1) (i := x1.2.2.toNat) (c := [.own 1 0 v2.length]) (d := [.own 1 0 v2.length]) okLs ⟨_, _, rfl, ⟨rfl, rfl, rfl, rfl⟩, rfl⟩)⟩, rfl, ⟨_, rfl, rfl, .inl ⟨rfl, okI.plainO _⟩⟩, rfl, trivial⟩ rfl) ?_
      refine sops_eff (x_at_own TT_ok (atL_nn hv2) (atL_lt hv2) rfl rfl rfl rfl rfl rfl rfl) rfl rfl rfl ?_
      refine sops_eff (w_load_ptr TT_ok rfl rfl rfl rfl (set_at (atL_lt hv2)) rfl rfl) rfl rfl rfl ?_
      refine sops_eff (eff_move rfl) rfl rfl rfl ?_
      obtain ⟨v3, hv3, h⟩ := ob h
      refine sops_eff (eff_hasE (σ := sg [(0, 1)]) (σ' := sg [(1, 0)]) (touch := [1]) (news := []) (hl2 := [(1, ⟨1, List.map (ow eI) v3.1⟩)]) (n' := 2) (r2 := .int v3.2) (c_laws_markIntS v2 x1.2.1 v3 hv3) rfl rfl ⟨_, _, rfl, ⟨rfl, rfl, rfl, rfl⟩, ⟨_, _, rfl, rfl, rfl⟩⟩ ⟨⟨_, rfl, rfl, .inl ⟨rfl, okI.plainO _⟩⟩, rfl, trivial⟩ rfl rfl rfl ⟨⟨_, rfl, rfl, .inl ⟨rfl, okI.plainO _⟩⟩, rfl, trivial⟩ rfl rfl rfl ⟨rfl, okI.tame _ _, trivial⟩ rfl rfl) rfl rfl rfl ?_
      obtain ⟨q4, h⟩ := cg h
      refine sops_eff (eff_assign rfl) rfl rfl rfl ?_
      refine sops_nil ?_
      refine block_n ?_
      refine then_n ?_
      refine ac_regionS ?_
      refine sops_eff (eff_move rfl) rfl rfl rfl ?_
      refine sops_eff (x_add rfl rfl) rfl rfl rfl ?_
      refine sops_eff (eff_assign rfl) rfl rfl rfl ?_
      refine sops_nil ?_
      refine then_n ?_
      obtain rfl := so h
      exact ⟨_, rfl, (Ent.trans (show Ent _ (mkS [(0, .own 0 0 ((x1.1.set x1.2.2.toNat v3.1).length)), (1, .int v3.2), (5, .int (wr (x1.2.2 + 1)))] [(0, ⟨1, List.map (ow (eLs 1 eI)) (x1.1.set x1.2.2.toNat v3.1)⟩)] 2 [2, 3, 4, 5, 6, 7, 8, 9, 10, 11, 12, 13, 14, 15] ⟨1, true, none⟩) from (Ent.trans (ent_absS (b := 0) (b' := 1) (j := 0) (es' := List.map eI v3.1) (by rw [List.length_map]; exact atL_lt hv2) rfl rfl rfl rfl (by simp only [len_map, List.length_append, List.length_set, List.length_replicate, List.length_cons, List.length_nil, of_decide_eq_true q4]) (okI.frzs _)) (ent_mk (σ := sg [(0, 0)]) ⟨⟨_, rfl, ⟨rfl, rfl, (by simp only [len_map, List.length_append, List.length_set, List.length_replicate, List.length_cons, List.length_nil, of_decide_eq_true q4]), rfl⟩⟩, ⟨_, rfl, rfl⟩, ⟨_, rfl, rfl⟩, trivial⟩ ⟨⟨_, rfl, rfl, .inl ⟨set_eq v3.1 rfl, okLs.plainO _⟩⟩, rfl, trivial⟩ rfl))) (ent_mk (σ := sg [(0, 0)]) ⟨⟨_, rfl, ⟨rfl, rfl, rfl, rfl⟩⟩, ⟨_, rfl, rfl⟩, ⟨_, rfl, rfl⟩, trivial⟩ ⟨⟨_, rfl, rfl, .inl ⟨rfl, okLs.plainO _⟩⟩, rfl, trivial⟩ rfl))⟩
    · refine ac_condF rfl q1 ?_
      refine ac_exit ?_
      refine then_exit ?_
      refine then_exit ?_
      obtain rfl := so h
      exact ⟨_, rfl, rfl, (ent_mk (σ := sg [(0, 0)]) ⟨⟨_, rfl, rfl⟩, trivial⟩ ⟨⟨_, rfl, rfl, .inl ⟨rfl, okLs.plainO _⟩⟩, rfl, trivial⟩ rfl)⟩
  · rintro e t ⟨rfl, hent⟩
    refine block_here ?_
    refine then_n ?_
    refine ac_ent hent ?_
    refine ac_seq ?_
    refine ac_regionS ?_
    refine sops_eff (eff_move rfl) rfl rfl rfl ?_
    refine sops_eff (eff_assign rfl) rfl rfl rfl ?_
    refine sops_nil ?_
    refine then_n ?_
    refine ac_ret ?_
    obtain rfl := so h
    exact ⟨mkS [(4, .int y5.2)] [(0, ⟨1, List.map (ow (eLs 1 eI)) y5.1⟩)] 1 [1, 2, 3, 4, 5, 6, 7, 8, 9, 10, 11, 12, 13, 14] ⟨1, true, none⟩, (ent_mk (σ := sg [(0, 0)]) ⟨⟨_, rfl, rfl⟩, trivial⟩ ⟨⟨_, rfl, rfl, .inl ⟨rfl, okLs.plainO _⟩⟩, rfl, trivial⟩ rfl), rfl, ⟨_, rfl, .inl rfl⟩, ⟨rfl, trivial⟩⟩

noncomputable def m_laws_markSpaceS_L1  (x1 : ((List Sc) × Int × Int)) : Option (((List Sc) × Int × Int) ⊕ ((List Sc) × Int)) :=
  bif decide (x1.2.2 < ((x1.1.length : Nat) : Int)) then
    (Option.bind (atL x1.1 x1.2.2) fun v2 =>
    Option.bind (m_laws_markIntSS v2.basis (wr (x1.2.1 + 1))) fun v3 =>
    bif decide (v3.1.length = v2.basis.length) then
      (some (.inl ((x1.1.set x1.2.2.toNat (⟨x1.2.1, v3.1⟩ : Sc)), v3.2, wr (x1.2.2 + 1))))
    else none)
  else
    (some (.inr (x1.1, x1.2.1)))

noncomputable def m_laws_markSpaceS (a0 : (List Sc)) (a1 : Int) : Option ((List Sc) × Int) :=
  Option.bind (Lp m_laws_markSpaceS_L1 (a0, a1, 0)) fun y5 =>
  some (y5.1, y5.2)

theorem c_laws_markSpaceS (a0 : (List Sc)) (a1 : Int) (r : ((List Sc) × Int)) (h : m_laws_markSpaceS a0 a1 = some r) : HasT Try.prog 17 [.own 0 0 a0.length, .int a1] [(0, ⟨2, List.map (ow eS) a0⟩)] 1 (.int r.2) [(0, ⟨2, List.map (ow eS) r.1⟩)] := by
  refine hasT_mk TT_ok (rvs := [.tmp 4]) (ns := [1, 2, 3, 4, 5, 6, 7, 8, 9, 10, 11, 12, 13, 14]) Try.func17 rfl rfl Try.ntmps17 rfl rfl ?_
  refine ac_seq ?_
  refine ac_regionS ?_
  refine sops_eff (eff_assign rfl) rfl rfl rfl ?_
  refine sops_nil ?_
  refine then_n ?_
  refine ac_seq ?_
  refine ac_seq ?_
  refine ac_regionS ?_
  refine sops_eff (eff_assign rfl) rfl rfl rfl ?_
  refine sops_nil ?_
  refine then_n ?_
  refine ac_block ?_
  obtain ⟨y5, hy5, h⟩ := ob h
  refine ac_Lp (body := m_laws_markSpaceS_L1) hy5 (fun (x1 : ((List Sc) × Int × Int)) => mkS [(0, .own 0 0 x1.1.length), (1, .int x1.2.1), (5, .int x1.2.2)] [(0, ⟨2, List.map (ow eS) x1.1⟩)] 1 [1, 2, 3, 4, 5, 6, 7, 8, 9, 10, 11, 12, 13, 14] ⟨1, true, none⟩) (fun r e t => e = .exit 0 ∧ Ent t (mkS [(1, .int r.2)] [(0, ⟨2, List.map (ow eS) r.1⟩)] 1 [1, 2, 3, 4, 5, 6, 7, 8, 9, 10, 11, 12, 13, 14] ⟨1, true, none⟩)) (ent_mk (σ := sg [(0, 0)]) ⟨⟨_, rfl, ⟨rfl, rfl, rfl, rfl⟩⟩, ⟨_, rfl, rfl⟩, ⟨_, rfl, rfl⟩, trivial⟩ ⟨⟨_, rfl, rfl, .inl ⟨rfl, okSc.plainO _⟩⟩, rfl, trivial⟩ rfl) ?_ ?_
  · intro x1 o h
    refine ac_seq ?_
    refine ac_seq ?_
    refine ac_regionS ?_
    refine sops_eff (eff_move rfl) rfl rfl rfl ?_
    refine sops_eff (eff_move rfl) rfl rfl rfl ?_
    refine sops_eff (w_len_own TT_ok rfl rfl rfl rfl) rfl rfl rfl ?_
    refine sops_eff (w_cmp rfl rfl rfl) rfl rfl rfl ?_
    refine sops_nil ?_
    refine then_n ?_
    rcases cb h with ⟨q1, h⟩ | ⟨q1, h⟩
    · refine ac_condT rfl q1 ?_
      refine ac_skip ?_
      refine then_n ?_
      refine ac_seq ?_
      refine ac_block ?_
      refine ac_seq ?_
      refine ac_regionS ?_
      refine sops_eff (eff_move rfl) rfl rfl rfl ?_
      refine sops_eff (eff_move rfl) rfl rfl rfl ?_
      refine sops_eff (eff_move rfl) rfl rfl rfl ?_
      obtain ⟨v2, hv2, h⟩ := ob h
      refine sops_ent (t := mkS [(0, .own 0 0 x1.1.length), (1, .int x1.2.1), (5, .int x1.2.2), (6, .int x1.2.2), (7, .own 0 0 x1.1.length), (8, .int ((x1.1.length : Nat) : Int)), (9, .bl (decide (x1.2.2 < ((x1.1.length : Nat) : Int)))), (12, .own 0 0 x1.1.length), (13, .int x1.2.2), (14, .int x1.2.1)] [(0, ⟨2, (List.map (ow eS) x1.1).set x1.2.2.toNat [.int v2.size, .abs 1 (List.map (eLs 1 eI) v2.basis)]⟩)] 1 [1, 2, 3, 4, 5, 6, 7, 8, 9, 10, 11, 12, 13, 14] ⟨1, true, none⟩) (ent_mk (σ := sg [(0, 0)]) ⟨⟨_, rfl, ⟨rfl, rfl, rfl, rfl⟩⟩, ⟨_, rfl, rfl⟩, ⟨_, rfl, rfl⟩, ⟨_, rfl, rfl⟩, ⟨_, rfl, ⟨rfl, rfl, rfl, rfl⟩⟩, ⟨_, rfl, rfl⟩, ⟨_, rfl, rfl⟩, ⟨_, rfl, ⟨rfl, rfl, rfl, rfl⟩⟩, ⟨_, rfl, rfl⟩, ⟨_, rfl, rfl⟩, trivial⟩ ⟨⟨_, rfl, rfl, .inl ⟨open_row (atL_get hv2), set_plain okSc rfl⟩⟩, rfl, trivial⟩ rfl) ?_
      refine sops_ent (ent_openS (b := 0) (c := 1) (i := x1.2.2.toNat) (j := 1) (n := v2.basis.length) (A := List.map (ow eS) x1.1) (fs := List.map (ow (eLs 1 eI)) v2.basis) (by rw [List.length_map]; exact atL_lt hv2) rfl rfl rfl rfl (len_map _ _) (abs_map _ _) (dfE_ok ⟨rfl, rfl, rfl, rfl, rfl, rfl, rfl, rfl, rfl, rfl, trivial⟩) (dfH_ok (skip := []) ⟨.inr (okSc.dfS _ _ _ rfl), trivial⟩)) ?_
      refine sops_ent (t := mkS [(0, .own 0 0 x1.1.length), (1, .int x1.2.1), (5, .int x1.2.2), (6, .int x1.2.2), (7, .own 0 0 x1.1.length), (8, .int ((x1.1.length : Nat) : Int)), (9, .bl (decide (x1.2.2 < ((x1.1.length : Nat) : Int)))), (12, .own 0 0 x1.1.length), (13, .int x1.2.2), (14, .int x1.2.1)] [(0, ⟨2, (List.map (ow eS) x1.1).set x1.2.2.toNat [.int v2.size, .own 1 0 v2.basis.length]⟩), (1, ⟨1, List.map (ow (eLs 1 eI)) v2.basis⟩)] 2 [2, 3, 4, 5, 6, 7, 8, 9, 10, 11, 12, 13, 14, 15] ⟨1, true, none⟩) (ent_mk (σ := sg [(0, 0), (1, 1)]) ⟨⟨_, rfl, ⟨rfl, rfl, rfl, rfl⟩⟩, ⟨_, rfl, rfl⟩, ⟨_, rfl, rfl⟩, ⟨_, rfl, rfl⟩, ⟨_, rfl, ⟨rfl, rfl, rfl, rfl⟩⟩, ⟨_, rfl, rfl⟩, ⟨_, rfl, rfl⟩, ⟨_, rfl, ⟨rfl, rfl, rfl, rfl⟩⟩, ⟨_, rfl, rfl⟩, ⟨_, rfl, rfl⟩, trivial⟩ ⟨⟨_, rfl, rfl, .inr (ent_set (σ := sg [(0, 0), (1, 1)]) (m := 2) (e := eS) (l := x1.1) (i := x1.2.2.toNat) (c := [.int v2.size, .own 1 0 v2.basis.length]) (d := [.int v2.size, .own 1 0 v2.basis.length]) okSc ⟨_, _, rfl, rfl, ⟨_, _, rfl, ⟨rfl, rfl, rfl, rfl⟩, rfl⟩⟩)⟩, rfl, ⟨_, rfl, rfl, .inl ⟨rfl, okLs.plainO _⟩⟩, rfl, trivial⟩ rfl) ?_
      refine sops_eff (x_at_own TT_ok (atL_nn hv2) (atL_lt hv2) rfl rfl rfl rfl rfl rfl rfl) rfl rfl rfl ?_
      refine sops_eff (w_field_ptr TT_ok rfl rfl rfl rfl rfl rfl rfl) rfl rfl rfl ?_
      refine sops_eff (x_storeS TT_ok (A := List.map (ow eS) x1.1) (by rw [List.length_map]; exact atL_lt hv2) rfl rfl rfl rfl rfl rfl rfl) rfl rfl rfl ?_
      refine sops_nil ?_
      refine then_n ?_
      refine ac_seq ?_
      refine ac_regionS ?_
      refine sops_eff (eff_move rfl) rfl rfl rfl ?_
      refine sops_eff (x_add rfl rfl) rfl rfl rfl ?_
      refine sops_eff (eff_assign rfl) rfl rfl rfl ?_
      refine sops_nil ?_
      refine then_n ?_
      refine ac_regionS ?_
      refine sops_eff (eff_move rfl) rfl rfl rfl ?_
      refine sops_eff (eff_move rfl) rfl rfl rfl ?_
      refine sops_eff (x_at_own TT_ok (atL_nn hv2) (atL_lt hv2) rfl rfl rfl rfl rfl rfl rfl) rfl rfl rfl ?_
      refine sops_eff (w_field_ptr TT_ok rfl rfl rfl rfl rfl rfl rfl) rfl rfl rfl ?_
      refine sops_eff (w_load_ptr TT_ok rfl rfl rfl rfl (set_at (atL_lt hv2)) rfl rfl) rfl rfl rfl ?_
      refine sops_eff (eff_move rfl) rfl rfl rfl ?_
      obtain ⟨v3, hv3, h⟩ := ob h
      refine sops_ent (t := mkS [(0, .own 0 0 x1.1.length), (1, .int (wr (x1.2.1 + 1))), (5, .int x1.2.2), (6, .int x1.2.2), (7, .own 0 0 x1.1.length), (8, .int ((x1.1.length : Nat) : Int)), (9, .bl (decide (x1.2.2 < ((x1.1.length : Nat) : Int)))), (12, .own 0 0 x1.1.length), (13, .int x1.2.2), (14, .int x1.2.1), (15, .ptr 0 x1.2.2.toNat 0), (16, .ptr 0 x1.2.2.toNat 0), (17, .int x1.2.1), (18, .int (wr (x1.2.1 + 1))), (19, .own 0 0 x1.1.length), (20, .int x1.2.2), (21, .ptr 0 x1.2.2.toNat 0), (22, .ptr 0 x1.2.2.toNat 1), (23, .own 1 0 v2.basis.length), (24, .int (wr (x1.2.1 + 1)))] [(0, ⟨2, (List.map (ow eS) x1.1).set x1.2.2.toNat [.int x1.2.1, .own 1 0 v2.basis.length]⟩), (1, ⟨1, List.map (ow (eLs 1 eI)) v2.basis⟩)] 2 [2, 3, 4, 5, 6, 7, 8, 9, 10, 11, 12, 13, 14, 15] ⟨1, true, none⟩) (ent_mk (σ := sg [(0, 0), (1, 1)]) ⟨⟨_, rfl, ⟨rfl, rfl, rfl, rfl⟩⟩, ⟨_, rfl, rfl⟩, ⟨_, rfl, rfl⟩, ⟨_, rfl, rfl⟩, ⟨_, rfl, ⟨rfl, rfl, rfl, rfl⟩⟩, ⟨_, rfl, rfl⟩, ⟨_, rfl, rfl⟩, ⟨_, rfl, ⟨rfl, rfl, rfl, rfl⟩⟩, ⟨_, rfl, rfl⟩, ⟨_, rfl, rfl⟩, ⟨_, rfl, ⟨rfl, rfl, rfl, rfl⟩⟩, ⟨_, rfl, ⟨rfl, rfl, rfl, rfl⟩⟩, ⟨_, rfl, rfl⟩, ⟨_, rfl, rfl⟩, ⟨_, rfl, ⟨rfl, rfl, rfl, rfl⟩⟩, ⟨_, rfl, rfl⟩, ⟨_, rfl, ⟨rfl, rfl, rfl, rfl⟩⟩, ⟨_, rfl, ⟨rfl, rfl, rfl, rfl⟩⟩, ⟨_, rfl, ⟨rfl, rfl, rfl, rfl⟩⟩, ⟨_, rfl, rfl⟩, trivial⟩ ⟨⟨_, rfl, rfl, .inr (ent_set (σ := sg [(0, 0), (1, 1)]) (m := 2) (e := eS) (l := x1.1) (i := x1.2.2.toNat) (c := [.int x1.2.1, .own 1 0 v2.basis.length]) (d := [.int x1.2.1, .own 1 0 v2.basis.length]) okSc ⟨_, _, rfl, rfl, ⟨_, _, rfl, ⟨rfl, rfl, rfl, rfl⟩, rfl⟩⟩)⟩, rfl, ⟨_, rfl, rfl, .inl ⟨rfl, okLs.plainO _⟩⟩, rfl, trivial⟩ rfl) ?_
      refine sops_T (σ := sg [(0, 1)]) (σ' := sg [(1, 0)]) (touch := [1]) (news := []) (hl2 := [(1, ⟨1, List.map (ow (eLs 1 eI)) v3.1⟩)]) (n' := 2) (r2 := .int v3.2) (c_laws_markIntSS v2.basis (wr (x1.2.1 + 1)) v3 hv3) rfl rfl ⟨_, _, rfl, ⟨rfl, rfl, rfl, rfl⟩, ⟨_, _, rfl, rfl, rfl⟩⟩ ⟨⟨_, rfl, rfl, .inl ⟨rfl, okLs.plainO _⟩⟩, rfl, trivial⟩ rfl rfl rfl ⟨⟨_, rfl, rfl, .inl ⟨rfl, okLs.plainO _⟩⟩, rfl, trivial⟩ rfl rfl rfl ⟨rfl, okLs.tame _ _, trivial⟩ rfl rfl rfl rfl rfl (dfE_ok ⟨rfl, rfl, rfl, rfl, rfl, rfl, rfl, rfl, rfl, rfl, rfl, rfl, rfl, rfl, rfl, rfl, rfl, rfl, rfl, rfl, trivial⟩) (dfH_ok (skip := [1]) ⟨.inr (okSc.dfS _ _ _ rfl), .inl (by decide), trivial⟩) ?_
      obtain ⟨q4, h⟩ := cg h
      refine sops_eff (eff_assign rfl) rfl rfl rfl ?_
      refine sops_nil ?_
      refine block_n ?_
      refine then_n ?_
      refine ac_regionS ?_
      refine sops_eff (eff_move rfl) rfl rfl rfl ?_
      refine sops_eff (x_add rfl rfl) rfl rfl rfl ?_
      refine sops_eff (eff_assign rfl) rfl rfl rfl ?_
      refine sops_nil ?_
      refine then_n ?_
      obtain rfl := so h
      exact ⟨_, rfl, (Ent.trans (show Ent _ (mkS [(0, .own 0 0 ((x1.1.set x1.2.2.toNat (⟨x1.2.1, v3.1⟩ : Sc)).length)), (1, .int v3.2), (5, .int (wr (x1.2.2 + 1)))] [(0, ⟨2, List.map (ow eS) (x1.1.set x1.2.2.toNat (⟨x1.2.1, v3.1⟩ : Sc))⟩)] 2 [2, 3, 4, 5, 6, 7, 8, 9, 10, 11, 12, 13, 14, 15] ⟨1, true, none⟩) from (Ent.trans (ent_absS (b := 0) (b' := 1) (j := 1) (es' := List.map (eLs 1 eI) v3.1) (by rw [List.length_map]; exact atL_lt hv2) rfl rfl rfl rfl (by simp only [len_map, List.length_append, List.length_set, List.length_replicate, List.length_cons, List.length_nil, of_decide_eq_true q4]) (okLs.frzs _)) (ent_mk (σ := sg [(0, 0)]) ⟨⟨_, rfl, ⟨rfl, rfl, (by simp only [len_map, List.length_append, List.length_set, List.length_replicate, List.length_cons, List.length_nil, of_decide_eq_true q4]), rfl⟩⟩, ⟨_, rfl, rfl⟩, ⟨_, rfl, rfl⟩, trivial⟩ ⟨⟨_, rfl, rfl, .inl ⟨set_eq (⟨x1.2.1, v3.1⟩ : Sc) rfl, okSc.plainO _⟩⟩, rfl, trivial⟩ rfl))) (ent_mk (σ := sg [(0, 0)]) ⟨⟨_, rfl, ⟨rfl, rfl, rfl, rfl⟩⟩, ⟨_, rfl, rfl⟩, ⟨_, rfl, rfl⟩, trivial⟩ ⟨⟨_, rfl, rfl, .inl ⟨rfl, okSc.plainO _⟩⟩, rfl, trivial⟩ rfl))⟩
    · refine ac_condF rfl q1 ?_
      refine ac_exit ?_
      refine then_exit ?_
      refine then_exit ?_
      obtain rfl := so h
      exact ⟨_, rfl, rfl, (ent_mk (σ := sg [(0, 0)]) ⟨⟨_, rfl, rfl⟩, trivial⟩ ⟨⟨_, rfl, rfl, .inl ⟨rfl, okSc.plainO _⟩⟩, rfl, trivial⟩ rfl)⟩
  · rintro e t ⟨rfl, hent⟩
    refine block_here ?_
    refine then_n ?_
    refine ac_ent hent ?_
    refine ac_seq ?_
    refine ac_regionS ?_
    refine sops_eff (eff_move rfl) rfl rfl rfl ?_
    refine sops_eff (eff_assign rfl) rfl rfl rfl ?_
    refine sops_nil ?_
    refine then_n ?_
    refine ac_ret ?_
    obtain rfl := so h
    exact ⟨mkS [(4, .int y5.2)] [(0, ⟨2, List.map (ow eS) y5.1⟩)] 1 [1, 2, 3, 4, 5, 6, 7, 8, 9, 10, 11, 12, 13, 14] ⟨1, true, none⟩, (ent_mk (σ := sg [(0, 0)]) ⟨⟨_, rfl, rfl⟩, trivial⟩ ⟨⟨_, rfl, rfl, .inl ⟨rfl, okSc.plainO _⟩⟩, rfl, trivial⟩ rfl), rfl, ⟨_, rfl, .inl rfl⟩, ⟨rfl, trivial⟩⟩

noncomputable def m_laws_markQuiver (a0 : Qv) (a1 : Int) : Option ((List Int) × (List Int) × Int) :=
  Option.bind (m_laws_markIntS a0.src a1) fun v1 =>
  bif decide (v1.1.length = a0.src.length) then
    (Option.bind (m_laws_markIntS a0.tgt v1.2) fun v3 =>
    bif decide (v3.1.length = a0.tgt.length) then
      (some (v1.1, v3.1, v3.2))
    else none)
  else none

theorem c_laws_markQuiver (a0 : Qv) (a1 : Int) (r : ((List Int) × (List Int) × Int)) (h : m_laws_markQuiver a0 a1 = some r) : HasE Try.prog 55 [.agg [.int a0.n, .own 0 0 a0.src.length, .own 1 0 a0.tgt.length], .int a1] [(0, ⟨1, List.map (ow eI) a0.src⟩), (1, ⟨1, List.map (ow eI) a0.tgt⟩)] 2 (.int r.2.2) [(0, ⟨1, List.map (ow eI) r.1⟩), (1, ⟨1, List.map (ow eI) r.2.1⟩)] := by
  refine hasE_mk TT_ok (rvs := [.tmp 4]) (ns := [2, 3, 4, 5, 6, 7, 8, 9, 10, 11, 12, 13, 14, 15]) Try.func55 rfl rfl Try.ntmps55 rfl rfl ?_
  refine ac_seq ?_
  refine ac_region ?_
  refine aops_eff (w_box rfl rfl rfl rfl) rfl rfl rfl ?_
  refine aops_eff (eff_assign rfl) rfl rfl rfl ?_
  refine aops_nil ?_
  refine then_n ?_
  refine ac_seq ?_
  refine ac_region ?_
  refine aops_eff (w_field_ptr TT_ok rfl rfl rfl rfl rfl rfl rfl) rfl rfl rfl ?_
  refine aops_eff (w_load_ptr TT_ok rfl rfl rfl rfl rfl rfl rfl) rfl rfl rfl ?_
  refine aops_eff (eff_move rfl) rfl rfl rfl ?_
  obtain ⟨v1, hv1, h⟩ := ob h
  refine aops_eff (eff_hasE (σ := sg [(0, 0)]) (σ' := sg [(0, 0)]) (touch := [0]) (news := []) (hl2 := [(0, ⟨1, List.map (ow eI) v1.1⟩)]) (n' := 3) (r2 := .int v1.2) (c_laws_markIntS a0.src a1 v1 hv1) rfl rfl ⟨_, _, rfl, ⟨rfl, rfl, rfl, rfl⟩, ⟨_, _, rfl, rfl, rfl⟩⟩ ⟨⟨_, rfl, rfl, .inl ⟨rfl, okI.plainO _⟩⟩, rfl, trivial⟩ rfl rfl rfl ⟨⟨_, rfl, rfl, .inl ⟨rfl, okI.plainO _⟩⟩, rfl, trivial⟩ rfl rfl rfl ⟨rfl, okI.tame _ _, trivial⟩ rfl rfl) rfl rfl rfl ?_
  obtain ⟨q2, h⟩ := cg h
  refine aops_eff (eff_assign rfl) rfl rfl rfl ?_
  refine aops_nil ?_
  refine then_n ?_
  refine ac_seq ?_
  refine ac_region ?_
  refine aops_eff (w_field_ptr TT_ok rfl rfl rfl rfl rfl rfl rfl) rfl rfl rfl ?_
  refine aops_eff (w_load_ptr TT_ok rfl rfl rfl rfl rfl rfl rfl) rfl rfl rfl ?_
  refine aops_eff (eff_move rfl) rfl rfl rfl ?_
  obtain ⟨v3, hv3, h⟩ := ob h
  refine aops_eff (eff_hasE (σ := sg [(0, 1)]) (σ' := sg [(1, 0)]) (touch := [1]) (news := []) (hl2 := [(1, ⟨1, List.map (ow eI) v3.1⟩)]) (n' := 3) (r2 := .int v3.2) (c_laws_markIntS a0.tgt v1.2 v3 hv3) rfl rfl ⟨_, _, rfl, ⟨rfl, rfl, rfl, rfl⟩, ⟨_, _, rfl, rfl, rfl⟩⟩ ⟨⟨_, rfl, rfl, .inl ⟨rfl, okI.plainO _⟩⟩, rfl, trivial⟩ rfl rfl rfl ⟨⟨_, rfl, rfl, .inl ⟨rfl, okI.plainO _⟩⟩, rfl, trivial⟩ rfl rfl rfl ⟨rfl, okI.tame _ _, trivial⟩ rfl rfl) rfl rfl rfl ?_
  obtain ⟨q4, h⟩ := cg h
  refine aops_eff (eff_assign rfl) rfl rfl rfl ?_
  refine aops_nil ?_
  refine then_n ?_
  refine ac_ent (t := mkS [(1, .int v3.2)] [(0, ⟨1, List.map (ow eI) v1.1⟩), (1, ⟨1, List.map (ow eI) v3.1⟩)] 3 [3, 4, 5, 6, 7, 8, 9, 10, 11, 12, 13, 14, 15, 16] 2) (ent_mk (σ := sg [(0, 0), (1, 1)]) ⟨⟨_, rfl, rfl⟩, trivial⟩ ⟨⟨_, rfl, rfl, .inl ⟨rfl, okI.plainO _⟩⟩, rfl, ⟨_, rfl, rfl, .inl ⟨rfl, okI.plainO _⟩⟩, rfl, trivial⟩ rfl) ?_
  refine ac_seq ?_
  refine ac_region ?_
  refine aops_eff (eff_move rfl) rfl rfl rfl ?_
  refine aops_eff (eff_assign rfl) rfl rfl rfl ?_
  refine aops_nil ?_
  refine then_n ?_
  refine ac_ret ?_
  obtain rfl := so h
  exact ⟨mkS [(4, .int v3.2)] [(0, ⟨1, List.map (ow eI) v1.1⟩), (1, ⟨1, List.map (ow eI) v3.1⟩)] 2 [2, 3, 4, 5, 6, 7, 8, 9, 10, 11, 12, 13, 14, 15] 2, (ent_mk (σ := sg [(0, 0), (1, 1)]) ⟨⟨_, rfl, rfl⟩, trivial⟩ ⟨⟨_, rfl, rfl, .inl ⟨rfl, okI.plainO _⟩⟩, rfl, ⟨_, rfl, rfl, .inl ⟨rfl, okI.plainO _⟩⟩, rfl, trivial⟩ rfl), rfl, ⟨_, rfl, .inl rfl⟩, ⟨rfl, rfl, trivial⟩⟩

noncomputable def m_laws_markMatrixS_L1  (x1 : ((List Mt) × Int × Int)) : Option (((List Mt) × Int × Int) ⊕ ((List Mt) × Int)) :=
  bif decide (x1.2.2 < ((x1.1.length : Nat) : Int)) then
    (Option.bind (atL x1.1 x1.2.2) fun v2 =>
    Option.bind (m_laws_markIntS v2.cells (wr ((wr (x1.2.1 + 1)) + 1))) fun v3 =>
    bif decide (v3.1.length = v2.cells.length) then
      (some (.inl ((x1.1.set x1.2.2.toNat (⟨x1.2.1, wr (x1.2.1 + 1), v3.1⟩ : Mt)), v3.2, wr (x1.2.2 + 1))))
    else none)
  else
    (some (.inr (x1.1, x1.2.1)))

noncomputable def m_laws_markMatrixS (a0 : (List Mt)) (a1 : Int) : Option ((List Mt) × Int) :=
  Option.bind (Lp m_laws_markMatrixS_L1 (a0, a1, 0)) fun y5 =>
  some (y5.1, y5.2)

theorem c_laws_markMatrixS (a0 : (List Mt)) (a1 : Int) (r : ((List Mt) × Int)) (h : m_laws_markMatrixS a0 a1 = some r) : HasT Try.prog 57 [.own 0 0 a0.length, .int a1] [(0, ⟨3, List.map (ow eM) a0⟩)] 1 (.int r.2) [(0, ⟨3, List.map (ow eM) r.1⟩)] := by
  refine hasT_mk TT_ok (rvs := [.tmp 4]) (ns := [1, 2, 3, 4, 5, 6, 7, 8, 9, 10, 11, 12, 13, 14]) Try.func57 rfl rfl Try.ntmps57 rfl rfl ?_
  refine ac_seq ?_
  refine ac_regionS ?_
  refine sops_eff (eff_assign rfl) rfl rfl rfl ?_
  refine sops_nil ?_
  refine then_n ?_
  refine ac_seq ?_
  refine ac_seq ?_
  refine ac_regionS ?_
  refine sops_eff (eff_assign rfl) rfl rfl rfl ?_
  refine sops_nil ?_
  refine then_n ?_
  refine ac_block ?_
  obtain ⟨y5, hy5, h⟩ := ob h
  refine ac_Lp (body := m_laws_markMatrixS_L1) hy5 (fun (x1 : ((List Mt) × Int × Int)) => mkS [(0, .own 0 0 x1.1.length), (1, .int x1.2.1), (5, .int x1.2.2)] [(0, ⟨3, List.map (ow eM) x1.1⟩)] 1 [1, 2, 3, 4, 5, 6, 7, 8, 9, 10, 11, 12, 13, 14] ⟨1, true, none⟩) (fun r e t => e = .exit 0 ∧ Ent t (mkS [(1, .int r.2)] [(0, ⟨3, List.map (ow eM) r.1⟩)] 1 [1, 2, 3, 4, 5, 6, 7, 8, 9, 10, 11, 12, 13, 14] ⟨1, true, none⟩)) (ent_mk (σ := sg [(0, 0)]) ⟨⟨_, rfl, ⟨rfl, rfl, rfl, rfl⟩⟩, ⟨_, rfl, rfl⟩, ⟨_, rfl, rfl⟩, trivial⟩ ⟨⟨_, rfl, rfl, .inl ⟨rfl, okMt.plainO _⟩⟩, rfl, trivial⟩ rfl) ?_ ?_
  · intro x1 o h
    refine ac_seq ?_
    refine ac_seq ?_
    refine ac_regionS ?_
    refine sops_eff (eff_move rfl) rfl rfl rfl ?_
    refine sops_eff (eff_move rfl) rfl rfl rfl ?_
    refine sops_eff (w_len_own TT_ok rfl rfl rfl rfl) rfl rfl rfl ?_
    refine sops_eff (w_cmp rfl rfl rfl) rfl rfl rfl ?_
    refine sops_nil ?_
    refine then_n ?_
    rcases cb h with ⟨q1, h⟩ | ⟨q1, h⟩
    · refine ac_condT rfl q1 ?_
      refine ac_skip ?_
      refine then_n ?_
      refine ac_seq ?_
      refine ac_block ?_
      refine ac_seq ?_
      refine ac_regionS ?_
      refine sops_eff (eff_move rfl) rfl rfl rfl ?_
      refine sops_eff (eff_move rfl) rfl rfl rfl ?_
      refine sops_eff (eff_move rfl) rfl rfl rfl ?_
      obtain ⟨v2, hv2, h⟩ := ob h
      refine sops_ent (t := mkS [(0, .own 0 0 x1.1.length), (1, .int x1.2.1), (5, .int x1.2.2), (6, .int x1.2.2), (7, .own 0 0 x1.1.length), (8, .int ((x1.1.length : Nat) : Int)), (9, .bl (decide (x1.2.2 < ((x1.1.length : Nat) : Int)))), (12, .own 0 0 x1.1.length), (13, .int x1.2.2), (14, .int x1.2.1)] [(0, ⟨3, (List.map (ow eM) x1.1).set x1.2.2.toNat [.int v2.rows, .int v2.cols, .abs 1 (List.map eI v2.cells)]⟩)] 1 [1, 2, 3, 4, 5, 6, 7, 8, 9, 10, 11, 12, 13, 14] ⟨1, true, none⟩) (ent_mk (σ := sg [(0, 0)]) ⟨⟨_, rfl, ⟨rfl, rfl, rfl, rfl⟩⟩, ⟨_, rfl, rfl⟩, ⟨_, rfl, rfl⟩, ⟨_, rfl, rfl⟩, ⟨_, rfl, ⟨rfl, rfl, rfl, rfl⟩⟩, ⟨_, rfl, rfl⟩, ⟨_, rfl, rfl⟩, ⟨_, rfl, ⟨rfl, rfl, rfl, rfl⟩⟩, ⟨_, rfl, rfl⟩, ⟨_, rfl, rfl⟩, trivial⟩ ⟨⟨_, rfl, rfl, .inl ⟨open_row (atL_get hv2), set_plain okMt rfl⟩⟩, rfl, trivial⟩ rfl) ?_
      refine sops_ent (ent_openS (b := 0) (c := 1) (i := x1.2.2.toNat) (j := 2) (n := v2.cells.length) (A := List.map (ow eM) x1.1) (fs := List.map (ow eI) v2.cells) (by rw [List.length_map]; exact atL_lt hv2) rfl rfl rfl rfl (len_map _ _) (abs_map _ _) (dfE_ok ⟨rfl, rfl, rfl, rfl, rfl, rfl, rfl, rfl, rfl, rfl, trivial⟩) (dfH_ok (skip := []) ⟨.inr (okMt.dfS _ _ _ rfl), trivial⟩)) ?_
      refine sops_ent (t := mkS [(0, .own 0 0 x1.1.length), (1, .int x1.2.1), (5, .int x1.2.2), (6, .int x1.2.2), (7, .own 0 0 x1.1.length), (8, .int ((x1.1.length : Nat) : Int)), (9, .bl (decide (x1.2.2 < ((x1.1.length : Nat) : Int)))), (12, .own 0 0 x1.1.length), (13, .int x1.2.2), (14, .int x1.2.1)] [(0, ⟨3, (List.map (ow eM) x1.1).set x1.2.2.toNat [.int v2.rows, .int v2.cols, .own 1 0 v2.cells.length]⟩), (1, ⟨1, List.map (ow eI) v2.cells⟩)] 2 [2, 3, 4, 5, 6, 7, 8, 9, 10, 11, 12, 13, 14, 15] ⟨1, true, none⟩) (ent_mk (σ := sg [(0, 0), (1, 1)]) ⟨⟨_, rfl, ⟨rfl, rfl, rfl, rfl⟩⟩, ⟨_, rfl, rfl⟩, ⟨_, rfl, rfl⟩, ⟨_, rfl, rfl⟩, ⟨_, rfl, ⟨rfl, rfl, rfl, rfl⟩⟩, ⟨_, rfl, rfl⟩, ⟨_, rfl, rfl⟩, ⟨_, rfl, ⟨rfl, rfl, rfl, rfl⟩⟩, ⟨_, rfl, rfl⟩, ⟨_, rfl, rfl⟩, trivial⟩ ⟨⟨_, rfl, rfl, .inr (ent_set (σ := sg [(0, 0), (1, 1)]) (m := 2) (e := eM) (l := x1.1) (i := x1.2.2.toNat) (c := [.int v2.rows, .int v2.cols, .own 1 0 v2.cells.length]) (d := [.int v2.rows, .int v2.cols, .own 1 0 v2.cells.length]) okMt ⟨_, _, rfl, rfl, ⟨_, _, rfl, rfl, ⟨_, _, rfl, ⟨rfl, rfl, rfl, rfl⟩, rfl⟩⟩⟩)⟩, rfl, ⟨_, rfl, rfl, .inl ⟨rfl, okI.plainO _⟩⟩, rfl, trivial⟩ rfl) ?_
      refine sops_eff (x_at_own TT_ok (atL_nn hv2) (atL_lt hv2) rfl rfl rfl rfl rfl rfl rfl) rfl rfl rfl ?_
      refine sops_eff (w_field_ptr TT_ok rfl rfl rfl rfl rfl rfl rfl) rfl rfl rfl ?_
      refine sops_eff (x_storeS TT_ok (A := List.map (ow eM) x1.1) (by rw [List.length_map]; exact atL_lt hv2) rfl rfl rfl rfl rfl rfl rfl) rfl rfl rfl ?_
      refine sops_nil ?_
      refine then_n ?_
      refine ac_seq ?_
      refine ac_regionS ?_
      refine sops_eff (eff_move rfl) rfl rfl rfl ?_
      refine sops_eff (x_add rfl rfl) rfl rfl rfl ?_
      refine sops_eff (eff_assign rfl) rfl rfl rfl ?_
      refine sops_nil ?_
      refine then_n ?_
      refine ac_seq ?_
      refine ac_regionS ?_
      refine sops_eff (eff_move rfl) rfl rfl rfl ?_
      refine sops_eff (eff_move rfl) rfl rfl rfl ?_
      refine sops_eff (eff_move rfl) rfl rfl rfl ?_
      refine sops_eff (x_at_own TT_ok (atL_nn hv2) (atL_lt hv2) rfl rfl rfl rfl rfl rfl rfl) rfl rfl rfl ?_
      refine sops_eff (w_field_ptr TT_ok rfl rfl rfl rfl rfl rfl rfl) rfl rfl rfl ?_
      refine sops_eff (x_storeS TT_ok (A := List.map (ow eM) x1.1) (by rw [List.length_map]; exact atL_lt hv2) rfl rfl rfl rfl rfl rfl rfl) rfl rfl rfl ?_
      refine sops_nil ?_
      refine then_n ?_
      refine ac_seq ?_
      refine ac_regionS ?_
      refine sops_eff (eff_move rfl) rfl rfl rfl ?_
      refine sops_eff (x_add rfl rfl) rfl rfl rfl ?_
      refine sops_eff (eff_assign rfl) rfl rfl rfl ?_
      refine sops_nil ?_
      refine then_n ?_
      refine ac_ent (t := mkS [(0, .own 0 0 x1.1.length), (1, .int (wr ((wr (x1.2.1 + 1)) + 1))), (5, .int x1.2.2)] [(0, ⟨3, (List.map (ow eM) x1.1).set x1.2.2.toNat [.int x1.2.1, .int (wr (x1.2.1 + 1)), .own 1 0 v2.cells.length]⟩), (1, ⟨1, List.map (ow eI) v2.cells⟩)] 2 [2, 3, 4, 5, 6, 7, 8, 9, 10, 11, 12, 13, 14, 15] ⟨1, true, none⟩) (ent_mk (σ := sg [(0, 0), (1, 1)]) ⟨⟨_, rfl, ⟨rfl, rfl, rfl, rfl⟩⟩, ⟨_, rfl, rfl⟩, ⟨_, rfl, rfl⟩, trivial⟩ ⟨⟨_, rfl, rfl, .inr (ent_set (σ := sg [(0, 0), (1, 1)]) (m := 2) (e := eM) (l := x1.1) (i := x1.2.2.toNat) (c := [.int x1.2.1, .int (wr (x1.2.1 + 1)), .own 1 0 v2.cells.length]) (d := [.int x1.2.1, .int (wr (x1.2.1 + 1)), .own 1 0 v2.cells.length]) okMt ⟨_, _, rfl, rfl, ⟨_, _, rfl, rfl, ⟨_, _, rfl, ⟨rfl, rfl, rfl, rfl⟩, rfl⟩⟩⟩)⟩, rfl, ⟨_, rfl, rfl, .inl ⟨rfl, okI.plainO _⟩⟩, rfl, trivial⟩ rfl) ?_
      refine ac_regionS ?_
      refine sops_eff (eff_move rfl) rfl rfl rfl ?_
      refine sops_eff (eff_move rfl) rfl rfl rfl ?_
      refine sops_eff (x_at_own TT_ok (atL_nn hv2) (atL_lt hv2) rfl rfl rfl rfl rfl rfl rfl) rfl rfl rfl ?_
      refine sops_eff (w_field_ptr TT_ok rfl rfl rfl rfl rfl rfl rfl) rfl rfl rfl ?_
      refine sops_eff (w_load_ptr TT_ok rfl rfl rfl rfl (set_at (atL_lt hv2)) rfl rfl) rfl rfl rfl ?_
      refine sops_eff (eff_move rfl) rfl rfl rfl ?_
      obtain ⟨v3, hv3, h⟩ := ob h
      refine sops_eff (eff_hasE (σ := sg [(0, 1)]) (σ' := sg [(1, 0)]) (touch := [1]) (news := []) (hl2 := [(1, ⟨1, List.map (ow eI) v3.1⟩)]) (n' := 2) (r2 := .int v3.2) (c_laws_markIntS v2.cells (wr ((wr (x1.2.1 + 1)) + 1)) v3 hv3) rfl rfl ⟨_, _, rfl, ⟨rfl, rfl, rfl, rfl⟩, ⟨_, _, rfl, rfl, rfl⟩⟩ ⟨⟨_, rfl, rfl, .inl ⟨rfl, okI.plainO _⟩⟩, rfl, trivial⟩ rfl rfl rfl ⟨⟨_, rfl, rfl, .inl ⟨rfl, okI.plainO _⟩⟩, rfl, trivial⟩ rfl rfl rfl ⟨rfl, okI.tame _ _, trivial⟩ rfl rfl) rfl rfl rfl ?_
      obtain ⟨q4, h⟩ := cg h
      refine sops_eff (eff_assign rfl) rfl rfl rfl ?_
      refine sops_nil ?_
      refine block_n ?_
      refine then_n ?_
      refine ac_regionS ?_
      refine sops_eff (eff_move rfl) rfl rfl rfl ?_
      refine sops_eff (x_add rfl rfl) rfl rfl rfl ?_
      refine sops_eff (eff_assign rfl) rfl rfl rfl ?_
      refine sops_nil ?_
      refine then_n ?_
      obtain rfl := so h
      exact ⟨_, rfl, (Ent.trans (show Ent _ (mkS [(0, .own 0 0 ((x1.1.set x1.2.2.toNat (⟨x1.2.1, wr (x1.2.1 + 1), v3.1⟩ : Mt)).length)), (1, .int v3.2), (5, .int (wr (x1.2.2 + 1)))] [(0, ⟨3, List.map (ow eM) (x1.1.set x1.2.2.toNat (⟨x1.2.1, wr (x1.2.1 + 1), v3.1⟩ : Mt))⟩)] 2 [2, 3, 4, 5, 6, 7, 8, 9, 10, 11, 12, 13, 14, 15] ⟨1, true, none⟩) from (Ent.trans (ent_absS (b := 0) (b' := 1) (j := 2) (es' := List.map eI v3.1) (by rw [List.length_map]; exact atL_lt hv2) rfl rfl rfl rfl (by simp only [len_map, List.length_append, List.length_set, List.length_replicate, List.length_cons, List.length_nil, of_decide_eq_true q4]) (okI.frzs _)) (ent_mk (σ := sg [(0, 0)]) ⟨⟨_, rfl, ⟨rfl, rfl, (by simp only [len_map, List.length_append, List.length_set, List.length_replicate, List.length_cons, List.length_nil, of_decide_eq_true q4]), rfl⟩⟩, ⟨_, rfl, rfl⟩, ⟨_, rfl, rfl⟩, trivial⟩ ⟨⟨_, rfl, rfl, .inl ⟨set_eq (⟨x1.2.1, wr (x1.2.1 + 1), v3.1⟩ : Mt) rfl, okMt.plainO _⟩⟩, rfl, trivial⟩ rfl))) (ent_mk (σ := sg [(0, 0)]) ⟨⟨_, rfl, ⟨rfl, rfl, rfl, rfl⟩⟩, ⟨_, rfl, rfl⟩, ⟨_, rfl, rfl⟩, trivial⟩ ⟨⟨_, rfl, rfl, .inl ⟨rfl, okMt.plainO _⟩⟩, rfl, trivial⟩ rfl))⟩
    · refine ac_condF rfl q1 ?_
      refine ac_exit ?_
      refine then_exit ?_
      refine then_exit ?_
      obtain rfl := so h
      exact ⟨_, rfl, rfl, (ent_mk (σ := sg [(0, 0)]) ⟨⟨_, rfl, rfl⟩, trivial⟩ ⟨⟨_, rfl, rfl, .inl ⟨rfl, okMt.plainO _⟩⟩, rfl, trivial⟩ rfl)⟩
  · rintro e t ⟨rfl, hent⟩
    refine block_here ?_
    refine then_n ?_
    refine ac_ent hent ?_
    refine ac_seq ?_
    refine ac_regionS ?_
    refine sops_eff (eff_move rfl) rfl rfl rfl ?_
    refine sops_eff (eff_assign rfl) rfl rfl rfl ?_
    refine sops_nil ?_
    refine then_n ?_
    refine ac_ret ?_
    obtain rfl := so h
    exact ⟨mkS [(4, .int y5.2)] [(0, ⟨3, List.map (ow eM) y5.1⟩)] 1 [1, 2, 3, 4, 5, 6, 7, 8, 9, 10, 11, 12, 13, 14] ⟨1, true, none⟩, (ent_mk (σ := sg [(0, 0)]) ⟨⟨_, rfl, rfl⟩, trivial⟩ ⟨⟨_, rfl, rfl, .inl ⟨rfl, okMt.plainO _⟩⟩, rfl, trivial⟩ rfl), rfl, ⟨_, rfl, .inl rfl⟩, ⟨rfl, trivial⟩⟩

noncomputable def m_laws_markRep (a0 : Rp) (a1 : Int) : Option ((List Int) × (List Int) × (List Int) × (List Mt) × Int) :=
  Option.bind (m_laws_markQuiver a0.q a1) fun v1 =>
  bif decide (v1.1.length = a0.q.src.length) then
    (bif decide (v1.2.1.length = a0.q.tgt.length) then
      (Option.bind (m_laws_markIntS a0.dims v1.2.2) fun v4 =>
      bif decide (v4.1.length = a0.dims.length) then
        (Option.bind (m_laws_markMatrixS a0.maps v4.2) fun v6 =>
        bif decide (v6.1.length = a0.maps.length) then
          (some (v1.1, v1.2.1, v4.1, v6.1, v6.2))
        else none)
      else none)
    else none)
  else none

theorem c_laws_markRep (a0 : Rp) (a1 : Int) (r : ((List Int) × (List Int) × (List Int) × (List Mt) × Int)) (h : m_laws_markRep a0 a1 = some r) : HasT Try.prog 16 [.agg [.int a0.p, .int a0.q.n, .own 0 0 a0.q.src.length, .own 1 0 a0.q.tgt.length, .own 2 0 a0.dims.length, .own 3 0 a0.maps.length], .int a1] [(0, ⟨1, List.map (ow eI) a0.q.src⟩), (1, ⟨1, List.map (ow eI) a0.q.tgt⟩), (2, ⟨1, List.map (ow eI) a0.dims⟩), (3, ⟨3, List.map (ow eM) a0.maps⟩)] 4 (.int r.2.2.2.2) [(0, ⟨1, List.map (ow eI) r.1⟩), (1, ⟨1, List.map (ow eI) r.2.1⟩), (2, ⟨1, List.map (ow eI) r.2.2.1⟩), (3, ⟨3, List.map (ow eM) r.2.2.2.1⟩)] := by
  refine hasT_mk TT_ok (rvs := [.tmp 4]) (ns := [4, 5, 6, 7, 8, 9, 10, 11, 12, 13, 14, 15, 16, 17]) Try.func16 rfl rfl Try.ntmps16 rfl rfl ?_
  refine ac_seq ?_
  refine ac_regionS ?_
  refine sops_eff (w_box rfl rfl rfl rfl) rfl rfl rfl ?_
  refine sops_eff (eff_assign rfl) rfl rfl rfl ?_
  refine sops_nil ?_
  refine then_n ?_
  refine ac_seq ?_
  refine ac_regionS ?_
  refine sops_eff (w_field_ptr TT_ok rfl rfl rfl rfl rfl rfl rfl) rfl rfl rfl ?_
  refine sops_eff (w_load_ptr TT_ok rfl rfl rfl rfl rfl rfl rfl) rfl rfl rfl ?_
  refine sops_eff (eff_move rfl) rfl rfl rfl ?_
  obtain ⟨v1, hv1, h⟩ := ob h
  refine sops_eff (eff_hasE (σ := sg [(0, 0), (1, 1)]) (σ' := sg [(0, 0), (1, 1)]) (touch := [0, 1]) (news := []) (hl2 := [(0, ⟨1, List.map (ow eI) v1.1⟩), (1, ⟨1, List.map (ow eI) v1.2.1⟩)]) (n' := 5) (r2 := .int v1.2.2) (c_laws_markQuiver a0.q a1 v1 hv1) rfl rfl ⟨_, _, rfl, ⟨_, _, rfl, rfl, ⟨_, _, rfl, ⟨rfl, rfl, rfl, rfl⟩, ⟨_, _, rfl, ⟨rfl, rfl, rfl, rfl⟩, rfl⟩⟩⟩, ⟨_, _, rfl, rfl, rfl⟩⟩ ⟨⟨_, rfl, rfl, .inl ⟨rfl, okI.plainO _⟩⟩, rfl, ⟨_, rfl, rfl, .inl ⟨rfl, okI.plainO _⟩⟩, rfl, trivial⟩ rfl rfl rfl ⟨⟨_, rfl, rfl, .inl ⟨rfl, okI.plainO _⟩⟩, rfl, ⟨_, rfl, rfl, .inl ⟨rfl, okI.plainO _⟩⟩, rfl, trivial⟩ rfl rfl rfl ⟨rfl, okI.tame _ _, ⟨rfl, okI.tame _ _, trivial⟩⟩ rfl rfl) rfl rfl rfl ?_
  obtain ⟨q2, h⟩ := cg h
  obtain ⟨q3, h⟩ := cg h
  refine sops_eff (eff_assign rfl) rfl rfl rfl ?_
  refine sops_nil ?_
  refine then_n ?_
  refine ac_seq ?_
  refine ac_regionS ?_
  refine sops_eff (w_field_ptr TT_ok rfl rfl rfl rfl rfl rfl rfl) rfl rfl rfl ?_
  refine sops_eff (w_load_ptr TT_ok rfl rfl rfl rfl rfl rfl rfl) rfl rfl rfl ?_
  refine sops_eff (eff_move rfl) rfl rfl rfl ?_
  obtain ⟨v4, hv4, h⟩ := ob h
  refine sops_eff (eff_hasE (σ := sg [(0, 2)]) (σ' := sg [(2, 0)]) (touch := [2]) (news := []) (hl2 := [(2, ⟨1, List.map (ow eI) v4.1⟩)]) (n' := 5) (r2 := .int v4.2) (c_laws_markIntS a0.dims v1.2.2 v4 hv4) rfl rfl ⟨_, _, rfl, ⟨rfl, rfl, rfl, rfl⟩, ⟨_, _, rfl, rfl, rfl⟩⟩ ⟨⟨_, rfl, rfl, .inl ⟨rfl, okI.plainO _⟩⟩, rfl, trivial⟩ rfl rfl rfl ⟨⟨_, rfl, rfl, .inl ⟨rfl, okI.plainO _⟩⟩, rfl, trivial⟩ rfl rfl rfl ⟨rfl, okI.tame _ _, trivial⟩ rfl rfl) rfl rfl rfl ?_
  obtain ⟨q5, h⟩ := cg h
  refine sops_eff (eff_assign rfl) rfl rfl rfl ?_
  refine sops_nil ?_
  refine then_n ?_
  refine ac_ent (t := mkS [(1, .int v4.2), (2, .ptr 4 0 0)] [(0, ⟨1, List.map (ow eI) v1.1⟩), (1, ⟨1, List.map (ow eI) v1.2.1⟩), (2, ⟨1, List.map (ow eI) v4.1⟩), (3, ⟨3, List.map (ow eM) a0.maps⟩), (4, ⟨6, [[.int a0.p, .int a0.q.n, .own 0 0 v1.1.length, .own 1 0 v1.2.1.length, .own 2 0 v4.1.length, .own 3 0 a0.maps.length]]⟩)] 5 [5, 6, 7, 8, 9, 10, 11, 12, 13, 14, 15, 16, 17, 18] ⟨4, true, none⟩) (ent_mk (σ := sg [(0, 0), (1, 1), (2, 2), (3, 3), (4, 4)]) ⟨⟨_, rfl, rfl⟩, ⟨_, rfl, ⟨rfl, rfl, rfl, rfl⟩⟩, trivial⟩ ⟨⟨_, rfl, rfl, .inl ⟨rfl, okI.plainO _⟩⟩, rfl, ⟨_, rfl, rfl, .inl ⟨rfl, okI.plainO _⟩⟩, rfl, ⟨_, rfl, rfl, .inl ⟨rfl, okI.plainO _⟩⟩, rfl, ⟨_, rfl, rfl, .inl ⟨rfl, okMt.plainO _⟩⟩, rfl, ⟨_, rfl, rfl, .inr ⟨_, _, rfl, ⟨_, _, rfl, rfl, ⟨_, _, rfl, rfl, ⟨_, _, rfl, ⟨rfl, rfl, (by simp only [len_map, List.length_append, List.length_set, List.length_replicate, List.length_cons, List.length_nil, of_decide_eq_true q2]), rfl⟩, ⟨_, _, rfl, ⟨rfl, rfl, (by simp only [len_map, List.length_append, List.length_set, List.length_replicate, List.length_cons, List.length_nil, of_decide_eq_true q3]), rfl⟩, ⟨_, _, rfl, ⟨rfl, rfl, (by simp only [len_map, List.length_append, List.length_set, List.length_replicate, List.length_cons, List.length_nil, of_decide_eq_true q5]), rfl⟩, ⟨_, _, rfl, ⟨rfl, rfl, rfl, rfl⟩, rfl⟩⟩⟩⟩⟩⟩, rfl⟩⟩, rfl, trivial⟩ rfl) ?_
  refine ac_seq ?_
  refine ac_regionS ?_
  refine sops_eff (w_field_ptr TT_ok rfl rfl rfl rfl rfl rfl rfl) rfl rfl rfl ?_
  refine sops_eff (w_load_ptr TT_ok rfl rfl rfl rfl rfl rfl rfl) rfl rfl rfl ?_
  refine sops_eff (eff_move rfl) rfl rfl rfl ?_
  obtain ⟨v6, hv6, h⟩ := ob h
  refine sops_ent (t := mkS [(1, .int v4.2), (2, .ptr 4 0 0), (13, .ptr 4 0 5), (14, .own 3 0 a0.maps.length), (15, .int v4.2)] [(0, ⟨1, List.map (ow eI) v1.1⟩), (1, ⟨1, List.map (ow eI) v1.2.1⟩), (2, ⟨1, List.map (ow eI) v4.1⟩), (3, ⟨3, List.map (ow eM) a0.maps⟩), (4, ⟨6, [[.int a0.p, .int a0.q.n, .own 0 0 v1.1.length, .own 1 0 v1.2.1.length, .own 2 0 v4.1.length, .own 3 0 a0.maps.length]]⟩)] 5 [5, 6, 7, 8, 9, 10, 11, 12, 13, 14, 15, 16, 17, 18] ⟨4, true, none⟩) (ent_mk (σ := sg [(0, 0), (1, 1), (2, 2), (3, 3), (4, 4)]) ⟨⟨_, rfl, rfl⟩, ⟨_, rfl, ⟨rfl, rfl, rfl, rfl⟩⟩, ⟨_, rfl, ⟨rfl, rfl, rfl, rfl⟩⟩, ⟨_, rfl, ⟨rfl, rfl, rfl, rfl⟩⟩, ⟨_, rfl, rfl⟩, trivial⟩ ⟨⟨_, rfl, rfl, .inl ⟨rfl, okI.plainO _⟩⟩, rfl, ⟨_, rfl, rfl, .inl ⟨rfl, okI.plainO _⟩⟩, rfl, ⟨_, rfl, rfl, .inl ⟨rfl, okI.plainO _⟩⟩, rfl, ⟨_, rfl, rfl, .inl ⟨rfl, okMt.plainO _⟩⟩, rfl, ⟨_, rfl, rfl, .inr ⟨_, _, rfl, ⟨_, _, rfl, rfl, ⟨_, _, rfl, rfl, ⟨_, _, rfl, ⟨rfl, rfl, rfl, rfl⟩, ⟨_, _, rfl, ⟨rfl, rfl, rfl, rfl⟩, ⟨_, _, rfl, ⟨rfl, rfl, rfl, rfl⟩, ⟨_, _, rfl, ⟨rfl, rfl, rfl, rfl⟩, rfl⟩⟩⟩⟩⟩⟩, rfl⟩⟩, rfl, trivial⟩ rfl) ?_
  refine sops_T (σ := sg [(0, 3)]) (σ' := sg [(3, 0)]) (touch := [3]) (news := []) (hl2 := [(3, ⟨3, List.map (ow eM) v6.1⟩)]) (n' := 5) (r2 := .int v6.2) (c_laws_markMatrixS a0.maps v4.2 v6 hv6) rfl rfl ⟨_, _, rfl, ⟨rfl, rfl, rfl, rfl⟩, ⟨_, _, rfl, rfl, rfl⟩⟩ ⟨⟨_, rfl, rfl, .inl ⟨rfl, okMt.plainO _⟩⟩, rfl, trivial⟩ rfl rfl rfl ⟨⟨_, rfl, rfl, .inl ⟨rfl, okMt.plainO _⟩⟩, rfl, trivial⟩ rfl rfl rfl ⟨rfl, okMt.tame _ _, trivial⟩ rfl rfl rfl rfl rfl (dfE_ok ⟨rfl, rfl, rfl, rfl, rfl, trivial⟩) (dfH_ok (skip := [3]) ⟨.inr (okI.df _ _), .inr (okI.df _ _), .inr (okI.df _ _), .inl (by decide), .inr (df_lit rfl), trivial⟩) ?_
  obtain ⟨q7, h⟩ := cg h
  refine sops_eff (eff_assign rfl) rfl rfl rfl ?_
  refine sops_nil ?_
  refine then_n ?_
  refine ac_seq ?_
  refine ac_regionS ?_
  refine sops_eff (eff_move rfl) rfl rfl rfl ?_
  refine sops_eff (eff_assign rfl) rfl rfl rfl ?_
  refine sops_nil ?_
  refine then_n ?_
  refine ac_ret ?_
  obtain rfl := so h
  exact ⟨mkS [(4, .int v6.2)] [(0, ⟨1, List.map (ow eI) v1.1⟩), (1, ⟨1, List.map (ow eI) v1.2.1⟩), (2, ⟨1, List.map (ow eI) v4.1⟩), (3, ⟨3, List.map (ow eM) v6.1⟩)] 4 [4, 5, 6, 7, 8, 9, 10, 11, 12, 13, 14, 15, 16, 17] ⟨4, true, none⟩, (ent_mk (σ := sg [(0, 0), (1, 1), (2, 2), (3, 3)]) ⟨⟨_, rfl, rfl⟩, trivial⟩ ⟨⟨_, rfl, rfl, .inl ⟨rfl, okI.plainO _⟩⟩, rfl, ⟨_, rfl, rfl, .inl ⟨rfl, okI.plainO _⟩⟩, rfl, ⟨_, rfl, rfl, .inl ⟨rfl, okI.plainO _⟩⟩, rfl, ⟨_, rfl, rfl, .inl ⟨rfl, okMt.plainO _⟩⟩, rfl, trivial⟩ rfl), rfl, ⟨_, rfl, .inl rfl⟩, ⟨rfl, rfl, rfl, rfl, trivial⟩⟩

noncomputable def m_laws_heldIntS_L1 (a0 : (List Int)) (x1 : (Int × Int)) : Option ((Int × Int) ⊕ (Int ⊕ Int)) :=
  bif decide (x1.2 < (a0.length : Int)) then
    (Option.bind (atL a0 x1.2) fun v2 =>
    bif !decide (v2 = x1.1) then
      (some (.inr (.inr ((-1)))))
    else
      (some (.inl (wr (x1.1 + 1), wr (x1.2 + 1)))))
  else
    (some (.inr (.inl x1.1)))

noncomputable def m_laws_heldIntS (a0 : (List Int)) (a1 : Int) : Option Int :=
  Option.bind (Lp (m_laws_heldIntS_L1 a0) (a1, 0)) fun y4 =>
  Sum.elim (fun y5 =>
    some (y5)
  ) 
  (fun y6 =>
    some y6
  )
   y4

theorem c_laws_heldIntS (a0 : (List Int)) (a1 : Int) (r : Int) (h : m_laws_heldIntS a0 a1 = some r) : HasC Try.prog 81 [.list 1 (List.map eI a0), .int a1] (.int r) := by
  refine hasC_mk TT_ok (rvs := [.tmp 4]) (ns := [0, 1, 2, 3, 4, 5, 6, 7, 8, 9, 10, 11, 12, 13]) Try.func81 rfl rfl Try.ntmps81 rfl rfl rfl ?_
  refine ac_seq ?_
  refine ac_region ?_
  refine aops_eff (eff_assign rfl) rfl rfl rfl ?_
  refine aops_nil ?_
  refine then_n ?_
  refine ac_seq ?_
  refine ac_seq ?_
  refine ac_region ?_
  refine aops_eff (eff_assign rfl) rfl rfl rfl ?_
  refine aops_nil ?_
  refine then_n ?_
  refine ac_block ?_
  obtain ⟨y4, hy4, h⟩ := ob h
  refine ac_Lp (body := (m_laws_heldIntS_L1 a0)) hy4 (fun (x1 : (Int × Int)) => mkS [(0, .list 1 (List.map eI a0)), (1, .int x1.1), (5, .int x1.2)] [] 0 [0, 1, 2, 3, 4, 5, 6, 7, 8, 9, 10, 11, 12, 13]) (fun r e t => Sum.elim (fun a => (fun r e t => e = .exit 0 ∧ Ent t (mkS [(1, .int r)] [] 0 [0, 1, 2, 3, 4, 5, 6, 7, 8, 9, 10, 11, 12, 13])) a e t) (fun b => (fun r e t => e = .ret ∧ RetQ TT [.tmp 4] (.int r) .ret t) b e t) r) (ent_mk (σ := sg []) ⟨⟨_, rfl, ⟨rfl, rfl⟩⟩, ⟨_, rfl, rfl⟩, ⟨_, rfl, rfl⟩, trivial⟩ trivial rfl) ?_ ?_
  · intro x1 o h
    refine ac_seq ?_
    refine ac_seq ?_
    refine ac_region ?_
    refine aops_eff (eff_move rfl) rfl rfl rfl ?_
    refine aops_eff (eff_move rfl) rfl rfl rfl ?_
    refine aops_eff (AEff.val (w_len_list TT_ok rfl rfl rfl) (v' := .int (a0.length : Int)) (by first | rw [len_map] | rw [encI_len])) rfl rfl rfl ?_
    refine aops_eff (w_cmp rfl rfl rfl) rfl rfl rfl ?_
    refine aops_nil ?_
    refine then_n ?_
    rcases cb h with ⟨q1, h⟩ | ⟨q1, h⟩
    · refine ac_condT rfl q1 ?_
      refine ac_skip ?_
      refine then_n ?_
      refine ac_seq ?_
      refine ac_block ?_
      refine ac_seq ?_
      refine ac_seq ?_
      refine ac_region ?_
      refine aops_eff (eff_move rfl) rfl rfl rfl ?_
      refine aops_eff (eff_move rfl) rfl rfl rfl ?_
      obtain ⟨v2, hv2, h⟩ := ob h
      refine aops_eff (x_at_list TT_ok hv2 rfl rfl rfl rfl rfl rfl) rfl rfl rfl ?_
      refine aops_eff (w_load_ref TT_ok rfl rfl rfl rfl rfl rfl) rfl rfl rfl ?_
      refine aops_eff (eff_move rfl) rfl rfl rfl ?_
      refine aops_eff (w_cmp rfl rfl rfl) rfl rfl rfl ?_
      refine aops_nil ?_
      refine then_n ?_
      rcases cb h with ⟨q3, h⟩ | ⟨q3, h⟩
      · refine ac_condT rfl q3 ?_
        refine ac_seq ?_
        refine ac_region ?_
        refine aops_eff (eff_assign rfl) rfl rfl rfl ?_
        refine aops_nil ?_
        refine then_n ?_
        refine ac_ret ?_
        refine then_ret ?_
        refine block_ret ?_
        refine then_ret ?_
        refine then_ret ?_
        obtain rfl := so h
        exact ⟨_, rfl, rfl, ret_mk rfl rfl rfl (fz_int rfl)⟩
      · refine ac_condF rfl q3 ?_
        refine ac_skip ?_
        refine then_n ?_
        refine ac_region ?_
        refine aops_eff (eff_move rfl) rfl rfl rfl ?_
        refine aops_eff (x_add rfl rfl) rfl rfl rfl ?_
        refine aops_eff (eff_assign rfl) rfl rfl rfl ?_
        refine aops_nil ?_
        refine block_n ?_
        refine then_n ?_
        refine ac_ent (t := mkS [(0, .list 1 (List.map eI a0)), (1, .int (wr (x1.1 + 1))), (5, .int x1.2)] [] 0 [0, 1, 2, 3, 4, 5, 6, 7, 8, 9, 10, 11, 12, 13]) (ent_mk (σ := sg []) ⟨⟨_, rfl, ⟨rfl, rfl⟩⟩, ⟨_, rfl, rfl⟩, ⟨_, rfl, rfl⟩, trivial⟩ trivial rfl) ?_
        refine ac_region ?_
        refine aops_eff (eff_move rfl) rfl rfl rfl ?_
        refine aops_eff (x_add rfl rfl) rfl rfl rfl ?_
        refine aops_eff (eff_assign rfl) rfl rfl rfl ?_
        refine aops_nil ?_
        refine then_n ?_
        obtain rfl := so h
        exact ⟨_, rfl, (ent_mk (σ := sg []) ⟨⟨_, rfl, ⟨rfl, rfl⟩⟩, ⟨_, rfl, rfl⟩, ⟨_, rfl, rfl⟩, trivial⟩ trivial rfl)⟩
    · refine ac_condF rfl q1 ?_
      refine ac_exit ?_
      refine then_exit ?_
      refine then_exit ?_
      obtain rfl := so h
      exact ⟨_, rfl, rfl, (ent_mk (σ := sg []) ⟨⟨_, rfl, rfl⟩, trivial⟩ trivial rfl)⟩
  · intro e t hX
    rcases y4 with y5 | y6
    · obtain ⟨rfl, hent⟩ := hX
      refine block_here ?_
      refine then_n ?_
      refine ac_ent hent ?_
      refine ac_seq ?_
      refine ac_region ?_
      refine aops_eff (eff_move rfl) rfl rfl rfl ?_
      refine aops_eff (eff_assign rfl) rfl rfl rfl ?_
      refine aops_nil ?_
      refine then_n ?_
      refine ac_ret ?_
      obtain rfl := so h
      exact ret_mk rfl rfl rfl (fz_int rfl)
    · obtain ⟨rfl, hent⟩ := hX
      refine block_ret ?_
      refine then_ret ?_
      obtain rfl := so h
      exact hent

noncomputable def m_laws_heldIntSS_L1 (a0 : (List (List Int))) (x1 : (Int × Int)) : Option ((Int × Int) ⊕ (Int ⊕ Int)) :=
  bif decide (x1.2 < (a0.length : Int)) then
    (Option.bind (atL a0 x1.2) fun v2 =>
    Option.bind (m_laws_heldIntS v2 x1.1) fun v3 =>
    bif decide (v3 < 0) then
      (some (.inr (.inr ((-1)))))
    else
      (some (.inl (v3, wr (x1.2 + 1)))))
  else
    (some (.inr (.inl x1.1)))

noncomputable def m_laws_heldIntSS (a0 : (List (List Int))) (a1 : Int) : Option Int :=
  Option.bind (Lp (m_laws_heldIntSS_L1 a0) (a1, 0)) fun y5 =>
  Sum.elim (fun y6 =>
    some (y6)
  ) 
  (fun y7 =>
    some y7
  )
   y5

theorem c_laws_heldIntSS (a0 : (List (List Int))) (a1 : Int) (r : Int) (h : m_laws_heldIntSS a0 a1 = some r) : HasC Try.prog 59 [.list 1 (List.map (eLs 1 eI) a0), .int a1] (.int r) := by
  refine hasC_mk TT_ok (rvs := [.tmp 4]) (ns := [0, 1, 2, 3, 4, 5, 6, 7, 8, 9, 10, 11, 12, 13]) Try.func59 rfl rfl Try.ntmps59 rfl rfl rfl ?_
  refine ac_seq ?_
  refine ac_region ?_
  refine aops_eff (eff_assign rfl) rfl rfl rfl ?_
  refine aops_nil ?_
  refine then_n ?_
  refine ac_seq ?_
  refine ac_seq ?_
  refine ac_region ?_
  refine aops_eff (eff_assign rfl) rfl rfl rfl ?_
  refine aops_nil ?_
  refine then_n ?_
  refine ac_block ?_
  obtain ⟨y5, hy5, h⟩ := ob h
  refine ac_Lp (body := (m_laws_heldIntSS_L1 a0)) hy5 (fun (x1 : (Int × Int)) => mkS [(0, .list 1 (List.map (eLs 1 eI) a0)), (1, .int x1.1), (5, .int x1.2)] [] 0 [0, 1, 2, 3, 4, 5, 6, 7, 8, 9, 10, 11, 12, 13]) (fun r e t => Sum.elim (fun a => (fun r e t => e = .exit 0 ∧ Ent t (mkS [(1, .int r)] [] 0 [0, 1, 2, 3, 4, 5, 6, 7, 8, 9, 10, 11, 12, 13])) a e t) (fun b => (fun r e t => e = .ret ∧ RetQ TT [.tmp 4] (.int r) .ret t) b e t) r) (ent_mk (σ := sg []) ⟨⟨_, rfl, ⟨rfl, rfl⟩⟩, ⟨_, rfl, rfl⟩, ⟨_, rfl, rfl⟩, trivial⟩ trivial rfl) ?_ ?_
  · intro x1 o h
    refine ac_seq ?_
    refine ac_seq ?_
    refine ac_region ?_
    refine aops_eff (eff_move rfl) rfl rfl rfl ?_
    refine aops_eff (eff_move rfl) rfl rfl rfl ?_
    refine aops_eff (AEff.val (w_len_list TT_ok rfl rfl rfl) (v' := .int (a0.length : Int)) (by first | rw [len_map] | rw [encI_len])) rfl rfl rfl ?_
    refine aops_eff (w_cmp rfl rfl rfl) rfl rfl rfl ?_
    refine aops_nil ?_
    refine then_n ?_
    rcases cb h with ⟨q1, h⟩ | ⟨q1, h⟩
    · refine ac_condT rfl q1 ?_
      refine ac_skip ?_
      refine then_n ?_
      refine ac_seq ?_
      refine ac_block ?_
      refine ac_seq ?_
      refine ac_region ?_
      refine aops_eff (eff_move rfl) rfl rfl rfl ?_
      refine aops_eff (eff_move rfl) rfl rfl rfl ?_
      obtain ⟨v2, hv2, h⟩ := ob h
      refine aops_eff (x_at_list TT_ok hv2 rfl rfl rfl rfl rfl rfl) rfl rfl rfl ?_
      refine aops_eff (w_load_ref TT_ok rfl rfl rfl rfl rfl rfl) rfl rfl rfl ?_
      refine aops_eff (eff_move rfl) rfl rfl rfl ?_
      obtain ⟨v3, hv3, h⟩ := ob h
      refine aops_eff (w_call0s (c_laws_heldIntS v2 x1.1 v3 hv3) rfl (va_cons (va_same rfl) (va_cons (va_same rfl) va_nil))) rfl rfl rfl ?_
      refine aops_eff (eff_assign rfl) rfl rfl rfl ?_
      refine aops_nil ?_
      refine then_n ?_
      refine ac_seq ?_
      refine ac_region ?_
      refine aops_eff (eff_move rfl) rfl rfl rfl ?_
      refine aops_eff (w_cmp rfl rfl rfl) rfl rfl rfl ?_
      refine aops_nil ?_
      refine then_n ?_
      refine ac_ent (t := mkS [(0, .list 1 (List.map (eLs 1 eI) a0)), (1, .int v3), (5, .int x1.2), (19, .bl (decide (v3 < 0)))] [] 0 [0, 1, 2, 3, 4, 5, 6, 7, 8, 9, 10, 11, 12, 13]) (ent_mk (σ := sg []) ⟨⟨_, rfl, ⟨rfl, rfl⟩⟩, ⟨_, rfl, rfl⟩, ⟨_, rfl, rfl⟩, ⟨_, rfl, rfl⟩, trivial⟩ trivial rfl) ?_
      rcases cb h with ⟨q4, h⟩ | ⟨q4, h⟩
      · refine ac_condT rfl q4 ?_
        refine ac_seq ?_
        refine ac_region ?_
        refine aops_eff (eff_assign rfl) rfl rfl rfl ?_
        refine aops_nil ?_
        refine then_n ?_
        refine ac_ret ?_
        refine block_ret ?_
        refine then_ret ?_
        refine then_ret ?_
        obtain rfl := so h
        exact ⟨_, rfl, rfl, ret_mk rfl rfl rfl (fz_int rfl)⟩
      · refine ac_condF rfl q4 ?_
        refine ac_skip ?_
        refine block_n ?_
        refine then_n ?_
        refine ac_region ?_
        refine aops_eff (eff_move rfl) rfl rfl rfl ?_
        refine aops_eff (x_add rfl rfl) rfl rfl rfl ?_
        refine aops_eff (eff_assign rfl) rfl rfl rfl ?_
        refine aops_nil ?_
        refine then_n ?_
        obtain rfl := so h
        exact ⟨_, rfl, (ent_mk (σ := sg []) ⟨⟨_, rfl, ⟨rfl, rfl⟩⟩, ⟨_, rfl, rfl⟩, ⟨_, rfl, rfl⟩, trivial⟩ trivial rfl)⟩
    · refine ac_condF rfl q1 ?_
      refine ac_exit ?_
      refine then_exit ?_
      refine then_exit ?_
      obtain rfl := so h
      exact ⟨_, rfl, rfl, (ent_mk (σ := sg []) ⟨⟨_, rfl, rfl⟩, trivial⟩ trivial rfl)⟩
  · intro e t hX
    rcases y5 with y6 | y7
    · obtain ⟨rfl, hent⟩ := hX
      refine block_here ?_
      refine then_n ?_
      refine ac_ent hent ?_
      refine ac_seq ?_
      refine ac_region ?_
      refine aops_eff (eff_move rfl) rfl rfl rfl ?_
      refine aops_eff (eff_assign rfl) rfl rfl rfl ?_
      refine aops_nil ?_
      refine then_n ?_
      refine ac_ret ?_
      obtain rfl := so h
      exact ret_mk rfl rfl rfl (fz_int rfl)
    · obtain ⟨rfl, hent⟩ := hX
      refine block_ret ?_
      refine then_ret ?_
      obtain rfl := so h
      exact hent

noncomputable def m_laws_heldSpaceS_L1 (a0 : (List Sc)) (x1 : (Int × Int)) : Option ((Int × Int) ⊕ (Int ⊕ Int)) :=
  bif decide (x1.2 < (a0.length : Int)) then
    (Option.bind (atL a0 x1.2) fun v2 =>
    bif !decide (v2.size = x1.1) then
      (some (.inr (.inr ((-1)))))
    else
      (Option.bind (atL a0 x1.2) fun v4 =>
      Option.bind (m_laws_heldIntSS v4.basis (wr (x1.1 + 1))) fun v5 =>
      bif decide (v5 < 0) then
        (some (.inr (.inr ((-1)))))
      else
        (some (.inl (v5, wr (x1.2 + 1))))))
  else
    (some (.inr (.inl x1.1)))

noncomputable def m_laws_heldSpaceS (a0 : (List Sc)) (a1 : Int) : Option Int :=
  Option.bind (Lp (m_laws_heldSpaceS_L1 a0) (a1, 0)) fun y7 =>
  Sum.elim (fun y8 =>
    some (y8)
  ) 
  (fun y9 =>
    some y9
  )
   y7

theorem c_laws_heldSpaceS (a0 : (List Sc)) (a1 : Int) (r : Int) (h : m_laws_heldSpaceS a0 a1 = some r) : HasC Try.prog 18 [.list 2 (List.map eS a0), .int a1] (.int r) := by
  refine hasC_mk TT_ok (rvs := [.tmp 4]) (ns := [0, 1, 2, 3, 4, 5, 6, 7, 8, 9, 10, 11, 12, 13]) Try.func18 rfl rfl Try.ntmps18 rfl rfl rfl ?_
  refine ac_seq ?_
  refine ac_region ?_
  refine aops_eff (eff_assign rfl) rfl rfl rfl ?_
  refine aops_nil ?_
  refine then_n ?_
  refine ac_seq ?_
  refine ac_seq ?_
  refine ac_region ?_
  refine aops_eff (eff_assign rfl) rfl rfl rfl ?_
  refine aops_nil ?_
  refine then_n ?_
  refine ac_block ?_
  obtain ⟨y7, hy7, h⟩ := ob h
  refine ac_Lp (body := (m_laws_heldSpaceS_L1 a0)) hy7 (fun (x1 : (Int × Int)) => mkS [(0, .list 2 (List.map eS a0)), (1, .int x1.1), (5, .int x1.2)] [] 0 [0, 1, 2, 3, 4, 5, 6, 7, 8, 9, 10, 11, 12, 13]) (fun r e t => Sum.elim (fun a => (fun r e t => e = .exit 0 ∧ Ent t (mkS [(1, .int r)] [] 0 [0, 1, 2, 3, 4, 5, 6, 7, 8, 9, 10, 11, 12, 13])) a e t) (fun b => (fun r e t => e = .ret ∧ RetQ TT [.tmp 4] (.int r) .ret t) b e t) r) (ent_mk (σ := sg []) ⟨⟨_, rfl, ⟨rfl, rfl⟩⟩, ⟨_, rfl, rfl⟩, ⟨_, rfl, rfl⟩, trivial⟩ trivial rfl) ?_ ?_
  · intro x1 o h
    refine ac_seq ?_
    refine ac_seq ?_
    refine ac_region ?_
    refine aops_eff (eff_move rfl) rfl rfl rfl ?_
    refine aops_eff (eff_move rfl) rfl rfl rfl ?_
    refine aops_eff (AEff.val (w_len_list TT_ok rfl rfl rfl) (v' := .int (a0.length : Int)) (by first | rw [len_map] | rw [encI_len])) rfl rfl rfl ?_
    refine aops_eff (w_cmp rfl rfl rfl) rfl rfl rfl ?_
    refine aops_nil ?_
    refine then_n ?_
    rcases cb h with ⟨q1, h⟩ | ⟨q1, h⟩
    · refine ac_condT rfl q1 ?_
      refine ac_skip ?_
      refine then_n ?_
      refine ac_seq ?_
      refine ac_block ?_
      refine ac_seq ?_
      refine ac_seq ?_
      refine ac_region ?_
      refine aops_eff (eff_move rfl) rfl rfl rfl ?_
      refine aops_eff (eff_move rfl) rfl rfl rfl ?_
      obtain ⟨v2, hv2, h⟩ := ob h
      refine aops_eff (x_at_list TT_ok hv2 rfl rfl rfl rfl rfl rfl) rfl rfl rfl ?_
      refine aops_eff (w_field_ref TT_ok rfl rfl rfl rfl rfl rfl) rfl rfl rfl ?_
      refine aops_eff (w_load_ref TT_ok rfl rfl rfl rfl rfl rfl) rfl rfl rfl ?_
      refine aops_eff (eff_move rfl) rfl rfl rfl ?_
      refine aops_eff (w_cmp rfl rfl rfl) rfl rfl rfl ?_
      refine aops_nil ?_
      refine then_n ?_
      rcases cb h with ⟨q3, h⟩ | ⟨q3, h⟩
      · refine ac_condT rfl q3 ?_
        refine ac_seq ?_
        refine ac_region ?_
        refine aops_eff (eff_assign rfl) rfl rfl rfl ?_
        refine aops_nil ?_
        refine then_n ?_
        refine ac_ent (t := mkS [(4, .int (-1))] [] 0 [0, 1, 2, 3, 4, 5, 6, 7, 8, 9, 10, 11, 12, 13]) (ent_mk (σ := sg []) ⟨⟨_, rfl, rfl⟩, trivial⟩ trivial rfl) ?_
        refine ac_ret ?_
        refine then_ret ?_
        refine block_ret ?_
        refine then_ret ?_
        refine then_ret ?_
        obtain rfl := so h
        exact ⟨_, rfl, rfl, ret_mk rfl rfl rfl (fz_int rfl)⟩
      · refine ac_condF rfl q3 ?_
        refine ac_skip ?_
        refine then_n ?_
        refine ac_seq ?_
        refine ac_region ?_
        refine aops_eff (eff_move rfl) rfl rfl rfl ?_
        refine aops_eff (x_add rfl rfl) rfl rfl rfl ?_
        refine aops_eff (eff_assign rfl) rfl rfl rfl ?_
        refine aops_nil ?_
        refine then_n ?_
        refine ac_ent (t := mkS [(0, .list 2 (List.map eS a0)), (1, .int (wr (x1.1 + 1))), (5, .int x1.2)] [] 0 [0, 1, 2, 3, 4, 5, 6, 7, 8, 9, 10, 11, 12, 13]) (ent_mk (σ := sg []) ⟨⟨_, rfl, ⟨rfl, rfl⟩⟩, ⟨_, rfl, rfl⟩, ⟨_, rfl, rfl⟩, trivial⟩ trivial rfl) ?_
        refine ac_seq ?_
        refine ac_region ?_
        refine aops_eff (eff_move rfl) rfl rfl rfl ?_
        refine aops_eff (eff_move rfl) rfl rfl rfl ?_
        obtain ⟨v4, hv4, h⟩ := ob h
        refine aops_eff (x_at_list TT_ok hv4 rfl rfl rfl rfl rfl rfl) rfl rfl rfl ?_
        refine aops_eff (w_field_ref TT_ok rfl rfl rfl rfl rfl rfl) rfl rfl rfl ?_
        refine aops_eff (w_load_ref TT_ok rfl rfl rfl rfl rfl rfl) rfl rfl rfl ?_
        refine aops_eff (eff_move rfl) rfl rfl rfl ?_
        obtain ⟨v5, hv5, h⟩ := ob h
        refine aops_eff (w_call0s (c_laws_heldIntSS v4.basis (wr (x1.1 + 1)) v5 hv5) rfl (va_cons (va_same rfl) (va_cons (va_same rfl) va_nil))) rfl rfl rfl ?_
        refine aops_eff (eff_assign rfl) rfl rfl rfl ?_
        refine aops_nil ?_
        refine then_n ?_
        refine ac_seq ?_
        refine ac_region ?_
        refine aops_eff (eff_move rfl) rfl rfl rfl ?_
        refine aops_eff (w_cmp rfl rfl rfl) rfl rfl rfl ?_
        refine aops_nil ?_
        refine then_n ?_
        rcases cb h with ⟨q6, h⟩ | ⟨q6, h⟩
        · refine ac_condT rfl q6 ?_
          refine ac_seq ?_
          refine ac_region ?_
          refine aops_eff (eff_assign rfl) rfl rfl rfl ?_
          refine aops_nil ?_
          refine then_n ?_
          refine ac_ret ?_
          refine block_ret ?_
          refine then_ret ?_
          refine then_ret ?_
          obtain rfl := so h
          exact ⟨_, rfl, rfl, ret_mk rfl rfl rfl (fz_int rfl)⟩
        · refine ac_condF rfl q6 ?_
          refine ac_skip ?_
          refine block_n ?_
          refine then_n ?_
          refine ac_region ?_
          refine aops_eff (eff_move rfl) rfl rfl rfl ?_
          refine aops_eff (x_add rfl rfl) rfl rfl rfl ?_
          refine aops_eff (eff_assign rfl) rfl rfl rfl ?_
          refine aops_nil ?_
          refine then_n ?_
          obtain rfl := so h
          exact ⟨_, rfl, (ent_mk (σ := sg []) ⟨⟨_, rfl, ⟨rfl, rfl⟩⟩, ⟨_, rfl, rfl⟩, ⟨_, rfl, rfl⟩, trivial⟩ trivial rfl)⟩
    · refine ac_condF rfl q1 ?_
      refine ac_exit ?_
      refine then_exit ?_
      refine then_exit ?_
      obtain rfl := so h
      exact ⟨_, rfl, rfl, (ent_mk (σ := sg []) ⟨⟨_, rfl, rfl⟩, trivial⟩ trivial rfl)⟩
  · intro e t hX
    rcases y7 with y8 | y9
    · obtain ⟨rfl, hent⟩ := hX
      refine block_here ?_
      refine then_n ?_
      refine ac_ent hent ?_
      refine ac_seq ?_
      refine ac_region ?_
      refine aops_eff (eff_move rfl) rfl rfl rfl ?_
      refine aops_eff (eff_assign rfl) rfl rfl rfl ?_
      refine aops_nil ?_
      refine then_n ?_
      refine ac_ret ?_
      obtain rfl := so h
      exact ret_mk rfl rfl rfl (fz_int rfl)
    · obtain ⟨rfl, hent⟩ := hX
      refine block_ret ?_
      refine then_ret ?_
      obtain rfl := so h
      exact hent

end Go.Proofs.Ytjfcjkeghigipaa
end

section
set_option linter.unusedVariables false
set_option linter.unusedSimpArgs false
/-
  The laws' marks: what is written into a value, and that it is held there.
-/
namespace Go.Proofs.Ytjfcjkeghigipaa
open Go.RowKit
set_option linter.unusedVariables false
set_option linter.unusedSimpArgs false

/-- How many numbers a list takes, and the list with its marks from k on. -/
def nvS {α : Type} (nv : α → Nat) : List α → Nat
  | [] => 0
  | x :: l => nv x + nvS nv l
def mvS {α : Type} (mv : Int → α → α) (nv : α → Nat) : Int → List α → List α
  | _, [] => []
  | k, x :: l => mv k x :: mvS mv nv (k + nv x) l
section
variable {α : Type} {mv : Int → α → α} {nv : α → Nat}
theorem mvS_len : ∀ (l : List α) (k : Int), (mvS mv nv k l).length = l.length
  | [], _ => rfl
  | x :: l, k => by simp [mvS, mvS_len l]
theorem nvS_app : ∀ (l m : List α), nvS nv (l ++ m) = nvS nv l + nvS nv m
  | [], m => by simp [nvS]
  | x :: l, m => by simp [nvS, nvS_app l m]; omega
theorem mvS_app : ∀ (l m : List α) (k : Int), mvS mv nv k (l ++ m) = mvS mv nv k l ++ mvS mv nv (k + nvS nv l) m
  | [], m, k => by simp [mvS, nvS]
  | x :: l, m, k => by
    simp only [List.cons_append, mvS, nvS, mvS_app l m]
    rw [show k + ((nv x + nvS nv l : Nat) : Int) = k + (nv x : Int) + (nvS nv l : Int) by omega]
theorem nvS_take {l : List α} {i : Nat} (hi : i < l.length) : nvS nv (l.take (i + 1)) = nvS nv (l.take i) + nv l[i] := by
  rw [List.take_succ_eq_append_getElem hi, nvS_app]; simp [nvS]
theorem nvS_take_le (l : List α) (i : Nat) : nvS nv (l.take i) ≤ nvS nv l := by
  have h : nvS nv (l.take i ++ l.drop i) = nvS nv l := by rw [List.take_append_drop]
  rw [nvS_app] at h; omega
theorem nvS_le {c : Nat} : ∀ {l : List α}, (∀ x ∈ l, nv x ≤ c) → nvS nv l ≤ c * l.length
  | [], _ => by simp [nvS]
  | x :: l, h => by
    have h1 := h x (by simp)
    have h2 := nvS_le (l := l) fun y hy => h y (by simp [hy])
    simp only [nvS, List.length_cons, Nat.mul_add, Nat.mul_one]; omega
theorem mvS_get {l : List α} {k : Int} {i : Nat} (hi : i < l.length) : (mvS mv nv k l)[i]? = some (mv (k + nvS nv (l.take i)) l[i]) := by
  have e : l = l.take i ++ l[i] :: l.drop (i + 1) := by rw [← List.drop_eq_getElem_cons hi, List.take_append_drop]
  have e2 : mvS mv nv k l = mvS mv nv k (l.take i) ++ mvS mv nv (k + nvS nv (l.take i)) (l[i] :: l.drop (i + 1)) := by rw [← mvS_app, ← e]
  rw [e2, List.getElem?_append_right (by rw [mvS_len]; simp; omega), mvS_len]
  simp [mvS, Nat.min_eq_left (Nat.le_of_lt hi)]
theorem mark_loop {l : List α} {k0 : Int} {body : List α × Int × Int → Option ((List α × Int × Int) ⊕ (List α × Int))} (h0 : 0 ≤ k0) (hk : k0 + nvS nv l ≤ 4611686018427387904) (hl : l.length ≤ 4611686018427387904)
    (hs : ∀ (r : List α) (i : Nat) (k : Int) (hi : i < r.length), r[i] ∈ l → 0 ≤ k → k + nv r[i] ≤ 4611686018427387904 → body (r, k, i) = some (.inl (r.set i (mv k r[i]), k + nv r[i], wr (i + 1)))) (he : ∀ r k, body (r, k, (r.length : Int)) = some (.inr (r, k))) :
    Lp body (l, k0, 0) = some (mvS mv nv k0 l, k0 + nvS nv l) := by
  rw [Lp_go (r := (mvS mv nv k0 l, k0 + nvS nv l)) (fun i => (mvS mv nv k0 (l.take i) ++ l.drop i, k0 + nvS nv (l.take i), (i : Int))) l.length (by simp [mvS, nvS]) (fun i hi => ?_) (fun _ => ?_)]
  · have hm : (mvS mv nv k0 (l.take i)).length = i := by rw [mvS_len]; simp; omega
    have hg : (mvS mv nv k0 (l.take i) ++ l.drop i)[i]'(by simp [mvS_len]; omega) = l[i] := by
      rw [List.getElem_append_right (by omega)]
      simp [hm]
    have hb := nvS_take_le (nv := nv) l (i + 1)
    rw [nvS_take hi] at hb
    rw [hs _ i _ (by simp [mvS_len]; omega) (by rw [hg]; exact List.getElem_mem hi) (by omega) (by rw [hg]; omega), hg, wr_suc hi hl]
    congr 2
    refine Prod.ext ?_ (Prod.ext ?_ rfl)
    · simp only
      rw [List.set_append_right _ _ (by omega), hm, Nat.sub_self, List.drop_eq_getElem_cons hi, List.set_cons_zero, List.take_succ_eq_append_getElem hi, mvS_app]
      simp [mvS]
    · simp only
      rw [nvS_take hi]; omega
  · have := he (mvS mv nv k0 (l.take l.length) ++ l.drop l.length) (k0 + nvS nv (l.take l.length))
    simp only [List.take_length, List.drop_length, List.append_nil, mvS_len] at this ⊢
    exact this
theorem held_loop {l : List α} {k0 : Int} {body : Int × Int → Option ((Int × Int) ⊕ (Int ⊕ Int))} (h0 : 0 ≤ k0) (hk : k0 + nvS nv l ≤ 4611686018427387904) (hl : l.length ≤ 4611686018427387904)
    (hs : ∀ (i : Nat) (hi : i < l.length) (k : Int), k = k0 + nvS nv (l.take i) → 0 ≤ k → k + nv l[i] ≤ 4611686018427387904 → body (k, i) = some (.inl (k + nv l[i], wr (i + 1)))) (he : ∀ k, body (k, (l.length : Int)) = some (.inr (.inl k))) :
    Lp body (k0, 0) = some (.inl (k0 + nvS nv l)) := by
  rw [Lp_go (r := Sum.inl (k0 + nvS nv l)) (fun i => (k0 + nvS nv (l.take i), (i : Int))) l.length (by simp [nvS]) (fun i hi => ?_) (fun _ => ?_)]
  · have hb := nvS_take_le (nv := nv) l (i + 1)
    rw [nvS_take hi] at hb
    rw [hs i hi _ rfl (by omega) (by omega), wr_suc hi hl, nvS_take hi]
    congr 3
    omega
  · rw [he]; simp
end

/-! ## numbers -/
def nI (l : List Int) : Nat := nvS (fun _ => 1) l
def mvI : Int → List Int → List Int := mvS (fun k _ => k) (fun _ => 1)
theorem nI_len : ∀ l : List Int, nI l = l.length
  | [] => rfl
  | x :: l => by have := nI_len l; simp only [nI] at this; simp only [nI, nvS, List.length_cons]; omega
theorem mvI_len (k : Int) (l : List Int) : (mvI k l).length = l.length := mvS_len l k
theorem nneg {k : Int} {n : Nat} (h : 0 ≤ k) : decide (k + (n : Int) < 0) = false := decide_eq_false (by omega)
theorem mm_I {l : List Int} {k : Int} (h0 : 0 ≤ k) (hk : k + nI l ≤ 4611686018427387904) : m_laws_markIntS l k = some (mvI k l, k + nI l) := by
  have hl := nI_len l
  unfold m_laws_markIntS
  rw [mark_loop (mv := fun k _ => k) (nv := fun _ => 1) h0 hk (by omega) (fun r i k hi _ g0 g1 => ?_) (fun r k => ?_), Option.bind_some]
  · rfl
  · unfold m_laws_markIntS_L1
    simp only
    rw [dlt hi, cond_true, atL_nat hi, Option.bind_some, Int.toNat_natCast, wr_sm (x := k + 1) (by omega)]
    simp
  · unfold m_laws_markIntS_L1
    simp only
    rw [dnl (Nat.le_refl _), cond_false]
theorem mh_I {l : List Int} {k : Int} (h0 : 0 ≤ k) (hk : k + nI l ≤ 4611686018427387904) : m_laws_heldIntS (mvI k l) k = some (k + nI l) := by
  have hl := nI_len l
  have hm := mvI_len k l
  unfold m_laws_heldIntS
  rw [held_loop (l := l) (nv := fun _ => 1) h0 hk (by omega) (fun i hi k' e g0 g1 => ?_) (fun k' => ?_), Option.bind_some]
  · rfl
  · unfold m_laws_heldIntS_L1
    simp only
    have hg : (mvI k l)[i]? = some k' := by unfold mvI; rw [mvS_get hi, e]
    rw [hm, dlt hi, cond_true, atL_nat (by omega), Option.bind_some]
    have hg' : (mvI k l)[i]'(by omega) = k' := by rw [List.getElem?_eq_getElem (by omega)] at hg; exact Option.some.inj hg
    rw [hg', decide_eq_true rfl, Bool.not_true, cond_false, wr_sm (x := k' + 1) (by omega)]
    simp
  · unfold m_laws_heldIntS_L1
    simp only
    rw [hm, dnl (Nat.le_refl _), cond_false]

/-! ## lists of lists -/
def nIS : List (List Int) → Nat := nvS nI
def mvIS : Int → List (List Int) → List (List Int) := mvS mvI nI
theorem get_of {α : Type} {l : List α} {i : Nat} {v : α} (h : l[i]? = some v) (hi : i < l.length) : l[i] = v := by rw [List.getElem?_eq_getElem hi] at h; exact Option.some.inj h
theorem mm_IS {l : List (List Int)} {k : Int} (h0 : 0 ≤ k) (hk : k + nIS l ≤ 4611686018427387904) (hl : l.length ≤ 4611686018427387904) : m_laws_markIntSS l k = some (mvIS k l, k + nIS l) := by
  unfold m_laws_markIntSS
  rw [mark_loop (mv := mvI) (nv := nI) h0 hk hl (fun r i k hi _ g0 g1 => ?_) (fun r k => ?_), Option.bind_some]
  · rfl
  · unfold m_laws_markIntSS_L1
    simp only
    rw [dlt hi, cond_true, atL_nat hi, Option.bind_some, mm_I g0 g1, Option.bind_some, Int.toNat_natCast, mvI_len, decide_eq_true rfl, cond_true]
  · unfold m_laws_markIntSS_L1
    simp only
    rw [dnl (Nat.le_refl _), cond_false]
theorem mh_IS {l : List (List Int)} {k : Int} (h0 : 0 ≤ k) (hk : k + nIS l ≤ 4611686018427387904) (hl : l.length ≤ 4611686018427387904) : m_laws_heldIntSS (mvIS k l) k = some (k + nIS l) := by
  have hm : (mvIS k l).length = l.length := mvS_len l k
  unfold m_laws_heldIntSS
  rw [held_loop (l := l) (nv := nI) h0 hk hl (fun i hi k' e g0 g1 => ?_) (fun k' => ?_), Option.bind_some]
  · rfl
  · unfold m_laws_heldIntSS_L1
    simp only
    rw [hm, dlt hi, cond_true, atL_nat (by omega), Option.bind_some, get_of (v := mvI k' l[i]) (by unfold mvIS; rw [mvS_get hi, e]) (by omega), mh_I g0 g1, Option.bind_some, nneg g0, cond_false]
  · unfold m_laws_heldIntSS_L1
    simp only
    rw [hm, dnl (Nat.le_refl _), cond_false]

/-! ## spaces -/
def nSe (s : Sc) : Nat := 1 + nIS s.basis
def mvSe (k : Int) (s : Sc) : Sc := ⟨k, mvIS (k + 1) s.basis⟩
def nSs : List Sc → Nat := nvS nSe
def mvSs : Int → List Sc → List Sc := mvS mvSe nSe
def lS (l : List Sc) : Prop := l.length ≤ 4611686018427387904 ∧ ∀ s ∈ l, s.basis.length ≤ 4611686018427387904
theorem mvIS_len (k : Int) (l : List (List Int)) : (mvIS k l).length = l.length := mvS_len l k
theorem mvSs_len (k : Int) (l : List Sc) : (mvSs k l).length = l.length := mvS_len l k
theorem mm_Ss {l : List Sc} {k : Int} (h0 : 0 ≤ k) (hk : k + nSs l ≤ 4611686018427387904) (hl : lS l) : m_laws_markSpaceS l k = some (mvSs k l, k + nSs l) := by
  unfold m_laws_markSpaceS
  rw [mark_loop (mv := mvSe) (nv := nSe) h0 hk hl.1 (fun r i k hi hm g0 g1 => ?_) (fun r k => ?_), Option.bind_some]
  · rfl
  · unfold nSe at g1
    unfold m_laws_markSpaceS_L1
    simp only
    rw [dlt hi, cond_true, atL_nat hi, Option.bind_some, wr_sm (x := k + 1) (by omega), mm_IS (by omega) (by omega) (hl.2 _ hm), Option.bind_some, mvIS_len, decide_eq_true rfl, cond_true, Int.toNat_natCast]
    unfold mvSe nSe
    congr 4
    omega
  · unfold m_laws_markSpaceS_L1
    simp only
    rw [dnl (Nat.le_refl _), cond_false]
theorem mh_Ss {l : List Sc} {k : Int} (h0 : 0 ≤ k) (hk : k + nSs l ≤ 4611686018427387904) (hl : lS l) : m_laws_heldSpaceS (mvSs k l) k = some (k + nSs l) := by
  have hm : (mvSs k l).length = l.length := mvS_len l k
  unfold m_laws_heldSpaceS
  rw [held_loop (l := l) (nv := nSe) h0 hk hl.1 (fun i hi k' e g0 g1 => ?_) (fun k' => ?_), Option.bind_some]
  · rfl
  · unfold nSe at g1
    unfold m_laws_heldSpaceS_L1
    simp only
    rw [hm, dlt hi, cond_true, atL_nat (by omega), Option.bind_some, get_of (v := mvSe k' l[i]) (by unfold mvSs; rw [mvS_get hi, e]) (by omega)]
    unfold mvSe
    simp only [decide_true, Bool.not_true, cond_false, Option.bind_some]
    rw [wr_sm (x := k' + 1) (by omega), mh_IS (by omega) (by omega) (hl.2 _ (List.getElem_mem hi)), Option.bind_some, nneg (by omega), cond_false]
    unfold nSe
    congr 3
    omega
  · unfold m_laws_heldSpaceS_L1
    simp only
    rw [hm, dnl (Nat.le_refl _), cond_false]

/-! ## quivers, matrices, representations -/
def nQ (q : Qv) : Nat := nI q.src + nI q.tgt
def mvQ (k : Int) (q : Qv) : Qv := ⟨q.n, mvI k q.src, mvI (k + nI q.src) q.tgt⟩
theorem mm_Q {q : Qv} {k : Int} (h0 : 0 ≤ k) (hk : k + nQ q ≤ 4611686018427387904) : m_laws_markQuiver q k = some ((mvQ k q).src, (mvQ k q).tgt, k + nQ q) := by
  unfold nQ at hk
  unfold m_laws_markQuiver
  rw [mm_I h0 (by omega), Option.bind_some, mvI_len, decide_eq_true rfl, cond_true, mm_I (by omega) (by omega), Option.bind_some, mvI_len, decide_eq_true rfl, cond_true]
  unfold mvQ nQ
  congr 3
  omega
def nMe (m : Mt) : Nat := 2 + nI m.cells
def mvMe (k : Int) (m : Mt) : Mt := ⟨k, k + 1, mvI (k + 2) m.cells⟩
def nMs : List Mt → Nat := nvS nMe
def mvMs : Int → List Mt → List Mt := mvS mvMe nMe
theorem mvMs_len (k : Int) (l : List Mt) : (mvMs k l).length = l.length := mvS_len l k
theorem mm_Ms {l : List Mt} {k : Int} (h0 : 0 ≤ k) (hk : k + nMs l ≤ 4611686018427387904) (hl : l.length ≤ 4611686018427387904) : m_laws_markMatrixS l k = some (mvMs k l, k + nMs l) := by
  unfold m_laws_markMatrixS
  rw [mark_loop (mv := mvMe) (nv := nMe) h0 hk hl (fun r i k hi hm g0 g1 => ?_) (fun r k => ?_), Option.bind_some]
  · rfl
  · unfold nMe at g1
    unfold m_laws_markMatrixS_L1
    simp only
    rw [dlt hi, cond_true, atL_nat hi, Option.bind_some, wr_sm (x := k + 1) (by omega), wr_sm (x := k + 1 + 1) (by omega), show k + 1 + 1 = k + 2 by omega, mm_I (by omega) (by omega), Option.bind_some, mvI_len, decide_eq_true rfl, cond_true, Int.toNat_natCast]
    unfold mvMe nMe
    congr 4
    omega
  · unfold m_laws_markMatrixS_L1
    simp only
    rw [dnl (Nat.le_refl _), cond_false]
def nR (r : Rp) : Nat := nQ r.q + nI r.dims + nMs r.maps
def mvR (k : Int) (r : Rp) : Rp := ⟨r.p, mvQ k r.q, mvI (k + nQ r.q) r.dims, mvMs (k + nQ r.q + nI r.dims) r.maps⟩
theorem mm_R {r : Rp} {k : Int} (h0 : 0 ≤ k) (hk : k + nR r ≤ 4611686018427387904) (hl : r.maps.length ≤ 4611686018427387904) : m_laws_markRep r k = some ((mvR k r).q.src, (mvR k r).q.tgt, (mvR k r).dims, (mvR k r).maps, k + nR r) := by
  unfold nR at hk
  unfold m_laws_markRep
  rw [mm_Q h0 (by omega), Option.bind_some]
  simp only [mvQ, mvI_len, decide_true, cond_true]
  rw [mm_I (by omega) (by omega), Option.bind_some]
  simp only [mvI_len, decide_true, cond_true]
  rw [mm_Ms (by omega) (by omega) hl, Option.bind_some]
  simp only [mvMs_len, decide_true, cond_true]
  unfold mvR nR
  congr 5
  omega
theorem mvR_len (k : Int) (r : Rp) : (mvR k r).q.src.length = r.q.src.length ∧ (mvR k r).q.tgt.length = r.q.tgt.length ∧ (mvR k r).dims.length = r.dims.length ∧ (mvR k r).maps.length = r.maps.length := ⟨mvI_len _ _, mvI_len _ _, mvI_len _ _, mvMs_len _ _⟩

/-! ## what bounded values take -/
theorem nMs_bd {l : List Mt} (h : l.length ≤ 1048576 ∧ ∀ m ∈ l, bM m) : nMs l ≤ 2097152 * 1048576 := by
  have := nvS_le (nv := nMe) (c := 2097152) (l := l) fun m hm => by have := (h.2 m hm).1; unfold bI at this; unfold nMe; rw [nI_len]; omega
  unfold nMs
  calc nvS nMe l ≤ 2097152 * l.length := this
    _ ≤ 2097152 * 1048576 := Nat.mul_le_mul_left _ h.1
theorem nR_bd {r : Rp} (h : bR r) : nR r ≤ 4398046511104 := by
  obtain ⟨⟨h1, h2, _⟩, h3, h4, _⟩ := h
  have := nMs_bd h4
  unfold bI at h1 h2 h3
  unfold nR nQ
  rw [nI_len, nI_len, nI_len]
  omega
theorem nIS_bd {l : List (List Int)} (h : l.length ≤ 1048576 ∧ ∀ v ∈ l, bI v) : nIS l ≤ 1048576 * 1048576 := by
  have := nvS_le (nv := nI) (c := 1048576) (l := l) fun m hm => by have := h.2 m hm; unfold bI at this; rw [nI_len]; exact this
  unfold nIS
  calc nvS nI l ≤ 1048576 * l.length := this
    _ ≤ 1048576 * 1048576 := Nat.mul_le_mul_left _ h.1
theorem nSs_bd {l : List Sc} (h : l.length ≤ 1048576 ∧ ∀ s ∈ l, bS s) : nSs l ≤ 2305843009213693952 := by
  have := nvS_le (nv := nSe) (c := 2097152 * 1048576) (l := l) fun m hm => by have := nIS_bd (h.2 m hm).1; unfold nSe; omega
  unfold nSs
  calc nvS nSe l ≤ 2097152 * 1048576 * l.length := this
    _ ≤ 2097152 * 1048576 * 1048576 := Nat.mul_le_mul_left _ h.1
    _ ≤ 2305843009213693952 := by decide
theorem lS_of {l : List Sc} (h : l.length ≤ 1048576 ∧ ∀ s ∈ l, bS s) : lS l := ⟨by omega, fun s hs => by have := (h.2 s hs).1.1; omega⟩
end Go.Proofs.Ytjfcjkeghigipaa
end

section
set_option linter.unusedVariables false
set_option linter.unusedSimpArgs false
/-
  Models and contracts of functions, made by the extractor (ex.py).
-/
namespace Go.Proofs.Ytjfcjkeghigipaa
open Go.RowKit
set_option linter.unusedVariables false
set_option linter.unusedSimpArgs false
set_option maxRecDepth 10000
set_option maxHeartbeats 4000000

noncomputable def m_laws_FnExactSubspacesOf (a0 : Rp) : Option Bool :=
  Option.bind (m_laws_szRep a0 1048576) fun v1 =>
  bif decide (v1 < 0) then
    (some (true))
  else
    (Option.bind (m_laws_toRep a0) fun v3 =>
    Option.bind (m_spec_SubspacesOf v3) fun v4 =>
    Option.bind (m_laws_toRep a0) fun v5 =>
    Option.bind (m_impl_SubspacesOf v5) fun v6 =>
    Option.bind (m_laws_eqSpaceS v6.1 v4.1) fun v7 =>
    bif !v7 then
      (some (false))
    else
      (bif !(v6.2 == v4.2) then
        (some (false))
      else
        (Option.bind (m_laws_toRep a0) fun v10 =>
        Option.bind (m_laws_eqRep v5 v10) fun v11 =>
        bif !v11 then
          (some (false))
        else
          (Option.bind (m_laws_markRep v5 1) fun v13 =>
          bif decide (v13.1.length = v5.q.src.length) then
            (bif decide (v13.2.1.length = v5.q.tgt.length) then
              (bif decide (v13.2.2.1.length = v5.dims.length) then
                (bif decide (v13.2.2.2.1.length = v5.maps.length) then
                  (bif decide (v13.2.2.2.2 < 0) then
                    (some (false))
                  else
                    (Option.bind (m_laws_eqSpaceS v6.1 v4.1) fun v19 =>
                    bif !v19 then
                      (some (false))
                    else
                      (bif !(v6.2 == v4.2) then
                        (some (false))
                      else
                        (Option.bind (m_laws_markSpaceS v6.1 1) fun v22 =>
                        bif decide (v22.1.length = v6.1.length) then
                          (Option.bind (m_laws_heldSpaceS v22.1 1) fun v24 =>
                          bif decide (v24 < 0) then
                            (some (false))
                          else
                            (bif !decide (v24 = v22.2) then
                              (some (false))
                            else
                              (Option.bind (m_laws_toRep a0) fun v27 =>
                              Option.bind (m_impl_SubspacesOf v27) fun v28 =>
                              Option.bind (m_laws_eqSpaceS v28.1 v4.1) fun v29 =>
                              bif !v29 then
                                (some (false))
                              else
                                (bif !(v28.2 == v4.2) then
                                  (some (false))
                                else
                                  (Option.bind (m_laws_heldSpaceS v22.1 1) fun v32 =>
                                  bif decide (v32 < 0) then
                                    (some (false))
                                  else
                                    (bif !decide (v32 = v22.2) then
                                      (some (false))
                                    else
                                      (some (true))))))))
                        else none))))
                else none)
              else none)
            else none)
          else none))))

theorem c_laws_FnExactSubspacesOf (a0 : Rp) (r : Bool) (h : m_laws_FnExactSubspacesOf a0 = some r) : HasC Try.prog 4 [.agg (eR a0)] (.bl r) := by
  refine hasC_mkW TT_ok (rvs := [.tmp 2]) (ns := [0, 1, 2, 3, 4, 5, 6, 7, 8, 9, 10, 11, 12, 13]) Try.func4 rfl rfl Try.ntmps4 rfl rfl rfl (fun W => ?_)
  refine rawE_agg ?_
  refine rawC_sc ?_
  refine rawC_sc ?_
  refine rawC_d (fun w0_2 S0_2 r0_2 => ?_)
  refine rawC_d (fun w0_3 S0_3 r0_3 => ?_)
  refine rawC_d (fun w0_4 S0_4 r0_4 => ?_)
  refine rawC_d (fun w0_5 S0_5 r0_5 => ?_)
  refine rawC_nil ?_
  refine rawE_nil ?_
  refine ac_seq ?_
  refine ac_regionS ?_
  refine sops_eff (w_box rfl rfl rfl rfl) rfl rfl rfl ?_
  refine sops_eff (eff_assign rfl) rfl rfl rfl ?_
  refine sops_nil ?_
  refine then_n ?_
  refine ac_seq ?_
  refine ac_regionS ?_
  refine sops_eff (eff_assign rfl) rfl rfl rfl ?_
  refine sops_nil ?_
  refine then_n ?_
  refine ac_seq ?_
  refine ac_regionS ?_
  refine sops_eff (w_load_ptr TT_ok rfl rfl rfl rfl rfl rfl rfl) rfl rfl rfl ?_
  refine sops_eff (eff_move rfl) rfl rfl rfl ?_
  obtain ⟨v1, hv1, h⟩ := ob h
  refine sops_eff (w_call0sK (c_laws_szRep a0 1048576 v1 hv1) rfl (vk_cons (.inr (raw_cons (raw1_sc rfl rfl) (raw_cons (raw1_sc rfl rfl) (raw_cons (raw1_d rfl r0_2) (raw_cons (raw1_d rfl r0_3) (raw_cons (raw1_d rfl r0_4) (raw_cons (raw1_d rfl r0_5) raw_nil))))))) (vk_cons (.inl (va_same rfl)) vk_nil))) rfl rfl rfl ?_
  refine sops_eff (eff_assign rfl) rfl rfl rfl ?_
  refine sops_nil ?_
  refine then_n ?_
  refine ac_seq ?_
  refine ac_seq ?_
  refine ac_regionS ?_
  refine sops_eff (eff_move rfl) rfl rfl rfl ?_
  refine sops_eff (w_cmp rfl rfl rfl) rfl rfl rfl ?_
  refine sops_nil ?_
  refine then_n ?_
  rcases cb h with ⟨q2, h⟩ | ⟨q2, h⟩
  · refine ac_condT rfl q2 ?_
    refine ac_seq ?_
    refine ac_regionS ?_
    refine sops_eff (eff_assign rfl) rfl rfl rfl ?_
    refine sops_nil ?_
    refine then_n ?_
    refine ac_ret ?_
    refine then_ret ?_
    obtain rfl := so h
    exact ret_mk rfl rfl rfl (fz_bl rfl)
  · refine ac_condF rfl q2 ?_
    refine ac_skip ?_
    refine then_n ?_
    refine ac_seq ?_
    refine ac_regionS ?_
    refine sops_eff (w_load_ptr TT_ok rfl rfl rfl rfl rfl rfl rfl) rfl rfl rfl ?_
    obtain ⟨v3, hv3, h⟩ := ob h
    refine sops_eff (AEff.conv (w_call0K (x := .agg [.int v3.p, .int v3.q.n, .own 1 0 (List.map eI v3.q.src).length, .own 2 0 (List.map eI v3.q.tgt).length, .own 3 0 (List.map eI v3.dims).length, .own 4 0 (List.map eM v3.maps).length]) (nb := [(1, ⟨1, absEs (List.map eI v3.q.src)⟩), (2, ⟨1, absEs (List.map eI v3.q.tgt)⟩), (3, ⟨1, absEs (List.map eI v3.dims)⟩), (4, ⟨3, absEs (List.map eM v3.maps)⟩)]) (c_laws_toRep a0 v3 hv3) rfl (by rfl) rfl rfl (g1_cons trivial (g1_cons trivial (g1_cons (okI.good _) (g1_cons (okI.good _) (g1_cons (okI.good _) (g1_cons (okMt.good _) g1_nil)))))) (vk_cons (.inr (raw_cons (raw1_sc rfl rfl) (raw_cons (raw1_sc rfl rfl) (raw_cons (raw1_d rfl r0_2) (raw_cons (raw1_d rfl r0_3) (raw_cons (raw1_d rfl r0_4) (raw_cons (raw1_d rfl r0_5) raw_nil))))))) vk_nil)) (v' := .agg [.int v3.p, .int v3.q.n, .own 1 0 v3.q.src.length, .own 2 0 v3.q.tgt.length, .own 3 0 v3.dims.length, .own 4 0 v3.maps.length]) (ed' := [(1, some ⟨1, List.map (ow eI) v3.q.src⟩), (2, some ⟨1, List.map (ow eI) v3.q.tgt⟩), (3, some ⟨1, List.map (ow eI) v3.dims⟩), (4, some ⟨3, List.map (ow eM) v3.maps⟩)]) (by simp only [len_map]) (ed_ok (nb' := [(1, ⟨1, List.map (ow eI) v3.q.src⟩), (2, ⟨1, List.map (ow eI) v3.q.tgt⟩), (3, ⟨1, List.map (ow eI) v3.dims⟩), (4, ⟨3, List.map (ow eM) v3.maps⟩)]) (by simp only [abs_map]))) rfl rfl rfl ?_
    obtain ⟨v4, hv4, h⟩ := ob h
    refine sops_eff (AEff.conv (w_call0K (x := .tuple [.own 5 0 (List.map eS v4.1).length, .bl v4.2]) (nb := [(5, ⟨2, absEs (List.map eS v4.1)⟩)]) (c_spec_SubspacesOf v3 v4 hv4) rfl (by rfl) rfl rfl (gB_cons (okSc.good _) (gB_cons trivial gB_nil)) (vk_cons (.inl (va_agg' (v1_cons (v1_same rfl) (v1_cons (v1_same rfl) (v1_cons (v1_T okI rfl rfl) (v1_cons (v1_T okI rfl rfl) (v1_cons (v1_T okI rfl rfl) (v1_cons (v1_T okMt rfl rfl) v1_nil)))))))) vk_nil)) (v' := .tuple [.own 5 0 v4.1.length, .bl v4.2]) (ed' := [(5, some ⟨2, List.map (ow eS) v4.1⟩)]) (by simp only [len_map]) (ed_ok (nb' := [(5, ⟨2, List.map (ow eS) v4.1⟩)]) (by simp only [abs_map]))) rfl rfl rfl ?_
    refine sops_eff (eff_move rfl) rfl rfl rfl ?_
    refine sops_eff (eff_extract rfl rfl (by intro _ h; cases h)) rfl rfl rfl ?_
    refine sops_eff (eff_extract rfl rfl (by intro _ h; cases h)) rfl rfl rfl ?_
    refine sops_eff (eff_assign rfl) rfl rfl rfl ?_
    refine sops_eff (eff_assign rfl) rfl rfl rfl ?_
    refine sops_nil ?_
    refine then_n ?_
    refine ac_ent (t := mkS [(1, .ptr 0 0 0), (4, .own 5 0 v4.1.length), (5, .bl v4.2)] [(0, ⟨6, [[.int a0.p, .int a0.q.n, .sc w0_2, .sc w0_3, .sc w0_4, .sc w0_5]]⟩), (5, ⟨2, List.map (ow eS) v4.1⟩)] 6 [6, 7, 8, 9, 10, 11, 12, 13, 14, 15, 16, 17, 18, 19] ⟨0, true, some (W.heap.size, W)⟩) (ent_mk (σ := sg [(0, 0), (5, 5)]) ⟨⟨_, rfl, ⟨rfl, rfl, rfl, rfl⟩⟩, ⟨_, rfl, ⟨rfl, rfl, rfl, rfl⟩⟩, ⟨_, rfl, rfl⟩, trivial⟩ ⟨⟨_, rfl, rfl, .inr ⟨_, _, rfl, ⟨_, _, rfl, rfl, ⟨_, _, rfl, rfl, ⟨_, _, rfl, rfl, ⟨_, _, rfl, rfl, ⟨_, _, rfl, rfl, ⟨_, _, rfl, rfl, rfl⟩⟩⟩⟩⟩⟩, rfl⟩⟩, rfl, ⟨_, rfl, rfl, .inl ⟨rfl, okSc.plainO _⟩⟩, rfl, trivial⟩ rfl) ?_
    refine ac_seq ?_
    refine ac_regionS ?_
    refine sops_eff (w_load_ptr TT_ok rfl rfl rfl rfl rfl rfl rfl) rfl rfl rfl ?_
    obtain ⟨v5, hv5, h⟩ := ob h
    refine sops_eff (AEff.conv (w_call0K (x := .agg [.int v5.p, .int v5.q.n, .own 6 0 (List.map eI v5.q.src).length, .own 7 0 (List.map eI v5.q.tgt).length, .own 8 0 (List.map eI v5.dims).length, .own 9 0 (List.map eM v5.maps).length]) (nb := [(6, ⟨1, absEs (List.map eI v5.q.src)⟩), (7, ⟨1, absEs (List.map eI v5.q.tgt)⟩), (8, ⟨1, absEs (List.map eI v5.dims)⟩), (9, ⟨3, absEs (List.map eM v5.maps)⟩)]) (c_laws_toRep a0 v5 hv5) rfl (by rfl) rfl rfl (g1_cons trivial (g1_cons trivial (g1_cons (okI.good _) (g1_cons (okI.good _) (g1_cons (okI.good _) (g1_cons (okMt.good _) g1_nil)))))) (vk_cons (.inr (raw_cons (raw1_sc rfl rfl) (raw_cons (raw1_sc rfl rfl) (raw_cons (raw1_d rfl r0_2) (raw_cons (raw1_d rfl r0_3) (raw_cons (raw1_d rfl r0_4) (raw_cons (raw1_d rfl r0_5) raw_nil))))))) vk_nil)) (v' := .agg [.int v5.p, .int v5.q.n, .own 6 0 v5.q.src.length, .own 7 0 v5.q.tgt.length, .own 8 0 v5.dims.length, .own 9 0 v5.maps.length]) (ed' := [(6, some ⟨1, List.map (ow eI) v5.q.src⟩), (7, some ⟨1, List.map (ow eI) v5.q.tgt⟩), (8, some ⟨1, List.map (ow eI) v5.dims⟩), (9, some ⟨3, List.map (ow eM) v5.maps⟩)]) (by simp only [len_map]) (ed_ok (nb' := [(6, ⟨1, List.map (ow eI) v5.q.src⟩), (7, ⟨1, List.map (ow eI) v5.q.tgt⟩), (8, ⟨1, List.map (ow eI) v5.dims⟩), (9, ⟨3, List.map (ow eM) v5.maps⟩)]) (by simp only [abs_map]))) rfl rfl rfl ?_
    refine sops_eff (w_alloc TT_ok rfl rfl) rfl rfl rfl ?_
    refine sops_eff (w_store TT_ok rfl rfl rfl rfl rfl rfl rfl rfl) rfl rfl rfl ?_
    refine sops_nil ?_
    refine then_n ?_
    refine ac_seq ?_
    refine ac_regionS ?_
    refine sops_eff (w_load_ptr TT_ok rfl rfl rfl rfl rfl rfl rfl) rfl rfl rfl ?_
    obtain ⟨v6, hv6, h⟩ := ob h
    refine sops_eff (AEff.conv (w_call0K (x := .tuple [.own 11 0 (List.map eS v6.1).length, .bl v6.2]) (nb := [(11, ⟨2, absEs (List.map eS v6.1)⟩)]) (c_impl_SubspacesOf v5 v6 hv6) rfl (by rfl) rfl rfl (gB_cons (okSc.good _) (gB_cons trivial gB_nil)) (vk_cons (.inl (va_agg' (v1_cons (v1_same rfl) (v1_cons (v1_same rfl) (v1_cons (v1_T okI rfl rfl) (v1_cons (v1_T okI rfl rfl) (v1_cons (v1_T okI rfl rfl) (v1_cons (v1_T okMt rfl rfl) v1_nil)))))))) vk_nil)) (v' := .tuple [.own 11 0 v6.1.length, .bl v6.2]) (ed' := [(11, some ⟨2, List.map (ow eS) v6.1⟩)]) (by simp only [len_map]) (ed_ok (nb' := [(11, ⟨2, List.map (ow eS) v6.1⟩)]) (by simp only [abs_map]))) rfl rfl rfl ?_
    refine sops_eff (eff_move rfl) rfl rfl rfl ?_
    refine sops_eff (eff_extract rfl rfl (by intro _ h; cases h)) rfl rfl rfl ?_
    refine sops_eff (eff_extract rfl rfl (by intro _ h; cases h)) rfl rfl rfl ?_
    refine sops_eff (eff_assign rfl) rfl rfl rfl ?_
    refine sops_eff (eff_assign rfl) rfl rfl rfl ?_
    refine sops_nil ?_
    refine then_n ?_
    refine ac_seq ?_
    refine ac_seq ?_
    refine ac_regionS ?_
    refine sops_eff (eff_move rfl) rfl rfl rfl ?_
    refine sops_eff (eff_move rfl) rfl rfl rfl ?_
    obtain ⟨v7, hv7, h⟩ := ob h
    refine sops_eff (w_call0sK (c_laws_eqSpaceS v6.1 v4.1 v7 hv7) rfl (vk_cons (.inl (va_T okSc rfl rfl)) (vk_cons (.inl (va_T okSc rfl rfl)) vk_nil))) rfl rfl rfl ?_
    refine sops_eff (w_not rfl) rfl rfl rfl ?_
    refine sops_eff (eff_move rfl) rfl rfl rfl ?_
    rcases cb h with ⟨q8, h⟩ | ⟨q8, h⟩
    · refine sops_lit 36 rfl q8 ?_
      refine sops_skip rfl rfl ?_
      refine sops_skip rfl rfl ?_
      refine sops_skip rfl rfl ?_
      refine sops_eff (eff_pick rfl rfl) rfl rfl rfl ?_
      refine sops_nil ?_
      refine then_n ?_
      refine ac_ent (t := mkS [(1, .ptr 0 0 0), (4, .own 5 0 v4.1.length), (5, .bl v4.2), (6, .ptr 10 0 0), (7, .own 11 0 v6.1.length), (8, .bl v6.2), (40, .bl true)] [(0, ⟨6, [[.int a0.p, .int a0.q.n, .sc w0_2, .sc w0_3, .sc w0_4, .sc w0_5]]⟩), (5, ⟨2, List.map (ow eS) v4.1⟩), (6, ⟨1, List.map (ow eI) v5.q.src⟩), (7, ⟨1, List.map (ow eI) v5.q.tgt⟩), (8, ⟨1, List.map (ow eI) v5.dims⟩), (9, ⟨3, List.map (ow eM) v5.maps⟩), (10, ⟨6, [[.int v5.p, .int v5.q.n, .own 6 0 v5.q.src.length, .own 7 0 v5.q.tgt.length, .own 8 0 v5.dims.length, .own 9 0 v5.maps.length]]⟩), (11, ⟨2, List.map (ow eS) v6.1⟩)] 12 [12, 13, 14, 15, 16, 17, 18, 19, 20, 21, 22, 23, 24, 25] ⟨0, true, some (W.heap.size, W)⟩) (ent_mk (σ := sg [(0, 0), (5, 5), (6, 6), (7, 7), (8, 8), (9, 9), (10, 10), (11, 11)]) ⟨⟨_, rfl, ⟨rfl, rfl, rfl, rfl⟩⟩, ⟨_, rfl, ⟨rfl, rfl, rfl, rfl⟩⟩, ⟨_, rfl, rfl⟩, ⟨_, rfl, ⟨rfl, rfl, rfl, rfl⟩⟩, ⟨_, rfl, ⟨rfl, rfl, rfl, rfl⟩⟩, ⟨_, rfl, rfl⟩, ⟨_, rfl, rfl⟩, trivial⟩ ⟨⟨_, rfl, rfl, .inr ⟨_, _, rfl, ⟨_, _, rfl, rfl, ⟨_, _, rfl, rfl, ⟨_, _, rfl, rfl, ⟨_, _, rfl, rfl, ⟨_, _, rfl, rfl, ⟨_, _, rfl, rfl, rfl⟩⟩⟩⟩⟩⟩, rfl⟩⟩, rfl, ⟨_, rfl, rfl, .inl ⟨rfl, okSc.plainO _⟩⟩, rfl, ⟨_, rfl, rfl, .inl ⟨rfl, okI.plainO _⟩⟩, rfl, ⟨_, rfl, rfl, .inl ⟨rfl, okI.plainO _⟩⟩, rfl, ⟨_, rfl, rfl, .inl ⟨rfl, okI.plainO _⟩⟩, rfl, ⟨_, rfl, rfl, .inl ⟨rfl, okMt.plainO _⟩⟩, rfl, ⟨_, rfl, rfl, .inr ⟨_, _, rfl, ⟨_, _, rfl, rfl, ⟨_, _, rfl, rfl, ⟨_, _, rfl, ⟨rfl, rfl, rfl, rfl⟩, ⟨_, _, rfl, ⟨rfl, rfl, rfl, rfl⟩, ⟨_, _, rfl, ⟨rfl, rfl, rfl, rfl⟩, ⟨_, _, rfl, ⟨rfl, rfl, rfl, rfl⟩, rfl⟩⟩⟩⟩⟩⟩, rfl⟩⟩, rfl, ⟨_, rfl, rfl, .inl ⟨rfl, okSc.plainO _⟩⟩, rfl, trivial⟩ rfl) ?_
      refine ac_condT rfl rfl ?_
      refine ac_seq ?_
      refine ac_regionS ?_
      refine sops_eff (eff_assign rfl) rfl rfl rfl ?_
      refine sops_nil ?_
      refine then_n ?_
      refine ac_ret ?_
      refine then_ret ?_
      obtain rfl := so h
      exact ret_mk rfl rfl rfl (fz_bl rfl)
    · refine sops_lit 36 rfl q8 ?_
      refine sops_eff (eff_move rfl) rfl rfl rfl ?_
      refine sops_eff (eff_move rfl) rfl rfl rfl ?_
      refine sops_eff (w_neqB (by kernel_rfl) rfl rfl) rfl rfl rfl ?_
      refine sops_eff (eff_pick rfl rfl) rfl rfl rfl ?_
      refine sops_nil ?_
      refine then_n ?_
      refine ac_ent (t := mkS [(1, .ptr 0 0 0), (4, .own 5 0 v4.1.length), (5, .bl v4.2), (6, .ptr 10 0 0), (7, .own 11 0 v6.1.length), (8, .bl v6.2), (40, .bl (!(v6.2 == v4.2)))] [(0, ⟨6, [[.int a0.p, .int a0.q.n, .sc w0_2, .sc w0_3, .sc w0_4, .sc w0_5]]⟩), (5, ⟨2, List.map (ow eS) v4.1⟩), (6, ⟨1, List.map (ow eI) v5.q.src⟩), (7, ⟨1, List.map (ow eI) v5.q.tgt⟩), (8, ⟨1, List.map (ow eI) v5.dims⟩), (9, ⟨3, List.map (ow eM) v5.maps⟩), (10, ⟨6, [[.int v5.p, .int v5.q.n, .own 6 0 v5.q.src.length, .own 7 0 v5.q.tgt.length, .own 8 0 v5.dims.length, .own 9 0 v5.maps.length]]⟩), (11, ⟨2, List.map (ow eS) v6.1⟩)] 12 [12, 13, 14, 15, 16, 17, 18, 19, 20, 21, 22, 23, 24, 25] ⟨0, true, some (W.heap.size, W)⟩) (ent_mk (σ := sg [(0, 0), (5, 5), (6, 6), (7, 7), (8, 8), (9, 9), (10, 10), (11, 11)]) ⟨⟨_, rfl, ⟨rfl, rfl, rfl, rfl⟩⟩, ⟨_, rfl, ⟨rfl, rfl, rfl, rfl⟩⟩, ⟨_, rfl, rfl⟩, ⟨_, rfl, ⟨rfl, rfl, rfl, rfl⟩⟩, ⟨_, rfl, ⟨rfl, rfl, rfl, rfl⟩⟩, ⟨_, rfl, rfl⟩, ⟨_, rfl, rfl⟩, trivial⟩ ⟨⟨_, rfl, rfl, .inr ⟨_, _, rfl, ⟨_, _, rfl, rfl, ⟨_, _, rfl, rfl, ⟨_, _, rfl, rfl, ⟨_, _, rfl, rfl, ⟨_, _, rfl, rfl, ⟨_, _, rfl, rfl, rfl⟩⟩⟩⟩⟩⟩, rfl⟩⟩, rfl, ⟨_, rfl, rfl, .inl ⟨rfl, okSc.plainO _⟩⟩, rfl, ⟨_, rfl, rfl, .inl ⟨rfl, okI.plainO _⟩⟩, rfl, ⟨_, rfl, rfl, .inl ⟨rfl, okI.plainO _⟩⟩, rfl, ⟨_, rfl, rfl, .inl ⟨rfl, okI.plainO _⟩⟩, rfl, ⟨_, rfl, rfl, .inl ⟨rfl, okMt.plainO _⟩⟩, rfl, ⟨_, rfl, rfl, .inr ⟨_, _, rfl, ⟨_, _, rfl, rfl, ⟨_, _, rfl, rfl, ⟨_, _, rfl, ⟨rfl, rfl, rfl, rfl⟩, ⟨_, _, rfl, ⟨rfl, rfl, rfl, rfl⟩, ⟨_, _, rfl, ⟨rfl, rfl, rfl, rfl⟩, ⟨_, _, rfl, ⟨rfl, rfl, rfl, rfl⟩, rfl⟩⟩⟩⟩⟩⟩, rfl⟩⟩, rfl, ⟨_, rfl, rfl, .inl ⟨rfl, okSc.plainO _⟩⟩, rfl, trivial⟩ rfl) ?_
      rcases cb h with ⟨q9, h⟩ | ⟨q9, h⟩
      · refine ac_condT rfl q9 ?_
        refine ac_seq ?_
        refine ac_regionS ?_
        refine sops_eff (eff_assign rfl) rfl rfl rfl ?_
        refine sops_nil ?_
        refine then_n ?_
        refine ac_ret ?_
        refine then_ret ?_
        obtain rfl := so h
        exact ret_mk rfl rfl rfl (fz_bl rfl)
      · refine ac_condF rfl q9 ?_
        refine ac_skip ?_
        refine then_n ?_
        refine ac_seq ?_
        refine ac_seq ?_
        refine ac_region_draw MIXX ?_
        refine aops_eff (w_load_ptr TT_ok rfl rfl rfl rfl rfl rfl rfl) rfl rfl rfl ?_
        refine aops_eff (w_load_ptr TT_ok rfl rfl rfl rfl rfl rfl rfl) rfl rfl rfl ?_
        obtain ⟨v10, hv10, h⟩ := ob h
        refine aops_eff (AEff.conv (w_call0K (x := .agg [.int v10.p, .int v10.q.n, .own 12 0 (List.map eI v10.q.src).length, .own 13 0 (List.map eI v10.q.tgt).length, .own 14 0 (List.map eI v10.dims).length, .own 15 0 (List.map eM v10.maps).length]) (nb := [(12, ⟨1, absEs (List.map eI v10.q.src)⟩), (13, ⟨1, absEs (List.map eI v10.q.tgt)⟩), (14, ⟨1, absEs (List.map eI v10.dims)⟩), (15, ⟨3, absEs (List.map eM v10.maps)⟩)]) (c_laws_toRep a0 v10 hv10) rfl (by rfl) rfl rfl (g1_cons trivial (g1_cons trivial (g1_cons (okI.good _) (g1_cons (okI.good _) (g1_cons (okI.good _) (g1_cons (okMt.good _) g1_nil)))))) (vk_cons (.inr (raw_cons (raw1_sc rfl rfl) (raw_cons (raw1_sc rfl rfl) (raw_cons (raw1_d rfl r0_2) (raw_cons (raw1_d rfl r0_3) (raw_cons (raw1_d rfl r0_4) (raw_cons (raw1_d rfl r0_5) raw_nil))))))) vk_nil)) (v' := .agg [.int v10.p, .int v10.q.n, .own 12 0 v10.q.src.length, .own 13 0 v10.q.tgt.length, .own 14 0 v10.dims.length, .own 15 0 v10.maps.length]) (ed' := [(12, some ⟨1, List.map (ow eI) v10.q.src⟩), (13, some ⟨1, List.map (ow eI) v10.q.tgt⟩), (14, some ⟨1, List.map (ow eI) v10.dims⟩), (15, some ⟨3, List.map (ow eM) v10.maps⟩)]) (by simp only [len_map]) (ed_ok (nb' := [(12, ⟨1, List.map (ow eI) v10.q.src⟩), (13, ⟨1, List.map (ow eI) v10.q.tgt⟩), (14, ⟨1, List.map (ow eI) v10.dims⟩), (15, ⟨3, List.map (ow eM) v10.maps⟩)]) (by simp only [abs_map]))) rfl rfl rfl ?_
        obtain ⟨v11, hv11, h⟩ := ob h
        refine aops_eff (w_call0sK (c_laws_eqRep v5 v10 v11 hv11) rfl (vk_cons (.inl (va_agg' (v1_cons (v1_same rfl) (v1_cons (v1_same rfl) (v1_cons (v1_T okI rfl rfl) (v1_cons (v1_T okI rfl rfl) (v1_cons (v1_T okI rfl rfl) (v1_cons (v1_T okMt rfl rfl) v1_nil)))))))) (vk_cons (.inl (va_agg' (v1_cons (v1_same rfl) (v1_cons (v1_same rfl) (v1_cons (v1_T okI rfl rfl) (v1_cons (v1_T okI rfl rfl) (v1_cons (v1_T okI rfl rfl) (v1_cons (v1_T okMt rfl rfl) v1_nil)))))))) vk_nil))) rfl rfl rfl ?_
        refine aops_eff (w_not rfl) rfl rfl rfl ?_
        refine aops_nil ?_
        refine ⟨by kernel_rfl, ?_⟩
        refine then_n ?_
        rcases cb h with ⟨q12, h⟩ | ⟨q12, h⟩
        · refine ac_condT rfl q12 ?_
          refine ac_seq ?_
          refine ac_regionS ?_
          refine sops_eff (eff_assign rfl) rfl rfl rfl ?_
          refine sops_nil ?_
          refine then_n ?_
          refine ac_ret ?_
          refine then_ret ?_
          obtain rfl := so h
          exact ret_mk rfl rfl rfl (fz_bl rfl)
        · refine ac_condF rfl q12 ?_
          refine ac_skip ?_
          refine then_n ?_
          refine ac_seq ?_
          refine ac_regionS ?_
          refine sops_eff (eff_assign rfl) rfl rfl rfl ?_
          refine sops_nil ?_
          refine then_n ?_
          refine ac_seq ?_
          refine ac_regionS ?_
          refine sops_eff (w_load_ptr TT_ok rfl rfl rfl rfl rfl rfl rfl) rfl rfl rfl ?_
          refine sops_eff (eff_move rfl) rfl rfl rfl ?_
          obtain ⟨v13, hv13, h⟩ := ob h
          refine sops_ent (t := mkS [(1, .ptr 0 0 0), (4, .own 5 0 v4.1.length), (5, .bl v4.2), (6, .ptr 10 0 0), (7, .own 11 0 v6.1.length), (8, .bl v6.2), (9, .int 1), (40, .bl (!(v6.2 == v4.2))), (41, .agg [.int v5.p, .int v5.q.n, .own 6 0 v5.q.src.length, .own 7 0 v5.q.tgt.length, .own 8 0 v5.dims.length, .own 9 0 v5.maps.length]), (42, .agg [.int a0.p, .int a0.q.n, .sc w0_2, .sc w0_3, .sc w0_4, .sc w0_5]), (43, .agg [.int v10.p, .int v10.q.n, .own 12 0 v10.q.src.length, .own 13 0 v10.q.tgt.length, .own 14 0 v10.dims.length, .own 15 0 v10.maps.length]), (44, .bl v11), (45, .bl (!v11)), (46, .agg [.int v5.p, .int v5.q.n, .own 6 0 v5.q.src.length, .own 7 0 v5.q.tgt.length, .own 8 0 v5.dims.length, .own 9 0 v5.maps.length]), (47, .int 1)] [(0, ⟨6, [[.int a0.p, .int a0.q.n, .sc w0_2, .sc w0_3, .sc w0_4, .sc w0_5]]⟩), (5, ⟨2, List.map (ow eS) v4.1⟩), (6, ⟨1, List.map (ow eI) v5.q.src⟩), (7, ⟨1, List.map (ow eI) v5.q.tgt⟩), (8, ⟨1, List.map (ow eI) v5.dims⟩), (9, ⟨3, List.map (ow eM) v5.maps⟩), (10, ⟨6, [[.int v5.p, .int v5.q.n, .own 6 0 v5.q.src.length, .own 7 0 v5.q.tgt.length, .own 8 0 v5.dims.length, .own 9 0 v5.maps.length]]⟩), (11, ⟨2, List.map (ow eS) v6.1⟩), (12, ⟨1, List.map (ow eI) v10.q.src⟩), (13, ⟨1, List.map (ow eI) v10.q.tgt⟩), (14, ⟨1, List.map (ow eI) v10.dims⟩), (15, ⟨3, List.map (ow eM) v10.maps⟩)] 16 [16, 17, 18, 19, 20, 21, 22, 23, 24, 25, 26, 27, 28, 29] ⟨0, true, some (W.heap.size, W)⟩) (ent_mk (σ := sg [(0, 0), (5, 5), (6, 6), (7, 7), (8, 8), (9, 9), (10, 10), (11, 11), (12, 12), (13, 13), (14, 14), (15, 15)]) ⟨⟨_, rfl, ⟨rfl, rfl, rfl, rfl⟩⟩, ⟨_, rfl, ⟨rfl, rfl, rfl, rfl⟩⟩, ⟨_, rfl, rfl⟩, ⟨_, rfl, ⟨rfl, rfl, rfl, rfl⟩⟩, ⟨_, rfl, ⟨rfl, rfl, rfl, rfl⟩⟩, ⟨_, rfl, rfl⟩, ⟨_, rfl, rfl⟩, ⟨_, rfl, rfl⟩, ⟨_, rfl, ⟨_, _, rfl, rfl, ⟨_, _, rfl, rfl, ⟨_, _, rfl, ⟨rfl, rfl, rfl, rfl⟩, ⟨_, _, rfl, ⟨rfl, rfl, rfl, rfl⟩, ⟨_, _, rfl, ⟨rfl, rfl, rfl, rfl⟩, ⟨_, _, rfl, ⟨rfl, rfl, rfl, rfl⟩, rfl⟩⟩⟩⟩⟩⟩⟩, ⟨_, rfl, ⟨_, _, rfl, rfl, ⟨_, _, rfl, rfl, ⟨_, _, rfl, rfl, ⟨_, _, rfl, rfl, ⟨_, _, rfl, rfl, ⟨_, _, rfl, rfl, rfl⟩⟩⟩⟩⟩⟩⟩, ⟨_, rfl, ⟨_, _, rfl, rfl, ⟨_, _, rfl, rfl, ⟨_, _, rfl, ⟨rfl, rfl, rfl, rfl⟩, ⟨_, _, rfl, ⟨rfl, rfl, rfl, rfl⟩, ⟨_, _, rfl, ⟨rfl, rfl, rfl, rfl⟩, ⟨_, _, rfl, ⟨rfl, rfl, rfl, rfl⟩, rfl⟩⟩⟩⟩⟩⟩⟩, ⟨_, rfl, rfl⟩, ⟨_, rfl, rfl⟩, ⟨_, rfl, ⟨_, _, rfl, rfl, ⟨_, _, rfl, rfl, ⟨_, _, rfl, ⟨rfl, rfl, rfl, rfl⟩, ⟨_, _, rfl, ⟨rfl, rfl, rfl, rfl⟩, ⟨_, _, rfl, ⟨rfl, rfl, rfl, rfl⟩, ⟨_, _, rfl, ⟨rfl, rfl, rfl, rfl⟩, rfl⟩⟩⟩⟩⟩⟩⟩, ⟨_, rfl, rfl⟩, trivial⟩ ⟨⟨_, rfl, rfl, .inr ⟨_, _, rfl, ⟨_, _, rfl, rfl, ⟨_, _, rfl, rfl, ⟨_, _, rfl, rfl, ⟨_, _, rfl, rfl, ⟨_, _, rfl, rfl, ⟨_, _, rfl, rfl, rfl⟩⟩⟩⟩⟩⟩, rfl⟩⟩, rfl, ⟨_, rfl, rfl, .inl ⟨rfl, okSc.plainO _⟩⟩, rfl, ⟨_, rfl, rfl, .inl ⟨rfl, okI.plainO _⟩⟩, rfl, ⟨_, rfl, rfl, .inl ⟨rfl, okI.plainO _⟩⟩, rfl, ⟨_, rfl, rfl, .inl ⟨rfl, okI.plainO _⟩⟩, rfl, ⟨_, rfl, rfl, .inl ⟨rfl, okMt.plainO _⟩⟩, rfl, ⟨_, rfl, rfl, .inr ⟨_, _, rfl, ⟨_, _, rfl, rfl, ⟨_, _, rfl, rfl, ⟨_, _, rfl, ⟨rfl, rfl, rfl, rfl⟩, ⟨_, _, rfl, ⟨rfl, rfl, rfl, rfl⟩, ⟨_, _, rfl, ⟨rfl, rfl, rfl, rfl⟩, ⟨_, _, rfl, ⟨rfl, rfl, rfl, rfl⟩, rfl⟩⟩⟩⟩⟩⟩, rfl⟩⟩, rfl, ⟨_, rfl, rfl, .inl ⟨rfl, okSc.plainO _⟩⟩, rfl, ⟨_, rfl, rfl, .inl ⟨rfl, okI.plainO _⟩⟩, rfl, ⟨_, rfl, rfl, .inl ⟨rfl, okI.plainO _⟩⟩, rfl, ⟨_, rfl, rfl, .inl ⟨rfl, okI.plainO _⟩⟩, rfl, ⟨_, rfl, rfl, .inl ⟨rfl, okMt.plainO _⟩⟩, rfl, trivial⟩ rfl) ?_
          refine sops_T (σ := sg [(0, 6), (1, 7), (2, 8), (3, 9)]) (σ' := sg [(6, 0), (7, 1), (8, 2), (9, 3)]) (touch := [6, 7, 8, 9]) (news := []) (hl2 := [(6, ⟨1, List.map (ow eI) v13.1⟩), (7, ⟨1, List.map (ow eI) v13.2.1⟩), (8, ⟨1, List.map (ow eI) v13.2.2.1⟩), (9, ⟨3, List.map (ow eM) v13.2.2.2.1⟩)]) (n' := 16) (r2 := .int v13.2.2.2.2) (c_laws_markRep v5 1 v13 hv13) rfl rfl ⟨_, _, rfl, ⟨_, _, rfl, rfl, ⟨_, _, rfl, rfl, ⟨_, _, rfl, ⟨rfl, rfl, rfl, rfl⟩, ⟨_, _, rfl, ⟨rfl, rfl, rfl, rfl⟩, ⟨_, _, rfl, ⟨rfl, rfl, rfl, rfl⟩, ⟨_, _, rfl, ⟨rfl, rfl, rfl, rfl⟩, rfl⟩⟩⟩⟩⟩⟩, ⟨_, _, rfl, rfl, rfl⟩⟩ ⟨⟨_, rfl, rfl, .inl ⟨rfl, okI.plainO _⟩⟩, rfl, ⟨_, rfl, rfl, .inl ⟨rfl, okI.plainO _⟩⟩, rfl, ⟨_, rfl, rfl, .inl ⟨rfl, okI.plainO _⟩⟩, rfl, ⟨_, rfl, rfl, .inl ⟨rfl, okMt.plainO _⟩⟩, rfl, trivial⟩ rfl rfl rfl ⟨⟨_, rfl, rfl, .inl ⟨rfl, okI.plainO _⟩⟩, rfl, ⟨_, rfl, rfl, .inl ⟨rfl, okI.plainO _⟩⟩, rfl, ⟨_, rfl, rfl, .inl ⟨rfl, okI.plainO _⟩⟩, rfl, ⟨_, rfl, rfl, .inl ⟨rfl, okMt.plainO _⟩⟩, rfl, trivial⟩ rfl rfl rfl ⟨rfl, okI.tame _ _, ⟨rfl, okI.tame _ _, ⟨rfl, okI.tame _ _, ⟨rfl, okMt.tame _ _, trivial⟩⟩⟩⟩ rfl rfl rfl rfl rfl (dfE_ok ⟨rfl, rfl, rfl, rfl, rfl, rfl, rfl, rfl, rfl, rfl, rfl, rfl, rfl, rfl, rfl, trivial⟩) (dfH_ok (skip := [6, 7, 8, 9]) ⟨.inr (df_lit rfl), .inr (okSc.df _ _), .inl (by decide), .inl (by decide), .inl (by decide), .inl (by decide), .inr (df_lit rfl), .inr (okSc.df _ _), .inr (okI.df _ _), .inr (okI.df _ _), .inr (okI.df _ _), .inr (okMt.df _ _), trivial⟩) ?_
          obtain ⟨q14, h⟩ := cg h
          obtain ⟨q15, h⟩ := cg h
          obtain ⟨q16, h⟩ := cg h
          obtain ⟨q17, h⟩ := cg h
          refine sops_eff (eff_assign rfl) rfl rfl rfl ?_
          refine sops_nil ?_
          refine then_n ?_
          refine ac_seq ?_
          refine ac_seq ?_
          refine ac_regionS ?_
          refine sops_eff (eff_move rfl) rfl rfl rfl ?_
          refine sops_eff (w_cmp rfl rfl rfl) rfl rfl rfl ?_
          refine sops_eff (eff_move rfl) rfl rfl rfl ?_
          rcases cb h with ⟨q18, h⟩ | ⟨q18, h⟩
          · refine sops_lit 51 rfl q18 ?_
            refine sops_skip rfl rfl ?_
            refine sops_skip rfl rfl ?_
            refine sops_skip rfl rfl ?_
            refine sops_skip rfl rfl ?_
            refine sops_eff (eff_pick rfl rfl) rfl rfl rfl ?_
            refine sops_eff (eff_move rfl) rfl rfl rfl ?_
            refine sops_skip rfl rfl ?_
            refine sops_skip rfl rfl ?_
            refine sops_skip rfl rfl ?_
            refine sops_eff (eff_pick rfl rfl) rfl rfl rfl ?_
            refine sops_nil ?_
            refine then_n ?_
            refine ac_ent (t := mkS [(1, .ptr 0 0 0), (4, .own 5 0 v4.1.length), (5, .bl v4.2), (7, .own 11 0 v6.1.length), (61, .bl true)] [(0, ⟨6, [[.int a0.p, .int a0.q.n, .sc w0_2, .sc w0_3, .sc w0_4, .sc w0_5]]⟩), (5, ⟨2, List.map (ow eS) v4.1⟩), (11, ⟨2, List.map (ow eS) v6.1⟩)] 16 [16, 17, 18, 19, 20, 21, 22, 23, 24, 25, 26, 27, 28, 29] ⟨0, true, some (W.heap.size, W)⟩) (ent_mk (σ := sg [(0, 0), (5, 5), (11, 11)]) ⟨⟨_, rfl, ⟨rfl, rfl, rfl, rfl⟩⟩, ⟨_, rfl, ⟨rfl, rfl, rfl, rfl⟩⟩, ⟨_, rfl, rfl⟩, ⟨_, rfl, ⟨rfl, rfl, rfl, rfl⟩⟩, ⟨_, rfl, rfl⟩, trivial⟩ ⟨⟨_, rfl, rfl, .inr ⟨_, _, rfl, ⟨_, _, rfl, rfl, ⟨_, _, rfl, rfl, ⟨_, _, rfl, rfl, ⟨_, _, rfl, rfl, ⟨_, _, rfl, rfl, ⟨_, _, rfl, rfl, rfl⟩⟩⟩⟩⟩⟩, rfl⟩⟩, rfl, ⟨_, rfl, rfl, .inl ⟨rfl, okSc.plainO _⟩⟩, rfl, ⟨_, rfl, rfl, .inl ⟨rfl, okSc.plainO _⟩⟩, rfl, trivial⟩ rfl) ?_
            refine ac_condT rfl rfl ?_
            refine ac_seq ?_
            refine ac_regionS ?_
            refine sops_eff (eff_assign rfl) rfl rfl rfl ?_
            refine sops_nil ?_
            refine then_n ?_
            refine ac_ret ?_
            refine then_ret ?_
            obtain rfl := so h
            exact ret_mk rfl rfl rfl (fz_bl rfl)
          · refine sops_lit 51 rfl q18 ?_
            refine sops_eff (eff_move rfl) rfl rfl rfl ?_
            refine sops_eff (eff_move rfl) rfl rfl rfl ?_
            obtain ⟨v19, hv19, h⟩ := ob h
            refine sops_eff (w_call0sK (c_laws_eqSpaceS v6.1 v4.1 v19 hv19) rfl (vk_cons (.inl (va_T okSc rfl rfl)) (vk_cons (.inl (va_T okSc rfl rfl)) vk_nil))) rfl rfl rfl ?_
            refine sops_eff (w_not rfl) rfl rfl rfl ?_
            refine sops_eff (eff_pick rfl rfl) rfl rfl rfl ?_
            refine sops_eff (eff_move rfl) rfl rfl rfl ?_
            rcases cb h with ⟨q20, h⟩ | ⟨q20, h⟩
            · refine sops_lit 57 rfl q20 ?_
              refine sops_skip rfl rfl ?_
              refine sops_skip rfl rfl ?_
              refine sops_skip rfl rfl ?_
              refine sops_eff (eff_pick rfl rfl) rfl rfl rfl ?_
              refine sops_nil ?_
              refine then_n ?_
              refine ac_ent (t := mkS [(1, .ptr 0 0 0), (4, .own 5 0 v4.1.length), (5, .bl v4.2), (7, .own 11 0 v6.1.length), (61, .bl true)] [(0, ⟨6, [[.int a0.p, .int a0.q.n, .sc w0_2, .sc w0_3, .sc w0_4, .sc w0_5]]⟩), (5, ⟨2, List.map (ow eS) v4.1⟩), (11, ⟨2, List.map (ow eS) v6.1⟩)] 16 [16, 17, 18, 19, 20, 21, 22, 23, 24, 25, 26, 27, 28, 29] ⟨0, true, some (W.heap.size, W)⟩) (ent_mk (σ := sg [(0, 0), (5, 5), (11, 11)]) ⟨⟨_, rfl, ⟨rfl, rfl, rfl, rfl⟩⟩, ⟨_, rfl, ⟨rfl, rfl, rfl, rfl⟩⟩, ⟨_, rfl, rfl⟩, ⟨_, rfl, ⟨rfl, rfl, rfl, rfl⟩⟩, ⟨_, rfl, rfl⟩, trivial⟩ ⟨⟨_, rfl, rfl, .inr ⟨_, _, rfl, ⟨_, _, rfl, rfl, ⟨_, _, rfl, rfl, ⟨_, _, rfl, rfl, ⟨_, _, rfl, rfl, ⟨_, _, rfl, rfl, ⟨_, _, rfl, rfl, rfl⟩⟩⟩⟩⟩⟩, rfl⟩⟩, rfl, ⟨_, rfl, rfl, .inl ⟨rfl, okSc.plainO _⟩⟩, rfl, ⟨_, rfl, rfl, .inl ⟨rfl, okSc.plainO _⟩⟩, rfl, trivial⟩ rfl) ?_
              refine ac_condT rfl rfl ?_
              refine ac_seq ?_
              refine ac_regionS ?_
              refine sops_eff (eff_assign rfl) rfl rfl rfl ?_
              refine sops_nil ?_
              refine then_n ?_
              refine ac_ret ?_
              refine then_ret ?_
              obtain rfl := so h
              exact ret_mk rfl rfl rfl (fz_bl rfl)
            · refine sops_lit 57 rfl q20 ?_
              refine sops_eff (eff_move rfl) rfl rfl rfl ?_
              refine sops_eff (eff_move rfl) rfl rfl rfl ?_
              refine sops_eff (w_neqB (by kernel_rfl) rfl rfl) rfl rfl rfl ?_
              refine sops_eff (eff_pick rfl rfl) rfl rfl rfl ?_
              refine sops_nil ?_
              refine then_n ?_
              refine ac_ent (t := mkS [(1, .ptr 0 0 0), (4, .own 5 0 v4.1.length), (5, .bl v4.2), (7, .own 11 0 v6.1.length), (61, .bl (!(v6.2 == v4.2)))] [(0, ⟨6, [[.int a0.p, .int a0.q.n, .sc w0_2, .sc w0_3, .sc w0_4, .sc w0_5]]⟩), (5, ⟨2, List.map (ow eS) v4.1⟩), (11, ⟨2, List.map (ow eS) v6.1⟩)] 16 [16, 17, 18, 19, 20, 21, 22, 23, 24, 25, 26, 27, 28, 29] ⟨0, true, some (W.heap.size, W)⟩) (ent_mk (σ := sg [(0, 0), (5, 5), (11, 11)]) ⟨⟨_, rfl, ⟨rfl, rfl, rfl, rfl⟩⟩, ⟨_, rfl, ⟨rfl, rfl, rfl, rfl⟩⟩, ⟨_, rfl, rfl⟩, ⟨_, rfl, ⟨rfl, rfl, rfl, rfl⟩⟩, ⟨_, rfl, rfl⟩, trivial⟩ ⟨⟨_, rfl, rfl, .inr ⟨_, _, rfl, ⟨_, _, rfl, rfl, ⟨_, _, rfl, rfl, ⟨_, _, rfl, rfl, ⟨_, _, rfl, rfl, ⟨_, _, rfl, rfl, ⟨_, _, rfl, rfl, rfl⟩⟩⟩⟩⟩⟩, rfl⟩⟩, rfl, ⟨_, rfl, rfl, .inl ⟨rfl, okSc.plainO _⟩⟩, rfl, ⟨_, rfl, rfl, .inl ⟨rfl, okSc.plainO _⟩⟩, rfl, trivial⟩ rfl) ?_
              rcases cb h with ⟨q21, h⟩ | ⟨q21, h⟩
              · refine ac_condT rfl q21 ?_
                refine ac_seq ?_
                refine ac_regionS ?_
                refine sops_eff (eff_assign rfl) rfl rfl rfl ?_
                refine sops_nil ?_
                refine then_n ?_
                refine ac_ret ?_
                refine then_ret ?_
                obtain rfl := so h
                exact ret_mk rfl rfl rfl (fz_bl rfl)
              · refine ac_condF rfl q21 ?_
                refine ac_skip ?_
                refine then_n ?_
                refine ac_seq ?_
                refine ac_regionS ?_
                refine sops_eff (eff_assign rfl) rfl rfl rfl ?_
                refine sops_nil ?_
                refine then_n ?_
                refine ac_seq ?_
                refine ac_regionS ?_
                refine sops_eff (eff_move rfl) rfl rfl rfl ?_
                refine sops_eff (eff_move rfl) rfl rfl rfl ?_
                obtain ⟨v22, hv22, h⟩ := ob h
                refine sops_ent (t := mkS [(1, .ptr 0 0 0), (4, .own 5 0 v4.1.length), (5, .bl v4.2), (7, .own 11 0 v6.1.length), (10, .int 1), (61, .bl (!(v6.2 == v4.2))), (62, .own 11 0 v6.1.length), (63, .int 1)] [(0, ⟨6, [[.int a0.p, .int a0.q.n, .sc w0_2, .sc w0_3, .sc w0_4, .sc w0_5]]⟩), (5, ⟨2, List.map (ow eS) v4.1⟩), (11, ⟨2, List.map (ow eS) v6.1⟩)] 16 [16, 17, 18, 19, 20, 21, 22, 23, 24, 25, 26, 27, 28, 29] ⟨0, true, some (W.heap.size, W)⟩) (ent_mk (σ := sg [(0, 0), (5, 5), (11, 11)]) ⟨⟨_, rfl, ⟨rfl, rfl, rfl, rfl⟩⟩, ⟨_, rfl, ⟨rfl, rfl, rfl, rfl⟩⟩, ⟨_, rfl, rfl⟩, ⟨_, rfl, ⟨rfl, rfl, rfl, rfl⟩⟩, ⟨_, rfl, rfl⟩, ⟨_, rfl, rfl⟩, ⟨_, rfl, ⟨rfl, rfl, rfl, rfl⟩⟩, ⟨_, rfl, rfl⟩, trivial⟩ ⟨⟨_, rfl, rfl, .inr ⟨_, _, rfl, ⟨_, _, rfl, rfl, ⟨_, _, rfl, rfl, ⟨_, _, rfl, rfl, ⟨_, _, rfl, rfl, ⟨_, _, rfl, rfl, ⟨_, _, rfl, rfl, rfl⟩⟩⟩⟩⟩⟩, rfl⟩⟩, rfl, ⟨_, rfl, rfl, .inl ⟨rfl, okSc.plainO _⟩⟩, rfl, ⟨_, rfl, rfl, .inl ⟨rfl, okSc.plainO _⟩⟩, rfl, trivial⟩ rfl) ?_
                refine sops_T (σ := sg [(0, 11)]) (σ' := sg [(11, 0)]) (touch := [11]) (news := []) (hl2 := [(11, ⟨2, List.map (ow eS) v22.1⟩)]) (n' := 16) (r2 := .int v22.2) (c_laws_markSpaceS v6.1 1 v22 hv22) rfl rfl ⟨_, _, rfl, ⟨rfl, rfl, rfl, rfl⟩, ⟨_, _, rfl, rfl, rfl⟩⟩ ⟨⟨_, rfl, rfl, .inl ⟨rfl, okSc.plainO _⟩⟩, rfl, trivial⟩ rfl rfl rfl ⟨⟨_, rfl, rfl, .inl ⟨rfl, okSc.plainO _⟩⟩, rfl, trivial⟩ rfl rfl rfl ⟨rfl, okSc.tame _ _, trivial⟩ rfl rfl rfl rfl rfl (dfE_ok ⟨rfl, rfl, rfl, rfl, rfl, rfl, rfl, rfl, trivial⟩) (dfH_ok (skip := [11]) ⟨.inr (df_lit rfl), .inr (okSc.df _ _), .inl (by decide), trivial⟩) ?_
                obtain ⟨q23, h⟩ := cg h
                refine sops_eff (eff_assign rfl) rfl rfl rfl ?_
                refine sops_nil ?_
                refine then_n ?_
                refine ac_seq ?_
                refine ac_regionS ?_
                refine sops_eff (eff_assign rfl) rfl rfl rfl ?_
                refine sops_nil ?_
                refine then_n ?_
                refine ac_seq ?_
                refine ac_regionS ?_
                refine sops_eff (eff_move rfl) rfl rfl rfl ?_
                refine sops_eff (eff_move rfl) rfl rfl rfl ?_
                obtain ⟨v24, hv24, h⟩ := ob h
                refine sops_eff (w_call0sK (c_laws_heldSpaceS v22.1 1 v24 hv24) rfl (vk_cons (.inl (va_T okSc rfl (by first | rfl | simp only [List.length_set, of_decide_eq_true q23]))) (vk_cons (.inl (va_same rfl)) vk_nil))) rfl rfl rfl ?_
                refine sops_eff (eff_assign rfl) rfl rfl rfl ?_
                refine sops_nil ?_
                refine then_n ?_
                refine ac_seq ?_
                refine ac_seq ?_
                refine ac_regionS ?_
                refine sops_eff (eff_move rfl) rfl rfl rfl ?_
                refine sops_eff (w_cmp rfl rfl rfl) rfl rfl rfl ?_
                refine sops_nil ?_
                refine then_n ?_
                rcases cb h with ⟨q25, h⟩ | ⟨q25, h⟩
                · refine ac_condT rfl q25 ?_
                  refine ac_seq ?_
                  refine ac_regionS ?_
                  refine sops_eff (eff_assign rfl) rfl rfl rfl ?_
                  refine sops_nil ?_
                  refine then_n ?_
                  refine ac_ret ?_
                  refine then_ret ?_
                  obtain rfl := so h
                  exact ret_mk rfl rfl rfl (fz_bl rfl)
                · refine ac_condF rfl q25 ?_
                  refine ac_skip ?_
                  refine then_n ?_
                  refine ac_seq ?_
                  refine ac_seq ?_
                  refine ac_regionS ?_
                  refine sops_eff (eff_move rfl) rfl rfl rfl ?_
                  refine sops_eff (eff_move rfl) rfl rfl rfl ?_
                  refine sops_eff (w_cmp rfl rfl rfl) rfl rfl rfl ?_
                  refine sops_nil ?_
                  refine then_n ?_
                  rcases cb h with ⟨q26, h⟩ | ⟨q26, h⟩
                  · refine ac_condT rfl q26 ?_
                    refine ac_seq ?_
                    refine ac_regionS ?_
                    refine sops_eff (eff_assign rfl) rfl rfl rfl ?_
                    refine sops_nil ?_
                    refine then_n ?_
                    refine ac_ent (t := mkS [(2, .bl false)] [] 16 [16, 17, 18, 19, 20, 21, 22, 23, 24, 25, 26, 27, 28, 29] ⟨0, true, some (W.heap.size, W)⟩) (ent_mk (σ := sg []) ⟨⟨_, rfl, rfl⟩, trivial⟩ trivial rfl) ?_
                    refine ac_ret ?_
                    refine then_ret ?_
                    obtain rfl := so h
                    exact ret_mk rfl rfl rfl (fz_bl rfl)
                  · refine ac_condF rfl q26 ?_
                    refine ac_skip ?_
                    refine then_n ?_
                    refine ac_seq ?_
                    refine ac_regionS ?_
                    refine sops_eff (w_load_ptr TT_ok rfl rfl rfl rfl rfl rfl rfl) rfl rfl rfl ?_
                    obtain ⟨v27, hv27, h⟩ := ob h
                    refine sops_eff (AEff.conv (w_call0K (x := .agg [.int v27.p, .int v27.q.n, .own 16 0 (List.map eI v27.q.src).length, .own 17 0 (List.map eI v27.q.tgt).length, .own 18 0 (List.map eI v27.dims).length, .own 19 0 (List.map eM v27.maps).length]) (nb := [(16, ⟨1, absEs (List.map eI v27.q.src)⟩), (17, ⟨1, absEs (List.map eI v27.q.tgt)⟩), (18, ⟨1, absEs (List.map eI v27.dims)⟩), (19, ⟨3, absEs (List.map eM v27.maps)⟩)]) (c_laws_toRep a0 v27 hv27) rfl (by rfl) rfl rfl (g1_cons trivial (g1_cons trivial (g1_cons (okI.good _) (g1_cons (okI.good _) (g1_cons (okI.good _) (g1_cons (okMt.good _) g1_nil)))))) (vk_cons (.inr (raw_cons (raw1_sc rfl rfl) (raw_cons (raw1_sc rfl rfl) (raw_cons (raw1_d rfl r0_2) (raw_cons (raw1_d rfl r0_3) (raw_cons (raw1_d rfl r0_4) (raw_cons (raw1_d rfl r0_5) raw_nil))))))) vk_nil)) (v' := .agg [.int v27.p, .int v27.q.n, .own 16 0 v27.q.src.length, .own 17 0 v27.q.tgt.length, .own 18 0 v27.dims.length, .own 19 0 v27.maps.length]) (ed' := [(16, some ⟨1, List.map (ow eI) v27.q.src⟩), (17, some ⟨1, List.map (ow eI) v27.q.tgt⟩), (18, some ⟨1, List.map (ow eI) v27.dims⟩), (19, some ⟨3, List.map (ow eM) v27.maps⟩)]) (by simp only [len_map]) (ed_ok (nb' := [(16, ⟨1, List.map (ow eI) v27.q.src⟩), (17, ⟨1, List.map (ow eI) v27.q.tgt⟩), (18, ⟨1, List.map (ow eI) v27.dims⟩), (19, ⟨3, List.map (ow eM) v27.maps⟩)]) (by simp only [abs_map]))) rfl rfl rfl ?_
                    obtain ⟨v28, hv28, h⟩ := ob h
                    refine sops_eff (AEff.conv (w_call0K (x := .tuple [.own 20 0 (List.map eS v28.1).length, .bl v28.2]) (nb := [(20, ⟨2, absEs (List.map eS v28.1)⟩)]) (c_impl_SubspacesOf v27 v28 hv28) rfl (by rfl) rfl rfl (gB_cons (okSc.good _) (gB_cons trivial gB_nil)) (vk_cons (.inl (va_agg' (v1_cons (v1_same rfl) (v1_cons (v1_same rfl) (v1_cons (v1_T okI rfl rfl) (v1_cons (v1_T okI rfl rfl) (v1_cons (v1_T okI rfl rfl) (v1_cons (v1_T okMt rfl rfl) v1_nil)))))))) vk_nil)) (v' := .tuple [.own 20 0 v28.1.length, .bl v28.2]) (ed' := [(20, some ⟨2, List.map (ow eS) v28.1⟩)]) (by simp only [len_map]) (ed_ok (nb' := [(20, ⟨2, List.map (ow eS) v28.1⟩)]) (by simp only [abs_map]))) rfl rfl rfl ?_
                    refine sops_eff (eff_move rfl) rfl rfl rfl ?_
                    refine sops_eff (eff_extract rfl rfl (by intro _ h; cases h)) rfl rfl rfl ?_
                    refine sops_eff (eff_extract rfl rfl (by intro _ h; cases h)) rfl rfl rfl ?_
                    refine sops_eff (eff_assign rfl) rfl rfl rfl ?_
                    refine sops_eff (eff_assign rfl) rfl rfl rfl ?_
                    refine sops_nil ?_
                    refine then_n ?_
                    refine ac_ent (t := mkS [(4, .own 5 0 v4.1.length), (5, .bl v4.2), (7, .own 11 0 v22.1.length), (10, .int v22.2), (12, .own 20 0 v28.1.length), (13, .bl v28.2)] [(5, ⟨2, List.map (ow eS) v4.1⟩), (11, ⟨2, List.map (ow eS) v22.1⟩), (20, ⟨2, List.map (ow eS) v28.1⟩)] 21 [21, 22, 23, 24, 25, 26, 27, 28, 29, 30, 31, 32, 33, 34] ⟨0, true, some (W.heap.size, W)⟩) (ent_mk (σ := sg [(5, 5), (11, 11), (20, 20)]) ⟨⟨_, rfl, ⟨rfl, rfl, rfl, rfl⟩⟩, ⟨_, rfl, rfl⟩, ⟨_, rfl, ⟨rfl, rfl, (by simp only [len_map, List.length_append, List.length_set, List.length_replicate, List.length_cons, List.length_nil, of_decide_eq_true q23]), rfl⟩⟩, ⟨_, rfl, rfl⟩, ⟨_, rfl, ⟨rfl, rfl, rfl, rfl⟩⟩, ⟨_, rfl, rfl⟩, trivial⟩ ⟨⟨_, rfl, rfl, .inl ⟨rfl, okSc.plainO _⟩⟩, rfl, ⟨_, rfl, rfl, .inl ⟨rfl, okSc.plainO _⟩⟩, rfl, ⟨_, rfl, rfl, .inl ⟨rfl, okSc.plainO _⟩⟩, rfl, trivial⟩ rfl) ?_
                    refine ac_seq ?_
                    refine ac_seq ?_
                    refine ac_regionS ?_
                    refine sops_eff (eff_move rfl) rfl rfl rfl ?_
                    refine sops_eff (eff_move rfl) rfl rfl rfl ?_
                    obtain ⟨v29, hv29, h⟩ := ob h
                    refine sops_eff (w_call0sK (c_laws_eqSpaceS v28.1 v4.1 v29 hv29) rfl (vk_cons (.inl (va_T okSc rfl rfl)) (vk_cons (.inl (va_T okSc rfl rfl)) vk_nil))) rfl rfl rfl ?_
                    refine sops_eff (w_not rfl) rfl rfl rfl ?_
                    refine sops_eff (eff_move rfl) rfl rfl rfl ?_
                    rcases cb h with ⟨q30, h⟩ | ⟨q30, h⟩
                    · refine sops_lit 83 rfl q30 ?_
                      refine sops_skip rfl rfl ?_
                      refine sops_skip rfl rfl ?_
                      refine sops_skip rfl rfl ?_
                      refine sops_eff (eff_pick rfl rfl) rfl rfl rfl ?_
                      refine sops_nil ?_
                      refine then_n ?_
                      refine ac_condT rfl rfl ?_
                      refine ac_seq ?_
                      refine ac_regionS ?_
                      refine sops_eff (eff_assign rfl) rfl rfl rfl ?_
                      refine sops_nil ?_
                      refine then_n ?_
                      refine ac_ret ?_
                      refine then_ret ?_
                      obtain rfl := so h
                      exact ret_mk rfl rfl rfl (fz_bl rfl)
                    · refine sops_lit 83 rfl q30 ?_
                      refine sops_eff (eff_move rfl) rfl rfl rfl ?_
                      refine sops_eff (eff_move rfl) rfl rfl rfl ?_
                      refine sops_eff (w_neqB (by kernel_rfl) rfl rfl) rfl rfl rfl ?_
                      refine sops_eff (eff_pick rfl rfl) rfl rfl rfl ?_
                      refine sops_nil ?_
                      refine then_n ?_
                      rcases cb h with ⟨q31, h⟩ | ⟨q31, h⟩
                      · refine ac_condT rfl q31 ?_
                        refine ac_seq ?_
                        refine ac_regionS ?_
                        refine sops_eff (eff_assign rfl) rfl rfl rfl ?_
                        refine sops_nil ?_
                        refine then_n ?_
                        refine ac_ret ?_
                        refine then_ret ?_
                        obtain rfl := so h
                        exact ret_mk rfl rfl rfl (fz_bl rfl)
                      · refine ac_condF rfl q31 ?_
                        refine ac_skip ?_
                        refine then_n ?_
                        refine ac_seq ?_
                        refine ac_regionS ?_
                        refine sops_eff (eff_assign rfl) rfl rfl rfl ?_
                        refine sops_nil ?_
                        refine then_n ?_
                        refine ac_seq ?_
                        refine ac_regionS ?_
                        refine sops_eff (eff_move rfl) rfl rfl rfl ?_
                        refine sops_eff (eff_move rfl) rfl rfl rfl ?_
                        obtain ⟨v32, hv32, h⟩ := ob h
                        refine sops_eff (w_call0sK (c_laws_heldSpaceS v22.1 1 v32 hv32) rfl (vk_cons (.inl (va_T okSc rfl (by first | rfl | simp only [List.length_set, of_decide_eq_true q23]))) (vk_cons (.inl (va_same rfl)) vk_nil))) rfl rfl rfl ?_
                        refine sops_eff (eff_assign rfl) rfl rfl rfl ?_
                        refine sops_nil ?_
                        refine then_n ?_
                        refine ac_ent (t := mkS [(10, .int v22.2), (11, .int v32)] [] 21 [21, 22, 23, 24, 25, 26, 27, 28, 29, 30, 31, 32, 33, 34] ⟨0, true, some (W.heap.size, W)⟩) (ent_mk (σ := sg []) ⟨⟨_, rfl, rfl⟩, ⟨_, rfl, rfl⟩, trivial⟩ trivial rfl) ?_
                        refine ac_seq ?_
                        refine ac_seq ?_
                        refine ac_regionS ?_
                        refine sops_eff (eff_move rfl) rfl rfl rfl ?_
                        refine sops_eff (w_cmp rfl rfl rfl) rfl rfl rfl ?_
                        refine sops_nil ?_
                        refine then_n ?_
                        rcases cb h with ⟨q33, h⟩ | ⟨q33, h⟩
                        · refine ac_condT rfl q33 ?_
                          refine ac_seq ?_
                          refine ac_regionS ?_
                          refine sops_eff (eff_assign rfl) rfl rfl rfl ?_
                          refine sops_nil ?_
                          refine then_n ?_
                          refine ac_ret ?_
                          refine then_ret ?_
                          obtain rfl := so h
                          exact ret_mk rfl rfl rfl (fz_bl rfl)
                        · refine ac_condF rfl q33 ?_
                          refine ac_skip ?_
                          refine then_n ?_
                          refine ac_seq ?_
                          refine ac_seq ?_
                          refine ac_regionS ?_
                          refine sops_eff (eff_move rfl) rfl rfl rfl ?_
                          refine sops_eff (eff_move rfl) rfl rfl rfl ?_
                          refine sops_eff (w_cmp rfl rfl rfl) rfl rfl rfl ?_
                          refine sops_nil ?_
                          refine then_n ?_
                          rcases cb h with ⟨q34, h⟩ | ⟨q34, h⟩
                          · refine ac_condT rfl q34 ?_
                            refine ac_seq ?_
                            refine ac_regionS ?_
                            refine sops_eff (eff_assign rfl) rfl rfl rfl ?_
                            refine sops_nil ?_
                            refine then_n ?_
                            refine ac_ret ?_
                            refine then_ret ?_
                            obtain rfl := so h
                            exact ret_mk rfl rfl rfl (fz_bl rfl)
                          · refine ac_condF rfl q34 ?_
                            refine ac_skip ?_
                            refine then_n ?_
                            refine ac_seq ?_
                            refine ac_regionS ?_
                            refine sops_eff (eff_assign rfl) rfl rfl rfl ?_
                            refine sops_nil ?_
                            refine then_n ?_
                            refine ac_ret ?_
                            obtain rfl := so h
                            exact ret_mk rfl rfl rfl (fz_bl rfl)

end Go.Proofs.Ytjfcjkeghigipaa
end

section
set_option linter.unusedVariables false
set_option linter.unusedSimpArgs false
/-
  Stars, columns, images; the spaces of a star's representation and the representation of spaces.
-/
namespace Go.Proofs.Ytjfcjkeghigipaa
open Go.RowKit
set_option linter.unusedVariables false
set_option linter.unusedSimpArgs false

/-! ## loops that list, loops that stop -/
theorem Lp_map {α β : Type} {l : List α} {f : α → β} {body : List β × Int → Option ((List β × Int) ⊕ List β)} (hl : l.length ≤ 4611686018427387904)
    (hs : ∀ (k : Nat) (hk : k < l.length) (o : List β), o.length = k → body (o, k) = some (.inl (o ++ [f l[k]], wr (k + 1)))) (he : ∀ o, body (o, l.length) = some (.inr o)) : Lp body ([], 0) = some (l.map f) := by
  rw [Lp_go (r := l.map f) (fun k => ((l.take k).map f, (k : Int))) l.length (by simp) (fun k hk => ?_) (fun _ => ?_)]
  · rw [hs k hk _ (by simp; omega), wr_suc hk hl, List.take_succ_eq_append_getElem hk, List.map_append]; rfl
  · rw [he, List.take_length]
theorem Lp_allS {σ ρ : Type} {body : σ → Option (σ ⊕ ρ)} (I : Nat → σ) (n : Nat) (P : Nat → Bool) (b fin : ρ)
    (hs : ∀ k, k < n → (∀ j, j < k → P j = true) → body (I k) = some (bif P k then .inl (I (k + 1)) else .inr b)) (he : (∀ j, j < n → P j = true) → body (I n) = some (.inr fin)) : Lp body (I 0) = some (bif (List.range n).all P then fin else b) := by
  have key : ∀ d k, k + d = n → (∀ j, j < k → P j = true) → Lp body (I k) = some (bif (List.range n).all P then fin else b) := by
    intro d
    induction d with
    | zero =>
      intro k hk hP
      have : k = n := by omega
      subst this
      rw [Lp_stop (he hP), show (List.range k).all P = true from range_all.2 hP]; rfl
    | succ d ih =>
      intro k hk hP
      have h := hs k (by omega) hP
      cases e : P k with
      | true =>
        rw [e] at h
        rw [Lp_step h]
        exact ih (k + 1) (by omega) fun j hj => by
          rcases Nat.lt_or_ge j k with h1 | h1
          · exact hP j h1
          · rw [show j = k by omega]; exact e
      | false =>
        rw [e] at h
        have : (List.range n).all P = false := by
          cases h2 : (List.range n).all P with
          | false => rfl
          | true => rw [range_all.1 h2 k (by omega)] at e; cases e
        rw [Lp_stop h, this]; rfl
  exact key n 0 (by omega) fun j hj => absurd hj (Nat.not_lt_zero _)

/-! ## stars -/
def starQ (n : Nat) : Qv := ⟨(n + 1 : Nat), (List.range n).map fun k : Nat => (k : Int), List.replicate n (n : Int)⟩
def starR (n : Int) : Qv × Bool := bif inR n 1 4 then (starQ n.toNat, true) else (⟨0, [], []⟩, false)
theorem rep_snoc {α : Type} (k : Nat) (x : α) : List.replicate k x ++ [x] = List.replicate (k + 1) x := (List.replicate_succ' ..).symm
theorem range_snoc (k : Nat) : ((List.range k).map fun k : Nat => (k : Int)) ++ [(k : Int)] = (List.range (k + 1)).map fun k : Nat => (k : Int) := by rw [List.range_succ, List.map_append]; rfl
theorem n_specStar (n : Int) : m_spec_StarOf n = some (starR n) := by
  unfold m_spec_StarOf starR
  rw [n_l1In, Option.bind_some]
  cases h : inR n 1 4 with
  | false => rfl
  | true =>
    have hb := inR_true h
    obtain ⟨k, rfl⟩ : ∃ k : Nat, n = k := ⟨n.toNat, by omega⟩
    rw [Bool.not_true, cond_false, cond_true, Int.toNat_natCast]
    rw [Lp_go (r := ((List.range k).map (fun k : Nat => (k : Int)), List.replicate k (k : Int))) (fun i => ((List.range i).map (fun k : Nat => (k : Int)), List.replicate i (k : Int), (i : Int))) k (by simp) (fun i hi => ?_) (fun _ => ?_), Option.bind_some, wr_sm (by omega)]
    · rfl
    · unfold m_spec_StarOf_L1
      simp only
      rw [dlt hi, cond_true, decide_eq_true (by simp; omega), cond_true, decide_eq_true (by simp; omega), cond_true, wr_suc hi (by omega), range_snoc, rep_snoc]
    · unfold m_spec_StarOf_L1
      simp only
      rw [dnl (Nat.le_refl _), cond_false]
theorem n_implStar (n : Int) : m_impl_StarOf n = some (starR n) := by
  unfold m_impl_StarOf starR
  rw [n_within, Option.bind_some]
  cases h : inR n 1 4 with
  | false => rfl
  | true =>
    have hb := inR_true h
    obtain ⟨k, rfl⟩ : ∃ k : Nat, n = k := ⟨n.toNat, by omega⟩
    rw [Bool.not_true, cond_false, cond_true, Int.toNat_natCast]
    rw [Lp_go (r := ((List.range k).map (fun k : Nat => (k : Int)), List.replicate k (k : Int))) (fun i => ((List.range i).map (fun k : Nat => (k : Int)), List.replicate i (k : Int), (i : Int))) k (by simp) (fun i hi => ?_) (fun _ => ?_), Option.bind_some, wr_sm (by omega)]
    · rfl
    · unfold m_impl_StarOf_L1
      simp only
      rw [dlt hi, cond_true, decide_eq_true (by simp; omega), cond_true, decide_eq_true (by simp; omega), cond_true, wr_suc hi (by omega), range_snoc, rep_snoc]
    · unfold m_impl_StarOf_L1
      simp only
      rw [dnl (Nat.le_refl _), cond_false]
theorem starR_b (n : Int) : bQ (starR n).1 := by
  unfold starR
  cases h : inR n 1 4 with
  | false => exact ⟨by simp [bI], by simp [bI], trivial⟩
  | true =>
    have hb := inR_true h
    exact ⟨by simp [bI, starQ]; omega, by simp [bI, starQ]; omega, trivial⟩

/-! ## columns -/
def colL (r c : Nat) (F : Nat → Nat → Int) : List (List Int) := (List.range c).map fun k => rowL r fun i => F i k
theorem n_column {r c k : Nat} (hN : r * c ≤ 1048576) (hr : r ≤ 1048576) (hk : k < c) (F : Nat → Nat → Int) : m_impl_Matrix_column ⟨r, c, tabM r c F⟩ k = some (rowL r fun i => F i k) := by
  unfold m_impl_Matrix_column
  simp only
  rw [decide_eq_true (by omega), decide_eq_true (by omega : (r : Int) ≤ 1048576), Bool.and_self, cond_true]
  rw [Lp_go (r := rowL r fun i => F i k) (fun t => (rowL r (fun i => if i < t then F i k else 0), (t : Int))) r (by simp [rowL_zero]) (fun t ht => ?_) (fun _ => ?_), Option.bind_some]
  · unfold m_impl_Matrix_column_L1
    simp only [List.length_replicate, Int.toNat_natCast]
    rw [dlt ht, cond_true, atT hN ht hk, Option.bind_some, rowL_at _ ht, Option.bind_some, rowL_set ht, wr_suc ht (by omega)]
    congr 3
    refine rowL_congr fun b hb => ?_
    by_cases e : b = t
    · rw [if_pos e, if_pos (by omega), e]
    · rw [if_neg e]
      by_cases e2 : b < t
      · rw [if_pos e2, if_pos (by omega)]
      · rw [if_neg e2, if_neg (by omega)]
  · unfold m_impl_Matrix_column_L1
    simp only [List.length_replicate, Int.toNat_natCast]
    rw [dnl (Nat.le_refl _), cond_false]
    congr 2
    exact rowL_congr fun b hb => by rw [if_pos hb]
theorem n_columns {r c : Nat} (hN : r * c ≤ 1048576) (hr : r ≤ 1048576) (hc : c ≤ 1048576) (F : Nat → Nat → Int) : m_impl_Matrix_columns ⟨r, c, tabM r c F⟩ = some (colL r c F) := by
  unfold m_impl_Matrix_columns
  rw [Lp_go (r := colL r c F) (fun k => (colL r k F, (k : Int))) c (by simp [colL]) (fun k hk => ?_) (fun _ => ?_), Option.bind_some]
  · unfold m_impl_Matrix_columns_L1
    simp only
    rw [dlt hk, cond_true, n_column hN hr hk, Option.bind_some, decide_eq_true (by simp [colL]; omega), cond_true, wr_suc hk (by omega)]
    congr 3
    unfold colL
    rw [List.range_succ, List.map_append]; rfl
  · unfold m_impl_Matrix_columns_L1
    simp only
    rw [dnl (Nat.le_refl _), cond_false]
/-- The columns at some places. -/
def colsAt (r : Nat) (F : Nat → Nat → Int) (L : List Nat) : List (List Int) := L.map fun k => rowL r fun i => F i k
theorem redUp_get' {p : Int} {m : Nat} {F : Nat → Nat → Int} {t i : Nat} (h : i < (redUp p m F t).2.length) : (redUp p m F t).2[i]'h < t := redUp_lt t _ (List.getElem_mem h)
theorem n_l4Image {p : Int} {m n : Nat} {F : Nat → Nat → Int} (T : Tb p m n F) : m_spec_l4Image p ⟨m, n, tabM m n F⟩ = some (colsAt m F (redUp p m F n).2) := by
  have hL := @redUp_len p m F n
  have hm := T.hm
  unfold m_spec_l4Image
  rw [n_specReduce T, Option.bind_some]
  rw [Lp_map (l := (redUp p m F n).2) (f := fun k => rowL m fun i => F i k) (by omega) (fun k hk o ho => ?_) (fun o => ?_), Option.bind_some]
  · rfl
  · have hlt := redUp_get' hk
    unfold m_spec_l4Image_L1
    simp only
    rw [castL_len, dlt hk, cond_true]
    rw [Lp_go (r := rowL m fun i => F i (redUp p m F n).2[k]) (fun t => (rowL t (fun i => F i (redUp p m F n).2[k]), (t : Int))) m (by simp [rowL]) (fun t ht => ?_) (fun _ => ?_), Option.bind_some, decide_eq_true (by omega), cond_true]
    · unfold m_spec_l4Image_L2
      simp only
      rw [dlt ht, cond_true, atL_nat (by rw [castL_len]; exact hk), Option.bind_some]
      have e : (castL (redUp p m F n).2)[k]'(by rw [castL_len]; exact hk) = (((redUp p m F n).2[k] : Nat) : Int) := by simp [castL]
      rw [e, atT T.hN ht hlt, Option.bind_some, decide_eq_true (by rw [rowL_len]; simp; omega), cond_true, wr_suc ht (by omega)]
      congr 3
      unfold rowL
      rw [List.range_succ, List.map_append]; rfl
    · unfold m_spec_l4Image_L2
      simp only
      rw [dnl (Nat.le_refl _), cond_false]
  · unfold m_spec_l4Image_L1
    simp only
    rw [castL_len, dnl (Nat.le_refl _), cond_false]

/-! ## the columns at the leading ones span what all columns span -/
theorem span_ker {p : Int} (hp : isF p = true) {n : Nat} {l l' : List (List Int)} (h : InP p l.length n (rowsF l)) (h' : InP p l'.length n (rowsF l')) (hK : ∀ x, Kr p l.length n (rowsF l) x ↔ Kr p l'.length n (rowsF l') x) : spanL p n l = spanL p n l' := by
  obtain ⟨e1, e2⟩ := redUp_unique hp h h' hK
  unfold spanL
  rw [← e1]
  exact takeRows_congr e2
theorem sN_z0 {p : Int} {f : Nat → Int} : ∀ {n : Nat}, (∀ k, k < n → Z0 p (f k)) → Z0 p (sN f n)
  | 0, _ => by unfold Z0; simp [sN]
  | n + 1, h => z0_add (sN_z0 fun k hk => h k (by omega)) (h n (by omega))
theorem kr_cols {p : Int} {r c : Nat} {F : Nat → Nat → Int} {x : Nat → Int} : Kr p (colL r c F).length r (rowsF (colL r c F)) x ↔ ∀ k, k < c → Z0 p (dt r (fun i => F i k) x) := by
  have e : ∀ k, k < c → dt r (rowsF (colL r c F) k) x = dt r (fun i => F i k) x := fun k hk => sN_congr fun i hi => by simp [rowsF, colL, rowL, hk, hi]
  have hl : (colL r c F).length = c := by simp [colL]
  unfold Kr
  rw [hl]
  exact ⟨fun h k hk => e k hk ▸ h k hk, fun h k hk => (e k hk).symm ▸ h k hk⟩
theorem kr_colsAt {p : Int} {r : Nat} {F : Nat → Nat → Int} {L : List Nat} {x : Nat → Int} : Kr p (colsAt r F L).length r (rowsF (colsAt r F L)) x ↔ ∀ t, t < L.length → Z0 p (dt r (fun i => F i (L[t]?.getD 0)) x) := by
  have e : ∀ t, t < L.length → dt r (rowsF (colsAt r F L) t) x = dt r (fun i => F i (L[t]?.getD 0)) x := fun t ht => sN_congr fun i hi => by simp [rowsF, colsAt, rowL, ht, hi]
  have hl : (colsAt r F L).length = L.length := by simp [colsAt]
  unfold Kr
  rw [hl]
  exact ⟨fun h k hk => e k hk ▸ h k hk, fun h k hk => (e k hk).symm ▸ h k hk⟩
theorem dt_sub {r n k : Nat} {F R : Nat → Nat → Int} {L : List Nat} {x : Nat → Int} : dt r (fun i => F i k - sN (fun t => F i (L[t]?.getD 0) * R t k) n) x = dt r (fun i => F i k) x - sN (fun t => R t k * dt r (fun i => F i (L[t]?.getD 0)) x) n := by
  induction n with
  | zero => simp [sN, dt]
  | succ n ih =>
    have e : dt r (fun i => F i k - sN (fun t => F i (L[t]?.getD 0) * R t k) (n + 1)) x = dt r (fun i => (F i k - sN (fun t => F i (L[t]?.getD 0) * R t k) n) + (-(R n k)) * F i (L[n]?.getD 0)) x := sN_congr fun i hi => by
      congr 1
      show F i k - (sN (fun t => F i (L[t]?.getD 0) * R t k) n + F i (L[n]?.getD 0) * R n k) = F i k - sN (fun t => F i (L[t]?.getD 0) * R t k) n + (-(R n k)) * F i (L[n]?.getD 0)
      rw [Int.neg_mul, Int.mul_comm (R n k)]
      omega
    rw [e, dt_add, ih, Int.neg_mul]
    show _ = dt r (fun i => F i k) x - (sN (fun t => R t k * dt r (fun i => F i (L[t]?.getD 0)) x) n + R n k * dt r (fun i => F i (L[n]?.getD 0)) x)
    omega
theorem cols_span {p : Int} (hp : isF p = true) {r c : Nat} {F : Nat → Nat → Int} (hF : InP p r c F) : spanL p r (colL r c F) = spanL p r (colsAt r F (redUp p r F c).2) := by
  have hb := isF_bd hp
  have hR := red_up hp hF c (Nat.le_refl _)
  have i1 : InP p (colL r c F).length r (rowsF (colL r c F)) := by
    intro k i hk hi
    have hk : k < c := by simpa [colL] using hk
    have e : rowsF (colL r c F) k i = F i k := by simp [rowsF, colL, rowL, hk, hi]
    rw [e]; exact hF i k hi hk
  have i2 : InP p (colsAt r F (redUp p r F c).2).length r (rowsF (colsAt r F (redUp p r F c).2)) := by
    intro k i hk hi
    have hk : k < (redUp p r F c).2.length := by simpa [colsAt] using hk
    have e : rowsF (colsAt r F (redUp p r F c).2) k i = F i ((redUp p r F c).2[k]) := by simp [rowsF, colsAt, rowL, hk, hi]
    rw [e]; exact hF i _ hi (redUp_get' hk)
  refine span_ker hp i1 i2 fun x => ?_
  rw [kr_cols, kr_colsAt]
  constructor
  · intro h t ht
    exact h _ (hR.lt t ht)
  · intro h k hk
    by_cases hL : ∃ i, i < (redUp p r F c).2.length ∧ (redUp p r F c).2[i]?.getD 0 = k
    · obtain ⟨i, h1, rfl⟩ := hL
      exact h i h1
    · have hL' : ∀ i, i < (redUp p r F c).2.length → (redUp p r F c).2[i]?.getD 0 ≠ k := fun i hi e => hL ⟨i, hi, e⟩
      have hk1 := (ker_red hp hF (kx (redUp p r F c).1 (redUp p r F c).2 k) c (Nat.le_refl _)).1 (kx_ker hR hk hL')
      have hz : Z0 p (dt r (fun i => F i k - sN (fun t => F i ((redUp p r F c).2[t]?.getD 0) * (redUp p r F c).1 t k) (redUp p r F c).2.length) x) := by
        unfold dt
        refine sN_z0 fun i hi => ?_
        have := hk1 i hi
        rw [dt_kx hR hk hL'] at this
        rw [Int.mul_comm]
        exact z0_mul _ this
      rw [dt_sub] at hz
      have hs : Z0 p (sN (fun t => (redUp p r F c).1 t k * dt r (fun i => F i ((redUp p r F c).2[t]?.getD 0)) x) (redUp p r F c).2.length) := sN_z0 fun t ht => z0_mul _ (h t ht)
      have := z0_add hz hs
      rwa [Int.sub_add_cancel] at this
theorem vecs_cols {p : Int} {r c : Nat} {F : Nat → Nat → Int} (hF : InP p r c F) : VecsP p r (colL r c F) := by
  intro v hv
  unfold colL at hv
  obtain ⟨k, hk, rfl⟩ := List.mem_map.1 hv
  refine ⟨rowL_len _ _, fun x hx => ?_⟩
  obtain ⟨i, hi, rfl⟩ := List.mem_map.1 hx
  exact hF i k (List.mem_range.1 hi) (List.mem_range.1 hk)
theorem vecs_colsAt {p : Int} {r c : Nat} {F : Nat → Nat → Int} (hF : InP p r c F) {L : List Nat} (hL : ∀ k ∈ L, k < c) : VecsP p r (colsAt r F L) := by
  intro v hv
  unfold colsAt at hv
  obtain ⟨k, hk, rfl⟩ := List.mem_map.1 hv
  refine ⟨rowL_len _ _, fun x hx => ?_⟩
  obtain ⟨i, hi, rfl⟩ := List.mem_map.1 hx
  exact hF i k (List.mem_range.1 hi) (hL k hk)

/-! ## the spaces of a representation of a star -/
/-- The space that a matrix's columns span. -/
def imgS (p : Int) (m : Mt) : Sc := ⟨m.rows, spanL p m.rows.toNat (colL m.rows.toNat m.cols.toNat fun i k => m.cells[i * m.cols.toNat + k]?.getD 0)⟩
theorem imgS_tab {p : Int} {r c : Nat} {F : Nat → Nat → Int} : imgS p ⟨r, c, tabM r c F⟩ = ⟨r, spanL p r (colL r c F)⟩ := by
  unfold imgS
  simp only [Int.toNat_natCast]
  congr 2
  refine List.map_congr_left fun k hk => rowL_congr fun i hi => ?_
  simp only [tabM_get F hi (List.mem_range.1 hk), Option.getD_some]
def subsV (r : Rp) : List Sc × Bool := bif repV r && ((starR (wr (r.q.n - 1))).2 && decide ((starR (wr (r.q.n - 1))).1 = r.q)) then (r.maps.map (imgS r.p), true) else ([], false)
theorem matV_get {r : Rp} (h : repV r = true) {k : Nat} (hk : k < r.maps.length) : matV r.p r.maps[k] = true := by
  have := ((rep_maps h).2.2.2 k hk).1
  rwa [List.getElem?_eq_getElem hk, Option.getD_some] at this
theorem maps_few {r : Rp} (h : repV r = true) : r.maps.length ≤ 6 := by
  obtain ⟨_, h2, h3, _⟩ := rep_maps h
  obtain ⟨n, _, _, _, _, h4, _⟩ := quivV_parts (dimsV_parts h2).1
  omega
theorem tb_mat {p : Int} (hp : isF p = true) {r c : Nat} (hr : r ≤ 8) (hc : c ≤ 8) {F : Nat → Nat → Int} (hF : InP p r c F) : Tb p r c F := ⟨hp, by have := Nat.mul_le_mul hr hc; omega, by omega, by omega, hF⟩
theorem n_implSubs {r : Rp} (h : bR r) : m_impl_SubspacesOf r = some (subsV r) := by
  have hsb := starR_b (wr (r.q.n - 1))
  unfold m_impl_SubspacesOf subsV
  rw [n_implStar, Option.bind_some]
  cases h1 : (starR (wr (r.q.n - 1))).2 with
  | false => rw [Bool.false_and, Bool.and_false]; rfl
  | true =>
    rw [Bool.not_true, cond_false, n_implRep h, Option.bind_some]
    cases h2 : repV r with
    | false => rfl
    | true =>
      rw [Bool.not_true, cond_false, n_implEqQ hsb, Option.bind_some, Bool.true_and, Bool.true_and]
      cases h3 : decide ((starR (wr (r.q.n - 1))).1 = r.q) with
      | false => rfl
      | true =>
        have h6 := maps_few h2
        rw [Bool.not_true, cond_false, cond_true]
        unfold m_impl_imageSub
        rw [Lp_map (l := r.maps) (f := imgS r.p) (by omega) (fun k hk o ho => ?_) (fun o => ?_)]
        · rfl
        · obtain ⟨hp, a, b, F, ha, hb, e, hF⟩ := matV_parts (matV_get h2 hk)
          have T := tb_mat hp ha hb hF
          unfold m_impl_imageSub_L1
          simp only
          rw [dlt hk, cond_true, atL_nat hk, Option.bind_some, e, n_columns T.hN T.hm T.hn, Option.bind_some]
          simp only
          rw [n_implSpan hp (by omega) (by simp [colL]; omega) (vecs_cols hF), Option.bind_some, decide_eq_true (by omega), cond_true, imgS_tab]
        · unfold m_impl_imageSub_L1
          simp only
          rw [dnl (Nat.le_refl _), cond_false]
theorem n_specSubs {r : Rp} (h : bR r) : m_spec_SubspacesOf r = some (subsV r) := by
  have hsb := starR_b (wr (r.q.n - 1))
  unfold m_spec_SubspacesOf subsV
  rw [n_specRep h, Option.bind_some]
  cases h2 : repV r with
  | false => rfl
  | true =>
    rw [Bool.not_true, cond_false, n_specStar, Option.bind_some, Bool.true_and]
    cases h1 : (starR (wr (r.q.n - 1))).2 with
    | false => rfl
    | true =>
      rw [Bool.not_true, cond_false, n_specEqQ hsb, Option.bind_some, Bool.true_and]
      cases h3 : decide ((starR (wr (r.q.n - 1))).1 = r.q) with
      | false => rfl
      | true =>
        have h6 := maps_few h2
        rw [Bool.not_true, cond_false, cond_true]
        rw [Lp_map (l := r.maps) (f := imgS r.p) (by omega) (fun k hk o ho => ?_) (fun o => ?_)]
        · rfl
        · obtain ⟨hp, a, b, F, ha, hb, e, hF⟩ := matV_parts (matV_get h2 hk)
          have T := tb_mat hp ha hb hF
          have hL := @redUp_len' r.p a F b
          unfold m_spec_SubspacesOf_L1
          simp only
          rw [dlt hk, cond_true, atL_nat hk, Option.bind_some, Option.bind_some, e, n_l4Image T, Option.bind_some]
          simp only
          rw [n_l5Span hp (by omega) (by simp [colsAt]; omega) (vecs_colsAt hF fun k hk => redUp_lt b k hk), Option.bind_some, decide_eq_true (by omega), cond_true, imgS_tab, cols_span hp hF]
        · unfold m_spec_SubspacesOf_L1
          simp only
          rw [dnl (Nat.le_refl _), cond_false]
theorem subsV_b (r : Rp) : (subsV r).1.length ≤ 1048576 ∧ ∀ s ∈ (subsV r).1, bS s := by
  unfold subsV
  cases h : repV r && ((starR (wr (r.q.n - 1))).2 && decide ((starR (wr (r.q.n - 1))).1 = r.q)) with
  | false => simp
  | true =>
    have h2 : repV r = true := by simp only [Bool.and_eq_true] at h; exact h.1
    have h6 := maps_few h2
    rw [cond_true]
    refine ⟨by simp; omega, fun s hs => ?_⟩
    obtain ⟨m, hm, rfl⟩ := List.mem_map.1 hs
    obtain ⟨k, hk, rfl⟩ := List.mem_iff_getElem.1 hm
    obtain ⟨hp, a, b, F, ha, hb, e, hF⟩ := matV_parts (matV_get h2 hk)
    rw [e, imgS_tab]
    exact ⟨bLs_span hp (by omega) (vecs_cols hF), trivial⟩
theorem plain_SubspacesOf {a : Rp} (fa : fR a) : m_laws_FnExactSubspacesOf a = some true := by
  unfold m_laws_FnExactSubspacesOf
  rw [mz_R fa (by decide) (by decide), Option.bind_some]
  rcases falls_R a 1048576 (by decide) (by decide) with e | ⟨e1, e2, ha⟩
  · rw [e]; rfl
  · have hs := subsV_b a
    have hn := nR_bd ha
    have hn2 := nSs_bd hs
    obtain ⟨l1, l2, l3, l4⟩ := mvR_len 1 a
    rw [decide_eq_false (by omega), cond_false]
    simp only [mt_R ha, Option.bind_some, n_specSubs ha, n_implSubs ha, me_Ss hs, me_R ha, decide_true, Bool.not_true, cond_false, beq_self_eq_true]
    rw [mm_R (by decide) (by omega) (by have := ha.2.2.1.1; omega), Option.bind_some]
    simp only [l1, l2, l3, l4, decide_true, cond_true, nneg (show (0 : Int) ≤ 1 by decide), cond_false]
    rw [mm_Ss (by decide) (by omega) (lS_of hs), Option.bind_some]
    simp only [mvSs_len, decide_true, cond_true]
    rw [mh_Ss (by decide) (by omega) (lS_of hs), Option.bind_some, Option.bind_some]
    simp only [nneg (show (0 : Int) ≤ 1 by decide), decide_true, Bool.not_true, cond_false]
end Go.Proofs.Ytjfcjkeghigipaa
end

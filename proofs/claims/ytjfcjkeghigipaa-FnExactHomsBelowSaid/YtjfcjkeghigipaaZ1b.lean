/-
  Models and contracts of functions, made by the extractor (ex.py).
-/
import Derived.Test.YtjfcjkeghigipaaZ1
namespace Go.Proofs.Ytjfcjkeghigipaa
open Go.RowKit
set_option linter.unusedVariables false
set_option linter.unusedSimpArgs false
set_option maxRecDepth 10000
set_option maxHeartbeats 4000000

noncomputable def m_spec_l4Reduce_L2 (v1 : Mt) (x1 : (Int × (List Int) × (List Int) × Int)) (x2 : (Int × Int)) : Option ((Int × Int) ⊕ Int) :=
  bif decide (x1.2.2.2 ≤ x2.2) then
    (Option.bind (atL x1.2.1 (wr ((wr (x2.2 * v1.cols)) + x1.1))) fun v5 =>
    bif !decide (v5 = 0) then
      (some (.inl (x2.2, wr (x2.2 - 1))))
    else
      (some (.inl (x2.1, wr (x2.2 - 1)))))
  else
    (some (.inr x2.1))

noncomputable def m_spec_l4Reduce_L3 (v1 : Mt) (x1 : (Int × (List Int) × (List Int) × Int)) (y7 : Int) (x3 : ((List Int) × Int)) : Option (((List Int) × Int) ⊕ (List Int)) :=
  bif decide (x3.2 < v1.cols) then
    (Option.bind (atL x3.1 (wr ((wr (x1.2.2.2 * v1.cols)) + x3.2))) fun v10 =>
    Option.bind (atL x3.1 (wr ((wr (y7 * v1.cols)) + x3.2))) fun v11 =>
    Option.bind (atL x3.1 (wr ((wr (x1.2.2.2 * v1.cols)) + x3.2))) fun v12 =>
    Option.bind (atL (x3.1.set ((wr ((wr (x1.2.2.2 * v1.cols)) + x3.2)).toNat) v11) (wr ((wr (y7 * v1.cols)) + x3.2))) fun v13 =>
    some (.inl (((x3.1.set ((wr ((wr (x1.2.2.2 * v1.cols)) + x3.2)).toNat) v11).set ((wr ((wr (y7 * v1.cols)) + x3.2)).toNat) v10), wr (x3.2 + 1))))
  else
    (some (.inr x3.1))

noncomputable def m_spec_l4Reduce_L4 (a0 : Int) (v1 : Mt) (v16 : Int) (x1 : (Int × (List Int) × (List Int) × Int)) (x4 : ((List Int) × Int)) : Option (((List Int) × Int) ⊕ (List Int)) :=
  bif decide (x4.2 < v1.cols) then
    (Option.bind (atL x4.1 (wr ((wr (x1.2.2.2 * v1.cols)) + x4.2))) fun v18 =>
    Option.bind (m_spec_l2Mod a0 (wr (v16 * v18))) fun v19 =>
    Option.bind (atL x4.1 (wr ((wr (x1.2.2.2 * v1.cols)) + x4.2))) fun v20 =>
    some (.inl ((x4.1.set ((wr ((wr (x1.2.2.2 * v1.cols)) + x4.2)).toNat) v19), wr (x4.2 + 1))))
  else
    (some (.inr x4.1))

noncomputable def m_spec_l4Reduce_L6 (a0 : Int) (v1 : Mt) (v23 : Int) (x1 : (Int × (List Int) × (List Int) × Int)) (x5 : ((List Int) × Int)) (x6 : ((List Int) × Int)) : Option (((List Int) × Int) ⊕ (List Int)) :=
  bif decide (x6.2 < v1.cols) then
    (bif !decide (x5.2 = x1.2.2.2) then
      (Option.bind (atL x6.1 (wr ((wr (x5.2 * v1.cols)) + x6.2))) fun v26 =>
      Option.bind (atL x6.1 (wr ((wr (x1.2.2.2 * v1.cols)) + x6.2))) fun v27 =>
      Option.bind (m_spec_l2Mod a0 (wr (v26 - (wr (v23 * v27))))) fun v28 =>
      Option.bind (atL x6.1 (wr ((wr (x5.2 * v1.cols)) + x6.2))) fun v29 =>
      some (.inl ((x6.1.set ((wr ((wr (x5.2 * v1.cols)) + x6.2)).toNat) v28), wr (x6.2 + 1))))
    else
      (some (.inr x6.1)))
  else
    (some (.inr x6.1))

noncomputable def m_spec_l4Reduce_L5 (a0 : Int) (v1 : Mt) (x1 : (Int × (List Int) × (List Int) × Int)) (x5 : ((List Int) × Int)) : Option (((List Int) × Int) ⊕ (List Int)) :=
  bif decide (x5.2 < v1.rows) then
    (Option.bind (atL x5.1 (wr ((wr (x5.2 * v1.cols)) + x1.1))) fun v23 =>
    Option.bind (Lp (m_spec_l4Reduce_L6 a0 v1 v23 x1 x5) (x5.1, 0)) fun y30 =>
    some (.inl (y30, wr (x5.2 + 1))))
  else
    (some (.inr x5.1))

noncomputable def m_spec_l4Reduce_L1 (a0 : Int) (v1 : Mt) (x1 : (Int × (List Int) × (List Int) × Int)) : Option ((Int × (List Int) × (List Int) × Int) ⊕ ((List Int) × (List Int))) :=
  bif decide (x1.1 < v1.cols) then
    (bif decide (x1.2.2.2 < v1.rows) then
      (Option.bind (Lp (m_spec_l4Reduce_L2 v1 x1) ((-1), wr (v1.rows - 1))) fun y7 =>
      bif decide (y7 < 0) then
        (some (.inl (wr (x1.1 + 1), x1.2.1, x1.2.2.1, x1.2.2.2)))
      else
        (Option.bind (Lp (m_spec_l4Reduce_L3 v1 x1 y7) (x1.2.1, 0)) fun y14 =>
        Option.bind (atL y14 (wr ((wr (x1.2.2.2 * v1.cols)) + x1.1))) fun v15 =>
        Option.bind (m_spec_InverseMod a0 v15) fun v16 =>
        Option.bind (Lp (m_spec_l4Reduce_L4 a0 v1 v16 x1) (y14, 0)) fun y21 =>
        Option.bind (Lp (m_spec_l4Reduce_L5 a0 v1 x1) (y21, 0)) fun y31 =>
        bif decide (x1.2.2.1.length + [x1.1].length ≤ 4294967296) then
          (some (.inl (wr (x1.1 + 1), y31, (x1.2.2.1 ++ [x1.1]), wr (x1.2.2.2 + 1))))
        else none))
    else
      (some (.inr (x1.2.1, x1.2.2.1))))
  else
    (some (.inr (x1.2.1, x1.2.2.1)))

noncomputable def m_spec_l4Reduce (a0 : Int) (a1 : Mt) : Option (Mt × (List Int)) :=
  Option.bind (m_spec_l3Copy a1) fun v1 =>
  Option.bind (Lp (m_spec_l4Reduce_L1 a0 v1) (0, v1.cells, ([] : (List Int)), 0)) fun y33 =>
  some (((⟨v1.rows, v1.cols, y33.1⟩ : Mt), y33.2))

theorem c_spec_l4Reduce (a0 : Int) (a1 : Mt) (r : (Mt × (List Int))) (h : m_spec_l4Reduce a0 a1 = some r) : HasC Try.prog 102 [.int a0, .agg (eM a1)] (.tuple [.agg (eM r.1), .list 1 (List.map eI r.2)]) := by
  refine hasC_mk TT_ok (rvs := [.cell 4 81, .tmp 5]) (ns := [0, 1, 2, 3, 4, 5, 6, 7, 8, 9, 10, 11, 12, 13]) Try.func102 rfl rfl Try.ntmps102 rfl rfl rfl ?_
  refine ac_seq ?_
  refine ac_region ?_
  refine aops_eff (w_box rfl rfl rfl rfl) rfl rfl rfl ?_
  refine aops_eff (w_alloc TT_ok rfl rfl) rfl rfl rfl ?_
  refine aops_eff (eff_assign rfl) rfl rfl rfl ?_
  refine aops_nil ?_
  refine then_n ?_
  refine ac_seq ?_
  refine ac_region ?_
  refine aops_eff (w_load_ptr TT_ok rfl rfl rfl rfl rfl rfl rfl) rfl rfl rfl ?_
  obtain ⟨v1, hv1, h⟩ := ob h
  refine aops_eff (AEff.conv (w_call0 (x := .agg [.int v1.rows, .int v1.cols, .own 2 0 (List.map eI v1.cells).length]) (nb := [(2, ⟨1, absEs (List.map eI v1.cells)⟩)]) (c_spec_l3Copy a1 v1 hv1) rfl (by rfl) rfl rfl (g1_cons trivial (g1_cons trivial (g1_cons (okI.good _) g1_nil))) (va_cons (va_agg' (v1_cons (v1_same rfl) (v1_cons (v1_same rfl) (v1_cons (v1_same rfl) v1_nil)))) va_nil)) (v' := .agg [.int v1.rows, .int v1.cols, .own 2 0 v1.cells.length]) (ed' := [(2, some ⟨1, List.map (ow eI) v1.cells⟩)]) (by simp only [len_map]) (ed_ok (nb' := [(2, ⟨1, List.map (ow eI) v1.cells⟩)]) (by simp only [abs_map]))) rfl rfl rfl ?_
  refine aops_eff (w_alloc TT_ok rfl rfl) rfl rfl rfl ?_
  refine aops_eff (w_store TT_ok rfl rfl rfl rfl rfl rfl rfl rfl) rfl rfl rfl ?_
  refine aops_nil ?_
  refine then_n ?_
  refine ac_seq ?_
  refine ac_region ?_
  refine aops_eff (w_lit TT_ok rfl rfl rfl rfl rfl rfl rfl rfl rfl rfl rfl rfl) rfl rfl rfl ?_
  refine aops_eff (eff_assign rfl) rfl rfl rfl ?_
  refine aops_nil ?_
  refine then_n ?_
  refine ac_ent (t := mkS [(0, .int a0), (4, .ptr 1 0 0), (6, .ptr 3 0 0), (7, .own 4 0 (([] : (List Int)).length))] [(1, ⟨3, [[.int 0, .int 0, .nil 1]]⟩), (2, ⟨1, List.map (ow eI) v1.cells⟩), (3, ⟨3, [[.int v1.rows, .int v1.cols, .own 2 0 v1.cells.length]]⟩), (4, ⟨1, List.map (ow eI) ([] : (List Int))⟩)] 5 [5, 6, 7, 8, 9, 10, 11, 12, 13, 14, 15, 16, 17, 18]) (ent_mk (σ := sg [(1, 1), (2, 2), (3, 3), (4, 4)]) ⟨⟨_, rfl, rfl⟩, ⟨_, rfl, ⟨rfl, rfl, rfl, rfl⟩⟩, ⟨_, rfl, ⟨rfl, rfl, rfl, rfl⟩⟩, ⟨_, rfl, ⟨rfl, rfl, (by simp only [len_map, List.length_append, List.length_set, List.length_replicate, List.length_cons, List.length_nil]), rfl⟩⟩, trivial⟩ ⟨⟨_, rfl, rfl, .inl ⟨rfl, plain_of rfl⟩⟩, rfl, ⟨_, rfl, rfl, .inl ⟨rfl, okI.plainO _⟩⟩, rfl, ⟨_, rfl, rfl, .inr ⟨_, _, rfl, ⟨_, _, rfl, rfl, ⟨_, _, rfl, rfl, ⟨_, _, rfl, ⟨rfl, rfl, rfl, rfl⟩, rfl⟩⟩⟩, rfl⟩⟩, rfl, ⟨_, rfl, rfl, .inl ⟨rfl, okI.plainO _⟩⟩, rfl, trivial⟩ rfl) ?_
  refine ac_seq ?_
  refine ac_region ?_
  refine aops_eff (eff_assign rfl) rfl rfl rfl ?_
  refine aops_nil ?_
  refine then_n ?_
  refine ac_seq ?_
  refine ac_seq ?_
  refine ac_region ?_
  refine aops_eff (eff_assign rfl) rfl rfl rfl ?_
  refine aops_nil ?_
  refine then_n ?_
  refine ac_block ?_
  obtain ⟨y33, hy33, h⟩ := ob h
  refine ac_Lp (body := (m_spec_l4Reduce_L1 a0 v1)) hy33 (fun (x1 : (Int × (List Int) × (List Int) × Int)) => mkS [(0, .int a0), (4, .ptr 0 0 0), (6, .ptr 1 0 0), (7, .own 3 0 x1.2.2.1.length), (8, .int x1.2.2.2), (9, .int x1.1)] [(0, ⟨3, [[.int 0, .int 0, .nil 1]]⟩), (1, ⟨3, [[.int v1.rows, .int v1.cols, .own 2 0 x1.2.1.length]]⟩), (2, ⟨1, List.map (ow eI) x1.2.1⟩), (3, ⟨1, List.map (ow eI) x1.2.2.1⟩)] 4 [4, 5, 6, 7, 8, 9, 10, 11, 12, 13, 14, 15, 16, 17]) (fun r e t => e = .exit 0 ∧ Ent t (mkS [(4, .ptr 0 0 0), (6, .ptr 1 0 0), (7, .own 3 0 r.2.length)] [(0, ⟨3, [[.int 0, .int 0, .nil 1]]⟩), (1, ⟨3, [[.int v1.rows, .int v1.cols, .own 2 0 r.1.length]]⟩), (2, ⟨1, List.map (ow eI) r.1⟩), (3, ⟨1, List.map (ow eI) r.2⟩)] 4 [4, 5, 6, 7, 8, 9, 10, 11, 12, 13, 14, 15, 16, 17])) (ent_mk (σ := sg [(0, 1), (1, 3), (2, 2), (3, 4)]) ⟨⟨_, rfl, rfl⟩, ⟨_, rfl, ⟨rfl, rfl, rfl, rfl⟩⟩, ⟨_, rfl, ⟨rfl, rfl, rfl, rfl⟩⟩, ⟨_, rfl, ⟨rfl, rfl, rfl, rfl⟩⟩, ⟨_, rfl, rfl⟩, ⟨_, rfl, rfl⟩, trivial⟩ ⟨⟨_, rfl, rfl, .inl ⟨rfl, plain_of rfl⟩⟩, rfl, ⟨_, rfl, rfl, .inr ⟨_, _, rfl, ⟨_, _, rfl, rfl, ⟨_, _, rfl, rfl, ⟨_, _, rfl, ⟨rfl, rfl, rfl, rfl⟩, rfl⟩⟩⟩, rfl⟩⟩, rfl, ⟨_, rfl, rfl, .inl ⟨rfl, okI.plainO _⟩⟩, rfl, ⟨_, rfl, rfl, .inl ⟨rfl, okI.plainO _⟩⟩, rfl, trivial⟩ rfl) ?_ ?_
  · intro x1 o h
    refine ac_seq ?_
    refine ac_seq ?_
    refine ac_region ?_
    refine aops_eff (eff_move rfl) rfl rfl rfl ?_
    refine aops_eff (w_field_ptr TT_ok rfl rfl rfl rfl rfl rfl rfl) rfl rfl rfl ?_
    refine aops_eff (w_load_ptr TT_ok rfl rfl rfl rfl rfl rfl rfl) rfl rfl rfl ?_
    refine aops_eff (w_cmp rfl rfl rfl) rfl rfl rfl ?_
    refine aops_eff (eff_move rfl) rfl rfl rfl ?_
    rcases cb h with ⟨q2, h⟩ | ⟨q2, h⟩
    · refine aops_lit 26 rfl q2 ?_
      refine aops_eff (eff_move rfl) rfl rfl rfl ?_
      refine aops_eff (w_field_ptr TT_ok rfl rfl rfl rfl rfl rfl rfl) rfl rfl rfl ?_
      refine aops_eff (w_load_ptr TT_ok rfl rfl rfl rfl rfl rfl rfl) rfl rfl rfl ?_
      refine aops_eff (w_cmp rfl rfl rfl) rfl rfl rfl ?_
      refine aops_eff (eff_pick rfl rfl) rfl rfl rfl ?_
      refine aops_nil ?_
      refine then_n ?_
      rcases cb h with ⟨q3, h⟩ | ⟨q3, h⟩
      · refine ac_condT rfl q3 ?_
        refine ac_skip ?_
        refine then_n ?_
        refine ac_seq ?_
        refine ac_block ?_
        refine ac_seq ?_
        refine ac_region ?_
        refine aops_eff (eff_assign rfl) rfl rfl rfl ?_
        refine aops_nil ?_
        refine then_n ?_
        refine ac_seq ?_
        refine ac_seq ?_
        refine ac_region ?_
        refine aops_eff (w_field_ptr TT_ok rfl rfl rfl rfl rfl rfl rfl) rfl rfl rfl ?_
        refine aops_eff (w_load_ptr TT_ok rfl rfl rfl rfl rfl rfl rfl) rfl rfl rfl ?_
        refine aops_eff (x_sub rfl rfl) rfl rfl rfl ?_
        refine aops_eff (eff_assign rfl) rfl rfl rfl ?_
        refine aops_nil ?_
        refine then_n ?_
        refine ac_ent (t := mkS [(0, .int a0), (4, .ptr 0 0 0), (6, .ptr 1 0 0), (7, .own 3 0 x1.2.2.1.length), (8, .int x1.2.2.2), (9, .int x1.1), (10, .int (-1)), (11, .int (wr (v1.rows - 1)))] [(0, ⟨3, [[.int 0, .int 0, .nil 1]]⟩), (1, ⟨3, [[.int v1.rows, .int v1.cols, .own 2 0 x1.2.1.length]]⟩), (2, ⟨1, List.map (ow eI) x1.2.1⟩), (3, ⟨1, List.map (ow eI) x1.2.2.1⟩)] 4 [4, 5, 6, 7, 8, 9, 10, 11, 12, 13, 14, 15, 16, 17]) (ent_mk (σ := sg [(0, 0), (1, 1), (2, 2), (3, 3)]) ⟨⟨_, rfl, rfl⟩, ⟨_, rfl, ⟨rfl, rfl, rfl, rfl⟩⟩, ⟨_, rfl, ⟨rfl, rfl, rfl, rfl⟩⟩, ⟨_, rfl, ⟨rfl, rfl, rfl, rfl⟩⟩, ⟨_, rfl, rfl⟩, ⟨_, rfl, rfl⟩, ⟨_, rfl, rfl⟩, ⟨_, rfl, rfl⟩, trivial⟩ ⟨⟨_, rfl, rfl, .inl ⟨rfl, plain_of rfl⟩⟩, rfl, ⟨_, rfl, rfl, .inr ⟨_, _, rfl, ⟨_, _, rfl, rfl, ⟨_, _, rfl, rfl, ⟨_, _, rfl, ⟨rfl, rfl, rfl, rfl⟩, rfl⟩⟩⟩, rfl⟩⟩, rfl, ⟨_, rfl, rfl, .inl ⟨rfl, okI.plainO _⟩⟩, rfl, ⟨_, rfl, rfl, .inl ⟨rfl, okI.plainO _⟩⟩, rfl, trivial⟩ rfl) ?_
        refine ac_block ?_
        obtain ⟨y7, hy7, h⟩ := ob h
        refine ac_Lp (body := (m_spec_l4Reduce_L2 v1 x1)) hy7 (fun (x2 : (Int × Int)) => mkS [(0, .int a0), (4, .ptr 0 0 0), (6, .ptr 1 0 0), (7, .own 3 0 x1.2.2.1.length), (8, .int x1.2.2.2), (9, .int x1.1), (10, .int x2.1), (11, .int x2.2)] [(0, ⟨3, [[.int 0, .int 0, .nil 1]]⟩), (1, ⟨3, [[.int v1.rows, .int v1.cols, .own 2 0 x1.2.1.length]]⟩), (2, ⟨1, List.map (ow eI) x1.2.1⟩), (3, ⟨1, List.map (ow eI) x1.2.2.1⟩)] 4 [4, 5, 6, 7, 8, 9, 10, 11, 12, 13, 14, 15, 16, 17]) (fun r e t => e = .exit 2 ∧ Ent t (mkS [(0, .int a0), (4, .ptr 0 0 0), (6, .ptr 1 0 0), (7, .own 3 0 x1.2.2.1.length), (8, .int x1.2.2.2), (9, .int x1.1), (10, .int r)] [(0, ⟨3, [[.int 0, .int 0, .nil 1]]⟩), (1, ⟨3, [[.int v1.rows, .int v1.cols, .own 2 0 x1.2.1.length]]⟩), (2, ⟨1, List.map (ow eI) x1.2.1⟩), (3, ⟨1, List.map (ow eI) x1.2.2.1⟩)] 4 [4, 5, 6, 7, 8, 9, 10, 11, 12, 13, 14, 15, 16, 17])) (ent_mk (σ := sg [(0, 0), (1, 1), (2, 2), (3, 3)]) ⟨⟨_, rfl, rfl⟩, ⟨_, rfl, ⟨rfl, rfl, rfl, rfl⟩⟩, ⟨_, rfl, ⟨rfl, rfl, rfl, rfl⟩⟩, ⟨_, rfl, ⟨rfl, rfl, rfl, rfl⟩⟩, ⟨_, rfl, rfl⟩, ⟨_, rfl, rfl⟩, ⟨_, rfl, rfl⟩, ⟨_, rfl, rfl⟩, trivial⟩ ⟨⟨_, rfl, rfl, .inl ⟨rfl, plain_of rfl⟩⟩, rfl, ⟨_, rfl, rfl, .inr ⟨_, _, rfl, ⟨_, _, rfl, rfl, ⟨_, _, rfl, rfl, ⟨_, _, rfl, ⟨rfl, rfl, rfl, rfl⟩, rfl⟩⟩⟩, rfl⟩⟩, rfl, ⟨_, rfl, rfl, .inl ⟨rfl, okI.plainO _⟩⟩, rfl, ⟨_, rfl, rfl, .inl ⟨rfl, okI.plainO _⟩⟩, rfl, trivial⟩ rfl) ?_ ?_
        · intro x2 o h
          refine ac_seq ?_
          refine ac_seq ?_
          refine ac_region ?_
          refine aops_eff (eff_move rfl) rfl rfl rfl ?_
          refine aops_eff (eff_move rfl) rfl rfl rfl ?_
          refine aops_eff (w_cmp rfl rfl rfl) rfl rfl rfl ?_
          refine aops_nil ?_
          refine then_n ?_
          rcases cb h with ⟨q4, h⟩ | ⟨q4, h⟩
          · refine ac_condT rfl q4 ?_
            refine ac_skip ?_
            refine then_n ?_
            refine ac_seq ?_
            refine ac_block ?_
            refine ac_seq ?_
            refine ac_region ?_
            refine aops_eff (w_field_ptr TT_ok rfl rfl rfl rfl rfl rfl rfl) rfl rfl rfl ?_
            refine aops_eff (w_load_ptr TT_ok rfl rfl rfl rfl rfl rfl rfl) rfl rfl rfl ?_
            refine aops_eff (eff_move rfl) rfl rfl rfl ?_
            refine aops_eff (w_field_ptr TT_ok rfl rfl rfl rfl rfl rfl rfl) rfl rfl rfl ?_
            refine aops_eff (w_load_ptr TT_ok rfl rfl rfl rfl rfl rfl rfl) rfl rfl rfl ?_
            refine aops_eff (x_mul rfl rfl) rfl rfl rfl ?_
            refine aops_eff (eff_move rfl) rfl rfl rfl ?_
            refine aops_eff (x_add rfl rfl) rfl rfl rfl ?_
            obtain ⟨v5, hv5, h⟩ := ob h
            refine aops_eff (x_at_own TT_ok (atL_nn hv5) (atL_lt hv5) rfl rfl rfl rfl rfl rfl rfl) rfl rfl rfl ?_
            refine aops_eff (w_load_ptr TT_ok rfl rfl rfl rfl (map_at (atL_get hv5)) rfl rfl) rfl rfl rfl ?_
            refine aops_eff (w_cmp rfl rfl rfl) rfl rfl rfl ?_
            refine aops_nil ?_
            refine then_n ?_
            refine ac_ent (t := mkS [(0, .int a0), (4, .ptr 0 0 0), (6, .ptr 1 0 0), (7, .own 3 0 x1.2.2.1.length), (8, .int x1.2.2.2), (9, .int x1.1), (10, .int x2.1), (11, .int x2.2), (52, .bl (!decide (v5 = 0)))] [(0, ⟨3, [[.int 0, .int 0, .nil 1]]⟩), (1, ⟨3, [[.int v1.rows, .int v1.cols, .own 2 0 x1.2.1.length]]⟩), (2, ⟨1, List.map (ow eI) x1.2.1⟩), (3, ⟨1, List.map (ow eI) x1.2.2.1⟩)] 4 [4, 5, 6, 7, 8, 9, 10, 11, 12, 13, 14, 15, 16, 17]) (ent_mk (σ := sg [(0, 0), (1, 1), (2, 2), (3, 3)]) ⟨⟨_, rfl, rfl⟩, ⟨_, rfl, ⟨rfl, rfl, rfl, rfl⟩⟩, ⟨_, rfl, ⟨rfl, rfl, rfl, rfl⟩⟩, ⟨_, rfl, ⟨rfl, rfl, rfl, rfl⟩⟩, ⟨_, rfl, rfl⟩, ⟨_, rfl, rfl⟩, ⟨_, rfl, rfl⟩, ⟨_, rfl, rfl⟩, ⟨_, rfl, rfl⟩, trivial⟩ ⟨⟨_, rfl, rfl, .inl ⟨rfl, plain_of rfl⟩⟩, rfl, ⟨_, rfl, rfl, .inr ⟨_, _, rfl, ⟨_, _, rfl, rfl, ⟨_, _, rfl, rfl, ⟨_, _, rfl, ⟨rfl, rfl, rfl, rfl⟩, rfl⟩⟩⟩, rfl⟩⟩, rfl, ⟨_, rfl, rfl, .inl ⟨rfl, okI.plainO _⟩⟩, rfl, ⟨_, rfl, rfl, .inl ⟨rfl, okI.plainO _⟩⟩, rfl, trivial⟩ rfl) ?_
            rcases cb h with ⟨q6, h⟩ | ⟨q6, h⟩
            · refine ac_condT rfl q6 ?_
              refine ac_region ?_
              refine aops_eff (eff_move rfl) rfl rfl rfl ?_
              refine aops_eff (eff_assign rfl) rfl rfl rfl ?_
              refine aops_nil ?_
              refine block_n ?_
              refine then_n ?_
              refine ac_region ?_
              refine aops_eff (eff_move rfl) rfl rfl rfl ?_
              refine aops_eff (x_sub rfl rfl) rfl rfl rfl ?_
              refine aops_eff (eff_assign rfl) rfl rfl rfl ?_
              refine aops_nil ?_
              refine then_n ?_
              obtain rfl := so h
              exact ⟨_, rfl, (ent_mk (σ := sg [(0, 0), (1, 1), (2, 2), (3, 3)]) ⟨⟨_, rfl, rfl⟩, ⟨_, rfl, ⟨rfl, rfl, rfl, rfl⟩⟩, ⟨_, rfl, ⟨rfl, rfl, rfl, rfl⟩⟩, ⟨_, rfl, ⟨rfl, rfl, rfl, rfl⟩⟩, ⟨_, rfl, rfl⟩, ⟨_, rfl, rfl⟩, ⟨_, rfl, rfl⟩, ⟨_, rfl, rfl⟩, trivial⟩ ⟨⟨_, rfl, rfl, .inl ⟨rfl, plain_of rfl⟩⟩, rfl, ⟨_, rfl, rfl, .inr ⟨_, _, rfl, ⟨_, _, rfl, rfl, ⟨_, _, rfl, rfl, ⟨_, _, rfl, ⟨rfl, rfl, rfl, rfl⟩, rfl⟩⟩⟩, rfl⟩⟩, rfl, ⟨_, rfl, rfl, .inl ⟨rfl, okI.plainO _⟩⟩, rfl, ⟨_, rfl, rfl, .inl ⟨rfl, okI.plainO _⟩⟩, rfl, trivial⟩ rfl)⟩
            · refine ac_condF rfl q6 ?_
              refine ac_skip ?_
              refine block_n ?_
              refine then_n ?_
              refine ac_region ?_
              refine aops_eff (eff_move rfl) rfl rfl rfl ?_
              refine aops_eff (x_sub rfl rfl) rfl rfl rfl ?_
              refine aops_eff (eff_assign rfl) rfl rfl rfl ?_
              refine aops_nil ?_
              refine then_n ?_
              obtain rfl := so h
              exact ⟨_, rfl, (ent_mk (σ := sg [(0, 0), (1, 1), (2, 2), (3, 3)]) ⟨⟨_, rfl, rfl⟩, ⟨_, rfl, ⟨rfl, rfl, rfl, rfl⟩⟩, ⟨_, rfl, ⟨rfl, rfl, rfl, rfl⟩⟩, ⟨_, rfl, ⟨rfl, rfl, rfl, rfl⟩⟩, ⟨_, rfl, rfl⟩, ⟨_, rfl, rfl⟩, ⟨_, rfl, rfl⟩, ⟨_, rfl, rfl⟩, trivial⟩ ⟨⟨_, rfl, rfl, .inl ⟨rfl, plain_of rfl⟩⟩, rfl, ⟨_, rfl, rfl, .inr ⟨_, _, rfl, ⟨_, _, rfl, rfl, ⟨_, _, rfl, rfl, ⟨_, _, rfl, ⟨rfl, rfl, rfl, rfl⟩, rfl⟩⟩⟩, rfl⟩⟩, rfl, ⟨_, rfl, rfl, .inl ⟨rfl, okI.plainO _⟩⟩, rfl, ⟨_, rfl, rfl, .inl ⟨rfl, okI.plainO _⟩⟩, rfl, trivial⟩ rfl)⟩
          · refine ac_condF rfl q4 ?_
            refine ac_exit ?_
            refine then_exit ?_
            refine then_exit ?_
            obtain rfl := so h
            exact ⟨_, rfl, rfl, (ent_mk (σ := sg [(0, 0), (1, 1), (2, 2), (3, 3)]) ⟨⟨_, rfl, rfl⟩, ⟨_, rfl, ⟨rfl, rfl, rfl, rfl⟩⟩, ⟨_, rfl, ⟨rfl, rfl, rfl, rfl⟩⟩, ⟨_, rfl, ⟨rfl, rfl, rfl, rfl⟩⟩, ⟨_, rfl, rfl⟩, ⟨_, rfl, rfl⟩, ⟨_, rfl, rfl⟩, trivial⟩ ⟨⟨_, rfl, rfl, .inl ⟨rfl, plain_of rfl⟩⟩, rfl, ⟨_, rfl, rfl, .inr ⟨_, _, rfl, ⟨_, _, rfl, rfl, ⟨_, _, rfl, rfl, ⟨_, _, rfl, ⟨rfl, rfl, rfl, rfl⟩, rfl⟩⟩⟩, rfl⟩⟩, rfl, ⟨_, rfl, rfl, .inl ⟨rfl, okI.plainO _⟩⟩, rfl, ⟨_, rfl, rfl, .inl ⟨rfl, okI.plainO _⟩⟩, rfl, trivial⟩ rfl)⟩
        · rintro e t ⟨rfl, hent⟩
          refine block_here ?_
          refine then_n ?_
          refine ac_ent hent ?_
          refine ac_seq ?_
          refine ac_seq ?_
          refine ac_region ?_
          refine aops_eff (eff_move rfl) rfl rfl rfl ?_
          refine aops_eff (w_cmp rfl rfl rfl) rfl rfl rfl ?_
          refine aops_nil ?_
          refine then_n ?_
          rcases cb h with ⟨q8, h⟩ | ⟨q8, h⟩
          · refine ac_condT rfl q8 ?_
            refine ac_exit ?_
            refine then_exit ?_
            refine block_here ?_
            refine then_n ?_
            refine ac_region ?_
            refine aops_eff (eff_move rfl) rfl rfl rfl ?_
            refine aops_eff (x_add rfl rfl) rfl rfl rfl ?_
            refine aops_eff (eff_assign rfl) rfl rfl rfl ?_
            refine aops_nil ?_
            refine then_n ?_
            obtain rfl := so h
            exact ⟨_, rfl, (ent_mk (σ := sg [(0, 0), (1, 1), (2, 2), (3, 3)]) ⟨⟨_, rfl, rfl⟩, ⟨_, rfl, ⟨rfl, rfl, rfl, rfl⟩⟩, ⟨_, rfl, ⟨rfl, rfl, rfl, rfl⟩⟩, ⟨_, rfl, ⟨rfl, rfl, rfl, rfl⟩⟩, ⟨_, rfl, rfl⟩, ⟨_, rfl, rfl⟩, trivial⟩ ⟨⟨_, rfl, rfl, .inl ⟨rfl, plain_of rfl⟩⟩, rfl, ⟨_, rfl, rfl, .inr ⟨_, _, rfl, ⟨_, _, rfl, rfl, ⟨_, _, rfl, rfl, ⟨_, _, rfl, ⟨rfl, rfl, rfl, rfl⟩, rfl⟩⟩⟩, rfl⟩⟩, rfl, ⟨_, rfl, rfl, .inl ⟨rfl, okI.plainO _⟩⟩, rfl, ⟨_, rfl, rfl, .inl ⟨rfl, okI.plainO _⟩⟩, rfl, trivial⟩ rfl)⟩
          · refine ac_condF rfl q8 ?_
            refine ac_skip ?_
            refine then_n ?_
            refine ac_seq ?_
            refine ac_seq ?_
            refine ac_region ?_
            refine aops_eff (eff_assign rfl) rfl rfl rfl ?_
            refine aops_nil ?_
            refine then_n ?_
            refine ac_block ?_
            obtain ⟨y14, hy14, h⟩ := ob h
            refine ac_Lp (body := (m_spec_l4Reduce_L3 v1 x1 y7)) hy14 (fun (x3 : ((List Int) × Int)) => mkS [(0, .int a0), (4, .ptr 0 0 0), (6, .ptr 1 0 0), (7, .own 3 0 x1.2.2.1.length), (8, .int x1.2.2.2), (9, .int x1.1), (10, .int y7), (12, .int x3.2)] [(0, ⟨3, [[.int 0, .int 0, .nil 1]]⟩), (1, ⟨3, [[.int v1.rows, .int v1.cols, .own 2 0 x3.1.length]]⟩), (2, ⟨1, List.map (ow eI) x3.1⟩), (3, ⟨1, List.map (ow eI) x1.2.2.1⟩)] 4 [4, 5, 6, 7, 8, 9, 10, 11, 12, 13, 14, 15, 16, 17]) (fun r e t => e = .exit 4 ∧ Ent t (mkS [(0, .int a0), (4, .ptr 0 0 0), (6, .ptr 1 0 0), (7, .own 3 0 x1.2.2.1.length), (8, .int x1.2.2.2), (9, .int x1.1)] [(0, ⟨3, [[.int 0, .int 0, .nil 1]]⟩), (1, ⟨3, [[.int v1.rows, .int v1.cols, .own 2 0 r.length]]⟩), (2, ⟨1, List.map (ow eI) r⟩), (3, ⟨1, List.map (ow eI) x1.2.2.1⟩)] 4 [4, 5, 6, 7, 8, 9, 10, 11, 12, 13, 14, 15, 16, 17])) (ent_mk (σ := sg [(0, 0), (1, 1), (2, 2), (3, 3)]) ⟨⟨_, rfl, rfl⟩, ⟨_, rfl, ⟨rfl, rfl, rfl, rfl⟩⟩, ⟨_, rfl, ⟨rfl, rfl, rfl, rfl⟩⟩, ⟨_, rfl, ⟨rfl, rfl, rfl, rfl⟩⟩, ⟨_, rfl, rfl⟩, ⟨_, rfl, rfl⟩, ⟨_, rfl, rfl⟩, ⟨_, rfl, rfl⟩, trivial⟩ ⟨⟨_, rfl, rfl, .inl ⟨rfl, plain_of rfl⟩⟩, rfl, ⟨_, rfl, rfl, .inr ⟨_, _, rfl, ⟨_, _, rfl, rfl, ⟨_, _, rfl, rfl, ⟨_, _, rfl, ⟨rfl, rfl, rfl, rfl⟩, rfl⟩⟩⟩, rfl⟩⟩, rfl, ⟨_, rfl, rfl, .inl ⟨rfl, okI.plainO _⟩⟩, rfl, ⟨_, rfl, rfl, .inl ⟨rfl, okI.plainO _⟩⟩, rfl, trivial⟩ rfl) ?_ ?_
            · intro x3 o h
              refine ac_seq ?_
              refine ac_seq ?_
              refine ac_region ?_
              refine aops_eff (eff_move rfl) rfl rfl rfl ?_
              refine aops_eff (w_field_ptr TT_ok rfl rfl rfl rfl rfl rfl rfl) rfl rfl rfl ?_
              refine aops_eff (w_load_ptr TT_ok rfl rfl rfl rfl rfl rfl rfl) rfl rfl rfl ?_
              refine aops_eff (w_cmp rfl rfl rfl) rfl rfl rfl ?_
              refine aops_nil ?_
              refine then_n ?_
              rcases cb h with ⟨q9, h⟩ | ⟨q9, h⟩
              · refine ac_condT rfl q9 ?_
                refine ac_skip ?_
                refine then_n ?_
                refine ac_seq ?_
                refine ac_block ?_
                refine ac_seq ?_
                refine ac_region ?_
                refine aops_eff (w_field_ptr TT_ok rfl rfl rfl rfl rfl rfl rfl) rfl rfl rfl ?_
                refine aops_eff (w_load_ptr TT_ok rfl rfl rfl rfl rfl rfl rfl) rfl rfl rfl ?_
                refine aops_eff (eff_move rfl) rfl rfl rfl ?_
                refine aops_eff (w_field_ptr TT_ok rfl rfl rfl rfl rfl rfl rfl) rfl rfl rfl ?_
                refine aops_eff (w_load_ptr TT_ok rfl rfl rfl rfl rfl rfl rfl) rfl rfl rfl ?_
                refine aops_eff (x_mul rfl rfl) rfl rfl rfl ?_
                refine aops_eff (eff_move rfl) rfl rfl rfl ?_
                refine aops_eff (x_add rfl rfl) rfl rfl rfl ?_
                obtain ⟨v10, hv10, h⟩ := ob h
                refine aops_eff (x_at_own TT_ok (atL_nn hv10) (atL_lt hv10) rfl rfl rfl rfl rfl rfl rfl) rfl rfl rfl ?_
                refine aops_eff (w_load_ptr TT_ok rfl rfl rfl rfl (map_at (atL_get hv10)) rfl rfl) rfl rfl rfl ?_
                refine aops_eff (eff_assign rfl) rfl rfl rfl ?_
                refine aops_nil ?_
                refine then_n ?_
                refine ac_ent (t := mkS [(0, .int a0), (4, .ptr 0 0 0), (6, .ptr 1 0 0), (7, .own 3 0 x1.2.2.1.length), (8, .int x1.2.2.2), (9, .int x1.1), (10, .int y7), (12, .int x3.2), (13, .int v10)] [(0, ⟨3, [[.int 0, .int 0, .nil 1]]⟩), (1, ⟨3, [[.int v1.rows, .int v1.cols, .own 2 0 x3.1.length]]⟩), (2, ⟨1, List.map (ow eI) x3.1⟩), (3, ⟨1, List.map (ow eI) x1.2.2.1⟩)] 4 [4, 5, 6, 7, 8, 9, 10, 11, 12, 13, 14, 15, 16, 17]) (ent_mk (σ := sg [(0, 0), (1, 1), (2, 2), (3, 3)]) ⟨⟨_, rfl, rfl⟩, ⟨_, rfl, ⟨rfl, rfl, rfl, rfl⟩⟩, ⟨_, rfl, ⟨rfl, rfl, rfl, rfl⟩⟩, ⟨_, rfl, ⟨rfl, rfl, rfl, rfl⟩⟩, ⟨_, rfl, rfl⟩, ⟨_, rfl, rfl⟩, ⟨_, rfl, rfl⟩, ⟨_, rfl, rfl⟩, ⟨_, rfl, rfl⟩, trivial⟩ ⟨⟨_, rfl, rfl, .inl ⟨rfl, plain_of rfl⟩⟩, rfl, ⟨_, rfl, rfl, .inr ⟨_, _, rfl, ⟨_, _, rfl, rfl, ⟨_, _, rfl, rfl, ⟨_, _, rfl, ⟨rfl, rfl, rfl, rfl⟩, rfl⟩⟩⟩, rfl⟩⟩, rfl, ⟨_, rfl, rfl, .inl ⟨rfl, okI.plainO _⟩⟩, rfl, ⟨_, rfl, rfl, .inl ⟨rfl, okI.plainO _⟩⟩, rfl, trivial⟩ rfl) ?_
                refine ac_seq ?_
                refine ac_region_draw MIXX ?_
                refine aops_eff (w_field_ptr TT_ok rfl rfl rfl rfl rfl rfl rfl) rfl rfl rfl ?_
                refine aops_eff (w_load_ptr TT_ok rfl rfl rfl rfl rfl rfl rfl) rfl rfl rfl ?_
                refine aops_eff (eff_move rfl) rfl rfl rfl ?_
                refine aops_eff (w_field_ptr TT_ok rfl rfl rfl rfl rfl rfl rfl) rfl rfl rfl ?_
                refine aops_eff (w_load_ptr TT_ok rfl rfl rfl rfl rfl rfl rfl) rfl rfl rfl ?_
                refine aops_eff (x_mul rfl rfl) rfl rfl rfl ?_
                refine aops_eff (eff_move rfl) rfl rfl rfl ?_
                refine aops_eff (x_add rfl rfl) rfl rfl rfl ?_
                refine aops_eff (w_field_ptr TT_ok rfl rfl rfl rfl rfl rfl rfl) rfl rfl rfl ?_
                refine aops_eff (w_load_ptr TT_ok rfl rfl rfl rfl rfl rfl rfl) rfl rfl rfl ?_
                refine aops_eff (eff_move rfl) rfl rfl rfl ?_
                refine aops_eff (w_field_ptr TT_ok rfl rfl rfl rfl rfl rfl rfl) rfl rfl rfl ?_
                refine aops_eff (w_load_ptr TT_ok rfl rfl rfl rfl rfl rfl rfl) rfl rfl rfl ?_
                refine aops_eff (x_mul rfl rfl) rfl rfl rfl ?_
                refine aops_eff (eff_move rfl) rfl rfl rfl ?_
                refine aops_eff (x_add rfl rfl) rfl rfl rfl ?_
                obtain ⟨v11, hv11, h⟩ := ob h
                refine aops_eff (x_at_own TT_ok (atL_nn hv11) (atL_lt hv11) rfl rfl rfl rfl rfl rfl rfl) rfl rfl rfl ?_
                refine aops_eff (w_load_ptr TT_ok rfl rfl rfl rfl (map_at (atL_get hv11)) rfl rfl) rfl rfl rfl ?_
                obtain ⟨v12, hv12, h⟩ := ob h
                refine aops_eff (x_at_own TT_ok (atL_nn hv12) (atL_lt hv12) rfl rfl rfl rfl rfl rfl rfl) rfl rfl rfl ?_
                refine aops_eff (x_store TT_ok okIo (u := v11) (atL_get hv12) rfl rfl rfl rfl rfl rfl) rfl rfl rfl ?_
                refine aops_nil ?_
                refine ⟨by kernel_rfl, ?_⟩
                refine then_n ?_
                refine ac_ent (t := mkS [(0, .int a0), (4, .ptr 0 0 0), (6, .ptr 1 0 0), (7, .own 3 0 x1.2.2.1.length), (8, .int x1.2.2.2), (9, .int x1.1), (10, .int y7), (12, .int x3.2), (13, .int v10)] [(0, ⟨3, [[.int 0, .int 0, .nil 1]]⟩), (1, ⟨3, [[.int v1.rows, .int v1.cols, .own 2 0 ((x3.1.set ((wr ((wr (x1.2.2.2 * v1.cols)) + x3.2)).toNat) v11).length)]]⟩), (2, ⟨1, List.map (ow eI) (x3.1.set ((wr ((wr (x1.2.2.2 * v1.cols)) + x3.2)).toNat) v11)⟩), (3, ⟨1, List.map (ow eI) x1.2.2.1⟩)] 4 [4, 5, 6, 7, 8, 9, 10, 11, 12, 13, 14, 15, 16, 17]) (ent_mk (σ := sg [(0, 0), (1, 1), (2, 2), (3, 3)]) ⟨⟨_, rfl, rfl⟩, ⟨_, rfl, ⟨rfl, rfl, rfl, rfl⟩⟩, ⟨_, rfl, ⟨rfl, rfl, rfl, rfl⟩⟩, ⟨_, rfl, ⟨rfl, rfl, rfl, rfl⟩⟩, ⟨_, rfl, rfl⟩, ⟨_, rfl, rfl⟩, ⟨_, rfl, rfl⟩, ⟨_, rfl, rfl⟩, ⟨_, rfl, rfl⟩, trivial⟩ ⟨⟨_, rfl, rfl, .inl ⟨rfl, plain_of rfl⟩⟩, rfl, ⟨_, rfl, rfl, .inr ⟨_, _, rfl, ⟨_, _, rfl, rfl, ⟨_, _, rfl, rfl, ⟨_, _, rfl, ⟨rfl, rfl, (by simp only [len_map, List.length_append, List.length_set, List.length_replicate, List.length_cons, List.length_nil]), rfl⟩, rfl⟩⟩⟩, rfl⟩⟩, rfl, ⟨_, rfl, rfl, .inl ⟨rfl, okI.plainO _⟩⟩, rfl, ⟨_, rfl, rfl, .inl ⟨rfl, okI.plainO _⟩⟩, rfl, trivial⟩ rfl) ?_
                refine ac_region ?_
                refine aops_eff (w_field_ptr TT_ok rfl rfl rfl rfl rfl rfl rfl) rfl rfl rfl ?_
                refine aops_eff (w_load_ptr TT_ok rfl rfl rfl rfl rfl rfl rfl) rfl rfl rfl ?_
                refine aops_eff (eff_move rfl) rfl rfl rfl ?_
                refine aops_eff (w_field_ptr TT_ok rfl rfl rfl rfl rfl rfl rfl) rfl rfl rfl ?_
                refine aops_eff (w_load_ptr TT_ok rfl rfl rfl rfl rfl rfl rfl) rfl rfl rfl ?_
                refine aops_eff (x_mul rfl rfl) rfl rfl rfl ?_
                refine aops_eff (eff_move rfl) rfl rfl rfl ?_
                refine aops_eff (x_add rfl rfl) rfl rfl rfl ?_
                refine aops_eff (eff_move rfl) rfl rfl rfl ?_
                obtain ⟨v13, hv13, h⟩ := ob h
                refine aops_eff (x_at_own TT_ok (atL_nn hv13) (atL_lt hv13) rfl rfl rfl rfl rfl rfl rfl) rfl rfl rfl ?_
                refine aops_eff (x_store TT_ok okIo (u := v10) (atL_get hv13) rfl rfl rfl rfl rfl rfl) rfl rfl rfl ?_
                refine aops_nil ?_
                refine block_n ?_
                refine then_n ?_
                refine ac_region ?_
                refine aops_eff (eff_move rfl) rfl rfl rfl ?_
                refine aops_eff (x_add rfl rfl) rfl rfl rfl ?_
                refine aops_eff (eff_assign rfl) rfl rfl rfl ?_
                refine aops_nil ?_
                refine then_n ?_
                obtain rfl := so h
                exact ⟨_, rfl, (ent_mk (σ := sg [(0, 0), (1, 1), (2, 2), (3, 3)]) ⟨⟨_, rfl, rfl⟩, ⟨_, rfl, ⟨rfl, rfl, rfl, rfl⟩⟩, ⟨_, rfl, ⟨rfl, rfl, rfl, rfl⟩⟩, ⟨_, rfl, ⟨rfl, rfl, rfl, rfl⟩⟩, ⟨_, rfl, rfl⟩, ⟨_, rfl, rfl⟩, ⟨_, rfl, rfl⟩, ⟨_, rfl, rfl⟩, trivial⟩ ⟨⟨_, rfl, rfl, .inl ⟨rfl, plain_of rfl⟩⟩, rfl, ⟨_, rfl, rfl, .inr ⟨_, _, rfl, ⟨_, _, rfl, rfl, ⟨_, _, rfl, rfl, ⟨_, _, rfl, ⟨rfl, rfl, (by simp only [len_map, List.length_append, List.length_set, List.length_replicate, List.length_cons, List.length_nil]), rfl⟩, rfl⟩⟩⟩, rfl⟩⟩, rfl, ⟨_, rfl, rfl, .inl ⟨rfl, okI.plainO _⟩⟩, rfl, ⟨_, rfl, rfl, .inl ⟨rfl, okI.plainO _⟩⟩, rfl, trivial⟩ rfl)⟩
              · refine ac_condF rfl q9 ?_
                refine ac_exit ?_
                refine then_exit ?_
                refine then_exit ?_
                obtain rfl := so h
                exact ⟨_, rfl, rfl, (ent_mk (σ := sg [(0, 0), (1, 1), (2, 2), (3, 3)]) ⟨⟨_, rfl, rfl⟩, ⟨_, rfl, ⟨rfl, rfl, rfl, rfl⟩⟩, ⟨_, rfl, ⟨rfl, rfl, rfl, rfl⟩⟩, ⟨_, rfl, ⟨rfl, rfl, rfl, rfl⟩⟩, ⟨_, rfl, rfl⟩, ⟨_, rfl, rfl⟩, trivial⟩ ⟨⟨_, rfl, rfl, .inl ⟨rfl, plain_of rfl⟩⟩, rfl, ⟨_, rfl, rfl, .inr ⟨_, _, rfl, ⟨_, _, rfl, rfl, ⟨_, _, rfl, rfl, ⟨_, _, rfl, ⟨rfl, rfl, rfl, rfl⟩, rfl⟩⟩⟩, rfl⟩⟩, rfl, ⟨_, rfl, rfl, .inl ⟨rfl, okI.plainO _⟩⟩, rfl, ⟨_, rfl, rfl, .inl ⟨rfl, okI.plainO _⟩⟩, rfl, trivial⟩ rfl)⟩
            · rintro e t ⟨rfl, hent⟩
              refine block_here ?_
              refine then_n ?_
              refine ac_ent hent ?_
              refine ac_seq ?_
              refine ac_region ?_
              refine aops_eff (eff_move rfl) rfl rfl rfl ?_
              refine aops_eff (w_field_ptr TT_ok rfl rfl rfl rfl rfl rfl rfl) rfl rfl rfl ?_
              refine aops_eff (w_load_ptr TT_ok rfl rfl rfl rfl rfl rfl rfl) rfl rfl rfl ?_
              refine aops_eff (eff_move rfl) rfl rfl rfl ?_
              refine aops_eff (w_field_ptr TT_ok rfl rfl rfl rfl rfl rfl rfl) rfl rfl rfl ?_
              refine aops_eff (w_load_ptr TT_ok rfl rfl rfl rfl rfl rfl rfl) rfl rfl rfl ?_
              refine aops_eff (x_mul rfl rfl) rfl rfl rfl ?_
              refine aops_eff (eff_move rfl) rfl rfl rfl ?_
              refine aops_eff (x_add rfl rfl) rfl rfl rfl ?_
              obtain ⟨v15, hv15, h⟩ := ob h
              refine aops_eff (x_at_own TT_ok (atL_nn hv15) (atL_lt hv15) rfl rfl rfl rfl rfl rfl rfl) rfl rfl rfl ?_
              refine aops_eff (w_load_ptr TT_ok rfl rfl rfl rfl (map_at (atL_get hv15)) rfl rfl) rfl rfl rfl ?_
              obtain ⟨v16, hv16, h⟩ := ob h
              refine aops_eff (w_call0s (c_spec_InverseMod a0 v15 v16 hv16) rfl (va_cons (va_same rfl) (va_cons (va_same rfl) va_nil))) rfl rfl rfl ?_
              refine aops_eff (eff_assign rfl) rfl rfl rfl ?_
              refine aops_nil ?_
              refine then_n ?_
              refine ac_ent (t := mkS [(0, .int a0), (4, .ptr 0 0 0), (6, .ptr 1 0 0), (7, .own 3 0 x1.2.2.1.length), (8, .int x1.2.2.2), (9, .int x1.1), (14, .int v16)] [(0, ⟨3, [[.int 0, .int 0, .nil 1]]⟩), (1, ⟨3, [[.int v1.rows, .int v1.cols, .own 2 0 y14.length]]⟩), (2, ⟨1, List.map (ow eI) y14⟩), (3, ⟨1, List.map (ow eI) x1.2.2.1⟩)] 4 [4, 5, 6, 7, 8, 9, 10, 11, 12, 13, 14, 15, 16, 17]) (ent_mk (σ := sg [(0, 0), (1, 1), (2, 2), (3, 3)]) ⟨⟨_, rfl, rfl⟩, ⟨_, rfl, ⟨rfl, rfl, rfl, rfl⟩⟩, ⟨_, rfl, ⟨rfl, rfl, rfl, rfl⟩⟩, ⟨_, rfl, ⟨rfl, rfl, rfl, rfl⟩⟩, ⟨_, rfl, rfl⟩, ⟨_, rfl, rfl⟩, ⟨_, rfl, rfl⟩, trivial⟩ ⟨⟨_, rfl, rfl, .inl ⟨rfl, plain_of rfl⟩⟩, rfl, ⟨_, rfl, rfl, .inr ⟨_, _, rfl, ⟨_, _, rfl, rfl, ⟨_, _, rfl, rfl, ⟨_, _, rfl, ⟨rfl, rfl, rfl, rfl⟩, rfl⟩⟩⟩, rfl⟩⟩, rfl, ⟨_, rfl, rfl, .inl ⟨rfl, okI.plainO _⟩⟩, rfl, ⟨_, rfl, rfl, .inl ⟨rfl, okI.plainO _⟩⟩, rfl, trivial⟩ rfl) ?_
              refine ac_seq ?_
              refine ac_seq ?_
              refine ac_region ?_
              refine aops_eff (eff_assign rfl) rfl rfl rfl ?_
              refine aops_nil ?_
              refine then_n ?_
              refine ac_block ?_
              obtain ⟨y21, hy21, h⟩ := ob h
              refine ac_Lp (body := (m_spec_l4Reduce_L4 a0 v1 v16 x1)) hy21 (fun (x4 : ((List Int) × Int)) => mkS [(0, .int a0), (4, .ptr 0 0 0), (6, .ptr 1 0 0), (7, .own 3 0 x1.2.2.1.length), (8, .int x1.2.2.2), (9, .int x1.1), (14, .int v16), (15, .int x4.2)] [(0, ⟨3, [[.int 0, .int 0, .nil 1]]⟩), (1, ⟨3, [[.int v1.rows, .int v1.cols, .own 2 0 x4.1.length]]⟩), (2, ⟨1, List.map (ow eI) x4.1⟩), (3, ⟨1, List.map (ow eI) x1.2.2.1⟩)] 4 [4, 5, 6, 7, 8, 9, 10, 11, 12, 13, 14, 15, 16, 17]) (fun r e t => e = .exit 6 ∧ Ent t (mkS [(0, .int a0), (4, .ptr 0 0 0), (6, .ptr 1 0 0), (7, .own 3 0 x1.2.2.1.length), (8, .int x1.2.2.2), (9, .int x1.1)] [(0, ⟨3, [[.int 0, .int 0, .nil 1]]⟩), (1, ⟨3, [[.int v1.rows, .int v1.cols, .own 2 0 r.length]]⟩), (2, ⟨1, List.map (ow eI) r⟩), (3, ⟨1, List.map (ow eI) x1.2.2.1⟩)] 4 [4, 5, 6, 7, 8, 9, 10, 11, 12, 13, 14, 15, 16, 17])) (ent_mk (σ := sg [(0, 0), (1, 1), (2, 2), (3, 3)]) ⟨⟨_, rfl, rfl⟩, ⟨_, rfl, ⟨rfl, rfl, rfl, rfl⟩⟩, ⟨_, rfl, ⟨rfl, rfl, rfl, rfl⟩⟩, ⟨_, rfl, ⟨rfl, rfl, rfl, rfl⟩⟩, ⟨_, rfl, rfl⟩, ⟨_, rfl, rfl⟩, ⟨_, rfl, rfl⟩, ⟨_, rfl, rfl⟩, trivial⟩ ⟨⟨_, rfl, rfl, .inl ⟨rfl, plain_of rfl⟩⟩, rfl, ⟨_, rfl, rfl, .inr ⟨_, _, rfl, ⟨_, _, rfl, rfl, ⟨_, _, rfl, rfl, ⟨_, _, rfl, ⟨rfl, rfl, rfl, rfl⟩, rfl⟩⟩⟩, rfl⟩⟩, rfl, ⟨_, rfl, rfl, .inl ⟨rfl, okI.plainO _⟩⟩, rfl, ⟨_, rfl, rfl, .inl ⟨rfl, okI.plainO _⟩⟩, rfl, trivial⟩ rfl) ?_ ?_
              · intro x4 o h
                refine ac_seq ?_
                refine ac_seq ?_
                refine ac_region ?_
                refine aops_eff (eff_move rfl) rfl rfl rfl ?_
                refine aops_eff (w_field_ptr TT_ok rfl rfl rfl rfl rfl rfl rfl) rfl rfl rfl ?_
                refine aops_eff (w_load_ptr TT_ok rfl rfl rfl rfl rfl rfl rfl) rfl rfl rfl ?_
                refine aops_eff (w_cmp rfl rfl rfl) rfl rfl rfl ?_
                refine aops_nil ?_
                refine then_n ?_
                rcases cb h with ⟨q17, h⟩ | ⟨q17, h⟩
                · refine ac_condT rfl q17 ?_
                  refine ac_skip ?_
                  refine then_n ?_
                  refine ac_seq ?_
                  refine ac_block ?_
                  refine ac_region_draw MIXX ?_
                  refine aops_eff (w_field_ptr TT_ok rfl rfl rfl rfl rfl rfl rfl) rfl rfl rfl ?_
                  refine aops_eff (w_load_ptr TT_ok rfl rfl rfl rfl rfl rfl rfl) rfl rfl rfl ?_
                  refine aops_eff (eff_move rfl) rfl rfl rfl ?_
                  refine aops_eff (w_field_ptr TT_ok rfl rfl rfl rfl rfl rfl rfl) rfl rfl rfl ?_
                  refine aops_eff (w_load_ptr TT_ok rfl rfl rfl rfl rfl rfl rfl) rfl rfl rfl ?_
                  refine aops_eff (x_mul rfl rfl) rfl rfl rfl ?_
                  refine aops_eff (eff_move rfl) rfl rfl rfl ?_
                  refine aops_eff (x_add rfl rfl) rfl rfl rfl ?_
                  refine aops_eff (eff_move rfl) rfl rfl rfl ?_
                  refine aops_eff (eff_move rfl) rfl rfl rfl ?_
                  refine aops_eff (w_field_ptr TT_ok rfl rfl rfl rfl rfl rfl rfl) rfl rfl rfl ?_
                  refine aops_eff (w_load_ptr TT_ok rfl rfl rfl rfl rfl rfl rfl) rfl rfl rfl ?_
                  refine aops_eff (eff_move rfl) rfl rfl rfl ?_
                  refine aops_eff (w_field_ptr TT_ok rfl rfl rfl rfl rfl rfl rfl) rfl rfl rfl ?_
                  refine aops_eff (w_load_ptr TT_ok rfl rfl rfl rfl rfl rfl rfl) rfl rfl rfl ?_
                  refine aops_eff (x_mul rfl rfl) rfl rfl rfl ?_
                  refine aops_eff (eff_move rfl) rfl rfl rfl ?_
                  refine aops_eff (x_add rfl rfl) rfl rfl rfl ?_
                  obtain ⟨v18, hv18, h⟩ := ob h
                  refine aops_eff (x_at_own TT_ok (atL_nn hv18) (atL_lt hv18) rfl rfl rfl rfl rfl rfl rfl) rfl rfl rfl ?_
                  refine aops_eff (w_load_ptr TT_ok rfl rfl rfl rfl (map_at (atL_get hv18)) rfl rfl) rfl rfl rfl ?_
                  refine aops_eff (x_mul rfl rfl) rfl rfl rfl ?_
                  obtain ⟨v19, hv19, h⟩ := ob h
                  refine aops_eff (w_call0s (c_spec_l2Mod a0 (wr (v16 * v18)) v19 hv19) rfl (va_cons (va_same rfl) (va_cons (va_same rfl) va_nil))) rfl rfl rfl ?_
                  obtain ⟨v20, hv20, h⟩ := ob h
                  refine aops_eff (x_at_own TT_ok (atL_nn hv20) (atL_lt hv20) rfl rfl rfl rfl rfl rfl rfl) rfl rfl rfl ?_
                  refine aops_eff (x_store TT_ok okIo (u := v19) (atL_get hv20) rfl rfl rfl rfl rfl rfl) rfl rfl rfl ?_
                  refine aops_nil ?_
                  refine ⟨by kernel_rfl, ?_⟩
                  refine block_n ?_
                  refine then_n ?_
                  refine ac_ent (t := mkS [(0, .int a0), (4, .ptr 0 0 0), (6, .ptr 1 0 0), (7, .own 3 0 x1.2.2.1.length), (8, .int x1.2.2.2), (9, .int x1.1), (14, .int v16), (15, .int x4.2)] [(0, ⟨3, [[.int 0, .int 0, .nil 1]]⟩), (1, ⟨3, [[.int v1.rows, .int v1.cols, .own 2 0 ((x4.1.set ((wr ((wr (x1.2.2.2 * v1.cols)) + x4.2)).toNat) v19).length)]]⟩), (2, ⟨1, List.map (ow eI) (x4.1.set ((wr ((wr (x1.2.2.2 * v1.cols)) + x4.2)).toNat) v19)⟩), (3, ⟨1, List.map (ow eI) x1.2.2.1⟩)] 4 [4, 5, 6, 7, 8, 9, 10, 11, 12, 13, 14, 15, 16, 17]) (ent_mk (σ := sg [(0, 0), (1, 1), (2, 2), (3, 3)]) ⟨⟨_, rfl, rfl⟩, ⟨_, rfl, ⟨rfl, rfl, rfl, rfl⟩⟩, ⟨_, rfl, ⟨rfl, rfl, rfl, rfl⟩⟩, ⟨_, rfl, ⟨rfl, rfl, rfl, rfl⟩⟩, ⟨_, rfl, rfl⟩, ⟨_, rfl, rfl⟩, ⟨_, rfl, rfl⟩, ⟨_, rfl, rfl⟩, trivial⟩ ⟨⟨_, rfl, rfl, .inl ⟨rfl, plain_of rfl⟩⟩, rfl, ⟨_, rfl, rfl, .inr ⟨_, _, rfl, ⟨_, _, rfl, rfl, ⟨_, _, rfl, rfl, ⟨_, _, rfl, ⟨rfl, rfl, (by simp only [len_map, List.length_append, List.length_set, List.length_replicate, List.length_cons, List.length_nil]), rfl⟩, rfl⟩⟩⟩, rfl⟩⟩, rfl, ⟨_, rfl, rfl, .inl ⟨rfl, okI.plainO _⟩⟩, rfl, ⟨_, rfl, rfl, .inl ⟨rfl, okI.plainO _⟩⟩, rfl, trivial⟩ rfl) ?_
                  refine ac_region ?_
                  refine aops_eff (eff_move rfl) rfl rfl rfl ?_
                  refine aops_eff (x_add rfl rfl) rfl rfl rfl ?_
                  refine aops_eff (eff_assign rfl) rfl rfl rfl ?_
                  refine aops_nil ?_
                  refine then_n ?_
                  obtain rfl := so h
                  exact ⟨_, rfl, (ent_mk (σ := sg [(0, 0), (1, 1), (2, 2), (3, 3)]) ⟨⟨_, rfl, rfl⟩, ⟨_, rfl, ⟨rfl, rfl, rfl, rfl⟩⟩, ⟨_, rfl, ⟨rfl, rfl, rfl, rfl⟩⟩, ⟨_, rfl, ⟨rfl, rfl, rfl, rfl⟩⟩, ⟨_, rfl, rfl⟩, ⟨_, rfl, rfl⟩, ⟨_, rfl, rfl⟩, ⟨_, rfl, rfl⟩, trivial⟩ ⟨⟨_, rfl, rfl, .inl ⟨rfl, plain_of rfl⟩⟩, rfl, ⟨_, rfl, rfl, .inr ⟨_, _, rfl, ⟨_, _, rfl, rfl, ⟨_, _, rfl, rfl, ⟨_, _, rfl, ⟨rfl, rfl, rfl, rfl⟩, rfl⟩⟩⟩, rfl⟩⟩, rfl, ⟨_, rfl, rfl, .inl ⟨rfl, okI.plainO _⟩⟩, rfl, ⟨_, rfl, rfl, .inl ⟨rfl, okI.plainO _⟩⟩, rfl, trivial⟩ rfl)⟩
                · refine ac_condF rfl q17 ?_
                  refine ac_exit ?_
                  refine then_exit ?_
                  refine then_exit ?_
                  obtain rfl := so h
                  exact ⟨_, rfl, rfl, (ent_mk (σ := sg [(0, 0), (1, 1), (2, 2), (3, 3)]) ⟨⟨_, rfl, rfl⟩, ⟨_, rfl, ⟨rfl, rfl, rfl, rfl⟩⟩, ⟨_, rfl, ⟨rfl, rfl, rfl, rfl⟩⟩, ⟨_, rfl, ⟨rfl, rfl, rfl, rfl⟩⟩, ⟨_, rfl, rfl⟩, ⟨_, rfl, rfl⟩, trivial⟩ ⟨⟨_, rfl, rfl, .inl ⟨rfl, plain_of rfl⟩⟩, rfl, ⟨_, rfl, rfl, .inr ⟨_, _, rfl, ⟨_, _, rfl, rfl, ⟨_, _, rfl, rfl, ⟨_, _, rfl, ⟨rfl, rfl, rfl, rfl⟩, rfl⟩⟩⟩, rfl⟩⟩, rfl, ⟨_, rfl, rfl, .inl ⟨rfl, okI.plainO _⟩⟩, rfl, ⟨_, rfl, rfl, .inl ⟨rfl, okI.plainO _⟩⟩, rfl, trivial⟩ rfl)⟩
              · rintro e t ⟨rfl, hent⟩
                refine block_here ?_
                refine then_n ?_
                refine ac_ent hent ?_
                refine ac_seq ?_
                refine ac_seq ?_
                refine ac_region ?_
                refine aops_eff (eff_assign rfl) rfl rfl rfl ?_
                refine aops_nil ?_
                refine then_n ?_
                refine ac_block ?_
                obtain ⟨y31, hy31, h⟩ := ob h
                refine ac_Lp (body := (m_spec_l4Reduce_L5 a0 v1 x1)) hy31 (fun (x5 : ((List Int) × Int)) => mkS [(0, .int a0), (4, .ptr 0 0 0), (6, .ptr 1 0 0), (7, .own 3 0 x1.2.2.1.length), (8, .int x1.2.2.2), (9, .int x1.1), (16, .int x5.2)] [(0, ⟨3, [[.int 0, .int 0, .nil 1]]⟩), (1, ⟨3, [[.int v1.rows, .int v1.cols, .own 2 0 x5.1.length]]⟩), (2, ⟨1, List.map (ow eI) x5.1⟩), (3, ⟨1, List.map (ow eI) x1.2.2.1⟩)] 4 [4, 5, 6, 7, 8, 9, 10, 11, 12, 13, 14, 15, 16, 17]) (fun r e t => e = .exit 8 ∧ Ent t (mkS [(0, .int a0), (4, .ptr 0 0 0), (6, .ptr 1 0 0), (7, .own 3 0 x1.2.2.1.length), (8, .int x1.2.2.2), (9, .int x1.1)] [(0, ⟨3, [[.int 0, .int 0, .nil 1]]⟩), (1, ⟨3, [[.int v1.rows, .int v1.cols, .own 2 0 r.length]]⟩), (2, ⟨1, List.map (ow eI) r⟩), (3, ⟨1, List.map (ow eI) x1.2.2.1⟩)] 4 [4, 5, 6, 7, 8, 9, 10, 11, 12, 13, 14, 15, 16, 17])) (ent_mk (σ := sg [(0, 0), (1, 1), (2, 2), (3, 3)]) ⟨⟨_, rfl, rfl⟩, ⟨_, rfl, ⟨rfl, rfl, rfl, rfl⟩⟩, ⟨_, rfl, ⟨rfl, rfl, rfl, rfl⟩⟩, ⟨_, rfl, ⟨rfl, rfl, rfl, rfl⟩⟩, ⟨_, rfl, rfl⟩, ⟨_, rfl, rfl⟩, ⟨_, rfl, rfl⟩, trivial⟩ ⟨⟨_, rfl, rfl, .inl ⟨rfl, plain_of rfl⟩⟩, rfl, ⟨_, rfl, rfl, .inr ⟨_, _, rfl, ⟨_, _, rfl, rfl, ⟨_, _, rfl, rfl, ⟨_, _, rfl, ⟨rfl, rfl, rfl, rfl⟩, rfl⟩⟩⟩, rfl⟩⟩, rfl, ⟨_, rfl, rfl, .inl ⟨rfl, okI.plainO _⟩⟩, rfl, ⟨_, rfl, rfl, .inl ⟨rfl, okI.plainO _⟩⟩, rfl, trivial⟩ rfl) ?_ ?_
                · intro x5 o h
                  refine ac_seq ?_
                  refine ac_seq ?_
                  refine ac_region ?_
                  refine aops_eff (eff_move rfl) rfl rfl rfl ?_
                  refine aops_eff (w_field_ptr TT_ok rfl rfl rfl rfl rfl rfl rfl) rfl rfl rfl ?_
                  refine aops_eff (w_load_ptr TT_ok rfl rfl rfl rfl rfl rfl rfl) rfl rfl rfl ?_
                  refine aops_eff (w_cmp rfl rfl rfl) rfl rfl rfl ?_
                  refine aops_nil ?_
                  refine then_n ?_
                  rcases cb h with ⟨q22, h⟩ | ⟨q22, h⟩
                  · refine ac_condT rfl q22 ?_
                    refine ac_skip ?_
                    refine then_n ?_
                    refine ac_seq ?_
                    refine ac_block ?_
                    refine ac_seq ?_
                    refine ac_region ?_
                    refine aops_eff (w_field_ptr TT_ok rfl rfl rfl rfl rfl rfl rfl) rfl rfl rfl ?_
                    refine aops_eff (w_load_ptr TT_ok rfl rfl rfl rfl rfl rfl rfl) rfl rfl rfl ?_
                    refine aops_eff (eff_move rfl) rfl rfl rfl ?_
                    refine aops_eff (w_field_ptr TT_ok rfl rfl rfl rfl rfl rfl rfl) rfl rfl rfl ?_
                    refine aops_eff (w_load_ptr TT_ok rfl rfl rfl rfl rfl rfl rfl) rfl rfl rfl ?_
                    refine aops_eff (x_mul rfl rfl) rfl rfl rfl ?_
                    refine aops_eff (eff_move rfl) rfl rfl rfl ?_
                    refine aops_eff (x_add rfl rfl) rfl rfl rfl ?_
                    obtain ⟨v23, hv23, h⟩ := ob h
                    refine aops_eff (x_at_own TT_ok (atL_nn hv23) (atL_lt hv23) rfl rfl rfl rfl rfl rfl rfl) rfl rfl rfl ?_
                    refine aops_eff (w_load_ptr TT_ok rfl rfl rfl rfl (map_at (atL_get hv23)) rfl rfl) rfl rfl rfl ?_
                    refine aops_eff (eff_assign rfl) rfl rfl rfl ?_
                    refine aops_nil ?_
                    refine then_n ?_
                    refine ac_ent (t := mkS [(0, .int a0), (4, .ptr 0 0 0), (6, .ptr 1 0 0), (7, .own 3 0 x1.2.2.1.length), (8, .int x1.2.2.2), (9, .int x1.1), (16, .int x5.2), (17, .int v23)] [(0, ⟨3, [[.int 0, .int 0, .nil 1]]⟩), (1, ⟨3, [[.int v1.rows, .int v1.cols, .own 2 0 x5.1.length]]⟩), (2, ⟨1, List.map (ow eI) x5.1⟩), (3, ⟨1, List.map (ow eI) x1.2.2.1⟩)] 4 [4, 5, 6, 7, 8, 9, 10, 11, 12, 13, 14, 15, 16, 17]) (ent_mk (σ := sg [(0, 0), (1, 1), (2, 2), (3, 3)]) ⟨⟨_, rfl, rfl⟩, ⟨_, rfl, ⟨rfl, rfl, rfl, rfl⟩⟩, ⟨_, rfl, ⟨rfl, rfl, rfl, rfl⟩⟩, ⟨_, rfl, ⟨rfl, rfl, rfl, rfl⟩⟩, ⟨_, rfl, rfl⟩, ⟨_, rfl, rfl⟩, ⟨_, rfl, rfl⟩, ⟨_, rfl, rfl⟩, trivial⟩ ⟨⟨_, rfl, rfl, .inl ⟨rfl, plain_of rfl⟩⟩, rfl, ⟨_, rfl, rfl, .inr ⟨_, _, rfl, ⟨_, _, rfl, rfl, ⟨_, _, rfl, rfl, ⟨_, _, rfl, ⟨rfl, rfl, rfl, rfl⟩, rfl⟩⟩⟩, rfl⟩⟩, rfl, ⟨_, rfl, rfl, .inl ⟨rfl, okI.plainO _⟩⟩, rfl, ⟨_, rfl, rfl, .inl ⟨rfl, okI.plainO _⟩⟩, rfl, trivial⟩ rfl) ?_
                    refine ac_seq ?_
                    refine ac_region ?_
                    refine aops_eff (eff_assign rfl) rfl rfl rfl ?_
                    refine aops_nil ?_
                    refine then_n ?_
                    refine ac_block ?_
                    obtain ⟨y30, hy30, h⟩ := ob h
                    refine ac_Lp (body := (m_spec_l4Reduce_L6 a0 v1 v23 x1 x5)) hy30 (fun (x6 : ((List Int) × Int)) => mkS [(0, .int a0), (4, .ptr 0 0 0), (6, .ptr 1 0 0), (7, .own 3 0 x1.2.2.1.length), (8, .int x1.2.2.2), (9, .int x1.1), (16, .int x5.2), (17, .int v23), (18, .int x6.2)] [(0, ⟨3, [[.int 0, .int 0, .nil 1]]⟩), (1, ⟨3, [[.int v1.rows, .int v1.cols, .own 2 0 x6.1.length]]⟩), (2, ⟨1, List.map (ow eI) x6.1⟩), (3, ⟨1, List.map (ow eI) x1.2.2.1⟩)] 4 [4, 5, 6, 7, 8, 9, 10, 11, 12, 13, 14, 15, 16, 17]) (fun r e t => e = .exit 10 ∧ Ent t (mkS [(0, .int a0), (4, .ptr 0 0 0), (6, .ptr 1 0 0), (7, .own 3 0 x1.2.2.1.length), (8, .int x1.2.2.2), (9, .int x1.1), (16, .int x5.2)] [(0, ⟨3, [[.int 0, .int 0, .nil 1]]⟩), (1, ⟨3, [[.int v1.rows, .int v1.cols, .own 2 0 r.length]]⟩), (2, ⟨1, List.map (ow eI) r⟩), (3, ⟨1, List.map (ow eI) x1.2.2.1⟩)] 4 [4, 5, 6, 7, 8, 9, 10, 11, 12, 13, 14, 15, 16, 17])) (ent_mk (σ := sg [(0, 0), (1, 1), (2, 2), (3, 3)]) ⟨⟨_, rfl, rfl⟩, ⟨_, rfl, ⟨rfl, rfl, rfl, rfl⟩⟩, ⟨_, rfl, ⟨rfl, rfl, rfl, rfl⟩⟩, ⟨_, rfl, ⟨rfl, rfl, rfl, rfl⟩⟩, ⟨_, rfl, rfl⟩, ⟨_, rfl, rfl⟩, ⟨_, rfl, rfl⟩, ⟨_, rfl, rfl⟩, ⟨_, rfl, rfl⟩, trivial⟩ ⟨⟨_, rfl, rfl, .inl ⟨rfl, plain_of rfl⟩⟩, rfl, ⟨_, rfl, rfl, .inr ⟨_, _, rfl, ⟨_, _, rfl, rfl, ⟨_, _, rfl, rfl, ⟨_, _, rfl, ⟨rfl, rfl, rfl, rfl⟩, rfl⟩⟩⟩, rfl⟩⟩, rfl, ⟨_, rfl, rfl, .inl ⟨rfl, okI.plainO _⟩⟩, rfl, ⟨_, rfl, rfl, .inl ⟨rfl, okI.plainO _⟩⟩, rfl, trivial⟩ rfl) ?_ ?_
                    · intro x6 o h
                      refine ac_seq ?_
                      refine ac_seq ?_
                      refine ac_region ?_
                      refine aops_eff (eff_move rfl) rfl rfl rfl ?_
                      refine aops_eff (w_field_ptr TT_ok rfl rfl rfl rfl rfl rfl rfl) rfl rfl rfl ?_
                      refine aops_eff (w_load_ptr TT_ok rfl rfl rfl rfl rfl rfl rfl) rfl rfl rfl ?_
                      refine aops_eff (w_cmp rfl rfl rfl) rfl rfl rfl ?_
                      refine aops_eff (eff_move rfl) rfl rfl rfl ?_
                      rcases cb h with ⟨q24, h⟩ | ⟨q24, h⟩
                      · refine aops_lit 162 rfl q24 ?_
                        refine aops_eff (eff_move rfl) rfl rfl rfl ?_
                        refine aops_eff (eff_move rfl) rfl rfl rfl ?_
                        refine aops_eff (w_cmp rfl rfl rfl) rfl rfl rfl ?_
                        refine aops_eff (eff_pick rfl rfl) rfl rfl rfl ?_
                        refine aops_nil ?_
                        refine then_n ?_
                        rcases cb h with ⟨q25, h⟩ | ⟨q25, h⟩
                        · refine ac_condT rfl q25 ?_
                          refine ac_skip ?_
                          refine then_n ?_
                          refine ac_seq ?_
                          refine ac_block ?_
                          refine ac_region_draw MIXX ?_
                          refine aops_eff (w_field_ptr TT_ok rfl rfl rfl rfl rfl rfl rfl) rfl rfl rfl ?_
                          refine aops_eff (w_load_ptr TT_ok rfl rfl rfl rfl rfl rfl rfl) rfl rfl rfl ?_
                          refine aops_eff (eff_move rfl) rfl rfl rfl ?_
                          refine aops_eff (w_field_ptr TT_ok rfl rfl rfl rfl rfl rfl rfl) rfl rfl rfl ?_
                          refine aops_eff (w_load_ptr TT_ok rfl rfl rfl rfl rfl rfl rfl) rfl rfl rfl ?_
                          refine aops_eff (x_mul rfl rfl) rfl rfl rfl ?_
                          refine aops_eff (eff_move rfl) rfl rfl rfl ?_
                          refine aops_eff (x_add rfl rfl) rfl rfl rfl ?_
                          refine aops_eff (eff_move rfl) rfl rfl rfl ?_
                          refine aops_eff (w_field_ptr TT_ok rfl rfl rfl rfl rfl rfl rfl) rfl rfl rfl ?_
                          refine aops_eff (w_load_ptr TT_ok rfl rfl rfl rfl rfl rfl rfl) rfl rfl rfl ?_
                          refine aops_eff (eff_move rfl) rfl rfl rfl ?_
                          refine aops_eff (w_field_ptr TT_ok rfl rfl rfl rfl rfl rfl rfl) rfl rfl rfl ?_
                          refine aops_eff (w_load_ptr TT_ok rfl rfl rfl rfl rfl rfl rfl) rfl rfl rfl ?_
                          refine aops_eff (x_mul rfl rfl) rfl rfl rfl ?_
                          refine aops_eff (eff_move rfl) rfl rfl rfl ?_
                          refine aops_eff (x_add rfl rfl) rfl rfl rfl ?_
                          obtain ⟨v26, hv26, h⟩ := ob h
                          refine aops_eff (x_at_own TT_ok (atL_nn hv26) (atL_lt hv26) rfl rfl rfl rfl rfl rfl rfl) rfl rfl rfl ?_
                          refine aops_eff (w_load_ptr TT_ok rfl rfl rfl rfl (map_at (atL_get hv26)) rfl rfl) rfl rfl rfl ?_
                          refine aops_eff (eff_move rfl) rfl rfl rfl ?_
                          refine aops_eff (w_field_ptr TT_ok rfl rfl rfl rfl rfl rfl rfl) rfl rfl rfl ?_
                          refine aops_eff (w_load_ptr TT_ok rfl rfl rfl rfl rfl rfl rfl) rfl rfl rfl ?_
                          refine aops_eff (eff_move rfl) rfl rfl rfl ?_
                          refine aops_eff (w_field_ptr TT_ok rfl rfl rfl rfl rfl rfl rfl) rfl rfl rfl ?_
                          refine aops_eff (w_load_ptr TT_ok rfl rfl rfl rfl rfl rfl rfl) rfl rfl rfl ?_
                          refine aops_eff (x_mul rfl rfl) rfl rfl rfl ?_
                          refine aops_eff (eff_move rfl) rfl rfl rfl ?_
                          refine aops_eff (x_add rfl rfl) rfl rfl rfl ?_
                          obtain ⟨v27, hv27, h⟩ := ob h
                          refine aops_eff (x_at_own TT_ok (atL_nn hv27) (atL_lt hv27) rfl rfl rfl rfl rfl rfl rfl) rfl rfl rfl ?_
                          refine aops_eff (w_load_ptr TT_ok rfl rfl rfl rfl (map_at (atL_get hv27)) rfl rfl) rfl rfl rfl ?_
                          refine aops_eff (x_mul rfl rfl) rfl rfl rfl ?_
                          refine aops_eff (x_sub rfl rfl) rfl rfl rfl ?_
                          obtain ⟨v28, hv28, h⟩ := ob h
                          refine aops_eff (w_call0s (c_spec_l2Mod a0 (wr (v26 - (wr (v23 * v27)))) v28 hv28) rfl (va_cons (va_same rfl) (va_cons (va_same rfl) va_nil))) rfl rfl rfl ?_
                          obtain ⟨v29, hv29, h⟩ := ob h
                          refine aops_eff (x_at_own TT_ok (atL_nn hv29) (atL_lt hv29) rfl rfl rfl rfl rfl rfl rfl) rfl rfl rfl ?_
                          refine aops_eff (x_store TT_ok okIo (u := v28) (atL_get hv29) rfl rfl rfl rfl rfl rfl) rfl rfl rfl ?_
                          refine aops_nil ?_
                          refine ⟨by kernel_rfl, ?_⟩
                          refine block_n ?_
                          refine then_n ?_
                          refine ac_ent (t := mkS [(0, .int a0), (4, .ptr 0 0 0), (6, .ptr 1 0 0), (7, .own 3 0 x1.2.2.1.length), (8, .int x1.2.2.2), (9, .int x1.1), (16, .int x5.2), (17, .int v23), (18, .int x6.2)] [(0, ⟨3, [[.int 0, .int 0, .nil 1]]⟩), (1, ⟨3, [[.int v1.rows, .int v1.cols, .own 2 0 ((x6.1.set ((wr ((wr (x5.2 * v1.cols)) + x6.2)).toNat) v28).length)]]⟩), (2, ⟨1, List.map (ow eI) (x6.1.set ((wr ((wr (x5.2 * v1.cols)) + x6.2)).toNat) v28)⟩), (3, ⟨1, List.map (ow eI) x1.2.2.1⟩)] 4 [4, 5, 6, 7, 8, 9, 10, 11, 12, 13, 14, 15, 16, 17]) (ent_mk (σ := sg [(0, 0), (1, 1), (2, 2), (3, 3)]) ⟨⟨_, rfl, rfl⟩, ⟨_, rfl, ⟨rfl, rfl, rfl, rfl⟩⟩, ⟨_, rfl, ⟨rfl, rfl, rfl, rfl⟩⟩, ⟨_, rfl, ⟨rfl, rfl, rfl, rfl⟩⟩, ⟨_, rfl, rfl⟩, ⟨_, rfl, rfl⟩, ⟨_, rfl, rfl⟩, ⟨_, rfl, rfl⟩, ⟨_, rfl, rfl⟩, trivial⟩ ⟨⟨_, rfl, rfl, .inl ⟨rfl, plain_of rfl⟩⟩, rfl, ⟨_, rfl, rfl, .inr ⟨_, _, rfl, ⟨_, _, rfl, rfl, ⟨_, _, rfl, rfl, ⟨_, _, rfl, ⟨rfl, rfl, (by simp only [len_map, List.length_append, List.length_set, List.length_replicate, List.length_cons, List.length_nil]), rfl⟩, rfl⟩⟩⟩, rfl⟩⟩, rfl, ⟨_, rfl, rfl, .inl ⟨rfl, okI.plainO _⟩⟩, rfl, ⟨_, rfl, rfl, .inl ⟨rfl, okI.plainO _⟩⟩, rfl, trivial⟩ rfl) ?_
                          refine ac_region ?_
                          refine aops_eff (eff_move rfl) rfl rfl rfl ?_
                          refine aops_eff (x_add rfl rfl) rfl rfl rfl ?_
                          refine aops_eff (eff_assign rfl) rfl rfl rfl ?_
                          refine aops_nil ?_
                          refine then_n ?_
                          obtain rfl := so h
                          exact ⟨_, rfl, (ent_mk (σ := sg [(0, 0), (1, 1), (2, 2), (3, 3)]) ⟨⟨_, rfl, rfl⟩, ⟨_, rfl, ⟨rfl, rfl, rfl, rfl⟩⟩, ⟨_, rfl, ⟨rfl, rfl, rfl, rfl⟩⟩, ⟨_, rfl, ⟨rfl, rfl, rfl, rfl⟩⟩, ⟨_, rfl, rfl⟩, ⟨_, rfl, rfl⟩, ⟨_, rfl, rfl⟩, ⟨_, rfl, rfl⟩, ⟨_, rfl, rfl⟩, trivial⟩ ⟨⟨_, rfl, rfl, .inl ⟨rfl, plain_of rfl⟩⟩, rfl, ⟨_, rfl, rfl, .inr ⟨_, _, rfl, ⟨_, _, rfl, rfl, ⟨_, _, rfl, rfl, ⟨_, _, rfl, ⟨rfl, rfl, rfl, rfl⟩, rfl⟩⟩⟩, rfl⟩⟩, rfl, ⟨_, rfl, rfl, .inl ⟨rfl, okI.plainO _⟩⟩, rfl, ⟨_, rfl, rfl, .inl ⟨rfl, okI.plainO _⟩⟩, rfl, trivial⟩ rfl)⟩
                        · refine ac_condF rfl q25 ?_
                          refine ac_exit ?_
                          refine then_exit ?_
                          refine then_exit ?_
                          obtain rfl := so h
                          exact ⟨_, rfl, rfl, (ent_mk (σ := sg [(0, 0), (1, 1), (2, 2), (3, 3)]) ⟨⟨_, rfl, rfl⟩, ⟨_, rfl, ⟨rfl, rfl, rfl, rfl⟩⟩, ⟨_, rfl, ⟨rfl, rfl, rfl, rfl⟩⟩, ⟨_, rfl, ⟨rfl, rfl, rfl, rfl⟩⟩, ⟨_, rfl, rfl⟩, ⟨_, rfl, rfl⟩, ⟨_, rfl, rfl⟩, trivial⟩ ⟨⟨_, rfl, rfl, .inl ⟨rfl, plain_of rfl⟩⟩, rfl, ⟨_, rfl, rfl, .inr ⟨_, _, rfl, ⟨_, _, rfl, rfl, ⟨_, _, rfl, rfl, ⟨_, _, rfl, ⟨rfl, rfl, rfl, rfl⟩, rfl⟩⟩⟩, rfl⟩⟩, rfl, ⟨_, rfl, rfl, .inl ⟨rfl, okI.plainO _⟩⟩, rfl, ⟨_, rfl, rfl, .inl ⟨rfl, okI.plainO _⟩⟩, rfl, trivial⟩ rfl)⟩
                      · refine aops_lit 162 rfl q24 ?_
                        refine aops_skip rfl rfl ?_
                        refine aops_skip rfl rfl ?_
                        refine aops_skip rfl rfl ?_
                        refine aops_eff (eff_pick rfl rfl) rfl rfl rfl ?_
                        refine aops_nil ?_
                        refine then_n ?_
                        refine ac_condF rfl rfl ?_
                        refine ac_exit ?_
                        refine then_exit ?_
                        refine then_exit ?_
                        obtain rfl := so h
                        exact ⟨_, rfl, rfl, (ent_mk (σ := sg [(0, 0), (1, 1), (2, 2), (3, 3)]) ⟨⟨_, rfl, rfl⟩, ⟨_, rfl, ⟨rfl, rfl, rfl, rfl⟩⟩, ⟨_, rfl, ⟨rfl, rfl, rfl, rfl⟩⟩, ⟨_, rfl, ⟨rfl, rfl, rfl, rfl⟩⟩, ⟨_, rfl, rfl⟩, ⟨_, rfl, rfl⟩, ⟨_, rfl, rfl⟩, trivial⟩ ⟨⟨_, rfl, rfl, .inl ⟨rfl, plain_of rfl⟩⟩, rfl, ⟨_, rfl, rfl, .inr ⟨_, _, rfl, ⟨_, _, rfl, rfl, ⟨_, _, rfl, rfl, ⟨_, _, rfl, ⟨rfl, rfl, rfl, rfl⟩, rfl⟩⟩⟩, rfl⟩⟩, rfl, ⟨_, rfl, rfl, .inl ⟨rfl, okI.plainO _⟩⟩, rfl, ⟨_, rfl, rfl, .inl ⟨rfl, okI.plainO _⟩⟩, rfl, trivial⟩ rfl)⟩
                    · rintro e t ⟨rfl, hent⟩
                      refine block_here ?_
                      refine block_n ?_
                      refine then_n ?_
                      refine ac_ent hent ?_
                      refine ac_region ?_
                      refine aops_eff (eff_move rfl) rfl rfl rfl ?_
                      refine aops_eff (x_add rfl rfl) rfl rfl rfl ?_
                      refine aops_eff (eff_assign rfl) rfl rfl rfl ?_
                      refine aops_nil ?_
                      refine then_n ?_
                      obtain rfl := so h
                      exact ⟨_, rfl, (ent_mk (σ := sg [(0, 0), (1, 1), (2, 2), (3, 3)]) ⟨⟨_, rfl, rfl⟩, ⟨_, rfl, ⟨rfl, rfl, rfl, rfl⟩⟩, ⟨_, rfl, ⟨rfl, rfl, rfl, rfl⟩⟩, ⟨_, rfl, ⟨rfl, rfl, rfl, rfl⟩⟩, ⟨_, rfl, rfl⟩, ⟨_, rfl, rfl⟩, ⟨_, rfl, rfl⟩, trivial⟩ ⟨⟨_, rfl, rfl, .inl ⟨rfl, plain_of rfl⟩⟩, rfl, ⟨_, rfl, rfl, .inr ⟨_, _, rfl, ⟨_, _, rfl, rfl, ⟨_, _, rfl, rfl, ⟨_, _, rfl, ⟨rfl, rfl, rfl, rfl⟩, rfl⟩⟩⟩, rfl⟩⟩, rfl, ⟨_, rfl, rfl, .inl ⟨rfl, okI.plainO _⟩⟩, rfl, ⟨_, rfl, rfl, .inl ⟨rfl, okI.plainO _⟩⟩, rfl, trivial⟩ rfl)⟩
                  · refine ac_condF rfl q22 ?_
                    refine ac_exit ?_
                    refine then_exit ?_
                    refine then_exit ?_
                    obtain rfl := so h
                    exact ⟨_, rfl, rfl, (ent_mk (σ := sg [(0, 0), (1, 1), (2, 2), (3, 3)]) ⟨⟨_, rfl, rfl⟩, ⟨_, rfl, ⟨rfl, rfl, rfl, rfl⟩⟩, ⟨_, rfl, ⟨rfl, rfl, rfl, rfl⟩⟩, ⟨_, rfl, ⟨rfl, rfl, rfl, rfl⟩⟩, ⟨_, rfl, rfl⟩, ⟨_, rfl, rfl⟩, trivial⟩ ⟨⟨_, rfl, rfl, .inl ⟨rfl, plain_of rfl⟩⟩, rfl, ⟨_, rfl, rfl, .inr ⟨_, _, rfl, ⟨_, _, rfl, rfl, ⟨_, _, rfl, rfl, ⟨_, _, rfl, ⟨rfl, rfl, rfl, rfl⟩, rfl⟩⟩⟩, rfl⟩⟩, rfl, ⟨_, rfl, rfl, .inl ⟨rfl, okI.plainO _⟩⟩, rfl, ⟨_, rfl, rfl, .inl ⟨rfl, okI.plainO _⟩⟩, rfl, trivial⟩ rfl)⟩
                · rintro e t ⟨rfl, hent⟩
                  refine block_here ?_
                  refine then_n ?_
                  refine ac_ent hent ?_
                  refine ac_seq ?_
                  refine ac_region ?_
                  refine aops_eff (eff_move rfl) rfl rfl rfl ?_
                  refine aops_eff (eff_move rfl) rfl rfl rfl ?_
                  refine aops_eff (w_lit TT_ok rfl rfl rfl rfl rfl rfl rfl rfl rfl rfl rfl rfl) rfl rfl rfl ?_
                  obtain ⟨q32, h⟩ := cg h
                  refine aops_eff (x_app TT_ok (l := x1.2.2.1) (m := [x1.1]) okIo q32 rfl rfl rfl rfl rfl rfl rfl rfl rfl rfl rfl rfl) rfl rfl rfl ?_
                  refine aops_eff (eff_assign rfl) rfl rfl rfl ?_
                  refine aops_nil ?_
                  refine then_n ?_
                  refine ac_region ?_
                  refine aops_eff (eff_move rfl) rfl rfl rfl ?_
                  refine aops_eff (x_add rfl rfl) rfl rfl rfl ?_
                  refine aops_eff (eff_assign rfl) rfl rfl rfl ?_
                  refine aops_nil ?_
                  refine block_n ?_
                  refine then_n ?_
                  refine ac_region ?_
                  refine aops_eff (eff_move rfl) rfl rfl rfl ?_
                  refine aops_eff (x_add rfl rfl) rfl rfl rfl ?_
                  refine aops_eff (eff_assign rfl) rfl rfl rfl ?_
                  refine aops_nil ?_
                  refine then_n ?_
                  obtain rfl := so h
                  exact ⟨_, rfl, (ent_mk (σ := sg [(0, 0), (1, 1), (2, 2), (3, 5)]) ⟨⟨_, rfl, rfl⟩, ⟨_, rfl, ⟨rfl, rfl, rfl, rfl⟩⟩, ⟨_, rfl, ⟨rfl, rfl, rfl, rfl⟩⟩, ⟨_, rfl, ⟨rfl, rfl, rfl, rfl⟩⟩, ⟨_, rfl, rfl⟩, ⟨_, rfl, rfl⟩, trivial⟩ ⟨⟨_, rfl, rfl, .inl ⟨rfl, plain_of rfl⟩⟩, rfl, ⟨_, rfl, rfl, .inr ⟨_, _, rfl, ⟨_, _, rfl, rfl, ⟨_, _, rfl, rfl, ⟨_, _, rfl, ⟨rfl, rfl, rfl, rfl⟩, rfl⟩⟩⟩, rfl⟩⟩, rfl, ⟨_, rfl, rfl, .inl ⟨rfl, okI.plainO _⟩⟩, rfl, ⟨_, rfl, rfl, .inl ⟨rfl, okI.plainO _⟩⟩, rfl, trivial⟩ rfl)⟩
      · refine ac_condF rfl q3 ?_
        refine ac_exit ?_
        refine then_exit ?_
        refine then_exit ?_
        obtain rfl := so h
        exact ⟨_, rfl, rfl, (ent_mk (σ := sg [(0, 0), (1, 1), (2, 2), (3, 3)]) ⟨⟨_, rfl, ⟨rfl, rfl, rfl, rfl⟩⟩, ⟨_, rfl, ⟨rfl, rfl, rfl, rfl⟩⟩, ⟨_, rfl, ⟨rfl, rfl, rfl, rfl⟩⟩, trivial⟩ ⟨⟨_, rfl, rfl, .inl ⟨rfl, plain_of rfl⟩⟩, rfl, ⟨_, rfl, rfl, .inr ⟨_, _, rfl, ⟨_, _, rfl, rfl, ⟨_, _, rfl, rfl, ⟨_, _, rfl, ⟨rfl, rfl, rfl, rfl⟩, rfl⟩⟩⟩, rfl⟩⟩, rfl, ⟨_, rfl, rfl, .inl ⟨rfl, okI.plainO _⟩⟩, rfl, ⟨_, rfl, rfl, .inl ⟨rfl, okI.plainO _⟩⟩, rfl, trivial⟩ rfl)⟩
    · refine aops_lit 26 rfl q2 ?_
      refine aops_skip rfl rfl ?_
      refine aops_skip rfl rfl ?_
      refine aops_skip rfl rfl ?_
      refine aops_skip rfl rfl ?_
      refine aops_eff (eff_pick rfl rfl) rfl rfl rfl ?_
      refine aops_nil ?_
      refine then_n ?_
      refine ac_condF rfl rfl ?_
      refine ac_exit ?_
      refine then_exit ?_
      refine then_exit ?_
      obtain rfl := so h
      exact ⟨_, rfl, rfl, (ent_mk (σ := sg [(0, 0), (1, 1), (2, 2), (3, 3)]) ⟨⟨_, rfl, ⟨rfl, rfl, rfl, rfl⟩⟩, ⟨_, rfl, ⟨rfl, rfl, rfl, rfl⟩⟩, ⟨_, rfl, ⟨rfl, rfl, rfl, rfl⟩⟩, trivial⟩ ⟨⟨_, rfl, rfl, .inl ⟨rfl, plain_of rfl⟩⟩, rfl, ⟨_, rfl, rfl, .inr ⟨_, _, rfl, ⟨_, _, rfl, rfl, ⟨_, _, rfl, rfl, ⟨_, _, rfl, ⟨rfl, rfl, rfl, rfl⟩, rfl⟩⟩⟩, rfl⟩⟩, rfl, ⟨_, rfl, rfl, .inl ⟨rfl, okI.plainO _⟩⟩, rfl, ⟨_, rfl, rfl, .inl ⟨rfl, okI.plainO _⟩⟩, rfl, trivial⟩ rfl)⟩
  · rintro e t ⟨rfl, hent⟩
    refine block_here ?_
    refine then_n ?_
    refine ac_ent hent ?_
    refine ac_seq ?_
    refine ac_region ?_
    refine aops_eff (w_load_ptr TT_ok rfl rfl rfl rfl rfl rfl rfl) rfl rfl rfl ?_
    refine aops_eff (eff_move rfl) rfl rfl rfl ?_
    refine aops_eff (w_store TT_ok rfl rfl rfl rfl rfl rfl rfl rfl) rfl rfl rfl ?_
    refine aops_eff (eff_assign rfl) rfl rfl rfl ?_
    refine aops_nil ?_
    refine then_n ?_
    refine ac_ret ?_
    obtain rfl := so h
    exact ret_mk rfl rfl rfl (xz_tuple rfl (xB_cons (xB_agg (x1_cons (rfl) (x1_cons (rfl) (x1_cons (x_f1 okI rfl rfl) x1_nil)))) (xB_cons (xB_one (x_f1 okI rfl rfl)) xB_nil)))

noncomputable def m_impl_ReduceMod (a0 : Int) (a1 : Int) : Option Int :=
  Option.bind (m_impl_IsField a0) fun v1 =>
  bif !v1 then
    (some (0))
  else
    (bif !decide (a0 = 0) then
      (bif !decide (a0 = 0) then
        (some ((wr ((a1.tmod a0) + a0)).tmod a0))
      else none)
    else none)

theorem c_impl_ReduceMod (a0 : Int) (a1 : Int) (r : Int) (h : m_impl_ReduceMod a0 a1 = some r) : HasC Try.prog 172 [.int a0, .int a1] (.int r) := by
  refine hasC_mk TT_ok (rvs := [.tmp 4]) (ns := [0, 1, 2, 3, 4, 5, 6, 7, 8, 9, 10, 11, 12, 13]) Try.func172 rfl rfl Try.ntmps172 rfl rfl rfl ?_
  refine ac_seq ?_
  refine ac_region ?_
  refine aops_eff (eff_assign rfl) rfl rfl rfl ?_
  refine aops_nil ?_
  refine then_n ?_
  refine ac_seq ?_
  refine ac_seq ?_
  refine ac_region ?_
  refine aops_eff (eff_move rfl) rfl rfl rfl ?_
  obtain ⟨v1, hv1, h⟩ := ob h
  refine aops_eff (w_call0s (c_impl_IsField a0 v1 hv1) rfl (va_cons (va_same rfl) va_nil)) rfl rfl rfl ?_
  refine aops_eff (w_not rfl) rfl rfl rfl ?_
  refine aops_nil ?_
  refine then_n ?_
  rcases cb h with ⟨q2, h⟩ | ⟨q2, h⟩
  · refine ac_condT rfl q2 ?_
    refine ac_seq ?_
    refine ac_region ?_
    refine aops_eff (eff_assign rfl) rfl rfl rfl ?_
    refine aops_nil ?_
    refine then_n ?_
    refine ac_ret ?_
    refine then_ret ?_
    obtain rfl := so h
    exact ret_mk rfl rfl rfl (fz_int rfl)
  · refine ac_condF rfl q2 ?_
    refine ac_skip ?_
    refine then_n ?_
    refine ac_seq ?_
    refine ac_region ?_
    refine aops_eff (eff_move rfl) rfl rfl rfl ?_
    refine aops_eff (eff_move rfl) rfl rfl rfl ?_
    obtain ⟨q4, h⟩ := cg h
    refine aops_eff (x_rem rfl rfl q4) rfl rfl rfl ?_
    refine aops_eff (eff_move rfl) rfl rfl rfl ?_
    refine aops_eff (x_add rfl rfl) rfl rfl rfl ?_
    refine aops_eff (eff_move rfl) rfl rfl rfl ?_
    obtain ⟨q3, h⟩ := cg h
    refine aops_eff (x_rem rfl rfl q3) rfl rfl rfl ?_
    refine aops_eff (eff_assign rfl) rfl rfl rfl ?_
    refine aops_nil ?_
    refine then_n ?_
    refine ac_ent (t := mkS [(4, .int ((wr ((a1.tmod a0) + a0)).tmod a0))] [] 0 [0, 1, 2, 3, 4, 5, 6, 7, 8, 9, 10, 11, 12, 13]) (ent_mk (σ := sg []) ⟨⟨_, rfl, rfl⟩, trivial⟩ trivial rfl) ?_
    refine ac_ret ?_
    obtain rfl := so h
    exact ret_mk rfl rfl rfl (fz_int rfl)

noncomputable def m_impl_PowerMod_L1 (a0 : Int) (a1 : Int) (a2 : Int) (x1 : (Int × Int)) : Option ((Int × Int) ⊕ Int) :=
  bif decide (x1.2 < a2) then
    (Option.bind (m_impl_ReduceMod a0 a1) fun v6 =>
    bif !decide (a0 = 0) then
      (some (.inl ((wr (x1.1 * v6)).tmod a0, wr (x1.2 + 1))))
    else none)
  else
    (some (.inr x1.1))

noncomputable def m_impl_PowerMod (a0 : Int) (a1 : Int) (a2 : Int) : Option Int :=
  Option.bind (m_impl_IsField a0) fun v1 =>
  bif !v1 then
    (some (0))
  else
    (Option.bind (m_impl_within a2 0 1000) fun v3 =>
    bif !v3 then
      (some (0))
    else
      (Option.bind (Lp (m_impl_PowerMod_L1 a0 a1 a2) (1, 0)) fun y8 =>
      some (y8)))

theorem c_impl_PowerMod (a0 : Int) (a1 : Int) (a2 : Int) (r : Int) (h : m_impl_PowerMod a0 a1 a2 = some r) : HasC Try.prog 170 [.int a0, .int a1, .int a2] (.int r) := by
  refine hasC_mk TT_ok (rvs := [.tmp 6]) (ns := [0, 1, 2, 3, 4, 5, 6, 7, 8, 9, 10, 11, 12, 13]) Try.func170 rfl rfl Try.ntmps170 rfl rfl rfl ?_
  refine ac_seq ?_
  refine ac_region ?_
  refine aops_eff (eff_assign rfl) rfl rfl rfl ?_
  refine aops_nil ?_
  refine then_n ?_
  refine ac_seq ?_
  refine ac_seq ?_
  refine ac_region ?_
  refine aops_eff (eff_move rfl) rfl rfl rfl ?_
  obtain ⟨v1, hv1, h⟩ := ob h
  refine aops_eff (w_call0s (c_impl_IsField a0 v1 hv1) rfl (va_cons (va_same rfl) va_nil)) rfl rfl rfl ?_
  refine aops_eff (w_not rfl) rfl rfl rfl ?_
  refine aops_eff (eff_move rfl) rfl rfl rfl ?_
  rcases cb h with ⟨q2, h⟩ | ⟨q2, h⟩
  · refine aops_lit 11 rfl q2 ?_
    refine aops_skip rfl rfl ?_
    refine aops_skip rfl rfl ?_
    refine aops_skip rfl rfl ?_
    refine aops_eff (eff_pick rfl rfl) rfl rfl rfl ?_
    refine aops_nil ?_
    refine then_n ?_
    refine ac_condT rfl rfl ?_
    refine ac_seq ?_
    refine ac_region ?_
    refine aops_eff (eff_assign rfl) rfl rfl rfl ?_
    refine aops_nil ?_
    refine then_n ?_
    refine ac_ret ?_
    refine then_ret ?_
    obtain rfl := so h
    exact ret_mk rfl rfl rfl (fz_int rfl)
  · refine aops_lit 11 rfl q2 ?_
    refine aops_eff (eff_move rfl) rfl rfl rfl ?_
    obtain ⟨v3, hv3, h⟩ := ob h
    refine aops_eff (w_call0s (c_impl_within a2 0 1000 v3 hv3) rfl (va_cons (va_same rfl) (va_cons (va_same rfl) (va_cons (va_same rfl) va_nil)))) rfl rfl rfl ?_
    refine aops_eff (w_not rfl) rfl rfl rfl ?_
    refine aops_eff (eff_pick rfl rfl) rfl rfl rfl ?_
    refine aops_nil ?_
    refine then_n ?_
    rcases cb h with ⟨q4, h⟩ | ⟨q4, h⟩
    · refine ac_condT rfl q4 ?_
      refine ac_seq ?_
      refine ac_region ?_
      refine aops_eff (eff_assign rfl) rfl rfl rfl ?_
      refine aops_nil ?_
      refine then_n ?_
      refine ac_ret ?_
      refine then_ret ?_
      obtain rfl := so h
      exact ret_mk rfl rfl rfl (fz_int rfl)
    · refine ac_condF rfl q4 ?_
      refine ac_skip ?_
      refine then_n ?_
      refine ac_seq ?_
      refine ac_region ?_
      refine aops_eff (eff_assign rfl) rfl rfl rfl ?_
      refine aops_nil ?_
      refine then_n ?_
      refine ac_seq ?_
      refine ac_seq ?_
      refine ac_region ?_
      refine aops_eff (eff_move rfl) rfl rfl rfl ?_
      refine aops_eff (eff_move rfl) rfl rfl rfl ?_
      refine aops_nil ?_
      refine then_n ?_
      refine ac_ent (t := mkS [(0, .int a0), (1, .int a1), (7, .int 1), (16, .int a2), (17, .int 0)] [] 0 [0, 1, 2, 3, 4, 5, 6, 7, 8, 9, 10, 11, 12, 13]) (ent_mk (σ := sg []) ⟨⟨_, rfl, rfl⟩, ⟨_, rfl, rfl⟩, ⟨_, rfl, rfl⟩, ⟨_, rfl, rfl⟩, ⟨_, rfl, rfl⟩, trivial⟩ trivial rfl) ?_
      refine ac_block ?_
      obtain ⟨y8, hy8, h⟩ := ob h
      refine ac_Lp (body := (m_impl_PowerMod_L1 a0 a1 a2)) hy8 (fun (x1 : (Int × Int)) => mkS [(0, .int a0), (1, .int a1), (7, .int x1.1), (16, .int a2), (17, .int x1.2)] [] 0 [0, 1, 2, 3, 4, 5, 6, 7, 8, 9, 10, 11, 12, 13]) (fun r e t => e = .exit 0 ∧ Ent t (mkS [(7, .int r)] [] 0 [0, 1, 2, 3, 4, 5, 6, 7, 8, 9, 10, 11, 12, 13])) (ent_mk (σ := sg []) ⟨⟨_, rfl, rfl⟩, ⟨_, rfl, rfl⟩, ⟨_, rfl, rfl⟩, ⟨_, rfl, rfl⟩, ⟨_, rfl, rfl⟩, trivial⟩ trivial rfl) ?_ ?_
      · intro x1 o h
        refine ac_seq ?_
        refine ac_region ?_
        refine aops_eff (w_cmp rfl rfl rfl) rfl rfl rfl ?_
        refine aops_nil ?_
        refine then_n ?_
        refine ac_seq ?_
        rcases cb h with ⟨q5, h⟩ | ⟨q5, h⟩
        · refine ac_condT rfl q5 ?_
          refine ac_skip ?_
          refine then_n ?_
          refine ac_seq ?_
          refine ac_block ?_
          refine ac_region ?_
          refine aops_eff (eff_move rfl) rfl rfl rfl ?_
          refine aops_eff (eff_move rfl) rfl rfl rfl ?_
          refine aops_eff (eff_move rfl) rfl rfl rfl ?_
          obtain ⟨v6, hv6, h⟩ := ob h
          refine aops_eff (w_call0s (c_impl_ReduceMod a0 a1 v6 hv6) rfl (va_cons (va_same rfl) (va_cons (va_same rfl) va_nil))) rfl rfl rfl ?_
          refine aops_eff (x_mul rfl rfl) rfl rfl rfl ?_
          refine aops_eff (eff_move rfl) rfl rfl rfl ?_
          obtain ⟨q7, h⟩ := cg h
          refine aops_eff (x_rem rfl rfl q7) rfl rfl rfl ?_
          refine aops_eff (eff_assign rfl) rfl rfl rfl ?_
          refine aops_nil ?_
          refine block_n ?_
          refine then_n ?_
          refine ac_region ?_
          refine aops_eff (x_add rfl rfl) rfl rfl rfl ?_
          refine aops_eff (eff_move rfl) rfl rfl rfl ?_
          refine aops_nil ?_
          refine then_n ?_
          obtain rfl := so h
          exact ⟨_, rfl, (ent_mk (σ := sg []) ⟨⟨_, rfl, rfl⟩, ⟨_, rfl, rfl⟩, ⟨_, rfl, rfl⟩, ⟨_, rfl, rfl⟩, ⟨_, rfl, rfl⟩, trivial⟩ trivial rfl)⟩
        · refine ac_condF rfl q5 ?_
          refine ac_exit ?_
          refine then_exit ?_
          refine then_exit ?_
          obtain rfl := so h
          exact ⟨_, rfl, rfl, (ent_mk (σ := sg []) ⟨⟨_, rfl, rfl⟩, trivial⟩ trivial rfl)⟩
      · rintro e t ⟨rfl, hent⟩
        refine block_here ?_
        refine then_n ?_
        refine ac_ent hent ?_
        refine ac_seq ?_
        refine ac_region ?_
        refine aops_eff (eff_move rfl) rfl rfl rfl ?_
        refine aops_eff (eff_assign rfl) rfl rfl rfl ?_
        refine aops_nil ?_
        refine then_n ?_
        refine ac_ret ?_
        obtain rfl := so h
        exact ret_mk rfl rfl rfl (fz_int rfl)

noncomputable def m_impl_InverseMod (a0 : Int) (a1 : Int) : Option Int :=
  Option.bind (m_impl_IsField a0) fun v1 =>
  bif !v1 then
    (some (0))
  else
    (Option.bind (m_impl_PowerMod a0 a1 (max (wr (a0 - 2)) 1)) fun v3 =>
    some (v3))

theorem c_impl_InverseMod (a0 : Int) (a1 : Int) (r : Int) (h : m_impl_InverseMod a0 a1 = some r) : HasC Try.prog 163 [.int a0, .int a1] (.int r) := by
  refine hasC_mk TT_ok (rvs := [.tmp 4]) (ns := [0, 1, 2, 3, 4, 5, 6, 7, 8, 9, 10, 11, 12, 13]) Try.func163 rfl rfl Try.ntmps163 rfl rfl rfl ?_
  refine ac_seq ?_
  refine ac_region ?_
  refine aops_eff (eff_assign rfl) rfl rfl rfl ?_
  refine aops_nil ?_
  refine then_n ?_
  refine ac_seq ?_
  refine ac_seq ?_
  refine ac_region ?_
  refine aops_eff (eff_move rfl) rfl rfl rfl ?_
  obtain ⟨v1, hv1, h⟩ := ob h
  refine aops_eff (w_call0s (c_impl_IsField a0 v1 hv1) rfl (va_cons (va_same rfl) va_nil)) rfl rfl rfl ?_
  refine aops_eff (w_not rfl) rfl rfl rfl ?_
  refine aops_nil ?_
  refine then_n ?_
  rcases cb h with ⟨q2, h⟩ | ⟨q2, h⟩
  · refine ac_condT rfl q2 ?_
    refine ac_seq ?_
    refine ac_region ?_
    refine aops_eff (eff_assign rfl) rfl rfl rfl ?_
    refine aops_nil ?_
    refine then_n ?_
    refine ac_ret ?_
    refine then_ret ?_
    obtain rfl := so h
    exact ret_mk rfl rfl rfl (fz_int rfl)
  · refine ac_condF rfl q2 ?_
    refine ac_skip ?_
    refine then_n ?_
    refine ac_seq ?_
    refine ac_region ?_
    refine aops_eff (eff_move rfl) rfl rfl rfl ?_
    refine aops_eff (eff_move rfl) rfl rfl rfl ?_
    refine aops_eff (eff_move rfl) rfl rfl rfl ?_
    refine aops_eff (x_sub rfl rfl) rfl rfl rfl ?_
    refine aops_eff (x_max rfl rfl) rfl rfl rfl ?_
    obtain ⟨v3, hv3, h⟩ := ob h
    refine aops_eff (w_call0s (c_impl_PowerMod a0 a1 (max (wr (a0 - 2)) 1) v3 hv3) rfl (va_cons (va_same rfl) (va_cons (va_same rfl) (va_cons (va_same rfl) va_nil)))) rfl rfl rfl ?_
    refine aops_eff (eff_assign rfl) rfl rfl rfl ?_
    refine aops_nil ?_
    refine then_n ?_
    refine ac_ret ?_
    obtain rfl := so h
    exact ret_mk rfl rfl rfl (fz_int rfl)

noncomputable def m_spec_AreDims_L1 (a1 : (List Int)) (x1 : (Int × Int)) : Option ((Int × Int) ⊕ (Int ⊕ Bool)) :=
  bif decide (x1.2 < (a1.length : Int)) then
    (Option.bind (atL a1 x1.2) fun v5 =>
    Option.bind (m_spec_l1In v5 0 4) fun v6 =>
    bif !v6 then
      (some (.inr (.inr (false))))
    else
      (Option.bind (atL a1 x1.2) fun v8 =>
      some (.inl (wr (x1.1 + v8), wr (x1.2 + 1)))))
  else
    (some (.inr (.inl x1.1)))

noncomputable def m_spec_AreDims (a0 : Qv) (a1 : (List Int)) : Option Bool :=
  Option.bind (m_spec_IsQuiver a0) fun v1 =>
  bif !v1 then
    (some (false))
  else
    (bif !decide ((a1.length : Int) = a0.n) then
      (some (false))
    else
      (Option.bind (Lp (m_spec_AreDims_L1 a1) (0, 0)) fun y9 =>
      Sum.elim (fun y10 =>
        some (decide (y10 ≤ 8))
      ) 
      (fun y11 =>
        some y11
      )
       y9))

theorem c_spec_AreDims (a0 : Qv) (a1 : (List Int)) (r : Bool) (h : m_spec_AreDims a0 a1 = some r) : HasC Try.prog 71 [.agg (eQ a0), .list 1 (List.map eI a1)] (.bl r) := by
  refine hasC_mk TT_ok (rvs := [.tmp 4]) (ns := [0, 1, 2, 3, 4, 5, 6, 7, 8, 9, 10, 11, 12, 13]) Try.func71 rfl rfl Try.ntmps71 rfl rfl rfl ?_
  refine ac_seq ?_
  refine ac_region ?_
  refine aops_eff (w_box rfl rfl rfl rfl) rfl rfl rfl ?_
  refine aops_eff (eff_assign rfl) rfl rfl rfl ?_
  refine aops_nil ?_
  refine then_n ?_
  refine ac_seq ?_
  refine ac_seq ?_
  refine ac_region ?_
  refine aops_eff (w_load_ptr TT_ok rfl rfl rfl rfl rfl rfl rfl) rfl rfl rfl ?_
  obtain ⟨v1, hv1, h⟩ := ob h
  refine aops_eff (w_call0s (c_spec_IsQuiver a0 v1 hv1) rfl (va_cons (va_agg' (v1_cons (v1_same rfl) (v1_cons (v1_same rfl) (v1_cons (v1_same rfl) v1_nil)))) va_nil)) rfl rfl rfl ?_
  refine aops_eff (w_not rfl) rfl rfl rfl ?_
  refine aops_eff (eff_move rfl) rfl rfl rfl ?_
  rcases cb h with ⟨q2, h⟩ | ⟨q2, h⟩
  · refine aops_lit 10 rfl q2 ?_
    refine aops_skip rfl rfl ?_
    refine aops_skip rfl rfl ?_
    refine aops_skip rfl rfl ?_
    refine aops_skip rfl rfl ?_
    refine aops_skip rfl rfl ?_
    refine aops_eff (eff_pick rfl rfl) rfl rfl rfl ?_
    refine aops_nil ?_
    refine then_n ?_
    refine ac_ent (t := mkS [(1, .list 1 (List.map eI a1)), (16, .bl true)] [] 1 [1, 2, 3, 4, 5, 6, 7, 8, 9, 10, 11, 12, 13, 14]) (ent_mk (σ := sg []) ⟨⟨_, rfl, ⟨rfl, rfl⟩⟩, ⟨_, rfl, rfl⟩, trivial⟩ trivial rfl) ?_
    refine ac_condT rfl rfl ?_
    refine ac_seq ?_
    refine ac_region ?_
    refine aops_eff (eff_assign rfl) rfl rfl rfl ?_
    refine aops_nil ?_
    refine then_n ?_
    refine ac_ret ?_
    refine then_ret ?_
    obtain rfl := so h
    exact ret_mk rfl rfl rfl (fz_bl rfl)
  · refine aops_lit 10 rfl q2 ?_
    refine aops_eff (eff_move rfl) rfl rfl rfl ?_
    refine aops_eff (AEff.val (w_len_list TT_ok rfl rfl rfl) (v' := .int (a1.length : Int)) (by first | rw [len_map] | rw [encI_len])) rfl rfl rfl ?_
    refine aops_eff (w_field_ptr TT_ok rfl rfl rfl rfl rfl rfl rfl) rfl rfl rfl ?_
    refine aops_eff (w_load_ptr TT_ok rfl rfl rfl rfl rfl rfl rfl) rfl rfl rfl ?_
    refine aops_eff (w_cmp rfl rfl rfl) rfl rfl rfl ?_
    refine aops_eff (eff_pick rfl rfl) rfl rfl rfl ?_
    refine aops_nil ?_
    refine then_n ?_
    refine ac_ent (t := mkS [(1, .list 1 (List.map eI a1)), (16, .bl (!decide ((a1.length : Int) = a0.n)))] [] 1 [1, 2, 3, 4, 5, 6, 7, 8, 9, 10, 11, 12, 13, 14]) (ent_mk (σ := sg []) ⟨⟨_, rfl, ⟨rfl, rfl⟩⟩, ⟨_, rfl, rfl⟩, trivial⟩ trivial rfl) ?_
    rcases cb h with ⟨q3, h⟩ | ⟨q3, h⟩
    · refine ac_condT rfl q3 ?_
      refine ac_seq ?_
      refine ac_region ?_
      refine aops_eff (eff_assign rfl) rfl rfl rfl ?_
      refine aops_nil ?_
      refine then_n ?_
      refine ac_ret ?_
      refine then_ret ?_
      obtain rfl := so h
      exact ret_mk rfl rfl rfl (fz_bl rfl)
    · refine ac_condF rfl q3 ?_
      refine ac_skip ?_
      refine then_n ?_
      refine ac_seq ?_
      refine ac_region ?_
      refine aops_eff (eff_assign rfl) rfl rfl rfl ?_
      refine aops_nil ?_
      refine then_n ?_
      refine ac_seq ?_
      refine ac_seq ?_
      refine ac_region ?_
      refine aops_eff (eff_assign rfl) rfl rfl rfl ?_
      refine aops_nil ?_
      refine then_n ?_
      refine ac_block ?_
      obtain ⟨y9, hy9, h⟩ := ob h
      refine ac_Lp (body := (m_spec_AreDims_L1 a1)) hy9 (fun (x1 : (Int × Int)) => mkS [(1, .list 1 (List.map eI a1)), (5, .int x1.1), (6, .int x1.2)] [] 0 [0, 1, 2, 3, 4, 5, 6, 7, 8, 9, 10, 11, 12, 13]) (fun r e t => Sum.elim (fun a => (fun r e t => e = .exit 0 ∧ Ent t (mkS [(5, .int r)] [] 0 [0, 1, 2, 3, 4, 5, 6, 7, 8, 9, 10, 11, 12, 13])) a e t) (fun b => (fun r e t => e = .ret ∧ RetQ TT [.tmp 4] (.bl r) .ret t) b e t) r) (ent_mk (σ := sg []) ⟨⟨_, rfl, ⟨rfl, rfl⟩⟩, ⟨_, rfl, rfl⟩, ⟨_, rfl, rfl⟩, trivial⟩ trivial rfl) ?_ ?_
      · intro x1 o h
        refine ac_seq ?_
        refine ac_seq ?_
        refine ac_region ?_
        refine aops_eff (eff_move rfl) rfl rfl rfl ?_
        refine aops_eff (eff_move rfl) rfl rfl rfl ?_
        refine aops_eff (AEff.val (w_len_list TT_ok rfl rfl rfl) (v' := .int (a1.length : Int)) (by first | rw [len_map] | rw [encI_len])) rfl rfl rfl ?_
        refine aops_eff (w_cmp rfl rfl rfl) rfl rfl rfl ?_
        refine aops_nil ?_
        refine then_n ?_
        rcases cb h with ⟨q4, h⟩ | ⟨q4, h⟩
        · refine ac_condT rfl q4 ?_
          refine ac_skip ?_
          refine then_n ?_
          refine ac_seq ?_
          refine ac_block ?_
          refine ac_seq ?_
          refine ac_seq ?_
          refine ac_region ?_
          refine aops_eff (eff_move rfl) rfl rfl rfl ?_
          refine aops_eff (eff_move rfl) rfl rfl rfl ?_
          obtain ⟨v5, hv5, h⟩ := ob h
          refine aops_eff (x_at_list TT_ok hv5 rfl rfl rfl rfl rfl rfl) rfl rfl rfl ?_
          refine aops_eff (w_load_ref TT_ok rfl rfl rfl rfl rfl rfl) rfl rfl rfl ?_
          obtain ⟨v6, hv6, h⟩ := ob h
          refine aops_eff (w_call0s (c_spec_l1In v5 0 4 v6 hv6) rfl (va_cons (va_same rfl) (va_cons (va_same rfl) (va_cons (va_same rfl) va_nil)))) rfl rfl rfl ?_
          refine aops_eff (w_not rfl) rfl rfl rfl ?_
          refine aops_nil ?_
          refine then_n ?_
          rcases cb h with ⟨q7, h⟩ | ⟨q7, h⟩
          · refine ac_condT rfl q7 ?_
            refine ac_seq ?_
            refine ac_region ?_
            refine aops_eff (eff_assign rfl) rfl rfl rfl ?_
            refine aops_nil ?_
            refine then_n ?_
            refine ac_ret ?_
            refine then_ret ?_
            refine block_ret ?_
            refine then_ret ?_
            refine then_ret ?_
            obtain rfl := so h
            exact ⟨_, rfl, rfl, ret_mk rfl rfl rfl (fz_bl rfl)⟩
          · refine ac_condF rfl q7 ?_
            refine ac_skip ?_
            refine then_n ?_
            refine ac_region ?_
            refine aops_eff (eff_move rfl) rfl rfl rfl ?_
            refine aops_eff (eff_move rfl) rfl rfl rfl ?_
            refine aops_eff (eff_move rfl) rfl rfl rfl ?_
            obtain ⟨v8, hv8, h⟩ := ob h
            refine aops_eff (x_at_list TT_ok hv8 rfl rfl rfl rfl rfl rfl) rfl rfl rfl ?_
            refine aops_eff (w_load_ref TT_ok rfl rfl rfl rfl rfl rfl) rfl rfl rfl ?_
            refine aops_eff (x_add rfl rfl) rfl rfl rfl ?_
            refine aops_eff (eff_assign rfl) rfl rfl rfl ?_
            refine aops_nil ?_
            refine block_n ?_
            refine then_n ?_
            refine ac_ent (t := mkS [(1, .list 1 (List.map eI a1)), (5, .int (wr (x1.1 + v8))), (6, .int x1.2)] [] 0 [0, 1, 2, 3, 4, 5, 6, 7, 8, 9, 10, 11, 12, 13]) (ent_mk (σ := sg []) ⟨⟨_, rfl, ⟨rfl, rfl⟩⟩, ⟨_, rfl, rfl⟩, ⟨_, rfl, rfl⟩, trivial⟩ trivial rfl) ?_
            refine ac_region ?_
            refine aops_eff (eff_move rfl) rfl rfl rfl ?_
            refine aops_eff (x_add rfl rfl) rfl rfl rfl ?_
            refine aops_eff (eff_assign rfl) rfl rfl rfl ?_
            refine aops_nil ?_
            refine then_n ?_
            obtain rfl := so h
            exact ⟨_, rfl, (ent_mk (σ := sg []) ⟨⟨_, rfl, ⟨rfl, rfl⟩⟩, ⟨_, rfl, rfl⟩, ⟨_, rfl, rfl⟩, trivial⟩ trivial rfl)⟩
        · refine ac_condF rfl q4 ?_
          refine ac_exit ?_
          refine then_exit ?_
          refine then_exit ?_
          obtain rfl := so h
          exact ⟨_, rfl, rfl, (ent_mk (σ := sg []) ⟨⟨_, rfl, rfl⟩, trivial⟩ trivial rfl)⟩
      · intro e t hX
        rcases y9 with y10 | y11
        · obtain ⟨rfl, hent⟩ := hX
          refine block_here ?_
          refine then_n ?_
          refine ac_ent hent ?_
          refine ac_seq ?_
          refine ac_region ?_
          refine aops_eff (eff_move rfl) rfl rfl rfl ?_
          refine aops_eff (w_cmp rfl rfl rfl) rfl rfl rfl ?_
          refine aops_eff (eff_assign rfl) rfl rfl rfl ?_
          refine aops_nil ?_
          refine then_n ?_
          refine ac_ret ?_
          obtain rfl := so h
          exact ret_mk rfl rfl rfl (fz_bl rfl)
        · obtain ⟨rfl, hent⟩ := hX
          refine block_ret ?_
          refine then_ret ?_
          obtain rfl := so h
          exact hent

noncomputable def m_spec_IsRep_L1 (a0 : Rp) (x1 : Int) : Option (Int ⊕ (Unit ⊕ Bool)) :=
  bif decide (x1 < (a0.maps.length : Int)) then
    (Option.bind (atL a0.maps x1) fun v7 =>
    Option.bind (m_spec_IsMatrix a0.p v7) fun v8 =>
    bif !v8 then
      (some (.inr (.inr (false))))
    else
      (Option.bind (atL a0.maps x1) fun v10 =>
      Option.bind (atL a0.q.src x1) fun v11 =>
      Option.bind (atL a0.dims v11) fun v12 =>
      bif !decide (v10.cols = v12) then
        (some (.inr (.inr (false))))
      else
        (Option.bind (atL a0.maps x1) fun v14 =>
        Option.bind (atL a0.q.tgt x1) fun v15 =>
        Option.bind (atL a0.dims v15) fun v16 =>
        bif !decide (v14.rows = v16) then
          (some (.inr (.inr (false))))
        else
          (some (.inl (wr (x1 + 1)))))))
  else
    (some (.inr (.inl ())))

noncomputable def m_spec_IsRep (a0 : Rp) : Option Bool :=
  Option.bind (m_spec_IsField a0.p) fun v1 =>
  bif !v1 then
    (some (false))
  else
    (Option.bind (m_spec_AreDims a0.q a0.dims) fun v3 =>
    bif !v3 then
      (some (false))
    else
      (bif !decide ((a0.maps.length : Int) = (a0.q.src.length : Int)) then
        (some (false))
      else
        (Option.bind (Lp (m_spec_IsRep_L1 a0) 0) fun y18 =>
        Sum.elim (fun y19 =>
          some (true)
        ) 
        (fun y20 =>
          some y20
        )
         y18)))

theorem c_spec_IsRep (a0 : Rp) (r : Bool) (h : m_spec_IsRep a0 = some r) : HasC Try.prog 37 [.agg (eR a0)] (.bl r) := by
  refine hasC_mk TT_ok (rvs := [.tmp 2]) (ns := [0, 1, 2, 3, 4, 5, 6, 7, 8, 9, 10, 11, 12, 13]) Try.func37 rfl rfl Try.ntmps37 rfl rfl rfl ?_
  refine ac_seq ?_
  refine ac_region ?_
  refine aops_eff (w_box rfl rfl rfl rfl) rfl rfl rfl ?_
  refine aops_eff (eff_assign rfl) rfl rfl rfl ?_
  refine aops_nil ?_
  refine then_n ?_
  refine ac_seq ?_
  refine ac_seq ?_
  refine ac_region ?_
  refine aops_eff (w_field_ptr TT_ok rfl rfl rfl rfl rfl rfl rfl) rfl rfl rfl ?_
  refine aops_eff (w_load_ptr TT_ok rfl rfl rfl rfl rfl rfl rfl) rfl rfl rfl ?_
  obtain ⟨v1, hv1, h⟩ := ob h
  refine aops_eff (w_call0s (c_spec_IsField a0.p v1 hv1) rfl (va_cons (va_same rfl) va_nil)) rfl rfl rfl ?_
  refine aops_eff (w_not rfl) rfl rfl rfl ?_
  refine aops_eff (eff_move rfl) rfl rfl rfl ?_
  rcases cb h with ⟨q2, h⟩ | ⟨q2, h⟩
  · refine aops_lit 8 rfl q2 ?_
    refine aops_skip rfl rfl ?_
    refine aops_skip rfl rfl ?_
    refine aops_skip rfl rfl ?_
    refine aops_skip rfl rfl ?_
    refine aops_skip rfl rfl ?_
    refine aops_skip rfl rfl ?_
    refine aops_eff (eff_pick rfl rfl) rfl rfl rfl ?_
    refine aops_eff (eff_move rfl) rfl rfl rfl ?_
    refine aops_skip rfl rfl ?_
    refine aops_skip rfl rfl ?_
    refine aops_skip rfl rfl ?_
    refine aops_skip rfl rfl ?_
    refine aops_skip rfl rfl ?_
    refine aops_skip rfl rfl ?_
    refine aops_skip rfl rfl ?_
    refine aops_skip rfl rfl ?_
    refine aops_eff (eff_pick rfl rfl) rfl rfl rfl ?_
    refine aops_nil ?_
    refine then_n ?_
    refine ac_ent (t := mkS [(1, .ptr 0 0 0), (25, .bl true)] [(0, ⟨6, [[.int a0.p, .int a0.q.n, .list 1 (List.map eI a0.q.src), .list 1 (List.map eI a0.q.tgt), .list 1 (List.map eI a0.dims), .list 3 (List.map eM a0.maps)]]⟩)] 1 [1, 2, 3, 4, 5, 6, 7, 8, 9, 10, 11, 12, 13, 14]) (ent_mk (σ := sg [(0, 0)]) ⟨⟨_, rfl, ⟨rfl, rfl, rfl, rfl⟩⟩, ⟨_, rfl, rfl⟩, trivial⟩ ⟨⟨_, rfl, rfl, .inl ⟨rfl, plain_of rfl⟩⟩, rfl, trivial⟩ rfl) ?_
    refine ac_condT rfl rfl ?_
    refine ac_seq ?_
    refine ac_region ?_
    refine aops_eff (eff_assign rfl) rfl rfl rfl ?_
    refine aops_nil ?_
    refine then_n ?_
    refine ac_ret ?_
    refine then_ret ?_
    obtain rfl := so h
    exact ret_mk rfl rfl rfl (fz_bl rfl)
  · refine aops_lit 8 rfl q2 ?_
    refine aops_eff (w_field_ptr TT_ok rfl rfl rfl rfl rfl rfl rfl) rfl rfl rfl ?_
    refine aops_eff (w_load_ptr TT_ok rfl rfl rfl rfl rfl rfl rfl) rfl rfl rfl ?_
    refine aops_eff (w_field_ptr TT_ok rfl rfl rfl rfl rfl rfl rfl) rfl rfl rfl ?_
    refine aops_eff (w_load_ptr TT_ok rfl rfl rfl rfl rfl rfl rfl) rfl rfl rfl ?_
    obtain ⟨v3, hv3, h⟩ := ob h
    refine aops_eff (w_call0s (c_spec_AreDims a0.q a0.dims v3 hv3) rfl (va_cons (va_agg' (v1_cons (v1_same rfl) (v1_cons (v1_same rfl) (v1_cons (v1_same rfl) v1_nil)))) (va_cons (va_same rfl) va_nil))) rfl rfl rfl ?_
    refine aops_eff (w_not rfl) rfl rfl rfl ?_
    refine aops_eff (eff_pick rfl rfl) rfl rfl rfl ?_
    refine aops_eff (eff_move rfl) rfl rfl rfl ?_
    rcases cb h with ⟨q4, h⟩ | ⟨q4, h⟩
    · refine aops_lit 16 rfl q4 ?_
      refine aops_skip rfl rfl ?_
      refine aops_skip rfl rfl ?_
      refine aops_skip rfl rfl ?_
      refine aops_skip rfl rfl ?_
      refine aops_skip rfl rfl ?_
      refine aops_skip rfl rfl ?_
      refine aops_skip rfl rfl ?_
      refine aops_skip rfl rfl ?_
      refine aops_eff (eff_pick rfl rfl) rfl rfl rfl ?_
      refine aops_nil ?_
      refine then_n ?_
      refine ac_ent (t := mkS [(1, .ptr 0 0 0), (25, .bl true)] [(0, ⟨6, [[.int a0.p, .int a0.q.n, .list 1 (List.map eI a0.q.src), .list 1 (List.map eI a0.q.tgt), .list 1 (List.map eI a0.dims), .list 3 (List.map eM a0.maps)]]⟩)] 1 [1, 2, 3, 4, 5, 6, 7, 8, 9, 10, 11, 12, 13, 14]) (ent_mk (σ := sg [(0, 0)]) ⟨⟨_, rfl, ⟨rfl, rfl, rfl, rfl⟩⟩, ⟨_, rfl, rfl⟩, trivial⟩ ⟨⟨_, rfl, rfl, .inl ⟨rfl, plain_of rfl⟩⟩, rfl, trivial⟩ rfl) ?_
      refine ac_condT rfl rfl ?_
      refine ac_seq ?_
      refine ac_region ?_
      refine aops_eff (eff_assign rfl) rfl rfl rfl ?_
      refine aops_nil ?_
      refine then_n ?_
      refine ac_ret ?_
      refine then_ret ?_
      obtain rfl := so h
      exact ret_mk rfl rfl rfl (fz_bl rfl)
    · refine aops_lit 16 rfl q4 ?_
      refine aops_eff (w_field_ptr TT_ok rfl rfl rfl rfl rfl rfl rfl) rfl rfl rfl ?_
      refine aops_eff (w_load_ptr TT_ok rfl rfl rfl rfl rfl rfl rfl) rfl rfl rfl ?_
      refine aops_eff (AEff.val (w_len_list TT_ok rfl rfl rfl) (v' := .int (a0.maps.length : Int)) (by first | rw [len_map] | rw [encI_len])) rfl rfl rfl ?_
      refine aops_eff (w_field_ptr TT_ok rfl rfl rfl rfl rfl rfl rfl) rfl rfl rfl ?_
      refine aops_eff (w_field_ptr TT_ok rfl rfl rfl rfl rfl rfl rfl) rfl rfl rfl ?_
      refine aops_eff (w_load_ptr TT_ok rfl rfl rfl rfl rfl rfl rfl) rfl rfl rfl ?_
      refine aops_eff (AEff.val (w_len_list TT_ok rfl rfl rfl) (v' := .int (a0.q.src.length : Int)) (by first | rw [len_map] | rw [encI_len])) rfl rfl rfl ?_
      refine aops_eff (w_cmp rfl rfl rfl) rfl rfl rfl ?_
      refine aops_eff (eff_pick rfl rfl) rfl rfl rfl ?_
      refine aops_nil ?_
      refine then_n ?_
      refine ac_ent (t := mkS [(1, .ptr 0 0 0), (25, .bl (!decide ((a0.maps.length : Int) = (a0.q.src.length : Int))))] [(0, ⟨6, [[.int a0.p, .int a0.q.n, .list 1 (List.map eI a0.q.src), .list 1 (List.map eI a0.q.tgt), .list 1 (List.map eI a0.dims), .list 3 (List.map eM a0.maps)]]⟩)] 1 [1, 2, 3, 4, 5, 6, 7, 8, 9, 10, 11, 12, 13, 14]) (ent_mk (σ := sg [(0, 0)]) ⟨⟨_, rfl, ⟨rfl, rfl, rfl, rfl⟩⟩, ⟨_, rfl, rfl⟩, trivial⟩ ⟨⟨_, rfl, rfl, .inl ⟨rfl, plain_of rfl⟩⟩, rfl, trivial⟩ rfl) ?_
      rcases cb h with ⟨q5, h⟩ | ⟨q5, h⟩
      · refine ac_condT rfl q5 ?_
        refine ac_seq ?_
        refine ac_region ?_
        refine aops_eff (eff_assign rfl) rfl rfl rfl ?_
        refine aops_nil ?_
        refine then_n ?_
        refine ac_ret ?_
        refine then_ret ?_
        obtain rfl := so h
        exact ret_mk rfl rfl rfl (fz_bl rfl)
      · refine ac_condF rfl q5 ?_
        refine ac_skip ?_
        refine then_n ?_
        refine ac_seq ?_
        refine ac_seq ?_
        refine ac_region ?_
        refine aops_eff (eff_assign rfl) rfl rfl rfl ?_
        refine aops_nil ?_
        refine then_n ?_
        refine ac_block ?_
        obtain ⟨y18, hy18, h⟩ := ob h
        refine ac_Lp (body := (m_spec_IsRep_L1 a0)) hy18 (fun (x1 : Int) => mkS [(1, .ptr 0 0 0), (3, .int x1)] [(0, ⟨6, [[.int a0.p, .int a0.q.n, .list 1 (List.map eI a0.q.src), .list 1 (List.map eI a0.q.tgt), .list 1 (List.map eI a0.dims), .list 3 (List.map eM a0.maps)]]⟩)] 1 [1, 2, 3, 4, 5, 6, 7, 8, 9, 10, 11, 12, 13, 14]) (fun r e t => Sum.elim (fun a => (fun r e t => e = .exit 0 ∧ Ent t (mkS [] [] 0 [0, 1, 2, 3, 4, 5, 6, 7, 8, 9, 10, 11, 12, 13])) a e t) (fun b => (fun r e t => e = .ret ∧ RetQ TT [.tmp 2] (.bl r) .ret t) b e t) r) (ent_mk (σ := sg [(0, 0)]) ⟨⟨_, rfl, ⟨rfl, rfl, rfl, rfl⟩⟩, ⟨_, rfl, rfl⟩, trivial⟩ ⟨⟨_, rfl, rfl, .inl ⟨rfl, plain_of rfl⟩⟩, rfl, trivial⟩ rfl) ?_ ?_
        · intro x1 o h
          refine ac_seq ?_
          refine ac_seq ?_
          refine ac_region ?_
          refine aops_eff (eff_move rfl) rfl rfl rfl ?_
          refine aops_eff (w_field_ptr TT_ok rfl rfl rfl rfl rfl rfl rfl) rfl rfl rfl ?_
          refine aops_eff (w_load_ptr TT_ok rfl rfl rfl rfl rfl rfl rfl) rfl rfl rfl ?_
          refine aops_eff (AEff.val (w_len_list TT_ok rfl rfl rfl) (v' := .int (a0.maps.length : Int)) (by first | rw [len_map] | rw [encI_len])) rfl rfl rfl ?_
          refine aops_eff (w_cmp rfl rfl rfl) rfl rfl rfl ?_
          refine aops_nil ?_
          refine then_n ?_
          rcases cb h with ⟨q6, h⟩ | ⟨q6, h⟩
          · refine ac_condT rfl q6 ?_
            refine ac_skip ?_
            refine then_n ?_
            refine ac_seq ?_
            refine ac_block ?_
            refine ac_seq ?_
            refine ac_region_draw MIXX ?_
            refine aops_eff (w_field_ptr TT_ok rfl rfl rfl rfl rfl rfl rfl) rfl rfl rfl ?_
            refine aops_eff (w_load_ptr TT_ok rfl rfl rfl rfl rfl rfl rfl) rfl rfl rfl ?_
            refine aops_eff (w_field_ptr TT_ok rfl rfl rfl rfl rfl rfl rfl) rfl rfl rfl ?_
            refine aops_eff (w_load_ptr TT_ok rfl rfl rfl rfl rfl rfl rfl) rfl rfl rfl ?_
            refine aops_eff (eff_move rfl) rfl rfl rfl ?_
            obtain ⟨v7, hv7, h⟩ := ob h
            refine aops_eff (x_at_list TT_ok hv7 rfl rfl rfl rfl rfl rfl) rfl rfl rfl ?_
            refine aops_eff (w_load_ref TT_ok rfl rfl rfl rfl rfl rfl) rfl rfl rfl ?_
            obtain ⟨v8, hv8, h⟩ := ob h
            refine aops_eff (w_call0s (c_spec_IsMatrix a0.p v7 v8 hv8) rfl (va_cons (va_same rfl) (va_cons (va_agg' (v1_cons (v1_same rfl) (v1_cons (v1_same rfl) (v1_cons (v1_same rfl) v1_nil)))) va_nil))) rfl rfl rfl ?_
            refine aops_eff (w_not rfl) rfl rfl rfl ?_
            refine aops_eff (eff_move rfl) rfl rfl rfl ?_
            rcases cb h with ⟨q9, h⟩ | ⟨q9, h⟩
            · refine aops_lit 42 rfl q9 ?_
              refine aops_skip rfl rfl ?_
              refine aops_skip rfl rfl ?_
              refine aops_skip rfl rfl ?_
              refine aops_skip rfl rfl ?_
              refine aops_skip rfl rfl ?_
              refine aops_skip rfl rfl ?_
              refine aops_skip rfl rfl ?_
              refine aops_skip rfl rfl ?_
              refine aops_skip rfl rfl ?_
              refine aops_skip rfl rfl ?_
              refine aops_skip rfl rfl ?_
              refine aops_skip rfl rfl ?_
              refine aops_skip rfl rfl ?_
              refine aops_skip rfl rfl ?_
              refine aops_skip rfl rfl ?_
              refine aops_skip rfl rfl ?_
              refine aops_skip rfl rfl ?_
              refine aops_eff (eff_pick rfl rfl) rfl rfl rfl ?_
              refine aops_eff (eff_move rfl) rfl rfl rfl ?_
              refine aops_skip rfl rfl ?_
              refine aops_skip rfl rfl ?_
              refine aops_skip rfl rfl ?_
              refine aops_skip rfl rfl ?_
              refine aops_skip rfl rfl ?_
              refine aops_skip rfl rfl ?_
              refine aops_skip rfl rfl ?_
              refine aops_skip rfl rfl ?_
              refine aops_skip rfl rfl ?_
              refine aops_skip rfl rfl ?_
              refine aops_skip rfl rfl ?_
              refine aops_skip rfl rfl ?_
              refine aops_skip rfl rfl ?_
              refine aops_skip rfl rfl ?_
              refine aops_skip rfl rfl ?_
              refine aops_skip rfl rfl ?_
              refine aops_skip rfl rfl ?_
              refine aops_eff (eff_pick rfl rfl) rfl rfl rfl ?_
              refine aops_nil ?_
              refine ⟨by kernel_rfl, ?_⟩
              refine then_n ?_
              refine ac_ent (t := mkS [(1, .ptr 0 0 0), (3, .int x1), (79, .bl true)] [(0, ⟨6, [[.int a0.p, .int a0.q.n, .list 1 (List.map eI a0.q.src), .list 1 (List.map eI a0.q.tgt), .list 1 (List.map eI a0.dims), .list 3 (List.map eM a0.maps)]]⟩)] 1 [1, 2, 3, 4, 5, 6, 7, 8, 9, 10, 11, 12, 13, 14]) (ent_mk (σ := sg [(0, 0)]) ⟨⟨_, rfl, ⟨rfl, rfl, rfl, rfl⟩⟩, ⟨_, rfl, rfl⟩, ⟨_, rfl, rfl⟩, trivial⟩ ⟨⟨_, rfl, rfl, .inl ⟨rfl, plain_of rfl⟩⟩, rfl, trivial⟩ rfl) ?_
              refine ac_condT rfl rfl ?_
              refine ac_seq ?_
              refine ac_region ?_
              refine aops_eff (eff_assign rfl) rfl rfl rfl ?_
              refine aops_nil ?_
              refine then_n ?_
              refine ac_ret ?_
              refine block_ret ?_
              refine then_ret ?_
              refine then_ret ?_
              obtain rfl := so h
              exact ⟨_, rfl, rfl, ret_mk rfl rfl rfl (fz_bl rfl)⟩
            · refine aops_lit 42 rfl q9 ?_
              refine aops_eff (w_field_ptr TT_ok rfl rfl rfl rfl rfl rfl rfl) rfl rfl rfl ?_
              refine aops_eff (w_load_ptr TT_ok rfl rfl rfl rfl rfl rfl rfl) rfl rfl rfl ?_
              refine aops_eff (eff_move rfl) rfl rfl rfl ?_
              obtain ⟨v10, hv10, h⟩ := ob h
              refine aops_eff (x_at_list TT_ok hv10 rfl rfl rfl rfl rfl rfl) rfl rfl rfl ?_
              refine aops_eff (w_field_ref TT_ok rfl rfl rfl rfl rfl rfl) rfl rfl rfl ?_
              refine aops_eff (w_load_ref TT_ok rfl rfl rfl rfl rfl rfl) rfl rfl rfl ?_
              refine aops_eff (w_field_ptr TT_ok rfl rfl rfl rfl rfl rfl rfl) rfl rfl rfl ?_
              refine aops_eff (w_load_ptr TT_ok rfl rfl rfl rfl rfl rfl rfl) rfl rfl rfl ?_
              refine aops_eff (w_field_ptr TT_ok rfl rfl rfl rfl rfl rfl rfl) rfl rfl rfl ?_
              refine aops_eff (w_field_ptr TT_ok rfl rfl rfl rfl rfl rfl rfl) rfl rfl rfl ?_
              refine aops_eff (w_load_ptr TT_ok rfl rfl rfl rfl rfl rfl rfl) rfl rfl rfl ?_
              refine aops_eff (eff_move rfl) rfl rfl rfl ?_
              obtain ⟨v11, hv11, h⟩ := ob h
              refine aops_eff (x_at_list TT_ok hv11 rfl rfl rfl rfl rfl rfl) rfl rfl rfl ?_
              refine aops_eff (w_load_ref TT_ok rfl rfl rfl rfl rfl rfl) rfl rfl rfl ?_
              obtain ⟨v12, hv12, h⟩ := ob h
              refine aops_eff (x_at_list TT_ok hv12 rfl rfl rfl rfl rfl rfl) rfl rfl rfl ?_
              refine aops_eff (w_load_ref TT_ok rfl rfl rfl rfl rfl rfl) rfl rfl rfl ?_
              refine aops_eff (w_cmp rfl rfl rfl) rfl rfl rfl ?_
              refine aops_eff (eff_pick rfl rfl) rfl rfl rfl ?_
              refine aops_eff (eff_move rfl) rfl rfl rfl ?_
              rcases cb h with ⟨q13, h⟩ | ⟨q13, h⟩
              · refine aops_lit 61 rfl q13 ?_
                refine aops_skip rfl rfl ?_
                refine aops_skip rfl rfl ?_
                refine aops_skip rfl rfl ?_
                refine aops_skip rfl rfl ?_
                refine aops_skip rfl rfl ?_
                refine aops_skip rfl rfl ?_
                refine aops_skip rfl rfl ?_
                refine aops_skip rfl rfl ?_
                refine aops_skip rfl rfl ?_
                refine aops_skip rfl rfl ?_
                refine aops_skip rfl rfl ?_
                refine aops_skip rfl rfl ?_
                refine aops_skip rfl rfl ?_
                refine aops_skip rfl rfl ?_
                refine aops_skip rfl rfl ?_
                refine aops_skip rfl rfl ?_
                refine aops_skip rfl rfl ?_
                refine aops_eff (eff_pick rfl rfl) rfl rfl rfl ?_
                refine aops_nil ?_
                refine ⟨by kernel_rfl, ?_⟩
                refine then_n ?_
                refine ac_ent (t := mkS [(1, .ptr 0 0 0), (3, .int x1), (79, .bl true)] [(0, ⟨6, [[.int a0.p, .int a0.q.n, .list 1 (List.map eI a0.q.src), .list 1 (List.map eI a0.q.tgt), .list 1 (List.map eI a0.dims), .list 3 (List.map eM a0.maps)]]⟩)] 1 [1, 2, 3, 4, 5, 6, 7, 8, 9, 10, 11, 12, 13, 14]) (ent_mk (σ := sg [(0, 0)]) ⟨⟨_, rfl, ⟨rfl, rfl, rfl, rfl⟩⟩, ⟨_, rfl, rfl⟩, ⟨_, rfl, rfl⟩, trivial⟩ ⟨⟨_, rfl, rfl, .inl ⟨rfl, plain_of rfl⟩⟩, rfl, trivial⟩ rfl) ?_
                refine ac_condT rfl rfl ?_
                refine ac_seq ?_
                refine ac_region ?_
                refine aops_eff (eff_assign rfl) rfl rfl rfl ?_
                refine aops_nil ?_
                refine then_n ?_
                refine ac_ret ?_
                refine block_ret ?_
                refine then_ret ?_
                refine then_ret ?_
                obtain rfl := so h
                exact ⟨_, rfl, rfl, ret_mk rfl rfl rfl (fz_bl rfl)⟩
              · refine aops_lit 61 rfl q13 ?_
                refine aops_eff (w_field_ptr TT_ok rfl rfl rfl rfl rfl rfl rfl) rfl rfl rfl ?_
                refine aops_eff (w_load_ptr TT_ok rfl rfl rfl rfl rfl rfl rfl) rfl rfl rfl ?_
                refine aops_eff (eff_move rfl) rfl rfl rfl ?_
                obtain ⟨v14, hv14, h⟩ := ob h
                refine aops_eff (x_at_list TT_ok hv14 rfl rfl rfl rfl rfl rfl) rfl rfl rfl ?_
                refine aops_eff (w_field_ref TT_ok rfl rfl rfl rfl rfl rfl) rfl rfl rfl ?_
                refine aops_eff (w_load_ref TT_ok rfl rfl rfl rfl rfl rfl) rfl rfl rfl ?_
                refine aops_eff (w_field_ptr TT_ok rfl rfl rfl rfl rfl rfl rfl) rfl rfl rfl ?_
                refine aops_eff (w_load_ptr TT_ok rfl rfl rfl rfl rfl rfl rfl) rfl rfl rfl ?_
                refine aops_eff (w_field_ptr TT_ok rfl rfl rfl rfl rfl rfl rfl) rfl rfl rfl ?_
                refine aops_eff (w_field_ptr TT_ok rfl rfl rfl rfl rfl rfl rfl) rfl rfl rfl ?_
                refine aops_eff (w_load_ptr TT_ok rfl rfl rfl rfl rfl rfl rfl) rfl rfl rfl ?_
                refine aops_eff (eff_move rfl) rfl rfl rfl ?_
                obtain ⟨v15, hv15, h⟩ := ob h
                refine aops_eff (x_at_list TT_ok hv15 rfl rfl rfl rfl rfl rfl) rfl rfl rfl ?_
                refine aops_eff (w_load_ref TT_ok rfl rfl rfl rfl rfl rfl) rfl rfl rfl ?_
                obtain ⟨v16, hv16, h⟩ := ob h
                refine aops_eff (x_at_list TT_ok hv16 rfl rfl rfl rfl rfl rfl) rfl rfl rfl ?_
                refine aops_eff (w_load_ref TT_ok rfl rfl rfl rfl rfl rfl) rfl rfl rfl ?_
                refine aops_eff (w_cmp rfl rfl rfl) rfl rfl rfl ?_
                refine aops_eff (eff_pick rfl rfl) rfl rfl rfl ?_
                refine aops_nil ?_
                refine ⟨by kernel_rfl, ?_⟩
                refine then_n ?_
                refine ac_ent (t := mkS [(1, .ptr 0 0 0), (3, .int x1), (79, .bl (!decide (v14.rows = v16)))] [(0, ⟨6, [[.int a0.p, .int a0.q.n, .list 1 (List.map eI a0.q.src), .list 1 (List.map eI a0.q.tgt), .list 1 (List.map eI a0.dims), .list 3 (List.map eM a0.maps)]]⟩)] 1 [1, 2, 3, 4, 5, 6, 7, 8, 9, 10, 11, 12, 13, 14]) (ent_mk (σ := sg [(0, 0)]) ⟨⟨_, rfl, ⟨rfl, rfl, rfl, rfl⟩⟩, ⟨_, rfl, rfl⟩, ⟨_, rfl, rfl⟩, trivial⟩ ⟨⟨_, rfl, rfl, .inl ⟨rfl, plain_of rfl⟩⟩, rfl, trivial⟩ rfl) ?_
                rcases cb h with ⟨q17, h⟩ | ⟨q17, h⟩
                · refine ac_condT rfl q17 ?_
                  refine ac_seq ?_
                  refine ac_region ?_
                  refine aops_eff (eff_assign rfl) rfl rfl rfl ?_
                  refine aops_nil ?_
                  refine then_n ?_
                  refine ac_ret ?_
                  refine block_ret ?_
                  refine then_ret ?_
                  refine then_ret ?_
                  obtain rfl := so h
                  exact ⟨_, rfl, rfl, ret_mk rfl rfl rfl (fz_bl rfl)⟩
                · refine ac_condF rfl q17 ?_
                  refine ac_skip ?_
                  refine block_n ?_
                  refine then_n ?_
                  refine ac_region ?_
                  refine aops_eff (eff_move rfl) rfl rfl rfl ?_
                  refine aops_eff (x_add rfl rfl) rfl rfl rfl ?_
                  refine aops_eff (eff_assign rfl) rfl rfl rfl ?_
                  refine aops_nil ?_
                  refine then_n ?_
                  obtain rfl := so h
                  exact ⟨_, rfl, (ent_mk (σ := sg [(0, 0)]) ⟨⟨_, rfl, ⟨rfl, rfl, rfl, rfl⟩⟩, ⟨_, rfl, rfl⟩, trivial⟩ ⟨⟨_, rfl, rfl, .inl ⟨rfl, plain_of rfl⟩⟩, rfl, trivial⟩ rfl)⟩
          · refine ac_condF rfl q6 ?_
            refine ac_exit ?_
            refine then_exit ?_
            refine then_exit ?_
            obtain rfl := so h
            exact ⟨_, rfl, rfl, (ent_mk (σ := sg []) trivial trivial rfl)⟩
        · intro e t hX
          rcases y18 with y19 | y20
          · obtain ⟨rfl, hent⟩ := hX
            refine block_here ?_
            refine then_n ?_
            refine ac_ent hent ?_
            refine ac_seq ?_
            refine ac_region ?_
            refine aops_eff (eff_assign rfl) rfl rfl rfl ?_
            refine aops_nil ?_
            refine then_n ?_
            refine ac_ret ?_
            obtain rfl := so h
            exact ret_mk rfl rfl rfl (fz_bl rfl)
          · obtain ⟨rfl, hent⟩ := hX
            refine block_ret ?_
            refine then_ret ?_
            obtain rfl := so h
            exact hent

noncomputable def m_spec_EqualQuivers (a0 : Qv) (a1 : Qv) : Option Bool :=
  bif decide (a0.n = a1.n) then
    (Option.bind (m_spec_l6Same a0.src a1.src) fun v2 =>
    bif v2 then
      (Option.bind (m_spec_l6Same a0.tgt a1.tgt) fun v4 =>
      some (v4))
    else
      (some (false)))
  else
    (some (false))

theorem c_spec_EqualQuivers (a0 : Qv) (a1 : Qv) (r : Bool) (h : m_spec_EqualQuivers a0 a1 = some r) : HasC Try.prog 48 [.agg (eQ a0), .agg (eQ a1)] (.bl r) := by
  refine hasC_mk TT_ok (rvs := [.tmp 4]) (ns := [0, 1, 2, 3, 4, 5, 6, 7, 8, 9, 10, 11, 12, 13]) Try.func48 rfl rfl Try.ntmps48 rfl rfl rfl ?_
  refine ac_seq ?_
  refine ac_region ?_
  refine aops_eff (w_box rfl rfl rfl rfl) rfl rfl rfl ?_
  refine aops_eff (w_box rfl rfl rfl rfl) rfl rfl rfl ?_
  refine aops_eff (eff_assign rfl) rfl rfl rfl ?_
  refine aops_nil ?_
  refine then_n ?_
  refine ac_seq ?_
  refine ac_region ?_
  refine aops_eff (w_field_ptr TT_ok rfl rfl rfl rfl rfl rfl rfl) rfl rfl rfl ?_
  refine aops_eff (w_load_ptr TT_ok rfl rfl rfl rfl rfl rfl rfl) rfl rfl rfl ?_
  refine aops_eff (w_field_ptr TT_ok rfl rfl rfl rfl rfl rfl rfl) rfl rfl rfl ?_
  refine aops_eff (w_load_ptr TT_ok rfl rfl rfl rfl rfl rfl rfl) rfl rfl rfl ?_
  refine aops_eff (w_cmp rfl rfl rfl) rfl rfl rfl ?_
  refine aops_eff (eff_move rfl) rfl rfl rfl ?_
  rcases cb h with ⟨q1, h⟩ | ⟨q1, h⟩
  · refine aops_lit 10 rfl q1 ?_
    refine aops_eff (w_field_ptr TT_ok rfl rfl rfl rfl rfl rfl rfl) rfl rfl rfl ?_
    refine aops_eff (w_load_ptr TT_ok rfl rfl rfl rfl rfl rfl rfl) rfl rfl rfl ?_
    refine aops_eff (w_field_ptr TT_ok rfl rfl rfl rfl rfl rfl rfl) rfl rfl rfl ?_
    refine aops_eff (w_load_ptr TT_ok rfl rfl rfl rfl rfl rfl rfl) rfl rfl rfl ?_
    obtain ⟨v2, hv2, h⟩ := ob h
    refine aops_eff (w_call0s (c_spec_l6Same a0.src a1.src v2 hv2) rfl (va_cons (va_same rfl) (va_cons (va_same rfl) va_nil))) rfl rfl rfl ?_
    refine aops_eff (eff_pick rfl rfl) rfl rfl rfl ?_
    refine aops_eff (eff_move rfl) rfl rfl rfl ?_
    rcases cb h with ⟨q3, h⟩ | ⟨q3, h⟩
    · refine aops_lit 17 rfl q3 ?_
      refine aops_eff (w_field_ptr TT_ok rfl rfl rfl rfl rfl rfl rfl) rfl rfl rfl ?_
      refine aops_eff (w_load_ptr TT_ok rfl rfl rfl rfl rfl rfl rfl) rfl rfl rfl ?_
      refine aops_eff (w_field_ptr TT_ok rfl rfl rfl rfl rfl rfl rfl) rfl rfl rfl ?_
      refine aops_eff (w_load_ptr TT_ok rfl rfl rfl rfl rfl rfl rfl) rfl rfl rfl ?_
      obtain ⟨v4, hv4, h⟩ := ob h
      refine aops_eff (w_call0s (c_spec_l6Same a0.tgt a1.tgt v4 hv4) rfl (va_cons (va_same rfl) (va_cons (va_same rfl) va_nil))) rfl rfl rfl ?_
      refine aops_eff (eff_pick rfl rfl) rfl rfl rfl ?_
      refine aops_eff (eff_assign rfl) rfl rfl rfl ?_
      refine aops_nil ?_
      refine then_n ?_
      refine ac_ent (t := mkS [(4, .bl v4)] [] 2 [2, 3, 4, 5, 6, 7, 8, 9, 10, 11, 12, 13, 14, 15]) (ent_mk (σ := sg []) ⟨⟨_, rfl, rfl⟩, trivial⟩ trivial rfl) ?_
      refine ac_ret ?_
      obtain rfl := so h
      exact ret_mk rfl rfl rfl (fz_bl rfl)
    · refine aops_lit 17 rfl q3 ?_
      refine aops_skip rfl rfl ?_
      refine aops_skip rfl rfl ?_
      refine aops_skip rfl rfl ?_
      refine aops_skip rfl rfl ?_
      refine aops_skip rfl rfl ?_
      refine aops_eff (eff_pick rfl rfl) rfl rfl rfl ?_
      refine aops_eff (eff_assign rfl) rfl rfl rfl ?_
      refine aops_nil ?_
      refine then_n ?_
      refine ac_ent (t := mkS [(4, .bl false)] [] 2 [2, 3, 4, 5, 6, 7, 8, 9, 10, 11, 12, 13, 14, 15]) (ent_mk (σ := sg []) ⟨⟨_, rfl, rfl⟩, trivial⟩ trivial rfl) ?_
      refine ac_ret ?_
      obtain rfl := so h
      exact ret_mk rfl rfl rfl (fz_bl rfl)
  · refine aops_lit 10 rfl q1 ?_
    refine aops_skip rfl rfl ?_
    refine aops_skip rfl rfl ?_
    refine aops_skip rfl rfl ?_
    refine aops_skip rfl rfl ?_
    refine aops_skip rfl rfl ?_
    refine aops_eff (eff_pick rfl rfl) rfl rfl rfl ?_
    refine aops_eff (eff_move rfl) rfl rfl rfl ?_
    refine aops_skip rfl rfl ?_
    refine aops_skip rfl rfl ?_
    refine aops_skip rfl rfl ?_
    refine aops_skip rfl rfl ?_
    refine aops_skip rfl rfl ?_
    refine aops_eff (eff_pick rfl rfl) rfl rfl rfl ?_
    refine aops_eff (eff_assign rfl) rfl rfl rfl ?_
    refine aops_nil ?_
    refine then_n ?_
    refine ac_ent (t := mkS [(4, .bl false)] [] 2 [2, 3, 4, 5, 6, 7, 8, 9, 10, 11, 12, 13, 14, 15]) (ent_mk (σ := sg []) ⟨⟨_, rfl, rfl⟩, trivial⟩ trivial rfl) ?_
    refine ac_ret ?_
    obtain rfl := so h
    exact ret_mk rfl rfl rfl (fz_bl rfl)

noncomputable def m_impl_EqualQuivers (a0 : Qv) (a1 : Qv) : Option Bool :=
  bif decide (a0.n = a1.n) then
    (Option.bind (m_slices_Equal_Lint_int a0.src a1.src) fun v2 =>
    bif v2 then
      (Option.bind (m_slices_Equal_Lint_int a0.tgt a1.tgt) fun v4 =>
      some (v4))
    else
      (some (false)))
  else
    (some (false))

theorem c_impl_EqualQuivers (a0 : Qv) (a1 : Qv) (r : Bool) (h : m_impl_EqualQuivers a0 a1 = some r) : HasC Try.prog 52 [.agg (eQ a0), .agg (eQ a1)] (.bl r) := by
  refine hasC_mk TT_ok (rvs := [.tmp 4]) (ns := [0, 1, 2, 3, 4, 5, 6, 7, 8, 9, 10, 11, 12, 13]) Try.func52 rfl rfl Try.ntmps52 rfl rfl rfl ?_
  refine ac_seq ?_
  refine ac_region ?_
  refine aops_eff (w_box rfl rfl rfl rfl) rfl rfl rfl ?_
  refine aops_eff (w_box rfl rfl rfl rfl) rfl rfl rfl ?_
  refine aops_eff (eff_assign rfl) rfl rfl rfl ?_
  refine aops_nil ?_
  refine then_n ?_
  refine ac_seq ?_
  refine ac_region ?_
  refine aops_eff (w_field_ptr TT_ok rfl rfl rfl rfl rfl rfl rfl) rfl rfl rfl ?_
  refine aops_eff (w_load_ptr TT_ok rfl rfl rfl rfl rfl rfl rfl) rfl rfl rfl ?_
  refine aops_eff (w_field_ptr TT_ok rfl rfl rfl rfl rfl rfl rfl) rfl rfl rfl ?_
  refine aops_eff (w_load_ptr TT_ok rfl rfl rfl rfl rfl rfl rfl) rfl rfl rfl ?_
  refine aops_eff (w_cmp rfl rfl rfl) rfl rfl rfl ?_
  refine aops_eff (eff_move rfl) rfl rfl rfl ?_
  rcases cb h with ⟨q1, h⟩ | ⟨q1, h⟩
  · refine aops_lit 10 rfl q1 ?_
    refine aops_eff (w_field_ptr TT_ok rfl rfl rfl rfl rfl rfl rfl) rfl rfl rfl ?_
    refine aops_eff (w_load_ptr TT_ok rfl rfl rfl rfl rfl rfl rfl) rfl rfl rfl ?_
    refine aops_eff (w_field_ptr TT_ok rfl rfl rfl rfl rfl rfl rfl) rfl rfl rfl ?_
    refine aops_eff (w_load_ptr TT_ok rfl rfl rfl rfl rfl rfl rfl) rfl rfl rfl ?_
    obtain ⟨v2, hv2, h⟩ := ob h
    refine aops_eff (w_call0s (c_slices_Equal_Lint_int a0.src a1.src v2 hv2) rfl (va_cons (va_same rfl) (va_cons (va_same rfl) va_nil))) rfl rfl rfl ?_
    refine aops_eff (eff_pick rfl rfl) rfl rfl rfl ?_
    refine aops_eff (eff_move rfl) rfl rfl rfl ?_
    rcases cb h with ⟨q3, h⟩ | ⟨q3, h⟩
    · refine aops_lit 17 rfl q3 ?_
      refine aops_eff (w_field_ptr TT_ok rfl rfl rfl rfl rfl rfl rfl) rfl rfl rfl ?_
      refine aops_eff (w_load_ptr TT_ok rfl rfl rfl rfl rfl rfl rfl) rfl rfl rfl ?_
      refine aops_eff (w_field_ptr TT_ok rfl rfl rfl rfl rfl rfl rfl) rfl rfl rfl ?_
      refine aops_eff (w_load_ptr TT_ok rfl rfl rfl rfl rfl rfl rfl) rfl rfl rfl ?_
      obtain ⟨v4, hv4, h⟩ := ob h
      refine aops_eff (w_call0s (c_slices_Equal_Lint_int a0.tgt a1.tgt v4 hv4) rfl (va_cons (va_same rfl) (va_cons (va_same rfl) va_nil))) rfl rfl rfl ?_
      refine aops_eff (eff_pick rfl rfl) rfl rfl rfl ?_
      refine aops_eff (eff_assign rfl) rfl rfl rfl ?_
      refine aops_nil ?_
      refine then_n ?_
      refine ac_ent (t := mkS [(4, .bl v4)] [] 2 [2, 3, 4, 5, 6, 7, 8, 9, 10, 11, 12, 13, 14, 15]) (ent_mk (σ := sg []) ⟨⟨_, rfl, rfl⟩, trivial⟩ trivial rfl) ?_
      refine ac_ret ?_
      obtain rfl := so h
      exact ret_mk rfl rfl rfl (fz_bl rfl)
    · refine aops_lit 17 rfl q3 ?_
      refine aops_skip rfl rfl ?_
      refine aops_skip rfl rfl ?_
      refine aops_skip rfl rfl ?_
      refine aops_skip rfl rfl ?_
      refine aops_skip rfl rfl ?_
      refine aops_eff (eff_pick rfl rfl) rfl rfl rfl ?_
      refine aops_eff (eff_assign rfl) rfl rfl rfl ?_
      refine aops_nil ?_
      refine then_n ?_
      refine ac_ent (t := mkS [(4, .bl false)] [] 2 [2, 3, 4, 5, 6, 7, 8, 9, 10, 11, 12, 13, 14, 15]) (ent_mk (σ := sg []) ⟨⟨_, rfl, rfl⟩, trivial⟩ trivial rfl) ?_
      refine ac_ret ?_
      obtain rfl := so h
      exact ret_mk rfl rfl rfl (fz_bl rfl)
  · refine aops_lit 10 rfl q1 ?_
    refine aops_skip rfl rfl ?_
    refine aops_skip rfl rfl ?_
    refine aops_skip rfl rfl ?_
    refine aops_skip rfl rfl ?_
    refine aops_skip rfl rfl ?_
    refine aops_eff (eff_pick rfl rfl) rfl rfl rfl ?_
    refine aops_eff (eff_move rfl) rfl rfl rfl ?_
    refine aops_skip rfl rfl ?_
    refine aops_skip rfl rfl ?_
    refine aops_skip rfl rfl ?_
    refine aops_skip rfl rfl ?_
    refine aops_skip rfl rfl ?_
    refine aops_eff (eff_pick rfl rfl) rfl rfl rfl ?_
    refine aops_eff (eff_assign rfl) rfl rfl rfl ?_
    refine aops_nil ?_
    refine then_n ?_
    refine ac_ent (t := mkS [(4, .bl false)] [] 2 [2, 3, 4, 5, 6, 7, 8, 9, 10, 11, 12, 13, 14, 15]) (ent_mk (σ := sg []) ⟨⟨_, rfl, rfl⟩, trivial⟩ trivial rfl) ?_
    refine ac_ret ?_
    obtain rfl := so h
    exact ret_mk rfl rfl rfl (fz_bl rfl)

noncomputable def m_spec_l9Fit (a0 : Rp) (a1 : Rp) : Option Bool :=
  Option.bind (m_spec_IsRep a0) fun v1 =>
  bif v1 then
    (Option.bind (m_spec_IsRep a1) fun v3 =>
    bif v3 then
      (bif decide (a0.p = a1.p) then
        (Option.bind (m_spec_EqualQuivers a0.q a1.q) fun v6 =>
        some (v6))
      else
        (some (false)))
    else
      (some (false)))
  else
    (some (false))

theorem c_spec_l9Fit (a0 : Rp) (a1 : Rp) (r : Bool) (h : m_spec_l9Fit a0 a1 = some r) : HasC Try.prog 61 [.agg (eR a0), .agg (eR a1)] (.bl r) := by
  refine hasC_mk TT_ok (rvs := [.tmp 4]) (ns := [0, 1, 2, 3, 4, 5, 6, 7, 8, 9, 10, 11, 12, 13]) Try.func61 rfl rfl Try.ntmps61 rfl rfl rfl ?_
  refine ac_seq ?_
  refine ac_region ?_
  refine aops_eff (w_box rfl rfl rfl rfl) rfl rfl rfl ?_
  refine aops_eff (w_box rfl rfl rfl rfl) rfl rfl rfl ?_
  refine aops_eff (eff_assign rfl) rfl rfl rfl ?_
  refine aops_nil ?_
  refine then_n ?_
  refine ac_seq ?_
  refine ac_region ?_
  refine aops_eff (w_load_ptr TT_ok rfl rfl rfl rfl rfl rfl rfl) rfl rfl rfl ?_
  obtain ⟨v1, hv1, h⟩ := ob h
  refine aops_eff (w_call0s (c_spec_IsRep a0 v1 hv1) rfl (va_cons (va_agg' (v1_cons (v1_same rfl) (v1_cons (v1_same rfl) (v1_cons (v1_same rfl) (v1_cons (v1_same rfl) (v1_cons (v1_same rfl) (v1_cons (v1_same rfl) v1_nil))))))) va_nil)) rfl rfl rfl ?_
  refine aops_eff (eff_move rfl) rfl rfl rfl ?_
  rcases cb h with ⟨q2, h⟩ | ⟨q2, h⟩
  · refine aops_lit 7 rfl q2 ?_
    refine aops_eff (w_load_ptr TT_ok rfl rfl rfl rfl rfl rfl rfl) rfl rfl rfl ?_
    obtain ⟨v3, hv3, h⟩ := ob h
    refine aops_eff (w_call0s (c_spec_IsRep a1 v3 hv3) rfl (va_cons (va_agg' (v1_cons (v1_same rfl) (v1_cons (v1_same rfl) (v1_cons (v1_same rfl) (v1_cons (v1_same rfl) (v1_cons (v1_same rfl) (v1_cons (v1_same rfl) v1_nil))))))) va_nil)) rfl rfl rfl ?_
    refine aops_eff (eff_pick rfl rfl) rfl rfl rfl ?_
    refine aops_eff (eff_move rfl) rfl rfl rfl ?_
    rcases cb h with ⟨q4, h⟩ | ⟨q4, h⟩
    · refine aops_lit 11 rfl q4 ?_
      refine aops_eff (w_field_ptr TT_ok rfl rfl rfl rfl rfl rfl rfl) rfl rfl rfl ?_
      refine aops_eff (w_load_ptr TT_ok rfl rfl rfl rfl rfl rfl rfl) rfl rfl rfl ?_
      refine aops_eff (w_field_ptr TT_ok rfl rfl rfl rfl rfl rfl rfl) rfl rfl rfl ?_
      refine aops_eff (w_load_ptr TT_ok rfl rfl rfl rfl rfl rfl rfl) rfl rfl rfl ?_
      refine aops_eff (w_cmp rfl rfl rfl) rfl rfl rfl ?_
      refine aops_eff (eff_pick rfl rfl) rfl rfl rfl ?_
      refine aops_eff (eff_move rfl) rfl rfl rfl ?_
      rcases cb h with ⟨q5, h⟩ | ⟨q5, h⟩
      · refine aops_lit 18 rfl q5 ?_
        refine aops_eff (w_field_ptr TT_ok rfl rfl rfl rfl rfl rfl rfl) rfl rfl rfl ?_
        refine aops_eff (w_load_ptr TT_ok rfl rfl rfl rfl rfl rfl rfl) rfl rfl rfl ?_
        refine aops_eff (w_field_ptr TT_ok rfl rfl rfl rfl rfl rfl rfl) rfl rfl rfl ?_
        refine aops_eff (w_load_ptr TT_ok rfl rfl rfl rfl rfl rfl rfl) rfl rfl rfl ?_
        obtain ⟨v6, hv6, h⟩ := ob h
        refine aops_eff (w_call0s (c_spec_EqualQuivers a0.q a1.q v6 hv6) rfl (va_cons (va_agg' (v1_cons (v1_same rfl) (v1_cons (v1_same rfl) (v1_cons (v1_same rfl) v1_nil)))) (va_cons (va_agg' (v1_cons (v1_same rfl) (v1_cons (v1_same rfl) (v1_cons (v1_same rfl) v1_nil)))) va_nil))) rfl rfl rfl ?_
        refine aops_eff (eff_pick rfl rfl) rfl rfl rfl ?_
        refine aops_eff (eff_assign rfl) rfl rfl rfl ?_
        refine aops_nil ?_
        refine then_n ?_
        refine ac_ent (t := mkS [(4, .bl v6)] [] 2 [2, 3, 4, 5, 6, 7, 8, 9, 10, 11, 12, 13, 14, 15]) (ent_mk (σ := sg []) ⟨⟨_, rfl, rfl⟩, trivial⟩ trivial rfl) ?_
        refine ac_ret ?_
        obtain rfl := so h
        exact ret_mk rfl rfl rfl (fz_bl rfl)
      · refine aops_lit 18 rfl q5 ?_
        refine aops_skip rfl rfl ?_
        refine aops_skip rfl rfl ?_
        refine aops_skip rfl rfl ?_
        refine aops_skip rfl rfl ?_
        refine aops_skip rfl rfl ?_
        refine aops_eff (eff_pick rfl rfl) rfl rfl rfl ?_
        refine aops_eff (eff_assign rfl) rfl rfl rfl ?_
        refine aops_nil ?_
        refine then_n ?_
        refine ac_ent (t := mkS [(4, .bl false)] [] 2 [2, 3, 4, 5, 6, 7, 8, 9, 10, 11, 12, 13, 14, 15]) (ent_mk (σ := sg []) ⟨⟨_, rfl, rfl⟩, trivial⟩ trivial rfl) ?_
        refine ac_ret ?_
        obtain rfl := so h
        exact ret_mk rfl rfl rfl (fz_bl rfl)
    · refine aops_lit 11 rfl q4 ?_
      refine aops_skip rfl rfl ?_
      refine aops_skip rfl rfl ?_
      refine aops_skip rfl rfl ?_
      refine aops_skip rfl rfl ?_
      refine aops_skip rfl rfl ?_
      refine aops_eff (eff_pick rfl rfl) rfl rfl rfl ?_
      refine aops_eff (eff_move rfl) rfl rfl rfl ?_
      refine aops_skip rfl rfl ?_
      refine aops_skip rfl rfl ?_
      refine aops_skip rfl rfl ?_
      refine aops_skip rfl rfl ?_
      refine aops_skip rfl rfl ?_
      refine aops_eff (eff_pick rfl rfl) rfl rfl rfl ?_
      refine aops_eff (eff_assign rfl) rfl rfl rfl ?_
      refine aops_nil ?_
      refine then_n ?_
      refine ac_ent (t := mkS [(4, .bl false)] [] 2 [2, 3, 4, 5, 6, 7, 8, 9, 10, 11, 12, 13, 14, 15]) (ent_mk (σ := sg []) ⟨⟨_, rfl, rfl⟩, trivial⟩ trivial rfl) ?_
      refine ac_ret ?_
      obtain rfl := so h
      exact ret_mk rfl rfl rfl (fz_bl rfl)
  · refine aops_lit 7 rfl q2 ?_
    refine aops_skip rfl rfl ?_
    refine aops_skip rfl rfl ?_
    refine aops_eff (eff_pick rfl rfl) rfl rfl rfl ?_
    refine aops_eff (eff_move rfl) rfl rfl rfl ?_
    refine aops_skip rfl rfl ?_
    refine aops_skip rfl rfl ?_
    refine aops_skip rfl rfl ?_
    refine aops_skip rfl rfl ?_
    refine aops_skip rfl rfl ?_
    refine aops_eff (eff_pick rfl rfl) rfl rfl rfl ?_
    refine aops_eff (eff_move rfl) rfl rfl rfl ?_
    refine aops_skip rfl rfl ?_
    refine aops_skip rfl rfl ?_
    refine aops_skip rfl rfl ?_
    refine aops_skip rfl rfl ?_
    refine aops_skip rfl rfl ?_
    refine aops_eff (eff_pick rfl rfl) rfl rfl rfl ?_
    refine aops_eff (eff_assign rfl) rfl rfl rfl ?_
    refine aops_nil ?_
    refine then_n ?_
    refine ac_ent (t := mkS [(4, .bl false)] [] 2 [2, 3, 4, 5, 6, 7, 8, 9, 10, 11, 12, 13, 14, 15]) (ent_mk (σ := sg []) ⟨⟨_, rfl, rfl⟩, trivial⟩ trivial rfl) ?_
    refine ac_ret ?_
    obtain rfl := so h
    exact ret_mk rfl rfl rfl (fz_bl rfl)

end Go.Proofs.Ytjfcjkeghigipaa

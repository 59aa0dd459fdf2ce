/-
  Models and contracts of functions, made by the extractor (ex.py).
-/
import Derived.Test.YtjfcjkeghigipaaZ2
namespace Go.Proofs.Ytjfcjkeghigipaa
open Go.RowKit
set_option linter.unusedVariables false
set_option linter.unusedSimpArgs false
set_option maxRecDepth 10000
set_option maxHeartbeats 4000000

noncomputable def m_impl_zeros_L1 (a0 : Rp) (a1 : Rp) (x1 : ((List Mt) × Int)) : Option (((List Mt) × Int) ⊕ (List Mt)) :=
  bif decide (x1.2 < (a0.dims.length : Int)) then
    (Option.bind (atL a0.dims x1.2) fun v2 =>
    Option.bind (atL a1.dims x1.2) fun v3 =>
    Option.bind (m_impl_zero v3 v2) fun v4 =>
    bif decide (x1.1.length + 1 ≤ 4294967296) then
      (some (.inl ((x1.1 ++ [v4]), wr (x1.2 + 1))))
    else none)
  else
    (some (.inr x1.1))

noncomputable def m_impl_zeros (a0 : Rp) (a1 : Rp) : Option (List Mt) :=
  Option.bind (Lp (m_impl_zeros_L1 a0 a1) ([], 0)) fun y6 =>
  some (y6)

theorem c_impl_zeros (a0 : Rp) (a1 : Rp) (r : (List Mt)) (h : m_impl_zeros a0 a1 = some r) : HasC Try.prog 134 [.agg (eR a0), .agg (eR a1)] (.list 3 (List.map eM r)) := by
  refine hasC_mk TT_ok (rvs := [.tmp 4]) (ns := [0, 1, 2, 3, 4, 5, 6, 7, 8, 9, 10, 11, 12, 13]) Try.func134 rfl rfl Try.ntmps134 rfl rfl rfl ?_
  refine ac_seq ?_
  refine ac_region ?_
  refine aops_eff (w_box rfl rfl rfl rfl) rfl rfl rfl ?_
  refine aops_eff (w_box rfl rfl rfl rfl) rfl rfl rfl ?_
  refine aops_eff (eff_assign rfl) rfl rfl rfl ?_
  refine aops_nil ?_
  refine then_n ?_
  refine ac_seq ?_
  refine ac_region ?_
  refine aops_eff (eff_assign rfl) rfl rfl rfl ?_
  refine aops_nil ?_
  refine then_n ?_
  refine ac_seq ?_
  refine ac_seq ?_
  refine ac_region ?_
  refine aops_eff (w_field_ptr TT_ok rfl rfl rfl rfl rfl rfl rfl) rfl rfl rfl ?_
  refine aops_eff (w_load_ptr TT_ok rfl rfl rfl rfl rfl rfl rfl) rfl rfl rfl ?_
  refine aops_eff (AEff.val (w_len_list TT_ok rfl rfl rfl) (v' := .int (a0.dims.length : Int)) (by first | rw [len_map] | rw [encI_len])) rfl rfl rfl ?_
  refine aops_eff (eff_move rfl) rfl rfl rfl ?_
  refine aops_nil ?_
  refine then_n ?_
  refine ac_block ?_
  obtain ⟨y6, hy6, h⟩ := ob h
  refine ac_Lp (body := (m_impl_zeros_L1 a0 a1)) hy6 (fun (x1 : ((List Mt) × Int)) => mkS [(3, .ptr 0 0 0), (5, .own 1 0 x1.1.length), (9, .list 1 (List.map eI a0.dims)), (10, .int (a0.dims.length : Int)), (11, .int x1.2)] [(0, ⟨6, [[.int a1.p, .int a1.q.n, .list 1 (List.map eI a1.q.src), .list 1 (List.map eI a1.q.tgt), .list 1 (List.map eI a1.dims), .list 3 (List.map eM a1.maps)]]⟩), (1, ⟨3, List.map (ow eM) x1.1⟩)] 2 [2, 3, 4, 5, 6, 7, 8, 9, 10, 11, 12, 13, 14, 15]) (fun r e t => e = .exit 0 ∧ Ent t (mkS [(5, .own 0 0 r.length)] [(0, ⟨3, List.map (ow eM) r⟩)] 1 [1, 2, 3, 4, 5, 6, 7, 8, 9, 10, 11, 12, 13, 14])) (ent_mk (σ := sg [(0, 1)]) ⟨⟨_, rfl, ⟨rfl, rfl, rfl, rfl⟩⟩, ⟨_, rfl, ⟨rfl, rfl, rfl, rfl⟩⟩, ⟨_, rfl, ⟨rfl, rfl⟩⟩, ⟨_, rfl, rfl⟩, ⟨_, rfl, rfl⟩, trivial⟩ ⟨⟨_, rfl, rfl, .inl ⟨rfl, plain_of rfl⟩⟩, rfl, rfl, rfl, trivial⟩ rfl) ?_ ?_
  · intro x1 o h
    refine ac_seq ?_
    refine ac_region ?_
    refine aops_eff (w_cmp rfl rfl rfl) rfl rfl rfl ?_
    refine aops_nil ?_
    refine then_n ?_
    refine ac_seq ?_
    rcases cb h with ⟨q1, h⟩ | ⟨q1, h⟩
    · refine ac_condT rfl q1 ?_
      refine ac_skip ?_
      refine then_n ?_
      refine ac_seq ?_
      refine ac_block ?_
      refine ac_seq ?_
      refine ac_region ?_
      refine aops_eff (eff_move rfl) rfl rfl rfl ?_
      obtain ⟨v2, hv2, h⟩ := ob h
      refine aops_eff (x_at_list TT_ok hv2 rfl rfl rfl rfl rfl rfl) rfl rfl rfl ?_
      refine aops_eff (w_load_ref TT_ok rfl rfl rfl rfl rfl rfl) rfl rfl rfl ?_
      refine aops_eff (eff_assign rfl) rfl rfl rfl ?_
      refine aops_eff (eff_assign rfl) rfl rfl rfl ?_
      refine aops_nil ?_
      refine then_n ?_
      refine ac_region ?_
      refine aops_eff (eff_move rfl) rfl rfl rfl ?_
      refine aops_eff (w_field_ptr TT_ok rfl rfl rfl rfl rfl rfl rfl) rfl rfl rfl ?_
      refine aops_eff (w_load_ptr TT_ok rfl rfl rfl rfl rfl rfl rfl) rfl rfl rfl ?_
      refine aops_eff (eff_move rfl) rfl rfl rfl ?_
      obtain ⟨v3, hv3, h⟩ := ob h
      refine aops_eff (x_at_list TT_ok hv3 rfl rfl rfl rfl rfl rfl) rfl rfl rfl ?_
      refine aops_eff (w_load_ref TT_ok rfl rfl rfl rfl rfl rfl) rfl rfl rfl ?_
      refine aops_eff (eff_move rfl) rfl rfl rfl ?_
      obtain ⟨v4, hv4, h⟩ := ob h
      refine aops_eff (AEff.conv (w_call0 (x := .agg [.int v4.rows, .int v4.cols, .own 2 0 (List.map eI v4.cells).length]) (nb := [(2, ⟨1, absEs (List.map eI v4.cells)⟩)]) (c_impl_zero v3 v2 v4 hv4) rfl (by rfl) rfl rfl (g1_cons trivial (g1_cons trivial (g1_cons (okI.good _) g1_nil))) (va_cons (va_same rfl) (va_cons (va_same rfl) va_nil))) (v' := .agg [.int v4.rows, .int v4.cols, .own 2 0 v4.cells.length]) (ed' := [(2, some ⟨1, List.map (ow eI) v4.cells⟩)]) (by simp only [len_map]) (ed_ok (nb' := [(2, ⟨1, List.map (ow eI) v4.cells⟩)]) (by simp only [abs_map]))) rfl rfl rfl ?_
      refine aops_eff (w_lit TT_ok rfl rfl rfl rfl rfl rfl rfl rfl rfl rfl rfl rfl) rfl rfl rfl ?_
      obtain ⟨q5, h⟩ := cg h
      refine aops_eff (x_app1 TT_ok (l := x1.1) (c := [.int v4.rows, .int v4.cols, .own 2 0 v4.cells.length]) q5 rfl rfl rfl rfl rfl rfl rfl rfl rfl rfl rfl rfl rfl rfl) rfl rfl rfl ?_
      refine aops_eff (eff_assign rfl) rfl rfl rfl ?_
      refine aops_nil ?_
      refine block_n ?_
      refine then_n ?_
      refine ac_ent (t := mkS [(3, .ptr 0 0 0), (5, .own 4 0 ((x1.1 ++ [v4]).length)), (9, .list 1 (List.map eI a0.dims)), (10, .int (a0.dims.length : Int)), (11, .int x1.2)] [(0, ⟨6, [[.int a1.p, .int a1.q.n, .list 1 (List.map eI a1.q.src), .list 1 (List.map eI a1.q.tgt), .list 1 (List.map eI a1.dims), .list 3 (List.map eM a1.maps)]]⟩), (4, ⟨3, List.map (ow eM) (x1.1 ++ [v4])⟩)] 5 [5, 6, 7, 8, 9, 10, 11, 12, 13, 14, 15, 16, 17, 18]) (Ent.trans (ent_absL (b := 4) (b' := 2) (j := 2) (es' := List.map eI v4.cells) rfl rfl rfl rfl (len_map _ _) (okI.frzs _)) (ent_mk (σ := sg [(0, 0), (4, 4)]) ⟨⟨_, rfl, ⟨rfl, rfl, rfl, rfl⟩⟩, ⟨_, rfl, ⟨rfl, rfl, (by simp only [len_map, List.length_append, List.length_set, List.length_replicate, List.length_cons, List.length_nil]), rfl⟩⟩, ⟨_, rfl, ⟨rfl, rfl⟩⟩, ⟨_, rfl, rfl⟩, ⟨_, rfl, rfl⟩, trivial⟩ ⟨⟨_, rfl, rfl, .inl ⟨rfl, plain_of rfl⟩⟩, rfl, ⟨_, rfl, rfl, .inl ⟨app_eq v4 rfl, okMt.plainO _⟩⟩, rfl, trivial⟩ rfl)) ?_
      refine ac_region ?_
      refine aops_eff (x_add rfl rfl) rfl rfl rfl ?_
      refine aops_eff (eff_move rfl) rfl rfl rfl ?_
      refine aops_nil ?_
      refine then_n ?_
      obtain rfl := so h
      exact ⟨_, rfl, (ent_mk (σ := sg [(0, 0), (1, 4)]) ⟨⟨_, rfl, ⟨rfl, rfl, rfl, rfl⟩⟩, ⟨_, rfl, ⟨rfl, rfl, rfl, rfl⟩⟩, ⟨_, rfl, ⟨rfl, rfl⟩⟩, ⟨_, rfl, rfl⟩, ⟨_, rfl, rfl⟩, trivial⟩ ⟨⟨_, rfl, rfl, .inl ⟨rfl, plain_of rfl⟩⟩, rfl, ⟨_, rfl, rfl, .inl ⟨rfl, okMt.plainO _⟩⟩, rfl, trivial⟩ rfl)⟩
    · refine ac_condF rfl q1 ?_
      refine ac_exit ?_
      refine then_exit ?_
      refine then_exit ?_
      obtain rfl := so h
      exact ⟨_, rfl, rfl, (ent_mk (σ := sg [(0, 1)]) ⟨⟨_, rfl, ⟨rfl, rfl, rfl, rfl⟩⟩, trivial⟩ ⟨⟨_, rfl, rfl, .inl ⟨rfl, okMt.plainO _⟩⟩, rfl, trivial⟩ rfl)⟩
  · rintro e t ⟨rfl, hent⟩
    refine block_here ?_
    refine then_n ?_
    refine ac_ent hent ?_
    refine ac_seq ?_
    refine ac_region ?_
    refine aops_eff (eff_move rfl) rfl rfl rfl ?_
    refine aops_eff (eff_assign rfl) rfl rfl rfl ?_
    refine aops_nil ?_
    refine then_n ?_
    refine ac_ret ?_
    obtain rfl := so h
    exact ret_mk rfl rfl rfl (xz_list (x_f1 okMt rfl rfl))

noncomputable def m_impl_flat_L1 (a0 : (List Mt)) (x1 : ((List Int) × Int)) : Option (((List Int) × Int) ⊕ (List Int)) :=
  bif decide (x1.2 < (a0.length : Int)) then
    (Option.bind (atL a0 x1.2) fun v2 =>
    bif decide (x1.1.length + v2.cells.length ≤ 4294967296) then
      (some (.inl ((x1.1 ++ v2.cells), wr (x1.2 + 1))))
    else none)
  else
    (some (.inr x1.1))

noncomputable def m_impl_flat (a0 : (List Mt)) : Option (List Int) :=
  Option.bind (Lp (m_impl_flat_L1 a0) ([], 0)) fun y4 =>
  some (y4)

theorem c_impl_flat (a0 : (List Mt)) (r : (List Int)) (h : m_impl_flat a0 = some r) : HasC Try.prog 135 [.list 3 (List.map eM a0)] (.list 1 (List.map eI r)) := by
  refine hasC_mk TT_ok (rvs := [.tmp 2]) (ns := [0, 1, 2, 3, 4, 5, 6, 7, 8, 9, 10, 11, 12, 13]) Try.func135 rfl rfl Try.ntmps135 rfl rfl rfl ?_
  refine ac_seq ?_
  refine ac_region ?_
  refine aops_eff (eff_assign rfl) rfl rfl rfl ?_
  refine aops_nil ?_
  refine then_n ?_
  refine ac_seq ?_
  refine ac_region ?_
  refine aops_eff (eff_assign rfl) rfl rfl rfl ?_
  refine aops_nil ?_
  refine then_n ?_
  refine ac_seq ?_
  refine ac_seq ?_
  refine ac_region ?_
  refine aops_eff (eff_move rfl) rfl rfl rfl ?_
  refine aops_eff (AEff.val (w_len_list TT_ok rfl rfl rfl) (v' := .int (a0.length : Int)) (by first | rw [len_map] | rw [encI_len])) rfl rfl rfl ?_
  refine aops_eff (eff_move rfl) rfl rfl rfl ?_
  refine aops_nil ?_
  refine then_n ?_
  refine ac_block ?_
  obtain ⟨y4, hy4, h⟩ := ob h
  refine ac_Lp (body := (m_impl_flat_L1 a0)) hy4 (fun (x1 : ((List Int) × Int)) => mkS [(3, .own 0 0 x1.1.length), (6, .list 3 (List.map eM a0)), (7, .int (a0.length : Int)), (8, .int x1.2)] [(0, ⟨1, List.map (ow eI) x1.1⟩)] 1 [1, 2, 3, 4, 5, 6, 7, 8, 9, 10, 11, 12, 13, 14]) (fun r e t => e = .exit 0 ∧ Ent t (mkS [(3, .own 0 0 r.length)] [(0, ⟨1, List.map (ow eI) r⟩)] 1 [1, 2, 3, 4, 5, 6, 7, 8, 9, 10, 11, 12, 13, 14])) (ent_mk (σ := sg []) ⟨⟨_, rfl, ⟨rfl, rfl, rfl, rfl⟩⟩, ⟨_, rfl, ⟨rfl, rfl⟩⟩, ⟨_, rfl, rfl⟩, ⟨_, rfl, rfl⟩, trivial⟩ ⟨rfl, rfl, trivial⟩ rfl) ?_ ?_
  · intro x1 o h
    refine ac_seq ?_
    refine ac_region ?_
    refine aops_eff (w_cmp rfl rfl rfl) rfl rfl rfl ?_
    refine aops_nil ?_
    refine then_n ?_
    refine ac_seq ?_
    rcases cb h with ⟨q1, h⟩ | ⟨q1, h⟩
    · refine ac_condT rfl q1 ?_
      refine ac_skip ?_
      refine then_n ?_
      refine ac_seq ?_
      refine ac_block ?_
      refine ac_seq ?_
      refine ac_region ?_
      obtain ⟨v2, hv2, h⟩ := ob h
      refine aops_eff (x_at_list TT_ok hv2 rfl rfl rfl rfl rfl rfl) rfl rfl rfl ?_
      refine aops_eff (w_load_ref TT_ok rfl rfl rfl rfl rfl rfl) rfl rfl rfl ?_
      refine aops_eff (w_alloc TT_ok rfl rfl) rfl rfl rfl ?_
      refine aops_eff (w_store TT_ok rfl rfl rfl rfl rfl rfl rfl rfl) rfl rfl rfl ?_
      refine aops_nil ?_
      refine then_n ?_
      refine ac_region ?_
      refine aops_eff (eff_move rfl) rfl rfl rfl ?_
      refine aops_eff (w_field_ptr TT_ok rfl rfl rfl rfl rfl rfl rfl) rfl rfl rfl ?_
      refine aops_eff (w_load_ptr TT_ok rfl rfl rfl rfl rfl rfl rfl) rfl rfl rfl ?_
      obtain ⟨q3, h⟩ := cg h
      refine aops_eff (x_app TT_ok (l := x1.1) (m := v2.cells) okIo q3 rfl rfl rfl rfl rfl rfl rfl rfl rfl rfl rfl rfl) rfl rfl rfl ?_
      refine aops_eff (eff_assign rfl) rfl rfl rfl ?_
      refine aops_nil ?_
      refine block_n ?_
      refine then_n ?_
      refine ac_region ?_
      refine aops_eff (x_add rfl rfl) rfl rfl rfl ?_
      refine aops_eff (eff_move rfl) rfl rfl rfl ?_
      refine aops_nil ?_
      refine then_n ?_
      obtain rfl := so h
      exact ⟨_, rfl, (ent_mk (σ := sg [(0, 2)]) ⟨⟨_, rfl, ⟨rfl, rfl, rfl, rfl⟩⟩, ⟨_, rfl, ⟨rfl, rfl⟩⟩, ⟨_, rfl, rfl⟩, ⟨_, rfl, rfl⟩, trivial⟩ ⟨⟨_, rfl, rfl, .inl ⟨rfl, okI.plainO _⟩⟩, rfl, trivial⟩ rfl)⟩
    · refine ac_condF rfl q1 ?_
      refine ac_exit ?_
      refine then_exit ?_
      refine then_exit ?_
      obtain rfl := so h
      exact ⟨_, rfl, rfl, (ent_mk (σ := sg [(0, 0)]) ⟨⟨_, rfl, ⟨rfl, rfl, rfl, rfl⟩⟩, trivial⟩ ⟨⟨_, rfl, rfl, .inl ⟨rfl, okI.plainO _⟩⟩, rfl, trivial⟩ rfl)⟩
  · rintro e t ⟨rfl, hent⟩
    refine block_here ?_
    refine then_n ?_
    refine ac_ent hent ?_
    refine ac_seq ?_
    refine ac_region ?_
    refine aops_eff (eff_move rfl) rfl rfl rfl ?_
    refine aops_eff (eff_assign rfl) rfl rfl rfl ?_
    refine aops_nil ?_
    refine then_n ?_
    refine ac_ret ?_
    obtain rfl := so h
    exact ret_mk rfl rfl rfl (xz_list (x_f1 okI rfl rfl))

noncomputable def m_impl_shaped_L1 (a0 : (List Mt)) (x1 : ((List Int) × (List Mt) × Int)) : Option (((List Int) × (List Mt) × Int) ⊕ (List Mt)) :=
  bif decide (x1.2.2 < (a0.length : Int)) then
    (Option.bind (atL a0 x1.2.2) fun v2 =>
    bif (decide (0 ≤ 0) && (decide (0 ≤ (v2.cells.length : Int)) && decide ((v2.cells.length : Int) ≤ (x1.1.length : Int)))) then
      (Option.bind (m_Clone ((x1.1.drop (0 : Int).toNat).take ((v2.cells.length : Int).toNat - (0 : Int).toNat))) fun v4 =>
      bif decide (x1.2.1.length + 1 ≤ 4294967296) then
        (bif (decide (0 ≤ (v2.cells.length : Int)) && (decide ((v2.cells.length : Int) ≤ (x1.1.length : Int)) && decide ((x1.1.length : Int) ≤ (x1.1.length : Int)))) then
          (some (.inl (((x1.1.drop (v2.cells.length : Int).toNat).take ((x1.1.length : Int).toNat - (v2.cells.length : Int).toNat)), (x1.2.1 ++ [(⟨v2.rows, v2.cols, v4⟩ : Mt)]), wr (x1.2.2 + 1))))
        else none)
      else none)
    else none)
  else
    (some (.inr x1.2.1))

noncomputable def m_impl_shaped (a0 : (List Mt)) (a1 : (List Int)) : Option (List Mt) :=
  Option.bind (Lp (m_impl_shaped_L1 a0) (a1, [], 0)) fun y7 =>
  some (y7)

theorem c_impl_shaped (a0 : (List Mt)) (a1 : (List Int)) (r : (List Mt)) (h : m_impl_shaped a0 a1 = some r) : HasC Try.prog 137 [.list 3 (List.map eM a0), .list 1 (List.map eI a1)] (.list 3 (List.map eM r)) := by
  refine hasC_mk TT_ok (rvs := [.tmp 4]) (ns := [0, 1, 2, 3, 4, 5, 6, 7, 8, 9, 10, 11, 12, 13]) Try.func137 rfl rfl Try.ntmps137 rfl rfl rfl ?_
  refine ac_seq ?_
  refine ac_region ?_
  refine aops_eff (eff_assign rfl) rfl rfl rfl ?_
  refine aops_nil ?_
  refine then_n ?_
  refine ac_seq ?_
  refine ac_region ?_
  refine aops_eff (eff_assign rfl) rfl rfl rfl ?_
  refine aops_nil ?_
  refine then_n ?_
  refine ac_seq ?_
  refine ac_seq ?_
  refine ac_region ?_
  refine aops_eff (eff_move rfl) rfl rfl rfl ?_
  refine aops_eff (AEff.val (w_len_list TT_ok rfl rfl rfl) (v' := .int (a0.length : Int)) (by first | rw [len_map] | rw [encI_len])) rfl rfl rfl ?_
  refine aops_eff (eff_move rfl) rfl rfl rfl ?_
  refine aops_nil ?_
  refine then_n ?_
  refine ac_block ?_
  obtain ⟨y7, hy7, h⟩ := ob h
  refine ac_Lp (body := (m_impl_shaped_L1 a0)) hy7 (fun (x1 : ((List Int) × (List Mt) × Int)) => mkS [(1, .list 1 (List.map eI x1.1)), (5, .own 0 0 x1.2.1.length), (9, .list 3 (List.map eM a0)), (10, .int (a0.length : Int)), (11, .int x1.2.2)] [(0, ⟨3, List.map (ow eM) x1.2.1⟩)] 1 [1, 2, 3, 4, 5, 6, 7, 8, 9, 10, 11, 12, 13, 14]) (fun r e t => e = .exit 0 ∧ Ent t (mkS [(5, .own 0 0 r.length)] [(0, ⟨3, List.map (ow eM) r⟩)] 1 [1, 2, 3, 4, 5, 6, 7, 8, 9, 10, 11, 12, 13, 14])) (ent_mk (σ := sg []) ⟨⟨_, rfl, ⟨rfl, rfl⟩⟩, ⟨_, rfl, ⟨rfl, rfl, rfl, rfl⟩⟩, ⟨_, rfl, ⟨rfl, rfl⟩⟩, ⟨_, rfl, rfl⟩, ⟨_, rfl, rfl⟩, trivial⟩ ⟨rfl, rfl, trivial⟩ rfl) ?_ ?_
  · intro x1 o h
    refine ac_seq ?_
    refine ac_region ?_
    refine aops_eff (w_cmp rfl rfl rfl) rfl rfl rfl ?_
    refine aops_nil ?_
    refine then_n ?_
    refine ac_seq ?_
    rcases cb h with ⟨q1, h⟩ | ⟨q1, h⟩
    · refine ac_condT rfl q1 ?_
      refine ac_skip ?_
      refine then_n ?_
      refine ac_seq ?_
      refine ac_block ?_
      refine ac_seq ?_
      refine ac_region ?_
      obtain ⟨v2, hv2, h⟩ := ob h
      refine aops_eff (x_at_list TT_ok hv2 rfl rfl rfl rfl rfl rfl) rfl rfl rfl ?_
      refine aops_eff (w_load_ref TT_ok rfl rfl rfl rfl rfl rfl) rfl rfl rfl ?_
      refine aops_eff (w_alloc TT_ok rfl rfl) rfl rfl rfl ?_
      refine aops_eff (w_store TT_ok rfl rfl rfl rfl rfl rfl rfl rfl) rfl rfl rfl ?_
      refine aops_nil ?_
      refine then_n ?_
      refine ac_seq ?_
      refine ac_region ?_
      refine aops_eff (w_field_ptr TT_ok rfl rfl rfl rfl rfl rfl rfl) rfl rfl rfl ?_
      refine aops_eff (w_load_ptr TT_ok rfl rfl rfl rfl rfl rfl rfl) rfl rfl rfl ?_
      refine aops_eff (AEff.val (w_len_list TT_ok rfl rfl rfl) (v' := .int (v2.cells.length : Int)) (by first | rw [len_map] | rw [encI_len])) rfl rfl rfl ?_
      refine aops_eff (eff_assign rfl) rfl rfl rfl ?_
      refine aops_nil ?_
      refine then_n ?_
      refine ac_seq ?_
      refine ac_region_draw MIXX ?_
      refine aops_eff (eff_move rfl) rfl rfl rfl ?_
      refine aops_eff (w_field_ptr TT_ok rfl rfl rfl rfl rfl rfl rfl) rfl rfl rfl ?_
      refine aops_eff (w_load_ptr TT_ok rfl rfl rfl rfl rfl rfl rfl) rfl rfl rfl ?_
      refine aops_eff (w_field_ptr TT_ok rfl rfl rfl rfl rfl rfl rfl) rfl rfl rfl ?_
      refine aops_eff (w_load_ptr TT_ok rfl rfl rfl rfl rfl rfl rfl) rfl rfl rfl ?_
      refine aops_eff (eff_move rfl) rfl rfl rfl ?_
      refine aops_eff (eff_move rfl) rfl rfl rfl ?_
      obtain ⟨q3, h⟩ := cg h
      refine aops_eff (x_slice_list TT_ok (l0 := x1.1) (l := 0) (h := (v2.cells.length : Int)) q3 rfl rfl rfl rfl rfl rfl rfl) rfl rfl rfl ?_
      obtain ⟨v4, hv4, h⟩ := ob h
      refine aops_eff (AEff.conv (w_call0 (x := .own 2 0 (List.map eI v4).length) (nb := [(2, ⟨1, absEs (List.map eI v4)⟩)]) (c_Clone ((x1.1.drop (0 : Int).toNat).take ((v2.cells.length : Int).toNat - (0 : Int).toNat)) v4 hv4) rfl (by rfl) rfl rfl (okI.good _) (va_cons (va_same rfl) va_nil)) (v' := .own 2 0 v4.length) (ed' := [(2, some ⟨1, List.map (ow eI) v4⟩)]) (by simp only [len_map]) (ed_ok (nb' := [(2, ⟨1, List.map (ow eI) v4⟩)]) (by simp only [abs_map]))) rfl rfl rfl ?_
      refine aops_eff (w_build TT_ok rfl rfl rfl rfl rfl rfl) rfl rfl rfl ?_
      refine aops_eff (w_lit TT_ok rfl rfl rfl rfl rfl rfl rfl rfl rfl rfl rfl rfl) rfl rfl rfl ?_
      obtain ⟨q5, h⟩ := cg h
      refine aops_eff (x_app1 TT_ok (l := x1.2.1) (c := [.int v2.rows, .int v2.cols, .own 2 0 v4.length]) q5 rfl rfl rfl rfl rfl rfl rfl rfl rfl rfl rfl rfl rfl rfl) rfl rfl rfl ?_
      refine aops_eff (eff_assign rfl) rfl rfl rfl ?_
      refine aops_nil ?_
      refine ⟨by kernel_rfl, ?_⟩
      refine then_n ?_
      refine ac_ent (t := mkS [(1, .list 1 (List.map eI x1.1)), (5, .own 4 0 ((x1.2.1 ++ [(⟨v2.rows, v2.cols, v4⟩ : Mt)]).length)), (8, .int (v2.cells.length : Int)), (9, .list 3 (List.map eM a0)), (10, .int (a0.length : Int)), (11, .int x1.2.2)] [(4, ⟨3, List.map (ow eM) (x1.2.1 ++ [(⟨v2.rows, v2.cols, v4⟩ : Mt)])⟩)] 5 [5, 6, 7, 8, 9, 10, 11, 12, 13, 14, 15, 16, 17, 18]) (Ent.trans (ent_absL (b := 4) (b' := 2) (j := 2) (es' := List.map eI v4) rfl rfl rfl rfl (len_map _ _) (okI.frzs _)) (ent_mk (σ := sg [(4, 4)]) ⟨⟨_, rfl, ⟨rfl, rfl⟩⟩, ⟨_, rfl, ⟨rfl, rfl, (by simp only [len_map, List.length_append, List.length_set, List.length_replicate, List.length_cons, List.length_nil]), rfl⟩⟩, ⟨_, rfl, rfl⟩, ⟨_, rfl, ⟨rfl, rfl⟩⟩, ⟨_, rfl, rfl⟩, ⟨_, rfl, rfl⟩, trivial⟩ ⟨⟨_, rfl, rfl, .inl ⟨app_eq (⟨v2.rows, v2.cols, v4⟩ : Mt) rfl, okMt.plainO _⟩⟩, rfl, trivial⟩ rfl)) ?_
      refine ac_region ?_
      refine aops_eff (eff_move rfl) rfl rfl rfl ?_
      refine aops_eff (eff_move rfl) rfl rfl rfl ?_
      obtain ⟨q6, h⟩ := cg h
      refine aops_eff (x_slice_list TT_ok (l0 := x1.1) (l := (v2.cells.length : Int)) (h := (x1.1.length : Int)) q6 rfl rfl rfl rfl rfl rfl rfl) rfl rfl rfl ?_
      refine aops_eff (eff_assign rfl) rfl rfl rfl ?_
      refine aops_nil ?_
      refine block_n ?_
      refine then_n ?_
      refine ac_region ?_
      refine aops_eff (x_add rfl rfl) rfl rfl rfl ?_
      refine aops_eff (eff_move rfl) rfl rfl rfl ?_
      refine aops_nil ?_
      refine then_n ?_
      obtain rfl := so h
      exact ⟨_, rfl, (ent_mk (σ := sg [(0, 4)]) ⟨⟨_, rfl, ⟨rfl, rfl⟩⟩, ⟨_, rfl, ⟨rfl, rfl, rfl, rfl⟩⟩, ⟨_, rfl, ⟨rfl, rfl⟩⟩, ⟨_, rfl, rfl⟩, ⟨_, rfl, rfl⟩, trivial⟩ ⟨⟨_, rfl, rfl, .inl ⟨rfl, okMt.plainO _⟩⟩, rfl, trivial⟩ rfl)⟩
    · refine ac_condF rfl q1 ?_
      refine ac_exit ?_
      refine then_exit ?_
      refine then_exit ?_
      obtain rfl := so h
      exact ⟨_, rfl, rfl, (ent_mk (σ := sg [(0, 0)]) ⟨⟨_, rfl, ⟨rfl, rfl, rfl, rfl⟩⟩, trivial⟩ ⟨⟨_, rfl, rfl, .inl ⟨rfl, okMt.plainO _⟩⟩, rfl, trivial⟩ rfl)⟩
  · rintro e t ⟨rfl, hent⟩
    refine block_here ?_
    refine then_n ?_
    refine ac_ent hent ?_
    refine ac_seq ?_
    refine ac_region ?_
    refine aops_eff (eff_move rfl) rfl rfl rfl ?_
    refine aops_eff (eff_assign rfl) rfl rfl rfl ?_
    refine aops_nil ?_
    refine then_n ?_
    refine ac_ret ?_
    obtain rfl := so h
    exact ret_mk rfl rfl rfl (xz_list (x_f1 okMt rfl rfl))

noncomputable def m_impl_plus (a0 : Int) (a1 : Mt) (a2 : Int) (a3 : Mt) : Option Mt :=
  Option.bind (m_impl_Matrix_clone a1) fun v1 =>
  Option.bind (m_impl_addMultiple a0 v1.cells 0 v1.cells.length a2 a3.cells) fun v2 =>
  bif decide (v2.length = v1.cells.length) then
    (some ((⟨v1.rows, v1.cols, v2⟩ : Mt)))
  else none

theorem c_impl_plus (a0 : Int) (a1 : Mt) (a2 : Int) (a3 : Mt) (r : Mt) (h : m_impl_plus a0 a1 a2 a3 = some r) : HasC Try.prog 162 [.int a0, .agg (eM a1), .int a2, .agg (eM a3)] (.agg (eM r)) := by
  refine hasC_mk TT_ok (rvs := [.cell 8 81]) (ns := [0, 1, 2, 3, 4, 5, 6, 7, 8, 9, 10, 11, 12, 13]) Try.func162 rfl rfl Try.ntmps162 rfl rfl rfl ?_
  refine ac_seq ?_
  refine ac_region ?_
  refine aops_eff (w_box rfl rfl rfl rfl) rfl rfl rfl ?_
  refine aops_eff (w_box rfl rfl rfl rfl) rfl rfl rfl ?_
  refine aops_eff (w_alloc TT_ok rfl rfl) rfl rfl rfl ?_
  refine aops_nil ?_
  refine then_n ?_
  refine ac_seq ?_
  refine ac_region ?_
  refine aops_eff (w_load_ptr TT_ok rfl rfl rfl rfl rfl rfl rfl) rfl rfl rfl ?_
  obtain ⟨v1, hv1, h⟩ := ob h
  refine aops_eff (AEff.conv (w_call0 (x := .agg [.int v1.rows, .int v1.cols, .own 3 0 (List.map eI v1.cells).length]) (nb := [(3, ⟨1, absEs (List.map eI v1.cells)⟩)]) (c_impl_Matrix_clone a1 v1 hv1) rfl (by rfl) rfl rfl (g1_cons trivial (g1_cons trivial (g1_cons (okI.good _) g1_nil))) (va_cons (va_agg' (v1_cons (v1_same rfl) (v1_cons (v1_same rfl) (v1_cons (v1_same rfl) v1_nil)))) va_nil)) (v' := .agg [.int v1.rows, .int v1.cols, .own 3 0 v1.cells.length]) (ed' := [(3, some ⟨1, List.map (ow eI) v1.cells⟩)]) (by simp only [len_map]) (ed_ok (nb' := [(3, ⟨1, List.map (ow eI) v1.cells⟩)]) (by simp only [abs_map]))) rfl rfl rfl ?_
  refine aops_eff (w_alloc TT_ok rfl rfl) rfl rfl rfl ?_
  refine aops_eff (w_store TT_ok rfl rfl rfl rfl rfl rfl rfl rfl) rfl rfl rfl ?_
  refine aops_nil ?_
  refine then_n ?_
  refine ac_seq ?_
  refine ac_region ?_
  refine aops_eff (eff_move rfl) rfl rfl rfl ?_
  refine aops_eff (w_field_ptr TT_ok rfl rfl rfl rfl rfl rfl rfl) rfl rfl rfl ?_
  refine aops_eff (w_load_ptr TT_ok rfl rfl rfl rfl rfl rfl rfl) rfl rfl rfl ?_
  refine aops_eff (eff_move rfl) rfl rfl rfl ?_
  refine aops_eff (w_field_ptr TT_ok rfl rfl rfl rfl rfl rfl rfl) rfl rfl rfl ?_
  refine aops_eff (w_load_ptr TT_ok rfl rfl rfl rfl rfl rfl rfl) rfl rfl rfl ?_
  obtain ⟨v2, hv2, h⟩ := ob h
  refine aops_eff (eff_hasE (σ := sg [(0, 3)]) (σ' := sg [(3, 0)]) (touch := [3]) (news := []) (hl2 := [(3, ⟨1, List.map (ow eI) v2⟩)]) (n' := 5) (r2 := .own 3 0 v1.cells.length) (c_impl_addMultiple a0 v1.cells 0 v1.cells.length a2 a3.cells v2 hv2) rfl rfl ⟨_, _, rfl, rfl, ⟨_, _, rfl, ⟨rfl, rfl, rfl, rfl⟩, ⟨_, _, rfl, rfl, ⟨_, _, rfl, ⟨rfl, rfl⟩, rfl⟩⟩⟩⟩ ⟨⟨_, rfl, rfl, .inl ⟨rfl, okI.plainO _⟩⟩, rfl, trivial⟩ rfl rfl rfl ⟨⟨_, rfl, rfl, .inl ⟨rfl, okI.plainO _⟩⟩, rfl, trivial⟩ rfl ⟨rfl, rfl, (by simp only [len_map, List.length_append, List.length_set, List.length_replicate, List.length_cons, List.length_nil]), rfl⟩ rfl ⟨rfl, okI.tame _ _, trivial⟩ rfl rfl) rfl rfl rfl ?_
  obtain ⟨q3, h⟩ := cg h
  refine aops_nil ?_
  refine then_n ?_
  refine ac_ent (t := mkS [(8, .ptr 2 0 0), (9, .ptr 4 0 0)] [(2, ⟨3, [[.int 0, .int 0, .nil 1]]⟩), (3, ⟨1, List.map (ow eI) v2⟩), (4, ⟨3, [[.int v1.rows, .int v1.cols, .own 3 0 v2.length]]⟩)] 5 [5, 6, 7, 8, 9, 10, 11, 12, 13, 14, 15, 16, 17, 18]) (ent_mk (σ := sg [(2, 2), (3, 3), (4, 4)]) ⟨⟨_, rfl, ⟨rfl, rfl, rfl, rfl⟩⟩, ⟨_, rfl, ⟨rfl, rfl, rfl, rfl⟩⟩, trivial⟩ ⟨⟨_, rfl, rfl, .inl ⟨rfl, plain_of rfl⟩⟩, rfl, ⟨_, rfl, rfl, .inl ⟨rfl, okI.plainO _⟩⟩, rfl, ⟨_, rfl, rfl, .inr ⟨_, _, rfl, ⟨_, _, rfl, rfl, ⟨_, _, rfl, rfl, ⟨_, _, rfl, ⟨rfl, rfl, (by simp only [len_map, List.length_append, List.length_set, List.length_replicate, List.length_cons, List.length_nil, of_decide_eq_true q3]), rfl⟩, rfl⟩⟩⟩, rfl⟩⟩, rfl, trivial⟩ rfl) ?_
  refine ac_seq ?_
  refine ac_region ?_
  refine aops_eff (w_load_ptr TT_ok rfl rfl rfl rfl rfl rfl rfl) rfl rfl rfl ?_
  refine aops_eff (w_store TT_ok rfl rfl rfl rfl rfl rfl rfl rfl) rfl rfl rfl ?_
  refine aops_nil ?_
  refine then_n ?_
  refine ac_ret ?_
  obtain rfl := so h
  exact ret_mk rfl rfl rfl (xz_agg (x1_cons (rfl) (x1_cons (rfl) (x1_cons (x_f1 okI rfl rfl) x1_nil))))

noncomputable def m_impl_coboundary_L1 (a0 : Rp) (a1 : Rp) (a2 : (List Mt)) (x1 : ((List Mt) × Int)) : Option (((List Mt) × Int) ⊕ (List Mt)) :=
  bif decide (x1.2 < (a0.q.src.length : Int)) then
    (Option.bind (atL a0.q.src x1.2) fun v2 =>
    Option.bind (atL a1.maps x1.2) fun v3 =>
    Option.bind (atL a2 v2) fun v4 =>
    Option.bind (m_impl_times a0.p v3 v4) fun v5 =>
    Option.bind (atL a0.q.tgt x1.2) fun v6 =>
    Option.bind (atL a2 v6) fun v7 =>
    Option.bind (atL a0.maps x1.2) fun v8 =>
    Option.bind (m_impl_times a0.p v7 v8) fun v9 =>
    Option.bind (m_impl_plus a0.p v5 (wr (a0.p - 1)) v9) fun v10 =>
    bif decide (x1.1.length + 1 ≤ 4294967296) then
      (some (.inl ((x1.1 ++ [v10]), wr (x1.2 + 1))))
    else none)
  else
    (some (.inr x1.1))

noncomputable def m_impl_coboundary (a0 : Rp) (a1 : Rp) (a2 : (List Mt)) : Option (List Mt) :=
  Option.bind (Lp (m_impl_coboundary_L1 a0 a1 a2) ([], 0)) fun y12 =>
  some (y12)

theorem c_impl_coboundary (a0 : Rp) (a1 : Rp) (a2 : (List Mt)) (r : (List Mt)) (h : m_impl_coboundary a0 a1 a2 = some r) : HasC Try.prog 136 [.agg (eR a0), .agg (eR a1), .list 3 (List.map eM a2)] (.list 3 (List.map eM r)) := by
  refine hasC_mk TT_ok (rvs := [.tmp 6]) (ns := [0, 1, 2, 3, 4, 5, 6, 7, 8, 9, 10, 11, 12, 13]) Try.func136 rfl rfl Try.ntmps136 rfl rfl rfl ?_
  refine ac_seq ?_
  refine ac_region ?_
  refine aops_eff (w_box rfl rfl rfl rfl) rfl rfl rfl ?_
  refine aops_eff (w_box rfl rfl rfl rfl) rfl rfl rfl ?_
  refine aops_eff (eff_assign rfl) rfl rfl rfl ?_
  refine aops_nil ?_
  refine then_n ?_
  refine ac_seq ?_
  refine ac_region ?_
  refine aops_eff (eff_assign rfl) rfl rfl rfl ?_
  refine aops_nil ?_
  refine then_n ?_
  refine ac_seq ?_
  refine ac_seq ?_
  refine ac_region ?_
  refine aops_eff (w_field_ptr TT_ok rfl rfl rfl rfl rfl rfl rfl) rfl rfl rfl ?_
  refine aops_eff (w_field_ptr TT_ok rfl rfl rfl rfl rfl rfl rfl) rfl rfl rfl ?_
  refine aops_eff (w_load_ptr TT_ok rfl rfl rfl rfl rfl rfl rfl) rfl rfl rfl ?_
  refine aops_eff (AEff.val (w_len_list TT_ok rfl rfl rfl) (v' := .int (a0.q.src.length : Int)) (by first | rw [len_map] | rw [encI_len])) rfl rfl rfl ?_
  refine aops_eff (eff_move rfl) rfl rfl rfl ?_
  refine aops_nil ?_
  refine then_n ?_
  refine ac_block ?_
  obtain ⟨y12, hy12, h⟩ := ob h
  refine ac_Lp (body := (m_impl_coboundary_L1 a0 a1 a2)) hy12 (fun (x1 : ((List Mt) × Int)) => mkS [(2, .list 3 (List.map eM a2)), (3, .ptr 0 0 0), (4, .ptr 1 0 0), (7, .own 2 0 x1.1.length), (13, .list 1 (List.map eI a0.q.src)), (14, .int (a0.q.src.length : Int)), (15, .int x1.2)] [(0, ⟨6, [[.int a0.p, .int a0.q.n, .list 1 (List.map eI a0.q.src), .list 1 (List.map eI a0.q.tgt), .list 1 (List.map eI a0.dims), .list 3 (List.map eM a0.maps)]]⟩), (1, ⟨6, [[.int a1.p, .int a1.q.n, .list 1 (List.map eI a1.q.src), .list 1 (List.map eI a1.q.tgt), .list 1 (List.map eI a1.dims), .list 3 (List.map eM a1.maps)]]⟩), (2, ⟨3, List.map (ow eM) x1.1⟩)] 3 [3, 4, 5, 6, 7, 8, 9, 10, 11, 12, 13, 14, 15, 16]) (fun r e t => e = .exit 0 ∧ Ent t (mkS [(7, .own 0 0 r.length)] [(0, ⟨3, List.map (ow eM) r⟩)] 1 [1, 2, 3, 4, 5, 6, 7, 8, 9, 10, 11, 12, 13, 14])) (ent_mk (σ := sg [(0, 0), (1, 1)]) ⟨⟨_, rfl, ⟨rfl, rfl⟩⟩, ⟨_, rfl, ⟨rfl, rfl, rfl, rfl⟩⟩, ⟨_, rfl, ⟨rfl, rfl, rfl, rfl⟩⟩, ⟨_, rfl, ⟨rfl, rfl, rfl, rfl⟩⟩, ⟨_, rfl, ⟨rfl, rfl⟩⟩, ⟨_, rfl, rfl⟩, ⟨_, rfl, rfl⟩, trivial⟩ ⟨⟨_, rfl, rfl, .inl ⟨rfl, plain_of rfl⟩⟩, rfl, ⟨_, rfl, rfl, .inl ⟨rfl, plain_of rfl⟩⟩, rfl, rfl, rfl, trivial⟩ rfl) ?_ ?_
  · intro x1 o h
    refine ac_seq ?_
    refine ac_region ?_
    refine aops_eff (w_cmp rfl rfl rfl) rfl rfl rfl ?_
    refine aops_nil ?_
    refine then_n ?_
    refine ac_seq ?_
    rcases cb h with ⟨q1, h⟩ | ⟨q1, h⟩
    · refine ac_condT rfl q1 ?_
      refine ac_skip ?_
      refine then_n ?_
      refine ac_seq ?_
      refine ac_block ?_
      refine ac_seq ?_
      refine ac_region ?_
      refine aops_eff (eff_move rfl) rfl rfl rfl ?_
      obtain ⟨v2, hv2, h⟩ := ob h
      refine aops_eff (x_at_list TT_ok hv2 rfl rfl rfl rfl rfl rfl) rfl rfl rfl ?_
      refine aops_eff (w_load_ref TT_ok rfl rfl rfl rfl rfl rfl) rfl rfl rfl ?_
      refine aops_eff (eff_assign rfl) rfl rfl rfl ?_
      refine aops_eff (eff_assign rfl) rfl rfl rfl ?_
      refine aops_nil ?_
      refine then_n ?_
      refine ac_seq ?_
      refine ac_region_draw MIXX ?_
      refine aops_eff (w_field_ptr TT_ok rfl rfl rfl rfl rfl rfl rfl) rfl rfl rfl ?_
      refine aops_eff (w_load_ptr TT_ok rfl rfl rfl rfl rfl rfl rfl) rfl rfl rfl ?_
      refine aops_eff (w_field_ptr TT_ok rfl rfl rfl rfl rfl rfl rfl) rfl rfl rfl ?_
      refine aops_eff (w_load_ptr TT_ok rfl rfl rfl rfl rfl rfl rfl) rfl rfl rfl ?_
      refine aops_eff (eff_move rfl) rfl rfl rfl ?_
      obtain ⟨v3, hv3, h⟩ := ob h
      refine aops_eff (x_at_list TT_ok hv3 rfl rfl rfl rfl rfl rfl) rfl rfl rfl ?_
      refine aops_eff (w_load_ref TT_ok rfl rfl rfl rfl rfl rfl) rfl rfl rfl ?_
      refine aops_eff (eff_move rfl) rfl rfl rfl ?_
      refine aops_eff (eff_move rfl) rfl rfl rfl ?_
      obtain ⟨v4, hv4, h⟩ := ob h
      refine aops_eff (x_at_list TT_ok hv4 rfl rfl rfl rfl rfl rfl) rfl rfl rfl ?_
      refine aops_eff (w_load_ref TT_ok rfl rfl rfl rfl rfl rfl) rfl rfl rfl ?_
      obtain ⟨v5, hv5, h⟩ := ob h
      refine aops_eff (AEff.conv (w_call0 (x := .agg [.int v5.rows, .int v5.cols, .own 3 0 (List.map eI v5.cells).length]) (nb := [(3, ⟨1, absEs (List.map eI v5.cells)⟩)]) (c_impl_times a0.p v3 v4 v5 hv5) rfl (by rfl) rfl rfl (g1_cons trivial (g1_cons trivial (g1_cons (okI.good _) g1_nil))) (va_cons (va_same rfl) (va_cons (va_agg' (v1_cons (v1_same rfl) (v1_cons (v1_same rfl) (v1_cons (v1_same rfl) v1_nil)))) (va_cons (va_agg' (v1_cons (v1_same rfl) (v1_cons (v1_same rfl) (v1_cons (v1_same rfl) v1_nil)))) va_nil)))) (v' := .agg [.int v5.rows, .int v5.cols, .own 3 0 v5.cells.length]) (ed' := [(3, some ⟨1, List.map (ow eI) v5.cells⟩)]) (by simp only [len_map]) (ed_ok (nb' := [(3, ⟨1, List.map (ow eI) v5.cells⟩)]) (by simp only [abs_map]))) rfl rfl rfl ?_
      refine aops_eff (w_alloc TT_ok rfl rfl) rfl rfl rfl ?_
      refine aops_eff (w_store TT_ok rfl rfl rfl rfl rfl rfl rfl rfl) rfl rfl rfl ?_
      refine aops_nil ?_
      refine ⟨by kernel_rfl, ?_⟩
      refine then_n ?_
      refine ac_ent (t := mkS [(2, .list 3 (List.map eM a2)), (3, .ptr 0 0 0), (4, .ptr 1 0 0), (7, .own 2 0 x1.1.length), (8, .int x1.2), (10, .ptr 4 0 0), (13, .list 1 (List.map eI a0.q.src)), (14, .int (a0.q.src.length : Int)), (15, .int x1.2)] [(0, ⟨6, [[.int a0.p, .int a0.q.n, .list 1 (List.map eI a0.q.src), .list 1 (List.map eI a0.q.tgt), .list 1 (List.map eI a0.dims), .list 3 (List.map eM a0.maps)]]⟩), (1, ⟨6, [[.int a1.p, .int a1.q.n, .list 1 (List.map eI a1.q.src), .list 1 (List.map eI a1.q.tgt), .list 1 (List.map eI a1.dims), .list 3 (List.map eM a1.maps)]]⟩), (2, ⟨3, List.map (ow eM) x1.1⟩), (3, ⟨1, List.map (ow eI) v5.cells⟩), (4, ⟨3, [[.int v5.rows, .int v5.cols, .own 3 0 v5.cells.length]]⟩)] 5 [5, 6, 7, 8, 9, 10, 11, 12, 13, 14, 15, 16, 17, 18]) (ent_mk (σ := sg [(0, 0), (1, 1), (2, 2), (3, 3), (4, 4)]) ⟨⟨_, rfl, ⟨rfl, rfl⟩⟩, ⟨_, rfl, ⟨rfl, rfl, rfl, rfl⟩⟩, ⟨_, rfl, ⟨rfl, rfl, rfl, rfl⟩⟩, ⟨_, rfl, ⟨rfl, rfl, rfl, rfl⟩⟩, ⟨_, rfl, rfl⟩, ⟨_, rfl, ⟨rfl, rfl, rfl, rfl⟩⟩, ⟨_, rfl, ⟨rfl, rfl⟩⟩, ⟨_, rfl, rfl⟩, ⟨_, rfl, rfl⟩, trivial⟩ ⟨⟨_, rfl, rfl, .inl ⟨rfl, plain_of rfl⟩⟩, rfl, ⟨_, rfl, rfl, .inl ⟨rfl, plain_of rfl⟩⟩, rfl, ⟨_, rfl, rfl, .inl ⟨rfl, okMt.plainO _⟩⟩, rfl, ⟨_, rfl, rfl, .inl ⟨rfl, okI.plainO _⟩⟩, rfl, ⟨_, rfl, rfl, .inr ⟨_, _, rfl, ⟨_, _, rfl, rfl, ⟨_, _, rfl, rfl, ⟨_, _, rfl, ⟨rfl, rfl, rfl, rfl⟩, rfl⟩⟩⟩, rfl⟩⟩, rfl, trivial⟩ rfl) ?_
      refine ac_region_draw MIXX ?_
      refine aops_eff (eff_move rfl) rfl rfl rfl ?_
      refine aops_eff (w_field_ptr TT_ok rfl rfl rfl rfl rfl rfl rfl) rfl rfl rfl ?_
      refine aops_eff (w_load_ptr TT_ok rfl rfl rfl rfl rfl rfl rfl) rfl rfl rfl ?_
      refine aops_eff (w_load_ptr TT_ok rfl rfl rfl rfl rfl rfl rfl) rfl rfl rfl ?_
      refine aops_eff (w_field_ptr TT_ok rfl rfl rfl rfl rfl rfl rfl) rfl rfl rfl ?_
      refine aops_eff (w_load_ptr TT_ok rfl rfl rfl rfl rfl rfl rfl) rfl rfl rfl ?_
      refine aops_eff (x_sub rfl rfl) rfl rfl rfl ?_
      refine aops_eff (w_field_ptr TT_ok rfl rfl rfl rfl rfl rfl rfl) rfl rfl rfl ?_
      refine aops_eff (w_load_ptr TT_ok rfl rfl rfl rfl rfl rfl rfl) rfl rfl rfl ?_
      refine aops_eff (eff_move rfl) rfl rfl rfl ?_
      refine aops_eff (w_field_ptr TT_ok rfl rfl rfl rfl rfl rfl rfl) rfl rfl rfl ?_
      refine aops_eff (w_field_ptr TT_ok rfl rfl rfl rfl rfl rfl rfl) rfl rfl rfl ?_
      refine aops_eff (w_load_ptr TT_ok rfl rfl rfl rfl rfl rfl rfl) rfl rfl rfl ?_
      refine aops_eff (eff_move rfl) rfl rfl rfl ?_
      obtain ⟨v6, hv6, h⟩ := ob h
      refine aops_eff (x_at_list TT_ok hv6 rfl rfl rfl rfl rfl rfl) rfl rfl rfl ?_
      refine aops_eff (w_load_ref TT_ok rfl rfl rfl rfl rfl rfl) rfl rfl rfl ?_
      obtain ⟨v7, hv7, h⟩ := ob h
      refine aops_eff (x_at_list TT_ok hv7 rfl rfl rfl rfl rfl rfl) rfl rfl rfl ?_
      refine aops_eff (w_load_ref TT_ok rfl rfl rfl rfl rfl rfl) rfl rfl rfl ?_
      refine aops_eff (w_field_ptr TT_ok rfl rfl rfl rfl rfl rfl rfl) rfl rfl rfl ?_
      refine aops_eff (w_load_ptr TT_ok rfl rfl rfl rfl rfl rfl rfl) rfl rfl rfl ?_
      refine aops_eff (eff_move rfl) rfl rfl rfl ?_
      obtain ⟨v8, hv8, h⟩ := ob h
      refine aops_eff (x_at_list TT_ok hv8 rfl rfl rfl rfl rfl rfl) rfl rfl rfl ?_
      refine aops_eff (w_load_ref TT_ok rfl rfl rfl rfl rfl rfl) rfl rfl rfl ?_
      obtain ⟨v9, hv9, h⟩ := ob h
      refine aops_eff (AEff.conv (w_call0 (x := .agg [.int v9.rows, .int v9.cols, .own 5 0 (List.map eI v9.cells).length]) (nb := [(5, ⟨1, absEs (List.map eI v9.cells)⟩)]) (c_impl_times a0.p v7 v8 v9 hv9) rfl (by rfl) rfl rfl (g1_cons trivial (g1_cons trivial (g1_cons (okI.good _) g1_nil))) (va_cons (va_same rfl) (va_cons (va_agg' (v1_cons (v1_same rfl) (v1_cons (v1_same rfl) (v1_cons (v1_same rfl) v1_nil)))) (va_cons (va_agg' (v1_cons (v1_same rfl) (v1_cons (v1_same rfl) (v1_cons (v1_same rfl) v1_nil)))) va_nil)))) (v' := .agg [.int v9.rows, .int v9.cols, .own 5 0 v9.cells.length]) (ed' := [(5, some ⟨1, List.map (ow eI) v9.cells⟩)]) (by simp only [len_map]) (ed_ok (nb' := [(5, ⟨1, List.map (ow eI) v9.cells⟩)]) (by simp only [abs_map]))) rfl rfl rfl ?_
      obtain ⟨v10, hv10, h⟩ := ob h
      refine aops_eff (AEff.conv (w_call0 (x := .agg [.int v10.rows, .int v10.cols, .own 6 0 (List.map eI v10.cells).length]) (nb := [(6, ⟨1, absEs (List.map eI v10.cells)⟩)]) (c_impl_plus a0.p v5 (wr (a0.p - 1)) v9 v10 hv10) rfl (by rfl) rfl rfl (g1_cons trivial (g1_cons trivial (g1_cons (okI.good _) g1_nil))) (va_cons (va_same rfl) (va_cons (va_agg' (v1_cons (v1_same rfl) (v1_cons (v1_same rfl) (v1_cons (v1_T okI rfl rfl) v1_nil)))) (va_cons (va_same rfl) (va_cons (va_agg' (v1_cons (v1_same rfl) (v1_cons (v1_same rfl) (v1_cons (v1_T okI rfl rfl) v1_nil)))) va_nil))))) (v' := .agg [.int v10.rows, .int v10.cols, .own 6 0 v10.cells.length]) (ed' := [(6, some ⟨1, List.map (ow eI) v10.cells⟩)]) (by simp only [len_map]) (ed_ok (nb' := [(6, ⟨1, List.map (ow eI) v10.cells⟩)]) (by simp only [abs_map]))) rfl rfl rfl ?_
      refine aops_eff (w_lit TT_ok rfl rfl rfl rfl rfl rfl rfl rfl rfl rfl rfl rfl) rfl rfl rfl ?_
      obtain ⟨q11, h⟩ := cg h
      refine aops_eff (x_app1 TT_ok (l := x1.1) (c := [.int v10.rows, .int v10.cols, .own 6 0 v10.cells.length]) q11 rfl rfl rfl rfl rfl rfl rfl rfl rfl rfl rfl rfl rfl rfl) rfl rfl rfl ?_
      refine aops_eff (eff_assign rfl) rfl rfl rfl ?_
      refine aops_nil ?_
      refine ⟨by kernel_rfl, ?_⟩
      refine block_n ?_
      refine then_n ?_
      refine ac_ent (t := mkS [(2, .list 3 (List.map eM a2)), (3, .ptr 0 0 0), (4, .ptr 1 0 0), (7, .own 8 0 ((x1.1 ++ [v10]).length)), (13, .list 1 (List.map eI a0.q.src)), (14, .int (a0.q.src.length : Int)), (15, .int x1.2)] [(0, ⟨6, [[.int a0.p, .int a0.q.n, .list 1 (List.map eI a0.q.src), .list 1 (List.map eI a0.q.tgt), .list 1 (List.map eI a0.dims), .list 3 (List.map eM a0.maps)]]⟩), (1, ⟨6, [[.int a1.p, .int a1.q.n, .list 1 (List.map eI a1.q.src), .list 1 (List.map eI a1.q.tgt), .list 1 (List.map eI a1.dims), .list 3 (List.map eM a1.maps)]]⟩), (8, ⟨3, List.map (ow eM) (x1.1 ++ [v10])⟩)] 9 [9, 10, 11, 12, 13, 14, 15, 16, 17, 18, 19, 20, 21, 22]) (Ent.trans (ent_absL (b := 8) (b' := 6) (j := 2) (es' := List.map eI v10.cells) rfl rfl rfl rfl (len_map _ _) (okI.frzs _)) (ent_mk (σ := sg [(0, 0), (1, 1), (8, 8)]) ⟨⟨_, rfl, ⟨rfl, rfl⟩⟩, ⟨_, rfl, ⟨rfl, rfl, rfl, rfl⟩⟩, ⟨_, rfl, ⟨rfl, rfl, rfl, rfl⟩⟩, ⟨_, rfl, ⟨rfl, rfl, (by simp only [len_map, List.length_append, List.length_set, List.length_replicate, List.length_cons, List.length_nil]), rfl⟩⟩, ⟨_, rfl, ⟨rfl, rfl⟩⟩, ⟨_, rfl, rfl⟩, ⟨_, rfl, rfl⟩, trivial⟩ ⟨⟨_, rfl, rfl, .inl ⟨rfl, plain_of rfl⟩⟩, rfl, ⟨_, rfl, rfl, .inl ⟨rfl, plain_of rfl⟩⟩, rfl, ⟨_, rfl, rfl, .inl ⟨app_eq v10 rfl, okMt.plainO _⟩⟩, rfl, trivial⟩ rfl)) ?_
      refine ac_region ?_
      refine aops_eff (x_add rfl rfl) rfl rfl rfl ?_
      refine aops_eff (eff_move rfl) rfl rfl rfl ?_
      refine aops_nil ?_
      refine then_n ?_
      obtain rfl := so h
      exact ⟨_, rfl, (ent_mk (σ := sg [(0, 0), (1, 1), (2, 8)]) ⟨⟨_, rfl, ⟨rfl, rfl⟩⟩, ⟨_, rfl, ⟨rfl, rfl, rfl, rfl⟩⟩, ⟨_, rfl, ⟨rfl, rfl, rfl, rfl⟩⟩, ⟨_, rfl, ⟨rfl, rfl, rfl, rfl⟩⟩, ⟨_, rfl, ⟨rfl, rfl⟩⟩, ⟨_, rfl, rfl⟩, ⟨_, rfl, rfl⟩, trivial⟩ ⟨⟨_, rfl, rfl, .inl ⟨rfl, plain_of rfl⟩⟩, rfl, ⟨_, rfl, rfl, .inl ⟨rfl, plain_of rfl⟩⟩, rfl, ⟨_, rfl, rfl, .inl ⟨rfl, okMt.plainO _⟩⟩, rfl, trivial⟩ rfl)⟩
    · refine ac_condF rfl q1 ?_
      refine ac_exit ?_
      refine then_exit ?_
      refine then_exit ?_
      obtain rfl := so h
      exact ⟨_, rfl, rfl, (ent_mk (σ := sg [(0, 2)]) ⟨⟨_, rfl, ⟨rfl, rfl, rfl, rfl⟩⟩, trivial⟩ ⟨⟨_, rfl, rfl, .inl ⟨rfl, okMt.plainO _⟩⟩, rfl, trivial⟩ rfl)⟩
  · rintro e t ⟨rfl, hent⟩
    refine block_here ?_
    refine then_n ?_
    refine ac_ent hent ?_
    refine ac_seq ?_
    refine ac_region ?_
    refine aops_eff (eff_move rfl) rfl rfl rfl ?_
    refine aops_eff (eff_assign rfl) rfl rfl rfl ?_
    refine aops_nil ?_
    refine then_n ?_
    refine ac_ret ?_
    obtain rfl := so h
    exact ret_mk rfl rfl rfl (xz_list (x_f1 okMt rfl rfl))

noncomputable def m_impl_cocycleZeros_L1 (a0 : Rp) (a1 : Rp) (x1 : ((List Mt) × Int)) : Option (((List Mt) × Int) ⊕ (List Mt)) :=
  bif decide (x1.2 < (a0.q.src.length : Int)) then
    (Option.bind (atL a0.q.src x1.2) fun v2 =>
    Option.bind (atL a0.q.tgt x1.2) fun v3 =>
    Option.bind (atL a1.dims v3) fun v4 =>
    Option.bind (atL a0.dims v2) fun v5 =>
    Option.bind (m_impl_zero v4 v5) fun v6 =>
    bif decide (x1.1.length + 1 ≤ 4294967296) then
      (some (.inl ((x1.1 ++ [v6]), wr (x1.2 + 1))))
    else none)
  else
    (some (.inr x1.1))

noncomputable def m_impl_cocycleZeros (a0 : Rp) (a1 : Rp) : Option (List Mt) :=
  Option.bind (Lp (m_impl_cocycleZeros_L1 a0 a1) ([], 0)) fun y8 =>
  some (y8)

theorem c_impl_cocycleZeros (a0 : Rp) (a1 : Rp) (r : (List Mt)) (h : m_impl_cocycleZeros a0 a1 = some r) : HasC Try.prog 138 [.agg (eR a0), .agg (eR a1)] (.list 3 (List.map eM r)) := by
  refine hasC_mk TT_ok (rvs := [.tmp 4]) (ns := [0, 1, 2, 3, 4, 5, 6, 7, 8, 9, 10, 11, 12, 13]) Try.func138 rfl rfl Try.ntmps138 rfl rfl rfl ?_
  refine ac_seq ?_
  refine ac_region ?_
  refine aops_eff (w_box rfl rfl rfl rfl) rfl rfl rfl ?_
  refine aops_eff (w_box rfl rfl rfl rfl) rfl rfl rfl ?_
  refine aops_eff (eff_assign rfl) rfl rfl rfl ?_
  refine aops_nil ?_
  refine then_n ?_
  refine ac_seq ?_
  refine ac_region ?_
  refine aops_eff (eff_assign rfl) rfl rfl rfl ?_
  refine aops_nil ?_
  refine then_n ?_
  refine ac_seq ?_
  refine ac_seq ?_
  refine ac_region ?_
  refine aops_eff (w_field_ptr TT_ok rfl rfl rfl rfl rfl rfl rfl) rfl rfl rfl ?_
  refine aops_eff (w_field_ptr TT_ok rfl rfl rfl rfl rfl rfl rfl) rfl rfl rfl ?_
  refine aops_eff (w_load_ptr TT_ok rfl rfl rfl rfl rfl rfl rfl) rfl rfl rfl ?_
  refine aops_eff (AEff.val (w_len_list TT_ok rfl rfl rfl) (v' := .int (a0.q.src.length : Int)) (by first | rw [len_map] | rw [encI_len])) rfl rfl rfl ?_
  refine aops_eff (eff_move rfl) rfl rfl rfl ?_
  refine aops_nil ?_
  refine then_n ?_
  refine ac_block ?_
  obtain ⟨y8, hy8, h⟩ := ob h
  refine ac_Lp (body := (m_impl_cocycleZeros_L1 a0 a1)) hy8 (fun (x1 : ((List Mt) × Int)) => mkS [(2, .ptr 0 0 0), (3, .ptr 1 0 0), (5, .own 2 0 x1.1.length), (10, .list 1 (List.map eI a0.q.src)), (11, .int (a0.q.src.length : Int)), (12, .int x1.2)] [(0, ⟨6, [[.int a0.p, .int a0.q.n, .list 1 (List.map eI a0.q.src), .list 1 (List.map eI a0.q.tgt), .list 1 (List.map eI a0.dims), .list 3 (List.map eM a0.maps)]]⟩), (1, ⟨6, [[.int a1.p, .int a1.q.n, .list 1 (List.map eI a1.q.src), .list 1 (List.map eI a1.q.tgt), .list 1 (List.map eI a1.dims), .list 3 (List.map eM a1.maps)]]⟩), (2, ⟨3, List.map (ow eM) x1.1⟩)] 3 [3, 4, 5, 6, 7, 8, 9, 10, 11, 12, 13, 14, 15, 16]) (fun r e t => e = .exit 0 ∧ Ent t (mkS [(5, .own 0 0 r.length)] [(0, ⟨3, List.map (ow eM) r⟩)] 1 [1, 2, 3, 4, 5, 6, 7, 8, 9, 10, 11, 12, 13, 14])) (ent_mk (σ := sg [(0, 0), (1, 1)]) ⟨⟨_, rfl, ⟨rfl, rfl, rfl, rfl⟩⟩, ⟨_, rfl, ⟨rfl, rfl, rfl, rfl⟩⟩, ⟨_, rfl, ⟨rfl, rfl, rfl, rfl⟩⟩, ⟨_, rfl, ⟨rfl, rfl⟩⟩, ⟨_, rfl, rfl⟩, ⟨_, rfl, rfl⟩, trivial⟩ ⟨⟨_, rfl, rfl, .inl ⟨rfl, plain_of rfl⟩⟩, rfl, ⟨_, rfl, rfl, .inl ⟨rfl, plain_of rfl⟩⟩, rfl, rfl, rfl, trivial⟩ rfl) ?_ ?_
  · intro x1 o h
    refine ac_seq ?_
    refine ac_region ?_
    refine aops_eff (w_cmp rfl rfl rfl) rfl rfl rfl ?_
    refine aops_nil ?_
    refine then_n ?_
    refine ac_seq ?_
    rcases cb h with ⟨q1, h⟩ | ⟨q1, h⟩
    · refine ac_condT rfl q1 ?_
      refine ac_skip ?_
      refine then_n ?_
      refine ac_seq ?_
      refine ac_block ?_
      refine ac_seq ?_
      refine ac_region ?_
      refine aops_eff (eff_move rfl) rfl rfl rfl ?_
      obtain ⟨v2, hv2, h⟩ := ob h
      refine aops_eff (x_at_list TT_ok hv2 rfl rfl rfl rfl rfl rfl) rfl rfl rfl ?_
      refine aops_eff (w_load_ref TT_ok rfl rfl rfl rfl rfl rfl) rfl rfl rfl ?_
      refine aops_eff (eff_assign rfl) rfl rfl rfl ?_
      refine aops_eff (eff_assign rfl) rfl rfl rfl ?_
      refine aops_nil ?_
      refine then_n ?_
      refine ac_region_draw MIXX ?_
      refine aops_eff (eff_move rfl) rfl rfl rfl ?_
      refine aops_eff (w_field_ptr TT_ok rfl rfl rfl rfl rfl rfl rfl) rfl rfl rfl ?_
      refine aops_eff (w_load_ptr TT_ok rfl rfl rfl rfl rfl rfl rfl) rfl rfl rfl ?_
      refine aops_eff (w_field_ptr TT_ok rfl rfl rfl rfl rfl rfl rfl) rfl rfl rfl ?_
      refine aops_eff (w_field_ptr TT_ok rfl rfl rfl rfl rfl rfl rfl) rfl rfl rfl ?_
      refine aops_eff (w_load_ptr TT_ok rfl rfl rfl rfl rfl rfl rfl) rfl rfl rfl ?_
      refine aops_eff (eff_move rfl) rfl rfl rfl ?_
      obtain ⟨v3, hv3, h⟩ := ob h
      refine aops_eff (x_at_list TT_ok hv3 rfl rfl rfl rfl rfl rfl) rfl rfl rfl ?_
      refine aops_eff (w_load_ref TT_ok rfl rfl rfl rfl rfl rfl) rfl rfl rfl ?_
      obtain ⟨v4, hv4, h⟩ := ob h
      refine aops_eff (x_at_list TT_ok hv4 rfl rfl rfl rfl rfl rfl) rfl rfl rfl ?_
      refine aops_eff (w_load_ref TT_ok rfl rfl rfl rfl rfl rfl) rfl rfl rfl ?_
      refine aops_eff (w_field_ptr TT_ok rfl rfl rfl rfl rfl rfl rfl) rfl rfl rfl ?_
      refine aops_eff (w_load_ptr TT_ok rfl rfl rfl rfl rfl rfl rfl) rfl rfl rfl ?_
      refine aops_eff (eff_move rfl) rfl rfl rfl ?_
      obtain ⟨v5, hv5, h⟩ := ob h
      refine aops_eff (x_at_list TT_ok hv5 rfl rfl rfl rfl rfl rfl) rfl rfl rfl ?_
      refine aops_eff (w_load_ref TT_ok rfl rfl rfl rfl rfl rfl) rfl rfl rfl ?_
      obtain ⟨v6, hv6, h⟩ := ob h
      refine aops_eff (AEff.conv (w_call0 (x := .agg [.int v6.rows, .int v6.cols, .own 3 0 (List.map eI v6.cells).length]) (nb := [(3, ⟨1, absEs (List.map eI v6.cells)⟩)]) (c_impl_zero v4 v5 v6 hv6) rfl (by rfl) rfl rfl (g1_cons trivial (g1_cons trivial (g1_cons (okI.good _) g1_nil))) (va_cons (va_same rfl) (va_cons (va_same rfl) va_nil))) (v' := .agg [.int v6.rows, .int v6.cols, .own 3 0 v6.cells.length]) (ed' := [(3, some ⟨1, List.map (ow eI) v6.cells⟩)]) (by simp only [len_map]) (ed_ok (nb' := [(3, ⟨1, List.map (ow eI) v6.cells⟩)]) (by simp only [abs_map]))) rfl rfl rfl ?_
      refine aops_eff (w_lit TT_ok rfl rfl rfl rfl rfl rfl rfl rfl rfl rfl rfl rfl) rfl rfl rfl ?_
      obtain ⟨q7, h⟩ := cg h
      refine aops_eff (x_app1 TT_ok (l := x1.1) (c := [.int v6.rows, .int v6.cols, .own 3 0 v6.cells.length]) q7 rfl rfl rfl rfl rfl rfl rfl rfl rfl rfl rfl rfl rfl rfl) rfl rfl rfl ?_
      refine aops_eff (eff_assign rfl) rfl rfl rfl ?_
      refine aops_nil ?_
      refine ⟨by kernel_rfl, ?_⟩
      refine block_n ?_
      refine then_n ?_
      refine ac_ent (t := mkS [(2, .ptr 0 0 0), (3, .ptr 1 0 0), (5, .own 5 0 ((x1.1 ++ [v6]).length)), (10, .list 1 (List.map eI a0.q.src)), (11, .int (a0.q.src.length : Int)), (12, .int x1.2)] [(0, ⟨6, [[.int a0.p, .int a0.q.n, .list 1 (List.map eI a0.q.src), .list 1 (List.map eI a0.q.tgt), .list 1 (List.map eI a0.dims), .list 3 (List.map eM a0.maps)]]⟩), (1, ⟨6, [[.int a1.p, .int a1.q.n, .list 1 (List.map eI a1.q.src), .list 1 (List.map eI a1.q.tgt), .list 1 (List.map eI a1.dims), .list 3 (List.map eM a1.maps)]]⟩), (5, ⟨3, List.map (ow eM) (x1.1 ++ [v6])⟩)] 6 [6, 7, 8, 9, 10, 11, 12, 13, 14, 15, 16, 17, 18, 19]) (Ent.trans (ent_absL (b := 5) (b' := 3) (j := 2) (es' := List.map eI v6.cells) rfl rfl rfl rfl (len_map _ _) (okI.frzs _)) (ent_mk (σ := sg [(0, 0), (1, 1), (5, 5)]) ⟨⟨_, rfl, ⟨rfl, rfl, rfl, rfl⟩⟩, ⟨_, rfl, ⟨rfl, rfl, rfl, rfl⟩⟩, ⟨_, rfl, ⟨rfl, rfl, (by simp only [len_map, List.length_append, List.length_set, List.length_replicate, List.length_cons, List.length_nil]), rfl⟩⟩, ⟨_, rfl, ⟨rfl, rfl⟩⟩, ⟨_, rfl, rfl⟩, ⟨_, rfl, rfl⟩, trivial⟩ ⟨⟨_, rfl, rfl, .inl ⟨rfl, plain_of rfl⟩⟩, rfl, ⟨_, rfl, rfl, .inl ⟨rfl, plain_of rfl⟩⟩, rfl, ⟨_, rfl, rfl, .inl ⟨app_eq v6 rfl, okMt.plainO _⟩⟩, rfl, trivial⟩ rfl)) ?_
      refine ac_region ?_
      refine aops_eff (x_add rfl rfl) rfl rfl rfl ?_
      refine aops_eff (eff_move rfl) rfl rfl rfl ?_
      refine aops_nil ?_
      refine then_n ?_
      obtain rfl := so h
      exact ⟨_, rfl, (ent_mk (σ := sg [(0, 0), (1, 1), (2, 5)]) ⟨⟨_, rfl, ⟨rfl, rfl, rfl, rfl⟩⟩, ⟨_, rfl, ⟨rfl, rfl, rfl, rfl⟩⟩, ⟨_, rfl, ⟨rfl, rfl, rfl, rfl⟩⟩, ⟨_, rfl, ⟨rfl, rfl⟩⟩, ⟨_, rfl, rfl⟩, ⟨_, rfl, rfl⟩, trivial⟩ ⟨⟨_, rfl, rfl, .inl ⟨rfl, plain_of rfl⟩⟩, rfl, ⟨_, rfl, rfl, .inl ⟨rfl, plain_of rfl⟩⟩, rfl, ⟨_, rfl, rfl, .inl ⟨rfl, okMt.plainO _⟩⟩, rfl, trivial⟩ rfl)⟩
    · refine ac_condF rfl q1 ?_
      refine ac_exit ?_
      refine then_exit ?_
      refine then_exit ?_
      obtain rfl := so h
      exact ⟨_, rfl, rfl, (ent_mk (σ := sg [(0, 2)]) ⟨⟨_, rfl, ⟨rfl, rfl, rfl, rfl⟩⟩, trivial⟩ ⟨⟨_, rfl, rfl, .inl ⟨rfl, okMt.plainO _⟩⟩, rfl, trivial⟩ rfl)⟩
  · rintro e t ⟨rfl, hent⟩
    refine block_here ?_
    refine then_n ?_
    refine ac_ent hent ?_
    refine ac_seq ?_
    refine ac_region ?_
    refine aops_eff (eff_move rfl) rfl rfl rfl ?_
    refine aops_eff (eff_assign rfl) rfl rfl rfl ?_
    refine aops_nil ?_
    refine then_n ?_
    refine ac_ret ?_
    obtain rfl := so h
    exact ret_mk rfl rfl rfl (xz_list (x_f1 okMt rfl rfl))

noncomputable def m_impl_fromColumns_L2 (v1 : Mt) (v3 : (List Int)) (x1 : ((List Int) × Int)) (x2 : ((List Int) × Int)) : Option (((List Int) × Int) ⊕ (List Int)) :=
  bif decide (x2.2 < (v3.length : Int)) then
    (Option.bind (atL v3 x2.2) fun v5 =>
    Option.bind (atL x2.1 (wr ((wr (x2.2 * v1.cols)) + x1.2))) fun v6 =>
    some (.inl ((x2.1.set ((wr ((wr (x2.2 * v1.cols)) + x1.2)).toNat) v5), wr (x2.2 + 1))))
  else
    (some (.inr x2.1))

noncomputable def m_impl_fromColumns_L1 (a1 : (List (List Int))) (v1 : Mt) (x1 : ((List Int) × Int)) : Option (((List Int) × Int) ⊕ (List Int)) :=
  bif decide (x1.2 < (a1.length : Int)) then
    (Option.bind (atL a1 x1.2) fun v3 =>
    Option.bind (Lp (m_impl_fromColumns_L2 v1 v3 x1) (x1.1, 0)) fun y7 =>
    some (.inl (y7, wr (x1.2 + 1))))
  else
    (some (.inr x1.1))

noncomputable def m_impl_fromColumns (a0 : Int) (a1 : (List (List Int))) : Option Mt :=
  Option.bind (m_impl_zero a0 (a1.length : Int)) fun v1 =>
  Option.bind (Lp (m_impl_fromColumns_L1 a1 v1) (v1.cells, 0)) fun y8 =>
  some ((⟨v1.rows, v1.cols, y8⟩ : Mt))

theorem c_impl_fromColumns (a0 : Int) (a1 : (List (List Int))) (r : Mt) (h : m_impl_fromColumns a0 a1 = some r) : HasC Try.prog 79 [.int a0, .list 1 (List.map (eLs 1 eI) a1)] (.agg (eM r)) := by
  refine hasC_mk TT_ok (rvs := [.cell 4 81]) (ns := [0, 1, 2, 3, 4, 5, 6, 7, 8, 9, 10, 11, 12, 13]) Try.func79 rfl rfl Try.ntmps79 rfl rfl rfl ?_
  refine ac_seq ?_
  refine ac_region ?_
  refine aops_eff (w_alloc TT_ok rfl rfl) rfl rfl rfl ?_
  refine aops_nil ?_
  refine then_n ?_
  refine ac_seq ?_
  refine ac_region ?_
  refine aops_eff (eff_move rfl) rfl rfl rfl ?_
  refine aops_eff (eff_move rfl) rfl rfl rfl ?_
  refine aops_eff (AEff.val (w_len_list TT_ok rfl rfl rfl) (v' := .int (a1.length : Int)) (by first | rw [len_map] | rw [encI_len])) rfl rfl rfl ?_
  obtain ⟨v1, hv1, h⟩ := ob h
  refine aops_eff (AEff.conv (w_call0 (x := .agg [.int v1.rows, .int v1.cols, .own 1 0 (List.map eI v1.cells).length]) (nb := [(1, ⟨1, absEs (List.map eI v1.cells)⟩)]) (c_impl_zero a0 (a1.length : Int) v1 hv1) rfl (by rfl) rfl rfl (g1_cons trivial (g1_cons trivial (g1_cons (okI.good _) g1_nil))) (va_cons (va_same rfl) (va_cons (va_same rfl) va_nil))) (v' := .agg [.int v1.rows, .int v1.cols, .own 1 0 v1.cells.length]) (ed' := [(1, some ⟨1, List.map (ow eI) v1.cells⟩)]) (by simp only [len_map]) (ed_ok (nb' := [(1, ⟨1, List.map (ow eI) v1.cells⟩)]) (by simp only [abs_map]))) rfl rfl rfl ?_
  refine aops_eff (w_alloc TT_ok rfl rfl) rfl rfl rfl ?_
  refine aops_eff (w_store TT_ok rfl rfl rfl rfl rfl rfl rfl rfl) rfl rfl rfl ?_
  refine aops_nil ?_
  refine then_n ?_
  refine ac_seq ?_
  refine ac_seq ?_
  refine ac_region ?_
  refine aops_eff (eff_move rfl) rfl rfl rfl ?_
  refine aops_eff (AEff.val (w_len_list TT_ok rfl rfl rfl) (v' := .int (a1.length : Int)) (by first | rw [len_map] | rw [encI_len])) rfl rfl rfl ?_
  refine aops_eff (eff_move rfl) rfl rfl rfl ?_
  refine aops_nil ?_
  refine then_n ?_
  refine ac_block ?_
  obtain ⟨y8, hy8, h⟩ := ob h
  refine ac_Lp (body := (m_impl_fromColumns_L1 a1 v1)) hy8 (fun (x1 : ((List Int) × Int)) => mkS [(4, .ptr 0 0 0), (5, .ptr 1 0 0), (14, .list 1 (List.map (eLs 1 eI) a1)), (15, .int (a1.length : Int)), (16, .int x1.2)] [(0, ⟨3, [[.int 0, .int 0, .nil 1]]⟩), (1, ⟨3, [[.int v1.rows, .int v1.cols, .own 2 0 x1.1.length]]⟩), (2, ⟨1, List.map (ow eI) x1.1⟩)] 3 [3, 4, 5, 6, 7, 8, 9, 10, 11, 12, 13, 14, 15, 16]) (fun r e t => e = .exit 0 ∧ Ent t (mkS [(4, .ptr 0 0 0), (5, .ptr 1 0 0)] [(0, ⟨3, [[.int 0, .int 0, .nil 1]]⟩), (1, ⟨3, [[.int v1.rows, .int v1.cols, .own 2 0 r.length]]⟩), (2, ⟨1, List.map (ow eI) r⟩)] 3 [3, 4, 5, 6, 7, 8, 9, 10, 11, 12, 13, 14, 15, 16])) (ent_mk (σ := sg [(0, 0), (1, 2), (2, 1)]) ⟨⟨_, rfl, ⟨rfl, rfl, rfl, rfl⟩⟩, ⟨_, rfl, ⟨rfl, rfl, rfl, rfl⟩⟩, ⟨_, rfl, ⟨rfl, rfl⟩⟩, ⟨_, rfl, rfl⟩, ⟨_, rfl, rfl⟩, trivial⟩ ⟨⟨_, rfl, rfl, .inl ⟨rfl, plain_of rfl⟩⟩, rfl, ⟨_, rfl, rfl, .inr ⟨_, _, rfl, ⟨_, _, rfl, rfl, ⟨_, _, rfl, rfl, ⟨_, _, rfl, ⟨rfl, rfl, rfl, rfl⟩, rfl⟩⟩⟩, rfl⟩⟩, rfl, ⟨_, rfl, rfl, .inl ⟨rfl, okI.plainO _⟩⟩, rfl, trivial⟩ rfl) ?_ ?_
  · intro x1 o h
    refine ac_seq ?_
    refine ac_region ?_
    refine aops_eff (w_cmp rfl rfl rfl) rfl rfl rfl ?_
    refine aops_nil ?_
    refine then_n ?_
    refine ac_seq ?_
    rcases cb h with ⟨q2, h⟩ | ⟨q2, h⟩
    · refine ac_condT rfl q2 ?_
      refine ac_skip ?_
      refine then_n ?_
      refine ac_seq ?_
      refine ac_block ?_
      refine ac_seq ?_
      refine ac_region ?_
      refine aops_eff (eff_move rfl) rfl rfl rfl ?_
      obtain ⟨v3, hv3, h⟩ := ob h
      refine aops_eff (x_at_list TT_ok hv3 rfl rfl rfl rfl rfl rfl) rfl rfl rfl ?_
      refine aops_eff (w_load_ref TT_ok rfl rfl rfl rfl rfl rfl) rfl rfl rfl ?_
      refine aops_eff (eff_assign rfl) rfl rfl rfl ?_
      refine aops_eff (eff_assign rfl) rfl rfl rfl ?_
      refine aops_nil ?_
      refine then_n ?_
      refine ac_seq ?_
      refine ac_region ?_
      refine aops_eff (eff_move rfl) rfl rfl rfl ?_
      refine aops_eff (AEff.val (w_len_list TT_ok rfl rfl rfl) (v' := .int (v3.length : Int)) (by first | rw [len_map] | rw [encI_len])) rfl rfl rfl ?_
      refine aops_eff (eff_move rfl) rfl rfl rfl ?_
      refine aops_nil ?_
      refine then_n ?_
      refine ac_block ?_
      obtain ⟨y7, hy7, h⟩ := ob h
      refine ac_Lp (body := (m_impl_fromColumns_L2 v1 v3 x1)) hy7 (fun (x2 : ((List Int) × Int)) => mkS [(4, .ptr 0 0 0), (5, .ptr 1 0 0), (6, .int x1.2), (14, .list 1 (List.map (eLs 1 eI) a1)), (15, .int (a1.length : Int)), (16, .int x1.2), (21, .list 1 (List.map eI v3)), (22, .int (v3.length : Int)), (23, .int x2.2)] [(0, ⟨3, [[.int 0, .int 0, .nil 1]]⟩), (1, ⟨3, [[.int v1.rows, .int v1.cols, .own 2 0 x2.1.length]]⟩), (2, ⟨1, List.map (ow eI) x2.1⟩)] 3 [3, 4, 5, 6, 7, 8, 9, 10, 11, 12, 13, 14, 15, 16]) (fun r e t => e = .exit 2 ∧ Ent t (mkS [(4, .ptr 0 0 0), (5, .ptr 1 0 0), (14, .list 1 (List.map (eLs 1 eI) a1)), (15, .int (a1.length : Int)), (16, .int x1.2)] [(0, ⟨3, [[.int 0, .int 0, .nil 1]]⟩), (1, ⟨3, [[.int v1.rows, .int v1.cols, .own 2 0 r.length]]⟩), (2, ⟨1, List.map (ow eI) r⟩)] 3 [3, 4, 5, 6, 7, 8, 9, 10, 11, 12, 13, 14, 15, 16])) (ent_mk (σ := sg [(0, 0), (1, 1), (2, 2)]) ⟨⟨_, rfl, ⟨rfl, rfl, rfl, rfl⟩⟩, ⟨_, rfl, ⟨rfl, rfl, rfl, rfl⟩⟩, ⟨_, rfl, rfl⟩, ⟨_, rfl, ⟨rfl, rfl⟩⟩, ⟨_, rfl, rfl⟩, ⟨_, rfl, rfl⟩, ⟨_, rfl, ⟨rfl, rfl⟩⟩, ⟨_, rfl, rfl⟩, ⟨_, rfl, rfl⟩, trivial⟩ ⟨⟨_, rfl, rfl, .inl ⟨rfl, plain_of rfl⟩⟩, rfl, ⟨_, rfl, rfl, .inr ⟨_, _, rfl, ⟨_, _, rfl, rfl, ⟨_, _, rfl, rfl, ⟨_, _, rfl, ⟨rfl, rfl, rfl, rfl⟩, rfl⟩⟩⟩, rfl⟩⟩, rfl, ⟨_, rfl, rfl, .inl ⟨rfl, okI.plainO _⟩⟩, rfl, trivial⟩ rfl) ?_ ?_
      · intro x2 o h
        refine ac_seq ?_
        refine ac_region ?_
        refine aops_eff (w_cmp rfl rfl rfl) rfl rfl rfl ?_
        refine aops_nil ?_
        refine then_n ?_
        refine ac_seq ?_
        rcases cb h with ⟨q4, h⟩ | ⟨q4, h⟩
        · refine ac_condT rfl q4 ?_
          refine ac_skip ?_
          refine then_n ?_
          refine ac_seq ?_
          refine ac_block ?_
          refine ac_seq ?_
          refine ac_region ?_
          refine aops_eff (eff_move rfl) rfl rfl rfl ?_
          obtain ⟨v5, hv5, h⟩ := ob h
          refine aops_eff (x_at_list TT_ok hv5 rfl rfl rfl rfl rfl rfl) rfl rfl rfl ?_
          refine aops_eff (w_load_ref TT_ok rfl rfl rfl rfl rfl rfl) rfl rfl rfl ?_
          refine aops_eff (eff_assign rfl) rfl rfl rfl ?_
          refine aops_eff (eff_assign rfl) rfl rfl rfl ?_
          refine aops_nil ?_
          refine then_n ?_
          refine ac_region ?_
          refine aops_eff (w_field_ptr TT_ok rfl rfl rfl rfl rfl rfl rfl) rfl rfl rfl ?_
          refine aops_eff (w_load_ptr TT_ok rfl rfl rfl rfl rfl rfl rfl) rfl rfl rfl ?_
          refine aops_eff (eff_move rfl) rfl rfl rfl ?_
          refine aops_eff (w_field_ptr TT_ok rfl rfl rfl rfl rfl rfl rfl) rfl rfl rfl ?_
          refine aops_eff (w_load_ptr TT_ok rfl rfl rfl rfl rfl rfl rfl) rfl rfl rfl ?_
          refine aops_eff (x_mul rfl rfl) rfl rfl rfl ?_
          refine aops_eff (eff_move rfl) rfl rfl rfl ?_
          refine aops_eff (x_add rfl rfl) rfl rfl rfl ?_
          refine aops_eff (eff_move rfl) rfl rfl rfl ?_
          obtain ⟨v6, hv6, h⟩ := ob h
          refine aops_eff (x_at_own TT_ok (atL_nn hv6) (atL_lt hv6) rfl rfl rfl rfl rfl rfl rfl) rfl rfl rfl ?_
          refine aops_eff (x_store TT_ok okIo (u := v5) (atL_get hv6) rfl rfl rfl rfl rfl rfl) rfl rfl rfl ?_
          refine aops_nil ?_
          refine block_n ?_
          refine then_n ?_
          refine ac_ent (t := mkS [(4, .ptr 0 0 0), (5, .ptr 1 0 0), (6, .int x1.2), (14, .list 1 (List.map (eLs 1 eI) a1)), (15, .int (a1.length : Int)), (16, .int x1.2), (21, .list 1 (List.map eI v3)), (22, .int (v3.length : Int)), (23, .int x2.2)] [(0, ⟨3, [[.int 0, .int 0, .nil 1]]⟩), (1, ⟨3, [[.int v1.rows, .int v1.cols, .own 2 0 ((x2.1.set ((wr ((wr (x2.2 * v1.cols)) + x1.2)).toNat) v5).length)]]⟩), (2, ⟨1, List.map (ow eI) (x2.1.set ((wr ((wr (x2.2 * v1.cols)) + x1.2)).toNat) v5)⟩)] 3 [3, 4, 5, 6, 7, 8, 9, 10, 11, 12, 13, 14, 15, 16]) (ent_mk (σ := sg [(0, 0), (1, 1), (2, 2)]) ⟨⟨_, rfl, ⟨rfl, rfl, rfl, rfl⟩⟩, ⟨_, rfl, ⟨rfl, rfl, rfl, rfl⟩⟩, ⟨_, rfl, rfl⟩, ⟨_, rfl, ⟨rfl, rfl⟩⟩, ⟨_, rfl, rfl⟩, ⟨_, rfl, rfl⟩, ⟨_, rfl, ⟨rfl, rfl⟩⟩, ⟨_, rfl, rfl⟩, ⟨_, rfl, rfl⟩, trivial⟩ ⟨⟨_, rfl, rfl, .inl ⟨rfl, plain_of rfl⟩⟩, rfl, ⟨_, rfl, rfl, .inr ⟨_, _, rfl, ⟨_, _, rfl, rfl, ⟨_, _, rfl, rfl, ⟨_, _, rfl, ⟨rfl, rfl, (by simp only [len_map, List.length_append, List.length_set, List.length_replicate, List.length_cons, List.length_nil]), rfl⟩, rfl⟩⟩⟩, rfl⟩⟩, rfl, ⟨_, rfl, rfl, .inl ⟨rfl, okI.plainO _⟩⟩, rfl, trivial⟩ rfl) ?_
          refine ac_region ?_
          refine aops_eff (x_add rfl rfl) rfl rfl rfl ?_
          refine aops_eff (eff_move rfl) rfl rfl rfl ?_
          refine aops_nil ?_
          refine then_n ?_
          obtain rfl := so h
          exact ⟨_, rfl, (ent_mk (σ := sg [(0, 0), (1, 1), (2, 2)]) ⟨⟨_, rfl, ⟨rfl, rfl, rfl, rfl⟩⟩, ⟨_, rfl, ⟨rfl, rfl, rfl, rfl⟩⟩, ⟨_, rfl, rfl⟩, ⟨_, rfl, ⟨rfl, rfl⟩⟩, ⟨_, rfl, rfl⟩, ⟨_, rfl, rfl⟩, ⟨_, rfl, ⟨rfl, rfl⟩⟩, ⟨_, rfl, rfl⟩, ⟨_, rfl, rfl⟩, trivial⟩ ⟨⟨_, rfl, rfl, .inl ⟨rfl, plain_of rfl⟩⟩, rfl, ⟨_, rfl, rfl, .inr ⟨_, _, rfl, ⟨_, _, rfl, rfl, ⟨_, _, rfl, rfl, ⟨_, _, rfl, ⟨rfl, rfl, rfl, rfl⟩, rfl⟩⟩⟩, rfl⟩⟩, rfl, ⟨_, rfl, rfl, .inl ⟨rfl, okI.plainO _⟩⟩, rfl, trivial⟩ rfl)⟩
        · refine ac_condF rfl q4 ?_
          refine ac_exit ?_
          refine then_exit ?_
          refine then_exit ?_
          obtain rfl := so h
          exact ⟨_, rfl, rfl, (ent_mk (σ := sg [(0, 0), (1, 1), (2, 2)]) ⟨⟨_, rfl, ⟨rfl, rfl, rfl, rfl⟩⟩, ⟨_, rfl, ⟨rfl, rfl, rfl, rfl⟩⟩, ⟨_, rfl, ⟨rfl, rfl⟩⟩, ⟨_, rfl, rfl⟩, ⟨_, rfl, rfl⟩, trivial⟩ ⟨⟨_, rfl, rfl, .inl ⟨rfl, plain_of rfl⟩⟩, rfl, ⟨_, rfl, rfl, .inr ⟨_, _, rfl, ⟨_, _, rfl, rfl, ⟨_, _, rfl, rfl, ⟨_, _, rfl, ⟨rfl, rfl, rfl, rfl⟩, rfl⟩⟩⟩, rfl⟩⟩, rfl, ⟨_, rfl, rfl, .inl ⟨rfl, okI.plainO _⟩⟩, rfl, trivial⟩ rfl)⟩
      · rintro e t ⟨rfl, hent⟩
        refine block_here ?_
        refine block_n ?_
        refine then_n ?_
        refine ac_ent hent ?_
        refine ac_region ?_
        refine aops_eff (x_add rfl rfl) rfl rfl rfl ?_
        refine aops_eff (eff_move rfl) rfl rfl rfl ?_
        refine aops_nil ?_
        refine then_n ?_
        obtain rfl := so h
        exact ⟨_, rfl, (ent_mk (σ := sg [(0, 0), (1, 1), (2, 2)]) ⟨⟨_, rfl, ⟨rfl, rfl, rfl, rfl⟩⟩, ⟨_, rfl, ⟨rfl, rfl, rfl, rfl⟩⟩, ⟨_, rfl, ⟨rfl, rfl⟩⟩, ⟨_, rfl, rfl⟩, ⟨_, rfl, rfl⟩, trivial⟩ ⟨⟨_, rfl, rfl, .inl ⟨rfl, plain_of rfl⟩⟩, rfl, ⟨_, rfl, rfl, .inr ⟨_, _, rfl, ⟨_, _, rfl, rfl, ⟨_, _, rfl, rfl, ⟨_, _, rfl, ⟨rfl, rfl, rfl, rfl⟩, rfl⟩⟩⟩, rfl⟩⟩, rfl, ⟨_, rfl, rfl, .inl ⟨rfl, okI.plainO _⟩⟩, rfl, trivial⟩ rfl)⟩
    · refine ac_condF rfl q2 ?_
      refine ac_exit ?_
      refine then_exit ?_
      refine then_exit ?_
      obtain rfl := so h
      exact ⟨_, rfl, rfl, (ent_mk (σ := sg [(0, 0), (1, 1), (2, 2)]) ⟨⟨_, rfl, ⟨rfl, rfl, rfl, rfl⟩⟩, ⟨_, rfl, ⟨rfl, rfl, rfl, rfl⟩⟩, trivial⟩ ⟨⟨_, rfl, rfl, .inl ⟨rfl, plain_of rfl⟩⟩, rfl, ⟨_, rfl, rfl, .inr ⟨_, _, rfl, ⟨_, _, rfl, rfl, ⟨_, _, rfl, rfl, ⟨_, _, rfl, ⟨rfl, rfl, rfl, rfl⟩, rfl⟩⟩⟩, rfl⟩⟩, rfl, ⟨_, rfl, rfl, .inl ⟨rfl, okI.plainO _⟩⟩, rfl, trivial⟩ rfl)⟩
  · rintro e t ⟨rfl, hent⟩
    refine block_here ?_
    refine then_n ?_
    refine ac_ent hent ?_
    refine ac_seq ?_
    refine ac_region ?_
    refine aops_eff (w_load_ptr TT_ok rfl rfl rfl rfl rfl rfl rfl) rfl rfl rfl ?_
    refine aops_eff (w_store TT_ok rfl rfl rfl rfl rfl rfl rfl rfl) rfl rfl rfl ?_
    refine aops_nil ?_
    refine then_n ?_
    refine ac_ret ?_
    obtain rfl := so h
    exact ret_mk rfl rfl rfl (xz_agg (x1_cons (rfl) (x1_cons (rfl) (x1_cons (x_f1 okI rfl rfl) x1_nil))))

noncomputable def m_impl_boundaries_L1 (a0 : Rp) (a1 : Rp) (v1 : (List Mt)) (v2 : (List Int)) (x1 : ((List (List Int)) × Int)) : Option (((List (List Int)) × Int) ⊕ (List (List Int))) :=
  bif decide (x1.2 < ((v2.length : Nat) : Int)) then
    (bif (decide (0 ≤ ((v2.length : Nat) : Int)) && decide (((v2.length : Nat) : Int) ≤ 1048576)) then
      (Option.bind (atL (List.replicate (((v2.length : Nat) : Int).toNat) (0 : Int)) x1.2) fun v4 =>
      Option.bind (m_impl_shaped v1 ((List.replicate (((v2.length : Nat) : Int).toNat) (0 : Int)).set x1.2.toNat 1)) fun v5 =>
      Option.bind (m_impl_coboundary a0 a1 v5) fun v6 =>
      Option.bind (m_impl_flat v6) fun v7 =>
      bif decide (x1.1.length + 1 ≤ 4294967296) then
        (some (.inl ((x1.1 ++ [v7]), wr (x1.2 + 1))))
      else none)
    else none)
  else
    (some (.inr x1.1))

noncomputable def m_impl_boundaries (a0 : Rp) (a1 : Rp) : Option Mt :=
  Option.bind (m_impl_zeros a0 a1) fun v1 =>
  Option.bind (m_impl_flat v1) fun v2 =>
  Option.bind (Lp (m_impl_boundaries_L1 a0 a1 v1 v2) ([], 0)) fun y10 =>
  Option.bind (m_impl_cocycleZeros a0 a1) fun v11 =>
  Option.bind (m_impl_flat v11) fun v12 =>
  Option.bind (m_impl_fromColumns ((v12.length : Nat) : Int) y10) fun v13 =>
  some (v13)

theorem c_impl_boundaries (a0 : Rp) (a1 : Rp) (r : Mt) (h : m_impl_boundaries a0 a1 = some r) : HasC Try.prog 98 [.agg (eR a0), .agg (eR a1)] (.agg (eM r)) := by
  refine hasC_mk TT_ok (rvs := [.cell 4 81]) (ns := [0, 1, 2, 3, 4, 5, 6, 7, 8, 9, 10, 11, 12, 13]) Try.func98 rfl rfl Try.ntmps98 rfl rfl rfl ?_
  refine ac_seq ?_
  refine ac_region ?_
  refine aops_eff (w_box rfl rfl rfl rfl) rfl rfl rfl ?_
  refine aops_eff (w_box rfl rfl rfl rfl) rfl rfl rfl ?_
  refine aops_eff (w_alloc TT_ok rfl rfl) rfl rfl rfl ?_
  refine aops_nil ?_
  refine then_n ?_
  refine ac_seq ?_
  refine ac_region ?_
  refine aops_eff (w_load_ptr TT_ok rfl rfl rfl rfl rfl rfl rfl) rfl rfl rfl ?_
  refine aops_eff (w_load_ptr TT_ok rfl rfl rfl rfl rfl rfl rfl) rfl rfl rfl ?_
  obtain ⟨v1, hv1, h⟩ := ob h
  refine aops_eff (AEff.conv (w_call0 (x := .own 3 0 (List.map eM v1).length) (nb := [(3, ⟨3, absEs (List.map eM v1)⟩)]) (c_impl_zeros a0 a1 v1 hv1) rfl (by rfl) rfl rfl (okMt.good _) (va_cons (va_agg' (v1_cons (v1_same rfl) (v1_cons (v1_same rfl) (v1_cons (v1_same rfl) (v1_cons (v1_same rfl) (v1_cons (v1_same rfl) (v1_cons (v1_same rfl) v1_nil))))))) (va_cons (va_agg' (v1_cons (v1_same rfl) (v1_cons (v1_same rfl) (v1_cons (v1_same rfl) (v1_cons (v1_same rfl) (v1_cons (v1_same rfl) (v1_cons (v1_same rfl) v1_nil))))))) va_nil))) (v' := .own 3 0 v1.length) (ed' := [(3, some ⟨3, List.map (ow eM) v1⟩)]) (by simp only [len_map]) (ed_ok (nb' := [(3, ⟨3, List.map (ow eM) v1⟩)]) (by simp only [abs_map]))) rfl rfl rfl ?_
  refine aops_eff (eff_assign rfl) rfl rfl rfl ?_
  refine aops_nil ?_
  refine then_n ?_
  refine ac_seq ?_
  refine ac_region ?_
  refine aops_eff (eff_move rfl) rfl rfl rfl ?_
  obtain ⟨v2, hv2, h⟩ := ob h
  refine aops_eff (AEff.conv (w_call0 (x := .own 4 0 (List.map eI v2).length) (nb := [(4, ⟨1, absEs (List.map eI v2)⟩)]) (c_impl_flat v1 v2 hv2) rfl (by rfl) rfl rfl (okI.good _) (va_cons (va_T okMt rfl rfl) va_nil)) (v' := .own 4 0 v2.length) (ed' := [(4, some ⟨1, List.map (ow eI) v2⟩)]) (by simp only [len_map]) (ed_ok (nb' := [(4, ⟨1, List.map (ow eI) v2⟩)]) (by simp only [abs_map]))) rfl rfl rfl ?_
  refine aops_eff (w_len_own TT_ok rfl rfl rfl rfl) rfl rfl rfl ?_
  refine aops_eff (eff_assign rfl) rfl rfl rfl ?_
  refine aops_nil ?_
  refine then_n ?_
  refine ac_seq ?_
  refine ac_region ?_
  refine aops_eff (eff_assign rfl) rfl rfl rfl ?_
  refine aops_nil ?_
  refine then_n ?_
  refine ac_ent (t := mkS [(2, .ptr 0 0 0), (3, .ptr 1 0 0), (4, .ptr 2 0 0), (5, .own 3 0 v1.length), (6, .int ((v2.length : Nat) : Int)), (7, .nil 0)] [(0, ⟨6, [[.int a0.p, .int a0.q.n, .list 1 (List.map eI a0.q.src), .list 1 (List.map eI a0.q.tgt), .list 1 (List.map eI a0.dims), .list 3 (List.map eM a0.maps)]]⟩), (1, ⟨6, [[.int a1.p, .int a1.q.n, .list 1 (List.map eI a1.q.src), .list 1 (List.map eI a1.q.tgt), .list 1 (List.map eI a1.dims), .list 3 (List.map eM a1.maps)]]⟩), (2, ⟨3, [[.int 0, .int 0, .nil 1]]⟩), (3, ⟨3, List.map (ow eM) v1⟩)] 5 [5, 6, 7, 8, 9, 10, 11, 12, 13, 14, 15, 16, 17, 18]) (ent_mk (σ := sg [(0, 0), (1, 1), (2, 2), (3, 3)]) ⟨⟨_, rfl, ⟨rfl, rfl, rfl, rfl⟩⟩, ⟨_, rfl, ⟨rfl, rfl, rfl, rfl⟩⟩, ⟨_, rfl, ⟨rfl, rfl, rfl, rfl⟩⟩, ⟨_, rfl, ⟨rfl, rfl, rfl, rfl⟩⟩, ⟨_, rfl, rfl⟩, ⟨_, rfl, trivial⟩, trivial⟩ ⟨⟨_, rfl, rfl, .inl ⟨rfl, plain_of rfl⟩⟩, rfl, ⟨_, rfl, rfl, .inl ⟨rfl, plain_of rfl⟩⟩, rfl, ⟨_, rfl, rfl, .inl ⟨rfl, plain_of rfl⟩⟩, rfl, ⟨_, rfl, rfl, .inl ⟨rfl, okMt.plainO _⟩⟩, rfl, trivial⟩ rfl) ?_
  refine ac_seq ?_
  refine ac_seq ?_
  refine ac_region ?_
  refine aops_eff (eff_move rfl) rfl rfl rfl ?_
  refine aops_eff (eff_move rfl) rfl rfl rfl ?_
  refine aops_nil ?_
  refine then_n ?_
  refine ac_block ?_
  obtain ⟨y10, hy10, h⟩ := ob h
  refine ac_Lp (body := (m_impl_boundaries_L1 a0 a1 v1 v2)) hy10 (fun (x1 : ((List (List Int)) × Int)) => mkS [(2, .ptr 0 0 0), (3, .ptr 1 0 0), (4, .ptr 2 0 0), (5, .own 3 0 v1.length), (6, .int ((v2.length : Nat) : Int)), (7, .own 4 0 x1.1.length), (16, .int ((v2.length : Nat) : Int)), (17, .int x1.2)] [(0, ⟨6, [[.int a0.p, .int a0.q.n, .list 1 (List.map eI a0.q.src), .list 1 (List.map eI a0.q.tgt), .list 1 (List.map eI a0.dims), .list 3 (List.map eM a0.maps)]]⟩), (1, ⟨6, [[.int a1.p, .int a1.q.n, .list 1 (List.map eI a1.q.src), .list 1 (List.map eI a1.q.tgt), .list 1 (List.map eI a1.dims), .list 3 (List.map eM a1.maps)]]⟩), (2, ⟨3, [[.int 0, .int 0, .nil 1]]⟩), (3, ⟨3, List.map (ow eM) v1⟩), (4, ⟨1, List.map (ow (eLs 1 eI)) x1.1⟩)] 5 [5, 6, 7, 8, 9, 10, 11, 12, 13, 14, 15, 16, 17, 18]) (fun r e t => e = .exit 0 ∧ Ent t (mkS [(2, .ptr 0 0 0), (3, .ptr 1 0 0), (4, .ptr 2 0 0), (7, .own 3 0 r.length)] [(0, ⟨6, [[.int a0.p, .int a0.q.n, .list 1 (List.map eI a0.q.src), .list 1 (List.map eI a0.q.tgt), .list 1 (List.map eI a0.dims), .list 3 (List.map eM a0.maps)]]⟩), (1, ⟨6, [[.int a1.p, .int a1.q.n, .list 1 (List.map eI a1.q.src), .list 1 (List.map eI a1.q.tgt), .list 1 (List.map eI a1.dims), .list 3 (List.map eM a1.maps)]]⟩), (2, ⟨3, [[.int 0, .int 0, .nil 1]]⟩), (3, ⟨1, List.map (ow (eLs 1 eI)) r⟩)] 4 [4, 5, 6, 7, 8, 9, 10, 11, 12, 13, 14, 15, 16, 17])) (ent_mk (σ := sg [(0, 0), (1, 1), (2, 2), (3, 3)]) ⟨⟨_, rfl, ⟨rfl, rfl, rfl, rfl⟩⟩, ⟨_, rfl, ⟨rfl, rfl, rfl, rfl⟩⟩, ⟨_, rfl, ⟨rfl, rfl, rfl, rfl⟩⟩, ⟨_, rfl, ⟨rfl, rfl, rfl, rfl⟩⟩, ⟨_, rfl, rfl⟩, ⟨_, rfl, ⟨rfl, rfl, rfl, rfl⟩⟩, ⟨_, rfl, rfl⟩, ⟨_, rfl, rfl⟩, trivial⟩ ⟨⟨_, rfl, rfl, .inl ⟨rfl, plain_of rfl⟩⟩, rfl, ⟨_, rfl, rfl, .inl ⟨rfl, plain_of rfl⟩⟩, rfl, ⟨_, rfl, rfl, .inl ⟨rfl, plain_of rfl⟩⟩, rfl, ⟨_, rfl, rfl, .inl ⟨rfl, okMt.plainO _⟩⟩, rfl, rfl, rfl, trivial⟩ rfl) ?_ ?_
  · intro x1 o h
    refine ac_seq ?_
    refine ac_region ?_
    refine aops_eff (w_cmp rfl rfl rfl) rfl rfl rfl ?_
    refine aops_nil ?_
    refine then_n ?_
    refine ac_seq ?_
    rcases cb h with ⟨q3, h⟩ | ⟨q3, h⟩
    · refine ac_condT rfl q3 ?_
      refine ac_skip ?_
      refine then_n ?_
      refine ac_seq ?_
      refine ac_block ?_
      refine ac_seq ?_
      refine ac_region ?_
      refine aops_eff (eff_move rfl) rfl rfl rfl ?_
      refine aops_eff (eff_assign rfl) rfl rfl rfl ?_
      refine aops_nil ?_
      refine then_n ?_
      refine ac_seq ?_
      refine ac_region ?_
      refine aops_eff (eff_move rfl) rfl rfl rfl ?_
      obtain ⟨q9, h⟩ := cg h
      refine aops_eff (x_make TT_ok q9 rfl rfl rfl rfl rfl rfl rfl rfl) rfl rfl rfl ?_
      refine aops_eff (eff_assign rfl) rfl rfl rfl ?_
      refine aops_nil ?_
      refine then_n ?_
      refine ac_ent (t := mkS [(2, .ptr 0 0 0), (3, .ptr 1 0 0), (4, .ptr 2 0 0), (5, .own 3 0 v1.length), (6, .int ((v2.length : Nat) : Int)), (7, .own 4 0 x1.1.length), (8, .int x1.2), (9, .own 5 0 ((List.replicate (((v2.length : Nat) : Int).toNat) (0 : Int)).length)), (16, .int ((v2.length : Nat) : Int)), (17, .int x1.2)] [(0, ⟨6, [[.int a0.p, .int a0.q.n, .list 1 (List.map eI a0.q.src), .list 1 (List.map eI a0.q.tgt), .list 1 (List.map eI a0.dims), .list 3 (List.map eM a0.maps)]]⟩), (1, ⟨6, [[.int a1.p, .int a1.q.n, .list 1 (List.map eI a1.q.src), .list 1 (List.map eI a1.q.tgt), .list 1 (List.map eI a1.dims), .list 3 (List.map eM a1.maps)]]⟩), (2, ⟨3, [[.int 0, .int 0, .nil 1]]⟩), (3, ⟨3, List.map (ow eM) v1⟩), (4, ⟨1, List.map (ow (eLs 1 eI)) x1.1⟩), (5, ⟨1, List.map (ow eI) (List.replicate (((v2.length : Nat) : Int).toNat) (0 : Int))⟩)] 6 [6, 7, 8, 9, 10, 11, 12, 13, 14, 15, 16, 17, 18, 19]) (ent_mk (σ := sg [(0, 0), (1, 1), (2, 2), (3, 3), (4, 4), (5, 5)]) ⟨⟨_, rfl, ⟨rfl, rfl, rfl, rfl⟩⟩, ⟨_, rfl, ⟨rfl, rfl, rfl, rfl⟩⟩, ⟨_, rfl, ⟨rfl, rfl, rfl, rfl⟩⟩, ⟨_, rfl, ⟨rfl, rfl, rfl, rfl⟩⟩, ⟨_, rfl, rfl⟩, ⟨_, rfl, ⟨rfl, rfl, rfl, rfl⟩⟩, ⟨_, rfl, rfl⟩, ⟨_, rfl, ⟨rfl, rfl, (by simp only [len_map, List.length_append, List.length_set, List.length_replicate, List.length_cons, List.length_nil]), rfl⟩⟩, ⟨_, rfl, rfl⟩, ⟨_, rfl, rfl⟩, trivial⟩ ⟨⟨_, rfl, rfl, .inl ⟨rfl, plain_of rfl⟩⟩, rfl, ⟨_, rfl, rfl, .inl ⟨rfl, plain_of rfl⟩⟩, rfl, ⟨_, rfl, rfl, .inl ⟨rfl, plain_of rfl⟩⟩, rfl, ⟨_, rfl, rfl, .inl ⟨rfl, okMt.plainO _⟩⟩, rfl, ⟨_, rfl, rfl, .inl ⟨rfl, okLs.plainO _⟩⟩, rfl, ⟨_, rfl, rfl, .inl ⟨rep_eq (e := eI) (z := 0) _, okI.plainO _⟩⟩, rfl, trivial⟩ rfl) ?_
      refine ac_seq ?_
      refine ac_region ?_
      refine aops_eff (eff_move rfl) rfl rfl rfl ?_
      refine aops_eff (eff_move rfl) rfl rfl rfl ?_
      obtain ⟨v4, hv4, h⟩ := ob h
      refine aops_eff (x_at_own TT_ok (atL_nn hv4) (atL_lt hv4) rfl rfl rfl rfl rfl rfl rfl) rfl rfl rfl ?_
      refine aops_eff (x_store TT_ok okIo (u := 1) (atL_get hv4) rfl rfl rfl rfl rfl rfl) rfl rfl rfl ?_
      refine aops_nil ?_
      refine then_n ?_
      refine ac_region_draw MIXX ?_
      refine aops_eff (eff_move rfl) rfl rfl rfl ?_
      refine aops_eff (w_load_ptr TT_ok rfl rfl rfl rfl rfl rfl rfl) rfl rfl rfl ?_
      refine aops_eff (w_load_ptr TT_ok rfl rfl rfl rfl rfl rfl rfl) rfl rfl rfl ?_
      refine aops_eff (eff_move rfl) rfl rfl rfl ?_
      refine aops_eff (eff_move rfl) rfl rfl rfl ?_
      obtain ⟨v5, hv5, h⟩ := ob h
      refine aops_eff (AEff.conv (w_call0 (x := .own 6 0 (List.map eM v5).length) (nb := [(6, ⟨3, absEs (List.map eM v5)⟩)]) (c_impl_shaped v1 ((List.replicate (((v2.length : Nat) : Int).toNat) (0 : Int)).set x1.2.toNat 1) v5 hv5) rfl (by rfl) rfl rfl (okMt.good _) (va_cons (va_T okMt rfl rfl) (va_cons (va_T okI rfl (by first | rfl | simp only [List.length_set])) va_nil))) (v' := .own 6 0 v5.length) (ed' := [(6, some ⟨3, List.map (ow eM) v5⟩)]) (by simp only [len_map]) (ed_ok (nb' := [(6, ⟨3, List.map (ow eM) v5⟩)]) (by simp only [abs_map]))) rfl rfl rfl ?_
      obtain ⟨v6, hv6, h⟩ := ob h
      refine aops_eff (AEff.conv (w_call0 (x := .own 7 0 (List.map eM v6).length) (nb := [(7, ⟨3, absEs (List.map eM v6)⟩)]) (c_impl_coboundary a0 a1 v5 v6 hv6) rfl (by rfl) rfl rfl (okMt.good _) (va_cons (va_agg' (v1_cons (v1_same rfl) (v1_cons (v1_same rfl) (v1_cons (v1_same rfl) (v1_cons (v1_same rfl) (v1_cons (v1_same rfl) (v1_cons (v1_same rfl) v1_nil))))))) (va_cons (va_agg' (v1_cons (v1_same rfl) (v1_cons (v1_same rfl) (v1_cons (v1_same rfl) (v1_cons (v1_same rfl) (v1_cons (v1_same rfl) (v1_cons (v1_same rfl) v1_nil))))))) (va_cons (va_T okMt rfl rfl) va_nil)))) (v' := .own 7 0 v6.length) (ed' := [(7, some ⟨3, List.map (ow eM) v6⟩)]) (by simp only [len_map]) (ed_ok (nb' := [(7, ⟨3, List.map (ow eM) v6⟩)]) (by simp only [abs_map]))) rfl rfl rfl ?_
      obtain ⟨v7, hv7, h⟩ := ob h
      refine aops_eff (AEff.conv (w_call0 (x := .own 8 0 (List.map eI v7).length) (nb := [(8, ⟨1, absEs (List.map eI v7)⟩)]) (c_impl_flat v6 v7 hv7) rfl (by rfl) rfl rfl (okI.good _) (va_cons (va_T okMt rfl rfl) va_nil)) (v' := .own 8 0 v7.length) (ed' := [(8, some ⟨1, List.map (ow eI) v7⟩)]) (by simp only [len_map]) (ed_ok (nb' := [(8, ⟨1, List.map (ow eI) v7⟩)]) (by simp only [abs_map]))) rfl rfl rfl ?_
      refine aops_eff (w_lit TT_ok rfl rfl rfl rfl rfl rfl rfl rfl rfl rfl rfl rfl) rfl rfl rfl ?_
      obtain ⟨q8, h⟩ := cg h
      refine aops_eff (x_app1 TT_ok (l := x1.1) (c := [.own 8 0 v7.length]) q8 rfl rfl rfl rfl rfl rfl rfl rfl rfl rfl rfl rfl rfl rfl) rfl rfl rfl ?_
      refine aops_eff (eff_assign rfl) rfl rfl rfl ?_
      refine aops_nil ?_
      refine ⟨by kernel_rfl, ?_⟩
      refine block_n ?_
      refine then_n ?_
      refine ac_ent (t := mkS [(2, .ptr 0 0 0), (3, .ptr 1 0 0), (4, .ptr 2 0 0), (5, .own 3 0 v1.length), (6, .int ((v2.length : Nat) : Int)), (7, .own 10 0 ((x1.1 ++ [v7]).length)), (16, .int ((v2.length : Nat) : Int)), (17, .int x1.2)] [(0, ⟨6, [[.int a0.p, .int a0.q.n, .list 1 (List.map eI a0.q.src), .list 1 (List.map eI a0.q.tgt), .list 1 (List.map eI a0.dims), .list 3 (List.map eM a0.maps)]]⟩), (1, ⟨6, [[.int a1.p, .int a1.q.n, .list 1 (List.map eI a1.q.src), .list 1 (List.map eI a1.q.tgt), .list 1 (List.map eI a1.dims), .list 3 (List.map eM a1.maps)]]⟩), (2, ⟨3, [[.int 0, .int 0, .nil 1]]⟩), (3, ⟨3, List.map (ow eM) v1⟩), (10, ⟨1, List.map (ow (eLs 1 eI)) (x1.1 ++ [v7])⟩)] 11 [11, 12, 13, 14, 15, 16, 17, 18, 19, 20, 21, 22, 23, 24]) (Ent.trans (ent_absL (b := 10) (b' := 8) (j := 0) (es' := List.map eI v7) rfl rfl rfl rfl (len_map _ _) (okI.frzs _)) (ent_mk (σ := sg [(0, 0), (1, 1), (2, 2), (3, 3), (10, 10)]) ⟨⟨_, rfl, ⟨rfl, rfl, rfl, rfl⟩⟩, ⟨_, rfl, ⟨rfl, rfl, rfl, rfl⟩⟩, ⟨_, rfl, ⟨rfl, rfl, rfl, rfl⟩⟩, ⟨_, rfl, ⟨rfl, rfl, rfl, rfl⟩⟩, ⟨_, rfl, rfl⟩, ⟨_, rfl, ⟨rfl, rfl, (by simp only [len_map, List.length_append, List.length_set, List.length_replicate, List.length_cons, List.length_nil]), rfl⟩⟩, ⟨_, rfl, rfl⟩, ⟨_, rfl, rfl⟩, trivial⟩ ⟨⟨_, rfl, rfl, .inl ⟨rfl, plain_of rfl⟩⟩, rfl, ⟨_, rfl, rfl, .inl ⟨rfl, plain_of rfl⟩⟩, rfl, ⟨_, rfl, rfl, .inl ⟨rfl, plain_of rfl⟩⟩, rfl, ⟨_, rfl, rfl, .inl ⟨rfl, okMt.plainO _⟩⟩, rfl, ⟨_, rfl, rfl, .inl ⟨app_eq v7 rfl, okLs.plainO _⟩⟩, rfl, trivial⟩ rfl)) ?_
      refine ac_region ?_
      refine aops_eff (x_add rfl rfl) rfl rfl rfl ?_
      refine aops_eff (eff_move rfl) rfl rfl rfl ?_
      refine aops_nil ?_
      refine then_n ?_
      obtain rfl := so h
      exact ⟨_, rfl, (ent_mk (σ := sg [(0, 0), (1, 1), (2, 2), (3, 3), (4, 10)]) ⟨⟨_, rfl, ⟨rfl, rfl, rfl, rfl⟩⟩, ⟨_, rfl, ⟨rfl, rfl, rfl, rfl⟩⟩, ⟨_, rfl, ⟨rfl, rfl, rfl, rfl⟩⟩, ⟨_, rfl, ⟨rfl, rfl, rfl, rfl⟩⟩, ⟨_, rfl, rfl⟩, ⟨_, rfl, ⟨rfl, rfl, rfl, rfl⟩⟩, ⟨_, rfl, rfl⟩, ⟨_, rfl, rfl⟩, trivial⟩ ⟨⟨_, rfl, rfl, .inl ⟨rfl, plain_of rfl⟩⟩, rfl, ⟨_, rfl, rfl, .inl ⟨rfl, plain_of rfl⟩⟩, rfl, ⟨_, rfl, rfl, .inl ⟨rfl, plain_of rfl⟩⟩, rfl, ⟨_, rfl, rfl, .inl ⟨rfl, okMt.plainO _⟩⟩, rfl, ⟨_, rfl, rfl, .inl ⟨rfl, okLs.plainO _⟩⟩, rfl, trivial⟩ rfl)⟩
    · refine ac_condF rfl q3 ?_
      refine ac_exit ?_
      refine then_exit ?_
      refine then_exit ?_
      obtain rfl := so h
      exact ⟨_, rfl, rfl, (ent_mk (σ := sg [(0, 0), (1, 1), (2, 2), (3, 4)]) ⟨⟨_, rfl, ⟨rfl, rfl, rfl, rfl⟩⟩, ⟨_, rfl, ⟨rfl, rfl, rfl, rfl⟩⟩, ⟨_, rfl, ⟨rfl, rfl, rfl, rfl⟩⟩, ⟨_, rfl, ⟨rfl, rfl, rfl, rfl⟩⟩, trivial⟩ ⟨⟨_, rfl, rfl, .inl ⟨rfl, plain_of rfl⟩⟩, rfl, ⟨_, rfl, rfl, .inl ⟨rfl, plain_of rfl⟩⟩, rfl, ⟨_, rfl, rfl, .inl ⟨rfl, plain_of rfl⟩⟩, rfl, ⟨_, rfl, rfl, .inl ⟨rfl, okLs.plainO _⟩⟩, rfl, trivial⟩ rfl)⟩
  · rintro e t ⟨rfl, hent⟩
    refine block_here ?_
    refine then_n ?_
    refine ac_ent hent ?_
    refine ac_seq ?_
    refine ac_region ?_
    refine aops_eff (w_load_ptr TT_ok rfl rfl rfl rfl rfl rfl rfl) rfl rfl rfl ?_
    refine aops_eff (w_load_ptr TT_ok rfl rfl rfl rfl rfl rfl rfl) rfl rfl rfl ?_
    obtain ⟨v11, hv11, h⟩ := ob h
    refine aops_eff (AEff.conv (w_call0 (x := .own 4 0 (List.map eM v11).length) (nb := [(4, ⟨3, absEs (List.map eM v11)⟩)]) (c_impl_cocycleZeros a0 a1 v11 hv11) rfl (by rfl) rfl rfl (okMt.good _) (va_cons (va_agg' (v1_cons (v1_same rfl) (v1_cons (v1_same rfl) (v1_cons (v1_same rfl) (v1_cons (v1_same rfl) (v1_cons (v1_same rfl) (v1_cons (v1_same rfl) v1_nil))))))) (va_cons (va_agg' (v1_cons (v1_same rfl) (v1_cons (v1_same rfl) (v1_cons (v1_same rfl) (v1_cons (v1_same rfl) (v1_cons (v1_same rfl) (v1_cons (v1_same rfl) v1_nil))))))) va_nil))) (v' := .own 4 0 v11.length) (ed' := [(4, some ⟨3, List.map (ow eM) v11⟩)]) (by simp only [len_map]) (ed_ok (nb' := [(4, ⟨3, List.map (ow eM) v11⟩)]) (by simp only [abs_map]))) rfl rfl rfl ?_
    obtain ⟨v12, hv12, h⟩ := ob h
    refine aops_eff (AEff.conv (w_call0 (x := .own 5 0 (List.map eI v12).length) (nb := [(5, ⟨1, absEs (List.map eI v12)⟩)]) (c_impl_flat v11 v12 hv12) rfl (by rfl) rfl rfl (okI.good _) (va_cons (va_T okMt rfl rfl) va_nil)) (v' := .own 5 0 v12.length) (ed' := [(5, some ⟨1, List.map (ow eI) v12⟩)]) (by simp only [len_map]) (ed_ok (nb' := [(5, ⟨1, List.map (ow eI) v12⟩)]) (by simp only [abs_map]))) rfl rfl rfl ?_
    refine aops_eff (w_len_own TT_ok rfl rfl rfl rfl) rfl rfl rfl ?_
    refine aops_eff (eff_move rfl) rfl rfl rfl ?_
    obtain ⟨v13, hv13, h⟩ := ob h
    refine aops_eff (AEff.conv (w_call0 (x := .agg [.int v13.rows, .int v13.cols, .own 6 0 (List.map eI v13.cells).length]) (nb := [(6, ⟨1, absEs (List.map eI v13.cells)⟩)]) (c_impl_fromColumns ((v12.length : Nat) : Int) y10 v13 hv13) rfl (by rfl) rfl rfl (g1_cons trivial (g1_cons trivial (g1_cons (okI.good _) g1_nil))) (va_cons (va_same rfl) (va_cons (va_T okLs rfl rfl) va_nil))) (v' := .agg [.int v13.rows, .int v13.cols, .own 6 0 v13.cells.length]) (ed' := [(6, some ⟨1, List.map (ow eI) v13.cells⟩)]) (by simp only [len_map]) (ed_ok (nb' := [(6, ⟨1, List.map (ow eI) v13.cells⟩)]) (by simp only [abs_map]))) rfl rfl rfl ?_
    refine aops_eff (w_store TT_ok rfl rfl rfl rfl rfl rfl rfl rfl) rfl rfl rfl ?_
    refine aops_nil ?_
    refine then_n ?_
    refine ac_ret ?_
    obtain rfl := so h
    exact ret_mk rfl rfl rfl (xz_agg (x1_cons (rfl) (x1_cons (rfl) (x1_cons (x_f1 okI rfl rfl) x1_nil))))

noncomputable def m_impl_homDim (a0 : Rp) (a1 : Rp) : Option Int :=
  Option.bind (m_impl_boundaries a0 a1) fun v1 =>
  Option.bind (m_impl_rank a0.p v1) fun v2 =>
  some (wr (v1.cols - v2))

theorem c_impl_homDim (a0 : Rp) (a1 : Rp) (r : Int) (h : m_impl_homDim a0 a1 = some r) : HasC Try.prog 43 [.agg (eR a0), .agg (eR a1)] (.int r) := by
  refine hasC_mk TT_ok (rvs := [.tmp 4]) (ns := [0, 1, 2, 3, 4, 5, 6, 7, 8, 9, 10, 11, 12, 13]) Try.func43 rfl rfl Try.ntmps43 rfl rfl rfl ?_
  refine ac_seq ?_
  refine ac_region ?_
  refine aops_eff (w_box rfl rfl rfl rfl) rfl rfl rfl ?_
  refine aops_eff (w_box rfl rfl rfl rfl) rfl rfl rfl ?_
  refine aops_eff (eff_assign rfl) rfl rfl rfl ?_
  refine aops_nil ?_
  refine then_n ?_
  refine ac_seq ?_
  refine ac_region ?_
  refine aops_eff (w_load_ptr TT_ok rfl rfl rfl rfl rfl rfl rfl) rfl rfl rfl ?_
  refine aops_eff (w_load_ptr TT_ok rfl rfl rfl rfl rfl rfl rfl) rfl rfl rfl ?_
  obtain ⟨v1, hv1, h⟩ := ob h
  refine aops_eff (AEff.conv (w_call0 (x := .agg [.int v1.rows, .int v1.cols, .own 2 0 (List.map eI v1.cells).length]) (nb := [(2, ⟨1, absEs (List.map eI v1.cells)⟩)]) (c_impl_boundaries a0 a1 v1 hv1) rfl (by rfl) rfl rfl (g1_cons trivial (g1_cons trivial (g1_cons (okI.good _) g1_nil))) (va_cons (va_agg' (v1_cons (v1_same rfl) (v1_cons (v1_same rfl) (v1_cons (v1_same rfl) (v1_cons (v1_same rfl) (v1_cons (v1_same rfl) (v1_cons (v1_same rfl) v1_nil))))))) (va_cons (va_agg' (v1_cons (v1_same rfl) (v1_cons (v1_same rfl) (v1_cons (v1_same rfl) (v1_cons (v1_same rfl) (v1_cons (v1_same rfl) (v1_cons (v1_same rfl) v1_nil))))))) va_nil))) (v' := .agg [.int v1.rows, .int v1.cols, .own 2 0 v1.cells.length]) (ed' := [(2, some ⟨1, List.map (ow eI) v1.cells⟩)]) (by simp only [len_map]) (ed_ok (nb' := [(2, ⟨1, List.map (ow eI) v1.cells⟩)]) (by simp only [abs_map]))) rfl rfl rfl ?_
  refine aops_eff (w_alloc TT_ok rfl rfl) rfl rfl rfl ?_
  refine aops_eff (w_store TT_ok rfl rfl rfl rfl rfl rfl rfl rfl) rfl rfl rfl ?_
  refine aops_nil ?_
  refine then_n ?_
  refine ac_seq ?_
  refine ac_region_draw MIXX ?_
  refine aops_eff (w_field_ptr TT_ok rfl rfl rfl rfl rfl rfl rfl) rfl rfl rfl ?_
  refine aops_eff (w_load_ptr TT_ok rfl rfl rfl rfl rfl rfl rfl) rfl rfl rfl ?_
  refine aops_eff (w_field_ptr TT_ok rfl rfl rfl rfl rfl rfl rfl) rfl rfl rfl ?_
  refine aops_eff (w_load_ptr TT_ok rfl rfl rfl rfl rfl rfl rfl) rfl rfl rfl ?_
  refine aops_eff (w_load_ptr TT_ok rfl rfl rfl rfl rfl rfl rfl) rfl rfl rfl ?_
  obtain ⟨v2, hv2, h⟩ := ob h
  refine aops_eff (w_call0s (c_impl_rank a0.p v1 v2 hv2) rfl (va_cons (va_same rfl) (va_cons (va_agg' (v1_cons (v1_same rfl) (v1_cons (v1_same rfl) (v1_cons (v1_T okI rfl rfl) v1_nil)))) va_nil))) rfl rfl rfl ?_
  refine aops_eff (x_sub rfl rfl) rfl rfl rfl ?_
  refine aops_eff (eff_assign rfl) rfl rfl rfl ?_
  refine aops_nil ?_
  refine ⟨by kernel_rfl, ?_⟩
  refine then_n ?_
  refine ac_ent (t := mkS [(4, .int (wr (v1.cols - v2)))] [] 4 [4, 5, 6, 7, 8, 9, 10, 11, 12, 13, 14, 15, 16, 17]) (ent_mk (σ := sg []) ⟨⟨_, rfl, rfl⟩, trivial⟩ trivial rfl) ?_
  refine ac_ret ?_
  obtain rfl := so h
  exact ret_mk rfl rfl rfl (fz_int rfl)

noncomputable def m_impl_HomDim (a0 : Rp) (a1 : Rp) : Option Int :=
  Option.bind (m_impl_fit a0 a1) fun v1 =>
  bif !v1 then
    (some ((-1)))
  else
    (Option.bind (m_impl_homDim a0 a1) fun v3 =>
    some (v3))

theorem c_impl_HomDim (a0 : Rp) (a1 : Rp) (r : Int) (h : m_impl_HomDim a0 a1 = some r) : HasC Try.prog 106 [.agg (eR a0), .agg (eR a1)] (.int r) := by
  refine hasC_mk TT_ok (rvs := [.tmp 4]) (ns := [0, 1, 2, 3, 4, 5, 6, 7, 8, 9, 10, 11, 12, 13]) Try.func106 rfl rfl Try.ntmps106 rfl rfl rfl ?_
  refine ac_seq ?_
  refine ac_region ?_
  refine aops_eff (w_box rfl rfl rfl rfl) rfl rfl rfl ?_
  refine aops_eff (w_box rfl rfl rfl rfl) rfl rfl rfl ?_
  refine aops_eff (eff_assign rfl) rfl rfl rfl ?_
  refine aops_nil ?_
  refine then_n ?_
  refine ac_seq ?_
  refine ac_seq ?_
  refine ac_region ?_
  refine aops_eff (w_load_ptr TT_ok rfl rfl rfl rfl rfl rfl rfl) rfl rfl rfl ?_
  refine aops_eff (w_load_ptr TT_ok rfl rfl rfl rfl rfl rfl rfl) rfl rfl rfl ?_
  obtain ⟨v1, hv1, h⟩ := ob h
  refine aops_eff (w_call0s (c_impl_fit a0 a1 v1 hv1) rfl (va_cons (va_agg' (v1_cons (v1_same rfl) (v1_cons (v1_same rfl) (v1_cons (v1_same rfl) (v1_cons (v1_same rfl) (v1_cons (v1_same rfl) (v1_cons (v1_same rfl) v1_nil))))))) (va_cons (va_agg' (v1_cons (v1_same rfl) (v1_cons (v1_same rfl) (v1_cons (v1_same rfl) (v1_cons (v1_same rfl) (v1_cons (v1_same rfl) (v1_cons (v1_same rfl) v1_nil))))))) va_nil))) rfl rfl rfl ?_
  refine aops_eff (w_not rfl) rfl rfl rfl ?_
  refine aops_nil ?_
  refine then_n ?_
  rcases cb h with ⟨q2, h⟩ | ⟨q2, h⟩
  · refine ac_condT rfl q2 ?_
    refine ac_seq ?_
    refine ac_region ?_
    refine aops_eff (eff_assign rfl) rfl rfl rfl ?_
    refine aops_nil ?_
    refine then_n ?_
    refine ac_ret ?_
    refine then_ret ?_
    obtain rfl := so h
    exact ret_mk rfl rfl rfl (fz_int rfl)
  · refine ac_condF rfl q2 ?_
    refine ac_skip ?_
    refine then_n ?_
    refine ac_seq ?_
    refine ac_region ?_
    refine aops_eff (w_load_ptr TT_ok rfl rfl rfl rfl rfl rfl rfl) rfl rfl rfl ?_
    refine aops_eff (w_load_ptr TT_ok rfl rfl rfl rfl rfl rfl rfl) rfl rfl rfl ?_
    obtain ⟨v3, hv3, h⟩ := ob h
    refine aops_eff (w_call0s (c_impl_homDim a0 a1 v3 hv3) rfl (va_cons (va_agg' (v1_cons (v1_same rfl) (v1_cons (v1_same rfl) (v1_cons (v1_same rfl) (v1_cons (v1_same rfl) (v1_cons (v1_same rfl) (v1_cons (v1_same rfl) v1_nil))))))) (va_cons (va_agg' (v1_cons (v1_same rfl) (v1_cons (v1_same rfl) (v1_cons (v1_same rfl) (v1_cons (v1_same rfl) (v1_cons (v1_same rfl) (v1_cons (v1_same rfl) v1_nil))))))) va_nil))) rfl rfl rfl ?_
    refine aops_eff (eff_assign rfl) rfl rfl rfl ?_
    refine aops_nil ?_
    refine then_n ?_
    refine ac_ret ?_
    obtain rfl := so h
    exact ret_mk rfl rfl rfl (fz_int rfl)

noncomputable def m_impl_OrbitDim_L1 (a0 : Rp) (x1 : (Int × Int)) : Option ((Int × Int) ⊕ Int) :=
  bif decide (x1.2 < (a0.dims.length : Int)) then
    (Option.bind (atL a0.dims x1.2) fun v5 =>
    some (.inl (wr (x1.1 + (wr (v5 * v5))), wr (x1.2 + 1))))
  else
    (some (.inr x1.1))

noncomputable def m_impl_OrbitDim (a0 : Rp) : Option Int :=
  Option.bind (m_impl_IsRep a0) fun v1 =>
  bif !v1 then
    (some ((-1)))
  else
    (Option.bind (m_impl_homDim a0 a0) fun v3 =>
    Option.bind (Lp (m_impl_OrbitDim_L1 a0) (wr (-v3), 0)) fun y6 =>
    some (y6))

theorem c_impl_OrbitDim (a0 : Rp) (r : Int) (h : m_impl_OrbitDim a0 = some r) : HasC Try.prog 11 [.agg (eR a0)] (.int r) := by
  refine hasC_mk TT_ok (rvs := [.tmp 2]) (ns := [0, 1, 2, 3, 4, 5, 6, 7, 8, 9, 10, 11, 12, 13]) Try.func11 rfl rfl Try.ntmps11 rfl rfl rfl ?_
  refine ac_seq ?_
  refine ac_region ?_
  refine aops_eff (w_box rfl rfl rfl rfl) rfl rfl rfl ?_
  refine aops_eff (eff_assign rfl) rfl rfl rfl ?_
  refine aops_nil ?_
  refine then_n ?_
  refine ac_seq ?_
  refine ac_seq ?_
  refine ac_region ?_
  refine aops_eff (w_load_ptr TT_ok rfl rfl rfl rfl rfl rfl rfl) rfl rfl rfl ?_
  obtain ⟨v1, hv1, h⟩ := ob h
  refine aops_eff (w_call0s (c_impl_IsRep a0 v1 hv1) rfl (va_cons (va_agg' (v1_cons (v1_same rfl) (v1_cons (v1_same rfl) (v1_cons (v1_same rfl) (v1_cons (v1_same rfl) (v1_cons (v1_same rfl) (v1_cons (v1_same rfl) v1_nil))))))) va_nil)) rfl rfl rfl ?_
  refine aops_eff (w_not rfl) rfl rfl rfl ?_
  refine aops_nil ?_
  refine then_n ?_
  rcases cb h with ⟨q2, h⟩ | ⟨q2, h⟩
  · refine ac_condT rfl q2 ?_
    refine ac_seq ?_
    refine ac_region ?_
    refine aops_eff (eff_assign rfl) rfl rfl rfl ?_
    refine aops_nil ?_
    refine then_n ?_
    refine ac_ret ?_
    refine then_ret ?_
    obtain rfl := so h
    exact ret_mk rfl rfl rfl (fz_int rfl)
  · refine ac_condF rfl q2 ?_
    refine ac_skip ?_
    refine then_n ?_
    refine ac_seq ?_
    refine ac_region ?_
    refine aops_eff (w_load_ptr TT_ok rfl rfl rfl rfl rfl rfl rfl) rfl rfl rfl ?_
    refine aops_eff (w_load_ptr TT_ok rfl rfl rfl rfl rfl rfl rfl) rfl rfl rfl ?_
    obtain ⟨v3, hv3, h⟩ := ob h
    refine aops_eff (w_call0s (c_impl_homDim a0 a0 v3 hv3) rfl (va_cons (va_agg' (v1_cons (v1_same rfl) (v1_cons (v1_same rfl) (v1_cons (v1_same rfl) (v1_cons (v1_same rfl) (v1_cons (v1_same rfl) (v1_cons (v1_same rfl) v1_nil))))))) (va_cons (va_agg' (v1_cons (v1_same rfl) (v1_cons (v1_same rfl) (v1_cons (v1_same rfl) (v1_cons (v1_same rfl) (v1_cons (v1_same rfl) (v1_cons (v1_same rfl) v1_nil))))))) va_nil))) rfl rfl rfl ?_
    refine aops_eff (x_neg rfl) rfl rfl rfl ?_
    refine aops_eff (eff_assign rfl) rfl rfl rfl ?_
    refine aops_nil ?_
    refine then_n ?_
    refine ac_seq ?_
    refine ac_seq ?_
    refine ac_region ?_
    refine aops_eff (w_field_ptr TT_ok rfl rfl rfl rfl rfl rfl rfl) rfl rfl rfl ?_
    refine aops_eff (w_load_ptr TT_ok rfl rfl rfl rfl rfl rfl rfl) rfl rfl rfl ?_
    refine aops_eff (AEff.val (w_len_list TT_ok rfl rfl rfl) (v' := .int (a0.dims.length : Int)) (by first | rw [len_map] | rw [encI_len])) rfl rfl rfl ?_
    refine aops_eff (eff_move rfl) rfl rfl rfl ?_
    refine aops_nil ?_
    refine then_n ?_
    refine ac_ent (t := mkS [(3, .int (wr (-v3))), (14, .list 1 (List.map eI a0.dims)), (15, .int (a0.dims.length : Int)), (16, .int 0)] [] 1 [1, 2, 3, 4, 5, 6, 7, 8, 9, 10, 11, 12, 13, 14]) (ent_mk (σ := sg []) ⟨⟨_, rfl, rfl⟩, ⟨_, rfl, ⟨rfl, rfl⟩⟩, ⟨_, rfl, rfl⟩, ⟨_, rfl, rfl⟩, trivial⟩ trivial rfl) ?_
    refine ac_block ?_
    obtain ⟨y6, hy6, h⟩ := ob h
    refine ac_Lp (body := (m_impl_OrbitDim_L1 a0)) hy6 (fun (x1 : (Int × Int)) => mkS [(3, .int x1.1), (14, .list 1 (List.map eI a0.dims)), (15, .int (a0.dims.length : Int)), (16, .int x1.2)] [] 0 [0, 1, 2, 3, 4, 5, 6, 7, 8, 9, 10, 11, 12, 13]) (fun r e t => e = .exit 0 ∧ Ent t (mkS [(3, .int r)] [] 0 [0, 1, 2, 3, 4, 5, 6, 7, 8, 9, 10, 11, 12, 13])) (ent_mk (σ := sg []) ⟨⟨_, rfl, rfl⟩, ⟨_, rfl, ⟨rfl, rfl⟩⟩, ⟨_, rfl, rfl⟩, ⟨_, rfl, rfl⟩, trivial⟩ trivial rfl) ?_ ?_
    · intro x1 o h
      refine ac_seq ?_
      refine ac_region ?_
      refine aops_eff (w_cmp rfl rfl rfl) rfl rfl rfl ?_
      refine aops_nil ?_
      refine then_n ?_
      refine ac_seq ?_
      rcases cb h with ⟨q4, h⟩ | ⟨q4, h⟩
      · refine ac_condT rfl q4 ?_
        refine ac_skip ?_
        refine then_n ?_
        refine ac_seq ?_
        refine ac_block ?_
        refine ac_seq ?_
        refine ac_region ?_
        obtain ⟨v5, hv5, h⟩ := ob h
        refine aops_eff (x_at_list TT_ok hv5 rfl rfl rfl rfl rfl rfl) rfl rfl rfl ?_
        refine aops_eff (w_load_ref TT_ok rfl rfl rfl rfl rfl rfl) rfl rfl rfl ?_
        refine aops_eff (eff_assign rfl) rfl rfl rfl ?_
        refine aops_nil ?_
        refine then_n ?_
        refine ac_region ?_
        refine aops_eff (eff_move rfl) rfl rfl rfl ?_
        refine aops_eff (eff_move rfl) rfl rfl rfl ?_
        refine aops_eff (eff_move rfl) rfl rfl rfl ?_
        refine aops_eff (x_mul rfl rfl) rfl rfl rfl ?_
        refine aops_eff (x_add rfl rfl) rfl rfl rfl ?_
        refine aops_eff (eff_assign rfl) rfl rfl rfl ?_
        refine aops_nil ?_
        refine block_n ?_
        refine then_n ?_
        refine ac_region ?_
        refine aops_eff (x_add rfl rfl) rfl rfl rfl ?_
        refine aops_eff (eff_move rfl) rfl rfl rfl ?_
        refine aops_nil ?_
        refine then_n ?_
        obtain rfl := so h
        exact ⟨_, rfl, (ent_mk (σ := sg []) ⟨⟨_, rfl, rfl⟩, ⟨_, rfl, ⟨rfl, rfl⟩⟩, ⟨_, rfl, rfl⟩, ⟨_, rfl, rfl⟩, trivial⟩ trivial rfl)⟩
      · refine ac_condF rfl q4 ?_
        refine ac_exit ?_
        refine then_exit ?_
        refine then_exit ?_
        obtain rfl := so h
        exact ⟨_, rfl, rfl, (ent_mk (σ := sg []) ⟨⟨_, rfl, rfl⟩, trivial⟩ trivial rfl)⟩
    · rintro e t ⟨rfl, hent⟩
      refine block_here ?_
      refine then_n ?_
      refine ac_ent hent ?_
      refine ac_seq ?_
      refine ac_region ?_
      refine aops_eff (eff_move rfl) rfl rfl rfl ?_
      refine aops_eff (eff_assign rfl) rfl rfl rfl ?_
      refine aops_nil ?_
      refine then_n ?_
      refine ac_ret ?_
      obtain rfl := so h
      exact ret_mk rfl rfl rfl (fz_int rfl)

noncomputable def m_impl_HomRow_L1 (a0 : Rp) (a1 : (List Rp)) (x1 : ((List Int) × Int)) : Option (((List Int) × Int) ⊕ (List Int)) :=
  bif decide (x1.2 < (a1.length : Int)) then
    (Option.bind (atL a1 x1.2) fun v3 =>
    Option.bind (m_impl_HomDim v3 a0) fun v4 =>
    bif decide (x1.1.length + [v4].length ≤ 4294967296) then
      (some (.inl ((x1.1 ++ [v4]), wr (x1.2 + 1))))
    else none)
  else
    (some (.inr x1.1))

noncomputable def m_impl_HomRow (a0 : Rp) (a1 : (List Rp)) : Option (List Int) :=
  bif decide (20 < (a1.length : Int)) then
    (some ([]))
  else
    (Option.bind (Lp (m_impl_HomRow_L1 a0 a1) ([], 0)) fun y6 =>
    some (y6))

theorem c_impl_HomRow (a0 : Rp) (a1 : (List Rp)) (r : (List Int)) (h : m_impl_HomRow a0 a1 = some r) : HasC Try.prog 66 [.agg (eR a0), .list 6 (List.map eR a1)] (.list 1 (List.map eI r)) := by
  refine hasC_mk TT_ok (rvs := [.tmp 4]) (ns := [0, 1, 2, 3, 4, 5, 6, 7, 8, 9, 10, 11, 12, 13]) Try.func66 rfl rfl Try.ntmps66 rfl rfl rfl ?_
  refine ac_seq ?_
  refine ac_region ?_
  refine aops_eff (w_box rfl rfl rfl rfl) rfl rfl rfl ?_
  refine aops_eff (eff_assign rfl) rfl rfl rfl ?_
  refine aops_nil ?_
  refine then_n ?_
  refine ac_seq ?_
  refine ac_seq ?_
  refine ac_region ?_
  refine aops_eff (eff_move rfl) rfl rfl rfl ?_
  refine aops_eff (AEff.val (w_len_list TT_ok rfl rfl rfl) (v' := .int (a1.length : Int)) (by first | rw [len_map] | rw [encI_len])) rfl rfl rfl ?_
  refine aops_eff (w_cmp rfl rfl rfl) rfl rfl rfl ?_
  refine aops_nil ?_
  refine then_n ?_
  rcases cb h with ⟨q1, h⟩ | ⟨q1, h⟩
  · refine ac_condT rfl q1 ?_
    refine ac_seq ?_
    refine ac_region ?_
    refine aops_eff (eff_assign rfl) rfl rfl rfl ?_
    refine aops_nil ?_
    refine then_n ?_
    refine ac_ret ?_
    refine then_ret ?_
    obtain rfl := so h
    exact ret_mk rfl rfl rfl (xz_list (rfl))
  · refine ac_condF rfl q1 ?_
    refine ac_skip ?_
    refine then_n ?_
    refine ac_seq ?_
    refine ac_region ?_
    refine aops_eff (eff_assign rfl) rfl rfl rfl ?_
    refine aops_nil ?_
    refine then_n ?_
    refine ac_seq ?_
    refine ac_seq ?_
    refine ac_region ?_
    refine aops_eff (eff_move rfl) rfl rfl rfl ?_
    refine aops_eff (AEff.val (w_len_list TT_ok rfl rfl rfl) (v' := .int (a1.length : Int)) (by first | rw [len_map] | rw [encI_len])) rfl rfl rfl ?_
    refine aops_eff (eff_move rfl) rfl rfl rfl ?_
    refine aops_nil ?_
    refine then_n ?_
    refine ac_block ?_
    obtain ⟨y6, hy6, h⟩ := ob h
    refine ac_Lp (body := (m_impl_HomRow_L1 a0 a1)) hy6 (fun (x1 : ((List Int) × Int)) => mkS [(2, .ptr 0 0 0), (5, .own 1 0 x1.1.length), (11, .list 6 (List.map eR a1)), (12, .int (a1.length : Int)), (13, .int x1.2)] [(0, ⟨6, [[.int a0.p, .int a0.q.n, .list 1 (List.map eI a0.q.src), .list 1 (List.map eI a0.q.tgt), .list 1 (List.map eI a0.dims), .list 3 (List.map eM a0.maps)]]⟩), (1, ⟨1, List.map (ow eI) x1.1⟩)] 2 [2, 3, 4, 5, 6, 7, 8, 9, 10, 11, 12, 13, 14, 15]) (fun r e t => e = .exit 0 ∧ Ent t (mkS [(5, .own 0 0 r.length)] [(0, ⟨1, List.map (ow eI) r⟩)] 1 [1, 2, 3, 4, 5, 6, 7, 8, 9, 10, 11, 12, 13, 14])) (ent_mk (σ := sg [(0, 0)]) ⟨⟨_, rfl, ⟨rfl, rfl, rfl, rfl⟩⟩, ⟨_, rfl, ⟨rfl, rfl, rfl, rfl⟩⟩, ⟨_, rfl, ⟨rfl, rfl⟩⟩, ⟨_, rfl, rfl⟩, ⟨_, rfl, rfl⟩, trivial⟩ ⟨⟨_, rfl, rfl, .inl ⟨rfl, plain_of rfl⟩⟩, rfl, rfl, rfl, trivial⟩ rfl) ?_ ?_
    · intro x1 o h
      refine ac_seq ?_
      refine ac_region ?_
      refine aops_eff (w_cmp rfl rfl rfl) rfl rfl rfl ?_
      refine aops_nil ?_
      refine then_n ?_
      refine ac_seq ?_
      rcases cb h with ⟨q2, h⟩ | ⟨q2, h⟩
      · refine ac_condT rfl q2 ?_
        refine ac_skip ?_
        refine then_n ?_
        refine ac_seq ?_
        refine ac_block ?_
        refine ac_seq ?_
        refine ac_region ?_
        obtain ⟨v3, hv3, h⟩ := ob h
        refine aops_eff (x_at_list TT_ok hv3 rfl rfl rfl rfl rfl rfl) rfl rfl rfl ?_
        refine aops_eff (w_load_ref TT_ok rfl rfl rfl rfl rfl rfl) rfl rfl rfl ?_
        refine aops_eff (w_alloc TT_ok rfl rfl) rfl rfl rfl ?_
        refine aops_eff (w_store TT_ok rfl rfl rfl rfl rfl rfl rfl rfl) rfl rfl rfl ?_
        refine aops_nil ?_
        refine then_n ?_
        refine ac_region ?_
        refine aops_eff (eff_move rfl) rfl rfl rfl ?_
        refine aops_eff (w_load_ptr TT_ok rfl rfl rfl rfl rfl rfl rfl) rfl rfl rfl ?_
        refine aops_eff (w_load_ptr TT_ok rfl rfl rfl rfl rfl rfl rfl) rfl rfl rfl ?_
        obtain ⟨v4, hv4, h⟩ := ob h
        refine aops_eff (w_call0s (c_impl_HomDim v3 a0 v4 hv4) rfl (va_cons (va_agg' (v1_cons (v1_same rfl) (v1_cons (v1_same rfl) (v1_cons (v1_same rfl) (v1_cons (v1_same rfl) (v1_cons (v1_same rfl) (v1_cons (v1_same rfl) v1_nil))))))) (va_cons (va_agg' (v1_cons (v1_same rfl) (v1_cons (v1_same rfl) (v1_cons (v1_same rfl) (v1_cons (v1_same rfl) (v1_cons (v1_same rfl) (v1_cons (v1_same rfl) v1_nil))))))) va_nil))) rfl rfl rfl ?_
        refine aops_eff (w_lit TT_ok rfl rfl rfl rfl rfl rfl rfl rfl rfl rfl rfl rfl) rfl rfl rfl ?_
        obtain ⟨q5, h⟩ := cg h
        refine aops_eff (x_app TT_ok (l := x1.1) (m := [v4]) okIo q5 rfl rfl rfl rfl rfl rfl rfl rfl rfl rfl rfl rfl) rfl rfl rfl ?_
        refine aops_eff (eff_assign rfl) rfl rfl rfl ?_
        refine aops_nil ?_
        refine block_n ?_
        refine then_n ?_
        refine ac_ent (t := mkS [(2, .ptr 0 0 0), (5, .own 4 0 ((x1.1 ++ [v4]).length)), (11, .list 6 (List.map eR a1)), (12, .int (a1.length : Int)), (13, .int x1.2)] [(0, ⟨6, [[.int a0.p, .int a0.q.n, .list 1 (List.map eI a0.q.src), .list 1 (List.map eI a0.q.tgt), .list 1 (List.map eI a0.dims), .list 3 (List.map eM a0.maps)]]⟩), (4, ⟨1, List.map (ow eI) (x1.1 ++ [v4])⟩)] 5 [5, 6, 7, 8, 9, 10, 11, 12, 13, 14, 15, 16, 17, 18]) (ent_mk (σ := sg [(0, 0), (4, 4)]) ⟨⟨_, rfl, ⟨rfl, rfl, rfl, rfl⟩⟩, ⟨_, rfl, ⟨rfl, rfl, rfl, rfl⟩⟩, ⟨_, rfl, ⟨rfl, rfl⟩⟩, ⟨_, rfl, rfl⟩, ⟨_, rfl, rfl⟩, trivial⟩ ⟨⟨_, rfl, rfl, .inl ⟨rfl, plain_of rfl⟩⟩, rfl, ⟨_, rfl, rfl, .inl ⟨rfl, okI.plainO _⟩⟩, rfl, trivial⟩ rfl) ?_
        refine ac_region ?_
        refine aops_eff (x_add rfl rfl) rfl rfl rfl ?_
        refine aops_eff (eff_move rfl) rfl rfl rfl ?_
        refine aops_nil ?_
        refine then_n ?_
        obtain rfl := so h
        exact ⟨_, rfl, (ent_mk (σ := sg [(0, 0), (1, 4)]) ⟨⟨_, rfl, ⟨rfl, rfl, rfl, rfl⟩⟩, ⟨_, rfl, ⟨rfl, rfl, rfl, rfl⟩⟩, ⟨_, rfl, ⟨rfl, rfl⟩⟩, ⟨_, rfl, rfl⟩, ⟨_, rfl, rfl⟩, trivial⟩ ⟨⟨_, rfl, rfl, .inl ⟨rfl, plain_of rfl⟩⟩, rfl, ⟨_, rfl, rfl, .inl ⟨rfl, okI.plainO _⟩⟩, rfl, trivial⟩ rfl)⟩
      · refine ac_condF rfl q2 ?_
        refine ac_exit ?_
        refine then_exit ?_
        refine then_exit ?_
        obtain rfl := so h
        exact ⟨_, rfl, rfl, (ent_mk (σ := sg [(0, 1)]) ⟨⟨_, rfl, ⟨rfl, rfl, rfl, rfl⟩⟩, trivial⟩ ⟨⟨_, rfl, rfl, .inl ⟨rfl, okI.plainO _⟩⟩, rfl, trivial⟩ rfl)⟩
    · rintro e t ⟨rfl, hent⟩
      refine block_here ?_
      refine then_n ?_
      refine ac_ent hent ?_
      refine ac_seq ?_
      refine ac_region ?_
      refine aops_eff (eff_move rfl) rfl rfl rfl ?_
      refine aops_eff (eff_assign rfl) rfl rfl rfl ?_
      refine aops_nil ?_
      refine then_n ?_
      refine ac_ret ?_
      obtain rfl := so h
      exact ret_mk rfl rfl rfl (xz_list (x_f1 okI rfl rfl))

noncomputable def m_impl_HomsBelow (a0 : Rp) (a1 : Rp) (a2 : (List Rp)) : Option Bool :=
  Option.bind (m_impl_fit a0 a1) fun v1 =>
  bif v1 then
    (Option.bind (m_slices_Equal_Lint_int a0.dims a1.dims) fun v3 =>
    bif v3 then
      (Option.bind (m_impl_HomRow a0 a2) fun v5 =>
      Option.bind (m_impl_HomRow a1 a2) fun v6 =>
      Option.bind (m_impl_isBelow v5 v6) fun v7 =>
      some (v7))
    else
      (some (false)))
  else
    (some (false))

theorem c_impl_HomsBelow (a0 : Rp) (a1 : Rp) (a2 : (List Rp)) (r : Bool) (h : m_impl_HomsBelow a0 a1 a2 = some r) : HasC Try.prog 22 [.agg (eR a0), .agg (eR a1), .list 6 (List.map eR a2)] (.bl r) := by
  refine hasC_mk TT_ok (rvs := [.tmp 6]) (ns := [0, 1, 2, 3, 4, 5, 6, 7, 8, 9, 10, 11, 12, 13]) Try.func22 rfl rfl Try.ntmps22 rfl rfl rfl ?_
  refine ac_seq ?_
  refine ac_region ?_
  refine aops_eff (w_box rfl rfl rfl rfl) rfl rfl rfl ?_
  refine aops_eff (w_box rfl rfl rfl rfl) rfl rfl rfl ?_
  refine aops_eff (eff_assign rfl) rfl rfl rfl ?_
  refine aops_nil ?_
  refine then_n ?_
  refine ac_seq ?_
  refine ac_region_draw MIXX ?_
  refine aops_eff (w_load_ptr TT_ok rfl rfl rfl rfl rfl rfl rfl) rfl rfl rfl ?_
  refine aops_eff (w_load_ptr TT_ok rfl rfl rfl rfl rfl rfl rfl) rfl rfl rfl ?_
  obtain ⟨v1, hv1, h⟩ := ob h
  refine aops_eff (w_call0s (c_impl_fit a0 a1 v1 hv1) rfl (va_cons (va_agg' (v1_cons (v1_same rfl) (v1_cons (v1_same rfl) (v1_cons (v1_same rfl) (v1_cons (v1_same rfl) (v1_cons (v1_same rfl) (v1_cons (v1_same rfl) v1_nil))))))) (va_cons (va_agg' (v1_cons (v1_same rfl) (v1_cons (v1_same rfl) (v1_cons (v1_same rfl) (v1_cons (v1_same rfl) (v1_cons (v1_same rfl) (v1_cons (v1_same rfl) v1_nil))))))) va_nil))) rfl rfl rfl ?_
  refine aops_eff (eff_move rfl) rfl rfl rfl ?_
  rcases cb h with ⟨q2, h⟩ | ⟨q2, h⟩
  · refine aops_lit 10 rfl q2 ?_
    refine aops_eff (w_field_ptr TT_ok rfl rfl rfl rfl rfl rfl rfl) rfl rfl rfl ?_
    refine aops_eff (w_load_ptr TT_ok rfl rfl rfl rfl rfl rfl rfl) rfl rfl rfl ?_
    refine aops_eff (w_field_ptr TT_ok rfl rfl rfl rfl rfl rfl rfl) rfl rfl rfl ?_
    refine aops_eff (w_load_ptr TT_ok rfl rfl rfl rfl rfl rfl rfl) rfl rfl rfl ?_
    obtain ⟨v3, hv3, h⟩ := ob h
    refine aops_eff (w_call0s (c_slices_Equal_Lint_int a0.dims a1.dims v3 hv3) rfl (va_cons (va_same rfl) (va_cons (va_same rfl) va_nil))) rfl rfl rfl ?_
    refine aops_eff (eff_pick rfl rfl) rfl rfl rfl ?_
    refine aops_eff (eff_move rfl) rfl rfl rfl ?_
    rcases cb h with ⟨q4, h⟩ | ⟨q4, h⟩
    · refine aops_lit 17 rfl q4 ?_
      refine aops_eff (w_load_ptr TT_ok rfl rfl rfl rfl rfl rfl rfl) rfl rfl rfl ?_
      refine aops_eff (eff_move rfl) rfl rfl rfl ?_
      obtain ⟨v5, hv5, h⟩ := ob h
      refine aops_eff (AEff.conv (w_call0 (x := .own 2 0 (List.map eI v5).length) (nb := [(2, ⟨1, absEs (List.map eI v5)⟩)]) (c_impl_HomRow a0 a2 v5 hv5) rfl (by rfl) rfl rfl (okI.good _) (va_cons (va_agg' (v1_cons (v1_same rfl) (v1_cons (v1_same rfl) (v1_cons (v1_same rfl) (v1_cons (v1_same rfl) (v1_cons (v1_same rfl) (v1_cons (v1_same rfl) v1_nil))))))) (va_cons (va_same rfl) va_nil))) (v' := .own 2 0 v5.length) (ed' := [(2, some ⟨1, List.map (ow eI) v5⟩)]) (by simp only [len_map]) (ed_ok (nb' := [(2, ⟨1, List.map (ow eI) v5⟩)]) (by simp only [abs_map]))) rfl rfl rfl ?_
      refine aops_eff (w_load_ptr TT_ok rfl rfl rfl rfl rfl rfl rfl) rfl rfl rfl ?_
      refine aops_eff (eff_move rfl) rfl rfl rfl ?_
      obtain ⟨v6, hv6, h⟩ := ob h
      refine aops_eff (AEff.conv (w_call0 (x := .own 3 0 (List.map eI v6).length) (nb := [(3, ⟨1, absEs (List.map eI v6)⟩)]) (c_impl_HomRow a1 a2 v6 hv6) rfl (by rfl) rfl rfl (okI.good _) (va_cons (va_agg' (v1_cons (v1_same rfl) (v1_cons (v1_same rfl) (v1_cons (v1_same rfl) (v1_cons (v1_same rfl) (v1_cons (v1_same rfl) (v1_cons (v1_same rfl) v1_nil))))))) (va_cons (va_same rfl) va_nil))) (v' := .own 3 0 v6.length) (ed' := [(3, some ⟨1, List.map (ow eI) v6⟩)]) (by simp only [len_map]) (ed_ok (nb' := [(3, ⟨1, List.map (ow eI) v6⟩)]) (by simp only [abs_map]))) rfl rfl rfl ?_
      obtain ⟨v7, hv7, h⟩ := ob h
      refine aops_eff (w_call0s (c_impl_isBelow v5 v6 v7 hv7) rfl (va_cons (va_T okI rfl rfl) (va_cons (va_T okI rfl rfl) va_nil))) rfl rfl rfl ?_
      refine aops_eff (eff_pick rfl rfl) rfl rfl rfl ?_
      refine aops_eff (eff_assign rfl) rfl rfl rfl ?_
      refine aops_nil ?_
      refine ⟨by kernel_rfl, ?_⟩
      refine then_n ?_
      refine ac_ent (t := mkS [(6, .bl v7)] [] 4 [4, 5, 6, 7, 8, 9, 10, 11, 12, 13, 14, 15, 16, 17]) (ent_mk (σ := sg []) ⟨⟨_, rfl, rfl⟩, trivial⟩ trivial rfl) ?_
      refine ac_ret ?_
      obtain rfl := so h
      exact ret_mk rfl rfl rfl (fz_bl rfl)
    · refine aops_lit 17 rfl q4 ?_
      refine aops_skip rfl rfl ?_
      refine aops_skip rfl rfl ?_
      refine aops_skip rfl rfl ?_
      refine aops_skip rfl rfl ?_
      refine aops_skip rfl rfl ?_
      refine aops_skip rfl rfl ?_
      refine aops_skip rfl rfl ?_
      refine aops_eff (eff_pick rfl rfl) rfl rfl rfl ?_
      refine aops_eff (eff_assign rfl) rfl rfl rfl ?_
      refine aops_nil ?_
      refine ⟨by kernel_rfl, ?_⟩
      refine then_n ?_
      refine ac_ent (t := mkS [(6, .bl false)] [] 2 [2, 3, 4, 5, 6, 7, 8, 9, 10, 11, 12, 13, 14, 15]) (ent_mk (σ := sg []) ⟨⟨_, rfl, rfl⟩, trivial⟩ trivial rfl) ?_
      refine ac_ret ?_
      obtain rfl := so h
      exact ret_mk rfl rfl rfl (fz_bl rfl)
  · refine aops_lit 10 rfl q2 ?_
    refine aops_skip rfl rfl ?_
    refine aops_skip rfl rfl ?_
    refine aops_skip rfl rfl ?_
    refine aops_skip rfl rfl ?_
    refine aops_skip rfl rfl ?_
    refine aops_eff (eff_pick rfl rfl) rfl rfl rfl ?_
    refine aops_eff (eff_move rfl) rfl rfl rfl ?_
    refine aops_skip rfl rfl ?_
    refine aops_skip rfl rfl ?_
    refine aops_skip rfl rfl ?_
    refine aops_skip rfl rfl ?_
    refine aops_skip rfl rfl ?_
    refine aops_skip rfl rfl ?_
    refine aops_skip rfl rfl ?_
    refine aops_eff (eff_pick rfl rfl) rfl rfl rfl ?_
    refine aops_eff (eff_assign rfl) rfl rfl rfl ?_
    refine aops_nil ?_
    refine ⟨by kernel_rfl, ?_⟩
    refine then_n ?_
    refine ac_ent (t := mkS [(6, .bl false)] [] 2 [2, 3, 4, 5, 6, 7, 8, 9, 10, 11, 12, 13, 14, 15]) (ent_mk (σ := sg []) ⟨⟨_, rfl, rfl⟩, trivial⟩ trivial rfl) ?_
    refine ac_ret ?_
    obtain rfl := so h
    exact ret_mk rfl rfl rfl (fz_bl rfl)

noncomputable def m_spec_l4Kernel_L2 (a0 : Int) (v1 : (Mt × (List Int))) (x1 : (Int × (List (List Int)))) (x2 : ((List Int) × Int)) : Option (((List Int) × Int) ⊕ (List Int)) :=
  bif decide (x2.2 < ((v1.2.length : Nat) : Int)) then
    (Option.bind (atL v1.2 x2.2) fun v7 =>
    Option.bind (atL v1.1.cells (wr ((wr (x2.2 * v1.1.cols)) + x1.1))) fun v8 =>
    Option.bind (m_spec_l2Mod a0 (wr (-v8))) fun v9 =>
    Option.bind (atL x2.1 v7) fun v10 =>
    some (.inl ((x2.1.set v7.toNat v9), wr (x2.2 + 1))))
  else
    (some (.inr x2.1))

noncomputable def m_spec_l4Kernel_L1 (a0 : Int) (v1 : (Mt × (List Int))) (x1 : (Int × (List (List Int)))) : Option ((Int × (List (List Int))) ⊕ (List (List Int))) :=
  bif decide (x1.1 < v1.1.cols) then
    (Option.bind (m_spec_l4Has v1.2 x1.1) fun v3 =>
    bif v3 then
      (some (.inl (wr (x1.1 + 1), x1.2)))
    else
      (bif (decide (0 ≤ v1.1.cols) && decide (v1.1.cols ≤ 1048576)) then
        (Option.bind (atL (List.replicate v1.1.cols.toNat (0 : Int)) x1.1) fun v5 =>
        Option.bind (Lp (m_spec_l4Kernel_L2 a0 v1 x1) (((List.replicate v1.1.cols.toNat (0 : Int)).set x1.1.toNat 1), 0)) fun y11 =>
        bif decide (x1.2.length + 1 ≤ 4294967296) then
          (some (.inl (wr (x1.1 + 1), (x1.2 ++ [y11]))))
        else none)
      else none))
  else
    (some (.inr x1.2))

noncomputable def m_spec_l4Kernel (a0 : Int) (a1 : Mt) : Option (List (List Int)) :=
  Option.bind (m_spec_l4Reduce a0 a1) fun v1 =>
  Option.bind (Lp (m_spec_l4Kernel_L1 a0 v1) (0, ([] : (List (List Int))))) fun y14 =>
  some (y14)

theorem c_spec_l4Kernel (a0 : Int) (a1 : Mt) (r : (List (List Int))) (h : m_spec_l4Kernel a0 a1 = some r) : HasC Try.prog 127 [.int a0, .agg (eM a1)] (.list 1 (List.map (eLs 1 eI) r)) := by
  refine hasC_mk TT_ok (rvs := [.tmp 4]) (ns := [0, 1, 2, 3, 4, 5, 6, 7, 8, 9, 10, 11, 12, 13]) Try.func127 rfl rfl Try.ntmps127 rfl rfl rfl ?_
  refine ac_seq ?_
  refine ac_region ?_
  refine aops_eff (w_box rfl rfl rfl rfl) rfl rfl rfl ?_
  refine aops_eff (eff_assign rfl) rfl rfl rfl ?_
  refine aops_nil ?_
  refine then_n ?_
  refine ac_seq ?_
  refine ac_region ?_
  refine aops_eff (eff_move rfl) rfl rfl rfl ?_
  refine aops_eff (w_load_ptr TT_ok rfl rfl rfl rfl rfl rfl rfl) rfl rfl rfl ?_
  obtain ⟨v1, hv1, h⟩ := ob h
  refine aops_eff (AEff.conv (w_call0 (x := .tuple [.agg [.int v1.1.rows, .int v1.1.cols, .own 1 0 (List.map eI v1.1.cells).length], .own 2 0 (List.map eI v1.2).length]) (nb := [(1, ⟨1, absEs (List.map eI v1.1.cells)⟩), (2, ⟨1, absEs (List.map eI v1.2)⟩)]) (c_spec_l4Reduce a0 a1 v1 hv1) rfl (by rfl) rfl rfl (gB_cons (g1_cons trivial (g1_cons trivial (g1_cons (okI.good _) g1_nil))) (gB_cons (okI.good _) gB_nil)) (va_cons (va_same rfl) (va_cons (va_agg' (v1_cons (v1_same rfl) (v1_cons (v1_same rfl) (v1_cons (v1_same rfl) v1_nil)))) va_nil))) (v' := .tuple [.agg [.int v1.1.rows, .int v1.1.cols, .own 1 0 v1.1.cells.length], .own 2 0 v1.2.length]) (ed' := [(1, some ⟨1, List.map (ow eI) v1.1.cells⟩), (2, some ⟨1, List.map (ow eI) v1.2⟩)]) (by simp only [len_map]) (ed_ok (nb' := [(1, ⟨1, List.map (ow eI) v1.1.cells⟩), (2, ⟨1, List.map (ow eI) v1.2⟩)]) (by simp only [abs_map]))) rfl rfl rfl ?_
  refine aops_eff (eff_move rfl) rfl rfl rfl ?_
  refine aops_eff (eff_extract rfl rfl (by intro _ h; cases h)) rfl rfl rfl ?_
  refine aops_eff (eff_extract rfl rfl (by intro _ h; cases h)) rfl rfl rfl ?_
  refine aops_eff (w_alloc TT_ok rfl rfl) rfl rfl rfl ?_
  refine aops_eff (w_store TT_ok rfl rfl rfl rfl rfl rfl rfl rfl) rfl rfl rfl ?_
  refine aops_eff (eff_assign rfl) rfl rfl rfl ?_
  refine aops_nil ?_
  refine then_n ?_
  refine ac_seq ?_
  refine ac_region ?_
  refine aops_eff (w_lit TT_ok rfl rfl rfl rfl rfl rfl rfl rfl rfl rfl rfl rfl) rfl rfl rfl ?_
  refine aops_eff (eff_assign rfl) rfl rfl rfl ?_
  refine aops_nil ?_
  refine then_n ?_
  refine ac_ent (t := mkS [(0, .int a0), (5, .ptr 3 0 0), (6, .own 2 0 v1.2.length), (7, .own 4 0 (([] : (List (List Int))).length))] [(1, ⟨1, List.map (ow eI) v1.1.cells⟩), (2, ⟨1, List.map (ow eI) v1.2⟩), (3, ⟨3, [[.int v1.1.rows, .int v1.1.cols, .own 1 0 v1.1.cells.length]]⟩), (4, ⟨1, List.map (ow (eLs 1 eI)) ([] : (List (List Int)))⟩)] 5 [5, 6, 7, 8, 9, 10, 11, 12, 13, 14, 15, 16, 17, 18]) (ent_mk (σ := sg [(1, 1), (2, 2), (3, 3), (4, 4)]) ⟨⟨_, rfl, rfl⟩, ⟨_, rfl, ⟨rfl, rfl, rfl, rfl⟩⟩, ⟨_, rfl, ⟨rfl, rfl, rfl, rfl⟩⟩, ⟨_, rfl, ⟨rfl, rfl, (by simp only [len_map, List.length_append, List.length_set, List.length_replicate, List.length_cons, List.length_nil]), rfl⟩⟩, trivial⟩ ⟨⟨_, rfl, rfl, .inl ⟨rfl, okI.plainO _⟩⟩, rfl, ⟨_, rfl, rfl, .inl ⟨rfl, okI.plainO _⟩⟩, rfl, ⟨_, rfl, rfl, .inr ⟨_, _, rfl, ⟨_, _, rfl, rfl, ⟨_, _, rfl, rfl, ⟨_, _, rfl, ⟨rfl, rfl, rfl, rfl⟩, rfl⟩⟩⟩, rfl⟩⟩, rfl, ⟨_, rfl, rfl, .inl ⟨rfl, okLs.plainO _⟩⟩, rfl, trivial⟩ rfl) ?_
  refine ac_seq ?_
  refine ac_seq ?_
  refine ac_region ?_
  refine aops_eff (eff_assign rfl) rfl rfl rfl ?_
  refine aops_nil ?_
  refine then_n ?_
  refine ac_block ?_
  obtain ⟨y14, hy14, h⟩ := ob h
  refine ac_Lp (body := (m_spec_l4Kernel_L1 a0 v1)) hy14 (fun (x1 : (Int × (List (List Int)))) => mkS [(0, .int a0), (5, .ptr 0 0 0), (6, .own 2 0 v1.2.length), (7, .own 3 0 x1.2.length), (8, .int x1.1)] [(0, ⟨3, [[.int v1.1.rows, .int v1.1.cols, .own 1 0 v1.1.cells.length]]⟩), (1, ⟨1, List.map (ow eI) v1.1.cells⟩), (2, ⟨1, List.map (ow eI) v1.2⟩), (3, ⟨1, List.map (ow (eLs 1 eI)) x1.2⟩)] 4 [4, 5, 6, 7, 8, 9, 10, 11, 12, 13, 14, 15, 16, 17]) (fun r e t => e = .exit 0 ∧ Ent t (mkS [(7, .own 0 0 r.length)] [(0, ⟨1, List.map (ow (eLs 1 eI)) r⟩)] 1 [1, 2, 3, 4, 5, 6, 7, 8, 9, 10, 11, 12, 13, 14])) (ent_mk (σ := sg [(0, 3), (1, 1), (2, 2), (3, 4)]) ⟨⟨_, rfl, rfl⟩, ⟨_, rfl, ⟨rfl, rfl, rfl, rfl⟩⟩, ⟨_, rfl, ⟨rfl, rfl, rfl, rfl⟩⟩, ⟨_, rfl, ⟨rfl, rfl, rfl, rfl⟩⟩, ⟨_, rfl, rfl⟩, trivial⟩ ⟨⟨_, rfl, rfl, .inr ⟨_, _, rfl, ⟨_, _, rfl, rfl, ⟨_, _, rfl, rfl, ⟨_, _, rfl, ⟨rfl, rfl, rfl, rfl⟩, rfl⟩⟩⟩, rfl⟩⟩, rfl, ⟨_, rfl, rfl, .inl ⟨rfl, okI.plainO _⟩⟩, rfl, ⟨_, rfl, rfl, .inl ⟨rfl, okI.plainO _⟩⟩, rfl, ⟨_, rfl, rfl, .inl ⟨rfl, okLs.plainO _⟩⟩, rfl, trivial⟩ rfl) ?_ ?_
  · intro x1 o h
    refine ac_seq ?_
    refine ac_seq ?_
    refine ac_region ?_
    refine aops_eff (eff_move rfl) rfl rfl rfl ?_
    refine aops_eff (w_field_ptr TT_ok rfl rfl rfl rfl rfl rfl rfl) rfl rfl rfl ?_
    refine aops_eff (w_load_ptr TT_ok rfl rfl rfl rfl rfl rfl rfl) rfl rfl rfl ?_
    refine aops_eff (w_cmp rfl rfl rfl) rfl rfl rfl ?_
    refine aops_nil ?_
    refine then_n ?_
    rcases cb h with ⟨q2, h⟩ | ⟨q2, h⟩
    · refine ac_condT rfl q2 ?_
      refine ac_skip ?_
      refine then_n ?_
      refine ac_seq ?_
      refine ac_block ?_
      refine ac_seq ?_
      refine ac_seq ?_
      refine ac_region ?_
      refine aops_eff (eff_move rfl) rfl rfl rfl ?_
      refine aops_eff (eff_move rfl) rfl rfl rfl ?_
      obtain ⟨v3, hv3, h⟩ := ob h
      refine aops_eff (w_call0s (c_spec_l4Has v1.2 x1.1 v3 hv3) rfl (va_cons (va_T okI rfl rfl) (va_cons (va_same rfl) va_nil))) rfl rfl rfl ?_
      refine aops_nil ?_
      refine then_n ?_
      rcases cb h with ⟨q4, h⟩ | ⟨q4, h⟩
      · refine ac_condT rfl q4 ?_
        refine ac_exit ?_
        refine then_exit ?_
        refine block_here ?_
        refine then_n ?_
        refine ac_region ?_
        refine aops_eff (eff_move rfl) rfl rfl rfl ?_
        refine aops_eff (x_add rfl rfl) rfl rfl rfl ?_
        refine aops_eff (eff_assign rfl) rfl rfl rfl ?_
        refine aops_nil ?_
        refine then_n ?_
        obtain rfl := so h
        exact ⟨_, rfl, (ent_mk (σ := sg [(0, 0), (1, 1), (2, 2), (3, 3)]) ⟨⟨_, rfl, rfl⟩, ⟨_, rfl, ⟨rfl, rfl, rfl, rfl⟩⟩, ⟨_, rfl, ⟨rfl, rfl, rfl, rfl⟩⟩, ⟨_, rfl, ⟨rfl, rfl, rfl, rfl⟩⟩, ⟨_, rfl, rfl⟩, trivial⟩ ⟨⟨_, rfl, rfl, .inr ⟨_, _, rfl, ⟨_, _, rfl, rfl, ⟨_, _, rfl, rfl, ⟨_, _, rfl, ⟨rfl, rfl, rfl, rfl⟩, rfl⟩⟩⟩, rfl⟩⟩, rfl, ⟨_, rfl, rfl, .inl ⟨rfl, okI.plainO _⟩⟩, rfl, ⟨_, rfl, rfl, .inl ⟨rfl, okI.plainO _⟩⟩, rfl, ⟨_, rfl, rfl, .inl ⟨rfl, okLs.plainO _⟩⟩, rfl, trivial⟩ rfl)⟩
      · refine ac_condF rfl q4 ?_
        refine ac_skip ?_
        refine then_n ?_
        refine ac_seq ?_
        refine ac_region ?_
        refine aops_eff (w_field_ptr TT_ok rfl rfl rfl rfl rfl rfl rfl) rfl rfl rfl ?_
        refine aops_eff (w_load_ptr TT_ok rfl rfl rfl rfl rfl rfl rfl) rfl rfl rfl ?_
        obtain ⟨q13, h⟩ := cg h
        refine aops_eff (x_make TT_ok q13 rfl rfl rfl rfl rfl rfl rfl rfl) rfl rfl rfl ?_
        refine aops_eff (eff_assign rfl) rfl rfl rfl ?_
        refine aops_nil ?_
        refine then_n ?_
        refine ac_ent (t := mkS [(0, .int a0), (5, .ptr 0 0 0), (6, .own 2 0 v1.2.length), (7, .own 3 0 x1.2.length), (8, .int x1.1), (9, .own 4 0 ((List.replicate v1.1.cols.toNat (0 : Int)).length))] [(0, ⟨3, [[.int v1.1.rows, .int v1.1.cols, .own 1 0 v1.1.cells.length]]⟩), (1, ⟨1, List.map (ow eI) v1.1.cells⟩), (2, ⟨1, List.map (ow eI) v1.2⟩), (3, ⟨1, List.map (ow (eLs 1 eI)) x1.2⟩), (4, ⟨1, List.map (ow eI) (List.replicate v1.1.cols.toNat (0 : Int))⟩)] 5 [5, 6, 7, 8, 9, 10, 11, 12, 13, 14, 15, 16, 17, 18]) (ent_mk (σ := sg [(0, 0), (1, 1), (2, 2), (3, 3), (4, 4)]) ⟨⟨_, rfl, rfl⟩, ⟨_, rfl, ⟨rfl, rfl, rfl, rfl⟩⟩, ⟨_, rfl, ⟨rfl, rfl, rfl, rfl⟩⟩, ⟨_, rfl, ⟨rfl, rfl, rfl, rfl⟩⟩, ⟨_, rfl, rfl⟩, ⟨_, rfl, ⟨rfl, rfl, (by simp only [len_map, List.length_append, List.length_set, List.length_replicate, List.length_cons, List.length_nil]), rfl⟩⟩, trivial⟩ ⟨⟨_, rfl, rfl, .inr ⟨_, _, rfl, ⟨_, _, rfl, rfl, ⟨_, _, rfl, rfl, ⟨_, _, rfl, ⟨rfl, rfl, rfl, rfl⟩, rfl⟩⟩⟩, rfl⟩⟩, rfl, ⟨_, rfl, rfl, .inl ⟨rfl, okI.plainO _⟩⟩, rfl, ⟨_, rfl, rfl, .inl ⟨rfl, okI.plainO _⟩⟩, rfl, ⟨_, rfl, rfl, .inl ⟨rfl, okLs.plainO _⟩⟩, rfl, ⟨_, rfl, rfl, .inl ⟨rep_eq (e := eI) (z := 0) _, okI.plainO _⟩⟩, rfl, trivial⟩ rfl) ?_
        refine ac_seq ?_
        refine ac_region ?_
        refine aops_eff (eff_move rfl) rfl rfl rfl ?_
        refine aops_eff (eff_move rfl) rfl rfl rfl ?_
        obtain ⟨v5, hv5, h⟩ := ob h
        refine aops_eff (x_at_own TT_ok (atL_nn hv5) (atL_lt hv5) rfl rfl rfl rfl rfl rfl rfl) rfl rfl rfl ?_
        refine aops_eff (x_store TT_ok okIo (u := 1) (atL_get hv5) rfl rfl rfl rfl rfl rfl) rfl rfl rfl ?_
        refine aops_nil ?_
        refine then_n ?_
        refine ac_seq ?_
        refine ac_seq ?_
        refine ac_region ?_
        refine aops_eff (eff_assign rfl) rfl rfl rfl ?_
        refine aops_nil ?_
        refine then_n ?_
        refine ac_block ?_
        obtain ⟨y11, hy11, h⟩ := ob h
        refine ac_Lp (body := (m_spec_l4Kernel_L2 a0 v1 x1)) hy11 (fun (x2 : ((List Int) × Int)) => mkS [(0, .int a0), (5, .ptr 0 0 0), (6, .own 2 0 v1.2.length), (7, .own 3 0 x1.2.length), (8, .int x1.1), (9, .own 4 0 x2.1.length), (10, .int x2.2)] [(0, ⟨3, [[.int v1.1.rows, .int v1.1.cols, .own 1 0 v1.1.cells.length]]⟩), (1, ⟨1, List.map (ow eI) v1.1.cells⟩), (2, ⟨1, List.map (ow eI) v1.2⟩), (3, ⟨1, List.map (ow (eLs 1 eI)) x1.2⟩), (4, ⟨1, List.map (ow eI) x2.1⟩)] 5 [5, 6, 7, 8, 9, 10, 11, 12, 13, 14, 15, 16, 17, 18]) (fun r e t => e = .exit 2 ∧ Ent t (mkS [(0, .int a0), (5, .ptr 0 0 0), (6, .own 2 0 v1.2.length), (7, .own 3 0 x1.2.length), (8, .int x1.1), (9, .own 4 0 r.length)] [(0, ⟨3, [[.int v1.1.rows, .int v1.1.cols, .own 1 0 v1.1.cells.length]]⟩), (1, ⟨1, List.map (ow eI) v1.1.cells⟩), (2, ⟨1, List.map (ow eI) v1.2⟩), (3, ⟨1, List.map (ow (eLs 1 eI)) x1.2⟩), (4, ⟨1, List.map (ow eI) r⟩)] 5 [5, 6, 7, 8, 9, 10, 11, 12, 13, 14, 15, 16, 17, 18])) (ent_mk (σ := sg [(0, 0), (1, 1), (2, 2), (3, 3), (4, 4)]) ⟨⟨_, rfl, rfl⟩, ⟨_, rfl, ⟨rfl, rfl, rfl, rfl⟩⟩, ⟨_, rfl, ⟨rfl, rfl, rfl, rfl⟩⟩, ⟨_, rfl, ⟨rfl, rfl, rfl, rfl⟩⟩, ⟨_, rfl, rfl⟩, ⟨_, rfl, ⟨rfl, rfl, (by simp only [len_map, List.length_append, List.length_set, List.length_replicate, List.length_cons, List.length_nil]), rfl⟩⟩, ⟨_, rfl, rfl⟩, trivial⟩ ⟨⟨_, rfl, rfl, .inr ⟨_, _, rfl, ⟨_, _, rfl, rfl, ⟨_, _, rfl, rfl, ⟨_, _, rfl, ⟨rfl, rfl, rfl, rfl⟩, rfl⟩⟩⟩, rfl⟩⟩, rfl, ⟨_, rfl, rfl, .inl ⟨rfl, okI.plainO _⟩⟩, rfl, ⟨_, rfl, rfl, .inl ⟨rfl, okI.plainO _⟩⟩, rfl, ⟨_, rfl, rfl, .inl ⟨rfl, okLs.plainO _⟩⟩, rfl, ⟨_, rfl, rfl, .inl ⟨rfl, okI.plainO _⟩⟩, rfl, trivial⟩ rfl) ?_ ?_
        · intro x2 o h
          refine ac_seq ?_
          refine ac_seq ?_
          refine ac_region ?_
          refine aops_eff (eff_move rfl) rfl rfl rfl ?_
          refine aops_eff (eff_move rfl) rfl rfl rfl ?_
          refine aops_eff (w_len_own TT_ok rfl rfl rfl rfl) rfl rfl rfl ?_
          refine aops_eff (w_cmp rfl rfl rfl) rfl rfl rfl ?_
          refine aops_nil ?_
          refine then_n ?_
          rcases cb h with ⟨q6, h⟩ | ⟨q6, h⟩
          · refine ac_condT rfl q6 ?_
            refine ac_skip ?_
            refine then_n ?_
            refine ac_seq ?_
            refine ac_block ?_
            refine ac_region_draw MIXX ?_
            refine aops_eff (eff_move rfl) rfl rfl rfl ?_
            refine aops_eff (eff_move rfl) rfl rfl rfl ?_
            refine aops_eff (eff_move rfl) rfl rfl rfl ?_
            obtain ⟨v7, hv7, h⟩ := ob h
            refine aops_eff (x_at_own TT_ok (atL_nn hv7) (atL_lt hv7) rfl rfl rfl rfl rfl rfl rfl) rfl rfl rfl ?_
            refine aops_eff (w_load_ptr TT_ok rfl rfl rfl rfl (map_at (atL_get hv7)) rfl rfl) rfl rfl rfl ?_
            refine aops_eff (eff_move rfl) rfl rfl rfl ?_
            refine aops_eff (w_field_ptr TT_ok rfl rfl rfl rfl rfl rfl rfl) rfl rfl rfl ?_
            refine aops_eff (w_load_ptr TT_ok rfl rfl rfl rfl rfl rfl rfl) rfl rfl rfl ?_
            refine aops_eff (eff_move rfl) rfl rfl rfl ?_
            refine aops_eff (w_field_ptr TT_ok rfl rfl rfl rfl rfl rfl rfl) rfl rfl rfl ?_
            refine aops_eff (w_load_ptr TT_ok rfl rfl rfl rfl rfl rfl rfl) rfl rfl rfl ?_
            refine aops_eff (x_mul rfl rfl) rfl rfl rfl ?_
            refine aops_eff (eff_move rfl) rfl rfl rfl ?_
            refine aops_eff (x_add rfl rfl) rfl rfl rfl ?_
            obtain ⟨v8, hv8, h⟩ := ob h
            refine aops_eff (x_at_own TT_ok (atL_nn hv8) (atL_lt hv8) rfl rfl rfl rfl rfl rfl rfl) rfl rfl rfl ?_
            refine aops_eff (w_load_ptr TT_ok rfl rfl rfl rfl (map_at (atL_get hv8)) rfl rfl) rfl rfl rfl ?_
            refine aops_eff (x_neg rfl) rfl rfl rfl ?_
            obtain ⟨v9, hv9, h⟩ := ob h
            refine aops_eff (w_call0s (c_spec_l2Mod a0 (wr (-v8)) v9 hv9) rfl (va_cons (va_same rfl) (va_cons (va_same rfl) va_nil))) rfl rfl rfl ?_
            obtain ⟨v10, hv10, h⟩ := ob h
            refine aops_eff (x_at_own TT_ok (atL_nn hv10) (atL_lt hv10) rfl rfl rfl rfl rfl rfl rfl) rfl rfl rfl ?_
            refine aops_eff (x_store TT_ok okIo (u := v9) (atL_get hv10) rfl rfl rfl rfl rfl rfl) rfl rfl rfl ?_
            refine aops_nil ?_
            refine ⟨by kernel_rfl, ?_⟩
            refine block_n ?_
            refine then_n ?_
            refine ac_ent (t := mkS [(0, .int a0), (5, .ptr 0 0 0), (6, .own 2 0 v1.2.length), (7, .own 3 0 x1.2.length), (8, .int x1.1), (9, .own 4 0 ((x2.1.set v7.toNat v9).length)), (10, .int x2.2)] [(0, ⟨3, [[.int v1.1.rows, .int v1.1.cols, .own 1 0 v1.1.cells.length]]⟩), (1, ⟨1, List.map (ow eI) v1.1.cells⟩), (2, ⟨1, List.map (ow eI) v1.2⟩), (3, ⟨1, List.map (ow (eLs 1 eI)) x1.2⟩), (4, ⟨1, List.map (ow eI) (x2.1.set v7.toNat v9)⟩)] 5 [5, 6, 7, 8, 9, 10, 11, 12, 13, 14, 15, 16, 17, 18]) (ent_mk (σ := sg [(0, 0), (1, 1), (2, 2), (3, 3), (4, 4)]) ⟨⟨_, rfl, rfl⟩, ⟨_, rfl, ⟨rfl, rfl, rfl, rfl⟩⟩, ⟨_, rfl, ⟨rfl, rfl, rfl, rfl⟩⟩, ⟨_, rfl, ⟨rfl, rfl, rfl, rfl⟩⟩, ⟨_, rfl, rfl⟩, ⟨_, rfl, ⟨rfl, rfl, (by simp only [len_map, List.length_append, List.length_set, List.length_replicate, List.length_cons, List.length_nil]), rfl⟩⟩, ⟨_, rfl, rfl⟩, trivial⟩ ⟨⟨_, rfl, rfl, .inr ⟨_, _, rfl, ⟨_, _, rfl, rfl, ⟨_, _, rfl, rfl, ⟨_, _, rfl, ⟨rfl, rfl, rfl, rfl⟩, rfl⟩⟩⟩, rfl⟩⟩, rfl, ⟨_, rfl, rfl, .inl ⟨rfl, okI.plainO _⟩⟩, rfl, ⟨_, rfl, rfl, .inl ⟨rfl, okI.plainO _⟩⟩, rfl, ⟨_, rfl, rfl, .inl ⟨rfl, okLs.plainO _⟩⟩, rfl, ⟨_, rfl, rfl, .inl ⟨rfl, okI.plainO _⟩⟩, rfl, trivial⟩ rfl) ?_
            refine ac_region ?_
            refine aops_eff (eff_move rfl) rfl rfl rfl ?_
            refine aops_eff (x_add rfl rfl) rfl rfl rfl ?_
            refine aops_eff (eff_assign rfl) rfl rfl rfl ?_
            refine aops_nil ?_
            refine then_n ?_
            obtain rfl := so h
            exact ⟨_, rfl, (ent_mk (σ := sg [(0, 0), (1, 1), (2, 2), (3, 3), (4, 4)]) ⟨⟨_, rfl, rfl⟩, ⟨_, rfl, ⟨rfl, rfl, rfl, rfl⟩⟩, ⟨_, rfl, ⟨rfl, rfl, rfl, rfl⟩⟩, ⟨_, rfl, ⟨rfl, rfl, rfl, rfl⟩⟩, ⟨_, rfl, rfl⟩, ⟨_, rfl, ⟨rfl, rfl, rfl, rfl⟩⟩, ⟨_, rfl, rfl⟩, trivial⟩ ⟨⟨_, rfl, rfl, .inr ⟨_, _, rfl, ⟨_, _, rfl, rfl, ⟨_, _, rfl, rfl, ⟨_, _, rfl, ⟨rfl, rfl, rfl, rfl⟩, rfl⟩⟩⟩, rfl⟩⟩, rfl, ⟨_, rfl, rfl, .inl ⟨rfl, okI.plainO _⟩⟩, rfl, ⟨_, rfl, rfl, .inl ⟨rfl, okI.plainO _⟩⟩, rfl, ⟨_, rfl, rfl, .inl ⟨rfl, okLs.plainO _⟩⟩, rfl, ⟨_, rfl, rfl, .inl ⟨rfl, okI.plainO _⟩⟩, rfl, trivial⟩ rfl)⟩
          · refine ac_condF rfl q6 ?_
            refine ac_exit ?_
            refine then_exit ?_
            refine then_exit ?_
            obtain rfl := so h
            exact ⟨_, rfl, rfl, (ent_mk (σ := sg [(0, 0), (1, 1), (2, 2), (3, 3), (4, 4)]) ⟨⟨_, rfl, rfl⟩, ⟨_, rfl, ⟨rfl, rfl, rfl, rfl⟩⟩, ⟨_, rfl, ⟨rfl, rfl, rfl, rfl⟩⟩, ⟨_, rfl, ⟨rfl, rfl, rfl, rfl⟩⟩, ⟨_, rfl, rfl⟩, ⟨_, rfl, ⟨rfl, rfl, rfl, rfl⟩⟩, trivial⟩ ⟨⟨_, rfl, rfl, .inr ⟨_, _, rfl, ⟨_, _, rfl, rfl, ⟨_, _, rfl, rfl, ⟨_, _, rfl, ⟨rfl, rfl, rfl, rfl⟩, rfl⟩⟩⟩, rfl⟩⟩, rfl, ⟨_, rfl, rfl, .inl ⟨rfl, okI.plainO _⟩⟩, rfl, ⟨_, rfl, rfl, .inl ⟨rfl, okI.plainO _⟩⟩, rfl, ⟨_, rfl, rfl, .inl ⟨rfl, okLs.plainO _⟩⟩, rfl, ⟨_, rfl, rfl, .inl ⟨rfl, okI.plainO _⟩⟩, rfl, trivial⟩ rfl)⟩
        · rintro e t ⟨rfl, hent⟩
          refine block_here ?_
          refine then_n ?_
          refine ac_ent hent ?_
          refine ac_region ?_
          refine aops_eff (eff_move rfl) rfl rfl rfl ?_
          refine aops_eff (eff_move rfl) rfl rfl rfl ?_
          refine aops_eff (w_lit TT_ok rfl rfl rfl rfl rfl rfl rfl rfl rfl rfl rfl rfl) rfl rfl rfl ?_
          obtain ⟨q12, h⟩ := cg h
          refine aops_eff (x_app1 TT_ok (l := x1.2) (c := [.own 4 0 y11.length]) q12 rfl rfl rfl rfl rfl rfl rfl rfl rfl rfl rfl rfl rfl rfl) rfl rfl rfl ?_
          refine aops_eff (eff_assign rfl) rfl rfl rfl ?_
          refine aops_nil ?_
          refine block_n ?_
          refine then_n ?_
          refine ac_ent (t := mkS [(0, .int a0), (5, .ptr 0 0 0), (6, .own 2 0 v1.2.length), (7, .own 6 0 ((x1.2 ++ [y11]).length)), (8, .int x1.1)] [(0, ⟨3, [[.int v1.1.rows, .int v1.1.cols, .own 1 0 v1.1.cells.length]]⟩), (1, ⟨1, List.map (ow eI) v1.1.cells⟩), (2, ⟨1, List.map (ow eI) v1.2⟩), (6, ⟨1, List.map (ow (eLs 1 eI)) (x1.2 ++ [y11])⟩)] 7 [7, 8, 9, 10, 11, 12, 13, 14, 15, 16, 17, 18, 19, 20]) (Ent.trans (ent_absL (b := 6) (b' := 4) (j := 0) (es' := List.map eI y11) rfl rfl rfl rfl (len_map _ _) (okI.frzs _)) (ent_mk (σ := sg [(0, 0), (1, 1), (2, 2), (6, 6)]) ⟨⟨_, rfl, rfl⟩, ⟨_, rfl, ⟨rfl, rfl, rfl, rfl⟩⟩, ⟨_, rfl, ⟨rfl, rfl, rfl, rfl⟩⟩, ⟨_, rfl, ⟨rfl, rfl, (by simp only [len_map, List.length_append, List.length_set, List.length_replicate, List.length_cons, List.length_nil]), rfl⟩⟩, ⟨_, rfl, rfl⟩, trivial⟩ ⟨⟨_, rfl, rfl, .inr ⟨_, _, rfl, ⟨_, _, rfl, rfl, ⟨_, _, rfl, rfl, ⟨_, _, rfl, ⟨rfl, rfl, rfl, rfl⟩, rfl⟩⟩⟩, rfl⟩⟩, rfl, ⟨_, rfl, rfl, .inl ⟨rfl, okI.plainO _⟩⟩, rfl, ⟨_, rfl, rfl, .inl ⟨rfl, okI.plainO _⟩⟩, rfl, ⟨_, rfl, rfl, .inl ⟨app_eq y11 rfl, okLs.plainO _⟩⟩, rfl, trivial⟩ rfl)) ?_
          refine ac_region ?_
          refine aops_eff (eff_move rfl) rfl rfl rfl ?_
          refine aops_eff (x_add rfl rfl) rfl rfl rfl ?_
          refine aops_eff (eff_assign rfl) rfl rfl rfl ?_
          refine aops_nil ?_
          refine then_n ?_
          obtain rfl := so h
          exact ⟨_, rfl, (ent_mk (σ := sg [(0, 0), (1, 1), (2, 2), (3, 6)]) ⟨⟨_, rfl, rfl⟩, ⟨_, rfl, ⟨rfl, rfl, rfl, rfl⟩⟩, ⟨_, rfl, ⟨rfl, rfl, rfl, rfl⟩⟩, ⟨_, rfl, ⟨rfl, rfl, rfl, rfl⟩⟩, ⟨_, rfl, rfl⟩, trivial⟩ ⟨⟨_, rfl, rfl, .inr ⟨_, _, rfl, ⟨_, _, rfl, rfl, ⟨_, _, rfl, rfl, ⟨_, _, rfl, ⟨rfl, rfl, rfl, rfl⟩, rfl⟩⟩⟩, rfl⟩⟩, rfl, ⟨_, rfl, rfl, .inl ⟨rfl, okI.plainO _⟩⟩, rfl, ⟨_, rfl, rfl, .inl ⟨rfl, okI.plainO _⟩⟩, rfl, ⟨_, rfl, rfl, .inl ⟨rfl, okLs.plainO _⟩⟩, rfl, trivial⟩ rfl)⟩
    · refine ac_condF rfl q2 ?_
      refine ac_exit ?_
      refine then_exit ?_
      refine then_exit ?_
      obtain rfl := so h
      exact ⟨_, rfl, rfl, (ent_mk (σ := sg [(0, 3)]) ⟨⟨_, rfl, ⟨rfl, rfl, rfl, rfl⟩⟩, trivial⟩ ⟨⟨_, rfl, rfl, .inl ⟨rfl, okLs.plainO _⟩⟩, rfl, trivial⟩ rfl)⟩
  · rintro e t ⟨rfl, hent⟩
    refine block_here ?_
    refine then_n ?_
    refine ac_ent hent ?_
    refine ac_seq ?_
    refine ac_region ?_
    refine aops_eff (eff_move rfl) rfl rfl rfl ?_
    refine aops_eff (eff_assign rfl) rfl rfl rfl ?_
    refine aops_nil ?_
    refine then_n ?_
    refine ac_ret ?_
    obtain rfl := so h
    exact ret_mk rfl rfl rfl (xz_list (x_f1 okLs rfl rfl))

noncomputable def m_spec_l11At_L1 (a0 : Rp) (a1 : Rp) (a2 : Int) (x1 : (Int × Int)) : Option ((Int × Int) ⊕ Int) :=
  bif decide (x1.2 < a2) then
    (Option.bind (atL a0.dims x1.2) fun v2 =>
    Option.bind (atL a1.dims x1.2) fun v3 =>
    some (.inl (wr (x1.1 + (wr (v2 * v3))), wr (x1.2 + 1))))
  else
    (some (.inr x1.1))

noncomputable def m_spec_l11At (a0 : Rp) (a1 : Rp) (a2 : Int) : Option Int :=
  Option.bind (Lp (m_spec_l11At_L1 a0 a1 a2) (0, 0)) fun y4 =>
  some (y4)

theorem c_spec_l11At (a0 : Rp) (a1 : Rp) (a2 : Int) (r : Int) (h : m_spec_l11At a0 a1 a2 = some r) : HasC Try.prog 159 [.agg (eR a0), .agg (eR a1), .int a2] (.int r) := by
  refine hasC_mk TT_ok (rvs := [.tmp 6]) (ns := [0, 1, 2, 3, 4, 5, 6, 7, 8, 9, 10, 11, 12, 13]) Try.func159 rfl rfl Try.ntmps159 rfl rfl rfl ?_
  refine ac_seq ?_
  refine ac_region ?_
  refine aops_eff (w_box rfl rfl rfl rfl) rfl rfl rfl ?_
  refine aops_eff (w_box rfl rfl rfl rfl) rfl rfl rfl ?_
  refine aops_eff (eff_assign rfl) rfl rfl rfl ?_
  refine aops_nil ?_
  refine then_n ?_
  refine ac_seq ?_
  refine ac_region ?_
  refine aops_eff (eff_assign rfl) rfl rfl rfl ?_
  refine aops_nil ?_
  refine then_n ?_
  refine ac_seq ?_
  refine ac_seq ?_
  refine ac_region ?_
  refine aops_eff (eff_assign rfl) rfl rfl rfl ?_
  refine aops_nil ?_
  refine then_n ?_
  refine ac_block ?_
  obtain ⟨y4, hy4, h⟩ := ob h
  refine ac_Lp (body := (m_spec_l11At_L1 a0 a1 a2)) hy4 (fun (x1 : (Int × Int)) => mkS [(2, .int a2), (3, .ptr 0 0 0), (4, .ptr 1 0 0), (7, .int x1.1), (8, .int x1.2)] [(0, ⟨6, [[.int a0.p, .int a0.q.n, .list 1 (List.map eI a0.q.src), .list 1 (List.map eI a0.q.tgt), .list 1 (List.map eI a0.dims), .list 3 (List.map eM a0.maps)]]⟩), (1, ⟨6, [[.int a1.p, .int a1.q.n, .list 1 (List.map eI a1.q.src), .list 1 (List.map eI a1.q.tgt), .list 1 (List.map eI a1.dims), .list 3 (List.map eM a1.maps)]]⟩)] 2 [2, 3, 4, 5, 6, 7, 8, 9, 10, 11, 12, 13, 14, 15]) (fun r e t => e = .exit 0 ∧ Ent t (mkS [(7, .int r)] [] 0 [0, 1, 2, 3, 4, 5, 6, 7, 8, 9, 10, 11, 12, 13])) (ent_mk (σ := sg [(0, 0), (1, 1)]) ⟨⟨_, rfl, rfl⟩, ⟨_, rfl, ⟨rfl, rfl, rfl, rfl⟩⟩, ⟨_, rfl, ⟨rfl, rfl, rfl, rfl⟩⟩, ⟨_, rfl, rfl⟩, ⟨_, rfl, rfl⟩, trivial⟩ ⟨⟨_, rfl, rfl, .inl ⟨rfl, plain_of rfl⟩⟩, rfl, ⟨_, rfl, rfl, .inl ⟨rfl, plain_of rfl⟩⟩, rfl, trivial⟩ rfl) ?_ ?_
  · intro x1 o h
    refine ac_seq ?_
    refine ac_seq ?_
    refine ac_region ?_
    refine aops_eff (eff_move rfl) rfl rfl rfl ?_
    refine aops_eff (eff_move rfl) rfl rfl rfl ?_
    refine aops_eff (w_cmp rfl rfl rfl) rfl rfl rfl ?_
    refine aops_nil ?_
    refine then_n ?_
    rcases cb h with ⟨q1, h⟩ | ⟨q1, h⟩
    · refine ac_condT rfl q1 ?_
      refine ac_skip ?_
      refine then_n ?_
      refine ac_seq ?_
      refine ac_block ?_
      refine ac_region_draw MIXX ?_
      refine aops_eff (eff_move rfl) rfl rfl rfl ?_
      refine aops_eff (w_field_ptr TT_ok rfl rfl rfl rfl rfl rfl rfl) rfl rfl rfl ?_
      refine aops_eff (w_load_ptr TT_ok rfl rfl rfl rfl rfl rfl rfl) rfl rfl rfl ?_
      refine aops_eff (eff_move rfl) rfl rfl rfl ?_
      obtain ⟨v2, hv2, h⟩ := ob h
      refine aops_eff (x_at_list TT_ok hv2 rfl rfl rfl rfl rfl rfl) rfl rfl rfl ?_
      refine aops_eff (w_load_ref TT_ok rfl rfl rfl rfl rfl rfl) rfl rfl rfl ?_
      refine aops_eff (w_field_ptr TT_ok rfl rfl rfl rfl rfl rfl rfl) rfl rfl rfl ?_
      refine aops_eff (w_load_ptr TT_ok rfl rfl rfl rfl rfl rfl rfl) rfl rfl rfl ?_
      refine aops_eff (eff_move rfl) rfl rfl rfl ?_
      obtain ⟨v3, hv3, h⟩ := ob h
      refine aops_eff (x_at_list TT_ok hv3 rfl rfl rfl rfl rfl rfl) rfl rfl rfl ?_
      refine aops_eff (w_load_ref TT_ok rfl rfl rfl rfl rfl rfl) rfl rfl rfl ?_
      refine aops_eff (x_mul rfl rfl) rfl rfl rfl ?_
      refine aops_eff (x_add rfl rfl) rfl rfl rfl ?_
      refine aops_eff (eff_assign rfl) rfl rfl rfl ?_
      refine aops_nil ?_
      refine ⟨by kernel_rfl, ?_⟩
      refine block_n ?_
      refine then_n ?_
      refine ac_ent (t := mkS [(2, .int a2), (3, .ptr 0 0 0), (4, .ptr 1 0 0), (7, .int (wr (x1.1 + (wr (v2 * v3))))), (8, .int x1.2)] [(0, ⟨6, [[.int a0.p, .int a0.q.n, .list 1 (List.map eI a0.q.src), .list 1 (List.map eI a0.q.tgt), .list 1 (List.map eI a0.dims), .list 3 (List.map eM a0.maps)]]⟩), (1, ⟨6, [[.int a1.p, .int a1.q.n, .list 1 (List.map eI a1.q.src), .list 1 (List.map eI a1.q.tgt), .list 1 (List.map eI a1.dims), .list 3 (List.map eM a1.maps)]]⟩)] 2 [2, 3, 4, 5, 6, 7, 8, 9, 10, 11, 12, 13, 14, 15]) (ent_mk (σ := sg [(0, 0), (1, 1)]) ⟨⟨_, rfl, rfl⟩, ⟨_, rfl, ⟨rfl, rfl, rfl, rfl⟩⟩, ⟨_, rfl, ⟨rfl, rfl, rfl, rfl⟩⟩, ⟨_, rfl, rfl⟩, ⟨_, rfl, rfl⟩, trivial⟩ ⟨⟨_, rfl, rfl, .inl ⟨rfl, plain_of rfl⟩⟩, rfl, ⟨_, rfl, rfl, .inl ⟨rfl, plain_of rfl⟩⟩, rfl, trivial⟩ rfl) ?_
      refine ac_region ?_
      refine aops_eff (eff_move rfl) rfl rfl rfl ?_
      refine aops_eff (x_add rfl rfl) rfl rfl rfl ?_
      refine aops_eff (eff_assign rfl) rfl rfl rfl ?_
      refine aops_nil ?_
      refine then_n ?_
      obtain rfl := so h
      exact ⟨_, rfl, (ent_mk (σ := sg [(0, 0), (1, 1)]) ⟨⟨_, rfl, rfl⟩, ⟨_, rfl, ⟨rfl, rfl, rfl, rfl⟩⟩, ⟨_, rfl, ⟨rfl, rfl, rfl, rfl⟩⟩, ⟨_, rfl, rfl⟩, ⟨_, rfl, rfl⟩, trivial⟩ ⟨⟨_, rfl, rfl, .inl ⟨rfl, plain_of rfl⟩⟩, rfl, ⟨_, rfl, rfl, .inl ⟨rfl, plain_of rfl⟩⟩, rfl, trivial⟩ rfl)⟩
    · refine ac_condF rfl q1 ?_
      refine ac_exit ?_
      refine then_exit ?_
      refine then_exit ?_
      obtain rfl := so h
      exact ⟨_, rfl, rfl, (ent_mk (σ := sg []) ⟨⟨_, rfl, rfl⟩, trivial⟩ trivial rfl)⟩
  · rintro e t ⟨rfl, hent⟩
    refine block_here ?_
    refine then_n ?_
    refine ac_ent hent ?_
    refine ac_seq ?_
    refine ac_region ?_
    refine aops_eff (eff_move rfl) rfl rfl rfl ?_
    refine aops_eff (eff_assign rfl) rfl rfl rfl ?_
    refine aops_nil ?_
    refine then_n ?_
    refine ac_ret ?_
    obtain rfl := so h
    exact ret_mk rfl rfl rfl (fz_int rfl)

noncomputable def m_spec_l11Size_L1 (a0 : Rp) (a1 : Rp) (x1 : (Int × Int)) : Option ((Int × Int) ⊕ Int) :=
  bif decide (x1.2 < (a0.dims.length : Int)) then
    (Option.bind (atL a0.dims x1.2) fun v2 =>
    Option.bind (atL a1.dims x1.2) fun v3 =>
    some (.inl (wr (x1.1 + (wr (v2 * v3))), wr (x1.2 + 1))))
  else
    (some (.inr x1.1))

noncomputable def m_spec_l11Size (a0 : Rp) (a1 : Rp) : Option Int :=
  Option.bind (Lp (m_spec_l11Size_L1 a0 a1) (0, 0)) fun y4 =>
  some (y4)

theorem c_spec_l11Size (a0 : Rp) (a1 : Rp) (r : Int) (h : m_spec_l11Size a0 a1 = some r) : HasC Try.prog 158 [.agg (eR a0), .agg (eR a1)] (.int r) := by
  refine hasC_mk TT_ok (rvs := [.tmp 4]) (ns := [0, 1, 2, 3, 4, 5, 6, 7, 8, 9, 10, 11, 12, 13]) Try.func158 rfl rfl Try.ntmps158 rfl rfl rfl ?_
  refine ac_seq ?_
  refine ac_region ?_
  refine aops_eff (w_box rfl rfl rfl rfl) rfl rfl rfl ?_
  refine aops_eff (w_box rfl rfl rfl rfl) rfl rfl rfl ?_
  refine aops_eff (eff_assign rfl) rfl rfl rfl ?_
  refine aops_nil ?_
  refine then_n ?_
  refine ac_seq ?_
  refine ac_region ?_
  refine aops_eff (eff_assign rfl) rfl rfl rfl ?_
  refine aops_nil ?_
  refine then_n ?_
  refine ac_seq ?_
  refine ac_seq ?_
  refine ac_region ?_
  refine aops_eff (eff_assign rfl) rfl rfl rfl ?_
  refine aops_nil ?_
  refine then_n ?_
  refine ac_block ?_
  obtain ⟨y4, hy4, h⟩ := ob h
  refine ac_Lp (body := (m_spec_l11Size_L1 a0 a1)) hy4 (fun (x1 : (Int × Int)) => mkS [(2, .ptr 0 0 0), (3, .ptr 1 0 0), (5, .int x1.1), (6, .int x1.2)] [(0, ⟨6, [[.int a0.p, .int a0.q.n, .list 1 (List.map eI a0.q.src), .list 1 (List.map eI a0.q.tgt), .list 1 (List.map eI a0.dims), .list 3 (List.map eM a0.maps)]]⟩), (1, ⟨6, [[.int a1.p, .int a1.q.n, .list 1 (List.map eI a1.q.src), .list 1 (List.map eI a1.q.tgt), .list 1 (List.map eI a1.dims), .list 3 (List.map eM a1.maps)]]⟩)] 2 [2, 3, 4, 5, 6, 7, 8, 9, 10, 11, 12, 13, 14, 15]) (fun r e t => e = .exit 0 ∧ Ent t (mkS [(5, .int r)] [] 0 [0, 1, 2, 3, 4, 5, 6, 7, 8, 9, 10, 11, 12, 13])) (ent_mk (σ := sg [(0, 0), (1, 1)]) ⟨⟨_, rfl, ⟨rfl, rfl, rfl, rfl⟩⟩, ⟨_, rfl, ⟨rfl, rfl, rfl, rfl⟩⟩, ⟨_, rfl, rfl⟩, ⟨_, rfl, rfl⟩, trivial⟩ ⟨⟨_, rfl, rfl, .inl ⟨rfl, plain_of rfl⟩⟩, rfl, ⟨_, rfl, rfl, .inl ⟨rfl, plain_of rfl⟩⟩, rfl, trivial⟩ rfl) ?_ ?_
  · intro x1 o h
    refine ac_seq ?_
    refine ac_seq ?_
    refine ac_region ?_
    refine aops_eff (eff_move rfl) rfl rfl rfl ?_
    refine aops_eff (w_field_ptr TT_ok rfl rfl rfl rfl rfl rfl rfl) rfl rfl rfl ?_
    refine aops_eff (w_load_ptr TT_ok rfl rfl rfl rfl rfl rfl rfl) rfl rfl rfl ?_
    refine aops_eff (AEff.val (w_len_list TT_ok rfl rfl rfl) (v' := .int (a0.dims.length : Int)) (by first | rw [len_map] | rw [encI_len])) rfl rfl rfl ?_
    refine aops_eff (w_cmp rfl rfl rfl) rfl rfl rfl ?_
    refine aops_nil ?_
    refine then_n ?_
    rcases cb h with ⟨q1, h⟩ | ⟨q1, h⟩
    · refine ac_condT rfl q1 ?_
      refine ac_skip ?_
      refine then_n ?_
      refine ac_seq ?_
      refine ac_block ?_
      refine ac_region_draw MIXX ?_
      refine aops_eff (eff_move rfl) rfl rfl rfl ?_
      refine aops_eff (w_field_ptr TT_ok rfl rfl rfl rfl rfl rfl rfl) rfl rfl rfl ?_
      refine aops_eff (w_load_ptr TT_ok rfl rfl rfl rfl rfl rfl rfl) rfl rfl rfl ?_
      refine aops_eff (eff_move rfl) rfl rfl rfl ?_
      obtain ⟨v2, hv2, h⟩ := ob h
      refine aops_eff (x_at_list TT_ok hv2 rfl rfl rfl rfl rfl rfl) rfl rfl rfl ?_
      refine aops_eff (w_load_ref TT_ok rfl rfl rfl rfl rfl rfl) rfl rfl rfl ?_
      refine aops_eff (w_field_ptr TT_ok rfl rfl rfl rfl rfl rfl rfl) rfl rfl rfl ?_
      refine aops_eff (w_load_ptr TT_ok rfl rfl rfl rfl rfl rfl rfl) rfl rfl rfl ?_
      refine aops_eff (eff_move rfl) rfl rfl rfl ?_
      obtain ⟨v3, hv3, h⟩ := ob h
      refine aops_eff (x_at_list TT_ok hv3 rfl rfl rfl rfl rfl rfl) rfl rfl rfl ?_
      refine aops_eff (w_load_ref TT_ok rfl rfl rfl rfl rfl rfl) rfl rfl rfl ?_
      refine aops_eff (x_mul rfl rfl) rfl rfl rfl ?_
      refine aops_eff (x_add rfl rfl) rfl rfl rfl ?_
      refine aops_eff (eff_assign rfl) rfl rfl rfl ?_
      refine aops_nil ?_
      refine ⟨by kernel_rfl, ?_⟩
      refine block_n ?_
      refine then_n ?_
      refine ac_ent (t := mkS [(2, .ptr 0 0 0), (3, .ptr 1 0 0), (5, .int (wr (x1.1 + (wr (v2 * v3))))), (6, .int x1.2)] [(0, ⟨6, [[.int a0.p, .int a0.q.n, .list 1 (List.map eI a0.q.src), .list 1 (List.map eI a0.q.tgt), .list 1 (List.map eI a0.dims), .list 3 (List.map eM a0.maps)]]⟩), (1, ⟨6, [[.int a1.p, .int a1.q.n, .list 1 (List.map eI a1.q.src), .list 1 (List.map eI a1.q.tgt), .list 1 (List.map eI a1.dims), .list 3 (List.map eM a1.maps)]]⟩)] 2 [2, 3, 4, 5, 6, 7, 8, 9, 10, 11, 12, 13, 14, 15]) (ent_mk (σ := sg [(0, 0), (1, 1)]) ⟨⟨_, rfl, ⟨rfl, rfl, rfl, rfl⟩⟩, ⟨_, rfl, ⟨rfl, rfl, rfl, rfl⟩⟩, ⟨_, rfl, rfl⟩, ⟨_, rfl, rfl⟩, trivial⟩ ⟨⟨_, rfl, rfl, .inl ⟨rfl, plain_of rfl⟩⟩, rfl, ⟨_, rfl, rfl, .inl ⟨rfl, plain_of rfl⟩⟩, rfl, trivial⟩ rfl) ?_
      refine ac_region ?_
      refine aops_eff (eff_move rfl) rfl rfl rfl ?_
      refine aops_eff (x_add rfl rfl) rfl rfl rfl ?_
      refine aops_eff (eff_assign rfl) rfl rfl rfl ?_
      refine aops_nil ?_
      refine then_n ?_
      obtain rfl := so h
      exact ⟨_, rfl, (ent_mk (σ := sg [(0, 0), (1, 1)]) ⟨⟨_, rfl, ⟨rfl, rfl, rfl, rfl⟩⟩, ⟨_, rfl, ⟨rfl, rfl, rfl, rfl⟩⟩, ⟨_, rfl, rfl⟩, ⟨_, rfl, rfl⟩, trivial⟩ ⟨⟨_, rfl, rfl, .inl ⟨rfl, plain_of rfl⟩⟩, rfl, ⟨_, rfl, rfl, .inl ⟨rfl, plain_of rfl⟩⟩, rfl, trivial⟩ rfl)⟩
    · refine ac_condF rfl q1 ?_
      refine ac_exit ?_
      refine then_exit ?_
      refine then_exit ?_
      obtain rfl := so h
      exact ⟨_, rfl, rfl, (ent_mk (σ := sg []) ⟨⟨_, rfl, rfl⟩, trivial⟩ trivial rfl)⟩
  · rintro e t ⟨rfl, hent⟩
    refine block_here ?_
    refine then_n ?_
    refine ac_ent hent ?_
    refine ac_seq ?_
    refine ac_region ?_
    refine aops_eff (eff_move rfl) rfl rfl rfl ?_
    refine aops_eff (eff_assign rfl) rfl rfl rfl ?_
    refine aops_nil ?_
    refine then_n ?_
    refine ac_ret ?_
    obtain rfl := so h
    exact ret_mk rfl rfl rfl (fz_int rfl)

noncomputable def m_spec_l11Equations_L4 (a0 : Rp) (a1 : Rp) (v3 : Int) (x1 : (Int × (List Int) × Int)) (x2 : (Int × (List Int) × Int)) (x3 : (Int × (List Int) × Int)) (x4 : ((List Int) × Int)) : Option (((List Int) × Int) ⊕ (List Int)) :=
  Option.bind (atL a1.dims v3) fun v9 =>
  bif decide (x4.2 < v9) then
    (Option.bind (m_spec_l11At a0 a1 v3) fun v11 =>
    Option.bind (atL a0.dims v3) fun v12 =>
    Option.bind (atL x4.1 (wr ((wr (v11 + (wr (x4.2 * v12)))) + x3.2.2))) fun v13 =>
    Option.bind (atL a1.maps x1.2.2) fun v14 =>
    Option.bind (atL a1.dims v3) fun v15 =>
    Option.bind (atL v14.cells (wr ((wr (x2.2.2 * v15)) + x4.2))) fun v16 =>
    Option.bind (m_spec_l2Mod a0.p (wr (v13 + v16))) fun v17 =>
    Option.bind (atL x4.1 (wr ((wr (v11 + (wr (x4.2 * v12)))) + x3.2.2))) fun v18 =>
    some (.inl ((x4.1.set ((wr ((wr (v11 + (wr (x4.2 * v12)))) + x3.2.2)).toNat) v17), wr (x4.2 + 1))))
  else
    (some (.inr x4.1))

noncomputable def m_spec_l11Equations_L5 (a0 : Rp) (a1 : Rp) (v3 : Int) (v4 : Int) (x1 : (Int × (List Int) × Int)) (x2 : (Int × (List Int) × Int)) (x3 : (Int × (List Int) × Int)) (x5 : ((List Int) × Int)) : Option (((List Int) × Int) ⊕ (List Int)) :=
  Option.bind (atL a0.dims v4) fun v20 =>
  bif decide (x5.2 < v20) then
    (Option.bind (m_spec_l11At a0 a1 v4) fun v22 =>
    Option.bind (atL a0.dims v4) fun v23 =>
    Option.bind (atL x5.1 (wr ((wr (v22 + (wr (x2.2.2 * v23)))) + x5.2))) fun v24 =>
    Option.bind (atL a0.maps x1.2.2) fun v25 =>
    Option.bind (atL a0.dims v3) fun v26 =>
    Option.bind (atL v25.cells (wr ((wr (x5.2 * v26)) + x3.2.2))) fun v27 =>
    Option.bind (m_spec_l2Mod a0.p (wr (v24 - v27))) fun v28 =>
    Option.bind (atL x5.1 (wr ((wr (v22 + (wr (x2.2.2 * v23)))) + x5.2))) fun v29 =>
    some (.inl ((x5.1.set ((wr ((wr (v22 + (wr (x2.2.2 * v23)))) + x5.2)).toNat) v28), wr (x5.2 + 1))))
  else
    (some (.inr x5.1))

noncomputable def m_spec_l11Equations_L3 (a0 : Rp) (a1 : Rp) (v1 : Int) (v3 : Int) (v4 : Int) (x1 : (Int × (List Int) × Int)) (x2 : (Int × (List Int) × Int)) (x3 : (Int × (List Int) × Int)) : Option ((Int × (List Int) × Int) ⊕ (Int × (List Int))) :=
  Option.bind (atL a0.dims v3) fun v7 =>
  bif decide (x3.2.2 < v7) then
    (bif (decide (0 ≤ v1) && decide (v1 ≤ 1048576)) then
      (Option.bind (Lp (m_spec_l11Equations_L4 a0 a1 v3 x1 x2 x3) ((List.replicate v1.toNat (0 : Int)), 0)) fun y19 =>
      Option.bind (Lp (m_spec_l11Equations_L5 a0 a1 v3 v4 x1 x2 x3) (y19, 0)) fun y30 =>
      bif decide (x3.2.1.length + y30.length ≤ 4294967296) then
        (some (.inl (wr (x3.1 + 1), (x3.2.1 ++ y30), wr (x3.2.2 + 1))))
      else none)
    else none)
  else
    (some (.inr (x3.1, x3.2.1)))

noncomputable def m_spec_l11Equations_L2 (a0 : Rp) (a1 : Rp) (v1 : Int) (v3 : Int) (v4 : Int) (x1 : (Int × (List Int) × Int)) (x2 : (Int × (List Int) × Int)) : Option ((Int × (List Int) × Int) ⊕ (Int × (List Int))) :=
  Option.bind (atL a1.dims v4) fun v5 =>
  bif decide (x2.2.2 < v5) then
    (Option.bind (Lp (m_spec_l11Equations_L3 a0 a1 v1 v3 v4 x1 x2) (x2.1, x2.2.1, 0)) fun y33 =>
    some (.inl (y33.1, y33.2, wr (x2.2.2 + 1))))
  else
    (some (.inr (x2.1, x2.2.1)))

noncomputable def m_spec_l11Equations_L1 (a0 : Rp) (a1 : Rp) (v1 : Int) (x1 : (Int × (List Int) × Int)) : Option ((Int × (List Int) × Int) ⊕ (Int × (List Int))) :=
  bif decide (x1.2.2 < (a0.maps.length : Int)) then
    (Option.bind (atL a0.q.src x1.2.2) fun v3 =>
    Option.bind (atL a0.q.tgt x1.2.2) fun v4 =>
    Option.bind (Lp (m_spec_l11Equations_L2 a0 a1 v1 v3 v4 x1) (x1.1, x1.2.1, 0)) fun y34 =>
    some (.inl (y34.1, y34.2, wr (x1.2.2 + 1))))
  else
    (some (.inr (x1.1, x1.2.1)))

noncomputable def m_spec_l11Equations (a0 : Rp) (a1 : Rp) : Option Mt :=
  Option.bind (m_spec_l11Size a0 a1) fun v1 =>
  Option.bind (Lp (m_spec_l11Equations_L1 a0 a1 v1) (0, ([] : (List Int)), 0)) fun y35 =>
  some ((⟨y35.1, v1, y35.2⟩ : Mt))

theorem c_spec_l11Equations (a0 : Rp) (a1 : Rp) (r : Mt) (h : m_spec_l11Equations a0 a1 = some r) : HasC Try.prog 128 [.agg (eR a0), .agg (eR a1)] (.agg (eM r)) := by
  refine hasC_mk TT_ok (rvs := [.cell 4 81]) (ns := [0, 1, 2, 3, 4, 5, 6, 7, 8, 9, 10, 11, 12, 13]) Try.func128 rfl rfl Try.ntmps128 rfl rfl rfl ?_
  refine ac_seq ?_
  refine ac_region ?_
  refine aops_eff (w_box rfl rfl rfl rfl) rfl rfl rfl ?_
  refine aops_eff (w_box rfl rfl rfl rfl) rfl rfl rfl ?_
  refine aops_eff (w_alloc TT_ok rfl rfl) rfl rfl rfl ?_
  refine aops_nil ?_
  refine then_n ?_
  refine ac_seq ?_
  refine ac_region ?_
  refine aops_eff (w_load_ptr TT_ok rfl rfl rfl rfl rfl rfl rfl) rfl rfl rfl ?_
  refine aops_eff (w_load_ptr TT_ok rfl rfl rfl rfl rfl rfl rfl) rfl rfl rfl ?_
  obtain ⟨v1, hv1, h⟩ := ob h
  refine aops_eff (w_call0s (c_spec_l11Size a0 a1 v1 hv1) rfl (va_cons (va_agg' (v1_cons (v1_same rfl) (v1_cons (v1_same rfl) (v1_cons (v1_same rfl) (v1_cons (v1_same rfl) (v1_cons (v1_same rfl) (v1_cons (v1_same rfl) v1_nil))))))) (va_cons (va_agg' (v1_cons (v1_same rfl) (v1_cons (v1_same rfl) (v1_cons (v1_same rfl) (v1_cons (v1_same rfl) (v1_cons (v1_same rfl) (v1_cons (v1_same rfl) v1_nil))))))) va_nil))) rfl rfl rfl ?_
  refine aops_eff (eff_assign rfl) rfl rfl rfl ?_
  refine aops_nil ?_
  refine then_n ?_
  refine ac_seq ?_
  refine ac_region ?_
  refine aops_eff (eff_move rfl) rfl rfl rfl ?_
  refine aops_eff (w_lit TT_ok rfl rfl rfl rfl rfl rfl rfl rfl rfl rfl rfl rfl) rfl rfl rfl ?_
  refine aops_eff (w_build TT_ok rfl rfl rfl rfl rfl rfl) rfl rfl rfl ?_
  refine aops_eff (w_alloc TT_ok rfl rfl) rfl rfl rfl ?_
  refine aops_eff (w_store TT_ok rfl rfl rfl rfl rfl rfl rfl rfl) rfl rfl rfl ?_
  refine aops_nil ?_
  refine then_n ?_
  refine ac_ent (t := mkS [(2, .ptr 0 0 0), (3, .ptr 1 0 0), (4, .ptr 2 0 0), (5, .int v1), (6, .ptr 4 0 0)] [(0, ⟨6, [[.int a0.p, .int a0.q.n, .list 1 (List.map eI a0.q.src), .list 1 (List.map eI a0.q.tgt), .list 1 (List.map eI a0.dims), .list 3 (List.map eM a0.maps)]]⟩), (1, ⟨6, [[.int a1.p, .int a1.q.n, .list 1 (List.map eI a1.q.src), .list 1 (List.map eI a1.q.tgt), .list 1 (List.map eI a1.dims), .list 3 (List.map eM a1.maps)]]⟩), (2, ⟨3, [[.int 0, .int 0, .nil 1]]⟩), (3, ⟨1, List.map (ow eI) ([] : (List Int))⟩), (4, ⟨3, [[.int 0, .int v1, .own 3 0 (([] : (List Int)).length)]]⟩)] 5 [5, 6, 7, 8, 9, 10, 11, 12, 13, 14, 15, 16, 17, 18]) (ent_mk (σ := sg [(0, 0), (1, 1), (2, 2), (3, 3), (4, 4)]) ⟨⟨_, rfl, ⟨rfl, rfl, rfl, rfl⟩⟩, ⟨_, rfl, ⟨rfl, rfl, rfl, rfl⟩⟩, ⟨_, rfl, ⟨rfl, rfl, rfl, rfl⟩⟩, ⟨_, rfl, rfl⟩, ⟨_, rfl, ⟨rfl, rfl, rfl, rfl⟩⟩, trivial⟩ ⟨⟨_, rfl, rfl, .inl ⟨rfl, plain_of rfl⟩⟩, rfl, ⟨_, rfl, rfl, .inl ⟨rfl, plain_of rfl⟩⟩, rfl, ⟨_, rfl, rfl, .inl ⟨rfl, plain_of rfl⟩⟩, rfl, ⟨_, rfl, rfl, .inl ⟨rfl, okI.plainO _⟩⟩, rfl, ⟨_, rfl, rfl, .inr ⟨_, _, rfl, ⟨_, _, rfl, rfl, ⟨_, _, rfl, rfl, ⟨_, _, rfl, ⟨rfl, rfl, (by simp only [len_map, List.length_append, List.length_set, List.length_replicate, List.length_cons, List.length_nil]), rfl⟩, rfl⟩⟩⟩, rfl⟩⟩, rfl, trivial⟩ rfl) ?_
  refine ac_seq ?_
  refine ac_seq ?_
  refine ac_region ?_
  refine aops_eff (eff_assign rfl) rfl rfl rfl ?_
  refine aops_nil ?_
  refine then_n ?_
  refine ac_block ?_
  obtain ⟨y35, hy35, h⟩ := ob h
  refine ac_Lp (body := (m_spec_l11Equations_L1 a0 a1 v1)) hy35 (fun (x1 : (Int × (List Int) × Int)) => mkS [(2, .ptr 0 0 0), (3, .ptr 1 0 0), (4, .ptr 2 0 0), (5, .int v1), (6, .ptr 3 0 0), (7, .int x1.2.2)] [(0, ⟨6, [[.int a0.p, .int a0.q.n, .list 1 (List.map eI a0.q.src), .list 1 (List.map eI a0.q.tgt), .list 1 (List.map eI a0.dims), .list 3 (List.map eM a0.maps)]]⟩), (1, ⟨6, [[.int a1.p, .int a1.q.n, .list 1 (List.map eI a1.q.src), .list 1 (List.map eI a1.q.tgt), .list 1 (List.map eI a1.dims), .list 3 (List.map eM a1.maps)]]⟩), (2, ⟨3, [[.int 0, .int 0, .nil 1]]⟩), (3, ⟨3, [[.int x1.1, .int v1, .own 4 0 x1.2.1.length]]⟩), (4, ⟨1, List.map (ow eI) x1.2.1⟩)] 5 [5, 6, 7, 8, 9, 10, 11, 12, 13, 14, 15, 16, 17, 18]) (fun r e t => e = .exit 0 ∧ Ent t (mkS [(4, .ptr 0 0 0), (6, .ptr 1 0 0)] [(0, ⟨3, [[.int 0, .int 0, .nil 1]]⟩), (1, ⟨3, [[.int r.1, .int v1, .own 2 0 r.2.length]]⟩), (2, ⟨1, List.map (ow eI) r.2⟩)] 3 [3, 4, 5, 6, 7, 8, 9, 10, 11, 12, 13, 14, 15, 16])) (ent_mk (σ := sg [(0, 0), (1, 1), (2, 2), (3, 4), (4, 3)]) ⟨⟨_, rfl, ⟨rfl, rfl, rfl, rfl⟩⟩, ⟨_, rfl, ⟨rfl, rfl, rfl, rfl⟩⟩, ⟨_, rfl, ⟨rfl, rfl, rfl, rfl⟩⟩, ⟨_, rfl, rfl⟩, ⟨_, rfl, ⟨rfl, rfl, rfl, rfl⟩⟩, ⟨_, rfl, rfl⟩, trivial⟩ ⟨⟨_, rfl, rfl, .inl ⟨rfl, plain_of rfl⟩⟩, rfl, ⟨_, rfl, rfl, .inl ⟨rfl, plain_of rfl⟩⟩, rfl, ⟨_, rfl, rfl, .inl ⟨rfl, plain_of rfl⟩⟩, rfl, ⟨_, rfl, rfl, .inr ⟨_, _, rfl, ⟨_, _, rfl, rfl, ⟨_, _, rfl, rfl, ⟨_, _, rfl, ⟨rfl, rfl, rfl, rfl⟩, rfl⟩⟩⟩, rfl⟩⟩, rfl, ⟨_, rfl, rfl, .inl ⟨rfl, okI.plainO _⟩⟩, rfl, trivial⟩ rfl) ?_ ?_
  · intro x1 o h
    refine ac_seq ?_
    refine ac_seq ?_
    refine ac_region ?_
    refine aops_eff (eff_move rfl) rfl rfl rfl ?_
    refine aops_eff (w_field_ptr TT_ok rfl rfl rfl rfl rfl rfl rfl) rfl rfl rfl ?_
    refine aops_eff (w_load_ptr TT_ok rfl rfl rfl rfl rfl rfl rfl) rfl rfl rfl ?_
    refine aops_eff (AEff.val (w_len_list TT_ok rfl rfl rfl) (v' := .int (a0.maps.length : Int)) (by first | rw [len_map] | rw [encI_len])) rfl rfl rfl ?_
    refine aops_eff (w_cmp rfl rfl rfl) rfl rfl rfl ?_
    refine aops_nil ?_
    refine then_n ?_
    rcases cb h with ⟨q2, h⟩ | ⟨q2, h⟩
    · refine ac_condT rfl q2 ?_
      refine ac_skip ?_
      refine then_n ?_
      refine ac_seq ?_
      refine ac_block ?_
      refine ac_seq ?_
      refine ac_region ?_
      refine aops_eff (w_field_ptr TT_ok rfl rfl rfl rfl rfl rfl rfl) rfl rfl rfl ?_
      refine aops_eff (w_field_ptr TT_ok rfl rfl rfl rfl rfl rfl rfl) rfl rfl rfl ?_
      refine aops_eff (w_load_ptr TT_ok rfl rfl rfl rfl rfl rfl rfl) rfl rfl rfl ?_
      refine aops_eff (eff_move rfl) rfl rfl rfl ?_
      obtain ⟨v3, hv3, h⟩ := ob h
      refine aops_eff (x_at_list TT_ok hv3 rfl rfl rfl rfl rfl rfl) rfl rfl rfl ?_
      refine aops_eff (w_load_ref TT_ok rfl rfl rfl rfl rfl rfl) rfl rfl rfl ?_
      refine aops_eff (eff_assign rfl) rfl rfl rfl ?_
      refine aops_nil ?_
      refine then_n ?_
      refine ac_ent (t := mkS [(2, .ptr 0 0 0), (3, .ptr 1 0 0), (4, .ptr 2 0 0), (5, .int v1), (6, .ptr 3 0 0), (7, .int x1.2.2), (8, .int v3)] [(0, ⟨6, [[.int a0.p, .int a0.q.n, .list 1 (List.map eI a0.q.src), .list 1 (List.map eI a0.q.tgt), .list 1 (List.map eI a0.dims), .list 3 (List.map eM a0.maps)]]⟩), (1, ⟨6, [[.int a1.p, .int a1.q.n, .list 1 (List.map eI a1.q.src), .list 1 (List.map eI a1.q.tgt), .list 1 (List.map eI a1.dims), .list 3 (List.map eM a1.maps)]]⟩), (2, ⟨3, [[.int 0, .int 0, .nil 1]]⟩), (3, ⟨3, [[.int x1.1, .int v1, .own 4 0 x1.2.1.length]]⟩), (4, ⟨1, List.map (ow eI) x1.2.1⟩)] 5 [5, 6, 7, 8, 9, 10, 11, 12, 13, 14, 15, 16, 17, 18]) (ent_mk (σ := sg [(0, 0), (1, 1), (2, 2), (3, 3), (4, 4)]) ⟨⟨_, rfl, ⟨rfl, rfl, rfl, rfl⟩⟩, ⟨_, rfl, ⟨rfl, rfl, rfl, rfl⟩⟩, ⟨_, rfl, ⟨rfl, rfl, rfl, rfl⟩⟩, ⟨_, rfl, rfl⟩, ⟨_, rfl, ⟨rfl, rfl, rfl, rfl⟩⟩, ⟨_, rfl, rfl⟩, ⟨_, rfl, rfl⟩, trivial⟩ ⟨⟨_, rfl, rfl, .inl ⟨rfl, plain_of rfl⟩⟩, rfl, ⟨_, rfl, rfl, .inl ⟨rfl, plain_of rfl⟩⟩, rfl, ⟨_, rfl, rfl, .inl ⟨rfl, plain_of rfl⟩⟩, rfl, ⟨_, rfl, rfl, .inr ⟨_, _, rfl, ⟨_, _, rfl, rfl, ⟨_, _, rfl, rfl, ⟨_, _, rfl, ⟨rfl, rfl, rfl, rfl⟩, rfl⟩⟩⟩, rfl⟩⟩, rfl, ⟨_, rfl, rfl, .inl ⟨rfl, okI.plainO _⟩⟩, rfl, trivial⟩ rfl) ?_
      refine ac_seq ?_
      refine ac_region ?_
      refine aops_eff (w_field_ptr TT_ok rfl rfl rfl rfl rfl rfl rfl) rfl rfl rfl ?_
      refine aops_eff (w_field_ptr TT_ok rfl rfl rfl rfl rfl rfl rfl) rfl rfl rfl ?_
      refine aops_eff (w_load_ptr TT_ok rfl rfl rfl rfl rfl rfl rfl) rfl rfl rfl ?_
      refine aops_eff (eff_move rfl) rfl rfl rfl ?_
      obtain ⟨v4, hv4, h⟩ := ob h
      refine aops_eff (x_at_list TT_ok hv4 rfl rfl rfl rfl rfl rfl) rfl rfl rfl ?_
      refine aops_eff (w_load_ref TT_ok rfl rfl rfl rfl rfl rfl) rfl rfl rfl ?_
      refine aops_eff (eff_assign rfl) rfl rfl rfl ?_
      refine aops_nil ?_
      refine then_n ?_
      refine ac_seq ?_
      refine ac_region ?_
      refine aops_eff (eff_assign rfl) rfl rfl rfl ?_
      refine aops_nil ?_
      refine then_n ?_
      refine ac_block ?_
      obtain ⟨y34, hy34, h⟩ := ob h
      refine ac_Lp (body := (m_spec_l11Equations_L2 a0 a1 v1 v3 v4 x1)) hy34 (fun (x2 : (Int × (List Int) × Int)) => mkS [(2, .ptr 0 0 0), (3, .ptr 1 0 0), (4, .ptr 2 0 0), (5, .int v1), (6, .ptr 3 0 0), (7, .int x1.2.2), (8, .int v3), (9, .int v4), (10, .int x2.2.2)] [(0, ⟨6, [[.int a0.p, .int a0.q.n, .list 1 (List.map eI a0.q.src), .list 1 (List.map eI a0.q.tgt), .list 1 (List.map eI a0.dims), .list 3 (List.map eM a0.maps)]]⟩), (1, ⟨6, [[.int a1.p, .int a1.q.n, .list 1 (List.map eI a1.q.src), .list 1 (List.map eI a1.q.tgt), .list 1 (List.map eI a1.dims), .list 3 (List.map eM a1.maps)]]⟩), (2, ⟨3, [[.int 0, .int 0, .nil 1]]⟩), (3, ⟨3, [[.int x2.1, .int v1, .own 4 0 x2.2.1.length]]⟩), (4, ⟨1, List.map (ow eI) x2.2.1⟩)] 5 [5, 6, 7, 8, 9, 10, 11, 12, 13, 14, 15, 16, 17, 18]) (fun r e t => e = .exit 2 ∧ Ent t (mkS [(2, .ptr 0 0 0), (3, .ptr 1 0 0), (4, .ptr 2 0 0), (5, .int v1), (6, .ptr 3 0 0), (7, .int x1.2.2)] [(0, ⟨6, [[.int a0.p, .int a0.q.n, .list 1 (List.map eI a0.q.src), .list 1 (List.map eI a0.q.tgt), .list 1 (List.map eI a0.dims), .list 3 (List.map eM a0.maps)]]⟩), (1, ⟨6, [[.int a1.p, .int a1.q.n, .list 1 (List.map eI a1.q.src), .list 1 (List.map eI a1.q.tgt), .list 1 (List.map eI a1.dims), .list 3 (List.map eM a1.maps)]]⟩), (2, ⟨3, [[.int 0, .int 0, .nil 1]]⟩), (3, ⟨3, [[.int r.1, .int v1, .own 4 0 r.2.length]]⟩), (4, ⟨1, List.map (ow eI) r.2⟩)] 5 [5, 6, 7, 8, 9, 10, 11, 12, 13, 14, 15, 16, 17, 18])) (ent_mk (σ := sg [(0, 0), (1, 1), (2, 2), (3, 3), (4, 4)]) ⟨⟨_, rfl, ⟨rfl, rfl, rfl, rfl⟩⟩, ⟨_, rfl, ⟨rfl, rfl, rfl, rfl⟩⟩, ⟨_, rfl, ⟨rfl, rfl, rfl, rfl⟩⟩, ⟨_, rfl, rfl⟩, ⟨_, rfl, ⟨rfl, rfl, rfl, rfl⟩⟩, ⟨_, rfl, rfl⟩, ⟨_, rfl, rfl⟩, ⟨_, rfl, rfl⟩, ⟨_, rfl, rfl⟩, trivial⟩ ⟨⟨_, rfl, rfl, .inl ⟨rfl, plain_of rfl⟩⟩, rfl, ⟨_, rfl, rfl, .inl ⟨rfl, plain_of rfl⟩⟩, rfl, ⟨_, rfl, rfl, .inl ⟨rfl, plain_of rfl⟩⟩, rfl, ⟨_, rfl, rfl, .inr ⟨_, _, rfl, ⟨_, _, rfl, rfl, ⟨_, _, rfl, rfl, ⟨_, _, rfl, ⟨rfl, rfl, rfl, rfl⟩, rfl⟩⟩⟩, rfl⟩⟩, rfl, ⟨_, rfl, rfl, .inl ⟨rfl, okI.plainO _⟩⟩, rfl, trivial⟩ rfl) ?_ ?_
      · intro x2 o h
        refine ac_seq ?_
        refine ac_seq ?_
        refine ac_region ?_
        refine aops_eff (eff_move rfl) rfl rfl rfl ?_
        refine aops_eff (w_field_ptr TT_ok rfl rfl rfl rfl rfl rfl rfl) rfl rfl rfl ?_
        refine aops_eff (w_load_ptr TT_ok rfl rfl rfl rfl rfl rfl rfl) rfl rfl rfl ?_
        refine aops_eff (eff_move rfl) rfl rfl rfl ?_
        obtain ⟨v5, hv5, h⟩ := ob h
        refine aops_eff (x_at_list TT_ok hv5 rfl rfl rfl rfl rfl rfl) rfl rfl rfl ?_
        refine aops_eff (w_load_ref TT_ok rfl rfl rfl rfl rfl rfl) rfl rfl rfl ?_
        refine aops_eff (w_cmp rfl rfl rfl) rfl rfl rfl ?_
        refine aops_nil ?_
        refine then_n ?_
        rcases cb h with ⟨q6, h⟩ | ⟨q6, h⟩
        · refine ac_condT rfl q6 ?_
          refine ac_skip ?_
          refine then_n ?_
          refine ac_seq ?_
          refine ac_block ?_
          refine ac_seq ?_
          refine ac_region ?_
          refine aops_eff (eff_assign rfl) rfl rfl rfl ?_
          refine aops_nil ?_
          refine then_n ?_
          refine ac_block ?_
          obtain ⟨y33, hy33, h⟩ := ob h
          refine ac_Lp (body := (m_spec_l11Equations_L3 a0 a1 v1 v3 v4 x1 x2)) hy33 (fun (x3 : (Int × (List Int) × Int)) => mkS [(2, .ptr 0 0 0), (3, .ptr 1 0 0), (4, .ptr 2 0 0), (5, .int v1), (6, .ptr 3 0 0), (7, .int x1.2.2), (8, .int v3), (9, .int v4), (10, .int x2.2.2), (11, .int x3.2.2)] [(0, ⟨6, [[.int a0.p, .int a0.q.n, .list 1 (List.map eI a0.q.src), .list 1 (List.map eI a0.q.tgt), .list 1 (List.map eI a0.dims), .list 3 (List.map eM a0.maps)]]⟩), (1, ⟨6, [[.int a1.p, .int a1.q.n, .list 1 (List.map eI a1.q.src), .list 1 (List.map eI a1.q.tgt), .list 1 (List.map eI a1.dims), .list 3 (List.map eM a1.maps)]]⟩), (2, ⟨3, [[.int 0, .int 0, .nil 1]]⟩), (3, ⟨3, [[.int x3.1, .int v1, .own 4 0 x3.2.1.length]]⟩), (4, ⟨1, List.map (ow eI) x3.2.1⟩)] 5 [5, 6, 7, 8, 9, 10, 11, 12, 13, 14, 15, 16, 17, 18]) (fun r e t => e = .exit 4 ∧ Ent t (mkS [(2, .ptr 0 0 0), (3, .ptr 1 0 0), (4, .ptr 2 0 0), (5, .int v1), (6, .ptr 3 0 0), (7, .int x1.2.2), (8, .int v3), (9, .int v4), (10, .int x2.2.2)] [(0, ⟨6, [[.int a0.p, .int a0.q.n, .list 1 (List.map eI a0.q.src), .list 1 (List.map eI a0.q.tgt), .list 1 (List.map eI a0.dims), .list 3 (List.map eM a0.maps)]]⟩), (1, ⟨6, [[.int a1.p, .int a1.q.n, .list 1 (List.map eI a1.q.src), .list 1 (List.map eI a1.q.tgt), .list 1 (List.map eI a1.dims), .list 3 (List.map eM a1.maps)]]⟩), (2, ⟨3, [[.int 0, .int 0, .nil 1]]⟩), (3, ⟨3, [[.int r.1, .int v1, .own 4 0 r.2.length]]⟩), (4, ⟨1, List.map (ow eI) r.2⟩)] 5 [5, 6, 7, 8, 9, 10, 11, 12, 13, 14, 15, 16, 17, 18])) (ent_mk (σ := sg [(0, 0), (1, 1), (2, 2), (3, 3), (4, 4)]) ⟨⟨_, rfl, ⟨rfl, rfl, rfl, rfl⟩⟩, ⟨_, rfl, ⟨rfl, rfl, rfl, rfl⟩⟩, ⟨_, rfl, ⟨rfl, rfl, rfl, rfl⟩⟩, ⟨_, rfl, rfl⟩, ⟨_, rfl, ⟨rfl, rfl, rfl, rfl⟩⟩, ⟨_, rfl, rfl⟩, ⟨_, rfl, rfl⟩, ⟨_, rfl, rfl⟩, ⟨_, rfl, rfl⟩, ⟨_, rfl, rfl⟩, trivial⟩ ⟨⟨_, rfl, rfl, .inl ⟨rfl, plain_of rfl⟩⟩, rfl, ⟨_, rfl, rfl, .inl ⟨rfl, plain_of rfl⟩⟩, rfl, ⟨_, rfl, rfl, .inl ⟨rfl, plain_of rfl⟩⟩, rfl, ⟨_, rfl, rfl, .inr ⟨_, _, rfl, ⟨_, _, rfl, rfl, ⟨_, _, rfl, rfl, ⟨_, _, rfl, ⟨rfl, rfl, rfl, rfl⟩, rfl⟩⟩⟩, rfl⟩⟩, rfl, ⟨_, rfl, rfl, .inl ⟨rfl, okI.plainO _⟩⟩, rfl, trivial⟩ rfl) ?_ ?_
          · intro x3 o h
            refine ac_seq ?_
            refine ac_seq ?_
            refine ac_region ?_
            refine aops_eff (eff_move rfl) rfl rfl rfl ?_
            refine aops_eff (w_field_ptr TT_ok rfl rfl rfl rfl rfl rfl rfl) rfl rfl rfl ?_
            refine aops_eff (w_load_ptr TT_ok rfl rfl rfl rfl rfl rfl rfl) rfl rfl rfl ?_
            refine aops_eff (eff_move rfl) rfl rfl rfl ?_
            obtain ⟨v7, hv7, h⟩ := ob h
            refine aops_eff (x_at_list TT_ok hv7 rfl rfl rfl rfl rfl rfl) rfl rfl rfl ?_
            refine aops_eff (w_load_ref TT_ok rfl rfl rfl rfl rfl rfl) rfl rfl rfl ?_
            refine aops_eff (w_cmp rfl rfl rfl) rfl rfl rfl ?_
            refine aops_nil ?_
            refine then_n ?_
            rcases cb h with ⟨q8, h⟩ | ⟨q8, h⟩
            · refine ac_condT rfl q8 ?_
              refine ac_skip ?_
              refine then_n ?_
              refine ac_seq ?_
              refine ac_block ?_
              refine ac_seq ?_
              refine ac_region ?_
              refine aops_eff (eff_move rfl) rfl rfl rfl ?_
              obtain ⟨q32, h⟩ := cg h
              refine aops_eff (x_make TT_ok q32 rfl rfl rfl rfl rfl rfl rfl rfl) rfl rfl rfl ?_
              refine aops_eff (eff_assign rfl) rfl rfl rfl ?_
              refine aops_nil ?_
              refine then_n ?_
              refine ac_ent (t := mkS [(2, .ptr 0 0 0), (3, .ptr 1 0 0), (4, .ptr 2 0 0), (5, .int v1), (6, .ptr 3 0 0), (7, .int x1.2.2), (8, .int v3), (9, .int v4), (10, .int x2.2.2), (11, .int x3.2.2), (12, .own 5 0 ((List.replicate v1.toNat (0 : Int)).length))] [(0, ⟨6, [[.int a0.p, .int a0.q.n, .list 1 (List.map eI a0.q.src), .list 1 (List.map eI a0.q.tgt), .list 1 (List.map eI a0.dims), .list 3 (List.map eM a0.maps)]]⟩), (1, ⟨6, [[.int a1.p, .int a1.q.n, .list 1 (List.map eI a1.q.src), .list 1 (List.map eI a1.q.tgt), .list 1 (List.map eI a1.dims), .list 3 (List.map eM a1.maps)]]⟩), (2, ⟨3, [[.int 0, .int 0, .nil 1]]⟩), (3, ⟨3, [[.int x3.1, .int v1, .own 4 0 x3.2.1.length]]⟩), (4, ⟨1, List.map (ow eI) x3.2.1⟩), (5, ⟨1, List.map (ow eI) (List.replicate v1.toNat (0 : Int))⟩)] 6 [6, 7, 8, 9, 10, 11, 12, 13, 14, 15, 16, 17, 18, 19]) (ent_mk (σ := sg [(0, 0), (1, 1), (2, 2), (3, 3), (4, 4), (5, 5)]) ⟨⟨_, rfl, ⟨rfl, rfl, rfl, rfl⟩⟩, ⟨_, rfl, ⟨rfl, rfl, rfl, rfl⟩⟩, ⟨_, rfl, ⟨rfl, rfl, rfl, rfl⟩⟩, ⟨_, rfl, rfl⟩, ⟨_, rfl, ⟨rfl, rfl, rfl, rfl⟩⟩, ⟨_, rfl, rfl⟩, ⟨_, rfl, rfl⟩, ⟨_, rfl, rfl⟩, ⟨_, rfl, rfl⟩, ⟨_, rfl, rfl⟩, ⟨_, rfl, ⟨rfl, rfl, (by simp only [len_map, List.length_append, List.length_set, List.length_replicate, List.length_cons, List.length_nil]), rfl⟩⟩, trivial⟩ ⟨⟨_, rfl, rfl, .inl ⟨rfl, plain_of rfl⟩⟩, rfl, ⟨_, rfl, rfl, .inl ⟨rfl, plain_of rfl⟩⟩, rfl, ⟨_, rfl, rfl, .inl ⟨rfl, plain_of rfl⟩⟩, rfl, ⟨_, rfl, rfl, .inr ⟨_, _, rfl, ⟨_, _, rfl, rfl, ⟨_, _, rfl, rfl, ⟨_, _, rfl, ⟨rfl, rfl, rfl, rfl⟩, rfl⟩⟩⟩, rfl⟩⟩, rfl, ⟨_, rfl, rfl, .inl ⟨rfl, okI.plainO _⟩⟩, rfl, ⟨_, rfl, rfl, .inl ⟨rep_eq (e := eI) (z := 0) _, okI.plainO _⟩⟩, rfl, trivial⟩ rfl) ?_
              refine ac_seq ?_
              refine ac_seq ?_
              refine ac_region ?_
              refine aops_eff (eff_assign rfl) rfl rfl rfl ?_
              refine aops_nil ?_
              refine then_n ?_
              refine ac_block ?_
              obtain ⟨y19, hy19, h⟩ := ob h
              refine ac_Lp (body := (m_spec_l11Equations_L4 a0 a1 v3 x1 x2 x3)) hy19 (fun (x4 : ((List Int) × Int)) => mkS [(2, .ptr 0 0 0), (3, .ptr 1 0 0), (4, .ptr 2 0 0), (5, .int v1), (6, .ptr 3 0 0), (7, .int x1.2.2), (8, .int v3), (9, .int v4), (10, .int x2.2.2), (11, .int x3.2.2), (12, .own 5 0 x4.1.length), (13, .int x4.2)] [(0, ⟨6, [[.int a0.p, .int a0.q.n, .list 1 (List.map eI a0.q.src), .list 1 (List.map eI a0.q.tgt), .list 1 (List.map eI a0.dims), .list 3 (List.map eM a0.maps)]]⟩), (1, ⟨6, [[.int a1.p, .int a1.q.n, .list 1 (List.map eI a1.q.src), .list 1 (List.map eI a1.q.tgt), .list 1 (List.map eI a1.dims), .list 3 (List.map eM a1.maps)]]⟩), (2, ⟨3, [[.int 0, .int 0, .nil 1]]⟩), (3, ⟨3, [[.int x3.1, .int v1, .own 4 0 x3.2.1.length]]⟩), (4, ⟨1, List.map (ow eI) x3.2.1⟩), (5, ⟨1, List.map (ow eI) x4.1⟩)] 6 [6, 7, 8, 9, 10, 11, 12, 13, 14, 15, 16, 17, 18, 19]) (fun r e t => e = .exit 6 ∧ Ent t (mkS [(2, .ptr 0 0 0), (3, .ptr 1 0 0), (4, .ptr 2 0 0), (5, .int v1), (6, .ptr 3 0 0), (7, .int x1.2.2), (8, .int v3), (9, .int v4), (10, .int x2.2.2), (11, .int x3.2.2), (12, .own 5 0 r.length)] [(0, ⟨6, [[.int a0.p, .int a0.q.n, .list 1 (List.map eI a0.q.src), .list 1 (List.map eI a0.q.tgt), .list 1 (List.map eI a0.dims), .list 3 (List.map eM a0.maps)]]⟩), (1, ⟨6, [[.int a1.p, .int a1.q.n, .list 1 (List.map eI a1.q.src), .list 1 (List.map eI a1.q.tgt), .list 1 (List.map eI a1.dims), .list 3 (List.map eM a1.maps)]]⟩), (2, ⟨3, [[.int 0, .int 0, .nil 1]]⟩), (3, ⟨3, [[.int x3.1, .int v1, .own 4 0 x3.2.1.length]]⟩), (4, ⟨1, List.map (ow eI) x3.2.1⟩), (5, ⟨1, List.map (ow eI) r⟩)] 6 [6, 7, 8, 9, 10, 11, 12, 13, 14, 15, 16, 17, 18, 19])) (ent_mk (σ := sg [(0, 0), (1, 1), (2, 2), (3, 3), (4, 4), (5, 5)]) ⟨⟨_, rfl, ⟨rfl, rfl, rfl, rfl⟩⟩, ⟨_, rfl, ⟨rfl, rfl, rfl, rfl⟩⟩, ⟨_, rfl, ⟨rfl, rfl, rfl, rfl⟩⟩, ⟨_, rfl, rfl⟩, ⟨_, rfl, ⟨rfl, rfl, rfl, rfl⟩⟩, ⟨_, rfl, rfl⟩, ⟨_, rfl, rfl⟩, ⟨_, rfl, rfl⟩, ⟨_, rfl, rfl⟩, ⟨_, rfl, rfl⟩, ⟨_, rfl, ⟨rfl, rfl, rfl, rfl⟩⟩, ⟨_, rfl, rfl⟩, trivial⟩ ⟨⟨_, rfl, rfl, .inl ⟨rfl, plain_of rfl⟩⟩, rfl, ⟨_, rfl, rfl, .inl ⟨rfl, plain_of rfl⟩⟩, rfl, ⟨_, rfl, rfl, .inl ⟨rfl, plain_of rfl⟩⟩, rfl, ⟨_, rfl, rfl, .inr ⟨_, _, rfl, ⟨_, _, rfl, rfl, ⟨_, _, rfl, rfl, ⟨_, _, rfl, ⟨rfl, rfl, rfl, rfl⟩, rfl⟩⟩⟩, rfl⟩⟩, rfl, ⟨_, rfl, rfl, .inl ⟨rfl, okI.plainO _⟩⟩, rfl, ⟨_, rfl, rfl, .inl ⟨rfl, okI.plainO _⟩⟩, rfl, trivial⟩ rfl) ?_ ?_
              · intro x4 o h
                refine ac_seq ?_
                refine ac_seq ?_
                refine ac_region ?_
                refine aops_eff (eff_move rfl) rfl rfl rfl ?_
                refine aops_eff (w_field_ptr TT_ok rfl rfl rfl rfl rfl rfl rfl) rfl rfl rfl ?_
                refine aops_eff (w_load_ptr TT_ok rfl rfl rfl rfl rfl rfl rfl) rfl rfl rfl ?_
                refine aops_eff (eff_move rfl) rfl rfl rfl ?_
                obtain ⟨v9, hv9, h⟩ := ob h
                refine aops_eff (x_at_list TT_ok hv9 rfl rfl rfl rfl rfl rfl) rfl rfl rfl ?_
                refine aops_eff (w_load_ref TT_ok rfl rfl rfl rfl rfl rfl) rfl rfl rfl ?_
                refine aops_eff (w_cmp rfl rfl rfl) rfl rfl rfl ?_
                refine aops_nil ?_
                refine then_n ?_
                rcases cb h with ⟨q10, h⟩ | ⟨q10, h⟩
                · refine ac_condT rfl q10 ?_
                  refine ac_skip ?_
                  refine then_n ?_
                  refine ac_seq ?_
                  refine ac_block ?_
                  refine ac_seq ?_
                  refine ac_region_draw MIXX ?_
                  refine aops_eff (w_load_ptr TT_ok rfl rfl rfl rfl rfl rfl rfl) rfl rfl rfl ?_
                  refine aops_eff (w_load_ptr TT_ok rfl rfl rfl rfl rfl rfl rfl) rfl rfl rfl ?_
                  refine aops_eff (eff_move rfl) rfl rfl rfl ?_
                  obtain ⟨v11, hv11, h⟩ := ob h
                  refine aops_eff (w_call0s (c_spec_l11At a0 a1 v3 v11 hv11) rfl (va_cons (va_agg' (v1_cons (v1_same rfl) (v1_cons (v1_same rfl) (v1_cons (v1_same rfl) (v1_cons (v1_same rfl) (v1_cons (v1_same rfl) (v1_cons (v1_same rfl) v1_nil))))))) (va_cons (va_agg' (v1_cons (v1_same rfl) (v1_cons (v1_same rfl) (v1_cons (v1_same rfl) (v1_cons (v1_same rfl) (v1_cons (v1_same rfl) (v1_cons (v1_same rfl) v1_nil))))))) (va_cons (va_same rfl) va_nil)))) rfl rfl rfl ?_
                  refine aops_eff (eff_move rfl) rfl rfl rfl ?_
                  refine aops_eff (w_field_ptr TT_ok rfl rfl rfl rfl rfl rfl rfl) rfl rfl rfl ?_
                  refine aops_eff (w_load_ptr TT_ok rfl rfl rfl rfl rfl rfl rfl) rfl rfl rfl ?_
                  refine aops_eff (eff_move rfl) rfl rfl rfl ?_
                  obtain ⟨v12, hv12, h⟩ := ob h
                  refine aops_eff (x_at_list TT_ok hv12 rfl rfl rfl rfl rfl rfl) rfl rfl rfl ?_
                  refine aops_eff (w_load_ref TT_ok rfl rfl rfl rfl rfl rfl) rfl rfl rfl ?_
                  refine aops_eff (x_mul rfl rfl) rfl rfl rfl ?_
                  refine aops_eff (x_add rfl rfl) rfl rfl rfl ?_
                  refine aops_eff (eff_move rfl) rfl rfl rfl ?_
                  refine aops_eff (x_add rfl rfl) rfl rfl rfl ?_
                  refine aops_eff (eff_assign rfl) rfl rfl rfl ?_
                  refine aops_nil ?_
                  refine ⟨by kernel_rfl, ?_⟩
                  refine then_n ?_
                  refine ac_ent (t := mkS [(2, .ptr 0 0 0), (3, .ptr 1 0 0), (4, .ptr 2 0 0), (5, .int v1), (6, .ptr 3 0 0), (7, .int x1.2.2), (8, .int v3), (9, .int v4), (10, .int x2.2.2), (11, .int x3.2.2), (12, .own 5 0 x4.1.length), (13, .int x4.2), (14, .int (wr ((wr (v11 + (wr (x4.2 * v12)))) + x3.2.2)))] [(0, ⟨6, [[.int a0.p, .int a0.q.n, .list 1 (List.map eI a0.q.src), .list 1 (List.map eI a0.q.tgt), .list 1 (List.map eI a0.dims), .list 3 (List.map eM a0.maps)]]⟩), (1, ⟨6, [[.int a1.p, .int a1.q.n, .list 1 (List.map eI a1.q.src), .list 1 (List.map eI a1.q.tgt), .list 1 (List.map eI a1.dims), .list 3 (List.map eM a1.maps)]]⟩), (2, ⟨3, [[.int 0, .int 0, .nil 1]]⟩), (3, ⟨3, [[.int x3.1, .int v1, .own 4 0 x3.2.1.length]]⟩), (4, ⟨1, List.map (ow eI) x3.2.1⟩), (5, ⟨1, List.map (ow eI) x4.1⟩)] 6 [6, 7, 8, 9, 10, 11, 12, 13, 14, 15, 16, 17, 18, 19]) (ent_mk (σ := sg [(0, 0), (1, 1), (2, 2), (3, 3), (4, 4), (5, 5)]) ⟨⟨_, rfl, ⟨rfl, rfl, rfl, rfl⟩⟩, ⟨_, rfl, ⟨rfl, rfl, rfl, rfl⟩⟩, ⟨_, rfl, ⟨rfl, rfl, rfl, rfl⟩⟩, ⟨_, rfl, rfl⟩, ⟨_, rfl, ⟨rfl, rfl, rfl, rfl⟩⟩, ⟨_, rfl, rfl⟩, ⟨_, rfl, rfl⟩, ⟨_, rfl, rfl⟩, ⟨_, rfl, rfl⟩, ⟨_, rfl, rfl⟩, ⟨_, rfl, ⟨rfl, rfl, rfl, rfl⟩⟩, ⟨_, rfl, rfl⟩, ⟨_, rfl, rfl⟩, trivial⟩ ⟨⟨_, rfl, rfl, .inl ⟨rfl, plain_of rfl⟩⟩, rfl, ⟨_, rfl, rfl, .inl ⟨rfl, plain_of rfl⟩⟩, rfl, ⟨_, rfl, rfl, .inl ⟨rfl, plain_of rfl⟩⟩, rfl, ⟨_, rfl, rfl, .inr ⟨_, _, rfl, ⟨_, _, rfl, rfl, ⟨_, _, rfl, rfl, ⟨_, _, rfl, ⟨rfl, rfl, rfl, rfl⟩, rfl⟩⟩⟩, rfl⟩⟩, rfl, ⟨_, rfl, rfl, .inl ⟨rfl, okI.plainO _⟩⟩, rfl, ⟨_, rfl, rfl, .inl ⟨rfl, okI.plainO _⟩⟩, rfl, trivial⟩ rfl) ?_
                  refine ac_region_draw MIXX ?_
                  refine aops_eff (eff_move rfl) rfl rfl rfl ?_
                  refine aops_eff (eff_move rfl) rfl rfl rfl ?_
                  refine aops_eff (w_field_ptr TT_ok rfl rfl rfl rfl rfl rfl rfl) rfl rfl rfl ?_
                  refine aops_eff (w_load_ptr TT_ok rfl rfl rfl rfl rfl rfl rfl) rfl rfl rfl ?_
                  refine aops_eff (eff_move rfl) rfl rfl rfl ?_
                  refine aops_eff (eff_move rfl) rfl rfl rfl ?_
                  obtain ⟨v13, hv13, h⟩ := ob h
                  refine aops_eff (x_at_own TT_ok (atL_nn hv13) (atL_lt hv13) rfl rfl rfl rfl rfl rfl rfl) rfl rfl rfl ?_
                  refine aops_eff (w_load_ptr TT_ok rfl rfl rfl rfl (map_at (atL_get hv13)) rfl rfl) rfl rfl rfl ?_
                  refine aops_eff (w_field_ptr TT_ok rfl rfl rfl rfl rfl rfl rfl) rfl rfl rfl ?_
                  refine aops_eff (w_load_ptr TT_ok rfl rfl rfl rfl rfl rfl rfl) rfl rfl rfl ?_
                  refine aops_eff (eff_move rfl) rfl rfl rfl ?_
                  obtain ⟨v14, hv14, h⟩ := ob h
                  refine aops_eff (x_at_list TT_ok hv14 rfl rfl rfl rfl rfl rfl) rfl rfl rfl ?_
                  refine aops_eff (w_field_ref TT_ok rfl rfl rfl rfl rfl rfl) rfl rfl rfl ?_
                  refine aops_eff (w_load_ref TT_ok rfl rfl rfl rfl rfl rfl) rfl rfl rfl ?_
                  refine aops_eff (eff_move rfl) rfl rfl rfl ?_
                  refine aops_eff (w_field_ptr TT_ok rfl rfl rfl rfl rfl rfl rfl) rfl rfl rfl ?_
                  refine aops_eff (w_load_ptr TT_ok rfl rfl rfl rfl rfl rfl rfl) rfl rfl rfl ?_
                  refine aops_eff (eff_move rfl) rfl rfl rfl ?_
                  obtain ⟨v15, hv15, h⟩ := ob h
                  refine aops_eff (x_at_list TT_ok hv15 rfl rfl rfl rfl rfl rfl) rfl rfl rfl ?_
                  refine aops_eff (w_load_ref TT_ok rfl rfl rfl rfl rfl rfl) rfl rfl rfl ?_
                  refine aops_eff (x_mul rfl rfl) rfl rfl rfl ?_
                  refine aops_eff (eff_move rfl) rfl rfl rfl ?_
                  refine aops_eff (x_add rfl rfl) rfl rfl rfl ?_
                  obtain ⟨v16, hv16, h⟩ := ob h
                  refine aops_eff (x_at_list TT_ok hv16 rfl rfl rfl rfl rfl rfl) rfl rfl rfl ?_
                  refine aops_eff (w_load_ref TT_ok rfl rfl rfl rfl rfl rfl) rfl rfl rfl ?_
                  refine aops_eff (x_add rfl rfl) rfl rfl rfl ?_
                  obtain ⟨v17, hv17, h⟩ := ob h
                  refine aops_eff (w_call0s (c_spec_l2Mod a0.p (wr (v13 + v16)) v17 hv17) rfl (va_cons (va_same rfl) (va_cons (va_same rfl) va_nil))) rfl rfl rfl ?_
                  obtain ⟨v18, hv18, h⟩ := ob h
                  refine aops_eff (x_at_own TT_ok (atL_nn hv18) (atL_lt hv18) rfl rfl rfl rfl rfl rfl rfl) rfl rfl rfl ?_
                  refine aops_eff (x_store TT_ok okIo (u := v17) (atL_get hv18) rfl rfl rfl rfl rfl rfl) rfl rfl rfl ?_
                  refine aops_nil ?_
                  refine ⟨by kernel_rfl, ?_⟩
                  refine block_n ?_
                  refine then_n ?_
                  refine ac_ent (t := mkS [(2, .ptr 0 0 0), (3, .ptr 1 0 0), (4, .ptr 2 0 0), (5, .int v1), (6, .ptr 3 0 0), (7, .int x1.2.2), (8, .int v3), (9, .int v4), (10, .int x2.2.2), (11, .int x3.2.2), (12, .own 5 0 ((x4.1.set ((wr ((wr (v11 + (wr (x4.2 * v12)))) + x3.2.2)).toNat) v17).length)), (13, .int x4.2)] [(0, ⟨6, [[.int a0.p, .int a0.q.n, .list 1 (List.map eI a0.q.src), .list 1 (List.map eI a0.q.tgt), .list 1 (List.map eI a0.dims), .list 3 (List.map eM a0.maps)]]⟩), (1, ⟨6, [[.int a1.p, .int a1.q.n, .list 1 (List.map eI a1.q.src), .list 1 (List.map eI a1.q.tgt), .list 1 (List.map eI a1.dims), .list 3 (List.map eM a1.maps)]]⟩), (2, ⟨3, [[.int 0, .int 0, .nil 1]]⟩), (3, ⟨3, [[.int x3.1, .int v1, .own 4 0 x3.2.1.length]]⟩), (4, ⟨1, List.map (ow eI) x3.2.1⟩), (5, ⟨1, List.map (ow eI) (x4.1.set ((wr ((wr (v11 + (wr (x4.2 * v12)))) + x3.2.2)).toNat) v17)⟩)] 6 [6, 7, 8, 9, 10, 11, 12, 13, 14, 15, 16, 17, 18, 19]) (ent_mk (σ := sg [(0, 0), (1, 1), (2, 2), (3, 3), (4, 4), (5, 5)]) ⟨⟨_, rfl, ⟨rfl, rfl, rfl, rfl⟩⟩, ⟨_, rfl, ⟨rfl, rfl, rfl, rfl⟩⟩, ⟨_, rfl, ⟨rfl, rfl, rfl, rfl⟩⟩, ⟨_, rfl, rfl⟩, ⟨_, rfl, ⟨rfl, rfl, rfl, rfl⟩⟩, ⟨_, rfl, rfl⟩, ⟨_, rfl, rfl⟩, ⟨_, rfl, rfl⟩, ⟨_, rfl, rfl⟩, ⟨_, rfl, rfl⟩, ⟨_, rfl, ⟨rfl, rfl, (by simp only [len_map, List.length_append, List.length_set, List.length_replicate, List.length_cons, List.length_nil]), rfl⟩⟩, ⟨_, rfl, rfl⟩, trivial⟩ ⟨⟨_, rfl, rfl, .inl ⟨rfl, plain_of rfl⟩⟩, rfl, ⟨_, rfl, rfl, .inl ⟨rfl, plain_of rfl⟩⟩, rfl, ⟨_, rfl, rfl, .inl ⟨rfl, plain_of rfl⟩⟩, rfl, ⟨_, rfl, rfl, .inr ⟨_, _, rfl, ⟨_, _, rfl, rfl, ⟨_, _, rfl, rfl, ⟨_, _, rfl, ⟨rfl, rfl, rfl, rfl⟩, rfl⟩⟩⟩, rfl⟩⟩, rfl, ⟨_, rfl, rfl, .inl ⟨rfl, okI.plainO _⟩⟩, rfl, ⟨_, rfl, rfl, .inl ⟨rfl, okI.plainO _⟩⟩, rfl, trivial⟩ rfl) ?_
                  refine ac_region ?_
                  refine aops_eff (eff_move rfl) rfl rfl rfl ?_
                  refine aops_eff (x_add rfl rfl) rfl rfl rfl ?_
                  refine aops_eff (eff_assign rfl) rfl rfl rfl ?_
                  refine aops_nil ?_
                  refine then_n ?_
                  obtain rfl := so h
                  exact ⟨_, rfl, (ent_mk (σ := sg [(0, 0), (1, 1), (2, 2), (3, 3), (4, 4), (5, 5)]) ⟨⟨_, rfl, ⟨rfl, rfl, rfl, rfl⟩⟩, ⟨_, rfl, ⟨rfl, rfl, rfl, rfl⟩⟩, ⟨_, rfl, ⟨rfl, rfl, rfl, rfl⟩⟩, ⟨_, rfl, rfl⟩, ⟨_, rfl, ⟨rfl, rfl, rfl, rfl⟩⟩, ⟨_, rfl, rfl⟩, ⟨_, rfl, rfl⟩, ⟨_, rfl, rfl⟩, ⟨_, rfl, rfl⟩, ⟨_, rfl, rfl⟩, ⟨_, rfl, ⟨rfl, rfl, rfl, rfl⟩⟩, ⟨_, rfl, rfl⟩, trivial⟩ ⟨⟨_, rfl, rfl, .inl ⟨rfl, plain_of rfl⟩⟩, rfl, ⟨_, rfl, rfl, .inl ⟨rfl, plain_of rfl⟩⟩, rfl, ⟨_, rfl, rfl, .inl ⟨rfl, plain_of rfl⟩⟩, rfl, ⟨_, rfl, rfl, .inr ⟨_, _, rfl, ⟨_, _, rfl, rfl, ⟨_, _, rfl, rfl, ⟨_, _, rfl, ⟨rfl, rfl, rfl, rfl⟩, rfl⟩⟩⟩, rfl⟩⟩, rfl, ⟨_, rfl, rfl, .inl ⟨rfl, okI.plainO _⟩⟩, rfl, ⟨_, rfl, rfl, .inl ⟨rfl, okI.plainO _⟩⟩, rfl, trivial⟩ rfl)⟩
                · refine ac_condF rfl q10 ?_
                  refine ac_exit ?_
                  refine then_exit ?_
                  refine then_exit ?_
                  obtain rfl := so h
                  exact ⟨_, rfl, rfl, (ent_mk (σ := sg [(0, 0), (1, 1), (2, 2), (3, 3), (4, 4), (5, 5)]) ⟨⟨_, rfl, ⟨rfl, rfl, rfl, rfl⟩⟩, ⟨_, rfl, ⟨rfl, rfl, rfl, rfl⟩⟩, ⟨_, rfl, ⟨rfl, rfl, rfl, rfl⟩⟩, ⟨_, rfl, rfl⟩, ⟨_, rfl, ⟨rfl, rfl, rfl, rfl⟩⟩, ⟨_, rfl, rfl⟩, ⟨_, rfl, rfl⟩, ⟨_, rfl, rfl⟩, ⟨_, rfl, rfl⟩, ⟨_, rfl, rfl⟩, ⟨_, rfl, ⟨rfl, rfl, rfl, rfl⟩⟩, trivial⟩ ⟨⟨_, rfl, rfl, .inl ⟨rfl, plain_of rfl⟩⟩, rfl, ⟨_, rfl, rfl, .inl ⟨rfl, plain_of rfl⟩⟩, rfl, ⟨_, rfl, rfl, .inl ⟨rfl, plain_of rfl⟩⟩, rfl, ⟨_, rfl, rfl, .inr ⟨_, _, rfl, ⟨_, _, rfl, rfl, ⟨_, _, rfl, rfl, ⟨_, _, rfl, ⟨rfl, rfl, rfl, rfl⟩, rfl⟩⟩⟩, rfl⟩⟩, rfl, ⟨_, rfl, rfl, .inl ⟨rfl, okI.plainO _⟩⟩, rfl, ⟨_, rfl, rfl, .inl ⟨rfl, okI.plainO _⟩⟩, rfl, trivial⟩ rfl)⟩
              · rintro e t ⟨rfl, hent⟩
                refine block_here ?_
                refine then_n ?_
                refine ac_ent hent ?_
                refine ac_seq ?_
                refine ac_seq ?_
                refine ac_region ?_
                refine aops_eff (eff_assign rfl) rfl rfl rfl ?_
                refine aops_nil ?_
                refine then_n ?_
                refine ac_block ?_
                obtain ⟨y30, hy30, h⟩ := ob h
                refine ac_Lp (body := (m_spec_l11Equations_L5 a0 a1 v3 v4 x1 x2 x3)) hy30 (fun (x5 : ((List Int) × Int)) => mkS [(2, .ptr 0 0 0), (3, .ptr 1 0 0), (4, .ptr 2 0 0), (5, .int v1), (6, .ptr 3 0 0), (7, .int x1.2.2), (8, .int v3), (9, .int v4), (10, .int x2.2.2), (11, .int x3.2.2), (12, .own 5 0 x5.1.length), (15, .int x5.2)] [(0, ⟨6, [[.int a0.p, .int a0.q.n, .list 1 (List.map eI a0.q.src), .list 1 (List.map eI a0.q.tgt), .list 1 (List.map eI a0.dims), .list 3 (List.map eM a0.maps)]]⟩), (1, ⟨6, [[.int a1.p, .int a1.q.n, .list 1 (List.map eI a1.q.src), .list 1 (List.map eI a1.q.tgt), .list 1 (List.map eI a1.dims), .list 3 (List.map eM a1.maps)]]⟩), (2, ⟨3, [[.int 0, .int 0, .nil 1]]⟩), (3, ⟨3, [[.int x3.1, .int v1, .own 4 0 x3.2.1.length]]⟩), (4, ⟨1, List.map (ow eI) x3.2.1⟩), (5, ⟨1, List.map (ow eI) x5.1⟩)] 6 [6, 7, 8, 9, 10, 11, 12, 13, 14, 15, 16, 17, 18, 19]) (fun r e t => e = .exit 8 ∧ Ent t (mkS [(2, .ptr 0 0 0), (3, .ptr 1 0 0), (4, .ptr 2 0 0), (5, .int v1), (6, .ptr 3 0 0), (7, .int x1.2.2), (8, .int v3), (9, .int v4), (10, .int x2.2.2), (11, .int x3.2.2), (12, .own 5 0 r.length)] [(0, ⟨6, [[.int a0.p, .int a0.q.n, .list 1 (List.map eI a0.q.src), .list 1 (List.map eI a0.q.tgt), .list 1 (List.map eI a0.dims), .list 3 (List.map eM a0.maps)]]⟩), (1, ⟨6, [[.int a1.p, .int a1.q.n, .list 1 (List.map eI a1.q.src), .list 1 (List.map eI a1.q.tgt), .list 1 (List.map eI a1.dims), .list 3 (List.map eM a1.maps)]]⟩), (2, ⟨3, [[.int 0, .int 0, .nil 1]]⟩), (3, ⟨3, [[.int x3.1, .int v1, .own 4 0 x3.2.1.length]]⟩), (4, ⟨1, List.map (ow eI) x3.2.1⟩), (5, ⟨1, List.map (ow eI) r⟩)] 6 [6, 7, 8, 9, 10, 11, 12, 13, 14, 15, 16, 17, 18, 19])) (ent_mk (σ := sg [(0, 0), (1, 1), (2, 2), (3, 3), (4, 4), (5, 5)]) ⟨⟨_, rfl, ⟨rfl, rfl, rfl, rfl⟩⟩, ⟨_, rfl, ⟨rfl, rfl, rfl, rfl⟩⟩, ⟨_, rfl, ⟨rfl, rfl, rfl, rfl⟩⟩, ⟨_, rfl, rfl⟩, ⟨_, rfl, ⟨rfl, rfl, rfl, rfl⟩⟩, ⟨_, rfl, rfl⟩, ⟨_, rfl, rfl⟩, ⟨_, rfl, rfl⟩, ⟨_, rfl, rfl⟩, ⟨_, rfl, rfl⟩, ⟨_, rfl, ⟨rfl, rfl, rfl, rfl⟩⟩, ⟨_, rfl, rfl⟩, trivial⟩ ⟨⟨_, rfl, rfl, .inl ⟨rfl, plain_of rfl⟩⟩, rfl, ⟨_, rfl, rfl, .inl ⟨rfl, plain_of rfl⟩⟩, rfl, ⟨_, rfl, rfl, .inl ⟨rfl, plain_of rfl⟩⟩, rfl, ⟨_, rfl, rfl, .inr ⟨_, _, rfl, ⟨_, _, rfl, rfl, ⟨_, _, rfl, rfl, ⟨_, _, rfl, ⟨rfl, rfl, rfl, rfl⟩, rfl⟩⟩⟩, rfl⟩⟩, rfl, ⟨_, rfl, rfl, .inl ⟨rfl, okI.plainO _⟩⟩, rfl, ⟨_, rfl, rfl, .inl ⟨rfl, okI.plainO _⟩⟩, rfl, trivial⟩ rfl) ?_ ?_
                · intro x5 o h
                  refine ac_seq ?_
                  refine ac_seq ?_
                  refine ac_region ?_
                  refine aops_eff (eff_move rfl) rfl rfl rfl ?_
                  refine aops_eff (w_field_ptr TT_ok rfl rfl rfl rfl rfl rfl rfl) rfl rfl rfl ?_
                  refine aops_eff (w_load_ptr TT_ok rfl rfl rfl rfl rfl rfl rfl) rfl rfl rfl ?_
                  refine aops_eff (eff_move rfl) rfl rfl rfl ?_
                  obtain ⟨v20, hv20, h⟩ := ob h
                  refine aops_eff (x_at_list TT_ok hv20 rfl rfl rfl rfl rfl rfl) rfl rfl rfl ?_
                  refine aops_eff (w_load_ref TT_ok rfl rfl rfl rfl rfl rfl) rfl rfl rfl ?_
                  refine aops_eff (w_cmp rfl rfl rfl) rfl rfl rfl ?_
                  refine aops_nil ?_
                  refine then_n ?_
                  rcases cb h with ⟨q21, h⟩ | ⟨q21, h⟩
                  · refine ac_condT rfl q21 ?_
                    refine ac_skip ?_
                    refine then_n ?_
                    refine ac_seq ?_
                    refine ac_block ?_
                    refine ac_seq ?_
                    refine ac_region_draw MIXX ?_
                    refine aops_eff (w_load_ptr TT_ok rfl rfl rfl rfl rfl rfl rfl) rfl rfl rfl ?_
                    refine aops_eff (w_load_ptr TT_ok rfl rfl rfl rfl rfl rfl rfl) rfl rfl rfl ?_
                    refine aops_eff (eff_move rfl) rfl rfl rfl ?_
                    obtain ⟨v22, hv22, h⟩ := ob h
                    refine aops_eff (w_call0s (c_spec_l11At a0 a1 v4 v22 hv22) rfl (va_cons (va_agg' (v1_cons (v1_same rfl) (v1_cons (v1_same rfl) (v1_cons (v1_same rfl) (v1_cons (v1_same rfl) (v1_cons (v1_same rfl) (v1_cons (v1_same rfl) v1_nil))))))) (va_cons (va_agg' (v1_cons (v1_same rfl) (v1_cons (v1_same rfl) (v1_cons (v1_same rfl) (v1_cons (v1_same rfl) (v1_cons (v1_same rfl) (v1_cons (v1_same rfl) v1_nil))))))) (va_cons (va_same rfl) va_nil)))) rfl rfl rfl ?_
                    refine aops_eff (eff_move rfl) rfl rfl rfl ?_
                    refine aops_eff (w_field_ptr TT_ok rfl rfl rfl rfl rfl rfl rfl) rfl rfl rfl ?_
                    refine aops_eff (w_load_ptr TT_ok rfl rfl rfl rfl rfl rfl rfl) rfl rfl rfl ?_
                    refine aops_eff (eff_move rfl) rfl rfl rfl ?_
                    obtain ⟨v23, hv23, h⟩ := ob h
                    refine aops_eff (x_at_list TT_ok hv23 rfl rfl rfl rfl rfl rfl) rfl rfl rfl ?_
                    refine aops_eff (w_load_ref TT_ok rfl rfl rfl rfl rfl rfl) rfl rfl rfl ?_
                    refine aops_eff (x_mul rfl rfl) rfl rfl rfl ?_
                    refine aops_eff (x_add rfl rfl) rfl rfl rfl ?_
                    refine aops_eff (eff_move rfl) rfl rfl rfl ?_
                    refine aops_eff (x_add rfl rfl) rfl rfl rfl ?_
                    refine aops_eff (eff_assign rfl) rfl rfl rfl ?_
                    refine aops_nil ?_
                    refine ⟨by kernel_rfl, ?_⟩
                    refine then_n ?_
                    refine ac_ent (t := mkS [(2, .ptr 0 0 0), (3, .ptr 1 0 0), (4, .ptr 2 0 0), (5, .int v1), (6, .ptr 3 0 0), (7, .int x1.2.2), (8, .int v3), (9, .int v4), (10, .int x2.2.2), (11, .int x3.2.2), (12, .own 5 0 x5.1.length), (15, .int x5.2), (16, .int (wr ((wr (v22 + (wr (x2.2.2 * v23)))) + x5.2)))] [(0, ⟨6, [[.int a0.p, .int a0.q.n, .list 1 (List.map eI a0.q.src), .list 1 (List.map eI a0.q.tgt), .list 1 (List.map eI a0.dims), .list 3 (List.map eM a0.maps)]]⟩), (1, ⟨6, [[.int a1.p, .int a1.q.n, .list 1 (List.map eI a1.q.src), .list 1 (List.map eI a1.q.tgt), .list 1 (List.map eI a1.dims), .list 3 (List.map eM a1.maps)]]⟩), (2, ⟨3, [[.int 0, .int 0, .nil 1]]⟩), (3, ⟨3, [[.int x3.1, .int v1, .own 4 0 x3.2.1.length]]⟩), (4, ⟨1, List.map (ow eI) x3.2.1⟩), (5, ⟨1, List.map (ow eI) x5.1⟩)] 6 [6, 7, 8, 9, 10, 11, 12, 13, 14, 15, 16, 17, 18, 19]) (ent_mk (σ := sg [(0, 0), (1, 1), (2, 2), (3, 3), (4, 4), (5, 5)]) ⟨⟨_, rfl, ⟨rfl, rfl, rfl, rfl⟩⟩, ⟨_, rfl, ⟨rfl, rfl, rfl, rfl⟩⟩, ⟨_, rfl, ⟨rfl, rfl, rfl, rfl⟩⟩, ⟨_, rfl, rfl⟩, ⟨_, rfl, ⟨rfl, rfl, rfl, rfl⟩⟩, ⟨_, rfl, rfl⟩, ⟨_, rfl, rfl⟩, ⟨_, rfl, rfl⟩, ⟨_, rfl, rfl⟩, ⟨_, rfl, rfl⟩, ⟨_, rfl, ⟨rfl, rfl, rfl, rfl⟩⟩, ⟨_, rfl, rfl⟩, ⟨_, rfl, rfl⟩, trivial⟩ ⟨⟨_, rfl, rfl, .inl ⟨rfl, plain_of rfl⟩⟩, rfl, ⟨_, rfl, rfl, .inl ⟨rfl, plain_of rfl⟩⟩, rfl, ⟨_, rfl, rfl, .inl ⟨rfl, plain_of rfl⟩⟩, rfl, ⟨_, rfl, rfl, .inr ⟨_, _, rfl, ⟨_, _, rfl, rfl, ⟨_, _, rfl, rfl, ⟨_, _, rfl, ⟨rfl, rfl, rfl, rfl⟩, rfl⟩⟩⟩, rfl⟩⟩, rfl, ⟨_, rfl, rfl, .inl ⟨rfl, okI.plainO _⟩⟩, rfl, ⟨_, rfl, rfl, .inl ⟨rfl, okI.plainO _⟩⟩, rfl, trivial⟩ rfl) ?_
                    refine ac_region_draw MIXX ?_
                    refine aops_eff (eff_move rfl) rfl rfl rfl ?_
                    refine aops_eff (eff_move rfl) rfl rfl rfl ?_
                    refine aops_eff (w_field_ptr TT_ok rfl rfl rfl rfl rfl rfl rfl) rfl rfl rfl ?_
                    refine aops_eff (w_load_ptr TT_ok rfl rfl rfl rfl rfl rfl rfl) rfl rfl rfl ?_
                    refine aops_eff (eff_move rfl) rfl rfl rfl ?_
                    refine aops_eff (eff_move rfl) rfl rfl rfl ?_
                    obtain ⟨v24, hv24, h⟩ := ob h
                    refine aops_eff (x_at_own TT_ok (atL_nn hv24) (atL_lt hv24) rfl rfl rfl rfl rfl rfl rfl) rfl rfl rfl ?_
                    refine aops_eff (w_load_ptr TT_ok rfl rfl rfl rfl (map_at (atL_get hv24)) rfl rfl) rfl rfl rfl ?_
                    refine aops_eff (w_field_ptr TT_ok rfl rfl rfl rfl rfl rfl rfl) rfl rfl rfl ?_
                    refine aops_eff (w_load_ptr TT_ok rfl rfl rfl rfl rfl rfl rfl) rfl rfl rfl ?_
                    refine aops_eff (eff_move rfl) rfl rfl rfl ?_
                    obtain ⟨v25, hv25, h⟩ := ob h
                    refine aops_eff (x_at_list TT_ok hv25 rfl rfl rfl rfl rfl rfl) rfl rfl rfl ?_
                    refine aops_eff (w_field_ref TT_ok rfl rfl rfl rfl rfl rfl) rfl rfl rfl ?_
                    refine aops_eff (w_load_ref TT_ok rfl rfl rfl rfl rfl rfl) rfl rfl rfl ?_
                    refine aops_eff (eff_move rfl) rfl rfl rfl ?_
                    refine aops_eff (w_field_ptr TT_ok rfl rfl rfl rfl rfl rfl rfl) rfl rfl rfl ?_
                    refine aops_eff (w_load_ptr TT_ok rfl rfl rfl rfl rfl rfl rfl) rfl rfl rfl ?_
                    refine aops_eff (eff_move rfl) rfl rfl rfl ?_
                    obtain ⟨v26, hv26, h⟩ := ob h
                    refine aops_eff (x_at_list TT_ok hv26 rfl rfl rfl rfl rfl rfl) rfl rfl rfl ?_
                    refine aops_eff (w_load_ref TT_ok rfl rfl rfl rfl rfl rfl) rfl rfl rfl ?_
                    refine aops_eff (x_mul rfl rfl) rfl rfl rfl ?_
                    refine aops_eff (eff_move rfl) rfl rfl rfl ?_
                    refine aops_eff (x_add rfl rfl) rfl rfl rfl ?_
                    obtain ⟨v27, hv27, h⟩ := ob h
                    refine aops_eff (x_at_list TT_ok hv27 rfl rfl rfl rfl rfl rfl) rfl rfl rfl ?_
                    refine aops_eff (w_load_ref TT_ok rfl rfl rfl rfl rfl rfl) rfl rfl rfl ?_
                    refine aops_eff (x_sub rfl rfl) rfl rfl rfl ?_
                    obtain ⟨v28, hv28, h⟩ := ob h
                    refine aops_eff (w_call0s (c_spec_l2Mod a0.p (wr (v24 - v27)) v28 hv28) rfl (va_cons (va_same rfl) (va_cons (va_same rfl) va_nil))) rfl rfl rfl ?_
                    obtain ⟨v29, hv29, h⟩ := ob h
                    refine aops_eff (x_at_own TT_ok (atL_nn hv29) (atL_lt hv29) rfl rfl rfl rfl rfl rfl rfl) rfl rfl rfl ?_
                    refine aops_eff (x_store TT_ok okIo (u := v28) (atL_get hv29) rfl rfl rfl rfl rfl rfl) rfl rfl rfl ?_
                    refine aops_nil ?_
                    refine ⟨by kernel_rfl, ?_⟩
                    refine block_n ?_
                    refine then_n ?_
                    refine ac_ent (t := mkS [(2, .ptr 0 0 0), (3, .ptr 1 0 0), (4, .ptr 2 0 0), (5, .int v1), (6, .ptr 3 0 0), (7, .int x1.2.2), (8, .int v3), (9, .int v4), (10, .int x2.2.2), (11, .int x3.2.2), (12, .own 5 0 ((x5.1.set ((wr ((wr (v22 + (wr (x2.2.2 * v23)))) + x5.2)).toNat) v28).length)), (15, .int x5.2)] [(0, ⟨6, [[.int a0.p, .int a0.q.n, .list 1 (List.map eI a0.q.src), .list 1 (List.map eI a0.q.tgt), .list 1 (List.map eI a0.dims), .list 3 (List.map eM a0.maps)]]⟩), (1, ⟨6, [[.int a1.p, .int a1.q.n, .list 1 (List.map eI a1.q.src), .list 1 (List.map eI a1.q.tgt), .list 1 (List.map eI a1.dims), .list 3 (List.map eM a1.maps)]]⟩), (2, ⟨3, [[.int 0, .int 0, .nil 1]]⟩), (3, ⟨3, [[.int x3.1, .int v1, .own 4 0 x3.2.1.length]]⟩), (4, ⟨1, List.map (ow eI) x3.2.1⟩), (5, ⟨1, List.map (ow eI) (x5.1.set ((wr ((wr (v22 + (wr (x2.2.2 * v23)))) + x5.2)).toNat) v28)⟩)] 6 [6, 7, 8, 9, 10, 11, 12, 13, 14, 15, 16, 17, 18, 19]) (ent_mk (σ := sg [(0, 0), (1, 1), (2, 2), (3, 3), (4, 4), (5, 5)]) ⟨⟨_, rfl, ⟨rfl, rfl, rfl, rfl⟩⟩, ⟨_, rfl, ⟨rfl, rfl, rfl, rfl⟩⟩, ⟨_, rfl, ⟨rfl, rfl, rfl, rfl⟩⟩, ⟨_, rfl, rfl⟩, ⟨_, rfl, ⟨rfl, rfl, rfl, rfl⟩⟩, ⟨_, rfl, rfl⟩, ⟨_, rfl, rfl⟩, ⟨_, rfl, rfl⟩, ⟨_, rfl, rfl⟩, ⟨_, rfl, rfl⟩, ⟨_, rfl, ⟨rfl, rfl, (by simp only [len_map, List.length_append, List.length_set, List.length_replicate, List.length_cons, List.length_nil]), rfl⟩⟩, ⟨_, rfl, rfl⟩, trivial⟩ ⟨⟨_, rfl, rfl, .inl ⟨rfl, plain_of rfl⟩⟩, rfl, ⟨_, rfl, rfl, .inl ⟨rfl, plain_of rfl⟩⟩, rfl, ⟨_, rfl, rfl, .inl ⟨rfl, plain_of rfl⟩⟩, rfl, ⟨_, rfl, rfl, .inr ⟨_, _, rfl, ⟨_, _, rfl, rfl, ⟨_, _, rfl, rfl, ⟨_, _, rfl, ⟨rfl, rfl, rfl, rfl⟩, rfl⟩⟩⟩, rfl⟩⟩, rfl, ⟨_, rfl, rfl, .inl ⟨rfl, okI.plainO _⟩⟩, rfl, ⟨_, rfl, rfl, .inl ⟨rfl, okI.plainO _⟩⟩, rfl, trivial⟩ rfl) ?_
                    refine ac_region ?_
                    refine aops_eff (eff_move rfl) rfl rfl rfl ?_
                    refine aops_eff (x_add rfl rfl) rfl rfl rfl ?_
                    refine aops_eff (eff_assign rfl) rfl rfl rfl ?_
                    refine aops_nil ?_
                    refine then_n ?_
                    obtain rfl := so h
                    exact ⟨_, rfl, (ent_mk (σ := sg [(0, 0), (1, 1), (2, 2), (3, 3), (4, 4), (5, 5)]) ⟨⟨_, rfl, ⟨rfl, rfl, rfl, rfl⟩⟩, ⟨_, rfl, ⟨rfl, rfl, rfl, rfl⟩⟩, ⟨_, rfl, ⟨rfl, rfl, rfl, rfl⟩⟩, ⟨_, rfl, rfl⟩, ⟨_, rfl, ⟨rfl, rfl, rfl, rfl⟩⟩, ⟨_, rfl, rfl⟩, ⟨_, rfl, rfl⟩, ⟨_, rfl, rfl⟩, ⟨_, rfl, rfl⟩, ⟨_, rfl, rfl⟩, ⟨_, rfl, ⟨rfl, rfl, rfl, rfl⟩⟩, ⟨_, rfl, rfl⟩, trivial⟩ ⟨⟨_, rfl, rfl, .inl ⟨rfl, plain_of rfl⟩⟩, rfl, ⟨_, rfl, rfl, .inl ⟨rfl, plain_of rfl⟩⟩, rfl, ⟨_, rfl, rfl, .inl ⟨rfl, plain_of rfl⟩⟩, rfl, ⟨_, rfl, rfl, .inr ⟨_, _, rfl, ⟨_, _, rfl, rfl, ⟨_, _, rfl, rfl, ⟨_, _, rfl, ⟨rfl, rfl, rfl, rfl⟩, rfl⟩⟩⟩, rfl⟩⟩, rfl, ⟨_, rfl, rfl, .inl ⟨rfl, okI.plainO _⟩⟩, rfl, ⟨_, rfl, rfl, .inl ⟨rfl, okI.plainO _⟩⟩, rfl, trivial⟩ rfl)⟩
                  · refine ac_condF rfl q21 ?_
                    refine ac_exit ?_
                    refine then_exit ?_
                    refine then_exit ?_
                    obtain rfl := so h
                    exact ⟨_, rfl, rfl, (ent_mk (σ := sg [(0, 0), (1, 1), (2, 2), (3, 3), (4, 4), (5, 5)]) ⟨⟨_, rfl, ⟨rfl, rfl, rfl, rfl⟩⟩, ⟨_, rfl, ⟨rfl, rfl, rfl, rfl⟩⟩, ⟨_, rfl, ⟨rfl, rfl, rfl, rfl⟩⟩, ⟨_, rfl, rfl⟩, ⟨_, rfl, ⟨rfl, rfl, rfl, rfl⟩⟩, ⟨_, rfl, rfl⟩, ⟨_, rfl, rfl⟩, ⟨_, rfl, rfl⟩, ⟨_, rfl, rfl⟩, ⟨_, rfl, rfl⟩, ⟨_, rfl, ⟨rfl, rfl, rfl, rfl⟩⟩, trivial⟩ ⟨⟨_, rfl, rfl, .inl ⟨rfl, plain_of rfl⟩⟩, rfl, ⟨_, rfl, rfl, .inl ⟨rfl, plain_of rfl⟩⟩, rfl, ⟨_, rfl, rfl, .inl ⟨rfl, plain_of rfl⟩⟩, rfl, ⟨_, rfl, rfl, .inr ⟨_, _, rfl, ⟨_, _, rfl, rfl, ⟨_, _, rfl, rfl, ⟨_, _, rfl, ⟨rfl, rfl, rfl, rfl⟩, rfl⟩⟩⟩, rfl⟩⟩, rfl, ⟨_, rfl, rfl, .inl ⟨rfl, okI.plainO _⟩⟩, rfl, ⟨_, rfl, rfl, .inl ⟨rfl, okI.plainO _⟩⟩, rfl, trivial⟩ rfl)⟩
                · rintro e t ⟨rfl, hent⟩
                  refine block_here ?_
                  refine then_n ?_
                  refine ac_ent hent ?_
                  refine ac_seq ?_
                  refine ac_region ?_
                  refine aops_eff (w_field_ptr TT_ok rfl rfl rfl rfl rfl rfl rfl) rfl rfl rfl ?_
                  refine aops_eff (w_load_ptr TT_ok rfl rfl rfl rfl rfl rfl rfl) rfl rfl rfl ?_
                  refine aops_eff (x_add rfl rfl) rfl rfl rfl ?_
                  refine aops_eff (w_field_ptr TT_ok rfl rfl rfl rfl rfl rfl rfl) rfl rfl rfl ?_
                  refine aops_eff (w_store TT_ok rfl rfl rfl rfl rfl rfl rfl rfl) rfl rfl rfl ?_
                  refine aops_nil ?_
                  refine then_n ?_
                  refine ac_region ?_
                  refine aops_eff (w_field_ptr TT_ok rfl rfl rfl rfl rfl rfl rfl) rfl rfl rfl ?_
                  refine aops_eff (w_load_ptr TT_ok rfl rfl rfl rfl rfl rfl rfl) rfl rfl rfl ?_
                  refine aops_eff (eff_move rfl) rfl rfl rfl ?_
                  obtain ⟨q31, h⟩ := cg h
                  refine aops_eff (x_app TT_ok (l := x3.2.1) (m := y30) okIo q31 rfl rfl rfl rfl rfl (x_src okI rfl rfl) rfl rfl rfl rfl rfl rfl) rfl rfl rfl ?_
                  refine aops_eff (w_field_ptr TT_ok rfl rfl rfl rfl rfl rfl rfl) rfl rfl rfl ?_
                  refine aops_eff (w_store TT_ok rfl rfl rfl rfl rfl rfl rfl rfl) rfl rfl rfl ?_
                  refine aops_nil ?_
                  refine block_n ?_
                  refine then_n ?_
                  refine ac_region ?_
                  refine aops_eff (eff_move rfl) rfl rfl rfl ?_
                  refine aops_eff (x_add rfl rfl) rfl rfl rfl ?_
                  refine aops_eff (eff_assign rfl) rfl rfl rfl ?_
                  refine aops_nil ?_
                  refine then_n ?_
                  obtain rfl := so h
                  exact ⟨_, rfl, (ent_mk (σ := sg [(0, 0), (1, 1), (2, 2), (3, 3), (4, 6)]) ⟨⟨_, rfl, ⟨rfl, rfl, rfl, rfl⟩⟩, ⟨_, rfl, ⟨rfl, rfl, rfl, rfl⟩⟩, ⟨_, rfl, ⟨rfl, rfl, rfl, rfl⟩⟩, ⟨_, rfl, rfl⟩, ⟨_, rfl, ⟨rfl, rfl, rfl, rfl⟩⟩, ⟨_, rfl, rfl⟩, ⟨_, rfl, rfl⟩, ⟨_, rfl, rfl⟩, ⟨_, rfl, rfl⟩, ⟨_, rfl, rfl⟩, trivial⟩ ⟨⟨_, rfl, rfl, .inl ⟨rfl, plain_of rfl⟩⟩, rfl, ⟨_, rfl, rfl, .inl ⟨rfl, plain_of rfl⟩⟩, rfl, ⟨_, rfl, rfl, .inl ⟨rfl, plain_of rfl⟩⟩, rfl, ⟨_, rfl, rfl, .inr ⟨_, _, rfl, ⟨_, _, rfl, rfl, ⟨_, _, rfl, rfl, ⟨_, _, rfl, ⟨rfl, rfl, rfl, rfl⟩, rfl⟩⟩⟩, rfl⟩⟩, rfl, ⟨_, rfl, rfl, .inl ⟨rfl, okI.plainO _⟩⟩, rfl, trivial⟩ rfl)⟩
            · refine ac_condF rfl q8 ?_
              refine ac_exit ?_
              refine then_exit ?_
              refine then_exit ?_
              obtain rfl := so h
              exact ⟨_, rfl, rfl, (ent_mk (σ := sg [(0, 0), (1, 1), (2, 2), (3, 3), (4, 4)]) ⟨⟨_, rfl, ⟨rfl, rfl, rfl, rfl⟩⟩, ⟨_, rfl, ⟨rfl, rfl, rfl, rfl⟩⟩, ⟨_, rfl, ⟨rfl, rfl, rfl, rfl⟩⟩, ⟨_, rfl, rfl⟩, ⟨_, rfl, ⟨rfl, rfl, rfl, rfl⟩⟩, ⟨_, rfl, rfl⟩, ⟨_, rfl, rfl⟩, ⟨_, rfl, rfl⟩, ⟨_, rfl, rfl⟩, trivial⟩ ⟨⟨_, rfl, rfl, .inl ⟨rfl, plain_of rfl⟩⟩, rfl, ⟨_, rfl, rfl, .inl ⟨rfl, plain_of rfl⟩⟩, rfl, ⟨_, rfl, rfl, .inl ⟨rfl, plain_of rfl⟩⟩, rfl, ⟨_, rfl, rfl, .inr ⟨_, _, rfl, ⟨_, _, rfl, rfl, ⟨_, _, rfl, rfl, ⟨_, _, rfl, ⟨rfl, rfl, rfl, rfl⟩, rfl⟩⟩⟩, rfl⟩⟩, rfl, ⟨_, rfl, rfl, .inl ⟨rfl, okI.plainO _⟩⟩, rfl, trivial⟩ rfl)⟩
          · rintro e t ⟨rfl, hent⟩
            refine block_here ?_
            refine block_n ?_
            refine then_n ?_
            refine ac_ent hent ?_
            refine ac_region ?_
            refine aops_eff (eff_move rfl) rfl rfl rfl ?_
            refine aops_eff (x_add rfl rfl) rfl rfl rfl ?_
            refine aops_eff (eff_assign rfl) rfl rfl rfl ?_
            refine aops_nil ?_
            refine then_n ?_
            obtain rfl := so h
            exact ⟨_, rfl, (ent_mk (σ := sg [(0, 0), (1, 1), (2, 2), (3, 3), (4, 4)]) ⟨⟨_, rfl, ⟨rfl, rfl, rfl, rfl⟩⟩, ⟨_, rfl, ⟨rfl, rfl, rfl, rfl⟩⟩, ⟨_, rfl, ⟨rfl, rfl, rfl, rfl⟩⟩, ⟨_, rfl, rfl⟩, ⟨_, rfl, ⟨rfl, rfl, rfl, rfl⟩⟩, ⟨_, rfl, rfl⟩, ⟨_, rfl, rfl⟩, ⟨_, rfl, rfl⟩, ⟨_, rfl, rfl⟩, trivial⟩ ⟨⟨_, rfl, rfl, .inl ⟨rfl, plain_of rfl⟩⟩, rfl, ⟨_, rfl, rfl, .inl ⟨rfl, plain_of rfl⟩⟩, rfl, ⟨_, rfl, rfl, .inl ⟨rfl, plain_of rfl⟩⟩, rfl, ⟨_, rfl, rfl, .inr ⟨_, _, rfl, ⟨_, _, rfl, rfl, ⟨_, _, rfl, rfl, ⟨_, _, rfl, ⟨rfl, rfl, rfl, rfl⟩, rfl⟩⟩⟩, rfl⟩⟩, rfl, ⟨_, rfl, rfl, .inl ⟨rfl, okI.plainO _⟩⟩, rfl, trivial⟩ rfl)⟩
        · refine ac_condF rfl q6 ?_
          refine ac_exit ?_
          refine then_exit ?_
          refine then_exit ?_
          obtain rfl := so h
          exact ⟨_, rfl, rfl, (ent_mk (σ := sg [(0, 0), (1, 1), (2, 2), (3, 3), (4, 4)]) ⟨⟨_, rfl, ⟨rfl, rfl, rfl, rfl⟩⟩, ⟨_, rfl, ⟨rfl, rfl, rfl, rfl⟩⟩, ⟨_, rfl, ⟨rfl, rfl, rfl, rfl⟩⟩, ⟨_, rfl, rfl⟩, ⟨_, rfl, ⟨rfl, rfl, rfl, rfl⟩⟩, ⟨_, rfl, rfl⟩, trivial⟩ ⟨⟨_, rfl, rfl, .inl ⟨rfl, plain_of rfl⟩⟩, rfl, ⟨_, rfl, rfl, .inl ⟨rfl, plain_of rfl⟩⟩, rfl, ⟨_, rfl, rfl, .inl ⟨rfl, plain_of rfl⟩⟩, rfl, ⟨_, rfl, rfl, .inr ⟨_, _, rfl, ⟨_, _, rfl, rfl, ⟨_, _, rfl, rfl, ⟨_, _, rfl, ⟨rfl, rfl, rfl, rfl⟩, rfl⟩⟩⟩, rfl⟩⟩, rfl, ⟨_, rfl, rfl, .inl ⟨rfl, okI.plainO _⟩⟩, rfl, trivial⟩ rfl)⟩
      · rintro e t ⟨rfl, hent⟩
        refine block_here ?_
        refine block_n ?_
        refine then_n ?_
        refine ac_ent hent ?_
        refine ac_region ?_
        refine aops_eff (eff_move rfl) rfl rfl rfl ?_
        refine aops_eff (x_add rfl rfl) rfl rfl rfl ?_
        refine aops_eff (eff_assign rfl) rfl rfl rfl ?_
        refine aops_nil ?_
        refine then_n ?_
        obtain rfl := so h
        exact ⟨_, rfl, (ent_mk (σ := sg [(0, 0), (1, 1), (2, 2), (3, 3), (4, 4)]) ⟨⟨_, rfl, ⟨rfl, rfl, rfl, rfl⟩⟩, ⟨_, rfl, ⟨rfl, rfl, rfl, rfl⟩⟩, ⟨_, rfl, ⟨rfl, rfl, rfl, rfl⟩⟩, ⟨_, rfl, rfl⟩, ⟨_, rfl, ⟨rfl, rfl, rfl, rfl⟩⟩, ⟨_, rfl, rfl⟩, trivial⟩ ⟨⟨_, rfl, rfl, .inl ⟨rfl, plain_of rfl⟩⟩, rfl, ⟨_, rfl, rfl, .inl ⟨rfl, plain_of rfl⟩⟩, rfl, ⟨_, rfl, rfl, .inl ⟨rfl, plain_of rfl⟩⟩, rfl, ⟨_, rfl, rfl, .inr ⟨_, _, rfl, ⟨_, _, rfl, rfl, ⟨_, _, rfl, rfl, ⟨_, _, rfl, ⟨rfl, rfl, rfl, rfl⟩, rfl⟩⟩⟩, rfl⟩⟩, rfl, ⟨_, rfl, rfl, .inl ⟨rfl, okI.plainO _⟩⟩, rfl, trivial⟩ rfl)⟩
    · refine ac_condF rfl q2 ?_
      refine ac_exit ?_
      refine then_exit ?_
      refine then_exit ?_
      obtain rfl := so h
      exact ⟨_, rfl, rfl, (ent_mk (σ := sg [(0, 2), (1, 3), (2, 4)]) ⟨⟨_, rfl, ⟨rfl, rfl, rfl, rfl⟩⟩, ⟨_, rfl, ⟨rfl, rfl, rfl, rfl⟩⟩, trivial⟩ ⟨⟨_, rfl, rfl, .inl ⟨rfl, plain_of rfl⟩⟩, rfl, ⟨_, rfl, rfl, .inr ⟨_, _, rfl, ⟨_, _, rfl, rfl, ⟨_, _, rfl, rfl, ⟨_, _, rfl, ⟨rfl, rfl, rfl, rfl⟩, rfl⟩⟩⟩, rfl⟩⟩, rfl, ⟨_, rfl, rfl, .inl ⟨rfl, okI.plainO _⟩⟩, rfl, trivial⟩ rfl)⟩
  · rintro e t ⟨rfl, hent⟩
    refine block_here ?_
    refine then_n ?_
    refine ac_ent hent ?_
    refine ac_seq ?_
    refine ac_region ?_
    refine aops_eff (w_load_ptr TT_ok rfl rfl rfl rfl rfl rfl rfl) rfl rfl rfl ?_
    refine aops_eff (w_store TT_ok rfl rfl rfl rfl rfl rfl rfl rfl) rfl rfl rfl ?_
    refine aops_nil ?_
    refine then_n ?_
    refine ac_ret ?_
    obtain rfl := so h
    exact ret_mk rfl rfl rfl (xz_agg (x1_cons (rfl) (x1_cons (rfl) (x1_cons (x_f1 okI rfl rfl) x1_nil))))

noncomputable def m_spec_l11Cells_L1 (a0 : Rp) (a1 : Rp) (a2 : (List Int)) (x1 : ((List Mt) × Int × Int)) : Option (((List Mt) × Int × Int) ⊕ (List Mt)) :=
  bif decide (x1.2.2 < (a0.dims.length : Int)) then
    (Option.bind (atL a0.dims x1.2.2) fun v2 =>
    Option.bind (atL a1.dims x1.2.2) fun v3 =>
    Option.bind (atL a1.dims x1.2.2) fun v4 =>
    Option.bind (atL a0.dims x1.2.2) fun v5 =>
    bif (decide (0 ≤ x1.2.1) && (decide (x1.2.1 ≤ wr (x1.2.1 + (wr (v2 * v3)))) && decide (wr (x1.2.1 + (wr (v2 * v3))) ≤ (a2.length : Int)))) then
      (bif decide (([] : (List Int)).length + ((a2.drop x1.2.1.toNat).take ((wr (x1.2.1 + (wr (v2 * v3)))).toNat - x1.2.1.toNat)).length ≤ 4294967296) then
        (bif decide (x1.1.length + 1 ≤ 4294967296) then
          (some (.inl ((x1.1 ++ [(⟨v4, v5, (([] : (List Int)) ++ ((a2.drop x1.2.1.toNat).take ((wr (x1.2.1 + (wr (v2 * v3)))).toNat - x1.2.1.toNat)))⟩ : Mt)]), wr (x1.2.1 + (wr (v2 * v3))), wr (x1.2.2 + 1))))
        else none)
      else none)
    else none)
  else
    (some (.inr x1.1))

noncomputable def m_spec_l11Cells (a0 : Rp) (a1 : Rp) (a2 : (List Int)) : Option (List Mt) :=
  Option.bind (Lp (m_spec_l11Cells_L1 a0 a1 a2) (([] : (List Mt)), 0, 0)) fun y9 =>
  some (y9)

theorem c_spec_l11Cells (a0 : Rp) (a1 : Rp) (a2 : (List Int)) (r : (List Mt)) (h : m_spec_l11Cells a0 a1 a2 = some r) : HasC Try.prog 129 [.agg (eR a0), .agg (eR a1), .list 1 (List.map eI a2)] (.list 3 (List.map eM r)) := by
  refine hasC_mk TT_ok (rvs := [.tmp 6]) (ns := [0, 1, 2, 3, 4, 5, 6, 7, 8, 9, 10, 11, 12, 13]) Try.func129 rfl rfl Try.ntmps129 rfl rfl rfl ?_
  refine ac_seq ?_
  refine ac_region ?_
  refine aops_eff (w_box rfl rfl rfl rfl) rfl rfl rfl ?_
  refine aops_eff (w_box rfl rfl rfl rfl) rfl rfl rfl ?_
  refine aops_eff (eff_assign rfl) rfl rfl rfl ?_
  refine aops_nil ?_
  refine then_n ?_
  refine ac_seq ?_
  refine ac_region ?_
  refine aops_eff (w_lit TT_ok rfl rfl rfl rfl rfl rfl rfl rfl rfl rfl rfl rfl) rfl rfl rfl ?_
  refine aops_eff (eff_assign rfl) rfl rfl rfl ?_
  refine aops_nil ?_
  refine then_n ?_
  refine ac_ent (t := mkS [(2, .list 1 (List.map eI a2)), (3, .ptr 0 0 0), (4, .ptr 1 0 0), (7, .own 2 0 (([] : (List Mt)).length))] [(0, ⟨6, [[.int a0.p, .int a0.q.n, .list 1 (List.map eI a0.q.src), .list 1 (List.map eI a0.q.tgt), .list 1 (List.map eI a0.dims), .list 3 (List.map eM a0.maps)]]⟩), (1, ⟨6, [[.int a1.p, .int a1.q.n, .list 1 (List.map eI a1.q.src), .list 1 (List.map eI a1.q.tgt), .list 1 (List.map eI a1.dims), .list 3 (List.map eM a1.maps)]]⟩), (2, ⟨3, List.map (ow eM) ([] : (List Mt))⟩)] 3 [3, 4, 5, 6, 7, 8, 9, 10, 11, 12, 13, 14, 15, 16]) (ent_mk (σ := sg [(0, 0), (1, 1), (2, 2)]) ⟨⟨_, rfl, ⟨rfl, rfl⟩⟩, ⟨_, rfl, ⟨rfl, rfl, rfl, rfl⟩⟩, ⟨_, rfl, ⟨rfl, rfl, rfl, rfl⟩⟩, ⟨_, rfl, ⟨rfl, rfl, (by simp only [len_map, List.length_append, List.length_set, List.length_replicate, List.length_cons, List.length_nil]), rfl⟩⟩, trivial⟩ ⟨⟨_, rfl, rfl, .inl ⟨rfl, plain_of rfl⟩⟩, rfl, ⟨_, rfl, rfl, .inl ⟨rfl, plain_of rfl⟩⟩, rfl, ⟨_, rfl, rfl, .inl ⟨rfl, okMt.plainO _⟩⟩, rfl, trivial⟩ rfl) ?_
  refine ac_seq ?_
  refine ac_region ?_
  refine aops_eff (eff_assign rfl) rfl rfl rfl ?_
  refine aops_nil ?_
  refine then_n ?_
  refine ac_seq ?_
  refine ac_seq ?_
  refine ac_region ?_
  refine aops_eff (eff_assign rfl) rfl rfl rfl ?_
  refine aops_nil ?_
  refine then_n ?_
  refine ac_block ?_
  obtain ⟨y9, hy9, h⟩ := ob h
  refine ac_Lp (body := (m_spec_l11Cells_L1 a0 a1 a2)) hy9 (fun (x1 : ((List Mt) × Int × Int)) => mkS [(2, .list 1 (List.map eI a2)), (3, .ptr 0 0 0), (4, .ptr 1 0 0), (7, .own 2 0 x1.1.length), (8, .int x1.2.1), (9, .int x1.2.2)] [(0, ⟨6, [[.int a0.p, .int a0.q.n, .list 1 (List.map eI a0.q.src), .list 1 (List.map eI a0.q.tgt), .list 1 (List.map eI a0.dims), .list 3 (List.map eM a0.maps)]]⟩), (1, ⟨6, [[.int a1.p, .int a1.q.n, .list 1 (List.map eI a1.q.src), .list 1 (List.map eI a1.q.tgt), .list 1 (List.map eI a1.dims), .list 3 (List.map eM a1.maps)]]⟩), (2, ⟨3, List.map (ow eM) x1.1⟩)] 3 [3, 4, 5, 6, 7, 8, 9, 10, 11, 12, 13, 14, 15, 16]) (fun r e t => e = .exit 0 ∧ Ent t (mkS [(7, .own 0 0 r.length)] [(0, ⟨3, List.map (ow eM) r⟩)] 1 [1, 2, 3, 4, 5, 6, 7, 8, 9, 10, 11, 12, 13, 14])) (ent_mk (σ := sg [(0, 0), (1, 1), (2, 2)]) ⟨⟨_, rfl, ⟨rfl, rfl⟩⟩, ⟨_, rfl, ⟨rfl, rfl, rfl, rfl⟩⟩, ⟨_, rfl, ⟨rfl, rfl, rfl, rfl⟩⟩, ⟨_, rfl, ⟨rfl, rfl, rfl, rfl⟩⟩, ⟨_, rfl, rfl⟩, ⟨_, rfl, rfl⟩, trivial⟩ ⟨⟨_, rfl, rfl, .inl ⟨rfl, plain_of rfl⟩⟩, rfl, ⟨_, rfl, rfl, .inl ⟨rfl, plain_of rfl⟩⟩, rfl, ⟨_, rfl, rfl, .inl ⟨rfl, okMt.plainO _⟩⟩, rfl, trivial⟩ rfl) ?_ ?_
  · intro x1 o h
    refine ac_seq ?_
    refine ac_seq ?_
    refine ac_region ?_
    refine aops_eff (eff_move rfl) rfl rfl rfl ?_
    refine aops_eff (w_field_ptr TT_ok rfl rfl rfl rfl rfl rfl rfl) rfl rfl rfl ?_
    refine aops_eff (w_load_ptr TT_ok rfl rfl rfl rfl rfl rfl rfl) rfl rfl rfl ?_
    refine aops_eff (AEff.val (w_len_list TT_ok rfl rfl rfl) (v' := .int (a0.dims.length : Int)) (by first | rw [len_map] | rw [encI_len])) rfl rfl rfl ?_
    refine aops_eff (w_cmp rfl rfl rfl) rfl rfl rfl ?_
    refine aops_nil ?_
    refine then_n ?_
    rcases cb h with ⟨q1, h⟩ | ⟨q1, h⟩
    · refine ac_condT rfl q1 ?_
      refine ac_skip ?_
      refine then_n ?_
      refine ac_seq ?_
      refine ac_block ?_
      refine ac_seq ?_
      refine ac_region_draw MIXX ?_
      refine aops_eff (w_field_ptr TT_ok rfl rfl rfl rfl rfl rfl rfl) rfl rfl rfl ?_
      refine aops_eff (w_load_ptr TT_ok rfl rfl rfl rfl rfl rfl rfl) rfl rfl rfl ?_
      refine aops_eff (eff_move rfl) rfl rfl rfl ?_
      obtain ⟨v2, hv2, h⟩ := ob h
      refine aops_eff (x_at_list TT_ok hv2 rfl rfl rfl rfl rfl rfl) rfl rfl rfl ?_
      refine aops_eff (w_load_ref TT_ok rfl rfl rfl rfl rfl rfl) rfl rfl rfl ?_
      refine aops_eff (w_field_ptr TT_ok rfl rfl rfl rfl rfl rfl rfl) rfl rfl rfl ?_
      refine aops_eff (w_load_ptr TT_ok rfl rfl rfl rfl rfl rfl rfl) rfl rfl rfl ?_
      refine aops_eff (eff_move rfl) rfl rfl rfl ?_
      obtain ⟨v3, hv3, h⟩ := ob h
      refine aops_eff (x_at_list TT_ok hv3 rfl rfl rfl rfl rfl rfl) rfl rfl rfl ?_
      refine aops_eff (w_load_ref TT_ok rfl rfl rfl rfl rfl rfl) rfl rfl rfl ?_
      refine aops_eff (x_mul rfl rfl) rfl rfl rfl ?_
      refine aops_eff (eff_assign rfl) rfl rfl rfl ?_
      refine aops_nil ?_
      refine ⟨by kernel_rfl, ?_⟩
      refine then_n ?_
      refine ac_ent (t := mkS [(2, .list 1 (List.map eI a2)), (3, .ptr 0 0 0), (4, .ptr 1 0 0), (7, .own 2 0 x1.1.length), (8, .int x1.2.1), (9, .int x1.2.2), (10, .int (wr (v2 * v3)))] [(0, ⟨6, [[.int a0.p, .int a0.q.n, .list 1 (List.map eI a0.q.src), .list 1 (List.map eI a0.q.tgt), .list 1 (List.map eI a0.dims), .list 3 (List.map eM a0.maps)]]⟩), (1, ⟨6, [[.int a1.p, .int a1.q.n, .list 1 (List.map eI a1.q.src), .list 1 (List.map eI a1.q.tgt), .list 1 (List.map eI a1.dims), .list 3 (List.map eM a1.maps)]]⟩), (2, ⟨3, List.map (ow eM) x1.1⟩)] 3 [3, 4, 5, 6, 7, 8, 9, 10, 11, 12, 13, 14, 15, 16]) (ent_mk (σ := sg [(0, 0), (1, 1), (2, 2)]) ⟨⟨_, rfl, ⟨rfl, rfl⟩⟩, ⟨_, rfl, ⟨rfl, rfl, rfl, rfl⟩⟩, ⟨_, rfl, ⟨rfl, rfl, rfl, rfl⟩⟩, ⟨_, rfl, ⟨rfl, rfl, rfl, rfl⟩⟩, ⟨_, rfl, rfl⟩, ⟨_, rfl, rfl⟩, ⟨_, rfl, rfl⟩, trivial⟩ ⟨⟨_, rfl, rfl, .inl ⟨rfl, plain_of rfl⟩⟩, rfl, ⟨_, rfl, rfl, .inl ⟨rfl, plain_of rfl⟩⟩, rfl, ⟨_, rfl, rfl, .inl ⟨rfl, okMt.plainO _⟩⟩, rfl, trivial⟩ rfl) ?_
      refine ac_seq ?_
      refine ac_region_draw MIXX ?_
      refine aops_eff (eff_move rfl) rfl rfl rfl ?_
      refine aops_eff (w_field_ptr TT_ok rfl rfl rfl rfl rfl rfl rfl) rfl rfl rfl ?_
      refine aops_eff (w_load_ptr TT_ok rfl rfl rfl rfl rfl rfl rfl) rfl rfl rfl ?_
      refine aops_eff (eff_move rfl) rfl rfl rfl ?_
      obtain ⟨v4, hv4, h⟩ := ob h
      refine aops_eff (x_at_list TT_ok hv4 rfl rfl rfl rfl rfl rfl) rfl rfl rfl ?_
      refine aops_eff (w_load_ref TT_ok rfl rfl rfl rfl rfl rfl) rfl rfl rfl ?_
      refine aops_eff (w_field_ptr TT_ok rfl rfl rfl rfl rfl rfl rfl) rfl rfl rfl ?_
      refine aops_eff (w_load_ptr TT_ok rfl rfl rfl rfl rfl rfl rfl) rfl rfl rfl ?_
      refine aops_eff (eff_move rfl) rfl rfl rfl ?_
      obtain ⟨v5, hv5, h⟩ := ob h
      refine aops_eff (x_at_list TT_ok hv5 rfl rfl rfl rfl rfl rfl) rfl rfl rfl ?_
      refine aops_eff (w_load_ref TT_ok rfl rfl rfl rfl rfl rfl) rfl rfl rfl ?_
      refine aops_eff (w_lit TT_ok rfl rfl rfl rfl rfl rfl rfl rfl rfl rfl rfl rfl) rfl rfl rfl ?_
      refine aops_eff (eff_move rfl) rfl rfl rfl ?_
      refine aops_eff (eff_move rfl) rfl rfl rfl ?_
      refine aops_eff (eff_move rfl) rfl rfl rfl ?_
      refine aops_eff (eff_move rfl) rfl rfl rfl ?_
      refine aops_eff (x_add rfl rfl) rfl rfl rfl ?_
      obtain ⟨q6, h⟩ := cg h
      refine aops_eff (x_slice_list TT_ok (l0 := a2) (l := x1.2.1) (h := wr (x1.2.1 + (wr (v2 * v3)))) q6 rfl rfl rfl rfl rfl rfl rfl) rfl rfl rfl ?_
      obtain ⟨q7, h⟩ := cg h
      refine aops_eff (x_app TT_ok (l := ([] : (List Int))) (m := ((a2.drop x1.2.1.toNat).take ((wr (x1.2.1 + (wr (v2 * v3)))).toNat - x1.2.1.toNat))) okIo q7 rfl rfl rfl rfl rfl rfl rfl rfl rfl rfl rfl rfl) rfl rfl rfl ?_
      refine aops_eff (w_build TT_ok rfl rfl rfl rfl rfl rfl) rfl rfl rfl ?_
      refine aops_eff (w_lit TT_ok rfl rfl rfl rfl rfl rfl rfl rfl rfl rfl rfl rfl) rfl rfl rfl ?_
      obtain ⟨q8, h⟩ := cg h
      refine aops_eff (x_app1 TT_ok (l := x1.1) (c := [.int v4, .int v5, .own 4 0 ((([] : (List Int)) ++ ((a2.drop x1.2.1.toNat).take ((wr (x1.2.1 + (wr (v2 * v3)))).toNat - x1.2.1.toNat))).length)]) q8 rfl rfl rfl rfl rfl rfl rfl rfl rfl rfl rfl rfl rfl rfl) rfl rfl rfl ?_
      refine aops_eff (eff_assign rfl) rfl rfl rfl ?_
      refine aops_nil ?_
      refine ⟨by kernel_rfl, ?_⟩
      refine then_n ?_
      refine ac_ent (t := mkS [(2, .list 1 (List.map eI a2)), (3, .ptr 0 0 0), (4, .ptr 1 0 0), (7, .own 6 0 ((x1.1 ++ [(⟨v4, v5, (([] : (List Int)) ++ ((a2.drop x1.2.1.toNat).take ((wr (x1.2.1 + (wr (v2 * v3)))).toNat - x1.2.1.toNat)))⟩ : Mt)]).length)), (8, .int x1.2.1), (9, .int x1.2.2), (10, .int (wr (v2 * v3)))] [(0, ⟨6, [[.int a0.p, .int a0.q.n, .list 1 (List.map eI a0.q.src), .list 1 (List.map eI a0.q.tgt), .list 1 (List.map eI a0.dims), .list 3 (List.map eM a0.maps)]]⟩), (1, ⟨6, [[.int a1.p, .int a1.q.n, .list 1 (List.map eI a1.q.src), .list 1 (List.map eI a1.q.tgt), .list 1 (List.map eI a1.dims), .list 3 (List.map eM a1.maps)]]⟩), (6, ⟨3, List.map (ow eM) (x1.1 ++ [(⟨v4, v5, (([] : (List Int)) ++ ((a2.drop x1.2.1.toNat).take ((wr (x1.2.1 + (wr (v2 * v3)))).toNat - x1.2.1.toNat)))⟩ : Mt)])⟩)] 7 [7, 8, 9, 10, 11, 12, 13, 14, 15, 16, 17, 18, 19, 20]) (Ent.trans (ent_absL (b := 6) (b' := 4) (j := 2) (es' := List.map eI (([] : (List Int)) ++ ((a2.drop x1.2.1.toNat).take ((wr (x1.2.1 + (wr (v2 * v3)))).toNat - x1.2.1.toNat)))) rfl rfl rfl rfl (len_map _ _) (okI.frzs _)) (ent_mk (σ := sg [(0, 0), (1, 1), (6, 6)]) ⟨⟨_, rfl, ⟨rfl, rfl⟩⟩, ⟨_, rfl, ⟨rfl, rfl, rfl, rfl⟩⟩, ⟨_, rfl, ⟨rfl, rfl, rfl, rfl⟩⟩, ⟨_, rfl, ⟨rfl, rfl, (by simp only [len_map, List.length_append, List.length_set, List.length_replicate, List.length_cons, List.length_nil]), rfl⟩⟩, ⟨_, rfl, rfl⟩, ⟨_, rfl, rfl⟩, ⟨_, rfl, rfl⟩, trivial⟩ ⟨⟨_, rfl, rfl, .inl ⟨rfl, plain_of rfl⟩⟩, rfl, ⟨_, rfl, rfl, .inl ⟨rfl, plain_of rfl⟩⟩, rfl, ⟨_, rfl, rfl, .inl ⟨app_eq (⟨v4, v5, (([] : (List Int)) ++ ((a2.drop x1.2.1.toNat).take ((wr (x1.2.1 + (wr (v2 * v3)))).toNat - x1.2.1.toNat)))⟩ : Mt) rfl, okMt.plainO _⟩⟩, rfl, trivial⟩ rfl)) ?_
      refine ac_region ?_
      refine aops_eff (eff_move rfl) rfl rfl rfl ?_
      refine aops_eff (eff_move rfl) rfl rfl rfl ?_
      refine aops_eff (x_add rfl rfl) rfl rfl rfl ?_
      refine aops_eff (eff_assign rfl) rfl rfl rfl ?_
      refine aops_nil ?_
      refine block_n ?_
      refine then_n ?_
      refine ac_region ?_
      refine aops_eff (eff_move rfl) rfl rfl rfl ?_
      refine aops_eff (x_add rfl rfl) rfl rfl rfl ?_
      refine aops_eff (eff_assign rfl) rfl rfl rfl ?_
      refine aops_nil ?_
      refine then_n ?_
      obtain rfl := so h
      exact ⟨_, rfl, (ent_mk (σ := sg [(0, 0), (1, 1), (2, 6)]) ⟨⟨_, rfl, ⟨rfl, rfl⟩⟩, ⟨_, rfl, ⟨rfl, rfl, rfl, rfl⟩⟩, ⟨_, rfl, ⟨rfl, rfl, rfl, rfl⟩⟩, ⟨_, rfl, ⟨rfl, rfl, rfl, rfl⟩⟩, ⟨_, rfl, rfl⟩, ⟨_, rfl, rfl⟩, trivial⟩ ⟨⟨_, rfl, rfl, .inl ⟨rfl, plain_of rfl⟩⟩, rfl, ⟨_, rfl, rfl, .inl ⟨rfl, plain_of rfl⟩⟩, rfl, ⟨_, rfl, rfl, .inl ⟨rfl, okMt.plainO _⟩⟩, rfl, trivial⟩ rfl)⟩
    · refine ac_condF rfl q1 ?_
      refine ac_exit ?_
      refine then_exit ?_
      refine then_exit ?_
      obtain rfl := so h
      exact ⟨_, rfl, rfl, (ent_mk (σ := sg [(0, 2)]) ⟨⟨_, rfl, ⟨rfl, rfl, rfl, rfl⟩⟩, trivial⟩ ⟨⟨_, rfl, rfl, .inl ⟨rfl, okMt.plainO _⟩⟩, rfl, trivial⟩ rfl)⟩
  · rintro e t ⟨rfl, hent⟩
    refine block_here ?_
    refine then_n ?_
    refine ac_ent hent ?_
    refine ac_seq ?_
    refine ac_region ?_
    refine aops_eff (eff_move rfl) rfl rfl rfl ?_
    refine aops_eff (eff_assign rfl) rfl rfl rfl ?_
    refine aops_nil ?_
    refine then_n ?_
    refine ac_ret ?_
    obtain rfl := so h
    exact ret_mk rfl rfl rfl (xz_list (x_f1 okMt rfl rfl))

noncomputable def m_spec_HomBasis_L1 (a0 : Rp) (a1 : Rp) (v4 : (List (List Int))) (x1 : ((List (List Mt)) × Int)) : Option (((List (List Mt)) × Int) ⊕ (List (List Mt))) :=
  bif decide (x1.2 < ((v4.length : Nat) : Int)) then
    (Option.bind (atL v4 x1.2) fun v6 =>
    Option.bind (m_spec_l11Cells a0 a1 v6) fun v7 =>
    bif decide (x1.1.length + 1 ≤ 4294967296) then
      (some (.inl ((x1.1 ++ [v7]), wr (x1.2 + 1))))
    else none)
  else
    (some (.inr x1.1))

noncomputable def m_spec_HomBasis (a0 : Rp) (a1 : Rp) : Option ((List (List Mt)) × Bool) :=
  Option.bind (m_spec_l9Fit a0 a1) fun v1 =>
  bif !v1 then
    (some ((([] : (List (List Mt))), false)))
  else
    (Option.bind (m_spec_l11Equations a0 a1) fun v3 =>
    Option.bind (m_spec_l4Kernel a0.p v3) fun v4 =>
    Option.bind (Lp (m_spec_HomBasis_L1 a0 a1 v4) (([] : (List (List Mt))), 0)) fun y9 =>
    some ((y9, true)))

theorem c_spec_HomBasis (a0 : Rp) (a1 : Rp) (r : ((List (List Mt)) × Bool)) (h : m_spec_HomBasis a0 a1 = some r) : HasC Try.prog 94 [.agg (eR a0), .agg (eR a1)] (.tuple [.list 1 (List.map (eLs 3 eM) r.1), .bl r.2]) := by
  refine hasC_mk TT_ok (rvs := [.tmp 4, .tmp 5]) (ns := [0, 1, 2, 3, 4, 5, 6, 7, 8, 9, 10, 11, 12, 13]) Try.func94 rfl rfl Try.ntmps94 rfl rfl rfl ?_
  refine ac_seq ?_
  refine ac_region ?_
  refine aops_eff (w_box rfl rfl rfl rfl) rfl rfl rfl ?_
  refine aops_eff (w_box rfl rfl rfl rfl) rfl rfl rfl ?_
  refine aops_eff (eff_assign rfl) rfl rfl rfl ?_
  refine aops_eff (eff_assign rfl) rfl rfl rfl ?_
  refine aops_nil ?_
  refine then_n ?_
  refine ac_seq ?_
  refine ac_region ?_
  refine aops_eff (w_lit TT_ok rfl rfl rfl rfl rfl rfl rfl rfl rfl rfl rfl rfl) rfl rfl rfl ?_
  refine aops_eff (eff_assign rfl) rfl rfl rfl ?_
  refine aops_nil ?_
  refine then_n ?_
  refine ac_ent (t := mkS [(2, .ptr 0 0 0), (3, .ptr 1 0 0), (6, .own 2 0 (([] : (List (List Mt))).length))] [(0, ⟨6, [[.int a0.p, .int a0.q.n, .list 1 (List.map eI a0.q.src), .list 1 (List.map eI a0.q.tgt), .list 1 (List.map eI a0.dims), .list 3 (List.map eM a0.maps)]]⟩), (1, ⟨6, [[.int a1.p, .int a1.q.n, .list 1 (List.map eI a1.q.src), .list 1 (List.map eI a1.q.tgt), .list 1 (List.map eI a1.dims), .list 3 (List.map eM a1.maps)]]⟩), (2, ⟨1, List.map (ow (eLs 3 eM)) ([] : (List (List Mt)))⟩)] 3 [3, 4, 5, 6, 7, 8, 9, 10, 11, 12, 13, 14, 15, 16]) (ent_mk (σ := sg [(0, 0), (1, 1), (2, 2)]) ⟨⟨_, rfl, ⟨rfl, rfl, rfl, rfl⟩⟩, ⟨_, rfl, ⟨rfl, rfl, rfl, rfl⟩⟩, ⟨_, rfl, ⟨rfl, rfl, (by simp only [len_map, List.length_append, List.length_set, List.length_replicate, List.length_cons, List.length_nil]), rfl⟩⟩, trivial⟩ ⟨⟨_, rfl, rfl, .inl ⟨rfl, plain_of rfl⟩⟩, rfl, ⟨_, rfl, rfl, .inl ⟨rfl, plain_of rfl⟩⟩, rfl, ⟨_, rfl, rfl, .inl ⟨rfl, okLs.plainO _⟩⟩, rfl, trivial⟩ rfl) ?_
  refine ac_seq ?_
  refine ac_seq ?_
  refine ac_region ?_
  refine aops_eff (w_load_ptr TT_ok rfl rfl rfl rfl rfl rfl rfl) rfl rfl rfl ?_
  refine aops_eff (w_load_ptr TT_ok rfl rfl rfl rfl rfl rfl rfl) rfl rfl rfl ?_
  obtain ⟨v1, hv1, h⟩ := ob h
  refine aops_eff (w_call0s (c_spec_l9Fit a0 a1 v1 hv1) rfl (va_cons (va_agg' (v1_cons (v1_same rfl) (v1_cons (v1_same rfl) (v1_cons (v1_same rfl) (v1_cons (v1_same rfl) (v1_cons (v1_same rfl) (v1_cons (v1_same rfl) v1_nil))))))) (va_cons (va_agg' (v1_cons (v1_same rfl) (v1_cons (v1_same rfl) (v1_cons (v1_same rfl) (v1_cons (v1_same rfl) (v1_cons (v1_same rfl) (v1_cons (v1_same rfl) v1_nil))))))) va_nil))) rfl rfl rfl ?_
  refine aops_eff (w_not rfl) rfl rfl rfl ?_
  refine aops_nil ?_
  refine then_n ?_
  rcases cb h with ⟨q2, h⟩ | ⟨q2, h⟩
  · refine ac_condT rfl q2 ?_
    refine ac_seq ?_
    refine ac_region ?_
    refine aops_eff (eff_move rfl) rfl rfl rfl ?_
    refine aops_eff (eff_assign rfl) rfl rfl rfl ?_
    refine aops_eff (eff_assign rfl) rfl rfl rfl ?_
    refine aops_nil ?_
    refine then_n ?_
    refine ac_ret ?_
    refine then_ret ?_
    obtain rfl := so h
    exact ret_mk rfl rfl rfl (xz_tuple rfl (xB_cons (xB_one (x_f1 okLs rfl rfl)) (xB_cons (rfl) xB_nil)))
  · refine ac_condF rfl q2 ?_
    refine ac_skip ?_
    refine then_n ?_
    refine ac_seq ?_
    refine ac_region_draw MIXX ?_
    refine aops_eff (w_field_ptr TT_ok rfl rfl rfl rfl rfl rfl rfl) rfl rfl rfl ?_
    refine aops_eff (w_load_ptr TT_ok rfl rfl rfl rfl rfl rfl rfl) rfl rfl rfl ?_
    refine aops_eff (w_load_ptr TT_ok rfl rfl rfl rfl rfl rfl rfl) rfl rfl rfl ?_
    refine aops_eff (w_load_ptr TT_ok rfl rfl rfl rfl rfl rfl rfl) rfl rfl rfl ?_
    obtain ⟨v3, hv3, h⟩ := ob h
    refine aops_eff (AEff.conv (w_call0 (x := .agg [.int v3.rows, .int v3.cols, .own 3 0 (List.map eI v3.cells).length]) (nb := [(3, ⟨1, absEs (List.map eI v3.cells)⟩)]) (c_spec_l11Equations a0 a1 v3 hv3) rfl (by rfl) rfl rfl (g1_cons trivial (g1_cons trivial (g1_cons (okI.good _) g1_nil))) (va_cons (va_agg' (v1_cons (v1_same rfl) (v1_cons (v1_same rfl) (v1_cons (v1_same rfl) (v1_cons (v1_same rfl) (v1_cons (v1_same rfl) (v1_cons (v1_same rfl) v1_nil))))))) (va_cons (va_agg' (v1_cons (v1_same rfl) (v1_cons (v1_same rfl) (v1_cons (v1_same rfl) (v1_cons (v1_same rfl) (v1_cons (v1_same rfl) (v1_cons (v1_same rfl) v1_nil))))))) va_nil))) (v' := .agg [.int v3.rows, .int v3.cols, .own 3 0 v3.cells.length]) (ed' := [(3, some ⟨1, List.map (ow eI) v3.cells⟩)]) (by simp only [len_map]) (ed_ok (nb' := [(3, ⟨1, List.map (ow eI) v3.cells⟩)]) (by simp only [abs_map]))) rfl rfl rfl ?_
    obtain ⟨v4, hv4, h⟩ := ob h
    refine aops_eff (AEff.conv (w_call0 (x := .own 4 0 (List.map (eLs 1 eI) v4).length) (nb := [(4, ⟨1, absEs (List.map (eLs 1 eI) v4)⟩)]) (c_spec_l4Kernel a0.p v3 v4 hv4) rfl (by rfl) rfl rfl (okLs.good _) (va_cons (va_same rfl) (va_cons (va_agg' (v1_cons (v1_same rfl) (v1_cons (v1_same rfl) (v1_cons (v1_T okI rfl rfl) v1_nil)))) va_nil))) (v' := .own 4 0 v4.length) (ed' := [(4, some ⟨1, List.map (ow (eLs 1 eI)) v4⟩)]) (by simp only [len_map]) (ed_ok (nb' := [(4, ⟨1, List.map (ow (eLs 1 eI)) v4⟩)]) (by simp only [abs_map]))) rfl rfl rfl ?_
    refine aops_eff (eff_assign rfl) rfl rfl rfl ?_
    refine aops_nil ?_
    refine ⟨by kernel_rfl, ?_⟩
    refine then_n ?_
    refine ac_seq ?_
    refine ac_seq ?_
    refine ac_region ?_
    refine aops_eff (eff_assign rfl) rfl rfl rfl ?_
    refine aops_nil ?_
    refine then_n ?_
    refine ac_ent (t := mkS [(2, .ptr 0 0 0), (3, .ptr 1 0 0), (6, .own 2 0 (([] : (List (List Mt))).length)), (7, .own 4 0 v4.length), (8, .int 0)] [(0, ⟨6, [[.int a0.p, .int a0.q.n, .list 1 (List.map eI a0.q.src), .list 1 (List.map eI a0.q.tgt), .list 1 (List.map eI a0.dims), .list 3 (List.map eM a0.maps)]]⟩), (1, ⟨6, [[.int a1.p, .int a1.q.n, .list 1 (List.map eI a1.q.src), .list 1 (List.map eI a1.q.tgt), .list 1 (List.map eI a1.dims), .list 3 (List.map eM a1.maps)]]⟩), (2, ⟨1, List.map (ow (eLs 3 eM)) ([] : (List (List Mt)))⟩), (4, ⟨1, List.map (ow (eLs 1 eI)) v4⟩)] 5 [5, 6, 7, 8, 9, 10, 11, 12, 13, 14, 15, 16, 17, 18]) (ent_mk (σ := sg [(0, 0), (1, 1), (2, 2), (4, 4)]) ⟨⟨_, rfl, ⟨rfl, rfl, rfl, rfl⟩⟩, ⟨_, rfl, ⟨rfl, rfl, rfl, rfl⟩⟩, ⟨_, rfl, ⟨rfl, rfl, rfl, rfl⟩⟩, ⟨_, rfl, ⟨rfl, rfl, rfl, rfl⟩⟩, ⟨_, rfl, rfl⟩, trivial⟩ ⟨⟨_, rfl, rfl, .inl ⟨rfl, plain_of rfl⟩⟩, rfl, ⟨_, rfl, rfl, .inl ⟨rfl, plain_of rfl⟩⟩, rfl, ⟨_, rfl, rfl, .inl ⟨rfl, okLs.plainO _⟩⟩, rfl, ⟨_, rfl, rfl, .inl ⟨rfl, okLs.plainO _⟩⟩, rfl, trivial⟩ rfl) ?_
    refine ac_block ?_
    obtain ⟨y9, hy9, h⟩ := ob h
    refine ac_Lp (body := (m_spec_HomBasis_L1 a0 a1 v4)) hy9 (fun (x1 : ((List (List Mt)) × Int)) => mkS [(2, .ptr 0 0 0), (3, .ptr 1 0 0), (6, .own 2 0 x1.1.length), (7, .own 3 0 v4.length), (8, .int x1.2)] [(0, ⟨6, [[.int a0.p, .int a0.q.n, .list 1 (List.map eI a0.q.src), .list 1 (List.map eI a0.q.tgt), .list 1 (List.map eI a0.dims), .list 3 (List.map eM a0.maps)]]⟩), (1, ⟨6, [[.int a1.p, .int a1.q.n, .list 1 (List.map eI a1.q.src), .list 1 (List.map eI a1.q.tgt), .list 1 (List.map eI a1.dims), .list 3 (List.map eM a1.maps)]]⟩), (2, ⟨1, List.map (ow (eLs 3 eM)) x1.1⟩), (3, ⟨1, List.map (ow (eLs 1 eI)) v4⟩)] 4 [4, 5, 6, 7, 8, 9, 10, 11, 12, 13, 14, 15, 16, 17]) (fun r e t => e = .exit 0 ∧ Ent t (mkS [(6, .own 0 0 r.length)] [(0, ⟨1, List.map (ow (eLs 3 eM)) r⟩)] 1 [1, 2, 3, 4, 5, 6, 7, 8, 9, 10, 11, 12, 13, 14])) (ent_mk (σ := sg [(0, 0), (1, 1), (2, 2), (3, 4)]) ⟨⟨_, rfl, ⟨rfl, rfl, rfl, rfl⟩⟩, ⟨_, rfl, ⟨rfl, rfl, rfl, rfl⟩⟩, ⟨_, rfl, ⟨rfl, rfl, rfl, rfl⟩⟩, ⟨_, rfl, ⟨rfl, rfl, rfl, rfl⟩⟩, ⟨_, rfl, rfl⟩, trivial⟩ ⟨⟨_, rfl, rfl, .inl ⟨rfl, plain_of rfl⟩⟩, rfl, ⟨_, rfl, rfl, .inl ⟨rfl, plain_of rfl⟩⟩, rfl, ⟨_, rfl, rfl, .inl ⟨rfl, okLs.plainO _⟩⟩, rfl, ⟨_, rfl, rfl, .inl ⟨rfl, okLs.plainO _⟩⟩, rfl, trivial⟩ rfl) ?_ ?_
    · intro x1 o h
      refine ac_seq ?_
      refine ac_seq ?_
      refine ac_region ?_
      refine aops_eff (eff_move rfl) rfl rfl rfl ?_
      refine aops_eff (eff_move rfl) rfl rfl rfl ?_
      refine aops_eff (w_len_own TT_ok rfl rfl rfl rfl) rfl rfl rfl ?_
      refine aops_eff (w_cmp rfl rfl rfl) rfl rfl rfl ?_
      refine aops_nil ?_
      refine then_n ?_
      rcases cb h with ⟨q5, h⟩ | ⟨q5, h⟩
      · refine ac_condT rfl q5 ?_
        refine ac_skip ?_
        refine then_n ?_
        refine ac_seq ?_
        refine ac_block ?_
        refine ac_region_draw MIXX ?_
        refine aops_eff (eff_move rfl) rfl rfl rfl ?_
        refine aops_eff (w_load_ptr TT_ok rfl rfl rfl rfl rfl rfl rfl) rfl rfl rfl ?_
        refine aops_eff (w_load_ptr TT_ok rfl rfl rfl rfl rfl rfl rfl) rfl rfl rfl ?_
        refine aops_eff (eff_move rfl) rfl rfl rfl ?_
        refine aops_eff (eff_move rfl) rfl rfl rfl ?_
        obtain ⟨v6, hv6, h⟩ := ob h
        refine aops_eff (x_at_own TT_ok (atL_nn hv6) (atL_lt hv6) rfl rfl rfl rfl rfl rfl rfl) rfl rfl rfl ?_
        refine aops_eff (w_load_ptr TT_ok rfl rfl rfl rfl (map_at (atL_get hv6)) rfl rfl) rfl rfl rfl ?_
        obtain ⟨v7, hv7, h⟩ := ob h
        refine aops_eff (AEff.conv (w_call0 (x := .own 4 0 (List.map eM v7).length) (nb := [(4, ⟨3, absEs (List.map eM v7)⟩)]) (c_spec_l11Cells a0 a1 v6 v7 hv7) rfl (by rfl) rfl rfl (okMt.good _) (va_cons (va_agg' (v1_cons (v1_same rfl) (v1_cons (v1_same rfl) (v1_cons (v1_same rfl) (v1_cons (v1_same rfl) (v1_cons (v1_same rfl) (v1_cons (v1_same rfl) v1_nil))))))) (va_cons (va_agg' (v1_cons (v1_same rfl) (v1_cons (v1_same rfl) (v1_cons (v1_same rfl) (v1_cons (v1_same rfl) (v1_cons (v1_same rfl) (v1_cons (v1_same rfl) v1_nil))))))) (va_cons (va_same rfl) va_nil)))) (v' := .own 4 0 v7.length) (ed' := [(4, some ⟨3, List.map (ow eM) v7⟩)]) (by simp only [len_map]) (ed_ok (nb' := [(4, ⟨3, List.map (ow eM) v7⟩)]) (by simp only [abs_map]))) rfl rfl rfl ?_
        refine aops_eff (w_lit TT_ok rfl rfl rfl rfl rfl rfl rfl rfl rfl rfl rfl rfl) rfl rfl rfl ?_
        obtain ⟨q8, h⟩ := cg h
        refine aops_eff (x_app1 TT_ok (l := x1.1) (c := [.own 4 0 v7.length]) q8 rfl rfl rfl rfl rfl rfl rfl rfl rfl rfl rfl rfl rfl rfl) rfl rfl rfl ?_
        refine aops_eff (eff_assign rfl) rfl rfl rfl ?_
        refine aops_nil ?_
        refine ⟨by kernel_rfl, ?_⟩
        refine block_n ?_
        refine then_n ?_
        refine ac_ent (t := mkS [(2, .ptr 0 0 0), (3, .ptr 1 0 0), (6, .own 6 0 ((x1.1 ++ [v7]).length)), (7, .own 3 0 v4.length), (8, .int x1.2)] [(0, ⟨6, [[.int a0.p, .int a0.q.n, .list 1 (List.map eI a0.q.src), .list 1 (List.map eI a0.q.tgt), .list 1 (List.map eI a0.dims), .list 3 (List.map eM a0.maps)]]⟩), (1, ⟨6, [[.int a1.p, .int a1.q.n, .list 1 (List.map eI a1.q.src), .list 1 (List.map eI a1.q.tgt), .list 1 (List.map eI a1.dims), .list 3 (List.map eM a1.maps)]]⟩), (3, ⟨1, List.map (ow (eLs 1 eI)) v4⟩), (6, ⟨1, List.map (ow (eLs 3 eM)) (x1.1 ++ [v7])⟩)] 7 [7, 8, 9, 10, 11, 12, 13, 14, 15, 16, 17, 18, 19, 20]) (Ent.trans (ent_absL (b := 6) (b' := 4) (j := 0) (es' := List.map eM v7) rfl rfl rfl rfl (len_map _ _) (okMt.frzs _)) (ent_mk (σ := sg [(0, 0), (1, 1), (3, 3), (6, 6)]) ⟨⟨_, rfl, ⟨rfl, rfl, rfl, rfl⟩⟩, ⟨_, rfl, ⟨rfl, rfl, rfl, rfl⟩⟩, ⟨_, rfl, ⟨rfl, rfl, (by simp only [len_map, List.length_append, List.length_set, List.length_replicate, List.length_cons, List.length_nil]), rfl⟩⟩, ⟨_, rfl, ⟨rfl, rfl, rfl, rfl⟩⟩, ⟨_, rfl, rfl⟩, trivial⟩ ⟨⟨_, rfl, rfl, .inl ⟨rfl, plain_of rfl⟩⟩, rfl, ⟨_, rfl, rfl, .inl ⟨rfl, plain_of rfl⟩⟩, rfl, ⟨_, rfl, rfl, .inl ⟨rfl, okLs.plainO _⟩⟩, rfl, ⟨_, rfl, rfl, .inl ⟨app_eq v7 rfl, okLs.plainO _⟩⟩, rfl, trivial⟩ rfl)) ?_
        refine ac_region ?_
        refine aops_eff (eff_move rfl) rfl rfl rfl ?_
        refine aops_eff (x_add rfl rfl) rfl rfl rfl ?_
        refine aops_eff (eff_assign rfl) rfl rfl rfl ?_
        refine aops_nil ?_
        refine then_n ?_
        obtain rfl := so h
        exact ⟨_, rfl, (ent_mk (σ := sg [(0, 0), (1, 1), (2, 6), (3, 3)]) ⟨⟨_, rfl, ⟨rfl, rfl, rfl, rfl⟩⟩, ⟨_, rfl, ⟨rfl, rfl, rfl, rfl⟩⟩, ⟨_, rfl, ⟨rfl, rfl, rfl, rfl⟩⟩, ⟨_, rfl, ⟨rfl, rfl, rfl, rfl⟩⟩, ⟨_, rfl, rfl⟩, trivial⟩ ⟨⟨_, rfl, rfl, .inl ⟨rfl, plain_of rfl⟩⟩, rfl, ⟨_, rfl, rfl, .inl ⟨rfl, plain_of rfl⟩⟩, rfl, ⟨_, rfl, rfl, .inl ⟨rfl, okLs.plainO _⟩⟩, rfl, ⟨_, rfl, rfl, .inl ⟨rfl, okLs.plainO _⟩⟩, rfl, trivial⟩ rfl)⟩
      · refine ac_condF rfl q5 ?_
        refine ac_exit ?_
        refine then_exit ?_
        refine then_exit ?_
        obtain rfl := so h
        exact ⟨_, rfl, rfl, (ent_mk (σ := sg [(0, 2)]) ⟨⟨_, rfl, ⟨rfl, rfl, rfl, rfl⟩⟩, trivial⟩ ⟨⟨_, rfl, rfl, .inl ⟨rfl, okLs.plainO _⟩⟩, rfl, trivial⟩ rfl)⟩
    · rintro e t ⟨rfl, hent⟩
      refine block_here ?_
      refine then_n ?_
      refine ac_ent hent ?_
      refine ac_seq ?_
      refine ac_region ?_
      refine aops_eff (eff_move rfl) rfl rfl rfl ?_
      refine aops_eff (eff_assign rfl) rfl rfl rfl ?_
      refine aops_eff (eff_assign rfl) rfl rfl rfl ?_
      refine aops_nil ?_
      refine then_n ?_
      refine ac_ret ?_
      obtain rfl := so h
      exact ret_mk rfl rfl rfl (xz_tuple rfl (xB_cons (xB_one (x_f1 okLs rfl rfl)) (xB_cons (rfl) xB_nil)))

noncomputable def m_spec_HomDim (a0 : Rp) (a1 : Rp) : Option Int :=
  Option.bind (m_spec_HomBasis a0 a1) fun v1 =>
  bif !v1.2 then
    (some ((-1)))
  else
    (some (((v1.1.length : Nat) : Int)))

theorem c_spec_HomDim (a0 : Rp) (a1 : Rp) (r : Int) (h : m_spec_HomDim a0 a1 = some r) : HasC Try.prog 38 [.agg (eR a0), .agg (eR a1)] (.int r) := by
  refine hasC_mk TT_ok (rvs := [.tmp 4]) (ns := [0, 1, 2, 3, 4, 5, 6, 7, 8, 9, 10, 11, 12, 13]) Try.func38 rfl rfl Try.ntmps38 rfl rfl rfl ?_
  refine ac_seq ?_
  refine ac_region ?_
  refine aops_eff (w_box rfl rfl rfl rfl) rfl rfl rfl ?_
  refine aops_eff (w_box rfl rfl rfl rfl) rfl rfl rfl ?_
  refine aops_eff (eff_assign rfl) rfl rfl rfl ?_
  refine aops_nil ?_
  refine then_n ?_
  refine ac_seq ?_
  refine ac_region ?_
  refine aops_eff (w_load_ptr TT_ok rfl rfl rfl rfl rfl rfl rfl) rfl rfl rfl ?_
  refine aops_eff (w_load_ptr TT_ok rfl rfl rfl rfl rfl rfl rfl) rfl rfl rfl ?_
  obtain ⟨v1, hv1, h⟩ := ob h
  refine aops_eff (AEff.conv (w_call0 (x := .tuple [.own 2 0 (List.map (eLs 3 eM) v1.1).length, .bl v1.2]) (nb := [(2, ⟨1, absEs (List.map (eLs 3 eM) v1.1)⟩)]) (c_spec_HomBasis a0 a1 v1 hv1) rfl (by rfl) rfl rfl (gB_cons (okLs.good _) (gB_cons trivial gB_nil)) (va_cons (va_agg' (v1_cons (v1_same rfl) (v1_cons (v1_same rfl) (v1_cons (v1_same rfl) (v1_cons (v1_same rfl) (v1_cons (v1_same rfl) (v1_cons (v1_same rfl) v1_nil))))))) (va_cons (va_agg' (v1_cons (v1_same rfl) (v1_cons (v1_same rfl) (v1_cons (v1_same rfl) (v1_cons (v1_same rfl) (v1_cons (v1_same rfl) (v1_cons (v1_same rfl) v1_nil))))))) va_nil))) (v' := .tuple [.own 2 0 v1.1.length, .bl v1.2]) (ed' := [(2, some ⟨1, List.map (ow (eLs 3 eM)) v1.1⟩)]) (by simp only [len_map]) (ed_ok (nb' := [(2, ⟨1, List.map (ow (eLs 3 eM)) v1.1⟩)]) (by simp only [abs_map]))) rfl rfl rfl ?_
  refine aops_eff (eff_move rfl) rfl rfl rfl ?_
  refine aops_eff (eff_extract rfl rfl (by intro _ h; cases h)) rfl rfl rfl ?_
  refine aops_eff (eff_extract rfl rfl (by intro _ h; cases h)) rfl rfl rfl ?_
  refine aops_eff (eff_assign rfl) rfl rfl rfl ?_
  refine aops_eff (eff_assign rfl) rfl rfl rfl ?_
  refine aops_nil ?_
  refine then_n ?_
  refine ac_seq ?_
  refine ac_seq ?_
  refine ac_region ?_
  refine aops_eff (eff_move rfl) rfl rfl rfl ?_
  refine aops_eff (w_not rfl) rfl rfl rfl ?_
  refine aops_nil ?_
  refine then_n ?_
  refine ac_ent (t := mkS [(5, .own 2 0 v1.1.length), (14, .bl (!v1.2))] [(2, ⟨1, List.map (ow (eLs 3 eM)) v1.1⟩)] 3 [3, 4, 5, 6, 7, 8, 9, 10, 11, 12, 13, 14, 15, 16]) (ent_mk (σ := sg [(2, 2)]) ⟨⟨_, rfl, ⟨rfl, rfl, rfl, rfl⟩⟩, ⟨_, rfl, rfl⟩, trivial⟩ ⟨⟨_, rfl, rfl, .inl ⟨rfl, okLs.plainO _⟩⟩, rfl, trivial⟩ rfl) ?_
  rcases cb h with ⟨q2, h⟩ | ⟨q2, h⟩
  · refine ac_condT rfl q2 ?_
    refine ac_seq ?_
    refine ac_region ?_
    refine aops_eff (eff_assign rfl) rfl rfl rfl ?_
    refine aops_nil ?_
    refine then_n ?_
    refine ac_ret ?_
    refine then_ret ?_
    obtain rfl := so h
    exact ret_mk rfl rfl rfl (fz_int rfl)
  · refine ac_condF rfl q2 ?_
    refine ac_skip ?_
    refine then_n ?_
    refine ac_seq ?_
    refine ac_region ?_
    refine aops_eff (eff_move rfl) rfl rfl rfl ?_
    refine aops_eff (w_len_own TT_ok rfl rfl rfl rfl) rfl rfl rfl ?_
    refine aops_eff (eff_assign rfl) rfl rfl rfl ?_
    refine aops_nil ?_
    refine then_n ?_
    refine ac_ret ?_
    obtain rfl := so h
    exact ret_mk rfl rfl rfl (fz_int rfl)

noncomputable def m_spec_OrbitDim_L1 (a0 : Rp) (x1 : (Int × Int)) : Option ((Int × Int) ⊕ Int) :=
  bif decide (x1.2 < (a0.dims.length : Int)) then
    (Option.bind (atL a0.dims x1.2) fun v4 =>
    Option.bind (atL a0.dims x1.2) fun v5 =>
    some (.inl (wr (x1.1 + (wr (v4 * v5))), wr (x1.2 + 1))))
  else
    (some (.inr x1.1))

noncomputable def m_spec_OrbitDim (a0 : Rp) : Option Int :=
  Option.bind (m_spec_IsRep a0) fun v1 =>
  bif !v1 then
    (some ((-1)))
  else
    (Option.bind (Lp (m_spec_OrbitDim_L1 a0) (0, 0)) fun y6 =>
    Option.bind (m_spec_HomDim a0 a0) fun v7 =>
    some (wr (y6 - v7)))

theorem c_spec_OrbitDim (a0 : Rp) (r : Int) (h : m_spec_OrbitDim a0 = some r) : HasC Try.prog 9 [.agg (eR a0)] (.int r) := by
  refine hasC_mk TT_ok (rvs := [.tmp 2]) (ns := [0, 1, 2, 3, 4, 5, 6, 7, 8, 9, 10, 11, 12, 13]) Try.func9 rfl rfl Try.ntmps9 rfl rfl rfl ?_
  refine ac_seq ?_
  refine ac_region ?_
  refine aops_eff (w_box rfl rfl rfl rfl) rfl rfl rfl ?_
  refine aops_eff (eff_assign rfl) rfl rfl rfl ?_
  refine aops_nil ?_
  refine then_n ?_
  refine ac_seq ?_
  refine ac_seq ?_
  refine ac_region ?_
  refine aops_eff (w_load_ptr TT_ok rfl rfl rfl rfl rfl rfl rfl) rfl rfl rfl ?_
  obtain ⟨v1, hv1, h⟩ := ob h
  refine aops_eff (w_call0s (c_spec_IsRep a0 v1 hv1) rfl (va_cons (va_agg' (v1_cons (v1_same rfl) (v1_cons (v1_same rfl) (v1_cons (v1_same rfl) (v1_cons (v1_same rfl) (v1_cons (v1_same rfl) (v1_cons (v1_same rfl) v1_nil))))))) va_nil)) rfl rfl rfl ?_
  refine aops_eff (w_not rfl) rfl rfl rfl ?_
  refine aops_nil ?_
  refine then_n ?_
  rcases cb h with ⟨q2, h⟩ | ⟨q2, h⟩
  · refine ac_condT rfl q2 ?_
    refine ac_seq ?_
    refine ac_region ?_
    refine aops_eff (eff_assign rfl) rfl rfl rfl ?_
    refine aops_nil ?_
    refine then_n ?_
    refine ac_ret ?_
    refine then_ret ?_
    obtain rfl := so h
    exact ret_mk rfl rfl rfl (fz_int rfl)
  · refine ac_condF rfl q2 ?_
    refine ac_skip ?_
    refine then_n ?_
    refine ac_seq ?_
    refine ac_region ?_
    refine aops_eff (eff_assign rfl) rfl rfl rfl ?_
    refine aops_nil ?_
    refine then_n ?_
    refine ac_seq ?_
    refine ac_seq ?_
    refine ac_region ?_
    refine aops_eff (eff_assign rfl) rfl rfl rfl ?_
    refine aops_nil ?_
    refine then_n ?_
    refine ac_block ?_
    obtain ⟨y6, hy6, h⟩ := ob h
    refine ac_Lp (body := (m_spec_OrbitDim_L1 a0)) hy6 (fun (x1 : (Int × Int)) => mkS [(1, .ptr 0 0 0), (3, .int x1.1), (4, .int x1.2)] [(0, ⟨6, [[.int a0.p, .int a0.q.n, .list 1 (List.map eI a0.q.src), .list 1 (List.map eI a0.q.tgt), .list 1 (List.map eI a0.dims), .list 3 (List.map eM a0.maps)]]⟩)] 1 [1, 2, 3, 4, 5, 6, 7, 8, 9, 10, 11, 12, 13, 14]) (fun r e t => e = .exit 0 ∧ Ent t (mkS [(1, .ptr 0 0 0), (3, .int r)] [(0, ⟨6, [[.int a0.p, .int a0.q.n, .list 1 (List.map eI a0.q.src), .list 1 (List.map eI a0.q.tgt), .list 1 (List.map eI a0.dims), .list 3 (List.map eM a0.maps)]]⟩)] 1 [1, 2, 3, 4, 5, 6, 7, 8, 9, 10, 11, 12, 13, 14])) (ent_mk (σ := sg [(0, 0)]) ⟨⟨_, rfl, ⟨rfl, rfl, rfl, rfl⟩⟩, ⟨_, rfl, rfl⟩, ⟨_, rfl, rfl⟩, trivial⟩ ⟨⟨_, rfl, rfl, .inl ⟨rfl, plain_of rfl⟩⟩, rfl, trivial⟩ rfl) ?_ ?_
    · intro x1 o h
      refine ac_seq ?_
      refine ac_seq ?_
      refine ac_region ?_
      refine aops_eff (eff_move rfl) rfl rfl rfl ?_
      refine aops_eff (w_field_ptr TT_ok rfl rfl rfl rfl rfl rfl rfl) rfl rfl rfl ?_
      refine aops_eff (w_load_ptr TT_ok rfl rfl rfl rfl rfl rfl rfl) rfl rfl rfl ?_
      refine aops_eff (AEff.val (w_len_list TT_ok rfl rfl rfl) (v' := .int (a0.dims.length : Int)) (by first | rw [len_map] | rw [encI_len])) rfl rfl rfl ?_
      refine aops_eff (w_cmp rfl rfl rfl) rfl rfl rfl ?_
      refine aops_nil ?_
      refine then_n ?_
      rcases cb h with ⟨q3, h⟩ | ⟨q3, h⟩
      · refine ac_condT rfl q3 ?_
        refine ac_skip ?_
        refine then_n ?_
        refine ac_seq ?_
        refine ac_block ?_
        refine ac_region_draw MIXX ?_
        refine aops_eff (eff_move rfl) rfl rfl rfl ?_
        refine aops_eff (w_field_ptr TT_ok rfl rfl rfl rfl rfl rfl rfl) rfl rfl rfl ?_
        refine aops_eff (w_load_ptr TT_ok rfl rfl rfl rfl rfl rfl rfl) rfl rfl rfl ?_
        refine aops_eff (eff_move rfl) rfl rfl rfl ?_
        obtain ⟨v4, hv4, h⟩ := ob h
        refine aops_eff (x_at_list TT_ok hv4 rfl rfl rfl rfl rfl rfl) rfl rfl rfl ?_
        refine aops_eff (w_load_ref TT_ok rfl rfl rfl rfl rfl rfl) rfl rfl rfl ?_
        refine aops_eff (w_field_ptr TT_ok rfl rfl rfl rfl rfl rfl rfl) rfl rfl rfl ?_
        refine aops_eff (w_load_ptr TT_ok rfl rfl rfl rfl rfl rfl rfl) rfl rfl rfl ?_
        refine aops_eff (eff_move rfl) rfl rfl rfl ?_
        obtain ⟨v5, hv5, h⟩ := ob h
        refine aops_eff (x_at_list TT_ok hv5 rfl rfl rfl rfl rfl rfl) rfl rfl rfl ?_
        refine aops_eff (w_load_ref TT_ok rfl rfl rfl rfl rfl rfl) rfl rfl rfl ?_
        refine aops_eff (x_mul rfl rfl) rfl rfl rfl ?_
        refine aops_eff (x_add rfl rfl) rfl rfl rfl ?_
        refine aops_eff (eff_assign rfl) rfl rfl rfl ?_
        refine aops_nil ?_
        refine ⟨by kernel_rfl, ?_⟩
        refine block_n ?_
        refine then_n ?_
        refine ac_ent (t := mkS [(1, .ptr 0 0 0), (3, .int (wr (x1.1 + (wr (v4 * v5))))), (4, .int x1.2)] [(0, ⟨6, [[.int a0.p, .int a0.q.n, .list 1 (List.map eI a0.q.src), .list 1 (List.map eI a0.q.tgt), .list 1 (List.map eI a0.dims), .list 3 (List.map eM a0.maps)]]⟩)] 1 [1, 2, 3, 4, 5, 6, 7, 8, 9, 10, 11, 12, 13, 14]) (ent_mk (σ := sg [(0, 0)]) ⟨⟨_, rfl, ⟨rfl, rfl, rfl, rfl⟩⟩, ⟨_, rfl, rfl⟩, ⟨_, rfl, rfl⟩, trivial⟩ ⟨⟨_, rfl, rfl, .inl ⟨rfl, plain_of rfl⟩⟩, rfl, trivial⟩ rfl) ?_
        refine ac_region ?_
        refine aops_eff (eff_move rfl) rfl rfl rfl ?_
        refine aops_eff (x_add rfl rfl) rfl rfl rfl ?_
        refine aops_eff (eff_assign rfl) rfl rfl rfl ?_
        refine aops_nil ?_
        refine then_n ?_
        obtain rfl := so h
        exact ⟨_, rfl, (ent_mk (σ := sg [(0, 0)]) ⟨⟨_, rfl, ⟨rfl, rfl, rfl, rfl⟩⟩, ⟨_, rfl, rfl⟩, ⟨_, rfl, rfl⟩, trivial⟩ ⟨⟨_, rfl, rfl, .inl ⟨rfl, plain_of rfl⟩⟩, rfl, trivial⟩ rfl)⟩
      · refine ac_condF rfl q3 ?_
        refine ac_exit ?_
        refine then_exit ?_
        refine then_exit ?_
        obtain rfl := so h
        exact ⟨_, rfl, rfl, (ent_mk (σ := sg [(0, 0)]) ⟨⟨_, rfl, ⟨rfl, rfl, rfl, rfl⟩⟩, ⟨_, rfl, rfl⟩, trivial⟩ ⟨⟨_, rfl, rfl, .inl ⟨rfl, plain_of rfl⟩⟩, rfl, trivial⟩ rfl)⟩
    · rintro e t ⟨rfl, hent⟩
      refine block_here ?_
      refine then_n ?_
      refine ac_ent hent ?_
      refine ac_seq ?_
      refine ac_region ?_
      refine aops_eff (eff_move rfl) rfl rfl rfl ?_
      refine aops_eff (w_load_ptr TT_ok rfl rfl rfl rfl rfl rfl rfl) rfl rfl rfl ?_
      refine aops_eff (w_load_ptr TT_ok rfl rfl rfl rfl rfl rfl rfl) rfl rfl rfl ?_
      obtain ⟨v7, hv7, h⟩ := ob h
      refine aops_eff (w_call0s (c_spec_HomDim a0 a0 v7 hv7) rfl (va_cons (va_agg' (v1_cons (v1_same rfl) (v1_cons (v1_same rfl) (v1_cons (v1_same rfl) (v1_cons (v1_same rfl) (v1_cons (v1_same rfl) (v1_cons (v1_same rfl) v1_nil))))))) (va_cons (va_agg' (v1_cons (v1_same rfl) (v1_cons (v1_same rfl) (v1_cons (v1_same rfl) (v1_cons (v1_same rfl) (v1_cons (v1_same rfl) (v1_cons (v1_same rfl) v1_nil))))))) va_nil))) rfl rfl rfl ?_
      refine aops_eff (x_sub rfl rfl) rfl rfl rfl ?_
      refine aops_eff (eff_assign rfl) rfl rfl rfl ?_
      refine aops_nil ?_
      refine then_n ?_
      refine ac_ret ?_
      obtain rfl := so h
      exact ret_mk rfl rfl rfl (fz_int rfl)

noncomputable def m_spec_HomRow_L1 (a0 : Rp) (a1 : (List Rp)) (x1 : ((List Int) × Int)) : Option (((List Int) × Int) ⊕ (List Int)) :=
  bif decide (x1.2 < (a1.length : Int)) then
    (bif decide ((a1.length : Int) ≤ 20) then
      (Option.bind (atL a1 x1.2) fun v3 =>
      Option.bind (m_spec_HomDim v3 a0) fun v4 =>
      bif decide (x1.1.length + [v4].length ≤ 4294967296) then
        (some (.inl ((x1.1 ++ [v4]), wr (x1.2 + 1))))
      else none)
    else
      (some (.inr x1.1)))
  else
    (some (.inr x1.1))

noncomputable def m_spec_HomRow (a0 : Rp) (a1 : (List Rp)) : Option (List Int) :=
  Option.bind (Lp (m_spec_HomRow_L1 a0 a1) (([] : (List Int)), 0)) fun y6 =>
  some (y6)

theorem c_spec_HomRow (a0 : Rp) (a1 : (List Rp)) (r : (List Int)) (h : m_spec_HomRow a0 a1 = some r) : HasC Try.prog 60 [.agg (eR a0), .list 6 (List.map eR a1)] (.list 1 (List.map eI r)) := by
  refine hasC_mk TT_ok (rvs := [.tmp 4]) (ns := [0, 1, 2, 3, 4, 5, 6, 7, 8, 9, 10, 11, 12, 13]) Try.func60 rfl rfl Try.ntmps60 rfl rfl rfl ?_
  refine ac_seq ?_
  refine ac_region ?_
  refine aops_eff (w_box rfl rfl rfl rfl) rfl rfl rfl ?_
  refine aops_eff (eff_assign rfl) rfl rfl rfl ?_
  refine aops_nil ?_
  refine then_n ?_
  refine ac_seq ?_
  refine ac_region ?_
  refine aops_eff (w_lit TT_ok rfl rfl rfl rfl rfl rfl rfl rfl rfl rfl rfl rfl) rfl rfl rfl ?_
  refine aops_eff (eff_assign rfl) rfl rfl rfl ?_
  refine aops_nil ?_
  refine then_n ?_
  refine ac_ent (t := mkS [(1, .list 6 (List.map eR a1)), (2, .ptr 0 0 0), (5, .own 1 0 (([] : (List Int)).length))] [(0, ⟨6, [[.int a0.p, .int a0.q.n, .list 1 (List.map eI a0.q.src), .list 1 (List.map eI a0.q.tgt), .list 1 (List.map eI a0.dims), .list 3 (List.map eM a0.maps)]]⟩), (1, ⟨1, List.map (ow eI) ([] : (List Int))⟩)] 2 [2, 3, 4, 5, 6, 7, 8, 9, 10, 11, 12, 13, 14, 15]) (ent_mk (σ := sg [(0, 0), (1, 1)]) ⟨⟨_, rfl, ⟨rfl, rfl⟩⟩, ⟨_, rfl, ⟨rfl, rfl, rfl, rfl⟩⟩, ⟨_, rfl, ⟨rfl, rfl, (by simp only [len_map, List.length_append, List.length_set, List.length_replicate, List.length_cons, List.length_nil]), rfl⟩⟩, trivial⟩ ⟨⟨_, rfl, rfl, .inl ⟨rfl, plain_of rfl⟩⟩, rfl, ⟨_, rfl, rfl, .inl ⟨rfl, okI.plainO _⟩⟩, rfl, trivial⟩ rfl) ?_
  refine ac_seq ?_
  refine ac_seq ?_
  refine ac_region ?_
  refine aops_eff (eff_assign rfl) rfl rfl rfl ?_
  refine aops_nil ?_
  refine then_n ?_
  refine ac_block ?_
  obtain ⟨y6, hy6, h⟩ := ob h
  refine ac_Lp (body := (m_spec_HomRow_L1 a0 a1)) hy6 (fun (x1 : ((List Int) × Int)) => mkS [(1, .list 6 (List.map eR a1)), (2, .ptr 0 0 0), (5, .own 1 0 x1.1.length), (6, .int x1.2)] [(0, ⟨6, [[.int a0.p, .int a0.q.n, .list 1 (List.map eI a0.q.src), .list 1 (List.map eI a0.q.tgt), .list 1 (List.map eI a0.dims), .list 3 (List.map eM a0.maps)]]⟩), (1, ⟨1, List.map (ow eI) x1.1⟩)] 2 [2, 3, 4, 5, 6, 7, 8, 9, 10, 11, 12, 13, 14, 15]) (fun r e t => e = .exit 0 ∧ Ent t (mkS [(5, .own 0 0 r.length)] [(0, ⟨1, List.map (ow eI) r⟩)] 1 [1, 2, 3, 4, 5, 6, 7, 8, 9, 10, 11, 12, 13, 14])) (ent_mk (σ := sg [(0, 0), (1, 1)]) ⟨⟨_, rfl, ⟨rfl, rfl⟩⟩, ⟨_, rfl, ⟨rfl, rfl, rfl, rfl⟩⟩, ⟨_, rfl, ⟨rfl, rfl, rfl, rfl⟩⟩, ⟨_, rfl, rfl⟩, trivial⟩ ⟨⟨_, rfl, rfl, .inl ⟨rfl, plain_of rfl⟩⟩, rfl, ⟨_, rfl, rfl, .inl ⟨rfl, okI.plainO _⟩⟩, rfl, trivial⟩ rfl) ?_ ?_
  · intro x1 o h
    refine ac_seq ?_
    refine ac_seq ?_
    refine ac_region ?_
    refine aops_eff (eff_move rfl) rfl rfl rfl ?_
    refine aops_eff (eff_move rfl) rfl rfl rfl ?_
    refine aops_eff (AEff.val (w_len_list TT_ok rfl rfl rfl) (v' := .int (a1.length : Int)) (by first | rw [len_map] | rw [encI_len])) rfl rfl rfl ?_
    refine aops_eff (w_cmp rfl rfl rfl) rfl rfl rfl ?_
    refine aops_eff (eff_move rfl) rfl rfl rfl ?_
    rcases cb h with ⟨q1, h⟩ | ⟨q1, h⟩
    · refine aops_lit 12 rfl q1 ?_
      refine aops_eff (eff_move rfl) rfl rfl rfl ?_
      refine aops_eff (AEff.val (w_len_list TT_ok rfl rfl rfl) (v' := .int (a1.length : Int)) (by first | rw [len_map] | rw [encI_len])) rfl rfl rfl ?_
      refine aops_eff (w_cmp rfl rfl rfl) rfl rfl rfl ?_
      refine aops_eff (eff_pick rfl rfl) rfl rfl rfl ?_
      refine aops_nil ?_
      refine then_n ?_
      rcases cb h with ⟨q2, h⟩ | ⟨q2, h⟩
      · refine ac_condT rfl q2 ?_
        refine ac_skip ?_
        refine then_n ?_
        refine ac_seq ?_
        refine ac_block ?_
        refine ac_region_draw MIXX ?_
        refine aops_eff (eff_move rfl) rfl rfl rfl ?_
        refine aops_eff (eff_move rfl) rfl rfl rfl ?_
        refine aops_eff (eff_move rfl) rfl rfl rfl ?_
        obtain ⟨v3, hv3, h⟩ := ob h
        refine aops_eff (x_at_list TT_ok hv3 rfl rfl rfl rfl rfl rfl) rfl rfl rfl ?_
        refine aops_eff (w_load_ref TT_ok rfl rfl rfl rfl rfl rfl) rfl rfl rfl ?_
        refine aops_eff (w_load_ptr TT_ok rfl rfl rfl rfl rfl rfl rfl) rfl rfl rfl ?_
        obtain ⟨v4, hv4, h⟩ := ob h
        refine aops_eff (w_call0s (c_spec_HomDim v3 a0 v4 hv4) rfl (va_cons (va_agg' (v1_cons (v1_same rfl) (v1_cons (v1_same rfl) (v1_cons (v1_same rfl) (v1_cons (v1_same rfl) (v1_cons (v1_same rfl) (v1_cons (v1_same rfl) v1_nil))))))) (va_cons (va_agg' (v1_cons (v1_same rfl) (v1_cons (v1_same rfl) (v1_cons (v1_same rfl) (v1_cons (v1_same rfl) (v1_cons (v1_same rfl) (v1_cons (v1_same rfl) v1_nil))))))) va_nil))) rfl rfl rfl ?_
        refine aops_eff (w_lit TT_ok rfl rfl rfl rfl rfl rfl rfl rfl rfl rfl rfl rfl) rfl rfl rfl ?_
        obtain ⟨q5, h⟩ := cg h
        refine aops_eff (x_app TT_ok (l := x1.1) (m := [v4]) okIo q5 rfl rfl rfl rfl rfl rfl rfl rfl rfl rfl rfl rfl) rfl rfl rfl ?_
        refine aops_eff (eff_assign rfl) rfl rfl rfl ?_
        refine aops_nil ?_
        refine ⟨by kernel_rfl, ?_⟩
        refine block_n ?_
        refine then_n ?_
        refine ac_ent (t := mkS [(1, .list 6 (List.map eR a1)), (2, .ptr 0 0 0), (5, .own 3 0 ((x1.1 ++ [v4]).length)), (6, .int x1.2)] [(0, ⟨6, [[.int a0.p, .int a0.q.n, .list 1 (List.map eI a0.q.src), .list 1 (List.map eI a0.q.tgt), .list 1 (List.map eI a0.dims), .list 3 (List.map eM a0.maps)]]⟩), (3, ⟨1, List.map (ow eI) (x1.1 ++ [v4])⟩)] 4 [4, 5, 6, 7, 8, 9, 10, 11, 12, 13, 14, 15, 16, 17]) (ent_mk (σ := sg [(0, 0), (3, 3)]) ⟨⟨_, rfl, ⟨rfl, rfl⟩⟩, ⟨_, rfl, ⟨rfl, rfl, rfl, rfl⟩⟩, ⟨_, rfl, ⟨rfl, rfl, rfl, rfl⟩⟩, ⟨_, rfl, rfl⟩, trivial⟩ ⟨⟨_, rfl, rfl, .inl ⟨rfl, plain_of rfl⟩⟩, rfl, ⟨_, rfl, rfl, .inl ⟨rfl, okI.plainO _⟩⟩, rfl, trivial⟩ rfl) ?_
        refine ac_region ?_
        refine aops_eff (eff_move rfl) rfl rfl rfl ?_
        refine aops_eff (x_add rfl rfl) rfl rfl rfl ?_
        refine aops_eff (eff_assign rfl) rfl rfl rfl ?_
        refine aops_nil ?_
        refine then_n ?_
        obtain rfl := so h
        exact ⟨_, rfl, (ent_mk (σ := sg [(0, 0), (1, 3)]) ⟨⟨_, rfl, ⟨rfl, rfl⟩⟩, ⟨_, rfl, ⟨rfl, rfl, rfl, rfl⟩⟩, ⟨_, rfl, ⟨rfl, rfl, rfl, rfl⟩⟩, ⟨_, rfl, rfl⟩, trivial⟩ ⟨⟨_, rfl, rfl, .inl ⟨rfl, plain_of rfl⟩⟩, rfl, ⟨_, rfl, rfl, .inl ⟨rfl, okI.plainO _⟩⟩, rfl, trivial⟩ rfl)⟩
      · refine ac_condF rfl q2 ?_
        refine ac_exit ?_
        refine then_exit ?_
        refine then_exit ?_
        obtain rfl := so h
        exact ⟨_, rfl, rfl, (ent_mk (σ := sg [(0, 1)]) ⟨⟨_, rfl, ⟨rfl, rfl, rfl, rfl⟩⟩, trivial⟩ ⟨⟨_, rfl, rfl, .inl ⟨rfl, okI.plainO _⟩⟩, rfl, trivial⟩ rfl)⟩
    · refine aops_lit 12 rfl q1 ?_
      refine aops_skip rfl rfl ?_
      refine aops_skip rfl rfl ?_
      refine aops_skip rfl rfl ?_
      refine aops_eff (eff_pick rfl rfl) rfl rfl rfl ?_
      refine aops_nil ?_
      refine then_n ?_
      refine ac_condF rfl rfl ?_
      refine ac_exit ?_
      refine then_exit ?_
      refine then_exit ?_
      obtain rfl := so h
      exact ⟨_, rfl, rfl, (ent_mk (σ := sg [(0, 1)]) ⟨⟨_, rfl, ⟨rfl, rfl, rfl, rfl⟩⟩, trivial⟩ ⟨⟨_, rfl, rfl, .inl ⟨rfl, okI.plainO _⟩⟩, rfl, trivial⟩ rfl)⟩
  · rintro e t ⟨rfl, hent⟩
    refine block_here ?_
    refine then_n ?_
    refine ac_ent hent ?_
    refine ac_seq ?_
    refine ac_region ?_
    refine aops_eff (eff_move rfl) rfl rfl rfl ?_
    refine aops_eff (eff_assign rfl) rfl rfl rfl ?_
    refine aops_nil ?_
    refine then_n ?_
    refine ac_ret ?_
    obtain rfl := so h
    exact ret_mk rfl rfl rfl (xz_list (x_f1 okI rfl rfl))

noncomputable def m_spec_HomsBelow_L1 (v1 : (List Int)) (v2 : (List Int)) (x1 : Int) : Option (Int ⊕ (Unit ⊕ Bool)) :=
  bif decide (x1 < ((v1.length : Nat) : Int)) then
    (Option.bind (atL v1 x1) fun v4 =>
    Option.bind (atL v2 x1) fun v5 =>
    bif decide (v5 < v4) then
      (some (.inr (.inr (false))))
    else
      (some (.inl (wr (x1 + 1)))))
  else
    (some (.inr (.inl ())))

noncomputable def m_spec_HomsBelow (a0 : Rp) (a1 : Rp) (a2 : (List Rp)) : Option Bool :=
  Option.bind (m_spec_HomRow a0 a2) fun v1 =>
  Option.bind (m_spec_HomRow a1 a2) fun v2 =>
  Option.bind (Lp (m_spec_HomsBelow_L1 v1 v2) 0) fun y7 =>
  Sum.elim (fun y8 =>
    Option.bind (m_spec_l9Fit a0 a1) fun v9 =>
    bif v9 then
      (Option.bind (m_spec_l6Same a0.dims a1.dims) fun v11 =>
      some (v11))
    else
      (some (false))
  ) 
  (fun y12 =>
    some y12
  )
   y7

theorem c_spec_HomsBelow (a0 : Rp) (a1 : Rp) (a2 : (List Rp)) (r : Bool) (h : m_spec_HomsBelow a0 a1 a2 = some r) : HasC Try.prog 20 [.agg (eR a0), .agg (eR a1), .list 6 (List.map eR a2)] (.bl r) := by
  refine hasC_mk TT_ok (rvs := [.tmp 6]) (ns := [0, 1, 2, 3, 4, 5, 6, 7, 8, 9, 10, 11, 12, 13]) Try.func20 rfl rfl Try.ntmps20 rfl rfl rfl ?_
  refine ac_seq ?_
  refine ac_region ?_
  refine aops_eff (w_box rfl rfl rfl rfl) rfl rfl rfl ?_
  refine aops_eff (w_box rfl rfl rfl rfl) rfl rfl rfl ?_
  refine aops_eff (eff_assign rfl) rfl rfl rfl ?_
  refine aops_nil ?_
  refine then_n ?_
  refine ac_seq ?_
  refine ac_region ?_
  refine aops_eff (w_load_ptr TT_ok rfl rfl rfl rfl rfl rfl rfl) rfl rfl rfl ?_
  refine aops_eff (eff_move rfl) rfl rfl rfl ?_
  obtain ⟨v1, hv1, h⟩ := ob h
  refine aops_eff (AEff.conv (w_call0 (x := .own 2 0 (List.map eI v1).length) (nb := [(2, ⟨1, absEs (List.map eI v1)⟩)]) (c_spec_HomRow a0 a2 v1 hv1) rfl (by rfl) rfl rfl (okI.good _) (va_cons (va_agg' (v1_cons (v1_same rfl) (v1_cons (v1_same rfl) (v1_cons (v1_same rfl) (v1_cons (v1_same rfl) (v1_cons (v1_same rfl) (v1_cons (v1_same rfl) v1_nil))))))) (va_cons (va_same rfl) va_nil))) (v' := .own 2 0 v1.length) (ed' := [(2, some ⟨1, List.map (ow eI) v1⟩)]) (by simp only [len_map]) (ed_ok (nb' := [(2, ⟨1, List.map (ow eI) v1⟩)]) (by simp only [abs_map]))) rfl rfl rfl ?_
  refine aops_eff (eff_assign rfl) rfl rfl rfl ?_
  refine aops_nil ?_
  refine then_n ?_
  refine ac_seq ?_
  refine ac_region ?_
  refine aops_eff (w_load_ptr TT_ok rfl rfl rfl rfl rfl rfl rfl) rfl rfl rfl ?_
  refine aops_eff (eff_move rfl) rfl rfl rfl ?_
  obtain ⟨v2, hv2, h⟩ := ob h
  refine aops_eff (AEff.conv (w_call0 (x := .own 3 0 (List.map eI v2).length) (nb := [(3, ⟨1, absEs (List.map eI v2)⟩)]) (c_spec_HomRow a1 a2 v2 hv2) rfl (by rfl) rfl rfl (okI.good _) (va_cons (va_agg' (v1_cons (v1_same rfl) (v1_cons (v1_same rfl) (v1_cons (v1_same rfl) (v1_cons (v1_same rfl) (v1_cons (v1_same rfl) (v1_cons (v1_same rfl) v1_nil))))))) (va_cons (va_same rfl) va_nil))) (v' := .own 3 0 v2.length) (ed' := [(3, some ⟨1, List.map (ow eI) v2⟩)]) (by simp only [len_map]) (ed_ok (nb' := [(3, ⟨1, List.map (ow eI) v2⟩)]) (by simp only [abs_map]))) rfl rfl rfl ?_
  refine aops_eff (eff_assign rfl) rfl rfl rfl ?_
  refine aops_nil ?_
  refine then_n ?_
  refine ac_seq ?_
  refine ac_seq ?_
  refine ac_region ?_
  refine aops_eff (eff_assign rfl) rfl rfl rfl ?_
  refine aops_nil ?_
  refine then_n ?_
  refine ac_ent (t := mkS [(3, .ptr 0 0 0), (4, .ptr 1 0 0), (7, .own 2 0 v1.length), (8, .own 3 0 v2.length), (9, .int 0)] [(0, ⟨6, [[.int a0.p, .int a0.q.n, .list 1 (List.map eI a0.q.src), .list 1 (List.map eI a0.q.tgt), .list 1 (List.map eI a0.dims), .list 3 (List.map eM a0.maps)]]⟩), (1, ⟨6, [[.int a1.p, .int a1.q.n, .list 1 (List.map eI a1.q.src), .list 1 (List.map eI a1.q.tgt), .list 1 (List.map eI a1.dims), .list 3 (List.map eM a1.maps)]]⟩), (2, ⟨1, List.map (ow eI) v1⟩), (3, ⟨1, List.map (ow eI) v2⟩)] 4 [4, 5, 6, 7, 8, 9, 10, 11, 12, 13, 14, 15, 16, 17]) (ent_mk (σ := sg [(0, 0), (1, 1), (2, 2), (3, 3)]) ⟨⟨_, rfl, ⟨rfl, rfl, rfl, rfl⟩⟩, ⟨_, rfl, ⟨rfl, rfl, rfl, rfl⟩⟩, ⟨_, rfl, ⟨rfl, rfl, rfl, rfl⟩⟩, ⟨_, rfl, ⟨rfl, rfl, rfl, rfl⟩⟩, ⟨_, rfl, rfl⟩, trivial⟩ ⟨⟨_, rfl, rfl, .inl ⟨rfl, plain_of rfl⟩⟩, rfl, ⟨_, rfl, rfl, .inl ⟨rfl, plain_of rfl⟩⟩, rfl, ⟨_, rfl, rfl, .inl ⟨rfl, okI.plainO _⟩⟩, rfl, ⟨_, rfl, rfl, .inl ⟨rfl, okI.plainO _⟩⟩, rfl, trivial⟩ rfl) ?_
  refine ac_block ?_
  obtain ⟨y7, hy7, h⟩ := ob h
  refine ac_Lp (body := (m_spec_HomsBelow_L1 v1 v2)) hy7 (fun (x1 : Int) => mkS [(3, .ptr 0 0 0), (4, .ptr 1 0 0), (7, .own 2 0 v1.length), (8, .own 3 0 v2.length), (9, .int x1)] [(0, ⟨6, [[.int a0.p, .int a0.q.n, .list 1 (List.map eI a0.q.src), .list 1 (List.map eI a0.q.tgt), .list 1 (List.map eI a0.dims), .list 3 (List.map eM a0.maps)]]⟩), (1, ⟨6, [[.int a1.p, .int a1.q.n, .list 1 (List.map eI a1.q.src), .list 1 (List.map eI a1.q.tgt), .list 1 (List.map eI a1.dims), .list 3 (List.map eM a1.maps)]]⟩), (2, ⟨1, List.map (ow eI) v1⟩), (3, ⟨1, List.map (ow eI) v2⟩)] 4 [4, 5, 6, 7, 8, 9, 10, 11, 12, 13, 14, 15, 16, 17]) (fun r e t => Sum.elim (fun a => (fun r e t => e = .exit 0 ∧ Ent t (mkS [(3, .ptr 0 0 0), (4, .ptr 1 0 0)] [(0, ⟨6, [[.int a0.p, .int a0.q.n, .list 1 (List.map eI a0.q.src), .list 1 (List.map eI a0.q.tgt), .list 1 (List.map eI a0.dims), .list 3 (List.map eM a0.maps)]]⟩), (1, ⟨6, [[.int a1.p, .int a1.q.n, .list 1 (List.map eI a1.q.src), .list 1 (List.map eI a1.q.tgt), .list 1 (List.map eI a1.dims), .list 3 (List.map eM a1.maps)]]⟩)] 2 [2, 3, 4, 5, 6, 7, 8, 9, 10, 11, 12, 13, 14, 15])) a e t) (fun b => (fun r e t => e = .ret ∧ RetQ TT [.tmp 6] (.bl r) .ret t) b e t) r) (ent_mk (σ := sg [(0, 0), (1, 1), (2, 2), (3, 3)]) ⟨⟨_, rfl, ⟨rfl, rfl, rfl, rfl⟩⟩, ⟨_, rfl, ⟨rfl, rfl, rfl, rfl⟩⟩, ⟨_, rfl, ⟨rfl, rfl, rfl, rfl⟩⟩, ⟨_, rfl, ⟨rfl, rfl, rfl, rfl⟩⟩, ⟨_, rfl, rfl⟩, trivial⟩ ⟨⟨_, rfl, rfl, .inl ⟨rfl, plain_of rfl⟩⟩, rfl, ⟨_, rfl, rfl, .inl ⟨rfl, plain_of rfl⟩⟩, rfl, ⟨_, rfl, rfl, .inl ⟨rfl, okI.plainO _⟩⟩, rfl, ⟨_, rfl, rfl, .inl ⟨rfl, okI.plainO _⟩⟩, rfl, trivial⟩ rfl) ?_ ?_
  · intro x1 o h
    refine ac_seq ?_
    refine ac_seq ?_
    refine ac_region ?_
    refine aops_eff (eff_move rfl) rfl rfl rfl ?_
    refine aops_eff (eff_move rfl) rfl rfl rfl ?_
    refine aops_eff (w_len_own TT_ok rfl rfl rfl rfl) rfl rfl rfl ?_
    refine aops_eff (w_cmp rfl rfl rfl) rfl rfl rfl ?_
    refine aops_nil ?_
    refine then_n ?_
    rcases cb h with ⟨q3, h⟩ | ⟨q3, h⟩
    · refine ac_condT rfl q3 ?_
      refine ac_skip ?_
      refine then_n ?_
      refine ac_seq ?_
      refine ac_block ?_
      refine ac_seq ?_
      refine ac_region_draw MIXX ?_
      refine aops_eff (eff_move rfl) rfl rfl rfl ?_
      refine aops_eff (eff_move rfl) rfl rfl rfl ?_
      obtain ⟨v4, hv4, h⟩ := ob h
      refine aops_eff (x_at_own TT_ok (atL_nn hv4) (atL_lt hv4) rfl rfl rfl rfl rfl rfl rfl) rfl rfl rfl ?_
      refine aops_eff (w_load_ptr TT_ok rfl rfl rfl rfl (map_at (atL_get hv4)) rfl rfl) rfl rfl rfl ?_
      refine aops_eff (eff_move rfl) rfl rfl rfl ?_
      refine aops_eff (eff_move rfl) rfl rfl rfl ?_
      obtain ⟨v5, hv5, h⟩ := ob h
      refine aops_eff (x_at_own TT_ok (atL_nn hv5) (atL_lt hv5) rfl rfl rfl rfl rfl rfl rfl) rfl rfl rfl ?_
      refine aops_eff (w_load_ptr TT_ok rfl rfl rfl rfl (map_at (atL_get hv5)) rfl rfl) rfl rfl rfl ?_
      refine aops_eff (w_cmp rfl rfl rfl) rfl rfl rfl ?_
      refine aops_nil ?_
      refine ⟨by kernel_rfl, ?_⟩
      refine then_n ?_
      refine ac_ent (t := mkS [(3, .ptr 0 0 0), (4, .ptr 1 0 0), (7, .own 2 0 v1.length), (8, .own 3 0 v2.length), (9, .int x1), (30, .bl (decide (v5 < v4)))] [(0, ⟨6, [[.int a0.p, .int a0.q.n, .list 1 (List.map eI a0.q.src), .list 1 (List.map eI a0.q.tgt), .list 1 (List.map eI a0.dims), .list 3 (List.map eM a0.maps)]]⟩), (1, ⟨6, [[.int a1.p, .int a1.q.n, .list 1 (List.map eI a1.q.src), .list 1 (List.map eI a1.q.tgt), .list 1 (List.map eI a1.dims), .list 3 (List.map eM a1.maps)]]⟩), (2, ⟨1, List.map (ow eI) v1⟩), (3, ⟨1, List.map (ow eI) v2⟩)] 4 [4, 5, 6, 7, 8, 9, 10, 11, 12, 13, 14, 15, 16, 17]) (ent_mk (σ := sg [(0, 0), (1, 1), (2, 2), (3, 3)]) ⟨⟨_, rfl, ⟨rfl, rfl, rfl, rfl⟩⟩, ⟨_, rfl, ⟨rfl, rfl, rfl, rfl⟩⟩, ⟨_, rfl, ⟨rfl, rfl, rfl, rfl⟩⟩, ⟨_, rfl, ⟨rfl, rfl, rfl, rfl⟩⟩, ⟨_, rfl, rfl⟩, ⟨_, rfl, rfl⟩, trivial⟩ ⟨⟨_, rfl, rfl, .inl ⟨rfl, plain_of rfl⟩⟩, rfl, ⟨_, rfl, rfl, .inl ⟨rfl, plain_of rfl⟩⟩, rfl, ⟨_, rfl, rfl, .inl ⟨rfl, okI.plainO _⟩⟩, rfl, ⟨_, rfl, rfl, .inl ⟨rfl, okI.plainO _⟩⟩, rfl, trivial⟩ rfl) ?_
      rcases cb h with ⟨q6, h⟩ | ⟨q6, h⟩
      · refine ac_condT rfl q6 ?_
        refine ac_seq ?_
        refine ac_region ?_
        refine aops_eff (eff_assign rfl) rfl rfl rfl ?_
        refine aops_nil ?_
        refine then_n ?_
        refine ac_ret ?_
        refine block_ret ?_
        refine then_ret ?_
        refine then_ret ?_
        obtain rfl := so h
        exact ⟨_, rfl, rfl, ret_mk rfl rfl rfl (fz_bl rfl)⟩
      · refine ac_condF rfl q6 ?_
        refine ac_skip ?_
        refine block_n ?_
        refine then_n ?_
        refine ac_region ?_
        refine aops_eff (eff_move rfl) rfl rfl rfl ?_
        refine aops_eff (x_add rfl rfl) rfl rfl rfl ?_
        refine aops_eff (eff_assign rfl) rfl rfl rfl ?_
        refine aops_nil ?_
        refine then_n ?_
        obtain rfl := so h
        exact ⟨_, rfl, (ent_mk (σ := sg [(0, 0), (1, 1), (2, 2), (3, 3)]) ⟨⟨_, rfl, ⟨rfl, rfl, rfl, rfl⟩⟩, ⟨_, rfl, ⟨rfl, rfl, rfl, rfl⟩⟩, ⟨_, rfl, ⟨rfl, rfl, rfl, rfl⟩⟩, ⟨_, rfl, ⟨rfl, rfl, rfl, rfl⟩⟩, ⟨_, rfl, rfl⟩, trivial⟩ ⟨⟨_, rfl, rfl, .inl ⟨rfl, plain_of rfl⟩⟩, rfl, ⟨_, rfl, rfl, .inl ⟨rfl, plain_of rfl⟩⟩, rfl, ⟨_, rfl, rfl, .inl ⟨rfl, okI.plainO _⟩⟩, rfl, ⟨_, rfl, rfl, .inl ⟨rfl, okI.plainO _⟩⟩, rfl, trivial⟩ rfl)⟩
    · refine ac_condF rfl q3 ?_
      refine ac_exit ?_
      refine then_exit ?_
      refine then_exit ?_
      obtain rfl := so h
      exact ⟨_, rfl, rfl, (ent_mk (σ := sg [(0, 0), (1, 1)]) ⟨⟨_, rfl, ⟨rfl, rfl, rfl, rfl⟩⟩, ⟨_, rfl, ⟨rfl, rfl, rfl, rfl⟩⟩, trivial⟩ ⟨⟨_, rfl, rfl, .inl ⟨rfl, plain_of rfl⟩⟩, rfl, ⟨_, rfl, rfl, .inl ⟨rfl, plain_of rfl⟩⟩, rfl, trivial⟩ rfl)⟩
  · intro e t hX
    rcases y7 with y8 | y12
    · obtain ⟨rfl, hent⟩ := hX
      refine block_here ?_
      refine then_n ?_
      refine ac_ent hent ?_
      refine ac_seq ?_
      refine ac_region ?_
      refine aops_eff (w_load_ptr TT_ok rfl rfl rfl rfl rfl rfl rfl) rfl rfl rfl ?_
      refine aops_eff (w_load_ptr TT_ok rfl rfl rfl rfl rfl rfl rfl) rfl rfl rfl ?_
      obtain ⟨v9, hv9, h⟩ := ob h
      refine aops_eff (w_call0s (c_spec_l9Fit a0 a1 v9 hv9) rfl (va_cons (va_agg' (v1_cons (v1_same rfl) (v1_cons (v1_same rfl) (v1_cons (v1_same rfl) (v1_cons (v1_same rfl) (v1_cons (v1_same rfl) (v1_cons (v1_same rfl) v1_nil))))))) (va_cons (va_agg' (v1_cons (v1_same rfl) (v1_cons (v1_same rfl) (v1_cons (v1_same rfl) (v1_cons (v1_same rfl) (v1_cons (v1_same rfl) (v1_cons (v1_same rfl) v1_nil))))))) va_nil))) rfl rfl rfl ?_
      refine aops_eff (eff_move rfl) rfl rfl rfl ?_
      rcases cb h with ⟨q10, h⟩ | ⟨q10, h⟩
      · refine aops_lit 34 rfl q10 ?_
        refine aops_eff (w_field_ptr TT_ok rfl rfl rfl rfl rfl rfl rfl) rfl rfl rfl ?_
        refine aops_eff (w_load_ptr TT_ok rfl rfl rfl rfl rfl rfl rfl) rfl rfl rfl ?_
        refine aops_eff (w_field_ptr TT_ok rfl rfl rfl rfl rfl rfl rfl) rfl rfl rfl ?_
        refine aops_eff (w_load_ptr TT_ok rfl rfl rfl rfl rfl rfl rfl) rfl rfl rfl ?_
        obtain ⟨v11, hv11, h⟩ := ob h
        refine aops_eff (w_call0s (c_spec_l6Same a0.dims a1.dims v11 hv11) rfl (va_cons (va_same rfl) (va_cons (va_same rfl) va_nil))) rfl rfl rfl ?_
        refine aops_eff (eff_pick rfl rfl) rfl rfl rfl ?_
        refine aops_eff (eff_assign rfl) rfl rfl rfl ?_
        refine aops_nil ?_
        refine then_n ?_
        refine ac_ret ?_
        obtain rfl := so h
        exact ret_mk rfl rfl rfl (fz_bl rfl)
      · refine aops_lit 34 rfl q10 ?_
        refine aops_skip rfl rfl ?_
        refine aops_skip rfl rfl ?_
        refine aops_skip rfl rfl ?_
        refine aops_skip rfl rfl ?_
        refine aops_skip rfl rfl ?_
        refine aops_eff (eff_pick rfl rfl) rfl rfl rfl ?_
        refine aops_eff (eff_assign rfl) rfl rfl rfl ?_
        refine aops_nil ?_
        refine then_n ?_
        refine ac_ret ?_
        obtain rfl := so h
        exact ret_mk rfl rfl rfl (fz_bl rfl)
    · obtain ⟨rfl, hent⟩ := hX
      refine block_ret ?_
      refine then_ret ?_
      obtain rfl := so h
      exact hent

end Go.Proofs.Ytjfcjkeghigipaa

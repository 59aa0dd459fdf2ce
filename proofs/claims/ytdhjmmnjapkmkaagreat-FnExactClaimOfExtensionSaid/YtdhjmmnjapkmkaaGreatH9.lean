/-
  Several texts of the claim in one: each begins with its own remark.
-/
import Derived.Test.YtdhjmmnjapkmkaaGreatH8
section
set_option linter.unusedVariables false
set_option linter.unusedSimpArgs false

namespace Go.Proofs.YtdhjmmnjapkmkaaGreat
open Go.RowKit
set_option linter.unusedVariables false
set_option linter.unusedSimpArgs false
set_option maxRecDepth 10000
set_option maxHeartbeats 4000000

noncomputable def m_impl_zeros_L1 (a0 : Rp) (a1 : Rp) (x1 : ((List Mt) × Int)) : Option (((List Mt) × Int) ⊕ (List Mt)) :=
  bif decide (x1.2 < (a0.dims.length : Int)) then
    (Option.bind (atL a0.dims x1.2) fun v2 =>
    Option.bind (atL a1.dims x1.2) fun v3 =>
    Option.bind (m_impl_zero v3 v2) fun v4 =>
    bif decide (x1.1.length + 1 ≤ 4294967296) then
      (some (.inl ((x1.1 ++ [v4]), wr (x1.2 + 1))))
    else none)
  else
    (some (.inr x1.1))

noncomputable def m_impl_zeros (a0 : Rp) (a1 : Rp) : Option (List Mt) :=
  Option.bind (Lp (m_impl_zeros_L1 a0 a1) ([], 0)) fun y6 =>
  some (y6)

theorem c_impl_zeros (a0 : Rp) (a1 : Rp) (r : (List Mt)) (h : m_impl_zeros a0 a1 = some r) : HasC Tryz.prog 77 [.agg (eR a0), .agg (eR a1)] (.list 3 (List.map eM r)) := by
 refine hasC_mk TT_ok (rvs := [.tmp 4]) (ns := [0, 1, 2, 3, 4, 5, 6]) Tryz.func77 k k Tryz.ntmps77 k k k <| sQ <| rg <| ae (w_box k k k k) k <| ae (w_box k k k k) k <| aa k k <| an <| tn <| sQ <| rg ?_
 refine aa k k <| an <| tn <| sQ <| sQ <| rg <| ae (w_field_ptr TT_ok k k k k k k k) k <| ae (w_load_ptr TT_ok k k k k k k k) k <| ae (lenL TT_ok k k k) k <| am k k ?_
 refine an <| tn <| ac_block ?_
 obtain ⟨y6, hy6, h⟩ := ob h
 refine ac_Lp (body := (m_impl_zeros_L1 a0 a1)) hy6 (fun (x1 : ((List Mt) × Int)) => mkS [(3, .ptr 0 0 0), (5, .own 1 0 x1.1.length), (9, .list 1 (List.map eI a0.dims)), (10, .int (a0.dims.length : Int)), (11, .int x1.2)] [(0, ⟨6, [[.int a1.p, .int a1.q.n, .list 1 (List.map eI a1.q.src), .list 1 (List.map eI a1.q.tgt), .list 1 (List.map eI a1.dims), .list 3 (List.map eM a1.maps)]]⟩), (1, ⟨3, List.map (ow eM) x1.1⟩)] 2 [2, 3, 4, 5, 6]) (fun r e t => e = .exit 0 ∧ Ent t (mkS [(5, .own 0 0 r.length)] [(0, ⟨3, List.map (ow eM) r⟩)] 1 [1, 2, 3, 4, 5, 6])) (ent_mk (σ := sg [(0, 1)]) ⟨(pE k k), ⟨_, k, ⟨k, k, k, k⟩⟩, ⟨_, k, ⟨k, k⟩⟩, (e1 k k), (e1 k k), trivial⟩ (hP k k k k <| hX k k <| trivial) k) ?_ ?_
 ·intro x1 o h
  refine sQ <| rg <| ae (w_cmp k k k) k <| an <| tn <| sQ ?_
  rcases cb h with ⟨q1, h⟩ | ⟨q1, h⟩
  ·refine ac_condT k q1 <| ac_skip <| tn <| sQ <| ac_block <| sQ <| rg <| am k k ?_
   obtain ⟨v2, hv2, h⟩ := ob h
   refine ae (x_at_list TT_ok hv2 k k k k k k) k <| ae (w_load_ref TT_ok k k k k k k) k <| aa k k <| aa k k <| an <| tn <| rg <| am k k <| ae (w_field_ptr TT_ok k k k k k k k) k <| ae (w_load_ptr TT_ok k k k k k k k) k ?_
   refine am k k ?_
   obtain ⟨v3, hv3, h⟩ := ob h
   refine ae (x_at_list TT_ok hv3 k k k k k k) k <| ae (w_load_ref TT_ok k k k k k k) k <| am k k ?_
   obtain ⟨v4, hv4, h⟩ := ob h
   refine ae (AEff.conv (w_call0 (x := .agg [.int v4.rows, .int v4.cols, .own 2 0 (List.map eI v4.cells).length]) (nb := [(2, ⟨1, absEs (List.map eI v4.cells)⟩)]) (c_impl_zero v3 v2 v4 hv4) k (by rfl) k k (g1_cons trivial (g1_cons trivial (g1_cons (okI.good _) g1_nil))) (va_cons (va_same k) (va_cons (va_same k) va_nil))) (v' := .agg [.int v4.rows, .int v4.cols, .own 2 0 v4.cells.length]) (ed' := [(2, some ⟨1, List.map (ow eI) v4.cells⟩)]) (by simp only [len_map]) (ed_ok (nb' := [(2, ⟨1, List.map (ow eI) v4.cells⟩)]) (by simp only [abs_map]))) k <| ae (w_lit TT_ok k k k k k k k k k k k k) k ?_
   obtain ⟨q5, h⟩ := cg h
   refine ae (x_app1 TT_ok (l := x1.1) (c := [.int v4.rows, .int v4.cols, .own 2 0 v4.cells.length]) q5 k k k k k k k k k k k k k k) k <| aa k k <| an <| block_n <| tn <| ac_ent (t := mkS [(3, .ptr 0 0 0), (5, .own 4 0 ((x1.1 ++ [v4]).length)), (9, .list 1 (List.map eI a0.dims)), (10, .int (a0.dims.length : Int)), (11, .int x1.2)] [(0, ⟨6, [[.int a1.p, .int a1.q.n, .list 1 (List.map eI a1.q.src), .list 1 (List.map eI a1.q.tgt), .list 1 (List.map eI a1.dims), .list 3 (List.map eM a1.maps)]]⟩), (4, ⟨3, List.map (ow eM) (x1.1 ++ [v4])⟩)] 5 [5, 6]) (Ent.trans (ent_absL (b := 4) (b' := 2) (j := 2) (es' := List.map eI v4.cells) k k k k (len_map _ _) (okI.frzs _)) (ent_mk (σ := sg [(0, 0), (4, 4)]) ⟨(pE k k), ⟨_, k, ⟨k, k, (by simp only [len_map, lA, lT, lR, lC, lN]), k⟩⟩, ⟨_, k, ⟨k, k⟩⟩, (e1 k k), (e1 k k), trivial⟩ (hP k k k k <| hX ⟨_, k, k, .inl ⟨app_eq v4 k, okMt.plainO _⟩⟩ k <| trivial) k)) <| rg <| ae (x_add k k) k <| am k k <| an ?_
   refine tn ?_
   obtain rfl := so h
   exact ⟨_, k, (ent_mk (σ := sg [(0, 0), (1, 4)]) ⟨(pE k k), (oE k k), ⟨_, k, ⟨k, k⟩⟩, (e1 k k), (e1 k k), trivial⟩ (hP k k k k <| hB (okMt.plainO _) k k k <| trivial) k)⟩
  ·refine ac_condF k q1 <| ac_exit <| then_exit <| then_exit ?_
   obtain rfl := so h
   exact ⟨_, k, k, (ent_mk (σ := sg [(0, 1)]) ⟨(oE k k), trivial⟩ (hB (okMt.plainO _) k k k <| trivial) k)⟩
 ·rintro e t ⟨rfl, hent⟩
  refine block_here <| tn <| ac_ent hent <| sQ <| rg <| am k k <| aa k k <| an <| tn <| ac_ret ?_
  obtain rfl := so h
  exact ret_mk k k k (xz_list (x_f1 okMt k k))

noncomputable def m_impl_flat_L1 (a0 : (List Mt)) (x1 : ((List Int) × Int)) : Option (((List Int) × Int) ⊕ (List Int)) :=
  bif decide (x1.2 < (a0.length : Int)) then
    (Option.bind (atL a0 x1.2) fun v2 =>
    bif decide (x1.1.length + v2.cells.length ≤ 4294967296) then
      (some (.inl ((x1.1 ++ v2.cells), wr (x1.2 + 1))))
    else none)
  else
    (some (.inr x1.1))

noncomputable def m_impl_flat (a0 : (List Mt)) : Option (List Int) :=
  Option.bind (Lp (m_impl_flat_L1 a0) ([], 0)) fun y4 =>
  some (y4)

theorem c_impl_flat (a0 : (List Mt)) (r : (List Int)) (h : m_impl_flat a0 = some r) : HasC Tryz.prog 78 [.list 3 (List.map eM a0)] (.list 1 (List.map eI r)) := by
 refine hasC_mk TT_ok (rvs := [.tmp 2]) (ns := [0, 1, 2, 3, 4]) Tryz.func78 k k Tryz.ntmps78 k k k <| sQ <| rg <| aa k k <| an <| tn <| sQ <| rg <| aa k k <| an ?_
 refine tn <| sQ <| sQ <| rg <| am k k <| ae (lenL TT_ok k k k) k <| am k k <| an <| tn <| ac_block ?_
 obtain ⟨y4, hy4, h⟩ := ob h
 refine ac_Lp (body := (m_impl_flat_L1 a0)) hy4 (fun (x1 : ((List Int) × Int)) => mkS [(3, .own 0 0 x1.1.length), (6, .list 3 (List.map eM a0)), (7, .int (a0.length : Int)), (8, .int x1.2)] [(0, ⟨1, List.map (ow eI) x1.1⟩)] 1 [1, 2, 3, 4]) (fun r e t => e = .exit 0 ∧ Ent t (mkS [(3, .own 0 0 r.length)] [(0, ⟨1, List.map (ow eI) r⟩)] 1 [1, 2, 3, 4])) (ent_mk (σ := sg []) ⟨⟨_, k, ⟨k, k, k, k⟩⟩, ⟨_, k, ⟨k, k⟩⟩, (e1 k k), (e1 k k), trivial⟩ (hX k k <| trivial) k) ?_ ?_
 ·intro x1 o h
  refine sQ <| rg <| ae (w_cmp k k k) k <| an <| tn <| sQ ?_
  rcases cb h with ⟨q1, h⟩ | ⟨q1, h⟩
  ·refine ac_condT k q1 <| ac_skip <| tn <| sQ <| ac_block <| sQ <| rg ?_
   obtain ⟨v2, hv2, h⟩ := ob h
   refine ae (x_at_list TT_ok hv2 k k k k k k) k <| ae (w_load_ref TT_ok k k k k k k) k <| ae (w_alloc TT_ok k k) k <| ae (w_store TT_ok k k k k k k k k) k <| an <| tn <| rg <| am k k <| ae (w_field_ptr TT_ok k k k k k k k) k <| ae (w_load_ptr TT_ok k k k k k k k) k ?_
   obtain ⟨q3, h⟩ := cg h
   refine ae (x_app TT_ok (l := x1.1) (m := v2.cells) okIo q3 k k k k k k k k k k k k) k <| aa k k <| an <| block_n <| tn <| rg <| ae (x_add k k) k <| am k k <| an <| tn ?_
   obtain rfl := so h
   exact ⟨_, k, (ent_mk (σ := sg [(0, 2)]) ⟨(oE k k), ⟨_, k, ⟨k, k⟩⟩, (e1 k k), (e1 k k), trivial⟩ (hI k k k <| trivial) k)⟩
  ·refine ac_condF k q1 <| ac_exit <| then_exit <| then_exit ?_
   obtain rfl := so h
   exact ⟨_, k, k, (ent_mk (σ := sg [(0, 0)]) ⟨(oE k k), trivial⟩ (hI k k k <| trivial) k)⟩
 ·rintro e t ⟨rfl, hent⟩
  refine block_here <| tn <| ac_ent hent <| sQ <| rg <| am k k <| aa k k <| an <| tn <| ac_ret ?_
  obtain rfl := so h
  exact ret_mk k k k (xz_list (x_f1 okI k k))

noncomputable def m_impl_shaped_L1 (a0 : (List Mt)) (x1 : ((List Int) × (List Mt) × Int)) : Option (((List Int) × (List Mt) × Int) ⊕ (List Mt)) :=
  bif decide (x1.2.2 < (a0.length : Int)) then
    (Option.bind (atL a0 x1.2.2) fun v2 =>
    bif (decide (0 ≤ 0) && (decide (0 ≤ (v2.cells.length : Int)) && decide ((v2.cells.length : Int) ≤ (x1.1.length : Int)))) then
      (Option.bind (m_Clone ((x1.1.drop (0 : Int).toNat).take ((v2.cells.length : Int).toNat - (0 : Int).toNat))) fun v4 =>
      bif decide (x1.2.1.length + 1 ≤ 4294967296) then
        (bif (decide (0 ≤ (v2.cells.length : Int)) && (decide ((v2.cells.length : Int) ≤ (x1.1.length : Int)) && decide ((x1.1.length : Int) ≤ (x1.1.length : Int)))) then
          (some (.inl (((x1.1.drop (v2.cells.length : Int).toNat).take ((x1.1.length : Int).toNat - (v2.cells.length : Int).toNat)), (x1.2.1 ++ [(⟨v2.rows, v2.cols, v4⟩ : Mt)]), wr (x1.2.2 + 1))))
        else none)
      else none)
    else none)
  else
    (some (.inr x1.2.1))

noncomputable def m_impl_shaped (a0 : (List Mt)) (a1 : (List Int)) : Option (List Mt) :=
  Option.bind (Lp (m_impl_shaped_L1 a0) (a1, [], 0)) fun y7 =>
  some (y7)

theorem c_impl_shaped (a0 : (List Mt)) (a1 : (List Int)) (r : (List Mt)) (h : m_impl_shaped a0 a1 = some r) : HasC Tryz.prog 57 [.list 3 (List.map eM a0), .list 1 (List.map eI a1)] (.list 3 (List.map eM r)) := by
 refine hasC_mk TT_ok (rvs := [.tmp 4]) (ns := [0, 1, 2, 3, 4, 5, 6]) Tryz.func57 k k Tryz.ntmps57 k k k <| sQ <| rg <| aa k k <| an <| tn <| sQ <| rg <| aa k k <| an ?_
 refine tn <| sQ <| sQ <| rg <| am k k <| ae (lenL TT_ok k k k) k <| am k k <| an <| tn <| ac_block ?_
 obtain ⟨y7, hy7, h⟩ := ob h
 refine ac_Lp (body := (m_impl_shaped_L1 a0)) hy7 (fun (x1 : ((List Int) × (List Mt) × Int)) => mkS [(1, .list 1 (List.map eI x1.1)), (5, .own 0 0 x1.2.1.length), (9, .list 3 (List.map eM a0)), (10, .int (a0.length : Int)), (11, .int x1.2.2)] [(0, ⟨3, List.map (ow eM) x1.2.1⟩)] 1 [1, 2, 3, 4, 5, 6]) (fun r e t => e = .exit 0 ∧ Ent t (mkS [(5, .own 0 0 r.length)] [(0, ⟨3, List.map (ow eM) r⟩)] 1 [1, 2, 3, 4, 5, 6])) (ent_mk (σ := sg []) ⟨⟨_, k, ⟨k, k⟩⟩, ⟨_, k, ⟨k, k, k, k⟩⟩, ⟨_, k, ⟨k, k⟩⟩, (e1 k k), (e1 k k), trivial⟩ (hX k k <| trivial) k) ?_ ?_
 ·intro x1 o h
  refine sQ <| rg <| ae (w_cmp k k k) k <| an <| tn <| sQ ?_
  rcases cb h with ⟨q1, h⟩ | ⟨q1, h⟩
  ·refine ac_condT k q1 <| ac_skip <| tn <| sQ <| ac_block <| sQ <| rg ?_
   obtain ⟨v2, hv2, h⟩ := ob h
   refine ae (x_at_list TT_ok hv2 k k k k k k) k <| ae (w_load_ref TT_ok k k k k k k) k <| ae (w_alloc TT_ok k k) k <| ae (w_store TT_ok k k k k k k k k) k <| an <| tn <| sQ <| rg <| ae (w_field_ptr TT_ok k k k k k k k) k <| ae (w_load_ptr TT_ok k k k k k k k) k ?_
   refine ae (lenL TT_ok k k k) k <| aa k k <| an <| tn <| sQ <| ac_region_draw MIXX <| am k k <| ae (w_field_ptr TT_ok k k k k k k k) k <| ae (w_load_ptr TT_ok k k k k k k k) k <| ae (w_field_ptr TT_ok k k k k k k k) k ?_
   refine ae (w_load_ptr TT_ok k k k k k k k) k <| am k k <| am k k ?_
   obtain ⟨q3, h⟩ := cg h
   refine ae (x_slice_list TT_ok (l0 := x1.1) (l := 0) (h := (v2.cells.length : Int)) q3 k k k k k k k) k ?_
   obtain ⟨v4, hv4, h⟩ := ob h
   refine ae (AEff.conv (w_call0 (x := .own 2 0 (List.map eI v4).length) (nb := [(2, ⟨1, absEs (List.map eI v4)⟩)]) (c_Clone ((x1.1.drop (0 : Int).toNat).take ((v2.cells.length : Int).toNat - (0 : Int).toNat)) v4 hv4) k (by rfl) k k (okI.good _) (va_cons (va_same k) va_nil)) (v' := .own 2 0 v4.length) (ed' := [(2, some ⟨1, List.map (ow eI) v4⟩)]) (by simp only [len_map]) (ed_ok (nb' := [(2, ⟨1, List.map (ow eI) v4⟩)]) (by simp only [abs_map]))) k <| ae (w_build TT_ok k k k k k k) k <| ae (w_lit TT_ok k k k k k k k k k k k k) k ?_
   obtain ⟨q5, h⟩ := cg h
   refine ae (x_app1 TT_ok (l := x1.2.1) (c := [.int v2.rows, .int v2.cols, .own 2 0 v4.length]) q5 k k k k k k k k k k k k k k) k <| aa k k <| an ?_
   refine ⟨by kernel_rfl, ?_⟩
   refine tn <| ac_ent (t := mkS [(1, .list 1 (List.map eI x1.1)), (5, .own 4 0 ((x1.2.1 ++ [(⟨v2.rows, v2.cols, v4⟩ : Mt)]).length)), (8, .int (v2.cells.length : Int)), (9, .list 3 (List.map eM a0)), (10, .int (a0.length : Int)), (11, .int x1.2.2)] [(4, ⟨3, List.map (ow eM) (x1.2.1 ++ [(⟨v2.rows, v2.cols, v4⟩ : Mt)])⟩)] 5 [5, 6]) (Ent.trans (ent_absL (b := 4) (b' := 2) (j := 2) (es' := List.map eI v4) k k k k (len_map _ _) (okI.frzs _)) (ent_mk (σ := sg [(4, 4)]) ⟨⟨_, k, ⟨k, k⟩⟩, ⟨_, k, ⟨k, k, (by simp only [len_map, lA, lT, lR, lC, lN]), k⟩⟩, (e1 k k), ⟨_, k, ⟨k, k⟩⟩, (e1 k k), (e1 k k), trivial⟩ (hX ⟨_, k, k, .inl ⟨app_eq (⟨v2.rows, v2.cols, v4⟩ : Mt) k, okMt.plainO _⟩⟩ k <| trivial) k)) <| rg <| am k k <| am k k ?_
   obtain ⟨q6, h⟩ := cg h
   refine ae (x_slice_list TT_ok (l0 := x1.1) (l := (v2.cells.length : Int)) (h := (x1.1.length : Int)) q6 k k k k k k k) k <| aa k k <| an <| block_n <| tn <| rg <| ae (x_add k k) k <| am k k <| an <| tn ?_
   obtain rfl := so h
   exact ⟨_, k, (ent_mk (σ := sg [(0, 4)]) ⟨⟨_, k, ⟨k, k⟩⟩, (oE k k), ⟨_, k, ⟨k, k⟩⟩, (e1 k k), (e1 k k), trivial⟩ (hB (okMt.plainO _) k k k <| trivial) k)⟩
  ·refine ac_condF k q1 <| ac_exit <| then_exit <| then_exit ?_
   obtain rfl := so h
   exact ⟨_, k, k, (ent_mk (σ := sg [(0, 0)]) ⟨(oE k k), trivial⟩ (hB (okMt.plainO _) k k k <| trivial) k)⟩
 ·rintro e t ⟨rfl, hent⟩
  refine block_here <| tn <| ac_ent hent <| sQ <| rg <| am k k <| aa k k <| an <| tn <| ac_ret ?_
  obtain rfl := so h
  exact ret_mk k k k (xz_list (x_f1 okMt k k))

noncomputable def m_impl_plus (a0 : Int) (a1 : Mt) (a2 : Int) (a3 : Mt) : Option Mt :=
  Option.bind (m_impl_Matrix_clone a1) fun v1 =>
  Option.bind (m_impl_addMultiple a0 v1.cells 0 v1.cells.length a2 a3.cells) fun v2 =>
  bif decide (v2.length = v1.cells.length) then
    (some ((⟨v1.rows, v1.cols, v2⟩ : Mt)))
  else none

theorem c_impl_plus (a0 : Int) (a1 : Mt) (a2 : Int) (a3 : Mt) (r : Mt) (h : m_impl_plus a0 a1 a2 a3 = some r) : HasC Tryz.prog 96 [.int a0, .agg (eM a1), .int a2, .agg (eM a3)] (.agg (eM r)) := by
 refine hasC_mk TT_ok (rvs := [.cell 8 71]) (ns := [0, 1, 2, 3, 4, 5, 6]) Tryz.func96 k k Tryz.ntmps96 k k k <| sQ <| rg <| ae (w_box k k k k) k <| ae (w_box k k k k) k <| ae (w_alloc TT_ok k k) k <| an <| tn <| sQ <| rg ?_
 refine ae (w_load_ptr TT_ok k k k k k k k) k ?_
 obtain ⟨v1, hv1, h⟩ := ob h
 refine ae (AEff.conv (w_call0 (x := .agg [.int v1.rows, .int v1.cols, .own 3 0 (List.map eI v1.cells).length]) (nb := [(3, ⟨1, absEs (List.map eI v1.cells)⟩)]) (c_impl_Matrix_clone a1 v1 hv1) k (by rfl) k k (g1_cons trivial (g1_cons trivial (g1_cons (okI.good _) g1_nil))) (va_cons (va_agg' (v1_cons (v1_same k) (v1_cons (v1_same k) (v1_cons (v1_same k) v1_nil)))) va_nil)) (v' := .agg [.int v1.rows, .int v1.cols, .own 3 0 v1.cells.length]) (ed' := [(3, some ⟨1, List.map (ow eI) v1.cells⟩)]) (by simp only [len_map]) (ed_ok (nb' := [(3, ⟨1, List.map (ow eI) v1.cells⟩)]) (by simp only [abs_map]))) k <| ae (w_alloc TT_ok k k) k <| ae (w_store TT_ok k k k k k k k k) k <| an <| tn <| sQ <| rg <| am k k <| ae (w_field_ptr TT_ok k k k k k k k) k <| ae (w_load_ptr TT_ok k k k k k k k) k ?_
 refine am k k <| ae (w_field_ptr TT_ok k k k k k k k) k <| ae (w_load_ptr TT_ok k k k k k k k) k ?_
 obtain ⟨v2, hv2, h⟩ := ob h
 refine ae (eff_hasE (σ := sg [(0, 3)]) (σ' := sg [(3, 0)]) (touch := [3]) (news := []) (hl2 := [(3, ⟨1, List.map (ow eI) v2⟩)]) (n' := 5) (r2 := .own 3 0 v1.cells.length) (c_impl_addMultiple a0 v1.cells 0 v1.cells.length a2 a3.cells v2 hv2) k k ⟨_, _, k, k, ⟨_, _, k, ⟨k, k, k, k⟩, ⟨_, _, k, k, ⟨_, _, k, ⟨k, k⟩, k⟩⟩⟩⟩ ⟨⟨_, k, k, .inl ⟨k, okI.plainO _⟩⟩, k, trivial⟩ k k k ⟨⟨_, k, k, .inl ⟨k, okI.plainO _⟩⟩, k, trivial⟩ k ⟨k, k, (by simp only [len_map, lA, lT, lR, lC, lN]), k⟩ k ⟨k, okI.tame _ _, trivial⟩ k k) k ?_
 obtain ⟨q3, h⟩ := cg h
 refine an <| tn <| ac_ent (t := mkS [(8, .ptr 2 0 0), (9, .ptr 4 0 0)] [(2, ⟨3, [[.int 0, .int 0, .nil 1]]⟩), (3, ⟨1, List.map (ow eI) v2⟩), (4, ⟨3, [[.int v1.rows, .int v1.cols, .own 3 0 v2.length]]⟩)] 5 [5, 6]) (ent_mk (σ := sg [(2, 2), (3, 3), (4, 4)]) ⟨(pE k k), (pE k k), trivial⟩ (hP k k k k <| hI k k k <| hX ⟨_, k, k, .inr ⟨_, _, k, ⟨_, _, k, k, ⟨_, _, k, k, ⟨_, _, k, ⟨k, k, (by simp only [len_map, lA, lT, lR, lC, lN, of_decide_eq_true q3]), k⟩, k⟩⟩⟩, k⟩⟩ k <| trivial) k) <| sQ <| rg <| ae (w_load_ptr TT_ok k k k k k k k) k <| ae (w_store TT_ok k k k k k k k k) k <| an <| tn <| ac_ret ?_
 obtain rfl := so h
 exact ret_mk k k k (xz_agg (x1_cons (k) (x1_cons (k) (x1_cons (x_f1 okI k k) x1_nil))))

noncomputable def m_impl_coboundary_L1 (a0 : Rp) (a1 : Rp) (a2 : (List Mt)) (x1 : ((List Mt) × Int)) : Option (((List Mt) × Int) ⊕ (List Mt)) :=
  bif decide (x1.2 < (a0.q.src.length : Int)) then
    (Option.bind (atL a0.q.src x1.2) fun v2 =>
    Option.bind (atL a1.maps x1.2) fun v3 =>
    Option.bind (atL a2 v2) fun v4 =>
    Option.bind (m_impl_times a0.p v3 v4) fun v5 =>
    Option.bind (atL a0.q.tgt x1.2) fun v6 =>
    Option.bind (atL a2 v6) fun v7 =>
    Option.bind (atL a0.maps x1.2) fun v8 =>
    Option.bind (m_impl_times a0.p v7 v8) fun v9 =>
    Option.bind (m_impl_plus a0.p v5 (wr (a0.p - 1)) v9) fun v10 =>
    bif decide (x1.1.length + 1 ≤ 4294967296) then
      (some (.inl ((x1.1 ++ [v10]), wr (x1.2 + 1))))
    else none)
  else
    (some (.inr x1.1))

noncomputable def m_impl_coboundary (a0 : Rp) (a1 : Rp) (a2 : (List Mt)) : Option (List Mt) :=
  Option.bind (Lp (m_impl_coboundary_L1 a0 a1 a2) ([], 0)) fun y12 =>
  some (y12)

theorem c_impl_coboundary (a0 : Rp) (a1 : Rp) (a2 : (List Mt)) (r : (List Mt)) (h : m_impl_coboundary a0 a1 a2 = some r) : HasC Tryz.prog 79 [.agg (eR a0), .agg (eR a1), .list 3 (List.map eM a2)] (.list 3 (List.map eM r)) := by
 refine hasC_mk TT_ok (rvs := [.tmp 6]) (ns := [0, 1, 2, 3, 4, 5, 6, 7, 8, 9, 10]) Tryz.func79 k k Tryz.ntmps79 k k k <| sQ <| rg <| ae (w_box k k k k) k <| ae (w_box k k k k) k <| aa k k <| an <| tn <| sQ <| rg ?_
 refine aa k k <| an <| tn <| sQ <| sQ <| rg <| ae (w_field_ptr TT_ok k k k k k k k) k <| ae (w_field_ptr TT_ok k k k k k k k) k <| ae (w_load_ptr TT_ok k k k k k k k) k <| ae (lenL TT_ok k k k) k ?_
 refine am k k <| an <| tn <| ac_block ?_
 obtain ⟨y12, hy12, h⟩ := ob h
 refine ac_Lp (body := (m_impl_coboundary_L1 a0 a1 a2)) hy12 (fun (x1 : ((List Mt) × Int)) => mkS [(2, .list 3 (List.map eM a2)), (3, .ptr 0 0 0), (4, .ptr 1 0 0), (7, .own 2 0 x1.1.length), (13, .list 1 (List.map eI a0.q.src)), (14, .int (a0.q.src.length : Int)), (15, .int x1.2)] [(0, ⟨6, [[.int a0.p, .int a0.q.n, .list 1 (List.map eI a0.q.src), .list 1 (List.map eI a0.q.tgt), .list 1 (List.map eI a0.dims), .list 3 (List.map eM a0.maps)]]⟩), (1, ⟨6, [[.int a1.p, .int a1.q.n, .list 1 (List.map eI a1.q.src), .list 1 (List.map eI a1.q.tgt), .list 1 (List.map eI a1.dims), .list 3 (List.map eM a1.maps)]]⟩), (2, ⟨3, List.map (ow eM) x1.1⟩)] 3 [3, 4, 5, 6, 7, 8, 9, 10]) (fun r e t => e = .exit 0 ∧ Ent t (mkS [(7, .own 0 0 r.length)] [(0, ⟨3, List.map (ow eM) r⟩)] 1 [1, 2, 3, 4, 5, 6, 7, 8, 9, 10])) (ent_mk (σ := sg [(0, 0), (1, 1)]) ⟨⟨_, k, ⟨k, k⟩⟩, (pE k k), (pE k k), ⟨_, k, ⟨k, k, k, k⟩⟩, ⟨_, k, ⟨k, k⟩⟩, (e1 k k), (e1 k k), trivial⟩ (hP k k k k <| hP k k k k <| hX k k <| trivial) k) ?_ ?_
 ·intro x1 o h
  refine sQ <| rg <| ae (w_cmp k k k) k <| an <| tn <| sQ ?_
  rcases cb h with ⟨q1, h⟩ | ⟨q1, h⟩
  ·refine ac_condT k q1 <| ac_skip <| tn <| sQ <| ac_block <| sQ <| rg <| am k k ?_
   obtain ⟨v2, hv2, h⟩ := ob h
   refine ae (x_at_list TT_ok hv2 k k k k k k) k <| ae (w_load_ref TT_ok k k k k k k) k <| aa k k <| aa k k <| an <| tn <| sQ <| ac_region_draw MIXX <| ae (w_field_ptr TT_ok k k k k k k k) k <| ae (w_load_ptr TT_ok k k k k k k k) k ?_
   refine ae (w_field_ptr TT_ok k k k k k k k) k <| ae (w_load_ptr TT_ok k k k k k k k) k <| am k k ?_
   obtain ⟨v3, hv3, h⟩ := ob h
   refine ae (x_at_list TT_ok hv3 k k k k k k) k <| ae (w_load_ref TT_ok k k k k k k) k <| am k k <| am k k ?_
   obtain ⟨v4, hv4, h⟩ := ob h
   refine ae (x_at_list TT_ok hv4 k k k k k k) k <| ae (w_load_ref TT_ok k k k k k k) k ?_
   obtain ⟨v5, hv5, h⟩ := ob h
   refine ae (AEff.conv (w_call0 (x := .agg [.int v5.rows, .int v5.cols, .own 3 0 (List.map eI v5.cells).length]) (nb := [(3, ⟨1, absEs (List.map eI v5.cells)⟩)]) (c_impl_times a0.p v3 v4 v5 hv5) k (by rfl) k k (g1_cons trivial (g1_cons trivial (g1_cons (okI.good _) g1_nil))) (va_cons (va_same k) (va_cons (va_agg' (v1_cons (v1_same k) (v1_cons (v1_same k) (v1_cons (v1_same k) v1_nil)))) (va_cons (va_agg' (v1_cons (v1_same k) (v1_cons (v1_same k) (v1_cons (v1_same k) v1_nil)))) va_nil)))) (v' := .agg [.int v5.rows, .int v5.cols, .own 3 0 v5.cells.length]) (ed' := [(3, some ⟨1, List.map (ow eI) v5.cells⟩)]) (by simp only [len_map]) (ed_ok (nb' := [(3, ⟨1, List.map (ow eI) v5.cells⟩)]) (by simp only [abs_map]))) k <| ae (w_alloc TT_ok k k) k <| ae (w_store TT_ok k k k k k k k k) k <| an ?_
   refine ⟨by kernel_rfl, ?_⟩
   refine tn <| ac_ent (t := mkS [(2, .list 3 (List.map eM a2)), (3, .ptr 0 0 0), (4, .ptr 1 0 0), (7, .own 2 0 x1.1.length), (8, .int x1.2), (10, .ptr 4 0 0), (13, .list 1 (List.map eI a0.q.src)), (14, .int (a0.q.src.length : Int)), (15, .int x1.2)] [(0, ⟨6, [[.int a0.p, .int a0.q.n, .list 1 (List.map eI a0.q.src), .list 1 (List.map eI a0.q.tgt), .list 1 (List.map eI a0.dims), .list 3 (List.map eM a0.maps)]]⟩), (1, ⟨6, [[.int a1.p, .int a1.q.n, .list 1 (List.map eI a1.q.src), .list 1 (List.map eI a1.q.tgt), .list 1 (List.map eI a1.dims), .list 3 (List.map eM a1.maps)]]⟩), (2, ⟨3, List.map (ow eM) x1.1⟩), (3, ⟨1, List.map (ow eI) v5.cells⟩), (4, ⟨3, [[.int v5.rows, .int v5.cols, .own 3 0 v5.cells.length]]⟩)] 5 [5, 6, 7, 8, 9, 10]) (ent_mk (σ := sg [(0, 0), (1, 1), (2, 2), (3, 3), (4, 4)]) ⟨⟨_, k, ⟨k, k⟩⟩, (pE k k), (pE k k), (oE k k), (e1 k k), (pE k k), ⟨_, k, ⟨k, k⟩⟩, (e1 k k), (e1 k k), trivial⟩ (hP k k k k <| hP k k k k <| hB (okMt.plainO _) k k k <| hI k k k <| hX ⟨_, k, k, .inr ⟨_, _, k, ⟨_, _, k, k, ⟨_, _, k, k, ⟨_, _, k, ⟨k, k, k, k⟩, k⟩⟩⟩, k⟩⟩ k <| trivial) k) <| ac_region_draw MIXX <| am k k <| ae (w_field_ptr TT_ok k k k k k k k) k <| ae (w_load_ptr TT_ok k k k k k k k) k <| ae (w_load_ptr TT_ok k k k k k k k) k <| ae (w_field_ptr TT_ok k k k k k k k) k <| ae (w_load_ptr TT_ok k k k k k k k) k <| ae (x_sub k k) k ?_
   refine ae (w_field_ptr TT_ok k k k k k k k) k <| ae (w_load_ptr TT_ok k k k k k k k) k <| am k k <| ae (w_field_ptr TT_ok k k k k k k k) k <| ae (w_field_ptr TT_ok k k k k k k k) k <| ae (w_load_ptr TT_ok k k k k k k k) k <| am k k ?_
   obtain ⟨v6, hv6, h⟩ := ob h
   refine ae (x_at_list TT_ok hv6 k k k k k k) k <| ae (w_load_ref TT_ok k k k k k k) k ?_
   obtain ⟨v7, hv7, h⟩ := ob h
   refine ae (x_at_list TT_ok hv7 k k k k k k) k <| ae (w_load_ref TT_ok k k k k k k) k <| ae (w_field_ptr TT_ok k k k k k k k) k <| ae (w_load_ptr TT_ok k k k k k k k) k <| am k k ?_
   obtain ⟨v8, hv8, h⟩ := ob h
   refine ae (x_at_list TT_ok hv8 k k k k k k) k <| ae (w_load_ref TT_ok k k k k k k) k ?_
   obtain ⟨v9, hv9, h⟩ := ob h
   refine ae (AEff.conv (w_call0 (x := .agg [.int v9.rows, .int v9.cols, .own 5 0 (List.map eI v9.cells).length]) (nb := [(5, ⟨1, absEs (List.map eI v9.cells)⟩)]) (c_impl_times a0.p v7 v8 v9 hv9) k (by rfl) k k (g1_cons trivial (g1_cons trivial (g1_cons (okI.good _) g1_nil))) (va_cons (va_same k) (va_cons (va_agg' (v1_cons (v1_same k) (v1_cons (v1_same k) (v1_cons (v1_same k) v1_nil)))) (va_cons (va_agg' (v1_cons (v1_same k) (v1_cons (v1_same k) (v1_cons (v1_same k) v1_nil)))) va_nil)))) (v' := .agg [.int v9.rows, .int v9.cols, .own 5 0 v9.cells.length]) (ed' := [(5, some ⟨1, List.map (ow eI) v9.cells⟩)]) (by simp only [len_map]) (ed_ok (nb' := [(5, ⟨1, List.map (ow eI) v9.cells⟩)]) (by simp only [abs_map]))) k ?_
   obtain ⟨v10, hv10, h⟩ := ob h
   refine ae (AEff.conv (w_call0 (x := .agg [.int v10.rows, .int v10.cols, .own 6 0 (List.map eI v10.cells).length]) (nb := [(6, ⟨1, absEs (List.map eI v10.cells)⟩)]) (c_impl_plus a0.p v5 (wr (a0.p - 1)) v9 v10 hv10) k (by rfl) k k (g1_cons trivial (g1_cons trivial (g1_cons (okI.good _) g1_nil))) (va_cons (va_same k) (va_cons (va_agg' (v1_cons (v1_same k) (v1_cons (v1_same k) (v1_cons (v1_T okI k k) v1_nil)))) (va_cons (va_same k) (va_cons (va_agg' (v1_cons (v1_same k) (v1_cons (v1_same k) (v1_cons (v1_T okI k k) v1_nil)))) va_nil))))) (v' := .agg [.int v10.rows, .int v10.cols, .own 6 0 v10.cells.length]) (ed' := [(6, some ⟨1, List.map (ow eI) v10.cells⟩)]) (by simp only [len_map]) (ed_ok (nb' := [(6, ⟨1, List.map (ow eI) v10.cells⟩)]) (by simp only [abs_map]))) k <| ae (w_lit TT_ok k k k k k k k k k k k k) k ?_
   obtain ⟨q11, h⟩ := cg h
   refine ae (x_app1 TT_ok (l := x1.1) (c := [.int v10.rows, .int v10.cols, .own 6 0 v10.cells.length]) q11 k k k k k k k k k k k k k k) k <| aa k k <| an ?_
   refine ⟨by kernel_rfl, ?_⟩
   refine block_n <| tn <| ac_ent (t := mkS [(2, .list 3 (List.map eM a2)), (3, .ptr 0 0 0), (4, .ptr 1 0 0), (7, .own 8 0 ((x1.1 ++ [v10]).length)), (13, .list 1 (List.map eI a0.q.src)), (14, .int (a0.q.src.length : Int)), (15, .int x1.2)] [(0, ⟨6, [[.int a0.p, .int a0.q.n, .list 1 (List.map eI a0.q.src), .list 1 (List.map eI a0.q.tgt), .list 1 (List.map eI a0.dims), .list 3 (List.map eM a0.maps)]]⟩), (1, ⟨6, [[.int a1.p, .int a1.q.n, .list 1 (List.map eI a1.q.src), .list 1 (List.map eI a1.q.tgt), .list 1 (List.map eI a1.dims), .list 3 (List.map eM a1.maps)]]⟩), (8, ⟨3, List.map (ow eM) (x1.1 ++ [v10])⟩)] 9 [9, 10]) (Ent.trans (ent_absL (b := 8) (b' := 6) (j := 2) (es' := List.map eI v10.cells) k k k k (len_map _ _) (okI.frzs _)) (ent_mk (σ := sg [(0, 0), (1, 1), (8, 8)]) ⟨⟨_, k, ⟨k, k⟩⟩, (pE k k), (pE k k), ⟨_, k, ⟨k, k, (by simp only [len_map, lA, lT, lR, lC, lN]), k⟩⟩, ⟨_, k, ⟨k, k⟩⟩, (e1 k k), (e1 k k), trivial⟩ (hP k k k k <| hP k k k k <| hX ⟨_, k, k, .inl ⟨app_eq v10 k, okMt.plainO _⟩⟩ k <| trivial) k)) <| rg <| ae (x_add k k) k <| am k k <| an <| tn ?_
   obtain rfl := so h
   exact ⟨_, k, (ent_mk (σ := sg [(0, 0), (1, 1), (2, 8)]) ⟨⟨_, k, ⟨k, k⟩⟩, (pE k k), (pE k k), (oE k k), ⟨_, k, ⟨k, k⟩⟩, (e1 k k), (e1 k k), trivial⟩ (hP k k k k <| hP k k k k <| hB (okMt.plainO _) k k k <| trivial) k)⟩
  ·refine ac_condF k q1 <| ac_exit <| then_exit <| then_exit ?_
   obtain rfl := so h
   exact ⟨_, k, k, (ent_mk (σ := sg [(0, 2)]) ⟨(oE k k), trivial⟩ (hB (okMt.plainO _) k k k <| trivial) k)⟩
 ·rintro e t ⟨rfl, hent⟩
  refine block_here <| tn <| ac_ent hent <| sQ <| rg <| am k k <| aa k k <| an <| tn <| ac_ret ?_
  obtain rfl := so h
  exact ret_mk k k k (xz_list (x_f1 okMt k k))

noncomputable def m_impl_cocycleZeros_L1 (a0 : Rp) (a1 : Rp) (x1 : ((List Mt) × Int)) : Option (((List Mt) × Int) ⊕ (List Mt)) :=
  bif decide (x1.2 < (a0.q.src.length : Int)) then
    (Option.bind (atL a0.q.src x1.2) fun v2 =>
    Option.bind (atL a0.q.tgt x1.2) fun v3 =>
    Option.bind (atL a1.dims v3) fun v4 =>
    Option.bind (atL a0.dims v2) fun v5 =>
    Option.bind (m_impl_zero v4 v5) fun v6 =>
    bif decide (x1.1.length + 1 ≤ 4294967296) then
      (some (.inl ((x1.1 ++ [v6]), wr (x1.2 + 1))))
    else none)
  else
    (some (.inr x1.1))

noncomputable def m_impl_cocycleZeros (a0 : Rp) (a1 : Rp) : Option (List Mt) :=
  Option.bind (Lp (m_impl_cocycleZeros_L1 a0 a1) ([], 0)) fun y8 =>
  some (y8)

theorem c_impl_cocycleZeros (a0 : Rp) (a1 : Rp) (r : (List Mt)) (h : m_impl_cocycleZeros a0 a1 = some r) : HasC Tryz.prog 58 [.agg (eR a0), .agg (eR a1)] (.list 3 (List.map eM r)) := by
 refine hasC_mk TT_ok (rvs := [.tmp 4]) (ns := [0, 1, 2, 3, 4, 5, 6, 7]) Tryz.func58 k k Tryz.ntmps58 k k k <| sQ <| rg <| ae (w_box k k k k) k <| ae (w_box k k k k) k <| aa k k <| an <| tn <| sQ <| rg ?_
 refine aa k k <| an <| tn <| sQ <| sQ <| rg <| ae (w_field_ptr TT_ok k k k k k k k) k <| ae (w_field_ptr TT_ok k k k k k k k) k <| ae (w_load_ptr TT_ok k k k k k k k) k <| ae (lenL TT_ok k k k) k ?_
 refine am k k <| an <| tn <| ac_block ?_
 obtain ⟨y8, hy8, h⟩ := ob h
 refine ac_Lp (body := (m_impl_cocycleZeros_L1 a0 a1)) hy8 (fun (x1 : ((List Mt) × Int)) => mkS [(2, .ptr 0 0 0), (3, .ptr 1 0 0), (5, .own 2 0 x1.1.length), (10, .list 1 (List.map eI a0.q.src)), (11, .int (a0.q.src.length : Int)), (12, .int x1.2)] [(0, ⟨6, [[.int a0.p, .int a0.q.n, .list 1 (List.map eI a0.q.src), .list 1 (List.map eI a0.q.tgt), .list 1 (List.map eI a0.dims), .list 3 (List.map eM a0.maps)]]⟩), (1, ⟨6, [[.int a1.p, .int a1.q.n, .list 1 (List.map eI a1.q.src), .list 1 (List.map eI a1.q.tgt), .list 1 (List.map eI a1.dims), .list 3 (List.map eM a1.maps)]]⟩), (2, ⟨3, List.map (ow eM) x1.1⟩)] 3 [3, 4, 5, 6, 7]) (fun r e t => e = .exit 0 ∧ Ent t (mkS [(5, .own 0 0 r.length)] [(0, ⟨3, List.map (ow eM) r⟩)] 1 [1, 2, 3, 4, 5, 6, 7])) (ent_mk (σ := sg [(0, 0), (1, 1)]) ⟨(pE k k), (pE k k), ⟨_, k, ⟨k, k, k, k⟩⟩, ⟨_, k, ⟨k, k⟩⟩, (e1 k k), (e1 k k), trivial⟩ (hP k k k k <| hP k k k k <| hX k k <| trivial) k) ?_ ?_
 ·intro x1 o h
  refine sQ <| rg <| ae (w_cmp k k k) k <| an <| tn <| sQ ?_
  rcases cb h with ⟨q1, h⟩ | ⟨q1, h⟩
  ·refine ac_condT k q1 <| ac_skip <| tn <| sQ <| ac_block <| sQ <| rg <| am k k ?_
   obtain ⟨v2, hv2, h⟩ := ob h
   refine ae (x_at_list TT_ok hv2 k k k k k k) k <| ae (w_load_ref TT_ok k k k k k k) k <| aa k k <| aa k k <| an <| tn <| ac_region_draw MIXX <| am k k <| ae (w_field_ptr TT_ok k k k k k k k) k <| ae (w_load_ptr TT_ok k k k k k k k) k ?_
   refine ae (w_field_ptr TT_ok k k k k k k k) k <| ae (w_field_ptr TT_ok k k k k k k k) k <| ae (w_load_ptr TT_ok k k k k k k k) k <| am k k ?_
   obtain ⟨v3, hv3, h⟩ := ob h
   refine ae (x_at_list TT_ok hv3 k k k k k k) k <| ae (w_load_ref TT_ok k k k k k k) k ?_
   obtain ⟨v4, hv4, h⟩ := ob h
   refine ae (x_at_list TT_ok hv4 k k k k k k) k <| ae (w_load_ref TT_ok k k k k k k) k <| ae (w_field_ptr TT_ok k k k k k k k) k <| ae (w_load_ptr TT_ok k k k k k k k) k <| am k k ?_
   obtain ⟨v5, hv5, h⟩ := ob h
   refine ae (x_at_list TT_ok hv5 k k k k k k) k <| ae (w_load_ref TT_ok k k k k k k) k ?_
   obtain ⟨v6, hv6, h⟩ := ob h
   refine ae (AEff.conv (w_call0 (x := .agg [.int v6.rows, .int v6.cols, .own 3 0 (List.map eI v6.cells).length]) (nb := [(3, ⟨1, absEs (List.map eI v6.cells)⟩)]) (c_impl_zero v4 v5 v6 hv6) k (by rfl) k k (g1_cons trivial (g1_cons trivial (g1_cons (okI.good _) g1_nil))) (va_cons (va_same k) (va_cons (va_same k) va_nil))) (v' := .agg [.int v6.rows, .int v6.cols, .own 3 0 v6.cells.length]) (ed' := [(3, some ⟨1, List.map (ow eI) v6.cells⟩)]) (by simp only [len_map]) (ed_ok (nb' := [(3, ⟨1, List.map (ow eI) v6.cells⟩)]) (by simp only [abs_map]))) k <| ae (w_lit TT_ok k k k k k k k k k k k k) k ?_
   obtain ⟨q7, h⟩ := cg h
   refine ae (x_app1 TT_ok (l := x1.1) (c := [.int v6.rows, .int v6.cols, .own 3 0 v6.cells.length]) q7 k k k k k k k k k k k k k k) k <| aa k k <| an ?_
   refine ⟨by kernel_rfl, ?_⟩
   refine block_n <| tn <| ac_ent (t := mkS [(2, .ptr 0 0 0), (3, .ptr 1 0 0), (5, .own 5 0 ((x1.1 ++ [v6]).length)), (10, .list 1 (List.map eI a0.q.src)), (11, .int (a0.q.src.length : Int)), (12, .int x1.2)] [(0, ⟨6, [[.int a0.p, .int a0.q.n, .list 1 (List.map eI a0.q.src), .list 1 (List.map eI a0.q.tgt), .list 1 (List.map eI a0.dims), .list 3 (List.map eM a0.maps)]]⟩), (1, ⟨6, [[.int a1.p, .int a1.q.n, .list 1 (List.map eI a1.q.src), .list 1 (List.map eI a1.q.tgt), .list 1 (List.map eI a1.dims), .list 3 (List.map eM a1.maps)]]⟩), (5, ⟨3, List.map (ow eM) (x1.1 ++ [v6])⟩)] 6 [6, 7]) (Ent.trans (ent_absL (b := 5) (b' := 3) (j := 2) (es' := List.map eI v6.cells) k k k k (len_map _ _) (okI.frzs _)) (ent_mk (σ := sg [(0, 0), (1, 1), (5, 5)]) ⟨(pE k k), (pE k k), ⟨_, k, ⟨k, k, (by simp only [len_map, lA, lT, lR, lC, lN]), k⟩⟩, ⟨_, k, ⟨k, k⟩⟩, (e1 k k), (e1 k k), trivial⟩ (hP k k k k <| hP k k k k <| hX ⟨_, k, k, .inl ⟨app_eq v6 k, okMt.plainO _⟩⟩ k <| trivial) k)) <| rg <| ae (x_add k k) k <| am k k <| an <| tn ?_
   obtain rfl := so h
   exact ⟨_, k, (ent_mk (σ := sg [(0, 0), (1, 1), (2, 5)]) ⟨(pE k k), (pE k k), (oE k k), ⟨_, k, ⟨k, k⟩⟩, (e1 k k), (e1 k k), trivial⟩ (hP k k k k <| hP k k k k <| hB (okMt.plainO _) k k k <| trivial) k)⟩
  ·refine ac_condF k q1 <| ac_exit <| then_exit <| then_exit ?_
   obtain rfl := so h
   exact ⟨_, k, k, (ent_mk (σ := sg [(0, 2)]) ⟨(oE k k), trivial⟩ (hB (okMt.plainO _) k k k <| trivial) k)⟩
 ·rintro e t ⟨rfl, hent⟩
  refine block_here <| tn <| ac_ent hent <| sQ <| rg <| am k k <| aa k k <| an <| tn <| ac_ret ?_
  obtain rfl := so h
  exact ret_mk k k k (xz_list (x_f1 okMt k k))

noncomputable def m_impl_fromColumns_L2 (v1 : Mt) (v3 : (List Int)) (x1 : ((List Int) × Int)) (x2 : ((List Int) × Int)) : Option (((List Int) × Int) ⊕ (List Int)) :=
  bif decide (x2.2 < (v3.length : Int)) then
    (Option.bind (atL v3 x2.2) fun v5 =>
    Option.bind (atL x2.1 (wr ((wr (x2.2 * v1.cols)) + x1.2))) fun v6 =>
    some (.inl ((x2.1.set ((wr ((wr (x2.2 * v1.cols)) + x1.2)).toNat) v5), wr (x2.2 + 1))))
  else
    (some (.inr x2.1))

noncomputable def m_impl_fromColumns_L1 (a1 : (List (List Int))) (v1 : Mt) (x1 : ((List Int) × Int)) : Option (((List Int) × Int) ⊕ (List Int)) :=
  bif decide (x1.2 < (a1.length : Int)) then
    (Option.bind (atL a1 x1.2) fun v3 =>
    Option.bind (Lp (m_impl_fromColumns_L2 v1 v3 x1) (x1.1, 0)) fun y7 =>
    some (.inl (y7, wr (x1.2 + 1))))
  else
    (some (.inr x1.1))

noncomputable def m_impl_fromColumns (a0 : Int) (a1 : (List (List Int))) : Option Mt :=
  Option.bind (m_impl_zero a0 (a1.length : Int)) fun v1 =>
  Option.bind (Lp (m_impl_fromColumns_L1 a1 v1) (v1.cells, 0)) fun y8 =>
  some ((⟨v1.rows, v1.cols, y8⟩ : Mt))

theorem c_impl_fromColumns (a0 : Int) (a1 : (List (List Int))) (r : Mt) (h : m_impl_fromColumns a0 a1 = some r) : HasC Tryz.prog 54 [.int a0, .list 1 (List.map (eLs 1 eI) a1)] (.agg (eM r)) := by
 refine hasC_mk TT_ok (rvs := [.cell 4 71]) (ns := [0, 1, 2, 3, 4]) Tryz.func54 k k Tryz.ntmps54 k k k <| sQ <| rg <| ae (w_alloc TT_ok k k) k <| an <| tn <| sQ <| rg <| am k k <| am k k ?_
 refine ae (lenL TT_ok k k k) k ?_
 obtain ⟨v1, hv1, h⟩ := ob h
 refine ae (AEff.conv (w_call0 (x := .agg [.int v1.rows, .int v1.cols, .own 1 0 (List.map eI v1.cells).length]) (nb := [(1, ⟨1, absEs (List.map eI v1.cells)⟩)]) (c_impl_zero a0 (a1.length : Int) v1 hv1) k (by rfl) k k (g1_cons trivial (g1_cons trivial (g1_cons (okI.good _) g1_nil))) (va_cons (va_same k) (va_cons (va_same k) va_nil))) (v' := .agg [.int v1.rows, .int v1.cols, .own 1 0 v1.cells.length]) (ed' := [(1, some ⟨1, List.map (ow eI) v1.cells⟩)]) (by simp only [len_map]) (ed_ok (nb' := [(1, ⟨1, List.map (ow eI) v1.cells⟩)]) (by simp only [abs_map]))) k <| ae (w_alloc TT_ok k k) k <| ae (w_store TT_ok k k k k k k k k) k <| an <| tn <| sQ <| sQ <| rg <| am k k <| ae (lenL TT_ok k k k) k ?_
 refine am k k <| an <| tn <| ac_block ?_
 obtain ⟨y8, hy8, h⟩ := ob h
 refine ac_Lp (body := (m_impl_fromColumns_L1 a1 v1)) hy8 (fun (x1 : ((List Int) × Int)) => mkS [(4, .ptr 0 0 0), (5, .ptr 1 0 0), (14, .list 1 (List.map (eLs 1 eI) a1)), (15, .int (a1.length : Int)), (16, .int x1.2)] [(0, ⟨3, [[.int 0, .int 0, .nil 1]]⟩), (1, ⟨3, [[.int v1.rows, .int v1.cols, .own 2 0 x1.1.length]]⟩), (2, ⟨1, List.map (ow eI) x1.1⟩)] 3 [3, 4]) (fun r e t => e = .exit 0 ∧ Ent t (mkS [(4, .ptr 0 0 0), (5, .ptr 1 0 0)] [(0, ⟨3, [[.int 0, .int 0, .nil 1]]⟩), (1, ⟨3, [[.int v1.rows, .int v1.cols, .own 2 0 r.length]]⟩), (2, ⟨1, List.map (ow eI) r⟩)] 3 [3, 4])) (ent_mk (σ := sg [(0, 0), (1, 2), (2, 1)]) ⟨(pE k k), (pE k k), ⟨_, k, ⟨k, k⟩⟩, (e1 k k), (e1 k k), trivial⟩ (hP k k k k <| hX ⟨_, k, k, .inr ⟨_, _, k, ⟨_, _, k, k, ⟨_, _, k, k, ⟨_, _, k, ⟨k, k, k, k⟩, k⟩⟩⟩, k⟩⟩ k <| hI k k k <| trivial) k) ?_ ?_
 ·intro x1 o h
  refine sQ <| rg <| ae (w_cmp k k k) k <| an <| tn <| sQ ?_
  rcases cb h with ⟨q2, h⟩ | ⟨q2, h⟩
  ·refine ac_condT k q2 <| ac_skip <| tn <| sQ <| ac_block <| sQ <| rg <| am k k ?_
   obtain ⟨v3, hv3, h⟩ := ob h
   refine ae (x_at_list TT_ok hv3 k k k k k k) k <| ae (w_load_ref TT_ok k k k k k k) k <| aa k k <| aa k k <| an <| tn <| sQ <| rg <| am k k <| ae (lenL TT_ok k k k) k ?_
   refine am k k <| an <| tn <| ac_block ?_
   obtain ⟨y7, hy7, h⟩ := ob h
   refine ac_Lp (body := (m_impl_fromColumns_L2 v1 v3 x1)) hy7 (fun (x2 : ((List Int) × Int)) => mkS [(4, .ptr 0 0 0), (5, .ptr 1 0 0), (6, .int x1.2), (14, .list 1 (List.map (eLs 1 eI) a1)), (15, .int (a1.length : Int)), (16, .int x1.2), (21, .list 1 (List.map eI v3)), (22, .int (v3.length : Int)), (23, .int x2.2)] [(0, ⟨3, [[.int 0, .int 0, .nil 1]]⟩), (1, ⟨3, [[.int v1.rows, .int v1.cols, .own 2 0 x2.1.length]]⟩), (2, ⟨1, List.map (ow eI) x2.1⟩)] 3 [3, 4]) (fun r e t => e = .exit 2 ∧ Ent t (mkS [(4, .ptr 0 0 0), (5, .ptr 1 0 0), (14, .list 1 (List.map (eLs 1 eI) a1)), (15, .int (a1.length : Int)), (16, .int x1.2)] [(0, ⟨3, [[.int 0, .int 0, .nil 1]]⟩), (1, ⟨3, [[.int v1.rows, .int v1.cols, .own 2 0 r.length]]⟩), (2, ⟨1, List.map (ow eI) r⟩)] 3 [3, 4])) (ent_mk (σ := sg [(0, 0), (1, 1), (2, 2)]) ⟨(pE k k), (pE k k), (e1 k k), ⟨_, k, ⟨k, k⟩⟩, (e1 k k), (e1 k k), ⟨_, k, ⟨k, k⟩⟩, (e1 k k), (e1 k k), trivial⟩ (hP k k k k <| hX ⟨_, k, k, .inr ⟨_, _, k, ⟨_, _, k, k, ⟨_, _, k, k, ⟨_, _, k, ⟨k, k, k, k⟩, k⟩⟩⟩, k⟩⟩ k <| hI k k k <| trivial) k) ?_ ?_
   ·intro x2 o h
    refine sQ <| rg <| ae (w_cmp k k k) k <| an <| tn <| sQ ?_
    rcases cb h with ⟨q4, h⟩ | ⟨q4, h⟩
    ·refine ac_condT k q4 <| ac_skip <| tn <| sQ <| ac_block <| sQ <| rg <| am k k ?_
     obtain ⟨v5, hv5, h⟩ := ob h
     refine ae (x_at_list TT_ok hv5 k k k k k k) k <| ae (w_load_ref TT_ok k k k k k k) k <| aa k k <| aa k k <| an <| tn <| rg <| ae (w_field_ptr TT_ok k k k k k k k) k <| ae (w_load_ptr TT_ok k k k k k k k) k <| am k k ?_
     refine ae (w_field_ptr TT_ok k k k k k k k) k <| ae (w_load_ptr TT_ok k k k k k k k) k <| ae (x_mul k k) k <| am k k <| ae (x_add k k) k <| am k k ?_
     obtain ⟨v6, hv6, h⟩ := ob h
     refine ae (x_at_own TT_ok (atL_nn hv6) (atL_lt hv6) k k k k k k k) k <| ae (x_store TT_ok okIo (u := v5) (atL_get hv6) k k k k k k) k <| an <| block_n <| tn <| ac_ent (t := mkS [(4, .ptr 0 0 0), (5, .ptr 1 0 0), (6, .int x1.2), (14, .list 1 (List.map (eLs 1 eI) a1)), (15, .int (a1.length : Int)), (16, .int x1.2), (21, .list 1 (List.map eI v3)), (22, .int (v3.length : Int)), (23, .int x2.2)] [(0, ⟨3, [[.int 0, .int 0, .nil 1]]⟩), (1, ⟨3, [[.int v1.rows, .int v1.cols, .own 2 0 ((x2.1.set ((wr ((wr (x2.2 * v1.cols)) + x1.2)).toNat) v5).length)]]⟩), (2, ⟨1, List.map (ow eI) (x2.1.set ((wr ((wr (x2.2 * v1.cols)) + x1.2)).toNat) v5)⟩)] 3 [3, 4]) (ent_mk (σ := sg [(0, 0), (1, 1), (2, 2)]) ⟨(pE k k), (pE k k), (e1 k k), ⟨_, k, ⟨k, k⟩⟩, (e1 k k), (e1 k k), ⟨_, k, ⟨k, k⟩⟩, (e1 k k), (e1 k k), trivial⟩ (hP k k k k <| hX ⟨_, k, k, .inr ⟨_, _, k, ⟨_, _, k, k, ⟨_, _, k, k, ⟨_, _, k, ⟨k, k, (by simp only [len_map, lA, lT, lR, lC, lN]), k⟩, k⟩⟩⟩, k⟩⟩ k <| hI k k k <| trivial) k) <| rg <| ae (x_add k k) k <| am k k <| an ?_
     refine tn ?_
     obtain rfl := so h
     exact ⟨_, k, (ent_mk (σ := sg [(0, 0), (1, 1), (2, 2)]) ⟨(pE k k), (pE k k), (e1 k k), ⟨_, k, ⟨k, k⟩⟩, (e1 k k), (e1 k k), ⟨_, k, ⟨k, k⟩⟩, (e1 k k), (e1 k k), trivial⟩ (hP k k k k <| hX ⟨_, k, k, .inr ⟨_, _, k, ⟨_, _, k, k, ⟨_, _, k, k, ⟨_, _, k, ⟨k, k, k, k⟩, k⟩⟩⟩, k⟩⟩ k <| hI k k k <| trivial) k)⟩
    ·refine ac_condF k q4 <| ac_exit <| then_exit <| then_exit ?_
     obtain rfl := so h
     exact ⟨_, k, k, (ent_mk (σ := sg [(0, 0), (1, 1), (2, 2)]) ⟨(pE k k), (pE k k), ⟨_, k, ⟨k, k⟩⟩, (e1 k k), (e1 k k), trivial⟩ (hP k k k k <| hX ⟨_, k, k, .inr ⟨_, _, k, ⟨_, _, k, k, ⟨_, _, k, k, ⟨_, _, k, ⟨k, k, k, k⟩, k⟩⟩⟩, k⟩⟩ k <| hI k k k <| trivial) k)⟩
   ·rintro e t ⟨rfl, hent⟩
    refine block_here <| block_n <| tn <| ac_ent hent <| rg <| ae (x_add k k) k <| am k k <| an <| tn ?_
    obtain rfl := so h
    exact ⟨_, k, (ent_mk (σ := sg [(0, 0), (1, 1), (2, 2)]) ⟨(pE k k), (pE k k), ⟨_, k, ⟨k, k⟩⟩, (e1 k k), (e1 k k), trivial⟩ (hP k k k k <| hX ⟨_, k, k, .inr ⟨_, _, k, ⟨_, _, k, k, ⟨_, _, k, k, ⟨_, _, k, ⟨k, k, k, k⟩, k⟩⟩⟩, k⟩⟩ k <| hI k k k <| trivial) k)⟩
  ·refine ac_condF k q2 <| ac_exit <| then_exit <| then_exit ?_
   obtain rfl := so h
   exact ⟨_, k, k, (ent_mk (σ := sg [(0, 0), (1, 1), (2, 2)]) ⟨(pE k k), (pE k k), trivial⟩ (hP k k k k <| hX ⟨_, k, k, .inr ⟨_, _, k, ⟨_, _, k, k, ⟨_, _, k, k, ⟨_, _, k, ⟨k, k, k, k⟩, k⟩⟩⟩, k⟩⟩ k <| hI k k k <| trivial) k)⟩
 ·rintro e t ⟨rfl, hent⟩
  refine block_here <| tn <| ac_ent hent <| sQ <| rg <| ae (w_load_ptr TT_ok k k k k k k k) k <| ae (w_store TT_ok k k k k k k k k) k <| an <| tn <| ac_ret ?_
  obtain rfl := so h
  exact ret_mk k k k (xz_agg (x1_cons (k) (x1_cons (k) (x1_cons (x_f1 okI k k) x1_nil))))

noncomputable def m_impl_boundaries_L1 (a0 : Rp) (a1 : Rp) (v1 : (List Mt)) (v2 : (List Int)) (x1 : ((List (List Int)) × Int)) : Option (((List (List Int)) × Int) ⊕ (List (List Int))) :=
  bif decide (x1.2 < ((v2.length : Nat) : Int)) then
    (bif (decide (0 ≤ ((v2.length : Nat) : Int)) && decide (((v2.length : Nat) : Int) ≤ 1048576)) then
      (Option.bind (atL (List.replicate (((v2.length : Nat) : Int).toNat) (0 : Int)) x1.2) fun v4 =>
      Option.bind (m_impl_shaped v1 ((List.replicate (((v2.length : Nat) : Int).toNat) (0 : Int)).set x1.2.toNat 1)) fun v5 =>
      Option.bind (m_impl_coboundary a0 a1 v5) fun v6 =>
      Option.bind (m_impl_flat v6) fun v7 =>
      bif decide (x1.1.length + 1 ≤ 4294967296) then
        (some (.inl ((x1.1 ++ [v7]), wr (x1.2 + 1))))
      else none)
    else none)
  else
    (some (.inr x1.1))

noncomputable def m_impl_boundaries (a0 : Rp) (a1 : Rp) : Option Mt :=
  Option.bind (m_impl_zeros a0 a1) fun v1 =>
  Option.bind (m_impl_flat v1) fun v2 =>
  Option.bind (Lp (m_impl_boundaries_L1 a0 a1 v1 v2) ([], 0)) fun y10 =>
  Option.bind (m_impl_cocycleZeros a0 a1) fun v11 =>
  Option.bind (m_impl_flat v11) fun v12 =>
  Option.bind (m_impl_fromColumns ((v12.length : Nat) : Int) y10) fun v13 =>
  some (v13)

theorem c_impl_boundaries (a0 : Rp) (a1 : Rp) (r : Mt) (h : m_impl_boundaries a0 a1 = some r) : HasC Tryz.prog 52 [.agg (eR a0), .agg (eR a1)] (.agg (eM r)) := by
 refine hasC_mk TT_ok (rvs := [.cell 4 71]) (ns := [0, 1, 2, 3, 4, 5, 6, 7, 8, 9, 10, 11, 12]) Tryz.func52 k k Tryz.ntmps52 k k k <| sQ <| rg <| ae (w_box k k k k) k <| ae (w_box k k k k) k <| ae (w_alloc TT_ok k k) k <| an <| tn <| sQ <| rg ?_
 refine ae (w_load_ptr TT_ok k k k k k k k) k <| ae (w_load_ptr TT_ok k k k k k k k) k ?_
 obtain ⟨v1, hv1, h⟩ := ob h
 refine ae (AEff.conv (w_call0 (x := .own 3 0 (List.map eM v1).length) (nb := [(3, ⟨3, absEs (List.map eM v1)⟩)]) (c_impl_zeros a0 a1 v1 hv1) k (by rfl) k k (okMt.good _) (va_cons (va_agg' (v1_cons (v1_same k) (v1_cons (v1_same k) (v1_cons (v1_same k) (v1_cons (v1_same k) (v1_cons (v1_same k) (v1_cons (v1_same k) v1_nil))))))) (va_cons (va_agg' (v1_cons (v1_same k) (v1_cons (v1_same k) (v1_cons (v1_same k) (v1_cons (v1_same k) (v1_cons (v1_same k) (v1_cons (v1_same k) v1_nil))))))) va_nil))) (v' := .own 3 0 v1.length) (ed' := [(3, some ⟨3, List.map (ow eM) v1⟩)]) (by simp only [len_map]) (ed_ok (nb' := [(3, ⟨3, List.map (ow eM) v1⟩)]) (by simp only [abs_map]))) k <| aa k k <| an <| tn <| sQ <| rg <| am k k ?_
 obtain ⟨v2, hv2, h⟩ := ob h
 refine ae (AEff.conv (w_call0 (x := .own 4 0 (List.map eI v2).length) (nb := [(4, ⟨1, absEs (List.map eI v2)⟩)]) (c_impl_flat v1 v2 hv2) k (by rfl) k k (okI.good _) (va_cons (va_T okMt k k) va_nil)) (v' := .own 4 0 v2.length) (ed' := [(4, some ⟨1, List.map (ow eI) v2⟩)]) (by simp only [len_map]) (ed_ok (nb' := [(4, ⟨1, List.map (ow eI) v2⟩)]) (by simp only [abs_map]))) k <| ae (w_len_own TT_ok k k k k) k <| aa k k <| an <| tn <| sQ <| rg <| aa k k <| an <| tn ?_
 refine ac_ent (t := mkS [(2, .ptr 0 0 0), (3, .ptr 1 0 0), (4, .ptr 2 0 0), (5, .own 3 0 v1.length), (6, .int ((v2.length : Nat) : Int)), (7, .nil 0)] [(0, ⟨6, [[.int a0.p, .int a0.q.n, .list 1 (List.map eI a0.q.src), .list 1 (List.map eI a0.q.tgt), .list 1 (List.map eI a0.dims), .list 3 (List.map eM a0.maps)]]⟩), (1, ⟨6, [[.int a1.p, .int a1.q.n, .list 1 (List.map eI a1.q.src), .list 1 (List.map eI a1.q.tgt), .list 1 (List.map eI a1.dims), .list 3 (List.map eM a1.maps)]]⟩), (2, ⟨3, [[.int 0, .int 0, .nil 1]]⟩), (3, ⟨3, List.map (ow eM) v1⟩)] 5 [5, 6, 7, 8, 9, 10, 11, 12]) (ent_mk (σ := sg [(0, 0), (1, 1), (2, 2), (3, 3)]) ⟨(pE k k), (pE k k), (pE k k), (oE k k), (e1 k k), ⟨_, k, trivial⟩, trivial⟩ (hP k k k k <| hP k k k k <| hP k k k k <| hB (okMt.plainO _) k k k <| trivial) k) <| sQ <| sQ <| rg <| am k k <| am k k <| an <| tn <| ac_block ?_
 obtain ⟨y10, hy10, h⟩ := ob h
 refine ac_Lp (body := (m_impl_boundaries_L1 a0 a1 v1 v2)) hy10 (fun (x1 : ((List (List Int)) × Int)) => mkS [(2, .ptr 0 0 0), (3, .ptr 1 0 0), (4, .ptr 2 0 0), (5, .own 3 0 v1.length), (6, .int ((v2.length : Nat) : Int)), (7, .own 4 0 x1.1.length), (16, .int ((v2.length : Nat) : Int)), (17, .int x1.2)] [(0, ⟨6, [[.int a0.p, .int a0.q.n, .list 1 (List.map eI a0.q.src), .list 1 (List.map eI a0.q.tgt), .list 1 (List.map eI a0.dims), .list 3 (List.map eM a0.maps)]]⟩), (1, ⟨6, [[.int a1.p, .int a1.q.n, .list 1 (List.map eI a1.q.src), .list 1 (List.map eI a1.q.tgt), .list 1 (List.map eI a1.dims), .list 3 (List.map eM a1.maps)]]⟩), (2, ⟨3, [[.int 0, .int 0, .nil 1]]⟩), (3, ⟨3, List.map (ow eM) v1⟩), (4, ⟨1, List.map (ow (eLs 1 eI)) x1.1⟩)] 5 [5, 6, 7, 8, 9, 10, 11, 12]) (fun r e t => e = .exit 0 ∧ Ent t (mkS [(2, .ptr 0 0 0), (3, .ptr 1 0 0), (4, .ptr 2 0 0), (7, .own 3 0 r.length)] [(0, ⟨6, [[.int a0.p, .int a0.q.n, .list 1 (List.map eI a0.q.src), .list 1 (List.map eI a0.q.tgt), .list 1 (List.map eI a0.dims), .list 3 (List.map eM a0.maps)]]⟩), (1, ⟨6, [[.int a1.p, .int a1.q.n, .list 1 (List.map eI a1.q.src), .list 1 (List.map eI a1.q.tgt), .list 1 (List.map eI a1.dims), .list 3 (List.map eM a1.maps)]]⟩), (2, ⟨3, [[.int 0, .int 0, .nil 1]]⟩), (3, ⟨1, List.map (ow (eLs 1 eI)) r⟩)] 4 [4, 5, 6, 7, 8, 9, 10, 11, 12])) (ent_mk (σ := sg [(0, 0), (1, 1), (2, 2), (3, 3)]) ⟨(pE k k), (pE k k), (pE k k), (oE k k), (e1 k k), ⟨_, k, ⟨k, k, k, k⟩⟩, (e1 k k), (e1 k k), trivial⟩ (hP k k k k <| hP k k k k <| hP k k k k <| hB (okMt.plainO _) k k k <| hX k k <| trivial) k) ?_ ?_
 ·intro x1 o h
  refine sQ <| rg <| ae (w_cmp k k k) k <| an <| tn <| sQ ?_
  rcases cb h with ⟨q3, h⟩ | ⟨q3, h⟩
  ·refine ac_condT k q3 <| ac_skip <| tn <| sQ <| ac_block <| sQ <| rg <| am k k <| aa k k <| an ?_
   refine tn <| sQ <| rg <| am k k ?_
   obtain ⟨q9, h⟩ := cg h
   refine ae (x_make TT_ok q9 k k k k k k k k) k <| aa k k <| an <| tn <| ac_ent (t := mkS [(2, .ptr 0 0 0), (3, .ptr 1 0 0), (4, .ptr 2 0 0), (5, .own 3 0 v1.length), (6, .int ((v2.length : Nat) : Int)), (7, .own 4 0 x1.1.length), (8, .int x1.2), (9, .own 5 0 ((List.replicate (((v2.length : Nat) : Int).toNat) (0 : Int)).length)), (16, .int ((v2.length : Nat) : Int)), (17, .int x1.2)] [(0, ⟨6, [[.int a0.p, .int a0.q.n, .list 1 (List.map eI a0.q.src), .list 1 (List.map eI a0.q.tgt), .list 1 (List.map eI a0.dims), .list 3 (List.map eM a0.maps)]]⟩), (1, ⟨6, [[.int a1.p, .int a1.q.n, .list 1 (List.map eI a1.q.src), .list 1 (List.map eI a1.q.tgt), .list 1 (List.map eI a1.dims), .list 3 (List.map eM a1.maps)]]⟩), (2, ⟨3, [[.int 0, .int 0, .nil 1]]⟩), (3, ⟨3, List.map (ow eM) v1⟩), (4, ⟨1, List.map (ow (eLs 1 eI)) x1.1⟩), (5, ⟨1, List.map (ow eI) (List.replicate (((v2.length : Nat) : Int).toNat) (0 : Int))⟩)] 6 [6, 7, 8, 9, 10, 11, 12]) (ent_mk (σ := sg [(0, 0), (1, 1), (2, 2), (3, 3), (4, 4), (5, 5)]) ⟨(pE k k), (pE k k), (pE k k), (oE k k), (e1 k k), (oE k k), (e1 k k), ⟨_, k, ⟨k, k, (by simp only [len_map, lA, lT, lR, lC, lN]), k⟩⟩, (e1 k k), (e1 k k), trivial⟩ (hP k k k k <| hP k k k k <| hP k k k k <| hB (okMt.plainO _) k k k <| hB (okLs.plainO _) k k k <| hX ⟨_, k, k, .inl ⟨rep_eq (e := eI) (z := 0) _, okI.plainO _⟩⟩ k <| trivial) k) <| sQ <| rg <| am k k <| am k k ?_
   obtain ⟨v4, hv4, h⟩ := ob h
   refine ae (x_at_own TT_ok (atL_nn hv4) (atL_lt hv4) k k k k k k k) k <| ae (x_store TT_ok okIo (u := 1) (atL_get hv4) k k k k k k) k <| an <| tn <| ac_region_draw MIXX <| am k k <| ae (w_load_ptr TT_ok k k k k k k k) k <| ae (w_load_ptr TT_ok k k k k k k k) k <| am k k <| am k k ?_
   obtain ⟨v5, hv5, h⟩ := ob h
   refine ae (AEff.conv (w_call0 (x := .own 6 0 (List.map eM v5).length) (nb := [(6, ⟨3, absEs (List.map eM v5)⟩)]) (c_impl_shaped v1 ((List.replicate (((v2.length : Nat) : Int).toNat) (0 : Int)).set x1.2.toNat 1) v5 hv5) k (by rfl) k k (okMt.good _) (va_cons (va_T okMt k k) (va_cons (va_T okI k (by first | rfl | simp only [List.length_set])) va_nil))) (v' := .own 6 0 v5.length) (ed' := [(6, some ⟨3, List.map (ow eM) v5⟩)]) (by simp only [len_map]) (ed_ok (nb' := [(6, ⟨3, List.map (ow eM) v5⟩)]) (by simp only [abs_map]))) k ?_
   obtain ⟨v6, hv6, h⟩ := ob h
   refine ae (AEff.conv (w_call0 (x := .own 7 0 (List.map eM v6).length) (nb := [(7, ⟨3, absEs (List.map eM v6)⟩)]) (c_impl_coboundary a0 a1 v5 v6 hv6) k (by rfl) k k (okMt.good _) (va_cons (va_agg' (v1_cons (v1_same k) (v1_cons (v1_same k) (v1_cons (v1_same k) (v1_cons (v1_same k) (v1_cons (v1_same k) (v1_cons (v1_same k) v1_nil))))))) (va_cons (va_agg' (v1_cons (v1_same k) (v1_cons (v1_same k) (v1_cons (v1_same k) (v1_cons (v1_same k) (v1_cons (v1_same k) (v1_cons (v1_same k) v1_nil))))))) (va_cons (va_T okMt k k) va_nil)))) (v' := .own 7 0 v6.length) (ed' := [(7, some ⟨3, List.map (ow eM) v6⟩)]) (by simp only [len_map]) (ed_ok (nb' := [(7, ⟨3, List.map (ow eM) v6⟩)]) (by simp only [abs_map]))) k ?_
   obtain ⟨v7, hv7, h⟩ := ob h
   refine ae (AEff.conv (w_call0 (x := .own 8 0 (List.map eI v7).length) (nb := [(8, ⟨1, absEs (List.map eI v7)⟩)]) (c_impl_flat v6 v7 hv7) k (by rfl) k k (okI.good _) (va_cons (va_T okMt k k) va_nil)) (v' := .own 8 0 v7.length) (ed' := [(8, some ⟨1, List.map (ow eI) v7⟩)]) (by simp only [len_map]) (ed_ok (nb' := [(8, ⟨1, List.map (ow eI) v7⟩)]) (by simp only [abs_map]))) k <| ae (w_lit TT_ok k k k k k k k k k k k k) k ?_
   obtain ⟨q8, h⟩ := cg h
   refine ae (x_app1 TT_ok (l := x1.1) (c := [.own 8 0 v7.length]) q8 k k k k k k k k k k k k k k) k <| aa k k <| an ?_
   refine ⟨by kernel_rfl, ?_⟩
   refine block_n <| tn <| ac_ent (t := mkS [(2, .ptr 0 0 0), (3, .ptr 1 0 0), (4, .ptr 2 0 0), (5, .own 3 0 v1.length), (6, .int ((v2.length : Nat) : Int)), (7, .own 10 0 ((x1.1 ++ [v7]).length)), (16, .int ((v2.length : Nat) : Int)), (17, .int x1.2)] [(0, ⟨6, [[.int a0.p, .int a0.q.n, .list 1 (List.map eI a0.q.src), .list 1 (List.map eI a0.q.tgt), .list 1 (List.map eI a0.dims), .list 3 (List.map eM a0.maps)]]⟩), (1, ⟨6, [[.int a1.p, .int a1.q.n, .list 1 (List.map eI a1.q.src), .list 1 (List.map eI a1.q.tgt), .list 1 (List.map eI a1.dims), .list 3 (List.map eM a1.maps)]]⟩), (2, ⟨3, [[.int 0, .int 0, .nil 1]]⟩), (3, ⟨3, List.map (ow eM) v1⟩), (10, ⟨1, List.map (ow (eLs 1 eI)) (x1.1 ++ [v7])⟩)] 11 [11, 12]) (Ent.trans (ent_absL (b := 10) (b' := 8) (j := 0) (es' := List.map eI v7) k k k k (len_map _ _) (okI.frzs _)) (ent_mk (σ := sg [(0, 0), (1, 1), (2, 2), (3, 3), (10, 10)]) ⟨(pE k k), (pE k k), (pE k k), (oE k k), (e1 k k), ⟨_, k, ⟨k, k, (by simp only [len_map, lA, lT, lR, lC, lN]), k⟩⟩, (e1 k k), (e1 k k), trivial⟩ (hP k k k k <| hP k k k k <| hP k k k k <| hB (okMt.plainO _) k k k <| hX ⟨_, k, k, .inl ⟨app_eq v7 k, okLs.plainO _⟩⟩ k <| trivial) k)) <| rg <| ae (x_add k k) k <| am k k <| an <| tn ?_
   obtain rfl := so h
   exact ⟨_, k, (ent_mk (σ := sg [(0, 0), (1, 1), (2, 2), (3, 3), (4, 10)]) ⟨(pE k k), (pE k k), (pE k k), (oE k k), (e1 k k), (oE k k), (e1 k k), (e1 k k), trivial⟩ (hP k k k k <| hP k k k k <| hP k k k k <| hB (okMt.plainO _) k k k <| hB (okLs.plainO _) k k k <| trivial) k)⟩
  ·refine ac_condF k q3 <| ac_exit <| then_exit <| then_exit ?_
   obtain rfl := so h
   exact ⟨_, k, k, (ent_mk (σ := sg [(0, 0), (1, 1), (2, 2), (3, 4)]) ⟨(pE k k), (pE k k), (pE k k), (oE k k), trivial⟩ (hP k k k k <| hP k k k k <| hP k k k k <| hB (okLs.plainO _) k k k <| trivial) k)⟩
 ·rintro e t ⟨rfl, hent⟩
  refine block_here <| tn <| ac_ent hent <| sQ <| rg <| ae (w_load_ptr TT_ok k k k k k k k) k <| ae (w_load_ptr TT_ok k k k k k k k) k ?_
  obtain ⟨v11, hv11, h⟩ := ob h
  refine ae (AEff.conv (w_call0 (x := .own 4 0 (List.map eM v11).length) (nb := [(4, ⟨3, absEs (List.map eM v11)⟩)]) (c_impl_cocycleZeros a0 a1 v11 hv11) k (by rfl) k k (okMt.good _) (va_cons (va_agg' (v1_cons (v1_same k) (v1_cons (v1_same k) (v1_cons (v1_same k) (v1_cons (v1_same k) (v1_cons (v1_same k) (v1_cons (v1_same k) v1_nil))))))) (va_cons (va_agg' (v1_cons (v1_same k) (v1_cons (v1_same k) (v1_cons (v1_same k) (v1_cons (v1_same k) (v1_cons (v1_same k) (v1_cons (v1_same k) v1_nil))))))) va_nil))) (v' := .own 4 0 v11.length) (ed' := [(4, some ⟨3, List.map (ow eM) v11⟩)]) (by simp only [len_map]) (ed_ok (nb' := [(4, ⟨3, List.map (ow eM) v11⟩)]) (by simp only [abs_map]))) k ?_
  obtain ⟨v12, hv12, h⟩ := ob h
  refine ae (AEff.conv (w_call0 (x := .own 5 0 (List.map eI v12).length) (nb := [(5, ⟨1, absEs (List.map eI v12)⟩)]) (c_impl_flat v11 v12 hv12) k (by rfl) k k (okI.good _) (va_cons (va_T okMt k k) va_nil)) (v' := .own 5 0 v12.length) (ed' := [(5, some ⟨1, List.map (ow eI) v12⟩)]) (by simp only [len_map]) (ed_ok (nb' := [(5, ⟨1, List.map (ow eI) v12⟩)]) (by simp only [abs_map]))) k <| ae (w_len_own TT_ok k k k k) k <| am k k ?_
  obtain ⟨v13, hv13, h⟩ := ob h
  refine ae (AEff.conv (w_call0 (x := .agg [.int v13.rows, .int v13.cols, .own 6 0 (List.map eI v13.cells).length]) (nb := [(6, ⟨1, absEs (List.map eI v13.cells)⟩)]) (c_impl_fromColumns ((v12.length : Nat) : Int) y10 v13 hv13) k (by rfl) k k (g1_cons trivial (g1_cons trivial (g1_cons (okI.good _) g1_nil))) (va_cons (va_same k) (va_cons (va_T okLs k k) va_nil))) (v' := .agg [.int v13.rows, .int v13.cols, .own 6 0 v13.cells.length]) (ed' := [(6, some ⟨1, List.map (ow eI) v13.cells⟩)]) (by simp only [len_map]) (ed_ok (nb' := [(6, ⟨1, List.map (ow eI) v13.cells⟩)]) (by simp only [abs_map]))) k <| ae (w_store TT_ok k k k k k k k k) k <| an <| tn <| ac_ret ?_
  obtain rfl := so h
  exact ret_mk k k k (xz_agg (x1_cons (k) (x1_cons (k) (x1_cons (x_f1 okI k k) x1_nil))))

noncomputable def m_spec_l11At_L1 (a0 : Rp) (a1 : Rp) (a2 : Int) (x1 : (Int × Int)) : Option ((Int × Int) ⊕ Int) :=
  bif decide (x1.2 < a2) then
    (Option.bind (atL a0.dims x1.2) fun v2 =>
    Option.bind (atL a1.dims x1.2) fun v3 =>
    some (.inl (wr (x1.1 + (wr (v2 * v3))), wr (x1.2 + 1))))
  else
    (some (.inr x1.1))

noncomputable def m_spec_l11At (a0 : Rp) (a1 : Rp) (a2 : Int) : Option Int :=
  Option.bind (Lp (m_spec_l11At_L1 a0 a1 a2) (0, 0)) fun y4 =>
  some (y4)

theorem c_spec_l11At (a0 : Rp) (a1 : Rp) (a2 : Int) (r : Int) (h : m_spec_l11At a0 a1 a2 = some r) : HasC Tryz.prog 71 [.agg (eR a0), .agg (eR a1), .int a2] (.int r) := by
 refine hasC_mk TT_ok (rvs := [.tmp 6]) (ns := [0, 1, 2, 3]) Tryz.func71 k k Tryz.ntmps71 k k k <| sQ <| rg <| ae (w_box k k k k) k <| ae (w_box k k k k) k <| aa k k <| an <| tn <| sQ <| rg ?_
 refine aa k k <| an <| tn <| sQ <| sQ <| rg <| aa k k <| an <| tn <| ac_block ?_
 obtain ⟨y4, hy4, h⟩ := ob h
 refine ac_Lp (body := (m_spec_l11At_L1 a0 a1 a2)) hy4 (fun (x1 : (Int × Int)) => mkS [(2, .int a2), (3, .ptr 0 0 0), (4, .ptr 1 0 0), (7, .int x1.1), (8, .int x1.2)] [(0, ⟨6, [[.int a0.p, .int a0.q.n, .list 1 (List.map eI a0.q.src), .list 1 (List.map eI a0.q.tgt), .list 1 (List.map eI a0.dims), .list 3 (List.map eM a0.maps)]]⟩), (1, ⟨6, [[.int a1.p, .int a1.q.n, .list 1 (List.map eI a1.q.src), .list 1 (List.map eI a1.q.tgt), .list 1 (List.map eI a1.dims), .list 3 (List.map eM a1.maps)]]⟩)] 2 [2, 3]) (fun r e t => e = .exit 0 ∧ Ent t (mkS [(7, .int r)] [] 0 [0, 1, 2, 3])) (ent_mk (σ := sg [(0, 0), (1, 1)]) ⟨(e1 k k), (pE k k), (pE k k), (e1 k k), (e1 k k), trivial⟩ (hP k k k k <| hP k k k k <| trivial) k) ?_ ?_
 ·intro x1 o h
  refine sQ <| sQ <| rg <| am k k <| am k k <| ae (w_cmp k k k) k <| an <| tn ?_
  rcases cb h with ⟨q1, h⟩ | ⟨q1, h⟩
  ·refine ac_condT k q1 <| ac_skip <| tn <| sQ <| ac_block <| ac_region_draw MIXX <| am k k <| ae (w_field_ptr TT_ok k k k k k k k) k <| ae (w_load_ptr TT_ok k k k k k k k) k <| am k k ?_
   obtain ⟨v2, hv2, h⟩ := ob h
   refine ae (x_at_list TT_ok hv2 k k k k k k) k <| ae (w_load_ref TT_ok k k k k k k) k <| ae (w_field_ptr TT_ok k k k k k k k) k <| ae (w_load_ptr TT_ok k k k k k k k) k <| am k k ?_
   obtain ⟨v3, hv3, h⟩ := ob h
   refine ae (x_at_list TT_ok hv3 k k k k k k) k <| ae (w_load_ref TT_ok k k k k k k) k <| ae (x_mul k k) k <| ae (x_add k k) k <| aa k k <| an ?_
   refine ⟨by kernel_rfl, ?_⟩
   refine block_n <| tn <| ac_ent (t := mkS [(2, .int a2), (3, .ptr 0 0 0), (4, .ptr 1 0 0), (7, .int (wr (x1.1 + (wr (v2 * v3))))), (8, .int x1.2)] [(0, ⟨6, [[.int a0.p, .int a0.q.n, .list 1 (List.map eI a0.q.src), .list 1 (List.map eI a0.q.tgt), .list 1 (List.map eI a0.dims), .list 3 (List.map eM a0.maps)]]⟩), (1, ⟨6, [[.int a1.p, .int a1.q.n, .list 1 (List.map eI a1.q.src), .list 1 (List.map eI a1.q.tgt), .list 1 (List.map eI a1.dims), .list 3 (List.map eM a1.maps)]]⟩)] 2 [2, 3]) (ent_mk (σ := sg [(0, 0), (1, 1)]) ⟨(e1 k k), (pE k k), (pE k k), (e1 k k), (e1 k k), trivial⟩ (hP k k k k <| hP k k k k <| trivial) k) <| rg <| am k k <| ae (x_add k k) k <| aa k k <| an <| tn ?_
   obtain rfl := so h
   exact ⟨_, k, (ent_mk (σ := sg [(0, 0), (1, 1)]) ⟨(e1 k k), (pE k k), (pE k k), (e1 k k), (e1 k k), trivial⟩ (hP k k k k <| hP k k k k <| trivial) k)⟩
  ·refine ac_condF k q1 <| ac_exit <| then_exit <| then_exit ?_
   obtain rfl := so h
   exact ⟨_, k, k, (ent_mk (σ := sg []) ⟨(e1 k k), trivial⟩ trivial k)⟩
 ·rintro e t ⟨rfl, hent⟩
  refine block_here <| tn <| ac_ent hent <| sQ <| rg <| am k k <| aa k k <| an <| tn <| ac_ret ?_
  obtain rfl := so h
  exact ret_mk k k k (fz_int k)

noncomputable def m_spec_l11Size_L1 (a0 : Rp) (a1 : Rp) (x1 : (Int × Int)) : Option ((Int × Int) ⊕ Int) :=
  bif decide (x1.2 < (a0.dims.length : Int)) then
    (Option.bind (atL a0.dims x1.2) fun v2 =>
    Option.bind (atL a1.dims x1.2) fun v3 =>
    some (.inl (wr (x1.1 + (wr (v2 * v3))), wr (x1.2 + 1))))
  else
    (some (.inr x1.1))

noncomputable def m_spec_l11Size (a0 : Rp) (a1 : Rp) : Option Int :=
  Option.bind (Lp (m_spec_l11Size_L1 a0 a1) (0, 0)) fun y4 =>
  some (y4)

theorem c_spec_l11Size (a0 : Rp) (a1 : Rp) (r : Int) (h : m_spec_l11Size a0 a1 = some r) : HasC Tryz.prog 70 [.agg (eR a0), .agg (eR a1)] (.int r) := by
 refine hasC_mk TT_ok (rvs := [.tmp 4]) (ns := [0, 1, 2, 3]) Tryz.func70 k k Tryz.ntmps70 k k k <| sQ <| rg <| ae (w_box k k k k) k <| ae (w_box k k k k) k <| aa k k <| an <| tn <| sQ <| rg ?_
 refine aa k k <| an <| tn <| sQ <| sQ <| rg <| aa k k <| an <| tn <| ac_block ?_
 obtain ⟨y4, hy4, h⟩ := ob h
 refine ac_Lp (body := (m_spec_l11Size_L1 a0 a1)) hy4 (fun (x1 : (Int × Int)) => mkS [(2, .ptr 0 0 0), (3, .ptr 1 0 0), (5, .int x1.1), (6, .int x1.2)] [(0, ⟨6, [[.int a0.p, .int a0.q.n, .list 1 (List.map eI a0.q.src), .list 1 (List.map eI a0.q.tgt), .list 1 (List.map eI a0.dims), .list 3 (List.map eM a0.maps)]]⟩), (1, ⟨6, [[.int a1.p, .int a1.q.n, .list 1 (List.map eI a1.q.src), .list 1 (List.map eI a1.q.tgt), .list 1 (List.map eI a1.dims), .list 3 (List.map eM a1.maps)]]⟩)] 2 [2, 3]) (fun r e t => e = .exit 0 ∧ Ent t (mkS [(5, .int r)] [] 0 [0, 1, 2, 3])) (ent_mk (σ := sg [(0, 0), (1, 1)]) ⟨(pE k k), (pE k k), (e1 k k), (e1 k k), trivial⟩ (hP k k k k <| hP k k k k <| trivial) k) ?_ ?_
 ·intro x1 o h
  refine sQ <| sQ <| rg <| am k k <| ae (w_field_ptr TT_ok k k k k k k k) k <| ae (w_load_ptr TT_ok k k k k k k k) k <| ae (lenL TT_ok k k k) k <| ae (w_cmp k k k) k <| an <| tn ?_
  rcases cb h with ⟨q1, h⟩ | ⟨q1, h⟩
  ·refine ac_condT k q1 <| ac_skip <| tn <| sQ <| ac_block <| ac_region_draw MIXX <| am k k <| ae (w_field_ptr TT_ok k k k k k k k) k <| ae (w_load_ptr TT_ok k k k k k k k) k <| am k k ?_
   obtain ⟨v2, hv2, h⟩ := ob h
   refine ae (x_at_list TT_ok hv2 k k k k k k) k <| ae (w_load_ref TT_ok k k k k k k) k <| ae (w_field_ptr TT_ok k k k k k k k) k <| ae (w_load_ptr TT_ok k k k k k k k) k <| am k k ?_
   obtain ⟨v3, hv3, h⟩ := ob h
   refine ae (x_at_list TT_ok hv3 k k k k k k) k <| ae (w_load_ref TT_ok k k k k k k) k <| ae (x_mul k k) k <| ae (x_add k k) k <| aa k k <| an ?_
   refine ⟨by kernel_rfl, ?_⟩
   refine block_n <| tn <| ac_ent (t := mkS [(2, .ptr 0 0 0), (3, .ptr 1 0 0), (5, .int (wr (x1.1 + (wr (v2 * v3))))), (6, .int x1.2)] [(0, ⟨6, [[.int a0.p, .int a0.q.n, .list 1 (List.map eI a0.q.src), .list 1 (List.map eI a0.q.tgt), .list 1 (List.map eI a0.dims), .list 3 (List.map eM a0.maps)]]⟩), (1, ⟨6, [[.int a1.p, .int a1.q.n, .list 1 (List.map eI a1.q.src), .list 1 (List.map eI a1.q.tgt), .list 1 (List.map eI a1.dims), .list 3 (List.map eM a1.maps)]]⟩)] 2 [2, 3]) (ent_mk (σ := sg [(0, 0), (1, 1)]) ⟨(pE k k), (pE k k), (e1 k k), (e1 k k), trivial⟩ (hP k k k k <| hP k k k k <| trivial) k) <| rg <| am k k <| ae (x_add k k) k <| aa k k <| an <| tn ?_
   obtain rfl := so h
   exact ⟨_, k, (ent_mk (σ := sg [(0, 0), (1, 1)]) ⟨(pE k k), (pE k k), (e1 k k), (e1 k k), trivial⟩ (hP k k k k <| hP k k k k <| trivial) k)⟩
  ·refine ac_condF k q1 <| ac_exit <| then_exit <| then_exit ?_
   obtain rfl := so h
   exact ⟨_, k, k, (ent_mk (σ := sg []) ⟨(e1 k k), trivial⟩ trivial k)⟩
 ·rintro e t ⟨rfl, hent⟩
  refine block_here <| tn <| ac_ent hent <| sQ <| rg <| am k k <| aa k k <| an <| tn <| ac_ret ?_
  obtain rfl := so h
  exact ret_mk k k k (fz_int k)

noncomputable def m_spec_l11Equations_L4 (a0 : Rp) (a1 : Rp) (v3 : Int) (x1 : (Int × (List Int) × Int)) (x2 : (Int × (List Int) × Int)) (x3 : (Int × (List Int) × Int)) (x4 : ((List Int) × Int)) : Option (((List Int) × Int) ⊕ (List Int)) :=
  Option.bind (atL a1.dims v3) fun v9 =>
  bif decide (x4.2 < v9) then
    (Option.bind (m_spec_l11At a0 a1 v3) fun v11 =>
    Option.bind (atL a0.dims v3) fun v12 =>
    Option.bind (atL x4.1 (wr ((wr (v11 + (wr (x4.2 * v12)))) + x3.2.2))) fun v13 =>
    Option.bind (atL a1.maps x1.2.2) fun v14 =>
    Option.bind (atL a1.dims v3) fun v15 =>
    Option.bind (atL v14.cells (wr ((wr (x2.2.2 * v15)) + x4.2))) fun v16 =>
    Option.bind (m_spec_l2Mod a0.p (wr (v13 + v16))) fun v17 =>
    Option.bind (atL x4.1 (wr ((wr (v11 + (wr (x4.2 * v12)))) + x3.2.2))) fun v18 =>
    some (.inl ((x4.1.set ((wr ((wr (v11 + (wr (x4.2 * v12)))) + x3.2.2)).toNat) v17), wr (x4.2 + 1))))
  else
    (some (.inr x4.1))

noncomputable def m_spec_l11Equations_L5 (a0 : Rp) (a1 : Rp) (v3 : Int) (v4 : Int) (x1 : (Int × (List Int) × Int)) (x2 : (Int × (List Int) × Int)) (x3 : (Int × (List Int) × Int)) (x5 : ((List Int) × Int)) : Option (((List Int) × Int) ⊕ (List Int)) :=
  Option.bind (atL a0.dims v4) fun v20 =>
  bif decide (x5.2 < v20) then
    (Option.bind (m_spec_l11At a0 a1 v4) fun v22 =>
    Option.bind (atL a0.dims v4) fun v23 =>
    Option.bind (atL x5.1 (wr ((wr (v22 + (wr (x2.2.2 * v23)))) + x5.2))) fun v24 =>
    Option.bind (atL a0.maps x1.2.2) fun v25 =>
    Option.bind (atL a0.dims v3) fun v26 =>
    Option.bind (atL v25.cells (wr ((wr (x5.2 * v26)) + x3.2.2))) fun v27 =>
    Option.bind (m_spec_l2Mod a0.p (wr (v24 - v27))) fun v28 =>
    Option.bind (atL x5.1 (wr ((wr (v22 + (wr (x2.2.2 * v23)))) + x5.2))) fun v29 =>
    some (.inl ((x5.1.set ((wr ((wr (v22 + (wr (x2.2.2 * v23)))) + x5.2)).toNat) v28), wr (x5.2 + 1))))
  else
    (some (.inr x5.1))

noncomputable def m_spec_l11Equations_L3 (a0 : Rp) (a1 : Rp) (v1 : Int) (v3 : Int) (v4 : Int) (x1 : (Int × (List Int) × Int)) (x2 : (Int × (List Int) × Int)) (x3 : (Int × (List Int) × Int)) : Option ((Int × (List Int) × Int) ⊕ (Int × (List Int))) :=
  Option.bind (atL a0.dims v3) fun v7 =>
  bif decide (x3.2.2 < v7) then
    (bif (decide (0 ≤ v1) && decide (v1 ≤ 1048576)) then
      (Option.bind (Lp (m_spec_l11Equations_L4 a0 a1 v3 x1 x2 x3) ((List.replicate v1.toNat (0 : Int)), 0)) fun y19 =>
      Option.bind (Lp (m_spec_l11Equations_L5 a0 a1 v3 v4 x1 x2 x3) (y19, 0)) fun y30 =>
      bif decide (x3.2.1.length + y30.length ≤ 4294967296) then
        (some (.inl (wr (x3.1 + 1), (x3.2.1 ++ y30), wr (x3.2.2 + 1))))
      else none)
    else none)
  else
    (some (.inr (x3.1, x3.2.1)))

noncomputable def m_spec_l11Equations_L2 (a0 : Rp) (a1 : Rp) (v1 : Int) (v3 : Int) (v4 : Int) (x1 : (Int × (List Int) × Int)) (x2 : (Int × (List Int) × Int)) : Option ((Int × (List Int) × Int) ⊕ (Int × (List Int))) :=
  Option.bind (atL a1.dims v4) fun v5 =>
  bif decide (x2.2.2 < v5) then
    (Option.bind (Lp (m_spec_l11Equations_L3 a0 a1 v1 v3 v4 x1 x2) (x2.1, x2.2.1, 0)) fun y33 =>
    some (.inl (y33.1, y33.2, wr (x2.2.2 + 1))))
  else
    (some (.inr (x2.1, x2.2.1)))

noncomputable def m_spec_l11Equations_L1 (a0 : Rp) (a1 : Rp) (v1 : Int) (x1 : (Int × (List Int) × Int)) : Option ((Int × (List Int) × Int) ⊕ (Int × (List Int))) :=
  bif decide (x1.2.2 < (a0.maps.length : Int)) then
    (Option.bind (atL a0.q.src x1.2.2) fun v3 =>
    Option.bind (atL a0.q.tgt x1.2.2) fun v4 =>
    Option.bind (Lp (m_spec_l11Equations_L2 a0 a1 v1 v3 v4 x1) (x1.1, x1.2.1, 0)) fun y34 =>
    some (.inl (y34.1, y34.2, wr (x1.2.2 + 1))))
  else
    (some (.inr (x1.1, x1.2.1)))

noncomputable def m_spec_l11Equations (a0 : Rp) (a1 : Rp) : Option Mt :=
  Option.bind (m_spec_l11Size a0 a1) fun v1 =>
  Option.bind (Lp (m_spec_l11Equations_L1 a0 a1 v1) (0, ([] : (List Int)), 0)) fun y35 =>
  some ((⟨y35.1, v1, y35.2⟩ : Mt))

theorem c_spec_l11Equations (a0 : Rp) (a1 : Rp) (r : Mt) (h : m_spec_l11Equations a0 a1 = some r) : HasC Tryz.prog 43 [.agg (eR a0), .agg (eR a1)] (.agg (eM r)) := by
 refine hasC_mk TT_ok (rvs := [.cell 4 71]) (ns := [0, 1, 2, 3, 4, 5, 6, 7, 8]) Tryz.func43 k k Tryz.ntmps43 k k k <| sQ <| rg <| ae (w_box k k k k) k <| ae (w_box k k k k) k <| ae (w_alloc TT_ok k k) k <| an <| tn <| sQ <| rg ?_
 refine ae (w_load_ptr TT_ok k k k k k k k) k <| ae (w_load_ptr TT_ok k k k k k k k) k ?_
 obtain ⟨v1, hv1, h⟩ := ob h
 refine ae (w_call0s (c_spec_l11Size a0 a1 v1 hv1) k (va_cons (va_agg' (v1_cons (v1_same k) (v1_cons (v1_same k) (v1_cons (v1_same k) (v1_cons (v1_same k) (v1_cons (v1_same k) (v1_cons (v1_same k) v1_nil))))))) (va_cons (va_agg' (v1_cons (v1_same k) (v1_cons (v1_same k) (v1_cons (v1_same k) (v1_cons (v1_same k) (v1_cons (v1_same k) (v1_cons (v1_same k) v1_nil))))))) va_nil))) k <| aa k k <| an <| tn <| sQ <| rg <| am k k <| ae (w_lit TT_ok k k k k k k k k k k k k) k <| ae (w_build TT_ok k k k k k k) k <| ae (w_alloc TT_ok k k) k ?_
 refine ae (w_store TT_ok k k k k k k k k) k <| an <| tn <| ac_ent (t := mkS [(2, .ptr 0 0 0), (3, .ptr 1 0 0), (4, .ptr 2 0 0), (5, .int v1), (6, .ptr 4 0 0)] [(0, ⟨6, [[.int a0.p, .int a0.q.n, .list 1 (List.map eI a0.q.src), .list 1 (List.map eI a0.q.tgt), .list 1 (List.map eI a0.dims), .list 3 (List.map eM a0.maps)]]⟩), (1, ⟨6, [[.int a1.p, .int a1.q.n, .list 1 (List.map eI a1.q.src), .list 1 (List.map eI a1.q.tgt), .list 1 (List.map eI a1.dims), .list 3 (List.map eM a1.maps)]]⟩), (2, ⟨3, [[.int 0, .int 0, .nil 1]]⟩), (3, ⟨1, List.map (ow eI) ([] : (List Int))⟩), (4, ⟨3, [[.int 0, .int v1, .own 3 0 (([] : (List Int)).length)]]⟩)] 5 [5, 6, 7, 8]) (ent_mk (σ := sg [(0, 0), (1, 1), (2, 2), (3, 3), (4, 4)]) ⟨(pE k k), (pE k k), (pE k k), (e1 k k), (pE k k), trivial⟩ (hP k k k k <| hP k k k k <| hP k k k k <| hI k k k <| hX ⟨_, k, k, .inr ⟨_, _, k, ⟨_, _, k, k, ⟨_, _, k, k, ⟨_, _, k, ⟨k, k, (by simp only [len_map, lA, lT, lR, lC, lN]), k⟩, k⟩⟩⟩, k⟩⟩ k <| trivial) k) <| sQ <| sQ <| rg <| aa k k <| an <| tn ?_
 refine ac_block ?_
 obtain ⟨y35, hy35, h⟩ := ob h
 refine ac_Lp (body := (m_spec_l11Equations_L1 a0 a1 v1)) hy35 (fun (x1 : (Int × (List Int) × Int)) => mkS [(2, .ptr 0 0 0), (3, .ptr 1 0 0), (4, .ptr 2 0 0), (5, .int v1), (6, .ptr 3 0 0), (7, .int x1.2.2)] [(0, ⟨6, [[.int a0.p, .int a0.q.n, .list 1 (List.map eI a0.q.src), .list 1 (List.map eI a0.q.tgt), .list 1 (List.map eI a0.dims), .list 3 (List.map eM a0.maps)]]⟩), (1, ⟨6, [[.int a1.p, .int a1.q.n, .list 1 (List.map eI a1.q.src), .list 1 (List.map eI a1.q.tgt), .list 1 (List.map eI a1.dims), .list 3 (List.map eM a1.maps)]]⟩), (2, ⟨3, [[.int 0, .int 0, .nil 1]]⟩), (3, ⟨3, [[.int x1.1, .int v1, .own 4 0 x1.2.1.length]]⟩), (4, ⟨1, List.map (ow eI) x1.2.1⟩)] 5 [5, 6, 7, 8]) (fun r e t => e = .exit 0 ∧ Ent t (mkS [(4, .ptr 0 0 0), (6, .ptr 1 0 0)] [(0, ⟨3, [[.int 0, .int 0, .nil 1]]⟩), (1, ⟨3, [[.int r.1, .int v1, .own 2 0 r.2.length]]⟩), (2, ⟨1, List.map (ow eI) r.2⟩)] 3 [3, 4, 5, 6, 7, 8])) (ent_mk (σ := sg [(0, 0), (1, 1), (2, 2), (3, 4), (4, 3)]) ⟨(pE k k), (pE k k), (pE k k), (e1 k k), (pE k k), (e1 k k), trivial⟩ (hP k k k k <| hP k k k k <| hP k k k k <| hX ⟨_, k, k, .inr ⟨_, _, k, ⟨_, _, k, k, ⟨_, _, k, k, ⟨_, _, k, ⟨k, k, k, k⟩, k⟩⟩⟩, k⟩⟩ k <| hI k k k <| trivial) k) ?_ ?_
 ·intro x1 o h
  refine sQ <| sQ <| rg <| am k k <| ae (w_field_ptr TT_ok k k k k k k k) k <| ae (w_load_ptr TT_ok k k k k k k k) k <| ae (lenL TT_ok k k k) k <| ae (w_cmp k k k) k <| an <| tn ?_
  rcases cb h with ⟨q2, h⟩ | ⟨q2, h⟩
  ·refine ac_condT k q2 <| ac_skip <| tn <| sQ <| ac_block <| sQ <| rg <| ae (w_field_ptr TT_ok k k k k k k k) k <| ae (w_field_ptr TT_ok k k k k k k k) k <| ae (w_load_ptr TT_ok k k k k k k k) k ?_
   refine am k k ?_
   obtain ⟨v3, hv3, h⟩ := ob h
   refine ae (x_at_list TT_ok hv3 k k k k k k) k <| ae (w_load_ref TT_ok k k k k k k) k <| aa k k <| an <| tn <| ac_ent (t := mkS [(2, .ptr 0 0 0), (3, .ptr 1 0 0), (4, .ptr 2 0 0), (5, .int v1), (6, .ptr 3 0 0), (7, .int x1.2.2), (8, .int v3)] [(0, ⟨6, [[.int a0.p, .int a0.q.n, .list 1 (List.map eI a0.q.src), .list 1 (List.map eI a0.q.tgt), .list 1 (List.map eI a0.dims), .list 3 (List.map eM a0.maps)]]⟩), (1, ⟨6, [[.int a1.p, .int a1.q.n, .list 1 (List.map eI a1.q.src), .list 1 (List.map eI a1.q.tgt), .list 1 (List.map eI a1.dims), .list 3 (List.map eM a1.maps)]]⟩), (2, ⟨3, [[.int 0, .int 0, .nil 1]]⟩), (3, ⟨3, [[.int x1.1, .int v1, .own 4 0 x1.2.1.length]]⟩), (4, ⟨1, List.map (ow eI) x1.2.1⟩)] 5 [5, 6, 7, 8]) (ent_mk (σ := sg [(0, 0), (1, 1), (2, 2), (3, 3), (4, 4)]) ⟨(pE k k), (pE k k), (pE k k), (e1 k k), (pE k k), (e1 k k), (e1 k k), trivial⟩ (hP k k k k <| hP k k k k <| hP k k k k <| hX ⟨_, k, k, .inr ⟨_, _, k, ⟨_, _, k, k, ⟨_, _, k, k, ⟨_, _, k, ⟨k, k, k, k⟩, k⟩⟩⟩, k⟩⟩ k <| hI k k k <| trivial) k) <| sQ <| rg <| ae (w_field_ptr TT_ok k k k k k k k) k <| ae (w_field_ptr TT_ok k k k k k k k) k ?_
   refine ae (w_load_ptr TT_ok k k k k k k k) k <| am k k ?_
   obtain ⟨v4, hv4, h⟩ := ob h
   refine ae (x_at_list TT_ok hv4 k k k k k k) k <| ae (w_load_ref TT_ok k k k k k k) k <| aa k k <| an <| tn <| sQ <| rg <| aa k k <| an <| tn ?_
   refine ac_block ?_
   obtain ⟨y34, hy34, h⟩ := ob h
   refine ac_Lp (body := (m_spec_l11Equations_L2 a0 a1 v1 v3 v4 x1)) hy34 (fun (x2 : (Int × (List Int) × Int)) => mkS [(2, .ptr 0 0 0), (3, .ptr 1 0 0), (4, .ptr 2 0 0), (5, .int v1), (6, .ptr 3 0 0), (7, .int x1.2.2), (8, .int v3), (9, .int v4), (10, .int x2.2.2)] [(0, ⟨6, [[.int a0.p, .int a0.q.n, .list 1 (List.map eI a0.q.src), .list 1 (List.map eI a0.q.tgt), .list 1 (List.map eI a0.dims), .list 3 (List.map eM a0.maps)]]⟩), (1, ⟨6, [[.int a1.p, .int a1.q.n, .list 1 (List.map eI a1.q.src), .list 1 (List.map eI a1.q.tgt), .list 1 (List.map eI a1.dims), .list 3 (List.map eM a1.maps)]]⟩), (2, ⟨3, [[.int 0, .int 0, .nil 1]]⟩), (3, ⟨3, [[.int x2.1, .int v1, .own 4 0 x2.2.1.length]]⟩), (4, ⟨1, List.map (ow eI) x2.2.1⟩)] 5 [5, 6, 7, 8]) (fun r e t => e = .exit 2 ∧ Ent t (mkS [(2, .ptr 0 0 0), (3, .ptr 1 0 0), (4, .ptr 2 0 0), (5, .int v1), (6, .ptr 3 0 0), (7, .int x1.2.2)] [(0, ⟨6, [[.int a0.p, .int a0.q.n, .list 1 (List.map eI a0.q.src), .list 1 (List.map eI a0.q.tgt), .list 1 (List.map eI a0.dims), .list 3 (List.map eM a0.maps)]]⟩), (1, ⟨6, [[.int a1.p, .int a1.q.n, .list 1 (List.map eI a1.q.src), .list 1 (List.map eI a1.q.tgt), .list 1 (List.map eI a1.dims), .list 3 (List.map eM a1.maps)]]⟩), (2, ⟨3, [[.int 0, .int 0, .nil 1]]⟩), (3, ⟨3, [[.int r.1, .int v1, .own 4 0 r.2.length]]⟩), (4, ⟨1, List.map (ow eI) r.2⟩)] 5 [5, 6, 7, 8])) (ent_mk (σ := sg [(0, 0), (1, 1), (2, 2), (3, 3), (4, 4)]) ⟨(pE k k), (pE k k), (pE k k), (e1 k k), (pE k k), (e1 k k), (e1 k k), (e1 k k), (e1 k k), trivial⟩ (hP k k k k <| hP k k k k <| hP k k k k <| hX ⟨_, k, k, .inr ⟨_, _, k, ⟨_, _, k, k, ⟨_, _, k, k, ⟨_, _, k, ⟨k, k, k, k⟩, k⟩⟩⟩, k⟩⟩ k <| hI k k k <| trivial) k) ?_ ?_
   ·intro x2 o h
    refine sQ <| sQ <| rg <| am k k <| ae (w_field_ptr TT_ok k k k k k k k) k <| ae (w_load_ptr TT_ok k k k k k k k) k <| am k k ?_
    obtain ⟨v5, hv5, h⟩ := ob h
    refine ae (x_at_list TT_ok hv5 k k k k k k) k <| ae (w_load_ref TT_ok k k k k k k) k <| ae (w_cmp k k k) k <| an <| tn ?_
    rcases cb h with ⟨q6, h⟩ | ⟨q6, h⟩
    ·refine ac_condT k q6 <| ac_skip <| tn <| sQ <| ac_block <| sQ <| rg <| aa k k <| an <| tn ?_
     refine ac_block ?_
     obtain ⟨y33, hy33, h⟩ := ob h
     refine ac_Lp (body := (m_spec_l11Equations_L3 a0 a1 v1 v3 v4 x1 x2)) hy33 (fun (x3 : (Int × (List Int) × Int)) => mkS [(2, .ptr 0 0 0), (3, .ptr 1 0 0), (4, .ptr 2 0 0), (5, .int v1), (6, .ptr 3 0 0), (7, .int x1.2.2), (8, .int v3), (9, .int v4), (10, .int x2.2.2), (11, .int x3.2.2)] [(0, ⟨6, [[.int a0.p, .int a0.q.n, .list 1 (List.map eI a0.q.src), .list 1 (List.map eI a0.q.tgt), .list 1 (List.map eI a0.dims), .list 3 (List.map eM a0.maps)]]⟩), (1, ⟨6, [[.int a1.p, .int a1.q.n, .list 1 (List.map eI a1.q.src), .list 1 (List.map eI a1.q.tgt), .list 1 (List.map eI a1.dims), .list 3 (List.map eM a1.maps)]]⟩), (2, ⟨3, [[.int 0, .int 0, .nil 1]]⟩), (3, ⟨3, [[.int x3.1, .int v1, .own 4 0 x3.2.1.length]]⟩), (4, ⟨1, List.map (ow eI) x3.2.1⟩)] 5 [5, 6, 7, 8]) (fun r e t => e = .exit 4 ∧ Ent t (mkS [(2, .ptr 0 0 0), (3, .ptr 1 0 0), (4, .ptr 2 0 0), (5, .int v1), (6, .ptr 3 0 0), (7, .int x1.2.2), (8, .int v3), (9, .int v4), (10, .int x2.2.2)] [(0, ⟨6, [[.int a0.p, .int a0.q.n, .list 1 (List.map eI a0.q.src), .list 1 (List.map eI a0.q.tgt), .list 1 (List.map eI a0.dims), .list 3 (List.map eM a0.maps)]]⟩), (1, ⟨6, [[.int a1.p, .int a1.q.n, .list 1 (List.map eI a1.q.src), .list 1 (List.map eI a1.q.tgt), .list 1 (List.map eI a1.dims), .list 3 (List.map eM a1.maps)]]⟩), (2, ⟨3, [[.int 0, .int 0, .nil 1]]⟩), (3, ⟨3, [[.int r.1, .int v1, .own 4 0 r.2.length]]⟩), (4, ⟨1, List.map (ow eI) r.2⟩)] 5 [5, 6, 7, 8])) (ent_mk (σ := sg [(0, 0), (1, 1), (2, 2), (3, 3), (4, 4)]) ⟨(pE k k), (pE k k), (pE k k), (e1 k k), (pE k k), (e1 k k), (e1 k k), (e1 k k), (e1 k k), (e1 k k), trivial⟩ (hP k k k k <| hP k k k k <| hP k k k k <| hX ⟨_, k, k, .inr ⟨_, _, k, ⟨_, _, k, k, ⟨_, _, k, k, ⟨_, _, k, ⟨k, k, k, k⟩, k⟩⟩⟩, k⟩⟩ k <| hI k k k <| trivial) k) ?_ ?_
     ·intro x3 o h
      refine sQ <| sQ <| rg <| am k k <| ae (w_field_ptr TT_ok k k k k k k k) k <| ae (w_load_ptr TT_ok k k k k k k k) k <| am k k ?_
      obtain ⟨v7, hv7, h⟩ := ob h
      refine ae (x_at_list TT_ok hv7 k k k k k k) k <| ae (w_load_ref TT_ok k k k k k k) k <| ae (w_cmp k k k) k <| an <| tn ?_
      rcases cb h with ⟨q8, h⟩ | ⟨q8, h⟩
      ·refine ac_condT k q8 <| ac_skip <| tn <| sQ <| ac_block <| sQ <| rg <| am k k ?_
       obtain ⟨q32, h⟩ := cg h
       refine ae (x_make TT_ok q32 k k k k k k k k) k <| aa k k <| an <| tn <| ac_ent (t := mkS [(2, .ptr 0 0 0), (3, .ptr 1 0 0), (4, .ptr 2 0 0), (5, .int v1), (6, .ptr 3 0 0), (7, .int x1.2.2), (8, .int v3), (9, .int v4), (10, .int x2.2.2), (11, .int x3.2.2), (12, .own 5 0 ((List.replicate v1.toNat (0 : Int)).length))] [(0, ⟨6, [[.int a0.p, .int a0.q.n, .list 1 (List.map eI a0.q.src), .list 1 (List.map eI a0.q.tgt), .list 1 (List.map eI a0.dims), .list 3 (List.map eM a0.maps)]]⟩), (1, ⟨6, [[.int a1.p, .int a1.q.n, .list 1 (List.map eI a1.q.src), .list 1 (List.map eI a1.q.tgt), .list 1 (List.map eI a1.dims), .list 3 (List.map eM a1.maps)]]⟩), (2, ⟨3, [[.int 0, .int 0, .nil 1]]⟩), (3, ⟨3, [[.int x3.1, .int v1, .own 4 0 x3.2.1.length]]⟩), (4, ⟨1, List.map (ow eI) x3.2.1⟩), (5, ⟨1, List.map (ow eI) (List.replicate v1.toNat (0 : Int))⟩)] 6 [6, 7, 8]) (ent_mk (σ := sg [(0, 0), (1, 1), (2, 2), (3, 3), (4, 4), (5, 5)]) ⟨(pE k k), (pE k k), (pE k k), (e1 k k), (pE k k), (e1 k k), (e1 k k), (e1 k k), (e1 k k), (e1 k k), ⟨_, k, ⟨k, k, (by simp only [len_map, lA, lT, lR, lC, lN]), k⟩⟩, trivial⟩ (hP k k k k <| hP k k k k <| hP k k k k <| hX ⟨_, k, k, .inr ⟨_, _, k, ⟨_, _, k, k, ⟨_, _, k, k, ⟨_, _, k, ⟨k, k, k, k⟩, k⟩⟩⟩, k⟩⟩ k <| hI k k k <| hX ⟨_, k, k, .inl ⟨rep_eq (e := eI) (z := 0) _, okI.plainO _⟩⟩ k <| trivial) k) <| sQ <| sQ <| rg <| aa k k <| an ?_
       refine tn <| ac_block ?_
       obtain ⟨y19, hy19, h⟩ := ob h
       refine ac_Lp (body := (m_spec_l11Equations_L4 a0 a1 v3 x1 x2 x3)) hy19 (fun (x4 : ((List Int) × Int)) => mkS [(2, .ptr 0 0 0), (3, .ptr 1 0 0), (4, .ptr 2 0 0), (5, .int v1), (6, .ptr 3 0 0), (7, .int x1.2.2), (8, .int v3), (9, .int v4), (10, .int x2.2.2), (11, .int x3.2.2), (12, .own 5 0 x4.1.length), (13, .int x4.2)] [(0, ⟨6, [[.int a0.p, .int a0.q.n, .list 1 (List.map eI a0.q.src), .list 1 (List.map eI a0.q.tgt), .list 1 (List.map eI a0.dims), .list 3 (List.map eM a0.maps)]]⟩), (1, ⟨6, [[.int a1.p, .int a1.q.n, .list 1 (List.map eI a1.q.src), .list 1 (List.map eI a1.q.tgt), .list 1 (List.map eI a1.dims), .list 3 (List.map eM a1.maps)]]⟩), (2, ⟨3, [[.int 0, .int 0, .nil 1]]⟩), (3, ⟨3, [[.int x3.1, .int v1, .own 4 0 x3.2.1.length]]⟩), (4, ⟨1, List.map (ow eI) x3.2.1⟩), (5, ⟨1, List.map (ow eI) x4.1⟩)] 6 [6, 7, 8]) (fun r e t => e = .exit 6 ∧ Ent t (mkS [(2, .ptr 0 0 0), (3, .ptr 1 0 0), (4, .ptr 2 0 0), (5, .int v1), (6, .ptr 3 0 0), (7, .int x1.2.2), (8, .int v3), (9, .int v4), (10, .int x2.2.2), (11, .int x3.2.2), (12, .own 5 0 r.length)] [(0, ⟨6, [[.int a0.p, .int a0.q.n, .list 1 (List.map eI a0.q.src), .list 1 (List.map eI a0.q.tgt), .list 1 (List.map eI a0.dims), .list 3 (List.map eM a0.maps)]]⟩), (1, ⟨6, [[.int a1.p, .int a1.q.n, .list 1 (List.map eI a1.q.src), .list 1 (List.map eI a1.q.tgt), .list 1 (List.map eI a1.dims), .list 3 (List.map eM a1.maps)]]⟩), (2, ⟨3, [[.int 0, .int 0, .nil 1]]⟩), (3, ⟨3, [[.int x3.1, .int v1, .own 4 0 x3.2.1.length]]⟩), (4, ⟨1, List.map (ow eI) x3.2.1⟩), (5, ⟨1, List.map (ow eI) r⟩)] 6 [6, 7, 8])) (ent_mk (σ := sg [(0, 0), (1, 1), (2, 2), (3, 3), (4, 4), (5, 5)]) ⟨(pE k k), (pE k k), (pE k k), (e1 k k), (pE k k), (e1 k k), (e1 k k), (e1 k k), (e1 k k), (e1 k k), (oE k k), (e1 k k), trivial⟩ (hP k k k k <| hP k k k k <| hP k k k k <| hX ⟨_, k, k, .inr ⟨_, _, k, ⟨_, _, k, k, ⟨_, _, k, k, ⟨_, _, k, ⟨k, k, k, k⟩, k⟩⟩⟩, k⟩⟩ k <| hI k k k <| hI k k k <| trivial) k) ?_ ?_
       ·intro x4 o h
        refine sQ <| sQ <| rg <| am k k <| ae (w_field_ptr TT_ok k k k k k k k) k <| ae (w_load_ptr TT_ok k k k k k k k) k <| am k k ?_
        obtain ⟨v9, hv9, h⟩ := ob h
        refine ae (x_at_list TT_ok hv9 k k k k k k) k <| ae (w_load_ref TT_ok k k k k k k) k <| ae (w_cmp k k k) k <| an <| tn ?_
        rcases cb h with ⟨q10, h⟩ | ⟨q10, h⟩
        ·refine ac_condT k q10 <| ac_skip <| tn <| sQ <| ac_block <| sQ <| ac_region_draw MIXX <| ae (w_load_ptr TT_ok k k k k k k k) k <| ae (w_load_ptr TT_ok k k k k k k k) k <| am k k ?_
         obtain ⟨v11, hv11, h⟩ := ob h
         refine ae (w_call0s (c_spec_l11At a0 a1 v3 v11 hv11) k (va_cons (va_agg' (v1_cons (v1_same k) (v1_cons (v1_same k) (v1_cons (v1_same k) (v1_cons (v1_same k) (v1_cons (v1_same k) (v1_cons (v1_same k) v1_nil))))))) (va_cons (va_agg' (v1_cons (v1_same k) (v1_cons (v1_same k) (v1_cons (v1_same k) (v1_cons (v1_same k) (v1_cons (v1_same k) (v1_cons (v1_same k) v1_nil))))))) (va_cons (va_same k) va_nil)))) k <| am k k <| ae (w_field_ptr TT_ok k k k k k k k) k <| ae (w_load_ptr TT_ok k k k k k k k) k <| am k k ?_
         obtain ⟨v12, hv12, h⟩ := ob h
         refine ae (x_at_list TT_ok hv12 k k k k k k) k <| ae (w_load_ref TT_ok k k k k k k) k <| ae (x_mul k k) k <| ae (x_add k k) k <| am k k <| ae (x_add k k) k <| aa k k <| an ?_
         refine ⟨by kernel_rfl, ?_⟩
         refine tn <| ac_ent (t := mkS [(2, .ptr 0 0 0), (3, .ptr 1 0 0), (4, .ptr 2 0 0), (5, .int v1), (6, .ptr 3 0 0), (7, .int x1.2.2), (8, .int v3), (9, .int v4), (10, .int x2.2.2), (11, .int x3.2.2), (12, .own 5 0 x4.1.length), (13, .int x4.2), (14, .int (wr ((wr (v11 + (wr (x4.2 * v12)))) + x3.2.2)))] [(0, ⟨6, [[.int a0.p, .int a0.q.n, .list 1 (List.map eI a0.q.src), .list 1 (List.map eI a0.q.tgt), .list 1 (List.map eI a0.dims), .list 3 (List.map eM a0.maps)]]⟩), (1, ⟨6, [[.int a1.p, .int a1.q.n, .list 1 (List.map eI a1.q.src), .list 1 (List.map eI a1.q.tgt), .list 1 (List.map eI a1.dims), .list 3 (List.map eM a1.maps)]]⟩), (2, ⟨3, [[.int 0, .int 0, .nil 1]]⟩), (3, ⟨3, [[.int x3.1, .int v1, .own 4 0 x3.2.1.length]]⟩), (4, ⟨1, List.map (ow eI) x3.2.1⟩), (5, ⟨1, List.map (ow eI) x4.1⟩)] 6 [6, 7, 8]) (ent_mk (σ := sg [(0, 0), (1, 1), (2, 2), (3, 3), (4, 4), (5, 5)]) ⟨(pE k k), (pE k k), (pE k k), (e1 k k), (pE k k), (e1 k k), (e1 k k), (e1 k k), (e1 k k), (e1 k k), (oE k k), (e1 k k), (e1 k k), trivial⟩ (hP k k k k <| hP k k k k <| hP k k k k <| hX ⟨_, k, k, .inr ⟨_, _, k, ⟨_, _, k, k, ⟨_, _, k, k, ⟨_, _, k, ⟨k, k, k, k⟩, k⟩⟩⟩, k⟩⟩ k <| hI k k k <| hI k k k <| trivial) k) <| ac_region_draw MIXX <| am k k <| am k k <| ae (w_field_ptr TT_ok k k k k k k k) k <| ae (w_load_ptr TT_ok k k k k k k k) k <| am k k <| am k k ?_
         obtain ⟨v13, hv13, h⟩ := ob h
         refine ae (x_at_own TT_ok (atL_nn hv13) (atL_lt hv13) k k k k k k k) k <| ae (w_load_ptr TT_ok k k k k (map_at (atL_get hv13)) k k) k <| ae (w_field_ptr TT_ok k k k k k k k) k <| ae (w_load_ptr TT_ok k k k k k k k) k <| am k k ?_
         obtain ⟨v14, hv14, h⟩ := ob h
         refine ae (x_at_list TT_ok hv14 k k k k k k) k <| ae (w_field_ref TT_ok k k k k k k) k <| ae (w_load_ref TT_ok k k k k k k) k <| am k k <| ae (w_field_ptr TT_ok k k k k k k k) k <| ae (w_load_ptr TT_ok k k k k k k k) k <| am k k ?_
         obtain ⟨v15, hv15, h⟩ := ob h
         refine ae (x_at_list TT_ok hv15 k k k k k k) k <| ae (w_load_ref TT_ok k k k k k k) k <| ae (x_mul k k) k <| am k k <| ae (x_add k k) k ?_
         obtain ⟨v16, hv16, h⟩ := ob h
         refine ae (x_at_list TT_ok hv16 k k k k k k) k <| ae (w_load_ref TT_ok k k k k k k) k <| ae (x_add k k) k ?_
         obtain ⟨v17, hv17, h⟩ := ob h
         refine ae (w_call0s (c_spec_l2Mod a0.p (wr (v13 + v16)) v17 hv17) k (va_cons (va_same k) (va_cons (va_same k) va_nil))) k ?_
         obtain ⟨v18, hv18, h⟩ := ob h
         refine ae (x_at_own TT_ok (atL_nn hv18) (atL_lt hv18) k k k k k k k) k <| ae (x_store TT_ok okIo (u := v17) (atL_get hv18) k k k k k k) k <| an ?_
         refine ⟨by kernel_rfl, ?_⟩
         refine block_n <| tn <| ac_ent (t := mkS [(2, .ptr 0 0 0), (3, .ptr 1 0 0), (4, .ptr 2 0 0), (5, .int v1), (6, .ptr 3 0 0), (7, .int x1.2.2), (8, .int v3), (9, .int v4), (10, .int x2.2.2), (11, .int x3.2.2), (12, .own 5 0 ((x4.1.set ((wr ((wr (v11 + (wr (x4.2 * v12)))) + x3.2.2)).toNat) v17).length)), (13, .int x4.2)] [(0, ⟨6, [[.int a0.p, .int a0.q.n, .list 1 (List.map eI a0.q.src), .list 1 (List.map eI a0.q.tgt), .list 1 (List.map eI a0.dims), .list 3 (List.map eM a0.maps)]]⟩), (1, ⟨6, [[.int a1.p, .int a1.q.n, .list 1 (List.map eI a1.q.src), .list 1 (List.map eI a1.q.tgt), .list 1 (List.map eI a1.dims), .list 3 (List.map eM a1.maps)]]⟩), (2, ⟨3, [[.int 0, .int 0, .nil 1]]⟩), (3, ⟨3, [[.int x3.1, .int v1, .own 4 0 x3.2.1.length]]⟩), (4, ⟨1, List.map (ow eI) x3.2.1⟩), (5, ⟨1, List.map (ow eI) (x4.1.set ((wr ((wr (v11 + (wr (x4.2 * v12)))) + x3.2.2)).toNat) v17)⟩)] 6 [6, 7, 8]) (ent_mk (σ := sg [(0, 0), (1, 1), (2, 2), (3, 3), (4, 4), (5, 5)]) ⟨(pE k k), (pE k k), (pE k k), (e1 k k), (pE k k), (e1 k k), (e1 k k), (e1 k k), (e1 k k), (e1 k k), ⟨_, k, ⟨k, k, (by simp only [len_map, lA, lT, lR, lC, lN]), k⟩⟩, (e1 k k), trivial⟩ (hP k k k k <| hP k k k k <| hP k k k k <| hX ⟨_, k, k, .inr ⟨_, _, k, ⟨_, _, k, k, ⟨_, _, k, k, ⟨_, _, k, ⟨k, k, k, k⟩, k⟩⟩⟩, k⟩⟩ k <| hI k k k <| hI k k k <| trivial) k) <| rg <| am k k <| ae (x_add k k) k <| aa k k <| an <| tn ?_
         obtain rfl := so h
         exact ⟨_, k, (ent_mk (σ := sg [(0, 0), (1, 1), (2, 2), (3, 3), (4, 4), (5, 5)]) ⟨(pE k k), (pE k k), (pE k k), (e1 k k), (pE k k), (e1 k k), (e1 k k), (e1 k k), (e1 k k), (e1 k k), (oE k k), (e1 k k), trivial⟩ (hP k k k k <| hP k k k k <| hP k k k k <| hX ⟨_, k, k, .inr ⟨_, _, k, ⟨_, _, k, k, ⟨_, _, k, k, ⟨_, _, k, ⟨k, k, k, k⟩, k⟩⟩⟩, k⟩⟩ k <| hI k k k <| hI k k k <| trivial) k)⟩
        ·refine ac_condF k q10 <| ac_exit <| then_exit <| then_exit ?_
         obtain rfl := so h
         exact ⟨_, k, k, (ent_mk (σ := sg [(0, 0), (1, 1), (2, 2), (3, 3), (4, 4), (5, 5)]) ⟨(pE k k), (pE k k), (pE k k), (e1 k k), (pE k k), (e1 k k), (e1 k k), (e1 k k), (e1 k k), (e1 k k), (oE k k), trivial⟩ (hP k k k k <| hP k k k k <| hP k k k k <| hX ⟨_, k, k, .inr ⟨_, _, k, ⟨_, _, k, k, ⟨_, _, k, k, ⟨_, _, k, ⟨k, k, k, k⟩, k⟩⟩⟩, k⟩⟩ k <| hI k k k <| hI k k k <| trivial) k)⟩
       ·rintro e t ⟨rfl, hent⟩
        refine block_here <| tn <| ac_ent hent <| sQ <| sQ <| rg <| aa k k <| an <| tn <| ac_block ?_
        obtain ⟨y30, hy30, h⟩ := ob h
        refine ac_Lp (body := (m_spec_l11Equations_L5 a0 a1 v3 v4 x1 x2 x3)) hy30 (fun (x5 : ((List Int) × Int)) => mkS [(2, .ptr 0 0 0), (3, .ptr 1 0 0), (4, .ptr 2 0 0), (5, .int v1), (6, .ptr 3 0 0), (7, .int x1.2.2), (8, .int v3), (9, .int v4), (10, .int x2.2.2), (11, .int x3.2.2), (12, .own 5 0 x5.1.length), (15, .int x5.2)] [(0, ⟨6, [[.int a0.p, .int a0.q.n, .list 1 (List.map eI a0.q.src), .list 1 (List.map eI a0.q.tgt), .list 1 (List.map eI a0.dims), .list 3 (List.map eM a0.maps)]]⟩), (1, ⟨6, [[.int a1.p, .int a1.q.n, .list 1 (List.map eI a1.q.src), .list 1 (List.map eI a1.q.tgt), .list 1 (List.map eI a1.dims), .list 3 (List.map eM a1.maps)]]⟩), (2, ⟨3, [[.int 0, .int 0, .nil 1]]⟩), (3, ⟨3, [[.int x3.1, .int v1, .own 4 0 x3.2.1.length]]⟩), (4, ⟨1, List.map (ow eI) x3.2.1⟩), (5, ⟨1, List.map (ow eI) x5.1⟩)] 6 [6, 7, 8]) (fun r e t => e = .exit 8 ∧ Ent t (mkS [(2, .ptr 0 0 0), (3, .ptr 1 0 0), (4, .ptr 2 0 0), (5, .int v1), (6, .ptr 3 0 0), (7, .int x1.2.2), (8, .int v3), (9, .int v4), (10, .int x2.2.2), (11, .int x3.2.2), (12, .own 5 0 r.length)] [(0, ⟨6, [[.int a0.p, .int a0.q.n, .list 1 (List.map eI a0.q.src), .list 1 (List.map eI a0.q.tgt), .list 1 (List.map eI a0.dims), .list 3 (List.map eM a0.maps)]]⟩), (1, ⟨6, [[.int a1.p, .int a1.q.n, .list 1 (List.map eI a1.q.src), .list 1 (List.map eI a1.q.tgt), .list 1 (List.map eI a1.dims), .list 3 (List.map eM a1.maps)]]⟩), (2, ⟨3, [[.int 0, .int 0, .nil 1]]⟩), (3, ⟨3, [[.int x3.1, .int v1, .own 4 0 x3.2.1.length]]⟩), (4, ⟨1, List.map (ow eI) x3.2.1⟩), (5, ⟨1, List.map (ow eI) r⟩)] 6 [6, 7, 8])) (ent_mk (σ := sg [(0, 0), (1, 1), (2, 2), (3, 3), (4, 4), (5, 5)]) ⟨(pE k k), (pE k k), (pE k k), (e1 k k), (pE k k), (e1 k k), (e1 k k), (e1 k k), (e1 k k), (e1 k k), (oE k k), (e1 k k), trivial⟩ (hP k k k k <| hP k k k k <| hP k k k k <| hX ⟨_, k, k, .inr ⟨_, _, k, ⟨_, _, k, k, ⟨_, _, k, k, ⟨_, _, k, ⟨k, k, k, k⟩, k⟩⟩⟩, k⟩⟩ k <| hI k k k <| hI k k k <| trivial) k) ?_ ?_
        ·intro x5 o h
         refine sQ <| sQ <| rg <| am k k <| ae (w_field_ptr TT_ok k k k k k k k) k <| ae (w_load_ptr TT_ok k k k k k k k) k <| am k k ?_
         obtain ⟨v20, hv20, h⟩ := ob h
         refine ae (x_at_list TT_ok hv20 k k k k k k) k <| ae (w_load_ref TT_ok k k k k k k) k <| ae (w_cmp k k k) k <| an <| tn ?_
         rcases cb h with ⟨q21, h⟩ | ⟨q21, h⟩
         ·refine ac_condT k q21 <| ac_skip <| tn <| sQ <| ac_block <| sQ <| ac_region_draw MIXX <| ae (w_load_ptr TT_ok k k k k k k k) k <| ae (w_load_ptr TT_ok k k k k k k k) k <| am k k ?_
          obtain ⟨v22, hv22, h⟩ := ob h
          refine ae (w_call0s (c_spec_l11At a0 a1 v4 v22 hv22) k (va_cons (va_agg' (v1_cons (v1_same k) (v1_cons (v1_same k) (v1_cons (v1_same k) (v1_cons (v1_same k) (v1_cons (v1_same k) (v1_cons (v1_same k) v1_nil))))))) (va_cons (va_agg' (v1_cons (v1_same k) (v1_cons (v1_same k) (v1_cons (v1_same k) (v1_cons (v1_same k) (v1_cons (v1_same k) (v1_cons (v1_same k) v1_nil))))))) (va_cons (va_same k) va_nil)))) k <| am k k <| ae (w_field_ptr TT_ok k k k k k k k) k <| ae (w_load_ptr TT_ok k k k k k k k) k <| am k k ?_
          obtain ⟨v23, hv23, h⟩ := ob h
          refine ae (x_at_list TT_ok hv23 k k k k k k) k <| ae (w_load_ref TT_ok k k k k k k) k <| ae (x_mul k k) k <| ae (x_add k k) k <| am k k <| ae (x_add k k) k <| aa k k <| an ?_
          refine ⟨by kernel_rfl, ?_⟩
          refine tn <| ac_ent (t := mkS [(2, .ptr 0 0 0), (3, .ptr 1 0 0), (4, .ptr 2 0 0), (5, .int v1), (6, .ptr 3 0 0), (7, .int x1.2.2), (8, .int v3), (9, .int v4), (10, .int x2.2.2), (11, .int x3.2.2), (12, .own 5 0 x5.1.length), (15, .int x5.2), (16, .int (wr ((wr (v22 + (wr (x2.2.2 * v23)))) + x5.2)))] [(0, ⟨6, [[.int a0.p, .int a0.q.n, .list 1 (List.map eI a0.q.src), .list 1 (List.map eI a0.q.tgt), .list 1 (List.map eI a0.dims), .list 3 (List.map eM a0.maps)]]⟩), (1, ⟨6, [[.int a1.p, .int a1.q.n, .list 1 (List.map eI a1.q.src), .list 1 (List.map eI a1.q.tgt), .list 1 (List.map eI a1.dims), .list 3 (List.map eM a1.maps)]]⟩), (2, ⟨3, [[.int 0, .int 0, .nil 1]]⟩), (3, ⟨3, [[.int x3.1, .int v1, .own 4 0 x3.2.1.length]]⟩), (4, ⟨1, List.map (ow eI) x3.2.1⟩), (5, ⟨1, List.map (ow eI) x5.1⟩)] 6 [6, 7, 8]) (ent_mk (σ := sg [(0, 0), (1, 1), (2, 2), (3, 3), (4, 4), (5, 5)]) ⟨(pE k k), (pE k k), (pE k k), (e1 k k), (pE k k), (e1 k k), (e1 k k), (e1 k k), (e1 k k), (e1 k k), (oE k k), (e1 k k), (e1 k k), trivial⟩ (hP k k k k <| hP k k k k <| hP k k k k <| hX ⟨_, k, k, .inr ⟨_, _, k, ⟨_, _, k, k, ⟨_, _, k, k, ⟨_, _, k, ⟨k, k, k, k⟩, k⟩⟩⟩, k⟩⟩ k <| hI k k k <| hI k k k <| trivial) k) <| ac_region_draw MIXX <| am k k <| am k k <| ae (w_field_ptr TT_ok k k k k k k k) k <| ae (w_load_ptr TT_ok k k k k k k k) k <| am k k <| am k k ?_
          obtain ⟨v24, hv24, h⟩ := ob h
          refine ae (x_at_own TT_ok (atL_nn hv24) (atL_lt hv24) k k k k k k k) k <| ae (w_load_ptr TT_ok k k k k (map_at (atL_get hv24)) k k) k <| ae (w_field_ptr TT_ok k k k k k k k) k <| ae (w_load_ptr TT_ok k k k k k k k) k <| am k k ?_
          obtain ⟨v25, hv25, h⟩ := ob h
          refine ae (x_at_list TT_ok hv25 k k k k k k) k <| ae (w_field_ref TT_ok k k k k k k) k <| ae (w_load_ref TT_ok k k k k k k) k <| am k k <| ae (w_field_ptr TT_ok k k k k k k k) k <| ae (w_load_ptr TT_ok k k k k k k k) k <| am k k ?_
          obtain ⟨v26, hv26, h⟩ := ob h
          refine ae (x_at_list TT_ok hv26 k k k k k k) k <| ae (w_load_ref TT_ok k k k k k k) k <| ae (x_mul k k) k <| am k k <| ae (x_add k k) k ?_
          obtain ⟨v27, hv27, h⟩ := ob h
          refine ae (x_at_list TT_ok hv27 k k k k k k) k <| ae (w_load_ref TT_ok k k k k k k) k <| ae (x_sub k k) k ?_
          obtain ⟨v28, hv28, h⟩ := ob h
          refine ae (w_call0s (c_spec_l2Mod a0.p (wr (v24 - v27)) v28 hv28) k (va_cons (va_same k) (va_cons (va_same k) va_nil))) k ?_
          obtain ⟨v29, hv29, h⟩ := ob h
          refine ae (x_at_own TT_ok (atL_nn hv29) (atL_lt hv29) k k k k k k k) k <| ae (x_store TT_ok okIo (u := v28) (atL_get hv29) k k k k k k) k <| an ?_
          refine ⟨by kernel_rfl, ?_⟩
          refine block_n <| tn <| ac_ent (t := mkS [(2, .ptr 0 0 0), (3, .ptr 1 0 0), (4, .ptr 2 0 0), (5, .int v1), (6, .ptr 3 0 0), (7, .int x1.2.2), (8, .int v3), (9, .int v4), (10, .int x2.2.2), (11, .int x3.2.2), (12, .own 5 0 ((x5.1.set ((wr ((wr (v22 + (wr (x2.2.2 * v23)))) + x5.2)).toNat) v28).length)), (15, .int x5.2)] [(0, ⟨6, [[.int a0.p, .int a0.q.n, .list 1 (List.map eI a0.q.src), .list 1 (List.map eI a0.q.tgt), .list 1 (List.map eI a0.dims), .list 3 (List.map eM a0.maps)]]⟩), (1, ⟨6, [[.int a1.p, .int a1.q.n, .list 1 (List.map eI a1.q.src), .list 1 (List.map eI a1.q.tgt), .list 1 (List.map eI a1.dims), .list 3 (List.map eM a1.maps)]]⟩), (2, ⟨3, [[.int 0, .int 0, .nil 1]]⟩), (3, ⟨3, [[.int x3.1, .int v1, .own 4 0 x3.2.1.length]]⟩), (4, ⟨1, List.map (ow eI) x3.2.1⟩), (5, ⟨1, List.map (ow eI) (x5.1.set ((wr ((wr (v22 + (wr (x2.2.2 * v23)))) + x5.2)).toNat) v28)⟩)] 6 [6, 7, 8]) (ent_mk (σ := sg [(0, 0), (1, 1), (2, 2), (3, 3), (4, 4), (5, 5)]) ⟨(pE k k), (pE k k), (pE k k), (e1 k k), (pE k k), (e1 k k), (e1 k k), (e1 k k), (e1 k k), (e1 k k), ⟨_, k, ⟨k, k, (by simp only [len_map, lA, lT, lR, lC, lN]), k⟩⟩, (e1 k k), trivial⟩ (hP k k k k <| hP k k k k <| hP k k k k <| hX ⟨_, k, k, .inr ⟨_, _, k, ⟨_, _, k, k, ⟨_, _, k, k, ⟨_, _, k, ⟨k, k, k, k⟩, k⟩⟩⟩, k⟩⟩ k <| hI k k k <| hI k k k <| trivial) k) <| rg <| am k k <| ae (x_add k k) k <| aa k k <| an <| tn ?_
          obtain rfl := so h
          exact ⟨_, k, (ent_mk (σ := sg [(0, 0), (1, 1), (2, 2), (3, 3), (4, 4), (5, 5)]) ⟨(pE k k), (pE k k), (pE k k), (e1 k k), (pE k k), (e1 k k), (e1 k k), (e1 k k), (e1 k k), (e1 k k), (oE k k), (e1 k k), trivial⟩ (hP k k k k <| hP k k k k <| hP k k k k <| hX ⟨_, k, k, .inr ⟨_, _, k, ⟨_, _, k, k, ⟨_, _, k, k, ⟨_, _, k, ⟨k, k, k, k⟩, k⟩⟩⟩, k⟩⟩ k <| hI k k k <| hI k k k <| trivial) k)⟩
         ·refine ac_condF k q21 <| ac_exit <| then_exit <| then_exit ?_
          obtain rfl := so h
          exact ⟨_, k, k, (ent_mk (σ := sg [(0, 0), (1, 1), (2, 2), (3, 3), (4, 4), (5, 5)]) ⟨(pE k k), (pE k k), (pE k k), (e1 k k), (pE k k), (e1 k k), (e1 k k), (e1 k k), (e1 k k), (e1 k k), (oE k k), trivial⟩ (hP k k k k <| hP k k k k <| hP k k k k <| hX ⟨_, k, k, .inr ⟨_, _, k, ⟨_, _, k, k, ⟨_, _, k, k, ⟨_, _, k, ⟨k, k, k, k⟩, k⟩⟩⟩, k⟩⟩ k <| hI k k k <| hI k k k <| trivial) k)⟩
        ·rintro e t ⟨rfl, hent⟩
         refine block_here <| tn <| ac_ent hent <| sQ <| rg <| ae (w_field_ptr TT_ok k k k k k k k) k <| ae (w_load_ptr TT_ok k k k k k k k) k <| ae (x_add k k) k <| ae (w_field_ptr TT_ok k k k k k k k) k <| ae (w_store TT_ok k k k k k k k k) k ?_
         refine an <| tn <| rg <| ae (w_field_ptr TT_ok k k k k k k k) k <| ae (w_load_ptr TT_ok k k k k k k k) k <| am k k ?_
         obtain ⟨q31, h⟩ := cg h
         refine ae (x_app TT_ok (l := x3.2.1) (m := y30) okIo q31 k k k k k (x_src okI k k) k k k k k k) k <| ae (w_field_ptr TT_ok k k k k k k k) k <| ae (w_store TT_ok k k k k k k k k) k <| an <| block_n <| tn <| rg <| am k k <| ae (x_add k k) k <| aa k k ?_
         refine an <| tn ?_
         obtain rfl := so h
         exact ⟨_, k, (ent_mk (σ := sg [(0, 0), (1, 1), (2, 2), (3, 3), (4, 6)]) ⟨(pE k k), (pE k k), (pE k k), (e1 k k), (pE k k), (e1 k k), (e1 k k), (e1 k k), (e1 k k), (e1 k k), trivial⟩ (hP k k k k <| hP k k k k <| hP k k k k <| hX ⟨_, k, k, .inr ⟨_, _, k, ⟨_, _, k, k, ⟨_, _, k, k, ⟨_, _, k, ⟨k, k, k, k⟩, k⟩⟩⟩, k⟩⟩ k <| hI k k k <| trivial) k)⟩
      ·refine ac_condF k q8 <| ac_exit <| then_exit <| then_exit ?_
       obtain rfl := so h
       exact ⟨_, k, k, (ent_mk (σ := sg [(0, 0), (1, 1), (2, 2), (3, 3), (4, 4)]) ⟨(pE k k), (pE k k), (pE k k), (e1 k k), (pE k k), (e1 k k), (e1 k k), (e1 k k), (e1 k k), trivial⟩ (hP k k k k <| hP k k k k <| hP k k k k <| hX ⟨_, k, k, .inr ⟨_, _, k, ⟨_, _, k, k, ⟨_, _, k, k, ⟨_, _, k, ⟨k, k, k, k⟩, k⟩⟩⟩, k⟩⟩ k <| hI k k k <| trivial) k)⟩
     ·rintro e t ⟨rfl, hent⟩
      refine block_here <| block_n <| tn <| ac_ent hent <| rg <| am k k <| ae (x_add k k) k <| aa k k <| an <| tn ?_
      obtain rfl := so h
      exact ⟨_, k, (ent_mk (σ := sg [(0, 0), (1, 1), (2, 2), (3, 3), (4, 4)]) ⟨(pE k k), (pE k k), (pE k k), (e1 k k), (pE k k), (e1 k k), (e1 k k), (e1 k k), (e1 k k), trivial⟩ (hP k k k k <| hP k k k k <| hP k k k k <| hX ⟨_, k, k, .inr ⟨_, _, k, ⟨_, _, k, k, ⟨_, _, k, k, ⟨_, _, k, ⟨k, k, k, k⟩, k⟩⟩⟩, k⟩⟩ k <| hI k k k <| trivial) k)⟩
    ·refine ac_condF k q6 <| ac_exit <| then_exit <| then_exit ?_
     obtain rfl := so h
     exact ⟨_, k, k, (ent_mk (σ := sg [(0, 0), (1, 1), (2, 2), (3, 3), (4, 4)]) ⟨(pE k k), (pE k k), (pE k k), (e1 k k), (pE k k), (e1 k k), trivial⟩ (hP k k k k <| hP k k k k <| hP k k k k <| hX ⟨_, k, k, .inr ⟨_, _, k, ⟨_, _, k, k, ⟨_, _, k, k, ⟨_, _, k, ⟨k, k, k, k⟩, k⟩⟩⟩, k⟩⟩ k <| hI k k k <| trivial) k)⟩
   ·rintro e t ⟨rfl, hent⟩
    refine block_here <| block_n <| tn <| ac_ent hent <| rg <| am k k <| ae (x_add k k) k <| aa k k <| an <| tn ?_
    obtain rfl := so h
    exact ⟨_, k, (ent_mk (σ := sg [(0, 0), (1, 1), (2, 2), (3, 3), (4, 4)]) ⟨(pE k k), (pE k k), (pE k k), (e1 k k), (pE k k), (e1 k k), trivial⟩ (hP k k k k <| hP k k k k <| hP k k k k <| hX ⟨_, k, k, .inr ⟨_, _, k, ⟨_, _, k, k, ⟨_, _, k, k, ⟨_, _, k, ⟨k, k, k, k⟩, k⟩⟩⟩, k⟩⟩ k <| hI k k k <| trivial) k)⟩
  ·refine ac_condF k q2 <| ac_exit <| then_exit <| then_exit ?_
   obtain rfl := so h
   exact ⟨_, k, k, (ent_mk (σ := sg [(0, 2), (1, 3), (2, 4)]) ⟨(pE k k), (pE k k), trivial⟩ (hP k k k k <| hX ⟨_, k, k, .inr ⟨_, _, k, ⟨_, _, k, k, ⟨_, _, k, k, ⟨_, _, k, ⟨k, k, k, k⟩, k⟩⟩⟩, k⟩⟩ k <| hI k k k <| trivial) k)⟩
 ·rintro e t ⟨rfl, hent⟩
  refine block_here <| tn <| ac_ent hent <| sQ <| rg <| ae (w_load_ptr TT_ok k k k k k k k) k <| ae (w_store TT_ok k k k k k k k k) k <| an <| tn <| ac_ret ?_
  obtain rfl := so h
  exact ret_mk k k k (xz_agg (x1_cons (k) (x1_cons (k) (x1_cons (x_f1 okI k k) x1_nil))))

end Go.Proofs.YtdhjmmnjapkmkaaGreat
end

section
set_option linter.unusedVariables false
set_option linter.unusedSimpArgs false

namespace Go.Proofs.YtdhjmmnjapkmkaaGreat
open Go.RowKit
set_option linter.unusedVariables false
set_option linter.unusedSimpArgs false
set_option maxRecDepth 10000
set_option maxHeartbeats 4000000

end Go.Proofs.YtdhjmmnjapkmkaaGreat
end

section
set_option linter.unusedVariables false
set_option linter.unusedSimpArgs false

namespace Go.Proofs.YtdhjmmnjapkmkaaGreat
open Go.RowKit
set_option linter.unusedVariables false
def dN (r : Rp) (k : Nat) : Nat := (r.dims[k]?.getD 0).toNat
theorem rep_maps {r : Rp} (h : repV r = true) : isF r.p = true ∧ dimsV r.q r.dims = true ∧ r.maps.length = r.q.src.length ∧ ∀ k, k < r.maps.length → matV r.p (r.maps[k]?.getD ⟨0, 0, []⟩) = true ∧ (r.maps[k]?.getD ⟨0, 0, []⟩).cols = r.dims[(r.q.src[k]?.getD 0).toNat]?.getD 0 ∧ (r.maps[k]?.getD ⟨0, 0, []⟩).rows = r.dims[(r.q.tgt[k]?.getD 0).toNat]?.getD 0 := by
 unfold repV at h
 simp only [Bool.and_eq_true, decide_eq_true_eq, range_all] at h
 exact ⟨h.1, h.2.1, by omega, h.2.2.2⟩
theorem sq {a b : Nat} (ha : a ≤ 4) (hb : b ≤ 4) : a * b ≤ 1048576 := by have := Nat.mul_le_mul ha hb; omega
theorem flat_tab (c : Nat) (f : Nat → Nat → Int) : ∀ n, ((List.range n).map fun i => rowL c (f i)).flatten = tabM n c f
 | 0 => by simp [tabM]
 | n + 1 => by
  rw [List.range_succ, List.map_append, List.flatten_append, flat_tab c f n]
  unfold tabM
  rw [Nat.succ_mul, List.range_add, List.map_append]
  congr 1
  simp only [List.map_cons, List.map_nil, List.flatten_cons, List.flatten_nil, List.append_nil, List.map_map, rowL]
  refine List.map_congr_left fun j hj => ?_
  have hj := List.mem_range.1 hj
  simp only [Function.comp]
  rw [ix_div hj, ix_mod hj]
end Go.Proofs.YtdhjmmnjapkmkaaGreat
end

section
set_option linter.unusedVariables false
set_option linter.unusedSimpArgs false

namespace Go.Proofs.YtdhjmmnjapkmkaaGreat
open Go.RowKit
set_option linter.unusedVariables false
def sN (f : Nat → Int) : Nat → Int
 | 0 => 0
 | k + 1 => sN f k + f k
theorem sN_congr {f g : Nat → Int} : ∀ {n : Nat}, (∀ k, k < n → f k = g k) → sN f n = sN g n
 | 0, _ => rfl
 | n + 1, h => by rw [sN, sN, sN_congr fun k hk => h k (by omega), h n (by omega)]
theorem sN_add (f g : Nat → Int) : ∀ n, sN (fun k => f k + g k) n = sN f n + sN g n
 | 0 => rfl
 | n + 1 => by rw [sN, sN, sN, sN_add f g n]; omega
theorem sN_zero : ∀ n, sN (fun _ => 0) n = 0
 | 0 => rfl
 | n + 1 => by rw [sN, sN_zero n]; rfl
theorem sN_one {f : Nat → Int} {j : Nat} : ∀ {n : Nat}, j < n → (∀ k, k < n → k ≠ j → f k = 0) → sN f n = f j
 | 0, h, _ => absurd h (Nat.not_lt_zero _)
 | n + 1, h, hz => by
  rw [sN]
  by_cases e : j = n
  ·subst e
   rw [sN_congr (g := fun _ => 0) fun k hk => hz k (by omega) (by omega), sN_zero]; omega
  ·rw [sN_one (j := j) (by omega) fun k hk hj => hz k (by omega) hj, hz n (by omega) (by omega)]; omega
end Go.Proofs.YtdhjmmnjapkmkaaGreat
end

section
set_option linter.unusedVariables false
set_option linter.unusedSimpArgs false

namespace Go.Proofs.YtdhjmmnjapkmkaaGreat
open Go.RowKit
set_option linter.unusedVariables false
def off (l : Nat → Nat) : Nat → Nat
 | 0 => 0
 | k + 1 => off l k + l k
theorem off_le {l : Nat → Nat} {i k : Nat} (h : i ≤ k) : off l i ≤ off l k := by
 induction k with
 | zero => have : i = 0 := by omega
           subst this; exact Nat.le_refl _
 | succ k ih =>
  rcases Nat.lt_or_ge k i with h' | h'
  ·have : i = k + 1 := by omega
   subst this; exact Nat.le_refl _
  ·have := ih h'
   show off l i ≤ off l k + l k
   omega
theorem off_lt {l : Nat → Nat} {i k y : Nat} (hi : i < k) (hy : y < l i) : off l i + y < off l k := by
 have := @off_le l (i + 1) k hi
 have e : off l (i + 1) = off l i + l i := rfl
 omega
theorem off_dec {l : Nat → Nat} : ∀ {k x : Nat}, x < off l k → ∃ i y, i < k ∧ y < l i ∧ x = off l i + y
 | 0, x, h => absurd h (Nat.not_lt_zero _)
 | k + 1, x, h => by
  rcases Nat.lt_or_ge x (off l k) with h' | h'
  ·obtain ⟨i, y, h1, h2, h3⟩ := off_dec h'
   exact ⟨i, y, by omega, h2, h3⟩
  ·have e : off l (k + 1) = off l k + l k := rfl
   exact ⟨k, x - off l k, by omega, by omega, by omega⟩
theorem off_inj {l : Nat → Nat} {i j y z : Nat} (hy : y < l i) (hz : z < l j) (h : off l i + y = off l j + z) : i = j ∧ y = z := by
 have e1 : off l (i + 1) = off l i + l i := rfl
 have e2 : off l (j + 1) = off l j + l j := rfl
 rcases Nat.lt_trichotomy i j with h1 | h1 | h1
 ·have := @off_le l (i + 1) j h1; omega
 ·subst h1; exact ⟨rfl, by omega⟩
 ·have := @off_le l (j + 1) i h1; omega
def cat (l : Nat → Nat) (f : Nat → Nat → Int) : Nat → List Int
 | 0 => []
 | k + 1 => cat l f k ++ (List.range (l k)).map (f k)
theorem cat_len (l : Nat → Nat) (f : Nat → Nat → Int) : ∀ k, (cat l f k).length = off l k
 | 0 => rfl
 | k + 1 => by rw [cat, off, List.length_append, cat_len l f k]; simp
theorem cat_get {l : Nat → Nat} (f : Nat → Nat → Int) : ∀ {k i y : Nat}, i < k → y < l i → (cat l f k)[off l i + y]? = some (f i y)
 | 0, i, y, h, _ => absurd h (Nat.not_lt_zero _)
 | k + 1, i, y, h, hy => by
  rw [cat]
  by_cases e : i = k
  ·subst e
   rw [List.getElem?_append_right (by rw [cat_len]; omega), cat_len, Nat.add_sub_cancel_left]
   simp [hy]
  ·rw [List.getElem?_append_left (by rw [cat_len]; exact off_lt (by omega) hy)]
   exact cat_get f (by omega) hy
theorem cat_ext {l : Nat → Nat} {f : Nat → Nat → Int} {k : Nat} {v : List Int} (hv : v.length = off l k) (h : ∀ i y, i < k → y < l i → v[off l i + y]? = some (f i y)) : v = cat l f k := by
 refine List.ext_getElem (by rw [cat_len, hv]) fun x h1 h2 => ?_
 obtain ⟨i, y, hi, hy, rfl⟩ := off_dec (hv ▸ h1)
 have a := h i y hi hy
 have b := cat_get f hi hy
 rw [List.getElem?_eq_getElem h1] at a
 rw [List.getElem?_eq_getElem h2] at b
 exact (Option.some.inj a).trans (Option.some.inj b).symm
theorem cat_congr {l : Nat → Nat} {f g : Nat → Nat → Int} {k : Nat} (h : ∀ i y, i < k → y < l i → f i y = g i y) : cat l f k = cat l g k :=
 cat_ext (cat_len l f k) fun i y hi hy => by rw [cat_get f hi hy, h i y hi hy]
theorem cat_set {l : Nat → Nat} {f : Nat → Nat → Int} {k i y : Nat} (hi : i < k) (hy : y < l i) (v : Int) : (cat l f k).set (off l i + y) v = cat l (fun a b => if a = i ∧ b = y then v else f a b) k := by
 refine cat_ext (by rw [List.length_set, cat_len]) fun a b ha hb => ?_
 rw [List.getElem?_set]
 by_cases e : off l i + y = off l a + b
 ·obtain ⟨rfl, rfl⟩ := off_inj hy hb e
  rw [if_pos rfl, if_pos (by rw [cat_len]; exact off_lt hi hy), if_pos ⟨rfl, rfl⟩]
 ·rw [if_neg e, if_neg (by rintro ⟨rfl, rfl⟩; exact e rfl), cat_get f ha hb]
theorem cat_zero (l : Nat → Nat) (k : Nat) : List.replicate (off l k) (0 : Int) = cat l (fun _ _ => 0) k := cat_ext (by simp) fun i y hi hy => by simp [off_lt hi hy]
theorem cat_take {l : Nat → Nat} {f : Nat → Nat → Int} {k : Nat} : ∀ {n : Nat}, k < n → ((cat l f n).drop (off l k)).take (l k) = (List.range (l k)).map (f k) := by
 intro n hk
 refine List.ext_getElem ?_ fun x h1 h2 => ?_
 ·have := @off_le l (k + 1) n hk
  have e : off l (k + 1) = off l k + l k := rfl
  simp [cat_len]; omega
 ·have hx : x < l k := by simpa using h2
  rw [List.getElem_take, List.getElem_drop]
  have := cat_get f hk hx
  rw [List.getElem?_eq_getElem (by rw [cat_len]; exact off_lt hk hx)] at this
  simp [Option.some.inj this]
theorem tab_of {r c : Nat} {g : Nat → Int} {F : Nat → Nat → Int} (h : ∀ y, y < r * c → g y = F (y / c) (y % c)) : (List.range (r * c)).map g = tabM r c F := List.map_congr_left fun y hy => h y (List.mem_range.1 hy)
theorem divmod {r c y : Nat} (h : y < r * c) : y / c < r ∧ y % c < c := by
 have hc : 0 < c := by rcases Nat.eq_zero_or_pos c with rfl | h'; simp at h; exact h'
 exact ⟨Nat.div_lt_of_lt_mul (by rw [Nat.mul_comm]; exact h), Nat.mod_lt _ hc⟩
theorem div_mul_mod {c y : Nat} : y / c * c + y % c = y := by rw [Nat.mul_comm]; exact Nat.div_add_mod y c
end Go.Proofs.YtdhjmmnjapkmkaaGreat
end

section
set_option linter.unusedVariables false
set_option linter.unusedSimpArgs false

namespace Go.Proofs.YtdhjmmnjapkmkaaGreat
open Go.RowKit
set_option linter.unusedVariables false
def sV (r : Rp) (i : Nat) : Nat := (r.q.src[i]?.getD 0).toNat
def tV (r : Rp) (i : Nat) : Nat := (r.q.tgt[i]?.getD 0).toNat
def aF (r : Rp) (i : Nat) : Nat → Nat → Int := fun j k => (r.maps[i]?.getD ⟨0, 0, []⟩).cells[j * dN r (sV r i) + k]?.getD 0
structure Rv (r : Rp) : Prop where
 hp : isF r.p = true
 n5 : r.dims.length ≤ 5
 d : ∀ k, k < r.dims.length → r.dims[k]?.getD 0 = (dN r k : Int) ∧ dN r k ≤ 4
 e6 : r.q.src.length ≤ 6
 tl : r.q.tgt.length = r.q.src.length
 ml : r.maps.length = r.q.src.length
 s : ∀ i, i < r.q.src.length → r.q.src[i]?.getD 0 = (sV r i : Int) ∧ sV r i < r.dims.length
 t : ∀ i, i < r.q.src.length → r.q.tgt[i]?.getD 0 = (tV r i : Int) ∧ tV r i < r.dims.length
 m : ∀ i, i < r.q.src.length → r.maps[i]?.getD ⟨0, 0, []⟩ = ⟨dN r (tV r i), dN r (sV r i), tabM (dN r (tV r i)) (dN r (sV r i)) (aF r i)⟩ ∧ InP r.p (dN r (tV r i)) (dN r (sV r i)) (aF r i)
theorem rv_of {r : Rp} (h : repV r = true) : Rv r := by
 obtain ⟨hp, hD, hml, hM⟩ := rep_maps h
 obtain ⟨hQ, hd1, hd2, _⟩ := dimsV_parts hD
 obtain ⟨n, hn, hn1, hn5, hq1, hq2, hq3, hq4⟩ := quivV_parts hQ
 have hdl : r.dims.length = n := by omega
 have hd : ∀ k, k < r.dims.length → r.dims[k]?.getD 0 = (dN r k : Int) ∧ dN r k ≤ 4 := by
  intro k hk
  have := hd2 _ (mem_get 0 hk)
  unfold dN
  omega
 have hs : ∀ i, i < r.q.src.length → r.q.src[i]?.getD 0 = (sV r i : Int) ∧ sV r i < r.dims.length := by
  intro i hi
  have := hq3 _ (mem_get 0 hi)
  unfold sV
  omega
 have ht : ∀ i, i < r.q.src.length → r.q.tgt[i]?.getD 0 = (tV r i : Int) ∧ tV r i < r.dims.length := by
  intro i hi
  have := hq4 _ (mem_get 0 (show i < r.q.tgt.length by omega))
  unfold tV
  omega
 refine ⟨hp, by omega, hd, hq2, by omega, hml, hs, ht, fun i hi => ?_⟩
 obtain ⟨g1, g2, g3⟩ := hM i (by omega)
 rw [show (r.q.src[i]?.getD 0).toNat = sV r i from rfl, (hd _ (hs i hi).2).1] at g2
 rw [show (r.q.tgt[i]?.getD 0).toNat = tV r i from rfl, (hd _ (ht i hi).2).1] at g3
 obtain ⟨_, a, b, F, ha, hb, he, hF⟩ := matV_parts g1
 have ea : a = dN r (tV r i) := by rw [he] at g3; simp only at g3; omega
 have eb : b = dN r (sV r i) := by rw [he] at g2; simp only at g2; omega
 have em : ∀ j k, j < a → k < b → aF r i j k = F j k := by
  intro j k hj hk
  unfold aF
  rw [he, ← eb]
  simp only
  rw [tabM_get F hj hk]; rfl
 subst ea; subst eb
 rw [he]
 refine ⟨?_, fun j k hj hk => by rw [em j k hj hk]; exact hF j k hj hk⟩
 rw [tabM_congr em]
structure Fit (a b : Rp) : Prop where
 ra : Rv a
 rb : Rv b
 pe : b.p = a.p
 qe : b.q = a.q
 ne : b.dims.length = a.dims.length
theorem fit_of {a b : Rp} (h1 : repV a = true) (h2 : repV b = true) (hp : a.p = b.p) (hq : a.q = b.q) : Fit a b := by
 refine ⟨rv_of h1, rv_of h2, hp.symm, hq.symm, ?_⟩
 have e1 := (dimsV_parts (rep_maps h1).2.1).2.1
 have e2 := (dimsV_parts (rep_maps h2).2.1).2.1
 rw [hq] at e1
 omega
theorem Fit.sV {a b : Rp} (h : Fit a b) (i : Nat) : sV b i = sV a i := by unfold Proofs.YtdhjmmnjapkmkaaGreat.sV; rw [h.qe]
theorem Fit.tV {a b : Rp} (h : Fit a b) (i : Nat) : tV b i = tV a i := by unfold Proofs.YtdhjmmnjapkmkaaGreat.tV; rw [h.qe]
def lV (a b : Rp) (v : Nat) : Nat := dN b v * dN a v
def lE (a b : Rp) (i : Nat) : Nat := dN b (tV a i) * dN a (sV a i)
theorem off_bd {l : Nat → Nat} {c : Nat} : ∀ {k : Nat}, (∀ i, i < k → l i ≤ c) → off l k ≤ c * k
 | 0, _ => Nat.zero_le _
 | k + 1, h => by
  have h1 := off_bd (c := c) (k := k) fun i hi => h i (by omega)
  have h2 := h k (by omega)
  show off l k + l k ≤ c * (k + 1)
  rw [Nat.mul_succ]; omega
theorem Fit.lV {a b : Rp} (h : Fit a b) {v : Nat} (hv : v < a.dims.length) : lV a b v ≤ 16 := Nat.mul_le_mul (h.rb.d v (by rw [h.ne]; exact hv)).2 (h.ra.d v hv).2
theorem Fit.lE {a b : Rp} (h : Fit a b) {i : Nat} (hi : i < a.q.src.length) : lE a b i ≤ 16 := Nat.mul_le_mul (h.rb.d _ (by rw [h.ne]; exact (h.ra.t i hi).2)).2 (h.ra.d _ (h.ra.s i hi).2).2
theorem Fit.offV {a b : Rp} (h : Fit a b) {v : Nat} (hv : v ≤ a.dims.length) : off (Proofs.YtdhjmmnjapkmkaaGreat.lV a b) v ≤ 80 := by
 have := off_bd (l := Proofs.YtdhjmmnjapkmkaaGreat.lV a b) (c := 16) (k := v) fun i hi => h.lV (by omega)
 have := h.ra.n5
 omega
theorem Fit.offE {a b : Rp} (h : Fit a b) {i : Nat} (hi : i ≤ a.q.src.length) : off (Proofs.YtdhjmmnjapkmkaaGreat.lE a b) i ≤ 96 := by
 have := off_bd (l := Proofs.YtdhjmmnjapkmkaaGreat.lE a b) (c := 16) (k := i) fun j hj => h.lE (by omega)
 have := h.ra.e6
 omega
theorem map_get {α : Type} {f : Nat → α} {n k : Nat} (h : k < n) : atL ((List.range n).map f) (k : Int) = some (f k) := by rw [atL_nat (by simp; exact h)]; simp
theorem snoc_map {α : Type} {f : Nat → α} {k : Nat} : (List.range k).map f ++ [f k] = (List.range (k + 1)).map f := by rw [List.range_succ, List.map_append]; rfl
theorem n_zeros {a b : Rp} (h : Fit a b) : m_impl_zeros a b = some ((List.range a.dims.length).map fun v => (⟨dN b v, dN a v, tabM (dN b v) (dN a v) fun _ _ => 0⟩ : Mt)) := by
 have n5 := h.ra.n5
 unfold m_impl_zeros
 rw [Lp_go (r := (List.range a.dims.length).map fun v => (⟨dN b v, dN a v, tabM (dN b v) (dN a v) fun _ _ => 0⟩ : Mt)) (fun k => ((List.range k).map fun v => (⟨dN b v, dN a v, tabM (dN b v) (dN a v) fun _ _ => 0⟩ : Mt), (k : Int))) a.dims.length (by simp) (fun k hk => ?_) (fun _ => ?_), Option.bind_some]
 ·have hkb : k < b.dims.length := by rw [h.ne]; exact hk
  unfold m_impl_zeros_L1
  simp only
  rw [dlt hk, cond_true, atG 0 hk, Option.bind_some, atG 0 hkb, Option.bind_some, (h.ra.d k hk).1, (h.rb.d k hkb).1, n_zero (sq (h.rb.d k hkb).2 (h.ra.d k hk).2), Option.bind_some, decide_eq_true (by simp; omega), cond_true, wr_suc hk (by omega), snoc_map (f := fun v => (⟨dN b v, dN a v, tabM (dN b v) (dN a v) fun _ _ => 0⟩ : Mt))]
 ·unfold m_impl_zeros_L1
  simp only
  rw [dnl (Nat.le_refl _), cond_false]
theorem n_cocycleZeros {a b : Rp} (h : Fit a b) : m_impl_cocycleZeros a b = some ((List.range a.q.src.length).map fun i => (⟨dN b (tV a i), dN a (sV a i), tabM (dN b (tV a i)) (dN a (sV a i)) fun _ _ => 0⟩ : Mt)) := by
 have e6 := h.ra.e6
 have tl := h.ra.tl
 unfold m_impl_cocycleZeros
 rw [Lp_go (r := (List.range a.q.src.length).map fun i => (⟨dN b (tV a i), dN a (sV a i), tabM (dN b (tV a i)) (dN a (sV a i)) fun _ _ => 0⟩ : Mt)) (fun k => ((List.range k).map fun i => (⟨dN b (tV a i), dN a (sV a i), tabM (dN b (tV a i)) (dN a (sV a i)) fun _ _ => 0⟩ : Mt), (k : Int))) a.q.src.length (by simp) (fun k hk => ?_) (fun _ => ?_), Option.bind_some]
 ·obtain ⟨s1, s2⟩ := h.ra.s k hk
  obtain ⟨t1, t2⟩ := h.ra.t k hk
  have t3 : tV a k < b.dims.length := by rw [h.ne]; exact t2
  unfold m_impl_cocycleZeros_L1
  simp only
  rw [dlt hk, cond_true, atG 0 hk, Option.bind_some, atG 0 (by omega), Option.bind_some, t1, atG 0 t3, Option.bind_some, s1, atG 0 s2, Option.bind_some, (h.ra.d _ s2).1, (h.rb.d _ t3).1, n_zero (sq (h.rb.d _ t3).2 (h.ra.d _ s2).2), Option.bind_some, decide_eq_true (by simp; omega), cond_true, wr_suc hk (by omega), snoc_map (f := fun i => (⟨dN b (tV a i), dN a (sV a i), tabM (dN b (tV a i)) (dN a (sV a i)) fun _ _ => 0⟩ : Mt))]
 ·unfold m_impl_cocycleZeros_L1
  simp only
  rw [dnl (Nat.le_refl _), cond_false]
theorem n_flat {k : Nat} {r c : Nat → Int} {l : Nat → Nat} {f : Nat → Nat → Int} (hk : k ≤ 1048576) (hl : off l k ≤ 1048576) : m_impl_flat ((List.range k).map fun v => (⟨r v, c v, (List.range (l v)).map (f v)⟩ : Mt)) = some (cat l f k) := by
 unfold m_impl_flat
 rw [Lp_go (r := cat l f k) (fun j => (cat l f j, (j : Int))) k (by simp [cat]) (fun j hj => ?_) (fun _ => ?_), Option.bind_some]
 ·unfold m_impl_flat_L1
  simp only
  have h1 := @off_le l (j + 1) k hj
  have e : off l (j + 1) = off l j + l j := rfl
  rw [List.length_map, List.length_range, dlt hj, cond_true, map_get hj, Option.bind_some]
  simp only
  rw [cat_len, List.length_map, List.length_range, decide_eq_true (by omega), cond_true, wr_suc hj (by omega)]
  rfl
 ·unfold m_impl_flat_L1
  simp only
  rw [List.length_map, List.length_range, dnl (Nat.le_refl _), cond_false]
theorem n_shaped {k : Nat} {r c : Nat → Int} {z : Nat → List Int} {l : Nat → Nat} {f : Nat → Nat → Int} (hk : k ≤ 1048576) (hl : off l k ≤ 1048576) (hz : ∀ v, v < k → (z v).length = l v) : m_impl_shaped ((List.range k).map fun v => (⟨r v, c v, z v⟩ : Mt)) (cat l f k) = some ((List.range k).map fun v => (⟨r v, c v, (List.range (l v)).map (f v)⟩ : Mt)) := by
 unfold m_impl_shaped
 rw [Lp_go (r := (List.range k).map fun v => (⟨r v, c v, (List.range (l v)).map (f v)⟩ : Mt)) (fun j => ((cat l f k).drop (off l j), (List.range j).map (fun v => (⟨r v, c v, (List.range (l v)).map (f v)⟩ : Mt)), (j : Int))) k (by simp [off]) (fun j hj => ?_) (fun _ => ?_), Option.bind_some]
 ·unfold m_impl_shaped_L1
  simp only
  have h1 := @off_le l (j + 1) k hj
  have e : off l (j + 1) = off l j + l j := rfl
  rw [List.length_map, List.length_range, dlt hj, cond_true, map_get hj, Option.bind_some]
  simp only
  rw [hz j hj, List.length_drop, cat_len]
  simp only [Int.toNat_natCast, Int.toNat_zero, List.drop_zero, Nat.sub_zero]
  rw [cat_take hj]
  unfold m_Clone
  rw [decide_eq_true (by omega : (0 : Int) ≤ ((l j : Nat) : Int)), decide_eq_true (by omega : ((l j : Nat) : Int) ≤ ((off l k - off l j : Nat) : Int))]
  simp only [decide_true, Bool.and_self, cond_true, Int.le_refl]
  have q1 : decide (((List.range (l j)).map (f j)).length ≤ 1048576) = true := decide_eq_true (by simp only [List.length_map, List.length_range]; omega)
  have q2 : decide (((List.range j).map fun v => (⟨r v, c v, (List.range (l v)).map (f v)⟩ : Mt)).length + 1 ≤ 4294967296) = true := decide_eq_true (by simp only [List.length_map, List.length_range]; omega)
  simp only [q1, Bool.and_self, cond_true, Option.bind_some]
  rw [q2, cond_true, wr_suc hj (by omega), snoc_map (f := fun v => (⟨r v, c v, (List.range (l v)).map (f v)⟩ : Mt)), List.drop_drop, List.take_of_length_le (by simp [cat_len]; omega)]
  rfl
 ·unfold m_impl_shaped_L1
  simp only
  rw [List.length_map, List.length_range, dnl (Nat.le_refl _), cond_false]
theorem n_plus {p : Int} (hp : isF p = true) {r c : Nat} (hN : r * c ≤ 1048576) {r' c' : Int} {F G : Nat → Nat → Int} (hF : InP p r c F) (hG : InP p r c G) {k : Int} (hk : 0 ≤ k ∧ k ≤ 5) :
  m_impl_plus p ⟨r, c, tabM r c F⟩ k ⟨r', c', tabM r c G⟩ = some ⟨r, c, tabM r c fun i j => (F i j + k * G i j) % p⟩ := by
 have e1 : ∀ H : Nat → Nat → Int, tabM r c H = tabM 1 (r * c) (fun _ y => H (y / c) (y % c)) := by
  intro H
  unfold tabM
  rw [Nat.one_mul]
  refine List.map_congr_left fun y hy => ?_
  rw [Nat.mod_eq_of_lt (List.mem_range.1 hy)]
 have e2 : tabM r c G = rowL (r * c) (fun y => G (y / c) (y % c)) := rfl
 unfold m_impl_plus m_impl_Matrix_clone m_Clone
 simp only
 rw [tabM_len, decide_eq_true hN, cond_true, Option.bind_some, Option.bind_some]
 simp only
 have := n_addMul hp (r := 1) (c := r * c) (i := 0) hN (by omega) (F := fun _ y => F (y / c) (y % c)) (g := fun y => G (y / c) (y % c)) hk (fun y hy => hF _ _ (divmod hy).1 (divmod hy).2) (fun y hy => hG _ _ (divmod hy).1 (divmod hy).2)
 rw [Nat.zero_mul, ← e2, ← e1] at this
 rw [tabM_len, this, Option.bind_some, tabM_len, Nat.one_mul, decide_eq_true rfl, cond_true, e1 (fun i j => (F i j + k * G i j) % p)]
 congr 2
 refine tabM_congr fun a y ha hy => ?_
 unfold addF
 rw [if_pos (by omega)]
def cobF (a b : Rp) (P : Nat → Nat → Nat → Int) (i : Nat) : Nat → Nat → Int := fun r k =>
 (mulF a.p (dN b (sV a i)) (aF b i) (P (sV a i)) r k + (a.p - 1) * mulF a.p (dN a (tV a i)) (P (tV a i)) (aF a i) r k) % a.p
theorem n_coboundary {a b : Rp} (h : Fit a b) {P : Nat → Nat → Nat → Int} (hP : ∀ v, v < a.dims.length → InP a.p (dN b v) (dN a v) (P v)) :
  m_impl_coboundary a b ((List.range a.dims.length).map fun v => (⟨dN b v, dN a v, tabM (dN b v) (dN a v) (P v)⟩ : Mt)) = some ((List.range a.q.src.length).map fun i => (⟨dN b (tV a i), dN a (sV a i), tabM (dN b (tV a i)) (dN a (sV a i)) (cobF a b P i)⟩ : Mt)) := by
 have e6 := h.ra.e6
 have tl := h.ra.tl
 have hb := isF_bd h.ra.hp
 unfold m_impl_coboundary
 rw [Lp_go (r := (List.range a.q.src.length).map fun i => (⟨dN b (tV a i), dN a (sV a i), tabM (dN b (tV a i)) (dN a (sV a i)) (cobF a b P i)⟩ : Mt)) (fun k => ((List.range k).map fun i => (⟨dN b (tV a i), dN a (sV a i), tabM (dN b (tV a i)) (dN a (sV a i)) (cobF a b P i)⟩ : Mt), (k : Int))) a.q.src.length (by simp) (fun k hk => ?_) (fun _ => ?_), Option.bind_some]
 ·obtain ⟨s1, s2⟩ := h.ra.s k hk
  obtain ⟨t1, t2⟩ := h.ra.t k hk
  have s3 : sV a k < b.dims.length := by rw [h.ne]; exact s2
  have t3 : tV a k < b.dims.length := by rw [h.ne]; exact t2
  have hkb : k < b.q.src.length := by rw [h.qe]; exact hk
  obtain ⟨m1, m2⟩ := h.ra.m k hk
  obtain ⟨g1, g2⟩ := h.rb.m k hkb
  rw [h.sV, h.tV] at g1 g2
  rw [h.pe] at g2
  have da := h.ra.d _ s2
  have da2 := h.ra.d _ t2
  have db := h.rb.d _ s3
  have db2 := h.rb.d _ t3
  unfold m_impl_coboundary_L1
  simp only
  rw [dlt hk, cond_true, atG 0 hk, Option.bind_some, atG ⟨0, 0, []⟩ (by rw [h.rb.ml]; exact hkb), Option.bind_some, g1, s1, map_get s2, Option.bind_some]
  rw [n_times h.ra.hp (sq db2.2 db.2) (sq db.2 da.2) (sq db2.2 da.2) (by omega) (by omega) (by omega) g2 (hP _ s2), Option.bind_some, atG 0 (by omega), Option.bind_some, t1, map_get t2, Option.bind_some, atG ⟨0, 0, []⟩ (by rw [h.ra.ml]; exact hk), Option.bind_some, m1]
  rw [n_times h.ra.hp (sq db2.2 da2.2) (sq da2.2 da.2) (sq db2.2 da.2) (by omega) (by omega) (by omega) (hP _ t2) m2, Option.bind_some, wr_sm (by omega)]
  rw [n_plus h.ra.hp (sq db2.2 da.2) (mulF_in h.ra.hp _ _ _ _ _) (mulF_in h.ra.hp _ _ _ _ _) (by omega), Option.bind_some, decide_eq_true (by simp; omega), cond_true, wr_suc hk (by omega)]
  have := snoc_map (f := fun i => (⟨dN b (tV a i), dN a (sV a i), tabM (dN b (tV a i)) (dN a (sV a i)) (cobF a b P i)⟩ : Mt)) (k := k)
  rw [← this]
  rfl
 ·unfold m_impl_coboundary_L1
  simp only
  rw [dnl (Nat.le_refl _), cond_false]
theorem n_fromColumns {R N : Nat} (hN : R * N ≤ 1048576) (h1 : R ≤ 1048576) (h2 : N ≤ 1048576) (M : Nat → Nat → Int) : m_impl_fromColumns R ((List.range N).map fun k => rowL R fun i => M i k) = some ⟨R, N, tabM R N M⟩ := by
 unfold m_impl_fromColumns
 rw [List.length_map, List.length_range, n_zero hN, Option.bind_some]
 simp only
 rw [Lp_go (r := tabM R N M) (fun k => (tabM R N (fun i j => if j < k then M i j else 0), (k : Int))) N (by simp) (fun k hk => ?_) (fun _ => ?_), Option.bind_some]
 ·unfold m_impl_fromColumns_L1
  simp only
  rw [List.length_map, List.length_range, dlt hk, cond_true, map_get hk, Option.bind_some]
  rw [Lp_go (r := tabM R N (fun i j => if j < k + 1 then M i j else 0)) (fun x => (tabM R N (fun i j => if j < k ∨ (j = k ∧ i < x) then M i j else 0), (x : Int))) R (by simp) (fun x hx => ?_) (fun _ => ?_), Option.bind_some, wr_suc hk (by omega)]
  ·unfold m_impl_fromColumns_L2
   simp only
   rw [rowL_len, dlt hx, cond_true, rowL_at _ hx, Option.bind_some, atT hN hx hk, Option.bind_some, setT hN hx hk, wr_suc hx (by omega)]
   congr 3
   refine tabM_congr fun i j hi hj => ?_
   simp only [setF]
   by_cases e : i = x ∧ j = k
   ·rw [if_pos e, if_pos (by omega), e.1, e.2]
   ·rw [if_neg e]
    by_cases e2 : j < k ∨ j = k ∧ i < x
    ·rw [if_pos e2, if_pos (by omega)]
    ·rw [if_neg e2, if_neg (by omega)]
  ·unfold m_impl_fromColumns_L2
   simp only
   rw [rowL_len, dnl (Nat.le_refl _), cond_false]
   congr 2
   refine tabM_congr fun i j hi hj => ?_
   by_cases e : j < k + 1
   ·rw [if_pos e, if_pos (by omega)]
   ·rw [if_neg e, if_neg (by omega)]
 ·unfold m_impl_fromColumns_L1
  simp only
  rw [List.length_map, List.length_range, dnl (Nat.le_refl _), cond_false]
  congr 2
  exact tabM_congr fun i j hi hj => by rw [if_pos hj]
def eF (a b : Rp) (i r k v j l : Nat) : Int := ((if sV a i = v ∧ k = l then aF b i r j else 0) - (if tV a i = v ∧ r = j then aF a i l k else 0)) % a.p
def e2 (a b : Rp) (i y v z : Nat) : Int := eF a b i (y / dN a (sV a i)) (y % dN a (sV a i)) v (z / dN a v) (z % dN a v)
def mE (a b : Rp) : Nat → Nat → Int := fun x k => (cat (lE a b) (fun i y => (cat (lV a b) (e2 a b i y) a.dims.length)[k]?.getD 0) a.q.src.length)[x]?.getD 0
def nE (a b : Rp) : Nat := off (lE a b) a.q.src.length
def nV (a b : Rp) : Nat := off (lV a b) a.dims.length
theorem mE_in {a b : Rp} (h : Fit a b) : InP a.p (nE a b) (nV a b) (mE a b) := by
 intro x k hx hk
 obtain ⟨i, y, hi, hy, rfl⟩ := off_dec hx
 obtain ⟨v, z, hv, hz, rfl⟩ := off_dec hk
 unfold mE
 rw [cat_get _ hi hy, Option.getD_some, cat_get _ hv hz, Option.getD_some]
 exact emod_bd h.ra.hp
theorem dotS_sN (F G : Nat → Nat → Int) (i j : Nat) : ∀ k, dotS F G i j k = sN (fun t => F i t * G t j) k
 | 0 => rfl
 | k + 1 => by rw [dotS, sN, dotS_sN F G i j k]
def unP (a : Rp) (v0 z0 : Nat) : Nat → Nat → Nat → Int := fun v j l => if v = v0 ∧ j * dN a v + l = z0 then 1 else 0
theorem unP_in {a : Rp} (hp : isF a.p = true) (v0 z0 v m n : Nat) : InP a.p m n (unP a v0 z0 v) := by
 have hb := isF_bd hp
 intro i j _ _
 unfold unP
 split <;> omega
theorem cob_unit {a b : Rp} (h : Fit a b) {v0 z0 i r k : Nat} (hv : v0 < a.dims.length) (hz : z0 < lV a b v0) (hi : i < a.q.src.length) (hr : r < dN b (tV a i)) (hk : k < dN a (sV a i)) :
  cobF a b (unP a v0 z0) i r k = eF a b i r k v0 (z0 / dN a v0) (z0 % dN a v0) := by
 have hb := isF_bd h.ra.hp
 obtain ⟨hj0, hl0⟩ := divmod hz
 have key : ∀ v j l, l < dN a v → (v = v0 ∧ j * dN a v + l = z0 ↔ v = v0 ∧ j = z0 / dN a v0 ∧ l = z0 % dN a v0) := by
  intro v j l hl
  constructor
  ·rintro ⟨rfl, rfl⟩
   exact ⟨rfl, (ix_div hl).symm, (ix_mod hl).symm⟩
  ·rintro ⟨rfl, rfl, rfl⟩
   exact ⟨rfl, div_mul_mod⟩
 have e1 : mulF a.p (dN b (sV a i)) (aF b i) (unP a v0 z0 (sV a i)) r k = (if sV a i = v0 ∧ k = z0 % dN a v0 then aF b i r (z0 / dN a v0) else 0) % a.p := by
  unfold mulF
  rw [dotS_sN]
  by_cases e : sV a i = v0 ∧ k = z0 % dN a v0
  ·rw [if_pos e, sN_one (j := z0 / dN a v0) (by rw [e.1]; exact hj0)]
   ·unfold unP
    rw [if_pos ((key _ _ _ hk).2 ⟨e.1, rfl, e.2⟩), Int.mul_one]
   ·intro t ht htj
    unfold unP
    rw [if_neg fun g => htj ((key _ _ _ hk).1 g).2.1, Int.mul_zero]
  ·rw [if_neg e, sN_congr (g := fun _ => 0), sN_zero]
   intro t ht
   unfold unP
   rw [if_neg fun g => e ⟨((key _ _ _ hk).1 g).1, ((key _ _ _ hk).1 g).2.2⟩, Int.mul_zero]
 have e2 : mulF a.p (dN a (tV a i)) (unP a v0 z0 (tV a i)) (aF a i) r k = (if tV a i = v0 ∧ r = z0 / dN a v0 then aF a i (z0 % dN a v0) k else 0) % a.p := by
  unfold mulF
  rw [dotS_sN]
  by_cases e : tV a i = v0 ∧ r = z0 / dN a v0
  ·rw [if_pos e, sN_one (j := z0 % dN a v0) (by rw [e.1]; exact hl0)]
   ·unfold unP
    rw [if_pos ((key _ _ _ (by rw [e.1]; exact hl0)).2 ⟨e.1, e.2, rfl⟩), Int.one_mul]
   ·intro t ht htj
    unfold unP
    rw [if_neg fun g => htj ((key _ _ _ ht).1 g).2.2, Int.zero_mul]
  ·rw [if_neg e, sN_congr (g := fun _ => 0), sN_zero]
   intro t ht
   unfold unP
   rw [if_neg fun g => e ⟨((key _ _ _ ht).1 g).1, ((key _ _ _ ht).1 g).2.1⟩, Int.zero_mul]
 unfold cobF eF
 rw [e1, e2]
 generalize (if sV a i = v0 ∧ k = z0 % dN a v0 then aF b i r (z0 / dN a v0) else 0) = x
 generalize (if tV a i = v0 ∧ r = z0 / dN a v0 then aF a i (z0 % dN a v0) k else 0) = y
 rw [show x % a.p + (a.p - 1) * (y % a.p) = (x % a.p - y % a.p) + a.p * (y % a.p) by rw [Int.sub_mul]; omega, Int.add_mul_emod_self_left]
 exact (Int.sub_emod x y a.p).symm
theorem n_boundaries {a b : Rp} (h : Fit a b) : m_impl_boundaries a b = some ⟨nE a b, nV a b, tabM (nE a b) (nV a b) (mE a b)⟩ := by
 have n5 := h.ra.n5
 have e6 := h.ra.e6
 have bV := h.offV (Nat.le_refl _)
 have bE := h.offE (Nat.le_refl _)
 unfold m_impl_boundaries
 rw [n_zeros h, Option.bind_some]
 have z1 : m_impl_flat ((List.range a.dims.length).map fun v => (⟨dN b v, dN a v, tabM (dN b v) (dN a v) fun _ _ => 0⟩ : Mt)) = some (cat (lV a b) (fun _ _ => 0) a.dims.length) := n_flat (l := lV a b) (f := fun _ _ => 0) (by omega) (by omega)
 have z2 : m_impl_flat ((List.range a.q.src.length).map fun i => (⟨dN b (tV a i), dN a (sV a i), tabM (dN b (tV a i)) (dN a (sV a i)) fun _ _ => 0⟩ : Mt)) = some (cat (lE a b) (fun _ _ => 0) a.q.src.length) := n_flat (l := lE a b) (f := fun _ _ => 0) (by omega) (by omega)
 rw [z1, Option.bind_some]
 rw [Lp_go (r := (List.range (nV a b)).map fun k => rowL (nE a b) fun x => mE a b x k) (fun k => ((List.range k).map (fun k => rowL (nE a b) fun x => mE a b x k), (k : Int))) (nV a b) (by simp) (fun k hk => ?_) (fun _ => ?_), Option.bind_some, n_cocycleZeros h, Option.bind_some, z2, Option.bind_some, cat_len]
 ·have := n_fromColumns (R := nE a b) (N := nV a b) (Nat.le_trans (Nat.mul_le_mul bE bV) (by decide)) (by unfold nE; omega) (by unfold nV; omega) (mE a b)
  unfold nE at this ⊢
  rw [this, Option.bind_some]
 ·obtain ⟨v0, z0, hv0, hz0, ek⟩ := off_dec hk
  unfold m_impl_boundaries_L1
  simp only [cat_len]
  rw [show off (lV a b) a.dims.length = nV a b from rfl, dlt hk, cond_true, decide_eq_true (by omega), decide_eq_true (by unfold nV; omega : ((nV a b : Nat) : Int) ≤ 1048576), Bool.and_self, cond_true, Int.toNat_natCast, Int.toNat_natCast, atL_nat (by simp; exact hk), Option.bind_some]
  have eu : (List.replicate (nV a b) (0 : Int)).set k 1 = cat (lV a b) (fun v z => if v = v0 ∧ z = z0 then 1 else 0) a.dims.length := by
   unfold nV
   rw [cat_zero, ek, cat_set hv0 hz0]
  rw [eu, n_shaped (l := lV a b) (r := fun v => (dN b v : Int)) (c := fun v => (dN a v : Int)) (z := fun v => tabM (dN b v) (dN a v) fun _ _ => 0) (by omega) (by omega) (fun v _ => tabM_len _ _ _), Option.bind_some]
  have eb : ((List.range a.dims.length).map fun v => (⟨dN b v, dN a v, (List.range (lV a b v)).map (fun z => if v = v0 ∧ z = z0 then (1 : Int) else 0)⟩ : Mt)) = (List.range a.dims.length).map fun v => (⟨dN b v, dN a v, tabM (dN b v) (dN a v) (unP a v0 z0 v)⟩ : Mt) := by
   refine List.map_congr_left fun v hv => ?_
   congr 1
   refine tab_of fun y hy => ?_
   unfold unP
   rw [div_mul_mod]
  rw [eb, n_coboundary h (fun v _ => unP_in h.ra.hp _ _ _ _ _), Option.bind_some]
  have ef : m_impl_flat ((List.range a.q.src.length).map fun i => (⟨dN b (tV a i), dN a (sV a i), tabM (dN b (tV a i)) (dN a (sV a i)) (cobF a b (unP a v0 z0) i)⟩ : Mt)) = some (cat (lE a b) (fun i y => cobF a b (unP a v0 z0) i (y / dN a (sV a i)) (y % dN a (sV a i))) a.q.src.length) := n_flat (l := lE a b) (f := fun i y => cobF a b (unP a v0 z0) i (y / dN a (sV a i)) (y % dN a (sV a i))) (by omega) (by omega)
  rw [ef, Option.bind_some, decide_eq_true (by simp; unfold nV at hk; omega), cond_true, wr_suc hk (by unfold nV; omega), ← snoc_map (f := fun k => rowL (nE a b) fun x => mE a b x k)]
  congr 5
  symm
  refine cat_ext (by rw [rowL_len]; rfl) fun i y hi hy => ?_
  have hx : off (lE a b) i + y < nE a b := off_lt hi hy
  unfold rowL
  rw [List.getElem?_map, List.getElem?_range hx, Option.map_some]
  congr 1
  obtain ⟨q1, q2⟩ := divmod hy
  rw [cob_unit h hv0 hz0 hi q1 q2]
  unfold mE
  rw [cat_get _ hi hy, Option.getD_some, ek, cat_get _ hv0 hz0, Option.getD_some]
  rfl
 ·unfold m_impl_boundaries_L1
  simp only [cat_len]
  rw [show off (lV a b) a.dims.length = nV a b from rfl, dnl (Nat.le_refl _), cond_false]
end Go.Proofs.YtdhjmmnjapkmkaaGreat
end

section
set_option linter.unusedVariables false
set_option linter.unusedSimpArgs false

namespace Go.Proofs.YtdhjmmnjapkmkaaGreat
open Go.RowKit
set_option linter.unusedVariables false
theorem n_l4Has {L : List Nat} (hL : L.length ≤ 1048576) (k : Nat) : m_spec_l4Has (castL L) k = some (L.contains k) := by
 unfold m_spec_l4Has
 rw [Lp_any (n := L.length) (fun i => decide (L[i]?.getD 0 = k)) true (by omega) (fun i hi => ?_) (fun _ => ?_), Option.bind_some]
 ·have e : (List.range L.length).any (fun i => decide (L[i]?.getD 0 = k)) = L.contains k := by
   rw [Bool.eq_iff_iff, List.any_eq_true, List.contains_iff_mem]
   constructor
   ·rintro ⟨i, hi, he⟩
    have hi := List.mem_range.1 hi
    have he := of_decide_eq_true he
    rw [List.getElem?_eq_getElem hi, Option.getD_some] at he
    subst he
    exact List.getElem_mem hi
   ·intro h
    obtain ⟨i, hi, rfl⟩ := List.mem_iff_getElem.1 h
    exact ⟨i, List.mem_range.2 hi, by simp [hi]⟩
  rw [e]
  cases L.contains k <;> rfl
 ·unfold m_spec_l4Has_L1
  rw [castL_len, dlt hi, cond_true, atG 0 (by rw [castL_len]; exact hi), Option.bind_some]
  have e : decide ((castL L)[i]?.getD 0 = (k : Int)) = decide (L[i]?.getD 0 = k) := by
   rw [Bool.eq_iff_iff, decide_eq_true_eq, decide_eq_true_eq]
   simp [castL, hi]
   omega
  rw [e]
  cases decide (L[i]?.getD 0 = k) <;> rfl
 ·unfold m_spec_l4Has_L1
  rw [castL_len, dnl (Nat.le_refl _), cond_false]
theorem castL_at {L : List Nat} {i : Nat} (h : i < L.length) : atL (castL L) (i : Int) = some ((L[i]?.getD 0 : Nat) : Int) := by
 rw [atL_nat (by rw [castL_len]; exact h)]; simp [castL, h]
theorem Fit.lA {a b : Rp} (h : Fit a b) {v : Nat} (hv : v < a.dims.length) : wr ((dN a v : Int) * (dN b v : Int)) = ((Proofs.YtdhjmmnjapkmkaaGreat.lV a b v : Nat) : Int) := by
 have := h.lV hv
 unfold Proofs.YtdhjmmnjapkmkaaGreat.lV at *
 rw [Nat.mul_comm] at this ⊢
 exact wmul (by omega)
theorem n_l11At {a b : Rp} (h : Fit a b) {v : Nat} (hv : v ≤ a.dims.length) : m_spec_l11At a b v = some ((off (lV a b) v : Nat) : Int) := by
 have n5 := h.ra.n5
 unfold m_spec_l11At
 rw [Lp_go (r := ((off (lV a b) v : Nat) : Int)) (fun k => (((off (lV a b) k : Nat) : Int), (k : Int))) v (by rfl) (fun k hk => ?_) (fun _ => ?_), Option.bind_some]
 ·have hka : k < a.dims.length := by omega
  have hkb : k < b.dims.length := by rw [h.ne]; exact hka
  have ho := h.offV (v := k + 1) (by omega)
  have e : off (lV a b) (k + 1) = off (lV a b) k + lV a b k := rfl
  unfold m_spec_l11At_L1
  simp only
  rw [dlt hk, cond_true, atG 0 hka, Option.bind_some, atG 0 hkb, Option.bind_some, (h.ra.d k hka).1, (h.rb.d k hkb).1, h.lA hka, wr_suc hk (by omega), wr_sm (by omega), e]
  simp
 ·unfold m_spec_l11At_L1
  simp only
  rw [dnl (Nat.le_refl _), cond_false]
theorem n_l11Size {a b : Rp} (h : Fit a b) : m_spec_l11Size a b = some (nV a b : Int) := by
 have n5 := h.ra.n5
 unfold m_spec_l11Size
 rw [Lp_go (r := (nV a b : Int)) (fun k => (((off (lV a b) k : Nat) : Int), (k : Int))) a.dims.length (by rfl) (fun k hk => ?_) (fun _ => ?_), Option.bind_some]
 ·have hkb : k < b.dims.length := by rw [h.ne]; exact hk
  have ho := h.offV (v := k + 1) (by omega)
  have e : off (lV a b) (k + 1) = off (lV a b) k + lV a b k := rfl
  unfold m_spec_l11Size_L1
  simp only
  rw [dlt hk, cond_true, atG 0 hk, Option.bind_some, atG 0 hkb, Option.bind_some, (h.ra.d k hk).1, (h.rb.d k hkb).1, h.lA hk, wr_suc hk (by omega), wr_sm (by omega), e]
  simp
 ·unfold m_spec_l11Size_L1
  simp only
  rw [dnl (Nat.le_refl _), cond_false]
  rfl
def rowA (a b : Rp) (i r k j : Nat) : Nat → Nat → Int := fun v z => if v = sV a i ∧ z % dN a v = k ∧ z / dN a v < j then aF b i r (z / dN a v) else 0
def rowB (a b : Rp) (i r k j : Nat) : Nat → Nat → Int := fun v z => if v = tV a i ∧ z / dN a v = r ∧ z % dN a v < j then (rowA a b i r k (dN b (sV a i)) v z - aF a i (z % dN a v) k) % a.p else rowA a b i r k (dN b (sV a i)) v z
theorem tabM_snoc (r c : Nat) (F : Nat → Nat → Int) : tabM r c F ++ rowL c (F r) = tabM (r + 1) c F := by
 rw [← flat_tab c F r, ← flat_tab c F (r + 1), List.range_succ, List.map_append, List.flatten_append]
 simp
theorem n_eqRow {a b : Rp} (h : Fit a b) {i r k : Nat} (hi : i < a.q.src.length) (hr : r < dN b (tV a i)) (hk : k < dN a (sV a i)) (x1 x2 x3 : Int × List Int × Int) (e1 : x1.2.2 = i) (e2' : x2.2.2 = r) (e3 : x3.2.2 = k) :
  ∃ y, Lp (m_spec_l11Equations_L4 a b (sV a i) x1 x2 x3) (List.replicate (nV a b) 0, 0) = some y ∧ Lp (m_spec_l11Equations_L5 a b (sV a i) (tV a i) x1 x2 x3) (y, 0) = some (cat (lV a b) (e2 a b i (r * dN a (sV a i) + k)) a.dims.length) := by
 have hb := isF_bd h.ra.hp
 have n5 := h.ra.n5
 obtain ⟨s1, s2⟩ := h.ra.s i hi
 obtain ⟨t1, t2⟩ := h.ra.t i hi
 have s3 : sV a i < b.dims.length := by rw [h.ne]; exact s2
 have t3 : tV a i < b.dims.length := by rw [h.ne]; exact t2
 have hib : i < b.q.src.length := by rw [h.qe]; exact hi
 obtain ⟨m1, m2⟩ := h.ra.m i hi
 obtain ⟨g1, g2⟩ := h.rb.m i hib
 rw [h.sV, h.tV] at g1 g2
 rw [h.pe] at g2
 have da := h.ra.d _ s2
 have da2 := h.ra.d _ t2
 have db := h.rb.d _ s3
 have db2 := h.rb.d _ t3
 have oS := h.offV (v := sV a i + 1) s2
 have oT := h.offV (v := tV a i + 1) t2
 have eS : off (lV a b) (sV a i + 1) = off (lV a b) (sV a i) + lV a b (sV a i) := rfl
 have eT : off (lV a b) (tV a i + 1) = off (lV a b) (tV a i) + lV a b (tV a i) := rfl
 refine ⟨cat (lV a b) (rowA a b i r k (dN b (sV a i))) a.dims.length, ?_, ?_⟩
 ·refine Lp_go (fun j => (cat (lV a b) (rowA a b i r k j) a.dims.length, (j : Int))) (dN b (sV a i)) ?_ (fun j hj => ?_) (fun _ => ?_)
  ·unfold nV
   rw [cat_zero]
   congr 1
   exact cat_congr fun v z _ _ => by unfold rowA; rw [if_neg fun q => absurd q.2.2 (Nat.not_lt_zero _)]
  ·have hz : j * dN a (sV a i) + k < lV a b (sV a i) := ix_lt hj hk
   have hpos : wr (wr (((off (lV a b) (sV a i) : Nat) : Int) + wr ((j : Int) * (dN a (sV a i) : Int))) + (k : Int)) = ((off (lV a b) (sV a i) + (j * dN a (sV a i) + k) : Nat) : Int) := by
    rw [wmul (by omega), wr_sm (x := ((off (lV a b) (sV a i) : Nat) : Int) + ((j * dN a (sV a i) : Nat) : Int)) (by omega), wr_sm (by omega)]; omega
   have hw := g2 r j hr hj
   unfold m_spec_l11Equations_L4
   simp only [e1, e2', e3]
   rw [atG 0 s3, Option.bind_some, db.1, dlt hj, cond_true, n_l11At h (by omega), Option.bind_some, atG 0 s2, Option.bind_some, da.1, hpos, atL_nat (by rw [cat_len]; exact off_lt s2 hz)]
   rw [Option.bind_some, atG ⟨0, 0, []⟩ (by rw [h.rb.ml]; exact hib), Option.bind_some, Option.bind_some, g1]
   simp only
   rw [atT (sq db2.2 db.2) hr hj, Option.bind_some]
   have hv0 : (cat (lV a b) (rowA a b i r k j) a.dims.length)[off (lV a b) (sV a i) + (j * dN a (sV a i) + k)]'(by rw [cat_len]; exact off_lt s2 hz) = 0 := by
    have := cat_get (rowA a b i r k j) s2 hz
    rw [List.getElem?_eq_getElem (by rw [cat_len]; exact off_lt s2 hz)] at this
    rw [Option.some.inj this]
    unfold rowA
    rw [if_neg]
    rw [ix_div hk]
    omega
   rw [hv0, Int.zero_add, wr_sm (by omega), n_l2Mod h.ra.hp (by omega), Option.bind_some, Option.bind_some, Int.toNat_natCast, cat_set s2 hz, wr_suc hj (by omega), Int.emod_eq_of_lt hw.1 hw.2]
   congr 3
   refine cat_congr fun v z hv hz2 => ?_
   by_cases e : v = sV a i ∧ z = j * dN a (sV a i) + k
   ·obtain ⟨rfl, rfl⟩ := e
    rw [if_pos ⟨rfl, rfl⟩]
    unfold rowA
    rw [ix_div hk, ix_mod hk, if_pos ⟨rfl, rfl, Nat.lt_succ_self _⟩]
   ·rw [if_neg e]
    unfold rowA
    by_cases e4 : v = sV a i ∧ z % dN a v = k ∧ z / dN a v < j
    ·rw [if_pos e4, if_pos ⟨e4.1, e4.2.1, by omega⟩]
    ·rw [if_neg e4, if_neg]
     rintro ⟨q1, q2, q3⟩
     have q4 : z / dN a v = j := by
      rcases Nat.lt_or_ge (z / dN a v) j with h' | h'
      ·exact absurd ⟨q1, q2, h'⟩ e4
      ·omega
     refine e ⟨q1, ?_⟩
     rw [← @div_mul_mod (dN a v) z, q4, q2, q1]
  ·unfold m_spec_l11Equations_L4
   simp only [e1, e2', e3]
   rw [atG 0 s3, Option.bind_some, db.1, dnl (Nat.le_refl _), cond_false]
 ·refine Lp_go (fun j => (cat (lV a b) (rowB a b i r k j) a.dims.length, (j : Int))) (dN a (tV a i)) ?_ (fun j hj => ?_) (fun _ => ?_)
  ·congr 1
   exact cat_congr fun v z _ _ => by unfold rowB; rw [if_neg fun q => absurd q.2.2 (Nat.not_lt_zero _)]
  ·have hz : r * dN a (tV a i) + j < lV a b (tV a i) := ix_lt hr hj
   have hpos : wr (wr (((off (lV a b) (tV a i) : Nat) : Int) + wr ((r : Int) * (dN a (tV a i) : Int))) + (j : Int)) = ((off (lV a b) (tV a i) + (r * dN a (tV a i) + j) : Nat) : Int) := by
    rw [wmul (by omega), wr_sm (x := ((off (lV a b) (tV a i) : Nat) : Int) + ((r * dN a (tV a i) : Nat) : Int)) (by omega), wr_sm (by omega)]; omega
   have hw := m2 j k hj hk
   unfold m_spec_l11Equations_L5
   simp only [e1, e2', e3]
   rw [atG 0 t2, Option.bind_some, da2.1, dlt hj, cond_true, n_l11At h (by omega), Option.bind_some, Option.bind_some, hpos, atL_nat (by rw [cat_len]; exact off_lt t2 hz)]
   rw [Option.bind_some, atG ⟨0, 0, []⟩ (by rw [h.ra.ml]; exact hi), Option.bind_some, atG 0 s2, Option.bind_some, m1, da.1]
   simp only
   rw [atT (sq da2.2 da.2) hj hk, Option.bind_some]
   have hv0 : (cat (lV a b) (rowB a b i r k j) a.dims.length)[off (lV a b) (tV a i) + (r * dN a (tV a i) + j)]'(by rw [cat_len]; exact off_lt t2 hz) = rowA a b i r k (dN b (sV a i)) (tV a i) (r * dN a (tV a i) + j) := by
    have := cat_get (rowB a b i r k j) t2 hz
    rw [List.getElem?_eq_getElem (by rw [cat_len]; exact off_lt t2 hz)] at this
    rw [Option.some.inj this]
    unfold rowB
    rw [if_neg]
    rw [ix_mod hj]
    omega
   have hbA : 0 ≤ rowA a b i r k (dN b (sV a i)) (tV a i) (r * dN a (tV a i) + j) ∧ rowA a b i r k (dN b (sV a i)) (tV a i) (r * dN a (tV a i) + j) ≤ 5 := by
    unfold rowA
    split
    ·rename_i q
     have := g2 r ((r * dN a (tV a i) + j) / dN a (tV a i)) hr q.2.2
     omega
    ·omega
   rw [hv0]
   generalize hA : rowA a b i r k (dN b (sV a i)) (tV a i) (r * dN a (tV a i) + j) = A at *
   rw [wr_sm (x := A - aF a i j k) (by omega), n_l2Mod h.ra.hp (by omega), Option.bind_some, Option.bind_some, Int.toNat_natCast, cat_set t2 hz, wr_suc hj (by omega)]
   congr 3
   refine cat_congr fun v z hv hz2 => ?_
   by_cases e : v = tV a i ∧ z = r * dN a (tV a i) + j
   ·obtain ⟨rfl, rfl⟩ := e
    rw [if_pos ⟨rfl, rfl⟩]
    unfold rowB
    rw [ix_div hj, ix_mod hj, if_pos ⟨rfl, rfl, Nat.lt_succ_self _⟩, hA]
   ·rw [if_neg e]
    unfold rowB
    by_cases e4 : v = tV a i ∧ z / dN a v = r ∧ z % dN a v < j
    ·rw [if_pos e4, if_pos ⟨e4.1, e4.2.1, by omega⟩]
    ·rw [if_neg e4, if_neg]
     rintro ⟨q1, q2, q3⟩
     have q4 : z % dN a v = j := by
      rcases Nat.lt_or_ge (z % dN a v) j with h' | h'
      ·exact absurd ⟨q1, q2, h'⟩ e4
      ·omega
     refine e ⟨q1, ?_⟩
     rw [← @div_mul_mod (dN a v) z, q4, q2, q1]
  ·unfold m_spec_l11Equations_L5
   simp only [e1, e2', e3]
   rw [atG 0 t2, Option.bind_some, da2.1, dnl (Nat.le_refl _), cond_false]
   congr 2
   refine cat_congr fun v z hv hz2 => ?_
   have hzb : z < dN b v * dN a v := hz2
   obtain ⟨q1, q2⟩ := divmod hzb
   have eA : rowA a b i r k (dN b (sV a i)) v z = if sV a i = v ∧ k = z % dN a v then aF b i r (z / dN a v) else 0 := by
    unfold rowA
    by_cases e : sV a i = v ∧ k = z % dN a v
    ·rw [if_pos e, if_pos ⟨e.1.symm, e.2.symm, by rw [e.1]; exact q1⟩]
    ·rw [if_neg e, if_neg fun q => e ⟨q.1.symm, q.2.1.symm⟩]
   unfold rowB e2 eF
   rw [eA, ix_div hk, ix_mod hk]
   by_cases e : tV a i = v ∧ r = z / dN a v
   ·rw [if_pos ⟨e.1.symm, e.2.symm, by rw [e.1]; exact q2⟩, if_pos e]
   ·rw [if_neg fun q => e ⟨q.1.symm, q.2.1.symm⟩, if_neg e, Int.sub_zero]
    split
    ·rename_i q
     have hw := g2 r (z / dN a v) hr (by rw [q.1]; exact q1)
     exact (Int.emod_eq_of_lt hw.1 hw.2).symm
    ·simp
theorem row_mE {a b : Rp} {i y : Nat} (hi : i < a.q.src.length) (hy : y < lE a b i) : cat (lV a b) (e2 a b i y) a.dims.length = rowL (nV a b) (mE a b (off (lE a b) i + y)) := by
 symm
 refine cat_ext (by rw [rowL_len]; rfl) fun v z hv hz => ?_
 have hk : off (lV a b) v + z < nV a b := off_lt hv hz
 unfold rowL
 rw [List.getElem?_map, List.getElem?_range hk, Option.map_some]
 congr 1
 unfold mE
 rw [cat_get _ hi hy, Option.getD_some, cat_get _ hv hz, Option.getD_some]
theorem n_l11Equations {a b : Rp} (h : Fit a b) : m_spec_l11Equations a b = some ⟨nE a b, nV a b, tabM (nE a b) (nV a b) (mE a b)⟩ := by
 have n5 := h.ra.n5
 have e6 := h.ra.e6
 have bV := h.offV (Nat.le_refl _)
 have bE := h.offE (Nat.le_refl _)
 have tl := h.ra.tl
 have ml := h.ra.ml
 have hV : nV a b ≤ 80 := bV
 unfold m_spec_l11Equations
 rw [n_l11Size h, Option.bind_some]
 rw [Lp_go (r := ((nE a b : Int), tabM (nE a b) (nV a b) (mE a b))) (fun i => (((off (lE a b) i : Nat) : Int), tabM (off (lE a b) i) (nV a b) (mE a b), (i : Int))) a.q.src.length (by simp [off, tabM]) (fun i hi => ?_) (fun _ => ?_), Option.bind_some]
 ·obtain ⟨s1, s2⟩ := h.ra.s i hi
  obtain ⟨t1, t2⟩ := h.ra.t i hi
  have t3 : tV a i < b.dims.length := by rw [h.ne]; exact t2
  have da := h.ra.d _ s2
  have db2 := h.rb.d _ t3
  have oE := h.offE (i := i + 1) hi
  have eE : off (lE a b) (i + 1) = off (lE a b) i + dN b (tV a i) * dN a (sV a i) := rfl
  unfold m_spec_l11Equations_L1
  simp only
  rw [ml, dlt hi, cond_true, atG 0 hi, Option.bind_some, s1, atG 0 (by omega), Option.bind_some, t1]
  rw [Lp_go (r := (((off (lE a b) (i + 1) : Nat) : Int), tabM (off (lE a b) (i + 1)) (nV a b) (mE a b))) (fun r => (((off (lE a b) i + r * dN a (sV a i) : Nat) : Int), tabM (off (lE a b) i + r * dN a (sV a i)) (nV a b) (mE a b), (r : Int))) (dN b (tV a i)) (by simp) (fun r hr => ?_) (fun _ => ?_), Option.bind_some, wr_suc hi (by omega)]
  ·unfold m_spec_l11Equations_L2
   simp only
   rw [atG 0 t3, Option.bind_some, db2.1, dlt hr, cond_true]
   rw [Lp_go (r := (((off (lE a b) i + (r + 1) * dN a (sV a i) : Nat) : Int), tabM (off (lE a b) i + (r + 1) * dN a (sV a i)) (nV a b) (mE a b))) (fun k => (((off (lE a b) i + r * dN a (sV a i) + k : Nat) : Int), tabM (off (lE a b) i + r * dN a (sV a i) + k) (nV a b) (mE a b), (k : Int))) (dN a (sV a i)) (by simp) (fun k hk => ?_) (fun _ => ?_), Option.bind_some, wr_suc hr (by omega)]
   ·unfold m_spec_l11Equations_L3
    simp only
    have hy : r * dN a (sV a i) + k < lE a b i := ix_lt hr hk
    have hx : off (lE a b) i + (r * dN a (sV a i) + k) < nE a b := off_lt hi hy
    have hx2 : nE a b ≤ 96 := bE
    have hsz : (off (lE a b) i + r * dN a (sV a i) + k) * nV a b ≤ 96 * 80 := Nat.mul_le_mul (by omega) hV
    rw [atG 0 s2, Option.bind_some, da.1, dlt hk, cond_true, decide_eq_true (by omega), decide_eq_true (by omega : (nV a b : Int) ≤ 1048576), Bool.and_self, cond_true, Int.toNat_natCast]
    obtain ⟨y, y1, y2⟩ := n_eqRow h hi hr hk (((off (lE a b) i : Nat) : Int), tabM (off (lE a b) i) (nV a b) (mE a b), (i : Int)) (((off (lE a b) i + r * dN a (sV a i) : Nat) : Int), tabM (off (lE a b) i + r * dN a (sV a i)) (nV a b) (mE a b), (r : Int)) (((off (lE a b) i + r * dN a (sV a i) + k : Nat) : Int), tabM (off (lE a b) i + r * dN a (sV a i) + k) (nV a b) (mE a b), (k : Int)) rfl rfl rfl
    rw [y1, Option.bind_some, y2, Option.bind_some, row_mE hi hy, tabM_len, rowL_len, decide_eq_true (by omega), cond_true, wr_suc hk (by omega), wr_sm (by omega), ← Nat.add_assoc, tabM_snoc]
    congr 2
   ·unfold m_spec_l11Equations_L3
    simp only
    rw [atG 0 s2, Option.bind_some, da.1, dnl (Nat.le_refl _), cond_false, Nat.succ_mul, Nat.add_assoc]
  ·unfold m_spec_l11Equations_L2
   simp only
   rw [atG 0 t3, Option.bind_some, db2.1, dnl (Nat.le_refl _), cond_false, eE]
 ·unfold m_spec_l11Equations_L1
  simp only
  rw [ml, dnl (Nat.le_refl _), cond_false]
  rfl
end Go.Proofs.YtdhjmmnjapkmkaaGreat
end

section
set_option linter.unusedVariables false
set_option linter.unusedSimpArgs false

namespace Go.Proofs.YtdhjmmnjapkmkaaGreat
open Go.RowKit
set_option linter.unusedVariables false
def fitV (a b : Rp) : Bool := repV a && (repV b && (decide (a.p = b.p) && decide (a.q = b.q)))
theorem fitV_fit {a b : Rp} (h : fitV a b = true) : Fit a b := by
 unfold fitV at h
 simp only [Bool.and_eq_true, decide_eq_true_eq] at h
 exact fit_of h.1 h.2.1 h.2.2.1 h.2.2.2
end Go.Proofs.YtdhjmmnjapkmkaaGreat
end

section
set_option linter.unusedVariables false
set_option linter.unusedSimpArgs false

namespace Go.Proofs.YtdhjmmnjapkmkaaGreat
open Go.RowKit
set_option linter.unusedVariables false
set_option linter.unusedSimpArgs false
set_option maxRecDepth 10000
set_option maxHeartbeats 4000000

noncomputable def m_laws_eqIntSS_L1 (a0 : (List (List Int))) (a1 : (List (List Int))) (x1 : Int) : Option (Int ⊕ (Unit ⊕ Bool)) :=
  bif decide (x1 < (a0.length : Int)) then
    (Option.bind (atL a0 x1) fun v3 =>
    Option.bind (atL a1 x1) fun v4 =>
    Option.bind (m_laws_eqIntS v3 v4) fun v5 =>
    bif !v5 then
      (some (.inr (.inr (false))))
    else
      (some (.inl (wr (x1 + 1)))))
  else
    (some (.inr (.inl ())))

noncomputable def m_laws_eqIntSS (a0 : (List (List Int))) (a1 : (List (List Int))) : Option Bool :=
  bif !decide ((a0.length : Int) = (a1.length : Int)) then
    (some (false))
  else
    (Option.bind (Lp (m_laws_eqIntSS_L1 a0 a1) 0) fun y7 =>
    Sum.elim (fun y8 =>
      some (true)
    ) 
    (fun y9 =>
      some y9
    )
     y7)

theorem c_laws_eqIntSS (a0 : (List (List Int))) (a1 : (List (List Int))) (r : Bool) (h : m_laws_eqIntSS a0 a1 = some r) : HasC Tryz.prog 86 [.list 1 (List.map (eLs 1 eI) a0), .list 1 (List.map (eLs 1 eI) a1)] (.bl r) := by
 refine hasC_mk TT_ok (rvs := [.tmp 4]) (ns := [0, 1]) Tryz.func86 k k Tryz.ntmps86 k k k <| sQ <| rg <| aa k k <| an <| tn <| sQ <| sQ <| rg <| am k k ?_
 refine ae (lenL TT_ok k k k) k <| am k k <| ae (lenL TT_ok k k k) k <| ae (w_cmp k k k) k <| an <| tn ?_
 rcases cb h with ⟨q1, h⟩ | ⟨q1, h⟩
 ·refine ac_condT k q1 <| sQ <| rg <| aa k k <| an <| tn <| ac_ret <| then_ret ?_
  obtain rfl := so h
  exact ret_mk k k k (fz_bl k)
 ·refine ac_condF k q1 <| ac_skip <| tn <| sQ <| sQ <| rg <| aa k k <| an <| tn <| ac_block ?_
  obtain ⟨y7, hy7, h⟩ := ob h
  refine ac_Lp (body := (m_laws_eqIntSS_L1 a0 a1)) hy7 (fun (x1 : Int) => mkS [(0, .list 1 (List.map (eLs 1 eI) a0)), (1, .list 1 (List.map (eLs 1 eI) a1)), (5, .int x1)] [] 0 [0, 1]) (fun r e t => Sum.elim (fun a => (fun r e t => e = .exit 0 ∧ Ent t (mkS [] [] 0 [0, 1])) a e t) (fun b => (fun r e t => e = .ret ∧ RetQ TT [.tmp 4] (.bl r) .ret t) b e t) r) (ent_mk (σ := sg []) ⟨⟨_, k, ⟨k, k⟩⟩, ⟨_, k, ⟨k, k⟩⟩, (e1 k k), trivial⟩ trivial k) ?_ ?_
  ·intro x1 o h
   refine sQ <| sQ <| rg <| am k k <| am k k <| ae (lenL TT_ok k k k) k <| ae (w_cmp k k k) k <| an <| tn ?_
   rcases cb h with ⟨q2, h⟩ | ⟨q2, h⟩
   ·refine ac_condT k q2 <| ac_skip <| tn <| sQ <| ac_block <| sQ <| ac_region_draw MIXX <| am k k <| am k k ?_
    obtain ⟨v3, hv3, h⟩ := ob h
    refine ae (x_at_list TT_ok hv3 k k k k k k) k <| ae (w_load_ref TT_ok k k k k k k) k <| am k k <| am k k ?_
    obtain ⟨v4, hv4, h⟩ := ob h
    refine ae (x_at_list TT_ok hv4 k k k k k k) k <| ae (w_load_ref TT_ok k k k k k k) k ?_
    obtain ⟨v5, hv5, h⟩ := ob h
    refine ae (w_call0s (c_laws_eqIntS v3 v4 v5 hv5) k (va_cons (va_same k) (va_cons (va_same k) va_nil))) k <| ae (w_not k) k <| an ?_
    refine ⟨by kernel_rfl, ?_⟩
    refine tn <| ac_ent (t := mkS [(0, .list 1 (List.map (eLs 1 eI) a0)), (1, .list 1 (List.map (eLs 1 eI) a1)), (5, .int x1), (26, .bl (!v5))] [] 0 [0, 1]) (ent_mk (σ := sg []) ⟨⟨_, k, ⟨k, k⟩⟩, ⟨_, k, ⟨k, k⟩⟩, (e1 k k), (e1 k k), trivial⟩ trivial k) ?_
    rcases cb h with ⟨q6, h⟩ | ⟨q6, h⟩
    ·refine ac_condT k q6 <| sQ <| rg <| aa k k <| an <| tn <| ac_ret <| block_ret <| then_ret <| then_ret ?_
     obtain rfl := so h
     exact ⟨_, k, k, ret_mk k k k (fz_bl k)⟩
    ·refine ac_condF k q6 <| ac_skip <| block_n <| tn <| rg <| am k k <| ae (x_add k k) k <| aa k k <| an <| tn ?_
     obtain rfl := so h
     exact ⟨_, k, (ent_mk (σ := sg []) ⟨⟨_, k, ⟨k, k⟩⟩, ⟨_, k, ⟨k, k⟩⟩, (e1 k k), trivial⟩ trivial k)⟩
   ·refine ac_condF k q2 <| ac_exit <| then_exit <| then_exit ?_
    obtain rfl := so h
    exact ⟨_, k, k, (ent_mk (σ := sg []) trivial trivial k)⟩
  ·intro e t hX
   rcases y7 with y8 | y9
   ·obtain ⟨rfl, hent⟩ := hX
    refine block_here <| tn <| ac_ent hent <| sQ <| rg <| aa k k <| an <| tn <| ac_ret ?_
    obtain rfl := so h
    exact ret_mk k k k (fz_bl k)
   ·obtain ⟨rfl, hent⟩ := hX
    refine block_ret <| then_ret ?_
    obtain rfl := so h
    exact hent

noncomputable def m_laws_eqSpace (a0 : Sc) (a1 : Sc) : Option Bool :=
  bif !decide (a0.size = a1.size) then
    (some (false))
  else
    (Option.bind (m_laws_eqIntSS a0.basis a1.basis) fun v2 =>
    bif !v2 then
      (some (false))
    else
      (some (true)))

theorem c_laws_eqSpace (a0 : Sc) (a1 : Sc) (r : Bool) (h : m_laws_eqSpace a0 a1 = some r) : HasC Tryz.prog 64 [.agg (eS a0), .agg (eS a1)] (.bl r) := by
 refine hasC_mk TT_ok (rvs := [.tmp 4]) (ns := [0, 1, 2, 3]) Tryz.func64 k k Tryz.ntmps64 k k k <| sQ <| rg <| ae (w_box k k k k) k <| ae (w_box k k k k) k <| aa k k <| an <| tn <| sQ <| sQ ?_
 refine rg <| ae (w_field_ptr TT_ok k k k k k k k) k <| ae (w_load_ptr TT_ok k k k k k k k) k <| ae (w_field_ptr TT_ok k k k k k k k) k <| ae (w_load_ptr TT_ok k k k k k k k) k <| ae (w_cmp k k k) k <| an <| tn ?_
 rcases cb h with ⟨q1, h⟩ | ⟨q1, h⟩
 ·refine ac_condT k q1 <| sQ <| rg <| aa k k <| an <| tn <| ac_ret <| then_ret ?_
  obtain rfl := so h
  exact ret_mk k k k (fz_bl k)
 ·refine ac_condF k q1 <| ac_skip <| tn <| sQ <| sQ <| rg <| ae (w_field_ptr TT_ok k k k k k k k) k <| ae (w_load_ptr TT_ok k k k k k k k) k <| ae (w_field_ptr TT_ok k k k k k k k) k <| ae (w_load_ptr TT_ok k k k k k k k) k ?_
  obtain ⟨v2, hv2, h⟩ := ob h
  refine ae (w_call0s (c_laws_eqIntSS a0.basis a1.basis v2 hv2) k (va_cons (va_same k) (va_cons (va_same k) va_nil))) k <| ae (w_not k) k <| an <| tn <| ac_ent (t := mkS [(15, .bl (!v2))] [] 2 [2, 3]) (ent_mk (σ := sg []) ⟨(e1 k k), trivial⟩ trivial k) ?_
  rcases cb h with ⟨q3, h⟩ | ⟨q3, h⟩
  ·refine ac_condT k q3 <| sQ <| rg <| aa k k <| an <| tn <| ac_ret <| then_ret ?_
   obtain rfl := so h
   exact ret_mk k k k (fz_bl k)
  ·refine ac_condF k q3 <| ac_skip <| tn <| sQ <| rg <| aa k k <| an <| tn <| ac_ret ?_
   obtain rfl := so h
   exact ret_mk k k k (fz_bl k)

noncomputable def m_laws_eqSpaceS_L1 (a0 : (List Sc)) (a1 : (List Sc)) (x1 : Int) : Option (Int ⊕ (Unit ⊕ Bool)) :=
  bif decide (x1 < (a0.length : Int)) then
    (Option.bind (atL a0 x1) fun v3 =>
    Option.bind (atL a1 x1) fun v4 =>
    Option.bind (m_laws_eqSpace v3 v4) fun v5 =>
    bif !v5 then
      (some (.inr (.inr (false))))
    else
      (some (.inl (wr (x1 + 1)))))
  else
    (some (.inr (.inl ())))

noncomputable def m_laws_eqSpaceS (a0 : (List Sc)) (a1 : (List Sc)) : Option Bool :=
  bif !decide ((a0.length : Int) = (a1.length : Int)) then
    (some (false))
  else
    (Option.bind (Lp (m_laws_eqSpaceS_L1 a0 a1) 0) fun y7 =>
    Sum.elim (fun y8 =>
      some (true)
    ) 
    (fun y9 =>
      some y9
    )
     y7)

theorem c_laws_eqSpaceS (a0 : (List Sc)) (a1 : (List Sc)) (r : Bool) (h : m_laws_eqSpaceS a0 a1 = some r) : HasC Tryz.prog 27 [.list 2 (List.map eS a0), .list 2 (List.map eS a1)] (.bl r) := by
 refine hasC_mk TT_ok (rvs := [.tmp 4]) (ns := [0, 1]) Tryz.func27 k k Tryz.ntmps27 k k k <| sQ <| rg <| aa k k <| an <| tn <| sQ <| sQ <| rg <| am k k ?_
 refine ae (lenL TT_ok k k k) k <| am k k <| ae (lenL TT_ok k k k) k <| ae (w_cmp k k k) k <| an <| tn ?_
 rcases cb h with ⟨q1, h⟩ | ⟨q1, h⟩
 ·refine ac_condT k q1 <| sQ <| rg <| aa k k <| an <| tn <| ac_ret <| then_ret ?_
  obtain rfl := so h
  exact ret_mk k k k (fz_bl k)
 ·refine ac_condF k q1 <| ac_skip <| tn <| sQ <| sQ <| rg <| aa k k <| an <| tn <| ac_block ?_
  obtain ⟨y7, hy7, h⟩ := ob h
  refine ac_Lp (body := (m_laws_eqSpaceS_L1 a0 a1)) hy7 (fun (x1 : Int) => mkS [(0, .list 2 (List.map eS a0)), (1, .list 2 (List.map eS a1)), (5, .int x1)] [] 0 [0, 1]) (fun r e t => Sum.elim (fun a => (fun r e t => e = .exit 0 ∧ Ent t (mkS [] [] 0 [0, 1])) a e t) (fun b => (fun r e t => e = .ret ∧ RetQ TT [.tmp 4] (.bl r) .ret t) b e t) r) (ent_mk (σ := sg []) ⟨⟨_, k, ⟨k, k⟩⟩, ⟨_, k, ⟨k, k⟩⟩, (e1 k k), trivial⟩ trivial k) ?_ ?_
  ·intro x1 o h
   refine sQ <| sQ <| rg <| am k k <| am k k <| ae (lenL TT_ok k k k) k <| ae (w_cmp k k k) k <| an <| tn ?_
   rcases cb h with ⟨q2, h⟩ | ⟨q2, h⟩
   ·refine ac_condT k q2 <| ac_skip <| tn <| sQ <| ac_block <| sQ <| ac_region_draw MIXX <| am k k <| am k k ?_
    obtain ⟨v3, hv3, h⟩ := ob h
    refine ae (x_at_list TT_ok hv3 k k k k k k) k <| ae (w_load_ref TT_ok k k k k k k) k <| am k k <| am k k ?_
    obtain ⟨v4, hv4, h⟩ := ob h
    refine ae (x_at_list TT_ok hv4 k k k k k k) k <| ae (w_load_ref TT_ok k k k k k k) k ?_
    obtain ⟨v5, hv5, h⟩ := ob h
    refine ae (w_call0s (c_laws_eqSpace v3 v4 v5 hv5) k (va_cons (va_agg' (v1_cons (v1_same k) (v1_cons (v1_same k) v1_nil))) (va_cons (va_agg' (v1_cons (v1_same k) (v1_cons (v1_same k) v1_nil))) va_nil))) k <| ae (w_not k) k <| an ?_
    refine ⟨by kernel_rfl, ?_⟩
    refine tn <| ac_ent (t := mkS [(0, .list 2 (List.map eS a0)), (1, .list 2 (List.map eS a1)), (5, .int x1), (26, .bl (!v5))] [] 0 [0, 1]) (ent_mk (σ := sg []) ⟨⟨_, k, ⟨k, k⟩⟩, ⟨_, k, ⟨k, k⟩⟩, (e1 k k), (e1 k k), trivial⟩ trivial k) ?_
    rcases cb h with ⟨q6, h⟩ | ⟨q6, h⟩
    ·refine ac_condT k q6 <| sQ <| rg <| aa k k <| an <| tn <| ac_ret <| block_ret <| then_ret <| then_ret ?_
     obtain rfl := so h
     exact ⟨_, k, k, ret_mk k k k (fz_bl k)⟩
    ·refine ac_condF k q6 <| ac_skip <| block_n <| tn <| rg <| am k k <| ae (x_add k k) k <| aa k k <| an <| tn ?_
     obtain rfl := so h
     exact ⟨_, k, (ent_mk (σ := sg []) ⟨⟨_, k, ⟨k, k⟩⟩, ⟨_, k, ⟨k, k⟩⟩, (e1 k k), trivial⟩ trivial k)⟩
   ·refine ac_condF k q2 <| ac_exit <| then_exit <| then_exit ?_
    obtain rfl := so h
    exact ⟨_, k, k, (ent_mk (σ := sg []) trivial trivial k)⟩
  ·intro e t hX
   rcases y7 with y8 | y9
   ·obtain ⟨rfl, hent⟩ := hX
    refine block_here <| tn <| ac_ent hent <| sQ <| rg <| aa k k <| an <| tn <| ac_ret ?_
    obtain rfl := so h
    exact ret_mk k k k (fz_bl k)
   ·obtain ⟨rfl, hent⟩ := hX
    refine block_ret <| then_ret ?_
    obtain rfl := so h
    exact hent

end Go.Proofs.YtdhjmmnjapkmkaaGreat
end

section
set_option linter.unusedVariables false
set_option linter.unusedSimpArgs false

namespace Go.Proofs.YtdhjmmnjapkmkaaGreat
open Go.RowKit
set_option linter.unusedVariables false
set_option linter.unusedSimpArgs false
end Go.Proofs.YtdhjmmnjapkmkaaGreat
end

section
set_option linter.unusedVariables false
set_option linter.unusedSimpArgs false

namespace Go.Proofs.YtdhjmmnjapkmkaaGreat
open Go.RowKit
set_option linter.unusedVariables false
set_option linter.unusedSimpArgs false
set_option maxRecDepth 10000
set_option maxHeartbeats 4000000

noncomputable def m_spec_l3Transpose_L2 (a0 : Mt) (x1 : ((List Int) × Int)) (x2 : ((List Int) × Int)) : Option (((List Int) × Int) ⊕ (List Int)) :=
  bif decide (x2.2 < a0.cols) then
    (Option.bind (atL a0.cells (wr ((wr (x1.2 * a0.cols)) + x2.2))) fun v4 =>
    Option.bind (atL x2.1 (wr ((wr (x2.2 * a0.rows)) + x1.2))) fun v5 =>
    some (.inl ((x2.1.set ((wr ((wr (x2.2 * a0.rows)) + x1.2)).toNat) v4), wr (x2.2 + 1))))
  else
    (some (.inr x2.1))

noncomputable def m_spec_l3Transpose_L1 (a0 : Mt) (x1 : ((List Int) × Int)) : Option (((List Int) × Int) ⊕ (List Int)) :=
  bif decide (x1.2 < a0.rows) then
    (Option.bind (Lp (m_spec_l3Transpose_L2 a0 x1) (x1.1, 0)) fun y6 =>
    some (.inl (y6, wr (x1.2 + 1))))
  else
    (some (.inr x1.1))

noncomputable def m_spec_l3Transpose (a0 : Mt) : Option Mt :=
  Option.bind (m_spec_l3Zero a0.cols a0.rows) fun v1 =>
  Option.bind (Lp (m_spec_l3Transpose_L1 a0) (v1.cells, 0)) fun y7 =>
  some ((⟨v1.rows, v1.cols, y7⟩ : Mt))

theorem c_spec_l3Transpose (a0 : Mt) (r : Mt) (h : m_spec_l3Transpose a0 = some r) : HasC Tryz.prog 45 [.agg (eM a0)] (.agg (eM r)) := by
 refine hasC_mk TT_ok (rvs := [.cell 2 71]) (ns := [0, 1, 2, 3, 4, 5]) Tryz.func45 k k Tryz.ntmps45 k k k <| sQ <| rg <| ae (w_box k k k k) k <| ae (w_alloc TT_ok k k) k <| an <| tn <| sQ <| rg <| ae (w_field_ptr TT_ok k k k k k k k) k ?_
 refine ae (w_load_ptr TT_ok k k k k k k k) k <| ae (w_field_ptr TT_ok k k k k k k k) k <| ae (w_load_ptr TT_ok k k k k k k k) k ?_
 obtain ⟨v1, hv1, h⟩ := ob h
 refine ae (AEff.conv (w_call0 (x := .agg [.int v1.rows, .int v1.cols, .own 2 0 (List.map eI v1.cells).length]) (nb := [(2, ⟨1, absEs (List.map eI v1.cells)⟩)]) (c_spec_l3Zero a0.cols a0.rows v1 hv1) k (by rfl) k k (g1_cons trivial (g1_cons trivial (g1_cons (okI.good _) g1_nil))) (va_cons (va_same k) (va_cons (va_same k) va_nil))) (v' := .agg [.int v1.rows, .int v1.cols, .own 2 0 v1.cells.length]) (ed' := [(2, some ⟨1, List.map (ow eI) v1.cells⟩)]) (by simp only [len_map]) (ed_ok (nb' := [(2, ⟨1, List.map (ow eI) v1.cells⟩)]) (by simp only [abs_map]))) k <| ae (w_alloc TT_ok k k) k <| ae (w_store TT_ok k k k k k k k k) k <| an <| tn <| sQ <| sQ <| rg <| aa k k <| an ?_
 refine tn <| ac_block ?_
 obtain ⟨y7, hy7, h⟩ := ob h
 refine ac_Lp (body := (m_spec_l3Transpose_L1 a0)) hy7 (fun (x1 : ((List Int) × Int)) => mkS [(1, .ptr 0 0 0), (2, .ptr 1 0 0), (3, .ptr 2 0 0), (4, .int x1.2)] [(0, ⟨3, [[.int a0.rows, .int a0.cols, .list 1 (List.map eI a0.cells)]]⟩), (1, ⟨3, [[.int 0, .int 0, .nil 1]]⟩), (2, ⟨3, [[.int v1.rows, .int v1.cols, .own 3 0 x1.1.length]]⟩), (3, ⟨1, List.map (ow eI) x1.1⟩)] 4 [4, 5]) (fun r e t => e = .exit 0 ∧ Ent t (mkS [(2, .ptr 0 0 0), (3, .ptr 1 0 0)] [(0, ⟨3, [[.int 0, .int 0, .nil 1]]⟩), (1, ⟨3, [[.int v1.rows, .int v1.cols, .own 2 0 r.length]]⟩), (2, ⟨1, List.map (ow eI) r⟩)] 3 [3, 4, 5])) (ent_mk (σ := sg [(0, 0), (1, 1), (2, 3), (3, 2)]) ⟨(pE k k), (pE k k), (pE k k), (e1 k k), trivial⟩ (hP k k k k <| hP k k k k <| hX ⟨_, k, k, .inr ⟨_, _, k, ⟨_, _, k, k, ⟨_, _, k, k, ⟨_, _, k, ⟨k, k, k, k⟩, k⟩⟩⟩, k⟩⟩ k <| hI k k k <| trivial) k) ?_ ?_
 ·intro x1 o h
  refine sQ <| sQ <| rg <| am k k <| ae (w_field_ptr TT_ok k k k k k k k) k <| ae (w_load_ptr TT_ok k k k k k k k) k <| ae (w_cmp k k k) k <| an <| tn ?_
  rcases cb h with ⟨q2, h⟩ | ⟨q2, h⟩
  ·refine ac_condT k q2 <| ac_skip <| tn <| sQ <| ac_block <| sQ <| rg <| aa k k <| an <| tn ?_
   refine ac_block ?_
   obtain ⟨y6, hy6, h⟩ := ob h
   refine ac_Lp (body := (m_spec_l3Transpose_L2 a0 x1)) hy6 (fun (x2 : ((List Int) × Int)) => mkS [(1, .ptr 0 0 0), (2, .ptr 1 0 0), (3, .ptr 2 0 0), (4, .int x1.2), (5, .int x2.2)] [(0, ⟨3, [[.int a0.rows, .int a0.cols, .list 1 (List.map eI a0.cells)]]⟩), (1, ⟨3, [[.int 0, .int 0, .nil 1]]⟩), (2, ⟨3, [[.int v1.rows, .int v1.cols, .own 3 0 x2.1.length]]⟩), (3, ⟨1, List.map (ow eI) x2.1⟩)] 4 [4, 5]) (fun r e t => e = .exit 2 ∧ Ent t (mkS [(1, .ptr 0 0 0), (2, .ptr 1 0 0), (3, .ptr 2 0 0), (4, .int x1.2)] [(0, ⟨3, [[.int a0.rows, .int a0.cols, .list 1 (List.map eI a0.cells)]]⟩), (1, ⟨3, [[.int 0, .int 0, .nil 1]]⟩), (2, ⟨3, [[.int v1.rows, .int v1.cols, .own 3 0 r.length]]⟩), (3, ⟨1, List.map (ow eI) r⟩)] 4 [4, 5])) (ent_mk (σ := sg [(0, 0), (1, 1), (2, 2), (3, 3)]) ⟨(pE k k), (pE k k), (pE k k), (e1 k k), (e1 k k), trivial⟩ (hP k k k k <| hP k k k k <| hX ⟨_, k, k, .inr ⟨_, _, k, ⟨_, _, k, k, ⟨_, _, k, k, ⟨_, _, k, ⟨k, k, k, k⟩, k⟩⟩⟩, k⟩⟩ k <| hI k k k <| trivial) k) ?_ ?_
   ·intro x2 o h
    refine sQ <| sQ <| rg <| am k k <| ae (w_field_ptr TT_ok k k k k k k k) k <| ae (w_load_ptr TT_ok k k k k k k k) k <| ae (w_cmp k k k) k <| an <| tn ?_
    rcases cb h with ⟨q3, h⟩ | ⟨q3, h⟩
    ·refine ac_condT k q3 <| ac_skip <| tn <| sQ <| ac_block <| ac_region_draw MIXX <| ae (w_field_ptr TT_ok k k k k k k k) k <| ae (w_load_ptr TT_ok k k k k k k k) k <| am k k <| ae (w_field_ptr TT_ok k k k k k k k) k ?_
     refine ae (w_load_ptr TT_ok k k k k k k k) k <| ae (x_mul k k) k <| am k k <| ae (x_add k k) k <| ae (w_field_ptr TT_ok k k k k k k k) k <| ae (w_load_ptr TT_ok k k k k k k k) k <| am k k <| ae (w_field_ptr TT_ok k k k k k k k) k <| ae (w_load_ptr TT_ok k k k k k k k) k <| ae (x_mul k k) k ?_
     refine am k k <| ae (x_add k k) k ?_
     obtain ⟨v4, hv4, h⟩ := ob h
     refine ae (x_at_list TT_ok hv4 k k k k k k) k <| ae (w_load_ref TT_ok k k k k k k) k ?_
     obtain ⟨v5, hv5, h⟩ := ob h
     refine ae (x_at_own TT_ok (atL_nn hv5) (atL_lt hv5) k k k k k k k) k <| ae (x_store TT_ok okIo (u := v4) (atL_get hv5) k k k k k k) k <| an ?_
     refine ⟨by kernel_rfl, ?_⟩
     refine block_n <| tn <| ac_ent (t := mkS [(1, .ptr 0 0 0), (2, .ptr 1 0 0), (3, .ptr 2 0 0), (4, .int x1.2), (5, .int x2.2)] [(0, ⟨3, [[.int a0.rows, .int a0.cols, .list 1 (List.map eI a0.cells)]]⟩), (1, ⟨3, [[.int 0, .int 0, .nil 1]]⟩), (2, ⟨3, [[.int v1.rows, .int v1.cols, .own 3 0 ((x2.1.set ((wr ((wr (x2.2 * a0.rows)) + x1.2)).toNat) v4).length)]]⟩), (3, ⟨1, List.map (ow eI) (x2.1.set ((wr ((wr (x2.2 * a0.rows)) + x1.2)).toNat) v4)⟩)] 4 [4, 5]) (ent_mk (σ := sg [(0, 0), (1, 1), (2, 2), (3, 3)]) ⟨(pE k k), (pE k k), (pE k k), (e1 k k), (e1 k k), trivial⟩ (hP k k k k <| hP k k k k <| hX ⟨_, k, k, .inr ⟨_, _, k, ⟨_, _, k, k, ⟨_, _, k, k, ⟨_, _, k, ⟨k, k, (by simp only [len_map, lA, lT, lR, lC, lN]), k⟩, k⟩⟩⟩, k⟩⟩ k <| hI k k k <| trivial) k) <| rg <| am k k <| ae (x_add k k) k <| aa k k <| an <| tn ?_
     obtain rfl := so h
     exact ⟨_, k, (ent_mk (σ := sg [(0, 0), (1, 1), (2, 2), (3, 3)]) ⟨(pE k k), (pE k k), (pE k k), (e1 k k), (e1 k k), trivial⟩ (hP k k k k <| hP k k k k <| hX ⟨_, k, k, .inr ⟨_, _, k, ⟨_, _, k, k, ⟨_, _, k, k, ⟨_, _, k, ⟨k, k, k, k⟩, k⟩⟩⟩, k⟩⟩ k <| hI k k k <| trivial) k)⟩
    ·refine ac_condF k q3 <| ac_exit <| then_exit <| then_exit ?_
     obtain rfl := so h
     exact ⟨_, k, k, (ent_mk (σ := sg [(0, 0), (1, 1), (2, 2), (3, 3)]) ⟨(pE k k), (pE k k), (pE k k), (e1 k k), trivial⟩ (hP k k k k <| hP k k k k <| hX ⟨_, k, k, .inr ⟨_, _, k, ⟨_, _, k, k, ⟨_, _, k, k, ⟨_, _, k, ⟨k, k, k, k⟩, k⟩⟩⟩, k⟩⟩ k <| hI k k k <| trivial) k)⟩
   ·rintro e t ⟨rfl, hent⟩
    refine block_here <| block_n <| tn <| ac_ent hent <| rg <| am k k <| ae (x_add k k) k <| aa k k <| an <| tn ?_
    obtain rfl := so h
    exact ⟨_, k, (ent_mk (σ := sg [(0, 0), (1, 1), (2, 2), (3, 3)]) ⟨(pE k k), (pE k k), (pE k k), (e1 k k), trivial⟩ (hP k k k k <| hP k k k k <| hX ⟨_, k, k, .inr ⟨_, _, k, ⟨_, _, k, k, ⟨_, _, k, k, ⟨_, _, k, ⟨k, k, k, k⟩, k⟩⟩⟩, k⟩⟩ k <| hI k k k <| trivial) k)⟩
  ·refine ac_condF k q2 <| ac_exit <| then_exit <| then_exit ?_
   obtain rfl := so h
   exact ⟨_, k, k, (ent_mk (σ := sg [(0, 1), (1, 2), (2, 3)]) ⟨(pE k k), (pE k k), trivial⟩ (hP k k k k <| hX ⟨_, k, k, .inr ⟨_, _, k, ⟨_, _, k, k, ⟨_, _, k, k, ⟨_, _, k, ⟨k, k, k, k⟩, k⟩⟩⟩, k⟩⟩ k <| hI k k k <| trivial) k)⟩
 ·rintro e t ⟨rfl, hent⟩
  refine block_here <| tn <| ac_ent hent <| sQ <| rg <| ae (w_load_ptr TT_ok k k k k k k k) k <| ae (w_store TT_ok k k k k k k k k) k <| an <| tn <| ac_ret ?_
  obtain rfl := so h
  exact ret_mk k k k (xz_agg (x1_cons (k) (x1_cons (k) (x1_cons (x_f1 okI k k) x1_nil))))

def m_spec_l6Copy (a0 : Qv) : Option Qv :=
  bif decide (([] : (List Int)).length + a0.src.length ≤ 4294967296) then
    (bif decide (([] : (List Int)).length + a0.tgt.length ≤ 4294967296) then
      (some ((⟨a0.n, (([] : (List Int)) ++ a0.src), (([] : (List Int)) ++ a0.tgt)⟩ : Qv)))
    else none)
  else none

theorem c_spec_l6Copy (a0 : Qv) (r : Qv) (h : m_spec_l6Copy a0 = some r) : HasC Tryz.prog 48 [.agg (eQ a0)] (.agg (eQ r)) := by
 refine hasC_mk TT_ok (rvs := [.cell 2 29]) (ns := [0, 1, 2, 3, 4, 5, 6, 7]) Tryz.func48 k k Tryz.ntmps48 k k k <| sQ <| rg <| ae (w_box k k k k) k <| ae (w_alloc TT_ok k k) k <| an <| tn <| sQ <| ac_region_draw MIXX <| ae (w_field_ptr TT_ok k k k k k k k) k ?_
 refine ae (w_load_ptr TT_ok k k k k k k k) k <| ae (w_lit TT_ok k k k k k k k k k k k k) k <| ae (w_field_ptr TT_ok k k k k k k k) k <| ae (w_load_ptr TT_ok k k k k k k k) k ?_
 obtain ⟨q1, h⟩ := cg h
 refine ae (x_app TT_ok (l := ([] : (List Int))) (m := a0.src) okIo q1 k k k k k k k k k k k k) k <| ae (w_lit TT_ok k k k k k k k k k k k k) k <| ae (w_field_ptr TT_ok k k k k k k k) k <| ae (w_load_ptr TT_ok k k k k k k k) k ?_
 obtain ⟨q2, h⟩ := cg h
 refine ae (x_app TT_ok (l := ([] : (List Int))) (m := a0.tgt) okIo q2 k k k k k k k k k k k k) k <| ae (w_build TT_ok k k k k k k) k <| ae (w_store TT_ok k k k k k k k k) k <| an ?_
 refine ⟨by kernel_rfl, ?_⟩
 refine tn <| ac_ent (t := mkS [(2, .ptr 1 0 0)] [(1, ⟨3, [[.int a0.n, .own 3 0 ((([] : (List Int)) ++ a0.src).length), .own 5 0 ((([] : (List Int)) ++ a0.tgt).length)]]⟩), (3, ⟨1, List.map (ow eI) (([] : (List Int)) ++ a0.src)⟩), (5, ⟨1, List.map (ow eI) (([] : (List Int)) ++ a0.tgt)⟩)] 6 [6, 7]) (ent_mk (σ := sg [(1, 1), (3, 3), (5, 5)]) ⟨(pE k k), trivial⟩ (hX ⟨_, k, k, .inr ⟨_, _, k, ⟨_, _, k, k, ⟨_, _, k, ⟨k, k, k, k⟩, ⟨_, _, k, ⟨k, k, k, k⟩, k⟩⟩⟩, k⟩⟩ k <| hI k k k <| hI k k k <| trivial) k) <| ac_ret ?_
 obtain rfl := so h
 exact ret_mk k k k (xz_agg (x1_cons (k) (x1_cons (x_f1 okI k k) (x1_cons (x_f1 okI k k) x1_nil))))

end Go.Proofs.YtdhjmmnjapkmkaaGreat
end

section
set_option linter.unusedVariables false
set_option linter.unusedSimpArgs false

namespace Go.Proofs.YtdhjmmnjapkmkaaGreat
open Go.RowKit
set_option linter.unusedVariables false
set_option linter.unusedSimpArgs false
end Go.Proofs.YtdhjmmnjapkmkaaGreat
end

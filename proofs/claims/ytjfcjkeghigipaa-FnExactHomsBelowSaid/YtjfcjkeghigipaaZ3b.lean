/-
  Models and contracts of functions, made by the extractor (ex.py).
-/
import Derived.Test.YtjfcjkeghigipaaZ3
import Derived.Test.YtjfcjkeghigipaaZ4
namespace Go.Proofs.Ytjfcjkeghigipaa
open Go.RowKit
set_option linter.unusedVariables false
set_option linter.unusedSimpArgs false
set_option maxRecDepth 10000
set_option maxHeartbeats 4000000

noncomputable def m_laws_FnExactOrbitDim (a0 : Rp) : Option Bool :=
  Option.bind (m_laws_szRep a0 1048576) fun v1 =>
  bif decide (v1 < 0) then
    (some (true))
  else
    (Option.bind (m_laws_toRep a0) fun v3 =>
    Option.bind (m_spec_OrbitDim v3) fun v4 =>
    Option.bind (m_laws_toRep a0) fun v5 =>
    Option.bind (m_impl_OrbitDim v5) fun v6 =>
    bif !decide (v6 = v4) then
      (some (false))
    else
      (Option.bind (m_laws_toRep a0) fun v8 =>
      Option.bind (m_laws_eqRep v5 v8) fun v9 =>
      bif !v9 then
        (some (false))
      else
        (some (true))))

theorem c_laws_FnExactOrbitDim (a0 : Rp) (r : Bool) (h : m_laws_FnExactOrbitDim a0 = some r) : HasC Try.prog 3 [.agg (eR a0)] (.bl r) := by
  refine hasC_mk TT_ok (rvs := [.tmp 2]) (ns := [0, 1, 2, 3, 4, 5, 6, 7, 8, 9, 10, 11, 12, 13]) Try.func3 rfl rfl Try.ntmps3 rfl rfl rfl ?_
  refine ac_seq ?_
  refine ac_region ?_
  refine aops_eff (w_box rfl rfl rfl rfl) rfl rfl rfl ?_
  refine aops_eff (eff_assign rfl) rfl rfl rfl ?_
  refine aops_nil ?_
  refine then_n ?_
  refine ac_seq ?_
  refine ac_region ?_
  refine aops_eff (eff_assign rfl) rfl rfl rfl ?_
  refine aops_nil ?_
  refine then_n ?_
  refine ac_seq ?_
  refine ac_region ?_
  refine aops_eff (w_load_ptr TT_ok rfl rfl rfl rfl rfl rfl rfl) rfl rfl rfl ?_
  refine aops_eff (eff_move rfl) rfl rfl rfl ?_
  obtain ⟨v1, hv1, h⟩ := ob h
  refine aops_eff (w_call0s (c_laws_szRep a0 1048576 v1 hv1) rfl (va_cons (va_agg' (v1_cons (v1_same rfl) (v1_cons (v1_same rfl) (v1_cons (v1_same rfl) (v1_cons (v1_same rfl) (v1_cons (v1_same rfl) (v1_cons (v1_same rfl) v1_nil))))))) (va_cons (va_same rfl) va_nil))) rfl rfl rfl ?_
  refine aops_eff (eff_assign rfl) rfl rfl rfl ?_
  refine aops_nil ?_
  refine then_n ?_
  refine ac_seq ?_
  refine ac_seq ?_
  refine ac_region ?_
  refine aops_eff (eff_move rfl) rfl rfl rfl ?_
  refine aops_eff (w_cmp rfl rfl rfl) rfl rfl rfl ?_
  refine aops_nil ?_
  refine then_n ?_
  rcases cb h with ⟨q2, h⟩ | ⟨q2, h⟩
  · refine ac_condT rfl q2 ?_
    refine ac_seq ?_
    refine ac_region ?_
    refine aops_eff (eff_assign rfl) rfl rfl rfl ?_
    refine aops_nil ?_
    refine then_n ?_
    refine ac_ret ?_
    refine then_ret ?_
    obtain rfl := so h
    exact ret_mk rfl rfl rfl (fz_bl rfl)
  · refine ac_condF rfl q2 ?_
    refine ac_skip ?_
    refine then_n ?_
    refine ac_seq ?_
    refine ac_region ?_
    refine aops_eff (w_load_ptr TT_ok rfl rfl rfl rfl rfl rfl rfl) rfl rfl rfl ?_
    obtain ⟨v3, hv3, h⟩ := ob h
    refine aops_eff (AEff.conv (w_call0 (x := .agg [.int v3.p, .int v3.q.n, .own 1 0 (List.map eI v3.q.src).length, .own 2 0 (List.map eI v3.q.tgt).length, .own 3 0 (List.map eI v3.dims).length, .own 4 0 (List.map eM v3.maps).length]) (nb := [(1, ⟨1, absEs (List.map eI v3.q.src)⟩), (2, ⟨1, absEs (List.map eI v3.q.tgt)⟩), (3, ⟨1, absEs (List.map eI v3.dims)⟩), (4, ⟨3, absEs (List.map eM v3.maps)⟩)]) (c_laws_toRep a0 v3 hv3) rfl (by rfl) rfl rfl (g1_cons trivial (g1_cons trivial (g1_cons (okI.good _) (g1_cons (okI.good _) (g1_cons (okI.good _) (g1_cons (okMt.good _) g1_nil)))))) (va_cons (va_agg' (v1_cons (v1_same rfl) (v1_cons (v1_same rfl) (v1_cons (v1_same rfl) (v1_cons (v1_same rfl) (v1_cons (v1_same rfl) (v1_cons (v1_same rfl) v1_nil))))))) va_nil)) (v' := .agg [.int v3.p, .int v3.q.n, .own 1 0 v3.q.src.length, .own 2 0 v3.q.tgt.length, .own 3 0 v3.dims.length, .own 4 0 v3.maps.length]) (ed' := [(1, some ⟨1, List.map (ow eI) v3.q.src⟩), (2, some ⟨1, List.map (ow eI) v3.q.tgt⟩), (3, some ⟨1, List.map (ow eI) v3.dims⟩), (4, some ⟨3, List.map (ow eM) v3.maps⟩)]) (by simp only [len_map]) (ed_ok (nb' := [(1, ⟨1, List.map (ow eI) v3.q.src⟩), (2, ⟨1, List.map (ow eI) v3.q.tgt⟩), (3, ⟨1, List.map (ow eI) v3.dims⟩), (4, ⟨3, List.map (ow eM) v3.maps⟩)]) (by simp only [abs_map]))) rfl rfl rfl ?_
    obtain ⟨v4, hv4, h⟩ := ob h
    refine aops_eff (w_call0s (c_spec_OrbitDim v3 v4 hv4) rfl (va_cons (va_agg' (v1_cons (v1_same rfl) (v1_cons (v1_same rfl) (v1_cons (v1_T okI rfl rfl) (v1_cons (v1_T okI rfl rfl) (v1_cons (v1_T okI rfl rfl) (v1_cons (v1_T okMt rfl rfl) v1_nil))))))) va_nil)) rfl rfl rfl ?_
    refine aops_eff (eff_assign rfl) rfl rfl rfl ?_
    refine aops_nil ?_
    refine then_n ?_
    refine ac_ent (t := mkS [(1, .ptr 0 0 0), (4, .int v4)] [(0, ⟨6, [[.int a0.p, .int a0.q.n, .list 1 (List.map eI a0.q.src), .list 1 (List.map eI a0.q.tgt), .list 1 (List.map eI a0.dims), .list 3 (List.map eM a0.maps)]]⟩)] 5 [5, 6, 7, 8, 9, 10, 11, 12, 13, 14, 15, 16, 17, 18]) (ent_mk (σ := sg [(0, 0)]) ⟨⟨_, rfl, ⟨rfl, rfl, rfl, rfl⟩⟩, ⟨_, rfl, rfl⟩, trivial⟩ ⟨⟨_, rfl, rfl, .inl ⟨rfl, plain_of rfl⟩⟩, rfl, trivial⟩ rfl) ?_
    refine ac_seq ?_
    refine ac_region ?_
    refine aops_eff (w_load_ptr TT_ok rfl rfl rfl rfl rfl rfl rfl) rfl rfl rfl ?_
    obtain ⟨v5, hv5, h⟩ := ob h
    refine aops_eff (AEff.conv (w_call0 (x := .agg [.int v5.p, .int v5.q.n, .own 5 0 (List.map eI v5.q.src).length, .own 6 0 (List.map eI v5.q.tgt).length, .own 7 0 (List.map eI v5.dims).length, .own 8 0 (List.map eM v5.maps).length]) (nb := [(5, ⟨1, absEs (List.map eI v5.q.src)⟩), (6, ⟨1, absEs (List.map eI v5.q.tgt)⟩), (7, ⟨1, absEs (List.map eI v5.dims)⟩), (8, ⟨3, absEs (List.map eM v5.maps)⟩)]) (c_laws_toRep a0 v5 hv5) rfl (by rfl) rfl rfl (g1_cons trivial (g1_cons trivial (g1_cons (okI.good _) (g1_cons (okI.good _) (g1_cons (okI.good _) (g1_cons (okMt.good _) g1_nil)))))) (va_cons (va_agg' (v1_cons (v1_same rfl) (v1_cons (v1_same rfl) (v1_cons (v1_same rfl) (v1_cons (v1_same rfl) (v1_cons (v1_same rfl) (v1_cons (v1_same rfl) v1_nil))))))) va_nil)) (v' := .agg [.int v5.p, .int v5.q.n, .own 5 0 v5.q.src.length, .own 6 0 v5.q.tgt.length, .own 7 0 v5.dims.length, .own 8 0 v5.maps.length]) (ed' := [(5, some ⟨1, List.map (ow eI) v5.q.src⟩), (6, some ⟨1, List.map (ow eI) v5.q.tgt⟩), (7, some ⟨1, List.map (ow eI) v5.dims⟩), (8, some ⟨3, List.map (ow eM) v5.maps⟩)]) (by simp only [len_map]) (ed_ok (nb' := [(5, ⟨1, List.map (ow eI) v5.q.src⟩), (6, ⟨1, List.map (ow eI) v5.q.tgt⟩), (7, ⟨1, List.map (ow eI) v5.dims⟩), (8, ⟨3, List.map (ow eM) v5.maps⟩)]) (by simp only [abs_map]))) rfl rfl rfl ?_
    refine aops_eff (w_alloc TT_ok rfl rfl) rfl rfl rfl ?_
    refine aops_eff (w_store TT_ok rfl rfl rfl rfl rfl rfl rfl rfl) rfl rfl rfl ?_
    refine aops_nil ?_
    refine then_n ?_
    refine ac_seq ?_
    refine ac_region ?_
    refine aops_eff (w_load_ptr TT_ok rfl rfl rfl rfl rfl rfl rfl) rfl rfl rfl ?_
    obtain ⟨v6, hv6, h⟩ := ob h
    refine aops_eff (w_call0s (c_impl_OrbitDim v5 v6 hv6) rfl (va_cons (va_agg' (v1_cons (v1_same rfl) (v1_cons (v1_same rfl) (v1_cons (v1_T okI rfl rfl) (v1_cons (v1_T okI rfl rfl) (v1_cons (v1_T okI rfl rfl) (v1_cons (v1_T okMt rfl rfl) v1_nil))))))) va_nil)) rfl rfl rfl ?_
    refine aops_eff (eff_assign rfl) rfl rfl rfl ?_
    refine aops_nil ?_
    refine then_n ?_
    refine ac_seq ?_
    refine ac_seq ?_
    refine ac_region ?_
    refine aops_eff (eff_move rfl) rfl rfl rfl ?_
    refine aops_eff (eff_move rfl) rfl rfl rfl ?_
    refine aops_eff (w_cmp rfl rfl rfl) rfl rfl rfl ?_
    refine aops_nil ?_
    refine then_n ?_
    rcases cb h with ⟨q7, h⟩ | ⟨q7, h⟩
    · refine ac_condT rfl q7 ?_
      refine ac_seq ?_
      refine ac_region ?_
      refine aops_eff (eff_assign rfl) rfl rfl rfl ?_
      refine aops_nil ?_
      refine then_n ?_
      refine ac_ret ?_
      refine then_ret ?_
      obtain rfl := so h
      exact ret_mk rfl rfl rfl (fz_bl rfl)
    · refine ac_condF rfl q7 ?_
      refine ac_skip ?_
      refine then_n ?_
      refine ac_seq ?_
      refine ac_seq ?_
      refine ac_region_draw MIXX ?_
      refine aops_eff (w_load_ptr TT_ok rfl rfl rfl rfl rfl rfl rfl) rfl rfl rfl ?_
      refine aops_eff (w_load_ptr TT_ok rfl rfl rfl rfl rfl rfl rfl) rfl rfl rfl ?_
      obtain ⟨v8, hv8, h⟩ := ob h
      refine aops_eff (AEff.conv (w_call0 (x := .agg [.int v8.p, .int v8.q.n, .own 10 0 (List.map eI v8.q.src).length, .own 11 0 (List.map eI v8.q.tgt).length, .own 12 0 (List.map eI v8.dims).length, .own 13 0 (List.map eM v8.maps).length]) (nb := [(10, ⟨1, absEs (List.map eI v8.q.src)⟩), (11, ⟨1, absEs (List.map eI v8.q.tgt)⟩), (12, ⟨1, absEs (List.map eI v8.dims)⟩), (13, ⟨3, absEs (List.map eM v8.maps)⟩)]) (c_laws_toRep a0 v8 hv8) rfl (by rfl) rfl rfl (g1_cons trivial (g1_cons trivial (g1_cons (okI.good _) (g1_cons (okI.good _) (g1_cons (okI.good _) (g1_cons (okMt.good _) g1_nil)))))) (va_cons (va_agg' (v1_cons (v1_same rfl) (v1_cons (v1_same rfl) (v1_cons (v1_same rfl) (v1_cons (v1_same rfl) (v1_cons (v1_same rfl) (v1_cons (v1_same rfl) v1_nil))))))) va_nil)) (v' := .agg [.int v8.p, .int v8.q.n, .own 10 0 v8.q.src.length, .own 11 0 v8.q.tgt.length, .own 12 0 v8.dims.length, .own 13 0 v8.maps.length]) (ed' := [(10, some ⟨1, List.map (ow eI) v8.q.src⟩), (11, some ⟨1, List.map (ow eI) v8.q.tgt⟩), (12, some ⟨1, List.map (ow eI) v8.dims⟩), (13, some ⟨3, List.map (ow eM) v8.maps⟩)]) (by simp only [len_map]) (ed_ok (nb' := [(10, ⟨1, List.map (ow eI) v8.q.src⟩), (11, ⟨1, List.map (ow eI) v8.q.tgt⟩), (12, ⟨1, List.map (ow eI) v8.dims⟩), (13, ⟨3, List.map (ow eM) v8.maps⟩)]) (by simp only [abs_map]))) rfl rfl rfl ?_
      obtain ⟨v9, hv9, h⟩ := ob h
      refine aops_eff (w_call0s (c_laws_eqRep v5 v8 v9 hv9) rfl (va_cons (va_agg' (v1_cons (v1_same rfl) (v1_cons (v1_same rfl) (v1_cons (v1_T okI rfl rfl) (v1_cons (v1_T okI rfl rfl) (v1_cons (v1_T okI rfl rfl) (v1_cons (v1_T okMt rfl rfl) v1_nil))))))) (va_cons (va_agg' (v1_cons (v1_same rfl) (v1_cons (v1_same rfl) (v1_cons (v1_T okI rfl rfl) (v1_cons (v1_T okI rfl rfl) (v1_cons (v1_T okI rfl rfl) (v1_cons (v1_T okMt rfl rfl) v1_nil))))))) va_nil))) rfl rfl rfl ?_
      refine aops_eff (w_not rfl) rfl rfl rfl ?_
      refine aops_nil ?_
      refine ⟨by kernel_rfl, ?_⟩
      refine then_n ?_
      refine ac_ent (t := mkS [(26, .bl (!v9))] [] 14 [14, 15, 16, 17, 18, 19, 20, 21, 22, 23, 24, 25, 26, 27]) (ent_mk (σ := sg []) ⟨⟨_, rfl, rfl⟩, trivial⟩ trivial rfl) ?_
      rcases cb h with ⟨q10, h⟩ | ⟨q10, h⟩
      · refine ac_condT rfl q10 ?_
        refine ac_seq ?_
        refine ac_region ?_
        refine aops_eff (eff_assign rfl) rfl rfl rfl ?_
        refine aops_nil ?_
        refine then_n ?_
        refine ac_ret ?_
        refine then_ret ?_
        obtain rfl := so h
        exact ret_mk rfl rfl rfl (fz_bl rfl)
      · refine ac_condF rfl q10 ?_
        refine ac_skip ?_
        refine then_n ?_
        refine ac_seq ?_
        refine ac_region ?_
        refine aops_eff (eff_assign rfl) rfl rfl rfl ?_
        refine aops_nil ?_
        refine then_n ?_
        refine ac_ret ?_
        obtain rfl := so h
        exact ret_mk rfl rfl rfl (fz_bl rfl)

noncomputable def m_laws_FnExactHomsBelow (a0 : Rp) (a1 : Rp) (a2 : (List Rp)) : Option Bool :=
  Option.bind (m_laws_szRep a0 1048576) fun v1 =>
  bif decide (v1 < 0) then
    (some (true))
  else
    (Option.bind (m_laws_szRep a1 v1) fun v3 =>
    bif decide (v3 < 0) then
      (some (true))
    else
      (Option.bind (m_laws_szRepS a2 v3) fun v5 =>
      bif decide (v5 < 0) then
        (some (true))
      else
        (Option.bind (m_laws_toRep a0) fun v7 =>
        Option.bind (m_laws_toRep a1) fun v8 =>
        Option.bind (m_laws_toRepS a2) fun v9 =>
        Option.bind (m_spec_HomsBelow v7 v8 v9) fun v10 =>
        Option.bind (m_laws_toRep a0) fun v11 =>
        Option.bind (m_laws_toRep a1) fun v12 =>
        Option.bind (m_laws_toRepS a2) fun v13 =>
        Option.bind (m_impl_HomsBelow v11 v12 v13) fun v14 =>
        bif !(v14 == v10) then
          (some (false))
        else
          (Option.bind (m_laws_toRep a0) fun v16 =>
          Option.bind (m_laws_eqRep v11 v16) fun v17 =>
          bif !v17 then
            (some (false))
          else
            (Option.bind (m_laws_toRep a1) fun v19 =>
            Option.bind (m_laws_eqRep v12 v19) fun v20 =>
            bif !v20 then
              (some (false))
            else
              (Option.bind (m_laws_toRepS a2) fun v22 =>
              Option.bind (m_laws_eqRepS v13 v22) fun v23 =>
              bif !v23 then
                (some (false))
              else
                (some (true))))))))

theorem c_laws_FnExactHomsBelow (a0 : Rp) (a1 : Rp) (a2 : (List Rp)) (r : Bool) (h : m_laws_FnExactHomsBelow a0 a1 a2 = some r) : HasC Try.prog 5 [.agg (eR a0), .agg (eR a1), .list 6 (List.map eR a2)] (.bl r) := by
  refine hasC_mk TT_ok (rvs := [.tmp 6]) (ns := [0, 1, 2, 3, 4, 5, 6, 7, 8, 9, 10, 11, 12, 13]) Try.func5 rfl rfl Try.ntmps5 rfl rfl rfl ?_
  refine ac_seq ?_
  refine ac_region ?_
  refine aops_eff (w_box rfl rfl rfl rfl) rfl rfl rfl ?_
  refine aops_eff (w_box rfl rfl rfl rfl) rfl rfl rfl ?_
  refine aops_eff (eff_assign rfl) rfl rfl rfl ?_
  refine aops_nil ?_
  refine then_n ?_
  refine ac_seq ?_
  refine ac_region ?_
  refine aops_eff (eff_assign rfl) rfl rfl rfl ?_
  refine aops_nil ?_
  refine then_n ?_
  refine ac_seq ?_
  refine ac_region ?_
  refine aops_eff (w_load_ptr TT_ok rfl rfl rfl rfl rfl rfl rfl) rfl rfl rfl ?_
  refine aops_eff (eff_move rfl) rfl rfl rfl ?_
  obtain ⟨v1, hv1, h⟩ := ob h
  refine aops_eff (w_call0s (c_laws_szRep a0 1048576 v1 hv1) rfl (va_cons (va_agg' (v1_cons (v1_same rfl) (v1_cons (v1_same rfl) (v1_cons (v1_same rfl) (v1_cons (v1_same rfl) (v1_cons (v1_same rfl) (v1_cons (v1_same rfl) v1_nil))))))) (va_cons (va_same rfl) va_nil))) rfl rfl rfl ?_
  refine aops_eff (eff_assign rfl) rfl rfl rfl ?_
  refine aops_nil ?_
  refine then_n ?_
  refine ac_seq ?_
  refine ac_seq ?_
  refine ac_region ?_
  refine aops_eff (eff_move rfl) rfl rfl rfl ?_
  refine aops_eff (w_cmp rfl rfl rfl) rfl rfl rfl ?_
  refine aops_nil ?_
  refine then_n ?_
  rcases cb h with ⟨q2, h⟩ | ⟨q2, h⟩
  · refine ac_condT rfl q2 ?_
    refine ac_seq ?_
    refine ac_region ?_
    refine aops_eff (eff_assign rfl) rfl rfl rfl ?_
    refine aops_nil ?_
    refine then_n ?_
    refine ac_ret ?_
    refine then_ret ?_
    obtain rfl := so h
    exact ret_mk rfl rfl rfl (fz_bl rfl)
  · refine ac_condF rfl q2 ?_
    refine ac_skip ?_
    refine then_n ?_
    refine ac_seq ?_
    refine ac_region ?_
    refine aops_eff (w_load_ptr TT_ok rfl rfl rfl rfl rfl rfl rfl) rfl rfl rfl ?_
    refine aops_eff (eff_move rfl) rfl rfl rfl ?_
    obtain ⟨v3, hv3, h⟩ := ob h
    refine aops_eff (w_call0s (c_laws_szRep a1 v1 v3 hv3) rfl (va_cons (va_agg' (v1_cons (v1_same rfl) (v1_cons (v1_same rfl) (v1_cons (v1_same rfl) (v1_cons (v1_same rfl) (v1_cons (v1_same rfl) (v1_cons (v1_same rfl) v1_nil))))))) (va_cons (va_same rfl) va_nil))) rfl rfl rfl ?_
    refine aops_eff (eff_assign rfl) rfl rfl rfl ?_
    refine aops_nil ?_
    refine then_n ?_
    refine ac_ent (t := mkS [(2, .list 6 (List.map eR a2)), (3, .ptr 0 0 0), (4, .ptr 1 0 0), (7, .int v3)] [(0, ⟨6, [[.int a0.p, .int a0.q.n, .list 1 (List.map eI a0.q.src), .list 1 (List.map eI a0.q.tgt), .list 1 (List.map eI a0.dims), .list 3 (List.map eM a0.maps)]]⟩), (1, ⟨6, [[.int a1.p, .int a1.q.n, .list 1 (List.map eI a1.q.src), .list 1 (List.map eI a1.q.tgt), .list 1 (List.map eI a1.dims), .list 3 (List.map eM a1.maps)]]⟩)] 2 [2, 3, 4, 5, 6, 7, 8, 9, 10, 11, 12, 13, 14, 15]) (ent_mk (σ := sg [(0, 0), (1, 1)]) ⟨⟨_, rfl, ⟨rfl, rfl⟩⟩, ⟨_, rfl, ⟨rfl, rfl, rfl, rfl⟩⟩, ⟨_, rfl, ⟨rfl, rfl, rfl, rfl⟩⟩, ⟨_, rfl, rfl⟩, trivial⟩ ⟨⟨_, rfl, rfl, .inl ⟨rfl, plain_of rfl⟩⟩, rfl, ⟨_, rfl, rfl, .inl ⟨rfl, plain_of rfl⟩⟩, rfl, trivial⟩ rfl) ?_
    refine ac_seq ?_
    refine ac_seq ?_
    refine ac_region ?_
    refine aops_eff (eff_move rfl) rfl rfl rfl ?_
    refine aops_eff (w_cmp rfl rfl rfl) rfl rfl rfl ?_
    refine aops_nil ?_
    refine then_n ?_
    rcases cb h with ⟨q4, h⟩ | ⟨q4, h⟩
    · refine ac_condT rfl q4 ?_
      refine ac_seq ?_
      refine ac_region ?_
      refine aops_eff (eff_assign rfl) rfl rfl rfl ?_
      refine aops_nil ?_
      refine then_n ?_
      refine ac_ret ?_
      refine then_ret ?_
      obtain rfl := so h
      exact ret_mk rfl rfl rfl (fz_bl rfl)
    · refine ac_condF rfl q4 ?_
      refine ac_skip ?_
      refine then_n ?_
      refine ac_seq ?_
      refine ac_region ?_
      refine aops_eff (eff_move rfl) rfl rfl rfl ?_
      refine aops_eff (eff_move rfl) rfl rfl rfl ?_
      obtain ⟨v5, hv5, h⟩ := ob h
      refine aops_eff (w_call0s (c_laws_szRepS a2 v3 v5 hv5) rfl (va_cons (va_same rfl) (va_cons (va_same rfl) va_nil))) rfl rfl rfl ?_
      refine aops_eff (eff_assign rfl) rfl rfl rfl ?_
      refine aops_nil ?_
      refine then_n ?_
      refine ac_seq ?_
      refine ac_seq ?_
      refine ac_region ?_
      refine aops_eff (eff_move rfl) rfl rfl rfl ?_
      refine aops_eff (w_cmp rfl rfl rfl) rfl rfl rfl ?_
      refine aops_nil ?_
      refine then_n ?_
      rcases cb h with ⟨q6, h⟩ | ⟨q6, h⟩
      · refine ac_condT rfl q6 ?_
        refine ac_seq ?_
        refine ac_region ?_
        refine aops_eff (eff_assign rfl) rfl rfl rfl ?_
        refine aops_nil ?_
        refine then_n ?_
        refine ac_ret ?_
        refine then_ret ?_
        obtain rfl := so h
        exact ret_mk rfl rfl rfl (fz_bl rfl)
      · refine ac_condF rfl q6 ?_
        refine ac_skip ?_
        refine then_n ?_
        refine ac_seq ?_
        refine ac_region_draw MIXX ?_
        refine aops_eff (w_load_ptr TT_ok rfl rfl rfl rfl rfl rfl rfl) rfl rfl rfl ?_
        obtain ⟨v7, hv7, h⟩ := ob h
        refine aops_eff (AEff.conv (w_call0 (x := .agg [.int v7.p, .int v7.q.n, .own 2 0 (List.map eI v7.q.src).length, .own 3 0 (List.map eI v7.q.tgt).length, .own 4 0 (List.map eI v7.dims).length, .own 5 0 (List.map eM v7.maps).length]) (nb := [(2, ⟨1, absEs (List.map eI v7.q.src)⟩), (3, ⟨1, absEs (List.map eI v7.q.tgt)⟩), (4, ⟨1, absEs (List.map eI v7.dims)⟩), (5, ⟨3, absEs (List.map eM v7.maps)⟩)]) (c_laws_toRep a0 v7 hv7) rfl (by rfl) rfl rfl (g1_cons trivial (g1_cons trivial (g1_cons (okI.good _) (g1_cons (okI.good _) (g1_cons (okI.good _) (g1_cons (okMt.good _) g1_nil)))))) (va_cons (va_agg' (v1_cons (v1_same rfl) (v1_cons (v1_same rfl) (v1_cons (v1_same rfl) (v1_cons (v1_same rfl) (v1_cons (v1_same rfl) (v1_cons (v1_same rfl) v1_nil))))))) va_nil)) (v' := .agg [.int v7.p, .int v7.q.n, .own 2 0 v7.q.src.length, .own 3 0 v7.q.tgt.length, .own 4 0 v7.dims.length, .own 5 0 v7.maps.length]) (ed' := [(2, some ⟨1, List.map (ow eI) v7.q.src⟩), (3, some ⟨1, List.map (ow eI) v7.q.tgt⟩), (4, some ⟨1, List.map (ow eI) v7.dims⟩), (5, some ⟨3, List.map (ow eM) v7.maps⟩)]) (by simp only [len_map]) (ed_ok (nb' := [(2, ⟨1, List.map (ow eI) v7.q.src⟩), (3, ⟨1, List.map (ow eI) v7.q.tgt⟩), (4, ⟨1, List.map (ow eI) v7.dims⟩), (5, ⟨3, List.map (ow eM) v7.maps⟩)]) (by simp only [abs_map]))) rfl rfl rfl ?_
        refine aops_eff (w_load_ptr TT_ok rfl rfl rfl rfl rfl rfl rfl) rfl rfl rfl ?_
        obtain ⟨v8, hv8, h⟩ := ob h
        refine aops_eff (AEff.conv (w_call0 (x := .agg [.int v8.p, .int v8.q.n, .own 6 0 (List.map eI v8.q.src).length, .own 7 0 (List.map eI v8.q.tgt).length, .own 8 0 (List.map eI v8.dims).length, .own 9 0 (List.map eM v8.maps).length]) (nb := [(6, ⟨1, absEs (List.map eI v8.q.src)⟩), (7, ⟨1, absEs (List.map eI v8.q.tgt)⟩), (8, ⟨1, absEs (List.map eI v8.dims)⟩), (9, ⟨3, absEs (List.map eM v8.maps)⟩)]) (c_laws_toRep a1 v8 hv8) rfl (by rfl) rfl rfl (g1_cons trivial (g1_cons trivial (g1_cons (okI.good _) (g1_cons (okI.good _) (g1_cons (okI.good _) (g1_cons (okMt.good _) g1_nil)))))) (va_cons (va_agg' (v1_cons (v1_same rfl) (v1_cons (v1_same rfl) (v1_cons (v1_same rfl) (v1_cons (v1_same rfl) (v1_cons (v1_same rfl) (v1_cons (v1_same rfl) v1_nil))))))) va_nil)) (v' := .agg [.int v8.p, .int v8.q.n, .own 6 0 v8.q.src.length, .own 7 0 v8.q.tgt.length, .own 8 0 v8.dims.length, .own 9 0 v8.maps.length]) (ed' := [(6, some ⟨1, List.map (ow eI) v8.q.src⟩), (7, some ⟨1, List.map (ow eI) v8.q.tgt⟩), (8, some ⟨1, List.map (ow eI) v8.dims⟩), (9, some ⟨3, List.map (ow eM) v8.maps⟩)]) (by simp only [len_map]) (ed_ok (nb' := [(6, ⟨1, List.map (ow eI) v8.q.src⟩), (7, ⟨1, List.map (ow eI) v8.q.tgt⟩), (8, ⟨1, List.map (ow eI) v8.dims⟩), (9, ⟨3, List.map (ow eM) v8.maps⟩)]) (by simp only [abs_map]))) rfl rfl rfl ?_
        refine aops_eff (eff_move rfl) rfl rfl rfl ?_
        obtain ⟨v9, hv9, h⟩ := ob h
        refine aops_eff (AEff.conv (w_call0 (x := .own 10 0 (List.map eR v9).length) (nb := [(10, ⟨6, absEs (List.map eR v9)⟩)]) (c_laws_toRepS a2 v9 hv9) rfl (by rfl) rfl rfl (okRp.good _) (va_cons (va_same rfl) va_nil)) (v' := .own 10 0 v9.length) (ed' := [(10, some ⟨6, List.map (ow eR) v9⟩)]) (by simp only [len_map]) (ed_ok (nb' := [(10, ⟨6, List.map (ow eR) v9⟩)]) (by simp only [abs_map]))) rfl rfl rfl ?_
        obtain ⟨v10, hv10, h⟩ := ob h
        refine aops_eff (w_call0s (c_spec_HomsBelow v7 v8 v9 v10 hv10) rfl (va_cons (va_agg' (v1_cons (v1_same rfl) (v1_cons (v1_same rfl) (v1_cons (v1_T okI rfl rfl) (v1_cons (v1_T okI rfl rfl) (v1_cons (v1_T okI rfl rfl) (v1_cons (v1_T okMt rfl rfl) v1_nil))))))) (va_cons (va_agg' (v1_cons (v1_same rfl) (v1_cons (v1_same rfl) (v1_cons (v1_T okI rfl rfl) (v1_cons (v1_T okI rfl rfl) (v1_cons (v1_T okI rfl rfl) (v1_cons (v1_T okMt rfl rfl) v1_nil))))))) (va_cons (va_T okRp rfl rfl) va_nil)))) rfl rfl rfl ?_
        refine aops_eff (eff_assign rfl) rfl rfl rfl ?_
        refine aops_nil ?_
        refine ⟨by kernel_rfl, ?_⟩
        refine then_n ?_
        refine ac_ent (t := mkS [(2, .list 6 (List.map eR a2)), (3, .ptr 0 0 0), (4, .ptr 1 0 0), (8, .bl v10)] [(0, ⟨6, [[.int a0.p, .int a0.q.n, .list 1 (List.map eI a0.q.src), .list 1 (List.map eI a0.q.tgt), .list 1 (List.map eI a0.dims), .list 3 (List.map eM a0.maps)]]⟩), (1, ⟨6, [[.int a1.p, .int a1.q.n, .list 1 (List.map eI a1.q.src), .list 1 (List.map eI a1.q.tgt), .list 1 (List.map eI a1.dims), .list 3 (List.map eM a1.maps)]]⟩)] 11 [11, 12, 13, 14, 15, 16, 17, 18, 19, 20, 21, 22, 23, 24]) (ent_mk (σ := sg [(0, 0), (1, 1)]) ⟨⟨_, rfl, ⟨rfl, rfl⟩⟩, ⟨_, rfl, ⟨rfl, rfl, rfl, rfl⟩⟩, ⟨_, rfl, ⟨rfl, rfl, rfl, rfl⟩⟩, ⟨_, rfl, rfl⟩, trivial⟩ ⟨⟨_, rfl, rfl, .inl ⟨rfl, plain_of rfl⟩⟩, rfl, ⟨_, rfl, rfl, .inl ⟨rfl, plain_of rfl⟩⟩, rfl, trivial⟩ rfl) ?_
        refine ac_seq ?_
        refine ac_region ?_
        refine aops_eff (w_load_ptr TT_ok rfl rfl rfl rfl rfl rfl rfl) rfl rfl rfl ?_
        obtain ⟨v11, hv11, h⟩ := ob h
        refine aops_eff (AEff.conv (w_call0 (x := .agg [.int v11.p, .int v11.q.n, .own 11 0 (List.map eI v11.q.src).length, .own 12 0 (List.map eI v11.q.tgt).length, .own 13 0 (List.map eI v11.dims).length, .own 14 0 (List.map eM v11.maps).length]) (nb := [(11, ⟨1, absEs (List.map eI v11.q.src)⟩), (12, ⟨1, absEs (List.map eI v11.q.tgt)⟩), (13, ⟨1, absEs (List.map eI v11.dims)⟩), (14, ⟨3, absEs (List.map eM v11.maps)⟩)]) (c_laws_toRep a0 v11 hv11) rfl (by rfl) rfl rfl (g1_cons trivial (g1_cons trivial (g1_cons (okI.good _) (g1_cons (okI.good _) (g1_cons (okI.good _) (g1_cons (okMt.good _) g1_nil)))))) (va_cons (va_agg' (v1_cons (v1_same rfl) (v1_cons (v1_same rfl) (v1_cons (v1_same rfl) (v1_cons (v1_same rfl) (v1_cons (v1_same rfl) (v1_cons (v1_same rfl) v1_nil))))))) va_nil)) (v' := .agg [.int v11.p, .int v11.q.n, .own 11 0 v11.q.src.length, .own 12 0 v11.q.tgt.length, .own 13 0 v11.dims.length, .own 14 0 v11.maps.length]) (ed' := [(11, some ⟨1, List.map (ow eI) v11.q.src⟩), (12, some ⟨1, List.map (ow eI) v11.q.tgt⟩), (13, some ⟨1, List.map (ow eI) v11.dims⟩), (14, some ⟨3, List.map (ow eM) v11.maps⟩)]) (by simp only [len_map]) (ed_ok (nb' := [(11, ⟨1, List.map (ow eI) v11.q.src⟩), (12, ⟨1, List.map (ow eI) v11.q.tgt⟩), (13, ⟨1, List.map (ow eI) v11.dims⟩), (14, ⟨3, List.map (ow eM) v11.maps⟩)]) (by simp only [abs_map]))) rfl rfl rfl ?_
        refine aops_eff (w_alloc TT_ok rfl rfl) rfl rfl rfl ?_
        refine aops_eff (w_store TT_ok rfl rfl rfl rfl rfl rfl rfl rfl) rfl rfl rfl ?_
        refine aops_nil ?_
        refine then_n ?_
        refine ac_seq ?_
        refine ac_region ?_
        refine aops_eff (w_load_ptr TT_ok rfl rfl rfl rfl rfl rfl rfl) rfl rfl rfl ?_
        obtain ⟨v12, hv12, h⟩ := ob h
        refine aops_eff (AEff.conv (w_call0 (x := .agg [.int v12.p, .int v12.q.n, .own 16 0 (List.map eI v12.q.src).length, .own 17 0 (List.map eI v12.q.tgt).length, .own 18 0 (List.map eI v12.dims).length, .own 19 0 (List.map eM v12.maps).length]) (nb := [(16, ⟨1, absEs (List.map eI v12.q.src)⟩), (17, ⟨1, absEs (List.map eI v12.q.tgt)⟩), (18, ⟨1, absEs (List.map eI v12.dims)⟩), (19, ⟨3, absEs (List.map eM v12.maps)⟩)]) (c_laws_toRep a1 v12 hv12) rfl (by rfl) rfl rfl (g1_cons trivial (g1_cons trivial (g1_cons (okI.good _) (g1_cons (okI.good _) (g1_cons (okI.good _) (g1_cons (okMt.good _) g1_nil)))))) (va_cons (va_agg' (v1_cons (v1_same rfl) (v1_cons (v1_same rfl) (v1_cons (v1_same rfl) (v1_cons (v1_same rfl) (v1_cons (v1_same rfl) (v1_cons (v1_same rfl) v1_nil))))))) va_nil)) (v' := .agg [.int v12.p, .int v12.q.n, .own 16 0 v12.q.src.length, .own 17 0 v12.q.tgt.length, .own 18 0 v12.dims.length, .own 19 0 v12.maps.length]) (ed' := [(16, some ⟨1, List.map (ow eI) v12.q.src⟩), (17, some ⟨1, List.map (ow eI) v12.q.tgt⟩), (18, some ⟨1, List.map (ow eI) v12.dims⟩), (19, some ⟨3, List.map (ow eM) v12.maps⟩)]) (by simp only [len_map]) (ed_ok (nb' := [(16, ⟨1, List.map (ow eI) v12.q.src⟩), (17, ⟨1, List.map (ow eI) v12.q.tgt⟩), (18, ⟨1, List.map (ow eI) v12.dims⟩), (19, ⟨3, List.map (ow eM) v12.maps⟩)]) (by simp only [abs_map]))) rfl rfl rfl ?_
        refine aops_eff (w_alloc TT_ok rfl rfl) rfl rfl rfl ?_
        refine aops_eff (w_store TT_ok rfl rfl rfl rfl rfl rfl rfl rfl) rfl rfl rfl ?_
        refine aops_nil ?_
        refine then_n ?_
        refine ac_seq ?_
        refine ac_region ?_
        refine aops_eff (eff_move rfl) rfl rfl rfl ?_
        obtain ⟨v13, hv13, h⟩ := ob h
        refine aops_eff (AEff.conv (w_call0 (x := .own 21 0 (List.map eR v13).length) (nb := [(21, ⟨6, absEs (List.map eR v13)⟩)]) (c_laws_toRepS a2 v13 hv13) rfl (by rfl) rfl rfl (okRp.good _) (va_cons (va_same rfl) va_nil)) (v' := .own 21 0 v13.length) (ed' := [(21, some ⟨6, List.map (ow eR) v13⟩)]) (by simp only [len_map]) (ed_ok (nb' := [(21, ⟨6, List.map (ow eR) v13⟩)]) (by simp only [abs_map]))) rfl rfl rfl ?_
        refine aops_eff (eff_assign rfl) rfl rfl rfl ?_
        refine aops_nil ?_
        refine then_n ?_
        refine ac_seq ?_
        refine ac_region ?_
        refine aops_eff (w_load_ptr TT_ok rfl rfl rfl rfl rfl rfl rfl) rfl rfl rfl ?_
        refine aops_eff (w_load_ptr TT_ok rfl rfl rfl rfl rfl rfl rfl) rfl rfl rfl ?_
        refine aops_eff (eff_move rfl) rfl rfl rfl ?_
        obtain ⟨v14, hv14, h⟩ := ob h
        refine aops_eff (w_call0s (c_impl_HomsBelow v11 v12 v13 v14 hv14) rfl (va_cons (va_agg' (v1_cons (v1_same rfl) (v1_cons (v1_same rfl) (v1_cons (v1_T okI rfl rfl) (v1_cons (v1_T okI rfl rfl) (v1_cons (v1_T okI rfl rfl) (v1_cons (v1_T okMt rfl rfl) v1_nil))))))) (va_cons (va_agg' (v1_cons (v1_same rfl) (v1_cons (v1_same rfl) (v1_cons (v1_T okI rfl rfl) (v1_cons (v1_T okI rfl rfl) (v1_cons (v1_T okI rfl rfl) (v1_cons (v1_T okMt rfl rfl) v1_nil))))))) (va_cons (va_T okRp rfl rfl) va_nil)))) rfl rfl rfl ?_
        refine aops_eff (eff_assign rfl) rfl rfl rfl ?_
        refine aops_nil ?_
        refine then_n ?_
        refine ac_ent (t := mkS [(2, .list 6 (List.map eR a2)), (3, .ptr 0 0 0), (4, .ptr 1 0 0), (8, .bl v10), (9, .ptr 15 0 0), (10, .ptr 20 0 0), (11, .own 21 0 v13.length), (12, .bl v14)] [(0, ⟨6, [[.int a0.p, .int a0.q.n, .list 1 (List.map eI a0.q.src), .list 1 (List.map eI a0.q.tgt), .list 1 (List.map eI a0.dims), .list 3 (List.map eM a0.maps)]]⟩), (1, ⟨6, [[.int a1.p, .int a1.q.n, .list 1 (List.map eI a1.q.src), .list 1 (List.map eI a1.q.tgt), .list 1 (List.map eI a1.dims), .list 3 (List.map eM a1.maps)]]⟩), (11, ⟨1, List.map (ow eI) v11.q.src⟩), (12, ⟨1, List.map (ow eI) v11.q.tgt⟩), (13, ⟨1, List.map (ow eI) v11.dims⟩), (14, ⟨3, List.map (ow eM) v11.maps⟩), (15, ⟨6, [[.int v11.p, .int v11.q.n, .own 11 0 v11.q.src.length, .own 12 0 v11.q.tgt.length, .own 13 0 v11.dims.length, .own 14 0 v11.maps.length]]⟩), (16, ⟨1, List.map (ow eI) v12.q.src⟩), (17, ⟨1, List.map (ow eI) v12.q.tgt⟩), (18, ⟨1, List.map (ow eI) v12.dims⟩), (19, ⟨3, List.map (ow eM) v12.maps⟩), (20, ⟨6, [[.int v12.p, .int v12.q.n, .own 16 0 v12.q.src.length, .own 17 0 v12.q.tgt.length, .own 18 0 v12.dims.length, .own 19 0 v12.maps.length]]⟩), (21, ⟨6, List.map (ow eR) v13⟩)] 22 [22, 23, 24, 25, 26, 27, 28, 29, 30, 31, 32, 33, 34, 35]) (ent_mk (σ := sg [(0, 0), (1, 1), (11, 11), (12, 12), (13, 13), (14, 14), (15, 15), (16, 16), (17, 17), (18, 18), (19, 19), (20, 20), (21, 21)]) ⟨⟨_, rfl, ⟨rfl, rfl⟩⟩, ⟨_, rfl, ⟨rfl, rfl, rfl, rfl⟩⟩, ⟨_, rfl, ⟨rfl, rfl, rfl, rfl⟩⟩, ⟨_, rfl, rfl⟩, ⟨_, rfl, ⟨rfl, rfl, rfl, rfl⟩⟩, ⟨_, rfl, ⟨rfl, rfl, rfl, rfl⟩⟩, ⟨_, rfl, ⟨rfl, rfl, rfl, rfl⟩⟩, ⟨_, rfl, rfl⟩, trivial⟩ ⟨⟨_, rfl, rfl, .inl ⟨rfl, plain_of rfl⟩⟩, rfl, ⟨_, rfl, rfl, .inl ⟨rfl, plain_of rfl⟩⟩, rfl, ⟨_, rfl, rfl, .inl ⟨rfl, okI.plainO _⟩⟩, rfl, ⟨_, rfl, rfl, .inl ⟨rfl, okI.plainO _⟩⟩, rfl, ⟨_, rfl, rfl, .inl ⟨rfl, okI.plainO _⟩⟩, rfl, ⟨_, rfl, rfl, .inl ⟨rfl, okMt.plainO _⟩⟩, rfl, ⟨_, rfl, rfl, .inr ⟨_, _, rfl, ⟨_, _, rfl, rfl, ⟨_, _, rfl, rfl, ⟨_, _, rfl, ⟨rfl, rfl, rfl, rfl⟩, ⟨_, _, rfl, ⟨rfl, rfl, rfl, rfl⟩, ⟨_, _, rfl, ⟨rfl, rfl, rfl, rfl⟩, ⟨_, _, rfl, ⟨rfl, rfl, rfl, rfl⟩, rfl⟩⟩⟩⟩⟩⟩, rfl⟩⟩, rfl, ⟨_, rfl, rfl, .inl ⟨rfl, okI.plainO _⟩⟩, rfl, ⟨_, rfl, rfl, .inl ⟨rfl, okI.plainO _⟩⟩, rfl, ⟨_, rfl, rfl, .inl ⟨rfl, okI.plainO _⟩⟩, rfl, ⟨_, rfl, rfl, .inl ⟨rfl, okMt.plainO _⟩⟩, rfl, ⟨_, rfl, rfl, .inr ⟨_, _, rfl, ⟨_, _, rfl, rfl, ⟨_, _, rfl, rfl, ⟨_, _, rfl, ⟨rfl, rfl, rfl, rfl⟩, ⟨_, _, rfl, ⟨rfl, rfl, rfl, rfl⟩, ⟨_, _, rfl, ⟨rfl, rfl, rfl, rfl⟩, ⟨_, _, rfl, ⟨rfl, rfl, rfl, rfl⟩, rfl⟩⟩⟩⟩⟩⟩, rfl⟩⟩, rfl, ⟨_, rfl, rfl, .inl ⟨rfl, okRp.plainO _⟩⟩, rfl, trivial⟩ rfl) ?_
        refine ac_seq ?_
        refine ac_seq ?_
        refine ac_region ?_
        refine aops_eff (eff_move rfl) rfl rfl rfl ?_
        refine aops_eff (eff_move rfl) rfl rfl rfl ?_
        refine aops_eff (w_neqB (by kernel_rfl) rfl rfl) rfl rfl rfl ?_
        refine aops_nil ?_
        refine then_n ?_
        rcases cb h with ⟨q15, h⟩ | ⟨q15, h⟩
        · refine ac_condT rfl q15 ?_
          refine ac_seq ?_
          refine ac_region ?_
          refine aops_eff (eff_assign rfl) rfl rfl rfl ?_
          refine aops_nil ?_
          refine then_n ?_
          refine ac_ret ?_
          refine then_ret ?_
          obtain rfl := so h
          exact ret_mk rfl rfl rfl (fz_bl rfl)
        · refine ac_condF rfl q15 ?_
          refine ac_skip ?_
          refine then_n ?_
          refine ac_seq ?_
          refine ac_seq ?_
          refine ac_region_draw MIXX ?_
          refine aops_eff (w_load_ptr TT_ok rfl rfl rfl rfl rfl rfl rfl) rfl rfl rfl ?_
          refine aops_eff (w_load_ptr TT_ok rfl rfl rfl rfl rfl rfl rfl) rfl rfl rfl ?_
          obtain ⟨v16, hv16, h⟩ := ob h
          refine aops_eff (AEff.conv (w_call0 (x := .agg [.int v16.p, .int v16.q.n, .own 22 0 (List.map eI v16.q.src).length, .own 23 0 (List.map eI v16.q.tgt).length, .own 24 0 (List.map eI v16.dims).length, .own 25 0 (List.map eM v16.maps).length]) (nb := [(22, ⟨1, absEs (List.map eI v16.q.src)⟩), (23, ⟨1, absEs (List.map eI v16.q.tgt)⟩), (24, ⟨1, absEs (List.map eI v16.dims)⟩), (25, ⟨3, absEs (List.map eM v16.maps)⟩)]) (c_laws_toRep a0 v16 hv16) rfl (by rfl) rfl rfl (g1_cons trivial (g1_cons trivial (g1_cons (okI.good _) (g1_cons (okI.good _) (g1_cons (okI.good _) (g1_cons (okMt.good _) g1_nil)))))) (va_cons (va_agg' (v1_cons (v1_same rfl) (v1_cons (v1_same rfl) (v1_cons (v1_same rfl) (v1_cons (v1_same rfl) (v1_cons (v1_same rfl) (v1_cons (v1_same rfl) v1_nil))))))) va_nil)) (v' := .agg [.int v16.p, .int v16.q.n, .own 22 0 v16.q.src.length, .own 23 0 v16.q.tgt.length, .own 24 0 v16.dims.length, .own 25 0 v16.maps.length]) (ed' := [(22, some ⟨1, List.map (ow eI) v16.q.src⟩), (23, some ⟨1, List.map (ow eI) v16.q.tgt⟩), (24, some ⟨1, List.map (ow eI) v16.dims⟩), (25, some ⟨3, List.map (ow eM) v16.maps⟩)]) (by simp only [len_map]) (ed_ok (nb' := [(22, ⟨1, List.map (ow eI) v16.q.src⟩), (23, ⟨1, List.map (ow eI) v16.q.tgt⟩), (24, ⟨1, List.map (ow eI) v16.dims⟩), (25, ⟨3, List.map (ow eM) v16.maps⟩)]) (by simp only [abs_map]))) rfl rfl rfl ?_
          obtain ⟨v17, hv17, h⟩ := ob h
          refine aops_eff (w_call0s (c_laws_eqRep v11 v16 v17 hv17) rfl (va_cons (va_agg' (v1_cons (v1_same rfl) (v1_cons (v1_same rfl) (v1_cons (v1_T okI rfl rfl) (v1_cons (v1_T okI rfl rfl) (v1_cons (v1_T okI rfl rfl) (v1_cons (v1_T okMt rfl rfl) v1_nil))))))) (va_cons (va_agg' (v1_cons (v1_same rfl) (v1_cons (v1_same rfl) (v1_cons (v1_T okI rfl rfl) (v1_cons (v1_T okI rfl rfl) (v1_cons (v1_T okI rfl rfl) (v1_cons (v1_T okMt rfl rfl) v1_nil))))))) va_nil))) rfl rfl rfl ?_
          refine aops_eff (w_not rfl) rfl rfl rfl ?_
          refine aops_nil ?_
          refine ⟨by kernel_rfl, ?_⟩
          refine then_n ?_
          rcases cb h with ⟨q18, h⟩ | ⟨q18, h⟩
          · refine ac_condT rfl q18 ?_
            refine ac_seq ?_
            refine ac_region ?_
            refine aops_eff (eff_assign rfl) rfl rfl rfl ?_
            refine aops_nil ?_
            refine then_n ?_
            refine ac_ret ?_
            refine then_ret ?_
            obtain rfl := so h
            exact ret_mk rfl rfl rfl (fz_bl rfl)
          · refine ac_condF rfl q18 ?_
            refine ac_skip ?_
            refine then_n ?_
            refine ac_seq ?_
            refine ac_seq ?_
            refine ac_region_draw MIXX ?_
            refine aops_eff (w_load_ptr TT_ok rfl rfl rfl rfl rfl rfl rfl) rfl rfl rfl ?_
            refine aops_eff (w_load_ptr TT_ok rfl rfl rfl rfl rfl rfl rfl) rfl rfl rfl ?_
            obtain ⟨v19, hv19, h⟩ := ob h
            refine aops_eff (AEff.conv (w_call0 (x := .agg [.int v19.p, .int v19.q.n, .own 26 0 (List.map eI v19.q.src).length, .own 27 0 (List.map eI v19.q.tgt).length, .own 28 0 (List.map eI v19.dims).length, .own 29 0 (List.map eM v19.maps).length]) (nb := [(26, ⟨1, absEs (List.map eI v19.q.src)⟩), (27, ⟨1, absEs (List.map eI v19.q.tgt)⟩), (28, ⟨1, absEs (List.map eI v19.dims)⟩), (29, ⟨3, absEs (List.map eM v19.maps)⟩)]) (c_laws_toRep a1 v19 hv19) rfl (by rfl) rfl rfl (g1_cons trivial (g1_cons trivial (g1_cons (okI.good _) (g1_cons (okI.good _) (g1_cons (okI.good _) (g1_cons (okMt.good _) g1_nil)))))) (va_cons (va_agg' (v1_cons (v1_same rfl) (v1_cons (v1_same rfl) (v1_cons (v1_same rfl) (v1_cons (v1_same rfl) (v1_cons (v1_same rfl) (v1_cons (v1_same rfl) v1_nil))))))) va_nil)) (v' := .agg [.int v19.p, .int v19.q.n, .own 26 0 v19.q.src.length, .own 27 0 v19.q.tgt.length, .own 28 0 v19.dims.length, .own 29 0 v19.maps.length]) (ed' := [(26, some ⟨1, List.map (ow eI) v19.q.src⟩), (27, some ⟨1, List.map (ow eI) v19.q.tgt⟩), (28, some ⟨1, List.map (ow eI) v19.dims⟩), (29, some ⟨3, List.map (ow eM) v19.maps⟩)]) (by simp only [len_map]) (ed_ok (nb' := [(26, ⟨1, List.map (ow eI) v19.q.src⟩), (27, ⟨1, List.map (ow eI) v19.q.tgt⟩), (28, ⟨1, List.map (ow eI) v19.dims⟩), (29, ⟨3, List.map (ow eM) v19.maps⟩)]) (by simp only [abs_map]))) rfl rfl rfl ?_
            obtain ⟨v20, hv20, h⟩ := ob h
            refine aops_eff (w_call0s (c_laws_eqRep v12 v19 v20 hv20) rfl (va_cons (va_agg' (v1_cons (v1_same rfl) (v1_cons (v1_same rfl) (v1_cons (v1_T okI rfl rfl) (v1_cons (v1_T okI rfl rfl) (v1_cons (v1_T okI rfl rfl) (v1_cons (v1_T okMt rfl rfl) v1_nil))))))) (va_cons (va_agg' (v1_cons (v1_same rfl) (v1_cons (v1_same rfl) (v1_cons (v1_T okI rfl rfl) (v1_cons (v1_T okI rfl rfl) (v1_cons (v1_T okI rfl rfl) (v1_cons (v1_T okMt rfl rfl) v1_nil))))))) va_nil))) rfl rfl rfl ?_
            refine aops_eff (w_not rfl) rfl rfl rfl ?_
            refine aops_nil ?_
            refine ⟨by kernel_rfl, ?_⟩
            refine then_n ?_
            refine ac_ent (t := mkS [(2, .list 6 (List.map eR a2)), (11, .own 21 0 v13.length), (57, .bl (!v20))] [(21, ⟨6, List.map (ow eR) v13⟩)] 30 [30, 31, 32, 33, 34, 35, 36, 37, 38, 39, 40, 41, 42, 43]) (ent_mk (σ := sg [(21, 21)]) ⟨⟨_, rfl, ⟨rfl, rfl⟩⟩, ⟨_, rfl, ⟨rfl, rfl, rfl, rfl⟩⟩, ⟨_, rfl, rfl⟩, trivial⟩ ⟨⟨_, rfl, rfl, .inl ⟨rfl, okRp.plainO _⟩⟩, rfl, trivial⟩ rfl) ?_
            rcases cb h with ⟨q21, h⟩ | ⟨q21, h⟩
            · refine ac_condT rfl q21 ?_
              refine ac_seq ?_
              refine ac_region ?_
              refine aops_eff (eff_assign rfl) rfl rfl rfl ?_
              refine aops_nil ?_
              refine then_n ?_
              refine ac_ret ?_
              refine then_ret ?_
              obtain rfl := so h
              exact ret_mk rfl rfl rfl (fz_bl rfl)
            · refine ac_condF rfl q21 ?_
              refine ac_skip ?_
              refine then_n ?_
              refine ac_seq ?_
              refine ac_seq ?_
              refine ac_region ?_
              refine aops_eff (eff_move rfl) rfl rfl rfl ?_
              refine aops_eff (eff_move rfl) rfl rfl rfl ?_
              obtain ⟨v22, hv22, h⟩ := ob h
              refine aops_eff (AEff.conv (w_call0 (x := .own 30 0 (List.map eR v22).length) (nb := [(30, ⟨6, absEs (List.map eR v22)⟩)]) (c_laws_toRepS a2 v22 hv22) rfl (by rfl) rfl rfl (okRp.good _) (va_cons (va_same rfl) va_nil)) (v' := .own 30 0 v22.length) (ed' := [(30, some ⟨6, List.map (ow eR) v22⟩)]) (by simp only [len_map]) (ed_ok (nb' := [(30, ⟨6, List.map (ow eR) v22⟩)]) (by simp only [abs_map]))) rfl rfl rfl ?_
              obtain ⟨v23, hv23, h⟩ := ob h
              refine aops_eff (w_call0s (c_laws_eqRepS v13 v22 v23 hv23) rfl (va_cons (va_T okRp rfl rfl) (va_cons (va_T okRp rfl rfl) va_nil))) rfl rfl rfl ?_
              refine aops_eff (w_not rfl) rfl rfl rfl ?_
              refine aops_nil ?_
              refine then_n ?_
              rcases cb h with ⟨q24, h⟩ | ⟨q24, h⟩
              · refine ac_condT rfl q24 ?_
                refine ac_seq ?_
                refine ac_region ?_
                refine aops_eff (eff_assign rfl) rfl rfl rfl ?_
                refine aops_nil ?_
                refine then_n ?_
                refine ac_ret ?_
                refine then_ret ?_
                obtain rfl := so h
                exact ret_mk rfl rfl rfl (fz_bl rfl)
              · refine ac_condF rfl q24 ?_
                refine ac_skip ?_
                refine then_n ?_
                refine ac_seq ?_
                refine ac_region ?_
                refine aops_eff (eff_assign rfl) rfl rfl rfl ?_
                refine aops_nil ?_
                refine then_n ?_
                refine ac_ret ?_
                obtain rfl := so h
                exact ret_mk rfl rfl rfl (fz_bl rfl)

end Go.Proofs.Ytjfcjkeghigipaa

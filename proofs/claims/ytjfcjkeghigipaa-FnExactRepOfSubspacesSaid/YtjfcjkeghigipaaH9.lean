/-
  Several texts of the claim in one: each begins with its own remark.
-/
import Derived.Test.YtjfcjkeghigipaaH8
section
set_option linter.unusedVariables false
set_option linter.unusedSimpArgs false
/-
  Models and contracts of functions, made by the extractor (ex.py).
-/
namespace Go.Proofs.Ytjfcjkeghigipaa
open Go.RowKit
set_option linter.unusedVariables false
set_option linter.unusedSimpArgs false
set_option maxRecDepth 10000
set_option maxHeartbeats 4000000

noncomputable def m_laws_FnExactRepOfSubspaces (a0 : Int) (a1 : Int) (a2 : (List Sc)) : Option Bool :=
  Option.bind (m_laws_szSpaceS a2 1048576) fun v1 =>
  bif decide (v1 < 0) then
    (some (true))
  else
    (Option.bind (m_laws_toSpaceS a2) fun v3 =>
    Option.bind (m_spec_RepOfSubspaces a0 a1 v3) fun v4 =>
    Option.bind (m_laws_toSpaceS a2) fun v5 =>
    Option.bind (m_impl_RepOfSubspaces a0 a1 v5) fun v6 =>
    Option.bind (m_laws_eqRep v6.1 v4.1) fun v7 =>
    bif !v7 then
      (some (false))
    else
      (bif !(v6.2 == v4.2) then
        (some (false))
      else
        (Option.bind (m_laws_toSpaceS a2) fun v10 =>
        Option.bind (m_laws_eqSpaceS v5 v10) fun v11 =>
        bif !v11 then
          (some (false))
        else
          (Option.bind (m_laws_markSpaceS v5 1) fun v13 =>
          bif decide (v13.1.length = v5.length) then
            (bif decide (v13.2 < 0) then
              (some (false))
            else
              (Option.bind (m_laws_eqRep v6.1 v4.1) fun v16 =>
              bif !v16 then
                (some (false))
              else
                (bif !(v6.2 == v4.2) then
                  (some (false))
                else
                  (Option.bind (m_laws_markRep v6.1 1) fun v19 =>
                  bif decide (v19.1.length = v6.1.q.src.length) then
                    (bif decide (v19.2.1.length = v6.1.q.tgt.length) then
                      (bif decide (v19.2.2.1.length = v6.1.dims.length) then
                        (bif decide (v19.2.2.2.1.length = v6.1.maps.length) then
                          (Option.bind (m_laws_heldRep (⟨v6.1.p, (⟨v6.1.q.n, v19.1, v19.2.1⟩ : Qv), v19.2.2.1, v19.2.2.2.1⟩ : Rp) 1) fun v24 =>
                          bif decide (v24 < 0) then
                            (some (false))
                          else
                            (bif !decide (v24 = v19.2.2.2.2) then
                              (some (false))
                            else
                              (Option.bind (m_laws_toSpaceS a2) fun v27 =>
                              Option.bind (m_impl_RepOfSubspaces a0 a1 v27) fun v28 =>
                              Option.bind (m_laws_eqRep v28.1 v4.1) fun v29 =>
                              bif !v29 then
                                (some (false))
                              else
                                (bif !(v28.2 == v4.2) then
                                  (some (false))
                                else
                                  (Option.bind (m_laws_heldRep (⟨v6.1.p, (⟨v6.1.q.n, v19.1, v19.2.1⟩ : Qv), v19.2.2.1, v19.2.2.2.1⟩ : Rp) 1) fun v32 =>
                                  bif decide (v32 < 0) then
                                    (some (false))
                                  else
                                    (bif !decide (v32 = v19.2.2.2.2) then
                                      (some (false))
                                    else
                                      (some (true))))))))
                        else none)
                      else none)
                    else none)
                  else none))))
          else none))))

theorem c_laws_FnExactRepOfSubspaces (a0 : Int) (a1 : Int) (a2 : (List Sc)) (r : Bool) (h : m_laws_FnExactRepOfSubspaces a0 a1 a2 = some r) : HasC Try.prog 6 [.int a0, .int a1, .list 2 (List.map eS a2)] (.bl r) := by
 refine hasC_mkW TT_ok (rvs := [.tmp 6]) (ns := [0, 1, 2, 3, 4, 5, 6, 7, 8, 9, 10, 11, 12, 13, 14, 15, 16, 17, 18, 19, 20]) Try.func6 k k Try.ntmps6 k k k (fun W => ?_)
 refine rawE_sc <| rawE_sc <| rawE_d (fun w2_0 S2_0 r2_0 => ?_)
 refine rawE_nil <| sQ <| rgS <| se (eff_assign k) k <| sn <| tn <| sQ <| rgS <| se (eff_assign k) k <| sn ?_
 refine tn <| sQ <| rgS <| se (eff_move k) k <| se (eff_move k) k ?_
 obtain ⟨v1, hv1, h⟩ := ob h
 refine se (w_call0sK (c_laws_szSpaceS a2 1048576 v1 hv1) k (vk_cons (.inr (raw_d k r2_0)) (vk_cons (.inl (va_same k)) vk_nil))) k <| se (eff_assign k) k <| sn <| tn <| sQ <| sQ <| rgS <| se (eff_move k) k <| se (w_cmp k k k) k <| sn ?_
 refine tn ?_
 rcases cb h with ⟨q2, h⟩ | ⟨q2, h⟩
 ·refine ac_condT k q2 <| sQ <| rgS <| se (eff_assign k) k <| sn <| tn <| ac_ret <| then_ret ?_
  obtain rfl := so h
  exact ret_mk k k k (fz_bl k)
 ·refine ac_condF k q2 <| ac_skip <| tn <| sQ <| rgS <| se (eff_move k) k <| se (eff_move k) k <| se (eff_move k) k ?_
  obtain ⟨v3, hv3, h⟩ := ob h
  refine se (AEff.conv (w_call0K (x := .own 0 0 (List.map eS v3).length) (nb := [(0, ⟨2, absEs (List.map eS v3)⟩)]) (c_laws_toSpaceS a2 v3 hv3) k (by rfl) k k (okSc.good _) (vk_cons (.inr (raw_d k r2_0)) vk_nil)) (v' := .own 0 0 v3.length) (ed' := [(0, some ⟨2, List.map (ow eS) v3⟩)]) (by simp only [len_map]) (ed_ok (nb' := [(0, ⟨2, List.map (ow eS) v3⟩)]) (by simp only [abs_map]))) k ?_
  obtain ⟨v4, hv4, h⟩ := ob h
  refine se (AEff.conv (w_call0K (x := .tuple [.agg [.int v4.1.p, .int v4.1.q.n, .own 1 0 (List.map eI v4.1.q.src).length, .own 2 0 (List.map eI v4.1.q.tgt).length, .own 3 0 (List.map eI v4.1.dims).length, .own 4 0 (List.map eM v4.1.maps).length], .bl v4.2]) (nb := [(1, ⟨1, absEs (List.map eI v4.1.q.src)⟩), (2, ⟨1, absEs (List.map eI v4.1.q.tgt)⟩), (3, ⟨1, absEs (List.map eI v4.1.dims)⟩), (4, ⟨3, absEs (List.map eM v4.1.maps)⟩)]) (c_spec_RepOfSubspaces a0 a1 v3 v4 hv4) k (by rfl) k k (gB_cons (g1_cons trivial (g1_cons trivial (g1_cons (okI.good _) (g1_cons (okI.good _) (g1_cons (okI.good _) (g1_cons (okMt.good _) g1_nil)))))) (gB_cons trivial gB_nil)) (vk_cons (.inl (va_same k)) (vk_cons (.inl (va_same k)) (vk_cons (.inl (va_T okSc k k)) vk_nil)))) (v' := .tuple [.agg [.int v4.1.p, .int v4.1.q.n, .own 1 0 v4.1.q.src.length, .own 2 0 v4.1.q.tgt.length, .own 3 0 v4.1.dims.length, .own 4 0 v4.1.maps.length], .bl v4.2]) (ed' := [(1, some ⟨1, List.map (ow eI) v4.1.q.src⟩), (2, some ⟨1, List.map (ow eI) v4.1.q.tgt⟩), (3, some ⟨1, List.map (ow eI) v4.1.dims⟩), (4, some ⟨3, List.map (ow eM) v4.1.maps⟩)]) (by simp only [len_map]) (ed_ok (nb' := [(1, ⟨1, List.map (ow eI) v4.1.q.src⟩), (2, ⟨1, List.map (ow eI) v4.1.q.tgt⟩), (3, ⟨1, List.map (ow eI) v4.1.dims⟩), (4, ⟨3, List.map (ow eM) v4.1.maps⟩)]) (by simp only [abs_map]))) k <| se (eff_move k) k <| se (eff_extract k k (by intro _ h; cases h)) k <| se (eff_extract k k (by intro _ h; cases h)) k <| se (w_alloc TT_ok k k) k <| se (w_store TT_ok k k k k k k k k) k ?_
  refine se (eff_assign k) k <| sn <| tn <| ac_ent (t := mkS [(0, .int a0), (1, .int a1), (2, .sc w2_0), (8, .ptr 5 0 0), (9, .bl v4.2)] [(1, ⟨1, List.map (ow eI) v4.1.q.src⟩), (2, ⟨1, List.map (ow eI) v4.1.q.tgt⟩), (3, ⟨1, List.map (ow eI) v4.1.dims⟩), (4, ⟨3, List.map (ow eM) v4.1.maps⟩), (5, ⟨6, [[.int v4.1.p, .int v4.1.q.n, .own 1 0 v4.1.q.src.length, .own 2 0 v4.1.q.tgt.length, .own 3 0 v4.1.dims.length, .own 4 0 v4.1.maps.length]]⟩)] 6 [6, 7, 8, 9, 10, 11, 12, 13, 14, 15, 16, 17, 18, 19, 20] ⟨0, true, some (W.heap.size, W)⟩) (ent_mk (σ := sg [(1, 1), (2, 2), (3, 3), (4, 4), (5, 5)]) ⟨(e1 k k), (e1 k k), (e1 k k), ⟨_, k, ⟨k, k, k, k⟩⟩, (e1 k k), trivial⟩ ⟨⟨_, k, k, .inl ⟨k, okI.plainO _⟩⟩, k, ⟨_, k, k, .inl ⟨k, okI.plainO _⟩⟩, k, ⟨_, k, k, .inl ⟨k, okI.plainO _⟩⟩, k, ⟨_, k, k, .inl ⟨k, okMt.plainO _⟩⟩, k, ⟨_, k, k, .inr ⟨_, _, k, ⟨_, _, k, k, ⟨_, _, k, k, ⟨_, _, k, ⟨k, k, k, k⟩, ⟨_, _, k, ⟨k, k, k, k⟩, ⟨_, _, k, ⟨k, k, k, k⟩, ⟨_, _, k, ⟨k, k, k, k⟩, k⟩⟩⟩⟩⟩⟩, k⟩⟩, k, trivial⟩ k) <| sQ <| rgS <| se (eff_move k) k ?_
  obtain ⟨v5, hv5, h⟩ := ob h
  refine se (AEff.conv (w_call0K (x := .own 6 0 (List.map eS v5).length) (nb := [(6, ⟨2, absEs (List.map eS v5)⟩)]) (c_laws_toSpaceS a2 v5 hv5) k (by rfl) k k (okSc.good _) (vk_cons (.inr (raw_d k r2_0)) vk_nil)) (v' := .own 6 0 v5.length) (ed' := [(6, some ⟨2, List.map (ow eS) v5⟩)]) (by simp only [len_map]) (ed_ok (nb' := [(6, ⟨2, List.map (ow eS) v5⟩)]) (by simp only [abs_map]))) k <| se (eff_assign k) k <| sn <| tn <| sQ <| rgS <| se (eff_move k) k <| se (eff_move k) k <| se (eff_move k) k ?_
  obtain ⟨v6, hv6, h⟩ := ob h
  refine se (AEff.conv (w_call0K (x := .tuple [.agg [.int v6.1.p, .int v6.1.q.n, .own 7 0 (List.map eI v6.1.q.src).length, .own 8 0 (List.map eI v6.1.q.tgt).length, .own 9 0 (List.map eI v6.1.dims).length, .own 10 0 (List.map eM v6.1.maps).length], .bl v6.2]) (nb := [(7, ⟨1, absEs (List.map eI v6.1.q.src)⟩), (8, ⟨1, absEs (List.map eI v6.1.q.tgt)⟩), (9, ⟨1, absEs (List.map eI v6.1.dims)⟩), (10, ⟨3, absEs (List.map eM v6.1.maps)⟩)]) (c_impl_RepOfSubspaces a0 a1 v5 v6 hv6) k (by rfl) k k (gB_cons (g1_cons trivial (g1_cons trivial (g1_cons (okI.good _) (g1_cons (okI.good _) (g1_cons (okI.good _) (g1_cons (okMt.good _) g1_nil)))))) (gB_cons trivial gB_nil)) (vk_cons (.inl (va_same k)) (vk_cons (.inl (va_same k)) (vk_cons (.inl (va_T okSc k k)) vk_nil)))) (v' := .tuple [.agg [.int v6.1.p, .int v6.1.q.n, .own 7 0 v6.1.q.src.length, .own 8 0 v6.1.q.tgt.length, .own 9 0 v6.1.dims.length, .own 10 0 v6.1.maps.length], .bl v6.2]) (ed' := [(7, some ⟨1, List.map (ow eI) v6.1.q.src⟩), (8, some ⟨1, List.map (ow eI) v6.1.q.tgt⟩), (9, some ⟨1, List.map (ow eI) v6.1.dims⟩), (10, some ⟨3, List.map (ow eM) v6.1.maps⟩)]) (by simp only [len_map]) (ed_ok (nb' := [(7, ⟨1, List.map (ow eI) v6.1.q.src⟩), (8, ⟨1, List.map (ow eI) v6.1.q.tgt⟩), (9, ⟨1, List.map (ow eI) v6.1.dims⟩), (10, ⟨3, List.map (ow eM) v6.1.maps⟩)]) (by simp only [abs_map]))) k <| se (eff_move k) k <| se (eff_extract k k (by intro _ h; cases h)) k <| se (eff_extract k k (by intro _ h; cases h)) k <| se (w_alloc TT_ok k k) k <| se (w_store TT_ok k k k k k k k k) k ?_
  refine se (eff_assign k) k <| sn <| tn <| ac_ent (t := mkS [(0, .int a0), (1, .int a1), (2, .sc w2_0), (8, .ptr 5 0 0), (9, .bl v4.2), (10, .own 6 0 v5.length), (11, .ptr 11 0 0), (12, .bl v6.2)] [(1, ⟨1, List.map (ow eI) v4.1.q.src⟩), (2, ⟨1, List.map (ow eI) v4.1.q.tgt⟩), (3, ⟨1, List.map (ow eI) v4.1.dims⟩), (4, ⟨3, List.map (ow eM) v4.1.maps⟩), (5, ⟨6, [[.int v4.1.p, .int v4.1.q.n, .own 1 0 v4.1.q.src.length, .own 2 0 v4.1.q.tgt.length, .own 3 0 v4.1.dims.length, .own 4 0 v4.1.maps.length]]⟩), (6, ⟨2, List.map (ow eS) v5⟩), (7, ⟨1, List.map (ow eI) v6.1.q.src⟩), (8, ⟨1, List.map (ow eI) v6.1.q.tgt⟩), (9, ⟨1, List.map (ow eI) v6.1.dims⟩), (10, ⟨3, List.map (ow eM) v6.1.maps⟩), (11, ⟨6, [[.int v6.1.p, .int v6.1.q.n, .own 7 0 v6.1.q.src.length, .own 8 0 v6.1.q.tgt.length, .own 9 0 v6.1.dims.length, .own 10 0 v6.1.maps.length]]⟩)] 12 [12, 13, 14, 15, 16, 17, 18, 19, 20] ⟨0, true, some (W.heap.size, W)⟩) (ent_mk (σ := sg [(1, 1), (2, 2), (3, 3), (4, 4), (5, 5), (6, 6), (7, 7), (8, 8), (9, 9), (10, 10), (11, 11)]) ⟨(e1 k k), (e1 k k), (e1 k k), ⟨_, k, ⟨k, k, k, k⟩⟩, (e1 k k), ⟨_, k, ⟨k, k, k, k⟩⟩, ⟨_, k, ⟨k, k, k, k⟩⟩, (e1 k k), trivial⟩ ⟨⟨_, k, k, .inl ⟨k, okI.plainO _⟩⟩, k, ⟨_, k, k, .inl ⟨k, okI.plainO _⟩⟩, k, ⟨_, k, k, .inl ⟨k, okI.plainO _⟩⟩, k, ⟨_, k, k, .inl ⟨k, okMt.plainO _⟩⟩, k, ⟨_, k, k, .inr ⟨_, _, k, ⟨_, _, k, k, ⟨_, _, k, k, ⟨_, _, k, ⟨k, k, k, k⟩, ⟨_, _, k, ⟨k, k, k, k⟩, ⟨_, _, k, ⟨k, k, k, k⟩, ⟨_, _, k, ⟨k, k, k, k⟩, k⟩⟩⟩⟩⟩⟩, k⟩⟩, k, ⟨_, k, k, .inl ⟨k, okSc.plainO _⟩⟩, k, ⟨_, k, k, .inl ⟨k, okI.plainO _⟩⟩, k, ⟨_, k, k, .inl ⟨k, okI.plainO _⟩⟩, k, ⟨_, k, k, .inl ⟨k, okI.plainO _⟩⟩, k, ⟨_, k, k, .inl ⟨k, okMt.plainO _⟩⟩, k, ⟨_, k, k, .inr ⟨_, _, k, ⟨_, _, k, k, ⟨_, _, k, k, ⟨_, _, k, ⟨k, k, k, k⟩, ⟨_, _, k, ⟨k, k, k, k⟩, ⟨_, _, k, ⟨k, k, k, k⟩, ⟨_, _, k, ⟨k, k, k, k⟩, k⟩⟩⟩⟩⟩⟩, k⟩⟩, k, trivial⟩ k) ?_
  refine sQ <| sQ <| rgS <| se (w_load_ptr TT_ok k k k k k k k) k <| se (w_load_ptr TT_ok k k k k k k k) k ?_
  obtain ⟨v7, hv7, h⟩ := ob h
  refine se (w_call0sK (c_laws_eqRep v6.1 v4.1 v7 hv7) k (vk_cons (.inl (va_agg' (v1_cons (v1_same k) (v1_cons (v1_same k) (v1_cons (v1_T okI k k) (v1_cons (v1_T okI k k) (v1_cons (v1_T okI k k) (v1_cons (v1_T okMt k k) v1_nil)))))))) (vk_cons (.inl (va_agg' (v1_cons (v1_same k) (v1_cons (v1_same k) (v1_cons (v1_T okI k k) (v1_cons (v1_T okI k k) (v1_cons (v1_T okI k k) (v1_cons (v1_T okMt k k) v1_nil)))))))) vk_nil))) k <| se (w_not k) k <| se (eff_move k) k ?_
  rcases cb h with ⟨q8, h⟩ | ⟨q8, h⟩
  ·refine sops_lit 44 k q8 <| sops_skip k k <| sops_skip k k <| sops_skip k k <| se (eff_pick k k) k <| sn <| tn <| ac_condT k k <| sQ <| rgS ?_
   refine se (eff_assign k) k <| sn <| tn <| ac_ret <| then_ret ?_
   obtain rfl := so h
   exact ret_mk k k k (fz_bl k)
  ·refine sops_lit 44 k q8 <| se (eff_move k) k <| se (eff_move k) k <| se (w_neqB (by kernel_rfl) k k) k <| se (eff_pick k k) k <| sn <| tn ?_
   rcases cb h with ⟨q9, h⟩ | ⟨q9, h⟩
   ·refine ac_condT k q9 <| sQ <| rgS <| se (eff_assign k) k <| sn <| tn <| ac_ret <| then_ret ?_
    obtain rfl := so h
    exact ret_mk k k k (fz_bl k)
   ·refine ac_condF k q9 <| ac_skip <| tn <| sQ <| sQ <| rgS <| se (eff_move k) k <| se (eff_move k) k ?_
    obtain ⟨v10, hv10, h⟩ := ob h
    refine se (AEff.conv (w_call0K (x := .own 12 0 (List.map eS v10).length) (nb := [(12, ⟨2, absEs (List.map eS v10)⟩)]) (c_laws_toSpaceS a2 v10 hv10) k (by rfl) k k (okSc.good _) (vk_cons (.inr (raw_d k r2_0)) vk_nil)) (v' := .own 12 0 v10.length) (ed' := [(12, some ⟨2, List.map (ow eS) v10⟩)]) (by simp only [len_map]) (ed_ok (nb' := [(12, ⟨2, List.map (ow eS) v10⟩)]) (by simp only [abs_map]))) k ?_
    obtain ⟨v11, hv11, h⟩ := ob h
    refine se (w_call0sK (c_laws_eqSpaceS v5 v10 v11 hv11) k (vk_cons (.inl (va_T okSc k k)) (vk_cons (.inl (va_T okSc k k)) vk_nil))) k <| se (w_not k) k <| sn <| tn <| ac_ent (t := mkS [(0, .int a0), (1, .int a1), (2, .sc w2_0), (8, .ptr 5 0 0), (9, .bl v4.2), (10, .own 6 0 v5.length), (11, .ptr 11 0 0), (12, .bl v6.2), (53, .bl (!v11))] [(1, ⟨1, List.map (ow eI) v4.1.q.src⟩), (2, ⟨1, List.map (ow eI) v4.1.q.tgt⟩), (3, ⟨1, List.map (ow eI) v4.1.dims⟩), (4, ⟨3, List.map (ow eM) v4.1.maps⟩), (5, ⟨6, [[.int v4.1.p, .int v4.1.q.n, .own 1 0 v4.1.q.src.length, .own 2 0 v4.1.q.tgt.length, .own 3 0 v4.1.dims.length, .own 4 0 v4.1.maps.length]]⟩), (6, ⟨2, List.map (ow eS) v5⟩), (7, ⟨1, List.map (ow eI) v6.1.q.src⟩), (8, ⟨1, List.map (ow eI) v6.1.q.tgt⟩), (9, ⟨1, List.map (ow eI) v6.1.dims⟩), (10, ⟨3, List.map (ow eM) v6.1.maps⟩), (11, ⟨6, [[.int v6.1.p, .int v6.1.q.n, .own 7 0 v6.1.q.src.length, .own 8 0 v6.1.q.tgt.length, .own 9 0 v6.1.dims.length, .own 10 0 v6.1.maps.length]]⟩)] 13 [13, 14, 15, 16, 17, 18, 19, 20] ⟨0, true, some (W.heap.size, W)⟩) (ent_mk (σ := sg [(1, 1), (2, 2), (3, 3), (4, 4), (5, 5), (6, 6), (7, 7), (8, 8), (9, 9), (10, 10), (11, 11)]) ⟨(e1 k k), (e1 k k), (e1 k k), ⟨_, k, ⟨k, k, k, k⟩⟩, (e1 k k), ⟨_, k, ⟨k, k, k, k⟩⟩, ⟨_, k, ⟨k, k, k, k⟩⟩, (e1 k k), (e1 k k), trivial⟩ ⟨⟨_, k, k, .inl ⟨k, okI.plainO _⟩⟩, k, ⟨_, k, k, .inl ⟨k, okI.plainO _⟩⟩, k, ⟨_, k, k, .inl ⟨k, okI.plainO _⟩⟩, k, ⟨_, k, k, .inl ⟨k, okMt.plainO _⟩⟩, k, ⟨_, k, k, .inr ⟨_, _, k, ⟨_, _, k, k, ⟨_, _, k, k, ⟨_, _, k, ⟨k, k, k, k⟩, ⟨_, _, k, ⟨k, k, k, k⟩, ⟨_, _, k, ⟨k, k, k, k⟩, ⟨_, _, k, ⟨k, k, k, k⟩, k⟩⟩⟩⟩⟩⟩, k⟩⟩, k, ⟨_, k, k, .inl ⟨k, okSc.plainO _⟩⟩, k, ⟨_, k, k, .inl ⟨k, okI.plainO _⟩⟩, k, ⟨_, k, k, .inl ⟨k, okI.plainO _⟩⟩, k, ⟨_, k, k, .inl ⟨k, okI.plainO _⟩⟩, k, ⟨_, k, k, .inl ⟨k, okMt.plainO _⟩⟩, k, ⟨_, k, k, .inr ⟨_, _, k, ⟨_, _, k, k, ⟨_, _, k, k, ⟨_, _, k, ⟨k, k, k, k⟩, ⟨_, _, k, ⟨k, k, k, k⟩, ⟨_, _, k, ⟨k, k, k, k⟩, ⟨_, _, k, ⟨k, k, k, k⟩, k⟩⟩⟩⟩⟩⟩, k⟩⟩, k, trivial⟩ k) ?_
    rcases cb h with ⟨q12, h⟩ | ⟨q12, h⟩
    ·refine ac_condT k q12 <| sQ <| rgS <| se (eff_assign k) k <| sn <| tn <| ac_ret <| then_ret ?_
     obtain rfl := so h
     exact ret_mk k k k (fz_bl k)
    ·refine ac_condF k q12 <| ac_skip <| tn <| sQ <| rgS <| se (eff_assign k) k <| sn <| tn <| sQ <| rgS ?_
     refine se (eff_move k) k <| se (eff_move k) k ?_
     obtain ⟨v13, hv13, h⟩ := ob h
     refine sops_ent (t := mkS [(0, .int a0), (1, .int a1), (2, .sc w2_0), (8, .ptr 5 0 0), (9, .bl v4.2), (10, .own 6 0 v5.length), (11, .ptr 11 0 0), (12, .bl v6.2), (13, .int 1), (53, .bl (!v11)), (54, .own 6 0 v5.length), (55, .int 1)] [(1, ⟨1, List.map (ow eI) v4.1.q.src⟩), (2, ⟨1, List.map (ow eI) v4.1.q.tgt⟩), (3, ⟨1, List.map (ow eI) v4.1.dims⟩), (4, ⟨3, List.map (ow eM) v4.1.maps⟩), (5, ⟨6, [[.int v4.1.p, .int v4.1.q.n, .own 1 0 v4.1.q.src.length, .own 2 0 v4.1.q.tgt.length, .own 3 0 v4.1.dims.length, .own 4 0 v4.1.maps.length]]⟩), (6, ⟨2, List.map (ow eS) v5⟩), (7, ⟨1, List.map (ow eI) v6.1.q.src⟩), (8, ⟨1, List.map (ow eI) v6.1.q.tgt⟩), (9, ⟨1, List.map (ow eI) v6.1.dims⟩), (10, ⟨3, List.map (ow eM) v6.1.maps⟩), (11, ⟨6, [[.int v6.1.p, .int v6.1.q.n, .own 7 0 v6.1.q.src.length, .own 8 0 v6.1.q.tgt.length, .own 9 0 v6.1.dims.length, .own 10 0 v6.1.maps.length]]⟩)] 13 [13, 14, 15, 16, 17, 18, 19, 20] ⟨0, true, some (W.heap.size, W)⟩) (ent_mk (σ := sg [(1, 1), (2, 2), (3, 3), (4, 4), (5, 5), (6, 6), (7, 7), (8, 8), (9, 9), (10, 10), (11, 11)]) ⟨(e1 k k), (e1 k k), (e1 k k), ⟨_, k, ⟨k, k, k, k⟩⟩, (e1 k k), ⟨_, k, ⟨k, k, k, k⟩⟩, ⟨_, k, ⟨k, k, k, k⟩⟩, (e1 k k), (e1 k k), (e1 k k), ⟨_, k, ⟨k, k, k, k⟩⟩, (e1 k k), trivial⟩ ⟨⟨_, k, k, .inl ⟨k, okI.plainO _⟩⟩, k, ⟨_, k, k, .inl ⟨k, okI.plainO _⟩⟩, k, ⟨_, k, k, .inl ⟨k, okI.plainO _⟩⟩, k, ⟨_, k, k, .inl ⟨k, okMt.plainO _⟩⟩, k, ⟨_, k, k, .inr ⟨_, _, k, ⟨_, _, k, k, ⟨_, _, k, k, ⟨_, _, k, ⟨k, k, k, k⟩, ⟨_, _, k, ⟨k, k, k, k⟩, ⟨_, _, k, ⟨k, k, k, k⟩, ⟨_, _, k, ⟨k, k, k, k⟩, k⟩⟩⟩⟩⟩⟩, k⟩⟩, k, ⟨_, k, k, .inl ⟨k, okSc.plainO _⟩⟩, k, ⟨_, k, k, .inl ⟨k, okI.plainO _⟩⟩, k, ⟨_, k, k, .inl ⟨k, okI.plainO _⟩⟩, k, ⟨_, k, k, .inl ⟨k, okI.plainO _⟩⟩, k, ⟨_, k, k, .inl ⟨k, okMt.plainO _⟩⟩, k, ⟨_, k, k, .inr ⟨_, _, k, ⟨_, _, k, k, ⟨_, _, k, k, ⟨_, _, k, ⟨k, k, k, k⟩, ⟨_, _, k, ⟨k, k, k, k⟩, ⟨_, _, k, ⟨k, k, k, k⟩, ⟨_, _, k, ⟨k, k, k, k⟩, k⟩⟩⟩⟩⟩⟩, k⟩⟩, k, trivial⟩ k) ?_
     refine sops_T (σ := sg [(0, 6)]) (σ' := sg [(6, 0)]) (touch := [6]) (news := []) (hl2 := [(6, ⟨2, List.map (ow eS) v13.1⟩)]) (n' := 13) (r2 := .int v13.2) (c_laws_markSpaceS v5 1 v13 hv13) k k ⟨_, _, k, ⟨k, k, k, k⟩, ⟨_, _, k, k, k⟩⟩ ⟨⟨_, k, k, .inl ⟨k, okSc.plainO _⟩⟩, k, trivial⟩ k k k ⟨⟨_, k, k, .inl ⟨k, okSc.plainO _⟩⟩, k, trivial⟩ k k k ⟨k, okSc.tame _ _, trivial⟩ k k k k k (dfE_ok ⟨k, k, k, k, k, k, k, k, k, k, k, k, trivial⟩) (dfH_ok (skip := [6]) ⟨.inr (okI.df _ _), .inr (okI.df _ _), .inr (okI.df _ _), .inr (okMt.df _ _), .inr (df_lit k), .inl (by decide), .inr (okI.df _ _), .inr (okI.df _ _), .inr (okI.df _ _), .inr (okMt.df _ _), .inr (df_lit k), trivial⟩) ?_
     obtain ⟨q14, h⟩ := cg h
     refine se (eff_assign k) k <| sn <| tn <| sQ <| sQ <| rgS <| se (eff_move k) k <| se (w_cmp k k k) k <| se (eff_move k) k ?_
     rcases cb h with ⟨q15, h⟩ | ⟨q15, h⟩
     ·refine sops_lit 59 k q15 <| sops_skip k k <| sops_skip k k <| sops_skip k k <| sops_skip k k <| se (eff_pick k k) k <| se (eff_move k) k <| sops_skip k k <| sops_skip k k <| sops_skip k k ?_
      refine se (eff_pick k k) k <| sn <| tn <| ac_ent (t := mkS [(0, .int a0), (1, .int a1), (2, .sc w2_0), (8, .ptr 5 0 0), (9, .bl v4.2), (11, .ptr 11 0 0), (69, .bl true)] [(1, ⟨1, List.map (ow eI) v4.1.q.src⟩), (2, ⟨1, List.map (ow eI) v4.1.q.tgt⟩), (3, ⟨1, List.map (ow eI) v4.1.dims⟩), (4, ⟨3, List.map (ow eM) v4.1.maps⟩), (5, ⟨6, [[.int v4.1.p, .int v4.1.q.n, .own 1 0 v4.1.q.src.length, .own 2 0 v4.1.q.tgt.length, .own 3 0 v4.1.dims.length, .own 4 0 v4.1.maps.length]]⟩), (7, ⟨1, List.map (ow eI) v6.1.q.src⟩), (8, ⟨1, List.map (ow eI) v6.1.q.tgt⟩), (9, ⟨1, List.map (ow eI) v6.1.dims⟩), (10, ⟨3, List.map (ow eM) v6.1.maps⟩), (11, ⟨6, [[.int v6.1.p, .int v6.1.q.n, .own 7 0 v6.1.q.src.length, .own 8 0 v6.1.q.tgt.length, .own 9 0 v6.1.dims.length, .own 10 0 v6.1.maps.length]]⟩)] 13 [13, 14, 15, 16, 17, 18, 19, 20] ⟨0, true, some (W.heap.size, W)⟩) (ent_mk (σ := sg [(1, 1), (2, 2), (3, 3), (4, 4), (5, 5), (7, 7), (8, 8), (9, 9), (10, 10), (11, 11)]) ⟨(e1 k k), (e1 k k), (e1 k k), ⟨_, k, ⟨k, k, k, k⟩⟩, (e1 k k), ⟨_, k, ⟨k, k, k, k⟩⟩, (e1 k k), trivial⟩ ⟨⟨_, k, k, .inl ⟨k, okI.plainO _⟩⟩, k, ⟨_, k, k, .inl ⟨k, okI.plainO _⟩⟩, k, ⟨_, k, k, .inl ⟨k, okI.plainO _⟩⟩, k, ⟨_, k, k, .inl ⟨k, okMt.plainO _⟩⟩, k, ⟨_, k, k, .inr ⟨_, _, k, ⟨_, _, k, k, ⟨_, _, k, k, ⟨_, _, k, ⟨k, k, k, k⟩, ⟨_, _, k, ⟨k, k, k, k⟩, ⟨_, _, k, ⟨k, k, k, k⟩, ⟨_, _, k, ⟨k, k, k, k⟩, k⟩⟩⟩⟩⟩⟩, k⟩⟩, k, ⟨_, k, k, .inl ⟨k, okI.plainO _⟩⟩, k, ⟨_, k, k, .inl ⟨k, okI.plainO _⟩⟩, k, ⟨_, k, k, .inl ⟨k, okI.plainO _⟩⟩, k, ⟨_, k, k, .inl ⟨k, okMt.plainO _⟩⟩, k, ⟨_, k, k, .inr ⟨_, _, k, ⟨_, _, k, k, ⟨_, _, k, k, ⟨_, _, k, ⟨k, k, k, k⟩, ⟨_, _, k, ⟨k, k, k, k⟩, ⟨_, _, k, ⟨k, k, k, k⟩, ⟨_, _, k, ⟨k, k, k, k⟩, k⟩⟩⟩⟩⟩⟩, k⟩⟩, k, trivial⟩ k) ?_
      refine ac_condT k k <| sQ <| rgS <| se (eff_assign k) k <| sn <| tn <| ac_ret <| then_ret ?_
      obtain rfl := so h
      exact ret_mk k k k (fz_bl k)
     ·refine sops_lit 59 k q15 <| se (w_load_ptr TT_ok k k k k k k k) k <| se (w_load_ptr TT_ok k k k k k k k) k ?_
      obtain ⟨v16, hv16, h⟩ := ob h
      refine se (w_call0sK (c_laws_eqRep v6.1 v4.1 v16 hv16) k (vk_cons (.inl (va_agg' (v1_cons (v1_same k) (v1_cons (v1_same k) (v1_cons (v1_T okI k k) (v1_cons (v1_T okI k k) (v1_cons (v1_T okI k k) (v1_cons (v1_T okMt k k) v1_nil)))))))) (vk_cons (.inl (va_agg' (v1_cons (v1_same k) (v1_cons (v1_same k) (v1_cons (v1_T okI k k) (v1_cons (v1_T okI k k) (v1_cons (v1_T okI k k) (v1_cons (v1_T okMt k k) v1_nil)))))))) vk_nil))) k <| se (w_not k) k <| se (eff_pick k k) k <| se (eff_move k) k ?_
      rcases cb h with ⟨q17, h⟩ | ⟨q17, h⟩
      ·refine sops_lit 65 k q17 <| sops_skip k k <| sops_skip k k <| sops_skip k k <| se (eff_pick k k) k <| sn <| tn <| ac_ent (t := mkS [(0, .int a0), (1, .int a1), (2, .sc w2_0), (8, .ptr 5 0 0), (9, .bl v4.2), (11, .ptr 11 0 0), (69, .bl true)] [(1, ⟨1, List.map (ow eI) v4.1.q.src⟩), (2, ⟨1, List.map (ow eI) v4.1.q.tgt⟩), (3, ⟨1, List.map (ow eI) v4.1.dims⟩), (4, ⟨3, List.map (ow eM) v4.1.maps⟩), (5, ⟨6, [[.int v4.1.p, .int v4.1.q.n, .own 1 0 v4.1.q.src.length, .own 2 0 v4.1.q.tgt.length, .own 3 0 v4.1.dims.length, .own 4 0 v4.1.maps.length]]⟩), (7, ⟨1, List.map (ow eI) v6.1.q.src⟩), (8, ⟨1, List.map (ow eI) v6.1.q.tgt⟩), (9, ⟨1, List.map (ow eI) v6.1.dims⟩), (10, ⟨3, List.map (ow eM) v6.1.maps⟩), (11, ⟨6, [[.int v6.1.p, .int v6.1.q.n, .own 7 0 v6.1.q.src.length, .own 8 0 v6.1.q.tgt.length, .own 9 0 v6.1.dims.length, .own 10 0 v6.1.maps.length]]⟩)] 13 [13, 14, 15, 16, 17, 18, 19, 20] ⟨0, true, some (W.heap.size, W)⟩) (ent_mk (σ := sg [(1, 1), (2, 2), (3, 3), (4, 4), (5, 5), (7, 7), (8, 8), (9, 9), (10, 10), (11, 11)]) ⟨(e1 k k), (e1 k k), (e1 k k), ⟨_, k, ⟨k, k, k, k⟩⟩, (e1 k k), ⟨_, k, ⟨k, k, k, k⟩⟩, (e1 k k), trivial⟩ ⟨⟨_, k, k, .inl ⟨k, okI.plainO _⟩⟩, k, ⟨_, k, k, .inl ⟨k, okI.plainO _⟩⟩, k, ⟨_, k, k, .inl ⟨k, okI.plainO _⟩⟩, k, ⟨_, k, k, .inl ⟨k, okMt.plainO _⟩⟩, k, ⟨_, k, k, .inr ⟨_, _, k, ⟨_, _, k, k, ⟨_, _, k, k, ⟨_, _, k, ⟨k, k, k, k⟩, ⟨_, _, k, ⟨k, k, k, k⟩, ⟨_, _, k, ⟨k, k, k, k⟩, ⟨_, _, k, ⟨k, k, k, k⟩, k⟩⟩⟩⟩⟩⟩, k⟩⟩, k, ⟨_, k, k, .inl ⟨k, okI.plainO _⟩⟩, k, ⟨_, k, k, .inl ⟨k, okI.plainO _⟩⟩, k, ⟨_, k, k, .inl ⟨k, okI.plainO _⟩⟩, k, ⟨_, k, k, .inl ⟨k, okMt.plainO _⟩⟩, k, ⟨_, k, k, .inr ⟨_, _, k, ⟨_, _, k, k, ⟨_, _, k, k, ⟨_, _, k, ⟨k, k, k, k⟩, ⟨_, _, k, ⟨k, k, k, k⟩, ⟨_, _, k, ⟨k, k, k, k⟩, ⟨_, _, k, ⟨k, k, k, k⟩, k⟩⟩⟩⟩⟩⟩, k⟩⟩, k, trivial⟩ k) ?_
       refine ac_condT k k <| sQ <| rgS <| se (eff_assign k) k <| sn <| tn <| ac_ret <| then_ret ?_
       obtain rfl := so h
       exact ret_mk k k k (fz_bl k)
      ·refine sops_lit 65 k q17 <| se (eff_move k) k <| se (eff_move k) k <| se (w_neqB (by kernel_rfl) k k) k <| se (eff_pick k k) k <| sn <| tn <| ac_ent (t := mkS [(0, .int a0), (1, .int a1), (2, .sc w2_0), (8, .ptr 5 0 0), (9, .bl v4.2), (11, .ptr 11 0 0), (69, .bl (!(v6.2 == v4.2)))] [(1, ⟨1, List.map (ow eI) v4.1.q.src⟩), (2, ⟨1, List.map (ow eI) v4.1.q.tgt⟩), (3, ⟨1, List.map (ow eI) v4.1.dims⟩), (4, ⟨3, List.map (ow eM) v4.1.maps⟩), (5, ⟨6, [[.int v4.1.p, .int v4.1.q.n, .own 1 0 v4.1.q.src.length, .own 2 0 v4.1.q.tgt.length, .own 3 0 v4.1.dims.length, .own 4 0 v4.1.maps.length]]⟩), (7, ⟨1, List.map (ow eI) v6.1.q.src⟩), (8, ⟨1, List.map (ow eI) v6.1.q.tgt⟩), (9, ⟨1, List.map (ow eI) v6.1.dims⟩), (10, ⟨3, List.map (ow eM) v6.1.maps⟩), (11, ⟨6, [[.int v6.1.p, .int v6.1.q.n, .own 7 0 v6.1.q.src.length, .own 8 0 v6.1.q.tgt.length, .own 9 0 v6.1.dims.length, .own 10 0 v6.1.maps.length]]⟩)] 13 [13, 14, 15, 16, 17, 18, 19, 20] ⟨0, true, some (W.heap.size, W)⟩) (ent_mk (σ := sg [(1, 1), (2, 2), (3, 3), (4, 4), (5, 5), (7, 7), (8, 8), (9, 9), (10, 10), (11, 11)]) ⟨(e1 k k), (e1 k k), (e1 k k), ⟨_, k, ⟨k, k, k, k⟩⟩, (e1 k k), ⟨_, k, ⟨k, k, k, k⟩⟩, (e1 k k), trivial⟩ ⟨⟨_, k, k, .inl ⟨k, okI.plainO _⟩⟩, k, ⟨_, k, k, .inl ⟨k, okI.plainO _⟩⟩, k, ⟨_, k, k, .inl ⟨k, okI.plainO _⟩⟩, k, ⟨_, k, k, .inl ⟨k, okMt.plainO _⟩⟩, k, ⟨_, k, k, .inr ⟨_, _, k, ⟨_, _, k, k, ⟨_, _, k, k, ⟨_, _, k, ⟨k, k, k, k⟩, ⟨_, _, k, ⟨k, k, k, k⟩, ⟨_, _, k, ⟨k, k, k, k⟩, ⟨_, _, k, ⟨k, k, k, k⟩, k⟩⟩⟩⟩⟩⟩, k⟩⟩, k, ⟨_, k, k, .inl ⟨k, okI.plainO _⟩⟩, k, ⟨_, k, k, .inl ⟨k, okI.plainO _⟩⟩, k, ⟨_, k, k, .inl ⟨k, okI.plainO _⟩⟩, k, ⟨_, k, k, .inl ⟨k, okMt.plainO _⟩⟩, k, ⟨_, k, k, .inr ⟨_, _, k, ⟨_, _, k, k, ⟨_, _, k, k, ⟨_, _, k, ⟨k, k, k, k⟩, ⟨_, _, k, ⟨k, k, k, k⟩, ⟨_, _, k, ⟨k, k, k, k⟩, ⟨_, _, k, ⟨k, k, k, k⟩, k⟩⟩⟩⟩⟩⟩, k⟩⟩, k, trivial⟩ k) ?_
       rcases cb h with ⟨q18, h⟩ | ⟨q18, h⟩
       ·refine ac_condT k q18 <| sQ <| rgS <| se (eff_assign k) k <| sn <| tn <| ac_ret <| then_ret ?_
        obtain rfl := so h
        exact ret_mk k k k (fz_bl k)
       ·refine ac_condF k q18 <| ac_skip <| tn <| sQ <| rgS <| se (eff_assign k) k <| sn <| tn <| sQ <| rgS ?_
        refine se (w_load_ptr TT_ok k k k k k k k) k <| se (eff_move k) k ?_
        obtain ⟨v19, hv19, h⟩ := ob h
        refine sops_ent (t := mkS [(0, .int a0), (1, .int a1), (2, .sc w2_0), (8, .ptr 5 0 0), (9, .bl v4.2), (11, .ptr 11 0 0), (14, .int 1), (69, .bl (!(v6.2 == v4.2))), (70, .agg [.int v6.1.p, .int v6.1.q.n, .own 7 0 v6.1.q.src.length, .own 8 0 v6.1.q.tgt.length, .own 9 0 v6.1.dims.length, .own 10 0 v6.1.maps.length]), (71, .int 1)] [(1, ⟨1, List.map (ow eI) v4.1.q.src⟩), (2, ⟨1, List.map (ow eI) v4.1.q.tgt⟩), (3, ⟨1, List.map (ow eI) v4.1.dims⟩), (4, ⟨3, List.map (ow eM) v4.1.maps⟩), (5, ⟨6, [[.int v4.1.p, .int v4.1.q.n, .own 1 0 v4.1.q.src.length, .own 2 0 v4.1.q.tgt.length, .own 3 0 v4.1.dims.length, .own 4 0 v4.1.maps.length]]⟩), (7, ⟨1, List.map (ow eI) v6.1.q.src⟩), (8, ⟨1, List.map (ow eI) v6.1.q.tgt⟩), (9, ⟨1, List.map (ow eI) v6.1.dims⟩), (10, ⟨3, List.map (ow eM) v6.1.maps⟩), (11, ⟨6, [[.int v6.1.p, .int v6.1.q.n, .own 7 0 v6.1.q.src.length, .own 8 0 v6.1.q.tgt.length, .own 9 0 v6.1.dims.length, .own 10 0 v6.1.maps.length]]⟩)] 13 [13, 14, 15, 16, 17, 18, 19, 20] ⟨0, true, some (W.heap.size, W)⟩) (ent_mk (σ := sg [(1, 1), (2, 2), (3, 3), (4, 4), (5, 5), (7, 7), (8, 8), (9, 9), (10, 10), (11, 11)]) ⟨(e1 k k), (e1 k k), (e1 k k), ⟨_, k, ⟨k, k, k, k⟩⟩, (e1 k k), ⟨_, k, ⟨k, k, k, k⟩⟩, (e1 k k), (e1 k k), ⟨_, k, ⟨_, _, k, k, ⟨_, _, k, k, ⟨_, _, k, ⟨k, k, k, k⟩, ⟨_, _, k, ⟨k, k, k, k⟩, ⟨_, _, k, ⟨k, k, k, k⟩, ⟨_, _, k, ⟨k, k, k, k⟩, k⟩⟩⟩⟩⟩⟩⟩, (e1 k k), trivial⟩ ⟨⟨_, k, k, .inl ⟨k, okI.plainO _⟩⟩, k, ⟨_, k, k, .inl ⟨k, okI.plainO _⟩⟩, k, ⟨_, k, k, .inl ⟨k, okI.plainO _⟩⟩, k, ⟨_, k, k, .inl ⟨k, okMt.plainO _⟩⟩, k, ⟨_, k, k, .inr ⟨_, _, k, ⟨_, _, k, k, ⟨_, _, k, k, ⟨_, _, k, ⟨k, k, k, k⟩, ⟨_, _, k, ⟨k, k, k, k⟩, ⟨_, _, k, ⟨k, k, k, k⟩, ⟨_, _, k, ⟨k, k, k, k⟩, k⟩⟩⟩⟩⟩⟩, k⟩⟩, k, ⟨_, k, k, .inl ⟨k, okI.plainO _⟩⟩, k, ⟨_, k, k, .inl ⟨k, okI.plainO _⟩⟩, k, ⟨_, k, k, .inl ⟨k, okI.plainO _⟩⟩, k, ⟨_, k, k, .inl ⟨k, okMt.plainO _⟩⟩, k, ⟨_, k, k, .inr ⟨_, _, k, ⟨_, _, k, k, ⟨_, _, k, k, ⟨_, _, k, ⟨k, k, k, k⟩, ⟨_, _, k, ⟨k, k, k, k⟩, ⟨_, _, k, ⟨k, k, k, k⟩, ⟨_, _, k, ⟨k, k, k, k⟩, k⟩⟩⟩⟩⟩⟩, k⟩⟩, k, trivial⟩ k) ?_
        refine sops_T (σ := sg [(0, 7), (1, 8), (2, 9), (3, 10)]) (σ' := sg [(7, 0), (8, 1), (9, 2), (10, 3)]) (touch := [7, 8, 9, 10]) (news := []) (hl2 := [(7, ⟨1, List.map (ow eI) v19.1⟩), (8, ⟨1, List.map (ow eI) v19.2.1⟩), (9, ⟨1, List.map (ow eI) v19.2.2.1⟩), (10, ⟨3, List.map (ow eM) v19.2.2.2.1⟩)]) (n' := 13) (r2 := .int v19.2.2.2.2) (c_laws_markRep v6.1 1 v19 hv19) k k ⟨_, _, k, ⟨_, _, k, k, ⟨_, _, k, k, ⟨_, _, k, ⟨k, k, k, k⟩, ⟨_, _, k, ⟨k, k, k, k⟩, ⟨_, _, k, ⟨k, k, k, k⟩, ⟨_, _, k, ⟨k, k, k, k⟩, k⟩⟩⟩⟩⟩⟩, ⟨_, _, k, k, k⟩⟩ ⟨⟨_, k, k, .inl ⟨k, okI.plainO _⟩⟩, k, ⟨_, k, k, .inl ⟨k, okI.plainO _⟩⟩, k, ⟨_, k, k, .inl ⟨k, okI.plainO _⟩⟩, k, ⟨_, k, k, .inl ⟨k, okMt.plainO _⟩⟩, k, trivial⟩ k k k ⟨⟨_, k, k, .inl ⟨k, okI.plainO _⟩⟩, k, ⟨_, k, k, .inl ⟨k, okI.plainO _⟩⟩, k, ⟨_, k, k, .inl ⟨k, okI.plainO _⟩⟩, k, ⟨_, k, k, .inl ⟨k, okMt.plainO _⟩⟩, k, trivial⟩ k k k ⟨k, okI.tame _ _, ⟨k, okI.tame _ _, ⟨k, okI.tame _ _, ⟨k, okMt.tame _ _, trivial⟩⟩⟩⟩ k k k k k (dfE_ok ⟨k, k, k, k, k, k, k, k, k, k, trivial⟩) (dfH_ok (skip := [7, 8, 9, 10]) ⟨.inr (okI.df _ _), .inr (okI.df _ _), .inr (okI.df _ _), .inr (okMt.df _ _), .inr (df_lit k), .inl (by decide), .inl (by decide), .inl (by decide), .inl (by decide), .inr (df_lit k), trivial⟩) ?_
        obtain ⟨q20, h⟩ := cg h
        obtain ⟨q21, h⟩ := cg h
        obtain ⟨q22, h⟩ := cg h
        obtain ⟨q23, h⟩ := cg h
        refine se (eff_assign k) k <| sn <| tn <| sQ <| rgS <| se (eff_assign k) k <| sn <| tn <| sQ <| rgS ?_
        refine se (w_load_ptr TT_ok k k k k k k k) k <| se (eff_move k) k ?_
        obtain ⟨v24, hv24, h⟩ := ob h
        refine se (w_call0sK (c_laws_heldRep (⟨v6.1.p, (⟨v6.1.q.n, v19.1, v19.2.1⟩ : Qv), v19.2.2.1, v19.2.2.2.1⟩ : Rp) 1 v24 hv24) k (vk_cons (.inl (va_agg' (v1_cons (v1_same k) (v1_cons (v1_same k) (v1_cons (v1_T okI k (by first | rfl | simp only [List.length_set, of_decide_eq_true q20])) (v1_cons (v1_T okI k (by first | rfl | simp only [List.length_set, of_decide_eq_true q21])) (v1_cons (v1_T okI k (by first | rfl | simp only [List.length_set, of_decide_eq_true q22])) (v1_cons (v1_T okMt k (by first | rfl | simp only [List.length_set, of_decide_eq_true q23])) v1_nil)))))))) (vk_cons (.inl (va_same k)) vk_nil))) k <| se (eff_assign k) k <| sn <| tn <| sQ <| sQ <| rgS <| se (eff_move k) k <| se (w_cmp k k k) k <| sn ?_
        refine tn ?_
        rcases cb h with ⟨q25, h⟩ | ⟨q25, h⟩
        ·refine ac_condT k q25 <| sQ <| rgS <| se (eff_assign k) k <| sn <| tn <| ac_ret <| then_ret ?_
         obtain rfl := so h
         exact ret_mk k k k (fz_bl k)
        ·refine ac_condF k q25 <| ac_skip <| tn <| sQ <| sQ <| rgS <| se (eff_move k) k <| se (eff_move k) k <| se (w_cmp k k k) k <| sn ?_
         refine tn ?_
         rcases cb h with ⟨q26, h⟩ | ⟨q26, h⟩
         ·refine ac_condT k q26 <| sQ <| rgS <| se (eff_assign k) k <| sn <| tn <| ac_ent (t := mkS [(6, .bl false)] [] 13 [13, 14, 15, 16, 17, 18, 19, 20] ⟨0, true, some (W.heap.size, W)⟩) (ent_mk (σ := sg []) ⟨(e1 k k), trivial⟩ trivial k) <| ac_ret <| then_ret ?_
          obtain rfl := so h
          exact ret_mk k k k (fz_bl k)
         ·refine ac_condF k q26 <| ac_skip <| tn <| sQ <| rgS <| se (eff_move k) k <| se (eff_move k) k <| se (eff_move k) k ?_
          obtain ⟨v27, hv27, h⟩ := ob h
          refine se (AEff.conv (w_call0K (x := .own 13 0 (List.map eS v27).length) (nb := [(13, ⟨2, absEs (List.map eS v27)⟩)]) (c_laws_toSpaceS a2 v27 hv27) k (by rfl) k k (okSc.good _) (vk_cons (.inr (raw_d k r2_0)) vk_nil)) (v' := .own 13 0 v27.length) (ed' := [(13, some ⟨2, List.map (ow eS) v27⟩)]) (by simp only [len_map]) (ed_ok (nb' := [(13, ⟨2, List.map (ow eS) v27⟩)]) (by simp only [abs_map]))) k ?_
          obtain ⟨v28, hv28, h⟩ := ob h
          refine se (AEff.conv (w_call0K (x := .tuple [.agg [.int v28.1.p, .int v28.1.q.n, .own 14 0 (List.map eI v28.1.q.src).length, .own 15 0 (List.map eI v28.1.q.tgt).length, .own 16 0 (List.map eI v28.1.dims).length, .own 17 0 (List.map eM v28.1.maps).length], .bl v28.2]) (nb := [(14, ⟨1, absEs (List.map eI v28.1.q.src)⟩), (15, ⟨1, absEs (List.map eI v28.1.q.tgt)⟩), (16, ⟨1, absEs (List.map eI v28.1.dims)⟩), (17, ⟨3, absEs (List.map eM v28.1.maps)⟩)]) (c_impl_RepOfSubspaces a0 a1 v27 v28 hv28) k (by rfl) k k (gB_cons (g1_cons trivial (g1_cons trivial (g1_cons (okI.good _) (g1_cons (okI.good _) (g1_cons (okI.good _) (g1_cons (okMt.good _) g1_nil)))))) (gB_cons trivial gB_nil)) (vk_cons (.inl (va_same k)) (vk_cons (.inl (va_same k)) (vk_cons (.inl (va_T okSc k k)) vk_nil)))) (v' := .tuple [.agg [.int v28.1.p, .int v28.1.q.n, .own 14 0 v28.1.q.src.length, .own 15 0 v28.1.q.tgt.length, .own 16 0 v28.1.dims.length, .own 17 0 v28.1.maps.length], .bl v28.2]) (ed' := [(14, some ⟨1, List.map (ow eI) v28.1.q.src⟩), (15, some ⟨1, List.map (ow eI) v28.1.q.tgt⟩), (16, some ⟨1, List.map (ow eI) v28.1.dims⟩), (17, some ⟨3, List.map (ow eM) v28.1.maps⟩)]) (by simp only [len_map]) (ed_ok (nb' := [(14, ⟨1, List.map (ow eI) v28.1.q.src⟩), (15, ⟨1, List.map (ow eI) v28.1.q.tgt⟩), (16, ⟨1, List.map (ow eI) v28.1.dims⟩), (17, ⟨3, List.map (ow eM) v28.1.maps⟩)]) (by simp only [abs_map]))) k <| se (eff_move k) k <| se (eff_extract k k (by intro _ h; cases h)) k <| se (eff_extract k k (by intro _ h; cases h)) k ?_
          refine se (w_alloc TT_ok k k) k <| se (w_store TT_ok k k k k k k k k) k <| se (eff_assign k) k <| sn <| tn <| ac_ent (t := mkS [(8, .ptr 5 0 0), (9, .bl v4.2), (11, .ptr 11 0 0), (14, .int v19.2.2.2.2), (16, .ptr 18 0 0), (17, .bl v28.2)] [(1, ⟨1, List.map (ow eI) v4.1.q.src⟩), (2, ⟨1, List.map (ow eI) v4.1.q.tgt⟩), (3, ⟨1, List.map (ow eI) v4.1.dims⟩), (4, ⟨3, List.map (ow eM) v4.1.maps⟩), (5, ⟨6, [[.int v4.1.p, .int v4.1.q.n, .own 1 0 v4.1.q.src.length, .own 2 0 v4.1.q.tgt.length, .own 3 0 v4.1.dims.length, .own 4 0 v4.1.maps.length]]⟩), (7, ⟨1, List.map (ow eI) v19.1⟩), (8, ⟨1, List.map (ow eI) v19.2.1⟩), (9, ⟨1, List.map (ow eI) v19.2.2.1⟩), (10, ⟨3, List.map (ow eM) v19.2.2.2.1⟩), (11, ⟨6, [[.int v6.1.p, .int v6.1.q.n, .own 7 0 v19.1.length, .own 8 0 v19.2.1.length, .own 9 0 v19.2.2.1.length, .own 10 0 v19.2.2.2.1.length]]⟩), (14, ⟨1, List.map (ow eI) v28.1.q.src⟩), (15, ⟨1, List.map (ow eI) v28.1.q.tgt⟩), (16, ⟨1, List.map (ow eI) v28.1.dims⟩), (17, ⟨3, List.map (ow eM) v28.1.maps⟩), (18, ⟨6, [[.int v28.1.p, .int v28.1.q.n, .own 14 0 v28.1.q.src.length, .own 15 0 v28.1.q.tgt.length, .own 16 0 v28.1.dims.length, .own 17 0 v28.1.maps.length]]⟩)] 19 [19, 20] ⟨0, true, some (W.heap.size, W)⟩) (ent_mk (σ := sg [(1, 1), (2, 2), (3, 3), (4, 4), (5, 5), (7, 7), (8, 8), (9, 9), (10, 10), (11, 11), (14, 14), (15, 15), (16, 16), (17, 17), (18, 18)]) ⟨⟨_, k, ⟨k, k, k, k⟩⟩, (e1 k k), ⟨_, k, ⟨k, k, k, k⟩⟩, (e1 k k), ⟨_, k, ⟨k, k, k, k⟩⟩, (e1 k k), trivial⟩ ⟨⟨_, k, k, .inl ⟨k, okI.plainO _⟩⟩, k, ⟨_, k, k, .inl ⟨k, okI.plainO _⟩⟩, k, ⟨_, k, k, .inl ⟨k, okI.plainO _⟩⟩, k, ⟨_, k, k, .inl ⟨k, okMt.plainO _⟩⟩, k, ⟨_, k, k, .inr ⟨_, _, k, ⟨_, _, k, k, ⟨_, _, k, k, ⟨_, _, k, ⟨k, k, k, k⟩, ⟨_, _, k, ⟨k, k, k, k⟩, ⟨_, _, k, ⟨k, k, k, k⟩, ⟨_, _, k, ⟨k, k, k, k⟩, k⟩⟩⟩⟩⟩⟩, k⟩⟩, k, ⟨_, k, k, .inl ⟨k, okI.plainO _⟩⟩, k, ⟨_, k, k, .inl ⟨k, okI.plainO _⟩⟩, k, ⟨_, k, k, .inl ⟨k, okI.plainO _⟩⟩, k, ⟨_, k, k, .inl ⟨k, okMt.plainO _⟩⟩, k, ⟨_, k, k, .inr ⟨_, _, k, ⟨_, _, k, k, ⟨_, _, k, k, ⟨_, _, k, ⟨k, k, (by simp only [len_map, List.length_append, List.length_set, List.length_replicate, List.length_cons, List.length_nil, of_decide_eq_true q20]), k⟩, ⟨_, _, k, ⟨k, k, (by simp only [len_map, List.length_append, List.length_set, List.length_replicate, List.length_cons, List.length_nil, of_decide_eq_true q21]), k⟩, ⟨_, _, k, ⟨k, k, (by simp only [len_map, List.length_append, List.length_set, List.length_replicate, List.length_cons, List.length_nil, of_decide_eq_true q22]), k⟩, ⟨_, _, k, ⟨k, k, (by simp only [len_map, List.length_append, List.length_set, List.length_replicate, List.length_cons, List.length_nil, of_decide_eq_true q23]), k⟩, k⟩⟩⟩⟩⟩⟩, k⟩⟩, k, ⟨_, k, k, .inl ⟨k, okI.plainO _⟩⟩, k, ⟨_, k, k, .inl ⟨k, okI.plainO _⟩⟩, k, ⟨_, k, k, .inl ⟨k, okI.plainO _⟩⟩, k, ⟨_, k, k, .inl ⟨k, okMt.plainO _⟩⟩, k, ⟨_, k, k, .inr ⟨_, _, k, ⟨_, _, k, k, ⟨_, _, k, k, ⟨_, _, k, ⟨k, k, k, k⟩, ⟨_, _, k, ⟨k, k, k, k⟩, ⟨_, _, k, ⟨k, k, k, k⟩, ⟨_, _, k, ⟨k, k, k, k⟩, k⟩⟩⟩⟩⟩⟩, k⟩⟩, k, trivial⟩ k) ?_
          refine sQ <| sQ <| rgS <| se (w_load_ptr TT_ok k k k k k k k) k <| se (w_load_ptr TT_ok k k k k k k k) k ?_
          obtain ⟨v29, hv29, h⟩ := ob h
          refine se (w_call0sK (c_laws_eqRep v28.1 v4.1 v29 hv29) k (vk_cons (.inl (va_agg' (v1_cons (v1_same k) (v1_cons (v1_same k) (v1_cons (v1_T okI k k) (v1_cons (v1_T okI k k) (v1_cons (v1_T okI k k) (v1_cons (v1_T okMt k k) v1_nil)))))))) (vk_cons (.inl (va_agg' (v1_cons (v1_same k) (v1_cons (v1_same k) (v1_cons (v1_T okI k k) (v1_cons (v1_T okI k k) (v1_cons (v1_T okI k k) (v1_cons (v1_T okMt k k) v1_nil)))))))) vk_nil))) k <| se (w_not k) k <| se (eff_move k) k ?_
          rcases cb h with ⟨q30, h⟩ | ⟨q30, h⟩
          ·refine sops_lit 93 k q30 <| sops_skip k k <| sops_skip k k <| sops_skip k k <| se (eff_pick k k) k <| sn <| tn <| ac_condT k k <| sQ <| rgS ?_
           refine se (eff_assign k) k <| sn <| tn <| ac_ret <| then_ret ?_
           obtain rfl := so h
           exact ret_mk k k k (fz_bl k)
          ·refine sops_lit 93 k q30 <| se (eff_move k) k <| se (eff_move k) k <| se (w_neqB (by kernel_rfl) k k) k <| se (eff_pick k k) k <| sn <| tn ?_
           rcases cb h with ⟨q31, h⟩ | ⟨q31, h⟩
           ·refine ac_condT k q31 <| sQ <| rgS <| se (eff_assign k) k <| sn <| tn <| ac_ret <| then_ret ?_
            obtain rfl := so h
            exact ret_mk k k k (fz_bl k)
           ·refine ac_condF k q31 <| ac_skip <| tn <| sQ <| rgS <| se (eff_assign k) k <| sn <| tn <| sQ <| rgS ?_
            refine se (w_load_ptr TT_ok k k k k k k k) k <| se (eff_move k) k ?_
            obtain ⟨v32, hv32, h⟩ := ob h
            refine se (w_call0sK (c_laws_heldRep (⟨v6.1.p, (⟨v6.1.q.n, v19.1, v19.2.1⟩ : Qv), v19.2.2.1, v19.2.2.2.1⟩ : Rp) 1 v32 hv32) k (vk_cons (.inl (va_agg' (v1_cons (v1_same k) (v1_cons (v1_same k) (v1_cons (v1_T okI k (by first | rfl | simp only [List.length_set, of_decide_eq_true q20])) (v1_cons (v1_T okI k (by first | rfl | simp only [List.length_set, of_decide_eq_true q21])) (v1_cons (v1_T okI k (by first | rfl | simp only [List.length_set, of_decide_eq_true q22])) (v1_cons (v1_T okMt k (by first | rfl | simp only [List.length_set, of_decide_eq_true q23])) v1_nil)))))))) (vk_cons (.inl (va_same k)) vk_nil))) k <| se (eff_assign k) k <| sn <| tn <| ac_ent (t := mkS [(14, .int v19.2.2.2.2), (15, .int v32)] [] 19 [19, 20] ⟨0, true, some (W.heap.size, W)⟩) (ent_mk (σ := sg []) ⟨(e1 k k), (e1 k k), trivial⟩ trivial k) <| sQ <| sQ <| rgS <| se (eff_move k) k <| se (w_cmp k k k) k ?_
            refine sn <| tn ?_
            rcases cb h with ⟨q33, h⟩ | ⟨q33, h⟩
            ·refine ac_condT k q33 <| sQ <| rgS <| se (eff_assign k) k <| sn <| tn <| ac_ret <| then_ret ?_
             obtain rfl := so h
             exact ret_mk k k k (fz_bl k)
            ·refine ac_condF k q33 <| ac_skip <| tn <| sQ <| sQ <| rgS <| se (eff_move k) k <| se (eff_move k) k <| se (w_cmp k k k) k <| sn ?_
             refine tn ?_
             rcases cb h with ⟨q34, h⟩ | ⟨q34, h⟩
             ·refine ac_condT k q34 <| sQ <| rgS <| se (eff_assign k) k <| sn <| tn <| ac_ret <| then_ret ?_
              obtain rfl := so h
              exact ret_mk k k k (fz_bl k)
             ·refine ac_condF k q34 <| ac_skip <| tn <| sQ <| rgS <| se (eff_assign k) k <| sn <| tn <| ac_ret ?_
              obtain rfl := so h
              exact ret_mk k k k (fz_bl k)

end Go.Proofs.Ytjfcjkeghigipaa
end

section
set_option linter.unusedVariables false
set_option linter.unusedSimpArgs false
/-
  Stars, columns, images; the spaces of a star's representation and the representation of spaces.
-/
namespace Go.Proofs.Ytjfcjkeghigipaa
open Go.RowKit
set_option linter.unusedVariables false
set_option linter.unusedSimpArgs false

/-! ## loops that list, loops that stop -/
theorem Lp_map {α β : Type} {l : List α} {f : α → β} {body : List β × Int → Option ((List β × Int) ⊕ List β)} (hl : l.length ≤ 4611686018427387904)
    (hs : ∀ (k : Nat) (hk : k < l.length) (o : List β), o.length = k → body (o, k) = some (.inl (o ++ [f l[k]], wr (k + 1)))) (he : ∀ o, body (o, l.length) = some (.inr o)) : Lp body ([], 0) = some (l.map f) := by
  rw [Lp_go (r := l.map f) (fun k => ((l.take k).map f, (k : Int))) l.length (by simp) (fun k hk => ?_) (fun _ => ?_)]
  · rw [hs k hk _ (by simp; omega), wr_suc hk hl, List.take_succ_eq_append_getElem hk, List.map_append]; rfl
  · rw [he, List.take_length]
theorem Lp_allS {σ ρ : Type} {body : σ → Option (σ ⊕ ρ)} (I : Nat → σ) (n : Nat) (P : Nat → Bool) (b fin : ρ)
    (hs : ∀ k, k < n → (∀ j, j < k → P j = true) → body (I k) = some (bif P k then .inl (I (k + 1)) else .inr b)) (he : (∀ j, j < n → P j = true) → body (I n) = some (.inr fin)) : Lp body (I 0) = some (bif (List.range n).all P then fin else b) := by
  have key : ∀ d k, k + d = n → (∀ j, j < k → P j = true) → Lp body (I k) = some (bif (List.range n).all P then fin else b) := by
    intro d
    induction d with
    | zero =>
      intro k hk hP
      have : k = n := by omega
      subst this
      rw [Lp_stop (he hP), show (List.range k).all P = true from range_all.2 hP]; rfl
    | succ d ih =>
      intro k hk hP
      have h := hs k (by omega) hP
      cases e : P k with
      | true =>
        rw [e] at h
        rw [Lp_step h]
        exact ih (k + 1) (by omega) fun j hj => by
          rcases Nat.lt_or_ge j k with h1 | h1
          · exact hP j h1
          · rw [show j = k by omega]; exact e
      | false =>
        rw [e] at h
        have : (List.range n).all P = false := by
          cases h2 : (List.range n).all P with
          | false => rfl
          | true => rw [range_all.1 h2 k (by omega)] at e; cases e
        rw [Lp_stop h, this]; rfl
  exact key n 0 (by omega) fun j hj => absurd hj (Nat.not_lt_zero _)

/-! ## stars -/
def starQ (n : Nat) : Qv := ⟨(n + 1 : Nat), (List.range n).map fun k : Nat => (k : Int), List.replicate n (n : Int)⟩
def starR (n : Int) : Qv × Bool := bif inR n 1 4 then (starQ n.toNat, true) else (⟨0, [], []⟩, false)
theorem rep_snoc {α : Type} (k : Nat) (x : α) : List.replicate k x ++ [x] = List.replicate (k + 1) x := (List.replicate_succ' ..).symm
theorem range_snoc (k : Nat) : ((List.range k).map fun k : Nat => (k : Int)) ++ [(k : Int)] = (List.range (k + 1)).map fun k : Nat => (k : Int) := by rw [List.range_succ, List.map_append]; rfl
theorem n_specStar (n : Int) : m_spec_StarOf n = some (starR n) := by
  unfold m_spec_StarOf starR
  rw [n_l1In, Option.bind_some]
  cases h : inR n 1 4 with
  | false => rfl
  | true =>
    have hb := inR_true h
    obtain ⟨k, rfl⟩ : ∃ k : Nat, n = k := ⟨n.toNat, by omega⟩
    rw [Bool.not_true, cond_false, cond_true, Int.toNat_natCast]
    rw [Lp_go (r := ((List.range k).map (fun k : Nat => (k : Int)), List.replicate k (k : Int))) (fun i => ((List.range i).map (fun k : Nat => (k : Int)), List.replicate i (k : Int), (i : Int))) k (by simp) (fun i hi => ?_) (fun _ => ?_), Option.bind_some, wr_sm (by omega)]
    · rfl
    · unfold m_spec_StarOf_L1
      simp only
      rw [dlt hi, cond_true, decide_eq_true (by simp; omega), cond_true, decide_eq_true (by simp; omega), cond_true, wr_suc hi (by omega), range_snoc, rep_snoc]
    · unfold m_spec_StarOf_L1
      simp only
      rw [dnl (Nat.le_refl _), cond_false]
theorem n_implStar (n : Int) : m_impl_StarOf n = some (starR n) := by
  unfold m_impl_StarOf starR
  rw [n_within, Option.bind_some]
  cases h : inR n 1 4 with
  | false => rfl
  | true =>
    have hb := inR_true h
    obtain ⟨k, rfl⟩ : ∃ k : Nat, n = k := ⟨n.toNat, by omega⟩
    rw [Bool.not_true, cond_false, cond_true, Int.toNat_natCast]
    rw [Lp_go (r := ((List.range k).map (fun k : Nat => (k : Int)), List.replicate k (k : Int))) (fun i => ((List.range i).map (fun k : Nat => (k : Int)), List.replicate i (k : Int), (i : Int))) k (by simp) (fun i hi => ?_) (fun _ => ?_), Option.bind_some, wr_sm (by omega)]
    · rfl
    · unfold m_impl_StarOf_L1
      simp only
      rw [dlt hi, cond_true, decide_eq_true (by simp; omega), cond_true, decide_eq_true (by simp; omega), cond_true, wr_suc hi (by omega), range_snoc, rep_snoc]
    · unfold m_impl_StarOf_L1
      simp only
      rw [dnl (Nat.le_refl _), cond_false]
theorem starR_b (n : Int) : bQ (starR n).1 := by
  unfold starR
  cases h : inR n 1 4 with
  | false => exact ⟨by simp [bI], by simp [bI], trivial⟩
  | true =>
    have hb := inR_true h
    exact ⟨by simp [bI, starQ]; omega, by simp [bI, starQ]; omega, trivial⟩

/-! ## columns -/
def colL (r c : Nat) (F : Nat → Nat → Int) : List (List Int) := (List.range c).map fun k => rowL r fun i => F i k
/-- The columns at some places. -/
def colsAt (r : Nat) (F : Nat → Nat → Int) (L : List Nat) : List (List Int) := L.map fun k => rowL r fun i => F i k
theorem redUp_get' {p : Int} {m : Nat} {F : Nat → Nat → Int} {t i : Nat} (h : i < (redUp p m F t).2.length) : (redUp p m F t).2[i]'h < t := redUp_lt t _ (List.getElem_mem h)

/-! ## the columns at the leading ones span what all columns span -/
theorem span_ker {p : Int} (hp : isF p = true) {n : Nat} {l l' : List (List Int)} (h : InP p l.length n (rowsF l)) (h' : InP p l'.length n (rowsF l')) (hK : ∀ x, Kr p l.length n (rowsF l) x ↔ Kr p l'.length n (rowsF l') x) : spanL p n l = spanL p n l' := by
  obtain ⟨e1, e2⟩ := redUp_unique hp h h' hK
  unfold spanL
  rw [← e1]
  exact takeRows_congr e2
theorem sN_z0 {p : Int} {f : Nat → Int} : ∀ {n : Nat}, (∀ k, k < n → Z0 p (f k)) → Z0 p (sN f n)
  | 0, _ => by unfold Z0; simp [sN]
  | n + 1, h => z0_add (sN_z0 fun k hk => h k (by omega)) (h n (by omega))
theorem kr_cols {p : Int} {r c : Nat} {F : Nat → Nat → Int} {x : Nat → Int} : Kr p (colL r c F).length r (rowsF (colL r c F)) x ↔ ∀ k, k < c → Z0 p (dt r (fun i => F i k) x) := by
  have e : ∀ k, k < c → dt r (rowsF (colL r c F) k) x = dt r (fun i => F i k) x := fun k hk => sN_congr fun i hi => by simp [rowsF, colL, rowL, hk, hi]
  have hl : (colL r c F).length = c := by simp [colL]
  unfold Kr
  rw [hl]
  exact ⟨fun h k hk => e k hk ▸ h k hk, fun h k hk => (e k hk).symm ▸ h k hk⟩
theorem kr_colsAt {p : Int} {r : Nat} {F : Nat → Nat → Int} {L : List Nat} {x : Nat → Int} : Kr p (colsAt r F L).length r (rowsF (colsAt r F L)) x ↔ ∀ t, t < L.length → Z0 p (dt r (fun i => F i (L[t]?.getD 0)) x) := by
  have e : ∀ t, t < L.length → dt r (rowsF (colsAt r F L) t) x = dt r (fun i => F i (L[t]?.getD 0)) x := fun t ht => sN_congr fun i hi => by simp [rowsF, colsAt, rowL, ht, hi]
  have hl : (colsAt r F L).length = L.length := by simp [colsAt]
  unfold Kr
  rw [hl]
  exact ⟨fun h k hk => e k hk ▸ h k hk, fun h k hk => (e k hk).symm ▸ h k hk⟩
theorem dt_sub {r n k : Nat} {F R : Nat → Nat → Int} {L : List Nat} {x : Nat → Int} : dt r (fun i => F i k - sN (fun t => F i (L[t]?.getD 0) * R t k) n) x = dt r (fun i => F i k) x - sN (fun t => R t k * dt r (fun i => F i (L[t]?.getD 0)) x) n := by
  induction n with
  | zero => simp [sN, dt]
  | succ n ih =>
    have e : dt r (fun i => F i k - sN (fun t => F i (L[t]?.getD 0) * R t k) (n + 1)) x = dt r (fun i => (F i k - sN (fun t => F i (L[t]?.getD 0) * R t k) n) + (-(R n k)) * F i (L[n]?.getD 0)) x := sN_congr fun i hi => by
      congr 1
      show F i k - (sN (fun t => F i (L[t]?.getD 0) * R t k) n + F i (L[n]?.getD 0) * R n k) = F i k - sN (fun t => F i (L[t]?.getD 0) * R t k) n + (-(R n k)) * F i (L[n]?.getD 0)
      rw [Int.neg_mul, Int.mul_comm (R n k)]
      omega
    rw [e, dt_add, ih, Int.neg_mul]
    show _ = dt r (fun i => F i k) x - (sN (fun t => R t k * dt r (fun i => F i (L[t]?.getD 0)) x) n + R n k * dt r (fun i => F i (L[n]?.getD 0)) x)
    omega
theorem cols_span {p : Int} (hp : isF p = true) {r c : Nat} {F : Nat → Nat → Int} (hF : InP p r c F) : spanL p r (colL r c F) = spanL p r (colsAt r F (redUp p r F c).2) := by
  have hb := isF_bd hp
  have hR := red_up hp hF c (Nat.le_refl _)
  have i1 : InP p (colL r c F).length r (rowsF (colL r c F)) := by
    intro k i hk hi
    have hk : k < c := by simpa [colL] using hk
    have e : rowsF (colL r c F) k i = F i k := by simp [rowsF, colL, rowL, hk, hi]
    rw [e]; exact hF i k hi hk
  have i2 : InP p (colsAt r F (redUp p r F c).2).length r (rowsF (colsAt r F (redUp p r F c).2)) := by
    intro k i hk hi
    have hk : k < (redUp p r F c).2.length := by simpa [colsAt] using hk
    have e : rowsF (colsAt r F (redUp p r F c).2) k i = F i ((redUp p r F c).2[k]) := by simp [rowsF, colsAt, rowL, hk, hi]
    rw [e]; exact hF i _ hi (redUp_get' hk)
  refine span_ker hp i1 i2 fun x => ?_
  rw [kr_cols, kr_colsAt]
  constructor
  · intro h t ht
    exact h _ (hR.lt t ht)
  · intro h k hk
    by_cases hL : ∃ i, i < (redUp p r F c).2.length ∧ (redUp p r F c).2[i]?.getD 0 = k
    · obtain ⟨i, h1, rfl⟩ := hL
      exact h i h1
    · have hL' : ∀ i, i < (redUp p r F c).2.length → (redUp p r F c).2[i]?.getD 0 ≠ k := fun i hi e => hL ⟨i, hi, e⟩
      have hk1 := (ker_red hp hF (kx (redUp p r F c).1 (redUp p r F c).2 k) c (Nat.le_refl _)).1 (kx_ker hR hk hL')
      have hz : Z0 p (dt r (fun i => F i k - sN (fun t => F i ((redUp p r F c).2[t]?.getD 0) * (redUp p r F c).1 t k) (redUp p r F c).2.length) x) := by
        unfold dt
        refine sN_z0 fun i hi => ?_
        have := hk1 i hi
        rw [dt_kx hR hk hL'] at this
        rw [Int.mul_comm]
        exact z0_mul _ this
      rw [dt_sub] at hz
      have hs : Z0 p (sN (fun t => (redUp p r F c).1 t k * dt r (fun i => F i ((redUp p r F c).2[t]?.getD 0)) x) (redUp p r F c).2.length) := sN_z0 fun t ht => z0_mul _ (h t ht)
      have := z0_add hz hs
      rwa [Int.sub_add_cancel] at this
theorem vecs_cols {p : Int} {r c : Nat} {F : Nat → Nat → Int} (hF : InP p r c F) : VecsP p r (colL r c F) := by
  intro v hv
  unfold colL at hv
  obtain ⟨k, hk, rfl⟩ := List.mem_map.1 hv
  refine ⟨rowL_len _ _, fun x hx => ?_⟩
  obtain ⟨i, hi, rfl⟩ := List.mem_map.1 hx
  exact hF i k (List.mem_range.1 hi) (List.mem_range.1 hk)
theorem vecs_colsAt {p : Int} {r c : Nat} {F : Nat → Nat → Int} (hF : InP p r c F) {L : List Nat} (hL : ∀ k ∈ L, k < c) : VecsP p r (colsAt r F L) := by
  intro v hv
  unfold colsAt at hv
  obtain ⟨k, hk, rfl⟩ := List.mem_map.1 hv
  refine ⟨rowL_len _ _, fun x hx => ?_⟩
  obtain ⟨i, hi, rfl⟩ := List.mem_map.1 hx
  exact hF i k (List.mem_range.1 hi) (hL k hk)

/-! ## the spaces of a representation of a star -/
/-- The space that a matrix's columns span. -/
def imgS (p : Int) (m : Mt) : Sc := ⟨m.rows, spanL p m.rows.toNat (colL m.rows.toNat m.cols.toNat fun i k => m.cells[i * m.cols.toNat + k]?.getD 0)⟩
theorem imgS_tab {p : Int} {r c : Nat} {F : Nat → Nat → Int} : imgS p ⟨r, c, tabM r c F⟩ = ⟨r, spanL p r (colL r c F)⟩ := by
  unfold imgS
  simp only [Int.toNat_natCast]
  congr 2
  refine List.map_congr_left fun k hk => rowL_congr fun i hi => ?_
  simp only [tabM_get F hi (List.mem_range.1 hk), Option.getD_some]
def subsV (r : Rp) : List Sc × Bool := bif repV r && ((starR (wr (r.q.n - 1))).2 && decide ((starR (wr (r.q.n - 1))).1 = r.q)) then (r.maps.map (imgS r.p), true) else ([], false)
theorem matV_get {r : Rp} (h : repV r = true) {k : Nat} (hk : k < r.maps.length) : matV r.p r.maps[k] = true := by
  have := ((rep_maps h).2.2.2 k hk).1
  rwa [List.getElem?_eq_getElem hk, Option.getD_some] at this
theorem maps_few {r : Rp} (h : repV r = true) : r.maps.length ≤ 6 := by
  obtain ⟨_, h2, h3, _⟩ := rep_maps h
  obtain ⟨n, _, _, _, _, h4, _⟩ := quivV_parts (dimsV_parts h2).1
  omega
theorem tb_mat {p : Int} (hp : isF p = true) {r c : Nat} (hr : r ≤ 8) (hc : c ≤ 8) {F : Nat → Nat → Int} (hF : InP p r c F) : Tb p r c F := ⟨hp, by have := Nat.mul_le_mul hr hc; omega, by omega, by omega, hF⟩
theorem subsV_b (r : Rp) : (subsV r).1.length ≤ 1048576 ∧ ∀ s ∈ (subsV r).1, bS s := by
  unfold subsV
  cases h : repV r && ((starR (wr (r.q.n - 1))).2 && decide ((starR (wr (r.q.n - 1))).1 = r.q)) with
  | false => simp
  | true =>
    have h2 : repV r = true := by simp only [Bool.and_eq_true] at h; exact h.1
    have h6 := maps_few h2
    rw [cond_true]
    refine ⟨by simp; omega, fun s hs => ?_⟩
    obtain ⟨m, hm, rfl⟩ := List.mem_map.1 hs
    obtain ⟨k, hk, rfl⟩ := List.mem_iff_getElem.1 hm
    obtain ⟨hp, a, b, F, ha, hb, e, hF⟩ := matV_parts (matV_get h2 hk)
    rw [e, imgS_tab]
    exact ⟨bLs_span hp (by omega) (vecs_cols hF), trivial⟩
end Go.Proofs.Ytjfcjkeghigipaa
end

section
set_option linter.unusedVariables false
set_option linter.unusedSimpArgs false
/-
  Lists made of blocks; the equations of morphisms: plain maths.
-/
namespace Go.Proofs.Ytjfcjkeghigipaa
open Go.RowKit
set_option linter.unusedVariables false

def off (l : Nat → Nat) : Nat → Nat
  | 0 => 0
  | k + 1 => off l k + l k
theorem off_le {l : Nat → Nat} {i k : Nat} (h : i ≤ k) : off l i ≤ off l k := by
  induction k with
  | zero => have : i = 0 := by omega
            subst this; exact Nat.le_refl _
  | succ k ih =>
    rcases Nat.lt_or_ge k i with h' | h'
    · have : i = k + 1 := by omega
      subst this; exact Nat.le_refl _
    · have := ih h'
      show off l i ≤ off l k + l k
      omega
theorem off_lt {l : Nat → Nat} {i k y : Nat} (hi : i < k) (hy : y < l i) : off l i + y < off l k := by
  have := @off_le l (i + 1) k hi
  have e : off l (i + 1) = off l i + l i := rfl
  omega
theorem off_dec {l : Nat → Nat} : ∀ {k x : Nat}, x < off l k → ∃ i y, i < k ∧ y < l i ∧ x = off l i + y
  | 0, x, h => absurd h (Nat.not_lt_zero _)
  | k + 1, x, h => by
    rcases Nat.lt_or_ge x (off l k) with h' | h'
    · obtain ⟨i, y, h1, h2, h3⟩ := off_dec h'
      exact ⟨i, y, by omega, h2, h3⟩
    · have e : off l (k + 1) = off l k + l k := rfl
      exact ⟨k, x - off l k, by omega, by omega, by omega⟩
theorem off_inj {l : Nat → Nat} {i j y z : Nat} (hy : y < l i) (hz : z < l j) (h : off l i + y = off l j + z) : i = j ∧ y = z := by
  have e1 : off l (i + 1) = off l i + l i := rfl
  have e2 : off l (j + 1) = off l j + l j := rfl
  rcases Nat.lt_trichotomy i j with h1 | h1 | h1
  · have := @off_le l (i + 1) j h1; omega
  · subst h1; exact ⟨rfl, by omega⟩
  · have := @off_le l (j + 1) i h1; omega
def cat (l : Nat → Nat) (f : Nat → Nat → Int) : Nat → List Int
  | 0 => []
  | k + 1 => cat l f k ++ (List.range (l k)).map (f k)
theorem cat_len (l : Nat → Nat) (f : Nat → Nat → Int) : ∀ k, (cat l f k).length = off l k
  | 0 => rfl
  | k + 1 => by rw [cat, off, List.length_append, cat_len l f k]; simp
theorem cat_get {l : Nat → Nat} (f : Nat → Nat → Int) : ∀ {k i y : Nat}, i < k → y < l i → (cat l f k)[off l i + y]? = some (f i y)
  | 0, i, y, h, _ => absurd h (Nat.not_lt_zero _)
  | k + 1, i, y, h, hy => by
    rw [cat]
    by_cases e : i = k
    · subst e
      rw [List.getElem?_append_right (by rw [cat_len]; omega), cat_len, Nat.add_sub_cancel_left]
      simp [hy]
    · rw [List.getElem?_append_left (by rw [cat_len]; exact off_lt (by omega) hy)]
      exact cat_get f (by omega) hy
theorem cat_ext {l : Nat → Nat} {f : Nat → Nat → Int} {k : Nat} {v : List Int} (hv : v.length = off l k) (h : ∀ i y, i < k → y < l i → v[off l i + y]? = some (f i y)) : v = cat l f k := by
  refine List.ext_getElem (by rw [cat_len, hv]) fun x h1 h2 => ?_
  obtain ⟨i, y, hi, hy, rfl⟩ := off_dec (hv ▸ h1)
  have a := h i y hi hy
  have b := cat_get f hi hy
  rw [List.getElem?_eq_getElem h1] at a
  rw [List.getElem?_eq_getElem h2] at b
  exact (Option.some.inj a).trans (Option.some.inj b).symm
theorem cat_congr {l : Nat → Nat} {f g : Nat → Nat → Int} {k : Nat} (h : ∀ i y, i < k → y < l i → f i y = g i y) : cat l f k = cat l g k :=
  cat_ext (cat_len l f k) fun i y hi hy => by rw [cat_get f hi hy, h i y hi hy]
theorem cat_set {l : Nat → Nat} {f : Nat → Nat → Int} {k i y : Nat} (hi : i < k) (hy : y < l i) (v : Int) : (cat l f k).set (off l i + y) v = cat l (fun a b => if a = i ∧ b = y then v else f a b) k := by
  refine cat_ext (by rw [List.length_set, cat_len]) fun a b ha hb => ?_
  rw [List.getElem?_set]
  by_cases e : off l i + y = off l a + b
  · obtain ⟨rfl, rfl⟩ := off_inj hy hb e
    rw [if_pos rfl, if_pos (by rw [cat_len]; exact off_lt hi hy), if_pos ⟨rfl, rfl⟩]
  · rw [if_neg e, if_neg (by rintro ⟨rfl, rfl⟩; exact e rfl), cat_get f ha hb]
theorem cat_zero (l : Nat → Nat) (k : Nat) : List.replicate (off l k) (0 : Int) = cat l (fun _ _ => 0) k := cat_ext (by simp) fun i y hi hy => by simp [off_lt hi hy]
theorem cat_take {l : Nat → Nat} {f : Nat → Nat → Int} {k : Nat} : ∀ {n : Nat}, k < n → ((cat l f n).drop (off l k)).take (l k) = (List.range (l k)).map (f k) := by
  intro n hk
  refine List.ext_getElem ?_ fun x h1 h2 => ?_
  · have := @off_le l (k + 1) n hk
    have e : off l (k + 1) = off l k + l k := rfl
    simp [cat_len]; omega
  · have hx : x < l k := by simpa using h2
    rw [List.getElem_take, List.getElem_drop]
    have := cat_get f hk hx
    rw [List.getElem?_eq_getElem (by rw [cat_len]; exact off_lt hk hx)] at this
    simp [Option.some.inj this]
theorem tabM_range (r c : Nat) (F : Nat → Nat → Int) : tabM r c F = (List.range (r * c)).map fun y => F (y / c) (y % c) := rfl
theorem tab_of {r c : Nat} {g : Nat → Int} {F : Nat → Nat → Int} (h : ∀ y, y < r * c → g y = F (y / c) (y % c)) : (List.range (r * c)).map g = tabM r c F := List.map_congr_left fun y hy => h y (List.mem_range.1 hy)
theorem divmod {r c y : Nat} (h : y < r * c) : y / c < r ∧ y % c < c := by
  have hc : 0 < c := by rcases Nat.eq_zero_or_pos c with rfl | h'; simp at h; exact h'
  exact ⟨Nat.div_lt_of_lt_mul (by rw [Nat.mul_comm]; exact h), Nat.mod_lt _ hc⟩
theorem div_mul_mod {c y : Nat} : y / c * c + y % c = y := by rw [Nat.mul_comm]; exact Nat.div_add_mod y c

/-! ## columns without a leading one -/
theorem free_len {n : Nat} {L : List Nat} (hinc : ∀ i k, i < k → k < L.length → L[i]?.getD 0 < L[k]?.getD 0) (hlt : ∀ x ∈ L, x < n) : (freeL n L).length + L.length = n := by
  have key : ∀ t, ((List.range t).filter fun k => !L.contains k).length + ((List.range t).filter fun k => L.contains k).length = t := by
    intro t
    induction t with
    | zero => simp
    | succ t ih =>
      rw [List.range_succ, List.filter_append, List.filter_append, List.length_append, List.length_append]
      cases h : L.contains t <;> simp only [List.filter_cons, List.filter_nil, h, Bool.not_true, Bool.not_false, Bool.false_eq_true, if_true, if_false, List.length_cons, List.length_nil] <;> omega
  have e : (List.range n).filter (fun k => L.contains k) = L := by
    have hL : ∀ i, i < L.length → L[i]?.getD 0 < n := fun i hi => hlt _ (by rw [List.getElem?_eq_getElem hi]; exact List.getElem_mem hi)
    have hS : ((List.range n).filter fun k => L.contains k).Pairwise (· < ·) := List.Pairwise.filter _ List.pairwise_lt_range
    refine sorted_eq (fun i k hik hk => ?_) hinc (fun i hi => ?_) (fun j hj => ?_)
    · have := List.pairwise_iff_getElem.1 hS i k (by omega) hk hik
      rw [List.getElem?_eq_getElem (by omega), List.getElem?_eq_getElem hk]
      exact this
    · have hm := List.getElem_mem hi
      rw [List.mem_filter] at hm
      have h2 := List.contains_iff_mem.1 hm.2
      obtain ⟨j, hj, he⟩ := List.mem_iff_getElem.1 h2
      refine ⟨j, hj, ?_⟩
      rw [List.getElem?_eq_getElem hj, List.getElem?_eq_getElem hi]
      exact he
    · have hm : L[j] ∈ (List.range n).filter fun k => L.contains k := by
        rw [List.mem_filter]
        exact ⟨List.mem_range.2 (hlt _ (List.getElem_mem hj)), List.contains_iff_mem.2 (List.getElem_mem hj)⟩
      obtain ⟨i, hi, he⟩ := List.mem_iff_getElem.1 hm
      refine ⟨i, hi, ?_⟩
      rw [List.getElem?_eq_getElem hj, List.getElem?_eq_getElem hi]
      exact he
  have := key n
  rw [e] at this
  exact this
end Go.Proofs.Ytjfcjkeghigipaa
end

section
set_option linter.unusedVariables false
set_option linter.unusedSimpArgs false
/-
  Morphisms between representations: the matrix of their equations, in impl.
-/
namespace Go.Proofs.Ytjfcjkeghigipaa
open Go.RowKit
set_option linter.unusedVariables false

def sV (r : Rp) (i : Nat) : Nat := (r.q.src[i]?.getD 0).toNat
def tV (r : Rp) (i : Nat) : Nat := (r.q.tgt[i]?.getD 0).toNat
def aF (r : Rp) (i : Nat) : Nat → Nat → Int := fun j k => (r.maps[i]?.getD ⟨0, 0, []⟩).cells[j * dN r (sV r i) + k]?.getD 0
/-- A representation's parts as plain numbers and tables. -/
structure Rv (r : Rp) : Prop where
  hp : isF r.p = true
  n5 : r.dims.length ≤ 5
  d : ∀ k, k < r.dims.length → r.dims[k]?.getD 0 = (dN r k : Int) ∧ dN r k ≤ 4
  e6 : r.q.src.length ≤ 6
  tl : r.q.tgt.length = r.q.src.length
  ml : r.maps.length = r.q.src.length
  s : ∀ i, i < r.q.src.length → r.q.src[i]?.getD 0 = (sV r i : Int) ∧ sV r i < r.dims.length
  t : ∀ i, i < r.q.src.length → r.q.tgt[i]?.getD 0 = (tV r i : Int) ∧ tV r i < r.dims.length
  m : ∀ i, i < r.q.src.length → r.maps[i]?.getD ⟨0, 0, []⟩ = ⟨dN r (tV r i), dN r (sV r i), tabM (dN r (tV r i)) (dN r (sV r i)) (aF r i)⟩ ∧ InP r.p (dN r (tV r i)) (dN r (sV r i)) (aF r i)
theorem rv_of {r : Rp} (h : repV r = true) : Rv r := by
  obtain ⟨hp, hD, hml, hM⟩ := rep_maps h
  obtain ⟨hQ, hd1, hd2, _⟩ := dimsV_parts hD
  obtain ⟨n, hn, hn1, hn5, hq1, hq2, hq3, hq4⟩ := quivV_parts hQ
  have hdl : r.dims.length = n := by omega
  have hd : ∀ k, k < r.dims.length → r.dims[k]?.getD 0 = (dN r k : Int) ∧ dN r k ≤ 4 := by
    intro k hk
    have := hd2 _ (mem_get 0 hk)
    unfold dN
    omega
  have hs : ∀ i, i < r.q.src.length → r.q.src[i]?.getD 0 = (sV r i : Int) ∧ sV r i < r.dims.length := by
    intro i hi
    have := hq3 _ (mem_get 0 hi)
    unfold sV
    omega
  have ht : ∀ i, i < r.q.src.length → r.q.tgt[i]?.getD 0 = (tV r i : Int) ∧ tV r i < r.dims.length := by
    intro i hi
    have := hq4 _ (mem_get 0 (show i < r.q.tgt.length by omega))
    unfold tV
    omega
  refine ⟨hp, by omega, hd, hq2, by omega, hml, hs, ht, fun i hi => ?_⟩
  obtain ⟨g1, g2, g3⟩ := hM i (by omega)
  rw [show (r.q.src[i]?.getD 0).toNat = sV r i from rfl, (hd _ (hs i hi).2).1] at g2
  rw [show (r.q.tgt[i]?.getD 0).toNat = tV r i from rfl, (hd _ (ht i hi).2).1] at g3
  obtain ⟨_, a, b, F, ha, hb, he, hF⟩ := matV_parts g1
  have ea : a = dN r (tV r i) := by rw [he] at g3; simp only at g3; omega
  have eb : b = dN r (sV r i) := by rw [he] at g2; simp only at g2; omega
  have em : ∀ j k, j < a → k < b → aF r i j k = F j k := by
    intro j k hj hk
    unfold aF
    rw [he, ← eb]
    simp only
    rw [tabM_get F hj hk]; rfl
  subst ea; subst eb
  rw [he]
  refine ⟨?_, fun j k hj hk => by rw [em j k hj hk]; exact hF j k hj hk⟩
  rw [tabM_congr em]

/-- Two representations that fit. -/
structure Fit (a b : Rp) : Prop where
  ra : Rv a
  rb : Rv b
  pe : b.p = a.p
  qe : b.q = a.q
  ne : b.dims.length = a.dims.length
theorem fit_of {a b : Rp} (h1 : repV a = true) (h2 : repV b = true) (hp : a.p = b.p) (hq : a.q = b.q) : Fit a b := by
  refine ⟨rv_of h1, rv_of h2, hp.symm, hq.symm, ?_⟩
  have e1 := (dimsV_parts (rep_maps h1).2.1).2.1
  have e2 := (dimsV_parts (rep_maps h2).2.1).2.1
  rw [hq] at e1
  omega
theorem Fit.sV {a b : Rp} (h : Fit a b) (i : Nat) : sV b i = sV a i := by unfold Proofs.Ytjfcjkeghigipaa.sV; rw [h.qe]
theorem Fit.tV {a b : Rp} (h : Fit a b) (i : Nat) : tV b i = tV a i := by unfold Proofs.Ytjfcjkeghigipaa.tV; rw [h.qe]
def lV (a b : Rp) (v : Nat) : Nat := dN b v * dN a v
def lE (a b : Rp) (i : Nat) : Nat := dN b (tV a i) * dN a (sV a i)
theorem off_bd {l : Nat → Nat} {c : Nat} : ∀ {k : Nat}, (∀ i, i < k → l i ≤ c) → off l k ≤ c * k
  | 0, _ => Nat.zero_le _
  | k + 1, h => by
    have h1 := off_bd (c := c) (k := k) fun i hi => h i (by omega)
    have h2 := h k (by omega)
    show off l k + l k ≤ c * (k + 1)
    rw [Nat.mul_succ]; omega
theorem Fit.lV {a b : Rp} (h : Fit a b) {v : Nat} (hv : v < a.dims.length) : lV a b v ≤ 16 := Nat.mul_le_mul (h.rb.d v (by rw [h.ne]; exact hv)).2 (h.ra.d v hv).2
theorem Fit.lE {a b : Rp} (h : Fit a b) {i : Nat} (hi : i < a.q.src.length) : lE a b i ≤ 16 := Nat.mul_le_mul (h.rb.d _ (by rw [h.ne]; exact (h.ra.t i hi).2)).2 (h.ra.d _ (h.ra.s i hi).2).2
theorem Fit.offV {a b : Rp} (h : Fit a b) {v : Nat} (hv : v ≤ a.dims.length) : off (Proofs.Ytjfcjkeghigipaa.lV a b) v ≤ 80 := by
  have := off_bd (l := Proofs.Ytjfcjkeghigipaa.lV a b) (c := 16) (k := v) fun i hi => h.lV (by omega)
  have := h.ra.n5
  omega
theorem Fit.offE {a b : Rp} (h : Fit a b) {i : Nat} (hi : i ≤ a.q.src.length) : off (Proofs.Ytjfcjkeghigipaa.lE a b) i ≤ 96 := by
  have := off_bd (l := Proofs.Ytjfcjkeghigipaa.lE a b) (c := 16) (k := i) fun j hj => h.lE (by omega)
  have := h.ra.e6
  omega

/-! ## lists of matrices -/
theorem map_get {α : Type} {f : Nat → α} {n k : Nat} (h : k < n) : atL ((List.range n).map f) (k : Int) = some (f k) := by rw [atL_nat (by simp; exact h)]; simp
theorem snoc_map {α : Type} {f : Nat → α} {k : Nat} : (List.range k).map f ++ [f k] = (List.range (k + 1)).map f := by rw [List.range_succ, List.map_append]; rfl
theorem mz_len {a b : Nat} (ha : a ≤ 4) (hb : b ≤ 4) : a * b ≤ 1048576 := sq ha hb
/-- The coboundary's number at row r, column k of an arrow. -/
def cobF (a b : Rp) (P : Nat → Nat → Nat → Int) (i : Nat) : Nat → Nat → Int := fun r k =>
  (mulF a.p (dN b (sV a i)) (aF b i) (P (sV a i)) r k + (a.p - 1) * mulF a.p (dN a (tV a i)) (P (tV a i)) (aF a i) r k) % a.p
theorem n_fromColumns {R N : Nat} (hN : R * N ≤ 1048576) (h1 : R ≤ 1048576) (h2 : N ≤ 1048576) (M : Nat → Nat → Int) : m_impl_fromColumns R ((List.range N).map fun k => rowL R fun i => M i k) = some ⟨R, N, tabM R N M⟩ := by
  unfold m_impl_fromColumns
  rw [List.length_map, List.length_range, n_zero hN, Option.bind_some]
  simp only
  rw [Lp_go (r := tabM R N M) (fun k => (tabM R N (fun i j => if j < k then M i j else 0), (k : Int))) N (by simp) (fun k hk => ?_) (fun _ => ?_), Option.bind_some]
  · unfold m_impl_fromColumns_L1
    simp only
    rw [List.length_map, List.length_range, dlt hk, cond_true, map_get hk, Option.bind_some]
    rw [Lp_go (r := tabM R N (fun i j => if j < k + 1 then M i j else 0)) (fun x => (tabM R N (fun i j => if j < k ∨ (j = k ∧ i < x) then M i j else 0), (x : Int))) R (by simp) (fun x hx => ?_) (fun _ => ?_), Option.bind_some, wr_suc hk (by omega)]
    · unfold m_impl_fromColumns_L2
      simp only
      rw [rowL_len, dlt hx, cond_true, rowL_at _ hx, Option.bind_some, atT hN hx hk, Option.bind_some, setT hN hx hk, wr_suc hx (by omega)]
      congr 3
      refine tabM_congr fun i j hi hj => ?_
      simp only [setF]
      by_cases e : i = x ∧ j = k
      · rw [if_pos e, if_pos (by omega), e.1, e.2]
      · rw [if_neg e]
        by_cases e2 : j < k ∨ j = k ∧ i < x
        · rw [if_pos e2, if_pos (by omega)]
        · rw [if_neg e2, if_neg (by omega)]
    · unfold m_impl_fromColumns_L2
      simp only
      rw [rowL_len, dnl (Nat.le_refl _), cond_false]
      congr 2
      refine tabM_congr fun i j hi hj => ?_
      by_cases e : j < k + 1
      · rw [if_pos e, if_pos (by omega)]
      · rw [if_neg e, if_neg (by omega)]
  · unfold m_impl_fromColumns_L1
    simp only
    rw [List.length_map, List.length_range, dnl (Nat.le_refl _), cond_false]
    congr 2
    exact tabM_congr fun i j hi hj => by rw [if_pos hj]

/-! ## the matrix of the equations -/
def eF (a b : Rp) (i r k v j l : Nat) : Int := ((if sV a i = v ∧ k = l then aF b i r j else 0) - (if tV a i = v ∧ r = j then aF a i l k else 0)) % a.p
def e2 (a b : Rp) (i y v z : Nat) : Int := eF a b i (y / dN a (sV a i)) (y % dN a (sV a i)) v (z / dN a v) (z % dN a v)
def mE (a b : Rp) : Nat → Nat → Int := fun x k => (cat (lE a b) (fun i y => (cat (lV a b) (e2 a b i y) a.dims.length)[k]?.getD 0) a.q.src.length)[x]?.getD 0
def nE (a b : Rp) : Nat := off (lE a b) a.q.src.length
def nV (a b : Rp) : Nat := off (lV a b) a.dims.length
theorem mE_in {a b : Rp} (h : Fit a b) : InP a.p (nE a b) (nV a b) (mE a b) := by
  intro x k hx hk
  obtain ⟨i, y, hi, hy, rfl⟩ := off_dec hx
  obtain ⟨v, z, hv, hz, rfl⟩ := off_dec hk
  unfold mE
  rw [cat_get _ hi hy, Option.getD_some, cat_get _ hv hz, Option.getD_some]
  exact emod_bd h.ra.hp
theorem dotS_sN (F G : Nat → Nat → Int) (i j : Nat) : ∀ k, dotS F G i j k = sN (fun t => F i t * G t j) k
  | 0 => rfl
  | k + 1 => by rw [dotS, sN, dotS_sN F G i j k]
def unP (a : Rp) (v0 z0 : Nat) : Nat → Nat → Nat → Int := fun v j l => if v = v0 ∧ j * dN a v + l = z0 then 1 else 0
theorem unP_in {a : Rp} (hp : isF a.p = true) (v0 z0 v m n : Nat) : InP a.p m n (unP a v0 z0 v) := by
  have hb := isF_bd hp
  intro i j _ _
  unfold unP
  split <;> omega
theorem cob_unit {a b : Rp} (h : Fit a b) {v0 z0 i r k : Nat} (hv : v0 < a.dims.length) (hz : z0 < lV a b v0) (hi : i < a.q.src.length) (hr : r < dN b (tV a i)) (hk : k < dN a (sV a i)) :
    cobF a b (unP a v0 z0) i r k = eF a b i r k v0 (z0 / dN a v0) (z0 % dN a v0) := by
  have hb := isF_bd h.ra.hp
  obtain ⟨hj0, hl0⟩ := divmod hz
  have key : ∀ v j l, l < dN a v → (v = v0 ∧ j * dN a v + l = z0 ↔ v = v0 ∧ j = z0 / dN a v0 ∧ l = z0 % dN a v0) := by
    intro v j l hl
    constructor
    · rintro ⟨rfl, rfl⟩
      exact ⟨rfl, (ix_div hl).symm, (ix_mod hl).symm⟩
    · rintro ⟨rfl, rfl, rfl⟩
      exact ⟨rfl, div_mul_mod⟩
  have e1 : mulF a.p (dN b (sV a i)) (aF b i) (unP a v0 z0 (sV a i)) r k = (if sV a i = v0 ∧ k = z0 % dN a v0 then aF b i r (z0 / dN a v0) else 0) % a.p := by
    unfold mulF
    rw [dotS_sN]
    by_cases e : sV a i = v0 ∧ k = z0 % dN a v0
    · rw [if_pos e, sN_one (j := z0 / dN a v0) (by rw [e.1]; exact hj0)]
      · unfold unP
        rw [if_pos ((key _ _ _ hk).2 ⟨e.1, rfl, e.2⟩), Int.mul_one]
      · intro t ht htj
        unfold unP
        rw [if_neg fun g => htj ((key _ _ _ hk).1 g).2.1, Int.mul_zero]
    · rw [if_neg e, sN_congr (g := fun _ => 0), sN_zero]
      intro t ht
      unfold unP
      rw [if_neg fun g => e ⟨((key _ _ _ hk).1 g).1, ((key _ _ _ hk).1 g).2.2⟩, Int.mul_zero]
  have e2 : mulF a.p (dN a (tV a i)) (unP a v0 z0 (tV a i)) (aF a i) r k = (if tV a i = v0 ∧ r = z0 / dN a v0 then aF a i (z0 % dN a v0) k else 0) % a.p := by
    unfold mulF
    rw [dotS_sN]
    by_cases e : tV a i = v0 ∧ r = z0 / dN a v0
    · rw [if_pos e, sN_one (j := z0 % dN a v0) (by rw [e.1]; exact hl0)]
      · unfold unP
        rw [if_pos ((key _ _ _ (by rw [e.1]; exact hl0)).2 ⟨e.1, e.2, rfl⟩), Int.one_mul]
      · intro t ht htj
        unfold unP
        rw [if_neg fun g => htj ((key _ _ _ ht).1 g).2.2, Int.zero_mul]
    · rw [if_neg e, sN_congr (g := fun _ => 0), sN_zero]
      intro t ht
      unfold unP
      rw [if_neg fun g => e ⟨((key _ _ _ ht).1 g).1, ((key _ _ _ ht).1 g).2.1⟩, Int.zero_mul]
  unfold cobF eF
  rw [e1, e2]
  generalize (if sV a i = v0 ∧ k = z0 % dN a v0 then aF b i r (z0 / dN a v0) else 0) = x
  generalize (if tV a i = v0 ∧ r = z0 / dN a v0 then aF a i (z0 % dN a v0) k else 0) = y
  rw [show x % a.p + (a.p - 1) * (y % a.p) = (x % a.p - y % a.p) + a.p * (y % a.p) by rw [Int.sub_mul]; omega, Int.add_mul_emod_self_left]
  exact (Int.sub_emod x y a.p).symm
theorem tb_mE {a b : Rp} (h : Fit a b) : Tb a.p (nE a b) (nV a b) (mE a b) := by
  have bV := h.offV (Nat.le_refl _)
  have bE := h.offE (Nat.le_refl _)
  exact ⟨h.ra.hp, Nat.le_trans (Nat.mul_le_mul bE bV) (by decide), by unfold nE; omega, by unfold nV; omega, mE_in h⟩
def hdim (a b : Rp) : Nat := nV a b - rkF a.p (nE a b) (nV a b) (mE a b)
theorem rk_le {p : Int} {m n : Nat} {F : Nat → Nat → Int} : rkF p m n F ≤ n := redUp_len' n
end Go.Proofs.Ytjfcjkeghigipaa
end

section
set_option linter.unusedVariables false
set_option linter.unusedSimpArgs false
/-
  The representation of spaces on both sides.
-/
namespace Go.Proofs.Ytjfcjkeghigipaa
open Go.RowKit
set_option linter.unusedVariables false
set_option linter.unusedSimpArgs false

/-- The matrix whose columns are some vectors of n numbers. -/
def colM (n : Nat) (l : List (List Int)) : Mt := ⟨n, (l.length : Int), tabM n l.length fun i k => rowsF l k i⟩
theorem cols_back {n : Nat} {l : List (List Int)} (h : ∀ v ∈ l, v.length = n) : l = (List.range l.length).map fun k => rowL n fun i => rowsF l k i := rows_of h
theorem n_colM {n : Nat} {l : List (List Int)} (hn : n ≤ 1024) (hl : l.length ≤ 512) (h : ∀ v ∈ l, v.length = n) : m_impl_fromColumns n l = some (colM n l) := by
  have hN : n * l.length ≤ 1048576 := by have := Nat.mul_le_mul hn hl; omega
  have e := n_fromColumns hN (by omega) (by omega) (fun i k => rowsF l k i)
  rw [← cols_back h] at e
  exact e
theorem n_l3Transpose {r c : Nat} (hN : c * r ≤ 1048576) (hr : r ≤ 1048576) (hc : c ≤ 1048576) (F : Nat → Nat → Int) : m_spec_l3Transpose ⟨r, c, tabM r c F⟩ = some ⟨c, r, tabM c r fun i k => F k i⟩ := by
  have hN' : r * c ≤ 1048576 := by rw [Nat.mul_comm]; exact hN
  unfold m_spec_l3Transpose
  simp only
  rw [n_l3Zero hN, Option.bind_some]
  simp only
  rw [Lp_go (r := tabM c r fun i k => F k i) (fun t => (tabM c r (fun i k => if k < t then F k i else 0), (t : Int))) r (by simp) (fun t ht => ?_) (fun _ => ?_), Option.bind_some]
  · unfold m_spec_l3Transpose_L1
    simp only
    rw [dlt ht, cond_true]
    rw [Lp_go (r := tabM c r (fun i k => if k < t + 1 then F k i else 0)) (fun x => (tabM c r (fun i k => if k < t ∨ (k = t ∧ i < x) then F k i else 0), (x : Int))) c (by simp) (fun x hx => ?_) (fun _ => ?_), Option.bind_some, wr_suc ht (by omega)]
    · unfold m_spec_l3Transpose_L2
      simp only
      rw [dlt hx, cond_true, atT hN' ht hx, Option.bind_some, atT hN hx ht, Option.bind_some, setT hN hx ht, wr_suc hx (by omega)]
      congr 3
      refine tabM_congr fun i j hi hj => ?_
      simp only [setF]
      by_cases e : i = x ∧ j = t
      · rw [if_pos e, if_pos (by omega), e.1, e.2]
      · rw [if_neg e]
        by_cases e2 : j < t ∨ j = t ∧ i < x
        · rw [if_pos e2, if_pos (by omega)]
        · rw [if_neg e2, if_neg (by omega)]
    · unfold m_spec_l3Transpose_L2
      simp only
      rw [dnl (Nat.le_refl _), cond_false]
      congr 2
      refine tabM_congr fun i j hi hj => ?_
      by_cases e : j < t + 1
      · rw [if_pos e, if_pos (by omega)]
      · rw [if_neg e, if_neg (by omega)]
  · unfold m_spec_l3Transpose_L1
    simp only
    rw [dnl (Nat.le_refl _), cond_false]
    congr 2
    exact tabM_congr fun i j hi hj => by rw [if_pos hj]

def dimsS (n : Nat) (l : List Sc) : List Int := l.map (fun s => (s.basis.length : Int)) ++ [(n : Int)]
def mapsS (n : Nat) (l : List Sc) : List Mt := l.map fun s => colM n s.basis
def okS (p n : Int) (s : Sc) : Bool := spaceV p s.size s.basis && decide (s.size = n)
def repS (p : Int) (n : Nat) (l : List Sc) : Rp := ⟨p, starQ l.length, dimsS n l, mapsS n l⟩
def noRep : Rp × Bool := (⟨0, ⟨0, [], []⟩, [], []⟩, false)
def repSV (p n : Int) (l : List Sc) : Rp × Bool :=
  bif (inR (l.length : Int) 1 4) && (isF p && (inR n 0 4 && (l.all (okS p n) && dimsV (starQ l.length) (dimsS n.toNat l)))) then (repS p n.toNat l, true) else noRep

theorem okS_parts {p : Int} {n : Nat} {s : Sc} (h : okS p n s = true) : isF p = true ∧ s.size = n ∧ n ≤ 8 ∧ s.basis.length ≤ n ∧ VecsP p n s.basis := by
  simp only [okS, Bool.and_eq_true, decide_eq_true_eq] at h
  obtain ⟨hp, m, e, h1, h2, h3, _⟩ := spaceV_parts h.1
  have : m = n := by have := h.2; omega
  subst this
  exact ⟨hp, e, h1, h2, h3⟩
theorem colM_in {p : Int} {n : Nat} {l : List (List Int)} (h : VecsP p n l) : InP p n l.length fun i k => rowsF l k i := fun i k hi hk => h.inP k i hk hi
theorem starQ_b {n : Nat} (h : n ≤ 4) : bQ (starQ n) := ⟨by simp [bI, starQ]; omega, by simp [bI, starQ]; omega, trivial⟩
theorem starQ_V {n : Nat} (h1 : 1 ≤ n) (h : n ≤ 4) : quivV (starQ n) = true := by
  unfold quivV starQ
  simp only [Bool.and_eq_true, decide_eq_true_eq, List.all_eq_true, List.length_map, List.length_range, List.length_replicate]
  refine ⟨inR_mk (by omega) (by omega), trivial, by omega, fun x hx => ?_, fun x hx => ?_⟩
  · obtain ⟨k, hk, rfl⟩ := List.mem_map.1 hx
    have := List.mem_range.1 hk
    rw [wr_sm (by omega)]
    exact inR_mk (by omega) (by omega)
  · have := List.eq_of_mem_replicate hx
    subst this
    rw [wr_sm (by omega)]
    exact inR_mk (by omega) (by omega)
theorem repS_V {p : Int} {n : Nat} {l : List Sc} (h1 : l.length ≤ 4) (hp : isF p = true) (hn : n ≤ 4) (ho : ∀ s ∈ l, okS p n s = true) : repV (repS p n l) = dimsV (starQ l.length) (dimsS n l) := by
  unfold repV repS
  simp only
  rw [hp, Bool.true_and]
  have hm : (mapsS n l).length = l.length := by simp [mapsS]
  have hsl : (starQ l.length).src.length = l.length := by simp [starQ]
  rw [hm, hsl, decide_eq_true rfl, Bool.true_and]
  have hall : ((List.range l.length).all fun k => matV p ((mapsS n l)[k]?.getD ⟨0, 0, []⟩) && (decide (((mapsS n l)[k]?.getD ⟨0, 0, []⟩).cols = (dimsS n l)[((starQ l.length).src[k]?.getD 0).toNat]?.getD 0) && decide (((mapsS n l)[k]?.getD ⟨0, 0, []⟩).rows = (dimsS n l)[((starQ l.length).tgt[k]?.getD 0).toNat]?.getD 0))) = true := by
    rw [range_all]
    intro k hk
    obtain ⟨_, e1, e2, e3, e4⟩ := okS_parts (ho _ (List.getElem_mem hk))
    have g1 : (mapsS n l)[k]?.getD ⟨0, 0, []⟩ = colM n l[k].basis := by simp [mapsS, hk]
    have g2 : ((starQ l.length).src[k]?.getD 0).toNat = k := by simp [starQ, hk]
    have g3 : ((starQ l.length).tgt[k]?.getD 0).toNat = l.length := by simp [starQ, hk]
    have g4 : (dimsS n l)[k]?.getD 0 = (l[k].basis.length : Int) := by unfold dimsS; rw [List.getElem?_append_left (by simp; exact hk)]; simp [hk]
    have g5 : (dimsS n l)[l.length]?.getD 0 = (n : Int) := by simp [dimsS]
    rw [g1, g2, g3, g4, g5]
    unfold colM
    rw [matV_mk hp (by omega) (by omega) (colM_in e4)]
    simp
  rw [hall, Bool.and_true]
theorem repS_b {p : Int} {n : Nat} {l : List Sc} (h1 : l.length ≤ 4) (hn : n ≤ 4) (ho : ∀ s ∈ l, okS p n s = true) : bR (repS p n l) := by
  refine ⟨starQ_b h1, by simp [bI, repS, dimsS]; omega, ⟨by simp [repS, mapsS]; omega, fun m hm => ?_⟩, trivial⟩
  obtain ⟨s, hs, rfl⟩ := List.mem_map.1 hm
  obtain ⟨_, _, _, e3, _⟩ := okS_parts (ho s hs)
  have := Nat.mul_le_mul hn (show s.basis.length ≤ 4 by omega)
  exact ⟨by simp [bI, colM, tabM_len]; omega, trivial⟩
theorem noRep_b : bR noRep.1 := ⟨⟨by simp [bI, noRep], by simp [bI, noRep], trivial⟩, by simp [bI, noRep], ⟨by simp [noRep], by simp [noRep]⟩, trivial⟩
theorem repSV_b (p n : Int) (l : List Sc) : bR (repSV p n l).1 := by
  unfold repSV
  cases h : (inR (l.length : Int) 1 4) && (isF p && (inR n 0 4 && (l.all (okS p n) && dimsV (starQ l.length) (dimsS n.toNat l)))) with
  | false => exact noRep_b
  | true =>
    simp only [Bool.and_eq_true, List.all_eq_true] at h
    obtain ⟨h1, h2, h3, h4, h5⟩ := h
    have h1 := inR_true h1
    have h3 := inR_true h3
    exact repS_b (by omega) (by omega) fun s hs => by rw [show ((n.toNat : Nat) : Int) = n by omega]; exact h4 s hs
theorem snocT {α β : Type} {f : α → β} {l : List α} {k : Nat} (hk : k < l.length) : (l.take k).map f ++ [f l[k]] = (l.take (k + 1)).map f := by rw [List.take_succ_eq_append_getElem hk, List.map_append]; rfl
theorem okS_range {p n : Int} (l : List Sc) : (List.range l.length).all (fun k => okS p n (l[k]?.getD ⟨0, []⟩)) = l.all (okS p n) := all_range _ l _

theorem n_implRepS (p n : Int) {l : List Sc} (h : l.length ≤ 1048576 ∧ ∀ s ∈ l, bS s) : m_impl_RepOfSubspaces p n l = some (repSV p n l) := by
  obtain ⟨hl, hb⟩ := h
  unfold m_impl_RepOfSubspaces repSV
  rw [n_implStar, Option.bind_some]
  unfold starR
  cases h1 : inR (l.length : Int) 1 4 with
  | false => rfl
  | true =>
    have h1 := inR_true h1
    rw [cond_true]
    simp only [Bool.not_true, cond_false]
    rw [n_implF, Option.bind_some]
    cases hp : isF p with
    | false => rfl
    | true =>
      rw [Bool.not_true, cond_false, n_within, Option.bind_some]
      cases h3 : inR n 0 4 with
      | false => rfl
      | true =>
        have h3 := inR_true h3
        obtain ⟨m, rfl⟩ : ∃ m : Nat, n = m := ⟨n.toNat, by omega⟩
        simp only [Bool.not_true, cond_false, Bool.true_and, Int.toNat_natCast]
        have key := Lp_allS (body := m_impl_RepOfSubspaces_L1 p m l) (I := fun k => ((l.take k).map (fun s => (s.basis.length : Int)), (l.take k).map (fun s => colM m s.basis), (k : Int))) (n := l.length) (P := fun k => okS p m (l[k]?.getD ⟨0, []⟩)) (b := .inr noRep) (fin := .inl (l.map (fun s => (s.basis.length : Int)), mapsS m l)) (fun k hk _ => ?_) (fun _ => ?_)
        · rw [okS_range] at key
          simp only [List.take_zero, List.map_nil, show ((0 : Nat) : Int) = 0 from rfl] at key
          rw [key, Option.bind_some]
          cases ho : l.all (okS p m) with
          | false => rfl
          | true =>
            rw [cond_true]
            simp only [Sum.elim_inl]
            rw [decide_eq_true (by simp; omega), cond_true]
            have hb2 : bR (⟨p, starQ l.length, l.map (fun s => (s.basis.length : Int)) ++ [(m : Int)], mapsS m l⟩ : Rp) := repS_b (p := p) (by omega) (by omega) (List.all_eq_true.1 ho)
            rw [n_implRep hb2, Option.bind_some]
            have hv : repV (⟨p, starQ l.length, l.map (fun s => (s.basis.length : Int)) ++ [(m : Int)], mapsS m l⟩ : Rp) = dimsV (starQ l.length) (dimsS m l) := repS_V (by omega) hp (by omega) (List.all_eq_true.1 ho)
            rw [hv]
            cases dimsV (starQ l.length) (dimsS m l) <;> rfl
        · unfold m_impl_RepOfSubspaces_L1
          simp only
          rw [dlt hk, cond_true, atL_nat hk, Option.bind_some, n_implIsSpace p (hb _ (List.getElem_mem hk)), Option.bind_some, List.getElem?_eq_getElem hk, Option.getD_some]
          unfold okS
          cases hs : spaceV p l[k].size l[k].basis with
          | false => rfl
          | true =>
            rw [Bool.not_true, cond_false, Bool.true_and]
            cases hz : decide (l[k].size = (m : Int)) with
            | false => rfl
            | true =>
              obtain ⟨_, _, e2, e3, e4⟩ := okS_parts (p := p) (n := m) (s := l[k]) (by unfold okS; rw [hs, hz]; rfl)
              rw [Bool.not_true, cond_false, decide_eq_true (by simp; omega), cond_true, n_colM (by omega) (by omega) (fun v hv => (e4 v hv).1), Option.bind_some, decide_eq_true (by simp; omega), cond_true, snocT (f := fun s : Sc => (s.basis.length : Int)) hk, snocT (f := fun s : Sc => colM m s.basis) hk, wr_suc hk (by omega)]
              rfl
        · unfold m_impl_RepOfSubspaces_L1
          simp only
          rw [dnl (Nat.le_refl _), cond_false, List.take_length]
          rfl
theorem n_l6Copy {q : Qv} (h : bQ q) : m_spec_l6Copy q = some q := by
  obtain ⟨h1, h2, _⟩ := h
  unfold bI at h1 h2
  unfold m_spec_l6Copy
  rw [decide_eq_true (by simp; omega), cond_true, decide_eq_true (by simp; omega), cond_true]
  simp
theorem n_specRepS (p n : Int) {l : List Sc} (h : l.length ≤ 1048576 ∧ ∀ s ∈ l, bS s) : m_spec_RepOfSubspaces p n l = some (repSV p n l) := by
  obtain ⟨hl, hb⟩ := h
  unfold m_spec_RepOfSubspaces repSV
  rw [n_specStar, Option.bind_some]
  unfold starR
  cases h1 : inR (l.length : Int) 1 4 with
  | false => rfl
  | true =>
    have h1 := inR_true h1
    rw [cond_true]
    simp only [Bool.not_true, cond_false]
    rw [n_specF, Option.bind_some]
    cases hp : isF p with
    | false => rfl
    | true =>
      rw [Bool.not_true, cond_false, n_l1In, Option.bind_some]
      cases h3 : inR n 0 4 with
      | false => rfl
      | true =>
        have h3 := inR_true h3
        obtain ⟨m, rfl⟩ : ∃ m : Nat, n = m := ⟨n.toNat, by omega⟩
        simp only [Bool.not_true, cond_false, Bool.true_and, Int.toNat_natCast]
        have key := Lp_allS (body := m_spec_RepOfSubspaces_L1 p m l) (I := fun k => ((l.take k).map (fun s => (s.basis.length : Int)), (k : Int))) (n := l.length) (P := fun k => okS p m (l[k]?.getD ⟨0, []⟩)) (b := .inr noRep) (fin := .inl (l.map (fun s => (s.basis.length : Int)))) (fun k hk _ => ?_) (fun _ => ?_)
        · rw [okS_range] at key
          simp only [List.take_zero, List.map_nil, show ((0 : Nat) : Int) = 0 from rfl] at key
          rw [key, Option.bind_some]
          cases ho : l.all (okS p m) with
          | false => rfl
          | true =>
            have ho := List.all_eq_true.1 ho
            rw [cond_true]
            simp only [Sum.elim_inl]
            rw [decide_eq_true (by simp; omega), cond_true, n_specDims (starQ_b (by omega)) (by simp [bI]; omega), Option.bind_some]
            have hd : dimsV (starQ l.length) (l.map (fun s => (s.basis.length : Int)) ++ [(m : Int)]) = dimsV (starQ l.length) (dimsS m l) := rfl
            rw [hd]
            cases hv : dimsV (starQ l.length) (dimsS m l) with
            | false => rfl
            | true =>
              rw [Bool.not_true, cond_false, Bool.and_self, cond_true]
              unfold m_spec_l8Zero
              rw [n_l6Copy (starQ_b (by omega)), Option.bind_some, decide_eq_true (by simp; omega), cond_true]
              have hsl : (starQ l.length).src.length = l.length := by simp [starQ]
              have hz := Lp_map (l := l) (f := fun s => (⟨m, (s.basis.length : Int), tabM m s.basis.length fun _ _ => 0⟩ : Mt)) (body := m_spec_l8Zero_L1 (starQ l.length) (l.map (fun s => (s.basis.length : Int)) ++ [(m : Int)])) (by omega) (fun k hk o ho2 => ?_) (fun o => ?_)
              · rw [hz, Option.bind_some, Option.bind_some]
                simp only [List.nil_append]
                rw [Lp_go (r := mapsS m l) (fun k => ((l.take k).map (fun s => colM m s.basis) ++ (l.drop k).map (fun s => (⟨m, (s.basis.length : Int), tabM m s.basis.length fun _ _ => 0⟩ : Mt)), (k : Int))) l.length (by simp) (fun k hk => ?_) (fun _ => ?_), Option.bind_some]
                · rfl
                · obtain ⟨_, _, e2, e3, e4⟩ := okS_parts (ho _ (List.getElem_mem hk))
                  unfold m_spec_RepOfSubspaces_L2
                  simp only
                  rw [dlt hk, cond_true, atL_nat hk, Option.bind_some, n_l5Rows (by omega) (by omega) (fun v hv => (e4 v hv).1), Option.bind_some, n_l3Transpose (by have := Nat.mul_le_mul e2 (show l[k].basis.length ≤ 8 by omega); omega) (by omega) (by omega), Option.bind_some, atL_nat (by simp; omega), Option.bind_some, wr_suc hk (by omega), Int.toNat_natCast]
                  congr 3
                  rw [List.set_append_right _ _ (by simp; omega), List.length_map, List.length_take, Nat.min_eq_left (Nat.le_of_lt hk), Nat.sub_self, List.drop_eq_getElem_cons hk, List.map_cons, List.set_cons_zero, List.take_succ_eq_append_getElem hk, List.map_append, List.append_assoc]
                  rfl
                · unfold m_spec_RepOfSubspaces_L2
                  simp only
                  rw [dnl (Nat.le_refl _), cond_false]
                  simp [mapsS]
              · obtain ⟨_, _, e2, e3, e4⟩ := okS_parts (ho _ (List.getElem_mem hk))
                unfold m_spec_l8Zero_L1
                simp only
                have g1 : atL (starQ l.length).tgt (k : Int) = some (l.length : Int) := by rw [atL_nat (by simp [starQ]; exact hk)]; simp [starQ]
                have g2 : atL (starQ l.length).src (k : Int) = some (k : Int) := by rw [atL_nat (by simp [starQ]; exact hk)]; simp [starQ]
                have g3 : atL (l.map (fun s => (s.basis.length : Int)) ++ [(m : Int)]) (l.length : Int) = some (m : Int) := by rw [atL_nat (by simp)]; simp
                have g4 : atL (l.map (fun s => (s.basis.length : Int)) ++ [(m : Int)]) (k : Int) = some (l[k].basis.length : Int) := by rw [atL_nat (by simp; omega)]; simp [List.getElem_append_left, hk]
                rw [hsl, dlt hk, cond_true, g1, Option.bind_some, g3, Option.bind_some, g2, Option.bind_some, g4, Option.bind_some, n_l3Zero (by have := Nat.mul_le_mul e2 (show l[k].basis.length ≤ 8 by omega); omega), Option.bind_some, decide_eq_true (by omega), cond_true]
              · unfold m_spec_l8Zero_L1
                simp only
                rw [hsl, dnl (Nat.le_refl _), cond_false]
        · unfold m_spec_RepOfSubspaces_L1
          simp only
          rw [dlt hk, cond_true, atL_nat hk, Option.bind_some, n_specIsSpace p (hb _ (List.getElem_mem hk)), Option.bind_some, List.getElem?_eq_getElem hk, Option.getD_some]
          unfold okS
          cases hs : spaceV p l[k].size l[k].basis with
          | false => rfl
          | true =>
            rw [Bool.not_true, cond_false, Bool.true_and, Option.bind_some]
            cases hz : decide (l[k].size = (m : Int)) with
            | false => rfl
            | true =>
              rw [Bool.not_true, cond_false, Option.bind_some, decide_eq_true (by simp; omega), cond_true, snocT (f := fun s : Sc => (s.basis.length : Int)) hk, wr_suc hk (by omega)]
              rfl
        · unfold m_spec_RepOfSubspaces_L1
          simp only
          rw [dnl (Nat.le_refl _), cond_false, List.take_length]
theorem plain_RepOfSubspaces {p n : Int} {l : List Sc} (fl : fSs l) : m_laws_FnExactRepOfSubspaces p n l = some true := by
  unfold m_laws_FnExactRepOfSubspaces
  rw [mz_Ss fl (by decide) (by decide), Option.bind_some]
  rcases falls_S falls_Sc l 1048576 (by decide) (by decide) with e | ⟨e1, e2, hl⟩
  · rw [e]; rfl
  · have hs := repSV_b p n l
    have hn := nR_bd hs
    have hn2 := nSs_bd hl
    obtain ⟨l1, l2, l3, l4⟩ := mvR_len 1 (repSV p n l).1
    rw [decide_eq_false (by omega), cond_false]
    simp only [mt_Ss hl, Option.bind_some, n_specRepS p n hl, n_implRepS p n hl, me_Ss hl, me_R hs, decide_true, Bool.not_true, cond_false, beq_self_eq_true]
    rw [mm_Ss (by decide) (by omega) (lS_of hl), Option.bind_some]
    simp only [mvSs_len, decide_true, cond_true, nneg (show (0 : Int) ≤ 1 by decide), cond_false]
    rw [mm_R (by decide) (by omega) (by have := hs.2.2.1.1; omega), Option.bind_some]
    simp only [l1, l2, l3, l4, decide_true, cond_true]
    have hh : m_laws_heldRep (⟨(repSV p n l).1.p, ⟨(repSV p n l).1.q.n, (mvR 1 (repSV p n l).1).q.src, (mvR 1 (repSV p n l).1).q.tgt⟩, (mvR 1 (repSV p n l).1).dims, (mvR 1 (repSV p n l).1).maps⟩ : Rp) 1 = some ((1 : Int) + (nR (repSV p n l).1 : Int)) := mh_R (by decide) (by omega) (by have := hs.2.2.1.1; omega)
    rw [hh, Option.bind_some, Option.bind_some]
    simp only [nneg (show (0 : Int) ≤ 1 by decide), decide_true, Bool.not_true, cond_false]
end Go.Proofs.Ytjfcjkeghigipaa
end

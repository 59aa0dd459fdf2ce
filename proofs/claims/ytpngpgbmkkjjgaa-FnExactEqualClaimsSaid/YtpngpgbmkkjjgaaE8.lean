/-
  The law on EqualClaims, walked: for all claims it returns true.
-/
import Derived.Test.YtpngpgbmkkjjgaaE4
import Derived.Test.YtpngpgbmkkjjgaaE7
import Derived.Test.YtpngpgbmkkjjgaaA17
namespace Go.Proofs.Ytpngpgbmkkjjgaa
open Go.RowKit
set_option maxRecDepth 10000
set_option maxHeartbeats 8000000

theorem law_EqualClaims (a b : Cl) : HasC Try.prog 6 [.agg (eC a), .agg (eC b)] (.bl true) := by
  refine hasC_mk TT_ok (ns := [0,1,2,3]) Try.func6 rfl rfl Try.ntmps6 rfl rfl rfl ?_
  repeat (first
    | refine aops_nil ?_
    | refine ac_seq ?_
    | refine ac_region ?_
    | refine then_n ?_
    | refine then_ret ?_
    | refine then_exit ?_
    | refine block_n ?_
    | refine block_ret ?_
    | refine block_here ?_
    | refine block_out rfl ?_
    | refine ac_region_draw MIX ?_
    | refine ac_block ?_
    | refine ac_skip ?_
    | refine ac_exit ?_
    | refine ac_ret ?_
    | refine aops_eff (eff_move rfl) rfl rfl rfl ?_
    | refine aops_eff (w_load_ptr TT_ok rfl rfl rfl rfl rfl rfl rfl) rfl rfl rfl ?_
    | refine aops_eff (w_field_ptr TT_ok rfl rfl rfl rfl rfl rfl rfl) rfl rfl rfl ?_
    | refine aops_eff (eff_assign rfl) rfl rfl rfl ?_
    | refine aops_eff (w_len_list TT_ok rfl rfl rfl) rfl rfl rfl ?_
    | refine aops_eff (w_load_ref TT_ok rfl rfl rfl rfl rfl rfl) rfl rfl rfl ?_
    | refine aops_eff (w_cmp rfl rfl rfl) rfl rfl rfl ?_
    | refine aops_eff (eff_indexAddr_list TT_ok rfl rfl rfl rfl rfl rfl (encI_at (by omega))) rfl rfl rfl ?_
    | refine aops_eff (eff_indexAddr_list TT_ok rfl rfl rfl rfl rfl rfl (map_at (at_lt (by omega)))) rfl rfl rfl ?_
    | refine aops_eff (w_add rfl rfl (by omega)) rfl rfl rfl ?_
    | refine aops_skip rfl rfl ?_
    | refine aops_eff (eff_pick rfl rfl) rfl rfl rfl ?_
    | refine aops_eff (w_field_ref TT_ok rfl rfl rfl rfl rfl rfl) rfl rfl rfl ?_
    | refine aops_eff (w_not rfl) rfl rfl rfl ?_
    | refine aops_eff (w_box rfl rfl rfl rfl) rfl rfl rfl ?_
    | refine aops_eff (w_alloc TT_ok rfl rfl) rfl rfl rfl ?_
    | refine aops_eff (w_store TT_ok rfl rfl rfl rfl rfl rfl rfl rfl) rfl rfl rfl ?_
    | refine aops_eff (w_len_own TT_ok rfl rfl rfl rfl) rfl rfl rfl ?_
    | refine aops_eff (w_len_nil TT_ok rfl rfl rfl) rfl rfl rfl ?_
    | refine aops_eff (eff_extract rfl rfl (by intro _ h; cases h)) rfl rfl rfl ?_
    | refine aops_eff (w_lit TT_ok rfl rfl rfl rfl rfl rfl rfl rfl rfl rfl rfl) rfl rfl rfl ?_
    | refine aops_eff (w_build TT_ok rfl rfl rfl rfl rfl rfl) rfl rfl rfl ?_)
  refine aops_eff (w_call0s (h_szC a 1048576 (by decide) (by decide)) rfl (va_cons (va_agg rfl) (va_cons (va_same rfl) va_nil))) rfl rfl rfl ?_
  repeat (first
    | refine aops_nil ?_
    | refine ac_seq ?_
    | refine ac_region ?_
    | refine then_n ?_
    | refine then_ret ?_
    | refine then_exit ?_
    | refine block_n ?_
    | refine block_ret ?_
    | refine block_here ?_
    | refine block_out rfl ?_
    | refine ac_region_draw MIX ?_
    | refine ac_block ?_
    | refine ac_skip ?_
    | refine ac_exit ?_
    | refine ac_ret ?_
    | refine aops_eff (eff_move rfl) rfl rfl rfl ?_
    | refine aops_eff (w_load_ptr TT_ok rfl rfl rfl rfl rfl rfl rfl) rfl rfl rfl ?_
    | refine aops_eff (w_field_ptr TT_ok rfl rfl rfl rfl rfl rfl rfl) rfl rfl rfl ?_
    | refine aops_eff (eff_assign rfl) rfl rfl rfl ?_
    | refine aops_eff (w_len_list TT_ok rfl rfl rfl) rfl rfl rfl ?_
    | refine aops_eff (w_load_ref TT_ok rfl rfl rfl rfl rfl rfl) rfl rfl rfl ?_
    | refine aops_eff (w_cmp rfl rfl rfl) rfl rfl rfl ?_
    | refine aops_eff (eff_indexAddr_list TT_ok rfl rfl rfl rfl rfl rfl (encI_at (by omega))) rfl rfl rfl ?_
    | refine aops_eff (eff_indexAddr_list TT_ok rfl rfl rfl rfl rfl rfl (map_at (at_lt (by omega)))) rfl rfl rfl ?_
    | refine aops_eff (w_add rfl rfl (by omega)) rfl rfl rfl ?_
    | refine aops_skip rfl rfl ?_
    | refine aops_eff (eff_pick rfl rfl) rfl rfl rfl ?_
    | refine aops_eff (w_field_ref TT_ok rfl rfl rfl rfl rfl rfl) rfl rfl rfl ?_
    | refine aops_eff (w_not rfl) rfl rfl rfl ?_
    | refine aops_eff (w_box rfl rfl rfl rfl) rfl rfl rfl ?_
    | refine aops_eff (w_alloc TT_ok rfl rfl) rfl rfl rfl ?_
    | refine aops_eff (w_store TT_ok rfl rfl rfl rfl rfl rfl rfl rfl) rfl rfl rfl ?_
    | refine aops_eff (w_len_own TT_ok rfl rfl rfl rfl) rfl rfl rfl ?_
    | refine aops_eff (w_len_nil TT_ok rfl rfl rfl) rfl rfl rfl ?_
    | refine aops_eff (eff_extract rfl rfl (by intro _ h; cases h)) rfl rfl rfl ?_
    | refine aops_eff (w_lit TT_ok rfl rfl rfl rfl rfl rfl rfl rfl rfl rfl rfl) rfl rfl rfl ?_
    | refine aops_eff (w_build TT_ok rfl rfl rfl rfl rfl rfl) rfl rfl rfl ?_)
  refine ac_cond rfl (fun g0 => ?_) (fun g0 => ?_)
  · repeat (first
      | refine aops_nil ?_
      | refine ac_seq ?_
      | refine ac_region ?_
      | refine then_n ?_
      | refine then_ret ?_
      | refine then_exit ?_
      | refine block_n ?_
      | refine block_ret ?_
      | refine block_here ?_
      | refine block_out rfl ?_
      | refine ac_region_draw MIX ?_
      | refine ac_block ?_
      | refine ac_skip ?_
      | refine ac_exit ?_
      | refine ac_ret ?_
      | refine aops_eff (eff_move rfl) rfl rfl rfl ?_
      | refine aops_eff (w_load_ptr TT_ok rfl rfl rfl rfl rfl rfl rfl) rfl rfl rfl ?_
      | refine aops_eff (w_field_ptr TT_ok rfl rfl rfl rfl rfl rfl rfl) rfl rfl rfl ?_
      | refine aops_eff (eff_assign rfl) rfl rfl rfl ?_
      | refine aops_eff (w_len_list TT_ok rfl rfl rfl) rfl rfl rfl ?_
      | refine aops_eff (w_load_ref TT_ok rfl rfl rfl rfl rfl rfl) rfl rfl rfl ?_
      | refine aops_eff (w_cmp rfl rfl rfl) rfl rfl rfl ?_
      | refine aops_eff (eff_indexAddr_list TT_ok rfl rfl rfl rfl rfl rfl (encI_at (by omega))) rfl rfl rfl ?_
      | refine aops_eff (eff_indexAddr_list TT_ok rfl rfl rfl rfl rfl rfl (map_at (at_lt (by omega)))) rfl rfl rfl ?_
      | refine aops_eff (w_add rfl rfl (by omega)) rfl rfl rfl ?_
      | refine aops_skip rfl rfl ?_
      | refine aops_eff (eff_pick rfl rfl) rfl rfl rfl ?_
      | refine aops_eff (w_field_ref TT_ok rfl rfl rfl rfl rfl rfl) rfl rfl rfl ?_
      | refine aops_eff (w_not rfl) rfl rfl rfl ?_
      | refine aops_eff (w_box rfl rfl rfl rfl) rfl rfl rfl ?_
      | refine aops_eff (w_alloc TT_ok rfl rfl) rfl rfl rfl ?_
      | refine aops_eff (w_store TT_ok rfl rfl rfl rfl rfl rfl rfl rfl) rfl rfl rfl ?_
      | refine aops_eff (w_len_own TT_ok rfl rfl rfl rfl) rfl rfl rfl ?_
      | refine aops_eff (w_len_nil TT_ok rfl rfl rfl) rfl rfl rfl ?_
      | refine aops_eff (eff_extract rfl rfl (by intro _ h; cases h)) rfl rfl rfl ?_
      | refine aops_eff (w_lit TT_ok rfl rfl rfl rfl rfl rfl rfl rfl rfl rfl rfl) rfl rfl rfl ?_
      | refine aops_eff (w_build TT_ok rfl rfl rfl rfl rfl rfl) rfl rfl rfl ?_)
    refine ret_mk rfl rfl rfl ?_
    exact fz_bl rfl
  have f0 := falls_Cl a 1048576 (by decide) (by decide)
  have n0 : ¬ zCl a 1048576 < 0 := of_decide_eq_false g0
  obtain ⟨p0, q0, ba⟩ : 0 ≤ zCl a 1048576 ∧ zCl a 1048576 ≤ 1048576 ∧ bC a := by
    rcases f0 with e | ⟨e1, e2, e3⟩
    · omega
    · exact ⟨e1, e2, e3⟩
  clear f0
  repeat (first
    | refine aops_nil ?_
    | refine ac_seq ?_
    | refine ac_region ?_
    | refine then_n ?_
    | refine then_ret ?_
    | refine then_exit ?_
    | refine block_n ?_
    | refine block_ret ?_
    | refine block_here ?_
    | refine block_out rfl ?_
    | refine ac_region_draw MIX ?_
    | refine ac_block ?_
    | refine ac_skip ?_
    | refine ac_exit ?_
    | refine ac_ret ?_
    | refine aops_eff (eff_move rfl) rfl rfl rfl ?_
    | refine aops_eff (w_load_ptr TT_ok rfl rfl rfl rfl rfl rfl rfl) rfl rfl rfl ?_
    | refine aops_eff (w_field_ptr TT_ok rfl rfl rfl rfl rfl rfl rfl) rfl rfl rfl ?_
    | refine aops_eff (eff_assign rfl) rfl rfl rfl ?_
    | refine aops_eff (w_len_list TT_ok rfl rfl rfl) rfl rfl rfl ?_
    | refine aops_eff (w_load_ref TT_ok rfl rfl rfl rfl rfl rfl) rfl rfl rfl ?_
    | refine aops_eff (w_cmp rfl rfl rfl) rfl rfl rfl ?_
    | refine aops_eff (eff_indexAddr_list TT_ok rfl rfl rfl rfl rfl rfl (encI_at (by omega))) rfl rfl rfl ?_
    | refine aops_eff (eff_indexAddr_list TT_ok rfl rfl rfl rfl rfl rfl (map_at (at_lt (by omega)))) rfl rfl rfl ?_
    | refine aops_eff (w_add rfl rfl (by omega)) rfl rfl rfl ?_
    | refine aops_skip rfl rfl ?_
    | refine aops_eff (eff_pick rfl rfl) rfl rfl rfl ?_
    | refine aops_eff (w_field_ref TT_ok rfl rfl rfl rfl rfl rfl) rfl rfl rfl ?_
    | refine aops_eff (w_not rfl) rfl rfl rfl ?_
    | refine aops_eff (w_box rfl rfl rfl rfl) rfl rfl rfl ?_
    | refine aops_eff (w_alloc TT_ok rfl rfl) rfl rfl rfl ?_
    | refine aops_eff (w_store TT_ok rfl rfl rfl rfl rfl rfl rfl rfl) rfl rfl rfl ?_
    | refine aops_eff (w_len_own TT_ok rfl rfl rfl rfl) rfl rfl rfl ?_
    | refine aops_eff (w_len_nil TT_ok rfl rfl rfl) rfl rfl rfl ?_
    | refine aops_eff (eff_extract rfl rfl (by intro _ h; cases h)) rfl rfl rfl ?_
    | refine aops_eff (w_lit TT_ok rfl rfl rfl rfl rfl rfl rfl rfl rfl rfl rfl) rfl rfl rfl ?_
    | refine aops_eff (w_build TT_ok rfl rfl rfl rfl rfl rfl) rfl rfl rfl ?_)
  refine aops_eff (w_call0s (h_szC b (zCl a 1048576) p0 q0) rfl (va_cons (va_agg rfl) (va_cons (va_same rfl) va_nil))) rfl rfl rfl ?_
  repeat (first
    | refine aops_nil ?_
    | refine ac_seq ?_
    | refine ac_region ?_
    | refine then_n ?_
    | refine then_ret ?_
    | refine then_exit ?_
    | refine block_n ?_
    | refine block_ret ?_
    | refine block_here ?_
    | refine block_out rfl ?_
    | refine ac_region_draw MIX ?_
    | refine ac_block ?_
    | refine ac_skip ?_
    | refine ac_exit ?_
    | refine ac_ret ?_
    | refine aops_eff (eff_move rfl) rfl rfl rfl ?_
    | refine aops_eff (w_load_ptr TT_ok rfl rfl rfl rfl rfl rfl rfl) rfl rfl rfl ?_
    | refine aops_eff (w_field_ptr TT_ok rfl rfl rfl rfl rfl rfl rfl) rfl rfl rfl ?_
    | refine aops_eff (eff_assign rfl) rfl rfl rfl ?_
    | refine aops_eff (w_len_list TT_ok rfl rfl rfl) rfl rfl rfl ?_
    | refine aops_eff (w_load_ref TT_ok rfl rfl rfl rfl rfl rfl) rfl rfl rfl ?_
    | refine aops_eff (w_cmp rfl rfl rfl) rfl rfl rfl ?_
    | refine aops_eff (eff_indexAddr_list TT_ok rfl rfl rfl rfl rfl rfl (encI_at (by omega))) rfl rfl rfl ?_
    | refine aops_eff (eff_indexAddr_list TT_ok rfl rfl rfl rfl rfl rfl (map_at (at_lt (by omega)))) rfl rfl rfl ?_
    | refine aops_eff (w_add rfl rfl (by omega)) rfl rfl rfl ?_
    | refine aops_skip rfl rfl ?_
    | refine aops_eff (eff_pick rfl rfl) rfl rfl rfl ?_
    | refine aops_eff (w_field_ref TT_ok rfl rfl rfl rfl rfl rfl) rfl rfl rfl ?_
    | refine aops_eff (w_not rfl) rfl rfl rfl ?_
    | refine aops_eff (w_box rfl rfl rfl rfl) rfl rfl rfl ?_
    | refine aops_eff (w_alloc TT_ok rfl rfl) rfl rfl rfl ?_
    | refine aops_eff (w_store TT_ok rfl rfl rfl rfl rfl rfl rfl rfl) rfl rfl rfl ?_
    | refine aops_eff (w_len_own TT_ok rfl rfl rfl rfl) rfl rfl rfl ?_
    | refine aops_eff (w_len_nil TT_ok rfl rfl rfl) rfl rfl rfl ?_
    | refine aops_eff (eff_extract rfl rfl (by intro _ h; cases h)) rfl rfl rfl ?_
    | refine aops_eff (w_lit TT_ok rfl rfl rfl rfl rfl rfl rfl rfl rfl rfl rfl) rfl rfl rfl ?_
    | refine aops_eff (w_build TT_ok rfl rfl rfl rfl rfl rfl) rfl rfl rfl ?_)
  refine ac_cond rfl (fun g1 => ?_) (fun g1 => ?_)
  · repeat (first
      | refine aops_nil ?_
      | refine ac_seq ?_
      | refine ac_region ?_
      | refine then_n ?_
      | refine then_ret ?_
      | refine then_exit ?_
      | refine block_n ?_
      | refine block_ret ?_
      | refine block_here ?_
      | refine block_out rfl ?_
      | refine ac_region_draw MIX ?_
      | refine ac_block ?_
      | refine ac_skip ?_
      | refine ac_exit ?_
      | refine ac_ret ?_
      | refine aops_eff (eff_move rfl) rfl rfl rfl ?_
      | refine aops_eff (w_load_ptr TT_ok rfl rfl rfl rfl rfl rfl rfl) rfl rfl rfl ?_
      | refine aops_eff (w_field_ptr TT_ok rfl rfl rfl rfl rfl rfl rfl) rfl rfl rfl ?_
      | refine aops_eff (eff_assign rfl) rfl rfl rfl ?_
      | refine aops_eff (w_len_list TT_ok rfl rfl rfl) rfl rfl rfl ?_
      | refine aops_eff (w_load_ref TT_ok rfl rfl rfl rfl rfl rfl) rfl rfl rfl ?_
      | refine aops_eff (w_cmp rfl rfl rfl) rfl rfl rfl ?_
      | refine aops_eff (eff_indexAddr_list TT_ok rfl rfl rfl rfl rfl rfl (encI_at (by omega))) rfl rfl rfl ?_
      | refine aops_eff (eff_indexAddr_list TT_ok rfl rfl rfl rfl rfl rfl (map_at (at_lt (by omega)))) rfl rfl rfl ?_
      | refine aops_eff (w_add rfl rfl (by omega)) rfl rfl rfl ?_
      | refine aops_skip rfl rfl ?_
      | refine aops_eff (eff_pick rfl rfl) rfl rfl rfl ?_
      | refine aops_eff (w_field_ref TT_ok rfl rfl rfl rfl rfl rfl) rfl rfl rfl ?_
      | refine aops_eff (w_not rfl) rfl rfl rfl ?_
      | refine aops_eff (w_box rfl rfl rfl rfl) rfl rfl rfl ?_
      | refine aops_eff (w_alloc TT_ok rfl rfl) rfl rfl rfl ?_
      | refine aops_eff (w_store TT_ok rfl rfl rfl rfl rfl rfl rfl rfl) rfl rfl rfl ?_
      | refine aops_eff (w_len_own TT_ok rfl rfl rfl rfl) rfl rfl rfl ?_
      | refine aops_eff (w_len_nil TT_ok rfl rfl rfl) rfl rfl rfl ?_
      | refine aops_eff (eff_extract rfl rfl (by intro _ h; cases h)) rfl rfl rfl ?_
      | refine aops_eff (w_lit TT_ok rfl rfl rfl rfl rfl rfl rfl rfl rfl rfl rfl) rfl rfl rfl ?_
      | refine aops_eff (w_build TT_ok rfl rfl rfl rfl rfl rfl) rfl rfl rfl ?_)
    refine ret_mk rfl rfl rfl ?_
    exact fz_bl rfl
  have f0 := falls_Cl b (zCl a 1048576) p0 q0
  have n1 : ¬ zCl b (zCl a 1048576) < 0 := of_decide_eq_false g1
  have bb : bC b := by
    rcases f0 with e | ⟨e1, e2, e3⟩
    · omega
    · exact e3
  clear f0
  repeat (first | refine ac_skip ?_ | refine then_n ?_)
  refine ac_ent (t := mkS [(2, .ptr 0 0 0), (3, .ptr 1 0 0), (4, .bl false)] [(0, ⟨18, [eC a]⟩), (1, ⟨18, [eC b]⟩)] 2 [2, 3, 4, 5, 6, 7, 8, 9, 10, 11, 12, 13, 14, 15, 16, 17, 18, 19, 20, 21, 22, 23, 24, 25, 26, 27, 28, 29, 30, 31]) (ent_mk (σ := sg [(0, 0), (1, 1)]) ?_ ?_ rfl) ?_
  · exact ⟨⟨_, rfl, rfl, rfl, rfl, rfl⟩, ⟨_, rfl, rfl, rfl, rfl, rfl⟩, ⟨_, rfl, rfl⟩, trivial⟩
  · exact ⟨⟨_, rfl, rfl, .inl ⟨rfl, plain_of rfl⟩⟩, rfl, ⟨⟨_, rfl, rfl, .inl ⟨rfl, plain_of rfl⟩⟩, rfl, trivial⟩⟩
  refine ac_seq ?_
  refine ac_region_draw MIX ?_
  refine aops_eff (w_load_ptr TT_ok rfl rfl rfl rfl rfl rfl rfl) rfl rfl rfl ?_
  refine aops_eff (w_call0 (x := .agg [.int a.kind, .int a.rep.p, .int a.rep.q.n, .own 2 0 (encI a.rep.q.src).length, .own 3 0 (encI a.rep.q.tgt).length, .own 4 0 (encI a.rep.dims).length, .own 5 0 (a.rep.maps.map eM).length, .int a.other.p, .int a.other.q.n, .own 6 0 (encI a.other.q.src).length, .own 7 0 (encI a.other.q.tgt).length, .own 8 0 (encI a.other.dims).length, .own 9 0 (a.other.maps.map eM).length, .own 10 0 (a.parts.map eR).length, .own 11 0 (a.maps.map eM).length, .own 12 0 (a.bars.map eB).length, .own 13 0 (encI a.theta).length, .own 14 0 (a.subs.map eS).length]) (nb := [(2, ⟨1, absEs (encI a.rep.q.src)⟩), (3, ⟨1, absEs (encI a.rep.q.tgt)⟩), (4, ⟨1, absEs (encI a.rep.dims)⟩), (5, ⟨3, absEs (a.rep.maps.map eM)⟩), (6, ⟨1, absEs (encI a.other.q.src)⟩), (7, ⟨1, absEs (encI a.other.q.tgt)⟩), (8, ⟨1, absEs (encI a.other.dims)⟩), (9, ⟨3, absEs (a.other.maps.map eM)⟩), (10, ⟨6, absEs (a.parts.map eR)⟩), (11, ⟨3, absEs (a.maps.map eM)⟩), (12, ⟨3, absEs (a.bars.map eB)⟩), (13, ⟨1, absEs (encI a.theta)⟩), (14, ⟨2, absEs (a.subs.map eS)⟩)]) (ns' := [15, 16, 17, 18, 19, 20, 21, 22, 23, 24, 25, 26, 27, 28, 29, 30, 31]) (h_toC a ba) rfl rfl rfl rfl (gA_C _) (va_cons (va_agg rfl) va_nil)) rfl rfl rfl ?_
  refine aops_eff (w_load_ptr TT_ok rfl rfl rfl rfl rfl rfl rfl) rfl rfl rfl ?_
  refine aops_eff (w_call0 (x := .agg [.int b.kind, .int b.rep.p, .int b.rep.q.n, .own 15 0 (encI b.rep.q.src).length, .own 16 0 (encI b.rep.q.tgt).length, .own 17 0 (encI b.rep.dims).length, .own 18 0 (b.rep.maps.map eM).length, .int b.other.p, .int b.other.q.n, .own 19 0 (encI b.other.q.src).length, .own 20 0 (encI b.other.q.tgt).length, .own 21 0 (encI b.other.dims).length, .own 22 0 (b.other.maps.map eM).length, .own 23 0 (b.parts.map eR).length, .own 24 0 (b.maps.map eM).length, .own 25 0 (b.bars.map eB).length, .own 26 0 (encI b.theta).length, .own 27 0 (b.subs.map eS).length]) (nb := [(15, ⟨1, absEs (encI b.rep.q.src)⟩), (16, ⟨1, absEs (encI b.rep.q.tgt)⟩), (17, ⟨1, absEs (encI b.rep.dims)⟩), (18, ⟨3, absEs (b.rep.maps.map eM)⟩), (19, ⟨1, absEs (encI b.other.q.src)⟩), (20, ⟨1, absEs (encI b.other.q.tgt)⟩), (21, ⟨1, absEs (encI b.other.dims)⟩), (22, ⟨3, absEs (b.other.maps.map eM)⟩), (23, ⟨6, absEs (b.parts.map eR)⟩), (24, ⟨3, absEs (b.maps.map eM)⟩), (25, ⟨3, absEs (b.bars.map eB)⟩), (26, ⟨1, absEs (encI b.theta)⟩), (27, ⟨2, absEs (b.subs.map eS)⟩)]) (ns' := [28, 29, 30, 31]) (h_toC b bb) rfl rfl rfl rfl (gA_C _) (va_cons (va_agg rfl) va_nil)) rfl rfl rfl ?_
  refine aops_eff (w_call0s (h_s_claim a b) rfl (va_cons (va_agg' (by repeat (first | exact v1_nil | refine v1_cons (v1_same rfl) ?_ | refine v1_cons (v1_imp rfl (by first | exact goodEs_I _ | exact goodEs_map good_M | exact goodEs_map good_L | exact goodEs_map good_R | exact goodEs_map good_B | exact goodEs_map good_S)) ?_))) (va_cons (va_agg' (by repeat (first | exact v1_nil | refine v1_cons (v1_same rfl) ?_ | refine v1_cons (v1_imp rfl (by first | exact goodEs_I _ | exact goodEs_map good_M | exact goodEs_map good_L | exact goodEs_map good_R | exact goodEs_map good_B | exact goodEs_map good_S)) ?_))) va_nil))) rfl rfl rfl ?_
  refine aops_eff (eff_assign rfl) rfl rfl rfl ?_
  refine aops_nil ?_
  refine ⟨by kernel_rfl, ?_⟩
  refine then_n ?_
  refine ac_ent (t := mkS [(2, .ptr 0 0 0), (3, .ptr 1 0 0), (4, .bl false), (6, .bl (decide (a = b)))] [(0, ⟨18, [eC a]⟩), (1, ⟨18, [eC b]⟩)] 2 [2, 3, 4, 5, 6, 7, 8, 9, 10, 11, 12, 13, 14, 15, 16, 17]) (ent_mk (σ := sg [(0, 0), (1, 1)]) ?_ ?_ rfl) ?_
  · exact ⟨⟨_, rfl, rfl, rfl, rfl, rfl⟩, ⟨_, rfl, rfl, rfl, rfl, rfl⟩, ⟨_, rfl, rfl⟩, ⟨_, rfl, rfl⟩, trivial⟩
  · exact ⟨⟨_, rfl, rfl, .inl ⟨rfl, plain_of rfl⟩⟩, rfl, ⟨⟨_, rfl, rfl, .inl ⟨rfl, plain_of rfl⟩⟩, rfl, trivial⟩⟩
  refine ac_seq ?_
  refine ac_region ?_
  refine aops_eff (w_load_ptr TT_ok rfl rfl rfl rfl rfl rfl rfl) rfl rfl rfl ?_
  refine aops_eff (w_call0 (x := .agg [.int a.kind, .int a.rep.p, .int a.rep.q.n, .own 2 0 (encI a.rep.q.src).length, .own 3 0 (encI a.rep.q.tgt).length, .own 4 0 (encI a.rep.dims).length, .own 5 0 (a.rep.maps.map eM).length, .int a.other.p, .int a.other.q.n, .own 6 0 (encI a.other.q.src).length, .own 7 0 (encI a.other.q.tgt).length, .own 8 0 (encI a.other.dims).length, .own 9 0 (a.other.maps.map eM).length, .own 10 0 (a.parts.map eR).length, .own 11 0 (a.maps.map eM).length, .own 12 0 (a.bars.map eB).length, .own 13 0 (encI a.theta).length, .own 14 0 (a.subs.map eS).length]) (nb := [(2, ⟨1, absEs (encI a.rep.q.src)⟩), (3, ⟨1, absEs (encI a.rep.q.tgt)⟩), (4, ⟨1, absEs (encI a.rep.dims)⟩), (5, ⟨3, absEs (a.rep.maps.map eM)⟩), (6, ⟨1, absEs (encI a.other.q.src)⟩), (7, ⟨1, absEs (encI a.other.q.tgt)⟩), (8, ⟨1, absEs (encI a.other.dims)⟩), (9, ⟨3, absEs (a.other.maps.map eM)⟩), (10, ⟨6, absEs (a.parts.map eR)⟩), (11, ⟨3, absEs (a.maps.map eM)⟩), (12, ⟨3, absEs (a.bars.map eB)⟩), (13, ⟨1, absEs (encI a.theta)⟩), (14, ⟨2, absEs (a.subs.map eS)⟩)]) (ns' := [15, 16, 17]) (h_toC a ba) rfl rfl rfl rfl (gA_C _) (va_cons (va_agg rfl) va_nil)) rfl rfl rfl ?_
  refine aops_eff (w_alloc TT_ok rfl rfl) rfl rfl rfl ?_
  refine aops_eff (w_store TT_ok rfl rfl rfl rfl rfl rfl rfl rfl) rfl rfl rfl ?_
  refine aops_nil ?_
  refine then_n ?_
  refine ac_ent (t := mkS [(2, .ptr 0 0 0), (3, .ptr 1 0 0), (4, .bl false), (6, .bl (decide (a = b))), (7, .ptr 15 0 0)] [(0, ⟨18, [eC a]⟩), (1, ⟨18, [eC b]⟩), (2, ⟨1, absEs (encI a.rep.q.src)⟩), (3, ⟨1, absEs (encI a.rep.q.tgt)⟩), (4, ⟨1, absEs (encI a.rep.dims)⟩), (5, ⟨3, absEs (a.rep.maps.map eM)⟩), (6, ⟨1, absEs (encI a.other.q.src)⟩), (7, ⟨1, absEs (encI a.other.q.tgt)⟩), (8, ⟨1, absEs (encI a.other.dims)⟩), (9, ⟨3, absEs (a.other.maps.map eM)⟩), (10, ⟨6, absEs (a.parts.map eR)⟩), (11, ⟨3, absEs (a.maps.map eM)⟩), (12, ⟨3, absEs (a.bars.map eB)⟩), (13, ⟨1, absEs (encI a.theta)⟩), (14, ⟨2, absEs (a.subs.map eS)⟩), (15, ⟨18, [[.int a.kind, .int a.rep.p, .int a.rep.q.n, .own 2 0 (encI a.rep.q.src).length, .own 3 0 (encI a.rep.q.tgt).length, .own 4 0 (encI a.rep.dims).length, .own 5 0 (a.rep.maps.map eM).length, .int a.other.p, .int a.other.q.n, .own 6 0 (encI a.other.q.src).length, .own 7 0 (encI a.other.q.tgt).length, .own 8 0 (encI a.other.dims).length, .own 9 0 (a.other.maps.map eM).length, .own 10 0 (a.parts.map eR).length, .own 11 0 (a.maps.map eM).length, .own 12 0 (a.bars.map eB).length, .own 13 0 (encI a.theta).length, .own 14 0 (a.subs.map eS).length]]⟩)] 16 [16, 17, 18, 19, 20, 21, 22, 23, 24, 25, 26, 27, 28, 29, 30, 31]) (ent_mk (σ := sg [(0, 0), (1, 1), (2, 2), (3, 3), (4, 4), (5, 5), (6, 6), (7, 7), (8, 8), (9, 9), (10, 10), (11, 11), (12, 12), (13, 13), (14, 14), (15, 15)]) ?_ ?_ rfl) ?_
  · exact ⟨⟨_, rfl, rfl, rfl, rfl, rfl⟩, ⟨_, rfl, rfl, rfl, rfl, rfl⟩, ⟨_, rfl, rfl⟩, ⟨_, rfl, rfl⟩, ⟨_, rfl, rfl, rfl, rfl, rfl⟩, trivial⟩
  · exact ⟨⟨_, rfl, rfl, .inl ⟨rfl, plain_of rfl⟩⟩, rfl, ⟨⟨_, rfl, rfl, .inl ⟨rfl, plain_of rfl⟩⟩, rfl, ⟨⟨_, rfl, rfl, .inl ⟨rfl, plain_abs (goodEs_I _)⟩⟩, rfl, ⟨⟨_, rfl, rfl, .inl ⟨rfl, plain_abs (goodEs_I _)⟩⟩, rfl, ⟨⟨_, rfl, rfl, .inl ⟨rfl, plain_abs (goodEs_I _)⟩⟩, rfl, ⟨⟨_, rfl, rfl, .inl ⟨rfl, plain_abs (goodEs_map good_M)⟩⟩, rfl, ⟨⟨_, rfl, rfl, .inl ⟨rfl, plain_abs (goodEs_I _)⟩⟩, rfl, ⟨⟨_, rfl, rfl, .inl ⟨rfl, plain_abs (goodEs_I _)⟩⟩, rfl, ⟨⟨_, rfl, rfl, .inl ⟨rfl, plain_abs (goodEs_I _)⟩⟩, rfl, ⟨⟨_, rfl, rfl, .inl ⟨rfl, plain_abs (goodEs_map good_M)⟩⟩, rfl, ⟨⟨_, rfl, rfl, .inl ⟨rfl, plain_abs (goodEs_map good_R)⟩⟩, rfl, ⟨⟨_, rfl, rfl, .inl ⟨rfl, plain_abs (goodEs_map good_M)⟩⟩, rfl, ⟨⟨_, rfl, rfl, .inl ⟨rfl, plain_abs (goodEs_map good_B)⟩⟩, rfl, ⟨⟨_, rfl, rfl, .inl ⟨rfl, plain_abs (goodEs_I _)⟩⟩, rfl, ⟨⟨_, rfl, rfl, .inl ⟨rfl, plain_abs (goodEs_map good_S)⟩⟩, rfl, ⟨⟨_, rfl, rfl, .inr ⟨_, _, rfl, ⟨_, _, rfl, rfl, _, _, rfl, rfl, _, _, rfl, rfl, _, _, rfl, ⟨rfl, rfl, rfl, rfl⟩, _, _, rfl, ⟨rfl, rfl, rfl, rfl⟩, _, _, rfl, ⟨rfl, rfl, rfl, rfl⟩, _, _, rfl, ⟨rfl, rfl, rfl, rfl⟩, _, _, rfl, rfl, _, _, rfl, rfl, _, _, rfl, ⟨rfl, rfl, rfl, rfl⟩, _, _, rfl, ⟨rfl, rfl, rfl, rfl⟩, _, _, rfl, ⟨rfl, rfl, rfl, rfl⟩, _, _, rfl, ⟨rfl, rfl, rfl, rfl⟩, _, _, rfl, ⟨rfl, rfl, rfl, rfl⟩, _, _, rfl, ⟨rfl, rfl, rfl, rfl⟩, _, _, rfl, ⟨rfl, rfl, rfl, rfl⟩, _, _, rfl, ⟨rfl, rfl, rfl, rfl⟩, _, _, rfl, ⟨rfl, rfl, rfl, rfl⟩, rfl⟩, rfl⟩⟩, rfl, trivial⟩⟩⟩⟩⟩⟩⟩⟩⟩⟩⟩⟩⟩⟩⟩⟩
  refine ac_seq ?_
  refine ac_region ?_
  refine aops_eff (w_load_ptr TT_ok rfl rfl rfl rfl rfl rfl rfl) rfl rfl rfl ?_
  refine aops_eff (w_call0 (x := .agg [.int b.kind, .int b.rep.p, .int b.rep.q.n, .own 16 0 (encI b.rep.q.src).length, .own 17 0 (encI b.rep.q.tgt).length, .own 18 0 (encI b.rep.dims).length, .own 19 0 (b.rep.maps.map eM).length, .int b.other.p, .int b.other.q.n, .own 20 0 (encI b.other.q.src).length, .own 21 0 (encI b.other.q.tgt).length, .own 22 0 (encI b.other.dims).length, .own 23 0 (b.other.maps.map eM).length, .own 24 0 (b.parts.map eR).length, .own 25 0 (b.maps.map eM).length, .own 26 0 (b.bars.map eB).length, .own 27 0 (encI b.theta).length, .own 28 0 (b.subs.map eS).length]) (nb := [(16, ⟨1, absEs (encI b.rep.q.src)⟩), (17, ⟨1, absEs (encI b.rep.q.tgt)⟩), (18, ⟨1, absEs (encI b.rep.dims)⟩), (19, ⟨3, absEs (b.rep.maps.map eM)⟩), (20, ⟨1, absEs (encI b.other.q.src)⟩), (21, ⟨1, absEs (encI b.other.q.tgt)⟩), (22, ⟨1, absEs (encI b.other.dims)⟩), (23, ⟨3, absEs (b.other.maps.map eM)⟩), (24, ⟨6, absEs (b.parts.map eR)⟩), (25, ⟨3, absEs (b.maps.map eM)⟩), (26, ⟨3, absEs (b.bars.map eB)⟩), (27, ⟨1, absEs (encI b.theta)⟩), (28, ⟨2, absEs (b.subs.map eS)⟩)]) (ns' := [29, 30, 31]) (h_toC b bb) rfl rfl rfl rfl (gA_C _) (va_cons (va_agg rfl) va_nil)) rfl rfl rfl ?_
  refine aops_eff (w_alloc TT_ok rfl rfl) rfl rfl rfl ?_
  refine aops_eff (w_store TT_ok rfl rfl rfl rfl rfl rfl rfl rfl) rfl rfl rfl ?_
  refine aops_nil ?_
  refine then_n ?_
  refine ac_ent (t := mkS [(2, .ptr 0 0 0), (3, .ptr 1 0 0), (4, .bl false), (6, .bl (decide (a = b))), (7, .ptr 15 0 0), (8, .ptr 29 0 0)] [(0, ⟨18, [eC a]⟩), (1, ⟨18, [eC b]⟩), (2, ⟨1, absEs (encI a.rep.q.src)⟩), (3, ⟨1, absEs (encI a.rep.q.tgt)⟩), (4, ⟨1, absEs (encI a.rep.dims)⟩), (5, ⟨3, absEs (a.rep.maps.map eM)⟩), (6, ⟨1, absEs (encI a.other.q.src)⟩), (7, ⟨1, absEs (encI a.other.q.tgt)⟩), (8, ⟨1, absEs (encI a.other.dims)⟩), (9, ⟨3, absEs (a.other.maps.map eM)⟩), (10, ⟨6, absEs (a.parts.map eR)⟩), (11, ⟨3, absEs (a.maps.map eM)⟩), (12, ⟨3, absEs (a.bars.map eB)⟩), (13, ⟨1, absEs (encI a.theta)⟩), (14, ⟨2, absEs (a.subs.map eS)⟩), (15, ⟨18, [[.int a.kind, .int a.rep.p, .int a.rep.q.n, .own 2 0 (encI a.rep.q.src).length, .own 3 0 (encI a.rep.q.tgt).length, .own 4 0 (encI a.rep.dims).length, .own 5 0 (a.rep.maps.map eM).length, .int a.other.p, .int a.other.q.n, .own 6 0 (encI a.other.q.src).length, .own 7 0 (encI a.other.q.tgt).length, .own 8 0 (encI a.other.dims).length, .own 9 0 (a.other.maps.map eM).length, .own 10 0 (a.parts.map eR).length, .own 11 0 (a.maps.map eM).length, .own 12 0 (a.bars.map eB).length, .own 13 0 (encI a.theta).length, .own 14 0 (a.subs.map eS).length]]⟩), (16, ⟨1, absEs (encI b.rep.q.src)⟩), (17, ⟨1, absEs (encI b.rep.q.tgt)⟩), (18, ⟨1, absEs (encI b.rep.dims)⟩), (19, ⟨3, absEs (b.rep.maps.map eM)⟩), (20, ⟨1, absEs (encI b.other.q.src)⟩), (21, ⟨1, absEs (encI b.other.q.tgt)⟩), (22, ⟨1, absEs (encI b.other.dims)⟩), (23, ⟨3, absEs (b.other.maps.map eM)⟩), (24, ⟨6, absEs (b.parts.map eR)⟩), (25, ⟨3, absEs (b.maps.map eM)⟩), (26, ⟨3, absEs (b.bars.map eB)⟩), (27, ⟨1, absEs (encI b.theta)⟩), (28, ⟨2, absEs (b.subs.map eS)⟩), (29, ⟨18, [[.int b.kind, .int b.rep.p, .int b.rep.q.n, .own 16 0 (encI b.rep.q.src).length, .own 17 0 (encI b.rep.q.tgt).length, .own 18 0 (encI b.rep.dims).length, .own 19 0 (b.rep.maps.map eM).length, .int b.other.p, .int b.other.q.n, .own 20 0 (encI b.other.q.src).length, .own 21 0 (encI b.other.q.tgt).length, .own 22 0 (encI b.other.dims).length, .own 23 0 (b.other.maps.map eM).length, .own 24 0 (b.parts.map eR).length, .own 25 0 (b.maps.map eM).length, .own 26 0 (b.bars.map eB).length, .own 27 0 (encI b.theta).length, .own 28 0 (b.subs.map eS).length]]⟩)] 30 [30, 31, 32, 33, 34, 35, 36, 37, 38, 39, 40, 41, 42, 43, 44]) (ent_mk (σ := sg [(0, 0), (1, 1), (2, 2), (3, 3), (4, 4), (5, 5), (6, 6), (7, 7), (8, 8), (9, 9), (10, 10), (11, 11), (12, 12), (13, 13), (14, 14), (15, 15), (16, 16), (17, 17), (18, 18), (19, 19), (20, 20), (21, 21), (22, 22), (23, 23), (24, 24), (25, 25), (26, 26), (27, 27), (28, 28), (29, 29)]) ?_ ?_ rfl) ?_
  · exact ⟨⟨_, rfl, rfl, rfl, rfl, rfl⟩, ⟨_, rfl, rfl, rfl, rfl, rfl⟩, ⟨_, rfl, rfl⟩, ⟨_, rfl, rfl⟩, ⟨_, rfl, rfl, rfl, rfl, rfl⟩, ⟨_, rfl, rfl, rfl, rfl, rfl⟩, trivial⟩
  · exact ⟨⟨_, rfl, rfl, .inl ⟨rfl, plain_of rfl⟩⟩, rfl, ⟨⟨_, rfl, rfl, .inl ⟨rfl, plain_of rfl⟩⟩, rfl, ⟨⟨_, rfl, rfl, .inl ⟨rfl, plain_abs (goodEs_I _)⟩⟩, rfl, ⟨⟨_, rfl, rfl, .inl ⟨rfl, plain_abs (goodEs_I _)⟩⟩, rfl, ⟨⟨_, rfl, rfl, .inl ⟨rfl, plain_abs (goodEs_I _)⟩⟩, rfl, ⟨⟨_, rfl, rfl, .inl ⟨rfl, plain_abs (goodEs_map good_M)⟩⟩, rfl, ⟨⟨_, rfl, rfl, .inl ⟨rfl, plain_abs (goodEs_I _)⟩⟩, rfl, ⟨⟨_, rfl, rfl, .inl ⟨rfl, plain_abs (goodEs_I _)⟩⟩, rfl, ⟨⟨_, rfl, rfl, .inl ⟨rfl, plain_abs (goodEs_I _)⟩⟩, rfl, ⟨⟨_, rfl, rfl, .inl ⟨rfl, plain_abs (goodEs_map good_M)⟩⟩, rfl, ⟨⟨_, rfl, rfl, .inl ⟨rfl, plain_abs (goodEs_map good_R)⟩⟩, rfl, ⟨⟨_, rfl, rfl, .inl ⟨rfl, plain_abs (goodEs_map good_M)⟩⟩, rfl, ⟨⟨_, rfl, rfl, .inl ⟨rfl, plain_abs (goodEs_map good_B)⟩⟩, rfl, ⟨⟨_, rfl, rfl, .inl ⟨rfl, plain_abs (goodEs_I _)⟩⟩, rfl, ⟨⟨_, rfl, rfl, .inl ⟨rfl, plain_abs (goodEs_map good_S)⟩⟩, rfl, ⟨⟨_, rfl, rfl, .inr ⟨_, _, rfl, ⟨_, _, rfl, rfl, _, _, rfl, rfl, _, _, rfl, rfl, _, _, rfl, ⟨rfl, rfl, rfl, rfl⟩, _, _, rfl, ⟨rfl, rfl, rfl, rfl⟩, _, _, rfl, ⟨rfl, rfl, rfl, rfl⟩, _, _, rfl, ⟨rfl, rfl, rfl, rfl⟩, _, _, rfl, rfl, _, _, rfl, rfl, _, _, rfl, ⟨rfl, rfl, rfl, rfl⟩, _, _, rfl, ⟨rfl, rfl, rfl, rfl⟩, _, _, rfl, ⟨rfl, rfl, rfl, rfl⟩, _, _, rfl, ⟨rfl, rfl, rfl, rfl⟩, _, _, rfl, ⟨rfl, rfl, rfl, rfl⟩, _, _, rfl, ⟨rfl, rfl, rfl, rfl⟩, _, _, rfl, ⟨rfl, rfl, rfl, rfl⟩, _, _, rfl, ⟨rfl, rfl, rfl, rfl⟩, _, _, rfl, ⟨rfl, rfl, rfl, rfl⟩, rfl⟩, rfl⟩⟩, rfl, ⟨⟨_, rfl, rfl, .inl ⟨rfl, plain_abs (goodEs_I _)⟩⟩, rfl, ⟨⟨_, rfl, rfl, .inl ⟨rfl, plain_abs (goodEs_I _)⟩⟩, rfl, ⟨⟨_, rfl, rfl, .inl ⟨rfl, plain_abs (goodEs_I _)⟩⟩, rfl, ⟨⟨_, rfl, rfl, .inl ⟨rfl, plain_abs (goodEs_map good_M)⟩⟩, rfl, ⟨⟨_, rfl, rfl, .inl ⟨rfl, plain_abs (goodEs_I _)⟩⟩, rfl, ⟨⟨_, rfl, rfl, .inl ⟨rfl, plain_abs (goodEs_I _)⟩⟩, rfl, ⟨⟨_, rfl, rfl, .inl ⟨rfl, plain_abs (goodEs_I _)⟩⟩, rfl, ⟨⟨_, rfl, rfl, .inl ⟨rfl, plain_abs (goodEs_map good_M)⟩⟩, rfl, ⟨⟨_, rfl, rfl, .inl ⟨rfl, plain_abs (goodEs_map good_R)⟩⟩, rfl, ⟨⟨_, rfl, rfl, .inl ⟨rfl, plain_abs (goodEs_map good_M)⟩⟩, rfl, ⟨⟨_, rfl, rfl, .inl ⟨rfl, plain_abs (goodEs_map good_B)⟩⟩, rfl, ⟨⟨_, rfl, rfl, .inl ⟨rfl, plain_abs (goodEs_I _)⟩⟩, rfl, ⟨⟨_, rfl, rfl, .inl ⟨rfl, plain_abs (goodEs_map good_S)⟩⟩, rfl, ⟨⟨_, rfl, rfl, .inr ⟨_, _, rfl, ⟨_, _, rfl, rfl, _, _, rfl, rfl, _, _, rfl, rfl, _, _, rfl, ⟨rfl, rfl, rfl, rfl⟩, _, _, rfl, ⟨rfl, rfl, rfl, rfl⟩, _, _, rfl, ⟨rfl, rfl, rfl, rfl⟩, _, _, rfl, ⟨rfl, rfl, rfl, rfl⟩, _, _, rfl, rfl, _, _, rfl, rfl, _, _, rfl, ⟨rfl, rfl, rfl, rfl⟩, _, _, rfl, ⟨rfl, rfl, rfl, rfl⟩, _, _, rfl, ⟨rfl, rfl, rfl, rfl⟩, _, _, rfl, ⟨rfl, rfl, rfl, rfl⟩, _, _, rfl, ⟨rfl, rfl, rfl, rfl⟩, _, _, rfl, ⟨rfl, rfl, rfl, rfl⟩, _, _, rfl, ⟨rfl, rfl, rfl, rfl⟩, _, _, rfl, ⟨rfl, rfl, rfl, rfl⟩, _, _, rfl, ⟨rfl, rfl, rfl, rfl⟩, rfl⟩, rfl⟩⟩, rfl, trivial⟩⟩⟩⟩⟩⟩⟩⟩⟩⟩⟩⟩⟩⟩⟩⟩⟩⟩⟩⟩⟩⟩⟩⟩⟩⟩⟩⟩⟩⟩
  refine ac_seq ?_
  refine ac_region ?_
  refine aops_eff (w_load_ptr TT_ok rfl rfl rfl rfl rfl rfl rfl) rfl rfl rfl ?_
  refine aops_eff (w_load_ptr TT_ok rfl rfl rfl rfl rfl rfl rfl) rfl rfl rfl ?_
  refine aops_eff (w_call0s (h_i_claim a b) rfl (va_cons (va_agg' (by repeat (first | exact v1_nil | refine v1_cons (v1_same rfl) ?_ | refine v1_cons (v1_imp rfl (by first | exact goodEs_I _ | exact goodEs_map good_M | exact goodEs_map good_L | exact goodEs_map good_R | exact goodEs_map good_B | exact goodEs_map good_S)) ?_))) (va_cons (va_agg' (by repeat (first | exact v1_nil | refine v1_cons (v1_same rfl) ?_ | refine v1_cons (v1_imp rfl (by first | exact goodEs_I _ | exact goodEs_map good_M | exact goodEs_map good_L | exact goodEs_map good_R | exact goodEs_map good_B | exact goodEs_map good_S)) ?_))) va_nil))) rfl rfl rfl ?_
  refine aops_eff (eff_assign rfl) rfl rfl rfl ?_
  refine aops_nil ?_
  refine then_n ?_
  repeat (first
    | refine aops_nil ?_
    | refine ac_seq ?_
    | refine ac_region ?_
    | refine then_n ?_
    | refine then_ret ?_
    | refine then_exit ?_
    | refine block_n ?_
    | refine block_ret ?_
    | refine block_here ?_
    | refine block_out rfl ?_
    | refine ac_region_draw MIX ?_
    | refine ac_block ?_
    | refine ac_skip ?_
    | refine ac_exit ?_
    | refine ac_ret ?_
    | refine aops_eff (eff_move rfl) rfl rfl rfl ?_
    | refine aops_eff (w_load_ptr TT_ok rfl rfl rfl rfl rfl rfl rfl) rfl rfl rfl ?_
    | refine aops_eff (w_field_ptr TT_ok rfl rfl rfl rfl rfl rfl rfl) rfl rfl rfl ?_
    | refine aops_eff (eff_assign rfl) rfl rfl rfl ?_
    | refine aops_eff (w_len_list TT_ok rfl rfl rfl) rfl rfl rfl ?_
    | refine aops_eff (w_load_ref TT_ok rfl rfl rfl rfl rfl rfl) rfl rfl rfl ?_
    | refine aops_eff (w_cmp rfl rfl rfl) rfl rfl rfl ?_
    | refine aops_eff (eff_indexAddr_list TT_ok rfl rfl rfl rfl rfl rfl (encI_at (by omega))) rfl rfl rfl ?_
    | refine aops_eff (eff_indexAddr_list TT_ok rfl rfl rfl rfl rfl rfl (map_at (at_lt (by omega)))) rfl rfl rfl ?_
    | refine aops_eff (w_add rfl rfl (by omega)) rfl rfl rfl ?_
    | refine aops_skip rfl rfl ?_
    | refine aops_eff (eff_pick rfl rfl) rfl rfl rfl ?_
    | refine aops_eff (w_field_ref TT_ok rfl rfl rfl rfl rfl rfl) rfl rfl rfl ?_
    | refine aops_eff (w_not rfl) rfl rfl rfl ?_
    | refine aops_eff (w_box rfl rfl rfl rfl) rfl rfl rfl ?_
    | refine aops_eff (w_alloc TT_ok rfl rfl) rfl rfl rfl ?_
    | refine aops_eff (w_store TT_ok rfl rfl rfl rfl rfl rfl rfl rfl) rfl rfl rfl ?_
    | refine aops_eff (w_len_own TT_ok rfl rfl rfl rfl) rfl rfl rfl ?_
    | refine aops_eff (w_len_nil TT_ok rfl rfl rfl) rfl rfl rfl ?_
    | refine aops_eff (eff_extract rfl rfl (by intro _ h; cases h)) rfl rfl rfl ?_
    | refine aops_eff (w_lit TT_ok rfl rfl rfl rfl rfl rfl rfl rfl rfl rfl rfl) rfl rfl rfl ?_
    | refine aops_eff (w_build TT_ok rfl rfl rfl rfl rfl rfl) rfl rfl rfl ?_)
  refine aops_eff (w_neqB Try.underlying4 rfl rfl) rfl rfl rfl ?_
  repeat (first
    | refine aops_nil ?_
    | refine ac_seq ?_
    | refine ac_region ?_
    | refine then_n ?_
    | refine then_ret ?_
    | refine then_exit ?_
    | refine block_n ?_
    | refine block_ret ?_
    | refine block_here ?_
    | refine block_out rfl ?_
    | refine ac_region_draw MIX ?_
    | refine ac_block ?_
    | refine ac_skip ?_
    | refine ac_exit ?_
    | refine ac_ret ?_
    | refine aops_eff (eff_move rfl) rfl rfl rfl ?_
    | refine aops_eff (w_load_ptr TT_ok rfl rfl rfl rfl rfl rfl rfl) rfl rfl rfl ?_
    | refine aops_eff (w_field_ptr TT_ok rfl rfl rfl rfl rfl rfl rfl) rfl rfl rfl ?_
    | refine aops_eff (eff_assign rfl) rfl rfl rfl ?_
    | refine aops_eff (w_len_list TT_ok rfl rfl rfl) rfl rfl rfl ?_
    | refine aops_eff (w_load_ref TT_ok rfl rfl rfl rfl rfl rfl) rfl rfl rfl ?_
    | refine aops_eff (w_cmp rfl rfl rfl) rfl rfl rfl ?_
    | refine aops_eff (eff_indexAddr_list TT_ok rfl rfl rfl rfl rfl rfl (encI_at (by omega))) rfl rfl rfl ?_
    | refine aops_eff (eff_indexAddr_list TT_ok rfl rfl rfl rfl rfl rfl (map_at (at_lt (by omega)))) rfl rfl rfl ?_
    | refine aops_eff (w_add rfl rfl (by omega)) rfl rfl rfl ?_
    | refine aops_skip rfl rfl ?_
    | refine aops_eff (eff_pick rfl rfl) rfl rfl rfl ?_
    | refine aops_eff (w_field_ref TT_ok rfl rfl rfl rfl rfl rfl) rfl rfl rfl ?_
    | refine aops_eff (w_not rfl) rfl rfl rfl ?_
    | refine aops_eff (w_box rfl rfl rfl rfl) rfl rfl rfl ?_
    | refine aops_eff (w_alloc TT_ok rfl rfl) rfl rfl rfl ?_
    | refine aops_eff (w_store TT_ok rfl rfl rfl rfl rfl rfl rfl rfl) rfl rfl rfl ?_
    | refine aops_eff (w_len_own TT_ok rfl rfl rfl rfl) rfl rfl rfl ?_
    | refine aops_eff (w_len_nil TT_ok rfl rfl rfl) rfl rfl rfl ?_
    | refine aops_eff (eff_extract rfl rfl (by intro _ h; cases h)) rfl rfl rfl ?_
    | refine aops_eff (w_lit TT_ok rfl rfl rfl rfl rfl rfl rfl rfl rfl rfl rfl) rfl rfl rfl ?_
    | refine aops_eff (w_build TT_ok rfl rfl rfl rfl rfl rfl) rfl rfl rfl ?_)
  refine ac_cond rfl (fun g => by simp at g) (fun _ => ?_)
  repeat (first | refine ac_skip ?_ | refine then_n ?_)
  refine ac_ent (t := mkS [(2, .ptr 0 0 0), (3, .ptr 1 0 0), (4, .bl false), (6, .bl (decide (a = b))), (7, .ptr 15 0 0), (8, .ptr 29 0 0)] [(0, ⟨18, [eC a]⟩), (1, ⟨18, [eC b]⟩), (2, ⟨1, absEs (encI a.rep.q.src)⟩), (3, ⟨1, absEs (encI a.rep.q.tgt)⟩), (4, ⟨1, absEs (encI a.rep.dims)⟩), (5, ⟨3, absEs (a.rep.maps.map eM)⟩), (6, ⟨1, absEs (encI a.other.q.src)⟩), (7, ⟨1, absEs (encI a.other.q.tgt)⟩), (8, ⟨1, absEs (encI a.other.dims)⟩), (9, ⟨3, absEs (a.other.maps.map eM)⟩), (10, ⟨6, absEs (a.parts.map eR)⟩), (11, ⟨3, absEs (a.maps.map eM)⟩), (12, ⟨3, absEs (a.bars.map eB)⟩), (13, ⟨1, absEs (encI a.theta)⟩), (14, ⟨2, absEs (a.subs.map eS)⟩), (15, ⟨18, [[.int a.kind, .int a.rep.p, .int a.rep.q.n, .own 2 0 (encI a.rep.q.src).length, .own 3 0 (encI a.rep.q.tgt).length, .own 4 0 (encI a.rep.dims).length, .own 5 0 (a.rep.maps.map eM).length, .int a.other.p, .int a.other.q.n, .own 6 0 (encI a.other.q.src).length, .own 7 0 (encI a.other.q.tgt).length, .own 8 0 (encI a.other.dims).length, .own 9 0 (a.other.maps.map eM).length, .own 10 0 (a.parts.map eR).length, .own 11 0 (a.maps.map eM).length, .own 12 0 (a.bars.map eB).length, .own 13 0 (encI a.theta).length, .own 14 0 (a.subs.map eS).length]]⟩), (16, ⟨1, absEs (encI b.rep.q.src)⟩), (17, ⟨1, absEs (encI b.rep.q.tgt)⟩), (18, ⟨1, absEs (encI b.rep.dims)⟩), (19, ⟨3, absEs (b.rep.maps.map eM)⟩), (20, ⟨1, absEs (encI b.other.q.src)⟩), (21, ⟨1, absEs (encI b.other.q.tgt)⟩), (22, ⟨1, absEs (encI b.other.dims)⟩), (23, ⟨3, absEs (b.other.maps.map eM)⟩), (24, ⟨6, absEs (b.parts.map eR)⟩), (25, ⟨3, absEs (b.maps.map eM)⟩), (26, ⟨3, absEs (b.bars.map eB)⟩), (27, ⟨1, absEs (encI b.theta)⟩), (28, ⟨2, absEs (b.subs.map eS)⟩), (29, ⟨18, [[.int b.kind, .int b.rep.p, .int b.rep.q.n, .own 16 0 (encI b.rep.q.src).length, .own 17 0 (encI b.rep.q.tgt).length, .own 18 0 (encI b.rep.dims).length, .own 19 0 (b.rep.maps.map eM).length, .int b.other.p, .int b.other.q.n, .own 20 0 (encI b.other.q.src).length, .own 21 0 (encI b.other.q.tgt).length, .own 22 0 (encI b.other.dims).length, .own 23 0 (b.other.maps.map eM).length, .own 24 0 (b.parts.map eR).length, .own 25 0 (b.maps.map eM).length, .own 26 0 (b.bars.map eB).length, .own 27 0 (encI b.theta).length, .own 28 0 (b.subs.map eS).length]]⟩)] 30 [30, 31, 32, 33, 34, 35, 36, 37, 38, 39, 40, 41, 42, 43, 44]) (ent_mk (σ := sg [(0, 0), (1, 1), (2, 2), (3, 3), (4, 4), (5, 5), (6, 6), (7, 7), (8, 8), (9, 9), (10, 10), (11, 11), (12, 12), (13, 13), (14, 14), (15, 15), (16, 16), (17, 17), (18, 18), (19, 19), (20, 20), (21, 21), (22, 22), (23, 23), (24, 24), (25, 25), (26, 26), (27, 27), (28, 28), (29, 29)]) ?_ ?_ rfl) ?_
  · exact ⟨⟨_, rfl, rfl, rfl, rfl, rfl⟩, ⟨_, rfl, rfl, rfl, rfl, rfl⟩, ⟨_, rfl, rfl⟩, ⟨_, rfl, rfl⟩, ⟨_, rfl, rfl, rfl, rfl, rfl⟩, ⟨_, rfl, rfl, rfl, rfl, rfl⟩, trivial⟩
  · exact ⟨⟨_, rfl, rfl, .inl ⟨rfl, plain_of rfl⟩⟩, rfl, ⟨⟨_, rfl, rfl, .inl ⟨rfl, plain_of rfl⟩⟩, rfl, ⟨⟨_, rfl, rfl, .inl ⟨rfl, plain_abs (goodEs_I _)⟩⟩, rfl, ⟨⟨_, rfl, rfl, .inl ⟨rfl, plain_abs (goodEs_I _)⟩⟩, rfl, ⟨⟨_, rfl, rfl, .inl ⟨rfl, plain_abs (goodEs_I _)⟩⟩, rfl, ⟨⟨_, rfl, rfl, .inl ⟨rfl, plain_abs (goodEs_map good_M)⟩⟩, rfl, ⟨⟨_, rfl, rfl, .inl ⟨rfl, plain_abs (goodEs_I _)⟩⟩, rfl, ⟨⟨_, rfl, rfl, .inl ⟨rfl, plain_abs (goodEs_I _)⟩⟩, rfl, ⟨⟨_, rfl, rfl, .inl ⟨rfl, plain_abs (goodEs_I _)⟩⟩, rfl, ⟨⟨_, rfl, rfl, .inl ⟨rfl, plain_abs (goodEs_map good_M)⟩⟩, rfl, ⟨⟨_, rfl, rfl, .inl ⟨rfl, plain_abs (goodEs_map good_R)⟩⟩, rfl, ⟨⟨_, rfl, rfl, .inl ⟨rfl, plain_abs (goodEs_map good_M)⟩⟩, rfl, ⟨⟨_, rfl, rfl, .inl ⟨rfl, plain_abs (goodEs_map good_B)⟩⟩, rfl, ⟨⟨_, rfl, rfl, .inl ⟨rfl, plain_abs (goodEs_I _)⟩⟩, rfl, ⟨⟨_, rfl, rfl, .inl ⟨rfl, plain_abs (goodEs_map good_S)⟩⟩, rfl, ⟨⟨_, rfl, rfl, .inr ⟨_, _, rfl, ⟨_, _, rfl, rfl, _, _, rfl, rfl, _, _, rfl, rfl, _, _, rfl, ⟨rfl, rfl, rfl, rfl⟩, _, _, rfl, ⟨rfl, rfl, rfl, rfl⟩, _, _, rfl, ⟨rfl, rfl, rfl, rfl⟩, _, _, rfl, ⟨rfl, rfl, rfl, rfl⟩, _, _, rfl, rfl, _, _, rfl, rfl, _, _, rfl, ⟨rfl, rfl, rfl, rfl⟩, _, _, rfl, ⟨rfl, rfl, rfl, rfl⟩, _, _, rfl, ⟨rfl, rfl, rfl, rfl⟩, _, _, rfl, ⟨rfl, rfl, rfl, rfl⟩, _, _, rfl, ⟨rfl, rfl, rfl, rfl⟩, _, _, rfl, ⟨rfl, rfl, rfl, rfl⟩, _, _, rfl, ⟨rfl, rfl, rfl, rfl⟩, _, _, rfl, ⟨rfl, rfl, rfl, rfl⟩, _, _, rfl, ⟨rfl, rfl, rfl, rfl⟩, rfl⟩, rfl⟩⟩, rfl, ⟨⟨_, rfl, rfl, .inl ⟨rfl, plain_abs (goodEs_I _)⟩⟩, rfl, ⟨⟨_, rfl, rfl, .inl ⟨rfl, plain_abs (goodEs_I _)⟩⟩, rfl, ⟨⟨_, rfl, rfl, .inl ⟨rfl, plain_abs (goodEs_I _)⟩⟩, rfl, ⟨⟨_, rfl, rfl, .inl ⟨rfl, plain_abs (goodEs_map good_M)⟩⟩, rfl, ⟨⟨_, rfl, rfl, .inl ⟨rfl, plain_abs (goodEs_I _)⟩⟩, rfl, ⟨⟨_, rfl, rfl, .inl ⟨rfl, plain_abs (goodEs_I _)⟩⟩, rfl, ⟨⟨_, rfl, rfl, .inl ⟨rfl, plain_abs (goodEs_I _)⟩⟩, rfl, ⟨⟨_, rfl, rfl, .inl ⟨rfl, plain_abs (goodEs_map good_M)⟩⟩, rfl, ⟨⟨_, rfl, rfl, .inl ⟨rfl, plain_abs (goodEs_map good_R)⟩⟩, rfl, ⟨⟨_, rfl, rfl, .inl ⟨rfl, plain_abs (goodEs_map good_M)⟩⟩, rfl, ⟨⟨_, rfl, rfl, .inl ⟨rfl, plain_abs (goodEs_map good_B)⟩⟩, rfl, ⟨⟨_, rfl, rfl, .inl ⟨rfl, plain_abs (goodEs_I _)⟩⟩, rfl, ⟨⟨_, rfl, rfl, .inl ⟨rfl, plain_abs (goodEs_map good_S)⟩⟩, rfl, ⟨⟨_, rfl, rfl, .inr ⟨_, _, rfl, ⟨_, _, rfl, rfl, _, _, rfl, rfl, _, _, rfl, rfl, _, _, rfl, ⟨rfl, rfl, rfl, rfl⟩, _, _, rfl, ⟨rfl, rfl, rfl, rfl⟩, _, _, rfl, ⟨rfl, rfl, rfl, rfl⟩, _, _, rfl, ⟨rfl, rfl, rfl, rfl⟩, _, _, rfl, rfl, _, _, rfl, rfl, _, _, rfl, ⟨rfl, rfl, rfl, rfl⟩, _, _, rfl, ⟨rfl, rfl, rfl, rfl⟩, _, _, rfl, ⟨rfl, rfl, rfl, rfl⟩, _, _, rfl, ⟨rfl, rfl, rfl, rfl⟩, _, _, rfl, ⟨rfl, rfl, rfl, rfl⟩, _, _, rfl, ⟨rfl, rfl, rfl, rfl⟩, _, _, rfl, ⟨rfl, rfl, rfl, rfl⟩, _, _, rfl, ⟨rfl, rfl, rfl, rfl⟩, _, _, rfl, ⟨rfl, rfl, rfl, rfl⟩, rfl⟩, rfl⟩⟩, rfl, trivial⟩⟩⟩⟩⟩⟩⟩⟩⟩⟩⟩⟩⟩⟩⟩⟩⟩⟩⟩⟩⟩⟩⟩⟩⟩⟩⟩⟩⟩⟩
  refine ac_seq ?_
  refine ac_seq ?_
  refine ac_region_draw MIX ?_
  refine aops_eff (w_load_ptr TT_ok rfl rfl rfl rfl rfl rfl rfl) rfl rfl rfl ?_
  refine aops_eff (w_load_ptr TT_ok rfl rfl rfl rfl rfl rfl rfl) rfl rfl rfl ?_
  refine aops_eff (w_call0 (x := .agg [.int a.kind, .int a.rep.p, .int a.rep.q.n, .own 30 0 (encI a.rep.q.src).length, .own 31 0 (encI a.rep.q.tgt).length, .own 32 0 (encI a.rep.dims).length, .own 33 0 (a.rep.maps.map eM).length, .int a.other.p, .int a.other.q.n, .own 34 0 (encI a.other.q.src).length, .own 35 0 (encI a.other.q.tgt).length, .own 36 0 (encI a.other.dims).length, .own 37 0 (a.other.maps.map eM).length, .own 38 0 (a.parts.map eR).length, .own 39 0 (a.maps.map eM).length, .own 40 0 (a.bars.map eB).length, .own 41 0 (encI a.theta).length, .own 42 0 (a.subs.map eS).length]) (nb := [(30, ⟨1, absEs (encI a.rep.q.src)⟩), (31, ⟨1, absEs (encI a.rep.q.tgt)⟩), (32, ⟨1, absEs (encI a.rep.dims)⟩), (33, ⟨3, absEs (a.rep.maps.map eM)⟩), (34, ⟨1, absEs (encI a.other.q.src)⟩), (35, ⟨1, absEs (encI a.other.q.tgt)⟩), (36, ⟨1, absEs (encI a.other.dims)⟩), (37, ⟨3, absEs (a.other.maps.map eM)⟩), (38, ⟨6, absEs (a.parts.map eR)⟩), (39, ⟨3, absEs (a.maps.map eM)⟩), (40, ⟨3, absEs (a.bars.map eB)⟩), (41, ⟨1, absEs (encI a.theta)⟩), (42, ⟨2, absEs (a.subs.map eS)⟩)]) (ns' := [43, 44]) (h_toC a ba) rfl rfl rfl rfl (gA_C _) (va_cons (va_agg rfl) va_nil)) rfl rfl rfl ?_
  refine aops_eff (w_call0s (h_l_claim a a) rfl (va_cons (va_agg' (by repeat (first | exact v1_nil | refine v1_cons (v1_same rfl) ?_ | refine v1_cons (v1_imp rfl (by first | exact goodEs_I _ | exact goodEs_map good_M | exact goodEs_map good_L | exact goodEs_map good_R | exact goodEs_map good_B | exact goodEs_map good_S)) ?_))) (va_cons (va_agg' (by repeat (first | exact v1_nil | refine v1_cons (v1_same rfl) ?_ | refine v1_cons (v1_imp rfl (by first | exact goodEs_I _ | exact goodEs_map good_M | exact goodEs_map good_L | exact goodEs_map good_R | exact goodEs_map good_B | exact goodEs_map good_S)) ?_))) va_nil))) rfl rfl rfl ?_
  refine aops_eff (w_not rfl) rfl rfl rfl ?_
  refine aops_nil ?_
  refine ⟨by kernel_rfl, ?_⟩
  refine then_n ?_
  refine ac_cond rfl (fun g => by simp at g) (fun _ => ?_)
  repeat (first | refine ac_skip ?_ | refine then_n ?_)
  refine ac_ent (t := mkS [(2, .ptr 0 0 0), (3, .ptr 1 0 0), (4, .bl false), (6, .bl (decide (a = b))), (7, .ptr 15 0 0), (8, .ptr 29 0 0)] [(0, ⟨18, [eC a]⟩), (1, ⟨18, [eC b]⟩), (2, ⟨1, absEs (encI a.rep.q.src)⟩), (3, ⟨1, absEs (encI a.rep.q.tgt)⟩), (4, ⟨1, absEs (encI a.rep.dims)⟩), (5, ⟨3, absEs (a.rep.maps.map eM)⟩), (6, ⟨1, absEs (encI a.other.q.src)⟩), (7, ⟨1, absEs (encI a.other.q.tgt)⟩), (8, ⟨1, absEs (encI a.other.dims)⟩), (9, ⟨3, absEs (a.other.maps.map eM)⟩), (10, ⟨6, absEs (a.parts.map eR)⟩), (11, ⟨3, absEs (a.maps.map eM)⟩), (12, ⟨3, absEs (a.bars.map eB)⟩), (13, ⟨1, absEs (encI a.theta)⟩), (14, ⟨2, absEs (a.subs.map eS)⟩), (15, ⟨18, [[.int a.kind, .int a.rep.p, .int a.rep.q.n, .own 2 0 (encI a.rep.q.src).length, .own 3 0 (encI a.rep.q.tgt).length, .own 4 0 (encI a.rep.dims).length, .own 5 0 (a.rep.maps.map eM).length, .int a.other.p, .int a.other.q.n, .own 6 0 (encI a.other.q.src).length, .own 7 0 (encI a.other.q.tgt).length, .own 8 0 (encI a.other.dims).length, .own 9 0 (a.other.maps.map eM).length, .own 10 0 (a.parts.map eR).length, .own 11 0 (a.maps.map eM).length, .own 12 0 (a.bars.map eB).length, .own 13 0 (encI a.theta).length, .own 14 0 (a.subs.map eS).length]]⟩), (16, ⟨1, absEs (encI b.rep.q.src)⟩), (17, ⟨1, absEs (encI b.rep.q.tgt)⟩), (18, ⟨1, absEs (encI b.rep.dims)⟩), (19, ⟨3, absEs (b.rep.maps.map eM)⟩), (20, ⟨1, absEs (encI b.other.q.src)⟩), (21, ⟨1, absEs (encI b.other.q.tgt)⟩), (22, ⟨1, absEs (encI b.other.dims)⟩), (23, ⟨3, absEs (b.other.maps.map eM)⟩), (24, ⟨6, absEs (b.parts.map eR)⟩), (25, ⟨3, absEs (b.maps.map eM)⟩), (26, ⟨3, absEs (b.bars.map eB)⟩), (27, ⟨1, absEs (encI b.theta)⟩), (28, ⟨2, absEs (b.subs.map eS)⟩), (29, ⟨18, [[.int b.kind, .int b.rep.p, .int b.rep.q.n, .own 16 0 (encI b.rep.q.src).length, .own 17 0 (encI b.rep.q.tgt).length, .own 18 0 (encI b.rep.dims).length, .own 19 0 (b.rep.maps.map eM).length, .int b.other.p, .int b.other.q.n, .own 20 0 (encI b.other.q.src).length, .own 21 0 (encI b.other.q.tgt).length, .own 22 0 (encI b.other.dims).length, .own 23 0 (b.other.maps.map eM).length, .own 24 0 (b.parts.map eR).length, .own 25 0 (b.maps.map eM).length, .own 26 0 (b.bars.map eB).length, .own 27 0 (encI b.theta).length, .own 28 0 (b.subs.map eS).length]]⟩)] 30 [30, 31, 32, 33, 34, 35, 36, 37, 38, 39, 40, 41, 42, 43, 44]) (ent_mk (σ := sg [(0, 0), (1, 1), (2, 2), (3, 3), (4, 4), (5, 5), (6, 6), (7, 7), (8, 8), (9, 9), (10, 10), (11, 11), (12, 12), (13, 13), (14, 14), (15, 15), (16, 16), (17, 17), (18, 18), (19, 19), (20, 20), (21, 21), (22, 22), (23, 23), (24, 24), (25, 25), (26, 26), (27, 27), (28, 28), (29, 29)]) ?_ ?_ rfl) ?_
  · exact ⟨⟨_, rfl, rfl, rfl, rfl, rfl⟩, ⟨_, rfl, rfl, rfl, rfl, rfl⟩, ⟨_, rfl, rfl⟩, ⟨_, rfl, rfl⟩, ⟨_, rfl, rfl, rfl, rfl, rfl⟩, ⟨_, rfl, rfl, rfl, rfl, rfl⟩, trivial⟩
  · exact ⟨⟨_, rfl, rfl, .inl ⟨rfl, plain_of rfl⟩⟩, rfl, ⟨⟨_, rfl, rfl, .inl ⟨rfl, plain_of rfl⟩⟩, rfl, ⟨⟨_, rfl, rfl, .inl ⟨rfl, plain_abs (goodEs_I _)⟩⟩, rfl, ⟨⟨_, rfl, rfl, .inl ⟨rfl, plain_abs (goodEs_I _)⟩⟩, rfl, ⟨⟨_, rfl, rfl, .inl ⟨rfl, plain_abs (goodEs_I _)⟩⟩, rfl, ⟨⟨_, rfl, rfl, .inl ⟨rfl, plain_abs (goodEs_map good_M)⟩⟩, rfl, ⟨⟨_, rfl, rfl, .inl ⟨rfl, plain_abs (goodEs_I _)⟩⟩, rfl, ⟨⟨_, rfl, rfl, .inl ⟨rfl, plain_abs (goodEs_I _)⟩⟩, rfl, ⟨⟨_, rfl, rfl, .inl ⟨rfl, plain_abs (goodEs_I _)⟩⟩, rfl, ⟨⟨_, rfl, rfl, .inl ⟨rfl, plain_abs (goodEs_map good_M)⟩⟩, rfl, ⟨⟨_, rfl, rfl, .inl ⟨rfl, plain_abs (goodEs_map good_R)⟩⟩, rfl, ⟨⟨_, rfl, rfl, .inl ⟨rfl, plain_abs (goodEs_map good_M)⟩⟩, rfl, ⟨⟨_, rfl, rfl, .inl ⟨rfl, plain_abs (goodEs_map good_B)⟩⟩, rfl, ⟨⟨_, rfl, rfl, .inl ⟨rfl, plain_abs (goodEs_I _)⟩⟩, rfl, ⟨⟨_, rfl, rfl, .inl ⟨rfl, plain_abs (goodEs_map good_S)⟩⟩, rfl, ⟨⟨_, rfl, rfl, .inr ⟨_, _, rfl, ⟨_, _, rfl, rfl, _, _, rfl, rfl, _, _, rfl, rfl, _, _, rfl, ⟨rfl, rfl, rfl, rfl⟩, _, _, rfl, ⟨rfl, rfl, rfl, rfl⟩, _, _, rfl, ⟨rfl, rfl, rfl, rfl⟩, _, _, rfl, ⟨rfl, rfl, rfl, rfl⟩, _, _, rfl, rfl, _, _, rfl, rfl, _, _, rfl, ⟨rfl, rfl, rfl, rfl⟩, _, _, rfl, ⟨rfl, rfl, rfl, rfl⟩, _, _, rfl, ⟨rfl, rfl, rfl, rfl⟩, _, _, rfl, ⟨rfl, rfl, rfl, rfl⟩, _, _, rfl, ⟨rfl, rfl, rfl, rfl⟩, _, _, rfl, ⟨rfl, rfl, rfl, rfl⟩, _, _, rfl, ⟨rfl, rfl, rfl, rfl⟩, _, _, rfl, ⟨rfl, rfl, rfl, rfl⟩, _, _, rfl, ⟨rfl, rfl, rfl, rfl⟩, rfl⟩, rfl⟩⟩, rfl, ⟨⟨_, rfl, rfl, .inl ⟨rfl, plain_abs (goodEs_I _)⟩⟩, rfl, ⟨⟨_, rfl, rfl, .inl ⟨rfl, plain_abs (goodEs_I _)⟩⟩, rfl, ⟨⟨_, rfl, rfl, .inl ⟨rfl, plain_abs (goodEs_I _)⟩⟩, rfl, ⟨⟨_, rfl, rfl, .inl ⟨rfl, plain_abs (goodEs_map good_M)⟩⟩, rfl, ⟨⟨_, rfl, rfl, .inl ⟨rfl, plain_abs (goodEs_I _)⟩⟩, rfl, ⟨⟨_, rfl, rfl, .inl ⟨rfl, plain_abs (goodEs_I _)⟩⟩, rfl, ⟨⟨_, rfl, rfl, .inl ⟨rfl, plain_abs (goodEs_I _)⟩⟩, rfl, ⟨⟨_, rfl, rfl, .inl ⟨rfl, plain_abs (goodEs_map good_M)⟩⟩, rfl, ⟨⟨_, rfl, rfl, .inl ⟨rfl, plain_abs (goodEs_map good_R)⟩⟩, rfl, ⟨⟨_, rfl, rfl, .inl ⟨rfl, plain_abs (goodEs_map good_M)⟩⟩, rfl, ⟨⟨_, rfl, rfl, .inl ⟨rfl, plain_abs (goodEs_map good_B)⟩⟩, rfl, ⟨⟨_, rfl, rfl, .inl ⟨rfl, plain_abs (goodEs_I _)⟩⟩, rfl, ⟨⟨_, rfl, rfl, .inl ⟨rfl, plain_abs (goodEs_map good_S)⟩⟩, rfl, ⟨⟨_, rfl, rfl, .inr ⟨_, _, rfl, ⟨_, _, rfl, rfl, _, _, rfl, rfl, _, _, rfl, rfl, _, _, rfl, ⟨rfl, rfl, rfl, rfl⟩, _, _, rfl, ⟨rfl, rfl, rfl, rfl⟩, _, _, rfl, ⟨rfl, rfl, rfl, rfl⟩, _, _, rfl, ⟨rfl, rfl, rfl, rfl⟩, _, _, rfl, rfl, _, _, rfl, rfl, _, _, rfl, ⟨rfl, rfl, rfl, rfl⟩, _, _, rfl, ⟨rfl, rfl, rfl, rfl⟩, _, _, rfl, ⟨rfl, rfl, rfl, rfl⟩, _, _, rfl, ⟨rfl, rfl, rfl, rfl⟩, _, _, rfl, ⟨rfl, rfl, rfl, rfl⟩, _, _, rfl, ⟨rfl, rfl, rfl, rfl⟩, _, _, rfl, ⟨rfl, rfl, rfl, rfl⟩, _, _, rfl, ⟨rfl, rfl, rfl, rfl⟩, _, _, rfl, ⟨rfl, rfl, rfl, rfl⟩, rfl⟩, rfl⟩⟩, rfl, trivial⟩⟩⟩⟩⟩⟩⟩⟩⟩⟩⟩⟩⟩⟩⟩⟩⟩⟩⟩⟩⟩⟩⟩⟩⟩⟩⟩⟩⟩⟩
  refine ac_seq ?_
  refine ac_seq ?_
  refine ac_region_draw MIX ?_
  refine aops_eff (w_load_ptr TT_ok rfl rfl rfl rfl rfl rfl rfl) rfl rfl rfl ?_
  refine aops_eff (w_load_ptr TT_ok rfl rfl rfl rfl rfl rfl rfl) rfl rfl rfl ?_
  refine aops_eff (w_call0 (x := .agg [.int b.kind, .int b.rep.p, .int b.rep.q.n, .own 30 0 (encI b.rep.q.src).length, .own 31 0 (encI b.rep.q.tgt).length, .own 32 0 (encI b.rep.dims).length, .own 33 0 (b.rep.maps.map eM).length, .int b.other.p, .int b.other.q.n, .own 34 0 (encI b.other.q.src).length, .own 35 0 (encI b.other.q.tgt).length, .own 36 0 (encI b.other.dims).length, .own 37 0 (b.other.maps.map eM).length, .own 38 0 (b.parts.map eR).length, .own 39 0 (b.maps.map eM).length, .own 40 0 (b.bars.map eB).length, .own 41 0 (encI b.theta).length, .own 42 0 (b.subs.map eS).length]) (nb := [(30, ⟨1, absEs (encI b.rep.q.src)⟩), (31, ⟨1, absEs (encI b.rep.q.tgt)⟩), (32, ⟨1, absEs (encI b.rep.dims)⟩), (33, ⟨3, absEs (b.rep.maps.map eM)⟩), (34, ⟨1, absEs (encI b.other.q.src)⟩), (35, ⟨1, absEs (encI b.other.q.tgt)⟩), (36, ⟨1, absEs (encI b.other.dims)⟩), (37, ⟨3, absEs (b.other.maps.map eM)⟩), (38, ⟨6, absEs (b.parts.map eR)⟩), (39, ⟨3, absEs (b.maps.map eM)⟩), (40, ⟨3, absEs (b.bars.map eB)⟩), (41, ⟨1, absEs (encI b.theta)⟩), (42, ⟨2, absEs (b.subs.map eS)⟩)]) (ns' := [43, 44]) (h_toC b bb) rfl rfl rfl rfl (gA_C _) (va_cons (va_agg rfl) va_nil)) rfl rfl rfl ?_
  refine aops_eff (w_call0s (h_l_claim b b) rfl (va_cons (va_agg' (by repeat (first | exact v1_nil | refine v1_cons (v1_same rfl) ?_ | refine v1_cons (v1_imp rfl (by first | exact goodEs_I _ | exact goodEs_map good_M | exact goodEs_map good_L | exact goodEs_map good_R | exact goodEs_map good_B | exact goodEs_map good_S)) ?_))) (va_cons (va_agg' (by repeat (first | exact v1_nil | refine v1_cons (v1_same rfl) ?_ | refine v1_cons (v1_imp rfl (by first | exact goodEs_I _ | exact goodEs_map good_M | exact goodEs_map good_L | exact goodEs_map good_R | exact goodEs_map good_B | exact goodEs_map good_S)) ?_))) va_nil))) rfl rfl rfl ?_
  refine aops_eff (w_not rfl) rfl rfl rfl ?_
  refine aops_nil ?_
  refine ⟨by kernel_rfl, ?_⟩
  refine then_n ?_
  refine ac_cond rfl (fun g => by simp at g) (fun _ => ?_)
  repeat (first | refine ac_skip ?_ | refine then_n ?_)
  refine ac_ent (t := mkS [(2, .ptr 0 0 0), (3, .ptr 1 0 0), (4, .bl false), (6, .bl (decide (a = b))), (7, .ptr 15 0 0), (8, .ptr 29 0 0)] [(0, ⟨18, [eC a]⟩), (1, ⟨18, [eC b]⟩), (2, ⟨1, absEs (encI a.rep.q.src)⟩), (3, ⟨1, absEs (encI a.rep.q.tgt)⟩), (4, ⟨1, absEs (encI a.rep.dims)⟩), (5, ⟨3, absEs (a.rep.maps.map eM)⟩), (6, ⟨1, absEs (encI a.other.q.src)⟩), (7, ⟨1, absEs (encI a.other.q.tgt)⟩), (8, ⟨1, absEs (encI a.other.dims)⟩), (9, ⟨3, absEs (a.other.maps.map eM)⟩), (10, ⟨6, absEs (a.parts.map eR)⟩), (11, ⟨3, absEs (a.maps.map eM)⟩), (12, ⟨3, absEs (a.bars.map eB)⟩), (13, ⟨1, absEs (encI a.theta)⟩), (14, ⟨2, absEs (a.subs.map eS)⟩), (15, ⟨18, [[.int a.kind, .int a.rep.p, .int a.rep.q.n, .own 2 0 (encI a.rep.q.src).length, .own 3 0 (encI a.rep.q.tgt).length, .own 4 0 (encI a.rep.dims).length, .own 5 0 (a.rep.maps.map eM).length, .int a.other.p, .int a.other.q.n, .own 6 0 (encI a.other.q.src).length, .own 7 0 (encI a.other.q.tgt).length, .own 8 0 (encI a.other.dims).length, .own 9 0 (a.other.maps.map eM).length, .own 10 0 (a.parts.map eR).length, .own 11 0 (a.maps.map eM).length, .own 12 0 (a.bars.map eB).length, .own 13 0 (encI a.theta).length, .own 14 0 (a.subs.map eS).length]]⟩), (16, ⟨1, absEs (encI b.rep.q.src)⟩), (17, ⟨1, absEs (encI b.rep.q.tgt)⟩), (18, ⟨1, absEs (encI b.rep.dims)⟩), (19, ⟨3, absEs (b.rep.maps.map eM)⟩), (20, ⟨1, absEs (encI b.other.q.src)⟩), (21, ⟨1, absEs (encI b.other.q.tgt)⟩), (22, ⟨1, absEs (encI b.other.dims)⟩), (23, ⟨3, absEs (b.other.maps.map eM)⟩), (24, ⟨6, absEs (b.parts.map eR)⟩), (25, ⟨3, absEs (b.maps.map eM)⟩), (26, ⟨3, absEs (b.bars.map eB)⟩), (27, ⟨1, absEs (encI b.theta)⟩), (28, ⟨2, absEs (b.subs.map eS)⟩), (29, ⟨18, [[.int b.kind, .int b.rep.p, .int b.rep.q.n, .own 16 0 (encI b.rep.q.src).length, .own 17 0 (encI b.rep.q.tgt).length, .own 18 0 (encI b.rep.dims).length, .own 19 0 (b.rep.maps.map eM).length, .int b.other.p, .int b.other.q.n, .own 20 0 (encI b.other.q.src).length, .own 21 0 (encI b.other.q.tgt).length, .own 22 0 (encI b.other.dims).length, .own 23 0 (b.other.maps.map eM).length, .own 24 0 (b.parts.map eR).length, .own 25 0 (b.maps.map eM).length, .own 26 0 (b.bars.map eB).length, .own 27 0 (encI b.theta).length, .own 28 0 (b.subs.map eS).length]]⟩)] 30 [30, 31, 32, 33, 34, 35, 36, 37, 38, 39, 40, 41, 42, 43, 44]) (ent_mk (σ := sg [(0, 0), (1, 1), (2, 2), (3, 3), (4, 4), (5, 5), (6, 6), (7, 7), (8, 8), (9, 9), (10, 10), (11, 11), (12, 12), (13, 13), (14, 14), (15, 15), (16, 16), (17, 17), (18, 18), (19, 19), (20, 20), (21, 21), (22, 22), (23, 23), (24, 24), (25, 25), (26, 26), (27, 27), (28, 28), (29, 29)]) ?_ ?_ rfl) ?_
  · exact ⟨⟨_, rfl, rfl, rfl, rfl, rfl⟩, ⟨_, rfl, rfl, rfl, rfl, rfl⟩, ⟨_, rfl, rfl⟩, ⟨_, rfl, rfl⟩, ⟨_, rfl, rfl, rfl, rfl, rfl⟩, ⟨_, rfl, rfl, rfl, rfl, rfl⟩, trivial⟩
  · exact ⟨⟨_, rfl, rfl, .inl ⟨rfl, plain_of rfl⟩⟩, rfl, ⟨⟨_, rfl, rfl, .inl ⟨rfl, plain_of rfl⟩⟩, rfl, ⟨⟨_, rfl, rfl, .inl ⟨rfl, plain_abs (goodEs_I _)⟩⟩, rfl, ⟨⟨_, rfl, rfl, .inl ⟨rfl, plain_abs (goodEs_I _)⟩⟩, rfl, ⟨⟨_, rfl, rfl, .inl ⟨rfl, plain_abs (goodEs_I _)⟩⟩, rfl, ⟨⟨_, rfl, rfl, .inl ⟨rfl, plain_abs (goodEs_map good_M)⟩⟩, rfl, ⟨⟨_, rfl, rfl, .inl ⟨rfl, plain_abs (goodEs_I _)⟩⟩, rfl, ⟨⟨_, rfl, rfl, .inl ⟨rfl, plain_abs (goodEs_I _)⟩⟩, rfl, ⟨⟨_, rfl, rfl, .inl ⟨rfl, plain_abs (goodEs_I _)⟩⟩, rfl, ⟨⟨_, rfl, rfl, .inl ⟨rfl, plain_abs (goodEs_map good_M)⟩⟩, rfl, ⟨⟨_, rfl, rfl, .inl ⟨rfl, plain_abs (goodEs_map good_R)⟩⟩, rfl, ⟨⟨_, rfl, rfl, .inl ⟨rfl, plain_abs (goodEs_map good_M)⟩⟩, rfl, ⟨⟨_, rfl, rfl, .inl ⟨rfl, plain_abs (goodEs_map good_B)⟩⟩, rfl, ⟨⟨_, rfl, rfl, .inl ⟨rfl, plain_abs (goodEs_I _)⟩⟩, rfl, ⟨⟨_, rfl, rfl, .inl ⟨rfl, plain_abs (goodEs_map good_S)⟩⟩, rfl, ⟨⟨_, rfl, rfl, .inr ⟨_, _, rfl, ⟨_, _, rfl, rfl, _, _, rfl, rfl, _, _, rfl, rfl, _, _, rfl, ⟨rfl, rfl, rfl, rfl⟩, _, _, rfl, ⟨rfl, rfl, rfl, rfl⟩, _, _, rfl, ⟨rfl, rfl, rfl, rfl⟩, _, _, rfl, ⟨rfl, rfl, rfl, rfl⟩, _, _, rfl, rfl, _, _, rfl, rfl, _, _, rfl, ⟨rfl, rfl, rfl, rfl⟩, _, _, rfl, ⟨rfl, rfl, rfl, rfl⟩, _, _, rfl, ⟨rfl, rfl, rfl, rfl⟩, _, _, rfl, ⟨rfl, rfl, rfl, rfl⟩, _, _, rfl, ⟨rfl, rfl, rfl, rfl⟩, _, _, rfl, ⟨rfl, rfl, rfl, rfl⟩, _, _, rfl, ⟨rfl, rfl, rfl, rfl⟩, _, _, rfl, ⟨rfl, rfl, rfl, rfl⟩, _, _, rfl, ⟨rfl, rfl, rfl, rfl⟩, rfl⟩, rfl⟩⟩, rfl, ⟨⟨_, rfl, rfl, .inl ⟨rfl, plain_abs (goodEs_I _)⟩⟩, rfl, ⟨⟨_, rfl, rfl, .inl ⟨rfl, plain_abs (goodEs_I _)⟩⟩, rfl, ⟨⟨_, rfl, rfl, .inl ⟨rfl, plain_abs (goodEs_I _)⟩⟩, rfl, ⟨⟨_, rfl, rfl, .inl ⟨rfl, plain_abs (goodEs_map good_M)⟩⟩, rfl, ⟨⟨_, rfl, rfl, .inl ⟨rfl, plain_abs (goodEs_I _)⟩⟩, rfl, ⟨⟨_, rfl, rfl, .inl ⟨rfl, plain_abs (goodEs_I _)⟩⟩, rfl, ⟨⟨_, rfl, rfl, .inl ⟨rfl, plain_abs (goodEs_I _)⟩⟩, rfl, ⟨⟨_, rfl, rfl, .inl ⟨rfl, plain_abs (goodEs_map good_M)⟩⟩, rfl, ⟨⟨_, rfl, rfl, .inl ⟨rfl, plain_abs (goodEs_map good_R)⟩⟩, rfl, ⟨⟨_, rfl, rfl, .inl ⟨rfl, plain_abs (goodEs_map good_M)⟩⟩, rfl, ⟨⟨_, rfl, rfl, .inl ⟨rfl, plain_abs (goodEs_map good_B)⟩⟩, rfl, ⟨⟨_, rfl, rfl, .inl ⟨rfl, plain_abs (goodEs_I _)⟩⟩, rfl, ⟨⟨_, rfl, rfl, .inl ⟨rfl, plain_abs (goodEs_map good_S)⟩⟩, rfl, ⟨⟨_, rfl, rfl, .inr ⟨_, _, rfl, ⟨_, _, rfl, rfl, _, _, rfl, rfl, _, _, rfl, rfl, _, _, rfl, ⟨rfl, rfl, rfl, rfl⟩, _, _, rfl, ⟨rfl, rfl, rfl, rfl⟩, _, _, rfl, ⟨rfl, rfl, rfl, rfl⟩, _, _, rfl, ⟨rfl, rfl, rfl, rfl⟩, _, _, rfl, rfl, _, _, rfl, rfl, _, _, rfl, ⟨rfl, rfl, rfl, rfl⟩, _, _, rfl, ⟨rfl, rfl, rfl, rfl⟩, _, _, rfl, ⟨rfl, rfl, rfl, rfl⟩, _, _, rfl, ⟨rfl, rfl, rfl, rfl⟩, _, _, rfl, ⟨rfl, rfl, rfl, rfl⟩, _, _, rfl, ⟨rfl, rfl, rfl, rfl⟩, _, _, rfl, ⟨rfl, rfl, rfl, rfl⟩, _, _, rfl, ⟨rfl, rfl, rfl, rfl⟩, _, _, rfl, ⟨rfl, rfl, rfl, rfl⟩, rfl⟩, rfl⟩⟩, rfl, trivial⟩⟩⟩⟩⟩⟩⟩⟩⟩⟩⟩⟩⟩⟩⟩⟩⟩⟩⟩⟩⟩⟩⟩⟩⟩⟩⟩⟩⟩⟩
  repeat (first
    | refine aops_nil ?_
    | refine ac_seq ?_
    | refine ac_region ?_
    | refine then_n ?_
    | refine then_ret ?_
    | refine then_exit ?_
    | refine block_n ?_
    | refine block_ret ?_
    | refine block_here ?_
    | refine block_out rfl ?_
    | refine ac_region_draw MIX ?_
    | refine ac_block ?_
    | refine ac_skip ?_
    | refine ac_exit ?_
    | refine ac_ret ?_
    | refine aops_eff (eff_move rfl) rfl rfl rfl ?_
    | refine aops_eff (w_load_ptr TT_ok rfl rfl rfl rfl rfl rfl rfl) rfl rfl rfl ?_
    | refine aops_eff (w_field_ptr TT_ok rfl rfl rfl rfl rfl rfl rfl) rfl rfl rfl ?_
    | refine aops_eff (eff_assign rfl) rfl rfl rfl ?_
    | refine aops_eff (w_len_list TT_ok rfl rfl rfl) rfl rfl rfl ?_
    | refine aops_eff (w_load_ref TT_ok rfl rfl rfl rfl rfl rfl) rfl rfl rfl ?_
    | refine aops_eff (w_cmp rfl rfl rfl) rfl rfl rfl ?_
    | refine aops_eff (eff_indexAddr_list TT_ok rfl rfl rfl rfl rfl rfl (encI_at (by omega))) rfl rfl rfl ?_
    | refine aops_eff (eff_indexAddr_list TT_ok rfl rfl rfl rfl rfl rfl (map_at (at_lt (by omega)))) rfl rfl rfl ?_
    | refine aops_eff (w_add rfl rfl (by omega)) rfl rfl rfl ?_
    | refine aops_skip rfl rfl ?_
    | refine aops_eff (eff_pick rfl rfl) rfl rfl rfl ?_
    | refine aops_eff (w_field_ref TT_ok rfl rfl rfl rfl rfl rfl) rfl rfl rfl ?_
    | refine aops_eff (w_not rfl) rfl rfl rfl ?_
    | refine aops_eff (w_box rfl rfl rfl rfl) rfl rfl rfl ?_
    | refine aops_eff (w_alloc TT_ok rfl rfl) rfl rfl rfl ?_
    | refine aops_eff (w_store TT_ok rfl rfl rfl rfl rfl rfl rfl rfl) rfl rfl rfl ?_
    | refine aops_eff (w_len_own TT_ok rfl rfl rfl rfl) rfl rfl rfl ?_
    | refine aops_eff (w_len_nil TT_ok rfl rfl rfl) rfl rfl rfl ?_
    | refine aops_eff (eff_extract rfl rfl (by intro _ h; cases h)) rfl rfl rfl ?_
    | refine aops_eff (w_lit TT_ok rfl rfl rfl rfl rfl rfl rfl rfl rfl rfl rfl) rfl rfl rfl ?_
    | refine aops_eff (w_build TT_ok rfl rfl rfl rfl rfl rfl) rfl rfl rfl ?_)
  refine ret_mk rfl rfl rfl ?_
  exact fz_bl rfl
end Go.Proofs.Ytpngpgbmkkjjgaa

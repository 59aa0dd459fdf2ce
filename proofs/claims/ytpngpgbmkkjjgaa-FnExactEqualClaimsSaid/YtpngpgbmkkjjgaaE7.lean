/-
  Contracts: the laws' copy of a claim.
-/
import Derived.Test.YtpngpgbmkkjjgaaE6
namespace Go.Proofs.Ytpngpgbmkkjjgaa
open Go.RowKit
set_option maxRecDepth 10000
set_option maxHeartbeats 8000000

theorem plain_abs {es : List (List AV)} (g : goodEs es) : plainEs (absEs es) := by
  intro cs hcs c hc
  obtain ⟨ds, hd, rfl⟩ := List.mem_map.1 hcs
  obtain ⟨d, hd2, rfl⟩ := List.mem_map.1 hc
  have h := (g ds hd d hd2).1
  cases d <;> simp only [plainD, Bool.false_eq_true] at h <;> rfl

theorem h_toC (a : Cl) (hb : bC a) : HasC Try.prog 25 [.agg (eC a)] (.agg (eC a)) := by
  refine hasC_mk TT_ok (ns := [0,1,2,3,4,5,6,7,8,9,10,11,12,13,14,15,16,17,18,19,20,21,22,23]) Try.func25 rfl rfl Try.ntmps25 rfl rfl rfl ?_
  refine ac_seq ?_
  refine ac_region ?_
  refine aops_eff (w_box rfl rfl rfl rfl) rfl rfl rfl ?_
  refine aops_eff (w_alloc TT_ok rfl rfl) rfl rfl rfl ?_
  refine aops_nil ?_
  refine then_n ?_
  refine ac_seq ?_
  refine ac_region ?_
  refine aops_eff (w_alloc TT_ok rfl rfl) rfl rfl rfl ?_
  refine aops_nil ?_
  refine then_n ?_
  refine ac_seq ?_
  refine ac_region ?_
  refine aops_eff (w_field_ptr TT_ok rfl rfl rfl rfl rfl rfl rfl) rfl rfl rfl ?_
  refine aops_eff (w_load_ptr TT_ok rfl rfl rfl rfl rfl rfl rfl) rfl rfl rfl ?_
  refine aops_eff (w_field_ptr TT_ok rfl rfl rfl rfl rfl rfl rfl) rfl rfl rfl ?_
  refine aops_eff (w_store TT_ok rfl rfl rfl rfl rfl rfl rfl rfl) rfl rfl rfl ?_
  refine aops_nil ?_
  refine then_n ?_
  refine ac_ent (t := mkS [(1, .ptr 0 0 0), (2, .ptr 1 0 0), (3, .ptr 2 0 0)] [(0, ⟨18, [eC a]⟩), (1, ⟨18, [[.int 0, .int 0, .int 0, .nil 1, .nil 1, .nil 1, .nil 3, .int 0, .int 0, .nil 1, .nil 1, .nil 1, .nil 3, .nil 6, .nil 3, .nil 3, .nil 1, .nil 2]]⟩), (2, ⟨18, [[.int a.kind, .int 0, .int 0, .nil 1, .nil 1, .nil 1, .nil 3, .int 0, .int 0, .nil 1, .nil 1, .nil 1, .nil 3, .nil 6, .nil 3, .nil 3, .nil 1, .nil 2]]⟩)] 3 [3, 4, 5, 6, 7, 8, 9, 10, 11, 12, 13, 14, 15, 16, 17, 18]) (ent_mk (σ := sg [(0, 0), (1, 1), (2, 2)]) ?_ ?_ rfl) ?_
  · exact ⟨⟨_, rfl, rfl, rfl, rfl, rfl⟩, ⟨_, rfl, rfl, rfl, rfl, rfl⟩, ⟨_, rfl, rfl, rfl, rfl, rfl⟩, trivial⟩
  · exact ⟨⟨_, rfl, rfl, .inl ⟨rfl, plain_of rfl⟩⟩, rfl, ⟨⟨_, rfl, rfl, .inl ⟨rfl, plain_of rfl⟩⟩, rfl, ⟨⟨_, rfl, rfl, .inr ⟨_, _, rfl, ⟨_, _, rfl, rfl, _, _, rfl, rfl, _, _, rfl, rfl, _, _, rfl, trivial, _, _, rfl, trivial, _, _, rfl, trivial, _, _, rfl, trivial, _, _, rfl, rfl, _, _, rfl, rfl, _, _, rfl, trivial, _, _, rfl, trivial, _, _, rfl, trivial, _, _, rfl, trivial, _, _, rfl, trivial, _, _, rfl, trivial, _, _, rfl, trivial, _, _, rfl, trivial, _, _, rfl, trivial, rfl⟩, rfl⟩⟩, rfl, trivial⟩⟩⟩
  refine ac_seq ?_
  refine ac_region ?_
  refine aops_eff (w_field_ptr TT_ok rfl rfl rfl rfl rfl rfl rfl) rfl rfl rfl ?_
  refine aops_eff (w_load_ptr TT_ok rfl rfl rfl rfl rfl rfl rfl) rfl rfl rfl ?_
  refine aops_eff (w_call0 (h_toR a.rep hb.1) rfl rfl rfl rfl (gA_R _) (va_cons (va_agg rfl) va_nil)) rfl rfl rfl ?_
  refine aops_eff (w_field_ptr TT_ok rfl rfl rfl rfl rfl rfl rfl) rfl rfl rfl ?_
  refine aops_eff (w_store TT_ok rfl rfl rfl rfl rfl rfl rfl rfl) rfl rfl rfl ?_
  refine aops_nil ?_
  refine then_n ?_
  refine ac_ent (t := mkS [(1, .ptr 0 0 0), (2, .ptr 1 0 0), (3, .ptr 2 0 0)] [(0, ⟨18, [eC a]⟩), (1, ⟨18, [[.int 0, .int 0, .int 0, .nil 1, .nil 1, .nil 1, .nil 3, .int 0, .int 0, .nil 1, .nil 1, .nil 1, .nil 3, .nil 6, .nil 3, .nil 3, .nil 1, .nil 2]]⟩), (2, ⟨18, [[.int a.kind, .int a.rep.p, .int a.rep.q.n, .own 3 0 (encI a.rep.q.src).length, .own 4 0 (encI a.rep.q.tgt).length, .own 5 0 (encI a.rep.dims).length, .own 6 0 (a.rep.maps.map eM).length, .int 0, .int 0, .nil 1, .nil 1, .nil 1, .nil 3, .nil 6, .nil 3, .nil 3, .nil 1, .nil 2]]⟩), (3, ⟨1, absEs (encI a.rep.q.src)⟩), (4, ⟨1, absEs (encI a.rep.q.tgt)⟩), (5, ⟨1, absEs (encI a.rep.dims)⟩), (6, ⟨3, absEs (a.rep.maps.map eM)⟩)] 7 [7, 8, 9, 10, 11, 12, 13, 14, 15, 16, 17, 18, 19, 20, 21, 22]) (ent_mk (σ := sg [(0, 0), (1, 1), (2, 2), (3, 3), (4, 4), (5, 5), (6, 6)]) ?_ ?_ rfl) ?_
  · exact ⟨⟨_, rfl, rfl, rfl, rfl, rfl⟩, ⟨_, rfl, rfl, rfl, rfl, rfl⟩, ⟨_, rfl, rfl, rfl, rfl, rfl⟩, trivial⟩
  · exact ⟨⟨_, rfl, rfl, .inl ⟨rfl, plain_of rfl⟩⟩, rfl, ⟨⟨_, rfl, rfl, .inl ⟨rfl, plain_of rfl⟩⟩, rfl, ⟨⟨_, rfl, rfl, .inr ⟨_, _, rfl, ⟨_, _, rfl, rfl, _, _, rfl, rfl, _, _, rfl, rfl, _, _, rfl, ⟨rfl, rfl, rfl, rfl⟩, _, _, rfl, ⟨rfl, rfl, rfl, rfl⟩, _, _, rfl, ⟨rfl, rfl, rfl, rfl⟩, _, _, rfl, ⟨rfl, rfl, rfl, rfl⟩, _, _, rfl, rfl, _, _, rfl, rfl, _, _, rfl, trivial, _, _, rfl, trivial, _, _, rfl, trivial, _, _, rfl, trivial, _, _, rfl, trivial, _, _, rfl, trivial, _, _, rfl, trivial, _, _, rfl, trivial, _, _, rfl, trivial, rfl⟩, rfl⟩⟩, rfl, ⟨⟨_, rfl, rfl, .inl ⟨rfl, plain_abs (goodEs_I _)⟩⟩, rfl, ⟨⟨_, rfl, rfl, .inl ⟨rfl, plain_abs (goodEs_I _)⟩⟩, rfl, ⟨⟨_, rfl, rfl, .inl ⟨rfl, plain_abs (goodEs_I _)⟩⟩, rfl, ⟨⟨_, rfl, rfl, .inl ⟨rfl, plain_abs (goodEs_map good_M)⟩⟩, rfl, trivial⟩⟩⟩⟩⟩⟩⟩
  refine ac_seq ?_
  refine ac_region ?_
  refine aops_eff (w_field_ptr TT_ok rfl rfl rfl rfl rfl rfl rfl) rfl rfl rfl ?_
  refine aops_eff (w_load_ptr TT_ok rfl rfl rfl rfl rfl rfl rfl) rfl rfl rfl ?_
  refine aops_eff (w_call0 (h_toR a.other hb.2.1) rfl rfl rfl rfl (gA_R _) (va_cons (va_agg rfl) va_nil)) rfl rfl rfl ?_
  refine aops_eff (w_field_ptr TT_ok rfl rfl rfl rfl rfl rfl rfl) rfl rfl rfl ?_
  refine aops_eff (w_store TT_ok rfl rfl rfl rfl rfl rfl rfl rfl) rfl rfl rfl ?_
  refine aops_nil ?_
  refine then_n ?_
  refine ac_ent (t := mkS [(1, .ptr 0 0 0), (2, .ptr 1 0 0), (3, .ptr 2 0 0)] [(0, ⟨18, [eC a]⟩), (1, ⟨18, [[.int 0, .int 0, .int 0, .nil 1, .nil 1, .nil 1, .nil 3, .int 0, .int 0, .nil 1, .nil 1, .nil 1, .nil 3, .nil 6, .nil 3, .nil 3, .nil 1, .nil 2]]⟩), (2, ⟨18, [[.int a.kind, .int a.rep.p, .int a.rep.q.n, .own 3 0 (encI a.rep.q.src).length, .own 4 0 (encI a.rep.q.tgt).length, .own 5 0 (encI a.rep.dims).length, .own 6 0 (a.rep.maps.map eM).length, .int a.other.p, .int a.other.q.n, .own 7 0 (encI a.other.q.src).length, .own 8 0 (encI a.other.q.tgt).length, .own 9 0 (encI a.other.dims).length, .own 10 0 (a.other.maps.map eM).length, .nil 6, .nil 3, .nil 3, .nil 1, .nil 2]]⟩), (3, ⟨1, absEs (encI a.rep.q.src)⟩), (4, ⟨1, absEs (encI a.rep.q.tgt)⟩), (5, ⟨1, absEs (encI a.rep.dims)⟩), (6, ⟨3, absEs (a.rep.maps.map eM)⟩), (7, ⟨1, absEs (encI a.other.q.src)⟩), (8, ⟨1, absEs (encI a.other.q.tgt)⟩), (9, ⟨1, absEs (encI a.other.dims)⟩), (10, ⟨3, absEs (a.other.maps.map eM)⟩)] 11 [11, 12, 13, 14, 15, 16, 17, 18, 19, 20, 21, 22, 23, 24, 25, 26]) (ent_mk (σ := sg [(0, 0), (1, 1), (2, 2), (3, 3), (4, 4), (5, 5), (6, 6), (7, 7), (8, 8), (9, 9), (10, 10)]) ?_ ?_ rfl) ?_
  · exact ⟨⟨_, rfl, rfl, rfl, rfl, rfl⟩, ⟨_, rfl, rfl, rfl, rfl, rfl⟩, ⟨_, rfl, rfl, rfl, rfl, rfl⟩, trivial⟩
  · exact ⟨⟨_, rfl, rfl, .inl ⟨rfl, plain_of rfl⟩⟩, rfl, ⟨⟨_, rfl, rfl, .inl ⟨rfl, plain_of rfl⟩⟩, rfl, ⟨⟨_, rfl, rfl, .inr ⟨_, _, rfl, ⟨_, _, rfl, rfl, _, _, rfl, rfl, _, _, rfl, rfl, _, _, rfl, ⟨rfl, rfl, rfl, rfl⟩, _, _, rfl, ⟨rfl, rfl, rfl, rfl⟩, _, _, rfl, ⟨rfl, rfl, rfl, rfl⟩, _, _, rfl, ⟨rfl, rfl, rfl, rfl⟩, _, _, rfl, rfl, _, _, rfl, rfl, _, _, rfl, ⟨rfl, rfl, rfl, rfl⟩, _, _, rfl, ⟨rfl, rfl, rfl, rfl⟩, _, _, rfl, ⟨rfl, rfl, rfl, rfl⟩, _, _, rfl, ⟨rfl, rfl, rfl, rfl⟩, _, _, rfl, trivial, _, _, rfl, trivial, _, _, rfl, trivial, _, _, rfl, trivial, _, _, rfl, trivial, rfl⟩, rfl⟩⟩, rfl, ⟨⟨_, rfl, rfl, .inl ⟨rfl, plain_abs (goodEs_I _)⟩⟩, rfl, ⟨⟨_, rfl, rfl, .inl ⟨rfl, plain_abs (goodEs_I _)⟩⟩, rfl, ⟨⟨_, rfl, rfl, .inl ⟨rfl, plain_abs (goodEs_I _)⟩⟩, rfl, ⟨⟨_, rfl, rfl, .inl ⟨rfl, plain_abs (goodEs_map good_M)⟩⟩, rfl, ⟨⟨_, rfl, rfl, .inl ⟨rfl, plain_abs (goodEs_I _)⟩⟩, rfl, ⟨⟨_, rfl, rfl, .inl ⟨rfl, plain_abs (goodEs_I _)⟩⟩, rfl, ⟨⟨_, rfl, rfl, .inl ⟨rfl, plain_abs (goodEs_I _)⟩⟩, rfl, ⟨⟨_, rfl, rfl, .inl ⟨rfl, plain_abs (goodEs_map good_M)⟩⟩, rfl, trivial⟩⟩⟩⟩⟩⟩⟩⟩⟩⟩⟩
  refine ac_seq ?_
  refine ac_region ?_
  refine aops_eff (w_field_ptr TT_ok rfl rfl rfl rfl rfl rfl rfl) rfl rfl rfl ?_
  refine aops_eff (w_load_ptr TT_ok rfl rfl rfl rfl rfl rfl rfl) rfl rfl rfl ?_
  refine aops_eff (w_call0 (h_toRs a.parts hb.2.2.1.1 hb.2.2.1.2) rfl rfl rfl rfl (goodEs_map good_R) (va_cons (va_same rfl) va_nil)) rfl rfl rfl ?_
  refine aops_eff (w_field_ptr TT_ok rfl rfl rfl rfl rfl rfl rfl) rfl rfl rfl ?_
  refine aops_eff (w_store TT_ok rfl rfl rfl rfl rfl rfl rfl rfl) rfl rfl rfl ?_
  refine aops_nil ?_
  refine then_n ?_
  refine ac_ent (t := mkS [(1, .ptr 0 0 0), (2, .ptr 1 0 0), (3, .ptr 2 0 0)] [(0, ⟨18, [eC a]⟩), (1, ⟨18, [[.int 0, .int 0, .int 0, .nil 1, .nil 1, .nil 1, .nil 3, .int 0, .int 0, .nil 1, .nil 1, .nil 1, .nil 3, .nil 6, .nil 3, .nil 3, .nil 1, .nil 2]]⟩), (2, ⟨18, [[.int a.kind, .int a.rep.p, .int a.rep.q.n, .own 3 0 (encI a.rep.q.src).length, .own 4 0 (encI a.rep.q.tgt).length, .own 5 0 (encI a.rep.dims).length, .own 6 0 (a.rep.maps.map eM).length, .int a.other.p, .int a.other.q.n, .own 7 0 (encI a.other.q.src).length, .own 8 0 (encI a.other.q.tgt).length, .own 9 0 (encI a.other.dims).length, .own 10 0 (a.other.maps.map eM).length, .own 11 0 (a.parts.map eR).length, .nil 3, .nil 3, .nil 1, .nil 2]]⟩), (3, ⟨1, absEs (encI a.rep.q.src)⟩), (4, ⟨1, absEs (encI a.rep.q.tgt)⟩), (5, ⟨1, absEs (encI a.rep.dims)⟩), (6, ⟨3, absEs (a.rep.maps.map eM)⟩), (7, ⟨1, absEs (encI a.other.q.src)⟩), (8, ⟨1, absEs (encI a.other.q.tgt)⟩), (9, ⟨1, absEs (encI a.other.dims)⟩), (10, ⟨3, absEs (a.other.maps.map eM)⟩), (11, ⟨6, absEs (a.parts.map eR)⟩)] 12 [12, 13, 14, 15, 16, 17, 18, 19, 20, 21, 22, 23, 24, 25, 26, 27]) (ent_mk (σ := sg [(0, 0), (1, 1), (2, 2), (3, 3), (4, 4), (5, 5), (6, 6), (7, 7), (8, 8), (9, 9), (10, 10), (11, 11)]) ?_ ?_ rfl) ?_
  · exact ⟨⟨_, rfl, rfl, rfl, rfl, rfl⟩, ⟨_, rfl, rfl, rfl, rfl, rfl⟩, ⟨_, rfl, rfl, rfl, rfl, rfl⟩, trivial⟩
  · exact ⟨⟨_, rfl, rfl, .inl ⟨rfl, plain_of rfl⟩⟩, rfl, ⟨⟨_, rfl, rfl, .inl ⟨rfl, plain_of rfl⟩⟩, rfl, ⟨⟨_, rfl, rfl, .inr ⟨_, _, rfl, ⟨_, _, rfl, rfl, _, _, rfl, rfl, _, _, rfl, rfl, _, _, rfl, ⟨rfl, rfl, rfl, rfl⟩, _, _, rfl, ⟨rfl, rfl, rfl, rfl⟩, _, _, rfl, ⟨rfl, rfl, rfl, rfl⟩, _, _, rfl, ⟨rfl, rfl, rfl, rfl⟩, _, _, rfl, rfl, _, _, rfl, rfl, _, _, rfl, ⟨rfl, rfl, rfl, rfl⟩, _, _, rfl, ⟨rfl, rfl, rfl, rfl⟩, _, _, rfl, ⟨rfl, rfl, rfl, rfl⟩, _, _, rfl, ⟨rfl, rfl, rfl, rfl⟩, _, _, rfl, ⟨rfl, rfl, rfl, rfl⟩, _, _, rfl, trivial, _, _, rfl, trivial, _, _, rfl, trivial, _, _, rfl, trivial, rfl⟩, rfl⟩⟩, rfl, ⟨⟨_, rfl, rfl, .inl ⟨rfl, plain_abs (goodEs_I _)⟩⟩, rfl, ⟨⟨_, rfl, rfl, .inl ⟨rfl, plain_abs (goodEs_I _)⟩⟩, rfl, ⟨⟨_, rfl, rfl, .inl ⟨rfl, plain_abs (goodEs_I _)⟩⟩, rfl, ⟨⟨_, rfl, rfl, .inl ⟨rfl, plain_abs (goodEs_map good_M)⟩⟩, rfl, ⟨⟨_, rfl, rfl, .inl ⟨rfl, plain_abs (goodEs_I _)⟩⟩, rfl, ⟨⟨_, rfl, rfl, .inl ⟨rfl, plain_abs (goodEs_I _)⟩⟩, rfl, ⟨⟨_, rfl, rfl, .inl ⟨rfl, plain_abs (goodEs_I _)⟩⟩, rfl, ⟨⟨_, rfl, rfl, .inl ⟨rfl, plain_abs (goodEs_map good_M)⟩⟩, rfl, ⟨⟨_, rfl, rfl, .inl ⟨rfl, plain_abs (goodEs_map good_R)⟩⟩, rfl, trivial⟩⟩⟩⟩⟩⟩⟩⟩⟩⟩⟩⟩
  refine ac_seq ?_
  refine ac_region ?_
  refine aops_eff (w_field_ptr TT_ok rfl rfl rfl rfl rfl rfl rfl) rfl rfl rfl ?_
  refine aops_eff (w_load_ptr TT_ok rfl rfl rfl rfl rfl rfl rfl) rfl rfl rfl ?_
  refine aops_eff (w_call0 (h_toMs a.maps hb.2.2.2.1.1 hb.2.2.2.1.2) rfl rfl rfl rfl (goodEs_map good_M) (va_cons (va_same rfl) va_nil)) rfl rfl rfl ?_
  refine aops_eff (w_field_ptr TT_ok rfl rfl rfl rfl rfl rfl rfl) rfl rfl rfl ?_
  refine aops_eff (w_store TT_ok rfl rfl rfl rfl rfl rfl rfl rfl) rfl rfl rfl ?_
  refine aops_nil ?_
  refine then_n ?_
  refine ac_ent (t := mkS [(1, .ptr 0 0 0), (2, .ptr 1 0 0), (3, .ptr 2 0 0)] [(0, ⟨18, [eC a]⟩), (1, ⟨18, [[.int 0, .int 0, .int 0, .nil 1, .nil 1, .nil 1, .nil 3, .int 0, .int 0, .nil 1, .nil 1, .nil 1, .nil 3, .nil 6, .nil 3, .nil 3, .nil 1, .nil 2]]⟩), (2, ⟨18, [[.int a.kind, .int a.rep.p, .int a.rep.q.n, .own 3 0 (encI a.rep.q.src).length, .own 4 0 (encI a.rep.q.tgt).length, .own 5 0 (encI a.rep.dims).length, .own 6 0 (a.rep.maps.map eM).length, .int a.other.p, .int a.other.q.n, .own 7 0 (encI a.other.q.src).length, .own 8 0 (encI a.other.q.tgt).length, .own 9 0 (encI a.other.dims).length, .own 10 0 (a.other.maps.map eM).length, .own 11 0 (a.parts.map eR).length, .own 12 0 (a.maps.map eM).length, .nil 3, .nil 1, .nil 2]]⟩), (3, ⟨1, absEs (encI a.rep.q.src)⟩), (4, ⟨1, absEs (encI a.rep.q.tgt)⟩), (5, ⟨1, absEs (encI a.rep.dims)⟩), (6, ⟨3, absEs (a.rep.maps.map eM)⟩), (7, ⟨1, absEs (encI a.other.q.src)⟩), (8, ⟨1, absEs (encI a.other.q.tgt)⟩), (9, ⟨1, absEs (encI a.other.dims)⟩), (10, ⟨3, absEs (a.other.maps.map eM)⟩), (11, ⟨6, absEs (a.parts.map eR)⟩), (12, ⟨3, absEs (a.maps.map eM)⟩)] 13 [13, 14, 15, 16, 17, 18, 19, 20, 21, 22, 23, 24, 25, 26, 27, 28]) (ent_mk (σ := sg [(0, 0), (1, 1), (2, 2), (3, 3), (4, 4), (5, 5), (6, 6), (7, 7), (8, 8), (9, 9), (10, 10), (11, 11), (12, 12)]) ?_ ?_ rfl) ?_
  · exact ⟨⟨_, rfl, rfl, rfl, rfl, rfl⟩, ⟨_, rfl, rfl, rfl, rfl, rfl⟩, ⟨_, rfl, rfl, rfl, rfl, rfl⟩, trivial⟩
  · exact ⟨⟨_, rfl, rfl, .inl ⟨rfl, plain_of rfl⟩⟩, rfl, ⟨⟨_, rfl, rfl, .inl ⟨rfl, plain_of rfl⟩⟩, rfl, ⟨⟨_, rfl, rfl, .inr ⟨_, _, rfl, ⟨_, _, rfl, rfl, _, _, rfl, rfl, _, _, rfl, rfl, _, _, rfl, ⟨rfl, rfl, rfl, rfl⟩, _, _, rfl, ⟨rfl, rfl, rfl, rfl⟩, _, _, rfl, ⟨rfl, rfl, rfl, rfl⟩, _, _, rfl, ⟨rfl, rfl, rfl, rfl⟩, _, _, rfl, rfl, _, _, rfl, rfl, _, _, rfl, ⟨rfl, rfl, rfl, rfl⟩, _, _, rfl, ⟨rfl, rfl, rfl, rfl⟩, _, _, rfl, ⟨rfl, rfl, rfl, rfl⟩, _, _, rfl, ⟨rfl, rfl, rfl, rfl⟩, _, _, rfl, ⟨rfl, rfl, rfl, rfl⟩, _, _, rfl, ⟨rfl, rfl, rfl, rfl⟩, _, _, rfl, trivial, _, _, rfl, trivial, _, _, rfl, trivial, rfl⟩, rfl⟩⟩, rfl, ⟨⟨_, rfl, rfl, .inl ⟨rfl, plain_abs (goodEs_I _)⟩⟩, rfl, ⟨⟨_, rfl, rfl, .inl ⟨rfl, plain_abs (goodEs_I _)⟩⟩, rfl, ⟨⟨_, rfl, rfl, .inl ⟨rfl, plain_abs (goodEs_I _)⟩⟩, rfl, ⟨⟨_, rfl, rfl, .inl ⟨rfl, plain_abs (goodEs_map good_M)⟩⟩, rfl, ⟨⟨_, rfl, rfl, .inl ⟨rfl, plain_abs (goodEs_I _)⟩⟩, rfl, ⟨⟨_, rfl, rfl, .inl ⟨rfl, plain_abs (goodEs_I _)⟩⟩, rfl, ⟨⟨_, rfl, rfl, .inl ⟨rfl, plain_abs (goodEs_I _)⟩⟩, rfl, ⟨⟨_, rfl, rfl, .inl ⟨rfl, plain_abs (goodEs_map good_M)⟩⟩, rfl, ⟨⟨_, rfl, rfl, .inl ⟨rfl, plain_abs (goodEs_map good_R)⟩⟩, rfl, ⟨⟨_, rfl, rfl, .inl ⟨rfl, plain_abs (goodEs_map good_M)⟩⟩, rfl, trivial⟩⟩⟩⟩⟩⟩⟩⟩⟩⟩⟩⟩⟩
  refine ac_seq ?_
  refine ac_region ?_
  refine aops_eff (w_field_ptr TT_ok rfl rfl rfl rfl rfl rfl rfl) rfl rfl rfl ?_
  refine aops_eff (w_load_ptr TT_ok rfl rfl rfl rfl rfl rfl rfl) rfl rfl rfl ?_
  refine aops_eff (w_call0 (h_toBs a.bars hb.2.2.2.2.1) rfl rfl rfl rfl (goodEs_map good_B) (va_cons (va_same rfl) va_nil)) rfl rfl rfl ?_
  refine aops_eff (w_field_ptr TT_ok rfl rfl rfl rfl rfl rfl rfl) rfl rfl rfl ?_
  refine aops_eff (w_store TT_ok rfl rfl rfl rfl rfl rfl rfl rfl) rfl rfl rfl ?_
  refine aops_nil ?_
  refine then_n ?_
  refine ac_ent (t := mkS [(1, .ptr 0 0 0), (2, .ptr 1 0 0), (3, .ptr 2 0 0)] [(0, ⟨18, [eC a]⟩), (1, ⟨18, [[.int 0, .int 0, .int 0, .nil 1, .nil 1, .nil 1, .nil 3, .int 0, .int 0, .nil 1, .nil 1, .nil 1, .nil 3, .nil 6, .nil 3, .nil 3, .nil 1, .nil 2]]⟩), (2, ⟨18, [[.int a.kind, .int a.rep.p, .int a.rep.q.n, .own 3 0 (encI a.rep.q.src).length, .own 4 0 (encI a.rep.q.tgt).length, .own 5 0 (encI a.rep.dims).length, .own 6 0 (a.rep.maps.map eM).length, .int a.other.p, .int a.other.q.n, .own 7 0 (encI a.other.q.src).length, .own 8 0 (encI a.other.q.tgt).length, .own 9 0 (encI a.other.dims).length, .own 10 0 (a.other.maps.map eM).length, .own 11 0 (a.parts.map eR).length, .own 12 0 (a.maps.map eM).length, .own 13 0 (a.bars.map eB).length, .nil 1, .nil 2]]⟩), (3, ⟨1, absEs (encI a.rep.q.src)⟩), (4, ⟨1, absEs (encI a.rep.q.tgt)⟩), (5, ⟨1, absEs (encI a.rep.dims)⟩), (6, ⟨3, absEs (a.rep.maps.map eM)⟩), (7, ⟨1, absEs (encI a.other.q.src)⟩), (8, ⟨1, absEs (encI a.other.q.tgt)⟩), (9, ⟨1, absEs (encI a.other.dims)⟩), (10, ⟨3, absEs (a.other.maps.map eM)⟩), (11, ⟨6, absEs (a.parts.map eR)⟩), (12, ⟨3, absEs (a.maps.map eM)⟩), (13, ⟨3, absEs (a.bars.map eB)⟩)] 14 [14, 15, 16, 17, 18, 19, 20, 21, 22, 23, 24, 25, 26, 27, 28, 29]) (ent_mk (σ := sg [(0, 0), (1, 1), (2, 2), (3, 3), (4, 4), (5, 5), (6, 6), (7, 7), (8, 8), (9, 9), (10, 10), (11, 11), (12, 12), (13, 13)]) ?_ ?_ rfl) ?_
  · exact ⟨⟨_, rfl, rfl, rfl, rfl, rfl⟩, ⟨_, rfl, rfl, rfl, rfl, rfl⟩, ⟨_, rfl, rfl, rfl, rfl, rfl⟩, trivial⟩
  · exact ⟨⟨_, rfl, rfl, .inl ⟨rfl, plain_of rfl⟩⟩, rfl, ⟨⟨_, rfl, rfl, .inl ⟨rfl, plain_of rfl⟩⟩, rfl, ⟨⟨_, rfl, rfl, .inr ⟨_, _, rfl, ⟨_, _, rfl, rfl, _, _, rfl, rfl, _, _, rfl, rfl, _, _, rfl, ⟨rfl, rfl, rfl, rfl⟩, _, _, rfl, ⟨rfl, rfl, rfl, rfl⟩, _, _, rfl, ⟨rfl, rfl, rfl, rfl⟩, _, _, rfl, ⟨rfl, rfl, rfl, rfl⟩, _, _, rfl, rfl, _, _, rfl, rfl, _, _, rfl, ⟨rfl, rfl, rfl, rfl⟩, _, _, rfl, ⟨rfl, rfl, rfl, rfl⟩, _, _, rfl, ⟨rfl, rfl, rfl, rfl⟩, _, _, rfl, ⟨rfl, rfl, rfl, rfl⟩, _, _, rfl, ⟨rfl, rfl, rfl, rfl⟩, _, _, rfl, ⟨rfl, rfl, rfl, rfl⟩, _, _, rfl, ⟨rfl, rfl, rfl, rfl⟩, _, _, rfl, trivial, _, _, rfl, trivial, rfl⟩, rfl⟩⟩, rfl, ⟨⟨_, rfl, rfl, .inl ⟨rfl, plain_abs (goodEs_I _)⟩⟩, rfl, ⟨⟨_, rfl, rfl, .inl ⟨rfl, plain_abs (goodEs_I _)⟩⟩, rfl, ⟨⟨_, rfl, rfl, .inl ⟨rfl, plain_abs (goodEs_I _)⟩⟩, rfl, ⟨⟨_, rfl, rfl, .inl ⟨rfl, plain_abs (goodEs_map good_M)⟩⟩, rfl, ⟨⟨_, rfl, rfl, .inl ⟨rfl, plain_abs (goodEs_I _)⟩⟩, rfl, ⟨⟨_, rfl, rfl, .inl ⟨rfl, plain_abs (goodEs_I _)⟩⟩, rfl, ⟨⟨_, rfl, rfl, .inl ⟨rfl, plain_abs (goodEs_I _)⟩⟩, rfl, ⟨⟨_, rfl, rfl, .inl ⟨rfl, plain_abs (goodEs_map good_M)⟩⟩, rfl, ⟨⟨_, rfl, rfl, .inl ⟨rfl, plain_abs (goodEs_map good_R)⟩⟩, rfl, ⟨⟨_, rfl, rfl, .inl ⟨rfl, plain_abs (goodEs_map good_M)⟩⟩, rfl, ⟨⟨_, rfl, rfl, .inl ⟨rfl, plain_abs (goodEs_map good_B)⟩⟩, rfl, trivial⟩⟩⟩⟩⟩⟩⟩⟩⟩⟩⟩⟩⟩⟩
  refine ac_seq ?_
  refine ac_region ?_
  refine aops_eff (w_field_ptr TT_ok rfl rfl rfl rfl rfl rfl rfl) rfl rfl rfl ?_
  refine aops_eff (w_load_ptr TT_ok rfl rfl rfl rfl rfl rfl rfl) rfl rfl rfl ?_
  refine aops_eff (w_call0 (h_toI a.theta hb.2.2.2.2.2.1) rfl rfl rfl rfl (goodEs_I _) (va_cons (va_same rfl) va_nil)) rfl rfl rfl ?_
  refine aops_eff (w_field_ptr TT_ok rfl rfl rfl rfl rfl rfl rfl) rfl rfl rfl ?_
  refine aops_eff (w_store TT_ok rfl rfl rfl rfl rfl rfl rfl rfl) rfl rfl rfl ?_
  refine aops_nil ?_
  refine then_n ?_
  refine ac_ent (t := mkS [(1, .ptr 0 0 0), (2, .ptr 1 0 0), (3, .ptr 2 0 0)] [(0, ⟨18, [eC a]⟩), (1, ⟨18, [[.int 0, .int 0, .int 0, .nil 1, .nil 1, .nil 1, .nil 3, .int 0, .int 0, .nil 1, .nil 1, .nil 1, .nil 3, .nil 6, .nil 3, .nil 3, .nil 1, .nil 2]]⟩), (2, ⟨18, [[.int a.kind, .int a.rep.p, .int a.rep.q.n, .own 3 0 (encI a.rep.q.src).length, .own 4 0 (encI a.rep.q.tgt).length, .own 5 0 (encI a.rep.dims).length, .own 6 0 (a.rep.maps.map eM).length, .int a.other.p, .int a.other.q.n, .own 7 0 (encI a.other.q.src).length, .own 8 0 (encI a.other.q.tgt).length, .own 9 0 (encI a.other.dims).length, .own 10 0 (a.other.maps.map eM).length, .own 11 0 (a.parts.map eR).length, .own 12 0 (a.maps.map eM).length, .own 13 0 (a.bars.map eB).length, .own 14 0 (encI a.theta).length, .nil 2]]⟩), (3, ⟨1, absEs (encI a.rep.q.src)⟩), (4, ⟨1, absEs (encI a.rep.q.tgt)⟩), (5, ⟨1, absEs (encI a.rep.dims)⟩), (6, ⟨3, absEs (a.rep.maps.map eM)⟩), (7, ⟨1, absEs (encI a.other.q.src)⟩), (8, ⟨1, absEs (encI a.other.q.tgt)⟩), (9, ⟨1, absEs (encI a.other.dims)⟩), (10, ⟨3, absEs (a.other.maps.map eM)⟩), (11, ⟨6, absEs (a.parts.map eR)⟩), (12, ⟨3, absEs (a.maps.map eM)⟩), (13, ⟨3, absEs (a.bars.map eB)⟩), (14, ⟨1, absEs (encI a.theta)⟩)] 15 [15, 16, 17, 18, 19, 20, 21, 22, 23, 24, 25, 26, 27, 28, 29, 30]) (ent_mk (σ := sg [(0, 0), (1, 1), (2, 2), (3, 3), (4, 4), (5, 5), (6, 6), (7, 7), (8, 8), (9, 9), (10, 10), (11, 11), (12, 12), (13, 13), (14, 14)]) ?_ ?_ rfl) ?_
  · exact ⟨⟨_, rfl, rfl, rfl, rfl, rfl⟩, ⟨_, rfl, rfl, rfl, rfl, rfl⟩, ⟨_, rfl, rfl, rfl, rfl, rfl⟩, trivial⟩
  · exact ⟨⟨_, rfl, rfl, .inl ⟨rfl, plain_of rfl⟩⟩, rfl, ⟨⟨_, rfl, rfl, .inl ⟨rfl, plain_of rfl⟩⟩, rfl, ⟨⟨_, rfl, rfl, .inr ⟨_, _, rfl, ⟨_, _, rfl, rfl, _, _, rfl, rfl, _, _, rfl, rfl, _, _, rfl, ⟨rfl, rfl, rfl, rfl⟩, _, _, rfl, ⟨rfl, rfl, rfl, rfl⟩, _, _, rfl, ⟨rfl, rfl, rfl, rfl⟩, _, _, rfl, ⟨rfl, rfl, rfl, rfl⟩, _, _, rfl, rfl, _, _, rfl, rfl, _, _, rfl, ⟨rfl, rfl, rfl, rfl⟩, _, _, rfl, ⟨rfl, rfl, rfl, rfl⟩, _, _, rfl, ⟨rfl, rfl, rfl, rfl⟩, _, _, rfl, ⟨rfl, rfl, rfl, rfl⟩, _, _, rfl, ⟨rfl, rfl, rfl, rfl⟩, _, _, rfl, ⟨rfl, rfl, rfl, rfl⟩, _, _, rfl, ⟨rfl, rfl, rfl, rfl⟩, _, _, rfl, ⟨rfl, rfl, rfl, rfl⟩, _, _, rfl, trivial, rfl⟩, rfl⟩⟩, rfl, ⟨⟨_, rfl, rfl, .inl ⟨rfl, plain_abs (goodEs_I _)⟩⟩, rfl, ⟨⟨_, rfl, rfl, .inl ⟨rfl, plain_abs (goodEs_I _)⟩⟩, rfl, ⟨⟨_, rfl, rfl, .inl ⟨rfl, plain_abs (goodEs_I _)⟩⟩, rfl, ⟨⟨_, rfl, rfl, .inl ⟨rfl, plain_abs (goodEs_map good_M)⟩⟩, rfl, ⟨⟨_, rfl, rfl, .inl ⟨rfl, plain_abs (goodEs_I _)⟩⟩, rfl, ⟨⟨_, rfl, rfl, .inl ⟨rfl, plain_abs (goodEs_I _)⟩⟩, rfl, ⟨⟨_, rfl, rfl, .inl ⟨rfl, plain_abs (goodEs_I _)⟩⟩, rfl, ⟨⟨_, rfl, rfl, .inl ⟨rfl, plain_abs (goodEs_map good_M)⟩⟩, rfl, ⟨⟨_, rfl, rfl, .inl ⟨rfl, plain_abs (goodEs_map good_R)⟩⟩, rfl, ⟨⟨_, rfl, rfl, .inl ⟨rfl, plain_abs (goodEs_map good_M)⟩⟩, rfl, ⟨⟨_, rfl, rfl, .inl ⟨rfl, plain_abs (goodEs_map good_B)⟩⟩, rfl, ⟨⟨_, rfl, rfl, .inl ⟨rfl, plain_abs (goodEs_I _)⟩⟩, rfl, trivial⟩⟩⟩⟩⟩⟩⟩⟩⟩⟩⟩⟩⟩⟩⟩
  refine ac_seq ?_
  refine ac_region ?_
  refine aops_eff (w_field_ptr TT_ok rfl rfl rfl rfl rfl rfl rfl) rfl rfl rfl ?_
  refine aops_eff (w_load_ptr TT_ok rfl rfl rfl rfl rfl rfl rfl) rfl rfl rfl ?_
  refine aops_eff (w_call0 (h_toSs a.subs hb.2.2.2.2.2.2.1.1 hb.2.2.2.2.2.2.1.2) rfl rfl rfl rfl (goodEs_map good_S) (va_cons (va_same rfl) va_nil)) rfl rfl rfl ?_
  refine aops_eff (w_field_ptr TT_ok rfl rfl rfl rfl rfl rfl rfl) rfl rfl rfl ?_
  refine aops_eff (w_store TT_ok rfl rfl rfl rfl rfl rfl rfl rfl) rfl rfl rfl ?_
  refine aops_nil ?_
  refine then_n ?_
  refine ac_ent (t := mkS [(1, .ptr 0 0 0), (2, .ptr 1 0 0), (3, .ptr 2 0 0)] [(0, ⟨18, [eC a]⟩), (1, ⟨18, [[.int 0, .int 0, .int 0, .nil 1, .nil 1, .nil 1, .nil 3, .int 0, .int 0, .nil 1, .nil 1, .nil 1, .nil 3, .nil 6, .nil 3, .nil 3, .nil 1, .nil 2]]⟩), (2, ⟨18, [[.int a.kind, .int a.rep.p, .int a.rep.q.n, .own 3 0 (encI a.rep.q.src).length, .own 4 0 (encI a.rep.q.tgt).length, .own 5 0 (encI a.rep.dims).length, .own 6 0 (a.rep.maps.map eM).length, .int a.other.p, .int a.other.q.n, .own 7 0 (encI a.other.q.src).length, .own 8 0 (encI a.other.q.tgt).length, .own 9 0 (encI a.other.dims).length, .own 10 0 (a.other.maps.map eM).length, .own 11 0 (a.parts.map eR).length, .own 12 0 (a.maps.map eM).length, .own 13 0 (a.bars.map eB).length, .own 14 0 (encI a.theta).length, .own 15 0 (a.subs.map eS).length]]⟩), (3, ⟨1, absEs (encI a.rep.q.src)⟩), (4, ⟨1, absEs (encI a.rep.q.tgt)⟩), (5, ⟨1, absEs (encI a.rep.dims)⟩), (6, ⟨3, absEs (a.rep.maps.map eM)⟩), (7, ⟨1, absEs (encI a.other.q.src)⟩), (8, ⟨1, absEs (encI a.other.q.tgt)⟩), (9, ⟨1, absEs (encI a.other.dims)⟩), (10, ⟨3, absEs (a.other.maps.map eM)⟩), (11, ⟨6, absEs (a.parts.map eR)⟩), (12, ⟨3, absEs (a.maps.map eM)⟩), (13, ⟨3, absEs (a.bars.map eB)⟩), (14, ⟨1, absEs (encI a.theta)⟩), (15, ⟨2, absEs (a.subs.map eS)⟩)] 16 [16, 17, 18, 19, 20, 21, 22, 23, 24, 25, 26, 27, 28, 29, 30, 31]) (ent_mk (σ := sg [(0, 0), (1, 1), (2, 2), (3, 3), (4, 4), (5, 5), (6, 6), (7, 7), (8, 8), (9, 9), (10, 10), (11, 11), (12, 12), (13, 13), (14, 14), (15, 15)]) ?_ ?_ rfl) ?_
  · exact ⟨⟨_, rfl, rfl, rfl, rfl, rfl⟩, ⟨_, rfl, rfl, rfl, rfl, rfl⟩, ⟨_, rfl, rfl, rfl, rfl, rfl⟩, trivial⟩
  · exact ⟨⟨_, rfl, rfl, .inl ⟨rfl, plain_of rfl⟩⟩, rfl, ⟨⟨_, rfl, rfl, .inl ⟨rfl, plain_of rfl⟩⟩, rfl, ⟨⟨_, rfl, rfl, .inr ⟨_, _, rfl, ⟨_, _, rfl, rfl, _, _, rfl, rfl, _, _, rfl, rfl, _, _, rfl, ⟨rfl, rfl, rfl, rfl⟩, _, _, rfl, ⟨rfl, rfl, rfl, rfl⟩, _, _, rfl, ⟨rfl, rfl, rfl, rfl⟩, _, _, rfl, ⟨rfl, rfl, rfl, rfl⟩, _, _, rfl, rfl, _, _, rfl, rfl, _, _, rfl, ⟨rfl, rfl, rfl, rfl⟩, _, _, rfl, ⟨rfl, rfl, rfl, rfl⟩, _, _, rfl, ⟨rfl, rfl, rfl, rfl⟩, _, _, rfl, ⟨rfl, rfl, rfl, rfl⟩, _, _, rfl, ⟨rfl, rfl, rfl, rfl⟩, _, _, rfl, ⟨rfl, rfl, rfl, rfl⟩, _, _, rfl, ⟨rfl, rfl, rfl, rfl⟩, _, _, rfl, ⟨rfl, rfl, rfl, rfl⟩, _, _, rfl, ⟨rfl, rfl, rfl, rfl⟩, rfl⟩, rfl⟩⟩, rfl, ⟨⟨_, rfl, rfl, .inl ⟨rfl, plain_abs (goodEs_I _)⟩⟩, rfl, ⟨⟨_, rfl, rfl, .inl ⟨rfl, plain_abs (goodEs_I _)⟩⟩, rfl, ⟨⟨_, rfl, rfl, .inl ⟨rfl, plain_abs (goodEs_I _)⟩⟩, rfl, ⟨⟨_, rfl, rfl, .inl ⟨rfl, plain_abs (goodEs_map good_M)⟩⟩, rfl, ⟨⟨_, rfl, rfl, .inl ⟨rfl, plain_abs (goodEs_I _)⟩⟩, rfl, ⟨⟨_, rfl, rfl, .inl ⟨rfl, plain_abs (goodEs_I _)⟩⟩, rfl, ⟨⟨_, rfl, rfl, .inl ⟨rfl, plain_abs (goodEs_I _)⟩⟩, rfl, ⟨⟨_, rfl, rfl, .inl ⟨rfl, plain_abs (goodEs_map good_M)⟩⟩, rfl, ⟨⟨_, rfl, rfl, .inl ⟨rfl, plain_abs (goodEs_map good_R)⟩⟩, rfl, ⟨⟨_, rfl, rfl, .inl ⟨rfl, plain_abs (goodEs_map good_M)⟩⟩, rfl, ⟨⟨_, rfl, rfl, .inl ⟨rfl, plain_abs (goodEs_map good_B)⟩⟩, rfl, ⟨⟨_, rfl, rfl, .inl ⟨rfl, plain_abs (goodEs_I _)⟩⟩, rfl, ⟨⟨_, rfl, rfl, .inl ⟨rfl, plain_abs (goodEs_map good_S)⟩⟩, rfl, trivial⟩⟩⟩⟩⟩⟩⟩⟩⟩⟩⟩⟩⟩⟩⟩⟩
  refine ac_seq ?_
  refine ac_region ?_
  refine aops_eff (w_load_ptr TT_ok rfl rfl rfl rfl rfl rfl rfl) rfl rfl rfl ?_
  refine aops_eff (w_store TT_ok rfl rfl rfl rfl rfl rfl rfl rfl) rfl rfl rfl ?_
  refine aops_nil ?_
  refine then_n ?_
  refine ac_ret ?_
  refine ret_mk rfl rfl rfl ?_
  refine fz_agg ?_
  repeat (first | exact f1_nil | refine f1_cons rfl ?_ | refine f1_cons (f1_imp rfl (by first | exact goodEs_I _ | exact goodEs_map good_M | exact goodEs_map good_L | exact goodEs_map good_R | exact goodEs_map good_B | exact goodEs_map good_S)) ?_)
end Go.Proofs.Ytpngpgbmkkjjgaa

/-
  Several texts of the claim in one: each begins with its own remark.
-/
import Derived.Test.YtihbegpgoekbdaaProg
import Derived.Test.YtihbegpgoekbdaaH12
section
set_option linter.unusedVariables false
set_option linter.unusedSimpArgs false
/-
  Models and contracts of functions, made by the extractor (ex.py).
-/
namespace Go.Proofs.Ytihbegpgoekbdaa
open Go.RowKit
set_option linter.unusedVariables false
set_option linter.unusedSimpArgs false
set_option maxRecDepth 10000
set_option maxHeartbeats 4000000

noncomputable def m_spec_PositiveRoots_L1 (a0 : Qv) (x1 : ((List (List Int)) × Int)) : Option (((List (List Int)) × Int) ⊕ (List (List Int))) :=
  bif decide (x1.2 < a0.n) then
    (bif (decide (0 ≤ a0.n) && decide (a0.n ≤ 1048576)) then
      (Option.bind (atL (List.replicate a0.n.toNat (0 : Int)) x1.2) fun v5 =>
      bif decide (x1.1.length + 1 ≤ 4294967296) then
        (some (.inl ((x1.1 ++ [((List.replicate a0.n.toNat (0 : Int)).set x1.2.toNat 1)]), wr (x1.2 + 1))))
      else none)
    else none)
  else
    (some (.inr x1.1))

noncomputable def m_spec_PositiveRoots_L3 (a0 : Qv) (v3 : (List (List Int))) (x2 : ((List (List Int)) × Int)) (x3 : ((List (List Int)) × Int)) : Option (((List (List Int)) × Int) ⊕ (List (List Int))) :=
  bif decide (x3.2 < a0.n) then
    (Option.bind (atL x3.1 x2.2) fun v11 =>
    Option.bind (m_spec_l20Reflect v3 v11 x3.2) fun v12 =>
    Option.bind (atL v12 x3.2) fun v13 =>
    bif decide (0 ≤ v13) then
      (Option.bind (m_spec_l20Has x3.1 v12) fun v15 =>
      bif !v15 then
        (Option.bind (m_spec_TitsForm a0 v12) fun v17 =>
        bif decide (v17 = 1) then
          (bif decide (x3.1.length + 1 ≤ 4294967296) then
            (some (.inl ((x3.1 ++ [v12]), wr (x3.2 + 1))))
          else none)
        else
          (some (.inl (x3.1, wr (x3.2 + 1)))))
      else
        (some (.inl (x3.1, wr (x3.2 + 1)))))
    else
      (some (.inl (x3.1, wr (x3.2 + 1)))))
  else
    (some (.inr x3.1))

noncomputable def m_spec_PositiveRoots_L2 (a0 : Qv) (v3 : (List (List Int))) (x2 : ((List (List Int)) × Int)) : Option (((List (List Int)) × Int) ⊕ (List (List Int))) :=
  bif decide (x2.2 < ((x2.1.length : Nat) : Int)) then
    (Option.bind (Lp (m_spec_PositiveRoots_L3 a0 v3 x2) (x2.1, 0)) fun y20 =>
    some (.inl (y20, wr (x2.2 + 1))))
  else
    (some (.inr x2.1))

noncomputable def m_spec_PositiveRoots_L5 (x4 : ((List (List Int)) × Int)) (y21 : (List (List Int))) (x5 : Int) : Option (Int ⊕ Int) :=
  bif decide (0 < x5) then
    (Option.bind (atL y21 x4.2) fun v24 =>
    Option.bind (atL x4.1 (wr (x5 - 1))) fun v25 =>
    Option.bind (m_spec_l20Less v24 v25) fun v26 =>
    bif v26 then
      (some (.inl (wr (x5 - 1))))
    else
      (some (.inr x5)))
  else
    (some (.inr x5))

noncomputable def m_spec_PositiveRoots_L4 (y21 : (List (List Int))) (x4 : ((List (List Int)) × Int)) : Option (((List (List Int)) × Int) ⊕ (List (List Int))) :=
  bif decide (x4.2 < ((y21.length : Nat) : Int)) then
    (Option.bind (Lp (m_spec_PositiveRoots_L5 x4 y21) ((x4.1.length : Nat) : Int)) fun y28 =>
    bif (decide (0 ≤ 0) && (decide (0 ≤ y28) && decide (y28 ≤ ((x4.1.length : Nat) : Int)))) then
      (bif decide (([] : (List (List Int))).length + ((x4.1.drop (0 + (0 : Int).toNat)).take (y28.toNat - (0 : Int).toNat)).length ≤ 4294967296) then
        (Option.bind (atL y21 x4.2) fun v31 =>
        bif decide ((([] : (List (List Int))) ++ ((x4.1.drop (0 + (0 : Int).toNat)).take (y28.toNat - (0 : Int).toNat))).length + 1 ≤ 4294967296) then
          (bif (decide (0 ≤ y28) && (decide (y28 ≤ ((x4.1.length : Nat) : Int)) && decide (((x4.1.length : Nat) : Int) ≤ ((x4.1.length : Nat) : Int)))) then
            (bif decide (((([] : (List (List Int))) ++ ((x4.1.drop (0 + (0 : Int).toNat)).take (y28.toNat - (0 : Int).toNat))) ++ [v31]).length + ((x4.1.drop (0 + y28.toNat)).take (((x4.1.length : Nat) : Int).toNat - y28.toNat)).length ≤ 4294967296) then
              (some (.inl ((((([] : (List (List Int))) ++ ((x4.1.drop (0 + (0 : Int).toNat)).take (y28.toNat - (0 : Int).toNat))) ++ [v31]) ++ ((x4.1.drop (0 + y28.toNat)).take (((x4.1.length : Nat) : Int).toNat - y28.toNat))), wr (x4.2 + 1))))
            else none)
          else none)
        else none)
      else none)
    else none)
  else
    (some (.inr x4.1))

noncomputable def m_spec_PositiveRoots (a0 : Qv) : Option ((List (List Int)) × Bool) :=
  Option.bind (m_spec_KindOfQuiver a0) fun v1 =>
  bif !decide (v1 = 1) then
    (some (([] : (List (List Int))), false))
  else
    (Option.bind (m_spec_SymmetricForm a0) fun v3 =>
    Option.bind (Lp (m_spec_PositiveRoots_L1 a0) (([] : (List (List Int))), 0)) fun y8 =>
    Option.bind (Lp (m_spec_PositiveRoots_L2 a0 v3) (y8, 0)) fun y21 =>
    Option.bind (Lp (m_spec_PositiveRoots_L4 y21) (([] : (List (List Int))), 0)) fun y35 =>
    some (y35, true))

theorem c_spec_PositiveRoots (a0 : Qv) (r : ((List (List Int)) × Bool)) (h : m_spec_PositiveRoots a0 = some r) : HasE Try.prog 45 [.agg (eQ a0)] [] 0 (.tuple [.own 0 0 r.1.length, .bl r.2]) [(0, ⟨1, List.map (eLs 1 eI) r.1⟩)] := by
 refine hasE_mk TT_ok (rvs := [.tmp 2, .tmp 3]) (ns := [0, 1, 2, 3, 4, 5, 6, 7, 8]) Try.func45 k k Try.ntmps45 k k <| sQ <| rgS <| se (w_box k k k k) k <| se (eff_assign k) k <| se (eff_assign k) k <| sn <| tn <| sQ <| rgS ?_
 refine se (w_lit TT_ok k k k k k k k k k k k k) k <| se (eff_assign k) k <| sn <| tn <| ac_ent (t := mkS [(1, .ptr 0 0 0), (4, .own 1 0 (([] : (List (List Int))).length))] [(0, ⟨3, [[.int a0.n, .list 1 (List.map eI a0.src), .list 1 (List.map eI a0.tgt)]]⟩), (1, ⟨1, List.map (ow (eLs 1 eI)) ([] : (List (List Int)))⟩)] 2 [2, 3, 4, 5, 6, 7, 8] ⟨0, false, none, true⟩) (ent_mk (σ := sg [(0, 0), (1, 1)]) ⟨⟨_, k, ⟨k, k, k, k⟩⟩, ⟨_, k, ⟨k, k, (by simp only [len_map, List.length_append, List.length_set, List.length_replicate, List.length_cons, List.length_nil]), k⟩⟩, trivial⟩ ⟨⟨_, k, k, .inl ⟨k, plain_of k⟩⟩, k, ⟨_, k, k, .inl ⟨k, okLs.plainO _⟩⟩, k, trivial⟩ k) <| sQ <| sQ <| rgS <| se (w_load_ptr TT_ok k k k k k k k) k ?_
 obtain ⟨v1, hv1, h⟩ := ob h
 refine se (w_call0s (c_spec_KindOfQuiver a0 v1 hv1) k (va_cons (va_agg' (v1_cons (v1_same k) (v1_cons (v1_same k) (v1_cons (v1_same k) v1_nil)))) va_nil)) k <| se (w_cmp k k k) k <| sn <| tn ?_
 rcases cb h with ⟨q2, h⟩ | ⟨q2, h⟩
 ·refine ac_condT k q2 <| sQ <| rgS <| se (eff_move k) k <| se (eff_assign k) k <| se (eff_assign k) k <| sn <| tn <| ac_ret <| then_ret ?_
  obtain rfl := so h
  exact ⟨mkS [(2, .own 0 0 (([] : (List (List Int))).length)), (3, .bl false)] [(0, ⟨1, List.map (eLs 1 eI) ([] : (List (List Int)))⟩)] 1 [1, 2, 3, 4, 5, 6, 7, 8] ⟨0, false, none, true⟩, (Ent.trans (ent_forget (b := 1) okLs k) (ent_mk (σ := sg [(0, 1)]) ⟨⟨_, k, ⟨k, k, k, k⟩⟩, (e1 k k), trivial⟩ ⟨⟨_, k, k, .inl ⟨k, okLs.plainE _⟩⟩, k, trivial⟩ k)), k, ⟨_, k, .inr ⟨(by simp), k, k⟩⟩, ⟨k, trivial⟩⟩
 ·refine ac_condF k q2 <| ac_skip <| tn <| sQ <| rgS <| se (w_load_ptr TT_ok k k k k k k k) k ?_
  obtain ⟨v3, hv3, h⟩ := ob h
  refine se (AEff.conv (w_call0 (x := .own 2 0 (List.map (eLs 1 eI) v3).length) (nb := [(2, ⟨1, absEs (List.map (eLs 1 eI) v3)⟩)]) (c_spec_SymmetricForm a0 v3 hv3) k (by rfl) k k (okLs.good _) (va_cons (va_agg' (v1_cons (v1_same k) (v1_cons (v1_same k) (v1_cons (v1_same k) v1_nil)))) va_nil)) (v' := .own 2 0 v3.length) (ed' := [(2, some ⟨1, List.map (ow (eLs 1 eI)) v3⟩)]) (by simp only [len_map]) (ed_ok (nb' := [(2, ⟨1, List.map (ow (eLs 1 eI)) v3⟩)]) (by simp only [abs_map]))) k <| se (eff_assign k) k <| sn <| tn <| sQ <| rgS <| se (w_lit TT_ok k k k k k k k k k k k k) k <| se (eff_assign k) k <| sn <| tn ?_
  refine ac_ent (t := mkS [(1, .ptr 0 0 0), (4, .own 1 0 (([] : (List (List Int))).length)), (5, .own 2 0 v3.length), (6, .own 3 0 (([] : (List (List Int))).length))] [(0, ⟨3, [[.int a0.n, .list 1 (List.map eI a0.src), .list 1 (List.map eI a0.tgt)]]⟩), (1, ⟨1, List.map (ow (eLs 1 eI)) ([] : (List (List Int)))⟩), (2, ⟨1, List.map (ow (eLs 1 eI)) v3⟩), (3, ⟨1, List.map (ow (eLs 1 eI)) ([] : (List (List Int)))⟩)] 4 [4, 5, 6, 7, 8] ⟨0, false, none, true⟩) (ent_mk (σ := sg [(0, 0), (1, 1), (2, 2), (3, 3)]) ⟨⟨_, k, ⟨k, k, k, k⟩⟩, ⟨_, k, ⟨k, k, k, k⟩⟩, ⟨_, k, ⟨k, k, k, k⟩⟩, ⟨_, k, ⟨k, k, (by simp only [len_map, List.length_append, List.length_set, List.length_replicate, List.length_cons, List.length_nil]), k⟩⟩, trivial⟩ ⟨⟨_, k, k, .inl ⟨k, plain_of k⟩⟩, k, ⟨_, k, k, .inl ⟨k, okLs.plainO _⟩⟩, k, ⟨_, k, k, .inl ⟨k, okLs.plainO _⟩⟩, k, ⟨_, k, k, .inl ⟨k, okLs.plainO _⟩⟩, k, trivial⟩ k) <| sQ <| sQ <| rgS <| se (eff_assign k) k <| sn <| tn <| ac_block ?_
  obtain ⟨y8, hy8, h⟩ := ob h
  refine ac_Lp (body := (m_spec_PositiveRoots_L1 a0)) hy8 (fun (x1 : ((List (List Int)) × Int)) => mkS [(1, .ptr 0 0 0), (4, .own 1 0 (([] : (List (List Int))).length)), (5, .own 2 0 v3.length), (6, .own 3 0 x1.1.length), (7, .int x1.2)] [(0, ⟨3, [[.int a0.n, .list 1 (List.map eI a0.src), .list 1 (List.map eI a0.tgt)]]⟩), (1, ⟨1, List.map (ow (eLs 1 eI)) ([] : (List (List Int)))⟩), (2, ⟨1, List.map (ow (eLs 1 eI)) v3⟩), (3, ⟨1, List.map (ow (eLs 1 eI)) x1.1⟩)] 4 [4, 5, 6, 7, 8] ⟨0, false, none, true⟩) (fun r e t => e = .exit 0 ∧ Ent t (mkS [(1, .ptr 0 0 0), (4, .own 1 0 (([] : (List (List Int))).length)), (5, .own 2 0 v3.length), (6, .own 3 0 r.length)] [(0, ⟨3, [[.int a0.n, .list 1 (List.map eI a0.src), .list 1 (List.map eI a0.tgt)]]⟩), (1, ⟨1, List.map (ow (eLs 1 eI)) ([] : (List (List Int)))⟩), (2, ⟨1, List.map (ow (eLs 1 eI)) v3⟩), (3, ⟨1, List.map (ow (eLs 1 eI)) r⟩)] 4 [4, 5, 6, 7, 8] ⟨0, false, none, true⟩)) (ent_mk (σ := sg [(0, 0), (1, 1), (2, 2), (3, 3)]) ⟨⟨_, k, ⟨k, k, k, k⟩⟩, ⟨_, k, ⟨k, k, k, k⟩⟩, ⟨_, k, ⟨k, k, k, k⟩⟩, ⟨_, k, ⟨k, k, k, k⟩⟩, (e1 k k), trivial⟩ ⟨⟨_, k, k, .inl ⟨k, plain_of k⟩⟩, k, ⟨_, k, k, .inl ⟨k, okLs.plainO _⟩⟩, k, ⟨_, k, k, .inl ⟨k, okLs.plainO _⟩⟩, k, ⟨_, k, k, .inl ⟨k, okLs.plainO _⟩⟩, k, trivial⟩ k) ?_ ?_
  ·intro x1 o h
   refine sQ <| sQ <| rgS <| se (eff_move k) k <| se (w_field_ptr TT_ok k k k k k k k) k <| se (w_load_ptr TT_ok k k k k k k k) k <| se (w_cmp k k k) k <| sn <| tn ?_
   rcases cb h with ⟨q4, h⟩ | ⟨q4, h⟩
   ·refine ac_condT k q4 <| ac_skip <| tn <| sQ <| ac_block <| sQ <| rgS <| se (w_field_ptr TT_ok k k k k k k k) k <| se (w_load_ptr TT_ok k k k k k k k) k ?_
    obtain ⟨q7, h⟩ := cg h
    refine se (x_make TT_ok q7 k k k k k k k k) k <| se (eff_assign k) k <| sn <| tn <| ac_ent (t := mkS [(1, .ptr 0 0 0), (4, .own 1 0 (([] : (List (List Int))).length)), (5, .own 2 0 v3.length), (6, .own 3 0 x1.1.length), (7, .int x1.2), (8, .own 4 0 ((List.replicate a0.n.toNat (0 : Int)).length))] [(0, ⟨3, [[.int a0.n, .list 1 (List.map eI a0.src), .list 1 (List.map eI a0.tgt)]]⟩), (1, ⟨1, List.map (ow (eLs 1 eI)) ([] : (List (List Int)))⟩), (2, ⟨1, List.map (ow (eLs 1 eI)) v3⟩), (3, ⟨1, List.map (ow (eLs 1 eI)) x1.1⟩), (4, ⟨1, List.map (ow eI) (List.replicate a0.n.toNat (0 : Int))⟩)] 5 [5, 6, 7, 8] ⟨0, false, none, true⟩) (ent_mk (σ := sg [(0, 0), (1, 1), (2, 2), (3, 3), (4, 4)]) ⟨⟨_, k, ⟨k, k, k, k⟩⟩, ⟨_, k, ⟨k, k, k, k⟩⟩, ⟨_, k, ⟨k, k, k, k⟩⟩, ⟨_, k, ⟨k, k, k, k⟩⟩, (e1 k k), ⟨_, k, ⟨k, k, (by simp only [len_map, List.length_append, List.length_set, List.length_replicate, List.length_cons, List.length_nil]), k⟩⟩, trivial⟩ ⟨⟨_, k, k, .inl ⟨k, plain_of k⟩⟩, k, ⟨_, k, k, .inl ⟨k, okLs.plainO _⟩⟩, k, ⟨_, k, k, .inl ⟨k, okLs.plainO _⟩⟩, k, ⟨_, k, k, .inl ⟨k, okLs.plainO _⟩⟩, k, ⟨_, k, k, .inl ⟨rep_eq (e := eI) (z := 0) _, okI.plainO _⟩⟩, k, trivial⟩ k) <| sQ <| rgS <| se (eff_move k) k <| se (eff_move k) k ?_
    obtain ⟨v5, hv5, h⟩ := ob h
    refine se (x_at_own TT_ok (atL_nn hv5) (atL_lt hv5) k k k k k k k) k <| se (x_store TT_ok okIo (u := 1) (atL_get hv5) k k k k k k) k <| sn <| tn <| rgS <| se (eff_move k) k <| se (eff_move k) k <| se (w_lit TT_ok k k k k k k k k k k k k) k ?_
    obtain ⟨q6, h⟩ := cg h
    refine se (x_app1 TT_ok (l := x1.1) (c := [.own 4 0 ((List.replicate a0.n.toNat (0 : Int)).length)]) q6 k k k k k k k k k k k k k k) k <| se (eff_assign k) k <| sn <| block_n <| tn <| ac_ent (t := mkS [(1, .ptr 0 0 0), (4, .own 1 0 (([] : (List (List Int))).length)), (5, .own 2 0 v3.length), (6, .own 6 0 ((x1.1 ++ [((List.replicate a0.n.toNat (0 : Int)).set x1.2.toNat 1)]).length)), (7, .int x1.2)] [(0, ⟨3, [[.int a0.n, .list 1 (List.map eI a0.src), .list 1 (List.map eI a0.tgt)]]⟩), (1, ⟨1, List.map (ow (eLs 1 eI)) ([] : (List (List Int)))⟩), (2, ⟨1, List.map (ow (eLs 1 eI)) v3⟩), (6, ⟨1, List.map (ow (eLs 1 eI)) (x1.1 ++ [((List.replicate a0.n.toNat (0 : Int)).set x1.2.toNat 1)])⟩)] 7 [7, 8] ⟨0, false, none, true⟩) (Ent.trans (ent_absL (b := 6) (b' := 4) (j := 0) (es' := List.map eI ((List.replicate a0.n.toNat (0 : Int)).set x1.2.toNat 1)) k k k k (by simp only [len_map, List.length_append, List.length_set, List.length_replicate, List.length_cons, List.length_nil]) (okI.frzs _)) (ent_mk (σ := sg [(0, 0), (1, 1), (2, 2), (6, 6)]) ⟨⟨_, k, ⟨k, k, k, k⟩⟩, ⟨_, k, ⟨k, k, k, k⟩⟩, ⟨_, k, ⟨k, k, k, k⟩⟩, ⟨_, k, ⟨k, k, (by simp only [len_map, List.length_append, List.length_set, List.length_replicate, List.length_cons, List.length_nil]), k⟩⟩, (e1 k k), trivial⟩ ⟨⟨_, k, k, .inl ⟨k, plain_of k⟩⟩, k, ⟨_, k, k, .inl ⟨k, okLs.plainO _⟩⟩, k, ⟨_, k, k, .inl ⟨k, okLs.plainO _⟩⟩, k, ⟨_, k, k, .inl ⟨app_eq ((List.replicate a0.n.toNat (0 : Int)).set x1.2.toNat 1) k, okLs.plainO _⟩⟩, k, trivial⟩ k)) ?_
    refine rgS <| se (eff_move k) k <| se (x_add k k) k <| se (eff_assign k) k <| sn <| tn ?_
    obtain rfl := so h
    exact ⟨_, k, (ent_mk (σ := sg [(0, 0), (1, 1), (2, 2), (3, 6)]) ⟨⟨_, k, ⟨k, k, k, k⟩⟩, ⟨_, k, ⟨k, k, k, k⟩⟩, ⟨_, k, ⟨k, k, k, k⟩⟩, ⟨_, k, ⟨k, k, k, k⟩⟩, (e1 k k), trivial⟩ ⟨⟨_, k, k, .inl ⟨k, plain_of k⟩⟩, k, ⟨_, k, k, .inl ⟨k, okLs.plainO _⟩⟩, k, ⟨_, k, k, .inl ⟨k, okLs.plainO _⟩⟩, k, ⟨_, k, k, .inl ⟨k, okLs.plainO _⟩⟩, k, trivial⟩ k)⟩
   ·refine ac_condF k q4 <| ac_exit <| then_exit <| then_exit ?_
    obtain rfl := so h
    exact ⟨_, k, k, (ent_mk (σ := sg [(0, 0), (1, 1), (2, 2), (3, 3)]) ⟨⟨_, k, ⟨k, k, k, k⟩⟩, ⟨_, k, ⟨k, k, k, k⟩⟩, ⟨_, k, ⟨k, k, k, k⟩⟩, ⟨_, k, ⟨k, k, k, k⟩⟩, trivial⟩ ⟨⟨_, k, k, .inl ⟨k, plain_of k⟩⟩, k, ⟨_, k, k, .inl ⟨k, okLs.plainO _⟩⟩, k, ⟨_, k, k, .inl ⟨k, okLs.plainO _⟩⟩, k, ⟨_, k, k, .inl ⟨k, okLs.plainO _⟩⟩, k, trivial⟩ k)⟩
  ·rintro e t ⟨rfl, hent⟩
   refine block_here <| tn <| ac_ent hent <| sQ <| sQ <| rgS <| se (eff_assign k) k <| sn <| tn <| ac_block ?_
   obtain ⟨y21, hy21, h⟩ := ob h
   refine ac_Lp (body := (m_spec_PositiveRoots_L2 a0 v3)) hy21 (fun (x2 : ((List (List Int)) × Int)) => mkS [(1, .ptr 0 0 0), (4, .own 1 0 (([] : (List (List Int))).length)), (5, .own 2 0 v3.length), (6, .own 3 0 x2.1.length), (9, .int x2.2)] [(0, ⟨3, [[.int a0.n, .list 1 (List.map eI a0.src), .list 1 (List.map eI a0.tgt)]]⟩), (1, ⟨1, List.map (ow (eLs 1 eI)) ([] : (List (List Int)))⟩), (2, ⟨1, List.map (ow (eLs 1 eI)) v3⟩), (3, ⟨1, List.map (ow (eLs 1 eI)) x2.1⟩)] 4 [4, 5, 6, 7, 8] ⟨0, false, none, true⟩) (fun r e t => e = .exit 2 ∧ Ent t (mkS [(4, .own 0 0 (([] : (List (List Int))).length)), (6, .own 1 0 r.length)] [(0, ⟨1, List.map (ow (eLs 1 eI)) ([] : (List (List Int)))⟩), (1, ⟨1, List.map (ow (eLs 1 eI)) r⟩)] 2 [2, 3, 4, 5, 6, 7, 8] ⟨0, false, none, true⟩)) (ent_mk (σ := sg [(0, 0), (1, 1), (2, 2), (3, 3)]) ⟨⟨_, k, ⟨k, k, k, k⟩⟩, ⟨_, k, ⟨k, k, k, k⟩⟩, ⟨_, k, ⟨k, k, k, k⟩⟩, ⟨_, k, ⟨k, k, k, k⟩⟩, (e1 k k), trivial⟩ ⟨⟨_, k, k, .inl ⟨k, plain_of k⟩⟩, k, ⟨_, k, k, .inl ⟨k, okLs.plainO _⟩⟩, k, ⟨_, k, k, .inl ⟨k, okLs.plainO _⟩⟩, k, ⟨_, k, k, .inl ⟨k, okLs.plainO _⟩⟩, k, trivial⟩ k) ?_ ?_
   ·intro x2 o h
    refine sQ <| sQ <| rgS <| se (eff_move k) k <| se (eff_move k) k <| se (w_len_own TT_ok k k k k) k <| se (w_cmp k k k) k <| sn <| tn ?_
    rcases cb h with ⟨q9, h⟩ | ⟨q9, h⟩
    ·refine ac_condT k q9 <| ac_skip <| tn <| sQ <| ac_block <| sQ <| rgS <| se (eff_assign k) k <| sn <| tn ?_
     refine ac_block ?_
     obtain ⟨y20, hy20, h⟩ := ob h
     refine ac_Lp (body := (m_spec_PositiveRoots_L3 a0 v3 x2)) hy20 (fun (x3 : ((List (List Int)) × Int)) => mkS [(1, .ptr 0 0 0), (4, .own 1 0 (([] : (List (List Int))).length)), (5, .own 2 0 v3.length), (6, .own 3 0 x3.1.length), (9, .int x2.2), (10, .int x3.2)] [(0, ⟨3, [[.int a0.n, .list 1 (List.map eI a0.src), .list 1 (List.map eI a0.tgt)]]⟩), (1, ⟨1, List.map (ow (eLs 1 eI)) ([] : (List (List Int)))⟩), (2, ⟨1, List.map (ow (eLs 1 eI)) v3⟩), (3, ⟨1, List.map (ow (eLs 1 eI)) x3.1⟩)] 4 [4, 5, 6, 7, 8] ⟨0, false, none, true⟩) (fun r e t => e = .exit 4 ∧ Ent t (mkS [(1, .ptr 0 0 0), (4, .own 1 0 (([] : (List (List Int))).length)), (5, .own 2 0 v3.length), (6, .own 3 0 r.length), (9, .int x2.2)] [(0, ⟨3, [[.int a0.n, .list 1 (List.map eI a0.src), .list 1 (List.map eI a0.tgt)]]⟩), (1, ⟨1, List.map (ow (eLs 1 eI)) ([] : (List (List Int)))⟩), (2, ⟨1, List.map (ow (eLs 1 eI)) v3⟩), (3, ⟨1, List.map (ow (eLs 1 eI)) r⟩)] 4 [4, 5, 6, 7, 8] ⟨0, false, none, true⟩)) (ent_mk (σ := sg [(0, 0), (1, 1), (2, 2), (3, 3)]) ⟨⟨_, k, ⟨k, k, k, k⟩⟩, ⟨_, k, ⟨k, k, k, k⟩⟩, ⟨_, k, ⟨k, k, k, k⟩⟩, ⟨_, k, ⟨k, k, k, k⟩⟩, (e1 k k), (e1 k k), trivial⟩ ⟨⟨_, k, k, .inl ⟨k, plain_of k⟩⟩, k, ⟨_, k, k, .inl ⟨k, okLs.plainO _⟩⟩, k, ⟨_, k, k, .inl ⟨k, okLs.plainO _⟩⟩, k, ⟨_, k, k, .inl ⟨k, okLs.plainO _⟩⟩, k, trivial⟩ k) ?_ ?_
     ·intro x3 o h
      refine sQ <| sQ <| rgS <| se (eff_move k) k <| se (w_field_ptr TT_ok k k k k k k k) k <| se (w_load_ptr TT_ok k k k k k k k) k <| se (w_cmp k k k) k <| sn <| tn ?_
      rcases cb h with ⟨q10, h⟩ | ⟨q10, h⟩
      ·refine ac_condT k q10 <| ac_skip <| tn <| sQ <| ac_block <| sQ <| rgS <| se (eff_move k) k <| se (eff_move k) k <| se (eff_move k) k ?_
       obtain ⟨v11, hv11, h⟩ := ob h
       refine se (x_at_own TT_ok (atL_nn hv11) (atL_lt hv11) k k k k k k k) k <| se (w_load_ptr TT_ok k k k k (map_at (atL_get hv11)) k k) k <| se (eff_move k) k ?_
       obtain ⟨v12, hv12, h⟩ := ob h
       refine se (AEff.conv (w_call0 (x := .own 4 0 (List.map eI v12).length) (nb := [(4, ⟨1, absEs (List.map eI v12)⟩)]) (c_spec_l20Reflect v3 v11 x3.2 v12 hv12) k (by rfl) k k (okI.good _) (va_cons (va_T okLs k k) (va_cons (va_same k) (va_cons (va_same k) va_nil)))) (v' := .own 4 0 v12.length) (ed' := [(4, some ⟨1, List.map (ow eI) v12⟩)]) (by simp only [len_map]) (ed_ok (nb' := [(4, ⟨1, List.map (ow eI) v12⟩)]) (by simp only [abs_map]))) k <| se (eff_assign k) k <| sn <| tn <| ac_ent (t := mkS [(1, .ptr 0 0 0), (4, .own 1 0 (([] : (List (List Int))).length)), (5, .own 2 0 v3.length), (6, .own 3 0 x3.1.length), (9, .int x2.2), (10, .int x3.2), (11, .own 4 0 v12.length)] [(0, ⟨3, [[.int a0.n, .list 1 (List.map eI a0.src), .list 1 (List.map eI a0.tgt)]]⟩), (1, ⟨1, List.map (ow (eLs 1 eI)) ([] : (List (List Int)))⟩), (2, ⟨1, List.map (ow (eLs 1 eI)) v3⟩), (3, ⟨1, List.map (ow (eLs 1 eI)) x3.1⟩), (4, ⟨1, List.map (ow eI) v12⟩)] 5 [5, 6, 7, 8] ⟨0, false, none, true⟩) (ent_mk (σ := sg [(0, 0), (1, 1), (2, 2), (3, 3), (4, 4)]) ⟨⟨_, k, ⟨k, k, k, k⟩⟩, ⟨_, k, ⟨k, k, k, k⟩⟩, ⟨_, k, ⟨k, k, k, k⟩⟩, ⟨_, k, ⟨k, k, k, k⟩⟩, (e1 k k), (e1 k k), ⟨_, k, ⟨k, k, k, k⟩⟩, trivial⟩ ⟨⟨_, k, k, .inl ⟨k, plain_of k⟩⟩, k, ⟨_, k, k, .inl ⟨k, okLs.plainO _⟩⟩, k, ⟨_, k, k, .inl ⟨k, okLs.plainO _⟩⟩, k, ⟨_, k, k, .inl ⟨k, okLs.plainO _⟩⟩, k, ⟨_, k, k, .inl ⟨k, okI.plainO _⟩⟩, k, trivial⟩ k) <| sQ <| rgS <| se (eff_move k) k <| se (eff_move k) k ?_
       obtain ⟨v13, hv13, h⟩ := ob h
       refine se (x_at_own TT_ok (atL_nn hv13) (atL_lt hv13) k k k k k k k) k <| se (w_load_ptr TT_ok k k k k (map_at (atL_get hv13)) k k) k <| se (w_cmp k k k) k <| se (eff_move k) k ?_
       rcases cb h with ⟨q14, h⟩ | ⟨q14, h⟩
       ·refine sops_lit 62 k q14 <| se (eff_move k) k <| se (eff_move k) k ?_
        obtain ⟨v15, hv15, h⟩ := ob h
        refine se (w_call0s (c_spec_l20Has x3.1 v12 v15 hv15) k (va_cons (va_T okLs k k) (va_cons (va_T okI k k) va_nil))) k <| se (w_not k) k <| se (eff_pick k k) k <| se (eff_move k) k ?_
        rcases cb h with ⟨q16, h⟩ | ⟨q16, h⟩
        ·refine sops_lit 68 k q16 <| se (w_load_ptr TT_ok k k k k k k k) k <| se (eff_move k) k ?_
         obtain ⟨v17, hv17, h⟩ := ob h
         refine se (w_call0s (c_spec_TitsForm a0 v12 v17 hv17) k (va_cons (va_agg' (v1_cons (v1_same k) (v1_cons (v1_same k) (v1_cons (v1_same k) v1_nil)))) (va_cons (va_T okI k k) va_nil))) k <| se (w_cmp k k k) k <| se (eff_pick k k) k <| sn <| tn <| ac_ent (t := mkS [(1, .ptr 0 0 0), (4, .own 1 0 (([] : (List (List Int))).length)), (5, .own 2 0 v3.length), (6, .own 3 0 x3.1.length), (9, .int x2.2), (10, .int x3.2), (11, .own 4 0 v12.length), (73, .bl (decide (v17 = 1)))] [(0, ⟨3, [[.int a0.n, .list 1 (List.map eI a0.src), .list 1 (List.map eI a0.tgt)]]⟩), (1, ⟨1, List.map (ow (eLs 1 eI)) ([] : (List (List Int)))⟩), (2, ⟨1, List.map (ow (eLs 1 eI)) v3⟩), (3, ⟨1, List.map (ow (eLs 1 eI)) x3.1⟩), (4, ⟨1, List.map (ow eI) v12⟩)] 5 [5, 6, 7, 8] ⟨0, false, none, true⟩) (ent_mk (σ := sg [(0, 0), (1, 1), (2, 2), (3, 3), (4, 4)]) ⟨⟨_, k, ⟨k, k, k, k⟩⟩, ⟨_, k, ⟨k, k, k, k⟩⟩, ⟨_, k, ⟨k, k, k, k⟩⟩, ⟨_, k, ⟨k, k, k, k⟩⟩, (e1 k k), (e1 k k), ⟨_, k, ⟨k, k, k, k⟩⟩, (e1 k k), trivial⟩ ⟨⟨_, k, k, .inl ⟨k, plain_of k⟩⟩, k, ⟨_, k, k, .inl ⟨k, okLs.plainO _⟩⟩, k, ⟨_, k, k, .inl ⟨k, okLs.plainO _⟩⟩, k, ⟨_, k, k, .inl ⟨k, okLs.plainO _⟩⟩, k, ⟨_, k, k, .inl ⟨k, okI.plainO _⟩⟩, k, trivial⟩ k) ?_
         rcases cb h with ⟨q18, h⟩ | ⟨q18, h⟩
         ·refine ac_condT k q18 <| rgS <| se (eff_move k) k <| se (eff_move k) k <| se (w_lit TT_ok k k k k k k k k k k k k) k ?_
          obtain ⟨q19, h⟩ := cg h
          refine se (x_app1 TT_ok (l := x3.1) (c := [.own 4 0 v12.length]) q19 k k k k k k k k k k k k k k) k <| se (eff_assign k) k <| sn <| block_n <| tn <| ac_ent (t := mkS [(1, .ptr 0 0 0), (4, .own 1 0 (([] : (List (List Int))).length)), (5, .own 2 0 v3.length), (6, .own 6 0 ((x3.1 ++ [v12]).length)), (9, .int x2.2), (10, .int x3.2)] [(0, ⟨3, [[.int a0.n, .list 1 (List.map eI a0.src), .list 1 (List.map eI a0.tgt)]]⟩), (1, ⟨1, List.map (ow (eLs 1 eI)) ([] : (List (List Int)))⟩), (2, ⟨1, List.map (ow (eLs 1 eI)) v3⟩), (6, ⟨1, List.map (ow (eLs 1 eI)) (x3.1 ++ [v12])⟩)] 7 [7, 8] ⟨0, false, none, true⟩) (Ent.trans (ent_absL (b := 6) (b' := 4) (j := 0) (es' := List.map eI v12) k k k k (len_map _ _) (okI.frzs _)) (ent_mk (σ := sg [(0, 0), (1, 1), (2, 2), (6, 6)]) ⟨⟨_, k, ⟨k, k, k, k⟩⟩, ⟨_, k, ⟨k, k, k, k⟩⟩, ⟨_, k, ⟨k, k, k, k⟩⟩, ⟨_, k, ⟨k, k, (by simp only [len_map, List.length_append, List.length_set, List.length_replicate, List.length_cons, List.length_nil]), k⟩⟩, (e1 k k), (e1 k k), trivial⟩ ⟨⟨_, k, k, .inl ⟨k, plain_of k⟩⟩, k, ⟨_, k, k, .inl ⟨k, okLs.plainO _⟩⟩, k, ⟨_, k, k, .inl ⟨k, okLs.plainO _⟩⟩, k, ⟨_, k, k, .inl ⟨app_eq v12 k, okLs.plainO _⟩⟩, k, trivial⟩ k)) <| rgS <| se (eff_move k) k <| se (x_add k k) k <| se (eff_assign k) k ?_
          refine sn <| tn ?_
          obtain rfl := so h
          exact ⟨_, k, (ent_mk (σ := sg [(0, 0), (1, 1), (2, 2), (3, 6)]) ⟨⟨_, k, ⟨k, k, k, k⟩⟩, ⟨_, k, ⟨k, k, k, k⟩⟩, ⟨_, k, ⟨k, k, k, k⟩⟩, ⟨_, k, ⟨k, k, k, k⟩⟩, (e1 k k), (e1 k k), trivial⟩ ⟨⟨_, k, k, .inl ⟨k, plain_of k⟩⟩, k, ⟨_, k, k, .inl ⟨k, okLs.plainO _⟩⟩, k, ⟨_, k, k, .inl ⟨k, okLs.plainO _⟩⟩, k, ⟨_, k, k, .inl ⟨k, okLs.plainO _⟩⟩, k, trivial⟩ k)⟩
         ·refine ac_condF k q18 <| ac_skip <| block_n <| tn <| rgS <| se (eff_move k) k <| se (x_add k k) k <| se (eff_assign k) k <| sn <| tn ?_
          obtain rfl := so h
          exact ⟨_, k, (ent_mk (σ := sg [(0, 0), (1, 1), (2, 2), (3, 3)]) ⟨⟨_, k, ⟨k, k, k, k⟩⟩, ⟨_, k, ⟨k, k, k, k⟩⟩, ⟨_, k, ⟨k, k, k, k⟩⟩, ⟨_, k, ⟨k, k, k, k⟩⟩, (e1 k k), (e1 k k), trivial⟩ ⟨⟨_, k, k, .inl ⟨k, plain_of k⟩⟩, k, ⟨_, k, k, .inl ⟨k, okLs.plainO _⟩⟩, k, ⟨_, k, k, .inl ⟨k, okLs.plainO _⟩⟩, k, ⟨_, k, k, .inl ⟨k, okLs.plainO _⟩⟩, k, trivial⟩ k)⟩
        ·refine sops_lit 68 k q16 <| sops_skip k k <| sops_skip k k <| sops_skip k k <| sops_skip k k <| se (eff_pick k k) k <| sn <| tn <| ac_ent (t := mkS [(1, .ptr 0 0 0), (4, .own 1 0 (([] : (List (List Int))).length)), (5, .own 2 0 v3.length), (6, .own 3 0 x3.1.length), (9, .int x2.2), (10, .int x3.2), (11, .own 4 0 v12.length), (73, .bl false)] [(0, ⟨3, [[.int a0.n, .list 1 (List.map eI a0.src), .list 1 (List.map eI a0.tgt)]]⟩), (1, ⟨1, List.map (ow (eLs 1 eI)) ([] : (List (List Int)))⟩), (2, ⟨1, List.map (ow (eLs 1 eI)) v3⟩), (3, ⟨1, List.map (ow (eLs 1 eI)) x3.1⟩), (4, ⟨1, List.map (ow eI) v12⟩)] 5 [5, 6, 7, 8] ⟨0, false, none, true⟩) (ent_mk (σ := sg [(0, 0), (1, 1), (2, 2), (3, 3), (4, 4)]) ⟨⟨_, k, ⟨k, k, k, k⟩⟩, ⟨_, k, ⟨k, k, k, k⟩⟩, ⟨_, k, ⟨k, k, k, k⟩⟩, ⟨_, k, ⟨k, k, k, k⟩⟩, (e1 k k), (e1 k k), ⟨_, k, ⟨k, k, k, k⟩⟩, (e1 k k), trivial⟩ ⟨⟨_, k, k, .inl ⟨k, plain_of k⟩⟩, k, ⟨_, k, k, .inl ⟨k, okLs.plainO _⟩⟩, k, ⟨_, k, k, .inl ⟨k, okLs.plainO _⟩⟩, k, ⟨_, k, k, .inl ⟨k, okLs.plainO _⟩⟩, k, ⟨_, k, k, .inl ⟨k, okI.plainO _⟩⟩, k, trivial⟩ k) <| ac_condF k k ?_
         refine ac_skip <| block_n <| tn <| rgS <| se (eff_move k) k <| se (x_add k k) k <| se (eff_assign k) k <| sn <| tn ?_
         obtain rfl := so h
         exact ⟨_, k, (ent_mk (σ := sg [(0, 0), (1, 1), (2, 2), (3, 3)]) ⟨⟨_, k, ⟨k, k, k, k⟩⟩, ⟨_, k, ⟨k, k, k, k⟩⟩, ⟨_, k, ⟨k, k, k, k⟩⟩, ⟨_, k, ⟨k, k, k, k⟩⟩, (e1 k k), (e1 k k), trivial⟩ ⟨⟨_, k, k, .inl ⟨k, plain_of k⟩⟩, k, ⟨_, k, k, .inl ⟨k, okLs.plainO _⟩⟩, k, ⟨_, k, k, .inl ⟨k, okLs.plainO _⟩⟩, k, ⟨_, k, k, .inl ⟨k, okLs.plainO _⟩⟩, k, trivial⟩ k)⟩
       ·refine sops_lit 62 k q14 <| sops_skip k k <| sops_skip k k <| sops_skip k k <| sops_skip k k <| se (eff_pick k k) k <| se (eff_move k) k <| sops_skip k k <| sops_skip k k <| sops_skip k k ?_
        refine sops_skip k k <| se (eff_pick k k) k <| sn <| tn <| ac_ent (t := mkS [(1, .ptr 0 0 0), (4, .own 1 0 (([] : (List (List Int))).length)), (5, .own 2 0 v3.length), (6, .own 3 0 x3.1.length), (9, .int x2.2), (10, .int x3.2), (11, .own 4 0 v12.length), (73, .bl false)] [(0, ⟨3, [[.int a0.n, .list 1 (List.map eI a0.src), .list 1 (List.map eI a0.tgt)]]⟩), (1, ⟨1, List.map (ow (eLs 1 eI)) ([] : (List (List Int)))⟩), (2, ⟨1, List.map (ow (eLs 1 eI)) v3⟩), (3, ⟨1, List.map (ow (eLs 1 eI)) x3.1⟩), (4, ⟨1, List.map (ow eI) v12⟩)] 5 [5, 6, 7, 8] ⟨0, false, none, true⟩) (ent_mk (σ := sg [(0, 0), (1, 1), (2, 2), (3, 3), (4, 4)]) ⟨⟨_, k, ⟨k, k, k, k⟩⟩, ⟨_, k, ⟨k, k, k, k⟩⟩, ⟨_, k, ⟨k, k, k, k⟩⟩, ⟨_, k, ⟨k, k, k, k⟩⟩, (e1 k k), (e1 k k), ⟨_, k, ⟨k, k, k, k⟩⟩, (e1 k k), trivial⟩ ⟨⟨_, k, k, .inl ⟨k, plain_of k⟩⟩, k, ⟨_, k, k, .inl ⟨k, okLs.plainO _⟩⟩, k, ⟨_, k, k, .inl ⟨k, okLs.plainO _⟩⟩, k, ⟨_, k, k, .inl ⟨k, okLs.plainO _⟩⟩, k, ⟨_, k, k, .inl ⟨k, okI.plainO _⟩⟩, k, trivial⟩ k) <| ac_condF k k <| ac_skip <| block_n <| tn <| rgS ?_
        refine se (eff_move k) k <| se (x_add k k) k <| se (eff_assign k) k <| sn <| tn ?_
        obtain rfl := so h
        exact ⟨_, k, (ent_mk (σ := sg [(0, 0), (1, 1), (2, 2), (3, 3)]) ⟨⟨_, k, ⟨k, k, k, k⟩⟩, ⟨_, k, ⟨k, k, k, k⟩⟩, ⟨_, k, ⟨k, k, k, k⟩⟩, ⟨_, k, ⟨k, k, k, k⟩⟩, (e1 k k), (e1 k k), trivial⟩ ⟨⟨_, k, k, .inl ⟨k, plain_of k⟩⟩, k, ⟨_, k, k, .inl ⟨k, okLs.plainO _⟩⟩, k, ⟨_, k, k, .inl ⟨k, okLs.plainO _⟩⟩, k, ⟨_, k, k, .inl ⟨k, okLs.plainO _⟩⟩, k, trivial⟩ k)⟩
      ·refine ac_condF k q10 <| ac_exit <| then_exit <| then_exit ?_
       obtain rfl := so h
       exact ⟨_, k, k, (ent_mk (σ := sg [(0, 0), (1, 1), (2, 2), (3, 3)]) ⟨⟨_, k, ⟨k, k, k, k⟩⟩, ⟨_, k, ⟨k, k, k, k⟩⟩, ⟨_, k, ⟨k, k, k, k⟩⟩, ⟨_, k, ⟨k, k, k, k⟩⟩, (e1 k k), trivial⟩ ⟨⟨_, k, k, .inl ⟨k, plain_of k⟩⟩, k, ⟨_, k, k, .inl ⟨k, okLs.plainO _⟩⟩, k, ⟨_, k, k, .inl ⟨k, okLs.plainO _⟩⟩, k, ⟨_, k, k, .inl ⟨k, okLs.plainO _⟩⟩, k, trivial⟩ k)⟩
     ·rintro e t ⟨rfl, hent⟩
      refine block_here <| block_n <| tn <| ac_ent hent <| rgS <| se (eff_move k) k <| se (x_add k k) k <| se (eff_assign k) k <| sn <| tn ?_
      obtain rfl := so h
      exact ⟨_, k, (ent_mk (σ := sg [(0, 0), (1, 1), (2, 2), (3, 3)]) ⟨⟨_, k, ⟨k, k, k, k⟩⟩, ⟨_, k, ⟨k, k, k, k⟩⟩, ⟨_, k, ⟨k, k, k, k⟩⟩, ⟨_, k, ⟨k, k, k, k⟩⟩, (e1 k k), trivial⟩ ⟨⟨_, k, k, .inl ⟨k, plain_of k⟩⟩, k, ⟨_, k, k, .inl ⟨k, okLs.plainO _⟩⟩, k, ⟨_, k, k, .inl ⟨k, okLs.plainO _⟩⟩, k, ⟨_, k, k, .inl ⟨k, okLs.plainO _⟩⟩, k, trivial⟩ k)⟩
    ·refine ac_condF k q9 <| ac_exit <| then_exit <| then_exit ?_
     obtain rfl := so h
     exact ⟨_, k, k, (ent_mk (σ := sg [(0, 1), (1, 3)]) ⟨⟨_, k, ⟨k, k, k, k⟩⟩, ⟨_, k, ⟨k, k, k, k⟩⟩, trivial⟩ ⟨⟨_, k, k, .inl ⟨k, okLs.plainO _⟩⟩, k, ⟨_, k, k, .inl ⟨k, okLs.plainO _⟩⟩, k, trivial⟩ k)⟩
   ·rintro e t ⟨rfl, hent⟩
    refine block_here <| tn <| ac_ent hent <| sQ <| sQ <| rgS <| se (eff_assign k) k <| sn <| tn <| ac_block ?_
    obtain ⟨y35, hy35, h⟩ := ob h
    refine ac_Lp (body := (m_spec_PositiveRoots_L4 y21)) hy35 (fun (x4 : ((List (List Int)) × Int)) => mkS [(4, .own 0 0 x4.1.length), (6, .own 1 0 y21.length), (12, .int x4.2)] [(0, ⟨1, List.map (eLs 1 eI) x4.1⟩), (1, ⟨1, List.map (ow (eLs 1 eI)) y21⟩)] 2 [2, 3, 4, 5, 6, 7, 8] ⟨0, false, none, true⟩) (fun r e t => e = .exit 6 ∧ Ent t (mkS [(4, .own 0 0 r.length)] [(0, ⟨1, List.map (eLs 1 eI) r⟩)] 1 [1, 2, 3, 4, 5, 6, 7, 8] ⟨0, false, none, true⟩)) (ent_mk (σ := sg [(0, 0), (1, 1)]) ⟨⟨_, k, ⟨k, k, k, k⟩⟩, ⟨_, k, ⟨k, k, k, k⟩⟩, (e1 k k), trivial⟩ ⟨⟨_, k, k, .inl ⟨k, okLs.plainE _⟩⟩, k, ⟨_, k, k, .inl ⟨k, okLs.plainO _⟩⟩, k, trivial⟩ k) ?_ ?_
    ·intro x4 o h
     refine sQ <| sQ <| rgS <| se (eff_move k) k <| se (eff_move k) k <| se (w_len_own TT_ok k k k k) k <| se (w_cmp k k k) k <| sn <| tn ?_
     rcases cb h with ⟨q22, h⟩ | ⟨q22, h⟩
     ·refine ac_condT k q22 <| ac_skip <| tn <| sQ <| ac_block <| sQ <| rgS <| se (eff_move k) k <| se (w_len_own TT_ok k k k k) k <| se (eff_assign k) k ?_
      refine sn <| tn <| sQ <| ac_block ?_
      obtain ⟨y28, hy28, h⟩ := ob h
      refine ac_Lp (body := (m_spec_PositiveRoots_L5 x4 y21)) hy28 (fun (x5 : Int) => mkS [(4, .own 0 0 x4.1.length), (6, .own 1 0 y21.length), (12, .int x4.2), (13, .int x5)] [(0, ⟨1, List.map (eLs 1 eI) x4.1⟩), (1, ⟨1, List.map (ow (eLs 1 eI)) y21⟩)] 2 [2, 3, 4, 5, 6, 7, 8] ⟨0, false, none, true⟩) (fun r e t => e = .exit 8 ∧ Ent t (mkS [(4, .own 0 0 x4.1.length), (6, .own 1 0 y21.length), (12, .int x4.2), (13, .int r)] [(0, ⟨1, List.map (eLs 1 eI) x4.1⟩), (1, ⟨1, List.map (ow (eLs 1 eI)) y21⟩)] 2 [2, 3, 4, 5, 6, 7, 8] ⟨0, false, none, true⟩)) (ent_mk (σ := sg [(0, 0), (1, 1)]) ⟨⟨_, k, ⟨k, k, k, k⟩⟩, ⟨_, k, ⟨k, k, k, k⟩⟩, (e1 k k), (e1 k k), trivial⟩ ⟨⟨_, k, k, .inl ⟨k, okLs.plainE _⟩⟩, k, ⟨_, k, k, .inl ⟨k, okLs.plainO _⟩⟩, k, trivial⟩ k) ?_ ?_
      ·intro x5 o h
       refine sQ <| sQ <| ac_region_draw MIXX <| ae (eff_move k) k <| ae (w_cmp k k k) k <| ae (eff_move k) k ?_
       rcases cb h with ⟨q23, h⟩ | ⟨q23, h⟩
       ·refine aops_lit 88 k q23 <| ae (eff_move k) k <| ae (eff_move k) k ?_
        obtain ⟨v24, hv24, h⟩ := ob h
        refine ae (x_at_own TT_ok (atL_nn hv24) (atL_lt hv24) k k k k k k k) k <| ae (w_load_ptr TT_ok k k k k (map_at (atL_get hv24)) k k) k <| ae (eff_move k) k <| ae (eff_move k) k <| ae (x_sub k k) k ?_
        obtain ⟨v25, hv25, h⟩ := ob h
        refine ae (x_at_own TT_ok (atL_nn hv25) (atL_lt hv25) k k k k k k k) k <| ae (w_load_ptr TT_ok k k k k (map_at (atL_get hv25)) k k) k ?_
        obtain ⟨v26, hv26, h⟩ := ob h
        refine ae (w_call0s (c_spec_l20Less v24 v25 v26 hv26) k (va_cons (va_same k) (va_cons (va_same k) va_nil))) k <| ae (eff_pick k k) k <| an ?_
        refine ⟨by kernel_rfl, ?_⟩
        refine tn <| ac_ent (t := mkS [(4, .own 0 0 x4.1.length), (6, .own 1 0 y21.length), (12, .int x4.2), (13, .int x5), (99, .bl v26)] [(0, ⟨1, List.map (eLs 1 eI) x4.1⟩), (1, ⟨1, List.map (ow (eLs 1 eI)) y21⟩)] 2 [2, 3, 4, 5, 6, 7, 8] ⟨0, false, none, true⟩) (ent_mk (σ := sg [(0, 0), (1, 1)]) ⟨⟨_, k, ⟨k, k, k, k⟩⟩, ⟨_, k, ⟨k, k, k, k⟩⟩, (e1 k k), (e1 k k), (e1 k k), trivial⟩ ⟨⟨_, k, k, .inl ⟨k, okLs.plainE _⟩⟩, k, ⟨_, k, k, .inl ⟨k, okLs.plainO _⟩⟩, k, trivial⟩ k) ?_
        rcases cb h with ⟨q27, h⟩ | ⟨q27, h⟩
        ·refine ac_condT k q27 <| ac_skip <| tn <| ac_block <| rgS <| se (eff_move k) k <| se (x_sub k k) k <| se (eff_assign k) k <| sn <| block_n ?_
         refine tn ?_
         obtain rfl := so h
         exact ⟨_, k, (ent_mk (σ := sg [(0, 0), (1, 1)]) ⟨⟨_, k, ⟨k, k, k, k⟩⟩, ⟨_, k, ⟨k, k, k, k⟩⟩, (e1 k k), (e1 k k), trivial⟩ ⟨⟨_, k, k, .inl ⟨k, okLs.plainE _⟩⟩, k, ⟨_, k, k, .inl ⟨k, okLs.plainO _⟩⟩, k, trivial⟩ k)⟩
        ·refine ac_condF k q27 <| ac_exit <| then_exit <| then_exit ?_
         obtain rfl := so h
         exact ⟨_, k, k, (ent_mk (σ := sg [(0, 0), (1, 1)]) ⟨⟨_, k, ⟨k, k, k, k⟩⟩, ⟨_, k, ⟨k, k, k, k⟩⟩, (e1 k k), (e1 k k), trivial⟩ ⟨⟨_, k, k, .inl ⟨k, okLs.plainE _⟩⟩, k, ⟨_, k, k, .inl ⟨k, okLs.plainO _⟩⟩, k, trivial⟩ k)⟩
       ·refine aops_lit 88 k q23 <| aops_skip k k <| aops_skip k k <| aops_skip k k <| aops_skip k k <| aops_skip k k <| aops_skip k k <| aops_skip k k <| aops_skip k k <| aops_skip k k ?_
        refine aops_skip k k <| ae (eff_pick k k) k <| an ?_
        refine ⟨by kernel_rfl, ?_⟩
        refine tn <| ac_ent (t := mkS [(4, .own 0 0 x4.1.length), (6, .own 1 0 y21.length), (12, .int x4.2), (13, .int x5), (99, .bl false)] [(0, ⟨1, List.map (eLs 1 eI) x4.1⟩), (1, ⟨1, List.map (ow (eLs 1 eI)) y21⟩)] 2 [2, 3, 4, 5, 6, 7, 8] ⟨0, false, none, true⟩) (ent_mk (σ := sg [(0, 0), (1, 1)]) ⟨⟨_, k, ⟨k, k, k, k⟩⟩, ⟨_, k, ⟨k, k, k, k⟩⟩, (e1 k k), (e1 k k), (e1 k k), trivial⟩ ⟨⟨_, k, k, .inl ⟨k, okLs.plainE _⟩⟩, k, ⟨_, k, k, .inl ⟨k, okLs.plainO _⟩⟩, k, trivial⟩ k) <| ac_condF k k <| ac_exit <| then_exit <| then_exit ?_
        obtain rfl := so h
        exact ⟨_, k, k, (ent_mk (σ := sg [(0, 0), (1, 1)]) ⟨⟨_, k, ⟨k, k, k, k⟩⟩, ⟨_, k, ⟨k, k, k, k⟩⟩, (e1 k k), (e1 k k), trivial⟩ ⟨⟨_, k, k, .inl ⟨k, okLs.plainE _⟩⟩, k, ⟨_, k, k, .inl ⟨k, okLs.plainO _⟩⟩, k, trivial⟩ k)⟩
      ·rintro e t ⟨rfl, hent⟩
       refine block_here <| tn <| ac_ent hent <| ac_region_draw MIXX <| ae (w_lit TT_ok k k k k k k k k k k k k) k <| ae (eff_move k) k <| ae (eff_move k) k ?_
       obtain ⟨q29, h⟩ := cg h
       refine ae (x_slice_own TT_ok (l := 0) (h := y28) q29 k k k k k k k k) k ?_
       obtain ⟨q30, h⟩ := cg h
       refine ae (x_app TT_ok (l := ([] : (List (List Int)))) (m := ((x4.1.drop (0 + (0 : Int).toNat)).take (y28.toNat - (0 : Int).toNat))) okLs q30 k k k k k (x_srcE okLs k) k k k k k k) k <| ae (eff_move k) k <| ae (eff_move k) k ?_
       obtain ⟨v31, hv31, h⟩ := ob h
       refine ae (x_at_own TT_ok (atL_nn hv31) (atL_lt hv31) k k k k k k k) k <| ae (w_load_ptr TT_ok k k k k (map_at (atL_get hv31)) k k) k <| ae (w_lit TT_ok k k k k k k k k k k k k) k ?_
       obtain ⟨q32, h⟩ := cg h
       refine ae (AEff.conv (x_app1 TT_ok (e := (eLs 1 eI)) (l := (([] : (List (List Int))) ++ ((x4.1.drop (0 + (0 : Int).toNat)).take (y28.toNat - (0 : Int).toNat)))) (c := [.list 1 (List.map eI v31)]) q32 k k k k k k k k k k k k k k) (v' := .own 5 0 ((([] : (List (List Int))) ++ ((x4.1.drop (0 + (0 : Int).toNat)).take (y28.toNat - (0 : Int).toNat))) ++ [v31]).length) (ed' := [(3, none), (5, some ⟨1, List.map (eLs 1 eI) ((([] : (List (List Int))) ++ ((x4.1.drop (0 + (0 : Int).toNat)).take (y28.toNat - (0 : Int).toNat))) ++ [v31])⟩)]) (by simp only [List.length_append, List.length_cons, List.length_nil]) (by rw [show List.map (eLs 1 eI) ((([] : (List (List Int))) ++ ((x4.1.drop (0 + (0 : Int).toNat)).take (y28.toNat - (0 : Int).toNat))) ++ [v31]) = List.map (eLs 1 eI) (([] : (List (List Int))) ++ ((x4.1.drop (0 + (0 : Int).toNat)).take (y28.toNat - (0 : Int).toNat))) ++ [[.list 1 (List.map eI v31)]] from List.map_append])) k <| ae (eff_move k) k <| ae (eff_move k) k ?_
       obtain ⟨q33, h⟩ := cg h
       refine ae (x_slice_own TT_ok (l := y28) (h := ((x4.1.length : Nat) : Int)) q33 k k k k k k k k) k ?_
       obtain ⟨q34, h⟩ := cg h
       refine ae (x_app TT_ok (l := ((([] : (List (List Int))) ++ ((x4.1.drop (0 + (0 : Int).toNat)).take (y28.toNat - (0 : Int).toNat))) ++ [v31])) (m := ((x4.1.drop (0 + y28.toNat)).take (((x4.1.length : Nat) : Int).toNat - y28.toNat))) okLs q34 k k k k k (x_srcE okLs k) k k k k k k) k <| ae (eff_assign k) k <| an ?_
       refine ⟨by kernel_rfl, ?_⟩
       refine block_n <| tn <| ac_ent (t := mkS [(4, .own 6 0 ((((([] : (List (List Int))) ++ ((x4.1.drop (0 + (0 : Int).toNat)).take (y28.toNat - (0 : Int).toNat))) ++ [v31]) ++ ((x4.1.drop (0 + y28.toNat)).take (((x4.1.length : Nat) : Int).toNat - y28.toNat))).length)), (6, .own 1 0 y21.length), (12, .int x4.2)] [(1, ⟨1, List.map (ow (eLs 1 eI)) y21⟩), (6, ⟨1, List.map (eLs 1 eI) (((([] : (List (List Int))) ++ ((x4.1.drop (0 + (0 : Int).toNat)).take (y28.toNat - (0 : Int).toNat))) ++ [v31]) ++ ((x4.1.drop (0 + y28.toNat)).take (((x4.1.length : Nat) : Int).toNat - y28.toNat)))⟩)] 7 [7, 8] ⟨0, false, none, true⟩) (ent_mk (σ := sg [(1, 1), (6, 6)]) ⟨⟨_, k, ⟨k, k, k, k⟩⟩, ⟨_, k, ⟨k, k, k, k⟩⟩, (e1 k k), trivial⟩ ⟨⟨_, k, k, .inl ⟨k, okLs.plainO _⟩⟩, k, ⟨_, k, k, .inl ⟨k, okLs.plainE _⟩⟩, k, trivial⟩ k) <| rgS <| se (eff_move k) k <| se (x_add k k) k <| se (eff_assign k) k <| sn <| tn ?_
       obtain rfl := so h
       exact ⟨_, k, (ent_mk (σ := sg [(0, 6), (1, 1)]) ⟨⟨_, k, ⟨k, k, k, k⟩⟩, ⟨_, k, ⟨k, k, k, k⟩⟩, (e1 k k), trivial⟩ ⟨⟨_, k, k, .inl ⟨k, okLs.plainE _⟩⟩, k, ⟨_, k, k, .inl ⟨k, okLs.plainO _⟩⟩, k, trivial⟩ k)⟩
     ·refine ac_condF k q22 <| ac_exit <| then_exit <| then_exit ?_
      obtain rfl := so h
      exact ⟨_, k, k, (ent_mk (σ := sg [(0, 0)]) ⟨⟨_, k, ⟨k, k, k, k⟩⟩, trivial⟩ ⟨⟨_, k, k, .inl ⟨k, okLs.plainE _⟩⟩, k, trivial⟩ k)⟩
    ·rintro e t ⟨rfl, hent⟩
     refine block_here <| tn <| ac_ent hent <| sQ <| rgS <| se (eff_move k) k <| se (eff_assign k) k <| se (eff_assign k) k <| sn <| tn ?_
     refine ac_ret ?_
     obtain rfl := so h
     exact ⟨mkS [(2, .own 0 0 y35.length), (3, .bl true)] [(0, ⟨1, List.map (eLs 1 eI) y35⟩)] 1 [1, 2, 3, 4, 5, 6, 7, 8] ⟨0, false, none, true⟩, (ent_mk (σ := sg [(0, 0)]) ⟨⟨_, k, ⟨k, k, k, k⟩⟩, (e1 k k), trivial⟩ ⟨⟨_, k, k, .inl ⟨k, okLs.plainE _⟩⟩, k, trivial⟩ k), k, ⟨_, k, .inr ⟨(by simp), k, k⟩⟩, ⟨k, trivial⟩⟩

noncomputable def m_spec_IsRoot (a0 : Qv) (a1 : (List Int)) : Option Bool :=
  Option.bind (m_spec_PositiveRoots a0) fun v1 =>
  bif v1.2 then
    (Option.bind (m_spec_l20Has v1.1 a1) fun v3 =>
    some (v3))
  else
    (some (false))

theorem c_spec_IsRoot (a0 : Qv) (a1 : (List Int)) (r : Bool) (h : m_spec_IsRoot a0 a1 = some r) : HasC Try.prog 41 [.agg (eQ a0), .list 1 (List.map eI a1)] (.bl r) := by
 refine hasC_mk TT_ok (rvs := [.tmp 4]) (ns := [0, 1, 2, 3]) Try.func41 k k Try.ntmps41 k k k <| sQ <| rgS <| se (w_box k k k k) k <| se (eff_assign k) k <| sn <| tn <| sQ <| rgS <| se (w_load_ptr TT_ok k k k k k k k) k ?_
 obtain ⟨v1, hv1, h⟩ := ob h
 refine se (eff_hasD (σ := sg []) (σ' := sg [(1, 0)]) (touch := []) (news := [1]) (hl2 := [(1, ⟨1, List.map (eLs 1 eI) v1.1⟩)]) (n' := 2) (r2 := .tuple [.own 1 0 v1.1.length, .bl v1.2]) (c_spec_PositiveRoots a0 v1 hv1) k k ⟨_, _, k, (.inl ⟨_, _, k, k, ⟨_, _, k, ⟨k, k⟩, ⟨_, _, k, ⟨k, k⟩, k⟩⟩⟩), k⟩ trivial k k k ⟨⟨_, k, k, .inl ⟨k, okLs.plainE _⟩⟩, k, trivial⟩ k (.inr ⟨_, _, k, k, ⟨_, _, k, ⟨k, k, (by simp only [len_map, List.length_append, List.length_set, List.length_replicate, List.length_cons, List.length_nil]), k⟩, ⟨_, _, k, k, k⟩⟩⟩) k ⟨k, okLs.tamdE _ _, trivial⟩ k k) k <| se (eff_move k) k <| se (eff_extract k k (by intro _ h; cases h)) k <| se (eff_extract k k (by intro _ h; cases h)) k <| se (eff_assign k) k <| se (eff_assign k) k <| sn <| tn <| sQ <| rgS ?_
 refine se (eff_move k) k <| se (eff_move k) k ?_
 rcases cb h with ⟨q2, h⟩ | ⟨q2, h⟩
 ·refine sops_lit 13 k q2 <| se (eff_move k) k <| se (eff_move k) k ?_
  obtain ⟨v3, hv3, h⟩ := ob h
  refine se (w_call0s (c_spec_l20Has v1.1 a1 v3 hv3) k (va_cons (va_TE okLs k k) (va_cons (va_same k) va_nil))) k <| se (eff_pick k k) k <| se (eff_assign k) k <| sn <| tn <| ac_ent (t := mkS [(4, .bl v3)] [] 2 [2, 3]) (ent_mk (σ := sg []) ⟨(e1 k k), trivial⟩ trivial k) <| ac_ret ?_
  obtain rfl := so h
  exact ret_mk k k k (fz_bl k)
 ·refine sops_lit 13 k q2 <| sops_skip k k <| sops_skip k k <| sops_skip k k <| se (eff_pick k k) k <| se (eff_assign k) k <| sn <| tn <| ac_ent (t := mkS [(4, .bl false)] [] 2 [2, 3]) (ent_mk (σ := sg []) ⟨(e1 k k), trivial⟩ trivial k) <| ac_ret ?_
  obtain rfl := so h
  exact ret_mk k k k (fz_bl k)

noncomputable def m_spec_RootExt (a0 : Qv) (a1 : (List Int)) (a2 : (List Int)) : Option Int :=
  Option.bind (m_spec_IsRoot a0 a1) fun v1 =>
  bif !v1 then
    (some ((-1)))
  else
    (Option.bind (m_spec_IsRoot a0 a2) fun v3 =>
    bif !v3 then
      (some ((-1)))
    else
      (Option.bind (m_spec_EulerForm a0 a1 a2) fun v5 =>
      some (max 0 (wr (-v5)))))

theorem c_spec_RootExt (a0 : Qv) (a1 : (List Int)) (a2 : (List Int)) (r : Int) (h : m_spec_RootExt a0 a1 a2 = some r) : HasC Try.prog 12 [.agg (eQ a0), .list 1 (List.map eI a1), .list 1 (List.map eI a2)] (.int r) := by
 refine hasC_mk TT_ok (rvs := [.tmp 6]) (ns := [0, 1, 2]) Try.func12 k k Try.ntmps12 k k k <| sQ <| rg <| ae (w_box k k k k) k <| ae (eff_assign k) k <| an <| tn <| sQ <| sQ <| rg ?_
 refine ae (w_load_ptr TT_ok k k k k k k k) k <| ae (eff_move k) k ?_
 obtain ⟨v1, hv1, h⟩ := ob h
 refine ae (w_call0s (c_spec_IsRoot a0 a1 v1 hv1) k (va_cons (va_agg' (v1_cons (v1_same k) (v1_cons (v1_same k) (v1_cons (v1_same k) v1_nil)))) (va_cons (va_same k) va_nil))) k <| ae (w_not k) k <| ae (eff_move k) k ?_
 rcases cb h with ⟨q2, h⟩ | ⟨q2, h⟩
 ·refine aops_lit 11 k q2 <| aops_skip k k <| aops_skip k k <| aops_skip k k <| aops_skip k k <| ae (eff_pick k k) k <| an <| tn <| ac_ent (t := mkS [(1, .list 1 (List.map eI a1)), (2, .list 1 (List.map eI a2)), (3, .ptr 0 0 0), (16, .bl true)] [(0, ⟨3, [[.int a0.n, .list 1 (List.map eI a0.src), .list 1 (List.map eI a0.tgt)]]⟩)] 1 [1, 2]) (ent_mk (σ := sg [(0, 0)]) ⟨⟨_, k, ⟨k, k⟩⟩, ⟨_, k, ⟨k, k⟩⟩, ⟨_, k, ⟨k, k, k, k⟩⟩, (e1 k k), trivial⟩ ⟨⟨_, k, k, .inl ⟨k, plain_of k⟩⟩, k, trivial⟩ k) <| ac_condT k k ?_
  refine sQ <| rg <| ae (eff_assign k) k <| an <| tn <| ac_ret <| then_ret ?_
  obtain rfl := so h
  exact ret_mk k k k (fz_int k)
 ·refine aops_lit 11 k q2 <| ae (w_load_ptr TT_ok k k k k k k k) k <| ae (eff_move k) k ?_
  obtain ⟨v3, hv3, h⟩ := ob h
  refine ae (w_call0s (c_spec_IsRoot a0 a2 v3 hv3) k (va_cons (va_agg' (v1_cons (v1_same k) (v1_cons (v1_same k) (v1_cons (v1_same k) v1_nil)))) (va_cons (va_same k) va_nil))) k <| ae (w_not k) k <| ae (eff_pick k k) k <| an <| tn <| ac_ent (t := mkS [(1, .list 1 (List.map eI a1)), (2, .list 1 (List.map eI a2)), (3, .ptr 0 0 0), (16, .bl (!v3))] [(0, ⟨3, [[.int a0.n, .list 1 (List.map eI a0.src), .list 1 (List.map eI a0.tgt)]]⟩)] 1 [1, 2]) (ent_mk (σ := sg [(0, 0)]) ⟨⟨_, k, ⟨k, k⟩⟩, ⟨_, k, ⟨k, k⟩⟩, ⟨_, k, ⟨k, k, k, k⟩⟩, (e1 k k), trivial⟩ ⟨⟨_, k, k, .inl ⟨k, plain_of k⟩⟩, k, trivial⟩ k) ?_
  rcases cb h with ⟨q4, h⟩ | ⟨q4, h⟩
  ·refine ac_condT k q4 <| sQ <| rg <| ae (eff_assign k) k <| an <| tn <| ac_ret <| then_ret ?_
   obtain rfl := so h
   exact ret_mk k k k (fz_int k)
  ·refine ac_condF k q4 <| ac_skip <| tn <| sQ <| rg <| ae (w_load_ptr TT_ok k k k k k k k) k <| ae (eff_move k) k <| ae (eff_move k) k ?_
   obtain ⟨v5, hv5, h⟩ := ob h
   refine ae (w_call0s (c_spec_EulerForm a0 a1 a2 v5 hv5) k (va_cons (va_agg' (v1_cons (v1_same k) (v1_cons (v1_same k) (v1_cons (v1_same k) v1_nil)))) (va_cons (va_same k) (va_cons (va_same k) va_nil)))) k <| ae (x_neg k) k <| ae (x_max k k) k <| ae (eff_assign k) k <| an <| tn <| ac_ret ?_
   obtain rfl := so h
   exact ret_mk k k k (fz_int k)

noncomputable def m_spec_AreCompatible (a0 : Qv) (a1 : (List Int)) (a2 : (List Int)) : Option Bool :=
  Option.bind (m_spec_RootExt a0 a1 a2) fun v1 =>
  bif decide (v1 = 0) then
    (Option.bind (m_spec_RootExt a0 a2 a1) fun v3 =>
    some (decide (v3 = 0)))
  else
    (some (false))

theorem c_spec_AreCompatible (a0 : Qv) (a1 : (List Int)) (a2 : (List Int)) (r : Bool) (h : m_spec_AreCompatible a0 a1 a2 = some r) : HasC Try.prog 20 [.agg (eQ a0), .list 1 (List.map eI a1), .list 1 (List.map eI a2)] (.bl r) := by
 refine hasC_mk TT_ok (rvs := [.tmp 6]) (ns := [0, 1, 2]) Try.func20 k k Try.ntmps20 k k k <| sQ <| rg <| ae (w_box k k k k) k <| ae (eff_assign k) k <| an <| tn <| sQ <| rg <| ae (w_load_ptr TT_ok k k k k k k k) k ?_
 refine ae (eff_move k) k <| ae (eff_move k) k ?_
 obtain ⟨v1, hv1, h⟩ := ob h
 refine ae (w_call0s (c_spec_RootExt a0 a1 a2 v1 hv1) k (va_cons (va_agg' (v1_cons (v1_same k) (v1_cons (v1_same k) (v1_cons (v1_same k) v1_nil)))) (va_cons (va_same k) (va_cons (va_same k) va_nil)))) k <| ae (w_cmp k k k) k <| ae (eff_move k) k ?_
 rcases cb h with ⟨q2, h⟩ | ⟨q2, h⟩
 ·refine aops_lit 12 k q2 <| ae (w_load_ptr TT_ok k k k k k k k) k <| ae (eff_move k) k <| ae (eff_move k) k ?_
  obtain ⟨v3, hv3, h⟩ := ob h
  refine ae (w_call0s (c_spec_RootExt a0 a2 a1 v3 hv3) k (va_cons (va_agg' (v1_cons (v1_same k) (v1_cons (v1_same k) (v1_cons (v1_same k) v1_nil)))) (va_cons (va_same k) (va_cons (va_same k) va_nil)))) k <| ae (w_cmp k k k) k <| ae (eff_pick k k) k <| ae (eff_assign k) k <| an <| tn <| ac_ent (t := mkS [(6, .bl (decide (v3 = 0)))] [] 1 [1, 2]) (ent_mk (σ := sg []) ⟨(e1 k k), trivial⟩ trivial k) <| ac_ret ?_
  obtain rfl := so h
  exact ret_mk k k k (fz_bl k)
 ·refine aops_lit 12 k q2 <| aops_skip k k <| aops_skip k k <| aops_skip k k <| aops_skip k k <| aops_skip k k <| ae (eff_pick k k) k <| ae (eff_assign k) k <| an <| tn ?_
  refine ac_ent (t := mkS [(6, .bl false)] [] 1 [1, 2]) (ent_mk (σ := sg []) ⟨(e1 k k), trivial⟩ trivial k) <| ac_ret ?_
  obtain rfl := so h
  exact ret_mk k k k (fz_bl k)

noncomputable def m_spec_IsTilting_L2 (a0 : Qv) (a1 : (List (List Int))) (x1 : Int) (x2 : Int) : Option (Int ⊕ (Unit ⊕ Bool)) :=
  bif decide (x2 < x1) then
    (Option.bind (atL a1 x1) fun v9 =>
    Option.bind (atL a1 x2) fun v10 =>
    Option.bind (m_spec_l6Same v9 v10) fun v11 =>
    bif v11 then
      (some (.inr (.inr (false))))
    else
      (Option.bind (atL a1 x1) fun v13 =>
      Option.bind (atL a1 x2) fun v14 =>
      Option.bind (m_spec_AreCompatible a0 v13 v14) fun v15 =>
      bif !v15 then
        (some (.inr (.inr (false))))
      else
        (some (.inl (wr (x2 + 1))))))
  else
    (some (.inr (.inl ())))

noncomputable def m_spec_IsTilting_L1 (a0 : Qv) (a1 : (List (List Int))) (x1 : Int) : Option (Int ⊕ (Unit ⊕ Bool)) :=
  bif decide (x1 < (a1.length : Int)) then
    (Option.bind (atL a1 x1) fun v5 =>
    Option.bind (m_spec_IsRoot a0 v5) fun v6 =>
    bif !v6 then
      (some (.inr (.inr (false))))
    else
      (Option.bind (Lp (m_spec_IsTilting_L2 a0 a1 x1) 0) fun y17 =>
      Sum.elim (fun y18 =>
        some (.inl (wr (x1 + 1)))
      ) 
      (fun y19 =>
        some (.inr (.inr y19))
      )
       y17))
  else
    (some (.inr (.inl ())))

noncomputable def m_spec_IsTilting (a0 : Qv) (a1 : (List (List Int))) : Option Bool :=
  Option.bind (m_spec_IsQuiver a0) fun v1 =>
  bif !v1 then
    (some (false))
  else
    (bif !decide ((a1.length : Int) = a0.n) then
      (some (false))
    else
      (Option.bind (Lp (m_spec_IsTilting_L1 a0 a1) 0) fun y20 =>
      Sum.elim (fun y21 =>
        some (true)
      ) 
      (fun y22 =>
        some y22
      )
       y20))

theorem c_spec_IsTilting (a0 : Qv) (a1 : (List (List Int))) (r : Bool) (h : m_spec_IsTilting a0 a1 = some r) : HasC Try.prog 31 [.agg (eQ a0), .list 1 (List.map (eLs 1 eI) a1)] (.bl r) := by
 refine hasC_mk TT_ok (rvs := [.tmp 4]) (ns := [0, 1, 2]) Try.func31 k k Try.ntmps31 k k k <| sQ <| rg <| ae (w_box k k k k) k <| ae (eff_assign k) k <| an <| tn <| sQ <| sQ <| rg ?_
 refine ae (w_load_ptr TT_ok k k k k k k k) k ?_
 obtain ⟨v1, hv1, h⟩ := ob h
 refine ae (w_call0s (c_spec_IsQuiver a0 v1 hv1) k (va_cons (va_agg' (v1_cons (v1_same k) (v1_cons (v1_same k) (v1_cons (v1_same k) v1_nil)))) va_nil)) k <| ae (w_not k) k <| ae (eff_move k) k ?_
 rcases cb h with ⟨q2, h⟩ | ⟨q2, h⟩
 ·refine aops_lit 10 k q2 <| aops_skip k k <| aops_skip k k <| aops_skip k k <| aops_skip k k <| aops_skip k k <| ae (eff_pick k k) k <| an <| tn <| ac_ent (t := mkS [(1, .list 1 (List.map (eLs 1 eI) a1)), (2, .ptr 0 0 0), (16, .bl true)] [(0, ⟨3, [[.int a0.n, .list 1 (List.map eI a0.src), .list 1 (List.map eI a0.tgt)]]⟩)] 1 [1, 2]) (ent_mk (σ := sg [(0, 0)]) ⟨⟨_, k, ⟨k, k⟩⟩, ⟨_, k, ⟨k, k, k, k⟩⟩, (e1 k k), trivial⟩ ⟨⟨_, k, k, .inl ⟨k, plain_of k⟩⟩, k, trivial⟩ k) ?_
  refine ac_condT k k <| sQ <| rg <| ae (eff_assign k) k <| an <| tn <| ac_ret <| then_ret ?_
  obtain rfl := so h
  exact ret_mk k k k (fz_bl k)
 ·refine aops_lit 10 k q2 <| ae (eff_move k) k <| ae (AEff.val (w_len_list TT_ok k k k) (v' := .int (a1.length : Int)) (by first | rw [len_map] | rw [encI_len])) k <| ae (w_field_ptr TT_ok k k k k k k k) k <| ae (w_load_ptr TT_ok k k k k k k k) k <| ae (w_cmp k k k) k <| ae (eff_pick k k) k <| an <| tn <| ac_ent (t := mkS [(1, .list 1 (List.map (eLs 1 eI) a1)), (2, .ptr 0 0 0), (16, .bl (!decide ((a1.length : Int) = a0.n)))] [(0, ⟨3, [[.int a0.n, .list 1 (List.map eI a0.src), .list 1 (List.map eI a0.tgt)]]⟩)] 1 [1, 2]) (ent_mk (σ := sg [(0, 0)]) ⟨⟨_, k, ⟨k, k⟩⟩, ⟨_, k, ⟨k, k, k, k⟩⟩, (e1 k k), trivial⟩ ⟨⟨_, k, k, .inl ⟨k, plain_of k⟩⟩, k, trivial⟩ k) ?_
  rcases cb h with ⟨q3, h⟩ | ⟨q3, h⟩
  ·refine ac_condT k q3 <| sQ <| rg <| ae (eff_assign k) k <| an <| tn <| ac_ret <| then_ret ?_
   obtain rfl := so h
   exact ret_mk k k k (fz_bl k)
  ·refine ac_condF k q3 <| ac_skip <| tn <| sQ <| sQ <| rg <| ae (eff_assign k) k <| an <| tn <| ac_block ?_
   obtain ⟨y20, hy20, h⟩ := ob h
   refine ac_Lp (body := (m_spec_IsTilting_L1 a0 a1)) hy20 (fun (x1 : Int) => mkS [(1, .list 1 (List.map (eLs 1 eI) a1)), (2, .ptr 0 0 0), (5, .int x1)] [(0, ⟨3, [[.int a0.n, .list 1 (List.map eI a0.src), .list 1 (List.map eI a0.tgt)]]⟩)] 1 [1, 2]) (fun r e t => Sum.elim (fun a => (fun r e t => e = .exit 0 ∧ Ent t (mkS [] [] 0 [0, 1, 2])) a e t) (fun b => (fun r e t => e = .ret ∧ RetQ TT [.tmp 4] (.bl r) .ret t) b e t) r) (ent_mk (σ := sg [(0, 0)]) ⟨⟨_, k, ⟨k, k⟩⟩, ⟨_, k, ⟨k, k, k, k⟩⟩, (e1 k k), trivial⟩ ⟨⟨_, k, k, .inl ⟨k, plain_of k⟩⟩, k, trivial⟩ k) ?_ ?_
   ·intro x1 o h
    refine sQ <| sQ <| rg <| ae (eff_move k) k <| ae (eff_move k) k <| ae (AEff.val (w_len_list TT_ok k k k) (v' := .int (a1.length : Int)) (by first | rw [len_map] | rw [encI_len])) k <| ae (w_cmp k k k) k <| an <| tn ?_
    rcases cb h with ⟨q4, h⟩ | ⟨q4, h⟩
    ·refine ac_condT k q4 <| ac_skip <| tn <| sQ <| ac_block <| sQ <| sQ <| ac_region_draw MIXX <| ae (w_load_ptr TT_ok k k k k k k k) k <| ae (eff_move k) k ?_
     refine ae (eff_move k) k ?_
     obtain ⟨v5, hv5, h⟩ := ob h
     refine ae (x_at_list TT_ok hv5 k k k k k k) k <| ae (w_load_ref TT_ok k k k k k k) k ?_
     obtain ⟨v6, hv6, h⟩ := ob h
     refine ae (w_call0s (c_spec_IsRoot a0 v5 v6 hv6) k (va_cons (va_agg' (v1_cons (v1_same k) (v1_cons (v1_same k) (v1_cons (v1_same k) v1_nil)))) (va_cons (va_same k) va_nil))) k <| ae (w_not k) k <| an ?_
     refine ⟨by kernel_rfl, ?_⟩
     refine tn ?_
     rcases cb h with ⟨q7, h⟩ | ⟨q7, h⟩
     ·refine ac_condT k q7 <| sQ <| rg <| ae (eff_assign k) k <| an <| tn <| ac_ent (t := mkS [(4, .bl false)] [] 1 [1, 2]) (ent_mk (σ := sg []) ⟨(e1 k k), trivial⟩ trivial k) <| ac_ret <| then_ret <| block_ret ?_
      refine then_ret <| then_ret ?_
      obtain rfl := so h
      exact ⟨_, k, k, ret_mk k k k (fz_bl k)⟩
     ·refine ac_condF k q7 <| ac_skip <| tn <| sQ <| rg <| ae (eff_assign k) k <| an <| tn <| ac_ent (t := mkS [(1, .list 1 (List.map (eLs 1 eI) a1)), (2, .ptr 0 0 0), (5, .int x1), (6, .int 0)] [(0, ⟨3, [[.int a0.n, .list 1 (List.map eI a0.src), .list 1 (List.map eI a0.tgt)]]⟩)] 1 [1, 2]) (ent_mk (σ := sg [(0, 0)]) ⟨⟨_, k, ⟨k, k⟩⟩, ⟨_, k, ⟨k, k, k, k⟩⟩, (e1 k k), (e1 k k), trivial⟩ ⟨⟨_, k, k, .inl ⟨k, plain_of k⟩⟩, k, trivial⟩ k) <| ac_block ?_
      obtain ⟨y17, hy17, h⟩ := ob h
      refine ac_Lp (body := (m_spec_IsTilting_L2 a0 a1 x1)) hy17 (fun (x2 : Int) => mkS [(1, .list 1 (List.map (eLs 1 eI) a1)), (2, .ptr 0 0 0), (5, .int x1), (6, .int x2)] [(0, ⟨3, [[.int a0.n, .list 1 (List.map eI a0.src), .list 1 (List.map eI a0.tgt)]]⟩)] 1 [1, 2]) (fun r e t => Sum.elim (fun a => (fun r e t => e = .exit 2 ∧ Ent t (mkS [(1, .list 1 (List.map (eLs 1 eI) a1)), (2, .ptr 0 0 0), (5, .int x1)] [(0, ⟨3, [[.int a0.n, .list 1 (List.map eI a0.src), .list 1 (List.map eI a0.tgt)]]⟩)] 1 [1, 2])) a e t) (fun b => (fun r e t => e = .ret ∧ RetQ TT [.tmp 4] (.bl r) .ret t) b e t) r) (ent_mk (σ := sg [(0, 0)]) ⟨⟨_, k, ⟨k, k⟩⟩, ⟨_, k, ⟨k, k, k, k⟩⟩, (e1 k k), (e1 k k), trivial⟩ ⟨⟨_, k, k, .inl ⟨k, plain_of k⟩⟩, k, trivial⟩ k) ?_ ?_
      ·intro x2 o h
       refine sQ <| sQ <| rg <| ae (eff_move k) k <| ae (eff_move k) k <| ae (w_cmp k k k) k <| an <| tn ?_
       rcases cb h with ⟨q8, h⟩ | ⟨q8, h⟩
       ·refine ac_condT k q8 <| ac_skip <| tn <| sQ <| ac_block <| sQ <| ac_region_draw MIXX <| ae (eff_move k) k <| ae (eff_move k) k ?_
        obtain ⟨v9, hv9, h⟩ := ob h
        refine ae (x_at_list TT_ok hv9 k k k k k k) k <| ae (w_load_ref TT_ok k k k k k k) k <| ae (eff_move k) k <| ae (eff_move k) k ?_
        obtain ⟨v10, hv10, h⟩ := ob h
        refine ae (x_at_list TT_ok hv10 k k k k k k) k <| ae (w_load_ref TT_ok k k k k k k) k ?_
        obtain ⟨v11, hv11, h⟩ := ob h
        refine ae (w_call0s (c_spec_l6Same v9 v10 v11 hv11) k (va_cons (va_same k) (va_cons (va_same k) va_nil))) k <| ae (eff_move k) k ?_
        rcases cb h with ⟨q12, h⟩ | ⟨q12, h⟩
        ·refine aops_lit 44 k q12 <| aops_skip k k <| aops_skip k k <| aops_skip k k <| aops_skip k k <| aops_skip k k <| aops_skip k k <| aops_skip k k <| aops_skip k k <| aops_skip k k ?_
         refine aops_skip k k <| aops_skip k k <| ae (eff_pick k k) k <| an ?_
         refine ⟨by kernel_rfl, ?_⟩
         refine tn <| ac_ent (t := mkS [(1, .list 1 (List.map (eLs 1 eI) a1)), (2, .ptr 0 0 0), (5, .int x1), (6, .int x2), (56, .bl true)] [(0, ⟨3, [[.int a0.n, .list 1 (List.map eI a0.src), .list 1 (List.map eI a0.tgt)]]⟩)] 1 [1, 2]) (ent_mk (σ := sg [(0, 0)]) ⟨⟨_, k, ⟨k, k⟩⟩, ⟨_, k, ⟨k, k, k, k⟩⟩, (e1 k k), (e1 k k), (e1 k k), trivial⟩ ⟨⟨_, k, k, .inl ⟨k, plain_of k⟩⟩, k, trivial⟩ k) <| ac_condT k k <| sQ <| rg <| ae (eff_assign k) k <| an <| tn <| ac_ret <| block_ret ?_
         refine then_ret <| then_ret ?_
         obtain rfl := so h
         exact ⟨_, k, k, ret_mk k k k (fz_bl k)⟩
        ·refine aops_lit 44 k q12 <| ae (w_load_ptr TT_ok k k k k k k k) k <| ae (eff_move k) k <| ae (eff_move k) k ?_
         obtain ⟨v13, hv13, h⟩ := ob h
         refine ae (x_at_list TT_ok hv13 k k k k k k) k <| ae (w_load_ref TT_ok k k k k k k) k <| ae (eff_move k) k <| ae (eff_move k) k ?_
         obtain ⟨v14, hv14, h⟩ := ob h
         refine ae (x_at_list TT_ok hv14 k k k k k k) k <| ae (w_load_ref TT_ok k k k k k k) k ?_
         obtain ⟨v15, hv15, h⟩ := ob h
         refine ae (w_call0s (c_spec_AreCompatible a0 v13 v14 v15 hv15) k (va_cons (va_agg' (v1_cons (v1_same k) (v1_cons (v1_same k) (v1_cons (v1_same k) v1_nil)))) (va_cons (va_same k) (va_cons (va_same k) va_nil)))) k <| ae (w_not k) k <| ae (eff_pick k k) k <| an ?_
         refine ⟨by kernel_rfl, ?_⟩
         refine tn <| ac_ent (t := mkS [(1, .list 1 (List.map (eLs 1 eI) a1)), (2, .ptr 0 0 0), (5, .int x1), (6, .int x2), (56, .bl (!v15))] [(0, ⟨3, [[.int a0.n, .list 1 (List.map eI a0.src), .list 1 (List.map eI a0.tgt)]]⟩)] 1 [1, 2]) (ent_mk (σ := sg [(0, 0)]) ⟨⟨_, k, ⟨k, k⟩⟩, ⟨_, k, ⟨k, k, k, k⟩⟩, (e1 k k), (e1 k k), (e1 k k), trivial⟩ ⟨⟨_, k, k, .inl ⟨k, plain_of k⟩⟩, k, trivial⟩ k) ?_
         rcases cb h with ⟨q16, h⟩ | ⟨q16, h⟩
         ·refine ac_condT k q16 <| sQ <| rg <| ae (eff_assign k) k <| an <| tn <| ac_ret <| block_ret <| then_ret <| then_ret ?_
          obtain rfl := so h
          exact ⟨_, k, k, ret_mk k k k (fz_bl k)⟩
         ·refine ac_condF k q16 <| ac_skip <| block_n <| tn <| rg <| ae (eff_move k) k <| ae (x_add k k) k <| ae (eff_assign k) k <| an <| tn ?_
          obtain rfl := so h
          exact ⟨_, k, (ent_mk (σ := sg [(0, 0)]) ⟨⟨_, k, ⟨k, k⟩⟩, ⟨_, k, ⟨k, k, k, k⟩⟩, (e1 k k), (e1 k k), trivial⟩ ⟨⟨_, k, k, .inl ⟨k, plain_of k⟩⟩, k, trivial⟩ k)⟩
       ·refine ac_condF k q8 <| ac_exit <| then_exit <| then_exit ?_
        obtain rfl := so h
        exact ⟨_, k, k, (ent_mk (σ := sg [(0, 0)]) ⟨⟨_, k, ⟨k, k⟩⟩, ⟨_, k, ⟨k, k, k, k⟩⟩, (e1 k k), trivial⟩ ⟨⟨_, k, k, .inl ⟨k, plain_of k⟩⟩, k, trivial⟩ k)⟩
      ·intro e t hX
       rcases y17 with y18 | y19
       ·obtain ⟨rfl, hent⟩ := hX
        refine block_here <| block_n <| tn <| ac_ent hent <| rg <| ae (eff_move k) k <| ae (x_add k k) k <| ae (eff_assign k) k <| an <| tn ?_
        obtain rfl := so h
        exact ⟨_, k, (ent_mk (σ := sg [(0, 0)]) ⟨⟨_, k, ⟨k, k⟩⟩, ⟨_, k, ⟨k, k, k, k⟩⟩, (e1 k k), trivial⟩ ⟨⟨_, k, k, .inl ⟨k, plain_of k⟩⟩, k, trivial⟩ k)⟩
       ·obtain ⟨rfl, hent⟩ := hX
        refine block_ret <| block_ret <| then_ret <| then_ret ?_
        obtain rfl := so h
        exact ⟨_, k, k, hent⟩
    ·refine ac_condF k q4 <| ac_exit <| then_exit <| then_exit ?_
     obtain rfl := so h
     exact ⟨_, k, k, (ent_mk (σ := sg []) trivial trivial k)⟩
   ·intro e t hX
    rcases y20 with y21 | y22
    ·obtain ⟨rfl, hent⟩ := hX
     refine block_here <| tn <| ac_ent hent <| sQ <| rg <| ae (eff_assign k) k <| an <| tn <| ac_ret ?_
     obtain rfl := so h
     exact ret_mk k k k (fz_bl k)
    ·obtain ⟨rfl, hent⟩ := hX
     refine block_ret <| then_ret ?_
     obtain rfl := so h
     exact hent

noncomputable def m_impl_roots_1 (a0 : (List Int)) (a1 : (List Int)) : Option Int :=
  Option.bind (m_impl_sumOf a0) fun v1 =>
  Option.bind (m_impl_sumOf a1) fun v2 =>
  some (wr (v1 - v2))

theorem c_impl_roots_1 (a0 : (List Int)) (a1 : (List Int)) (r : Int) (h : m_impl_roots_1 a0 a1 = some r) : HasC Try.prog 96 [.list 1 (List.map eI a0), .list 1 (List.map eI a1)] (.int r) := by
 refine hasC_mk TT_ok (rvs := [.tmp 4]) (ns := [0, 1]) Try.func96 k k Try.ntmps96 k k k <| sQ <| rg <| ae (eff_assign k) k <| an <| tn <| sQ <| rg <| ae (eff_move k) k ?_
 obtain ⟨v1, hv1, h⟩ := ob h
 refine ae (w_call0s (c_impl_sumOf a0 v1 hv1) k (va_cons (va_same k) va_nil)) k <| ae (eff_move k) k ?_
 obtain ⟨v2, hv2, h⟩ := ob h
 refine ae (w_call0s (c_impl_sumOf a1 v2 hv2) k (va_cons (va_same k) va_nil)) k <| ae (x_sub k k) k <| ae (eff_assign k) k <| an <| tn <| ac_ret ?_
 obtain rfl := so h
 exact ret_mk k k k (fz_int k)

noncomputable def m_slices_insertionSortCmpFunc_Lint_L2 (a1 : Int) (x2 : ((List (List Int)) × Int)) : Option (((List (List Int)) × Int) ⊕ (List (List Int))) :=
  bif decide (a1 < x2.2) then
    (Option.bind (atL x2.1 x2.2) fun v3 =>
    Option.bind (atL x2.1 (wr (x2.2 - 1))) fun v4 =>
    Option.bind (m_impl_roots_1 v3 v4) fun v5 =>
    bif decide (v5 < 0) then
      (Option.bind (atL x2.1 (wr (x2.2 - 1))) fun v7 =>
      Option.bind (atL x2.1 x2.2) fun v8 =>
      Option.bind (atL x2.1 x2.2) fun v9 =>
      Option.bind (atL (x2.1.set x2.2.toNat v7) (wr (x2.2 - 1))) fun v10 =>
      some (.inl (((x2.1.set x2.2.toNat v7).set ((wr (x2.2 - 1)).toNat) v8), wr (x2.2 - 1))))
    else
      (some (.inr x2.1)))
  else
    (some (.inr x2.1))

noncomputable def m_slices_insertionSortCmpFunc_Lint_L1 (a1 : Int) (a2 : Int) (x1 : ((List (List Int)) × Int)) : Option (((List (List Int)) × Int) ⊕ (List (List Int))) :=
  bif decide (x1.2 < a2) then
    (Option.bind (Lp (m_slices_insertionSortCmpFunc_Lint_L2 a1) (x1.1, x1.2)) fun y11 =>
    some (.inl (y11, wr (x1.2 + 1))))
  else
    (some (.inr x1.1))

noncomputable def m_slices_insertionSortCmpFunc_Lint (a0 : (List (List Int))) (a1 : Int) (a2 : Int) : Option (List (List Int)) :=
  Option.bind (Lp (m_slices_insertionSortCmpFunc_Lint_L1 a1 a2) (a0, wr (a1 + 1))) fun y12 =>
  some y12

theorem c_slices_insertionSortCmpFunc_Lint (a0 : (List (List Int))) (a1 : Int) (a2 : Int) (r : (List (List Int))) (h : m_slices_insertionSortCmpFunc_Lint a0 a1 a2 = some r) : HasE Try.prog 124 [.own 0 0 a0.length, .int a1, .int a2, .fn 96 []] [(0, ⟨1, List.map (eLs 1 eI) a0⟩), (1, ⟨1, [[.own 0 0 a0.length]]⟩)] 2 (.tuple []) [(0, ⟨1, List.map (eLs 1 eI) r⟩), (1, ⟨1, [[.own 0 0 r.length]]⟩)] := by
 refine hasE_mk TT_ok (rvs := []) (ns := [2, 3]) Try.func124 k k Try.ntmps124 k k <| sQ <| rgS <| se (eff_move k) k <| se (x_add k k) k <| se (eff_assign k) k <| sn <| tn <| ac_block ?_
 obtain ⟨y12, hy12, h⟩ := ob h
 refine ac_Lp (body := (m_slices_insertionSortCmpFunc_Lint_L1 a1 a2)) hy12 (fun (x1 : ((List (List Int)) × Int)) => mkS [(0, .own 0 0 x1.1.length), (1, .int a1), (2, .int a2), (3, .fn 96 []), (8, .int x1.2)] [(0, ⟨1, List.map (eLs 1 eI) x1.1⟩), (1, ⟨1, [[.own 0 0 x1.1.length]]⟩)] 2 [2, 3] 2) (fun r e t => e = .exit 0 ∧ Ent t (mkS [] [(0, ⟨1, List.map (eLs 1 eI) r⟩), (1, ⟨1, [[.own 0 0 r.length]]⟩)] 2 [2, 3] 2)) (ent_mk (σ := sg [(0, 0), (1, 1)]) ⟨⟨_, k, ⟨k, k, k, k⟩⟩, (e1 k k), (e1 k k), ⟨_, k, ⟨k, k⟩⟩, (e1 k k), trivial⟩ ⟨⟨_, k, k, .inl ⟨k, okLs.plainE _⟩⟩, k, ⟨_, k, k, .inr ⟨_, _, k, ⟨_, _, k, ⟨k, k, k, k⟩, k⟩, k⟩⟩, k, trivial⟩ k) ?_ ?_
 ·intro x1 o h
  refine sQ <| sQ <| rgS <| se (eff_move k) k <| se (eff_move k) k <| se (w_cmp k k k) k <| sn <| tn ?_
  rcases cb h with ⟨q1, h⟩ | ⟨q1, h⟩
  ·refine ac_condT k q1 <| ac_skip <| tn <| sQ <| ac_block <| sQ <| rgS <| se (eff_move k) k <| se (eff_assign k) k <| sn ?_
   refine tn <| ac_block ?_
   obtain ⟨y11, hy11, h⟩ := ob h
   refine ac_Lp (body := (m_slices_insertionSortCmpFunc_Lint_L2 a1)) hy11 (fun (x2 : ((List (List Int)) × Int)) => mkS [(0, .own 0 0 x2.1.length), (1, .int a1), (2, .int a2), (3, .fn 96 []), (8, .int x1.2), (9, .int x2.2)] [(0, ⟨1, List.map (eLs 1 eI) x2.1⟩), (1, ⟨1, [[.own 0 0 x2.1.length]]⟩)] 2 [2, 3] 2) (fun r e t => e = .exit 2 ∧ Ent t (mkS [(0, .own 0 0 r.length), (1, .int a1), (2, .int a2), (3, .fn 96 []), (8, .int x1.2)] [(0, ⟨1, List.map (eLs 1 eI) r⟩), (1, ⟨1, [[.own 0 0 r.length]]⟩)] 2 [2, 3] 2)) (ent_mk (σ := sg [(0, 0), (1, 1)]) ⟨⟨_, k, ⟨k, k, k, k⟩⟩, (e1 k k), (e1 k k), ⟨_, k, ⟨k, k⟩⟩, (e1 k k), (e1 k k), trivial⟩ ⟨⟨_, k, k, .inl ⟨k, okLs.plainE _⟩⟩, k, ⟨_, k, k, .inr ⟨_, _, k, ⟨_, _, k, ⟨k, k, k, k⟩, k⟩, k⟩⟩, k, trivial⟩ k) ?_ ?_
   ·intro x2 o h
    refine sQ <| sQ <| ac_region_draw MIXX <| ae (eff_move k) k <| ae (eff_move k) k <| ae (w_cmp k k k) k <| ae (eff_move k) k ?_
    rcases cb h with ⟨q2, h⟩ | ⟨q2, h⟩
    ·refine aops_lit 21 k q2 <| ae (eff_move k) k <| ae (eff_move k) k <| ae (eff_move k) k ?_
     obtain ⟨v3, hv3, h⟩ := ob h
     refine ae (x_at_own TT_ok (atL_nn hv3) (atL_lt hv3) k k k k k k k) k <| ae (w_load_ptr TT_ok k k k k (map_at (atL_get hv3)) k k) k <| ae (eff_move k) k <| ae (eff_move k) k <| ae (x_sub k k) k ?_
     obtain ⟨v4, hv4, h⟩ := ob h
     refine ae (x_at_own TT_ok (atL_nn hv4) (atL_lt hv4) k k k k k k k) k <| ae (w_load_ptr TT_ok k k k k (map_at (atL_get hv4)) k k) k ?_
     obtain ⟨v5, hv5, h⟩ := ob h
     refine ae (w_call0v (c_impl_roots_1 v3 v4 v5 hv5) k k (va_cons (va_same k) (va_cons (va_same k) va_nil))) k <| ae (w_cmp k k k) k <| ae (eff_pick k k) k <| an ?_
     refine ⟨by kernel_rfl, ?_⟩
     refine tn <| ac_ent (t := mkS [(0, .own 0 0 x2.1.length), (1, .int a1), (2, .int a2), (3, .fn 96 []), (8, .int x1.2), (9, .int x2.2), (34, .bl (decide (v5 < 0)))] [(0, ⟨1, List.map (eLs 1 eI) x2.1⟩), (1, ⟨1, [[.own 0 0 x2.1.length]]⟩)] 2 [2, 3] 2) (ent_mk (σ := sg [(0, 0), (1, 1)]) ⟨⟨_, k, ⟨k, k, k, k⟩⟩, (e1 k k), (e1 k k), ⟨_, k, ⟨k, k⟩⟩, (e1 k k), (e1 k k), (e1 k k), trivial⟩ ⟨⟨_, k, k, .inl ⟨k, okLs.plainE _⟩⟩, k, ⟨_, k, k, .inr ⟨_, _, k, ⟨_, _, k, ⟨k, k, k, k⟩, k⟩, k⟩⟩, k, trivial⟩ k) ?_
     rcases cb h with ⟨q6, h⟩ | ⟨q6, h⟩
     ·refine ac_condT k q6 <| ac_skip <| tn <| sQ <| ac_block <| ac_region_draw MIXX <| ae (eff_move k) k <| ae (eff_move k) k <| ae (eff_move k) k <| ae (eff_move k) k ?_
      refine ae (x_sub k k) k <| ae (eff_move k) k <| ae (eff_move k) k <| ae (x_sub k k) k ?_
      obtain ⟨v7, hv7, h⟩ := ob h
      refine ae (x_at_own TT_ok (atL_nn hv7) (atL_lt hv7) k k k k k k k) k <| ae (w_load_ptr TT_ok k k k k (map_at (atL_get hv7)) k k) k <| ae (eff_move k) k <| ae (eff_move k) k ?_
      obtain ⟨v8, hv8, h⟩ := ob h
      refine ae (x_at_own TT_ok (atL_nn hv8) (atL_lt hv8) k k k k k k k) k <| ae (w_load_ptr TT_ok k k k k (map_at (atL_get hv8)) k k) k ?_
      obtain ⟨v9, hv9, h⟩ := ob h
      refine ae (x_at_own TT_ok (atL_nn hv9) (atL_lt hv9) k k k k k k k) k <| ae (x_store TT_ok (e := (eLs 1 eI)) (val := .list 1 (List.map eI v7)) okLs (u := v7) (atL_get hv9) k k k k k k) k ?_
      obtain ⟨v10, hv10, h⟩ := ob h
      refine ae (x_at_own TT_ok (n := x2.1.length) (atL_nn hv10) (Nat.lt_of_lt_of_eq (atL_lt hv10) (by simp only [List.length_set])) k k k k k k k) k <| ae (x_store TT_ok (e := (eLs 1 eI)) (val := .list 1 (List.map eI v8)) okLs (u := v8) (atL_get hv10) k k k k k k) k <| an ?_
      refine ⟨by kernel_rfl, ?_⟩
      refine block_n <| tn <| ac_ent (t := mkS [(0, .own 0 0 (((x2.1.set x2.2.toNat v7).set ((wr (x2.2 - 1)).toNat) v8).length)), (1, .int a1), (2, .int a2), (3, .fn 96 []), (8, .int x1.2), (9, .int x2.2)] [(0, ⟨1, List.map (eLs 1 eI) ((x2.1.set x2.2.toNat v7).set ((wr (x2.2 - 1)).toNat) v8)⟩), (1, ⟨1, [[.own 0 0 (((x2.1.set x2.2.toNat v7).set ((wr (x2.2 - 1)).toNat) v8).length)]]⟩)] 2 [2, 3] 2) (ent_mk (σ := sg [(0, 0), (1, 1)]) ⟨⟨_, k, ⟨k, k, (by simp only [len_map, List.length_append, List.length_set, List.length_replicate, List.length_cons, List.length_nil]), k⟩⟩, (e1 k k), (e1 k k), ⟨_, k, ⟨k, k⟩⟩, (e1 k k), (e1 k k), trivial⟩ ⟨⟨_, k, k, .inl ⟨k, okLs.plainE _⟩⟩, k, ⟨_, k, k, .inr ⟨_, _, k, ⟨_, _, k, ⟨k, k, (by simp only [len_map, List.length_append, List.length_set, List.length_replicate, List.length_cons, List.length_nil]), k⟩, k⟩, k⟩⟩, k, trivial⟩ k) <| rgS <| se (eff_move k) k <| se (x_sub k k) k <| se (eff_assign k) k <| sn <| tn ?_
      obtain rfl := so h
      exact ⟨_, k, (ent_mk (σ := sg [(0, 0), (1, 1)]) ⟨⟨_, k, ⟨k, k, k, k⟩⟩, (e1 k k), (e1 k k), ⟨_, k, ⟨k, k⟩⟩, (e1 k k), (e1 k k), trivial⟩ ⟨⟨_, k, k, .inl ⟨k, okLs.plainE _⟩⟩, k, ⟨_, k, k, .inr ⟨_, _, k, ⟨_, _, k, ⟨k, k, k, k⟩, k⟩, k⟩⟩, k, trivial⟩ k)⟩
     ·refine ac_condF k q6 <| ac_exit <| then_exit <| then_exit ?_
      obtain rfl := so h
      exact ⟨_, k, k, (ent_mk (σ := sg [(0, 0), (1, 1)]) ⟨⟨_, k, ⟨k, k, k, k⟩⟩, (e1 k k), (e1 k k), ⟨_, k, ⟨k, k⟩⟩, (e1 k k), trivial⟩ ⟨⟨_, k, k, .inl ⟨k, okLs.plainE _⟩⟩, k, ⟨_, k, k, .inr ⟨_, _, k, ⟨_, _, k, ⟨k, k, k, k⟩, k⟩, k⟩⟩, k, trivial⟩ k)⟩
    ·refine aops_lit 21 k q2 <| aops_skip k k <| aops_skip k k <| aops_skip k k <| aops_skip k k <| aops_skip k k <| aops_skip k k <| aops_skip k k <| aops_skip k k <| aops_skip k k ?_
     refine aops_skip k k <| aops_skip k k <| aops_skip k k <| ae (eff_pick k k) k <| an ?_
     refine ⟨by kernel_rfl, ?_⟩
     refine tn <| ac_ent (t := mkS [(0, .own 0 0 x2.1.length), (1, .int a1), (2, .int a2), (3, .fn 96 []), (8, .int x1.2), (9, .int x2.2), (34, .bl false)] [(0, ⟨1, List.map (eLs 1 eI) x2.1⟩), (1, ⟨1, [[.own 0 0 x2.1.length]]⟩)] 2 [2, 3] 2) (ent_mk (σ := sg [(0, 0), (1, 1)]) ⟨⟨_, k, ⟨k, k, k, k⟩⟩, (e1 k k), (e1 k k), ⟨_, k, ⟨k, k⟩⟩, (e1 k k), (e1 k k), (e1 k k), trivial⟩ ⟨⟨_, k, k, .inl ⟨k, okLs.plainE _⟩⟩, k, ⟨_, k, k, .inr ⟨_, _, k, ⟨_, _, k, ⟨k, k, k, k⟩, k⟩, k⟩⟩, k, trivial⟩ k) <| ac_condF k k <| ac_exit <| then_exit <| then_exit ?_
     obtain rfl := so h
     exact ⟨_, k, k, (ent_mk (σ := sg [(0, 0), (1, 1)]) ⟨⟨_, k, ⟨k, k, k, k⟩⟩, (e1 k k), (e1 k k), ⟨_, k, ⟨k, k⟩⟩, (e1 k k), trivial⟩ ⟨⟨_, k, k, .inl ⟨k, okLs.plainE _⟩⟩, k, ⟨_, k, k, .inr ⟨_, _, k, ⟨_, _, k, ⟨k, k, k, k⟩, k⟩, k⟩⟩, k, trivial⟩ k)⟩
   ·rintro e t ⟨rfl, hent⟩
    refine block_here <| block_n <| tn <| ac_ent hent <| rgS <| se (eff_move k) k <| se (x_add k k) k <| se (eff_assign k) k <| sn <| tn ?_
    obtain rfl := so h
    exact ⟨_, k, (ent_mk (σ := sg [(0, 0), (1, 1)]) ⟨⟨_, k, ⟨k, k, k, k⟩⟩, (e1 k k), (e1 k k), ⟨_, k, ⟨k, k⟩⟩, (e1 k k), trivial⟩ ⟨⟨_, k, k, .inl ⟨k, okLs.plainE _⟩⟩, k, ⟨_, k, k, .inr ⟨_, _, k, ⟨_, _, k, ⟨k, k, k, k⟩, k⟩, k⟩⟩, k, trivial⟩ k)⟩
  ·refine ac_condF k q1 <| ac_exit <| then_exit <| then_exit ?_
   obtain rfl := so h
   exact ⟨_, k, k, (ent_mk (σ := sg [(0, 0), (1, 1)]) trivial ⟨⟨_, k, k, .inl ⟨k, okLs.plainE _⟩⟩, k, ⟨_, k, k, .inr ⟨_, _, k, ⟨_, _, k, ⟨k, k, k, k⟩, k⟩, k⟩⟩, k, trivial⟩ k)⟩
 ·rintro e t ⟨rfl, hent⟩
  refine block_here ?_
  obtain rfl := so h
  exact ⟨mkS [] [(0, ⟨1, List.map (eLs 1 eI) y12⟩), (1, ⟨1, [[.own 0 0 y12.length]]⟩)] 2 [2, 3] 2, (Ent.trans hent (ent_mk (σ := sg [(0, 0), (1, 1)]) trivial ⟨⟨_, k, k, .inl ⟨k, okLs.plainE _⟩⟩, k, ⟨_, k, k, .inr ⟨_, _, k, ⟨_, _, k, ⟨k, k, k, k⟩, k⟩, k⟩⟩, k, trivial⟩ k)), k, ⟨_, k, .inr ⟨(by simp), k, k⟩⟩, ⟨k, k, trivial⟩⟩

noncomputable def m_slices_stableCmpFunc_Lint_L1 (a1 : Int) (x1 : ((List (List Int)) × Int × Int)) : Option (((List (List Int)) × Int × Int) ⊕ ((List (List Int)) × Int)) :=
  bif decide (x1.2.2 ≤ a1) then
    (Option.bind (m_slices_insertionSortCmpFunc_Lint x1.1 x1.2.1 x1.2.2) fun v2 =>
    bif decide (v2.length = x1.1.length) then
      (some (.inl (v2, x1.2.2, wr (x1.2.2 + 20))))
    else none)
  else
    (some (.inr (x1.1, x1.2.1)))

noncomputable def m_slices_stableCmpFunc_Lint_L3 (a1 : Int) (x2 : Int) (x3 : Unit) : Option (Unit ⊕ Unit) :=
  bif decide (wr (2 * x2) ≤ a1) then
    (none)
  else
    (some (.inr ()))

noncomputable def m_slices_stableCmpFunc_Lint_L2 (a1 : Int) (x2 : Int) : Option (Int ⊕ Unit) :=
  bif decide (x2 < a1) then
    (Option.bind (Lp (m_slices_stableCmpFunc_Lint_L3 a1 x2) ()) fun y9 =>
    bif decide (wr (0 + x2) < a1) then
      (none)
    else
      (some (.inl (wr (x2 * 2)))))
  else
    (some (.inr ()))

noncomputable def m_slices_stableCmpFunc_Lint (a0 : (List (List Int))) (a1 : Int) : Option (List (List Int)) :=
  Option.bind (Lp (m_slices_stableCmpFunc_Lint_L1 a1) (a0, 0, 20)) fun y4 =>
  Option.bind (m_slices_insertionSortCmpFunc_Lint y4.1 y4.2 a1) fun v5 =>
  bif decide (v5.length = y4.1.length) then
    (Option.bind (Lp (m_slices_stableCmpFunc_Lint_L2 a1) 20) fun y11 =>
    some v5)
  else none

theorem c_slices_stableCmpFunc_Lint (a0 : (List (List Int))) (a1 : Int) (r : (List (List Int))) (h : m_slices_stableCmpFunc_Lint a0 a1 = some r) : HasE Try.prog 113 [.own 0 0 a0.length, .int a1, .fn 96 []] [(0, ⟨1, List.map (eLs 1 eI) a0⟩), (1, ⟨1, [[.own 0 0 a0.length]]⟩)] 2 (.tuple []) [(0, ⟨1, List.map (eLs 1 eI) r⟩), (1, ⟨1, [[.own 0 0 r.length]]⟩)] := by
 refine hasE_mk TT_ok (rvs := []) (ns := [2, 3]) Try.func113 k k Try.ntmps113 k k <| sQ <| rgS <| se (eff_assign k) k <| sn <| tn <| sQ <| rgS <| se (eff_move k) k <| se (eff_assign k) k ?_
 refine se (eff_assign k) k <| sn <| tn <| sQ <| ac_block ?_
 obtain ⟨y4, hy4, h⟩ := ob h
 refine ac_Lp (body := (m_slices_stableCmpFunc_Lint_L1 a1)) hy4 (fun (x1 : ((List (List Int)) × Int × Int)) => mkS [(0, .own 0 0 x1.1.length), (1, .int a1), (2, .fn 96 []), (6, .int 20), (7, .int x1.2.1), (8, .int x1.2.2)] [(0, ⟨1, List.map (eLs 1 eI) x1.1⟩), (1, ⟨1, [[.own 0 0 x1.1.length]]⟩)] 2 [2, 3] 2) (fun r e t => e = .exit 0 ∧ Ent t (mkS [(0, .own 0 0 r.1.length), (1, .int a1), (2, .fn 96 []), (6, .int 20), (7, .int r.2)] [(0, ⟨1, List.map (eLs 1 eI) r.1⟩), (1, ⟨1, [[.own 0 0 r.1.length]]⟩)] 2 [2, 3] 2)) (ent_mk (σ := sg [(0, 0), (1, 1)]) ⟨⟨_, k, ⟨k, k, k, k⟩⟩, (e1 k k), ⟨_, k, ⟨k, k⟩⟩, (e1 k k), (e1 k k), (e1 k k), trivial⟩ ⟨⟨_, k, k, .inl ⟨k, okLs.plainE _⟩⟩, k, ⟨_, k, k, .inr ⟨_, _, k, ⟨_, _, k, ⟨k, k, k, k⟩, k⟩, k⟩⟩, k, trivial⟩ k) ?_ ?_
 ·intro x1 o h
  refine sQ <| sQ <| rgS <| se (eff_move k) k <| se (eff_move k) k <| se (w_cmp k k k) k <| sn <| tn ?_
  rcases cb h with ⟨q1, h⟩ | ⟨q1, h⟩
  ·refine ac_condT k q1 <| ac_skip <| tn <| ac_block <| sQ <| rgS <| se (eff_move k) k <| se (eff_move k) k <| se (eff_move k) k <| se (eff_move k) k ?_
   obtain ⟨v2, hv2, h⟩ := ob h
   refine se (eff_hasD (σ := sg [(0, 0), (1, 1)]) (σ' := sg [(0, 0), (1, 1)]) (touch := [0, 1]) (news := []) (hl2 := [(0, ⟨1, List.map (eLs 1 eI) v2⟩), (1, ⟨1, [[.own 0 0 v2.length]]⟩)]) (n' := 2) (r2 := .tuple []) (c_slices_insertionSortCmpFunc_Lint x1.1 x1.2.1 x1.2.2 v2 hv2) k k ⟨_, _, k, (.inl ⟨k, k, k, k⟩), ⟨_, _, k, (.inl k), ⟨_, _, k, (.inl k), ⟨_, _, k, (.inl ⟨k, k⟩), k⟩⟩⟩⟩ ⟨⟨_, k, k, .inl ⟨k, okLs.plainE _⟩⟩, k, ⟨_, k, k, .inr ⟨_, _, k, ⟨_, _, k, ⟨k, k, (by simp only [len_map, List.length_append, List.length_set, List.length_replicate, List.length_cons, List.length_nil]), k⟩, k⟩, k⟩⟩, k, trivial⟩ k k k ⟨⟨_, k, k, .inl ⟨k, okLs.plainE _⟩⟩, k, ⟨_, k, k, .inr ⟨_, _, k, ⟨_, _, k, ⟨k, k, (by simp only [len_map, List.length_append, List.length_set, List.length_replicate, List.length_cons, List.length_nil]), k⟩, k⟩, k⟩⟩, k, trivial⟩ k (.inr ⟨_, _, k, k, k⟩) k ⟨k, okLs.tamdE _ _, ⟨k, tamd_lit k, trivial⟩⟩ k k) k ?_
   obtain ⟨q3, h⟩ := cg h
   refine sn <| tn <| sQ <| rgS <| se (eff_move k) k <| se (eff_assign k) k <| sn <| tn <| rgS <| se (eff_move k) k ?_
   refine se (eff_move k) k <| se (x_add k k) k <| se (eff_assign k) k <| sn <| block_n <| tn ?_
   obtain rfl := so h
   exact ⟨_, k, (ent_mk (σ := sg [(0, 0), (1, 1)]) ⟨⟨_, k, ⟨k, k, (by simp only [len_map, List.length_append, List.length_set, List.length_replicate, List.length_cons, List.length_nil, of_decide_eq_true q3]), k⟩⟩, (e1 k k), ⟨_, k, ⟨k, k⟩⟩, (e1 k k), (e1 k k), (e1 k k), trivial⟩ ⟨⟨_, k, k, .inl ⟨k, okLs.plainE _⟩⟩, k, ⟨_, k, k, .inr ⟨_, _, k, ⟨_, _, k, ⟨k, k, k, k⟩, k⟩, k⟩⟩, k, trivial⟩ k)⟩
  ·refine ac_condF k q1 <| ac_exit <| then_exit <| then_exit ?_
   obtain rfl := so h
   exact ⟨_, k, k, (ent_mk (σ := sg [(0, 0), (1, 1)]) ⟨⟨_, k, ⟨k, k, k, k⟩⟩, (e1 k k), ⟨_, k, ⟨k, k⟩⟩, (e1 k k), (e1 k k), trivial⟩ ⟨⟨_, k, k, .inl ⟨k, okLs.plainE _⟩⟩, k, ⟨_, k, k, .inr ⟨_, _, k, ⟨_, _, k, ⟨k, k, k, k⟩, k⟩, k⟩⟩, k, trivial⟩ k)⟩
 ·rintro e t ⟨rfl, hent⟩
  refine block_here <| tn <| ac_ent hent <| sQ <| rgS <| se (eff_move k) k <| se (eff_move k) k <| se (eff_move k) k <| se (eff_move k) k ?_
  obtain ⟨v5, hv5, h⟩ := ob h
  refine se (eff_hasD (σ := sg [(0, 0), (1, 1)]) (σ' := sg [(0, 0), (1, 1)]) (touch := [0, 1]) (news := []) (hl2 := [(0, ⟨1, List.map (eLs 1 eI) v5⟩), (1, ⟨1, [[.own 0 0 v5.length]]⟩)]) (n' := 2) (r2 := .tuple []) (c_slices_insertionSortCmpFunc_Lint y4.1 y4.2 a1 v5 hv5) k k ⟨_, _, k, (.inl ⟨k, k, k, k⟩), ⟨_, _, k, (.inl k), ⟨_, _, k, (.inl k), ⟨_, _, k, (.inl ⟨k, k⟩), k⟩⟩⟩⟩ ⟨⟨_, k, k, .inl ⟨k, okLs.plainE _⟩⟩, k, ⟨_, k, k, .inr ⟨_, _, k, ⟨_, _, k, ⟨k, k, (by simp only [len_map, List.length_append, List.length_set, List.length_replicate, List.length_cons, List.length_nil]), k⟩, k⟩, k⟩⟩, k, trivial⟩ k k k ⟨⟨_, k, k, .inl ⟨k, okLs.plainE _⟩⟩, k, ⟨_, k, k, .inr ⟨_, _, k, ⟨_, _, k, ⟨k, k, (by simp only [len_map, List.length_append, List.length_set, List.length_replicate, List.length_cons, List.length_nil]), k⟩, k⟩, k⟩⟩, k, trivial⟩ k (.inr ⟨_, _, k, k, k⟩) k ⟨k, okLs.tamdE _ _, ⟨k, tamd_lit k, trivial⟩⟩ k k) k ?_
  obtain ⟨q6, h⟩ := cg h
  refine sn <| tn <| ac_block ?_
  obtain ⟨y11, hy11, h⟩ := ob h
  refine ac_Lp (body := (m_slices_stableCmpFunc_Lint_L2 a1)) hy11 (fun (x2 : Int) => mkS [(0, .own 0 0 v5.length), (1, .int a1), (2, .fn 96 []), (6, .int x2)] [(0, ⟨1, List.map (eLs 1 eI) v5⟩), (1, ⟨1, [[.own 0 0 v5.length]]⟩)] 2 [2, 3] 2) (fun r e t => e = .exit 2 ∧ Ent t (mkS [] [(0, ⟨1, List.map (eLs 1 eI) v5⟩), (1, ⟨1, [[.own 0 0 v5.length]]⟩)] 2 [2, 3] 2)) (ent_mk (σ := sg [(0, 0), (1, 1)]) ⟨⟨_, k, ⟨k, k, (by simp only [len_map, List.length_append, List.length_set, List.length_replicate, List.length_cons, List.length_nil, of_decide_eq_true q6]), k⟩⟩, (e1 k k), ⟨_, k, ⟨k, k⟩⟩, (e1 k k), trivial⟩ ⟨⟨_, k, k, .inl ⟨k, okLs.plainE _⟩⟩, k, ⟨_, k, k, .inr ⟨_, _, k, ⟨_, _, k, ⟨k, k, k, k⟩, k⟩, k⟩⟩, k, trivial⟩ k) ?_ ?_
  ·intro x2 o h
   refine sQ <| sQ <| rgS <| se (eff_move k) k <| se (eff_move k) k <| se (w_cmp k k k) k <| sn <| tn ?_
   rcases cb h with ⟨q7, h⟩ | ⟨q7, h⟩
   ·refine ac_condT k q7 <| ac_skip <| tn <| ac_block <| sQ <| rgS <| se (eff_move k) k <| se (x_mul k k) k <| se (eff_assign k) k <| se (eff_assign k) k ?_
    refine sn <| tn <| sQ <| ac_block ?_
    obtain ⟨y9, hy9, h⟩ := ob h
    refine ac_Lp (body := (m_slices_stableCmpFunc_Lint_L3 a1 x2)) hy9 (fun (x3 : Unit) => mkS [(0, .own 0 0 v5.length), (1, .int a1), (2, .fn 96 []), (6, .int x2), (7, .int 0), (8, .int (wr (2 * x2)))] [(0, ⟨1, List.map (eLs 1 eI) v5⟩), (1, ⟨1, [[.own 0 0 v5.length]]⟩)] 2 [2, 3] 2) (fun r e t => e = .exit 4 ∧ Ent t (mkS [(0, .own 0 0 v5.length), (1, .int a1), (2, .fn 96 []), (6, .int x2), (7, .int 0)] [(0, ⟨1, List.map (eLs 1 eI) v5⟩), (1, ⟨1, [[.own 0 0 v5.length]]⟩)] 2 [2, 3] 2)) (ent_mk (σ := sg [(0, 0), (1, 1)]) ⟨⟨_, k, ⟨k, k, k, k⟩⟩, (e1 k k), ⟨_, k, ⟨k, k⟩⟩, (e1 k k), (e1 k k), (e1 k k), trivial⟩ ⟨⟨_, k, k, .inl ⟨k, okLs.plainE _⟩⟩, k, ⟨_, k, k, .inr ⟨_, _, k, ⟨_, _, k, ⟨k, k, k, k⟩, k⟩, k⟩⟩, k, trivial⟩ k) ?_ ?_
    ·intro x3 o h
     refine sQ <| sQ <| rgS <| se (eff_move k) k <| se (eff_move k) k <| se (w_cmp k k k) k <| sn <| tn ?_
     rcases cb h with ⟨q8, h⟩ | ⟨q8, h⟩
     ·refine ac_condT k q8 <| ac_skip <| tn <| ac_block <| sQ <| rgS <| se (eff_move k) k <| se (eff_move k) k <| se (eff_move k) k <| se (eff_move k) k ?_
      refine se (x_add k k) k <| se (eff_move k) k <| se (eff_move k) k ?_
      cases h
     ·refine ac_condF k q8 <| ac_exit <| then_exit <| then_exit ?_
      obtain rfl := so h
      exact ⟨_, k, k, (ent_mk (σ := sg [(0, 0), (1, 1)]) ⟨⟨_, k, ⟨k, k, k, k⟩⟩, (e1 k k), ⟨_, k, ⟨k, k⟩⟩, (e1 k k), (e1 k k), trivial⟩ ⟨⟨_, k, k, .inl ⟨k, okLs.plainE _⟩⟩, k, ⟨_, k, k, .inr ⟨_, _, k, ⟨_, _, k, ⟨k, k, k, k⟩, k⟩, k⟩⟩, k, trivial⟩ k)⟩
    ·rintro e t ⟨rfl, hent⟩
     refine block_here <| tn <| ac_ent hent <| sQ <| sQ <| rgS <| se (eff_move k) k <| se (eff_move k) k <| se (x_add k k) k <| se (eff_assign k) k ?_
     refine sn <| tn <| sQ <| rgS <| se (eff_move k) k <| se (eff_move k) k <| se (w_cmp k k k) k <| sn <| tn ?_
     rcases cb h with ⟨q10, h⟩ | ⟨q10, h⟩
     ·refine ac_condT k q10 <| rgS <| se (eff_move k) k <| se (eff_move k) k <| se (eff_move k) k <| se (eff_move k) k <| se (eff_move k) k ?_
      cases h
     ·refine ac_condF k q10 <| ac_skip <| tn <| rgS <| se (eff_move k) k <| se (x_mul k k) k <| se (eff_assign k) k <| sn <| block_n <| tn ?_
      obtain rfl := so h
      exact ⟨_, k, (ent_mk (σ := sg [(0, 0), (1, 1)]) ⟨⟨_, k, ⟨k, k, k, k⟩⟩, (e1 k k), ⟨_, k, ⟨k, k⟩⟩, (e1 k k), trivial⟩ ⟨⟨_, k, k, .inl ⟨k, okLs.plainE _⟩⟩, k, ⟨_, k, k, .inr ⟨_, _, k, ⟨_, _, k, ⟨k, k, k, k⟩, k⟩, k⟩⟩, k, trivial⟩ k)⟩
   ·refine ac_condF k q7 <| ac_exit <| then_exit <| then_exit ?_
    obtain rfl := so h
    exact ⟨_, k, k, (ent_mk (σ := sg [(0, 0), (1, 1)]) trivial ⟨⟨_, k, k, .inl ⟨k, okLs.plainE _⟩⟩, k, ⟨_, k, k, .inr ⟨_, _, k, ⟨_, _, k, ⟨k, k, k, k⟩, k⟩, k⟩⟩, k, trivial⟩ k)⟩
  ·rintro e t ⟨rfl, hent⟩
   refine block_here ?_
   obtain rfl := so h
   exact ⟨mkS [] [(0, ⟨1, List.map (eLs 1 eI) v5⟩), (1, ⟨1, [[.own 0 0 v5.length]]⟩)] 2 [2, 3] 2, (Ent.trans hent (ent_mk (σ := sg [(0, 0), (1, 1)]) trivial ⟨⟨_, k, k, .inl ⟨k, okLs.plainE _⟩⟩, k, ⟨_, k, k, .inr ⟨_, _, k, ⟨_, _, k, ⟨k, k, k, k⟩, k⟩, k⟩⟩, k, trivial⟩ k)), k, ⟨_, k, .inr ⟨(by simp), k, k⟩⟩, ⟨k, k, trivial⟩⟩

noncomputable def m_slices_SortStableFunc_LLint_Lint (a0 : (List (List Int))) : Option (List (List Int)) :=
  Option.bind (m_slices_stableCmpFunc_Lint a0 ((a0.length : Nat) : Int)) fun v1 =>
  bif decide (v1.length = a0.length) then
    (some v1)
  else none

theorem c_slices_SortStableFunc_LLint_Lint (a0 : (List (List Int))) (r : (List (List Int))) (h : m_slices_SortStableFunc_LLint_Lint a0 = some r) : HasE Try.prog 95 [.own 0 0 a0.length, .fn 96 []] [(0, ⟨1, List.map (eLs 1 eI) a0⟩), (1, ⟨1, [[.own 0 0 a0.length]]⟩)] 2 (.tuple []) [(0, ⟨1, List.map (eLs 1 eI) r⟩), (1, ⟨1, [[.own 0 0 r.length]]⟩)] := by
 refine hasE_mk TT_ok (rvs := []) (ns := [2, 3]) Try.func95 k k Try.ntmps95 k k <| rgS <| se (eff_move k) k <| se (eff_move k) k <| se (w_len_own TT_ok k k k k) k <| se (eff_move k) k ?_
 obtain ⟨v1, hv1, h⟩ := ob h
 refine se (eff_hasD (σ := sg [(0, 0), (1, 1)]) (σ' := sg [(0, 0), (1, 1)]) (touch := [0, 1]) (news := []) (hl2 := [(0, ⟨1, List.map (eLs 1 eI) v1⟩), (1, ⟨1, [[.own 0 0 v1.length]]⟩)]) (n' := 2) (r2 := .tuple []) (c_slices_stableCmpFunc_Lint a0 ((a0.length : Nat) : Int) v1 hv1) k k ⟨_, _, k, (.inl ⟨k, k, k, k⟩), ⟨_, _, k, (.inl k), ⟨_, _, k, (.inl ⟨k, k⟩), k⟩⟩⟩ ⟨⟨_, k, k, .inl ⟨k, okLs.plainE _⟩⟩, k, ⟨_, k, k, .inr ⟨_, _, k, ⟨_, _, k, ⟨k, k, k, k⟩, k⟩, k⟩⟩, k, trivial⟩ k k k ⟨⟨_, k, k, .inl ⟨k, okLs.plainE _⟩⟩, k, ⟨_, k, k, .inr ⟨_, _, k, ⟨_, _, k, ⟨k, k, (by simp only [len_map, List.length_append, List.length_set, List.length_replicate, List.length_cons, List.length_nil]), k⟩, k⟩, k⟩⟩, k, trivial⟩ k (.inr ⟨_, _, k, k, k⟩) k ⟨k, okLs.tamdE _ _, ⟨k, tamd_lit k, trivial⟩⟩ k k) k ?_
 obtain ⟨q2, h⟩ := cg h
 refine sn ?_
 obtain rfl := so h
 exact ⟨mkS [] [(0, ⟨1, List.map (eLs 1 eI) v1⟩), (1, ⟨1, [[.own 0 0 v1.length]]⟩)] 2 [2, 3] 2, (ent_mk (σ := sg [(0, 0), (1, 1)]) trivial ⟨⟨_, k, k, .inl ⟨k, okLs.plainE _⟩⟩, k, ⟨_, k, k, .inr ⟨_, _, k, ⟨_, _, k, ⟨k, k, k, k⟩, k⟩, k⟩⟩, k, trivial⟩ k), k, ⟨_, k, .inr ⟨(by simp), k, k⟩⟩, ⟨k, k, trivial⟩⟩

noncomputable def m_impl_roots_L1 (a0 : Qv) (v2 : List Int) (x1 : (List (List Int))) : Option ((List (List Int)) ⊕ Unit) :=
  Option.bind (m_impl_euler a0 v2 v2) fun v3 =>
  bif decide (v3 = 1) then
    (Option.bind (m_Clone v2) fun v5 =>
    bif decide (x1.length + 1 ≤ 4294967296) then
      (some (.inl (x1 ++ [v5])))
    else none)
  else
    (some (.inl x1))

noncomputable def m_impl_roots (a0 : Qv) : Option (List (List Int)) :=
  bif (decide (0 < a0.n) && decide (a0.n ≤ 1048576)) then
    (bif boxOk (List.replicate a0.n.toNat 4) then
      (Option.bind (Fl (m_impl_roots_L1 a0) (boxesL (List.replicate a0.n.toNat 4)) []) fun y7 =>
        Sum.elim (fun y7 =>
          Option.bind (m_slices_SortStableFunc_LLint_Lint y7) fun v9 =>
          bif decide (v9.length = y7.length) then
            (some v9)
          else none
        ) (fun _ => none) y7)
    else none)
  else none

theorem c_impl_roots (a0 : Qv) (r : (List (List Int))) (h : m_impl_roots a0 = some r) : HasE Try.prog 71 [.agg (eQ a0)] [] 0 (.own 0 0 r.length) [(0, ⟨1, List.map (eLs 1 eI) r⟩)] := by
 refine hasE_mk TT_ok (rvs := [.tmp 2]) (ns := [0, 1, 2, 3, 4, 5, 6, 7, 8]) Try.func71 k k Try.ntmps71 k k <| sQ <| rgS <| se (w_box k k k k) k <| se (eff_assign k) k <| sn <| tn <| sQ <| rgS <| se (w_alloc TT_ok k k) k ?_
 refine sn <| tn <| sQ <| sQ <| rgS <| se (w_lit TT_ok k k k k k k k k k k k k) k <| se (w_field_ptr TT_ok k k k k k k k) k <| se (w_load_ptr TT_ok k k k k k k k) k ?_
 obtain ⟨q1, h⟩ := cg h
 refine se (eff_callD (h_RepeatI 4 a0.n q1) k k (va_cons (va_lit k k ⟨_, _, k, ⟨_, _, k, k, k⟩, k⟩) (va_cons (va_same k) va_nil))) k <| se (eff_hasG (h_boxes (List.replicate a0.n.toNat 4)) k k k k) k <| sn <| tn <| ac_block ?_
 obtain ⟨q8, h⟩ := cg h
 obtain ⟨y7, hy7, h⟩ := ob h
 refine ac_boxes (f := (m_impl_roots_L1 a0)) (σ := (List (List Int))) (ρ := Unit) y7 [] [(1, .ptr 0 0 0), (3, .ptr 1 0 0), (9, .fn 111 [.ref [.list 1 (List.map eI (List.replicate a0.n.toNat 4))]])] [(0, ⟨3, [[.int a0.n, .list 1 (List.map eI a0.src), .list 1 (List.map eI a0.tgt)]]⟩), (1, ⟨1, [[.nil 1]]⟩)] 2 [2, 3, 4, 5, 6, 7, 8] (fun x1 => [(0, ⟨3, [[.int a0.n, .list 1 (List.map eI a0.src), .list 1 (List.map eI a0.tgt)]]⟩), (1, ⟨1, [[.own 3 0 x1.length]]⟩), (3, ⟨1, List.map (ow (eLs 1 eI)) x1⟩)]) 4 [4, 5, 6, 7, 8] (fun _ _ _ => False) (bx_ok q8) hy7 k k k (fun _ => k) (ent_mk (σ := sg [(0, 0), (1, 1)]) ⟨⟨_, k, ⟨k, k, k, k⟩⟩, ⟨_, k, ⟨k, k, k, k⟩⟩, ⟨_, k, ⟨k, ⟨_, _, k, k, k⟩⟩⟩, trivial⟩ ⟨⟨_, k, k, .inl ⟨k, plain_of k⟩⟩, k, ⟨_, k, k, .inl ⟨k, plain_of k⟩⟩, k, trivial⟩ k) k (ent_mk (σ := sg [(0, 0), (1, 1), (2, 2)]) ⟨⟨_, k, ⟨k, k, k, k⟩⟩, ⟨_, k, ⟨k, k, k, k⟩⟩, ⟨_, k, ⟨k, k, k, k⟩⟩, ⟨_, k, ⟨k, ⟨_, _, k, k, k⟩⟩⟩, trivial⟩ ⟨⟨_, k, k, .inl ⟨k, okI.plainO _⟩⟩, k, ⟨_, k, k, .inl ⟨k, plain_of k⟩⟩, k, ⟨_, k, k, .inr ⟨_, _, k, ⟨_, _, k, ⟨k, k, k, k⟩, k⟩, k⟩⟩, k, k, k, trivial⟩ k) ?_ ?_
 ·intro x1 v2 o hxv2 h
  have hlv2 := decide_eq_true (boxesL_len hxv2)
  change AC Try.prog _ _ (mkS [(10, .own 2 0 ((List.replicate a0.n.toNat 4).length)), (1, .ptr 0 0 0), (3, .ptr 1 0 0), (9, .fn 111 [.ref [.list 1 (List.map eI (List.replicate a0.n.toNat 4))]])] [(2, ⟨1, List.map (ow eI) v2⟩), (0, ⟨3, [[.int a0.n, .list 1 (List.map eI a0.src), .list 1 (List.map eI a0.tgt)]]⟩), (1, ⟨1, [[.own 3 0 x1.length]]⟩), (3, ⟨1, List.map (ow (eLs 1 eI)) x1⟩)] 4 [4, 5, 6, 7, 8] ⟨3, false, none, false⟩) _
  refine rg <| ae (eff_assign k) k <| an ?_
  refine ⟨k, ?_⟩
  refine ac_block <| sQ <| rg <| ae (w_load_ptr TT_ok k k k k k k k) k <| ae (eff_move k) k <| ae (eff_move k) k ?_
  obtain ⟨v3, hv3, h⟩ := ob h
  refine ae (w_call0s (c_impl_euler a0 v2 v2 v3 hv3) k (va_cons (va_agg' (v1_cons (v1_same k) (v1_cons (v1_same k) (v1_cons (v1_same k) v1_nil)))) (va_cons (va_T okI k (by first | rfl | simp only [List.length_set, of_decide_eq_true hlv2])) (va_cons (va_T okI k (by first | rfl | simp only [List.length_set, of_decide_eq_true hlv2])) va_nil)))) k <| ae (w_cmp k k k) k <| an <| tn ?_
  rcases cb h with ⟨q4, h⟩ | ⟨q4, h⟩
  ·refine ac_condT k q4 <| ac_region_draw MIXX <| ae (w_load_ptr TT_ok k k k k k k k) k <| ae (eff_move k) k ?_
   obtain ⟨v5, hv5, h⟩ := ob h
   refine ae (AEff.conv (w_call0 (x := .own 4 0 (List.map eI v5).length) (nb := [(4, ⟨1, absEs (List.map eI v5)⟩)]) (c_Clone v2 v5 hv5) k (by rfl) k k (okI.good _) (va_cons (va_T okI k (by first | rfl | simp only [List.length_set, of_decide_eq_true hlv2])) va_nil)) (v' := .own 4 0 v5.length) (ed' := [(4, some ⟨1, List.map (ow eI) v5⟩)]) (by simp only [len_map]) (ed_ok (nb' := [(4, ⟨1, List.map (ow eI) v5⟩)]) (by simp only [abs_map]))) k <| ae (w_lit TT_ok k k k k k k k k k k k k) k ?_
   obtain ⟨q6, h⟩ := cg h
   refine ae (x_app1 TT_ok (l := x1) (c := [.own 4 0 v5.length]) q6 k k k k k k k k k k k k k k) k <| ae (w_store TT_ok k k k k k k k k) k <| an ?_
   refine ⟨by kernel_rfl, ?_⟩
   refine block_n ?_
   obtain rfl := so h
   exact ⟨k, (Ent.trans (show Ent _ (mkS [(1, .ptr 0 0 0), (3, .ptr 1 0 0), (9, .fn 111 [.ref [.list 1 (List.map eI (List.replicate a0.n.toNat 4))]]), (10, .own 2 0 v2.length)] [(0, ⟨3, [[.int a0.n, .list 1 (List.map eI a0.src), .list 1 (List.map eI a0.tgt)]]⟩), (1, ⟨1, [[.own 6 0 ((x1 ++ [v5]).length)]]⟩), (2, ⟨1, List.map (ow eI) v2⟩), (6, ⟨1, List.map (ow (eLs 1 eI)) (x1 ++ [v5])⟩)] 7 [7, 8] ⟨3, false, none, false⟩) from (Ent.trans (ent_absL (b := 6) (b' := 4) (j := 0) (es' := List.map eI v5) k k k k (len_map _ _) (okI.frzs _)) (ent_mk (σ := sg [(0, 0), (1, 1), (2, 2), (6, 6)]) ⟨⟨_, k, ⟨k, k, k, k⟩⟩, ⟨_, k, ⟨k, k, k, k⟩⟩, ⟨_, k, ⟨k, ⟨_, _, k, k, k⟩⟩⟩, ⟨_, k, ⟨k, k, (by simp only [len_map, List.length_append, List.length_set, List.length_replicate, List.length_cons, List.length_nil, of_decide_eq_true hlv2]), k⟩⟩, trivial⟩ ⟨⟨_, k, k, .inl ⟨k, plain_of k⟩⟩, k, ⟨_, k, k, .inr ⟨_, _, k, ⟨_, _, k, ⟨k, k, (by simp only [len_map, List.length_append, List.length_set, List.length_replicate, List.length_cons, List.length_nil]), k⟩, k⟩, k⟩⟩, k, ⟨_, k, k, .inl ⟨k, okI.plainO _⟩⟩, k, ⟨_, k, k, .inl ⟨app_eq v5 k, okLs.plainO _⟩⟩, k, trivial⟩ k))) (ent_mk (σ := sg [(0, 0), (1, 1), (2, 2), (3, 6)]) ⟨⟨_, k, ⟨k, k, (by simp only [len_map, List.length_append, List.length_set, List.length_replicate, List.length_cons, List.length_nil, of_decide_eq_true hlv2]), k⟩⟩, ⟨_, k, ⟨k, k, k, k⟩⟩, ⟨_, k, ⟨k, k, k, k⟩⟩, ⟨_, k, ⟨k, ⟨_, _, k, k, k⟩⟩⟩, trivial⟩ ⟨⟨_, k, k, .inl ⟨k, okI.plainO _⟩⟩, k, ⟨_, k, k, .inl ⟨k, plain_of k⟩⟩, k, ⟨_, k, k, .inr ⟨_, _, k, ⟨_, _, k, ⟨k, k, k, k⟩, k⟩, k⟩⟩, k, ⟨_, k, k, .inl ⟨k, okLs.plainO _⟩⟩, k, trivial⟩ k))⟩
  ·refine ac_condF k q4 <| ac_skip <| block_n ?_
   obtain rfl := so h
   exact ⟨k, (ent_mk (σ := sg [(0, 0), (1, 1), (2, 2), (3, 3)]) ⟨⟨_, k, ⟨k, k, k, k⟩⟩, ⟨_, k, ⟨k, k, k, k⟩⟩, ⟨_, k, ⟨k, k, k, k⟩⟩, ⟨_, k, ⟨k, ⟨_, _, k, k, k⟩⟩⟩, trivial⟩ ⟨⟨_, k, k, .inl ⟨k, okI.plainO _⟩⟩, k, ⟨_, k, k, .inl ⟨k, plain_of k⟩⟩, k, ⟨_, k, k, .inr ⟨_, _, k, ⟨_, _, k, ⟨k, k, k, k⟩, k⟩, k⟩⟩, k, ⟨_, k, k, .inl ⟨k, okLs.plainO _⟩⟩, k, trivial⟩ k)⟩
 ·rcases y7 with y7 | y7
  ·dsimp only
   refine block_n <| tn <| sQ <| rgS <| se (w_load_ptr TT_ok k k k k k k k) k ?_
   obtain ⟨v9, hv9, h⟩ := ob h
   refine sops_ent (t := mkS [(3, .ptr 1 0 0), (21, .own 3 0 y7.length)] [(1, ⟨1, [[.own 3 0 y7.length]]⟩), (3, ⟨1, List.map (ow (eLs 1 eI)) y7⟩)] 4 [4, 5, 6, 7, 8] ⟨0, false, none, true⟩) (ent_mk (σ := sg [(1, 1), (3, 3)]) ⟨⟨_, k, ⟨k, k, k, k⟩⟩, ⟨_, k, ⟨k, k, k, k⟩⟩, trivial⟩ ⟨⟨_, k, k, .inr ⟨_, _, k, ⟨_, _, k, ⟨k, k, k, k⟩, k⟩, k⟩⟩, k, ⟨_, k, k, .inl ⟨k, okLs.plainO _⟩⟩, k, trivial⟩ k) <| sops_ent (ent_forget (b := 3) okLs k) <| sops_ent (t := mkS [(3, .ptr 1 0 0), (21, .own 3 0 y7.length)] [(1, ⟨1, [[.own 3 0 y7.length]]⟩), (3, ⟨1, List.map (eLs 1 eI) y7⟩)] 4 [4, 5, 6, 7, 8] ⟨0, false, none, true⟩) (ent_mk (σ := sg [(1, 1), (3, 3)]) ⟨⟨_, k, ⟨k, k, k, k⟩⟩, ⟨_, k, ⟨k, k, k, k⟩⟩, trivial⟩ ⟨⟨_, k, k, .inr ⟨_, _, k, ⟨_, _, k, ⟨k, k, k, k⟩, k⟩, k⟩⟩, k, ⟨_, k, k, .inl ⟨k, okLs.plainE _⟩⟩, k, trivial⟩ k) <| se (eff_hasD (σ := sg [(0, 3), (1, 1)]) (σ' := sg [(3, 0), (1, 1)]) (touch := [3, 1]) (news := []) (hl2 := [(1, ⟨1, [[.own 3 0 v9.length]]⟩), (3, ⟨1, List.map (eLs 1 eI) v9⟩)]) (n' := 4) (r2 := .tuple []) (c_slices_SortStableFunc_LLint_Lint y7 v9 hv9) k k ⟨_, _, k, (.inl ⟨k, k, k, k⟩), ⟨_, _, k, (.inl ⟨k, k⟩), k⟩⟩ ⟨⟨_, k, k, .inl ⟨k, okLs.plainE _⟩⟩, k, ⟨_, k, k, .inr ⟨_, _, k, ⟨_, _, k, ⟨k, k, (by simp only [len_map, List.length_append, List.length_set, List.length_replicate, List.length_cons, List.length_nil]), k⟩, k⟩, k⟩⟩, k, trivial⟩ k k k ⟨⟨_, k, k, .inr ⟨_, _, k, ⟨_, _, k, ⟨k, k, (by simp only [len_map, List.length_append, List.length_set, List.length_replicate, List.length_cons, List.length_nil]), k⟩, k⟩, k⟩⟩, k, ⟨_, k, k, .inl ⟨k, okLs.plainE _⟩⟩, k, trivial⟩ k (.inr ⟨_, _, k, k, k⟩) k ⟨k, tamd_lit k, ⟨k, okLs.tamdE _ _, trivial⟩⟩ k k) k ?_
   obtain ⟨q10, h⟩ := cg h
   refine sn <| tn <| sQ <| rgS <| se (w_load_ptr TT_ok k k k k k k k) k <| se (eff_assign k) k <| sn <| tn <| ac_ret ?_
   obtain rfl := so h
   exact ⟨mkS [(2, .own 0 0 v9.length)] [(0, ⟨1, List.map (eLs 1 eI) v9⟩)] 1 [1, 2, 3, 4, 5, 6, 7, 8] ⟨0, false, none, true⟩, (ent_mk (σ := sg [(0, 3)]) ⟨⟨_, k, ⟨k, k, k, k⟩⟩, trivial⟩ ⟨⟨_, k, k, .inl ⟨k, okLs.plainE _⟩⟩, k, trivial⟩ k), k, ⟨_, k, .inl k⟩, ⟨k, trivial⟩⟩
  ·cases h

noncomputable def m_impl_symmetric_L1 (a0 : Qv) (x1 : ((List (List Int)) × Int)) : Option (((List (List Int)) × Int) ⊕ (List (List Int))) :=
  bif decide (x1.2 < (((List.replicate a0.n.toNat ([] : (List Int))).length : Nat) : Int)) then
    (bif (decide (0 ≤ a0.n) && decide (a0.n ≤ 1048576)) then
      (Option.bind (atL x1.1 x1.2) fun v2 =>
      Option.bind (atL (List.replicate a0.n.toNat (0 : Int)) x1.2) fun v3 =>
      some (.inl ((x1.1.set x1.2.toNat ((List.replicate a0.n.toNat (0 : Int)).set x1.2.toNat 2)), wr (x1.2 + 1))))
    else none)
  else
    (some (.inr x1.1))

noncomputable def m_impl_symmetric_L2 (a0 : Qv) (x2 : ((List (List Int)) × Int)) : Option (((List (List Int)) × Int) ⊕ (List (List Int))) :=
  bif decide (x2.2 < (a0.src.length : Int)) then
    (Option.bind (atL a0.src x2.2) fun v7 =>
    Option.bind (atL x2.1 v7) fun v8 =>
    Option.bind (atL a0.tgt x2.2) fun v9 =>
    Option.bind (atL v8 v9) fun v10 =>
    Option.bind (atL v8 v9) fun v11 =>
    Option.bind (atL a0.tgt x2.2) fun v12 =>
    Option.bind (atL (x2.1.set v7.toNat (v8.set v9.toNat (wr (v10 - 1)))) v12) fun v13 =>
    Option.bind (atL v13 v7) fun v14 =>
    Option.bind (atL v13 v7) fun v15 =>
    some (.inl (((x2.1.set v7.toNat (v8.set v9.toNat (wr (v10 - 1)))).set v12.toNat (v13.set v7.toNat (wr (v14 - 1)))), wr (x2.2 + 1))))
  else
    (some (.inr x2.1))

noncomputable def m_impl_symmetric (a0 : Qv) : Option (List (List Int)) :=
  bif (decide (0 ≤ a0.n) && decide (a0.n ≤ 1048576)) then
    (Option.bind (Lp (m_impl_symmetric_L1 a0) ((List.replicate a0.n.toNat ([] : (List Int))), 0)) fun y5 =>
    Option.bind (Lp (m_impl_symmetric_L2 a0) (y5, 0)) fun y16 =>
    some (y16))
  else none

theorem c_impl_symmetric (a0 : Qv) (r : (List (List Int))) (h : m_impl_symmetric a0 = some r) : HasC Try.prog 81 [.agg (eQ a0)] (.list 1 (List.map (eLs 1 eI) r)) := by
 refine hasC_mkW TT_ok (rvs := [.tmp 2]) (ns := [0, 1, 2, 3, 4, 5]) Try.func81 k k Try.ntmps81 k k k (fun W => ?_)
 refine rawE_agg <| rawC_sc <| rawC_d (fun w0_1 S0_1 r0_1 => ?_)
 refine rawC_d (fun w0_2 S0_2 r0_2 => ?_)
 refine rawC_nil <| rawE_nil <| sQ <| rgS <| se (w_box k k k k) k <| se (eff_assign k) k <| sn <| tn <| sQ <| rgS ?_
 refine se (w_field_ptr TT_ok k k k k k k k) k <| se (w_load_ptr TT_ok k k k k k k k) k ?_
 obtain ⟨q17, h⟩ := cg h
 refine se (x_make TT_ok q17 k k k k k k k k) k <| se (eff_assign k) k <| sn <| tn <| ac_ent (t := mkS [(1, .ptr 0 0 0), (3, .own 1 0 ((List.replicate a0.n.toNat ([] : (List Int))).length))] [(0, ⟨3, [[.int a0.n, .sc w0_1, .sc w0_2]]⟩), (1, ⟨1, List.map (ow (eLs 1 eI)) (List.replicate a0.n.toNat ([] : (List Int)))⟩)] 2 [2, 3, 4, 5] ⟨0, true, fxW W, true⟩) (ent_mk (σ := sg [(0, 0), (1, 1)]) ⟨⟨_, k, ⟨k, k, k, k⟩⟩, ⟨_, k, ⟨k, k, (by simp only [len_map, List.length_append, List.length_set, List.length_replicate, List.length_cons, List.length_nil]), k⟩⟩, trivial⟩ ⟨⟨_, k, k, .inl ⟨k, plain_of k⟩⟩, k, ⟨_, k, k, .inr (rep_match _)⟩, k, trivial⟩ k) <| sQ <| sQ <| rgS <| se (eff_move k) k <| se (w_len_own TT_ok k k k k) k ?_
 refine se (eff_move k) k <| sn <| tn <| ac_block ?_
 obtain ⟨y5, hy5, h⟩ := ob h
 refine ac_Lp (body := (m_impl_symmetric_L1 a0)) hy5 (fun (x1 : ((List (List Int)) × Int)) => mkS [(1, .ptr 0 0 0), (3, .own 1 0 x1.1.length), (11, .int (((List.replicate a0.n.toNat ([] : (List Int))).length : Nat) : Int)), (12, .int x1.2)] [(0, ⟨3, [[.int a0.n, .sc w0_1, .sc w0_2]]⟩), (1, ⟨1, List.map (ow (eLs 1 eI)) x1.1⟩)] 2 [2, 3, 4, 5] ⟨0, true, fxW W, true⟩) (fun r e t => e = .exit 0 ∧ Ent t (mkS [(1, .ptr 0 0 0), (3, .own 1 0 r.length)] [(0, ⟨3, [[.int a0.n, .sc w0_1, .sc w0_2]]⟩), (1, ⟨1, List.map (ow (eLs 1 eI)) r⟩)] 2 [2, 3, 4, 5] ⟨0, true, fxW W, true⟩)) (ent_mk (σ := sg [(0, 0), (1, 1)]) ⟨⟨_, k, ⟨k, k, k, k⟩⟩, ⟨_, k, ⟨k, k, k, k⟩⟩, (e1 k k), (e1 k k), trivial⟩ ⟨⟨_, k, k, .inl ⟨k, plain_of k⟩⟩, k, ⟨_, k, k, .inl ⟨k, okLs.plainO _⟩⟩, k, trivial⟩ k) ?_ ?_
 ·intro x1 o h
  refine sQ <| rgS <| se (w_cmp k k k) k <| sn <| tn <| sQ ?_
  rcases cb h with ⟨q1, h⟩ | ⟨q1, h⟩
  ·refine ac_condT k q1 <| ac_skip <| tn <| sQ <| ac_block <| sQ <| rgS <| se (eff_move k) k <| se (eff_assign k) k <| sn ?_
   refine tn <| sQ <| rgS <| se (eff_move k) k <| se (eff_move k) k <| se (w_field_ptr TT_ok k k k k k k k) k <| se (w_load_ptr TT_ok k k k k k k k) k ?_
   obtain ⟨q4, h⟩ := cg h
   refine se (x_make TT_ok q4 k k k k k k k k) k ?_
   obtain ⟨v2, hv2, h⟩ := ob h
   refine se (x_at_own TT_ok (atL_nn hv2) (atL_lt hv2) k k k k k k k) k <| se (w_store TT_ok k k k k k k (map_at (atL_get hv2)) k) k <| sn <| tn <| ac_ent (t := mkS [(1, .ptr 0 0 0), (3, .own 1 0 x1.1.length), (4, .int x1.2), (11, .int (((List.replicate a0.n.toNat ([] : (List Int))).length : Nat) : Int)), (12, .int x1.2)] [(0, ⟨3, [[.int a0.n, .sc w0_1, .sc w0_2]]⟩), (1, ⟨1, (List.map (ow (eLs 1 eI)) x1.1).set x1.2.toNat [.own 2 0 ((List.replicate a0.n.toNat (0 : Int)).length)]⟩), (2, ⟨1, List.map (ow eI) (List.replicate a0.n.toNat (0 : Int))⟩)] 3 [3, 4, 5] ⟨0, true, fxW W, true⟩) (ent_mk (σ := sg [(0, 0), (1, 1), (2, 2)]) ⟨⟨_, k, ⟨k, k, k, k⟩⟩, ⟨_, k, ⟨k, k, k, k⟩⟩, (e1 k k), (e1 k k), (e1 k k), trivial⟩ ⟨⟨_, k, k, .inl ⟨k, plain_of k⟩⟩, k, ⟨_, k, k, .inr (ent_set (σ := sg [(0, 0), (1, 1), (2, 2)]) (m := 3) (e := (eLs 1 eI)) (l := x1.1) (i := x1.2.toNat) (c := [.own 2 0 a0.n.toNat]) (d := [.own 2 0 ((List.replicate a0.n.toNat (0 : Int)).length)]) okLs ⟨_, _, k, ⟨k, k, (by simp only [len_map, List.length_append, List.length_set, List.length_replicate, List.length_cons, List.length_nil]), k⟩, k⟩)⟩, k, ⟨_, k, k, .inl ⟨rep_eq (e := eI) (z := 0) _, okI.plainO _⟩⟩, k, trivial⟩ k) <| rgS <| se (eff_move k) k <| se (eff_move k) k <| se (x_at_own TT_ok (atL_nn hv2) (atL_lt hv2) k k k k k k k) k <| se (w_load_ptr TT_ok k k k k (set_at (atL_lt hv2)) k k) k ?_
   refine se (eff_move k) k ?_
   obtain ⟨v3, hv3, h⟩ := ob h
   refine se (x_at_own TT_ok (atL_nn hv3) (atL_lt hv3) k k k k k k k) k <| se (x_store TT_ok okIo (u := 2) (atL_get hv3) k k k k k k) k <| sn <| block_n <| tn <| ac_ent (t := mkS [(1, .ptr 0 0 0), (3, .own 1 0 ((x1.1.set x1.2.toNat ((List.replicate a0.n.toNat (0 : Int)).set x1.2.toNat 2)).length)), (11, .int (((List.replicate a0.n.toNat ([] : (List Int))).length : Nat) : Int)), (12, .int x1.2)] [(0, ⟨3, [[.int a0.n, .sc w0_1, .sc w0_2]]⟩), (1, ⟨1, List.map (ow (eLs 1 eI)) (x1.1.set x1.2.toNat ((List.replicate a0.n.toNat (0 : Int)).set x1.2.toNat 2))⟩)] 3 [3, 4, 5] ⟨0, true, fxW W, true⟩) (Ent.trans (ent_absS (b := 1) (b' := 2) (j := 0) (es' := List.map eI ((List.replicate a0.n.toNat (0 : Int)).set x1.2.toNat 2)) (by rw [List.length_map]; exact atL_lt hv2) k k k k (by simp only [len_map, List.length_append, List.length_set, List.length_replicate, List.length_cons, List.length_nil]) (okI.frzs _)) (ent_mk (σ := sg [(0, 0), (1, 1)]) ⟨⟨_, k, ⟨k, k, k, k⟩⟩, ⟨_, k, ⟨k, k, (by simp only [len_map, List.length_append, List.length_set, List.length_replicate, List.length_cons, List.length_nil]), k⟩⟩, (e1 k k), (e1 k k), trivial⟩ ⟨⟨_, k, k, .inl ⟨k, plain_of k⟩⟩, k, ⟨_, k, k, .inl ⟨set_eq ((List.replicate a0.n.toNat (0 : Int)).set x1.2.toNat 2) k, okLs.plainO _⟩⟩, k, trivial⟩ k)) <| rgS <| se (x_add k k) k <| se (eff_move k) k <| sn ?_
   refine tn ?_
   obtain rfl := so h
   exact ⟨_, k, (ent_mk (σ := sg [(0, 0), (1, 1)]) ⟨⟨_, k, ⟨k, k, k, k⟩⟩, ⟨_, k, ⟨k, k, k, k⟩⟩, (e1 k k), (e1 k k), trivial⟩ ⟨⟨_, k, k, .inl ⟨k, plain_of k⟩⟩, k, ⟨_, k, k, .inl ⟨k, okLs.plainO _⟩⟩, k, trivial⟩ k)⟩
  ·refine ac_condF k q1 <| ac_exit <| then_exit <| then_exit ?_
   obtain rfl := so h
   exact ⟨_, k, k, (ent_mk (σ := sg [(0, 0), (1, 1)]) ⟨⟨_, k, ⟨k, k, k, k⟩⟩, ⟨_, k, ⟨k, k, k, k⟩⟩, trivial⟩ ⟨⟨_, k, k, .inl ⟨k, plain_of k⟩⟩, k, ⟨_, k, k, .inl ⟨k, okLs.plainO _⟩⟩, k, trivial⟩ k)⟩
 ·rintro e t ⟨rfl, hent⟩
  refine block_here <| tn <| ac_ent hent <| sQ <| sQ <| rgS <| se (w_field_ptr TT_ok k k k k k k k) k <| se (w_load_ptr TT_ok k k k k k k k) k <| se (x_len_raw TT_ok r0_1 k k k) k <| se (eff_move k) k ?_
  refine sn <| tn <| ac_block ?_
  obtain ⟨y16, hy16, h⟩ := ob h
  refine ac_Lp (body := (m_impl_symmetric_L2 a0)) hy16 (fun (x2 : ((List (List Int)) × Int)) => mkS [(1, .ptr 0 0 0), (3, .own 1 0 x2.1.length), (29, .sc w0_1), (30, .int (a0.src.length : Int)), (31, .int x2.2)] [(0, ⟨3, [[.int a0.n, .sc w0_1, .sc w0_2]]⟩), (1, ⟨1, List.map (ow (eLs 1 eI)) x2.1⟩)] 2 [2, 3, 4, 5] ⟨0, true, fxW W, true⟩) (fun r e t => e = .exit 2 ∧ Ent t (mkS [(3, .own 0 0 r.length)] [(0, ⟨1, List.map (ow (eLs 1 eI)) r⟩)] 1 [1, 2, 3, 4, 5] ⟨0, true, fxW W, true⟩)) (ent_mk (σ := sg [(0, 0), (1, 1)]) ⟨⟨_, k, ⟨k, k, k, k⟩⟩, ⟨_, k, ⟨k, k, k, k⟩⟩, (e1 k k), (e1 k k), (e1 k k), trivial⟩ ⟨⟨_, k, k, .inl ⟨k, plain_of k⟩⟩, k, ⟨_, k, k, .inl ⟨k, okLs.plainO _⟩⟩, k, trivial⟩ k) ?_ ?_
  ·intro x2 o h
   refine sQ <| rgS <| se (w_cmp k k k) k <| sn <| tn <| sQ ?_
   rcases cb h with ⟨q6, h⟩ | ⟨q6, h⟩
   ·refine ac_condT k q6 <| ac_skip <| tn <| sQ <| ac_block <| sQ <| rgS <| se (eff_move k) k ?_
    obtain ⟨v7, hv7, h⟩ := ob h
    refine se (x_at_raw TT_ok r0_1 hv7 k k k k k k) k <| se (x_load_raw TT_ok r0_1 (atL_get hv7) k k k k k k k) k <| se (eff_assign k) k <| se (eff_assign k) k <| sn <| tn <| sQ ?_
    obtain ⟨v8, hv8, h⟩ := ob h
    refine ac_ent (t := mkS [(1, .ptr 0 0 0), (3, .own 1 0 x2.1.length), (5, .int x2.2), (6, .int v7), (29, .sc w0_1), (30, .int (a0.src.length : Int)), (31, .int x2.2), (32, .bl (decide (x2.2 < (a0.src.length : Int)))), (33, .int x2.2), (34, .sc (rawAt w0_1 1 x2.2.toNat)), (35, .int v7)] [(0, ⟨3, [[.int a0.n, .sc w0_1, .sc w0_2]]⟩), (1, ⟨1, (List.map (ow (eLs 1 eI)) x2.1).set v7.toNat [.abs 1 (List.map eI v8)]⟩)] 2 [2, 3, 4, 5] ⟨0, true, fxW W, true⟩) (ent_mk (σ := sg [(0, 0), (1, 1)]) ⟨⟨_, k, ⟨k, k, k, k⟩⟩, ⟨_, k, ⟨k, k, k, k⟩⟩, (e1 k k), (e1 k k), (e1 k k), (e1 k k), (e1 k k), (e1 k k), (e1 k k), (e1 k k), (e1 k k), trivial⟩ ⟨⟨_, k, k, .inl ⟨k, plain_of k⟩⟩, k, ⟨_, k, k, .inl ⟨open_row (atL_get hv8), set_plain okLs k⟩⟩, k, trivial⟩ k) <| ac_ent (ent_openS (b := 1) (c := 2) (i := v7.toNat) (j := 0) (n := v8.length) (A := List.map (ow (eLs 1 eI)) x2.1) (fs := List.map (ow eI) v8) (by rw [List.length_map]; exact atL_lt hv8) k k k k (len_map _ _) (abs_map _ _) (dfE_ok ⟨k, k, k, k, k, k, k, k, k, k, k, trivial⟩) (dfH_ok (skip := []) ⟨.inr (df_lit k), .inr (okLs.dfS _ _ _ k), trivial⟩)) <| ac_ent (t := mkS [(1, .ptr 0 0 0), (3, .own 1 0 x2.1.length), (5, .int x2.2), (6, .int v7), (29, .sc w0_1), (30, .int (a0.src.length : Int)), (31, .int x2.2), (32, .bl (decide (x2.2 < (a0.src.length : Int)))), (33, .int x2.2), (34, .sc (rawAt w0_1 1 x2.2.toNat)), (35, .int v7)] [(0, ⟨3, [[.int a0.n, .sc w0_1, .sc w0_2]]⟩), (1, ⟨1, (List.map (ow (eLs 1 eI)) x2.1).set v7.toNat [.own 2 0 v8.length]⟩), (2, ⟨1, List.map (ow eI) v8⟩)] 3 [3, 4, 5] ⟨0, true, fxW W, true⟩) (ent_mk (σ := sg [(0, 0), (1, 1), (2, 2)]) ⟨⟨_, k, ⟨k, k, k, k⟩⟩, ⟨_, k, ⟨k, k, k, k⟩⟩, (e1 k k), (e1 k k), (e1 k k), (e1 k k), (e1 k k), (e1 k k), (e1 k k), (e1 k k), (e1 k k), trivial⟩ ⟨⟨_, k, k, .inl ⟨k, plain_of k⟩⟩, k, ⟨_, k, k, .inr (ent_set (σ := sg [(0, 0), (1, 1), (2, 2)]) (m := 3) (e := (eLs 1 eI)) (l := x2.1) (i := v7.toNat) (c := [.own 2 0 v8.length]) (d := [.own 2 0 v8.length]) okLs ⟨_, _, k, ⟨k, k, k, k⟩, k⟩)⟩, k, ⟨_, k, k, .inl ⟨k, okI.plainO _⟩⟩, k, trivial⟩ k) ?_
    refine ac_region_draw MIXX <| ae (eff_move k) k <| ae (eff_move k) k <| ae (x_at_own TT_ok (atL_nn hv8) (atL_lt hv8) k k k k k k k) k <| ae (w_load_ptr TT_ok k k k k (set_at (atL_lt hv8)) k k) k <| ae (w_field_ptr TT_ok k k k k k k k) k <| ae (w_load_ptr TT_ok k k k k k k k) k <| ae (eff_move k) k ?_
    obtain ⟨v9, hv9, h⟩ := ob h
    refine ae (x_at_raw TT_ok r0_2 hv9 k k k k k k) k <| ae (x_load_raw TT_ok r0_2 (atL_get hv9) k k k k k k k) k ?_
    obtain ⟨v10, hv10, h⟩ := ob h
    refine ae (x_at_own TT_ok (atL_nn hv10) (atL_lt hv10) k k k k k k k) k <| ae (w_load_ptr TT_ok k k k k (map_at (atL_get hv10)) k k) k <| ae (x_sub k k) k ?_
    obtain ⟨v11, hv11, h⟩ := ob h
    refine ae (x_at_own TT_ok (atL_nn hv11) (atL_lt hv11) k k k k k k k) k <| ae (x_store TT_ok okIo (u := wr (v10 - 1)) (atL_get hv11) k k k k k k) k <| an ?_
    refine ⟨by kernel_rfl, ?_⟩
    refine tn <| ac_ent (t := mkS [(1, .ptr 0 0 0), (3, .own 1 0 ((x2.1.set v7.toNat (v8.set v9.toNat (wr (v10 - 1)))).length)), (5, .int x2.2), (6, .int v7), (29, .sc w0_1), (30, .int (a0.src.length : Int)), (31, .int x2.2)] [(0, ⟨3, [[.int a0.n, .sc w0_1, .sc w0_2]]⟩), (1, ⟨1, List.map (ow (eLs 1 eI)) (x2.1.set v7.toNat (v8.set v9.toNat (wr (v10 - 1))))⟩)] 3 [3, 4, 5] ⟨0, true, fxW W, true⟩) (Ent.trans (ent_absS (b := 1) (b' := 2) (j := 0) (es' := List.map eI (v8.set v9.toNat (wr (v10 - 1)))) (by rw [List.length_map]; exact atL_lt hv8) k k k k (by simp only [len_map, List.length_append, List.length_set, List.length_replicate, List.length_cons, List.length_nil]) (okI.frzs _)) (ent_mk (σ := sg [(0, 0), (1, 1)]) ⟨⟨_, k, ⟨k, k, k, k⟩⟩, ⟨_, k, ⟨k, k, (by simp only [len_map, List.length_append, List.length_set, List.length_replicate, List.length_cons, List.length_nil]), k⟩⟩, (e1 k k), (e1 k k), (e1 k k), (e1 k k), (e1 k k), trivial⟩ ⟨⟨_, k, k, .inl ⟨k, plain_of k⟩⟩, k, ⟨_, k, k, .inl ⟨set_eq (v8.set v9.toNat (wr (v10 - 1))) k, okLs.plainO _⟩⟩, k, trivial⟩ k)) <| rgS <| se (eff_move k) k <| se (w_field_ptr TT_ok k k k k k k k) k <| se (w_load_ptr TT_ok k k k k k k k) k <| se (eff_move k) k ?_
    obtain ⟨v12, hv12, h⟩ := ob h
    refine se (x_at_raw TT_ok r0_2 hv12 k k k k k k) k <| se (x_load_raw TT_ok r0_2 (atL_get hv12) k k k k k k k) k ?_
    obtain ⟨v13, hv13, h⟩ := ob h
    refine sops_ent (t := mkS [(1, .ptr 0 0 0), (3, .own 1 0 ((x2.1.set v7.toNat (v8.set v9.toNat (wr (v10 - 1)))).length)), (5, .int x2.2), (6, .int v7), (29, .sc w0_1), (30, .int (a0.src.length : Int)), (31, .int x2.2), (49, .own 1 0 ((x2.1.set v7.toNat (v8.set v9.toNat (wr (v10 - 1)))).length)), (50, .ptr 0 0 2), (51, .sc w0_2), (52, .int x2.2), (53, .sc (rawAt w0_2 1 x2.2.toNat)), (54, .int v12)] [(0, ⟨3, [[.int a0.n, .sc w0_1, .sc w0_2]]⟩), (1, ⟨1, (List.map (ow (eLs 1 eI)) (x2.1.set v7.toNat (v8.set v9.toNat (wr (v10 - 1))))).set v12.toNat [.abs 1 (List.map eI v13)]⟩)] 3 [3, 4, 5] ⟨0, true, fxW W, true⟩) (ent_mk (σ := sg [(0, 0), (1, 1)]) ⟨⟨_, k, ⟨k, k, k, k⟩⟩, ⟨_, k, ⟨k, k, k, k⟩⟩, (e1 k k), (e1 k k), (e1 k k), (e1 k k), (e1 k k), ⟨_, k, ⟨k, k, k, k⟩⟩, ⟨_, k, ⟨k, k, k, k⟩⟩, (e1 k k), (e1 k k), (e1 k k), (e1 k k), trivial⟩ ⟨⟨_, k, k, .inl ⟨k, plain_of k⟩⟩, k, ⟨_, k, k, .inl ⟨open_row (atL_get hv13), set_plain okLs k⟩⟩, k, trivial⟩ k) <| sops_ent (ent_openS (b := 1) (c := 3) (i := v12.toNat) (j := 0) (n := v13.length) (A := List.map (ow (eLs 1 eI)) (x2.1.set v7.toNat (v8.set v9.toNat (wr (v10 - 1))))) (fs := List.map (ow eI) v13) (by rw [List.length_map]; exact atL_lt hv13) k k k k (len_map _ _) (abs_map _ _) (dfE_ok ⟨k, k, k, k, k, k, k, k, k, k, k, k, k, trivial⟩) (dfH_ok (skip := []) ⟨.inr (df_lit k), .inr (okLs.dfS _ _ _ k), trivial⟩)) <| sops_ent (t := mkS [(1, .ptr 0 0 0), (3, .own 1 0 ((x2.1.set v7.toNat (v8.set v9.toNat (wr (v10 - 1)))).length)), (5, .int x2.2), (6, .int v7), (29, .sc w0_1), (30, .int (a0.src.length : Int)), (31, .int x2.2), (49, .own 1 0 ((x2.1.set v7.toNat (v8.set v9.toNat (wr (v10 - 1)))).length)), (50, .ptr 0 0 2), (51, .sc w0_2), (52, .int x2.2), (53, .sc (rawAt w0_2 1 x2.2.toNat)), (54, .int v12)] [(0, ⟨3, [[.int a0.n, .sc w0_1, .sc w0_2]]⟩), (1, ⟨1, (List.map (ow (eLs 1 eI)) (x2.1.set v7.toNat (v8.set v9.toNat (wr (v10 - 1))))).set v12.toNat [.own 3 0 v13.length]⟩), (3, ⟨1, List.map (ow eI) v13⟩)] 4 [4, 5] ⟨0, true, fxW W, true⟩) (ent_mk (σ := sg [(0, 0), (1, 1), (3, 3)]) ⟨⟨_, k, ⟨k, k, k, k⟩⟩, ⟨_, k, ⟨k, k, k, k⟩⟩, (e1 k k), (e1 k k), (e1 k k), (e1 k k), (e1 k k), ⟨_, k, ⟨k, k, k, k⟩⟩, ⟨_, k, ⟨k, k, k, k⟩⟩, (e1 k k), (e1 k k), (e1 k k), (e1 k k), trivial⟩ ⟨⟨_, k, k, .inl ⟨k, plain_of k⟩⟩, k, ⟨_, k, k, .inr (ent_set (σ := sg [(0, 0), (1, 1), (3, 3)]) (m := 4) (e := (eLs 1 eI)) (l := (x2.1.set v7.toNat (v8.set v9.toNat (wr (v10 - 1))))) (i := v12.toNat) (c := [.own 3 0 v13.length]) (d := [.own 3 0 v13.length]) okLs ⟨_, _, k, ⟨k, k, k, k⟩, k⟩)⟩, k, ⟨_, k, k, .inl ⟨k, okI.plainO _⟩⟩, k, trivial⟩ k) ?_
    refine se (x_at_own TT_ok (atL_nn hv13) (atL_lt hv13) k k k k k k k) k <| se (w_load_ptr TT_ok k k k k (set_at (atL_lt hv13)) k k) k <| se (eff_move k) k ?_
    obtain ⟨v14, hv14, h⟩ := ob h
    refine se (x_at_own TT_ok (atL_nn hv14) (atL_lt hv14) k k k k k k k) k <| se (w_load_ptr TT_ok k k k k (map_at (atL_get hv14)) k k) k <| se (x_sub k k) k ?_
    obtain ⟨v15, hv15, h⟩ := ob h
    refine se (x_at_own TT_ok (atL_nn hv15) (atL_lt hv15) k k k k k k k) k <| se (x_store TT_ok okIo (u := wr (v14 - 1)) (atL_get hv15) k k k k k k) k <| sn <| block_n <| tn <| ac_ent (t := mkS [(1, .ptr 0 0 0), (3, .own 1 0 (((x2.1.set v7.toNat (v8.set v9.toNat (wr (v10 - 1)))).set v12.toNat (v13.set v7.toNat (wr (v14 - 1)))).length)), (29, .sc w0_1), (30, .int (a0.src.length : Int)), (31, .int x2.2)] [(0, ⟨3, [[.int a0.n, .sc w0_1, .sc w0_2]]⟩), (1, ⟨1, List.map (ow (eLs 1 eI)) ((x2.1.set v7.toNat (v8.set v9.toNat (wr (v10 - 1)))).set v12.toNat (v13.set v7.toNat (wr (v14 - 1))))⟩)] 4 [4, 5] ⟨0, true, fxW W, true⟩) (Ent.trans (ent_absS (b := 1) (b' := 3) (j := 0) (es' := List.map eI (v13.set v7.toNat (wr (v14 - 1)))) (by rw [List.length_map]; exact atL_lt hv13) k k k k (by simp only [len_map, List.length_append, List.length_set, List.length_replicate, List.length_cons, List.length_nil]) (okI.frzs _)) (ent_mk (σ := sg [(0, 0), (1, 1)]) ⟨⟨_, k, ⟨k, k, k, k⟩⟩, ⟨_, k, ⟨k, k, (by simp only [len_map, List.length_append, List.length_set, List.length_replicate, List.length_cons, List.length_nil]), k⟩⟩, (e1 k k), (e1 k k), (e1 k k), trivial⟩ ⟨⟨_, k, k, .inl ⟨k, plain_of k⟩⟩, k, ⟨_, k, k, .inl ⟨set_eq (v13.set v7.toNat (wr (v14 - 1))) k, okLs.plainO _⟩⟩, k, trivial⟩ k)) <| rgS <| se (x_add k k) k <| se (eff_move k) k <| sn ?_
    refine tn ?_
    obtain rfl := so h
    exact ⟨_, k, (ent_mk (σ := sg [(0, 0), (1, 1)]) ⟨⟨_, k, ⟨k, k, k, k⟩⟩, ⟨_, k, ⟨k, k, k, k⟩⟩, (e1 k k), (e1 k k), (e1 k k), trivial⟩ ⟨⟨_, k, k, .inl ⟨k, plain_of k⟩⟩, k, ⟨_, k, k, .inl ⟨k, okLs.plainO _⟩⟩, k, trivial⟩ k)⟩
   ·refine ac_condF k q6 <| ac_exit <| then_exit <| then_exit ?_
    obtain rfl := so h
    exact ⟨_, k, k, (ent_mk (σ := sg [(0, 1)]) ⟨⟨_, k, ⟨k, k, k, k⟩⟩, trivial⟩ ⟨⟨_, k, k, .inl ⟨k, okLs.plainO _⟩⟩, k, trivial⟩ k)⟩
  ·rintro e t ⟨rfl, hent⟩
   refine block_here <| tn <| ac_ent hent <| sQ <| rgS <| se (eff_move k) k <| se (eff_assign k) k <| sn <| tn <| ac_ret ?_
   obtain rfl := so h
   exact ret_mk k k k (xz_list (x_f1 okLs k k))

noncomputable def m_impl_KindOfQuiver_L3 (v6 : (List Int)) (x1 : (Int × Int)) (x3 : ((List Int) × Int)) : Option (((List Int) × Int) ⊕ (List Int)) :=
  bif decide (x3.2 < (v6.length : Int)) then
    (Option.bind (atL v6 x3.2) fun v9 =>
    bif !decide (x3.2 < 0) then
      (bif decide (andI (shrI x1.2 x3.2) 1 = 1) then
        (bif decide (x3.1.length + [v9].length ≤ 4294967296) then
          (some (.inl ((x3.1 ++ [v9]), wr (x3.2 + 1))))
        else none)
      else
        (some (.inl (x3.1, wr (x3.2 + 1)))))
    else none)
  else
    (some (.inr x3.1))

noncomputable def m_impl_KindOfQuiver_L2 (v3 : (List (List Int))) (x1 : (Int × Int)) (x2 : (Int × (List (List Int)))) : Option ((Int × (List (List Int))) ⊕ (List (List Int))) :=
  bif decide (x2.1 < ((v3.length : Nat) : Int)) then
    (Option.bind (atL v3 x2.1) fun v6 =>
    bif !decide (x2.1 < 0) then
      (bif decide (andI (shrI x1.2 x2.1) 1 = 0) then
        (some (.inl (wr (x2.1 + 1), x2.2)))
      else
        (Option.bind (Lp (m_impl_KindOfQuiver_L3 v6 x1) ([], 0)) fun y13 =>
        bif decide (x2.2.length + 1 ≤ 4294967296) then
          (some (.inl (wr (x2.1 + 1), (x2.2 ++ [y13]))))
        else none))
    else none)
  else
    (some (.inr x2.2))

noncomputable def m_impl_KindOfQuiver_L1 (a0 : Qv) (v3 : (List (List Int))) (x1 : (Int × Int)) : Option ((Int × Int) ⊕ (Int ⊕ Int)) :=
  bif !decide (a0.n < 0) then
    (bif decide (x1.2 < shlI 1 a0.n) then
      (Option.bind (Lp (m_impl_KindOfQuiver_L2 v3 x1) (0, [])) fun y16 =>
      Option.bind (m_impl_determinant 8 y16) fun v17 =>
      bif decide (v17 < 0) then
        (some (.inr (.inr (3))))
      else
        (bif decide (v17 = 0) then
          (some (.inl (2, wr (x1.2 + 1))))
        else
          (some (.inl (x1.1, wr (x1.2 + 1))))))
    else
      (some (.inr (.inl x1.1))))
  else none

noncomputable def m_impl_KindOfQuiver (a0 : Qv) : Option Int :=
  Option.bind (m_impl_IsQuiver a0) fun v1 =>
  bif !v1 then
    (some (0))
  else
    (Option.bind (m_impl_symmetric a0) fun v3 =>
    Option.bind (Lp (m_impl_KindOfQuiver_L1 a0 v3) (1, 1)) fun y21 =>
    Sum.elim (fun y22 =>
      some (y22)
    ) 
    (fun y23 =>
      some y23
    )
     y21)

theorem c_impl_KindOfQuiver (a0 : Qv) (r : Int) (h : m_impl_KindOfQuiver a0 = some r) : HasC Try.prog 58 [.agg (eQ a0)] (.int r) := by
 refine hasC_mk TT_ok (rvs := [.tmp 2]) (ns := [0, 1, 2, 3, 4, 5, 6, 7]) Try.func58 k k Try.ntmps58 k k k <| sQ <| rg <| ae (w_box k k k k) k <| ae (eff_assign k) k <| an <| tn <| sQ <| sQ <| rg ?_
 refine ae (w_load_ptr TT_ok k k k k k k k) k ?_
 obtain ⟨v1, hv1, h⟩ := ob h
 refine ae (w_call0s (c_impl_IsQuiver a0 v1 hv1) k (va_cons (va_agg' (v1_cons (v1_same k) (v1_cons (v1_same k) (v1_cons (v1_same k) v1_nil)))) va_nil)) k <| ae (w_not k) k <| an <| tn ?_
 rcases cb h with ⟨q2, h⟩ | ⟨q2, h⟩
 ·refine ac_condT k q2 <| sQ <| rg <| ae (eff_assign k) k <| an <| tn <| ac_ret <| then_ret ?_
  obtain rfl := so h
  exact ret_mk k k k (fz_int k)
 ·refine ac_condF k q2 <| ac_skip <| tn <| sQ <| rg <| ae (eff_assign k) k <| an <| tn <| sQ <| rg ?_
  refine ae (w_load_ptr TT_ok k k k k k k k) k ?_
  obtain ⟨v3, hv3, h⟩ := ob h
  refine ae (AEff.conv (w_call0 (x := .own 1 0 (List.map (eLs 1 eI) v3).length) (nb := [(1, ⟨1, absEs (List.map (eLs 1 eI) v3)⟩)]) (c_impl_symmetric a0 v3 hv3) k (by rfl) k k (okLs.good _) (va_cons (va_agg' (v1_cons (v1_same k) (v1_cons (v1_same k) (v1_cons (v1_same k) v1_nil)))) va_nil)) (v' := .own 1 0 v3.length) (ed' := [(1, some ⟨1, List.map (ow (eLs 1 eI)) v3⟩)]) (by simp only [len_map]) (ed_ok (nb' := [(1, ⟨1, List.map (ow (eLs 1 eI)) v3⟩)]) (by simp only [abs_map]))) k <| ae (eff_assign k) k <| an <| tn <| sQ <| sQ <| rg <| ae (eff_assign k) k <| an <| tn ?_
  refine ac_block ?_
  obtain ⟨y21, hy21, h⟩ := ob h
  refine ac_Lp (body := (m_impl_KindOfQuiver_L1 a0 v3)) hy21 (fun (x1 : (Int × Int)) => mkS [(1, .ptr 0 0 0), (3, .int x1.1), (4, .own 1 0 v3.length), (5, .int x1.2)] [(0, ⟨3, [[.int a0.n, .list 1 (List.map eI a0.src), .list 1 (List.map eI a0.tgt)]]⟩), (1, ⟨1, List.map (ow (eLs 1 eI)) v3⟩)] 2 [2, 3, 4, 5, 6, 7]) (fun r e t => Sum.elim (fun a => (fun r e t => e = .exit 0 ∧ Ent t (mkS [(3, .int r)] [] 0 [0, 1, 2, 3, 4, 5, 6, 7])) a e t) (fun b => (fun r e t => e = .ret ∧ RetQ TT [.tmp 2] (.int r) .ret t) b e t) r) (ent_mk (σ := sg [(0, 0), (1, 1)]) ⟨⟨_, k, ⟨k, k, k, k⟩⟩, (e1 k k), ⟨_, k, ⟨k, k, k, k⟩⟩, (e1 k k), trivial⟩ ⟨⟨_, k, k, .inl ⟨k, plain_of k⟩⟩, k, ⟨_, k, k, .inl ⟨k, okLs.plainO _⟩⟩, k, trivial⟩ k) ?_ ?_
  ·intro x1 o h
   refine sQ <| sQ <| rg <| ae (eff_move k) k <| ae (w_field_ptr TT_ok k k k k k k k) k <| ae (w_load_ptr TT_ok k k k k k k k) k ?_
   obtain ⟨q20, h⟩ := cg h
   refine ae (x_shl k k q20) k <| ae (w_cmp k k k) k <| an <| tn ?_
   rcases cb h with ⟨q4, h⟩ | ⟨q4, h⟩
   ·refine ac_condT k q4 <| ac_skip <| tn <| sQ <| ac_block <| sQ <| rg <| ae (eff_assign k) k <| an <| tn ?_
    refine sQ <| sQ <| rg <| ae (eff_move k) k <| ae (w_len_own TT_ok k k k k) k <| ae (eff_move k) k <| an <| tn <| ac_block ?_
    obtain ⟨y16, hy16, h⟩ := ob h
    refine ac_Lp (body := (m_impl_KindOfQuiver_L2 v3 x1)) hy16 (fun (x2 : (Int × (List (List Int)))) => mkS [(1, .ptr 0 0 0), (3, .int x1.1), (4, .own 1 0 v3.length), (5, .int x1.2), (6, .own 2 0 x2.2.length), (25, .own 1 0 v3.length), (26, .int ((v3.length : Nat) : Int)), (27, .int x2.1)] [(0, ⟨3, [[.int a0.n, .list 1 (List.map eI a0.src), .list 1 (List.map eI a0.tgt)]]⟩), (1, ⟨1, List.map (ow (eLs 1 eI)) v3⟩), (2, ⟨1, List.map (ow (eLs 1 eI)) x2.2⟩)] 3 [3, 4, 5, 6, 7]) (fun r e t => e = .exit 2 ∧ Ent t (mkS [(1, .ptr 0 0 0), (3, .int x1.1), (4, .own 1 0 v3.length), (5, .int x1.2), (6, .own 2 0 r.length)] [(0, ⟨3, [[.int a0.n, .list 1 (List.map eI a0.src), .list 1 (List.map eI a0.tgt)]]⟩), (1, ⟨1, List.map (ow (eLs 1 eI)) v3⟩), (2, ⟨1, List.map (ow (eLs 1 eI)) r⟩)] 3 [3, 4, 5, 6, 7])) (ent_mk (σ := sg [(0, 0), (1, 1)]) ⟨⟨_, k, ⟨k, k, k, k⟩⟩, (e1 k k), ⟨_, k, ⟨k, k, k, k⟩⟩, (e1 k k), ⟨_, k, ⟨k, k, k, k⟩⟩, ⟨_, k, ⟨k, k, k, k⟩⟩, (e1 k k), (e1 k k), trivial⟩ ⟨⟨_, k, k, .inl ⟨k, plain_of k⟩⟩, k, ⟨_, k, k, .inl ⟨k, okLs.plainO _⟩⟩, k, k, k, trivial⟩ k) ?_ ?_
    ·intro x2 o h
     refine sQ <| rg <| ae (w_cmp k k k) k <| an <| tn <| sQ ?_
     rcases cb h with ⟨q5, h⟩ | ⟨q5, h⟩
     ·refine ac_condT k q5 <| ac_skip <| tn <| sQ <| ac_block <| sQ <| rg <| ae (eff_move k) k ?_
      obtain ⟨v6, hv6, h⟩ := ob h
      refine ae (x_at_own TT_ok (atL_nn hv6) (atL_lt hv6) k k k k k k k) k <| ae (w_load_ptr TT_ok k k k k (map_at (atL_get hv6)) k k) k <| ae (eff_assign k) k <| ae (eff_assign k) k <| an <| tn <| sQ <| sQ <| rg <| ae (eff_move k) k ?_
      refine ae (eff_move k) k ?_
      obtain ⟨q15, h⟩ := cg h
      refine ae (x_shr k k q15) k <| ae (x_and k k) k <| ae (w_cmp k k k) k <| an <| tn ?_
      rcases cb h with ⟨q7, h⟩ | ⟨q7, h⟩
      ·refine ac_condT k q7 <| ac_exit <| then_exit <| block_here <| tn <| rg <| ae (x_add k k) k <| ae (eff_move k) k <| an <| tn ?_
       obtain rfl := so h
       exact ⟨_, k, (ent_mk (σ := sg [(0, 0), (1, 1), (2, 2)]) ⟨⟨_, k, ⟨k, k, k, k⟩⟩, (e1 k k), ⟨_, k, ⟨k, k, k, k⟩⟩, (e1 k k), ⟨_, k, ⟨k, k, k, k⟩⟩, ⟨_, k, ⟨k, k, k, k⟩⟩, (e1 k k), (e1 k k), trivial⟩ ⟨⟨_, k, k, .inl ⟨k, plain_of k⟩⟩, k, ⟨_, k, k, .inl ⟨k, okLs.plainO _⟩⟩, k, ⟨_, k, k, .inl ⟨k, okLs.plainO _⟩⟩, k, trivial⟩ k)⟩
      ·refine ac_condF k q7 <| ac_skip <| tn <| sQ <| rg <| ae (eff_assign k) k <| an <| tn <| ac_ent (t := mkS [(1, .ptr 0 0 0), (3, .int x1.1), (4, .own 1 0 v3.length), (5, .int x1.2), (6, .own 2 0 x2.2.length), (8, .list 1 (List.map eI v6)), (9, .nil 0), (25, .own 1 0 v3.length), (26, .int ((v3.length : Nat) : Int)), (27, .int x2.1)] [(0, ⟨3, [[.int a0.n, .list 1 (List.map eI a0.src), .list 1 (List.map eI a0.tgt)]]⟩), (1, ⟨1, List.map (ow (eLs 1 eI)) v3⟩), (2, ⟨1, List.map (ow (eLs 1 eI)) x2.2⟩)] 3 [3, 4, 5, 6, 7]) (ent_mk (σ := sg [(0, 0), (1, 1), (2, 2)]) ⟨⟨_, k, ⟨k, k, k, k⟩⟩, (e1 k k), ⟨_, k, ⟨k, k, k, k⟩⟩, (e1 k k), ⟨_, k, ⟨k, k, k, k⟩⟩, ⟨_, k, ⟨k, k⟩⟩, ⟨_, k, trivial⟩, ⟨_, k, ⟨k, k, k, k⟩⟩, (e1 k k), (e1 k k), trivial⟩ ⟨⟨_, k, k, .inl ⟨k, plain_of k⟩⟩, k, ⟨_, k, k, .inl ⟨k, okLs.plainO _⟩⟩, k, ⟨_, k, k, .inl ⟨k, okLs.plainO _⟩⟩, k, trivial⟩ k) <| sQ ?_
       refine sQ <| rg <| ae (eff_move k) k <| ae (AEff.val (w_len_list TT_ok k k k) (v' := .int (v6.length : Int)) (by first | rw [len_map] | rw [encI_len])) k <| ae (eff_move k) k <| an <| tn <| ac_block ?_
       obtain ⟨y13, hy13, h⟩ := ob h
       refine ac_Lp (body := (m_impl_KindOfQuiver_L3 v6 x1)) hy13 (fun (x3 : ((List Int) × Int)) => mkS [(1, .ptr 0 0 0), (3, .int x1.1), (4, .own 1 0 v3.length), (5, .int x1.2), (6, .own 2 0 x2.2.length), (9, .own 3 0 x3.1.length), (25, .own 1 0 v3.length), (26, .int ((v3.length : Nat) : Int)), (27, .int x2.1), (37, .list 1 (List.map eI v6)), (38, .int (v6.length : Int)), (39, .int x3.2)] [(0, ⟨3, [[.int a0.n, .list 1 (List.map eI a0.src), .list 1 (List.map eI a0.tgt)]]⟩), (1, ⟨1, List.map (ow (eLs 1 eI)) v3⟩), (2, ⟨1, List.map (ow (eLs 1 eI)) x2.2⟩), (3, ⟨1, List.map (ow eI) x3.1⟩)] 4 [4, 5, 6, 7]) (fun r e t => e = .exit 4 ∧ Ent t (mkS [(1, .ptr 0 0 0), (3, .int x1.1), (4, .own 1 0 v3.length), (5, .int x1.2), (6, .own 2 0 x2.2.length), (9, .own 3 0 r.length), (25, .own 1 0 v3.length), (26, .int ((v3.length : Nat) : Int)), (27, .int x2.1)] [(0, ⟨3, [[.int a0.n, .list 1 (List.map eI a0.src), .list 1 (List.map eI a0.tgt)]]⟩), (1, ⟨1, List.map (ow (eLs 1 eI)) v3⟩), (2, ⟨1, List.map (ow (eLs 1 eI)) x2.2⟩), (3, ⟨1, List.map (ow eI) r⟩)] 4 [4, 5, 6, 7])) (ent_mk (σ := sg [(0, 0), (1, 1), (2, 2)]) ⟨⟨_, k, ⟨k, k, k, k⟩⟩, (e1 k k), ⟨_, k, ⟨k, k, k, k⟩⟩, (e1 k k), ⟨_, k, ⟨k, k, k, k⟩⟩, ⟨_, k, ⟨k, k, k, k⟩⟩, ⟨_, k, ⟨k, k, k, k⟩⟩, (e1 k k), (e1 k k), ⟨_, k, ⟨k, k⟩⟩, (e1 k k), (e1 k k), trivial⟩ ⟨⟨_, k, k, .inl ⟨k, plain_of k⟩⟩, k, ⟨_, k, k, .inl ⟨k, okLs.plainO _⟩⟩, k, ⟨_, k, k, .inl ⟨k, okLs.plainO _⟩⟩, k, k, k, trivial⟩ k) ?_ ?_
       ·intro x3 o h
        refine sQ <| rg <| ae (w_cmp k k k) k <| an <| tn <| sQ ?_
        rcases cb h with ⟨q8, h⟩ | ⟨q8, h⟩
        ·refine ac_condT k q8 <| ac_skip <| tn <| sQ <| ac_block <| sQ <| rg <| ae (eff_move k) k ?_
         obtain ⟨v9, hv9, h⟩ := ob h
         refine ae (x_at_list TT_ok hv9 k k k k k k) k <| ae (w_load_ref TT_ok k k k k k k) k <| ae (eff_assign k) k <| ae (eff_assign k) k <| an <| tn <| sQ <| rg <| ae (eff_move k) k <| ae (eff_move k) k ?_
         obtain ⟨q12, h⟩ := cg h
         refine ae (x_shr k k q12) k <| ae (x_and k k) k <| ae (w_cmp k k k) k <| an <| tn ?_
         rcases cb h with ⟨q10, h⟩ | ⟨q10, h⟩
         ·refine ac_condT k q10 <| rg <| ae (eff_move k) k <| ae (eff_move k) k <| ae (w_lit TT_ok k k k k k k k k k k k k) k ?_
          obtain ⟨q11, h⟩ := cg h
          refine ae (x_app TT_ok (l := x3.1) (m := [v9]) okIo q11 k k k k k k k k k k k k) k <| ae (eff_assign k) k <| an <| block_n <| tn <| ac_ent (t := mkS [(1, .ptr 0 0 0), (3, .int x1.1), (4, .own 1 0 v3.length), (5, .int x1.2), (6, .own 2 0 x2.2.length), (9, .own 5 0 ((x3.1 ++ [v9]).length)), (25, .own 1 0 v3.length), (26, .int ((v3.length : Nat) : Int)), (27, .int x2.1), (37, .list 1 (List.map eI v6)), (38, .int (v6.length : Int)), (39, .int x3.2)] [(0, ⟨3, [[.int a0.n, .list 1 (List.map eI a0.src), .list 1 (List.map eI a0.tgt)]]⟩), (1, ⟨1, List.map (ow (eLs 1 eI)) v3⟩), (2, ⟨1, List.map (ow (eLs 1 eI)) x2.2⟩), (5, ⟨1, List.map (ow eI) (x3.1 ++ [v9])⟩)] 6 [6, 7]) (ent_mk (σ := sg [(0, 0), (1, 1), (2, 2), (5, 5)]) ⟨⟨_, k, ⟨k, k, k, k⟩⟩, (e1 k k), ⟨_, k, ⟨k, k, k, k⟩⟩, (e1 k k), ⟨_, k, ⟨k, k, k, k⟩⟩, ⟨_, k, ⟨k, k, k, k⟩⟩, ⟨_, k, ⟨k, k, k, k⟩⟩, (e1 k k), (e1 k k), ⟨_, k, ⟨k, k⟩⟩, (e1 k k), (e1 k k), trivial⟩ ⟨⟨_, k, k, .inl ⟨k, plain_of k⟩⟩, k, ⟨_, k, k, .inl ⟨k, okLs.plainO _⟩⟩, k, ⟨_, k, k, .inl ⟨k, okLs.plainO _⟩⟩, k, ⟨_, k, k, .inl ⟨k, okI.plainO _⟩⟩, k, trivial⟩ k) <| rg <| ae (x_add k k) k <| ae (eff_move k) k <| an ?_
          refine tn ?_
          obtain rfl := so h
          exact ⟨_, k, (ent_mk (σ := sg [(0, 0), (1, 1), (2, 2), (3, 5)]) ⟨⟨_, k, ⟨k, k, k, k⟩⟩, (e1 k k), ⟨_, k, ⟨k, k, k, k⟩⟩, (e1 k k), ⟨_, k, ⟨k, k, k, k⟩⟩, ⟨_, k, ⟨k, k, k, k⟩⟩, ⟨_, k, ⟨k, k, k, k⟩⟩, (e1 k k), (e1 k k), ⟨_, k, ⟨k, k⟩⟩, (e1 k k), (e1 k k), trivial⟩ ⟨⟨_, k, k, .inl ⟨k, plain_of k⟩⟩, k, ⟨_, k, k, .inl ⟨k, okLs.plainO _⟩⟩, k, ⟨_, k, k, .inl ⟨k, okLs.plainO _⟩⟩, k, ⟨_, k, k, .inl ⟨k, okI.plainO _⟩⟩, k, trivial⟩ k)⟩
         ·refine ac_condF k q10 <| ac_skip <| block_n <| tn <| rg <| ae (x_add k k) k <| ae (eff_move k) k <| an <| tn ?_
          obtain rfl := so h
          exact ⟨_, k, (ent_mk (σ := sg [(0, 0), (1, 1), (2, 2), (3, 3)]) ⟨⟨_, k, ⟨k, k, k, k⟩⟩, (e1 k k), ⟨_, k, ⟨k, k, k, k⟩⟩, (e1 k k), ⟨_, k, ⟨k, k, k, k⟩⟩, ⟨_, k, ⟨k, k, k, k⟩⟩, ⟨_, k, ⟨k, k, k, k⟩⟩, (e1 k k), (e1 k k), ⟨_, k, ⟨k, k⟩⟩, (e1 k k), (e1 k k), trivial⟩ ⟨⟨_, k, k, .inl ⟨k, plain_of k⟩⟩, k, ⟨_, k, k, .inl ⟨k, okLs.plainO _⟩⟩, k, ⟨_, k, k, .inl ⟨k, okLs.plainO _⟩⟩, k, ⟨_, k, k, .inl ⟨k, okI.plainO _⟩⟩, k, trivial⟩ k)⟩
        ·refine ac_condF k q8 <| ac_exit <| then_exit <| then_exit ?_
         obtain rfl := so h
         exact ⟨_, k, k, (ent_mk (σ := sg [(0, 0), (1, 1), (2, 2), (3, 3)]) ⟨⟨_, k, ⟨k, k, k, k⟩⟩, (e1 k k), ⟨_, k, ⟨k, k, k, k⟩⟩, (e1 k k), ⟨_, k, ⟨k, k, k, k⟩⟩, ⟨_, k, ⟨k, k, k, k⟩⟩, ⟨_, k, ⟨k, k, k, k⟩⟩, (e1 k k), (e1 k k), trivial⟩ ⟨⟨_, k, k, .inl ⟨k, plain_of k⟩⟩, k, ⟨_, k, k, .inl ⟨k, okLs.plainO _⟩⟩, k, ⟨_, k, k, .inl ⟨k, okLs.plainO _⟩⟩, k, ⟨_, k, k, .inl ⟨k, okI.plainO _⟩⟩, k, trivial⟩ k)⟩
       ·rintro e t ⟨rfl, hent⟩
        refine block_here <| tn <| ac_ent hent <| rg <| ae (eff_move k) k <| ae (eff_move k) k <| ae (w_lit TT_ok k k k k k k k k k k k k) k ?_
        obtain ⟨q14, h⟩ := cg h
        refine ae (x_app1 TT_ok (l := x2.2) (c := [.own 3 0 y13.length]) q14 k k k k k k k k k k k k k k) k <| ae (eff_assign k) k <| an <| block_n <| tn <| ac_ent (t := mkS [(1, .ptr 0 0 0), (3, .int x1.1), (4, .own 1 0 v3.length), (5, .int x1.2), (6, .own 5 0 ((x2.2 ++ [y13]).length)), (25, .own 1 0 v3.length), (26, .int ((v3.length : Nat) : Int)), (27, .int x2.1)] [(0, ⟨3, [[.int a0.n, .list 1 (List.map eI a0.src), .list 1 (List.map eI a0.tgt)]]⟩), (1, ⟨1, List.map (ow (eLs 1 eI)) v3⟩), (5, ⟨1, List.map (ow (eLs 1 eI)) (x2.2 ++ [y13])⟩)] 6 [6, 7]) (Ent.trans (ent_absL (b := 5) (b' := 3) (j := 0) (es' := List.map eI y13) k k k k (len_map _ _) (okI.frzs _)) (ent_mk (σ := sg [(0, 0), (1, 1), (5, 5)]) ⟨⟨_, k, ⟨k, k, k, k⟩⟩, (e1 k k), ⟨_, k, ⟨k, k, k, k⟩⟩, (e1 k k), ⟨_, k, ⟨k, k, (by simp only [len_map, List.length_append, List.length_set, List.length_replicate, List.length_cons, List.length_nil]), k⟩⟩, ⟨_, k, ⟨k, k, k, k⟩⟩, (e1 k k), (e1 k k), trivial⟩ ⟨⟨_, k, k, .inl ⟨k, plain_of k⟩⟩, k, ⟨_, k, k, .inl ⟨k, okLs.plainO _⟩⟩, k, ⟨_, k, k, .inl ⟨app_eq y13 k, okLs.plainO _⟩⟩, k, trivial⟩ k)) <| rg <| ae (x_add k k) k <| ae (eff_move k) k <| an ?_
        refine tn ?_
        obtain rfl := so h
        exact ⟨_, k, (ent_mk (σ := sg [(0, 0), (1, 1), (2, 5)]) ⟨⟨_, k, ⟨k, k, k, k⟩⟩, (e1 k k), ⟨_, k, ⟨k, k, k, k⟩⟩, (e1 k k), ⟨_, k, ⟨k, k, k, k⟩⟩, ⟨_, k, ⟨k, k, k, k⟩⟩, (e1 k k), (e1 k k), trivial⟩ ⟨⟨_, k, k, .inl ⟨k, plain_of k⟩⟩, k, ⟨_, k, k, .inl ⟨k, okLs.plainO _⟩⟩, k, ⟨_, k, k, .inl ⟨k, okLs.plainO _⟩⟩, k, trivial⟩ k)⟩
     ·refine ac_condF k q5 <| ac_exit <| then_exit <| then_exit ?_
      obtain rfl := so h
      exact ⟨_, k, k, (ent_mk (σ := sg [(0, 0), (1, 1), (2, 2)]) ⟨⟨_, k, ⟨k, k, k, k⟩⟩, (e1 k k), ⟨_, k, ⟨k, k, k, k⟩⟩, (e1 k k), ⟨_, k, ⟨k, k, k, k⟩⟩, trivial⟩ ⟨⟨_, k, k, .inl ⟨k, plain_of k⟩⟩, k, ⟨_, k, k, .inl ⟨k, okLs.plainO _⟩⟩, k, ⟨_, k, k, .inl ⟨k, okLs.plainO _⟩⟩, k, trivial⟩ k)⟩
    ·rintro e t ⟨rfl, hent⟩
     refine block_here <| tn <| ac_ent hent <| sQ <| rg <| ae (eff_move k) k ?_
     obtain ⟨v17, hv17, h⟩ := ob h
     refine ae (w_call0s (c_impl_determinant 8 y16 v17 hv17) k (va_cons (va_T okLs k k) va_nil)) k <| ae (eff_assign k) k <| an <| tn <| ac_block <| sQ <| rg <| ae (eff_move k) k <| ae (w_cmp k k k) k <| ae (eff_assign k) k ?_
     refine an <| tn ?_
     rcases cb h with ⟨q18, h⟩ | ⟨q18, h⟩
     ·refine ac_condT k q18 <| sQ <| rg <| ae (eff_assign k) k <| an <| tn <| ac_ret <| block_ret <| block_ret <| then_ret ?_
      refine then_ret ?_
      obtain rfl := so h
      exact ⟨_, k, k, ret_mk k k k (fz_int k)⟩
     ·refine ac_condF k q18 <| sQ <| rg <| ae (eff_move k) k <| ae (w_cmp k k k) k <| ae (eff_assign k) k <| an <| tn ?_
      rcases cb h with ⟨q19, h⟩ | ⟨q19, h⟩
      ·refine ac_condT k q19 <| rg <| ae (eff_assign k) k <| an <| block_n <| block_n <| tn <| rg <| ae (eff_move k) k <| ae (x_add k k) k ?_
       refine ae (eff_assign k) k <| an <| tn ?_
       obtain rfl := so h
       exact ⟨_, k, (ent_mk (σ := sg [(0, 0), (1, 1)]) ⟨⟨_, k, ⟨k, k, k, k⟩⟩, (e1 k k), ⟨_, k, ⟨k, k, k, k⟩⟩, (e1 k k), trivial⟩ ⟨⟨_, k, k, .inl ⟨k, plain_of k⟩⟩, k, ⟨_, k, k, .inl ⟨k, okLs.plainO _⟩⟩, k, trivial⟩ k)⟩
      ·refine ac_condF k q19 <| ac_skip <| block_n <| block_n <| tn <| rg <| ae (eff_move k) k <| ae (x_add k k) k <| ae (eff_assign k) k <| an ?_
       refine tn ?_
       obtain rfl := so h
       exact ⟨_, k, (ent_mk (σ := sg [(0, 0), (1, 1)]) ⟨⟨_, k, ⟨k, k, k, k⟩⟩, (e1 k k), ⟨_, k, ⟨k, k, k, k⟩⟩, (e1 k k), trivial⟩ ⟨⟨_, k, k, .inl ⟨k, plain_of k⟩⟩, k, ⟨_, k, k, .inl ⟨k, okLs.plainO _⟩⟩, k, trivial⟩ k)⟩
   ·refine ac_condF k q4 <| ac_exit <| then_exit <| then_exit ?_
    obtain rfl := so h
    exact ⟨_, k, k, (ent_mk (σ := sg []) ⟨(e1 k k), trivial⟩ trivial k)⟩
  ·intro e t hX
   rcases y21 with y22 | y23
   ·obtain ⟨rfl, hent⟩ := hX
    refine block_here <| tn <| ac_ent hent <| sQ <| rg <| ae (eff_move k) k <| ae (eff_assign k) k <| an <| tn <| ac_ret ?_
    obtain rfl := so h
    exact ret_mk k k k (fz_int k)
   ·obtain ⟨rfl, hent⟩ := hX
    refine block_ret <| then_ret ?_
    obtain rfl := so h
    exact hent

noncomputable def m_impl_PositiveRoots (a0 : Qv) : Option ((List (List Int)) × Bool) :=
  Option.bind (m_impl_KindOfQuiver a0) fun v1 =>
  bif !decide (v1 = 1) then
    (some ([], false))
  else
    (Option.bind (m_impl_roots a0) fun v3 =>
    some (v3, true))

theorem c_impl_PositiveRoots (a0 : Qv) (r : ((List (List Int)) × Bool)) (h : m_impl_PositiveRoots a0 = some r) : HasE Try.prog 47 [.agg (eQ a0)] [] 0 (.tuple [.own 0 0 r.1.length, .bl r.2]) [(0, ⟨1, List.map (eLs 1 eI) r.1⟩)] := by
 refine hasE_mk TT_ok (rvs := [.tmp 2, .tmp 3]) (ns := [0, 1, 2, 3]) Try.func47 k k Try.ntmps47 k k <| sQ <| rgS <| se (w_box k k k k) k <| se (eff_assign k) k <| se (eff_assign k) k <| sn <| tn <| sQ <| sQ ?_
 refine rgS <| se (w_load_ptr TT_ok k k k k k k k) k ?_
 obtain ⟨v1, hv1, h⟩ := ob h
 refine se (w_call0s (c_impl_KindOfQuiver a0 v1 hv1) k (va_cons (va_agg' (v1_cons (v1_same k) (v1_cons (v1_same k) (v1_cons (v1_same k) v1_nil)))) va_nil)) k <| se (w_cmp k k k) k <| sn <| tn ?_
 rcases cb h with ⟨q2, h⟩ | ⟨q2, h⟩
 ·refine ac_condT k q2 <| sQ <| rgS <| se (eff_assign k) k <| se (eff_assign k) k <| sn <| tn <| ac_ret <| then_ret ?_
  obtain rfl := so h
  exact ⟨mkS [(2, .own 0 0 ([].length)), (3, .bl false)] [(0, ⟨1, List.map (eLs 1 eI) []⟩)] 1 [1, 2, 3] ⟨0, false, none, true⟩, (ent_mk (σ := sg []) ⟨⟨_, k, ⟨k, k, k, k⟩⟩, (e1 k k), trivial⟩ ⟨k, k, trivial⟩ k), k, ⟨_, k, .inr ⟨(by simp), k, k⟩⟩, ⟨k, trivial⟩⟩
 ·refine ac_condF k q2 <| ac_skip <| tn <| sQ <| rgS <| se (w_load_ptr TT_ok k k k k k k k) k ?_
  obtain ⟨v3, hv3, h⟩ := ob h
  refine se (eff_hasD (σ := sg []) (σ' := sg [(1, 0)]) (touch := []) (news := [1]) (hl2 := [(1, ⟨1, List.map (eLs 1 eI) v3⟩)]) (n' := 2) (r2 := .own 1 0 v3.length) (c_impl_roots a0 v3 hv3) k k ⟨_, _, k, (.inl ⟨_, _, k, k, ⟨_, _, k, ⟨k, k⟩, ⟨_, _, k, ⟨k, k⟩, k⟩⟩⟩), k⟩ trivial k k k ⟨⟨_, k, k, .inl ⟨k, okLs.plainE _⟩⟩, k, trivial⟩ k (.inl ⟨k, k, (by simp only [len_map, List.length_append, List.length_set, List.length_replicate, List.length_cons, List.length_nil]), k⟩) k ⟨k, okLs.tamdE _ _, trivial⟩ k k) k <| se (eff_assign k) k <| se (eff_assign k) k <| sn <| tn <| ac_ret ?_
  obtain rfl := so h
  exact ⟨mkS [(2, .own 0 0 v3.length), (3, .bl true)] [(0, ⟨1, List.map (eLs 1 eI) v3⟩)] 1 [1, 2, 3] ⟨0, false, none, true⟩, (ent_mk (σ := sg [(0, 1)]) ⟨⟨_, k, ⟨k, k, k, k⟩⟩, (e1 k k), trivial⟩ ⟨⟨_, k, k, .inl ⟨k, okLs.plainE _⟩⟩, k, trivial⟩ k), k, ⟨_, k, .inr ⟨(by simp), k, k⟩⟩, ⟨k, trivial⟩⟩

noncomputable def m_impl_rootIndex_1 (a0 : (List Int)) (a1 : (List Int)) : Option Bool :=
  Option.bind (m_slices_Equal_Lint_int a0 a1) fun v1 =>
  some (v1)

theorem c_impl_rootIndex_1 (a0 : (List Int)) (a1 : (List Int)) (r : Bool) (h : m_impl_rootIndex_1 a0 a1 = some r) : HasC Try.prog 92 [.list 1 (List.map eI a0), .ref ((eLs 1 eI) a1)] (.bl r) := by
 refine hasC_mk TT_ok (rvs := [.tmp 3]) (ns := [0, 1]) Try.func92 k k Try.ntmps92 k k k <| sQ <| rg <| ae (eff_assign k) k <| an <| tn <| sQ <| rg <| ae (eff_move k) k <| ae (w_load_ref TT_ok k k k k k k) k ?_
 obtain ⟨v1, hv1, h⟩ := ob h
 refine ae (w_call0s (c_slices_Equal_Lint_int a0 a1 v1 hv1) k (va_cons (va_same k) (va_cons (va_same k) va_nil))) k <| ae (eff_assign k) k <| an <| tn <| ac_ret ?_
 obtain rfl := so h
 exact ret_mk k k k (fz_bl k)

noncomputable def m_impl_rootIndex (a0 : Qv) (a1 : (List Int)) : Option Int :=
  Option.bind (m_impl_PositiveRoots a0) fun v1 =>
  Option.bind (m_slices_IndexFunc_LLint_Lint v1.1 (fun b0 => m_impl_rootIndex_1 b0 a1)) fun v2 =>
  some (v2)

theorem c_impl_rootIndex (a0 : Qv) (a1 : (List Int)) (r : Int) (h : m_impl_rootIndex a0 a1 = some r) : HasC Try.prog 66 [.agg (eQ a0), .list 1 (List.map eI a1)] (.int r) := by
 refine hasC_mk TT_ok (rvs := [.tmp 4]) (ns := [0, 1, 2, 3, 4]) Try.func66 k k Try.ntmps66 k k k <| sQ <| rgS <| se (w_box k k k k) k <| se (w_box k k k k) k <| se (eff_assign k) k <| sn <| tn <| sQ <| rgS ?_
 refine se (w_load_ptr TT_ok k k k k k k k) k ?_
 obtain ⟨v1, hv1, h⟩ := ob h
 refine se (eff_hasD (σ := sg []) (σ' := sg [(2, 0)]) (touch := []) (news := [2]) (hl2 := [(2, ⟨1, List.map (eLs 1 eI) v1.1⟩)]) (n' := 3) (r2 := .tuple [.own 2 0 v1.1.length, .bl v1.2]) (c_impl_PositiveRoots a0 v1 hv1) k k ⟨_, _, k, (.inl ⟨_, _, k, k, ⟨_, _, k, ⟨k, k⟩, ⟨_, _, k, ⟨k, k⟩, k⟩⟩⟩), k⟩ trivial k k k ⟨⟨_, k, k, .inl ⟨k, okLs.plainE _⟩⟩, k, trivial⟩ k (.inr ⟨_, _, k, k, ⟨_, _, k, ⟨k, k, (by simp only [len_map, List.length_append, List.length_set, List.length_replicate, List.length_cons, List.length_nil]), k⟩, ⟨_, _, k, k, k⟩⟩⟩) k ⟨k, okLs.tamdE _ _, trivial⟩ k k) k <| se (eff_move k) k <| se (eff_extract k k (by intro _ h; cases h)) k <| se (eff_extract k k (by intro _ h; cases h)) k <| se (eff_assign k) k <| se (eff_assign k) k <| sn <| tn <| sQ <| rgS ?_
 refine se (eff_move k) k <| se (eff_makeFunc (vs := [.ptr 1 0 0]) k (by simp)) k ?_
 obtain ⟨v2, hv2, h⟩ := ob h
 refine se (w_call0s (c_slices_IndexFunc_LLint_Lint v1.1 (fun b0 => m_impl_rootIndex_1 b0 a1) k (fun b0 r h => c_impl_rootIndex_1 b0 a1 r h) v2 hv2) k (va_cons (va_TE okLs k k) (va_cons (va_fn (vp_cons (vp_box k k (v1_cons (v1_same k) v1_nil)) va_nil2)) va_nil))) k <| se (eff_assign k) k <| sn <| tn <| ac_ent (t := mkS [(4, .int v2)] [] 3 [3, 4]) (ent_mk (σ := sg []) ⟨(e1 k k), trivial⟩ trivial k) <| ac_ret ?_
 obtain rfl := so h
 exact ret_mk k k k (fz_int k)

noncomputable def m_impl_IsRoot (a0 : Qv) (a1 : (List Int)) : Option Bool :=
  Option.bind (m_impl_rootIndex a0 a1) fun v1 =>
  some (decide (0 ≤ v1))

theorem c_impl_IsRoot (a0 : Qv) (a1 : (List Int)) (r : Bool) (h : m_impl_IsRoot a0 a1 = some r) : HasC Try.prog 43 [.agg (eQ a0), .list 1 (List.map eI a1)] (.bl r) := by
 refine hasC_mk TT_ok (rvs := [.tmp 4]) (ns := [0, 1, 2]) Try.func43 k k Try.ntmps43 k k k <| sQ <| rg <| ae (w_box k k k k) k <| ae (eff_assign k) k <| an <| tn <| sQ <| rg <| ae (w_load_ptr TT_ok k k k k k k k) k ?_
 refine ae (eff_move k) k ?_
 obtain ⟨v1, hv1, h⟩ := ob h
 refine ae (w_call0s (c_impl_rootIndex a0 a1 v1 hv1) k (va_cons (va_agg' (v1_cons (v1_same k) (v1_cons (v1_same k) (v1_cons (v1_same k) v1_nil)))) (va_cons (va_same k) va_nil))) k <| ae (w_cmp k k k) k <| ae (eff_assign k) k <| an <| tn <| ac_ret ?_
 obtain rfl := so h
 exact ret_mk k k k (fz_bl k)

noncomputable def m_impl_RootExt (a0 : Qv) (a1 : (List Int)) (a2 : (List Int)) : Option Int :=
  Option.bind (m_impl_IsRoot a0 a1) fun v1 =>
  bif !v1 then
    (some ((-1)))
  else
    (Option.bind (m_impl_IsRoot a0 a2) fun v3 =>
    bif !v3 then
      (some ((-1)))
    else
      (Option.bind (m_impl_euler a0 a1 a2) fun v5 =>
      some (max (wr (-v5)) 0)))

theorem c_impl_RootExt (a0 : Qv) (a1 : (List Int)) (a2 : (List Int)) (r : Int) (h : m_impl_RootExt a0 a1 a2 = some r) : HasC Try.prog 15 [.agg (eQ a0), .list 1 (List.map eI a1), .list 1 (List.map eI a2)] (.int r) := by
 refine hasC_mk TT_ok (rvs := [.tmp 6]) (ns := [0, 1, 2]) Try.func15 k k Try.ntmps15 k k k <| sQ <| rg <| ae (w_box k k k k) k <| ae (eff_assign k) k <| an <| tn <| sQ <| sQ <| rg ?_
 refine ae (w_load_ptr TT_ok k k k k k k k) k <| ae (eff_move k) k ?_
 obtain ⟨v1, hv1, h⟩ := ob h
 refine ae (w_call0s (c_impl_IsRoot a0 a1 v1 hv1) k (va_cons (va_agg' (v1_cons (v1_same k) (v1_cons (v1_same k) (v1_cons (v1_same k) v1_nil)))) (va_cons (va_same k) va_nil))) k <| ae (w_not k) k <| ae (eff_move k) k ?_
 rcases cb h with ⟨q2, h⟩ | ⟨q2, h⟩
 ·refine aops_lit 11 k q2 <| aops_skip k k <| aops_skip k k <| aops_skip k k <| aops_skip k k <| ae (eff_pick k k) k <| an <| tn <| ac_ent (t := mkS [(1, .list 1 (List.map eI a1)), (2, .list 1 (List.map eI a2)), (3, .ptr 0 0 0), (16, .bl true)] [(0, ⟨3, [[.int a0.n, .list 1 (List.map eI a0.src), .list 1 (List.map eI a0.tgt)]]⟩)] 1 [1, 2]) (ent_mk (σ := sg [(0, 0)]) ⟨⟨_, k, ⟨k, k⟩⟩, ⟨_, k, ⟨k, k⟩⟩, ⟨_, k, ⟨k, k, k, k⟩⟩, (e1 k k), trivial⟩ ⟨⟨_, k, k, .inl ⟨k, plain_of k⟩⟩, k, trivial⟩ k) <| ac_condT k k ?_
  refine sQ <| rg <| ae (eff_assign k) k <| an <| tn <| ac_ret <| then_ret ?_
  obtain rfl := so h
  exact ret_mk k k k (fz_int k)
 ·refine aops_lit 11 k q2 <| ae (w_load_ptr TT_ok k k k k k k k) k <| ae (eff_move k) k ?_
  obtain ⟨v3, hv3, h⟩ := ob h
  refine ae (w_call0s (c_impl_IsRoot a0 a2 v3 hv3) k (va_cons (va_agg' (v1_cons (v1_same k) (v1_cons (v1_same k) (v1_cons (v1_same k) v1_nil)))) (va_cons (va_same k) va_nil))) k <| ae (w_not k) k <| ae (eff_pick k k) k <| an <| tn <| ac_ent (t := mkS [(1, .list 1 (List.map eI a1)), (2, .list 1 (List.map eI a2)), (3, .ptr 0 0 0), (16, .bl (!v3))] [(0, ⟨3, [[.int a0.n, .list 1 (List.map eI a0.src), .list 1 (List.map eI a0.tgt)]]⟩)] 1 [1, 2]) (ent_mk (σ := sg [(0, 0)]) ⟨⟨_, k, ⟨k, k⟩⟩, ⟨_, k, ⟨k, k⟩⟩, ⟨_, k, ⟨k, k, k, k⟩⟩, (e1 k k), trivial⟩ ⟨⟨_, k, k, .inl ⟨k, plain_of k⟩⟩, k, trivial⟩ k) ?_
  rcases cb h with ⟨q4, h⟩ | ⟨q4, h⟩
  ·refine ac_condT k q4 <| sQ <| rg <| ae (eff_assign k) k <| an <| tn <| ac_ret <| then_ret ?_
   obtain rfl := so h
   exact ret_mk k k k (fz_int k)
  ·refine ac_condF k q4 <| ac_skip <| tn <| sQ <| rg <| ae (w_load_ptr TT_ok k k k k k k k) k <| ae (eff_move k) k <| ae (eff_move k) k ?_
   obtain ⟨v5, hv5, h⟩ := ob h
   refine ae (w_call0s (c_impl_euler a0 a1 a2 v5 hv5) k (va_cons (va_agg' (v1_cons (v1_same k) (v1_cons (v1_same k) (v1_cons (v1_same k) v1_nil)))) (va_cons (va_same k) (va_cons (va_same k) va_nil)))) k <| ae (x_neg k) k <| ae (x_max k k) k <| ae (eff_assign k) k <| an <| tn <| ac_ret ?_
   obtain rfl := so h
   exact ret_mk k k k (fz_int k)

noncomputable def m_impl_AreCompatible (a0 : Qv) (a1 : (List Int)) (a2 : (List Int)) : Option Bool :=
  Option.bind (m_impl_RootExt a0 a1 a2) fun v1 =>
  bif decide (v1 = 0) then
    (Option.bind (m_impl_RootExt a0 a2 a1) fun v3 =>
    some (decide (v3 = 0)))
  else
    (some (false))

theorem c_impl_AreCompatible (a0 : Qv) (a1 : (List Int)) (a2 : (List Int)) (r : Bool) (h : m_impl_AreCompatible a0 a1 a2 = some r) : HasC Try.prog 21 [.agg (eQ a0), .list 1 (List.map eI a1), .list 1 (List.map eI a2)] (.bl r) := by
 refine hasC_mk TT_ok (rvs := [.tmp 6]) (ns := [0, 1, 2]) Try.func21 k k Try.ntmps21 k k k <| sQ <| rg <| ae (w_box k k k k) k <| ae (eff_assign k) k <| an <| tn <| sQ <| rg <| ae (w_load_ptr TT_ok k k k k k k k) k ?_
 refine ae (eff_move k) k <| ae (eff_move k) k ?_
 obtain ⟨v1, hv1, h⟩ := ob h
 refine ae (w_call0s (c_impl_RootExt a0 a1 a2 v1 hv1) k (va_cons (va_agg' (v1_cons (v1_same k) (v1_cons (v1_same k) (v1_cons (v1_same k) v1_nil)))) (va_cons (va_same k) (va_cons (va_same k) va_nil)))) k <| ae (w_cmp k k k) k <| ae (eff_move k) k ?_
 rcases cb h with ⟨q2, h⟩ | ⟨q2, h⟩
 ·refine aops_lit 12 k q2 <| ae (w_load_ptr TT_ok k k k k k k k) k <| ae (eff_move k) k <| ae (eff_move k) k ?_
  obtain ⟨v3, hv3, h⟩ := ob h
  refine ae (w_call0s (c_impl_RootExt a0 a2 a1 v3 hv3) k (va_cons (va_agg' (v1_cons (v1_same k) (v1_cons (v1_same k) (v1_cons (v1_same k) v1_nil)))) (va_cons (va_same k) (va_cons (va_same k) va_nil)))) k <| ae (w_cmp k k k) k <| ae (eff_pick k k) k <| ae (eff_assign k) k <| an <| tn <| ac_ent (t := mkS [(6, .bl (decide (v3 = 0)))] [] 1 [1, 2]) (ent_mk (σ := sg []) ⟨(e1 k k), trivial⟩ trivial k) <| ac_ret ?_
  obtain rfl := so h
  exact ret_mk k k k (fz_bl k)
 ·refine aops_lit 12 k q2 <| aops_skip k k <| aops_skip k k <| aops_skip k k <| aops_skip k k <| aops_skip k k <| ae (eff_pick k k) k <| ae (eff_assign k) k <| an <| tn ?_
  refine ac_ent (t := mkS [(6, .bl false)] [] 1 [1, 2]) (ent_mk (σ := sg []) ⟨(e1 k k), trivial⟩ trivial k) <| ac_ret ?_
  obtain rfl := so h
  exact ret_mk k k k (fz_bl k)

noncomputable def m_impl_IsTilting_L2 (a0 : Qv) (a1 : (List (List Int))) (v5 : (List Int)) (x1 : Int) (x2 : Int) : Option (Int ⊕ (Unit ⊕ Bool)) :=
  bif decide (x2 < (((a1.drop (0 : Int).toNat).take (x1.toNat - (0 : Int).toNat)).length : Int)) then
    (Option.bind (atL ((a1.drop (0 : Int).toNat).take (x1.toNat - (0 : Int).toNat)) x2) fun v10 =>
    Option.bind (m_slices_Equal_Lint_int v5 v10) fun v11 =>
    bif v11 then
      (some (.inr (.inr (false))))
    else
      (Option.bind (m_impl_AreCompatible a0 v5 v10) fun v13 =>
      bif !v13 then
        (some (.inr (.inr (false))))
      else
        (some (.inl (wr (x2 + 1))))))
  else
    (some (.inr (.inl ())))

noncomputable def m_impl_IsTilting_L1 (a0 : Qv) (a1 : (List (List Int))) (x1 : Int) : Option (Int ⊕ (Unit ⊕ Bool)) :=
  bif decide (x1 < (a1.length : Int)) then
    (Option.bind (atL a1 x1) fun v5 =>
    Option.bind (m_impl_IsRoot a0 v5) fun v6 =>
    bif !v6 then
      (some (.inr (.inr (false))))
    else
      (bif (decide (0 ≤ 0) && (decide (0 ≤ x1) && decide (x1 ≤ (a1.length : Int)))) then
        (Option.bind (Lp (m_impl_IsTilting_L2 a0 a1 v5 x1) 0) fun y15 =>
        Sum.elim (fun y16 =>
          some (.inl (wr (x1 + 1)))
        ) 
        (fun y17 =>
          some (.inr (.inr y17))
        )
         y15)
      else none))
  else
    (some (.inr (.inl ())))

noncomputable def m_impl_IsTilting (a0 : Qv) (a1 : (List (List Int))) : Option Bool :=
  Option.bind (m_impl_IsQuiver a0) fun v1 =>
  bif !v1 then
    (some (false))
  else
    (bif !decide ((a1.length : Int) = a0.n) then
      (some (false))
    else
      (Option.bind (Lp (m_impl_IsTilting_L1 a0 a1) 0) fun y18 =>
      Sum.elim (fun y19 =>
        some (true)
      ) 
      (fun y20 =>
        some y20
      )
       y18))

theorem c_impl_IsTilting (a0 : Qv) (a1 : (List (List Int))) (r : Bool) (h : m_impl_IsTilting a0 a1 = some r) : HasC Try.prog 33 [.agg (eQ a0), .list 1 (List.map (eLs 1 eI) a1)] (.bl r) := by
 refine hasC_mk TT_ok (rvs := [.tmp 4]) (ns := [0, 1, 2]) Try.func33 k k Try.ntmps33 k k k <| sQ <| rg <| ae (w_box k k k k) k <| ae (eff_assign k) k <| an <| tn <| sQ <| sQ <| rg ?_
 refine ae (w_load_ptr TT_ok k k k k k k k) k ?_
 obtain ⟨v1, hv1, h⟩ := ob h
 refine ae (w_call0s (c_impl_IsQuiver a0 v1 hv1) k (va_cons (va_agg' (v1_cons (v1_same k) (v1_cons (v1_same k) (v1_cons (v1_same k) v1_nil)))) va_nil)) k <| ae (w_not k) k <| ae (eff_move k) k ?_
 rcases cb h with ⟨q2, h⟩ | ⟨q2, h⟩
 ·refine aops_lit 12 k q2 <| aops_skip k k <| aops_skip k k <| aops_skip k k <| aops_skip k k <| aops_skip k k <| ae (eff_pick k k) k <| an <| tn <| ac_ent (t := mkS [(1, .list 1 (List.map (eLs 1 eI) a1)), (2, .ptr 0 0 0), (18, .bl true)] [(0, ⟨3, [[.int a0.n, .list 1 (List.map eI a0.src), .list 1 (List.map eI a0.tgt)]]⟩)] 1 [1, 2]) (ent_mk (σ := sg [(0, 0)]) ⟨⟨_, k, ⟨k, k⟩⟩, ⟨_, k, ⟨k, k, k, k⟩⟩, (e1 k k), trivial⟩ ⟨⟨_, k, k, .inl ⟨k, plain_of k⟩⟩, k, trivial⟩ k) ?_
  refine ac_condT k k <| sQ <| rg <| ae (eff_assign k) k <| an <| tn <| ac_ret <| then_ret ?_
  obtain rfl := so h
  exact ret_mk k k k (fz_bl k)
 ·refine aops_lit 12 k q2 <| ae (eff_move k) k <| ae (AEff.val (w_len_list TT_ok k k k) (v' := .int (a1.length : Int)) (by first | rw [len_map] | rw [encI_len])) k <| ae (w_field_ptr TT_ok k k k k k k k) k <| ae (w_load_ptr TT_ok k k k k k k k) k <| ae (w_cmp k k k) k <| ae (eff_pick k k) k <| an <| tn <| ac_ent (t := mkS [(1, .list 1 (List.map (eLs 1 eI) a1)), (2, .ptr 0 0 0), (18, .bl (!decide ((a1.length : Int) = a0.n)))] [(0, ⟨3, [[.int a0.n, .list 1 (List.map eI a0.src), .list 1 (List.map eI a0.tgt)]]⟩)] 1 [1, 2]) (ent_mk (σ := sg [(0, 0)]) ⟨⟨_, k, ⟨k, k⟩⟩, ⟨_, k, ⟨k, k, k, k⟩⟩, (e1 k k), trivial⟩ ⟨⟨_, k, k, .inl ⟨k, plain_of k⟩⟩, k, trivial⟩ k) ?_
  rcases cb h with ⟨q3, h⟩ | ⟨q3, h⟩
  ·refine ac_condT k q3 <| sQ <| rg <| ae (eff_assign k) k <| an <| tn <| ac_ret <| then_ret ?_
   obtain rfl := so h
   exact ret_mk k k k (fz_bl k)
  ·refine ac_condF k q3 <| ac_skip <| tn <| sQ <| sQ <| rg <| ae (eff_move k) k <| ae (AEff.val (w_len_list TT_ok k k k) (v' := .int (a1.length : Int)) (by first | rw [len_map] | rw [encI_len])) k <| ae (eff_move k) k <| an ?_
   refine tn <| ac_block ?_
   obtain ⟨y18, hy18, h⟩ := ob h
   refine ac_Lp (body := (m_impl_IsTilting_L1 a0 a1)) hy18 (fun (x1 : Int) => mkS [(1, .list 1 (List.map (eLs 1 eI) a1)), (2, .ptr 0 0 0), (19, .list 1 (List.map (eLs 1 eI) a1)), (20, .int (a1.length : Int)), (21, .int x1)] [(0, ⟨3, [[.int a0.n, .list 1 (List.map eI a0.src), .list 1 (List.map eI a0.tgt)]]⟩)] 1 [1, 2]) (fun r e t => Sum.elim (fun a => (fun r e t => e = .exit 0 ∧ Ent t (mkS [] [] 0 [0, 1, 2])) a e t) (fun b => (fun r e t => e = .ret ∧ RetQ TT [.tmp 4] (.bl r) .ret t) b e t) r) (ent_mk (σ := sg [(0, 0)]) ⟨⟨_, k, ⟨k, k⟩⟩, ⟨_, k, ⟨k, k, k, k⟩⟩, ⟨_, k, ⟨k, k⟩⟩, (e1 k k), (e1 k k), trivial⟩ ⟨⟨_, k, k, .inl ⟨k, plain_of k⟩⟩, k, trivial⟩ k) ?_ ?_
   ·intro x1 o h
    refine sQ <| rg <| ae (w_cmp k k k) k <| an <| tn <| sQ ?_
    rcases cb h with ⟨q4, h⟩ | ⟨q4, h⟩
    ·refine ac_condT k q4 <| ac_skip <| tn <| sQ <| ac_block <| sQ <| rg <| ae (eff_move k) k ?_
     obtain ⟨v5, hv5, h⟩ := ob h
     refine ae (x_at_list TT_ok hv5 k k k k k k) k <| ae (w_load_ref TT_ok k k k k k k) k <| ae (eff_assign k) k <| ae (eff_assign k) k <| an <| tn <| sQ <| sQ <| rg <| ae (w_load_ptr TT_ok k k k k k k k) k ?_
     refine ae (eff_move k) k ?_
     obtain ⟨v6, hv6, h⟩ := ob h
     refine ae (w_call0s (c_impl_IsRoot a0 v5 v6 hv6) k (va_cons (va_agg' (v1_cons (v1_same k) (v1_cons (v1_same k) (v1_cons (v1_same k) v1_nil)))) (va_cons (va_same k) va_nil))) k <| ae (w_not k) k <| an <| tn ?_
     rcases cb h with ⟨q7, h⟩ | ⟨q7, h⟩
     ·refine ac_condT k q7 <| sQ <| rg <| ae (eff_assign k) k <| an <| tn <| ac_ret <| then_ret <| block_ret <| then_ret ?_
      refine then_ret ?_
      obtain rfl := so h
      exact ⟨_, k, k, ret_mk k k k (fz_bl k)⟩
     ·refine ac_condF k q7 <| ac_skip <| tn <| sQ <| rg <| ae (eff_move k) k <| ae (eff_move k) k ?_
      obtain ⟨q8, h⟩ := cg h
      refine ae (x_slice_list TT_ok (l0 := a1) (l := 0) (h := x1) q8 k k k k k k k) k <| ae (AEff.val (w_len_list TT_ok k k k) (v' := .int (((a1.drop (0 : Int).toNat).take (x1.toNat - (0 : Int).toNat)).length : Int)) (by first | rw [len_map] | rw [encI_len])) k <| ae (eff_move k) k <| an <| tn <| ac_ent (t := mkS [(1, .list 1 (List.map (eLs 1 eI) a1)), (2, .ptr 0 0 0), (6, .list 1 (List.map eI v5)), (19, .list 1 (List.map (eLs 1 eI) a1)), (20, .int (a1.length : Int)), (21, .int x1), (32, .list 1 (List.map (eLs 1 eI) ((a1.drop (0 : Int).toNat).take (x1.toNat - (0 : Int).toNat)))), (33, .int (((a1.drop (0 : Int).toNat).take (x1.toNat - (0 : Int).toNat)).length : Int)), (34, .int 0)] [(0, ⟨3, [[.int a0.n, .list 1 (List.map eI a0.src), .list 1 (List.map eI a0.tgt)]]⟩)] 1 [1, 2]) (ent_mk (σ := sg [(0, 0)]) ⟨⟨_, k, ⟨k, k⟩⟩, ⟨_, k, ⟨k, k, k, k⟩⟩, ⟨_, k, ⟨k, k⟩⟩, ⟨_, k, ⟨k, k⟩⟩, (e1 k k), (e1 k k), ⟨_, k, ⟨k, k⟩⟩, (e1 k k), (e1 k k), trivial⟩ ⟨⟨_, k, k, .inl ⟨k, plain_of k⟩⟩, k, trivial⟩ k) <| ac_block ?_
      obtain ⟨y15, hy15, h⟩ := ob h
      refine ac_Lp (body := (m_impl_IsTilting_L2 a0 a1 v5 x1)) hy15 (fun (x2 : Int) => mkS [(1, .list 1 (List.map (eLs 1 eI) a1)), (2, .ptr 0 0 0), (6, .list 1 (List.map eI v5)), (19, .list 1 (List.map (eLs 1 eI) a1)), (20, .int (a1.length : Int)), (21, .int x1), (32, .list 1 (List.map (eLs 1 eI) ((a1.drop (0 : Int).toNat).take (x1.toNat - (0 : Int).toNat)))), (33, .int (((a1.drop (0 : Int).toNat).take (x1.toNat - (0 : Int).toNat)).length : Int)), (34, .int x2)] [(0, ⟨3, [[.int a0.n, .list 1 (List.map eI a0.src), .list 1 (List.map eI a0.tgt)]]⟩)] 1 [1, 2]) (fun r e t => Sum.elim (fun a => (fun r e t => e = .exit 2 ∧ Ent t (mkS [(1, .list 1 (List.map (eLs 1 eI) a1)), (2, .ptr 0 0 0), (19, .list 1 (List.map (eLs 1 eI) a1)), (20, .int (a1.length : Int)), (21, .int x1)] [(0, ⟨3, [[.int a0.n, .list 1 (List.map eI a0.src), .list 1 (List.map eI a0.tgt)]]⟩)] 1 [1, 2])) a e t) (fun b => (fun r e t => e = .ret ∧ RetQ TT [.tmp 4] (.bl r) .ret t) b e t) r) (ent_mk (σ := sg [(0, 0)]) ⟨⟨_, k, ⟨k, k⟩⟩, ⟨_, k, ⟨k, k, k, k⟩⟩, ⟨_, k, ⟨k, k⟩⟩, ⟨_, k, ⟨k, k⟩⟩, (e1 k k), (e1 k k), ⟨_, k, ⟨k, k⟩⟩, (e1 k k), (e1 k k), trivial⟩ ⟨⟨_, k, k, .inl ⟨k, plain_of k⟩⟩, k, trivial⟩ k) ?_ ?_
      ·intro x2 o h
       refine sQ <| rg <| ae (w_cmp k k k) k <| an <| tn <| sQ ?_
       rcases cb h with ⟨q9, h⟩ | ⟨q9, h⟩
       ·refine ac_condT k q9 <| ac_skip <| tn <| sQ <| ac_block <| sQ <| rg ?_
        obtain ⟨v10, hv10, h⟩ := ob h
        refine ae (x_at_list TT_ok hv10 k k k k k k) k <| ae (w_load_ref TT_ok k k k k k k) k <| ae (eff_assign k) k <| an <| tn <| sQ <| rg <| ae (eff_move k) k <| ae (eff_move k) k ?_
        obtain ⟨v11, hv11, h⟩ := ob h
        refine ae (w_call0s (c_slices_Equal_Lint_int v5 v10 v11 hv11) k (va_cons (va_same k) (va_cons (va_same k) va_nil))) k <| ae (eff_move k) k ?_
        rcases cb h with ⟨q12, h⟩ | ⟨q12, h⟩
        ·refine aops_lit 41 k q12 <| aops_skip k k <| aops_skip k k <| aops_skip k k <| aops_skip k k <| aops_skip k k <| ae (eff_pick k k) k <| an <| tn <| ac_ent (t := mkS [(1, .list 1 (List.map (eLs 1 eI) a1)), (2, .ptr 0 0 0), (6, .list 1 (List.map eI v5)), (19, .list 1 (List.map (eLs 1 eI) a1)), (20, .int (a1.length : Int)), (21, .int x1), (32, .list 1 (List.map (eLs 1 eI) ((a1.drop (0 : Int).toNat).take (x1.toNat - (0 : Int).toNat)))), (33, .int (((a1.drop (0 : Int).toNat).take (x1.toNat - (0 : Int).toNat)).length : Int)), (34, .int x2), (47, .bl true)] [(0, ⟨3, [[.int a0.n, .list 1 (List.map eI a0.src), .list 1 (List.map eI a0.tgt)]]⟩)] 1 [1, 2]) (ent_mk (σ := sg [(0, 0)]) ⟨⟨_, k, ⟨k, k⟩⟩, ⟨_, k, ⟨k, k, k, k⟩⟩, ⟨_, k, ⟨k, k⟩⟩, ⟨_, k, ⟨k, k⟩⟩, (e1 k k), (e1 k k), ⟨_, k, ⟨k, k⟩⟩, (e1 k k), (e1 k k), (e1 k k), trivial⟩ ⟨⟨_, k, k, .inl ⟨k, plain_of k⟩⟩, k, trivial⟩ k) ?_
         refine ac_condT k k <| sQ <| rg <| ae (eff_assign k) k <| an <| tn <| ac_ret <| block_ret <| then_ret <| then_ret ?_
         obtain rfl := so h
         exact ⟨_, k, k, ret_mk k k k (fz_bl k)⟩
        ·refine aops_lit 41 k q12 <| ae (w_load_ptr TT_ok k k k k k k k) k <| ae (eff_move k) k <| ae (eff_move k) k ?_
         obtain ⟨v13, hv13, h⟩ := ob h
         refine ae (w_call0s (c_impl_AreCompatible a0 v5 v10 v13 hv13) k (va_cons (va_agg' (v1_cons (v1_same k) (v1_cons (v1_same k) (v1_cons (v1_same k) v1_nil)))) (va_cons (va_same k) (va_cons (va_same k) va_nil)))) k <| ae (w_not k) k <| ae (eff_pick k k) k <| an <| tn <| ac_ent (t := mkS [(1, .list 1 (List.map (eLs 1 eI) a1)), (2, .ptr 0 0 0), (6, .list 1 (List.map eI v5)), (19, .list 1 (List.map (eLs 1 eI) a1)), (20, .int (a1.length : Int)), (21, .int x1), (32, .list 1 (List.map (eLs 1 eI) ((a1.drop (0 : Int).toNat).take (x1.toNat - (0 : Int).toNat)))), (33, .int (((a1.drop (0 : Int).toNat).take (x1.toNat - (0 : Int).toNat)).length : Int)), (34, .int x2), (47, .bl (!v13))] [(0, ⟨3, [[.int a0.n, .list 1 (List.map eI a0.src), .list 1 (List.map eI a0.tgt)]]⟩)] 1 [1, 2]) (ent_mk (σ := sg [(0, 0)]) ⟨⟨_, k, ⟨k, k⟩⟩, ⟨_, k, ⟨k, k, k, k⟩⟩, ⟨_, k, ⟨k, k⟩⟩, ⟨_, k, ⟨k, k⟩⟩, (e1 k k), (e1 k k), ⟨_, k, ⟨k, k⟩⟩, (e1 k k), (e1 k k), (e1 k k), trivial⟩ ⟨⟨_, k, k, .inl ⟨k, plain_of k⟩⟩, k, trivial⟩ k) ?_
         rcases cb h with ⟨q14, h⟩ | ⟨q14, h⟩
         ·refine ac_condT k q14 <| sQ <| rg <| ae (eff_assign k) k <| an <| tn <| ac_ret <| block_ret <| then_ret <| then_ret ?_
          obtain rfl := so h
          exact ⟨_, k, k, ret_mk k k k (fz_bl k)⟩
         ·refine ac_condF k q14 <| ac_skip <| block_n <| tn <| rg <| ae (x_add k k) k <| ae (eff_move k) k <| an <| tn ?_
          obtain rfl := so h
          exact ⟨_, k, (ent_mk (σ := sg [(0, 0)]) ⟨⟨_, k, ⟨k, k⟩⟩, ⟨_, k, ⟨k, k, k, k⟩⟩, ⟨_, k, ⟨k, k⟩⟩, ⟨_, k, ⟨k, k⟩⟩, (e1 k k), (e1 k k), ⟨_, k, ⟨k, k⟩⟩, (e1 k k), (e1 k k), trivial⟩ ⟨⟨_, k, k, .inl ⟨k, plain_of k⟩⟩, k, trivial⟩ k)⟩
       ·refine ac_condF k q9 <| ac_exit <| then_exit <| then_exit ?_
        obtain rfl := so h
        exact ⟨_, k, k, (ent_mk (σ := sg [(0, 0)]) ⟨⟨_, k, ⟨k, k⟩⟩, ⟨_, k, ⟨k, k, k, k⟩⟩, ⟨_, k, ⟨k, k⟩⟩, (e1 k k), (e1 k k), trivial⟩ ⟨⟨_, k, k, .inl ⟨k, plain_of k⟩⟩, k, trivial⟩ k)⟩
      ·intro e t hX
       rcases y15 with y16 | y17
       ·obtain ⟨rfl, hent⟩ := hX
        refine block_here <| block_n <| tn <| ac_ent hent <| rg <| ae (x_add k k) k <| ae (eff_move k) k <| an <| tn ?_
        obtain rfl := so h
        exact ⟨_, k, (ent_mk (σ := sg [(0, 0)]) ⟨⟨_, k, ⟨k, k⟩⟩, ⟨_, k, ⟨k, k, k, k⟩⟩, ⟨_, k, ⟨k, k⟩⟩, (e1 k k), (e1 k k), trivial⟩ ⟨⟨_, k, k, .inl ⟨k, plain_of k⟩⟩, k, trivial⟩ k)⟩
       ·obtain ⟨rfl, hent⟩ := hX
        refine block_ret <| block_ret <| then_ret <| then_ret ?_
        obtain rfl := so h
        exact ⟨_, k, k, hent⟩
    ·refine ac_condF k q4 <| ac_exit <| then_exit <| then_exit ?_
     obtain rfl := so h
     exact ⟨_, k, k, (ent_mk (σ := sg []) trivial trivial k)⟩
   ·intro e t hX
    rcases y18 with y19 | y20
    ·obtain ⟨rfl, hent⟩ := hX
     refine block_here <| tn <| ac_ent hent <| sQ <| rg <| ae (eff_assign k) k <| an <| tn <| ac_ret ?_
     obtain rfl := so h
     exact ret_mk k k k (fz_bl k)
    ·obtain ⟨rfl, hent⟩ := hX
     refine block_ret <| then_ret ?_
     obtain rfl := so h
     exact hent

end Go.Proofs.Ytihbegpgoekbdaa
end

section
set_option linter.unusedVariables false
set_option linter.unusedSimpArgs false
/-
  The symmetric form of a quiver, its minors and their determinants: what the models answer, in spec and in impl.
-/
namespace Go.Proofs.Ytihbegpgoekbdaa
open Go.RowKit
set_option linter.unusedVariables false

/-! ## tables -/
def rowL {α : Type} (n : Nat) (f : Nat → α) : List α := (List.range n).map f
theorem rowL_len {α : Type} (n : Nat) (f : Nat → α) : (rowL n f).length = n := by simp [rowL]
theorem rowL_get {α : Type} {n : Nat} {f : Nat → α} {w : Nat} (h : w < n) : (rowL n f)[w]? = some (f w) := by simp [rowL, h]
theorem rowL_at {α : Type} {n : Nat} {f : Nat → α} {w : Nat} (h : w < n) : atL (rowL n f) (w : Int) = some (f w) := by simp [atL, rowL_get h]
theorem rowL_congr {α : Type} {n : Nat} {f g : Nat → α} (h : ∀ i, i < n → f i = g i) : rowL n f = rowL n g := List.map_congr_left fun i hi => h i (List.mem_range.1 hi)
theorem rowL_set {α : Type} {n : Nat} (f : Nat → α) (a : Nat) (y : α) : (rowL n f).set a y = rowL n fun w => if w = a then y else f w := by
  refine List.ext_getElem (by simp [rowL]) fun i h1 h2 => ?_
  simp only [rowL, List.getElem_set, List.getElem_map, List.getElem_range]
  by_cases e : a = i
  · simp [e]
  · simp [e, show ¬ i = a from fun h => e h.symm]
theorem rowL_rep {α : Type} (n : Nat) (z : α) : List.replicate n z = rowL n fun _ => z := by
  refine List.ext_getElem (by simp [rowL]) fun i h1 h2 => by simp [rowL]
theorem gx_rowL {n : Nat} {f : Nat → Int} {w : Nat} (h : w < n) : gx (rowL n f) w = f w := by simp [gx, rowL_get h]
def matL (n : Nat) (F : Nat → Nat → Int) : List (List Int) := rowL n fun v => rowL n (F v)
theorem rowsF_matL {n : Nat} {F : Nat → Nat → Int} {v w : Nat} (hv : v < n) (hw : w < n) : rowsF (matL n F) v w = F v w := by
  unfold rowsF matL
  rw [rowL_get hv, Option.getD_some, rowL_get hw, Option.getD_some]
theorem matL_congr {n : Nat} {F G : Nat → Nat → Int} (h : ∀ v w, v < n → w < n → F v w = G v w) : matL n F = matL n G := rowL_congr fun v hv => rowL_congr fun w hw => h v w hv hw

/-! ## the symmetric form -/
def hit (q : Qv) (i v w : Nat) : Int := if gx q.src i = (v : Int) ∧ gx q.tgt i = (w : Int) then 1 else 0
def cntN (q : Qv) (k v w : Nat) : Int := sumN k fun i => hit q i v w
def mF (q : Qv) (k v w : Nat) : Int := (if v = w then 2 else 0) - cntN q k v w - cntN q k w v
theorem cnt_bd (q : Qv) : ∀ k v w, 0 ≤ cntN q k v w ∧ cntN q k v w ≤ k
  | 0, v, w => by simp [cntN, sumN]
  | k + 1, v, w => by
    have := cnt_bd q k v w
    unfold cntN at this ⊢
    simp only [sumN]
    have : 0 ≤ hit q k v w ∧ hit q k v w ≤ 1 := by unfold hit; split <;> omega
    omega
theorem mF_bd (q : Qv) {k : Nat} (hk : k ≤ 6) (v w : Nat) : -12 ≤ mF q k v w ∧ mF q k v w ≤ 2 := by
  have h1 := cnt_bd q k v w
  have h2 := cnt_bd q k w v
  unfold mF
  split <;> omega
theorem mF_succ (q : Qv) (k v w : Nat) : mF q (k + 1) v w = mF q k v w - hit q k v w - hit q k w v := by
  unfold mF cntN
  simp only [sumN]
  omega
theorem mF_sym (q : Qv) (k v w : Nat) : mF q k v w = mF q k w v := by
  unfold mF
  by_cases e : v = w
  · subst e; rfl
  · rw [if_neg e, if_neg (fun h => e h.symm)]; omega
def matQ (q : Qv) (n : Nat) : List (List Int) := matL n (mF q q.src.length)

structure QOk (q : Qv) (n : Nat) : Prop where
  bq : bQ q
  qv : quivV q = true
  n0 : q.n = n
  n1 : 1 ≤ n
  n5 : n ≤ 5
  eq : q.src.length = q.tgt.length
  m6 : q.src.length ≤ 6
  src : ∀ x ∈ q.src, 0 ≤ x ∧ x < n
  tgt : ∀ x ∈ q.tgt, 0 ≤ x ∧ x < n
theorem qok {q : Qv} (hb : bQ q) (h : quivV q = true) : ∃ n, QOk q n := by
  obtain ⟨n, h1, h2, h3, h4, h5, h6, h7⟩ := quivV_parts h
  exact ⟨n, hb, h, h1, h2, h3, h4, h5, h6, h7⟩
/-- An arrow's ends. -/
theorem QOk.arrow {q : Qv} {n : Nat} (Q : QOk q n) {i : Nat} (hi : i < q.src.length) : ∃ s t : Nat, s < n ∧ t < n ∧ gx q.src i = s ∧ gx q.tgt i = t ∧ atL q.src (i : Int) = some (s : Int) ∧ atL q.tgt (i : Int) = some (t : Int) := by
  have hi2 : i < q.tgt.length := by rw [← Q.eq]; exact hi
  have h1 := Q.src _ (mem_gx hi)
  have h2 := Q.tgt _ (mem_gx hi2)
  refine ⟨(gx q.src i).toNat, (gx q.tgt i).toNat, by omega, by omega, by omega, by omega, ?_, ?_⟩
  · rw [atG 0 hi]; show some (gx q.src i) = _; rw [Int.toNat_of_nonneg h1.1]
  · rw [atG 0 hi2]; show some (gx q.tgt i) = _; rw [Int.toNat_of_nonneg h2.1]
theorem hit_eq {q : Qv} {i s t : Nat} (hs : gx q.src i = s) (ht : gx q.tgt i = t) (v w : Nat) : hit q i v w = if v = s ∧ w = t then 1 else 0 := by
  unfold hit
  rw [hs, ht]
  by_cases e : v = s ∧ w = t
  · rw [if_pos e, if_pos (by omega)]
  · rw [if_neg e, if_neg (by omega)]

theorem n_specRow {q : Qv} {n : Nat} (Q : QOk q n) {x1 : List (List Int) × Int} {v : Nat} (hx : x1.2 = (v : Int)) : Lp (m_spec_SymmetricForm_L2 q x1) (rowL n (mF q 0 v), 0) = some (rowL n (mF q q.src.length v)) := by
  have m6 := Q.m6
  refine Lp_go (fun k => (rowL n (mF q k v), (k : Int))) q.src.length rfl (fun k hk => ?_) (fun _ => ?_)
  · unfold m_spec_SymmetricForm_L2
    simp only
    obtain ⟨s, t, hs, ht, e1, e2, e3, e4⟩ := Q.arrow hk
    have bs := fun w => mF_bd q (k := k) (by omega) v w
    rw [dlt hk, cond_true, e3, Option.bind_some, hx, wr_suc hk (by omega)]
    by_cases c1 : s = v
    · subst c1
      rw [decide_eq_true (by rfl), cond_true]
      simp only [e4, e3, Option.bind_some, rowL_at ht, Int.toNat_natCast]
      rw [rowL_set, wr_sm (by have := bs t; omega)]
      by_cases c2 : t = s
      · subst c2
        rw [decide_eq_true (by rfl), cond_true]
        simp only [rowL_at hs, if_pos rfl, Option.bind_some]
        rw [rowL_set, wr_sm (by have := bs t; omega)]
        congr 3
        refine rowL_congr fun w hw => ?_
        rw [mF_succ, hit_eq e1 e2, hit_eq e1 e2]
        by_cases c : w = t
        · subst c; simp <;> omega
        · simp [c]
      · rw [decide_eq_false (by omega), cond_false]
        congr 3
        refine rowL_congr fun w hw => ?_
        rw [mF_succ, hit_eq e1 e2, hit_eq e1 e2]
        by_cases c : w = t
        · subst c; simp [c2, show ¬ s = w from fun h => c2 h.symm]
        · simp [c, show ¬ s = t from fun h => c2 h.symm]
    · rw [decide_eq_false (by omega), cond_false]
      simp only [e4, e3, Option.bind_some]
      by_cases c2 : t = v
      · subst c2
        rw [decide_eq_true (by rfl), cond_true]
        simp only [rowL_at hs, Option.bind_some, Int.toNat_natCast]
        rw [rowL_set, wr_sm (by have := bs s; omega)]
        congr 3
        refine rowL_congr fun w hw => ?_
        rw [mF_succ, hit_eq e1 e2, hit_eq e1 e2]
        by_cases c : w = s
        · subst c; simp [c1, show ¬ t = w from fun h => c1 h.symm]
        · simp [c, show ¬ t = s from fun h => c1 h.symm]
      · rw [decide_eq_false (by omega), cond_false]
        congr 3
        refine rowL_congr fun w hw => ?_
        rw [mF_succ, hit_eq e1 e2, hit_eq e1 e2]
        simp [show ¬ v = s from fun h => c1 h.symm, show ¬ v = t from fun h => c2 h.symm]
  · unfold m_spec_SymmetricForm_L2
    simp only
    rw [dnl (Nat.le_refl _), cond_false]
theorem row0 (q : Qv) {n v : Nat} (hv : v < n) : (List.replicate n (0 : Int)).set v 2 = rowL n (mF q 0 v) := by
  rw [rowL_rep, rowL_set]
  refine rowL_congr fun w _ => ?_
  unfold mF cntN
  simp only [sumN]
  by_cases e : w = v
  · subst e; simp
  · simp [e, show ¬ v = w from fun h => e h.symm]
theorem n_specSym {q : Qv} {n : Nat} (Q : QOk q n) : m_spec_SymmetricForm q = some (matQ q n) := by
  have n5 := Q.n5
  unfold m_spec_SymmetricForm
  rw [Lp_go (s := (([] : List (List Int)), (0 : Int))) (r := matQ q n) (fun k => ((List.range k).map fun v => rowL n (mF q q.src.length v), (k : Int))) n rfl (fun k hk => ?_) (fun _ => ?_), Option.bind_some]
  · unfold m_spec_SymmetricForm_L1
    simp only
    rw [Q.n0, dlt hk, cond_true, n_specQ Q.bq, Q.qv, Option.bind_some, cond_true, decide_eq_true (by omega), decide_eq_true (by omega), Bool.and_self, cond_true, Int.toNat_natCast]
    rw [rowL_rep, rowL_at hk, Option.bind_some, Int.toNat_natCast, ← rowL_rep, row0 q hk, n_specRow Q rfl, Option.bind_some, decide_eq_true (by simp; omega), cond_true, wr_suc hk (by omega), List.range_succ, List.map_append]
    rfl
  · unfold m_spec_SymmetricForm_L1
    simp only
    rw [Q.n0, dnl (Nat.le_refl _), cond_false]
    rfl
theorem n_implSym {q : Qv} {n : Nat} (Q : QOk q n) : m_impl_symmetric q = some (matQ q n) := by
  have n5 := Q.n5
  have m6 := Q.m6
  unfold m_impl_symmetric
  rw [Q.n0, decide_eq_true (by omega), decide_eq_true (by omega), Bool.and_self, cond_true, Int.toNat_natCast]
  rw [Lp_go (r := matL n (mF q 0)) (fun k => (rowL n fun v => if v < k then rowL n (mF q 0 v) else [], (k : Int))) n (by rw [rowL_rep]; rfl) (fun k hk => ?_) (fun _ => ?_), Option.bind_some]
  · rw [Lp_go (s := (matL n (mF q 0), (0 : Int))) (r := matQ q n) (fun k => (matL n (mF q k), (k : Int))) q.src.length rfl (fun k hk => ?_) (fun _ => ?_), Option.bind_some]
    · unfold m_impl_symmetric_L2
      simp only
      obtain ⟨s, t, hs, ht, e1, e2, e3, e4⟩ := Q.arrow hk
      have bs := fun v w => mF_bd q (k := k) (by omega) v w
      rw [dlt hk, cond_true, e3, Option.bind_some, e4]
      simp only [Option.bind_some, Int.toNat_natCast]
      unfold matL
      rw [rowL_at hs, Option.bind_some, rowL_at ht]
      simp only [Option.bind_some]
      rw [rowL_set, rowL_at ht]
      simp only [Option.bind_some]
      have e5 : (if t = s then (rowL n (mF q k s)).set t (wr (mF q k s t - 1)) else rowL n (mF q k t)) = rowL n fun w => mF q k t w - if t = s ∧ w = t then 1 else 0 := by
        by_cases c : t = s
        · subst c
          rw [if_pos rfl, rowL_set, wr_sm (by have := bs t t; omega)]
          refine rowL_congr fun w _ => ?_
          by_cases c2 : w = t
          · subst c2; simp
          · simp [c2]
        · rw [if_neg c]
          exact rowL_congr fun w _ => by simp [c]
      rw [e5, rowL_at hs]
      simp only [Option.bind_some]
      rw [wr_suc hk (by omega), rowL_set, rowL_set]
      congr 3
      refine rowL_congr fun v hv => ?_
      have b1 := bs t s
      have b2 := bs s t
      by_cases c : v = t
      · subst c
        rw [if_pos rfl, wr_sm (by split <;> omega)]
        try rw [rowL_set]
        refine rowL_congr fun w hw => ?_
        rw [mF_succ, hit_eq e1 e2, hit_eq e1 e2]
        by_cases c1 : w = s
        · subst c1
          by_cases c2 : v = w
          · subst c2; simp <;> omega
          · simp [c2, show ¬ w = v from fun h => c2 h.symm]
        · rw [if_neg c1]
          by_cases c2 : v = s ∧ w = v
          · omega
          · simp [c2, c1]
      · rw [if_neg c]
        by_cases c1 : v = s
        · subst c1
          rw [if_pos rfl, wr_sm (by omega)]
          try rw [rowL_set]
          refine rowL_congr fun w hw => ?_
          rw [mF_succ, hit_eq e1 e2, hit_eq e1 e2]
          by_cases c2 : w = t
          · subst c2; simp [c]
          · simp [c2, c]
        · rw [if_neg c1]
          refine rowL_congr fun w hw => ?_
          rw [mF_succ, hit_eq e1 e2, hit_eq e1 e2]
          simp [c, c1]
    · unfold m_impl_symmetric_L2
      simp only
      rw [dnl (Nat.le_refl _), cond_false]
      rfl
  · unfold m_impl_symmetric_L1
    simp only
    rw [List.length_replicate, Q.n0, Int.toNat_natCast, dlt hk, cond_true, decide_eq_true (by omega), decide_eq_true (by omega), Bool.and_self, cond_true, rowL_at hk, Option.bind_some]
    rw [rowL_rep n (0 : Int), rowL_at hk, Option.bind_some, Int.toNat_natCast, ← rowL_rep, row0 q hk, rowL_set, wr_suc hk (by omega)]
    congr 3
    refine rowL_congr fun v _ => ?_
    by_cases c : v = k
    · subst c; simp
    · rw [if_neg c]
      by_cases c2 : v < k
      · rw [if_pos c2, if_pos (by omega)]
      · rw [if_neg c2, if_neg (by omega)]
  · unfold m_impl_symmetric_L1
    simp only
    rw [List.length_replicate, Q.n0, Int.toNat_natCast, dnl (Nat.le_refl _), cond_false]
    congr 2
    exact rowL_congr fun v hv => by rw [if_pos hv]
end Go.Proofs.Ytihbegpgoekbdaa
end

section
set_option linter.unusedVariables false
set_option linter.unusedSimpArgs false
/-
  Minors, determinants, kinds: what the models answer, in spec and in impl.
-/
namespace Go.Proofs.Ytihbegpgoekbdaa
open Go.RowKit
set_option linter.unusedVariables false

/-! ## minors -/
theorem bit_eq : ∀ s : Nat, s < 32 → ∀ v : Nat, v < 5 → andI (shrI (s : Int) (v : Int)) 1 = (if bitN s v then 1 else 0) := by decide +kernel
theorem pick_succ (s k : Nat) : (List.range (k + 1)).filter (bitN s) = (List.range k).filter (bitN s) ++ if bitN s k then [k] else [] := by
  rw [List.range_succ, List.filter_append]
  congr 1
  cases h : bitN s k <;> simp [h]
theorem pick_lt {n s v : Nat} (h : v ∈ pickN n s) : v < n := List.mem_range.1 (List.mem_filter.1 h).1
theorem pick_len (n s : Nat) : (pickN n s).length ≤ n := by
  have := List.length_filter_le (bitN s) (List.range n)
  simpa [pickN] using this
/-- The inner loop: the cells of a row whose bits are set. -/
theorem row_pick {body : List Int × Int → Option ((List Int × Int) ⊕ List Int)} {n s : Nat} {f : Nat → Int} (hn : n ≤ 5)
    (hb : ∀ k l, k < n → l.length ≤ 5 → body (l, (k : Int)) = some (.inl (if bitN s k then l ++ [f k] else l, ((k + 1 : Nat) : Int)))) (hr : ∀ l, body (l, (n : Int)) = some (.inr l)) : Lp body ([], 0) = some ((pickN n s).map f) := by
  refine Lp_go (fun k => (((List.range k).filter (bitN s)).map f, (k : Int))) n rfl (fun k hk => ?_) (fun _ => hr _)
  have hl := pick_len k s
  unfold pickN at hl
  rw [hb k _ hk (by rw [List.length_map]; omega), pick_succ]
  cases h : bitN s k <;> simp
theorem n_implMinor {n s : Nat} {F : Nat → Nat → Int} (hn : n ≤ 5) (hs : s < 32) {x1 : Int × Int} (hx : x1.2 = (s : Int)) : Lp (m_impl_KindOfQuiver_L2 (matL n F) x1) (0, []) = some (minorT n (matL n F) s) := by
  have e0 : minorT n (matL n F) s = (pickN n s).map fun v => (pickN n s).map (F v) := by
    unfold minorT
    refine List.map_congr_left fun v hv => List.map_congr_left fun w hw => rowsF_matL (pick_lt hv) (pick_lt hw)
  rw [e0]
  refine Lp_go (fun k => ((k : Int), ((List.range k).filter (bitN s)).map fun v => (pickN n s).map (F v))) n rfl (fun k hk => ?_) (fun _ => ?_)
  · have hl := pick_len k s
    unfold pickN at hl
    unfold m_impl_KindOfQuiver_L2
    simp only
    rw [show (matL n F).length = n from rowL_len _ _, dlt hk, cond_true, show atL (matL n F) (k : Int) = some (rowL n (F k)) from rowL_at hk, Option.bind_some, decide_eq_false (by omega), Bool.not_false, cond_true, hx, bit_eq s hs k (by omega), wr_suc hk (by omega)]
    have hrow : Lp (m_impl_KindOfQuiver_L3 (rowL n (F k)) x1) ([], 0) = some ((pickN n s).map (F k)) := by
      refine row_pick hn (fun j l hj hl2 => ?_) (fun l => ?_)
      · unfold m_impl_KindOfQuiver_L3
        simp only
        rw [rowL_len, dlt hj, cond_true, rowL_at hj, Option.bind_some, decide_eq_false (by omega), Bool.not_false, cond_true, hx, bit_eq s hs j (by omega), wr_suc hj (by omega)]
        cases h : bitN s j
        · simp
        · simp [show l.length < 4294967296 by omega, show l.length ≤ 4294967295 by omega, show l.length + 1 ≤ 4294967296 by omega]
      · unfold m_impl_KindOfQuiver_L3
        simp only
        rw [rowL_len, dnl (Nat.le_refl _), cond_false]
    rw [hrow, Option.bind_some, pick_succ]
    generalize List.filter (bitN s) (List.range k) = lk at *
    cases h : bitN s k
    · simp
    · simp [show lk.length < 4294967296 by omega, show lk.length ≤ 4294967295 by omega, show lk.length + 1 ≤ 4294967296 by omega]
  · unfold m_impl_KindOfQuiver_L2
    simp only
    rw [show (matL n F).length = n from rowL_len _ _, dnl (Nat.le_refl _), cond_false]
    rfl
theorem n_specMinor {n s : Nat} {F : Nat → Nat → Int} (hn : n ≤ 5) (hs : s < 32) : m_spec_l18Minor (matL n F) (s : Int) = some (minorT n (matL n F) s) := by
  have e0 : minorT n (matL n F) s = (pickN n s).map fun v => (pickN n s).map (F v) := by
    unfold minorT
    refine List.map_congr_left fun v hv => List.map_congr_left fun w hw => rowsF_matL (pick_lt hv) (pick_lt hw)
  rw [e0]
  unfold m_spec_l18Minor
  rw [Lp_go (s := ((0 : Int), ([] : List (List Int)))) (r := (pickN n s).map fun v => (pickN n s).map (F v)) (fun k => ((k : Int), ((List.range k).filter (bitN s)).map fun v => (pickN n s).map (F v))) n rfl (fun k hk => ?_) (fun _ => ?_), Option.bind_some]
  · have hl := pick_len k s
    unfold pickN at hl
    unfold m_spec_l18Minor_L1
    simp only
    rw [show (matL n F).length = n from rowL_len _ _, dlt hk, cond_true, decide_eq_false (by omega), Bool.not_false, cond_true, bit_eq s hs k (by omega), wr_suc hk (by omega)]
    have hrow : Lp (m_spec_l18Minor_L2 (matL n F) (s : Int) ((k : Int), ((List.range k).filter (bitN s)).map fun v => (pickN n s).map (F v))) ([], 0) = some ((pickN n s).map (F k)) := by
      refine row_pick hn (fun j l hj hl2 => ?_) (fun l => ?_)
      · unfold m_spec_l18Minor_L2
        simp only
        rw [show (matL n F).length = n from rowL_len _ _, dlt hj, cond_true, decide_eq_false (by omega), Bool.not_false, cond_true, bit_eq s hs j (by omega), wr_suc hj (by omega), show atL (matL n F) (k : Int) = some (rowL n (F k)) from rowL_at hk, Option.bind_some, rowL_at hj, Option.bind_some]
        cases h : bitN s j
        · simp
        · simp [show l.length < 4294967296 by omega, show l.length ≤ 4294967295 by omega, show l.length + 1 ≤ 4294967296 by omega]
      · unfold m_spec_l18Minor_L2
        simp only
        rw [show (matL n F).length = n from rowL_len _ _, dnl (Nat.le_refl _), cond_false]
    rw [hrow, Option.bind_some, pick_succ]
    generalize List.filter (bitN s) (List.range k) = lk at *
    cases h : bitN s k
    · simp
    · simp [show lk.length < 4294967296 by omega, show lk.length ≤ 4294967295 by omega, show lk.length + 1 ≤ 4294967296 by omega]
  · unfold m_spec_l18Minor_L1
    simp only
    rw [show (matL n F).length = n from rowL_len _ _, dnl (Nat.le_refl _), cond_false]
    rfl

/-! ## determinants -/
theorem n_concat2 {a b : List Int} (h : a.length + b.length ≤ 1000) : m_slices_Concat_Lint_int [a, b] = some (a ++ b) := by
  have s1 : m_slices_Concat_Lint_int_L1 [a, b] (0, 0) = some (.inl ((a.length : Int), 1)) := by
    unfold m_slices_Concat_Lint_int_L1
    simp [atL]
    rw [wr_sm (by omega), decide_eq_false (by omega), cond_false, wr_sm (by omega)]
  have s2 : m_slices_Concat_Lint_int_L1 [a, b] ((a.length : Int), 1) = some (.inl ((a.length : Int) + b.length, 2)) := by
    unfold m_slices_Concat_Lint_int_L1
    simp [atL]
    rw [wr_sm (by omega), decide_eq_false (by omega), cond_false, wr_sm (by omega)]
  have s3 : m_slices_Concat_Lint_int_L1 [a, b] ((a.length : Int) + b.length, 2) = some (.inr ((a.length : Int) + b.length)) := by
    unfold m_slices_Concat_Lint_int_L1
    simp
  have t1 : m_slices_Concat_Lint_int_L2 [a, b] ([], 0) = some (.inl (a, 1)) := by
    unfold m_slices_Concat_Lint_int_L2
    simp [atL]
    rw [decide_eq_true (by omega), cond_true, wr_sm (by omega)]
  have t2 : m_slices_Concat_Lint_int_L2 [a, b] (a, 1) = some (.inl (a ++ b, 2)) := by
    unfold m_slices_Concat_Lint_int_L2
    simp [atL]
    rw [decide_eq_true (by omega), cond_true, wr_sm (by omega)]
  have t3 : m_slices_Concat_Lint_int_L2 [a, b] (a ++ b, 2) = some (.inr (a ++ b)) := by
    unfold m_slices_Concat_Lint_int_L2
    simp
  unfold m_slices_Concat_Lint_int
  rw [Lp_step s1, Lp_step s2, Lp_stop s3, Option.bind_some]
  unfold m_Grow
  rw [decide_eq_true (by omega), decide_eq_true (by omega), Bool.and_self, cond_true, Option.bind_some, Lp_step t1, Lp_step t2, Lp_stop t3, Option.bind_some]
theorem cutC_len {k : Nat} {row : List Int} (h : k < row.length) : (cutC k row).length = row.length - 1 := by simp [cutC]; omega
theorem sgK_succ (k : Nat) : wr (-sgK k) = sgK (k + 1) := by
  unfold sgK
  rcases Nat.mod_two_eq_zero_or_one k with h | h
  · rw [h, show (k + 1) % 2 = 1 by omega]; decide
  · rw [h, show (k + 1) % 2 = 0 by omega]; decide
theorem n_implDet : ∀ (d k : Nat) (M : List (List Int)), k < d → k ≤ 16 → M.length = k → (∀ r ∈ M, r.length = k) → m_impl_determinant d M = some (detW d M)
  | 0, k, M, h, _, _, _ => absurd h (by omega)
  | d + 1, k, M, hd, h16, hl, hr => by
    show m_impl_determinant_b (m_impl_determinant d) M = _
    unfold m_impl_determinant_b
    cases M with
    | nil => rfl
    | cons r0 rest =>
      have hr0 := hr r0 (by simp)
      simp only [List.length_cons] at hl
      rw [decide_eq_false (by simp only [List.length_cons]; omega), cond_false, show atL (r0 :: rest) 0 = some r0 from rfl, Option.bind_some]
      rw [Lp_go (s := ((0 : Int), (1 : Int), (0 : Int))) (r := detW (d + 1) (r0 :: rest)) (fun j => (detS (detW d) r0 rest j, sgK j, (j : Int))) k rfl (fun j hj => ?_) (fun _ => ?_), Option.bind_some]
      · unfold m_impl_determinant_L1
        simp only
        rw [hr0, dlt hj, cond_true, atG 0 (by omega), Option.bind_some, decide_eq_true (by omega), decide_eq_true (by simp only [List.length_cons]; omega), decide_eq_true (by omega), Bool.and_self, Bool.and_self, cond_true]
        have hmin : Lp (m_impl_determinant_L2 (r0 :: rest) (detS (detW d) r0 rest j, sgK j, (j : Int))) ([], 0) = some (rest.map (cutC j)) := by
          have e0 : ((r0 :: rest).drop (1 : Int).toNat).take (((r0 :: rest).length : Int).toNat - (1 : Int).toNat) = rest := by simp
          refine Lp_go (fun i => ((rest.take i).map (cutC j), (i : Int))) rest.length rfl (fun i hi => ?_) (fun _ => ?_)
          · unfold m_impl_determinant_L2
            simp only
            rw [e0, dlt hi, cond_true, atG [] hi, Option.bind_some]
            have hrow : (rest[i]?.getD []).length = k := by rw [List.getElem?_eq_getElem hi]; exact hr _ (by simp)
            rw [wr_suc (n := 17) (by omega) (by omega), decide_eq_true (by omega), decide_eq_true (by omega), decide_eq_true (by omega), decide_eq_true (by omega), decide_eq_true (by omega), decide_eq_true (by omega)]
            simp only [Bool.and_self, cond_true]
            have e1 : ((rest[i]?.getD []).drop (0 : Int).toNat).take ((j : Int).toNat - (0 : Int).toNat) = (rest[i]?.getD []).take j := by simp
            have e2 : ((rest[i]?.getD []).drop (((j + 1 : Nat) : Int)).toNat).take (((rest[i]?.getD []).length : Int).toNat - (((j + 1 : Nat) : Int)).toNat) = (rest[i]?.getD []).drop (j + 1) := by
              rw [Int.toNat_natCast, Int.toNat_natCast, List.take_of_length_le (by simp)]
            rw [e1, e2, n_concat2 (by simp; omega), Option.bind_some, decide_eq_true (by simp; omega), cond_true, wr_suc hi (by omega)]
            congr 3
            rw [List.take_succ_eq_append_getElem hi, List.map_append, List.getElem?_eq_getElem hi]
            rfl
          · unfold m_impl_determinant_L2
            simp only
            rw [e0, dnl (Nat.le_refl _), cond_false, List.take_length]
        rw [hmin, Option.bind_some, n_implDet d (k - 1) (rest.map (cutC j)) (by omega) (by omega) (by simp; omega) (fun r h => by
          obtain ⟨r', h1, rfl⟩ := List.mem_map.1 h
          have := hr r' (by simp [h1])
          rw [cutC_len (by omega)]; omega), Option.bind_some, sgK_succ, wr_suc hj (by omega)]
        rfl
      · unfold m_impl_determinant_L1
        simp only
        rw [hr0, dnl (Nat.le_refl _), cond_false]
        show some (Sum.inr (detS (detW d) r0 rest k)) = some (Sum.inr (detS (detW d) r0 rest r0.length))
        rw [hr0]
theorem n_specDet : ∀ (d k : Nat) (M : List (List Int)), k < d → k ≤ 16 → M.length = k → (∀ r ∈ M, r.length = k) → m_spec_l18Det d M = some (detW d M)
  | 0, k, M, h, _, _, _ => absurd h (by omega)
  | d + 1, k, M, hd, h16, hl, hr => by
    show m_spec_l18Det_b (m_spec_l18Det d) M = _
    unfold m_spec_l18Det_b
    cases M with
    | nil => rfl
    | cons r0 rest =>
      have hr0 := hr r0 (by simp)
      simp only [List.length_cons] at hl
      rw [decide_eq_false (by simp only [List.length_cons]; omega), cond_false]
      rw [Lp_go (s := ((0 : Int), (1 : Int), (0 : Int))) (r := detW (d + 1) (r0 :: rest)) (fun j => (detS (detW d) r0 rest j, sgK j, (j : Int))) k rfl (fun j hj => ?_) (fun _ => ?_), Option.bind_some]
      · unfold m_spec_l18Det_L1
        simp only
        rw [show (r0 :: rest).length = k by simp only [List.length_cons]; omega, dlt hj, cond_true]
        have hmin : Lp (m_spec_l18Det_L2 (r0 :: rest) (detS (detW d) r0 rest j, sgK j, (j : Int))) (([] : List (List Int)), 1) = some (rest.map (cutC j)) := by
          refine Lp_go (fun i => ((rest.take i).map (cutC j), ((i + 1 : Nat) : Int))) rest.length rfl (fun i hi => ?_) (fun _ => ?_)
          · unfold m_spec_l18Det_L2
            simp only
            have hat : atL (r0 :: rest) ((i + 1 : Nat) : Int) = some (rest[i]?.getD []) := by
              rw [atG [] (by simp; omega)]; rfl
            rw [List.length_cons, dlt (by omega), cond_true, hat, Option.bind_some]
            have hrow : (rest[i]?.getD []).length = k := by rw [List.getElem?_eq_getElem hi]; exact hr _ (by simp)
            rw [wr_suc (k := j) (n := 17) (by omega) (by omega), decide_eq_true (by omega), decide_eq_true (by omega), decide_eq_true (by omega)]
            simp only [Bool.and_self, cond_true]
            have e1 : ((rest[i]?.getD []).drop (0 : Int).toNat).take ((j : Int).toNat - (0 : Int).toNat) = (rest[i]?.getD []).take j := by simp
            have e2 : ((rest[i]?.getD []).drop (((j + 1 : Nat) : Int)).toNat).take (((rest[i]?.getD []).length : Int).toNat - (((j + 1 : Nat) : Int)).toNat) = (rest[i]?.getD []).drop (j + 1) := by
              rw [Int.toNat_natCast, Int.toNat_natCast, List.take_of_length_le (by simp)]
            rw [e1, decide_eq_true (by simp; omega), cond_true]
            simp only [Option.bind_some]
            rw [decide_eq_true (by omega), decide_eq_true (by omega), decide_eq_true (by omega)]
            simp only [Bool.and_self, cond_true]
            rw [e2, decide_eq_true (by simp; omega), cond_true, decide_eq_true (by simp; omega), cond_true, wr_suc (k := i + 1) (n := 18) (by omega) (by omega)]
            congr 3
            rw [List.take_succ_eq_append_getElem hi, List.map_append, List.getElem?_eq_getElem hi]
            rfl
          · unfold m_spec_l18Det_L2
            simp only
            rw [List.length_cons, dnl (Nat.le_refl _), cond_false, List.take_length]
        rw [hmin, Option.bind_some, show atL (r0 :: rest) 0 = some r0 from rfl, Option.bind_some, atG 0 (by omega), Option.bind_some, n_specDet d (k - 1) (rest.map (cutC j)) (by omega) (by omega) (by simp; omega) (fun r h => by
          obtain ⟨r', h1, rfl⟩ := List.mem_map.1 h
          have := hr r' (by simp [h1])
          rw [cutC_len (by omega)]; omega), Option.bind_some, sgK_succ, wr_suc hj (by omega)]
        rfl
      · unfold m_spec_l18Det_L1
        simp only
        rw [show (r0 :: rest).length = k by simp only [List.length_cons]; omega, dnl (Nat.le_refl _), cond_false]
        show some (Sum.inr (detS (detW d) r0 rest k)) = some (Sum.inr (detS (detW d) r0 rest r0.length))
        rw [hr0]
end Go.Proofs.Ytihbegpgoekbdaa
end

section
set_option linter.unusedVariables false
set_option linter.unusedSimpArgs false
/-
  Kinds of quivers: spec and impl agree, and a quiver of finite kind is one of the graphs that were looked at.
-/
namespace Go.Proofs.Ytihbegpgoekbdaa
open Go.RowKit
set_option linter.unusedVariables false

def kindR (n : Nat) (T : List (List Int)) : Nat → Int → Nat → Int
  | 0, kind, _ => kind
  | f + 1, kind, s => if detW 8 (minorT n T s) < 0 then 3 else kindR n T f (if detW 8 (minorT n T s) = 0 then 2 else kind) (s + 1)
theorem minor_len {n s : Nat} {T : List (List Int)} : (minorT n T s).length = (pickN n s).length ∧ ∀ r ∈ minorT n T s, r.length = (pickN n s).length := by
  refine ⟨by simp [minorT], fun r hr => ?_⟩
  obtain ⟨v, _, rfl⟩ := List.mem_map.1 hr
  simp
theorem shl_eq : ∀ n : Nat, n < 6 → shlI 1 (n : Int) = ((2 ^ n : Nat) : Int) := by decide +kernel
theorem pow_le : ∀ n : Nat, n < 6 → 2 ^ n ≤ 32 := by decide
theorem kind_loop {body : Int × Int → Option ((Int × Int) ⊕ (Int ⊕ Int))} {n : Nat} {T : List (List Int)} (hn : n < 6)
    (hs : ∀ (kind : Int) (s : Nat), 1 ≤ s → s < 2 ^ n → body (kind, (s : Int)) = some (if detW 8 (minorT n T s) < 0 then .inr (.inr 3) else .inl (if detW 8 (minorT n T s) = 0 then 2 else kind, ((s + 1 : Nat) : Int))))
    (he : ∀ kind : Int, body (kind, ((2 ^ n : Nat) : Int)) = some (.inr (.inl kind))) : ∀ (f : Nat) (kind : Int) (s : Nat), 1 ≤ s → s + f = 2 ^ n → (Option.bind (Lp body (kind, (s : Int))) fun y => Sum.elim (fun a => some a) (fun b => some b) y) = some (kindR n T f kind s)
  | 0, kind, s, h1, h => by
    have h' : s = 2 ^ n := by omega
    subst h'
    rw [Lp_stop (he kind)]; rfl
  | f + 1, kind, s, h1, h => by
    have hb := hs kind s h1 (by omega)
    simp only [kindR]
    by_cases c : detW 8 (minorT n T s) < 0
    · rw [if_pos c] at hb ⊢
      rw [Lp_stop hb]; rfl
    · rw [if_neg c] at hb ⊢
      rw [Lp_step hb]
      exact kind_loop hn hs he f _ (s + 1) (by omega) (by omega)
theorem n_implKind {q : Qv} {n : Nat} (Q : QOk q n) : m_impl_KindOfQuiver q = some (kindR n (matQ q n) (2 ^ n - 1) 1 1) := by
  have n5 := Q.n5
  have hp := pow_le n (by omega)
  have hp1 : 1 ≤ 2 ^ n := Nat.one_le_two_pow
  unfold m_impl_KindOfQuiver
  rw [n_implQ Q.bq, Q.qv, Option.bind_some, Bool.not_true, cond_false, n_implSym Q, Option.bind_some]
  refine kind_loop (by omega) (fun kind s h1 h2 => ?_) (fun kind => ?_) _ _ 1 (Nat.le_refl _) (by omega)
  · unfold m_impl_KindOfQuiver_L1
    simp only
    rw [Q.n0, decide_eq_false (by omega), Bool.not_false, cond_true, shl_eq n (by omega), dlt h2, cond_true]
    unfold matQ
    rw [n_implMinor n5 (by omega) (x1 := (kind, (s : Int))) rfl, Option.bind_some]
    have hl := pick_len n s
    rw [n_implDet 8 (pickN n s).length _ (by omega) (by omega) minor_len.1 minor_len.2, Option.bind_some, wr_suc h2 (by omega)]
    generalize detW 8 (minorT n (matL n (mF q q.src.length)) s) = d
    by_cases c : d < 0
    · simp [c]
    · by_cases c2 : d = 0
      · simp [c2]
      · simp [c, c2]
  · unfold m_impl_KindOfQuiver_L1
    simp only
    rw [Q.n0, decide_eq_false (by omega), Bool.not_false, cond_true, shl_eq n (by omega), dnl (Nat.le_refl _), cond_false]
theorem n_specKind {q : Qv} {n : Nat} (Q : QOk q n) : m_spec_KindOfQuiver q = some (kindR n (matQ q n) (2 ^ n - 1) 1 1) := by
  have n5 := Q.n5
  have hp := pow_le n (by omega)
  have hp1 : 1 ≤ 2 ^ n := Nat.one_le_two_pow
  unfold m_spec_KindOfQuiver
  rw [n_specQ Q.bq, Q.qv, Option.bind_some, Bool.not_true, cond_false, n_specSym Q, Option.bind_some]
  refine kind_loop (by omega) (fun kind s h1 h2 => ?_) (fun kind => ?_) _ _ 1 (Nat.le_refl _) (by omega)
  · unfold m_spec_KindOfQuiver_L1
    simp only
    rw [Q.n0, decide_eq_false (by omega), Bool.not_false, cond_true, shl_eq n (by omega), dlt h2, cond_true]
    unfold matQ
    rw [n_specMinor n5 (by omega), Option.bind_some]
    have hl := pick_len n s
    rw [n_specDet 8 (pickN n s).length _ (by omega) (by omega) minor_len.1 minor_len.2, Option.bind_some, wr_suc h2 (by omega)]
    generalize detW 8 (minorT n (matL n (mF q q.src.length)) s) = d
    by_cases c : d < 0
    · simp [c]
    · by_cases c2 : d = 0
      · simp [c2]
      · simp [c, c2]
  · unfold m_spec_KindOfQuiver_L1
    simp only
    rw [Q.n0, decide_eq_false (by omega), Bool.not_false, cond_true, shl_eq n (by omega), dnl (Nat.le_refl _), cond_false]

/-! ## finite kind -/
theorem kindR_two {n : Nat} {T : List (List Int)} : ∀ f s, kindR n T f 2 s ≠ 1
  | 0, s => by simp [kindR]
  | f + 1, s => by
    simp only [kindR]
    split
    · decide
    · rw [ite_self]; exact kindR_two f (s + 1)
theorem kindR_one {n : Nat} {T : List (List Int)} : ∀ {f : Nat} {kind : Int} {s : Nat}, kindR n T f kind s = 1 → ∀ t, s ≤ t → t < s + f → 0 < detW 8 (minorT n T t)
  | 0, kind, s, h, t, h1, h2 => by omega
  | f + 1, kind, s, h, t, h1, h2 => by
    simp only [kindR] at h
    split at h
    · cases h
    · rename_i c
      by_cases c2 : detW 8 (minorT n T s) = 0
      · rw [if_pos c2] at h
        exact absurd h (kindR_two f (s + 1))
      · rw [if_neg c2] at h
        by_cases e : t = s
        · subst e; omega
        · exact kindR_one h t (by omega) (by omega)
theorem pick_one : ∀ n, n < 6 → ∀ v, v < n → pickN n (2 ^ v) = [v] := by decide +kernel
theorem pick_two : ∀ n, n < 6 → ∀ v, v < n → ∀ w, w < n → v < w → pickN n (2 ^ v + 2 ^ w) = [v, w] := by decide +kernel
theorem pow_one : ∀ n, n < 6 → ∀ v, v < n → 1 ≤ 2 ^ v ∧ 2 ^ v < 2 ^ n := by decide
theorem pow_two : ∀ n, n < 6 → ∀ v, v < n → ∀ w, w < n → v < w → 1 ≤ 2 ^ v + 2 ^ w ∧ 2 ^ v + 2 ^ w < 2 ^ n := by decide
theorem det_one : ∀ c : Nat, c < 7 → 0 < detW 8 [[2 - 2 * (c : Int)]] → c = 0 := by decide +kernel
theorem det_two : ∀ c : Nat, c < 13 → 0 < detW 8 [[2, -(c : Int)], [-(c : Int), 2]] → c ≤ 1 := by decide +kernel
theorem fin_form {q : Qv} {n : Nat} (Q : QOk q n) (h : ∀ t, 1 ≤ t → t < 2 ^ n → 0 < detW 8 (minorT n (matQ q n) t)) : GForm n (matQ q n) ∧ goodT n (matQ q n) = true := by
  have n5 := Q.n5
  have m6 := Q.m6
  generalize hF : mF q q.src.length = F
  have hT : matQ q n = matL n F := by rw [← hF]; rfl
  rw [hT] at h ⊢
  have hsym : ∀ v w, F v w = F w v := fun v w => by rw [← hF]; exact mF_sym q _ v w
  have hd : ∀ v, v < n → F v v = 2 := by
    intro v hv
    have h1 := h (2 ^ v) (pow_one n (by omega) v hv).1 (pow_one n (by omega) v hv).2
    have e : minorT n (matL n F) (2 ^ v) = [[F v v]] := by
      unfold minorT
      rw [pick_one n (by omega) v hv]
      simp [rowsF_matL hv hv]
    have hc := cnt_bd q q.src.length v v
    have e2 : F v v = 2 - 2 * (((cntN q q.src.length v v).toNat : Nat) : Int) := by
      rw [← hF]; unfold mF; rw [if_pos rfl]; omega
    rw [e, e2] at h1
    have := det_one _ (by omega) h1
    omega
  have ho : ∀ v w, v < n → w < n → v < w → F v w = 0 ∨ F v w = -1 := by
    intro v w hv hw hvw
    have h1 := h (2 ^ v + 2 ^ w) (pow_two n (by omega) v hv w hw hvw).1 (pow_two n (by omega) v hv w hw hvw).2
    have hc := cnt_bd q q.src.length v w
    have hc2 := cnt_bd q q.src.length w v
    have e2 : F v w = -((((cntN q q.src.length v w + cntN q q.src.length w v).toNat : Nat)) : Int) := by
      rw [← hF]; unfold mF; rw [if_neg (by omega)]; omega
    have e : minorT n (matL n F) (2 ^ v + 2 ^ w) = [[2, F v w], [F v w, 2]] := by
      unfold minorT
      rw [pick_two n (by omega) v hv w hw hvw]
      simp [rowsF_matL hv hv, rowsF_matL hv hw, rowsF_matL hw hv, rowsF_matL hw hw, hd v hv, hd w hw, hsym w v]
    rw [e, e2] at h1
    have := det_two _ (by omega) h1
    omega
  have hT2 : matL n F = matL n fun v w => if v = w then 2 else bi (decide (F (min v w) (max v w) = -1)) := by
    refine matL_congr fun v w hv hw => ?_
    by_cases e : v = w
    · subst e; rw [if_pos rfl]; exact hd v hv
    · rw [if_neg e]
      rcases Nat.lt_or_gt_of_ne e with c | c
      · rw [Nat.min_eq_left (by omega), Nat.max_eq_right (by omega)]
        rcases ho v w hv hw c with h | h <;> rw [h] <;> rfl
      · rw [Nat.min_eq_right (by omega), Nat.max_eq_left (by omega), hsym v w]
        rcases ho w v hw hv c with h | h <;> rw [h] <;> rfl
  have hchk : chkT n (matL n F) = true := by
    rw [hT2]
    have hn1 := Q.n1
    have hcase : n = 1 ∨ n = 2 ∨ n = 3 ∨ n = 4 ∨ n = 5 := by omega
    rcases hcase with rfl | rfl | rfl | rfl | rfl
    · exact chk1
    · exact chk2 (decide (F 0 1 = -1))
    · exact chk3 (decide (F 0 1 = -1)) (decide (F 0 2 = -1)) (decide (F 1 2 = -1))
    · exact chk4 (decide (F 0 1 = -1)) (decide (F 0 2 = -1)) (decide (F 0 3 = -1)) (decide (F 1 2 = -1)) (decide (F 1 3 = -1)) (decide (F 2 3 = -1))
    · exact chk5 (decide (F 0 1 = -1)) (decide (F 0 2 = -1)) (decide (F 0 3 = -1)) (decide (F 0 4 = -1)) (decide (F 1 2 = -1)) (decide (F 1 3 = -1)) (decide (F 1 4 = -1)) (decide (F 2 3 = -1)) (decide (F 2 4 = -1)) (decide (F 3 4 = -1))
  have hgood : goodT n (matL n F) = true := by
    unfold chkT at hchk
    rcases Bool.or_eq_true_iff.1 hchk with h1 | h1
    · exact h1
    · rw [List.any_eq_true] at h1
      obtain ⟨s, hs, h2⟩ := h1
      simp only [Bool.and_eq_true, decide_eq_true_eq, Nat.blt_eq] at h2
      have hs1 : 1 ≤ s := by simp only [List.mem_cons, List.not_mem_nil, or_false] at hs; omega
      have := h s hs1 h2.1
      omega
  refine ⟨⟨fun i j hi hj => by rw [rowsF_matL hi hj, rowsF_matL hj hi]; exact hsym i j, fun i hi => by rw [rowsF_matL hi hi]; exact hd i hi, (goodT_parts hgood).1⟩, hgood⟩
end Go.Proofs.Ytihbegpgoekbdaa
end

section
set_option linter.unusedVariables false
set_option linter.unusedSimpArgs false
/-
  The form of Euler, what the models answer; vectors in boxes.
-/
namespace Go.Proofs.Ytihbegpgoekbdaa
open Go.RowKit
set_option linter.unusedVariables false

/-! ## the form of Euler -/
def eul (q : Qv) (n : Nat) (x y : List Int) : Int := (sumN n fun v => gx x v * gx y v) - sumN q.src.length fun i => gx x (gx q.src i).toNat * gx y (gx q.tgt i).toNat
theorem sumN_bd {f : Nat → Int} {B : Int} : ∀ {n : Nat}, (∀ i, i < n → -B ≤ f i ∧ f i ≤ B) → -(B * n) ≤ sumN n f ∧ sumN n f ≤ B * n
  | 0, _ => by simp [sumN]
  | n + 1, h => by
    have h1 := sumN_bd (n := n) fun i hi => h i (by omega)
    have h2 := h n (by omega)
    simp only [sumN, Int.natCast_add, Int.mul_add]
    omega
theorem mul_bd {a b : Int} (ha : -100 ≤ a ∧ a ≤ 100) (hb : -100 ≤ b ∧ b ≤ 100) : -10000 ≤ a * b ∧ a * b ≤ 10000 := by
  have h1 := Int.mul_nonneg (a := 100 - a) (b := 100 + b) (by omega) (by omega)
  have h2 := Int.mul_nonneg (a := 100 + a) (b := 100 - b) (by omega) (by omega)
  have h3 := Int.mul_nonneg (a := 100 - a) (b := 100 - b) (by omega) (by omega)
  have h4 := Int.mul_nonneg (a := 100 + a) (b := 100 + b) (by omega) (by omega)
  grind
def Sm (x : List Int) : Prop := ∀ a ∈ x, -100 ≤ a ∧ a ≤ 100
theorem Sm.gx {x : List Int} (h : Sm x) (i : Nat) : -100 ≤ gx x i ∧ gx x i ≤ 100 := by
  rcases Nat.lt_or_ge i x.length with h' | h'
  · exact h _ (mem_gx h')
  · unfold Go.Proofs.Ytihbegpgoekbdaa.gx
    rw [List.getElem?_eq_none h']; simp
theorem n_eulA {n : Nat} {x y : List Int} (hx : x.length = n) (hy : y.length = n) (n5 : n ≤ 5) (sx : Sm x) (sy : Sm y) {body : Int × Int → Option ((Int × Int) ⊕ Int)}
    (hb : ∀ (s : Int) (k : Nat), k < n → body (s, (k : Int)) = some (.inl (wr (s + wr (gx x k * gx y k)), wr ((k : Int) + 1)))) (he : ∀ s : Int, body (s, (n : Int)) = some (.inr s)) : Lp body (0, 0) = some (sumN n fun v => gx x v * gx y v) := by
  refine Lp_go (fun k => (sumN k fun v => gx x v * gx y v, (k : Int))) n rfl (fun k hk => ?_) (fun _ => he _)
  have h1 := mul_bd (sx.gx k) (sy.gx k)
  have h2 := sumN_bd (n := k) (f := fun v => gx x v * gx y v) (B := 10000) fun i _ => mul_bd (sx.gx i) (sy.gx i)
  rw [hb _ k hk, wr_sm (x := gx x k * gx y k) (by omega), wr_sm (by omega), wr_suc hk (by omega)]
  rfl
theorem n_eulB {q : Qv} {n : Nat} (Q : QOk q n) {x y : List Int} (hx : x.length = n) (hy : y.length = n) (sx : Sm x) (sy : Sm y) {s0 : Int} (hs0 : -50000 ≤ s0 ∧ s0 ≤ 50000) {body : Int × Int → Option ((Int × Int) ⊕ Int)}
    (hb : ∀ (s : Int) (k : Nat), k < q.src.length → body (s, (k : Int)) = some (.inl (wr (s - wr (gx x (gx q.src k).toNat * gx y (gx q.tgt k).toNat)), wr ((k : Int) + 1)))) (he : ∀ s : Int, body (s, (q.src.length : Int)) = some (.inr s)) :
    Lp body (s0, 0) = some (s0 - sumN q.src.length fun i => gx x (gx q.src i).toNat * gx y (gx q.tgt i).toNat) := by
  have m6 := Q.m6
  refine Lp_go (fun k => (s0 - sumN k fun i => gx x (gx q.src i).toNat * gx y (gx q.tgt i).toNat, (k : Int))) q.src.length (by simp [sumN]) (fun k hk => ?_) (fun _ => he _)
  have h1 := mul_bd (sx.gx (gx q.src k).toNat) (sy.gx (gx q.tgt k).toNat)
  have h2 := sumN_bd (n := k) (f := fun i => gx x (gx q.src i).toNat * gx y (gx q.tgt i).toNat) (B := 10000) fun i _ => mul_bd (sx.gx _) (sy.gx _)
  rw [hb _ k hk, wr_sm (x := gx x (gx q.src k).toNat * gx y (gx q.tgt k).toNat) (by omega), wr_sm (by omega), wr_suc hk (by omega)]
  simp only [sumN]
  congr 3
  omega
theorem at_gx {x : List Int} {i : Nat} (h : i < x.length) : atL x (i : Int) = some (gx x i) := by rw [atG 0 h]; rfl
theorem eulA_bd {n : Nat} {x y : List Int} (n5 : n ≤ 5) (sx : Sm x) (sy : Sm y) : -50000 ≤ (sumN n fun v => gx x v * gx y v) ∧ (sumN n fun v => gx x v * gx y v) ≤ 50000 := by
  have := sumN_bd (n := n) (f := fun v => gx x v * gx y v) (B := 10000) fun i _ => mul_bd (sx.gx i) (sy.gx i)
  omega
theorem eul_bd {q : Qv} {n : Nat} (Q : QOk q n) {x y : List Int} (sx : Sm x) (sy : Sm y) : -200000 ≤ eul q n x y ∧ eul q n x y ≤ 200000 := by
  have h1 := eulA_bd (x := x) (y := y) Q.n5 sx sy
  have h2 := sumN_bd (n := q.src.length) (f := fun i => gx x (gx q.src i).toNat * gx y (gx q.tgt i).toNat) (B := 10000) fun i _ => mul_bd (sx.gx _) (sy.gx _)
  have := Q.m6
  unfold eul
  omega
theorem n_implEul {q : Qv} {n : Nat} (Q : QOk q n) {x y : List Int} (hx : x.length = n) (hy : y.length = n) (sx : Sm x) (sy : Sm y) : m_impl_euler q x y = some (eul q n x y) := by
  have n5 := Q.n5
  unfold m_impl_euler
  rw [n_eulA hx hy n5 sx sy (fun s k hk => ?_) (fun s => ?_), Option.bind_some, n_eulB Q hx hy sx sy (eulA_bd n5 sx sy) (fun s k hk => ?_) (fun s => ?_), Option.bind_some]
  · rfl
  · unfold m_impl_euler_L2
    simp only
    obtain ⟨s', t, hs, ht, e1, e2, e3, e4⟩ := Q.arrow hk
    rw [dlt hk, cond_true, e3, Option.bind_some, at_gx (by omega), Option.bind_some, e4, Option.bind_some, at_gx (by omega), Option.bind_some, e1, e2, Int.toNat_natCast, Int.toNat_natCast]
  · unfold m_impl_euler_L2
    simp only
    rw [dnl (Nat.le_refl _), cond_false]
  · unfold m_impl_euler_L1
    simp only
    rw [hx, dlt hk, cond_true, at_gx (by omega), Option.bind_some, at_gx (by omega), Option.bind_some]
  · unfold m_impl_euler_L1
    simp only
    rw [hx, dnl (Nat.le_refl _), cond_false]
theorem n_l18Vec {q : Qv} (hq : bQ q) {x : List Int} (hx : x.length ≤ 1048576) : m_spec_l18Vector q x = some ((x.all fun a => inR a (-100) 100) && (quivV q && decide ((x.length : Int) = q.n))) := by
  unfold m_spec_l18Vector
  rw [Lp_all (fun k => inR (x[k]?.getD 0) (-100) 100) false (n := x.length) (by omega) (fun k hk => ?_) (fun _ => ?_), all_range 0 x (fun a => inR a (-100) 100), Option.bind_some]
  · cases x.all fun a => inR a (-100) 100
    · rfl
    · rw [cond_true, Bool.true_and]
      show (Option.bind (m_spec_IsQuiver q) fun v7 => bif v7 then some (decide ((x.length : Int) = q.n)) else some false) = _
      rw [n_specQ hq, Option.bind_some]
      cases quivV q <;> rfl
  · unfold m_spec_l18Vector_L1
    rw [dlt hk, cond_true, atG 0 hk, Option.bind_some, n_l1In, Option.bind_some]
    cases inR _ (-100) 100 <;> rfl
  · unfold m_spec_l18Vector_L1
    rw [dnl (Nat.le_refl _), cond_false]
theorem Sm.all {x : List Int} (h : Sm x) : (x.all fun a => inR a (-100) 100) = true := by
  rw [List.all_eq_true]
  intro a ha
  exact inR_mk (h a ha).1 (h a ha).2
theorem n_specEul {q : Qv} {n : Nat} (Q : QOk q n) {x y : List Int} (hx : x.length = n) (hy : y.length = n) (sx : Sm x) (sy : Sm y) : m_spec_EulerForm q x y = some (eul q n x y) := by
  have n5 := Q.n5
  unfold m_spec_EulerForm
  rw [n_l18Vec Q.bq (by omega), sx.all, Q.qv, hx, Q.n0, decide_eq_true rfl, n_l18Vec Q.bq (by omega), sy.all, Q.qv, hy, Q.n0, decide_eq_true rfl]
  simp only [Bool.and_self, Option.bind_some, Bool.not_true, cond_false]
  rw [n_eulA hx hy n5 sx sy (fun s k hk => ?_) (fun s => ?_), Option.bind_some, n_eulB Q hx hy sx sy (eulA_bd n5 sx sy) (fun s k hk => ?_) (fun s => ?_), Option.bind_some]
  · rfl
  · unfold m_spec_EulerForm_L2
    simp only
    obtain ⟨s', t, hs, ht, e1, e2, e3, e4⟩ := Q.arrow hk
    rw [dlt hk, cond_true, e3, Option.bind_some, at_gx (by omega), Option.bind_some, e4, Option.bind_some, at_gx (by omega), Option.bind_some, e1, e2, Int.toNat_natCast, Int.toNat_natCast]
  · unfold m_spec_EulerForm_L2
    simp only
    rw [dnl (Nat.le_refl _), cond_false]
  · unfold m_spec_EulerForm_L1
    simp only
    rw [Q.n0, dlt hk, cond_true, at_gx (by omega), Option.bind_some, at_gx (by omega), Option.bind_some]
  · unfold m_spec_EulerForm_L1
    simp only
    rw [Q.n0, dnl (Nat.le_refl _), cond_false]

/-! ## the two forms -/
theorem ind2 {n s t : Nat} (x : Nat → Int) (hs : s < n) (ht : t < n) : (sumN n fun v => sumN n fun w => (if v = s ∧ w = t then 1 else 0) * (x v * x w)) = x s * x t := by
  rw [sumN_congr (g := fun v => if v = s then (fun v => x v * x t) v else 0) (fun v hv => ?_), sumN_one (fun v => x v * x t) hs]
  by_cases c : v = s
  · rw [if_pos c]
    refine (sumN_congr fun w _ => ?_).trans (sumN_one (fun w => x v * x w) ht)
    by_cases c2 : w = t
    · simp [c, c2]
    · simp [c2]
  · rw [if_neg c, sumN_congr (g := fun _ => 0) (fun w _ => by simp [c]), sumN_zero]
theorem qf_mF {q : Qv} {n : Nat} (Q : QOk q n) (x : Nat → Int) : ∀ k, k ≤ q.src.length → qf n (mF q k) x = 2 * (sumN n fun v => x v * x v) - 2 * sumN k fun i => x (gx q.src i).toNat * x (gx q.tgt i).toNat
  | 0, _ => by
    unfold qf
    simp only [sumN]
    rw [sumN_congr (g := fun v => 2 * (x v * x v)) (fun v hv => ?_), sumN_mul]
    · omega
    · rw [← sumN_one (fun w => 2 * (x v * x w)) hv]
      refine sumN_congr fun w _ => ?_
      unfold mF cntN
      simp only [sumN]
      by_cases c : v = w
      · subst c; simp
      · simp [c, show ¬ w = v from fun h => c h.symm]
  | k + 1, hk => by
    have ih := qf_mF Q x k (by omega)
    obtain ⟨s, t, hs, ht, e1, e2, e3, e4⟩ := Q.arrow (i := k) (by omega)
    have e : qf n (mF q (k + 1)) x = qf n (mF q k) x + ((-1) * (sumN n fun v => sumN n fun w => (if v = s ∧ w = t then 1 else 0) * (x v * x w)) + (-1) * (sumN n fun v => sumN n fun w => (if v = t ∧ w = s then 1 else 0) * (x v * x w))) := by
      unfold qf
      rw [← sumN_mul, ← sumN_mul, ← sumN_add, ← sumN_add]
      refine sumN_congr fun v _ => ?_
      rw [← sumN_mul, ← sumN_mul, ← sumN_add, ← sumN_add]
      refine sumN_congr fun w _ => ?_
      rw [mF_succ, hit_eq e1 e2, hit_eq e1 e2]
      have c : (if w = s ∧ v = t then (1 : Int) else 0) = if v = t ∧ w = s then 1 else 0 := by
        by_cases h : v = t ∧ w = s
        · rw [if_pos h, if_pos ⟨h.2, h.1⟩]
        · rw [if_neg h, if_neg fun h' => h ⟨h'.2, h'.1⟩]
      rw [c]
      grind
    rw [e, ind2 x hs ht, ind2 x ht hs, ih]
    simp only [sumN]
    rw [e1, e2, Int.toNat_natCast, Int.toNat_natCast]
    grind
theorem qf_congr {n : Nat} {m m' : Nat → Nat → Int} (x : Nat → Int) (h : ∀ i j, i < n → j < n → m i j = m' i j) : qf n m x = qf n m' x :=
  sumN_congr fun i hi => sumN_congr fun j hj => by rw [h i j hi hj]
theorem qf_eul {q : Qv} {n : Nat} (Q : QOk q n) (x : List Int) : qf n (rowsF (matQ q n)) (gx x) = 2 * eul q n x x := by
  have e : qf n (rowsF (matQ q n)) (gx x) = qf n (mF q q.src.length) (gx x) := qf_congr _ fun i j hi hj => rowsF_matL hi hj
  rw [e, qf_mF Q _ _ (Nat.le_refl _)]
  unfold eul
  omega

/-! ## boxes -/
theorem mem_boxes : ∀ {ms x : List Int}, x ∈ boxesL ms ↔ x.length = ms.length ∧ ∀ i, i < ms.length → 0 ≤ gx x i ∧ (gx x i).toNat ≤ (gx ms i).toNat
  | [], x => by
    simp only [boxesL, List.mem_singleton, List.length_nil]
    constructor
    · rintro rfl; exact ⟨rfl, fun i h => by omega⟩
    · rintro ⟨h, _⟩; exact List.eq_nil_of_length_eq_zero h
  | m :: ms, x => by
    simp only [boxesL, List.mem_flatMap, List.mem_range, List.mem_map]
    constructor
    · rintro ⟨i, hi, y, hy, rfl⟩
      obtain ⟨h1, h2⟩ := mem_boxes.1 hy
      refine ⟨by simp [h1], fun j hj => ?_⟩
      cases j with
      | zero => show 0 ≤ (i : Int) ∧ (i : Int).toNat ≤ m.toNat; omega
      | succ j => exact h2 j (by simpa using hj)
    · rintro ⟨h1, h2⟩
      cases x with
      | nil => simp at h1
      | cons a x =>
        have h3 := h2 0 (by simp)
        have h4 : 0 ≤ a ∧ a.toNat ≤ m.toNat := h3
        refine ⟨a.toNat, by omega, x, mem_boxes.2 ⟨by simpa using h1, fun j hj => h2 (j + 1) (by simpa using hj)⟩, ?_⟩
        rw [Int.toNat_of_nonneg h4.1]
def lexB : List Int → List Int → Bool
  | a :: x, b :: y => decide (a < b) || (decide (a = b) && lexB x y)
  | _, _ => false
theorem boxes_lex : ∀ ms : List Int, (boxesL ms).Pairwise fun x y => lexB x y = true
  | [] => by simp [boxesL]
  | m :: ms => by
    simp only [boxesL]
    rw [List.pairwise_flatMap]
    refine ⟨fun i _ => ?_, ?_⟩
    · rw [List.pairwise_map]
      exact (boxes_lex ms).imp fun h => by simp [lexB, h]
    · refine List.pairwise_lt_range.imp fun h => ?_
      intro x hx y hy
      obtain ⟨x', _, rfl⟩ := List.mem_map.1 hx
      obtain ⟨y', _, rfl⟩ := List.mem_map.1 hy
      simp only [lexB, Bool.or_eq_true, decide_eq_true_eq]
      exact .inl (by omega)
theorem lexB_irr : ∀ x : List Int, lexB x x = false
  | [] => rfl
  | a :: x => by simp [lexB, lexB_irr x]
theorem boxes_nodup (ms : List Int) : (boxesL ms).Nodup := (boxes_lex ms).imp fun {x y} h e => by rw [e, lexB_irr] at h; cases h
theorem boxes_num : ∀ n, n < 6 → (boxesL (List.replicate n 4)).length ≤ 3125 := by decide +kernel
theorem box_ok : ∀ n, n < 6 → boxOk (List.replicate n 4) = true := by decide
end Go.Proofs.Ytihbegpgoekbdaa
end

section
set_option linter.unusedVariables false
set_option linter.unusedSimpArgs false
/-
  Sorting by insertion: what the models do, in spec and in impl.
-/
namespace Go.Proofs.Ytihbegpgoekbdaa
open Go.RowKit
set_option linter.unusedVariables false

def insR {α : Type} (lt : α → α → Bool) (x : α) : List α → List α → List α
  | [], acc => x :: acc
  | p :: ps, acc => if lt x p = true then insR lt x ps (p :: acc) else (p :: ps).reverse ++ x :: acc
def insB {α : Type} (lt : α → α → Bool) (x : α) (P : List α) : List α := insR lt x P.reverse []
def sortB {α : Type} (lt : α → α → Bool) (A : List α) : List α := A.foldl (fun S x => insB lt x S) []
theorem insR_len {α : Type} (lt : α → α → Bool) (x : α) : ∀ ps acc, (insR lt x ps acc).length = ps.length + acc.length + 1
  | [], acc => by simp [insR]
  | p :: ps, acc => by
    simp only [insR]
    split
    · rw [insR_len lt x ps (p :: acc)]; simp; omega
    · simp; omega
theorem insR_mem {α : Type} (lt : α → α → Bool) (x y : α) : ∀ ps acc, y ∈ insR lt x ps acc ↔ y = x ∨ y ∈ ps ∨ y ∈ acc
  | [], acc => by simp [insR]
  | p :: ps, acc => by
    simp only [insR]
    split
    · rw [insR_mem lt x y ps (p :: acc)]; simp only [List.mem_cons]; grind
    · simp only [List.mem_append, List.mem_reverse, List.mem_cons]; grind
theorem insB_len {α : Type} (lt : α → α → Bool) (x : α) (P : List α) : (insB lt x P).length = P.length + 1 := by unfold insB; rw [insR_len]; simp
theorem insB_mem {α : Type} {lt : α → α → Bool} {x y : α} {P : List α} : y ∈ insB lt x P ↔ y = x ∨ y ∈ P := by unfold insB; rw [insR_mem]; simp
theorem sortB_snoc {α : Type} (lt : α → α → Bool) (A : List α) (x : α) : sortB lt (A ++ [x]) = insB lt x (sortB lt A) := by simp [sortB]
theorem sortB_spec {α : Type} (lt : α → α → Bool) : ∀ A : List α, (sortB lt A).length = A.length ∧ ∀ y, y ∈ sortB lt A ↔ y ∈ A := by
  have key : ∀ A S : List α, (A.foldl (fun S x => insB lt x S) S).length = S.length + A.length ∧ ∀ y, y ∈ A.foldl (fun S x => insB lt x S) S ↔ y ∈ S ∨ y ∈ A := by
    intro A
    induction A with
    | nil => intro S; simp
    | cons a A ih =>
      intro S
      obtain ⟨h1, h2⟩ := ih (insB lt a S)
      refine ⟨by rw [List.foldl_cons, h1, insB_len]; simp; omega, fun y => ?_⟩
      rw [List.foldl_cons, h2 y, insB_mem]
      simp only [List.mem_cons]; grind
  intro A
  obtain ⟨h1, h2⟩ := key A []
  exact ⟨by unfold sortB; rw [h1]; simp, fun y => by unfold sortB; rw [h2]; simp⟩
/-- An insertion keeps a list sorted. -/
theorem insR_sorted {α : Type} {lt : α → α → Bool} {R : α → α → Prop} (hT : ∀ a b c, R a b → R b c → R a c) {x : α} : ∀ {ps acc : List α}, (ps.reverse ++ acc).Pairwise R → (∀ a ∈ acc, R x a) → (∀ p ∈ ps, lt x p = true → R x p) → (∀ p ∈ ps, lt x p = false → R p x) → (insR lt x ps acc).Pairwise R
  | [], acc, hs, ha, h1, h0 => by simp only [insR]; exact List.pairwise_cons.2 ⟨ha, by simpa using hs⟩
  | p :: ps, acc, hs, ha, h1, h0 => by
    simp only [insR]
    by_cases c : lt x p = true
    · rw [if_pos c]
      have e : (p :: ps).reverse ++ acc = ps.reverse ++ (p :: acc) := by simp
      rw [e] at hs
      refine insR_sorted hT hs (fun a h => ?_) (fun q hq => h1 q (by simp [hq])) (fun q hq => h0 q (by simp [hq]))
      rcases List.mem_cons.1 h with rfl | h
      · exact h1 _ (by simp) c
      · exact ha a h
    · rw [if_neg c]
      have hp := h0 p (by simp) (by simpa using c)
      rw [List.pairwise_append] at hs ⊢
      obtain ⟨g1, g2, g3⟩ := hs
      refine ⟨g1, List.pairwise_cons.2 ⟨ha, g2⟩, fun a h1' b hb => ?_⟩
      rcases List.mem_cons.1 hb with rfl | hb
      · rcases List.mem_reverse.1 h1' |> List.mem_cons.1 with rfl | h
        · exact hp
        · refine hT _ p _ ?_ hp
          rw [List.reverse_cons, List.pairwise_append] at g1
          exact g1.2.2 a (by simpa using h) p (by simp)
      · exact g3 a h1' b hb
theorem insB_sorted {α : Type} {lt : α → α → Bool} {R : α → α → Prop} (hT : ∀ a b c, R a b → R b c → R a c) {x : α} {P : List α} (hP : P.Pairwise R) (h1 : ∀ p ∈ P, lt x p = true → R x p) (h0 : ∀ p ∈ P, lt x p = false → R p x) : (insB lt x P).Pairwise R :=
  insR_sorted hT (by simpa using hP) (by simp) (fun p hp => h1 p (by simpa using hp)) (fun p hp => h0 p (by simpa using hp))
theorem sorted_ext {α : Type} {R : α → α → Prop} (hI : ∀ a, ¬ R a a) (hT : ∀ a b c, R a b → R b c → R a c) : ∀ {l m : List α}, l.Pairwise R → m.Pairwise R → (∀ x, x ∈ l ↔ x ∈ m) → l = m
  | [], m, _, _, h => by
    cases m with
    | nil => rfl
    | cons b m => exact absurd ((h b).2 (by simp)) (by simp)
  | a :: l, m, hl, hm, h => by
    cases m with
    | nil => exact absurd ((h a).1 (by simp)) (by simp)
    | cons b m =>
      have hl' := List.pairwise_cons.1 hl
      have hm' := List.pairwise_cons.1 hm
      have hab : a = b := by
        rcases List.mem_cons.1 ((h a).1 (by simp)) with e | e
        · exact e
        · rcases List.mem_cons.1 ((h b).2 (by simp)) with e2 | e2
          · exact e2.symm
          · exact absurd (hT _ _ _ (hl'.1 b e2) (hm'.1 a e)) (hI a)
      subst hab
      congr 1
      refine sorted_ext hI hT hl'.2 hm'.2 fun x => ?_
      have hx := h x
      simp only [List.mem_cons] at hx
      constructor
      · intro h1
        rcases hx.1 (.inr h1) with rfl | h2
        · exact absurd (hl'.1 _ h1) (hI _)
        · exact h2
      · intro h1
        rcases hx.2 (.inr h1) with rfl | h2
        · exact absurd (hm'.1 _ h1) (hI _)
        · exact h2

/-! ## impl: slices.SortStableFunc of at most twenty -/
/-- Numbers from 0 to 4, at most five. -/
def Vec5 (x : List Int) : Prop := x.length ≤ 5 ∧ ∀ a ∈ x, 0 ≤ a ∧ a ≤ 4
theorem Vec5.sum {x : List Int} (h : Vec5 x) : 0 ≤ x.sum ∧ x.sum ≤ 20 := by have := sum_bd h.2; have := h.1; omega
def sumLt (x y : List Int) : Bool := decide (x.sum < y.sum)
theorem n_cmp {x y : List Int} (hx : Vec5 x) (hy : Vec5 y) : m_impl_roots_1 x y = some (x.sum - y.sum) := by
  have h1 := hx.sum
  have h2 := hy.sum
  unfold m_impl_roots_1
  rw [n_sumOf hx.2 (by have := hx.1; omega), Option.bind_some, n_sumOf hy.2 (by have := hy.1; omega), Option.bind_some, wr_sm (by omega)]
theorem at_mid {α : Type} {u T : List α} {p : α} : atL (u ++ p :: T) (u.length : Int) = some p := by simp [atL]
theorem at_mid1 {α : Type} {u T : List α} {p x : α} : atL (u ++ p :: x :: T) ((u.length + 1 : Nat) : Int) = some x := by
  have := at_mid (u := u ++ [p]) (p := x) (T := T)
  simpa using this
theorem set_mid {α : Type} {u T : List α} {p q : α} : (u ++ p :: T).set u.length q = u ++ q :: T := by simp
theorem set_mid1 {α : Type} {u T : List α} {p x q : α} : (u ++ p :: x :: T).set (u.length + 1) q = u ++ p :: q :: T := by simp
theorem n_insInner {x : List Int} (hx : Vec5 x) (R : List (List Int)) : ∀ ps acc : List (List Int), (∀ p ∈ ps, Vec5 p) → ps.length ≤ 1000 → Lp (m_slices_insertionSortCmpFunc_Lint_L2 0) (ps.reverse ++ x :: (acc ++ R), (ps.length : Int)) = some (insR sumLt x ps acc ++ R)
  | [], acc, _, _ => by
    refine Lp_stop ?_
    unfold m_slices_insertionSortCmpFunc_Lint_L2
    simp [insR]
  | p :: ps, acc, hp, hl => by
    have hpv := hp p (by simp)
    have hl' : ps.length + 1 ≤ 1000 := by simpa using hl
    have e1 : (p :: ps).reverse ++ x :: (acc ++ R) = ps.reverse ++ p :: x :: (acc ++ R) := by simp
    have hlen : ps.reverse.length = ps.length := by simp
    have a1 : atL (ps.reverse ++ p :: x :: (acc ++ R)) ((ps.length + 1 : Nat) : Int) = some x := by rw [← hlen]; exact at_mid1
    have a2 : atL (ps.reverse ++ p :: x :: (acc ++ R)) (ps.length : Int) = some p := by rw [← hlen]; exact at_mid
    have hwr : wr (((ps.length + 1 : Nat) : Int) - 1) = (ps.length : Int) := by rw [wr_sm (by omega)]; omega
    have hbody : m_slices_insertionSortCmpFunc_Lint_L2 0 ((p :: ps).reverse ++ x :: (acc ++ R), ((p :: ps).length : Int)) = some (if sumLt x p = true then .inl (ps.reverse ++ x :: ((p :: acc) ++ R), (ps.length : Int)) else .inr ((p :: ps).reverse ++ x :: (acc ++ R))) := by
      unfold m_slices_insertionSortCmpFunc_Lint_L2
      simp only
      rw [List.length_cons, e1, decide_eq_true (by omega), cond_true, a1, Option.bind_some, hwr, a2, Option.bind_some, n_cmp hx hpv, Option.bind_some]
      simp only [Option.bind_some]
      by_cases c : x.sum < p.sum
      · rw [decide_eq_true (by omega), cond_true, if_pos (by simp [sumLt, c])]
        have s1 : (ps.reverse ++ p :: x :: (acc ++ R)).set ((ps.length + 1 : Nat) : Int).toNat p = ps.reverse ++ p :: p :: (acc ++ R) := by rw [Int.toNat_natCast, ← hlen]; exact set_mid1
        rw [s1]
        have a3 : atL (ps.reverse ++ p :: p :: (acc ++ R)) (ps.length : Int) = some p := by rw [← hlen]; exact at_mid
        rw [a3, Option.bind_some]
        have s2 : (ps.reverse ++ p :: p :: (acc ++ R)).set ((ps.length : Nat) : Int).toNat x = ps.reverse ++ x :: p :: (acc ++ R) := by rw [Int.toNat_natCast, ← hlen]; exact set_mid
        rw [s2]
        rfl
      · rw [decide_eq_false (by omega), cond_false, if_neg (by simp [sumLt, c])]
    by_cases c : sumLt x p = true
    · rw [if_pos c] at hbody
      rw [Lp_step hbody, n_insInner hx R ps (p :: acc) (fun q hq => hp q (by simp [hq])) (by omega)]
      simp only [insR, if_pos c]
    · rw [if_neg c] at hbody
      rw [Lp_stop hbody]
      simp only [insR, if_neg c]
      simp
theorem n_insSort {A : List (List Int)} (hA : ∀ x ∈ A, Vec5 x) (hl : A.length ≤ 1000) : m_slices_insertionSortCmpFunc_Lint A 0 (A.length : Int) = some (sortB sumLt A) := by
  unfold m_slices_insertionSortCmpFunc_Lint
  cases A with
  | nil =>
    rw [Lp_stop (r := ([] : List (List Int)))]
    · rfl
    · unfold m_slices_insertionSortCmpFunc_Lint_L1
      rw [wr_sm (by omega)]; rfl
  | cons a A =>
    have h1 : wr (0 + 1) = ((0 + 1 : Nat) : Int) := by rw [wr_sm (by omega)]; rfl
    simp only [List.length_cons] at hl
    rw [Lp_go (s := (a :: A, wr (0 + 1))) (r := sortB sumLt (a :: A)) (fun k => (sortB sumLt ((a :: A).take (k + 1)) ++ (a :: A).drop (k + 1), ((k + 1 : Nat) : Int))) A.length (by rw [h1]; rfl) (fun k hk => ?_) (fun _ => ?_), Option.bind_some]
    · unfold m_slices_insertionSortCmpFunc_Lint_L1
      simp only
      have hk1 : k + 1 < (a :: A).length := by simp; omega
      obtain ⟨hsl, hsm⟩ := sortB_spec sumLt ((a :: A).take (k + 1))
      have hSl : (sortB sumLt ((a :: A).take (k + 1))).length = k + 1 := by rw [hsl]; simp; omega
      generalize hS : sortB sumLt ((a :: A).take (k + 1)) = S at *
      rw [List.drop_eq_getElem_cons hk1]
      generalize hx : (a :: A)[k + 1] = x
      have hxA : x ∈ a :: A := by rw [← hx]; exact List.getElem_mem hk1
      have hin := n_insInner (hA x hxA) ((a :: A).drop (k + 1 + 1)) S.reverse [] (fun p hp => hA p (List.mem_of_mem_take ((hsm p).1 (by simpa using hp)))) (by simp; omega)
      rw [List.reverse_reverse, List.length_reverse, hSl, List.nil_append] at hin
      rw [dlt hk1, cond_true, hin, Option.bind_some, wr_suc hk1 (by simp; omega)]
      have e : sortB sumLt ((a :: A).take (k + 1 + 1)) = insB sumLt x S := by
        rw [List.take_succ_eq_append_getElem hk1, sortB_snoc, hS, hx]
      rw [e]
      rfl
    · unfold m_slices_insertionSortCmpFunc_Lint_L1
      simp only
      rw [List.length_cons, dnl (Nat.le_refl _), cond_false, List.take_of_length_le (by simp), List.drop_of_length_le (by simp), List.append_nil]
theorem n_insNone (l : List (List Int)) : m_slices_insertionSortCmpFunc_Lint l 20 20 = some l := by
  unfold m_slices_insertionSortCmpFunc_Lint
  rw [Lp_stop (r := l)]
  · rfl
  · unfold m_slices_insertionSortCmpFunc_Lint_L1
    simp only
    rw [wr_sm (by omega)]; rfl
theorem n_sortStable {A : List (List Int)} (hA : ∀ x ∈ A, Vec5 x) (hl : A.length ≤ 20) : m_slices_SortStableFunc_LLint_Lint A = some (sortB sumLt A) := by
  have hS := (sortB_spec sumLt A).1
  have hst : m_slices_stableCmpFunc_Lint A (A.length : Int) = some (sortB sumLt A) := by
    unfold m_slices_stableCmpFunc_Lint
    have hL2 : Lp (m_slices_stableCmpFunc_Lint_L2 (A.length : Int)) 20 = some () := by
      refine Lp_stop ?_
      unfold m_slices_stableCmpFunc_Lint_L2
      rw [decide_eq_false (by omega), cond_false]
    by_cases c : A.length = 20
    · have b1 : m_slices_stableCmpFunc_Lint_L1 (A.length : Int) (A, 0, 20) = some (.inl (sortB sumLt A, 20, 40)) := by
        unfold m_slices_stableCmpFunc_Lint_L1
        simp only
        have := n_insSort hA (by omega)
        rw [c] at this
        rw [decide_eq_true (by omega), cond_true]
        rw [show m_slices_insertionSortCmpFunc_Lint A 0 20 = some (sortB sumLt A) from this, Option.bind_some, decide_eq_true hS, cond_true, wr_sm (by omega)]
        rfl
      have b2 : m_slices_stableCmpFunc_Lint_L1 (A.length : Int) (sortB sumLt A, 20, 40) = some (.inr (sortB sumLt A, 20)) := by
        unfold m_slices_stableCmpFunc_Lint_L1
        simp only
        rw [decide_eq_false (by omega), cond_false]
      rw [Lp_step b1, Lp_stop b2, Option.bind_some]
      simp only
      rw [show ((A.length : Nat) : Int) = 20 by omega, n_insNone, Option.bind_some, decide_eq_true rfl, cond_true]
      rw [show ((A.length : Nat) : Int) = 20 by omega] at hL2
      rw [hL2, Option.bind_some]
    · have b1 : m_slices_stableCmpFunc_Lint_L1 (A.length : Int) (A, 0, 20) = some (.inr (A, 0)) := by
        unfold m_slices_stableCmpFunc_Lint_L1
        simp only
        rw [decide_eq_false (by omega), cond_false]
      rw [Lp_stop b1, Option.bind_some]
      simp only
      rw [n_insSort hA (by omega), Option.bind_some, decide_eq_true hS, cond_true, hL2, Option.bind_some]
  unfold m_slices_SortStableFunc_LLint_Lint
  rw [hst, Option.bind_some, decide_eq_true hS, cond_true]

/-! ## spec: insertion from behind -/
def lessR (x y : List Int) : Bool := decide (x.sum < y.sum) || (decide (x.sum = y.sum) && lexB x y)
theorem n_lex {x y : List Int} (h : x.length = y.length) (hl : x.length ≤ 1000) : ∀ d s : Nat, s + d = x.length → (Option.bind (Lp (m_spec_l20Less_L2 x y) (s : Int)) fun z => Sum.elim (fun _ => some false) (fun b => some b) z) = some (lexB (x.drop s) (y.drop s))
  | 0, s, hs => by
    have : m_spec_l20Less_L2 x y (s : Int) = some (.inr (.inl ())) := by
      unfold m_spec_l20Less_L2
      rw [dnl (by omega), cond_false]
    rw [Lp_stop this, List.drop_of_length_le (by omega)]
    simp [lexB]
  | d + 1, s, hs => by
    have hx : s < x.length := by omega
    have hy : s < y.length := by omega
    have hb : m_spec_l20Less_L2 x y (s : Int) = some (if x[s] = y[s] then .inl ((s + 1 : Nat) : Int) else .inr (.inr (decide (x[s] < y[s])))) := by
      unfold m_spec_l20Less_L2
      rw [dlt hx, cond_true, atL_nat hx, Option.bind_some, atL_nat hy, Option.bind_some]
      by_cases c : x[s] = y[s]
      · rw [decide_eq_true c, Bool.not_true, cond_false, if_pos c, wr_suc hx (by omega)]
      · rw [decide_eq_false c, Bool.not_false, cond_true, if_neg c]
        simp only [Option.bind_some]
    rw [List.drop_eq_getElem_cons hx, List.drop_eq_getElem_cons hy]
    by_cases c : x[s] = y[s]
    · rw [if_pos c] at hb
      rw [Lp_step hb, n_lex h hl d (s + 1) (by omega)]
      simp [lexB, c]
    · rw [if_neg c] at hb
      rw [Lp_stop hb]
      simp [lexB, c]
theorem gx_drop0 (x : List Int) {k : Nat} (h : k < x.length) : gx x k = x[k] := by simp [gx, h]
theorem n_less {x y : List Int} (hx : Vec5 x) (hy : Vec5 y) (h : x.length = y.length) : m_spec_l20Less x y = some (lessR x y) := by
  have l5 := hx.1
  unfold m_spec_l20Less
  have hbd : ∀ z : List Int, Vec5 z → ∀ k : Nat, -(4 * (k : Int)) ≤ sumN k (gx z) ∧ sumN k (gx z) ≤ 4 * k := fun z hz k => sumN_bd fun i _ => by
    rcases Nat.lt_or_ge i z.length with h' | h'
    · have := hz.2 _ (mem_gx h'); omega
    · unfold gx; rw [List.getElem?_eq_none h']; simp
  have hg : ∀ z : List Int, Vec5 z → ∀ k : Nat, 0 ≤ gx z k ∧ gx z k ≤ 4 := fun z hz k => by
    rcases Nat.lt_or_ge k z.length with h' | h'
    · exact hz.2 _ (mem_gx h')
    · unfold gx; rw [List.getElem?_eq_none h']; simp
  rw [Lp_go (s := ((0 : Int), (0 : Int), (0 : Int))) (r := (x.sum, y.sum)) (fun k => (sumN k (gx x), sumN k (gx y), (k : Int))) x.length rfl (fun k hk => ?_) (fun _ => ?_), Option.bind_some]
  · simp only
    by_cases c : x.sum = y.sum
    · rw [decide_eq_true c, Bool.not_true, cond_false]
      refine (n_lex h (by omega) x.length 0 (by omega)).trans ?_
      simp [lessR, c]
    · rw [decide_eq_false c, Bool.not_false, cond_true]
      simp [lessR, c]
  · unfold m_spec_l20Less_L1
    simp only
    have h1 := hbd x hx k
    have h2 := hbd y hy k
    have h3 := hg x hx k
    have h4 := hg y hy k
    rw [dlt hk, cond_true, at_gx hk, Option.bind_some, at_gx (by omega), Option.bind_some, wr_sm (by omega), wr_sm (by omega), wr_suc hk (by omega)]
    rfl
  · unfold m_spec_l20Less_L1
    simp only
    rw [dnl (Nat.le_refl _), cond_false, sum_sumN, sum_sumN, h]
theorem n_insSpec {C : List (List Int)} {n : Nat} {i : Nat} {x : List Int} (hx : Vec5 x) (hxn : x.length = n) (hi : atL C (i : Int) = some x) {out : List (List Int)} (ho : ∀ p ∈ out, Vec5 p ∧ p.length = n) (hl : out.length ≤ 1000) : ∀ ps acc : List (List Int), ps.reverse ++ acc = out →
    ∃ k : Nat, Lp (m_spec_PositiveRoots_L5 (out, (i : Int)) C) (ps.length : Int) = some (k : Int) ∧ k ≤ out.length ∧ out.take k ++ x :: out.drop k = insR lessR x ps acc
  | [], acc, e => by
    refine ⟨0, Lp_stop ?_, Nat.zero_le _, by simp only [insR]; rw [← e]; simp⟩
    unfold m_spec_PositiveRoots_L5
    simp
  | p :: ps, acc, e => by
    have e' : ps.reverse ++ (p :: acc) = out := by rw [← e]; simp
    have hlen : out.length = ps.length + acc.length + 1 := by rw [← e']; simp; omega
    have hp := ho p (by rw [← e']; simp)
    have hwr : wr (((p :: ps).length : Int) - 1) = (ps.length : Int) := by rw [List.length_cons, wr_sm (by omega)]; omega
    have hat : atL out (ps.length : Int) = some p := by rw [← e', ← List.length_reverse]; exact at_mid
    have hb : m_spec_PositiveRoots_L5 (out, (i : Int)) C ((p :: ps).length : Int) = some (if lessR x p = true then .inl (ps.length : Int) else .inr ((p :: ps).length : Int)) := by
      unfold m_spec_PositiveRoots_L5
      simp only
      rw [decide_eq_true (by rw [List.length_cons]; omega), cond_true, hi, Option.bind_some, hwr, hat, Option.bind_some, n_less hx hp.1 (by rw [hxn, hp.2]), Option.bind_some]
      cases lessR x p <;> rfl
    by_cases c : lessR x p = true
    · rw [if_pos c] at hb
      obtain ⟨k, h1, h2, h3⟩ := n_insSpec hx hxn hi ho hl ps (p :: acc) e'
      exact ⟨k, by rw [Lp_step hb]; exact h1, h2, by rw [h3]; simp only [insR, if_pos c]⟩
    · rw [if_neg c] at hb
      refine ⟨(p :: ps).length, Lp_stop hb, by rw [List.length_cons]; omega, ?_⟩
      simp only [insR, if_neg c]
      rw [← e]
      rw [List.take_left' (by simp), List.drop_left' (by simp)]
theorem n_sortSpec {C : List (List Int)} {n : Nat} (hC : ∀ x ∈ C, Vec5 x ∧ x.length = n) (hl : C.length ≤ 1000) : Lp (m_spec_PositiveRoots_L4 C) (([] : List (List Int)), 0) = some (sortB lessR C) := by
  refine Lp_go (fun k => (sortB lessR (C.take k), (k : Int))) C.length rfl (fun k hk => ?_) (fun _ => ?_)
  · unfold m_spec_PositiveRoots_L4
    simp only
    obtain ⟨hsl, hsm⟩ := sortB_spec lessR (C.take k)
    have hSl : (sortB lessR (C.take k)).length = k := by rw [hsl]; simp; omega
    have e : sortB lessR (C.take (k + 1)) = insB lessR C[k] (sortB lessR (C.take k)) := by rw [List.take_succ_eq_append_getElem hk, sortB_snoc]
    rw [e]
    generalize hS : sortB lessR (C.take k) = S at *
    have hx := hC C[k] (List.getElem_mem hk)
    obtain ⟨j, h1, h2, h3⟩ := n_insSpec (C := C) (i := k) hx.1 hx.2 (atL_nat hk) (out := S) (fun p hp => hC p (List.mem_of_mem_take ((hsm p).1 hp))) (by omega) S.reverse [] (by simp)
    rw [List.length_reverse] at h1
    rw [dlt hk, cond_true, h1, Option.bind_some, atL_nat hk]
    simp only [Option.bind_some]
    have f1 : List.take ((j : Int).toNat - (0 : Int).toNat) (List.drop (0 + (0 : Int).toNat) S) = S.take j := by simp
    have f2 : List.take (((S.length : Nat) : Int).toNat - (j : Int).toNat) (List.drop (0 + (j : Int).toNat) S) = S.drop j := by
      rw [Int.toNat_natCast, Int.toNat_natCast, Nat.zero_add, List.take_of_length_le (by simp)]
    rw [f1, f2]
    have g1 : (S.take j).length ≤ 1000 := by simp; omega
    have g2 : (S.drop j).length ≤ 1000 := by simp; omega
    rw [show (decide ((0 : Nat) ≤ 0) && (decide (0 ≤ (j : Int)) && decide ((j : Int) ≤ ((S.length : Nat) : Int)))) = true by simp [h2], cond_true, decide_eq_true (by simp; omega), cond_true, decide_eq_true (by simp; omega), cond_true]
    rw [show (decide (0 ≤ (j : Int)) && (decide ((j : Int) ≤ ((S.length : Nat) : Int)) && decide (((S.length : Nat) : Int) ≤ ((S.length : Nat) : Int)))) = true by simp [h2], cond_true, decide_eq_true (by simp; omega), cond_true, wr_suc hk (by omega)]
    congr 3
    unfold insB
    rw [← h3]
    simp
  · unfold m_spec_PositiveRoots_L4
    simp only
    rw [dnl (Nat.le_refl _), cond_false, List.take_length]
end Go.Proofs.Ytihbegpgoekbdaa
end

section
set_option linter.unusedVariables false
set_option linter.unusedSimpArgs false
/-
  Positive roots: spec and impl answer the same list.
-/
namespace Go.Proofs.Ytihbegpgoekbdaa
open Go.RowKit
set_option linter.unusedVariables false

/-! ## order -/
theorem lexB_trans : ∀ {x y z : List Int}, lexB x y = true → lexB y z = true → lexB x z = true
  | [], y, z, h, _ => by simp [lexB] at h
  | a :: x, [], z, h, _ => by simp [lexB] at h
  | a :: x, b :: y, [], _, h => by simp [lexB] at h
  | a :: x, b :: y, c :: z, h, k => by
    simp only [lexB, Bool.or_eq_true, Bool.and_eq_true, decide_eq_true_eq] at h k ⊢
    rcases h with h | ⟨h, h'⟩ <;> rcases k with k | ⟨k, k'⟩
    · exact .inl (by omega)
    · exact .inl (by omega)
    · exact .inl (by omega)
    · exact .inr ⟨by omega, lexB_trans h' k'⟩
theorem lexB_total : ∀ {x y : List Int}, x.length = y.length → x ≠ y → lexB x y = true ∨ lexB y x = true
  | [], [], _, h => absurd rfl h
  | [], _ :: _, h, _ => by simp at h
  | _ :: _, [], h, _ => by simp at h
  | a :: x, b :: y, h, hne => by
    simp only [lexB, Bool.or_eq_true, Bool.and_eq_true, decide_eq_true_eq]
    by_cases e : a = b
    · subst e
      rcases lexB_total (x := x) (y := y) (by simpa using h) (fun e => hne (by rw [e])) with h1 | h1
      · exact .inl (.inr ⟨rfl, h1⟩)
      · exact .inr (.inr ⟨rfl, h1⟩)
    · rcases Int.lt_or_gt_of_ne e with h1 | h1
      · exact .inl (.inl h1)
      · exact .inr (.inl h1)
def LessP (x y : List Int) : Prop := lessR x y = true
theorem lessP_iff {x y : List Int} : LessP x y ↔ x.sum < y.sum ∨ (x.sum = y.sum ∧ lexB x y = true) := by simp [LessP, lessR]
theorem lessP_irr (x : List Int) : ¬ LessP x x := by rw [lessP_iff, lexB_irr]; simp
theorem lessP_trans (x y z : List Int) (h : LessP x y) (k : LessP y z) : LessP x z := by
  rw [lessP_iff] at *
  rcases h with h | ⟨h, h'⟩ <;> rcases k with k | ⟨k, k'⟩
  · exact .inl (by omega)
  · exact .inl (by omega)
  · exact .inl (by omega)
  · exact .inr ⟨by omega, lexB_trans h' k'⟩
theorem sortB_sorted {α : Type} {lt : α → α → Bool} {R : α → α → Prop} (hT : ∀ a b c, R a b → R b c → R a c) {A : List α} (hA : A.Pairwise fun p x => (lt x p = true → R x p) ∧ (lt x p = false → R p x)) : (sortB lt A).Pairwise R := by
  have key : ∀ k, k ≤ A.length → (sortB lt (A.take k)).Pairwise R := by
    intro k
    induction k with
    | zero => intro _; simp [sortB]
    | succ k ih =>
      intro hk
      have hk' : k < A.length := by omega
      rw [List.take_succ_eq_append_getElem hk', sortB_snoc]
      have hpr : ∀ p ∈ sortB lt (A.take k), (lt A[k] p = true → R A[k] p) ∧ (lt A[k] p = false → R p A[k]) := by
        intro p hp
        have h1 := ((sortB_spec lt (A.take k)).2 p).1 hp
        obtain ⟨j, hj, rfl⟩ := List.mem_iff_getElem.1 h1
        have hjk : j < k := by simp at hj; omega
        have := List.pairwise_iff_getElem.1 hA j k (by omega) hk' hjk
        simpa using this
      exact insB_sorted hT (ih (by omega)) (fun p hp => (hpr p hp).1) (fun p hp => (hpr p hp).2)
  have := key A.length (Nat.le_refl _)
  rwa [List.take_length] at this

/-! ## the roots of a quiver of finite kind -/
structure Fin1 (q : Qv) (n : Nat) : Prop where
  Q : QOk q n
  F : GForm n (matQ q n)
  G : goodT n (matQ q n) = true
def RtQ (q : Qv) (n : Nat) (x : List Int) : Prop := Rt0 n (matQ q n) x
theorem Fin1.vec {q : Qv} {n : Nat} (H : Fin1 q n) {x : List Int} (r : RtQ q n x) : Vec5 x ∧ x.length = n := by
  have h := (goodT_parts H.G).2
  have h1 := r.mem H.F h.1
  exact ⟨⟨by rw [r.len]; exact H.Q.n5, fun a ha => ⟨r.nn a ha, h.2.2 x h1 a ha⟩⟩, r.len⟩
theorem Fin1.num {q : Qv} {n : Nat} (H : Fin1 q n) {l : List (List Int)} (hn : l.Nodup) (h : ∀ x ∈ l, RtQ q n x) : l.length ≤ 20 :=
  Nat.le_trans (nodup_len hn fun x hx => (h x hx).mem H.F (goodT_parts H.G).2.1) (goodT_parts H.G).2.2.1
theorem Vec5.sm {x : List Int} (h : Vec5 x) : Sm x := fun a ha => by have := h.2 a ha; omega
theorem rt_iff {q : Qv} {n : Nat} (Q : QOk q n) (x : List Int) : RtQ q n x ↔ x.length = n ∧ (∀ a ∈ x, 0 ≤ a) ∧ eul q n x x = 1 := by
  constructor
  · intro r
    have := r.two
    rw [qf_eul Q] at this
    exact ⟨r.len, r.nn, by omega⟩
  · rintro ⟨h1, h2, h3⟩
    exact ⟨h1, h2, by rw [qf_eul Q]; omega⟩
/-- impl's list ahead of the sort. -/
def listA (q : Qv) (n : Nat) : List (List Int) := (boxesL (List.replicate n 4)).filter fun x => decide (eul q n x x = 1)
theorem gx_rep {n i : Nat} (h : i < n) (z : Int) : gx (List.replicate n z) i = z := by simp [gx, h]
theorem box_mem {n : Nat} {x : List Int} : x ∈ boxesL (List.replicate n 4) ↔ x.length = n ∧ ∀ a ∈ x, 0 ≤ a ∧ a ≤ 4 := by
  rw [mem_boxes, List.length_replicate]
  constructor
  · rintro ⟨h1, h2⟩
    refine ⟨h1, fun a ha => ?_⟩
    obtain ⟨i, hi, rfl⟩ := List.mem_iff_getElem.1 ha
    have := h2 i (by omega)
    rw [gx_rep (by omega), gx_drop0 x hi] at this
    have h4 : (4 : Int).toNat = 4 := rfl
    omega
  · rintro ⟨h1, h2⟩
    refine ⟨h1, fun i hi => ?_⟩
    have := h2 _ (mem_gx (x := x) (i := i) (by omega))
    rw [gx_rep hi]
    have h4 : (4 : Int).toNat = 4 := rfl
    omega
theorem mem_listA {q : Qv} {n : Nat} (H : Fin1 q n) (x : List Int) : x ∈ listA q n ↔ RtQ q n x := by
  unfold listA
  rw [List.mem_filter, box_mem, decide_eq_true_eq, rt_iff H.Q]
  constructor
  · rintro ⟨⟨h1, h2⟩, h3⟩; exact ⟨h1, fun a ha => (h2 a ha).1, h3⟩
  · rintro ⟨h1, h2, h3⟩
    have hv := H.vec ((rt_iff H.Q x).2 ⟨h1, h2, h3⟩)
    exact ⟨⟨h1, hv.1.2⟩, h3⟩
theorem Fl_filter {f : List Int → List (List Int) → Option (List (List Int) ⊕ Unit)} (p : List Int → Bool) : ∀ (l acc : List (List Int)), (∀ x ∈ l, ∀ acc : List (List Int), acc.length ≤ 4000 → f x acc = some (.inl (if p x = true then acc ++ [x] else acc))) → acc.length + l.length ≤ 4000 → Fl f l acc = some (.inl (acc ++ l.filter p))
  | [], acc, _, _ => by simp [Fl]
  | x :: l, acc, h, hl => by
    simp only [List.length_cons] at hl
    simp only [Fl]
    rw [h x (by simp) acc (by omega)]
    simp only
    rw [Fl_filter p l (if p x = true then acc ++ [x] else acc) (fun y hy => h y (by simp [hy])) (by split <;> (try simp) <;> omega)]
    by_cases c : p x = true
    · simp [c]
    · simp [c]
theorem n_implRoots {q : Qv} {n : Nat} (H : Fin1 q n) : m_impl_roots q = some (sortB sumLt (listA q n)) := by
  have Q := H.Q
  have n5 := Q.n5
  have n1 := Q.n1
  unfold m_impl_roots
  have hn := boxes_num n (by omega)
  rw [Q.n0, decide_eq_true (by omega), decide_eq_true (by omega), Bool.and_self, cond_true, Int.toNat_natCast, box_ok n (by omega), cond_true]
  rw [Fl_filter (fun x => decide (eul q n x x = 1)) (boxesL (List.replicate n 4)) [] (fun x hx acc ha => ?_) (by simp; omega), Option.bind_some]
  · have hA : ∀ x ∈ listA q n, Vec5 x := fun x hx => (H.vec ((mem_listA H x).1 hx)).1
    have hnd : (listA q n).Nodup := (boxes_nodup _).filter _
    have hlen := H.num hnd fun x hx => (mem_listA H x).1 hx
    show (Option.bind (m_slices_SortStableFunc_LLint_Lint (listA q n)) fun v9 => bif decide (v9.length = (listA q n).length) then some v9 else none) = _
    rw [n_sortStable hA hlen, Option.bind_some, decide_eq_true (sortB_spec sumLt _).1, cond_true]
  · obtain ⟨h1, h2⟩ := box_mem.1 hx
    have hv : Vec5 x := ⟨by omega, h2⟩
    unfold m_impl_roots_L1
    rw [n_implEul Q h1 h1 hv.sm hv.sm, Option.bind_some]
    by_cases c : eul q n x x = 1
    · rw [decide_eq_true c, cond_true, if_pos rfl]
      unfold m_Clone
      rw [decide_eq_true (by omega), cond_true, Option.bind_some, decide_eq_true (by omega), cond_true]
    · rw [decide_eq_false c, cond_false, if_neg (by simp)]
theorem sorted_implRoots {q : Qv} {n : Nat} : (sortB sumLt (listA q n)).Pairwise LessP := by
  refine sortB_sorted lessP_trans ?_
  refine (List.Pairwise.filter _ (boxes_lex _)).imp fun {p x} h => ?_
  rw [lessP_iff, lessP_iff]
  simp only [sumLt, decide_eq_true_eq, decide_eq_false_iff_not]
  refine ⟨fun h1 => .inl h1, fun h1 => ?_⟩
  by_cases e : p.sum = x.sum
  · exact .inr ⟨e, h⟩
  · exact .inl (by omega)

/-! ## spec's closure -/
theorem n_reflect {q : Qv} {n : Nat} (Q : QOk q n) {x : List Int} (hx : Vec5 x) (hxn : x.length = n) {v : Nat} (hv : v < n) : m_spec_l20Reflect (matQ q n) x (v : Int) = some (x.set v (gx x v + -(mv n (rowsF (matQ q n)) (gx x) v))) := by
  have n5 := Q.n5
  have m6 := Q.m6
  have hbd : ∀ i, -48 ≤ mF q q.src.length v i * gx x i ∧ mF q q.src.length v i * gx x i ≤ 48 := by
    intro i
    have h1 := mF_bd q m6 v i
    have h2 : 0 ≤ gx x i ∧ gx x i ≤ 4 := by
      rcases Nat.lt_or_ge i x.length with h' | h'
      · exact hx.2 _ (mem_gx h')
      · unfold gx; rw [List.getElem?_eq_none h']; simp
    have h3 : gx x i = 0 ∨ gx x i = 1 ∨ gx x i = 2 ∨ gx x i = 3 ∨ gx x i = 4 := by omega
    rcases h3 with h3 | h3 | h3 | h3 | h3 <;> rw [h3] <;> omega
  have hmv : mv n (rowsF (matQ q n)) (gx x) v = sumN n fun i => mF q q.src.length v i * gx x i := sumN_congr fun i hi => by rw [show rowsF (matQ q n) v i = mF q q.src.length v i from rowsF_matL hv hi]
  have hs := sumN_bd (n := n) (f := fun i => mF q q.src.length v i * gx x i) (B := 48) fun i _ => hbd i
  unfold m_spec_l20Reflect
  rw [decide_eq_true (by simp; omega), cond_true, Lp_go (s := ((0 : Int), (0 : Int))) (r := sumN n fun i => mF q q.src.length v i * gx x i) (fun k => (sumN k fun i => mF q q.src.length v i * gx x i, (k : Int))) n rfl (fun k hk => ?_) (fun _ => ?_), Option.bind_some]
  · have hvl : v < x.length := by omega
    rw [List.nil_append, at_gx hvl]
    simp only [Option.bind_some]
    have h2 := hx.2 _ (mem_gx hvl)
    rw [hmv, wr_sm (by omega), Int.toNat_natCast]
    rfl
  · unfold m_spec_l20Reflect_L1
    simp only
    have h2 := sumN_bd (n := k) (f := fun i => mF q q.src.length v i * gx x i) (B := 48) fun i _ => hbd i
    have h3 := hbd k
    rw [hxn, dlt hk, cond_true, show atL (matQ q n) (v : Int) = some (rowL n (mF q q.src.length v)) from rowL_at hv, Option.bind_some, rowL_at hk, Option.bind_some, at_gx (by omega), Option.bind_some, wr_sm (x := mF q q.src.length v k * gx x k) (by omega), wr_sm (by omega), wr_suc hk (by omega)]
    rfl
  · unfold m_spec_l20Reflect_L1
    simp only
    rw [hxn, dnl (Nat.le_refl _), cond_false]
def reflL (q : Qv) (n : Nat) (x : List Int) (v : Nat) : List Int := x.set v (gx x v + -(mv n (rowsF (matQ q n)) (gx x) v))
theorem refl_root {q : Qv} {n : Nat} (H : Fin1 q n) {x : List Int} (r : RtQ q n x) {v : Nat} (hv : v < n) (h : 0 ≤ gx x v + -(mv n (rowsF (matQ q n)) (gx x) v)) : RtQ q n (reflL q n x v) := by
  have hvl : v < x.length := by rw [r.len]; exact hv
  refine ⟨by unfold reflL; rw [List.length_set]; exact r.len, fun a ha => ?_, ?_⟩
  · rcases mem_set_cases ha with rfl | ha
    · exact h
    · exact r.nn a ha
  · unfold reflL
    rw [gx_inc _ hvl, qf_add _ _ _ hv H.F.sym, r.two, H.F.diag v hv]
    generalize mv n (rowsF (matQ q n)) (gx x) v = s
    grind
def Clos (q : Qv) (n : Nat) (all : List (List Int)) (x : List Int) (v : Nat) : Prop := 0 ≤ gx x v + -(mv n (rowsF (matQ q n)) (gx x) v) → reflL q n x v ∈ all
def AllRt (q : Qv) (n : Nat) (all : List (List Int)) : Prop := all.Nodup ∧ ∀ x ∈ all, RtQ q n x
theorem n_l20Has {l : List (List Int)} {x : List Int} (hl : ∀ r ∈ l, bI r) (hn : l.length ≤ 1000) : m_spec_l20Has l x = some (decide (x ∈ l)) := by
  unfold m_spec_l20Has
  rw [Lp_any (fun k => decide (l[k]?.getD [] = x)) true (n := l.length) (by omega) (fun k hk => ?_) (fun _ => ?_), Option.bind_some]
  · have e : ((List.range l.length).any fun k => decide (l[k]?.getD [] = x)) = decide (x ∈ l) := by
      rw [Bool.eq_iff_iff, List.any_eq_true, decide_eq_true_eq]
      constructor
      · rintro ⟨k, hk, h⟩
        have hk' := List.mem_range.1 hk
        rw [decide_eq_true_eq, List.getElem?_eq_getElem hk', Option.getD_some] at h
        rw [← h]; exact List.getElem_mem hk'
      · intro h
        obtain ⟨k, hk, rfl⟩ := List.mem_iff_getElem.1 h
        exact ⟨k, List.mem_range.2 hk, by simp [hk]⟩
    rw [e]
    cases decide (x ∈ l) <;> rfl
  · unfold m_spec_l20Has_L1
    rw [dlt hk, cond_true, atG [] hk, Option.bind_some, n_l6Same (hl _ (by rw [List.getElem?_eq_getElem hk]; exact List.getElem_mem hk)), Option.bind_some]
    cases decide (l[k]?.getD [] = x) <;> rfl
  · unfold m_spec_l20Has_L1
    rw [dnl (Nat.le_refl _), cond_false]
theorem n_specInner {q : Qv} {n : Nat} (H : Fin1 q n) {all0 : List (List Int)} {i : Nat} {x : List Int} (hi : atL all0 (i : Int) = some x) (h0 : AllRt q n all0) :
    ∃ r, Lp (m_spec_PositiveRoots_L3 q (matQ q n) (all0, (i : Int))) (all0, 0) = some r ∧ (all0 <+: r ∧ AllRt q n r ∧ ∀ u, u < n → Clos q n r x u) := by
  have Q := H.Q
  have n5 := Q.n5
  have hxr : RtQ q n x := h0.2 x (List.mem_of_getElem? (atL_get hi))
  have hxv := H.vec hxr
  refine Lp_meas (fun s => ∃ w : Nat, s.2 = (w : Int) ∧ w ≤ n ∧ all0 <+: s.1 ∧ AllRt q n s.1 ∧ ∀ u, u < w → Clos q n s.1 x u) (fun s => n - s.2.toNat) _ ⟨0, rfl, Nat.zero_le _, List.prefix_refl _, h0, fun u hu => by omega⟩ ?_
  rintro ⟨all, sv⟩ ⟨w, hw, hwn, hpre, hall, hcl⟩
  simp only at hw hpre hall hcl
  subst hw
  have hlen := H.num hall.1 hall.2
  by_cases hlt : w < n
  · left
    have hat : atL all (i : Int) = some x := by
      have h1 := atL_get hi
      obtain ⟨t, rfl⟩ := hpre
      have h2 := atL_lt hi
      rw [Int.toNat_natCast] at h1 h2
      simp only [atL]
      rw [decide_eq_true (by omega), cond_true, Int.toNat_natCast, List.getElem?_append_left h2]
      exact h1
    have hrl : (reflL q n x w).length = n := by unfold reflL; rw [List.length_set]; exact hxv.2
    have hgy : gx (reflL q n x w) w = gx x w + -(mv n (rowsF (matQ q n)) (gx x) w) := by unfold reflL; rw [gx_set _ (by omega), if_pos rfl]
    have hb : m_spec_PositiveRoots_L3 q (matQ q n) (all0, (i : Int)) (all, (w : Int)) = some (.inl (if 0 ≤ gx x w + -(mv n (rowsF (matQ q n)) (gx x) w) ∧ ¬ reflL q n x w ∈ all then all ++ [reflL q n x w] else all, ((w + 1 : Nat) : Int))) := by
      unfold m_spec_PositiveRoots_L3
      simp only
      rw [Q.n0, dlt hlt, cond_true, hat, Option.bind_some, n_reflect Q hxv.1 hxv.2 hlt, Option.bind_some]
      change (Option.bind (atL (reflL q n x w) (w : Int)) fun v13 => _) = _
      rw [at_gx (by omega), Option.bind_some, hgy, wr_suc hlt (by omega)]
      by_cases c : 0 ≤ gx x w + -(mv n (rowsF (matQ q n)) (gx x) w)
      · have hy := refl_root H hxr hlt c
        have hyv := H.vec hy
        rw [decide_eq_true c, cond_true]
        change (Option.bind (m_spec_l20Has all (reflL q n x w)) fun v15 => _) = _
        rw [n_l20Has (fun r hr => by have := (H.vec (hall.2 r hr)).1.1; unfold bI; omega) (by omega), Option.bind_some]
        by_cases c2 : reflL q n x w ∈ all
        · rw [decide_eq_true c2, Bool.not_true, cond_false, if_neg (by simp [c2])]
        · rw [decide_eq_false c2, Bool.not_false, cond_true, if_pos ⟨c, c2⟩]
          unfold m_spec_TitsForm
          change (Option.bind (Option.bind (m_spec_EulerForm q (reflL q n x w) (reflL q n x w)) fun v1 => some v1) fun v17 => _) = _
          rw [n_specEul Q hrl hrl hyv.1.sm hyv.1.sm, Option.bind_some, Option.bind_some, ((rt_iff Q _).1 hy).2.2, decide_eq_true rfl, cond_true, decide_eq_true (by omega), cond_true]
          rfl
      · rw [decide_eq_false c, cond_false, if_neg (by simp [c])]
    refine ⟨_, hb, ⟨w + 1, rfl, by omega, ?_, ?_, ?_⟩, by show n - ((w + 1 : Nat) : Int).toNat < n - (w : Int).toNat; omega⟩
    · simp only
      split
      · exact hpre.trans (List.prefix_append _ _)
      · exact hpre
    · simp only
      split
      · rename_i c
        refine ⟨?_, fun y hy => ?_⟩
        · rw [List.nodup_append]
          refine ⟨hall.1, by simp, fun a ha b hb => ?_⟩
          rw [List.mem_singleton] at hb
          subst hb
          rintro rfl
          exact c.2 ha
        · rcases List.mem_append.1 hy with hy | hy
          · exact hall.2 y hy
          · rw [List.mem_singleton] at hy
            subst hy
            exact refl_root H hxr hlt c.1
      · exact hall
    · intro u hu h
      simp only
      by_cases e : u = w
      · subst e
        split
        · simp
        · rename_i c
          exact Classical.byContradiction fun h2 => c ⟨h, h2⟩
      · have := hcl u (by omega) h
        split
        · simp [this]
        · exact this
  · right
    have : w = n := by omega
    subst this
    refine ⟨all, ?_, hpre, hall, hcl⟩
    unfold m_spec_PositiveRoots_L3
    simp only
    rw [Q.n0, dnl (Nat.le_refl _), cond_false]
theorem n_specOuter {q : Qv} {n : Nat} (H : Fin1 q n) {all0 : List (List Int)} (h0 : AllRt q n all0) :
    ∃ r, Lp (m_spec_PositiveRoots_L2 q (matQ q n)) (all0, 0) = some r ∧ (all0 <+: r ∧ AllRt q n r ∧ ∀ x ∈ r, ∀ u, u < n → Clos q n r x u) := by
  refine Lp_meas (fun s => ∃ k : Nat, s.2 = (k : Int) ∧ k ≤ s.1.length ∧ all0 <+: s.1 ∧ AllRt q n s.1 ∧ ∀ j (hj : j < s.1.length), j < k → ∀ u, u < n → Clos q n s.1 s.1[j] u) (fun s => 21 - s.2.toNat) _ ⟨0, rfl, Nat.zero_le _, List.prefix_refl _, h0, fun j _ hj => by omega⟩ ?_
  rintro ⟨all, sv⟩ ⟨k, hk, hkl, hpre, hall, hcl⟩
  simp only at hk hkl hpre hall hcl
  subst hk
  have hlen := H.num hall.1 hall.2
  by_cases hlt : k < all.length
  · left
    obtain ⟨r, g1, g2, g3, g4⟩ := n_specInner H (atL_nat hlt) hall
    have hrl := g2.length_le
    refine ⟨(r, ((k + 1 : Nat) : Int)), ?_, ⟨k + 1, rfl, by show k + 1 ≤ r.length; omega, hpre.trans g2, g3, ?_⟩, by show 21 - ((k + 1 : Nat) : Int).toNat < 21 - (k : Int).toNat; omega⟩
    · unfold m_spec_PositiveRoots_L2
      simp only
      rw [dlt hlt, cond_true, g1, Option.bind_some, wr_suc hlt (by omega)]
    · intro j hj hjk u hu h
      simp only at hj h ⊢
      obtain ⟨t, rfl⟩ := g2
      have hja : j < all.length := by omega
      have e : (all ++ t)[j] = all[j] := List.getElem_append_left hja
      rw [e] at h ⊢
      by_cases c : j = k
      · subst c; exact g4 u hu h
      · have := hcl j hja (by omega) u hu h
        simp [this]
  · right
    refine ⟨all, ?_, hpre, hall, fun x hx u hu => ?_⟩
    · unfold m_spec_PositiveRoots_L2
      simp only
      rw [dnl (by omega), cond_false]
    · obtain ⟨j, hj, rfl⟩ := List.mem_iff_getElem.1 hx
      exact hcl j hj (by omega) u hu
theorem clos_all {q : Qv} {n : Nat} (H : Fin1 q n) {C : List (List Int)} (hu : ∀ v, v < n → unitL n v ∈ C) (hc : ∀ x ∈ C, ∀ u, u < n → Clos q n C x u) : ∀ (h : Nat) {x : List Int}, RtQ q n x → x.sum = h + 1 → x ∈ C
  | 0, x, r, hs => by
    obtain ⟨v, hv, e⟩ := sum_unit r.nn (by omega)
    rw [r.len] at e hv
    rw [e]; exact hu v hv
  | h + 1, x, r, hs => by
    obtain ⟨v, hv, h1, h2⟩ := r.down H.F (by omega)
    have hvl : v < x.length := by rw [r.len]; exact hv
    have ih := clos_all H hu hc h h2 (by rw [sum_set _ hvl]; omega)
    have h3 : mv n (rowsF (matQ q n)) (gx (x.set v (gx x v + -1))) v = -1 := by
      rw [gx_inc _ hvl, mv_add _ _ _ _ hv, h1, H.F.diag v hv]; rfl
    have h4 : gx (x.set v (gx x v + -1)) v = gx x v + -1 := by rw [gx_set _ hvl, if_pos rfl]
    have h5 := r.nn _ (mem_gx hvl)
    have h6 := hc _ ih v hv (by rw [h3, h4]; omega)
    unfold reflL at h6
    rw [h3, h4, List.set_set] at h6
    have e : x.set v (gx x v + -1 + - -1) = x := by
      refine gx_ext (by simp) fun i _ => ?_
      rw [gx_set _ hvl]
      by_cases e : i = v
      · subst e; rw [if_pos rfl]; omega
      · rw [if_neg e]
    rwa [e] at h6
theorem unit_root {q : Qv} {n : Nat} (H : Fin1 q n) {v : Nat} (hv : v < n) : RtQ q n (unitL n v) := by
  have hz : gx (List.replicate n (0 : Int)) = fun _ => 0 := by
    funext i
    unfold gx
    rw [List.getElem?_replicate]
    split <;> simp
  have hvl : v < (List.replicate n (0 : Int)).length := by simpa using hv
  have e : unitL n v = (List.replicate n (0 : Int)).set v (gx (List.replicate n (0 : Int)) v + 1) := by rw [hz]; rfl
  refine ⟨by simp [unitL], fun a ha => ?_, ?_⟩
  · rcases mem_set_cases ha with rfl | ha
    · omega
    · rw [List.eq_of_mem_replicate ha]; omega
  · rw [e, gx_inc _ hvl, qf_add _ _ _ hv H.F.sym, H.F.diag v hv, hz]
    have h1 : mv n (rowsF (matQ q n)) (fun _ => 0) v = 0 := by
      unfold mv
      rw [sumN_congr (g := fun _ => 0) (fun i _ => by rw [Int.mul_zero]), sumN_zero]
    have h2 : qf n (rowsF (matQ q n)) (fun _ => 0) = 0 := by
      rw [qf_mv, sumN_congr (g := fun _ => 0) (fun i _ => by rw [Int.zero_mul]), sumN_zero]
    rw [h1, h2]; rfl
theorem units_nodup (n : Nat) : ((List.range n).map (unitL n)).Nodup := by
  rw [List.nodup_iff_pairwise_ne, List.pairwise_map]
  refine List.Pairwise.imp_of_mem (fun {a b} ha hb h e => ?_) (List.nodup_iff_pairwise_ne.1 List.nodup_range)
  have h1 : gx (unitL n a) a = 1 := by unfold unitL; rw [gx_set _ (by simpa using List.mem_range.1 ha), if_pos rfl]
  have h2 : gx (unitL n b) a = 0 := by unfold unitL; rw [gx_set _ (by simpa using List.mem_range.1 hb), if_neg h, gx_rep (List.mem_range.1 ha)]
  rw [e, h2] at h1
  cases h1
theorem n_specUnits {q : Qv} {n : Nat} (Q : QOk q n) : Lp (m_spec_PositiveRoots_L1 q) (([] : List (List Int)), 0) = some ((List.range n).map (unitL n)) := by
  have n5 := Q.n5
  refine Lp_go (fun k => ((List.range k).map (unitL n), (k : Int))) n rfl (fun k hk => ?_) (fun _ => ?_)
  · unfold m_spec_PositiveRoots_L1
    simp only
    rw [Q.n0, dlt hk, cond_true, decide_eq_true (by omega), decide_eq_true (by omega), Bool.and_self, cond_true, Int.toNat_natCast, atG 0 (by simpa using hk), Option.bind_some, decide_eq_true (by simp; omega), cond_true, wr_suc hk (by omega), List.range_succ, List.map_append, Int.toNat_natCast]
    rfl
  · unfold m_spec_PositiveRoots_L1
    simp only
    rw [Q.n0, dnl (Nat.le_refl _), cond_false]
/-- The roots, in order. -/
def rootsL (q : Qv) (n : Nat) : List (List Int) := sortB sumLt (listA q n)
theorem mem_rootsL {q : Qv} {n : Nat} (H : Fin1 q n) (x : List Int) : x ∈ rootsL q n ↔ RtQ q n x := by unfold rootsL; rw [(sortB_spec _ _).2, mem_listA H]
theorem rootsL_len {q : Qv} {n : Nat} (H : Fin1 q n) : (rootsL q n).length ≤ 20 := by
  unfold rootsL
  rw [(sortB_spec _ _).1]
  exact H.num ((boxes_nodup _).filter _) fun x hx => (mem_listA H x).1 hx
theorem n_specRoots {q : Qv} {n : Nat} (H : Fin1 q n) : (Option.bind (Lp (m_spec_PositiveRoots_L1 q) (([] : List (List Int)), 0)) fun y8 => Option.bind (Lp (m_spec_PositiveRoots_L2 q (matQ q n)) (y8, 0)) fun y21 => Option.bind (Lp (m_spec_PositiveRoots_L4 y21) (([] : List (List Int)), 0)) fun y35 => some (y35, true)) = some (rootsL q n, true) := by
  have hU : AllRt q n ((List.range n).map (unitL n)) := ⟨units_nodup n, fun x hx => by
    obtain ⟨v, hv, rfl⟩ := List.mem_map.1 hx
    exact unit_root H (List.mem_range.1 hv)⟩
  obtain ⟨C, h1, h2, h3, h4⟩ := n_specOuter H hU
  have hC : ∀ x ∈ C, Vec5 x ∧ x.length = n := fun x hx => H.vec (h3.2 x hx)
  have hlen := H.num h3.1 h3.2
  rw [n_specUnits H.Q, Option.bind_some, h1, Option.bind_some, n_sortSpec hC (by omega), Option.bind_some]
  congr 2
  refine sorted_ext lessP_irr lessP_trans ?_ sorted_implRoots fun x => ?_
  · refine sortB_sorted lessP_trans ?_
    refine List.Pairwise.imp_of_mem (fun {p x} hp hx h => ?_) (List.nodup_iff_pairwise_ne.1 h3.1)
    refine ⟨fun h => h, fun h' => ?_⟩
    have h5 : ¬ LessP x p := by unfold LessP; rw [h']; simp
    rw [lessP_iff] at h5 ⊢
    rcases lexB_total (x := p) (y := x) (by rw [(hC p hp).2, (hC x hx).2]) h with h6 | h6
    · by_cases e : p.sum = x.sum
      · exact .inr ⟨e, h6⟩
      · refine .inl ?_
        have : ¬ x.sum < p.sum := fun h => h5 (.inl h)
        omega
    · refine .inl ?_
      have h7 : ¬ x.sum < p.sum := fun h => h5 (.inl h)
      have h8 : ¬ x.sum = p.sum := fun h => h5 (.inr ⟨h, h6⟩)
      omega
  · rw [(sortB_spec _ _).2, mem_rootsL H]
    constructor
    · exact h3.2 x
    · intro r
      have := r.pos H.F
      exact clos_all H (fun v hv => by
        obtain ⟨t, rfl⟩ := h2
        simp only [List.mem_append]
        exact .inl (List.mem_map.2 ⟨v, List.mem_range.2 hv, rfl⟩)) h4 (x.sum - 1).toNat r (by omega)
end Go.Proofs.Ytihbegpgoekbdaa
end

section
set_option linter.unusedVariables false
set_option linter.unusedSimpArgs false
/-
  The laws' structs as arguments: quivers, matrices, representations, spaces, bars, claims.
-/
namespace Go.Proofs.Ytihbegpgoekbdaa
open Go.ChangeShapes Go.WideShapes Go.ChangeAt Go.RowKit
theorem oI : Opens Try.prog 3 (ShpA 1 eI) := opensA_int Try.underlying3
theorem oL : Opens Try.prog 22 (ShpA 1 eL) := opensA_slice Try.underlying22 (by decide) (by kernel_rfl) oI
theorem oQ : Opens Try.prog 24 (ShpA 3 eQ) := by
  intro H enc w fuel cs d ps h hf
  obtain ⟨x0, T0, u0⟩ := upto_cons Try.underlying24 h hf upto_nil (i := 0) (ft := 3) rfl (k := 1) (by kernel_rfl) oI
  obtain ⟨x1, T1, u1⟩ := upto_cons Try.underlying24 h hf u0 (i := 1) (ft := 22) rfl (k := 1) (by kernel_rfl) oL
  obtain ⟨x2, T2, u2⟩ := upto_cons Try.underlying24 h hf u1 (i := 2) (ft := 22) rfl (k := 1) (by kernel_rfl) oL
  exact ⟨⟨x0, x1, x2⟩, _, upto_end Try.underlying24 h hf u2 (by kernel_rfl) _ rfl⟩
theorem oRows : Opens Try.prog 36 (ShpA 1 (fun l : List (List Int) => [.list 1 (l.map eL)])) := opensA_slice Try.underlying36 (by decide) (by kernel_rfl) oL
end Go.Proofs.Ytihbegpgoekbdaa
end

section
set_option linter.unusedVariables false
set_option linter.unusedSimpArgs false
/-
  A law's arguments: their lists have lengths that fit.
-/
namespace Go.Proofs.Ytihbegpgoekbdaa
open Go.RowKit
set_option linter.unusedVariables false

theorem rvs_mem {w : World} : ∀ {ds : List AV} {vs : List Value} {S : List Nat}, RepVs w ds vs S → ∀ d ∈ ds, ∃ v S', RepD w d v S'
  | [], _, _, _, d, hd => by cases hd
  | c :: cs, vs, S, h, d, hd => by
    simp only [RepVs] at h
    obtain ⟨v, r, S1, S2, _, _, h3, h4⟩ := h
    rcases List.mem_cons.1 hd with rfl | h'
    · exact ⟨v, S1, h3⟩
    · exact rvs_mem h4 d h'
theorem rcs_mem {w : World} {b : Nat} : ∀ {ds : List AV} {o : Nat} {S : List Nat}, RepCs w b o ds S → ∀ d ∈ ds, ∃ v S', RepD w d v S'
  | [], _, _, _, d, hd => by cases hd
  | c :: cs, o, S, h, d, hd => by
    simp only [RepCs] at h
    obtain ⟨v, S1, S2, _, _, _, _, h3, h4⟩ := h
    rcases List.mem_cons.1 hd with rfl | h'
    · exact ⟨v, S1, h3⟩
    · exact rcs_mem h4 d h'
theorem res_mem {w : World} {k b : Nat} : ∀ {es : List (List AV)} {o : Nat} {S : List Nat}, RepEs w k b o es S → ∀ cs ∈ es, ∀ d ∈ cs, ∃ v S', RepD w d v S'
  | [], _, _, _, cs, hc => by cases hc
  | c :: es, o, S, h, cs, hc => by
    simp only [RepEs] at h
    obtain ⟨S1, S2, _, _, h3, h4⟩ := h
    rcases List.mem_cons.1 hc with rfl | h'
    · exact rcs_mem h3
    · exact res_mem h4 cs h'
theorem rd_list {w : World} {k : Nat} {es : List (List AV)} {v : Value} {S : List Nat} (h : RepD w (.list k es) v S) : es.length ≤ 9223372036854775807 ∧ ∀ cs ∈ es, ∀ d ∈ cs, ∃ v S', RepD w d v S' := by
  unfold RepD at h
  obtain ⟨a, c, _, h2, h3, h4⟩ := h
  have hm : maxLen ≤ 9223372036854775807 := by decide
  refine ⟨by omega, ?_⟩
  rcases h4 with ⟨rfl, _⟩ | ⟨b, o, T, _, _, _, h5⟩
  · intro cs hcs; cases hcs
  · exact res_mem h5
theorem fI_of {w : World} {l : List Int} {v : Value} {S : List Nat} (h : RepD w (ints l) v S) : fI l := by
  have := (rd_list (k := 1) (es := List.map eI l) h).1
  rwa [List.length_map] at this
theorem fI_mem {w : World} {ds : List AV} (h : ∀ d ∈ ds, ∃ v S', RepD w d v S') {l : List Int} (hl : ints l ∈ ds) : fI l := by
  obtain ⟨v, S, h⟩ := h _ hl
  exact fI_of h
theorem list_mem {w : World} {ds : List AV} (h : ∀ d ∈ ds, ∃ v S', RepD w d v S') {α : Type} {k : Nat} {e : α → List AV} {l : List α} (hl : AV.list k (l.map e) ∈ ds) : fI l ∧ ∀ x ∈ l, ∀ d ∈ e x, ∃ v S', RepD w d v S' := by
  obtain ⟨v, S, h⟩ := h _ hl
  have := rd_list h
  rw [List.length_map] at this
  exact ⟨this.1, fun x hx => this.2 _ (List.mem_map.2 ⟨x, hx, rfl⟩)⟩
theorem fQ_of {w : World} {q : Qv} (h : ∀ d ∈ eQ q, ∃ v S', RepD w d v S') : fQ q := ⟨fI_mem h (by simp [eQ]), fI_mem h (by simp [eQ])⟩
theorem ret_true {w0 w : World} {v : Value} {S : List Nat} (h : ResA w (.bl true) v S) : Ending.returned v = .returned (.bool true) := by rw [h.1]
end Go.Proofs.Ytihbegpgoekbdaa
end

section
set_option linter.unusedVariables false
set_option linter.unusedSimpArgs false
/-
  Models and contracts of functions, made by the extractor (ex.py).
-/
namespace Go.Proofs.Ytihbegpgoekbdaa
open Go.RowKit
set_option linter.unusedVariables false
set_option linter.unusedSimpArgs false
set_option maxRecDepth 10000
set_option maxHeartbeats 4000000

end Go.Proofs.Ytihbegpgoekbdaa
end

section
set_option linter.unusedVariables false
set_option linter.unusedSimpArgs false
/-
  The laws' sizes, copies and comparisons (2): lists of lists, spaces.
-/
namespace Go.Proofs.Ytihbegpgoekbdaa
open Go.RowKit
set_option linter.unusedVariables false
set_option linter.unusedSimpArgs false

theorem mz_Row {l : List Int} {left : Int} (hl : fI l) (h0 : 0 ≤ left) (h1 : left ≤ 1048576) : m_laws_szIntS l left = some (zRow l left) := mz_I hl h0 h1
def fLs (l : List (List Int)) : Prop := fI l ∧ ∀ m ∈ l, fI m
theorem mz_Ls {l : List (List Int)} {left : Int} (hl : fLs l) (h0 : 0 ≤ left) (h1 : left ≤ 1048576) : m_laws_szIntSS l left = some (zS zRow l left) := by
  obtain ⟨ha, hb⟩ := hl
  unfold fI at ha
  unfold m_laws_szIntSS zS
  rw [wr_eq (by omega)]
  by_cases h : left - l.length < 0
  · rw [decide_eq_true h, if_pos h]; rfl
  · rw [decide_eq_false h, if_neg h, cond_false]
    refine zs_loop (f := zRow) falls_Row (by omega) (fun v k hk g0 g1 => ?_) (fun v => ?_) _ (by omega) (by omega)
    · unfold m_laws_szIntSS_L1
      simp only
      rw [dlt hk, cond_true, atL_nat hk, Option.bind_some, mz_Row (hb _ (List.getElem_mem hk)) g0 g1, Option.bind_some]
      cases decide ((zRow) l[k] v < 0) <;> rfl
    · unfold m_laws_szIntSS_L1
      simp only
      rw [dnl (Nat.le_refl _), cond_false]
theorem mt_Ls {l : List (List Int)} (h : l.length ≤ 1048576 ∧ ∀ m ∈ l, bI m) : m_laws_toIntSS l = some l := by
  obtain ⟨h, hb⟩ := h
  unfold m_laws_toIntSS
  rw [decide_eq_true (by omega), decide_eq_true (by omega : (l.length : Int) ≤ 1048576), Bool.and_self, cond_true]
  rw [copy_loop [] (by omega) (fun k hk r hr => ?_) (fun r => ?_)]; rfl
  · unfold m_laws_toIntSS_L1
    simp only
    rw [dlt hk, cond_true, atL_nat hk, Option.bind_some, mt_I (hb _ (List.getElem_mem hk)), Option.bind_some, atL_nat (hr ▸ hk), Option.bind_some, Int.toNat_natCast]
  · unfold m_laws_toIntSS_L1
    simp only
    rw [dnl (Nat.le_refl _), cond_false]
theorem me_Ls {a b : List (List Int)} (h : a.length ≤ 1048576 ∧ ∀ m ∈ a, bI m) : m_laws_eqIntSS a b = some (decide (a = b)) := by
  obtain ⟨h, hb⟩ := h
  unfold m_laws_eqIntSS
  rw [len_test]
  by_cases e : a.length = b.length
  · rw [decide_eq_true e, Bool.not_true, cond_false]
    refine eq_lists (by omega) e (fun k h1 h2 => ?_) ?_
    · unfold m_laws_eqIntSS_L1
      rw [dlt h1, cond_true, atL_nat h1, Option.bind_some, atL_nat h2, Option.bind_some, me_I (hb _ (List.getElem_mem h1)), Option.bind_some]
      cases decide (a[k] = b[k]) <;> rfl
    · unfold m_laws_eqIntSS_L1
      rw [dnl (Nat.le_refl _), cond_false]
  · rw [decide_eq_false e, Bool.not_false, cond_true, decide_eq_false (by rintro rfl; exact e rfl)]
theorem fLs_of {w : World} {l : List (List Int)} {ds : List AV} (h : ∀ d ∈ ds, ∃ v S', RepD w d v S') (hl : AV.list 1 (l.map eL) ∈ ds) : fLs l := by
  obtain ⟨h1, h2⟩ := list_mem h hl
  refine ⟨h1, fun v hv => ?_⟩
  obtain ⟨v', S', h3⟩ := h2 v hv (ints v) (by simp)
  exact fI_of h3
end Go.Proofs.Ytihbegpgoekbdaa
end

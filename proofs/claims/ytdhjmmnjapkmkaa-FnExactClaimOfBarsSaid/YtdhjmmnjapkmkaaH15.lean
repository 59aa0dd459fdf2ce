/-
  Several texts of the claim in one: each begins with its own remark.
-/
import Derived.Laws.BytesString
import Derived.Test.YtdhjmmnjapkmkaaH14
section
set_option linter.unusedVariables false
set_option linter.unusedSimpArgs false

namespace Go.Proofs.Ytdhjmmnjapkmkaa
open Go.RowKit
set_option linter.unusedVariables false
section
variable {P : Program} {T : List (Nat × Ty)} {dst : Option Tmp} {ty : TypeId} {pos : String} {aft : Array Edge} {g : Option (Nat × Bool)} {s : AState}
theorem w_callc {fo : Operand} {xs : Array Operand} {ats : Array TypeId} {f : FuncId} {caps avs ds1 ds2 ds : List AV} {u : Value} (hc : HasC P f ds (.sc u)) (hf : s.ev fo = some (.fn f caps)) (hx : evs s.ev xs.toList = some avs) (hds : ds1 ++ ds2 = ds) (hv1 : All2 (viewA s.heap) avs ds1) (hv2 : All2 (viewP s.heap) caps ds2) :
  AEff P ⟨dst, .call ⟨.value fo, xs, ats⟩, ty, pos, aft, g⟩ s.ev s.heap s.kp ⟨.sc u, avs.flatMap (touchA s.heap) ++ caps.flatMap (touchP s.heap), [], []⟩ :=
 eff_call (ns := []) (nb := []) (r := .sc u) (x := .sc u) hf hx (hds ▸ hc) hv1 hv2 trivial (impA_sc [] u) rfl (by simp)
end
end Go.Proofs.Ytdhjmmnjapkmkaa
end

section
set_option linter.unusedVariables false
set_option linter.unusedSimpArgs false

namespace Go.Proofs.Ytdhjmmnjapkmkaa
open Go.RowKit
set_option linter.unusedVariables false
set_option linter.unusedSimpArgs false
set_option maxRecDepth 10000
set_option maxHeartbeats 4000000

def m_impl_BarsOf_1 (a0 : Int) (a1 : Int) (a2 : (List (List Int))) : Option Int :=
  bif decide (a0 < 0) then
    (some (0))
  else
    (bif decide ((a2.length : Int) ≤ a1) then
      (some (0))
    else
      (Option.bind (atL a2 a0) fun v3 =>
      Option.bind (atL v3 a1) fun v4 =>
      some (v4)))

theorem c_impl_BarsOf_1 (a0 : Int) (a1 : Int) (a2 : (List (List Int))) (r : Int) (h : m_impl_BarsOf_1 a0 a1 a2 = some r) : HasC Try.prog 64 [.int a0, .int a1, .ref ((eLs 1 (eLs 1 eI)) a2)] (.int r) := by
 refine hasC_mk TT_ok (rvs := [.tmp 5]) (ns := [0, 1]) Try.func64 k k Try.ntmps64 k k k <| sQ <| rg <| aa k k <| an <| tn <| sQ <| sQ <| rg <| am k k ?_
 refine ae (w_cmp k k k) k <| am k k ?_
 rcases cb h with ⟨q1, h⟩ | ⟨q1, h⟩
 ·refine aops_lit 8 k q1 <| ak k k <| ak k k <| ak k k <| ak k k <| ae (eff_pick k k) k <| an <| tn <| ac_condT k k <| sQ ?_
  refine rg <| aa k k <| an <| tn <| ac_ret <| then_ret ?_
  obtain rfl := so h
  exact ret_mk k k k (fz_int k)
 ·refine aops_lit 8 k q1 <| am k k <| ae (w_load_ref TT_ok k k k k k k) k <| ae (lenL TT_ok k k k) k <| ae (w_cmp k k k) k <| ae (eff_pick k k) k <| an <| tn ?_
  rcases cb h with ⟨q2, h⟩ | ⟨q2, h⟩
  ·refine ac_condT k q2 <| sQ <| rg <| aa k k <| an <| tn <| ac_ret <| then_ret ?_
   obtain rfl := so h
   exact ret_mk k k k (fz_int k)
  ·refine ac_condF k q2 <| ac_skip <| tn <| sQ <| rg <| ae (w_load_ref TT_ok k k k k k k) k <| am k k ?_
   obtain ⟨v3, hv3, h⟩ := ob h
   refine ae (x_at_list TT_ok hv3 k k k k k k) k <| ae (w_load_ref TT_ok k k k k k k) k <| am k k ?_
   obtain ⟨v4, hv4, h⟩ := ob h
   refine ae (x_at_list TT_ok hv4 k k k k k k) k <| ae (w_load_ref TT_ok k k k k k k) k <| aa k k <| an <| tn <| ac_ent (t := mkS [(5, .int v4)] [] 0 [0, 1]) (ent_mk (σ := sg []) ⟨(e1 k k), trivial⟩ trivial k) <| ac_ret ?_
   obtain rfl := so h
   exact ret_mk k k k (fz_int k)

noncomputable def m_impl_BarsOf_L2 (v1 : ((List (List Int)) × Bool)) (x1 : ((List Br) × Int)) (x2 : ((List Br) × Int)) : Option (((List Br) × Int) ⊕ (List Br)) :=
  bif decide (x2.2 < ((v1.1.length : Nat) : Int)) then
    (Option.bind (m_impl_BarsOf_1 x1.2 x2.2 v1.1) fun v5 =>
    Option.bind (m_impl_BarsOf_1 (wr (x1.2 - 1)) x2.2 v1.1) fun v6 =>
    Option.bind (m_impl_BarsOf_1 x1.2 (wr (x2.2 + 1)) v1.1) fun v7 =>
    Option.bind (m_impl_BarsOf_1 (wr (x1.2 - 1)) (wr (x2.2 + 1)) v1.1) fun v8 =>
    bif !decide (wr ((wr ((wr (v5 - v6)) - v7)) + v8) = 0) then
      (bif decide (x2.1.length + [(⟨x1.2, x2.2, wr ((wr ((wr (v5 - v6)) - v7)) + v8)⟩ : Br)].length ≤ 4294967296) then
        (some (.inl ((x2.1 ++ [(⟨x1.2, x2.2, wr ((wr ((wr (v5 - v6)) - v7)) + v8)⟩ : Br)]), wr (x2.2 + 1))))
      else none)
    else
      (some (.inl (x2.1, wr (x2.2 + 1)))))
  else
    (some (.inr x2.1))

noncomputable def m_impl_BarsOf_L1 (v1 : ((List (List Int)) × Bool)) (x1 : ((List Br) × Int)) : Option (((List Br) × Int) ⊕ (List Br)) :=
  bif decide (x1.2 < ((v1.1.length : Nat) : Int)) then
    (Option.bind (Lp (m_impl_BarsOf_L2 v1 x1) (x1.1, x1.2)) fun y11 =>
    some (.inl (y11, wr (x1.2 + 1))))
  else
    (some (.inr x1.1))

noncomputable def m_impl_BarsOf (a0 : Rp) : Option ((List Br) × Bool) :=
  Option.bind (m_impl_RankTable a0) fun v1 =>
  bif !v1.2 then
    (some (([], false)))
  else
    (Option.bind (Lp (m_impl_BarsOf_L1 v1) ([], 0)) fun y12 =>
    some ((y12, true)))

theorem c_impl_BarsOf (a0 : Rp) (r : ((List Br) × Bool)) (h : m_impl_BarsOf a0 = some r) : HasC Try.prog 32 [.agg (eR a0)] (.tuple [.list 3 (List.map eB r.1), .bl r.2]) := by
 refine hasC_mk TT_ok (rvs := [.tmp 2, .tmp 3]) (ns := [0, 1, 2, 3, 4, 5, 6]) Try.func32 k k Try.ntmps32 k k k <| sQ <| rg <| ae (w_box k k k k) k <| aa k k <| aa k k <| an <| tn <| sQ <| rg ?_
 refine ae (w_load_ptr TT_ok k k k k k k k) k ?_
 obtain ⟨v1, hv1, h⟩ := ob h
 refine ae (AEff.conv (w_call0 (x := .tuple [.own 1 0 (List.map (eLs 1 eI) v1.1).length, .bl v1.2]) (nb := [(1, ⟨1, absEs (List.map (eLs 1 eI) v1.1)⟩)]) (c_impl_RankTable a0 v1 hv1) k (by rfl) k k (gB_cons (okLs.good _) (gB_cons trivial gB_nil)) (va_cons (va_agg' (v1_cons (v1_same k) (v1_cons (v1_same k) (v1_cons (v1_same k) (v1_cons (v1_same k) (v1_cons (v1_same k) (v1_cons (v1_same k) v1_nil))))))) va_nil)) (v' := .tuple [.own 1 0 v1.1.length, .bl v1.2]) (ed' := [(1, some ⟨1, List.map (ow (eLs 1 eI)) v1.1⟩)]) (by simp only [len_map]) (ed_ok (nb' := [(1, ⟨1, List.map (ow (eLs 1 eI)) v1.1⟩)]) (by simp only [abs_map]))) k <| am k k <| ae (eff_extract k k (by intro _ h; cases h)) k <| ae (eff_extract k k (by intro _ h; cases h)) k <| ae (w_alloc TT_ok k k) k <| ae (w_store TT_ok k k k k k k k k) k <| aa k k <| an <| tn <| sQ ?_
 refine sQ <| rg <| am k k <| ae (w_not k) k <| an <| tn <| ac_ent (t := mkS [(4, .ptr 2 0 0), (17, .bl (!v1.2))] [(1, ⟨1, List.map (ow (eLs 1 eI)) v1.1⟩), (2, ⟨1, [[.own 1 0 v1.1.length]]⟩)] 3 [3, 4, 5, 6]) (ent_mk (σ := sg [(1, 1), (2, 2)]) ⟨(pE k k), (e1 k k), trivial⟩ (hB (okLs.plainO _) k k k <| hX ⟨_, k, k, .inr ⟨_, _, k, ⟨_, _, k, ⟨k, k, k, k⟩, k⟩, k⟩⟩ k <| trivial) k) ?_
 rcases cb h with ⟨q2, h⟩ | ⟨q2, h⟩
 ·refine ac_condT k q2 <| sQ <| rg <| aa k k <| aa k k <| an <| tn <| ac_ret <| then_ret ?_
  obtain rfl := so h
  exact ret_mk k k k (xz_tuple k (xB_cons (xB_one (k)) (xB_cons (k) xB_nil)))
 ·refine ac_condF k q2 <| ac_skip <| tn <| sQ <| rg <| ae (eff_makeFunc (vs := [.ptr 2 0 0]) k (by simp)) k <| aa k k <| an <| tn <| sQ ?_
  refine rg <| aa k k <| an <| tn <| sQ <| sQ <| rg <| ae (w_load_ptr TT_ok k k k k k k k) k <| ae (w_len_own TT_ok k k k k) k <| am k k ?_
  refine an <| tn <| ac_block ?_
  obtain ⟨y12, hy12, h⟩ := ob h
  refine ac_Lp (body := (m_impl_BarsOf_L1 v1)) hy12 (fun (x1 : ((List Br) × Int)) => mkS [(4, .ptr 0 0 0), (6, .fn 64 [.ptr 0 0 0]), (7, .own 2 0 x1.1.length), (20, .int ((v1.1.length : Nat) : Int)), (21, .int x1.2)] [(0, ⟨1, [[.own 1 0 v1.1.length]]⟩), (1, ⟨1, List.map (ow (eLs 1 eI)) v1.1⟩), (2, ⟨3, List.map (ow eB) x1.1⟩)] 3 [3, 4, 5, 6]) (fun r e t => e = .exit 0 ∧ Ent t (mkS [(7, .own 0 0 r.length)] [(0, ⟨3, List.map (ow eB) r⟩)] 1 [1, 2, 3, 4, 5, 6])) (ent_mk (σ := sg [(0, 2), (1, 1)]) ⟨(pE k k), ⟨_, k, ⟨k, ⟨_, _, k, ⟨k, k, k, k⟩, k⟩⟩⟩, ⟨_, k, ⟨k, k, k, k⟩⟩, (e1 k k), (e1 k k), trivial⟩ (hX ⟨_, k, k, .inr ⟨_, _, k, ⟨_, _, k, ⟨k, k, k, k⟩, k⟩, k⟩⟩ k <| hB (okLs.plainO _) k k k <| hX k k <| trivial) k) ?_ ?_
  ·intro x1 o h
   refine sQ <| rg <| ae (w_cmp k k k) k <| an <| tn <| sQ ?_
   rcases cb h with ⟨q3, h⟩ | ⟨q3, h⟩
   ·refine ac_condT k q3 <| ac_skip <| tn <| sQ <| ac_block <| sQ <| rg <| am k k <| aa k k <| an ?_
    refine tn <| sQ <| rg <| am k k <| aa k k <| an <| tn <| ac_block ?_
    obtain ⟨y11, hy11, h⟩ := ob h
    refine ac_Lp (body := (m_impl_BarsOf_L2 v1 x1)) hy11 (fun (x2 : ((List Br) × Int)) => mkS [(4, .ptr 0 0 0), (6, .fn 64 [.ptr 0 0 0]), (7, .own 2 0 x2.1.length), (8, .int x1.2), (9, .int x2.2), (20, .int ((v1.1.length : Nat) : Int)), (21, .int x1.2)] [(0, ⟨1, [[.own 1 0 v1.1.length]]⟩), (1, ⟨1, List.map (ow (eLs 1 eI)) v1.1⟩), (2, ⟨3, List.map (ow eB) x2.1⟩)] 3 [3, 4, 5, 6]) (fun r e t => e = .exit 2 ∧ Ent t (mkS [(4, .ptr 0 0 0), (6, .fn 64 [.ptr 0 0 0]), (7, .own 2 0 r.length), (20, .int ((v1.1.length : Nat) : Int)), (21, .int x1.2)] [(0, ⟨1, [[.own 1 0 v1.1.length]]⟩), (1, ⟨1, List.map (ow (eLs 1 eI)) v1.1⟩), (2, ⟨3, List.map (ow eB) r⟩)] 3 [3, 4, 5, 6])) (ent_mk (σ := sg [(0, 0), (1, 1), (2, 2)]) ⟨(pE k k), ⟨_, k, ⟨k, ⟨_, _, k, ⟨k, k, k, k⟩, k⟩⟩⟩, (oE k k), (e1 k k), (e1 k k), (e1 k k), (e1 k k), trivial⟩ (hX ⟨_, k, k, .inr ⟨_, _, k, ⟨_, _, k, ⟨k, k, k, k⟩, k⟩, k⟩⟩ k <| hB (okLs.plainO _) k k k <| hB (okBr.plainO _) k k k <| trivial) k) ?_ ?_
    ·intro x2 o h
     refine sQ <| sQ <| rg <| am k k <| ae (w_load_ptr TT_ok k k k k k k k) k <| ae (w_len_own TT_ok k k k k) k <| ae (w_cmp k k k) k <| an <| tn ?_
     rcases cb h with ⟨q4, h⟩ | ⟨q4, h⟩
     ·refine ac_condT k q4 <| ac_skip <| tn <| sQ <| ac_block <| sQ <| rg <| am k k <| am k k <| am k k ?_
      obtain ⟨v5, hv5, h⟩ := ob h
      refine ae (w_callc (c_impl_BarsOf_1 x1.2 x2.2 v1.1 v5 hv5) k k k (va_cons (va_same k) (va_cons (va_same k) va_nil)) (vp_cons (vp_box k k (v1_cons (v1_T okLs k k) v1_nil)) va_nil2)) k <| am k k <| am k k <| ae (x_sub k k) k <| am k k ?_
      obtain ⟨v6, hv6, h⟩ := ob h
      refine ae (w_callc (c_impl_BarsOf_1 (wr (x1.2 - 1)) x2.2 v1.1 v6 hv6) k k k (va_cons (va_same k) (va_cons (va_same k) va_nil)) (vp_cons (vp_box k k (v1_cons (v1_T okLs k k) v1_nil)) va_nil2)) k <| ae (x_sub k k) k <| am k k <| am k k <| am k k <| ae (x_add k k) k ?_
      obtain ⟨v7, hv7, h⟩ := ob h
      refine ae (w_callc (c_impl_BarsOf_1 x1.2 (wr (x2.2 + 1)) v1.1 v7 hv7) k k k (va_cons (va_same k) (va_cons (va_same k) va_nil)) (vp_cons (vp_box k k (v1_cons (v1_T okLs k k) v1_nil)) va_nil2)) k <| ae (x_sub k k) k <| am k k <| am k k <| ae (x_sub k k) k <| am k k <| ae (x_add k k) k ?_
      obtain ⟨v8, hv8, h⟩ := ob h
      refine ae (w_callc (c_impl_BarsOf_1 (wr (x1.2 - 1)) (wr (x2.2 + 1)) v1.1 v8 hv8) k k k (va_cons (va_same k) (va_cons (va_same k) va_nil)) (vp_cons (vp_box k k (v1_cons (v1_T okLs k k) v1_nil)) va_nil2)) k <| ae (x_add k k) k <| aa k k <| an <| tn <| ac_ent (t := mkS [(4, .ptr 0 0 0), (6, .fn 64 [.ptr 0 0 0]), (7, .own 2 0 x2.1.length), (8, .int x1.2), (9, .int x2.2), (10, .int (wr ((wr ((wr (v5 - v6)) - v7)) + v8))), (20, .int ((v1.1.length : Nat) : Int)), (21, .int x1.2)] [(0, ⟨1, [[.own 1 0 v1.1.length]]⟩), (1, ⟨1, List.map (ow (eLs 1 eI)) v1.1⟩), (2, ⟨3, List.map (ow eB) x2.1⟩)] 3 [3, 4, 5, 6]) (ent_mk (σ := sg [(0, 0), (1, 1), (2, 2)]) ⟨(pE k k), ⟨_, k, ⟨k, ⟨_, _, k, ⟨k, k, k, k⟩, k⟩⟩⟩, (oE k k), (e1 k k), (e1 k k), (e1 k k), (e1 k k), (e1 k k), trivial⟩ (hX ⟨_, k, k, .inr ⟨_, _, k, ⟨_, _, k, ⟨k, k, k, k⟩, k⟩, k⟩⟩ k <| hB (okLs.plainO _) k k k <| hB (okBr.plainO _) k k k <| trivial) k) <| sQ <| rg <| am k k <| ae (w_cmp k k k) k ?_
      refine an <| tn ?_
      rcases cb h with ⟨q9, h⟩ | ⟨q9, h⟩
      ·refine ac_condT k q9 <| rg <| am k k <| am k k <| am k k <| am k k <| ae (w_build TT_ok k k k k k k) k <| ae (w_lit TT_ok k k k k k k k k k k k k) k ?_
       obtain ⟨q10, h⟩ := cg h
       refine ae (x_app TT_ok (l := x2.1) (m := [(⟨x1.2, x2.2, wr ((wr ((wr (v5 - v6)) - v7)) + v8)⟩ : Br)]) (okBr.own fun _ => k) q10 k k k k k k k k k k k k) k <| aa k k <| an <| block_n <| tn <| rg <| am k k <| ae (x_add k k) k <| aa k k <| an ?_
       refine tn ?_
       obtain rfl := so h
       exact ⟨_, k, (ent_mk (σ := sg [(0, 0), (1, 1), (2, 4)]) ⟨(pE k k), ⟨_, k, ⟨k, ⟨_, _, k, ⟨k, k, k, k⟩, k⟩⟩⟩, (oE k k), (e1 k k), (e1 k k), (e1 k k), (e1 k k), trivial⟩ (hX ⟨_, k, k, .inr ⟨_, _, k, ⟨_, _, k, ⟨k, k, k, k⟩, k⟩, k⟩⟩ k <| hB (okLs.plainO _) k k k <| hB (okBr.plainO _) k k k <| trivial) k)⟩
      ·refine ac_condF k q9 <| ac_skip <| block_n <| tn <| rg <| am k k <| ae (x_add k k) k <| aa k k <| an <| tn ?_
       obtain rfl := so h
       exact ⟨_, k, (ent_mk (σ := sg [(0, 0), (1, 1), (2, 2)]) ⟨(pE k k), ⟨_, k, ⟨k, ⟨_, _, k, ⟨k, k, k, k⟩, k⟩⟩⟩, (oE k k), (e1 k k), (e1 k k), (e1 k k), (e1 k k), trivial⟩ (hX ⟨_, k, k, .inr ⟨_, _, k, ⟨_, _, k, ⟨k, k, k, k⟩, k⟩, k⟩⟩ k <| hB (okLs.plainO _) k k k <| hB (okBr.plainO _) k k k <| trivial) k)⟩
     ·refine ac_condF k q4 <| ac_exit <| then_exit <| then_exit ?_
      obtain rfl := so h
      exact ⟨_, k, k, (ent_mk (σ := sg [(0, 0), (1, 1), (2, 2)]) ⟨(pE k k), ⟨_, k, ⟨k, ⟨_, _, k, ⟨k, k, k, k⟩, k⟩⟩⟩, (oE k k), (e1 k k), (e1 k k), trivial⟩ (hX ⟨_, k, k, .inr ⟨_, _, k, ⟨_, _, k, ⟨k, k, k, k⟩, k⟩, k⟩⟩ k <| hB (okLs.plainO _) k k k <| hB (okBr.plainO _) k k k <| trivial) k)⟩
    ·rintro e t ⟨rfl, hent⟩
     refine block_here <| block_n <| tn <| ac_ent hent <| rg <| ae (x_add k k) k <| am k k <| an <| tn ?_
     obtain rfl := so h
     exact ⟨_, k, (ent_mk (σ := sg [(0, 0), (1, 1), (2, 2)]) ⟨(pE k k), ⟨_, k, ⟨k, ⟨_, _, k, ⟨k, k, k, k⟩, k⟩⟩⟩, (oE k k), (e1 k k), (e1 k k), trivial⟩ (hX ⟨_, k, k, .inr ⟨_, _, k, ⟨_, _, k, ⟨k, k, k, k⟩, k⟩, k⟩⟩ k <| hB (okLs.plainO _) k k k <| hB (okBr.plainO _) k k k <| trivial) k)⟩
   ·refine ac_condF k q3 <| ac_exit <| then_exit <| then_exit ?_
    obtain rfl := so h
    exact ⟨_, k, k, (ent_mk (σ := sg [(0, 2)]) ⟨(oE k k), trivial⟩ (hB (okBr.plainO _) k k k <| trivial) k)⟩
  ·rintro e t ⟨rfl, hent⟩
   refine block_here <| tn <| ac_ent hent <| sQ <| rg <| am k k <| aa k k <| aa k k <| an <| tn ?_
   refine ac_ret ?_
   obtain rfl := so h
   exact ret_mk k k k (xz_tuple k (xB_cons (xB_one (x_f1 okBr k k)) (xB_cons (k) xB_nil)))

def m_spec_l23At (a0 : (List (List Int))) (a1 : Int) (a2 : Int) : Option Int :=
  bif decide (a1 < 0) then
    (some (0))
  else
    (bif decide ((a0.length : Int) ≤ a2) then
      (some (0))
    else
      (Option.bind (atL a0 a1) fun v3 =>
      Option.bind (atL v3 a2) fun v4 =>
      some (v4)))

theorem c_spec_l23At (a0 : (List (List Int))) (a1 : Int) (a2 : Int) (r : Int) (h : m_spec_l23At a0 a1 a2 = some r) : HasC Try.prog 59 [.list 1 (List.map (eLs 1 eI) a0), .int a1, .int a2] (.int r) := by
 refine hasC_mk TT_ok (rvs := [.tmp 6]) (ns := [0, 1]) Try.func59 k k Try.ntmps59 k k k <| sQ <| rg <| aa k k <| an <| tn <| sQ <| sQ <| rg <| am k k ?_
 refine ae (w_cmp k k k) k <| am k k ?_
 rcases cb h with ⟨q1, h⟩ | ⟨q1, h⟩
 ·refine aops_lit 9 k q1 <| ak k k <| ak k k <| ak k k <| ak k k <| ae (eff_pick k k) k <| an <| tn <| ac_condT k k <| sQ ?_
  refine rg <| aa k k <| an <| tn <| ac_ret <| then_ret ?_
  obtain rfl := so h
  exact ret_mk k k k (fz_int k)
 ·refine aops_lit 9 k q1 <| am k k <| am k k <| ae (lenL TT_ok k k k) k <| ae (w_cmp k k k) k <| ae (eff_pick k k) k <| an <| tn ?_
  rcases cb h with ⟨q2, h⟩ | ⟨q2, h⟩
  ·refine ac_condT k q2 <| sQ <| rg <| aa k k <| an <| tn <| ac_ret <| then_ret ?_
   obtain rfl := so h
   exact ret_mk k k k (fz_int k)
  ·refine ac_condF k q2 <| ac_skip <| tn <| sQ <| rg <| am k k <| am k k ?_
   obtain ⟨v3, hv3, h⟩ := ob h
   refine ae (x_at_list TT_ok hv3 k k k k k k) k <| ae (w_load_ref TT_ok k k k k k k) k <| am k k ?_
   obtain ⟨v4, hv4, h⟩ := ob h
   refine ae (x_at_list TT_ok hv4 k k k k k k) k <| ae (w_load_ref TT_ok k k k k k k) k <| aa k k <| an <| tn <| ac_ent (t := mkS [(6, .int v4)] [] 0 [0, 1]) (ent_mk (σ := sg []) ⟨(e1 k k), trivial⟩ trivial k) <| ac_ret ?_
   obtain rfl := so h
   exact ret_mk k k k (fz_int k)

noncomputable def m_spec_BarsOf_L2 (v1 : ((List (List Int)) × Bool)) (x1 : ((List Br) × Int)) (x2 : ((List Br) × Int)) : Option (((List Br) × Int) ⊕ (List Br)) :=
  bif decide (x2.2 < ((v1.1.length : Nat) : Int)) then
    (Option.bind (m_spec_l23At v1.1 x1.2 x2.2) fun v4 =>
    Option.bind (m_spec_l23At v1.1 (wr (x1.2 - 1)) x2.2) fun v5 =>
    Option.bind (m_spec_l23At v1.1 x1.2 (wr (x2.2 + 1))) fun v6 =>
    Option.bind (m_spec_l23At v1.1 (wr (x1.2 - 1)) (wr (x2.2 + 1))) fun v7 =>
    bif decide (0 < wr ((wr ((wr (v4 - v5)) - v6)) + v7)) then
      (bif decide (x2.1.length + [(⟨x1.2, x2.2, wr ((wr ((wr (v4 - v5)) - v6)) + v7)⟩ : Br)].length ≤ 4294967296) then
        (some (.inl ((x2.1 ++ [(⟨x1.2, x2.2, wr ((wr ((wr (v4 - v5)) - v6)) + v7)⟩ : Br)]), wr (x2.2 + 1))))
      else none)
    else
      (some (.inl (x2.1, wr (x2.2 + 1)))))
  else
    (some (.inr x2.1))

noncomputable def m_spec_BarsOf_L1 (v1 : ((List (List Int)) × Bool)) (x1 : ((List Br) × Int)) : Option (((List Br) × Int) ⊕ (List Br)) :=
  bif decide (x1.2 < ((v1.1.length : Nat) : Int)) then
    (Option.bind (Lp (m_spec_BarsOf_L2 v1 x1) (x1.1, x1.2)) fun y10 =>
    some (.inl (y10, wr (x1.2 + 1))))
  else
    (some (.inr x1.1))

noncomputable def m_spec_BarsOf (a0 : Rp) : Option ((List Br) × Bool) :=
  Option.bind (m_spec_RankTable a0) fun v1 =>
  Option.bind (Lp (m_spec_BarsOf_L1 v1) (([] : (List Br)), 0)) fun y11 =>
  some ((y11, v1.2))

theorem c_spec_BarsOf (a0 : Rp) (r : ((List Br) × Bool)) (h : m_spec_BarsOf a0 = some r) : HasC Try.prog 29 [.agg (eR a0)] (.tuple [.list 3 (List.map eB r.1), .bl r.2]) := by
 refine hasC_mk TT_ok (rvs := [.tmp 2, .tmp 3]) (ns := [0, 1, 2, 3, 4, 5]) Try.func29 k k Try.ntmps29 k k k <| sQ <| rg <| ae (w_box k k k k) k <| aa k k <| aa k k <| an <| tn <| sQ <| rg ?_
 refine ae (w_load_ptr TT_ok k k k k k k k) k ?_
 obtain ⟨v1, hv1, h⟩ := ob h
 refine ae (AEff.conv (w_call0 (x := .tuple [.own 1 0 (List.map (eLs 1 eI) v1.1).length, .bl v1.2]) (nb := [(1, ⟨1, absEs (List.map (eLs 1 eI) v1.1)⟩)]) (c_spec_RankTable a0 v1 hv1) k (by rfl) k k (gB_cons (okLs.good _) (gB_cons trivial gB_nil)) (va_cons (va_agg' (v1_cons (v1_same k) (v1_cons (v1_same k) (v1_cons (v1_same k) (v1_cons (v1_same k) (v1_cons (v1_same k) (v1_cons (v1_same k) v1_nil))))))) va_nil)) (v' := .tuple [.own 1 0 v1.1.length, .bl v1.2]) (ed' := [(1, some ⟨1, List.map (ow (eLs 1 eI)) v1.1⟩)]) (by simp only [len_map]) (ed_ok (nb' := [(1, ⟨1, List.map (ow (eLs 1 eI)) v1.1⟩)]) (by simp only [abs_map]))) k <| am k k <| ae (eff_extract k k (by intro _ h; cases h)) k <| ae (eff_extract k k (by intro _ h; cases h)) k <| aa k k <| aa k k <| an <| tn <| sQ <| rg ?_
 refine ae (w_lit TT_ok k k k k k k k k k k k k) k <| aa k k <| an <| tn <| ac_ent (t := mkS [(4, .own 1 0 v1.1.length), (5, .bl v1.2), (6, .own 2 0 (([] : (List Br)).length))] [(1, ⟨1, List.map (ow (eLs 1 eI)) v1.1⟩), (2, ⟨3, List.map (ow eB) ([] : (List Br))⟩)] 3 [3, 4, 5]) (ent_mk (σ := sg [(1, 1), (2, 2)]) ⟨(oE k k), (e1 k k), ⟨_, k, ⟨k, k, (by simp only [len_map, lA, lT, lR, lC, lN]), k⟩⟩, trivial⟩ (hB (okLs.plainO _) k k k <| hB (okBr.plainO _) k k k <| trivial) k) <| sQ <| sQ <| rg <| aa k k <| an ?_
 refine tn <| ac_block ?_
 obtain ⟨y11, hy11, h⟩ := ob h
 refine ac_Lp (body := (m_spec_BarsOf_L1 v1)) hy11 (fun (x1 : ((List Br) × Int)) => mkS [(4, .own 0 0 v1.1.length), (5, .bl v1.2), (6, .own 1 0 x1.1.length), (7, .int x1.2)] [(0, ⟨1, List.map (ow (eLs 1 eI)) v1.1⟩), (1, ⟨3, List.map (ow eB) x1.1⟩)] 2 [2, 3, 4, 5]) (fun r e t => e = .exit 0 ∧ Ent t (mkS [(5, .bl v1.2), (6, .own 0 0 r.length)] [(0, ⟨3, List.map (ow eB) r⟩)] 1 [1, 2, 3, 4, 5])) (ent_mk (σ := sg [(0, 1), (1, 2)]) ⟨(oE k k), (e1 k k), (oE k k), (e1 k k), trivial⟩ (hB (okLs.plainO _) k k k <| hB (okBr.plainO _) k k k <| trivial) k) ?_ ?_
 ·intro x1 o h
  refine sQ <| sQ <| rg <| am k k <| am k k <| ae (w_len_own TT_ok k k k k) k <| ae (w_cmp k k k) k <| an <| tn ?_
  rcases cb h with ⟨q2, h⟩ | ⟨q2, h⟩
  ·refine ac_condT k q2 <| ac_skip <| tn <| sQ <| ac_block <| sQ <| rg <| am k k <| aa k k <| an ?_
   refine tn <| ac_block ?_
   obtain ⟨y10, hy10, h⟩ := ob h
   refine ac_Lp (body := (m_spec_BarsOf_L2 v1 x1)) hy10 (fun (x2 : ((List Br) × Int)) => mkS [(4, .own 0 0 v1.1.length), (5, .bl v1.2), (6, .own 1 0 x2.1.length), (7, .int x1.2), (8, .int x2.2)] [(0, ⟨1, List.map (ow (eLs 1 eI)) v1.1⟩), (1, ⟨3, List.map (ow eB) x2.1⟩)] 2 [2, 3, 4, 5]) (fun r e t => e = .exit 2 ∧ Ent t (mkS [(4, .own 0 0 v1.1.length), (5, .bl v1.2), (6, .own 1 0 r.length), (7, .int x1.2)] [(0, ⟨1, List.map (ow (eLs 1 eI)) v1.1⟩), (1, ⟨3, List.map (ow eB) r⟩)] 2 [2, 3, 4, 5])) (ent_mk (σ := sg [(0, 0), (1, 1)]) ⟨(oE k k), (e1 k k), (oE k k), (e1 k k), (e1 k k), trivial⟩ (hB (okLs.plainO _) k k k <| hB (okBr.plainO _) k k k <| trivial) k) ?_ ?_
   ·intro x2 o h
    refine sQ <| sQ <| rg <| am k k <| am k k <| ae (w_len_own TT_ok k k k k) k <| ae (w_cmp k k k) k <| an <| tn ?_
    rcases cb h with ⟨q3, h⟩ | ⟨q3, h⟩
    ·refine ac_condT k q3 <| ac_skip <| tn <| sQ <| ac_block <| sQ <| rg <| am k k <| am k k <| am k k ?_
     obtain ⟨v4, hv4, h⟩ := ob h
     refine ae (w_call0s (c_spec_l23At v1.1 x1.2 x2.2 v4 hv4) k (va_cons (va_T okLs k k) (va_cons (va_same k) (va_cons (va_same k) va_nil)))) k <| am k k <| am k k <| ae (x_sub k k) k <| am k k ?_
     obtain ⟨v5, hv5, h⟩ := ob h
     refine ae (w_call0s (c_spec_l23At v1.1 (wr (x1.2 - 1)) x2.2 v5 hv5) k (va_cons (va_T okLs k k) (va_cons (va_same k) (va_cons (va_same k) va_nil)))) k <| ae (x_sub k k) k <| am k k <| am k k <| am k k <| ae (x_add k k) k ?_
     obtain ⟨v6, hv6, h⟩ := ob h
     refine ae (w_call0s (c_spec_l23At v1.1 x1.2 (wr (x2.2 + 1)) v6 hv6) k (va_cons (va_T okLs k k) (va_cons (va_same k) (va_cons (va_same k) va_nil)))) k <| ae (x_sub k k) k <| am k k <| am k k <| ae (x_sub k k) k <| am k k <| ae (x_add k k) k ?_
     obtain ⟨v7, hv7, h⟩ := ob h
     refine ae (w_call0s (c_spec_l23At v1.1 (wr (x1.2 - 1)) (wr (x2.2 + 1)) v7 hv7) k (va_cons (va_T okLs k k) (va_cons (va_same k) (va_cons (va_same k) va_nil)))) k <| ae (x_add k k) k <| aa k k <| an <| tn <| ac_ent (t := mkS [(4, .own 0 0 v1.1.length), (5, .bl v1.2), (6, .own 1 0 x2.1.length), (7, .int x1.2), (8, .int x2.2), (9, .int (wr ((wr ((wr (v4 - v5)) - v6)) + v7)))] [(0, ⟨1, List.map (ow (eLs 1 eI)) v1.1⟩), (1, ⟨3, List.map (ow eB) x2.1⟩)] 2 [2, 3, 4, 5]) (ent_mk (σ := sg [(0, 0), (1, 1)]) ⟨(oE k k), (e1 k k), (oE k k), (e1 k k), (e1 k k), (e1 k k), trivial⟩ (hB (okLs.plainO _) k k k <| hB (okBr.plainO _) k k k <| trivial) k) <| sQ <| rg <| am k k <| ae (w_cmp k k k) k ?_
     refine an <| tn ?_
     rcases cb h with ⟨q8, h⟩ | ⟨q8, h⟩
     ·refine ac_condT k q8 <| rg <| am k k <| am k k <| am k k <| am k k <| ae (w_build TT_ok k k k k k k) k <| ae (w_lit TT_ok k k k k k k k k k k k k) k ?_
      obtain ⟨q9, h⟩ := cg h
      refine ae (x_app TT_ok (l := x2.1) (m := [(⟨x1.2, x2.2, wr ((wr ((wr (v4 - v5)) - v6)) + v7)⟩ : Br)]) (okBr.own fun _ => k) q9 k k k k k k k k k k k k) k <| aa k k <| an <| block_n <| tn <| rg <| am k k <| ae (x_add k k) k <| aa k k <| an ?_
      refine tn ?_
      obtain rfl := so h
      exact ⟨_, k, (ent_mk (σ := sg [(0, 0), (1, 3)]) ⟨(oE k k), (e1 k k), (oE k k), (e1 k k), (e1 k k), trivial⟩ (hB (okLs.plainO _) k k k <| hB (okBr.plainO _) k k k <| trivial) k)⟩
     ·refine ac_condF k q8 <| ac_skip <| block_n <| tn <| rg <| am k k <| ae (x_add k k) k <| aa k k <| an <| tn ?_
      obtain rfl := so h
      exact ⟨_, k, (ent_mk (σ := sg [(0, 0), (1, 1)]) ⟨(oE k k), (e1 k k), (oE k k), (e1 k k), (e1 k k), trivial⟩ (hB (okLs.plainO _) k k k <| hB (okBr.plainO _) k k k <| trivial) k)⟩
    ·refine ac_condF k q3 <| ac_exit <| then_exit <| then_exit ?_
     obtain rfl := so h
     exact ⟨_, k, k, (ent_mk (σ := sg [(0, 0), (1, 1)]) ⟨(oE k k), (e1 k k), (oE k k), (e1 k k), trivial⟩ (hB (okLs.plainO _) k k k <| hB (okBr.plainO _) k k k <| trivial) k)⟩
   ·rintro e t ⟨rfl, hent⟩
    refine block_here <| block_n <| tn <| ac_ent hent <| rg <| am k k <| ae (x_add k k) k <| aa k k <| an <| tn ?_
    obtain rfl := so h
    exact ⟨_, k, (ent_mk (σ := sg [(0, 0), (1, 1)]) ⟨(oE k k), (e1 k k), (oE k k), (e1 k k), trivial⟩ (hB (okLs.plainO _) k k k <| hB (okBr.plainO _) k k k <| trivial) k)⟩
  ·refine ac_condF k q2 <| ac_exit <| then_exit <| then_exit ?_
   obtain rfl := so h
   exact ⟨_, k, k, (ent_mk (σ := sg [(0, 1)]) ⟨(e1 k k), (oE k k), trivial⟩ (hB (okBr.plainO _) k k k <| trivial) k)⟩
 ·rintro e t ⟨rfl, hent⟩
  refine block_here <| tn <| ac_ent hent <| sQ <| rg <| am k k <| am k k <| aa k k <| aa k k <| an ?_
  refine tn <| ac_ret ?_
  obtain rfl := so h
  exact ret_mk k k k (xz_tuple k (xB_cons (xB_one (x_f1 okBr k k)) (xB_cons (k) xB_nil)))

noncomputable def m_impl_copyMatrices_L1 (a0 : (List Mt)) (x1 : ((List Mt) × Int)) : Option (((List Mt) × Int) ⊕ (List Mt)) :=
  bif decide (x1.2 < (a0.length : Int)) then
    (Option.bind (atL a0 x1.2) fun v2 =>
    Option.bind (m_impl_Matrix_clone v2) fun v3 =>
    bif decide (x1.1.length + 1 ≤ 4294967296) then
      (some (.inl ((x1.1 ++ [v3]), wr (x1.2 + 1))))
    else none)
  else
    (some (.inr x1.1))

noncomputable def m_impl_copyMatrices (a0 : (List Mt)) : Option (List Mt) :=
  Option.bind (Lp (m_impl_copyMatrices_L1 a0) ([], 0)) fun y5 =>
  some (y5)

theorem c_impl_copyMatrices (a0 : (List Mt)) (r : (List Mt)) (h : m_impl_copyMatrices a0 = some r) : HasC Try.prog 67 [.list 3 (List.map eM a0)] (.list 3 (List.map eM r)) := by
 refine hasC_mk TT_ok (rvs := [.tmp 2]) (ns := [0, 1, 2, 3, 4, 5, 6]) Try.func67 k k Try.ntmps67 k k k <| sQ <| rg <| aa k k <| an <| tn <| sQ <| rg <| aa k k <| an ?_
 refine tn <| sQ <| sQ <| rg <| am k k <| ae (lenL TT_ok k k k) k <| am k k <| an <| tn <| ac_block ?_
 obtain ⟨y5, hy5, h⟩ := ob h
 refine ac_Lp (body := (m_impl_copyMatrices_L1 a0)) hy5 (fun (x1 : ((List Mt) × Int)) => mkS [(3, .own 0 0 x1.1.length), (6, .list 3 (List.map eM a0)), (7, .int (a0.length : Int)), (8, .int x1.2)] [(0, ⟨3, List.map (ow eM) x1.1⟩)] 1 [1, 2, 3, 4, 5, 6]) (fun r e t => e = .exit 0 ∧ Ent t (mkS [(3, .own 0 0 r.length)] [(0, ⟨3, List.map (ow eM) r⟩)] 1 [1, 2, 3, 4, 5, 6])) (ent_mk (σ := sg []) ⟨⟨_, k, ⟨k, k, k, k⟩⟩, ⟨_, k, ⟨k, k⟩⟩, (e1 k k), (e1 k k), trivial⟩ (hX k k <| trivial) k) ?_ ?_
 ·intro x1 o h
  refine sQ <| rg <| ae (w_cmp k k k) k <| an <| tn <| sQ ?_
  rcases cb h with ⟨q1, h⟩ | ⟨q1, h⟩
  ·refine ac_condT k q1 <| ac_skip <| tn <| sQ <| ac_block <| sQ <| rg ?_
   obtain ⟨v2, hv2, h⟩ := ob h
   refine ae (x_at_list TT_ok hv2 k k k k k k) k <| ae (w_load_ref TT_ok k k k k k k) k <| ae (w_alloc TT_ok k k) k <| ae (w_store TT_ok k k k k k k k k) k <| an <| tn <| rg <| am k k <| ae (w_load_ptr TT_ok k k k k k k k) k ?_
   obtain ⟨v3, hv3, h⟩ := ob h
   refine ae (AEff.conv (w_call0 (x := .agg [.int v3.rows, .int v3.cols, .own 2 0 (List.map eI v3.cells).length]) (nb := [(2, ⟨1, absEs (List.map eI v3.cells)⟩)]) (c_impl_Matrix_clone v2 v3 hv3) k (by rfl) k k (g1_cons trivial (g1_cons trivial (g1_cons (okI.good _) g1_nil))) (va_cons (va_agg' (v1_cons (v1_same k) (v1_cons (v1_same k) (v1_cons (v1_same k) v1_nil)))) va_nil)) (v' := .agg [.int v3.rows, .int v3.cols, .own 2 0 v3.cells.length]) (ed' := [(2, some ⟨1, List.map (ow eI) v3.cells⟩)]) (by simp only [len_map]) (ed_ok (nb' := [(2, ⟨1, List.map (ow eI) v3.cells⟩)]) (by simp only [abs_map]))) k <| ae (w_lit TT_ok k k k k k k k k k k k k) k ?_
   obtain ⟨q4, h⟩ := cg h
   refine ae (x_app1 TT_ok (l := x1.1) (c := [.int v3.rows, .int v3.cols, .own 2 0 v3.cells.length]) q4 k k k k k k k k k k k k k k) k <| aa k k <| an <| block_n <| tn <| ac_ent (t := mkS [(3, .own 4 0 ((x1.1 ++ [v3]).length)), (6, .list 3 (List.map eM a0)), (7, .int (a0.length : Int)), (8, .int x1.2)] [(4, ⟨3, List.map (ow eM) (x1.1 ++ [v3])⟩)] 5 [5, 6]) (Ent.trans (ent_absL (b := 4) (b' := 2) (j := 2) (es' := List.map eI v3.cells) k k k k (len_map _ _) (okI.frzs _)) (ent_mk (σ := sg [(4, 4)]) ⟨⟨_, k, ⟨k, k, (by simp only [len_map, lA, lT, lR, lC, lN]), k⟩⟩, ⟨_, k, ⟨k, k⟩⟩, (e1 k k), (e1 k k), trivial⟩ (hX ⟨_, k, k, .inl ⟨app_eq v3 k, okMt.plainO _⟩⟩ k <| trivial) k)) <| rg <| ae (x_add k k) k <| am k k <| an ?_
   refine tn ?_
   obtain rfl := so h
   exact ⟨_, k, (ent_mk (σ := sg [(0, 4)]) ⟨(oE k k), ⟨_, k, ⟨k, k⟩⟩, (e1 k k), (e1 k k), trivial⟩ (hB (okMt.plainO _) k k k <| trivial) k)⟩
  ·refine ac_condF k q1 <| ac_exit <| then_exit <| then_exit ?_
   obtain rfl := so h
   exact ⟨_, k, k, (ent_mk (σ := sg [(0, 0)]) ⟨(oE k k), trivial⟩ (hB (okMt.plainO _) k k k <| trivial) k)⟩
 ·rintro e t ⟨rfl, hent⟩
  refine block_here <| tn <| ac_ent hent <| sQ <| rg <| am k k <| aa k k <| an <| tn <| ac_ret ?_
  obtain rfl := so h
  exact ret_mk k k k (xz_list (x_f1 okMt k k))

noncomputable def m_impl_Quiver_clone (a0 : Qv) : Option Qv :=
  Option.bind (m_Clone a0.src) fun v1 =>
  Option.bind (m_Clone a0.tgt) fun v2 =>
  some ((⟨a0.n, v1, v2⟩ : Qv))

theorem c_impl_Quiver_clone (a0 : Qv) (r : Qv) (h : m_impl_Quiver_clone a0 = some r) : HasC Try.prog 65 [.agg (eQ a0)] (.agg (eQ r)) := by
 refine hasC_mk TT_ok (rvs := [.cell 2 29]) (ns := [0, 1, 2, 3, 4, 5]) Try.func65 k k Try.ntmps65 k k k <| sQ <| rg <| ae (w_box k k k k) k <| ae (w_alloc TT_ok k k) k <| an <| tn <| sQ <| ac_region_draw MIXX <| ae (w_field_ptr TT_ok k k k k k k k) k ?_
 refine ae (w_load_ptr TT_ok k k k k k k k) k <| ae (w_field_ptr TT_ok k k k k k k k) k <| ae (w_load_ptr TT_ok k k k k k k k) k ?_
 obtain ⟨v1, hv1, h⟩ := ob h
 refine ae (AEff.conv (w_call0 (x := .own 2 0 (List.map eI v1).length) (nb := [(2, ⟨1, absEs (List.map eI v1)⟩)]) (c_Clone a0.src v1 hv1) k (by rfl) k k (okI.good _) (va_cons (va_same k) va_nil)) (v' := .own 2 0 v1.length) (ed' := [(2, some ⟨1, List.map (ow eI) v1⟩)]) (by simp only [len_map]) (ed_ok (nb' := [(2, ⟨1, List.map (ow eI) v1⟩)]) (by simp only [abs_map]))) k <| ae (w_field_ptr TT_ok k k k k k k k) k <| ae (w_load_ptr TT_ok k k k k k k k) k ?_
 obtain ⟨v2, hv2, h⟩ := ob h
 refine ae (AEff.conv (w_call0 (x := .own 3 0 (List.map eI v2).length) (nb := [(3, ⟨1, absEs (List.map eI v2)⟩)]) (c_Clone a0.tgt v2 hv2) k (by rfl) k k (okI.good _) (va_cons (va_same k) va_nil)) (v' := .own 3 0 v2.length) (ed' := [(3, some ⟨1, List.map (ow eI) v2⟩)]) (by simp only [len_map]) (ed_ok (nb' := [(3, ⟨1, List.map (ow eI) v2⟩)]) (by simp only [abs_map]))) k <| ae (w_build TT_ok k k k k k k) k <| ae (w_store TT_ok k k k k k k k k) k <| an ?_
 refine ⟨by kernel_rfl, ?_⟩
 refine tn <| ac_ent (t := mkS [(2, .ptr 1 0 0)] [(1, ⟨3, [[.int a0.n, .own 2 0 v1.length, .own 3 0 v2.length]]⟩), (2, ⟨1, List.map (ow eI) v1⟩), (3, ⟨1, List.map (ow eI) v2⟩)] 4 [4, 5]) (ent_mk (σ := sg [(1, 1), (2, 2), (3, 3)]) ⟨(pE k k), trivial⟩ (hX ⟨_, k, k, .inr ⟨_, _, k, ⟨_, _, k, k, ⟨_, _, k, ⟨k, k, k, k⟩, ⟨_, _, k, ⟨k, k, k, k⟩, k⟩⟩⟩, k⟩⟩ k <| hI k k k <| hI k k k <| trivial) k) <| ac_ret ?_
 obtain rfl := so h
 exact ret_mk k k k (xz_agg (x1_cons (k) (x1_cons (x_f1 okI k k) (x1_cons (x_f1 okI k k) x1_nil))))

noncomputable def m_impl_Rep_clone (a0 : Rp) : Option Rp :=
  Option.bind (m_impl_Quiver_clone a0.q) fun v1 =>
  Option.bind (m_Clone a0.dims) fun v2 =>
  Option.bind (m_impl_copyMatrices a0.maps) fun v3 =>
  some ((⟨a0.p, v1, v2, v3⟩ : Rp))

theorem c_impl_Rep_clone (a0 : Rp) (r : Rp) (h : m_impl_Rep_clone a0 = some r) : HasC Try.prog 33 [.agg (eR a0)] (.agg (eR r)) := by
 refine hasC_mk TT_ok (rvs := [.cell 2 32]) (ns := [0, 1, 2, 3, 4, 5, 6, 7]) Try.func33 k k Try.ntmps33 k k k <| sQ <| rg <| ae (w_box k k k k) k <| ae (w_alloc TT_ok k k) k <| an <| tn <| sQ <| ac_region_draw MIXX <| ae (w_field_ptr TT_ok k k k k k k k) k ?_
 refine ae (w_load_ptr TT_ok k k k k k k k) k <| ae (w_field_ptr TT_ok k k k k k k k) k <| ae (w_load_ptr TT_ok k k k k k k k) k ?_
 obtain ⟨v1, hv1, h⟩ := ob h
 refine ae (AEff.conv (w_call0 (x := .agg [.int v1.n, .own 2 0 (List.map eI v1.src).length, .own 3 0 (List.map eI v1.tgt).length]) (nb := [(2, ⟨1, absEs (List.map eI v1.src)⟩), (3, ⟨1, absEs (List.map eI v1.tgt)⟩)]) (c_impl_Quiver_clone a0.q v1 hv1) k (by rfl) k k (g1_cons trivial (g1_cons (okI.good _) (g1_cons (okI.good _) g1_nil))) (va_cons (va_agg' (v1_cons (v1_same k) (v1_cons (v1_same k) (v1_cons (v1_same k) v1_nil)))) va_nil)) (v' := .agg [.int v1.n, .own 2 0 v1.src.length, .own 3 0 v1.tgt.length]) (ed' := [(2, some ⟨1, List.map (ow eI) v1.src⟩), (3, some ⟨1, List.map (ow eI) v1.tgt⟩)]) (by simp only [len_map]) (ed_ok (nb' := [(2, ⟨1, List.map (ow eI) v1.src⟩), (3, ⟨1, List.map (ow eI) v1.tgt⟩)]) (by simp only [abs_map]))) k <| ae (w_field_ptr TT_ok k k k k k k k) k <| ae (w_load_ptr TT_ok k k k k k k k) k ?_
 obtain ⟨v2, hv2, h⟩ := ob h
 refine ae (AEff.conv (w_call0 (x := .own 4 0 (List.map eI v2).length) (nb := [(4, ⟨1, absEs (List.map eI v2)⟩)]) (c_Clone a0.dims v2 hv2) k (by rfl) k k (okI.good _) (va_cons (va_same k) va_nil)) (v' := .own 4 0 v2.length) (ed' := [(4, some ⟨1, List.map (ow eI) v2⟩)]) (by simp only [len_map]) (ed_ok (nb' := [(4, ⟨1, List.map (ow eI) v2⟩)]) (by simp only [abs_map]))) k <| ae (w_field_ptr TT_ok k k k k k k k) k <| ae (w_load_ptr TT_ok k k k k k k k) k ?_
 obtain ⟨v3, hv3, h⟩ := ob h
 refine ae (AEff.conv (w_call0 (x := .own 5 0 (List.map eM v3).length) (nb := [(5, ⟨3, absEs (List.map eM v3)⟩)]) (c_impl_copyMatrices a0.maps v3 hv3) k (by rfl) k k (okMt.good _) (va_cons (va_same k) va_nil)) (v' := .own 5 0 v3.length) (ed' := [(5, some ⟨3, List.map (ow eM) v3⟩)]) (by simp only [len_map]) (ed_ok (nb' := [(5, ⟨3, List.map (ow eM) v3⟩)]) (by simp only [abs_map]))) k <| ae (w_build TT_ok k k k k k k) k <| ae (w_store TT_ok k k k k k k k k) k <| an ?_
 refine ⟨by kernel_rfl, ?_⟩
 refine tn <| ac_ent (t := mkS [(2, .ptr 1 0 0)] [(1, ⟨6, [[.int a0.p, .int v1.n, .own 2 0 v1.src.length, .own 3 0 v1.tgt.length, .own 4 0 v2.length, .own 5 0 v3.length]]⟩), (2, ⟨1, List.map (ow eI) v1.src⟩), (3, ⟨1, List.map (ow eI) v1.tgt⟩), (4, ⟨1, List.map (ow eI) v2⟩), (5, ⟨3, List.map (ow eM) v3⟩)] 6 [6, 7]) (ent_mk (σ := sg [(1, 1), (2, 2), (3, 3), (4, 4), (5, 5)]) ⟨(pE k k), trivial⟩ (hX ⟨_, k, k, .inr ⟨_, _, k, ⟨_, _, k, k, ⟨_, _, k, k, ⟨_, _, k, ⟨k, k, k, k⟩, ⟨_, _, k, ⟨k, k, k, k⟩, ⟨_, _, k, ⟨k, k, k, k⟩, ⟨_, _, k, ⟨k, k, k, k⟩, k⟩⟩⟩⟩⟩⟩, k⟩⟩ k <| hI k k k <| hI k k k <| hI k k k <| hB (okMt.plainO _) k k k <| trivial) k) <| ac_ret ?_
 obtain rfl := so h
 exact ret_mk k k k (xz_agg (x1_cons (k) (x1_cons (k) (x1_cons (x_f1 okI k k) (x1_cons (x_f1 okI k k) (x1_cons (x_f1 okI k k) (x1_cons (x_f1 okMt k k) x1_nil)))))))

noncomputable def m_spec_l8Copy_L1 (a0 : Rp) (x1 : ((List Mt) × Int)) : Option (((List Mt) × Int) ⊕ (List Mt)) :=
  bif decide (x1.2 < (a0.maps.length : Int)) then
    (Option.bind (atL a0.maps x1.2) fun v4 =>
    Option.bind (m_spec_l3Copy v4) fun v5 =>
    bif decide (x1.1.length + 1 ≤ 4294967296) then
      (some (.inl ((x1.1 ++ [v5]), wr (x1.2 + 1))))
    else none)
  else
    (some (.inr x1.1))

noncomputable def m_spec_l8Copy (a0 : Rp) : Option Rp :=
  Option.bind (m_spec_l6Copy a0.q) fun v1 =>
  bif decide (([] : (List Int)).length + a0.dims.length ≤ 4294967296) then
    (Option.bind (Lp (m_spec_l8Copy_L1 a0) (([] : (List Mt)), 0)) fun y7 =>
    some ((⟨a0.p, v1, (([] : (List Int)) ++ a0.dims), y7⟩ : Rp)))
  else none

theorem c_spec_l8Copy (a0 : Rp) (r : Rp) (h : m_spec_l8Copy a0 = some r) : HasC Try.prog 30 [.agg (eR a0)] (.agg (eR r)) := by
 refine hasC_mk TT_ok (rvs := [.cell 2 32]) (ns := [0, 1, 2, 3, 4, 5, 6, 7, 8, 9, 10, 11]) Try.func30 k k Try.ntmps30 k k k <| sQ <| rg <| ae (w_box k k k k) k <| ae (w_alloc TT_ok k k) k <| an <| tn <| sQ <| ac_region_draw MIXX <| ae (w_field_ptr TT_ok k k k k k k k) k ?_
 refine ae (w_load_ptr TT_ok k k k k k k k) k <| ae (w_field_ptr TT_ok k k k k k k k) k <| ae (w_load_ptr TT_ok k k k k k k k) k ?_
 obtain ⟨v1, hv1, h⟩ := ob h
 refine ae (AEff.conv (w_call0 (x := .agg [.int v1.n, .own 2 0 (List.map eI v1.src).length, .own 3 0 (List.map eI v1.tgt).length]) (nb := [(2, ⟨1, absEs (List.map eI v1.src)⟩), (3, ⟨1, absEs (List.map eI v1.tgt)⟩)]) (c_spec_l6Copy a0.q v1 hv1) k (by rfl) k k (g1_cons trivial (g1_cons (okI.good _) (g1_cons (okI.good _) g1_nil))) (va_cons (va_agg' (v1_cons (v1_same k) (v1_cons (v1_same k) (v1_cons (v1_same k) v1_nil)))) va_nil)) (v' := .agg [.int v1.n, .own 2 0 v1.src.length, .own 3 0 v1.tgt.length]) (ed' := [(2, some ⟨1, List.map (ow eI) v1.src⟩), (3, some ⟨1, List.map (ow eI) v1.tgt⟩)]) (by simp only [len_map]) (ed_ok (nb' := [(2, ⟨1, List.map (ow eI) v1.src⟩), (3, ⟨1, List.map (ow eI) v1.tgt⟩)]) (by simp only [abs_map]))) k <| ae (w_lit TT_ok k k k k k k k k k k k k) k <| ae (w_field_ptr TT_ok k k k k k k k) k <| ae (w_load_ptr TT_ok k k k k k k k) k ?_
 obtain ⟨q2, h⟩ := cg h
 refine ae (x_app TT_ok (l := ([] : (List Int))) (m := a0.dims) okIo q2 k k k k k k k k k k k k) k <| ae (w_lit TT_ok k k k k k k k k k k k k) k <| ae (w_build TT_ok k k k k k k) k <| ae (w_alloc TT_ok k k) k <| ae (w_store TT_ok k k k k k k k k) k <| an ?_
 refine ⟨by kernel_rfl, ?_⟩
 refine tn <| ac_ent (t := mkS [(1, .ptr 0 0 0), (2, .ptr 1 0 0), (3, .ptr 7 0 0)] [(0, ⟨6, [[.int a0.p, .int a0.q.n, .list 1 (List.map eI a0.q.src), .list 1 (List.map eI a0.q.tgt), .list 1 (List.map eI a0.dims), .list 3 (List.map eM a0.maps)]]⟩), (1, ⟨6, [[.int 0, .int 0, .nil 1, .nil 1, .nil 1, .nil 3]]⟩), (2, ⟨1, List.map (ow eI) v1.src⟩), (3, ⟨1, List.map (ow eI) v1.tgt⟩), (5, ⟨1, List.map (ow eI) (([] : (List Int)) ++ a0.dims)⟩), (6, ⟨3, List.map (ow eM) ([] : (List Mt))⟩), (7, ⟨6, [[.int a0.p, .int v1.n, .own 2 0 v1.src.length, .own 3 0 v1.tgt.length, .own 5 0 ((([] : (List Int)) ++ a0.dims).length), .own 6 0 (([] : (List Mt)).length)]]⟩)] 8 [8, 9, 10, 11]) (ent_mk (σ := sg [(0, 0), (1, 1), (2, 2), (3, 3), (5, 5), (6, 6), (7, 7)]) ⟨(pE k k), (pE k k), (pE k k), trivial⟩ (hP k k k k <| hP k k k k <| hI k k k <| hI k k k <| hI k k k <| hB (okMt.plainO _) k k k <| hX ⟨_, k, k, .inr ⟨_, _, k, ⟨_, _, k, k, ⟨_, _, k, k, ⟨_, _, k, ⟨k, k, k, k⟩, ⟨_, _, k, ⟨k, k, k, k⟩, ⟨_, _, k, ⟨k, k, k, k⟩, ⟨_, _, k, ⟨k, k, (by simp only [len_map, lA, lT, lR, lC, lN]), k⟩, k⟩⟩⟩⟩⟩⟩, k⟩⟩ k <| trivial) k) <| sQ <| sQ <| rg <| aa k k <| an <| tn <| ac_block ?_
 obtain ⟨y7, hy7, h⟩ := ob h
 refine ac_Lp (body := (m_spec_l8Copy_L1 a0)) hy7 (fun (x1 : ((List Mt) × Int)) => mkS [(1, .ptr 0 0 0), (2, .ptr 1 0 0), (3, .ptr 2 0 0), (4, .int x1.2)] [(0, ⟨6, [[.int a0.p, .int a0.q.n, .list 1 (List.map eI a0.q.src), .list 1 (List.map eI a0.q.tgt), .list 1 (List.map eI a0.dims), .list 3 (List.map eM a0.maps)]]⟩), (1, ⟨6, [[.int 0, .int 0, .nil 1, .nil 1, .nil 1, .nil 3]]⟩), (2, ⟨6, [[.int a0.p, .int v1.n, .own 3 0 v1.src.length, .own 4 0 v1.tgt.length, .own 5 0 ((([] : (List Int)) ++ a0.dims).length), .own 6 0 x1.1.length]]⟩), (3, ⟨1, List.map (ow eI) v1.src⟩), (4, ⟨1, List.map (ow eI) v1.tgt⟩), (5, ⟨1, List.map (ow eI) (([] : (List Int)) ++ a0.dims)⟩), (6, ⟨3, List.map (ow eM) x1.1⟩)] 7 [7, 8, 9, 10, 11]) (fun r e t => e = .exit 0 ∧ Ent t (mkS [(2, .ptr 0 0 0), (3, .ptr 1 0 0)] [(0, ⟨6, [[.int 0, .int 0, .nil 1, .nil 1, .nil 1, .nil 3]]⟩), (1, ⟨6, [[.int a0.p, .int v1.n, .own 2 0 v1.src.length, .own 3 0 v1.tgt.length, .own 4 0 ((([] : (List Int)) ++ a0.dims).length), .own 5 0 r.length]]⟩), (2, ⟨1, List.map (ow eI) v1.src⟩), (3, ⟨1, List.map (ow eI) v1.tgt⟩), (4, ⟨1, List.map (ow eI) (([] : (List Int)) ++ a0.dims)⟩), (5, ⟨3, List.map (ow eM) r⟩)] 6 [6, 7, 8, 9, 10, 11])) (ent_mk (σ := sg [(0, 0), (1, 1), (2, 7), (3, 2), (4, 3), (5, 5), (6, 6)]) ⟨(pE k k), (pE k k), (pE k k), (e1 k k), trivial⟩ (hP k k k k <| hP k k k k <| hX ⟨_, k, k, .inr ⟨_, _, k, ⟨_, _, k, k, ⟨_, _, k, k, ⟨_, _, k, ⟨k, k, k, k⟩, ⟨_, _, k, ⟨k, k, k, k⟩, ⟨_, _, k, ⟨k, k, k, k⟩, ⟨_, _, k, ⟨k, k, k, k⟩, k⟩⟩⟩⟩⟩⟩, k⟩⟩ k <| hI k k k <| hI k k k <| hI k k k <| hB (okMt.plainO _) k k k <| trivial) k) ?_ ?_
 ·intro x1 o h
  refine sQ <| sQ <| rg <| am k k <| ae (w_field_ptr TT_ok k k k k k k k) k <| ae (w_load_ptr TT_ok k k k k k k k) k <| ae (lenL TT_ok k k k) k <| ae (w_cmp k k k) k <| an <| tn ?_
  rcases cb h with ⟨q3, h⟩ | ⟨q3, h⟩
  ·refine ac_condT k q3 <| ac_skip <| tn <| sQ <| ac_block <| ac_region_draw MIXX <| ae (w_field_ptr TT_ok k k k k k k k) k <| ae (w_load_ptr TT_ok k k k k k k k) k <| ae (w_field_ptr TT_ok k k k k k k k) k <| ae (w_load_ptr TT_ok k k k k k k k) k ?_
   refine am k k ?_
   obtain ⟨v4, hv4, h⟩ := ob h
   refine ae (x_at_list TT_ok hv4 k k k k k k) k <| ae (w_load_ref TT_ok k k k k k k) k ?_
   obtain ⟨v5, hv5, h⟩ := ob h
   refine ae (AEff.conv (w_call0 (x := .agg [.int v5.rows, .int v5.cols, .own 7 0 (List.map eI v5.cells).length]) (nb := [(7, ⟨1, absEs (List.map eI v5.cells)⟩)]) (c_spec_l3Copy v4 v5 hv5) k (by rfl) k k (g1_cons trivial (g1_cons trivial (g1_cons (okI.good _) g1_nil))) (va_cons (va_agg' (v1_cons (v1_same k) (v1_cons (v1_same k) (v1_cons (v1_same k) v1_nil)))) va_nil)) (v' := .agg [.int v5.rows, .int v5.cols, .own 7 0 v5.cells.length]) (ed' := [(7, some ⟨1, List.map (ow eI) v5.cells⟩)]) (by simp only [len_map]) (ed_ok (nb' := [(7, ⟨1, List.map (ow eI) v5.cells⟩)]) (by simp only [abs_map]))) k <| ae (w_lit TT_ok k k k k k k k k k k k k) k ?_
   obtain ⟨q6, h⟩ := cg h
   refine ae (x_app1 TT_ok (l := x1.1) (c := [.int v5.rows, .int v5.cols, .own 7 0 v5.cells.length]) q6 k k k k k k k k k k k k k k) k <| ae (w_field_ptr TT_ok k k k k k k k) k <| ae (w_store TT_ok k k k k k k k k) k <| an ?_
   refine ⟨by kernel_rfl, ?_⟩
   refine block_n <| tn <| ac_ent (t := mkS [(1, .ptr 0 0 0), (2, .ptr 1 0 0), (3, .ptr 2 0 0), (4, .int x1.2)] [(0, ⟨6, [[.int a0.p, .int a0.q.n, .list 1 (List.map eI a0.q.src), .list 1 (List.map eI a0.q.tgt), .list 1 (List.map eI a0.dims), .list 3 (List.map eM a0.maps)]]⟩), (1, ⟨6, [[.int 0, .int 0, .nil 1, .nil 1, .nil 1, .nil 3]]⟩), (2, ⟨6, [[.int a0.p, .int v1.n, .own 3 0 v1.src.length, .own 4 0 v1.tgt.length, .own 5 0 ((([] : (List Int)) ++ a0.dims).length), .own 9 0 ((x1.1 ++ [v5]).length)]]⟩), (3, ⟨1, List.map (ow eI) v1.src⟩), (4, ⟨1, List.map (ow eI) v1.tgt⟩), (5, ⟨1, List.map (ow eI) (([] : (List Int)) ++ a0.dims)⟩), (9, ⟨3, List.map (ow eM) (x1.1 ++ [v5])⟩)] 10 [10, 11]) (Ent.trans (ent_absL (b := 9) (b' := 7) (j := 2) (es' := List.map eI v5.cells) k k k k (len_map _ _) (okI.frzs _)) (ent_mk (σ := sg [(0, 0), (1, 1), (2, 2), (3, 3), (4, 4), (5, 5), (9, 9)]) ⟨(pE k k), (pE k k), (pE k k), (e1 k k), trivial⟩ (hP k k k k <| hP k k k k <| hX ⟨_, k, k, .inr ⟨_, _, k, ⟨_, _, k, k, ⟨_, _, k, k, ⟨_, _, k, ⟨k, k, k, k⟩, ⟨_, _, k, ⟨k, k, k, k⟩, ⟨_, _, k, ⟨k, k, k, k⟩, ⟨_, _, k, ⟨k, k, (by simp only [len_map, lA, lT, lR, lC, lN]), k⟩, k⟩⟩⟩⟩⟩⟩, k⟩⟩ k <| hI k k k <| hI k k k <| hI k k k <| hX ⟨_, k, k, .inl ⟨app_eq v5 k, okMt.plainO _⟩⟩ k <| trivial) k)) <| rg <| am k k <| ae (x_add k k) k <| aa k k <| an <| tn ?_
   obtain rfl := so h
   exact ⟨_, k, (ent_mk (σ := sg [(0, 0), (1, 1), (2, 2), (3, 3), (4, 4), (5, 5), (6, 9)]) ⟨(pE k k), (pE k k), (pE k k), (e1 k k), trivial⟩ (hP k k k k <| hP k k k k <| hX ⟨_, k, k, .inr ⟨_, _, k, ⟨_, _, k, k, ⟨_, _, k, k, ⟨_, _, k, ⟨k, k, k, k⟩, ⟨_, _, k, ⟨k, k, k, k⟩, ⟨_, _, k, ⟨k, k, k, k⟩, ⟨_, _, k, ⟨k, k, k, k⟩, k⟩⟩⟩⟩⟩⟩, k⟩⟩ k <| hI k k k <| hI k k k <| hI k k k <| hB (okMt.plainO _) k k k <| trivial) k)⟩
  ·refine ac_condF k q3 <| ac_exit <| then_exit <| then_exit ?_
   obtain rfl := so h
   exact ⟨_, k, k, (ent_mk (σ := sg [(0, 1), (1, 2), (2, 3), (3, 4), (4, 5), (5, 6)]) ⟨(pE k k), (pE k k), trivial⟩ (hP k k k k <| hX ⟨_, k, k, .inr ⟨_, _, k, ⟨_, _, k, k, ⟨_, _, k, k, ⟨_, _, k, ⟨k, k, k, k⟩, ⟨_, _, k, ⟨k, k, k, k⟩, ⟨_, _, k, ⟨k, k, k, k⟩, ⟨_, _, k, ⟨k, k, k, k⟩, k⟩⟩⟩⟩⟩⟩, k⟩⟩ k <| hI k k k <| hI k k k <| hI k k k <| hB (okMt.plainO _) k k k <| trivial) k)⟩
 ·rintro e t ⟨rfl, hent⟩
  refine block_here <| tn <| ac_ent hent <| sQ <| rg <| ae (w_load_ptr TT_ok k k k k k k k) k <| ae (w_store TT_ok k k k k k k k k) k <| an <| tn <| ac_ret ?_
  obtain rfl := so h
  exact ret_mk k k k (xz_agg (x1_cons (k) (x1_cons (k) (x1_cons (x_f1 okI k k) (x1_cons (x_f1 okI k k) (x1_cons (x_f1 okI k k) (x1_cons (x_f1 okMt k k) x1_nil)))))))

noncomputable def m_impl_ClaimOfBars (a0 : Rp) : Option (Cl × Bool) :=
  Option.bind (m_impl_BarsOf a0) fun v1 =>
  bif !v1.2 then
    (some (((⟨0, (⟨0, (⟨0, [], []⟩ : Qv), [], []⟩ : Rp), (⟨0, (⟨0, [], []⟩ : Qv), [], []⟩ : Rp), [], [], [], [], []⟩ : Cl), false)))
  else
    (Option.bind (m_impl_Rep_clone a0) fun v3 =>
    some (((⟨5, v3, (⟨0, (⟨0, [], []⟩ : Qv), [], []⟩ : Rp), [], [], v1.1, [], []⟩ : Cl), true)))

theorem c_impl_ClaimOfBars (a0 : Rp) (r : (Cl × Bool)) (h : m_impl_ClaimOfBars a0 = some r) : HasC Try.prog 9 [.agg (eR a0)] (.tuple [.agg (eC r.1), .bl r.2]) := by
 refine hasC_mkW TT_ok (rvs := [.cell 2 37, .tmp 3]) (ns := [0, 1, 2, 3, 4, 5, 6, 7, 8]) Try.func9 k k Try.ntmps9 k k k (fun W => ?_)
 refine rawE_agg <| rawC_sc <| rawC_sc <| rawC_d (fun w0_2 S0_2 r0_2 => ?_)
 refine rawC_d (fun w0_3 S0_3 r0_3 => ?_)
 refine rawC_d (fun w0_4 S0_4 r0_4 => ?_)
 refine rawC_d (fun w0_5 S0_5 r0_5 => ?_)
 refine rawC_nil <| rawE_nil <| sQ <| rgS <| se (w_box k k k k) k <| se (w_alloc TT_ok k k) k <| se (eff_assign k) k <| sn <| tn <| sQ ?_
 refine rgS <| se (w_load_ptr TT_ok k k k k k k k) k ?_
 obtain ⟨v1, hv1, h⟩ := ob h
 refine se (AEff.conv (w_call0K (x := .tuple [.own 2 0 (List.map eB v1.1).length, .bl v1.2]) (nb := [(2, ⟨3, absEs (List.map eB v1.1)⟩)]) (c_impl_BarsOf a0 v1 hv1) k (by rfl) k k (gB_cons (okBr.good _) (gB_cons trivial gB_nil)) (vk_cons (.inr (raw_cons (raw1_sc k k) (raw_cons (raw1_sc k k) (raw_cons (raw1_d k r0_2) (raw_cons (raw1_d k r0_3) (raw_cons (raw1_d k r0_4) (raw_cons (raw1_d k r0_5) raw_nil))))))) vk_nil)) (v' := .tuple [.own 2 0 v1.1.length, .bl v1.2]) (ed' := [(2, some ⟨3, List.map (ow eB) v1.1⟩)]) (by simp only [len_map]) (ed_ok (nb' := [(2, ⟨3, List.map (ow eB) v1.1⟩)]) (by simp only [abs_map]))) k <| se (eff_move k) k <| se (eff_extract k k (by intro _ h; cases h)) k <| se (eff_extract k k (by intro _ h; cases h)) k <| se (eff_assign k) k <| se (eff_assign k) k <| sn <| tn <| sQ <| sQ ?_
 refine rgS <| se (eff_move k) k <| se (w_not k) k <| sn <| tn <| ac_ent (t := mkS [(1, .ptr 0 0 0), (2, .ptr 1 0 0), (4, .own 2 0 v1.1.length), (12, .bl (!v1.2))] [(0, ⟨6, [[.int a0.p, .int a0.q.n, .sc w0_2, .sc w0_3, .sc w0_4, .sc w0_5]]⟩), (1, ⟨18, [[.int 0, .int 0, .int 0, .nil 1, .nil 1, .nil 1, .nil 3, .int 0, .int 0, .nil 1, .nil 1, .nil 1, .nil 3, .nil 6, .nil 3, .nil 3, .nil 1, .nil 2]]⟩), (2, ⟨3, List.map (ow eB) v1.1⟩)] 3 [3, 4, 5, 6, 7, 8] ⟨0, true, fxW W, true⟩) (ent_mk (σ := sg [(0, 0), (1, 1), (2, 2)]) ⟨(pE k k), (pE k k), (oE k k), (e1 k k), trivial⟩ (hP k k k k <| hP k k k k <| hB (okBr.plainO _) k k k <| trivial) k) ?_
 rcases cb h with ⟨q2, h⟩ | ⟨q2, h⟩
 ·refine ac_condT k q2 <| sQ <| rgS <| se (w_build TT_ok k k k k k k) k <| se (w_store TT_ok k k k k k k k k) k <| se (eff_assign k) k <| sn <| tn <| ac_ret <| then_ret ?_
  obtain rfl := so h
  exact ret_mk k k k (xz_tuple k (xB_cons (xB_agg (x1_cons (k) (x1_cons (k) (x1_cons (k) (x1_cons (k) (x1_cons (k) (x1_cons (k) (x1_cons (k) (x1_cons (k) (x1_cons (k) (x1_cons (k) (x1_cons (k) (x1_cons (k) (x1_cons (k) (x1_cons (k) (x1_cons (k) (x1_cons (k) (x1_cons (k) (x1_cons (k) x1_nil))))))))))))))))))) (xB_cons (k) xB_nil)))
 ·refine ac_condF k q2 <| ac_skip <| tn <| sQ <| rgS <| se (w_load_ptr TT_ok k k k k k k k) k ?_
  obtain ⟨v3, hv3, h⟩ := ob h
  refine se (AEff.conv (w_call0K (x := .agg [.int v3.p, .int v3.q.n, .own 3 0 (List.map eI v3.q.src).length, .own 4 0 (List.map eI v3.q.tgt).length, .own 5 0 (List.map eI v3.dims).length, .own 6 0 (List.map eM v3.maps).length]) (nb := [(3, ⟨1, absEs (List.map eI v3.q.src)⟩), (4, ⟨1, absEs (List.map eI v3.q.tgt)⟩), (5, ⟨1, absEs (List.map eI v3.dims)⟩), (6, ⟨3, absEs (List.map eM v3.maps)⟩)]) (c_impl_Rep_clone a0 v3 hv3) k (by rfl) k k (g1_cons trivial (g1_cons trivial (g1_cons (okI.good _) (g1_cons (okI.good _) (g1_cons (okI.good _) (g1_cons (okMt.good _) g1_nil)))))) (vk_cons (.inr (raw_cons (raw1_sc k k) (raw_cons (raw1_sc k k) (raw_cons (raw1_d k r0_2) (raw_cons (raw1_d k r0_3) (raw_cons (raw1_d k r0_4) (raw_cons (raw1_d k r0_5) raw_nil))))))) vk_nil)) (v' := .agg [.int v3.p, .int v3.q.n, .own 3 0 v3.q.src.length, .own 4 0 v3.q.tgt.length, .own 5 0 v3.dims.length, .own 6 0 v3.maps.length]) (ed' := [(3, some ⟨1, List.map (ow eI) v3.q.src⟩), (4, some ⟨1, List.map (ow eI) v3.q.tgt⟩), (5, some ⟨1, List.map (ow eI) v3.dims⟩), (6, some ⟨3, List.map (ow eM) v3.maps⟩)]) (by simp only [len_map]) (ed_ok (nb' := [(3, ⟨1, List.map (ow eI) v3.q.src⟩), (4, ⟨1, List.map (ow eI) v3.q.tgt⟩), (5, ⟨1, List.map (ow eI) v3.dims⟩), (6, ⟨3, List.map (ow eM) v3.maps⟩)]) (by simp only [abs_map]))) k <| se (eff_move k) k <| se (w_build TT_ok k k k k k k) k <| se (w_store TT_ok k k k k k k k k) k <| se (eff_assign k) k <| sn <| tn <| ac_ret ?_
  obtain rfl := so h
  exact ret_mk k k k (xz_tuple k (xB_cons (xB_agg (x1_cons (k) (x1_cons (k) (x1_cons (k) (x1_cons (x_f1 okI k k) (x1_cons (x_f1 okI k k) (x1_cons (x_f1 okI k k) (x1_cons (x_f1 okMt k k) (x1_cons (k) (x1_cons (k) (x1_cons (k) (x1_cons (k) (x1_cons (k) (x1_cons (k) (x1_cons (k) (x1_cons (k) (x1_cons (x_f1 okBr k k) (x1_cons (k) (x1_cons (k) x1_nil))))))))))))))))))) (xB_cons (k) xB_nil)))

noncomputable def m_spec_ClaimOfBars (a0 : Rp) : Option (Cl × Bool) :=
  Option.bind (m_spec_BarsOf a0) fun v1 =>
  bif !v1.2 then
    (some (((⟨0, (⟨0, (⟨0, [], []⟩ : Qv), [], []⟩ : Rp), (⟨0, (⟨0, [], []⟩ : Qv), [], []⟩ : Rp), [], [], [], [], []⟩ : Cl), false)))
  else
    (Option.bind (m_spec_l8Copy a0) fun v3 =>
    some (((⟨5, v3, (⟨0, (⟨0, [], []⟩ : Qv), [], []⟩ : Rp), [], [], v1.1, [], []⟩ : Cl), true)))

theorem c_spec_ClaimOfBars (a0 : Rp) (r : (Cl × Bool)) (h : m_spec_ClaimOfBars a0 = some r) : HasC Try.prog 7 [.agg (eR a0)] (.tuple [.agg (eC r.1), .bl r.2]) := by
 refine hasC_mkW TT_ok (rvs := [.cell 2 37, .tmp 3]) (ns := [0, 1, 2, 3, 4, 5, 6, 7, 8]) Try.func7 k k Try.ntmps7 k k k (fun W => ?_)
 refine rawE_agg <| rawC_sc <| rawC_sc <| rawC_d (fun w0_2 S0_2 r0_2 => ?_)
 refine rawC_d (fun w0_3 S0_3 r0_3 => ?_)
 refine rawC_d (fun w0_4 S0_4 r0_4 => ?_)
 refine rawC_d (fun w0_5 S0_5 r0_5 => ?_)
 refine rawC_nil <| rawE_nil <| sQ <| rgS <| se (w_box k k k k) k <| se (w_alloc TT_ok k k) k <| se (eff_assign k) k <| sn <| tn <| sQ ?_
 refine rgS <| se (w_load_ptr TT_ok k k k k k k k) k ?_
 obtain ⟨v1, hv1, h⟩ := ob h
 refine se (AEff.conv (w_call0K (x := .tuple [.own 2 0 (List.map eB v1.1).length, .bl v1.2]) (nb := [(2, ⟨3, absEs (List.map eB v1.1)⟩)]) (c_spec_BarsOf a0 v1 hv1) k (by rfl) k k (gB_cons (okBr.good _) (gB_cons trivial gB_nil)) (vk_cons (.inr (raw_cons (raw1_sc k k) (raw_cons (raw1_sc k k) (raw_cons (raw1_d k r0_2) (raw_cons (raw1_d k r0_3) (raw_cons (raw1_d k r0_4) (raw_cons (raw1_d k r0_5) raw_nil))))))) vk_nil)) (v' := .tuple [.own 2 0 v1.1.length, .bl v1.2]) (ed' := [(2, some ⟨3, List.map (ow eB) v1.1⟩)]) (by simp only [len_map]) (ed_ok (nb' := [(2, ⟨3, List.map (ow eB) v1.1⟩)]) (by simp only [abs_map]))) k <| se (eff_move k) k <| se (eff_extract k k (by intro _ h; cases h)) k <| se (eff_extract k k (by intro _ h; cases h)) k <| se (eff_assign k) k <| se (eff_assign k) k <| sn <| tn <| sQ <| sQ ?_
 refine rgS <| se (eff_move k) k <| se (w_not k) k <| sn <| tn <| ac_ent (t := mkS [(1, .ptr 0 0 0), (2, .ptr 1 0 0), (4, .own 2 0 v1.1.length), (12, .bl (!v1.2))] [(0, ⟨6, [[.int a0.p, .int a0.q.n, .sc w0_2, .sc w0_3, .sc w0_4, .sc w0_5]]⟩), (1, ⟨18, [[.int 0, .int 0, .int 0, .nil 1, .nil 1, .nil 1, .nil 3, .int 0, .int 0, .nil 1, .nil 1, .nil 1, .nil 3, .nil 6, .nil 3, .nil 3, .nil 1, .nil 2]]⟩), (2, ⟨3, List.map (ow eB) v1.1⟩)] 3 [3, 4, 5, 6, 7, 8] ⟨0, true, fxW W, true⟩) (ent_mk (σ := sg [(0, 0), (1, 1), (2, 2)]) ⟨(pE k k), (pE k k), (oE k k), (e1 k k), trivial⟩ (hP k k k k <| hP k k k k <| hB (okBr.plainO _) k k k <| trivial) k) ?_
 rcases cb h with ⟨q2, h⟩ | ⟨q2, h⟩
 ·refine ac_condT k q2 <| sQ <| rgS <| se (w_build TT_ok k k k k k k) k <| se (w_store TT_ok k k k k k k k k) k <| se (eff_assign k) k <| sn <| tn <| ac_ret <| then_ret ?_
  obtain rfl := so h
  exact ret_mk k k k (xz_tuple k (xB_cons (xB_agg (x1_cons (k) (x1_cons (k) (x1_cons (k) (x1_cons (k) (x1_cons (k) (x1_cons (k) (x1_cons (k) (x1_cons (k) (x1_cons (k) (x1_cons (k) (x1_cons (k) (x1_cons (k) (x1_cons (k) (x1_cons (k) (x1_cons (k) (x1_cons (k) (x1_cons (k) (x1_cons (k) x1_nil))))))))))))))))))) (xB_cons (k) xB_nil)))
 ·refine ac_condF k q2 <| ac_skip <| tn <| sQ <| rgS <| se (w_load_ptr TT_ok k k k k k k k) k ?_
  obtain ⟨v3, hv3, h⟩ := ob h
  refine se (AEff.conv (w_call0K (x := .agg [.int v3.p, .int v3.q.n, .own 3 0 (List.map eI v3.q.src).length, .own 4 0 (List.map eI v3.q.tgt).length, .own 5 0 (List.map eI v3.dims).length, .own 6 0 (List.map eM v3.maps).length]) (nb := [(3, ⟨1, absEs (List.map eI v3.q.src)⟩), (4, ⟨1, absEs (List.map eI v3.q.tgt)⟩), (5, ⟨1, absEs (List.map eI v3.dims)⟩), (6, ⟨3, absEs (List.map eM v3.maps)⟩)]) (c_spec_l8Copy a0 v3 hv3) k (by rfl) k k (g1_cons trivial (g1_cons trivial (g1_cons (okI.good _) (g1_cons (okI.good _) (g1_cons (okI.good _) (g1_cons (okMt.good _) g1_nil)))))) (vk_cons (.inr (raw_cons (raw1_sc k k) (raw_cons (raw1_sc k k) (raw_cons (raw1_d k r0_2) (raw_cons (raw1_d k r0_3) (raw_cons (raw1_d k r0_4) (raw_cons (raw1_d k r0_5) raw_nil))))))) vk_nil)) (v' := .agg [.int v3.p, .int v3.q.n, .own 3 0 v3.q.src.length, .own 4 0 v3.q.tgt.length, .own 5 0 v3.dims.length, .own 6 0 v3.maps.length]) (ed' := [(3, some ⟨1, List.map (ow eI) v3.q.src⟩), (4, some ⟨1, List.map (ow eI) v3.q.tgt⟩), (5, some ⟨1, List.map (ow eI) v3.dims⟩), (6, some ⟨3, List.map (ow eM) v3.maps⟩)]) (by simp only [len_map]) (ed_ok (nb' := [(3, ⟨1, List.map (ow eI) v3.q.src⟩), (4, ⟨1, List.map (ow eI) v3.q.tgt⟩), (5, ⟨1, List.map (ow eI) v3.dims⟩), (6, ⟨3, List.map (ow eM) v3.maps⟩)]) (by simp only [abs_map]))) k <| se (eff_move k) k <| se (w_build TT_ok k k k k k k) k <| se (w_store TT_ok k k k k k k k k) k <| se (eff_assign k) k <| sn <| tn <| ac_ret ?_
  obtain rfl := so h
  exact ret_mk k k k (xz_tuple k (xB_cons (xB_agg (x1_cons (k) (x1_cons (k) (x1_cons (k) (x1_cons (x_f1 okI k k) (x1_cons (x_f1 okI k k) (x1_cons (x_f1 okI k k) (x1_cons (x_f1 okMt k k) (x1_cons (k) (x1_cons (k) (x1_cons (k) (x1_cons (k) (x1_cons (k) (x1_cons (k) (x1_cons (k) (x1_cons (k) (x1_cons (x_f1 okBr k k) (x1_cons (k) (x1_cons (k) x1_nil))))))))))))))))))) (xB_cons (k) xB_nil)))

end Go.Proofs.Ytdhjmmnjapkmkaa
end

section
set_option linter.unusedVariables false
set_option linter.unusedSimpArgs false

namespace Go.Proofs.Ytdhjmmnjapkmkaa
open Go.RowKit
set_option linter.unusedVariables false
def atR (r : Rp) (v w : Int) : Int := if v < 0 ∨ (r.dims.length : Int) ≤ w then 0 else rR r v.toNat w.toNat
def cntR (r : Rp) (v w : Nat) : Int := atR r v w - atR r ((v : Int) - 1) w - atR r v ((w : Int) + 1) + atR r ((v : Int) - 1) ((w : Int) + 1)
def barR (r : Rp) (v w : Nat) : List Br := if cntR r v w = 0 then [] else [⟨v, w, cntR r v w⟩]
def barRow (r : Rp) (v k : Nat) : List Br := (List.range' v (k - v)).flatMap (barR r v)
def barsR (r : Rp) (k : Nat) : List Br := (List.range k).flatMap fun v => barRow r v r.dims.length
theorem atR_bd {r : Rp} (hb : ∀ i j, 0 ≤ rR r i j ∧ rR r i j ≤ 100) (v w : Int) : 0 ≤ atR r v w ∧ atR r v w ≤ 100 := by
 unfold atR
 split
 ·omega
 ·exact hb _ _
theorem n_atI {r : Rp} {v w : Int} (hv : v < r.dims.length) (hw : 0 ≤ w) : m_impl_BarsOf_1 v w (tabR r) = some (atR r v w) := by
 unfold m_impl_BarsOf_1 atR
 rw [tabR_len]
 by_cases h1 : v < 0
 ·rw [decide_eq_true h1, cond_true, if_pos (.inl h1)]
 ·rw [decide_eq_false h1, cond_false]
  by_cases h2 : (r.dims.length : Int) ≤ w
  ·rw [decide_eq_true h2, cond_true, if_pos (.inr h2)]
  ·obtain ⟨a, rfl⟩ : ∃ a : Nat, v = a := ⟨v.toNat, by omega⟩
   obtain ⟨b, rfl⟩ : ∃ b : Nat, w = b := ⟨w.toNat, by omega⟩
   rw [decide_eq_false h2, cond_false, tabR_at (by omega), Option.bind_some, if_neg (by omega), atL_nat (by rw [rowL_len]; omega), Option.bind_some]
   simp [rowL]
theorem n_atS {r : Rp} {v w : Int} (hv : v < r.dims.length) (hw : 0 ≤ w) : m_spec_l23At (tabR r) v w = some (atR r v w) := n_atI hv hw
theorem barRow_succ {r : Rp} {v w : Nat} (h : v ≤ w) : barRow r v (w + 1) = barRow r v w ++ barR r v w := by
 unfold barRow
 rw [show w + 1 - v = (w - v) + 1 by omega, List.range'_concat, List.flatMap_append, List.flatMap_singleton, show v + 1 * (w - v) = w by omega]
theorem n_barI {r : Rp} (hb : ∀ i j, 0 ≤ rR r i j ∧ rR r i j ≤ 100) (hm : r.dims.length ≤ 100) {v : Nat} (hv : v < r.dims.length) {out : List Br} (ho : out.length ≤ 100000) (x1 : List Br) : ∀ (d w : Nat), v ≤ w → w + d = r.dims.length →
  Lp (m_impl_BarsOf_L2 (tabR r, true) (x1, (v : Int))) (out ++ barRow r v w, (w : Int)) = some (out ++ barRow r v r.dims.length)
 | 0, w, hvw, hd => by
  have : w = r.dims.length := by omega
  subst this
  refine Lp_stop ?_
  unfold m_impl_BarsOf_L2
  simp only
  rw [tabR_len, dnl (Nat.le_refl _), cond_false]
 | d + 1, w, hvw, hd => by
  have hw : w < r.dims.length := by omega
  have b1 := atR_bd hb v w
  have b2 := atR_bd hb ((v : Int) - 1) w
  have b3 := atR_bd hb v ((w : Int) + 1)
  have b4 := atR_bd hb ((v : Int) - 1) ((w : Int) + 1)
  have hl : (barRow r v w).length ≤ 100 := by
   have : ∀ (l : List Nat), (l.flatMap (barR r v)).length ≤ l.length := by
    intro l
    induction l with
    | nil => simp
    | cons a l ih =>
     have h1 : (barR r v a).length ≤ 1 := by unfold barR; split <;> simp
     rw [List.flatMap_cons, List.length_append, List.length_cons]
     omega
   have := this (List.range' v (w - v))
   unfold barRow
   rw [List.length_range'] at this
   omega
  have hbd : m_impl_BarsOf_L2 (tabR r, true) (x1, (v : Int)) (out ++ barRow r v w, (w : Int)) = some (.inl (out ++ barRow r v (w + 1), ((w + 1 : Nat) : Int))) := by
   unfold m_impl_BarsOf_L2
   simp only
   rw [tabR_len, dlt hw, cond_true, wr_sm (x := (v : Int) - 1) (by omega), wr_sm (x := (w : Int) + 1) (by omega), n_atI (by omega) (by omega), Option.bind_some, n_atI (by omega) (by omega), Option.bind_some, n_atI (by omega) (by omega), Option.bind_some, n_atI (by omega) (by omega), Option.bind_some,
    wr_sm (x := atR r v w - atR r ((v : Int) - 1) w) (by omega), wr_sm (x := atR r v w - atR r ((v : Int) - 1) w - atR r v ((w : Int) + 1)) (by omega), wr_sm (by omega)]
   show (bif !decide (cntR r v w = 0) then _ else _) = _
   rw [barRow_succ hvw, ← List.append_assoc]
   unfold barR
   by_cases h0 : cntR r v w = 0
   ·rw [decide_eq_true h0, Bool.not_true, cond_false, if_pos h0, List.append_nil]
    rfl
   ·rw [decide_eq_false h0, Bool.not_false, cond_true, decide_eq_true (by simp; omega), cond_true, if_neg h0]
    rfl
  rw [Lp_step hbd]
  exact n_barI hb hm hv ho x1 d (w + 1) (by omega) (by omega)
theorem n_barS {r : Rp} (hb : ∀ i j, 0 ≤ rR r i j ∧ rR r i j ≤ 100) (hn : ∀ v w, v ≤ w → w < r.dims.length → 0 ≤ cntR r v w) (hm : r.dims.length ≤ 100) {v : Nat} (hv : v < r.dims.length) {out : List Br} (ho : out.length ≤ 100000) (x1 : List Br) : ∀ (d w : Nat), v ≤ w → w + d = r.dims.length →
  Lp (m_spec_BarsOf_L2 (tabR r, true) (x1, (v : Int))) (out ++ barRow r v w, (w : Int)) = some (out ++ barRow r v r.dims.length)
 | 0, w, hvw, hd => by
  have : w = r.dims.length := by omega
  subst this
  refine Lp_stop ?_
  unfold m_spec_BarsOf_L2
  simp only
  rw [tabR_len, dnl (Nat.le_refl _), cond_false]
 | d + 1, w, hvw, hd => by
  have hw : w < r.dims.length := by omega
  have b1 := atR_bd hb v w
  have b2 := atR_bd hb ((v : Int) - 1) w
  have b3 := atR_bd hb v ((w : Int) + 1)
  have b4 := atR_bd hb ((v : Int) - 1) ((w : Int) + 1)
  have hl : (barRow r v w).length ≤ 100 := by
   have : ∀ (l : List Nat), (l.flatMap (barR r v)).length ≤ l.length := by
    intro l
    induction l with
    | nil => simp
    | cons a l ih =>
     have h1 : (barR r v a).length ≤ 1 := by unfold barR; split <;> simp
     rw [List.flatMap_cons, List.length_append, List.length_cons]
     omega
   have := this (List.range' v (w - v))
   unfold barRow
   rw [List.length_range'] at this
   omega
  have hbd : m_spec_BarsOf_L2 (tabR r, true) (x1, (v : Int)) (out ++ barRow r v w, (w : Int)) = some (.inl (out ++ barRow r v (w + 1), ((w + 1 : Nat) : Int))) := by
   unfold m_spec_BarsOf_L2
   simp only
   rw [tabR_len, dlt hw, cond_true, wr_sm (x := (v : Int) - 1) (by omega), wr_sm (x := (w : Int) + 1) (by omega), n_atS (by omega) (by omega), Option.bind_some, n_atS (by omega) (by omega), Option.bind_some, n_atS (by omega) (by omega), Option.bind_some, n_atS (by omega) (by omega), Option.bind_some,
    wr_sm (x := atR r v w - atR r ((v : Int) - 1) w) (by omega), wr_sm (x := atR r v w - atR r ((v : Int) - 1) w - atR r v ((w : Int) + 1)) (by omega), wr_sm (by omega)]
   have hc := hn v w hvw hw
   show (bif decide (0 < cntR r v w) then _ else _) = _
   rw [barRow_succ hvw, ← List.append_assoc]
   unfold barR
   by_cases h0 : cntR r v w = 0
   ·rw [decide_eq_false (by omega), cond_false, if_pos h0, List.append_nil]
    rfl
   ·rw [decide_eq_true (by omega), cond_true, decide_eq_true (by simp; omega), cond_true, if_neg h0]
    rfl
  rw [Lp_step hbd]
  exact n_barS hb hn hm hv ho x1 d (w + 1) (by omega) (by omega)
theorem barRow_len (r : Rp) (v k : Nat) : (barRow r v k).length ≤ k := by
 have : ∀ (l : List Nat), (l.flatMap (barR r v)).length ≤ l.length := by
  intro l
  induction l with
  | nil => simp
  | cons a l ih =>
   have h1 : (barR r v a).length ≤ 1 := by unfold barR; split <;> simp
   rw [List.flatMap_cons, List.length_append, List.length_cons]
   omega
 have := this (List.range' v (k - v))
 unfold barRow
 rw [List.length_range'] at this
 omega
theorem barsR_succ (r : Rp) (k : Nat) : barsR r (k + 1) = barsR r k ++ barRow r k r.dims.length := by
 unfold barsR
 rw [List.range_succ, List.flatMap_append, List.flatMap_singleton]
theorem barsR_len {r : Rp} (hm : r.dims.length ≤ 100) : ∀ k, (barsR r k).length ≤ 100 * k
 | 0 => by simp [barsR]
 | k + 1 => by
  have := barsR_len hm k
  have := barRow_len r k r.dims.length
  rw [barsR_succ, List.length_append]
  omega
theorem barRow_nil (r : Rp) (v : Nat) : barRow r v v = [] := by unfold barRow; rw [Nat.sub_self]; rfl
theorem n_barsI {r : Rp} (hb : ∀ i j, 0 ≤ rR r i j ∧ rR r i j ≤ 100) (hm : r.dims.length ≤ 100) : Lp (m_impl_BarsOf_L1 (tabR r, true)) (([] : List Br), 0) = some (barsR r r.dims.length) := by
 refine Lp_go (fun k => (barsR r k, (k : Int))) r.dims.length rfl (fun k hk => ?_) (fun _ => ?_)
 ·have := barsR_len hm k
  have h := n_barI hb hm hk (out := barsR r k) (by omega) (barsR r k) (r.dims.length - k) k (Nat.le_refl _) (by omega)
  rw [barRow_nil, List.append_nil] at h
  unfold m_impl_BarsOf_L1
  simp only
  rw [tabR_len, dlt hk, cond_true, h, Option.bind_some, wr_suc hk (by omega), barsR_succ]
 ·unfold m_impl_BarsOf_L1
  simp only
  rw [tabR_len, dnl (Nat.le_refl _), cond_false]
theorem n_barsS {r : Rp} (hb : ∀ i j, 0 ≤ rR r i j ∧ rR r i j ≤ 100) (hn : ∀ v w, v ≤ w → w < r.dims.length → 0 ≤ cntR r v w) (hm : r.dims.length ≤ 100) : Lp (m_spec_BarsOf_L1 (tabR r, true)) (([] : List Br), 0) = some (barsR r r.dims.length) := by
 refine Lp_go (fun k => (barsR r k, (k : Int))) r.dims.length rfl (fun k hk => ?_) (fun _ => ?_)
 ·have := barsR_len hm k
  have h := n_barS hb hn hm hk (out := barsR r k) (by omega) (barsR r k) (r.dims.length - k) k (Nat.le_refl _) (by omega)
  rw [barRow_nil, List.append_nil] at h
  unfold m_spec_BarsOf_L1
  simp only
  rw [tabR_len, dlt hk, cond_true, h, Option.bind_some, wr_suc hk (by omega), barsR_succ]
 ·unfold m_spec_BarsOf_L1
  simp only
  rw [tabR_len, dnl (Nat.le_refl _), cond_false]
theorem rR_bd {r : Rp} (L : Ln r) (i j : Nat) : 0 ≤ rR r i j ∧ rR r i j ≤ 100 := by
 have h2 : dN r i ≤ 4 := by
  by_cases hi : i < r.dims.length
  ·exact (L.d i hi).2
  ·unfold dN
   rw [List.getElem?_eq_none (by omega)]
   decide
 unfold rR rkF
 split
 ·have h1 := redUp_len' (p := r.p) (m := dN r j) (F := chF r i (j - i)) (dN r i)
  omega
 ·omega
def barsV (r : Rp) : List Br × Bool := bif repV r && lineV r.q then (barsR r r.dims.length, true) else ([], false)
theorem n_implBars {r : Rp} (h : bR r) : m_impl_BarsOf r = some (barsV r) := by
 unfold m_impl_BarsOf barsV
 rw [n_implTable h, Option.bind_some]
 cases hc : repV r && lineV r.q with
 | false => rfl
 | true =>
  rw [Bool.and_eq_true] at hc
  have L := ln_of hc.1 hc.2
  have n5 := L.n5
  rw [cond_true, cond_true, Bool.not_true, cond_false, n_barsI (rR_bd L) (by omega), Option.bind_some]
def BarsNN (r : Rp) : Prop := repV r = true → lineV r.q = true → ∀ v w, v ≤ w → w < r.dims.length → 0 ≤ cntR r v w
theorem n_specBars {r : Rp} (h : bR r) (hn : BarsNN r) : m_spec_BarsOf r = some (barsV r) := by
 unfold m_spec_BarsOf barsV
 rw [n_specTable h, Option.bind_some]
 cases hc : repV r && lineV r.q with
 | false => rw [cond_false, cond_false, Lp_stop (r := []) (by unfold m_spec_BarsOf_L1; rfl), Option.bind_some]
 | true =>
  rw [Bool.and_eq_true] at hc
  have L := ln_of hc.1 hc.2
  have n5 := L.n5
  rw [cond_true, cond_true, n_barsS (rR_bd L) (hn hc.1 hc.2) (by omega), Option.bind_some]
end Go.Proofs.Ytdhjmmnjapkmkaa
end

section
set_option linter.unusedVariables false
set_option linter.unusedSimpArgs false

namespace Go.Proofs.Ytdhjmmnjapkmkaa
open Go.RowKit
set_option linter.unusedVariables false
def sN (f : Nat → Int) : Nat → Int
 | 0 => 0
 | k + 1 => sN f k + f k
theorem sN_congr {f g : Nat → Int} : ∀ {n : Nat}, (∀ k, k < n → f k = g k) → sN f n = sN g n
 | 0, _ => rfl
 | n + 1, h => by rw [sN, sN, sN_congr fun k hk => h k (by omega), h n (by omega)]
theorem sN_add (f g : Nat → Int) : ∀ n, sN (fun k => f k + g k) n = sN f n + sN g n
 | 0 => rfl
 | n + 1 => by rw [sN, sN, sN, sN_add f g n]; omega
theorem sN_mul (c : Int) (f : Nat → Int) : ∀ n, sN (fun k => c * f k) n = c * sN f n
 | 0 => by simp [sN]
 | n + 1 => by rw [sN, sN, sN_mul c f n, Int.mul_add]
theorem sN_zero : ∀ n, sN (fun _ => 0) n = 0
 | 0 => rfl
 | n + 1 => by rw [sN, sN_zero n]; rfl
theorem sN_one {f : Nat → Int} {j : Nat} : ∀ {n : Nat}, j < n → (∀ k, k < n → k ≠ j → f k = 0) → sN f n = f j
 | 0, h, _ => absurd h (Nat.not_lt_zero _)
 | n + 1, h, hz => by
  rw [sN]
  by_cases e : j = n
  ·subst e
   rw [sN_congr (g := fun _ => 0) fun k hk => hz k (by omega) (by omega), sN_zero]; omega
  ·rw [sN_one (j := j) (by omega) fun k hk hj => hz k (by omega) hj, hz n (by omega) (by omega)]; omega
def Z0 (p x : Int) : Prop := x % p = 0
theorem z0_add {p x y : Int} (h : Z0 p x) (k : Z0 p y) : Z0 p (x + y) := by unfold Z0 at *; rw [Int.add_emod, h, k]; simp
theorem z0_mul {p x : Int} (c : Int) (h : Z0 p x) : Z0 p (c * x) := by unfold Z0 at *; rw [Int.mul_emod, h]; simp
theorem z0_sN {p : Int} {f g : Nat → Int} : ∀ {n : Nat}, (∀ k, k < n → f k % p = g k % p) → sN f n % p = sN g n % p
 | 0, _ => rfl
 | n + 1, h => by rw [sN, sN, Int.add_emod, z0_sN fun k hk => h k (by omega), h n (by omega), ← Int.add_emod]
theorem z0_congr {p x y : Int} (h : x % p = y % p) (k : Z0 p x) : Z0 p y := by unfold Z0 at *; rw [← h]; exact k
def dt (n : Nat) (f x : Nat → Int) : Int := sN (fun k => f k * x k) n
def Kr (p : Int) (m n : Nat) (F : Nat → Nat → Int) (x : Nat → Int) : Prop := ∀ i, i < m → Z0 p (dt n (F i) x)
theorem dt_mod {p : Int} {n : Nat} {f g x : Nat → Int} (h : ∀ k, k < n → f k % p = g k % p) : dt n f x % p = dt n g x % p := by
 unfold dt
 refine z0_sN fun k hk => ?_
 rw [Int.mul_emod, h k hk, ← Int.mul_emod]
theorem dt_add {n : Nat} {f g x : Nat → Int} (c : Int) : dt n (fun k => f k + c * g k) x = dt n f x + c * dt n g x := by
 unfold dt
 rw [← sN_mul, ← sN_add]
 refine sN_congr fun k hk => ?_
 rw [Int.add_mul, Int.mul_assoc]
theorem dt_smul {n : Nat} {f x : Nat → Int} (c : Int) : dt n (fun k => c * f k) x = c * dt n f x := by
 unfold dt
 rw [← sN_mul]
 refine sN_congr fun k hk => ?_
 rw [Int.mul_assoc]
theorem ker_step {p : Int} (hp : isF p = true) {m n k r j : Nat} (hj : j < n) (hk : k < m) (hr : r < m) {F : Nat → Nat → Int} (hin : InP p m n F) (hrj : F r j ≠ 0) (x : Nat → Int) : Kr p m n (redPart p F k r j) x ↔ Kr p m n F x := by
 have hb := isF_bd hp
 have hrb := hin r j hr hj
 have hiv := inv_ok hp (r := F r j) ⟨by omega, by omega⟩
 generalize hs : invR p (F r j) = s at *
 have hrow : ∀ c, redPart p F k r j k c = (F r c * s) % p := by intro c; simp [redPart, elimF, scaleF, swapF, hs]
 have hoth : ∀ i c, i ≠ k → redPart p F k r j i c = ((if i = r then F k c else F i c) - (if i = r then F k j else F i j) * redPart p F k r j k c) % p := by
  intro i c hi
  simp [redPart, elimF, scaleF, swapF, hi, hs]
 -- what the row k gives
 have e1 : dt n (redPart p F k r j k) x % p = (s * dt n (F r) x) % p := by
  rw [← dt_smul]
  refine dt_mod fun c hc => ?_
  rw [hrow, Int.mul_comm, Int.emod_emod_of_dvd _ (Int.dvd_refl p)]
 have e2 : dt n (F r) x % p = (F r j * dt n (redPart p F k r j k) x) % p := by
  rw [← dt_smul]
  refine dt_mod fun c hc => ?_
  rw [hrow, Int.mul_emod, Int.emod_emod_of_dvd _ (Int.dvd_refl p), ← Int.mul_emod, show F r j * (F r c * s) = (F r j * s) * F r c by rw [Int.mul_comm (F r c), Int.mul_assoc], Int.mul_emod, hiv.2.2]
  simp
 have e3 : ∀ i, i ≠ k → ∀ G : Nat → Int, (∀ c, G c = if i = r then F k c else F i c) → dt n (redPart p F k r j i) x % p = (dt n G x + -(G j) * dt n (redPart p F k r j k) x) % p := by
  intro i hi G hG
  rw [← dt_add]
  refine dt_mod fun c hc => ?_
  rw [hoth i c hi, Int.emod_emod_of_dvd _ (Int.dvd_refl p), ← hG, ← hG, Int.neg_mul, Int.sub_eq_add_neg]
 constructor
 ·intro h
  have hkk := h k hk
  have hrr : Z0 p (dt n (F r) x) := by unfold Z0; rw [e2]; exact z0_mul _ hkk
  have key : ∀ i, i < m → i ≠ k → Z0 p (dt n (fun c => if i = r then F k c else F i c) x) := by
   intro i hi hik
   have h1 := h i hi
   unfold Z0 at h1
   rw [e3 i hik (fun c => if i = r then F k c else F i c) (fun c => rfl)] at h1
   have h2 := z0_add (y := (if i = r then F k j else F i j) * dt n (redPart p F k r j k) x) h1 (z0_mul _ hkk)
   refine z0_congr (congrArg (· % p) ?_) h2
   rw [Int.neg_mul]; omega
  intro i hi
  by_cases e : i = r
  ·subst e; exact hrr
  ·by_cases e4 : i = k
   ·subst e4
    have := key r hr (fun h => e h.symm)
    simpa using this
   ·have := key i hi e4
    simpa [e] using this
 ·intro h
  have hkk : Z0 p (dt n (redPart p F k r j k) x) := by unfold Z0; rw [e1]; exact z0_mul _ (h r hr)
  intro i hi
  by_cases e : i = k
  ·subst e; exact hkk
  ·unfold Z0
   rw [e3 i e (fun c => if i = r then F k c else F i c) (fun c => rfl)]
   refine z0_add ?_ (z0_mul _ hkk)
   by_cases e4 : i = r
   ·simp only [e4, if_true]; exact h k hk
   ·simp only [e4, if_false]; exact h i hi
theorem ker_red {p : Int} (hp : isF p = true) {m n : Nat} {F : Nat → Nat → Int} (hin : InP p m n F) (x : Nat → Int) : ∀ t, t ≤ n → (Kr p m n (redUp p m F t).1 x ↔ Kr p m n F x)
 | 0, _ => Iff.rfl
 | t + 1, ht => by
  have ih := ker_red hp hin x t (by omega)
  have hin2 := redUp_in (by have := isF_bd hp; omega : 0 < p) hin t
  have hlen := @redUp_len p m F t
  show Kr p m n (redStep p m (redUp p m F t) t).1 x ↔ _
  unfold redStep
  split
  ·exact ih
  ·rename_i h1
   have hle := @pivot_le (redUp p m F t).1 t (m - (redUp p m F t).2.length) (redUp p m F t).2.length
   have hh := @pivot_hit (redUp p m F t).1 t (m - (redUp p m F t).2.length) (redUp p m F t).2.length (by omega)
   refine Iff.trans ?_ ih
   exact ker_step hp (by omega) (by omega) (by omega) hin2 hh x
def kx (F : Nat → Nat → Int) (L : List Nat) (k : Nat) : Nat → Int := fun c => if c = k then 1 else -(sN (fun i => if L[i]?.getD 0 = c then F i k else 0) L.length)
theorem kx_off {F : Nat → Nat → Int} {L : List Nat} {k c : Nat} (hc : c ≠ k) (hL : ∀ i, i < L.length → L[i]?.getD 0 ≠ c) : kx F L k c = 0 := by
 unfold kx
 rw [if_neg hc, sN_congr (g := fun _ => 0) fun i hi => if_neg (hL i hi), sN_zero]; rfl
theorem kx_self {F : Nat → Nat → Int} {L : List Nat} {k : Nat} : kx F L k k = 1 := if_pos rfl
theorem dt_kx {m n : Nat} {F : Nat → Nat → Int} {L : List Nat} (h : Red m n F L) {k : Nat} (hk : k < n) (hL : ∀ i, i < L.length → L[i]?.getD 0 ≠ k) (g : Nat → Int) : dt n g (kx F L k) = g k - sN (fun i => g (L[i]?.getD 0) * F i k) L.length := by
 have key : ∀ a, a ≤ L.length → sN (fun c => g c * (if c = k then 1 else -(sN (fun i => if L[i]?.getD 0 = c then F i k else 0) a))) n = g k - sN (fun i => g (L[i]?.getD 0) * F i k) a := by
  intro a
  induction a with
  | zero =>
   intro _
   rw [sN_one (j := k) hk]
   ·rw [if_pos rfl]; simp [sN]
   ·intro c hc hck
    rw [if_neg hck]; simp [sN]
  | succ a ih =>
   intro ha
   have ih := ih (by omega)
   have hlt := h.lt a (by omega)
   have hne := hL a (by omega)
   have e : sN (fun c => g c * (if c = k then 1 else -(sN (fun i => if L[i]?.getD 0 = c then F i k else 0) (a + 1)))) n
     = sN (fun c => g c * (if c = k then 1 else -(sN (fun i => if L[i]?.getD 0 = c then F i k else 0) a)) + (if c = L[a]?.getD 0 then -(g c * F a k) else 0)) n := by
    refine sN_congr fun c hc => ?_
    by_cases e1 : c = k
    ·rw [if_pos e1, if_pos e1, if_neg (by omega)]; omega
    ·rw [if_neg e1, if_neg e1]
     simp only [sN]
     by_cases e2 : c = L[a]?.getD 0
     ·rw [if_pos e2, if_pos e2.symm, Int.neg_add, Int.mul_add, Int.mul_neg (g c) (F a k)]
     ·rw [if_neg e2, if_neg (fun h => e2 h.symm)]; simp
   rw [e, sN_add, ih, sN_one (j := L[a]?.getD 0) hlt (fun c _ hc => if_neg hc), if_pos rfl]
   simp only [sN]
   omega
 have := key L.length (Nat.le_refl _)
 exact this
theorem kx_ker {p : Int} {m n : Nat} {F : Nat → Nat → Int} {L : List Nat} (h : Red m n F L) {k : Nat} (hk : k < n) (hL : ∀ i, i < L.length → L[i]?.getD 0 ≠ k) : Kr p m n F (kx F L k) := by
 intro i hi
 rw [dt_kx h hk hL]
 rcases Nat.lt_or_ge i L.length with hl | hl
 ·rw [sN_one (j := i) hl]
  ·rw [h.one i hl]
   unfold Z0
   rw [Int.one_mul, Int.sub_self]; simp
  ·intro t ht hti
   rw [h.col t i ht hi (fun e => hti e.symm)]; simp
 ·rw [h.low i k hl hi hk, sN_congr (g := fun _ => 0) fun t ht => by rw [h.low i _ hl hi (h.lt t ht)]; simp]
  rw [sN_zero]
  unfold Z0; simp
theorem sorted_eq : ∀ {L M : List Nat}, (∀ i k, i < k → k < L.length → L[i]?.getD 0 < L[k]?.getD 0) → (∀ i k, i < k → k < M.length → M[i]?.getD 0 < M[k]?.getD 0) → (∀ i, i < L.length → ∃ j, j < M.length ∧ M[j]?.getD 0 = L[i]?.getD 0) → (∀ j, j < M.length → ∃ i, i < L.length ∧ L[i]?.getD 0 = M[j]?.getD 0) → L = M
 | [], [], _, _, _, _ => rfl
 | [], y :: M, _, _, _, h => by obtain ⟨i, hi, _⟩ := h 0 (by simp); simp at hi
 | x :: L, [], _, _, h, _ => by obtain ⟨i, hi, _⟩ := h 0 (by simp); simp at hi
 | x :: L, y :: M, hL, hM, h1, h2 => by
  have sL : ∀ i k, i < k → k < L.length → L[i]?.getD 0 < L[k]?.getD 0 := fun i k hik hk => by have := hL (i + 1) (k + 1) (by omega) (by simp; omega); simpa using this
  have sM : ∀ i k, i < k → k < M.length → M[i]?.getD 0 < M[k]?.getD 0 := fun i k hik hk => by have := hM (i + 1) (k + 1) (by omega) (by simp; omega); simpa using this
  have xL : ∀ i, i < L.length → x < L[i]?.getD 0 := fun i hi => by have := hL 0 (i + 1) (by omega) (by simp; omega); simpa using this
  have yM : ∀ i, i < M.length → y < M[i]?.getD 0 := fun i hi => by have := hM 0 (i + 1) (by omega) (by simp; omega); simpa using this
  have exy : x = y := by
   obtain ⟨j, hj, e1⟩ := h1 0 (by simp)
   obtain ⟨i, hi, e2⟩ := h2 0 (by simp)
   simp at e1 e2
   have b1 : y ≤ x := by
    cases j with
    | zero => simp at e1; omega
    | succ j => simp at e1 hj; have := yM j hj; omega
   have b2 : x ≤ y := by
    cases i with
    | zero => simp at e2; omega
    | succ i => simp at e2 hi; have := xL i hi; omega
   omega
  subst exy
  congr 1
  refine sorted_eq sL sM (fun i hi => ?_) (fun j hj => ?_)
  ·obtain ⟨j, hj, e⟩ := h1 (i + 1) (by simp; omega)
   simp at e
   have := xL i hi
   cases j with
   | zero => simp at e; omega
   | succ j => simp at e hj; exact ⟨j, hj, e⟩
  ·obtain ⟨i, hi, e⟩ := h2 (j + 1) (by simp; omega)
   simp at e
   have := yM j hj
   cases i with
   | zero => simp at e; omega
   | succ i => simp at e hi; exact ⟨i, hi, e⟩
end Go.Proofs.Ytdhjmmnjapkmkaa
end

section
set_option linter.unusedVariables false
set_option linter.unusedSimpArgs false

namespace Go.Proofs.Ytdhjmmnjapkmkaa
open Go.RowKit
set_option linter.unusedVariables false
theorem free_len {n : Nat} {L : List Nat} (hinc : ∀ i k, i < k → k < L.length → L[i]?.getD 0 < L[k]?.getD 0) (hlt : ∀ x ∈ L, x < n) : (freeL n L).length + L.length = n := by
 have key : ∀ t, ((List.range t).filter fun k => !L.contains k).length + ((List.range t).filter fun k => L.contains k).length = t := by
  intro t
  induction t with
  | zero => simp
  | succ t ih =>
   rw [List.range_succ, List.filter_append, List.filter_append, List.length_append, List.length_append]
   cases h : L.contains t <;> simp only [List.filter_cons, List.filter_nil, h, Bool.not_true, Bool.not_false, Bool.false_eq_true, if_true, if_false, List.length_cons, List.length_nil] <;> omega
 have e : (List.range n).filter (fun k => L.contains k) = L := by
  have hL : ∀ i, i < L.length → L[i]?.getD 0 < n := fun i hi => hlt _ (by rw [List.getElem?_eq_getElem hi]; exact List.getElem_mem hi)
  have hS : ((List.range n).filter fun k => L.contains k).Pairwise (· < ·) := List.Pairwise.filter _ List.pairwise_lt_range
  refine sorted_eq (fun i k hik hk => ?_) hinc (fun i hi => ?_) (fun j hj => ?_)
  ·have := List.pairwise_iff_getElem.1 hS i k (by omega) hk hik
   rw [List.getElem?_eq_getElem (by omega), List.getElem?_eq_getElem hk]
   exact this
  ·have hm := List.getElem_mem hi
   rw [List.mem_filter] at hm
   have h2 := List.contains_iff_mem.1 hm.2
   obtain ⟨j, hj, he⟩ := List.mem_iff_getElem.1 h2
   refine ⟨j, hj, ?_⟩
   rw [List.getElem?_eq_getElem hj, List.getElem?_eq_getElem hi]
   exact he
  ·have hm : L[j] ∈ (List.range n).filter fun k => L.contains k := by
    rw [List.mem_filter]
    exact ⟨List.mem_range.2 (hlt _ (List.getElem_mem hj)), List.contains_iff_mem.2 (List.getElem_mem hj)⟩
   obtain ⟨i, hi, he⟩ := List.mem_iff_getElem.1 hm
   refine ⟨i, hi, ?_⟩
   rw [List.getElem?_eq_getElem hj, List.getElem?_eq_getElem hi]
   exact he
 have := key n
 rw [e] at this
 exact this
end Go.Proofs.Ytdhjmmnjapkmkaa
end

section
set_option linter.unusedVariables false
set_option linter.unusedSimpArgs false

namespace Go.Proofs.Ytdhjmmnjapkmkaa
open Go.RowKit
set_option linter.unusedVariables false
theorem pig : ∀ (n : Nat) (L : List Nat), L.length < n → ∃ k, k < n ∧ k ∉ L
 | 0, L, h => absurd h (Nat.not_lt_zero _)
 | n + 1, L, h => by
  by_cases hm : n ∈ L
  ·obtain ⟨k, hk, hkL⟩ := pig n (L.filter fun x => decide (x ≠ n)) (by
    have h1 : (L.filter fun x => decide (x ≠ n)).length + 1 ≤ L.length := by
     clear h
     induction L with
     | nil => cases hm
     | cons a L ih =>
      by_cases ha : a = n
      ·rw [List.filter_cons_of_neg (by simp [ha])]
       have := List.length_filter_le (fun x => decide (x ≠ n)) L
       simp only [List.length_cons]
       omega
      ·rcases List.mem_cons.1 hm with h | h
       ·exact absurd h.symm ha
       ·rw [List.filter_cons_of_pos (by simp [ha])]
        have := ih h
        simp only [List.length_cons]
        omega
    omega)
   refine ⟨k, by omega, fun hkm => hkL ?_⟩
   rw [List.mem_filter]
   exact ⟨hkm, by simp; omega⟩
  ·exact ⟨n, by omega, hm⟩
theorem exists_sol {p : Int} (hp : isF p = true) {m n : Nat} {F : Nat → Nat → Int} (hin : InP p m n F) (h : (redUp p m F n).2.length < n) : ∃ x, Kr p m n F x ∧ ∃ k, k < n ∧ x k = 1 := by
 obtain ⟨k, hk, hL⟩ := pig n _ h
 have R := red_up hp hin n (Nat.le_refl _)
 refine ⟨kx (redUp p m F n).1 (redUp p m F n).2 k, (ker_red hp hin _ n (Nat.le_refl _)).1 (kx_ker R hk fun i hi e => hL ?_), k, hk, kx_self⟩
 rw [← e, List.getElem?_eq_getElem hi, Option.getD_some]
 exact List.getElem_mem hi
def cmb (c : Nat → Int) (l : Nat → Nat → Int) (s : Nat) : Nat → Int := fun k => sN (fun i => c i * l i k) s
def Ind (p : Int) (n s : Nat) (l : Nat → Nat → Int) : Prop := ∀ c, (∀ k, k < n → Z0 p (cmb c l s k)) → ∀ i, i < s → Z0 p (c i)
theorem dt_cmb {n : Nat} (f : Nat → Int) (c : Nat → Int) (l : Nat → Nat → Int) : ∀ s, dt n f (cmb c l s) = sN (fun i => c i * dt n f (l i)) s
 | 0 => by
  unfold dt cmb
  simp only [sN]
  have := sN_zero n
  refine Eq.trans ?_ this
  exact sN_congr fun k _ => Int.mul_zero _
 | s + 1 => by
  have ih := dt_cmb (n := n) f c l s
  unfold dt cmb at ih ⊢
  simp only [sN]
  rw [← ih, ← sN_mul, ← sN_add]
  exact sN_congr fun k _ => by rw [Int.mul_add, ← Int.mul_assoc, ← Int.mul_assoc, Int.mul_comm (f k) (c s)]
theorem z0_sum {p : Int} {f : Nat → Int} : ∀ {n : Nat}, (∀ k, k < n → Z0 p (f k)) → Z0 p (sN f n)
 | 0, _ => by simp [sN, Z0]
 | n + 1, h => by
  simp only [sN]
  exact z0_add (z0_sum fun k hk => h k (by omega)) (h n (by omega))
theorem kr_cmb {p : Int} {m n : Nat} {F : Nat → Nat → Int} {c : Nat → Int} {l : Nat → Nat → Int} {s : Nat} (h : ∀ i, i < s → Kr p m n F (l i)) : Kr p m n F (cmb c l s) := by
 intro j hj
 rw [dt_cmb]
 exact z0_sum fun i hi => z0_mul _ (h i hi j hj)
theorem kr_zero {p : Int} {m n : Nat} {F : Nat → Nat → Int} {L : List Nat} (R : Red m n F L) {x : Nat → Int} (h : Kr p m n F x) (h0 : ∀ k, k < n → k ∉ L → Z0 p (x k)) : ∀ k, k < n → Z0 p (x k) := by
 intro k hk
 by_cases hm : k ∈ L
 ·obtain ⟨t, ht, rfl⟩ := List.mem_iff_getElem.1 hm
  have hLt : L[t]?.getD 0 = L[t] := by rw [List.getElem?_eq_getElem ht, Option.getD_some]
  have h1 := h t (by have := R.len; omega)
  have h2 : dt n (F t) x % p = sN (fun k => if k = L[t] then x k else 0) n % p := by
   refine z0_sN fun j hj => ?_
   by_cases hjt : j = L[t]
   ·subst hjt
    rw [if_pos rfl]
    have := R.one t ht
    rw [hLt] at this
    rw [this, Int.one_mul]
   ·rw [if_neg hjt]
    by_cases hjm : j ∈ L
    ·obtain ⟨i, hi, rfl⟩ := List.mem_iff_getElem.1 hjm
     have hit : t ≠ i := fun e => hjt (by subst e; rfl)
     have := R.col i t hi (by have := R.len; omega) hit
     rw [List.getElem?_eq_getElem hi, Option.getD_some] at this
     rw [this, Int.zero_mul]
    ·have := z0_mul (F t j) (h0 j hj hjm)
     unfold Z0 at this
     rw [this]
     simp
  rw [sN_one hk fun j hj hjk => if_neg hjk, if_pos rfl] at h2
  unfold Z0 at h1 ⊢
  rw [← h2]
  exact h1
 ·exact h0 k hk hm
theorem fr_len {m n : Nat} {F : Nat → Nat → Int} {L : List Nat} (R : Red m n F L) : (freeL n L).length + L.length = n := free_len R.inc fun x hx => by
 obtain ⟨i, hi, rfl⟩ := List.mem_iff_getElem.1 hx
 have := R.lt i hi
 rwa [List.getElem?_eq_getElem hi, Option.getD_some] at this
theorem fr_mem {n k : Nat} {L : List Nat} : k ∈ freeL n L ↔ k < n ∧ k ∉ L := by
 unfold freeL
 rw [List.mem_filter, List.mem_range]
 simp
theorem ind_le {p : Int} (hp : isF p = true) {m n : Nat} {F : Nat → Nat → Int} (hin : InP p m n F) {s : Nat} {l : Nat → Nat → Int} (hk : ∀ i, i < s → Kr p m n F (l i)) (hI : Ind p n s l) : s + (redUp p m F n).2.length ≤ n := by
 have R := red_up hp hin n (Nat.le_refl _)
 have hb := isF_bd hp
 have hfl := fr_len R
 refine Classical.byContradiction fun hlt => ?_
 generalize hfr : freeL n (redUp p m F n).2 = fr at hfl
 have hA : InP p fr.length s fun a i => l i (fr[a]?.getD 0) % p := fun a i _ _ => ⟨Int.emod_nonneg _ (by omega), Int.emod_lt_of_pos _ (by omega)⟩
 obtain ⟨c, hc, k, hks, hck⟩ := exists_sol hp hA (Nat.lt_of_le_of_lt (red_up hp hA s (Nat.le_refl _)).len (by omega))
 have hv := (ker_red hp hin (cmb c l s) n (Nat.le_refl _)).2 (kr_cmb hk)
 have hz := kr_zero R hv fun j hj hjL => by
  have hm : j ∈ fr := by rw [← hfr]; exact fr_mem.2 ⟨hj, hjL⟩
  obtain ⟨a, ha, rfl⟩ := List.mem_iff_getElem.1 hm
  refine z0_congr ?_ (hc a ha)
  unfold dt cmb
  refine z0_sN fun i hi => ?_
  show l i (fr[a]?.getD 0) % p * c i % p = _
  rw [List.getElem?_eq_getElem ha, Option.getD_some, Int.mul_comm (c i), Int.mul_emod, Int.emod_emod_of_dvd _ (Int.dvd_refl p), ← Int.mul_emod]
 have h1 := hI c hz k hks
 unfold Z0 at h1
 rw [hck, Int.emod_eq_of_lt (by omega) (by omega)] at h1
 omega
theorem sN_split (f : Nat → Int) (a : Nat) : ∀ b, sN f (a + b) = sN f a + sN (fun j => f (a + j)) b
 | 0 => by simp [sN]
 | b + 1 => by
  show sN f (a + b) + f (a + b) = _
  rw [sN_split f a b]
  simp only [sN]
  omega
theorem kr_z0 {p : Int} {m n : Nat} {F : Nat → Nat → Int} {x : Nat → Int} (h : ∀ k, k < n → Z0 p (x k)) : Kr p m n F x := fun i _ => z0_sum fun k hk => z0_mul _ (h k hk)
theorem kr_sub {p : Int} {m n : Nat} {F : Nat → Nat → Int} {x y z : Nat → Int} (h : Kr p m n F x) (k : Kr p m n F y) (e : ∀ j, j < n → z j = x j + (-1) * y j) : Kr p m n F z := by
 intro i hi
 have h1 : dt n (F i) z = dt n (F i) x + (-1) * dt n (F i) y := by
  unfold dt
  rw [← sN_mul, ← sN_add]
  exact sN_congr fun j hj => by rw [e j hj, Int.mul_add, Int.mul_left_comm]
 rw [h1]
 exact z0_add (h i hi) (z0_mul _ (k i hi))
def bas (p : Int) (m n : Nat) (F : Nat → Nat → Int) (i : Nat) : Nat → Int := kx (redUp p m F n).1 (redUp p m F n).2 ((freeL n (redUp p m F n).2)[i]?.getD 0)
def nul (p : Int) (m n : Nat) (F : Nat → Nat → Int) : Nat := (freeL n (redUp p m F n).2).length
theorem nul_eq {p : Int} (hp : isF p = true) {m n : Nat} {F : Nat → Nat → Int} (hin : InP p m n F) : nul p m n F + (redUp p m F n).2.length = n := fr_len (red_up hp hin n (Nat.le_refl _))
theorem fr_at {n : Nat} {L : List Nat} {i : Nat} (hi : i < (freeL n L).length) : (freeL n L)[i]?.getD 0 < n ∧ (freeL n L)[i]?.getD 0 ∉ L := by
 rw [List.getElem?_eq_getElem hi, Option.getD_some]
 exact fr_mem.1 (List.getElem_mem hi)
theorem off_of {L : List Nat} {k : Nat} (h : k ∉ L) : ∀ i, i < L.length → L[i]?.getD 0 ≠ k := fun i hi e => h (by rw [← e, List.getElem?_eq_getElem hi, Option.getD_some]; exact List.getElem_mem hi)
theorem bas_ker {p : Int} (hp : isF p = true) {m n : Nat} {F : Nat → Nat → Int} (hin : InP p m n F) {i : Nat} (hi : i < nul p m n F) : Kr p m n F (bas p m n F i) := by
 obtain ⟨h1, h2⟩ := fr_at hi
 exact (ker_red hp hin _ n (Nat.le_refl _)).1 (kx_ker (red_up hp hin n (Nat.le_refl _)) h1 (off_of h2))
theorem fr_inj {n : Nat} {L : List Nat} {i j : Nat} (hi : i < (freeL n L).length) (hj : j < (freeL n L).length) (e : (freeL n L)[i]?.getD 0 = (freeL n L)[j]?.getD 0) : i = j := by
 rw [List.getElem?_eq_getElem hi, List.getElem?_eq_getElem hj, Option.getD_some, Option.getD_some] at e
 have hnd : (freeL n L).Nodup := by
  unfold freeL
  exact List.Pairwise.filter _ List.nodup_range
 exact (List.getElem_inj hnd).1 e
theorem bas_at {p : Int} {m n : Nat} {F : Nat → Nat → Int} {i j : Nat} (hi : i < nul p m n F) (hj : j < nul p m n F) : bas p m n F i ((freeL n (redUp p m F n).2)[j]?.getD 0) = if i = j then 1 else 0 := by
 unfold bas
 by_cases h : i = j
 ·subst h
  rw [if_pos rfl, kx_self]
 ·rw [if_neg h]
  exact kx_off (fun e => h (fr_inj hj hi e).symm) (off_of (fr_at hj).2)
theorem cmb_bas {p : Int} {m n : Nat} {F : Nat → Nat → Int} (c : Nat → Int) {j : Nat} (hj : j < nul p m n F) : cmb c (bas p m n F) (nul p m n F) ((freeL n (redUp p m F n).2)[j]?.getD 0) = c j := by
 unfold cmb
 rw [sN_one hj fun i hi hij => by rw [bas_at hi hj, if_neg hij, Int.mul_zero], bas_at hj hj, if_pos rfl, Int.mul_one]
theorem rel_le {p : Int} (hp : isF p = true) {m m' n : Nat} {F G : Nat → Nat → Int} (hF : InP p m n F) (hG : InP p m' n G) (hFG : ∀ x, Kr p m n F x → Kr p m' n G x) {s : Nat} {l : Nat → Nat → Int} (hk : ∀ i, i < s → Kr p m' n G (l i)) (hI : ∀ c, Kr p m n F (cmb c l s) → ∀ i, i < s → Z0 p (c i)) :
  s + (redUp p m' G n).2.length ≤ (redUp p m F n).2.length := by
 have e1 := nul_eq hp hF
 obtain ⟨b, hb⟩ : ∃ b : Nat → Nat → Int, b = fun i => if i < nul p m n F then bas p m n F i else l (i - nul p m n F) := ⟨_, rfl⟩
 have hsp : ∀ (c : Nat → Int) (k : Nat), cmb c b (nul p m n F + s) k = cmb c (bas p m n F) (nul p m n F) k + cmb (fun j => c (nul p m n F + j)) l s k := by
  intro c k
  unfold cmb
  rw [sN_split, hb]
  congr 1
  ·exact sN_congr fun i hi => by simp only [if_pos hi]
  ·exact sN_congr fun j hj => by
    simp only
    rw [if_neg (by omega), Nat.add_sub_cancel_left]
 have hkb : ∀ i, i < nul p m n F + s → Kr p m' n G (b i) := by
  intro i hi
  rw [hb]
  by_cases h : i < nul p m n F
  ·simp only [if_pos h]
   exact hFG _ (bas_ker hp hF h)
  ·simp only [if_neg h]
   exact hk _ (by omega)
 have hIb : Ind p n (nul p m n F + s) b := by
  intro c hc
  have hy : Kr p m n F (cmb (fun j => c (nul p m n F + j)) l s) := kr_sub (y := cmb c (bas p m n F) (nul p m n F)) (kr_z0 hc) (kr_cmb fun i hi => bas_ker hp hF hi) fun j _ => by rw [hsp]; omega
  have h2 := hI _ hy
  intro i hi
  by_cases h : i < nul p m n F
  ·obtain ⟨f1, f2⟩ := fr_at (n := n) (L := (redUp p m F n).2) h
   have h3 := hc _ f1
   rw [hsp, cmb_bas c h] at h3
   have h4 : Z0 p (cmb (fun j => c (nul p m n F + j)) l s ((freeL n (redUp p m F n).2)[i]?.getD 0)) := z0_sum fun j hj => by
    rw [Int.mul_comm]
    exact z0_mul _ (h2 j hj)
   have h5 := z0_add h3 (z0_mul (-1) h4)
   refine z0_congr ?_ h5
   congr 1
   omega
  ·have := h2 (i - nul p m n F) (by omega)
   rwa [show nul p m n F + (i - nul p m n F) = i by omega] at this
 have := ind_le hp hG hkb hIb
 omega
theorem dt_unit {n q : Nat} (f : Nat → Int) (hq : q < n) : dt n f (fun x => if q = x then 1 else 0) = f q := by
 show sN (fun k => f k * (if q = k then 1 else 0)) n = f q
 rw [sN_one hq fun k _ hne => by rw [if_neg (fun e => hne e.symm), Int.mul_zero], if_pos rfl, Int.mul_one]
theorem cmb_dt (x : Nat → Int) (g : Nat → Nat → Int) (t k : Nat) : cmb x g t k = dt t (fun i => g i k) x := sN_congr fun i _ => Int.mul_comm _ _
theorem cmb_cmb (d : Nat → Int) (h g : Nat → Nat → Int) (e t k : Nat) : cmb d (fun a => cmb (h a) g t) e k = cmb (cmb d h e) g t k := by
 rw [cmb_dt (cmb d h e), dt_cmb]
 exact sN_congr fun a _ => by
  show d a * cmb (h a) g t k = _
  rw [cmb_dt]
theorem rel_ex {p : Int} (hp : isF p = true) {m m' n : Nat} {F G : Nat → Nat → Int} (hF : InP p m n F) (hG : InP p m' n G) : ∃ s l, (∀ i, i < s → Kr p m' n G (l i)) ∧ (∀ c, Kr p m n F (cmb c l s) → ∀ i, i < s → Z0 p (c i)) ∧ (redUp p m F n).2.length ≤ s + (redUp p m' G n).2.length := by
 have hb := isF_bd hp
 have eG := nul_eq hp hG
 obtain ⟨t, ht⟩ : ∃ t, t = nul p m' n G := ⟨_, rfl⟩
 obtain ⟨M, hM⟩ : ∃ M : Nat → Nat → Int, M = fun a i => dt n (F a) (bas p m' n G i) % p := ⟨_, rfl⟩
 have hMin : InP p m t M := fun a i _ _ => by rw [hM]; exact ⟨Int.emod_nonneg _ (by omega), Int.emod_lt_of_pos _ (by omega)⟩
 have R := red_up hp hMin t (Nat.le_refl _)
 have eM := nul_eq hp hMin
 have hMd : ∀ (c : Nat → Int) a, dt t (M a) c % p = dt n (F a) (cmb c (bas p m' n G) t) % p := by
  intro c a
  rw [dt_cmb]
  unfold dt
  refine z0_sN fun i hi => ?_
  rw [hM]
  show dt n (F a) (bas p m' n G i) % p * c i % p = c i * dt n (F a) (bas p m' n G i) % p
  rw [Int.mul_comm (c i), Int.mul_emod, Int.emod_emod_of_dvd _ (Int.dvd_refl p), ← Int.mul_emod]
 have hKM : ∀ c : Nat → Int, Kr p m t M c ↔ Kr p m n F (cmb c (bas p m' n G) t) := by
  intro c
  constructor
  ·intro h a ha; exact z0_congr (hMd c a) (h a ha)
  ·intro h a ha; exact z0_congr (hMd c a).symm (h a ha)
 generalize hP : (redUp p m M t).2 = P at R eM
 refine ⟨P.length, fun j => bas p m' n G (P[j]?.getD 0), fun i hi => bas_ker hp hG (by have := R.lt i hi; omega), fun c hc => ?_, ?_⟩
 ·have h1 : ∀ k, cmb c (fun j => bas p m' n G (P[j]?.getD 0)) P.length k = cmb (cmb c (fun j i => if P[j]?.getD 0 = i then 1 else 0) P.length) (bas p m' n G) t k := by
   intro k
   rw [← cmb_cmb]
   refine sN_congr fun j hj => ?_
   congr 1
   show bas p m' n G (P[j]?.getD 0) k = sN (fun i => (if P[j]?.getD 0 = i then 1 else 0) * bas p m' n G i k) t
   rw [sN_one (j := P[j]?.getD 0) (R.lt j hj) fun i _ hne => by rw [if_neg (fun e => hne e.symm), Int.zero_mul], if_pos rfl, Int.one_mul]
  have h2 : Kr p m t M (cmb c (fun j i => if P[j]?.getD 0 = i then 1 else 0) P.length) := by
   rw [hKM]
   intro a ha
   have := hc a ha
   rwa [show cmb c (fun j => bas p m' n G (P[j]?.getD 0)) P.length = cmb (cmb c (fun j i => if P[j]?.getD 0 = i then 1 else 0) P.length) (bas p m' n G) t from funext h1] at this
  have h3 := (ker_red hp hMin _ t (Nat.le_refl _)).2 h2
  intro i hi
  have h4 := h3 i (by have := R.len; omega)
  rw [dt_cmb] at h4
  rw [sN_one hi fun j hj hne => ?_] at h4
  ·rw [dt_unit _ (R.lt i hi), R.one i hi, Int.mul_one] at h4
   exact h4
  ·rw [dt_unit _ (R.lt j hj), R.col j i hj (by have := R.len; omega) (fun e => hne e.symm), Int.mul_zero]
 ·have hu : ∀ a, a < nul p m t M → Kr p m n F (cmb (bas p m t M a) (bas p m' n G) t) := fun a ha => (hKM _).1 (bas_ker hp hMin ha)
  have hI : Ind p n (nul p m t M) fun a => cmb (bas p m t M a) (bas p m' n G) t := by
   intro d hd
   have h1 : ∀ i, i < t → Z0 p (cmb d (bas p m t M) (nul p m t M) i) := by
    intro i hi
    rw [ht] at hi
    obtain ⟨f1, _⟩ := fr_at (n := n) (L := (redUp p m' G n).2) hi
    have := hd _ f1
    rw [cmb_cmb, ht, cmb_bas _ hi] at this
    rw [ht]
    exact this
   intro a ha
   obtain ⟨f1, _⟩ := fr_at (n := t) (L := (redUp p m M t).2) ha
   have := h1 _ f1
   rwa [cmb_bas d ha] at this
  have := ind_le hp hF hu hI
  omega
theorem frob {p : Int} (hp : isF p = true) {m m' d d' : Nat} {F G F' G' : Nat → Nat → Int} (hF : InP p m d F) (hG : InP p m' d G) (hF' : InP p m d' F') (hG' : InP p m' d' G') (X : (Nat → Int) → Nat → Int) (hX : ∀ c l s, ∃ y, (∀ k, k < d' → cmb c (fun i => X (l i)) s k % p = X y k % p) ∧ y = cmb c l s) (hFX : ∀ x, Kr p m d F x ↔ Kr p m d' F' (X x)) (hGX : ∀ x, Kr p m' d G x ↔ Kr p m' d' G' (X x)) (hFG' : ∀ x, Kr p m d' F' x → Kr p m' d' G' x) :
  (redUp p m F d).2.length + (redUp p m' G' d').2.length ≤ (redUp p m F' d').2.length + (redUp p m' G d).2.length := by
 obtain ⟨s, l, h1, h2, h3⟩ := rel_ex hp hF hG
 have h4 := rel_le hp hF' hG' hFG' (s := s) (l := fun i => X (l i)) (fun i hi => (hGX _).1 (h1 i hi)) (fun c hc i hi => h2 c ((hFX _).2 ?_) i hi)
 ·omega
 ·obtain ⟨y, hy, rfl⟩ := hX c l s
  intro a ha
  refine z0_congr ?_ (hc a ha)
  unfold dt
  exact z0_sN fun k hk => by rw [Int.mul_emod, hy k hk, ← Int.mul_emod]
end Go.Proofs.Ytdhjmmnjapkmkaa
end

section
set_option linter.unusedVariables false
set_option linter.unusedSimpArgs false

namespace Go.Proofs.Ytdhjmmnjapkmkaa
open Go.RowKit
set_option linter.unusedVariables false
theorem dotS_sN (F G : Nat → Nat → Int) (i j : Nat) : ∀ n, dotS F G i j n = sN (fun k => F i k * G k j) n
 | 0 => rfl
 | n + 1 => by
  have ih := dotS_sN F G i j n
  simp only [sN]
  rw [← ih]
  rfl
theorem dt_modR {p : Int} {n : Nat} {f x y : Nat → Int} (h : ∀ k, k < n → x k % p = y k % p) : dt n f x % p = dt n f y % p := z0_sN fun k hk => by rw [Int.mul_emod, h k hk, ← Int.mul_emod]
theorem ap_mul (p : Int) (n n' : Nat) (A B : Nat → Nat → Int) (i : Nat) (x : Nat → Int) : dt n (mulF p n' A B i) x % p = dt n' (A i) (fun k => dt n (B k) x) % p := by
 have e1 : dt n (mulF p n' A B i) x % p = sN (fun j => x j * dt n' (A i) (fun k => B k j)) n % p := by
  unfold dt mulF
  refine z0_sN fun j hj => ?_
  rw [dotS_sN, Int.mul_comm (x j), Int.mul_emod, Int.emod_emod_of_dvd _ (Int.dvd_refl p), ← Int.mul_emod]
 rw [e1, ← dt_cmb (A i) x (fun j k => B k j) n]
 congr 1
 unfold dt cmb
 exact sN_congr fun k _ => by
  congr 1
  exact sN_congr fun j _ => Int.mul_comm _ _
def stepX (r : Rp) (i : Nat) (x : Nat → Int) : Nat → Int := fun k => dt (dN r i) (mF r i k) x
theorem unit_dt {n k : Nat} (x : Nat → Int) (hk : k < n) : dt n (unitF k) x = x k := by
 show sN (fun j => unitF k j * x j) n = x k
 rw [sN_one hk fun j _ hne => by simp [unitF, Ne.symm hne]]
 simp [unitF]
theorem ch_first (r : Rp) (i : Nat) (x : Nat → Int) : ∀ (t a : Nat), a < dN r (i + 1 + t) → dt (dN r i) (chF r i (t + 1) a) x % r.p = dt (dN r (i + 1)) (chF r (i + 1) t a) (stepX r i x) % r.p
 | 0, a, ha => by
  show dt (dN r i) (mulF r.p (dN r i) (mF r i) unitF a) x % r.p = dt (dN r (i + 1)) (unitF a) (stepX r i x) % r.p
  rw [ap_mul, unit_dt _ ha]
  unfold stepX
  exact dt_modR fun k hk => by rw [unit_dt x hk]
 | t + 1, a, ha => by
  have e : i + (t + 1) = i + 1 + t := by omega
  have e1 : chF r i (t + 1 + 1) = mulF r.p (dN r (i + 1 + t)) (mF r (i + 1 + t)) (chF r i (t + 1)) := by rw [← e]; rfl
  rw [e1, ap_mul]
  show _ = dt (dN r (i + 1)) (mulF r.p (dN r (i + 1 + t)) (mF r (i + 1 + t)) (chF r (i + 1) t) a) (stepX r i x) % r.p
  rw [ap_mul]
  exact dt_modR fun k hk => ch_first r i x t k hk
def rkC (r : Rp) (i t : Nat) : Nat := (redUp r.p (dN r (i + t)) (chF r i t) (dN r i)).2.length
theorem rR_rk (r : Rp) (i t : Nat) : rR r i (i + t) = (rkC r i t : Int) := by
 unfold rR rkF rkC
 rw [if_pos (by omega), Nat.add_sub_cancel_left]
theorem ch_ker {r : Rp} {i t : Nat} {x : Nat → Int} (h : Kr r.p (dN r (i + t)) (dN r i) (chF r i t) x) : Kr r.p (dN r (i + t + 1)) (dN r i) (chF r i (t + 1)) x := by
 intro a ha
 refine z0_congr (ap_mul r.p (dN r i) (dN r (i + t)) (mF r (i + t)) (chF r i t) a x).symm ?_
 exact z0_sum fun k hk => z0_mul _ (h k hk)
theorem ch_X {r : Rp} {i t : Nat} {x : Nat → Int} : Kr r.p (dN r (i + 1 + t)) (dN r i) (chF r i (t + 1)) x ↔ Kr r.p (dN r (i + 1 + t)) (dN r (i + 1)) (chF r (i + 1) t) (stepX r i x) :=
 ⟨fun h a ha => z0_congr (ch_first r i x t a ha) (h a ha), fun h a ha => z0_congr (ch_first r i x t a ha).symm (h a ha)⟩
theorem step_cmb (r : Rp) (i : Nat) (c : Nat → Int) (l : Nat → Nat → Int) (s k : Nat) : cmb c (fun j => stepX r i (l j)) s k = stepX r i (cmb c l s) k := by
 unfold stepX
 rw [dt_cmb]
 rfl
theorem rk_frob {r : Rp} (L : Ln r) (i t : Nat) : rkC r i (t + 1) + rkC r (i + 1) (t + 1) ≤ rkC r (i + 1) t + rkC r i (t + 2) := by
 have h := frob L.hp (m := dN r (i + 1 + t)) (m' := dN r (i + 1 + t + 1)) (d := dN r i) (d' := dN r (i + 1)) (F := chF r i (t + 1)) (G := chF r i (t + 2)) (F' := chF r (i + 1) t) (G' := chF r (i + 1) (t + 1)) (ch_in L _ _ _) (ch_in L _ _ _) (ch_in L _ _ _) (ch_in L _ _ _) (stepX r i)
  (fun c l s => ⟨_, fun k _ => by rw [step_cmb], rfl⟩) (fun x => ch_X) (fun x => ch_X (t := t + 1)) (fun x hx => ch_ker hx)
 unfold rkC
 rw [show i + (t + 1) = i + 1 + t by omega, show i + 1 + (t + 1) = i + 1 + t + 1 by omega, show i + (t + 2) = i + 1 + t + 1 by omega]
 exact h
theorem rk_first {r : Rp} (L : Ln r) (i t : Nat) : rkC r i (t + 1) ≤ rkC r (i + 1) t := by
 have hb := isF_bd L.hp
 have hz : ∀ d, InP r.p 0 d fun _ _ => 0 := fun d a b ha _ => absurd ha (Nat.not_lt_zero a)
 have h := frob L.hp (m := dN r (i + 1 + t)) (m' := 0) (d := dN r i) (d' := dN r (i + 1)) (F := chF r i (t + 1)) (G := fun _ _ => 0) (F' := chF r (i + 1) t) (G' := fun _ _ => 0) (ch_in L _ _ _) (hz _) (ch_in L _ _ _) (hz _) (stepX r i)
  (fun c l s => ⟨_, fun k _ => by rw [step_cmb], rfl⟩) (fun x => ch_X) (fun x => ⟨fun _ a ha => absurd ha (Nat.not_lt_zero a), fun _ a ha => absurd ha (Nat.not_lt_zero a)⟩) (fun x hx a ha => absurd ha (Nat.not_lt_zero a))
 have h0 := (red_up L.hp (hz (dN r i)) (dN r i) (Nat.le_refl _)).len
 unfold rkC
 rw [show i + (t + 1) = i + 1 + t by omega]
 omega
theorem rk_last {r : Rp} (L : Ln r) (i t : Nat) : rkC r i (t + 1) ≤ rkC r i t := by
 have h := rel_le L.hp (m := dN r (i + t)) (m' := dN r (i + t + 1)) (n := dN r i) (F := chF r i t) (G := chF r i (t + 1)) (ch_in L _ _ _) (ch_in L _ _ _) (fun x hx => ch_ker hx) (s := 0) (l := fun _ _ => 0) (fun a ha => absurd ha (Nat.not_lt_zero a)) (fun c _ a ha => absurd ha (Nat.not_lt_zero a))
 unfold rkC
 rw [show i + (t + 1) = i + t + 1 by omega]
 omega
theorem atR_in {r : Rp} {a b : Nat} (h : b < r.dims.length) : atR r (a : Int) (b : Int) = rR r a b := by
 unfold atR
 rw [if_neg (by omega), Int.toNat_natCast, Int.toNat_natCast]
theorem atR_out {r : Rp} {a b : Int} (h : a < 0 ∨ (r.dims.length : Int) ≤ b) : atR r a b = 0 := if_pos h
theorem bars_nn (r : Rp) : BarsNN r := by
 intro h1 h2 v w hvw hw
 have L := ln_of h1 h2
 obtain ⟨t, rfl⟩ : ∃ t, w = v + t := ⟨w - v, by omega⟩
 unfold cntR
 rw [atR_in hw]
 cases v with
 | zero =>
  rw [atR_out (a := ((0 : Nat) : Int) - 1) (.inl (by omega)), atR_out (a := ((0 : Nat) : Int) - 1) (.inl (by omega))]
  by_cases hl : 0 + t + 1 < r.dims.length
  ·rw [show (((0 + t : Nat) : Int) + 1) = ((0 + (t + 1) : Nat) : Int) by omega, atR_in (by omega), rR_rk, rR_rk]
   have := rk_last L 0 t
   omega
  ·rw [atR_out (b := ((0 + t : Nat) : Int) + 1) (.inr (by omega)), rR_rk]
   omega
 | succ i =>
  rw [show (((i + 1 : Nat) : Int) - 1) = (i : Int) by omega, atR_in hw]
  by_cases hl : i + 1 + t + 1 < r.dims.length
  ·rw [show (((i + 1 + t : Nat) : Int) + 1) = ((i + 1 + (t + 1) : Nat) : Int) by omega, atR_in (by omega), atR_in (by omega), rR_rk, rR_rk, show i + 1 + t = i + (t + 1) by omega, rR_rk, show i + 1 + (t + 1) = i + (t + 2) by omega, rR_rk]
   have := rk_frob L i t
   omega
  ·rw [atR_out (b := ((i + 1 + t : Nat) : Int) + 1) (.inr (by omega)), atR_out (b := ((i + 1 + t : Nat) : Int) + 1) (.inr (by omega)), rR_rk, show i + 1 + t = i + (t + 1) by omega, rR_rk]
   have := rk_first L i t
   omega
end Go.Proofs.Ytdhjmmnjapkmkaa
end

section
set_option linter.unusedVariables false
set_option linter.unusedSimpArgs false

namespace Go.Proofs.Ytdhjmmnjapkmkaa
open Go.RowKit
set_option linter.unusedVariables false
set_option linter.unusedSimpArgs false
set_option maxRecDepth 10000
set_option maxHeartbeats 4000000

noncomputable def m_laws_markIntS_L1  (x1 : ((List Int) × Int × Int)) : Option (((List Int) × Int × Int) ⊕ ((List Int) × Int)) :=
  bif decide (x1.2.2 < ((x1.1.length : Nat) : Int)) then
    (Option.bind (atL x1.1 x1.2.2) fun v2 =>
    some (.inl ((x1.1.set x1.2.2.toNat x1.2.1), wr (x1.2.1 + 1), wr (x1.2.2 + 1))))
  else
    (some (.inr (x1.1, x1.2.1)))

noncomputable def m_laws_markIntS (a0 : (List Int)) (a1 : Int) : Option ((List Int) × Int) :=
  Option.bind (Lp m_laws_markIntS_L1 (a0, a1, 0)) fun y3 =>
  some (y3.1, y3.2)

theorem c_laws_markIntS (a0 : (List Int)) (a1 : Int) (r : ((List Int) × Int)) (h : m_laws_markIntS a0 a1 = some r) : HasE Try.prog 23 [.own 0 0 a0.length, .int a1] [(0, ⟨1, List.map (ow eI) a0⟩)] 1 (.int r.2) [(0, ⟨1, List.map (ow eI) r.1⟩)] := by
 refine hasE_mk TT_ok (rvs := [.tmp 4]) (ns := [1, 2]) Try.func23 k k Try.ntmps23 k k <| sQ <| rg <| aa k k <| an <| tn <| sQ <| sQ <| rg <| aa k k ?_
 refine an <| tn <| ac_block ?_
 obtain ⟨y3, hy3, h⟩ := ob h
 refine ac_Lp (body := m_laws_markIntS_L1) hy3 (fun (x1 : ((List Int) × Int × Int)) => mkS [(0, .own 0 0 x1.1.length), (1, .int x1.2.1), (5, .int x1.2.2)] [(0, ⟨1, List.map (ow eI) x1.1⟩)] 1 [1, 2] 1) (fun r e t => e = .exit 0 ∧ Ent t (mkS [(1, .int r.2)] [(0, ⟨1, List.map (ow eI) r.1⟩)] 1 [1, 2] 1)) (ent_mk (σ := sg [(0, 0)]) ⟨(oE k k), (e1 k k), (e1 k k), trivial⟩ (hI k k k <| trivial) k) ?_ ?_
 ·intro x1 o h
  refine sQ <| sQ <| rg <| am k k <| am k k <| ae (w_len_own TT_ok k k k k) k <| ae (w_cmp k k k) k <| an <| tn ?_
  rcases cb h with ⟨q1, h⟩ | ⟨q1, h⟩
  ·refine ac_condT k q1 <| ac_skip <| tn <| sQ <| ac_block <| sQ <| rg <| am k k <| am k k <| am k k ?_
   obtain ⟨v2, hv2, h⟩ := ob h
   refine ae (x_at_own TT_ok (atL_nn hv2) (atL_lt hv2) k k k k k k k) k <| ae (x_store TT_ok okIo (u := x1.2.1) (atL_get hv2) k k k k k k) k <| an <| tn <| rg <| am k k <| ae (x_add k k) k <| aa k k <| an <| block_n ?_
   refine tn <| ac_ent (t := mkS [(0, .own 0 0 ((x1.1.set x1.2.2.toNat x1.2.1).length)), (1, .int (wr (x1.2.1 + 1))), (5, .int x1.2.2)] [(0, ⟨1, List.map (ow eI) (x1.1.set x1.2.2.toNat x1.2.1)⟩)] 1 [1, 2] 1) (ent_mk (σ := sg [(0, 0)]) ⟨⟨_, k, ⟨k, k, (by simp only [len_map, lA, lT, lR, lC, lN]), k⟩⟩, (e1 k k), (e1 k k), trivial⟩ (hI k k k <| trivial) k) <| rg <| am k k <| ae (x_add k k) k <| aa k k <| an <| tn ?_
   obtain rfl := so h
   exact ⟨_, k, (ent_mk (σ := sg [(0, 0)]) ⟨(oE k k), (e1 k k), (e1 k k), trivial⟩ (hI k k k <| trivial) k)⟩
  ·refine ac_condF k q1 <| ac_exit <| then_exit <| then_exit ?_
   obtain rfl := so h
   exact ⟨_, k, k, (ent_mk (σ := sg [(0, 0)]) ⟨(e1 k k), trivial⟩ (hI k k k <| trivial) k)⟩
 ·rintro e t ⟨rfl, hent⟩
  refine block_here <| tn <| ac_ent hent <| sQ <| rg <| am k k <| aa k k <| an <| tn <| ac_ret ?_
  obtain rfl := so h
  exact ⟨mkS [(4, .int y3.2)] [(0, ⟨1, List.map (ow eI) y3.1⟩)] 1 [1, 2] 1, (ent_mk (σ := sg [(0, 0)]) ⟨(e1 k k), trivial⟩ (hI k k k <| trivial) k), k, ⟨_, k, .inl k⟩, ⟨k, trivial⟩⟩

noncomputable def m_laws_markIntSS_L1  (x1 : ((List (List Int)) × Int × Int)) : Option (((List (List Int)) × Int × Int) ⊕ ((List (List Int)) × Int)) :=
  bif decide (x1.2.2 < ((x1.1.length : Nat) : Int)) then
    (Option.bind (atL x1.1 x1.2.2) fun v2 =>
    Option.bind (m_laws_markIntS v2 x1.2.1) fun v3 =>
    bif decide (v3.1.length = v2.length) then
      (some (.inl ((x1.1.set x1.2.2.toNat v3.1), v3.2, wr (x1.2.2 + 1))))
    else none)
  else
    (some (.inr (x1.1, x1.2.1)))

noncomputable def m_laws_markIntSS (a0 : (List (List Int))) (a1 : Int) : Option ((List (List Int)) × Int) :=
  Option.bind (Lp m_laws_markIntSS_L1 (a0, a1, 0)) fun y5 =>
  some (y5.1, y5.2)

theorem c_laws_markIntSS (a0 : (List (List Int))) (a1 : Int) (r : ((List (List Int)) × Int)) (h : m_laws_markIntSS a0 a1 = some r) : HasT Try.prog 71 [.own 0 0 a0.length, .int a1] [(0, ⟨1, List.map (ow (eLs 1 eI)) a0⟩)] 1 (.int r.2) [(0, ⟨1, List.map (ow (eLs 1 eI)) r.1⟩)] := by
 refine hasT_mk TT_ok (rvs := [.tmp 4]) (ns := [1, 2, 3]) Try.func71 k k Try.ntmps71 k k <| sQ <| rgS <| se (eff_assign k) k <| sn <| tn <| sQ <| sQ <| rgS <| se (eff_assign k) k ?_
 refine sn <| tn <| ac_block ?_
 obtain ⟨y5, hy5, h⟩ := ob h
 refine ac_Lp (body := m_laws_markIntSS_L1) hy5 (fun (x1 : ((List (List Int)) × Int × Int)) => mkS [(0, .own 0 0 x1.1.length), (1, .int x1.2.1), (5, .int x1.2.2)] [(0, ⟨1, List.map (ow (eLs 1 eI)) x1.1⟩)] 1 [1, 2, 3] ⟨1, true, none, true⟩) (fun r e t => e = .exit 0 ∧ Ent t (mkS [(1, .int r.2)] [(0, ⟨1, List.map (ow (eLs 1 eI)) r.1⟩)] 1 [1, 2, 3] ⟨1, true, none, true⟩)) (ent_mk (σ := sg [(0, 0)]) ⟨(oE k k), (e1 k k), (e1 k k), trivial⟩ (hB (okLs.plainO _) k k k <| trivial) k) ?_ ?_
 ·intro x1 o h
  refine sQ <| sQ <| rgS <| se (eff_move k) k <| se (eff_move k) k <| se (w_len_own TT_ok k k k k) k <| se (w_cmp k k k) k <| sn <| tn ?_
  rcases cb h with ⟨q1, h⟩ | ⟨q1, h⟩
  ·refine ac_condT k q1 <| ac_skip <| tn <| sQ <| ac_block <| rgS <| se (eff_move k) k <| se (eff_move k) k ?_
   obtain ⟨v2, hv2, h⟩ := ob h
   refine sops_ent (t := mkS [(0, .own 0 0 x1.1.length), (1, .int x1.2.1), (5, .int x1.2.2), (6, .int x1.2.2), (7, .own 0 0 x1.1.length), (8, .int ((x1.1.length : Nat) : Int)), (9, .bl (decide (x1.2.2 < ((x1.1.length : Nat) : Int)))), (12, .own 0 0 x1.1.length), (13, .int x1.2.2)] [(0, ⟨1, (List.map (ow (eLs 1 eI)) x1.1).set x1.2.2.toNat [.abs 1 (List.map eI v2)]⟩)] 1 [1, 2, 3] ⟨1, true, none, true⟩) (ent_mk (σ := sg [(0, 0)]) ⟨(oE k k), (e1 k k), (e1 k k), (e1 k k), (oE k k), (e1 k k), (e1 k k), (oE k k), (e1 k k), trivial⟩ (hX ⟨_, k, k, .inl ⟨open_row (atL_get hv2), set_plain okLs k⟩⟩ k <| trivial) k) <| sops_ent (ent_openS (b := 0) (c := 1) (i := x1.2.2.toNat) (j := 0) (n := v2.length) (A := List.map (ow (eLs 1 eI)) x1.1) (fs := List.map (ow eI) v2) (by rw [List.length_map]; exact atL_lt hv2) k k k k (len_map _ _) (abs_map _ _) (dfE_ok ⟨k, k, k, k, k, k, k, k, k, trivial⟩) (dfH_ok (skip := []) ⟨.inr (okLs.dfS _ _ _ k), trivial⟩)) <| sops_ent (t := mkS [(0, .own 0 0 x1.1.length), (1, .int x1.2.1), (5, .int x1.2.2), (6, .int x1.2.2), (7, .own 0 0 x1.1.length), (8, .int ((x1.1.length : Nat) : Int)), (9, .bl (decide (x1.2.2 < ((x1.1.length : Nat) : Int)))), (12, .own 0 0 x1.1.length), (13, .int x1.2.2)] [(0, ⟨1, (List.map (ow (eLs 1 eI)) x1.1).set x1.2.2.toNat [.own 1 0 v2.length]⟩), (1, ⟨1, List.map (ow eI) v2⟩)] 2 [2, 3] ⟨1, true, none, true⟩) (ent_mk (σ := sg [(0, 0), (1, 1)]) ⟨(oE k k), (e1 k k), (e1 k k), (e1 k k), (oE k k), (e1 k k), (e1 k k), (oE k k), (e1 k k), trivial⟩ (hX ⟨_, k, k, .inr (ent_set (σ := sg [(0, 0), (1, 1)]) (m := 2) (e := (eLs 1 eI)) (l := x1.1) (i := x1.2.2.toNat) (c := [.own 1 0 v2.length]) (d := [.own 1 0 v2.length]) okLs ⟨_, _, k, ⟨k, k, k, k⟩, k⟩)⟩ k <| hI k k k <| trivial) k) ?_
   refine se (x_at_own TT_ok (atL_nn hv2) (atL_lt hv2) k k k k k k k) k <| se (w_load_ptr TT_ok k k k k (set_at (atL_lt hv2)) k k) k <| se (eff_move k) k ?_
   obtain ⟨v3, hv3, h⟩ := ob h
   refine se (eff_hasE (σ := sg [(0, 1)]) (σ' := sg [(1, 0)]) (touch := [1]) (news := []) (hl2 := [(1, ⟨1, List.map (ow eI) v3.1⟩)]) (n' := 2) (r2 := .int v3.2) (c_laws_markIntS v2 x1.2.1 v3 hv3) k k ⟨_, _, k, ⟨k, k, k, k⟩, ⟨_, _, k, k, k⟩⟩ ⟨⟨_, k, k, .inl ⟨k, okI.plainO _⟩⟩, k, trivial⟩ k k k ⟨⟨_, k, k, .inl ⟨k, okI.plainO _⟩⟩, k, trivial⟩ k k k ⟨k, okI.tame _ _, trivial⟩ k k) k ?_
   obtain ⟨q4, h⟩ := cg h
   refine se (eff_assign k) k <| sn <| block_n <| tn <| rgS <| se (eff_move k) k <| se (x_add k k) k <| se (eff_assign k) k <| sn <| tn ?_
   obtain rfl := so h
   exact ⟨_, k, (Ent.trans (show Ent _ (mkS [(0, .own 0 0 ((x1.1.set x1.2.2.toNat v3.1).length)), (1, .int v3.2), (5, .int (wr (x1.2.2 + 1)))] [(0, ⟨1, List.map (ow (eLs 1 eI)) (x1.1.set x1.2.2.toNat v3.1)⟩)] 2 [2, 3] ⟨1, true, none, true⟩) from (Ent.trans (ent_absS (b := 0) (b' := 1) (j := 0) (es' := List.map eI v3.1) (by rw [List.length_map]; exact atL_lt hv2) k k k k (by simp only [len_map, lA, lT, lR, lC, lN, of_decide_eq_true q4]) (okI.frzs _)) (ent_mk (σ := sg [(0, 0)]) ⟨⟨_, k, ⟨k, k, (by simp only [len_map, lA, lT, lR, lC, lN, of_decide_eq_true q4]), k⟩⟩, (e1 k k), (e1 k k), trivial⟩ (hX ⟨_, k, k, .inl ⟨set_eq v3.1 k, okLs.plainO _⟩⟩ k <| trivial) k))) (ent_mk (σ := sg [(0, 0)]) ⟨(oE k k), (e1 k k), (e1 k k), trivial⟩ (hB (okLs.plainO _) k k k <| trivial) k))⟩
  ·refine ac_condF k q1 <| ac_exit <| then_exit <| then_exit ?_
   obtain rfl := so h
   exact ⟨_, k, k, (ent_mk (σ := sg [(0, 0)]) ⟨(e1 k k), trivial⟩ (hB (okLs.plainO _) k k k <| trivial) k)⟩
 ·rintro e t ⟨rfl, hent⟩
  refine block_here <| tn <| ac_ent hent <| sQ <| rgS <| se (eff_move k) k <| se (eff_assign k) k <| sn <| tn <| ac_ret ?_
  obtain rfl := so h
  exact ⟨mkS [(4, .int y5.2)] [(0, ⟨1, List.map (ow (eLs 1 eI)) y5.1⟩)] 1 [1, 2, 3] ⟨1, true, none, true⟩, (ent_mk (σ := sg [(0, 0)]) ⟨(e1 k k), trivial⟩ (hB (okLs.plainO _) k k k <| trivial) k), k, ⟨_, k, .inl k⟩, ⟨k, trivial⟩⟩

noncomputable def m_laws_markSpaceS_L1  (x1 : ((List Sc) × Int × Int)) : Option (((List Sc) × Int × Int) ⊕ ((List Sc) × Int)) :=
  bif decide (x1.2.2 < ((x1.1.length : Nat) : Int)) then
    (Option.bind (atL x1.1 x1.2.2) fun v2 =>
    Option.bind (m_laws_markIntSS v2.basis (wr (x1.2.1 + 1))) fun v3 =>
    bif decide (v3.1.length = v2.basis.length) then
      (some (.inl ((x1.1.set x1.2.2.toNat (⟨x1.2.1, v3.1⟩ : Sc)), v3.2, wr (x1.2.2 + 1))))
    else none)
  else
    (some (.inr (x1.1, x1.2.1)))

noncomputable def m_laws_markSpaceS (a0 : (List Sc)) (a1 : Int) : Option ((List Sc) × Int) :=
  Option.bind (Lp m_laws_markSpaceS_L1 (a0, a1, 0)) fun y5 =>
  some (y5.1, y5.2)

theorem c_laws_markSpaceS (a0 : (List Sc)) (a1 : Int) (r : ((List Sc) × Int)) (h : m_laws_markSpaceS a0 a1 = some r) : HasT Try.prog 41 [.own 0 0 a0.length, .int a1] [(0, ⟨2, List.map (ow eS) a0⟩)] 1 (.int r.2) [(0, ⟨2, List.map (ow eS) r.1⟩)] := by
 refine hasT_mk TT_ok (rvs := [.tmp 4]) (ns := [1, 2, 3]) Try.func41 k k Try.ntmps41 k k <| sQ <| rgS <| se (eff_assign k) k <| sn <| tn <| sQ <| sQ <| rgS <| se (eff_assign k) k ?_
 refine sn <| tn <| ac_block ?_
 obtain ⟨y5, hy5, h⟩ := ob h
 refine ac_Lp (body := m_laws_markSpaceS_L1) hy5 (fun (x1 : ((List Sc) × Int × Int)) => mkS [(0, .own 0 0 x1.1.length), (1, .int x1.2.1), (5, .int x1.2.2)] [(0, ⟨2, List.map (ow eS) x1.1⟩)] 1 [1, 2, 3] ⟨1, true, none, true⟩) (fun r e t => e = .exit 0 ∧ Ent t (mkS [(1, .int r.2)] [(0, ⟨2, List.map (ow eS) r.1⟩)] 1 [1, 2, 3] ⟨1, true, none, true⟩)) (ent_mk (σ := sg [(0, 0)]) ⟨(oE k k), (e1 k k), (e1 k k), trivial⟩ (hB (okSc.plainO _) k k k <| trivial) k) ?_ ?_
 ·intro x1 o h
  refine sQ <| sQ <| rgS <| se (eff_move k) k <| se (eff_move k) k <| se (w_len_own TT_ok k k k k) k <| se (w_cmp k k k) k <| sn <| tn ?_
  rcases cb h with ⟨q1, h⟩ | ⟨q1, h⟩
  ·refine ac_condT k q1 <| ac_skip <| tn <| sQ <| ac_block <| sQ <| rgS <| se (eff_move k) k <| se (eff_move k) k <| se (eff_move k) k ?_
   obtain ⟨v2, hv2, h⟩ := ob h
   refine sops_ent (t := mkS [(0, .own 0 0 x1.1.length), (1, .int x1.2.1), (5, .int x1.2.2), (6, .int x1.2.2), (7, .own 0 0 x1.1.length), (8, .int ((x1.1.length : Nat) : Int)), (9, .bl (decide (x1.2.2 < ((x1.1.length : Nat) : Int)))), (12, .own 0 0 x1.1.length), (13, .int x1.2.2), (14, .int x1.2.1)] [(0, ⟨2, (List.map (ow eS) x1.1).set x1.2.2.toNat [.int v2.size, .abs 1 (List.map (eLs 1 eI) v2.basis)]⟩)] 1 [1, 2, 3] ⟨1, true, none, true⟩) (ent_mk (σ := sg [(0, 0)]) ⟨(oE k k), (e1 k k), (e1 k k), (e1 k k), (oE k k), (e1 k k), (e1 k k), (oE k k), (e1 k k), (e1 k k), trivial⟩ (hX ⟨_, k, k, .inl ⟨open_row (atL_get hv2), set_plain okSc k⟩⟩ k <| trivial) k) <| sops_ent (ent_openS (b := 0) (c := 1) (i := x1.2.2.toNat) (j := 1) (n := v2.basis.length) (A := List.map (ow eS) x1.1) (fs := List.map (ow (eLs 1 eI)) v2.basis) (by rw [List.length_map]; exact atL_lt hv2) k k k k (len_map _ _) (abs_map _ _) (dfE_ok ⟨k, k, k, k, k, k, k, k, k, k, trivial⟩) (dfH_ok (skip := []) ⟨.inr (okSc.dfS _ _ _ k), trivial⟩)) <| sops_ent (t := mkS [(0, .own 0 0 x1.1.length), (1, .int x1.2.1), (5, .int x1.2.2), (6, .int x1.2.2), (7, .own 0 0 x1.1.length), (8, .int ((x1.1.length : Nat) : Int)), (9, .bl (decide (x1.2.2 < ((x1.1.length : Nat) : Int)))), (12, .own 0 0 x1.1.length), (13, .int x1.2.2), (14, .int x1.2.1)] [(0, ⟨2, (List.map (ow eS) x1.1).set x1.2.2.toNat [.int v2.size, .own 1 0 v2.basis.length]⟩), (1, ⟨1, List.map (ow (eLs 1 eI)) v2.basis⟩)] 2 [2, 3] ⟨1, true, none, true⟩) (ent_mk (σ := sg [(0, 0), (1, 1)]) ⟨(oE k k), (e1 k k), (e1 k k), (e1 k k), (oE k k), (e1 k k), (e1 k k), (oE k k), (e1 k k), (e1 k k), trivial⟩ (hX ⟨_, k, k, .inr (ent_set (σ := sg [(0, 0), (1, 1)]) (m := 2) (e := eS) (l := x1.1) (i := x1.2.2.toNat) (c := [.int v2.size, .own 1 0 v2.basis.length]) (d := [.int v2.size, .own 1 0 v2.basis.length]) okSc ⟨_, _, k, k, ⟨_, _, k, ⟨k, k, k, k⟩, k⟩⟩)⟩ k <| hB (okLs.plainO _) k k k <| trivial) k) ?_
   refine se (x_at_own TT_ok (atL_nn hv2) (atL_lt hv2) k k k k k k k) k <| se (w_field_ptr TT_ok k k k k k k k) k <| se (x_storeS TT_ok (A := List.map (ow eS) x1.1) (by rw [List.length_map]; exact atL_lt hv2) k k k k k k k) k <| sn <| tn <| sQ <| rgS <| se (eff_move k) k <| se (x_add k k) k <| se (eff_assign k) k ?_
   refine sn <| tn <| rgS <| se (eff_move k) k <| se (eff_move k) k <| se (x_at_own TT_ok (atL_nn hv2) (atL_lt hv2) k k k k k k k) k <| se (w_field_ptr TT_ok k k k k k k k) k <| se (w_load_ptr TT_ok k k k k (set_at (atL_lt hv2)) k k) k <| se (eff_move k) k ?_
   obtain ⟨v3, hv3, h⟩ := ob h
   refine sops_ent (t := mkS [(0, .own 0 0 x1.1.length), (1, .int (wr (x1.2.1 + 1))), (5, .int x1.2.2), (6, .int x1.2.2), (7, .own 0 0 x1.1.length), (8, .int ((x1.1.length : Nat) : Int)), (9, .bl (decide (x1.2.2 < ((x1.1.length : Nat) : Int)))), (12, .own 0 0 x1.1.length), (13, .int x1.2.2), (14, .int x1.2.1), (15, .ptr 0 x1.2.2.toNat 0), (16, .ptr 0 x1.2.2.toNat 0), (17, .int x1.2.1), (18, .int (wr (x1.2.1 + 1))), (19, .own 0 0 x1.1.length), (20, .int x1.2.2), (21, .ptr 0 x1.2.2.toNat 0), (22, .ptr 0 x1.2.2.toNat 1), (23, .own 1 0 v2.basis.length), (24, .int (wr (x1.2.1 + 1)))] [(0, ⟨2, (List.map (ow eS) x1.1).set x1.2.2.toNat [.int x1.2.1, .own 1 0 v2.basis.length]⟩), (1, ⟨1, List.map (ow (eLs 1 eI)) v2.basis⟩)] 2 [2, 3] ⟨1, true, none, true⟩) (ent_mk (σ := sg [(0, 0), (1, 1)]) ⟨(oE k k), (e1 k k), (e1 k k), (e1 k k), (oE k k), (e1 k k), (e1 k k), (oE k k), (e1 k k), (e1 k k), (pE k k), (pE k k), (e1 k k), (e1 k k), (oE k k), (e1 k k), (pE k k), (pE k k), (oE k k), (e1 k k), trivial⟩ (hX ⟨_, k, k, .inr (ent_set (σ := sg [(0, 0), (1, 1)]) (m := 2) (e := eS) (l := x1.1) (i := x1.2.2.toNat) (c := [.int x1.2.1, .own 1 0 v2.basis.length]) (d := [.int x1.2.1, .own 1 0 v2.basis.length]) okSc ⟨_, _, k, k, ⟨_, _, k, ⟨k, k, k, k⟩, k⟩⟩)⟩ k <| hB (okLs.plainO _) k k k <| trivial) k) <| sops_T (σ := sg [(0, 1)]) (σ' := sg [(1, 0)]) (touch := [1]) (news := []) (hl2 := [(1, ⟨1, List.map (ow (eLs 1 eI)) v3.1⟩)]) (n' := 2) (r2 := .int v3.2) (c_laws_markIntSS v2.basis (wr (x1.2.1 + 1)) v3 hv3) k k ⟨_, _, k, ⟨k, k, k, k⟩, ⟨_, _, k, k, k⟩⟩ ⟨⟨_, k, k, .inl ⟨k, okLs.plainO _⟩⟩, k, trivial⟩ k k k ⟨⟨_, k, k, .inl ⟨k, okLs.plainO _⟩⟩, k, trivial⟩ k k k ⟨k, okLs.tame _ _, trivial⟩ k k k k k (dfE_ok ⟨k, k, k, k, k, k, k, k, k, k, k, k, k, k, k, k, k, k, k, k, trivial⟩) (dfH_ok (skip := [1]) ⟨.inr (okSc.dfS _ _ _ k), .inl (by decide), trivial⟩) ?_
   obtain ⟨q4, h⟩ := cg h
   refine se (eff_assign k) k <| sn <| block_n <| tn <| rgS <| se (eff_move k) k <| se (x_add k k) k <| se (eff_assign k) k <| sn <| tn ?_
   obtain rfl := so h
   exact ⟨_, k, (Ent.trans (show Ent _ (mkS [(0, .own 0 0 ((x1.1.set x1.2.2.toNat (⟨x1.2.1, v3.1⟩ : Sc)).length)), (1, .int v3.2), (5, .int (wr (x1.2.2 + 1)))] [(0, ⟨2, List.map (ow eS) (x1.1.set x1.2.2.toNat (⟨x1.2.1, v3.1⟩ : Sc))⟩)] 2 [2, 3] ⟨1, true, none, true⟩) from (Ent.trans (ent_absS (b := 0) (b' := 1) (j := 1) (es' := List.map (eLs 1 eI) v3.1) (by rw [List.length_map]; exact atL_lt hv2) k k k k (by simp only [len_map, lA, lT, lR, lC, lN, of_decide_eq_true q4]) (okLs.frzs _)) (ent_mk (σ := sg [(0, 0)]) ⟨⟨_, k, ⟨k, k, (by simp only [len_map, lA, lT, lR, lC, lN, of_decide_eq_true q4]), k⟩⟩, (e1 k k), (e1 k k), trivial⟩ (hX ⟨_, k, k, .inl ⟨set_eq (⟨x1.2.1, v3.1⟩ : Sc) k, okSc.plainO _⟩⟩ k <| trivial) k))) (ent_mk (σ := sg [(0, 0)]) ⟨(oE k k), (e1 k k), (e1 k k), trivial⟩ (hB (okSc.plainO _) k k k <| trivial) k))⟩
  ·refine ac_condF k q1 <| ac_exit <| then_exit <| then_exit ?_
   obtain rfl := so h
   exact ⟨_, k, k, (ent_mk (σ := sg [(0, 0)]) ⟨(e1 k k), trivial⟩ (hB (okSc.plainO _) k k k <| trivial) k)⟩
 ·rintro e t ⟨rfl, hent⟩
  refine block_here <| tn <| ac_ent hent <| sQ <| rgS <| se (eff_move k) k <| se (eff_assign k) k <| sn <| tn <| ac_ret ?_
  obtain rfl := so h
  exact ⟨mkS [(4, .int y5.2)] [(0, ⟨2, List.map (ow eS) y5.1⟩)] 1 [1, 2, 3] ⟨1, true, none, true⟩, (ent_mk (σ := sg [(0, 0)]) ⟨(e1 k k), trivial⟩ (hB (okSc.plainO _) k k k <| trivial) k), k, ⟨_, k, .inl k⟩, ⟨k, trivial⟩⟩

noncomputable def m_laws_markQuiver (a0 : Qv) (a1 : Int) : Option ((List Int) × (List Int) × Int) :=
  Option.bind (m_laws_markIntS a0.src a1) fun v1 =>
  bif decide (v1.1.length = a0.src.length) then
    (Option.bind (m_laws_markIntS a0.tgt v1.2) fun v3 =>
    bif decide (v3.1.length = a0.tgt.length) then
      (some (v1.1, v3.1, v3.2))
    else none)
  else none

theorem c_laws_markQuiver (a0 : Qv) (a1 : Int) (r : ((List Int) × (List Int) × Int)) (h : m_laws_markQuiver a0 a1 = some r) : HasE Try.prog 22 [.agg [.int a0.n, .own 0 0 a0.src.length, .own 1 0 a0.tgt.length], .int a1] [(0, ⟨1, List.map (ow eI) a0.src⟩), (1, ⟨1, List.map (ow eI) a0.tgt⟩)] 2 (.int r.2.2) [(0, ⟨1, List.map (ow eI) r.1⟩), (1, ⟨1, List.map (ow eI) r.2.1⟩)] := by
 refine hasE_mk TT_ok (rvs := [.tmp 4]) (ns := [2, 3, 4]) Try.func22 k k Try.ntmps22 k k <| sQ <| rg <| ae (w_box k k k k) k <| aa k k <| an <| tn <| sQ <| rg <| ae (w_field_ptr TT_ok k k k k k k k) k ?_
 refine ae (w_load_ptr TT_ok k k k k k k k) k <| am k k ?_
 obtain ⟨v1, hv1, h⟩ := ob h
 refine ae (eff_hasE (σ := sg [(0, 0)]) (σ' := sg [(0, 0)]) (touch := [0]) (news := []) (hl2 := [(0, ⟨1, List.map (ow eI) v1.1⟩)]) (n' := 3) (r2 := .int v1.2) (c_laws_markIntS a0.src a1 v1 hv1) k k ⟨_, _, k, ⟨k, k, k, k⟩, ⟨_, _, k, k, k⟩⟩ ⟨⟨_, k, k, .inl ⟨k, okI.plainO _⟩⟩, k, trivial⟩ k k k ⟨⟨_, k, k, .inl ⟨k, okI.plainO _⟩⟩, k, trivial⟩ k k k ⟨k, okI.tame _ _, trivial⟩ k k) k ?_
 obtain ⟨q2, h⟩ := cg h
 refine aa k k <| an <| tn <| sQ <| rg <| ae (w_field_ptr TT_ok k k k k k k k) k <| ae (w_load_ptr TT_ok k k k k k k k) k <| am k k ?_
 obtain ⟨v3, hv3, h⟩ := ob h
 refine ae (eff_hasE (σ := sg [(0, 1)]) (σ' := sg [(1, 0)]) (touch := [1]) (news := []) (hl2 := [(1, ⟨1, List.map (ow eI) v3.1⟩)]) (n' := 3) (r2 := .int v3.2) (c_laws_markIntS a0.tgt v1.2 v3 hv3) k k ⟨_, _, k, ⟨k, k, k, k⟩, ⟨_, _, k, k, k⟩⟩ ⟨⟨_, k, k, .inl ⟨k, okI.plainO _⟩⟩, k, trivial⟩ k k k ⟨⟨_, k, k, .inl ⟨k, okI.plainO _⟩⟩, k, trivial⟩ k k k ⟨k, okI.tame _ _, trivial⟩ k k) k ?_
 obtain ⟨q4, h⟩ := cg h
 refine aa k k <| an <| tn <| ac_ent (t := mkS [(1, .int v3.2)] [(0, ⟨1, List.map (ow eI) v1.1⟩), (1, ⟨1, List.map (ow eI) v3.1⟩)] 3 [3, 4] 2) (ent_mk (σ := sg [(0, 0), (1, 1)]) ⟨(e1 k k), trivial⟩ (hI k k k <| hI k k k <| trivial) k) <| sQ <| rg <| am k k <| aa k k <| an <| tn ?_
 refine ac_ret ?_
 obtain rfl := so h
 exact ⟨mkS [(4, .int v3.2)] [(0, ⟨1, List.map (ow eI) v1.1⟩), (1, ⟨1, List.map (ow eI) v3.1⟩)] 2 [2, 3, 4] 2, (ent_mk (σ := sg [(0, 0), (1, 1)]) ⟨(e1 k k), trivial⟩ (hI k k k <| hI k k k <| trivial) k), k, ⟨_, k, .inl k⟩, ⟨k, k, trivial⟩⟩

noncomputable def m_laws_markMatrixS_L1  (x1 : ((List Mt) × Int × Int)) : Option (((List Mt) × Int × Int) ⊕ ((List Mt) × Int)) :=
  bif decide (x1.2.2 < ((x1.1.length : Nat) : Int)) then
    (Option.bind (atL x1.1 x1.2.2) fun v2 =>
    Option.bind (m_laws_markIntS v2.cells (wr ((wr (x1.2.1 + 1)) + 1))) fun v3 =>
    bif decide (v3.1.length = v2.cells.length) then
      (some (.inl ((x1.1.set x1.2.2.toNat (⟨x1.2.1, wr (x1.2.1 + 1), v3.1⟩ : Mt)), v3.2, wr (x1.2.2 + 1))))
    else none)
  else
    (some (.inr (x1.1, x1.2.1)))

noncomputable def m_laws_markMatrixS (a0 : (List Mt)) (a1 : Int) : Option ((List Mt) × Int) :=
  Option.bind (Lp m_laws_markMatrixS_L1 (a0, a1, 0)) fun y5 =>
  some (y5.1, y5.2)

theorem c_laws_markMatrixS (a0 : (List Mt)) (a1 : Int) (r : ((List Mt) × Int)) (h : m_laws_markMatrixS a0 a1 = some r) : HasT Try.prog 38 [.own 0 0 a0.length, .int a1] [(0, ⟨3, List.map (ow eM) a0⟩)] 1 (.int r.2) [(0, ⟨3, List.map (ow eM) r.1⟩)] := by
 refine hasT_mk TT_ok (rvs := [.tmp 4]) (ns := [1, 2, 3]) Try.func38 k k Try.ntmps38 k k <| sQ <| rgS <| se (eff_assign k) k <| sn <| tn <| sQ <| sQ <| rgS <| se (eff_assign k) k ?_
 refine sn <| tn <| ac_block ?_
 obtain ⟨y5, hy5, h⟩ := ob h
 refine ac_Lp (body := m_laws_markMatrixS_L1) hy5 (fun (x1 : ((List Mt) × Int × Int)) => mkS [(0, .own 0 0 x1.1.length), (1, .int x1.2.1), (5, .int x1.2.2)] [(0, ⟨3, List.map (ow eM) x1.1⟩)] 1 [1, 2, 3] ⟨1, true, none, true⟩) (fun r e t => e = .exit 0 ∧ Ent t (mkS [(1, .int r.2)] [(0, ⟨3, List.map (ow eM) r.1⟩)] 1 [1, 2, 3] ⟨1, true, none, true⟩)) (ent_mk (σ := sg [(0, 0)]) ⟨(oE k k), (e1 k k), (e1 k k), trivial⟩ (hB (okMt.plainO _) k k k <| trivial) k) ?_ ?_
 ·intro x1 o h
  refine sQ <| sQ <| rgS <| se (eff_move k) k <| se (eff_move k) k <| se (w_len_own TT_ok k k k k) k <| se (w_cmp k k k) k <| sn <| tn ?_
  rcases cb h with ⟨q1, h⟩ | ⟨q1, h⟩
  ·refine ac_condT k q1 <| ac_skip <| tn <| sQ <| ac_block <| sQ <| rgS <| se (eff_move k) k <| se (eff_move k) k <| se (eff_move k) k ?_
   obtain ⟨v2, hv2, h⟩ := ob h
   refine sops_ent (t := mkS [(0, .own 0 0 x1.1.length), (1, .int x1.2.1), (5, .int x1.2.2), (6, .int x1.2.2), (7, .own 0 0 x1.1.length), (8, .int ((x1.1.length : Nat) : Int)), (9, .bl (decide (x1.2.2 < ((x1.1.length : Nat) : Int)))), (12, .own 0 0 x1.1.length), (13, .int x1.2.2), (14, .int x1.2.1)] [(0, ⟨3, (List.map (ow eM) x1.1).set x1.2.2.toNat [.int v2.rows, .int v2.cols, .abs 1 (List.map eI v2.cells)]⟩)] 1 [1, 2, 3] ⟨1, true, none, true⟩) (ent_mk (σ := sg [(0, 0)]) ⟨(oE k k), (e1 k k), (e1 k k), (e1 k k), (oE k k), (e1 k k), (e1 k k), (oE k k), (e1 k k), (e1 k k), trivial⟩ (hX ⟨_, k, k, .inl ⟨open_row (atL_get hv2), set_plain okMt k⟩⟩ k <| trivial) k) <| sops_ent (ent_openS (b := 0) (c := 1) (i := x1.2.2.toNat) (j := 2) (n := v2.cells.length) (A := List.map (ow eM) x1.1) (fs := List.map (ow eI) v2.cells) (by rw [List.length_map]; exact atL_lt hv2) k k k k (len_map _ _) (abs_map _ _) (dfE_ok ⟨k, k, k, k, k, k, k, k, k, k, trivial⟩) (dfH_ok (skip := []) ⟨.inr (okMt.dfS _ _ _ k), trivial⟩)) <| sops_ent (t := mkS [(0, .own 0 0 x1.1.length), (1, .int x1.2.1), (5, .int x1.2.2), (6, .int x1.2.2), (7, .own 0 0 x1.1.length), (8, .int ((x1.1.length : Nat) : Int)), (9, .bl (decide (x1.2.2 < ((x1.1.length : Nat) : Int)))), (12, .own 0 0 x1.1.length), (13, .int x1.2.2), (14, .int x1.2.1)] [(0, ⟨3, (List.map (ow eM) x1.1).set x1.2.2.toNat [.int v2.rows, .int v2.cols, .own 1 0 v2.cells.length]⟩), (1, ⟨1, List.map (ow eI) v2.cells⟩)] 2 [2, 3] ⟨1, true, none, true⟩) (ent_mk (σ := sg [(0, 0), (1, 1)]) ⟨(oE k k), (e1 k k), (e1 k k), (e1 k k), (oE k k), (e1 k k), (e1 k k), (oE k k), (e1 k k), (e1 k k), trivial⟩ (hX ⟨_, k, k, .inr (ent_set (σ := sg [(0, 0), (1, 1)]) (m := 2) (e := eM) (l := x1.1) (i := x1.2.2.toNat) (c := [.int v2.rows, .int v2.cols, .own 1 0 v2.cells.length]) (d := [.int v2.rows, .int v2.cols, .own 1 0 v2.cells.length]) okMt ⟨_, _, k, k, ⟨_, _, k, k, ⟨_, _, k, ⟨k, k, k, k⟩, k⟩⟩⟩)⟩ k <| hI k k k <| trivial) k) ?_
   refine se (x_at_own TT_ok (atL_nn hv2) (atL_lt hv2) k k k k k k k) k <| se (w_field_ptr TT_ok k k k k k k k) k <| se (x_storeS TT_ok (A := List.map (ow eM) x1.1) (by rw [List.length_map]; exact atL_lt hv2) k k k k k k k) k <| sn <| tn <| sQ <| rgS <| se (eff_move k) k <| se (x_add k k) k <| se (eff_assign k) k ?_
   refine sn <| tn <| sQ <| rgS <| se (eff_move k) k <| se (eff_move k) k <| se (eff_move k) k <| se (x_at_own TT_ok (atL_nn hv2) (atL_lt hv2) k k k k k k k) k <| se (w_field_ptr TT_ok k k k k k k k) k <| se (x_storeS TT_ok (A := List.map (ow eM) x1.1) (by rw [List.length_map]; exact atL_lt hv2) k k k k k k k) k ?_
   refine sn <| tn <| sQ <| rgS <| se (eff_move k) k <| se (x_add k k) k <| se (eff_assign k) k <| sn <| tn <| ac_ent (t := mkS [(0, .own 0 0 x1.1.length), (1, .int (wr ((wr (x1.2.1 + 1)) + 1))), (5, .int x1.2.2)] [(0, ⟨3, (List.map (ow eM) x1.1).set x1.2.2.toNat [.int x1.2.1, .int (wr (x1.2.1 + 1)), .own 1 0 v2.cells.length]⟩), (1, ⟨1, List.map (ow eI) v2.cells⟩)] 2 [2, 3] ⟨1, true, none, true⟩) (ent_mk (σ := sg [(0, 0), (1, 1)]) ⟨(oE k k), (e1 k k), (e1 k k), trivial⟩ (hX ⟨_, k, k, .inr (ent_set (σ := sg [(0, 0), (1, 1)]) (m := 2) (e := eM) (l := x1.1) (i := x1.2.2.toNat) (c := [.int x1.2.1, .int (wr (x1.2.1 + 1)), .own 1 0 v2.cells.length]) (d := [.int x1.2.1, .int (wr (x1.2.1 + 1)), .own 1 0 v2.cells.length]) okMt ⟨_, _, k, k, ⟨_, _, k, k, ⟨_, _, k, ⟨k, k, k, k⟩, k⟩⟩⟩)⟩ k <| hI k k k <| trivial) k) ?_
   refine rgS <| se (eff_move k) k <| se (eff_move k) k <| se (x_at_own TT_ok (atL_nn hv2) (atL_lt hv2) k k k k k k k) k <| se (w_field_ptr TT_ok k k k k k k k) k <| se (w_load_ptr TT_ok k k k k (set_at (atL_lt hv2)) k k) k <| se (eff_move k) k ?_
   obtain ⟨v3, hv3, h⟩ := ob h
   refine se (eff_hasE (σ := sg [(0, 1)]) (σ' := sg [(1, 0)]) (touch := [1]) (news := []) (hl2 := [(1, ⟨1, List.map (ow eI) v3.1⟩)]) (n' := 2) (r2 := .int v3.2) (c_laws_markIntS v2.cells (wr ((wr (x1.2.1 + 1)) + 1)) v3 hv3) k k ⟨_, _, k, ⟨k, k, k, k⟩, ⟨_, _, k, k, k⟩⟩ ⟨⟨_, k, k, .inl ⟨k, okI.plainO _⟩⟩, k, trivial⟩ k k k ⟨⟨_, k, k, .inl ⟨k, okI.plainO _⟩⟩, k, trivial⟩ k k k ⟨k, okI.tame _ _, trivial⟩ k k) k ?_
   obtain ⟨q4, h⟩ := cg h
   refine se (eff_assign k) k <| sn <| block_n <| tn <| rgS <| se (eff_move k) k <| se (x_add k k) k <| se (eff_assign k) k <| sn <| tn ?_
   obtain rfl := so h
   exact ⟨_, k, (Ent.trans (show Ent _ (mkS [(0, .own 0 0 ((x1.1.set x1.2.2.toNat (⟨x1.2.1, wr (x1.2.1 + 1), v3.1⟩ : Mt)).length)), (1, .int v3.2), (5, .int (wr (x1.2.2 + 1)))] [(0, ⟨3, List.map (ow eM) (x1.1.set x1.2.2.toNat (⟨x1.2.1, wr (x1.2.1 + 1), v3.1⟩ : Mt))⟩)] 2 [2, 3] ⟨1, true, none, true⟩) from (Ent.trans (ent_absS (b := 0) (b' := 1) (j := 2) (es' := List.map eI v3.1) (by rw [List.length_map]; exact atL_lt hv2) k k k k (by simp only [len_map, lA, lT, lR, lC, lN, of_decide_eq_true q4]) (okI.frzs _)) (ent_mk (σ := sg [(0, 0)]) ⟨⟨_, k, ⟨k, k, (by simp only [len_map, lA, lT, lR, lC, lN, of_decide_eq_true q4]), k⟩⟩, (e1 k k), (e1 k k), trivial⟩ (hX ⟨_, k, k, .inl ⟨set_eq (⟨x1.2.1, wr (x1.2.1 + 1), v3.1⟩ : Mt) k, okMt.plainO _⟩⟩ k <| trivial) k))) (ent_mk (σ := sg [(0, 0)]) ⟨(oE k k), (e1 k k), (e1 k k), trivial⟩ (hB (okMt.plainO _) k k k <| trivial) k))⟩
  ·refine ac_condF k q1 <| ac_exit <| then_exit <| then_exit ?_
   obtain rfl := so h
   exact ⟨_, k, k, (ent_mk (σ := sg [(0, 0)]) ⟨(e1 k k), trivial⟩ (hB (okMt.plainO _) k k k <| trivial) k)⟩
 ·rintro e t ⟨rfl, hent⟩
  refine block_here <| tn <| ac_ent hent <| sQ <| rgS <| se (eff_move k) k <| se (eff_assign k) k <| sn <| tn <| ac_ret ?_
  obtain rfl := so h
  exact ⟨mkS [(4, .int y5.2)] [(0, ⟨3, List.map (ow eM) y5.1⟩)] 1 [1, 2, 3] ⟨1, true, none, true⟩, (ent_mk (σ := sg [(0, 0)]) ⟨(e1 k k), trivial⟩ (hB (okMt.plainO _) k k k <| trivial) k), k, ⟨_, k, .inl k⟩, ⟨k, trivial⟩⟩

noncomputable def m_laws_markRep (a0 : Rp) (a1 : Int) : Option ((List Int) × (List Int) × (List Int) × (List Mt) × Int) :=
  Option.bind (m_laws_markQuiver a0.q a1) fun v1 =>
  bif decide (v1.1.length = a0.q.src.length) then
    (bif decide (v1.2.1.length = a0.q.tgt.length) then
      (Option.bind (m_laws_markIntS a0.dims v1.2.2) fun v4 =>
      bif decide (v4.1.length = a0.dims.length) then
        (Option.bind (m_laws_markMatrixS a0.maps v4.2) fun v6 =>
        bif decide (v6.1.length = a0.maps.length) then
          (some (v1.1, v1.2.1, v4.1, v6.1, v6.2))
        else none)
      else none)
    else none)
  else none

theorem c_laws_markRep (a0 : Rp) (a1 : Int) (r : ((List Int) × (List Int) × (List Int) × (List Mt) × Int)) (h : m_laws_markRep a0 a1 = some r) : HasT Try.prog 12 [.agg [.int a0.p, .int a0.q.n, .own 0 0 a0.q.src.length, .own 1 0 a0.q.tgt.length, .own 2 0 a0.dims.length, .own 3 0 a0.maps.length], .int a1] [(0, ⟨1, List.map (ow eI) a0.q.src⟩), (1, ⟨1, List.map (ow eI) a0.q.tgt⟩), (2, ⟨1, List.map (ow eI) a0.dims⟩), (3, ⟨3, List.map (ow eM) a0.maps⟩)] 4 (.int r.2.2.2.2) [(0, ⟨1, List.map (ow eI) r.1⟩), (1, ⟨1, List.map (ow eI) r.2.1⟩), (2, ⟨1, List.map (ow eI) r.2.2.1⟩), (3, ⟨3, List.map (ow eM) r.2.2.2.1⟩)] := by
 refine hasT_mk TT_ok (rvs := [.tmp 4]) (ns := [4, 5, 6]) Try.func12 k k Try.ntmps12 k k <| sQ <| rgS <| se (w_box k k k k) k <| se (eff_assign k) k <| sn <| tn <| sQ <| rgS <| se (w_field_ptr TT_ok k k k k k k k) k ?_
 refine se (w_load_ptr TT_ok k k k k k k k) k <| se (eff_move k) k ?_
 obtain ⟨v1, hv1, h⟩ := ob h
 refine se (eff_hasE (σ := sg [(0, 0), (1, 1)]) (σ' := sg [(0, 0), (1, 1)]) (touch := [0, 1]) (news := []) (hl2 := [(0, ⟨1, List.map (ow eI) v1.1⟩), (1, ⟨1, List.map (ow eI) v1.2.1⟩)]) (n' := 5) (r2 := .int v1.2.2) (c_laws_markQuiver a0.q a1 v1 hv1) k k ⟨_, _, k, ⟨_, _, k, k, ⟨_, _, k, ⟨k, k, k, k⟩, ⟨_, _, k, ⟨k, k, k, k⟩, k⟩⟩⟩, ⟨_, _, k, k, k⟩⟩ ⟨⟨_, k, k, .inl ⟨k, okI.plainO _⟩⟩, k, ⟨_, k, k, .inl ⟨k, okI.plainO _⟩⟩, k, trivial⟩ k k k ⟨⟨_, k, k, .inl ⟨k, okI.plainO _⟩⟩, k, ⟨_, k, k, .inl ⟨k, okI.plainO _⟩⟩, k, trivial⟩ k k k ⟨k, okI.tame _ _, ⟨k, okI.tame _ _, trivial⟩⟩ k k) k ?_
 obtain ⟨q2, h⟩ := cg h
 obtain ⟨q3, h⟩ := cg h
 refine se (eff_assign k) k <| sn <| tn <| sQ <| rgS <| se (w_field_ptr TT_ok k k k k k k k) k <| se (w_load_ptr TT_ok k k k k k k k) k <| se (eff_move k) k ?_
 obtain ⟨v4, hv4, h⟩ := ob h
 refine se (eff_hasE (σ := sg [(0, 2)]) (σ' := sg [(2, 0)]) (touch := [2]) (news := []) (hl2 := [(2, ⟨1, List.map (ow eI) v4.1⟩)]) (n' := 5) (r2 := .int v4.2) (c_laws_markIntS a0.dims v1.2.2 v4 hv4) k k ⟨_, _, k, ⟨k, k, k, k⟩, ⟨_, _, k, k, k⟩⟩ ⟨⟨_, k, k, .inl ⟨k, okI.plainO _⟩⟩, k, trivial⟩ k k k ⟨⟨_, k, k, .inl ⟨k, okI.plainO _⟩⟩, k, trivial⟩ k k k ⟨k, okI.tame _ _, trivial⟩ k k) k ?_
 obtain ⟨q5, h⟩ := cg h
 refine se (eff_assign k) k <| sn <| tn <| ac_ent (t := mkS [(1, .int v4.2), (2, .ptr 4 0 0)] [(0, ⟨1, List.map (ow eI) v1.1⟩), (1, ⟨1, List.map (ow eI) v1.2.1⟩), (2, ⟨1, List.map (ow eI) v4.1⟩), (3, ⟨3, List.map (ow eM) a0.maps⟩), (4, ⟨6, [[.int a0.p, .int a0.q.n, .own 0 0 v1.1.length, .own 1 0 v1.2.1.length, .own 2 0 v4.1.length, .own 3 0 a0.maps.length]]⟩)] 5 [5, 6] ⟨4, true, none, true⟩) (ent_mk (σ := sg [(0, 0), (1, 1), (2, 2), (3, 3), (4, 4)]) ⟨(e1 k k), (pE k k), trivial⟩ (hI k k k <| hI k k k <| hI k k k <| hB (okMt.plainO _) k k k <| hX ⟨_, k, k, .inr ⟨_, _, k, ⟨_, _, k, k, ⟨_, _, k, k, ⟨_, _, k, ⟨k, k, (by simp only [len_map, lA, lT, lR, lC, lN, of_decide_eq_true q2]), k⟩, ⟨_, _, k, ⟨k, k, (by simp only [len_map, lA, lT, lR, lC, lN, of_decide_eq_true q3]), k⟩, ⟨_, _, k, ⟨k, k, (by simp only [len_map, lA, lT, lR, lC, lN, of_decide_eq_true q5]), k⟩, ⟨_, _, k, ⟨k, k, k, k⟩, k⟩⟩⟩⟩⟩⟩, k⟩⟩ k <| trivial) k) <| sQ <| rgS <| se (w_field_ptr TT_ok k k k k k k k) k <| se (w_load_ptr TT_ok k k k k k k k) k <| se (eff_move k) k ?_
 obtain ⟨v6, hv6, h⟩ := ob h
 refine sops_ent (t := mkS [(1, .int v4.2), (2, .ptr 4 0 0), (13, .ptr 4 0 5), (14, .own 3 0 a0.maps.length), (15, .int v4.2)] [(0, ⟨1, List.map (ow eI) v1.1⟩), (1, ⟨1, List.map (ow eI) v1.2.1⟩), (2, ⟨1, List.map (ow eI) v4.1⟩), (3, ⟨3, List.map (ow eM) a0.maps⟩), (4, ⟨6, [[.int a0.p, .int a0.q.n, .own 0 0 v1.1.length, .own 1 0 v1.2.1.length, .own 2 0 v4.1.length, .own 3 0 a0.maps.length]]⟩)] 5 [5, 6] ⟨4, true, none, true⟩) (ent_mk (σ := sg [(0, 0), (1, 1), (2, 2), (3, 3), (4, 4)]) ⟨(e1 k k), (pE k k), (pE k k), (oE k k), (e1 k k), trivial⟩ (hI k k k <| hI k k k <| hI k k k <| hB (okMt.plainO _) k k k <| hX ⟨_, k, k, .inr ⟨_, _, k, ⟨_, _, k, k, ⟨_, _, k, k, ⟨_, _, k, ⟨k, k, k, k⟩, ⟨_, _, k, ⟨k, k, k, k⟩, ⟨_, _, k, ⟨k, k, k, k⟩, ⟨_, _, k, ⟨k, k, k, k⟩, k⟩⟩⟩⟩⟩⟩, k⟩⟩ k <| trivial) k) <| sops_T (σ := sg [(0, 3)]) (σ' := sg [(3, 0)]) (touch := [3]) (news := []) (hl2 := [(3, ⟨3, List.map (ow eM) v6.1⟩)]) (n' := 5) (r2 := .int v6.2) (c_laws_markMatrixS a0.maps v4.2 v6 hv6) k k ⟨_, _, k, ⟨k, k, k, k⟩, ⟨_, _, k, k, k⟩⟩ ⟨⟨_, k, k, .inl ⟨k, okMt.plainO _⟩⟩, k, trivial⟩ k k k ⟨⟨_, k, k, .inl ⟨k, okMt.plainO _⟩⟩, k, trivial⟩ k k k ⟨k, okMt.tame _ _, trivial⟩ k k k k k (dfE_ok ⟨k, k, k, k, k, trivial⟩) (dfH_ok (skip := [3]) ⟨.inr (okI.df _ _), .inr (okI.df _ _), .inr (okI.df _ _), .inl (by decide), .inr (df_lit k), trivial⟩) ?_
 obtain ⟨q7, h⟩ := cg h
 refine se (eff_assign k) k <| sn <| tn <| sQ <| rgS <| se (eff_move k) k <| se (eff_assign k) k <| sn <| tn <| ac_ret ?_
 obtain rfl := so h
 exact ⟨mkS [(4, .int v6.2)] [(0, ⟨1, List.map (ow eI) v1.1⟩), (1, ⟨1, List.map (ow eI) v1.2.1⟩), (2, ⟨1, List.map (ow eI) v4.1⟩), (3, ⟨3, List.map (ow eM) v6.1⟩)] 4 [4, 5, 6] ⟨4, true, none, true⟩, (ent_mk (σ := sg [(0, 0), (1, 1), (2, 2), (3, 3)]) ⟨(e1 k k), trivial⟩ (hI k k k <| hI k k k <| hI k k k <| hB (okMt.plainO _) k k k <| trivial) k), k, ⟨_, k, .inl k⟩, ⟨k, k, k, k, trivial⟩⟩

noncomputable def m_laws_markRepS_L1  (x1 : ((List Rp) × Int × Int)) : Option (((List Rp) × Int × Int) ⊕ ((List Rp) × Int)) :=
  bif decide (x1.2.2 < ((x1.1.length : Nat) : Int)) then
    (Option.bind (atL x1.1 x1.2.2) fun v2 =>
    Option.bind (m_laws_markIntS v2.q.src (wr ((wr (x1.2.1 + 1)) + 1))) fun v3 =>
    bif decide (v3.1.length = v2.q.src.length) then
      (Option.bind (m_laws_markIntS v2.q.tgt v3.2) fun v5 =>
      bif decide (v5.1.length = v2.q.tgt.length) then
        (Option.bind (m_laws_markIntS v2.dims v5.2) fun v7 =>
        bif decide (v7.1.length = v2.dims.length) then
          (Option.bind (m_laws_markMatrixS v2.maps v7.2) fun v9 =>
          bif decide (v9.1.length = v2.maps.length) then
            (some (.inl ((x1.1.set x1.2.2.toNat (⟨x1.2.1, (⟨wr (x1.2.1 + 1), v3.1, v5.1⟩ : Qv), v7.1, v9.1⟩ : Rp)), v9.2, wr (x1.2.2 + 1))))
          else none)
        else none)
      else none)
    else none)
  else
    (some (.inr (x1.1, x1.2.1)))

noncomputable def m_laws_markRepS (a0 : (List Rp)) (a1 : Int) : Option ((List Rp) × Int) :=
  Option.bind (Lp m_laws_markRepS_L1 (a0, a1, 0)) fun y11 =>
  some (y11.1, y11.2)

theorem c_laws_markRepS (a0 : (List Rp)) (a1 : Int) (r : ((List Rp) × Int)) (h : m_laws_markRepS a0 a1 = some r) : HasT Try.prog 39 [.own 0 0 a0.length, .int a1] [(0, ⟨6, List.map (ow eR) a0⟩)] 1 (.int r.2) [(0, ⟨6, List.map (ow eR) r.1⟩)] := by
 refine hasT_mk TT_ok (rvs := [.tmp 4]) (ns := [1, 2, 3, 4, 5, 6]) Try.func39 k k Try.ntmps39 k k <| sQ <| rgS <| se (eff_assign k) k <| sn <| tn <| sQ <| sQ <| rgS <| se (eff_assign k) k ?_
 refine sn <| tn <| ac_block ?_
 obtain ⟨y11, hy11, h⟩ := ob h
 refine ac_Lp (body := m_laws_markRepS_L1) hy11 (fun (x1 : ((List Rp) × Int × Int)) => mkS [(0, .own 0 0 x1.1.length), (1, .int x1.2.1), (5, .int x1.2.2)] [(0, ⟨6, List.map (ow eR) x1.1⟩)] 1 [1, 2, 3, 4, 5, 6] ⟨1, true, none, true⟩) (fun r e t => e = .exit 0 ∧ Ent t (mkS [(1, .int r.2)] [(0, ⟨6, List.map (ow eR) r.1⟩)] 1 [1, 2, 3, 4, 5, 6] ⟨1, true, none, true⟩)) (ent_mk (σ := sg [(0, 0)]) ⟨(oE k k), (e1 k k), (e1 k k), trivial⟩ (hB (okRp.plainO _) k k k <| trivial) k) ?_ ?_
 ·intro x1 o h
  refine sQ <| sQ <| rgS <| se (eff_move k) k <| se (eff_move k) k <| se (w_len_own TT_ok k k k k) k <| se (w_cmp k k k) k <| sn <| tn ?_
  rcases cb h with ⟨q1, h⟩ | ⟨q1, h⟩
  ·refine ac_condT k q1 <| ac_skip <| tn <| sQ <| ac_block <| sQ <| rgS <| se (eff_move k) k <| se (eff_move k) k <| se (eff_move k) k ?_
   obtain ⟨v2, hv2, h⟩ := ob h
   refine sops_ent (t := mkS [(0, .own 0 0 x1.1.length), (1, .int x1.2.1), (5, .int x1.2.2), (6, .int x1.2.2), (7, .own 0 0 x1.1.length), (8, .int ((x1.1.length : Nat) : Int)), (9, .bl (decide (x1.2.2 < ((x1.1.length : Nat) : Int)))), (12, .own 0 0 x1.1.length), (13, .int x1.2.2), (14, .int x1.2.1)] [(0, ⟨6, (List.map (ow eR) x1.1).set x1.2.2.toNat [.int v2.p, .int v2.q.n, .abs 1 (List.map eI v2.q.src), .abs 1 (List.map eI v2.q.tgt), .abs 1 (List.map eI v2.dims), .abs 3 (List.map eM v2.maps)]⟩)] 1 [1, 2, 3, 4, 5, 6] ⟨1, true, none, true⟩) (ent_mk (σ := sg [(0, 0)]) ⟨(oE k k), (e1 k k), (e1 k k), (e1 k k), (oE k k), (e1 k k), (e1 k k), (oE k k), (e1 k k), (e1 k k), trivial⟩ (hX ⟨_, k, k, .inl ⟨open_row (atL_get hv2), set_plain okRp k⟩⟩ k <| trivial) k) <| sops_ent (ent_openS (b := 0) (c := 1) (i := x1.2.2.toNat) (j := 2) (n := v2.q.src.length) (A := List.map (ow eR) x1.1) (fs := List.map (ow eI) v2.q.src) (by rw [List.length_map]; exact atL_lt hv2) k k k k (len_map _ _) (abs_map _ _) (dfE_ok ⟨k, k, k, k, k, k, k, k, k, k, trivial⟩) (dfH_ok (skip := []) ⟨.inr (okRp.dfS _ _ _ k), trivial⟩)) <| sops_ent (t := mkS [(0, .own 0 0 x1.1.length), (1, .int x1.2.1), (5, .int x1.2.2), (6, .int x1.2.2), (7, .own 0 0 x1.1.length), (8, .int ((x1.1.length : Nat) : Int)), (9, .bl (decide (x1.2.2 < ((x1.1.length : Nat) : Int)))), (12, .own 0 0 x1.1.length), (13, .int x1.2.2), (14, .int x1.2.1)] [(0, ⟨6, (List.map (ow eR) x1.1).set x1.2.2.toNat [.int v2.p, .int v2.q.n, .own 1 0 v2.q.src.length, .abs 1 (List.map eI v2.q.tgt), .abs 1 (List.map eI v2.dims), .abs 3 (List.map eM v2.maps)]⟩), (1, ⟨1, List.map (ow eI) v2.q.src⟩)] 2 [2, 3, 4, 5, 6] ⟨1, true, none, true⟩) (ent_mk (σ := sg [(0, 0), (1, 1)]) ⟨(oE k k), (e1 k k), (e1 k k), (e1 k k), (oE k k), (e1 k k), (e1 k k), (oE k k), (e1 k k), (e1 k k), trivial⟩ (hX ⟨_, k, k, .inr (ent_set (σ := sg [(0, 0), (1, 1)]) (m := 2) (e := eR) (l := x1.1) (i := x1.2.2.toNat) (c := [.int v2.p, .int v2.q.n, .own 1 0 v2.q.src.length, .abs 1 (List.map eI v2.q.tgt), .abs 1 (List.map eI v2.dims), .abs 3 (List.map eM v2.maps)]) (d := [.int v2.p, .int v2.q.n, .own 1 0 v2.q.src.length, .abs 1 (List.map eI v2.q.tgt), .abs 1 (List.map eI v2.dims), .abs 3 (List.map eM v2.maps)]) okRp ⟨_, _, k, k, ⟨_, _, k, k, ⟨_, _, k, ⟨k, k, k, k⟩, ⟨_, _, k, ⟨k, k⟩, ⟨_, _, k, ⟨k, k⟩, ⟨_, _, k, ⟨k, k⟩, k⟩⟩⟩⟩⟩⟩)⟩ k <| hI k k k <| trivial) k) ?_
   refine sops_ent (ent_openS (b := 0) (c := 2) (i := x1.2.2.toNat) (j := 3) (n := v2.q.tgt.length) (A := List.map (ow eR) x1.1) (fs := List.map (ow eI) v2.q.tgt) (by rw [List.length_map]; exact atL_lt hv2) k k k k (len_map _ _) (abs_map _ _) (dfE_ok ⟨k, k, k, k, k, k, k, k, k, k, trivial⟩) (dfH_ok (skip := []) ⟨.inr (okRp.dfS _ _ _ k), .inr (okI.df _ _), trivial⟩)) <| sops_ent (t := mkS [(0, .own 0 0 x1.1.length), (1, .int x1.2.1), (5, .int x1.2.2), (6, .int x1.2.2), (7, .own 0 0 x1.1.length), (8, .int ((x1.1.length : Nat) : Int)), (9, .bl (decide (x1.2.2 < ((x1.1.length : Nat) : Int)))), (12, .own 0 0 x1.1.length), (13, .int x1.2.2), (14, .int x1.2.1)] [(0, ⟨6, (List.map (ow eR) x1.1).set x1.2.2.toNat [.int v2.p, .int v2.q.n, .own 1 0 v2.q.src.length, .own 2 0 v2.q.tgt.length, .abs 1 (List.map eI v2.dims), .abs 3 (List.map eM v2.maps)]⟩), (1, ⟨1, List.map (ow eI) v2.q.src⟩), (2, ⟨1, List.map (ow eI) v2.q.tgt⟩)] 3 [3, 4, 5, 6] ⟨1, true, none, true⟩) (ent_mk (σ := sg [(0, 0), (1, 1), (2, 2)]) ⟨(oE k k), (e1 k k), (e1 k k), (e1 k k), (oE k k), (e1 k k), (e1 k k), (oE k k), (e1 k k), (e1 k k), trivial⟩ (hX ⟨_, k, k, .inr (ent_set (σ := sg [(0, 0), (1, 1), (2, 2)]) (m := 3) (e := eR) (l := x1.1) (i := x1.2.2.toNat) (c := [.int v2.p, .int v2.q.n, .own 1 0 v2.q.src.length, .own 2 0 v2.q.tgt.length, .abs 1 (List.map eI v2.dims), .abs 3 (List.map eM v2.maps)]) (d := [.int v2.p, .int v2.q.n, .own 1 0 v2.q.src.length, .own 2 0 v2.q.tgt.length, .abs 1 (List.map eI v2.dims), .abs 3 (List.map eM v2.maps)]) okRp ⟨_, _, k, k, ⟨_, _, k, k, ⟨_, _, k, ⟨k, k, k, k⟩, ⟨_, _, k, ⟨k, k, k, k⟩, ⟨_, _, k, ⟨k, k⟩, ⟨_, _, k, ⟨k, k⟩, k⟩⟩⟩⟩⟩⟩)⟩ k <| hI k k k <| hI k k k <| trivial) k) ?_
   refine sops_ent (ent_openS (b := 0) (c := 3) (i := x1.2.2.toNat) (j := 4) (n := v2.dims.length) (A := List.map (ow eR) x1.1) (fs := List.map (ow eI) v2.dims) (by rw [List.length_map]; exact atL_lt hv2) k k k k (len_map _ _) (abs_map _ _) (dfE_ok ⟨k, k, k, k, k, k, k, k, k, k, trivial⟩) (dfH_ok (skip := []) ⟨.inr (okRp.dfS _ _ _ k), .inr (okI.df _ _), .inr (okI.df _ _), trivial⟩)) <| sops_ent (t := mkS [(0, .own 0 0 x1.1.length), (1, .int x1.2.1), (5, .int x1.2.2), (6, .int x1.2.2), (7, .own 0 0 x1.1.length), (8, .int ((x1.1.length : Nat) : Int)), (9, .bl (decide (x1.2.2 < ((x1.1.length : Nat) : Int)))), (12, .own 0 0 x1.1.length), (13, .int x1.2.2), (14, .int x1.2.1)] [(0, ⟨6, (List.map (ow eR) x1.1).set x1.2.2.toNat [.int v2.p, .int v2.q.n, .own 1 0 v2.q.src.length, .own 2 0 v2.q.tgt.length, .own 3 0 v2.dims.length, .abs 3 (List.map eM v2.maps)]⟩), (1, ⟨1, List.map (ow eI) v2.q.src⟩), (2, ⟨1, List.map (ow eI) v2.q.tgt⟩), (3, ⟨1, List.map (ow eI) v2.dims⟩)] 4 [4, 5, 6] ⟨1, true, none, true⟩) (ent_mk (σ := sg [(0, 0), (1, 1), (2, 2), (3, 3)]) ⟨(oE k k), (e1 k k), (e1 k k), (e1 k k), (oE k k), (e1 k k), (e1 k k), (oE k k), (e1 k k), (e1 k k), trivial⟩ (hX ⟨_, k, k, .inr (ent_set (σ := sg [(0, 0), (1, 1), (2, 2), (3, 3)]) (m := 4) (e := eR) (l := x1.1) (i := x1.2.2.toNat) (c := [.int v2.p, .int v2.q.n, .own 1 0 v2.q.src.length, .own 2 0 v2.q.tgt.length, .own 3 0 v2.dims.length, .abs 3 (List.map eM v2.maps)]) (d := [.int v2.p, .int v2.q.n, .own 1 0 v2.q.src.length, .own 2 0 v2.q.tgt.length, .own 3 0 v2.dims.length, .abs 3 (List.map eM v2.maps)]) okRp ⟨_, _, k, k, ⟨_, _, k, k, ⟨_, _, k, ⟨k, k, k, k⟩, ⟨_, _, k, ⟨k, k, k, k⟩, ⟨_, _, k, ⟨k, k, k, k⟩, ⟨_, _, k, ⟨k, k⟩, k⟩⟩⟩⟩⟩⟩)⟩ k <| hI k k k <| hI k k k <| hI k k k <| trivial) k) ?_
   refine sops_ent (ent_openS (b := 0) (c := 4) (i := x1.2.2.toNat) (j := 5) (n := v2.maps.length) (A := List.map (ow eR) x1.1) (fs := List.map (ow eM) v2.maps) (by rw [List.length_map]; exact atL_lt hv2) k k k k (len_map _ _) (abs_map _ _) (dfE_ok ⟨k, k, k, k, k, k, k, k, k, k, trivial⟩) (dfH_ok (skip := []) ⟨.inr (okRp.dfS _ _ _ k), .inr (okI.df _ _), .inr (okI.df _ _), .inr (okI.df _ _), trivial⟩)) <| sops_ent (t := mkS [(0, .own 0 0 x1.1.length), (1, .int x1.2.1), (5, .int x1.2.2), (6, .int x1.2.2), (7, .own 0 0 x1.1.length), (8, .int ((x1.1.length : Nat) : Int)), (9, .bl (decide (x1.2.2 < ((x1.1.length : Nat) : Int)))), (12, .own 0 0 x1.1.length), (13, .int x1.2.2), (14, .int x1.2.1)] [(0, ⟨6, (List.map (ow eR) x1.1).set x1.2.2.toNat [.int v2.p, .int v2.q.n, .own 1 0 v2.q.src.length, .own 2 0 v2.q.tgt.length, .own 3 0 v2.dims.length, .own 4 0 v2.maps.length]⟩), (1, ⟨1, List.map (ow eI) v2.q.src⟩), (2, ⟨1, List.map (ow eI) v2.q.tgt⟩), (3, ⟨1, List.map (ow eI) v2.dims⟩), (4, ⟨3, List.map (ow eM) v2.maps⟩)] 5 [5, 6] ⟨1, true, none, true⟩) (ent_mk (σ := sg [(0, 0), (1, 1), (2, 2), (3, 3), (4, 4)]) ⟨(oE k k), (e1 k k), (e1 k k), (e1 k k), (oE k k), (e1 k k), (e1 k k), (oE k k), (e1 k k), (e1 k k), trivial⟩ (hX ⟨_, k, k, .inr (ent_set (σ := sg [(0, 0), (1, 1), (2, 2), (3, 3), (4, 4)]) (m := 5) (e := eR) (l := x1.1) (i := x1.2.2.toNat) (c := [.int v2.p, .int v2.q.n, .own 1 0 v2.q.src.length, .own 2 0 v2.q.tgt.length, .own 3 0 v2.dims.length, .own 4 0 v2.maps.length]) (d := [.int v2.p, .int v2.q.n, .own 1 0 v2.q.src.length, .own 2 0 v2.q.tgt.length, .own 3 0 v2.dims.length, .own 4 0 v2.maps.length]) okRp ⟨_, _, k, k, ⟨_, _, k, k, ⟨_, _, k, ⟨k, k, k, k⟩, ⟨_, _, k, ⟨k, k, k, k⟩, ⟨_, _, k, ⟨k, k, k, k⟩, ⟨_, _, k, ⟨k, k, k, k⟩, k⟩⟩⟩⟩⟩⟩)⟩ k <| hI k k k <| hI k k k <| hI k k k <| hB (okMt.plainO _) k k k <| trivial) k) ?_
   refine se (x_at_own TT_ok (atL_nn hv2) (atL_lt hv2) k k k k k k k) k <| se (w_field_ptr TT_ok k k k k k k k) k <| se (x_storeS TT_ok (A := List.map (ow eR) x1.1) (by rw [List.length_map]; exact atL_lt hv2) k k k k k k k) k <| sn <| tn <| sQ <| rgS <| se (eff_move k) k <| se (x_add k k) k <| se (eff_assign k) k ?_
   refine sn <| tn <| sQ <| rgS <| se (eff_move k) k <| se (eff_move k) k <| se (eff_move k) k <| se (x_at_own TT_ok (atL_nn hv2) (atL_lt hv2) k k k k k k k) k <| se (w_field_ptr TT_ok k k k k k k k) k <| se (w_field_ptr TT_ok k k k k k k k) k ?_
   refine se (x_storeS TT_ok (A := List.map (ow eR) x1.1) (by rw [List.length_map]; exact atL_lt hv2) k k k k k k k) k <| sn <| tn <| ac_ent (t := mkS [(0, .own 0 0 x1.1.length), (1, .int (wr (x1.2.1 + 1))), (5, .int x1.2.2)] [(0, ⟨6, (List.map (ow eR) x1.1).set x1.2.2.toNat [.int x1.2.1, .int (wr (x1.2.1 + 1)), .own 1 0 v2.q.src.length, .own 2 0 v2.q.tgt.length, .own 3 0 v2.dims.length, .own 4 0 v2.maps.length]⟩), (1, ⟨1, List.map (ow eI) v2.q.src⟩), (2, ⟨1, List.map (ow eI) v2.q.tgt⟩), (3, ⟨1, List.map (ow eI) v2.dims⟩), (4, ⟨3, List.map (ow eM) v2.maps⟩)] 5 [5, 6] ⟨1, true, none, true⟩) (ent_mk (σ := sg [(0, 0), (1, 1), (2, 2), (3, 3), (4, 4)]) ⟨(oE k k), (e1 k k), (e1 k k), trivial⟩ (hX ⟨_, k, k, .inr (ent_set (σ := sg [(0, 0), (1, 1), (2, 2), (3, 3), (4, 4)]) (m := 5) (e := eR) (l := x1.1) (i := x1.2.2.toNat) (c := [.int x1.2.1, .int (wr (x1.2.1 + 1)), .own 1 0 v2.q.src.length, .own 2 0 v2.q.tgt.length, .own 3 0 v2.dims.length, .own 4 0 v2.maps.length]) (d := [.int x1.2.1, .int (wr (x1.2.1 + 1)), .own 1 0 v2.q.src.length, .own 2 0 v2.q.tgt.length, .own 3 0 v2.dims.length, .own 4 0 v2.maps.length]) okRp ⟨_, _, k, k, ⟨_, _, k, k, ⟨_, _, k, ⟨k, k, k, k⟩, ⟨_, _, k, ⟨k, k, k, k⟩, ⟨_, _, k, ⟨k, k, k, k⟩, ⟨_, _, k, ⟨k, k, k, k⟩, k⟩⟩⟩⟩⟩⟩)⟩ k <| hI k k k <| hI k k k <| hI k k k <| hB (okMt.plainO _) k k k <| trivial) k) <| sQ <| rgS <| se (eff_move k) k <| se (x_add k k) k <| se (eff_assign k) k <| sn ?_
   refine tn <| sQ <| rgS <| se (eff_move k) k <| se (eff_move k) k <| se (x_at_own TT_ok (atL_nn hv2) (atL_lt hv2) k k k k k k k) k <| se (w_field_ptr TT_ok k k k k k k k) k <| se (w_field_ptr TT_ok k k k k k k k) k <| se (w_load_ptr TT_ok k k k k (set_at (atL_lt hv2)) k k) k <| se (eff_move k) k ?_
   obtain ⟨v3, hv3, h⟩ := ob h
   refine se (eff_hasE (σ := sg [(0, 1)]) (σ' := sg [(1, 0)]) (touch := [1]) (news := []) (hl2 := [(1, ⟨1, List.map (ow eI) v3.1⟩)]) (n' := 5) (r2 := .int v3.2) (c_laws_markIntS v2.q.src (wr ((wr (x1.2.1 + 1)) + 1)) v3 hv3) k k ⟨_, _, k, ⟨k, k, k, k⟩, ⟨_, _, k, k, k⟩⟩ ⟨⟨_, k, k, .inl ⟨k, okI.plainO _⟩⟩, k, trivial⟩ k k k ⟨⟨_, k, k, .inl ⟨k, okI.plainO _⟩⟩, k, trivial⟩ k k k ⟨k, okI.tame _ _, trivial⟩ k k) k ?_
   obtain ⟨q4, h⟩ := cg h
   refine se (eff_assign k) k <| sn <| tn <| ac_ent (t := mkS [(0, .own 0 0 x1.1.length), (1, .int v3.2), (5, .int x1.2.2)] [(0, ⟨6, (List.map (ow eR) x1.1).set x1.2.2.toNat [.int x1.2.1, .int (wr (x1.2.1 + 1)), .own 1 0 v3.1.length, .own 2 0 v2.q.tgt.length, .own 3 0 v2.dims.length, .own 4 0 v2.maps.length]⟩), (1, ⟨1, List.map (ow eI) v3.1⟩), (2, ⟨1, List.map (ow eI) v2.q.tgt⟩), (3, ⟨1, List.map (ow eI) v2.dims⟩), (4, ⟨3, List.map (ow eM) v2.maps⟩)] 5 [5, 6] ⟨1, true, none, true⟩) (ent_mk (σ := sg [(0, 0), (1, 1), (2, 2), (3, 3), (4, 4)]) ⟨(oE k k), (e1 k k), (e1 k k), trivial⟩ (hX ⟨_, k, k, .inr (ent_set (σ := sg [(0, 0), (1, 1), (2, 2), (3, 3), (4, 4)]) (m := 5) (e := eR) (l := x1.1) (i := x1.2.2.toNat) (c := [.int x1.2.1, .int (wr (x1.2.1 + 1)), .own 1 0 v2.q.src.length, .own 2 0 v2.q.tgt.length, .own 3 0 v2.dims.length, .own 4 0 v2.maps.length]) (d := [.int x1.2.1, .int (wr (x1.2.1 + 1)), .own 1 0 v3.1.length, .own 2 0 v2.q.tgt.length, .own 3 0 v2.dims.length, .own 4 0 v2.maps.length]) okRp ⟨_, _, k, k, ⟨_, _, k, k, ⟨_, _, k, ⟨k, k, (by simp only [len_map, lA, lT, lR, lC, lN, of_decide_eq_true q4]), k⟩, ⟨_, _, k, ⟨k, k, k, k⟩, ⟨_, _, k, ⟨k, k, k, k⟩, ⟨_, _, k, ⟨k, k, k, k⟩, k⟩⟩⟩⟩⟩⟩)⟩ k <| hI k k k <| hI k k k <| hI k k k <| hB (okMt.plainO _) k k k <| trivial) k) <| sQ <| rgS <| se (eff_move k) k <| se (eff_move k) k <| se (x_at_own TT_ok (atL_nn hv2) (atL_lt hv2) k k k k k k k) k <| se (w_field_ptr TT_ok k k k k k k k) k ?_
   refine se (w_field_ptr TT_ok k k k k k k k) k <| se (w_load_ptr TT_ok k k k k (set_at (atL_lt hv2)) k k) k <| se (eff_move k) k ?_
   obtain ⟨v5, hv5, h⟩ := ob h
   refine se (eff_hasE (σ := sg [(0, 2)]) (σ' := sg [(2, 0)]) (touch := [2]) (news := []) (hl2 := [(2, ⟨1, List.map (ow eI) v5.1⟩)]) (n' := 5) (r2 := .int v5.2) (c_laws_markIntS v2.q.tgt v3.2 v5 hv5) k k ⟨_, _, k, ⟨k, k, k, k⟩, ⟨_, _, k, k, k⟩⟩ ⟨⟨_, k, k, .inl ⟨k, okI.plainO _⟩⟩, k, trivial⟩ k k k ⟨⟨_, k, k, .inl ⟨k, okI.plainO _⟩⟩, k, trivial⟩ k k k ⟨k, okI.tame _ _, trivial⟩ k k) k ?_
   obtain ⟨q6, h⟩ := cg h
   refine se (eff_assign k) k <| sn <| tn <| sQ <| rgS <| se (eff_move k) k <| se (eff_move k) k <| se (x_at_own TT_ok (atL_nn hv2) (atL_lt hv2) k k k k k k k) k <| se (w_field_ptr TT_ok k k k k k k k) k <| se (w_load_ptr TT_ok k k k k (set_at (atL_lt hv2)) k k) k ?_
   refine se (eff_move k) k ?_
   obtain ⟨v7, hv7, h⟩ := ob h
   refine se (eff_hasE (σ := sg [(0, 3)]) (σ' := sg [(3, 0)]) (touch := [3]) (news := []) (hl2 := [(3, ⟨1, List.map (ow eI) v7.1⟩)]) (n' := 5) (r2 := .int v7.2) (c_laws_markIntS v2.dims v5.2 v7 hv7) k k ⟨_, _, k, ⟨k, k, k, k⟩, ⟨_, _, k, k, k⟩⟩ ⟨⟨_, k, k, .inl ⟨k, okI.plainO _⟩⟩, k, trivial⟩ k k k ⟨⟨_, k, k, .inl ⟨k, okI.plainO _⟩⟩, k, trivial⟩ k k k ⟨k, okI.tame _ _, trivial⟩ k k) k ?_
   obtain ⟨q8, h⟩ := cg h
   refine se (eff_assign k) k <| sn <| tn <| ac_ent (t := mkS [(0, .own 0 0 x1.1.length), (1, .int v7.2), (5, .int x1.2.2)] [(0, ⟨6, (List.map (ow eR) x1.1).set x1.2.2.toNat [.int x1.2.1, .int (wr (x1.2.1 + 1)), .own 1 0 v3.1.length, .own 2 0 v5.1.length, .own 3 0 v7.1.length, .own 4 0 v2.maps.length]⟩), (1, ⟨1, List.map (ow eI) v3.1⟩), (2, ⟨1, List.map (ow eI) v5.1⟩), (3, ⟨1, List.map (ow eI) v7.1⟩), (4, ⟨3, List.map (ow eM) v2.maps⟩)] 5 [5, 6] ⟨1, true, none, true⟩) (ent_mk (σ := sg [(0, 0), (1, 1), (2, 2), (3, 3), (4, 4)]) ⟨(oE k k), (e1 k k), (e1 k k), trivial⟩ (hX ⟨_, k, k, .inr (ent_set (σ := sg [(0, 0), (1, 1), (2, 2), (3, 3), (4, 4)]) (m := 5) (e := eR) (l := x1.1) (i := x1.2.2.toNat) (c := [.int x1.2.1, .int (wr (x1.2.1 + 1)), .own 1 0 v3.1.length, .own 2 0 v2.q.tgt.length, .own 3 0 v2.dims.length, .own 4 0 v2.maps.length]) (d := [.int x1.2.1, .int (wr (x1.2.1 + 1)), .own 1 0 v3.1.length, .own 2 0 v5.1.length, .own 3 0 v7.1.length, .own 4 0 v2.maps.length]) okRp ⟨_, _, k, k, ⟨_, _, k, k, ⟨_, _, k, ⟨k, k, k, k⟩, ⟨_, _, k, ⟨k, k, (by simp only [len_map, lA, lT, lR, lC, lN, of_decide_eq_true q6]), k⟩, ⟨_, _, k, ⟨k, k, (by simp only [len_map, lA, lT, lR, lC, lN, of_decide_eq_true q8]), k⟩, ⟨_, _, k, ⟨k, k, k, k⟩, k⟩⟩⟩⟩⟩⟩)⟩ k <| hI k k k <| hI k k k <| hI k k k <| hB (okMt.plainO _) k k k <| trivial) k) <| rgS <| se (eff_move k) k <| se (eff_move k) k <| se (x_at_own TT_ok (atL_nn hv2) (atL_lt hv2) k k k k k k k) k <| se (w_field_ptr TT_ok k k k k k k k) k <| se (w_load_ptr TT_ok k k k k (set_at (atL_lt hv2)) k k) k ?_
   refine se (eff_move k) k ?_
   obtain ⟨v9, hv9, h⟩ := ob h
   refine sops_ent (t := mkS [(0, .own 0 0 x1.1.length), (1, .int v7.2), (5, .int x1.2.2), (50, .own 0 0 x1.1.length), (51, .int x1.2.2), (52, .ptr 0 x1.2.2.toNat 0), (53, .ptr 0 x1.2.2.toNat 5), (54, .own 4 0 v2.maps.length), (55, .int v7.2)] [(0, ⟨6, (List.map (ow eR) x1.1).set x1.2.2.toNat [.int x1.2.1, .int (wr (x1.2.1 + 1)), .own 1 0 v3.1.length, .own 2 0 v5.1.length, .own 3 0 v7.1.length, .own 4 0 v2.maps.length]⟩), (1, ⟨1, List.map (ow eI) v3.1⟩), (2, ⟨1, List.map (ow eI) v5.1⟩), (3, ⟨1, List.map (ow eI) v7.1⟩), (4, ⟨3, List.map (ow eM) v2.maps⟩)] 5 [5, 6] ⟨1, true, none, true⟩) (ent_mk (σ := sg [(0, 0), (1, 1), (2, 2), (3, 3), (4, 4)]) ⟨(oE k k), (e1 k k), (e1 k k), (oE k k), (e1 k k), (pE k k), (pE k k), (oE k k), (e1 k k), trivial⟩ (hX ⟨_, k, k, .inr (ent_set (σ := sg [(0, 0), (1, 1), (2, 2), (3, 3), (4, 4)]) (m := 5) (e := eR) (l := x1.1) (i := x1.2.2.toNat) (c := [.int x1.2.1, .int (wr (x1.2.1 + 1)), .own 1 0 v3.1.length, .own 2 0 v5.1.length, .own 3 0 v7.1.length, .own 4 0 v2.maps.length]) (d := [.int x1.2.1, .int (wr (x1.2.1 + 1)), .own 1 0 v3.1.length, .own 2 0 v5.1.length, .own 3 0 v7.1.length, .own 4 0 v2.maps.length]) okRp ⟨_, _, k, k, ⟨_, _, k, k, ⟨_, _, k, ⟨k, k, k, k⟩, ⟨_, _, k, ⟨k, k, k, k⟩, ⟨_, _, k, ⟨k, k, k, k⟩, ⟨_, _, k, ⟨k, k, k, k⟩, k⟩⟩⟩⟩⟩⟩)⟩ k <| hI k k k <| hI k k k <| hI k k k <| hB (okMt.plainO _) k k k <| trivial) k) <| sops_T (σ := sg [(0, 4)]) (σ' := sg [(4, 0)]) (touch := [4]) (news := []) (hl2 := [(4, ⟨3, List.map (ow eM) v9.1⟩)]) (n' := 5) (r2 := .int v9.2) (c_laws_markMatrixS v2.maps v7.2 v9 hv9) k k ⟨_, _, k, ⟨k, k, k, k⟩, ⟨_, _, k, k, k⟩⟩ ⟨⟨_, k, k, .inl ⟨k, okMt.plainO _⟩⟩, k, trivial⟩ k k k ⟨⟨_, k, k, .inl ⟨k, okMt.plainO _⟩⟩, k, trivial⟩ k k k ⟨k, okMt.tame _ _, trivial⟩ k k k k k (dfE_ok ⟨k, k, k, k, k, k, k, k, k, trivial⟩) (dfH_ok (skip := [4]) ⟨.inr (okRp.dfS _ _ _ k), .inr (okI.df _ _), .inr (okI.df _ _), .inr (okI.df _ _), .inl (by decide), trivial⟩) ?_
   obtain ⟨q10, h⟩ := cg h
   refine se (eff_assign k) k <| sn <| block_n <| tn <| rgS <| se (eff_move k) k <| se (x_add k k) k <| se (eff_assign k) k <| sn <| tn ?_
   obtain rfl := so h
   exact ⟨_, k, (Ent.trans (show Ent _ (mkS [(0, .own 0 0 ((x1.1.set x1.2.2.toNat (⟨x1.2.1, (⟨wr (x1.2.1 + 1), v3.1, v5.1⟩ : Qv), v7.1, v9.1⟩ : Rp)).length)), (1, .int v9.2), (5, .int (wr (x1.2.2 + 1)))] [(0, ⟨6, List.map (ow eR) (x1.1.set x1.2.2.toNat (⟨x1.2.1, (⟨wr (x1.2.1 + 1), v3.1, v5.1⟩ : Qv), v7.1, v9.1⟩ : Rp))⟩)] 5 [5, 6] ⟨1, true, none, true⟩) from (Ent.trans (ent_absS (b := 0) (b' := 1) (j := 2) (es' := List.map eI v3.1) (by rw [List.length_map]; exact atL_lt hv2) k k k k (len_map _ _) (okI.frzs _)) (Ent.trans (ent_absS (b := 0) (b' := 2) (j := 3) (es' := List.map eI v5.1) (by rw [List.length_map]; exact atL_lt hv2) k k k k (len_map _ _) (okI.frzs _)) (Ent.trans (ent_absS (b := 0) (b' := 3) (j := 4) (es' := List.map eI v7.1) (by rw [List.length_map]; exact atL_lt hv2) k k k k (len_map _ _) (okI.frzs _)) (Ent.trans (ent_absS (b := 0) (b' := 4) (j := 5) (es' := List.map eM v9.1) (by rw [List.length_map]; exact atL_lt hv2) k k k k (by simp only [len_map, lA, lT, lR, lC, lN, of_decide_eq_true q10]) (okMt.frzs _)) (ent_mk (σ := sg [(0, 0)]) ⟨⟨_, k, ⟨k, k, (by simp only [len_map, lA, lT, lR, lC, lN, of_decide_eq_true q4, of_decide_eq_true q6, of_decide_eq_true q8, of_decide_eq_true q10]), k⟩⟩, (e1 k k), (e1 k k), trivial⟩ (hX ⟨_, k, k, .inl ⟨set_eq (⟨x1.2.1, (⟨wr (x1.2.1 + 1), v3.1, v5.1⟩ : Qv), v7.1, v9.1⟩ : Rp) k, okRp.plainO _⟩⟩ k <| trivial) k)))))) (ent_mk (σ := sg [(0, 0)]) ⟨(oE k k), (e1 k k), (e1 k k), trivial⟩ (hB (okRp.plainO _) k k k <| trivial) k))⟩
  ·refine ac_condF k q1 <| ac_exit <| then_exit <| then_exit ?_
   obtain rfl := so h
   exact ⟨_, k, k, (ent_mk (σ := sg [(0, 0)]) ⟨(e1 k k), trivial⟩ (hB (okRp.plainO _) k k k <| trivial) k)⟩
 ·rintro e t ⟨rfl, hent⟩
  refine block_here <| tn <| ac_ent hent <| sQ <| rgS <| se (eff_move k) k <| se (eff_assign k) k <| sn <| tn <| ac_ret ?_
  obtain rfl := so h
  exact ⟨mkS [(4, .int y11.2)] [(0, ⟨6, List.map (ow eR) y11.1⟩)] 1 [1, 2, 3, 4, 5, 6] ⟨1, true, none, true⟩, (ent_mk (σ := sg [(0, 0)]) ⟨(e1 k k), trivial⟩ (hB (okRp.plainO _) k k k <| trivial) k), k, ⟨_, k, .inl k⟩, ⟨k, trivial⟩⟩

noncomputable def m_laws_markBarS_L1  (x1 : ((List Br) × Int × Int)) : Option (((List Br) × Int × Int) ⊕ ((List Br) × Int)) :=
  bif decide (x1.2.2 < ((x1.1.length : Nat) : Int)) then
    (Option.bind (atL x1.1 x1.2.2) fun v2 =>
    some (.inl ((x1.1.set x1.2.2.toNat (⟨x1.2.1, wr (x1.2.1 + 1), wr ((wr (x1.2.1 + 1)) + 1)⟩ : Br)), wr ((wr ((wr (x1.2.1 + 1)) + 1)) + 1), wr (x1.2.2 + 1))))
  else
    (some (.inr (x1.1, x1.2.1)))

noncomputable def m_laws_markBarS (a0 : (List Br)) (a1 : Int) : Option ((List Br) × Int) :=
  Option.bind (Lp m_laws_markBarS_L1 (a0, a1, 0)) fun y3 =>
  some (y3.1, y3.2)

theorem c_laws_markBarS (a0 : (List Br)) (a1 : Int) (r : ((List Br) × Int)) (h : m_laws_markBarS a0 a1 = some r) : HasT Try.prog 40 [.own 0 0 a0.length, .int a1] [(0, ⟨3, List.map (ow eB) a0⟩)] 1 (.int r.2) [(0, ⟨3, List.map (ow eB) r.1⟩)] := by
 refine hasT_mk TT_ok (rvs := [.tmp 4]) (ns := [1, 2]) Try.func40 k k Try.ntmps40 k k <| sQ <| rgS <| se (eff_assign k) k <| sn <| tn <| sQ <| sQ <| rgS <| se (eff_assign k) k ?_
 refine sn <| tn <| ac_block ?_
 obtain ⟨y3, hy3, h⟩ := ob h
 refine ac_Lp (body := m_laws_markBarS_L1) hy3 (fun (x1 : ((List Br) × Int × Int)) => mkS [(0, .own 0 0 x1.1.length), (1, .int x1.2.1), (5, .int x1.2.2)] [(0, ⟨3, List.map (ow eB) x1.1⟩)] 1 [1, 2] ⟨1, true, none, true⟩) (fun r e t => e = .exit 0 ∧ Ent t (mkS [(1, .int r.2)] [(0, ⟨3, List.map (ow eB) r.1⟩)] 1 [1, 2] ⟨1, true, none, true⟩)) (ent_mk (σ := sg [(0, 0)]) ⟨(oE k k), (e1 k k), (e1 k k), trivial⟩ (hB (okBr.plainO _) k k k <| trivial) k) ?_ ?_
 ·intro x1 o h
  refine sQ <| sQ <| rgS <| se (eff_move k) k <| se (eff_move k) k <| se (w_len_own TT_ok k k k k) k <| se (w_cmp k k k) k <| sn <| tn ?_
  rcases cb h with ⟨q1, h⟩ | ⟨q1, h⟩
  ·refine ac_condT k q1 <| ac_skip <| tn <| sQ <| ac_block <| sQ <| rgS <| se (eff_move k) k <| se (eff_move k) k <| se (eff_move k) k ?_
   obtain ⟨v2, hv2, h⟩ := ob h
   refine sops_ent (t := mkS [(0, .own 0 0 x1.1.length), (1, .int x1.2.1), (5, .int x1.2.2), (6, .int x1.2.2), (7, .own 0 0 x1.1.length), (8, .int ((x1.1.length : Nat) : Int)), (9, .bl (decide (x1.2.2 < ((x1.1.length : Nat) : Int)))), (12, .own 0 0 x1.1.length), (13, .int x1.2.2), (14, .int x1.2.1)] [(0, ⟨3, (List.map (ow eB) x1.1).set x1.2.2.toNat [.int v2.first, .int v2.last, .int v2.count]⟩)] 1 [1, 2] ⟨1, true, none, true⟩) (ent_mk (σ := sg [(0, 0)]) ⟨(oE k k), (e1 k k), (e1 k k), (e1 k k), (oE k k), (e1 k k), (e1 k k), (oE k k), (e1 k k), (e1 k k), trivial⟩ (hX ⟨_, k, k, .inl ⟨open_row (atL_get hv2), set_plain okBr k⟩⟩ k <| trivial) k) <| se (x_at_own TT_ok (atL_nn hv2) (atL_lt hv2) k k k k k k k) k <| se (w_field_ptr TT_ok k k k k k k k) k <| se (x_storeS TT_ok (A := List.map (ow eB) x1.1) (by rw [List.length_map]; exact atL_lt hv2) k k k k k k k) k <| sn <| tn <| sQ <| rgS <| se (eff_move k) k <| se (x_add k k) k ?_
   refine se (eff_assign k) k <| sn <| tn <| sQ <| rgS <| se (eff_move k) k <| se (eff_move k) k <| se (eff_move k) k <| se (x_at_own TT_ok (atL_nn hv2) (atL_lt hv2) k k k k k k k) k <| se (w_field_ptr TT_ok k k k k k k k) k ?_
   refine se (x_storeS TT_ok (A := List.map (ow eB) x1.1) (by rw [List.length_map]; exact atL_lt hv2) k k k k k k k) k <| sn <| tn <| sQ <| rgS <| se (eff_move k) k <| se (x_add k k) k <| se (eff_assign k) k <| sn <| tn ?_
   refine ac_ent (t := mkS [(0, .own 0 0 x1.1.length), (1, .int (wr ((wr (x1.2.1 + 1)) + 1))), (5, .int x1.2.2)] [(0, ⟨3, (List.map (ow eB) x1.1).set x1.2.2.toNat [.int x1.2.1, .int (wr (x1.2.1 + 1)), .int v2.count]⟩)] 1 [1, 2] ⟨1, true, none, true⟩) (ent_mk (σ := sg [(0, 0)]) ⟨(oE k k), (e1 k k), (e1 k k), trivial⟩ (hX ⟨_, k, k, .inr (ent_set (σ := sg [(0, 0)]) (m := 1) (e := eB) (l := x1.1) (i := x1.2.2.toNat) (c := [.int x1.2.1, .int (wr (x1.2.1 + 1)), .int v2.count]) (d := [.int x1.2.1, .int (wr (x1.2.1 + 1)), .int v2.count]) okBr ⟨_, _, k, k, ⟨_, _, k, k, ⟨_, _, k, k, k⟩⟩⟩)⟩ k <| trivial) k) <| sQ <| rgS <| se (eff_move k) k <| se (eff_move k) k <| se (eff_move k) k <| se (x_at_own TT_ok (atL_nn hv2) (atL_lt hv2) k k k k k k k) k <| se (w_field_ptr TT_ok k k k k k k k) k <| se (x_storeS TT_ok (A := List.map (ow eB) x1.1) (by rw [List.length_map]; exact atL_lt hv2) k k k k k k k) k <| sn ?_
   refine tn <| rgS <| se (eff_move k) k <| se (x_add k k) k <| se (eff_assign k) k <| sn <| block_n <| tn <| rgS <| se (eff_move k) k ?_
   refine se (x_add k k) k <| se (eff_assign k) k <| sn <| tn ?_
   obtain rfl := so h
   exact ⟨_, k, (Ent.trans (show Ent _ (mkS [(0, .own 0 0 ((x1.1.set x1.2.2.toNat (⟨x1.2.1, wr (x1.2.1 + 1), wr ((wr (x1.2.1 + 1)) + 1)⟩ : Br)).length)), (1, .int (wr ((wr ((wr (x1.2.1 + 1)) + 1)) + 1))), (5, .int (wr (x1.2.2 + 1)))] [(0, ⟨3, List.map (ow eB) (x1.1.set x1.2.2.toNat (⟨x1.2.1, wr (x1.2.1 + 1), wr ((wr (x1.2.1 + 1)) + 1)⟩ : Br))⟩)] 1 [1, 2] ⟨1, true, none, true⟩) from (ent_mk (σ := sg [(0, 0)]) ⟨⟨_, k, ⟨k, k, (by simp only [len_map, lA, lT, lR, lC, lN]), k⟩⟩, (e1 k k), (e1 k k), trivial⟩ (hX ⟨_, k, k, .inl ⟨set_eq (⟨x1.2.1, wr (x1.2.1 + 1), wr ((wr (x1.2.1 + 1)) + 1)⟩ : Br) k, okBr.plainO _⟩⟩ k <| trivial) k)) (ent_mk (σ := sg [(0, 0)]) ⟨(oE k k), (e1 k k), (e1 k k), trivial⟩ (hB (okBr.plainO _) k k k <| trivial) k))⟩
  ·refine ac_condF k q1 <| ac_exit <| then_exit <| then_exit ?_
   obtain rfl := so h
   exact ⟨_, k, k, (ent_mk (σ := sg [(0, 0)]) ⟨(e1 k k), trivial⟩ (hB (okBr.plainO _) k k k <| trivial) k)⟩
 ·rintro e t ⟨rfl, hent⟩
  refine block_here <| tn <| ac_ent hent <| sQ <| rgS <| se (eff_move k) k <| se (eff_assign k) k <| sn <| tn <| ac_ret ?_
  obtain rfl := so h
  exact ⟨mkS [(4, .int y3.2)] [(0, ⟨3, List.map (ow eB) y3.1⟩)] 1 [1, 2] ⟨1, true, none, true⟩, (ent_mk (σ := sg [(0, 0)]) ⟨(e1 k k), trivial⟩ (hB (okBr.plainO _) k k k <| trivial) k), k, ⟨_, k, .inl k⟩, ⟨k, trivial⟩⟩

noncomputable def m_laws_markClaim (a0 : Cl) (a1 : Int) : Option ((List Int) × (List Int) × (List Int) × (List Mt) × (List Int) × (List Int) × (List Int) × (List Mt) × (List Rp) × (List Mt) × (List Br) × (List Int) × (List Sc) × Int) :=
  Option.bind (m_laws_markRep a0.rep a1) fun v1 =>
  bif decide (v1.1.length = a0.rep.q.src.length) then
    (bif decide (v1.2.1.length = a0.rep.q.tgt.length) then
      (bif decide (v1.2.2.1.length = a0.rep.dims.length) then
        (bif decide (v1.2.2.2.1.length = a0.rep.maps.length) then
          (Option.bind (m_laws_markRep a0.other v1.2.2.2.2) fun v6 =>
          bif decide (v6.1.length = a0.other.q.src.length) then
            (bif decide (v6.2.1.length = a0.other.q.tgt.length) then
              (bif decide (v6.2.2.1.length = a0.other.dims.length) then
                (bif decide (v6.2.2.2.1.length = a0.other.maps.length) then
                  (Option.bind (m_laws_markRepS a0.parts v6.2.2.2.2) fun v11 =>
                  bif decide (v11.1.length = a0.parts.length) then
                    (Option.bind (m_laws_markMatrixS a0.maps v11.2) fun v13 =>
                    bif decide (v13.1.length = a0.maps.length) then
                      (Option.bind (m_laws_markBarS a0.bars v13.2) fun v15 =>
                      bif decide (v15.1.length = a0.bars.length) then
                        (Option.bind (m_laws_markIntS a0.theta v15.2) fun v17 =>
                        bif decide (v17.1.length = a0.theta.length) then
                          (Option.bind (m_laws_markSpaceS a0.subs v17.2) fun v19 =>
                          bif decide (v19.1.length = a0.subs.length) then
                            (some (v1.1, v1.2.1, v1.2.2.1, v1.2.2.2.1, v6.1, v6.2.1, v6.2.2.1, v6.2.2.2.1, v11.1, v13.1, v15.1, v17.1, v19.1, v19.2))
                          else none)
                        else none)
                      else none)
                    else none)
                  else none)
                else none)
              else none)
            else none)
          else none)
        else none)
      else none)
    else none)
  else none

theorem c_laws_markClaim (a0 : Cl) (a1 : Int) (r : ((List Int) × (List Int) × (List Int) × (List Mt) × (List Int) × (List Int) × (List Int) × (List Mt) × (List Rp) × (List Mt) × (List Br) × (List Int) × (List Sc) × Int)) (h : m_laws_markClaim a0 a1 = some r) : HasT Try.prog 13 [.agg [.int a0.kind, .int a0.rep.p, .int a0.rep.q.n, .own 0 0 a0.rep.q.src.length, .own 1 0 a0.rep.q.tgt.length, .own 2 0 a0.rep.dims.length, .own 3 0 a0.rep.maps.length, .int a0.other.p, .int a0.other.q.n, .own 4 0 a0.other.q.src.length, .own 5 0 a0.other.q.tgt.length, .own 6 0 a0.other.dims.length, .own 7 0 a0.other.maps.length, .own 8 0 a0.parts.length, .own 9 0 a0.maps.length, .own 10 0 a0.bars.length, .own 11 0 a0.theta.length, .own 12 0 a0.subs.length], .int a1] [(0, ⟨1, List.map (ow eI) a0.rep.q.src⟩), (1, ⟨1, List.map (ow eI) a0.rep.q.tgt⟩), (2, ⟨1, List.map (ow eI) a0.rep.dims⟩), (3, ⟨3, List.map (ow eM) a0.rep.maps⟩), (4, ⟨1, List.map (ow eI) a0.other.q.src⟩), (5, ⟨1, List.map (ow eI) a0.other.q.tgt⟩), (6, ⟨1, List.map (ow eI) a0.other.dims⟩), (7, ⟨3, List.map (ow eM) a0.other.maps⟩), (8, ⟨6, List.map (ow eR) a0.parts⟩), (9, ⟨3, List.map (ow eM) a0.maps⟩), (10, ⟨3, List.map (ow eB) a0.bars⟩), (11, ⟨1, List.map (ow eI) a0.theta⟩), (12, ⟨2, List.map (ow eS) a0.subs⟩)] 13 (.int r.2.2.2.2.2.2.2.2.2.2.2.2.2) [(0, ⟨1, List.map (ow eI) r.1⟩), (1, ⟨1, List.map (ow eI) r.2.1⟩), (2, ⟨1, List.map (ow eI) r.2.2.1⟩), (3, ⟨3, List.map (ow eM) r.2.2.2.1⟩), (4, ⟨1, List.map (ow eI) r.2.2.2.2.1⟩), (5, ⟨1, List.map (ow eI) r.2.2.2.2.2.1⟩), (6, ⟨1, List.map (ow eI) r.2.2.2.2.2.2.1⟩), (7, ⟨3, List.map (ow eM) r.2.2.2.2.2.2.2.1⟩), (8, ⟨6, List.map (ow eR) r.2.2.2.2.2.2.2.2.1⟩), (9, ⟨3, List.map (ow eM) r.2.2.2.2.2.2.2.2.2.1⟩), (10, ⟨3, List.map (ow eB) r.2.2.2.2.2.2.2.2.2.2.1⟩), (11, ⟨1, List.map (ow eI) r.2.2.2.2.2.2.2.2.2.2.2.1⟩), (12, ⟨2, List.map (ow eS) r.2.2.2.2.2.2.2.2.2.2.2.2.1⟩)] := by
 refine hasT_mk TT_ok (rvs := [.tmp 4]) (ns := [13, 14, 15]) Try.func13 k k Try.ntmps13 k k <| sQ <| rgS <| se (w_box k k k k) k <| se (eff_assign k) k <| sn <| tn <| sQ <| rgS <| se (w_field_ptr TT_ok k k k k k k k) k ?_
 refine se (w_load_ptr TT_ok k k k k k k k) k <| se (eff_move k) k ?_
 obtain ⟨v1, hv1, h⟩ := ob h
 refine sops_ent (t := mkS [(0, .agg [.int a0.kind, .int a0.rep.p, .int a0.rep.q.n, .own 0 0 a0.rep.q.src.length, .own 1 0 a0.rep.q.tgt.length, .own 2 0 a0.rep.dims.length, .own 3 0 a0.rep.maps.length, .int a0.other.p, .int a0.other.q.n, .own 4 0 a0.other.q.src.length, .own 5 0 a0.other.q.tgt.length, .own 6 0 a0.other.dims.length, .own 7 0 a0.other.maps.length, .own 8 0 a0.parts.length, .own 9 0 a0.maps.length, .own 10 0 a0.bars.length, .own 11 0 a0.theta.length, .own 12 0 a0.subs.length]), (1, .int a1), (2, .ptr 13 0 0), (4, .int 0), (5, .ptr 13 0 1), (6, .agg [.int a0.rep.p, .int a0.rep.q.n, .own 0 0 a0.rep.q.src.length, .own 1 0 a0.rep.q.tgt.length, .own 2 0 a0.rep.dims.length, .own 3 0 a0.rep.maps.length]), (7, .int a1)] [(0, ⟨1, List.map (ow eI) a0.rep.q.src⟩), (1, ⟨1, List.map (ow eI) a0.rep.q.tgt⟩), (2, ⟨1, List.map (ow eI) a0.rep.dims⟩), (3, ⟨3, List.map (ow eM) a0.rep.maps⟩), (4, ⟨1, List.map (ow eI) a0.other.q.src⟩), (5, ⟨1, List.map (ow eI) a0.other.q.tgt⟩), (6, ⟨1, List.map (ow eI) a0.other.dims⟩), (7, ⟨3, List.map (ow eM) a0.other.maps⟩), (8, ⟨6, List.map (ow eR) a0.parts⟩), (9, ⟨3, List.map (ow eM) a0.maps⟩), (10, ⟨3, List.map (ow eB) a0.bars⟩), (11, ⟨1, List.map (ow eI) a0.theta⟩), (12, ⟨2, List.map (ow eS) a0.subs⟩), (13, ⟨18, [[.int a0.kind, .int a0.rep.p, .int a0.rep.q.n, .own 0 0 a0.rep.q.src.length, .own 1 0 a0.rep.q.tgt.length, .own 2 0 a0.rep.dims.length, .own 3 0 a0.rep.maps.length, .int a0.other.p, .int a0.other.q.n, .own 4 0 a0.other.q.src.length, .own 5 0 a0.other.q.tgt.length, .own 6 0 a0.other.dims.length, .own 7 0 a0.other.maps.length, .own 8 0 a0.parts.length, .own 9 0 a0.maps.length, .own 10 0 a0.bars.length, .own 11 0 a0.theta.length, .own 12 0 a0.subs.length]]⟩)] 14 [14, 15] ⟨13, true, none, true⟩) (ent_mk (σ := sg [(0, 0), (1, 1), (2, 2), (3, 3), (4, 4), (5, 5), (6, 6), (7, 7), (8, 8), (9, 9), (10, 10), (11, 11), (12, 12), (13, 13)]) ⟨⟨_, k, ⟨_, _, k, k, ⟨_, _, k, k, ⟨_, _, k, k, ⟨_, _, k, ⟨k, k, k, k⟩, ⟨_, _, k, ⟨k, k, k, k⟩, ⟨_, _, k, ⟨k, k, k, k⟩, ⟨_, _, k, ⟨k, k, k, k⟩, ⟨_, _, k, k, ⟨_, _, k, k, ⟨_, _, k, ⟨k, k, k, k⟩, ⟨_, _, k, ⟨k, k, k, k⟩, ⟨_, _, k, ⟨k, k, k, k⟩, ⟨_, _, k, ⟨k, k, k, k⟩, ⟨_, _, k, ⟨k, k, k, k⟩, ⟨_, _, k, ⟨k, k, k, k⟩, ⟨_, _, k, ⟨k, k, k, k⟩, ⟨_, _, k, ⟨k, k, k, k⟩, ⟨_, _, k, ⟨k, k, k, k⟩, k⟩⟩⟩⟩⟩⟩⟩⟩⟩⟩⟩⟩⟩⟩⟩⟩⟩⟩⟩, (e1 k k), (pE k k), (e1 k k), (pE k k), ⟨_, k, ⟨_, _, k, k, ⟨_, _, k, k, ⟨_, _, k, ⟨k, k, k, k⟩, ⟨_, _, k, ⟨k, k, k, k⟩, ⟨_, _, k, ⟨k, k, k, k⟩, ⟨_, _, k, ⟨k, k, k, k⟩, k⟩⟩⟩⟩⟩⟩⟩, (e1 k k), trivial⟩ (hI k k k <| hI k k k <| hI k k k <| hB (okMt.plainO _) k k k <| hI k k k <| hI k k k <| hI k k k <| hB (okMt.plainO _) k k k <| hB (okRp.plainO _) k k k <| hB (okMt.plainO _) k k k <| hB (okBr.plainO _) k k k <| hI k k k <| hB (okSc.plainO _) k k k <| hX ⟨_, k, k, .inr ⟨_, _, k, ⟨_, _, k, k, ⟨_, _, k, k, ⟨_, _, k, k, ⟨_, _, k, ⟨k, k, k, k⟩, ⟨_, _, k, ⟨k, k, k, k⟩, ⟨_, _, k, ⟨k, k, k, k⟩, ⟨_, _, k, ⟨k, k, k, k⟩, ⟨_, _, k, k, ⟨_, _, k, k, ⟨_, _, k, ⟨k, k, k, k⟩, ⟨_, _, k, ⟨k, k, k, k⟩, ⟨_, _, k, ⟨k, k, k, k⟩, ⟨_, _, k, ⟨k, k, k, k⟩, ⟨_, _, k, ⟨k, k, k, k⟩, ⟨_, _, k, ⟨k, k, k, k⟩, ⟨_, _, k, ⟨k, k, k, k⟩, ⟨_, _, k, ⟨k, k, k, k⟩, ⟨_, _, k, ⟨k, k, k, k⟩, k⟩⟩⟩⟩⟩⟩⟩⟩⟩⟩⟩⟩⟩⟩⟩⟩⟩⟩, k⟩⟩ k <| trivial) k) ?_
 refine sops_T (σ := sg [(0, 0), (1, 1), (2, 2), (3, 3)]) (σ' := sg [(0, 0), (1, 1), (2, 2), (3, 3)]) (touch := [0, 1, 2, 3]) (news := []) (hl2 := [(0, ⟨1, List.map (ow eI) v1.1⟩), (1, ⟨1, List.map (ow eI) v1.2.1⟩), (2, ⟨1, List.map (ow eI) v1.2.2.1⟩), (3, ⟨3, List.map (ow eM) v1.2.2.2.1⟩)]) (n' := 14) (r2 := .int v1.2.2.2.2) (c_laws_markRep a0.rep a1 v1 hv1) k k ⟨_, _, k, ⟨_, _, k, k, ⟨_, _, k, k, ⟨_, _, k, ⟨k, k, k, k⟩, ⟨_, _, k, ⟨k, k, k, k⟩, ⟨_, _, k, ⟨k, k, k, k⟩, ⟨_, _, k, ⟨k, k, k, k⟩, k⟩⟩⟩⟩⟩⟩, ⟨_, _, k, k, k⟩⟩ ⟨⟨_, k, k, .inl ⟨k, okI.plainO _⟩⟩, k, ⟨_, k, k, .inl ⟨k, okI.plainO _⟩⟩, k, ⟨_, k, k, .inl ⟨k, okI.plainO _⟩⟩, k, ⟨_, k, k, .inl ⟨k, okMt.plainO _⟩⟩, k, trivial⟩ k k k ⟨⟨_, k, k, .inl ⟨k, okI.plainO _⟩⟩, k, ⟨_, k, k, .inl ⟨k, okI.plainO _⟩⟩, k, ⟨_, k, k, .inl ⟨k, okI.plainO _⟩⟩, k, ⟨_, k, k, .inl ⟨k, okMt.plainO _⟩⟩, k, trivial⟩ k k k ⟨k, okI.tame _ _, ⟨k, okI.tame _ _, ⟨k, okI.tame _ _, ⟨k, okMt.tame _ _, trivial⟩⟩⟩⟩ k k k k k (dfE_ok ⟨k, k, k, k, k, k, k, trivial⟩) (dfH_ok (skip := [0, 1, 2, 3]) ⟨.inl (by decide), .inl (by decide), .inl (by decide), .inl (by decide), .inr (okI.df _ _), .inr (okI.df _ _), .inr (okI.df _ _), .inr (okMt.df _ _), .inr (okRp.df _ _), .inr (okMt.df _ _), .inr (okBr.df _ _), .inr (okI.df _ _), .inr (okSc.df _ _), .inr (df_lit k), trivial⟩) ?_
 obtain ⟨q2, h⟩ := cg h
 obtain ⟨q3, h⟩ := cg h
 obtain ⟨q4, h⟩ := cg h
 obtain ⟨q5, h⟩ := cg h
 refine se (eff_assign k) k <| sn <| tn <| sQ <| rgS <| se (w_field_ptr TT_ok k k k k k k k) k <| se (w_load_ptr TT_ok k k k k k k k) k <| se (eff_move k) k ?_
 obtain ⟨v6, hv6, h⟩ := ob h
 refine sops_ent (t := mkS [(0, .agg [.int a0.kind, .int a0.rep.p, .int a0.rep.q.n, .own 0 0 a0.rep.q.src.length, .own 1 0 a0.rep.q.tgt.length, .own 2 0 a0.rep.dims.length, .own 3 0 a0.rep.maps.length, .int a0.other.p, .int a0.other.q.n, .own 4 0 a0.other.q.src.length, .own 5 0 a0.other.q.tgt.length, .own 6 0 a0.other.dims.length, .own 7 0 a0.other.maps.length, .own 8 0 a0.parts.length, .own 9 0 a0.maps.length, .own 10 0 a0.bars.length, .own 11 0 a0.theta.length, .own 12 0 a0.subs.length]), (1, .int v1.2.2.2.2), (2, .ptr 13 0 0), (4, .int 0), (5, .ptr 13 0 1), (6, .agg [.int a0.rep.p, .int a0.rep.q.n, .own 0 0 a0.rep.q.src.length, .own 1 0 a0.rep.q.tgt.length, .own 2 0 a0.rep.dims.length, .own 3 0 a0.rep.maps.length]), (7, .int a1), (8, .int v1.2.2.2.2), (9, .ptr 13 0 7), (10, .agg [.int a0.other.p, .int a0.other.q.n, .own 4 0 a0.other.q.src.length, .own 5 0 a0.other.q.tgt.length, .own 6 0 a0.other.dims.length, .own 7 0 a0.other.maps.length]), (11, .int v1.2.2.2.2)] [(0, ⟨1, List.map (ow eI) v1.1⟩), (1, ⟨1, List.map (ow eI) v1.2.1⟩), (2, ⟨1, List.map (ow eI) v1.2.2.1⟩), (3, ⟨3, List.map (ow eM) v1.2.2.2.1⟩), (4, ⟨1, List.map (ow eI) a0.other.q.src⟩), (5, ⟨1, List.map (ow eI) a0.other.q.tgt⟩), (6, ⟨1, List.map (ow eI) a0.other.dims⟩), (7, ⟨3, List.map (ow eM) a0.other.maps⟩), (8, ⟨6, List.map (ow eR) a0.parts⟩), (9, ⟨3, List.map (ow eM) a0.maps⟩), (10, ⟨3, List.map (ow eB) a0.bars⟩), (11, ⟨1, List.map (ow eI) a0.theta⟩), (12, ⟨2, List.map (ow eS) a0.subs⟩), (13, ⟨18, [[.int a0.kind, .int a0.rep.p, .int a0.rep.q.n, .own 0 0 a0.rep.q.src.length, .own 1 0 a0.rep.q.tgt.length, .own 2 0 a0.rep.dims.length, .own 3 0 a0.rep.maps.length, .int a0.other.p, .int a0.other.q.n, .own 4 0 a0.other.q.src.length, .own 5 0 a0.other.q.tgt.length, .own 6 0 a0.other.dims.length, .own 7 0 a0.other.maps.length, .own 8 0 a0.parts.length, .own 9 0 a0.maps.length, .own 10 0 a0.bars.length, .own 11 0 a0.theta.length, .own 12 0 a0.subs.length]]⟩)] 14 [14, 15] ⟨13, true, none, true⟩) (ent_mk (σ := sg [(0, 0), (1, 1), (2, 2), (3, 3), (4, 4), (5, 5), (6, 6), (7, 7), (8, 8), (9, 9), (10, 10), (11, 11), (12, 12), (13, 13)]) ⟨⟨_, k, ⟨_, _, k, k, ⟨_, _, k, k, ⟨_, _, k, k, ⟨_, _, k, ⟨k, k, k, k⟩, ⟨_, _, k, ⟨k, k, k, k⟩, ⟨_, _, k, ⟨k, k, k, k⟩, ⟨_, _, k, ⟨k, k, k, k⟩, ⟨_, _, k, k, ⟨_, _, k, k, ⟨_, _, k, ⟨k, k, k, k⟩, ⟨_, _, k, ⟨k, k, k, k⟩, ⟨_, _, k, ⟨k, k, k, k⟩, ⟨_, _, k, ⟨k, k, k, k⟩, ⟨_, _, k, ⟨k, k, k, k⟩, ⟨_, _, k, ⟨k, k, k, k⟩, ⟨_, _, k, ⟨k, k, k, k⟩, ⟨_, _, k, ⟨k, k, k, k⟩, ⟨_, _, k, ⟨k, k, k, k⟩, k⟩⟩⟩⟩⟩⟩⟩⟩⟩⟩⟩⟩⟩⟩⟩⟩⟩⟩⟩, (e1 k k), (pE k k), (e1 k k), (pE k k), ⟨_, k, ⟨_, _, k, k, ⟨_, _, k, k, ⟨_, _, k, ⟨k, k, k, k⟩, ⟨_, _, k, ⟨k, k, k, k⟩, ⟨_, _, k, ⟨k, k, k, k⟩, ⟨_, _, k, ⟨k, k, k, k⟩, k⟩⟩⟩⟩⟩⟩⟩, (e1 k k), (e1 k k), (pE k k), ⟨_, k, ⟨_, _, k, k, ⟨_, _, k, k, ⟨_, _, k, ⟨k, k, k, k⟩, ⟨_, _, k, ⟨k, k, k, k⟩, ⟨_, _, k, ⟨k, k, k, k⟩, ⟨_, _, k, ⟨k, k, k, k⟩, k⟩⟩⟩⟩⟩⟩⟩, (e1 k k), trivial⟩ (hI k k k <| hI k k k <| hI k k k <| hB (okMt.plainO _) k k k <| hI k k k <| hI k k k <| hI k k k <| hB (okMt.plainO _) k k k <| hB (okRp.plainO _) k k k <| hB (okMt.plainO _) k k k <| hB (okBr.plainO _) k k k <| hI k k k <| hB (okSc.plainO _) k k k <| hX ⟨_, k, k, .inr ⟨_, _, k, ⟨_, _, k, k, ⟨_, _, k, k, ⟨_, _, k, k, ⟨_, _, k, ⟨k, k, k, k⟩, ⟨_, _, k, ⟨k, k, k, k⟩, ⟨_, _, k, ⟨k, k, k, k⟩, ⟨_, _, k, ⟨k, k, k, k⟩, ⟨_, _, k, k, ⟨_, _, k, k, ⟨_, _, k, ⟨k, k, k, k⟩, ⟨_, _, k, ⟨k, k, k, k⟩, ⟨_, _, k, ⟨k, k, k, k⟩, ⟨_, _, k, ⟨k, k, k, k⟩, ⟨_, _, k, ⟨k, k, k, k⟩, ⟨_, _, k, ⟨k, k, k, k⟩, ⟨_, _, k, ⟨k, k, k, k⟩, ⟨_, _, k, ⟨k, k, k, k⟩, ⟨_, _, k, ⟨k, k, k, k⟩, k⟩⟩⟩⟩⟩⟩⟩⟩⟩⟩⟩⟩⟩⟩⟩⟩⟩⟩, k⟩⟩ k <| trivial) k) ?_
 refine sops_T (σ := sg [(0, 4), (1, 5), (2, 6), (3, 7)]) (σ' := sg [(4, 0), (5, 1), (6, 2), (7, 3)]) (touch := [4, 5, 6, 7]) (news := []) (hl2 := [(4, ⟨1, List.map (ow eI) v6.1⟩), (5, ⟨1, List.map (ow eI) v6.2.1⟩), (6, ⟨1, List.map (ow eI) v6.2.2.1⟩), (7, ⟨3, List.map (ow eM) v6.2.2.2.1⟩)]) (n' := 14) (r2 := .int v6.2.2.2.2) (c_laws_markRep a0.other v1.2.2.2.2 v6 hv6) k k ⟨_, _, k, ⟨_, _, k, k, ⟨_, _, k, k, ⟨_, _, k, ⟨k, k, k, k⟩, ⟨_, _, k, ⟨k, k, k, k⟩, ⟨_, _, k, ⟨k, k, k, k⟩, ⟨_, _, k, ⟨k, k, k, k⟩, k⟩⟩⟩⟩⟩⟩, ⟨_, _, k, k, k⟩⟩ ⟨⟨_, k, k, .inl ⟨k, okI.plainO _⟩⟩, k, ⟨_, k, k, .inl ⟨k, okI.plainO _⟩⟩, k, ⟨_, k, k, .inl ⟨k, okI.plainO _⟩⟩, k, ⟨_, k, k, .inl ⟨k, okMt.plainO _⟩⟩, k, trivial⟩ k k k ⟨⟨_, k, k, .inl ⟨k, okI.plainO _⟩⟩, k, ⟨_, k, k, .inl ⟨k, okI.plainO _⟩⟩, k, ⟨_, k, k, .inl ⟨k, okI.plainO _⟩⟩, k, ⟨_, k, k, .inl ⟨k, okMt.plainO _⟩⟩, k, trivial⟩ k k k ⟨k, okI.tame _ _, ⟨k, okI.tame _ _, ⟨k, okI.tame _ _, ⟨k, okMt.tame _ _, trivial⟩⟩⟩⟩ k k k k k (dfE_ok ⟨k, k, k, k, k, k, k, k, k, k, k, trivial⟩) (dfH_ok (skip := [4, 5, 6, 7]) ⟨.inr (okI.df _ _), .inr (okI.df _ _), .inr (okI.df _ _), .inr (okMt.df _ _), .inl (by decide), .inl (by decide), .inl (by decide), .inl (by decide), .inr (okRp.df _ _), .inr (okMt.df _ _), .inr (okBr.df _ _), .inr (okI.df _ _), .inr (okSc.df _ _), .inr (df_lit k), trivial⟩) ?_
 obtain ⟨q7, h⟩ := cg h
 obtain ⟨q8, h⟩ := cg h
 obtain ⟨q9, h⟩ := cg h
 obtain ⟨q10, h⟩ := cg h
 refine se (eff_assign k) k <| sn <| tn <| sQ <| rgS <| se (w_field_ptr TT_ok k k k k k k k) k <| se (w_load_ptr TT_ok k k k k k k k) k <| se (eff_move k) k ?_
 obtain ⟨v11, hv11, h⟩ := ob h
 refine sops_ent (t := mkS [(0, .agg [.int a0.kind, .int a0.rep.p, .int a0.rep.q.n, .own 0 0 a0.rep.q.src.length, .own 1 0 a0.rep.q.tgt.length, .own 2 0 a0.rep.dims.length, .own 3 0 a0.rep.maps.length, .int a0.other.p, .int a0.other.q.n, .own 4 0 a0.other.q.src.length, .own 5 0 a0.other.q.tgt.length, .own 6 0 a0.other.dims.length, .own 7 0 a0.other.maps.length, .own 8 0 a0.parts.length, .own 9 0 a0.maps.length, .own 10 0 a0.bars.length, .own 11 0 a0.theta.length, .own 12 0 a0.subs.length]), (1, .int v6.2.2.2.2), (2, .ptr 13 0 0), (4, .int 0), (5, .ptr 13 0 1), (6, .agg [.int a0.rep.p, .int a0.rep.q.n, .own 0 0 a0.rep.q.src.length, .own 1 0 a0.rep.q.tgt.length, .own 2 0 a0.rep.dims.length, .own 3 0 a0.rep.maps.length]), (7, .int a1), (8, .int v1.2.2.2.2), (9, .ptr 13 0 7), (10, .agg [.int a0.other.p, .int a0.other.q.n, .own 4 0 a0.other.q.src.length, .own 5 0 a0.other.q.tgt.length, .own 6 0 a0.other.dims.length, .own 7 0 a0.other.maps.length]), (11, .int v1.2.2.2.2), (12, .int v6.2.2.2.2), (13, .ptr 13 0 13), (14, .own 8 0 a0.parts.length), (15, .int v6.2.2.2.2)] [(0, ⟨1, List.map (ow eI) v1.1⟩), (1, ⟨1, List.map (ow eI) v1.2.1⟩), (2, ⟨1, List.map (ow eI) v1.2.2.1⟩), (3, ⟨3, List.map (ow eM) v1.2.2.2.1⟩), (4, ⟨1, List.map (ow eI) v6.1⟩), (5, ⟨1, List.map (ow eI) v6.2.1⟩), (6, ⟨1, List.map (ow eI) v6.2.2.1⟩), (7, ⟨3, List.map (ow eM) v6.2.2.2.1⟩), (8, ⟨6, List.map (ow eR) a0.parts⟩), (9, ⟨3, List.map (ow eM) a0.maps⟩), (10, ⟨3, List.map (ow eB) a0.bars⟩), (11, ⟨1, List.map (ow eI) a0.theta⟩), (12, ⟨2, List.map (ow eS) a0.subs⟩), (13, ⟨18, [[.int a0.kind, .int a0.rep.p, .int a0.rep.q.n, .own 0 0 a0.rep.q.src.length, .own 1 0 a0.rep.q.tgt.length, .own 2 0 a0.rep.dims.length, .own 3 0 a0.rep.maps.length, .int a0.other.p, .int a0.other.q.n, .own 4 0 a0.other.q.src.length, .own 5 0 a0.other.q.tgt.length, .own 6 0 a0.other.dims.length, .own 7 0 a0.other.maps.length, .own 8 0 a0.parts.length, .own 9 0 a0.maps.length, .own 10 0 a0.bars.length, .own 11 0 a0.theta.length, .own 12 0 a0.subs.length]]⟩)] 14 [14, 15] ⟨13, true, none, true⟩) (ent_mk (σ := sg [(0, 0), (1, 1), (2, 2), (3, 3), (4, 4), (5, 5), (6, 6), (7, 7), (8, 8), (9, 9), (10, 10), (11, 11), (12, 12), (13, 13)]) ⟨⟨_, k, ⟨_, _, k, k, ⟨_, _, k, k, ⟨_, _, k, k, ⟨_, _, k, ⟨k, k, k, k⟩, ⟨_, _, k, ⟨k, k, k, k⟩, ⟨_, _, k, ⟨k, k, k, k⟩, ⟨_, _, k, ⟨k, k, k, k⟩, ⟨_, _, k, k, ⟨_, _, k, k, ⟨_, _, k, ⟨k, k, k, k⟩, ⟨_, _, k, ⟨k, k, k, k⟩, ⟨_, _, k, ⟨k, k, k, k⟩, ⟨_, _, k, ⟨k, k, k, k⟩, ⟨_, _, k, ⟨k, k, k, k⟩, ⟨_, _, k, ⟨k, k, k, k⟩, ⟨_, _, k, ⟨k, k, k, k⟩, ⟨_, _, k, ⟨k, k, k, k⟩, ⟨_, _, k, ⟨k, k, k, k⟩, k⟩⟩⟩⟩⟩⟩⟩⟩⟩⟩⟩⟩⟩⟩⟩⟩⟩⟩⟩, (e1 k k), (pE k k), (e1 k k), (pE k k), ⟨_, k, ⟨_, _, k, k, ⟨_, _, k, k, ⟨_, _, k, ⟨k, k, k, k⟩, ⟨_, _, k, ⟨k, k, k, k⟩, ⟨_, _, k, ⟨k, k, k, k⟩, ⟨_, _, k, ⟨k, k, k, k⟩, k⟩⟩⟩⟩⟩⟩⟩, (e1 k k), (e1 k k), (pE k k), ⟨_, k, ⟨_, _, k, k, ⟨_, _, k, k, ⟨_, _, k, ⟨k, k, k, k⟩, ⟨_, _, k, ⟨k, k, k, k⟩, ⟨_, _, k, ⟨k, k, k, k⟩, ⟨_, _, k, ⟨k, k, k, k⟩, k⟩⟩⟩⟩⟩⟩⟩, (e1 k k), (e1 k k), (pE k k), (oE k k), (e1 k k), trivial⟩ (hI k k k <| hI k k k <| hI k k k <| hB (okMt.plainO _) k k k <| hI k k k <| hI k k k <| hI k k k <| hB (okMt.plainO _) k k k <| hB (okRp.plainO _) k k k <| hB (okMt.plainO _) k k k <| hB (okBr.plainO _) k k k <| hI k k k <| hB (okSc.plainO _) k k k <| hX ⟨_, k, k, .inr ⟨_, _, k, ⟨_, _, k, k, ⟨_, _, k, k, ⟨_, _, k, k, ⟨_, _, k, ⟨k, k, k, k⟩, ⟨_, _, k, ⟨k, k, k, k⟩, ⟨_, _, k, ⟨k, k, k, k⟩, ⟨_, _, k, ⟨k, k, k, k⟩, ⟨_, _, k, k, ⟨_, _, k, k, ⟨_, _, k, ⟨k, k, k, k⟩, ⟨_, _, k, ⟨k, k, k, k⟩, ⟨_, _, k, ⟨k, k, k, k⟩, ⟨_, _, k, ⟨k, k, k, k⟩, ⟨_, _, k, ⟨k, k, k, k⟩, ⟨_, _, k, ⟨k, k, k, k⟩, ⟨_, _, k, ⟨k, k, k, k⟩, ⟨_, _, k, ⟨k, k, k, k⟩, ⟨_, _, k, ⟨k, k, k, k⟩, k⟩⟩⟩⟩⟩⟩⟩⟩⟩⟩⟩⟩⟩⟩⟩⟩⟩⟩, k⟩⟩ k <| trivial) k) ?_
 refine sops_T (σ := sg [(0, 8)]) (σ' := sg [(8, 0)]) (touch := [8]) (news := []) (hl2 := [(8, ⟨6, List.map (ow eR) v11.1⟩)]) (n' := 14) (r2 := .int v11.2) (c_laws_markRepS a0.parts v6.2.2.2.2 v11 hv11) k k ⟨_, _, k, ⟨k, k, k, k⟩, ⟨_, _, k, k, k⟩⟩ ⟨⟨_, k, k, .inl ⟨k, okRp.plainO _⟩⟩, k, trivial⟩ k k k ⟨⟨_, k, k, .inl ⟨k, okRp.plainO _⟩⟩, k, trivial⟩ k k k ⟨k, okRp.tame _ _, trivial⟩ k k k k k (dfE_ok ⟨k, k, k, k, k, k, k, k, k, k, k, k, k, k, k, trivial⟩) (dfH_ok (skip := [8]) ⟨.inr (okI.df _ _), .inr (okI.df _ _), .inr (okI.df _ _), .inr (okMt.df _ _), .inr (okI.df _ _), .inr (okI.df _ _), .inr (okI.df _ _), .inr (okMt.df _ _), .inl (by decide), .inr (okMt.df _ _), .inr (okBr.df _ _), .inr (okI.df _ _), .inr (okSc.df _ _), .inr (df_lit k), trivial⟩) ?_
 obtain ⟨q12, h⟩ := cg h
 refine se (eff_assign k) k <| sn <| tn <| sQ <| rgS <| se (w_field_ptr TT_ok k k k k k k k) k <| se (w_load_ptr TT_ok k k k k k k k) k <| se (eff_move k) k ?_
 obtain ⟨v13, hv13, h⟩ := ob h
 refine sops_ent (t := mkS [(0, .agg [.int a0.kind, .int a0.rep.p, .int a0.rep.q.n, .own 0 0 a0.rep.q.src.length, .own 1 0 a0.rep.q.tgt.length, .own 2 0 a0.rep.dims.length, .own 3 0 a0.rep.maps.length, .int a0.other.p, .int a0.other.q.n, .own 4 0 a0.other.q.src.length, .own 5 0 a0.other.q.tgt.length, .own 6 0 a0.other.dims.length, .own 7 0 a0.other.maps.length, .own 8 0 a0.parts.length, .own 9 0 a0.maps.length, .own 10 0 a0.bars.length, .own 11 0 a0.theta.length, .own 12 0 a0.subs.length]), (1, .int v11.2), (2, .ptr 13 0 0), (4, .int 0), (5, .ptr 13 0 1), (6, .agg [.int a0.rep.p, .int a0.rep.q.n, .own 0 0 a0.rep.q.src.length, .own 1 0 a0.rep.q.tgt.length, .own 2 0 a0.rep.dims.length, .own 3 0 a0.rep.maps.length]), (7, .int a1), (8, .int v1.2.2.2.2), (9, .ptr 13 0 7), (10, .agg [.int a0.other.p, .int a0.other.q.n, .own 4 0 a0.other.q.src.length, .own 5 0 a0.other.q.tgt.length, .own 6 0 a0.other.dims.length, .own 7 0 a0.other.maps.length]), (11, .int v1.2.2.2.2), (12, .int v6.2.2.2.2), (13, .ptr 13 0 13), (14, .own 8 0 a0.parts.length), (15, .int v6.2.2.2.2), (16, .int v11.2), (17, .ptr 13 0 14), (18, .own 9 0 a0.maps.length), (19, .int v11.2)] [(0, ⟨1, List.map (ow eI) v1.1⟩), (1, ⟨1, List.map (ow eI) v1.2.1⟩), (2, ⟨1, List.map (ow eI) v1.2.2.1⟩), (3, ⟨3, List.map (ow eM) v1.2.2.2.1⟩), (4, ⟨1, List.map (ow eI) v6.1⟩), (5, ⟨1, List.map (ow eI) v6.2.1⟩), (6, ⟨1, List.map (ow eI) v6.2.2.1⟩), (7, ⟨3, List.map (ow eM) v6.2.2.2.1⟩), (8, ⟨6, List.map (ow eR) v11.1⟩), (9, ⟨3, List.map (ow eM) a0.maps⟩), (10, ⟨3, List.map (ow eB) a0.bars⟩), (11, ⟨1, List.map (ow eI) a0.theta⟩), (12, ⟨2, List.map (ow eS) a0.subs⟩), (13, ⟨18, [[.int a0.kind, .int a0.rep.p, .int a0.rep.q.n, .own 0 0 a0.rep.q.src.length, .own 1 0 a0.rep.q.tgt.length, .own 2 0 a0.rep.dims.length, .own 3 0 a0.rep.maps.length, .int a0.other.p, .int a0.other.q.n, .own 4 0 a0.other.q.src.length, .own 5 0 a0.other.q.tgt.length, .own 6 0 a0.other.dims.length, .own 7 0 a0.other.maps.length, .own 8 0 a0.parts.length, .own 9 0 a0.maps.length, .own 10 0 a0.bars.length, .own 11 0 a0.theta.length, .own 12 0 a0.subs.length]]⟩)] 14 [14, 15] ⟨13, true, none, true⟩) (ent_mk (σ := sg [(0, 0), (1, 1), (2, 2), (3, 3), (4, 4), (5, 5), (6, 6), (7, 7), (8, 8), (9, 9), (10, 10), (11, 11), (12, 12), (13, 13)]) ⟨⟨_, k, ⟨_, _, k, k, ⟨_, _, k, k, ⟨_, _, k, k, ⟨_, _, k, ⟨k, k, k, k⟩, ⟨_, _, k, ⟨k, k, k, k⟩, ⟨_, _, k, ⟨k, k, k, k⟩, ⟨_, _, k, ⟨k, k, k, k⟩, ⟨_, _, k, k, ⟨_, _, k, k, ⟨_, _, k, ⟨k, k, k, k⟩, ⟨_, _, k, ⟨k, k, k, k⟩, ⟨_, _, k, ⟨k, k, k, k⟩, ⟨_, _, k, ⟨k, k, k, k⟩, ⟨_, _, k, ⟨k, k, k, k⟩, ⟨_, _, k, ⟨k, k, k, k⟩, ⟨_, _, k, ⟨k, k, k, k⟩, ⟨_, _, k, ⟨k, k, k, k⟩, ⟨_, _, k, ⟨k, k, k, k⟩, k⟩⟩⟩⟩⟩⟩⟩⟩⟩⟩⟩⟩⟩⟩⟩⟩⟩⟩⟩, (e1 k k), (pE k k), (e1 k k), (pE k k), ⟨_, k, ⟨_, _, k, k, ⟨_, _, k, k, ⟨_, _, k, ⟨k, k, k, k⟩, ⟨_, _, k, ⟨k, k, k, k⟩, ⟨_, _, k, ⟨k, k, k, k⟩, ⟨_, _, k, ⟨k, k, k, k⟩, k⟩⟩⟩⟩⟩⟩⟩, (e1 k k), (e1 k k), (pE k k), ⟨_, k, ⟨_, _, k, k, ⟨_, _, k, k, ⟨_, _, k, ⟨k, k, k, k⟩, ⟨_, _, k, ⟨k, k, k, k⟩, ⟨_, _, k, ⟨k, k, k, k⟩, ⟨_, _, k, ⟨k, k, k, k⟩, k⟩⟩⟩⟩⟩⟩⟩, (e1 k k), (e1 k k), (pE k k), (oE k k), (e1 k k), (e1 k k), (pE k k), (oE k k), (e1 k k), trivial⟩ (hI k k k <| hI k k k <| hI k k k <| hB (okMt.plainO _) k k k <| hI k k k <| hI k k k <| hI k k k <| hB (okMt.plainO _) k k k <| hB (okRp.plainO _) k k k <| hB (okMt.plainO _) k k k <| hB (okBr.plainO _) k k k <| hI k k k <| hB (okSc.plainO _) k k k <| hX ⟨_, k, k, .inr ⟨_, _, k, ⟨_, _, k, k, ⟨_, _, k, k, ⟨_, _, k, k, ⟨_, _, k, ⟨k, k, k, k⟩, ⟨_, _, k, ⟨k, k, k, k⟩, ⟨_, _, k, ⟨k, k, k, k⟩, ⟨_, _, k, ⟨k, k, k, k⟩, ⟨_, _, k, k, ⟨_, _, k, k, ⟨_, _, k, ⟨k, k, k, k⟩, ⟨_, _, k, ⟨k, k, k, k⟩, ⟨_, _, k, ⟨k, k, k, k⟩, ⟨_, _, k, ⟨k, k, k, k⟩, ⟨_, _, k, ⟨k, k, k, k⟩, ⟨_, _, k, ⟨k, k, k, k⟩, ⟨_, _, k, ⟨k, k, k, k⟩, ⟨_, _, k, ⟨k, k, k, k⟩, ⟨_, _, k, ⟨k, k, k, k⟩, k⟩⟩⟩⟩⟩⟩⟩⟩⟩⟩⟩⟩⟩⟩⟩⟩⟩⟩, k⟩⟩ k <| trivial) k) ?_
 refine sops_T (σ := sg [(0, 9)]) (σ' := sg [(9, 0)]) (touch := [9]) (news := []) (hl2 := [(9, ⟨3, List.map (ow eM) v13.1⟩)]) (n' := 14) (r2 := .int v13.2) (c_laws_markMatrixS a0.maps v11.2 v13 hv13) k k ⟨_, _, k, ⟨k, k, k, k⟩, ⟨_, _, k, k, k⟩⟩ ⟨⟨_, k, k, .inl ⟨k, okMt.plainO _⟩⟩, k, trivial⟩ k k k ⟨⟨_, k, k, .inl ⟨k, okMt.plainO _⟩⟩, k, trivial⟩ k k k ⟨k, okMt.tame _ _, trivial⟩ k k k k k (dfE_ok ⟨k, k, k, k, k, k, k, k, k, k, k, k, k, k, k, k, k, k, k, trivial⟩) (dfH_ok (skip := [9]) ⟨.inr (okI.df _ _), .inr (okI.df _ _), .inr (okI.df _ _), .inr (okMt.df _ _), .inr (okI.df _ _), .inr (okI.df _ _), .inr (okI.df _ _), .inr (okMt.df _ _), .inr (okRp.df _ _), .inl (by decide), .inr (okBr.df _ _), .inr (okI.df _ _), .inr (okSc.df _ _), .inr (df_lit k), trivial⟩) ?_
 obtain ⟨q14, h⟩ := cg h
 refine se (eff_assign k) k <| sn <| tn <| sQ <| rgS <| se (w_field_ptr TT_ok k k k k k k k) k <| se (w_load_ptr TT_ok k k k k k k k) k <| se (eff_move k) k ?_
 obtain ⟨v15, hv15, h⟩ := ob h
 refine sops_ent (t := mkS [(0, .agg [.int a0.kind, .int a0.rep.p, .int a0.rep.q.n, .own 0 0 a0.rep.q.src.length, .own 1 0 a0.rep.q.tgt.length, .own 2 0 a0.rep.dims.length, .own 3 0 a0.rep.maps.length, .int a0.other.p, .int a0.other.q.n, .own 4 0 a0.other.q.src.length, .own 5 0 a0.other.q.tgt.length, .own 6 0 a0.other.dims.length, .own 7 0 a0.other.maps.length, .own 8 0 a0.parts.length, .own 9 0 a0.maps.length, .own 10 0 a0.bars.length, .own 11 0 a0.theta.length, .own 12 0 a0.subs.length]), (1, .int v13.2), (2, .ptr 13 0 0), (4, .int 0), (5, .ptr 13 0 1), (6, .agg [.int a0.rep.p, .int a0.rep.q.n, .own 0 0 a0.rep.q.src.length, .own 1 0 a0.rep.q.tgt.length, .own 2 0 a0.rep.dims.length, .own 3 0 a0.rep.maps.length]), (7, .int a1), (8, .int v1.2.2.2.2), (9, .ptr 13 0 7), (10, .agg [.int a0.other.p, .int a0.other.q.n, .own 4 0 a0.other.q.src.length, .own 5 0 a0.other.q.tgt.length, .own 6 0 a0.other.dims.length, .own 7 0 a0.other.maps.length]), (11, .int v1.2.2.2.2), (12, .int v6.2.2.2.2), (13, .ptr 13 0 13), (14, .own 8 0 a0.parts.length), (15, .int v6.2.2.2.2), (16, .int v11.2), (17, .ptr 13 0 14), (18, .own 9 0 a0.maps.length), (19, .int v11.2), (20, .int v13.2), (21, .ptr 13 0 15), (22, .own 10 0 a0.bars.length), (23, .int v13.2)] [(0, ⟨1, List.map (ow eI) v1.1⟩), (1, ⟨1, List.map (ow eI) v1.2.1⟩), (2, ⟨1, List.map (ow eI) v1.2.2.1⟩), (3, ⟨3, List.map (ow eM) v1.2.2.2.1⟩), (4, ⟨1, List.map (ow eI) v6.1⟩), (5, ⟨1, List.map (ow eI) v6.2.1⟩), (6, ⟨1, List.map (ow eI) v6.2.2.1⟩), (7, ⟨3, List.map (ow eM) v6.2.2.2.1⟩), (8, ⟨6, List.map (ow eR) v11.1⟩), (9, ⟨3, List.map (ow eM) v13.1⟩), (10, ⟨3, List.map (ow eB) a0.bars⟩), (11, ⟨1, List.map (ow eI) a0.theta⟩), (12, ⟨2, List.map (ow eS) a0.subs⟩), (13, ⟨18, [[.int a0.kind, .int a0.rep.p, .int a0.rep.q.n, .own 0 0 a0.rep.q.src.length, .own 1 0 a0.rep.q.tgt.length, .own 2 0 a0.rep.dims.length, .own 3 0 a0.rep.maps.length, .int a0.other.p, .int a0.other.q.n, .own 4 0 a0.other.q.src.length, .own 5 0 a0.other.q.tgt.length, .own 6 0 a0.other.dims.length, .own 7 0 a0.other.maps.length, .own 8 0 a0.parts.length, .own 9 0 a0.maps.length, .own 10 0 a0.bars.length, .own 11 0 a0.theta.length, .own 12 0 a0.subs.length]]⟩)] 14 [14, 15] ⟨13, true, none, true⟩) (ent_mk (σ := sg [(0, 0), (1, 1), (2, 2), (3, 3), (4, 4), (5, 5), (6, 6), (7, 7), (8, 8), (9, 9), (10, 10), (11, 11), (12, 12), (13, 13)]) ⟨⟨_, k, ⟨_, _, k, k, ⟨_, _, k, k, ⟨_, _, k, k, ⟨_, _, k, ⟨k, k, k, k⟩, ⟨_, _, k, ⟨k, k, k, k⟩, ⟨_, _, k, ⟨k, k, k, k⟩, ⟨_, _, k, ⟨k, k, k, k⟩, ⟨_, _, k, k, ⟨_, _, k, k, ⟨_, _, k, ⟨k, k, k, k⟩, ⟨_, _, k, ⟨k, k, k, k⟩, ⟨_, _, k, ⟨k, k, k, k⟩, ⟨_, _, k, ⟨k, k, k, k⟩, ⟨_, _, k, ⟨k, k, k, k⟩, ⟨_, _, k, ⟨k, k, k, k⟩, ⟨_, _, k, ⟨k, k, k, k⟩, ⟨_, _, k, ⟨k, k, k, k⟩, ⟨_, _, k, ⟨k, k, k, k⟩, k⟩⟩⟩⟩⟩⟩⟩⟩⟩⟩⟩⟩⟩⟩⟩⟩⟩⟩⟩, (e1 k k), (pE k k), (e1 k k), (pE k k), ⟨_, k, ⟨_, _, k, k, ⟨_, _, k, k, ⟨_, _, k, ⟨k, k, k, k⟩, ⟨_, _, k, ⟨k, k, k, k⟩, ⟨_, _, k, ⟨k, k, k, k⟩, ⟨_, _, k, ⟨k, k, k, k⟩, k⟩⟩⟩⟩⟩⟩⟩, (e1 k k), (e1 k k), (pE k k), ⟨_, k, ⟨_, _, k, k, ⟨_, _, k, k, ⟨_, _, k, ⟨k, k, k, k⟩, ⟨_, _, k, ⟨k, k, k, k⟩, ⟨_, _, k, ⟨k, k, k, k⟩, ⟨_, _, k, ⟨k, k, k, k⟩, k⟩⟩⟩⟩⟩⟩⟩, (e1 k k), (e1 k k), (pE k k), (oE k k), (e1 k k), (e1 k k), (pE k k), (oE k k), (e1 k k), (e1 k k), (pE k k), (oE k k), (e1 k k), trivial⟩ (hI k k k <| hI k k k <| hI k k k <| hB (okMt.plainO _) k k k <| hI k k k <| hI k k k <| hI k k k <| hB (okMt.plainO _) k k k <| hB (okRp.plainO _) k k k <| hB (okMt.plainO _) k k k <| hB (okBr.plainO _) k k k <| hI k k k <| hB (okSc.plainO _) k k k <| hX ⟨_, k, k, .inr ⟨_, _, k, ⟨_, _, k, k, ⟨_, _, k, k, ⟨_, _, k, k, ⟨_, _, k, ⟨k, k, k, k⟩, ⟨_, _, k, ⟨k, k, k, k⟩, ⟨_, _, k, ⟨k, k, k, k⟩, ⟨_, _, k, ⟨k, k, k, k⟩, ⟨_, _, k, k, ⟨_, _, k, k, ⟨_, _, k, ⟨k, k, k, k⟩, ⟨_, _, k, ⟨k, k, k, k⟩, ⟨_, _, k, ⟨k, k, k, k⟩, ⟨_, _, k, ⟨k, k, k, k⟩, ⟨_, _, k, ⟨k, k, k, k⟩, ⟨_, _, k, ⟨k, k, k, k⟩, ⟨_, _, k, ⟨k, k, k, k⟩, ⟨_, _, k, ⟨k, k, k, k⟩, ⟨_, _, k, ⟨k, k, k, k⟩, k⟩⟩⟩⟩⟩⟩⟩⟩⟩⟩⟩⟩⟩⟩⟩⟩⟩⟩, k⟩⟩ k <| trivial) k) ?_
 refine sops_T (σ := sg [(0, 10)]) (σ' := sg [(10, 0)]) (touch := [10]) (news := []) (hl2 := [(10, ⟨3, List.map (ow eB) v15.1⟩)]) (n' := 14) (r2 := .int v15.2) (c_laws_markBarS a0.bars v13.2 v15 hv15) k k ⟨_, _, k, ⟨k, k, k, k⟩, ⟨_, _, k, k, k⟩⟩ ⟨⟨_, k, k, .inl ⟨k, okBr.plainO _⟩⟩, k, trivial⟩ k k k ⟨⟨_, k, k, .inl ⟨k, okBr.plainO _⟩⟩, k, trivial⟩ k k k ⟨k, okBr.tame _ _, trivial⟩ k k k k k (dfE_ok ⟨k, k, k, k, k, k, k, k, k, k, k, k, k, k, k, k, k, k, k, k, k, k, k, trivial⟩) (dfH_ok (skip := [10]) ⟨.inr (okI.df _ _), .inr (okI.df _ _), .inr (okI.df _ _), .inr (okMt.df _ _), .inr (okI.df _ _), .inr (okI.df _ _), .inr (okI.df _ _), .inr (okMt.df _ _), .inr (okRp.df _ _), .inr (okMt.df _ _), .inl (by decide), .inr (okI.df _ _), .inr (okSc.df _ _), .inr (df_lit k), trivial⟩) ?_
 obtain ⟨q16, h⟩ := cg h
 refine se (eff_assign k) k <| sn <| tn <| sQ <| rgS <| se (w_field_ptr TT_ok k k k k k k k) k <| se (w_load_ptr TT_ok k k k k k k k) k <| se (eff_move k) k ?_
 obtain ⟨v17, hv17, h⟩ := ob h
 refine se (eff_hasE (σ := sg [(0, 11)]) (σ' := sg [(11, 0)]) (touch := [11]) (news := []) (hl2 := [(11, ⟨1, List.map (ow eI) v17.1⟩)]) (n' := 14) (r2 := .int v17.2) (c_laws_markIntS a0.theta v15.2 v17 hv17) k k ⟨_, _, k, ⟨k, k, k, k⟩, ⟨_, _, k, k, k⟩⟩ ⟨⟨_, k, k, .inl ⟨k, okI.plainO _⟩⟩, k, trivial⟩ k k k ⟨⟨_, k, k, .inl ⟨k, okI.plainO _⟩⟩, k, trivial⟩ k k k ⟨k, okI.tame _ _, trivial⟩ k k) k ?_
 obtain ⟨q18, h⟩ := cg h
 refine se (eff_assign k) k <| sn <| tn <| sQ <| rgS <| se (w_field_ptr TT_ok k k k k k k k) k <| se (w_load_ptr TT_ok k k k k k k k) k <| se (eff_move k) k ?_
 obtain ⟨v19, hv19, h⟩ := ob h
 refine sops_ent (t := mkS ((0, .agg [.int a0.kind, .int a0.rep.p, .int a0.rep.q.n, .own 0 0 a0.rep.q.src.length, .own 1 0 a0.rep.q.tgt.length, .own 2 0 a0.rep.dims.length, .own 3 0 a0.rep.maps.length, .int a0.other.p, .int a0.other.q.n, .own 4 0 a0.other.q.src.length, .own 5 0 a0.other.q.tgt.length, .own 6 0 a0.other.dims.length, .own 7 0 a0.other.maps.length, .own 8 0 a0.parts.length, .own 9 0 a0.maps.length, .own 10 0 a0.bars.length, .own 11 0 a0.theta.length, .own 12 0 a0.subs.length]) :: (1, .int v17.2) :: (2, .ptr 13 0 0) :: (4, .int 0) :: (5, .ptr 13 0 1) :: (6, .agg [.int a0.rep.p, .int a0.rep.q.n, .own 0 0 a0.rep.q.src.length, .own 1 0 a0.rep.q.tgt.length, .own 2 0 a0.rep.dims.length, .own 3 0 a0.rep.maps.length]) :: (7, .int a1) :: (8, .int v1.2.2.2.2) :: (9, .ptr 13 0 7) :: (10, .agg [.int a0.other.p, .int a0.other.q.n, .own 4 0 a0.other.q.src.length, .own 5 0 a0.other.q.tgt.length, .own 6 0 a0.other.dims.length, .own 7 0 a0.other.maps.length]) :: (11, .int v1.2.2.2.2) :: (12, .int v6.2.2.2.2) :: (13, .ptr 13 0 13) :: (14, .own 8 0 a0.parts.length) :: (15, .int v6.2.2.2.2) :: (16, .int v11.2) :: (17, .ptr 13 0 14) :: (18, .own 9 0 a0.maps.length) :: (19, .int v11.2) :: (20, .int v13.2) :: (21, .ptr 13 0 15) :: (22, .own 10 0 a0.bars.length) :: (23, .int v13.2) :: (24, .int v15.2) :: (25, .ptr 13 0 16) :: (26, .own 11 0 a0.theta.length) :: (27, .int v15.2) :: (28, .int v17.2) :: (29, .ptr 13 0 17) :: (30, .own 12 0 a0.subs.length) :: (31, .int v17.2) :: []) [(0, ⟨1, List.map (ow eI) v1.1⟩), (1, ⟨1, List.map (ow eI) v1.2.1⟩), (2, ⟨1, List.map (ow eI) v1.2.2.1⟩), (3, ⟨3, List.map (ow eM) v1.2.2.2.1⟩), (4, ⟨1, List.map (ow eI) v6.1⟩), (5, ⟨1, List.map (ow eI) v6.2.1⟩), (6, ⟨1, List.map (ow eI) v6.2.2.1⟩), (7, ⟨3, List.map (ow eM) v6.2.2.2.1⟩), (8, ⟨6, List.map (ow eR) v11.1⟩), (9, ⟨3, List.map (ow eM) v13.1⟩), (10, ⟨3, List.map (ow eB) v15.1⟩), (11, ⟨1, List.map (ow eI) v17.1⟩), (12, ⟨2, List.map (ow eS) a0.subs⟩), (13, ⟨18, [[.int a0.kind, .int a0.rep.p, .int a0.rep.q.n, .own 0 0 a0.rep.q.src.length, .own 1 0 a0.rep.q.tgt.length, .own 2 0 a0.rep.dims.length, .own 3 0 a0.rep.maps.length, .int a0.other.p, .int a0.other.q.n, .own 4 0 a0.other.q.src.length, .own 5 0 a0.other.q.tgt.length, .own 6 0 a0.other.dims.length, .own 7 0 a0.other.maps.length, .own 8 0 a0.parts.length, .own 9 0 a0.maps.length, .own 10 0 a0.bars.length, .own 11 0 a0.theta.length, .own 12 0 a0.subs.length]]⟩)] 14 [14, 15] ⟨13, true, none, true⟩) (ent_mk (σ := sg [(0, 0), (1, 1), (2, 2), (3, 3), (4, 4), (5, 5), (6, 6), (7, 7), (8, 8), (9, 9), (10, 10), (11, 11), (12, 12), (13, 13)]) ⟨⟨_, k, ⟨_, _, k, k, ⟨_, _, k, k, ⟨_, _, k, k, ⟨_, _, k, ⟨k, k, k, k⟩, ⟨_, _, k, ⟨k, k, k, k⟩, ⟨_, _, k, ⟨k, k, k, k⟩, ⟨_, _, k, ⟨k, k, k, k⟩, ⟨_, _, k, k, ⟨_, _, k, k, ⟨_, _, k, ⟨k, k, k, k⟩, ⟨_, _, k, ⟨k, k, k, k⟩, ⟨_, _, k, ⟨k, k, k, k⟩, ⟨_, _, k, ⟨k, k, k, k⟩, ⟨_, _, k, ⟨k, k, k, k⟩, ⟨_, _, k, ⟨k, k, k, k⟩, ⟨_, _, k, ⟨k, k, k, k⟩, ⟨_, _, k, ⟨k, k, k, k⟩, ⟨_, _, k, ⟨k, k, k, k⟩, k⟩⟩⟩⟩⟩⟩⟩⟩⟩⟩⟩⟩⟩⟩⟩⟩⟩⟩⟩, (e1 k k), (pE k k), (e1 k k), (pE k k), ⟨_, k, ⟨_, _, k, k, ⟨_, _, k, k, ⟨_, _, k, ⟨k, k, k, k⟩, ⟨_, _, k, ⟨k, k, k, k⟩, ⟨_, _, k, ⟨k, k, k, k⟩, ⟨_, _, k, ⟨k, k, k, k⟩, k⟩⟩⟩⟩⟩⟩⟩, (e1 k k), (e1 k k), (pE k k), ⟨_, k, ⟨_, _, k, k, ⟨_, _, k, k, ⟨_, _, k, ⟨k, k, k, k⟩, ⟨_, _, k, ⟨k, k, k, k⟩, ⟨_, _, k, ⟨k, k, k, k⟩, ⟨_, _, k, ⟨k, k, k, k⟩, k⟩⟩⟩⟩⟩⟩⟩, (e1 k k), (e1 k k), (pE k k), (oE k k), (e1 k k), (e1 k k), (pE k k), (oE k k), (e1 k k), (e1 k k), (pE k k), (oE k k), (e1 k k), (e1 k k), (pE k k), (oE k k), (e1 k k), (e1 k k), (pE k k), (oE k k), (e1 k k), trivial⟩ (hI k k k <| hI k k k <| hI k k k <| hB (okMt.plainO _) k k k <| hI k k k <| hI k k k <| hI k k k <| hB (okMt.plainO _) k k k <| hB (okRp.plainO _) k k k <| hB (okMt.plainO _) k k k <| hB (okBr.plainO _) k k k <| hI k k k <| hB (okSc.plainO _) k k k <| hX ⟨_, k, k, .inr ⟨_, _, k, ⟨_, _, k, k, ⟨_, _, k, k, ⟨_, _, k, k, ⟨_, _, k, ⟨k, k, k, k⟩, ⟨_, _, k, ⟨k, k, k, k⟩, ⟨_, _, k, ⟨k, k, k, k⟩, ⟨_, _, k, ⟨k, k, k, k⟩, ⟨_, _, k, k, ⟨_, _, k, k, ⟨_, _, k, ⟨k, k, k, k⟩, ⟨_, _, k, ⟨k, k, k, k⟩, ⟨_, _, k, ⟨k, k, k, k⟩, ⟨_, _, k, ⟨k, k, k, k⟩, ⟨_, _, k, ⟨k, k, k, k⟩, ⟨_, _, k, ⟨k, k, k, k⟩, ⟨_, _, k, ⟨k, k, k, k⟩, ⟨_, _, k, ⟨k, k, k, k⟩, ⟨_, _, k, ⟨k, k, k, k⟩, k⟩⟩⟩⟩⟩⟩⟩⟩⟩⟩⟩⟩⟩⟩⟩⟩⟩⟩, k⟩⟩ k <| trivial) k) ?_
 refine sops_T (σ := sg [(0, 12)]) (σ' := sg [(12, 0)]) (touch := [12]) (news := []) (hl2 := [(12, ⟨2, List.map (ow eS) v19.1⟩)]) (n' := 14) (r2 := .int v19.2) (c_laws_markSpaceS a0.subs v17.2 v19 hv19) k k ⟨_, _, k, ⟨k, k, k, k⟩, ⟨_, _, k, k, k⟩⟩ ⟨⟨_, k, k, .inl ⟨k, okSc.plainO _⟩⟩, k, trivial⟩ k k k ⟨⟨_, k, k, .inl ⟨k, okSc.plainO _⟩⟩, k, trivial⟩ k k k ⟨k, okSc.tame _ _, trivial⟩ k k k k k (dfE_ok ⟨k, k, k, k, k, k, k, k, k, k, k, k, k, k, k, k, k, k, k, k, k, k, k, k, k, k, k, k, k, k, k, trivial⟩) (dfH_ok (skip := [12]) ⟨.inr (okI.df _ _), .inr (okI.df _ _), .inr (okI.df _ _), .inr (okMt.df _ _), .inr (okI.df _ _), .inr (okI.df _ _), .inr (okI.df _ _), .inr (okMt.df _ _), .inr (okRp.df _ _), .inr (okMt.df _ _), .inr (okBr.df _ _), .inr (okI.df _ _), .inl (by decide), .inr (df_lit k), trivial⟩) ?_
 obtain ⟨q20, h⟩ := cg h
 refine se (eff_assign k) k <| sn <| tn <| sQ <| rgS <| se (eff_move k) k <| se (eff_assign k) k <| sn <| tn <| ac_ret ?_
 obtain rfl := so h
 exact ⟨mkS [(4, .int v19.2)] [(0, ⟨1, List.map (ow eI) v1.1⟩), (1, ⟨1, List.map (ow eI) v1.2.1⟩), (2, ⟨1, List.map (ow eI) v1.2.2.1⟩), (3, ⟨3, List.map (ow eM) v1.2.2.2.1⟩), (4, ⟨1, List.map (ow eI) v6.1⟩), (5, ⟨1, List.map (ow eI) v6.2.1⟩), (6, ⟨1, List.map (ow eI) v6.2.2.1⟩), (7, ⟨3, List.map (ow eM) v6.2.2.2.1⟩), (8, ⟨6, List.map (ow eR) v11.1⟩), (9, ⟨3, List.map (ow eM) v13.1⟩), (10, ⟨3, List.map (ow eB) v15.1⟩), (11, ⟨1, List.map (ow eI) v17.1⟩), (12, ⟨2, List.map (ow eS) v19.1⟩)] 13 [13, 14, 15] ⟨13, true, none, true⟩, (ent_mk (σ := sg [(0, 0), (1, 1), (2, 2), (3, 3), (4, 4), (5, 5), (6, 6), (7, 7), (8, 8), (9, 9), (10, 10), (11, 11), (12, 12)]) ⟨(e1 k k), trivial⟩ (hI k k k <| hI k k k <| hI k k k <| hB (okMt.plainO _) k k k <| hI k k k <| hI k k k <| hI k k k <| hB (okMt.plainO _) k k k <| hB (okRp.plainO _) k k k <| hB (okMt.plainO _) k k k <| hB (okBr.plainO _) k k k <| hI k k k <| hB (okSc.plainO _) k k k <| trivial) k), k, ⟨_, k, .inl k⟩, ⟨k, k, k, k, k, k, k, k, k, k, k, k, k, trivial⟩⟩

noncomputable def m_laws_heldIntS_L1 (a0 : (List Int)) (x1 : (Int × Int)) : Option ((Int × Int) ⊕ (Int ⊕ Int)) :=
  bif decide (x1.2 < (a0.length : Int)) then
    (Option.bind (atL a0 x1.2) fun v2 =>
    bif !decide (v2 = x1.1) then
      (some (.inr (.inr ((-1)))))
    else
      (some (.inl (wr (x1.1 + 1), wr (x1.2 + 1)))))
  else
    (some (.inr (.inl x1.1)))

noncomputable def m_laws_heldIntS (a0 : (List Int)) (a1 : Int) : Option Int :=
  Option.bind (Lp (m_laws_heldIntS_L1 a0) (a1, 0)) fun y4 =>
  Sum.elim (fun y5 =>
    some (y5)
  ) 
  (fun y6 =>
    some y6
  )
   y4

theorem c_laws_heldIntS (a0 : (List Int)) (a1 : Int) (r : Int) (h : m_laws_heldIntS a0 a1 = some r) : HasC Try.prog 24 [.list 1 (List.map eI a0), .int a1] (.int r) := by
 refine hasC_mk TT_ok (rvs := [.tmp 4]) (ns := [0, 1]) Try.func24 k k Try.ntmps24 k k k <| sQ <| rg <| aa k k <| an <| tn <| sQ <| sQ <| rg <| aa k k ?_
 refine an <| tn <| ac_block ?_
 obtain ⟨y4, hy4, h⟩ := ob h
 refine ac_Lp (body := (m_laws_heldIntS_L1 a0)) hy4 (fun (x1 : (Int × Int)) => mkS [(0, .list 1 (List.map eI a0)), (1, .int x1.1), (5, .int x1.2)] [] 0 [0, 1]) (fun r e t => Sum.elim (fun a => (fun r e t => e = .exit 0 ∧ Ent t (mkS [(1, .int r)] [] 0 [0, 1])) a e t) (fun b => (fun r e t => e = .ret ∧ RetQ TT [.tmp 4] (.int r) .ret t) b e t) r) (ent_mk (σ := sg []) ⟨⟨_, k, ⟨k, k⟩⟩, (e1 k k), (e1 k k), trivial⟩ trivial k) ?_ ?_
 ·intro x1 o h
  refine sQ <| sQ <| rg <| am k k <| am k k <| ae (lenL TT_ok k k k) k <| ae (w_cmp k k k) k <| an <| tn ?_
  rcases cb h with ⟨q1, h⟩ | ⟨q1, h⟩
  ·refine ac_condT k q1 <| ac_skip <| tn <| sQ <| ac_block <| sQ <| sQ <| rg <| am k k <| am k k ?_
   obtain ⟨v2, hv2, h⟩ := ob h
   refine ae (x_at_list TT_ok hv2 k k k k k k) k <| ae (w_load_ref TT_ok k k k k k k) k <| am k k <| ae (w_cmp k k k) k <| an <| tn ?_
   rcases cb h with ⟨q3, h⟩ | ⟨q3, h⟩
   ·refine ac_condT k q3 <| sQ <| rg <| aa k k <| an <| tn <| ac_ret <| then_ret <| block_ret <| then_ret ?_
    refine then_ret ?_
    obtain rfl := so h
    exact ⟨_, k, k, ret_mk k k k (fz_int k)⟩
   ·refine ac_condF k q3 <| ac_skip <| tn <| rg <| am k k <| ae (x_add k k) k <| aa k k <| an <| block_n <| tn ?_
    refine ac_ent (t := mkS [(0, .list 1 (List.map eI a0)), (1, .int (wr (x1.1 + 1))), (5, .int x1.2)] [] 0 [0, 1]) (ent_mk (σ := sg []) ⟨⟨_, k, ⟨k, k⟩⟩, (e1 k k), (e1 k k), trivial⟩ trivial k) <| rg <| am k k <| ae (x_add k k) k <| aa k k <| an <| tn ?_
    obtain rfl := so h
    exact ⟨_, k, (ent_mk (σ := sg []) ⟨⟨_, k, ⟨k, k⟩⟩, (e1 k k), (e1 k k), trivial⟩ trivial k)⟩
  ·refine ac_condF k q1 <| ac_exit <| then_exit <| then_exit ?_
   obtain rfl := so h
   exact ⟨_, k, k, (ent_mk (σ := sg []) ⟨(e1 k k), trivial⟩ trivial k)⟩
 ·intro e t hX
  rcases y4 with y5 | y6
  ·obtain ⟨rfl, hent⟩ := hX
   refine block_here <| tn <| ac_ent hent <| sQ <| rg <| am k k <| aa k k <| an <| tn <| ac_ret ?_
   obtain rfl := so h
   exact ret_mk k k k (fz_int k)
  ·obtain ⟨rfl, hent⟩ := hX
   refine block_ret <| then_ret ?_
   obtain rfl := so h
   exact hent

noncomputable def m_laws_heldIntSS_L1 (a0 : (List (List Int))) (x1 : (Int × Int)) : Option ((Int × Int) ⊕ (Int ⊕ Int)) :=
  bif decide (x1.2 < (a0.length : Int)) then
    (Option.bind (atL a0 x1.2) fun v2 =>
    Option.bind (m_laws_heldIntS v2 x1.1) fun v3 =>
    bif decide (v3 < 0) then
      (some (.inr (.inr ((-1)))))
    else
      (some (.inl (v3, wr (x1.2 + 1)))))
  else
    (some (.inr (.inl x1.1)))

noncomputable def m_laws_heldIntSS (a0 : (List (List Int))) (a1 : Int) : Option Int :=
  Option.bind (Lp (m_laws_heldIntSS_L1 a0) (a1, 0)) fun y5 =>
  Sum.elim (fun y6 =>
    some (y6)
  ) 
  (fun y7 =>
    some y7
  )
   y5

theorem c_laws_heldIntSS (a0 : (List (List Int))) (a1 : Int) (r : Int) (h : m_laws_heldIntSS a0 a1 = some r) : HasC Try.prog 73 [.list 1 (List.map (eLs 1 eI) a0), .int a1] (.int r) := by
 refine hasC_mk TT_ok (rvs := [.tmp 4]) (ns := [0, 1]) Try.func73 k k Try.ntmps73 k k k <| sQ <| rg <| aa k k <| an <| tn <| sQ <| sQ <| rg <| aa k k ?_
 refine an <| tn <| ac_block ?_
 obtain ⟨y5, hy5, h⟩ := ob h
 refine ac_Lp (body := (m_laws_heldIntSS_L1 a0)) hy5 (fun (x1 : (Int × Int)) => mkS [(0, .list 1 (List.map (eLs 1 eI) a0)), (1, .int x1.1), (5, .int x1.2)] [] 0 [0, 1]) (fun r e t => Sum.elim (fun a => (fun r e t => e = .exit 0 ∧ Ent t (mkS [(1, .int r)] [] 0 [0, 1])) a e t) (fun b => (fun r e t => e = .ret ∧ RetQ TT [.tmp 4] (.int r) .ret t) b e t) r) (ent_mk (σ := sg []) ⟨⟨_, k, ⟨k, k⟩⟩, (e1 k k), (e1 k k), trivial⟩ trivial k) ?_ ?_
 ·intro x1 o h
  refine sQ <| sQ <| rg <| am k k <| am k k <| ae (lenL TT_ok k k k) k <| ae (w_cmp k k k) k <| an <| tn ?_
  rcases cb h with ⟨q1, h⟩ | ⟨q1, h⟩
  ·refine ac_condT k q1 <| ac_skip <| tn <| sQ <| ac_block <| sQ <| rg <| am k k <| am k k ?_
   obtain ⟨v2, hv2, h⟩ := ob h
   refine ae (x_at_list TT_ok hv2 k k k k k k) k <| ae (w_load_ref TT_ok k k k k k k) k <| am k k ?_
   obtain ⟨v3, hv3, h⟩ := ob h
   refine ae (w_call0s (c_laws_heldIntS v2 x1.1 v3 hv3) k (va_cons (va_same k) (va_cons (va_same k) va_nil))) k <| aa k k <| an <| tn <| sQ <| rg <| am k k <| ae (w_cmp k k k) k <| an <| tn ?_
   refine ac_ent (t := mkS [(0, .list 1 (List.map (eLs 1 eI) a0)), (1, .int v3), (5, .int x1.2), (19, .bl (decide (v3 < 0)))] [] 0 [0, 1]) (ent_mk (σ := sg []) ⟨⟨_, k, ⟨k, k⟩⟩, (e1 k k), (e1 k k), (e1 k k), trivial⟩ trivial k) ?_
   rcases cb h with ⟨q4, h⟩ | ⟨q4, h⟩
   ·refine ac_condT k q4 <| sQ <| rg <| aa k k <| an <| tn <| ac_ret <| block_ret <| then_ret <| then_ret ?_
    obtain rfl := so h
    exact ⟨_, k, k, ret_mk k k k (fz_int k)⟩
   ·refine ac_condF k q4 <| ac_skip <| block_n <| tn <| rg <| am k k <| ae (x_add k k) k <| aa k k <| an <| tn ?_
    obtain rfl := so h
    exact ⟨_, k, (ent_mk (σ := sg []) ⟨⟨_, k, ⟨k, k⟩⟩, (e1 k k), (e1 k k), trivial⟩ trivial k)⟩
  ·refine ac_condF k q1 <| ac_exit <| then_exit <| then_exit ?_
   obtain rfl := so h
   exact ⟨_, k, k, (ent_mk (σ := sg []) ⟨(e1 k k), trivial⟩ trivial k)⟩
 ·intro e t hX
  rcases y5 with y6 | y7
  ·obtain ⟨rfl, hent⟩ := hX
   refine block_here <| tn <| ac_ent hent <| sQ <| rg <| am k k <| aa k k <| an <| tn <| ac_ret ?_
   obtain rfl := so h
   exact ret_mk k k k (fz_int k)
  ·obtain ⟨rfl, hent⟩ := hX
   refine block_ret <| then_ret ?_
   obtain rfl := so h
   exact hent

noncomputable def m_laws_heldSpaceS_L1 (a0 : (List Sc)) (x1 : (Int × Int)) : Option ((Int × Int) ⊕ (Int ⊕ Int)) :=
  bif decide (x1.2 < (a0.length : Int)) then
    (Option.bind (atL a0 x1.2) fun v2 =>
    bif !decide (v2.size = x1.1) then
      (some (.inr (.inr ((-1)))))
    else
      (Option.bind (atL a0 x1.2) fun v4 =>
      Option.bind (m_laws_heldIntSS v4.basis (wr (x1.1 + 1))) fun v5 =>
      bif decide (v5 < 0) then
        (some (.inr (.inr ((-1)))))
      else
        (some (.inl (v5, wr (x1.2 + 1))))))
  else
    (some (.inr (.inl x1.1)))

noncomputable def m_laws_heldSpaceS (a0 : (List Sc)) (a1 : Int) : Option Int :=
  Option.bind (Lp (m_laws_heldSpaceS_L1 a0) (a1, 0)) fun y7 =>
  Sum.elim (fun y8 =>
    some (y8)
  ) 
  (fun y9 =>
    some y9
  )
   y7

theorem c_laws_heldSpaceS (a0 : (List Sc)) (a1 : Int) (r : Int) (h : m_laws_heldSpaceS a0 a1 = some r) : HasC Try.prog 46 [.list 2 (List.map eS a0), .int a1] (.int r) := by
 refine hasC_mk TT_ok (rvs := [.tmp 4]) (ns := [0, 1]) Try.func46 k k Try.ntmps46 k k k <| sQ <| rg <| aa k k <| an <| tn <| sQ <| sQ <| rg <| aa k k ?_
 refine an <| tn <| ac_block ?_
 obtain ⟨y7, hy7, h⟩ := ob h
 refine ac_Lp (body := (m_laws_heldSpaceS_L1 a0)) hy7 (fun (x1 : (Int × Int)) => mkS [(0, .list 2 (List.map eS a0)), (1, .int x1.1), (5, .int x1.2)] [] 0 [0, 1]) (fun r e t => Sum.elim (fun a => (fun r e t => e = .exit 0 ∧ Ent t (mkS [(1, .int r)] [] 0 [0, 1])) a e t) (fun b => (fun r e t => e = .ret ∧ RetQ TT [.tmp 4] (.int r) .ret t) b e t) r) (ent_mk (σ := sg []) ⟨⟨_, k, ⟨k, k⟩⟩, (e1 k k), (e1 k k), trivial⟩ trivial k) ?_ ?_
 ·intro x1 o h
  refine sQ <| sQ <| rg <| am k k <| am k k <| ae (lenL TT_ok k k k) k <| ae (w_cmp k k k) k <| an <| tn ?_
  rcases cb h with ⟨q1, h⟩ | ⟨q1, h⟩
  ·refine ac_condT k q1 <| ac_skip <| tn <| sQ <| ac_block <| sQ <| sQ <| rg <| am k k <| am k k ?_
   obtain ⟨v2, hv2, h⟩ := ob h
   refine ae (x_at_list TT_ok hv2 k k k k k k) k <| ae (w_field_ref TT_ok k k k k k k) k <| ae (w_load_ref TT_ok k k k k k k) k <| am k k <| ae (w_cmp k k k) k <| an <| tn ?_
   rcases cb h with ⟨q3, h⟩ | ⟨q3, h⟩
   ·refine ac_condT k q3 <| sQ <| rg <| aa k k <| an <| tn <| ac_ent (t := mkS [(4, .int (-1))] [] 0 [0, 1]) (ent_mk (σ := sg []) ⟨(e1 k k), trivial⟩ trivial k) <| ac_ret <| then_ret <| block_ret ?_
    refine then_ret <| then_ret ?_
    obtain rfl := so h
    exact ⟨_, k, k, ret_mk k k k (fz_int k)⟩
   ·refine ac_condF k q3 <| ac_skip <| tn <| sQ <| rg <| am k k <| ae (x_add k k) k <| aa k k <| an <| tn ?_
    refine ac_ent (t := mkS [(0, .list 2 (List.map eS a0)), (1, .int (wr (x1.1 + 1))), (5, .int x1.2)] [] 0 [0, 1]) (ent_mk (σ := sg []) ⟨⟨_, k, ⟨k, k⟩⟩, (e1 k k), (e1 k k), trivial⟩ trivial k) <| sQ <| rg <| am k k <| am k k ?_
    obtain ⟨v4, hv4, h⟩ := ob h
    refine ae (x_at_list TT_ok hv4 k k k k k k) k <| ae (w_field_ref TT_ok k k k k k k) k <| ae (w_load_ref TT_ok k k k k k k) k <| am k k ?_
    obtain ⟨v5, hv5, h⟩ := ob h
    refine ae (w_call0s (c_laws_heldIntSS v4.basis (wr (x1.1 + 1)) v5 hv5) k (va_cons (va_same k) (va_cons (va_same k) va_nil))) k <| aa k k <| an <| tn <| sQ <| rg <| am k k <| ae (w_cmp k k k) k <| an <| tn ?_
    rcases cb h with ⟨q6, h⟩ | ⟨q6, h⟩
    ·refine ac_condT k q6 <| sQ <| rg <| aa k k <| an <| tn <| ac_ret <| block_ret <| then_ret <| then_ret ?_
     obtain rfl := so h
     exact ⟨_, k, k, ret_mk k k k (fz_int k)⟩
    ·refine ac_condF k q6 <| ac_skip <| block_n <| tn <| rg <| am k k <| ae (x_add k k) k <| aa k k <| an <| tn ?_
     obtain rfl := so h
     exact ⟨_, k, (ent_mk (σ := sg []) ⟨⟨_, k, ⟨k, k⟩⟩, (e1 k k), (e1 k k), trivial⟩ trivial k)⟩
  ·refine ac_condF k q1 <| ac_exit <| then_exit <| then_exit ?_
   obtain rfl := so h
   exact ⟨_, k, k, (ent_mk (σ := sg []) ⟨(e1 k k), trivial⟩ trivial k)⟩
 ·intro e t hX
  rcases y7 with y8 | y9
  ·obtain ⟨rfl, hent⟩ := hX
   refine block_here <| tn <| ac_ent hent <| sQ <| rg <| am k k <| aa k k <| an <| tn <| ac_ret ?_
   obtain rfl := so h
   exact ret_mk k k k (fz_int k)
  ·obtain ⟨rfl, hent⟩ := hX
   refine block_ret <| then_ret ?_
   obtain rfl := so h
   exact hent

noncomputable def m_laws_heldQuiver (a0 : Qv) (a1 : Int) : Option Int :=
  Option.bind (m_laws_heldIntS a0.src a1) fun v1 =>
  bif decide (v1 < 0) then
    (some ((-1)))
  else
    (Option.bind (m_laws_heldIntS a0.tgt v1) fun v3 =>
    bif decide (v3 < 0) then
      (some ((-1)))
    else
      (some (v3)))

theorem c_laws_heldQuiver (a0 : Qv) (a1 : Int) (r : Int) (h : m_laws_heldQuiver a0 a1 = some r) : HasC Try.prog 72 [.agg (eQ a0), .int a1] (.int r) := by
 refine hasC_mk TT_ok (rvs := [.tmp 4]) (ns := [0, 1, 2]) Try.func72 k k Try.ntmps72 k k k <| sQ <| rg <| ae (w_box k k k k) k <| aa k k <| an <| tn <| sQ <| rg <| ae (w_field_ptr TT_ok k k k k k k k) k ?_
 refine ae (w_load_ptr TT_ok k k k k k k k) k <| am k k ?_
 obtain ⟨v1, hv1, h⟩ := ob h
 refine ae (w_call0s (c_laws_heldIntS a0.src a1 v1 hv1) k (va_cons (va_same k) (va_cons (va_same k) va_nil))) k <| aa k k <| an <| tn <| sQ <| sQ <| rg <| am k k <| ae (w_cmp k k k) k <| an ?_
 refine tn ?_
 rcases cb h with ⟨q2, h⟩ | ⟨q2, h⟩
 ·refine ac_condT k q2 <| sQ <| rg <| aa k k <| an <| tn <| ac_ret <| then_ret ?_
  obtain rfl := so h
  exact ret_mk k k k (fz_int k)
 ·refine ac_condF k q2 <| ac_skip <| tn <| sQ <| rg <| ae (w_field_ptr TT_ok k k k k k k k) k <| ae (w_load_ptr TT_ok k k k k k k k) k <| am k k ?_
  obtain ⟨v3, hv3, h⟩ := ob h
  refine ae (w_call0s (c_laws_heldIntS a0.tgt v1 v3 hv3) k (va_cons (va_same k) (va_cons (va_same k) va_nil))) k <| aa k k <| an <| tn <| ac_ent (t := mkS [(1, .int v3)] [] 1 [1, 2]) (ent_mk (σ := sg []) ⟨(e1 k k), trivial⟩ trivial k) <| sQ <| sQ <| rg <| am k k <| ae (w_cmp k k k) k ?_
  refine an <| tn ?_
  rcases cb h with ⟨q4, h⟩ | ⟨q4, h⟩
  ·refine ac_condT k q4 <| sQ <| rg <| aa k k <| an <| tn <| ac_ret <| then_ret ?_
   obtain rfl := so h
   exact ret_mk k k k (fz_int k)
  ·refine ac_condF k q4 <| ac_skip <| tn <| sQ <| rg <| am k k <| aa k k <| an <| tn <| ac_ret ?_
   obtain rfl := so h
   exact ret_mk k k k (fz_int k)

noncomputable def m_laws_heldMatrixS_L1 (a0 : (List Mt)) (x1 : (Int × Int)) : Option ((Int × Int) ⊕ (Int ⊕ Int)) :=
  bif decide (x1.2 < (a0.length : Int)) then
    (Option.bind (atL a0 x1.2) fun v2 =>
    bif !decide (v2.rows = x1.1) then
      (some (.inr (.inr ((-1)))))
    else
      (Option.bind (atL a0 x1.2) fun v4 =>
      bif !decide (v4.cols = wr (x1.1 + 1)) then
        (some (.inr (.inr ((-1)))))
      else
        (Option.bind (atL a0 x1.2) fun v6 =>
        Option.bind (m_laws_heldIntS v6.cells (wr ((wr (x1.1 + 1)) + 1))) fun v7 =>
        bif decide (v7 < 0) then
          (some (.inr (.inr ((-1)))))
        else
          (some (.inl (v7, wr (x1.2 + 1)))))))
  else
    (some (.inr (.inl x1.1)))

noncomputable def m_laws_heldMatrixS (a0 : (List Mt)) (a1 : Int) : Option Int :=
  Option.bind (Lp (m_laws_heldMatrixS_L1 a0) (a1, 0)) fun y9 =>
  Sum.elim (fun y10 =>
    some (y10)
  ) 
  (fun y11 =>
    some y11
  )
   y9

theorem c_laws_heldMatrixS (a0 : (List Mt)) (a1 : Int) (r : Int) (h : m_laws_heldMatrixS a0 a1 = some r) : HasC Try.prog 44 [.list 3 (List.map eM a0), .int a1] (.int r) := by
 refine hasC_mk TT_ok (rvs := [.tmp 4]) (ns := [0, 1]) Try.func44 k k Try.ntmps44 k k k <| sQ <| rg <| aa k k <| an <| tn <| sQ <| sQ <| rg <| aa k k ?_
 refine an <| tn <| ac_block ?_
 obtain ⟨y9, hy9, h⟩ := ob h
 refine ac_Lp (body := (m_laws_heldMatrixS_L1 a0)) hy9 (fun (x1 : (Int × Int)) => mkS [(0, .list 3 (List.map eM a0)), (1, .int x1.1), (5, .int x1.2)] [] 0 [0, 1]) (fun r e t => Sum.elim (fun a => (fun r e t => e = .exit 0 ∧ Ent t (mkS [(1, .int r)] [] 0 [0, 1])) a e t) (fun b => (fun r e t => e = .ret ∧ RetQ TT [.tmp 4] (.int r) .ret t) b e t) r) (ent_mk (σ := sg []) ⟨⟨_, k, ⟨k, k⟩⟩, (e1 k k), (e1 k k), trivial⟩ trivial k) ?_ ?_
 ·intro x1 o h
  refine sQ <| sQ <| rg <| am k k <| am k k <| ae (lenL TT_ok k k k) k <| ae (w_cmp k k k) k <| an <| tn ?_
  rcases cb h with ⟨q1, h⟩ | ⟨q1, h⟩
  ·refine ac_condT k q1 <| ac_skip <| tn <| sQ <| ac_block <| sQ <| sQ <| rg <| am k k <| am k k ?_
   obtain ⟨v2, hv2, h⟩ := ob h
   refine ae (x_at_list TT_ok hv2 k k k k k k) k <| ae (w_field_ref TT_ok k k k k k k) k <| ae (w_load_ref TT_ok k k k k k k) k <| am k k <| ae (w_cmp k k k) k <| an <| tn ?_
   rcases cb h with ⟨q3, h⟩ | ⟨q3, h⟩
   ·refine ac_condT k q3 <| sQ <| rg <| aa k k <| an <| tn <| ac_ent (t := mkS [(4, .int (-1))] [] 0 [0, 1]) (ent_mk (σ := sg []) ⟨(e1 k k), trivial⟩ trivial k) <| ac_ret <| then_ret <| block_ret ?_
    refine then_ret <| then_ret ?_
    obtain rfl := so h
    exact ⟨_, k, k, ret_mk k k k (fz_int k)⟩
   ·refine ac_condF k q3 <| ac_skip <| tn <| sQ <| rg <| am k k <| ae (x_add k k) k <| aa k k <| an <| tn ?_
    refine ac_ent (t := mkS [(0, .list 3 (List.map eM a0)), (1, .int (wr (x1.1 + 1))), (5, .int x1.2)] [] 0 [0, 1]) (ent_mk (σ := sg []) ⟨⟨_, k, ⟨k, k⟩⟩, (e1 k k), (e1 k k), trivial⟩ trivial k) <| sQ <| sQ <| rg <| am k k <| am k k ?_
    obtain ⟨v4, hv4, h⟩ := ob h
    refine ae (x_at_list TT_ok hv4 k k k k k k) k <| ae (w_field_ref TT_ok k k k k k k) k <| ae (w_load_ref TT_ok k k k k k k) k <| am k k <| ae (w_cmp k k k) k <| an <| tn ?_
    rcases cb h with ⟨q5, h⟩ | ⟨q5, h⟩
    ·refine ac_condT k q5 <| sQ <| rg <| aa k k <| an <| tn <| ac_ret <| then_ret <| block_ret <| then_ret ?_
     refine then_ret ?_
     obtain rfl := so h
     exact ⟨_, k, k, ret_mk k k k (fz_int k)⟩
    ·refine ac_condF k q5 <| ac_skip <| tn <| sQ <| rg <| am k k <| ae (x_add k k) k <| aa k k <| an <| tn ?_
     refine sQ <| rg <| am k k <| am k k ?_
     obtain ⟨v6, hv6, h⟩ := ob h
     refine ae (x_at_list TT_ok hv6 k k k k k k) k <| ae (w_field_ref TT_ok k k k k k k) k <| ae (w_load_ref TT_ok k k k k k k) k <| am k k ?_
     obtain ⟨v7, hv7, h⟩ := ob h
     refine ae (w_call0s (c_laws_heldIntS v6.cells (wr ((wr (x1.1 + 1)) + 1)) v7 hv7) k (va_cons (va_same k) (va_cons (va_same k) va_nil))) k <| aa k k <| an <| tn <| ac_ent (t := mkS [(0, .list 3 (List.map eM a0)), (1, .int v7), (5, .int x1.2)] [] 0 [0, 1]) (ent_mk (σ := sg []) ⟨⟨_, k, ⟨k, k⟩⟩, (e1 k k), (e1 k k), trivial⟩ trivial k) <| sQ <| rg <| am k k <| ae (w_cmp k k k) k <| an ?_
     refine tn ?_
     rcases cb h with ⟨q8, h⟩ | ⟨q8, h⟩
     ·refine ac_condT k q8 <| sQ <| rg <| aa k k <| an <| tn <| ac_ret <| block_ret <| then_ret <| then_ret ?_
      obtain rfl := so h
      exact ⟨_, k, k, ret_mk k k k (fz_int k)⟩
     ·refine ac_condF k q8 <| ac_skip <| block_n <| tn <| rg <| am k k <| ae (x_add k k) k <| aa k k <| an <| tn ?_
      obtain rfl := so h
      exact ⟨_, k, (ent_mk (σ := sg []) ⟨⟨_, k, ⟨k, k⟩⟩, (e1 k k), (e1 k k), trivial⟩ trivial k)⟩
  ·refine ac_condF k q1 <| ac_exit <| then_exit <| then_exit ?_
   obtain rfl := so h
   exact ⟨_, k, k, (ent_mk (σ := sg []) ⟨(e1 k k), trivial⟩ trivial k)⟩
 ·intro e t hX
  rcases y9 with y10 | y11
  ·obtain ⟨rfl, hent⟩ := hX
   refine block_here <| tn <| ac_ent hent <| sQ <| rg <| am k k <| aa k k <| an <| tn <| ac_ret ?_
   obtain rfl := so h
   exact ret_mk k k k (fz_int k)
  ·obtain ⟨rfl, hent⟩ := hX
   refine block_ret <| then_ret ?_
   obtain rfl := so h
   exact hent

noncomputable def m_laws_heldRep (a0 : Rp) (a1 : Int) : Option Int :=
  Option.bind (m_laws_heldQuiver a0.q a1) fun v1 =>
  bif decide (v1 < 0) then
    (some ((-1)))
  else
    (Option.bind (m_laws_heldIntS a0.dims v1) fun v3 =>
    bif decide (v3 < 0) then
      (some ((-1)))
    else
      (Option.bind (m_laws_heldMatrixS a0.maps v3) fun v5 =>
      bif decide (v5 < 0) then
        (some ((-1)))
      else
        (some (v5))))

theorem c_laws_heldRep (a0 : Rp) (a1 : Int) (r : Int) (h : m_laws_heldRep a0 a1 = some r) : HasC Try.prog 42 [.agg (eR a0), .int a1] (.int r) := by
 refine hasC_mk TT_ok (rvs := [.tmp 4]) (ns := [0, 1, 2]) Try.func42 k k Try.ntmps42 k k k <| sQ <| rg <| ae (w_box k k k k) k <| aa k k <| an <| tn <| sQ <| rg <| ae (w_field_ptr TT_ok k k k k k k k) k ?_
 refine ae (w_load_ptr TT_ok k k k k k k k) k <| am k k ?_
 obtain ⟨v1, hv1, h⟩ := ob h
 refine ae (w_call0s (c_laws_heldQuiver a0.q a1 v1 hv1) k (va_cons (va_agg' (v1_cons (v1_same k) (v1_cons (v1_same k) (v1_cons (v1_same k) v1_nil)))) (va_cons (va_same k) va_nil))) k <| aa k k <| an <| tn <| sQ <| sQ <| rg <| am k k <| ae (w_cmp k k k) k <| an ?_
 refine tn ?_
 rcases cb h with ⟨q2, h⟩ | ⟨q2, h⟩
 ·refine ac_condT k q2 <| sQ <| rg <| aa k k <| an <| tn <| ac_ret <| then_ret ?_
  obtain rfl := so h
  exact ret_mk k k k (fz_int k)
 ·refine ac_condF k q2 <| ac_skip <| tn <| sQ <| rg <| ae (w_field_ptr TT_ok k k k k k k k) k <| ae (w_load_ptr TT_ok k k k k k k k) k <| am k k ?_
  obtain ⟨v3, hv3, h⟩ := ob h
  refine ae (w_call0s (c_laws_heldIntS a0.dims v1 v3 hv3) k (va_cons (va_same k) (va_cons (va_same k) va_nil))) k <| aa k k <| an <| tn <| ac_ent (t := mkS [(1, .int v3), (2, .ptr 0 0 0)] [(0, ⟨6, [[.int a0.p, .int a0.q.n, .list 1 (List.map eI a0.q.src), .list 1 (List.map eI a0.q.tgt), .list 1 (List.map eI a0.dims), .list 3 (List.map eM a0.maps)]]⟩)] 1 [1, 2]) (ent_mk (σ := sg [(0, 0)]) ⟨(e1 k k), (pE k k), trivial⟩ (hP k k k k <| trivial) k) <| sQ <| sQ <| rg <| am k k <| ae (w_cmp k k k) k ?_
  refine an <| tn ?_
  rcases cb h with ⟨q4, h⟩ | ⟨q4, h⟩
  ·refine ac_condT k q4 <| sQ <| rg <| aa k k <| an <| tn <| ac_ret <| then_ret ?_
   obtain rfl := so h
   exact ret_mk k k k (fz_int k)
  ·refine ac_condF k q4 <| ac_skip <| tn <| sQ <| rg <| ae (w_field_ptr TT_ok k k k k k k k) k <| ae (w_load_ptr TT_ok k k k k k k k) k <| am k k ?_
   obtain ⟨v5, hv5, h⟩ := ob h
   refine ae (w_call0s (c_laws_heldMatrixS a0.maps v3 v5 hv5) k (va_cons (va_same k) (va_cons (va_same k) va_nil))) k <| aa k k <| an <| tn <| sQ <| sQ <| rg <| am k k <| ae (w_cmp k k k) k <| an ?_
   refine tn ?_
   rcases cb h with ⟨q6, h⟩ | ⟨q6, h⟩
   ·refine ac_condT k q6 <| sQ <| rg <| aa k k <| an <| tn <| ac_ret <| then_ret ?_
    obtain rfl := so h
    exact ret_mk k k k (fz_int k)
   ·refine ac_condF k q6 <| ac_skip <| tn <| sQ <| rg <| am k k <| aa k k <| an <| tn <| ac_ret ?_
    obtain rfl := so h
    exact ret_mk k k k (fz_int k)

noncomputable def m_laws_heldRepS_L1 (a0 : (List Rp)) (x1 : (Int × Int)) : Option ((Int × Int) ⊕ (Int ⊕ Int)) :=
  bif decide (x1.2 < (a0.length : Int)) then
    (Option.bind (atL a0 x1.2) fun v2 =>
    bif !decide (v2.p = x1.1) then
      (some (.inr (.inr ((-1)))))
    else
      (Option.bind (atL a0 x1.2) fun v4 =>
      bif !decide (v4.q.n = wr (x1.1 + 1)) then
        (some (.inr (.inr ((-1)))))
      else
        (Option.bind (atL a0 x1.2) fun v6 =>
        Option.bind (m_laws_heldIntS v6.q.src (wr ((wr (x1.1 + 1)) + 1))) fun v7 =>
        bif decide (v7 < 0) then
          (some (.inr (.inr ((-1)))))
        else
          (Option.bind (atL a0 x1.2) fun v9 =>
          Option.bind (m_laws_heldIntS v9.q.tgt v7) fun v10 =>
          bif decide (v10 < 0) then
            (some (.inr (.inr ((-1)))))
          else
            (Option.bind (atL a0 x1.2) fun v12 =>
            Option.bind (m_laws_heldIntS v12.dims v10) fun v13 =>
            bif decide (v13 < 0) then
              (some (.inr (.inr ((-1)))))
            else
              (Option.bind (atL a0 x1.2) fun v15 =>
              Option.bind (m_laws_heldMatrixS v15.maps v13) fun v16 =>
              bif decide (v16 < 0) then
                (some (.inr (.inr ((-1)))))
              else
                (some (.inl (v16, wr (x1.2 + 1))))))))))
  else
    (some (.inr (.inl x1.1)))

noncomputable def m_laws_heldRepS (a0 : (List Rp)) (a1 : Int) : Option Int :=
  Option.bind (Lp (m_laws_heldRepS_L1 a0) (a1, 0)) fun y18 =>
  Sum.elim (fun y19 =>
    some (y19)
  ) 
  (fun y20 =>
    some y20
  )
   y18

theorem c_laws_heldRepS (a0 : (List Rp)) (a1 : Int) (r : Int) (h : m_laws_heldRepS a0 a1 = some r) : HasC Try.prog 43 [.list 6 (List.map eR a0), .int a1] (.int r) := by
 refine hasC_mk TT_ok (rvs := [.tmp 4]) (ns := [0, 1]) Try.func43 k k Try.ntmps43 k k k <| sQ <| rg <| aa k k <| an <| tn <| sQ <| sQ <| rg <| aa k k ?_
 refine an <| tn <| ac_block ?_
 obtain ⟨y18, hy18, h⟩ := ob h
 refine ac_Lp (body := (m_laws_heldRepS_L1 a0)) hy18 (fun (x1 : (Int × Int)) => mkS [(0, .list 6 (List.map eR a0)), (1, .int x1.1), (5, .int x1.2)] [] 0 [0, 1]) (fun r e t => Sum.elim (fun a => (fun r e t => e = .exit 0 ∧ Ent t (mkS [(1, .int r)] [] 0 [0, 1])) a e t) (fun b => (fun r e t => e = .ret ∧ RetQ TT [.tmp 4] (.int r) .ret t) b e t) r) (ent_mk (σ := sg []) ⟨⟨_, k, ⟨k, k⟩⟩, (e1 k k), (e1 k k), trivial⟩ trivial k) ?_ ?_
 ·intro x1 o h
  refine sQ <| sQ <| rg <| am k k <| am k k <| ae (lenL TT_ok k k k) k <| ae (w_cmp k k k) k <| an <| tn ?_
  rcases cb h with ⟨q1, h⟩ | ⟨q1, h⟩
  ·refine ac_condT k q1 <| ac_skip <| tn <| sQ <| ac_block <| sQ <| sQ <| rg <| am k k <| am k k ?_
   obtain ⟨v2, hv2, h⟩ := ob h
   refine ae (x_at_list TT_ok hv2 k k k k k k) k <| ae (w_field_ref TT_ok k k k k k k) k <| ae (w_load_ref TT_ok k k k k k k) k <| am k k <| ae (w_cmp k k k) k <| an <| tn ?_
   rcases cb h with ⟨q3, h⟩ | ⟨q3, h⟩
   ·refine ac_condT k q3 <| sQ <| rg <| aa k k <| an <| tn <| ac_ent (t := mkS [(4, .int (-1))] [] 0 [0, 1]) (ent_mk (σ := sg []) ⟨(e1 k k), trivial⟩ trivial k) <| ac_ret <| then_ret <| block_ret ?_
    refine then_ret <| then_ret ?_
    obtain rfl := so h
    exact ⟨_, k, k, ret_mk k k k (fz_int k)⟩
   ·refine ac_condF k q3 <| ac_skip <| tn <| sQ <| rg <| am k k <| ae (x_add k k) k <| aa k k <| an <| tn ?_
    refine ac_ent (t := mkS [(0, .list 6 (List.map eR a0)), (1, .int (wr (x1.1 + 1))), (5, .int x1.2)] [] 0 [0, 1]) (ent_mk (σ := sg []) ⟨⟨_, k, ⟨k, k⟩⟩, (e1 k k), (e1 k k), trivial⟩ trivial k) <| sQ <| sQ <| rg <| am k k <| am k k ?_
    obtain ⟨v4, hv4, h⟩ := ob h
    refine ae (x_at_list TT_ok hv4 k k k k k k) k <| ae (w_field_ref TT_ok k k k k k k) k <| ae (w_field_ref TT_ok k k k k k k) k <| ae (w_load_ref TT_ok k k k k k k) k <| am k k <| ae (w_cmp k k k) k <| an <| tn ?_
    rcases cb h with ⟨q5, h⟩ | ⟨q5, h⟩
    ·refine ac_condT k q5 <| sQ <| rg <| aa k k <| an <| tn <| ac_ret <| then_ret <| block_ret <| then_ret ?_
     refine then_ret ?_
     obtain rfl := so h
     exact ⟨_, k, k, ret_mk k k k (fz_int k)⟩
    ·refine ac_condF k q5 <| ac_skip <| tn <| sQ <| rg <| am k k <| ae (x_add k k) k <| aa k k <| an <| tn ?_
     refine sQ <| rg <| am k k <| am k k ?_
     obtain ⟨v6, hv6, h⟩ := ob h
     refine ae (x_at_list TT_ok hv6 k k k k k k) k <| ae (w_field_ref TT_ok k k k k k k) k <| ae (w_field_ref TT_ok k k k k k k) k <| ae (w_load_ref TT_ok k k k k k k) k <| am k k ?_
     obtain ⟨v7, hv7, h⟩ := ob h
     refine ae (w_call0s (c_laws_heldIntS v6.q.src (wr ((wr (x1.1 + 1)) + 1)) v7 hv7) k (va_cons (va_same k) (va_cons (va_same k) va_nil))) k <| aa k k <| an <| tn <| ac_ent (t := mkS [(0, .list 6 (List.map eR a0)), (1, .int v7), (5, .int x1.2)] [] 0 [0, 1]) (ent_mk (σ := sg []) ⟨⟨_, k, ⟨k, k⟩⟩, (e1 k k), (e1 k k), trivial⟩ trivial k) <| sQ <| sQ <| rg <| am k k <| ae (w_cmp k k k) k ?_
     refine an <| tn ?_
     rcases cb h with ⟨q8, h⟩ | ⟨q8, h⟩
     ·refine ac_condT k q8 <| sQ <| rg <| aa k k <| an <| tn <| ac_ret <| then_ret <| block_ret <| then_ret ?_
      refine then_ret ?_
      obtain rfl := so h
      exact ⟨_, k, k, ret_mk k k k (fz_int k)⟩
     ·refine ac_condF k q8 <| ac_skip <| tn <| sQ <| rg <| am k k <| am k k ?_
      obtain ⟨v9, hv9, h⟩ := ob h
      refine ae (x_at_list TT_ok hv9 k k k k k k) k <| ae (w_field_ref TT_ok k k k k k k) k <| ae (w_field_ref TT_ok k k k k k k) k <| ae (w_load_ref TT_ok k k k k k k) k <| am k k ?_
      obtain ⟨v10, hv10, h⟩ := ob h
      refine ae (w_call0s (c_laws_heldIntS v9.q.tgt v7 v10 hv10) k (va_cons (va_same k) (va_cons (va_same k) va_nil))) k <| aa k k <| an <| tn <| sQ <| sQ <| rg <| am k k <| ae (w_cmp k k k) k <| an ?_
      refine tn <| ac_ent (t := mkS [(0, .list 6 (List.map eR a0)), (1, .int v10), (5, .int x1.2), (50, .bl (decide (v10 < 0)))] [] 0 [0, 1]) (ent_mk (σ := sg []) ⟨⟨_, k, ⟨k, k⟩⟩, (e1 k k), (e1 k k), (e1 k k), trivial⟩ trivial k) ?_
      rcases cb h with ⟨q11, h⟩ | ⟨q11, h⟩
      ·refine ac_condT k q11 <| sQ <| rg <| aa k k <| an <| tn <| ac_ret <| then_ret <| block_ret <| then_ret ?_
       refine then_ret ?_
       obtain rfl := so h
       exact ⟨_, k, k, ret_mk k k k (fz_int k)⟩
      ·refine ac_condF k q11 <| ac_skip <| tn <| sQ <| rg <| am k k <| am k k ?_
       obtain ⟨v12, hv12, h⟩ := ob h
       refine ae (x_at_list TT_ok hv12 k k k k k k) k <| ae (w_field_ref TT_ok k k k k k k) k <| ae (w_load_ref TT_ok k k k k k k) k <| am k k ?_
       obtain ⟨v13, hv13, h⟩ := ob h
       refine ae (w_call0s (c_laws_heldIntS v12.dims v10 v13 hv13) k (va_cons (va_same k) (va_cons (va_same k) va_nil))) k <| aa k k <| an <| tn <| sQ <| sQ <| rg <| am k k <| ae (w_cmp k k k) k <| an ?_
       refine tn ?_
       rcases cb h with ⟨q14, h⟩ | ⟨q14, h⟩
       ·refine ac_condT k q14 <| sQ <| rg <| aa k k <| an <| tn <| ac_ret <| then_ret <| block_ret <| then_ret ?_
        refine then_ret ?_
        obtain rfl := so h
        exact ⟨_, k, k, ret_mk k k k (fz_int k)⟩
       ·refine ac_condF k q14 <| ac_skip <| tn <| sQ <| rg <| am k k <| am k k ?_
        obtain ⟨v15, hv15, h⟩ := ob h
        refine ae (x_at_list TT_ok hv15 k k k k k k) k <| ae (w_field_ref TT_ok k k k k k k) k <| ae (w_load_ref TT_ok k k k k k k) k <| am k k ?_
        obtain ⟨v16, hv16, h⟩ := ob h
        refine ae (w_call0s (c_laws_heldMatrixS v15.maps v13 v16 hv16) k (va_cons (va_same k) (va_cons (va_same k) va_nil))) k <| aa k k <| an <| tn <| ac_ent (t := mkS [(0, .list 6 (List.map eR a0)), (1, .int v16), (5, .int x1.2)] [] 0 [0, 1]) (ent_mk (σ := sg []) ⟨⟨_, k, ⟨k, k⟩⟩, (e1 k k), (e1 k k), trivial⟩ trivial k) <| sQ <| rg <| am k k <| ae (w_cmp k k k) k <| an ?_
        refine tn ?_
        rcases cb h with ⟨q17, h⟩ | ⟨q17, h⟩
        ·refine ac_condT k q17 <| sQ <| rg <| aa k k <| an <| tn <| ac_ret <| block_ret <| then_ret <| then_ret ?_
         obtain rfl := so h
         exact ⟨_, k, k, ret_mk k k k (fz_int k)⟩
        ·refine ac_condF k q17 <| ac_skip <| block_n <| tn <| rg <| am k k <| ae (x_add k k) k <| aa k k <| an <| tn ?_
         obtain rfl := so h
         exact ⟨_, k, (ent_mk (σ := sg []) ⟨⟨_, k, ⟨k, k⟩⟩, (e1 k k), (e1 k k), trivial⟩ trivial k)⟩
  ·refine ac_condF k q1 <| ac_exit <| then_exit <| then_exit ?_
   obtain rfl := so h
   exact ⟨_, k, k, (ent_mk (σ := sg []) ⟨(e1 k k), trivial⟩ trivial k)⟩
 ·intro e t hX
  rcases y18 with y19 | y20
  ·obtain ⟨rfl, hent⟩ := hX
   refine block_here <| tn <| ac_ent hent <| sQ <| rg <| am k k <| aa k k <| an <| tn <| ac_ret ?_
   obtain rfl := so h
   exact ret_mk k k k (fz_int k)
  ·obtain ⟨rfl, hent⟩ := hX
   refine block_ret <| then_ret ?_
   obtain rfl := so h
   exact hent

noncomputable def m_laws_heldBarS_L1 (a0 : (List Br)) (x1 : (Int × Int)) : Option ((Int × Int) ⊕ (Int ⊕ Int)) :=
  bif decide (x1.2 < (a0.length : Int)) then
    (Option.bind (atL a0 x1.2) fun v2 =>
    bif !decide (v2.first = x1.1) then
      (some (.inr (.inr ((-1)))))
    else
      (Option.bind (atL a0 x1.2) fun v4 =>
      bif !decide (v4.last = wr (x1.1 + 1)) then
        (some (.inr (.inr ((-1)))))
      else
        (Option.bind (atL a0 x1.2) fun v6 =>
        bif !decide (v6.count = wr ((wr (x1.1 + 1)) + 1)) then
          (some (.inr (.inr ((-1)))))
        else
          (some (.inl (wr ((wr ((wr (x1.1 + 1)) + 1)) + 1), wr (x1.2 + 1)))))))
  else
    (some (.inr (.inl x1.1)))

noncomputable def m_laws_heldBarS (a0 : (List Br)) (a1 : Int) : Option Int :=
  Option.bind (Lp (m_laws_heldBarS_L1 a0) (a1, 0)) fun y8 =>
  Sum.elim (fun y9 =>
    some (y9)
  ) 
  (fun y10 =>
    some y10
  )
   y8

theorem c_laws_heldBarS (a0 : (List Br)) (a1 : Int) (r : Int) (h : m_laws_heldBarS a0 a1 = some r) : HasC Try.prog 45 [.list 3 (List.map eB a0), .int a1] (.int r) := by
 refine hasC_mk TT_ok (rvs := [.tmp 4]) (ns := [0, 1]) Try.func45 k k Try.ntmps45 k k k <| sQ <| rg <| aa k k <| an <| tn <| sQ <| sQ <| rg <| aa k k ?_
 refine an <| tn <| ac_block ?_
 obtain ⟨y8, hy8, h⟩ := ob h
 refine ac_Lp (body := (m_laws_heldBarS_L1 a0)) hy8 (fun (x1 : (Int × Int)) => mkS [(0, .list 3 (List.map eB a0)), (1, .int x1.1), (5, .int x1.2)] [] 0 [0, 1]) (fun r e t => Sum.elim (fun a => (fun r e t => e = .exit 0 ∧ Ent t (mkS [(1, .int r)] [] 0 [0, 1])) a e t) (fun b => (fun r e t => e = .ret ∧ RetQ TT [.tmp 4] (.int r) .ret t) b e t) r) (ent_mk (σ := sg []) ⟨⟨_, k, ⟨k, k⟩⟩, (e1 k k), (e1 k k), trivial⟩ trivial k) ?_ ?_
 ·intro x1 o h
  refine sQ <| sQ <| rg <| am k k <| am k k <| ae (lenL TT_ok k k k) k <| ae (w_cmp k k k) k <| an <| tn ?_
  rcases cb h with ⟨q1, h⟩ | ⟨q1, h⟩
  ·refine ac_condT k q1 <| ac_skip <| tn <| sQ <| ac_block <| sQ <| sQ <| rg <| am k k <| am k k ?_
   obtain ⟨v2, hv2, h⟩ := ob h
   refine ae (x_at_list TT_ok hv2 k k k k k k) k <| ae (w_field_ref TT_ok k k k k k k) k <| ae (w_load_ref TT_ok k k k k k k) k <| am k k <| ae (w_cmp k k k) k <| an <| tn ?_
   rcases cb h with ⟨q3, h⟩ | ⟨q3, h⟩
   ·refine ac_condT k q3 <| sQ <| rg <| aa k k <| an <| tn <| ac_ent (t := mkS [(4, .int (-1))] [] 0 [0, 1]) (ent_mk (σ := sg []) ⟨(e1 k k), trivial⟩ trivial k) <| ac_ret <| then_ret <| block_ret ?_
    refine then_ret <| then_ret ?_
    obtain rfl := so h
    exact ⟨_, k, k, ret_mk k k k (fz_int k)⟩
   ·refine ac_condF k q3 <| ac_skip <| tn <| sQ <| rg <| am k k <| ae (x_add k k) k <| aa k k <| an <| tn ?_
    refine ac_ent (t := mkS [(0, .list 3 (List.map eB a0)), (1, .int (wr (x1.1 + 1))), (5, .int x1.2)] [] 0 [0, 1]) (ent_mk (σ := sg []) ⟨⟨_, k, ⟨k, k⟩⟩, (e1 k k), (e1 k k), trivial⟩ trivial k) <| sQ <| sQ <| rg <| am k k <| am k k ?_
    obtain ⟨v4, hv4, h⟩ := ob h
    refine ae (x_at_list TT_ok hv4 k k k k k k) k <| ae (w_field_ref TT_ok k k k k k k) k <| ae (w_load_ref TT_ok k k k k k k) k <| am k k <| ae (w_cmp k k k) k <| an <| tn ?_
    rcases cb h with ⟨q5, h⟩ | ⟨q5, h⟩
    ·refine ac_condT k q5 <| sQ <| rg <| aa k k <| an <| tn <| ac_ret <| then_ret <| block_ret <| then_ret ?_
     refine then_ret ?_
     obtain rfl := so h
     exact ⟨_, k, k, ret_mk k k k (fz_int k)⟩
    ·refine ac_condF k q5 <| ac_skip <| tn <| sQ <| rg <| am k k <| ae (x_add k k) k <| aa k k <| an <| tn ?_
     refine sQ <| sQ <| rg <| am k k <| am k k ?_
     obtain ⟨v6, hv6, h⟩ := ob h
     refine ae (x_at_list TT_ok hv6 k k k k k k) k <| ae (w_field_ref TT_ok k k k k k k) k <| ae (w_load_ref TT_ok k k k k k k) k <| am k k <| ae (w_cmp k k k) k <| an <| tn <| ac_ent (t := mkS [(0, .list 3 (List.map eB a0)), (1, .int (wr ((wr (x1.1 + 1)) + 1))), (5, .int x1.2), (36, .bl (!decide (v6.count = wr ((wr (x1.1 + 1)) + 1))))] [] 0 [0, 1]) (ent_mk (σ := sg []) ⟨⟨_, k, ⟨k, k⟩⟩, (e1 k k), (e1 k k), (e1 k k), trivial⟩ trivial k) ?_
     rcases cb h with ⟨q7, h⟩ | ⟨q7, h⟩
     ·refine ac_condT k q7 <| sQ <| rg <| aa k k <| an <| tn <| ac_ret <| then_ret <| block_ret <| then_ret ?_
      refine then_ret ?_
      obtain rfl := so h
      exact ⟨_, k, k, ret_mk k k k (fz_int k)⟩
     ·refine ac_condF k q7 <| ac_skip <| tn <| rg <| am k k <| ae (x_add k k) k <| aa k k <| an <| block_n <| tn ?_
      refine rg <| am k k <| ae (x_add k k) k <| aa k k <| an <| tn ?_
      obtain rfl := so h
      exact ⟨_, k, (ent_mk (σ := sg []) ⟨⟨_, k, ⟨k, k⟩⟩, (e1 k k), (e1 k k), trivial⟩ trivial k)⟩
  ·refine ac_condF k q1 <| ac_exit <| then_exit <| then_exit ?_
   obtain rfl := so h
   exact ⟨_, k, k, (ent_mk (σ := sg []) ⟨(e1 k k), trivial⟩ trivial k)⟩
 ·intro e t hX
  rcases y8 with y9 | y10
  ·obtain ⟨rfl, hent⟩ := hX
   refine block_here <| tn <| ac_ent hent <| sQ <| rg <| am k k <| aa k k <| an <| tn <| ac_ret ?_
   obtain rfl := so h
   exact ret_mk k k k (fz_int k)
  ·obtain ⟨rfl, hent⟩ := hX
   refine block_ret <| then_ret ?_
   obtain rfl := so h
   exact hent

noncomputable def m_laws_heldClaim (a0 : Cl) (a1 : Int) : Option Int :=
  Option.bind (m_laws_heldRep a0.rep a1) fun v1 =>
  bif decide (v1 < 0) then
    (some ((-1)))
  else
    (Option.bind (m_laws_heldRep a0.other v1) fun v3 =>
    bif decide (v3 < 0) then
      (some ((-1)))
    else
      (Option.bind (m_laws_heldRepS a0.parts v3) fun v5 =>
      bif decide (v5 < 0) then
        (some ((-1)))
      else
        (Option.bind (m_laws_heldMatrixS a0.maps v5) fun v7 =>
        bif decide (v7 < 0) then
          (some ((-1)))
        else
          (Option.bind (m_laws_heldBarS a0.bars v7) fun v9 =>
          bif decide (v9 < 0) then
            (some ((-1)))
          else
            (Option.bind (m_laws_heldIntS a0.theta v9) fun v11 =>
            bif decide (v11 < 0) then
              (some ((-1)))
            else
              (Option.bind (m_laws_heldSpaceS a0.subs v11) fun v13 =>
              bif decide (v13 < 0) then
                (some ((-1)))
              else
                (some (v13))))))))

theorem c_laws_heldClaim (a0 : Cl) (a1 : Int) (r : Int) (h : m_laws_heldClaim a0 a1 = some r) : HasC Try.prog 14 [.agg (eC a0), .int a1] (.int r) := by
 refine hasC_mk TT_ok (rvs := [.tmp 4]) (ns := [0, 1, 2]) Try.func14 k k Try.ntmps14 k k k <| sQ <| rg <| ae (w_box k k k k) k <| aa k k <| an <| tn <| sQ <| rg <| ae (w_field_ptr TT_ok k k k k k k k) k ?_
 refine ae (w_load_ptr TT_ok k k k k k k k) k <| am k k ?_
 obtain ⟨v1, hv1, h⟩ := ob h
 refine ae (w_call0s (c_laws_heldRep a0.rep a1 v1 hv1) k (va_cons (va_agg' (v1_cons (v1_same k) (v1_cons (v1_same k) (v1_cons (v1_same k) (v1_cons (v1_same k) (v1_cons (v1_same k) (v1_cons (v1_same k) v1_nil))))))) (va_cons (va_same k) va_nil))) k <| aa k k <| an <| tn <| sQ <| sQ <| rg <| am k k <| ae (w_cmp k k k) k <| an ?_
 refine tn ?_
 rcases cb h with ⟨q2, h⟩ | ⟨q2, h⟩
 ·refine ac_condT k q2 <| sQ <| rg <| aa k k <| an <| tn <| ac_ret <| then_ret ?_
  obtain rfl := so h
  exact ret_mk k k k (fz_int k)
 ·refine ac_condF k q2 <| ac_skip <| tn <| sQ <| rg <| ae (w_field_ptr TT_ok k k k k k k k) k <| ae (w_load_ptr TT_ok k k k k k k k) k <| am k k ?_
  obtain ⟨v3, hv3, h⟩ := ob h
  refine ae (w_call0s (c_laws_heldRep a0.other v1 v3 hv3) k (va_cons (va_agg' (v1_cons (v1_same k) (v1_cons (v1_same k) (v1_cons (v1_same k) (v1_cons (v1_same k) (v1_cons (v1_same k) (v1_cons (v1_same k) v1_nil))))))) (va_cons (va_same k) va_nil))) k <| aa k k <| an <| tn <| ac_ent (t := mkS [(1, .int v3), (2, .ptr 0 0 0)] [(0, ⟨18, [[.int a0.kind, .int a0.rep.p, .int a0.rep.q.n, .list 1 (List.map eI a0.rep.q.src), .list 1 (List.map eI a0.rep.q.tgt), .list 1 (List.map eI a0.rep.dims), .list 3 (List.map eM a0.rep.maps), .int a0.other.p, .int a0.other.q.n, .list 1 (List.map eI a0.other.q.src), .list 1 (List.map eI a0.other.q.tgt), .list 1 (List.map eI a0.other.dims), .list 3 (List.map eM a0.other.maps), .list 6 (List.map eR a0.parts), .list 3 (List.map eM a0.maps), .list 3 (List.map eB a0.bars), .list 1 (List.map eI a0.theta), .list 2 (List.map eS a0.subs)]]⟩)] 1 [1, 2]) (ent_mk (σ := sg [(0, 0)]) ⟨(e1 k k), (pE k k), trivial⟩ (hP k k k k <| trivial) k) <| sQ <| sQ <| rg <| am k k <| ae (w_cmp k k k) k ?_
  refine an <| tn ?_
  rcases cb h with ⟨q4, h⟩ | ⟨q4, h⟩
  ·refine ac_condT k q4 <| sQ <| rg <| aa k k <| an <| tn <| ac_ret <| then_ret ?_
   obtain rfl := so h
   exact ret_mk k k k (fz_int k)
  ·refine ac_condF k q4 <| ac_skip <| tn <| sQ <| rg <| ae (w_field_ptr TT_ok k k k k k k k) k <| ae (w_load_ptr TT_ok k k k k k k k) k <| am k k ?_
   obtain ⟨v5, hv5, h⟩ := ob h
   refine ae (w_call0s (c_laws_heldRepS a0.parts v3 v5 hv5) k (va_cons (va_same k) (va_cons (va_same k) va_nil))) k <| aa k k <| an <| tn <| sQ <| sQ <| rg <| am k k <| ae (w_cmp k k k) k <| an ?_
   refine tn ?_
   rcases cb h with ⟨q6, h⟩ | ⟨q6, h⟩
   ·refine ac_condT k q6 <| sQ <| rg <| aa k k <| an <| tn <| ac_ret <| then_ret ?_
    obtain rfl := so h
    exact ret_mk k k k (fz_int k)
   ·refine ac_condF k q6 <| ac_skip <| tn <| sQ <| rg <| ae (w_field_ptr TT_ok k k k k k k k) k <| ae (w_load_ptr TT_ok k k k k k k k) k <| am k k ?_
    obtain ⟨v7, hv7, h⟩ := ob h
    refine ae (w_call0s (c_laws_heldMatrixS a0.maps v5 v7 hv7) k (va_cons (va_same k) (va_cons (va_same k) va_nil))) k <| aa k k <| an <| tn <| ac_ent (t := mkS [(1, .int v7), (2, .ptr 0 0 0)] [(0, ⟨18, [[.int a0.kind, .int a0.rep.p, .int a0.rep.q.n, .list 1 (List.map eI a0.rep.q.src), .list 1 (List.map eI a0.rep.q.tgt), .list 1 (List.map eI a0.rep.dims), .list 3 (List.map eM a0.rep.maps), .int a0.other.p, .int a0.other.q.n, .list 1 (List.map eI a0.other.q.src), .list 1 (List.map eI a0.other.q.tgt), .list 1 (List.map eI a0.other.dims), .list 3 (List.map eM a0.other.maps), .list 6 (List.map eR a0.parts), .list 3 (List.map eM a0.maps), .list 3 (List.map eB a0.bars), .list 1 (List.map eI a0.theta), .list 2 (List.map eS a0.subs)]]⟩)] 1 [1, 2]) (ent_mk (σ := sg [(0, 0)]) ⟨(e1 k k), (pE k k), trivial⟩ (hP k k k k <| trivial) k) <| sQ <| sQ <| rg <| am k k <| ae (w_cmp k k k) k ?_
    refine an <| tn ?_
    rcases cb h with ⟨q8, h⟩ | ⟨q8, h⟩
    ·refine ac_condT k q8 <| sQ <| rg <| aa k k <| an <| tn <| ac_ret <| then_ret ?_
     obtain rfl := so h
     exact ret_mk k k k (fz_int k)
    ·refine ac_condF k q8 <| ac_skip <| tn <| sQ <| rg <| ae (w_field_ptr TT_ok k k k k k k k) k <| ae (w_load_ptr TT_ok k k k k k k k) k <| am k k ?_
     obtain ⟨v9, hv9, h⟩ := ob h
     refine ae (w_call0s (c_laws_heldBarS a0.bars v7 v9 hv9) k (va_cons (va_same k) (va_cons (va_same k) va_nil))) k <| aa k k <| an <| tn <| sQ <| sQ <| rg <| am k k <| ae (w_cmp k k k) k <| an ?_
     refine tn ?_
     rcases cb h with ⟨q10, h⟩ | ⟨q10, h⟩
     ·refine ac_condT k q10 <| sQ <| rg <| aa k k <| an <| tn <| ac_ret <| then_ret ?_
      obtain rfl := so h
      exact ret_mk k k k (fz_int k)
     ·refine ac_condF k q10 <| ac_skip <| tn <| sQ <| rg <| ae (w_field_ptr TT_ok k k k k k k k) k <| ae (w_load_ptr TT_ok k k k k k k k) k <| am k k ?_
      obtain ⟨v11, hv11, h⟩ := ob h
      refine ae (w_call0s (c_laws_heldIntS a0.theta v9 v11 hv11) k (va_cons (va_same k) (va_cons (va_same k) va_nil))) k <| aa k k <| an <| tn <| ac_ent (t := mkS [(1, .int v11), (2, .ptr 0 0 0)] [(0, ⟨18, [[.int a0.kind, .int a0.rep.p, .int a0.rep.q.n, .list 1 (List.map eI a0.rep.q.src), .list 1 (List.map eI a0.rep.q.tgt), .list 1 (List.map eI a0.rep.dims), .list 3 (List.map eM a0.rep.maps), .int a0.other.p, .int a0.other.q.n, .list 1 (List.map eI a0.other.q.src), .list 1 (List.map eI a0.other.q.tgt), .list 1 (List.map eI a0.other.dims), .list 3 (List.map eM a0.other.maps), .list 6 (List.map eR a0.parts), .list 3 (List.map eM a0.maps), .list 3 (List.map eB a0.bars), .list 1 (List.map eI a0.theta), .list 2 (List.map eS a0.subs)]]⟩)] 1 [1, 2]) (ent_mk (σ := sg [(0, 0)]) ⟨(e1 k k), (pE k k), trivial⟩ (hP k k k k <| trivial) k) <| sQ <| sQ <| rg <| am k k <| ae (w_cmp k k k) k ?_
      refine an <| tn ?_
      rcases cb h with ⟨q12, h⟩ | ⟨q12, h⟩
      ·refine ac_condT k q12 <| sQ <| rg <| aa k k <| an <| tn <| ac_ret <| then_ret ?_
       obtain rfl := so h
       exact ret_mk k k k (fz_int k)
      ·refine ac_condF k q12 <| ac_skip <| tn <| sQ <| rg <| ae (w_field_ptr TT_ok k k k k k k k) k <| ae (w_load_ptr TT_ok k k k k k k k) k <| am k k ?_
       obtain ⟨v13, hv13, h⟩ := ob h
       refine ae (w_call0s (c_laws_heldSpaceS a0.subs v11 v13 hv13) k (va_cons (va_same k) (va_cons (va_same k) va_nil))) k <| aa k k <| an <| tn <| sQ <| sQ <| rg <| am k k <| ae (w_cmp k k k) k <| an ?_
       refine tn ?_
       rcases cb h with ⟨q14, h⟩ | ⟨q14, h⟩
       ·refine ac_condT k q14 <| sQ <| rg <| aa k k <| an <| tn <| ac_ret <| then_ret ?_
        obtain rfl := so h
        exact ret_mk k k k (fz_int k)
       ·refine ac_condF k q14 <| ac_skip <| tn <| sQ <| rg <| am k k <| aa k k <| an <| tn <| ac_ret ?_
        obtain rfl := so h
        exact ret_mk k k k (fz_int k)

end Go.Proofs.Ytdhjmmnjapkmkaa
end

section
set_option linter.unusedVariables false
set_option linter.unusedSimpArgs false

namespace Go.Proofs.Ytdhjmmnjapkmkaa
open Go.RowKit
set_option linter.unusedVariables false
set_option linter.unusedSimpArgs false
def nvS {α : Type} (nv : α → Nat) : List α → Nat
 | [] => 0
 | x :: l => nv x + nvS nv l
def mvS {α : Type} (mv : Int → α → α) (nv : α → Nat) : Int → List α → List α
 | _, [] => []
 | k, x :: l => mv k x :: mvS mv nv (k + nv x) l
section
variable {α : Type} {mv : Int → α → α} {nv : α → Nat}
theorem mvS_len : ∀ (l : List α) (k : Int), (mvS mv nv k l).length = l.length
 | [], _ => rfl
 | x :: l, k => by simp [mvS, mvS_len l]
theorem nvS_app : ∀ (l m : List α), nvS nv (l ++ m) = nvS nv l + nvS nv m
 | [], m => by simp [nvS]
 | x :: l, m => by simp [nvS, nvS_app l m]; omega
theorem mvS_app : ∀ (l m : List α) (k : Int), mvS mv nv k (l ++ m) = mvS mv nv k l ++ mvS mv nv (k + nvS nv l) m
 | [], m, k => by simp [mvS, nvS]
 | x :: l, m, k => by
  simp only [List.cons_append, mvS, nvS, mvS_app l m]
  rw [show k + ((nv x + nvS nv l : Nat) : Int) = k + (nv x : Int) + (nvS nv l : Int) by omega]
theorem nvS_take {l : List α} {i : Nat} (hi : i < l.length) : nvS nv (l.take (i + 1)) = nvS nv (l.take i) + nv l[i] := by
 rw [List.take_succ_eq_append_getElem hi, nvS_app]; simp [nvS]
theorem nvS_take_le (l : List α) (i : Nat) : nvS nv (l.take i) ≤ nvS nv l := by
 have h : nvS nv (l.take i ++ l.drop i) = nvS nv l := by rw [List.take_append_drop]
 rw [nvS_app] at h; omega
theorem nvS_le {c : Nat} : ∀ {l : List α}, (∀ x ∈ l, nv x ≤ c) → nvS nv l ≤ c * l.length
 | [], _ => by simp [nvS]
 | x :: l, h => by
  have h1 := h x (by simp)
  have h2 := nvS_le (l := l) fun y hy => h y (by simp [hy])
  simp only [nvS, List.length_cons, Nat.mul_add, Nat.mul_one]; omega
theorem mvS_get {l : List α} {k : Int} {i : Nat} (hi : i < l.length) : (mvS mv nv k l)[i]? = some (mv (k + nvS nv (l.take i)) l[i]) := by
 have e : l = l.take i ++ l[i] :: l.drop (i + 1) := by rw [← List.drop_eq_getElem_cons hi, List.take_append_drop]
 have e2 : mvS mv nv k l = mvS mv nv k (l.take i) ++ mvS mv nv (k + nvS nv (l.take i)) (l[i] :: l.drop (i + 1)) := by rw [← mvS_app, ← e]
 rw [e2, List.getElem?_append_right (by rw [mvS_len]; simp; omega), mvS_len]
 simp [mvS, Nat.min_eq_left (Nat.le_of_lt hi)]
theorem mark_loop {l : List α} {k0 : Int} {body : List α × Int × Int → Option ((List α × Int × Int) ⊕ (List α × Int))} (h0 : 0 ≤ k0) (hk : k0 + nvS nv l ≤ 4611686018427387904) (hl : l.length ≤ 4611686018427387904)
  (hs : ∀ (r : List α) (i : Nat) (k : Int) (hi : i < r.length), r[i] ∈ l → 0 ≤ k → k + nv r[i] ≤ 4611686018427387904 → body (r, k, i) = some (.inl (r.set i (mv k r[i]), k + nv r[i], wr (i + 1)))) (he : ∀ r k, body (r, k, (r.length : Int)) = some (.inr (r, k))) :
  Lp body (l, k0, 0) = some (mvS mv nv k0 l, k0 + nvS nv l) := by
 rw [Lp_go (r := (mvS mv nv k0 l, k0 + nvS nv l)) (fun i => (mvS mv nv k0 (l.take i) ++ l.drop i, k0 + nvS nv (l.take i), (i : Int))) l.length (by simp [mvS, nvS]) (fun i hi => ?_) (fun _ => ?_)]
 ·have hm : (mvS mv nv k0 (l.take i)).length = i := by rw [mvS_len]; simp; omega
  have hg : (mvS mv nv k0 (l.take i) ++ l.drop i)[i]'(by simp [mvS_len]; omega) = l[i] := by
   rw [List.getElem_append_right (by omega)]
   simp [hm]
  have hb := nvS_take_le (nv := nv) l (i + 1)
  rw [nvS_take hi] at hb
  rw [hs _ i _ (by simp [mvS_len]; omega) (by rw [hg]; exact List.getElem_mem hi) (by omega) (by rw [hg]; omega), hg, wr_suc hi hl]
  congr 2
  refine Prod.ext ?_ (Prod.ext ?_ rfl)
  ·simp only
   rw [List.set_append_right _ _ (by omega), hm, Nat.sub_self, List.drop_eq_getElem_cons hi, List.set_cons_zero, List.take_succ_eq_append_getElem hi, mvS_app]
   simp [mvS]
  ·simp only
   rw [nvS_take hi]; omega
 ·have := he (mvS mv nv k0 (l.take l.length) ++ l.drop l.length) (k0 + nvS nv (l.take l.length))
  simp only [List.take_length, List.drop_length, List.append_nil, mvS_len] at this ⊢
  exact this
theorem held_loop {l : List α} {k0 : Int} {body : Int × Int → Option ((Int × Int) ⊕ (Int ⊕ Int))} (h0 : 0 ≤ k0) (hk : k0 + nvS nv l ≤ 4611686018427387904) (hl : l.length ≤ 4611686018427387904)
  (hs : ∀ (i : Nat) (hi : i < l.length) (k : Int), k = k0 + nvS nv (l.take i) → 0 ≤ k → k + nv l[i] ≤ 4611686018427387904 → body (k, i) = some (.inl (k + nv l[i], wr (i + 1)))) (he : ∀ k, body (k, (l.length : Int)) = some (.inr (.inl k))) :
  Lp body (k0, 0) = some (.inl (k0 + nvS nv l)) := by
 rw [Lp_go (r := Sum.inl (k0 + nvS nv l)) (fun i => (k0 + nvS nv (l.take i), (i : Int))) l.length (by simp [nvS]) (fun i hi => ?_) (fun _ => ?_)]
 ·have hb := nvS_take_le (nv := nv) l (i + 1)
  rw [nvS_take hi] at hb
  rw [hs i hi _ rfl (by omega) (by omega), wr_suc hi hl, nvS_take hi]
  congr 3
  omega
 ·rw [he]; simp
end
def nI (l : List Int) : Nat := nvS (fun _ => 1) l
def mvI : Int → List Int → List Int := mvS (fun k _ => k) (fun _ => 1)
theorem nI_len : ∀ l : List Int, nI l = l.length
 | [] => rfl
 | x :: l => by have := nI_len l; simp only [nI] at this; simp only [nI, nvS, List.length_cons]; omega
theorem mvI_len (k : Int) (l : List Int) : (mvI k l).length = l.length := mvS_len l k
theorem nneg {k : Int} {n : Nat} (h : 0 ≤ k) : decide (k + (n : Int) < 0) = false := decide_eq_false (by omega)
theorem mm_I {l : List Int} {k : Int} (h0 : 0 ≤ k) (hk : k + nI l ≤ 4611686018427387904) : m_laws_markIntS l k = some (mvI k l, k + nI l) := by
 have hl := nI_len l
 unfold m_laws_markIntS
 rw [mark_loop (mv := fun k _ => k) (nv := fun _ => 1) h0 hk (by omega) (fun r i k hi _ g0 g1 => ?_) (fun r k => ?_), Option.bind_some]
 ·rfl
 ·unfold m_laws_markIntS_L1
  simp only
  rw [dlt hi, cond_true, atL_nat hi, Option.bind_some, Int.toNat_natCast, wr_sm (x := k + 1) (by omega)]
  simp
 ·unfold m_laws_markIntS_L1
  simp only
  rw [dnl (Nat.le_refl _), cond_false]
theorem mh_I {l : List Int} {k : Int} (h0 : 0 ≤ k) (hk : k + nI l ≤ 4611686018427387904) : m_laws_heldIntS (mvI k l) k = some (k + nI l) := by
 have hl := nI_len l
 have hm := mvI_len k l
 unfold m_laws_heldIntS
 rw [held_loop (l := l) (nv := fun _ => 1) h0 hk (by omega) (fun i hi k' e g0 g1 => ?_) (fun k' => ?_), Option.bind_some]
 ·rfl
 ·unfold m_laws_heldIntS_L1
  simp only
  have hg : (mvI k l)[i]? = some k' := by unfold mvI; rw [mvS_get hi, e]
  rw [hm, dlt hi, cond_true, atL_nat (by omega), Option.bind_some]
  have hg' : (mvI k l)[i]'(by omega) = k' := by rw [List.getElem?_eq_getElem (by omega)] at hg; exact Option.some.inj hg
  rw [hg', decide_eq_true rfl, Bool.not_true, cond_false, wr_sm (x := k' + 1) (by omega)]
  simp
 ·unfold m_laws_heldIntS_L1
  simp only
  rw [hm, dnl (Nat.le_refl _), cond_false]
theorem get_of {α : Type} {l : List α} {i : Nat} {v : α} (h : l[i]? = some v) (hi : i < l.length) : l[i] = v := by rw [List.getElem?_eq_getElem hi] at h; exact Option.some.inj h
def nQ (q : Qv) : Nat := nI q.src + nI q.tgt
def mvQ (k : Int) (q : Qv) : Qv := ⟨q.n, mvI k q.src, mvI (k + nI q.src) q.tgt⟩
theorem mm_Q {q : Qv} {k : Int} (h0 : 0 ≤ k) (hk : k + nQ q ≤ 4611686018427387904) : m_laws_markQuiver q k = some ((mvQ k q).src, (mvQ k q).tgt, k + nQ q) := by
 unfold nQ at hk
 unfold m_laws_markQuiver
 rw [mm_I h0 (by omega), Option.bind_some, mvI_len, decide_eq_true rfl, cond_true, mm_I (by omega) (by omega), Option.bind_some, mvI_len, decide_eq_true rfl, cond_true]
 unfold mvQ nQ
 congr 3
 omega
theorem mh_Q {q : Qv} {k : Int} (h0 : 0 ≤ k) (hk : k + nQ q ≤ 4611686018427387904) : m_laws_heldQuiver (mvQ k q) k = some (k + nQ q) := by
 unfold nQ at hk
 unfold m_laws_heldQuiver mvQ
 simp only
 rw [mh_I h0 (by omega), Option.bind_some, nneg h0, cond_false, mh_I (by omega) (by omega), Option.bind_some, nneg (by omega), cond_false]
 unfold nQ
 congr 1
 omega
def nMe (m : Mt) : Nat := 2 + nI m.cells
def mvMe (k : Int) (m : Mt) : Mt := ⟨k, k + 1, mvI (k + 2) m.cells⟩
def nMs : List Mt → Nat := nvS nMe
def mvMs : Int → List Mt → List Mt := mvS mvMe nMe
theorem mvMs_len (k : Int) (l : List Mt) : (mvMs k l).length = l.length := mvS_len l k
theorem mm_Ms {l : List Mt} {k : Int} (h0 : 0 ≤ k) (hk : k + nMs l ≤ 4611686018427387904) (hl : l.length ≤ 4611686018427387904) : m_laws_markMatrixS l k = some (mvMs k l, k + nMs l) := by
 unfold m_laws_markMatrixS
 rw [mark_loop (mv := mvMe) (nv := nMe) h0 hk hl (fun r i k hi hm g0 g1 => ?_) (fun r k => ?_), Option.bind_some]
 ·rfl
 ·unfold nMe at g1
  unfold m_laws_markMatrixS_L1
  simp only
  rw [dlt hi, cond_true, atL_nat hi, Option.bind_some, wr_sm (x := k + 1) (by omega), wr_sm (x := k + 1 + 1) (by omega), show k + 1 + 1 = k + 2 by omega, mm_I (by omega) (by omega), Option.bind_some, mvI_len, decide_eq_true rfl, cond_true, Int.toNat_natCast]
  unfold mvMe nMe
  congr 4
  omega
 ·unfold m_laws_markMatrixS_L1
  simp only
  rw [dnl (Nat.le_refl _), cond_false]
theorem mh_Ms {l : List Mt} {k : Int} (h0 : 0 ≤ k) (hk : k + nMs l ≤ 4611686018427387904) (hl : l.length ≤ 4611686018427387904) : m_laws_heldMatrixS (mvMs k l) k = some (k + nMs l) := by
 have hm : (mvMs k l).length = l.length := mvS_len l k
 unfold m_laws_heldMatrixS
 rw [held_loop (l := l) (nv := nMe) h0 hk hl (fun i hi k' e g0 g1 => ?_) (fun k' => ?_), Option.bind_some]
 ·rfl
 ·unfold nMe at g1
  unfold m_laws_heldMatrixS_L1
  simp only
  rw [hm, dlt hi, cond_true, atL_nat (by omega), Option.bind_some, get_of (v := mvMe k' l[i]) (by unfold mvMs; rw [mvS_get hi, e]) (by omega)]
  unfold mvMe
  simp only [decide_true, Bool.not_true, cond_false, Option.bind_some, wr_sm (x := k' + 1) (by omega)]
  rw [wr_sm (x := k' + 1 + 1) (by omega), show k' + 1 + 1 = k' + 2 by omega, mh_I (by omega) (by omega), Option.bind_some, nneg (by omega), cond_false]
  unfold nMe
  congr 3
  omega
 ·unfold m_laws_heldMatrixS_L1
  simp only
  rw [hm, dnl (Nat.le_refl _), cond_false]
def nR (r : Rp) : Nat := nQ r.q + nI r.dims + nMs r.maps
def mvR (k : Int) (r : Rp) : Rp := ⟨r.p, mvQ k r.q, mvI (k + nQ r.q) r.dims, mvMs (k + nQ r.q + nI r.dims) r.maps⟩
theorem mm_R {r : Rp} {k : Int} (h0 : 0 ≤ k) (hk : k + nR r ≤ 4611686018427387904) (hl : r.maps.length ≤ 4611686018427387904) : m_laws_markRep r k = some ((mvR k r).q.src, (mvR k r).q.tgt, (mvR k r).dims, (mvR k r).maps, k + nR r) := by
 unfold nR at hk
 unfold m_laws_markRep
 rw [mm_Q h0 (by omega), Option.bind_some]
 simp only [mvQ, mvI_len, decide_true, cond_true]
 rw [mm_I (by omega) (by omega), Option.bind_some]
 simp only [mvI_len, decide_true, cond_true]
 rw [mm_Ms (by omega) (by omega) hl, Option.bind_some]
 simp only [mvMs_len, decide_true, cond_true]
 unfold mvR nR
 congr 5
 omega
theorem mh_R {r : Rp} {k : Int} (h0 : 0 ≤ k) (hk : k + nR r ≤ 4611686018427387904) (hl : r.maps.length ≤ 4611686018427387904) : m_laws_heldRep (mvR k r) k = some (k + nR r) := by
 unfold nR at hk
 unfold m_laws_heldRep mvR
 simp only
 rw [mh_Q h0 (by omega), Option.bind_some, nneg h0, cond_false, mh_I (by omega) (by omega), Option.bind_some, nneg (by omega), cond_false, mh_Ms (by omega) (by omega) hl, Option.bind_some, nneg (by omega), cond_false]
 unfold nR
 congr 1
 omega
theorem mvR_len (k : Int) (r : Rp) : (mvR k r).q.src.length = r.q.src.length ∧ (mvR k r).q.tgt.length = r.q.tgt.length ∧ (mvR k r).dims.length = r.dims.length ∧ (mvR k r).maps.length = r.maps.length := ⟨mvI_len _ _, mvI_len _ _, mvI_len _ _, mvMs_len _ _⟩
theorem nMs_bd {l : List Mt} (h : l.length ≤ 1048576 ∧ ∀ m ∈ l, bM m) : nMs l ≤ 2097152 * 1048576 := by
 have := nvS_le (nv := nMe) (c := 2097152) (l := l) fun m hm => by have := (h.2 m hm).1; unfold bI at this; unfold nMe; rw [nI_len]; omega
 unfold nMs
 calc nvS nMe l ≤ 2097152 * l.length := this
  _ ≤ 2097152 * 1048576 := Nat.mul_le_mul_left _ h.1
theorem nR_bd {r : Rp} (h : bR r) : nR r ≤ 4398046511104 := by
 obtain ⟨⟨h1, h2, _⟩, h3, h4, _⟩ := h
 have := nMs_bd h4
 unfold bI at h1 h2 h3
 unfold nR nQ
 rw [nI_len, nI_len, nI_len]
 omega
end Go.Proofs.Ytdhjmmnjapkmkaa
end

/-
  The statement of the law FnStable: for all bytes the law returns true, and the bytes read afterwards as before. No condition.
-/
import Derived.Test.YtppgeohlmkgpbaaGreatRows
import Derived.Test.YtppgeohlmkgpbaaGreatM16
set_option linter.unusedVariables false
set_option linter.unusedSimpArgs false
namespace Go.Proofs.YtppgeohlmkgpbaaGreat
open Go.RowKit
section
open Go.ChangeShapes Go.WideShapes Go.ChangeAt Go.RowKit
theorem aBE{w:World}:RepVs w [] [] []:=by unfold RepVs;exact⟨rfl,rfl⟩
theorem YV{w:World}{c:AV}{cs:aH}{v:Value}{vs:List Value}{S T:List Nat}(h:RepD w c v S)(k:RepVs w cs vs T):RepVs w (c::cs) (v::vs) (S++T):=by unfold RepVs;exact⟨v,vs,S,T,rfl,rfl,h,k⟩
theorem Wx(a0:Option Addr)(len0 cap0:Nat)(x0:aA)(S0:List Nat)(W:World)(w0:SliceRd (Vg 1 eU) W a0 len0 cap0 x0 S0):
  Calls Tryz.prog 3 #[.slice a0 len0 cap0] W λe W'=>e= .returned (.bool true)/\Below W.heap.size W W':=by
 have h0:RepD W (.list 1 (x0.map eU)) (.slice a0 len0 cap0) S0:=aEV w0;refine((PL x0 true Uw).calls W #[.slice a0 len0 cap0] (S0++[]) (YV h0 (aBE))).mono ?_;rintro e W' ⟨v,S',rfl,hb,hr,_⟩;exact⟨aCU (w0:=W) hr,hb⟩
theorem YW:ownKnob Tryz.prog.godebug=none:=by kernel_rfl
theorem Rb:laidOutB Tryz.prog=true:=by kernel_rfl
set_option maxRecDepth 100000 in
theorem SB(os:Os)(started:os.Started)(H:Type)(enc:TypeId×Value->H):
  ReturnsInHanded {} Tryz.checked os 3 .any (Rows.fnStableSpec.pre6 enc Tryz.prog Tryz.f3 Rows.fnStableRow.domain false) (Rows.fnStableSpec.post enc Tryz.prog Tryz.f3 false true false false):=by
 refine returnsInHanded_of_change (C:=Tryz.checked) YW started (by kernel_rfl) Tryz.func3
  (ChangeSpec.witness6 (enc:=enc) (C:=Tryz.checked) false ⟨#[],#[.slice none 0 0],[]⟩ 8 (by kernel_rfl) (by kernel_rfl) (by kernel_rfl) (by kernel_rfl)) ?_
 intro W base args ds gs before hval0 hW hcnd _;have hval:∀(j:Nat) t v,Tryz.f3.params[j]? =some t->args[j]? =some v->Value.okWide Tryz.prog W .any base t v:=hval0;have hW':=hW;obtain⟨p,q,hA0,hV,rfl,hfz,hnd⟩:=hW;have hA:DataW.TrodAll enc Tryz.prog W 0 (λ_=>true) true Tryz.f3.params.toList args.toList ds p:=hA0;rw[Tryz.params3]at hA hval;obtain⟨v0,vs0,d0,ds0,p0,q0,hargs,rfl,rfl,h0,r0⟩:=trodAll_cons hA;obtain⟨rfl,rfl,rfl⟩:=trodAll_nil r0;obtain rfl:args= #[v0]:=by cases args;simp_all
 obtain⟨rfl,rfl⟩:=trodVars_none hV;have k0:=h0;have lt0:∀x∈p0,x.block<W.heap.size:=by obtain⟨m,hm⟩:=k0;exact DataW.trod_lt m _ _ _ hm
 have fz0:W.noneFrozen p0:=λb jL hm=>hfz b jL (by simp[hm]);obtain⟨a0,len0,cap0,rfl⟩:=okWide_slice Tryz.underlying22 (hval 0 22 v0 rfl rfl);obtain⟨fu0,hf0⟩:=h0;obtain⟨l0,S0,a0',n0',c0',hc0,w0⟩:=(Vf Tryz.underlying22 (by kernel_rfl) (Sj (by decide)) oU) H enc W fu0 _ d0 p0 hf0 fz0;simp[Value.cells]at hc0;obtain⟨rfl,rfl,rfl⟩:=hc0;clear hA0 hval0;refine(Wx a0 len0 cap0 l0 S0 W w0).mono λe W' ⟨he,bel⟩=>?_;subst he;exact⟨_,rfl,_,_,_,[],_,[],hW',trodAll_mk1 (shut_bool Tryz.underlying4 _),(trodAll_cons_mk (Below.trod Rb (by kernel_rfl) (of_decide_eq_true (by kernel_rfl)) k0 bel lt0) trodAll_mk0),rfl,bel.frame _,λh=>by cases h⟩
theorem YX:laidOutB Tryz.pinned.checked.prog=true:=by kernel_rfl
theorem YY:mapsRowed Tryz.pinned.checked.prog=true:=by kernel_rfl
theorem YZ:(Rows.fnStableRow.inPlace==Tryz.pinned.checked.prog.inPlace 3)=true:=by kernel_rfl
theorem Ya:(Rows.fnStableRow.unfollowed==Tryz.pinned.checked.prog.unfollowed 3)=true:=by kernel_rfl
theorem Yb:(Rows.fnStableRow.recurses==Tryz.pinned.checked.prog.recurses 3)=true:=by kernel_rfl
theorem Yc:(Rows.fnStableRow.named==Tryz.pinned.checked.prog.varsNamed 3)=true:=by kernel_rfl
theorem SC:joinedFacts Tryz.pinned.checked.prog 3 Tryz.f3 Rows.fnStableSpec Rows.fnStableRow=true:=by
 unfold joinedFacts;simp only[bX]
 repeat' apply And.intro
 all_goals (with_reducible first|exact YX|exact YY|exact YZ|exact Ya|exact Yb|exact Yc|skip)
 all_goals kernel_rfl
theorem proved_Stable:Rows.FnStableSaid:=
 OpenClaim.holds_of_wide 3 Tryz.f3 rfl rfl rfl rfl rfl rfl rfl ⟨rfl,rfl,rfl,rfl,rfl⟩ rfl rfl rfl rfl rfl (by kernel_rfl) Tryz.func3 SC
  (of_decide_eq_true (by kernel_rfl)) (by unfold Func.isWrapper;first|(rw[aP (by decide+kernel)];kernel_rfl)|(rw[aQ (by decide+kernel)];exact⟨rfl,rfl⟩))
  (λos started H enc _=>SB os started H enc)
#print axioms proved_Stable
end
end Go.Proofs.YtppgeohlmkgpbaaGreat

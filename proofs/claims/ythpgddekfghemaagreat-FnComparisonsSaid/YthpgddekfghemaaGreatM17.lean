/-
  The statement of the law FnComparisons: for all bytes the law returns true, and the bytes read afterwards as before. No condition.
-/
import Derived.Test.YthpgddekfghemaaGreatRows
import Derived.Test.YthpgddekfghemaaGreatM16
set_option linter.unusedVariables false
set_option linter.unusedSimpArgs false
set_option linter.defProp false
namespace Go.Proofs.YthpgddekfghemaaGreat
open Go.RowKit
variable{w:World}{cs:List AV}{v:Value}{vs:List Value}{S:List Nat}
section
open Go.ChangeShapes Go.WideShapes Go.ChangeAt Go.RowKit
def Xk:RepVs w [] [] []:=by unfold RepVs;exact⟨rfl,rfl⟩
def Uz{c T}(h:RepD w c v S)(k:RepVs w cs vs T):RepVs w (c::cs) (v::vs) (S++T):=by unfold RepVs;exact⟨v,vs,S,T,rfl,rfl,h,k⟩
def LF(a0)(len0 cap0)(x0)(S0)(W)(w0:SliceRd (Ry 1 eU) W a0 len0 cap0 x0 S0):Calls Tryz.prog 3 #[.slice a0 len0 cap0] W λe W'=>e= .returned (.bool true)/\Below W.heap.size W W':=by
 have h0:RepD W (.list 1 (x0.map eU)) (.slice a0 len0 cap0) S0:=aAG w0;refine((HV x0 true KP).calls W #[.slice a0 len0 cap0] (S0++[]) (Uz h0 (Xk))).mono ?_;rintro e W' ⟨v,S',rfl,hb,hr,_⟩;exact⟨ZI (w0:=W) hr,hb⟩
def MD:ownKnob Tryz.prog.godebug=none:=by kernel_rfl
def IU:laidOutB Tryz.prog=true:=by kernel_rfl
set_option maxRecDepth 100000 in
def JS(os)(started:os.Started)(H:Type)(enc:TypeId×Value->H):ReturnsInHanded {} Tryz.checked os 3 .any (Rows.fnComparisonsSpec.pre6 enc Tryz.prog Tryz.f3 Rows.fnComparisonsRow.domain false) (Rows.fnComparisonsSpec.post enc Tryz.prog Tryz.f3 false true false false):=by
 refine returnsInHanded_of_change (C:=Tryz.checked) MD started (by kernel_rfl) Tryz.func3
  (ChangeSpec.witness6 (enc:=enc) (C:=Tryz.checked) false ⟨#[],#[.slice none 0 0],[]⟩ 8 (by kernel_rfl) (by kernel_rfl) (by kernel_rfl) (by kernel_rfl)) ?_
 intro W base args ds gs before hval0 hW hcnd _;have hval:∀(j:Nat) t v,Tryz.f3.params[j]? =some t->args[j]? =some v->Value.okWide Tryz.prog W .any base t v:=hval0;have hW':=hW;obtain⟨p,q,hA0,hV,rfl,hfz,hnd⟩:=hW;have hA:DataW.TrodAll enc Tryz.prog W 0 (λ_=>true) true Tryz.f3.params.toList args.toList ds p:=hA0;rw[Tryz.params3]at hA hval;obtain⟨v0,vs0,d0,ds0,p0,q0,hargs,rfl,rfl,h0,r0⟩:=trodAll_cons hA;obtain⟨rfl,rfl,rfl⟩:=trodAll_nil r0;obtain rfl:args= #[v0]:=by cases args;simp_all
 obtain⟨rfl,rfl⟩:=trodVars_none hV;have k0:=h0;have lt0:∀x∈p0,x.block<W.heap.size:=by obtain⟨m,hm⟩:=k0;exact DataW.trod_lt m _ _ _ hm
 have fz0:W.noneFrozen p0:=λb fD hm=>hfz b fD (by simp[hm]);obtain⟨a0,len0,cap0,rfl⟩:=okWide_slice Tryz.underlying22 (hval 0 22 v0 rfl rfl);obtain⟨fu0,hf0⟩:=h0;obtain⟨l0,S0,a0',n0',c0',hc0,w0⟩:=(Rx Tryz.underlying22 (by kernel_rfl) (PE (by decide)) oU) H enc W fu0 _ d0 p0 hf0 fz0;simp[Value.cells]at hc0;obtain⟨rfl,rfl,rfl⟩:=hc0;clear hA0 hval0;refine(LF a0 len0 cap0 l0 S0 W w0).mono λe W' ⟨he,bel⟩=>?_;subst he;exact⟨_,rfl,_,_,_,[],_,[],hW',trodAll_mk1 (shut_bool Tryz.underlying4 _),(trodAll_cons_mk (Below.trod IU (by kernel_rfl) (of_decide_eq_true (by kernel_rfl)) k0 bel lt0) trodAll_mk0),rfl,bel.frame _,λh=>by cases h⟩
def ME:laidOutB Tryz.pinned.checked.prog=true:=by kernel_rfl
def MF:mapsRowed Tryz.pinned.checked.prog=true:=by kernel_rfl
def MG:(Rows.fnComparisonsRow.inPlace==Tryz.pinned.checked.prog.inPlace 3)=true:=by kernel_rfl
def MH:(Rows.fnComparisonsRow.unfollowed==Tryz.pinned.checked.prog.unfollowed 3)=true:=by kernel_rfl
def MI:(Rows.fnComparisonsRow.recurses==Tryz.pinned.checked.prog.recurses 3)=true:=by kernel_rfl
def MJ:(Rows.fnComparisonsRow.named==Tryz.pinned.checked.prog.varsNamed 3)=true:=by kernel_rfl
def JT:joinedFacts Tryz.pinned.checked.prog 3 Tryz.f3 Rows.fnComparisonsSpec Rows.fnComparisonsRow=true:=by
 unfold joinedFacts;simp only[cB]
 repeat' apply And.intro
 all_goals (with_reducible first|exact ME|exact MF|exact MG|exact MH|exact MI|exact MJ|skip)
 all_goals kernel_rfl
theorem proved_Comparisons:Rows.FnComparisonsSaid:=
 OpenClaim.holds_of_wide 3 Tryz.f3 rfl rfl rfl rfl rfl rfl rfl ⟨rfl,rfl,rfl,rfl,rfl⟩ rfl rfl rfl rfl rfl (by kernel_rfl) Tryz.func3 JT
  (of_decide_eq_true (by kernel_rfl)) (by unfold Func.isWrapper;first|(rw[aM (by decide+kernel)];kernel_rfl)|(rw[aN (by decide+kernel)];exact⟨rfl,rfl⟩))
  (λos started H enc _=>JS os started H enc)
#print axioms proved_Comparisons
end
end Go.Proofs.YthpgddekfghemaaGreat

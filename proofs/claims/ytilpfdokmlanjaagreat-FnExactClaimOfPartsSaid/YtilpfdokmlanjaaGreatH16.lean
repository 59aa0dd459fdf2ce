/-
  The statement of the law FnExactClaimOfParts: for all arguments the law returns true, and each argument reads afterwards as before. No condition.
-/
import Derived.Test.YtilpfdokmlanjaaGreatRows
import Derived.Test.YtilpfdokmlanjaaGreatH15
set_option linter.unusedVariables false
set_option linter.unusedSimpArgs false
namespace Go.Proofs.YtilpfdokmlanjaaGreat
open Go.RowKit
noncomputable section
open Go.ChangeShapes Go.WideShapes Go.ChangeAt Go.RowKit
theorem aTM {w:World} :RepVs w [] [] []:=by unfold RepVs;exact ⟨rfl,rfl⟩
theorem aRI {w:World} {c:AV} {cs:List AV} {v:Value} {vs:List Value} {S T:List Nat} (h:RepD w c v S) (k:RepVs w cs vs T):RepVs w (c::cs) (v::vs) (S++T):=by unfold RepVs;exact ⟨v,vs,S,T,rfl,rfl,h,k⟩
theorem aHU (cs0:Array Value) (x0:Rp) (S0:List Nat) (W:World) (w0:(aDN 6 eR).rd W cs0.toList x0 S0):
  Calls Tryz.prog 6 #[.agg cs0] W λe W'=>e= .returned (.bool true)∧Below W.heap.size W W':=by
 have h0:RepD W (.agg (eR x0)) (.agg cs0) S0:=by unfold RepD;exact ⟨cs0.toList,by simp,w0.1⟩
 refine ((aCU x0 true (aGW (aYC (aRe w0.1)))).calls W #[.agg cs0] (S0++[]) (aRI h0 (aTM))).mono ?_;rintro e W' ⟨v,S',rfl,hb,hr,_⟩;exact ⟨aUE (w0:=W) hr,hb⟩
theorem aIR:ownKnob Tryz.prog.godebug=none:=by kernel_rfl
theorem aFA:laidOutB Tryz.prog=true:=by kernel_rfl
set_option maxRecDepth 100000 in
theorem aFe (os:Os) (started:os.Started) (H:Type) (enc:TypeId×Value→H):
  ReturnsInHanded {} Tryz.checked os 6 .any (Rows.fnExactClaimOfPartsSpec.pre6 enc Tryz.prog Tryz.f6 Rows.fnExactClaimOfPartsRow.domain false) (Rows.fnExactClaimOfPartsSpec.post enc Tryz.prog Tryz.f6 false true false false):=by
 refine returnsInHanded_of_change (C:=Tryz.checked) aIR started (by kernel_rfl) Tryz.func6
  (ChangeSpec.witness6 (enc:=enc) (C:=Tryz.checked) false ⟨#[],#[.agg #[.int .i64 0,.int .i64 0,.slice none 0 0,.slice none 0 0,.slice none 0 0,.slice none 0 0]],[]⟩ 8 (by kernel_rfl) (by kernel_rfl) (by kernel_rfl) (by kernel_rfl)) ?_
 intro W base args ds gs before hval0 hW hcnd _;have hval: ∀ (j:Nat) t v,Tryz.f6.params[j]? =some t→args[j]? =some v→Value.okWide Tryz.prog W .any base t v:=hval0;have hW':=hW;obtain ⟨p,q,hA0,hV,rfl,hfz,hnd⟩:=hW;have hA:DataW.TrodAll enc Tryz.prog W 0 (λ_=>true) true Tryz.f6.params.toList args.toList ds p:=hA0;rw [Tryz.params6] at hA hval;obtain ⟨v0,vs0,d0,ds0,p0,q0,hargs,rfl,rfl,h0,r0⟩:=trodAll_cons hA;obtain ⟨rfl,rfl,rfl⟩:=trodAll_nil r0;obtain rfl:args= #[v0]:=by cases args;simp_all
 obtain ⟨rfl,rfl⟩:=trodVars_none hV;have k0:=h0;have lt0: ∀ x∈p0,x.block<W.heap.size:=by obtain ⟨m,hm⟩:=k0;exact DataW.trod_lt m _ _ _ hm
 have fz0:W.noneFrozen p0:=λb off hm=>hfz b off (by simp [hm]);obtain ⟨cs0,rfl, -⟩:=okWide_struct Tryz.underlying43 (hval 0 43 v0 rfl rfl);obtain ⟨fu0,hf0⟩:=h0;obtain ⟨x0,S0,w0⟩:=oR H enc W fu0 _ d0 p0 hf0 fz0;clear hA0 hval0;refine (aHU cs0 x0 S0 W w0).mono λe W' ⟨he,bel⟩=>?_;subst he;exact ⟨_,rfl,_,_,_,[],_,[],hW',trodAll_mk1 (shut_bool Tryz.underlying4 _),(trodAll_cons_mk (Below.trod aFA (by kernel_rfl) (of_decide_eq_true (by kernel_rfl)) k0 bel lt0) trodAll_mk0),rfl,bel.frame _,λh=>by cases h⟩
theorem aIS:laidOutB Tryz.pinned.checked.prog=true:=by kernel_rfl
theorem aIT:mapsRowed Tryz.pinned.checked.prog=true:=by kernel_rfl
theorem aIU:(Rows.fnExactClaimOfPartsRow.inPlace==Tryz.pinned.checked.prog.inPlace 6)=true:=by kernel_rfl
theorem aIV:(Rows.fnExactClaimOfPartsRow.unfollowed==Tryz.pinned.checked.prog.unfollowed 6)=true:=by kernel_rfl
theorem aIW:(Rows.fnExactClaimOfPartsRow.recurses==Tryz.pinned.checked.prog.recurses 6)=true:=by kernel_rfl
theorem aIX:(Rows.fnExactClaimOfPartsRow.named==Tryz.pinned.checked.prog.varsNamed 6)=true:=by kernel_rfl
theorem aFf:joinedFacts Tryz.pinned.checked.prog 6 Tryz.f6 Rows.fnExactClaimOfPartsSpec Rows.fnExactClaimOfPartsRow=true:=by
 unfold joinedFacts;simp only [dD]
 repeat' apply And.intro
 all_goals (with_reducible first|exact aIS|exact aIT|exact aIU|exact aIV|exact aIW|exact aIX|skip)
 all_goals kernel_rfl
theorem proved_ClaimOfParts:Rows.FnExactClaimOfPartsSaid:=
 OpenClaim.holds_of_wide 6 Tryz.f6 rfl rfl rfl rfl rfl rfl rfl ⟨rfl,rfl,rfl,rfl,rfl⟩ rfl rfl rfl rfl rfl (by kernel_rfl) Tryz.func6 aFf
  (of_decide_eq_true (by kernel_rfl)) (by unfold Func.isWrapper;first|(rw [aW (by decide+kernel)];kernel_rfl)|(rw [aZ (by decide+kernel)];exact ⟨rfl,rfl⟩))
  (λos started H enc _=>aFe os started H enc)
#print axioms proved_ClaimOfParts
end
end Go.Proofs.YtilpfdokmlanjaaGreat

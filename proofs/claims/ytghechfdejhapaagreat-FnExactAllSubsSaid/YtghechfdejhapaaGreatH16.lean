/-
  The statement of the law FnExactAllSubs: for all arguments the law returns true, and each argument reads afterwards as before. No condition.
-/
import Derived.Test.YtghechfdejhapaaGreatRows
import Derived.Test.YtghechfdejhapaaGreatH15
set_option linter.unusedVariables false
set_option linter.unusedSimpArgs false
namespace Go.Proofs.YtghechfdejhapaaGreat
open Go.RowKit
noncomputable section
open Go.ChangeShapes Go.WideShapes Go.ChangeAt Go.RowKit
theorem aOp {w:World} :RepVs w [] [] []:=by unfold RepVs;exact ⟨rfl,rfl⟩
theorem aMz {w:World} {c:AV} {cs:List AV} {v:Value} {vs:List Value} {S T:List Nat} (h:RepD w c v S) (k:RepVs w cs vs T):RepVs w (c::cs) (v::vs) (S++T):=by unfold RepVs;exact ⟨v,vs,S,T,rfl,rfl,h,k⟩
theorem aKa (cs0:Array Value) (x0:Rp) (S0:List Nat) (W:World) (w0:(aAV 6 eR).rd W cs0.toList x0 S0):
  Calls Tryz.prog 8 #[.agg cs0] W fun e W'=>e= .returned (.bool true)∧Below W.heap.size W W':=by
 have h0:RepD W (.agg (eR x0)) (.agg cs0) S0:=by unfold RepD;exact ⟨cs0.toList,by simp,w0.1⟩
 refine ((aBG x0 true (aIZ (aSn (aNY w0.1)))).calls W #[.agg cs0] (S0++[]) (aMz h0 (aOp))).mono ?_
 rintro e W' ⟨v,S',rfl,hb,hr,_⟩
 exact ⟨aPo (w0:=W) hr,hb⟩
theorem aLt:ownKnob Tryz.prog.godebug=none:=by kernel_rfl
theorem aGV:laidOutB Tryz.prog=true:=by kernel_rfl
set_option maxRecDepth 100000 in
theorem aII (os:Os) (started:os.Started) (H:Type) (enc:TypeId×Value→H):
  ReturnsInHanded {} Tryz.checked os 8 .any (Rows.fnExactAllSubsSpec.pre6 enc Tryz.prog Tryz.f8 Rows.fnExactAllSubsRow.domain false) (Rows.fnExactAllSubsSpec.post enc Tryz.prog Tryz.f8 false true false false):=by
 refine returnsInHanded_of_change (C:=Tryz.checked) aLt started (by kernel_rfl) Tryz.func8
  (ChangeSpec.witness6 (enc:=enc) (C:=Tryz.checked) false ⟨#[],#[.agg #[.int .i64 0,.int .i64 0,.slice none 0 0,.slice none 0 0,.slice none 0 0,.slice none 0 0]],[]⟩ 8 (by kernel_rfl) (by kernel_rfl) (by kernel_rfl) (by kernel_rfl)) ?_
 intro W base args ds gs before hval0 hW hcnd _
 have hval: ∀ (j:Nat) t v,Tryz.f8.params[j]? =some t→args[j]? =some v→Value.okWide Tryz.prog W .any base t v:=hval0
 have hW':=hW
 obtain ⟨p,q,hA0,hV,rfl,hfz,hnd⟩:=hW
 have hA:DataW.TrodAll enc Tryz.prog W 0 (fun _=>true) true Tryz.f8.params.toList args.toList ds p:=hA0
 rw [Tryz.params8] at hA hval
 obtain ⟨v0,vs0,d0,ds0,p0,q0,hargs,rfl,rfl,h0,r0⟩:=trodAll_cons hA
 obtain ⟨rfl,rfl,rfl⟩:=trodAll_nil r0
 obtain rfl:args= #[v0]:=by cases args;simp_all
 obtain ⟨rfl,rfl⟩:=trodVars_none hV
 have k0:=h0
 have lt0: ∀ x∈p0,x.block<W.heap.size:=by obtain ⟨m,hm⟩:=k0;exact DataW.trod_lt m _ _ _ hm
 have fz0:W.noneFrozen p0:=fun b off hm=>hfz b off (by simp [hm])
 obtain ⟨cs0,rfl, -⟩:=okWide_struct Tryz.underlying27 (hval 0 27 v0 rfl rfl)
 obtain ⟨fu0,hf0⟩:=h0
 obtain ⟨x0,S0,w0⟩:=oR H enc W fu0 _ d0 p0 hf0 fz0
 clear hA0 hval0
 refine (aKa cs0 x0 S0 W w0).mono fun e W' ⟨he,bel⟩=>?_
 subst he
 exact ⟨_,rfl,_,_,_,[],_,[],hW',trodAll_mk1 (shut_bool Tryz.underlying4 _),(trodAll_cons_mk (Below.trod aGV (by kernel_rfl) (of_decide_eq_true (by kernel_rfl)) k0 bel lt0) trodAll_mk0),rfl,bel.frame _,fun h=>by cases h⟩
theorem aLu:laidOutB Tryz.pinned.checked.prog=true:=by kernel_rfl
theorem aLv:mapsRowed Tryz.pinned.checked.prog=true:=by kernel_rfl
theorem aLw:(Rows.fnExactAllSubsRow.inPlace==Tryz.pinned.checked.prog.inPlace 8)=true:=by kernel_rfl
theorem aLx:(Rows.fnExactAllSubsRow.unfollowed==Tryz.pinned.checked.prog.unfollowed 8)=true:=by kernel_rfl
theorem aLy:(Rows.fnExactAllSubsRow.recurses==Tryz.pinned.checked.prog.recurses 8)=true:=by kernel_rfl
theorem aLz:(Rows.fnExactAllSubsRow.named==Tryz.pinned.checked.prog.varsNamed 8)=true:=by kernel_rfl
theorem aIJ:joinedFacts Tryz.pinned.checked.prog 8 Tryz.f8 Rows.fnExactAllSubsSpec Rows.fnExactAllSubsRow=true:=by
 unfold joinedFacts
 simp only [Bool.and_eq_true]
 repeat' apply And.intro
 all_goals (with_reducible first|exact aLu|exact aLv|exact aLw|exact aLx|exact aLy|exact aLz|skip)
 all_goals kernel_rfl
theorem proved_AllSubs:Rows.FnExactAllSubsSaid:=
 OpenClaim.holds_of_wide 8 Tryz.f8 rfl rfl rfl rfl rfl rfl rfl ⟨rfl,rfl,rfl,rfl,rfl⟩ rfl rfl rfl rfl rfl (by kernel_rfl) Tryz.func8 aIJ
  (of_decide_eq_true (by kernel_rfl)) (by unfold Func.isWrapper;first|(rw [if_pos (by decide+kernel)];kernel_rfl)|(rw [if_neg (by decide+kernel)];exact ⟨rfl,rfl⟩))
  (fun os started H enc _=>aII os started H enc)
#print axioms proved_AllSubs
end
end Go.Proofs.YtghechfdejhapaaGreat

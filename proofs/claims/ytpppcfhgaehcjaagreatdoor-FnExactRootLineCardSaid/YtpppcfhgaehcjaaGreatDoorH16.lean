/-
  The statement of the law FnExactRootLine: for all arguments the law returns true, and each argument reads afterwards as before. No condition.
-/
import Derived.Test.YtpppcfhgaehcjaaGreatDoorRows
import Derived.Test.YtpppcfhgaehcjaaGreatDoorTie
import Derived.Test.YtpppcfhgaehcjaaGreatDoorCards
import Derived.ProofKit
import Derived.LaidMore
import Derived.OpenShut
import Derived.Stop.Joined
import Derived.SevenTiedAt
import Derived.Test.YtpppcfhgaehcjaaGreatDoorH15
set_option linter.unusedVariables false
set_option linter.unusedSimpArgs false
namespace Go.Proofs.YtpppcfhgaehcjaaGreatDoor
open Go.RowKit
noncomputable section
open Go.ChangeShapes Go.WideShapes Go.ChangeAt Go.RowKit
theorem aIR {w:World} :RepVs w [] [] []:=by unfold RepVs;exact ⟨rfl,rfl⟩
theorem aGf {w:World} {c:AV} {cs:List AV} {v:Value} {vs:List Value} {S T:List Nat} (h:RepD w c v S) (k:RepVs w cs vs T):RepVs w (c::cs) (v::vs) (S++T):=by unfold RepVs;exact ⟨v,vs,S,T,rfl,rfl,h,k⟩
theorem aCG (cs0:Array Value) (x0:Qv) (S0:List Nat) (W:World) (w0:(uA 3 eQ).rd W cs0.toList x0 S0):
  Calls Tryz.prog 3 #[.agg cs0] W λe W'=>e= .returned (.bool true)∧Below W.heap.size W W':=by
 have h0:RepD W (.agg (eQ x0)) (.agg cs0) S0:=by unfold RepD;exact ⟨cs0.toList,by simp,w0.1⟩
 refine ((tI x0 true (aBw (aNH (aHC w0.1)))).calls W #[.agg cs0] (S0++[]) (aGf h0 (aIR))).mono ?_;rintro e W' ⟨v,S',rfl,hb,hr,_⟩;exact ⟨aJb (w0:=W) hr,hb⟩
theorem aDx:ownKnob Tryz.prog.godebug=none:=by kernel_rfl
theorem zH:laidOutB Tryz.prog=true:=by kernel_rfl
theorem xV (os:Os) (args:Array Value):laidMetH Tryz.prog Rows.fnExactRootLineRow.laid ((World.doorLaid Tryz.prog 24 os).forCall (λ_ _=>0) ⟨#[],args,[]⟩).memory:=
 laidMetH_of_parts3 (fuel:=8) (laidMet_of_run' 8 (by kernel_rfl) (by kernel_rfl)) (by kernel_rfl) (by kernel_rfl)
set_option maxRecDepth 100000 in
theorem aAR (os:Os) (started:os.Started) (H:Type) (enc:TypeId×Value→H):
  ReturnsInHanded {} Tryz.checked os 3 .any (λw args=>(Rows.fnExactRootLineSpec.pre enc Tryz.prog Tryz.f3 [] false w args∧laidMetH Tryz.prog Rows.fnExactRootLineRow.laid w)∧sizedMet enc Tryz.prog Tryz.f3 (OpenSpec.ofChange Rows.fnExactRootLineSpec) false w args) (Rows.fnExactRootLineSpec.post enc Tryz.prog Tryz.f3 false true false false):=by
 refine returnsInHanded_of_change_and (C:=Tryz.checked) (X:=λw _=>laidMetH Tryz.prog Rows.fnExactRootLineRow.laid w) (λ_ _ _ hh h=>h.of_heap hh) aDx started (by kernel_rfl) Tryz.func3
  (ChangeSpec.witness_shaped (enc:=enc) (C:=Tryz.checked) (os:=os) (X:=λw _=>laidMetH Tryz.prog Rows.fnExactRootLineRow.laid w) false (World.doorLaid Tryz.prog 24 os) #[.agg #[.int .i64 0,.slice none 0 0,.slice none 0 0]] 8 rfl (World.shaped_of_RefB (by kernel_rfl) (by kernel_rfl)) (by kernel_rfl) (by kernel_rfl) (by kernel_rfl) (xV os _)) ?_
 intro W base args ds gs before hval0 hW hcnd _ _ _;have hval: ∀ (j:Nat) t v,Tryz.f3.params[j]? =some t→args[j]? =some v→Value.okWide Tryz.prog W .any base t v:=hval0;have hW':=hW;obtain ⟨p,q,hA0,hV,rfl,hfz,hnd⟩:=hW;have hA:DataW.TrodAll enc Tryz.prog W 0 (λ_=>true) true Tryz.f3.params.toList args.toList ds p:=hA0;rw [Tryz.params3] at hA hval;obtain ⟨v0,vs0,d0,ds0,p0,q0,hargs,rfl,rfl,h0,r0⟩:=trodAll_cons hA;obtain ⟨rfl,rfl,rfl⟩:=trodAll_nil r0;obtain rfl:args= #[v0]:=by cases args;simp_all
 obtain ⟨rfl,rfl⟩:=trodVars_none hV;have k0:=h0;have lt0: ∀ x∈p0,x.block<W.heap.size:=by obtain ⟨m,hm⟩:=k0;exact DataW.trod_lt m _ _ _ hm
 have fz0:W.noneFrozen p0:=λb off hm=>hfz b off (by simp [hm]);obtain ⟨cs0,rfl, -⟩:=okWide_struct Tryz.underlying24 (hval 0 24 v0 rfl rfl);obtain ⟨fu0,hf0⟩:=h0;obtain ⟨x0,S0,w0⟩:=oQ H enc W fu0 _ d0 p0 hf0 fz0;clear hA0 hval0;refine (aCG cs0 x0 S0 W w0).mono λe W' ⟨he,bel⟩=>?_;subst he;exact ⟨_,rfl,_,_,_,[],_,[],hW',trodAll_mk1 (shut_bool Tryz.underlying4 _),(trodAll_cons_mk (Below.trod zH (by kernel_rfl) (of_decide_eq_true (by kernel_rfl)) k0 bel lt0) trodAll_mk0),rfl,bel.frame _,λh=>by cases h⟩
theorem aDy:laidOutB Tryz.pinned.checked.prog=true:=by kernel_rfl
theorem aDz:mapsRowed Tryz.pinned.checked.prog=true:=by kernel_rfl
theorem aEA:(Rows.fnExactRootLineRow.inPlace==Tryz.pinned.checked.prog.inPlace 3)=true:=by kernel_rfl
theorem aEB:(Rows.fnExactRootLineRow.unfollowed==Tryz.pinned.checked.prog.unfollowed 3)=true:=by kernel_rfl
theorem aEC:(Rows.fnExactRootLineRow.recurses==Tryz.pinned.checked.prog.recurses 3)=true:=by kernel_rfl
theorem aED:(Rows.fnExactRootLineRow.named==Tryz.pinned.checked.prog.varsNamed 3)=true:=by kernel_rfl
theorem aAS:joinedFacts Tryz.pinned.checked.prog 3 Tryz.f3 Rows.fnExactRootLineSpec Rows.fnExactRootLineRow=true:=by
 unfold joinedFacts;simp only [cA]
 repeat' apply And.intro
 all_goals (with_reducible first|exact aDy|exact aDz|exact aEA|exact aEB|exact aEC|exact aED|skip)
 all_goals kernel_rfl
theorem aCH:Rows.FnExactRootLineSaid:=
 OpenClaim.holds_of_wide 3 Tryz.f3 rfl rfl rfl rfl rfl rfl rfl ⟨rfl,rfl,rfl,rfl,rfl⟩ rfl rfl rfl rfl rfl (by kernel_rfl) Tryz.func3 aAS
  (of_decide_eq_true (by kernel_rfl)) (by unfold Func.isWrapper;first|(rw [bD (by decide+kernel)];kernel_rfl)|(rw [aZ (by decide+kernel)];exact ⟨rfl,rfl⟩))
  (λos started H enc _=>aAR os started H enc)
theorem proved_RootLine:Rows.FnExactRootLineCardSaid:=
 Claim7.holds_tied_plain_at .later [] [.data,.data,.data] true (true, "4b2dca912eb09f653a20da10e8fc020e2841d5df3abea7e04e641ff105a0d5ad") false
  aCH (λ_ h=>by cases h) (by kernel_rfl) (λ_ h=>by cases h) fnExactRootLine_row_tie rfl ⟨rfl,rfl⟩ (by kernel_rfl) rfl
  (λf fn hf hfn=>by
   obtain rfl:f=3:=Option.some.inj ((show Tryz.prog.funcNamed "loop.example/g03404/laws.FnExactRootLine" =some 3 by kernel_rfl).symm.trans hf) |>.symm;obtain rfl:fn=Tryz.f3:=(Option.some.inj (Tryz.func3.symm.trans hfn)).symm
   exact ⟨by kernel_rfl,λj t ht=>by
    rw [Tryz.params3] at ht;have hm:t∈[24]:=by simpa using Array.mem_of_getElem? ht
    have hall:([24].all λu=> !Tryz.prog.wantsStandIn u)=true:=by kernel_rfl
    exact (show Tryz.prog.wantsStandIn t=false by simpa using List.all_eq_true.1 hall t hm)⟩)
  (by kernel_rfl)
#print axioms proved_RootLine
end
end Go.Proofs.YtpppcfhgaehcjaaGreatDoor

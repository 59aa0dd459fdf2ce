/-
  The statement of the law FnExactRepLine: for all arguments the law returns true, and each argument reads afterwards as before. No condition.
-/
import Derived.Test.YtdoejgaomlmgeaaGreatDoorRows
import Derived.Test.YtdoejgaomlmgeaaGreatDoorTie
import Derived.Test.YtdoejgaomlmgeaaGreatDoorCards
import Derived.ProofKit
import Derived.LaidMore
import Derived.OpenShut
import Derived.Stop.Joined
import Derived.SevenTiedAt
import Derived.Test.YtdoejgaomlmgeaaGreatDoorH16
set_option linter.unusedVariables false
set_option linter.unusedSimpArgs false
namespace Go.Proofs.YtdoejgaomlmgeaaGreatDoor
open Go.RowKit
noncomputable section
open Go.ChangeShapes Go.WideShapes Go.ChangeAt Go.RowKit
theorem aQm {w:World} :RepVs w [] [] []:=by unfold RepVs;exact ⟨rfl,rfl⟩
theorem aOY {w:World} {c:AV} {cs:List AV} {v:Value} {vs:List Value} {S T:List Nat} (h:RepD w c v S) (k:RepVs w cs vs T):RepVs w (c::cs) (v::vs) (S++T):=by unfold RepVs;exact ⟨v,vs,S,T,rfl,rfl,h,k⟩
theorem aLR (cs0:Array Value) (x0:Rp) (S0:List Nat) (W:World) (w0:(aBM 6 eR).rd W cs0.toList x0 S0):
  Calls Tryz.prog 4 #[.agg cs0] W λe W'=>e= .returned (.bool true)∧Below W.heap.size W W':=by
 have h0:RepD W (.agg (eR x0)) (.agg cs0) S0:=by unfold RepD;exact ⟨cs0.toList,by simp,w0.1⟩
 refine ((aCK x0 true (aIw (aVQ (aOw w0.1)))).calls W #[.agg cs0] (S0++[]) (aOY h0 (aQm))).mono ?_;rintro e W' ⟨v,S',rfl,hb,hr,_⟩;exact ⟨aRj (w0:=W) hr,hb⟩
theorem aMt:ownKnob Tryz.prog.godebug=none:=by kernel_rfl
theorem aGY:laidOutB Tryz.prog=true:=by kernel_rfl
theorem aFU (os:Os) (args:Array Value):laidMetH Tryz.prog Rows.fnExactRepLineRow.laid ((World.doorLaid Tryz.prog 24 os).forCall (λ_ _=>0) ⟨#[],args,[]⟩).memory:=
 laidMetH_of_parts3 (fuel:=8) (laidMet_of_run' 8 (by kernel_rfl) (by kernel_rfl)) (by kernel_rfl) (by kernel_rfl)
set_option maxRecDepth 100000 in
theorem aIe (os:Os) (started:os.Started) (H:Type) (enc:TypeId×Value→H):
  ReturnsInHanded {} Tryz.checked os 4 .any (λw args=>(Rows.fnExactRepLineSpec.pre enc Tryz.prog Tryz.f4 [] false w args∧laidMetH Tryz.prog Rows.fnExactRepLineRow.laid w)∧sizedMet enc Tryz.prog Tryz.f4 (OpenSpec.ofChange Rows.fnExactRepLineSpec) false w args) (Rows.fnExactRepLineSpec.post enc Tryz.prog Tryz.f4 false true false false):=by
 refine returnsInHanded_of_change_and (C:=Tryz.checked) (X:=λw _=>laidMetH Tryz.prog Rows.fnExactRepLineRow.laid w) (λ_ _ _ hh h=>h.of_heap hh) aMt started (by kernel_rfl) Tryz.func4
  (ChangeSpec.witness_shaped (enc:=enc) (C:=Tryz.checked) (os:=os) (X:=λw _=>laidMetH Tryz.prog Rows.fnExactRepLineRow.laid w) false (World.doorLaid Tryz.prog 24 os) #[.agg #[.int .i64 0,.int .i64 0,.slice none 0 0,.slice none 0 0,.slice none 0 0,.slice none 0 0]] 8 rfl (World.shaped_of_RefB (by kernel_rfl) (by kernel_rfl)) (by kernel_rfl) (by kernel_rfl) (by kernel_rfl) (aFU os _)) ?_
 intro W base args ds gs before hval0 hW hcnd _ _ _;have hval: ∀ (j:Nat) t v,Tryz.f4.params[j]? =some t→args[j]? =some v→Value.okWide Tryz.prog W .any base t v:=hval0;have hW':=hW;obtain ⟨p,q,hA0,hV,rfl,hfz,hnd⟩:=hW;have hA:DataW.TrodAll enc Tryz.prog W 0 (λ_=>true) true Tryz.f4.params.toList args.toList ds p:=hA0;rw [Tryz.params4] at hA hval;obtain ⟨v0,vs0,d0,ds0,p0,q0,hargs,rfl,rfl,h0,r0⟩:=trodAll_cons hA;obtain ⟨rfl,rfl,rfl⟩:=trodAll_nil r0;obtain rfl:args= #[v0]:=by cases args;simp_all
 obtain ⟨rfl,rfl⟩:=trodVars_none hV;have k0:=h0;have lt0: ∀ x∈p0,x.block<W.heap.size:=by obtain ⟨m,hm⟩:=k0;exact DataW.trod_lt m _ _ _ hm
 have fz0:W.noneFrozen p0:=λb off hm=>hfz b off (by simp [hm]);obtain ⟨cs0,rfl, -⟩:=okWide_struct Tryz.underlying36 (hval 0 36 v0 rfl rfl);obtain ⟨fu0,hf0⟩:=h0;obtain ⟨x0,S0,w0⟩:=oR H enc W fu0 _ d0 p0 hf0 fz0;clear hA0 hval0;refine (aLR cs0 x0 S0 W w0).mono λe W' ⟨he,bel⟩=>?_;subst he;exact ⟨_,rfl,_,_,_,[],_,[],hW',trodAll_mk1 (shut_bool Tryz.underlying4 _),(trodAll_cons_mk (Below.trod aGY (by kernel_rfl) (of_decide_eq_true (by kernel_rfl)) k0 bel lt0) trodAll_mk0),rfl,bel.frame _,λh=>by cases h⟩
theorem aMu:laidOutB Tryz.pinned.checked.prog=true:=by kernel_rfl
theorem aMv:mapsRowed Tryz.pinned.checked.prog=true:=by kernel_rfl
theorem aMw:(Rows.fnExactRepLineRow.inPlace==Tryz.pinned.checked.prog.inPlace 4)=true:=by kernel_rfl
theorem aMx:(Rows.fnExactRepLineRow.unfollowed==Tryz.pinned.checked.prog.unfollowed 4)=true:=by kernel_rfl
theorem aMy:(Rows.fnExactRepLineRow.recurses==Tryz.pinned.checked.prog.recurses 4)=true:=by kernel_rfl
theorem aMz:(Rows.fnExactRepLineRow.named==Tryz.pinned.checked.prog.varsNamed 4)=true:=by kernel_rfl
theorem aIf:joinedFacts Tryz.pinned.checked.prog 4 Tryz.f4 Rows.fnExactRepLineSpec Rows.fnExactRepLineRow=true:=by
 unfold joinedFacts;simp only [cW]
 repeat' apply And.intro
 all_goals (with_reducible first|exact aMu|exact aMv|exact aMw|exact aMx|exact aMy|exact aMz|skip)
 all_goals kernel_rfl
theorem aLS:Rows.FnExactRepLineSaid:=
 OpenClaim.holds_of_wide 4 Tryz.f4 rfl rfl rfl rfl rfl rfl rfl ⟨rfl,rfl,rfl,rfl,rfl⟩ rfl rfl rfl rfl rfl (by kernel_rfl) Tryz.func4 aIf
  (of_decide_eq_true (by kernel_rfl)) (by unfold Func.isWrapper;first|(rw [aU (by decide+kernel)];kernel_rfl)|(rw [aV (by decide+kernel)];exact ⟨rfl,rfl⟩))
  (λos started H enc _=>aIe os started H enc)
theorem aNA:Rows.fnExactRepLineRow.wfByText (OpenSpec.ofChange Rows.fnExactRepLineSpec)=true:=by kernel_rfl
theorem aNB:false=Tryz.pinned.checked.prog.looks []:=by kernel_rfl
theorem aNC:false=Rows.fnExactRepLineRow.goesBy Tryz.pinned.checked.prog:=by kernel_rfl
theorem aND:([36].all λu=> !Tryz.prog.wantsStandIn u)=true:=by kernel_rfl
theorem aNE:Tryz.prog.funcNamed "loop.example/g03404/laws.FnExactRepLine" =some 4:=by kernel_rfl
theorem proved_RepLine:Rows.FnExactRepLineCardSaid:=
 Claim7.holds_tied_plain_at .later [] [.data,.data,.data] true (true, "728e4077aa775261519bd827ef1f63967715bf7522e8a7a7d472435804905945") false
  aLS (λ_ h=>by cases h) aNA (λ_ h=>by cases h) fnExactRepLine_row_tie rfl ⟨rfl,rfl⟩ (by kernel_rfl) rfl
  (λf fn hf hfn=>by
   obtain rfl:f=4:=Option.some.inj (aNE.symm.trans hf) |>.symm;obtain rfl:fn=Tryz.f4:=(Option.some.inj (Tryz.func4.symm.trans hfn)).symm
   exact ⟨aNB,λj t ht=>by
    rw [Tryz.params4] at ht;have hm:t∈[36]:=by simpa using Array.mem_of_getElem? ht
    have hall:([36].all λu=> !Tryz.prog.wantsStandIn u)=true:=aND
    exact (show Tryz.prog.wantsStandIn t=false by simpa using List.all_eq_true.1 hall t hm)⟩)
  aNC
#print axioms proved_RepLine
end
end Go.Proofs.YtdoejgaomlmgeaaGreatDoor

/-
  The statement of the law FnExactFormatClaim: for all arguments the law returns true, and each argument reads afterwards as before. No condition.
-/
import Derived.Test.YtilpfdokmlanjaaGreatDoorRows
import Derived.Test.YtilpfdokmlanjaaGreatDoorTie
import Derived.Test.YtilpfdokmlanjaaGreatDoorCards
import Derived.ProofKit
import Derived.LaidMore
import Derived.OpenShut
import Derived.Stop.Joined
import Derived.SevenTiedAt
import Derived.Test.YtilpfdokmlanjaaGreatDoorH16
set_option linter.unusedVariables false
set_option linter.unusedSimpArgs false
namespace Go.Proofs.YtilpfdokmlanjaaGreatDoor
open Go.RowKit
noncomputable section
open Go.ChangeShapes Go.WideShapes Go.ChangeAt Go.RowKit
theorem aKe {w:World} :RepVs w [] [] []:=by unfold RepVs;exact ⟨rfl,rfl⟩
theorem aIw {w:World} {c:AV} {cs:List AV} {v:Value} {vs:List Value} {S T:List Nat} (h:RepD w c v S) (k:RepVs w cs vs T):RepVs w (c::cs) (v::vs) (S++T):=by unfold RepVs;exact ⟨v,vs,S,T,rfl,rfl,h,k⟩
theorem aCA (cs0:Array Value) (x0:Cl) (S0:List Nat) (W:World) (w0:(rP 18 eC).rd W cs0.toList x0 S0):
  Calls Tryz.prog 4 #[.agg cs0] W λe W'=>e= .returned (.bool true)∧Below W.heap.size W W':=by
 have h0:RepD W (.agg (eC x0)) (.agg cs0) S0:=by unfold RepD;exact ⟨cs0.toList,by simp,w0.1⟩
 refine ((uU x0 true (aBZ (aOc (aJR w0.1)))).calls W #[.agg cs0] (S0++[]) (aIw h0 (aKe))).mono ?_;rintro e W' ⟨v,S',rfl,hb,hr,_⟩;exact ⟨aLV (w0:=W) hr,hb⟩
theorem aCo:ownKnob Tryz.prog.godebug=none:=by kernel_rfl
theorem aAE:laidOutB Tryz.prog=true:=by kernel_rfl
theorem zA (os:Os) (args:Array Value):laidMetH Tryz.prog Rows.fnExactFormatClaimRow.laid ((World.doorLaid Tryz.prog 24 os).forCall (λ_ _=>0) ⟨#[],args,[]⟩).memory:=
 laidMetH_of_parts3 (fuel:=8) (laidMet_of_run' 8 (by kernel_rfl) (by kernel_rfl)) (by kernel_rfl) (by kernel_rfl)
set_option maxRecDepth 100000 in
theorem aAk (os:Os) (started:os.Started) (H:Type) (enc:TypeId×Value→H):
  ReturnsInHanded {} Tryz.checked os 4 .any (λw args=>(Rows.fnExactFormatClaimSpec.pre enc Tryz.prog Tryz.f4 [] false w args∧laidMetH Tryz.prog Rows.fnExactFormatClaimRow.laid w)∧sizedMet enc Tryz.prog Tryz.f4 (OpenSpec.ofChange Rows.fnExactFormatClaimSpec) false w args) (Rows.fnExactFormatClaimSpec.post enc Tryz.prog Tryz.f4 false true false false):=by
 refine returnsInHanded_of_change_and (C:=Tryz.checked) (X:=λw _=>laidMetH Tryz.prog Rows.fnExactFormatClaimRow.laid w) (λ_ _ _ hh h=>h.of_heap hh) aCo started (by kernel_rfl) Tryz.func4
  (ChangeSpec.witness_shaped (enc:=enc) (C:=Tryz.checked) (os:=os) (X:=λw _=>laidMetH Tryz.prog Rows.fnExactFormatClaimRow.laid w) false (World.doorLaid Tryz.prog 24 os) #[.agg #[.int .i64 0,.int .i64 0,.int .i64 0,.slice none 0 0,.slice none 0 0,.slice none 0 0,.slice none 0 0,.int .i64 0,.int .i64 0,.slice none 0 0,.slice none 0 0,.slice none 0 0,.slice none 0 0,.slice none 0 0,.slice none 0 0,.slice none 0 0,.slice none 0 0,.slice none 0 0]] 8 rfl (World.shaped_of_RefB (by kernel_rfl) (by kernel_rfl)) (by kernel_rfl) (by kernel_rfl) (by kernel_rfl) (zA os _)) ?_
 intro W base args ds gs before hval0 hW hcnd _ _ _;have hval: ∀ (j:Nat) t v,Tryz.f4.params[j]? =some t→args[j]? =some v→Value.okWide Tryz.prog W .any base t v:=hval0;have hW':=hW;obtain ⟨p,q,hA0,hV,rfl,hfz,hnd⟩:=hW;have hA:DataW.TrodAll enc Tryz.prog W 0 (λ_=>true) true Tryz.f4.params.toList args.toList ds p:=hA0;rw [Tryz.params4] at hA hval;obtain ⟨v0,vs0,d0,ds0,p0,q0,hargs,rfl,rfl,h0,r0⟩:=trodAll_cons hA;obtain ⟨rfl,rfl,rfl⟩:=trodAll_nil r0;obtain rfl:args= #[v0]:=by cases args;simp_all
 obtain ⟨rfl,rfl⟩:=trodVars_none hV;have k0:=h0;have lt0: ∀ x∈p0,x.block<W.heap.size:=by obtain ⟨m,hm⟩:=k0;exact DataW.trod_lt m _ _ _ hm
 have fz0:W.noneFrozen p0:=λb off hm=>hfz b off (by simp [hm]);obtain ⟨cs0,rfl, -⟩:=okWide_struct Tryz.underlying41 (hval 0 41 v0 rfl rfl);obtain ⟨fu0,hf0⟩:=h0;obtain ⟨x0,S0,w0⟩:=aHa H enc W fu0 _ d0 p0 hf0 fz0;clear hA0 hval0;refine (aCA cs0 x0 S0 W w0).mono λe W' ⟨he,bel⟩=>?_;subst he;exact ⟨_,rfl,_,_,_,[],_,[],hW',trodAll_mk1 (shut_bool Tryz.underlying4 _),(trodAll_cons_mk (Below.trod aAE (by kernel_rfl) (of_decide_eq_true (by kernel_rfl)) k0 bel lt0) trodAll_mk0),rfl,bel.frame _,λh=>by cases h⟩
theorem aCp:laidOutB Tryz.pinned.checked.prog=true:=by kernel_rfl
theorem aCq:mapsRowed Tryz.pinned.checked.prog=true:=by kernel_rfl
theorem aCr:(Rows.fnExactFormatClaimRow.inPlace==Tryz.pinned.checked.prog.inPlace 4)=true:=by kernel_rfl
theorem aCs:(Rows.fnExactFormatClaimRow.unfollowed==Tryz.pinned.checked.prog.unfollowed 4)=true:=by kernel_rfl
theorem aCt:(Rows.fnExactFormatClaimRow.recurses==Tryz.pinned.checked.prog.recurses 4)=true:=by kernel_rfl
theorem aCu:(Rows.fnExactFormatClaimRow.named==Tryz.pinned.checked.prog.varsNamed 4)=true:=by kernel_rfl
theorem aAl:joinedFacts Tryz.pinned.checked.prog 4 Tryz.f4 Rows.fnExactFormatClaimSpec Rows.fnExactFormatClaimRow=true:=by
 unfold joinedFacts;simp only [cV]
 repeat' apply And.intro
 all_goals (with_reducible first|exact aCp|exact aCq|exact aCr|exact aCs|exact aCt|exact aCu|skip)
 all_goals kernel_rfl
theorem aCB:Rows.FnExactFormatClaimSaid:=
 OpenClaim.holds_of_wide 4 Tryz.f4 rfl rfl rfl rfl rfl rfl rfl ⟨rfl,rfl,rfl,rfl,rfl⟩ rfl rfl rfl rfl rfl (by kernel_rfl) Tryz.func4 aAl
  (of_decide_eq_true (by kernel_rfl)) (by unfold Func.isWrapper;first|(rw [aV (by decide+kernel)];kernel_rfl)|(rw [aS (by decide+kernel)];exact ⟨rfl,rfl⟩))
  (λos started H enc _=>aAk os started H enc)
theorem proved_FormatClaim:Rows.FnExactFormatClaimCardSaid:=
 Claim7.holds_tied_plain_at .later [] [.data,.data,.data] true (true, "28cff82f5ceffea58d699bdc1d1a97a4a7e8208dc7a3ca01a95881f8a55eb308") false
  aCB (λ_ h=>by cases h) (by kernel_rfl) (λ_ h=>by cases h) fnExactFormatClaim_row_tie rfl ⟨rfl,rfl⟩ (by kernel_rfl) rfl
  (λf fn hf hfn=>by
   obtain rfl:f=4:=Option.some.inj ((show Tryz.prog.funcNamed "loop.example/g03404/laws.FnExactFormatClaim" =some 4 by kernel_rfl).symm.trans hf) |>.symm;obtain rfl:fn=Tryz.f4:=(Option.some.inj (Tryz.func4.symm.trans hfn)).symm
   exact ⟨by kernel_rfl,λj t ht=>by
    rw [Tryz.params4] at ht;have hm:t∈[41]:=by simpa using Array.mem_of_getElem? ht
    have hall:([41].all λu=> !Tryz.prog.wantsStandIn u)=true:=by kernel_rfl
    exact (show Tryz.prog.wantsStandIn t=false by simpa using List.all_eq_true.1 hall t hm)⟩)
  (by kernel_rfl)
#print axioms proved_FormatClaim
end
end Go.Proofs.YtilpfdokmlanjaaGreatDoor

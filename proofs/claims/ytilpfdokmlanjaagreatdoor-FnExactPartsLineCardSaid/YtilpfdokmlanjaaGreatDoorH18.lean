/-
  The statement of the law FnExactPartsLine: for all arguments the law returns true, and each argument reads afterwards as before. No condition.
-/
import Derived.Test.YtilpfdokmlanjaaGreatDoorRows
import Derived.Test.YtilpfdokmlanjaaGreatDoorTie
import Derived.Test.YtilpfdokmlanjaaGreatDoorCards
import Derived.ProofKit
import Derived.LaidMore
import Derived.OpenShut
import Derived.Stop.Joined
import Derived.SevenTiedAt
import Derived.Test.YtilpfdokmlanjaaGreatDoorH17
set_option linter.unusedVariables false
set_option linter.unusedSimpArgs false
namespace Go.Proofs.YtilpfdokmlanjaaGreatDoor
open Go.RowKit
noncomputable section
open Go.ChangeShapes Go.WideShapes Go.ChangeAt Go.RowKit
theorem aRf {w:World} :RepVs w [] [] []:=by unfold RepVs;exact ⟨rfl,rfl⟩
theorem aPi {w:World} {c:AV} {cs:List AV} {v:Value} {vs:List Value} {S T:List Nat} (h:RepD w c v S) (k:RepVs w cs vs T):RepVs w (c::cs) (v::vs) (S++T):=by unfold RepVs;exact ⟨v,vs,S,T,rfl,rfl,h,k⟩
theorem aJf (cs0:Array Value) (x0:Rp) (S0:List Nat) (W:World) (w0:(aBp 6 eR).rd W cs0.toList x0 S0):
  Calls Tryz.prog 6 #[.agg cs0] W λe W'=>e= .returned (.bool true)∧Below W.heap.size W W':=by
 have h0:RepD W (.agg (eR x0)) (.agg cs0) S0:=by unfold RepD;exact ⟨cs0.toList,by simp,w0.1⟩
 refine ((aCC x0 true (aHY (aWQ (aQD w0.1)))).calls W #[.agg cs0] (S0++[]) (aPi h0 (aRf))).mono ?_;rintro e W' ⟨v,S',rfl,hb,hr,_⟩;exact ⟨aSe (w0:=W) hr,hb⟩
theorem aJv:ownKnob Tryz.prog.godebug=none:=by kernel_rfl
theorem aFb:laidOutB Tryz.prog=true:=by kernel_rfl
theorem aEo (os:Os) (args:Array Value):laidMetH Tryz.prog Rows.fnExactPartsLineRow.laid ((World.doorLaid Tryz.prog 24 os).forCall (λ_ _=>0) ⟨#[],args,[]⟩).memory:=
 laidMetH_of_parts3 (fuel:=8) (laidMet_of_run' 8 (by kernel_rfl) (by kernel_rfl)) (by kernel_rfl) (by kernel_rfl)
set_option maxRecDepth 100000 in
theorem aGa (os:Os) (started:os.Started) (H:Type) (enc:TypeId×Value→H):
  ReturnsInHanded {} Tryz.checked os 6 .any (λw args=>(Rows.fnExactPartsLineSpec.pre enc Tryz.prog Tryz.f6 [] false w args∧laidMetH Tryz.prog Rows.fnExactPartsLineRow.laid w)∧sizedMet enc Tryz.prog Tryz.f6 (OpenSpec.ofChange Rows.fnExactPartsLineSpec) false w args) (Rows.fnExactPartsLineSpec.post enc Tryz.prog Tryz.f6 false true false false):=by
 refine returnsInHanded_of_change_and (C:=Tryz.checked) (X:=λw _=>laidMetH Tryz.prog Rows.fnExactPartsLineRow.laid w) (λ_ _ _ hh h=>h.of_heap hh) aJv started (by kernel_rfl) Tryz.func6
  (ChangeSpec.witness_shaped (enc:=enc) (C:=Tryz.checked) (os:=os) (X:=λw _=>laidMetH Tryz.prog Rows.fnExactPartsLineRow.laid w) false (World.doorLaid Tryz.prog 24 os) #[.agg #[.int .i64 0,.int .i64 0,.slice none 0 0,.slice none 0 0,.slice none 0 0,.slice none 0 0]] 8 rfl (World.shaped_of_RefB (by kernel_rfl) (by kernel_rfl)) (by kernel_rfl) (by kernel_rfl) (by kernel_rfl) (aEo os _)) ?_
 intro W base args ds gs before hval0 hW hcnd _ _ _;have hval: ∀ (j:Nat) t v,Tryz.f6.params[j]? =some t→args[j]? =some v→Value.okWide Tryz.prog W .any base t v:=hval0;have hW':=hW;obtain ⟨p,q,hA0,hV,rfl,hfz,hnd⟩:=hW;have hA:DataW.TrodAll enc Tryz.prog W 0 (λ_=>true) true Tryz.f6.params.toList args.toList ds p:=hA0;rw [Tryz.params6] at hA hval;obtain ⟨v0,vs0,d0,ds0,p0,q0,hargs,rfl,rfl,h0,r0⟩:=trodAll_cons hA;obtain ⟨rfl,rfl,rfl⟩:=trodAll_nil r0;obtain rfl:args= #[v0]:=by cases args;simp_all
 obtain ⟨rfl,rfl⟩:=trodVars_none hV;have k0:=h0;have lt0: ∀ x∈p0,x.block<W.heap.size:=by obtain ⟨m,hm⟩:=k0;exact DataW.trod_lt m _ _ _ hm
 have fz0:W.noneFrozen p0:=λb off hm=>hfz b off (by simp [hm]);obtain ⟨cs0,rfl, -⟩:=okWide_struct Tryz.underlying36 (hval 0 36 v0 rfl rfl);obtain ⟨fu0,hf0⟩:=h0;obtain ⟨x0,S0,w0⟩:=oR H enc W fu0 _ d0 p0 hf0 fz0;clear hA0 hval0;refine (aJf cs0 x0 S0 W w0).mono λe W' ⟨he,bel⟩=>?_;subst he;exact ⟨_,rfl,_,_,_,[],_,[],hW',trodAll_mk1 (shut_bool Tryz.underlying4 _),(trodAll_cons_mk (Below.trod aFb (by kernel_rfl) (of_decide_eq_true (by kernel_rfl)) k0 bel lt0) trodAll_mk0),rfl,bel.frame _,λh=>by cases h⟩
theorem aJw:laidOutB Tryz.pinned.checked.prog=true:=by kernel_rfl
theorem aJx:mapsRowed Tryz.pinned.checked.prog=true:=by kernel_rfl
theorem aJy:(Rows.fnExactPartsLineRow.inPlace==Tryz.pinned.checked.prog.inPlace 6)=true:=by kernel_rfl
theorem aJz:(Rows.fnExactPartsLineRow.unfollowed==Tryz.pinned.checked.prog.unfollowed 6)=true:=by kernel_rfl
theorem aKA:(Rows.fnExactPartsLineRow.recurses==Tryz.pinned.checked.prog.recurses 6)=true:=by kernel_rfl
theorem aKB:(Rows.fnExactPartsLineRow.named==Tryz.pinned.checked.prog.varsNamed 6)=true:=by kernel_rfl
theorem aGb:joinedFacts Tryz.pinned.checked.prog 6 Tryz.f6 Rows.fnExactPartsLineSpec Rows.fnExactPartsLineRow=true:=by
 unfold joinedFacts;simp only [cV]
 repeat' apply And.intro
 all_goals (with_reducible first|exact aJw|exact aJx|exact aJy|exact aJz|exact aKA|exact aKB|skip)
 all_goals kernel_rfl
theorem aJg:Rows.FnExactPartsLineSaid:=
 OpenClaim.holds_of_wide 6 Tryz.f6 rfl rfl rfl rfl rfl rfl rfl ⟨rfl,rfl,rfl,rfl,rfl⟩ rfl rfl rfl rfl rfl (by kernel_rfl) Tryz.func6 aGb
  (of_decide_eq_true (by kernel_rfl)) (by unfold Func.isWrapper;first|(rw [aV (by decide+kernel)];kernel_rfl)|(rw [aW (by decide+kernel)];exact ⟨rfl,rfl⟩))
  (λos started H enc _=>aGa os started H enc)
theorem aKC:Rows.fnExactPartsLineRow.wfByText (OpenSpec.ofChange Rows.fnExactPartsLineSpec)=true:=by kernel_rfl
theorem aKD:false=Tryz.pinned.checked.prog.looks []:=by kernel_rfl
theorem aKE:false=Rows.fnExactPartsLineRow.goesBy Tryz.pinned.checked.prog:=by kernel_rfl
theorem aKF:([36].all λu=> !Tryz.prog.wantsStandIn u)=true:=by kernel_rfl
theorem aKG:Tryz.prog.funcNamed "loop.example/g03404/laws.FnExactPartsLine" =some 6:=by kernel_rfl
theorem proved_PartsLine:Rows.FnExactPartsLineCardSaid:=
 Claim7.holds_tied_plain_at .later [] [.data,.data,.data] true (true, "28cff82f5ceffea58d699bdc1d1a97a4a7e8208dc7a3ca01a95881f8a55eb308") false
  aJg (λ_ h=>by cases h) aKC (λ_ h=>by cases h) fnExactPartsLine_row_tie rfl ⟨rfl,rfl⟩ (by kernel_rfl) rfl
  (λf fn hf hfn=>by
   obtain rfl:f=6:=Option.some.inj (aKG.symm.trans hf) |>.symm;obtain rfl:fn=Tryz.f6:=(Option.some.inj (Tryz.func6.symm.trans hfn)).symm
   exact ⟨aKD,λj t ht=>by
    rw [Tryz.params6] at ht;have hm:t∈[36]:=by simpa using Array.mem_of_getElem? ht
    have hall:([36].all λu=> !Tryz.prog.wantsStandIn u)=true:=aKF
    exact (show Tryz.prog.wantsStandIn t=false by simpa using List.all_eq_true.1 hall t hm)⟩)
  aKE
#print axioms proved_PartsLine
end
end Go.Proofs.YtilpfdokmlanjaaGreatDoor

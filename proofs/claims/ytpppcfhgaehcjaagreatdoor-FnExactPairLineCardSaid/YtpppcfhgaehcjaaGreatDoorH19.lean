/-
  The statement of the law FnExactPairLine: for all arguments the law returns true, and each argument reads afterwards as before. No condition.
-/
import Derived.Test.YtpppcfhgaehcjaaGreatDoorRows
import Derived.Test.YtpppcfhgaehcjaaGreatDoorTie
import Derived.Test.YtpppcfhgaehcjaaGreatDoorCards
import Derived.ProofKit
import Derived.LaidMore
import Derived.OpenShut
import Derived.Stop.Joined
import Derived.Stop.LaidErr
import Derived.Lib.LaidTab
import Derived.SevenTiedAt
import Derived.Test.YtpppcfhgaehcjaaGreatDoorH18
set_option linter.unusedVariables false
set_option linter.unusedSimpArgs false
namespace Go.Proofs.YtpppcfhgaehcjaaGreatDoor
open Go.RowKit
noncomputable section
open Go.ChangeShapes Go.WideShapes Go.ChangeAt Go.RowKit
theorem aLD {w:World} :RepVs w [] [] []:=by unfold RepVs;exact ⟨rfl,rfl⟩
theorem aEM {w:World} {c:AV} {cs:List AV} {v:Value} {vs:List Value} {S T:List Nat} (h:RepD w c v S) (k:RepVs w cs vs T):RepVs w (c::cs) (v::vs) (S++T):=by unfold RepVs;exact ⟨v,vs,S,T,rfl,rfl,h,k⟩
theorem aCm {W:World} (h:laidMetH Tryz.prog Rows.fnExactPairLineRow.laid W):Tab Tryz.prog W:=by
 rw [MakeChecks.laidMetH_plain _ _ _ (by kernel_rfl)] at h;have e:(Rows.laid_internal_strconv_uint64pow10:DataW Unit)=Lib.tabData .u64 Lib.pow10Tab:=by kernel_rfl
 have h2:laidMet Tryz.prog [("internal/strconv.uint64pow10",Rows.laid_internal_strconv_uint64pow10)] W:=laidMet.tail (laidMet.tail (h));rw [e] at h2;exact Lib.tabIs_of_head (g:=1) (t:=208) (e:=185) (n:=20) (by kernel_rfl) (by kernel_rfl) (by kernel_rfl) (by kernel_rfl) (by kernel_rfl) (by kernel_rfl) h2
theorem aEb (cs0:Array Value) (x0:Rp) (S0:List Nat) (cs1:Array Value) (x1:Rp) (S1:List Nat) (W:World) (hTab:Tab Tryz.prog W) (w0:(vN 6 eR).rd W cs0.toList x0 S0) (w1:(vN 6 eR).rd W cs1.toList x1 S1):
  Calls Tryz.prog 4 #[.agg cs0,.agg cs1] W λe W'=>e= .returned (.bool true)∧Below W.heap.size W W':=by
 have h0:RepD W (.agg (eR x0)) (.agg cs0) S0:=by unfold RepD;exact ⟨cs0.toList,by simp,w0.1⟩
 have h1:RepD W (.agg (eR x1)) (.agg cs1) S1:=by unfold RepD;exact ⟨cs1.toList,by simp,w1.1⟩
 refine ((xT x0 x1 true (aEL (aNe (aGJ w0.1)) (aNe (aGJ w1.1)))).calls W hTab #[.agg cs0,.agg cs1] (S0++(S1++[])) (aEM h0 (aEM h1 (aLD)))).mono ?_;rintro e W' ⟨v,S',rfl,hb,hr,_⟩;exact ⟨aMD (w0:=W) hr,hb⟩
theorem aGg:ownKnob Tryz.prog.godebug=none:=by kernel_rfl
theorem wN:laidOutB Tryz.prog=true:=by kernel_rfl
theorem aBZ (os:Os) (args:Array Value):laidMetH Tryz.prog Rows.fnExactPairLineRow.laid ((World.doorLaid Tryz.prog 24 os).forCall (λ_ _=>0) ⟨#[],args,[]⟩).memory:=
 laidMetH_of_parts3 (fuel:=8) (laidMet_of_run' 8 (by kernel_rfl) (by kernel_rfl)) (by kernel_rfl) (by kernel_rfl)
set_option maxRecDepth 100000 in
theorem aCn (os:Os) (started:os.Started) (H:Type) (enc:TypeId×Value→H):
  ReturnsInHanded {} Tryz.checked os 4 .any (λw args=>(Rows.fnExactPairLineSpec.pre enc Tryz.prog Tryz.f4 [] false w args∧laidMetH Tryz.prog Rows.fnExactPairLineRow.laid w)∧sizedMet enc Tryz.prog Tryz.f4 (OpenSpec.ofChange Rows.fnExactPairLineSpec) false w args) (Rows.fnExactPairLineSpec.post enc Tryz.prog Tryz.f4 false true false false):=by
 refine returnsInHanded_of_change_and (C:=Tryz.checked) (X:=λw _=>laidMetH Tryz.prog Rows.fnExactPairLineRow.laid w) (λ_ _ _ hh h=>h.of_heap hh) aGg started (by kernel_rfl) Tryz.func4
  (ChangeSpec.witness_shaped (enc:=enc) (C:=Tryz.checked) (os:=os) (X:=λw _=>laidMetH Tryz.prog Rows.fnExactPairLineRow.laid w) false (World.doorLaid Tryz.prog 24 os) #[.agg #[.int .i64 0,.int .i64 0,.slice none 0 0,.slice none 0 0,.slice none 0 0,.slice none 0 0],.agg #[.int .i64 0,.int .i64 0,.slice none 0 0,.slice none 0 0,.slice none 0 0,.slice none 0 0]] 8 rfl (World.shaped_of_RefB (by kernel_rfl) (by kernel_rfl)) (by kernel_rfl) (by kernel_rfl) (by kernel_rfl) (aBZ os _)) ?_
 intro W base args ds gs before hval0 hW hcnd _ hL _;have hval: ∀ (j:Nat) t v,Tryz.f4.params[j]? =some t→args[j]? =some v→Value.okWide Tryz.prog W .any base t v:=hval0;have hW':=hW;obtain ⟨p,q,hA0,hV,rfl,hfz,hnd⟩:=hW;have hA:DataW.TrodAll enc Tryz.prog W 0 (λ_=>true) true Tryz.f4.params.toList args.toList ds p:=hA0;rw [Tryz.params4] at hA hval;obtain ⟨v0,vs0,d0,ds0,p0,q0,hargs,rfl,rfl,h0,r0⟩:=trodAll_cons hA;obtain ⟨v1,vs1,d1,ds1,p1,q1,rfl,rfl,rfl,h1,r1⟩:=trodAll_cons r0;obtain ⟨rfl,rfl,rfl⟩:=trodAll_nil r1;obtain rfl:args= #[v0,v1]:=by cases args;simp_all
 obtain ⟨rfl,rfl⟩:=trodVars_none hV;have k0:=h0;have lt0: ∀ x∈p0,x.block<W.heap.size:=by obtain ⟨m,hm⟩:=k0;exact DataW.trod_lt m _ _ _ hm
 have fz0:W.noneFrozen p0:=λb off hm=>hfz b off (by simp [hm]);obtain ⟨cs0,rfl, -⟩:=okWide_struct Tryz.underlying33 (hval 0 33 v0 rfl rfl);obtain ⟨fu0,hf0⟩:=h0;obtain ⟨x0,S0,w0⟩:=oR H enc W fu0 _ d0 p0 hf0 fz0;have k1:=h1;have lt1: ∀ x∈p1,x.block<W.heap.size:=by obtain ⟨m,hm⟩:=k1;exact DataW.trod_lt m _ _ _ hm
 have fz1:W.noneFrozen p1:=λb off hm=>hfz b off (by simp [hm]);obtain ⟨cs1,rfl, -⟩:=okWide_struct Tryz.underlying33 (hval 1 33 v1 rfl rfl);obtain ⟨fu1,hf1⟩:=h1;obtain ⟨x1,S1,w1⟩:=oR H enc W fu1 _ d1 p1 hf1 fz1;clear hA0 hval0;refine (aEb cs0 x0 S0 cs1 x1 S1 W (aCm hL) w0 w1).mono λe W' ⟨he,bel⟩=>?_;subst he;exact ⟨_,rfl,_,_,_,[],_,[],hW',trodAll_mk1 (shut_bool Tryz.underlying4 _),(trodAll_cons_mk (Below.trod wN (by kernel_rfl) (of_decide_eq_true (by kernel_rfl)) k0 bel lt0) (trodAll_cons_mk (Below.trod wN (by kernel_rfl) (of_decide_eq_true (by kernel_rfl)) k1 bel lt1) trodAll_mk0)),rfl,bel.frame _,λh=>by cases h⟩
theorem aGh:laidOutB Tryz.pinned.checked.prog=true:=by kernel_rfl
theorem aGi:mapsRowed Tryz.pinned.checked.prog=true:=by kernel_rfl
theorem aGj:(Rows.fnExactPairLineRow.inPlace==Tryz.pinned.checked.prog.inPlace 4)=true:=by kernel_rfl
theorem aGk:(Rows.fnExactPairLineRow.unfollowed==Tryz.pinned.checked.prog.unfollowed 4)=true:=by kernel_rfl
theorem aGl:(Rows.fnExactPairLineRow.recurses==Tryz.pinned.checked.prog.recurses 4)=true:=by kernel_rfl
theorem aGm:(Rows.fnExactPairLineRow.named==Tryz.pinned.checked.prog.varsNamed 4)=true:=by kernel_rfl
theorem aCo:joinedFacts Tryz.pinned.checked.prog 4 Tryz.f4 Rows.fnExactPairLineSpec Rows.fnExactPairLineRow=true:=by
 unfold joinedFacts;simp only [cD]
 repeat' apply And.intro
 all_goals (with_reducible first|exact aGh|exact aGi|exact aGj|exact aGk|exact aGl|exact aGm|skip)
 all_goals kernel_rfl
theorem aEc:Rows.FnExactPairLineSaid:=
 OpenClaim.holds_of_wide 4 Tryz.f4 rfl rfl rfl rfl rfl rfl rfl ⟨rfl,rfl,rfl,rfl,rfl⟩ rfl rfl rfl rfl rfl (by kernel_rfl) Tryz.func4 aCo
  (of_decide_eq_true (by kernel_rfl)) (by unfold Func.isWrapper;first|(rw [aQ (by decide+kernel)];kernel_rfl)|(rw [aR (by decide+kernel)];exact ⟨rfl,rfl⟩))
  (λos started H enc _=>aCn os started H enc)
theorem proved_PairLine:Rows.FnExactPairLineCardSaid:=
 Claim7.holds_tied_plain_at .later [] [.data,.data,.data] true (true, "4b2dca912eb09f653a20da10e8fc020e2841d5df3abea7e04e641ff105a0d5ad") false
  aEc (λ_ h=>by cases h) (by kernel_rfl) (λ_ h=>by cases h) fnExactPairLine_row_tie rfl ⟨rfl,rfl⟩ (by kernel_rfl) rfl
  (λf fn hf hfn=>by
   obtain rfl:f=4:=Option.some.inj ((show Tryz.prog.funcNamed "loop.example/g03404/laws.FnExactPairLine" =some 4 by kernel_rfl).symm.trans hf) |>.symm;obtain rfl:fn=Tryz.f4:=(Option.some.inj (Tryz.func4.symm.trans hfn)).symm
   exact ⟨by kernel_rfl,λj t ht=>by
    rw [Tryz.params4] at ht;have hm:t∈[33,33]:=by simpa using Array.mem_of_getElem? ht
    have hall:([33,33].all λu=> !Tryz.prog.wantsStandIn u)=true:=by kernel_rfl
    exact (show Tryz.prog.wantsStandIn t=false by simpa using List.all_eq_true.1 hall t hm)⟩)
  (by kernel_rfl)
#print axioms proved_PairLine
end
end Go.Proofs.YtpppcfhgaehcjaaGreatDoor

/-
  The statement of the law FnExactQuiverLine: for all arguments the law returns true, and each argument reads afterwards as before. No condition.
-/
import Derived.Test.YtpppcfhgaehcjaaDoorRows
import Derived.Test.YtpppcfhgaehcjaaDoorTie
import Derived.Test.YtpppcfhgaehcjaaDoorCards
import Derived.ProofKit
import Derived.LaidMore
import Derived.OpenShut
import Derived.Stop.Joined
import Derived.SevenTiedAt
import Derived.Test.YtpppcfhgaehcjaaDoorH15
set_option linter.unusedVariables false
set_option linter.unusedSimpArgs false
namespace Go.Proofs.YtpppcfhgaehcjaaDoor
open Go.RowKit
noncomputable section
open Go.ChangeShapes Go.WideShapes Go.ChangeAt Go.RowKit
theorem aBk {w:World} :RepVs w [] [] []:=by unfold RepVs;exact ⟨rfl,rfl⟩
theorem aAT {w:World} {c:AV} {cs:List AV} {v:Value} {vs:List Value} {S T:List Nat} (h:RepD w c v S) (k:RepVs w cs vs T):RepVs w (c::cs) (v::vs) (S++T):=by unfold RepVs;exact ⟨v,vs,S,T,rfl,rfl,h,k⟩
theorem rF (cs0:Array Value) (x0:Qv) (S0:List Nat) (W:World) (w0:(oE 3 eQ).rd W cs0.toList x0 S0):
  Calls Tryd.prog 3 #[.agg cs0] W λe W'=>e= .returned (.bool true)∧Below W.heap.size W W':=by
 have h0:RepD W (.agg (eQ x0)) (.agg cs0) S0:=by unfold RepD;exact ⟨cs0.toList,by simp,w0.1⟩
 refine ((kI x0 true (qI (aEm (aAq w0.1)))).calls W #[.agg cs0] (S0++[]) (aAT h0 (aBk))).mono ?_;rintro e W' ⟨v,S',rfl,hb,hr,_⟩;exact ⟨aCo (w0:=W) hr,hb⟩
theorem tU:ownKnob Tryd.prog.godebug=none:=by kernel_rfl
theorem oJ:laidOutB Tryd.prog=true:=by kernel_rfl
theorem nM (os:Os) (args:Array Value):laidMetH Tryd.prog Rows.fnExactQuiverLineRow.laid ((World.doorLaid Tryd.prog 24 os).forCall (λ_ _=>0) ⟨#[],args,[]⟩).memory:=
 laidMetH_of_parts3 (fuel:=8) (laidMet_of_run' 8 (by kernel_rfl) (by kernel_rfl)) (by kernel_rfl) (by kernel_rfl)
set_option maxRecDepth 100000 in
theorem pH (os:Os) (started:os.Started) (H:Type) (enc:TypeId×Value→H):
  ReturnsInHanded {} Tryd.checked os 3 .any (λw args=>(Rows.fnExactQuiverLineSpec.pre enc Tryd.prog Tryd.f3 [] false w args∧laidMetH Tryd.prog Rows.fnExactQuiverLineRow.laid w)∧sizedMet enc Tryd.prog Tryd.f3 (OpenSpec.ofChange Rows.fnExactQuiverLineSpec) false w args) (Rows.fnExactQuiverLineSpec.post enc Tryd.prog Tryd.f3 false true false false):=by
 refine returnsInHanded_of_change_and (C:=Tryd.checked) (X:=λw _=>laidMetH Tryd.prog Rows.fnExactQuiverLineRow.laid w) (λ_ _ _ hh h=>h.of_heap hh) tU started (by kernel_rfl) Tryd.func3
  (ChangeSpec.witness_shaped (enc:=enc) (C:=Tryd.checked) (os:=os) (X:=λw _=>laidMetH Tryd.prog Rows.fnExactQuiverLineRow.laid w) false (World.doorLaid Tryd.prog 24 os) #[.agg #[.int .i64 0,.slice none 0 0,.slice none 0 0]] 8 rfl (World.shaped_of_RefB (by kernel_rfl) (by kernel_rfl)) (by kernel_rfl) (by kernel_rfl) (by kernel_rfl) (nM os _)) ?_
 intro W base args ds gs before hval0 hW hcnd _ _ _;have hval: ∀ (j:Nat) t v,Tryd.f3.params[j]? =some t→args[j]? =some v→Value.okWide Tryd.prog W .any base t v:=hval0;have hW':=hW;obtain ⟨p,q,hA0,hV,rfl,hfz,hnd⟩:=hW;have hA:DataW.TrodAll enc Tryd.prog W 0 (λ_=>true) true Tryd.f3.params.toList args.toList ds p:=hA0;rw [Tryd.params3] at hA hval;obtain ⟨v0,vs0,d0,ds0,p0,q0,hargs,rfl,rfl,h0,r0⟩:=trodAll_cons hA;obtain ⟨rfl,rfl,rfl⟩:=trodAll_nil r0;obtain rfl:args= #[v0]:=by cases args;simp_all
 obtain ⟨rfl,rfl⟩:=trodVars_none hV;have k0:=h0;have lt0: ∀ x∈p0,x.block<W.heap.size:=by obtain ⟨m,hm⟩:=k0;exact DataW.trod_lt m _ _ _ hm
 have fz0:W.noneFrozen p0:=λb off hm=>hfz b off (by simp [hm]);obtain ⟨cs0,rfl, -⟩:=okWide_struct Tryd.underlying24 (hval 0 24 v0 rfl rfl);obtain ⟨fu0,hf0⟩:=h0;obtain ⟨x0,S0,w0⟩:=oQ H enc W fu0 _ d0 p0 hf0 fz0;clear hA0 hval0;refine (rF cs0 x0 S0 W w0).mono λe W' ⟨he,bel⟩=>?_;subst he;exact ⟨_,rfl,_,_,_,[],_,[],hW',trodAll_mk1 (shut_bool Tryd.underlying4 _),(trodAll_cons_mk (Below.trod oJ (by kernel_rfl) (of_decide_eq_true (by kernel_rfl)) k0 bel lt0) trodAll_mk0),rfl,bel.frame _,λh=>by cases h⟩
theorem tV:laidOutB Tryd.pinned.checked.prog=true:=by kernel_rfl
theorem tW:mapsRowed Tryd.pinned.checked.prog=true:=by kernel_rfl
theorem tX:(Rows.fnExactQuiverLineRow.inPlace==Tryd.pinned.checked.prog.inPlace 3)=true:=by kernel_rfl
theorem tY:(Rows.fnExactQuiverLineRow.unfollowed==Tryd.pinned.checked.prog.unfollowed 3)=true:=by kernel_rfl
theorem tZ:(Rows.fnExactQuiverLineRow.recurses==Tryd.pinned.checked.prog.recurses 3)=true:=by kernel_rfl
theorem uA:(Rows.fnExactQuiverLineRow.named==Tryd.pinned.checked.prog.varsNamed 3)=true:=by kernel_rfl
theorem pI:joinedFacts Tryd.pinned.checked.prog 3 Tryd.f3 Rows.fnExactQuiverLineSpec Rows.fnExactQuiverLineRow=true:=by
 unfold joinedFacts;simp only [bY]
 repeat' apply And.intro
 all_goals (with_reducible first|exact tV|exact tW|exact tX|exact tY|exact tZ|exact uA|skip)
 all_goals kernel_rfl
theorem rG:Rows.FnExactQuiverLineSaid:=
 OpenClaim.holds_of_wide 3 Tryd.f3 rfl rfl rfl rfl rfl rfl rfl ⟨rfl,rfl,rfl,rfl,rfl⟩ rfl rfl rfl rfl rfl (by kernel_rfl) Tryd.func3 pI
  (of_decide_eq_true (by kernel_rfl)) (by unfold Func.isWrapper;first|(rw [bK (by decide+kernel)];kernel_rfl)|(rw [aY (by decide+kernel)];exact ⟨rfl,rfl⟩))
  (λos started H enc _=>pH os started H enc)
theorem proved_QuiverLine:Rows.FnExactQuiverLineCardSaid:=
 Claim7.holds_tied_plain_at .later [] [.data,.data,.data] true (true, "c3981ae08a9cb44bc238e4e3b2d47efee99b0dc344751429262c834180aab8ff") false
  rG (λ_ h=>by cases h) (by kernel_rfl) (λ_ h=>by cases h) fnExactQuiverLine_row_tie rfl ⟨rfl,rfl⟩ (by kernel_rfl) rfl
  (λf fn hf hfn=>by
   obtain rfl:f=3:=Option.some.inj ((show Tryd.prog.funcNamed "loop.example/g03404/laws.FnExactQuiverLine" =some 3 by kernel_rfl).symm.trans hf) |>.symm;obtain rfl:fn=Tryd.f3:=(Option.some.inj (Tryd.func3.symm.trans hfn)).symm
   exact ⟨by kernel_rfl,λj t ht=>by
    rw [Tryd.params3] at ht;have hm:t∈[24]:=by simpa using Array.mem_of_getElem? ht
    have hall:([24].all λu=> !Tryd.prog.wantsStandIn u)=true:=by kernel_rfl
    exact (show Tryd.prog.wantsStandIn t=false by simpa using List.all_eq_true.1 hall t hm)⟩)
  (by kernel_rfl)
#print axioms proved_QuiverLine
end
end Go.Proofs.YtpppcfhgaehcjaaDoor

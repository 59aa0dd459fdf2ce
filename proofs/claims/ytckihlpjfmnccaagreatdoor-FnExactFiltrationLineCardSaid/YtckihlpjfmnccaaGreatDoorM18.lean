/-
  The statement of the law FnExactFiltrationLine: for all arguments the law returns true, and each argument reads afterwards as before. No condition.
-/
import Derived.Test.YtckihlpjfmnccaaGreatDoorRows
import Derived.Test.YtckihlpjfmnccaaGreatDoorTie
import Derived.Test.YtckihlpjfmnccaaGreatDoorCards
import Derived.ProofKit
import Derived.LaidMore
import Derived.OpenShut
import Derived.Stop.Joined
import Derived.SevenTiedAt
import Derived.Test.YtckihlpjfmnccaaGreatDoorM17
set_option linter.unusedVariables false
set_option linter.unusedSimpArgs false
namespace Go.Proofs.YtckihlpjfmnccaaGreatDoor
open Go.RowKit
section
open Go.ChangeShapes Go.WideShapes Go.ChangeAt Go.RowKit
theorem aEe {w:World} :RepVs w [] [] []:=by unfold RepVs;exact ⟨rfl,rfl⟩
theorem aDB {w:World} {c:AV} {cs:List AV} {v:Value} {vs:List Value} {S T:List Nat} (h:RepD w c v S) (k:RepVs w cs vs T):RepVs w (c::cs) (v::vs) (S++T):=by unfold RepVs;exact ⟨v,vs,S,T,rfl,rfl,h,k⟩
theorem rK (cs0:Array Value) (x0:Fa) (S0:List Nat) (W:World) (w0:(pV 3 dW).rd W cs0.toList x0 S0):
  Calls Tryz.prog 3 #[.agg cs0] W λe W'=>e= .returned (.bool true)/\Below W.heap.size W W':=by
 have h0:RepD W (.agg (dW x0)) (.agg cs0) S0:=by unfold RepD;exact ⟨cs0.toList,by simp,w0.1⟩
 refine ((mK x0 true (qT (aHr (aDT w0.1)))).calls W #[.agg cs0] (S0++[]) (aDB h0 (aEe))).mono ?_;rintro e W' ⟨v,S',rfl,hb,hr,_⟩;exact ⟨aFU (w0:=W) hr,hb⟩
theorem sV:ownKnob Tryz.prog.godebug=none:=by kernel_rfl
theorem pK:laidOutB Tryz.prog=true:=by kernel_rfl
theorem oU (os:Os) (args:Array Value):laidMetH Tryz.prog Rows.fnExactFiltrationLineRow.laid ((World.doorLaid Tryz.prog 24 os).forCall (λ_ _=>0) ⟨#[],args,[]⟩).memory:=
 laidMetH_of_parts3 (fuel:=8) (laidMet_of_run' 8 (by kernel_rfl) (by kernel_rfl)) (by kernel_rfl) (by kernel_rfl)
set_option maxRecDepth 100000 in
theorem qA (os:Os) (started:os.Started) (H:Type) (enc:TypeId×Value->H):
  ReturnsInHanded {} Tryz.checked os 3 .any (λw args=>(Rows.fnExactFiltrationLineSpec.pre enc Tryz.prog Tryz.f3 [] false w args/\laidMetH Tryz.prog Rows.fnExactFiltrationLineRow.laid w)/\sizedMet enc Tryz.prog Tryz.f3 (OpenSpec.ofChange Rows.fnExactFiltrationLineSpec) false w args) (Rows.fnExactFiltrationLineSpec.post enc Tryz.prog Tryz.f3 false true false false):=by
 refine returnsInHanded_of_change_and (C:=Tryz.checked) (X:=λw _=>laidMetH Tryz.prog Rows.fnExactFiltrationLineRow.laid w) (λ_ _ _ hh h=>h.of_heap hh) sV started (by kernel_rfl) Tryz.func3
  (ChangeSpec.witness_shaped (enc:=enc) (C:=Tryz.checked) (os:=os) (X:=λw _=>laidMetH Tryz.prog Rows.fnExactFiltrationLineRow.laid w) false (World.doorLaid Tryz.prog 24 os) #[.agg #[.int .i64 0,.slice none 0 0,.slice none 0 0]] 8 rfl (World.shaped_of_RefB (by kernel_rfl) (by kernel_rfl)) (by kernel_rfl) (by kernel_rfl) (by kernel_rfl) (oU os _)) ?_
 intro W base args ds gs before hval0 hW hcnd _ _ _;have hval: ∀ (j:Nat) t v,Tryz.f3.params[j]? =some t->args[j]? =some v->Value.okWide Tryz.prog W .any base t v:=hval0;have hW':=hW;obtain ⟨p,q,hA0,hV,rfl,hfz,hnd⟩:=hW;have hA:DataW.TrodAll enc Tryz.prog W 0 (λ_=>true) true Tryz.f3.params.toList args.toList ds p:=hA0;rw [Tryz.params3] at hA hval;obtain ⟨v0,vs0,d0,ds0,p0,q0,hargs,rfl,rfl,h0,r0⟩:=trodAll_cons hA;obtain ⟨rfl,rfl,rfl⟩:=trodAll_nil r0;obtain rfl:args= #[v0]:=by cases args;simp_all
 obtain ⟨rfl,rfl⟩:=trodVars_none hV;have k0:=h0;have lt0: ∀ x∈p0,x.block<W.heap.size:=by obtain ⟨m,hm⟩:=k0;exact DataW.trod_lt m _ _ _ hm
 have fz0:W.noneFrozen p0:=λb off hm=>hfz b off (by simp [hm]);obtain ⟨cs0,rfl, -⟩:=okWide_struct Tryz.underlying25 (hval 0 25 v0 rfl rfl);obtain ⟨fu0,hf0⟩:=h0;obtain ⟨x0,S0,w0⟩:=oFa H enc W fu0 _ d0 p0 hf0 fz0;clear hA0 hval0;refine (rK cs0 x0 S0 W w0).mono λe W' ⟨he,bel⟩=>?_;subst he;exact ⟨_,rfl,_,_,_,[],_,[],hW',trodAll_mk1 (shut_bool Tryz.underlying4 _),(trodAll_cons_mk (Below.trod pK (by kernel_rfl) (of_decide_eq_true (by kernel_rfl)) k0 bel lt0) trodAll_mk0),rfl,bel.frame _,λh=>by cases h⟩
theorem sW:laidOutB Tryz.pinned.checked.prog=true:=by kernel_rfl
theorem sX:mapsRowed Tryz.pinned.checked.prog=true:=by kernel_rfl
theorem sY:(Rows.fnExactFiltrationLineRow.inPlace==Tryz.pinned.checked.prog.inPlace 3)=true:=by kernel_rfl
theorem sZ:(Rows.fnExactFiltrationLineRow.unfollowed==Tryz.pinned.checked.prog.unfollowed 3)=true:=by kernel_rfl
theorem tA:(Rows.fnExactFiltrationLineRow.recurses==Tryz.pinned.checked.prog.recurses 3)=true:=by kernel_rfl
theorem tB:(Rows.fnExactFiltrationLineRow.named==Tryz.pinned.checked.prog.varsNamed 3)=true:=by kernel_rfl
theorem qB:joinedFacts Tryz.pinned.checked.prog 3 Tryz.f3 Rows.fnExactFiltrationLineSpec Rows.fnExactFiltrationLineRow=true:=by
 unfold joinedFacts;simp only [cD]
 repeat' apply And.intro
 all_goals (with_reducible first|exact sW|exact sX|exact sY|exact sZ|exact tA|exact tB|skip)
 all_goals kernel_rfl
theorem rL:Rows.FnExactFiltrationLineSaid:=
 OpenClaim.holds_of_wide 3 Tryz.f3 rfl rfl rfl rfl rfl rfl rfl ⟨rfl,rfl,rfl,rfl,rfl⟩ rfl rfl rfl rfl rfl (by kernel_rfl) Tryz.func3 qB
  (of_decide_eq_true (by kernel_rfl)) (by unfold Func.isWrapper;first|(rw [bT (by decide+kernel)];kernel_rfl)|(rw [bM (by decide+kernel)];exact ⟨rfl,rfl⟩))
  (λos started H enc _=>qA os started H enc)
theorem tC:Rows.fnExactFiltrationLineRow.wfByText (OpenSpec.ofChange Rows.fnExactFiltrationLineSpec)=true:=by kernel_rfl
theorem tD:false=Tryz.pinned.checked.prog.looks []:=by kernel_rfl
theorem tE:false=Rows.fnExactFiltrationLineRow.goesBy Tryz.pinned.checked.prog:=by kernel_rfl
theorem tF:([25].all λu=> !Tryz.prog.wantsStandIn u)=true:=by kernel_rfl
theorem tG:Tryz.prog.funcNamed "loop.example/g03404/laws.FnExactFiltrationLine" =some 3:=by kernel_rfl
theorem proved_FiltrationLine:Rows.FnExactFiltrationLineCardSaid:=
 Claim7.holds_tied_plain_at .later [] [.data,.data,.data] true (true, "a179d7410f0d653d6eea0d415f7726f3e80f86129d2b6e98fe7d9cba2afda8c4") false
  rL (λ_ h=>by cases h) tC (λ_ h=>by cases h) fnExactFiltrationLine_row_tie rfl ⟨rfl,rfl⟩ (by kernel_rfl) rfl
  (λf fn hf hfn=>by
   obtain rfl:f=3:=Option.some.inj (tG.symm.trans hf) |>.symm;obtain rfl:fn=Tryz.f3:=(Option.some.inj (Tryz.func3.symm.trans hfn)).symm
   exact ⟨tD,λj t ht=>by
    rw [Tryz.params3] at ht;have hm:t∈[25]:=by simpa using Array.mem_of_getElem? ht
    have hall:([25].all λu=> !Tryz.prog.wantsStandIn u)=true:=tF
    exact (show Tryz.prog.wantsStandIn t=false by simpa using List.all_eq_true.1 hall t hm)⟩)
  tE
#print axioms proved_FiltrationLine
end
end Go.Proofs.YtckihlpjfmnccaaGreatDoor

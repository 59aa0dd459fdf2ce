/-
  The statement of the law FnExactIndecomposablesOf: for all arguments the law returns true, and each argument reads afterwards as before. No condition.
-/
import Derived.Test.YtpppcfhgaehcjaaGreatRows
import Derived.Test.YtpppcfhgaehcjaaGreatH14
set_option linter.unusedVariables false
set_option linter.unusedSimpArgs false
namespace Go.Proofs.YtpppcfhgaehcjaaGreat
open Go.RowKit
noncomputable section
open Go.ChangeShapes Go.WideShapes Go.ChangeAt Go.RowKit
theorem aNs {w:World} :RepVs w [] [] []:=by unfold RepVs;exact ⟨rfl,rfl⟩
theorem aGn {w:World} {c:AV} {cs:List AV} {v:Value} {vs:List Value} {S T:List Nat} (h:RepD w c v S) (k:RepVs w cs vs T):RepVs w (c::cs) (v::vs) (S++T):=by unfold RepVs;exact ⟨v,vs,S,T,rfl,rfl,h,k⟩
theorem aAY (a0:Int) (cs1:Array Value) (x1:Qv) (S1:List Nat) (W:World) (w1:(aBB 3 eQ).rd W cs1.toList x1 S1):
  Calls Tryz.prog 3 #[.int .i64 a0,.agg cs1] W λe W'=>e= .returned (.bool true)∧Below W.heap.size W W':=by
 have h0:RepD W (.sc (.int .i64 a0)) (.int .i64 a0) []:=wC rfl;have h1:RepD W (.agg (eQ x1)) (.agg cs1) S1:=by unfold RepD;exact ⟨cs1.toList,by simp,w1.1⟩
 refine ((tP a0 x1 true (zY (aSd (aMQ w1.1)))).calls W #[.int .i64 a0,.agg cs1] ([]++(S1++[])) (aGn h0 (aGn h1 (aNs)))).mono ?_;rintro e W' ⟨v,S',rfl,hb,hr,_⟩;exact ⟨aOg (w0:=W) hr,hb⟩
theorem aAj:ownKnob Tryz.prog.godebug=none:=by kernel_rfl
theorem qF:laidOutB Tryz.prog=true:=by kernel_rfl
set_option maxRecDepth 100000 in
theorem yR (os:Os) (started:os.Started) (H:Type) (enc:TypeId×Value→H):
  ReturnsInHanded {} Tryz.checked os 3 .any (Rows.fnExactIndecomposablesOfSpec.pre6 enc Tryz.prog Tryz.f3 Rows.fnExactIndecomposablesOfRow.domain false) (Rows.fnExactIndecomposablesOfSpec.post enc Tryz.prog Tryz.f3 false true false false):=by
 refine returnsInHanded_of_change (C:=Tryz.checked) aAj started (by kernel_rfl) Tryz.func3
  (ChangeSpec.witness6 (enc:=enc) (C:=Tryz.checked) false ⟨#[],#[.int .i64 0,.agg #[.int .i64 0,.slice none 0 0,.slice none 0 0]],[]⟩ 8 (by kernel_rfl) (by kernel_rfl) (by kernel_rfl) (by kernel_rfl)) ?_
 intro W base args ds gs before hval0 hW hcnd _;have hval: ∀ (j:Nat) t v,Tryz.f3.params[j]? =some t→args[j]? =some v→Value.okWide Tryz.prog W .any base t v:=hval0;have hW':=hW;obtain ⟨p,q,hA0,hV,rfl,hfz,hnd⟩:=hW;have hA:DataW.TrodAll enc Tryz.prog W 0 (λ_=>true) true Tryz.f3.params.toList args.toList ds p:=hA0;rw [Tryz.params3] at hA hval;obtain ⟨v0,vs0,d0,ds0,p0,q0,hargs,rfl,rfl,h0,r0⟩:=trodAll_cons hA;obtain ⟨v1,vs1,d1,ds1,p1,q1,rfl,rfl,rfl,h1,r1⟩:=trodAll_cons r0;obtain ⟨rfl,rfl,rfl⟩:=trodAll_nil r1;obtain rfl:args= #[v0,v1]:=by cases args;simp_all
 obtain ⟨rfl,rfl⟩:=trodVars_none hV;have k0:=h0;have lt0: ∀ x∈p0,x.block<W.heap.size:=by obtain ⟨m,hm⟩:=k0;exact DataW.trod_lt m _ _ _ hm
 have fz0:W.noneFrozen p0:=λb off hm=>hfz b off (by simp [hm]);obtain ⟨a0,rfl⟩:=okWide_int Tryz.underlying3 (hval 0 3 v0 rfl rfl);obtain ⟨fu0,hf0⟩:=h0;obtain ⟨x0,S0,hc0, -,w0⟩:=aHd Tryz.underlying3 H enc W fu0 _ d0 p0 hf0 fz0;simp [Value.cells] at hc0;subst hc0;have k1:=h1;have lt1: ∀ x∈p1,x.block<W.heap.size:=by obtain ⟨m,hm⟩:=k1;exact DataW.trod_lt m _ _ _ hm
 have fz1:W.noneFrozen p1:=λb off hm=>hfz b off (by simp [hm]);obtain ⟨cs1,rfl, -⟩:=okWide_struct Tryz.underlying24 (hval 1 24 v1 rfl rfl);obtain ⟨fu1,hf1⟩:=h1;obtain ⟨x1,S1,w1⟩:=oQ H enc W fu1 _ d1 p1 hf1 fz1;clear hA0 hval0;refine (aAY a0 cs1 x1 S1 W w1).mono λe W' ⟨he,bel⟩=>?_;subst he;exact ⟨_,rfl,_,_,_,[],_,[],hW',trodAll_mk1 (shut_bool Tryz.underlying4 _),(trodAll_cons_mk (Below.trod qF (by kernel_rfl) (of_decide_eq_true (by kernel_rfl)) k0 bel lt0) (trodAll_cons_mk (Below.trod qF (by kernel_rfl) (of_decide_eq_true (by kernel_rfl)) k1 bel lt1) trodAll_mk0)),rfl,bel.frame _,λh=>by cases h⟩
theorem aAk:laidOutB Tryz.pinned.checked.prog=true:=by kernel_rfl
theorem aAl:mapsRowed Tryz.pinned.checked.prog=true:=by kernel_rfl
theorem aAm:(Rows.fnExactIndecomposablesOfRow.inPlace==Tryz.pinned.checked.prog.inPlace 3)=true:=by kernel_rfl
theorem aAn:(Rows.fnExactIndecomposablesOfRow.unfollowed==Tryz.pinned.checked.prog.unfollowed 3)=true:=by kernel_rfl
theorem aAo:(Rows.fnExactIndecomposablesOfRow.recurses==Tryz.pinned.checked.prog.recurses 3)=true:=by kernel_rfl
theorem aAp:(Rows.fnExactIndecomposablesOfRow.named==Tryz.pinned.checked.prog.varsNamed 3)=true:=by kernel_rfl
theorem yS:joinedFacts Tryz.pinned.checked.prog 3 Tryz.f3 Rows.fnExactIndecomposablesOfSpec Rows.fnExactIndecomposablesOfRow=true:=by
 unfold joinedFacts;simp only [cU]
 repeat' apply And.intro
 all_goals (with_reducible first|exact aAk|exact aAl|exact aAm|exact aAn|exact aAo|exact aAp|skip)
 all_goals kernel_rfl
theorem proved_IndecomposablesOf:Rows.FnExactIndecomposablesOfSaid:=
 OpenClaim.holds_of_wide 3 Tryz.f3 rfl rfl rfl rfl rfl rfl rfl ⟨rfl,rfl,rfl,rfl,rfl⟩ rfl rfl rfl rfl rfl (by kernel_rfl) Tryz.func3 yS
  (of_decide_eq_true (by kernel_rfl)) (by unfold Func.isWrapper;first|(rw [aP (by decide+kernel)];kernel_rfl)|(rw [aO (by decide+kernel)];exact ⟨rfl,rfl⟩))
  (λos started H enc _=>yR os started H enc)
#print axioms proved_IndecomposablesOf
end
end Go.Proofs.YtpppcfhgaehcjaaGreat

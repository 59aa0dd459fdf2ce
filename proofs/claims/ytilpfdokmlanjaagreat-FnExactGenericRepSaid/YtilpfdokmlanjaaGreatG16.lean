/-
  The statement of the law FnExactGenericRep: for all arguments the law returns true, and each argument reads afterwards as before. No condition.
-/
import Derived.Test.YtilpfdokmlanjaaGreatRows
import Derived.Test.YtilpfdokmlanjaaGreatG15
set_option linter.unusedVariables false
set_option linter.unusedSimpArgs false
namespace Go.Proofs.YtilpfdokmlanjaaGreat
open Go.RowKit
noncomputable section
open Go.ChangeShapes Go.WideShapes Go.ChangeAt Go.RowKit
theorem aSY {w:World} :RepVs w [] [] []:=by unfold RepVs;exact ⟨rfl,rfl⟩
theorem aFJ {w:World} {c:AV} {cs:List AV} {v:Value} {vs:List Value} {S T:List Nat} (h:RepD w c v S) (k:RepVs w cs vs T):RepVs w (c::cs) (v::vs) (S++T):=by unfold RepVs;exact ⟨v,vs,S,T,rfl,rfl,h,k⟩
theorem aHz (a0:Int) (cs1:Array Value) (x1:Qv) (S1:List Nat) (a2:Option Addr) (len2 cap2:Nat) (x2:List Int) (S2:List Nat) (W:World) (w1:(aDC 3 eQ).rd W cs1.toList x1 S1) (w2:SliceRd (aDC 1 eI) W a2 len2 cap2 x2 S2):
  Calls Tryz.prog 5 #[.int .i64 a0,.agg cs1,.slice a2 len2 cap2] W λe W'=>e= .returned (.bool true)∧Below W.heap.size W W':=by
 have h0:RepD W (.sc (.int .i64 a0)) (.int .i64 a0) []:=aAb rfl;have h1:RepD W (.agg (eQ x1)) (.agg cs1) S1:=by unfold RepD;exact ⟨cs1.toList,by simp,w1.1⟩
 have h2:RepD W (.list 1 (x2.map eI)) (.slice a2 len2 cap2) S2:=aQO w2;refine ((aBx a0 x1 x2 true (aHI (aXZ (aQV w1.1)) (aVo h2))).calls W #[.int .i64 a0,.agg cs1,.slice a2 len2 cap2] ([]++(S1++(S2++[]))) (aFJ h0 (aFJ h1 (aFJ h2 (aSY))))).mono ?_;rintro e W' ⟨v,S',rfl,hb,hr,_⟩;exact ⟨aTK (w0:=W) hr,hb⟩
theorem aJv:ownKnob Tryz.prog.godebug=none:=by kernel_rfl
theorem xJ:laidOutB Tryz.prog=true:=by kernel_rfl
set_option maxRecDepth 100000 in
theorem aGL (os:Os) (started:os.Started) (H:Type) (enc:TypeId×Value→H):
  ReturnsInHanded {} Tryz.checked os 5 .any (Rows.fnExactGenericRepSpec.pre6 enc Tryz.prog Tryz.f5 Rows.fnExactGenericRepRow.domain false) (Rows.fnExactGenericRepSpec.post enc Tryz.prog Tryz.f5 false true false false):=by
 refine returnsInHanded_of_change (C:=Tryz.checked) aJv started (by kernel_rfl) Tryz.func5
  (ChangeSpec.witness6 (enc:=enc) (C:=Tryz.checked) false ⟨#[],#[.int .i64 0,.agg #[.int .i64 0,.slice none 0 0,.slice none 0 0],.slice none 0 0],[]⟩ 8 (by kernel_rfl) (by kernel_rfl) (by kernel_rfl) (by kernel_rfl)) ?_
 intro W base args ds gs before hval0 hW hcnd _;have hval: ∀ (j:Nat) t v,Tryz.f5.params[j]? =some t→args[j]? =some v→Value.okWide Tryz.prog W .any base t v:=hval0;have hW':=hW;obtain ⟨p,q,hA0,hV,rfl,hfz,hnd⟩:=hW;have hA:DataW.TrodAll enc Tryz.prog W 0 (λ_=>true) true Tryz.f5.params.toList args.toList ds p:=hA0;rw [Tryz.params5] at hA hval;obtain ⟨v0,vs0,d0,ds0,p0,q0,hargs,rfl,rfl,h0,r0⟩:=trodAll_cons hA;obtain ⟨v1,vs1,d1,ds1,p1,q1,rfl,rfl,rfl,h1,r1⟩:=trodAll_cons r0;obtain ⟨v2,vs2,d2,ds2,p2,q2,rfl,rfl,rfl,h2,r2⟩:=trodAll_cons r1;obtain ⟨rfl,rfl,rfl⟩:=trodAll_nil r2;obtain rfl:args= #[v0,v1,v2]:=by cases args;simp_all
 obtain ⟨rfl,rfl⟩:=trodVars_none hV;have k0:=h0;have lt0: ∀ x∈p0,x.block<W.heap.size:=by obtain ⟨m,hm⟩:=k0;exact DataW.trod_lt m _ _ _ hm
 have fz0:W.noneFrozen p0:=λb off hm=>hfz b off (by simp [hm]);obtain ⟨a0,rfl⟩:=okWide_int Tryz.underlying3 (hval 0 3 v0 rfl rfl);obtain ⟨fu0,hf0⟩:=h0;obtain ⟨x0,S0,hc0, -,w0⟩:=aKi Tryz.underlying3 H enc W fu0 _ d0 p0 hf0 fz0;simp [Value.cells] at hc0;subst hc0;have k1:=h1;have lt1: ∀ x∈p1,x.block<W.heap.size:=by obtain ⟨m,hm⟩:=k1;exact DataW.trod_lt m _ _ _ hm
 have fz1:W.noneFrozen p1:=λb off hm=>hfz b off (by simp [hm]);obtain ⟨cs1,rfl, -⟩:=okWide_struct Tryz.underlying24 (hval 1 24 v1 rfl rfl);obtain ⟨fu1,hf1⟩:=h1;obtain ⟨x1,S1,w1⟩:=oQ H enc W fu1 _ d1 p1 hf1 fz1;have k2:=h2;have lt2: ∀ x∈p2,x.block<W.heap.size:=by obtain ⟨m,hm⟩:=k2;exact DataW.trod_lt m _ _ _ hm
 have fz2:W.noneFrozen p2:=λb off hm=>hfz b off (by simp [hm]);obtain ⟨a2,len2,cap2,rfl⟩:=okWide_slice Tryz.underlying22 (hval 2 22 v2 rfl rfl);obtain ⟨fu2,hf2⟩:=h2;obtain ⟨l2,S2,a2',n2',c2',hc2,w2⟩:=(aHQ Tryz.underlying22 (by kernel_rfl) (aGa (by decide)) oI) H enc W fu2 _ d2 p2 hf2 fz2;simp [Value.cells] at hc2;obtain ⟨rfl,rfl,rfl⟩:=hc2;clear hA0 hval0;refine (aHz a0 cs1 x1 S1 a2 len2 cap2 l2 S2 W w1 w2).mono λe W' ⟨he,bel⟩=>?_;subst he;exact ⟨_,rfl,_,_,_,[],_,[],hW',trodAll_mk1 (shut_bool Tryz.underlying4 _),(trodAll_cons_mk (Below.trod xJ (by kernel_rfl) (of_decide_eq_true (by kernel_rfl)) k0 bel lt0) (trodAll_cons_mk (Below.trod xJ (by kernel_rfl) (of_decide_eq_true (by kernel_rfl)) k1 bel lt1) (trodAll_cons_mk (Below.trod xJ (by kernel_rfl) (of_decide_eq_true (by kernel_rfl)) k2 bel lt2) trodAll_mk0))),rfl,bel.frame _,λh=>by cases h⟩
theorem aJw:laidOutB Tryz.pinned.checked.prog=true:=by kernel_rfl
theorem aJx:mapsRowed Tryz.pinned.checked.prog=true:=by kernel_rfl
theorem aJy:(Rows.fnExactGenericRepRow.inPlace==Tryz.pinned.checked.prog.inPlace 5)=true:=by kernel_rfl
theorem aJz:(Rows.fnExactGenericRepRow.unfollowed==Tryz.pinned.checked.prog.unfollowed 5)=true:=by kernel_rfl
theorem aKA:(Rows.fnExactGenericRepRow.recurses==Tryz.pinned.checked.prog.recurses 5)=true:=by kernel_rfl
theorem aKB:(Rows.fnExactGenericRepRow.named==Tryz.pinned.checked.prog.varsNamed 5)=true:=by kernel_rfl
theorem aGM:joinedFacts Tryz.pinned.checked.prog 5 Tryz.f5 Rows.fnExactGenericRepSpec Rows.fnExactGenericRepRow=true:=by
 unfold joinedFacts;simp only [dF]
 repeat' apply And.intro
 all_goals (with_reducible first|exact aJw|exact aJx|exact aJy|exact aJz|exact aKA|exact aKB|skip)
 all_goals kernel_rfl
theorem proved_GenericRep:Rows.FnExactGenericRepSaid:=
 OpenClaim.holds_of_wide 5 Tryz.f5 rfl rfl rfl rfl rfl rfl rfl ⟨rfl,rfl,rfl,rfl,rfl⟩ rfl rfl rfl rfl rfl (by kernel_rfl) Tryz.func5 aGM
  (of_decide_eq_true (by kernel_rfl)) (by unfold Func.isWrapper;first|(rw [aY (by decide+kernel)];kernel_rfl)|(rw [aW (by decide+kernel)];exact ⟨rfl,rfl⟩))
  (λos started H enc _=>aGL os started H enc)
#print axioms proved_GenericRep
end
end Go.Proofs.YtilpfdokmlanjaaGreat

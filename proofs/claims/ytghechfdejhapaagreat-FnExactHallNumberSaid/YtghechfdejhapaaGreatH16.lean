/-
  The statement of the law FnExactHallNumber: for all arguments the law returns true, and each argument reads afterwards as before. No condition.
-/
import Derived.Test.YtghechfdejhapaaGreatRows
import Derived.Test.YtghechfdejhapaaGreatH15
set_option linter.unusedVariables false
set_option linter.unusedSimpArgs false
namespace Go.Proofs.YtghechfdejhapaaGreat
open Go.RowKit
noncomputable section
open Go.ChangeShapes Go.WideShapes Go.ChangeAt Go.RowKit
theorem aVl {w:World} :RepVs w [] [] []:=by unfold RepVs;exact ⟨rfl,rfl⟩
theorem aIb {w:World} {c:AV} {cs:List AV} {v:Value} {vs:List Value} {S T:List Nat} (h:RepD w c v S) (k:RepVs w cs vs T):RepVs w (c::cs) (v::vs) (S++T):=by unfold RepVs;exact ⟨v,vs,S,T,rfl,rfl,h,k⟩
theorem aLh (cs0:Array Value) (x0:Rp) (S0:List Nat) (cs1:Array Value) (x1:Rp) (S1:List Nat) (cs2:Array Value) (x2:Rp) (S2:List Nat) (W:World) (w0:(aDr 6 eR).rd W cs0.toList x0 S0) (w1:(aDr 6 eR).rd W cs1.toList x1 S1) (w2:(aDr 6 eR).rd W cs2.toList x2 S2):
  Calls Tryz.prog 12 #[.agg cs0,.agg cs1,.agg cs2] W λe W'=>e= .returned (.bool true)∧Below W.heap.size W W':=by
 have h0:RepD W (.agg (eR x0)) (.agg cs0) S0:=by unfold RepD;exact ⟨cs0.toList,by simp,w0.1⟩
 have h1:RepD W (.agg (eR x1)) (.agg cs1) S1:=by unfold RepD;exact ⟨cs1.toList,by simp,w1.1⟩
 have h2:RepD W (.agg (eR x2)) (.agg cs2) S2:=by unfold RepD;exact ⟨cs2.toList,by simp,w2.1⟩
 refine ((aEb x0 x1 x2 true (aKa (aWl (aLr w0.1)) (aWl (aLr w1.1)) (aWl (aLr w2.1)))).calls W #[.agg cs0,.agg cs1,.agg cs2] (S0++(S1++(S2++[]))) (aIb h0 (aIb h1 (aIb h2 (aVl))))).mono ?_;rintro e W' ⟨v,S',rfl,hb,hr,_⟩;exact ⟨aWm (w0:=W) hr,hb⟩
theorem aNj:ownKnob Tryz.prog.godebug=none:=by kernel_rfl
theorem aAg:laidOutB Tryz.prog=true:=by kernel_rfl
set_option maxRecDepth 100000 in
theorem aJh (os:Os) (started:os.Started) (H:Type) (enc:TypeId×Value→H):
  ReturnsInHanded {} Tryz.checked os 12 .any (Rows.fnExactHallNumberSpec.pre6 enc Tryz.prog Tryz.f12 Rows.fnExactHallNumberRow.domain false) (Rows.fnExactHallNumberSpec.post enc Tryz.prog Tryz.f12 false true false false):=by
 refine returnsInHanded_of_change (C:=Tryz.checked) aNj started (by kernel_rfl) Tryz.func12
  (ChangeSpec.witness6 (enc:=enc) (C:=Tryz.checked) false ⟨#[],#[.agg #[.int .i64 0,.int .i64 0,.slice none 0 0,.slice none 0 0,.slice none 0 0,.slice none 0 0],.agg #[.int .i64 0,.int .i64 0,.slice none 0 0,.slice none 0 0,.slice none 0 0,.slice none 0 0],.agg #[.int .i64 0,.int .i64 0,.slice none 0 0,.slice none 0 0,.slice none 0 0,.slice none 0 0]],[]⟩ 8 (by kernel_rfl) (by kernel_rfl) (by kernel_rfl) (by kernel_rfl)) ?_
 intro W base args ds gs before hval0 hW hcnd _;have hval: ∀ (j:Nat) t v,Tryz.f12.params[j]? =some t→args[j]? =some v→Value.okWide Tryz.prog W .any base t v:=hval0;have hW':=hW;obtain ⟨p,q,hA0,hV,rfl,hfz,hnd⟩:=hW;have hA:DataW.TrodAll enc Tryz.prog W 0 (λ_=>true) true Tryz.f12.params.toList args.toList ds p:=hA0;rw [Tryz.params12] at hA hval;obtain ⟨v0,vs0,d0,ds0,p0,q0,hargs,rfl,rfl,h0,r0⟩:=trodAll_cons hA;obtain ⟨v1,vs1,d1,ds1,p1,q1,rfl,rfl,rfl,h1,r1⟩:=trodAll_cons r0;obtain ⟨v2,vs2,d2,ds2,p2,q2,rfl,rfl,rfl,h2,r2⟩:=trodAll_cons r1;obtain ⟨rfl,rfl,rfl⟩:=trodAll_nil r2;obtain rfl:args= #[v0,v1,v2]:=by cases args;simp_all
 obtain ⟨rfl,rfl⟩:=trodVars_none hV;have k0:=h0;have lt0: ∀ x∈p0,x.block<W.heap.size:=by obtain ⟨m,hm⟩:=k0;exact DataW.trod_lt m _ _ _ hm
 have fz0:W.noneFrozen p0:=λb off hm=>hfz b off (by simp [hm]);obtain ⟨cs0,rfl, -⟩:=okWide_struct Tryz.underlying27 (hval 0 27 v0 rfl rfl);obtain ⟨fu0,hf0⟩:=h0;obtain ⟨x0,S0,w0⟩:=oR H enc W fu0 _ d0 p0 hf0 fz0;have k1:=h1;have lt1: ∀ x∈p1,x.block<W.heap.size:=by obtain ⟨m,hm⟩:=k1;exact DataW.trod_lt m _ _ _ hm
 have fz1:W.noneFrozen p1:=λb off hm=>hfz b off (by simp [hm]);obtain ⟨cs1,rfl, -⟩:=okWide_struct Tryz.underlying27 (hval 1 27 v1 rfl rfl);obtain ⟨fu1,hf1⟩:=h1;obtain ⟨x1,S1,w1⟩:=oR H enc W fu1 _ d1 p1 hf1 fz1;have k2:=h2;have lt2: ∀ x∈p2,x.block<W.heap.size:=by obtain ⟨m,hm⟩:=k2;exact DataW.trod_lt m _ _ _ hm
 have fz2:W.noneFrozen p2:=λb off hm=>hfz b off (by simp [hm]);obtain ⟨cs2,rfl, -⟩:=okWide_struct Tryz.underlying27 (hval 2 27 v2 rfl rfl);obtain ⟨fu2,hf2⟩:=h2;obtain ⟨x2,S2,w2⟩:=oR H enc W fu2 _ d2 p2 hf2 fz2;clear hA0 hval0;refine (aLh cs0 x0 S0 cs1 x1 S1 cs2 x2 S2 W w0 w1 w2).mono λe W' ⟨he,bel⟩=>?_;subst he;exact ⟨_,rfl,_,_,_,[],_,[],hW',trodAll_mk1 (shut_bool Tryz.underlying4 _),(trodAll_cons_mk (Below.trod aAg (by kernel_rfl) (of_decide_eq_true (by kernel_rfl)) k0 bel lt0) (trodAll_cons_mk (Below.trod aAg (by kernel_rfl) (of_decide_eq_true (by kernel_rfl)) k1 bel lt1) (trodAll_cons_mk (Below.trod aAg (by kernel_rfl) (of_decide_eq_true (by kernel_rfl)) k2 bel lt2) trodAll_mk0))),rfl,bel.frame _,λh=>by cases h⟩
theorem aNk:laidOutB Tryz.pinned.checked.prog=true:=by kernel_rfl
theorem aNl:mapsRowed Tryz.pinned.checked.prog=true:=by kernel_rfl
theorem aNm:(Rows.fnExactHallNumberRow.inPlace==Tryz.pinned.checked.prog.inPlace 12)=true:=by kernel_rfl
theorem aNn:(Rows.fnExactHallNumberRow.unfollowed==Tryz.pinned.checked.prog.unfollowed 12)=true:=by kernel_rfl
theorem aNo:(Rows.fnExactHallNumberRow.recurses==Tryz.pinned.checked.prog.recurses 12)=true:=by kernel_rfl
theorem aNp:(Rows.fnExactHallNumberRow.named==Tryz.pinned.checked.prog.varsNamed 12)=true:=by kernel_rfl
theorem aJi:joinedFacts Tryz.pinned.checked.prog 12 Tryz.f12 Rows.fnExactHallNumberSpec Rows.fnExactHallNumberRow=true:=by
 unfold joinedFacts;simp only [dA]
 repeat' apply And.intro
 all_goals (with_reducible first|exact aNk|exact aNl|exact aNm|exact aNn|exact aNo|exact aNp|skip)
 all_goals kernel_rfl
theorem proved_HallNumber:Rows.FnExactHallNumberSaid:=
 OpenClaim.holds_of_wide 12 Tryz.f12 rfl rfl rfl rfl rfl rfl rfl ⟨rfl,rfl,rfl,rfl,rfl⟩ rfl rfl rfl rfl rfl (by kernel_rfl) Tryz.func12 aJi
  (of_decide_eq_true (by kernel_rfl)) (by unfold Func.isWrapper;first|(rw [aV (by decide+kernel)];kernel_rfl)|(rw [aX (by decide+kernel)];exact ⟨rfl,rfl⟩))
  (λos started H enc _=>aJh os started H enc)
#print axioms proved_HallNumber
end
end Go.Proofs.YtghechfdejhapaaGreat

/-
  The statement of the law FnExactGenericSum: for all arguments the law returns true, and each argument reads afterwards as before. No condition.
-/
import Derived.Test.YtpppcfhgaehcjaaRows
import Derived.Test.YtpppcfhgaehcjaaH13
set_option linter.unusedVariables false
set_option linter.unusedSimpArgs false
namespace Go.Proofs.Ytpppcfhgaehcjaa
open Go.RowKit
noncomputable section
open Go.ChangeShapes Go.WideShapes Go.ChangeAt Go.RowKit
theorem aHS {w:World} :RepVs w [] [] []:=by unfold RepVs;exact ⟨rfl,rfl⟩
theorem aBQ {w:World} {c:AV} {cs:List AV} {v:Value} {vs:List Value} {S T:List Nat} (h:RepD w c v S) (k:RepVs w cs vs T):RepVs w (c::cs) (v::vs) (S++T):=by unfold RepVs;exact ⟨v,vs,S,T,rfl,rfl,h,k⟩
theorem zM (cs0:Array Value) (x0:Qv) (S0:List Nat) (a1:Option Addr) (len1 cap1:Nat) (x1:List Int) (S1:List Nat) (W:World) (w0:(rW 3 eQ).rd W cs0.toList x0 S0) (w1:SliceRd (rW 1 eI) W a1 len1 cap1 x1 S1):
  Calls Try.prog 5 #[.agg cs0,.slice a1 len1 cap1] W λe W'=>e= .returned (.bool true)∧Below W.heap.size W W':=by
 have h0:RepD W (.agg (eQ x0)) (.agg cs0) S0:=by unfold RepD;exact ⟨cs0.toList,by simp,w0.1⟩
 have h1:RepD W (.list 1 (x1.map eI)) (.slice a1 len1 cap1) S1:=aFy w1;refine ((qF x0 x1 true (yF (aLR (aGG w0.1)) (aJx h1))).calls W #[.agg cs0,.slice a1 len1 cap1] (S0++(S1++[])) (aBQ h0 (aBQ h1 (aHS)))).mono ?_;rintro e W' ⟨v,S',rfl,hb,hr,_⟩;exact ⟨aIO (w0:=W) hr,hb⟩
theorem aBR:ownKnob Try.prog.godebug=none:=by kernel_rfl
theorem pC:laidOutB Try.prog=true:=by kernel_rfl
set_option maxRecDepth 100000 in
theorem xA (os:Os) (started:os.Started) (H:Type) (enc:TypeId×Value→H):
  ReturnsInHanded {} Try.checked os 5 .any (Rows.fnExactGenericSumSpec.pre6 enc Try.prog Try.f5 Rows.fnExactGenericSumRow.domain false) (Rows.fnExactGenericSumSpec.post enc Try.prog Try.f5 false true false false):=by
 refine returnsInHanded_of_change (C:=Try.checked) aBR started (by kernel_rfl) Try.func5
  (ChangeSpec.witness6 (enc:=enc) (C:=Try.checked) false ⟨#[],#[.agg #[.int .i64 0,.slice none 0 0,.slice none 0 0],.slice none 0 0],[]⟩ 8 (by kernel_rfl) (by kernel_rfl) (by kernel_rfl) (by kernel_rfl)) ?_
 intro W base args ds gs before hval0 hW hcnd _;have hval: ∀ (j:Nat) t v,Try.f5.params[j]? =some t→args[j]? =some v→Value.okWide Try.prog W .any base t v:=hval0;have hW':=hW;obtain ⟨p,q,hA0,hV,rfl,hfz,hnd⟩:=hW;have hA:DataW.TrodAll enc Try.prog W 0 (λ_=>true) true Try.f5.params.toList args.toList ds p:=hA0;rw [Try.params5] at hA hval;obtain ⟨v0,vs0,d0,ds0,p0,q0,hargs,rfl,rfl,h0,r0⟩:=trodAll_cons hA;obtain ⟨v1,vs1,d1,ds1,p1,q1,rfl,rfl,rfl,h1,r1⟩:=trodAll_cons r0;obtain ⟨rfl,rfl,rfl⟩:=trodAll_nil r1;obtain rfl:args= #[v0,v1]:=by cases args;simp_all
 obtain ⟨rfl,rfl⟩:=trodVars_none hV;have k0:=h0;have lt0: ∀ x∈p0,x.block<W.heap.size:=by obtain ⟨m,hm⟩:=k0;exact DataW.trod_lt m _ _ _ hm
 have fz0:W.noneFrozen p0:=λb off hm=>hfz b off (by simp [hm]);obtain ⟨cs0,rfl, -⟩:=okWide_struct Try.underlying24 (hval 0 24 v0 rfl rfl);obtain ⟨fu0,hf0⟩:=h0;obtain ⟨x0,S0,w0⟩:=oQ H enc W fu0 _ d0 p0 hf0 fz0;have k1:=h1;have lt1: ∀ x∈p1,x.block<W.heap.size:=by obtain ⟨m,hm⟩:=k1;exact DataW.trod_lt m _ _ _ hm
 have fz1:W.noneFrozen p1:=λb off hm=>hfz b off (by simp [hm]);obtain ⟨a1,len1,cap1,rfl⟩:=okWide_slice Try.underlying22 (hval 1 22 v1 rfl rfl);obtain ⟨fu1,hf1⟩:=h1;obtain ⟨l1,S1,a1',n1',c1',hc1,w1⟩:=(yP Try.underlying22 (by kernel_rfl) (xK (by decide)) oI) H enc W fu1 _ d1 p1 hf1 fz1;simp [Value.cells] at hc1;obtain ⟨rfl,rfl,rfl⟩:=hc1;clear hA0 hval0;refine (zM cs0 x0 S0 a1 len1 cap1 l1 S1 W w0 w1).mono λe W' ⟨he,bel⟩=>?_;subst he;exact ⟨_,rfl,_,_,_,[],_,[],hW',trodAll_mk1 (shut_bool Try.underlying4 _),(trodAll_cons_mk (Below.trod pC (by kernel_rfl) (of_decide_eq_true (by kernel_rfl)) k0 bel lt0) (trodAll_cons_mk (Below.trod pC (by kernel_rfl) (of_decide_eq_true (by kernel_rfl)) k1 bel lt1) trodAll_mk0)),rfl,bel.frame _,λh=>by cases h⟩
theorem proved_GenericSum:Rows.FnExactGenericSumSaid:=
 OpenClaim.holds_of_wide 5 Try.f5 rfl rfl rfl rfl rfl rfl rfl ⟨rfl,rfl,rfl,rfl,rfl⟩ rfl rfl rfl rfl rfl (by kernel_rfl) Try.func5 (by kernel_rfl)
  (of_decide_eq_true (by kernel_rfl)) (by unfold Func.isWrapper;first|(rw [aY (by decide+kernel)];kernel_rfl)|(rw [aU (by decide+kernel)];exact ⟨rfl,rfl⟩))
  (λos started H enc _=>xA os started H enc)
#print axioms proved_GenericSum
end
end Go.Proofs.Ytpppcfhgaehcjaa

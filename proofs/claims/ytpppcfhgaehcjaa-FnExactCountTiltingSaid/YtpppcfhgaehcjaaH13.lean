/-
  The statement of the law FnExactCountTilting: for all arguments the law returns true, and each argument reads afterwards as before. No condition.
-/
import Derived.Test.YtpppcfhgaehcjaaRows
import Derived.Test.YtpppcfhgaehcjaaH12
set_option linter.unusedVariables false
set_option linter.unusedSimpArgs false
namespace Go.Proofs.Ytpppcfhgaehcjaa
open Go.RowKit
noncomputable section
open Go.ChangeShapes Go.WideShapes Go.ChangeAt Go.RowKit
theorem aFt {w:World} :RepVs w [] [] []:=by unfold RepVs;exact ⟨rfl,rfl⟩
theorem aER {w:World} {c:AV} {cs:List AV} {v:Value} {vs:List Value} {S T:List Nat} (h:RepD w c v S) (k:RepVs w cs vs T):RepVs w (c::cs) (v::vs) (S++T):=by unfold RepVs;exact ⟨v,vs,S,T,rfl,rfl,h,k⟩
theorem vA (cs0:Array Value) (x0:Qv) (S0:List Nat) (W:World) (w0:(qT 3 eQ).rd W cs0.toList x0 S0):
  Calls Try.prog 3 #[.agg cs0] W λe W'=>e= .returned (.bool true)∧Below W.heap.size W W':=by
 have h0:RepD W (.agg (eQ x0)) (.agg cs0) S0:=by unfold RepD;exact ⟨cs0.toList,by simp,w0.1⟩
 refine ((nN x0 true (tM (aKB (aEo w0.1)))).calls W #[.agg cs0] (S0++[]) (aER h0 (aFt))).mono ?_;rintro e W' ⟨v,S',rfl,hb,hr,_⟩;exact ⟨aGx (w0:=W) hr,hb⟩
theorem wD:ownKnob Try.prog.godebug=none:=by kernel_rfl
theorem rF:laidOutB Try.prog=true:=by kernel_rfl
set_option maxRecDepth 100000 in
theorem sH (os:Os) (started:os.Started) (H:Type) (enc:TypeId×Value→H):
  ReturnsInHanded {} Try.checked os 3 .any (Rows.fnExactCountTiltingSpec.pre6 enc Try.prog Try.f3 Rows.fnExactCountTiltingRow.domain false) (Rows.fnExactCountTiltingSpec.post enc Try.prog Try.f3 false true false false):=by
 refine returnsInHanded_of_change (C:=Try.checked) wD started (by kernel_rfl) Try.func3
  (ChangeSpec.witness6 (enc:=enc) (C:=Try.checked) false ⟨#[],#[.agg #[.int .i64 0,.slice none 0 0,.slice none 0 0]],[]⟩ 8 (by kernel_rfl) (by kernel_rfl) (by kernel_rfl) (by kernel_rfl)) ?_
 intro W base args ds gs before hval0 hW hcnd _;have hval: ∀ (j:Nat) t v,Try.f3.params[j]? =some t→args[j]? =some v→Value.okWide Try.prog W .any base t v:=hval0;have hW':=hW;obtain ⟨p,q,hA0,hV,rfl,hfz,hnd⟩:=hW;have hA:DataW.TrodAll enc Try.prog W 0 (λ_=>true) true Try.f3.params.toList args.toList ds p:=hA0;rw [Try.params3] at hA hval;obtain ⟨v0,vs0,d0,ds0,p0,q0,hargs,rfl,rfl,h0,r0⟩:=trodAll_cons hA;obtain ⟨rfl,rfl,rfl⟩:=trodAll_nil r0;obtain rfl:args= #[v0]:=by cases args;simp_all
 obtain ⟨rfl,rfl⟩:=trodVars_none hV;have k0:=h0;have lt0: ∀ x∈p0,x.block<W.heap.size:=by obtain ⟨m,hm⟩:=k0;exact DataW.trod_lt m _ _ _ hm
 have fz0:W.noneFrozen p0:=λb off hm=>hfz b off (by simp [hm]);obtain ⟨cs0,rfl, -⟩:=okWide_struct Try.underlying24 (hval 0 24 v0 rfl rfl);obtain ⟨fu0,hf0⟩:=h0;obtain ⟨x0,S0,w0⟩:=oQ H enc W fu0 _ d0 p0 hf0 fz0;clear hA0 hval0;refine (vA cs0 x0 S0 W w0).mono λe W' ⟨he,bel⟩=>?_;subst he;exact ⟨_,rfl,_,_,_,[],_,[],hW',trodAll_mk1 (shut_bool Try.underlying4 _),(trodAll_cons_mk (Below.trod rF (by kernel_rfl) (of_decide_eq_true (by kernel_rfl)) k0 bel lt0) trodAll_mk0),rfl,bel.frame _,λh=>by cases h⟩
theorem proved_CountTilting:Rows.FnExactCountTiltingSaid:=
 OpenClaim.holds_of_wide 3 Try.f3 rfl rfl rfl rfl rfl rfl rfl ⟨rfl,rfl,rfl,rfl,rfl⟩ rfl rfl rfl rfl rfl (by kernel_rfl) Try.func3 (by kernel_rfl)
  (of_decide_eq_true (by kernel_rfl)) (by unfold Func.isWrapper;first|(rw [aW (by decide+kernel)];kernel_rfl)|(rw [aR (by decide+kernel)];exact ⟨rfl,rfl⟩))
  (λos started H enc _=>sH os started H enc)
#print axioms proved_CountTilting
end
end Go.Proofs.Ytpppcfhgaehcjaa

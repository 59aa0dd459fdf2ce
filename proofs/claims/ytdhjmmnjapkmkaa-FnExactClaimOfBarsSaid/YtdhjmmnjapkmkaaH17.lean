/-
  The statement of the law FnExactClaimOfBars: for all arguments the law returns true, and each argument reads afterwards as before. No condition.
-/
import Derived.Test.YtdhjmmnjapkmkaaRows
import Derived.Test.YtdhjmmnjapkmkaaH16
section
set_option linter.unusedVariables false
set_option linter.unusedSimpArgs false

namespace Go.Proofs.Ytdhjmmnjapkmkaa
open Go.ChangeShapes Go.WideShapes Go.ChangeAt Go.RowKit
set_option linter.unusedVariables false
theorem repVs_nil {w : World} : RepVs w [] [] [] := by unfold RepVs; exact ⟨rfl, rfl⟩
theorem repVs_cons {w : World} {c : AV} {cs : List AV} {v : Value} {vs : List Value} {S T : List Nat} (h : RepD w c v S) (k : RepVs w cs vs T) : RepVs w (c :: cs) (v :: vs) (S ++ T) := by unfold RepVs; exact ⟨v, vs, S, T, rfl, rfl, h, k⟩
theorem walk_ClaimOfBars (cs0 : Array Value) (x0 : Rp) (S0 : List Nat) (W : World) (w0 : (ShpA 6 eR).rd W cs0.toList x0 S0) :
  Calls Try.prog 3 #[.agg cs0] W fun e W' => e = .returned (.bool true) ∧ Below W.heap.size W W' := by
 have h0 : RepD W (.agg (eR x0)) (.agg cs0) S0 := by unfold RepD; exact ⟨cs0.toList, by simp, w0.1⟩
 refine ((c_laws_FnExactClaimOfBars x0 true (plain_ClaimOfBars (fR_of (rvs_mem w0.1)))).calls W #[.agg cs0] (S0 ++ []) (repVs_cons h0 (repVs_nil))).mono ?_
 rintro e W' ⟨v, S', rfl, hb, hr, _⟩
 exact ⟨ret_true (w0 := W) hr, hb⟩
theorem own_ClaimOfBars : ownKnob Try.prog.godebug = none := by kernel_rfl
theorem laidOut_ClaimOfBars : laidOutB Try.prog = true := by kernel_rfl
set_option maxRecDepth 100000 in
theorem lifted_ClaimOfBars (os : Os) (started : os.Started) (H : Type) (enc : TypeId × Value → H) :
  ReturnsInHanded {} Try.checked os 3 .any (Rows.fnExactClaimOfBarsSpec.pre6 enc Try.prog Try.f3 Rows.fnExactClaimOfBarsRow.domain false) (Rows.fnExactClaimOfBarsSpec.post enc Try.prog Try.f3 false true false false) := by
 refine returnsInHanded_of_change (C := Try.checked) own_ClaimOfBars started (by kernel_rfl) Try.func3
  (ChangeSpec.witness6 (enc := enc) (C := Try.checked) false ⟨#[], #[.agg #[.int .i64 0, .int .i64 0, .slice none 0 0, .slice none 0 0, .slice none 0 0, .slice none 0 0]], []⟩ 8 (by kernel_rfl) (by kernel_rfl) (by kernel_rfl) (by kernel_rfl)) ?_
 intro W base args ds gs before hval0 hW hcnd _
 have hval : ∀ (j : Nat) t v, Try.f3.params[j]? = some t → args[j]? = some v → Value.okWide Try.prog W .any base t v := hval0
 have hW' := hW
 obtain ⟨p, q, hA0, hV, rfl, hfz, hnd⟩ := hW
 have hA : DataW.TrodAll enc Try.prog W 0 (fun _ => true) true Try.f3.params.toList args.toList ds p := hA0
 rw [Try.params3] at hA hval
 obtain ⟨v0, vs0, d0, ds0, p0, q0, hargs, rfl, rfl, h0, r0⟩ := trodAll_cons hA
 obtain ⟨rfl, rfl, rfl⟩ := trodAll_nil r0
 obtain rfl : args = #[v0] := by cases args; simp_all
 obtain ⟨rfl, rfl⟩ := trodVars_none hV
 have k0 := h0
 have lt0 : ∀ x ∈ p0, x.block < W.heap.size := by obtain ⟨m, hm⟩ := k0; exact DataW.trod_lt m _ _ _ hm
 have fz0 : W.noneFrozen p0 := fun b off hm => hfz b off (by simp [hm])
 obtain ⟨cs0, rfl, -⟩ := okWide_struct Try.underlying27 (hval 0 27 v0 rfl rfl)
 obtain ⟨fu0, hf0⟩ := h0
 obtain ⟨x0, S0, w0⟩ := oR H enc W fu0 _ d0 p0 hf0 fz0
 clear hA0 hval0
 refine (walk_ClaimOfBars cs0 x0 S0 W w0).mono fun e W' ⟨he, bel⟩ => ?_
 subst he
 exact ⟨_, rfl, _, _, _, [], _, [], hW', trodAll_mk1 (shut_bool Try.underlying4 _), (trodAll_cons_mk (Below.trod laidOut_ClaimOfBars (by kernel_rfl) (of_decide_eq_true (by kernel_rfl)) k0 bel lt0) trodAll_mk0), rfl, bel.frame _, fun h => by cases h⟩
theorem proved_ClaimOfBars : Rows.FnExactClaimOfBarsSaid :=
 OpenClaim.holds_of_wide 3 Try.f3 rfl rfl rfl rfl rfl rfl rfl ⟨rfl, rfl, rfl, rfl, rfl⟩ rfl rfl rfl rfl rfl (by kernel_rfl) Try.func3 (by kernel_rfl)
  (of_decide_eq_true (by kernel_rfl)) (by unfold Func.isWrapper; first | (rw [if_pos (by decide +kernel)]; kernel_rfl) | (rw [if_neg (by decide +kernel)]; exact ⟨rfl, rfl⟩))
  (fun os started H enc _ => lifted_ClaimOfBars os started H enc)
#print axioms proved_ClaimOfBars
end Go.Proofs.Ytdhjmmnjapkmkaa
end

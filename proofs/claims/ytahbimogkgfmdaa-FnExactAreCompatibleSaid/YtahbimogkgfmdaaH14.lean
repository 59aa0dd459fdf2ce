/-
  The statement of the law FnExactAreCompatible: for all arguments the law returns true, and each argument reads afterwards as before. No condition.
-/
import Derived.Test.YtahbimogkgfmdaaRows
import Derived.Test.YtahbimogkgfmdaaH13
section
set_option linter.unusedVariables false
set_option linter.unusedSimpArgs false
/-
  The statement of the law FnExactAreCompatible: for all arguments the law returns true, and each argument reads afterwards as before. No condition.
-/
namespace Go.Proofs.Ytahbimogkgfmdaa
open Go.ChangeShapes Go.WideShapes Go.ChangeAt Go.RowKit
set_option linter.unusedVariables false

theorem repVs_nil {w : World} : RepVs w [] [] [] := by unfold RepVs; exact ⟨rfl, rfl⟩
theorem repVs_cons {w : World} {c : AV} {cs : List AV} {v : Value} {vs : List Value} {S T : List Nat} (h : RepD w c v S) (k : RepVs w cs vs T) : RepVs w (c :: cs) (v :: vs) (S ++ T) := by unfold RepVs; exact ⟨v, vs, S, T, rfl, rfl, h, k⟩
theorem walk_AreCompatible (cs0 : Array Value) (x0 : Qv) (S0 : List Nat) (a1 : Option Addr) (len1 cap1 : Nat) (x1 : List Int) (S1 : List Nat) (a2 : Option Addr) (len2 cap2 : Nat) (x2 : List Int) (S2 : List Nat) (W : World) (w0 : (ShpA 3 eQ).rd W cs0.toList x0 S0) (w1 : SliceRd (ShpA 1 eI) W a1 len1 cap1 x1 S1) (w2 : SliceRd (ShpA 1 eI) W a2 len2 cap2 x2 S2) :
    Calls Try.prog 5 #[.agg cs0, .slice a1 len1 cap1, .slice a2 len2 cap2] W fun e W' => e = .returned (.bool true) ∧ Below W.heap.size W W' := by
  have h0 : RepD W (.agg (eQ x0)) (.agg cs0) S0 := by unfold RepD; exact ⟨cs0.toList, by simp, w0.1⟩
  have h1 : RepD W (.list 1 (x1.map eI)) (.slice a1 len1 cap1) S1 := slice_A w1
  have h2 : RepD W (.list 1 (x2.map eI)) (.slice a2 len2 cap2) S2 := slice_A w2
  refine ((c_laws_FnExactAreCompatible x0 x1 x2 true (plain_AreCompatible (fQ_of (rvs_mem w0.1)) (fI_of h1) (fI_of h2))).calls W #[.agg cs0, .slice a1 len1 cap1, .slice a2 len2 cap2] (S0 ++ (S1 ++ (S2 ++ []))) (repVs_cons h0 (repVs_cons h1 (repVs_cons h2 (repVs_nil))))).mono ?_
  rintro e W' ⟨v, S', rfl, hb, hr, _⟩
  exact ⟨ret_true (w0 := W) hr, hb⟩

theorem own_AreCompatible : ownKnob Try.prog.godebug = none := by kernel_rfl
theorem laidOut_AreCompatible : laidOutB Try.prog = true := by kernel_rfl

set_option maxRecDepth 100000 in
theorem lifted_AreCompatible (os : Os) (started : os.Started) (H : Type) (enc : TypeId × Value → H) :
    ReturnsInHanded {} Try.checked os 5 .any (Rows.fnExactAreCompatibleSpec.pre6 enc Try.prog Try.f5 Rows.fnExactAreCompatibleRow.domain false) (Rows.fnExactAreCompatibleSpec.post enc Try.prog Try.f5 false true false false) := by
  refine returnsInHanded_of_change (C := Try.checked) own_AreCompatible started (by kernel_rfl) Try.func5
    (ChangeSpec.witness6 (enc := enc) (C := Try.checked) false ⟨#[], #[.agg #[.int .i64 0, .slice none 0 0, .slice none 0 0], .slice none 0 0, .slice none 0 0], []⟩ 8 (by kernel_rfl) (by kernel_rfl) (by kernel_rfl) (by kernel_rfl)) ?_
  intro W base args ds gs before hval0 hW hcnd _
  have hval : ∀ (j : Nat) t v, Try.f5.params[j]? = some t → args[j]? = some v → Value.okWide Try.prog W .any base t v := hval0
  have hW' := hW
  obtain ⟨p, q, hA0, hV, rfl, hfz, hnd⟩ := hW
  have hA : DataW.TrodAll enc Try.prog W 0 (fun _ => true) true Try.f5.params.toList args.toList ds p := hA0
  rw [Try.params5] at hA hval
  obtain ⟨v0, vs0, d0, ds0, p0, q0, hargs, rfl, rfl, h0, r0⟩ := trodAll_cons hA
  obtain ⟨v1, vs1, d1, ds1, p1, q1, rfl, rfl, rfl, h1, r1⟩ := trodAll_cons r0
  obtain ⟨v2, vs2, d2, ds2, p2, q2, rfl, rfl, rfl, h2, r2⟩ := trodAll_cons r1
  obtain ⟨rfl, rfl, rfl⟩ := trodAll_nil r2
  obtain rfl : args = #[v0, v1, v2] := by cases args; simp_all
  obtain ⟨rfl, rfl⟩ := trodVars_none hV
  have k0 := h0
  have lt0 : ∀ x ∈ p0, x.block < W.heap.size := by obtain ⟨m, hm⟩ := k0; exact DataW.trod_lt m _ _ _ hm
  have fz0 : W.noneFrozen p0 := fun b off hm => hfz b off (by simp [hm])
  obtain ⟨cs0, rfl, -⟩ := okWide_struct Try.underlying24 (hval 0 24 v0 rfl rfl)
  obtain ⟨fu0, hf0⟩ := h0
  obtain ⟨x0, S0, w0⟩ := oQ H enc W fu0 _ d0 p0 hf0 fz0
  have k1 := h1
  have lt1 : ∀ x ∈ p1, x.block < W.heap.size := by obtain ⟨m, hm⟩ := k1; exact DataW.trod_lt m _ _ _ hm
  have fz1 : W.noneFrozen p1 := fun b off hm => hfz b off (by simp [hm])
  obtain ⟨a1, len1, cap1, rfl⟩ := okWide_slice Try.underlying22 (hval 1 22 v1 rfl rfl)
  obtain ⟨fu1, hf1⟩ := h1
  obtain ⟨l1, S1, a1', n1', c1', hc1, w1⟩ := (opens_slice Try.underlying22 (by kernel_rfl) (shpA_good (by decide)) oI) H enc W fu1 _ d1 p1 hf1 fz1
  simp [Value.cells] at hc1
  obtain ⟨rfl, rfl, rfl⟩ := hc1
  have k2 := h2
  have lt2 : ∀ x ∈ p2, x.block < W.heap.size := by obtain ⟨m, hm⟩ := k2; exact DataW.trod_lt m _ _ _ hm
  have fz2 : W.noneFrozen p2 := fun b off hm => hfz b off (by simp [hm])
  obtain ⟨a2, len2, cap2, rfl⟩ := okWide_slice Try.underlying22 (hval 2 22 v2 rfl rfl)
  obtain ⟨fu2, hf2⟩ := h2
  obtain ⟨l2, S2, a2', n2', c2', hc2, w2⟩ := (opens_slice Try.underlying22 (by kernel_rfl) (shpA_good (by decide)) oI) H enc W fu2 _ d2 p2 hf2 fz2
  simp [Value.cells] at hc2
  obtain ⟨rfl, rfl, rfl⟩ := hc2
  clear hA0 hval0
  refine (walk_AreCompatible cs0 x0 S0 a1 len1 cap1 l1 S1 a2 len2 cap2 l2 S2 W w0 w1 w2).mono fun e W' ⟨he, bel⟩ => ?_
  subst he
  exact ⟨_, rfl, _, _, _, [], _, [], hW', trodAll_mk1 (shut_bool Try.underlying4 _), (trodAll_cons_mk (Below.trod laidOut_AreCompatible (by kernel_rfl) (of_decide_eq_true (by kernel_rfl)) k0 bel lt0) (trodAll_cons_mk (Below.trod laidOut_AreCompatible (by kernel_rfl) (of_decide_eq_true (by kernel_rfl)) k1 bel lt1) (trodAll_cons_mk (Below.trod laidOut_AreCompatible (by kernel_rfl) (of_decide_eq_true (by kernel_rfl)) k2 bel lt2) trodAll_mk0))), rfl, bel.frame _, fun h => by cases h⟩

theorem proved_AreCompatible : Rows.FnExactAreCompatibleSaid :=
  OpenClaim.holds_of_wide 5 Try.f5 rfl rfl rfl rfl rfl rfl rfl ⟨rfl, rfl, rfl, rfl, rfl⟩ rfl rfl rfl rfl rfl (by kernel_rfl) Try.func5 (by kernel_rfl)
    (of_decide_eq_true (by kernel_rfl)) (by unfold Func.isWrapper; first | (rw [if_pos (by decide +kernel)]; kernel_rfl) | (rw [if_neg (by decide +kernel)]; exact ⟨rfl, rfl⟩))
    (fun os started H enc _ => lifted_AreCompatible os started H enc)
#print axioms proved_AreCompatible
end Go.Proofs.Ytahbimogkgfmdaa
end

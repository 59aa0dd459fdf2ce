/-
  The statement of the law FnExactRepOfSubspaces: for all arguments the law returns true, and each argument reads afterwards as before. No condition.
-/
import Derived.Test.YtjfcjkeghigipaaRows
import Derived.Test.YtjfcjkeghigipaaH9
section
set_option linter.unusedVariables false
set_option linter.unusedSimpArgs false
/-
  The statement of the law FnExactRepOfSubspaces: for all arguments the law returns true, and each argument reads afterwards as before. No condition.
-/
namespace Go.Proofs.Ytjfcjkeghigipaa
open Go.ChangeShapes Go.WideShapes Go.ChangeAt Go.RowKit
set_option linter.unusedVariables false

theorem repVs_nil {w : World} : RepVs w [] [] [] := by unfold RepVs; exact ⟨rfl, rfl⟩
theorem repVs_cons {w : World} {c : AV} {cs : List AV} {v : Value} {vs : List Value} {S T : List Nat} (h : RepD w c v S) (k : RepVs w cs vs T) : RepVs w (c :: cs) (v :: vs) (S ++ T) := by unfold RepVs; exact ⟨v, vs, S, T, rfl, rfl, h, k⟩
theorem walk_RepOfSubspaces (a0 : Int) (a1 : Int) (a2 : Option Addr) (len2 cap2 : Nat) (x2 : List Sc) (S2 : List Nat) (W : World) (w2 : SliceRd (ShpA 2 eS) W a2 len2 cap2 x2 S2) :
    Calls Try.prog 6 #[.int .i64 a0, .int .i64 a1, .slice a2 len2 cap2] W fun e W' => e = .returned (.bool true) ∧ Below W.heap.size W W' := by
  have h0 : RepD W (.sc (.int .i64 a0)) (.int .i64 a0) [] := repD_sc rfl
  have h1 : RepD W (.sc (.int .i64 a1)) (.int .i64 a1) [] := repD_sc rfl
  have h2 : RepD W (.list 2 (x2.map eS)) (.slice a2 len2 cap2) S2 := slice_A w2
  refine ((c_laws_FnExactRepOfSubspaces a0 a1 x2 true (plain_RepOfSubspaces (fSs_of (w := W) (ds := [.list 2 (x2.map eS)]) (fun d hd => by rcases List.mem_singleton.1 hd with rfl; exact ⟨_, _, h2⟩) (by simp)))).calls W #[.int .i64 a0, .int .i64 a1, .slice a2 len2 cap2] ([] ++ ([] ++ (S2 ++ []))) (repVs_cons h0 (repVs_cons h1 (repVs_cons h2 (repVs_nil))))).mono ?_
  rintro e W' ⟨v, S', rfl, hb, hr, _⟩
  exact ⟨ret_true (w0 := W) hr, hb⟩

theorem own_RepOfSubspaces : ownKnob Try.prog.godebug = none := by kernel_rfl
theorem laidOut_RepOfSubspaces : laidOutB Try.prog = true := by kernel_rfl

set_option maxRecDepth 100000 in
theorem lifted_RepOfSubspaces (os : Os) (started : os.Started) (H : Type) (enc : TypeId × Value → H) :
    ReturnsInHanded {} Try.checked os 6 .any (Rows.fnExactRepOfSubspacesSpec.pre6 enc Try.prog Try.f6 Rows.fnExactRepOfSubspacesRow.domain false) (Rows.fnExactRepOfSubspacesSpec.post enc Try.prog Try.f6 false true false false) := by
  refine returnsInHanded_of_change (C := Try.checked) own_RepOfSubspaces started (by kernel_rfl) Try.func6
    (ChangeSpec.witness6 (enc := enc) (C := Try.checked) false ⟨#[], #[.int .i64 0, .int .i64 0, .slice none 0 0], []⟩ 8 (by kernel_rfl) (by kernel_rfl) (by kernel_rfl) (by kernel_rfl)) ?_
  intro W base args ds gs before hval0 hW hcnd _
  have hval : ∀ (j : Nat) t v, Try.f6.params[j]? = some t → args[j]? = some v → Value.okWide Try.prog W .any base t v := hval0
  have hW' := hW
  obtain ⟨p, q, hA0, hV, rfl, hfz, hnd⟩ := hW
  have hA : DataW.TrodAll enc Try.prog W 0 (fun _ => true) true Try.f6.params.toList args.toList ds p := hA0
  rw [Try.params6] at hA hval
  obtain ⟨v0, vs0, d0, ds0, p0, q0, hargs, rfl, rfl, h0, r0⟩ := trodAll_cons hA
  obtain ⟨v1, vs1, d1, ds1, p1, q1, rfl, rfl, rfl, h1, r1⟩ := trodAll_cons r0
  obtain ⟨v2, vs2, d2, ds2, p2, q2, rfl, rfl, rfl, h2, r2⟩ := trodAll_cons r1
  obtain ⟨rfl, rfl, rfl⟩ := trodAll_nil r2
  obtain rfl : args = #[v0, v1, v2] := by cases args; simp_all
  obtain ⟨rfl, rfl⟩ := trodVars_none hV
  have k0 := h0
  have lt0 : ∀ x ∈ p0, x.block < W.heap.size := by obtain ⟨m, hm⟩ := k0; exact DataW.trod_lt m _ _ _ hm
  have fz0 : W.noneFrozen p0 := fun b off hm => hfz b off (by simp [hm])
  obtain ⟨a0, rfl⟩ := okWide_int Try.underlying3 (hval 0 3 v0 rfl rfl)
  obtain ⟨fu0, hf0⟩ := h0
  obtain ⟨x0, S0, hc0, -, w0⟩ := opens_int Try.underlying3 H enc W fu0 _ d0 p0 hf0 fz0
  simp [Value.cells] at hc0
  subst hc0
  have k1 := h1
  have lt1 : ∀ x ∈ p1, x.block < W.heap.size := by obtain ⟨m, hm⟩ := k1; exact DataW.trod_lt m _ _ _ hm
  have fz1 : W.noneFrozen p1 := fun b off hm => hfz b off (by simp [hm])
  obtain ⟨a1, rfl⟩ := okWide_int Try.underlying3 (hval 1 3 v1 rfl rfl)
  obtain ⟨fu1, hf1⟩ := h1
  obtain ⟨x1, S1, hc1, -, w1⟩ := opens_int Try.underlying3 H enc W fu1 _ d1 p1 hf1 fz1
  simp [Value.cells] at hc1
  subst hc1
  have k2 := h2
  have lt2 : ∀ x ∈ p2, x.block < W.heap.size := by obtain ⟨m, hm⟩ := k2; exact DataW.trod_lt m _ _ _ hm
  have fz2 : W.noneFrozen p2 := fun b off hm => hfz b off (by simp [hm])
  obtain ⟨a2, len2, cap2, rfl⟩ := okWide_slice Try.underlying50 (hval 2 50 v2 rfl rfl)
  obtain ⟨fu2, hf2⟩ := h2
  obtain ⟨l2, S2, a2', n2', c2', hc2, w2⟩ := (opens_slice Try.underlying50 (by kernel_rfl) (shpA_good (by decide)) oS) H enc W fu2 _ d2 p2 hf2 fz2
  simp [Value.cells] at hc2
  obtain ⟨rfl, rfl, rfl⟩ := hc2
  clear hA0 hval0
  refine (walk_RepOfSubspaces a0 a1 a2 len2 cap2 l2 S2 W w2).mono fun e W' ⟨he, bel⟩ => ?_
  subst he
  exact ⟨_, rfl, _, _, _, [], _, [], hW', trodAll_mk1 (shut_bool Try.underlying4 _), (trodAll_cons_mk (Below.trod laidOut_RepOfSubspaces (by kernel_rfl) (of_decide_eq_true (by kernel_rfl)) k0 bel lt0) (trodAll_cons_mk (Below.trod laidOut_RepOfSubspaces (by kernel_rfl) (of_decide_eq_true (by kernel_rfl)) k1 bel lt1) (trodAll_cons_mk (Below.trod laidOut_RepOfSubspaces (by kernel_rfl) (of_decide_eq_true (by kernel_rfl)) k2 bel lt2) trodAll_mk0))), rfl, bel.frame _, fun h => by cases h⟩

theorem proved_RepOfSubspaces : Rows.FnExactRepOfSubspacesSaid :=
  OpenClaim.holds_of_wide 6 Try.f6 rfl rfl rfl rfl rfl rfl rfl ⟨rfl, rfl, rfl, rfl, rfl⟩ rfl rfl rfl rfl rfl (by kernel_rfl) Try.func6 (by kernel_rfl)
    (of_decide_eq_true (by kernel_rfl)) (by unfold Func.isWrapper; first | (rw [if_pos (by decide +kernel)]; kernel_rfl) | (rw [if_neg (by decide +kernel)]; exact ⟨rfl, rfl⟩))
    (fun os started H enc _ => lifted_RepOfSubspaces os started H enc)
#print axioms proved_RepOfSubspaces
end Go.Proofs.Ytjfcjkeghigipaa
end

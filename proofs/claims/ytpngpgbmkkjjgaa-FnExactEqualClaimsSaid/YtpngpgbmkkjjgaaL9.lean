/-
  The law on EqualClaims, for the frame.
-/
import Derived.Test.YtpngpgbmkkjjgaaE8
import Derived.Test.YtpngpgbmkkjjgaaA19
namespace Go.Proofs.Ytpngpgbmkkjjgaa
open Go.RowKit

theorem ret_true {w0 w : World} {v : Value} {S : List Nat} (h : ResA w (.bl true) v S) : Ending.returned v = .returned (.bool true) := by rw [h.1]

theorem walk_EqualClaims (cs0 : Array Value) (x0 : Cl) (S0 : List Nat) (cs1 : Array Value) (x1 : Cl) (S1 : List Nat) (W : World) (w0 : (ShpA 18 eC).rd W cs0.toList x0 S0) (w1 : (ShpA 18 eC).rd W cs1.toList x1 S1) :
    Calls Try.prog 6 #[.agg cs0, .agg cs1] W fun e W' => e = .returned (.bool true) ∧ Below W.heap.size W W' := by
  have h0 : RepD W (.agg (eC x0)) (.agg cs0) S0 := by unfold RepD; exact ⟨cs0.toList, by simp, w0.1⟩
  have h1 : RepD W (.agg (eC x1)) (.agg cs1) S1 := by unfold RepD; exact ⟨cs1.toList, by simp, w1.1⟩
  refine ((law_EqualClaims x0 x1).calls W #[.agg cs0, .agg cs1] (S0 ++ (S1 ++ [])) ?_).mono ?_
  · unfold RepVs
    refine ⟨_, _, S0, S1 ++ [], rfl, rfl, h0, ?_⟩
    unfold RepVs
    exact ⟨_, _, S1, [], rfl, rfl, h1, by simp [RepVs]⟩
  · rintro e W' ⟨v, S', rfl, hb, hr, _⟩
    exact ⟨ret_true (w0 := W) hr, hb⟩
end Go.Proofs.Ytpngpgbmkkjjgaa

/-
  The law FnExactClaimWord: the program's ClaimWord returns what the reference's returns, for all arguments. No condition.
-/
import Derived.Test.YtfnmcjpbknnmjaaC1
namespace Go.Proofs.Ytfnmcjpbknnmjaa
open Go.RowKit

theorem word_at0 (w : World) : (Instr.index 38 (.agg #[.string ⟨#[112, 97, 114, 116, 115]⟩, .string ⟨#[115, 97, 109, 101]⟩, .string ⟨#[100, 105, 102, 102, 101, 114, 101, 110, 116]⟩, .string ⟨#[101, 120, 116, 101, 110, 115, 105, 111, 110]⟩, .string ⟨#[98, 97, 114, 115]⟩, .string ⟨#[115, 108, 111, 112, 101]⟩]) (.int .i64 0)).run Try.prog w = .ok (.string ⟨#[112, 97, 114, 116, 115]⟩) w := by kernel_rfl
theorem word_at1 (w : World) : (Instr.index 38 (.agg #[.string ⟨#[112, 97, 114, 116, 115]⟩, .string ⟨#[115, 97, 109, 101]⟩, .string ⟨#[100, 105, 102, 102, 101, 114, 101, 110, 116]⟩, .string ⟨#[101, 120, 116, 101, 110, 115, 105, 111, 110]⟩, .string ⟨#[98, 97, 114, 115]⟩, .string ⟨#[115, 108, 111, 112, 101]⟩]) (.int .i64 1)).run Try.prog w = .ok (.string ⟨#[115, 97, 109, 101]⟩) w := by kernel_rfl
theorem word_at2 (w : World) : (Instr.index 38 (.agg #[.string ⟨#[112, 97, 114, 116, 115]⟩, .string ⟨#[115, 97, 109, 101]⟩, .string ⟨#[100, 105, 102, 102, 101, 114, 101, 110, 116]⟩, .string ⟨#[101, 120, 116, 101, 110, 115, 105, 111, 110]⟩, .string ⟨#[98, 97, 114, 115]⟩, .string ⟨#[115, 108, 111, 112, 101]⟩]) (.int .i64 2)).run Try.prog w = .ok (.string ⟨#[100, 105, 102, 102, 101, 114, 101, 110, 116]⟩) w := by kernel_rfl
theorem word_at3 (w : World) : (Instr.index 38 (.agg #[.string ⟨#[112, 97, 114, 116, 115]⟩, .string ⟨#[115, 97, 109, 101]⟩, .string ⟨#[100, 105, 102, 102, 101, 114, 101, 110, 116]⟩, .string ⟨#[101, 120, 116, 101, 110, 115, 105, 111, 110]⟩, .string ⟨#[98, 97, 114, 115]⟩, .string ⟨#[115, 108, 111, 112, 101]⟩]) (.int .i64 3)).run Try.prog w = .ok (.string ⟨#[101, 120, 116, 101, 110, 115, 105, 111, 110]⟩) w := by kernel_rfl
theorem word_at4 (w : World) : (Instr.index 38 (.agg #[.string ⟨#[112, 97, 114, 116, 115]⟩, .string ⟨#[115, 97, 109, 101]⟩, .string ⟨#[100, 105, 102, 102, 101, 114, 101, 110, 116]⟩, .string ⟨#[101, 120, 116, 101, 110, 115, 105, 111, 110]⟩, .string ⟨#[98, 97, 114, 115]⟩, .string ⟨#[115, 108, 111, 112, 101]⟩]) (.int .i64 4)).run Try.prog w = .ok (.string ⟨#[98, 97, 114, 115]⟩) w := by kernel_rfl
theorem word_at5 (w : World) : (Instr.index 38 (.agg #[.string ⟨#[112, 97, 114, 116, 115]⟩, .string ⟨#[115, 97, 109, 101]⟩, .string ⟨#[100, 105, 102, 102, 101, 114, 101, 110, 116]⟩, .string ⟨#[101, 120, 116, 101, 110, 115, 105, 111, 110]⟩, .string ⟨#[98, 97, 114, 115]⟩, .string ⟨#[115, 108, 111, 112, 101]⟩]) (.int .i64 5)).run Try.prog w = .ok (.string ⟨#[115, 108, 111, 112, 101]⟩) w := by kernel_rfl
theorem inR_16_no {a : Int} (h : ¬ (1 ≤ a ∧ a ≤ 6)) : inR a 1 6 = false := by simp [inR]; omega

set_option maxHeartbeats 2000000 in
theorem walk_ClaimWord (a : Int) (w : World) (_f : fits a) :
    Calls Try.prog 3 #[.int .i64 a] w fun e w' => e = .returned (.bool true) ∧ Below w.heap.size w w' := by
  by_cases h : 1 ≤ a ∧ a ≤ 6
  · have hc : a = 1 ∨ a = 2 ∨ a = 3 ∨ a = 4 ∨ a = 5 ∨ a = 6 := by omega
    clear h _f
    rcases hc with rfl | rfl | rfl | rfl | rfl | rfl
    all_goals
      have i0 := word_at0
      have i1 := word_at1
      have i2 := word_at2
      have i3 := word_at3
      have i4 := word_at4
      have i5 := word_at5
      go_enter Try.func3, Try.ntmps3
      go_wp2
      go_ret
      exact ⟨rfl, by repeat (first | exact Below.refl _ _ | refine Below.alloc ?_ (by simp) _)⟩
  · have hin := inR_16_no h
    clear h
    go_enter Try.func3, Try.ntmps3
    go_wp2_with (first | (go_at_call 20; refine (c_l1In _ _ _ _).mono ?_; rintro e w' ⟨rfl, rfl⟩) | (go_at_call 21; refine (c_within _ _ _ _).mono ?_; rintro e w' ⟨rfl, rfl⟩) | go_in)
    go_ret
    exact ⟨rfl, Below.refl _ _⟩
end Go.Proofs.Ytfnmcjpbknnmjaa

/-
  Contracts: the laws' sizes of slices of integers.
-/
import Derived.Test.YtpngpgbmkkjjgaaC1
namespace Go.Proofs.Ytpngpgbmkkjjgaa
open Go.RowKit

def szI (left : Int) (n : Nat) : Int := if left - n < 0 then -1 else left - n

theorem c_szIntS (a : Option Addr) (n c : Nat) (left : Int) (w : World) (h0 : 0 ≤ left) (h1 : left ≤ 1048576) (hn : n ≤ 9223372036854775807) :
    Calls Try.prog 38 #[.slice a n c, .int .i64 left] w fun e w' => e = .returned (.int .i64 (szI left n)) ∧ w = w' := by
  have HV : Hid (szI left n = if left - n < 0 then -1 else left - n) := rfl
  by_cases hlt : left - (n : Int) < 0
  · have HW : Hid (szI left n = -1) := by show _ = _; rw [HV.out, if_pos hlt]
    go_enter Try.func38, Try.ntmps38
    go_wp2
    go_ret
    exact ⟨ret_int HW.out.symm, rfl⟩
  · have HW : Hid (szI left n = left - n) := by show _ = _; rw [HV.out, if_neg hlt]
    go_enter Try.func38, Try.ntmps38
    go_wp2
    go_ret
    exact ⟨ret_int HW.out.symm, rfl⟩

theorem szI_pos {left : Int} {n : Nat} (h : ¬ szI left n < 0) : (n : Int) ≤ left ∧ szI left n = left - n := by
  unfold szI at *
  split at h
  · omega
  · rename_i h2; exact ⟨by omega, by rw [if_neg h2]⟩
end Go.Proofs.Ytpngpgbmkkjjgaa

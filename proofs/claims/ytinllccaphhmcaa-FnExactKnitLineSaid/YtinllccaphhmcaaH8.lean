/-
  Several texts of the claim in one: each begins with its own remark.
-/
import Derived.Laws.Bits64b
import Derived.Test.YtinllccaphhmcaaH7
section
set_option linter.unusedVariables false
set_option linter.unusedSimpArgs false

namespace Go.Proofs.Ytinllccaphhmcaa
open Go.RowKit
set_option linter.unusedVariables false
def shlI (x y : Int) : Int := wr (x * 2 ^ (min y.toNat 64))
def shrI (x y : Int) : Int := x.fdiv (2 ^ (min y.toNat 64))
def andI (x y : Int) : Int := bits .and .i64 x y
section
variable {P : Program} {dst : Option Tmp} {ty : TypeId} {pos : String} {aft : Array Edge} {g : Option (Nat × Bool)} {s : AState}
theorem x_shl {t t' : TypeId} {x y : Operand} {a b : Int} (hx : s.ev x = some (.int a)) (hy : s.ev y = some (.int b)) (h : (!decide (b < 0)) = true) : AEff P ⟨dst, .binOp .shl t x y t', ty, pos, aft, g⟩ s.ev s.heap s.kp ⟨.int (shlI a b), [], [], []⟩ :=
 eff_bin hx hy rfl fun w => by
  have hb : ¬ b < 0 := by simpa using h
  simp [eqGuard, binOp, Op.shift, hb, shlI, wr, IntKind.bits]
theorem x_shr {t t' : TypeId} {x y : Operand} {a b : Int} (hx : s.ev x = some (.int a)) (hy : s.ev y = some (.int b)) (h : (!decide (b < 0)) = true) : AEff P ⟨dst, .binOp .shr t x y t', ty, pos, aft, g⟩ s.ev s.heap s.kp ⟨.int (shrI a b), [], [], []⟩ :=
 eff_bin hx hy rfl fun w => by
  have hb : ¬ b < 0 := by simpa using h
  simp [eqGuard, binOp, Op.shift, hb, shrI, IntKind.bits]
theorem x_and {t t' : TypeId} {x y : Operand} {a b : Int} (hx : s.ev x = some (.int a)) (hy : s.ev y = some (.int b)) : AEff P ⟨dst, .binOp .and t x y t', ty, pos, aft, g⟩ s.ev s.heap s.kp ⟨.int (andI a b), [], [], []⟩ :=
 eff_bin hx hy rfl fun w => by
  simp [eqGuard, binOp, Op.intArith, Op.intBits, andI, bits]
end
end Go.Proofs.Ytinllccaphhmcaa
end

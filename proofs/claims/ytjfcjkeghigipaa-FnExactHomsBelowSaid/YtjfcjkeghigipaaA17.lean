/-
  More rules for walking: truth values compared; own slices as arguments. No program stands in this text.
-/
import Derived.Test.YtjfcjkeghigipaaA16
namespace Go.Proofs.Ytjfcjkeghigipaa
open Go.RowKit

section
variable {P : Program} {dst : Option Tmp} {ty : TypeId} {pos : String} {aft : Array Edge} {g : Option (Nat × Bool)} {s : AState}
theorem run_eqB {t : TypeId} (hu : P.underlying t = some .bool) (a b : Bool) (w : World) : (Op.equal t (.bool a) (.bool b)).run P w = .ok (a == b) w := by
  have key : ∀ d, (Op.equalIn (d + 1) t (.bool a) (.bool b)).run P w = .ok (a == b) w := fun d => by simp [Op.equalIn, run_und hu]
  exact key 9999
theorem w_neqB {t t' : TypeId} {x y : Operand} {a b : Bool} (hu : P.underlying t = some .bool) (hx : s.ev x = some (.bl a)) (hy : s.ev y = some (.bl b)) : AEff P ⟨dst, .binOp .neq t x y t', ty, pos, aft, g⟩ s.ev s.heap ⟨.bl (!(a == b)), [], [], []⟩ :=
  eff_bin hx hy rfl fun w => by simp [eqGuard, binOp, run_eqB hu]
theorem w_eqB {t t' : TypeId} {x y : Operand} {a b : Bool} (hu : P.underlying t = some .bool) (hx : s.ev x = some (.bl a)) (hy : s.ev y = some (.bl b)) : AEff P ⟨dst, .binOp .eql t x y t', ty, pos, aft, g⟩ s.ev s.heap ⟨.bl (a == b), [], [], []⟩ :=
  eff_bin hx hy rfl fun w => by simp [eqGuard, binOp, run_eqB hu]
end

/-- A slice that a call has returned, as an argument. -/
theorem v1_imp {h : Hp} {b k : Nat} {es : List (List AV)} (hb : h b = some ⟨k, absEs es⟩) (g : goodEs es) : view1 h (.own b 0 es.length) (.list k es) := v1_own hb rfl (by simp [absEs]) (v00_abs g)
end Go.Proofs.Ytjfcjkeghigipaa

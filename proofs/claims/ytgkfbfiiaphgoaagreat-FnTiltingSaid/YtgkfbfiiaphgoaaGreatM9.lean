/- Several texts. -/
import Derived.Laws.Bits64b
import Derived.Test.YtgkfbfiiaphgoaaGreatM8
set_option linter.unusedVariables false
set_option linter.unusedSimpArgs false
namespace Go.Proofs.YtgkfbfiiaphgoaaGreat
open Go.RowKit
section
def aQI (x y:Int):Int:=wr (x*2 ^ (min y.toNat 64))
def aBw (x y:Int):Int:=x.fdiv (2 ^ (min y.toNat 64))
def aCU (x y:Int):Int:=bits .and .i64 x y
section
variable {P:Program} {dst:Option Tmp} {ty:TypeId} {pos:String} {aft:Array Edge} {g:Option (Nat×Bool)} {s:AState}
theorem aUa {t t':TypeId} {x y:Operand} {a b:Int} (hx:s.ev x=some (.int a)) (hy:s.ev y=some (.int b)) (h:(!decide (b<0))=true):AEff P ⟨dst,.binOp .shl t x y t',ty,pos,aft,g⟩ s.ev s.heap s.kp ⟨.int (aQI a b),[],[],[]⟩:=
 pQ hx hy rfl λw=>by
  have hb: ¬ b<0:=by simpa using h
  simp [eqGuard,binOp,Op.shift,hb,aQI,wr,IntKind.bits]
theorem aRK {t t':TypeId} {x y:Operand} {a b:Int} (hx:s.ev x=some (.int a)) (hy:s.ev y=some (.int b)) (h:(!decide (b<0))=true):AEff P ⟨dst,.binOp .shr t x y t',ty,pos,aft,g⟩ s.ev s.heap s.kp ⟨.int (aBw a b),[],[],[]⟩:=
 pQ hx hy rfl λw=>by
  have hb: ¬ b<0:=by simpa using h
  simp [eqGuard,binOp,Op.shift,hb,aBw,IntKind.bits]
theorem aJm {t t':TypeId} {x y:Operand} {a b:Int} (hx:s.ev x=some (.int a)) (hy:s.ev y=some (.int b)):AEff P ⟨dst,.binOp .and t x y t',ty,pos,aft,g⟩ s.ev s.heap s.kp ⟨.int (aCU a b),[],[],[]⟩:=
 pQ hx hy rfl λw=>by
  simp [eqGuard,binOp,Op.intArith,Op.intBits,aCU,bits]
end
end
end Go.Proofs.YtgkfbfiiaphgoaaGreat

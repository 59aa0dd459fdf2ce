/-
  Several texts of the claim in one.
-/
import Derived.Laws.Bits64b
import Derived.Test.YtgkfbfiiaphgoaaGreatJ7
set_option linter.unusedVariables false
set_option linter.unusedSimpArgs false
namespace Go.Proofs.YtgkfbfiiaphgoaaGreat
open Go.RowKit
noncomputable section
def aNv (x y:Int):Int:=wr (x*2 ^ (min y.toNat 64))
def yN (x y:Int):Int:=x.fdiv (2 ^ (min y.toNat 64))
def yZ (x y:Int):Int:=bits .and .i64 x y
section
variable {P:Program} {dst:Option Tmp} {ty:TypeId} {pos:String} {aft:Array Edge} {g:Option (Nat×Bool)} {s:AState}
theorem aQR {t t':TypeId} {x y:Operand} {a b:Int} (hx:s.ev x=some (.int a)) (hy:s.ev y=some (.int b)) (h:(!decide (b<0))=true):AEff P ⟨dst,.binOp .shl t x y t',ty,pos,aft,g⟩ s.ev s.heap s.kp ⟨.int (aNv a b),[],[],[]⟩:=
 nI hx hy rfl λw=>by
  have hb: ¬ b<0:=by simpa using h
  simp [eqGuard,binOp,Op.shift,hb,aNv,wr,IntKind.bits]
theorem aLj {t t':TypeId} {x y:Operand} {a b:Int} (hx:s.ev x=some (.int a)) (hy:s.ev y=some (.int b)) (h:(!decide (b<0))=true):AEff P ⟨dst,.binOp .shr t x y t',ty,pos,aft,g⟩ s.ev s.heap s.kp ⟨.int (yN a b),[],[],[]⟩:=
 nI hx hy rfl λw=>by
  have hb: ¬ b<0:=by simpa using h
  simp [eqGuard,binOp,Op.shift,hb,yN,IntKind.bits]
theorem aFg {t t':TypeId} {x y:Operand} {a b:Int} (hx:s.ev x=some (.int a)) (hy:s.ev y=some (.int b)):AEff P ⟨dst,.binOp .and t x y t',ty,pos,aft,g⟩ s.ev s.heap s.kp ⟨.int (yZ a b),[],[],[]⟩:=
 nI hx hy rfl λw=>by
  simp [eqGuard,binOp,Op.intArith,Op.intBits,yZ,bits]
end
end
end Go.Proofs.YtgkfbfiiaphgoaaGreat

/-
  Several texts of the claim in one.
-/
import Derived.Laws.Bits64b
import Derived.Test.YtilpfdokmlanjaaGreatG8
set_option linter.unusedVariables false
set_option linter.unusedSimpArgs false
namespace Go.Proofs.YtilpfdokmlanjaaGreat
open Go.RowKit
noncomputable section
def aPY (x y:Int):Int:=wr (x*2 ^ (min y.toNat 64))
def aPZ (x y:Int):Int:=x.fdiv (2 ^ (min y.toNat 64))
def aPa (x y:Int):Int:=bits .and .i64 x y
section
variable {P:Program} {dst:Option Tmp} {ty:TypeId} {pos:String} {aft:Array Edge} {g:Option (Nat×Bool)} {s:AState}
theorem aTU {t t':TypeId} {x y:Operand} {a b:Int} (hx:s.ev x=some (.int a)) (hy:s.ev y=some (.int b)) (h:(!decide (b<0))=true):AEff P ⟨dst,.binOp .shl t x y t',ty,pos,aft,g⟩ s.ev s.heap s.kp ⟨.int (aPY a b),[],[],[]⟩:=
 zN hx hy rfl λw=>by
  have hb: ¬ b<0:=by simpa using h
  simp [eqGuard,binOp,Op.shift,hb,aPY,wr,IntKind.bits]
theorem aQf {t t':TypeId} {x y:Operand} {a b:Int} (hx:s.ev x=some (.int a)) (hy:s.ev y=some (.int b)) (h:(!decide (b<0))=true):AEff P ⟨dst,.binOp .shr t x y t',ty,pos,aft,g⟩ s.ev s.heap s.kp ⟨.int (aPZ a b),[],[],[]⟩:=
 zN hx hy rfl λw=>by
  have hb: ¬ b<0:=by simpa using h
  simp [eqGuard,binOp,Op.shift,hb,aPZ,IntKind.bits]
theorem aQg {t t':TypeId} {x y:Operand} {a b:Int} (hx:s.ev x=some (.int a)) (hy:s.ev y=some (.int b)):AEff P ⟨dst,.binOp .and t x y t',ty,pos,aft,g⟩ s.ev s.heap s.kp ⟨.int (aPa a b),[],[],[]⟩:=
 zN hx hy rfl λw=>by
  simp [eqGuard,binOp,Op.intArith,Op.intBits,aPa,bits]
end
end
end Go.Proofs.YtilpfdokmlanjaaGreat

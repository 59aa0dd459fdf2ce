/-
  Several texts of the claim in one.
-/
import Derived.Laws.Bits64b
import Derived.Test.YtpppcfhgaehcjaaGreatDoorH12
set_option linter.unusedVariables false
set_option linter.unusedSimpArgs false
namespace Go.Proofs.YtpppcfhgaehcjaaGreatDoor
open Go.RowKit
noncomputable section
def aDu (v:Value) (k i:Nat):Value:=match v with
 | .slice (some a) _ _=> .pointer (some ⟨a.block,a.off+i*k,none⟩)
 |_=> .bool true
theorem aFW {W:World} {k i:Nat} {es:List (List AV)} {cs:List AV} {v:Value} {S:List Nat} (r:RepD W (.list k es) v S) (h:es[i]? =some cs): ∃ S',RepD W (.ref cs) (aDu v k i) S':=by
 simp only [RepD] at r;obtain ⟨a,c,rfl,h4,h5,h6⟩:=r;rcases h6 with ⟨h6,_⟩|⟨b,o,S',rfl,h8,rfl,h9⟩
 ·rw [h6] at h;simp at h
 ·obtain ⟨g1,S2,g2,g3⟩:=h9.at h;exact ⟨b::S2,by simp only [RepD];exact ⟨b,o+i*k,S2,rfl,h8,rfl,g2⟩⟩
section
variable {P:Program} {T:List (Nat×Ty)} (hT:TyOk P T) {dst:Option Tmp} {ty:TypeId} {pos:String} {aft:Array Edge} {g:Option (Nat×Bool)} {s:AState} {α:Type} {k:Nat} {e:α→List AV}
include hT
theorem aFX {x:Operand} {t et:Nat} {y:Ty} {l:List α} {dty:TypeId} {W:World} {v:Value} {S:List Nat} (r:RepD W (.list k (l.map e)) v S) (hx:s.ev x=some (.sc v)) (hy:cE T t=some y) (hd:y.desc= .slice et):
  AEff P ⟨dst,.call ⟨.builtin .len,#[x],#[t]⟩,dty,pos,aft,g⟩ s.ev s.heap s.kp ⟨.int (l.length:Int),[],[],[]⟩:=
 AEff.pure λC s ν a w hi ht hs=>by
  have h1:=hs.ev ((hi x (by simp [Op.operands,Call.operands])).trans hx);simp only [RepA,RepB,Rep1] at h1;simp only [RepD] at r;obtain ⟨ao,c,h3,h4,h5,h6⟩:=r;rw [h3] at h1;obtain ⟨i1,z1,d1,y1⟩:=hT.is hy;refine ⟨.int .i64 l.length,?_,sB rfl⟩;simp [execOp,resolve,invoke,builtin,Builtin.len_,h1.1,iS (y1.slice hd),goInt]
theorem aDv {x ix:Operand} {t et:Nat} {y ye:Ty} {l:List α} {kk:IntKind} {i:Int} {u:α} {W:World} {v:Value} {S:List Nat} (r:RepD W (.list k (l.map e)) v S) (hm:cP l i=some u) (hx:s.ev x=some (.sc v)) (hix:s.ev ix=some (.sc (.int kk i))) (hy:cE T t=some y) (hd:y.desc= .slice et) (hye:cE T et=some ye) (hk:ye.size=k):
  AEff P ⟨dst,.indexAddr t x ix,ty,pos,aft,g⟩ s.ev s.heap s.kp ⟨.sc (aDu v k i.toNat),[],[],[]⟩:=
 AEff.pure λC s ν a w hi ht hs=>by
  have h1:=hs.ev ((hi x (by simp [Op.operands])).trans hx);have h2:=hs.ev ((hi ix (by simp [Op.operands])).trans hix);simp only [RepA,RepB,Rep1] at h1 h2;simp only [RepD] at r;obtain ⟨ao,c,h3,h4,h5,h6⟩:=r;have h0:=aIX hm;have hlt:=aBj hm;rcases h6 with ⟨h6,_⟩|⟨b,o,S',rfl,h8,rfl,h9⟩
  ·have:l=[]:=by simpa using h6
   rw [this] at hlt;simp at hlt
  ·subst h3;obtain ⟨i1,z1,d1,y1⟩:=hT.is hy;obtain ⟨i2,z2,d2,y2⟩:=hT.is hye;refine ⟨.pointer (some ⟨b,o+i.toNat*k,none⟩),?_,by simp only [RepA,RepB,Rep1,aDu];exact ⟨trivial,rfl⟩⟩;have hin:(0:Int)≤i∧i<((l.map e).length:Int):=by rw [dM];omega
   simp only [execOp,Instr.indexAt,h1.1,h2.1,asIntOf,Sem.run_bind,Sem.run_pure,Result.andThen_ok,iS (y1.slice hd),Sem.run_ite];rw [aQ hin];simp only [Sem.run_bind,Sem.run_pure,Result.andThen_ok,iT y2.info,y2.size,hk];rw [Addr.add_lit]
theorem aIy {x:Operand} {t:Nat} {y:Ty} {l:List α} {i:Nat} {u:α} {av:AV} {W:World} {v:Value} {S:List Nat} (r:RepD W (.list k (l.map e)) v S) (hm:l[i]? =some u) (hfx:s.kp.fx=fxW W) (hx:s.ev x=some (.sc (aDu v k i))) (hy:cE T t=some y) (h1:(y.desc.isAgg||Nat.beq y.size 1)=true) (hn:Nat.ble y.size (e u).length=true) (hpl:((e u).take y.size).all cY=true) (hv:sZ y.desc.isAgg ((e u).take y.size)=av):
  AEff P ⟨dst,.load t x,ty,pos,aft,g⟩ s.ev s.heap s.kp ⟨av,[],[],[]⟩:=by
 obtain ⟨S',hr⟩:=aFW (i:=i) (cs:=e u) r (by rw [List.getElem?_map,hm];rfl);exact hv▸aGU hT hfx hr hr.lt hx hy h1 (Nat.le_of_ble_eq_true hn) hpl
end
end
end Go.Proofs.YtpppcfhgaehcjaaGreatDoor

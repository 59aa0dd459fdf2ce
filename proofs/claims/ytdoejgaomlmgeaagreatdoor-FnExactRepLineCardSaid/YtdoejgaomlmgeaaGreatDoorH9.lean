/-
  Several texts of the claim in one.
-/
import Derived.RangeFuncSeq
import Derived.Test.YtdoejgaomlmgeaaGreatDoorH8
set_option linter.unusedVariables false
set_option linter.unusedSimpArgs false
namespace Go.Proofs.YtdoejgaomlmgeaaGreatDoor
open Go.RowKit
noncomputable section
theorem aKv {P:Program} {T:List (Nat×Ty)} (hT:TyOk P T) {dst:Option Tmp} {ty:TypeId} {pos:String} {aft:Array Edge} {g:Option (Nat×Bool)} {ins:Operand→Option AV} {hp:Hp} {κ:Kp} {x:Operand} {t:Nat} {y:Ty} {cs:List AV} {W:World} {G:Nat→Prop} {vb:Value} {S:List Nat}
  (hfx:κ.fx=some (W,G)) (hrep:RepD W (.ref cs) vb S) (hS: ∀ y∈S,G y) (hx:ins x=some (.sc vb)) (hy:dH T t=some y) (h1:(y.desc.isAgg||Nat.beq y.size 1)=true) (hn:y.size≤cs.length) (hpl:(cs.take y.size).all eP=true):
  AEff P ⟨dst,.load t x,ty,pos,aft,g⟩ ins hp κ ⟨yJ y.desc.isAgg (cs.take y.size),[],[],[]⟩:=by
 refine ⟨λC s ν a w Q K {hκ} hi' ht hnw hd hs hK=>?_⟩;have hp1:=hs.ev ((hi' x (by simp [Op.operands])).trans hx)
 have key:RepA w s.heap s.used ν (.ref cs) (a.eval x):=by
  simp only [RepA,RepB,Rep1] at hp1 ⊢;rw [hp1.1];exact ⟨S,hrep.keep λb hm=>(hs.stays hκ hfx (hS b hm)).1,λz hz=>(hs.stays hκ hfx (hS z hz)).2⟩
 have hrun: ∃ v,(execOp a.eval ⟨dst,.load t x,ty,pos,aft,g⟩).run P w= .ok (.value v) w∧RepA w s.heap s.used ν (yJ y.desc.isAgg (cs.take y.size)) v:=by
  clear hp1;simp only [RepA,RepB,Rep1,RepD] at key;obtain ⟨S,⟨b,o,S',h3,h4,rfl,h5⟩,h2⟩:=key;obtain ⟨us,g1,g2,g3,g4⟩:=h5.vals;obtain ⟨S2,g5,g6⟩:=g1.take y.size;obtain ⟨ii,z,d,hy'⟩:=hT.is hy;have hl:(us.take y.size).length=y.size:=by simp;omega
  have hr:=lI (P:=P) hy' (w:=w) (b:=b) (o:=o) (vs:=us.take y.size) hl (λhg=>by rw [hg] at h1;simpa using Nat.eq_of_beq_eq_true h1) (λm u hu=>by
   have hm:m<y.size:=by
    rcases dV m y.size with h'|h'
    ·exact h'
    ·rw [iP (by omega)] at hu;cases hu
   rw [List.getElem?_take_of_lt hm] at hu
   exact (g4 m u hu).1)
  refine ⟨_,by simp only [execOp,Instr.loadAt,h3,Instr.sureAddr,Sem.run_bind,Sem.run_pure,Result.andThen_ok];rw [hr];rfl,?_⟩;have e3:=g5.rep1 (u:=s.used) hpl (λy hy=>h2 y (by simp [g6 y hy]));cases hg:y.desc.isAgg with
  |true=>
   simp only [yJ,aN,if_true,RepA,RepB];exact ⟨_,rfl,e3⟩
  |false=>
   rw [hg] at h1;have hs1:y.size=1:=Nat.eq_of_beq_eq_true (by simpa using h1);simp only [yJ,aS];revert e3 hl;generalize us.take y.size=vs;generalize cs.take y.size=ds;intro hl e3
   match ds,vs,e3 with
   | [],vs,e3=>simp only [All2] at e3;subst e3;simp [hs1] at hl
   |d::ds,vs,e3=>
    obtain ⟨v,r,rfl,e6,e7⟩:=e3;simp only [List.headD_cons,List.getElem?_cons_zero,lF];exact e6.repA
 obtain ⟨v,e1,e2⟩:=hrun;unfold Oper.wp;rw [e1];simp only [Oper.upon];exact hK ν _ w (hs.step hd (Ext.refl _ _ _ _) (Below.refl _ _) hs.heap rfl e2)
end
end Go.Proofs.YtdoejgaomlmgeaaGreatDoor

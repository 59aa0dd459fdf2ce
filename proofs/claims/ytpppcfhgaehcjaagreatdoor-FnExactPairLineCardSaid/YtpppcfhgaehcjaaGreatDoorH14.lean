/-
  Several texts of the claim in one.
-/
import Derived.Laws.BytesString
import Derived.Test.YtpppcfhgaehcjaaGreatDoorH13
set_option linter.unusedVariables false
set_option linter.unusedSimpArgs false
namespace Go.Proofs.YtpppcfhgaehcjaaGreatDoor
open Go.RowKit
noncomputable section
def aDw (l:List Int):ByteArray:=l.foldl (λr n=>r.push (UInt8.ofNat n.toNat)) ByteArray.empty
def eU (z:Int):List AV:=[.sc (.int .u8 z)]
def eqS (a b:ByteArray):Bool:=a.toList==b.toList
theorem aDx {w:World} {b k:Nat} : ∀ {es:List (List AV)} {o:Nat} {T:List Nat},RepEs w k b o es T→ ∀ {j:Nat} {cs:List AV},es[j]? =some cs→ ∃ S,RepCs w b (o+j*k) cs S
 | [],o,T,h,j,cs,hj=>by simp at hj
 |c::es,o,T,h,j,cs,hj=>by
  simp only [RepEs] at h;obtain ⟨S1,S2,rfl,h2,h3,h4⟩:=h;cases j with
  |zero=>
   simp only [List.getElem?_cons_zero,Option.some.injEq] at hj;subst hj;exact ⟨S1,by rw [Nat.zero_mul,Nat.add_zero];exact h3⟩
  |succ j=>
   obtain ⟨S,hS⟩:=aDx h4 (j:=j) (cs:=cs) (by simpa using hj);exact ⟨S,by rw [show o+(j+1)*k=o+k+j*k by rw [Nat.succ_mul];omega];exact hS⟩
theorem aMO {P:Program} {w:World} {v:Value} {S:List Nat} {l:List Int} (h:RepD w (.list 1 (l.map eU)) v S): ∃ a n c,v= .slice a n c∧(Conv.bytesToString v).run P w= .ok (.string (aDw l)) w:=by
 simp only [RepD] at h;obtain ⟨a,c,h1,h2,h3,h4⟩:=h;subst h1;refine ⟨_,_,_,rfl,?_⟩;rcases h4 with ⟨he,_⟩|⟨b,o,T,rfl,hb,rfl,hes⟩
 ·have hl:l=[]:=by simpa using he
  subst hl;cases a with
  |none=>simp [Conv.bytesToString,aDw,Sem.run_pure]
  |some a=>
   have:=run_bytesToString (P:=P) w a 0 c [] (by simp [loadCells,loadCellsFrom,Sem.run_pure]);simpa [aDw] using this
 ·have hc: ∀ j v,(l.map (Value.int .u8))[j]? =some v→w.cell? ((⟨b,o,none⟩:Addr).add j)=some v:=by
   intro j v hj;rw [List.getElem?_map] at hj;cases hz:l[j]? with
   |none=>rw [hz] at hj;cases hj
   |some z=>
    rw [hz] at hj;cases hj;obtain ⟨S,hS⟩:=aDx hes (j:=j) (cs:=eU z) (by rw [List.getElem?_map,hz];rfl);simp only [eU,RepCs,RepD] at hS;obtain ⟨v,S1,S2,g1,g2,g3,g4,⟨g5,_⟩,g6⟩:=hS;subst g5;rw [Addr.add_lit,←g1,Nat.mul_one]
  have hr:=run_loadCells_list (P:=P) w ⟨b,o,none⟩ (l.map (Value.int .u8)) hc;rw [dM] at hr;have:=run_bytesToString (P:=P) w ⟨b,o,none⟩ l.length c l hr;simpa [aDw] using this
section
variable {P:Program} {T:List (Nat×Ty)} {dst:Option Tmp} {ty:TypeId} {pos:String} {aft:Array Edge} {g:Option (Nat×Bool)} {s:AState}
theorem wJ {t t':TypeId} {x y:Operand} {a b:ByteArray} (hx:s.ev x=some (.str a)) (hy:s.ev y=some (.str b)) (h:decide (a.size+b.size≤9223372036854775807)=true):
  AEff P ⟨dst,.binOp .add t x y t',ty,pos,aft,g⟩ s.ev s.heap s.kp ⟨.str (a++b),[],[],[]⟩:=
 uN hx hy rfl λw=>by
  have h':=of_decide_eq_true h;have e:IntKind.i64.max=9223372036854775807:=rfl;have e2: ¬ (((a.size+b.size:Nat):Int)>IntKind.i64.max):=by rw [e];omega
  simp only [eqGuard,binOp,Op.stringOp,aR e2];simp
theorem aOr {t t':TypeId} {x y:Operand} {a b:ByteArray} (hx:s.ev x=some (.str a)) (hy:s.ev y=some (.str b)):
  AEff P ⟨dst,.binOp .neq t x y t',ty,pos,aft,g⟩ s.ev s.heap s.kp ⟨.bl (!eqS a b),[],[],[]⟩:=
 uN hx hy rfl λw=>by simp [eqGuard,binOp,Op.stringOp,eqS]
theorem aNg {t t':TypeId} {x:Operand} {z:Int} {u0:TypeDesc} (h1:P.underlying t=some u0) (h2:P.underlying t'=some (.int .u8)) (hx:s.ev x=some (.int z)):
  AEff P ⟨dst,.convert t t' x,ty,pos,aft,g⟩ s.ev s.heap s.kp ⟨.sc (.int .u8 (IntKind.u8.wrap z)),[],[],[]⟩:=
 aGq hx rfl λw=>by
  simp [convert,run_underlying h1,run_underlying h2,Conv.intToInt]
theorem aNh {t t' e:TypeId} {x:Operand} {b i n:Nat} {l:List Int} (h1:P.underlying t=some (.slice e)) (h2:P.underlying e=some (.int .u8)) (h3:P.underlying t'=some .string) (hx:s.ev x=some (.own b i n)) (hv:view1 s.heap (.own b i n) (.list 1 (l.map eU))):
  AEff P ⟨dst,.convert t t' x,ty,pos,aft,g⟩ s.ev s.heap s.kp ⟨.str (aDw l),[b],[],[]⟩:=
 AEff.pure λC s' ν a w hi ht hs=>by
  have hr:=hs.ev ((hi x (by simp [Op.operands])).trans hx);simp only [RepA,RepB] at hr;obtain ⟨φ,hh⟩:=hs.heap
  have hv':view1 s'.heap (.own b i n) (.list 1 (l.map eU)):=hv.congr λb' hb'=>by
   simp only [yH,List.mem_singleton] at hb';rw [hb'];exact ht b (by simp)
  obtain ⟨⟨S,hd⟩,_⟩:=view1.rep hh hr hv';obtain ⟨ao,n',c',hs',hrun⟩:=aMO (P:=P) hd;refine ⟨.string (aDw l),?_,sB rfl⟩;rw [hs'] at hrun;simp [execOp,hs',run_convert_bytes_string w t t' e ao n' c' h1 h2 h3,hrun]
end
end
noncomputable section
set_option maxRecDepth 10000
set_option maxHeartbeats 4000000
end
noncomputable section
set_option maxRecDepth 10000
set_option maxHeartbeats 4000000
end
noncomputable section
set_option maxRecDepth 10000
set_option maxHeartbeats 4000000
end
noncomputable section
set_option maxRecDepth 10000
set_option maxHeartbeats 4000000
end
noncomputable section
set_option maxRecDepth 10000
set_option maxHeartbeats 4000000
end
noncomputable section
set_option maxRecDepth 10000
set_option maxHeartbeats 4000000
end
noncomputable section
set_option maxRecDepth 10000
set_option maxHeartbeats 4000000
end
noncomputable section
set_option maxRecDepth 10000
set_option maxHeartbeats 4000000
end
noncomputable section
set_option maxRecDepth 10000
set_option maxHeartbeats 4000000
end
noncomputable section
section
variable {P:Program} {T:List (Nat×Ty)} {dst:Option Tmp} {ty:TypeId} {pos:String} {aft:Array Edge} {g:Option (Nat×Bool)}
theorem aEV (hT:TyOk P T) {ins:Operand→Option AV} {hp:Hp} {κ:Kp} {x:Operand} {t:Nat} {y:Ty} {cs:List AV} {W:World} {vb:Value} {S:List Nat} {K:List AV→Prop}
  (hfx:κ.fx=fxW W) (hrep:RepD W (.ref cs) vb S) (hx:ins x=some (.sc vb)) (hy:cE T t=some y) (h1:(y.desc.isAgg||Nat.beq y.size 1)=true) (hn:y.size≤cs.length) (ok:(cs.take y.size).all kH=true) (h:aBp W (cs.take y.size) K):
  ∃ xs,K xs∧AEff P ⟨dst,.load t x,ty,pos,aft,g⟩ ins hp κ ⟨sZ y.desc.isAgg xs,[],[],[]⟩:=by
 have hlt:=hrep.lt;simp only [RepD] at hrep;obtain ⟨b,o,S',rfl,h4,rfl,h5⟩:=hrep;obtain ⟨us,g1,g2,g3,g4⟩:=h5.vals;obtain ⟨S2,g5,g6⟩:=g1.take y.size;obtain ⟨xs,hk,hxs⟩:=aGC g5 ok h;refine ⟨xs,hk,⟨λC s ν a w Q K {hκ} hi' ht hnw hd hs hK=>?_⟩⟩;have hp1:=hs.ev ((hi' x (by simp [Op.operands])).trans hx);simp only [RepA,RepB,Rep1] at hp1;have hst:=(hs.stays hκ hfx (b:=b) (hlt b (by simp))).1
 have hrun: ∃ v,(execOp a.eval ⟨dst,.load t x,ty,pos,aft,g⟩).run P w= .ok (.value v) w∧RepA w s.heap s.used ν (sZ y.desc.isAgg xs) v:=by
  obtain ⟨ii,z,d,hy'⟩:=hT.is hy;have hl:(us.take y.size).length=y.size:=by simp;omega
  have hr:=iU (P:=P) hy' (w:=w) (b:=b) (o:=o) (vs:=us.take y.size) hl (λhg=>by rw [hg] at h1;simpa using Nat.eq_of_beq_eq_true h1) (λm u hu=>by
   have hm:m<y.size:=by
    rcases cX m y.size with h'|h'
    ·exact h'
    ·rw [iM (by omega)] at hu;cases hu
   rw [List.getElem?_take_of_lt hm] at hu
   exact (aFg hst).trans (g4 m u hu).1)
  refine ⟨_,by simp only [execOp,Instr.loadAt,hp1.1,Instr.sureAddr,Sem.run_bind,Sem.run_pure,Result.andThen_ok];rw [hr];rfl,?_⟩;have e3:=hxs w s.heap s.used ν;cases hg:y.desc.isAgg with
  |true=>
   simp only [sZ,aM,if_true,RepA,RepB];exact ⟨_,rfl,e3⟩
  |false=>
   rw [hg] at h1;have hs1:y.size=1:=Nat.eq_of_beq_eq_true (by simpa using h1);simp only [sZ,aU];revert e3 hl;generalize us.take y.size=vs;intro hl e3
   match xs,vs,e3 with
   | [],vs,e3=>simp only [All2] at e3;subst e3;simp [hs1] at hl
   |d::ds,vs,e3=>
    obtain ⟨v,r,rfl,e6,e7⟩:=e3;simp only [List.headD_cons,List.getElem?_cons_zero,kG,eD,if_false];exact e6.repA
 obtain ⟨v,h1,h2⟩:=hrun;unfold Oper.wp;rw [h1];simp only [Oper.upon];exact hK ν _ w (hs.step hd (Ext.refl _ _ _ _) (Below.refl _ _) hs.heap rfl h2)
end
section
variable {P:Program} {T:List (Nat×Ty)} {ops:Array Oper} {nt:Nat} {dst:Option Tmp} {ty:TypeId} {pos:String} {aft:Array Edge} {g:Option (Nat×Bool)} {rest:List Oper} {s:AState} {α:Type} {k:Nat} {e:α→List AV}
def aMP (W:World) (cs:List AV) (v:Value):Prop:= ∃ S,RepD W (.ref cs) v S
theorem aFY {l:List α} {i:Nat} {u:α} {W:World} {v:Value} {S:List Nat} (r:RepD W (.list k (l.map e)) v S) (hm:l[i]? =some u):aMP W (e u) (aDu v k i):=aFW (i:=i) (cs:=e u) r (by rw [List.getElem?_map,hm];rfl)
theorem aFZ (hT:TyOk P T) {K:AState→Prop} {x:Operand} {t:Nat} {y:Ty} {W:World} {v:Value} {c0:List AV} (cs:List AV) (r:aMP W c0 v) (hfx:s.kp.fx=fxW W) (hx:s.ev x=some (.sc v)) (hy:cE T t=some y) (h1:(y.desc.isAgg||Nat.beq y.size 1)=true) (hn:Nat.ble y.size c0.length=true) (hc:c0.take y.size=cs) (ok:cs.all kH=true)
  (hd:aDI ⟨dst,.load t x,ty,pos,aft,g⟩ nt=true) (hg:jU ops s.env ⟨dst,.load t x,ty,pos,aft,g⟩=some true)
  (h:aBp W cs λxs=>SOps P ops nt rest (s.app dst ⟨sZ y.desc.isAgg xs,[],[],[]⟩) K):SOps P ops nt (⟨dst,.load t x,ty,pos,aft,g⟩::rest) s K:=by
 subst hc;obtain ⟨S',hr⟩:=r;obtain ⟨xs,hk,he⟩:=aEV (dst:=dst) (ty:=ty) (pos:=pos) (aft:=aft) (g:=g) hT (hp:=s.heap) hfx hr hx hy h1 (Nat.le_of_ble_eq_true hn) ok h;exact aHW he hd hg rfl hk
end
end
noncomputable section
set_option maxRecDepth 10000
set_option maxHeartbeats 4000000
def nS (a0:Int) (v1:(Mt×(List Int))) (v4:Int) (x2:((List Int)×Int)):Option (((List Int)×Int) ⊕ (List Int)):=
 bif decide (x2.2<((v1.2.length:Nat):Int)) then
 ((cP v1.2 x2.2).bind λv7=>
 (cI v1.1 x2.2).bind λv8=>
 bif (decide (0≤v4)&&decide (v4<((((wr ((wr (x2.2+1))*v1.1.cols)).toNat - (wr (x2.2*v1.1.cols)).toNat):Nat):Int))) then
 ((v1.1.cells[((0+(wr (x2.2*v1.1.cols)).toNat)+v4.toNat)]?).bind λv9=>
 bif !decide (a0=0) then
 ((cP x2.1 v7).bind λv11=>
 some (.inl ((x2.1.set v7.toNat ((wr (a0 - v9)).tmod a0)),wr (x2.2+1))))
 else none
 )
 else none)
 else
 (some (.inr x2.1))
def nT (a0:Int) (a1:Mt) (v1:(Mt×(List Int))) (v2:(List Int)) (x1:((List (List Int))×Int)):Option (((List (List Int))×Int) ⊕ (List (List Int))):=
 bif decide (x1.2<((v2.length:Nat):Int)) then
 ((cP v2 x1.2).bind λv4=>
 bif (decide (0≤a1.cols)&&decide (a1.cols≤1048576)) then
 ((cP (List.replicate a1.cols.toNat (0:Int)) v4).bind λv5=>
 (Lp (nS a0 v1 v4) (((List.replicate a1.cols.toNat (0:Int)).set v4.toNat 1),0)).bind λy13=>
 bif decide (x1.1.length+1≤4294967296) then
 (some (.inl ((x1.1++[y13]),wr (x1.2+1))))
 else none)
 else none)
 else
 (some (.inr x1.1))
def sH (a0:Int) (a1:Mt):Option (List (List Int)):=
 (oH a0 a1).bind λv1=>
 (lG a1.cols v1.2).bind λv2=>
 (Lp (nT a0 a1 v1 v2) ([],0)).bind λy16=>
 some (y16)
theorem aEW (a0:Int) (a1:Mt) (r:(List (List Int))) (h:sH a0 a1=some r):HasC Tryz.prog 152 [.int a0,.agg (eM a1)] (.list 1 (r.map (sP 1 eI))):=by
 refine hM [.tmp 4] Tryz.func152 Tryz.ntmps152 k<|sR<|ae (wb k) k<|aT k2<|sR<|am k k<|lp k8<|oB h λv1 hv1 h=>ae (AEff.conv (qJ (x:= .tuple [.agg [.int v1.1.rows,.int v1.1.cols,.own 1 0 (v1.1.cells.map eI).length],.own 2 0 (v1.2.map eI).length]) (nb:=[(1,⟨1,cK (v1.1.cells.map eI)⟩),(2,⟨1,cK (v1.2.map eI)⟩)]) (aAL a0 a1 v1 hv1) k (by rfl) k k (iE (cZ aY (cZ aY (cZ (dY.good _) xC))) (iE (dY.good _) yN)) (bX k (aD (cN k) aL))) (v':= .tuple [.agg [.int v1.1.rows,.int v1.1.cols,.own 1 0 v1.1.cells.length],.own 2 0 v1.2.length]) (ed':=[(1,some ⟨1,v1.1.cells.map (ow eI)⟩),(2,some ⟨1,v1.2.map (ow eI)⟩)]) (by simp only [aW]) (wB (nb':=[(1,⟨1,v1.1.cells.map (ow eI)⟩),(2,⟨1,v1.2.map (ow eI)⟩)]) (by simp only [mB]))) k<|am k k<|ae (cB k k (by intro _ h;cases h)) k<|ae (cB k k (by intro _ h;cases h)) k<|ae (bY aS k k) k<|ae (ws k) k<|aT k2<|sR<|aT k2<|sQ<|sR<|fp k8<|lp k8 ?_;refine am k k<|oB h λv2 hv2 h=>ae (cL dY (aAd a1.cols v1.2 v2 hv2) k3 (bX k (vcT k k aL))) k<|ae (dU aS k k k k) k<|am k k<|an<|tn<|aE<|oB h λy16 hy16 h=>bP (body:=(nT a0 a1 v1 v2)) hy16 (λ(x1:((List (List Int))×Int))=>mN [(0,.int a0),(3,.ptr 0 0 0),(5,.ptr 1 0 0),(6,.own 3 0 v1.2.length),(7,.own 4 0 x1.1.length),(22,.own 5 0 v2.length),(23,.int ((v2.length:Nat):Int)),(24,.int x1.2)] [(0,⟨3,[eM a1]⟩),(1,⟨3,[oMt v1.1 2]⟩),(2,⟨1,v1.1.cells.map (ow eI)⟩),(3,⟨1,v1.2.map (ow eI)⟩),(4,⟨1,x1.1.map (ow (sP 1 eI))⟩),(5,⟨1,v2.map (ow eI)⟩)] 6) (λr e t=>e= .exit 0∧Ent t (mN [(7,.own 0 0 r.length)] [(0,⟨1,r.map (ow (sP 1 eI))⟩)] 1)) (qH (σ:=sg [(0,0),(1,3),(2,1),(3,2),(5,4)]) (tN 4 k2 (sW ⟨_,k,⟨k,k,k,k⟩⟩ (bH k2))) (bF k<|iF k<|bT k<|bT k<|hX k k<|bT k<|aY) k) ?_ ?_
 ·intro x1 o h;refine sR<|cm k4<|an<|tn<|sQ<|cO k h (λ_ h=>?_) λ_ h=>aV<|aB<|aB<|sp h ⟨_,k,k,(vS [4] (bH k2) (mW (eX.plainO _) k<|aY) k4)⟩;refine aI<|tn<|sQ<|aE<|sR<|oB h λv4 hv4 h=>ae (xo hv4 k) k<|ae (wp hv4 k) k<|aT k2<|sR<|fp k8<|lp k8<|cG h λq15 h=>ae (vK aS q15 k k k k k k k k) k<|aT k2<|aP (t:=mN [(0,.int a0),(3,.ptr 0 0 0),(5,.ptr 1 0 0),(6,.own 3 0 v1.2.length),(7,.own 4 0 x1.1.length),(9,.int v4),(10,.own 6 0 ((List.replicate a1.cols.toNat (0:Int)).length)),(22,.own 5 0 v2.length),(23,.int ((v2.length:Nat):Int)),(24,.int x1.2)] [(0,⟨3,[eM a1]⟩),(1,⟨3,[oMt v1.1 2]⟩),(2,⟨1,v1.1.cells.map (ow eI)⟩),(3,⟨1,v1.2.map (ow eI)⟩),(4,⟨1,x1.1.map (ow (sP 1 eI))⟩),(5,⟨1,v2.map (ow eI)⟩),(6,⟨1,List.map (ow eI) (List.replicate a1.cols.toNat (0:Int))⟩)] 7) (bK (tN 6 k2 (sW ⟨_,k,⟨k,k,(by simp only [aW,lA,lT,lR,lC,lN]),k⟩⟩ (bH k2))) (bF k<|iF k<|bT k<|bT k<|mW (eX.plainO _) k<|bT k<|hX ⟨_,k,k,.inl ⟨xB (e:=eI) (z:=0) _,dY.plainO _⟩⟩ k<|aY) k4)<|sR<|am k k<|am k k<|oB h λv5 hv5 h=>ae (xo hv5 k) k<|ae (fY aS pX (u:=1) (eO hv5) k k k k k k) k<|an<|tn<|sQ ?_;refine sR<|am k k<|ae (dU aS k k k k) k<|am k k<|an<|tn<|aE<|oB h λy13 hy13 h=>bP (body:=(nS a0 v1 v4)) hy13 (λ(x2:((List Int)×Int))=>mN [(0,.int a0),(3,.ptr 0 0 0),(5,.ptr 1 0 0),(6,.own 3 0 v1.2.length),(7,.own 4 0 x1.1.length),(9,.int v4),(10,.own 5 0 x2.1.length),(22,.own 6 0 v2.length),(23,.int ((v2.length:Nat):Int)),(24,.int x1.2),(34,.own 3 0 v1.2.length),(35,.int ((v1.2.length:Nat):Int)),(36,.int x2.2)] [(0,⟨3,[eM a1]⟩),(1,⟨3,[oMt v1.1 2]⟩),(2,⟨1,v1.1.cells.map (ow eI)⟩),(3,⟨1,v1.2.map (ow eI)⟩),(4,⟨1,x1.1.map (ow (sP 1 eI))⟩),(5,⟨1,x2.1.map (ow eI)⟩),(6,⟨1,v2.map (ow eI)⟩)] 7) (λr e t=>e= .exit 2∧Ent t (mN [(0,.int a0),(3,.ptr 0 0 0),(5,.ptr 1 0 0),(6,.own 3 0 v1.2.length),(7,.own 4 0 x1.1.length),(10,.own 5 0 r.length),(22,.own 6 0 v2.length),(23,.int ((v2.length:Nat):Int)),(24,.int x1.2)] [(0,⟨3,[eM a1]⟩),(1,⟨3,[oMt v1.1 2]⟩),(2,⟨1,v1.1.cells.map (ow eI)⟩),(3,⟨1,v1.2.map (ow eI)⟩),(4,⟨1,x1.1.map (ow (sP 1 eI))⟩),(5,⟨1,r.map (ow eI)⟩),(6,⟨1,v2.map (ow eI)⟩)] 7)) (vS [0,1,2,3,4,6,5] (tN 6 k2 (sW ⟨_,k,⟨k,k,(by simp only [aW,lA,lT,lR,lC,lN]),k⟩⟩ (bH k2))) (bF k<|iF k<|bT k<|bT k<|mW (eX.plainO _) k<|bT k<|bT k<|aY) k4) ?_ ?_
  ·intro x2 o h;refine sR<|cm k4<|an<|tn<|sQ<|cO k h (λ_ h=>?_) λ_ h=>aV<|aB<|aB<|sp h ⟨_,k,k,(bK (bH k2) (bF k<|iF k<|bT k<|bT k<|mW (eX.plainO _) k<|bT k<|bT k<|aY) k4)⟩;refine aI<|tn<|sQ<|aE<|sR<|am k k<|oB h λv7 hv7 h=>ae (xo hv7 k) k<|ae (wp hv7 k) k<|aa k k<|aT k2<|rg<|am k k<|am k k<|am k k<|lp k8<|am k k<|oB h λv8 hv8 h=>ae (AEff.pureE (mV (σ:=sg [(0,2)]) (σ':=sg [(2,0)]) (touch:=[2]) (news:=[]) (hl2:=[(2,⟨1,v1.1.cells.map (ow eI)⟩)]) (n':=7) (r2:= .own 2 (0+(wr (x2.2*v1.1.cols)).toNat) ((wr ((wr (x2.2+1))*v1.1.cols)).toNat - (wr (x2.2*v1.1.cols)).toNat)) (dT v1.1 x2.2 v8 hv8) k k ⟨_,_,k,⟨_,_,k,k,⟨_,_,k,k,⟨_,_,k,⟨k,k,k,k⟩,k⟩⟩⟩,⟨_,_,k,k,k⟩⟩ ⟨⟨_,k,k,.inl ⟨k,dY.plainO _⟩⟩,k,aY⟩ k k k ⟨⟨_,k,k,.inl ⟨k,dY.plainO _⟩⟩,k,aY⟩ k ⟨k,k,(by simp only [aW,lA,lT,lR,lC,lN]),k⟩ k ⟨k,dY.tame _ _,aY⟩ k k) ⟨k,k,aY⟩) k<|am k k<|cG h λq10 h=>oB h λv9 hv9 h=>ae (fU aS q10 k k k k k k k) k<|ae (dI aS k k k k (tA (hv9)) k k) k<|ae (kS k k) k<|am k k<|cG h λq12 h=>ae (yK k k q12) k<|oB h λv11 hv11 h=>ae (xo hv11 k) k<|ae (fY aS pX (u:=(wr (a0 - v9)).tmod a0) (eO hv11) k k k k k k) k<|an ?_;exact aX<|tn<|rg<|ae (bB k k) k<|am k k<|an<|tn<|sp h ⟨_,k,(bK (tN 6 k2 (sW ⟨_,k,⟨k,k,(by simp only [aW,lA,lT,lR,lC,lN]),k⟩⟩ (bH k2))) (bF k<|iF k<|bT k<|bT k<|mW (eX.plainO _) k<|bT k<|bT k<|aY) k4)⟩
  ·rintro e t ⟨rfl,hent⟩;exact aN<|tn<|aP hent<|rg<|am k k<|am k k<|ae (wl k) k<|cG h λq14 h=>ae (vL aS (l:=x1.1) (c:=[.own 5 0 y13.length]) q14 k k k k k k k k k k k k k k) k<|aa k k<|an<|aX<|tn<|aP (t:=mN [(0,.int a0),(3,.ptr 0 0 0),(5,.ptr 1 0 0),(6,.own 3 0 v1.2.length),(7,.own 8 0 ((x1.1++[y13]).length)),(22,.own 6 0 v2.length),(23,.int ((v2.length:Nat):Int)),(24,.int x1.2)] [(0,⟨3,[eM a1]⟩),(1,⟨3,[oMt v1.1 2]⟩),(2,⟨1,v1.1.cells.map (ow eI)⟩),(3,⟨1,v1.2.map (ow eI)⟩),(6,⟨1,v2.map (ow eI)⟩),(8,⟨1,List.map (ow (sP 1 eI)) (x1.1++[y13])⟩)] 9) (Ent.trans (oD (b:=8) (b':=5) (j:=0) (es':=y13.map eI) k k k k (aW _ _) (dY.frzs _)) (bK (tN 4 k2 (sW ⟨_,k,⟨k,k,(by simp only [aW,lA,lT,lR,lC,lN]),k⟩⟩ (bH k2))) (bF k<|iF k<|bT k<|bT k<|bT k<|hX ⟨_,k,k,.inl ⟨vM y13 k,eX.plainO _⟩⟩ k<|aY) k4))<|rg<|ae (bB k k) k<|am k k<|an<|tn<|sp h ⟨_,k,(vS [0,1,2,3,8,6] (bH k2) (bF k<|iF k<|bT k<|bT k<|mW (eX.plainO _) k<|bT k<|aY) k4)⟩
 ·rintro e t ⟨rfl,hent⟩;exact aN<|tn<|aP hent<|sR<|am k k<|aT k2<|aC<|sp h (bD k k k (gR (gC eX k k)))
def iD (a0:Rp) (a1:Rp) (v2:(List (List Int))) (x1:((List (List Mt))×Int)):Option (((List (List Mt))×Int) ⊕ (List (List Mt))):=
 bif decide (x1.2<((v2.length:Nat):Int)) then
 ((cP v2 x1.2).bind λv4=>
 (nP a0 a1).bind λv5=>
 (lZ v5 v4).bind λv6=>
 bif decide (x1.1.length+1≤4294967296) then
 (some (.inl ((x1.1++[v6]),wr (x1.2+1))))
 else none)
 else
 (some (.inr x1.1))
def pO (a0:Rp) (a1:Rp):Option (List (List Mt)):=
 (gH a0 a1).bind λv1=>
 (sH a0.p v1).bind λv2=>
 (Lp (iD a0 a1 v2) ([],0)).bind λy8=>
 some (y8)
theorem aCd (a0:Rp) (a1:Rp) (r:(List (List Mt))) (h:pO a0 a1=some r):HasC Tryz.prog 95 [.agg (eR a0),.agg (eR a1)] (.list 1 (r.map (sP 3 eM))):=by
 refine hM [.tmp 4] Tryz.func95 Tryz.ntmps95 k<|sR<|ae (wb k) k<|ae (wb k) k<|aT k2<|sR<|aT k2<|sQ<|sQ<|aO fZ<|fp k8<|lp k8<|lp k8<|lp k8<|oB h λv1 hv1 h=>ae (cM (rC a0 a1 v1 hv1) k3 (aD (cN k) (aD (cN k) aL))) k<|oB h λv2 hv2 h=>ae (cL eX (aEW a0.p v1 v2 hv2) k3 (bX k (aD (vaM k2) aL))) k<|ae (dU aS k k k k) k<|am k k<|an<|oW (by kernel_rfl)<|tn<|aE<|oB h λy8 hy8 h=>bP (body:=(iD a0 a1 v2)) hy8 (λ(x1:((List (List Mt))×Int))=>mN [(2,.ptr 0 0 0),(3,.ptr 1 0 0),(5,.own 2 0 x1.1.length),(13,.own 3 0 v2.length),(14,.int ((v2.length:Nat):Int)),(15,.int x1.2)] [(0,⟨6,[eR a0]⟩),(1,⟨6,[eR a1]⟩),(2,⟨1,x1.1.map (ow (sP 3 eM))⟩),(3,⟨1,v2.map (ow (sP 1 eI))⟩)] 4) (λr e t=>e= .exit 0∧Ent t (mN [(5,.own 0 0 r.length)] [(0,⟨1,r.map (ow (sP 3 eM))⟩)] 1)) (qH (σ:=sg [(0,0),(1,1),(3,3)]) (tN 2 k2 (sW ⟨_,k,⟨k,k,k,k⟩⟩ (bH k2))) (bF k<|bF k<|hX k k<|mW (eX.plainO _) k<|aY) k) ?_ ?_
 ·intro x1 o h;refine sR<|cm k4<|an<|tn<|sQ<|cO k h (λ_ h=>?_) λ_ h=>aV<|aB<|aB<|sp h ⟨_,k,k,(vS [2] (bH k2) (mW (eX.plainO _) k<|aY) k4)⟩;refine aI<|tn<|sQ<|aE<|sR<|oB h λv4 hv4 h=>ae (xo hv4 k) k<|ae (wp hv4 k) k<|aT k2<|rg<|am k k<|lp k8<|lp k8<|oB h λv5 hv5 h=>ae (cL cJ (xJ a0 a1 v5 hv5) k3 (aD (cN k) (aD (cN k) aL))) k<|am k k<|oB h λv6 hv6 h=>ae (cL cJ (aAN v5 v4 v6 hv6) k3 (aD (xA cJ k k) (bX k aL))) k<|ae (wl k) k<|cG h λq7 h=>ae (vL aS (l:=x1.1) (c:=[.own 5 0 v6.length]) q7 k k k k k k k k k k k k k k) k<|aa k k<|an<|aX<|tn<|aP (t:=mN [(2,.ptr 0 0 0),(3,.ptr 1 0 0),(5,.own 7 0 ((x1.1++[v6]).length)),(13,.own 3 0 v2.length),(14,.int ((v2.length:Nat):Int)),(15,.int x1.2)] [(0,⟨6,[eR a0]⟩),(1,⟨6,[eR a1]⟩),(3,⟨1,v2.map (ow (sP 1 eI))⟩),(7,⟨1,List.map (ow (sP 3 eM)) (x1.1++[v6])⟩)] 8) (Ent.trans (oD (b:=7) (b':=5) (j:=0) (es':=v6.map eM) k k k k (aW _ _) (cJ.frzs _)) (bK (tN 2 k2 (sW ⟨_,k,⟨k,k,(by simp only [aW,lA,lT,lR,lC,lN]),k⟩⟩ (bH k2))) (bF k<|bF k<|mW (eX.plainO _) k<|hX ⟨_,k,k,.inl ⟨vM v6 k,eX.plainO _⟩⟩ k<|aY) k4))<|rg<|ae (bB k k) k<|am k k<|an ?_;exact tn<|sp h ⟨_,k,(vS [0,1,7,3] (bH k2) (bF k<|bF k<|mW (eX.plainO _) k<|mW (eX.plainO _) k<|aY) k4)⟩
 ·rintro e t ⟨rfl,hent⟩;exact aN<|tn<|aP hent<|sR<|am k k<|aT k2<|aC<|sp h (bD k k k (gR (gC eX k k)))
def lL (a0:Int) (x1:(Int×(List Int)×Int)):Option ((Int×(List Int)×Int) ⊕ (List Int)):=
 bif decide (0≤x1.2.2) then
 (bif !decide (a0=0) then
 ((cP x1.2.1 x1.2.2).bind λv2=>
 bif !decide (a0=0) then
 (some (.inl (wr (x1.1.tdiv a0),(x1.2.1.set x1.2.2.toNat (x1.1.tmod a0)),wr (x1.2.2 - 1))))
 else none)
 else none)
 else
 (some (.inr x1.2.1))
def pP (a0:Int) (a1:Int) (a2:Int):Option (List Int):=
 bif (decide (0≤a1)&&decide (a1≤1048576)) then
 ((Lp (lL a0) (a2,(List.replicate a1.toNat (0:Int)),wr (a1 - 1))).bind λy5=>
 some (y5))
 else none
theorem aCe (a0:Int) (a1:Int) (a2:Int) (r:(List Int)) (h:pP a0 a1 a2=some r):HasC Tryz.prog 191 [.int a0,.int a1,.int a2] (.list 1 (r.map eI)):=by
 refine hM [.tmp 6] Tryz.func191 Tryz.ntmps191 k<|sR<|aT k2<|sR<|am k k<|cG h λq6 h=>ae (vK aS q6 k k k k k k k k) k<|aT k2<|aP (t:=mN [(0,.int a0),(1,.int a1),(2,.int a2),(7,.own 0 0 ((List.replicate a1.toNat (0:Int)).length))] [(0,⟨1,List.map (ow eI) (List.replicate a1.toNat (0:Int))⟩)] 1) (bK (tN 3 k2 (sW ⟨_,k,⟨k,k,(by simp only [aW,lA,lT,lR,lC,lN]),k⟩⟩ aY)) (hX ⟨_,k,k,.inl ⟨xB (e:=eI) (z:=0) _,dY.plainO _⟩⟩ k<|aY) k4)<|sQ<|sR<|am k k<|ae (kS k k) k<|aT k2<|aE<|oB h λy5 hy5 h=>bP (body:=(lL a0)) hy5 (λ(x1:(Int×(List Int)×Int))=>mN [(0,.int a0),(2,.int x1.1),(7,.own 0 0 x1.2.1.length),(8,.int x1.2.2)] [(0,⟨1,x1.2.1.map (ow eI)⟩)] 1) (λr e t=>e= .exit 0∧Ent t (mN [(7,.own 0 0 r.length)] [(0,⟨1,r.map (ow eI)⟩)] 1)) (bK (bH k2) (bT k<|aY) k4) ?_ ?_
 ·intro x1 o h;exact sQ<|sR<|am k k<|cm k4<|an<|tn<|cO k h (λ_ h=>aI<|tn<|sQ<|aE<|sR<|am k k<|am k k<|am k k<|am k k<|cG h λq4 h=>ae (yK k k q4) k<|oB h λv2 hv2 h=>ae (xo hv2 k) k<|ae (fY aS pX (u:=x1.1.tmod a0) (eO hv2) k k k k k k) k<|an<|tn<|rg<|am k k<|am k k<|cG h λq3 h=>ae (aJU k k q3) k<|aa k k<|an<|aX<|tn<|rg<|am k k<|ae (kS k k) k<|aT k2<|sp h ⟨_,k,(bK (tN 2 k2 (sW ⟨_,k,⟨k,k,(by simp only [aW,lA,lT,lR,lC,lN]),k⟩⟩ (bH k2))) (bT k<|aY) k4)⟩) λ_ h=>aV<|aB<|aB<|sp h ⟨_,k,k,(bK (bH k2) (bT k<|aY) k4)⟩
 ·rintro e t ⟨rfl,hent⟩;exact aN<|tn<|aP hent<|sR<|am k k<|aT k2<|aC<|sp h (bD k k k (gR (gC dY k k)))
def lM (a0:Rp) (a3:(List Int)) (v3:(List Mt)) (x1:((List Mt)×Int)) (x2:((List Mt)×Int)):Option (((List Mt)×Int) ⊕ (List Mt)):=
 bif decide (x2.2<(v3.length:Int)) then
 ((cP v3 x2.2).bind λv5=>
 (cP x2.1 x2.2).bind λv6=>
 (cP a3 x1.2).bind λv7=>
 (dZ a0.p v6.cells 0 v6.cells.length v7 v5.cells).bind λv8=>
 bif decide (v8.length=v6.cells.length) then
 (some (.inl ((x2.1.set x2.2.toNat (⟨v6.rows,v6.cols,v8⟩:Mt)),wr (x2.2+1))))
 else none)
 else
 (some (.inr x2.1))
def lO (a0:Rp) (a2:(List (List Mt))) (a3:(List Int)) (x1:((List Mt)×Int)):Option (((List Mt)×Int) ⊕ (List Mt)):=
 bif decide (x1.2<(a2.length:Int)) then
 ((cP a2 x1.2).bind λv3=>
 (Lp (lM a0 a3 v3 x1) (x1.1,0)).bind λy10=>
 some (.inl (y10,wr (x1.2+1))))
 else
 (some (.inr x1.1))
def tF (a0:Rp) (a1:Rp) (a2:(List (List Mt))) (a3:(List Int)):Option (List Mt):=
 (nP a0 a1).bind λv1=>
 (Lp (lO a0 a2 a3) (v1,0)).bind λy11=>
 some (y11)
theorem aCf (a0:Rp) (a1:Rp) (a2:(List (List Mt))) (a3:(List Int)) (r:(List Mt)) (h:tF a0 a1 a2 a3=some r):HasC Tryz.prog 190 [.agg (eR a0),.agg (eR a1),.list 1 (a2.map (sP 3 eM)),.list 1 (a3.map eI)] (.list 3 (r.map eM)):=by
 refine aLs aS (rvs:=[.tmp 8]) (ns:=nmA) Tryz.func190 k k Tryz.ntmps190 k k k (λW=>?_);refine wC<|mF<|mF<|gA (λw0_2 S0_2 r0_2=>?_);refine gA (λw0_3 S0_3 r0_3=>?_);refine gA (λw0_4 S0_4 r0_4=>?_);refine gA (λw0_5 S0_5 r0_5=>?_);refine sU<|wC<|mF<|mF<|gA (λw1_2 S1_2 r1_2=>?_);refine gA (λw1_3 S1_3 r1_3=>?_);refine gA (λw1_4 S1_4 r1_4=>?_);refine gA (λw1_5 S1_5 r1_5=>?_);refine sU<|aLr (λw2_0 S2_0 r2_0=>?_);refine aLr (λw3_0 S3_0 r3_0=>?_);refine aBI<|sS<|se (wb k) k<|se (wb k) k<|saS k2<|sn<|tn<|sS<|lpS k8<|lpS k8<|oB h λv1 hv1 h=>se (cLK cJ (xJ a0 a1 v1 hv1) k3 (cH (vrR k r0_2 r0_3 r0_4 r0_5) (cH (vrR k r1_2 r1_3 r1_4 r1_5) fS))) k<|saS k2<|sn<|tn<|sQ<|sS<|smS k2<|se (aFX aS r2_0 k k k) k<|smS k2<|sn<|tn<|aE<|oB h λy11 hy11 h=>bP (body:=(lO a0 a2 a3)) hy11 (λ(x1:((List Mt)×Int))=>mN [(3,.sc w3_0),(4,.ptr 0 0 0),(9,.own 1 0 x1.1.length),(17,.sc w2_0),(18,.int (a2.length:Int)),(19,.int x1.2)] [(0,⟨6,[[.int a0.p,.int a0.q.n,.sc w0_2,.sc w0_3,.sc w0_4,.sc w0_5]]⟩),(1,⟨3,x1.1.map (ow eM)⟩)] 2 ⟨0,true,fxW W,true⟩) (λr e t=>e= .exit 0∧Ent t (mN [(9,.own 0 0 r.length)] [(0,⟨3,r.map (ow eM)⟩)] 1 ⟨0,true,fxW W,true⟩)) (vS [0,2] (bH k2) (bF k<|mW (cJ.plainO _) k<|aY) k4) ?_ ?_
 ·intro x1 o h;refine sS<|cmS k4<|sn<|tn<|sQ<|cO k h (λ_ h=>?_) λ_ h=>aV<|aB<|aB<|sp h ⟨_,k,k,(vS [1] (bH k2) (mW (cJ.plainO _) k<|aY) k4)⟩;refine aI<|tn<|sQ<|aE<|sS<|smS k2<|oB h λv3 hv3 h=>se (aDv aS r2_0 hv3 k k k k k k) k<|aFZ aS [.list 3 (v3.map eM)] (aFY r2_0 (eO hv3)) k k k k k k k k k<|gA (λwn9 Sn9 rn9=>?_);refine sU<|saS k2<|saS k2<|sn<|tn<|sS<|smS k2<|se (aFX aS rn9 k k k) k<|smS k2<|sn<|tn<|aE<|oB h λy10 hy10 h=>bP (body:=(lM a0 a3 v3 x1)) hy10 (λ(x2:((List Mt)×Int))=>mN [(3,.sc w3_0),(4,.ptr 0 0 0),(9,.own 1 0 x2.1.length),(10,.int x1.2),(17,.sc w2_0),(18,.int (a2.length:Int)),(19,.int x1.2),(24,.sc wn9),(25,.int (v3.length:Int)),(26,.int x2.2)] [(0,⟨6,[[.int a0.p,.int a0.q.n,.sc w0_2,.sc w0_3,.sc w0_4,.sc w0_5]]⟩),(1,⟨3,x2.1.map (ow eM)⟩)] 2 ⟨0,true,fxW W,true⟩) (λr e t=>e= .exit 2∧Ent t (mN [(3,.sc w3_0),(4,.ptr 0 0 0),(9,.own 1 0 r.length),(17,.sc w2_0),(18,.int (a2.length:Int)),(19,.int x1.2)] [(0,⟨6,[[.int a0.p,.int a0.q.n,.sc w0_2,.sc w0_3,.sc w0_4,.sc w0_5]]⟩),(1,⟨3,r.map (ow eM)⟩)] 2 ⟨0,true,fxW W,true⟩)) (bK (bH k2) (bF k<|mW (cJ.plainO _) k<|aY) k4) ?_ ?_
  ·intro x2 o h;refine sS<|cmS k4<|sn<|tn<|sQ<|cO k h (λ_ h=>?_) λ_ h=>aV<|aB<|aB<|sp h ⟨_,k,k,(bK (bH k2) (bF k<|mW (cJ.plainO _) k<|aY) k4)⟩;refine aI<|tn<|sQ<|aE<|sS<|smS k2<|oB h λv5 hv5 h=>se (aDv aS rn9 hv5 k k k k k k) k<|aFZ aS [.int v5.rows,.int v5.cols,.list 1 (v5.cells.map eI)] (aFY rn9 (eO hv5)) k k k k k k k k k<|mF<|mF<|gA (λwn12 Sn12 rn12=>?_);refine sU<|se (bY aS k k) k<|saS k2<|se (ws k) k<|sn<|tn<|oB h λv6 hv6 h=>aP (t:=mN [(3,.sc w3_0),(4,.ptr 0 0 0),(9,.own 1 0 x2.1.length),(10,.int x1.2),(12,.int x2.2),(13,.ptr 2 0 0),(17,.sc w2_0),(18,.int (a2.length:Int)),(19,.int x1.2),(24,.sc wn9),(25,.int (v3.length:Int)),(26,.int x2.2),(27,.bl (decide (x2.2<(v3.length:Int)))),(28,.int x2.2),(29,.sc (aDu wn9 3 x2.2.toNat)),(30,.agg [.int v5.rows,.int v5.cols,.sc wn12])] [(0,⟨6,[[.int a0.p,.int a0.q.n,.sc w0_2,.sc w0_3,.sc w0_4,.sc w0_5]]⟩),(1,⟨3,(x2.1.map (ow eM)).set x2.2.toNat [.int v6.rows,.int v6.cols,.abs 1 (v6.cells.map eI)]⟩),(2,⟨3,[[.int v5.rows,.int v5.cols,.sc wn12]]⟩)] 3 ⟨0,true,fxW W,true⟩) (bK (bH k2) (bF k<|hX ⟨_,k,k,.inl ⟨aLw (eO hv6),aKe cJ k⟩⟩ k<|bF k<|aY) k4)<|aP (aKf (b:=1) (c:=3) (i:=x2.2.toNat) (j:=2) (n:=v6.cells.length) (A:=x2.1.map (ow eM)) (fs:=v6.cells.map (ow eI)) (by rw [dM];exact aBj hv6) k k k k (aW _ _) (mB _ _) (aLt ⟨k,k,k,k,k,k,k,k,k,k,k,k,k,k,k,k,aY⟩) (aLu (skip:=[]) ⟨.inr (aLv k),.inr (cJ.dfS _ _ _ k),.inr (aLv k),aY⟩))<|aP (t:=mN [(3,.sc w3_0),(4,.ptr 0 0 0),(9,.own 1 0 x2.1.length),(10,.int x1.2),(12,.int x2.2),(13,.ptr 2 0 0),(17,.sc w2_0),(18,.int (a2.length:Int)),(19,.int x1.2),(24,.sc wn9),(25,.int (v3.length:Int)),(26,.int x2.2),(27,.bl (decide (x2.2<(v3.length:Int)))),(28,.int x2.2),(29,.sc (aDu wn9 3 x2.2.toNat)),(30,.agg [.int v5.rows,.int v5.cols,.sc wn12])] [(0,⟨6,[[.int a0.p,.int a0.q.n,.sc w0_2,.sc w0_3,.sc w0_4,.sc w0_5]]⟩),(1,⟨3,(x2.1.map (ow eM)).set x2.2.toNat [.int v6.rows,.int v6.cols,.own 3 0 v6.cells.length]⟩),(2,⟨3,[[.int v5.rows,.int v5.cols,.sc wn12]]⟩),(3,⟨1,v6.cells.map (ow eI)⟩)] 4 ⟨0,true,fxW W,true⟩) (qH (σ:=sg [(0,0),(1,1),(2,2),(3,3)]) (bH k2) (bF k<|hX ⟨_,k,k,.inr (aMx (σ:=sg [(0,0),(1,1),(2,2),(3,3)]) (m:=4) (e:=eM) (l:=x2.1) (i:=x2.2.toNat) (c:=[.int v6.rows,.int v6.cols,.own 3 0 v6.cells.length]) (d:=[.int v6.rows,.int v6.cols,.own 3 0 v6.cells.length]) cJ ⟨_,_,k,k,⟨_,_,k,k,⟨_,_,k,⟨k,k,k,k⟩,k⟩⟩⟩)⟩ k<|bF k<|bT k<|aY) k)<|aO fZ<|fp k8<|lp k8<|am k k<|am k k<|ae (xo hv6 k) k<|fp k8<|ae (dI aS k k k k (aNu (aBj hv6)) k k) k<|am k k<|am k k<|oB h λv7 hv7 h=>ae (aDv aS r3_0 hv7 k k k k k k) k<|ae (aIy aS r3_0 (eO hv7) k k k k k k k) k<|fp k8<|lp k8<|oB h λv8 hv8 h=>ae (aKd (σ:=sg [(0,3)]) (σ':=sg [(3,0)]) (touch:=[3]) (news:=[]) (hl2:=[(3,⟨1,v8.map (ow eI)⟩)]) (n':=4) (r2:= .own 3 0 v6.cells.length) (pY a0.p v6.cells 0 v6.cells.length v7 v5.cells v8 hv8) k k ⟨_,_,k,(.inl k),⟨_,_,k,(.inl ⟨k,k,k,k⟩),⟨_,_,k,(.inl k),⟨_,_,k,(.inr ⟨aNZ k rn12,k,⟨k,k⟩⟩),k⟩⟩⟩⟩ ⟨⟨_,k,k,.inl ⟨k,dY.plainO _⟩⟩,k,aY⟩ k k k ⟨⟨_,k,k,.inl ⟨k,dY.plainO _⟩⟩,k,aY⟩ k ⟨k,k,(by simp only [aW,lA,lT,lR,lC,lN]),k⟩ k ⟨k,dY.tame _ _,aY⟩ k k) k<|cG h λq9 h=>an<|oW (by kernel_rfl)<|aX<|tn<|aP (t:=mN [(3,.sc w3_0),(4,.ptr 0 0 0),(9,.own 1 0 ((x2.1.set x2.2.toNat (⟨v6.rows,v6.cols,v8⟩:Mt)).length)),(10,.int x1.2),(17,.sc w2_0),(18,.int (a2.length:Int)),(19,.int x1.2),(24,.sc wn9),(25,.int (v3.length:Int)),(26,.int x2.2)] [(0,⟨6,[[.int a0.p,.int a0.q.n,.sc w0_2,.sc w0_3,.sc w0_4,.sc w0_5]]⟩),(1,⟨3,List.map (ow eM) (x2.1.set x2.2.toNat (⟨v6.rows,v6.cols,v8⟩:Mt))⟩)] 4 ⟨0,true,fxW W,true⟩) (Ent.trans (aHM (b:=1) (b':=3) (j:=2) (es':=v8.map eI) (by rw [dM];exact aBj hv6) k k k k (by simp only [aW,lA,lT,lR,lC,lN,of_decide_eq_true q9]) (dY.frzs _)) (bK (tN 2 k2 (sW ⟨_,k,⟨k,k,(by simp only [aW,lA,lT,lR,lC,lN,of_decide_eq_true q9]),k⟩⟩ (bH k2))) (bF k<|hX ⟨_,k,k,.inl ⟨aLk (⟨v6.rows,v6.cols,v8⟩:Mt) k,cJ.plainO _⟩⟩ k<|aY) k4))<|rgS ?_;exact se (bB k k) k<|smS k2<|sn<|tn<|sp h ⟨_,k,(bK (bH k2) (bF k<|mW (cJ.plainO _) k<|aY) k4)⟩
  ·rintro e t ⟨rfl,hent⟩;exact aN<|aX<|tn<|aP hent<|rgS<|se (bB k k) k<|smS k2<|sn<|tn<|sp h ⟨_,k,(bK (bH k2) (bF k<|mW (cJ.plainO _) k<|aY) k4)⟩
 ·rintro e t ⟨rfl,hent⟩;exact aN<|tn<|aP hent<|sS<|smS k2<|saS k2<|sn<|tn<|aC<|sp h (bD k k k (gR (gC cJ k k)))
def pQ (a0:Rp) (a1:Rp) (a2:(List (List Mt))) (a3:Int):Option (List Mt):=
 (pP a0.p (a2.length:Int) a3).bind λv1=>
 (tF a0 a1 a2 v1).bind λv2=>
 some (v2)
theorem aCg (a0:Rp) (a1:Rp) (a2:(List (List Mt))) (a3:Int) (r:(List Mt)) (h:pQ a0 a1 a2 a3=some r):HasC Tryz.prog 155 [.agg (eR a0),.agg (eR a1),.list 1 (a2.map (sP 3 eM)),.int a3] (.list 3 (r.map eM)):=by
 exact hM [.tmp 8] Tryz.func155 Tryz.ntmps155 k<|sR<|ae (wb k) k<|ae (wb k) k<|aT k2<|sQ<|aO fZ<|lp k8<|lp k8<|am k k<|fp k8<|lp k8<|am k k<|ln k4<|am k k<|oB h λv1 hv1 h=>ae (cL dY (aCe a0.p (a2.length:Int) a3 v1 hv1) k3 (bX k (bX k (bX k aL)))) k<|oB h λv2 hv2 h=>ae (cL cJ (aCf a0 a1 a2 v1 v2 hv2) k3 (aD (cN k) (aD (cN k) (bX k (vcT k k aL))))) k<|aa k k<|an<|oW (by kernel_rfl)<|tn<|aC<|sp h (bD k k k (gR (gC cJ k k)))
def fP (a0:Int) (a1:Int) (x1:(Int×Int)):Option ((Int×Int) ⊕ Int):=
 bif decide (x1.2<a1) then
 (bif decide (x1.1≤100000) then
 (some (.inl (wr (x1.1*a0),wr (x1.2+1))))
 else
 (some (.inr x1.1)))
 else
 (some (.inr x1.1))
def kN (a0:Int) (a1:Int):Option Int:=
 (Lp (fP a0 a1) (1,0)).bind λy3=>
 some (y3)
theorem wK (a0:Int) (a1:Int) (r:Int) (h:kN a0 a1=some r):HasC Tryz.prog 97 [.int a0,.int a1] (.int r):=by
 refine hM [.tmp 4] Tryz.func97 Tryz.ntmps97 k<|sR<|aT k2<|sR<|aT k2<|sQ<|sR<|aT k2<|aE<|oB h λy3 hy3 h=>bP (body:=(fP a0 a1)) hy3 (λ(x1:(Int×Int))=>mN [(0,.int a0),(1,.int a1),(5,.int x1.1),(6,.int x1.2)] [] 0) (λr e t=>e= .exit 0∧Ent t (mN [(5,.int r)] [] 0)) (bK (bH k2) aY k4) ?_ ?_
 ·intro x1 o h;exact sQ<|sR<|am k k<|am k k<|cm k4<|am k k<|mR h (λq1 h=>aJ 10 k q1<|am k k<|cm k4<|pk k3<|an<|tn<|cO k h (λ_ h=>aI<|tn<|sQ<|aE<|rg<|am k k<|am k k<|ae (dJ k k) k<|aa k k<|an<|aX<|tn<|rg<|am k k<|ae (bB k k) k<|aT k2<|sp h ⟨_,k,(bK (bH k2) aY k4)⟩) λ_ h=>aV<|aB<|aB<|sp h ⟨_,k,k,(bK (bH k2) aY k4)⟩) λq1 h=>aJ 10 k q1<|aK k4<|pk k3<|an<|tn<|sK k k<|aV<|aB<|aB<|sp h ⟨_,k,k,(bK (bH k2) aY k4)⟩
 ·rintro e t ⟨rfl,hent⟩;exact aN<|tn<|aP hent<|sR<|am k k<|aT k2<|aC<|oV h k2
def pR (a0:Int) (a1:(List Mt)) (x1:((List Int)×Int)):Option (((List Int)×Int) ⊕ (List Int)):=
 bif decide (x1.2<(a1.length:Int)) then
 ((cP a1 x1.2).bind λv2=>
 (qC a0 v2).bind λv3=>
 bif decide (x1.1.length+[v3].length ≤4294967296) then
 (some (.inl ((x1.1++[v3]),wr (x1.2+1))))
 else none)
 else
 (some (.inr x1.1))
def tX (a0:Int) (a1:(List Mt)):Option (List Int):=
 (Lp (pR a0 a1) ([],0)).bind λy5=>
 some (y5)
theorem aGV (a0:Int) (a1:(List Mt)) (r:(List Int)) (h:tX a0 a1=some r):HasC Tryz.prog 192 [.int a0,.list 3 (a1.map eM)] (.list 1 (r.map eI)):=by
 refine hM [.tmp 4] Tryz.func192 Tryz.ntmps192 k<|sR<|aT k2<|sR<|aT k2<|sQ<|sR<|am k k<|ln k4<|am k k<|an<|tn<|aE<|oB h λy5 hy5 h=>bP (body:=(pR a0 a1)) hy5 (λ(x1:((List Int)×Int))=>mN [(0,.int a0),(5,.own 0 0 x1.1.length),(8,.list 3 (a1.map eM)),(9,.int (a1.length:Int)),(10,.int x1.2)] [(0,⟨1,x1.1.map (ow eI)⟩)] 1) (λr e t=>e= .exit 0∧Ent t (mN [(5,.own 0 0 r.length)] [(0,⟨1,r.map (ow eI)⟩)] 1)) (qH (σ:=sg []) (tN 1 k2 (sW ⟨_,k,⟨k,k,k,k⟩⟩ (bH k2))) (hX k k<|aY) k) ?_ ?_
 ·intro x1 o h;exact sR<|cm k4<|an<|tn<|sQ<|cO k h (λ_ h=>aI<|tn<|sQ<|aE<|sR<|oB h λv2 hv2 h=>ae (xl hv2 k) k<|lr k7<|ae (bY aS k k) k<|ae (ws k) k<|an<|tn<|rg<|am k k<|am k k<|lp k8<|oB h λv3 hv3 h=>ae (aH (yR a0 v2 v3 hv3) k (bX k (aD (cN k) aL))) k<|ae (wl k) k<|cG h λq4 h=>ae (yL aS (l:=x1.1) (m:=[v3]) pX q4 k k k k k k k k k k k k) k<|aa k k<|an<|aX<|tn<|rg<|ae (bB k k) k<|am k k<|an<|tn<|sp h ⟨_,k,(vS [3] (bH k2) (bT k<|aY) k4)⟩) λ_ h=>aV<|aB<|aB<|sp h ⟨_,k,k,(bK (bH k2) (bT k<|aY) k4)⟩
 ·rintro e t ⟨rfl,hent⟩;exact aN<|tn<|aP hent<|sR<|am k k<|aT k2<|aC<|sp h (bD k k k (gR (gC dY k k)))
def mK (a0:Rp) (a1:Rp) (a2:(List Mt)):Option Bool:=
 (cV a0.dims a1.dims).bind λv1=>
 bif v1 then
 ((tX a0.p a2).bind λv3=>
 (cV v3 a0.dims).bind λv4=>
 some (v4))
 else
 (some (false))
theorem aBW (a0:Rp) (a1:Rp) (a2:(List Mt)) (r:Bool) (h:mK a0 a1 a2=some r):HasC Tryz.prog 156 [.agg (eR a0),.agg (eR a1),.list 3 (a2.map eM)] (.bl r):=by
 exact hM [.tmp 6] Tryz.func156 Tryz.ntmps156 k<|sR<|ae (wb k) k<|ae (wb k) k<|aT k2<|sQ<|aO fZ<|fp k8<|lp k8<|fp k8<|lp k8<|oB h λv1 hv1 h=>ae (aH (eG a0.dims a1.dims v1 hv1) k (bX k (bX k aL))) k<|am k k<|mR h (λq2 h=>aJ 12 k q2<|fp k8<|lp k8<|am k k<|oB h λv3 hv3 h=>ae (cL dY (aGV a0.p a2 v3 hv3) k3 (bX k (bX k aL))) k<|fp k8<|lp k8<|oB h λv4 hv4 h=>ae (aH (eG v3 a0.dims v4 hv4) k (vcT k k (bX k aL))) k<|pk k3<|aa k k<|an<|oW (by kernel_rfl)<|tn<|aC<|fB h k2) λq2 h=>aJ 12 k q2<|aK k4<|aK k4<|aK k4<|ak k k<|pk k3<|aa k k<|an<|oW (by kernel_rfl)<|tn<|aC<|fB h k2
def fT (a0:Rp) (a1:Rp) (a2:(List (List Mt))) (v1:Int) (x1:Int):Option (Int ⊕ (Unit ⊕ ((List Mt)×Bool))):=
 bif decide (x1<min v1 3000) then
 ((pQ a0 a1 a2 x1).bind λv3=>
 (mK a0 a1 v3).bind λv4=>
 bif v4 then
 (some (.inr (.inr ((v3,true)))))
 else
 (some (.inl (wr (x1+1)))))
 else
 (some (.inr (.inl ())))
def gY (a0:Rp) (a1:Rp) (a2:(List (List Mt))):Option ((List Mt)×Bool):=
 (kN a0.p (a2.length:Int)).bind λv1=>
 (Lp (fT a0 a1 a2 v1) 0).bind λy6=>
 Sum.elim (λy7=>
 some (([],false))
 )
 (λy8=>
 some y8
 )
 y6
theorem xP (a0:Rp) (a1:Rp) (a2:(List (List Mt))) (r:((List Mt)×Bool)) (h:gY a0 a1 a2=some r):HasC Tryz.prog 96 [.agg (eR a0),.agg (eR a1),.list 1 (a2.map (sP 3 eM))] (.tuple [.list 3 (r.1.map eM),.bl r.2]):=by
 refine hM [.tmp 6,.tmp 7] Tryz.func96 Tryz.ntmps96 k<|sR<|ae (wb k) k<|ae (wb k) k<|aa k k<|aT k2<|sQ<|sR<|fp k8<|lp k8<|am k k<|ln k4<|oB h λv1 hv1 h=>ae (aH (wK a0.p (a2.length:Int) v1 hv1) k (bX k (bX k aL))) k<|ae (aOX k k) k<|am k k<|an<|tn<|aE<|oB h λy6 hy6 h=>bP (body:=(fT a0 a1 a2 v1)) hy6 (λ(x1:Int)=>mN [(2,.list 1 (a2.map (sP 3 eM))),(3,.ptr 0 0 0),(4,.ptr 1 0 0),(15,.int (min v1 3000)),(16,.int x1)] [(0,⟨6,[eR a0]⟩),(1,⟨6,[eR a1]⟩)] 2) (λr e t=>Sum.elim (λa=>(λr e t=>e= .exit 0∧Ent t (mN [] [] 0)) a e t) (λb=>(λr e t=>e= .ret∧qE TT [.tmp 6,.tmp 7] (.tuple [.list 3 (r.1.map eM),.bl r.2]) .ret t) b e t) r) (bK (bH k2) (bF k<|bF k<|aY) k4) ?_ ?_
 ·intro x1 o h;exact sR<|cm k4<|an<|tn<|sQ<|cO k h (λ_ h=>aI<|tn<|sQ<|aE<|sR<|am k k<|aT k2<|sR<|lp k8<|lp k8<|am k k<|am k k<|oB h λv3 hv3 h=>ae (cL cJ (aCg a0 a1 a2 x1 v3 hv3) k3 (aD (cN k) (aD (cN k) (bX k (bX k aL))))) k<|aT k2<|sR<|lp k8<|lp k8<|am k k<|oB h λv4 hv4 h=>ae (aH (aBW a0 a1 v3 v4 hv4) k (aD (cN k) (aD (cN k) (aD (xA cJ k k) aL)))) k<|an<|tn<|cO k h (λ_ h=>sR<|am k k<|aa k k<|aT k2<|aC<|bA<|aG<|aG<|sp h ⟨_,k,k,bD k k k (iX k (cF (qN (gC cJ k k)) (cF (k) qO)))⟩) λ_ h=>aI<|aX<|tn<|rg<|ae (bB k k) k<|am k k<|an<|tn<|sp h ⟨_,k,(bK (bH k2) (bF k<|bF k<|aY) k4)⟩) λ_ h=>aV<|aB<|aB<|sp h ⟨_,k,k,(bK aY aY k4)⟩
 ·intro e t hX;rcases y6 with y7|y8
  ·obtain ⟨rfl,hent⟩:=hX;exact aN<|tn<|aP hent<|sR<|aa k k<|aT k2<|aC<|sp h (bD k k k (iX k (cF (qN (k)) (cF (k) qO))))
  ·obtain ⟨rfl,hent⟩:=hX;exact bA<|aG<|sp h hent
def sI (a0:Rp) (a1:Rp):Option Bool:=
 (cV a0.dims a1.dims).bind λv1=>
 bif !v1 then
 (some (true))
 else
 ((hJ a0 a0).bind λv3=>
 (hJ a0 a1).bind λv4=>
 bif !decide (v4=v3) then
 (some (true))
 else
 ((hJ a1 a0).bind λv6=>
 bif !decide (v6=v3) then
 (some (true))
 else
 ((hJ a1 a1).bind λv8=>
 some (!decide (v8=v3)))))
theorem aEX (a0:Rp) (a1:Rp) (r:Bool) (h:sI a0 a1=some r):HasC Tryz.prog 94 [.agg (eR a0),.agg (eR a1)] (.bl r):=by
 exact hM [.tmp 4] Tryz.func94 Tryz.ntmps94 k<|sR<|ae (wb k) k<|ae (wb k) k<|aT k2<|sQ<|sR<|fp k8<|lp k8<|fp k8<|lp k8<|oB h λv1 hv1 h=>ae (aH (eG a0.dims a1.dims v1 hv1) k (bX k (bX k aL))) k<|ae (dC k) k<|an<|tn<|cO k h (λ_ h=>sR<|aT k2<|aC<|aG<|fB h k2) λ_ h=>aI<|tn<|sR<|lp k8<|lp k8<|oB h λv3 hv3 h=>ae (aH (oJ a0 a0 v3 hv3) k (aD (cN k) (aD (cN k) aL))) k<|aT k2<|sR<|lp k8<|lp k8<|oB h λv4 hv4 h=>ae (aH (oJ a0 a1 v4 hv4) k (aD (cN k) (aD (cN k) aL))) k<|am k k<|cm k4<|am k k<|mR h (λq5 h=>aJ 20 k q5<|aK k4<|aK k4<|ak k k<|pk k3<|am k k<|aK k4<|aK k4<|ak k k<|pk k3<|aT k2<|aC<|fB h k2) λq5 h=>aJ 20 k q5<|lp k8<|lp k8<|oB h λv6 hv6 h=>ae (aH (oJ a1 a0 v6 hv6) k (aD (cN k) (aD (cN k) aL))) k<|am k k<|cm k4<|pk k3<|am k k<|mR h (λq7 h=>aJ 27 k q7<|aK k4<|aK k4<|ak k k<|pk k3<|aT k2<|aC<|fB h k2) λq7 h=>aJ 27 k q7<|lp k8<|lp k8<|oB h λv8 hv8 h=>ae (aH (oJ a1 a1 v8 hv8) k (aD (cN k) (aD (cN k) aL))) k<|am k k<|cm k4<|pk k3<|aT k2<|aC<|fB h k2
def jH (a0:Rp) (a1:Rp):Option Int:=
 (jP a0 a1).bind λv1=>
 bif !v1 then
 (some ((-1)))
 else
 ((sI a0 a1).bind λv3=>
 bif v3 then
 (some (0))
 else
 ((pO a0 a1).bind λv5=>
 (gY a0 a1 v5).bind λv6=>
 bif v6.2 then
 (some (1))
 else
 ((kN a0.p ((v5.length:Nat):Int)).bind λv8=>
 bif decide (v8≤3000) then
 (some (0))
 else
 (some ((-1))))))
theorem zA (a0:Rp) (a1:Rp) (r:Int) (h:jH a0 a1=some r):HasC Tryz.prog 45 [.agg (eR a0),.agg (eR a1)] (.int r):=by
 refine hM [.tmp 4] Tryz.func45 Tryz.ntmps45 k<|sR<|ae (wb k) k<|ae (wb k) k<|aT k2<|sQ<|sR<|lp k8<|lp k8<|oB h λv1 hv1 h=>ae (aH (xE a0 a1 v1 hv1) k (aD (cN k) (aD (cN k) aL))) k<|ae (dC k) k<|an<|tn<|cO k h (λ_ h=>sR<|aT k2<|aC<|aG<|oV h k2) λ_ h=>?_;refine aI<|tn<|sQ<|sR<|lp k8<|lp k8<|oB h λv3 hv3 h=>ae (aH (aEX a0 a1 v3 hv3) k (aD (cN k) (aD (cN k) aL))) k<|an<|tn<|cO k h (λ_ h=>sR<|aT k2<|aC<|aG<|oV h k2) λ_ h=>?_;refine aI<|tn<|sR<|lp k8<|lp k8<|oB h λv5 hv5 h=>ae (cL eX (aCd a0 a1 v5 hv5) k3 (aD (cN k) (aD (cN k) aL))) k<|aT k2<|sQ<|sR<|lp k8<|lp k8<|am k k<|oB h λv6 hv6 h=>ae (cT cJ (xP a0 a1 v5 v6 hv6) k3 (aD (cN k) (aD (cN k) (aD (xA eX k k) aL)))) k<|am k k<|ae (cB k k (by intro _ h;cases h)) k<|ae (cB k k (by intro _ h;cases h)) k<|aa k k<|aT k2<|sR<|am k k<|an<|tn ?_;exact aP (t:=mN [(2,.ptr 0 0 0),(5,.own 2 0 v5.length),(25,.bl v6.2)] [(0,⟨6,[eR a0]⟩),(2,⟨1,v5.map (ow (sP 3 eM))⟩)] 4) (bK (bH k2) (bF k<|mW (eX.plainO _) k<|aY) k4)<|cO k h (λ_ h=>sR<|aT k2<|aC<|aG<|oV h k2) λ_ h=>aI<|tn<|sQ<|sR<|fp k8<|lp k8<|am k k<|ae (dU aS k k k k) k<|oB h λv8 hv8 h=>ae (aH (wK a0.p ((v5.length:Nat):Int) v8 hv8) k (bX k (bX k aL))) k<|cm k4<|an<|tn<|cO k h (λ_ h=>sR<|aT k2<|aC<|aG<|oV h k2) λ_ h=>aI<|tn<|sR<|aT k2<|aC<|oV h k2
def mM (a0:(List Mt)) (x1:((List Int)×Int)):Option (((List Int)×Int) ⊕ (List Int)):=
 bif decide (x1.2<(a0.length:Int)) then
 ((cP a0 x1.2).bind λv2=>
 bif decide (x1.1.length+v2.cells.length≤4294967296) then
 (some (.inl ((x1.1++v2.cells),wr (x1.2+1))))
 else none)
 else
 (some (.inr x1.1))
def rF (a0:(List Mt)):Option (List Int):=
 (Lp (mM a0) (([]:(List Int)),0)).bind λy4=>
 some (y4)
theorem aDy (a0:(List Mt)) (r:(List Int)) (h:rF a0=some r):HasC Tryz.prog 178 [.list 3 (a0.map eM)] (.list 1 (r.map eI)):=by
 refine hM [.tmp 2] Tryz.func178 Tryz.ntmps178 k<|sR<|aT k2<|sR<|ae (wl k) k<|aT k2<|aP (t:=mN [(0,.list 3 (a0.map eM)),(3,.own 0 0 (([]:(List Int)).length))] [(0,⟨1,List.map (ow eI) ([]:(List Int))⟩)] 1) (bK (tN 1 k2 (sW ⟨_,k,⟨k,k,(by simp only [aW,lA,lT,lR,lC,lN]),k⟩⟩ aY)) (bT k<|aY) k4)<|sQ<|sR<|aT k2<|aE<|oB h λy4 hy4 h=>bP (body:=(mM a0)) hy4 (λ(x1:((List Int)×Int))=>mN [(0,.list 3 (a0.map eM)),(3,.own 0 0 x1.1.length),(4,.int x1.2)] [(0,⟨1,x1.1.map (ow eI)⟩)] 1) (λr e t=>e= .exit 0∧Ent t (mN [(3,.own 0 0 r.length)] [(0,⟨1,r.map (ow eI)⟩)] 1)) (bK (bH k2) (bT k<|aY) k4) ?_ ?_
 ·intro x1 o h;exact sQ<|sR<|am k k<|am k k<|ln k4<|cm k4<|an<|tn<|cO k h (λ_ h=>aI<|tn<|sQ<|aE<|rg<|am k k<|am k k<|am k k<|oB h λv2 hv2 h=>ae (xl hv2 k) k<|ae (mT aS k k k k k k) k<|lr k7<|cG h λq3 h=>ae (yL aS (l:=x1.1) (m:=v2.cells) pX q3 k k k k k k k k k k k k) k<|aa k k<|an<|aX<|tn<|rg<|am k k<|ae (bB k k) k<|aT k2<|sp h ⟨_,k,(vS [1] (bH k2) (bT k<|aY) k4)⟩) λ_ h=>aV<|aB<|aB<|sp h ⟨_,k,k,(bK (bH k2) (bT k<|aY) k4)⟩
 ·rintro e t ⟨rfl,hent⟩;exact aN<|tn<|aP hent<|sR<|am k k<|aT k2<|aC<|sp h (bD k k k (gR (gC dY k k)))
def kB (a0:Rp) (v4:(List Int)) (x1:(Int×(List Int)×Int)) (x2:((List Int)×Int)):Option (((List Int)×Int) ⊕ (List Int)):=
 bif decide (x2.2<((v4.length:Nat):Int)) then
 ((cP x2.1 x2.2).bind λv6=>
 (cP v4 x2.2).bind λv7=>
 (dW a0.p (wr (v6+(wr ((x1.1.tmod a0.p)*v7))))).bind λv8=>
 (cP x2.1 x2.2).bind λv9=>
 some (.inl ((x2.1.set x2.2.toNat v8),wr (x2.2+1))))
 else
 (some (.inr x2.1))
def kC (a0:Rp) (a2:(List (List Mt))) (x1:(Int×(List Int)×Int)):Option ((Int×(List Int)×Int) ⊕ (List Int)):=
 bif decide (0≤x1.2.2) then
 (bif !decide (a0.p=0) then
 (bif !decide (a0.p=0) then
 ((cP a2 x1.2.2).bind λv3=>
 (rF v3).bind λv4=>
 (Lp (kB a0 v4 x1) (x1.2.1,0)).bind λy10=>
 some (.inl (wr (x1.1.tdiv a0.p),y10,wr (x1.2.2 - 1))))
 else none)
 else none)
 else
 (some (.inr x1.2.1))
def hO (a0:Rp) (a1:Rp) (a2:(List (List Mt))) (a3:Int):Option (List Mt):=
 (nB a0 a1).bind λv1=>
 bif (decide (0≤v1)&&decide (v1≤1048576)) then
 ((Lp (kC a0 a2) (a3,(List.replicate v1.toNat (0:Int)),wr ((a2.length:Int) - 1))).bind λy13=>
 (gK a0 a1 y13).bind λv14=>
 some (v14))
 else none
theorem sA (a0:Rp) (a1:Rp) (a2:(List (List Mt))) (a3:Int) (r:(List Mt)) (h:hO a0 a1 a2 a3=some r):HasC Tryz.prog 144 [.agg (eR a0),.agg (eR a1),.list 1 (a2.map (sP 3 eM)),.int a3] (.list 3 (r.map eM)):=by
 refine hM [.tmp 8] Tryz.func144 Tryz.ntmps144 k<|sR<|ae (wb k) k<|ae (wb k) k<|aT k2<|sR<|lp k8<|lp k8<|oB h λv1 hv1 h=>ae (aH (yW a0 a1 v1 hv1) k (aD (cN k) (aD (cN k) aL))) k<|cG h λq15 h=>ae (vK aS q15 k k k k k k k k) k<|aT k2<|aP (t:=mN [(2,.list 1 (a2.map (sP 3 eM))),(3,.int a3),(4,.ptr 0 0 0),(5,.ptr 1 0 0),(9,.own 2 0 ((List.replicate v1.toNat (0:Int)).length))] [(0,⟨6,[eR a0]⟩),(1,⟨6,[eR a1]⟩),(2,⟨1,List.map (ow eI) (List.replicate v1.toNat (0:Int))⟩)] 3) (bK (tN 4 k2 (sW ⟨_,k,⟨k,k,(by simp only [aW,lA,lT,lR,lC,lN]),k⟩⟩ aY)) (bF k<|bF k<|hX ⟨_,k,k,.inl ⟨xB (e:=eI) (z:=0) _,dY.plainO _⟩⟩ k<|aY) k4)<|sQ<|sR<|am k k<|ln k4<|ae (kS k k) k<|aT k2<|aE<|oB h λy13 hy13 h=>bP (body:=(kC a0 a2)) hy13 (λ(x1:(Int×(List Int)×Int))=>mN [(2,.list 1 (a2.map (sP 3 eM))),(3,.int x1.1),(4,.ptr 0 0 0),(5,.ptr 1 0 0),(9,.own 2 0 x1.2.1.length),(10,.int x1.2.2)] [(0,⟨6,[eR a0]⟩),(1,⟨6,[eR a1]⟩),(2,⟨1,x1.2.1.map (ow eI)⟩)] 3) (λr e t=>e= .exit 0∧Ent t (mN [(4,.ptr 0 0 0),(5,.ptr 1 0 0),(9,.own 2 0 r.length)] [(0,⟨6,[eR a0]⟩),(1,⟨6,[eR a1]⟩),(2,⟨1,r.map (ow eI)⟩)] 3)) (bK (bH k2) (bF k<|bF k<|bT k<|aY) k4) ?_ ?_
 ·intro x1 o h;refine sQ<|sR<|am k k<|cm k4<|an<|tn<|cO k h (λ_ h=>?_) λ_ h=>aV<|aB<|aB<|sp h ⟨_,k,k,(bK (bH k2) (bF k<|bF k<|bT k<|aY) k4)⟩;refine aI<|tn<|sQ<|aE<|sR<|am k k<|fp k8<|lp k8<|cG h λq12 h=>ae (yK k k q12) k<|aT k2<|sR<|am k k<|fp k8<|lp k8<|cG h λq11 h=>ae (aJU k k q11) k<|aT k2<|sR<|am k k<|am k k<|oB h λv3 hv3 h=>ae (xl hv3 k) k<|lr k7<|oB h λv4 hv4 h=>ae (cL dY (aDy v3 v4 hv4) k3 (bX k aL)) k ?_;refine aT k2<|sR<|aT k2<|aE<|oB h λy10 hy10 h=>bP (body:=(kB a0 v4 x1)) hy10 (λ(x2:((List Int)×Int))=>mN [(2,.list 1 (a2.map (sP 3 eM))),(3,.int (wr (x1.1.tdiv a0.p))),(4,.ptr 0 0 0),(5,.ptr 1 0 0),(9,.own 2 0 x2.1.length),(10,.int x1.2.2),(11,.int (x1.1.tmod a0.p)),(12,.own 3 0 v4.length),(13,.int x2.2)] [(0,⟨6,[eR a0]⟩),(1,⟨6,[eR a1]⟩),(2,⟨1,x2.1.map (ow eI)⟩),(3,⟨1,v4.map (ow eI)⟩)] 4) (λr e t=>e= .exit 2∧Ent t (mN [(2,.list 1 (a2.map (sP 3 eM))),(3,.int (wr (x1.1.tdiv a0.p))),(4,.ptr 0 0 0),(5,.ptr 1 0 0),(9,.own 2 0 r.length),(10,.int x1.2.2)] [(0,⟨6,[eR a0]⟩),(1,⟨6,[eR a1]⟩),(2,⟨1,r.map (ow eI)⟩)] 3)) (bK (bH k2) (bF k<|bF k<|bT k<|bT k<|aY) k4) ?_ ?_
  ·intro x2 o h;refine sQ<|sR<|am k k<|am k k<|ae (dU aS k k k k) k<|cm k4<|an<|tn<|cO k h (λ_ h=>?_) λ_ h=>aV<|aB<|aB<|sp h ⟨_,k,k,(bK (bH k2) (bF k<|bF k<|bT k<|aY) k4)⟩;refine aI<|tn<|sQ<|aE<|aO fZ<|am k k<|am k k<|fp k8<|lp k8<|am k k<|am k k<|oB h λv6 hv6 h=>ae (xo hv6 k) k<|ae (wp hv6 k) k<|am k k<|am k k<|am k k<|oB h λv7 hv7 h=>ae (xo hv7 k) k<|ae (wp hv7 k) k<|ae (dJ k k) k<|ae (bB k k) k<|oB h λv8 hv8 h=>ae (aH (gS a0.p (wr (v6+(wr ((x1.1.tmod a0.p)*v7)))) v8 hv8) k (bX k (bX k aL))) k<|oB h λv9 hv9 h=>ae (xo hv9 k) k<|ae (fY aS pX (u:=v8) (eO hv9) k k k k k k) k<|an<|oW (by kernel_rfl)<|aX<|tn<|rg<|am k k ?_;exact ae (bB k k) k<|aT k2<|sp h ⟨_,k,(bK (tN 4 k2 (sW ⟨_,k,⟨k,k,(by simp only [aW,lA,lT,lR,lC,lN]),k⟩⟩ (bH k2))) (bF k<|bF k<|bT k<|bT k<|aY) k4)⟩
  ·rintro e t ⟨rfl,hent⟩;exact aN<|aX<|tn<|aP hent<|rg<|am k k<|ae (kS k k) k<|aT k2<|sp h ⟨_,k,(bK (bH k2) (bF k<|bF k<|bT k<|aY) k4)⟩
 ·rintro e t ⟨rfl,hent⟩;exact aN<|tn<|aP hent<|sR<|lp k8<|lp k8<|am k k<|oB h λv14 hv14 h=>ae (cL cJ (xZ a0 a1 y13 v14 hv14) k3 (aD (cN k) (aD (cN k) (vcT k k aL)))) k<|aT k2<|aC<|sp h (bD k k k (gR (gC cJ k k)))
def iK (a0:Rp) (a1:Rp) (a2:(List Mt)) (x1:Int):Option (Int ⊕ (Unit ⊕ Bool)):=
 bif decide (x1<(a2.length:Int)) then
 ((cP a2 x1).bind λv5=>
 (iQ a0.p v5).bind λv6=>
 bif !v6 then
 (some (.inr (.inr (false))))
 else
 ((cP a2 x1).bind λv8=>
 (cP a0.dims x1).bind λv9=>
 bif !decide (v8.cols=v9) then
 (some (.inr (.inr (false))))
 else
 ((cP a2 x1).bind λv11=>
 (cP a1.dims x1).bind λv12=>
 bif !decide (v11.rows=v12) then
 (some (.inr (.inr (false))))
 else
 (some (.inl (wr (x1+1)))))))
 else
 (some (.inr (.inl ())))
def lP (a0:Rp) (a1:Rp) (a2:(List Mt)):Option Bool:=
 (fF a0 a1).bind λv1=>
 bif !v1 then
 (some (false))
 else
 (bif !decide ((a2.length:Int)=(a0.dims.length:Int)) then
 (some (false))
 else
 ((Lp (iK a0 a1 a2) 0).bind λy14=>
 Sum.elim (λy15=>
 some (true)
 )
 (λy16=>
 some y16
 )
 y14))
theorem aAj (a0:Rp) (a1:Rp) (a2:(List Mt)) (r:Bool) (h:lP a0 a1 a2=some r):HasC Tryz.prog 239 [.agg (eR a0),.agg (eR a1),.list 3 (a2.map eM)] (.bl r):=by
 refine hM [.tmp 6] Tryz.func239 Tryz.ntmps239 k<|sR<|ae (wb k) k<|ae (wb k) k<|aT k2<|sQ<|sR<|lp k8<|lp k8<|oB h λv1 hv1 h=>ae (aH (qU a0 a1 v1 hv1) k (aD (cN k) (aD (cN k) aL))) k<|ae (dC k) k<|am k k<|mR h (λq2 h=>aJ 12 k q2<|aK k4<|aK k4<|aK k4<|pk k3<|an<|tn<|dE k k<|sR<|aT k2<|aC<|aG<|fB h k2) λq2 h=>?_;refine aJ 12 k q2<|am k k<|ln k4<|fp k8<|lp k8<|ln k4<|cm k4<|pk k3<|an<|tn<|cO k h (λ_ h=>sR<|aT k2<|aC<|aG<|fB h k2) λ_ h=>?_;refine aI<|tn<|sQ<|sR<|aT k2<|aE<|oB h λy14 hy14 h=>bP (body:=(iK a0 a1 a2)) hy14 (λ(x1:Int)=>mN [(2,.list 3 (a2.map eM)),(3,.ptr 0 0 0),(4,.ptr 1 0 0),(7,.int x1)] [(0,⟨6,[eR a0]⟩),(1,⟨6,[eR a1]⟩)] 2) (λr e t=>Sum.elim (λa=>(λr e t=>e= .exit 0∧Ent t (mN [] [] 0)) a e t) (λb=>(λr e t=>e= .ret∧qE TT [.tmp 6] (.bl r) .ret t) b e t) r) (bK (bH k2) (bF k<|bF k<|aY) k4) ?_ ?_
 ·intro x1 o h;refine sQ<|sR<|am k k<|am k k<|ln k4<|cm k4<|an<|tn<|cO k h (λ_ h=>?_) λ_ h=>aV<|aB<|aB<|sp h ⟨_,k,k,(bK aY aY k4)⟩;refine aI<|tn<|sQ<|aE<|sQ<|aO fZ<|fp k8<|lp k8<|am k k<|am k k<|oB h λv5 hv5 h=>ae (xl hv5 k) k<|lr k7<|oB h λv6 hv6 h=>ae (aH (tB a0.p v5 v6 hv6) k (bX k (aD (cN k) aL))) k<|ae (dC k) k<|am k k<|mR h (λq7 h=>?_) λq7 h=>?_
  ·refine aJ 34 k q7<|aK k4<|aK k4<|aK k4<|aK k4<|aK k4<|ak k k<|pk k3<|am k k<|aK k4<|aK k4<|aK k4<|aK k4<|aK k4<|ak k k<|pk k3<|an<|oW (by kernel_rfl)<|tn<|aP (t:=mN [(2,.list 3 (a2.map eM)),(3,.ptr 0 0 0),(4,.ptr 1 0 0),(7,.int x1),(59,.bl true)] [(0,⟨6,[eR a0]⟩),(1,⟨6,[eR a1]⟩)] 2) (bK (bH k2) (bF k<|bF k<|aY) k4) ?_;exact dE k k<|sR<|aT k2<|aC<|bA<|aG<|aG<|sp h ⟨_,k,k,bD k k k (nX k)⟩
  ·exact aJ 34 k q7<|am k k<|am k k<|oB h λv8 hv8 h=>ae (xl hv8 k) k<|ae (mT aS k k k k k k) k<|lr k7<|fp k8<|lp k8<|am k k<|oB h λv9 hv9 h=>ae (xl hv9 k) k<|lr k7<|cm k4<|pk k3<|am k k<|mR h (λq10 h=>aJ 47 k q10<|aK k4<|aK k4<|aK k4<|aK k4<|aK k4<|ak k k<|pk k3<|an<|oW (by kernel_rfl)<|tn<|aP (t:=mN [(2,.list 3 (a2.map eM)),(3,.ptr 0 0 0),(4,.ptr 1 0 0),(7,.int x1),(59,.bl true)] [(0,⟨6,[eR a0]⟩),(1,⟨6,[eR a1]⟩)] 2) (bK (bH k2) (bF k<|bF k<|aY) k4)<|dE k k<|sR<|aT k2<|aC<|bA<|aG<|aG<|sp h ⟨_,k,k,bD k k k (nX k)⟩) λq10 h=>aJ 47 k q10<|am k k<|am k k<|oB h λv11 hv11 h=>ae (xl hv11 k) k<|ae (mT aS k k k k k k) k<|lr k7<|fp k8<|lp k8<|am k k<|oB h λv12 hv12 h=>ae (xl hv12 k) k<|lr k7<|cm k4<|pk k3<|an<|oW (by kernel_rfl)<|tn<|aP (t:=mN [(2,.list 3 (a2.map eM)),(3,.ptr 0 0 0),(4,.ptr 1 0 0),(7,.int x1),(59,.bl (!decide (v11.rows=v12)))] [(0,⟨6,[eR a0]⟩),(1,⟨6,[eR a1]⟩)] 2) (bK (bH k2) (bF k<|bF k<|aY) k4)<|cO k h (λ_ h=>sR<|aT k2<|aC<|bA<|aG<|aG<|sp h ⟨_,k,k,bD k k k (nX k)⟩) λ_ h=>aI<|aX<|tn<|rg<|am k k<|ae (bB k k) k<|aT k2<|sp h ⟨_,k,(bK (bH k2) (bF k<|bF k<|aY) k4)⟩
 ·intro e t hX;rcases y14 with y15|y16
  ·obtain ⟨rfl,hent⟩:=hX;exact aN<|tn<|aP hent<|sR<|aT k2<|aC<|fB h k2
  ·obtain ⟨rfl,hent⟩:=hX;exact bA<|aG<|sp h hent
def jI (a0:Rp) (a1:Rp) (a2:(List Mt)) (x1:Int):Option (Int ⊕ (Unit ⊕ Bool)):=
 bif decide (x1<(a0.maps.length:Int)) then
 ((cP a1.maps x1).bind λv4=>
 (cP a0.q.src x1).bind λv5=>
 (cP a2 v5).bind λv6=>
 (jB a0.p v4 v6).bind λv7=>
 (cP a0.q.tgt x1).bind λv8=>
 (cP a2 v8).bind λv9=>
 (cP a0.maps x1).bind λv10=>
 (jB a0.p v9 v10).bind λv11=>
 (jD v7 v11).bind λv12=>
 bif !v12 then
 (some (.inr (.inr (false))))
 else
 (some (.inl (wr (x1+1)))))
 else
 (some (.inr (.inl ())))
def gI (a0:Rp) (a1:Rp) (a2:(List Mt)):Option Bool:=
 (lP a0 a1 a2).bind λv1=>
 bif !v1 then
 (some (false))
 else
 ((Lp (jI a0 a1 a2) 0).bind λy14=>
 Sum.elim (λy15=>
 some (true)
 )
 (λy16=>
 some y16
 )
 y14)
theorem rG (a0:Rp) (a1:Rp) (a2:(List Mt)) (r:Bool) (h:gI a0 a1 a2=some r):HasC Tryz.prog 213 [.agg (eR a0),.agg (eR a1),.list 3 (a2.map eM)] (.bl r):=by
 refine hM [.tmp 6] Tryz.func213 Tryz.ntmps213 k<|sR<|ae (wb k) k<|ae (wb k) k<|aT k2<|sQ<|sR<|lp k8<|lp k8<|am k k<|oB h λv1 hv1 h=>ae (aH (aAj a0 a1 a2 v1 hv1) k (aD (cN k) (aD (cN k) (bX k aL)))) k<|ae (dC k) k<|an<|tn<|cO k h (λ_ h=>sR<|aT k2<|aC<|aG<|fB h k2) λ_ h=>?_;refine aI<|tn<|sQ<|sR<|aT k2<|aE<|oB h λy14 hy14 h=>bP (body:=(jI a0 a1 a2)) hy14 (λ(x1:Int)=>mN [(2,.list 3 (a2.map eM)),(3,.ptr 0 0 0),(4,.ptr 1 0 0),(7,.int x1)] [(0,⟨6,[eR a0]⟩),(1,⟨6,[eR a1]⟩)] 2) (λr e t=>Sum.elim (λa=>(λr e t=>e= .exit 0∧Ent t (mN [] [] 0)) a e t) (λb=>(λr e t=>e= .ret∧qE TT [.tmp 6] (.bl r) .ret t) b e t) r) (bK (bH k2) (bF k<|bF k<|aY) k4) ?_ ?_
 ·intro x1 o h;refine sQ<|sR<|am k k<|fp k8<|lp k8<|ln k4<|cm k4<|an<|tn<|cO k h (λ_ h=>?_) λ_ h=>aV<|aB<|aB<|sp h ⟨_,k,k,(bK aY aY k4)⟩;refine aI<|tn<|sQ<|aE<|sQ<|aO fZ<|fp k8<|lp k8<|fp k8<|lp k8<|am k k<|oB h λv4 hv4 h=>ae (xl hv4 k) k<|lr k7<|am k k<|fp k8<|fp k8<|lp k8<|am k k<|oB h λv5 hv5 h=>ae (xl hv5 k) k<|lr k7<|oB h λv6 hv6 h=>ae (xl hv6 k) k<|lr k7<|oB h λv7 hv7 h=>ae (cM (uX a0.p v4 v6 v7 hv7) k3 (bX k (aD (cN k) (aD (cN k) aL)))) k<|ae (bY aS k k) k<|ae (ws k) k<|an<|oW (by kernel_rfl)<|tn<|aP (t:=mN [(2,.list 3 (a2.map eM)),(3,.ptr 0 0 0),(4,.ptr 1 0 0),(7,.int x1),(8,.ptr 3 0 0)] [(0,⟨6,[eR a0]⟩),(1,⟨6,[eR a1]⟩),(2,⟨1,v7.cells.map (ow eI)⟩),(3,⟨3,[oMt v7 2]⟩)] 4) (bK (bH k2) (bF k<|bF k<|bT k<|iF k<|aY) k4) ?_;refine sQ<|aO fZ<|fp k8<|lp k8<|am k k<|fp k8<|fp k8<|lp k8<|am k k<|oB h λv8 hv8 h=>ae (xl hv8 k) k<|lr k7<|oB h λv9 hv9 h=>ae (xl hv9 k) k<|lr k7<|fp k8<|lp k8<|am k k<|oB h λv10 hv10 h=>ae (xl hv10 k) k<|lr k7<|oB h λv11 hv11 h=>ae (cM (uX a0.p v9 v10 v11 hv11) k3 (bX k (aD (cN k) (aD (cN k) aL)))) k<|ae (bY aS k k) k<|ae (ws k) k<|an<|oW (by kernel_rfl)<|tn<|sR<|lp k8<|lp k8<|oB h λv12 hv12 h=>ae (aH (yQ v7 v11 v12 hv12) k (aD (vaM k2) (aD (vaM k2) aL))) k<|ae (dC k) k ?_;exact an<|tn<|cO k h (λ_ h=>sR<|aT k2<|aP (t:=mN [(6,.bl false)] [] 6) (bK (bH k2) aY k4)<|aC<|bA<|aG<|aG<|sp h ⟨_,k,k,bD k k k (nX k)⟩) λ_ h=>aI<|aX<|tn<|rg<|am k k<|ae (bB k k) k<|aT k2<|sp h ⟨_,k,(bK (bH k2) (bF k<|bF k<|aY) k4)⟩
 ·intro e t hX;rcases y14 with y15|y16
  ·obtain ⟨rfl,hent⟩:=hX;exact aN<|tn<|aP hent<|sR<|aT k2<|aC<|fB h k2
  ·obtain ⟨rfl,hent⟩:=hX;exact bA<|aG<|sp h hent
def jJ (a0:Rp) (a1:Rp) (a2:(List Mt)) (x1:((List Int)×Int)):Option (((List Int)×Int) ⊕ (List Int)):=
 bif decide (x1.2<(a2.length:Int)) then
 ((gI a0 a1 a2).bind λv2=>
 bif v2 then
 ((cP a2 x1.2).bind λv4=>
 (sD a0.p v4).bind λv5=>
 bif decide (x1.1.length+[v5].length ≤4294967296) then
 (some (.inl ((x1.1++[v5]),wr (x1.2+1))))
 else none)
 else
 (some (.inr x1.1)))
 else
 (some (.inr x1.1))
def jK (a0:Rp) (a1:Rp) (a2:(List Mt)):Option (List Int):=
 (Lp (jJ a0 a1 a2) (([]:(List Int)),0)).bind λy7=>
 some (y7)
theorem vC (a0:Rp) (a1:Rp) (a2:(List Mt)) (r:(List Int)) (h:jK a0 a1 a2=some r):HasC Tryz.prog 214 [.agg (eR a0),.agg (eR a1),.list 3 (a2.map eM)] (.list 1 (r.map eI)):=by
 refine hM [.tmp 6] Tryz.func214 Tryz.ntmps214 k<|sR<|ae (wb k) k<|ae (wb k) k<|aT k2<|sR<|ae (wl k) k<|aT k2<|aP (t:=mN [(2,.list 3 (a2.map eM)),(3,.ptr 0 0 0),(4,.ptr 1 0 0),(7,.own 2 0 (([]:(List Int)).length))] [(0,⟨6,[eR a0]⟩),(1,⟨6,[eR a1]⟩),(2,⟨1,List.map (ow eI) ([]:(List Int))⟩)] 3) (bK (tN 3 k2 (sW ⟨_,k,⟨k,k,(by simp only [aW,lA,lT,lR,lC,lN]),k⟩⟩ aY)) (bF k<|bF k<|bT k<|aY) k4)<|sQ<|sR<|aT k2<|aE<|oB h λy7 hy7 h=>bP (body:=(jJ a0 a1 a2)) hy7 (λ(x1:((List Int)×Int))=>mN [(2,.list 3 (a2.map eM)),(3,.ptr 0 0 0),(4,.ptr 1 0 0),(7,.own 2 0 x1.1.length),(8,.int x1.2)] [(0,⟨6,[eR a0]⟩),(1,⟨6,[eR a1]⟩),(2,⟨1,x1.1.map (ow eI)⟩)] 3) (λr e t=>e= .exit 0∧Ent t (mN [(7,.own 0 0 r.length)] [(0,⟨1,r.map (ow eI)⟩)] 1)) (bK (bH k2) (bF k<|bF k<|bT k<|aY) k4) ?_ ?_
 ·intro x1 o h;exact sQ<|sR<|am k k<|am k k<|ln k4<|cm k4<|am k k<|mR h (λq1 h=>aJ 14 k q1<|lp k8<|lp k8<|am k k<|oB h λv2 hv2 h=>ae (aH (rG a0 a1 a2 v2 hv2) k (aD (cN k) (aD (cN k) (bX k aL)))) k<|pk k3<|an<|tn<|cO k h (λ_ h=>aI<|tn<|sQ<|aE<|aO fZ<|am k k<|fp k8<|lp k8<|am k k<|am k k<|oB h λv4 hv4 h=>ae (xl hv4 k) k<|lr k7<|oB h λv5 hv5 h=>ae (aH (aES a0.p v4 v5 hv5) k (bX k (aD (cN k) aL))) k<|ae (wl k) k<|cG h λq6 h=>ae (yL aS (l:=x1.1) (m:=[v5]) pX q6 k k k k k k k k k k k k) k<|aa k k<|an<|oW (by kernel_rfl)<|aX<|tn<|rg<|am k k<|ae (bB k k) k<|aT k2<|sp h ⟨_,k,(vS [0,1,4] (bH k2) (bF k<|bF k<|bT k<|aY) k4)⟩) λ_ h=>aV<|aB<|aB<|sp h ⟨_,k,k,(vS [2] (bH k2) (bT k<|aY) k4)⟩) λq1 h=>aJ 14 k q1<|aK k4<|aK k4<|pk k3<|an<|tn<|sK k k<|aV<|aB<|aB<|sp h ⟨_,k,k,(vS [2] (bH k2) (bT k<|aY) k4)⟩
 ·rintro e t ⟨rfl,hent⟩;exact aN<|tn<|aP hent<|sR<|am k k<|aT k2<|aC<|sp h (bD k k k (gR (gC dY k k)))
def qA (a0:Rp) (a1:Rp) (a2:(List Mt)):Option Bool:=
 (gI a0 a1 a2).bind λv1=>
 bif v1 then
 ((jK a0 a1 a2).bind λv3=>
 (jO v3 a0.dims).bind λv4=>
 some (v4))
 else
 (some (false))
theorem aAk (a0:Rp) (a1:Rp) (a2:(List Mt)) (r:Bool) (h:qA a0 a1 a2=some r):HasC Tryz.prog 179 [.agg (eR a0),.agg (eR a1),.list 3 (a2.map eM)] (.bl r):=by
 exact hM [.tmp 6] Tryz.func179 Tryz.ntmps179 k<|sR<|ae (wb k) k<|ae (wb k) k<|aT k2<|sQ<|aO fZ<|lp k8<|lp k8<|am k k<|oB h λv1 hv1 h=>ae (aH (rG a0 a1 a2 v1 hv1) k (aD (cN k) (aD (cN k) (bX k aL)))) k<|am k k<|mR h (λq2 h=>aJ 11 k q2<|lp k8<|lp k8<|am k k<|oB h λv3 hv3 h=>ae (cL dY (vC a0 a1 a2 v3 hv3) k3 (aD (cN k) (aD (cN k) (bX k aL)))) k<|fp k8<|lp k8<|oB h λv4 hv4 h=>ae (aH (oG v3 a0.dims v4 hv4) k (vcT k k (bX k aL))) k<|pk k3<|aa k k<|an<|oW (by kernel_rfl)<|tn<|aC<|fB h k2) λq2 h=>aJ 11 k q2<|aK k4<|aK k4<|aK k4<|ak k k<|pk k3<|aa k k<|an<|oW (by kernel_rfl)<|tn<|aC<|fB h k2
def oA (a0:Rp) (a1:Rp) (a2:(List Mt)):Option Bool:=
 (gI a0 a1 a2).bind λv1=>
 bif v1 then
 ((jK a0 a1 a2).bind λv3=>
 (jO v3 a1.dims).bind λv4=>
 some (v4))
 else
 (some (false))
theorem aAK (a0:Rp) (a1:Rp) (a2:(List Mt)) (r:Bool) (h:oA a0 a1 a2=some r):HasC Tryz.prog 180 [.agg (eR a0),.agg (eR a1),.list 3 (a2.map eM)] (.bl r):=by
 exact hM [.tmp 6] Tryz.func180 Tryz.ntmps180 k<|sR<|ae (wb k) k<|ae (wb k) k<|aT k2<|sQ<|aO fZ<|lp k8<|lp k8<|am k k<|oB h λv1 hv1 h=>ae (aH (rG a0 a1 a2 v1 hv1) k (aD (cN k) (aD (cN k) (bX k aL)))) k<|am k k<|mR h (λq2 h=>aJ 11 k q2<|lp k8<|lp k8<|am k k<|oB h λv3 hv3 h=>ae (cL dY (vC a0 a1 a2 v3 hv3) k3 (aD (cN k) (aD (cN k) (bX k aL)))) k<|fp k8<|lp k8<|oB h λv4 hv4 h=>ae (aH (oG v3 a1.dims v4 hv4) k (vcT k k (bX k aL))) k<|pk k3<|aa k k<|an<|oW (by kernel_rfl)<|tn<|aC<|fB h k2) λq2 h=>aJ 11 k q2<|aK k4<|aK k4<|aK k4<|ak k k<|pk k3<|aa k k<|an<|oW (by kernel_rfl)<|tn<|aC<|fB h k2
def eJ (a0:Rp) (a1:Rp) (a2:(List Mt)):Option Bool:=
 (qA a0 a1 a2).bind λv1=>
 bif v1 then
 ((oA a0 a1 a2).bind λv3=>
 some (v3))
 else
 (some (false))
theorem nD (a0:Rp) (a1:Rp) (a2:(List Mt)) (r:Bool) (h:eJ a0 a1 a2=some r):HasC Tryz.prog 145 [.agg (eR a0),.agg (eR a1),.list 3 (a2.map eM)] (.bl r):=by
 exact hM [.tmp 6] Tryz.func145 Tryz.ntmps145 k<|sR<|ae (wb k) k<|ae (wb k) k<|aT k2<|sR<|lp k8<|lp k8<|am k k<|oB h λv1 hv1 h=>ae (aH (aAk a0 a1 a2 v1 hv1) k (aD (cN k) (aD (cN k) (bX k aL)))) k<|am k k<|mR h (λq2 h=>aJ 11 k q2<|lp k8<|lp k8<|am k k<|oB h λv3 hv3 h=>ae (aH (aAK a0 a1 a2 v3 hv3) k (aD (cN k) (aD (cN k) (bX k aL)))) k<|pk k3<|aT k2<|aC<|fB h k2) λq2 h=>aJ 11 k q2<|aK k4<|aK k4<|pk k3<|aT k2<|aC<|fB h k2
def dB (a0:Rp) (v1:Int) (x1:(Int×Int)):Option ((Int×Int) ⊕ (Int ⊕ Int)):=
 bif decide (x1.2<v1) then
 (bif decide (100000<wr (x1.1*a0.p)) then
 (some (.inr (.inr ((-2)))))
 else
 (some (.inl (wr (x1.1*a0.p),wr (x1.2+1)))))
 else
 (some (.inr (.inl x1.1)))
def iL (a0:Rp) (a1:Rp):Option Int:=
 (eZ a0 a1).bind λv1=>
 bif decide (v1<0) then
 (some ((-1)))
 else
 ((Lp (dB a0 v1) (1,0)).bind λy5=>
 Sum.elim (λy6=>
 some (y6)
 )
 (λy7=>
 some y7
 )
 y5)
theorem yC (a0:Rp) (a1:Rp) (r:Int) (h:iL a0 a1=some r):HasC Tryz.prog 143 [.agg (eR a0),.agg (eR a1)] (.int r):=by
 refine hM [.tmp 4] Tryz.func143 Tryz.ntmps143 k<|sR<|ae (wb k) k<|ae (wb k) k<|aT k2<|sR<|lp k8<|lp k8<|oB h λv1 hv1 h=>ae (aH (jS a0 a1 v1 hv1) k (aD (cN k) (aD (cN k) aL))) k<|aT k2<|sQ<|sR<|am k k<|cm k4<|an<|tn<|cO k h (λ_ h=>sR<|aT k2<|aC<|aG<|oV h k2) λ_ h=>?_;refine aI<|tn<|sR<|aT k2<|sQ<|sR<|aT k2<|aE<|oB h λy5 hy5 h=>bP (body:=(dB a0 v1)) hy5 (λ(x1:(Int×Int))=>mN [(2,.ptr 0 0 0),(5,.int v1),(6,.int x1.1),(7,.int x1.2)] [(0,⟨6,[eR a0]⟩)] 1) (λr e t=>Sum.elim (λa=>(λr e t=>e= .exit 0∧Ent t (mN [(6,.int r)] [] 0)) a e t) (λb=>(λr e t=>e= .ret∧qE TT [.tmp 4] (.int r) .ret t) b e t) r) (bK (bH k2) (bF k<|aY) k4) ?_ ?_
 ·intro x1 o h;exact sQ<|sR<|am k k<|am k k<|cm k4<|an<|tn<|cO k h (λ_ h=>aI<|tn<|sQ<|aE<|sR<|am k k<|fp k8<|lp k8<|ae (dJ k k) k<|aT k2<|sR<|am k k<|cm k4<|an<|tn<|cO k h (λ_ h=>sR<|aT k2<|aC<|bA<|aG<|aG<|sp h ⟨_,k,k,bD k k k (aBi k)⟩) λ_ h=>aI<|aX<|tn<|rg<|am k k<|ae (bB k k) k<|aT k2<|sp h ⟨_,k,(bK (bH k2) (bF k<|aY) k4)⟩) λ_ h=>aV<|aB<|aB<|sp h ⟨_,k,k,(bK (bH k2) aY k4)⟩
 ·intro e t hX;rcases y5 with y6|y7
  ·obtain ⟨rfl,hent⟩:=hX;exact aN<|tn<|aP hent<|sR<|am k k<|aT k2<|aC<|oV h k2
  ·obtain ⟨rfl,hent⟩:=hX;exact bA<|aG<|sp h hent
def mO (a0:Rp) (a1:Rp) (v1:((List (List Mt))×Bool)) (x1:Int):Option (Int ⊕ (Unit ⊕ ((List Mt)×Bool×Bool))):=
 bif decide (x1<3000) then
 ((hO a0 a1 v1.1 x1).bind λv5=>
 (eJ a0 a1 v5).bind λv6=>
 bif v6 then
 (some (.inr (.inr ((v5,true,true)))))
 else
 (some (.inl (wr (x1+1)))))
 else
 (some (.inr (.inl ())))
def mP (a0:Rp) (a1:Rp) (v1:((List (List Mt))×Bool)) (x2:Int):Option (Int ⊕ (Unit ⊕ ((List Mt)×Bool×Bool))):=
 bif decide (x2<3000) then
 ((hO a0 a1 v1.1 x2).bind λv13=>
 (eJ a0 a1 v13).bind λv14=>
 bif v14 then
 (some (.inr (.inr ((v13,true,true)))))
 else
 (some (.inl (wr (x2+1)))))
 else
 (some (.inr (.inl ())))
def mQ (a0:Rp) (a1:Rp) (v1:((List (List Mt))×Bool)) (v2:Int) (x3:Int):Option (Int ⊕ (Unit ⊕ ((List Mt)×Bool×Bool))):=
 bif decide (x3<v2) then
 ((hO a0 a1 v1.1 x3).bind λv20=>
 (eJ a0 a1 v20).bind λv21=>
 bif v21 then
 (some (.inr (.inr ((v20,true,true)))))
 else
 (some (.inl (wr (x3+1)))))
 else
 (some (.inr (.inl ())))
def rH (a0:Rp) (a1:Rp):Option ((List Mt)×Bool×Bool):=
 (gL a0 a1).bind λv1=>
 (iL a0 a1).bind λv2=>
 bif decide (v2<0) then
 ((Lp (mO a0 a1 v1) 0).bind λy8=>
 Sum.elim (λy9=>
 some ((([]:(List Mt)),false,decide (3000=v2)))
 )
 (λy10=>
 some y10
 )
 y8)
 else
 (bif decide (3000<v2) then
 ((Lp (mP a0 a1 v1) 0).bind λy16=>
 Sum.elim (λy17=>
 some ((([]:(List Mt)),false,decide (3000=v2)))
 )
 (λy18=>
 some y18
 )
 y16)
 else
 ((Lp (mQ a0 a1 v1 v2) 0).bind λy23=>
 Sum.elim (λy24=>
 some ((([]:(List Mt)),false,decide (v2=v2)))
 )
 (λy25=>
 some y25
 )
 y23))
theorem aDz (a0:Rp) (a1:Rp) (r:((List Mt)×Bool×Bool)) (h:rH a0 a1=some r):HasC Tryz.prog 86 [.agg (eR a0),.agg (eR a1)] (.tuple [.list 3 (r.1.map eM),.bl r.2.1,.bl r.2.2]):=by
 refine hM [.tmp 4,.tmp 5,.tmp 6] Tryz.func86 Tryz.ntmps86 k<|sR<|ae (wb k) k<|ae (wb k) k<|aa k k<|aa k k<|aT k2<|sR<|lp k8<|lp k8<|oB h λv1 hv1 h=>ae (cT eX (yA a0 a1 v1 hv1) k3 (aD (cN k) (aD (cN k) aL))) k<|am k k<|ae (cB k k (by intro _ h;cases h)) k<|ae (cB k k (by intro _ h;cases h)) k<|aa k k<|aT k2<|sR<|lp k8<|lp k8<|oB h λv2 hv2 h=>ae (aH (yC a0 a1 v2 hv2) k (aD (cN k) (aD (cN k) aL))) k<|aT k2 ?_;refine sR<|am k k<|aT k2<|sQ<|sR<|am k k<|cm k4<|am k k<|mR h (λq3 h=>?_) λq3 h=>?_
 ·refine aJ 25 k q3<|aK k4<|pk k3<|an<|tn<|aP (t:=mN [(2,.ptr 0 0 0),(3,.ptr 1 0 0),(7,.own 2 0 v1.1.length),(9,.int v2),(10,.int v2),(28,.bl true)] [(0,⟨6,[eR a0]⟩),(1,⟨6,[eR a1]⟩),(2,⟨1,v1.1.map (ow (sP 3 eM))⟩)] 3) (bK (bH k2) (bF k<|bF k<|mW (eX.plainO _) k<|aY) k4)<|dE k k<|rg<|aT k2<|sQ<|sR<|aT k2<|aE<|oB h λy8 hy8 h=>bP (body:=(mO a0 a1 v1)) hy8 (λ(x1:Int)=>mN [(2,.ptr 0 0 0),(3,.ptr 1 0 0),(7,.own 2 0 v1.1.length),(9,.int v2),(10,.int 3000),(11,.int x1)] [(0,⟨6,[eR a0]⟩),(1,⟨6,[eR a1]⟩),(2,⟨1,v1.1.map (ow (sP 3 eM))⟩)] 3) (λr e t=>Sum.elim (λa=>(λr e t=>e= .exit 0∧Ent t (mN [(9,.int v2),(10,.int 3000)] [] 0)) a e t) (λb=>(λr e t=>e= .ret∧qE TT [.tmp 4,.tmp 5,.tmp 6] (.tuple [.list 3 (r.1.map eM),.bl r.2.1,.bl r.2.2]) .ret t) b e t) r) (bK (bH k2) (bF k<|bF k<|mW (eX.plainO _) k<|aY) k4) ?_ ?_
  ·intro x1 o h;exact sQ<|sR<|am k k<|am k k<|cm k4<|an<|tn<|cO k h (λ_ h=>aI<|tn<|sQ<|aE<|sR<|lp k8<|lp k8<|am k k<|am k k<|oB h λv5 hv5 h=>ae (cL cJ (sA a0 a1 v1.1 x1 v5 hv5) k3 (aD (cN k) (aD (cN k) (aD (xA eX k k) (bX k aL))))) k<|aT k2<|sR<|lp k8<|lp k8<|am k k<|oB h λv6 hv6 h=>ae (aH (nD a0 a1 v5 v6 hv6) k (aD (cN k) (aD (cN k) (aD (xA cJ k k) aL)))) k<|an<|tn<|cO k h (λ_ h=>sR<|am k k<|aa k k<|aa k k<|aT k2<|aC<|bA<|aG<|aG<|sp h ⟨_,k,k,bD k k k (iX k (cF (qN (gC cJ k k)) (cF (k) (cF (k) qO))))⟩) λ_ h=>aI<|aX<|tn<|rg<|am k k<|ae (bB k k) k<|aT k2<|sp h ⟨_,k,(bK (bH k2) (bF k<|bF k<|mW (eX.plainO _) k<|aY) k4)⟩) λ_ h=>aV<|aB<|aB<|sp h ⟨_,k,k,(bK (bH k2) aY k4)⟩
  ·intro e t hX;rcases y8 with y9|y10
   ·obtain ⟨rfl,hent⟩:=hX;exact aN<|tn<|aP hent<|sR<|ae (wl k) k<|am k k<|am k k<|cm k4<|aa k k<|aa k k<|aT k2<|aP (t:=mN [(4,.own 0 0 (([]:(List Mt)).length)),(5,.bl false),(6,.bl (decide (3000=v2)))] [(0,⟨3,List.map (ow eM) ([]:(List Mt))⟩)] 1) (bK (sW ⟨_,k,⟨k,k,(by simp only [aW,lA,lT,lR,lC,lN]),k⟩⟩ (bH k2)) (mW (cJ.plainO _) k<|aY) k4)<|aC<|sp h (bD k k k (iX k (cF (qN (gC cJ k k)) (cF (k) (cF (k) qO)))))
   ·obtain ⟨rfl,hent⟩:=hX;exact bA<|aG<|sp h hent
 ·refine aJ 25 k q3<|am k k<|cm k4<|pk k3<|an<|tn<|aP (t:=mN [(2,.ptr 0 0 0),(3,.ptr 1 0 0),(7,.own 2 0 v1.1.length),(9,.int v2),(10,.int v2),(28,.bl (decide (3000<v2)))] [(0,⟨6,[eR a0]⟩),(1,⟨6,[eR a1]⟩),(2,⟨1,v1.1.map (ow (sP 3 eM))⟩)] 3) (bK (bH k2) (bF k<|bF k<|mW (eX.plainO _) k<|aY) k4)<|cO k h (λ_ h=>?_) λ_ h=>?_
  ·refine rg<|aT k2<|sQ<|sR<|aT k2<|aE<|oB h λy16 hy16 h=>bP (body:=(mP a0 a1 v1)) hy16 (λ(x2:Int)=>mN [(2,.ptr 0 0 0),(3,.ptr 1 0 0),(7,.own 2 0 v1.1.length),(9,.int v2),(10,.int 3000),(11,.int x2)] [(0,⟨6,[eR a0]⟩),(1,⟨6,[eR a1]⟩),(2,⟨1,v1.1.map (ow (sP 3 eM))⟩)] 3) (λr e t=>Sum.elim (λa=>(λr e t=>e= .exit 0∧Ent t (mN [(9,.int v2),(10,.int 3000)] [] 0)) a e t) (λb=>(λr e t=>e= .ret∧qE TT [.tmp 4,.tmp 5,.tmp 6] (.tuple [.list 3 (r.1.map eM),.bl r.2.1,.bl r.2.2]) .ret t) b e t) r) (bK (bH k2) (bF k<|bF k<|mW (eX.plainO _) k<|aY) k4) ?_ ?_
   ·intro x2 o h;exact sQ<|sR<|am k k<|am k k<|cm k4<|an<|tn<|cO k h (λ_ h=>aI<|tn<|sQ<|aE<|sR<|lp k8<|lp k8<|am k k<|am k k<|oB h λv13 hv13 h=>ae (cL cJ (sA a0 a1 v1.1 x2 v13 hv13) k3 (aD (cN k) (aD (cN k) (aD (xA eX k k) (bX k aL))))) k<|aT k2<|sR<|lp k8<|lp k8<|am k k<|oB h λv14 hv14 h=>ae (aH (nD a0 a1 v13 v14 hv14) k (aD (cN k) (aD (cN k) (aD (xA cJ k k) aL)))) k<|an<|tn<|cO k h (λ_ h=>sR<|am k k<|aa k k<|aa k k<|aT k2<|aC<|bA<|aG<|aG<|sp h ⟨_,k,k,bD k k k (iX k (cF (qN (gC cJ k k)) (cF (k) (cF (k) qO))))⟩) λ_ h=>aI<|aX<|tn<|rg<|am k k<|ae (bB k k) k<|aT k2<|sp h ⟨_,k,(bK (bH k2) (bF k<|bF k<|mW (eX.plainO _) k<|aY) k4)⟩) λ_ h=>aV<|aB<|aB<|sp h ⟨_,k,k,(bK (bH k2) aY k4)⟩
   ·intro e t hX;rcases y16 with y17|y18
    ·obtain ⟨rfl,hent⟩:=hX;exact aN<|tn<|aP hent<|sR<|ae (wl k) k<|am k k<|am k k<|cm k4<|aa k k<|aa k k<|aT k2<|aP (t:=mN [(4,.own 0 0 (([]:(List Mt)).length)),(5,.bl false),(6,.bl (decide (3000=v2)))] [(0,⟨3,List.map (ow eM) ([]:(List Mt))⟩)] 1) (bK (sW ⟨_,k,⟨k,k,(by simp only [aW,lA,lT,lR,lC,lN]),k⟩⟩ (bH k2)) (mW (cJ.plainO _) k<|aY) k4)<|aC<|sp h (bD k k k (iX k (cF (qN (gC cJ k k)) (cF (k) (cF (k) qO)))))
    ·obtain ⟨rfl,hent⟩:=hX;exact bA<|aG<|sp h hent
  ·refine aI<|tn<|sQ<|sR<|aT k2<|aE<|oB h λy23 hy23 h=>bP (body:=(mQ a0 a1 v1 v2)) hy23 (λ(x3:Int)=>mN [(2,.ptr 0 0 0),(3,.ptr 1 0 0),(7,.own 2 0 v1.1.length),(9,.int v2),(10,.int v2),(11,.int x3)] [(0,⟨6,[eR a0]⟩),(1,⟨6,[eR a1]⟩),(2,⟨1,v1.1.map (ow (sP 3 eM))⟩)] 3) (λr e t=>Sum.elim (λa=>(λr e t=>e= .exit 0∧Ent t (mN [(9,.int v2),(10,.int v2)] [] 0)) a e t) (λb=>(λr e t=>e= .ret∧qE TT [.tmp 4,.tmp 5,.tmp 6] (.tuple [.list 3 (r.1.map eM),.bl r.2.1,.bl r.2.2]) .ret t) b e t) r) (bK (bH k2) (bF k<|bF k<|mW (eX.plainO _) k<|aY) k4) ?_ ?_
   ·intro x3 o h;exact sQ<|sR<|am k k<|am k k<|cm k4<|an<|tn<|cO k h (λ_ h=>aI<|tn<|sQ<|aE<|sR<|lp k8<|lp k8<|am k k<|am k k<|oB h λv20 hv20 h=>ae (cL cJ (sA a0 a1 v1.1 x3 v20 hv20) k3 (aD (cN k) (aD (cN k) (aD (xA eX k k) (bX k aL))))) k<|aT k2<|sR<|lp k8<|lp k8<|am k k<|oB h λv21 hv21 h=>ae (aH (nD a0 a1 v20 v21 hv21) k (aD (cN k) (aD (cN k) (aD (xA cJ k k) aL)))) k<|an<|tn<|cO k h (λ_ h=>sR<|am k k<|aa k k<|aa k k<|aT k2<|aC<|bA<|aG<|aG<|sp h ⟨_,k,k,bD k k k (iX k (cF (qN (gC cJ k k)) (cF (k) (cF (k) qO))))⟩) λ_ h=>aI<|aX<|tn<|rg<|am k k<|ae (bB k k) k<|aT k2<|sp h ⟨_,k,(bK (bH k2) (bF k<|bF k<|mW (eX.plainO _) k<|aY) k4)⟩) λ_ h=>aV<|aB<|aB<|sp h ⟨_,k,k,(bK (bH k2) aY k4)⟩
   ·intro e t hX;rcases y23 with y24|y25
    ·obtain ⟨rfl,hent⟩:=hX;exact aN<|tn<|aP hent<|sR<|ae (wl k) k<|am k k<|am k k<|cm k4<|aa k k<|aa k k<|aT k2<|aP (t:=mN [(4,.own 0 0 (([]:(List Mt)).length)),(5,.bl false),(6,.bl (decide (v2=v2)))] [(0,⟨3,List.map (ow eM) ([]:(List Mt))⟩)] 1) (bK (sW ⟨_,k,⟨k,k,(by simp only [aW,lA,lT,lR,lC,lN]),k⟩⟩ (bH k2)) (mW (cJ.plainO _) k<|aY) k4)<|aC<|sp h (bD k k k (iX k (cF (qN (gC cJ k k)) (cF (k) (cF (k) qO)))))
    ·obtain ⟨rfl,hent⟩:=hX;exact bA<|aG<|sp h hent
def jL (a0:Rp) (a1:Rp):Option Int:=
 (fF a0 a1).bind λv1=>
 bif !v1 then
 (some ((-1)))
 else
 ((eZ a0 a0).bind λv3=>
 (jO a0.dims a1.dims).bind λv4=>
 bif !v4 then
 (some (0))
 else
 ((eZ a0 a1).bind λv6=>
 bif !decide (v6=v3) then
 (some (0))
 else
 ((eZ a1 a0).bind λv8=>
 bif !decide (v8=v3) then
 (some (0))
 else
 ((eZ a1 a1).bind λv10=>
 bif !decide (v10=v3) then
 (some (0))
 else
 ((rH a0 a1).bind λv12=>
 bif v12.2.1 then
 (some (1))
 else
 (bif v12.2.2 then
 (some (0))
 else
 (some ((-1)))))))))
theorem zB (a0:Rp) (a1:Rp) (r:Int) (h:jL a0 a1=some r):HasC Tryz.prog 39 [.agg (eR a0),.agg (eR a1)] (.int r):=by
 refine hM [.tmp 4] Tryz.func39 Tryz.ntmps39 k<|sR<|ae (wb k) k<|ae (wb k) k<|aT k2<|sQ<|sR<|lp k8<|lp k8<|oB h λv1 hv1 h=>ae (aH (qU a0 a1 v1 hv1) k (aD (cN k) (aD (cN k) aL))) k<|ae (dC k) k<|an<|tn<|cO k h (λ_ h=>sR<|aT k2<|aC<|aG<|oV h k2) λ_ h=>?_;refine aI<|tn<|sR<|lp k8<|lp k8<|oB h λv3 hv3 h=>ae (aH (jS a0 a0 v3 hv3) k (aD (cN k) (aD (cN k) aL))) k<|aT k2<|sQ<|sR<|fp k8<|lp k8<|fp k8<|lp k8<|oB h λv4 hv4 h=>ae (aH (oG a0.dims a1.dims v4 hv4) k (bX k (bX k aL))) k<|ae (dC k) k<|am k k<|mR h (λq5 h=>?_) λq5 h=>?_
 ·refine aJ 22 k q5<|aK k4<|aK k4<|ak k k<|pk k3<|am k k<|aK k4<|aK k4<|ak k k<|pk k3<|am k k<|aK k4<|aK k4<|ak k k<|pk k3<|an<|tn<|aP (t:=mN [(2,.ptr 0 0 0),(3,.ptr 1 0 0),(42,.bl true)] [(0,⟨6,[eR a0]⟩),(1,⟨6,[eR a1]⟩)] 2) (bK (bH k2) (bF k<|bF k<|aY) k4)<|dE k k<|sR<|aT k2 ?_;exact aC<|aG<|oV h k2
 ·refine aJ 22 k q5<|lp k8<|lp k8<|oB h λv6 hv6 h=>ae (aH (jS a0 a1 v6 hv6) k (aD (cN k) (aD (cN k) aL))) k<|am k k<|cm k4<|pk k3<|am k k<|mR h (λq7 h=>aJ 29 k q7<|aK k4<|aK k4<|ak k k<|pk k3<|am k k<|aK k4<|aK k4<|ak k k<|pk k3<|an<|tn<|aP (t:=mN [(2,.ptr 0 0 0),(3,.ptr 1 0 0),(42,.bl true)] [(0,⟨6,[eR a0]⟩),(1,⟨6,[eR a1]⟩)] 2) (bK (bH k2) (bF k<|bF k<|aY) k4)<|dE k k<|sR<|aT k2<|aC<|aG<|oV h k2) λq7 h=>?_;refine aJ 29 k q7<|lp k8<|lp k8<|oB h λv8 hv8 h=>ae (aH (jS a1 a0 v8 hv8) k (aD (cN k) (aD (cN k) aL))) k<|am k k<|cm k4<|pk k3<|am k k<|mR h (λq9 h=>aJ 36 k q9<|aK k4<|aK k4<|ak k k<|pk k3<|an<|tn<|aP (t:=mN [(2,.ptr 0 0 0),(3,.ptr 1 0 0),(42,.bl true)] [(0,⟨6,[eR a0]⟩),(1,⟨6,[eR a1]⟩)] 2) (bK (bH k2) (bF k<|bF k<|aY) k4)<|dE k k<|sR<|aT k2<|aC<|aG<|oV h k2) λq9 h=>?_;exact aJ 36 k q9<|lp k8<|lp k8<|oB h λv10 hv10 h=>ae (aH (jS a1 a1 v10 hv10) k (aD (cN k) (aD (cN k) aL))) k<|am k k<|cm k4<|pk k3<|an<|tn<|aP (t:=mN [(2,.ptr 0 0 0),(3,.ptr 1 0 0),(42,.bl (!decide (v10=v3)))] [(0,⟨6,[eR a0]⟩),(1,⟨6,[eR a1]⟩)] 2) (bK (bH k2) (bF k<|bF k<|aY) k4)<|cO k h (λ_ h=>sR<|aT k2<|aC<|aG<|oV h k2) λ_ h=>aI<|tn<|sR<|lp k8<|lp k8<|oB h λv12 hv12 h=>ae (AEff.conv (qJ (x:= .tuple [.own 2 0 (v12.1.map eM).length,.bl v12.2.1,.bl v12.2.2]) (nb:=[(2,⟨3,cK (v12.1.map eM)⟩)]) (aDz a0 a1 v12 hv12) k (by rfl) k k (iE (cJ.good _) (iE aY (iE aY yN))) (aD (cN k) (aD (cN k) aL))) (v':= .tuple [.own 2 0 v12.1.length,.bl v12.2.1,.bl v12.2.2]) (ed':=[(2,some ⟨3,v12.1.map (ow eM)⟩)]) (by simp only [aW]) (wB (nb':=[(2,⟨3,v12.1.map (ow eM)⟩)]) (by simp only [mB]))) k<|am k k<|ae (cB k k (by intro _ h;cases h)) k<|ae (cB k k (by intro _ h;cases h)) k<|ae (cB k k (by intro _ h;cases h)) k<|aa k k<|aa k k<|aT k2<|sQ<|aE<|sR<|am k k<|aT k2<|cO k h (λ_ h=>sR<|aT k2<|aC<|bA<|aG<|oV h k2) λ_ h=>sR<|am k k<|aT k2<|cO k h (λ_ h=>sR<|aT k2<|aC<|bA<|aG<|oV h k2) λ_ h=>aI<|aX<|tn<|sR<|aT k2<|aC<|oV h k2
end
noncomputable section
theorem aMQ {p x:Int} (hp:rJ p=true) (hx:0≤x∧x<p):(wr (p - x)).tmod p=(-x) % p:=by
 have hb:=dG hp;rw [cC (by omega),Int.tmod_eq_emod_of_nonneg (by omega),show p - x= -x+p*1 by omega,Int.add_mul_emod_self_left]
theorem aGW {p:Int} {m n:Nat} {F:Nat→Nat→Int} (T:Tb p m n F):sH p ⟨m,n,bJ m n F⟩=some (aBm p n (bW p m F n).1 (bW p m F n).2):=by
 have hn:=T.hn;have hN:=T.hN;have hm:=T.hm;have hin:=uE (by have:=dG T.hp;omega:0<p) T.hi n;have hlen:= @rQ p m F n;have hlen2:= @wZ p m F n;have hget:= @aFT p m F n;unfold sH;rw [aBS T,aA];simp only;generalize (bW p m F n).1=R at*;generalize (bW p m F n).2=L at*;rw [aIx hn (by omega),aA];have hfl:=aHw n L;rw [cU (s:=(([]:List (List Int)),(0:Int))) (r:=aBm p n R L) (λk=>(((sO n L).take k).map λk=>aAE p n R L k L.length,(k:Int))) (sO n L).length (by rfl) (λk hk=>?_) (λ_=>?_),aA]
 ·have hf:=aHx (List.getElem_mem hk);have ef:(sO n L)[k]?.getD 0=(sO n L)[k]:=by rw [kR hk];rfl
  unfold nT;simp only;rw [dA,jT hk,aM,aDs hk,aA,ef,aZ (by omega),aZ (by omega:(n:Int)≤1048576),Bool.and_self,aM,dK,dK,dS (by simp;exact hf),aA];rw [cU (r:=aAE p n R L (sO n L)[k] L.length) (λi=>(aAE p n R L (sO n L)[k] i,(i:Int))) L.length (by rfl) (λi hi=>?_) (λ_=>?_),aA]
  ·rw [aZ (by simp only [dM,List.length_take];omega),aM,bN hk (by omega),aMN (f:=λk=>aAE p n R L k L.length) hk]
  ·have him:i<m:=by omega
   have b1:=hin i _ him hf;have hv:=hget hi;unfold nS;simp only;rw [dA,jT hi,aM,aDs hi,aA,aDe hN hm him,aA,rX hN him,rY hN hm him];simp only [dK,Nat.add_sub_cancel_left];rw [aZ (by omega),aZ (by omega),Bool.and_self,aM,Nat.zero_add,iW R him hf,aA,aKo T.hp,aM,dS (by rw [wA];exact hv),aA,aMQ T.hp b1,bN hi (by omega)];rfl
  ·unfold nS;simp only;rw [dA,mD (bC _),aU]
 ·unfold nT;simp only;rw [dA,mD (bC _),aU,List.take_length];rfl
def cW (a b:Rp) (g:Nat→Int):List Mt:=(List.range a.dims.length).map λv=>(⟨dN b v,dN a v,gB (lV a b v) λy=>g (off (lV a b) v+y)⟩:Mt)
def vAt (x:List Int):Nat→Int:=λk=>x[k]?.getD 0
theorem aMR {l:Nat→Nat} {x:List Int} {k:Nat} (h:x.length=off l k):x=cat l (λv y=>vAt x (off l v+y)) k:=
 xN h λi y hi hy=>by
  have:=iN hi hy;unfold vAt;rw [kR (by omega),kG]
theorem aHy {a b:Rp} {f g:Nat→Int} (h: ∀ k,k<nV a b→f k=g k):cW a b f=cW a b g:=by
 unfold cW;refine uL λv hv=>?_;congr 1;exact nC λy hy=>h _ (iN (List.mem_range.1 hv) hy)
theorem aNO {n:Nat} {g:Nat→Int} {k:Nat} (h:k<n):vAt (gB n g) k=g k:=by simp [vAt,gB,h]
theorem aMS {a b:Rp} (h:Fit a b) {x:List Int} (hx:x.length=nV a b):lZ ((List.range a.dims.length).map λv=>(⟨dN b v,dN a v,bJ (dN b v) (dN a v) λ_ _=>0⟩:Mt)) x=some (cW a b (vAt x)):=by
 have n5:=h.ra.n5;have bV:=h.offV (bC _);have:=aHs (k:=a.dims.length) (l:=lV a b) (r:=λv=>(dN b v:Int)) (c:=λv=>(dN a v:Int)) (z:=λv=>bJ (dN b v) (dN a v) λ_ _=>0) (f:=λv y=>vAt x (off (lV a b) v+y)) (by omega) (by omega) (λv _=>dF _ _ _);rw [←aMR hx] at this;exact this
theorem aHz {a b:Rp} (h:Fit a b) {x:List Int} (hx:x.length=nV a b):gK a b x=some (cW a b (vAt x)):=by
 have n5:=h.ra.n5;have bV:=h.offV (bC _);have hV:nV a b≤80:=bV
 have e0: ∀ v,v<a.dims.length→(x.drop (off (lV a b) v)).take (lV a b v)=gB (lV a b v) λy=>vAt x (off (lV a b) v+y):=λv hv=>by
  have h1:=aHr (l:=lV a b) (f:=λv y=>vAt x (off (lV a b) v+y)) hv;rw [←aMR hx] at h1;exact h1
 unfold gK;rw [cU (r:=cW a b (vAt x)) (λk=>((List.range k).map (λv=>(⟨dN b v,dN a v,gB (lV a b v) λy=>vAt x (off (lV a b) v+y)⟩:Mt)),((off (lV a b) k:Nat):Int),(k:Int))) a.dims.length (by simp [off]) (λk hk=>?_) (λ_=>?_),aA]
 ·have hkb:k<b.dims.length:=by rw [h.ne];exact hk
  have ho:= @xM (lV a b) (k+1) a.dims.length hk;have e:off (lV a b) (k+1)=off (lV a b) k+lV a b k:=rfl;unfold fW;simp only
  rw [jT hk,aM,qM 0 hk,aA,qM 0 hkb,aA,aA,aA,(h.ra.d k hk).1,(h.rb.d k hkb).1,h.lA hk,cC (x:=((off (lV a b) k:Nat):Int)+((lV a b k:Nat):Int)) (by omega),hx,
   aZ (by omega),aZ (by omega:((off (lV a b) k:Nat):Int)≤((off (lV a b) k:Nat):Int)+((lV a b k:Nat):Int)),aZ (by unfold nV;omega:((off (lV a b) k:Nat):Int)+((lV a b k:Nat):Int)≤((nV a b:Nat):Int)),Bool.and_self,Bool.and_self,aM,
   show (((off (lV a b) k:Nat):Int)+((lV a b k:Nat):Int)).toNat - ((off (lV a b) k:Nat):Int).toNat=lV a b k by omega,dK,e0 k hk]
  have q2:decide (((List.range k).map λv=>(⟨dN b v,dN a v,gB (lV a b v) λy=>vAt x (off (lV a b) v+y)⟩:Mt)).length +1≤4294967296)=true:=aZ (by simp only [dM,List.length_range];omega);have q1:decide (([]:List Int).length +(gB (lV a b k) λy=>vAt x (off (lV a b) k+y)).length ≤4294967296)=true:=aZ (by rw [dV];simp only [List.length_nil];omega);rw [q1,aM,q2,aM,List.nil_append,bN hk (by omega),rE (f:=λv=>(⟨dN b v,dN a v,gB (lV a b v) λy=>vAt x (off (lV a b) v+y)⟩:Mt)),e];simp
 ·unfold fW;simp only;rw [mD (bC _),aU];rfl
theorem aNi {α β:Type} {l:List α} {f:α→β} {body:List β×Int→Option ((List β×Int) ⊕ List β)} (hl:l.length≤4611686018427387904)
  (hs: ∀ (k:Nat) (hk:k<l.length) (o:List β),o.length=k→body (o,k)=some (.inl (o++[f l[k]],wr (k+1)))) (he: ∀ o,body (o,l.length)=some (.inr o)):Lp body ([],0)=some (l.map f):=by
 rw [cU (r:=l.map f) (λk=>((l.take k).map f,(k:Int))) l.length (by simp) (λk hk=>?_) (λ_=>?_)]
 ·rw [hs k hk _ (by simp;omega),bN hk hl,aGo hk,List.map_append];rfl
 ·rw [he,List.take_length]
def hmK (a b:Rp):List (List Int):=aBm a.p (nV a b) (bW a.p (nE a b) (mE a b) (nV a b)).1 (bW a.p (nE a b) (mE a b) (nV a b)).2
def hmB (a b:Rp):List (List Mt):=(hmK a b).map λx=>cW a b (vAt x)
theorem tY {a b:Rp} (h:Fit a b):(hmK a b).length=cR a b:=aHu h.ra.hp (aFR h)
theorem aGX {a b:Rp} (h:Fit a b) {x:List Int} (hx:x∈hmK a b):x.length=nV a b∧ ∀ z∈x,0≤z∧z<a.p:=by
 unfold hmK aBm at hx;obtain ⟨k,_,rfl⟩:=List.mem_map.1 hx;exact ⟨wA _ _ _ _ _ _,aJT h.ra.hp _ _ _ _ _⟩
theorem aIB {a b:Rp} (h:Fit a b):pO a b=some (hmB a b):=by
 have hl:=tY h;have hd:=vB h;unfold pO;rw [xO h,aA,aGW (aFS h),aA];show (Lp (iD a b (hmK a b)) ([],0)).bind _=_;rw [aNi (l:=hmK a b) (f:=λx=>cW a b (vAt x)) (by omega) (λk hk o ho=>?_) (λo=>?_)]
 ·rfl
 ·unfold iD;simp only;rw [jT hk,aM,dS hk,aA,aGR h,aA,aMS h (aGX h (List.getElem_mem hk)).1,aA,aZ (by omega),aM]
 ·unfold iD;simp only;rw [mD (bC _),aU]
theorem aIC {a b:Rp} (ha:bR a) (hb:bR b) (hf:iO a b=true):gL a b=some (hmB a b,true):=by
 have h:=dO hf;have hl:=tY h;have hd:=vB h;unfold gL;have hf':=hf;unfold iO at hf';rw [xF ha hb,aA,hf',dX,aU,uJ h,aA,aDt (aFS h),aA];show (Lp (eC a b (hmK a b)) ([],0)).bind _=_;rw [aNi (l:=hmK a b) (f:=λx=>cW a b (vAt x)) (by omega) (λk hk o ho=>?_) (λo=>?_)]
 ·rfl
 ·unfold eC;simp only;rw [jT hk,aM,dS hk,aA,aHz h (aGX h (List.getElem_mem hk)).1,aA,aZ (by omega),aM]
 ·unfold eC;simp only;rw [mD (bC _),aU]
def dgN (P n c i:Nat):Nat:=c / P ^ (n - 1 - i) % P
def uK (a b:Rp) (c:Nat):Nat→Int:=λk=>sN (λi=>(dgN a.p.toNat (cR a b) c i:Int)*rL (hmK a b) i k) (cR a b) % a.p
theorem aBX {p:Int} (hp:rJ p=true):((p.toNat:Nat):Int)=p∧2≤p.toNat∧p.toNat≤5:=by have:=dG hp;omega
theorem aNj {p:Int} (hp:rJ p=true) (n c i:Nat):0≤(dgN p.toNat n c i:Int)∧(dgN p.toNat n c i:Int)<p:=by
 have:=aBX hp;have h:=Nat.mod_lt (c / p.toNat ^ (n - 1 - i)) (show p.toNat>0 by omega);unfold dgN;omega
theorem aJu {a b:Rp} (h:Fit a b) {i k:Nat} (hi:i<cR a b) (hk:k<nV a b):0≤rL (hmK a b) i k∧rL (hmK a b) i k<a.p:=by
 have hl:=tY h;have hm:=aGX h (List.getElem_mem (show i<(hmK a b).length by omega));have e:(hmK a b)[i]?.getD []=(hmK a b)[i]'(by omega):=by rw [kR (by omega),kG]
 unfold rL;rw [e,kR (by omega),kG];exact hm.2 _ (List.getElem_mem _)
theorem aID {l:List (List Int)} {i:Nat} (hi:i<l.length):vAt l[i]=rL l i:=by
 funext k;unfold vAt rL;rw [kR hi,kG]
theorem aJv {a b:Rp} (h:Fit a b) {i:Nat} (hi:i<cR a b):cP (hmB a b) (i:Int)=some (cW a b (rL (hmK a b) i)):=by
 have hl:=tY h;unfold hmB;rw [dS (by rw [dM];omega),List.getElem_map,aID (by omega)]
theorem aIz {p:Int} (hp:rJ p=true) {n c:Nat} (hn:n≤100) (hc:c≤1000000):pP p (n:Int) (c:Int)=some (gB n λi=>(dgN p.toNat n c i:Int)):=by
 obtain ⟨e,e2,e5⟩:=aBX hp;unfold pP;rw [aZ (by omega),aZ (by omega:(n:Int)≤1048576),Bool.and_self,aM,dK];rw [cU (r:=gB n λi=>(dgN p.toNat n c i:Int)) (λt=>(((c / p.toNat ^ t:Nat):Int),gB n (λi=>if n - t≤i then (dgN p.toNat n c i:Int) else 0),(n:Int) - 1 - t)) n ?_ (λt ht=>?_) (λ_=>?_),aA]
 ·rw [cC (by omega),aFP];simp only [Nat.pow_zero,Nat.div_one,Nat.sub_zero];congr 2
  ·exact nC λj hj=>by rw [aR (by omega)]
  ·omega
 ·have ei:(n:Int) - 1 - (t:Int)=((n - 1 - t:Nat):Int):=by omega
  have hq:c / p.toNat ^ t≤c:=Nat.div_le_self _ _;have hq2:c / p.toNat ^ (t+1)≤c:=Nat.div_le_self _ _;unfold lL;simp only;rw [ei,aZ (by omega),aM,aKo hp,aM,xG _ (by omega),aA,aM,dK,Int.tmod_eq_emod_of_nonneg (Int.natCast_nonneg _),Int.tdiv_eq_ediv_of_nonneg (Int.natCast_nonneg _),aHp (by omega)]
  have e3:((c / p.toNat ^ t:Nat):Int) / p=((c / p.toNat ^ (t+1):Nat):Int):=by
   rw [Nat.pow_succ,←Nat.div_div_eq_div_mul];generalize c / p.toNat ^ t=q;rw [Int.natCast_ediv,e]
  have e4:((c / p.toNat ^ t:Nat):Int) % p=(dgN p.toNat n c (n - 1 - t):Int):=by
   unfold dgN;rw [show n - 1 - (n - 1 - t)=t by omega,Int.natCast_emod,e]
  rw [e3,e4,cC ⟨Int.le_trans (by decide) (Int.natCast_nonneg _),Int.le_trans (Int.ofNat_le.2 (Nat.le_trans hq2 hc)) (by decide)⟩,cC (by omega)];congr 4
  ·refine nC λj hj=>?_;by_cases e6:j=n - 1 - t
   ·rw [aQ e6,aQ (by omega),e6]
   ·rw [aR e6];by_cases e7:n - t≤j
    ·rw [aQ e7,aQ (by omega)]
    ·rw [aR e7,aR (by omega)]
  ·omega
 ·unfold lL;simp only;rw [cS (by omega),aU];congr 2;exact nC λj hj=>by rw [aQ (by omega)]
def paF (a b:Rp) (c t:Nat):Nat→Int:=λk=>sN (λi=>(dgN a.p.toNat (cR a b) c i:Int)*rL (hmK a b) i k) t % a.p
theorem aEB {α:Type} (n k:Nat) (f:Nat→α) (v:α):((List.range n).map f).set k v=(List.range n).map λi=>if i=k then v else f i:=by
 refine List.ext_getElem (by simp) λt h1 h2=>?_;rw [List.getElem_set,List.getElem_map,List.getElem_map,List.getElem_range];by_cases e:k=t
 ·rw [aQ e,aQ e.symm]
 ·rw [aR e,aR λh=>e h.symm]
theorem aFa (n:Nat) (f:Nat→Int):bJ 1 n (λ_=>f)=gB n f:=by
 unfold bJ gB;rw [Nat.one_mul];refine uL λy hy=>?_;rw [Nat.mod_eq_of_lt (List.mem_range.1 hy)]
theorem aKt {p:Int} (hp:rJ p=true) {n:Nat} (hn:n≤1048576) {f g:Nat→Int} {k:Int} (hk:0≤k∧k≤5) (hf: ∀ b,b<n→0≤f b∧f b<p) (hg: ∀ b,b<n→0≤g b∧g b<p):
  dZ p (gB n f) 0 n k (gB n g)=some (gB n λb=>(f b+k*g b) % p):=by
 have:=aDg (r:=1) (i:=0) hp hn (by omega) (F:=λ_=>f) hk hf hg;rw [Nat.zero_mul,aFa] at this;rw [this];congr 1;rw [←aFa];exact bS λi j hi hj=>by simp only [aDf];rw [aQ (by omega)]
theorem aJA {a b:Rp} (h:Fit a b) {c:Nat} (hc:c≤1000000):pQ a b (hmB a b) (c:Int)=some (cW a b (uK a b c)):=by
 have hl:=tY h;have hd:=vB h;have hp:=dG h.ra.hp;have n5:=h.ra.n5;have bV:=h.offV (bC _);have hV:nV a b≤80:=bV;unfold pQ;have el:((hmB a b).length:Int)=(cR a b:Int):=by unfold hmB;rw [dM,hl]
 rw [el,aIz h.ra.hp (by omega) hc,aA];unfold tF;rw [aGR h,aA];rw [cU (r:=cW a b (uK a b c)) (λi=>(cW a b (paF a b c i),(i:Int))) (cR a b) ?_ (λi hi=>?_) (λ_=>?_),aA,aA]
 ·unfold cW paF;congr 1
 ·have hdg:=aNj h.ra.hp (cR a b) c i;unfold lO;simp only;rw [show decide ((i:Int)<((hmB a b).length:Int))=true from aZ (by rw [el];omega),aM,aJv h hi,aA];rw [cU (r:=cW a b (paF a b c (i+1))) (λv=>((List.range a.dims.length).map λw=>(⟨dN b w,dN a w,gB (lV a b w) λy=>paF a b c (if w<v then i+1 else i) (off (lV a b) w+y)⟩:Mt),(v:Int))) a.dims.length ?_ (λv hv=>?_) (λ_=>?_),aA,bN hi (by omega)]
  ·congr 1
  ·have hlv:=h.lV hv;have hov: ∀ y,y<lV a b v→off (lV a b) v+y<nV a b:=λy hy=>iN hv hy;unfold lM;simp only;rw [show decide ((v:Int)<((cW a b (rL (hmK a b) i)).length:Int))=true from aZ (by unfold cW;simp;exact hv),aM];rw [show cP (cW a b (rL (hmK a b) i)) (v:Int)=some (⟨dN b v,dN a v,gB (lV a b v) λy=>rL (hmK a b) i (off (lV a b) v+y)⟩:Mt) from nR hv,aA,nR hv,aA,xG _ hi,aA];simp only;rw [dV,aR (Nat.lt_irrefl _),aKt (f:=λy=>paF a b c i (off (lV a b) v+y)) h.ra.hp (by omega) (by omega) (λy hy=>rA h.ra.hp) (λy hy=>aJu h hi (hov y hy)),aA,dV,aZ rfl,aM,dK,aEB,bN hv (by omega)];congr 3;refine uL λw hw=>?_;by_cases e:w=v
   ·subst e;rw [aQ rfl,aQ (by omega)];congr 1;refine nC λy hy=>?_;unfold paF;rw [sN,Int.emod_add_emod]
   ·rw [aR e];by_cases e2:w<v
    ·rw [aQ e2,aQ (by omega)]
    ·rw [aR e2,aR (by omega)]
  ·unfold lM;simp only;rw [show decide ((a.dims.length:Int)<((cW a b (rL (hmK a b) i)).length:Int))=false from cS (by unfold cW;simp),aU];congr 2;unfold cW;refine uL λw hw=>?_;rw [aQ (List.mem_range.1 hw)]
 ·unfold lO;simp only;rw [show decide ((cR a b:Int)<((hmB a b).length:Int))=false from cS (by rw [el];omega),aU];rfl
theorem aJw (g:Nat→Int): ∀ n,sN g (n+1)=g 0+sN (λs=>g (s+1)) n
 |0=>by simp [sN]
 |n+1=>by rw [sN,aJw g n,sN];omega
theorem aMT: ∀ (n:Nat) (f:Nat→Int),sN (λs=>f (n - 1 - s)) n=sN f n
 |0,_=>rfl
 |n+1,f=>by
  have e:sN (λs=>f (n+1 - 1 - (s+1))) n=sN (λs=>f (n - 1 - s)) n:=fK λs hs=>by rw [show n+1 - 1 - (s+1)=n - 1 - s by omega]
  rw [aJw,e,aMT n f,sN,show n+1 - 1 - 0=n by omega];omega
theorem aKu {a b:Rp} (h:Fit a b) (g:Nat→Int):rF (cW a b g)=some (gB (nV a b) g):=by
 have n5:=h.ra.n5;have bV:=h.offV (bC _);unfold rF;rw [cU (r:=gB (nV a b) g) (λk=>(cat (lV a b) (λv y=>g (off (lV a b) v+y)) k,(k:Int))) a.dims.length (by rfl) (λk hk=>?_) (λ_=>?_),aA]
 ·have h1:= @xM (lV a b) (k+1) a.dims.length hk;have e:off (lV a b) (k+1)=off (lV a b) k+lV a b k:=rfl;unfold mM;simp only;rw [show decide ((k:Int)<((cW a b g).length:Int))=true from aZ (by unfold cW;simp;exact hk),aM,show cP (cW a b g) (k:Int)=some (⟨dN b k,dN a k,gB (lV a b k) λy=>g (off (lV a b) k+y)⟩:Mt) from nR hk,aA];simp only;rw [fL,dV,aZ (by omega),aM,bN hk (by omega)];rfl
 ·unfold mM;simp only;rw [show decide ((a.dims.length:Int)<((cW a b g).length:Int))=false from cS (by unfold cW;simp),aU];congr 2;refine (xN (dV _ _) λi y hi hy=>?_).symm;have hx:off (lV a b) i+y<off (lV a b) a.dims.length:=iN hi hy;unfold gB;rw [List.getElem?_map,List.getElem?_range hx];rfl
def suF (a b:Rp) (c t:Nat):Nat→Int:=λk=>sN (λs=>(dgN a.p.toNat (cR a b) c (cR a b - 1 - s):Int)*rL (hmK a b) (cR a b - 1 - s) k) t % a.p
theorem aNQ (a b:Rp) (c k:Nat):suF a b c (cR a b) k=uK a b c k:=by
 unfold suF uK;rw [aMT (cR a b) λi=>(dgN a.p.toNat (cR a b) c i:Int)*rL (hmK a b) i k]
theorem aEC {a b:Rp} (h:Fit a b) {c:Nat} (hc:c≤1000000):hO a b (hmB a b) (c:Int)=some (cW a b (uK a b c)):=by
 have hl:=tY h;have hd:=vB h;have hp:=dG h.ra.hp;obtain ⟨ep,ep2,ep5⟩:=aBX h.ra.hp;have n5:=h.ra.n5;have bV:=h.offV (bC _);have hV:nV a b≤80:=bV;have el:((hmB a b).length:Int)=(cR a b:Int):=by unfold hmB;rw [dM,hl]
 unfold hO;rw [aFU h,aA,aZ (by omega),aZ (by omega:((nV a b:Nat):Int)≤1048576),Bool.and_self,aM,el,dK];rw [cU (r:=gB (nV a b) (uK a b c)) (λt=>(((c / a.p.toNat ^ t:Nat):Int),gB (nV a b) (suF a b c t),(cR a b:Int) - 1 - t)) (cR a b) ?_ (λt ht=>?_) (λ_=>?_),aA,aHz h (dV _ _),aA]
 ·congr 1;exact aHy λk hk=>aNO hk
 ·rw [cC (by omega),aFP];simp only [Nat.pow_zero,Nat.div_one];congr 2;omega
 ·have ei:(cR a b:Int) - 1 - (t:Int)=((cR a b - 1 - t:Nat):Int):=by omega
  have hi:cR a b - 1 - t<cR a b:=by omega
  have hq2:c / a.p.toNat ^ (t+1)≤c:=Nat.div_le_self _ _
  have hD:((c / a.p.toNat ^ t:Nat):Int).tmod a.p=(dgN a.p.toNat (cR a b) c (cR a b - 1 - t):Int):=by
   rw [Int.tmod_eq_emod_of_nonneg (Int.natCast_nonneg _)];unfold dgN;rw [show cR a b - 1 - (cR a b - 1 - t)=t by omega,Int.natCast_emod,ep]
  have e3:((c / a.p.toNat ^ t:Nat):Int).tdiv a.p=((c / a.p.toNat ^ (t+1):Nat):Int):=by
   rw [Int.tdiv_eq_ediv_of_nonneg (Int.natCast_nonneg _),Nat.pow_succ,←Nat.div_div_eq_div_mul];generalize c / a.p.toNat ^ t=q;rw [Int.natCast_ediv,ep]
  have hdg:=aNj h.ra.hp (cR a b) c (cR a b - 1 - t);unfold kC;simp only;rw [ei,aZ (by omega),aM,aKo h.ra.hp,aM,aM,aJv h hi,aA,aKu h,aA];rw [cU (r:=gB (nV a b) (suF a b c (t+1))) (λj=>(gB (nV a b) (λk=>if k<j then suF a b c (t+1) k else suF a b c t k),(j:Int))) (nV a b) ?_ (λj hj=>?_) (λ_=>?_),aA,e3,cC ⟨Int.le_trans (by decide) (Int.natCast_nonneg _),Int.le_trans (Int.ofNat_le.2 (Nat.le_trans hq2 hc)) (by decide)⟩,cC (by omega)]
  ·congr 4;omega
  ·congr 1
  ·have hr:=aJu h hi hj;have hs:0≤suF a b c t j∧suF a b c t j<a.p:=rA h.ra.hp;have hm:=aET (a:=(dgN a.p.toNat (cR a b) c (cR a b - 1 - t):Int)) (b:=rL (hmK a b) (cR a b - 1 - t) j) (by omega) (by omega);unfold kB;simp only;rw [dV,jT hj,aM,xG _ hj,aA,xG _ hj,aA,hD];rw [aR (Nat.lt_irrefl _)];generalize hM:(dgN a.p.toNat (cR a b) c (cR a b - 1 - t):Int)*rL (hmK a b) (cR a b - 1 - t) j=M at*;rw [cC (x:=M) (by omega),cC (by omega),tT h.ra.hp (by omega),aA,aA,dK,aHp hj,bN hj (by omega)];congr 3;refine nC λk hk=>?_;by_cases e:k=j
   ·subst e;rw [aQ rfl,aQ (by omega)];unfold suF;rw [sN,Int.emod_add_emod,hM]
   ·rw [aR e];by_cases e2:k<j
    ·rw [aQ e2,aQ (by omega)]
    ·rw [aR e2,aR (by omega)]
  ·unfold kB;simp only;rw [dV,mD (bC _),aU];congr 2;exact nC λk hk=>by rw [aQ hk]
 ·unfold kC;simp only;rw [cS (by omega),aU];congr 2;exact nC λk hk=>aNQ a b c k
def gM (a b:Rp) (g:Nat→Int) (v:Nat):Nat→Nat→Int:=λr k=>g (off (lV a b) v+(r*dN a v+k))
theorem aAB (a b:Rp) (g:Nat→Int):cW a b g=(List.range a.dims.length).map λv=>(⟨dN b v,dN a v,bJ (dN b v) (dN a v) (gM a b g v)⟩:Mt):=by
 unfold cW;refine uL λv hv=>?_;congr 1;exact aML λy hy=>by unfold gM;rw [sX]
def rkL (a b:Rp) (g:Nat→Int):List Int:=(List.range a.dims.length).map λv=>(rkF a.p (dN b v) (dN a v) (gM a b g v):Int)
def InG (a b:Rp) (g:Nat→Int):Prop:= ∀ k,k<nV a b→0≤g k∧g k<a.p
theorem InG.inP {a b:Rp} {g:Nat→Int} (hg:InG a b g) {v:Nat} (hv:v<a.dims.length):zT a.p (dN b v) (dN a v) (gM a b g v):=λr k hr hk=>hg _ (iN hv (uV hr hk))
theorem aJx {a b:Rp} (h:Fit a b) (c:Nat):InG a b (uK a b c):=λk _=>rA h.ra.hp
theorem aNR {a b:Rp} (h:Fit a b) {g:Nat→Int} (hg:InG a b g):tX a.p (cW a b g)=some (rkL a b g):=by
 have n5:=h.ra.n5;rw [aAB];unfold tX;rw [cU (s:=(([]:List Int),(0:Int))) (r:=rkL a b g) (λk=>((List.range k).map (λv=>(rkF a.p (dN b v) (dN a v) (gM a b g v):Int)),(k:Int))) a.dims.length (by rfl) (λk hk=>?_) (λ_=>?_),aA]
 ·have hkb:k<b.dims.length:=by rw [h.ne];exact hk
  have d1:=(h.ra.d k hk).2;have d2:=(h.rb.d k hkb).2;have T:Tb a.p (dN b k) (dN a k) (gM a b g k):=⟨h.ra.hp,sq d2 d1,by omega,by omega,hg.inP hk⟩;unfold pR;simp only;rw [dM,List.length_range,jT hk,aM,nR hk,aA,aAf T,aA,aZ (by simp;omega),aM,bN hk (by omega),←rE (f:=λv=>(rkF a.p (dN b v) (dN a v) (gM a b g v):Int))];rfl
 ·unfold pR;simp only;rw [dM,List.length_range,mD (bC _),aU];rfl
theorem aNS {a b:Rp} (ha:bR a) (h:Fit a b) (he:a.dims=b.dims) {g:Nat→Int} (hg:InG a b g):mK a b (cW a b g)=some (decide (rkL a b g=a.dims)):=by
 have n5:=h.ra.n5;unfold mK;rw [wH ha.2.1,aA,aZ he,aM,aNR h hg,aA,wH (by unfold bI rkL;simp;omega),aA]
theorem aCw (c x:Nat→Int) (u:Nat→Nat→Int) (N:Nat): ∀ n,sN (λt=>c t*sN (λq=>x q*u q t) N) n=sN (λq=>x q*sN (λt=>c t*u q t) n) N
 |0=>by
  rw [fK (f:=λq=>x q*sN (λt=>c t*u q t) 0) (g:=λ_=>0) (n:=N) λq _=>by simp [sN],xK];rfl
 |n+1=>by
  rw [sN,aCw c x u N n,←aDn,←aDm];refine fK λq _=>?_;rw [sN,Int.mul_add,Int.mul_left_comm (c n)]
theorem aJy {p:Int} {n:Nat} {f x y:Nat→Int} (h: ∀ k,k<n→x k % p=y k % p):dt n f x % p=dt n f y % p:=by
 unfold dt;refine aJp λk hk=>?_;rw [Int.mul_emod,h k hk,←Int.mul_emod]
theorem aMU {p:Int} {f:Nat→Int} : ∀ {n:Nat},(∀ k,k<n→Z0 p (f k))→Z0 p (sN f n)
 |0,_=>by unfold Z0;simp [sN]
 |n+1,h=>aIq (aMU λk hk=>h k (by omega)) (h n (by omega))
theorem aJz {p:Int} {m n:Nat} {F:Nat→Nat→Int} {L:List Nat} (h:Red m n F L) {k:Nat} (hk:k<n) (hL: ∀ i,i<L.length→L[i]?.getD 0≠k): ∀ t,t≤L.length→ ∀ c,c<n→vAt (aAE p n F L k t) c % p=(if c=k then 1 else -(sN (λi=>if L[i]?.getD 0=c then F i k else 0) t)) % p
 |0,_,c,hc=>by
  unfold aAE vAt;rw [List.getElem?_set,List.length_replicate];by_cases e:c=k
  ·rw [aQ e.symm,aQ hk,aQ e];rfl
  ·rw [aR λh=>e h.symm,aR e];simp [hc,sN]
 |t+1,ht,c,hc=>by
  have ih:=aJz (p:=p) h hk hL t (by omega) c hc;have hlt:=h.lt t (by omega);have hne:=hL t (by omega);unfold aAE vAt;rw [List.getElem?_set,wA];by_cases e:L[t]?.getD 0=c
  ·rw [aQ e,aQ (by omega),kG,Int.emod_emod_of_dvd _ (Int.dvd_refl p),aR (by omega),sN,aQ e];rw [fK (g:=λ_=>0) λi hi=>?_,xK,Int.zero_add];rw [aR];intro e2;have:=h.inc i t hi (by omega);omega
  ·rw [aR e];refine ih.trans ?_;rw [sN,aR e,Int.add_zero]
theorem aOI {p:Int} (hp:rJ p=true) {m n:Nat} {F:Nat→Nat→Int} (hi:zT p m n F) {x:List Int} (hx:x∈aBm p n (bW p m F n).1 (bW p m F n).2):Kr p m n F (vAt x):=by
 have hR:=aIc hp hi n (bC _);unfold aBm at hx;obtain ⟨k,hk,rfl⟩:=List.mem_map.1 hx;have hk1:=aHx hk
 have hL: ∀ i,i<(bW p m F n).2.length→(bW p m F n).2[i]?.getD 0≠k:=by
  intro i hi e;have h2:=(List.mem_filter.1 hk).2;have h3:k∈(bW p m F n).2:=by rw [←e];exact qZ 0 hi
  simp [h3] at h2
 refine (aJr hp hi _ n (bC _)).1 λi him=>?_;have h1:=aOD (p:=p) hR hk1 hL i him;refine aDp (aJy λc hc=>?_) h1;exact (aJz hR hk1 hL _ (bC _) c hc).symm
theorem aOs {a b:Rp} (h:Fit a b) (c:Nat):Kr a.p (nE a b) (nV a b) (mE a b) (uK a b c):=by
 intro i hi
 have e1:dt (nV a b) (mE a b i) (uK a b c) % a.p=dt (nV a b) (mE a b i) (λk=>sN (λj=>(dgN a.p.toNat (cR a b) c j:Int)*rL (hmK a b) j k) (cR a b)) % a.p:=
  aJy λk hk=>by unfold uK;exact Int.emod_emod_of_dvd _ (Int.dvd_refl _)
 refine aDp e1.symm ?_;unfold dt;rw [aCw (mE a b i) (λj=>(dgN a.p.toNat (cR a b) c j:Int)) (rL (hmK a b)) (cR a b) (nV a b)];refine aMU λj hj=>aDo _ ?_;have hl:=tY h;have hm:=aOI h.ra.hp (aFR h) (List.getElem_mem (show j<(hmK a b).length by omega)) i hi;rw [aID (by omega)] at hm;exact hm
def uU (a b:Rp) (q:Nat):Nat→Nat→Nat→Int:=λv j l=>if off (lV a b) v+(j*dN a v+l)=q then 1 else 0
def dP (a b:Rp) (P:Nat→Nat→Nat→Int) (i r k:Nat):Int:=yB (aF b i) (P (sV a i)) r k (dN b (sV a i)) - yB (P (tV a i)) (aF a i) r k (dN a (tV a i))
theorem aOJ {a b:Rp} (P:Nat→Nat→Nat→Int) (i r k:Nat):aDr a b P i r k=dP a b P i r k % a.p:=by
 unfold aDr dP tU;generalize yB (aF b i) (P (sV a i)) r k (dN b (sV a i))=x;generalize yB (P (tV a i)) (aF a i) r k (dN a (tV a i))=y;rw [show x % a.p+(a.p - 1)*(y % a.p)=(x % a.p - y % a.p)+a.p*(y % a.p) by rw [Int.sub_mul];omega,Int.add_mul_emod_self_left];exact (Int.sub_emod x y a.p).symm
theorem aMV {a b:Rp} (x:Nat→Int) {v j l:Nat} (hv:v<a.dims.length) (hj:j<dN b v) (hl:l<dN a v):gM a b x v j l=sN (λq=>x q*uU a b q v j l) (nV a b):=by
 rw [aAh (n:=nV a b) (j:=off (lV a b) v+(j*dN a v+l)) (iN hv (uV hj hl))]
 ·unfold uU gM;rw [aQ rfl,Int.mul_one]
 ·intro q _ hq;unfold uU;rw [aR λe=>hq e.symm,Int.mul_zero]
section
variable {a b:Rp} (h:Fit a b) {i r k:Nat} (hi:i<a.q.src.length) (hr:r<dN b (tV a i)) (hk:k<dN a (sV a i))
include h hi hr hk
theorem aOK (x:Nat→Int):dP a b (gM a b x) i r k=sN (λq=>x q*dP a b (uU a b q) i r k) (nV a b):=by
 have hs:=(h.ra.s i hi).2;have ht:=(h.ra.t i hi).2;unfold dP;simp only [aBV]
 have e1:sN (λt=>aF b i r t*gM a b x (sV a i) t k) (dN b (sV a i))=sN (λq=>x q*sN (λt=>aF b i r t*uU a b q (sV a i) t k) (dN b (sV a i))) (nV a b):=by
  rw [←aCw (aF b i r) x (λq t=>uU a b q (sV a i) t k)];exact fK λt ht2=>by rw [aMV x hs ht2 hk]
 have e2:sN (λt=>gM a b x (tV a i) r t*aF a i t k) (dN a (tV a i))=sN (λq=>x q*sN (λt=>uU a b q (tV a i) r t*aF a i t k) (dN a (tV a i))) (nV a b):=by
  have:=aCw (λt=>aF a i t k) x (λq t=>uU a b q (tV a i) r t) (nV a b) (dN a (tV a i));rw [fK (f:=λt=>gM a b x (tV a i) r t*aF a i t k) (g:=λt=>aF a i t k*sN (λq=>x q*uU a b q (tV a i) r t) (nV a b)) λt ht2=>by rw [aMV x ht hr ht2,Int.mul_comm],this];exact fK λq _=>by rw [fK λt _=>Int.mul_comm _ _]
 rw [e1,e2];have e3: ∀ f g:Nat→Int,sN f (nV a b) - sN g (nV a b)=sN (λq=>f q+(-1)*g q) (nV a b):=λf g=>by rw [aDm,aDn];omega
 rw [e3];exact fK λq _=>by rw [Int.mul_sub];omega
theorem aNT {q:Nat} (hq:q<nV a b):dP a b (uU a b q) i r k % a.p=mE a b (off (lE a b) i+(r*dN a (sV a i)+k)) q:=by
 obtain ⟨v0,z0,hv0,hz0,ek⟩:=aAA hq;have hs:=(h.ra.s i hi).2;have ht:=(h.ra.t i hi).2;have hc:=aHt h hv0 hz0 hi hr hk;have hy:r*dN a (sV a i)+k<lE a b i:=uV hr hk
 have e: ∀ v j l,v<a.dims.length→j<dN b v→l<dN a v→uU a b q v j l=unP a v0 z0 v j l:=by
  intro v j l hv hj hl;unfold uU unP;rw [ek];by_cases e1:off (lV a b) v+(j*dN a v+l)=off (lV a b) v0+z0
  ·rw [aQ e1];have:=aJs (l:=lV a b) (uV hj hl) hz0 e1;rw [aQ this]
  ·rw [aR e1,aR];rintro ⟨rfl,rfl⟩;exact e1 rfl
 have e2:dP a b (uU a b q) i r k=dP a b (unP a v0 z0) i r k:=by
  unfold dP;simp only [aBV];rw [fK λt ht2=>by rw [e _ t k hs ht2 hk],fK (f:=λt=>uU a b q (tV a i) r t*aF a i t k) λt ht2=>by rw [e _ r t ht hr ht2]]
 rw [e2,←aOJ,hc];unfold mE;rw [lK _ hi hy,kG,ek,lK _ hv0 hz0,kG];unfold Proofs.YtpppcfhgaehcjaaGreatDoor.e2;rw [vI hk,vJ hk]
theorem aOt (c:Nat):tU a.p (dN b (sV a i)) (aF b i) (gM a b (uK a b c) (sV a i)) r k=tU a.p (dN a (tV a i)) (gM a b (uK a b c) (tV a i)) (aF a i) r k:=by
 have h1:=aOK h hi hr hk (uK a b c);have h2:=aOs h c (off (lE a b) i+(r*dN a (sV a i)+k)) (iN hi (uV hr hk))
 have h3:dP a b (gM a b (uK a b c)) i r k % a.p=0:=by
  rw [h1];refine (aJp (g:=λq=>mE a b (off (lE a b) i+(r*dN a (sV a i)+k)) q*uK a b c q) λq hq=>?_).trans h2;rw [Int.mul_emod,aNT h hi hr hk hq,Int.mul_comm (mE _ _ _ _),Int.mul_emod (uK a b c q) (mE a b _ q)];congr 2;exact (Int.emod_eq_of_lt (aFR h _ _ (iN hi (uV hr hk)) hq).1 (aFR h _ _ (iN hi (uV hr hk)) hq).2).symm
 unfold tU;exact Int.emod_eq_emod_iff_emod_sub_eq_zero.2 h3
end
theorem aKv {m:Mt} (h:bI m.cells):jD m m=some true:=by
 unfold bI at h;unfold jD;rw [aZ rfl,aZ rfl,aZ rfl];simp only [dX,aU];rw [vH (n:=m.cells.length) (λ_=>true) false (by omega) (λk hk=>?_) (λ_=>?_),aA]
 ·rw [show (List.range m.cells.length).all (λ_=>true)=true by simp];rfl
 ·unfold gG;rw [jT hk,aM,dS hk,aA,aA,aZ rfl];rfl
 ·unfold gG;rw [mD (bC _),aU]
theorem aKw {p:Int} (hp:rJ p=true) {r c:Nat} (hr:r≤8) (hc:c≤8) {F:Nat→Nat→Int} (hF:zT p r c F):aAH p ⟨r,c,bJ r c F⟩=true:=by
 have hb:=dG hp;have h:=Nat.mul_le_mul hr hc;unfold aAH;simp only [dF];rw [wY (by omega) (by omega),wY (by omega) (by omega),aDR (by omega),aZ (by omega),hp,aZ (by omega)];simp only [Bool.true_and,List.all_eq_true];intro x hx;obtain ⟨t,ht,rfl⟩:=List.mem_map.1 hx;have ht:=List.mem_range.1 ht
 have hc0:0<c:=by
  rcases Nat.eq_zero_or_pos c with h0|h0
  ·subst h0;simp at ht
  ·exact h0
 have:=hF (t / c) (t % c) ((Nat.div_lt_iff_lt_mul hc0).2 ht) (Nat.mod_lt _ hc0);refine wY this.1 ?_;rw [cC (by omega)];omega
section
variable {a b:Rp} (ha:bR a) (hb:bR b) (hf:iO a b=true)
include ha hb hf
theorem aKx {g:Nat→Int} (hg:InG a b g):lP a b (cW a b g)=some true:=by
 have h:=dO hf;have n5:=h.ra.n5;have hf':=hf;unfold iO at hf';have hlen:(cW a b g).length=a.dims.length:=by simp [cW]
 unfold lP;rw [xF ha hb,aA,hf',dX,aU,aZ (by omega),dX,aU];rw [vH (n:=a.dims.length) (λ_=>true) false (by omega) (λv hv=>?_) (λ_=>?_),aA]
 ·rw [show (List.range a.dims.length).all (λ_=>true)=true by simp];rfl
 ·have hvb:v<b.dims.length:=by rw [h.ne];exact hv
  have d1:=(h.ra.d v hv);have d2:=(h.rb.d v hvb);have m4:=Nat.mul_le_mul d2.2 d1.2;unfold iK;rw [hlen,jT hv,aM,aAB,nR hv,aA,aBy _ ⟨by unfold bI;simp only;rw [dF];omega,trivial⟩,aKw h.ra.hp (by omega) (by omega) (hg.inP hv),aA,dX,aU,aA,qM 0 hv,aA,d1.1,aZ rfl,dX,aU,aA,qM 0 hvb,aA,d2.1,aZ rfl];rfl
 ·unfold iK;rw [hlen,mD (bC _),aU]
theorem aFb (c:Nat):gI a b (cW a b (uK a b c))=some true:=by
 have h:=dO hf;have e6:=h.ra.e6;unfold gI;rw [aKx ha hb hf (aJx h c),aA,dX,aU];rw [vH (n:=a.maps.length) (λ_=>true) false (by have:=h.ra.ml;omega) (λi hi=>?_) (λ_=>?_),aA]
 ·rw [show (List.range a.maps.length).all (λ_=>true)=true by simp];rfl
 ·have hi':i<a.q.src.length:=by have:=h.ra.ml;omega
  have hib:i<b.q.src.length:=by rw [h.qe];exact hi'
  obtain ⟨s1,s2⟩:=h.ra.s i hi';obtain ⟨t1,t2⟩:=h.ra.t i hi';have s3:sV a i<b.dims.length:=by rw [h.ne];exact s2
  have t3:tV a i<b.dims.length:=by rw [h.ne];exact t2
  obtain ⟨m1,m2⟩:=h.ra.m i hi';obtain ⟨g1,g2⟩:=h.rb.m i hib;rw [h.sV,h.tV] at g1 g2;rw [h.pe] at g2;have da:=h.ra.d _ s2;have da2:=h.ra.d _ t2;have db:=h.rb.d _ s3;have db2:=h.rb.d _ t3;have hin:=aJx h c
  have e:bJ (dN b (tV a i)) (dN a (sV a i)) (tU a.p (dN b (sV a i)) (aF b i) (gM a b (uK a b c) (sV a i)))=bJ (dN b (tV a i)) (dN a (sV a i)) (tU a.p (dN a (tV a i)) (gM a b (uK a b c) (tV a i)) (aF a i)):=
   bS λr k hr hk=>aOt h hi' hr hk c
  have m4:=Nat.mul_le_mul db2.2 da.2;unfold jI;rw [jT hi,aM,aAB,qM ⟨0,0,[]⟩ (by rw [h.rb.ml];exact hib),aA,g1,qM 0 hi',aA,s1,nR s2,aA,aBR h.ra.hp (sq db2.2 db.2) (sq db.2 da.2) (sq db2.2 da.2) (by omega) (by omega) (by omega) g2 (hin.inP s2),aA,qM 0 (by have:=h.ra.tl;omega),aA,t1,nR t2,aA,qM ⟨0,0,[]⟩ hi,aA,m1,aBR h.ra.hp (sq db2.2 da2.2) (sq da2.2 da.2) (sq db2.2 da.2) (by omega) (by omega) (by omega) (hin.inP t2) m2,aA,e,aKv (by unfold bI;simp only;rw [dF];omega),aA];rfl
 ·unfold jI;rw [mD (bC _),aU]
theorem aKy (c:Nat):jK a b (cW a b (uK a b c))=some (rkL a b (uK a b c)):=by
 have h:=dO hf;have n5:=h.ra.n5;have hM:=aFb ha hb hf c;have hlen:(cW a b (uK a b c)).length=a.dims.length:=by simp [cW]
 unfold jK;rw [cU (r:=rkL a b (uK a b c)) (λk=>((List.range k).map (λv=>(rkF a.p (dN b v) (dN a v) (gM a b (uK a b c) v):Int)),(k:Int))) a.dims.length (by rfl) (λk hk=>?_) (λ_=>?_),aA]
 ·have hkb:k<b.dims.length:=by rw [h.ne];exact hk
  have d1:=(h.ra.d k hk).2;have d2:=(h.rb.d k hkb).2;unfold jJ;simp only;rw [hlen,jT hk,aM,hM,aA,aM,aAB,nR hk,aA,aMJ h.ra.hp (by omega) (by omega) ((aJx h c).inP hk),aA,aZ (by simp;omega),aM,bN hk (by omega),←rE (f:=λv=>(rkF a.p (dN b v) (dN a v) (gM a b (uK a b c) v):Int))]
 ·unfold jJ;simp only;rw [hlen,mD (bC _),aU];rfl
theorem aGY (he:a.dims=b.dims) (c:Nat):eJ a b (cW a b (uK a b c))=some (decide (rkL a b (uK a b c)=a.dims)):=by
 have h:=dO hf;have n5:=h.ra.n5;have hM:=aFb ha hb hf c;have hR:=aKy ha hb hf c;have hbi:bI (rkL a b (uK a b c)):=by unfold bI rkL;simp;omega
 unfold eJ qA oA;rw [hM,aA,aM,hR,aA,yT hbi,aA,aA,aA,aM,aA,yT hbi,aA,aA,←he];cases decide (rkL a b (uK a b c)=a.dims) <;> rfl
end
def xQ (a b:Rp) (c:Nat):Bool:=decide (rkL a b (uK a b c)=a.dims)
def aJC (a b:Rp) (n:Nat):Option (List Mt):=(List.range' 0 (n - 0)).findSome? λc=>bif xQ a b c then some (cW a b (uK a b c)) else none
def tG (P:Nat):Nat→Nat
 |0=>1
 |k+1=>if tG P k≤100000 then tG P k*P else tG P k
theorem aGZ {P:Nat} (h5:P≤5): ∀ k,tG P k≤500000
 |0=>by simp [tG]
 |k+1=>by
  unfold tG;split
  ·rename_i h;exact Nat.le_trans (Nat.mul_le_mul h h5) (by decide)
  ·exact aGZ h5 k
theorem aED {P:Nat} : ∀ {k n:Nat},k≤n→100000<tG P k→tG P n=tG P k
 |k,0,h,_=>by rw [show k=0 by omega]
 |k,n+1,h,g=>by
  rcases cX n k with h'|h'
  ·rw [show k=n+1 by omega]
  ·have ih:=aED h' g;show (if tG P n≤100000 then tG P n*P else tG P n)=_;rw [aR (by omega),ih]
theorem aCN {p:Int} (hp:rJ p=true) {n:Nat} (hn:n≤1000):kN p (n:Int)=some (tG p.toNat n:Int):=by
 obtain ⟨e,e2,e5⟩:=aBX hp
 have key: ∀ d k,k+d=n→Lp (fP p (n:Int)) ((tG p.toNat k:Int),(k:Int))=some (tG p.toNat n:Int):=by
  intro d;induction d with
  |zero=>
   intro k hk;rw [Nat.add_zero] at hk;subst hk;refine iV ?_;unfold fP;simp only;rw [mD (bC _),aU]
  |succ d ih=>
   intro k hk;have hb:=aGZ e5 k;by_cases h:tG p.toNat k≤100000
   ·rw [←ih (k+1) (by omega)];refine nF ?_;unfold fP;simp only;rw [jT (by omega),aM,aZ (by omega),aM]
    have e3:wr ((tG p.toNat k:Int)*p)=(tG p.toNat (k+1):Int):=by
     rw [show tG p.toNat (k+1)=tG p.toNat k*p.toNat from aQ h,Int.natCast_mul,e];have:=aGZ e5 (k+1);rw [show tG p.toNat (k+1)=tG p.toNat k*p.toNat from aQ h] at this;have h2:((tG p.toNat k*p.toNat:Nat):Int)=(tG p.toNat k:Int)*p:=by rw [Int.natCast_mul,e]
     rw [cC (by rw [←h2];omega)]
    rw [e3,bN (show k<n by omega) (by omega)]
   ·rw [aED (show k≤n by omega) (by omega)];refine iV ?_;unfold fP;simp only;rw [jT (by omega),aM,cS (by omega),aU]
 unfold kN;have h0:=key n 0 (by omega);rw [show ((tG p.toNat 0:Nat):Int)=1 from rfl,show ((0:Nat):Int)=0 from rfl] at h0;rw [h0,aA]
def cmI (a b:Rp):Int:=if tG a.p.toNat (cR a b)≤100000 then (tG a.p.toNat (cR a b):Int) else -2
theorem aGa {a b:Rp} (ha:bR a) (hb:bR b) (hf:iO a b=true):iL a b=some (cmI a b):=by
 have h:=dO hf;have hd:=vB h;obtain ⟨e,e2,e5⟩:=aBX h.ra.hp
 have key: ∀ d k,k+d=cR a b→tG a.p.toNat k≤100000→Lp (dB a (cR a b:Int)) ((tG a.p.toNat k:Int),(k:Int))=some (if tG a.p.toNat (cR a b)≤100000 then .inl (tG a.p.toNat (cR a b):Int) else .inr (-2)):=by
  intro d;induction d with
  |zero=>
   intro k hk h1;rw [Nat.add_zero] at hk;rw [←hk,aQ h1];refine iV ?_;unfold dB;simp only;rw [mD (bC _),aU]
  |succ d ih=>
   intro k hk h1;have hb:=aGZ e5 (k+1);have e4:tG a.p.toNat (k+1)=tG a.p.toNat k*a.p.toNat:=aQ h1;have h2:((tG a.p.toNat (k+1):Nat):Int)=(tG a.p.toNat k:Int)*a.p:=by rw [e4,Int.natCast_mul,e]
   have e3:wr ((tG a.p.toNat k:Int)*a.p)=(tG a.p.toNat (k+1):Int):=by rw [←h2,cC (by omega)]
   by_cases h3:tG a.p.toNat (k+1)≤100000
   ·rw [←ih (k+1) (by omega) h3];refine nF ?_;unfold dB;simp only;rw [jT (by omega),aM,e3,cS (by omega),aU,bN (show k<cR a b by omega) (by omega)]
   ·rw [aR (by rw [aED (show k+1≤cR a b by omega) (by omega)];exact h3)];refine iV ?_;unfold dB;simp only;rw [jT (by omega),aM,e3,aZ (by omega),aM]
 unfold iL;rw [rZ ha hb,aA];unfold hdI;rw [aQ hf,cS (by omega),aU];have h0:=key (cR a b) 0 (by omega) (by simp [tG]);rw [show ((tG a.p.toNat 0:Nat):Int)=1 from rfl,show ((0:Nat):Int)=0 from rfl] at h0;rw [h0,aA];unfold cmI;by_cases h3:tG a.p.toNat (cR a b)≤100000
 ·rw [aQ h3,aQ h3];rfl
 ·rw [aR h3,aR h3];rfl
def rM (a b:Rp):Nat:=min (tG a.p.toNat (cR a b)) 3000
def aMW (a b:Rp):List Mt×Bool:=match aJC a b (rM a b) with|some f=>(f,true)|none=>([],false)
theorem aKz {a b:Rp} (ha:bR a) (hf:iO a b=true) (he:a.dims=b.dims):gY a b (hmB a b)=some (aMW a b):=by
 have h:=dO hf;have hl:=tY h;have hd:=vB h;have el:((hmB a b).length:Int)=(cR a b:Int):=by unfold hmB;rw [dM,hl]
 unfold gY;rw [el,aCN h.ra.hp (by omega),aA];have em:min ((tG a.p.toNat (cR a b):Nat):Int) 3000=((rM a b:Nat):Int):=by unfold rM;omega
 have ht:rM a b≤3000:=Nat.min_le_right _ _;rw [rP (s0:=0) (s:=0) (n:=rM a b) (λc=>bif xQ a b c then some (cW a b (uK a b c),true) else none) rfl (by omega) (Nat.zero_le _) (λc _ hc=>?_) (λ_=>?_),aA]
 ·unfold aMW aJC
  have key: ∀ l:List Nat,l.findSome? (λc=>bif xQ a b c then some (cW a b (uK a b c),true) else none)=(l.findSome? λc=>bif xQ a b c then some (cW a b (uK a b c)) else none).map λf=>(f,true):=by
   intro l;induction l with
   |nil=>rfl
   |cons c l ih=>
    rw [List.findSome?_cons,List.findSome?_cons];cases xQ a b c with
    |true=>rfl
    |false=>exact ih
  rw [key];cases (List.range' 0 (rM a b - 0)).findSome? λc=>bif xQ a b c then some (cW a b (uK a b c)) else none <;> rfl
 ·unfold fT;rw [em,jT hc,aM,aJA h (by omega),aA,aNS ha h he (aJx h c),aA];unfold xQ;cases decide (rkL a b (uK a b c)=a.dims) <;> rfl
 ·unfold fT;rw [em,mD (bC _),aU]
theorem aOu {a b:Rp} (ha:bR a) (hb:bR b) (hf:iO a b=true) (he:a.dims=b.dims):rH a b=some (match aJC a b (rM a b) with|some f=>(f,true,true)|none=>([],false,decide (tG a.p.toNat (cR a b)≤3000))):=by
 have h:=dO hf;have ht:rM a b≤3000:=Nat.min_le_right _ _
 have key: ∀ l:List Nat,l.findSome? (λc=>bif xQ a b c then some (cW a b (uK a b c),true,true) else none)=(l.findSome? λc=>bif xQ a b c then some (cW a b (uK a b c)) else none).map λf=>(f,true,true):=by
  intro l;induction l with
  |nil=>rfl
  |cons c l ih=>
   rw [List.findSome?_cons,List.findSome?_cons];cases xQ a b c with
   |true=>rfl
   |false=>exact ih
 unfold rH;rw [aIC ha hb hf,aA,aGa ha hb hf,aA];unfold cmI;by_cases h1:tG a.p.toNat (cR a b)≤100000
 ·rw [aQ h1,cS (by omega),aU];by_cases h3:tG a.p.toNat (cR a b)≤3000
  ·have et:rM a b=tG a.p.toNat (cR a b):=Nat.min_eq_left h3;rw [cS (by omega),aU];rw [rP (s0:=0) (s:=0) (n:=rM a b) (λc=>bif xQ a b c then some (cW a b (uK a b c),true,true) else none) rfl (by omega) (Nat.zero_le _) (λc _ hc=>?_) (λ_=>?_),aA,key]
   ·unfold aJC;rw [aZ h3];cases (List.range' 0 (rM a b - 0)).findSome? λc=>bif xQ a b c then some (cW a b (uK a b c)) else none with
    |none=>simp
    |some f=>rfl
   ·unfold mQ;rw [←et,jT hc,aM];simp only;rw [aEC h (by omega),aA,aGY ha hb hf he c,aA];unfold xQ;cases decide (rkL a b (uK a b c)=a.dims) <;> rfl
   ·unfold mQ;rw [←et,mD (bC _),aU]
  ·have et:rM a b=3000:=Nat.min_eq_right (by omega);rw [aZ (by omega),aM];rw [rP (s0:=0) (s:=0) (n:=rM a b) (λc=>bif xQ a b c then some (cW a b (uK a b c),true,true) else none) rfl (by omega) (Nat.zero_le _) (λc _ hc=>?_) (λ_=>?_),aA,key]
   ·unfold aJC;rw [cS h3];cases (List.range' 0 (rM a b - 0)).findSome? λc=>bif xQ a b c then some (cW a b (uK a b c)) else none with
    |none=>simp;omega
    |some f=>rfl
   ·unfold mP;rw [aZ (by omega),aM];simp only;rw [aEC h (by omega),aA,aGY ha hb hf he c,aA];unfold xQ;cases decide (rkL a b (uK a b c)=a.dims) <;> rfl
   ·unfold mP;rw [et,cS (by omega),aU]
 ·have et:rM a b=3000:=Nat.min_eq_right (by omega);rw [aR h1,aZ (by omega),aM];rw [rP (s0:=0) (s:=0) (n:=rM a b) (λc=>bif xQ a b c then some (cW a b (uK a b c),true,true) else none) rfl (by omega) (Nat.zero_le _) (λc _ hc=>?_) (λ_=>?_),aA,key]
  ·unfold aJC;rw [cS (by omega: ¬ tG a.p.toNat (cR a b)≤3000)];cases (List.range' 0 (rM a b - 0)).findSome? λc=>bif xQ a b c then some (cW a b (uK a b c)) else none with
   |none=>simp
   |some f=>rfl
  ·unfold mO;rw [aZ (by omega),aM];simp only;rw [aEC h (by omega),aA,aGY ha hb hf he c,aA];unfold xQ;cases decide (rkL a b (uK a b c)=a.dims) <;> rfl
  ·unfold mO;rw [et,cS (by omega),aU]
def aJD (a b:Rp):Bool:= !decide (a.dims=b.dims)||(!decide (cR a b=cR a a)||(!decide (cR b a=cR a a)|| !decide (cR b b=cR a a)))
theorem aGb {a b:Rp} (hf:iO a b=true):iO b a=true∧iO a a=true∧iO b b=true:=by
 unfold iO at*;simp only [cD,mS] at*;exact ⟨⟨hf.2.1,hf.1,hf.2.2.1.symm,hf.2.2.2.symm⟩,⟨hf.1,hf.1,trivial,trivial⟩,hf.2.1,hf.2.1,trivial,trivial⟩
theorem wL {x y:Nat} :decide ((x:Int)=(y:Int))=decide (x=y):=by
 by_cases h:x=y
 ·rw [aZ h,aZ (by omega)]
 ·rw [cS h,cS (by omega)]
theorem aMX {a b:Rp} (ha:bR a) (hf:iO a b=true):sI a b=some (aJD a b):=by
 obtain ⟨f1,f2,f3⟩:=aGb hf;unfold sI aJD;rw [wH ha.2.1,aA];by_cases he:a.dims=b.dims
 ·rw [aZ he,dX,aU,yY (dO f2),aA,yY (dO hf),aA,yY (dO f1),aA,yY (dO f3),aA,wL,wL,wL];cases decide (cR a b=cR a a) <;> cases decide (cR b a=cR a a) <;> rfl
 ·rw [cS he];rfl
def isI (a b:Rp):Int:=if iO a b=true then (if aJD a b=true then 0 else if (aMW a b).2=true then 1 else if tG a.p.toNat (cR a b)≤3000 then 0 else -1) else -1
theorem aLA {a b:Rp} (ha:bR a) (hb:bR b):jH a b=some (isI a b):=by
 unfold jH isI;rw [aHk ha hb,aA];cases hf:rW a&&(rW b&&(decide (a.p=b.p)&&decide (a.q=b.q))) with
 |false=>
  rw [aR (by unfold iO;rw [hf];simp)];rfl
 |true=>
  have hf':iO a b=true:=hf;have h:=dO hf';have hl:=tY h;have hd:=vB h;rw [aQ hf',dX,aU,aMX ha hf',aA];cases hD:aJD a b with
  |true=>rfl
  |false=>
   have he:a.dims=b.dims:=by
    unfold aJD at hD;simp only [Bool.or_eq_false_iff,Bool.not_eq_false',mS] at hD;exact hD.1
   have el:(((hmB a b).length:Nat):Int)=(cR a b:Int):=by unfold hmB;rw [dM,hl]
   rw [aU,aIB h,aA,aKz ha hf' he,aA,el,aCN h.ra.hp (by omega),aA,aR (by simp)];cases (aMW a b).2 with
   |true=>rfl
   |false=>
    rw [aU,aR (by simp)];by_cases h3:tG a.p.toNat (cR a b)≤3000
    ·rw [aQ h3,aZ (by omega)];rfl
    ·rw [aR h3,cS (by omega)];rfl
theorem aLB {a b:Rp} (ha:bR a) (hb:bR b):jL a b=some (isI a b):=by
 unfold jL isI;rw [xF ha hb,aA];cases hf:rW a&&(rW b&&(decide (a.p=b.p)&&decide (a.q=b.q))) with
 |false=>
  rw [aR (by unfold iO;rw [hf];simp)];rfl
 |true=>
  have hf':iO a b=true:=hf;obtain ⟨f1,f2,f3⟩:=aGb hf';have ed: ∀ {x y:Rp},iO x y=true→hdI x y=(cR x y:Int):=λh=>by unfold hdI;rw [aQ h]
  rw [aQ hf',dX,aU,rZ ha ha,aA,yT ha.2.1,aA];by_cases he:a.dims=b.dims
  ·rw [aZ he,dX,aU,rZ ha hb,aA,rZ hb ha,aA,rZ hb hb,aA,ed hf',ed f1,ed f2,ed f3,wL,wL,wL];unfold aJD;rw [aZ he];cases decide (cR a b=cR a a) with
   |false=>rfl
   |true=>
    cases decide (cR b a=cR a a) with
    |false=>rfl
    |true=>
     cases decide (cR b b=cR a a) with
     |false=>rfl
     |true=>
      simp only [dX,Bool.or_false,aU];rw [aOu ha hb hf' he,aA,aR (by simp)];unfold aMW;cases aJC a b (rM a b) with
      |some f=>rfl
      |none=>
       simp only [aU];by_cases h3:tG a.p.toNat (cR a b)≤3000
       ·rw [aQ h3,aZ h3];rfl
       ·rw [aR h3,cS h3];rfl
  ·unfold aJD;rw [cS he];rfl
end
end Go.Proofs.YtpppcfhgaehcjaaGreatDoor

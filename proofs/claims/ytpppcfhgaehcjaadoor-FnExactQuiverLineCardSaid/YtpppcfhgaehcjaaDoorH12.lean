/-
  Several texts of the claim in one.
-/
import Derived.RangeFuncBox
import Derived.Test.YtpppcfhgaehcjaaDoorH11
set_option linter.unusedVariables false
set_option linter.unusedSimpArgs false
namespace Go.Proofs.YtpppcfhgaehcjaaDoor
open Go.RowKit
noncomputable section
set_option maxRecDepth 10000
end
noncomputable section
def qS (v:Value) (k i:Nat):Value:=match v with
 | .slice (some a) _ _=> .pointer (some ⟨a.block,a.off+i*k,none⟩)
 |_=> .bool true
theorem aBY {W:World} {k i:Nat} {es:List (List AV)} {cs:List AV} {v:Value} {S:List Nat} (r:RepD W (.list k es) v S) (h:es[i]? =some cs): ∃ S',RepD W (.ref cs) (qS v k i) S':=by
 simp only [RepD] at r;obtain ⟨a,c,rfl,h4,h5,h6⟩:=r;rcases h6 with ⟨h6,_⟩|⟨b,o,S',rfl,h8,rfl,h9⟩
 ·rw [h6] at h;simp at h
 ·obtain ⟨g1,S2,g2,g3⟩:=h9.at h;exact ⟨b::S2,by simp only [RepD];exact ⟨b,o+i*k,S2,rfl,h8,rfl,g2⟩⟩
section
variable {P:Program} {T:List (Nat×Ty)} (hT:TyOk P T) {dst:Option Tmp} {ty:TypeId} {pos:String} {aft:Array Edge} {g:Option (Nat×Bool)} {s:AState} {α:Type} {k:Nat} {e:α→List AV}
include hT
theorem aBZ {x:Operand} {t et:Nat} {y:Ty} {l:List α} {dty:TypeId} {W:World} {v:Value} {S:List Nat} (r:RepD W (.list k (l.map e)) v S) (hx:s.ev x=some (.sc v)) (hy:bV T t=some y) (hd:y.desc= .slice et):
  AEff P ⟨dst,.call ⟨.builtin .len,#[x],#[t]⟩,dty,pos,aft,g⟩ s.ev s.heap s.kp ⟨.int (l.length:Int),[],[],[]⟩:=
 AEff.pure λC s ν a w hi ht hs=>by
  have h1:=hs.ev ((hi x (by simp [Op.operands,Call.operands])).trans hx);simp only [RepA,RepB,Rep1] at h1;simp only [RepD] at r;obtain ⟨ao,c,h3,h4,h5,h6⟩:=r;rw [h3] at h1;obtain ⟨i1,z1,d1,y1⟩:=hT.is hy;refine ⟨.int .i64 l.length,?_,jG rfl⟩;simp [execOp,resolve,invoke,builtin,Builtin.len_,h1.1,fV (y1.slice hd),goInt]
theorem tF {x ix:Operand} {t et:Nat} {y ye:Ty} {l:List α} {kk:IntKind} {i:Int} {u:α} {W:World} {v:Value} {S:List Nat} (r:RepD W (.list k (l.map e)) v S) (hm:cR l i=some u) (hx:s.ev x=some (.sc v)) (hix:s.ev ix=some (.sc (.int kk i))) (hy:bV T t=some y) (hd:y.desc= .slice et) (hye:bV T et=some ye) (hk:ye.size=k):
  AEff P ⟨dst,.indexAddr t x ix,ty,pos,aft,g⟩ s.ev s.heap s.kp ⟨.sc (qS v k i.toNat),[],[],[]⟩:=
 AEff.pure λC s ν a w hi ht hs=>by
  have h1:=hs.ev ((hi x (by simp [Op.operands])).trans hx);have h2:=hs.ev ((hi ix (by simp [Op.operands])).trans hix);simp only [RepA,RepB,Rep1] at h1 h2;simp only [RepD] at r;obtain ⟨ao,c,h3,h4,h5,h6⟩:=r;have h0:=wD hm;have hlt:=jN hm;rcases h6 with ⟨h6,_⟩|⟨b,o,S',rfl,h8,rfl,h9⟩
  ·have:l=[]:=by simpa using h6
   rw [this] at hlt;simp at hlt
  ·subst h3;obtain ⟨i1,z1,d1,y1⟩:=hT.is hy;obtain ⟨i2,z2,d2,y2⟩:=hT.is hye;refine ⟨.pointer (some ⟨b,o+i.toNat*k,none⟩),?_,by simp only [RepA,RepB,Rep1,qS];exact ⟨trivial,rfl⟩⟩;have hin:(0:Int)≤i∧i<((l.map e).length:Int):=by rw [fD];omega
   simp only [execOp,Instr.indexAt,h1.1,h2.1,asIntOf,Sem.run_bind,Sem.run_pure,Result.andThen_ok,fV (y1.slice hd),Sem.run_ite];rw [bK hin];simp only [Sem.run_bind,Sem.run_pure,Result.andThen_ok,gB y2.info,y2.size,hk];rw [Addr.add_lit]
theorem oG {x:Operand} {t:Nat} {y:Ty} {l:List α} {i:Nat} {u:α} {av:AV} {W:World} {v:Value} {S:List Nat} (r:RepD W (.list k (l.map e)) v S) (hm:l[i]? =some u) (hfx:s.kp.fx=yH W) (hx:s.ev x=some (.sc (qS v k i))) (hy:bV T t=some y) (h1:(y.desc.isAgg||Nat.beq y.size 1)=true) (hn:Nat.ble y.size (e u).length=true) (hpl:((e u).take y.size).all cE=true) (hv:kJ y.desc.isAgg ((e u).take y.size)=av):
  AEff P ⟨dst,.load t x,ty,pos,aft,g⟩ s.ev s.heap s.kp ⟨av,[],[],[]⟩:=by
 obtain ⟨S',hr⟩:=aBY (i:=i) (cs:=e u) r (by rw [List.getElem?_map,hm];rfl);exact hv▸wN hT hfx hr hr.lt hx hy h1 (Nat.le_of_ble_eq_true hn) hpl
end
end
noncomputable section
set_option maxRecDepth 10000
set_option maxHeartbeats 4000000
def eW (a0:Qv) (x1:((List (List Int))×Int)):Option (((List (List Int))×Int) ⊕ (List (List Int))):=
 bif decide (x1.2<(((List.replicate a0.n.toNat ([]:(List Int))).length:Nat):Int)) then
 (bif (decide (0≤a0.n)&&decide (a0.n≤1048576)) then
 ((cR x1.1 x1.2).bind λv2=>
 (cR (List.replicate a0.n.toNat (0:Int)) x1.2).bind λv3=>
 some (.inl ((x1.1.set x1.2.toNat ((List.replicate a0.n.toNat (0:Int)).set x1.2.toNat 2)),wr (x1.2+1))))
 else none)
 else
 (some (.inr x1.1))
def eX (a0:Qv) (x2:((List (List Int))×Int)):Option (((List (List Int))×Int) ⊕ (List (List Int))):=
 bif decide (x2.2<(a0.src.length:Int)) then
 ((cR a0.src x2.2).bind λv7=>
 (cR x2.1 v7).bind λv8=>
 (cR a0.tgt x2.2).bind λv9=>
 (cR v8 v9).bind λv10=>
 (cR v8 v9).bind λv11=>
 (cR a0.tgt x2.2).bind λv12=>
 (cR (x2.1.set v7.toNat (v8.set v9.toNat (wr (v10 - 1)))) v12).bind λv13=>
 (cR v13 v7).bind λv14=>
 (cR v13 v7).bind λv15=>
 some (.inl (((x2.1.set v7.toNat (v8.set v9.toNat (wr (v10 - 1)))).set v12.toNat (v13.set v7.toNat (wr (v14 - 1)))),wr (x2.2+1))))
 else
 (some (.inr x2.1))
def gJ (a0:Qv):Option (List (List Int)):=
 bif (decide (0≤a0.n)&&decide (a0.n≤1048576)) then
 ((Lp (eW a0) ((List.replicate a0.n.toNat ([]:(List Int))),0)).bind λy5=>
 (Lp (eX a0) (y5,0)).bind λy16=>
 some (y16))
 else none
theorem pW (a0:Qv) (r:(List (List Int))) (h:gJ a0=some r):HasC Tryd.prog 45 [.agg (eQ a0)] (.list 1 (r.map (eP 1 eI))):=by
 refine aCh aR (rvs:=[.tmp 2]) (ns:=nmA) Tryd.func45 k k Tryd.ntmps45 k k k (λW=>?_);refine aCf<|aDY<|aCd (λw0_1 S0_1 r0_1=>?_);refine aCd (λw0_2 S0_2 r0_2=>?_);refine aCc<|aCe<|sS<|se (wb k) k<|saS k2<|sn<|tn<|sS<|fpS k8<|lpS k8<|cG h λq17 h=>se (sV aR q17 k k k k k k k k) k<|saS k2<|sn<|tn<|aM (t:=mN [(1,.ptr 0 0 0),(3,.own 1 0 ((List.replicate a0.n.toNat ([]:(List Int))).length))] [(0,⟨3,[[.int a0.n,.sc w0_1,.sc w0_2]]⟩),(1,⟨1,List.map (ow (eP 1 eI)) (List.replicate a0.n.toNat ([]:(List Int)))⟩)] 2 ⟨0,true,yH W,true⟩) (bT (mI 1 k2 (lQ ⟨_,k,⟨k,k,(by simp only [aZ,lA,lT,lR,lC,lN]),k⟩⟩ bA)) (cK k<|hX ⟨_,k,k,.inr (aBQ _)⟩ k<|bA) k4)<|sQ<|sS<|zG k2<|se (gF aR k k k k) k<|zG k2<|sn<|tn<|aD<|oB h λy5 hy5 h=>cJ (body:=(eW a0)) hy5 (λ(x1:((List (List Int))×Int))=>mN [(1,.ptr 0 0 0),(3,.own 1 0 x1.1.length),(11,.int (((List.replicate a0.n.toNat ([]:(List Int))).length:Nat):Int)),(12,.int x1.2)] [(0,⟨3,[[.int a0.n,.sc w0_1,.sc w0_2]]⟩),(1,⟨1,x1.1.map (ow (eP 1 eI))⟩)] 2 ⟨0,true,yH W,true⟩) (λr e t=>e= .exit 0∧Ent t (mN [(1,.ptr 0 0 0),(3,.own 1 0 r.length)] [(0,⟨3,[[.int a0.n,.sc w0_1,.sc w0_2]]⟩),(1,⟨1,r.map (ow (eP 1 eI))⟩)] 2 ⟨0,true,yH W,true⟩)) (bT (bM k2) (cK k<|gG (bS.plainO _) k<|bA) k4) ?_ ?_
 ·intro x1 o h;refine sS<|cmS k4<|sn<|tn<|sQ<|dI k h (λ_ h=>?_) λ_ h=>aU<|aA<|aA<|sp h ⟨_,k,k,(bT (bM k2) (cK k<|gG (bS.plainO _) k<|bA) k4)⟩;refine aC<|tn<|sQ<|aD<|sS<|zG k2<|saS k2<|sn<|tn<|sS<|zG k2<|zG k2<|fpS k8<|lpS k8<|cG h λq4 h=>se (sV aR q4 k k k k k k k k) k<|oB h λv2 hv2 h=>se (xo hv2 k) k<|se (wB aR k k k k k k (zP (dR hv2)) k) k<|sn<|tn<|aM (t:=mN [(1,.ptr 0 0 0),(3,.own 1 0 x1.1.length),(4,.int x1.2),(11,.int (((List.replicate a0.n.toNat ([]:(List Int))).length:Nat):Int)),(12,.int x1.2)] [(0,⟨3,[[.int a0.n,.sc w0_1,.sc w0_2]]⟩),(1,⟨1,(x1.1.map (ow (eP 1 eI))).set x1.2.toNat [.own 2 0 ((List.replicate a0.n.toNat (0:Int)).length)]⟩),(2,⟨1,List.map (ow eI) (List.replicate a0.n.toNat (0:Int))⟩)] 3 ⟨0,true,yH W,true⟩) (kE (σ:=sg [(0,0),(1,1),(2,2)]) (bM k2) (cK k<|hX ⟨_,k,k,.inr (wJ (σ:=sg [(0,0),(1,1),(2,2)]) (m:=3) (e:=(eP 1 eI)) (l:=x1.1) (i:=x1.2.toNat) (c:=[.own 2 0 a0.n.toNat]) (d:=[.own 2 0 ((List.replicate a0.n.toNat (0:Int)).length)]) bS ⟨_,_,k,⟨k,k,(by simp only [aZ,lA,lT,lR,lC,lN]),k⟩,k⟩)⟩ k<|hX ⟨_,k,k,.inl ⟨wH (e:=eI) (z:=0) _,kQ.plainO _⟩⟩ k<|bA) k)<|rgS<|zG k2<|zG k2<|se (xo hv2 k) k<|se (iC aR k k k k (zX (jN hv2)) k k) k<|zG k2<|oB h λv3 hv3 h=>se (xo hv3 k) k ?_;exact se (jI aR jO (u:=2) (dR hv3) k k k k k k) k<|sn<|aL<|tn<|aM (t:=mN [(1,.ptr 0 0 0),(3,.own 1 0 ((x1.1.set x1.2.toNat ((List.replicate a0.n.toNat (0:Int)).set x1.2.toNat 2)).length)),(11,.int (((List.replicate a0.n.toNat ([]:(List Int))).length:Nat):Int)),(12,.int x1.2)] [(0,⟨3,[[.int a0.n,.sc w0_1,.sc w0_2]]⟩),(1,⟨1,List.map (ow (eP 1 eI)) (x1.1.set x1.2.toNat ((List.replicate a0.n.toNat (0:Int)).set x1.2.toNat 2))⟩)] 3 ⟨0,true,yH W,true⟩) (Ent.trans (sT (b:=1) (b':=2) (j:=0) (es':=List.map eI ((List.replicate a0.n.toNat (0:Int)).set x1.2.toNat 2)) (by rw [fD];exact jN hv2) k k k k (by simp only [aZ,lA,lT,lR,lC,lN]) (kQ.frzs _)) (bT (mI 1 k2 (lQ ⟨_,k,⟨k,k,(by simp only [aZ,lA,lT,lR,lC,lN]),k⟩⟩ (bM k2))) (cK k<|hX ⟨_,k,k,.inl ⟨zY ((List.replicate a0.n.toNat (0:Int)).set x1.2.toNat 2) k,bS.plainO _⟩⟩ k<|bA) k4))<|rgS<|se (bJ k k) k<|zG k2<|sn<|tn<|sp h ⟨_,k,(bT (bM k2) (cK k<|gG (bS.plainO _) k<|bA) k4)⟩
 ·rintro e t ⟨rfl,hent⟩;refine aN<|tn<|aM hent<|sQ<|sS<|fpS k8<|lpS k8<|se (aBZ aR r0_1 k k k) k<|zG k2<|sn<|tn<|aD<|oB h λy16 hy16 h=>cJ (body:=(eX a0)) hy16 (λ(x2:((List (List Int))×Int))=>mN [(1,.ptr 0 0 0),(3,.own 1 0 x2.1.length),(29,.sc w0_1),(30,.int (a0.src.length:Int)),(31,.int x2.2)] [(0,⟨3,[[.int a0.n,.sc w0_1,.sc w0_2]]⟩),(1,⟨1,x2.1.map (ow (eP 1 eI))⟩)] 2 ⟨0,true,yH W,true⟩) (λr e t=>e= .exit 2∧Ent t (mN [(3,.own 0 0 r.length)] [(0,⟨1,r.map (ow (eP 1 eI))⟩)] 1 ⟨0,true,yH W,true⟩)) (bT (bM k2) (cK k<|gG (bS.plainO _) k<|bA) k4) ?_ ?_
  ·intro x2 o h;refine sS<|cmS k4<|sn<|tn<|sQ<|dI k h (λ_ h=>?_) λ_ h=>aU<|aA<|aA<|sp h ⟨_,k,k,(pV [1] (bM k2) (gG (bS.plainO _) k<|bA) k4)⟩;refine aC<|tn<|sQ<|aD<|sS<|zG k2<|oB h λv7 hv7 h=>se (tF aR r0_1 hv7 k k k k k k) k<|se (oG aR r0_1 (dR hv7) k k k k k k k) k<|saS k2<|saS k2<|sn<|tn<|sQ<|oB h λv8 hv8 h=>aM (t:=mN [(1,.ptr 0 0 0),(3,.own 1 0 x2.1.length),(5,.int x2.2),(6,.int v7),(29,.sc w0_1),(30,.int (a0.src.length:Int)),(31,.int x2.2),(32,.bl (decide (x2.2<(a0.src.length:Int)))),(33,.int x2.2),(34,.sc (qS w0_1 1 x2.2.toNat)),(35,.int v7)] [(0,⟨3,[[.int a0.n,.sc w0_1,.sc w0_2]]⟩),(1,⟨1,(x2.1.map (ow (eP 1 eI))).set v7.toNat [.abs 1 (v8.map eI)]⟩)] 2 ⟨0,true,yH W,true⟩) (bT (bM k2) (cK k<|hX ⟨_,k,k,.inl ⟨yJ (dR hv8),vG bS k⟩⟩ k<|bA) k4)<|aM (vH (b:=1) (c:=2) (i:=v7.toNat) (j:=0) (n:=v8.length) (A:=x2.1.map (ow (eP 1 eI))) (fs:=v8.map (ow eI)) (by rw [fD];exact jN hv8) k k k k (aZ _ _) (pA _ _) (aAF ⟨k,k,k,k,k,k,k,k,k,k,k,bA⟩) (aAG (skip:=[]) ⟨.inr (aCi k),.inr (bS.dfS _ _ _ k),bA⟩))<|aM (t:=mN [(1,.ptr 0 0 0),(3,.own 1 0 x2.1.length),(5,.int x2.2),(6,.int v7),(29,.sc w0_1),(30,.int (a0.src.length:Int)),(31,.int x2.2),(32,.bl (decide (x2.2<(a0.src.length:Int)))),(33,.int x2.2),(34,.sc (qS w0_1 1 x2.2.toNat)),(35,.int v7)] [(0,⟨3,[[.int a0.n,.sc w0_1,.sc w0_2]]⟩),(1,⟨1,(x2.1.map (ow (eP 1 eI))).set v7.toNat [.own 2 0 v8.length]⟩),(2,⟨1,v8.map (ow eI)⟩)] 3 ⟨0,true,yH W,true⟩) (kE (σ:=sg [(0,0),(1,1),(2,2)]) (bM k2) (cK k<|hX ⟨_,k,k,.inr (wJ (σ:=sg [(0,0),(1,1),(2,2)]) (m:=3) (e:=(eP 1 eI)) (l:=x2.1) (i:=v7.toNat) (c:=[.own 2 0 v8.length]) (d:=[.own 2 0 v8.length]) bS ⟨_,_,k,⟨k,k,k,k⟩,k⟩)⟩ k<|dQ k<|bA) k)<|aW lG<|am k k<|am k k<|ae (xo hv8 k) k<|ae (iC aR k k k k (zX (jN hv8)) k k) k<|fp k8<|lp k8<|am k k<|oB h λv9 hv9 h=>ae (tF aR r0_2 hv9 k k k k k k) k<|ae (oG aR r0_2 (dR hv9) k k k k k k k) k<|oB h λv10 hv10 h=>ae (xo hv10 k) k<|ae (wp hv10 k) k ?_;refine ae (iQ k k) k<|oB h λv11 hv11 h=>ae (xo hv11 k) k<|ae (jI aR jO (u:=wr (v10 - 1)) (dR hv11) k k k k k k) k<|an<|qW (by kernel_rfl)<|tn<|aM (t:=mN [(1,.ptr 0 0 0),(3,.own 1 0 ((x2.1.set v7.toNat (v8.set v9.toNat (wr (v10 - 1)))).length)),(5,.int x2.2),(6,.int v7),(29,.sc w0_1),(30,.int (a0.src.length:Int)),(31,.int x2.2)] [(0,⟨3,[[.int a0.n,.sc w0_1,.sc w0_2]]⟩),(1,⟨1,List.map (ow (eP 1 eI)) (x2.1.set v7.toNat (v8.set v9.toNat (wr (v10 - 1))))⟩)] 3 ⟨0,true,yH W,true⟩) (Ent.trans (sT (b:=1) (b':=2) (j:=0) (es':=List.map eI (v8.set v9.toNat (wr (v10 - 1)))) (by rw [fD];exact jN hv8) k k k k (by simp only [aZ,lA,lT,lR,lC,lN]) (kQ.frzs _)) (bT (mI 1 k2 (lQ ⟨_,k,⟨k,k,(by simp only [aZ,lA,lT,lR,lC,lN]),k⟩⟩ (bM k2))) (cK k<|hX ⟨_,k,k,.inl ⟨zY (v8.set v9.toNat (wr (v10 - 1))) k,bS.plainO _⟩⟩ k<|bA) k4))<|rgS<|zG k2<|fpS k8<|lpS k8<|zG k2<|oB h λv12 hv12 h=>se (tF aR r0_2 hv12 k k k k k k) k<|se (oG aR r0_2 (dR hv12) k k k k k k k) k<|oB h λv13 hv13 h=>sZ (t:=mN [(1,.ptr 0 0 0),(3,.own 1 0 ((x2.1.set v7.toNat (v8.set v9.toNat (wr (v10 - 1)))).length)),(5,.int x2.2),(6,.int v7),(29,.sc w0_1),(30,.int (a0.src.length:Int)),(31,.int x2.2),(49,.own 1 0 ((x2.1.set v7.toNat (v8.set v9.toNat (wr (v10 - 1)))).length)),(50,.ptr 0 0 2),(51,.sc w0_2),(52,.int x2.2),(53,.sc (qS w0_2 1 x2.2.toNat)),(54,.int v12)] [(0,⟨3,[[.int a0.n,.sc w0_1,.sc w0_2]]⟩),(1,⟨1,(List.map (ow (eP 1 eI)) (x2.1.set v7.toNat (v8.set v9.toNat (wr (v10 - 1))))).set v12.toNat [.abs 1 (v13.map eI)]⟩)] 3 ⟨0,true,yH W,true⟩) (bT (bM k2) (cK k<|hX ⟨_,k,k,.inl ⟨yJ (dR hv13),vG bS k⟩⟩ k<|bA) k4)<|sZ (vH (b:=1) (c:=3) (i:=v12.toNat) (j:=0) (n:=v13.length) (A:=List.map (ow (eP 1 eI)) (x2.1.set v7.toNat (v8.set v9.toNat (wr (v10 - 1))))) (fs:=v13.map (ow eI)) (by rw [fD];exact jN hv13) k k k k (aZ _ _) (pA _ _) (aAF ⟨k,k,k,k,k,k,k,k,k,k,k,k,k,bA⟩) (aAG (skip:=[]) ⟨.inr (aCi k),.inr (bS.dfS _ _ _ k),bA⟩))<|sZ (t:=mN [(1,.ptr 0 0 0),(3,.own 1 0 ((x2.1.set v7.toNat (v8.set v9.toNat (wr (v10 - 1)))).length)),(5,.int x2.2),(6,.int v7),(29,.sc w0_1),(30,.int (a0.src.length:Int)),(31,.int x2.2),(49,.own 1 0 ((x2.1.set v7.toNat (v8.set v9.toNat (wr (v10 - 1)))).length)),(50,.ptr 0 0 2),(51,.sc w0_2),(52,.int x2.2),(53,.sc (qS w0_2 1 x2.2.toNat)),(54,.int v12)] [(0,⟨3,[[.int a0.n,.sc w0_1,.sc w0_2]]⟩),(1,⟨1,(List.map (ow (eP 1 eI)) (x2.1.set v7.toNat (v8.set v9.toNat (wr (v10 - 1))))).set v12.toNat [.own 3 0 v13.length]⟩),(3,⟨1,v13.map (ow eI)⟩)] 4 ⟨0,true,yH W,true⟩) (kE (σ:=sg [(0,0),(1,1),(3,3)]) (bM k2) (cK k<|hX ⟨_,k,k,.inr (wJ (σ:=sg [(0,0),(1,1),(3,3)]) (m:=4) (e:=(eP 1 eI)) (l:=(x2.1.set v7.toNat (v8.set v9.toNat (wr (v10 - 1))))) (i:=v12.toNat) (c:=[.own 3 0 v13.length]) (d:=[.own 3 0 v13.length]) bS ⟨_,_,k,⟨k,k,k,k⟩,k⟩)⟩ k<|dQ k<|bA) k)<|se (xo hv13 k) k<|se (iC aR k k k k (zX (jN hv13)) k k) k<|zG k2<|oB h λv14 hv14 h=>se (xo hv14 k) k<|se (wp hv14 k) k<|se (iQ k k) k<|oB h λv15 hv15 h=>se (xo hv15 k) k<|se (jI aR jO (u:=wr (v14 - 1)) (dR hv15) k k k k k k) k<|sn<|aL<|tn<|aM (t:=mN [(1,.ptr 0 0 0),(3,.own 1 0 (((x2.1.set v7.toNat (v8.set v9.toNat (wr (v10 - 1)))).set v12.toNat (v13.set v7.toNat (wr (v14 - 1)))).length)),(29,.sc w0_1),(30,.int (a0.src.length:Int)),(31,.int x2.2)] [(0,⟨3,[[.int a0.n,.sc w0_1,.sc w0_2]]⟩),(1,⟨1,List.map (ow (eP 1 eI)) ((x2.1.set v7.toNat (v8.set v9.toNat (wr (v10 - 1)))).set v12.toNat (v13.set v7.toNat (wr (v14 - 1))))⟩)] 4 ⟨0,true,yH W,true⟩) (Ent.trans (sT (b:=1) (b':=3) (j:=0) (es':=List.map eI (v13.set v7.toNat (wr (v14 - 1)))) (by rw [fD];exact jN hv13) k k k k (by simp only [aZ,lA,lT,lR,lC,lN]) (kQ.frzs _)) (bT (mI 1 k2 (lQ ⟨_,k,⟨k,k,(by simp only [aZ,lA,lT,lR,lC,lN]),k⟩⟩ (bM k2))) (cK k<|hX ⟨_,k,k,.inl ⟨zY (v13.set v7.toNat (wr (v14 - 1))) k,bS.plainO _⟩⟩ k<|bA) k4))<|rgS ?_;exact se (bJ k k) k<|zG k2<|sn<|tn<|sp h ⟨_,k,(bT (bM k2) (cK k<|gG (bS.plainO _) k<|bA) k4)⟩
  ·rintro e t ⟨rfl,hent⟩;exact aN<|tn<|aM hent<|sS<|zG k2<|saS k2<|sn<|tn<|aG<|sp h (aX k k k (hJ (oD bS k k)))
def cV (v6:(List Int)) (x1:(Int×Int)) (x3:((List Int)×Int)):Option (((List Int)×Int) ⊕ (List Int)):=
 bif decide (x3.2<(v6.length:Int)) then
 ((cR v6 x3.2).bind λv9=>
 bif !decide (x3.2<0) then
 (bif decide (aAI (aAH x1.2 x3.2) 1=1) then
 (bif decide (x3.1.length+[v9].length ≤4294967296) then
 (some (.inl ((x3.1++[v9]),wr (x3.2+1))))
 else none)
 else
 (some (.inl (x3.1,wr (x3.2+1)))))
 else none)
 else
 (some (.inr x3.1))
def cW (v3:(List (List Int))) (x1:(Int×Int)) (x2:(Int×(List (List Int)))):Option ((Int×(List (List Int))) ⊕ (List (List Int))):=
 bif decide (x2.1<((v3.length:Nat):Int)) then
 ((cR v3 x2.1).bind λv6=>
 bif !decide (x2.1<0) then
 (bif decide (aAI (aAH x1.2 x2.1) 1=0) then
 (some (.inl (wr (x2.1+1),x2.2)))
 else
 ((Lp (cV v6 x1) ([],0)).bind λy13=>
 bif decide (x2.2.length+1≤4294967296) then
 (some (.inl (wr (x2.1+1),(x2.2++[y13]))))
 else none))
 else none)
 else
 (some (.inr x2.2))
def dU (a0:Qv) (v3:(List (List Int))) (x1:(Int×Int)):Option ((Int×Int) ⊕ (Int ⊕ Int)):=
 bif !decide (a0.n<0) then
 (bif decide (x1.2<aCk 1 a0.n) then
 ((Lp (cW v3 x1) (0,[])).bind λy16=>
 (dC 8 y16).bind λv17=>
 bif decide (v17<0) then
 (some (.inr (.inr (3))))
 else
 (bif decide (v17=0) then
 (some (.inl (2,wr (x1.2+1))))
 else
 (some (.inl (x1.1,wr (x1.2+1))))))
 else
 (some (.inr (.inl x1.1))))
 else none
def eY (a0:Qv):Option Int:=
 (cB a0).bind λv1=>
 bif !v1 then
 (some (0))
 else
 ((gJ a0).bind λv3=>
 (Lp (dU a0 v3) (1,1)).bind λy21=>
 Sum.elim (λy22=>
 some (y22)
 )
 (λy23=>
 some y23
 )
 y21)
theorem nI (a0:Qv) (r:Int) (h:eY a0=some r):HasC Tryd.prog 27 [.agg (eQ a0)] (.int r):=by
 refine hM [.tmp 2] Tryd.func27 Tryd.ntmps27 k<|sR<|ae (wb k) k<|aT k2<|sQ<|sR<|lp k8<|oB h λv1 hv1 h=>ae (aE (dP a0 v1 hv1) k (aP (lI k) aH)) k<|ae (eE k) k<|an<|tn<|dI k h (λ_ h=>sR<|aT k2<|aG<|aI<|rtI h k2) λ_ h=>?_;refine aC<|tn<|sR<|aT k2<|sR<|lp k8<|oB h λv3 hv3 h=>ae (cL bS (pW a0 v3 hv3) k3 (aP (lI k) aH)) k<|aT k2<|sQ<|sR<|aT k2<|aD<|oB h λy21 hy21 h=>cJ (body:=(dU a0 v3)) hy21 (λ(x1:(Int×Int))=>mN [(1,.ptr 0 0 0),(3,.int x1.1),(4,.own 1 0 v3.length),(5,.int x1.2)] [(0,⟨3,[eQ a0]⟩),(1,⟨1,v3.map (ow (eP 1 eI))⟩)] 2) (λr e t=>Sum.elim (λa=>(λr e t=>e= .exit 0∧Ent t (mN [(3,.int r)] [] 0)) a e t) (λb=>(λr e t=>e= .ret∧nG TT [.tmp 2] (.int r) .ret t) b e t) r) (bT (bM k2) (cK k<|gG (bS.plainO _) k<|bA) k4) ?_ ?_
 ·intro x1 o h;refine sQ<|sR<|am k k<|fp k8<|lp k8<|cG h λq20 h=>ae (aDj k k q20) k<|cm k4<|an<|tn<|dI k h (λ_ h=>?_) λ_ h=>aU<|aA<|aA<|sp h ⟨_,k,k,(bT (bM k2) bA k4)⟩;refine aC<|tn<|sQ<|aD<|sR<|aT k2<|sQ<|sR<|am k k<|ae (gF aR k k k k) k<|am k k<|an<|tn<|aD<|oB h λy16 hy16 h=>cJ (body:=(cW v3 x1)) hy16 (λ(x2:(Int×(List (List Int))))=>mN [(1,.ptr 0 0 0),(3,.int x1.1),(4,.own 1 0 v3.length),(5,.int x1.2),(6,.own 2 0 x2.2.length),(25,.own 1 0 v3.length),(26,.int ((v3.length:Nat):Int)),(27,.int x2.1)] [(0,⟨3,[eQ a0]⟩),(1,⟨1,v3.map (ow (eP 1 eI))⟩),(2,⟨1,x2.2.map (ow (eP 1 eI))⟩)] 3) (λr e t=>e= .exit 2∧Ent t (mN [(1,.ptr 0 0 0),(3,.int x1.1),(4,.own 1 0 v3.length),(5,.int x1.2),(6,.own 2 0 r.length)] [(0,⟨3,[eQ a0]⟩),(1,⟨1,v3.map (ow (eP 1 eI))⟩),(2,⟨1,r.map (ow (eP 1 eI))⟩)] 3)) (kE (σ:=sg [(0,0),(1,1)]) (mI 4 k2 (lQ ⟨_,k,⟨k,k,k,k⟩⟩ (bM k2))) (cK k<|gG (bS.plainO _) k<|hX k k<|bA) k) ?_ ?_
  ·intro x2 o h;refine sR<|cm k4<|an<|tn<|sQ<|dI k h (λ_ h=>?_) λ_ h=>aU<|aA<|aA<|sp h ⟨_,k,k,(bT (bM k2) (cK k<|gG (bS.plainO _) k<|gG (bS.plainO _) k<|bA) k4)⟩;refine aC<|tn<|sQ<|aD<|sR<|am k k<|oB h λv6 hv6 h=>ae (xo hv6 k) k<|ae (wp hv6 k) k<|aa k k<|aT k2<|sQ<|sR<|am k k<|am k k<|cG h λq15 h=>ae (aAn k k q15) k<|ae (aAo k k) k<|cm k4<|an<|tn<|dI k h (λ_ h=>aU<|aA<|aN<|tn<|rg<|ae (bJ k k) k<|am k k<|an<|tn<|sp h ⟨_,k,(bT (bM k2) (cK k<|gG (bS.plainO _) k<|gG (bS.plainO _) k<|bA) k4)⟩) λ_ h=>?_;refine aC<|tn<|sR<|aT k2<|sQ<|sR<|am k k<|ln k4<|am k k<|an<|tn<|aD<|oB h λy13 hy13 h=>cJ (body:=(cV v6 x1)) hy13 (λ(x3:((List Int)×Int))=>mN [(1,.ptr 0 0 0),(3,.int x1.1),(4,.own 1 0 v3.length),(5,.int x1.2),(6,.own 2 0 x2.2.length),(9,.own 3 0 x3.1.length),(25,.own 1 0 v3.length),(26,.int ((v3.length:Nat):Int)),(27,.int x2.1),(37,.list 1 (v6.map eI)),(38,.int (v6.length:Int)),(39,.int x3.2)] [(0,⟨3,[eQ a0]⟩),(1,⟨1,v3.map (ow (eP 1 eI))⟩),(2,⟨1,x2.2.map (ow (eP 1 eI))⟩),(3,⟨1,x3.1.map (ow eI)⟩)] 4) (λr e t=>e= .exit 4∧Ent t (mN [(1,.ptr 0 0 0),(3,.int x1.1),(4,.own 1 0 v3.length),(5,.int x1.2),(6,.own 2 0 x2.2.length),(9,.own 3 0 r.length),(25,.own 1 0 v3.length),(26,.int ((v3.length:Nat):Int)),(27,.int x2.1)] [(0,⟨3,[eQ a0]⟩),(1,⟨1,v3.map (ow (eP 1 eI))⟩),(2,⟨1,x2.2.map (ow (eP 1 eI))⟩),(3,⟨1,r.map (ow eI)⟩)] 4)) (kE (σ:=sg [(0,0),(1,1),(2,2)]) (mI 5 k2 (lQ ⟨_,k,⟨k,k,k,k⟩⟩ (bM k2))) (cK k<|gG (bS.plainO _) k<|gG (bS.plainO _) k<|hX k k<|bA) k) ?_ ?_
   ·intro x3 o h;exact sR<|cm k4<|an<|tn<|sQ<|dI k h (λ_ h=>aC<|tn<|sQ<|aD<|sR<|am k k<|oB h λv9 hv9 h=>ae (xl hv9 k) k<|lr k7<|aa k k<|aT k2<|sR<|am k k<|am k k<|cG h λq12 h=>ae (aAn k k q12) k<|ae (aAo k k) k<|cm k4<|an<|tn<|dI k h (λ_ h=>rg<|am k k<|am k k<|ae (wl k) k<|cG h λq11 h=>ae (iR aR (l:=x3.1) (m:=[v9]) jO q11 k k k k k k k k k k k k) k<|aa k k<|an<|aL<|tn<|rg<|ae (bJ k k) k<|am k k<|an<|tn<|sp h ⟨_,k,(pV [0,1,2,5] (bM k2) (cK k<|gG (bS.plainO _) k<|gG (bS.plainO _) k<|dQ k<|bA) k4)⟩) λ_ h=>aC<|aL<|tn<|rg<|ae (bJ k k) k<|am k k<|an<|tn<|sp h ⟨_,k,(bT (bM k2) (cK k<|gG (bS.plainO _) k<|gG (bS.plainO _) k<|dQ k<|bA) k4)⟩) λ_ h=>aU<|aA<|aA<|sp h ⟨_,k,k,(bT (bM k2) (cK k<|gG (bS.plainO _) k<|gG (bS.plainO _) k<|dQ k<|bA) k4)⟩
   ·rintro e t ⟨rfl,hent⟩;exact aN<|tn<|aM hent<|rg<|am k k<|am k k<|ae (wl k) k<|cG h λq14 h=>ae (sW aR (l:=x2.2) (c:=[.own 3 0 y13.length]) q14 k k k k k k k k k k k k k k) k<|aa k k<|an<|aL<|tn<|aM (t:=mN [(1,.ptr 0 0 0),(3,.int x1.1),(4,.own 1 0 v3.length),(5,.int x1.2),(6,.own 5 0 ((x2.2++[y13]).length)),(25,.own 1 0 v3.length),(26,.int ((v3.length:Nat):Int)),(27,.int x2.1)] [(0,⟨3,[eQ a0]⟩),(1,⟨1,v3.map (ow (eP 1 eI))⟩),(5,⟨1,List.map (ow (eP 1 eI)) (x2.2++[y13])⟩)] 6) (Ent.trans (mH (b:=5) (b':=3) (j:=0) (es':=y13.map eI) k k k k (aZ _ _) (kQ.frzs _)) (bT (mI 4 k2 (lQ ⟨_,k,⟨k,k,(by simp only [aZ,lA,lT,lR,lC,lN]),k⟩⟩ (bM k2))) (cK k<|gG (bS.plainO _) k<|hX ⟨_,k,k,.inl ⟨sX y13 k,bS.plainO _⟩⟩ k<|bA) k4))<|rg<|ae (bJ k k) k<|am k k<|an<|tn<|sp h ⟨_,k,(pV [0,1,5] (bM k2) (cK k<|gG (bS.plainO _) k<|gG (bS.plainO _) k<|bA) k4)⟩
  ·rintro e t ⟨rfl,hent⟩;exact aN<|tn<|aM hent<|sR<|am k k<|oB h λv17 hv17 h=>ae (aE (jP 8 y16 v17 hv17) k (aP (uE bS k k) aH)) k<|aT k2<|aD<|sR<|am k k<|cm k4<|aT k2<|dI k h (λ_ h=>sR<|aT k2<|aG<|bN<|bN<|aI<|aI<|sp h ⟨_,k,k,aX k k k (sN k)⟩) λ_ h=>sR<|am k k<|cm k4<|aT k2<|dI k h (λ_ h=>rg<|aa k k<|an<|aL<|aL<|tn<|rg<|am k k<|ae (bJ k k) k<|aT k2<|sp h ⟨_,k,(bT (bM k2) (cK k<|gG (bS.plainO _) k<|bA) k4)⟩) λ_ h=>aC<|aL<|aL<|tn<|rg<|am k k<|ae (bJ k k) k<|aT k2<|sp h ⟨_,k,(bT (bM k2) (cK k<|gG (bS.plainO _) k<|bA) k4)⟩
 ·intro e t hX;rcases y21 with y22|y23
  ·obtain ⟨rfl,hent⟩:=hX;exact aN<|tn<|aM hent<|sR<|am k k<|aT k2<|aG<|rtI h k2
  ·obtain ⟨rfl,hent⟩:=hX;exact bN<|aI<|sp h hent
end
noncomputable section
def iJ {α:Type} (n:Nat) (f:Nat→α):List α:=(List.range n).map f
theorem jC {α:Type} (n:Nat) (f:Nat→α):(iJ n f).length=n:=by simp [iJ]
theorem tG {α:Type} {n:Nat} {f:Nat→α} {w:Nat} (h:w<n):(iJ n f)[w]? =some (f w):=by simp [iJ,h]
theorem fY {α:Type} {n:Nat} {f:Nat→α} {w:Nat} (h:w<n):cR (iJ n f) (w:Int)=some (f w):=by simp [cR,tG h]
theorem dD {α:Type} {n:Nat} {f g:Nat→α} (h: ∀ i,i<n→f i=g i):iJ n f=iJ n g:=rQ λi hi=>h i (List.mem_range.1 hi)
theorem gD {α:Type} {n:Nat} (f:Nat→α) (a:Nat) (y:α):(iJ n f).set a y=iJ n λw=>if w=a then y else f w:=by
 refine List.ext_getElem (by simp [iJ]) λi h1 h2=>?_;simp only [iJ,List.getElem_set,List.getElem_map,List.getElem_range];by_cases e:a=i
 ·simp [e]
 ·simp [e,show ¬ i=a from λh=>e h.symm]
theorem kT {α:Type} (n:Nat) (z:α):List.replicate n z=iJ n λ_=>z:=by
 refine List.ext_getElem (by simp [iJ]) λi h1 h2=>by simp [iJ]
def jK (n:Nat) (F:Nat→Nat→Int):List (List Int):=iJ n λv=>iJ n (F v)
theorem tH {n:Nat} {F:Nat→Nat→Int} {v w:Nat} (hv:v<n) (hw:w<n):aCQ (jK n F) v w=F v w:=by
 unfold aCQ jK;rw [tG hv,jR,tG hw,jR]
def hit (q:Qv) (i v w:Nat):Int:=if gx q.src i=(v:Int)∧gx q.tgt i=(w:Int) then 1 else 0
def yR (q:Qv) (k v w:Nat):Int:=aBX k λi=>hit q i v w
def mF (q:Qv) (k v w:Nat):Int:=(if v=w then 2 else 0) - yR q k v w - yR q k w v
theorem aAK (q:Qv): ∀ k v w,0≤yR q k v w∧yR q k v w≤k
 |0,v,w=>by simp [yR,aBX]
 |k+1,v,w=>by
  have:=aAK q k v w;unfold yR at this ⊢;simp only [aBX];have:0≤hit q k v w∧hit q k v w≤1:=by unfold hit;split <;> omega
  omega
theorem aDo (q:Qv) {k:Nat} (hk:k≤6) (v w:Nat): -12≤mF q k v w∧mF q k v w≤2:=by
 have h1:=aAK q k v w;have h2:=aAK q k w v;unfold mF;split <;> omega
theorem lK (q:Qv) (k v w:Nat):mF q (k+1) v w=mF q k v w - hit q k v w - hit q k w v:=by
 unfold mF yR;simp only [aBX];omega
def pX (q:Qv) (n:Nat):List (List Int):=jK n (mF q q.src.length)
structure QOk (q:Qv) (n:Nat):Prop where
 bq:bQ q
 qv:nT q=true
 n0:q.n=n
 n1:1≤n
 n5:n≤5
 eq:q.src.length=q.tgt.length
 m6:q.src.length≤6
 src: ∀ x∈q.src,0≤x∧x<n
 tgt: ∀ x∈q.tgt,0≤x∧x<n
theorem qok {q:Qv} (hb:bQ q) (h:nT q=true): ∃ n,QOk q n:=by
 obtain ⟨n,h1,h2,h3,h4,h5,h6,h7⟩:=yQ h;exact ⟨n,hb,h,h1,h2,h3,h4,h5,h6,h7⟩
theorem QOk.arrow {q:Qv} {n:Nat} (Q:QOk q n) {i:Nat} (hi:i<q.src.length): ∃ s t:Nat,s<n∧t<n∧gx q.src i=s∧gx q.tgt i=t∧cR q.src (i:Int)=some (s:Int)∧cR q.tgt (i:Int)=some (t:Int):=by
 have hi2:i<q.tgt.length:=by rw [←Q.eq];exact hi
 have h1:=Q.src _ (wP hi);have h2:=Q.tgt _ (wP hi2);refine ⟨(gx q.src i).toNat,(gx q.tgt i).toNat,by omega,by omega,by omega,by omega,?_,?_⟩
 ·rw [atG 0 hi];show some (gx q.src i)=_;rw [Int.toNat_of_nonneg h1.1]
 ·rw [atG 0 hi2];show some (gx q.tgt i)=_;rw [Int.toNat_of_nonneg h2.1]
theorem iK {q:Qv} {i s t:Nat} (hs:gx q.src i=s) (ht:gx q.tgt i=t) (v w:Nat):hit q i v w=if v=s∧w=t then 1 else 0:=by
 unfold hit;rw [hs,ht];by_cases e:v=s∧w=t
 ·rw [bK e,bK (by omega)]
 ·rw [aY e,aY (by omega)]
theorem aBa {q:Qv} {n:Nat} (Q:QOk q n) {x1:List (List Int)×Int} {v:Nat} (hx:x1.2=(v:Int)):Lp (cM q x1) (iJ n (mF q 0 v),0)=some (iJ n (mF q q.src.length v)):=by
 have m6:=Q.m6;refine gV (λk=>(iJ n (mF q k v),(k:Int))) q.src.length rfl (λk hk=>?_) (λ_=>?_)
 ·unfold cM;simp only;obtain ⟨s,t,hs,ht,e1,e2,e3,e4⟩:=Q.arrow hk;have bs:=λw=>aDo q (k:=k) (by omega) v w;rw [mE hk,aF,e3,aB,hx,cF hk (by omega)];by_cases c1:s=v
  ·subst c1;rw [aS (by rfl),aF];simp only [e4,e3,aB,fY ht,fR];rw [gD,eT (by have:=bs t;omega)];by_cases c2:t=s
   ·subst c2;rw [aS (by rfl),aF];simp only [fY hs,bK rfl,aB];rw [gD,eT (by have:=bs t;omega)];congr 3;refine dD λw hw=>?_;rw [lK,iK e1 e2,iK e1 e2];by_cases c:w=t
    ·subst c;simp <;> omega
    ·simp [c]
   ·rw [bX (by omega),aJ];congr 3;refine dD λw hw=>?_;rw [lK,iK e1 e2,iK e1 e2];by_cases c:w=t
    ·subst c;simp [c2,show ¬ s=w from λh=>c2 h.symm]
    ·simp [c,show ¬ s=t from λh=>c2 h.symm]
  ·rw [bX (by omega),aJ];simp only [e4,e3,aB];by_cases c2:t=v
   ·subst c2;rw [aS (by rfl),aF];simp only [fY hs,aB,fR];rw [gD,eT (by have:=bs s;omega)];congr 3;refine dD λw hw=>?_;rw [lK,iK e1 e2,iK e1 e2];by_cases c:w=s
    ·subst c;simp [c1,show ¬ t=w from λh=>c1 h.symm]
    ·simp [c,show ¬ t=s from λh=>c1 h.symm]
   ·rw [bX (by omega),aJ];congr 3;refine dD λw hw=>?_;rw [lK,iK e1 e2,iK e1 e2];simp [show ¬ v=s from λh=>c1 h.symm,show ¬ v=t from λh=>c2 h.symm]
 ·unfold cM;simp only;rw [lW (bU _),aJ]
theorem aEo (q:Qv) {n v:Nat} (hv:v<n):(List.replicate n (0:Int)).set v 2=iJ n (mF q 0 v):=by
 rw [kT,gD];refine dD λw _=>?_;unfold mF yR;simp only [aBX];by_cases e:w=v
 ·subst e;simp
 ·simp [e,show ¬ v=w from λh=>e h.symm]
theorem aBb {q:Qv} {n:Nat} (Q:QOk q n):eJ q=some (pX q n):=by
 have n5:=Q.n5;unfold eJ;rw [gV (s:=(([]:List (List Int)),(0:Int))) (r:=pX q n) (λk=>((List.range k).map λv=>iJ n (mF q q.src.length v),(k:Int))) n rfl (λk hk=>?_) (λ_=>?_),aB]
 ·unfold dL;simp only;rw [Q.n0,mE hk,aF,hU Q.bq,Q.qv,aB,aF,aS (by omega),aS (by omega),Bool.and_self,aF,fR];rw [kT,fY hk,aB,fR,←kT,aEo q hk,aBa Q rfl,aB,aS (by simp;omega),aF,cF hk (by omega),List.range_succ,List.map_append];rfl
 ·unfold dL;simp only;rw [Q.n0,lW (bU _),aJ];rfl
theorem aBc {q:Qv} {n:Nat} (Q:QOk q n):gJ q=some (pX q n):=by
 have n5:=Q.n5;have m6:=Q.m6;unfold gJ;rw [Q.n0,aS (by omega),aS (by omega),Bool.and_self,aF,fR];rw [gV (r:=jK n (mF q 0)) (λk=>(iJ n λv=>if v<k then iJ n (mF q 0 v) else [],(k:Int))) n (by rw [kT];rfl) (λk hk=>?_) (λ_=>?_),aB]
 ·rw [gV (s:=(jK n (mF q 0),(0:Int))) (r:=pX q n) (λk=>(jK n (mF q k),(k:Int))) q.src.length rfl (λk hk=>?_) (λ_=>?_),aB]
  ·unfold eX;simp only;obtain ⟨s,t,hs,ht,e1,e2,e3,e4⟩:=Q.arrow hk;have bs:=λv w=>aDo q (k:=k) (by omega) v w;rw [mE hk,aF,e3,aB,e4];simp only [aB,fR];unfold jK;rw [fY hs,aB,fY ht];simp only [aB];rw [gD,fY ht];simp only [aB]
   have e5:(if t=s then (iJ n (mF q k s)).set t (wr (mF q k s t - 1)) else iJ n (mF q k t))=iJ n λw=>mF q k t w - if t=s∧w=t then 1 else 0:=by
    by_cases c:t=s
    ·subst c;rw [bK rfl,gD,eT (by have:=bs t t;omega)];refine dD λw _=>?_;by_cases c2:w=t
     ·subst c2;simp
     ·simp [c2]
    ·rw [aY c];exact dD λw _=>by simp [c]
   rw [e5,fY hs];simp only [aB];rw [cF hk (by omega),gD,gD];congr 3;refine dD λv hv=>?_;have b1:=bs t s;have b2:=bs s t;by_cases c:v=t
   ·subst c;rw [bK rfl,eT (by split <;> omega)]
    try rw [gD]
    refine dD λw hw=>?_;rw [lK,iK e1 e2,iK e1 e2];by_cases c1:w=s
    ·subst c1;by_cases c2:v=w
     ·subst c2;simp <;> omega
     ·simp [c2,show ¬ w=v from λh=>c2 h.symm]
    ·rw [aY c1];by_cases c2:v=s∧w=v
     ·omega
     ·simp [c2,c1]
   ·rw [aY c];by_cases c1:v=s
    ·subst c1;rw [bK rfl,eT (by omega)]
     try rw [gD]
     refine dD λw hw=>?_;rw [lK,iK e1 e2,iK e1 e2];by_cases c2:w=t
     ·subst c2;simp [c]
     ·simp [c2,c]
    ·rw [aY c1];refine dD λw hw=>?_;rw [lK,iK e1 e2,iK e1 e2];simp [c,c1]
  ·unfold eX;simp only;rw [lW (bU _),aJ];rfl
 ·unfold eW;simp only;rw [List.length_replicate,Q.n0,fR,mE hk,aF,aS (by omega),aS (by omega),Bool.and_self,aF,fY hk,aB];rw [kT n (0:Int),fY hk,aB,fR,←kT,aEo q hk,gD,cF hk (by omega)];congr 3;refine dD λv _=>?_;by_cases c:v=k
  ·subst c;simp
  ·rw [aY c];by_cases c2:v<k
   ·rw [bK c2,bK (by omega)]
   ·rw [aY c2,aY (by omega)]
 ·unfold eW;simp only;rw [List.length_replicate,Q.n0,fR,lW (bU _),aJ];congr 2;exact dD λv hv=>by rw [bK hv]
end
noncomputable section
theorem wQ: ∀ s:Nat,s<32→ ∀ v:Nat,v<5→aAI (aAH (s:Int) (v:Int)) 1=(if lJ s v then 1 else 0):=by decide+kernel
theorem pY (s k:Nat):(List.range (k+1)).filter (lJ s)=(List.range k).filter (lJ s)++if lJ s k then [k] else []:=by
 rw [List.range_succ,List.filter_append];congr 1;cases h:lJ s k <;> simp [h]
theorem rO {n s v:Nat} (h:v∈fX n s):v<n:=List.mem_range.1 (List.mem_filter.1 h).1
theorem mO (n s:Nat):(fX n s).length ≤n:=by
 have:=List.length_filter_le (lJ s) (List.range n);simpa [fX] using this
theorem yS {body:List Int×Int→Option ((List Int×Int) ⊕ List Int)} {n s:Nat} {f:Nat→Int} (hn:n≤5)
  (hb: ∀ k l,k<n→l.length≤5→body (l,(k:Int))=some (.inl (if lJ s k then l++[f k] else l,((k+1:Nat):Int)))) (hr: ∀ l,body (l,(n:Int))=some (.inr l)):Lp body ([],0)=some ((fX n s).map f):=by
 refine gV (λk=>(((List.range k).filter (lJ s)).map f,(k:Int))) n rfl (λk hk=>?_) (λ_=>hr _);have hl:=mO k s;unfold fX at hl;rw [hb k _ hk (by rw [fD];omega),pY];cases h:lJ s k <;> simp
theorem yT {n s:Nat} {F:Nat→Nat→Int} (hn:n≤5) (hs:s<32) {x1:Int×Int} (hx:x1.2=(s:Int)):Lp (cW (jK n F) x1) (0,[])=some (gT n (jK n F) s):=by
 have e0:gT n (jK n F) s=(fX n s).map λv=>(fX n s).map (F v):=by
  unfold gT;refine rQ λv hv=>rQ λw hw=>tH (rO hv) (rO hw)
 rw [e0];refine gV (λk=>((k:Int),((List.range k).filter (lJ s)).map λv=>(fX n s).map (F v))) n rfl (λk hk=>?_) (λ_=>?_)
 ·have hl:=mO k s;unfold fX at hl;unfold cW;simp only;rw [show (jK n F).length=n from jC _ _,mE hk,aF,show cR (jK n F) (k:Int)=some (iJ n (F k)) from fY hk,aB,bX (by omega),Bool.not_false,aF,hx,wQ s hs k (by omega),cF hk (by omega)]
  have hrow:Lp (cV (iJ n (F k)) x1) ([],0)=some ((fX n s).map (F k)):=by
   refine yS hn (λj l hj hl2=>?_) (λl=>?_)
   ·unfold cV;simp only;rw [jC,mE hj,aF,fY hj,aB,bX (by omega),Bool.not_false,aF,hx,wQ s hs j (by omega),cF hj (by omega)];cases h:lJ s j
    ·simp
    ·simp [show l.length<4294967296 by omega,show l.length≤4294967295 by omega,show l.length+1≤4294967296 by omega]
   ·unfold cV;simp only;rw [jC,lW (bU _),aJ]
  rw [hrow,aB,pY];generalize List.filter (lJ s) (List.range k)=lk at*;cases h:lJ s k
  ·simp
  ·simp [show lk.length<4294967296 by omega,show lk.length≤4294967295 by omega,show lk.length+1≤4294967296 by omega]
 ·unfold cW;simp only;rw [show (jK n F).length=n from jC _ _,lW (bU _),aJ];rfl
theorem yU {n s:Nat} {F:Nat→Nat→Int} (hn:n≤5) (hs:s<32):hO (jK n F) (s:Int)=some (gT n (jK n F) s):=by
 have e0:gT n (jK n F) s=(fX n s).map λv=>(fX n s).map (F v):=by
  unfold gT;refine rQ λv hv=>rQ λw hw=>tH (rO hv) (rO hw)
 rw [e0];unfold hO;rw [gV (s:=((0:Int),([]:List (List Int)))) (r:=(fX n s).map λv=>(fX n s).map (F v)) (λk=>((k:Int),((List.range k).filter (lJ s)).map λv=>(fX n s).map (F v))) n rfl (λk hk=>?_) (λ_=>?_),aB]
 ·have hl:=mO k s;unfold fX at hl;unfold fN;simp only;rw [show (jK n F).length=n from jC _ _,mE hk,aF,bX (by omega),Bool.not_false,aF,wQ s hs k (by omega),cF hk (by omega)]
  have hrow:Lp (dY (jK n F) (s:Int) ((k:Int),((List.range k).filter (lJ s)).map λv=>(fX n s).map (F v))) ([],0)=some ((fX n s).map (F k)):=by
   refine yS hn (λj l hj hl2=>?_) (λl=>?_)
   ·unfold dY;simp only;rw [show (jK n F).length=n from jC _ _,mE hj,aF,bX (by omega),Bool.not_false,aF,wQ s hs j (by omega),cF hj (by omega),show cR (jK n F) (k:Int)=some (iJ n (F k)) from fY hk,aB,fY hj,aB];cases h:lJ s j
    ·simp
    ·simp [show l.length<4294967296 by omega,show l.length≤4294967295 by omega,show l.length+1≤4294967296 by omega]
   ·unfold dY;simp only;rw [show (jK n F).length=n from jC _ _,lW (bU _),aJ]
  rw [hrow,aB,pY];generalize List.filter (lJ s) (List.range k)=lk at*;cases h:lJ s k
  ·simp
  ·simp [show lk.length<4294967296 by omega,show lk.length≤4294967295 by omega,show lk.length+1≤4294967296 by omega]
 ·unfold fN;simp only;rw [show (jK n F).length=n from jC _ _,lW (bU _),aJ];rfl
theorem aBd {a b:List Int} (h:a.length+b.length≤1000):dF [a,b]=some (a++b):=by
 have s1:bB [a,b] (0,0)=some (.inl ((a.length:Int),1)):=by
  unfold bB;simp [cR];rw [eT (by omega),bX (by omega),aJ,eT (by omega)]
 have s2:bB [a,b] ((a.length:Int),1)=some (.inl ((a.length:Int)+b.length,2)):=by
  unfold bB;simp [cR];rw [eT (by omega),bX (by omega),aJ,eT (by omega)]
 have s3:bB [a,b] ((a.length:Int)+b.length,2)=some (.inr ((a.length:Int)+b.length)):=by
  unfold bB;simp
 have t1:bC [a,b] ([],0)=some (.inl (a,1)):=by
  unfold bC;simp [cR];rw [aS (by omega),aF,eT (by omega)]
 have t2:bC [a,b] (a,1)=some (.inl (a++b,2)):=by
  unfold bC;simp [cR];rw [aS (by omega),aF,eT (by omega)]
 have t3:bC [a,b] (a++b,2)=some (.inr (a++b)):=by
  unfold bC;simp
 unfold dF;rw [dS s1,dS s2,cZ s3,aB];unfold aAB;rw [aS (by omega),aS (by omega),Bool.and_self,aF,aB,dS t1,dS t2,cZ t3,aB]
theorem yV {k:Nat} {row:List Int} (h:k<row.length):(wO k row).length=row.length - 1:=by simp [wO];omega
theorem yW (k:Nat):wr (-sgK k)=sgK (k+1):=by
 unfold sgK;rcases Nat.mod_two_eq_zero_or_one k with h|h
 ·rw [h,show (k+1) % 2=1 by omega];decide
 ·rw [h,show (k+1) % 2=0 by omega];decide
theorem vK: ∀ (d k:Nat) (M:List (List Int)),k<d→k≤16→M.length=k→(∀ r∈M,r.length=k)→dC d M=some (kS d M)
 |0,k,M,h,_,_,_=>absurd h (by omega)
 |d+1,k,M,hd,h16,hl,hr=>by
  show eH (dC d) M=_;unfold eH;cases M with
  |nil=>rfl
  |cons r0 rest=>
   have hr0:=hr r0 (by simp);simp only [List.length_cons] at hl;rw [bX (by simp only [List.length_cons];omega),aJ,show cR (r0::rest) 0=some r0 from rfl,aB];rw [gV (s:=((0:Int),(1:Int),(0:Int))) (r:=kS (d+1) (r0::rest)) (λj=>(uF (kS d) r0 rest j,sgK j,(j:Int))) k rfl (λj hj=>?_) (λ_=>?_),aB]
   ·unfold eA;simp only;rw [hr0,mE hj,aF,atG 0 (by omega),aB,aS (by omega),aS (by simp only [List.length_cons];omega),aS (by omega),Bool.and_self,Bool.and_self,aF]
    have hmin:Lp (dA (r0::rest) (uF (kS d) r0 rest j,sgK j,(j:Int))) ([],0)=some (rest.map (wO j)):=by
     have e0:((r0::rest).drop (1:Int).toNat).take (((r0::rest).length:Int).toNat - (1:Int).toNat)=rest:=by simp
     refine gV (λi=>((rest.take i).map (wO j),(i:Int))) rest.length rfl (λi hi=>?_) (λ_=>?_)
     ·unfold dA;simp only;rw [e0,mE hi,aF,atG [] hi,aB];have hrow:(rest[i]?.getD []).length=k:=by rw [nN hi];exact hr _ (by simp)
      rw [cF (n:=17) (by omega) (by omega),aS (by omega),aS (by omega),aS (by omega),aS (by omega),aS (by omega),aS (by omega)];simp only [Bool.and_self,aF];have e1:((rest[i]?.getD []).drop (0:Int).toNat).take ((j:Int).toNat - (0:Int).toNat)=(rest[i]?.getD []).take j:=by simp
      have e2:((rest[i]?.getD []).drop (((j+1:Nat):Int)).toNat).take (((rest[i]?.getD []).length:Int).toNat - (((j+1:Nat):Int)).toNat)=(rest[i]?.getD []).drop (j+1):=by
       rw [fR,fR,List.take_of_length_le (by simp)]
      rw [e1,e2,aBd (by simp;omega),aB,aS (by simp;omega),aF,cF hi (by omega)];congr 3;rw [uH hi,List.map_append,nN hi];rfl
     ·unfold dA;simp only;rw [e0,lW (bU _),aJ,List.take_length]
    rw [hmin,aB,vK d (k - 1) (rest.map (wO j)) (by omega) (by omega) (by simp;omega) (λr h=>by
     obtain ⟨r',h1,rfl⟩:=List.mem_map.1 h;have:=hr r' (by simp [h1])
     rw [yV (by omega)];omega),aB,yW,cF hj (by omega)]
    rfl
   ·unfold eA;simp only;rw [hr0,lW (bU _),aJ];show some (Sum.inr (uF (kS d) r0 rest k))=some (Sum.inr (uF (kS d) r0 rest r0.length));rw [hr0]
theorem vL: ∀ (d k:Nat) (M:List (List Int)),k<d→k≤16→M.length=k→(∀ r∈M,r.length=k)→fT d M=some (kS d M)
 |0,k,M,h,_,_,_=>absurd h (by omega)
 |d+1,k,M,hd,h16,hl,hr=>by
  show hL (fT d) M=_;unfold hL;cases M with
  |nil=>rfl
  |cons r0 rest=>
   have hr0:=hr r0 (by simp);simp only [List.length_cons] at hl;rw [bX (by simp only [List.length_cons];omega),aJ];rw [gV (s:=((0:Int),(1:Int),(0:Int))) (r:=kS (d+1) (r0::rest)) (λj=>(uF (kS d) r0 rest j,sgK j,(j:Int))) k rfl (λj hj=>?_) (λ_=>?_),aB]
   ·unfold gH;simp only;rw [show (r0::rest).length=k by simp only [List.length_cons];omega,mE hj,aF]
    have hmin:Lp (fG (r0::rest) (uF (kS d) r0 rest j,sgK j,(j:Int))) (([]:List (List Int)),1)=some (rest.map (wO j)):=by
     refine gV (λi=>((rest.take i).map (wO j),((i+1:Nat):Int))) rest.length rfl (λi hi=>?_) (λ_=>?_)
     ·unfold fG;simp only
      have hat:cR (r0::rest) ((i+1:Nat):Int)=some (rest[i]?.getD []):=by
       rw [atG [] (by simp;omega)];rfl
      rw [List.length_cons,mE (by omega),aF,hat,aB];have hrow:(rest[i]?.getD []).length=k:=by rw [nN hi];exact hr _ (by simp)
      rw [cF (k:=j) (n:=17) (by omega) (by omega),aS (by omega),aS (by omega),aS (by omega)];simp only [Bool.and_self,aF];have e1:((rest[i]?.getD []).drop (0:Int).toNat).take ((j:Int).toNat - (0:Int).toNat)=(rest[i]?.getD []).take j:=by simp
      have e2:((rest[i]?.getD []).drop (((j+1:Nat):Int)).toNat).take (((rest[i]?.getD []).length:Int).toNat - (((j+1:Nat):Int)).toNat)=(rest[i]?.getD []).drop (j+1):=by
       rw [fR,fR,List.take_of_length_le (by simp)]
      rw [e1,aS (by simp;omega),aF];simp only [aB];rw [aS (by omega),aS (by omega),aS (by omega)];simp only [Bool.and_self,aF];rw [e2,aS (by simp;omega),aF,aS (by simp;omega),aF,cF (k:=i+1) (n:=18) (by omega) (by omega)];congr 3;rw [uH hi,List.map_append,nN hi];rfl
     ·unfold fG;simp only;rw [List.length_cons,lW (bU _),aJ,List.take_length]
    rw [hmin,aB,show cR (r0::rest) 0=some r0 from rfl,aB,atG 0 (by omega),aB,vL d (k - 1) (rest.map (wO j)) (by omega) (by omega) (by simp;omega) (λr h=>by
     obtain ⟨r',h1,rfl⟩:=List.mem_map.1 h;have:=hr r' (by simp [h1])
     rw [yV (by omega)];omega),aB,yW,cF hj (by omega)]
    rfl
   ·unfold gH;simp only;rw [show (r0::rest).length=k by simp only [List.length_cons];omega,lW (bU _),aJ];show some (Sum.inr (uF (kS d) r0 rest k))=some (Sum.inr (uF (kS d) r0 rest r0.length));rw [hr0]
end
noncomputable section
def nU (n:Nat) (T:List (List Int)):Nat→Int→Nat→Int
 |0,kind,_=>kind
 |f+1,kind,s=>if kS 8 (gT n T s)<0 then 3 else nU n T f (if kS 8 (gT n T s)=0 then 2 else kind) (s+1)
theorem nD {n s:Nat} {T:List (List Int)} :(gT n T s).length=(fX n s).length∧ ∀ r∈gT n T s,r.length=(fX n s).length:=by
 refine ⟨by simp [gT],λr hr=>?_⟩;obtain ⟨v,_,rfl⟩:=List.mem_map.1 hr;simp
theorem wR: ∀ n:Nat,n<6→aCk 1 (n:Int)=((2 ^ n:Nat):Int):=by decide+kernel
theorem aCp: ∀ n:Nat,n<6→2 ^ n≤32:=by decide
theorem pZ {body:Int×Int→Option ((Int×Int) ⊕ (Int ⊕ Int))} {n:Nat} {T:List (List Int)} (hn:n<6)
  (hs: ∀ (kind:Int) (s:Nat),1≤s→s<2 ^ n→body (kind,(s:Int))=some (if kS 8 (gT n T s)<0 then .inr (.inr 3) else .inl (if kS 8 (gT n T s)=0 then 2 else kind,((s+1:Nat):Int))))
  (he: ∀ kind:Int,body (kind,((2 ^ n:Nat):Int))=some (.inr (.inl kind))): ∀ (f:Nat) (kind:Int) (s:Nat),1≤s→s+f=2 ^ n→(Option.bind (Lp body (kind,(s:Int))) λy=>Sum.elim (λa=>some a) (λb=>some b) y)=some (nU n T f kind s)
 |0,kind,s,h1,h=>by
  have h':s=2 ^ n:=by omega
  subst h';rw [cZ (he kind)];rfl
 |f+1,kind,s,h1,h=>by
  have hb:=hs kind s h1 (by omega);simp only [nU];by_cases c:kS 8 (gT n T s)<0
  ·rw [bK c] at hb ⊢;rw [cZ hb];rfl
  ·rw [aY c] at hb ⊢;rw [dS hb];exact pZ hn hs he f _ (s+1) (by omega) (by omega)
theorem aAL {q:Qv} {n:Nat} (Q:QOk q n):eY q=some (nU n (pX q n) (2 ^ n - 1) 1 1):=by
 have n5:=Q.n5;have hp:=aCp n (by omega);have hp1:1≤2 ^ n:=Nat.one_le_two_pow;unfold eY;rw [kA Q.bq,Q.qv,aB,gS,aJ,aBc Q,aB];refine pZ (by omega) (λkind s h1 h2=>?_) (λkind=>?_) _ _ 1 (bU _) (by omega)
 ·unfold dU;simp only;rw [Q.n0,bX (by omega),Bool.not_false,aF,wR n (by omega),mE h2,aF];unfold pX;rw [yT n5 (by omega) (x1:=(kind,(s:Int))) rfl,aB];have hl:=mO n s;rw [vK 8 (fX n s).length _ (by omega) (by omega) nD.1 nD.2,aB,cF h2 (by omega)];generalize kS 8 (gT n (jK n (mF q q.src.length)) s)=d;by_cases c:d<0
  ·simp [c]
  ·by_cases c2:d=0
   ·simp [c2]
   ·simp [c,c2]
 ·unfold dU;simp only;rw [Q.n0,bX (by omega),Bool.not_false,aF,wR n (by omega),lW (bU _),aJ]
theorem aAM {q:Qv} {n:Nat} (Q:QOk q n):eV q=some (nU n (pX q n) (2 ^ n - 1) 1 1):=by
 have n5:=Q.n5;have hp:=aCp n (by omega);have hp1:1≤2 ^ n:=Nat.one_le_two_pow;unfold eV;rw [hU Q.bq,Q.qv,aB,gS,aJ,aBb Q,aB];refine pZ (by omega) (λkind s h1 h2=>?_) (λkind=>?_) _ _ 1 (bU _) (by omega)
 ·unfold dT;simp only;rw [Q.n0,bX (by omega),Bool.not_false,aF,wR n (by omega),mE h2,aF];unfold pX;rw [yU n5 (by omega),aB];have hl:=mO n s;rw [vL 8 (fX n s).length _ (by omega) (by omega) nD.1 nD.2,aB,cF h2 (by omega)];generalize kS 8 (gT n (jK n (mF q q.src.length)) s)=d;by_cases c:d<0
  ·simp [c]
  ·by_cases c2:d=0
   ·simp [c2]
   ·simp [c,c2]
 ·unfold dT;simp only;rw [Q.n0,bX (by omega),Bool.not_false,aF,wR n (by omega),lW (bU _),aJ]
end
noncomputable section
set_option maxRecDepth 10000
set_option maxHeartbeats 4000000
end
noncomputable section
set_option maxRecDepth 10000
set_option maxHeartbeats 4000000
def cX (a0:(List Int)) (a1:Int) (x1:Int):Option (Int ⊕ (Unit ⊕ Int)):=
 bif decide (x1<(a0.length:Int)) then
 ((cR a0 x1).bind λv2=>
 bif decide (a1=v2) then
 (some (.inr (.inr (x1))))
 else
 (some (.inl (wr (x1+1)))))
 else
 (some (.inr (.inl ())))
def fH (a0:(List Int)) (a1:Int):Option Int:=
 (Lp (cX a0 a1) 0).bind λy4=>
 Sum.elim (λy5=>
 some ((-1))
 )
 (λy6=>
 some y6
 )
 y4
theorem kU (a0:(List Int)) (a1:Int) (r:Int) (h:fH a0 a1=some r):HasC Tryd.prog 57 [.list 1 (a0.map eI),.int a1] (.int r):=by
 refine hM [.tmp 4] Tryd.func57 Tryd.ntmps57 k<|sR<|aT k2<|sQ<|sR<|am k k<|ln k4<|am k k<|an<|tn<|aD<|oB h λy4 hy4 h=>cJ (body:=(cX a0 a1)) hy4 (λ(x1:Int)=>mN [(0,.list 1 (a0.map eI)),(1,.int a1),(7,.int (a0.length:Int)),(8,.int x1)] [] 0) (λr e t=>Sum.elim (λa=>(λr e t=>e= .exit 0∧Ent t (mN [] [] 0)) a e t) (λb=>(λr e t=>e= .ret∧nG TT [.tmp 4] (.int r) .ret t) b e t) r) (bT (bM k2) bA k4) ?_ ?_
 ·intro x1 o h;exact sR<|cm k4<|an<|tn<|sQ<|dI k h (λ_ h=>aC<|tn<|sQ<|aD<|sR<|am k k<|aT k2<|sR<|am k k<|am k k<|am k k<|oB h λv2 hv2 h=>ae (xl hv2 k) k<|lr k7<|cm k4<|an<|tn<|dI k h (λ_ h=>sR<|am k k<|aT k2<|aG<|bN<|aI<|aI<|sp h ⟨_,k,k,aX k k k (sN k)⟩) λ_ h=>aC<|aL<|tn<|rg<|ae (bJ k k) k<|am k k<|an<|tn<|sp h ⟨_,k,(bT (bM k2) bA k4)⟩) λ_ h=>aU<|aA<|aA<|sp h ⟨_,k,k,(bT bA bA k4)⟩
 ·intro e t hX;rcases y4 with y5|y6
  ·obtain ⟨rfl,hent⟩:=hX;exact aN<|tn<|aM hent<|sR<|aT k2<|aG<|rtI h k2
  ·obtain ⟨rfl,hent⟩:=hX;exact bN<|aI<|sp h hent
def bL (a0:(List Int)) (a1:Int):Option Bool:=
 (fH a0 a1).bind λv1=>
 some (decide (0≤v1))
theorem cY (a0:(List Int)) (a1:Int) (r:Bool) (h:bL a0 a1=some r):HasC Tryd.prog 48 [.list 1 (a0.map eI),.int a1] (.bl r):=by
 exact hM [.tmp 4] Tryd.func48 Tryd.ntmps48 k<|sR<|aT k2<|sR<|am k k<|am k k<|oB h λv1 hv1 h=>ae (aE (kU a0 a1 v1 hv1) k (fJ k (fJ k aH))) k<|cm k4<|aT k2<|aG<|nC h k2
def hY (a0:(List Int)) (a1:Int) (x1:Int):Option (Int ⊕ (Unit ⊕ Bool)):=
 bif decide (x1<(a0.length:Int)) then
 ((cR a0 x1).bind λv2=>
 bif decide (v2=a1) then
 (some (.inr (.inr (true))))
 else
 (some (.inl (wr (x1+1)))))
 else
 (some (.inr (.inl ())))
def cI (a0:(List Int)) (a1:Int):Option Bool:=
 (Lp (hY a0 a1) 0).bind λy4=>
 Sum.elim (λy5=>
 some (false)
 )
 (λy6=>
 some y6
 )
 y4
theorem eK (a0:(List Int)) (a1:Int) (r:Bool) (h:cI a0 a1=some r):HasC Tryd.prog 35 [.list 1 (a0.map eI),.int a1] (.bl r):=by
 refine hM [.tmp 4] Tryd.func35 Tryd.ntmps35 k<|sR<|aT k2<|sQ<|sR<|aT k2<|aD<|oB h λy4 hy4 h=>cJ (body:=(hY a0 a1)) hy4 (λ(x1:Int)=>mN [(0,.list 1 (a0.map eI)),(1,.int a1),(5,.int x1)] [] 0) (λr e t=>Sum.elim (λa=>(λr e t=>e= .exit 0∧Ent t (mN [] [] 0)) a e t) (λb=>(λr e t=>e= .ret∧nG TT [.tmp 4] (.bl r) .ret t) b e t) r) (bT (bM k2) bA k4) ?_ ?_
 ·intro x1 o h;exact sQ<|sR<|am k k<|am k k<|ln k4<|cm k4<|an<|tn<|dI k h (λ_ h=>aC<|tn<|sQ<|aD<|sR<|am k k<|am k k<|oB h λv2 hv2 h=>ae (xl hv2 k) k<|lr k7<|am k k<|cm k4<|an<|tn<|dI k h (λ_ h=>sR<|aT k2<|aG<|bN<|aI<|aI<|sp h ⟨_,k,k,aX k k k (vA k)⟩) λ_ h=>aC<|aL<|tn<|rg<|am k k<|ae (bJ k k) k<|aT k2<|sp h ⟨_,k,(bT (bM k2) bA k4)⟩) λ_ h=>aU<|aA<|aA<|sp h ⟨_,k,k,(bT bA bA k4)⟩
 ·intro e t hX;rcases y4 with y5|y6
  ·obtain ⟨rfl,hent⟩:=hX;exact aN<|tn<|aM hent<|sR<|aT k2<|aG<|nC h k2
  ·obtain ⟨rfl,hent⟩:=hX;exact bN<|aI<|sp h hent
def fZ (a0:Qv) (x1:(List Int)) (x2:(Int×Int)) (x3:(Bool×Int)):Option ((Bool×Int) ⊕ Bool):=
 bif decide (x3.2<(a0.src.length:Int)) then
 (bif x3.1 then
 ((cR a0.tgt x3.2).bind λv8=>
 bif !decide (v8=x2.2) then
 (some (.inl (true,wr (x3.2+1))))
 else
 ((cR a0.src x3.2).bind λv10=>
 (cI x1 v10).bind λv11=>
 some (.inl (v11,wr (x3.2+1)))))
 else
 (some (.inl (false,wr (x3.2+1)))))
 else
 (some (.inr x3.1))
def eM (a0:Qv) (x1:(List Int)) (x2:(Int×Int)):Option ((Int×Int) ⊕ Int):=
 bif decide (0≤x2.2) then
 ((cI x1 x2.2).bind λv5=>
 (Lp (fZ a0 x1 x2) (!v5,0)).bind λy12=>
 bif y12 then
 (some (.inl (x2.2,wr (x2.2 - 1))))
 else
 (some (.inl (x2.1,wr (x2.2 - 1)))))
 else
 (some (.inr x2.1))
def dM (a0:Qv) (x1:(List Int)):Option ((List Int) ⊕ ((List Int) ⊕ ((List Int)×Bool))):=
 (bO a0).bind λv1=>
 bif v1 then
 (bif decide (((x1.length:Nat):Int)<a0.n) then
 ((Lp (eM a0 x1) ((-1),wr (a0.n - 1))).bind λy14=>
 bif decide (y14<0) then
 (some (.inr (.inr ((([]:(List Int)),false)))))
 else
 (bif decide (x1.length+[y14].length ≤4294967296) then
 (some (.inl (x1++[y14])))
 else none))
 else
 (some (.inr (.inl x1))))
 else
 (some (.inr (.inl x1)))
def iL (a0:Qv):Option ((List Int)×Bool):=
 (Lp (dM a0) ([]:(List Int))).bind λy17=>
 Sum.elim (λy18=>
 (bO a0).bind λv19=>
 some ((y18,v19))
 )
 (λy20=>
 some y20
 )
 y17
theorem tI (a0:Qv) (r:((List Int)×Bool)) (h:iL a0=some r):HasC Tryd.prog 39 [.agg (eQ a0)] (.tuple [.list 1 (r.1.map eI),.bl r.2]):=by
 refine hM [.tmp 2,.tmp 3] Tryd.func39 Tryd.ntmps39 k<|sR<|ae (wb k) k<|aa k k<|aT k2<|sR<|ae (wl k) k<|aT k2<|aM (t:=mN [(1,.ptr 0 0 0),(4,.own 1 0 (([]:(List Int)).length))] [(0,⟨3,[eQ a0]⟩),(1,⟨1,List.map (ow eI) ([]:(List Int))⟩)] 2) (bT (mI 1 k2 (lQ ⟨_,k,⟨k,k,(by simp only [aZ,lA,lT,lR,lC,lN]),k⟩⟩ bA)) (cK k<|dQ k<|bA) k4)<|sQ<|aD<|oB h λy17 hy17 h=>cJ (body:=(dM a0)) hy17 (λ(x1:(List Int))=>mN [(1,.ptr 0 0 0),(4,.own 1 0 x1.length)] [(0,⟨3,[eQ a0]⟩),(1,⟨1,x1.map (ow eI)⟩)] 2) (λr e t=>Sum.elim (λa=>(λr e t=>e= .exit 0∧Ent t (mN [(1,.ptr 0 0 0),(4,.own 1 0 r.length)] [(0,⟨3,[eQ a0]⟩),(1,⟨1,r.map (ow eI)⟩)] 2)) a e t) (λb=>(λr e t=>e= .ret∧nG TT [.tmp 2,.tmp 3] (.tuple [.list 1 (r.1.map eI),.bl r.2]) .ret t) b e t) r) (bT (bM k2) (cK k<|dQ k<|bA) k4) ?_ ?_
 ·intro x1 o h;refine sQ<|sR<|lp k8<|oB h λv1 hv1 h=>ae (aE (cA a0 v1 hv1) k (aP (lI k) aH)) k<|am k k<|qQ h (λq2 h=>?_) λq2 h=>aO 12 k q2<|aK k4<|aK k4<|ak k k<|pk k3<|an<|tn<|eG k k<|aU<|aA<|aA<|sp h ⟨_,k,k,(bT (bM k2) (cK k<|dQ k<|bA) k4)⟩;refine aO 12 k q2<|am k k<|ae (gF aR k k k k) k<|fp k8<|lp k8<|cm k4<|pk k3<|an<|tn<|dI k h (λ_ h=>?_) λ_ h=>aU<|aA<|aA<|sp h ⟨_,k,k,(bT (bM k2) (cK k<|dQ k<|bA) k4)⟩;refine aC<|tn<|aD<|sR<|aT k2<|sQ<|sR<|fp k8<|lp k8<|ae (iQ k k) k<|aT k2<|aD<|oB h λy14 hy14 h=>cJ (body:=(eM a0 x1)) hy14 (λ(x2:(Int×Int))=>mN [(1,.ptr 0 0 0),(4,.own 1 0 x1.length),(5,.int x2.1),(6,.int x2.2)] [(0,⟨3,[eQ a0]⟩),(1,⟨1,x1.map (ow eI)⟩)] 2) (λr e t=>e= .exit 2∧Ent t (mN [(1,.ptr 0 0 0),(4,.own 1 0 x1.length),(5,.int r)] [(0,⟨3,[eQ a0]⟩),(1,⟨1,x1.map (ow eI)⟩)] 2)) (bT (bM k2) (cK k<|dQ k<|bA) k4) ?_ ?_
  ·intro x2 o h;refine sQ<|sR<|am k k<|cm k4<|an<|tn<|dI k h (λ_ h=>?_) λ_ h=>aU<|aA<|aA<|sp h ⟨_,k,k,(bT (bM k2) (cK k<|dQ k<|bA) k4)⟩;refine aC<|tn<|sQ<|aD<|sR<|am k k<|am k k<|oB h λv5 hv5 h=>ae (aE (eK x1 x2.2 v5 hv5) k (vcT k k (fJ k aH))) k<|ae (eE k) k<|aT k2<|sQ<|sR<|aT k2<|aD<|oB h λy12 hy12 h=>cJ (body:=(fZ a0 x1 x2)) hy12 (λ(x3:(Bool×Int))=>mN [(1,.ptr 0 0 0),(4,.own 1 0 x1.length),(5,.int x2.1),(6,.int x2.2),(7,.bl x3.1),(8,.int x3.2)] [(0,⟨3,[eQ a0]⟩),(1,⟨1,x1.map (ow eI)⟩)] 2) (λr e t=>e= .exit 4∧Ent t (mN [(1,.ptr 0 0 0),(4,.own 1 0 x1.length),(5,.int x2.1),(6,.int x2.2),(7,.bl r)] [(0,⟨3,[eQ a0]⟩),(1,⟨1,x1.map (ow eI)⟩)] 2)) (bT (bM k2) (cK k<|dQ k<|bA) k4) ?_ ?_
   ·intro x3 o h;refine sQ<|sR<|am k k<|fp k8<|lp k8<|ln k4<|cm k4<|an<|tn<|dI k h (λ_ h=>?_) λ_ h=>aU<|aA<|aA<|sp h ⟨_,k,k,(bT (bM k2) (cK k<|dQ k<|bA) k4)⟩;exact aC<|tn<|sQ<|aD<|rg<|am k k<|am k k<|qQ h (λq7 h=>aO 38 k q7<|fp k8<|lp k8<|am k k<|oB h λv8 hv8 h=>ae (xl hv8 k) k<|lr k7<|am k k<|cm k4<|am k k<|qQ h (λq9 h=>aO 46 k q9<|aK k4<|aK k4<|aK k4<|ak k k<|pk k3<|pk k3<|aa k k<|an<|aL<|tn<|aM (t:=mN [(1,.ptr 0 0 0),(4,.own 1 0 x1.length),(5,.int x2.1),(6,.int x2.2),(7,.bl true),(8,.int x3.2)] [(0,⟨3,[eQ a0]⟩),(1,⟨1,x1.map (ow eI)⟩)] 2) (bT (bM k2) (cK k<|dQ k<|bA) k4)<|rg<|am k k<|ae (bJ k k) k<|aT k2<|sp h ⟨_,k,(bT (bM k2) (cK k<|dQ k<|bA) k4)⟩) λq9 h=>aO 46 k q9<|am k k<|fp k8<|lp k8<|am k k<|oB h λv10 hv10 h=>ae (xl hv10 k) k<|lr k7<|oB h λv11 hv11 h=>ae (aE (eK x1 v10 v11 hv11) k (vcT k k (fJ k aH))) k<|pk k3<|pk k3<|aa k k<|an<|aL<|tn<|aM (t:=mN [(1,.ptr 0 0 0),(4,.own 1 0 x1.length),(5,.int x2.1),(6,.int x2.2),(7,.bl v11),(8,.int x3.2)] [(0,⟨3,[eQ a0]⟩),(1,⟨1,x1.map (ow eI)⟩)] 2) (bT (bM k2) (cK k<|dQ k<|bA) k4)<|rg<|am k k<|ae (bJ k k) k<|aT k2<|sp h ⟨_,k,(bT (bM k2) (cK k<|dQ k<|bA) k4)⟩) λq7 h=>aO 38 k q7<|aK k4<|aK k4<|aK k4<|aK k4<|aK k4<|aK k4<|aK k4<|aK k4<|pk k3<|aa k k<|an<|aL<|tn<|aM (t:=mN [(1,.ptr 0 0 0),(4,.own 1 0 x1.length),(5,.int x2.1),(6,.int x2.2),(7,.bl false),(8,.int x3.2)] [(0,⟨3,[eQ a0]⟩),(1,⟨1,x1.map (ow eI)⟩)] 2) (bT (bM k2) (cK k<|dQ k<|bA) k4)<|rg<|am k k<|ae (bJ k k) k<|aT k2<|sp h ⟨_,k,(bT (bM k2) (cK k<|dQ k<|bA) k4)⟩
   ·rintro e t ⟨rfl,hent⟩;exact aN<|tn<|aM hent<|sR<|am k k<|an<|tn<|dI k h (λ_ h=>rg<|am k k<|aa k k<|an<|aL<|tn<|rg<|am k k<|ae (iQ k k) k<|aT k2<|sp h ⟨_,k,(bT (bM k2) (cK k<|dQ k<|bA) k4)⟩) λ_ h=>aC<|aL<|tn<|rg<|am k k<|ae (iQ k k) k<|aT k2<|sp h ⟨_,k,(bT (bM k2) (cK k<|dQ k<|bA) k4)⟩
  ·rintro e t ⟨rfl,hent⟩;exact aN<|tn<|aM hent<|sQ<|sR<|am k k<|cm k4<|an<|tn<|dI k h (λ_ h=>sR<|ae (wl k) k<|aa k k<|aT k2<|aM (t:=mN [(2,.own 2 0 (([]:(List Int)).length)),(3,.bl false)] [(2,⟨1,List.map (ow eI) ([]:(List Int))⟩)] 3) (bT (lQ ⟨_,k,⟨k,k,(by simp only [aZ,lA,lT,lR,lC,lN]),k⟩⟩ (bM k2)) (dQ k<|bA) k4)<|aG<|aI<|bN<|aI<|sp h ⟨_,k,k,aX k k k (mG k (iW (sO (oD kQ k k)) (iW (k) sP)))⟩) λ_ h=>aC<|tn<|rg<|am k k<|am k k<|ae (wl k) k<|cG h λq16 h=>ae (iR aR (l:=x1) (m:=[y14]) jO q16 k k k k k k k k k k k k) k<|aa k k<|an<|aL<|tn<|sp h ⟨_,k,(pV [0,3] (bM k2) (cK k<|dQ k<|bA) k4)⟩
 ·intro e t hX;rcases y17 with y18|y20
  ·obtain ⟨rfl,hent⟩:=hX;exact aN<|tn<|aM hent<|sR<|am k k<|lp k8<|oB h λv19 hv19 h=>ae (aE (cA a0 v19 hv19) k (aP (lI k) aH)) k<|aa k k<|aT k2<|aG<|sp h (aX k k k (mG k (iW (sO (oD kQ k k)) (iW (k) sP))))
  ·obtain ⟨rfl,hent⟩:=hX;exact bN<|aI<|sp h hent
def gK (a0:Qv):Option Bool:=
 (iL a0).bind λv1=>
 some (v1.2)
theorem qA (a0:Qv) (r:Bool) (h:gK a0=some r):HasC Tryd.prog 18 [.agg (eQ a0)] (.bl r):=by
 exact hM [.tmp 2] Tryd.func18 Tryd.ntmps18 k<|sR<|ae (wb k) k<|aT k2<|sR<|lp k8<|oB h λv1 hv1 h=>ae (cT kQ (tI a0 v1 hv1) k3 (aP (lI k) aH)) k<|am k k<|ae (jT k k (by intro _ h;cases h)) k<|ae (jT k k (by intro _ h;cases h)) k<|aa k k<|aT k2<|sR<|am k k<|aT k2<|aG<|nC h k2
def dG (a0:Qv) (a1:Int) (a2:(List Int)) (x1:Int):Option (Int ⊕ (Unit ⊕ Bool)):=
 bif decide (x1<(a0.tgt.length:Int)) then
 ((cR a0.tgt x1).bind λv2=>
 bif decide (v2=a1) then
 ((cR a0.src x1).bind λv4=>
 (bL a2 v4).bind λv5=>
 bif !v5 then
 (some (.inr (.inr (false))))
 else
 (some (.inl (wr (x1+1)))))
 else
 (some (.inl (wr (x1+1)))))
 else
 (some (.inr (.inl ())))
def eB (a0:Qv) (a1:Int) (a2:(List Int)):Option Bool:=
 (Lp (dG a0 a1 a2) 0).bind λy7=>
 Sum.elim (λy8=>
 some (true)
 )
 (λy9=>
 some y9
 )
 y7
theorem lS (a0:Qv) (a1:Int) (a2:(List Int)) (r:Bool) (h:eB a0 a1 a2=some r):HasC Tryd.prog 56 [.agg (eQ a0),.int a1,.list 1 (a2.map eI)] (.bl r):=by
 refine hM [.tmp 6] Tryd.func56 Tryd.ntmps56 k<|sR<|ae (wb k) k<|aT k2<|sQ<|sR<|fp k8<|lp k8<|ln k4<|am k k<|an<|tn<|aD<|oB h λy7 hy7 h=>cJ (body:=(dG a0 a1 a2)) hy7 (λ(x1:Int)=>mN [(1,.int a1),(2,.list 1 (a2.map eI)),(3,.ptr 0 0 0),(10,.list 1 (a0.tgt.map eI)),(11,.int (a0.tgt.length:Int)),(12,.int x1)] [(0,⟨3,[eQ a0]⟩)] 1) (λr e t=>Sum.elim (λa=>(λr e t=>e= .exit 0∧Ent t (mN [] [] 0)) a e t) (λb=>(λr e t=>e= .ret∧nG TT [.tmp 6] (.bl r) .ret t) b e t) r) (bT (bM k2) (cK k<|bA) k4) ?_ ?_
 ·intro x1 o h;exact sR<|cm k4<|an<|tn<|sQ<|dI k h (λ_ h=>aC<|tn<|sQ<|aD<|sR<|am k k<|oB h λv2 hv2 h=>ae (xl hv2 k) k<|lr k7<|aa k k<|aT k2<|sR<|am k k<|am k k<|cm k4<|am k k<|qQ h (λq3 h=>aO 20 k q3<|am k k<|fp k8<|lp k8<|am k k<|oB h λv4 hv4 h=>ae (xl hv4 k) k<|lr k7<|oB h λv5 hv5 h=>ae (aE (cY a2 v4 v5 hv5) k (fJ k (fJ k aH))) k<|ae (eE k) k<|pk k3<|an<|tn<|dI k h (λ_ h=>sR<|aT k2<|aG<|bN<|aI<|aI<|sp h ⟨_,k,k,aX k k k (vA k)⟩) λ_ h=>aC<|aL<|tn<|rg<|ae (bJ k k) k<|am k k<|an<|tn<|sp h ⟨_,k,(bT (bM k2) (cK k<|bA) k4)⟩) λq3 h=>aO 20 k q3<|aK k4<|aK k4<|aK k4<|aK k4<|pk k3<|an<|tn<|eG k k<|aC<|aL<|tn<|rg<|ae (bJ k k) k<|am k k<|an<|tn<|sp h ⟨_,k,(bT (bM k2) (cK k<|bA) k4)⟩) λ_ h=>aU<|aA<|aA<|sp h ⟨_,k,k,(bT bA bA k4)⟩
 ·intro e t hX;rcases y7 with y8|y9
  ·obtain ⟨rfl,hent⟩:=hX;exact aN<|tn<|aM hent<|sR<|aT k2<|aG<|nC h k2
  ·obtain ⟨rfl,hent⟩:=hX;exact bN<|aI<|sp h hent
def eN (a0:Qv) (x1:(List Int)) (x2:(Int×Int)):Option ((Int×Int) ⊕ Int):=
 bif decide (0≤x2.2) then
 ((bL x1 x2.2).bind λv5=>
 bif !v5 then
 ((eB a0 x2.2 x1).bind λv7=>
 bif v7 then
 (some (.inl (x2.2,wr (x2.2 - 1))))
 else
 (some (.inl (x2.1,wr (x2.2 - 1)))))
 else
 (some (.inl (x2.1,wr (x2.2 - 1)))))
 else
 (some (.inr x2.1))
def dN (a0:Qv) (x1:(List Int)):Option ((List Int) ⊕ ((List Int) ⊕ ((List Int)×Bool))):=
 bif decide (((x1.length:Nat):Int)<a0.n) then
 ((Lp (eN a0 x1) ((-1),wr (a0.n - 1))).bind λy9=>
 bif decide (y9<0) then
 (some (.inr (.inr (([],false)))))
 else
 (bif decide (x1.length+[y9].length ≤4294967296) then
 (some (.inl (x1++[y9])))
 else none))
 else
 (some (.inr (.inl x1)))
def iM (a0:Qv):Option ((List Int)×Bool):=
 (cB a0).bind λv1=>
 bif !v1 then
 (some (([],false)))
 else
 ((Lp (dN a0) []).bind λy12=>
 Sum.elim (λy13=>
 some ((y13,true))
 )
 (λy14=>
 some y14
 )
 y12)
theorem tJ (a0:Qv) (r:((List Int)×Bool)) (h:iM a0=some r):HasC Tryd.prog 47 [.agg (eQ a0)] (.tuple [.list 1 (r.1.map eI),.bl r.2]):=by
 refine hM [.tmp 2,.tmp 3] Tryd.func47 Tryd.ntmps47 k<|sR<|ae (wb k) k<|aa k k<|aT k2<|sQ<|sR<|lp k8<|oB h λv1 hv1 h=>ae (aE (dP a0 v1 hv1) k (aP (lI k) aH)) k<|ae (eE k) k<|an<|tn<|dI k h (λ_ h=>sR<|aa k k<|aT k2<|aG<|aI<|sp h (aX k k k (mG k (iW (sO (k)) (iW (k) sP))))) λ_ h=>?_;refine aC<|tn<|sR<|aT k2<|sQ<|aD<|oB h λy12 hy12 h=>cJ (body:=(dN a0)) hy12 (λ(x1:(List Int))=>mN [(1,.ptr 0 0 0),(4,.own 1 0 x1.length)] [(0,⟨3,[eQ a0]⟩),(1,⟨1,x1.map (ow eI)⟩)] 2) (λr e t=>Sum.elim (λa=>(λr e t=>e= .exit 0∧Ent t (mN [(4,.own 0 0 r.length)] [(0,⟨1,r.map (ow eI)⟩)] 1)) a e t) (λb=>(λr e t=>e= .ret∧nG TT [.tmp 2,.tmp 3] (.tuple [.list 1 (r.1.map eI),.bl r.2]) .ret t) b e t) r) (kE (σ:=sg [(0,0)]) (mI 1 k2 (lQ ⟨_,k,⟨k,k,k,k⟩⟩ bA)) (cK k<|hX k k<|bA) k) ?_ ?_
 ·intro x1 o h;refine sQ<|sR<|am k k<|ae (gF aR k k k k) k<|fp k8<|lp k8<|cm k4<|an<|tn<|dI k h (λ_ h=>?_) λ_ h=>aU<|aA<|aA<|sp h ⟨_,k,k,(pV [1] (bM k2) (dQ k<|bA) k4)⟩;refine aC<|tn<|aD<|sR<|aT k2<|sQ<|sR<|fp k8<|lp k8<|ae (iQ k k) k<|aT k2<|aD<|oB h λy9 hy9 h=>cJ (body:=(eN a0 x1)) hy9 (λ(x2:(Int×Int))=>mN [(1,.ptr 0 0 0),(4,.own 1 0 x1.length),(5,.int x2.1),(6,.int x2.2)] [(0,⟨3,[eQ a0]⟩),(1,⟨1,x1.map (ow eI)⟩)] 2) (λr e t=>e= .exit 2∧Ent t (mN [(1,.ptr 0 0 0),(4,.own 1 0 x1.length),(5,.int r)] [(0,⟨3,[eQ a0]⟩),(1,⟨1,x1.map (ow eI)⟩)] 2)) (bT (bM k2) (cK k<|dQ k<|bA) k4) ?_ ?_
  ·intro x2 o h;exact sQ<|sR<|am k k<|cm k4<|an<|tn<|dI k h (λ_ h=>aC<|tn<|sQ<|aD<|sR<|am k k<|am k k<|oB h λv5 hv5 h=>ae (aE (cY x1 x2.2 v5 hv5) k (vcT k k (fJ k aH))) k<|ae (eE k) k<|am k k<|qQ h (λq6 h=>aO 26 k q6<|lp k8<|am k k<|am k k<|oB h λv7 hv7 h=>ae (aE (lS a0 x2.2 x1 v7 hv7) k (aP (lI k) (fJ k (vcT k k aH)))) k<|pk k3<|an<|tn<|dI k h (λ_ h=>rg<|am k k<|aa k k<|an<|aL<|tn<|rg<|am k k<|ae (iQ k k) k<|aT k2<|sp h ⟨_,k,(bT (bM k2) (cK k<|dQ k<|bA) k4)⟩) λ_ h=>aC<|aL<|tn<|rg<|am k k<|ae (iQ k k) k<|aT k2<|sp h ⟨_,k,(bT (bM k2) (cK k<|dQ k<|bA) k4)⟩) λq6 h=>aO 26 k q6<|aK k4<|aK k4<|pk k3<|an<|tn<|eG k k<|aC<|aL<|tn<|rg<|am k k<|ae (iQ k k) k<|aT k2<|sp h ⟨_,k,(bT (bM k2) (cK k<|dQ k<|bA) k4)⟩) λ_ h=>aU<|aA<|aA<|sp h ⟨_,k,k,(bT (bM k2) (cK k<|dQ k<|bA) k4)⟩
  ·rintro e t ⟨rfl,hent⟩;exact aN<|tn<|aM hent<|sQ<|sR<|am k k<|cm k4<|an<|tn<|dI k h (λ_ h=>sR<|aa k k<|aT k2<|aG<|aI<|bN<|aI<|sp h ⟨_,k,k,aX k k k (mG k (iW (sO (k)) (iW (k) sP)))⟩) λ_ h=>aC<|tn<|rg<|am k k<|am k k<|ae (wl k) k<|cG h λq11 h=>ae (iR aR (l:=x1) (m:=[y9]) jO q11 k k k k k k k k k k k k) k<|aa k k<|an<|aL<|tn<|sp h ⟨_,k,(pV [0,3] (bM k2) (cK k<|dQ k<|bA) k4)⟩
 ·intro e t hX;rcases y12 with y13|y14
  ·obtain ⟨rfl,hent⟩:=hX;exact aN<|tn<|aM hent<|sR<|am k k<|aa k k<|aT k2<|aG<|sp h (aX k k k (mG k (iW (sO (oD kQ k k)) (iW (k) sP))))
  ·obtain ⟨rfl,hent⟩:=hX;exact bN<|aI<|sp h hent
def gL (a0:Qv):Option Bool:=
 (iM a0).bind λv1=>
 some (v1.2)
theorem qB (a0:Qv) (r:Bool) (h:gL a0=some r):HasC Tryd.prog 28 [.agg (eQ a0)] (.bl r):=by
 exact hM [.tmp 2] Tryd.func28 Tryd.ntmps28 k<|sR<|ae (wb k) k<|aT k2<|sR<|lp k8<|oB h λv1 hv1 h=>ae (cT kQ (tJ a0 v1 hv1) k3 (aP (lI k) aH)) k<|am k k<|ae (jT k k (by intro _ h;cases h)) k<|ae (jT k k (by intro _ h;cases h)) k<|aa k k<|aT k2<|sR<|am k k<|aT k2<|aG<|nC h k2
end
noncomputable section
theorem qC {l:List Int} (hl:l.length≤1048576) (k:Int):cI l k=some (decide (k∈l)):=by
 unfold cI;rw [aDz (n:=l.length) (λi=>decide (gx l i=k)) true (by omega) (λi hi=>?_) (λ_=>?_),aB]
 ·have e:(List.range l.length).any (λi=>decide (gx l i=k))=decide (k∈l):=by
   rw [Bool.eq_iff_iff,List.any_eq_true,lX];constructor
   ·rintro ⟨i,hi,he⟩;have hi:=List.mem_range.1 hi;have he:=of_decide_eq_true he;subst he;exact wP hi
   ·intro h;obtain ⟨i,hi,rfl⟩:=List.mem_iff_getElem.1 h;exact ⟨i,List.mem_range.2 hi,by simp [gx,hi]⟩
  rw [e];cases decide (k∈l) <;> rfl
 ·unfold hY;rw [mE hi,aF,vJ hi,aB];cases decide (gx l i=k) <;> rfl
 ·unfold hY;rw [lW (bU _),aJ]
theorem rP {l:List Int} (hl:l.length≤1048576) (k:Int):bL l k=some (decide (k∈l)):=by
 unfold bL fH;rw [vB (s0:=0) (s:=0) (n:=l.length) (λi=>bif decide (k=gx l i) then some (i:Int) else none) rfl (by omega) (Nat.zero_le _) (λi _ hi=>?_) (λ_=>?_)]
 ·rw [aB];cases e:(List.range' 0 (l.length - 0)).findSome? (λi:Nat=>bif decide (k=gx l i) then some (i:Int) else none) with
  |none=>
   rw [List.findSome?_eq_none_iff] at e
   have:decide (k∈l)=false:=by
    rw [decide_eq_false_iff_not];intro hm;obtain ⟨j,hj,e2⟩:=List.mem_iff_getElem.1 hm;have:=e j (by simp;omega);have hg:gx l j=k:=by simp [gx,hj,e2]
    rw [hg,aS rfl] at this;cases this
   rw [this];rfl
  |some i=>
   obtain ⟨j,hj,he⟩:=List.exists_of_findSome?_eq_some e;simp at hj;have hjl:j<l.length:=by omega
   by_cases c:k=gx l j
   ·rw [aS c] at he;cases he;rw [aS (show k∈l by rw [c];exact wP hjl)];show (Option.bind (some ((j:Nat):Int)) λv1=>some (decide (0≤v1)))=some true;rw [aB,aS (by omega)]
   ·rw [bX c] at he;cases he
 ·unfold cX;rw [mE hi,aF,vJ hi,aB];cases decide (k=gx l i) <;> rfl
 ·unfold cX;rw [lW (bU _),aJ]
def dn (c:Nat→Bool):Nat→Int→Int
 |0,acc=>acc
 |k+1,acc=>dn c k (bif c k then (k:Int) else acc)
theorem wS {body:Int×Int→Option ((Int×Int) ⊕ Int)} (c:Nat→Bool) {n:Nat} (hn:n≤1000) (hs: ∀ (acc:Int) (k:Nat),k<n→body (acc,(k:Int))=some (.inl (bif c k then (k:Int) else acc,wr ((k:Int) - 1)))) (he: ∀ acc:Int,body (acc, -1)=some (.inr acc)):
  ∀ (k:Nat) (acc:Int),k≤n→Lp body (acc,(k:Int) - 1)=some (dn c k acc)
 |0,acc,_=>cZ (by rw [show ((0:Nat):Int) - 1= -1 by omega];exact he acc)
 |k+1,acc,hk=>by
  have h:=hs acc k (by omega);rw [show ((k+1:Nat):Int) - 1=(k:Int) by omega,dS h,eT (by omega)];exact wS c hn hs he k _ (by omega)
def tK (q:Qv) (out:List Int) (v:Nat):Bool:=(List.range q.src.length).all λi=> !decide (gx q.tgt i=v)||decide (gx q.src i∈out)
def cO (q:Qv) (out:List Int) (v:Nat):Bool:= !decide ((v:Int)∈out)&&tK q out v
def yX (q:Qv) (n:Nat):Nat→List Int→List Int ⊕ (List Int×Bool)
 |0,out=> .inl out
 |k+1,out=>if dn (cO q out) n (-1)<0 then .inr ([],false) else yX q n k (out++[dn (cO q out) n (-1)])
def uG (q:Qv) (n:Nat):List Int×Bool:=match yX q n n [] with
 | .inl l=>(l,true)
 | .inr r=>r
theorem aDe {q:Qv} {n:Nat} (Q:QOk q n) {out:List Int} (ho:out.length≤1000) (v:Nat):eB q v out=some (tK q out v):=by
 have m6:=Q.m6;have me:=Q.eq;unfold eB;rw [wF (n:=q.tgt.length) (λi=> !decide (gx q.tgt i=v)||decide (gx q.src i∈out)) false (by omega) (λi hi=>?_) (λ_=>?_),aB]
 ·rw [←me];show Sum.elim _ _ (bif tK q out v then _ else _)=_;cases tK q out v <;> rfl
 ·unfold dG;rw [mE hi,aF,vJ hi,aB];cases h1:decide (gx q.tgt i=(v:Int)) with
  |false=>rfl
  |true=>
   rw [aF,vJ (by omega),aB,rP (by omega),aB];cases decide (gx q.src i∈out) <;> rfl
 ·unfold dG;rw [lW (bU _),aJ]
theorem aAN {q:Qv} {n:Nat} (Q:QOk q n) {out:List Int} (ho:out.length≤1000):Lp (eN q out) (-1,wr (q.n - 1))=some (dn (cO q out) n (-1)):=by
 have n5:=Q.n5;have n1:=Q.n1;rw [Q.n0,eT (by omega)];refine wS (cO q out) (n:=n) (by omega) (λacc k hk=>?_) (λacc=>?_) n _ (bU _)
 ·unfold eN;simp only;rw [aS (by omega),aF,rP (by omega),aB];unfold cO;cases h1:decide ((k:Int)∈out) with
  |true=>rfl
  |false=>
   rw [Bool.not_false,aF,aDe Q ho,aB,Bool.true_and];cases tK q out k <;> rfl
 ·unfold eN;simp only;rw [bX (by omega),aJ]
theorem aAO {q:Qv} {n:Nat} (Q:QOk q n) {out:List Int} (ho:out.length≤1000):Lp (eM q out) (-1,wr (q.n - 1))=some (dn (cO q out) n (-1)):=by
 have n5:=Q.n5;have n1:=Q.n1;have m6:=Q.m6;have me:=Q.eq;rw [Q.n0,eT (by omega)];refine wS (cO q out) (n:=n) (by omega) (λacc k hk=>?_) (λacc=>?_) n _ (bU _)
 ·unfold eM;simp only
  rw [aS (by omega),aF,qC (by omega),aB,
   gV (s:=(!decide ((k:Int)∈out),(0:Int))) (r:=cO q out k) (λj=>(!decide ((k:Int)∈out)&&(List.range j).all λi=> !decide (gx q.tgt i=(k:Int))||decide (gx q.src i∈out),(j:Int))) q.src.length (by simp) (λj hj=>?_) (λ_=>?_),aB]
  ·cases cO q out k <;> rfl
  ·unfold fZ;simp only;rw [mE hj,aF,List.range_succ,List.all_append,←Bool.and_assoc];cases !decide ((k:Int)∈out)&&(List.range j).all λi=> !decide (gx q.tgt i=(k:Int))||decide (gx q.src i∈out) with
   |false=>rw [cF hj (by omega)];rfl
   |true=>
    rw [aF,vJ (by omega),aB,cF hj (by omega)];simp only [List.all_cons,List.all_nil,Bool.and_true,Bool.true_and];cases h1:decide (gx q.tgt j=(k:Int)) with
    |false=>rfl
    |true=>
     rw [gS,aJ,vJ hj,aB,qC (by omega),aB];rfl
  ·unfold fZ;simp only;rw [lW (bU _),aJ];rfl
 ·unfold eM;simp only;rw [bX (by omega),aJ]
theorem vM {q:Qv} {n:Nat} (Q:QOk q n): ∀ (d:Nat) {out:List Int},out.length+d=n→Lp (dN q) out=some (yX q n d out)
 |0,out,h=>by
  refine cZ ?_;unfold dN;rw [Q.n0,bX (by omega),aJ];rfl
 |d+1,out,h=>by
  have n5:=Q.n5
  have hb:dN q out=some (if dn (cO q out) n (-1)<0 then .inr (.inr ([],false)) else .inl (out++[dn (cO q out) n (-1)])):=by
   unfold dN;rw [show decide (((out.length:Nat):Int)<q.n)=true from aS (by rw [Q.n0];omega),aF,aAN Q (by omega),aB];by_cases h1:dn (cO q out) n (-1)<0
   ·rw [aS h1,aF,bK h1]
   ·rw [bX h1,aJ,aY h1,aS (by simp;omega),aF]
  rw [yX];by_cases h1:dn (cO q out) n (-1)<0
  ·rw [bK h1] at hb ⊢;exact cZ hb
  ·rw [aY h1] at hb ⊢;rw [dS hb];exact vM Q d (by simp;omega)
theorem vN {q:Qv} {n:Nat} (Q:QOk q n): ∀ (d:Nat) {out:List Int},out.length+d=n→Lp (dM q) out=some (yX q n d out)
 |0,out,h=>by
  refine cZ ?_;unfold dM;rw [hU Q.bq,Q.qv,aB,aF,Q.n0,bX (by omega),aJ];rfl
 |d+1,out,h=>by
  have n5:=Q.n5
  have hb:dM q out=some (if dn (cO q out) n (-1)<0 then .inr (.inr ([],false)) else .inl (out++[dn (cO q out) n (-1)])):=by
   unfold dM;rw [hU Q.bq,Q.qv,aB,aF,show decide (((out.length:Nat):Int)<q.n)=true from aS (by rw [Q.n0];omega),aF,aAO Q (by omega),aB];by_cases h1:dn (cO q out) n (-1)<0
   ·rw [aS h1,aF,bK h1]
   ·rw [bX h1,aJ,aY h1,aS (by simp;omega),aF]
  rw [yX];by_cases h1:dn (cO q out) n (-1)<0
  ·rw [bK h1] at hb ⊢;exact cZ hb
  ·rw [aY h1] at hb ⊢;rw [dS hb];exact vN Q d (by simp;omega)
theorem yY {q:Qv} {n:Nat} (Q:QOk q n):iM q=some (uG q n):=by
 unfold iM uG;rw [kA Q.bq,Q.qv,aB,gS,aJ,vM Q n (by simp),aB];cases yX q n n [] <;> rfl
theorem yZ {q:Qv} {n:Nat} (Q:QOk q n):iL q=some (uG q n):=by
 unfold iL uG;rw [vN Q n (by simp),aB];cases yX q n n [] with
 |inl l=>
  simp only [Sum.elim_inl];rw [hU Q.bq,Q.qv,aB]
 |inr r=>rfl
theorem aEJ {q:Qv} {n:Nat} (Q:QOk q n):gL q=some (uG q n).2∧gK q=some (uG q n).2:=by
 constructor
 ·unfold gL;rw [yY Q,aB]
 ·unfold gK;rw [yZ Q,aB]
end
end Go.Proofs.YtpppcfhgaehcjaaDoor

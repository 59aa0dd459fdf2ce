/-
  Several texts of the claim in one.
-/
import Derived.Test.YtghechfdejhapaaGreatProg
import Derived.Test.YtghechfdejhapaaGreatJ7
set_option linter.unusedVariables false
set_option linter.unusedSimpArgs false
namespace Go.Proofs.YtghechfdejhapaaGreat
open Go.RowKit
noncomputable section
def gK (L:List Nat):List Int:=L.map λt:Nat=>(t:Int)
theorem dV (L:List Nat):(gK L).length=L.length:=by simp [gK]
theorem aFi {p:Int} {m:Nat} {F:Nat→Nat→Int} {j:Nat} (h:(cP p m F j).2.length=m): ∀ d,cP p m F (j+d)=cP p m F j
 |0=>rfl
 |d+1=>by
  show fW p m (cP p m F (j+d)) (j+d)=_;rw [aFi h d];unfold fW;rw [aX];rw [h,Nat.sub_self];rfl
def aAK (F:Nat→Nat→Int) (a b x:Nat):Nat→Nat→Int:=λi y=>if y<x then tY F a b i y else F i y
def wK (p:Int) (F:Nat→Nat→Int) (a:Nat) (s:Int) (x:Nat):Nat→Nat→Int:=λi y=>if y<x then rX p F a s i y else F i y
def iD (p:Int) (F:Nat→Nat→Int) (a j x:Nat):Nat→Nat→Int:=λi c=>if i<x then vX p F a j i c else F i c
theorem aHA {r c a b x:Nat} (F:Nat→Nat→Int):bW r c (aDQ (aDQ (aAK F a b x) a x (F b x)) b x (F a x))=bW r c (aAK F a b (x+1)):=by
 refine cE λi y hi hy=>?_;simp only [aDQ,aAK,tY];by_cases e:y=x
 ·subst e;simp only [and_true,Nat.lt_irrefl,if_false,Nat.lt_succ_self,if_true];by_cases e1:i=b
  ·rw [aX e1];by_cases e2:i=a
   ·rw [aX e2];subst e1;rw [e2]
   ·rw [aZ e2,aX e1]
  ·rw [aZ e1];by_cases e2:i=a
   ·rw [aX e2,aX e2]
   ·rw [aZ e2,aZ e2,aZ e1]
 ·rw [aZ (by omega),aZ (by omega)];by_cases e1:y<x
  ·rw [aX e1,aX (show y<x+1 by omega)]
  ·rw [aZ e1,aZ (show ¬ y<x+1 by omega)]
theorem aBE {F:Nat→Nat→Int} {a b x i:Nat} :aAK F a b x i x=F i x:=by simp [aAK]
theorem aFj {p:Int} {F:Nat→Nat→Int} {a x i:Nat} {s:Int} :wK p F a s x i x=F i x:=by simp [wK]
theorem aFk {p:Int} {r c a x:Nat} {s:Int} (F:Nat→Nat→Int):bW r c (aDQ (wK p F a s x) a x ((F a x*s) % p))=bW r c (wK p F a s (x+1)):=by
 refine cE λi y hi hy=>?_;simp only [aDQ,wK,rX];by_cases e:y=x
 ·subst e;simp only [and_true,Nat.lt_irrefl,if_false,Nat.lt_succ_self,if_true]
 ·rw [aZ (by omega)];by_cases e1:y<x
  ·rw [aX e1,aX (show y<x+1 by omega)]
  ·rw [aZ e1,aZ (show ¬ y<x+1 by omega)]
theorem aKz {p r:Int} (hp:tX p=true) (hr:0≤r∧r<p):0≤aBN p r∧aBN p r<p:=aKh hp hr _
theorem aJE {p:Int} {m n k r:Nat} {F:Nat→Nat→Int} (h:InP p m n F) (hk:k<m) (hr:r<m):InP p m n (tY F k r):=by
 intro i c hi hc;unfold tY;split
 ·exact h r c hr hc
 ·split
  ·exact h k c hk hc
  ·exact h i c hi hc
theorem aHB {p:Int} (hp:tX p=true) {m n k:Nat} {s:Int} {F:Nat→Nat→Int} (h:InP p m n F):InP p m n (rX p F k s):=by
 intro i c hi hc;unfold rX;split
 ·exact tJ hp
 ·exact h i c hi hc
theorem aLz {p:Int} (hp:tX p=true) {m n k j x:Nat} {F:Nat→Nat→Int} (h:InP p m n F):InP p m n (iD p F k j x):=by
 intro i c hi hc;unfold iD vX;split
 ·split
  ·rename_i h1 h2;subst h2;exact h _ c hi hc
  ·exact tJ hp
 ·exact h i c hi hc
theorem aNI {p:Int} (hp:tX p=true) {m n k j x:Nat} {F:Nat→Nat→Int} (hx:x≠k):bW m n (aFg p (iD p F k j x) x (p - F x j) (iD p F k j x k))=bW m n (iD p F k j (x+1)):=by
 refine cE λi c hi hc=>?_;simp only [aFg,iD,vX];by_cases e:i=x
 ·subst e;rw [aX rfl,aZ (Nat.lt_irrefl _),aX (Nat.lt_succ_self _),aZ hx];simp only [if_true,ite_self];rw [show F i c+(p - F i j)*F k c=(F i c - F i j*F k c)+p*F k c by rw [Int.sub_mul];omega,Int.add_mul_emod_self_left]
 ·rw [aZ e];by_cases e1:i<x
  ·rw [aX e1,aX (show i<x+1 by omega)]
  ·rw [aZ e1,aZ (show ¬ i<x+1 by omega)]
theorem aHC {p:Int} {m n k j:Nat} {F:Nat→Nat→Int} :bW m n (iD p F k j k)=bW m n (iD p F k j (k+1)):=by
 refine cE λi c hi hc=>?_;simp only [iD,vX];by_cases e:i<k
 ·rw [aX e,aX (show i<k+1 by omega)]
 ·rw [aZ e];by_cases e1:i=k
  ·subst e1;simp
  ·rw [aZ (show ¬ i<k+1 by omega)]
theorem aFl {p:Int} {F:Nat→Nat→Int} {k r j:Nat} :fS p F k r j=vX p (rX p (tY F k r) k (aBN p (F r j))) k j:=rfl
structure Tb (p:Int) (m n:Nat) (F:Nat→Nat→Int):Prop where
 hp:tX p=true
 hN:m*n≤1048576
 hm:m≤1048576
 hn:n≤1048576
 hi:InP p m n F
theorem aPM {p:Int} {m n:Nat} {F:Nat→Nat→Int} (T:Tb p m n F) {j:Nat} (hj:j<n) (L:List Nat) (hL:L.length≤m) (l:List Int):
  Lp (mF ⟨m,n,l⟩ ((j:Int),bW m n F,gK L)) (((gK L).length:Nat):Int)=some ((mA F j (m - L.length) L.length:Nat):Int):=by
 obtain ⟨hp,hN,hm,hn,hi⟩:=T;have hle:= @wV F j (m - L.length) L.length;have hz:= @aBl F j (m - L.length) L.length;have hh:= @aBB F j (m - L.length) L.length;generalize mA F j (m - L.length) L.length=r at*;rw [dV];refine dL (λt=>((L.length+t:Nat):Int)) (r - L.length) (by simp) (λt ht=>?_) (λ_=>?_)
 ·unfold mF;simp only
  rw [jS (by omega),aN,aFf hN hm (by omega),aA,uI hN (by omega),uJ hN hm (by omega),dZ,dZ,Nat.add_sub_cancel_left,jS hj,gd,aN,Nat.zero_add,dZ,kA _ (by omega) hj,aA,
   hz _ (by omega) (by omega),bK rfl,aN,cB (n:=m) (by omega) (by omega),Nat.add_assoc]
 ·rw [show L.length+(r - L.length)=r by omega];unfold mF;simp only;rcases eJ r m with h|h
  ·rw [jS h,aN,aFf hN hm h,aA,uI hN h,uJ hN hm h,dZ,dZ,Nat.add_sub_cancel_left,jS hj,gd,aN,Nat.zero_add,dZ,kA _ h hj,aA,
    cY (hh (by omega)),aY]
  ·rw [mM h,aY]
theorem aOU {p:Int} {m n:Nat} {F:Nat→Nat→Int} (T:Tb p m n F) {j:Nat} (hj:j<n) (L:List Nat) (hL:L.length≤m) (l:List Int):
  mG p ⟨m,n,l⟩ ((j:Int),bW m n F,gK L)=some (.inl (((j+1:Nat):Int),bW m n (fW p m (F,L) j).1,gK (fW p m (F,L) j).2)):=by
 have hpv:=aPM T hj L hL l;obtain ⟨hp,hN,hm,hn,hi⟩:=T;have hb:=eG hp;have hle:= @wV F j (m - L.length) L.length;unfold mG fW;simp only;rw [jS hj,aN,hpv,aA,cB hj (by omega)];clear hpv;generalize mA F j (m - L.length) L.length=r at*;by_cases hr:r=m
 ·rw [bK (by omega),aN,aX hr]
 ·rw [cY (by omega),aY,aZ hr];have hk:L.length<m:=by omega
  have hrm:r<m:=by omega
  simp only [dV];rw [aFf hN hm hk,aA,uI hN hk,uJ hN hm hk];simp only [dZ,Nat.add_sub_cancel_left,Nat.zero_add];rw [dL (r:=bW m n (tY F L.length r)) (λx=>(bW m n (aAK F L.length r x),(x:Int))) n ?_ (λx hx=>?_) (λ_=>?_),aA,jS hj,gd,aN,kA _ hk hj,aA]
  ·have e1:tY F L.length r L.length j=F r j:=by simp [tY]
   have hrj:=hi r j hrm hj;rw [e1,aLu hp,aA,Int.emod_eq_of_lt hrj.1 hrj.2];have hs:=aKz hp hrj;rw [aFl];generalize aBN p (F r j)=s at*;have h1:=aJE hi hk hrm;generalize tY F L.length r=F1 at*;rw [dL (r:=bW m n (rX p F1 L.length s)) (λx=>(bW m n (wK p F1 L.length s x),(x:Int))) n ?_ (λx hx=>?_) (λ_=>?_),aA]
   ·have h2:=aHB hp (k:=L.length) (s:=s) h1;generalize rX p F1 L.length s=F2 at*;rw [dL (r:=bW m n (vX p F2 L.length j)) (λx=>(bW m n (iD p F2 L.length j x),(x:Int))) m ?_ (λx hx=>?_) (λ_=>?_),aA]
    ·rw [bK (by simp;omega),aN];simp [gK]
    ·congr 1
    ·unfold pS;simp only [dV];rw [jS hx,aN];by_cases hxk:x=L.length
     ·rw [bK (by omega),eO,aY,cB hx (by omega),hxk,aHC]
     ·rw [cY (by omega),Bool.not_false,aN,aFf hN hm hx,aA,aA,uI hN hx,uJ hN hm hx,uI hN hk,uJ hN hm hk];simp only [dZ,Nat.add_sub_cancel_left,Nat.zero_add];rw [jS hj,gd,aN,kA _ hx hj,aA];have e2:iD p F2 L.length j x x j=F2 x j:=by simp [iD]
      have h3:=h2 x j hx hj;have h4:=aLz hp (k:=L.length) (j:=j) (x:=x) h2;rw [e2,dC (by omega),aLy hp hn hx hk hxk (by omega) (λb hb=>h4 _ b hx hb) (λb hb=>h4 _ b hk hb),aA,eD,eD,bK rfl,aN,cB hx (by omega),aNI hp hxk]
    ·unfold pS;simp only;rw [mM (bN _),aY];congr 2;exact cE λa b ha hb=>by simp only [iD];rw [aX ha]
   ·congr 1
   ·unfold pR;simp only [dV];rw [uI hN hk,uJ hN hm hk];simp only [dZ,Nat.add_sub_cancel_left,Nat.zero_add];have g1:=h1 _ x hk hx;have g2:=aGL (a:=F1 L.length x) (b:=s) (by omega) (by omega);rw [jS hx,aN,gd,aN,kA _ hk hx,aA,aLx hp,aN,aN,aA,aFj,dC (by omega),Int.tmod_eq_emod_of_nonneg g2.1,yS _ _ hk hx,cB hx (by omega),aFk]
   ·unfold pR;simp only [dV];rw [uI hN hk,uJ hN hm hk];simp only [dZ,Nat.add_sub_cancel_left,Nat.zero_add];rw [mM (bN _),aY];congr 2;exact cE λa b ha hb=>by simp only [wK];rw [aX hb]
  ·congr 1
  ·unfold pQ;simp only [dV];rw [jS hx,aN,aFf hN hm hrm,aA,aA,uI hN hk,uJ hN hm hk,uI hN hrm,uJ hN hm hrm];simp only [dZ,Nat.add_sub_cancel_left,Nat.zero_add];rw [jS hx,gd,aN,kA _ hrm hx,aA,aN,kA _ hk hx,aA,aN,aA,aN,yS _ _ hk hx,kA _ hrm hx,aA,yS _ _ hrm hx,aBE,aBE,cB hx (by omega),aHA]
  ·unfold pQ;simp only;rw [mM (bN _),aY];congr 2;exact cE λa b ha hb=>by simp only [aAK];rw [aX hb]
theorem aCn {p:Int} {m n:Nat} {F:Nat→Nat→Int} (T:Tb p m n F):qP p ⟨m,n,bW m n F⟩=some (⟨m,n,bW m n (cP p m F n).1⟩,gK (cP p m F n).2):=by
 have hN:=T.hN;have hn:=T.hn;unfold qP eX tB;simp only;rw [eD,bK hN,aN,aA,aA];simp only;rw [dL (r:=(bW m n (cP p m F n).1,gK (cP p m F n).2)) (λj=>((j:Int),bW m n (cP p m F j).1,gK (cP p m F j).2)) n (by simp [cP,gK]) (λj hj=>?_) (λ_=>?_),aA]
 ·show _=some (Sum.inl (((j+1:Nat):Int),bW m n (fW p m (cP p m F j) j).1,gK (fW p m (cP p m F j) j).2):(Int×List Int×List Int) ⊕ (List Int×List Int));exact aOU ⟨T.hp,T.hN,T.hm,T.hn,wW (by have:=eG T.hp;omega) T.hi j⟩ hj _ (wN j) _
 ·unfold mG;simp only;rw [mM (bN _),aY]
theorem aFm {p:Int} {m n:Nat} {F:Nat→Nat→Int} (T:Tb p m n F):vH p ⟨m,n,bW m n F⟩=some ((cP p m F n).2.length:Int):=by
 unfold vH;rw [aCn T,aA,dV]
theorem aPN {p:Int} {m n:Nat} {F:Nat→Nat→Int} (T:Tb p m n F) {j:Nat} (hj:j<n) (L:List Nat) (hL:L.length<m) (l:List Int):
  Lp (jB ⟨m,n,l⟩ ((j:Int),bW m n F,gK L,(L.length:Int))) (-1,wr ((m:Int) - 1))=some (if mA F j (m - L.length) L.length=m then -1 else ((mA F j (m - L.length) L.length:Nat):Int)):=by
 obtain ⟨hp,hN,hm,hn,hi⟩:=T;refine dL (λt=>(if mA F j t (m - t)=m then -1 else ((mA F j t (m - t):Nat):Int),((m - t:Nat):Int) - 1)) (m - L.length) ?_ (λt ht=>?_) (λ_=>?_)
 ·simp only [mA,Nat.sub_zero,if_true];rw [dC (by omega)]
 ·unfold jB;simp only;have e:((m - t:Nat):Int) - 1=((m - (t+1):Nat):Int):=by omega
  have hi2:m - (t+1)<m:=by omega
  rw [e,bK (by omega),aN,atT hN hi2 hj,aA,dC (x:=((m - (t+1):Nat):Int) - 1) (by omega)]
  have ep:mA F j (t+1) (m - (t+1))=if F (m - (t+1)) j=0 then mA F j t (m - t) else m - (t+1):=by
   rw [mA,show m - (t+1)+1=m - t by omega]
  rw [ep];by_cases h:F (m - (t+1)) j=0
  ·rw [bK h,eO,aY,aX h]
  ·rw [cY h,Bool.not_false,aN,aZ h,aZ (by omega)]
 ·rw [show m - (m - L.length)=L.length by omega];unfold jB;simp only;rw [cY (by omega),aY]
theorem aOV {p:Int} {m n:Nat} {F:Nat→Nat→Int} (T:Tb p m n F) {j:Nat} (hj:j<n) (L:List Nat) (hL:L.length<m) (l:List Int):
  fH p ⟨m,n,l⟩ ((j:Int),bW m n F,gK L,(L.length:Int))=some (.inl (((j+1:Nat):Int),bW m n (fW p m (F,L) j).1,gK (fW p m (F,L) j).2,((fW p m (F,L) j).2.length:Int))):=by
 have hpv:=aPN T hj L hL l;obtain ⟨hp,hN,hm,hn,hi⟩:=T;have hb:=eG hp;have hle:= @wV F j (m - L.length) L.length;unfold fH fW;simp only;rw [jS hj,aN,jS hL,aN,hpv,aA,cB hj (by omega)];clear hpv;generalize mA F j (m - L.length) L.length=r at*;have hk:L.length<m:=hL;by_cases hr:r=m
 ·rw [aX hr,aX hr,bK (by omega),aN]
 ·rw [aZ hr,aZ hr,cY (by omega),aY];have hrm:r<m:=by omega
  rw [dL (r:=bW m n (tY F L.length r)) (λx=>(bW m n (aAK F L.length r x),(x:Int))) n ?_ (λx hx=>?_) (λ_=>?_),aA,atT hN hk hj,aA]
  ·have e1:tY F L.length r L.length j=F r j:=by simp [tY]
   have hrj:=hi r j hrm hj;rw [e1,aLv hp (by omega),aA,Int.emod_eq_of_lt hrj.1 hrj.2];have hs:=aKz hp hrj;rw [aFl];generalize aBN p (F r j)=s at*;have h1:=aJE hi hk hrm;generalize tY F L.length r=F1 at*;rw [dL (r:=bW m n (rX p F1 L.length s)) (λx=>(bW m n (wK p F1 L.length s x),(x:Int))) n ?_ (λx hx=>?_) (λ_=>?_),aA]
   ·have h2:=aHB hp (k:=L.length) (s:=s) h1;generalize rX p F1 L.length s=F2 at*;rw [dL (r:=bW m n (vX p F2 L.length j)) (λx=>(bW m n (iD p F2 L.length j x),(x:Int))) m ?_ (λx hx=>?_) (λ_=>?_),aA]
    ·rw [dV,bK (by simp;omega),aN,cB hk (by omega)];simp [gK]
    ·congr 1
    ·unfold mU;simp only;rw [jS hx,aN,atT hN hx hj,aA,cB hx (by omega)];have e2:iD p F2 L.length j x x j=F2 x j:=by simp [iD]
     rw [e2];by_cases hxk:x=L.length
     ·rw [iK (r:=bW m n (iD p F2 L.length j x)) ?_,aA,hxk,aHC];unfold jC;simp only;rcases Nat.eq_zero_or_pos n with h0|h0
      ·omega
      ·rw [bK (by omega),aN,bK (by omega),eO,aY]
     ·rw [dL (r:=bW m n (iD p F2 L.length j (x+1))) (λy=>(bW m n (λa c=>if a=x∧c<y then vX p F2 L.length j x c else iD p F2 L.length j x a c),(y:Int))) n (by simp) (λy hy=>?_) (λ_=>?_),aA]
      ·unfold jC;simp only;rw [jS hy,aN,cY (by omega),Bool.not_false,aN,atT hN hx hy,aA,atT hN hk hy,aA];have e3:iD p F2 L.length j x x y=F2 x y:=by simp [iD]
       have e4:iD p F2 L.length j x L.length y=F2 L.length y:=by simp [iD,vX]
       rw [aZ (by omega),aZ (by omega),e3,e4];have g1:=h2 x j hx hj;have g2:=h2 L.length y hk hy;have g3:=h2 x y hx hy;have g4:=aGL (a:=F2 x j) (b:=F2 L.length y) (by omega) (by omega);rw [dC (x:=F2 x j*F2 L.length y) (by omega),dC (x:=F2 x y - F2 x j*F2 L.length y) (by omega),wI hp (by omega),aA,aA,aLw hN hx hy,cB hy (by omega)];congr 3;refine cE λa c ha hc=>?_;simp only [aDQ];by_cases e5:a=x∧c=y
       ·rw [aX e5,aX (by omega),e5.2];simp only [vX];rw [aZ hxk]
       ·rw [aZ e5];by_cases e6:a=x∧c<y
        ·rw [aX e6,aX (by omega)]
        ·rw [aZ e6,aZ (by omega)]
      ·unfold jC;simp only;rw [mM (bN _),aY];congr 2;refine cE λa c ha hc=>?_;simp only [iD];by_cases e5:a=x
       ·rw [aX ⟨e5,hc⟩,aX (by omega),e5]
       ·rw [aZ (by omega)];by_cases e6:a<x
        ·rw [aX e6,aX (by omega)]
        ·rw [aZ e6,aZ (by omega)]
    ·unfold mU;simp only;rw [mM (bN _),aY];congr 2;exact cE λa b ha hb=>by simp only [iD];rw [aX ha]
   ·congr 1
   ·unfold mT;simp only;have g1:=h1 _ x hk hx;have g2:=aGL (a:=F1 L.length x) (b:=s) (by omega) (by omega);rw [jS hx,aN,atT hN hk hx,aA,aFj,Int.mul_comm,dC (by omega),wI hp (by omega),aA,aA,aLw hN hk hx,cB hx (by omega),aFk]
   ·unfold mT;simp only;rw [mM (bN _),aY];congr 2;exact cE λa b ha hb=>by simp only [wK];rw [aX hb]
  ·congr 1
  ·unfold mS;simp only;rw [jS hx,aN,atT hN hk hx,aA,atT hN hrm hx,aA,aA,aLw hN hk hx,atT hN hrm hx,aA,aLw hN hrm hx,aBE,aBE,cB hx (by omega),aHA]
  ·unfold mS;simp only;rw [mM (bN _),aY];congr 2;exact cE λa b ha hb=>by simp only [aAK];rw [aX hb]
theorem aCo {p:Int} {m n:Nat} {F:Nat→Nat→Int} (T:Tb p m n F):nO p ⟨m,n,bW m n F⟩=some (⟨m,n,bW m n (cP p m F n).1⟩,gK (cP p m F n).2):=by
 have hN:=T.hN;have hn:=T.hn;unfold nO qO;simp only;rw [eD,bK (by simp;omega),aN,aA];simp only [List.nil_append]
 obtain ⟨r,h1,h2⟩: ∃ r,Lp (fH p ⟨m,n,bW m n F⟩) (0,bW m n F,[],0)=some r∧r=(bW m n (cP p m F n).1,gK (cP p m F n).2):=by
  refine aHb (λs=> ∃ j:Nat,j≤n∧s=((j:Int),bW m n (cP p m F j).1,gK (cP p m F j).2,((cP p m F j).2.length:Int))) (λs=>n - s.1.toNat) _ ⟨0,Nat.zero_le _,by simp [cP,gK]⟩ ?_;rintro s ⟨j,hj,rfl⟩;rcases eJ j n with hlt|hge
  ·have hlen:= @wN p m F j;rcases eJ (cP p m F j).2.length m with hl|hl
   ·refine .inl ⟨_,aOV ⟨T.hp,T.hN,T.hm,T.hn,wW (by have:=eG T.hp;omega) T.hi j⟩ hlt _ hl _,⟨j+1,hlt,rfl⟩,?_⟩;simp;omega
   ·refine .inr ⟨_,?_,rfl⟩;unfold fH;simp only;have e:=aFi (p:=p) (F:=F) (j:=j) (by omega:(cP p m F j).2.length=m) (n - j);rw [show j+(n - j)=n by omega] at e;rw [jS hlt,aN,mM hl,aY,e]
  ·have e:j=n:=by omega
   subst e;refine .inr ⟨_,?_,rfl⟩;unfold fH;simp only;rw [mM (bN _),aY]
 rw [h1,h2,aA]
end
noncomputable section
set_option maxRecDepth 10000
set_option maxHeartbeats 4000000
def rI (a0:Rp) (a1:Rp) (x1:((List Mt)×Int)):Option (((List Mt)×Int) ⊕ (List Mt)):=
 bif decide (x1.2<(a0.dims.length:Int)) then
 ((dF a0.dims x1.2).bind λv2=>
 (dF a1.dims x1.2).bind λv3=>
 (pI v3 v2).bind λv4=>
 bif decide (x1.1.length+1≤4294967296) then
 (some (.inl ((x1.1++[v4]),wr (x1.2+1))))
 else none)
 else
 (some (.inr x1.1))
def pW (a0:Rp) (a1:Rp):Option (List Mt):=
 (Lp (rI a0 a1) ([],0)).bind λy6=>
 some (y6)
theorem aAL (a0:Rp) (a1:Rp) (r:(List Mt)) (h:pW a0 a1=some r):HasC Tryz.prog 175 [.agg (eR a0),.agg (eR a1)] (.list 3 (r.map eM)):=by
 refine hM [.tmp 4] Tryz.func175 Tryz.ntmps175 k<|sR<|ae (wb k) k<|ae (wb k) k<|aT k2<|sR<|aT k2<|sQ<|sR<|fp k8<|lp k8<|ln k4<|am k k<|an<|tn<|aG<|oB h λy6 hy6 h=>bY (body:=(rI a0 a1)) hy6 (λ(x1:((List Mt)×Int))=>mN [(3,.ptr 0 0 0),(5,.own 1 0 x1.1.length),(9,.list 1 (a0.dims.map eI)),(10,.int (a0.dims.length:Int)),(11,.int x1.2)] [(0,⟨6,[eR a1]⟩),(1,⟨3,x1.1.map (ow eM)⟩)] 2) (λr e t=>e= .exit 0∧Ent t (mN [(5,.own 0 0 r.length)] [(0,⟨3,r.map (ow eM)⟩)] 1)) (iC (σ:=sg [(0,1)]) (wP 1 k2 (sO ⟨_,k,⟨k,k,k,k⟩⟩ (bL k2))) (bT k<|hX k k<|aV) k) ?_ ?_
 ·intro x1 o h;refine sR<|cm k4<|an<|tn<|sQ<|cJ k h (λ_ h=>?_) λ_ h=>bB<|aC<|aC<|sp h ⟨_,k,k,(xF [1] (bL k2) (cF (aW.plainO _) k<|aV) k4)⟩;refine aE<|tn<|sQ<|aG<|sR<|am k k<|oB h λv2 hv2 h=>ae (xl hv2 k) k<|lr k7<|aa k k<|aT k2<|rg<|am k k<|fp k8<|lp k8<|am k k<|oB h λv3 hv3 h=>ae (xl hv3 k) k<|lr k7<|am k k<|oB h λv4 hv4 h=>ae (cM (xS v3 v2 v4 hv4) k3 (cC k (cC k aJ))) k<|ae (wl k) k<|cG h λq5 h=>ae (vP aO (l:=x1.1) (c:=[.int v4.rows,.int v4.cols,.own 2 0 v4.cells.length]) q5 k k k k k k k k k k k k k k) k<|aa k k<|an<|bC<|tn<|aR (t:=mN [(3,.ptr 0 0 0),(5,.own 4 0 ((x1.1++[v4]).length)),(9,.list 1 (a0.dims.map eI)),(10,.int (a0.dims.length:Int)),(11,.int x1.2)] [(0,⟨6,[eR a1]⟩),(4,⟨3,List.map (ow eM) (x1.1++[v4])⟩)] 5) (Ent.trans (nN (b:=4) (b':=2) (j:=2) (es':=v4.cells.map eI) k k k k (aU _ _) (bH.frzs _)) (bO (wP 1 k2 (sO ⟨_,k,⟨k,k,(by simp only [aU,lA,lT,lR,lC,lN]),k⟩⟩ (bL k2))) (bT k<|hX ⟨_,k,k,.inl ⟨vQ v4 k,aW.plainO _⟩⟩ k<|aV) k4)) ?_;exact rg<|ae (bF k k) k<|am k k<|an<|tn<|sp h ⟨_,k,(xF [0,4] (bL k2) (bT k<|cF (aW.plainO _) k<|aV) k4)⟩
 ·rintro e t ⟨rfl,hent⟩;exact aP<|tn<|aR hent<|sR<|am k k<|aT k2<|aD<|sp h (bG k k k (hO (cU aW k k)))
def tK (a0:(List Mt)) (x1:((List Int)×Int)):Option (((List Int)×Int) ⊕ (List Int)):=
 bif decide (x1.2<(a0.length:Int)) then
 ((dF a0 x1.2).bind λv2=>
 bif decide (x1.1.length+v2.cells.length≤4294967296) then
 (some (.inl ((x1.1++v2.cells),wr (x1.2+1))))
 else none)
 else
 (some (.inr x1.1))
def kL (a0:(List Mt)):Option (List Int):=
 (Lp (tK a0) ([],0)).bind λy4=>
 some (y4)
theorem aAo (a0:(List Mt)) (r:(List Int)) (h:kL a0=some r):HasC Tryz.prog 219 [.list 3 (a0.map eM)] (.list 1 (r.map eI)):=by
 refine hM [.tmp 2] Tryz.func219 Tryz.ntmps219 k<|sR<|aT k2<|sR<|aT k2<|sQ<|sR<|am k k<|ln k4<|am k k<|an<|tn<|aG<|oB h λy4 hy4 h=>bY (body:=(tK a0)) hy4 (λ(x1:((List Int)×Int))=>mN [(3,.own 0 0 x1.1.length),(6,.list 3 (a0.map eM)),(7,.int (a0.length:Int)),(8,.int x1.2)] [(0,⟨1,x1.1.map (ow eI)⟩)] 1) (λr e t=>e= .exit 0∧Ent t (mN [(3,.own 0 0 r.length)] [(0,⟨1,r.map (ow eI)⟩)] 1)) (iC (σ:=sg []) (sO ⟨_,k,⟨k,k,k,k⟩⟩ (bL k2)) (hX k k<|aV) k) ?_ ?_
 ·intro x1 o h;exact sR<|cm k4<|an<|tn<|sQ<|cJ k h (λ_ h=>aE<|tn<|sQ<|aG<|sR<|oB h λv2 hv2 h=>ae (xl hv2 k) k<|lr k7<|ae (cA aO k k) k<|ae (ws k) k<|an<|tn<|rg<|am k k<|fp k8<|lp k8<|cG h λq3 h=>ae (yV aO (l:=x1.1) (m:=v2.cells) pE q3 k k k k k k k k k k k k) k<|aa k k<|an<|bC<|tn<|rg<|ae (bF k k) k<|am k k<|an<|tn<|sp h ⟨_,k,(xF [2] (bL k2) (bD k<|aV) k4)⟩) λ_ h=>bB<|aC<|aC<|sp h ⟨_,k,k,(bO (bL k2) (bD k<|aV) k4)⟩
 ·rintro e t ⟨rfl,hent⟩;exact aP<|tn<|aR hent<|sR<|am k k<|aT k2<|aD<|sp h (bG k k k (hO (cU bH k k)))
def pX (a0:(List Mt)) (x1:((List Int)×(List Mt)×Int)):Option (((List Int)×(List Mt)×Int) ⊕ (List Mt)):=
 bif decide (x1.2.2<(a0.length:Int)) then
 ((dF a0 x1.2.2).bind λv2=>
 bif (decide (0≤0)&&(decide (0≤(v2.cells.length:Int))&&decide ((v2.cells.length:Int)≤(x1.1.length:Int)))) then
 ((tB ((x1.1.drop (0:Int).toNat).take ((v2.cells.length:Int).toNat - (0:Int).toNat))).bind λv4=>
 bif decide (x1.2.1.length+1≤4294967296) then
 (bif (decide (0≤(v2.cells.length:Int))&&(decide ((v2.cells.length:Int)≤(x1.1.length:Int))&&decide ((x1.1.length:Int)≤(x1.1.length:Int)))) then
 (some (.inl (((x1.1.drop (v2.cells.length:Int).toNat).take ((x1.1.length:Int).toNat - (v2.cells.length:Int).toNat)),(x1.2.1++[(⟨v2.rows,v2.cols,v4⟩:Mt)]),wr (x1.2.2+1))))
 else none)
 else none)
 else none)
 else
 (some (.inr x1.2.1))
def nU (a0:(List Mt)) (a1:(List Int)):Option (List Mt):=
 (Lp (pX a0) (a1,[],0)).bind λy7=>
 some (y7)
theorem aBb (a0:(List Mt)) (a1:(List Int)) (r:(List Mt)) (h:nU a0 a1=some r):HasC Tryz.prog 174 [.list 3 (a0.map eM),.list 1 (a1.map eI)] (.list 3 (r.map eM)):=by
 refine hM [.tmp 4] Tryz.func174 Tryz.ntmps174 k<|sR<|aT k2<|sR<|aT k2<|sQ<|sR<|am k k<|ln k4<|am k k<|an<|tn<|aG<|oB h λy7 hy7 h=>bY (body:=(pX a0)) hy7 (λ(x1:((List Int)×(List Mt)×Int))=>mN [(1,.list 1 (x1.1.map eI)),(5,.own 0 0 x1.2.1.length),(9,.list 3 (a0.map eM)),(10,.int (a0.length:Int)),(11,.int x1.2.2)] [(0,⟨3,x1.2.1.map (ow eM)⟩)] 1) (λr e t=>e= .exit 0∧Ent t (mN [(5,.own 0 0 r.length)] [(0,⟨3,r.map (ow eM)⟩)] 1)) (iC (σ:=sg []) (wP 1 k2 (sO ⟨_,k,⟨k,k,k,k⟩⟩ (bL k2))) (hX k k<|aV) k) ?_ ?_
 ·intro x1 o h;refine sR<|cm k4<|an<|tn<|sQ<|cJ k h (λ_ h=>?_) λ_ h=>bB<|aC<|aC<|sp h ⟨_,k,k,(bO (bL k2) (cF (aW.plainO _) k<|aV) k4)⟩;refine aE<|tn<|sQ<|aG<|sR<|oB h λv2 hv2 h=>ae (xl hv2 k) k<|lr k7<|ae (cA aO k k) k<|ae (ws k) k<|an<|tn<|sR<|fp k8<|lp k8<|ln k4<|aT k2<|sQ<|aS fF<|am k k<|fp k8<|lp k8<|fp k8<|lp k8<|am k k<|am k k ?_;exact cG h λq3 h=>ae (aAG aO (l0:=x1.1) (l:=0) (h:=(v2.cells.length:Int)) q3 k k k k k k k) k<|oB h λv4 hv4 h=>ae (cL bH (aCY ((x1.1.drop (0:Int).toNat).take ((v2.cells.length:Int).toNat - (0:Int).toNat)) v4 hv4) k3 (cC k aJ)) k<|ae (iJ aO k k k k k k) k<|ae (wl k) k<|cG h λq5 h=>ae (vP aO (l:=x1.2.1) (c:=[.int v2.rows,.int v2.cols,.own 2 0 v4.length]) q5 k k k k k k k k k k k k k k) k<|aa k k<|an<|pA (by kernel_rfl)<|tn<|aR (t:=mN [(1,.list 1 (x1.1.map eI)),(5,.own 4 0 ((x1.2.1++[(⟨v2.rows,v2.cols,v4⟩:Mt)]).length)),(8,.int (v2.cells.length:Int)),(9,.list 3 (a0.map eM)),(10,.int (a0.length:Int)),(11,.int x1.2.2)] [(4,⟨3,List.map (ow eM) (x1.2.1++[(⟨v2.rows,v2.cols,v4⟩:Mt)])⟩)] 5) (Ent.trans (nN (b:=4) (b':=2) (j:=2) (es':=v4.map eI) k k k k (aU _ _) (bH.frzs _)) (bO (wP 1 k2 (sO ⟨_,k,⟨k,k,(by simp only [aU,lA,lT,lR,lC,lN]),k⟩⟩ (bL k2))) (hX ⟨_,k,k,.inl ⟨vQ (⟨v2.rows,v2.cols,v4⟩:Mt) k,aW.plainO _⟩⟩ k<|aV) k4))<|rg<|am k k<|am k k<|cG h λq6 h=>ae (aAG aO (l0:=x1.1) (l:=(v2.cells.length:Int)) (h:=(x1.1.length:Int)) q6 k k k k k k k) k<|aa k k<|an<|bC<|tn<|rg<|ae (bF k k) k<|am k k<|an<|tn<|sp h ⟨_,k,(xF [4] (bL k2) (cF (aW.plainO _) k<|aV) k4)⟩
 ·rintro e t ⟨rfl,hent⟩;exact aP<|tn<|aR hent<|sR<|am k k<|aT k2<|aD<|sp h (bG k k k (hO (cU aW k k)))
def xX (a0:Int) (a1:Mt) (a2:Int) (a3:Mt):Option Mt:=
 (eX a1).bind λv1=>
 (fG a0 v1.cells 0 v1.cells.length a2 a3.cells).bind λv2=>
 bif decide (v2.length=v1.cells.length) then
 (some ((⟨v1.rows,v1.cols,v2⟩:Mt)))
 else none
theorem aJF (a0:Int) (a1:Mt) (a2:Int) (a3:Mt) (r:Mt) (h:xX a0 a1 a2 a3=some r):HasC Tryz.prog 242 [.int a0,.agg (eM a1),.int a2,.agg (eM a3)] (.agg (eM r)):=by
 refine hM [.cell 8 113] Tryz.func242 Tryz.ntmps242 k<|sR<|ae (wb k) k<|ae (wb k) k<|ae (cA aO k k) k<|an<|tn<|sR<|lp k8<|oB h λv1 hv1 h=>ae (cM (qJ a1 v1 hv1) k3 (aI (dH k) aJ)) k<|ae (cA aO k k) k<|ae (ws k) k<|an<|tn<|sR<|am k k<|fp k8<|lp k8<|am k k<|fp k8<|lp k8<|oB h λv2 hv2 h=>ae (fA (σ:=sg [(0,3)]) (σ':=sg [(3,0)]) (touch:=[3]) (news:=[]) (hl2:=[(3,⟨1,v2.map (ow eI)⟩)]) (n':=5) (r2:= .own 3 0 v1.cells.length) (rY a0 v1.cells 0 v1.cells.length a2 a3.cells v2 hv2) k k ⟨_,_,k,k,⟨_,_,k,⟨k,k,k,k⟩,⟨_,_,k,k,⟨_,_,k,⟨k,k⟩,k⟩⟩⟩⟩ ⟨⟨_,k,k,.inl ⟨k,bH.plainO _⟩⟩,k,aV⟩ k k k ⟨⟨_,k,k,.inl ⟨k,bH.plainO _⟩⟩,k,aV⟩ k ⟨k,k,(by simp only [aU,lA,lT,lR,lC,lN]),k⟩ k ⟨k,bH.tame _ _,aV⟩ k k) k<|cG h λq3 h=>an<|tn<|sR<|lp k8 ?_;exact ae (ws k) k<|an<|tn<|aD<|sp h (bG k k k (pD (aH (k) (aH (k) (aH (cU bH k (by first|rfl|simp only [List.length_set,of_decide_eq_true q3])) fY)))))
def kM (a0:Rp) (a1:Rp) (a2:(List Mt)) (x1:((List Mt)×Int)):Option (((List Mt)×Int) ⊕ (List Mt)):=
 bif decide (x1.2<(a0.q.src.length:Int)) then
 ((dF a0.q.src x1.2).bind λv2=>
 (dF a1.maps x1.2).bind λv3=>
 (dF a2 v2).bind λv4=>
 (tG a0.p v3 v4).bind λv5=>
 (dF a0.q.tgt x1.2).bind λv6=>
 (dF a2 v6).bind λv7=>
 (dF a0.maps x1.2).bind λv8=>
 (tG a0.p v7 v8).bind λv9=>
 (xX a0.p v5 (wr (a0.p - 1)) v9).bind λv10=>
 bif decide (x1.1.length+1≤4294967296) then
 (some (.inl ((x1.1++[v10]),wr (x1.2+1))))
 else none)
 else
 (some (.inr x1.1))
def oG (a0:Rp) (a1:Rp) (a2:(List Mt)):Option (List Mt):=
 (Lp (kM a0 a1 a2) ([],0)).bind λy12=>
 some (y12)
theorem aCp (a0:Rp) (a1:Rp) (a2:(List Mt)) (r:(List Mt)) (h:oG a0 a1 a2=some r):HasC Tryz.prog 220 [.agg (eR a0),.agg (eR a1),.list 3 (a2.map eM)] (.list 3 (r.map eM)):=by
 refine hM [.tmp 6] Tryz.func220 Tryz.ntmps220 k<|sR<|ae (wb k) k<|ae (wb k) k<|aT k2<|sR<|aT k2<|sQ<|sR<|fp k8<|fp k8<|lp k8<|ln k4<|am k k<|an<|tn<|aG<|oB h λy12 hy12 h=>bY (body:=(kM a0 a1 a2)) hy12 (λ(x1:((List Mt)×Int))=>mN [(2,.list 3 (a2.map eM)),(3,.ptr 0 0 0),(4,.ptr 1 0 0),(7,.own 2 0 x1.1.length),(13,.list 1 (a0.q.src.map eI)),(14,.int (a0.q.src.length:Int)),(15,.int x1.2)] [(0,⟨6,[eR a0]⟩),(1,⟨6,[eR a1]⟩),(2,⟨3,x1.1.map (ow eM)⟩)] 3) (λr e t=>e= .exit 0∧Ent t (mN [(7,.own 0 0 r.length)] [(0,⟨3,r.map (ow eM)⟩)] 1)) (iC (σ:=sg [(0,0),(1,1)]) (wP 3 k2 (sO ⟨_,k,⟨k,k,k,k⟩⟩ (bL k2))) (bT k<|bT k<|hX k k<|aV) k) ?_ ?_
 ·intro x1 o h;refine sR<|cm k4<|an<|tn<|sQ<|cJ k h (λ_ h=>?_) λ_ h=>bB<|aC<|aC<|sp h ⟨_,k,k,(xF [2] (bL k2) (cF (aW.plainO _) k<|aV) k4)⟩;refine aE<|tn<|sQ<|aG<|sR<|am k k<|oB h λv2 hv2 h=>ae (xl hv2 k) k<|lr k7<|aa k k<|aT k2<|sQ<|aS fF<|fp k8<|lp k8<|fp k8<|lp k8<|am k k<|oB h λv3 hv3 h=>ae (xl hv3 k) k<|lr k7<|am k k<|am k k<|oB h λv4 hv4 h=>ae (xl hv4 k) k<|lr k7<|oB h λv5 hv5 h=>ae (cM (aCg a0.p v3 v4 v5 hv5) k3 (cC k (aI (dH k) (aI (dH k) aJ)))) k<|ae (cA aO k k) k<|ae (ws k) k ?_;refine an<|pA (by kernel_rfl)<|tn<|aS fF<|am k k<|fp k8<|lp k8<|lp k8<|fp k8<|lp k8<|ae (qI k k) k<|fp k8<|lp k8<|am k k<|fp k8<|fp k8<|lp k8<|am k k<|oB h λv6 hv6 h=>ae (xl hv6 k) k<|lr k7<|oB h λv7 hv7 h=>ae (xl hv7 k) k<|lr k7<|fp k8<|lp k8<|am k k<|oB h λv8 hv8 h=>ae (xl hv8 k) k<|lr k7<|oB h λv9 hv9 h=>ae (cM (aCg a0.p v7 v8 v9 hv9) k3 (cC k (aI (dH k) (aI (dH k) aJ)))) k<|oB h λv10 hv10 h=>ae (cM (aJF a0.p v5 (wr (a0.p - 1)) v9 v10 hv10) k3 (cC k (aI (vaM k2) (cC k (aI (vaM k2) aJ))))) k<|ae (wl k) k ?_;exact cG h λq11 h=>ae (vP aO (l:=x1.1) (c:=[.int v10.rows,.int v10.cols,.own 6 0 v10.cells.length]) q11 k k k k k k k k k k k k k k) k<|aa k k<|an<|pA (by kernel_rfl)<|bC<|tn<|aR (t:=mN [(2,.list 3 (a2.map eM)),(3,.ptr 0 0 0),(4,.ptr 1 0 0),(7,.own 8 0 ((x1.1++[v10]).length)),(13,.list 1 (a0.q.src.map eI)),(14,.int (a0.q.src.length:Int)),(15,.int x1.2)] [(0,⟨6,[eR a0]⟩),(1,⟨6,[eR a1]⟩),(8,⟨3,List.map (ow eM) (x1.1++[v10])⟩)] 9) (Ent.trans (nN (b:=8) (b':=6) (j:=2) (es':=v10.cells.map eI) k k k k (aU _ _) (bH.frzs _)) (bO (wP 3 k2 (sO ⟨_,k,⟨k,k,(by simp only [aU,lA,lT,lR,lC,lN]),k⟩⟩ (bL k2))) (bT k<|bT k<|hX ⟨_,k,k,.inl ⟨vQ v10 k,aW.plainO _⟩⟩ k<|aV) k4))<|rg<|ae (bF k k) k<|am k k<|an<|tn<|sp h ⟨_,k,(xF [0,1,8] (bL k2) (bT k<|bT k<|cF (aW.plainO _) k<|aV) k4)⟩
 ·rintro e t ⟨rfl,hent⟩;exact aP<|tn<|aR hent<|sR<|am k k<|aT k2<|aD<|sp h (bG k k k (hO (cU aW k k)))
def iN (a0:Rp) (a1:Rp) (x1:((List Mt)×Int)):Option (((List Mt)×Int) ⊕ (List Mt)):=
 bif decide (x1.2<(a0.q.src.length:Int)) then
 ((dF a0.q.src x1.2).bind λv2=>
 (dF a0.q.tgt x1.2).bind λv3=>
 (dF a1.dims v3).bind λv4=>
 (dF a0.dims v2).bind λv5=>
 (pI v4 v5).bind λv6=>
 bif decide (x1.1.length+1≤4294967296) then
 (some (.inl ((x1.1++[v6]),wr (x1.2+1))))
 else none)
 else
 (some (.inr x1.1))
def lM (a0:Rp) (a1:Rp):Option (List Mt):=
 (Lp (iN a0 a1) ([],0)).bind λy8=>
 some (y8)
theorem aBS (a0:Rp) (a1:Rp) (r:(List Mt)) (h:lM a0 a1=some r):HasC Tryz.prog 221 [.agg (eR a0),.agg (eR a1)] (.list 3 (r.map eM)):=by
 refine hM [.tmp 4] Tryz.func221 Tryz.ntmps221 k<|sR<|ae (wb k) k<|ae (wb k) k<|aT k2<|sR<|aT k2<|sQ<|sR<|fp k8<|fp k8<|lp k8<|ln k4<|am k k<|an<|tn<|aG<|oB h λy8 hy8 h=>bY (body:=(iN a0 a1)) hy8 (λ(x1:((List Mt)×Int))=>mN [(2,.ptr 0 0 0),(3,.ptr 1 0 0),(5,.own 2 0 x1.1.length),(10,.list 1 (a0.q.src.map eI)),(11,.int (a0.q.src.length:Int)),(12,.int x1.2)] [(0,⟨6,[eR a0]⟩),(1,⟨6,[eR a1]⟩),(2,⟨3,x1.1.map (ow eM)⟩)] 3) (λr e t=>e= .exit 0∧Ent t (mN [(5,.own 0 0 r.length)] [(0,⟨3,r.map (ow eM)⟩)] 1)) (iC (σ:=sg [(0,0),(1,1)]) (wP 2 k2 (sO ⟨_,k,⟨k,k,k,k⟩⟩ (bL k2))) (bT k<|bT k<|hX k k<|aV) k) ?_ ?_
 ·intro x1 o h;refine sR<|cm k4<|an<|tn<|sQ<|cJ k h (λ_ h=>?_) λ_ h=>bB<|aC<|aC<|sp h ⟨_,k,k,(xF [2] (bL k2) (cF (aW.plainO _) k<|aV) k4)⟩;refine aE<|tn<|sQ<|aG<|sR<|am k k<|oB h λv2 hv2 h=>ae (xl hv2 k) k<|lr k7<|aa k k<|aT k2<|aS fF<|am k k<|fp k8<|lp k8<|fp k8<|fp k8<|lp k8<|am k k<|oB h λv3 hv3 h=>ae (xl hv3 k) k<|lr k7<|oB h λv4 hv4 h=>ae (xl hv4 k) k<|lr k7<|fp k8<|lp k8<|am k k<|oB h λv5 hv5 h=>ae (xl hv5 k) k ?_;exact lr k7<|oB h λv6 hv6 h=>ae (cM (xS v4 v5 v6 hv6) k3 (cC k (cC k aJ))) k<|ae (wl k) k<|cG h λq7 h=>ae (vP aO (l:=x1.1) (c:=[.int v6.rows,.int v6.cols,.own 3 0 v6.cells.length]) q7 k k k k k k k k k k k k k k) k<|aa k k<|an<|pA (by kernel_rfl)<|bC<|tn<|aR (t:=mN [(2,.ptr 0 0 0),(3,.ptr 1 0 0),(5,.own 5 0 ((x1.1++[v6]).length)),(10,.list 1 (a0.q.src.map eI)),(11,.int (a0.q.src.length:Int)),(12,.int x1.2)] [(0,⟨6,[eR a0]⟩),(1,⟨6,[eR a1]⟩),(5,⟨3,List.map (ow eM) (x1.1++[v6])⟩)] 6) (Ent.trans (nN (b:=5) (b':=3) (j:=2) (es':=v6.cells.map eI) k k k k (aU _ _) (bH.frzs _)) (bO (wP 2 k2 (sO ⟨_,k,⟨k,k,(by simp only [aU,lA,lT,lR,lC,lN]),k⟩⟩ (bL k2))) (bT k<|bT k<|hX ⟨_,k,k,.inl ⟨vQ v6 k,aW.plainO _⟩⟩ k<|aV) k4))<|rg<|ae (bF k k) k<|am k k<|an<|tn<|sp h ⟨_,k,(xF [0,1,5] (bL k2) (bT k<|bT k<|cF (aW.plainO _) k<|aV) k4)⟩
 ·rintro e t ⟨rfl,hent⟩;exact aP<|tn<|aR hent<|sR<|am k k<|aT k2<|aD<|sp h (bG k k k (hO (cU aW k k)))
def jL (v1:Mt) (v3:(List Int)) (x1:((List Int)×Int)) (x2:((List Int)×Int)):Option (((List Int)×Int) ⊕ (List Int)):=
 bif decide (x2.2<(v3.length:Int)) then
 ((dF v3 x2.2).bind λv5=>
 (dF x2.1 (wr ((wr (x2.2*v1.cols))+x1.2))).bind λv6=>
 some (.inl ((x2.1.set ((wr ((wr (x2.2*v1.cols))+x1.2)).toNat) v5),wr (x2.2+1))))
 else
 (some (.inr x2.1))
def jM (a1:(List (List Int))) (v1:Mt) (x1:((List Int)×Int)):Option (((List Int)×Int) ⊕ (List Int)):=
 bif decide (x1.2<(a1.length:Int)) then
 ((dF a1 x1.2).bind λv3=>
 (Lp (jL v1 v3 x1) (x1.1,0)).bind λy7=>
 some (.inl (y7,wr (x1.2+1))))
 else
 (some (.inr x1.1))
def mX (a0:Int) (a1:(List (List Int))):Option Mt:=
 (pI a0 (a1.length:Int)).bind λv1=>
 (Lp (jM a1 v1) (v1.cells,0)).bind λy8=>
 some ((⟨v1.rows,v1.cols,y8⟩:Mt))
theorem aBu (a0:Int) (a1:(List (List Int))) (r:Mt) (h:mX a0 a1=some r):HasC Tryz.prog 155 [.int a0,.list 1 (a1.map (oA 1 eI))] (.agg (eM r)):=by
 refine hM [.cell 4 113] Tryz.func155 Tryz.ntmps155 k<|sR<|ae (cA aO k k) k<|an<|tn<|sR<|am k k<|am k k<|ln k4<|oB h λv1 hv1 h=>ae (cM (xS a0 (a1.length:Int) v1 hv1) k3 (cC k (cC k aJ))) k<|ae (cA aO k k) k<|ae (ws k) k<|an<|tn<|sQ<|sR<|am k k<|ln k4<|am k k<|an<|tn<|aG<|oB h λy8 hy8 h=>bY (body:=(jM a1 v1)) hy8 (λ(x1:((List Int)×Int))=>mN [(4,.ptr 0 0 0),(5,.ptr 1 0 0),(14,.list 1 (a1.map (oA 1 eI))),(15,.int (a1.length:Int)),(16,.int x1.2)] [(0,⟨3,[fV]⟩),(1,⟨3,[[.int v1.rows,.int v1.cols,.own 2 0 x1.1.length]]⟩),(2,⟨1,x1.1.map (ow eI)⟩)] 3) (λr e t=>e= .exit 0∧Ent t (mN [(4,.ptr 0 0 0),(5,.ptr 1 0 0)] [(0,⟨3,[fV]⟩),(1,⟨3,[[.int v1.rows,.int v1.cols,.own 2 0 r.length]]⟩),(2,⟨1,r.map (ow eI)⟩)] 3)) (xF [0,2,1] (bL k2) (bT k<|fK k<|bD k<|aV) k4) ?_ ?_
 ·intro x1 o h;refine sR<|cm k4<|an<|tn<|sQ<|cJ k h (λ_ h=>?_) λ_ h=>bB<|aC<|aC<|sp h ⟨_,k,k,(bO (bL k2) (bT k<|fK k<|bD k<|aV) k4)⟩;refine aE<|tn<|sQ<|aG<|sR<|am k k<|oB h λv3 hv3 h=>ae (xl hv3 k) k<|lr k7<|aa k k<|aT k2<|sR<|am k k<|ln k4<|am k k<|an<|tn<|aG<|oB h λy7 hy7 h=>bY (body:=(jL v1 v3 x1)) hy7 (λ(x2:((List Int)×Int))=>mN [(4,.ptr 0 0 0),(5,.ptr 1 0 0),(6,.int x1.2),(14,.list 1 (a1.map (oA 1 eI))),(15,.int (a1.length:Int)),(16,.int x1.2),(21,.list 1 (v3.map eI)),(22,.int (v3.length:Int)),(23,.int x2.2)] [(0,⟨3,[fV]⟩),(1,⟨3,[[.int v1.rows,.int v1.cols,.own 2 0 x2.1.length]]⟩),(2,⟨1,x2.1.map (ow eI)⟩)] 3) (λr e t=>e= .exit 2∧Ent t (mN [(4,.ptr 0 0 0),(5,.ptr 1 0 0),(14,.list 1 (a1.map (oA 1 eI))),(15,.int (a1.length:Int)),(16,.int x1.2)] [(0,⟨3,[fV]⟩),(1,⟨3,[[.int v1.rows,.int v1.cols,.own 2 0 r.length]]⟩),(2,⟨1,r.map (ow eI)⟩)] 3)) (bO (bL k2) (bT k<|fK k<|bD k<|aV) k4) ?_ ?_
  ·intro x2 o h;refine sR<|cm k4<|an<|tn<|sQ<|cJ k h (λ_ h=>?_) λ_ h=>bB<|aC<|aC<|sp h ⟨_,k,k,(bO (bL k2) (bT k<|fK k<|bD k<|aV) k4)⟩;refine aE<|tn<|sQ<|aG<|sR<|am k k<|oB h λv5 hv5 h=>ae (xl hv5 k) k<|lr k7<|aa k k<|aT k2<|rg<|fp k8<|lp k8<|am k k<|fp k8<|lp k8<|ae (eZ k k) k<|am k k<|ae (bF k k) k<|am k k<|oB h λv6 hv6 h=>ae (xo hv6 k) k<|ae (gO aO pE (u:=v5) (dU hv6) k k k k k k) k<|an<|bC<|tn<|rg ?_;exact ae (bF k k) k<|am k k<|an<|tn<|sp h ⟨_,k,(bO (bL k2) (bT k<|hX ⟨_,k,k,.inr ⟨_,_,k,⟨_,_,k,k,⟨_,_,k,k,⟨_,_,k,⟨k,k,(by simp only [aU,lA,lT,lR,lC,lN]),k⟩,k⟩⟩⟩,k⟩⟩ k<|bD k<|aV) k4)⟩
  ·rintro e t ⟨rfl,hent⟩;exact aP<|bC<|tn<|aR hent<|rg<|ae (bF k k) k<|am k k<|an<|tn<|sp h ⟨_,k,(bO (bL k2) (bT k<|fK k<|bD k<|aV) k4)⟩
 ·rintro e t ⟨rfl,hent⟩;exact aP<|tn<|aR hent<|sR<|lp k8<|ae (ws k) k<|an<|tn<|aD<|sp h (bG k k k (pD (aH (k) (aH (k) (aH (cU bH k k) fY)))))
def kN (a0:Rp) (a1:Rp) (v1:(List Mt)) (v2:(List Int)) (x1:((List (List Int))×Int)):Option (((List (List Int))×Int) ⊕ (List (List Int))):=
 bif decide (x1.2<((v2.length:Nat):Int)) then
 (bif (decide (0≤((v2.length:Nat):Int))&&decide (((v2.length:Nat):Int)≤1048576)) then
 ((dF (List.replicate (((v2.length:Nat):Int).toNat) (0:Int)) x1.2).bind λv4=>
 (nU v1 ((List.replicate (((v2.length:Nat):Int).toNat) (0:Int)).set x1.2.toNat 1)).bind λv5=>
 (oG a0 a1 v5).bind λv6=>
 (kL v6).bind λv7=>
 bif decide (x1.1.length+1≤4294967296) then
 (some (.inl ((x1.1++[v7]),wr (x1.2+1))))
 else none)
 else none)
 else
 (some (.inr x1.1))
def kO (a0:Rp) (a1:Rp):Option Mt:=
 (pW a0 a1).bind λv1=>
 (kL v1).bind λv2=>
 (Lp (kN a0 a1 v1 v2) ([],0)).bind λy10=>
 (lM a0 a1).bind λv11=>
 (kL v11).bind λv12=>
 (mX ((v12.length:Nat):Int) y10).bind λv13=>
 some (v13)
theorem xY (a0:Rp) (a1:Rp) (r:Mt) (h:kO a0 a1=some r):HasC Tryz.prog 168 [.agg (eR a0),.agg (eR a1)] (.agg (eM r)):=by
 refine hM [.cell 4 113] Tryz.func168 Tryz.ntmps168 k<|sR<|ae (wb k) k<|ae (wb k) k<|ae (cA aO k k) k<|an<|tn<|sR<|lp k8<|lp k8<|oB h λv1 hv1 h=>ae (cL aW (aAL a0 a1 v1 hv1) k3 (aI (dH k) (aI (dH k) aJ))) k<|aT k2<|sR<|am k k<|oB h λv2 hv2 h=>ae (cL bH (aAo v1 v2 hv2) k3 (aI (aAg aW k k) aJ)) k<|ae (dO aO k k k k) k<|aT k2<|sR<|aT k2<|sQ ?_;refine sR<|am k k<|am k k<|an<|tn<|aG<|oB h λy10 hy10 h=>bY (body:=(kN a0 a1 v1 v2)) hy10 (λ(x1:((List (List Int))×Int))=>mN [(2,.ptr 0 0 0),(3,.ptr 1 0 0),(4,.ptr 2 0 0),(5,.own 3 0 v1.length),(6,.int ((v2.length:Nat):Int)),(7,.own 4 0 x1.1.length),(16,.int ((v2.length:Nat):Int)),(17,.int x1.2)] [(0,⟨6,[eR a0]⟩),(1,⟨6,[eR a1]⟩),(2,⟨3,[fV]⟩),(3,⟨3,v1.map (ow eM)⟩),(4,⟨1,x1.1.map (ow (oA 1 eI))⟩)] 5) (λr e t=>e= .exit 0∧Ent t (mN [(2,.ptr 0 0 0),(3,.ptr 1 0 0),(4,.ptr 2 0 0),(7,.own 3 0 r.length)] [(0,⟨6,[eR a0]⟩),(1,⟨6,[eR a1]⟩),(2,⟨3,[fV]⟩),(3,⟨1,r.map (ow (oA 1 eI))⟩)] 4)) (iC (σ:=sg [(0,0),(1,1),(2,2),(3,3)]) (wP 5 k2 (sO ⟨_,k,⟨k,k,k,k⟩⟩ (bL k2))) (bT k<|bT k<|bT k<|cF (aW.plainO _) k<|hX k k<|aV) k) ?_ ?_
 ·intro x1 o h;refine sR<|cm k4<|an<|tn<|sQ<|cJ k h (λ_ h=>?_) λ_ h=>bB<|aC<|aC<|sp h ⟨_,k,k,(xF [0,1,2,4] (bL k2) (bT k<|bT k<|bT k<|cF (eH.plainO _) k<|aV) k4)⟩;refine aE<|tn<|sQ<|aG<|sR<|am k k<|aT k2<|sR<|am k k<|cG h λq9 h=>ae (yH aO q9 k k k k k k k k) k<|aT k2<|aR (t:=mN [(2,.ptr 0 0 0),(3,.ptr 1 0 0),(4,.ptr 2 0 0),(5,.own 3 0 v1.length),(6,.int ((v2.length:Nat):Int)),(7,.own 4 0 x1.1.length),(8,.int x1.2),(9,.own 5 0 ((List.replicate (((v2.length:Nat):Int).toNat) (0:Int)).length)),(16,.int ((v2.length:Nat):Int)),(17,.int x1.2)] [(0,⟨6,[eR a0]⟩),(1,⟨6,[eR a1]⟩),(2,⟨3,[fV]⟩),(3,⟨3,v1.map (ow eM)⟩),(4,⟨1,x1.1.map (ow (oA 1 eI))⟩),(5,⟨1,List.map (ow eI) (List.replicate (((v2.length:Nat):Int).toNat) (0:Int))⟩)] 6) (bO (wP 7 k2 (sO ⟨_,k,⟨k,k,(by simp only [aU,lA,lT,lR,lC,lN]),k⟩⟩ (bL k2))) (bT k<|bT k<|bT k<|cF (aW.plainO _) k<|cF (eH.plainO _) k<|hX ⟨_,k,k,.inl ⟨aAE (e:=eI) (z:=0) _,bH.plainO _⟩⟩ k<|aV) k4)<|sR<|am k k<|am k k<|oB h λv4 hv4 h=>ae (xo hv4 k) k<|ae (gO aO pE (u:=1) (dU hv4) k k k k k k) k<|an<|tn<|aS fF<|am k k<|lp k8 ?_;exact lp k8<|am k k<|am k k<|oB h λv5 hv5 h=>ae (cL aW (aBb v1 ((List.replicate (((v2.length:Nat):Int).toNat) (0:Int)).set x1.2.toNat 1) v5 hv5) k3 (aI (aAg aW k k) (aI (aAg bH k (by first|rfl|simp only [List.length_set])) aJ))) k<|oB h λv6 hv6 h=>ae (cL aW (aCp a0 a1 v5 v6 hv6) k3 (aI (dH k) (aI (dH k) (aI (aAg aW k k) aJ)))) k<|oB h λv7 hv7 h=>ae (cL bH (aAo v6 v7 hv7) k3 (aI (aAg aW k k) aJ)) k<|ae (wl k) k<|cG h λq8 h=>ae (vP aO (l:=x1.1) (c:=[.own 8 0 v7.length]) q8 k k k k k k k k k k k k k k) k<|aa k k<|an<|pA (by kernel_rfl)<|bC<|tn<|aR (t:=mN [(2,.ptr 0 0 0),(3,.ptr 1 0 0),(4,.ptr 2 0 0),(5,.own 3 0 v1.length),(6,.int ((v2.length:Nat):Int)),(7,.own 10 0 ((x1.1++[v7]).length)),(16,.int ((v2.length:Nat):Int)),(17,.int x1.2)] [(0,⟨6,[eR a0]⟩),(1,⟨6,[eR a1]⟩),(2,⟨3,[fV]⟩),(3,⟨3,v1.map (ow eM)⟩),(10,⟨1,List.map (ow (oA 1 eI)) (x1.1++[v7])⟩)] 11) (Ent.trans (nN (b:=10) (b':=8) (j:=0) (es':=v7.map eI) k k k k (aU _ _) (bH.frzs _)) (bO (wP 5 k2 (sO ⟨_,k,⟨k,k,(by simp only [aU,lA,lT,lR,lC,lN]),k⟩⟩ (bL k2))) (bT k<|bT k<|bT k<|cF (aW.plainO _) k<|hX ⟨_,k,k,.inl ⟨vQ v7 k,eH.plainO _⟩⟩ k<|aV) k4))<|rg<|ae (bF k k) k<|am k k<|an<|tn<|sp h ⟨_,k,(xF [0,1,2,3,10] (bL k2) (bT k<|bT k<|bT k<|cF (aW.plainO _) k<|cF (eH.plainO _) k<|aV) k4)⟩
 ·rintro e t ⟨rfl,hent⟩;exact aP<|tn<|aR hent<|sR<|lp k8<|lp k8<|oB h λv11 hv11 h=>ae (cL aW (aBS a0 a1 v11 hv11) k3 (aI (dH k) (aI (dH k) aJ))) k<|oB h λv12 hv12 h=>ae (cL bH (aAo v11 v12 hv12) k3 (aI (aAg aW k k) aJ)) k<|ae (dO aO k k k k) k<|am k k<|oB h λv13 hv13 h=>ae (cM (aBu ((v12.length:Nat):Int) y10 v13 hv13) k3 (cC k (aI (aAg eH k k) aJ))) k<|ae (ws k) k<|an<|tn<|aD<|sp h (bG k k k (pD (aH (k) (aH (k) (aH (cU bH k k) fY)))))
def lB (a0:Rp) (a1:Rp):Option Int:=
 (kO a0 a1).bind λv1=>
 (vH a0.p v1).bind λv2=>
 some (wr (v1.cols - v2))
theorem uT (a0:Rp) (a1:Rp) (r:Int) (h:lB a0 a1=some r):HasC Tryz.prog 119 [.agg (eR a0),.agg (eR a1)] (.int r):=by
 refine hM [.tmp 4] Tryz.func119 Tryz.ntmps119 k<|sR<|ae (wb k) k<|ae (wb k) k<|aT k2<|sR<|lp k8<|lp k8<|oB h λv1 hv1 h=>ae (cM (xY a0 a1 v1 hv1) k3 (aI (dH k) (aI (dH k) aJ))) k<|ae (cA aO k k) k<|ae (ws k) k<|an<|tn<|sQ<|aS fF<|fp k8<|lp k8<|fp k8<|lp k8<|lp k8<|oB h λv2 hv2 h=>ae (aL (aDx a0.p v1 v2 hv2) k (cC k (aI (vaM k2) aJ))) k<|ae (qI k k) k<|aa k k<|an<|pA (by kernel_rfl)<|tn ?_;exact aD<|tW h k2
def mY (a0:Int) (v1:(Mt×(List Int))) (x1:(Int×(List (List Int)))) (x2:((List Int)×Int)):Option (((List Int)×Int) ⊕ (List Int)):=
 bif decide (x2.2<((v1.2.length:Nat):Int)) then
 ((dF v1.2 x2.2).bind λv7=>
 (dF v1.1.cells (wr ((wr (x2.2*v1.1.cols))+x1.1))).bind λv8=>
 (fC a0 (wr (-v8))).bind λv9=>
 (dF x2.1 v7).bind λv10=>
 some (.inl ((x2.1.set v7.toNat v9),wr (x2.2+1))))
 else
 (some (.inr x2.1))
def mZ (a0:Int) (v1:(Mt×(List Int))) (x1:(Int×(List (List Int)))):Option ((Int×(List (List Int))) ⊕ (List (List Int))):=
 bif decide (x1.1<v1.1.cols) then
 ((wD v1.2 x1.1).bind λv3=>
 bif v3 then
 (some (.inl (wr (x1.1+1),x1.2)))
 else
 (bif (decide (0≤v1.1.cols)&&decide (v1.1.cols≤1048576)) then
 ((dF (List.replicate v1.1.cols.toNat (0:Int)) x1.1).bind λv5=>
 (Lp (mY a0 v1 x1) (((List.replicate v1.1.cols.toNat (0:Int)).set x1.1.toNat 1),0)).bind λy11=>
 bif decide (x1.2.length+1≤4294967296) then
 (some (.inl (wr (x1.1+1),(x1.2++[y11]))))
 else none)
 else none))
 else
 (some (.inr x1.2))
def rJ (a0:Int) (a1:Mt):Option (List (List Int)):=
 (nO a0 a1).bind λv1=>
 (Lp (mZ a0 v1) (0,([]:(List (List Int))))).bind λy14=>
 some (y14)
theorem aER (a0:Int) (a1:Mt) (r:(List (List Int))) (h:rJ a0 a1=some r):HasC Tryz.prog 212 [.int a0,.agg (eM a1)] (.list 1 (r.map (oA 1 eI))):=by
 refine hM [.tmp 4] Tryz.func212 Tryz.ntmps212 k<|sR<|ae (wb k) k<|aT k2<|sR<|am k k<|lp k8<|oB h λv1 hv1 h=>ae (AEff.conv (sW (x:= .tuple [.agg [.int v1.1.rows,.int v1.1.cols,.own 1 0 (v1.1.cells.map eI).length],.own 2 0 (v1.2.map eI).length]) (nb:=[(1,⟨1,bX (v1.1.cells.map eI)⟩),(2,⟨1,bX (v1.2.map eI)⟩)]) (aAU a0 a1 v1 hv1) k (by rfl) k k (gP (bJ aV (bJ aV (bJ (bH.good _) vO))) (gP (bH.good _) yG)) (cC k (aI (dH k) aJ))) (v':= .tuple [.agg [.int v1.1.rows,.int v1.1.cols,.own 1 0 v1.1.cells.length],.own 2 0 v1.2.length]) (ed':=[(1,some ⟨1,v1.1.cells.map (ow eI)⟩),(2,some ⟨1,v1.2.map (ow eI)⟩)]) (by simp only [aU]) (vY (nb':=[(1,⟨1,v1.1.cells.map (ow eI)⟩),(2,⟨1,v1.2.map (ow eI)⟩)]) (by simp only [fP]))) k<|am k k<|ae (bZ k k (by intro _ h;cases h)) k<|ae (bZ k k (by intro _ h;cases h)) k<|ae (cA aO k k) k<|ae (ws k) k<|aT k2<|sR<|ae (wl k) k<|aT k2<|aR (t:=mN [(0,.int a0),(5,.ptr 3 0 0),(6,.own 2 0 v1.2.length),(7,.own 4 0 (([]:(List (List Int))).length))] [(1,⟨1,v1.1.cells.map (ow eI)⟩),(2,⟨1,v1.2.map (ow eI)⟩),(3,⟨3,[oMt v1.1 1]⟩),(4,⟨1,List.map (ow (oA 1 eI)) ([]:(List (List Int)))⟩)] 5) (bO (wP 3 k2 (sO ⟨_,k,⟨k,k,(by simp only [aU,lA,lT,lR,lC,lN]),k⟩⟩ aV)) (bD k<|bD k<|fK k<|cF (eH.plainO _) k<|aV) k4)<|sQ<|sR ?_;refine aT k2<|aG<|oB h λy14 hy14 h=>bY (body:=(mZ a0 v1)) hy14 (λ(x1:(Int×(List (List Int))))=>mN [(0,.int a0),(5,.ptr 0 0 0),(6,.own 2 0 v1.2.length),(7,.own 3 0 x1.2.length),(8,.int x1.1)] [(0,⟨3,[oMt v1.1 1]⟩),(1,⟨1,v1.1.cells.map (ow eI)⟩),(2,⟨1,v1.2.map (ow eI)⟩),(3,⟨1,x1.2.map (ow (oA 1 eI))⟩)] 4) (λr e t=>e= .exit 0∧Ent t (mN [(7,.own 0 0 r.length)] [(0,⟨1,r.map (ow (oA 1 eI))⟩)] 1)) (xF [3,1,2,4] (bL k2) (fK k<|bD k<|bD k<|cF (eH.plainO _) k<|aV) k4) ?_ ?_
 ·intro x1 o h;refine sQ<|sR<|am k k<|fp k8<|lp k8<|cm k4<|an<|tn<|cJ k h (λ_ h=>?_) λ_ h=>bB<|aC<|aC<|sp h ⟨_,k,k,(xF [3] (bL k2) (cF (eH.plainO _) k<|aV) k4)⟩;refine aE<|tn<|sQ<|aG<|sQ<|sR<|am k k<|am k k<|oB h λv3 hv3 h=>ae (aL (aHh v1.2 x1.1 v3 hv3) k (vcT k k (cC k aJ))) k<|an<|tn<|cJ k h (λ_ h=>bB<|aC<|aP<|tn<|rg<|am k k<|ae (bF k k) k<|aT k2<|sp h ⟨_,k,(bO (bL k2) (fK k<|bD k<|bD k<|cF (eH.plainO _) k<|aV) k4)⟩) λ_ h=>?_;refine aE<|tn<|sR<|fp k8<|lp k8<|cG h λq13 h=>ae (yH aO q13 k k k k k k k k) k<|aT k2<|aR (t:=mN [(0,.int a0),(5,.ptr 0 0 0),(6,.own 2 0 v1.2.length),(7,.own 3 0 x1.2.length),(8,.int x1.1),(9,.own 4 0 ((List.replicate v1.1.cols.toNat (0:Int)).length))] [(0,⟨3,[oMt v1.1 1]⟩),(1,⟨1,v1.1.cells.map (ow eI)⟩),(2,⟨1,v1.2.map (ow eI)⟩),(3,⟨1,x1.2.map (ow (oA 1 eI))⟩),(4,⟨1,List.map (ow eI) (List.replicate v1.1.cols.toNat (0:Int))⟩)] 5) (bO (wP 5 k2 (sO ⟨_,k,⟨k,k,(by simp only [aU,lA,lT,lR,lC,lN]),k⟩⟩ aV)) (fK k<|bD k<|bD k<|cF (eH.plainO _) k<|hX ⟨_,k,k,.inl ⟨aAE (e:=eI) (z:=0) _,bH.plainO _⟩⟩ k<|aV) k4)<|sR<|am k k<|am k k<|oB h λv5 hv5 h=>ae (xo hv5 k) k<|ae (gO aO pE (u:=1) (dU hv5) k k k k k k) k<|an<|tn<|sQ<|sR<|aT k2<|aG<|oB h λy11 hy11 h=>bY (body:=(mY a0 v1 x1)) hy11 (λ(x2:((List Int)×Int))=>mN [(0,.int a0),(5,.ptr 0 0 0),(6,.own 2 0 v1.2.length),(7,.own 3 0 x1.2.length),(8,.int x1.1),(9,.own 4 0 x2.1.length),(10,.int x2.2)] [(0,⟨3,[oMt v1.1 1]⟩),(1,⟨1,v1.1.cells.map (ow eI)⟩),(2,⟨1,v1.2.map (ow eI)⟩),(3,⟨1,x1.2.map (ow (oA 1 eI))⟩),(4,⟨1,x2.1.map (ow eI)⟩)] 5) (λr e t=>e= .exit 2∧Ent t (mN [(0,.int a0),(5,.ptr 0 0 0),(6,.own 2 0 v1.2.length),(7,.own 3 0 x1.2.length),(8,.int x1.1),(9,.own 4 0 r.length)] [(0,⟨3,[oMt v1.1 1]⟩),(1,⟨1,v1.1.cells.map (ow eI)⟩),(2,⟨1,v1.2.map (ow eI)⟩),(3,⟨1,x1.2.map (ow (oA 1 eI))⟩),(4,⟨1,r.map (ow eI)⟩)] 5)) (bO (wP 5 k2 (sO ⟨_,k,⟨k,k,(by simp only [aU,lA,lT,lR,lC,lN]),k⟩⟩ (bL k2))) (fK k<|bD k<|bD k<|cF (eH.plainO _) k<|bD k<|aV) k4) ?_ ?_
  ·intro x2 o h;refine sQ<|sR<|am k k<|am k k<|ae (dO aO k k k k) k<|cm k4<|an<|tn<|cJ k h (λ_ h=>?_) λ_ h=>bB<|aC<|aC<|sp h ⟨_,k,k,(bO (bL k2) (fK k<|bD k<|bD k<|cF (eH.plainO _) k<|bD k<|aV) k4)⟩;refine aE<|tn<|sQ<|aG<|aS fF<|am k k<|am k k<|am k k<|oB h λv7 hv7 h=>ae (xo hv7 k) k<|ae (wp hv7 k) k<|am k k<|fp k8<|lp k8<|am k k<|fp k8<|lp k8<|ae (eZ k k) k<|am k k<|ae (bF k k) k<|oB h λv8 hv8 h=>ae (xo hv8 k) k<|ae (wp hv8 k) k<|ae (aPh k) k<|oB h λv9 hv9 h=>ae (aL (iL a0 (wr (-v8)) v9 hv9) k (cC k (cC k aJ))) k<|oB h λv10 hv10 h=>ae (xo hv10 k) k<|ae (gO aO pE (u:=v9) (dU hv10) k k k k k k) k<|an<|pA (by kernel_rfl)<|bC<|tn ?_;exact aR (t:=mN [(0,.int a0),(5,.ptr 0 0 0),(6,.own 2 0 v1.2.length),(7,.own 3 0 x1.2.length),(8,.int x1.1),(9,.own 4 0 ((x2.1.set v7.toNat v9).length)),(10,.int x2.2)] [(0,⟨3,[oMt v1.1 1]⟩),(1,⟨1,v1.1.cells.map (ow eI)⟩),(2,⟨1,v1.2.map (ow eI)⟩),(3,⟨1,x1.2.map (ow (oA 1 eI))⟩),(4,⟨1,List.map (ow eI) (x2.1.set v7.toNat v9)⟩)] 5) (bO (wP 5 k2 (sO ⟨_,k,⟨k,k,(by simp only [aU,lA,lT,lR,lC,lN]),k⟩⟩ (bL k2))) (fK k<|bD k<|bD k<|cF (eH.plainO _) k<|bD k<|aV) k4)<|rg<|am k k<|ae (bF k k) k<|aT k2<|sp h ⟨_,k,(bO (bL k2) (fK k<|bD k<|bD k<|cF (eH.plainO _) k<|bD k<|aV) k4)⟩
  ·rintro e t ⟨rfl,hent⟩;exact aP<|tn<|aR hent<|rg<|am k k<|am k k<|ae (wl k) k<|cG h λq12 h=>ae (vP aO (l:=x1.2) (c:=[.own 4 0 y11.length]) q12 k k k k k k k k k k k k k k) k<|aa k k<|an<|bC<|tn<|aR (t:=mN [(0,.int a0),(5,.ptr 0 0 0),(6,.own 2 0 v1.2.length),(7,.own 6 0 ((x1.2++[y11]).length)),(8,.int x1.1)] [(0,⟨3,[oMt v1.1 1]⟩),(1,⟨1,v1.1.cells.map (ow eI)⟩),(2,⟨1,v1.2.map (ow eI)⟩),(6,⟨1,List.map (ow (oA 1 eI)) (x1.2++[y11])⟩)] 7) (Ent.trans (nN (b:=6) (b':=4) (j:=0) (es':=y11.map eI) k k k k (aU _ _) (bH.frzs _)) (bO (wP 3 k2 (sO ⟨_,k,⟨k,k,(by simp only [aU,lA,lT,lR,lC,lN]),k⟩⟩ (bL k2))) (fK k<|bD k<|bD k<|hX ⟨_,k,k,.inl ⟨vQ y11 k,eH.plainO _⟩⟩ k<|aV) k4))<|rg<|am k k<|ae (bF k k) k<|aT k2<|sp h ⟨_,k,(xF [0,1,2,6] (bL k2) (fK k<|bD k<|bD k<|cF (eH.plainO _) k<|aV) k4)⟩
 ·rintro e t ⟨rfl,hent⟩;exact aP<|tn<|aR hent<|sR<|am k k<|aT k2<|aD<|sp h (bG k k k (hO (cU eH k k)))
def rK (a0:Rp) (a1:Rp) (a2:Int) (x1:(Int×Int)):Option ((Int×Int) ⊕ Int):=
 bif decide (x1.2<a2) then
 ((dF a0.dims x1.2).bind λv2=>
 (dF a1.dims x1.2).bind λv3=>
 some (.inl (wr (x1.1+(wr (v2*v3))),wr (x1.2+1))))
 else
 (some (.inr x1.1))
def tL (a0:Rp) (a1:Rp) (a2:Int):Option Int:=
 (Lp (rK a0 a1 a2) (0,0)).bind λy4=>
 some (y4)
theorem aCq (a0:Rp) (a1:Rp) (a2:Int) (r:Int) (h:tL a0 a1 a2=some r):HasC Tryz.prog 239 [.agg (eR a0),.agg (eR a1),.int a2] (.int r):=by
 refine hM [.tmp 6] Tryz.func239 Tryz.ntmps239 k<|sR<|ae (wb k) k<|ae (wb k) k<|aT k2<|sR<|aT k2<|sQ<|sR<|aT k2<|aG<|oB h λy4 hy4 h=>bY (body:=(rK a0 a1 a2)) hy4 (λ(x1:(Int×Int))=>mN [(2,.int a2),(3,.ptr 0 0 0),(4,.ptr 1 0 0),(7,.int x1.1),(8,.int x1.2)] [(0,⟨6,[eR a0]⟩),(1,⟨6,[eR a1]⟩)] 2) (λr e t=>e= .exit 0∧Ent t (mN [(7,.int r)] [] 0)) (bO (bL k2) (bT k<|bT k<|aV) k4) ?_ ?_
 ·intro x1 o h;exact sQ<|sR<|am k k<|am k k<|cm k4<|an<|tn<|cJ k h (λ_ h=>aE<|tn<|sQ<|aG<|aS fF<|am k k<|fp k8<|lp k8<|am k k<|oB h λv2 hv2 h=>ae (xl hv2 k) k<|lr k7<|fp k8<|lp k8<|am k k<|oB h λv3 hv3 h=>ae (xl hv3 k) k<|lr k7<|ae (eZ k k) k<|ae (bF k k) k<|aa k k<|an<|pA (by kernel_rfl)<|bC<|tn<|rg<|am k k<|ae (bF k k) k<|aT k2<|sp h ⟨_,k,(bO (bL k2) (bT k<|bT k<|aV) k4)⟩) λ_ h=>bB<|aC<|aC<|sp h ⟨_,k,k,(bO (bL k2) aV k4)⟩
 ·rintro e t ⟨rfl,hent⟩;exact aP<|tn<|aR hent<|sR<|am k k<|aT k2<|aD<|tW h k2
def oH (a0:Rp) (a1:Rp) (x1:(Int×Int)):Option ((Int×Int) ⊕ Int):=
 bif decide (x1.2<(a0.dims.length:Int)) then
 ((dF a0.dims x1.2).bind λv2=>
 (dF a1.dims x1.2).bind λv3=>
 some (.inl (wr (x1.1+(wr (v2*v3))),wr (x1.2+1))))
 else
 (some (.inr x1.1))
def pJ (a0:Rp) (a1:Rp):Option Int:=
 (Lp (oH a0 a1) (0,0)).bind λy4=>
 some (y4)
theorem aAp (a0:Rp) (a1:Rp) (r:Int) (h:pJ a0 a1=some r):HasC Tryz.prog 215 [.agg (eR a0),.agg (eR a1)] (.int r):=by
 refine hM [.tmp 4] Tryz.func215 Tryz.ntmps215 k<|sR<|ae (wb k) k<|ae (wb k) k<|aT k2<|sR<|aT k2<|sQ<|sR<|aT k2<|aG<|oB h λy4 hy4 h=>bY (body:=(oH a0 a1)) hy4 (λ(x1:(Int×Int))=>mN [(2,.ptr 0 0 0),(3,.ptr 1 0 0),(5,.int x1.1),(6,.int x1.2)] [(0,⟨6,[eR a0]⟩),(1,⟨6,[eR a1]⟩)] 2) (λr e t=>e= .exit 0∧Ent t (mN [(5,.int r)] [] 0)) (bO (bL k2) (bT k<|bT k<|aV) k4) ?_ ?_
 ·intro x1 o h;exact sQ<|sR<|am k k<|fp k8<|lp k8<|ln k4<|cm k4<|an<|tn<|cJ k h (λ_ h=>aE<|tn<|sQ<|aG<|aS fF<|am k k<|fp k8<|lp k8<|am k k<|oB h λv2 hv2 h=>ae (xl hv2 k) k<|lr k7<|fp k8<|lp k8<|am k k<|oB h λv3 hv3 h=>ae (xl hv3 k) k<|lr k7<|ae (eZ k k) k<|ae (bF k k) k<|aa k k<|an<|pA (by kernel_rfl)<|bC<|tn<|rg<|am k k<|ae (bF k k) k<|aT k2<|sp h ⟨_,k,(bO (bL k2) (bT k<|bT k<|aV) k4)⟩) λ_ h=>bB<|aC<|aC<|sp h ⟨_,k,k,(bO (bL k2) aV k4)⟩
 ·rintro e t ⟨rfl,hent⟩;exact aP<|tn<|aR hent<|sR<|am k k<|aT k2<|aD<|tW h k2
def gE (a0:Rp) (a1:Rp) (v3:Int) (x1:(Int×(List Int)×Int)) (x2:(Int×(List Int)×Int)) (x3:(Int×(List Int)×Int)) (x4:((List Int)×Int)):Option (((List Int)×Int) ⊕ (List Int)):=
 (dF a1.dims v3).bind λv9=>
 bif decide (x4.2<v9) then
 ((tL a0 a1 v3).bind λv11=>
 (dF a0.dims v3).bind λv12=>
 (dF x4.1 (wr ((wr (v11+(wr (x4.2*v12))))+x3.2.2))).bind λv13=>
 (dF a1.maps x1.2.2).bind λv14=>
 (dF a1.dims v3).bind λv15=>
 (dF v14.cells (wr ((wr (x2.2.2*v15))+x4.2))).bind λv16=>
 (fC a0.p (wr (v13+v16))).bind λv17=>
 (dF x4.1 (wr ((wr (v11+(wr (x4.2*v12))))+x3.2.2))).bind λv18=>
 some (.inl ((x4.1.set ((wr ((wr (v11+(wr (x4.2*v12))))+x3.2.2)).toNat) v17),wr (x4.2+1))))
 else
 (some (.inr x4.1))
def gF (a0:Rp) (a1:Rp) (v3:Int) (v4:Int) (x1:(Int×(List Int)×Int)) (x2:(Int×(List Int)×Int)) (x3:(Int×(List Int)×Int)) (x5:((List Int)×Int)):Option (((List Int)×Int) ⊕ (List Int)):=
 (dF a0.dims v4).bind λv20=>
 bif decide (x5.2<v20) then
 ((tL a0 a1 v4).bind λv22=>
 (dF a0.dims v4).bind λv23=>
 (dF x5.1 (wr ((wr (v22+(wr (x2.2.2*v23))))+x5.2))).bind λv24=>
 (dF a0.maps x1.2.2).bind λv25=>
 (dF a0.dims v3).bind λv26=>
 (dF v25.cells (wr ((wr (x5.2*v26))+x3.2.2))).bind λv27=>
 (fC a0.p (wr (v24 - v27))).bind λv28=>
 (dF x5.1 (wr ((wr (v22+(wr (x2.2.2*v23))))+x5.2))).bind λv29=>
 some (.inl ((x5.1.set ((wr ((wr (v22+(wr (x2.2.2*v23))))+x5.2)).toNat) v28),wr (x5.2+1))))
 else
 (some (.inr x5.1))
def iO (a0:Rp) (a1:Rp) (v1:Int) (v3:Int) (v4:Int) (x1:(Int×(List Int)×Int)) (x2:(Int×(List Int)×Int)) (x3:(Int×(List Int)×Int)):Option ((Int×(List Int)×Int) ⊕ (Int×(List Int))):=
 (dF a0.dims v3).bind λv7=>
 bif decide (x3.2.2<v7) then
 (bif (decide (0≤v1)&&decide (v1≤1048576)) then
 ((Lp (gE a0 a1 v3 x1 x2 x3) ((List.replicate v1.toNat (0:Int)),0)).bind λy19=>
 (Lp (gF a0 a1 v3 v4 x1 x2 x3) (y19,0)).bind λy30=>
 bif decide (x3.2.1.length+y30.length≤4294967296) then
 (some (.inl (wr (x3.1+1),(x3.2.1++y30),wr (x3.2.2+1))))
 else none)
 else none)
 else
 (some (.inr (x3.1,x3.2.1)))
def iP (a0:Rp) (a1:Rp) (v1:Int) (v3:Int) (v4:Int) (x1:(Int×(List Int)×Int)) (x2:(Int×(List Int)×Int)):Option ((Int×(List Int)×Int) ⊕ (Int×(List Int))):=
 (dF a1.dims v4).bind λv5=>
 bif decide (x2.2.2<v5) then
 ((Lp (iO a0 a1 v1 v3 v4 x1 x2) (x2.1,x2.2.1,0)).bind λy33=>
 some (.inl (y33.1,y33.2,wr (x2.2.2+1))))
 else
 (some (.inr (x2.1,x2.2.1)))
def iQ (a0:Rp) (a1:Rp) (v1:Int) (x1:(Int×(List Int)×Int)):Option ((Int×(List Int)×Int) ⊕ (Int×(List Int))):=
 bif decide (x1.2.2<(a0.maps.length:Int)) then
 ((dF a0.q.src x1.2.2).bind λv3=>
 (dF a0.q.tgt x1.2.2).bind λv4=>
 (Lp (iP a0 a1 v1 v3 v4 x1) (x1.1,x1.2.1,0)).bind λy34=>
 some (.inl (y34.1,y34.2,wr (x1.2.2+1))))
 else
 (some (.inr (x1.1,x1.2.1)))
def lO (a0:Rp) (a1:Rp):Option Mt:=
 (pJ a0 a1).bind λv1=>
 (Lp (iQ a0 a1 v1) (0,([]:(List Int)),0)).bind λy35=>
 some ((⟨y35.1,v1,y35.2⟩:Mt))
theorem aBT (a0:Rp) (a1:Rp) (r:Mt) (h:lO a0 a1=some r):HasC Tryz.prog 213 [.agg (eR a0),.agg (eR a1)] (.agg (eM r)):=by
 refine hM [.cell 4 113] Tryz.func213 Tryz.ntmps213 k<|sR<|ae (wb k) k<|ae (wb k) k<|ae (cA aO k k) k<|an<|tn<|sR<|lp k8<|lp k8<|oB h λv1 hv1 h=>ae (aL (aAp a0 a1 v1 hv1) k (aI (dH k) (aI (dH k) aJ))) k<|aT k2<|sR<|am k k<|ae (wl k) k<|ae (iJ aO k k k k k k) k<|ae (cA aO k k) k<|ae (ws k) k<|an<|tn<|aR (t:=mN [(2,.ptr 0 0 0),(3,.ptr 1 0 0),(4,.ptr 2 0 0),(5,.int v1),(6,.ptr 4 0 0)] [(0,⟨6,[eR a0]⟩),(1,⟨6,[eR a1]⟩),(2,⟨3,[fV]⟩),(3,⟨1,List.map (ow eI) ([]:(List Int))⟩),(4,⟨3,[[.int 0,.int v1,.own 3 0 (([]:(List Int)).length)]]⟩)] 5) (bO (bL k2) (bT k<|bT k<|bT k<|bD k<|hX ⟨_,k,k,.inr ⟨_,_,k,⟨_,_,k,k,⟨_,_,k,k,⟨_,_,k,⟨k,k,(by simp only [aU,lA,lT,lR,lC,lN]),k⟩,k⟩⟩⟩,k⟩⟩ k<|aV) k4)<|sQ<|sR<|aa k k ?_;refine an<|tn<|aG<|oB h λy35 hy35 h=>bY (body:=(iQ a0 a1 v1)) hy35 (λ(x1:(Int×(List Int)×Int))=>mN [(2,.ptr 0 0 0),(3,.ptr 1 0 0),(4,.ptr 2 0 0),(5,.int v1),(6,.ptr 3 0 0),(7,.int x1.2.2)] [(0,⟨6,[eR a0]⟩),(1,⟨6,[eR a1]⟩),(2,⟨3,[fV]⟩),(3,⟨3,[[.int x1.1,.int v1,.own 4 0 x1.2.1.length]]⟩),(4,⟨1,x1.2.1.map (ow eI)⟩)] 5) (λr e t=>e= .exit 0∧Ent t (mN [(4,.ptr 0 0 0),(6,.ptr 1 0 0)] [(0,⟨3,[fV]⟩),(1,⟨3,[[.int r.1,.int v1,.own 2 0 r.2.length]]⟩),(2,⟨1,r.2.map (ow eI)⟩)] 3)) (xF [0,1,2,4,3] (bL k2) (bT k<|bT k<|bT k<|fK k<|bD k<|aV) k4) ?_ ?_
 ·intro x1 o h;refine sQ<|sR<|am k k<|fp k8<|lp k8<|ln k4<|cm k4<|an<|tn<|cJ k h (λ_ h=>?_) λ_ h=>bB<|aC<|aC<|sp h ⟨_,k,k,(xF [2,3,4] (bL k2) (bT k<|fK k<|bD k<|aV) k4)⟩;refine aE<|tn<|sQ<|aG<|sR<|fp k8<|fp k8<|lp k8<|am k k<|oB h λv3 hv3 h=>ae (xl hv3 k) k<|lr k7<|aT k2<|sR<|fp k8<|fp k8<|lp k8<|am k k<|oB h λv4 hv4 h=>ae (xl hv4 k) k<|lr k7<|aT k2<|sR<|aa k k ?_;refine an<|tn<|aG<|oB h λy34 hy34 h=>bY (body:=(iP a0 a1 v1 v3 v4 x1)) hy34 (λ(x2:(Int×(List Int)×Int))=>mN [(2,.ptr 0 0 0),(3,.ptr 1 0 0),(4,.ptr 2 0 0),(5,.int v1),(6,.ptr 3 0 0),(7,.int x1.2.2),(8,.int v3),(9,.int v4),(10,.int x2.2.2)] [(0,⟨6,[eR a0]⟩),(1,⟨6,[eR a1]⟩),(2,⟨3,[fV]⟩),(3,⟨3,[[.int x2.1,.int v1,.own 4 0 x2.2.1.length]]⟩),(4,⟨1,x2.2.1.map (ow eI)⟩)] 5) (λr e t=>e= .exit 2∧Ent t (mN [(2,.ptr 0 0 0),(3,.ptr 1 0 0),(4,.ptr 2 0 0),(5,.int v1),(6,.ptr 3 0 0),(7,.int x1.2.2)] [(0,⟨6,[eR a0]⟩),(1,⟨6,[eR a1]⟩),(2,⟨3,[fV]⟩),(3,⟨3,[[.int r.1,.int v1,.own 4 0 r.2.length]]⟩),(4,⟨1,r.2.map (ow eI)⟩)] 5)) (bO (bL k2) (bT k<|bT k<|bT k<|fK k<|bD k<|aV) k4) ?_ ?_
  ·intro x2 o h;refine sQ<|sR<|am k k<|fp k8<|lp k8<|am k k<|oB h λv5 hv5 h=>ae (xl hv5 k) k<|lr k7<|cm k4<|an<|tn<|cJ k h (λ_ h=>?_) λ_ h=>bB<|aC<|aC<|sp h ⟨_,k,k,(bO (bL k2) (bT k<|bT k<|bT k<|fK k<|bD k<|aV) k4)⟩;refine aE<|tn<|sQ<|aG<|sR<|aT k2<|aG<|oB h λy33 hy33 h=>bY (body:=(iO a0 a1 v1 v3 v4 x1 x2)) hy33 (λ(x3:(Int×(List Int)×Int))=>mN [(2,.ptr 0 0 0),(3,.ptr 1 0 0),(4,.ptr 2 0 0),(5,.int v1),(6,.ptr 3 0 0),(7,.int x1.2.2),(8,.int v3),(9,.int v4),(10,.int x2.2.2),(11,.int x3.2.2)] [(0,⟨6,[eR a0]⟩),(1,⟨6,[eR a1]⟩),(2,⟨3,[fV]⟩),(3,⟨3,[[.int x3.1,.int v1,.own 4 0 x3.2.1.length]]⟩),(4,⟨1,x3.2.1.map (ow eI)⟩)] 5) (λr e t=>e= .exit 4∧Ent t (mN [(2,.ptr 0 0 0),(3,.ptr 1 0 0),(4,.ptr 2 0 0),(5,.int v1),(6,.ptr 3 0 0),(7,.int x1.2.2),(8,.int v3),(9,.int v4),(10,.int x2.2.2)] [(0,⟨6,[eR a0]⟩),(1,⟨6,[eR a1]⟩),(2,⟨3,[fV]⟩),(3,⟨3,[[.int r.1,.int v1,.own 4 0 r.2.length]]⟩),(4,⟨1,r.2.map (ow eI)⟩)] 5)) (bO (bL k2) (bT k<|bT k<|bT k<|fK k<|bD k<|aV) k4) ?_ ?_
   ·intro x3 o h;refine sQ<|sR<|am k k<|fp k8<|lp k8<|am k k<|oB h λv7 hv7 h=>ae (xl hv7 k) k<|lr k7<|cm k4<|an<|tn<|cJ k h (λ_ h=>?_) λ_ h=>bB<|aC<|aC<|sp h ⟨_,k,k,(bO (bL k2) (bT k<|bT k<|bT k<|fK k<|bD k<|aV) k4)⟩;refine aE<|tn<|sQ<|aG<|sR<|am k k<|cG h λq32 h=>ae (yH aO q32 k k k k k k k k) k<|aT k2<|aR (t:=mN [(2,.ptr 0 0 0),(3,.ptr 1 0 0),(4,.ptr 2 0 0),(5,.int v1),(6,.ptr 3 0 0),(7,.int x1.2.2),(8,.int v3),(9,.int v4),(10,.int x2.2.2),(11,.int x3.2.2),(12,.own 5 0 ((List.replicate v1.toNat (0:Int)).length))] [(0,⟨6,[eR a0]⟩),(1,⟨6,[eR a1]⟩),(2,⟨3,[fV]⟩),(3,⟨3,[[.int x3.1,.int v1,.own 4 0 x3.2.1.length]]⟩),(4,⟨1,x3.2.1.map (ow eI)⟩),(5,⟨1,List.map (ow eI) (List.replicate v1.toNat (0:Int))⟩)] 6) (bO (wP 10 k2 (sO ⟨_,k,⟨k,k,(by simp only [aU,lA,lT,lR,lC,lN]),k⟩⟩ aV)) (bT k<|bT k<|bT k<|fK k<|bD k<|hX ⟨_,k,k,.inl ⟨aAE (e:=eI) (z:=0) _,bH.plainO _⟩⟩ k<|aV) k4)<|sQ<|sR<|aT k2<|aG<|oB h λy19 hy19 h=>bY (body:=(gE a0 a1 v3 x1 x2 x3)) hy19 (λ(x4:((List Int)×Int))=>mN [(2,.ptr 0 0 0),(3,.ptr 1 0 0),(4,.ptr 2 0 0),(5,.int v1),(6,.ptr 3 0 0),(7,.int x1.2.2),(8,.int v3),(9,.int v4),(10,.int x2.2.2),(11,.int x3.2.2),(12,.own 5 0 x4.1.length),(13,.int x4.2)] [(0,⟨6,[eR a0]⟩),(1,⟨6,[eR a1]⟩),(2,⟨3,[fV]⟩),(3,⟨3,[[.int x3.1,.int v1,.own 4 0 x3.2.1.length]]⟩),(4,⟨1,x3.2.1.map (ow eI)⟩),(5,⟨1,x4.1.map (ow eI)⟩)] 6) (λr e t=>e= .exit 6∧Ent t (mN [(2,.ptr 0 0 0),(3,.ptr 1 0 0),(4,.ptr 2 0 0),(5,.int v1),(6,.ptr 3 0 0),(7,.int x1.2.2),(8,.int v3),(9,.int v4),(10,.int x2.2.2),(11,.int x3.2.2),(12,.own 5 0 r.length)] [(0,⟨6,[eR a0]⟩),(1,⟨6,[eR a1]⟩),(2,⟨3,[fV]⟩),(3,⟨3,[[.int x3.1,.int v1,.own 4 0 x3.2.1.length]]⟩),(4,⟨1,x3.2.1.map (ow eI)⟩),(5,⟨1,r.map (ow eI)⟩)] 6)) (bO (bL k2) (bT k<|bT k<|bT k<|fK k<|bD k<|bD k<|aV) k4) ?_ ?_
    ·intro x4 o h;refine sQ<|sR<|am k k<|fp k8<|lp k8<|am k k<|oB h λv9 hv9 h=>ae (xl hv9 k) k<|lr k7<|cm k4<|an<|tn<|cJ k h (λ_ h=>?_) λ_ h=>bB<|aC<|aC<|sp h ⟨_,k,k,(bO (bL k2) (bT k<|bT k<|bT k<|fK k<|bD k<|bD k<|aV) k4)⟩;refine aE<|tn<|sQ<|aG<|sQ<|aS fF<|lp k8<|lp k8<|am k k<|oB h λv11 hv11 h=>ae (aL (aCq a0 a1 v3 v11 hv11) k (aI (dH k) (aI (dH k) (cC k aJ)))) k<|am k k<|fp k8<|lp k8<|am k k<|oB h λv12 hv12 h=>ae (xl hv12 k) k<|lr k7<|ae (eZ k k) k<|ae (bF k k) k<|am k k<|ae (bF k k) k<|aa k k<|an<|pA (by kernel_rfl)<|tn<|aS fF<|am k k<|am k k<|fp k8<|lp k8 ?_;refine am k k<|am k k<|oB h λv13 hv13 h=>ae (xo hv13 k) k<|ae (wp hv13 k) k<|fp k8<|lp k8<|am k k<|oB h λv14 hv14 h=>ae (xl hv14 k) k<|ae (cO aO k k k k k k) k<|lr k7<|am k k<|fp k8<|lp k8<|am k k<|oB h λv15 hv15 h=>ae (xl hv15 k) k<|lr k7<|ae (eZ k k) k<|am k k<|ae (bF k k) k<|oB h λv16 hv16 h=>ae (xl hv16 k) k<|lr k7<|ae (bF k k) k<|oB h λv17 hv17 h=>ae (aL (iL a0.p (wr (v13+v16)) v17 hv17) k (cC k (cC k aJ))) k<|oB h λv18 hv18 h=>ae (xo hv18 k) k<|ae (gO aO pE (u:=v17) (dU hv18) k k k k k k) k<|an<|pA (by kernel_rfl)<|bC<|tn<|aR (t:=mN [(2,.ptr 0 0 0),(3,.ptr 1 0 0),(4,.ptr 2 0 0),(5,.int v1),(6,.ptr 3 0 0),(7,.int x1.2.2),(8,.int v3),(9,.int v4),(10,.int x2.2.2),(11,.int x3.2.2),(12,.own 5 0 ((x4.1.set ((wr ((wr (v11+(wr (x4.2*v12))))+x3.2.2)).toNat) v17).length)),(13,.int x4.2)] [(0,⟨6,[eR a0]⟩),(1,⟨6,[eR a1]⟩),(2,⟨3,[fV]⟩),(3,⟨3,[[.int x3.1,.int v1,.own 4 0 x3.2.1.length]]⟩),(4,⟨1,x3.2.1.map (ow eI)⟩),(5,⟨1,List.map (ow eI) (x4.1.set ((wr ((wr (v11+(wr (x4.2*v12))))+x3.2.2)).toNat) v17)⟩)] 6) (bO (wP 10 k2 (sO ⟨_,k,⟨k,k,(by simp only [aU,lA,lT,lR,lC,lN]),k⟩⟩ (bL k2))) (bT k<|bT k<|bT k<|fK k<|bD k<|bD k<|aV) k4) ?_;exact rg<|am k k<|ae (bF k k) k<|aT k2<|sp h ⟨_,k,(bO (bL k2) (bT k<|bT k<|bT k<|fK k<|bD k<|bD k<|aV) k4)⟩
    ·rintro e t ⟨rfl,hent⟩;refine aP<|tn<|aR hent<|sQ<|sR<|aT k2<|aG<|oB h λy30 hy30 h=>bY (body:=(gF a0 a1 v3 v4 x1 x2 x3)) hy30 (λ(x5:((List Int)×Int))=>mN [(2,.ptr 0 0 0),(3,.ptr 1 0 0),(4,.ptr 2 0 0),(5,.int v1),(6,.ptr 3 0 0),(7,.int x1.2.2),(8,.int v3),(9,.int v4),(10,.int x2.2.2),(11,.int x3.2.2),(12,.own 5 0 x5.1.length),(15,.int x5.2)] [(0,⟨6,[eR a0]⟩),(1,⟨6,[eR a1]⟩),(2,⟨3,[fV]⟩),(3,⟨3,[[.int x3.1,.int v1,.own 4 0 x3.2.1.length]]⟩),(4,⟨1,x3.2.1.map (ow eI)⟩),(5,⟨1,x5.1.map (ow eI)⟩)] 6) (λr e t=>e= .exit 8∧Ent t (mN [(2,.ptr 0 0 0),(3,.ptr 1 0 0),(4,.ptr 2 0 0),(5,.int v1),(6,.ptr 3 0 0),(7,.int x1.2.2),(8,.int v3),(9,.int v4),(10,.int x2.2.2),(11,.int x3.2.2),(12,.own 5 0 r.length)] [(0,⟨6,[eR a0]⟩),(1,⟨6,[eR a1]⟩),(2,⟨3,[fV]⟩),(3,⟨3,[[.int x3.1,.int v1,.own 4 0 x3.2.1.length]]⟩),(4,⟨1,x3.2.1.map (ow eI)⟩),(5,⟨1,r.map (ow eI)⟩)] 6)) (bO (bL k2) (bT k<|bT k<|bT k<|fK k<|bD k<|bD k<|aV) k4) ?_ ?_
     ·intro x5 o h;refine sQ<|sR<|am k k<|fp k8<|lp k8<|am k k<|oB h λv20 hv20 h=>ae (xl hv20 k) k<|lr k7<|cm k4<|an<|tn<|cJ k h (λ_ h=>?_) λ_ h=>bB<|aC<|aC<|sp h ⟨_,k,k,(bO (bL k2) (bT k<|bT k<|bT k<|fK k<|bD k<|bD k<|aV) k4)⟩;refine aE<|tn<|sQ<|aG<|sQ<|aS fF<|lp k8<|lp k8<|am k k<|oB h λv22 hv22 h=>ae (aL (aCq a0 a1 v4 v22 hv22) k (aI (dH k) (aI (dH k) (cC k aJ)))) k<|am k k<|fp k8<|lp k8<|am k k<|oB h λv23 hv23 h=>ae (xl hv23 k) k<|lr k7<|ae (eZ k k) k<|ae (bF k k) k<|am k k<|ae (bF k k) k<|aa k k<|an<|pA (by kernel_rfl)<|tn<|aS fF<|am k k<|am k k<|fp k8<|lp k8 ?_;refine am k k<|am k k<|oB h λv24 hv24 h=>ae (xo hv24 k) k<|ae (wp hv24 k) k<|fp k8<|lp k8<|am k k<|oB h λv25 hv25 h=>ae (xl hv25 k) k<|ae (cO aO k k k k k k) k<|lr k7<|am k k<|fp k8<|lp k8<|am k k<|oB h λv26 hv26 h=>ae (xl hv26 k) k<|lr k7<|ae (eZ k k) k<|am k k<|ae (bF k k) k<|oB h λv27 hv27 h=>ae (xl hv27 k) k<|lr k7<|ae (qI k k) k<|oB h λv28 hv28 h=>ae (aL (iL a0.p (wr (v24 - v27)) v28 hv28) k (cC k (cC k aJ))) k<|oB h λv29 hv29 h=>ae (xo hv29 k) k<|ae (gO aO pE (u:=v28) (dU hv29) k k k k k k) k<|an<|pA (by kernel_rfl)<|bC<|tn<|aR (t:=mN [(2,.ptr 0 0 0),(3,.ptr 1 0 0),(4,.ptr 2 0 0),(5,.int v1),(6,.ptr 3 0 0),(7,.int x1.2.2),(8,.int v3),(9,.int v4),(10,.int x2.2.2),(11,.int x3.2.2),(12,.own 5 0 ((x5.1.set ((wr ((wr (v22+(wr (x2.2.2*v23))))+x5.2)).toNat) v28).length)),(15,.int x5.2)] [(0,⟨6,[eR a0]⟩),(1,⟨6,[eR a1]⟩),(2,⟨3,[fV]⟩),(3,⟨3,[[.int x3.1,.int v1,.own 4 0 x3.2.1.length]]⟩),(4,⟨1,x3.2.1.map (ow eI)⟩),(5,⟨1,List.map (ow eI) (x5.1.set ((wr ((wr (v22+(wr (x2.2.2*v23))))+x5.2)).toNat) v28)⟩)] 6) (bO (wP 10 k2 (sO ⟨_,k,⟨k,k,(by simp only [aU,lA,lT,lR,lC,lN]),k⟩⟩ (bL k2))) (bT k<|bT k<|bT k<|fK k<|bD k<|bD k<|aV) k4) ?_;exact rg<|am k k<|ae (bF k k) k<|aT k2<|sp h ⟨_,k,(bO (bL k2) (bT k<|bT k<|bT k<|fK k<|bD k<|bD k<|aV) k4)⟩
     ·rintro e t ⟨rfl,hent⟩;exact aP<|tn<|aR hent<|sR<|fp k8<|lp k8<|ae (bF k k) k<|fp k8<|ae (ws k) k<|an<|tn<|rg<|fp k8<|lp k8<|am k k<|cG h λq31 h=>ae (yV aO (l:=x3.2.1) (m:=y30) pE q31 k k k k k (aPi bH k k) k k k k k k) k<|fp k8<|ae (ws k) k<|an<|bC<|tn<|rg<|am k k<|ae (bF k k) k<|aT k2<|sp h ⟨_,k,(xF [0,1,2,3,6] (bL k2) (bT k<|bT k<|bT k<|fK k<|bD k<|aV) k4)⟩
   ·rintro e t ⟨rfl,hent⟩;exact aP<|bC<|tn<|aR hent<|rg<|am k k<|ae (bF k k) k<|aT k2<|sp h ⟨_,k,(bO (bL k2) (bT k<|bT k<|bT k<|fK k<|bD k<|aV) k4)⟩
  ·rintro e t ⟨rfl,hent⟩;exact aP<|bC<|tn<|aR hent<|rg<|am k k<|ae (bF k k) k<|aT k2<|sp h ⟨_,k,(bO (bL k2) (bT k<|bT k<|bT k<|fK k<|bD k<|aV) k4)⟩
 ·rintro e t ⟨rfl,hent⟩;exact aP<|tn<|aR hent<|sR<|lp k8<|ae (ws k) k<|an<|tn<|aD<|sp h (bG k k k (pD (aH (k) (aH (k) (aH (cU bH k k) fY)))))
def gV (a0:Rp) (a1:Rp) (a2:(List Int)) (x1:((List Mt)×Int×Int)):Option (((List Mt)×Int×Int) ⊕ (List Mt)):=
 bif decide (x1.2.2<(a0.dims.length:Int)) then
 ((dF a0.dims x1.2.2).bind λv2=>
 (dF a1.dims x1.2.2).bind λv3=>
 (dF a1.dims x1.2.2).bind λv4=>
 (dF a0.dims x1.2.2).bind λv5=>
 bif (decide (0≤x1.2.1)&&(decide (x1.2.1≤wr (x1.2.1+(wr (v2*v3))))&&decide (wr (x1.2.1+(wr (v2*v3)))≤(a2.length:Int)))) then
 (bif decide (([]:(List Int)).length +((a2.drop x1.2.1.toNat).take ((wr (x1.2.1+(wr (v2*v3)))).toNat - x1.2.1.toNat)).length ≤4294967296) then
 (bif decide (x1.1.length+1≤4294967296) then
 (some (.inl ((x1.1++[(⟨v4,v5,(([]:(List Int))++((a2.drop x1.2.1.toNat).take ((wr (x1.2.1+(wr (v2*v3)))).toNat - x1.2.1.toNat)))⟩:Mt)]),wr (x1.2.1+(wr (v2*v3))),wr (x1.2.2+1))))
 else none)
 else none)
 else none)
 else
 (some (.inr x1.1))
def iE (a0:Rp) (a1:Rp) (a2:(List Int)):Option (List Mt):=
 (Lp (gV a0 a1 a2) (([]:(List Mt)),0,0)).bind λy9=>
 some (y9)
theorem aAV (a0:Rp) (a1:Rp) (a2:(List Int)) (r:(List Mt)) (h:iE a0 a1 a2=some r):HasC Tryz.prog 214 [.agg (eR a0),.agg (eR a1),.list 1 (a2.map eI)] (.list 3 (r.map eM)):=by
 refine hM [.tmp 6] Tryz.func214 Tryz.ntmps214 k<|sR<|ae (wb k) k<|ae (wb k) k<|aT k2<|sR<|ae (wl k) k<|aT k2<|aR (t:=mN [(2,.list 1 (a2.map eI)),(3,.ptr 0 0 0),(4,.ptr 1 0 0),(7,.own 2 0 (([]:(List Mt)).length))] [(0,⟨6,[eR a0]⟩),(1,⟨6,[eR a1]⟩),(2,⟨3,List.map (ow eM) ([]:(List Mt))⟩)] 3) (bO (wP 3 k2 (sO ⟨_,k,⟨k,k,(by simp only [aU,lA,lT,lR,lC,lN]),k⟩⟩ aV)) (bT k<|bT k<|cF (aW.plainO _) k<|aV) k4)<|sR<|aT k2<|sQ<|sR<|aT k2<|aG<|oB h λy9 hy9 h=>bY (body:=(gV a0 a1 a2)) hy9 (λ(x1:((List Mt)×Int×Int))=>mN [(2,.list 1 (a2.map eI)),(3,.ptr 0 0 0),(4,.ptr 1 0 0),(7,.own 2 0 x1.1.length),(8,.int x1.2.1),(9,.int x1.2.2)] [(0,⟨6,[eR a0]⟩),(1,⟨6,[eR a1]⟩),(2,⟨3,x1.1.map (ow eM)⟩)] 3) (λr e t=>e= .exit 0∧Ent t (mN [(7,.own 0 0 r.length)] [(0,⟨3,r.map (ow eM)⟩)] 1)) (bO (bL k2) (bT k<|bT k<|cF (aW.plainO _) k<|aV) k4) ?_ ?_
 ·intro x1 o h;refine sQ<|sR<|am k k<|fp k8<|lp k8<|ln k4<|cm k4<|an<|tn<|cJ k h (λ_ h=>?_) λ_ h=>bB<|aC<|aC<|sp h ⟨_,k,k,(xF [2] (bL k2) (cF (aW.plainO _) k<|aV) k4)⟩;refine aE<|tn<|sQ<|aG<|sQ<|aS fF<|fp k8<|lp k8<|am k k<|oB h λv2 hv2 h=>ae (xl hv2 k) k<|lr k7<|fp k8<|lp k8<|am k k<|oB h λv3 hv3 h=>ae (xl hv3 k) k<|lr k7<|ae (eZ k k) k<|aa k k<|an<|pA (by kernel_rfl)<|tn<|sQ<|aS fF<|am k k<|fp k8<|lp k8<|am k k<|oB h λv4 hv4 h=>ae (xl hv4 k) k<|lr k7 ?_;refine fp k8<|lp k8<|am k k<|oB h λv5 hv5 h=>ae (xl hv5 k) k<|lr k7<|ae (wl k) k<|am k k<|am k k<|am k k<|am k k<|ae (bF k k) k<|cG h λq6 h=>ae (aAG aO (l0:=a2) (l:=x1.2.1) (h:=wr (x1.2.1+(wr (v2*v3)))) q6 k k k k k k k) k<|cG h λq7 h=>ae (yV aO (l:=([]:(List Int))) (m:=((a2.drop x1.2.1.toNat).take ((wr (x1.2.1+(wr (v2*v3)))).toNat - x1.2.1.toNat))) pE q7 k k k k k k k k k k k k) k<|ae (iJ aO k k k k k k) k<|ae (wl k) k<|cG h λq8 h=>ae (vP aO (l:=x1.1) (c:=[.int v4,.int v5,.own 4 0 ((([]:(List Int))++((a2.drop x1.2.1.toNat).take ((wr (x1.2.1+(wr (v2*v3)))).toNat - x1.2.1.toNat))).length)]) q8 k k k k k k k k k k k k k k) k<|aa k k<|an<|pA (by kernel_rfl)<|tn<|aR (t:=mN [(2,.list 1 (a2.map eI)),(3,.ptr 0 0 0),(4,.ptr 1 0 0),(7,.own 6 0 ((x1.1++[(⟨v4,v5,(([]:(List Int))++((a2.drop x1.2.1.toNat).take ((wr (x1.2.1+(wr (v2*v3)))).toNat - x1.2.1.toNat)))⟩:Mt)]).length)),(8,.int x1.2.1),(9,.int x1.2.2),(10,.int (wr (v2*v3)))] [(0,⟨6,[eR a0]⟩),(1,⟨6,[eR a1]⟩),(6,⟨3,List.map (ow eM) (x1.1++[(⟨v4,v5,(([]:(List Int))++((a2.drop x1.2.1.toNat).take ((wr (x1.2.1+(wr (v2*v3)))).toNat - x1.2.1.toNat)))⟩:Mt)])⟩)] 7) (Ent.trans (nN (b:=6) (b':=4) (j:=2) (es':=List.map eI (([]:(List Int))++((a2.drop x1.2.1.toNat).take ((wr (x1.2.1+(wr (v2*v3)))).toNat - x1.2.1.toNat)))) k k k k (aU _ _) (bH.frzs _)) (bO (wP 3 k2 (sO ⟨_,k,⟨k,k,(by simp only [aU,lA,lT,lR,lC,lN]),k⟩⟩ (bL k2))) (bT k<|bT k<|hX ⟨_,k,k,.inl ⟨vQ (⟨v4,v5,(([]:(List Int))++((a2.drop x1.2.1.toNat).take ((wr (x1.2.1+(wr (v2*v3)))).toNat - x1.2.1.toNat)))⟩:Mt) k,aW.plainO _⟩⟩ k<|aV) k4))<|rg<|am k k<|am k k<|ae (bF k k) k<|aa k k<|an<|bC<|tn<|rg ?_;exact am k k<|ae (bF k k) k<|aT k2<|sp h ⟨_,k,(xF [0,1,6] (bL k2) (bT k<|bT k<|cF (aW.plainO _) k<|aV) k4)⟩
 ·rintro e t ⟨rfl,hent⟩;exact aP<|tn<|aR hent<|sR<|am k k<|aT k2<|aD<|sp h (bG k k k (hO (cU aW k k)))
def fJ (a0:Rp) (a1:Rp) (v4:(List (List Int))) (x1:((List (List Mt))×Int)):Option (((List (List Mt))×Int) ⊕ (List (List Mt))):=
 bif decide (x1.2<((v4.length:Nat):Int)) then
 ((dF v4 x1.2).bind λv6=>
 (iE a0 a1 v6).bind λv7=>
 bif decide (x1.1.length+1≤4294967296) then
 (some (.inl ((x1.1++[v7]),wr (x1.2+1))))
 else none)
 else
 (some (.inr x1.1))
def iF (a0:Rp) (a1:Rp):Option ((List (List Mt))×Bool):=
 (iM a0 a1).bind λv1=>
 bif !v1 then
 (some ((([]:(List (List Mt))),false)))
 else
 ((lO a0 a1).bind λv3=>
 (rJ a0.p v3).bind λv4=>
 (Lp (fJ a0 a1 v4) (([]:(List (List Mt))),0)).bind λy9=>
 some ((y9,true)))
theorem aAW (a0:Rp) (a1:Rp) (r:((List (List Mt))×Bool)) (h:iF a0 a1=some r):HasC Tryz.prog 164 [.agg (eR a0),.agg (eR a1)] (.tuple [.list 1 (r.1.map (oA 3 eM)),.bl r.2]):=by
 refine hM [.tmp 4,.tmp 5] Tryz.func164 Tryz.ntmps164 k<|sR<|ae (wb k) k<|ae (wb k) k<|aa k k<|aT k2<|sR<|ae (wl k) k<|aT k2<|aR (t:=mN [(2,.ptr 0 0 0),(3,.ptr 1 0 0),(6,.own 2 0 (([]:(List (List Mt))).length))] [(0,⟨6,[eR a0]⟩),(1,⟨6,[eR a1]⟩),(2,⟨1,List.map (ow (oA 3 eM)) ([]:(List (List Mt)))⟩)] 3) (bO (wP 2 k2 (sO ⟨_,k,⟨k,k,(by simp only [aU,lA,lT,lR,lC,lN]),k⟩⟩ aV)) (bT k<|bT k<|cF (eH.plainO _) k<|aV) k4)<|sQ<|sR<|lp k8<|lp k8<|oB h λv1 hv1 h=>ae (aL (wF a0 a1 v1 hv1) k (aI (dH k) (aI (dH k) aJ))) k<|ae (dE k) k<|an<|tn<|cJ k h (λ_ h=>sR<|am k k<|aa k k<|aT k2<|aD<|aB<|sp h (bG k k k (dI k (bU (mB (cU eH k k)) (bU (k) gL))))) λ_ h=>?_;refine aE<|tn<|sQ<|aS fF<|fp k8<|lp k8<|lp k8<|lp k8<|oB h λv3 hv3 h=>ae (cM (aBT a0 a1 v3 hv3) k3 (aI (dH k) (aI (dH k) aJ))) k<|oB h λv4 hv4 h=>ae (cL eH (aER a0.p v3 v4 hv4) k3 (cC k (aI (vaM k2) aJ))) k<|aa k k<|an<|pA (by kernel_rfl)<|tn<|sQ<|sR<|aT k2<|aG<|oB h λy9 hy9 h=>bY (body:=(fJ a0 a1 v4)) hy9 (λ(x1:((List (List Mt))×Int))=>mN [(2,.ptr 0 0 0),(3,.ptr 1 0 0),(6,.own 2 0 x1.1.length),(7,.own 3 0 v4.length),(8,.int x1.2)] [(0,⟨6,[eR a0]⟩),(1,⟨6,[eR a1]⟩),(2,⟨1,x1.1.map (ow (oA 3 eM))⟩),(3,⟨1,v4.map (ow (oA 1 eI))⟩)] 4) (λr e t=>e= .exit 0∧Ent t (mN [(6,.own 0 0 r.length)] [(0,⟨1,r.map (ow (oA 3 eM))⟩)] 1)) (xF [0,1,2,4] (bL k2) (bT k<|bT k<|cF (eH.plainO _) k<|cF (eH.plainO _) k<|aV) k4) ?_ ?_
 ·intro x1 o h;exact sQ<|sR<|am k k<|am k k<|ae (dO aO k k k k) k<|cm k4<|an<|tn<|cJ k h (λ_ h=>aE<|tn<|sQ<|aG<|aS fF<|am k k<|lp k8<|lp k8<|am k k<|am k k<|oB h λv6 hv6 h=>ae (xo hv6 k) k<|ae (wp hv6 k) k<|oB h λv7 hv7 h=>ae (cL aW (aAV a0 a1 v6 v7 hv7) k3 (aI (dH k) (aI (dH k) (cC k aJ)))) k<|ae (wl k) k<|cG h λq8 h=>ae (vP aO (l:=x1.1) (c:=[.own 4 0 v7.length]) q8 k k k k k k k k k k k k k k) k<|aa k k<|an<|pA (by kernel_rfl)<|bC<|tn<|aR (t:=mN [(2,.ptr 0 0 0),(3,.ptr 1 0 0),(6,.own 6 0 ((x1.1++[v7]).length)),(7,.own 3 0 v4.length),(8,.int x1.2)] [(0,⟨6,[eR a0]⟩),(1,⟨6,[eR a1]⟩),(3,⟨1,v4.map (ow (oA 1 eI))⟩),(6,⟨1,List.map (ow (oA 3 eM)) (x1.1++[v7])⟩)] 7) (Ent.trans (nN (b:=6) (b':=4) (j:=0) (es':=v7.map eM) k k k k (aU _ _) (aW.frzs _)) (bO (wP 2 k2 (sO ⟨_,k,⟨k,k,(by simp only [aU,lA,lT,lR,lC,lN]),k⟩⟩ (bL k2))) (bT k<|bT k<|cF (eH.plainO _) k<|hX ⟨_,k,k,.inl ⟨vQ v7 k,eH.plainO _⟩⟩ k<|aV) k4))<|rg<|am k k<|ae (bF k k) k<|aT k2<|sp h ⟨_,k,(xF [0,1,6,3] (bL k2) (bT k<|bT k<|cF (eH.plainO _) k<|cF (eH.plainO _) k<|aV) k4)⟩) λ_ h=>bB<|aC<|aC<|sp h ⟨_,k,k,(xF [2] (bL k2) (cF (eH.plainO _) k<|aV) k4)⟩
 ·rintro e t ⟨rfl,hent⟩;exact aP<|tn<|aR hent<|sR<|am k k<|aa k k<|aT k2<|aD<|sp h (bG k k k (dI k (bU (mB (cU eH k k)) (bU (k) gL))))
def iX (a0:Rp) (a1:Rp):Option Int:=
 (iF a0 a1).bind λv1=>
 bif !v1.2 then
 (some ((-1)))
 else
 (some (((v1.1.length:Nat):Int)))
theorem qQ (a0:Rp) (a1:Rp) (r:Int) (h:iX a0 a1=some r):HasC Tryz.prog 112 [.agg (eR a0),.agg (eR a1)] (.int r):=by
 exact hM [.tmp 4] Tryz.func112 Tryz.ntmps112 k<|sR<|ae (wb k) k<|ae (wb k) k<|aT k2<|sR<|lp k8<|lp k8<|oB h λv1 hv1 h=>ae (cT eH (aAW a0 a1 v1 hv1) k3 (aI (dH k) (aI (dH k) aJ))) k<|am k k<|ae (bZ k k (by intro _ h;cases h)) k<|ae (bZ k k (by intro _ h;cases h)) k<|aa k k<|aT k2<|sQ<|sR<|am k k<|ae (dE k) k<|an<|tn<|cJ k h (λ_ h=>sR<|aT k2<|aD<|aB<|tW h k2) λ_ h=>aE<|tn<|sR<|am k k<|ae (dO aO k k k k) k<|aT k2<|aD<|tW h k2
end
noncomputable section
set_option maxRecDepth 10000
set_option maxHeartbeats 4000000
end
noncomputable section
def rkF (p:Int) (m n:Nat) (F:Nat→Nat→Int):Nat:=(cP p m F n).2.length
theorem aOW {p:Int} (hp:tX p=true) {r c:Nat} (hr:r≤8) (hc:c≤8) {F:Nat→Nat→Int} (hF:InP p r c F):aBR p ⟨r,c,bW r c F⟩=true:=by
 have hb:=eG hp;have h64:r*c≤64:=Nat.mul_le_mul hr hc;unfold aBR;simp only [dA,sI,List.all_eq_true];refine ⟨aBk (by omega) (by omega),aBk (by omega) (by omega),?_,⟨hp,by rw [eD];exact h64⟩,λx hx=>?_⟩
 ·rw [eD,aFN (by omega)]
 ·unfold bW at hx;obtain ⟨t,ht,rfl⟩:=List.mem_map.1 hx;have ht:=List.mem_range.1 ht;have hc0:0<c:=by rcases Nat.eq_zero_or_pos c with rfl|h';simp at ht;exact h'
  have:=hF (t / c) (t % c) (Nat.div_lt_of_lt_mul (by rw [Nat.mul_comm];exact ht)) (Nat.mod_lt _ hc0);rw [dC (by omega)];exact aBk this.1 (by omega)
theorem aNK {p:Int} (hp:tX p=true) {r c:Nat} (hr:r≤8) (hc:c≤8) {F:Nat→Nat→Int} (hF:InP p r c F):uP p ⟨r,c,bW r c F⟩=some (rkF p r c F:Int):=by
 have h64:r*c≤64:=Nat.mul_le_mul hr hc;unfold uP uE;rw [aDg p ⟨by unfold bI;simp only [eD];omega,trivial⟩,aOW hp hr hc hF,aA,eO,aY,aCo ⟨hp,by omega,by omega,by omega,hF⟩,aA,aA];simp only [eO,aY,dV];rfl
def dN (r:Rp) (k:Nat):Nat:=(r.dims[k]?.getD 0).toNat
theorem aFn {r:Rp} (h:aAn r=true):tX r.p=true∧aDz r.q r.dims=true∧r.maps.length=r.q.src.length∧ ∀ k,k<r.maps.length→aBR r.p (r.maps[k]?.getD ⟨0,0,[]⟩)=true∧(r.maps[k]?.getD ⟨0,0,[]⟩).cols=r.dims[(r.q.src[k]?.getD 0).toNat]?.getD 0∧(r.maps[k]?.getD ⟨0,0,[]⟩).rows=r.dims[(r.q.tgt[k]?.getD 0).toNat]?.getD 0:=by
 unfold aAn at h;simp only [dA,sI,wM] at h;exact ⟨h.1,h.2.1,by omega,h.2.2.2⟩
theorem pK {c:Nat} {f g:Nat→Int} (h: ∀ j,j<c→f j=g j):hJ c f=hJ c g:=yL λj hj=>h j (List.mem_range.1 hj)
theorem aJG {c j:Nat} (hj:j<c) (f:Nat→Int) (v:Int):(hJ c f).set j v=hJ c (λb=>if b=j then v else f b):=by
 refine List.ext_getElem (by simp [hJ]) λt h1 h2=>?_;rw [eV] at h2;rw [List.getElem_set];simp only [hJ,List.getElem_map,List.getElem_range];by_cases e:j=t
 ·rw [aX e,aX e.symm]
 ·rw [aZ e,aZ (by omega)]
theorem aHD (c:Nat):List.replicate c (0:Int)=hJ c (λ_=>0):=by
 refine List.ext_getElem (by simp [hJ]) λt h1 h2=>?_;simp [hJ]
theorem sq {a b:Nat} (ha:a≤4) (hb:b≤4):a*b≤1048576:=by have:=Nat.mul_le_mul ha hb;omega
theorem aFo (c:Nat) (f:Nat→Nat→Int): ∀ n,((List.range n).map λi=>hJ c (f i)).flatten=bW n c f
 |0=>by simp [bW]
 |n+1=>by
  rw [List.range_succ,List.map_append,List.flatten_append,aFo c f n];unfold bW;rw [Nat.succ_mul,List.range_add,List.map_append];congr 1;simp only [List.map_cons,List.map_nil,List.flatten_cons,List.flatten_nil,List.append_nil,List.map_map,hJ];refine yL λj hj=>?_;have hj:=List.mem_range.1 hj;simp only [Function.comp];rw [yE hj,yF hj]
end
noncomputable section
open Go.ChangeShapes Go.WideShapes Go.ChangeAt Go.RowKit
theorem oI:wY Tryz.prog 3 (yI 1 eI):=aJx Tryz.underlying3
theorem oL:wY Tryz.prog 22 (yI 1 eL):=aCX Tryz.underlying22 (by decide) (by kernel_rfl) oI
theorem oQ:wY Tryz.prog 24 (yI 3 eQ):=by
 intro H enc w fuel cs d ps h hf;obtain ⟨x0,T0,u0⟩:=nP Tryz.underlying24 h hf aFY (i:=0) (ft:=3) rfl (k:=1) (by kernel_rfl) oI;obtain ⟨x1,T1,u1⟩:=nP Tryz.underlying24 h hf u0 (i:=1) (ft:=22) rfl (k:=1) (by kernel_rfl) oL;obtain ⟨x2,T2,u2⟩:=nP Tryz.underlying24 h hf u1 (i:=2) (ft:=22) rfl (k:=1) (by kernel_rfl) oL;exact ⟨⟨x0,x1,x2⟩,_,aFZ Tryz.underlying24 h hf u2 (by kernel_rfl) _ rfl⟩
theorem oM:wY Tryz.prog 111 (yI 3 eM):=by
 intro H enc w fuel cs d ps h hf;obtain ⟨x0,T0,u0⟩:=nP Tryz.underlying111 h hf aFY (i:=0) (ft:=3) rfl (k:=1) (by kernel_rfl) oI;obtain ⟨x1,T1,u1⟩:=nP Tryz.underlying111 h hf u0 (i:=1) (ft:=3) rfl (k:=1) (by kernel_rfl) oI;obtain ⟨x2,T2,u2⟩:=nP Tryz.underlying111 h hf u1 (i:=2) (ft:=22) rfl (k:=1) (by kernel_rfl) oL;exact ⟨⟨x0,x1,x2⟩,_,aFZ Tryz.underlying111 h hf u2 (by kernel_rfl) _ rfl⟩
theorem oMs:wY Tryz.prog 25 (yI 1 (λl:List Mt=>[.list 3 (l.map eM)])):=aCX Tryz.underlying25 (by decide) (by kernel_rfl) oM
theorem oR:wY Tryz.prog 27 (yI 6 eR):=by
 intro H enc w fuel cs d ps h hf;obtain ⟨x0,T0,u0⟩:=nP Tryz.underlying27 h hf aFY (i:=0) (ft:=3) rfl (k:=1) (by kernel_rfl) oI;obtain ⟨x1,T1,u1⟩:=nP Tryz.underlying27 h hf u0 (i:=1) (ft:=24) rfl (k:=3) (by kernel_rfl) oQ;obtain ⟨x2,T2,u2⟩:=nP Tryz.underlying27 h hf u1 (i:=2) (ft:=22) rfl (k:=1) (by kernel_rfl) oL;obtain ⟨x3,T3,u3⟩:=nP Tryz.underlying27 h hf u2 (i:=3) (ft:=25) rfl (k:=1) (by kernel_rfl) oMs;exact ⟨⟨x0,x1,x2,x3⟩,_,aFZ Tryz.underlying27 h hf u3 (by kernel_rfl) _ rfl⟩
end
noncomputable section
theorem aHo {w:World} : ∀ {ds:List AV} {vs:List Value} {S:List Nat},RepVs w ds vs S→ ∀ d∈ds,∃ v S',RepD w d v S'
 | [],_,_,_,d,hd=>by cases hd
 |c::cs,vs,S,h,d,hd=>by
  simp only [RepVs] at h;obtain ⟨v,r,S1,S2,_,_,h3,h4⟩:=h;rcases eN.1 hd with rfl|h'
  ·exact ⟨v,S1,h3⟩
  ·exact aHo h4 d h'
theorem aLA {w:World} {b:Nat} : ∀ {ds:List AV} {o:Nat} {S:List Nat},RepCs w b o ds S→ ∀ d∈ds,∃ v S',RepD w d v S'
 | [],_,_,_,d,hd=>by cases hd
 |c::cs,o,S,h,d,hd=>by
  simp only [RepCs] at h;obtain ⟨v,S1,S2,_,_,_,_,h3,h4⟩:=h;rcases eN.1 hd with rfl|h'
  ·exact ⟨v,S1,h3⟩
  ·exact aLA h4 d h'
theorem aLB {w:World} {k b:Nat} : ∀ {es:List (List AV)} {o:Nat} {S:List Nat},RepEs w k b o es S→ ∀ cs∈es,∀ d∈cs,∃ v S',RepD w d v S'
 | [],_,_,_,cs,hc=>by cases hc
 |c::es,o,S,h,cs,hc=>by
  simp only [RepEs] at h;obtain ⟨S1,S2,_,_,h3,h4⟩:=h;rcases eN.1 hc with rfl|h'
  ·exact aLA h3
  ·exact aLB h4 cs h'
theorem aLC {w:World} {k:Nat} {es:List (List AV)} {v:Value} {S:List Nat} (h:RepD w (.list k es) v S):es.length≤9223372036854775807∧ ∀ cs∈es,∀ d∈cs,∃ v S',RepD w d v S':=by
 unfold RepD at h;obtain ⟨a,c,_,h2,h3,h4⟩:=h;have hm:maxLen≤9223372036854775807:=by decide
 refine ⟨by omega,?_⟩;rcases h4 with ⟨rfl,_⟩|⟨b,o,T,_,_,_,h5⟩
 ·intro cs hcs;cases hcs
 ·exact aLB h5
theorem aPy {w:World} {l:List Int} {v:Value} {S:List Nat} (h:RepD w (aBM l) v S):fI l:=by
 have:=(aLC (k:=1) (es:=List.map eI l) h).1
 rwa [dB] at this
theorem aHp {w:World} {ds:List AV} (h: ∀ d∈ds,∃ v S',RepD w d v S') {l:List Int} (hl:aBM l∈ds):fI l:=by
 obtain ⟨v,S,h⟩:=h _ hl;exact aPy h
theorem aNL {w:World} {ds:List AV} (h: ∀ d∈ds,∃ v S',RepD w d v S') {α:Type} {k:Nat} {e:α→List AV} {l:List α} (hl:AV.list k (l.map e)∈ds):fI l∧ ∀ x∈l,∀ d∈e x,∃ v S',RepD w d v S':=by
 obtain ⟨v,S,h⟩:=h _ hl;have:=aLC h;rw [dB] at this;exact ⟨this.1,λx hx=>this.2 _ (List.mem_map.2 ⟨x,hx,rfl⟩)⟩
theorem aPz {w:World} {m:Mt} (h: ∀ d∈eM m,∃ v S',RepD w d v S'):fM m:=aHp h (by simp [eM])
theorem aPO {w:World} {l:List Mt} {ds:List AV} (h: ∀ d∈ds,∃ v S',RepD w d v S') (hl:AV.list 3 (l.map eM)∈ds):fMs l:=by
 obtain ⟨h1,h2⟩:=aNL h hl;exact ⟨h1,λm hm=>aPz (h2 m hm)⟩
theorem aOq {w:World} {r:Rp} (h: ∀ d∈eR r,∃ v S',RepD w d v S'):fR r:=⟨⟨aHp h (by simp [eR]),aHp h (by simp [eR])⟩,aHp h (by simp [eR]),aPO h (by simp [eR])⟩
theorem aNM {w0 w:World} {v:Value} {S:List Nat} (h:aHY w (.bl true) v S):Ending.returned v= .returned (.bool true):=by rw [h.1]
end
noncomputable section
set_option maxRecDepth 10000
set_option maxHeartbeats 4000000
def oJ (a0:(List (List Int))) (a1:(List (List Int))) (x1:Int):Option (Int ⊕ (Unit ⊕ Bool)):=
 bif decide (x1<(a0.length:Int)) then
 ((dF a0 x1).bind λv3=>
 (dF a1 x1).bind λv4=>
 (iW v3 v4).bind λv5=>
 bif !v5 then
 (some (.inr (.inr (false))))
 else
 (some (.inl (wr (x1+1)))))
 else
 (some (.inr (.inl ())))
def tM (a0:(List (List Int))) (a1:(List (List Int))):Option Bool:=
 bif !decide ((a0.length:Int)=(a1.length:Int)) then
 (some (false))
 else
 ((Lp (oJ a0 a1) 0).bind λy7=>
 Sum.elim (λy8=>
 some (true)
 )
 (λy9=>
 some y9
 )
 y7)
theorem aFp (a0:(List (List Int))) (a1:(List (List Int))) (r:Bool) (h:tM a0 a1=some r):HasC Tryz.prog 45 [.list 1 (a0.map (oA 1 eI)),.list 1 (a1.map (oA 1 eI))] (.bl r):=by
 refine hM [.tmp 4] Tryz.func45 Tryz.ntmps45 k<|sR<|aT k2<|sQ<|sR<|am k k<|ln k4<|am k k<|ln k4<|cm k4<|an<|tn<|cJ k h (λ_ h=>sR<|aT k2<|aD<|aB<|dY h k2) λ_ h=>?_;refine aE<|tn<|sQ<|sR<|aT k2<|aG<|oB h λy7 hy7 h=>bY (body:=(oJ a0 a1)) hy7 (λ(x1:Int)=>mN [(0,.list 1 (a0.map (oA 1 eI))),(1,.list 1 (a1.map (oA 1 eI))),(5,.int x1)] [] 0) (λr e t=>Sum.elim (λa=>(λr e t=>e= .exit 0∧Ent t (mN [] [] 0)) a e t) (λb=>(λr e t=>e= .ret∧nL TT [.tmp 4] (.bl r) .ret t) b e t) r) (bO (bL k2) aV k4) ?_ ?_
 ·intro x1 o h;exact sQ<|sR<|am k k<|am k k<|ln k4<|cm k4<|an<|tn<|cJ k h (λ_ h=>aE<|tn<|sQ<|aG<|sQ<|aS fF<|am k k<|am k k<|oB h λv3 hv3 h=>ae (xl hv3 k) k<|lr k7<|am k k<|am k k<|oB h λv4 hv4 h=>ae (xl hv4 k) k<|lr k7<|oB h λv5 hv5 h=>ae (aL (nT v3 v4 v5 hv5) k (cC k (cC k aJ))) k<|ae (dE k) k<|an<|pA (by kernel_rfl)<|tn<|cJ k h (λ_ h=>sR<|aT k2<|aD<|bA<|aB<|aB<|sp h ⟨_,k,k,bG k k k (nM k)⟩) λ_ h=>aE<|bC<|tn<|rg<|am k k<|ae (bF k k) k<|aT k2<|sp h ⟨_,k,(bO (bL k2) aV k4)⟩) λ_ h=>bB<|aC<|aC<|sp h ⟨_,k,k,(bO aV aV k4)⟩
 ·intro e t hX;rcases y7 with y8|y9
  ·obtain ⟨rfl,hent⟩:=hX;exact aP<|tn<|aR hent<|sR<|aT k2<|aD<|dY h k2
  ·obtain ⟨rfl,hent⟩:=hX;exact bA<|aB<|sp h hent
def tN (a0:Sc) (a1:Sc):Option Bool:=
 bif !decide (a0.size=a1.size) then
 (some (false))
 else
 ((tM a0.basis a1.basis).bind λv2=>
 bif !v2 then
 (some (false))
 else
 (some (true)))
theorem aFq (a0:Sc) (a1:Sc) (r:Bool) (h:tN a0 a1=some r):HasC Tryz.prog 99 [.agg (eS a0),.agg (eS a1)] (.bl r):=by
 exact hM [.tmp 4] Tryz.func99 Tryz.ntmps99 k<|sR<|ae (wb k) k<|ae (wb k) k<|aT k2<|sQ<|sR<|fp k8<|lp k8<|fp k8<|lp k8<|cm k4<|an<|tn<|cJ k h (λ_ h=>sR<|aT k2<|aD<|aB<|dY h k2) λ_ h=>aE<|tn<|sQ<|sR<|fp k8<|lp k8<|fp k8<|lp k8<|oB h λv2 hv2 h=>ae (aL (aFp a0.basis a1.basis v2 hv2) k (cC k (cC k aJ))) k<|ae (dE k) k<|an<|tn<|cJ k h (λ_ h=>sR<|aT k2<|aD<|aB<|dY h k2) λ_ h=>aE<|tn<|sR<|aT k2<|aD<|dY h k2
def nA (a0:(List Sc)) (a1:(List Sc)) (x1:Int):Option (Int ⊕ (Unit ⊕ Bool)):=
 bif decide (x1<(a0.length:Int)) then
 ((dF a0 x1).bind λv3=>
 (dF a1 x1).bind λv4=>
 (tN v3 v4).bind λv5=>
 bif !v5 then
 (some (.inr (.inr (false))))
 else
 (some (.inl (wr (x1+1)))))
 else
 (some (.inr (.inl ())))
def rL (a0:(List Sc)) (a1:(List Sc)):Option Bool:=
 bif !decide ((a0.length:Int)=(a1.length:Int)) then
 (some (false))
 else
 ((Lp (nA a0 a1) 0).bind λy7=>
 Sum.elim (λy8=>
 some (true)
 )
 (λy9=>
 some y9
 )
 y7)
theorem aES (a0:(List Sc)) (a1:(List Sc)) (r:Bool) (h:rL a0 a1=some r):HasC Tryz.prog 40 [.list 2 (a0.map eS),.list 2 (a1.map eS)] (.bl r):=by
 refine hM [.tmp 4] Tryz.func40 Tryz.ntmps40 k<|sR<|aT k2<|sQ<|sR<|am k k<|ln k4<|am k k<|ln k4<|cm k4<|an<|tn<|cJ k h (λ_ h=>sR<|aT k2<|aD<|aB<|dY h k2) λ_ h=>?_;refine aE<|tn<|sQ<|sR<|aT k2<|aG<|oB h λy7 hy7 h=>bY (body:=(nA a0 a1)) hy7 (λ(x1:Int)=>mN [(0,.list 2 (a0.map eS)),(1,.list 2 (a1.map eS)),(5,.int x1)] [] 0) (λr e t=>Sum.elim (λa=>(λr e t=>e= .exit 0∧Ent t (mN [] [] 0)) a e t) (λb=>(λr e t=>e= .ret∧nL TT [.tmp 4] (.bl r) .ret t) b e t) r) (bO (bL k2) aV k4) ?_ ?_
 ·intro x1 o h;exact sQ<|sR<|am k k<|am k k<|ln k4<|cm k4<|an<|tn<|cJ k h (λ_ h=>aE<|tn<|sQ<|aG<|sQ<|aS fF<|am k k<|am k k<|oB h λv3 hv3 h=>ae (xl hv3 k) k<|lr k7<|am k k<|am k k<|oB h λv4 hv4 h=>ae (xl hv4 k) k<|lr k7<|oB h λv5 hv5 h=>ae (aL (aFq v3 v4 v5 hv5) k (aI (dH k) (aI (dH k) aJ))) k<|ae (dE k) k<|an<|pA (by kernel_rfl)<|tn<|cJ k h (λ_ h=>sR<|aT k2<|aD<|bA<|aB<|aB<|sp h ⟨_,k,k,bG k k k (nM k)⟩) λ_ h=>aE<|bC<|tn<|rg<|am k k<|ae (bF k k) k<|aT k2<|sp h ⟨_,k,(bO (bL k2) aV k4)⟩) λ_ h=>bB<|aC<|aC<|sp h ⟨_,k,k,(bO aV aV k4)⟩
 ·intro e t hX;rcases y7 with y8|y9
  ·obtain ⟨rfl,hent⟩:=hX;exact aP<|tn<|aR hent<|sR<|aT k2<|aD<|dY h k2
  ·obtain ⟨rfl,hent⟩:=hX;exact bA<|aB<|sp h hent
end
noncomputable section
theorem aQA {a b:List (List Int)} (h:a.length≤1048576∧ ∀ m∈a,bI m):tM a b=some (decide (a=b)):=by
 obtain ⟨h,hb⟩:=h;unfold tM;rw [aCj];by_cases e:a.length=b.length
 ·rw [bK e,eO,aY];refine aCi (by omega) e (λk h1 h2=>?_) ?_
  ·unfold oJ;rw [jS h1,aN,cV h1,aA,cV h2,aA,aLo (hb _ (List.getElem_mem h1)),aA];cases decide (a[k]=b[k]) <;> rfl
  ·unfold oJ;rw [mM (bN _),aY]
 ·rw [cY e,Bool.not_false,aN,cY (by rintro rfl;exact e rfl)]
theorem aQi {a b:Sc} (h:bS a):tN a b=some (decide (a=b)):=by
 unfold tN;rw [iH (d:=decide (a.basis=b.basis)) (λ_=>?_)]
 ·cases a;cases b;simp
 ·rw [aQA h.1,aA,aEp]
theorem aQB {a b:List Sc} (h:a.length≤1048576∧ ∀ m∈a,bS m):rL a b=some (decide (a=b)):=by
 obtain ⟨h,hb⟩:=h;unfold rL;rw [aCj];by_cases e:a.length=b.length
 ·rw [bK e,eO,aY];refine aCi (by omega) e (λk h1 h2=>?_) ?_
  ·unfold nA;rw [jS h1,aN,cV h1,aA,cV h2,aA,aQi (hb _ (List.getElem_mem h1)),aA];cases decide (a[k]=b[k]) <;> rfl
  ·unfold nA;rw [mM (bN _),aY]
 ·rw [cY e,Bool.not_false,aN,cY (by rintro rfl;exact e rfl)]
end
noncomputable section
set_option maxRecDepth 10000
set_option maxHeartbeats 4000000
def uV (a0:Qv):Option Qv:=
 bif decide (([]:(List Int)).length +a0.src.length≤4294967296) then
 (bif decide (([]:(List Int)).length +a0.tgt.length≤4294967296) then
 (some ((⟨a0.n,(([]:(List Int))++a0.src),(([]:(List Int))++a0.tgt)⟩:Qv)))
 else none)
 else none
theorem aGM (a0:Qv) (r:Qv) (h:uV a0=some r):HasC Tryz.prog 113 [.agg (eQ a0)] (.agg (eQ r)):=by
 exact hM [.cell 2 29] Tryz.func113 Tryz.ntmps113 k<|sR<|ae (wb k) k<|ae (cA aO k k) k<|an<|tn<|sQ<|aS fF<|fp k8<|lp k8<|ae (wl k) k<|fp k8<|lp k8<|cG h λq1 h=>ae (yV aO (l:=([]:(List Int))) (m:=a0.src) pE q1 k k k k k k k k k k k k) k<|ae (wl k) k<|fp k8<|lp k8<|cG h λq2 h=>ae (yV aO (l:=([]:(List Int))) (m:=a0.tgt) pE q2 k k k k k k k k k k k k) k<|ae (iJ aO k k k k k k) k<|ae (ws k) k<|an<|pA (by kernel_rfl)<|tn<|aD<|sp h (bG k k k (pD (aH (k) (aH (cU bH k k) (aH (cU bH k k) fY)))))
end
noncomputable section
set_option maxRecDepth 10000
set_option maxHeartbeats 4000000
def nB (x1:((List Int)×Int×Int)):Option (((List Int)×Int×Int) ⊕ ((List Int)×Int)):=
 bif decide (x1.2.2<((x1.1.length:Nat):Int)) then
 ((dF x1.1 x1.2.2).bind λv2=>
 some (.inl ((x1.1.set x1.2.2.toNat x1.2.1),wr (x1.2.1+1),wr (x1.2.2+1))))
 else
 (some (.inr (x1.1,x1.2.1)))
def dJ (a0:(List Int)) (a1:Int):Option ((List Int)×Int):=
 (Lp nB (a0,a1,0)).bind λy3=>
 some (y3.1,y3.2)
theorem fD (a0:(List Int)) (a1:Int) (r:((List Int)×Int)) (h:dJ a0 a1=some r):HasE Tryz.prog 33 [.own 0 0 a0.length,.int a1] [(0,⟨1,a0.map (ow eI)⟩)] 1 (.int r.2) [(0,⟨1,r.1.map (ow eI)⟩)]:=by
 refine aCV aO (rvs:=[.tmp 4]) (ns:=nmA.drop 1) Tryz.func33 k k Tryz.ntmps33 k k<|sR<|aT k2<|sQ<|sR<|aT k2<|aG<|oB h λy3 hy3 h=>bY (body:=nB) hy3 (λ(x1:((List Int)×Int×Int))=>mN [(0,.own 0 0 x1.1.length),(1,.int x1.2.1),(5,.int x1.2.2)] [(0,⟨1,x1.1.map (ow eI)⟩)] 1 1) (λr e t=>e= .exit 0∧Ent t (mN [(1,.int r.2)] [(0,⟨1,r.1.map (ow eI)⟩)] 1 1)) (bO (bL k2) (bD k<|aV) k4) ?_ ?_
 ·intro x1 o h;exact sQ<|sR<|am k k<|am k k<|ae (dO aO k k k k) k<|cm k4<|an<|tn<|cJ k h (λ_ h=>aE<|tn<|sQ<|aG<|sR<|am k k<|am k k<|am k k<|oB h λv2 hv2 h=>ae (xo hv2 k) k<|ae (gO aO pE (u:=x1.2.1) (dU hv2) k k k k k k) k<|an<|tn<|rg<|am k k<|ae (bF k k) k<|aa k k<|an<|bC<|tn<|rg<|am k k<|ae (bF k k) k<|aT k2<|sp h ⟨_,k,(bO (sO ⟨_,k,⟨k,k,(by simp only [aU,lA,lT,lR,lC,lN]),k⟩⟩ (bL k2)) (bD k<|aV) k4)⟩) λ_ h=>bB<|aC<|aC<|sp h ⟨_,k,k,(bO (bL k2) (bD k<|aV) k4)⟩
 ·rintro e t ⟨rfl,hent⟩;exact aP<|tn<|aR hent<|sR<|am k k<|aT k2<|aD<|sp h ⟨mN [(4,.int y3.2)] [(0,⟨1,y3.1.map (ow eI)⟩)] 1 1,(bO (bL k2) (bD k<|aV) k4),k,⟨_,k,.inl k⟩,⟨k,aV⟩⟩
def lP (x1:((List (List Int))×Int×Int)):Option (((List (List Int))×Int×Int) ⊕ ((List (List Int))×Int)):=
 bif decide (x1.2.2<((x1.1.length:Nat):Int)) then
 ((dF x1.1 x1.2.2).bind λv2=>
 (dJ v2 x1.2.1).bind λv3=>
 bif decide (v3.1.length=v2.length) then
 (some (.inl ((x1.1.set x1.2.2.toNat v3.1),v3.2,wr (x1.2.2+1))))
 else none)
 else
 (some (.inr (x1.1,x1.2.1)))
def pY (a0:(List (List Int))) (a1:Int):Option ((List (List Int))×Int):=
 (Lp lP (a0,a1,0)).bind λy5=>
 some (y5.1,y5.2)
theorem aDh (a0:(List (List Int))) (a1:Int) (r:((List (List Int))×Int)) (h:pY a0 a1=some r):HasT Tryz.prog 46 [.own 0 0 a0.length,.int a1] [(0,⟨1,a0.map (ow (oA 1 eI))⟩)] 1 (.int r.2) [(0,⟨1,r.1.map (ow (oA 1 eI))⟩)]:=by
 refine aAH aO (rvs:=[.tmp 4]) (ns:=nmA.drop 1) Tryz.func46 k k Tryz.ntmps46 k k<|sS<|lG k2<|sn<|tn<|sQ<|sS<|lG k2<|sn<|tn<|aG<|oB h λy5 hy5 h=>bY (body:=lP) hy5 (λ(x1:((List (List Int))×Int×Int))=>mN [(0,.own 0 0 x1.1.length),(1,.int x1.2.1),(5,.int x1.2.2)] [(0,⟨1,x1.1.map (ow (oA 1 eI))⟩)] 1 ⟨1,true,none,true⟩) (λr e t=>e= .exit 0∧Ent t (mN [(1,.int r.2)] [(0,⟨1,r.1.map (ow (oA 1 eI))⟩)] 1 ⟨1,true,none,true⟩)) (bO (bL k2) (cF (eH.plainO _) k<|aV) k4) ?_ ?_
 ·intro x1 o h;refine sQ<|sS<|fU k2<|fU k2<|se (dO aO k k k k) k<|cmS k4<|sn<|tn<|cJ k h (λ_ h=>?_) λ_ h=>bB<|aC<|aC<|sp h ⟨_,k,k,(bO (bL k2) (cF (eH.plainO _) k<|aV) k4)⟩;exact aE<|tn<|sQ<|aG<|rgS<|fU k2<|fU k2<|oB h λv2 hv2 h=>cZ (t:=mN [(0,.own 0 0 x1.1.length),(1,.int x1.2.1),(5,.int x1.2.2),(6,.int x1.2.2),(7,.own 0 0 x1.1.length),(8,.int ((x1.1.length:Nat):Int)),(9,.bl (decide (x1.2.2<((x1.1.length:Nat):Int)))),(12,.own 0 0 x1.1.length),(13,.int x1.2.2)] [(0,⟨1,(x1.1.map (ow (oA 1 eI))).set x1.2.2.toNat [.abs 1 (v2.map eI)]⟩)] 1 ⟨1,true,none,true⟩) (bO (bL k2) (hX ⟨_,k,k,.inl ⟨yY (dU hv2),wO eH k⟩⟩ k<|aV) k4)<|cZ (sK (b:=0) (c:=1) (i:=x1.2.2.toNat) (j:=0) (n:=v2.length) (A:=x1.1.map (ow (oA 1 eI))) (fs:=v2.map (ow eI)) (by rw [dB];exact eP hv2) k k k k (aU _ _) (fP _ _) (kV ⟨k,k,k,k,k,k,k,k,k,aV⟩) (kW (skip:=[]) ⟨.inr (eH.dfS _ _ _ k),aV⟩))<|cZ (t:=mN [(0,.own 0 0 x1.1.length),(1,.int x1.2.1),(5,.int x1.2.2),(6,.int x1.2.2),(7,.own 0 0 x1.1.length),(8,.int ((x1.1.length:Nat):Int)),(9,.bl (decide (x1.2.2<((x1.1.length:Nat):Int)))),(12,.own 0 0 x1.1.length),(13,.int x1.2.2)] [(0,⟨1,(x1.1.map (ow (oA 1 eI))).set x1.2.2.toNat [.own 1 0 v2.length]⟩),(1,⟨1,v2.map (ow eI)⟩)] 2 ⟨1,true,none,true⟩) (iC (σ:=sg [(0,0),(1,1)]) (bL k2) (hX ⟨_,k,k,.inr (tA (σ:=sg [(0,0),(1,1)]) (m:=2) (e:=(oA 1 eI)) (l:=x1.1) (i:=x1.2.2.toNat) (c:=[.own 1 0 v2.length]) (d:=[.own 1 0 v2.length]) eH ⟨_,_,k,⟨k,k,k,k⟩,k⟩)⟩ k<|bD k<|aV) k)<|se (xo hv2 k) k<|se (cW aO k k k k (aAh (eP hv2)) k k) k<|fU k2<|oB h λv3 hv3 h=>se (fA (σ:=sg [(0,1)]) (σ':=sg [(1,0)]) (touch:=[1]) (news:=[]) (hl2:=[(1,⟨1,v3.1.map (ow eI)⟩)]) (n':=2) (r2:= .int v3.2) (fD v2 x1.2.1 v3 hv3) k k ⟨_,_,k,⟨k,k,k,k⟩,⟨_,_,k,k,k⟩⟩ ⟨⟨_,k,k,.inl ⟨k,bH.plainO _⟩⟩,k,aV⟩ k k k ⟨⟨_,k,k,.inl ⟨k,bH.plainO _⟩⟩,k,aV⟩ k k k ⟨k,bH.tame _ _,aV⟩ k k) k<|cG h λq4 h=>lG k2<|sn<|bC<|tn<|rgS<|fU k2<|se (bF k k) k<|lG k2<|sn<|tn<|sp h ⟨_,k,(Ent.trans (show Ent _ (mN [(0,.own 0 0 ((x1.1.set x1.2.2.toNat v3.1).length)),(1,.int v3.2),(5,.int (wr (x1.2.2+1)))] [(0,⟨1,List.map (ow (oA 1 eI)) (x1.1.set x1.2.2.toNat v3.1)⟩)] 2 ⟨1,true,none,true⟩) from (Ent.trans (sZ (b:=0) (b':=1) (j:=0) (es':=v3.1.map eI) (by rw [dB];exact eP hv2) k k k k (by simp only [aU,lA,lT,lR,lC,lN,of_decide_eq_true q4]) (bH.frzs _)) (bO (sO ⟨_,k,⟨k,k,(by simp only [aU,lA,lT,lR,lC,lN,of_decide_eq_true q4]),k⟩⟩ (bL k2)) (hX ⟨_,k,k,.inl ⟨aBp v3.1 k,eH.plainO _⟩⟩ k<|aV) k4))) (bO (bL k2) (cF (eH.plainO _) k<|aV) k4))⟩
 ·rintro e t ⟨rfl,hent⟩;exact aP<|tn<|aR hent<|sS<|fU k2<|lG k2<|sn<|tn<|aD<|sp h ⟨mN [(4,.int y5.2)] [(0,⟨1,y5.1.map (ow (oA 1 eI))⟩)] 1 ⟨1,true,none,true⟩,(bO (bL k2) (cF (eH.plainO _) k<|aV) k4),k,⟨_,k,.inl k⟩,⟨k,aV⟩⟩
def kP (x1:((List Sc)×Int×Int)):Option (((List Sc)×Int×Int) ⊕ ((List Sc)×Int)):=
 bif decide (x1.2.2<((x1.1.length:Nat):Int)) then
 ((dF x1.1 x1.2.2).bind λv2=>
 (pY v2.basis (wr (x1.2.1+1))).bind λv3=>
 bif decide (v3.1.length=v2.basis.length) then
 (some (.inl ((x1.1.set x1.2.2.toNat (⟨x1.2.1,v3.1⟩:Sc)),v3.2,wr (x1.2.2+1))))
 else none)
 else
 (some (.inr (x1.1,x1.2.1)))
def oK (a0:(List Sc)) (a1:Int):Option ((List Sc)×Int):=
 (Lp kP (a0,a1,0)).bind λy5=>
 some (y5.1,y5.2)
theorem aCr (a0:(List Sc)) (a1:Int) (r:((List Sc)×Int)) (h:oK a0 a1=some r):HasT Tryz.prog 41 [.own 0 0 a0.length,.int a1] [(0,⟨2,a0.map (ow eS)⟩)] 1 (.int r.2) [(0,⟨2,r.1.map (ow eS)⟩)]:=by
 refine aAH aO (rvs:=[.tmp 4]) (ns:=nmA.drop 1) Tryz.func41 k k Tryz.ntmps41 k k<|sS<|lG k2<|sn<|tn<|sQ<|sS<|lG k2<|sn<|tn<|aG<|oB h λy5 hy5 h=>bY (body:=kP) hy5 (λ(x1:((List Sc)×Int×Int))=>mN [(0,.own 0 0 x1.1.length),(1,.int x1.2.1),(5,.int x1.2.2)] [(0,⟨2,x1.1.map (ow eS)⟩)] 1 ⟨1,true,none,true⟩) (λr e t=>e= .exit 0∧Ent t (mN [(1,.int r.2)] [(0,⟨2,r.1.map (ow eS)⟩)] 1 ⟨1,true,none,true⟩)) (bO (bL k2) (cF (gN.plainO _) k<|aV) k4) ?_ ?_
 ·intro x1 o h;refine sQ<|sS<|fU k2<|fU k2<|se (dO aO k k k k) k<|cmS k4<|sn<|tn<|cJ k h (λ_ h=>?_) λ_ h=>bB<|aC<|aC<|sp h ⟨_,k,k,(bO (bL k2) (cF (gN.plainO _) k<|aV) k4)⟩;refine aE<|tn<|sQ<|aG<|sS<|fU k2<|fU k2<|fU k2<|oB h λv2 hv2 h=>cZ (t:=mN [(0,.own 0 0 x1.1.length),(1,.int x1.2.1),(5,.int x1.2.2),(6,.int x1.2.2),(7,.own 0 0 x1.1.length),(8,.int ((x1.1.length:Nat):Int)),(9,.bl (decide (x1.2.2<((x1.1.length:Nat):Int)))),(12,.own 0 0 x1.1.length),(13,.int x1.2.2),(14,.int x1.2.1)] [(0,⟨2,(x1.1.map (ow eS)).set x1.2.2.toNat [.int v2.size,.abs 1 (v2.basis.map (oA 1 eI))]⟩)] 1 ⟨1,true,none,true⟩) (bO (bL k2) (hX ⟨_,k,k,.inl ⟨yY (dU hv2),wO gN k⟩⟩ k<|aV) k4)<|cZ (sK (b:=0) (c:=1) (i:=x1.2.2.toNat) (j:=1) (n:=v2.basis.length) (A:=x1.1.map (ow eS)) (fs:=v2.basis.map (ow (oA 1 eI))) (by rw [dB];exact eP hv2) k k k k (aU _ _) (fP _ _) (kV ⟨k,k,k,k,k,k,k,k,k,k,aV⟩) (kW (skip:=[]) ⟨.inr (gN.dfS _ _ _ k),aV⟩))<|cZ (t:=mN [(0,.own 0 0 x1.1.length),(1,.int x1.2.1),(5,.int x1.2.2),(6,.int x1.2.2),(7,.own 0 0 x1.1.length),(8,.int ((x1.1.length:Nat):Int)),(9,.bl (decide (x1.2.2<((x1.1.length:Nat):Int)))),(12,.own 0 0 x1.1.length),(13,.int x1.2.2),(14,.int x1.2.1)] [(0,⟨2,(x1.1.map (ow eS)).set x1.2.2.toNat [.int v2.size,.own 1 0 v2.basis.length]⟩),(1,⟨1,v2.basis.map (ow (oA 1 eI))⟩)] 2 ⟨1,true,none,true⟩) (iC (σ:=sg [(0,0),(1,1)]) (bL k2) (hX ⟨_,k,k,.inr (tA (σ:=sg [(0,0),(1,1)]) (m:=2) (e:=eS) (l:=x1.1) (i:=x1.2.2.toNat) (c:=[.int v2.size,.own 1 0 v2.basis.length]) (d:=[.int v2.size,.own 1 0 v2.basis.length]) gN ⟨_,_,k,k,⟨_,_,k,⟨k,k,k,k⟩,k⟩⟩)⟩ k<|cF (eH.plainO _) k<|aV) k)<|se (xo hv2 k) k<|fpS k8<|se (vF aO (A:=x1.1.map (ow eS)) (by rw [dB];exact eP hv2) k k k k k k k) k<|sn<|tn<|sS<|fU k2<|se (bF k k) k<|lG k2<|sn<|tn<|rgS<|fU k2<|fU k2<|se (xo hv2 k) k<|fpS k8 ?_;exact se (cW aO k k k k (aAh (eP hv2)) k k) k<|fU k2<|oB h λv3 hv3 h=>cZ (t:=mN [(0,.own 0 0 x1.1.length),(1,.int (wr (x1.2.1+1))),(5,.int x1.2.2),(6,.int x1.2.2),(7,.own 0 0 x1.1.length),(8,.int ((x1.1.length:Nat):Int)),(9,.bl (decide (x1.2.2<((x1.1.length:Nat):Int)))),(12,.own 0 0 x1.1.length),(13,.int x1.2.2),(14,.int x1.2.1),(15,.ptr 0 x1.2.2.toNat 0),(16,.ptr 0 x1.2.2.toNat 0),(17,.int x1.2.1),(18,.int (wr (x1.2.1+1))),(19,.own 0 0 x1.1.length),(20,.int x1.2.2),(21,.ptr 0 x1.2.2.toNat 0),(22,.ptr 0 x1.2.2.toNat 1),(23,.own 1 0 v2.basis.length),(24,.int (wr (x1.2.1+1)))] [(0,⟨2,(x1.1.map (ow eS)).set x1.2.2.toNat [.int x1.2.1,.own 1 0 v2.basis.length]⟩),(1,⟨1,v2.basis.map (ow (oA 1 eI))⟩)] 2 ⟨1,true,none,true⟩) (iC (σ:=sg [(0,0),(1,1)]) (bL k2) (hX ⟨_,k,k,.inr (tA (σ:=sg [(0,0),(1,1)]) (m:=2) (e:=eS) (l:=x1.1) (i:=x1.2.2.toNat) (c:=[.int x1.2.1,.own 1 0 v2.basis.length]) (d:=[.int x1.2.1,.own 1 0 v2.basis.length]) gN ⟨_,_,k,k,⟨_,_,k,⟨k,k,k,k⟩,k⟩⟩)⟩ k<|cF (eH.plainO _) k<|aV) k)<|vR (σ:=sg [(0,1)]) (σ':=sg [(1,0)]) (touch:=[1]) (news:=[]) (hl2:=[(1,⟨1,v3.1.map (ow (oA 1 eI))⟩)]) (n':=2) (r2:= .int v3.2) (aDh v2.basis (wr (x1.2.1+1)) v3 hv3) k k ⟨_,_,k,⟨k,k,k,k⟩,⟨_,_,k,k,k⟩⟩ ⟨⟨_,k,k,.inl ⟨k,eH.plainO _⟩⟩,k,aV⟩ k k k ⟨⟨_,k,k,.inl ⟨k,eH.plainO _⟩⟩,k,aV⟩ k k k ⟨k,eH.tame _ _,aV⟩ k k k k k (kV ⟨k,k,k,k,k,k,k,k,k,k,k,k,k,k,k,k,k,k,k,k,aV⟩) (kW (skip:=[1]) ⟨.inr (gN.dfS _ _ _ k),.inl (by decide),aV⟩)<|cG h λq4 h=>lG k2<|sn<|bC<|tn<|rgS<|fU k2<|se (bF k k) k<|lG k2<|sn<|tn<|sp h ⟨_,k,(Ent.trans (show Ent _ (mN [(0,.own 0 0 ((x1.1.set x1.2.2.toNat (⟨x1.2.1,v3.1⟩:Sc)).length)),(1,.int v3.2),(5,.int (wr (x1.2.2+1)))] [(0,⟨2,List.map (ow eS) (x1.1.set x1.2.2.toNat (⟨x1.2.1,v3.1⟩:Sc))⟩)] 2 ⟨1,true,none,true⟩) from (Ent.trans (sZ (b:=0) (b':=1) (j:=1) (es':=v3.1.map (oA 1 eI)) (by rw [dB];exact eP hv2) k k k k (by simp only [aU,lA,lT,lR,lC,lN,of_decide_eq_true q4]) (eH.frzs _)) (bO (sO ⟨_,k,⟨k,k,(by simp only [aU,lA,lT,lR,lC,lN,of_decide_eq_true q4]),k⟩⟩ (bL k2)) (hX ⟨_,k,k,.inl ⟨aBp (⟨x1.2.1,v3.1⟩:Sc) k,gN.plainO _⟩⟩ k<|aV) k4))) (bO (bL k2) (cF (gN.plainO _) k<|aV) k4))⟩
 ·rintro e t ⟨rfl,hent⟩;exact aP<|tn<|aR hent<|sS<|fU k2<|lG k2<|sn<|tn<|aD<|sp h ⟨mN [(4,.int y5.2)] [(0,⟨2,y5.1.map (ow eS)⟩)] 1 ⟨1,true,none,true⟩,(bO (bL k2) (cF (gN.plainO _) k<|aV) k4),k,⟨_,k,.inl k⟩,⟨k,aV⟩⟩
def oN (a0:Qv) (a1:Int):Option ((List Int)×(List Int)×Int):=
 (dJ a0.src a1).bind λv1=>
 bif decide (v1.1.length=a0.src.length) then
 ((dJ a0.tgt v1.2).bind λv3=>
 bif decide (v3.1.length=a0.tgt.length) then
 (some (v1.1,v3.1,v3.2))
 else none)
 else none
theorem aCs (a0:Qv) (a1:Int) (r:((List Int)×(List Int)×Int)) (h:oN a0 a1=some r):HasE Tryz.prog 69 [.agg [.int a0.n,.own 0 0 a0.src.length,.own 1 0 a0.tgt.length],.int a1] [(0,⟨1,a0.src.map (ow eI)⟩),(1,⟨1,a0.tgt.map (ow eI)⟩)] 2 (.int r.2.2) [(0,⟨1,r.1.map (ow eI)⟩),(1,⟨1,r.2.1.map (ow eI)⟩)]:=by
 refine aCV aO (rvs:=[.tmp 4]) (ns:=nmA.drop 2) Tryz.func69 k k Tryz.ntmps69 k k<|sR<|ae (wb k) k<|aT k2<|sR<|fp k8<|lp k8<|am k k<|oB h λv1 hv1 h=>ae (fA (σ:=sg [(0,0)]) (σ':=sg [(0,0)]) (touch:=[0]) (news:=[]) (hl2:=[(0,⟨1,v1.1.map (ow eI)⟩)]) (n':=3) (r2:= .int v1.2) (fD a0.src a1 v1 hv1) k k ⟨_,_,k,⟨k,k,k,k⟩,⟨_,_,k,k,k⟩⟩ ⟨⟨_,k,k,.inl ⟨k,bH.plainO _⟩⟩,k,aV⟩ k k k ⟨⟨_,k,k,.inl ⟨k,bH.plainO _⟩⟩,k,aV⟩ k k k ⟨k,bH.tame _ _,aV⟩ k k) k<|cG h λq2 h=>aT k2<|sR<|fp k8<|lp k8<|am k k<|oB h λv3 hv3 h=>ae (fA (σ:=sg [(0,1)]) (σ':=sg [(1,0)]) (touch:=[1]) (news:=[]) (hl2:=[(1,⟨1,v3.1.map (ow eI)⟩)]) (n':=3) (r2:= .int v3.2) (fD a0.tgt v1.2 v3 hv3) k k ⟨_,_,k,⟨k,k,k,k⟩,⟨_,_,k,k,k⟩⟩ ⟨⟨_,k,k,.inl ⟨k,bH.plainO _⟩⟩,k,aV⟩ k k k ⟨⟨_,k,k,.inl ⟨k,bH.plainO _⟩⟩,k,aV⟩ k k k ⟨k,bH.tame _ _,aV⟩ k k) k<|cG h λq4 h=>aT k2<|sR<|am k k<|aa k k<|an ?_;exact tn<|aD<|sp h ⟨mN [(4,.int v3.2)] [(0,⟨1,v1.1.map (ow eI)⟩),(1,⟨1,v3.1.map (ow eI)⟩)] 2 2,(bO (bL k2) (bD k<|bD k<|aV) k4),k,⟨_,k,.inl k⟩,⟨k,k,aV⟩⟩
def jN (x1:((List Mt)×Int×Int)):Option (((List Mt)×Int×Int) ⊕ ((List Mt)×Int)):=
 bif decide (x1.2.2<((x1.1.length:Nat):Int)) then
 ((dF x1.1 x1.2.2).bind λv2=>
 (dJ v2.cells (wr ((wr (x1.2.1+1))+1))).bind λv3=>
 bif decide (v3.1.length=v2.cells.length) then
 (some (.inl ((x1.1.set x1.2.2.toNat (⟨x1.2.1,wr (x1.2.1+1),v3.1⟩:Mt)),v3.2,wr (x1.2.2+1))))
 else none)
 else
 (some (.inr (x1.1,x1.2.1)))
def gW (a0:(List Mt)) (a1:Int):Option ((List Mt)×Int):=
 (Lp jN (a0,a1,0)).bind λy5=>
 some (y5.1,y5.2)
theorem sB (a0:(List Mt)) (a1:Int) (r:((List Mt)×Int)) (h:gW a0 a1=some r):HasT Tryz.prog 70 [.own 0 0 a0.length,.int a1] [(0,⟨3,a0.map (ow eM)⟩)] 1 (.int r.2) [(0,⟨3,r.1.map (ow eM)⟩)]:=by
 refine aAH aO (rvs:=[.tmp 4]) (ns:=nmA.drop 1) Tryz.func70 k k Tryz.ntmps70 k k<|sS<|lG k2<|sn<|tn<|sQ<|sS<|lG k2<|sn<|tn<|aG<|oB h λy5 hy5 h=>bY (body:=jN) hy5 (λ(x1:((List Mt)×Int×Int))=>mN [(0,.own 0 0 x1.1.length),(1,.int x1.2.1),(5,.int x1.2.2)] [(0,⟨3,x1.1.map (ow eM)⟩)] 1 ⟨1,true,none,true⟩) (λr e t=>e= .exit 0∧Ent t (mN [(1,.int r.2)] [(0,⟨3,r.1.map (ow eM)⟩)] 1 ⟨1,true,none,true⟩)) (bO (bL k2) (cF (aW.plainO _) k<|aV) k4) ?_ ?_
 ·intro x1 o h;refine sQ<|sS<|fU k2<|fU k2<|se (dO aO k k k k) k<|cmS k4<|sn<|tn<|cJ k h (λ_ h=>?_) λ_ h=>bB<|aC<|aC<|sp h ⟨_,k,k,(bO (bL k2) (cF (aW.plainO _) k<|aV) k4)⟩;refine aE<|tn<|sQ<|aG<|sS<|fU k2<|fU k2<|fU k2<|oB h λv2 hv2 h=>cZ (t:=mN [(0,.own 0 0 x1.1.length),(1,.int x1.2.1),(5,.int x1.2.2),(6,.int x1.2.2),(7,.own 0 0 x1.1.length),(8,.int ((x1.1.length:Nat):Int)),(9,.bl (decide (x1.2.2<((x1.1.length:Nat):Int)))),(12,.own 0 0 x1.1.length),(13,.int x1.2.2),(14,.int x1.2.1)] [(0,⟨3,(x1.1.map (ow eM)).set x1.2.2.toNat [.int v2.rows,.int v2.cols,.abs 1 (v2.cells.map eI)]⟩)] 1 ⟨1,true,none,true⟩) (bO (bL k2) (hX ⟨_,k,k,.inl ⟨yY (dU hv2),wO aW k⟩⟩ k<|aV) k4)<|cZ (sK (b:=0) (c:=1) (i:=x1.2.2.toNat) (j:=2) (n:=v2.cells.length) (A:=x1.1.map (ow eM)) (fs:=v2.cells.map (ow eI)) (by rw [dB];exact eP hv2) k k k k (aU _ _) (fP _ _) (kV ⟨k,k,k,k,k,k,k,k,k,k,aV⟩) (kW (skip:=[]) ⟨.inr (aW.dfS _ _ _ k),aV⟩))<|cZ (t:=mN [(0,.own 0 0 x1.1.length),(1,.int x1.2.1),(5,.int x1.2.2),(6,.int x1.2.2),(7,.own 0 0 x1.1.length),(8,.int ((x1.1.length:Nat):Int)),(9,.bl (decide (x1.2.2<((x1.1.length:Nat):Int)))),(12,.own 0 0 x1.1.length),(13,.int x1.2.2),(14,.int x1.2.1)] [(0,⟨3,(x1.1.map (ow eM)).set x1.2.2.toNat [.int v2.rows,.int v2.cols,.own 1 0 v2.cells.length]⟩),(1,⟨1,v2.cells.map (ow eI)⟩)] 2 ⟨1,true,none,true⟩) (iC (σ:=sg [(0,0),(1,1)]) (bL k2) (hX ⟨_,k,k,.inr (tA (σ:=sg [(0,0),(1,1)]) (m:=2) (e:=eM) (l:=x1.1) (i:=x1.2.2.toNat) (c:=[.int v2.rows,.int v2.cols,.own 1 0 v2.cells.length]) (d:=[.int v2.rows,.int v2.cols,.own 1 0 v2.cells.length]) aW ⟨_,_,k,k,⟨_,_,k,k,⟨_,_,k,⟨k,k,k,k⟩,k⟩⟩⟩)⟩ k<|bD k<|aV) k)<|se (xo hv2 k) k<|fpS k8<|se (vF aO (A:=x1.1.map (ow eM)) (by rw [dB];exact eP hv2) k k k k k k k) k<|sn<|tn<|sS<|fU k2<|se (bF k k) k<|lG k2<|sn<|tn<|sS<|fU k2<|fU k2<|fU k2 ?_;exact se (xo hv2 k) k<|fpS k8<|se (vF aO (A:=x1.1.map (ow eM)) (by rw [dB];exact eP hv2) k k k k k k k) k<|sn<|tn<|sS<|fU k2<|se (bF k k) k<|lG k2<|sn<|tn<|rgS<|fU k2<|fU k2<|se (xo hv2 k) k<|fpS k8<|se (cW aO k k k k (aAh (eP hv2)) k k) k<|fU k2<|oB h λv3 hv3 h=>se (fA (σ:=sg [(0,1)]) (σ':=sg [(1,0)]) (touch:=[1]) (news:=[]) (hl2:=[(1,⟨1,v3.1.map (ow eI)⟩)]) (n':=2) (r2:= .int v3.2) (fD v2.cells (wr ((wr (x1.2.1+1))+1)) v3 hv3) k k ⟨_,_,k,⟨k,k,k,k⟩,⟨_,_,k,k,k⟩⟩ ⟨⟨_,k,k,.inl ⟨k,bH.plainO _⟩⟩,k,aV⟩ k k k ⟨⟨_,k,k,.inl ⟨k,bH.plainO _⟩⟩,k,aV⟩ k k k ⟨k,bH.tame _ _,aV⟩ k k) k<|cG h λq4 h=>lG k2<|sn<|bC<|tn<|rgS<|fU k2<|se (bF k k) k<|lG k2<|sn<|tn<|sp h ⟨_,k,(Ent.trans (show Ent _ (mN [(0,.own 0 0 ((x1.1.set x1.2.2.toNat (⟨x1.2.1,wr (x1.2.1+1),v3.1⟩:Mt)).length)),(1,.int v3.2),(5,.int (wr (x1.2.2+1)))] [(0,⟨3,List.map (ow eM) (x1.1.set x1.2.2.toNat (⟨x1.2.1,wr (x1.2.1+1),v3.1⟩:Mt))⟩)] 2 ⟨1,true,none,true⟩) from (Ent.trans (sZ (b:=0) (b':=1) (j:=2) (es':=v3.1.map eI) (by rw [dB];exact eP hv2) k k k k (by simp only [aU,lA,lT,lR,lC,lN,of_decide_eq_true q4]) (bH.frzs _)) (bO (sO ⟨_,k,⟨k,k,(by simp only [aU,lA,lT,lR,lC,lN,of_decide_eq_true q4]),k⟩⟩ (bL k2)) (hX ⟨_,k,k,.inl ⟨aBp (⟨x1.2.1,wr (x1.2.1+1),v3.1⟩:Mt) k,aW.plainO _⟩⟩ k<|aV) k4))) (bO (bL k2) (cF (aW.plainO _) k<|aV) k4))⟩
 ·rintro e t ⟨rfl,hent⟩;exact aP<|tn<|aR hent<|sS<|fU k2<|lG k2<|sn<|tn<|aD<|sp h ⟨mN [(4,.int y5.2)] [(0,⟨3,y5.1.map (ow eM)⟩)] 1 ⟨1,true,none,true⟩,(bO (bL k2) (cF (aW.plainO _) k<|aV) k4),k,⟨_,k,.inl k⟩,⟨k,aV⟩⟩
def jE (a0:Rp) (a1:Int):Option ((List Int)×(List Int)×(List Int)×(List Mt)×Int):=
 (oN a0.q a1).bind λv1=>
 bif decide (v1.1.length=a0.q.src.length) then
 (bif decide (v1.2.1.length=a0.q.tgt.length) then
 ((dJ a0.dims v1.2.2).bind λv4=>
 bif decide (v4.1.length=a0.dims.length) then
 ((gW a0.maps v4.2).bind λv6=>
 bif decide (v6.1.length=a0.maps.length) then
 (some (v1.1,v1.2.1,v4.1,v6.1,v6.2))
 else none)
 else none)
 else none)
 else none
theorem tP (a0:Rp) (a1:Int) (r:((List Int)×(List Int)×(List Int)×(List Mt)×Int)) (h:jE a0 a1=some r):HasT Tryz.prog 19 [.agg [.int a0.p,.int a0.q.n,.own 0 0 a0.q.src.length,.own 1 0 a0.q.tgt.length,.own 2 0 a0.dims.length,.own 3 0 a0.maps.length],.int a1] [(0,⟨1,a0.q.src.map (ow eI)⟩),(1,⟨1,a0.q.tgt.map (ow eI)⟩),(2,⟨1,a0.dims.map (ow eI)⟩),(3,⟨3,a0.maps.map (ow eM)⟩)] 4 (.int r.2.2.2.2) [(0,⟨1,r.1.map (ow eI)⟩),(1,⟨1,r.2.1.map (ow eI)⟩),(2,⟨1,r.2.2.1.map (ow eI)⟩),(3,⟨3,r.2.2.2.1.map (ow eM)⟩)]:=by
 refine aAH aO (rvs:=[.tmp 4]) (ns:=nmA.drop 4) Tryz.func19 k k Tryz.ntmps19 k k<|sS<|se (wb k) k<|lG k2<|sn<|tn<|sS<|fpS k8<|lpS k8<|fU k2<|oB h λv1 hv1 h=>se (fA (σ:=sg [(0,0),(1,1)]) (σ':=sg [(0,0),(1,1)]) (touch:=[0,1]) (news:=[]) (hl2:=[(0,⟨1,v1.1.map (ow eI)⟩),(1,⟨1,v1.2.1.map (ow eI)⟩)]) (n':=5) (r2:= .int v1.2.2) (aCs a0.q a1 v1 hv1) k k ⟨_,_,k,⟨_,_,k,k,⟨_,_,k,⟨k,k,k,k⟩,⟨_,_,k,⟨k,k,k,k⟩,k⟩⟩⟩,⟨_,_,k,k,k⟩⟩ ⟨⟨_,k,k,.inl ⟨k,bH.plainO _⟩⟩,k,⟨_,k,k,.inl ⟨k,bH.plainO _⟩⟩,k,aV⟩ k k k ⟨⟨_,k,k,.inl ⟨k,bH.plainO _⟩⟩,k,⟨_,k,k,.inl ⟨k,bH.plainO _⟩⟩,k,aV⟩ k k k ⟨k,bH.tame _ _,⟨k,bH.tame _ _,aV⟩⟩ k k) k<|cG h λq2 h=>cG h λq3 h=>lG k2<|sn<|tn<|sS<|fpS k8<|lpS k8<|fU k2<|oB h λv4 hv4 h=>se (fA (σ:=sg [(0,2)]) (σ':=sg [(2,0)]) (touch:=[2]) (news:=[]) (hl2:=[(2,⟨1,v4.1.map (ow eI)⟩)]) (n':=5) (r2:= .int v4.2) (fD a0.dims v1.2.2 v4 hv4) k k ⟨_,_,k,⟨k,k,k,k⟩,⟨_,_,k,k,k⟩⟩ ⟨⟨_,k,k,.inl ⟨k,bH.plainO _⟩⟩,k,aV⟩ k k k ⟨⟨_,k,k,.inl ⟨k,bH.plainO _⟩⟩,k,aV⟩ k k k ⟨k,bH.tame _ _,aV⟩ k k) k<|cG h λq5 h=>lG k2<|sn<|tn<|sS<|fpS k8<|lpS k8<|fU k2 ?_;exact oB h λv6 hv6 h=>cZ (t:=mN [(0,.agg (zL a0 0 1 2 3)),(1,.int v4.2),(2,.ptr 4 0 0),(4,.int 0),(5,.ptr 4 0 1),(6,.agg (oQv a0.q 0 1)),(7,.int a1),(8,.int v1.2.2),(9,.ptr 4 0 4),(10,.own 2 0 a0.dims.length),(11,.int v1.2.2),(12,.int v4.2),(13,.ptr 4 0 5),(14,.own 3 0 a0.maps.length),(15,.int v4.2)] [(0,⟨1,v1.1.map (ow eI)⟩),(1,⟨1,v1.2.1.map (ow eI)⟩),(2,⟨1,v4.1.map (ow eI)⟩),(3,⟨3,a0.maps.map (ow eM)⟩),(4,⟨6,[zL a0 0 1 2 3]⟩)] 5 ⟨4,true,none,true⟩) (bO (bL k2) (bD k<|bD k<|bD k<|cF (aW.plainO _) k<|fK k<|aV) k4)<|vR (σ:=sg [(0,3)]) (σ':=sg [(3,0)]) (touch:=[3]) (news:=[]) (hl2:=[(3,⟨3,v6.1.map (ow eM)⟩)]) (n':=5) (r2:= .int v6.2) (sB a0.maps v4.2 v6 hv6) k k ⟨_,_,k,⟨k,k,k,k⟩,⟨_,_,k,k,k⟩⟩ ⟨⟨_,k,k,.inl ⟨k,aW.plainO _⟩⟩,k,aV⟩ k k k ⟨⟨_,k,k,.inl ⟨k,aW.plainO _⟩⟩,k,aV⟩ k k k ⟨k,aW.tame _ _,aV⟩ k k k k k (kV ⟨k,k,k,k,k,k,k,k,k,k,k,k,k,k,k,aV⟩) (kW (skip:=[3]) ⟨.inr (bH.df _ _),.inr (bH.df _ _),.inr (bH.df _ _),.inl (by decide),.inr (gS k),aV⟩)<|cG h λq7 h=>lG k2<|sn<|tn<|sS<|fU k2<|lG k2<|sn<|tn<|aD<|sp h ⟨mN [(4,.int v6.2)] [(0,⟨1,v1.1.map (ow eI)⟩),(1,⟨1,v1.2.1.map (ow eI)⟩),(2,⟨1,v4.1.map (ow eI)⟩),(3,⟨3,v6.1.map (ow eM)⟩)] 4 ⟨4,true,none,true⟩,(bO (bL k2) (bD k<|bD k<|bD k<|cF (aW.plainO _) k<|aV) k4),k,⟨_,k,.inl k⟩,⟨k,k,k,k,aV⟩⟩
def sC (x1:((List Rp)×Int×Int)):Option (((List Rp)×Int×Int) ⊕ ((List Rp)×Int)):=
 bif decide (x1.2.2<((x1.1.length:Nat):Int)) then
 ((dF x1.1 x1.2.2).bind λv2=>
 (dJ v2.q.src (wr ((wr (x1.2.1+1))+1))).bind λv3=>
 bif decide (v3.1.length=v2.q.src.length) then
 ((dJ v2.q.tgt v3.2).bind λv5=>
 bif decide (v5.1.length=v2.q.tgt.length) then
 ((dJ v2.dims v5.2).bind λv7=>
 bif decide (v7.1.length=v2.dims.length) then
 ((gW v2.maps v7.2).bind λv9=>
 bif decide (v9.1.length=v2.maps.length) then
 (some (.inl ((x1.1.set x1.2.2.toNat (⟨x1.2.1,(⟨wr (x1.2.1+1),v3.1,v5.1⟩:Qv),v7.1,v9.1⟩:Rp)),v9.2,wr (x1.2.2+1))))
 else none)
 else none)
 else none)
 else none)
 else
 (some (.inr (x1.1,x1.2.1)))
def rM (a0:(List Rp)) (a1:Int):Option ((List Rp)×Int):=
 (Lp sC (a0,a1,0)).bind λy11=>
 some (y11.1,y11.2)
theorem aET (a0:(List Rp)) (a1:Int) (r:((List Rp)×Int)) (h:rM a0 a1=some r):HasT Tryz.prog 71 [.own 0 0 a0.length,.int a1] [(0,⟨6,a0.map (ow eR)⟩)] 1 (.int r.2) [(0,⟨6,r.1.map (ow eR)⟩)]:=by
 refine aAH aO (rvs:=[.tmp 4]) (ns:=nmA.drop 1) Tryz.func71 k k Tryz.ntmps71 k k<|sS<|lG k2<|sn<|tn<|sQ<|sS<|lG k2<|sn<|tn<|aG<|oB h λy11 hy11 h=>bY (body:=sC) hy11 (λ(x1:((List Rp)×Int×Int))=>mN [(0,.own 0 0 x1.1.length),(1,.int x1.2.1),(5,.int x1.2.2)] [(0,⟨6,x1.1.map (ow eR)⟩)] 1 ⟨1,true,none,true⟩) (λr e t=>e= .exit 0∧Ent t (mN [(1,.int r.2)] [(0,⟨6,r.1.map (ow eR)⟩)] 1 ⟨1,true,none,true⟩)) (bO (bL k2) (cF (fB.plainO _) k<|aV) k4) ?_ ?_
 ·intro x1 o h;refine sQ<|sS<|fU k2<|fU k2<|se (dO aO k k k k) k<|cmS k4<|sn<|tn<|cJ k h (λ_ h=>?_) λ_ h=>bB<|aC<|aC<|sp h ⟨_,k,k,(bO (bL k2) (cF (fB.plainO _) k<|aV) k4)⟩;refine aE<|tn<|sQ<|aG<|sS<|fU k2<|fU k2<|fU k2<|oB h λv2 hv2 h=>cZ (t:=mN [(0,.own 0 0 x1.1.length),(1,.int x1.2.1),(5,.int x1.2.2),(6,.int x1.2.2),(7,.own 0 0 x1.1.length),(8,.int ((x1.1.length:Nat):Int)),(9,.bl (decide (x1.2.2<((x1.1.length:Nat):Int)))),(12,.own 0 0 x1.1.length),(13,.int x1.2.2),(14,.int x1.2.1)] [(0,⟨6,(x1.1.map (ow eR)).set x1.2.2.toNat [.int v2.p,.int v2.q.n,.abs 1 (v2.q.src.map eI),.abs 1 (v2.q.tgt.map eI),.abs 1 (v2.dims.map eI),.abs 3 (v2.maps.map eM)]⟩)] 1 ⟨1,true,none,true⟩) (bO (bL k2) (hX ⟨_,k,k,.inl ⟨yY (dU hv2),wO fB k⟩⟩ k<|aV) k4)<|cZ (sK (b:=0) (c:=1) (i:=x1.2.2.toNat) (j:=2) (n:=v2.q.src.length) (A:=x1.1.map (ow eR)) (fs:=v2.q.src.map (ow eI)) (by rw [dB];exact eP hv2) k k k k (aU _ _) (fP _ _) (kV ⟨k,k,k,k,k,k,k,k,k,k,aV⟩) (kW (skip:=[]) ⟨.inr (fB.dfS _ _ _ k),aV⟩))<|cZ (t:=mN [(0,.own 0 0 x1.1.length),(1,.int x1.2.1),(5,.int x1.2.2),(6,.int x1.2.2),(7,.own 0 0 x1.1.length),(8,.int ((x1.1.length:Nat):Int)),(9,.bl (decide (x1.2.2<((x1.1.length:Nat):Int)))),(12,.own 0 0 x1.1.length),(13,.int x1.2.2),(14,.int x1.2.1)] [(0,⟨6,(x1.1.map (ow eR)).set x1.2.2.toNat [.int v2.p,.int v2.q.n,.own 1 0 v2.q.src.length,.abs 1 (v2.q.tgt.map eI),.abs 1 (v2.dims.map eI),.abs 3 (v2.maps.map eM)]⟩),(1,⟨1,v2.q.src.map (ow eI)⟩)] 2 ⟨1,true,none,true⟩) (iC (σ:=sg [(0,0),(1,1)]) (bL k2) (hX ⟨_,k,k,.inr (tA (σ:=sg [(0,0),(1,1)]) (m:=2) (e:=eR) (l:=x1.1) (i:=x1.2.2.toNat) (c:=[.int v2.p,.int v2.q.n,.own 1 0 v2.q.src.length,.abs 1 (v2.q.tgt.map eI),.abs 1 (v2.dims.map eI),.abs 3 (v2.maps.map eM)]) (d:=[.int v2.p,.int v2.q.n,.own 1 0 v2.q.src.length,.abs 1 (v2.q.tgt.map eI),.abs 1 (v2.dims.map eI),.abs 3 (v2.maps.map eM)]) fB ⟨_,_,k,k,⟨_,_,k,k,⟨_,_,k,⟨k,k,k,k⟩,⟨_,_,k,⟨k,k⟩,⟨_,_,k,⟨k,k⟩,⟨_,_,k,⟨k,k⟩,k⟩⟩⟩⟩⟩⟩)⟩ k<|bD k<|aV) k)<|cZ (sK (b:=0) (c:=2) (i:=x1.2.2.toNat) (j:=3) (n:=v2.q.tgt.length) (A:=x1.1.map (ow eR)) (fs:=v2.q.tgt.map (ow eI)) (by rw [dB];exact eP hv2) k k k k (aU _ _) (fP _ _) (kV ⟨k,k,k,k,k,k,k,k,k,k,aV⟩) (kW (skip:=[]) ⟨.inr (fB.dfS _ _ _ k),.inr (bH.df _ _),aV⟩))<|cZ (t:=mN [(0,.own 0 0 x1.1.length),(1,.int x1.2.1),(5,.int x1.2.2),(6,.int x1.2.2),(7,.own 0 0 x1.1.length),(8,.int ((x1.1.length:Nat):Int)),(9,.bl (decide (x1.2.2<((x1.1.length:Nat):Int)))),(12,.own 0 0 x1.1.length),(13,.int x1.2.2),(14,.int x1.2.1)] [(0,⟨6,(x1.1.map (ow eR)).set x1.2.2.toNat [.int v2.p,.int v2.q.n,.own 1 0 v2.q.src.length,.own 2 0 v2.q.tgt.length,.abs 1 (v2.dims.map eI),.abs 3 (v2.maps.map eM)]⟩),(1,⟨1,v2.q.src.map (ow eI)⟩),(2,⟨1,v2.q.tgt.map (ow eI)⟩)] 3 ⟨1,true,none,true⟩) (iC (σ:=sg [(0,0),(1,1),(2,2)]) (bL k2) (hX ⟨_,k,k,.inr (tA (σ:=sg [(0,0),(1,1),(2,2)]) (m:=3) (e:=eR) (l:=x1.1) (i:=x1.2.2.toNat) (c:=[.int v2.p,.int v2.q.n,.own 1 0 v2.q.src.length,.own 2 0 v2.q.tgt.length,.abs 1 (v2.dims.map eI),.abs 3 (v2.maps.map eM)]) (d:=[.int v2.p,.int v2.q.n,.own 1 0 v2.q.src.length,.own 2 0 v2.q.tgt.length,.abs 1 (v2.dims.map eI),.abs 3 (v2.maps.map eM)]) fB ⟨_,_,k,k,⟨_,_,k,k,⟨_,_,k,⟨k,k,k,k⟩,⟨_,_,k,⟨k,k,k,k⟩,⟨_,_,k,⟨k,k⟩,⟨_,_,k,⟨k,k⟩,k⟩⟩⟩⟩⟩⟩)⟩ k<|bD k<|bD k<|aV) k)<|cZ (sK (b:=0) (c:=3) (i:=x1.2.2.toNat) (j:=4) (n:=v2.dims.length) (A:=x1.1.map (ow eR)) (fs:=v2.dims.map (ow eI)) (by rw [dB];exact eP hv2) k k k k (aU _ _) (fP _ _) (kV ⟨k,k,k,k,k,k,k,k,k,k,aV⟩) (kW (skip:=[]) ⟨.inr (fB.dfS _ _ _ k),.inr (bH.df _ _),.inr (bH.df _ _),aV⟩))<|cZ (t:=mN [(0,.own 0 0 x1.1.length),(1,.int x1.2.1),(5,.int x1.2.2),(6,.int x1.2.2),(7,.own 0 0 x1.1.length),(8,.int ((x1.1.length:Nat):Int)),(9,.bl (decide (x1.2.2<((x1.1.length:Nat):Int)))),(12,.own 0 0 x1.1.length),(13,.int x1.2.2),(14,.int x1.2.1)] [(0,⟨6,(x1.1.map (ow eR)).set x1.2.2.toNat [.int v2.p,.int v2.q.n,.own 1 0 v2.q.src.length,.own 2 0 v2.q.tgt.length,.own 3 0 v2.dims.length,.abs 3 (v2.maps.map eM)]⟩),(1,⟨1,v2.q.src.map (ow eI)⟩),(2,⟨1,v2.q.tgt.map (ow eI)⟩),(3,⟨1,v2.dims.map (ow eI)⟩)] 4 ⟨1,true,none,true⟩) (iC (σ:=sg [(0,0),(1,1),(2,2),(3,3)]) (bL k2) (hX ⟨_,k,k,.inr (tA (σ:=sg [(0,0),(1,1),(2,2),(3,3)]) (m:=4) (e:=eR) (l:=x1.1) (i:=x1.2.2.toNat) (c:=[.int v2.p,.int v2.q.n,.own 1 0 v2.q.src.length,.own 2 0 v2.q.tgt.length,.own 3 0 v2.dims.length,.abs 3 (v2.maps.map eM)]) (d:=[.int v2.p,.int v2.q.n,.own 1 0 v2.q.src.length,.own 2 0 v2.q.tgt.length,.own 3 0 v2.dims.length,.abs 3 (v2.maps.map eM)]) fB ⟨_,_,k,k,⟨_,_,k,k,⟨_,_,k,⟨k,k,k,k⟩,⟨_,_,k,⟨k,k,k,k⟩,⟨_,_,k,⟨k,k,k,k⟩,⟨_,_,k,⟨k,k⟩,k⟩⟩⟩⟩⟩⟩)⟩ k<|bD k<|bD k<|bD k<|aV) k)<|cZ (sK (b:=0) (c:=4) (i:=x1.2.2.toNat) (j:=5) (n:=v2.maps.length) (A:=x1.1.map (ow eR)) (fs:=v2.maps.map (ow eM)) (by rw [dB];exact eP hv2) k k k k (aU _ _) (fP _ _) (kV ⟨k,k,k,k,k,k,k,k,k,k,aV⟩) (kW (skip:=[]) ⟨.inr (fB.dfS _ _ _ k),.inr (bH.df _ _),.inr (bH.df _ _),.inr (bH.df _ _),aV⟩))<|cZ (t:=mN [(0,.own 0 0 x1.1.length),(1,.int x1.2.1),(5,.int x1.2.2),(6,.int x1.2.2),(7,.own 0 0 x1.1.length),(8,.int ((x1.1.length:Nat):Int)),(9,.bl (decide (x1.2.2<((x1.1.length:Nat):Int)))),(12,.own 0 0 x1.1.length),(13,.int x1.2.2),(14,.int x1.2.1)] [(0,⟨6,(x1.1.map (ow eR)).set x1.2.2.toNat [.int v2.p,.int v2.q.n,.own 1 0 v2.q.src.length,.own 2 0 v2.q.tgt.length,.own 3 0 v2.dims.length,.own 4 0 v2.maps.length]⟩),(1,⟨1,v2.q.src.map (ow eI)⟩),(2,⟨1,v2.q.tgt.map (ow eI)⟩),(3,⟨1,v2.dims.map (ow eI)⟩),(4,⟨3,v2.maps.map (ow eM)⟩)] 5 ⟨1,true,none,true⟩) (iC (σ:=sg [(0,0),(1,1),(2,2),(3,3),(4,4)]) (bL k2) (hX ⟨_,k,k,.inr (tA (σ:=sg [(0,0),(1,1),(2,2),(3,3),(4,4)]) (m:=5) (e:=eR) (l:=x1.1) (i:=x1.2.2.toNat) (c:=[.int v2.p,.int v2.q.n,.own 1 0 v2.q.src.length,.own 2 0 v2.q.tgt.length,.own 3 0 v2.dims.length,.own 4 0 v2.maps.length]) (d:=[.int v2.p,.int v2.q.n,.own 1 0 v2.q.src.length,.own 2 0 v2.q.tgt.length,.own 3 0 v2.dims.length,.own 4 0 v2.maps.length]) fB ⟨_,_,k,k,⟨_,_,k,k,⟨_,_,k,⟨k,k,k,k⟩,⟨_,_,k,⟨k,k,k,k⟩,⟨_,_,k,⟨k,k,k,k⟩,⟨_,_,k,⟨k,k,k,k⟩,k⟩⟩⟩⟩⟩⟩)⟩ k<|bD k<|bD k<|bD k<|cF (aW.plainO _) k<|aV) k) ?_;refine se (xo hv2 k) k<|fpS k8<|se (vF aO (A:=x1.1.map (ow eR)) (by rw [dB];exact eP hv2) k k k k k k k) k<|sn<|tn<|sS<|fU k2<|se (bF k k) k<|lG k2<|sn<|tn<|sS<|fU k2<|fU k2<|fU k2<|se (xo hv2 k) k<|fpS k8<|fpS k8<|se (vF aO (A:=x1.1.map (ow eR)) (by rw [dB];exact eP hv2) k k k k k k k) k<|sn<|tn<|sS<|fU k2<|se (bF k k) k<|lG k2<|sn<|tn ?_;refine sS<|fU k2<|fU k2<|se (xo hv2 k) k<|fpS k8<|fpS k8<|se (cW aO k k k k (aAh (eP hv2)) k k) k<|fU k2<|oB h λv3 hv3 h=>se (fA (σ:=sg [(0,1)]) (σ':=sg [(1,0)]) (touch:=[1]) (news:=[]) (hl2:=[(1,⟨1,v3.1.map (ow eI)⟩)]) (n':=5) (r2:= .int v3.2) (fD v2.q.src (wr ((wr (x1.2.1+1))+1)) v3 hv3) k k ⟨_,_,k,⟨k,k,k,k⟩,⟨_,_,k,k,k⟩⟩ ⟨⟨_,k,k,.inl ⟨k,bH.plainO _⟩⟩,k,aV⟩ k k k ⟨⟨_,k,k,.inl ⟨k,bH.plainO _⟩⟩,k,aV⟩ k k k ⟨k,bH.tame _ _,aV⟩ k k) k<|cG h λq4 h=>lG k2<|sn<|tn<|aR (t:=mN [(0,.own 0 0 x1.1.length),(1,.int v3.2),(5,.int x1.2.2)] [(0,⟨6,(x1.1.map (ow eR)).set x1.2.2.toNat [.int x1.2.1,.int (wr (x1.2.1+1)),.own 1 0 v3.1.length,.own 2 0 v2.q.tgt.length,.own 3 0 v2.dims.length,.own 4 0 v2.maps.length]⟩),(1,⟨1,v3.1.map (ow eI)⟩),(2,⟨1,v2.q.tgt.map (ow eI)⟩),(3,⟨1,v2.dims.map (ow eI)⟩),(4,⟨3,v2.maps.map (ow eM)⟩)] 5 ⟨1,true,none,true⟩) (iC (σ:=sg [(0,0),(1,1),(2,2),(3,3),(4,4)]) (bL k2) (hX ⟨_,k,k,.inr (tA (σ:=sg [(0,0),(1,1),(2,2),(3,3),(4,4)]) (m:=5) (e:=eR) (l:=x1.1) (i:=x1.2.2.toNat) (c:=[.int x1.2.1,.int (wr (x1.2.1+1)),.own 1 0 v2.q.src.length,.own 2 0 v2.q.tgt.length,.own 3 0 v2.dims.length,.own 4 0 v2.maps.length]) (d:=[.int x1.2.1,.int (wr (x1.2.1+1)),.own 1 0 v3.1.length,.own 2 0 v2.q.tgt.length,.own 3 0 v2.dims.length,.own 4 0 v2.maps.length]) fB ⟨_,_,k,k,⟨_,_,k,k,⟨_,_,k,⟨k,k,(by simp only [aU,lA,lT,lR,lC,lN,of_decide_eq_true q4]),k⟩,⟨_,_,k,⟨k,k,k,k⟩,⟨_,_,k,⟨k,k,k,k⟩,⟨_,_,k,⟨k,k,k,k⟩,k⟩⟩⟩⟩⟩⟩)⟩ k<|bD k<|bD k<|bD k<|cF (aW.plainO _) k<|aV) k)<|sS<|fU k2<|fU k2<|se (xo hv2 k) k<|fpS k8<|fpS k8<|se (cW aO k k k k (aAh (eP hv2)) k k) k<|fU k2<|oB h λv5 hv5 h=>se (fA (σ:=sg [(0,2)]) (σ':=sg [(2,0)]) (touch:=[2]) (news:=[]) (hl2:=[(2,⟨1,v5.1.map (ow eI)⟩)]) (n':=5) (r2:= .int v5.2) (fD v2.q.tgt v3.2 v5 hv5) k k ⟨_,_,k,⟨k,k,k,k⟩,⟨_,_,k,k,k⟩⟩ ⟨⟨_,k,k,.inl ⟨k,bH.plainO _⟩⟩,k,aV⟩ k k k ⟨⟨_,k,k,.inl ⟨k,bH.plainO _⟩⟩,k,aV⟩ k k k ⟨k,bH.tame _ _,aV⟩ k k) k<|cG h λq6 h=>lG k2<|sn<|tn<|sS<|fU k2 ?_;exact fU k2<|se (xo hv2 k) k<|fpS k8<|se (cW aO k k k k (aAh (eP hv2)) k k) k<|fU k2<|oB h λv7 hv7 h=>se (fA (σ:=sg [(0,3)]) (σ':=sg [(3,0)]) (touch:=[3]) (news:=[]) (hl2:=[(3,⟨1,v7.1.map (ow eI)⟩)]) (n':=5) (r2:= .int v7.2) (fD v2.dims v5.2 v7 hv7) k k ⟨_,_,k,⟨k,k,k,k⟩,⟨_,_,k,k,k⟩⟩ ⟨⟨_,k,k,.inl ⟨k,bH.plainO _⟩⟩,k,aV⟩ k k k ⟨⟨_,k,k,.inl ⟨k,bH.plainO _⟩⟩,k,aV⟩ k k k ⟨k,bH.tame _ _,aV⟩ k k) k<|cG h λq8 h=>lG k2<|sn<|tn<|rgS<|fU k2<|fU k2<|se (xo hv2 k) k<|fpS k8<|se (cW aO k k k k (aAh (eP hv2)) k k) k<|fU k2<|oB h λv9 hv9 h=>cZ (t:=mN [(0,.own 0 0 x1.1.length),(1,.int v7.2),(5,.int x1.2.2),(35,.own 0 0 x1.1.length),(36,.int x1.2.2),(37,.ptr 0 x1.2.2.toNat 0),(38,.ptr 0 x1.2.2.toNat 1),(39,.ptr 0 x1.2.2.toNat 3),(40,.own 2 0 v2.q.tgt.length),(41,.int v3.2),(42,.int v5.2),(43,.own 0 0 x1.1.length),(44,.int x1.2.2),(45,.ptr 0 x1.2.2.toNat 0),(46,.ptr 0 x1.2.2.toNat 4),(47,.own 3 0 v2.dims.length),(48,.int v5.2),(49,.int v7.2),(50,.own 0 0 x1.1.length),(51,.int x1.2.2),(52,.ptr 0 x1.2.2.toNat 0),(53,.ptr 0 x1.2.2.toNat 5),(54,.own 4 0 v2.maps.length),(55,.int v7.2)] [(0,⟨6,(x1.1.map (ow eR)).set x1.2.2.toNat [.int x1.2.1,.int (wr (x1.2.1+1)),.own 1 0 v3.1.length,.own 2 0 v2.q.tgt.length,.own 3 0 v2.dims.length,.own 4 0 v2.maps.length]⟩),(1,⟨1,v3.1.map (ow eI)⟩),(2,⟨1,v5.1.map (ow eI)⟩),(3,⟨1,v7.1.map (ow eI)⟩),(4,⟨3,v2.maps.map (ow eM)⟩)] 5 ⟨1,true,none,true⟩) (iC (σ:=sg [(0,0),(1,1),(2,2),(3,3),(4,4)]) (bL k2) (hX ⟨_,k,k,.inr (tA (σ:=sg [(0,0),(1,1),(2,2),(3,3),(4,4)]) (m:=5) (e:=eR) (l:=x1.1) (i:=x1.2.2.toNat) (c:=[.int x1.2.1,.int (wr (x1.2.1+1)),.own 1 0 v3.1.length,.own 2 0 v2.q.tgt.length,.own 3 0 v2.dims.length,.own 4 0 v2.maps.length]) (d:=[.int x1.2.1,.int (wr (x1.2.1+1)),.own 1 0 v3.1.length,.own 2 0 v2.q.tgt.length,.own 3 0 v2.dims.length,.own 4 0 v2.maps.length]) fB ⟨_,_,k,k,⟨_,_,k,k,⟨_,_,k,⟨k,k,k,k⟩,⟨_,_,k,⟨k,k,k,k⟩,⟨_,_,k,⟨k,k,k,k⟩,⟨_,_,k,⟨k,k,k,k⟩,k⟩⟩⟩⟩⟩⟩)⟩ k<|bD k<|bD k<|bD k<|cF (aW.plainO _) k<|aV) k)<|vR (σ:=sg [(0,4)]) (σ':=sg [(4,0)]) (touch:=[4]) (news:=[]) (hl2:=[(4,⟨3,v9.1.map (ow eM)⟩)]) (n':=5) (r2:= .int v9.2) (sB v2.maps v7.2 v9 hv9) k k ⟨_,_,k,⟨k,k,k,k⟩,⟨_,_,k,k,k⟩⟩ ⟨⟨_,k,k,.inl ⟨k,aW.plainO _⟩⟩,k,aV⟩ k k k ⟨⟨_,k,k,.inl ⟨k,aW.plainO _⟩⟩,k,aV⟩ k k k ⟨k,aW.tame _ _,aV⟩ k k k k k (kV ⟨k,k,k,k,k,k,k,k,k,k,k,k,k,k,k,k,k,k,k,k,k,k,k,k,aV⟩) (kW (skip:=[4]) ⟨.inr (fB.dfS _ _ _ k),.inr (bH.df _ _),.inr (bH.df _ _),.inr (bH.df _ _),.inl (by decide),aV⟩)<|cG h λq10 h=>lG k2<|sn<|bC<|tn<|rgS<|fU k2<|se (bF k k) k<|lG k2<|sn<|tn<|sp h ⟨_,k,(Ent.trans (show Ent _ (mN [(0,.own 0 0 ((x1.1.set x1.2.2.toNat (⟨x1.2.1,(⟨wr (x1.2.1+1),v3.1,v5.1⟩:Qv),v7.1,v9.1⟩:Rp)).length)),(1,.int v9.2),(5,.int (wr (x1.2.2+1)))] [(0,⟨6,List.map (ow eR) (x1.1.set x1.2.2.toNat (⟨x1.2.1,(⟨wr (x1.2.1+1),v3.1,v5.1⟩:Qv),v7.1,v9.1⟩:Rp))⟩)] 5 ⟨1,true,none,true⟩) from (Ent.trans (sZ (b:=0) (b':=1) (j:=2) (es':=v3.1.map eI) (by rw [dB];exact eP hv2) k k k k (aU _ _) (bH.frzs _)) (Ent.trans (sZ (b:=0) (b':=2) (j:=3) (es':=v5.1.map eI) (by rw [dB];exact eP hv2) k k k k (by simp only [aU,lA,lT,lR,lC,lN,of_decide_eq_true q6]) (bH.frzs _)) (Ent.trans (sZ (b:=0) (b':=3) (j:=4) (es':=v7.1.map eI) (by rw [dB];exact eP hv2) k k k k (by simp only [aU,lA,lT,lR,lC,lN,of_decide_eq_true q8]) (bH.frzs _)) (Ent.trans (sZ (b:=0) (b':=4) (j:=5) (es':=v9.1.map eM) (by rw [dB];exact eP hv2) k k k k (by simp only [aU,lA,lT,lR,lC,lN,of_decide_eq_true q10]) (aW.frzs _)) (bO (sO ⟨_,k,⟨k,k,(by simp only [aU,lA,lT,lR,lC,lN,of_decide_eq_true q4,of_decide_eq_true q6,of_decide_eq_true q8,of_decide_eq_true q10]),k⟩⟩ (bL k2)) (hX ⟨_,k,k,.inl ⟨aBp (⟨x1.2.1,(⟨wr (x1.2.1+1),v3.1,v5.1⟩:Qv),v7.1,v9.1⟩:Rp) k,fB.plainO _⟩⟩ k<|aV) k4)))))) (bO (bL k2) (cF (fB.plainO _) k<|aV) k4))⟩
 ·rintro e t ⟨rfl,hent⟩;exact aP<|tn<|aR hent<|sS<|fU k2<|lG k2<|sn<|tn<|aD<|sp h ⟨mN [(4,.int y11.2)] [(0,⟨6,y11.1.map (ow eR)⟩)] 1 ⟨1,true,none,true⟩,(bO (bL k2) (cF (fB.plainO _) k<|aV) k4),k,⟨_,k,.inl k⟩,⟨k,aV⟩⟩
def sD (x1:((List Br)×Int×Int)):Option (((List Br)×Int×Int) ⊕ ((List Br)×Int)):=
 bif decide (x1.2.2<((x1.1.length:Nat):Int)) then
 ((dF x1.1 x1.2.2).bind λv2=>
 some (.inl ((x1.1.set x1.2.2.toNat (⟨x1.2.1,wr (x1.2.1+1),wr ((wr (x1.2.1+1))+1)⟩:Br)),wr ((wr ((wr (x1.2.1+1))+1))+1),wr (x1.2.2+1))))
 else
 (some (.inr (x1.1,x1.2.1)))
def rN (a0:(List Br)) (a1:Int):Option ((List Br)×Int):=
 (Lp sD (a0,a1,0)).bind λy3=>
 some (y3.1,y3.2)
theorem aEU (a0:(List Br)) (a1:Int) (r:((List Br)×Int)) (h:rN a0 a1=some r):HasT Tryz.prog 72 [.own 0 0 a0.length,.int a1] [(0,⟨3,a0.map (ow eB)⟩)] 1 (.int r.2) [(0,⟨3,r.1.map (ow eB)⟩)]:=by
 refine aAH aO (rvs:=[.tmp 4]) (ns:=nmA.drop 1) Tryz.func72 k k Tryz.ntmps72 k k<|sS<|lG k2<|sn<|tn<|sQ<|sS<|lG k2<|sn<|tn<|aG<|oB h λy3 hy3 h=>bY (body:=sD) hy3 (λ(x1:((List Br)×Int×Int))=>mN [(0,.own 0 0 x1.1.length),(1,.int x1.2.1),(5,.int x1.2.2)] [(0,⟨3,x1.1.map (ow eB)⟩)] 1 ⟨1,true,none,true⟩) (λr e t=>e= .exit 0∧Ent t (mN [(1,.int r.2)] [(0,⟨3,r.1.map (ow eB)⟩)] 1 ⟨1,true,none,true⟩)) (bO (bL k2) (cF (gZ.plainO _) k<|aV) k4) ?_ ?_
 ·intro x1 o h;refine sQ<|sS<|fU k2<|fU k2<|se (dO aO k k k k) k<|cmS k4<|sn<|tn<|cJ k h (λ_ h=>?_) λ_ h=>bB<|aC<|aC<|sp h ⟨_,k,k,(bO (bL k2) (cF (gZ.plainO _) k<|aV) k4)⟩;refine aE<|tn<|sQ<|aG<|sS<|fU k2<|fU k2<|fU k2<|oB h λv2 hv2 h=>cZ (t:=mN [(0,.own 0 0 x1.1.length),(1,.int x1.2.1),(5,.int x1.2.2),(6,.int x1.2.2),(7,.own 0 0 x1.1.length),(8,.int ((x1.1.length:Nat):Int)),(9,.bl (decide (x1.2.2<((x1.1.length:Nat):Int)))),(12,.own 0 0 x1.1.length),(13,.int x1.2.2),(14,.int x1.2.1)] [(0,⟨3,(x1.1.map (ow eB)).set x1.2.2.toNat [.int v2.first,.int v2.last,.int v2.count]⟩)] 1 ⟨1,true,none,true⟩) (bO (bL k2) (hX ⟨_,k,k,.inl ⟨yY (dU hv2),wO gZ k⟩⟩ k<|aV) k4)<|se (xo hv2 k) k<|fpS k8<|se (vF aO (A:=x1.1.map (ow eB)) (by rw [dB];exact eP hv2) k k k k k k k) k<|sn<|tn<|sS<|fU k2<|se (bF k k) k<|lG k2<|sn<|tn<|sS<|fU k2<|fU k2<|fU k2<|se (xo hv2 k) k<|fpS k8 ?_;refine se (vF aO (A:=x1.1.map (ow eB)) (by rw [dB];exact eP hv2) k k k k k k k) k<|sn<|tn<|sS<|fU k2<|se (bF k k) k<|lG k2<|sn<|tn<|sS<|fU k2<|fU k2<|fU k2<|se (xo hv2 k) k<|fpS k8<|se (vF aO (A:=x1.1.map (ow eB)) (by rw [dB];exact eP hv2) k k k k k k k) k<|sn<|tn<|rgS<|fU k2<|se (bF k k) k<|lG k2<|sn<|bC<|tn<|rgS<|fU k2<|se (bF k k) k ?_;exact lG k2<|sn<|tn<|sp h ⟨_,k,(Ent.trans (show Ent _ (mN [(0,.own 0 0 ((x1.1.set x1.2.2.toNat (⟨x1.2.1,wr (x1.2.1+1),wr ((wr (x1.2.1+1))+1)⟩:Br)).length)),(1,.int (wr ((wr ((wr (x1.2.1+1))+1))+1))),(5,.int (wr (x1.2.2+1)))] [(0,⟨3,List.map (ow eB) (x1.1.set x1.2.2.toNat (⟨x1.2.1,wr (x1.2.1+1),wr ((wr (x1.2.1+1))+1)⟩:Br))⟩)] 1 ⟨1,true,none,true⟩) from (bO (sO ⟨_,k,⟨k,k,(by simp only [aU,lA,lT,lR,lC,lN]),k⟩⟩ (bL k2)) (hX ⟨_,k,k,.inl ⟨aBp (⟨x1.2.1,wr (x1.2.1+1),wr ((wr (x1.2.1+1))+1)⟩:Br) k,gZ.plainO _⟩⟩ k<|aV) k4)) (bO (bL k2) (cF (gZ.plainO _) k<|aV) k4))⟩
 ·rintro e t ⟨rfl,hent⟩;exact aP<|tn<|aR hent<|sS<|fU k2<|lG k2<|sn<|tn<|aD<|sp h ⟨mN [(4,.int y3.2)] [(0,⟨3,y3.1.map (ow eB)⟩)] 1 ⟨1,true,none,true⟩,(bO (bL k2) (cF (gZ.plainO _) k<|aV) k4),k,⟨_,k,.inl k⟩,⟨k,aV⟩⟩
def pZ (a0:Cl) (a1:Int):Option ((List Int)×(List Int)×(List Int)×(List Mt)×(List Int)×(List Int)×(List Int)×(List Mt)×(List Rp)×(List Mt)×(List Br)×(List Int)×(List Sc)×Int):=
 (jE a0.rep a1).bind λv1=>
 bif decide (v1.1.length=a0.rep.q.src.length) then
 (bif decide (v1.2.1.length=a0.rep.q.tgt.length) then
 (bif decide (v1.2.2.1.length=a0.rep.dims.length) then
 (bif decide (v1.2.2.2.1.length=a0.rep.maps.length) then
 ((jE a0.other v1.2.2.2.2).bind λv6=>
 bif decide (v6.1.length=a0.other.q.src.length) then
 (bif decide (v6.2.1.length=a0.other.q.tgt.length) then
 (bif decide (v6.2.2.1.length=a0.other.dims.length) then
 (bif decide (v6.2.2.2.1.length=a0.other.maps.length) then
 ((rM a0.parts v6.2.2.2.2).bind λv11=>
 bif decide (v11.1.length=a0.parts.length) then
 ((gW a0.maps v11.2).bind λv13=>
 bif decide (v13.1.length=a0.maps.length) then
 ((rN a0.bars v13.2).bind λv15=>
 bif decide (v15.1.length=a0.bars.length) then
 ((dJ a0.theta v15.2).bind λv17=>
 bif decide (v17.1.length=a0.theta.length) then
 ((oK a0.subs v17.2).bind λv19=>
 bif decide (v19.1.length=a0.subs.length) then
 (some (v1.1,v1.2.1,v1.2.2.1,v1.2.2.2.1,v6.1,v6.2.1,v6.2.2.1,v6.2.2.2.1,v11.1,v13.1,v15.1,v17.1,v19.1,v19.2))
 else none)
 else none)
 else none)
 else none)
 else none)
 else none)
 else none)
 else none)
 else none)
 else none)
 else none)
 else none)
 else none
theorem aDi (a0:Cl) (a1:Int) (r:((List Int)×(List Int)×(List Int)×(List Mt)×(List Int)×(List Int)×(List Int)×(List Mt)×(List Rp)×(List Mt)×(List Br)×(List Int)×(List Sc)×Int)) (h:pZ a0 a1=some r):HasT Tryz.prog 20 [.agg [.int a0.kind,.int a0.rep.p,.int a0.rep.q.n,.own 0 0 a0.rep.q.src.length,.own 1 0 a0.rep.q.tgt.length,.own 2 0 a0.rep.dims.length,.own 3 0 a0.rep.maps.length,.int a0.other.p,.int a0.other.q.n,.own 4 0 a0.other.q.src.length,.own 5 0 a0.other.q.tgt.length,.own 6 0 a0.other.dims.length,.own 7 0 a0.other.maps.length,.own 8 0 a0.parts.length,.own 9 0 a0.maps.length,.own 10 0 a0.bars.length,.own 11 0 a0.theta.length,.own 12 0 a0.subs.length],.int a1] [(0,⟨1,a0.rep.q.src.map (ow eI)⟩),(1,⟨1,a0.rep.q.tgt.map (ow eI)⟩),(2,⟨1,a0.rep.dims.map (ow eI)⟩),(3,⟨3,a0.rep.maps.map (ow eM)⟩),(4,⟨1,a0.other.q.src.map (ow eI)⟩),(5,⟨1,a0.other.q.tgt.map (ow eI)⟩),(6,⟨1,a0.other.dims.map (ow eI)⟩),(7,⟨3,a0.other.maps.map (ow eM)⟩),(8,⟨6,a0.parts.map (ow eR)⟩),(9,⟨3,a0.maps.map (ow eM)⟩),(10,⟨3,a0.bars.map (ow eB)⟩),(11,⟨1,a0.theta.map (ow eI)⟩),(12,⟨2,a0.subs.map (ow eS)⟩)] 13 (.int r.2.2.2.2.2.2.2.2.2.2.2.2.2) [(0,⟨1,r.1.map (ow eI)⟩),(1,⟨1,r.2.1.map (ow eI)⟩),(2,⟨1,r.2.2.1.map (ow eI)⟩),(3,⟨3,r.2.2.2.1.map (ow eM)⟩),(4,⟨1,r.2.2.2.2.1.map (ow eI)⟩),(5,⟨1,r.2.2.2.2.2.1.map (ow eI)⟩),(6,⟨1,r.2.2.2.2.2.2.1.map (ow eI)⟩),(7,⟨3,r.2.2.2.2.2.2.2.1.map (ow eM)⟩),(8,⟨6,r.2.2.2.2.2.2.2.2.1.map (ow eR)⟩),(9,⟨3,r.2.2.2.2.2.2.2.2.2.1.map (ow eM)⟩),(10,⟨3,r.2.2.2.2.2.2.2.2.2.2.1.map (ow eB)⟩),(11,⟨1,r.2.2.2.2.2.2.2.2.2.2.2.1.map (ow eI)⟩),(12,⟨2,r.2.2.2.2.2.2.2.2.2.2.2.2.1.map (ow eS)⟩)]:=by
 refine aAH aO (rvs:=[.tmp 4]) (ns:=nmA.drop 13) Tryz.func20 k k Tryz.ntmps20 k k<|sS<|se (wb k) k<|lG k2<|sn<|tn<|sS<|fpS k8<|lpS k8<|fU k2<|oB h λv1 hv1 h=>cZ (t:=mN [(0,.agg [.int a0.kind,.int a0.rep.p,.int a0.rep.q.n,.own 0 0 a0.rep.q.src.length,.own 1 0 a0.rep.q.tgt.length,.own 2 0 a0.rep.dims.length,.own 3 0 a0.rep.maps.length,.int a0.other.p,.int a0.other.q.n,.own 4 0 a0.other.q.src.length,.own 5 0 a0.other.q.tgt.length,.own 6 0 a0.other.dims.length,.own 7 0 a0.other.maps.length,.own 8 0 a0.parts.length,.own 9 0 a0.maps.length,.own 10 0 a0.bars.length,.own 11 0 a0.theta.length,.own 12 0 a0.subs.length]),(1,.int a1),(2,.ptr 13 0 0),(4,.int 0),(5,.ptr 13 0 1),(6,.agg (zL a0.rep 0 1 2 3)),(7,.int a1)] [(0,⟨1,a0.rep.q.src.map (ow eI)⟩),(1,⟨1,a0.rep.q.tgt.map (ow eI)⟩),(2,⟨1,a0.rep.dims.map (ow eI)⟩),(3,⟨3,a0.rep.maps.map (ow eM)⟩),(4,⟨1,a0.other.q.src.map (ow eI)⟩),(5,⟨1,a0.other.q.tgt.map (ow eI)⟩),(6,⟨1,a0.other.dims.map (ow eI)⟩),(7,⟨3,a0.other.maps.map (ow eM)⟩),(8,⟨6,a0.parts.map (ow eR)⟩),(9,⟨3,a0.maps.map (ow eM)⟩),(10,⟨3,a0.bars.map (ow eB)⟩),(11,⟨1,a0.theta.map (ow eI)⟩),(12,⟨2,a0.subs.map (ow eS)⟩),(13,⟨18,[[.int a0.kind,.int a0.rep.p,.int a0.rep.q.n,.own 0 0 a0.rep.q.src.length,.own 1 0 a0.rep.q.tgt.length,.own 2 0 a0.rep.dims.length,.own 3 0 a0.rep.maps.length,.int a0.other.p,.int a0.other.q.n,.own 4 0 a0.other.q.src.length,.own 5 0 a0.other.q.tgt.length,.own 6 0 a0.other.dims.length,.own 7 0 a0.other.maps.length,.own 8 0 a0.parts.length,.own 9 0 a0.maps.length,.own 10 0 a0.bars.length,.own 11 0 a0.theta.length,.own 12 0 a0.subs.length]]⟩)] 14 ⟨13,true,none,true⟩) (bO (bL k2) (bD k<|bD k<|bD k<|cF (aW.plainO _) k<|bD k<|bD k<|bD k<|cF (aW.plainO _) k<|cF (fB.plainO _) k<|cF (aW.plainO _) k<|cF (gZ.plainO _) k<|bD k<|cF (gN.plainO _) k<|fK k<|aV) k4)<|vR (σ:=sg [(0,0),(1,1),(2,2),(3,3)]) (σ':=sg [(0,0),(1,1),(2,2),(3,3)]) (touch:=[0,1,2,3]) (news:=[]) (hl2:=[(0,⟨1,v1.1.map (ow eI)⟩),(1,⟨1,v1.2.1.map (ow eI)⟩),(2,⟨1,v1.2.2.1.map (ow eI)⟩),(3,⟨3,v1.2.2.2.1.map (ow eM)⟩)]) (n':=14) (r2:= .int v1.2.2.2.2) (tP a0.rep a1 v1 hv1) k k ⟨_,_,k,⟨_,_,k,k,⟨_,_,k,k,⟨_,_,k,⟨k,k,k,k⟩,⟨_,_,k,⟨k,k,k,k⟩,⟨_,_,k,⟨k,k,k,k⟩,⟨_,_,k,⟨k,k,k,k⟩,k⟩⟩⟩⟩⟩⟩,⟨_,_,k,k,k⟩⟩ ⟨⟨_,k,k,.inl ⟨k,bH.plainO _⟩⟩,k,⟨_,k,k,.inl ⟨k,bH.plainO _⟩⟩,k,⟨_,k,k,.inl ⟨k,bH.plainO _⟩⟩,k,⟨_,k,k,.inl ⟨k,aW.plainO _⟩⟩,k,aV⟩ k k k ⟨⟨_,k,k,.inl ⟨k,bH.plainO _⟩⟩,k,⟨_,k,k,.inl ⟨k,bH.plainO _⟩⟩,k,⟨_,k,k,.inl ⟨k,bH.plainO _⟩⟩,k,⟨_,k,k,.inl ⟨k,aW.plainO _⟩⟩,k,aV⟩ k k k ⟨k,bH.tame _ _,⟨k,bH.tame _ _,⟨k,bH.tame _ _,⟨k,aW.tame _ _,aV⟩⟩⟩⟩ k k k k k (kV ⟨k,k,k,k,k,k,k,aV⟩) (kW (skip:=[0,1,2,3]) ⟨.inl (by decide),.inl (by decide),.inl (by decide),.inl (by decide),.inr (bH.df _ _),.inr (bH.df _ _),.inr (bH.df _ _),.inr (aW.df _ _),.inr (fB.df _ _),.inr (aW.df _ _),.inr (gZ.df _ _),.inr (bH.df _ _),.inr (gN.df _ _),.inr (gS k),aV⟩)<|cG h λq2 h=>cG h λq3 h=>cG h λq4 h=>cG h λq5 h=>lG k2<|sn<|tn<|sS<|fpS k8<|lpS k8<|fU k2<|oB h λv6 hv6 h=>cZ (t:=mN [(0,.agg [.int a0.kind,.int a0.rep.p,.int a0.rep.q.n,.own 0 0 a0.rep.q.src.length,.own 1 0 a0.rep.q.tgt.length,.own 2 0 a0.rep.dims.length,.own 3 0 a0.rep.maps.length,.int a0.other.p,.int a0.other.q.n,.own 4 0 a0.other.q.src.length,.own 5 0 a0.other.q.tgt.length,.own 6 0 a0.other.dims.length,.own 7 0 a0.other.maps.length,.own 8 0 a0.parts.length,.own 9 0 a0.maps.length,.own 10 0 a0.bars.length,.own 11 0 a0.theta.length,.own 12 0 a0.subs.length]),(1,.int v1.2.2.2.2),(2,.ptr 13 0 0),(4,.int 0),(5,.ptr 13 0 1),(6,.agg (zL a0.rep 0 1 2 3)),(7,.int a1),(8,.int v1.2.2.2.2),(9,.ptr 13 0 7),(10,.agg (zL a0.other 4 5 6 7)),(11,.int v1.2.2.2.2)] [(0,⟨1,v1.1.map (ow eI)⟩),(1,⟨1,v1.2.1.map (ow eI)⟩),(2,⟨1,v1.2.2.1.map (ow eI)⟩),(3,⟨3,v1.2.2.2.1.map (ow eM)⟩),(4,⟨1,a0.other.q.src.map (ow eI)⟩),(5,⟨1,a0.other.q.tgt.map (ow eI)⟩),(6,⟨1,a0.other.dims.map (ow eI)⟩),(7,⟨3,a0.other.maps.map (ow eM)⟩),(8,⟨6,a0.parts.map (ow eR)⟩),(9,⟨3,a0.maps.map (ow eM)⟩),(10,⟨3,a0.bars.map (ow eB)⟩),(11,⟨1,a0.theta.map (ow eI)⟩),(12,⟨2,a0.subs.map (ow eS)⟩),(13,⟨18,[[.int a0.kind,.int a0.rep.p,.int a0.rep.q.n,.own 0 0 a0.rep.q.src.length,.own 1 0 a0.rep.q.tgt.length,.own 2 0 a0.rep.dims.length,.own 3 0 a0.rep.maps.length,.int a0.other.p,.int a0.other.q.n,.own 4 0 a0.other.q.src.length,.own 5 0 a0.other.q.tgt.length,.own 6 0 a0.other.dims.length,.own 7 0 a0.other.maps.length,.own 8 0 a0.parts.length,.own 9 0 a0.maps.length,.own 10 0 a0.bars.length,.own 11 0 a0.theta.length,.own 12 0 a0.subs.length]]⟩)] 14 ⟨13,true,none,true⟩) (bO (bL k2) (bD k<|bD k<|bD k<|cF (aW.plainO _) k<|bD k<|bD k<|bD k<|cF (aW.plainO _) k<|cF (fB.plainO _) k<|cF (aW.plainO _) k<|cF (gZ.plainO _) k<|bD k<|cF (gN.plainO _) k<|fK k<|aV) k4)<|vR (σ:=sg [(0,4),(1,5),(2,6),(3,7)]) (σ':=sg [(4,0),(5,1),(6,2),(7,3)]) (touch:=[4,5,6,7]) (news:=[]) (hl2:=[(4,⟨1,v6.1.map (ow eI)⟩),(5,⟨1,v6.2.1.map (ow eI)⟩),(6,⟨1,v6.2.2.1.map (ow eI)⟩),(7,⟨3,v6.2.2.2.1.map (ow eM)⟩)]) (n':=14) (r2:= .int v6.2.2.2.2) (tP a0.other v1.2.2.2.2 v6 hv6) k k ⟨_,_,k,⟨_,_,k,k,⟨_,_,k,k,⟨_,_,k,⟨k,k,k,k⟩,⟨_,_,k,⟨k,k,k,k⟩,⟨_,_,k,⟨k,k,k,k⟩,⟨_,_,k,⟨k,k,k,k⟩,k⟩⟩⟩⟩⟩⟩,⟨_,_,k,k,k⟩⟩ ⟨⟨_,k,k,.inl ⟨k,bH.plainO _⟩⟩,k,⟨_,k,k,.inl ⟨k,bH.plainO _⟩⟩,k,⟨_,k,k,.inl ⟨k,bH.plainO _⟩⟩,k,⟨_,k,k,.inl ⟨k,aW.plainO _⟩⟩,k,aV⟩ k k k ⟨⟨_,k,k,.inl ⟨k,bH.plainO _⟩⟩,k,⟨_,k,k,.inl ⟨k,bH.plainO _⟩⟩,k,⟨_,k,k,.inl ⟨k,bH.plainO _⟩⟩,k,⟨_,k,k,.inl ⟨k,aW.plainO _⟩⟩,k,aV⟩ k k k ⟨k,bH.tame _ _,⟨k,bH.tame _ _,⟨k,bH.tame _ _,⟨k,aW.tame _ _,aV⟩⟩⟩⟩ k k k k k (kV ⟨k,k,k,k,k,k,k,k,k,k,k,aV⟩) (kW (skip:=[4,5,6,7]) ⟨.inr (bH.df _ _),.inr (bH.df _ _),.inr (bH.df _ _),.inr (aW.df _ _),.inl (by decide),.inl (by decide),.inl (by decide),.inl (by decide),.inr (fB.df _ _),.inr (aW.df _ _),.inr (gZ.df _ _),.inr (bH.df _ _),.inr (gN.df _ _),.inr (gS k),aV⟩) ?_;refine cG h λq7 h=>cG h λq8 h=>cG h λq9 h=>cG h λq10 h=>lG k2<|sn<|tn<|sS<|fpS k8<|lpS k8<|fU k2<|oB h λv11 hv11 h=>cZ (t:=mN [(0,.agg [.int a0.kind,.int a0.rep.p,.int a0.rep.q.n,.own 0 0 a0.rep.q.src.length,.own 1 0 a0.rep.q.tgt.length,.own 2 0 a0.rep.dims.length,.own 3 0 a0.rep.maps.length,.int a0.other.p,.int a0.other.q.n,.own 4 0 a0.other.q.src.length,.own 5 0 a0.other.q.tgt.length,.own 6 0 a0.other.dims.length,.own 7 0 a0.other.maps.length,.own 8 0 a0.parts.length,.own 9 0 a0.maps.length,.own 10 0 a0.bars.length,.own 11 0 a0.theta.length,.own 12 0 a0.subs.length]),(1,.int v6.2.2.2.2),(2,.ptr 13 0 0),(4,.int 0),(5,.ptr 13 0 1),(6,.agg (zL a0.rep 0 1 2 3)),(7,.int a1),(8,.int v1.2.2.2.2),(9,.ptr 13 0 7),(10,.agg (zL a0.other 4 5 6 7)),(11,.int v1.2.2.2.2),(12,.int v6.2.2.2.2),(13,.ptr 13 0 13),(14,.own 8 0 a0.parts.length),(15,.int v6.2.2.2.2)] [(0,⟨1,v1.1.map (ow eI)⟩),(1,⟨1,v1.2.1.map (ow eI)⟩),(2,⟨1,v1.2.2.1.map (ow eI)⟩),(3,⟨3,v1.2.2.2.1.map (ow eM)⟩),(4,⟨1,v6.1.map (ow eI)⟩),(5,⟨1,v6.2.1.map (ow eI)⟩),(6,⟨1,v6.2.2.1.map (ow eI)⟩),(7,⟨3,v6.2.2.2.1.map (ow eM)⟩),(8,⟨6,a0.parts.map (ow eR)⟩),(9,⟨3,a0.maps.map (ow eM)⟩),(10,⟨3,a0.bars.map (ow eB)⟩),(11,⟨1,a0.theta.map (ow eI)⟩),(12,⟨2,a0.subs.map (ow eS)⟩),(13,⟨18,[[.int a0.kind,.int a0.rep.p,.int a0.rep.q.n,.own 0 0 a0.rep.q.src.length,.own 1 0 a0.rep.q.tgt.length,.own 2 0 a0.rep.dims.length,.own 3 0 a0.rep.maps.length,.int a0.other.p,.int a0.other.q.n,.own 4 0 a0.other.q.src.length,.own 5 0 a0.other.q.tgt.length,.own 6 0 a0.other.dims.length,.own 7 0 a0.other.maps.length,.own 8 0 a0.parts.length,.own 9 0 a0.maps.length,.own 10 0 a0.bars.length,.own 11 0 a0.theta.length,.own 12 0 a0.subs.length]]⟩)] 14 ⟨13,true,none,true⟩) (bO (bL k2) (bD k<|bD k<|bD k<|cF (aW.plainO _) k<|bD k<|bD k<|bD k<|cF (aW.plainO _) k<|cF (fB.plainO _) k<|cF (aW.plainO _) k<|cF (gZ.plainO _) k<|bD k<|cF (gN.plainO _) k<|fK k<|aV) k4)<|vR (σ:=sg [(0,8)]) (σ':=sg [(8,0)]) (touch:=[8]) (news:=[]) (hl2:=[(8,⟨6,v11.1.map (ow eR)⟩)]) (n':=14) (r2:= .int v11.2) (aET a0.parts v6.2.2.2.2 v11 hv11) k k ⟨_,_,k,⟨k,k,k,k⟩,⟨_,_,k,k,k⟩⟩ ⟨⟨_,k,k,.inl ⟨k,fB.plainO _⟩⟩,k,aV⟩ k k k ⟨⟨_,k,k,.inl ⟨k,fB.plainO _⟩⟩,k,aV⟩ k k k ⟨k,fB.tame _ _,aV⟩ k k k k k (kV ⟨k,k,k,k,k,k,k,k,k,k,k,k,k,k,k,aV⟩) (kW (skip:=[8]) ⟨.inr (bH.df _ _),.inr (bH.df _ _),.inr (bH.df _ _),.inr (aW.df _ _),.inr (bH.df _ _),.inr (bH.df _ _),.inr (bH.df _ _),.inr (aW.df _ _),.inl (by decide),.inr (aW.df _ _),.inr (gZ.df _ _),.inr (bH.df _ _),.inr (gN.df _ _),.inr (gS k),aV⟩)<|cG h λq12 h=>lG k2<|sn<|tn<|sS<|fpS k8<|lpS k8<|fU k2<|oB h λv13 hv13 h=>cZ (t:=mN [(0,.agg [.int a0.kind,.int a0.rep.p,.int a0.rep.q.n,.own 0 0 a0.rep.q.src.length,.own 1 0 a0.rep.q.tgt.length,.own 2 0 a0.rep.dims.length,.own 3 0 a0.rep.maps.length,.int a0.other.p,.int a0.other.q.n,.own 4 0 a0.other.q.src.length,.own 5 0 a0.other.q.tgt.length,.own 6 0 a0.other.dims.length,.own 7 0 a0.other.maps.length,.own 8 0 a0.parts.length,.own 9 0 a0.maps.length,.own 10 0 a0.bars.length,.own 11 0 a0.theta.length,.own 12 0 a0.subs.length]),(1,.int v11.2),(2,.ptr 13 0 0),(4,.int 0),(5,.ptr 13 0 1),(6,.agg (zL a0.rep 0 1 2 3)),(7,.int a1),(8,.int v1.2.2.2.2),(9,.ptr 13 0 7),(10,.agg (zL a0.other 4 5 6 7)),(11,.int v1.2.2.2.2),(12,.int v6.2.2.2.2),(13,.ptr 13 0 13),(14,.own 8 0 a0.parts.length),(15,.int v6.2.2.2.2),(16,.int v11.2),(17,.ptr 13 0 14),(18,.own 9 0 a0.maps.length),(19,.int v11.2)] [(0,⟨1,v1.1.map (ow eI)⟩),(1,⟨1,v1.2.1.map (ow eI)⟩),(2,⟨1,v1.2.2.1.map (ow eI)⟩),(3,⟨3,v1.2.2.2.1.map (ow eM)⟩),(4,⟨1,v6.1.map (ow eI)⟩),(5,⟨1,v6.2.1.map (ow eI)⟩),(6,⟨1,v6.2.2.1.map (ow eI)⟩),(7,⟨3,v6.2.2.2.1.map (ow eM)⟩),(8,⟨6,v11.1.map (ow eR)⟩),(9,⟨3,a0.maps.map (ow eM)⟩),(10,⟨3,a0.bars.map (ow eB)⟩),(11,⟨1,a0.theta.map (ow eI)⟩),(12,⟨2,a0.subs.map (ow eS)⟩),(13,⟨18,[[.int a0.kind,.int a0.rep.p,.int a0.rep.q.n,.own 0 0 a0.rep.q.src.length,.own 1 0 a0.rep.q.tgt.length,.own 2 0 a0.rep.dims.length,.own 3 0 a0.rep.maps.length,.int a0.other.p,.int a0.other.q.n,.own 4 0 a0.other.q.src.length,.own 5 0 a0.other.q.tgt.length,.own 6 0 a0.other.dims.length,.own 7 0 a0.other.maps.length,.own 8 0 a0.parts.length,.own 9 0 a0.maps.length,.own 10 0 a0.bars.length,.own 11 0 a0.theta.length,.own 12 0 a0.subs.length]]⟩)] 14 ⟨13,true,none,true⟩) (bO (bL k2) (bD k<|bD k<|bD k<|cF (aW.plainO _) k<|bD k<|bD k<|bD k<|cF (aW.plainO _) k<|cF (fB.plainO _) k<|cF (aW.plainO _) k<|cF (gZ.plainO _) k<|bD k<|cF (gN.plainO _) k<|fK k<|aV) k4)<|vR (σ:=sg [(0,9)]) (σ':=sg [(9,0)]) (touch:=[9]) (news:=[]) (hl2:=[(9,⟨3,v13.1.map (ow eM)⟩)]) (n':=14) (r2:= .int v13.2) (sB a0.maps v11.2 v13 hv13) k k ⟨_,_,k,⟨k,k,k,k⟩,⟨_,_,k,k,k⟩⟩ ⟨⟨_,k,k,.inl ⟨k,aW.plainO _⟩⟩,k,aV⟩ k k k ⟨⟨_,k,k,.inl ⟨k,aW.plainO _⟩⟩,k,aV⟩ k k k ⟨k,aW.tame _ _,aV⟩ k k k k k (kV ⟨k,k,k,k,k,k,k,k,k,k,k,k,k,k,k,k,k,k,k,aV⟩) (kW (skip:=[9]) ⟨.inr (bH.df _ _),.inr (bH.df _ _),.inr (bH.df _ _),.inr (aW.df _ _),.inr (bH.df _ _),.inr (bH.df _ _),.inr (bH.df _ _),.inr (aW.df _ _),.inr (fB.df _ _),.inl (by decide),.inr (gZ.df _ _),.inr (bH.df _ _),.inr (gN.df _ _),.inr (gS k),aV⟩) ?_;refine cG h λq14 h=>lG k2<|sn<|tn<|sS<|fpS k8<|lpS k8<|fU k2<|oB h λv15 hv15 h=>cZ (t:=mN [(0,.agg [.int a0.kind,.int a0.rep.p,.int a0.rep.q.n,.own 0 0 a0.rep.q.src.length,.own 1 0 a0.rep.q.tgt.length,.own 2 0 a0.rep.dims.length,.own 3 0 a0.rep.maps.length,.int a0.other.p,.int a0.other.q.n,.own 4 0 a0.other.q.src.length,.own 5 0 a0.other.q.tgt.length,.own 6 0 a0.other.dims.length,.own 7 0 a0.other.maps.length,.own 8 0 a0.parts.length,.own 9 0 a0.maps.length,.own 10 0 a0.bars.length,.own 11 0 a0.theta.length,.own 12 0 a0.subs.length]),(1,.int v13.2),(2,.ptr 13 0 0),(4,.int 0),(5,.ptr 13 0 1),(6,.agg (zL a0.rep 0 1 2 3)),(7,.int a1),(8,.int v1.2.2.2.2),(9,.ptr 13 0 7),(10,.agg (zL a0.other 4 5 6 7)),(11,.int v1.2.2.2.2),(12,.int v6.2.2.2.2),(13,.ptr 13 0 13),(14,.own 8 0 a0.parts.length),(15,.int v6.2.2.2.2),(16,.int v11.2),(17,.ptr 13 0 14),(18,.own 9 0 a0.maps.length),(19,.int v11.2),(20,.int v13.2),(21,.ptr 13 0 15),(22,.own 10 0 a0.bars.length),(23,.int v13.2)] [(0,⟨1,v1.1.map (ow eI)⟩),(1,⟨1,v1.2.1.map (ow eI)⟩),(2,⟨1,v1.2.2.1.map (ow eI)⟩),(3,⟨3,v1.2.2.2.1.map (ow eM)⟩),(4,⟨1,v6.1.map (ow eI)⟩),(5,⟨1,v6.2.1.map (ow eI)⟩),(6,⟨1,v6.2.2.1.map (ow eI)⟩),(7,⟨3,v6.2.2.2.1.map (ow eM)⟩),(8,⟨6,v11.1.map (ow eR)⟩),(9,⟨3,v13.1.map (ow eM)⟩),(10,⟨3,a0.bars.map (ow eB)⟩),(11,⟨1,a0.theta.map (ow eI)⟩),(12,⟨2,a0.subs.map (ow eS)⟩),(13,⟨18,[[.int a0.kind,.int a0.rep.p,.int a0.rep.q.n,.own 0 0 a0.rep.q.src.length,.own 1 0 a0.rep.q.tgt.length,.own 2 0 a0.rep.dims.length,.own 3 0 a0.rep.maps.length,.int a0.other.p,.int a0.other.q.n,.own 4 0 a0.other.q.src.length,.own 5 0 a0.other.q.tgt.length,.own 6 0 a0.other.dims.length,.own 7 0 a0.other.maps.length,.own 8 0 a0.parts.length,.own 9 0 a0.maps.length,.own 10 0 a0.bars.length,.own 11 0 a0.theta.length,.own 12 0 a0.subs.length]]⟩)] 14 ⟨13,true,none,true⟩) (bO (bL k2) (bD k<|bD k<|bD k<|cF (aW.plainO _) k<|bD k<|bD k<|bD k<|cF (aW.plainO _) k<|cF (fB.plainO _) k<|cF (aW.plainO _) k<|cF (gZ.plainO _) k<|bD k<|cF (gN.plainO _) k<|fK k<|aV) k4)<|vR (σ:=sg [(0,10)]) (σ':=sg [(10,0)]) (touch:=[10]) (news:=[]) (hl2:=[(10,⟨3,v15.1.map (ow eB)⟩)]) (n':=14) (r2:= .int v15.2) (aEU a0.bars v13.2 v15 hv15) k k ⟨_,_,k,⟨k,k,k,k⟩,⟨_,_,k,k,k⟩⟩ ⟨⟨_,k,k,.inl ⟨k,gZ.plainO _⟩⟩,k,aV⟩ k k k ⟨⟨_,k,k,.inl ⟨k,gZ.plainO _⟩⟩,k,aV⟩ k k k ⟨k,gZ.tame _ _,aV⟩ k k k k k (kV ⟨k,k,k,k,k,k,k,k,k,k,k,k,k,k,k,k,k,k,k,k,k,k,k,aV⟩) (kW (skip:=[10]) ⟨.inr (bH.df _ _),.inr (bH.df _ _),.inr (bH.df _ _),.inr (aW.df _ _),.inr (bH.df _ _),.inr (bH.df _ _),.inr (bH.df _ _),.inr (aW.df _ _),.inr (fB.df _ _),.inr (aW.df _ _),.inl (by decide),.inr (bH.df _ _),.inr (gN.df _ _),.inr (gS k),aV⟩)<|cG h λq16 h=>lG k2<|sn<|tn<|sS<|fpS k8<|lpS k8<|fU k2<|oB h λv17 hv17 h=>se (fA (σ:=sg [(0,11)]) (σ':=sg [(11,0)]) (touch:=[11]) (news:=[]) (hl2:=[(11,⟨1,v17.1.map (ow eI)⟩)]) (n':=14) (r2:= .int v17.2) (fD a0.theta v15.2 v17 hv17) k k ⟨_,_,k,⟨k,k,k,k⟩,⟨_,_,k,k,k⟩⟩ ⟨⟨_,k,k,.inl ⟨k,bH.plainO _⟩⟩,k,aV⟩ k k k ⟨⟨_,k,k,.inl ⟨k,bH.plainO _⟩⟩,k,aV⟩ k k k ⟨k,bH.tame _ _,aV⟩ k k) k<|cG h λq18 h=>lG k2<|sn<|tn<|sS<|fpS k8<|lpS k8<|fU k2<|oB h λv19 hv19 h=>cZ (t:=mN ((0,.agg [.int a0.kind,.int a0.rep.p,.int a0.rep.q.n,.own 0 0 a0.rep.q.src.length,.own 1 0 a0.rep.q.tgt.length,.own 2 0 a0.rep.dims.length,.own 3 0 a0.rep.maps.length,.int a0.other.p,.int a0.other.q.n,.own 4 0 a0.other.q.src.length,.own 5 0 a0.other.q.tgt.length,.own 6 0 a0.other.dims.length,.own 7 0 a0.other.maps.length,.own 8 0 a0.parts.length,.own 9 0 a0.maps.length,.own 10 0 a0.bars.length,.own 11 0 a0.theta.length,.own 12 0 a0.subs.length])::(1,.int v17.2)::(2,.ptr 13 0 0)::(4,.int 0)::(5,.ptr 13 0 1)::(6,.agg (zL a0.rep 0 1 2 3))::(7,.int a1)::(8,.int v1.2.2.2.2)::(9,.ptr 13 0 7)::(10,.agg (zL a0.other 4 5 6 7))::(11,.int v1.2.2.2.2)::(12,.int v6.2.2.2.2)::(13,.ptr 13 0 13)::(14,.own 8 0 a0.parts.length)::(15,.int v6.2.2.2.2)::(16,.int v11.2)::(17,.ptr 13 0 14)::(18,.own 9 0 a0.maps.length)::(19,.int v11.2)::(20,.int v13.2)::(21,.ptr 13 0 15)::(22,.own 10 0 a0.bars.length)::(23,.int v13.2)::(24,.int v15.2)::(25,.ptr 13 0 16)::(26,.own 11 0 a0.theta.length)::(27,.int v15.2)::(28,.int v17.2)::(29,.ptr 13 0 17)::(30,.own 12 0 a0.subs.length)::(31,.int v17.2)::[]) [(0,⟨1,v1.1.map (ow eI)⟩),(1,⟨1,v1.2.1.map (ow eI)⟩),(2,⟨1,v1.2.2.1.map (ow eI)⟩),(3,⟨3,v1.2.2.2.1.map (ow eM)⟩),(4,⟨1,v6.1.map (ow eI)⟩),(5,⟨1,v6.2.1.map (ow eI)⟩),(6,⟨1,v6.2.2.1.map (ow eI)⟩),(7,⟨3,v6.2.2.2.1.map (ow eM)⟩),(8,⟨6,v11.1.map (ow eR)⟩),(9,⟨3,v13.1.map (ow eM)⟩),(10,⟨3,v15.1.map (ow eB)⟩),(11,⟨1,v17.1.map (ow eI)⟩),(12,⟨2,a0.subs.map (ow eS)⟩),(13,⟨18,[[.int a0.kind,.int a0.rep.p,.int a0.rep.q.n,.own 0 0 a0.rep.q.src.length,.own 1 0 a0.rep.q.tgt.length,.own 2 0 a0.rep.dims.length,.own 3 0 a0.rep.maps.length,.int a0.other.p,.int a0.other.q.n,.own 4 0 a0.other.q.src.length,.own 5 0 a0.other.q.tgt.length,.own 6 0 a0.other.dims.length,.own 7 0 a0.other.maps.length,.own 8 0 a0.parts.length,.own 9 0 a0.maps.length,.own 10 0 a0.bars.length,.own 11 0 a0.theta.length,.own 12 0 a0.subs.length]]⟩)] 14 ⟨13,true,none,true⟩) (bO (bL k2) (bD k<|bD k<|bD k<|cF (aW.plainO _) k<|bD k<|bD k<|bD k<|cF (aW.plainO _) k<|cF (fB.plainO _) k<|cF (aW.plainO _) k<|cF (gZ.plainO _) k<|bD k<|cF (gN.plainO _) k<|fK k<|aV) k4) ?_;exact vR (σ:=sg [(0,12)]) (σ':=sg [(12,0)]) (touch:=[12]) (news:=[]) (hl2:=[(12,⟨2,v19.1.map (ow eS)⟩)]) (n':=14) (r2:= .int v19.2) (aCr a0.subs v17.2 v19 hv19) k k ⟨_,_,k,⟨k,k,k,k⟩,⟨_,_,k,k,k⟩⟩ ⟨⟨_,k,k,.inl ⟨k,gN.plainO _⟩⟩,k,aV⟩ k k k ⟨⟨_,k,k,.inl ⟨k,gN.plainO _⟩⟩,k,aV⟩ k k k ⟨k,gN.tame _ _,aV⟩ k k k k k (kV ⟨k,k,k,k,k,k,k,k,k,k,k,k,k,k,k,k,k,k,k,k,k,k,k,k,k,k,k,k,k,k,k,aV⟩) (kW (skip:=[12]) ⟨.inr (bH.df _ _),.inr (bH.df _ _),.inr (bH.df _ _),.inr (aW.df _ _),.inr (bH.df _ _),.inr (bH.df _ _),.inr (bH.df _ _),.inr (aW.df _ _),.inr (fB.df _ _),.inr (aW.df _ _),.inr (gZ.df _ _),.inr (bH.df _ _),.inl (by decide),.inr (gS k),aV⟩)<|cG h λq20 h=>lG k2<|sn<|tn<|sS<|fU k2<|lG k2<|sn<|tn<|aD<|sp h ⟨mN [(4,.int v19.2)] [(0,⟨1,v1.1.map (ow eI)⟩),(1,⟨1,v1.2.1.map (ow eI)⟩),(2,⟨1,v1.2.2.1.map (ow eI)⟩),(3,⟨3,v1.2.2.2.1.map (ow eM)⟩),(4,⟨1,v6.1.map (ow eI)⟩),(5,⟨1,v6.2.1.map (ow eI)⟩),(6,⟨1,v6.2.2.1.map (ow eI)⟩),(7,⟨3,v6.2.2.2.1.map (ow eM)⟩),(8,⟨6,v11.1.map (ow eR)⟩),(9,⟨3,v13.1.map (ow eM)⟩),(10,⟨3,v15.1.map (ow eB)⟩),(11,⟨1,v17.1.map (ow eI)⟩),(12,⟨2,v19.1.map (ow eS)⟩)] 13 ⟨13,true,none,true⟩,(bO (bL k2) (bD k<|bD k<|bD k<|cF (aW.plainO _) k<|bD k<|bD k<|bD k<|cF (aW.plainO _) k<|cF (fB.plainO _) k<|cF (aW.plainO _) k<|cF (gZ.plainO _) k<|bD k<|cF (gN.plainO _) k<|aV) k4),k,⟨_,k,.inl k⟩,⟨k,k,k,k,k,k,k,k,k,k,k,k,k,aV⟩⟩
def nC (a0:(List Int)) (x1:(Int×Int)):Option ((Int×Int) ⊕ (Int ⊕ Int)):=
 bif decide (x1.2<(a0.length:Int)) then
 ((dF a0 x1.2).bind λv2=>
 bif !decide (v2=x1.1) then
 (some (.inr (.inr ((-1)))))
 else
 (some (.inl (wr (x1.1+1),wr (x1.2+1)))))
 else
 (some (.inr (.inl x1.1)))
def dK (a0:(List Int)) (a1:Int):Option Int:=
 (Lp (nC a0) (a1,0)).bind λy4=>
 Sum.elim (λy5=>
 some (y5)
 )
 (λy6=>
 some y6
 )
 y4
theorem fE (a0:(List Int)) (a1:Int) (r:Int) (h:dK a0 a1=some r):HasC Tryz.prog 77 [.list 1 (a0.map eI),.int a1] (.int r):=by
 refine hM [.tmp 4] Tryz.func77 Tryz.ntmps77 k<|sR<|aT k2<|sQ<|sR<|aT k2<|aG<|oB h λy4 hy4 h=>bY (body:=(nC a0)) hy4 (λ(x1:(Int×Int))=>mN [(0,.list 1 (a0.map eI)),(1,.int x1.1),(5,.int x1.2)] [] 0) (λr e t=>Sum.elim (λa=>(λr e t=>e= .exit 0∧Ent t (mN [(1,.int r)] [] 0)) a e t) (λb=>(λr e t=>e= .ret∧nL TT [.tmp 4] (.int r) .ret t) b e t) r) (bO (bL k2) aV k4) ?_ ?_
 ·intro x1 o h;exact sQ<|sR<|am k k<|am k k<|ln k4<|cm k4<|an<|tn<|cJ k h (λ_ h=>aE<|tn<|sQ<|aG<|sQ<|sR<|am k k<|am k k<|oB h λv2 hv2 h=>ae (xl hv2 k) k<|lr k7<|am k k<|cm k4<|an<|tn<|cJ k h (λ_ h=>sR<|aT k2<|aD<|aB<|bA<|aB<|aB<|sp h ⟨_,k,k,bG k k k (jT k)⟩) λ_ h=>aE<|tn<|rg<|am k k<|ae (bF k k) k<|aa k k<|an<|bC<|tn<|rg<|am k k<|ae (bF k k) k<|aT k2<|sp h ⟨_,k,(bO (bL k2) aV k4)⟩) λ_ h=>bB<|aC<|aC<|sp h ⟨_,k,k,(bO (bL k2) aV k4)⟩
 ·intro e t hX;rcases y4 with y5|y6
  ·obtain ⟨rfl,hent⟩:=hX;exact aP<|tn<|aR hent<|sR<|am k k<|aT k2<|aD<|tW h k2
  ·obtain ⟨rfl,hent⟩:=hX;exact bA<|aB<|sp h hent
def lQ (a0:(List (List Int))) (x1:(Int×Int)):Option ((Int×Int) ⊕ (Int ⊕ Int)):=
 bif decide (x1.2<(a0.length:Int)) then
 ((dF a0 x1.2).bind λv2=>
 (dK v2 x1.1).bind λv3=>
 bif decide (v3<0) then
 (some (.inr (.inr ((-1)))))
 else
 (some (.inl (v3,wr (x1.2+1)))))
 else
 (some (.inr (.inl x1.1)))
def qA (a0:(List (List Int))) (a1:Int):Option Int:=
 (Lp (lQ a0) (a1,0)).bind λy5=>
 Sum.elim (λy6=>
 some (y6)
 )
 (λy7=>
 some y7
 )
 y5
theorem aDj (a0:(List (List Int))) (a1:Int) (r:Int) (h:qA a0 a1=some r):HasC Tryz.prog 47 [.list 1 (a0.map (oA 1 eI)),.int a1] (.int r):=by
 refine hM [.tmp 4] Tryz.func47 Tryz.ntmps47 k<|sR<|aT k2<|sQ<|sR<|aT k2<|aG<|oB h λy5 hy5 h=>bY (body:=(lQ a0)) hy5 (λ(x1:(Int×Int))=>mN [(0,.list 1 (a0.map (oA 1 eI))),(1,.int x1.1),(5,.int x1.2)] [] 0) (λr e t=>Sum.elim (λa=>(λr e t=>e= .exit 0∧Ent t (mN [(1,.int r)] [] 0)) a e t) (λb=>(λr e t=>e= .ret∧nL TT [.tmp 4] (.int r) .ret t) b e t) r) (bO (bL k2) aV k4) ?_ ?_
 ·intro x1 o h;exact sQ<|sR<|am k k<|am k k<|ln k4<|cm k4<|an<|tn<|cJ k h (λ_ h=>aE<|tn<|sQ<|aG<|sR<|am k k<|am k k<|oB h λv2 hv2 h=>ae (xl hv2 k) k<|lr k7<|am k k<|oB h λv3 hv3 h=>ae (aL (fE v2 x1.1 v3 hv3) k (cC k (cC k aJ))) k<|aT k2<|sR<|am k k<|cm k4<|an<|tn<|cJ k h (λ_ h=>sR<|aT k2<|aD<|bA<|aB<|aB<|sp h ⟨_,k,k,bG k k k (jT k)⟩) λ_ h=>aE<|bC<|tn<|rg<|am k k<|ae (bF k k) k<|aT k2<|sp h ⟨_,k,(bO (bL k2) aV k4)⟩) λ_ h=>bB<|aC<|aC<|sp h ⟨_,k,k,(bO (bL k2) aV k4)⟩
 ·intro e t hX;rcases y5 with y6|y7
  ·obtain ⟨rfl,hent⟩:=hX;exact aP<|tn<|aR hent<|sR<|am k k<|aT k2<|aD<|tW h k2
  ·obtain ⟨rfl,hent⟩:=hX;exact bA<|aB<|sp h hent
def kQ (a0:(List Sc)) (x1:(Int×Int)):Option ((Int×Int) ⊕ (Int ⊕ Int)):=
 bif decide (x1.2<(a0.length:Int)) then
 ((dF a0 x1.2).bind λv2=>
 bif !decide (v2.size=x1.1) then
 (some (.inr (.inr ((-1)))))
 else
 ((dF a0 x1.2).bind λv4=>
 (qA v4.basis (wr (x1.1+1))).bind λv5=>
 bif decide (v5<0) then
 (some (.inr (.inr ((-1)))))
 else
 (some (.inl (v5,wr (x1.2+1))))))
 else
 (some (.inr (.inl x1.1)))
def oO (a0:(List Sc)) (a1:Int):Option Int:=
 (Lp (kQ a0) (a1,0)).bind λy7=>
 Sum.elim (λy8=>
 some (y8)
 )
 (λy9=>
 some y9
 )
 y7
theorem aCt (a0:(List Sc)) (a1:Int) (r:Int) (h:oO a0 a1=some r):HasC Tryz.prog 42 [.list 2 (a0.map eS),.int a1] (.int r):=by
 refine hM [.tmp 4] Tryz.func42 Tryz.ntmps42 k<|sR<|aT k2<|sQ<|sR<|aT k2<|aG<|oB h λy7 hy7 h=>bY (body:=(kQ a0)) hy7 (λ(x1:(Int×Int))=>mN [(0,.list 2 (a0.map eS)),(1,.int x1.1),(5,.int x1.2)] [] 0) (λr e t=>Sum.elim (λa=>(λr e t=>e= .exit 0∧Ent t (mN [(1,.int r)] [] 0)) a e t) (λb=>(λr e t=>e= .ret∧nL TT [.tmp 4] (.int r) .ret t) b e t) r) (bO (bL k2) aV k4) ?_ ?_
 ·intro x1 o h;exact sQ<|sR<|am k k<|am k k<|ln k4<|cm k4<|an<|tn<|cJ k h (λ_ h=>aE<|tn<|sQ<|aG<|sQ<|sR<|am k k<|am k k<|oB h λv2 hv2 h=>ae (xl hv2 k) k<|ae (cO aO k k k k k k) k<|lr k7<|am k k<|cm k4<|an<|tn<|cJ k h (λ_ h=>sR<|aT k2<|aD<|aB<|bA<|aB<|aB<|sp h ⟨_,k,k,bG k k k (jT k)⟩) λ_ h=>aE<|tn<|sR<|am k k<|ae (bF k k) k<|aT k2<|sR<|am k k<|am k k<|oB h λv4 hv4 h=>ae (xl hv4 k) k<|ae (cO aO k k k k k k) k<|lr k7<|am k k<|oB h λv5 hv5 h=>ae (aL (aDj v4.basis (wr (x1.1+1)) v5 hv5) k (cC k (cC k aJ))) k<|aT k2<|sR<|am k k<|cm k4<|an<|tn<|aR (t:=mN [(0,.list 2 (a0.map eS)),(1,.int v5),(5,.int x1.2),(29,.bl (decide (v5<0)))] [] 0) (bO (bL k2) aV k4)<|cJ k h (λ_ h=>sR<|aT k2<|aD<|bA<|aB<|aB<|sp h ⟨_,k,k,bG k k k (jT k)⟩) λ_ h=>aE<|bC<|tn<|rg<|am k k<|ae (bF k k) k<|aT k2<|sp h ⟨_,k,(bO (bL k2) aV k4)⟩) λ_ h=>bB<|aC<|aC<|sp h ⟨_,k,k,(bO (bL k2) aV k4)⟩
 ·intro e t hX;rcases y7 with y8|y9
  ·obtain ⟨rfl,hent⟩:=hX;exact aP<|tn<|aR hent<|sR<|am k k<|aT k2<|aD<|tW h k2
  ·obtain ⟨rfl,hent⟩:=hX;exact bA<|aB<|sp h hent
def oP (a0:Qv) (a1:Int):Option Int:=
 (dK a0.src a1).bind λv1=>
 bif decide (v1<0) then
 (some ((-1)))
 else
 ((dK a0.tgt v1).bind λv3=>
 bif decide (v3<0) then
 (some ((-1)))
 else
 (some (v3)))
theorem aCu (a0:Qv) (a1:Int) (r:Int) (h:oP a0 a1=some r):HasC Tryz.prog 126 [.agg (eQ a0),.int a1] (.int r):=by
 exact hM [.tmp 4] Tryz.func126 Tryz.ntmps126 k<|sR<|ae (wb k) k<|aT k2<|sR<|fp k8<|lp k8<|am k k<|oB h λv1 hv1 h=>ae (aL (fE a0.src a1 v1 hv1) k (cC k (cC k aJ))) k<|aT k2<|sQ<|sR<|am k k<|cm k4<|an<|tn<|cJ k h (λ_ h=>sR<|aT k2<|aD<|aB<|tW h k2) λ_ h=>aE<|tn<|sR<|fp k8<|lp k8<|am k k<|oB h λv3 hv3 h=>ae (aL (fE a0.tgt v1 v3 hv3) k (cC k (cC k aJ))) k<|aT k2<|sQ<|sR<|am k k<|cm k4<|an<|tn<|cJ k h (λ_ h=>sR<|aT k2<|aD<|aB<|tW h k2) λ_ h=>aE<|tn<|sR<|am k k<|aT k2<|aD<|tW h k2
def jO (a0:(List Mt)) (x1:(Int×Int)):Option ((Int×Int) ⊕ (Int ⊕ Int)):=
 bif decide (x1.2<(a0.length:Int)) then
 ((dF a0 x1.2).bind λv2=>
 bif !decide (v2.rows=x1.1) then
 (some (.inr (.inr ((-1)))))
 else
 ((dF a0 x1.2).bind λv4=>
 bif !decide (v4.cols=wr (x1.1+1)) then
 (some (.inr (.inr ((-1)))))
 else
 ((dF a0 x1.2).bind λv6=>
 (dK v6.cells (wr ((wr (x1.1+1))+1))).bind λv7=>
 bif decide (v7<0) then
 (some (.inr (.inr ((-1)))))
 else
 (some (.inl (v7,wr (x1.2+1)))))))
 else
 (some (.inr (.inl x1.1)))
def gX (a0:(List Mt)) (a1:Int):Option Int:=
 (Lp (jO a0) (a1,0)).bind λy9=>
 Sum.elim (λy10=>
 some (y10)
 )
 (λy11=>
 some y11
 )
 y9
theorem sE (a0:(List Mt)) (a1:Int) (r:Int) (h:gX a0 a1=some r):HasC Tryz.prog 75 [.list 3 (a0.map eM),.int a1] (.int r):=by
 refine hM [.tmp 4] Tryz.func75 Tryz.ntmps75 k<|sR<|aT k2<|sQ<|sR<|aT k2<|aG<|oB h λy9 hy9 h=>bY (body:=(jO a0)) hy9 (λ(x1:(Int×Int))=>mN [(0,.list 3 (a0.map eM)),(1,.int x1.1),(5,.int x1.2)] [] 0) (λr e t=>Sum.elim (λa=>(λr e t=>e= .exit 0∧Ent t (mN [(1,.int r)] [] 0)) a e t) (λb=>(λr e t=>e= .ret∧nL TT [.tmp 4] (.int r) .ret t) b e t) r) (bO (bL k2) aV k4) ?_ ?_
 ·intro x1 o h;refine sQ<|sR<|am k k<|am k k<|ln k4<|cm k4<|an<|tn<|cJ k h (λ_ h=>?_) λ_ h=>bB<|aC<|aC<|sp h ⟨_,k,k,(bO (bL k2) aV k4)⟩;exact aE<|tn<|sQ<|aG<|sQ<|sR<|am k k<|am k k<|oB h λv2 hv2 h=>ae (xl hv2 k) k<|ae (cO aO k k k k k k) k<|lr k7<|am k k<|cm k4<|an<|tn<|cJ k h (λ_ h=>sR<|aT k2<|aD<|aB<|bA<|aB<|aB<|sp h ⟨_,k,k,bG k k k (jT k)⟩) λ_ h=>aE<|tn<|sR<|am k k<|ae (bF k k) k<|aT k2<|sQ<|sR<|am k k<|am k k<|oB h λv4 hv4 h=>ae (xl hv4 k) k<|ae (cO aO k k k k k k) k<|lr k7<|am k k<|cm k4<|an<|tn<|cJ k h (λ_ h=>sR<|aT k2<|aD<|aB<|bA<|aB<|aB<|sp h ⟨_,k,k,bG k k k (jT k)⟩) λ_ h=>aE<|tn<|sR<|am k k<|ae (bF k k) k<|aT k2<|aR (t:=mN [(0,.list 3 (a0.map eM)),(1,.int (wr ((wr (x1.1+1))+1))),(5,.int x1.2)] [] 0) (bO (bL k2) aV k4)<|sR<|am k k<|am k k<|oB h λv6 hv6 h=>ae (xl hv6 k) k<|ae (cO aO k k k k k k) k<|lr k7<|am k k<|oB h λv7 hv7 h=>ae (aL (fE v6.cells (wr ((wr (x1.1+1))+1)) v7 hv7) k (cC k (cC k aJ))) k<|aT k2<|sR<|am k k<|cm k4<|an<|tn<|cJ k h (λ_ h=>sR<|aT k2<|aD<|bA<|aB<|aB<|sp h ⟨_,k,k,bG k k k (jT k)⟩) λ_ h=>aE<|bC<|tn<|rg<|am k k<|ae (bF k k) k<|aT k2<|sp h ⟨_,k,(bO (bL k2) aV k4)⟩
 ·intro e t hX;rcases y9 with y10|y11
  ·obtain ⟨rfl,hent⟩:=hX;exact aP<|tn<|aR hent<|sR<|am k k<|aT k2<|aD<|tW h k2
  ·obtain ⟨rfl,hent⟩:=hX;exact bA<|aB<|sp h hent
def pL (a0:Rp) (a1:Int):Option Int:=
 (oP a0.q a1).bind λv1=>
 bif decide (v1<0) then
 (some ((-1)))
 else
 ((dK a0.dims v1).bind λv3=>
 bif decide (v3<0) then
 (some ((-1)))
 else
 ((gX a0.maps v3).bind λv5=>
 bif decide (v5<0) then
 (some ((-1)))
 else
 (some (v5))))
theorem aAq (a0:Rp) (a1:Int) (r:Int) (h:pL a0 a1=some r):HasC Tryz.prog 73 [.agg (eR a0),.int a1] (.int r):=by
 exact hM [.tmp 4] Tryz.func73 Tryz.ntmps73 k<|sR<|ae (wb k) k<|aT k2<|sR<|fp k8<|lp k8<|am k k<|oB h λv1 hv1 h=>ae (aL (aCu a0.q a1 v1 hv1) k (aI (dH k) (cC k aJ))) k<|aT k2<|sQ<|sR<|am k k<|cm k4<|an<|tn<|cJ k h (λ_ h=>sR<|aT k2<|aD<|aB<|tW h k2) λ_ h=>aE<|tn<|sR<|fp k8<|lp k8<|am k k<|oB h λv3 hv3 h=>ae (aL (fE a0.dims v1 v3 hv3) k (cC k (cC k aJ))) k<|aT k2<|sQ<|sR<|am k k<|cm k4<|an<|tn<|cJ k h (λ_ h=>sR<|aT k2<|aD<|aB<|tW h k2) λ_ h=>aE<|tn<|sR<|fp k8<|lp k8<|am k k<|oB h λv5 hv5 h=>ae (aL (sE a0.maps v3 v5 hv5) k (cC k (cC k aJ))) k<|aT k2<|sQ<|sR<|am k k<|cm k4<|an<|tn<|cJ k h (λ_ h=>sR<|aT k2<|aR (t:=mN [(4,.int (-1))] [] 1) (bO (bL k2) aV k4)<|aD<|aB<|tW h k2) λ_ h=>aE<|tn<|sR<|am k k<|aT k2<|aD<|tW h k2
def sF (a0:(List Rp)) (x1:(Int×Int)):Option ((Int×Int) ⊕ (Int ⊕ Int)):=
 bif decide (x1.2<(a0.length:Int)) then
 ((dF a0 x1.2).bind λv2=>
 bif !decide (v2.p=x1.1) then
 (some (.inr (.inr ((-1)))))
 else
 ((dF a0 x1.2).bind λv4=>
 bif !decide (v4.q.n=wr (x1.1+1)) then
 (some (.inr (.inr ((-1)))))
 else
 ((dF a0 x1.2).bind λv6=>
 (dK v6.q.src (wr ((wr (x1.1+1))+1))).bind λv7=>
 bif decide (v7<0) then
 (some (.inr (.inr ((-1)))))
 else
 ((dF a0 x1.2).bind λv9=>
 (dK v9.q.tgt v7).bind λv10=>
 bif decide (v10<0) then
 (some (.inr (.inr ((-1)))))
 else
 ((dF a0 x1.2).bind λv12=>
 (dK v12.dims v10).bind λv13=>
 bif decide (v13<0) then
 (some (.inr (.inr ((-1)))))
 else
 ((dF a0 x1.2).bind λv15=>
 (gX v15.maps v13).bind λv16=>
 bif decide (v16<0) then
 (some (.inr (.inr ((-1)))))
 else
 (some (.inl (v16,wr (x1.2+1))))))))))
 else
 (some (.inr (.inl x1.1)))
def rO (a0:(List Rp)) (a1:Int):Option Int:=
 (Lp (sF a0) (a1,0)).bind λy18=>
 Sum.elim (λy19=>
 some (y19)
 )
 (λy20=>
 some y20
 )
 y18
theorem aEV (a0:(List Rp)) (a1:Int) (r:Int) (h:rO a0 a1=some r):HasC Tryz.prog 74 [.list 6 (a0.map eR),.int a1] (.int r):=by
 refine hM [.tmp 4] Tryz.func74 Tryz.ntmps74 k<|sR<|aT k2<|sQ<|sR<|aT k2<|aG<|oB h λy18 hy18 h=>bY (body:=(sF a0)) hy18 (λ(x1:(Int×Int))=>mN [(0,.list 6 (a0.map eR)),(1,.int x1.1),(5,.int x1.2)] [] 0) (λr e t=>Sum.elim (λa=>(λr e t=>e= .exit 0∧Ent t (mN [(1,.int r)] [] 0)) a e t) (λb=>(λr e t=>e= .ret∧nL TT [.tmp 4] (.int r) .ret t) b e t) r) (bO (bL k2) aV k4) ?_ ?_
 ·intro x1 o h;refine sQ<|sR<|am k k<|am k k<|ln k4<|cm k4<|an<|tn<|cJ k h (λ_ h=>?_) λ_ h=>bB<|aC<|aC<|sp h ⟨_,k,k,(bO (bL k2) aV k4)⟩;refine aE<|tn<|sQ<|aG<|sQ<|sR<|am k k<|am k k<|oB h λv2 hv2 h=>ae (xl hv2 k) k<|ae (cO aO k k k k k k) k<|lr k7<|am k k<|cm k4<|an<|tn<|cJ k h (λ_ h=>sR<|aT k2<|aD<|aB<|bA<|aB<|aB<|sp h ⟨_,k,k,bG k k k (jT k)⟩) λ_ h=>?_;refine aE<|tn<|sR<|am k k<|ae (bF k k) k<|aT k2<|sQ<|sR<|am k k<|am k k<|oB h λv4 hv4 h=>ae (xl hv4 k) k<|ae (cO aO k k k k k k) k<|ae (cO aO k k k k k k) k<|lr k7<|am k k<|cm k4<|an<|tn<|cJ k h (λ_ h=>sR<|aT k2<|aD<|aB<|bA<|aB<|aB<|sp h ⟨_,k,k,bG k k k (jT k)⟩) λ_ h=>?_;refine aE<|tn<|sR<|am k k<|ae (bF k k) k<|aT k2<|aR (t:=mN [(0,.list 6 (a0.map eR)),(1,.int (wr ((wr (x1.1+1))+1))),(5,.int x1.2)] [] 0) (bO (bL k2) aV k4)<|sR<|am k k<|am k k<|oB h λv6 hv6 h=>ae (xl hv6 k) k<|ae (cO aO k k k k k k) k<|ae (cO aO k k k k k k) k<|lr k7<|am k k<|oB h λv7 hv7 h=>ae (aL (fE v6.q.src (wr ((wr (x1.1+1))+1)) v7 hv7) k (cC k (cC k aJ))) k<|aT k2<|sQ<|sR<|am k k<|cm k4<|an ?_;refine tn<|cJ k h (λ_ h=>sR<|aT k2<|aD<|aB<|bA<|aB<|aB<|sp h ⟨_,k,k,bG k k k (jT k)⟩) λ_ h=>?_;exact aE<|tn<|sR<|am k k<|am k k<|oB h λv9 hv9 h=>ae (xl hv9 k) k<|ae (cO aO k k k k k k) k<|ae (cO aO k k k k k k) k<|lr k7<|am k k<|oB h λv10 hv10 h=>ae (aL (fE v9.q.tgt v7 v10 hv10) k (cC k (cC k aJ))) k<|aT k2<|sQ<|sR<|am k k<|cm k4<|an<|tn<|cJ k h (λ_ h=>sR<|aT k2<|aD<|aB<|bA<|aB<|aB<|sp h ⟨_,k,k,bG k k k (jT k)⟩) λ_ h=>aE<|tn<|sR<|am k k<|am k k<|oB h λv12 hv12 h=>ae (xl hv12 k) k<|ae (cO aO k k k k k k) k<|lr k7<|am k k<|oB h λv13 hv13 h=>ae (aL (fE v12.dims v10 v13 hv13) k (cC k (cC k aJ))) k<|aT k2<|aR (t:=mN [(0,.list 6 (a0.map eR)),(1,.int v13),(5,.int x1.2)] [] 0) (bO (bL k2) aV k4)<|sQ<|sR<|am k k<|cm k4<|an<|tn<|cJ k h (λ_ h=>sR<|aT k2<|aD<|aB<|bA<|aB<|aB<|sp h ⟨_,k,k,bG k k k (jT k)⟩) λ_ h=>aE<|tn<|sR<|am k k<|am k k<|oB h λv15 hv15 h=>ae (xl hv15 k) k<|ae (cO aO k k k k k k) k<|lr k7<|am k k<|oB h λv16 hv16 h=>ae (aL (sE v15.maps v13 v16 hv16) k (cC k (cC k aJ))) k<|aT k2<|sR<|am k k<|cm k4<|an<|tn<|cJ k h (λ_ h=>sR<|aT k2<|aD<|bA<|aB<|aB<|sp h ⟨_,k,k,bG k k k (jT k)⟩) λ_ h=>aE<|bC<|tn<|rg<|am k k<|ae (bF k k) k<|aT k2<|sp h ⟨_,k,(bO (bL k2) aV k4)⟩
 ·intro e t hX;rcases y18 with y19|y20
  ·obtain ⟨rfl,hent⟩:=hX;exact aP<|tn<|aR hent<|sR<|am k k<|aT k2<|aD<|tW h k2
  ·obtain ⟨rfl,hent⟩:=hX;exact bA<|aB<|sp h hent
def sG (a0:(List Br)) (x1:(Int×Int)):Option ((Int×Int) ⊕ (Int ⊕ Int)):=
 bif decide (x1.2<(a0.length:Int)) then
 ((dF a0 x1.2).bind λv2=>
 bif !decide (v2.first=x1.1) then
 (some (.inr (.inr ((-1)))))
 else
 ((dF a0 x1.2).bind λv4=>
 bif !decide (v4.last=wr (x1.1+1)) then
 (some (.inr (.inr ((-1)))))
 else
 ((dF a0 x1.2).bind λv6=>
 bif !decide (v6.count=wr ((wr (x1.1+1))+1)) then
 (some (.inr (.inr ((-1)))))
 else
 (some (.inl (wr ((wr ((wr (x1.1+1))+1))+1),wr (x1.2+1)))))))
 else
 (some (.inr (.inl x1.1)))
def rP (a0:(List Br)) (a1:Int):Option Int:=
 (Lp (sG a0) (a1,0)).bind λy8=>
 Sum.elim (λy9=>
 some (y9)
 )
 (λy10=>
 some y10
 )
 y8
theorem aEW (a0:(List Br)) (a1:Int) (r:Int) (h:rP a0 a1=some r):HasC Tryz.prog 76 [.list 3 (a0.map eB),.int a1] (.int r):=by
 refine hM [.tmp 4] Tryz.func76 Tryz.ntmps76 k<|sR<|aT k2<|sQ<|sR<|aT k2<|aG<|oB h λy8 hy8 h=>bY (body:=(sG a0)) hy8 (λ(x1:(Int×Int))=>mN [(0,.list 3 (a0.map eB)),(1,.int x1.1),(5,.int x1.2)] [] 0) (λr e t=>Sum.elim (λa=>(λr e t=>e= .exit 0∧Ent t (mN [(1,.int r)] [] 0)) a e t) (λb=>(λr e t=>e= .ret∧nL TT [.tmp 4] (.int r) .ret t) b e t) r) (bO (bL k2) aV k4) ?_ ?_
 ·intro x1 o h;exact sQ<|sR<|am k k<|am k k<|ln k4<|cm k4<|an<|tn<|cJ k h (λ_ h=>aE<|tn<|sQ<|aG<|sQ<|sR<|am k k<|am k k<|oB h λv2 hv2 h=>ae (xl hv2 k) k<|ae (cO aO k k k k k k) k<|lr k7<|am k k<|cm k4<|an<|tn<|cJ k h (λ_ h=>sR<|aT k2<|aD<|aB<|bA<|aB<|aB<|sp h ⟨_,k,k,bG k k k (jT k)⟩) λ_ h=>aE<|tn<|sR<|am k k<|ae (bF k k) k<|aT k2<|sQ<|sR<|am k k<|am k k<|oB h λv4 hv4 h=>ae (xl hv4 k) k<|ae (cO aO k k k k k k) k<|lr k7<|am k k<|cm k4<|an<|tn<|cJ k h (λ_ h=>sR<|aT k2<|aD<|aB<|bA<|aB<|aB<|sp h ⟨_,k,k,bG k k k (jT k)⟩) λ_ h=>aE<|tn<|sR<|am k k<|ae (bF k k) k<|aT k2<|aR (t:=mN [(0,.list 3 (a0.map eB)),(1,.int (wr ((wr (x1.1+1))+1))),(5,.int x1.2)] [] 0) (bO (bL k2) aV k4)<|sQ<|sR<|am k k<|am k k<|oB h λv6 hv6 h=>ae (xl hv6 k) k<|ae (cO aO k k k k k k) k<|lr k7<|am k k<|cm k4<|an<|tn<|cJ k h (λ_ h=>sR<|aT k2<|aD<|aB<|bA<|aB<|aB<|sp h ⟨_,k,k,bG k k k (jT k)⟩) λ_ h=>aE<|tn<|rg<|am k k<|ae (bF k k) k<|aa k k<|an<|bC<|tn<|rg<|am k k<|ae (bF k k) k<|aT k2<|sp h ⟨_,k,(bO (bL k2) aV k4)⟩) λ_ h=>bB<|aC<|aC<|sp h ⟨_,k,k,(bO (bL k2) aV k4)⟩
 ·intro e t hX;rcases y8 with y9|y10
  ·obtain ⟨rfl,hent⟩:=hX;exact aP<|tn<|aR hent<|sR<|am k k<|aT k2<|aD<|tW h k2
  ·obtain ⟨rfl,hent⟩:=hX;exact bA<|aB<|sp h hent
def mI (a0:Cl) (a1:Int):Option Int:=
 (pL a0.rep a1).bind λv1=>
 bif decide (v1<0) then
 (some ((-1)))
 else
 ((pL a0.other v1).bind λv3=>
 bif decide (v3<0) then
 (some ((-1)))
 else
 ((rO a0.parts v3).bind λv5=>
 bif decide (v5<0) then
 (some ((-1)))
 else
 ((gX a0.maps v5).bind λv7=>
 bif decide (v7<0) then
 (some ((-1)))
 else
 ((rP a0.bars v7).bind λv9=>
 bif decide (v9<0) then
 (some ((-1)))
 else
 ((dK a0.theta v9).bind λv11=>
 bif decide (v11<0) then
 (some ((-1)))
 else
 ((oO a0.subs v11).bind λv13=>
 bif decide (v13<0) then
 (some ((-1)))
 else
 (some (v13))))))))
theorem zF (a0:Cl) (a1:Int) (r:Int) (h:mI a0 a1=some r):HasC Tryz.prog 21 [.agg (eC a0),.int a1] (.int r):=by
 refine hM [.tmp 4] Tryz.func21 Tryz.ntmps21 k<|sR<|ae (wb k) k<|aT k2<|sR<|fp k8<|lp k8<|am k k<|oB h λv1 hv1 h=>ae (aL (aAq a0.rep a1 v1 hv1) k (aI (dH k) (cC k aJ))) k<|aT k2<|sQ<|sR<|am k k<|cm k4<|an<|tn<|cJ k h (λ_ h=>sR<|aT k2<|aD<|aB<|tW h k2) λ_ h=>?_;refine aE<|tn<|sR<|fp k8<|lp k8<|am k k<|oB h λv3 hv3 h=>ae (aL (aAq a0.other v1 v3 hv3) k (aI (dH k) (cC k aJ))) k<|aT k2<|sQ<|sR<|am k k<|cm k4<|an<|tn<|cJ k h (λ_ h=>sR<|aT k2<|aD<|aB<|tW h k2) λ_ h=>?_;exact aE<|tn<|sR<|fp k8<|lp k8<|am k k<|oB h λv5 hv5 h=>ae (aL (aEV a0.parts v3 v5 hv5) k (cC k (cC k aJ))) k<|aT k2<|sQ<|sR<|am k k<|cm k4<|an<|tn<|cJ k h (λ_ h=>sR<|aT k2<|aR (t:=mN [(4,.int (-1))] [] 1) (bO (bL k2) aV k4)<|aD<|aB<|tW h k2) λ_ h=>aE<|tn<|sR<|fp k8<|lp k8<|am k k<|oB h λv7 hv7 h=>ae (aL (sE a0.maps v5 v7 hv7) k (cC k (cC k aJ))) k<|aT k2<|aR (t:=mN [(1,.int v7),(2,.ptr 0 0 0)] [(0,⟨18,[eC a0]⟩)] 1) (bO (bL k2) (bT k<|aV) k4)<|sQ<|sR<|am k k<|cm k4<|an<|tn<|cJ k h (λ_ h=>sR<|aT k2<|aD<|aB<|tW h k2) λ_ h=>aE<|tn<|sR<|fp k8<|lp k8<|am k k<|oB h λv9 hv9 h=>ae (aL (aEW a0.bars v7 v9 hv9) k (cC k (cC k aJ))) k<|aT k2<|sQ<|sR<|am k k<|cm k4<|an<|tn<|cJ k h (λ_ h=>sR<|aT k2<|aD<|aB<|tW h k2) λ_ h=>aE<|tn<|sR<|fp k8<|lp k8<|am k k<|oB h λv11 hv11 h=>ae (aL (fE a0.theta v9 v11 hv11) k (cC k (cC k aJ))) k<|aT k2<|sQ<|sR<|am k k<|cm k4<|an<|tn<|cJ k h (λ_ h=>sR<|aT k2<|aD<|aB<|tW h k2) λ_ h=>aE<|tn<|sR<|fp k8<|lp k8<|am k k<|oB h λv13 hv13 h=>ae (aL (aCt a0.subs v11 v13 hv13) k (cC k (cC k aJ))) k<|aT k2<|sQ<|sR<|am k k<|cm k4<|an<|tn<|cJ k h (λ_ h=>sR<|aT k2<|aR (t:=mN [(4,.int (-1))] [] 1) (bO (bL k2) aV k4)<|aD<|aB<|tW h k2) λ_ h=>aE<|tn<|sR<|am k k<|aT k2<|aD<|tW h k2
end
noncomputable section
def yJ {α:Type} (nv:α→Nat):List α→Nat
 | []=>0
 |x::l=>nv x+yJ nv l
def mvS {α:Type} (mv:Int→α→α) (nv:α→Nat):Int→List α→List α
 |_,[]=>[]
 |k,x::l=>mv k x::mvS mv nv (k+nv x) l
section
variable {α:Type} {mv:Int→α→α} {nv:α→Nat}
theorem oU: ∀ (l:List α) (k:Int),(mvS mv nv k l).length=l.length
 | [],_=>rfl
 |x::l,k=>by simp [mvS,oU l]
theorem aHq: ∀ (l m:List α),yJ nv (l++m)=yJ nv l+yJ nv m
 | [],m=>by simp [yJ]
 |x::l,m=>by simp [yJ,aHq l m];omega
theorem aHr: ∀ (l m:List α) (k:Int),mvS mv nv k (l++m)=mvS mv nv k l++mvS mv nv (k+yJ nv l) m
 | [],m,k=>by simp [mvS,yJ]
 |x::l,m,k=>by
  simp only [List.cons_append,mvS,yJ,aHr l m];rw [show k+((nv x+yJ nv l:Nat):Int)=k+(nv x:Int)+(yJ nv l:Int) by omega]
theorem aCv {l:List α} {i:Nat} (hi:i<l.length):yJ nv (l.take (i+1))=yJ nv (l.take i)+nv l[i]:=by
 rw [aCB hi,aHq];simp [yJ]
theorem aEA (l:List α) (i:Nat):yJ nv (l.take i)≤yJ nv l:=by
 have h:yJ nv (l.take i++l.drop i)=yJ nv l:=by rw [List.take_append_drop]
 rw [aHq] at h;omega
theorem aHs {c:Nat} : ∀ {l:List α},(∀ x∈l,nv x≤c)→yJ nv l≤c*l.length
 | [],_=>by simp [yJ]
 |x::l,h=>by
  have h1:=h x (by simp);have h2:=aHs (l:=l) λy hy=>h y (by simp [hy]);simp only [yJ,List.length_cons,Nat.mul_add,Nat.mul_one];omega
theorem aEq {l:List α} {k:Int} {i:Nat} (hi:i<l.length):(mvS mv nv k l)[i]? =some (mv (k+yJ nv (l.take i)) l[i]):=by
 have e:l=l.take i++l[i]::l.drop (i+1):=by rw [←List.drop_eq_getElem_cons hi,List.take_append_drop]
 have e2:mvS mv nv k l=mvS mv nv k (l.take i)++mvS mv nv (k+yJ nv (l.take i)) (l[i]::l.drop (i+1)):=by rw [←aHr,←e]
 rw [e2,List.getElem?_append_right (by rw [oU];simp;omega),oU];simp [mvS,Nat.min_eq_left (Nat.le_of_lt hi)]
theorem aBF {l:List α} {k0:Int} {body:List α×Int×Int→Option ((List α×Int×Int) ⊕ (List α×Int))} (h0:0≤k0) (hk:k0+yJ nv l≤4611686018427387904) (hl:l.length≤4611686018427387904)
  (hs: ∀ (r:List α) (i:Nat) (k:Int) (hi:i<r.length),r[i]∈l→0≤k→k+nv r[i]≤4611686018427387904→body (r,k,i)=some (.inl (r.set i (mv k r[i]),k+nv r[i],wr (i+1)))) (he: ∀ r k,body (r,k,(r.length:Int))=some (.inr (r,k))):
  Lp body (l,k0,0)=some (mvS mv nv k0 l,k0+yJ nv l):=by
 rw [dL (r:=(mvS mv nv k0 l,k0+yJ nv l)) (λi=>(mvS mv nv k0 (l.take i)++l.drop i,k0+yJ nv (l.take i),(i:Int))) l.length (by simp [mvS,yJ]) (λi hi=>?_) (λ_=>?_)]
 ·have hm:(mvS mv nv k0 (l.take i)).length=i:=by rw [oU];simp;omega
  have hg:(mvS mv nv k0 (l.take i)++l.drop i)[i]'(by simp [oU];omega)=l[i]:=by
   rw [List.getElem_append_right (by omega)];simp [hm]
  have hb:=aEA (nv:=nv) l (i+1);rw [aCv hi] at hb;rw [hs _ i _ (by simp [oU];omega) (by rw [hg];exact List.getElem_mem hi) (by omega) (by rw [hg];omega),hg,cB hi hl];congr 2;refine Prod.ext ?_ (Prod.ext ?_ rfl)
  ·simp only;rw [List.set_append_right _ _ (by omega),hm,Nat.sub_self,List.drop_eq_getElem_cons hi,List.set_cons_zero,aCB hi,aHr];simp [mvS]
  ·simp only;rw [aCv hi];omega
 ·have:=he (mvS mv nv k0 (l.take l.length)++l.drop l.length) (k0+yJ nv (l.take l.length));simp only [List.take_length,List.drop_length,List.append_nil,oU] at this ⊢;exact this
theorem aBG {l:List α} {k0:Int} {body:Int×Int→Option ((Int×Int) ⊕ (Int ⊕ Int))} (h0:0≤k0) (hk:k0+yJ nv l≤4611686018427387904) (hl:l.length≤4611686018427387904)
  (hs: ∀ (i:Nat) (hi:i<l.length) (k:Int),k=k0+yJ nv (l.take i)→0≤k→k+nv l[i]≤4611686018427387904→body (k,i)=some (.inl (k+nv l[i],wr (i+1)))) (he: ∀ k,body (k,(l.length:Int))=some (.inr (.inl k))):
  Lp body (k0,0)=some (.inl (k0+yJ nv l)):=by
 rw [dL (r:=Sum.inl (k0+yJ nv l)) (λi=>(k0+yJ nv (l.take i),(i:Int))) l.length (by simp [yJ]) (λi hi=>?_) (λ_=>?_)]
 ·have hb:=aEA (nv:=nv) l (i+1);rw [aCv hi] at hb;rw [hs i hi _ rfl (by omega) (by omega),cB hi hl,aCv hi];congr 3;omega
 ·rw [he];simp
end
def nI (l:List Int):Nat:=yJ (λ_=>1) l
def mvI:Int→List Int→List Int:=mvS (λk _=>k) (λ_=>1)
theorem yK: ∀ l:List Int,nI l=l.length
 | []=>rfl
 |x::l=>by have:=yK l;simp only [nI] at this;simp only [nI,yJ,List.length_cons];omega
theorem rQ (k:Int) (l:List Int):(mvI k l).length=l.length:=oU l k
theorem aJH {k:Int} {n:Nat} (h:0≤k):decide (k+(n:Int)<0)=false:=cY (by omega)
theorem aMA {l:List Int} {k:Int} (h0:0≤k) (hk:k+nI l≤4611686018427387904):dJ l k=some (mvI k l,k+nI l):=by
 have hl:=yK l;unfold dJ;rw [aBF (mv:=λk _=>k) (nv:=λ_=>1) h0 hk (by omega) (λr i k hi _ g0 g1=>?_) (λr k=>?_),aA]
 ·rfl
 ·unfold nB;simp only;rw [jS hi,aN,cV hi,aA,dZ,dC (x:=k+1) (by omega)];simp
 ·unfold nB;simp only;rw [mM (bN _),aY]
theorem aMB {l:List Int} {k:Int} (h0:0≤k) (hk:k+nI l≤4611686018427387904):dK (mvI k l) k=some (k+nI l):=by
 have hl:=yK l;have hm:=rQ k l;unfold dK;rw [aBG (l:=l) (nv:=λ_=>1) h0 hk (by omega) (λi hi k' e g0 g1=>?_) (λk'=>?_),aA]
 ·rfl
 ·unfold nC;simp only;have hg:(mvI k l)[i]? =some k':=by unfold mvI;rw [aEq hi,e]
  rw [hm,jS hi,aN,cV (by omega),aA];have hg':(mvI k l)[i]'(by omega)=k':=by rw [lF (by omega)] at hg;exact Option.some.inj hg
  rw [hg',bK rfl,eO,aY,dC (x:=k'+1) (by omega)];simp
 ·unfold nC;simp only;rw [hm,mM (bN _),aY]
def nIS:List (List Int)→Nat:=yJ nI
def aMC:Int→List (List Int)→List (List Int):=mvS mvI nI
theorem aKI {α:Type} {l:List α} {i:Nat} {v:α} (h:l[i]? =some v) (hi:i<l.length):l[i]=v:=by rw [lF hi] at h;exact Option.some.inj h
theorem aQC {l:List (List Int)} {k:Int} (h0:0≤k) (hk:k+nIS l≤4611686018427387904) (hl:l.length≤4611686018427387904):pY l k=some (aMC k l,k+nIS l):=by
 unfold pY;rw [aBF (mv:=mvI) (nv:=nI) h0 hk hl (λr i k hi _ g0 g1=>?_) (λr k=>?_),aA]
 ·rfl
 ·unfold lP;simp only;rw [jS hi,aN,cV hi,aA,aMA g0 g1,aA,dZ,rQ,bK rfl,aN]
 ·unfold lP;simp only;rw [mM (bN _),aY]
theorem aQD {l:List (List Int)} {k:Int} (h0:0≤k) (hk:k+nIS l≤4611686018427387904) (hl:l.length≤4611686018427387904):qA (aMC k l) k=some (k+nIS l):=by
 have hm:(aMC k l).length=l.length:=oU l k;unfold qA;rw [aBG (l:=l) (nv:=nI) h0 hk hl (λi hi k' e g0 g1=>?_) (λk'=>?_),aA]
 ·rfl
 ·unfold lQ;simp only;rw [hm,jS hi,aN,cV (by omega),aA,aKI (v:=mvI k' l[i]) (by unfold aMC;rw [aEq hi,e]) (by omega),aMB g0 g1,aA,aJH g0,aY]
 ·unfold lQ;simp only;rw [hm,mM (bN _),aY]
def nSe (s:Sc):Nat:=1+nIS s.basis
def aNO (k:Int) (s:Sc):Sc:=⟨k,aMC (k+1) s.basis⟩
def nSs:List Sc→Nat:=yJ nSe
def aJI:Int→List Sc→List Sc:=mvS aNO nSe
def lS (l:List Sc):Prop:=l.length≤4611686018427387904∧ ∀ s∈l,s.basis.length≤4611686018427387904
theorem aNP (k:Int) (l:List (List Int)):(aMC k l).length=l.length:=oU l k
theorem aJJ (k:Int) (l:List Sc):(aJI k l).length=l.length:=oU l k
theorem aQE {l:List Sc} {k:Int} (h0:0≤k) (hk:k+nSs l≤4611686018427387904) (hl:lS l):oK l k=some (aJI k l,k+nSs l):=by
 unfold oK;rw [aBF (mv:=aNO) (nv:=nSe) h0 hk hl.1 (λr i k hi hm g0 g1=>?_) (λr k=>?_),aA]
 ·rfl
 ·unfold nSe at g1;unfold kP;simp only;rw [jS hi,aN,cV hi,aA,dC (x:=k+1) (by omega),aQC (by omega) (by omega) (hl.2 _ hm),aA,aNP,bK rfl,aN,dZ];unfold aNO nSe;congr 4;omega
 ·unfold kP;simp only;rw [mM (bN _),aY]
theorem aQF {l:List Sc} {k:Int} (h0:0≤k) (hk:k+nSs l≤4611686018427387904) (hl:lS l):oO (aJI k l) k=some (k+nSs l):=by
 have hm:(aJI k l).length=l.length:=oU l k;unfold oO;rw [aBG (l:=l) (nv:=nSe) h0 hk hl.1 (λi hi k' e g0 g1=>?_) (λk'=>?_),aA]
 ·rfl
 ·unfold nSe at g1;unfold kQ;simp only;rw [hm,jS hi,aN,cV (by omega),aA,aKI (v:=aNO k' l[i]) (by unfold aJI;rw [aEq hi,e]) (by omega)];unfold aNO;simp only [decide_true,eO,aY,aA];rw [dC (x:=k'+1) (by omega),aQD (by omega) (by omega) (hl.2 _ (List.getElem_mem hi)),aA,aJH (by omega),aY];unfold nSe;congr 3;omega
 ·unfold kQ;simp only;rw [hm,mM (bN _),aY]
def nQ (q:Qv):Nat:=nI q.src+nI q.tgt
def mvQ (k:Int) (q:Qv):Qv:=⟨q.n,mvI k q.src,mvI (k+nI q.src) q.tgt⟩
theorem aQj {q:Qv} {k:Int} (h0:0≤k) (hk:k+nQ q≤4611686018427387904):oN q k=some ((mvQ k q).src,(mvQ k q).tgt,k+nQ q):=by
 unfold nQ at hk;unfold oN;rw [aMA h0 (by omega),aA,rQ,bK rfl,aN,aMA (by omega) (by omega),aA,rQ,bK rfl,aN];unfold mvQ nQ;congr 3;omega
theorem aQk {q:Qv} {k:Int} (h0:0≤k) (hk:k+nQ q≤4611686018427387904):oP (mvQ k q) k=some (k+nQ q):=by
 unfold nQ at hk;unfold oP mvQ;simp only;rw [aMB h0 (by omega),aA,aJH h0,aY,aMB (by omega) (by omega),aA,aJH (by omega),aY];unfold nQ;congr 1;omega
def nMe (m:Mt):Nat:=2+nI m.cells
def aNR (k:Int) (m:Mt):Mt:=⟨k,k+1,mvI (k+2) m.cells⟩
def nMs:List Mt→Nat:=yJ nMe
def aHt:Int→List Mt→List Mt:=mvS aNR nMe
theorem aCw (k:Int) (l:List Mt):(aHt k l).length=l.length:=oU l k
theorem aOr {l:List Mt} {k:Int} (h0:0≤k) (hk:k+nMs l≤4611686018427387904) (hl:l.length≤4611686018427387904):gW l k=some (aHt k l,k+nMs l):=by
 unfold gW;rw [aBF (mv:=aNR) (nv:=nMe) h0 hk hl (λr i k hi hm g0 g1=>?_) (λr k=>?_),aA]
 ·rfl
 ·unfold nMe at g1;unfold jN;simp only;rw [jS hi,aN,cV hi,aA,dC (x:=k+1) (by omega),dC (x:=k+1+1) (by omega),show k+1+1=k+2 by omega,aMA (by omega) (by omega),aA,rQ,bK rfl,aN,dZ];unfold aNR nMe;congr 4;omega
 ·unfold jN;simp only;rw [mM (bN _),aY]
theorem aOs {l:List Mt} {k:Int} (h0:0≤k) (hk:k+nMs l≤4611686018427387904) (hl:l.length≤4611686018427387904):gX (aHt k l) k=some (k+nMs l):=by
 have hm:(aHt k l).length=l.length:=oU l k;unfold gX;rw [aBG (l:=l) (nv:=nMe) h0 hk hl (λi hi k' e g0 g1=>?_) (λk'=>?_),aA]
 ·rfl
 ·unfold nMe at g1;unfold jO;simp only;rw [hm,jS hi,aN,cV (by omega),aA,aKI (v:=aNR k' l[i]) (by unfold aHt;rw [aEq hi,e]) (by omega)];unfold aNR;simp only [decide_true,eO,aY,aA,dC (x:=k'+1) (by omega)];rw [dC (x:=k'+1+1) (by omega),show k'+1+1=k'+2 by omega,aMB (by omega) (by omega),aA,aJH (by omega),aY];unfold nMe;congr 3;omega
 ·unfold jO;simp only;rw [hm,mM (bN _),aY]
def nR (r:Rp):Nat:=nQ r.q+nI r.dims+nMs r.maps
def mvR (k:Int) (r:Rp):Rp:=⟨r.p,mvQ k r.q,mvI (k+nQ r.q) r.dims,aHt (k+nQ r.q+nI r.dims) r.maps⟩
theorem aOX {r:Rp} {k:Int} (h0:0≤k) (hk:k+nR r≤4611686018427387904) (hl:r.maps.length≤4611686018427387904):jE r k=some ((mvR k r).q.src,(mvR k r).q.tgt,(mvR k r).dims,(mvR k r).maps,k+nR r):=by
 unfold nR at hk;unfold jE;rw [aQj h0 (by omega),aA];simp only [mvQ,rQ,decide_true,aN];rw [aMA (by omega) (by omega),aA];simp only [rQ,decide_true,aN];rw [aOr (by omega) (by omega) hl,aA];simp only [aCw,decide_true,aN];unfold mvR nR;congr 5;omega
theorem aQG {r:Rp} {k:Int} (h0:0≤k) (hk:k+nR r≤4611686018427387904) (hl:r.maps.length≤4611686018427387904):pL (mvR k r) k=some (k+nR r):=by
 unfold nR at hk;unfold pL mvR;simp only;rw [aQk h0 (by omega),aA,aJH h0,aY,aMB (by omega) (by omega),aA,aJH (by omega),aY,aOs (by omega) (by omega) hl,aA,aJH (by omega),aY];unfold nR;congr 1;omega
theorem aBH (k:Int) (r:Rp):(mvR k r).q.src.length=r.q.src.length∧(mvR k r).q.tgt.length=r.q.tgt.length∧(mvR k r).dims.length=r.dims.length∧(mvR k r).maps.length=r.maps.length:=⟨rQ _ _,rQ _ _,rQ _ _,aCw _ _⟩
theorem aKJ {l:List Mt} (h:l.length≤1048576∧ ∀ m∈l,bM m):nMs l≤2097152*1048576:=by
 have:=aHs (nv:=nMe) (c:=2097152) (l:=l) λm hm=>by have:=(h.2 m hm).1;unfold bI at this;unfold nMe;rw [yK];omega
 unfold nMs
 calc yJ nMe l≤2097152*l.length:=this
  _≤2097152*1048576:=Nat.mul_le_mul_left _ h.1
theorem aHE {r:Rp} (h:bR r):nR r≤4398046511104:=by
 obtain ⟨⟨h1,h2,_⟩,h3,h4,_⟩:=h;have:=aKJ h4;unfold bI at h1 h2 h3;unfold nR nQ;rw [yK,yK,yK];omega
theorem aPS {l:List (List Int)} (h:l.length≤1048576∧ ∀ v∈l,bI v):nIS l≤1048576*1048576:=by
 have:=aHs (nv:=nI) (c:=1048576) (l:=l) λm hm=>by have:=h.2 m hm;unfold bI at this;rw [yK];exact this
 unfold nIS
 calc yJ nI l≤1048576*l.length:=this
  _≤1048576*1048576:=Nat.mul_le_mul_left _ h.1
theorem aNS {l:List Sc} (h:l.length≤1048576∧ ∀ s∈l,bS s):nSs l≤2305843009213693952:=by
 have:=aHs (nv:=nSe) (c:=2097152*1048576) (l:=l) λm hm=>by have:=aPS (h.2 m hm).1;unfold nSe;omega
 unfold nSs
 calc yJ nSe l≤2097152*1048576*l.length:=this
  _≤2097152*1048576*1048576:=Nat.mul_le_mul_left _ h.1
  _≤2305843009213693952:=by decide
theorem aOt {l:List Sc} (h:l.length≤1048576∧ ∀ s∈l,bS s):lS l:=⟨by omega,λs hs=>by have:=(h.2 s hs).1.1;omega⟩
end
noncomputable section
set_option maxRecDepth 10000
set_option maxHeartbeats 4000000
end
noncomputable section
def off (l:Nat→Nat):Nat→Nat
 |0=>0
 |k+1=>off l k+l k
theorem aAM {l:Nat→Nat} {i k:Nat} (h:i≤k):off l i≤off l k:=by
 induction k with
 |zero=>have:i=0:=by omega
        subst this;exact bN _
 |succ k ih=>
  rcases eJ k i with h'|h'
  ·have:i=k+1:=by omega
   subst this;exact bN _
  ·have:=ih h';show off l i≤off l k+l k;omega
theorem jU {l:Nat→Nat} {i k y:Nat} (hi:i<k) (hy:y<l i):off l i+y<off l k:=by
 have:= @aAM l (i+1) k hi;have e:off l (i+1)=off l i+l i:=rfl;omega
theorem aBI {l:Nat→Nat} : ∀ {k x:Nat},x<off l k→ ∃ i y,i<k∧y<l i∧x=off l i+y
 |0,x,h=>absurd h (Nat.not_lt_zero _)
 |k+1,x,h=>by
  rcases eJ x (off l k) with h'|h'
  ·obtain ⟨i,y,h1,h2,h3⟩:=aBI h';exact ⟨i,y,by omega,h2,h3⟩
  ·have e:off l (k+1)=off l k+l k:=rfl;exact ⟨k,x - off l k,by omega,by omega,by omega⟩
theorem aLE {l:Nat→Nat} {i j y z:Nat} (hy:y<l i) (hz:z<l j) (h:off l i+y=off l j+z):i=j∧y=z:=by
 have e1:off l (i+1)=off l i+l i:=rfl;have e2:off l (j+1)=off l j+l j:=rfl;rcases Nat.lt_trichotomy i j with h1|h1|h1
 ·have:= @aAM l (i+1) j h1;omega
 ·subst h1;exact ⟨rfl,by omega⟩
 ·have:= @aAM l (j+1) i h1;omega
def cat (l:Nat→Nat) (f:Nat→Nat→Int):Nat→List Int
 |0=>[]
 |k+1=>cat l f k++(List.range (l k)).map (f k)
theorem gG (l:Nat→Nat) (f:Nat→Nat→Int): ∀ k,(cat l f k).length=off l k
 |0=>rfl
 |k+1=>by rw [cat,off,List.length_append,gG l f k];simp
theorem nD {l:Nat→Nat} (f:Nat→Nat→Int): ∀ {k i y:Nat},i<k→y<l i→(cat l f k)[off l i+y]? =some (f i y)
 |0,i,y,h,_=>absurd h (Nat.not_lt_zero _)
 |k+1,i,y,h,hy=>by
  rw [cat];by_cases e:i=k
  ·subst e;rw [List.getElem?_append_right (by rw [gG];omega),gG,Nat.add_sub_cancel_left];simp [hy]
  ·rw [List.getElem?_append_left (by rw [gG];exact jU (by omega) hy)];exact nD f (by omega) hy
theorem aAN {l:Nat→Nat} {f:Nat→Nat→Int} {k:Nat} {v:List Int} (hv:v.length=off l k) (h: ∀ i y,i<k→y<l i→v[off l i+y]? =some (f i y)):v=cat l f k:=by
 refine List.ext_getElem (by rw [gG,hv]) λx h1 h2=>?_;obtain ⟨i,y,hi,hy,rfl⟩:=aBI (hv▸h1);have a:=h i y hi hy;have b:=nD f hi hy;rw [lF h1] at a;rw [lF h2] at b;exact (Option.some.inj a).trans (Option.some.inj b).symm
theorem zG {l:Nat→Nat} {f g:Nat→Nat→Int} {k:Nat} (h: ∀ i y,i<k→y<l i→f i y=g i y):cat l f k=cat l g k:=
 aAN (gG l f k) λi y hi hy=>by rw [nD f hi hy,h i y hi hy]
theorem aHu {l:Nat→Nat} {f:Nat→Nat→Int} {k i y:Nat} (hi:i<k) (hy:y<l i) (v:Int):(cat l f k).set (off l i+y) v=cat l (λa b=>if a=i∧b=y then v else f a b) k:=by
 refine aAN (by rw [List.length_set,gG]) λa b ha hb=>?_;rw [List.getElem?_set];by_cases e:off l i+y=off l a+b
 ·obtain ⟨rfl,rfl⟩:=aLE hy hb e;rw [aX rfl,aX (by rw [gG];exact jU hi hy),aX ⟨rfl,rfl⟩]
 ·rw [aZ e,aZ (by rintro ⟨rfl,rfl⟩;exact e rfl),nD f ha hb]
theorem aJK (l:Nat→Nat) (k:Nat):List.replicate (off l k) (0:Int)=cat l (λ_ _=>0) k:=aAN (by simp) λi y hi hy=>by simp [jU hi hy]
theorem aJL {l:Nat→Nat} {f:Nat→Nat→Int} {k:Nat} : ∀ {n:Nat},k<n→((cat l f n).drop (off l k)).take (l k)=(List.range (l k)).map (f k):=by
 intro n hk;refine List.ext_getElem ?_ λx h1 h2=>?_
 ·have:= @aAM l (k+1) n hk;have e:off l (k+1)=off l k+l k:=rfl;simp [gG];omega
 ·have hx:x<l k:=by simpa using h2
  rw [List.getElem_take,List.getElem_drop];have:=nD f hk hx;rw [lF (by rw [gG];exact jU hk hx)] at this;simp [Option.some.inj this]
theorem aNT {r c:Nat} {g:Nat→Int} {F:Nat→Nat→Int} (h: ∀ y,y<r*c→g y=F (y / c) (y % c)):(List.range (r*c)).map g=bW r c F:=yL λy hy=>h y (List.mem_range.1 hy)
theorem aBv {r c y:Nat} (h:y<r*c):y / c<r∧y % c<c:=by
 have hc:0<c:=by rcases Nat.eq_zero_or_pos c with rfl|h';simp at h;exact h'
 exact ⟨Nat.div_lt_of_lt_mul (by rw [Nat.mul_comm];exact h),Nat.mod_lt _ hc⟩
theorem vJ {c y:Nat} :y / c*c+y % c=y:=by rw [Nat.mul_comm];exact Nat.div_add_mod y c
theorem aNU {n:Nat} {L:List Nat} (hinc: ∀ i k,i<k→k<L.length→L[i]?.getD 0<L[k]?.getD 0) (hlt: ∀ x∈L,x<n):(vD n L).length +L.length=n:=by
 have key: ∀ t,((List.range t).filter λk=> !L.contains k).length +((List.range t).filter λk=>L.contains k).length=t:=by
  intro t;induction t with
  |zero=>simp
  |succ t ih=>
   rw [List.range_succ,List.filter_append,List.filter_append,List.length_append,List.length_append];cases h:L.contains t <;> simp only [List.filter_cons,List.filter_nil,h,eO,Bool.not_false,fL,if_true,if_false,List.length_cons,List.length_nil] <;> omega
 have e:(List.range n).filter (λk=>L.contains k)=L:=by
  have hL: ∀ i,i<L.length→L[i]?.getD 0<n:=λi hi=>hlt _ (by rw [lF hi];exact List.getElem_mem hi);have hS:((List.range n).filter λk=>L.contains k).Pairwise (· < ·):=List.Pairwise.filter _ List.pairwise_lt_range;refine aGi (λi k hik hk=>?_) hinc (λi hi=>?_) (λj hj=>?_)
  ·have:=List.pairwise_iff_getElem.1 hS i k (by omega) hk hik;rw [lF (by omega),lF hk];exact this
  ·have hm:=List.getElem_mem hi;rw [List.mem_filter] at hm;have h2:=List.contains_iff_mem.1 hm.2;obtain ⟨j,hj,he⟩:=List.mem_iff_getElem.1 h2;refine ⟨j,hj,?_⟩;rw [lF hj,lF hi];exact he
  ·have hm:L[j]∈(List.range n).filter λk=>L.contains k:=by
    rw [List.mem_filter];exact ⟨List.mem_range.2 (hlt _ (List.getElem_mem hj)),List.contains_iff_mem.2 (List.getElem_mem hj)⟩
   obtain ⟨i,hi,he⟩:=List.mem_iff_getElem.1 hm;refine ⟨i,hi,?_⟩;rw [lF hj,lF hi];exact he
 have:=key n;rw [e] at this;exact this
end
noncomputable section
def sV (r:Rp) (i:Nat):Nat:=(r.q.src[i]?.getD 0).toNat
def tV (r:Rp) (i:Nat):Nat:=(r.q.tgt[i]?.getD 0).toNat
def aF (r:Rp) (i:Nat):Nat→Nat→Int:=λj k=>(r.maps[i]?.getD ⟨0,0,[]⟩).cells[j*dN r (sV r i)+k]?.getD 0
structure Rv (r:Rp):Prop where
 hp:tX r.p=true
 n5:r.dims.length≤5
 d: ∀ k,k<r.dims.length→r.dims[k]?.getD 0=(dN r k:Int)∧dN r k≤4
 e6:r.q.src.length≤6
 tl:r.q.tgt.length=r.q.src.length
 ml:r.maps.length=r.q.src.length
 s: ∀ i,i<r.q.src.length→r.q.src[i]?.getD 0=(sV r i:Int)∧sV r i<r.dims.length
 t: ∀ i,i<r.q.src.length→r.q.tgt[i]?.getD 0=(tV r i:Int)∧tV r i<r.dims.length
 m: ∀ i,i<r.q.src.length→r.maps[i]?.getD ⟨0,0,[]⟩=⟨dN r (tV r i),dN r (sV r i),bW (dN r (tV r i)) (dN r (sV r i)) (aF r i)⟩∧InP r.p (dN r (tV r i)) (dN r (sV r i)) (aF r i)
theorem aOu {r:Rp} (h:aAn r=true):Rv r:=by
 obtain ⟨hp,hD,hml,hM⟩:=aFn h;obtain ⟨hQ,hd1,hd2,_⟩:=vI hD;obtain ⟨n,hn,hn1,hn5,hq1,hq2,hq3,hq4⟩:=aAm hQ;have hdl:r.dims.length=n:=by omega
 have hd: ∀ k,k<r.dims.length→r.dims[k]?.getD 0=(dN r k:Int)∧dN r k≤4:=by
  intro k hk;have:=hd2 _ (tI 0 hk);unfold dN;omega
 have hs: ∀ i,i<r.q.src.length→r.q.src[i]?.getD 0=(sV r i:Int)∧sV r i<r.dims.length:=by
  intro i hi;have:=hq3 _ (tI 0 hi);unfold sV;omega
 have ht: ∀ i,i<r.q.src.length→r.q.tgt[i]?.getD 0=(tV r i:Int)∧tV r i<r.dims.length:=by
  intro i hi;have:=hq4 _ (tI 0 (show i<r.q.tgt.length by omega));unfold tV;omega
 refine ⟨hp,by omega,hd,hq2,by omega,hml,hs,ht,λi hi=>?_⟩;obtain ⟨g1,g2,g3⟩:=hM i (by omega);rw [show (r.q.src[i]?.getD 0).toNat=sV r i from rfl,(hd _ (hs i hi).2).1] at g2;rw [show (r.q.tgt[i]?.getD 0).toNat=tV r i from rfl,(hd _ (ht i hi).2).1] at g3;obtain ⟨_,a,b,F,ha,hb,he,hF⟩:=aKE g1;have ea:a=dN r (tV r i):=by rw [he] at g3;simp only at g3;omega
 have eb:b=dN r (sV r i):=by rw [he] at g2;simp only at g2;omega
 have em: ∀ j k,j<a→k<b→aF r i j k=F j k:=by
  intro j k hj hk;unfold aF;rw [he,←eb];simp only;rw [kA F hj hk];rfl
 subst ea;subst eb;rw [he];refine ⟨?_,λj k hj hk=>by rw [em j k hj hk];exact hF j k hj hk⟩;rw [cE em]
structure Fit (a b:Rp):Prop where
 ra:Rv a
 rb:Rv b
 pe:b.p=a.p
 qe:b.q=a.q
 ne:b.dims.length=a.dims.length
theorem aPT {a b:Rp} (h1:aAn a=true) (h2:aAn b=true) (hp:a.p=b.p) (hq:a.q=b.q):Fit a b:=by
 refine ⟨aOu h1,aOu h2,hp.symm,hq.symm,?_⟩;have e1:=(vI (aFn h1).2.1).2.1;have e2:=(vI (aFn h2).2.1).2.1;rw [hq] at e1;omega
theorem Fit.sV {a b:Rp} (h:Fit a b) (i:Nat):sV b i=sV a i:=by unfold Proofs.YtghechfdejhapaaGreat.sV;rw [h.qe]
theorem Fit.tV {a b:Rp} (h:Fit a b) (i:Nat):tV b i=tV a i:=by unfold Proofs.YtghechfdejhapaaGreat.tV;rw [h.qe]
def lV (a b:Rp) (v:Nat):Nat:=dN b v*dN a v
def lE (a b:Rp) (i:Nat):Nat:=dN b (tV a i)*dN a (sV a i)
theorem aKK {l:Nat→Nat} {c:Nat} : ∀ {k:Nat},(∀ i,i<k→l i≤c)→off l k≤c*k
 |0,_=>Nat.zero_le _
 |k+1,h=>by
  have h1:=aKK (c:=c) (k:=k) λi hi=>h i (by omega);have h2:=h k (by omega);show off l k+l k≤c*(k+1);rw [Nat.mul_succ];omega
theorem Fit.lV {a b:Rp} (h:Fit a b) {v:Nat} (hv:v<a.dims.length):lV a b v≤16:=Nat.mul_le_mul (h.rb.d v (by rw [h.ne];exact hv)).2 (h.ra.d v hv).2
theorem Fit.lE {a b:Rp} (h:Fit a b) {i:Nat} (hi:i<a.q.src.length):lE a b i≤16:=Nat.mul_le_mul (h.rb.d _ (by rw [h.ne];exact (h.ra.t i hi).2)).2 (h.ra.d _ (h.ra.s i hi).2).2
theorem Fit.offV {a b:Rp} (h:Fit a b) {v:Nat} (hv:v≤a.dims.length):off (Proofs.YtghechfdejhapaaGreat.lV a b) v≤80:=by
 have:=aKK (l:=Proofs.YtghechfdejhapaaGreat.lV a b) (c:=16) (k:=v) λi hi=>h.lV (by omega);have:=h.ra.n5;omega
theorem Fit.offE {a b:Rp} (h:Fit a b) {i:Nat} (hi:i≤a.q.src.length):off (Proofs.YtghechfdejhapaaGreat.lE a b) i≤96:=by
 have:=aKK (l:=Proofs.YtghechfdejhapaaGreat.lE a b) (c:=16) (k:=i) λj hj=>h.lE (by omega);have:=h.ra.e6;omega
theorem qB {α:Type} {f:Nat→α} {n k:Nat} (h:k<n):dF ((List.range n).map f) (k:Int)=some (f k):=by rw [cV (by simp;exact h)];simp
theorem tQ {α:Type} {f:Nat→α} {k:Nat} :(List.range k).map f++[f k]=(List.range (k+1)).map f:=by rw [List.range_succ,List.map_append];rfl
theorem aHv {a b:Rp} (h:Fit a b):pW a b=some ((List.range a.dims.length).map λv=>(⟨dN b v,dN a v,bW (dN b v) (dN a v) λ_ _=>0⟩:Mt)):=by
 have n5:=h.ra.n5;unfold pW;rw [dL (r:=(List.range a.dims.length).map λv=>(⟨dN b v,dN a v,bW (dN b v) (dN a v) λ_ _=>0⟩:Mt)) (λk=>((List.range k).map λv=>(⟨dN b v,dN a v,bW (dN b v) (dN a v) λ_ _=>0⟩:Mt),(k:Int))) a.dims.length (by simp) (λk hk=>?_) (λ_=>?_),aA]
 ·have hkb:k<b.dims.length:=by rw [h.ne];exact hk
  unfold rI;simp only;rw [jS hk,aN,uM 0 hk,aA,uM 0 hkb,aA,(h.ra.d k hk).1,(h.rb.d k hkb).1,aHl (sq (h.rb.d k hkb).2 (h.ra.d k hk).2),aA,bK (by simp;omega),aN,cB hk (by omega),tQ (f:=λv=>(⟨dN b v,dN a v,bW (dN b v) (dN a v) λ_ _=>0⟩:Mt))]
 ·unfold rI;simp only;rw [mM (bN _),aY]
theorem aFs {a b:Rp} (h:Fit a b):lM a b=some ((List.range a.q.src.length).map λi=>(⟨dN b (tV a i),dN a (sV a i),bW (dN b (tV a i)) (dN a (sV a i)) λ_ _=>0⟩:Mt)):=by
 have e6:=h.ra.e6;have tl:=h.ra.tl;unfold lM;rw [dL (r:=(List.range a.q.src.length).map λi=>(⟨dN b (tV a i),dN a (sV a i),bW (dN b (tV a i)) (dN a (sV a i)) λ_ _=>0⟩:Mt)) (λk=>((List.range k).map λi=>(⟨dN b (tV a i),dN a (sV a i),bW (dN b (tV a i)) (dN a (sV a i)) λ_ _=>0⟩:Mt),(k:Int))) a.q.src.length (by simp) (λk hk=>?_) (λ_=>?_),aA]
 ·obtain ⟨s1,s2⟩:=h.ra.s k hk;obtain ⟨t1,t2⟩:=h.ra.t k hk;have t3:tV a k<b.dims.length:=by rw [h.ne];exact t2
  unfold iN;simp only;rw [jS hk,aN,uM 0 hk,aA,uM 0 (by omega),aA,t1,uM 0 t3,aA,s1,uM 0 s2,aA,(h.ra.d _ s2).1,(h.rb.d _ t3).1,aHl (sq (h.rb.d _ t3).2 (h.ra.d _ s2).2),aA,bK (by simp;omega),aN,cB hk (by omega),tQ (f:=λi=>(⟨dN b (tV a i),dN a (sV a i),bW (dN b (tV a i)) (dN a (sV a i)) λ_ _=>0⟩:Mt))]
 ·unfold iN;simp only;rw [mM (bN _),aY]
theorem aKL {k:Nat} {r c:Nat→Int} {l:Nat→Nat} {f:Nat→Nat→Int} (hk:k≤1048576) (hl:off l k≤1048576):kL ((List.range k).map λv=>(⟨r v,c v,(List.range (l v)).map (f v)⟩:Mt))=some (cat l f k):=by
 unfold kL;rw [dL (r:=cat l f k) (λj=>(cat l f j,(j:Int))) k (by simp [cat]) (λj hj=>?_) (λ_=>?_),aA]
 ·unfold tK;simp only;have h1:= @aAM l (j+1) k hj;have e:off l (j+1)=off l j+l j:=rfl;rw [dB,List.length_range,jS hj,aN,qB hj,aA];simp only;rw [gG,dB,List.length_range,bK (by omega),aN,cB hj (by omega)];rfl
 ·unfold tK;simp only;rw [dB,List.length_range,mM (bN _),aY]
theorem aJM {k:Nat} {r c:Nat→Int} {z:Nat→List Int} {l:Nat→Nat} {f:Nat→Nat→Int} (hk:k≤1048576) (hl:off l k≤1048576) (hz: ∀ v,v<k→(z v).length=l v):nU ((List.range k).map λv=>(⟨r v,c v,z v⟩:Mt)) (cat l f k)=some ((List.range k).map λv=>(⟨r v,c v,(List.range (l v)).map (f v)⟩:Mt)):=by
 unfold nU;rw [dL (r:=(List.range k).map λv=>(⟨r v,c v,(List.range (l v)).map (f v)⟩:Mt)) (λj=>((cat l f k).drop (off l j),(List.range j).map (λv=>(⟨r v,c v,(List.range (l v)).map (f v)⟩:Mt)),(j:Int))) k (by simp [off]) (λj hj=>?_) (λ_=>?_),aA]
 ·unfold pX;simp only;have h1:= @aAM l (j+1) k hj;have e:off l (j+1)=off l j+l j:=rfl;rw [dB,List.length_range,jS hj,aN,qB hj,aA];simp only;rw [hz j hj,List.length_drop,gG];simp only [dZ,Int.toNat_zero,List.drop_zero,Nat.sub_zero];rw [aJL hj];unfold tB;rw [bK (by omega:(0:Int)≤((l j:Nat):Int)),bK (by omega:((l j:Nat):Int)≤((off l k - off l j:Nat):Int))];simp only [decide_true,Bool.and_self,aN,Int.le_refl];have q1:decide (((List.range (l j)).map (f j)).length ≤1048576)=true:=bK (by simp only [dB,List.length_range];omega);have q2:decide (((List.range j).map λv=>(⟨r v,c v,(List.range (l v)).map (f v)⟩:Mt)).length +1≤4294967296)=true:=bK (by simp only [dB,List.length_range];omega);simp only [q1,Bool.and_self,aN,aA];rw [q2,aN,cB hj (by omega),tQ (f:=λv=>(⟨r v,c v,(List.range (l v)).map (f v)⟩:Mt)),List.drop_drop,List.take_of_length_le (by simp [gG];omega)];rfl
 ·unfold pX;simp only;rw [dB,List.length_range,mM (bN _),aY]
theorem aPU {p:Int} (hp:tX p=true) {r c:Nat} (hN:r*c≤1048576) {r' c':Int} {F G:Nat→Nat→Int} (hF:InP p r c F) (hG:InP p r c G) {k:Int} (hk:0≤k∧k≤5):
  xX p ⟨r,c,bW r c F⟩ k ⟨r',c',bW r c G⟩=some ⟨r,c,bW r c λi j=>(F i j+k*G i j) % p⟩:=by
 have e1: ∀ H:Nat→Nat→Int,bW r c H=bW 1 (r*c) (λ_ y=>H (y / c) (y % c)):=by
  intro H;unfold bW;rw [Nat.one_mul];refine yL λy hy=>?_;rw [Nat.mod_eq_of_lt (List.mem_range.1 hy)]
 have e2:bW r c G=hJ (r*c) (λy=>G (y / c) (y % c)):=rfl;unfold xX eX tB;simp only;rw [eD,bK hN,aN,aA,aA];simp only;have:=aFh hp (r:=1) (c:=r*c) (i:=0) hN (by omega) (F:=λ_ y=>F (y / c) (y % c)) (g:=λy=>G (y / c) (y % c)) hk (λy hy=>hF _ _ (aBv hy).1 (aBv hy).2) (λy hy=>hG _ _ (aBv hy).1 (aBv hy).2);rw [Nat.zero_mul,←e2,←e1] at this;rw [eD,this,aA,eD,Nat.one_mul,bK rfl,aN,e1 (λi j=>(F i j+k*G i j) % p)];congr 2;refine cE λa y ha hy=>?_;unfold aFg;rw [aX (by omega)]
def aFt (a b:Rp) (P:Nat→Nat→Nat→Int) (i:Nat):Nat→Nat→Int:=λr k=>
 (wJ a.p (dN b (sV a i)) (aF b i) (P (sV a i)) r k+(a.p - 1)*wJ a.p (dN a (tV a i)) (P (tV a i)) (aF a i) r k) % a.p
theorem aHw {a b:Rp} (h:Fit a b) {P:Nat→Nat→Nat→Int} (hP: ∀ v,v<a.dims.length→InP a.p (dN b v) (dN a v) (P v)):
  oG a b ((List.range a.dims.length).map λv=>(⟨dN b v,dN a v,bW (dN b v) (dN a v) (P v)⟩:Mt))=some ((List.range a.q.src.length).map λi=>(⟨dN b (tV a i),dN a (sV a i),bW (dN b (tV a i)) (dN a (sV a i)) (aFt a b P i)⟩:Mt)):=by
 have e6:=h.ra.e6;have tl:=h.ra.tl;have hb:=eG h.ra.hp;unfold oG;rw [dL (r:=(List.range a.q.src.length).map λi=>(⟨dN b (tV a i),dN a (sV a i),bW (dN b (tV a i)) (dN a (sV a i)) (aFt a b P i)⟩:Mt)) (λk=>((List.range k).map λi=>(⟨dN b (tV a i),dN a (sV a i),bW (dN b (tV a i)) (dN a (sV a i)) (aFt a b P i)⟩:Mt),(k:Int))) a.q.src.length (by simp) (λk hk=>?_) (λ_=>?_),aA]
 ·obtain ⟨s1,s2⟩:=h.ra.s k hk;obtain ⟨t1,t2⟩:=h.ra.t k hk;have s3:sV a k<b.dims.length:=by rw [h.ne];exact s2
  have t3:tV a k<b.dims.length:=by rw [h.ne];exact t2
  have hkb:k<b.q.src.length:=by rw [h.qe];exact hk
  obtain ⟨m1,m2⟩:=h.ra.m k hk;obtain ⟨g1,g2⟩:=h.rb.m k hkb;rw [h.sV,h.tV] at g1 g2;rw [h.pe] at g2;have da:=h.ra.d _ s2;have da2:=h.ra.d _ t2;have db:=h.rb.d _ s3;have db2:=h.rb.d _ t3;unfold kM;simp only;rw [jS hk,aN,uM 0 hk,aA,uM ⟨0,0,[]⟩ (by rw [h.rb.ml];exact hkb),aA,g1,s1,qB s2,aA];rw [aKy h.ra.hp (sq db2.2 db.2) (sq db.2 da.2) (sq db2.2 da.2) (by omega) (by omega) (by omega) g2 (hP _ s2),aA,uM 0 (by omega),aA,t1,qB t2,aA,uM ⟨0,0,[]⟩ (by rw [h.ra.ml];exact hk),aA,m1];rw [aKy h.ra.hp (sq db2.2 da2.2) (sq da2.2 da.2) (sq db2.2 da.2) (by omega) (by omega) (by omega) (hP _ t2) m2,aA,dC (by omega)];rw [aPU h.ra.hp (sq db2.2 da.2) (aKx h.ra.hp _ _ _ _ _) (aKx h.ra.hp _ _ _ _ _) (by omega),aA,bK (by simp;omega),aN,cB hk (by omega)];have:=tQ (f:=λi=>(⟨dN b (tV a i),dN a (sV a i),bW (dN b (tV a i)) (dN a (sV a i)) (aFt a b P i)⟩:Mt)) (k:=k);rw [←this];rfl
 ·unfold kM;simp only;rw [mM (bN _),aY]
theorem aGN {R N:Nat} (hN:R*N≤1048576) (h1:R≤1048576) (h2:N≤1048576) (M:Nat→Nat→Int):mX R ((List.range N).map λk=>hJ R λi=>M i k)=some ⟨R,N,bW R N M⟩:=by
 unfold mX;rw [dB,List.length_range,aHl hN,aA];simp only;rw [dL (r:=bW R N M) (λk=>(bW R N (λi j=>if j<k then M i j else 0),(k:Int))) N (by simp) (λk hk=>?_) (λ_=>?_),aA]
 ·unfold jM;simp only;rw [dB,List.length_range,jS hk,aN,qB hk,aA];rw [dL (r:=bW R N (λi j=>if j<k+1 then M i j else 0)) (λx=>(bW R N (λi j=>if j<k∨(j=k∧i<x) then M i j else 0),(x:Int))) R (by simp) (λx hx=>?_) (λ_=>?_),aA,cB hk (by omega)]
  ·unfold jL;simp only;rw [eV,jS hx,aN,aAJ _ hx,aA,atT hN hx hk,aA,aLw hN hx hk,cB hx (by omega)];congr 3;refine cE λi j hi hj=>?_;simp only [aDQ];by_cases e:i=x∧j=k
   ·rw [aX e,aX (by omega),e.1,e.2]
   ·rw [aZ e];by_cases e2:j<k∨j=k∧i<x
    ·rw [aX e2,aX (by omega)]
    ·rw [aZ e2,aZ (by omega)]
  ·unfold jL;simp only;rw [eV,mM (bN _),aY];congr 2;refine cE λi j hi hj=>?_;by_cases e:j<k+1
   ·rw [aX e,aX (by omega)]
   ·rw [aZ e,aZ (by omega)]
 ·unfold jM;simp only;rw [dB,List.length_range,mM (bN _),aY];congr 2;exact cE λi j hi hj=>by rw [aX hj]
def eF (a b:Rp) (i r k v j l:Nat):Int:=((if sV a i=v∧k=l then aF b i r j else 0) - (if tV a i=v∧r=j then aF a i l k else 0)) % a.p
def e2 (a b:Rp) (i y v z:Nat):Int:=eF a b i (y / dN a (sV a i)) (y % dN a (sV a i)) v (z / dN a v) (z % dN a v)
def mE (a b:Rp):Nat→Nat→Int:=λx k=>(cat (lE a b) (λi y=>(cat (lV a b) (e2 a b i y) a.dims.length)[k]?.getD 0) a.q.src.length)[x]?.getD 0
def nE (a b:Rp):Nat:=off (lE a b) a.q.src.length
def nV (a b:Rp):Nat:=off (lV a b) a.dims.length
theorem aHF {a b:Rp} (h:Fit a b):InP a.p (nE a b) (nV a b) (mE a b):=by
 intro x k hx hk;obtain ⟨i,y,hi,hy,rfl⟩:=aBI hx;obtain ⟨v,z,hv,hz,rfl⟩:=aBI hk;unfold mE;rw [nD _ hi hy,lY,nD _ hv hz,lY];exact tJ h.ra.hp
theorem aCx (F G:Nat→Nat→Int) (i j:Nat): ∀ k,aAZ F G i j k=sN (λt=>F i t*G t j) k
 |0=>rfl
 |k+1=>by rw [aAZ,sN,aCx F G i j k]
def unP (a:Rp) (v0 z0:Nat):Nat→Nat→Nat→Int:=λv j l=>if v=v0∧j*dN a v+l=z0 then 1 else 0
theorem aPV {a:Rp} (hp:tX a.p=true) (v0 z0 v m n:Nat):InP a.p m n (unP a v0 z0 v):=by
 have hb:=eG hp;intro i j _ _;unfold unP;split <;> omega
theorem aJN {a b:Rp} (h:Fit a b) {v0 z0 i r k:Nat} (hv:v0<a.dims.length) (hz:z0<lV a b v0) (hi:i<a.q.src.length) (hr:r<dN b (tV a i)) (hk:k<dN a (sV a i)):
  aFt a b (unP a v0 z0) i r k=eF a b i r k v0 (z0 / dN a v0) (z0 % dN a v0):=by
 have hb:=eG h.ra.hp;obtain ⟨hj0,hl0⟩:=aBv hz
 have key: ∀ v j l,l<dN a v→(v=v0∧j*dN a v+l=z0↔v=v0∧j=z0 / dN a v0∧l=z0 % dN a v0):=by
  intro v j l hl;constructor
  ·rintro ⟨rfl,rfl⟩;exact ⟨rfl,(yE hl).symm,(yF hl).symm⟩
  ·rintro ⟨rfl,rfl,rfl⟩;exact ⟨rfl,vJ⟩
 have e1:wJ a.p (dN b (sV a i)) (aF b i) (unP a v0 z0 (sV a i)) r k=(if sV a i=v0∧k=z0 % dN a v0 then aF b i r (z0 / dN a v0) else 0) % a.p:=by
  unfold wJ;rw [aCx];by_cases e:sV a i=v0∧k=z0 % dN a v0
  ·rw [aX e,aBm (j:=z0 / dN a v0) (by rw [e.1];exact hj0)]
   ·unfold unP;rw [aX ((key _ _ _ hk).2 ⟨e.1,rfl,e.2⟩),Int.mul_one]
   ·intro t ht htj;unfold unP;rw [aZ λg=>htj ((key _ _ _ hk).1 g).2.1,Int.mul_zero]
  ·rw [aZ e,fX (g:=λ_=>0),aAD];intro t ht;unfold unP;rw [aZ λg=>e ⟨((key _ _ _ hk).1 g).1,((key _ _ _ hk).1 g).2.2⟩,Int.mul_zero]
 have e2:wJ a.p (dN a (tV a i)) (unP a v0 z0 (tV a i)) (aF a i) r k=(if tV a i=v0∧r=z0 / dN a v0 then aF a i (z0 % dN a v0) k else 0) % a.p:=by
  unfold wJ;rw [aCx];by_cases e:tV a i=v0∧r=z0 / dN a v0
  ·rw [aX e,aBm (j:=z0 % dN a v0) (by rw [e.1];exact hl0)]
   ·unfold unP;rw [aX ((key _ _ _ (by rw [e.1];exact hl0)).2 ⟨e.1,e.2,rfl⟩),Int.one_mul]
   ·intro t ht htj;unfold unP;rw [aZ λg=>htj ((key _ _ _ ht).1 g).2.2,Int.zero_mul]
  ·rw [aZ e,fX (g:=λ_=>0),aAD];intro t ht;unfold unP;rw [aZ λg=>e ⟨((key _ _ _ ht).1 g).1,((key _ _ _ ht).1 g).2.1⟩,Int.zero_mul]
 unfold aFt eF;rw [e1,e2];generalize (if sV a i=v0∧k=z0 % dN a v0 then aF b i r (z0 / dN a v0) else 0)=x;generalize (if tV a i=v0∧r=z0 / dN a v0 then aF a i (z0 % dN a v0) k else 0)=y;rw [show x % a.p+(a.p - 1)*(y % a.p)=(x % a.p - y % a.p)+a.p*(y % a.p) by rw [Int.sub_mul];omega,Int.add_mul_emod_self_left];exact (Int.sub_emod x y a.p).symm
theorem aCy {a b:Rp} (h:Fit a b):kO a b=some ⟨nE a b,nV a b,bW (nE a b) (nV a b) (mE a b)⟩:=by
 have n5:=h.ra.n5;have e6:=h.ra.e6;have bV:=h.offV (bN _);have bE:=h.offE (bN _);unfold kO;rw [aHv h,aA];have z1:kL ((List.range a.dims.length).map λv=>(⟨dN b v,dN a v,bW (dN b v) (dN a v) λ_ _=>0⟩:Mt))=some (cat (lV a b) (λ_ _=>0) a.dims.length):=aKL (l:=lV a b) (f:=λ_ _=>0) (by omega) (by omega);have z2:kL ((List.range a.q.src.length).map λi=>(⟨dN b (tV a i),dN a (sV a i),bW (dN b (tV a i)) (dN a (sV a i)) λ_ _=>0⟩:Mt))=some (cat (lE a b) (λ_ _=>0) a.q.src.length):=aKL (l:=lE a b) (f:=λ_ _=>0) (by omega) (by omega);rw [z1,aA];rw [dL (r:=(List.range (nV a b)).map λk=>hJ (nE a b) λx=>mE a b x k) (λk=>((List.range k).map (λk=>hJ (nE a b) λx=>mE a b x k),(k:Int))) (nV a b) (by simp) (λk hk=>?_) (λ_=>?_),aA,aFs h,aA,z2,aA,gG]
 ·have:=aGN (R:=nE a b) (N:=nV a b) (Nat.le_trans (Nat.mul_le_mul bE bV) (by decide)) (by unfold nE;omega) (by unfold nV;omega) (mE a b);unfold nE at this ⊢;rw [this,aA]
 ·obtain ⟨v0,z0,hv0,hz0,ek⟩:=aBI hk;unfold kN;simp only [gG];rw [show off (lV a b) a.dims.length=nV a b from rfl,jS hk,aN,bK (by omega),bK (by unfold nV;omega:((nV a b:Nat):Int)≤1048576),Bool.and_self,aN,dZ,dZ,cV (by simp;exact hk),aA]
  have eu:(List.replicate (nV a b) (0:Int)).set k 1=cat (lV a b) (λv z=>if v=v0∧z=z0 then 1 else 0) a.dims.length:=by
   unfold nV;rw [aJK,ek,aHu hv0 hz0]
  rw [eu,aJM (l:=lV a b) (r:=λv=>(dN b v:Int)) (c:=λv=>(dN a v:Int)) (z:=λv=>bW (dN b v) (dN a v) λ_ _=>0) (by omega) (by omega) (λv _=>eD _ _ _),aA]
  have eb:((List.range a.dims.length).map λv=>(⟨dN b v,dN a v,(List.range (lV a b v)).map (λz=>if v=v0∧z=z0 then (1:Int) else 0)⟩:Mt))=(List.range a.dims.length).map λv=>(⟨dN b v,dN a v,bW (dN b v) (dN a v) (unP a v0 z0 v)⟩:Mt):=by
   refine yL λv hv=>?_;congr 1;refine aNT λy hy=>?_;unfold unP;rw [vJ]
  rw [eb,aHw h (λv _=>aPV h.ra.hp _ _ _ _ _),aA];have ef:kL ((List.range a.q.src.length).map λi=>(⟨dN b (tV a i),dN a (sV a i),bW (dN b (tV a i)) (dN a (sV a i)) (aFt a b (unP a v0 z0) i)⟩:Mt))=some (cat (lE a b) (λi y=>aFt a b (unP a v0 z0) i (y / dN a (sV a i)) (y % dN a (sV a i))) a.q.src.length):=aKL (l:=lE a b) (f:=λi y=>aFt a b (unP a v0 z0) i (y / dN a (sV a i)) (y % dN a (sV a i))) (by omega) (by omega);rw [ef,aA,bK (by simp;unfold nV at hk;omega),aN,cB hk (by unfold nV;omega),←tQ (f:=λk=>hJ (nE a b) λx=>mE a b x k)];congr 5;symm;refine aAN (by rw [eV];rfl) λi y hi hy=>?_;have hx:off (lE a b) i+y<nE a b:=jU hi hy;unfold hJ;rw [List.getElem?_map,List.getElem?_range hx,Option.map_some];congr 1;obtain ⟨q1,q2⟩:=aBv hy;rw [aJN h hv0 hz0 hi q1 q2];unfold mE;rw [nD _ hi hy,lY,ek,nD _ hv0 hz0,lY];rfl
 ·unfold kN;simp only [gG];rw [show off (lV a b) a.dims.length=nV a b from rfl,mM (bN _),aY]
theorem aLF {a b:Rp} (h:Fit a b):Tb a.p (nE a b) (nV a b) (mE a b):=by
 have bV:=h.offV (bN _);have bE:=h.offE (bN _);exact ⟨h.ra.hp,Nat.le_trans (Nat.mul_le_mul bE bV) (by decide),by unfold nE;omega,by unfold nV;omega,aHF h⟩
def dR (a b:Rp):Nat:=nV a b - rkF a.p (nE a b) (nV a b) (mE a b)
theorem aQH {p:Int} {m n:Nat} {F:Nat→Nat→Int} :rkF p m n F≤n:=aAC n
theorem aCz {a b:Rp} (h:Fit a b):lB a b=some (dR a b:Int):=by
 have bV:=h.offV (bN _);unfold lB;rw [aCy h,aA,aFm (aLF h),aA];have:= @aQH a.p (nE a b) (nV a b) (mE a b);have e:((cP a.p (nE a b) (mE a b) (nV a b)).2.length)=rkF a.p (nE a b) (nV a b) (mE a b):=rfl;simp only;rw [e,dC (by unfold nV at*;omega)];unfold dR;congr 1;omega
end
noncomputable section
theorem aNV {q:Qv} (h:bQ q):uV q=some q:=by
 obtain ⟨h1,h2,_⟩:=h;unfold bI at h1 h2;unfold uV;rw [bK (by simp;omega),aN,bK (by simp;omega),aN];simp
end
end Go.Proofs.YtghechfdejhapaaGreat

/-
  Several texts of the claim in one.
-/
import Derived.Test.YtdoejgaomlmgeaaGreatDoorH7
set_option linter.unusedVariables false
set_option linter.unusedSimpArgs false
namespace Go.Proofs.YtdoejgaomlmgeaaGreatDoor
open Go.RowKit
noncomputable section
def gB (L:List Nat):List Int:=L.map λt:Nat=>(t:Int)
theorem dG (L:List Nat):(gB L).length=L.length:=by simp [gB]
theorem aHm {p:Int} {m:Nat} {F:Nat→Nat→Int} {j:Nat} (h:(bF p m F j).2.length=m): ∀ d,bF p m F (j+d)=bF p m F j
 |0=>rfl
 |d+1=>by
  show gI p m (bF p m F (j+d)) (j+d)=_;rw [aHm h d];unfold gI;rw [aU];rw [h,Nat.sub_self];rfl
def aBt (F:Nat→Nat→Int) (a b x:Nat):Nat→Nat→Int:=λi y=>if y<x then vQ F a b i y else F i y
def zJ (p:Int) (F:Nat→Nat→Int) (a:Nat) (s:Int) (x:Nat):Nat→Nat→Int:=λi y=>if y<x then rH p F a s i y else F i y
def iX (p:Int) (F:Nat→Nat→Int) (a j x:Nat):Nat→Nat→Int:=λi c=>if i<x then wU p F a j i c else F i c
theorem aJg {r c a b x:Nat} (F:Nat→Nat→Int):bT r c (aDB (aDB (aBt F a b x) a x (F b x)) b x (F a x))=bT r c (aBt F a b (x+1)):=by
 refine cC λi y hi hy=>?_;simp only [aDB,aBt,vQ];by_cases e:y=x
 ·subst e;simp only [and_true,Nat.lt_irrefl,if_false,Nat.lt_succ_self,if_true];by_cases e1:i=b
  ·rw [aU e1];by_cases e2:i=a
   ·rw [aU e2];subst e1;rw [e2]
   ·rw [aV e2,aU e1]
  ·rw [aV e1];by_cases e2:i=a
   ·rw [aU e2,aU e2]
   ·rw [aV e2,aV e2,aV e1]
 ·rw [aV (by omega),aV (by omega)];by_cases e1:y<x
  ·rw [aU e1,aU (show y<x+1 by omega)]
  ·rw [aV e1,aV (show ¬ y<x+1 by omega)]
theorem aCv {F:Nat→Nat→Int} {a b x i:Nat} :aBt F a b x i x=F i x:=by simp [aBt]
theorem aHn {p:Int} {F:Nat→Nat→Int} {a x i:Nat} {s:Int} :zJ p F a s x i x=F i x:=by simp [zJ]
theorem aHo {p:Int} {r c a x:Nat} {s:Int} (F:Nat→Nat→Int):bT r c (aDB (zJ p F a s x) a x ((F a x*s) % p))=bT r c (zJ p F a s (x+1)):=by
 refine cC λi y hi hy=>?_;simp only [aDB,zJ,rH];by_cases e:y=x
 ·subst e;simp only [and_true,Nat.lt_irrefl,if_false,Nat.lt_succ_self,if_true]
 ·rw [aV (by omega)];by_cases e1:y<x
  ·rw [aU e1,aU (show y<x+1 by omega)]
  ·rw [aV e1,aV (show ¬ y<x+1 by omega)]
theorem aPE {p r:Int} (hp:iR p=true) (hr:0≤r∧r<p):0≤aBH p r∧aBH p r<p:=aOl hp hr _
theorem aMP {p:Int} {m n k r:Nat} {F:Nat→Nat→Int} (h:wT p m n F) (hk:k<m) (hr:r<m):wT p m n (vQ F k r):=by
 intro i c hi hc;unfold vQ;split
 ·exact h r c hr hc
 ·split
  ·exact h k c hk hc
  ·exact h i c hi hc
theorem aJh {p:Int} (hp:iR p=true) {m n k:Nat} {s:Int} {F:Nat→Nat→Int} (h:wT p m n F):wT p m n (rH p F k s):=by
 intro i c hi hc;unfold rH;split
 ·exact zG hp
 ·exact h i c hi hc
theorem aQA {p:Int} (hp:iR p=true) {m n k j x:Nat} {F:Nat→Nat→Int} (h:wT p m n F):wT p m n (iX p F k j x):=by
 intro i c hi hc;unfold iX wU;split
 ·split
  ·rename_i h1 h2;subst h2;exact h _ c hi hc
  ·exact zG hp
 ·exact h i c hi hc
theorem aRo {p:Int} (hp:iR p=true) {m n k j x:Nat} {F:Nat→Nat→Int} (hx:x≠k):bT m n (aHi p (iX p F k j x) x (p - F x j) (iX p F k j x k))=bT m n (iX p F k j (x+1)):=by
 refine cC λi c hi hc=>?_;simp only [aHi,iX,wU];by_cases e:i=x
 ·subst e;rw [aU rfl,aV (Nat.lt_irrefl _),aU (Nat.lt_succ_self _),aV hx];simp only [if_true,ite_self];rw [show F i c+(p - F i j)*F k c=(F i c - F i j*F k c)+p*F k c by rw [Int.sub_mul];omega,Int.add_mul_emod_self_left]
 ·rw [aV e];by_cases e1:i<x
  ·rw [aU e1,aU (show i<x+1 by omega)]
  ·rw [aV e1,aV (show ¬ i<x+1 by omega)]
theorem aJi {p:Int} {m n k j:Nat} {F:Nat→Nat→Int} :bT m n (iX p F k j k)=bT m n (iX p F k j (k+1)):=by
 refine cC λi c hi hc=>?_;simp only [iX,wU];by_cases e:i<k
 ·rw [aU e,aU (show i<k+1 by omega)]
 ·rw [aV e];by_cases e1:i=k
  ·subst e1;simp
  ·rw [aV (show ¬ i<k+1 by omega)]
theorem aHp {p:Int} {F:Nat→Nat→Int} {k r j:Nat} :fF p F k r j=wU p (rH p (vQ F k r) k (aBH p (F r j))) k j:=rfl
structure Tb (p:Int) (m n:Nat) (F:Nat→Nat→Int):Prop where
 hp:iR p=true
 hN:m*n≤1048576
 hm:m≤1048576
 hn:n≤1048576
 hi:wT p m n F
theorem aUU {p:Int} {m n:Nat} {F:Nat→Nat→Int} (T:Tb p m n F) {j:Nat} (hj:j<n) (L:List Nat) (hL:L.length≤m) (l:List Int):
  Lp (nR ⟨m,n,l⟩ ((j:Int),bT m n F,gB L)) (((gB L).length:Nat):Int)=some ((jT F j (m - L.length) L.length:Nat):Int):=by
 obtain ⟨hp,hN,hm,hn,hi⟩:=T;have hle:= @aAC F j (m - L.length) L.length;have hz:= @aDa F j (m - L.length) L.length;have hh:= @aCn F j (m - L.length) L.length;generalize jT F j (m - L.length) L.length=r at*;rw [dG];refine cF (λt=>((L.length+t:Nat):Int)) (r - L.length) (by simp) (λt ht=>?_) (λ_=>?_)
 ·unfold nR;simp only
  rw [gC (by omega),aN,aFn hN hm (by omega),aA,tL hN (by omega),wA hN hm (by omega),dJ,dJ,Nat.add_sub_cancel_left,gC hj,gd,aN,Nat.zero_add,dJ,iK _ (by omega) hj,aA,
   hz _ (by omega) (by omega),bC rfl,aN,bK (n:=m) (by omega) (by omega),Nat.add_assoc]
 ·rw [show L.length+(r - L.length)=r by omega];unfold nR;simp only;rcases dV r m with h|h
  ·rw [gC h,aN,aFn hN hm h,aA,tL hN h,wA hN hm h,dJ,dJ,Nat.add_sub_cancel_left,gC hj,gd,aN,Nat.zero_add,dJ,iK _ h hj,aA,
    dM (hh (by omega)),aS]
  ·rw [gS h,aS]
theorem aTQ {p:Int} {m n:Nat} {F:Nat→Nat→Int} (T:Tb p m n F) {j:Nat} (hj:j<n) (L:List Nat) (hL:L.length≤m) (l:List Int):
  nS p ⟨m,n,l⟩ ((j:Int),bT m n F,gB L)=some (.inl (((j+1:Nat):Int),bT m n (gI p m (F,L) j).1,gB (gI p m (F,L) j).2)):=by
 have hpv:=aUU T hj L hL l;obtain ⟨hp,hN,hm,hn,hi⟩:=T;have hb:=dF hp;have hle:= @aAC F j (m - L.length) L.length;unfold nS gI;simp only;rw [gC hj,aN,hpv,aA,bK hj (by omega)];clear hpv;generalize jT F j (m - L.length) L.length=r at*;by_cases hr:r=m
 ·rw [bC (by omega),aN,aU hr]
 ·rw [dM (by omega),aS,aV hr];have hk:L.length<m:=by omega
  have hrm:r<m:=by omega
  simp only [dG];rw [aFn hN hm hk,aA,tL hN hk,wA hN hm hk];simp only [dJ,Nat.add_sub_cancel_left,Nat.zero_add];rw [cF (r:=bT m n (vQ F L.length r)) (λx=>(bT m n (aBt F L.length r x),(x:Int))) n ?_ (λx hx=>?_) (λ_=>?_),aA,gC hj,gd,aN,iK _ hk hj,aA]
  ·have e1:vQ F L.length r L.length j=F r j:=by simp [vQ]
   have hrj:=hi r j hrm hj;rw [e1,aPw hp,aA,Int.emod_eq_of_lt hrj.1 hrj.2];have hs:=aPE hp hrj;rw [aHp];generalize aBH p (F r j)=s at*;have h1:=aMP hi hk hrm;generalize vQ F L.length r=F1 at*;rw [cF (r:=bT m n (rH p F1 L.length s)) (λx=>(bT m n (zJ p F1 L.length s x),(x:Int))) n ?_ (λx hx=>?_) (λ_=>?_),aA]
   ·have h2:=aJh hp (k:=L.length) (s:=s) h1;generalize rH p F1 L.length s=F2 at*;rw [cF (r:=bT m n (wU p F2 L.length j)) (λx=>(bT m n (iX p F2 L.length j x),(x:Int))) m ?_ (λx hx=>?_) (λ_=>?_),aA]
    ·rw [bC (by simp;omega),aN];simp [gB]
    ·congr 1
    ·unfold sA;simp only [dG];rw [gC hx,aN];by_cases hxk:x=L.length
     ·rw [bC (by omega),eC,aS,bK hx (by omega),hxk,aJi]
     ·rw [dM (by omega),Bool.not_false,aN,aFn hN hm hx,aA,aA,tL hN hx,wA hN hm hx,tL hN hk,wA hN hm hk];simp only [dJ,Nat.add_sub_cancel_left,Nat.zero_add];rw [gC hj,gd,aN,iK _ hx hj,aA];have e2:iX p F2 L.length j x x j=F2 x j:=by simp [iX]
      have h3:=h2 x j hx hj;have h4:=aQA hp (k:=L.length) (j:=j) (x:=x) h2;rw [e2,cZ (by omega),aPz hp hn hx hk hxk (by omega) (λb hb=>h4 _ b hx hb) (λb hb=>h4 _ b hk hb),aA,dO,dO,bC rfl,aN,bK hx (by omega),aRo hp hxk]
    ·unfold sA;simp only;rw [gS (bA _),aS];congr 2;exact cC λa b ha hb=>by simp only [iX];rw [aU ha]
   ·congr 1
   ·unfold rZ;simp only [dG];rw [tL hN hk,wA hN hm hk];simp only [dJ,Nat.add_sub_cancel_left,Nat.zero_add];have g1:=h1 _ x hk hx;have g2:=aKi (a:=F1 L.length x) (b:=s) (by omega) (by omega);rw [gC hx,aN,gd,aN,iK _ hk hx,aA,aPy hp,aN,aN,aA,aHn,cZ (by omega),Int.tmod_eq_emod_of_nonneg g2.1,aBJ _ _ hk hx,bK hx (by omega),aHo]
   ·unfold rZ;simp only [dG];rw [tL hN hk,wA hN hm hk];simp only [dJ,Nat.add_sub_cancel_left,Nat.zero_add];rw [gS (bA _),aS];congr 2;exact cC λa b ha hb=>by simp only [zJ];rw [aU hb]
  ·congr 1
  ·unfold rY;simp only [dG];rw [gC hx,aN,aFn hN hm hrm,aA,aA,tL hN hk,wA hN hm hk,tL hN hrm,wA hN hm hrm];simp only [dJ,Nat.add_sub_cancel_left,Nat.zero_add];rw [gC hx,gd,aN,iK _ hrm hx,aA,aN,iK _ hk hx,aA,aN,aA,aN,aBJ _ _ hk hx,iK _ hrm hx,aA,aBJ _ _ hrm hx,aCv,aCv,bK hx (by omega),aJg]
  ·unfold rY;simp only;rw [gS (bA _),aS];congr 2;exact cC λa b ha hb=>by simp only [aBt];rw [aU hb]
theorem aBu {p:Int} {m n:Nat} {F:Nat→Nat→Int} (T:Tb p m n F):pV p ⟨m,n,bT m n F⟩=some (⟨m,n,bT m n (bF p m F n).1⟩,gB (bF p m F n).2):=by
 have hN:=T.hN;have hn:=T.hn;unfold pV jC xQ;simp only;rw [dO,bC hN,aN,aA,aA];simp only;rw [cF (r:=(bT m n (bF p m F n).1,gB (bF p m F n).2)) (λj=>((j:Int),bT m n (bF p m F j).1,gB (bF p m F j).2)) n (by simp [bF,gB]) (λj hj=>?_) (λ_=>?_),aA]
 ·show _=some (Sum.inl (((j+1:Nat):Int),bT m n (gI p m (bF p m F j) j).1,gB (gI p m (bF p m F j) j).2):(Int×List Int×List Int) ⊕ (List Int×List Int));exact aTQ ⟨T.hp,T.hN,T.hm,T.hn,pM (by have:=dF T.hp;omega) T.hi j⟩ hj _ (kZ j) _
 ·unfold nS;simp only;rw [gS (bA _),aS]
theorem aDi {p:Int} {m n:Nat} {F:Nat→Nat→Int} (T:Tb p m n F):vS p ⟨m,n,bT m n F⟩=some ((bF p m F n).2.length:Int):=by
 unfold vS;rw [aBu T,aA,dG]
theorem aUV {p:Int} {m n:Nat} {F:Nat→Nat→Int} (T:Tb p m n F) {j:Nat} (hj:j<n) (L:List Nat) (hL:L.length<m) (l:List Int):
  Lp (kD ⟨m,n,l⟩ ((j:Int),bT m n F,gB L,(L.length:Int))) (-1,wr ((m:Int) - 1))=some (if jT F j (m - L.length) L.length=m then -1 else ((jT F j (m - L.length) L.length:Nat):Int)):=by
 obtain ⟨hp,hN,hm,hn,hi⟩:=T;refine cF (λt=>(if jT F j t (m - t)=m then -1 else ((jT F j t (m - t):Nat):Int),((m - t:Nat):Int) - 1)) (m - L.length) ?_ (λt ht=>?_) (λ_=>?_)
 ·simp only [jT,Nat.sub_zero,if_true];rw [cZ (by omega)]
 ·unfold kD;simp only;have e:((m - t:Nat):Int) - 1=((m - (t+1):Nat):Int):=by omega
  have hi2:m - (t+1)<m:=by omega
  rw [e,bC (by omega),aN,atT hN hi2 hj,aA,cZ (x:=((m - (t+1):Nat):Int) - 1) (by omega)]
  have ep:jT F j (t+1) (m - (t+1))=if F (m - (t+1)) j=0 then jT F j t (m - t) else m - (t+1):=by
   rw [jT,show m - (t+1)+1=m - t by omega]
  rw [ep];by_cases h:F (m - (t+1)) j=0
  ·rw [bC h,eC,aS,aU h]
  ·rw [dM h,Bool.not_false,aN,aV h,aV (by omega)]
 ·rw [show m - (m - L.length)=L.length by omega];unfold kD;simp only;rw [dM (by omega),aS]
theorem aTR {p:Int} {m n:Nat} {F:Nat→Nat→Int} (T:Tb p m n F) {j:Nat} (hj:j<n) (L:List Nat) (hL:L.length<m) (l:List Int):
  gF p ⟨m,n,l⟩ ((j:Int),bT m n F,gB L,(L.length:Int))=some (.inl (((j+1:Nat):Int),bT m n (gI p m (F,L) j).1,gB (gI p m (F,L) j).2,((gI p m (F,L) j).2.length:Int))):=by
 have hpv:=aUV T hj L hL l;obtain ⟨hp,hN,hm,hn,hi⟩:=T;have hb:=dF hp;have hle:= @aAC F j (m - L.length) L.length;unfold gF gI;simp only;rw [gC hj,aN,gC hL,aN,hpv,aA,bK hj (by omega)];clear hpv;generalize jT F j (m - L.length) L.length=r at*;have hk:L.length<m:=hL;by_cases hr:r=m
 ·rw [aU hr,aU hr,bC (by omega),aN]
 ·rw [aV hr,aV hr,dM (by omega),aS];have hrm:r<m:=by omega
  rw [cF (r:=bT m n (vQ F L.length r)) (λx=>(bT m n (aBt F L.length r x),(x:Int))) n ?_ (λx hx=>?_) (λ_=>?_),aA,atT hN hk hj,aA]
  ·have e1:vQ F L.length r L.length j=F r j:=by simp [vQ]
   have hrj:=hi r j hrm hj;rw [e1,aPx hp (by omega),aA,Int.emod_eq_of_lt hrj.1 hrj.2];have hs:=aPE hp hrj;rw [aHp];generalize aBH p (F r j)=s at*;have h1:=aMP hi hk hrm;generalize vQ F L.length r=F1 at*;rw [cF (r:=bT m n (rH p F1 L.length s)) (λx=>(bT m n (zJ p F1 L.length s x),(x:Int))) n ?_ (λx hx=>?_) (λ_=>?_),aA]
   ·have h2:=aJh hp (k:=L.length) (s:=s) h1;generalize rH p F1 L.length s=F2 at*;rw [cF (r:=bT m n (wU p F2 L.length j)) (λx=>(bT m n (iX p F2 L.length j x),(x:Int))) m ?_ (λx hx=>?_) (λ_=>?_),aA]
    ·rw [dG,bC (by simp;omega),aN,bK hk (by omega)];simp [gB]
    ·congr 1
    ·unfold oV;simp only;rw [gC hx,aN,atT hN hx hj,aA,bK hx (by omega)];have e2:iX p F2 L.length j x x j=F2 x j:=by simp [iX]
     rw [e2];by_cases hxk:x=L.length
     ·rw [iQ (r:=bT m n (iX p F2 L.length j x)) ?_,aA,hxk,aJi];unfold kE;simp only;rcases Nat.eq_zero_or_pos n with h0|h0
      ·omega
      ·rw [bC (by omega),aN,bC (by omega),eC,aS]
     ·rw [cF (r:=bT m n (iX p F2 L.length j (x+1))) (λy=>(bT m n (λa c=>if a=x∧c<y then wU p F2 L.length j x c else iX p F2 L.length j x a c),(y:Int))) n (by simp) (λy hy=>?_) (λ_=>?_),aA]
      ·unfold kE;simp only;rw [gC hy,aN,dM (by omega),Bool.not_false,aN,atT hN hx hy,aA,atT hN hk hy,aA];have e3:iX p F2 L.length j x x y=F2 x y:=by simp [iX]
       have e4:iX p F2 L.length j x L.length y=F2 L.length y:=by simp [iX,wU]
       rw [aV (by omega),aV (by omega),e3,e4];have g1:=h2 x j hx hj;have g2:=h2 L.length y hk hy;have g3:=h2 x y hx hy;have g4:=aKi (a:=F2 x j) (b:=F2 L.length y) (by omega) (by omega);rw [cZ (x:=F2 x j*F2 L.length y) (by omega),cZ (x:=F2 x y - F2 x j*F2 L.length y) (by omega),zH hp (by omega),aA,aA,aKj hN hx hy,bK hy (by omega)];congr 3;refine cC λa c ha hc=>?_;simp only [aDB];by_cases e5:a=x∧c=y
       ·rw [aU e5,aU (by omega),e5.2];simp only [wU];rw [aV hxk]
       ·rw [aV e5];by_cases e6:a=x∧c<y
        ·rw [aU e6,aU (by omega)]
        ·rw [aV e6,aV (by omega)]
      ·unfold kE;simp only;rw [gS (bA _),aS];congr 2;refine cC λa c ha hc=>?_;simp only [iX];by_cases e5:a=x
       ·rw [aU ⟨e5,hc⟩,aU (by omega),e5]
       ·rw [aV (by omega)];by_cases e6:a<x
        ·rw [aU e6,aU (by omega)]
        ·rw [aV e6,aV (by omega)]
    ·unfold oV;simp only;rw [gS (bA _),aS];congr 2;exact cC λa b ha hb=>by simp only [iX];rw [aU ha]
   ·congr 1
   ·unfold oU;simp only;have g1:=h1 _ x hk hx;have g2:=aKi (a:=F1 L.length x) (b:=s) (by omega) (by omega);rw [gC hx,aN,atT hN hk hx,aA,aHn,Int.mul_comm,cZ (by omega),zH hp (by omega),aA,aA,aKj hN hk hx,bK hx (by omega),aHo]
   ·unfold oU;simp only;rw [gS (bA _),aS];congr 2;exact cC λa b ha hb=>by simp only [zJ];rw [aU hb]
  ·congr 1
  ·unfold oP;simp only;rw [gC hx,aN,atT hN hk hx,aA,atT hN hrm hx,aA,aA,aKj hN hk hx,atT hN hrm hx,aA,aKj hN hrm hx,aCv,aCv,bK hx (by omega),aJg]
  ·unfold oP;simp only;rw [gS (bA _),aS];congr 2;exact cC λa b ha hb=>by simp only [aBt];rw [aU hb]
theorem wB {p:Int} {m n:Nat} {F:Nat→Nat→Int} (T:Tb p m n F):gV p ⟨m,n,bT m n F⟩=some (⟨m,n,bT m n (bF p m F n).1⟩,gB (bF p m F n).2):=by
 have hN:=T.hN;have hn:=T.hn;unfold gV aAt;simp only;rw [dO,bC (by simp;omega),aN,aA];simp only [List.nil_append]
 obtain ⟨r,h1,h2⟩: ∃ r,Lp (gF p ⟨m,n,bT m n F⟩) (0,bT m n F,[],0)=some r∧r=(bT m n (bF p m F n).1,gB (bF p m F n).2):=by
  refine aKN (λs=> ∃ j:Nat,j≤n∧s=((j:Int),bT m n (bF p m F j).1,gB (bF p m F j).2,((bF p m F j).2.length:Int))) (λs=>n - s.1.toNat) _ ⟨0,Nat.zero_le _,by simp [bF,gB]⟩ ?_;rintro s ⟨j,hj,rfl⟩;rcases dV j n with hlt|hge
  ·have hlen:= @kZ p m F j;rcases dV (bF p m F j).2.length m with hl|hl
   ·refine .inl ⟨_,aTR ⟨T.hp,T.hN,T.hm,T.hn,pM (by have:=dF T.hp;omega) T.hi j⟩ hlt _ hl _,⟨j+1,hlt,rfl⟩,?_⟩;simp;omega
   ·refine .inr ⟨_,?_,rfl⟩;unfold gF;simp only;have e:=aHm (p:=p) (F:=F) (j:=j) (by omega:(bF p m F j).2.length=m) (n - j);rw [show j+(n - j)=n by omega] at e;rw [gC hlt,aN,gS hl,aS,e]
  ·have e:j=n:=by omega
   subst e;refine .inr ⟨_,?_,rfl⟩;unfold gF;simp only;rw [gS (bA _),aS]
 rw [h1,h2,aA]
end
noncomputable section
set_option maxRecDepth 10000
set_option maxHeartbeats 4000000
def uO (a0:Rp) (a1:Rp) (x1:((List Mt)×Int)):Option (((List Mt)×Int) ⊕ (List Mt)):=
 bif decide (x1.2<(a0.dims.length:Int)) then
 ((cP a0.dims x1.2).bind λv2=>
 (cP a1.dims x1.2).bind λv3=>
 (oG v3 v2).bind λv4=>
 bif decide (x1.1.length+1≤4294967296) then
 (some (.inl ((x1.1++[v4]),wr (x1.2+1))))
 else none)
 else
 (some (.inr x1.1))
def zK (a0:Rp) (a1:Rp):Option (List Mt):=
 (Lp (uO a0 a1) ([],0)).bind λy6=>
 some (y6)
theorem aKp (a0:Rp) (a1:Rp) (r:(List Mt)) (h:zK a0 a1=some r):HasC Tryz.prog 200 [.agg (eR a0),.agg (eR a1)] (.list 3 (r.map eM)):=by
 refine hM [.tmp 4] Tryz.func200 Tryz.ntmps200 k<|sR<|ae (wb k) k<|ae (wb k) k<|aT k2<|sR<|aT k2<|sQ<|sR<|fp k8<|lp k8<|ln k4<|am k k<|an<|tn<|aC<|oB h λy6 hy6 h=>bU (body:=(uO a0 a1)) hy6 (λ(x1:((List Mt)×Int))=>mN [(3,.ptr 0 0 0),(5,.own 1 0 x1.1.length),(9,.list 1 (a0.dims.map eI)),(10,.int (a0.dims.length:Int)),(11,.int x1.2)] [(0,⟨6,[eR a1]⟩),(1,⟨3,x1.1.map (ow eM)⟩)] 2) (λr e t=>e= .exit 0∧Ent t (mN [(5,.own 0 0 r.length)] [(0,⟨3,r.map (ow eM)⟩)] 1)) (hO (σ:=sg [(0,1)]) (kW 1 k2 (iC ⟨_,k,⟨k,k,k,k⟩⟩ (bG k2))) (bH k<|hX k k<|aX) k) ?_ ?_
 ·intro x1 o h;refine sR<|cm k4<|an<|tn<|sQ<|cV k h (λ_ h=>?_) λ_ h=>aW<|aB<|aB<|sp h ⟨_,k,k,(jI [1] (bG k2) (dY (jZ.plainO _) k<|aX) k4)⟩;refine aI<|tn<|sQ<|aC<|sR<|am k k<|oB h λv2 hv2 h=>ae (xl hv2 k) k<|lr k7<|aa k k<|aT k2<|rg<|am k k<|fp k8<|lp k8<|am k k<|oB h λv3 hv3 h=>ae (xl hv3 k) k<|lr k7<|am k k<|oB h λv4 hv4 h=>ae (cM (yG v3 v2 v4 hv4) k3 (bZ k (bZ k aE))) k<|ae (wl k) k<|cG h λq5 h=>ae (kY aP (l:=x1.1) (c:=[.int v4.rows,.int v4.cols,.own 2 0 v4.cells.length]) q5 k k k k k k k k k k k k k k) k<|aa k k<|an<|aY<|tn<|aL (t:=mN [(3,.ptr 0 0 0),(5,.own 4 0 ((x1.1++[v4]).length)),(9,.list 1 (a0.dims.map eI)),(10,.int (a0.dims.length:Int)),(11,.int x1.2)] [(0,⟨6,[eR a1]⟩),(4,⟨3,List.map (ow eM) (x1.1++[v4])⟩)] 5) (Ent.trans (fX (b:=4) (b':=2) (j:=2) (es':=v4.cells.map eI) k k k k (aR _ _) (dT.frzs _)) (bO (kW 1 k2 (iC ⟨_,k,⟨k,k,(by simp only [aR,lA,lT,lR,lC,lN]),k⟩⟩ (bG k2))) (bH k<|hX ⟨_,k,k,.inl ⟨mI v4 k,jZ.plainO _⟩⟩ k<|aX) k4)) ?_;exact rg<|ae (bB k k) k<|am k k<|an<|tn<|sp h ⟨_,k,(jI [0,4] (bG k2) (bH k<|dY (jZ.plainO _) k<|aX) k4)⟩
 ·rintro e t ⟨rfl,hent⟩;exact aM<|tn<|aL hent<|sR<|am k k<|aT k2<|aD<|sp h (aZ k k k (eB (eH jZ k k)))
def wC (a0:(List Mt)) (x1:((List Int)×Int)):Option (((List Int)×Int) ⊕ (List Int)):=
 bif decide (x1.2<(a0.length:Int)) then
 ((cP a0 x1.2).bind λv2=>
 bif decide (x1.1.length+v2.cells.length≤4294967296) then
 (some (.inl ((x1.1++v2.cells),wr (x1.2+1))))
 else none)
 else
 (some (.inr x1.1))
def lW (a0:(List Mt)):Option (List Int):=
 (Lp (wC a0) ([],0)).bind λy4=>
 some (y4)
theorem aCT (a0:(List Mt)) (r:(List Int)) (h:lW a0=some r):HasC Tryz.prog 201 [.list 3 (a0.map eM)] (.list 1 (r.map eI)):=by
 refine hM [.tmp 2] Tryz.func201 Tryz.ntmps201 k<|sR<|aT k2<|sR<|aT k2<|sQ<|sR<|am k k<|ln k4<|am k k<|an<|tn<|aC<|oB h λy4 hy4 h=>bU (body:=(wC a0)) hy4 (λ(x1:((List Int)×Int))=>mN [(3,.own 0 0 x1.1.length),(6,.list 3 (a0.map eM)),(7,.int (a0.length:Int)),(8,.int x1.2)] [(0,⟨1,x1.1.map (ow eI)⟩)] 1) (λr e t=>e= .exit 0∧Ent t (mN [(3,.own 0 0 r.length)] [(0,⟨1,r.map (ow eI)⟩)] 1)) (hO (σ:=sg []) (iC ⟨_,k,⟨k,k,k,k⟩⟩ (bG k2)) (hX k k<|aX) k) ?_ ?_
 ·intro x1 o h;exact sR<|cm k4<|an<|tn<|sQ<|cV k h (λ_ h=>aI<|tn<|sQ<|aC<|sR<|oB h λv2 hv2 h=>ae (xl hv2 k) k<|lr k7<|ae (bX aP k k) k<|ae (ws k) k<|an<|tn<|rg<|am k k<|fp k8<|lp k8<|cG h λq3 h=>ae (mQ aP (l:=x1.1) (m:=v2.cells) kX q3 k k k k k k k k k k k k) k<|aa k k<|an<|aY<|tn<|rg<|ae (bB k k) k<|am k k<|an<|tn<|sp h ⟨_,k,(jI [2] (bG k2) (cB k<|aX) k4)⟩) λ_ h=>aW<|aB<|aB<|sp h ⟨_,k,k,(bO (bG k2) (cB k<|aX) k4)⟩
 ·rintro e t ⟨rfl,hent⟩;exact aM<|tn<|aL hent<|sR<|am k k<|aT k2<|aD<|sp h (aZ k k k (eB (eH dT k k)))
def sH (a0:(List Mt)) (x1:((List Int)×(List Mt)×Int)):Option (((List Int)×(List Mt)×Int) ⊕ (List Mt)):=
 bif decide (x1.2.2<(a0.length:Int)) then
 ((cP a0 x1.2.2).bind λv2=>
 bif (decide (0≤0)&&(decide (0≤(v2.cells.length:Int))&&decide ((v2.cells.length:Int)≤(x1.1.length:Int)))) then
 ((xQ ((x1.1.drop (0:Int).toNat).take ((v2.cells.length:Int).toNat - (0:Int).toNat))).bind λv4=>
 bif decide (x1.2.1.length+1≤4294967296) then
 (bif (decide (0≤(v2.cells.length:Int))&&(decide ((v2.cells.length:Int)≤(x1.1.length:Int))&&decide ((x1.1.length:Int)≤(x1.1.length:Int)))) then
 (some (.inl (((x1.1.drop (v2.cells.length:Int).toNat).take ((x1.1.length:Int).toNat - (v2.cells.length:Int).toNat)),(x1.2.1++[(⟨v2.rows,v2.cols,v4⟩:Mt)]),wr (x1.2.2+1))))
 else none)
 else none)
 else none)
 else
 (some (.inr x1.2.1))
def xW (a0:(List Mt)) (a1:(List Int)):Option (List Mt):=
 (Lp (sH a0) (a1,[],0)).bind λy7=>
 some (y7)
theorem aIm (a0:(List Mt)) (a1:(List Int)) (r:(List Mt)) (h:xW a0 a1=some r):HasC Tryz.prog 203 [.list 3 (a0.map eM),.list 1 (a1.map eI)] (.list 3 (r.map eM)):=by
 refine hM [.tmp 4] Tryz.func203 Tryz.ntmps203 k<|sR<|aT k2<|sR<|aT k2<|sQ<|sR<|am k k<|ln k4<|am k k<|an<|tn<|aC<|oB h λy7 hy7 h=>bU (body:=(sH a0)) hy7 (λ(x1:((List Int)×(List Mt)×Int))=>mN [(1,.list 1 (x1.1.map eI)),(5,.own 0 0 x1.2.1.length),(9,.list 3 (a0.map eM)),(10,.int (a0.length:Int)),(11,.int x1.2.2)] [(0,⟨3,x1.2.1.map (ow eM)⟩)] 1) (λr e t=>e= .exit 0∧Ent t (mN [(5,.own 0 0 r.length)] [(0,⟨3,r.map (ow eM)⟩)] 1)) (hO (σ:=sg []) (kW 1 k2 (iC ⟨_,k,⟨k,k,k,k⟩⟩ (bG k2))) (hX k k<|aX) k) ?_ ?_
 ·intro x1 o h;refine sR<|cm k4<|an<|tn<|sQ<|cV k h (λ_ h=>?_) λ_ h=>aW<|aB<|aB<|sp h ⟨_,k,k,(bO (bG k2) (dY (jZ.plainO _) k<|aX) k4)⟩;refine aI<|tn<|sQ<|aC<|sR<|oB h λv2 hv2 h=>ae (xl hv2 k) k<|lr k7<|ae (bX aP k k) k<|ae (ws k) k<|an<|tn<|sR<|fp k8<|lp k8<|ln k4<|aT k2<|sQ<|aQ fA<|am k k<|fp k8<|lp k8<|fp k8<|lp k8<|am k k<|am k k ?_;exact cG h λq3 h=>ae (aBj aP (l0:=x1.1) (l:=0) (h:=(v2.cells.length:Int)) q3 k k k k k k k) k<|oB h λv4 hv4 h=>ae (cL dT (aGf ((x1.1.drop (0:Int).toNat).take ((v2.cells.length:Int).toNat - (0:Int).toNat)) v4 hv4) k3 (bZ k aE)) k<|ae (fY aP k k k k k k) k<|ae (wl k) k<|cG h λq5 h=>ae (kY aP (l:=x1.2.1) (c:=[.int v2.rows,.int v2.cols,.own 2 0 v4.length]) q5 k k k k k k k k k k k k k k) k<|aa k k<|an<|oA (by kernel_rfl)<|tn<|aL (t:=mN [(1,.list 1 (x1.1.map eI)),(5,.own 4 0 ((x1.2.1++[(⟨v2.rows,v2.cols,v4⟩:Mt)]).length)),(8,.int (v2.cells.length:Int)),(9,.list 3 (a0.map eM)),(10,.int (a0.length:Int)),(11,.int x1.2.2)] [(4,⟨3,List.map (ow eM) (x1.2.1++[(⟨v2.rows,v2.cols,v4⟩:Mt)])⟩)] 5) (Ent.trans (fX (b:=4) (b':=2) (j:=2) (es':=v4.map eI) k k k k (aR _ _) (dT.frzs _)) (bO (kW 1 k2 (iC ⟨_,k,⟨k,k,(by simp only [aR,lA,lT,lR,lC,lN]),k⟩⟩ (bG k2))) (hX ⟨_,k,k,.inl ⟨mI (⟨v2.rows,v2.cols,v4⟩:Mt) k,jZ.plainO _⟩⟩ k<|aX) k4))<|rg<|am k k<|am k k<|cG h λq6 h=>ae (aBj aP (l0:=x1.1) (l:=(v2.cells.length:Int)) (h:=(x1.1.length:Int)) q6 k k k k k k k) k<|aa k k<|an<|aY<|tn<|rg<|ae (bB k k) k<|am k k<|an<|tn<|sp h ⟨_,k,(jI [4] (bG k2) (dY (jZ.plainO _) k<|aX) k4)⟩
 ·rintro e t ⟨rfl,hent⟩;exact aM<|tn<|aL hent<|sR<|am k k<|aT k2<|aD<|sp h (aZ k k k (eB (eH jZ k k)))
def aAh (a0:Int) (a1:Mt) (a2:Int) (a3:Mt):Option Mt:=
 (jC a1).bind λv1=>
 (gE a0 v1.cells 0 v1.cells.length a2 a3.cells).bind λv2=>
 bif decide (v2.length=v1.cells.length) then
 (some ((⟨v1.rows,v1.cols,v2⟩:Mt)))
 else none
theorem aMQ (a0:Int) (a1:Mt) (a2:Int) (a3:Mt) (r:Mt) (h:aAh a0 a1 a2 a3=some r):HasC Tryz.prog 234 [.int a0,.agg (eM a1),.int a2,.agg (eM a3)] (.agg (eM r)):=by
 refine hM [.cell 8 96] Tryz.func234 Tryz.ntmps234 k<|sR<|ae (wb k) k<|ae (wb k) k<|ae (bX aP k k) k<|an<|tn<|sR<|lp k8<|oB h λv1 hv1 h=>ae (cM (yU a1 v1 hv1) k3 (aG (eG k) aE)) k<|ae (bX aP k k) k<|ae (ws k) k<|an<|tn<|sR<|am k k<|fp k8<|lp k8<|am k k<|fp k8<|lp k8<|oB h λv2 hv2 h=>ae (nN (σ:=sg [(0,3)]) (σ':=sg [(3,0)]) (touch:=[3]) (news:=[]) (hl2:=[(3,⟨1,v2.map (ow eI)⟩)]) (n':=5) (r2:= .own 3 0 v1.cells.length) (vK a0 v1.cells 0 v1.cells.length a2 a3.cells v2 hv2) k k ⟨_,_,k,k,⟨_,_,k,⟨k,k,k,k⟩,⟨_,_,k,k,⟨_,_,k,⟨k,k⟩,k⟩⟩⟩⟩ ⟨⟨_,k,k,.inl ⟨k,dT.plainO _⟩⟩,k,aX⟩ k k k ⟨⟨_,k,k,.inl ⟨k,dT.plainO _⟩⟩,k,aX⟩ k ⟨k,k,(by simp only [aR,lA,lT,lR,lC,lN]),k⟩ k ⟨k,dT.tame _ _,aX⟩ k k) k<|cG h λq3 h=>an<|tn<|sR<|lp k8 ?_;exact ae (ws k) k<|an<|tn<|aD<|sp h (aZ k k k (jH (bD (k) (bD (k) (bD (eH dT k (by first|rfl|simp only [List.length_set,of_decide_eq_true q3])) eV)))))
def lX (a0:Rp) (a1:Rp) (a2:(List Mt)) (x1:((List Mt)×Int)):Option (((List Mt)×Int) ⊕ (List Mt)):=
 bif decide (x1.2<(a0.q.src.length:Int)) then
 ((cP a0.q.src x1.2).bind λv2=>
 (cP a1.maps x1.2).bind λv3=>
 (cP a2 v2).bind λv4=>
 (rX a0.p v3 v4).bind λv5=>
 (cP a0.q.tgt x1.2).bind λv6=>
 (cP a2 v6).bind λv7=>
 (cP a0.maps x1.2).bind λv8=>
 (rX a0.p v7 v8).bind λv9=>
 (aAh a0.p v5 (wr (a0.p - 1)) v9).bind λv10=>
 bif decide (x1.1.length+1≤4294967296) then
 (some (.inl ((x1.1++[v10]),wr (x1.2+1))))
 else none)
 else
 (some (.inr x1.1))
def qL (a0:Rp) (a1:Rp) (a2:(List Mt)):Option (List Mt):=
 (Lp (lX a0 a1 a2) ([],0)).bind λy12=>
 some (y12)
theorem aEQ (a0:Rp) (a1:Rp) (a2:(List Mt)) (r:(List Mt)) (h:qL a0 a1 a2=some r):HasC Tryz.prog 202 [.agg (eR a0),.agg (eR a1),.list 3 (a2.map eM)] (.list 3 (r.map eM)):=by
 refine hM [.tmp 6] Tryz.func202 Tryz.ntmps202 k<|sR<|ae (wb k) k<|ae (wb k) k<|aT k2<|sR<|aT k2<|sQ<|sR<|fp k8<|fp k8<|lp k8<|ln k4<|am k k<|an<|tn<|aC<|oB h λy12 hy12 h=>bU (body:=(lX a0 a1 a2)) hy12 (λ(x1:((List Mt)×Int))=>mN [(2,.list 3 (a2.map eM)),(3,.ptr 0 0 0),(4,.ptr 1 0 0),(7,.own 2 0 x1.1.length),(13,.list 1 (a0.q.src.map eI)),(14,.int (a0.q.src.length:Int)),(15,.int x1.2)] [(0,⟨6,[eR a0]⟩),(1,⟨6,[eR a1]⟩),(2,⟨3,x1.1.map (ow eM)⟩)] 3) (λr e t=>e= .exit 0∧Ent t (mN [(7,.own 0 0 r.length)] [(0,⟨3,r.map (ow eM)⟩)] 1)) (hO (σ:=sg [(0,0),(1,1)]) (kW 3 k2 (iC ⟨_,k,⟨k,k,k,k⟩⟩ (bG k2))) (bH k<|bH k<|hX k k<|aX) k) ?_ ?_
 ·intro x1 o h;refine sR<|cm k4<|an<|tn<|sQ<|cV k h (λ_ h=>?_) λ_ h=>aW<|aB<|aB<|sp h ⟨_,k,k,(jI [2] (bG k2) (dY (jZ.plainO _) k<|aX) k4)⟩;refine aI<|tn<|sQ<|aC<|sR<|am k k<|oB h λv2 hv2 h=>ae (xl hv2 k) k<|lr k7<|aa k k<|aT k2<|sQ<|aQ fA<|fp k8<|lp k8<|fp k8<|lp k8<|am k k<|oB h λv3 hv3 h=>ae (xl hv3 k) k<|lr k7<|am k k<|am k k<|oB h λv4 hv4 h=>ae (xl hv4 k) k<|lr k7<|oB h λv5 hv5 h=>ae (cM (aBm a0.p v3 v4 v5 hv5) k3 (bZ k (aG (eG k) (aG (eG k) aE)))) k<|ae (bX aP k k) k<|ae (ws k) k ?_;refine an<|oA (by kernel_rfl)<|tn<|aQ fA<|am k k<|fp k8<|lp k8<|lp k8<|fp k8<|lp k8<|ae (mP k k) k<|fp k8<|lp k8<|am k k<|fp k8<|fp k8<|lp k8<|am k k<|oB h λv6 hv6 h=>ae (xl hv6 k) k<|lr k7<|oB h λv7 hv7 h=>ae (xl hv7 k) k<|lr k7<|fp k8<|lp k8<|am k k<|oB h λv8 hv8 h=>ae (xl hv8 k) k<|lr k7<|oB h λv9 hv9 h=>ae (cM (aBm a0.p v7 v8 v9 hv9) k3 (bZ k (aG (eG k) (aG (eG k) aE)))) k<|oB h λv10 hv10 h=>ae (cM (aMQ a0.p v5 (wr (a0.p - 1)) v9 v10 hv10) k3 (bZ k (aG (vaM k2) (bZ k (aG (vaM k2) aE))))) k<|ae (wl k) k ?_;exact cG h λq11 h=>ae (kY aP (l:=x1.1) (c:=[.int v10.rows,.int v10.cols,.own 6 0 v10.cells.length]) q11 k k k k k k k k k k k k k k) k<|aa k k<|an<|oA (by kernel_rfl)<|aY<|tn<|aL (t:=mN [(2,.list 3 (a2.map eM)),(3,.ptr 0 0 0),(4,.ptr 1 0 0),(7,.own 8 0 ((x1.1++[v10]).length)),(13,.list 1 (a0.q.src.map eI)),(14,.int (a0.q.src.length:Int)),(15,.int x1.2)] [(0,⟨6,[eR a0]⟩),(1,⟨6,[eR a1]⟩),(8,⟨3,List.map (ow eM) (x1.1++[v10])⟩)] 9) (Ent.trans (fX (b:=8) (b':=6) (j:=2) (es':=v10.cells.map eI) k k k k (aR _ _) (dT.frzs _)) (bO (kW 3 k2 (iC ⟨_,k,⟨k,k,(by simp only [aR,lA,lT,lR,lC,lN]),k⟩⟩ (bG k2))) (bH k<|bH k<|hX ⟨_,k,k,.inl ⟨mI v10 k,jZ.plainO _⟩⟩ k<|aX) k4))<|rg<|ae (bB k k) k<|am k k<|an<|tn<|sp h ⟨_,k,(jI [0,1,8] (bG k2) (bH k<|bH k<|dY (jZ.plainO _) k<|aX) k4)⟩
 ·rintro e t ⟨rfl,hent⟩;exact aM<|tn<|aL hent<|sR<|am k k<|aT k2<|aD<|sp h (aZ k k k (eB (eH jZ k k)))
def jK (a0:Rp) (a1:Rp) (x1:((List Mt)×Int)):Option (((List Mt)×Int) ⊕ (List Mt)):=
 bif decide (x1.2<(a0.q.src.length:Int)) then
 ((cP a0.q.src x1.2).bind λv2=>
 (cP a0.q.tgt x1.2).bind λv3=>
 (cP a1.dims v3).bind λv4=>
 (cP a0.dims v2).bind λv5=>
 (oG v4 v5).bind λv6=>
 bif decide (x1.1.length+1≤4294967296) then
 (some (.inl ((x1.1++[v6]),wr (x1.2+1))))
 else none)
 else
 (some (.inr x1.1))
def mY (a0:Rp) (a1:Rp):Option (List Mt):=
 (Lp (jK a0 a1) ([],0)).bind λy8=>
 some (y8)
theorem aDE (a0:Rp) (a1:Rp) (r:(List Mt)) (h:mY a0 a1=some r):HasC Tryz.prog 204 [.agg (eR a0),.agg (eR a1)] (.list 3 (r.map eM)):=by
 refine hM [.tmp 4] Tryz.func204 Tryz.ntmps204 k<|sR<|ae (wb k) k<|ae (wb k) k<|aT k2<|sR<|aT k2<|sQ<|sR<|fp k8<|fp k8<|lp k8<|ln k4<|am k k<|an<|tn<|aC<|oB h λy8 hy8 h=>bU (body:=(jK a0 a1)) hy8 (λ(x1:((List Mt)×Int))=>mN [(2,.ptr 0 0 0),(3,.ptr 1 0 0),(5,.own 2 0 x1.1.length),(10,.list 1 (a0.q.src.map eI)),(11,.int (a0.q.src.length:Int)),(12,.int x1.2)] [(0,⟨6,[eR a0]⟩),(1,⟨6,[eR a1]⟩),(2,⟨3,x1.1.map (ow eM)⟩)] 3) (λr e t=>e= .exit 0∧Ent t (mN [(5,.own 0 0 r.length)] [(0,⟨3,r.map (ow eM)⟩)] 1)) (hO (σ:=sg [(0,0),(1,1)]) (kW 2 k2 (iC ⟨_,k,⟨k,k,k,k⟩⟩ (bG k2))) (bH k<|bH k<|hX k k<|aX) k) ?_ ?_
 ·intro x1 o h;refine sR<|cm k4<|an<|tn<|sQ<|cV k h (λ_ h=>?_) λ_ h=>aW<|aB<|aB<|sp h ⟨_,k,k,(jI [2] (bG k2) (dY (jZ.plainO _) k<|aX) k4)⟩;refine aI<|tn<|sQ<|aC<|sR<|am k k<|oB h λv2 hv2 h=>ae (xl hv2 k) k<|lr k7<|aa k k<|aT k2<|aQ fA<|am k k<|fp k8<|lp k8<|fp k8<|fp k8<|lp k8<|am k k<|oB h λv3 hv3 h=>ae (xl hv3 k) k<|lr k7<|oB h λv4 hv4 h=>ae (xl hv4 k) k<|lr k7<|fp k8<|lp k8<|am k k<|oB h λv5 hv5 h=>ae (xl hv5 k) k ?_;exact lr k7<|oB h λv6 hv6 h=>ae (cM (yG v4 v5 v6 hv6) k3 (bZ k (bZ k aE))) k<|ae (wl k) k<|cG h λq7 h=>ae (kY aP (l:=x1.1) (c:=[.int v6.rows,.int v6.cols,.own 3 0 v6.cells.length]) q7 k k k k k k k k k k k k k k) k<|aa k k<|an<|oA (by kernel_rfl)<|aY<|tn<|aL (t:=mN [(2,.ptr 0 0 0),(3,.ptr 1 0 0),(5,.own 5 0 ((x1.1++[v6]).length)),(10,.list 1 (a0.q.src.map eI)),(11,.int (a0.q.src.length:Int)),(12,.int x1.2)] [(0,⟨6,[eR a0]⟩),(1,⟨6,[eR a1]⟩),(5,⟨3,List.map (ow eM) (x1.1++[v6])⟩)] 6) (Ent.trans (fX (b:=5) (b':=3) (j:=2) (es':=v6.cells.map eI) k k k k (aR _ _) (dT.frzs _)) (bO (kW 2 k2 (iC ⟨_,k,⟨k,k,(by simp only [aR,lA,lT,lR,lC,lN]),k⟩⟩ (bG k2))) (bH k<|bH k<|hX ⟨_,k,k,.inl ⟨mI v6 k,jZ.plainO _⟩⟩ k<|aX) k4))<|rg<|ae (bB k k) k<|am k k<|an<|tn<|sp h ⟨_,k,(jI [0,1,5] (bG k2) (bH k<|bH k<|dY (jZ.plainO _) k<|aX) k4)⟩
 ·rintro e t ⟨rfl,hent⟩;exact aM<|tn<|aL hent<|sR<|am k k<|aT k2<|aD<|sp h (aZ k k k (eB (eH jZ k k)))
def kP (v1:Mt) (v3:(List Int)) (x1:((List Int)×Int)) (x2:((List Int)×Int)):Option (((List Int)×Int) ⊕ (List Int)):=
 bif decide (x2.2<(v3.length:Int)) then
 ((cP v3 x2.2).bind λv5=>
 (cP x2.1 (wr ((wr (x2.2*v1.cols))+x1.2))).bind λv6=>
 some (.inl ((x2.1.set ((wr ((wr (x2.2*v1.cols))+x1.2)).toNat) v5),wr (x2.2+1))))
 else
 (some (.inr x2.1))
def kQ (a1:(List (List Int))) (v1:Mt) (x1:((List Int)×Int)):Option (((List Int)×Int) ⊕ (List Int)):=
 bif decide (x1.2<(a1.length:Int)) then
 ((cP a1 x1.2).bind λv3=>
 (Lp (kP v1 v3 x1) (x1.1,0)).bind λy7=>
 some (.inl (y7,wr (x1.2+1))))
 else
 (some (.inr x1.1))
def gG (a0:Int) (a1:(List (List Int))):Option Mt:=
 (oG a0 (a1.length:Int)).bind λv1=>
 (Lp (kQ a1 v1) (v1.cells,0)).bind λy8=>
 some ((⟨v1.rows,v1.cols,y8⟩:Mt))
theorem vM (a0:Int) (a1:(List (List Int))) (r:Mt) (h:gG a0 a1=some r):HasC Tryz.prog 198 [.int a0,.list 1 (a1.map (dQ 1 eI))] (.agg (eM r)):=by
 refine hM [.cell 4 96] Tryz.func198 Tryz.ntmps198 k<|sR<|ae (bX aP k k) k<|an<|tn<|sR<|am k k<|am k k<|ln k4<|oB h λv1 hv1 h=>ae (cM (yG a0 (a1.length:Int) v1 hv1) k3 (bZ k (bZ k aE))) k<|ae (bX aP k k) k<|ae (ws k) k<|an<|tn<|sQ<|sR<|am k k<|ln k4<|am k k<|an<|tn<|aC<|oB h λy8 hy8 h=>bU (body:=(kQ a1 v1)) hy8 (λ(x1:((List Int)×Int))=>mN [(4,.ptr 0 0 0),(5,.ptr 1 0 0),(14,.list 1 (a1.map (dQ 1 eI))),(15,.int (a1.length:Int)),(16,.int x1.2)] [(0,⟨3,[fN]⟩),(1,⟨3,[[.int v1.rows,.int v1.cols,.own 2 0 x1.1.length]]⟩),(2,⟨1,x1.1.map (ow eI)⟩)] 3) (λr e t=>e= .exit 0∧Ent t (mN [(4,.ptr 0 0 0),(5,.ptr 1 0 0)] [(0,⟨3,[fN]⟩),(1,⟨3,[[.int v1.rows,.int v1.cols,.own 2 0 r.length]]⟩),(2,⟨1,r.map (ow eI)⟩)] 3)) (jI [0,2,1] (bG k2) (bH k<|gX k<|cB k<|aX) k4) ?_ ?_
 ·intro x1 o h;refine sR<|cm k4<|an<|tn<|sQ<|cV k h (λ_ h=>?_) λ_ h=>aW<|aB<|aB<|sp h ⟨_,k,k,(bO (bG k2) (bH k<|gX k<|cB k<|aX) k4)⟩;refine aI<|tn<|sQ<|aC<|sR<|am k k<|oB h λv3 hv3 h=>ae (xl hv3 k) k<|lr k7<|aa k k<|aT k2<|sR<|am k k<|ln k4<|am k k<|an<|tn<|aC<|oB h λy7 hy7 h=>bU (body:=(kP v1 v3 x1)) hy7 (λ(x2:((List Int)×Int))=>mN [(4,.ptr 0 0 0),(5,.ptr 1 0 0),(6,.int x1.2),(14,.list 1 (a1.map (dQ 1 eI))),(15,.int (a1.length:Int)),(16,.int x1.2),(21,.list 1 (v3.map eI)),(22,.int (v3.length:Int)),(23,.int x2.2)] [(0,⟨3,[fN]⟩),(1,⟨3,[[.int v1.rows,.int v1.cols,.own 2 0 x2.1.length]]⟩),(2,⟨1,x2.1.map (ow eI)⟩)] 3) (λr e t=>e= .exit 2∧Ent t (mN [(4,.ptr 0 0 0),(5,.ptr 1 0 0),(14,.list 1 (a1.map (dQ 1 eI))),(15,.int (a1.length:Int)),(16,.int x1.2)] [(0,⟨3,[fN]⟩),(1,⟨3,[[.int v1.rows,.int v1.cols,.own 2 0 r.length]]⟩),(2,⟨1,r.map (ow eI)⟩)] 3)) (bO (bG k2) (bH k<|gX k<|cB k<|aX) k4) ?_ ?_
  ·intro x2 o h;refine sR<|cm k4<|an<|tn<|sQ<|cV k h (λ_ h=>?_) λ_ h=>aW<|aB<|aB<|sp h ⟨_,k,k,(bO (bG k2) (bH k<|gX k<|cB k<|aX) k4)⟩;refine aI<|tn<|sQ<|aC<|sR<|am k k<|oB h λv5 hv5 h=>ae (xl hv5 k) k<|lr k7<|aa k k<|aT k2<|rg<|fp k8<|lp k8<|am k k<|fp k8<|lp k8<|ae (eX k k) k<|am k k<|ae (bB k k) k<|am k k<|oB h λv6 hv6 h=>ae (xo hv6 k) k<|ae (fK aP kX (u:=v5) (dI hv6) k k k k k k) k<|an<|aY<|tn<|rg ?_;exact ae (bB k k) k<|am k k<|an<|tn<|sp h ⟨_,k,(bO (bG k2) (bH k<|hX ⟨_,k,k,.inr ⟨_,_,k,⟨_,_,k,k,⟨_,_,k,k,⟨_,_,k,⟨k,k,(by simp only [aR,lA,lT,lR,lC,lN]),k⟩,k⟩⟩⟩,k⟩⟩ k<|cB k<|aX) k4)⟩
  ·rintro e t ⟨rfl,hent⟩;exact aM<|aY<|tn<|aL hent<|rg<|ae (bB k k) k<|am k k<|an<|tn<|sp h ⟨_,k,(bO (bG k2) (bH k<|gX k<|cB k<|aX) k4)⟩
 ·rintro e t ⟨rfl,hent⟩;exact aM<|tn<|aL hent<|sR<|lp k8<|ae (ws k) k<|an<|tn<|aD<|sp h (aZ k k k (jH (bD (k) (bD (k) (bD (eH dT k k) eV)))))
def lY (a0:Rp) (a1:Rp) (v1:(List Mt)) (v2:(List Int)) (x1:((List (List Int))×Int)):Option (((List (List Int))×Int) ⊕ (List (List Int))):=
 bif decide (x1.2<((v2.length:Nat):Int)) then
 (bif (decide (0≤((v2.length:Nat):Int))&&decide (((v2.length:Nat):Int)≤1048576)) then
 ((cP (List.replicate (((v2.length:Nat):Int).toNat) (0:Int)) x1.2).bind λv4=>
 (xW v1 ((List.replicate (((v2.length:Nat):Int).toNat) (0:Int)).set x1.2.toNat 1)).bind λv5=>
 (qL a0 a1 v5).bind λv6=>
 (lW v6).bind λv7=>
 bif decide (x1.1.length+1≤4294967296) then
 (some (.inl ((x1.1++[v7]),wr (x1.2+1))))
 else none)
 else none)
 else
 (some (.inr x1.1))
def lZ (a0:Rp) (a1:Rp):Option Mt:=
 (zK a0 a1).bind λv1=>
 (lW v1).bind λv2=>
 (Lp (lY a0 a1 v1 v2) ([],0)).bind λy10=>
 (mY a0 a1).bind λv11=>
 (lW v11).bind λv12=>
 (gG ((v12.length:Nat):Int) y10).bind λv13=>
 some (v13)
theorem aAi (a0:Rp) (a1:Rp) (r:Mt) (h:lZ a0 a1=some r):HasC Tryz.prog 164 [.agg (eR a0),.agg (eR a1)] (.agg (eM r)):=by
 refine hM [.cell 4 96] Tryz.func164 Tryz.ntmps164 k<|sR<|ae (wb k) k<|ae (wb k) k<|ae (bX aP k k) k<|an<|tn<|sR<|lp k8<|lp k8<|oB h λv1 hv1 h=>ae (cL jZ (aKp a0 a1 v1 hv1) k3 (aG (eG k) (aG (eG k) aE))) k<|aT k2<|sR<|am k k<|oB h λv2 hv2 h=>ae (cL dT (aCT v1 v2 hv2) k3 (aG (yZ jZ k k) aE)) k<|ae (dW aP k k k k) k<|aT k2<|sR<|aT k2<|sQ ?_;refine sR<|am k k<|am k k<|an<|tn<|aC<|oB h λy10 hy10 h=>bU (body:=(lY a0 a1 v1 v2)) hy10 (λ(x1:((List (List Int))×Int))=>mN [(2,.ptr 0 0 0),(3,.ptr 1 0 0),(4,.ptr 2 0 0),(5,.own 3 0 v1.length),(6,.int ((v2.length:Nat):Int)),(7,.own 4 0 x1.1.length),(16,.int ((v2.length:Nat):Int)),(17,.int x1.2)] [(0,⟨6,[eR a0]⟩),(1,⟨6,[eR a1]⟩),(2,⟨3,[fN]⟩),(3,⟨3,v1.map (ow eM)⟩),(4,⟨1,x1.1.map (ow (dQ 1 eI))⟩)] 5) (λr e t=>e= .exit 0∧Ent t (mN [(2,.ptr 0 0 0),(3,.ptr 1 0 0),(4,.ptr 2 0 0),(7,.own 3 0 r.length)] [(0,⟨6,[eR a0]⟩),(1,⟨6,[eR a1]⟩),(2,⟨3,[fN]⟩),(3,⟨1,r.map (ow (dQ 1 eI))⟩)] 4)) (hO (σ:=sg [(0,0),(1,1),(2,2),(3,3)]) (kW 5 k2 (iC ⟨_,k,⟨k,k,k,k⟩⟩ (bG k2))) (bH k<|bH k<|bH k<|dY (jZ.plainO _) k<|hX k k<|aX) k) ?_ ?_
 ·intro x1 o h;refine sR<|cm k4<|an<|tn<|sQ<|cV k h (λ_ h=>?_) λ_ h=>aW<|aB<|aB<|sp h ⟨_,k,k,(jI [0,1,2,4] (bG k2) (bH k<|bH k<|bH k<|dY (bW.plainO _) k<|aX) k4)⟩;refine aI<|tn<|sQ<|aC<|sR<|am k k<|aT k2<|sR<|am k k<|cG h λq9 h=>ae (vX aP q9 k k k k k k k k) k<|aT k2<|aL (t:=mN [(2,.ptr 0 0 0),(3,.ptr 1 0 0),(4,.ptr 2 0 0),(5,.own 3 0 v1.length),(6,.int ((v2.length:Nat):Int)),(7,.own 4 0 x1.1.length),(8,.int x1.2),(9,.own 5 0 ((List.replicate (((v2.length:Nat):Int).toNat) (0:Int)).length)),(16,.int ((v2.length:Nat):Int)),(17,.int x1.2)] [(0,⟨6,[eR a0]⟩),(1,⟨6,[eR a1]⟩),(2,⟨3,[fN]⟩),(3,⟨3,v1.map (ow eM)⟩),(4,⟨1,x1.1.map (ow (dQ 1 eI))⟩),(5,⟨1,List.map (ow eI) (List.replicate (((v2.length:Nat):Int).toNat) (0:Int))⟩)] 6) (bO (kW 7 k2 (iC ⟨_,k,⟨k,k,(by simp only [aR,lA,lT,lR,lC,lN]),k⟩⟩ (bG k2))) (bH k<|bH k<|bH k<|dY (jZ.plainO _) k<|dY (bW.plainO _) k<|hX ⟨_,k,k,.inl ⟨xA (e:=eI) (z:=0) _,dT.plainO _⟩⟩ k<|aX) k4)<|sR<|am k k<|am k k<|oB h λv4 hv4 h=>ae (xo hv4 k) k<|ae (fK aP kX (u:=1) (dI hv4) k k k k k k) k<|an<|tn<|aQ fA<|am k k<|lp k8 ?_;exact lp k8<|am k k<|am k k<|oB h λv5 hv5 h=>ae (cL jZ (aIm v1 ((List.replicate (((v2.length:Nat):Int).toNat) (0:Int)).set x1.2.toNat 1) v5 hv5) k3 (aG (yZ jZ k k) (aG (yZ dT k (by first|rfl|simp only [List.length_set])) aE))) k<|oB h λv6 hv6 h=>ae (cL jZ (aEQ a0 a1 v5 v6 hv6) k3 (aG (eG k) (aG (eG k) (aG (yZ jZ k k) aE)))) k<|oB h λv7 hv7 h=>ae (cL dT (aCT v6 v7 hv7) k3 (aG (yZ jZ k k) aE)) k<|ae (wl k) k<|cG h λq8 h=>ae (kY aP (l:=x1.1) (c:=[.own 8 0 v7.length]) q8 k k k k k k k k k k k k k k) k<|aa k k<|an<|oA (by kernel_rfl)<|aY<|tn<|aL (t:=mN [(2,.ptr 0 0 0),(3,.ptr 1 0 0),(4,.ptr 2 0 0),(5,.own 3 0 v1.length),(6,.int ((v2.length:Nat):Int)),(7,.own 10 0 ((x1.1++[v7]).length)),(16,.int ((v2.length:Nat):Int)),(17,.int x1.2)] [(0,⟨6,[eR a0]⟩),(1,⟨6,[eR a1]⟩),(2,⟨3,[fN]⟩),(3,⟨3,v1.map (ow eM)⟩),(10,⟨1,List.map (ow (dQ 1 eI)) (x1.1++[v7])⟩)] 11) (Ent.trans (fX (b:=10) (b':=8) (j:=0) (es':=v7.map eI) k k k k (aR _ _) (dT.frzs _)) (bO (kW 5 k2 (iC ⟨_,k,⟨k,k,(by simp only [aR,lA,lT,lR,lC,lN]),k⟩⟩ (bG k2))) (bH k<|bH k<|bH k<|dY (jZ.plainO _) k<|hX ⟨_,k,k,.inl ⟨mI v7 k,bW.plainO _⟩⟩ k<|aX) k4))<|rg<|ae (bB k k) k<|am k k<|an<|tn<|sp h ⟨_,k,(jI [0,1,2,3,10] (bG k2) (bH k<|bH k<|bH k<|dY (jZ.plainO _) k<|dY (bW.plainO _) k<|aX) k4)⟩
 ·rintro e t ⟨rfl,hent⟩;exact aM<|tn<|aL hent<|sR<|lp k8<|lp k8<|oB h λv11 hv11 h=>ae (cL jZ (aDE a0 a1 v11 hv11) k3 (aG (eG k) (aG (eG k) aE))) k<|oB h λv12 hv12 h=>ae (cL dT (aCT v11 v12 hv12) k3 (aG (yZ jZ k k) aE)) k<|ae (dW aP k k k k) k<|am k k<|oB h λv13 hv13 h=>ae (cM (vM ((v12.length:Nat):Int) y10 v13 hv13) k3 (bZ k (aG (yZ bW k k) aE))) k<|ae (ws k) k<|an<|tn<|aD<|sp h (aZ k k k (jH (bD (k) (bD (k) (bD (eH dT k k) eV)))))
def tT (a0:Rp) (a1:Rp):Option Int:=
 (lZ a0 a1).bind λv1=>
 (vS a0.p v1).bind λv2=>
 some (wr (v1.cols - v2))
theorem aDK (a0:Rp) (a1:Rp) (r:Int) (h:tT a0 a1=some r):HasC Tryz.prog 107 [.agg (eR a0),.agg (eR a1)] (.int r):=by
 refine hM [.tmp 4] Tryz.func107 Tryz.ntmps107 k<|sR<|ae (wb k) k<|ae (wb k) k<|aT k2<|sR<|lp k8<|lp k8<|oB h λv1 hv1 h=>ae (cM (aAi a0 a1 v1 hv1) k3 (aG (eG k) (aG (eG k) aE))) k<|ae (bX aP k k) k<|ae (ws k) k<|an<|tn<|sQ<|aQ fA<|fp k8<|lp k8<|fp k8<|lp k8<|lp k8<|oB h λv2 hv2 h=>ae (aH (aCR a0.p v1 v2 hv2) k (bZ k (aG (vaM k2) aE))) k<|ae (mP k k) k<|aa k k<|an<|oA (by kernel_rfl)<|tn ?_;exact aD<|yT h k2
def xX (a0:Rp) (a1:Rp):Option Int:=
 (xD a0 a1).bind λv1=>
 bif !v1 then
 (some ((-1)))
 else
 ((tT a0 a1).bind λv3=>
 some (v3))
theorem aIn (a0:Rp) (a1:Rp) (r:Int) (h:xX a0 a1=some r):HasC Tryz.prog 55 [.agg (eR a0),.agg (eR a1)] (.int r):=by
 exact hM [.tmp 4] Tryz.func55 Tryz.ntmps55 k<|sR<|ae (wb k) k<|ae (wb k) k<|aT k2<|sQ<|sR<|lp k8<|lp k8<|oB h λv1 hv1 h=>ae (aH (aHc a0 a1 v1 hv1) k (aG (eG k) (aG (eG k) aE))) k<|ae (dB k) k<|an<|tn<|cV k h (λ_ h=>sR<|aT k2<|aD<|aJ<|yT h k2) λ_ h=>aI<|tn<|sR<|lp k8<|lp k8<|oB h λv3 hv3 h=>ae (aH (aDK a0 a1 v3 hv3) k (aG (eG k) (aG (eG k) aE))) k<|aT k2<|aD<|yT h k2
def oY (a0:Rp) (x1:(Int×Int)):Option ((Int×Int) ⊕ Int):=
 bif decide (x1.2<(a0.dims.length:Int)) then
 ((cP a0.dims x1.2).bind λv5=>
 some (.inl (wr (x1.1+(wr (v5*v5))),wr (x1.2+1))))
 else
 (some (.inr x1.1))
def uP (a0:Rp):Option Int:=
 (fS a0).bind λv1=>
 bif !v1 then
 (some ((-1)))
 else
 ((tT a0 a0).bind λv3=>
 (Lp (oY a0) (wr (-v3),0)).bind λy6=>
 some (y6))
theorem aGJ (a0:Rp) (r:Int) (h:uP a0=some r):HasC Tryz.prog 57 [.agg (eR a0)] (.int r):=by
 refine hM [.tmp 2] Tryz.func57 Tryz.ntmps57 k<|sR<|ae (wb k) k<|aT k2<|sQ<|sR<|lp k8<|oB h λv1 hv1 h=>ae (aH (iD a0 v1 hv1) k (aG (eG k) aE)) k<|ae (dB k) k<|an<|tn<|cV k h (λ_ h=>sR<|aT k2<|aD<|aJ<|yT h k2) λ_ h=>?_;refine aI<|tn<|sR<|lp k8<|lp k8<|oB h λv3 hv3 h=>ae (aH (aDK a0 a0 v3 hv3) k (aG (eG k) (aG (eG k) aE))) k<|ae (aRQ k) k<|aT k2<|sQ<|sR<|fp k8<|lp k8<|ln k4<|am k k<|an<|tn<|aC<|oB h λy6 hy6 h=>bU (body:=(oY a0)) hy6 (λ(x1:(Int×Int))=>mN [(3,.int x1.1),(14,.list 1 (a0.dims.map eI)),(15,.int (a0.dims.length:Int)),(16,.int x1.2)] [] 0) (λr e t=>e= .exit 0∧Ent t (mN [(3,.int r)] [] 0)) (bO (bG k2) aX k4) ?_ ?_
 ·intro x1 o h;exact sR<|cm k4<|an<|tn<|sQ<|cV k h (λ_ h=>aI<|tn<|sQ<|aC<|sR<|oB h λv5 hv5 h=>ae (xl hv5 k) k<|lr k7<|aT k2<|rg<|am k k<|am k k<|am k k<|ae (eX k k) k<|ae (bB k k) k<|aa k k<|an<|aY<|tn<|rg<|ae (bB k k) k<|am k k<|an<|tn<|sp h ⟨_,k,(bO (bG k2) aX k4)⟩) λ_ h=>aW<|aB<|aB<|sp h ⟨_,k,k,(bO (bG k2) aX k4)⟩
 ·rintro e t ⟨rfl,hent⟩;exact aM<|tn<|aL hent<|sR<|am k k<|aT k2<|aD<|yT h k2
def oZ (a0:Int) (v1:(Mt×(List Int))) (x1:(Int×(List (List Int)))) (x2:((List Int)×Int)):Option (((List Int)×Int) ⊕ (List Int)):=
 bif decide (x2.2<((v1.2.length:Nat):Int)) then
 ((cP v1.2 x2.2).bind λv7=>
 (cP v1.1.cells (wr ((wr (x2.2*v1.1.cols))+x1.1))).bind λv8=>
 (fZ a0 (wr (-v8))).bind λv9=>
 (cP x2.1 v7).bind λv10=>
 some (.inl ((x2.1.set v7.toNat v9),wr (x2.2+1))))
 else
 (some (.inr x2.1))
def pA (a0:Int) (v1:(Mt×(List Int))) (x1:(Int×(List (List Int)))):Option ((Int×(List (List Int))) ⊕ (List (List Int))):=
 bif decide (x1.1<v1.1.cols) then
 ((zB v1.2 x1.1).bind λv3=>
 bif v3 then
 (some (.inl (wr (x1.1+1),x1.2)))
 else
 (bif (decide (0≤v1.1.cols)&&decide (v1.1.cols≤1048576)) then
 ((cP (List.replicate v1.1.cols.toNat (0:Int)) x1.1).bind λv5=>
 (Lp (oZ a0 v1 x1) (((List.replicate v1.1.cols.toNat (0:Int)).set x1.1.toNat 1),0)).bind λy11=>
 bif decide (x1.2.length+1≤4294967296) then
 (some (.inl (wr (x1.1+1),(x1.2++[y11]))))
 else none)
 else none))
 else
 (some (.inr x1.2))
def lD (a0:Int) (a1:Mt):Option (List (List Int)):=
 (gV a0 a1).bind λv1=>
 (Lp (pA a0 v1) (0,([]:(List (List Int))))).bind λy14=>
 some (y14)
theorem yO (a0:Int) (a1:Mt) (r:(List (List Int))) (h:lD a0 a1=some r):HasC Tryz.prog 142 [.int a0,.agg (eM a1)] (.list 1 (r.map (dQ 1 eI))):=by
 refine hM [.tmp 4] Tryz.func142 Tryz.ntmps142 k<|sR<|ae (wb k) k<|aT k2<|sR<|am k k<|lp k8<|oB h λv1 hv1 h=>ae (AEff.conv (iB (x:= .tuple [.agg [.int v1.1.rows,.int v1.1.cols,.own 1 0 (v1.1.cells.map eI).length],.own 2 0 (v1.2.map eI).length]) (nb:=[(1,⟨1,dA (v1.1.cells.map eI)⟩),(2,⟨1,dA (v1.2.map eI)⟩)]) (pP a0 a1 v1 hv1) k (by rfl) k k (eJ (cH aX (cH aX (cH (dT.good _) nM))) (eJ (dT.good _) tK)) (bZ k (aG (eG k) aE))) (v':= .tuple [.agg [.int v1.1.rows,.int v1.1.cols,.own 1 0 v1.1.cells.length],.own 2 0 v1.2.length]) (ed':=[(1,some ⟨1,v1.1.cells.map (ow eI)⟩),(2,some ⟨1,v1.2.map (ow eI)⟩)]) (by simp only [aR]) (rJ (nb':=[(1,⟨1,v1.1.cells.map (ow eI)⟩),(2,⟨1,v1.2.map (ow eI)⟩)]) (by simp only [fW]))) k<|am k k<|ae (bP k k (by intro _ h;cases h)) k<|ae (bP k k (by intro _ h;cases h)) k<|ae (bX aP k k) k<|ae (ws k) k<|aT k2<|sR<|ae (wl k) k<|aT k2<|aL (t:=mN [(0,.int a0),(5,.ptr 3 0 0),(6,.own 2 0 v1.2.length),(7,.own 4 0 (([]:(List (List Int))).length))] [(1,⟨1,v1.1.cells.map (ow eI)⟩),(2,⟨1,v1.2.map (ow eI)⟩),(3,⟨3,[oMt v1.1 1]⟩),(4,⟨1,List.map (ow (dQ 1 eI)) ([]:(List (List Int)))⟩)] 5) (bO (kW 3 k2 (iC ⟨_,k,⟨k,k,(by simp only [aR,lA,lT,lR,lC,lN]),k⟩⟩ aX)) (cB k<|cB k<|gX k<|dY (bW.plainO _) k<|aX) k4)<|sQ<|sR ?_;refine aT k2<|aC<|oB h λy14 hy14 h=>bU (body:=(pA a0 v1)) hy14 (λ(x1:(Int×(List (List Int))))=>mN [(0,.int a0),(5,.ptr 0 0 0),(6,.own 2 0 v1.2.length),(7,.own 3 0 x1.2.length),(8,.int x1.1)] [(0,⟨3,[oMt v1.1 1]⟩),(1,⟨1,v1.1.cells.map (ow eI)⟩),(2,⟨1,v1.2.map (ow eI)⟩),(3,⟨1,x1.2.map (ow (dQ 1 eI))⟩)] 4) (λr e t=>e= .exit 0∧Ent t (mN [(7,.own 0 0 r.length)] [(0,⟨1,r.map (ow (dQ 1 eI))⟩)] 1)) (jI [3,1,2,4] (bG k2) (gX k<|cB k<|cB k<|dY (bW.plainO _) k<|aX) k4) ?_ ?_
 ·intro x1 o h;refine sQ<|sR<|am k k<|fp k8<|lp k8<|cm k4<|an<|tn<|cV k h (λ_ h=>?_) λ_ h=>aW<|aB<|aB<|sp h ⟨_,k,k,(jI [3] (bG k2) (dY (bW.plainO _) k<|aX) k4)⟩;refine aI<|tn<|sQ<|aC<|sQ<|sR<|am k k<|am k k<|oB h λv3 hv3 h=>ae (aH (aKX v1.2 x1.1 v3 hv3) k (vcT k k (bZ k aE))) k<|an<|tn<|cV k h (λ_ h=>aW<|aB<|aM<|tn<|rg<|am k k<|ae (bB k k) k<|aT k2<|sp h ⟨_,k,(bO (bG k2) (gX k<|cB k<|cB k<|dY (bW.plainO _) k<|aX) k4)⟩) λ_ h=>?_;refine aI<|tn<|sR<|fp k8<|lp k8<|cG h λq13 h=>ae (vX aP q13 k k k k k k k k) k<|aT k2<|aL (t:=mN [(0,.int a0),(5,.ptr 0 0 0),(6,.own 2 0 v1.2.length),(7,.own 3 0 x1.2.length),(8,.int x1.1),(9,.own 4 0 ((List.replicate v1.1.cols.toNat (0:Int)).length))] [(0,⟨3,[oMt v1.1 1]⟩),(1,⟨1,v1.1.cells.map (ow eI)⟩),(2,⟨1,v1.2.map (ow eI)⟩),(3,⟨1,x1.2.map (ow (dQ 1 eI))⟩),(4,⟨1,List.map (ow eI) (List.replicate v1.1.cols.toNat (0:Int))⟩)] 5) (bO (kW 5 k2 (iC ⟨_,k,⟨k,k,(by simp only [aR,lA,lT,lR,lC,lN]),k⟩⟩ aX)) (gX k<|cB k<|cB k<|dY (bW.plainO _) k<|hX ⟨_,k,k,.inl ⟨xA (e:=eI) (z:=0) _,dT.plainO _⟩⟩ k<|aX) k4)<|sR<|am k k<|am k k<|oB h λv5 hv5 h=>ae (xo hv5 k) k<|ae (fK aP kX (u:=1) (dI hv5) k k k k k k) k<|an<|tn<|sQ<|sR<|aT k2<|aC<|oB h λy11 hy11 h=>bU (body:=(oZ a0 v1 x1)) hy11 (λ(x2:((List Int)×Int))=>mN [(0,.int a0),(5,.ptr 0 0 0),(6,.own 2 0 v1.2.length),(7,.own 3 0 x1.2.length),(8,.int x1.1),(9,.own 4 0 x2.1.length),(10,.int x2.2)] [(0,⟨3,[oMt v1.1 1]⟩),(1,⟨1,v1.1.cells.map (ow eI)⟩),(2,⟨1,v1.2.map (ow eI)⟩),(3,⟨1,x1.2.map (ow (dQ 1 eI))⟩),(4,⟨1,x2.1.map (ow eI)⟩)] 5) (λr e t=>e= .exit 2∧Ent t (mN [(0,.int a0),(5,.ptr 0 0 0),(6,.own 2 0 v1.2.length),(7,.own 3 0 x1.2.length),(8,.int x1.1),(9,.own 4 0 r.length)] [(0,⟨3,[oMt v1.1 1]⟩),(1,⟨1,v1.1.cells.map (ow eI)⟩),(2,⟨1,v1.2.map (ow eI)⟩),(3,⟨1,x1.2.map (ow (dQ 1 eI))⟩),(4,⟨1,r.map (ow eI)⟩)] 5)) (bO (kW 5 k2 (iC ⟨_,k,⟨k,k,(by simp only [aR,lA,lT,lR,lC,lN]),k⟩⟩ (bG k2))) (gX k<|cB k<|cB k<|dY (bW.plainO _) k<|cB k<|aX) k4) ?_ ?_
  ·intro x2 o h;refine sQ<|sR<|am k k<|am k k<|ae (dW aP k k k k) k<|cm k4<|an<|tn<|cV k h (λ_ h=>?_) λ_ h=>aW<|aB<|aB<|sp h ⟨_,k,k,(bO (bG k2) (gX k<|cB k<|cB k<|dY (bW.plainO _) k<|cB k<|aX) k4)⟩;refine aI<|tn<|sQ<|aC<|aQ fA<|am k k<|am k k<|am k k<|oB h λv7 hv7 h=>ae (xo hv7 k) k<|ae (wp hv7 k) k<|am k k<|fp k8<|lp k8<|am k k<|fp k8<|lp k8<|ae (eX k k) k<|am k k<|ae (bB k k) k<|oB h λv8 hv8 h=>ae (xo hv8 k) k<|ae (wp hv8 k) k<|ae (aRQ k) k<|oB h λv9 hv9 h=>ae (aH (jJ a0 (wr (-v8)) v9 hv9) k (bZ k (bZ k aE))) k<|oB h λv10 hv10 h=>ae (xo hv10 k) k<|ae (fK aP kX (u:=v9) (dI hv10) k k k k k k) k<|an<|oA (by kernel_rfl)<|aY<|tn ?_;exact aL (t:=mN [(0,.int a0),(5,.ptr 0 0 0),(6,.own 2 0 v1.2.length),(7,.own 3 0 x1.2.length),(8,.int x1.1),(9,.own 4 0 ((x2.1.set v7.toNat v9).length)),(10,.int x2.2)] [(0,⟨3,[oMt v1.1 1]⟩),(1,⟨1,v1.1.cells.map (ow eI)⟩),(2,⟨1,v1.2.map (ow eI)⟩),(3,⟨1,x1.2.map (ow (dQ 1 eI))⟩),(4,⟨1,List.map (ow eI) (x2.1.set v7.toNat v9)⟩)] 5) (bO (kW 5 k2 (iC ⟨_,k,⟨k,k,(by simp only [aR,lA,lT,lR,lC,lN]),k⟩⟩ (bG k2))) (gX k<|cB k<|cB k<|dY (bW.plainO _) k<|cB k<|aX) k4)<|rg<|am k k<|ae (bB k k) k<|aT k2<|sp h ⟨_,k,(bO (bG k2) (gX k<|cB k<|cB k<|dY (bW.plainO _) k<|cB k<|aX) k4)⟩
  ·rintro e t ⟨rfl,hent⟩;exact aM<|tn<|aL hent<|rg<|am k k<|am k k<|ae (wl k) k<|cG h λq12 h=>ae (kY aP (l:=x1.2) (c:=[.own 4 0 y11.length]) q12 k k k k k k k k k k k k k k) k<|aa k k<|an<|aY<|tn<|aL (t:=mN [(0,.int a0),(5,.ptr 0 0 0),(6,.own 2 0 v1.2.length),(7,.own 6 0 ((x1.2++[y11]).length)),(8,.int x1.1)] [(0,⟨3,[oMt v1.1 1]⟩),(1,⟨1,v1.1.cells.map (ow eI)⟩),(2,⟨1,v1.2.map (ow eI)⟩),(6,⟨1,List.map (ow (dQ 1 eI)) (x1.2++[y11])⟩)] 7) (Ent.trans (fX (b:=6) (b':=4) (j:=0) (es':=y11.map eI) k k k k (aR _ _) (dT.frzs _)) (bO (kW 3 k2 (iC ⟨_,k,⟨k,k,(by simp only [aR,lA,lT,lR,lC,lN]),k⟩⟩ (bG k2))) (gX k<|cB k<|cB k<|hX ⟨_,k,k,.inl ⟨mI y11 k,bW.plainO _⟩⟩ k<|aX) k4))<|rg<|am k k<|ae (bB k k) k<|aT k2<|sp h ⟨_,k,(jI [0,1,2,6] (bG k2) (gX k<|cB k<|cB k<|dY (bW.plainO _) k<|aX) k4)⟩
 ·rintro e t ⟨rfl,hent⟩;exact aM<|tn<|aL hent<|sR<|am k k<|aT k2<|aD<|sp h (aZ k k k (eB (eH bW k k)))
def uQ (a0:Rp) (a1:Rp) (a2:Int) (x1:(Int×Int)):Option ((Int×Int) ⊕ Int):=
 bif decide (x1.2<a2) then
 ((cP a0.dims x1.2).bind λv2=>
 (cP a1.dims x1.2).bind λv3=>
 some (.inl (wr (x1.1+(wr (v2*v3))),wr (x1.2+1))))
 else
 (some (.inr x1.1))
def wD (a0:Rp) (a1:Rp) (a2:Int):Option Int:=
 (Lp (uQ a0 a1 a2) (0,0)).bind λy4=>
 some (y4)
theorem aER (a0:Rp) (a1:Rp) (a2:Int) (r:Int) (h:wD a0 a1 a2=some r):HasC Tryz.prog 146 [.agg (eR a0),.agg (eR a1),.int a2] (.int r):=by
 refine hM [.tmp 6] Tryz.func146 Tryz.ntmps146 k<|sR<|ae (wb k) k<|ae (wb k) k<|aT k2<|sR<|aT k2<|sQ<|sR<|aT k2<|aC<|oB h λy4 hy4 h=>bU (body:=(uQ a0 a1 a2)) hy4 (λ(x1:(Int×Int))=>mN [(2,.int a2),(3,.ptr 0 0 0),(4,.ptr 1 0 0),(7,.int x1.1),(8,.int x1.2)] [(0,⟨6,[eR a0]⟩),(1,⟨6,[eR a1]⟩)] 2) (λr e t=>e= .exit 0∧Ent t (mN [(7,.int r)] [] 0)) (bO (bG k2) (bH k<|bH k<|aX) k4) ?_ ?_
 ·intro x1 o h;exact sQ<|sR<|am k k<|am k k<|cm k4<|an<|tn<|cV k h (λ_ h=>aI<|tn<|sQ<|aC<|aQ fA<|am k k<|fp k8<|lp k8<|am k k<|oB h λv2 hv2 h=>ae (xl hv2 k) k<|lr k7<|fp k8<|lp k8<|am k k<|oB h λv3 hv3 h=>ae (xl hv3 k) k<|lr k7<|ae (eX k k) k<|ae (bB k k) k<|aa k k<|an<|oA (by kernel_rfl)<|aY<|tn<|rg<|am k k<|ae (bB k k) k<|aT k2<|sp h ⟨_,k,(bO (bG k2) (bH k<|bH k<|aX) k4)⟩) λ_ h=>aW<|aB<|aB<|sp h ⟨_,k,k,(bO (bG k2) aX k4)⟩
 ·rintro e t ⟨rfl,hent⟩;exact aM<|tn<|aL hent<|sR<|am k k<|aT k2<|aD<|yT h k2
def qM (a0:Rp) (a1:Rp) (x1:(Int×Int)):Option ((Int×Int) ⊕ Int):=
 bif decide (x1.2<(a0.dims.length:Int)) then
 ((cP a0.dims x1.2).bind λv2=>
 (cP a1.dims x1.2).bind λv3=>
 some (.inl (wr (x1.1+(wr (v2*v3))),wr (x1.2+1))))
 else
 (some (.inr x1.1))
def wF (a0:Rp) (a1:Rp):Option Int:=
 (Lp (qM a0 a1) (0,0)).bind λy4=>
 some (y4)
theorem aHq (a0:Rp) (a1:Rp) (r:Int) (h:wF a0 a1=some r):HasC Tryz.prog 145 [.agg (eR a0),.agg (eR a1)] (.int r):=by
 refine hM [.tmp 4] Tryz.func145 Tryz.ntmps145 k<|sR<|ae (wb k) k<|ae (wb k) k<|aT k2<|sR<|aT k2<|sQ<|sR<|aT k2<|aC<|oB h λy4 hy4 h=>bU (body:=(qM a0 a1)) hy4 (λ(x1:(Int×Int))=>mN [(2,.ptr 0 0 0),(3,.ptr 1 0 0),(5,.int x1.1),(6,.int x1.2)] [(0,⟨6,[eR a0]⟩),(1,⟨6,[eR a1]⟩)] 2) (λr e t=>e= .exit 0∧Ent t (mN [(5,.int r)] [] 0)) (bO (bG k2) (bH k<|bH k<|aX) k4) ?_ ?_
 ·intro x1 o h;exact sQ<|sR<|am k k<|fp k8<|lp k8<|ln k4<|cm k4<|an<|tn<|cV k h (λ_ h=>aI<|tn<|sQ<|aC<|aQ fA<|am k k<|fp k8<|lp k8<|am k k<|oB h λv2 hv2 h=>ae (xl hv2 k) k<|lr k7<|fp k8<|lp k8<|am k k<|oB h λv3 hv3 h=>ae (xl hv3 k) k<|lr k7<|ae (eX k k) k<|ae (bB k k) k<|aa k k<|an<|oA (by kernel_rfl)<|aY<|tn<|rg<|am k k<|ae (bB k k) k<|aT k2<|sp h ⟨_,k,(bO (bG k2) (bH k<|bH k<|aX) k4)⟩) λ_ h=>aW<|aB<|aB<|sp h ⟨_,k,k,(bO (bG k2) aX k4)⟩
 ·rintro e t ⟨rfl,hent⟩;exact aM<|tn<|aL hent<|sR<|am k k<|aT k2<|aD<|yT h k2
def gP (a0:Rp) (a1:Rp) (v3:Int) (x1:(Int×(List Int)×Int)) (x2:(Int×(List Int)×Int)) (x3:(Int×(List Int)×Int)) (x4:((List Int)×Int)):Option (((List Int)×Int) ⊕ (List Int)):=
 (cP a1.dims v3).bind λv9=>
 bif decide (x4.2<v9) then
 ((wD a0 a1 v3).bind λv11=>
 (cP a0.dims v3).bind λv12=>
 (cP x4.1 (wr ((wr (v11+(wr (x4.2*v12))))+x3.2.2))).bind λv13=>
 (cP a1.maps x1.2.2).bind λv14=>
 (cP a1.dims v3).bind λv15=>
 (cP v14.cells (wr ((wr (x2.2.2*v15))+x4.2))).bind λv16=>
 (fZ a0.p (wr (v13+v16))).bind λv17=>
 (cP x4.1 (wr ((wr (v11+(wr (x4.2*v12))))+x3.2.2))).bind λv18=>
 some (.inl ((x4.1.set ((wr ((wr (v11+(wr (x4.2*v12))))+x3.2.2)).toNat) v17),wr (x4.2+1))))
 else
 (some (.inr x4.1))
def gQ (a0:Rp) (a1:Rp) (v3:Int) (v4:Int) (x1:(Int×(List Int)×Int)) (x2:(Int×(List Int)×Int)) (x3:(Int×(List Int)×Int)) (x5:((List Int)×Int)):Option (((List Int)×Int) ⊕ (List Int)):=
 (cP a0.dims v4).bind λv20=>
 bif decide (x5.2<v20) then
 ((wD a0 a1 v4).bind λv22=>
 (cP a0.dims v4).bind λv23=>
 (cP x5.1 (wr ((wr (v22+(wr (x2.2.2*v23))))+x5.2))).bind λv24=>
 (cP a0.maps x1.2.2).bind λv25=>
 (cP a0.dims v3).bind λv26=>
 (cP v25.cells (wr ((wr (x5.2*v26))+x3.2.2))).bind λv27=>
 (fZ a0.p (wr (v24 - v27))).bind λv28=>
 (cP x5.1 (wr ((wr (v22+(wr (x2.2.2*v23))))+x5.2))).bind λv29=>
 some (.inl ((x5.1.set ((wr ((wr (v22+(wr (x2.2.2*v23))))+x5.2)).toNat) v28),wr (x5.2+1))))
 else
 (some (.inr x5.1))
def jL (a0:Rp) (a1:Rp) (v1:Int) (v3:Int) (v4:Int) (x1:(Int×(List Int)×Int)) (x2:(Int×(List Int)×Int)) (x3:(Int×(List Int)×Int)):Option ((Int×(List Int)×Int) ⊕ (Int×(List Int))):=
 (cP a0.dims v3).bind λv7=>
 bif decide (x3.2.2<v7) then
 (bif (decide (0≤v1)&&decide (v1≤1048576)) then
 ((Lp (gP a0 a1 v3 x1 x2 x3) ((List.replicate v1.toNat (0:Int)),0)).bind λy19=>
 (Lp (gQ a0 a1 v3 v4 x1 x2 x3) (y19,0)).bind λy30=>
 bif decide (x3.2.1.length+y30.length≤4294967296) then
 (some (.inl (wr (x3.1+1),(x3.2.1++y30),wr (x3.2.2+1))))
 else none)
 else none)
 else
 (some (.inr (x3.1,x3.2.1)))
def jM (a0:Rp) (a1:Rp) (v1:Int) (v3:Int) (v4:Int) (x1:(Int×(List Int)×Int)) (x2:(Int×(List Int)×Int)):Option ((Int×(List Int)×Int) ⊕ (Int×(List Int))):=
 (cP a1.dims v4).bind λv5=>
 bif decide (x2.2.2<v5) then
 ((Lp (jL a0 a1 v1 v3 v4 x1 x2) (x2.1,x2.2.1,0)).bind λy33=>
 some (.inl (y33.1,y33.2,wr (x2.2.2+1))))
 else
 (some (.inr (x2.1,x2.2.1)))
def jN (a0:Rp) (a1:Rp) (v1:Int) (x1:(Int×(List Int)×Int)):Option ((Int×(List Int)×Int) ⊕ (Int×(List Int))):=
 bif decide (x1.2.2<(a0.maps.length:Int)) then
 ((cP a0.q.src x1.2.2).bind λv3=>
 (cP a0.q.tgt x1.2.2).bind λv4=>
 (Lp (jM a0 a1 v1 v3 v4 x1) (x1.1,x1.2.1,0)).bind λy34=>
 some (.inl (y34.1,y34.2,wr (x1.2.2+1))))
 else
 (some (.inr (x1.1,x1.2.1)))
def jD (a0:Rp) (a1:Rp):Option Mt:=
 (wF a0 a1).bind λv1=>
 (Lp (jN a0 a1 v1) (0,([]:(List Int)),0)).bind λy35=>
 some ((⟨y35.1,v1,y35.2⟩:Mt))
theorem yV (a0:Rp) (a1:Rp) (r:Mt) (h:jD a0 a1=some r):HasC Tryz.prog 89 [.agg (eR a0),.agg (eR a1)] (.agg (eM r)):=by
 refine hM [.cell 4 96] Tryz.func89 Tryz.ntmps89 k<|sR<|ae (wb k) k<|ae (wb k) k<|ae (bX aP k k) k<|an<|tn<|sR<|lp k8<|lp k8<|oB h λv1 hv1 h=>ae (aH (aHq a0 a1 v1 hv1) k (aG (eG k) (aG (eG k) aE))) k<|aT k2<|sR<|am k k<|ae (wl k) k<|ae (fY aP k k k k k k) k<|ae (bX aP k k) k<|ae (ws k) k<|an<|tn<|aL (t:=mN [(2,.ptr 0 0 0),(3,.ptr 1 0 0),(4,.ptr 2 0 0),(5,.int v1),(6,.ptr 4 0 0)] [(0,⟨6,[eR a0]⟩),(1,⟨6,[eR a1]⟩),(2,⟨3,[fN]⟩),(3,⟨1,List.map (ow eI) ([]:(List Int))⟩),(4,⟨3,[[.int 0,.int v1,.own 3 0 (([]:(List Int)).length)]]⟩)] 5) (bO (bG k2) (bH k<|bH k<|bH k<|cB k<|hX ⟨_,k,k,.inr ⟨_,_,k,⟨_,_,k,k,⟨_,_,k,k,⟨_,_,k,⟨k,k,(by simp only [aR,lA,lT,lR,lC,lN]),k⟩,k⟩⟩⟩,k⟩⟩ k<|aX) k4)<|sQ<|sR<|aa k k ?_;refine an<|tn<|aC<|oB h λy35 hy35 h=>bU (body:=(jN a0 a1 v1)) hy35 (λ(x1:(Int×(List Int)×Int))=>mN [(2,.ptr 0 0 0),(3,.ptr 1 0 0),(4,.ptr 2 0 0),(5,.int v1),(6,.ptr 3 0 0),(7,.int x1.2.2)] [(0,⟨6,[eR a0]⟩),(1,⟨6,[eR a1]⟩),(2,⟨3,[fN]⟩),(3,⟨3,[[.int x1.1,.int v1,.own 4 0 x1.2.1.length]]⟩),(4,⟨1,x1.2.1.map (ow eI)⟩)] 5) (λr e t=>e= .exit 0∧Ent t (mN [(4,.ptr 0 0 0),(6,.ptr 1 0 0)] [(0,⟨3,[fN]⟩),(1,⟨3,[[.int r.1,.int v1,.own 2 0 r.2.length]]⟩),(2,⟨1,r.2.map (ow eI)⟩)] 3)) (jI [0,1,2,4,3] (bG k2) (bH k<|bH k<|bH k<|gX k<|cB k<|aX) k4) ?_ ?_
 ·intro x1 o h;refine sQ<|sR<|am k k<|fp k8<|lp k8<|ln k4<|cm k4<|an<|tn<|cV k h (λ_ h=>?_) λ_ h=>aW<|aB<|aB<|sp h ⟨_,k,k,(jI [2,3,4] (bG k2) (bH k<|gX k<|cB k<|aX) k4)⟩;refine aI<|tn<|sQ<|aC<|sR<|fp k8<|fp k8<|lp k8<|am k k<|oB h λv3 hv3 h=>ae (xl hv3 k) k<|lr k7<|aT k2<|sR<|fp k8<|fp k8<|lp k8<|am k k<|oB h λv4 hv4 h=>ae (xl hv4 k) k<|lr k7<|aT k2<|sR<|aa k k ?_;refine an<|tn<|aC<|oB h λy34 hy34 h=>bU (body:=(jM a0 a1 v1 v3 v4 x1)) hy34 (λ(x2:(Int×(List Int)×Int))=>mN [(2,.ptr 0 0 0),(3,.ptr 1 0 0),(4,.ptr 2 0 0),(5,.int v1),(6,.ptr 3 0 0),(7,.int x1.2.2),(8,.int v3),(9,.int v4),(10,.int x2.2.2)] [(0,⟨6,[eR a0]⟩),(1,⟨6,[eR a1]⟩),(2,⟨3,[fN]⟩),(3,⟨3,[[.int x2.1,.int v1,.own 4 0 x2.2.1.length]]⟩),(4,⟨1,x2.2.1.map (ow eI)⟩)] 5) (λr e t=>e= .exit 2∧Ent t (mN [(2,.ptr 0 0 0),(3,.ptr 1 0 0),(4,.ptr 2 0 0),(5,.int v1),(6,.ptr 3 0 0),(7,.int x1.2.2)] [(0,⟨6,[eR a0]⟩),(1,⟨6,[eR a1]⟩),(2,⟨3,[fN]⟩),(3,⟨3,[[.int r.1,.int v1,.own 4 0 r.2.length]]⟩),(4,⟨1,r.2.map (ow eI)⟩)] 5)) (bO (bG k2) (bH k<|bH k<|bH k<|gX k<|cB k<|aX) k4) ?_ ?_
  ·intro x2 o h;refine sQ<|sR<|am k k<|fp k8<|lp k8<|am k k<|oB h λv5 hv5 h=>ae (xl hv5 k) k<|lr k7<|cm k4<|an<|tn<|cV k h (λ_ h=>?_) λ_ h=>aW<|aB<|aB<|sp h ⟨_,k,k,(bO (bG k2) (bH k<|bH k<|bH k<|gX k<|cB k<|aX) k4)⟩;refine aI<|tn<|sQ<|aC<|sR<|aT k2<|aC<|oB h λy33 hy33 h=>bU (body:=(jL a0 a1 v1 v3 v4 x1 x2)) hy33 (λ(x3:(Int×(List Int)×Int))=>mN [(2,.ptr 0 0 0),(3,.ptr 1 0 0),(4,.ptr 2 0 0),(5,.int v1),(6,.ptr 3 0 0),(7,.int x1.2.2),(8,.int v3),(9,.int v4),(10,.int x2.2.2),(11,.int x3.2.2)] [(0,⟨6,[eR a0]⟩),(1,⟨6,[eR a1]⟩),(2,⟨3,[fN]⟩),(3,⟨3,[[.int x3.1,.int v1,.own 4 0 x3.2.1.length]]⟩),(4,⟨1,x3.2.1.map (ow eI)⟩)] 5) (λr e t=>e= .exit 4∧Ent t (mN [(2,.ptr 0 0 0),(3,.ptr 1 0 0),(4,.ptr 2 0 0),(5,.int v1),(6,.ptr 3 0 0),(7,.int x1.2.2),(8,.int v3),(9,.int v4),(10,.int x2.2.2)] [(0,⟨6,[eR a0]⟩),(1,⟨6,[eR a1]⟩),(2,⟨3,[fN]⟩),(3,⟨3,[[.int r.1,.int v1,.own 4 0 r.2.length]]⟩),(4,⟨1,r.2.map (ow eI)⟩)] 5)) (bO (bG k2) (bH k<|bH k<|bH k<|gX k<|cB k<|aX) k4) ?_ ?_
   ·intro x3 o h;refine sQ<|sR<|am k k<|fp k8<|lp k8<|am k k<|oB h λv7 hv7 h=>ae (xl hv7 k) k<|lr k7<|cm k4<|an<|tn<|cV k h (λ_ h=>?_) λ_ h=>aW<|aB<|aB<|sp h ⟨_,k,k,(bO (bG k2) (bH k<|bH k<|bH k<|gX k<|cB k<|aX) k4)⟩;refine aI<|tn<|sQ<|aC<|sR<|am k k<|cG h λq32 h=>ae (vX aP q32 k k k k k k k k) k<|aT k2<|aL (t:=mN [(2,.ptr 0 0 0),(3,.ptr 1 0 0),(4,.ptr 2 0 0),(5,.int v1),(6,.ptr 3 0 0),(7,.int x1.2.2),(8,.int v3),(9,.int v4),(10,.int x2.2.2),(11,.int x3.2.2),(12,.own 5 0 ((List.replicate v1.toNat (0:Int)).length))] [(0,⟨6,[eR a0]⟩),(1,⟨6,[eR a1]⟩),(2,⟨3,[fN]⟩),(3,⟨3,[[.int x3.1,.int v1,.own 4 0 x3.2.1.length]]⟩),(4,⟨1,x3.2.1.map (ow eI)⟩),(5,⟨1,List.map (ow eI) (List.replicate v1.toNat (0:Int))⟩)] 6) (bO (kW 10 k2 (iC ⟨_,k,⟨k,k,(by simp only [aR,lA,lT,lR,lC,lN]),k⟩⟩ aX)) (bH k<|bH k<|bH k<|gX k<|cB k<|hX ⟨_,k,k,.inl ⟨xA (e:=eI) (z:=0) _,dT.plainO _⟩⟩ k<|aX) k4)<|sQ<|sR<|aT k2<|aC<|oB h λy19 hy19 h=>bU (body:=(gP a0 a1 v3 x1 x2 x3)) hy19 (λ(x4:((List Int)×Int))=>mN [(2,.ptr 0 0 0),(3,.ptr 1 0 0),(4,.ptr 2 0 0),(5,.int v1),(6,.ptr 3 0 0),(7,.int x1.2.2),(8,.int v3),(9,.int v4),(10,.int x2.2.2),(11,.int x3.2.2),(12,.own 5 0 x4.1.length),(13,.int x4.2)] [(0,⟨6,[eR a0]⟩),(1,⟨6,[eR a1]⟩),(2,⟨3,[fN]⟩),(3,⟨3,[[.int x3.1,.int v1,.own 4 0 x3.2.1.length]]⟩),(4,⟨1,x3.2.1.map (ow eI)⟩),(5,⟨1,x4.1.map (ow eI)⟩)] 6) (λr e t=>e= .exit 6∧Ent t (mN [(2,.ptr 0 0 0),(3,.ptr 1 0 0),(4,.ptr 2 0 0),(5,.int v1),(6,.ptr 3 0 0),(7,.int x1.2.2),(8,.int v3),(9,.int v4),(10,.int x2.2.2),(11,.int x3.2.2),(12,.own 5 0 r.length)] [(0,⟨6,[eR a0]⟩),(1,⟨6,[eR a1]⟩),(2,⟨3,[fN]⟩),(3,⟨3,[[.int x3.1,.int v1,.own 4 0 x3.2.1.length]]⟩),(4,⟨1,x3.2.1.map (ow eI)⟩),(5,⟨1,r.map (ow eI)⟩)] 6)) (bO (bG k2) (bH k<|bH k<|bH k<|gX k<|cB k<|cB k<|aX) k4) ?_ ?_
    ·intro x4 o h;refine sQ<|sR<|am k k<|fp k8<|lp k8<|am k k<|oB h λv9 hv9 h=>ae (xl hv9 k) k<|lr k7<|cm k4<|an<|tn<|cV k h (λ_ h=>?_) λ_ h=>aW<|aB<|aB<|sp h ⟨_,k,k,(bO (bG k2) (bH k<|bH k<|bH k<|gX k<|cB k<|cB k<|aX) k4)⟩;refine aI<|tn<|sQ<|aC<|sQ<|aQ fA<|lp k8<|lp k8<|am k k<|oB h λv11 hv11 h=>ae (aH (aER a0 a1 v3 v11 hv11) k (aG (eG k) (aG (eG k) (bZ k aE)))) k<|am k k<|fp k8<|lp k8<|am k k<|oB h λv12 hv12 h=>ae (xl hv12 k) k<|lr k7<|ae (eX k k) k<|ae (bB k k) k<|am k k<|ae (bB k k) k<|aa k k<|an<|oA (by kernel_rfl)<|tn<|aQ fA<|am k k<|am k k<|fp k8<|lp k8 ?_;refine am k k<|am k k<|oB h λv13 hv13 h=>ae (xo hv13 k) k<|ae (wp hv13 k) k<|fp k8<|lp k8<|am k k<|oB h λv14 hv14 h=>ae (xl hv14 k) k<|ae (vO aP k k k k k k) k<|lr k7<|am k k<|fp k8<|lp k8<|am k k<|oB h λv15 hv15 h=>ae (xl hv15 k) k<|lr k7<|ae (eX k k) k<|am k k<|ae (bB k k) k<|oB h λv16 hv16 h=>ae (xl hv16 k) k<|lr k7<|ae (bB k k) k<|oB h λv17 hv17 h=>ae (aH (jJ a0.p (wr (v13+v16)) v17 hv17) k (bZ k (bZ k aE))) k<|oB h λv18 hv18 h=>ae (xo hv18 k) k<|ae (fK aP kX (u:=v17) (dI hv18) k k k k k k) k<|an<|oA (by kernel_rfl)<|aY<|tn<|aL (t:=mN [(2,.ptr 0 0 0),(3,.ptr 1 0 0),(4,.ptr 2 0 0),(5,.int v1),(6,.ptr 3 0 0),(7,.int x1.2.2),(8,.int v3),(9,.int v4),(10,.int x2.2.2),(11,.int x3.2.2),(12,.own 5 0 ((x4.1.set ((wr ((wr (v11+(wr (x4.2*v12))))+x3.2.2)).toNat) v17).length)),(13,.int x4.2)] [(0,⟨6,[eR a0]⟩),(1,⟨6,[eR a1]⟩),(2,⟨3,[fN]⟩),(3,⟨3,[[.int x3.1,.int v1,.own 4 0 x3.2.1.length]]⟩),(4,⟨1,x3.2.1.map (ow eI)⟩),(5,⟨1,List.map (ow eI) (x4.1.set ((wr ((wr (v11+(wr (x4.2*v12))))+x3.2.2)).toNat) v17)⟩)] 6) (bO (kW 10 k2 (iC ⟨_,k,⟨k,k,(by simp only [aR,lA,lT,lR,lC,lN]),k⟩⟩ (bG k2))) (bH k<|bH k<|bH k<|gX k<|cB k<|cB k<|aX) k4) ?_;exact rg<|am k k<|ae (bB k k) k<|aT k2<|sp h ⟨_,k,(bO (bG k2) (bH k<|bH k<|bH k<|gX k<|cB k<|cB k<|aX) k4)⟩
    ·rintro e t ⟨rfl,hent⟩;refine aM<|tn<|aL hent<|sQ<|sR<|aT k2<|aC<|oB h λy30 hy30 h=>bU (body:=(gQ a0 a1 v3 v4 x1 x2 x3)) hy30 (λ(x5:((List Int)×Int))=>mN [(2,.ptr 0 0 0),(3,.ptr 1 0 0),(4,.ptr 2 0 0),(5,.int v1),(6,.ptr 3 0 0),(7,.int x1.2.2),(8,.int v3),(9,.int v4),(10,.int x2.2.2),(11,.int x3.2.2),(12,.own 5 0 x5.1.length),(15,.int x5.2)] [(0,⟨6,[eR a0]⟩),(1,⟨6,[eR a1]⟩),(2,⟨3,[fN]⟩),(3,⟨3,[[.int x3.1,.int v1,.own 4 0 x3.2.1.length]]⟩),(4,⟨1,x3.2.1.map (ow eI)⟩),(5,⟨1,x5.1.map (ow eI)⟩)] 6) (λr e t=>e= .exit 8∧Ent t (mN [(2,.ptr 0 0 0),(3,.ptr 1 0 0),(4,.ptr 2 0 0),(5,.int v1),(6,.ptr 3 0 0),(7,.int x1.2.2),(8,.int v3),(9,.int v4),(10,.int x2.2.2),(11,.int x3.2.2),(12,.own 5 0 r.length)] [(0,⟨6,[eR a0]⟩),(1,⟨6,[eR a1]⟩),(2,⟨3,[fN]⟩),(3,⟨3,[[.int x3.1,.int v1,.own 4 0 x3.2.1.length]]⟩),(4,⟨1,x3.2.1.map (ow eI)⟩),(5,⟨1,r.map (ow eI)⟩)] 6)) (bO (bG k2) (bH k<|bH k<|bH k<|gX k<|cB k<|cB k<|aX) k4) ?_ ?_
     ·intro x5 o h;refine sQ<|sR<|am k k<|fp k8<|lp k8<|am k k<|oB h λv20 hv20 h=>ae (xl hv20 k) k<|lr k7<|cm k4<|an<|tn<|cV k h (λ_ h=>?_) λ_ h=>aW<|aB<|aB<|sp h ⟨_,k,k,(bO (bG k2) (bH k<|bH k<|bH k<|gX k<|cB k<|cB k<|aX) k4)⟩;refine aI<|tn<|sQ<|aC<|sQ<|aQ fA<|lp k8<|lp k8<|am k k<|oB h λv22 hv22 h=>ae (aH (aER a0 a1 v4 v22 hv22) k (aG (eG k) (aG (eG k) (bZ k aE)))) k<|am k k<|fp k8<|lp k8<|am k k<|oB h λv23 hv23 h=>ae (xl hv23 k) k<|lr k7<|ae (eX k k) k<|ae (bB k k) k<|am k k<|ae (bB k k) k<|aa k k<|an<|oA (by kernel_rfl)<|tn<|aQ fA<|am k k<|am k k<|fp k8<|lp k8 ?_;refine am k k<|am k k<|oB h λv24 hv24 h=>ae (xo hv24 k) k<|ae (wp hv24 k) k<|fp k8<|lp k8<|am k k<|oB h λv25 hv25 h=>ae (xl hv25 k) k<|ae (vO aP k k k k k k) k<|lr k7<|am k k<|fp k8<|lp k8<|am k k<|oB h λv26 hv26 h=>ae (xl hv26 k) k<|lr k7<|ae (eX k k) k<|am k k<|ae (bB k k) k<|oB h λv27 hv27 h=>ae (xl hv27 k) k<|lr k7<|ae (mP k k) k<|oB h λv28 hv28 h=>ae (aH (jJ a0.p (wr (v24 - v27)) v28 hv28) k (bZ k (bZ k aE))) k<|oB h λv29 hv29 h=>ae (xo hv29 k) k<|ae (fK aP kX (u:=v28) (dI hv29) k k k k k k) k<|an<|oA (by kernel_rfl)<|aY<|tn<|aL (t:=mN [(2,.ptr 0 0 0),(3,.ptr 1 0 0),(4,.ptr 2 0 0),(5,.int v1),(6,.ptr 3 0 0),(7,.int x1.2.2),(8,.int v3),(9,.int v4),(10,.int x2.2.2),(11,.int x3.2.2),(12,.own 5 0 ((x5.1.set ((wr ((wr (v22+(wr (x2.2.2*v23))))+x5.2)).toNat) v28).length)),(15,.int x5.2)] [(0,⟨6,[eR a0]⟩),(1,⟨6,[eR a1]⟩),(2,⟨3,[fN]⟩),(3,⟨3,[[.int x3.1,.int v1,.own 4 0 x3.2.1.length]]⟩),(4,⟨1,x3.2.1.map (ow eI)⟩),(5,⟨1,List.map (ow eI) (x5.1.set ((wr ((wr (v22+(wr (x2.2.2*v23))))+x5.2)).toNat) v28)⟩)] 6) (bO (kW 10 k2 (iC ⟨_,k,⟨k,k,(by simp only [aR,lA,lT,lR,lC,lN]),k⟩⟩ (bG k2))) (bH k<|bH k<|bH k<|gX k<|cB k<|cB k<|aX) k4) ?_;exact rg<|am k k<|ae (bB k k) k<|aT k2<|sp h ⟨_,k,(bO (bG k2) (bH k<|bH k<|bH k<|gX k<|cB k<|cB k<|aX) k4)⟩
     ·rintro e t ⟨rfl,hent⟩;exact aM<|tn<|aL hent<|sR<|fp k8<|lp k8<|ae (bB k k) k<|fp k8<|ae (ws k) k<|an<|tn<|rg<|fp k8<|lp k8<|am k k<|cG h λq31 h=>ae (mQ aP (l:=x3.2.1) (m:=y30) kX q31 k k k k k (aUz dT k k) k k k k k k) k<|fp k8<|ae (ws k) k<|an<|aY<|tn<|rg<|am k k<|ae (bB k k) k<|aT k2<|sp h ⟨_,k,(jI [0,1,2,3,6] (bG k2) (bH k<|bH k<|bH k<|gX k<|cB k<|aX) k4)⟩
   ·rintro e t ⟨rfl,hent⟩;exact aM<|aY<|tn<|aL hent<|rg<|am k k<|ae (bB k k) k<|aT k2<|sp h ⟨_,k,(bO (bG k2) (bH k<|bH k<|bH k<|gX k<|cB k<|aX) k4)⟩
  ·rintro e t ⟨rfl,hent⟩;exact aM<|aY<|tn<|aL hent<|rg<|am k k<|ae (bB k k) k<|aT k2<|sp h ⟨_,k,(bO (bG k2) (bH k<|bH k<|bH k<|gX k<|cB k<|aX) k4)⟩
 ·rintro e t ⟨rfl,hent⟩;exact aM<|tn<|aL hent<|sR<|lp k8<|ae (ws k) k<|an<|tn<|aD<|sp h (aZ k k k (jH (bD (k) (bD (k) (bD (eH dT k k) eV)))))
def pB (a0:Rp) (a1:Rp) (a2:(List Int)) (x1:((List Mt)×Int×Int)):Option (((List Mt)×Int×Int) ⊕ (List Mt)):=
 bif decide (x1.2.2<(a0.dims.length:Int)) then
 ((cP a0.dims x1.2.2).bind λv2=>
 (cP a1.dims x1.2.2).bind λv3=>
 (cP a1.dims x1.2.2).bind λv4=>
 (cP a0.dims x1.2.2).bind λv5=>
 bif (decide (0≤x1.2.1)&&(decide (x1.2.1≤wr (x1.2.1+(wr (v2*v3))))&&decide (wr (x1.2.1+(wr (v2*v3)))≤(a2.length:Int)))) then
 (bif decide (([]:(List Int)).length +((a2.drop x1.2.1.toNat).take ((wr (x1.2.1+(wr (v2*v3)))).toNat - x1.2.1.toNat)).length ≤4294967296) then
 (bif decide (x1.1.length+1≤4294967296) then
 (some (.inl ((x1.1++[(⟨v4,v5,(([]:(List Int))++((a2.drop x1.2.1.toNat).take ((wr (x1.2.1+(wr (v2*v3)))).toNat - x1.2.1.toNat)))⟩:Mt)]),wr (x1.2.1+(wr (v2*v3))),wr (x1.2.2+1))))
 else none)
 else none)
 else none)
 else
 (some (.inr x1.1))
def uR (a0:Rp) (a1:Rp) (a2:(List Int)):Option (List Mt):=
 (Lp (pB a0 a1 a2) (([]:(List Mt)),0,0)).bind λy9=>
 some (y9)
theorem aGK (a0:Rp) (a1:Rp) (a2:(List Int)) (r:(List Mt)) (h:uR a0 a1 a2=some r):HasC Tryz.prog 143 [.agg (eR a0),.agg (eR a1),.list 1 (a2.map eI)] (.list 3 (r.map eM)):=by
 refine hM [.tmp 6] Tryz.func143 Tryz.ntmps143 k<|sR<|ae (wb k) k<|ae (wb k) k<|aT k2<|sR<|ae (wl k) k<|aT k2<|aL (t:=mN [(2,.list 1 (a2.map eI)),(3,.ptr 0 0 0),(4,.ptr 1 0 0),(7,.own 2 0 (([]:(List Mt)).length))] [(0,⟨6,[eR a0]⟩),(1,⟨6,[eR a1]⟩),(2,⟨3,List.map (ow eM) ([]:(List Mt))⟩)] 3) (bO (kW 3 k2 (iC ⟨_,k,⟨k,k,(by simp only [aR,lA,lT,lR,lC,lN]),k⟩⟩ aX)) (bH k<|bH k<|dY (jZ.plainO _) k<|aX) k4)<|sR<|aT k2<|sQ<|sR<|aT k2<|aC<|oB h λy9 hy9 h=>bU (body:=(pB a0 a1 a2)) hy9 (λ(x1:((List Mt)×Int×Int))=>mN [(2,.list 1 (a2.map eI)),(3,.ptr 0 0 0),(4,.ptr 1 0 0),(7,.own 2 0 x1.1.length),(8,.int x1.2.1),(9,.int x1.2.2)] [(0,⟨6,[eR a0]⟩),(1,⟨6,[eR a1]⟩),(2,⟨3,x1.1.map (ow eM)⟩)] 3) (λr e t=>e= .exit 0∧Ent t (mN [(7,.own 0 0 r.length)] [(0,⟨3,r.map (ow eM)⟩)] 1)) (bO (bG k2) (bH k<|bH k<|dY (jZ.plainO _) k<|aX) k4) ?_ ?_
 ·intro x1 o h;refine sQ<|sR<|am k k<|fp k8<|lp k8<|ln k4<|cm k4<|an<|tn<|cV k h (λ_ h=>?_) λ_ h=>aW<|aB<|aB<|sp h ⟨_,k,k,(jI [2] (bG k2) (dY (jZ.plainO _) k<|aX) k4)⟩;refine aI<|tn<|sQ<|aC<|sQ<|aQ fA<|fp k8<|lp k8<|am k k<|oB h λv2 hv2 h=>ae (xl hv2 k) k<|lr k7<|fp k8<|lp k8<|am k k<|oB h λv3 hv3 h=>ae (xl hv3 k) k<|lr k7<|ae (eX k k) k<|aa k k<|an<|oA (by kernel_rfl)<|tn<|sQ<|aQ fA<|am k k<|fp k8<|lp k8<|am k k<|oB h λv4 hv4 h=>ae (xl hv4 k) k<|lr k7 ?_;refine fp k8<|lp k8<|am k k<|oB h λv5 hv5 h=>ae (xl hv5 k) k<|lr k7<|ae (wl k) k<|am k k<|am k k<|am k k<|am k k<|ae (bB k k) k<|cG h λq6 h=>ae (aBj aP (l0:=a2) (l:=x1.2.1) (h:=wr (x1.2.1+(wr (v2*v3)))) q6 k k k k k k k) k<|cG h λq7 h=>ae (mQ aP (l:=([]:(List Int))) (m:=((a2.drop x1.2.1.toNat).take ((wr (x1.2.1+(wr (v2*v3)))).toNat - x1.2.1.toNat))) kX q7 k k k k k k k k k k k k) k<|ae (fY aP k k k k k k) k<|ae (wl k) k<|cG h λq8 h=>ae (kY aP (l:=x1.1) (c:=[.int v4,.int v5,.own 4 0 ((([]:(List Int))++((a2.drop x1.2.1.toNat).take ((wr (x1.2.1+(wr (v2*v3)))).toNat - x1.2.1.toNat))).length)]) q8 k k k k k k k k k k k k k k) k<|aa k k<|an<|oA (by kernel_rfl)<|tn<|aL (t:=mN [(2,.list 1 (a2.map eI)),(3,.ptr 0 0 0),(4,.ptr 1 0 0),(7,.own 6 0 ((x1.1++[(⟨v4,v5,(([]:(List Int))++((a2.drop x1.2.1.toNat).take ((wr (x1.2.1+(wr (v2*v3)))).toNat - x1.2.1.toNat)))⟩:Mt)]).length)),(8,.int x1.2.1),(9,.int x1.2.2),(10,.int (wr (v2*v3)))] [(0,⟨6,[eR a0]⟩),(1,⟨6,[eR a1]⟩),(6,⟨3,List.map (ow eM) (x1.1++[(⟨v4,v5,(([]:(List Int))++((a2.drop x1.2.1.toNat).take ((wr (x1.2.1+(wr (v2*v3)))).toNat - x1.2.1.toNat)))⟩:Mt)])⟩)] 7) (Ent.trans (fX (b:=6) (b':=4) (j:=2) (es':=List.map eI (([]:(List Int))++((a2.drop x1.2.1.toNat).take ((wr (x1.2.1+(wr (v2*v3)))).toNat - x1.2.1.toNat)))) k k k k (aR _ _) (dT.frzs _)) (bO (kW 3 k2 (iC ⟨_,k,⟨k,k,(by simp only [aR,lA,lT,lR,lC,lN]),k⟩⟩ (bG k2))) (bH k<|bH k<|hX ⟨_,k,k,.inl ⟨mI (⟨v4,v5,(([]:(List Int))++((a2.drop x1.2.1.toNat).take ((wr (x1.2.1+(wr (v2*v3)))).toNat - x1.2.1.toNat)))⟩:Mt) k,jZ.plainO _⟩⟩ k<|aX) k4))<|rg<|am k k<|am k k<|ae (bB k k) k<|aa k k<|an<|aY<|tn<|rg ?_;exact am k k<|ae (bB k k) k<|aT k2<|sp h ⟨_,k,(jI [0,1,6] (bG k2) (bH k<|bH k<|dY (jZ.plainO _) k<|aX) k4)⟩
 ·rintro e t ⟨rfl,hent⟩;exact aM<|tn<|aL hent<|sR<|am k k<|aT k2<|aD<|sp h (aZ k k k (eB (eH jZ k k)))
def pC (a0:Rp) (a1:Rp) (v4:(List (List Int))) (x1:((List (List Mt))×Int)):Option (((List (List Mt))×Int) ⊕ (List (List Mt))):=
 bif decide (x1.2<((v4.length:Nat):Int)) then
 ((cP v4 x1.2).bind λv6=>
 (uR a0 a1 v6).bind λv7=>
 bif decide (x1.1.length+1≤4294967296) then
 (some (.inl ((x1.1++[v7]),wr (x1.2+1))))
 else none)
 else
 (some (.inr x1.1))
def uS (a0:Rp) (a1:Rp):Option ((List (List Mt))×Bool):=
 (rV a0 a1).bind λv1=>
 bif !v1 then
 (some ((([]:(List (List Mt))),false)))
 else
 ((jD a0 a1).bind λv3=>
 (lD a0.p v3).bind λv4=>
 (Lp (pC a0 a1 v4) (([]:(List (List Mt))),0)).bind λy9=>
 some ((y9,true)))
theorem aGL (a0:Rp) (a1:Rp) (r:((List (List Mt))×Bool)) (h:uS a0 a1=some r):HasC Tryz.prog 87 [.agg (eR a0),.agg (eR a1)] (.tuple [.list 1 (r.1.map (dQ 3 eM)),.bl r.2]):=by
 refine hM [.tmp 4,.tmp 5] Tryz.func87 Tryz.ntmps87 k<|sR<|ae (wb k) k<|ae (wb k) k<|aa k k<|aT k2<|sR<|ae (wl k) k<|aT k2<|aL (t:=mN [(2,.ptr 0 0 0),(3,.ptr 1 0 0),(6,.own 2 0 (([]:(List (List Mt))).length))] [(0,⟨6,[eR a0]⟩),(1,⟨6,[eR a1]⟩),(2,⟨1,List.map (ow (dQ 3 eM)) ([]:(List (List Mt)))⟩)] 3) (bO (kW 2 k2 (iC ⟨_,k,⟨k,k,(by simp only [aR,lA,lT,lR,lC,lN]),k⟩⟩ aX)) (bH k<|bH k<|dY (bW.plainO _) k<|aX) k4)<|sQ<|sR<|lp k8<|lp k8<|oB h λv1 hv1 h=>ae (aH (aEL a0 a1 v1 hv1) k (aG (eG k) (aG (eG k) aE))) k<|ae (dB k) k<|an<|tn<|cV k h (λ_ h=>sR<|am k k<|aa k k<|aT k2<|aD<|aJ<|sp h (aZ k k k (dP k (bY (oJ (eH bW k k)) (bY (k) gD))))) λ_ h=>?_;refine aI<|tn<|sQ<|aQ fA<|fp k8<|lp k8<|lp k8<|lp k8<|oB h λv3 hv3 h=>ae (cM (yV a0 a1 v3 hv3) k3 (aG (eG k) (aG (eG k) aE))) k<|oB h λv4 hv4 h=>ae (cL bW (yO a0.p v3 v4 hv4) k3 (bZ k (aG (vaM k2) aE))) k<|aa k k<|an<|oA (by kernel_rfl)<|tn<|sQ<|sR<|aT k2<|aC<|oB h λy9 hy9 h=>bU (body:=(pC a0 a1 v4)) hy9 (λ(x1:((List (List Mt))×Int))=>mN [(2,.ptr 0 0 0),(3,.ptr 1 0 0),(6,.own 2 0 x1.1.length),(7,.own 3 0 v4.length),(8,.int x1.2)] [(0,⟨6,[eR a0]⟩),(1,⟨6,[eR a1]⟩),(2,⟨1,x1.1.map (ow (dQ 3 eM))⟩),(3,⟨1,v4.map (ow (dQ 1 eI))⟩)] 4) (λr e t=>e= .exit 0∧Ent t (mN [(6,.own 0 0 r.length)] [(0,⟨1,r.map (ow (dQ 3 eM))⟩)] 1)) (jI [0,1,2,4] (bG k2) (bH k<|bH k<|dY (bW.plainO _) k<|dY (bW.plainO _) k<|aX) k4) ?_ ?_
 ·intro x1 o h;exact sQ<|sR<|am k k<|am k k<|ae (dW aP k k k k) k<|cm k4<|an<|tn<|cV k h (λ_ h=>aI<|tn<|sQ<|aC<|aQ fA<|am k k<|lp k8<|lp k8<|am k k<|am k k<|oB h λv6 hv6 h=>ae (xo hv6 k) k<|ae (wp hv6 k) k<|oB h λv7 hv7 h=>ae (cL jZ (aGK a0 a1 v6 v7 hv7) k3 (aG (eG k) (aG (eG k) (bZ k aE)))) k<|ae (wl k) k<|cG h λq8 h=>ae (kY aP (l:=x1.1) (c:=[.own 4 0 v7.length]) q8 k k k k k k k k k k k k k k) k<|aa k k<|an<|oA (by kernel_rfl)<|aY<|tn<|aL (t:=mN [(2,.ptr 0 0 0),(3,.ptr 1 0 0),(6,.own 6 0 ((x1.1++[v7]).length)),(7,.own 3 0 v4.length),(8,.int x1.2)] [(0,⟨6,[eR a0]⟩),(1,⟨6,[eR a1]⟩),(3,⟨1,v4.map (ow (dQ 1 eI))⟩),(6,⟨1,List.map (ow (dQ 3 eM)) (x1.1++[v7])⟩)] 7) (Ent.trans (fX (b:=6) (b':=4) (j:=0) (es':=v7.map eM) k k k k (aR _ _) (jZ.frzs _)) (bO (kW 2 k2 (iC ⟨_,k,⟨k,k,(by simp only [aR,lA,lT,lR,lC,lN]),k⟩⟩ (bG k2))) (bH k<|bH k<|dY (bW.plainO _) k<|hX ⟨_,k,k,.inl ⟨mI v7 k,bW.plainO _⟩⟩ k<|aX) k4))<|rg<|am k k<|ae (bB k k) k<|aT k2<|sp h ⟨_,k,(jI [0,1,6,3] (bG k2) (bH k<|bH k<|dY (bW.plainO _) k<|dY (bW.plainO _) k<|aX) k4)⟩) λ_ h=>aW<|aB<|aB<|sp h ⟨_,k,k,(jI [2] (bG k2) (dY (bW.plainO _) k<|aX) k4)⟩
 ·rintro e t ⟨rfl,hent⟩;exact aM<|tn<|aL hent<|sR<|am k k<|aa k k<|aT k2<|aD<|sp h (aZ k k k (dP k (bY (oJ (eH bW k k)) (bY (k) gD))))
def tU (a0:Rp) (a1:Rp):Option Int:=
 (uS a0 a1).bind λv1=>
 bif !v1.2 then
 (some ((-1)))
 else
 (some (((v1.1.length:Nat):Int)))
theorem aDL (a0:Rp) (a1:Rp) (r:Int) (h:tU a0 a1=some r):HasC Tryz.prog 41 [.agg (eR a0),.agg (eR a1)] (.int r):=by
 exact hM [.tmp 4] Tryz.func41 Tryz.ntmps41 k<|sR<|ae (wb k) k<|ae (wb k) k<|aT k2<|sR<|lp k8<|lp k8<|oB h λv1 hv1 h=>ae (cT bW (aGL a0 a1 v1 hv1) k3 (aG (eG k) (aG (eG k) aE))) k<|am k k<|ae (bP k k (by intro _ h;cases h)) k<|ae (bP k k (by intro _ h;cases h)) k<|aa k k<|aT k2<|sQ<|sR<|am k k<|ae (dB k) k<|an<|tn<|cV k h (λ_ h=>sR<|aT k2<|aD<|aJ<|yT h k2) λ_ h=>aI<|tn<|sR<|am k k<|ae (dW aP k k k k) k<|aT k2<|aD<|yT h k2
def pD (a0:Rp) (x1:(Int×Int)):Option ((Int×Int) ⊕ Int):=
 bif decide (x1.2<(a0.dims.length:Int)) then
 ((cP a0.dims x1.2).bind λv4=>
 (cP a0.dims x1.2).bind λv5=>
 some (.inl (wr (x1.1+(wr (v4*v5))),wr (x1.2+1))))
 else
 (some (.inr x1.1))
def uT (a0:Rp):Option Int:=
 (dU a0).bind λv1=>
 bif !v1 then
 (some ((-1)))
 else
 ((Lp (pD a0) (0,0)).bind λy6=>
 (tU a0 a0).bind λv7=>
 some (wr (y6 - v7)))
theorem aGM (a0:Rp) (r:Int) (h:uT a0=some r):HasC Tryz.prog 43 [.agg (eR a0)] (.int r):=by
 refine hM [.tmp 2] Tryz.func43 Tryz.ntmps43 k<|sR<|ae (wb k) k<|aT k2<|sQ<|sR<|lp k8<|oB h λv1 hv1 h=>ae (aH (fH a0 v1 hv1) k (aG (eG k) aE)) k<|ae (dB k) k<|an<|tn<|cV k h (λ_ h=>sR<|aT k2<|aD<|aJ<|yT h k2) λ_ h=>?_;refine aI<|tn<|sR<|aT k2<|sQ<|sR<|aT k2<|aC<|oB h λy6 hy6 h=>bU (body:=(pD a0)) hy6 (λ(x1:(Int×Int))=>mN [(1,.ptr 0 0 0),(3,.int x1.1),(4,.int x1.2)] [(0,⟨6,[eR a0]⟩)] 1) (λr e t=>e= .exit 0∧Ent t (mN [(1,.ptr 0 0 0),(3,.int r)] [(0,⟨6,[eR a0]⟩)] 1)) (bO (bG k2) (bH k<|aX) k4) ?_ ?_
 ·intro x1 o h;exact sQ<|sR<|am k k<|fp k8<|lp k8<|ln k4<|cm k4<|an<|tn<|cV k h (λ_ h=>aI<|tn<|sQ<|aC<|aQ fA<|am k k<|fp k8<|lp k8<|am k k<|oB h λv4 hv4 h=>ae (xl hv4 k) k<|lr k7<|fp k8<|lp k8<|am k k<|oB h λv5 hv5 h=>ae (xl hv5 k) k<|lr k7<|ae (eX k k) k<|ae (bB k k) k<|aa k k<|an<|oA (by kernel_rfl)<|aY<|tn<|rg<|am k k<|ae (bB k k) k<|aT k2<|sp h ⟨_,k,(bO (bG k2) (bH k<|aX) k4)⟩) λ_ h=>aW<|aB<|aB<|sp h ⟨_,k,k,(bO (bG k2) (bH k<|aX) k4)⟩
 ·rintro e t ⟨rfl,hent⟩;exact aM<|tn<|aL hent<|sR<|am k k<|lp k8<|lp k8<|oB h λv7 hv7 h=>ae (aH (aDL a0 a0 v7 hv7) k (aG (eG k) (aG (eG k) aE))) k<|ae (mP k k) k<|aT k2<|aD<|yT h k2
end
noncomputable section
set_option maxRecDepth 10000
set_option maxHeartbeats 4000000
end
noncomputable section
def rkF (p:Int) (m n:Nat) (F:Nat→Nat→Int):Nat:=(bF p m F n).2.length
theorem aTS {p:Int} (hp:iR p=true) {r c:Nat} (hr:r≤8) (hc:c≤8) {F:Nat→Nat→Int} (hF:wT p r c F):aAP p ⟨r,c,bT r c F⟩=true:=by
 have hb:=dF hp;have h64:r*c≤64:=Nat.mul_le_mul hr hc;unfold aAP;simp only [cW,iO,List.all_eq_true];refine ⟨wX (by omega) (by omega),wX (by omega) (by omega),?_,⟨hp,by rw [dO];exact h64⟩,λx hx=>?_⟩
 ·rw [dO,aHJ (by omega)]
 ·unfold bT at hx;obtain ⟨t,ht,rfl⟩:=List.mem_map.1 hx;have ht:=List.mem_range.1 ht;have hc0:0<c:=by rcases Nat.eq_zero_or_pos c with rfl|h';simp at ht;exact h'
  have:=hF (t / c) (t % c) (Nat.div_lt_of_lt_mul (by rw [Nat.mul_comm];exact ht)) (Nat.mod_lt _ hc0);rw [cZ (by omega)];exact wX this.1 (by omega)
theorem aMR {p:Int} (hp:iR p=true) {r c:Nat} (hr:r≤8) (hc:c≤8) {F:Nat→Nat→Int} (hF:wT p r c F):tS p ⟨r,c,bT r c F⟩=some (rkF p r c F:Int):=by
 have h64:r*c≤64:=Nat.mul_le_mul hr hc;unfold tS xC;rw [aBR p ⟨by unfold bI;simp only [dO];omega,trivial⟩,aTS hp hr hc hF,aA,eC,aS,wB ⟨hp,by omega,by omega,by omega,hF⟩,aA,aA];simp only [eC,aS,dG];rfl
theorem aTT {p:Int} (hp:iR p=true) (m n:Nat):wT p m n aBS:=by
 have hb:=dF hp;intro i j _ _;unfold aBS;split <;> omega
def dN (r:Rp) (k:Nat):Nat:=(r.dims[k]?.getD 0).toNat
theorem yH {r:Rp} (h:kV r=true):iR r.p=true∧aFm r.q r.dims=true∧r.maps.length=r.q.src.length∧ ∀ k,k<r.maps.length→aAP r.p (r.maps[k]?.getD ⟨0,0,[]⟩)=true∧(r.maps[k]?.getD ⟨0,0,[]⟩).cols=r.dims[(r.q.src[k]?.getD 0).toNat]?.getD 0∧(r.maps[k]?.getD ⟨0,0,[]⟩).rows=r.dims[(r.q.tgt[k]?.getD 0).toNat]?.getD 0:=by
 unfold kV at h;simp only [cW,iO,vP] at h;exact ⟨h.1,h.2.1,by omega,h.2.2.2⟩
theorem kG {c:Nat} {f g:Nat→Int} (h: ∀ j,j<c→f j=g j):dZ c f=dZ c g:=yR λj hj=>h j (List.mem_range.1 hj)
theorem aES {c j:Nat} (hj:j<c) (f:Nat→Int) (v:Int):(dZ c f).set j v=dZ c (λb=>if b=j then v else f b):=by
 refine List.ext_getElem (by simp [dZ]) λt h1 h2=>?_;rw [eN] at h2;rw [List.getElem_set];simp only [dZ,List.getElem_map,List.getElem_range];by_cases e:j=t
 ·rw [aU e,aU e.symm]
 ·rw [aV e,aV (by omega)]
theorem aFF (c:Nat):List.replicate c (0:Int)=dZ c (λ_=>0):=by
 refine List.ext_getElem (by simp [dZ]) λt h1 h2=>?_;simp [dZ]
theorem sq {a b:Nat} (ha:a≤4) (hb:b≤4):a*b≤1048576:=by have:=Nat.mul_le_mul ha hb;omega
theorem aET (c:Nat) (f:Nat→Nat→Int): ∀ n,((List.range n).map λi=>dZ c (f i)).flatten=bT n c f
 |0=>by simp [bT]
 |n+1=>by
  rw [List.range_succ,List.map_append,List.flatten_append,aET c f n];unfold bT;rw [Nat.succ_mul,List.range_add,List.map_append];congr 1;simp only [List.map_cons,List.map_nil,List.flatten_cons,List.flatten_nil,List.append_nil,List.map_map,dZ];refine yR λj hj=>?_;have hj:=List.mem_range.1 hj;simp only [Function.comp];rw [aAn hj,aAo hj]
theorem aJj {l:List (List Int)} (h: ∀ x∈l,x.length≤1024):l.flatten.length≤1024*l.length:=by
 induction l with
 |nil=>simp
 |cons x l ih=>
  have h1:=h x (by simp);have h2:=ih λy hy=>h y (by simp [hy]);simp only [List.flatten_cons,List.length_append,List.length_cons];omega
theorem zV {l:List (List Int)} {k:Nat} (hk:k<l.length):(l.take (k+1)).flatten=(l.take k).flatten++l[k]:=by
 rw [aCM hk,List.flatten_append];simp
theorem aRp {l:List (List Int)} (hl:l.length≤512) (h: ∀ x∈l,x.length≤1024):iE l=some l.flatten:=by
 have hb: ∀ k,(l.take k).flatten.length ≤1024*512:=λk=>by
  have:=aJj (l:=l.take k) λx hx=>h x (List.mem_of_mem_take hx);have h2:(l.take k).length ≤512:=by simp;omega
  omega
 unfold iE;rw [cF (r:=(l.flatten.length:Int)) (λk=>(((l.take k).flatten.length:Int),(k:Int))) l.length (by simp) (λk hk=>?_) (λ_=>?_),aA]
 ·have e:=hb l.length;rw [List.take_length] at e;unfold aNl;rw [bC (by omega),bC (by omega:(l.flatten.length:Int)≤1048576),Bool.and_self,aN,aA];rw [cF (r:=l.flatten) (λk=>((l.take k).flatten,(k:Int))) l.length (by simp) (λk hk=>?_) (λ_=>?_),aA]
  ·unfold gK;simp only;have e2:=hb (k+1);rw [zV hk,List.length_append] at e2;rw [gC hk,aN,dR hk,aA,bC (by omega),aN,bK hk (by omega),zV hk]
  ·unfold gK;simp only;rw [gS (bA _),aS,List.take_length]
 ·unfold gJ;simp only;have e2:=hb (k+1);rw [zV hk,List.length_append] at e2;rw [gC hk,aN,dR hk,aA,cZ (x:=_+_) (by omega),dM (by omega),aS,bK hk (by omega),zV hk,List.length_append,Int.natCast_add (List.take k l).flatten.length l[k].length]
 ·unfold gJ;simp only;rw [gS (bA _),aS,List.take_length]
end
noncomputable section
set_option maxRecDepth 10000
set_option maxHeartbeats 4000000
end
noncomputable section
set_option maxRecDepth 10000
set_option maxHeartbeats 4000000
def iU (a0:Mt) (a1:Int) (x1:((List Int)×Int)):Option (((List Int)×Int) ⊕ (List Int)):=
 bif decide (x1.2<(((List.replicate a0.rows.toNat (0:Int)).length:Nat):Int)) then
 ((cP a0.cells (wr ((wr (x1.2*a0.cols))+a1))).bind λv2=>
 (cP x1.1 x1.2).bind λv3=>
 some (.inl ((x1.1.set x1.2.toNat v2),wr (x1.2+1))))
 else
 (some (.inr x1.1))
def mA (a0:Mt) (a1:Int):Option (List Int):=
 bif (decide (0≤a0.rows)&&decide (a0.rows≤1048576)) then
 ((Lp (iU a0 a1) ((List.replicate a0.rows.toNat (0:Int)),0)).bind λy4=>
 some (y4))
 else none
theorem aCU (a0:Mt) (a1:Int) (r:(List Int)) (h:mA a0 a1=some r):HasC Tryz.prog 196 [.agg (eM a0),.int a1] (.list 1 (r.map eI)):=by
 refine hM [.tmp 4] Tryz.func196 Tryz.ntmps196 k<|sR<|ae (wb k) k<|aT k2<|sR<|fp k8<|lp k8<|cG h λq5 h=>ae (vX aP q5 k k k k k k k k) k<|aT k2<|aL (t:=mN [(1,.int a1),(2,.ptr 0 0 0),(5,.own 1 0 ((List.replicate a0.rows.toNat (0:Int)).length))] [(0,⟨3,[eM a0]⟩),(1,⟨1,List.map (ow eI) (List.replicate a0.rows.toNat (0:Int))⟩)] 2) (bO (kW 2 k2 (iC ⟨_,k,⟨k,k,(by simp only [aR,lA,lT,lR,lC,lN]),k⟩⟩ aX)) (bH k<|hX ⟨_,k,k,.inl ⟨xA (e:=eI) (z:=0) _,dT.plainO _⟩⟩ k<|aX) k4)<|sQ<|sR<|am k k<|ae (dW aP k k k k) k<|am k k<|an<|tn<|aC<|oB h λy4 hy4 h=>bU (body:=(iU a0 a1)) hy4 (λ(x1:((List Int)×Int))=>mN [(1,.int a1),(2,.ptr 0 0 0),(5,.own 1 0 x1.1.length),(11,.int (((List.replicate a0.rows.toNat (0:Int)).length:Nat):Int)),(12,.int x1.2)] [(0,⟨3,[eM a0]⟩),(1,⟨1,x1.1.map (ow eI)⟩)] 2) (λr e t=>e= .exit 0∧Ent t (mN [(5,.own 0 0 r.length)] [(0,⟨1,r.map (ow eI)⟩)] 1)) (bO (bG k2) (bH k<|cB k<|aX) k4) ?_ ?_
 ·intro x1 o h;refine sR<|cm k4<|an<|tn<|sQ<|cV k h (λ_ h=>?_) λ_ h=>aW<|aB<|aB<|sp h ⟨_,k,k,(jI [1] (bG k2) (cB k<|aX) k4)⟩;refine aI<|tn<|sQ<|aC<|sR<|am k k<|aT k2<|rg<|am k k<|am k k<|fp k8<|lp k8<|am k k<|fp k8<|lp k8<|ae (eX k k) k<|am k k<|ae (bB k k) k<|oB h λv2 hv2 h=>ae (xl hv2 k) k<|lr k7<|oB h λv3 hv3 h=>ae (xo hv3 k) k<|ae (fK aP kX (u:=v2) (dI hv3) k k k k k k) k<|an<|aY<|tn<|rg ?_;exact ae (bB k k) k<|am k k<|an<|tn<|sp h ⟨_,k,(bO (kW 2 k2 (iC ⟨_,k,⟨k,k,(by simp only [aR,lA,lT,lR,lC,lN]),k⟩⟩ (bG k2))) (bH k<|cB k<|aX) k4)⟩
 ·rintro e t ⟨rfl,hent⟩;exact aM<|tn<|aL hent<|sR<|am k k<|aT k2<|aD<|sp h (aZ k k k (eB (eH dT k k)))
def iH (a0:Mt) (x1:((List (List Int))×Int)):Option (((List (List Int))×Int) ⊕ (List (List Int))):=
 bif decide (x1.2<a0.cols) then
 ((mA a0 x1.2).bind λv2=>
 bif decide (x1.1.length+1≤4294967296) then
 (some (.inl ((x1.1++[v2]),wr (x1.2+1))))
 else none)
 else
 (some (.inr x1.1))
def kR (a0:Mt):Option (List (List Int)):=
 (Lp (iH a0) ([],0)).bind λy4=>
 some (y4)
theorem aCG (a0:Mt) (r:(List (List Int))) (h:kR a0=some r):HasC Tryz.prog 159 [.agg (eM a0)] (.list 1 (r.map (dQ 1 eI))):=by
 refine hM [.tmp 2] Tryz.func159 Tryz.ntmps159 k<|sR<|ae (wb k) k<|aT k2<|sR<|aT k2<|sQ<|sR<|fp k8<|lp k8<|am k k<|an<|tn<|aC<|oB h λy4 hy4 h=>bU (body:=(iH a0)) hy4 (λ(x1:((List (List Int))×Int))=>mN [(1,.ptr 0 0 0),(3,.own 1 0 x1.1.length),(6,.int a0.cols),(7,.int x1.2)] [(0,⟨3,[eM a0]⟩),(1,⟨1,x1.1.map (ow (dQ 1 eI))⟩)] 2) (λr e t=>e= .exit 0∧Ent t (mN [(3,.own 0 0 r.length)] [(0,⟨1,r.map (ow (dQ 1 eI))⟩)] 1)) (hO (σ:=sg [(0,0)]) (kW 1 k2 (iC ⟨_,k,⟨k,k,k,k⟩⟩ (bG k2))) (bH k<|hX k k<|aX) k) ?_ ?_
 ·intro x1 o h;exact sR<|cm k4<|an<|tn<|sQ<|cV k h (λ_ h=>aI<|tn<|sQ<|aC<|sR<|am k k<|aT k2<|rg<|am k k<|lp k8<|am k k<|oB h λv2 hv2 h=>ae (cL dT (aCU a0 x1.2 v2 hv2) k3 (aG (eG k) (bZ k aE))) k<|ae (wl k) k<|cG h λq3 h=>ae (kY aP (l:=x1.1) (c:=[.own 2 0 v2.length]) q3 k k k k k k k k k k k k k k) k<|aa k k<|an<|aY<|tn<|aL (t:=mN [(1,.ptr 0 0 0),(3,.own 4 0 ((x1.1++[v2]).length)),(6,.int a0.cols),(7,.int x1.2)] [(0,⟨3,[eM a0]⟩),(4,⟨1,List.map (ow (dQ 1 eI)) (x1.1++[v2])⟩)] 5) (Ent.trans (fX (b:=4) (b':=2) (j:=0) (es':=v2.map eI) k k k k (aR _ _) (dT.frzs _)) (bO (kW 1 k2 (iC ⟨_,k,⟨k,k,(by simp only [aR,lA,lT,lR,lC,lN]),k⟩⟩ (bG k2))) (bH k<|hX ⟨_,k,k,.inl ⟨mI v2 k,bW.plainO _⟩⟩ k<|aX) k4))<|rg<|ae (bB k k) k<|am k k<|an<|tn<|sp h ⟨_,k,(jI [0,4] (bG k2) (bH k<|dY (bW.plainO _) k<|aX) k4)⟩) λ_ h=>aW<|aB<|aB<|sp h ⟨_,k,k,(jI [1] (bG k2) (dY (bW.plainO _) k<|aX) k4)⟩
 ·rintro e t ⟨rfl,hent⟩;exact aM<|tn<|aL hent<|sR<|am k k<|aT k2<|aD<|sp h (aZ k k k (eB (eH bW k k)))
def uU (a0:Int) (a1:(List (List Int))):Option Mt:=
 (iE a1).bind λv1=>
 some ((⟨(a1.length:Int),a0,v1⟩:Mt))
theorem aGN (a0:Int) (a1:(List (List Int))) (r:Mt) (h:uU a0 a1=some r):HasC Tryz.prog 195 [.int a0,.list 1 (a1.map (dQ 1 eI))] (.agg (eM r)):=by
 exact hM [.cell 4 96] Tryz.func195 Tryz.ntmps195 k<|sR<|ae (bX aP k k) k<|an<|tn<|sR<|am k k<|ln k4<|am k k<|am k k<|oB h λv1 hv1 h=>ae (cL dT (aAv a1 v1 hv1) k3 (bZ k aE)) k<|ae (fY aP k k k k k k) k<|ae (ws k) k<|an<|tn<|aD<|sp h (aZ k k k (jH (bD (k) (bD (k) (bD (eH dT k k) eV)))))
def wG (v2:(Mt×(List Int))) (x1:((List (List Int))×Int)):Option (((List (List Int))×Int) ⊕ (List (List Int))):=
 bif decide (x1.2<((v2.2.length:Nat):Int)) then
 ((dL v2.1 x1.2).bind λv4=>
 (xQ ((v2.1.cells.drop (0+(wr (x1.2*v2.1.cols)).toNat)).take ((wr ((wr (x1.2+1))*v2.1.cols)).toNat - (wr (x1.2*v2.1.cols)).toNat))).bind λv5=>
 bif decide (x1.1.length+1≤4294967296) then
 (some (.inl ((x1.1++[v5]),wr (x1.2+1))))
 else none)
 else
 (some (.inr x1.1))
def mB (a0:Int) (a1:Int) (a2:(List (List Int))):Option Sc:=
 (uU a1 a2).bind λv1=>
 (pV a0 v1).bind λv2=>
 (Lp (wG v2) ([],0)).bind λy7=>
 some ((⟨a1,y7⟩:Sc))
theorem vT (a0:Int) (a1:Int) (a2:(List (List Int))) (r:Sc) (h:mB a0 a1 a2=some r):HasC Tryz.prog 158 [.int a0,.int a1,.list 1 (a2.map (dQ 1 eI))] (.agg (eS r)):=by
 refine hM [.cell 6 103] Tryz.func158 Tryz.ntmps158 k<|sR<|ae (bX aP k k) k<|an<|tn<|sR<|am k k<|am k k<|am k k<|oB h λv1 hv1 h=>ae (cM (aGN a1 a2 v1 hv1) k3 (bZ k (bZ k aE))) k<|oB h λv2 hv2 h=>ae (AEff.conv (iB (x:= .tuple [.agg [.int v2.1.rows,.int v2.1.cols,.own 2 0 (v2.1.cells.map eI).length],.own 3 0 (v2.2.map eI).length]) (nb:=[(2,⟨1,dA (v2.1.cells.map eI)⟩),(3,⟨1,dA (v2.2.map eI)⟩)]) (aAu a0 v1 v2 hv2) k (by rfl) k k (eJ (cH aX (cH aX (cH (dT.good _) nM))) (eJ (dT.good _) tK)) (bZ k (aG (vaM k2) aE))) (v':= .tuple [.agg [.int v2.1.rows,.int v2.1.cols,.own 2 0 v2.1.cells.length],.own 3 0 v2.2.length]) (ed':=[(2,some ⟨1,v2.1.cells.map (ow eI)⟩),(3,some ⟨1,v2.2.map (ow eI)⟩)]) (by simp only [aR]) (rJ (nb':=[(2,⟨1,v2.1.cells.map (ow eI)⟩),(3,⟨1,v2.2.map (ow eI)⟩)]) (by simp only [fW]))) k<|am k k<|ae (bP k k (by intro _ h;cases h)) k<|ae (bP k k (by intro _ h;cases h)) k<|ae (bX aP k k) k<|ae (ws k) k<|aT k2<|sR<|aT k2<|sQ<|sR<|am k k ?_;refine ae (dW aP k k k k) k<|am k k<|an<|tn<|aC<|oB h λy7 hy7 h=>bU (body:=(wG v2)) hy7 (λ(x1:((List (List Int))×Int))=>mN [(1,.int a1),(6,.ptr 0 0 0),(7,.ptr 1 0 0),(9,.own 3 0 x1.1.length),(20,.int ((v2.2.length:Nat):Int)),(21,.int x1.2)] [(0,⟨2,[[.int 0,.nil 1]]⟩),(1,⟨3,[oMt v2.1 2]⟩),(2,⟨1,v2.1.cells.map (ow eI)⟩),(3,⟨1,x1.1.map (ow (dQ 1 eI))⟩)] 4) (λr e t=>e= .exit 0∧Ent t (mN [(1,.int a1),(6,.ptr 0 0 0),(9,.own 1 0 r.length)] [(0,⟨2,[[.int 0,.nil 1]]⟩),(1,⟨1,r.map (ow (dQ 1 eI))⟩)] 2)) (hO (σ:=sg [(0,0),(1,4),(2,2)]) (kW 3 k2 (iC ⟨_,k,⟨k,k,k,k⟩⟩ (bG k2))) (bH k<|gX k<|cB k<|hX k k<|aX) k) ?_ ?_
 ·intro x1 o h;refine sR<|cm k4<|an<|tn<|sQ<|cV k h (λ_ h=>?_) λ_ h=>aW<|aB<|aB<|sp h ⟨_,k,k,(jI [0,3] (bG k2) (bH k<|dY (bW.plainO _) k<|aX) k4)⟩;exact aI<|tn<|sQ<|aC<|sR<|am k k<|aT k2<|rg<|am k k<|lp k8<|am k k<|oB h λv4 hv4 h=>ae (AEff.pureE (nN (σ:=sg [(0,2)]) (σ':=sg [(2,0)]) (touch:=[2]) (news:=[]) (hl2:=[(2,⟨1,v2.1.cells.map (ow eI)⟩)]) (n':=4) (r2:= .own 2 (0+(wr (x1.2*v2.1.cols)).toNat) ((wr ((wr (x1.2+1))*v2.1.cols)).toNat - (wr (x1.2*v2.1.cols)).toNat)) (fG v2.1 x1.2 v4 hv4) k k ⟨_,_,k,⟨_,_,k,k,⟨_,_,k,k,⟨_,_,k,⟨k,k,k,k⟩,k⟩⟩⟩,⟨_,_,k,k,k⟩⟩ ⟨⟨_,k,k,.inl ⟨k,dT.plainO _⟩⟩,k,aX⟩ k k k ⟨⟨_,k,k,.inl ⟨k,dT.plainO _⟩⟩,k,aX⟩ k ⟨k,k,(by simp only [aR,lA,lT,lR,lC,lN]),k⟩ k ⟨k,dT.tame _ _,aX⟩ k k) ⟨k,k,aX⟩) k<|oB h λv5 hv5 h=>ae (cL dT (aGf ((v2.1.cells.drop (0+(wr (x1.2*v2.1.cols)).toNat)).take ((wr ((wr (x1.2+1))*v2.1.cols)).toNat - (wr (x1.2*v2.1.cols)).toNat)) v5 hv5) k3 (aG (aTC dT k) aE)) k<|ae (wl k) k<|cG h λq6 h=>ae (kY aP (l:=x1.1) (c:=[.own 4 0 v5.length]) q6 k k k k k k k k k k k k k k) k<|aa k k<|an<|aY<|tn<|aL (t:=mN [(1,.int a1),(6,.ptr 0 0 0),(7,.ptr 1 0 0),(9,.own 6 0 ((x1.1++[v5]).length)),(20,.int ((v2.2.length:Nat):Int)),(21,.int x1.2)] [(0,⟨2,[[.int 0,.nil 1]]⟩),(1,⟨3,[oMt v2.1 2]⟩),(2,⟨1,v2.1.cells.map (ow eI)⟩),(6,⟨1,List.map (ow (dQ 1 eI)) (x1.1++[v5])⟩)] 7) (Ent.trans (fX (b:=6) (b':=4) (j:=0) (es':=v5.map eI) k k k k (aR _ _) (dT.frzs _)) (bO (kW 3 k2 (iC ⟨_,k,⟨k,k,(by simp only [aR,lA,lT,lR,lC,lN]),k⟩⟩ (bG k2))) (bH k<|gX k<|cB k<|hX ⟨_,k,k,.inl ⟨mI v5 k,bW.plainO _⟩⟩ k<|aX) k4))<|rg<|ae (bB k k) k<|am k k<|an<|tn<|sp h ⟨_,k,(jI [0,1,2,6] (bG k2) (bH k<|gX k<|cB k<|dY (bW.plainO _) k<|aX) k4)⟩
 ·rintro e t ⟨rfl,hent⟩;exact aM<|tn<|aL hent<|sR<|am k k<|am k k<|ae (fY aP k k k k k k) k<|ae (ws k) k<|an<|tn<|aD<|sp h (aZ k k k (jH (bD (k) (bD (eH bW k k) eV))))
def qN (a1:Mt) (v1:(Mt×(List Int))) (x1:((List (List Int))×Int)) (x2:((List Int)×Int)):Option (((List Int)×Int) ⊕ (List Int)):=
 bif decide (x2.2<a1.rows) then
 ((cP v1.2 x1.2).bind λv4=>
 (cP a1.cells (wr ((wr (x2.2*a1.cols))+v4))).bind λv5=>
 bif decide (x2.1.length+[v5].length ≤4294967296) then
 (some (.inl ((x2.1++[v5]),wr (x2.2+1))))
 else none)
 else
 (some (.inr x2.1))
def qO (a1:Mt) (v1:(Mt×(List Int))) (x1:((List (List Int))×Int)):Option (((List (List Int))×Int) ⊕ (List (List Int))):=
 bif decide (x1.2<((v1.2.length:Nat):Int)) then
 ((Lp (qN a1 v1 x1) (([]:(List Int)),0)).bind λy7=>
 bif decide (x1.1.length+1≤4294967296) then
 (some (.inl ((x1.1++[y7]),wr (x1.2+1))))
 else none)
 else
 (some (.inr x1.1))
def wH (a0:Int) (a1:Mt):Option (List (List Int)):=
 (gV a0 a1).bind λv1=>
 (Lp (qO a1 v1) (([]:(List (List Int))),0)).bind λy9=>
 some (y9)
theorem aHr (a0:Int) (a1:Mt) (r:(List (List Int))) (h:wH a0 a1=some r):HasC Tryz.prog 139 [.int a0,.agg (eM a1)] (.list 1 (r.map (dQ 1 eI))):=by
 refine hM [.tmp 4] Tryz.func139 Tryz.ntmps139 k<|sR<|ae (wb k) k<|aT k2<|sR<|am k k<|lp k8<|oB h λv1 hv1 h=>ae (AEff.conv (iB (x:= .tuple [.agg [.int v1.1.rows,.int v1.1.cols,.own 1 0 (v1.1.cells.map eI).length],.own 2 0 (v1.2.map eI).length]) (nb:=[(1,⟨1,dA (v1.1.cells.map eI)⟩),(2,⟨1,dA (v1.2.map eI)⟩)]) (pP a0 a1 v1 hv1) k (by rfl) k k (eJ (cH aX (cH aX (cH (dT.good _) nM))) (eJ (dT.good _) tK)) (bZ k (aG (eG k) aE))) (v':= .tuple [.agg [.int v1.1.rows,.int v1.1.cols,.own 1 0 v1.1.cells.length],.own 2 0 v1.2.length]) (ed':=[(1,some ⟨1,v1.1.cells.map (ow eI)⟩),(2,some ⟨1,v1.2.map (ow eI)⟩)]) (by simp only [aR]) (rJ (nb':=[(1,⟨1,v1.1.cells.map (ow eI)⟩),(2,⟨1,v1.2.map (ow eI)⟩)]) (by simp only [fW]))) k<|am k k<|ae (bP k k (by intro _ h;cases h)) k<|ae (bP k k (by intro _ h;cases h)) k<|ae (bX aP k k) k<|ae (ws k) k<|aT k2<|sR<|ae (wl k) k<|aT k2<|aL (t:=mN [(3,.ptr 0 0 0),(6,.own 2 0 v1.2.length),(7,.own 4 0 (([]:(List (List Int))).length))] [(0,⟨3,[eM a1]⟩),(2,⟨1,v1.2.map (ow eI)⟩),(4,⟨1,List.map (ow (dQ 1 eI)) ([]:(List (List Int)))⟩)] 5) (bO (kW 2 k2 (iC ⟨_,k,⟨k,k,(by simp only [aR,lA,lT,lR,lC,lN]),k⟩⟩ aX)) (bH k<|cB k<|dY (bW.plainO _) k<|aX) k4)<|sQ<|sR ?_;refine aT k2<|aC<|oB h λy9 hy9 h=>bU (body:=(qO a1 v1)) hy9 (λ(x1:((List (List Int))×Int))=>mN [(3,.ptr 0 0 0),(6,.own 1 0 v1.2.length),(7,.own 2 0 x1.1.length),(8,.int x1.2)] [(0,⟨3,[eM a1]⟩),(1,⟨1,v1.2.map (ow eI)⟩),(2,⟨1,x1.1.map (ow (dQ 1 eI))⟩)] 3) (λr e t=>e= .exit 0∧Ent t (mN [(7,.own 0 0 r.length)] [(0,⟨1,r.map (ow (dQ 1 eI))⟩)] 1)) (jI [0,2,4] (bG k2) (bH k<|cB k<|dY (bW.plainO _) k<|aX) k4) ?_ ?_
 ·intro x1 o h;refine sQ<|sR<|am k k<|am k k<|ae (dW aP k k k k) k<|cm k4<|an<|tn<|cV k h (λ_ h=>?_) λ_ h=>aW<|aB<|aB<|sp h ⟨_,k,k,(jI [2] (bG k2) (dY (bW.plainO _) k<|aX) k4)⟩;refine aI<|tn<|sQ<|aC<|sR<|ae (wl k) k<|aT k2<|aL (t:=mN [(3,.ptr 0 0 0),(6,.own 1 0 v1.2.length),(7,.own 2 0 x1.1.length),(8,.int x1.2),(9,.own 3 0 (([]:(List Int)).length))] [(0,⟨3,[eM a1]⟩),(1,⟨1,v1.2.map (ow eI)⟩),(2,⟨1,x1.1.map (ow (dQ 1 eI))⟩),(3,⟨1,List.map (ow eI) ([]:(List Int))⟩)] 4) (bO (kW 4 k2 (iC ⟨_,k,⟨k,k,(by simp only [aR,lA,lT,lR,lC,lN]),k⟩⟩ aX)) (bH k<|cB k<|dY (bW.plainO _) k<|cB k<|aX) k4)<|sQ<|sR<|aT k2<|aC<|oB h λy7 hy7 h=>bU (body:=(qN a1 v1 x1)) hy7 (λ(x2:((List Int)×Int))=>mN [(3,.ptr 0 0 0),(6,.own 1 0 v1.2.length),(7,.own 2 0 x1.1.length),(8,.int x1.2),(9,.own 3 0 x2.1.length),(10,.int x2.2)] [(0,⟨3,[eM a1]⟩),(1,⟨1,v1.2.map (ow eI)⟩),(2,⟨1,x1.1.map (ow (dQ 1 eI))⟩),(3,⟨1,x2.1.map (ow eI)⟩)] 4) (λr e t=>e= .exit 2∧Ent t (mN [(3,.ptr 0 0 0),(6,.own 1 0 v1.2.length),(7,.own 2 0 x1.1.length),(8,.int x1.2),(9,.own 3 0 r.length)] [(0,⟨3,[eM a1]⟩),(1,⟨1,v1.2.map (ow eI)⟩),(2,⟨1,x1.1.map (ow (dQ 1 eI))⟩),(3,⟨1,r.map (ow eI)⟩)] 4)) (bO (bG k2) (bH k<|cB k<|dY (bW.plainO _) k<|cB k<|aX) k4) ?_ ?_
  ·intro x2 o h;refine sQ<|sR<|am k k<|fp k8<|lp k8<|cm k4<|an<|tn<|cV k h (λ_ h=>?_) λ_ h=>aW<|aB<|aB<|sp h ⟨_,k,k,(bO (bG k2) (bH k<|cB k<|dY (bW.plainO _) k<|cB k<|aX) k4)⟩;refine aI<|tn<|sQ<|aC<|aQ fA<|am k k<|fp k8<|lp k8<|am k k<|fp k8<|lp k8<|ae (eX k k) k<|am k k<|am k k<|oB h λv4 hv4 h=>ae (xo hv4 k) k<|ae (wp hv4 k) k<|ae (bB k k) k<|oB h λv5 hv5 h=>ae (xl hv5 k) k<|lr k7<|ae (wl k) k<|cG h λq6 h=>ae (mQ aP (l:=x2.1) (m:=[v5]) kX q6 k k k k k k k k k k k k) k<|aa k k<|an<|oA (by kernel_rfl)<|aY<|tn<|rg<|am k k<|ae (bB k k) k ?_;exact aT k2<|sp h ⟨_,k,(jI [0,1,2,5] (bG k2) (bH k<|cB k<|dY (bW.plainO _) k<|cB k<|aX) k4)⟩
  ·rintro e t ⟨rfl,hent⟩;exact aM<|tn<|aL hent<|rg<|am k k<|am k k<|ae (wl k) k<|cG h λq8 h=>ae (kY aP (l:=x1.1) (c:=[.own 3 0 y7.length]) q8 k k k k k k k k k k k k k k) k<|aa k k<|an<|aY<|tn<|aL (t:=mN [(3,.ptr 0 0 0),(6,.own 1 0 v1.2.length),(7,.own 5 0 ((x1.1++[y7]).length)),(8,.int x1.2)] [(0,⟨3,[eM a1]⟩),(1,⟨1,v1.2.map (ow eI)⟩),(5,⟨1,List.map (ow (dQ 1 eI)) (x1.1++[y7])⟩)] 6) (Ent.trans (fX (b:=5) (b':=3) (j:=0) (es':=y7.map eI) k k k k (aR _ _) (dT.frzs _)) (bO (kW 2 k2 (iC ⟨_,k,⟨k,k,(by simp only [aR,lA,lT,lR,lC,lN]),k⟩⟩ (bG k2))) (bH k<|cB k<|hX ⟨_,k,k,.inl ⟨mI y7 k,bW.plainO _⟩⟩ k<|aX) k4))<|rg<|am k k<|ae (bB k k) k<|aT k2<|sp h ⟨_,k,(jI [0,1,5] (bG k2) (bH k<|cB k<|dY (bW.plainO _) k<|aX) k4)⟩
 ·rintro e t ⟨rfl,hent⟩;exact aM<|tn<|aL hent<|sR<|am k k<|aT k2<|aD<|sp h (aZ k k k (eB (eH bW k k)))
def sI (a1:(List (List Int))) (x1:((List Int)×Int)):Option (((List Int)×Int) ⊕ (List Int)):=
 bif decide (x1.2<(a1.length:Int)) then
 ((cP a1 x1.2).bind λv2=>
 bif decide (x1.1.length+v2.length≤4294967296) then
 (some (.inl ((x1.1++v2),wr (x1.2+1))))
 else none)
 else
 (some (.inr x1.1))
def pX (a0:Int) (a1:(List (List Int))):Option Mt:=
 (Lp (sI a1) ([],0)).bind λy4=>
 some ((⟨(a1.length:Int),a0,y4⟩:Mt))
theorem aAw (a0:Int) (a1:(List (List Int))) (r:Mt) (h:pX a0 a1=some r):HasC Tryz.prog 184 [.int a0,.list 1 (a1.map (dQ 1 eI))] (.agg (eM r)):=by
 refine hM [.cell 4 96] Tryz.func184 Tryz.ntmps184 k<|sR<|ae (bX aP k k) k<|an<|tn<|sR<|am k k<|ln k4<|am k k<|ae (fY aP k k k k k k) k<|ae (bX aP k k) k<|ae (ws k) k<|an<|tn<|sQ<|sR<|aT k2<|aC<|oB h λy4 hy4 h=>bU (body:=(sI a1)) hy4 (λ(x1:((List Int)×Int))=>mN [(1,.list 1 (a1.map (dQ 1 eI))),(4,.ptr 0 0 0),(5,.ptr 1 0 0),(6,.int x1.2)] [(0,⟨3,[fN]⟩),(1,⟨3,[[.int (a1.length:Int),.int a0,.own 2 0 x1.1.length]]⟩),(2,⟨1,x1.1.map (ow eI)⟩)] 3) (λr e t=>e= .exit 0∧Ent t (mN [(4,.ptr 0 0 0),(5,.ptr 1 0 0)] [(0,⟨3,[fN]⟩),(1,⟨3,[[.int (a1.length:Int),.int a0,.own 2 0 r.length]]⟩),(2,⟨1,r.map (ow eI)⟩)] 3)) (hO (σ:=sg [(0,0),(1,1)]) (bG k2) (bH k<|hX ⟨_,k,k,.inr ⟨_,_,k,⟨_,_,k,k,⟨_,_,k,k,⟨_,_,k,⟨k,k,k,k⟩,k⟩⟩⟩,k⟩⟩ k<|hX k k<|aX) k) ?_ ?_
 ·intro x1 o h;exact sQ<|sR<|am k k<|am k k<|ln k4<|cm k4<|an<|tn<|cV k h (λ_ h=>aI<|tn<|sQ<|aC<|aQ fA<|fp k8<|lp k8<|am k k<|am k k<|oB h λv2 hv2 h=>ae (xl hv2 k) k<|lr k7<|cG h λq3 h=>ae (mQ aP (l:=x1.1) (m:=v2) kX q3 k k k k k k k k k k k k) k<|fp k8<|ae (ws k) k<|an<|oA (by kernel_rfl)<|aY<|tn<|rg<|am k k<|ae (bB k k) k<|aT k2<|sp h ⟨_,k,(jI [0,1,3] (bG k2) (bH k<|gX k<|cB k<|aX) k4)⟩) λ_ h=>aW<|aB<|aB<|sp h ⟨_,k,k,(bO (bG k2) (bH k<|gX k<|cB k<|aX) k4)⟩
 ·rintro e t ⟨rfl,hent⟩;exact aM<|tn<|aL hent<|sR<|lp k8<|ae (ws k) k<|an<|tn<|aD<|sp h (aZ k k k (jH (bD (k) (bD (k) (bD (eH dT k k) eV)))))
def qP (v1:(Mt×(List Int))) (x1:((List (List Int))×Int)):Option (((List (List Int))×Int) ⊕ (List (List Int))):=
 bif decide (x1.2<((v1.2.length:Nat):Int)) then
 (bif (decide (0≤wr (x1.2*v1.1.cols))&&(decide (wr (x1.2*v1.1.cols)≤wr ((wr (x1.2*v1.1.cols))+v1.1.cols))&&decide (wr ((wr (x1.2*v1.1.cols))+v1.1.cols)≤((v1.1.cells.length:Nat):Int)))) then
 (bif decide (([]:(List Int)).length +((v1.1.cells.drop (0+(wr (x1.2*v1.1.cols)).toNat)).take ((wr ((wr (x1.2*v1.1.cols))+v1.1.cols)).toNat - (wr (x1.2*v1.1.cols)).toNat)).length ≤4294967296) then
 (bif decide (x1.1.length+1≤4294967296) then
 (some (.inl ((x1.1++[(([]:(List Int))++((v1.1.cells.drop (0+(wr (x1.2*v1.1.cols)).toNat)).take ((wr ((wr (x1.2*v1.1.cols))+v1.1.cols)).toNat - (wr (x1.2*v1.1.cols)).toNat)))]),wr (x1.2+1))))
 else none)
 else none)
 else none)
 else
 (some (.inr x1.1))
def nU (a0:Int) (a1:Mt):Option (List (List Int)):=
 (gV a0 a1).bind λv1=>
 (Lp (qP v1) (([]:(List (List Int))),0)).bind λy6=>
 some (y6)
theorem aAJ (a0:Int) (a1:Mt) (r:(List (List Int))) (h:nU a0 a1=some r):HasC Tryz.prog 183 [.int a0,.agg (eM a1)] (.list 1 (r.map (dQ 1 eI))):=by
 refine hM [.tmp 4] Tryz.func183 Tryz.ntmps183 k<|sR<|ae (wb k) k<|aT k2<|sR<|am k k<|lp k8<|oB h λv1 hv1 h=>ae (AEff.conv (iB (x:= .tuple [.agg [.int v1.1.rows,.int v1.1.cols,.own 1 0 (v1.1.cells.map eI).length],.own 2 0 (v1.2.map eI).length]) (nb:=[(1,⟨1,dA (v1.1.cells.map eI)⟩),(2,⟨1,dA (v1.2.map eI)⟩)]) (pP a0 a1 v1 hv1) k (by rfl) k k (eJ (cH aX (cH aX (cH (dT.good _) nM))) (eJ (dT.good _) tK)) (bZ k (aG (eG k) aE))) (v':= .tuple [.agg [.int v1.1.rows,.int v1.1.cols,.own 1 0 v1.1.cells.length],.own 2 0 v1.2.length]) (ed':=[(1,some ⟨1,v1.1.cells.map (ow eI)⟩),(2,some ⟨1,v1.2.map (ow eI)⟩)]) (by simp only [aR]) (rJ (nb':=[(1,⟨1,v1.1.cells.map (ow eI)⟩),(2,⟨1,v1.2.map (ow eI)⟩)]) (by simp only [fW]))) k<|am k k<|ae (bP k k (by intro _ h;cases h)) k<|ae (bP k k (by intro _ h;cases h)) k<|ae (bX aP k k) k<|ae (ws k) k<|aT k2<|sR<|ae (wl k) k<|aT k2<|aL (t:=mN [(5,.ptr 3 0 0),(6,.own 2 0 v1.2.length),(7,.own 4 0 (([]:(List (List Int))).length))] [(1,⟨1,v1.1.cells.map (ow eI)⟩),(2,⟨1,v1.2.map (ow eI)⟩),(3,⟨3,[oMt v1.1 1]⟩),(4,⟨1,List.map (ow (dQ 1 eI)) ([]:(List (List Int)))⟩)] 5) (bO (kW 2 k2 (iC ⟨_,k,⟨k,k,(by simp only [aR,lA,lT,lR,lC,lN]),k⟩⟩ aX)) (cB k<|cB k<|gX k<|dY (bW.plainO _) k<|aX) k4)<|sQ<|sR ?_;refine aT k2<|aC<|oB h λy6 hy6 h=>bU (body:=(qP v1)) hy6 (λ(x1:((List (List Int))×Int))=>mN [(5,.ptr 0 0 0),(6,.own 2 0 v1.2.length),(7,.own 3 0 x1.1.length),(8,.int x1.2)] [(0,⟨3,[oMt v1.1 1]⟩),(1,⟨1,v1.1.cells.map (ow eI)⟩),(2,⟨1,v1.2.map (ow eI)⟩),(3,⟨1,x1.1.map (ow (dQ 1 eI))⟩)] 4) (λr e t=>e= .exit 0∧Ent t (mN [(7,.own 0 0 r.length)] [(0,⟨1,r.map (ow (dQ 1 eI))⟩)] 1)) (jI [3,1,2,4] (bG k2) (gX k<|cB k<|cB k<|dY (bW.plainO _) k<|aX) k4) ?_ ?_
 ·intro x1 o h;refine sQ<|sR<|am k k<|am k k<|ae (dW aP k k k k) k<|cm k4<|an<|tn<|cV k h (λ_ h=>?_) λ_ h=>aW<|aB<|aB<|sp h ⟨_,k,k,(jI [3] (bG k2) (dY (bW.plainO _) k<|aX) k4)⟩;refine aI<|tn<|sQ<|aC<|rg<|am k k<|ae (wl k) k<|fp k8<|lp k8<|am k k<|fp k8<|lp k8<|ae (eX k k) k<|am k k<|fp k8<|lp k8<|ae (eX k k) k<|fp k8<|lp k8<|ae (bB k k) k<|cG h λq3 h=>ae (aFj aP (l:=wr (x1.2*v1.1.cols)) (h:=wr ((wr (x1.2*v1.1.cols))+v1.1.cols)) q3 k k k k k k k k) k<|cG h λq4 h=>ae (mQ aP (l:=([]:(List Int))) (m:=((v1.1.cells.drop (0+(wr (x1.2*v1.1.cols)).toNat)).take ((wr ((wr (x1.2*v1.1.cols))+v1.1.cols)).toNat - (wr (x1.2*v1.1.cols)).toNat))) kX q4 k k k k k (aUR dT k) k k k k k k) k<|ae (wl k) k<|cG h λq5 h=>ae (kY aP (l:=x1.1) (c:=[.own 5 0 ((([]:(List Int))++((v1.1.cells.drop (0+(wr (x1.2*v1.1.cols)).toNat)).take ((wr ((wr (x1.2*v1.1.cols))+v1.1.cols)).toNat - (wr (x1.2*v1.1.cols)).toNat))).length)]) q5 k k k k k k k k k k k k k k) k<|aa k k<|an<|aY<|tn<|aL (t:=mN [(5,.ptr 0 0 0),(6,.own 2 0 v1.2.length),(7,.own 7 0 ((x1.1++[(([]:(List Int))++((v1.1.cells.drop (0+(wr (x1.2*v1.1.cols)).toNat)).take ((wr ((wr (x1.2*v1.1.cols))+v1.1.cols)).toNat - (wr (x1.2*v1.1.cols)).toNat)))]).length)),(8,.int x1.2)] [(0,⟨3,[oMt v1.1 1]⟩),(1,⟨1,v1.1.cells.map (ow eI)⟩),(2,⟨1,v1.2.map (ow eI)⟩),(7,⟨1,List.map (ow (dQ 1 eI)) (x1.1++[(([]:(List Int))++((v1.1.cells.drop (0+(wr (x1.2*v1.1.cols)).toNat)).take ((wr ((wr (x1.2*v1.1.cols))+v1.1.cols)).toNat - (wr (x1.2*v1.1.cols)).toNat)))])⟩)] 8) (Ent.trans (fX (b:=7) (b':=5) (j:=0) (es':=List.map eI (([]:(List Int))++((v1.1.cells.drop (0+(wr (x1.2*v1.1.cols)).toNat)).take ((wr ((wr (x1.2*v1.1.cols))+v1.1.cols)).toNat - (wr (x1.2*v1.1.cols)).toNat)))) k k k k (aR _ _) (dT.frzs _)) (bO (kW 2 k2 (iC ⟨_,k,⟨k,k,(by simp only [aR,lA,lT,lR,lC,lN]),k⟩⟩ (bG k2))) (gX k<|cB k<|cB k<|hX ⟨_,k,k,.inl ⟨mI (([]:(List Int))++((v1.1.cells.drop (0+(wr (x1.2*v1.1.cols)).toNat)).take ((wr ((wr (x1.2*v1.1.cols))+v1.1.cols)).toNat - (wr (x1.2*v1.1.cols)).toNat))) k,bW.plainO _⟩⟩ k<|aX) k4)) ?_;exact rg<|am k k<|ae (bB k k) k<|aT k2<|sp h ⟨_,k,(jI [0,1,2,7] (bG k2) (gX k<|cB k<|cB k<|dY (bW.plainO _) k<|aX) k4)⟩
 ·rintro e t ⟨rfl,hent⟩;exact aM<|tn<|aL hent<|sR<|am k k<|aT k2<|aD<|sp h (aZ k k k (eB (eH bW k k)))
def iI (a0:Int) (a1:Int) (a2:(List (List Int))):Option Sc:=
 (pX a1 a2).bind λv1=>
 (nU a0 v1).bind λv2=>
 some ((⟨a1,v2⟩:Sc))
theorem pY (a0:Int) (a1:Int) (a2:(List (List Int))) (r:Sc) (h:iI a0 a1 a2=some r):HasC Tryz.prog 138 [.int a0,.int a1,.list 1 (a2.map (dQ 1 eI))] (.agg (eS r)):=by
 exact hM [.cell 6 103] Tryz.func138 Tryz.ntmps138 k<|sR<|ae (bX aP k k) k<|an<|tn<|sR<|am k k<|am k k<|am k k<|am k k<|oB h λv1 hv1 h=>ae (cM (aAw a1 a2 v1 hv1) k3 (bZ k (bZ k aE))) k<|oB h λv2 hv2 h=>ae (cL bW (aAJ a0 v1 v2 hv2) k3 (bZ k (aG (vaM k2) aE))) k<|ae (fY aP k k k k k k) k<|ae (ws k) k<|an<|tn<|aD<|sp h (aZ k k k (jH (bD (k) (bD (eH bW k k) eV))))
def kS (a0:Mt) (x1:((List Int)×Int)) (x2:((List Int)×Int)):Option (((List Int)×Int) ⊕ (List Int)):=
 bif decide (x2.2<a0.cols) then
 ((cP a0.cells (wr ((wr (x1.2*a0.cols))+x2.2))).bind λv4=>
 (cP x2.1 (wr ((wr (x2.2*a0.rows))+x1.2))).bind λv5=>
 some (.inl ((x2.1.set ((wr ((wr (x2.2*a0.rows))+x1.2)).toNat) v4),wr (x2.2+1))))
 else
 (some (.inr x2.1))
def kT (a0:Mt) (x1:((List Int)×Int)):Option (((List Int)×Int) ⊕ (List Int)):=
 bif decide (x1.2<a0.rows) then
 ((Lp (kS a0 x1) (x1.1,0)).bind λy6=>
 some (.inl (y6,wr (x1.2+1))))
 else
 (some (.inr x1.1))
def pE (a0:Mt):Option Mt:=
 (pU a0.cols a0.rows).bind λv1=>
 (Lp (kT a0) (v1.cells,0)).bind λy7=>
 some ((⟨v1.rows,v1.cols,y7⟩:Mt))
theorem aDj (a0:Mt) (r:Mt) (h:pE a0=some r):HasC Tryz.prog 186 [.agg (eM a0)] (.agg (eM r)):=by
 refine hM [.cell 2 96] Tryz.func186 Tryz.ntmps186 k<|sR<|ae (wb k) k<|ae (bX aP k k) k<|an<|tn<|sR<|fp k8<|lp k8<|fp k8<|lp k8<|oB h λv1 hv1 h=>ae (cM (aAs a0.cols a0.rows v1 hv1) k3 (bZ k (bZ k aE))) k<|ae (bX aP k k) k<|ae (ws k) k<|an<|tn<|sQ<|sR<|aT k2<|aC<|oB h λy7 hy7 h=>bU (body:=(kT a0)) hy7 (λ(x1:((List Int)×Int))=>mN [(1,.ptr 0 0 0),(2,.ptr 1 0 0),(3,.ptr 2 0 0),(4,.int x1.2)] [(0,⟨3,[eM a0]⟩),(1,⟨3,[fN]⟩),(2,⟨3,[[.int v1.rows,.int v1.cols,.own 3 0 x1.1.length]]⟩),(3,⟨1,x1.1.map (ow eI)⟩)] 4) (λr e t=>e= .exit 0∧Ent t (mN [(2,.ptr 0 0 0),(3,.ptr 1 0 0)] [(0,⟨3,[fN]⟩),(1,⟨3,[[.int v1.rows,.int v1.cols,.own 2 0 r.length]]⟩),(2,⟨1,r.map (ow eI)⟩)] 3)) (jI [0,1,3,2] (bG k2) (bH k<|bH k<|gX k<|cB k<|aX) k4) ?_ ?_
 ·intro x1 o h;refine sQ<|sR<|am k k<|fp k8<|lp k8<|cm k4<|an<|tn<|cV k h (λ_ h=>?_) λ_ h=>aW<|aB<|aB<|sp h ⟨_,k,k,(jI [1,2,3] (bG k2) (bH k<|gX k<|cB k<|aX) k4)⟩;refine aI<|tn<|sQ<|aC<|sR<|aT k2<|aC<|oB h λy6 hy6 h=>bU (body:=(kS a0 x1)) hy6 (λ(x2:((List Int)×Int))=>mN [(1,.ptr 0 0 0),(2,.ptr 1 0 0),(3,.ptr 2 0 0),(4,.int x1.2),(5,.int x2.2)] [(0,⟨3,[eM a0]⟩),(1,⟨3,[fN]⟩),(2,⟨3,[[.int v1.rows,.int v1.cols,.own 3 0 x2.1.length]]⟩),(3,⟨1,x2.1.map (ow eI)⟩)] 4) (λr e t=>e= .exit 2∧Ent t (mN [(1,.ptr 0 0 0),(2,.ptr 1 0 0),(3,.ptr 2 0 0),(4,.int x1.2)] [(0,⟨3,[eM a0]⟩),(1,⟨3,[fN]⟩),(2,⟨3,[[.int v1.rows,.int v1.cols,.own 3 0 r.length]]⟩),(3,⟨1,r.map (ow eI)⟩)] 4)) (bO (bG k2) (bH k<|bH k<|gX k<|cB k<|aX) k4) ?_ ?_
  ·intro x2 o h;refine sQ<|sR<|am k k<|fp k8<|lp k8<|cm k4<|an<|tn<|cV k h (λ_ h=>?_) λ_ h=>aW<|aB<|aB<|sp h ⟨_,k,k,(bO (bG k2) (bH k<|bH k<|gX k<|cB k<|aX) k4)⟩;refine aI<|tn<|sQ<|aC<|aQ fA<|fp k8<|lp k8<|am k k<|fp k8<|lp k8<|ae (eX k k) k<|am k k<|ae (bB k k) k<|fp k8<|lp k8<|am k k<|fp k8<|lp k8<|ae (eX k k) k<|am k k<|ae (bB k k) k<|oB h λv4 hv4 h=>ae (xl hv4 k) k<|lr k7<|oB h λv5 hv5 h=>ae (xo hv5 k) k<|ae (fK aP kX (u:=v4) (dI hv5) k k k k k k) k<|an<|oA (by kernel_rfl)<|aY<|tn ?_;exact aL (t:=mN [(1,.ptr 0 0 0),(2,.ptr 1 0 0),(3,.ptr 2 0 0),(4,.int x1.2),(5,.int x2.2)] [(0,⟨3,[eM a0]⟩),(1,⟨3,[fN]⟩),(2,⟨3,[[.int v1.rows,.int v1.cols,.own 3 0 ((x2.1.set ((wr ((wr (x2.2*a0.rows))+x1.2)).toNat) v4).length)]]⟩),(3,⟨1,List.map (ow eI) (x2.1.set ((wr ((wr (x2.2*a0.rows))+x1.2)).toNat) v4)⟩)] 4) (bO (bG k2) (bH k<|bH k<|hX ⟨_,k,k,.inr ⟨_,_,k,⟨_,_,k,k,⟨_,_,k,k,⟨_,_,k,⟨k,k,(by simp only [aR,lA,lT,lR,lC,lN]),k⟩,k⟩⟩⟩,k⟩⟩ k<|cB k<|aX) k4)<|rg<|am k k<|ae (bB k k) k<|aT k2<|sp h ⟨_,k,(bO (bG k2) (bH k<|bH k<|gX k<|cB k<|aX) k4)⟩
  ·rintro e t ⟨rfl,hent⟩;exact aM<|aY<|tn<|aL hent<|rg<|am k k<|ae (bB k k) k<|aT k2<|sp h ⟨_,k,(bO (bG k2) (bH k<|bH k<|gX k<|cB k<|aX) k4)⟩
 ·rintro e t ⟨rfl,hent⟩;exact aM<|tn<|aL hent<|sR<|lp k8<|ae (ws k) k<|an<|tn<|aD<|sp h (aZ k k k (jH (bD (k) (bD (k) (bD (eH dT k k) eV)))))
def sJ (a0:Int) (a1:Int) (a2:(List (List Int))) (x1:Int):Option (Int ⊕ (Unit ⊕ Bool)):=
 bif decide (x1<(a2.length:Int)) then
 ((cP a2 x1).bind λv2=>
 bif !decide ((v2.length:Int)=a1) then
 (some (.inr (.inr (false))))
 else
 ((cP a2 x1).bind λv4=>
 (iW a0 v4).bind λv5=>
 bif !v5 then
 (some (.inr (.inr (false))))
 else
 (some (.inl (wr (x1+1))))))
 else
 (some (.inr (.inl ())))
def xY (a0:Int) (a1:Int) (a2:(List (List Int))):Option Bool:=
 (Lp (sJ a0 a1 a2) 0).bind λy7=>
 Sum.elim (λy8=>
 (kB a0).bind λv9=>
 bif v9 then
 ((gT a1 0 8).bind λv11=>
 bif v11 then
 (some (decide ((a2.length:Int)≤16)))
 else
 (some (false)))
 else
 (some (false))
 )
 (λy13=>
 some y13
 )
 y7
theorem aIp (a0:Int) (a1:Int) (a2:(List (List Int))) (r:Bool) (h:xY a0 a1 a2=some r):HasC Tryz.prog 224 [.int a0,.int a1,.list 1 (a2.map (dQ 1 eI))] (.bl r):=by
 refine hM [.tmp 6] Tryz.func224 Tryz.ntmps224 k<|sR<|aT k2<|sQ<|sR<|aT k2<|aC<|oB h λy7 hy7 h=>bU (body:=(sJ a0 a1 a2)) hy7 (λ(x1:Int)=>mN [(0,.int a0),(1,.int a1),(2,.list 1 (a2.map (dQ 1 eI))),(7,.int x1)] [] 0) (λr e t=>Sum.elim (λa=>(λr e t=>e= .exit 0∧Ent t (mN [(0,.int a0),(1,.int a1),(2,.list 1 (a2.map (dQ 1 eI)))] [] 0)) a e t) (λb=>(λr e t=>e= .ret∧vJ TT [.tmp 6] (.bl r) .ret t) b e t) r) (bO (bG k2) aX k4) ?_ ?_
 ·intro x1 o h;exact sQ<|sR<|am k k<|am k k<|ln k4<|cm k4<|an<|tn<|cV k h (λ_ h=>aI<|tn<|sQ<|aC<|sR<|am k k<|am k k<|oB h λv2 hv2 h=>ae (xl hv2 k) k<|lr k7<|ln k4<|am k k<|cm k4<|am k k<|oF h (λq3 h=>aO 21 k q3<|aK k4<|aK k4<|aK k4<|ak k k<|pk k3<|an<|tn<|dX k k<|sR<|aT k2<|aD<|bL<|aJ<|aJ<|sp h ⟨_,k,k,aZ k k k (oD k)⟩) λq3 h=>aO 21 k q3<|am k k<|am k k<|am k k<|oB h λv4 hv4 h=>ae (xl hv4 k) k<|lr k7<|oB h λv5 hv5 h=>ae (aH (uC a0 v4 v5 hv5) k (bZ k (bZ k aE))) k<|ae (dB k) k<|pk k3<|an<|tn<|cV k h (λ_ h=>sR<|aT k2<|aD<|bL<|aJ<|aJ<|sp h ⟨_,k,k,aZ k k k (oD k)⟩) λ_ h=>aI<|aY<|tn<|rg<|am k k<|ae (bB k k) k<|aT k2<|sp h ⟨_,k,(bO (bG k2) aX k4)⟩) λ_ h=>aW<|aB<|aB<|sp h ⟨_,k,k,(bO (bG k2) aX k4)⟩
 ·intro e t hX;rcases y7 with y8|y13
  ·obtain ⟨rfl,hent⟩:=hX;exact aM<|tn<|aL hent<|sR<|am k k<|oB h λv9 hv9 h=>ae (aH (rK a0 v9 hv9) k (bZ k aE)) k<|am k k<|oF h (λq10 h=>aO 32 k q10<|am k k<|oB h λv11 hv11 h=>ae (aH (jU a1 0 8 v11 hv11) k (bZ k (bZ k (bZ k aE)))) k<|pk k3<|am k k<|oF h (λq12 h=>aO 36 k q12<|am k k<|ln k4<|cm k4<|pk k3<|aT k2<|aD<|gW h k2) λq12 h=>aO 36 k q12<|aK k4<|ak k k<|pk k3<|aT k2<|aD<|gW h k2) λq10 h=>aO 32 k q10<|aK k4<|pk k3<|am k k<|aK k4<|ak k k<|pk k3<|aT k2<|aD<|gW h k2
  ·obtain ⟨rfl,hent⟩:=hX;exact bL<|aJ<|sp h hent
def nW (a0:(List (List Int))) (a1:(List (List Int))) (x1:Int) (x2:Int):Option (Int ⊕ (Unit ⊕ Bool)):=
 (cP a0 x1).bind λv6=>
 bif decide (x2<(v6.length:Int)) then
 ((cP a0 x1).bind λv8=>
 (cP v8 x2).bind λv9=>
 (cP a1 x1).bind λv10=>
 (cP v10 x2).bind λv11=>
 bif !decide (v9=v11) then
 (some (.inr (.inr (false))))
 else
 (some (.inl (wr (x2+1)))))
 else
 (some (.inr (.inl ())))
def sK (a0:(List (List Int))) (a1:(List (List Int))) (x1:Int):Option (Int ⊕ (Unit ⊕ Bool)):=
 bif decide (x1<(a0.length:Int)) then
 ((cP a0 x1).bind λv3=>
 (cP a1 x1).bind λv4=>
 bif !decide ((v3.length:Int)=(v4.length:Int)) then
 (some (.inr (.inr (false))))
 else
 ((Lp (nW a0 a1 x1) 0).bind λy13=>
 Sum.elim (λy14=>
 some (.inl (wr (x1+1)))
 )
 (λy15=>
 some (.inr (.inr y15))
 )
 y13))
 else
 (some (.inr (.inl ())))
def xZ (a0:(List (List Int))) (a1:(List (List Int))):Option Bool:=
 bif !decide ((a0.length:Int)=(a1.length:Int)) then
 (some (false))
 else
 ((Lp (sK a0 a1) 0).bind λy16=>
 Sum.elim (λy17=>
 some (true)
 )
 (λy18=>
 some y18
 )
 y16)
theorem aIq (a0:(List (List Int))) (a1:(List (List Int))) (r:Bool) (h:xZ a0 a1=some r):HasC Tryz.prog 225 [.list 1 (a0.map (dQ 1 eI)),.list 1 (a1.map (dQ 1 eI))] (.bl r):=by
 refine hM [.tmp 4] Tryz.func225 Tryz.ntmps225 k<|sR<|aT k2<|sQ<|sR<|am k k<|ln k4<|am k k<|ln k4<|cm k4<|an<|tn<|cV k h (λ_ h=>sR<|aT k2<|aD<|aJ<|gW h k2) λ_ h=>?_;refine aI<|tn<|sQ<|sR<|aT k2<|aC<|oB h λy16 hy16 h=>bU (body:=(sK a0 a1)) hy16 (λ(x1:Int)=>mN [(0,.list 1 (a0.map (dQ 1 eI))),(1,.list 1 (a1.map (dQ 1 eI))),(5,.int x1)] [] 0) (λr e t=>Sum.elim (λa=>(λr e t=>e= .exit 0∧Ent t (mN [] [] 0)) a e t) (λb=>(λr e t=>e= .ret∧vJ TT [.tmp 4] (.bl r) .ret t) b e t) r) (bO (bG k2) aX k4) ?_ ?_
 ·intro x1 o h;refine sQ<|sR<|am k k<|am k k<|ln k4<|cm k4<|an<|tn<|cV k h (λ_ h=>?_) λ_ h=>aW<|aB<|aB<|sp h ⟨_,k,k,(bO aX aX k4)⟩;refine aI<|tn<|sQ<|aC<|sQ<|sQ<|aQ fA<|am k k<|am k k<|oB h λv3 hv3 h=>ae (xl hv3 k) k<|lr k7<|ln k4<|am k k<|am k k<|oB h λv4 hv4 h=>ae (xl hv4 k) k<|lr k7<|ln k4<|cm k4<|an<|oA (by kernel_rfl)<|tn<|cV k h (λ_ h=>sR<|aT k2<|aD<|aJ<|bL<|aJ<|aJ<|sp h ⟨_,k,k,aZ k k k (oD k)⟩) λ_ h=>?_;refine aI<|tn<|sR<|aT k2<|aC<|oB h λy13 hy13 h=>bU (body:=(nW a0 a1 x1)) hy13 (λ(x2:Int)=>mN [(0,.list 1 (a0.map (dQ 1 eI))),(1,.list 1 (a1.map (dQ 1 eI))),(5,.int x1),(6,.int x2)] [] 0) (λr e t=>Sum.elim (λa=>(λr e t=>e= .exit 2∧Ent t (mN [(0,.list 1 (a0.map (dQ 1 eI))),(1,.list 1 (a1.map (dQ 1 eI))),(5,.int x1)] [] 0)) a e t) (λb=>(λr e t=>e= .ret∧vJ TT [.tmp 4] (.bl r) .ret t) b e t) r) (bO (bG k2) aX k4) ?_ ?_
  ·intro x2 o h;exact sQ<|sR<|am k k<|am k k<|am k k<|oB h λv6 hv6 h=>ae (xl hv6 k) k<|lr k7<|ln k4<|cm k4<|an<|tn<|cV k h (λ_ h=>aI<|tn<|sQ<|aC<|sQ<|aQ fA<|am k k<|am k k<|oB h λv8 hv8 h=>ae (xl hv8 k) k<|lr k7<|am k k<|oB h λv9 hv9 h=>ae (xl hv9 k) k<|lr k7<|am k k<|am k k<|oB h λv10 hv10 h=>ae (xl hv10 k) k<|lr k7<|am k k<|oB h λv11 hv11 h=>ae (xl hv11 k) k<|lr k7<|cm k4<|an<|oA (by kernel_rfl)<|tn<|cV k h (λ_ h=>sR<|aT k2<|aD<|bL<|aJ<|aJ<|sp h ⟨_,k,k,aZ k k k (oD k)⟩) λ_ h=>aI<|aY<|tn<|rg<|am k k<|ae (bB k k) k<|aT k2<|sp h ⟨_,k,(bO (bG k2) aX k4)⟩) λ_ h=>aW<|aB<|aB<|sp h ⟨_,k,k,(bO (bG k2) aX k4)⟩
  ·intro e t hX;rcases y13 with y14|y15
   ·obtain ⟨rfl,hent⟩:=hX;exact aM<|aY<|tn<|aL hent<|rg<|am k k<|ae (bB k k) k<|aT k2<|sp h ⟨_,k,(bO (bG k2) aX k4)⟩
   ·obtain ⟨rfl,hent⟩:=hX;exact bL<|bL<|aJ<|aJ<|sp h ⟨_,k,k,hent⟩
 ·intro e t hX;rcases y16 with y17|y18
  ·obtain ⟨rfl,hent⟩:=hX;exact aM<|tn<|aL hent<|sR<|aT k2<|aD<|gW h k2
  ·obtain ⟨rfl,hent⟩:=hX;exact bL<|aJ<|sp h hent
def gR (a0:Int) (a1:Sc):Option Bool:=
 (xY a0 a1.size a1.basis).bind λv1=>
 bif !v1 then
 (some (false))
 else
 ((pX a1.size a1.basis).bind λv3=>
 (nU a0 v3).bind λv4=>
 (xZ v4 a1.basis).bind λv5=>
 some (v5))
theorem nX (a0:Int) (a1:Sc) (r:Bool) (h:gR a0 a1=some r):HasC Tryz.prog 182 [.int a0,.agg (eS a1)] (.bl r):=by
 exact hM [.tmp 4] Tryz.func182 Tryz.ntmps182 k<|sR<|ae (wb k) k<|aT k2<|sQ<|sR<|am k k<|fp k8<|lp k8<|fp k8<|lp k8<|oB h λv1 hv1 h=>ae (aH (aIp a0 a1.size a1.basis v1 hv1) k (bZ k (bZ k (bZ k aE)))) k<|ae (dB k) k<|an<|tn<|cV k h (λ_ h=>sR<|aT k2<|aD<|aJ<|gW h k2) λ_ h=>aI<|tn<|sQ<|aQ fA<|am k k<|fp k8<|lp k8<|fp k8<|lp k8<|oB h λv3 hv3 h=>ae (cM (aAw a1.size a1.basis v3 hv3) k3 (bZ k (bZ k aE))) k<|oB h λv4 hv4 h=>ae (cL bW (aAJ a0 v3 v4 hv4) k3 (bZ k (aG (vaM k2) aE))) k<|fp k8<|lp k8<|oB h λv5 hv5 h=>ae (aH (aIq v4 a1.basis v5 hv5) k (aG (yZ bW k k) (bZ k aE))) k<|aa k k<|an<|oA (by kernel_rfl)<|tn<|aD<|gW h k2
end
noncomputable section
theorem aEU {l:List (List Int)} {n:Nat} (h: ∀ v∈l,v.length=n):l=(List.range l.length).map λi=>dZ n (cD l i):=by
 refine List.ext_getElem (by simp) λi h1 h2=>?_;simp only [List.getElem_map,List.getElem_range];refine List.ext_getElem (by rw [eN];exact h _ (List.getElem_mem h1)) λj h3 h4=>?_;simp [dZ,cD,h1,h3]
theorem aJk {l:List (List Int)} {n:Nat} (h: ∀ v∈l,v.length=n):l.flatten=bT l.length n (cD l):=by
 have e:l.flatten=((List.range l.length).map λi=>dZ n (cD l i)).flatten:=by rw [←aEU h]
 rw [e,aET]
theorem aKq {p:Int} (hp:iR p=true) {n:Nat} {l:List (List Int)} (hn:n≤1024) (hl:l.length≤512) (h:VecsP p n l):Tb p l.length n (cD l):=by
 refine ⟨hp,?_,by omega,by omega,h.inP⟩;have:=Nat.mul_le_mul hl hn;omega
theorem aMS {r c i:Nat} (hN:r*c≤1048576) (hr:r≤1048576) (hi:i<r) (F:Nat→Nat→Int):((bT r c F).drop (0+(i*c))).take ((i*c+c) - i*c)=dZ c (F i):=by
 have h:= @aHh r c i hi;rw [Nat.succ_mul] at h;refine List.ext_getElem (by simp [dO,eN];omega) λt h1 h2=>?_;rw [eN] at h2;rw [List.getElem_take,List.getElem_drop];simp [bT,dZ,aAn h2,aAo h2]
theorem aDM (F:Nat→Nat→Int) (r n:Nat):eZ F r n=(List.range r).map λi=>dZ n (F i):=rfl
theorem aDN (F:Nat→Nat→Int) (r n:Nat):eZ F r n++[dZ n (F r)]=eZ F (r+1) n:=by
 rw [aDM,aDM,List.range_succ,List.map_append];rfl
theorem aOC {n:Nat} {l:List (List Int)} (hn:n≤1024) (hl:l.length≤512) (h: ∀ v∈l,v.length=n):uU n l=some ⟨l.length,n,bT l.length n (cD l)⟩:=by
 unfold uU;rw [aRp hl (λv hv=>by rw [h v hv];exact hn),aA,aJk h]
theorem xF {p:Int} (hp:iR p=true) {n:Nat} {l:List (List Int)} (hn:n≤1024) (hl:l.length≤512) (h:VecsP p n l):mB p n l=some ⟨n,eD p n l⟩:=by
 have T:=aKq hp hn hl h;have hL:= @kZ p l.length (cD l) n;have h1:=T.hN;unfold mB;rw [aOC hn hl (λv hv=>(h v hv).1),aA,aBu T,aA];rw [cF (r:=eD p n l) (λk=>(eZ (bF p l.length (cD l) n).1 k n,(k:Int))) (bF p l.length (cD l) n).2.length (by simp [eZ]) (λk hk=>?_) (λ_=>?_),aA]
 ·have hkl:k<l.length:=by omega
  have h3:= @aHh l.length n k hkl;rw [Nat.succ_mul] at h3;unfold wG;simp only;rw [dG,gC hk,aN,aFn T.hN T.hm hkl,aA,tL T.hN hkl,wA T.hN T.hm hkl];simp only [dJ];rw [aMS T.hN T.hm hkl];unfold xQ;rw [eN,bC (by omega),aN,aA,lL,bC (by omega),aN,aDN,bK hk (by omega)]
 ·unfold wG;simp only;rw [dG,gS (bA _),aS];rfl
theorem aHs {n:Nat} {l:List (List Int)} (hn:n≤1024) (hl:l.length≤512) (h: ∀ v∈l,v.length=n):pX n l=some ⟨l.length,n,bT l.length n (cD l)⟩:=by
 have hb: ∀ k,(l.take k).flatten.length ≤1024*512:=λk=>by
  have:=aJj (l:=l.take k) λx hx=>by rw [h x (List.mem_of_mem_take hx)];exact hn
  have h2:(l.take k).length ≤512:=by simp;omega
  omega
 unfold pX;rw [cF (r:=l.flatten) (λk=>((l.take k).flatten,(k:Int))) l.length (by simp) (λk hk=>?_) (λ_=>?_),aA,aJk h]
 ·unfold sI;simp only;have e2:=hb (k+1);rw [zV hk,List.length_append] at e2;rw [gC hk,aN,dR hk,aA,bC (by omega),aN,bK hk (by omega),zV hk]
 ·unfold sI;simp only;rw [gS (bA _),aS,List.take_length]
theorem aFG {p:Int} {m n:Nat} {F:Nat→Nat→Int} (T:Tb p m n F):nU p ⟨m,n,bT m n F⟩=some (eZ (bF p m F n).1 (bF p m F n).2.length n):=by
 have hL:= @kZ p m F n;have hm:=T.hm;have hn:=T.hn;unfold nU;rw [wB T,aA];rw [cF (r:=eZ (bF p m F n).1 (bF p m F n).2.length n) (λk=>(eZ (bF p m F n).1 k n,(k:Int))) (bF p m F n).2.length (by simp [eZ]) (λk hk=>?_) (λ_=>?_),aA]
 ·have hkl:k<m:=by omega
  have h3:= @aHh m n k hkl;rw [Nat.succ_mul] at h3;have h4:=T.hN;have e:wr (wr ((k:Int)*(n:Int))+(n:Int))=((k*n+n:Nat):Int):=by rw [tL T.hN hkl,cZ (by omega)];omega
  unfold qP;simp only;rw [dG,gC hk,aN,e,tL T.hN hkl,dO,bC (by omega),bC (by omega:((k*n:Nat):Int)≤((k*n+n:Nat):Int)),bC (by omega:((k*n+n:Nat):Int)≤((m*n:Nat):Int))];simp only [dJ,Bool.and_self,aN,aMS T.hN T.hm hkl];rw [eN,bC (by simp;omega),aN,lL,bC (by omega),aN,List.nil_append,aDN,bK hk (by omega)]
 ·unfold qP;simp only;rw [dG,gS (bA _),aS]
theorem aAK {p:Int} (hp:iR p=true) {n:Nat} {l:List (List Int)} (hn:n≤1024) (hl:l.length≤512) (h:VecsP p n l):iI p n l=some ⟨n,eD p n l⟩:=by
 unfold iI;rw [aHs hn hl (λv hv=>(h v hv).1),aA,aFG (aKq hp hn hl h),aA];rfl
def bLs (l:List (List Int)):Prop:=l.length≤1048576∧ ∀ v∈l,bI v
theorem aOD (p:Int) (v:List Int):(iR p&&decide (v.length≤64)&&v.all λx=>inR x 0 (wr (p - 1)))=aDZ p v:=by
 unfold aDZ;cases h:iR p with
 |false=>rfl
 |true=>rw [cZ (by have:=dF h;omega)]
theorem aTU (p size:Int) (l:List (List Int)):aFe p size l=(iR p&&inR size 0 8&&decide (l.length≤16)&&l.all λv=>decide ((v.length:Int)=size)&&aDZ p v):=rfl
theorem aUW {p:Int} {n:Nat} {l:List (List Int)} (hl:l.length≤1048576) (hn:n≤1048576) (h:VecsP p n l):bLs l:=⟨hl,λv hv=>by unfold bI;rw [(h v hv).1];exact hn⟩
theorem aRq {p:Int} (hp:iR p=true) {n:Nat} {l:List (List Int)} (hn:n≤1048576) (h:VecsP p n l):bLs (eD p n l):=aUW (by have:=(@yE p n l).1;omega) hn (rT hp h.inP)
theorem aRr (p n:Int) {l:List (List Int)} (h:bLs l):xY p n l=some (aFe p n l):=by
 unfold xY;have hall:=aBI ([]:List Int) l (λv=>decide ((v.length:Int)=n)&&aDZ p v);have hb:=h.1;rw [aAB (λk=>decide ((((l[k]?.getD []).length:Nat):Int)=n)&&aDZ p (l[k]?.getD [])) false (n:=l.length) (by omega) (λk hk=>?_) (λ_=>?_),aA,hall,aTU]
 ·cases l.all λv=>decide ((v.length:Int)=n)&&aDZ p v with
  |false=>simp
  |true=>
   simp only [aN,Sum.elim_inl];rw [aEN,aA,yN,aA,Bool.and_true,Bool.and_assoc];refine gA λ_=>?_;refine gA λ_=>?_;congr 1;rw [Bool.eq_iff_iff,iO,iO];omega
 ·unfold sJ;rw [gC hk,aN,iJ [] hk,aA,aA,aCu p (h.2 _ (fT [] hk)),aA,aOD];cases decide ((((l[k]?.getD []).length:Nat):Int)=n) <;> cases aDZ p (l[k]?.getD []) <;> rfl
 ·unfold sJ;rw [gS (bA _),aS]
theorem aRs {a b:List (List Int)} (h:bLs a):xZ a b=some (decide (a=b)):=by
 obtain ⟨h,hb⟩:=h;unfold xZ;rw [aEM];by_cases e:a.length=b.length
 ·rw [bC e,eC,aS];refine aHd (by omega) e (λk h1 h2=>?_) ?_
  ·have hbk:=hb _ (List.getElem_mem h1);unfold bI at hbk;unfold sK;rw [gC h1,aN,dR h1,aA,dR h2,aA,aEM];by_cases e2:a[k].length=b[k].length
   ·rw [bC e2,eC,aS];have h3:=aAB (body:=nW a b k) (λj=>decide (a[k][j]?.getD 0=b[k][j]?.getD 0)) false (n:=a[k].length) (by omega) (λj hj=>?_) ?_
    ·rw [h3,aLp e2,aA];cases decide (a[k]=b[k]) <;> rfl
    ·unfold nW;rw [dR h1,aA,gC hj,aN,aA,iJ 0 hj,aA,dR h2,aA,iJ 0 (e2▸hj),aA];cases decide (a[k][j]?.getD 0=b[k][j]?.getD 0) <;> rfl
    ·intro _;unfold nW;rw [dR h1,aA,gS (bA _),aS]
   ·rw [dM e2,Bool.not_false,aN,dM (λe3=>e2 (by rw [e3])),aS]
  ·unfold sK;rw [gS (bA _),aS]
 ·rw [dM e,Bool.not_false,aN,dM (by rintro rfl;exact e rfl)]
theorem jW (p:Int) {s:Sc} (h:bS s):gR p s=some (jY p s.size s.basis):=by
 unfold gR jY;rw [aRr p s.size h.1,aA];cases hf:aFe p s.size s.basis with
 |false=>rfl
 |true=>
  obtain ⟨hp,n,e,hn,hl,hv⟩:=aFf hf;rw [eC,aS,e,aHs (by omega) (by omega) (λv hv'=>(hv v hv').1),aA,aFG (aKq hp (by omega) (by omega) hv),aA,show eZ (bF p s.basis.length (cD s.basis) n).1 (bF p s.basis.length (cD s.basis) n).2.length n=eD p n s.basis from rfl,aRs (aRq hp (by omega) hv),aA];simp
end
noncomputable section
set_option maxRecDepth 10000
set_option maxHeartbeats 4000000
end
noncomputable section
set_option maxRecDepth 10000
set_option maxHeartbeats 4000000
end
noncomputable section
theorem aUX {α β:Type} {l:List α} {f:α→β} {body:List β×Int→Option ((List β×Int) ⊕ List β)} (hl:l.length≤4611686018427387904)
  (hs: ∀ (k:Nat) (hk:k<l.length) (o:List β),o.length=k→body (o,k)=some (.inl (o++[f l[k]],wr (k+1)))) (he: ∀ o,body (o,l.length)=some (.inr o)):Lp body ([],0)=some (l.map f):=by
 rw [cF (r:=l.map f) (λk=>((l.take k).map f,(k:Int))) l.length (by simp) (λk hk=>?_) (λ_=>?_)]
 ·rw [hs k hk _ (by simp;omega),bK hk hl,aCM hk,List.map_append];rfl
 ·rw [he,List.take_length]
def aAL (r c:Nat) (F:Nat→Nat→Int):List (List Int):=(List.range c).map λk=>dZ r λi=>F i k
theorem aRt {r c k:Nat} (hN:r*c≤1048576) (hr:r≤1048576) (hk:k<c) (F:Nat→Nat→Int):mA ⟨r,c,bT r c F⟩ k=some (dZ r λi=>F i k):=by
 unfold mA;simp only;rw [bC (by omega),bC (by omega:(r:Int)≤1048576),Bool.and_self,aN];rw [cF (r:=dZ r λi=>F i k) (λt=>(dZ r (λi=>if i<t then F i k else 0),(t:Int))) r (by simp [aFF]) (λt ht=>?_) (λ_=>?_),aA]
 ·unfold iU;simp only [List.length_replicate,dJ];rw [gC ht,aN,atT hN ht hk,aA,aBr _ ht,aA,aES ht,bK ht (by omega)];congr 3;refine kG λb hb=>?_;by_cases e:b=t
  ·rw [aU e,aU (by omega),e]
  ·rw [aV e];by_cases e2:b<t
   ·rw [aU e2,aU (by omega)]
   ·rw [aV e2,aV (by omega)]
 ·unfold iU;simp only [List.length_replicate,dJ];rw [gS (bA _),aS];congr 2;exact kG λb hb=>by rw [aU hb]
theorem aQB {r c:Nat} (hN:r*c≤1048576) (hr:r≤1048576) (hc:c≤1048576) (F:Nat→Nat→Int):kR ⟨r,c,bT r c F⟩=some (aAL r c F):=by
 unfold kR;rw [cF (r:=aAL r c F) (λk=>(aAL r k F,(k:Int))) c (by simp [aAL]) (λk hk=>?_) (λ_=>?_),aA]
 ·unfold iH;simp only;rw [gC hk,aN,aRt hN hr hk,aA,bC (by simp [aAL];omega),aN,bK hk (by omega)];congr 3;unfold aAL;rw [List.range_succ,List.map_append];rfl
 ·unfold iH;simp only;rw [gS (bA _),aS]
def tM (r:Nat) (F:Nat→Nat→Int) (L:List Nat):List (List Int):=L.map λk=>dZ r λi=>F i k
theorem aHt {p:Int} {m:Nat} {F:Nat→Nat→Int} {t i:Nat} (h:i<(bF p m F t).2.length):(bF p m F t).2[i]'h<t:=aBK t _ (List.getElem_mem h)
theorem aQC {p:Int} {m n:Nat} {F:Nat→Nat→Int} (T:Tb p m n F):wH p ⟨m,n,bT m n F⟩=some (tM m F (bF p m F n).2):=by
 have hL:= @kZ p m F n;have hm:=T.hm;unfold wH;rw [wB T,aA];rw [aUX (l:=(bF p m F n).2) (f:=λk=>dZ m λi=>F i k) (by omega) (λk hk o ho=>?_) (λo=>?_),aA]
 ·rfl
 ·have hlt:=aHt hk;unfold qO;simp only;rw [dG,gC hk,aN];rw [cF (r:=dZ m λi=>F i (bF p m F n).2[k]) (λt=>(dZ t (λi=>F i (bF p m F n).2[k]),(t:Int))) m (by simp [dZ]) (λt ht=>?_) (λ_=>?_),aA,bC (by omega),aN]
  ·unfold qN;simp only;rw [gC ht,aN,dR (by rw [dG];exact hk),aA];have e:(gB (bF p m F n).2)[k]'(by rw [dG];exact hk)=(((bF p m F n).2[k]:Nat):Int):=by simp [gB]
   rw [e,atT T.hN ht hlt,aA,bC (by rw [eN];simp;omega),aN,bK ht (by omega)];congr 3;unfold dZ;rw [List.range_succ,List.map_append];rfl
  ·unfold qN;simp only;rw [gS (bA _),aS]
 ·unfold qO;simp only;rw [dG,gS (bA _),aS]
theorem aMT {p:Int} (hp:iR p=true) {n:Nat} {l l':List (List Int)} (h:wT p l.length n (cD l)) (h':wT p l'.length n (cD l')) (hK: ∀ x,Kr p l.length n (cD l) x↔Kr p l'.length n (cD l') x):eD p n l=eD p n l':=by
 obtain ⟨e1,e2⟩:=aKg hp h h' hK;unfold eD;rw [←e1];exact aCN e2
theorem aRu {p:Int} {f:Nat→Int} : ∀ {n:Nat},(∀ k,k<n→Z0 p (f k))→Z0 p (sN f n)
 |0,_=>by unfold Z0;simp [sN]
 |n+1,h=>aKe (aRu λk hk=>h k (by omega)) (h n (by omega))
theorem aTV {p:Int} {r c:Nat} {F:Nat→Nat→Int} {x:Nat→Int} :Kr p (aAL r c F).length r (cD (aAL r c F)) x↔ ∀ k,k<c→Z0 p (dt r (λi=>F i k) x):=by
 have e: ∀ k,k<c→dt r (cD (aAL r c F) k) x=dt r (λi=>F i k) x:=λk hk=>gZ λi hi=>by simp [cD,aAL,dZ,hk,hi]
 have hl:(aAL r c F).length=c:=by simp [aAL]
 unfold Kr;rw [hl];exact ⟨λh k hk=>e k hk▸h k hk,λh k hk=>(e k hk).symm ▸h k hk⟩
theorem aQD {p:Int} {r:Nat} {F:Nat→Nat→Int} {L:List Nat} {x:Nat→Int} :Kr p (tM r F L).length r (cD (tM r F L)) x↔ ∀ t,t<L.length→Z0 p (dt r (λi=>F i (L[t]?.getD 0)) x):=by
 have e: ∀ t,t<L.length→dt r (cD (tM r F L) t) x=dt r (λi=>F i (L[t]?.getD 0)) x:=λt ht=>gZ λi hi=>by simp [cD,tM,dZ,ht,hi]
 have hl:(tM r F L).length=L.length:=by simp [tM]
 unfold Kr;rw [hl];exact ⟨λh k hk=>e k hk▸h k hk,λh k hk=>(e k hk).symm ▸h k hk⟩
theorem aUY {r n k:Nat} {F R:Nat→Nat→Int} {L:List Nat} {x:Nat→Int} :dt r (λi=>F i k - sN (λt=>F i (L[t]?.getD 0)*R t k) n) x=dt r (λi=>F i k) x - sN (λt=>R t k*dt r (λi=>F i (L[t]?.getD 0)) x) n:=by
 induction n with
 |zero=>simp [sN,dt]
 |succ n ih=>
  have e:dt r (λi=>F i k - sN (λt=>F i (L[t]?.getD 0)*R t k) (n+1)) x=dt r (λi=>(F i k - sN (λt=>F i (L[t]?.getD 0)*R t k) n)+(-(R n k))*F i (L[n]?.getD 0)) x:=gZ λi hi=>by
   congr 1;show F i k - (sN (λt=>F i (L[t]?.getD 0)*R t k) n+F i (L[n]?.getD 0)*R n k)=F i k - sN (λt=>F i (L[t]?.getD 0)*R t k) n+(-(R n k))*F i (L[n]?.getD 0);rw [Int.neg_mul,Int.mul_comm (R n k)];omega
  rw [e,aRl,ih,Int.neg_mul];show _=dt r (λi=>F i k) x - (sN (λt=>R t k*dt r (λi=>F i (L[t]?.getD 0)) x) n+R n k*dt r (λi=>F i (L[n]?.getD 0)) x);omega
theorem aQE {p:Int} (hp:iR p=true) {r c:Nat} {F:Nat→Nat→Int} (hF:wT p r c F):eD p r (aAL r c F)=eD p r (tM r F (bF p r F c).2):=by
 have hb:=dF hp;have hR:=aAD hp hF c (bA _)
 have i1:wT p (aAL r c F).length r (cD (aAL r c F)):=by
  intro k i hk hi;have hk:k<c:=by simpa [aAL] using hk
  have e:cD (aAL r c F) k i=F i k:=by simp [cD,aAL,dZ,hk,hi]
  rw [e];exact hF i k hi hk
 have i2:wT p (tM r F (bF p r F c).2).length r (cD (tM r F (bF p r F c).2)):=by
  intro k i hk hi;have hk:k<(bF p r F c).2.length:=by simpa [tM] using hk
  have e:cD (tM r F (bF p r F c).2) k i=F i ((bF p r F c).2[k]):=by simp [cD,tM,dZ,hk,hi]
  rw [e];exact hF i _ hi (aHt hk)
 refine aMT hp i1 i2 λx=>?_;rw [aTV,aQD];constructor
 ·intro h t ht;exact h _ (hR.lt t ht)
 ·intro h k hk;by_cases hL: ∃ i,i<(bF p r F c).2.length∧(bF p r F c).2[i]?.getD 0=k
  ·obtain ⟨i,h1,rfl⟩:=hL;exact h i h1
  ·have hL': ∀ i,i<(bF p r F c).2.length→(bF p r F c).2[i]?.getD 0≠k:=λi hi e=>hL ⟨i,hi,e⟩;have hk1:=(xV hp hF (kx (bF p r F c).1 (bF p r F c).2 k) c (bA _)).1 (aKf hR hk hL')
   have hz:Z0 p (dt r (λi=>F i k - sN (λt=>F i ((bF p r F c).2[t]?.getD 0)*(bF p r F c).1 t k) (bF p r F c).2.length) x):=by
    unfold dt;refine aRu λi hi=>?_;have:=hk1 i hi;rw [aMK hR hk hL'] at this;rw [Int.mul_comm];exact aFC _ this
   rw [aUY] at hz;have hs:Z0 p (sN (λt=>(bF p r F c).1 t k*dt r (λi=>F i ((bF p r F c).2[t]?.getD 0)) x) (bF p r F c).2.length):=aRu λt ht=>aFC _ (h t ht);have:=aKe hz hs
   rwa [Int.sub_add_cancel] at this
theorem aFH {p:Int} {r c:Nat} {F:Nat→Nat→Int} (hF:wT p r c F):VecsP p r (aAL r c F):=by
 intro v hv;unfold aAL at hv;obtain ⟨k,hk,rfl⟩:=List.mem_map.1 hv;refine ⟨eN _ _,λx hx=>?_⟩;obtain ⟨i,hi,rfl⟩:=List.mem_map.1 hx;exact hF i k (List.mem_range.1 hi) (List.mem_range.1 hk)
theorem aMU {p:Int} {r c:Nat} {F:Nat→Nat→Int} (hF:wT p r c F) {L:List Nat} (hL: ∀ k∈L,k<c):VecsP p r (tM r F L):=by
 intro v hv;unfold tM at hv;obtain ⟨k,hk,rfl⟩:=List.mem_map.1 hv;refine ⟨eN _ _,λx hx=>?_⟩;obtain ⟨i,hi,rfl⟩:=List.mem_map.1 hx;exact hF i k (List.mem_range.1 hi) (hL k hk)
end
noncomputable section
theorem aRv {k:Nat} {f:Nat→Nat} (hlt: ∀ t,t<k→f t<k) (hinc: ∀ s t,s<t→t<k→f s<f t): ∀ t,t<k→f t=t:=by
 have h1: ∀ t,t<k→t≤f t:=by
  intro t;induction t with
  |zero=>intro _;exact Nat.zero_le _
  |succ t ih=>intro h;have:=ih (by omega);have:=hinc t (t+1) (by omega) h;omega
 have h2: ∀ d t,t+d+1=k→f t≤t:=by
  intro d;induction d with
  |zero=>intro t h;have:=hlt t (by omega);omega
  |succ d ih=>intro t h;have:=ih (t+1) (by omega);have:=hinc t (t+1) (by omega) (by omega);omega
 intro t ht;have:=h1 t ht;have:=h2 (k - t - 1) t (by omega);omega
theorem aOE {L M:List Nat} (hL: ∀ i k,i<k→k<L.length→L[i]?.getD 0<L[k]?.getD 0) (hM: ∀ i k,i<k→k<M.length→M[i]?.getD 0<M[k]?.getD 0) (hs: ∀ t,t<M.length→ ∃ i,i<L.length∧L[i]?.getD 0=M[t]?.getD 0) (hl:L.length=M.length):L=M:=by
 have hs': ∀ t:Nat,∃ i,t<M.length→i<L.length∧L[i]?.getD 0=M[t]?.getD 0:=λt=>by
  by_cases h:t<M.length
  ·obtain ⟨i,hi⟩:=hs t h;exact ⟨i,λ_=>hi⟩
  ·exact ⟨0,λh'=>absurd h' h⟩
 obtain ⟨f,hf⟩:=Classical.axiomOfChoice hs'
 have e:=aRv (k:=M.length) (f:=f) (λt ht=>hl▸(hf t ht).1) (λs t hst ht=>by
  rcases Nat.lt_trichotomy (f s) (f t) with h|h|h
  ·exact h
  ·have a:=(hf s (by omega)).2;have b:=(hf t ht).2;have c:=hM s t hst ht;rw [h,b] at a;omega
  ·have a:=(hf s (by omega)).2;have b:=(hf t ht).2;have c:=hM s t hst ht;have:=hL (f t) (f s) h (hf s (by omega)).1
   omega)
 refine List.ext_getElem hl λi h1 h2=>?_;have:=(hf i h2).2;rw [e i h2] at this;simpa [h1,h2] using this
theorem aMV {p:Int} (hp:iR p=true) {m m' n:Nat} {F G:Nat→Nat→Int} {L M:List Nat} (hF:Red m n F L) (hG:Red m' n G M) (iF:wT p m n F) (iG:wT p m' n G) (hK: ∀ x,Kr p m n F x→Kr p m' n G x) (hl:L.length=M.length):L=M∧ ∀ i j,i<L.length→j<n→F i j=G i j:=by
 have e:L=M:=aOE hF.inc hG.inc (λt ht=>aGg hp hF hG hK ht) hl;subst e;refine ⟨rfl,λi k hi hk=>?_⟩;have hm:=hF.len;have hm':=hG.len;by_cases hL: ∃ t,t<L.length∧L[t]?.getD 0=k
 ·obtain ⟨t,ht,rfl⟩:=hL;by_cases e:i=t
  ·subst e;rw [hF.one i hi,hG.one i hi]
  ·rw [hF.col t i ht (by omega) e,hG.col t i ht (by omega) e]
 ·have hL: ∀ t,t<L.length→L[t]?.getD 0≠k:=λt ht e=>hL ⟨t,ht,e⟩;have h1:=hK _ (aKf (p:=p) hF hk hL) i (by omega);rw [aMK hF hk hL,aBp (j:=i) hi (λt ht hti=>by rw [hG.col t i ht (by omega) (λe=>hti e.symm)];simp),hG.one i hi,Int.one_mul] at h1;unfold Z0 at h1;have b1:=iF i k (by omega) hk;have b2:=iG i k (by omega) hk
  have e1:G i k % p=F i k % p:=by
   have:=Int.emod_emod_of_dvd;exact Int.emod_eq_emod_iff_emod_sub_eq_zero.2 h1
  rw [Int.emod_eq_of_lt b2.1 b2.2,Int.emod_eq_of_lt b1.1 b1.2] at e1;exact e1.symm
theorem aBT {p:Int} {n:Nat} {l:List (List Int)} (hp:iR p=true) (hv:VecsP p n l) (hs:eD p n l=l): ∃ L,L.length=l.length∧Red l.length n (cD l) L:=by
 have hi:=hv.inP;have hr:=aAD hp hi n (bA _)
 have hlen:(bF p l.length (cD l) n).2.length=l.length:=by
  have:=congrArg List.length hs;unfold eD at this;rw [lL] at this;exact this
 have hrow: ∀ i j,i<l.length→j<n→(bF p l.length (cD l) n).1 i j=cD l i j:=by
  intro i j hi hj;have:=aBf (bF p l.length (cD l) n).1 (bF p l.length (cD l) n).2.length n i j (by omega) hj;unfold eD at hs;rw [hs] at this;exact this.symm
 refine ⟨_,hlen,⟨hr.lt,hr.inc,by omega,λi h=>?_,λi k h hk hne=>?_,λi j h h2 hj=>?_,λi j h hj=>?_⟩⟩
 ·rw [←hrow i _ (by omega) (hr.lt i h)];exact hr.one i h
 ·rw [←hrow k _ hk (hr.lt i h)];exact hr.col i k h hk hne
 ·omega
 ·rw [←hrow i j (by omega) (by have:=hr.lt i h;omega)];exact hr.left i j h hj
theorem zW {p:Int} {n:Nat} {a b:List (List Int)} {x:Nat→Int} :Kr p (a++b).length n (cD (a++b)) x↔Kr p a.length n (cD a) x∧Kr p b.length n (cD b) x:=by
 have e1: ∀ i,i<a.length→cD (a++b) i=cD a i:=λi hi=>by funext j;simp only [cD];rw [List.getElem?_append_left hi]
 have e2: ∀ i,cD (a++b) (a.length+i)=cD b i:=λi=>by funext j;simp only [cD];rw [List.getElem?_append_right (by omega),Nat.add_sub_cancel_left]
 unfold Kr;rw [List.length_append];refine ⟨λh=>⟨λi hi=>e1 i hi▸h i (by omega),λi hi=>e2 i▸h (a.length+i) (by omega)⟩,λh i hi=>?_⟩;rcases dV i a.length with h'|h'
 ·rw [e1 i h'];exact h.1 i h'
 ·have:=h.2 (i - a.length) (by omega);rw [←e2,show a.length+(i - a.length)=i by omega] at this;exact this
theorem aOF {p:Int} (hp:iR p=true) {n:Nat} {a b:List (List Int)} (ha:VecsP p n a) (hb:VecsP p n b) (hs:eD p n b=b):(vU p n a b).length=b.length↔ ∀ x,Kr p b.length n (cD b) x→Kr p a.length n (cD a) x:=by
 have hi:=(ha.append hb).inP;constructor
 ·intro hl x hx;obtain ⟨L,hLl,hR⟩:=aBT hp hb hs;have hr:=aAD hp hi n (bA _);have hb':=dF hp
  have hlen:(bF p (a++b).length (cD (a++b)) n).2.length=L.length:=by
   unfold vU eD at hl;rw [lL] at hl;omega
  obtain ⟨_,h2⟩:=aMV hp hr hR (pM (by omega) hi n) hb.inP (λx hx=>(zW.1 ((xV hp hi x n (bA _)).1 hx)).2) hlen;refine (zW.1 ((xV hp hi x n (bA _)).1 λi hi'=>?_)).1;rcases dV i (bF p (a++b).length (cD (a++b)) n).2.length with h'|h'
  ·have e:dt n ((bF p (a++b).length (cD (a++b)) n).1 i) x=dt n (cD b i) x:=gZ λk hk=>by rw [h2 i k h' hk]
   rw [e];exact hx i (by omega)
  ·have e:dt n ((bF p (a++b).length (cD (a++b)) n).1 i) x=0:=by
    unfold dt;rw [gZ (g:=λ_=>0) (λk hk=>by rw [hr.low i k h' hi' hk];simp),zF]
   rw [e];unfold Z0;simp
 ·intro hK;unfold vU;rw [aMT hp hi hb.inP λx=>⟨λh=>(zW.1 h).2,λh=>zW.2 ⟨hK x h,h⟩⟩,hs]
end
noncomputable section
def off (l:Nat→Nat):Nat→Nat
 |0=>0
 |k+1=>off l k+l k
theorem aDk {l:Nat→Nat} {i k:Nat} (h:i≤k):off l i≤off l k:=by
 induction k with
 |zero=>have:i=0:=by omega
        subst this;exact bA _
 |succ k ih=>
  rcases dV k i with h'|h'
  ·have:i=k+1:=by omega
   subst this;exact bA _
  ·have:=ih h';show off l i≤off l k+l k;omega
theorem xG {l:Nat→Nat} {i k y:Nat} (hi:i<k) (hy:y<l i):off l i+y<off l k:=by
 have:= @aDk l (i+1) k hi;have e:off l (i+1)=off l i+l i:=rfl;omega
theorem aEV {l:Nat→Nat} : ∀ {k x:Nat},x<off l k→ ∃ i y,i<k∧y<l i∧x=off l i+y
 |0,x,h=>absurd h (Nat.not_lt_zero _)
 |k+1,x,h=>by
  rcases dV x (off l k) with h'|h'
  ·obtain ⟨i,y,h1,h2,h3⟩:=aEV h';exact ⟨i,y,by omega,h2,h3⟩
  ·have e:off l (k+1)=off l k+l k:=rfl;exact ⟨k,x - off l k,by omega,by omega,by omega⟩
theorem aTW {l:Nat→Nat} {i j y z:Nat} (hy:y<l i) (hz:z<l j) (h:off l i+y=off l j+z):i=j∧y=z:=by
 have e1:off l (i+1)=off l i+l i:=rfl;have e2:off l (j+1)=off l j+l j:=rfl;rcases Nat.lt_trichotomy i j with h1|h1|h1
 ·have:= @aDk l (i+1) j h1;omega
 ·subst h1;exact ⟨rfl,by omega⟩
 ·have:= @aDk l (j+1) i h1;omega
def cat (l:Nat→Nat) (f:Nat→Nat→Int):Nat→List Int
 |0=>[]
 |k+1=>cat l f k++(List.range (l k)).map (f k)
theorem gY (l:Nat→Nat) (f:Nat→Nat→Int): ∀ k,(cat l f k).length=off l k
 |0=>rfl
 |k+1=>by rw [cat,off,List.length_append,gY l f k];simp
theorem sO {l:Nat→Nat} (f:Nat→Nat→Int): ∀ {k i y:Nat},i<k→y<l i→(cat l f k)[off l i+y]? =some (f i y)
 |0,i,y,h,_=>absurd h (Nat.not_lt_zero _)
 |k+1,i,y,h,hy=>by
  rw [cat];by_cases e:i=k
  ·subst e;rw [List.getElem?_append_right (by rw [gY];omega),gY,Nat.add_sub_cancel_left];simp [hy]
  ·rw [List.getElem?_append_left (by rw [gY];exact xG (by omega) hy)];exact sO f (by omega) hy
theorem aEW {l:Nat→Nat} {f:Nat→Nat→Int} {k:Nat} {v:List Int} (hv:v.length=off l k) (h: ∀ i y,i<k→y<l i→v[off l i+y]? =some (f i y)):v=cat l f k:=by
 refine List.ext_getElem (by rw [gY,hv]) λx h1 h2=>?_;obtain ⟨i,y,hi,hy,rfl⟩:=aEV (hv▸h1);have a:=h i y hi hy;have b:=sO f hi hy;rw [iY h1] at a;rw [iY h2] at b;exact (Option.some.inj a).trans (Option.some.inj b).symm
theorem aBU {l:Nat→Nat} {f g:Nat→Nat→Int} {k:Nat} (h: ∀ i y,i<k→y<l i→f i y=g i y):cat l f k=cat l g k:=
 aEW (gY l f k) λi y hi hy=>by rw [sO f hi hy,h i y hi hy]
theorem aKr {l:Nat→Nat} {f:Nat→Nat→Int} {k i y:Nat} (hi:i<k) (hy:y<l i) (v:Int):(cat l f k).set (off l i+y) v=cat l (λa b=>if a=i∧b=y then v else f a b) k:=by
 refine aEW (by rw [List.length_set,gY]) λa b ha hb=>?_;rw [List.getElem?_set];by_cases e:off l i+y=off l a+b
 ·obtain ⟨rfl,rfl⟩:=aTW hy hb e;rw [aU rfl,aU (by rw [gY];exact xG hi hy),aU ⟨rfl,rfl⟩]
 ·rw [aV e,aV (by rintro ⟨rfl,rfl⟩;exact e rfl),sO f ha hb]
theorem aMW (l:Nat→Nat) (k:Nat):List.replicate (off l k) (0:Int)=cat l (λ_ _=>0) k:=aEW (by simp) λi y hi hy=>by simp [xG hi hy]
theorem aRw {l:Nat→Nat} {f:Nat→Nat→Int} {k:Nat} : ∀ {n:Nat},k<n→((cat l f n).drop (off l k)).take (l k)=(List.range (l k)).map (f k):=by
 intro n hk;refine List.ext_getElem ?_ λx h1 h2=>?_
 ·have:= @aDk l (k+1) n hk;have e:off l (k+1)=off l k+l k:=rfl;simp [gY];omega
 ·have hx:x<l k:=by simpa using h2
  rw [List.getElem_take,List.getElem_drop];have:=sO f hk hx;rw [iY (by rw [gY];exact xG hk hx)] at this;simp [Option.some.inj this]
theorem aUZ {r c:Nat} {g:Nat→Int} {F:Nat→Nat→Int} (h: ∀ y,y<r*c→g y=F (y / c) (y % c)):(List.range (r*c)).map g=bT r c F:=yR λy hy=>h y (List.mem_range.1 hy)
theorem aDm {r c y:Nat} (h:y<r*c):y / c<r∧y % c<c:=by
 have hc:0<c:=by rcases Nat.eq_zero_or_pos c with rfl|h';simp at h;exact h'
 exact ⟨Nat.div_lt_of_lt_mul (by rw [Nat.mul_comm];exact h),Nat.mod_lt _ hc⟩
theorem aAj {c y:Nat} :y / c*c+y % c=y:=by rw [Nat.mul_comm];exact Nat.div_add_mod y c
theorem aRx {n:Nat} {L:List Nat} (hinc: ∀ i k,i<k→k<L.length→L[i]?.getD 0<L[k]?.getD 0) (hlt: ∀ x∈L,x<n):(vW n L).length +L.length=n:=by
 have key: ∀ t,((List.range t).filter λk=> !L.contains k).length +((List.range t).filter λk=>L.contains k).length=t:=by
  intro t;induction t with
  |zero=>simp
  |succ t ih=>
   rw [List.range_succ,List.filter_append,List.filter_append,List.length_append,List.length_append];cases h:L.contains t <;> simp only [List.filter_cons,List.filter_nil,h,eC,Bool.not_false,fU,if_true,if_false,List.length_cons,List.length_nil] <;> omega
 have e:(List.range n).filter (λk=>L.contains k)=L:=by
  have hL: ∀ i,i<L.length→L[i]?.getD 0<n:=λi hi=>hlt _ (by rw [iY hi];exact List.getElem_mem hi);have hS:((List.range n).filter λk=>L.contains k).Pairwise (· < ·):=List.Pairwise.filter _ List.pairwise_lt_range;refine aFD (λi k hik hk=>?_) hinc (λi hi=>?_) (λj hj=>?_)
  ·have:=List.pairwise_iff_getElem.1 hS i k (by omega) hk hik;rw [iY (by omega),iY hk];exact this
  ·have hm:=List.getElem_mem hi;rw [List.mem_filter] at hm;have h2:=List.contains_iff_mem.1 hm.2;obtain ⟨j,hj,he⟩:=List.mem_iff_getElem.1 h2;refine ⟨j,hj,?_⟩;rw [iY hj,iY hi];exact he
  ·have hm:L[j]∈(List.range n).filter λk=>L.contains k:=by
    rw [List.mem_filter];exact ⟨List.mem_range.2 (hlt _ (List.getElem_mem hj)),List.contains_iff_mem.2 (List.getElem_mem hj)⟩
   obtain ⟨i,hi,he⟩:=List.mem_iff_getElem.1 hm;refine ⟨i,hi,?_⟩;rw [iY hj,iY hi];exact he
 have:=key n;rw [e] at this;exact this
end
noncomputable section
def sV (r:Rp) (i:Nat):Nat:=(r.q.src[i]?.getD 0).toNat
def tV (r:Rp) (i:Nat):Nat:=(r.q.tgt[i]?.getD 0).toNat
def aF (r:Rp) (i:Nat):Nat→Nat→Int:=λj k=>(r.maps[i]?.getD ⟨0,0,[]⟩).cells[j*dN r (sV r i)+k]?.getD 0
structure Rv (r:Rp):Prop where
 hp:iR r.p=true
 n5:r.dims.length≤5
 d: ∀ k,k<r.dims.length→r.dims[k]?.getD 0=(dN r k:Int)∧dN r k≤4
 e6:r.q.src.length≤6
 tl:r.q.tgt.length=r.q.src.length
 ml:r.maps.length=r.q.src.length
 s: ∀ i,i<r.q.src.length→r.q.src[i]?.getD 0=(sV r i:Int)∧sV r i<r.dims.length
 t: ∀ i,i<r.q.src.length→r.q.tgt[i]?.getD 0=(tV r i:Int)∧tV r i<r.dims.length
 m: ∀ i,i<r.q.src.length→r.maps[i]?.getD ⟨0,0,[]⟩=⟨dN r (tV r i),dN r (sV r i),bT (dN r (tV r i)) (dN r (sV r i)) (aF r i)⟩∧wT r.p (dN r (tV r i)) (dN r (sV r i)) (aF r i)
theorem kH {r:Rp} (h:kV r=true):Rv r:=by
 obtain ⟨hp,hD,hml,hM⟩:=yH h;obtain ⟨hQ,hd1,hd2,_⟩:=jV hD;obtain ⟨n,hn,hn1,hn5,hq1,hq2,hq3,hq4⟩:=aAg hQ;have hdl:r.dims.length=n:=by omega
 have hd: ∀ k,k<r.dims.length→r.dims[k]?.getD 0=(dN r k:Int)∧dN r k≤4:=by
  intro k hk;have:=hd2 _ (fT 0 hk);unfold dN;omega
 have hs: ∀ i,i<r.q.src.length→r.q.src[i]?.getD 0=(sV r i:Int)∧sV r i<r.dims.length:=by
  intro i hi;have:=hq3 _ (fT 0 hi);unfold sV;omega
 have ht: ∀ i,i<r.q.src.length→r.q.tgt[i]?.getD 0=(tV r i:Int)∧tV r i<r.dims.length:=by
  intro i hi;have:=hq4 _ (fT 0 (show i<r.q.tgt.length by omega));unfold tV;omega
 refine ⟨hp,by omega,hd,hq2,by omega,hml,hs,ht,λi hi=>?_⟩;obtain ⟨g1,g2,g3⟩:=hM i (by omega);rw [show (r.q.src[i]?.getD 0).toNat=sV r i from rfl,(hd _ (hs i hi).2).1] at g2;rw [show (r.q.tgt[i]?.getD 0).toNat=tV r i from rfl,(hd _ (ht i hi).2).1] at g3;obtain ⟨_,a,b,F,ha,hb,he,hF⟩:=aBq g1;have ea:a=dN r (tV r i):=by rw [he] at g3;simp only at g3;omega
 have eb:b=dN r (sV r i):=by rw [he] at g2;simp only at g2;omega
 have em: ∀ j k,j<a→k<b→aF r i j k=F j k:=by
  intro j k hj hk;unfold aF;rw [he,←eb];simp only;rw [iK F hj hk];rfl
 subst ea;subst eb;rw [he];refine ⟨?_,λj k hj hk=>by rw [em j k hj hk];exact hF j k hj hk⟩;rw [cC em]
structure Fit (a b:Rp):Prop where
 ra:Rv a
 rb:Rv b
 pe:b.p=a.p
 qe:b.q=a.q
 ne:b.dims.length=a.dims.length
theorem aRy {a b:Rp} (h1:kV a=true) (h2:kV b=true) (hp:a.p=b.p) (hq:a.q=b.q):Fit a b:=by
 refine ⟨kH h1,kH h2,hp.symm,hq.symm,?_⟩;have e1:=(jV (yH h1).2.1).2.1;have e2:=(jV (yH h2).2.1).2.1;rw [hq] at e1;omega
theorem Fit.sV {a b:Rp} (h:Fit a b) (i:Nat):sV b i=sV a i:=by unfold Proofs.YtdoejgaomlmgeaaGreatDoor.sV;rw [h.qe]
theorem Fit.tV {a b:Rp} (h:Fit a b) (i:Nat):tV b i=tV a i:=by unfold Proofs.YtdoejgaomlmgeaaGreatDoor.tV;rw [h.qe]
def lV (a b:Rp) (v:Nat):Nat:=dN b v*dN a v
def lE (a b:Rp) (i:Nat):Nat:=dN b (tV a i)*dN a (sV a i)
theorem aOG {l:Nat→Nat} {c:Nat} : ∀ {k:Nat},(∀ i,i<k→l i≤c)→off l k≤c*k
 |0,_=>Nat.zero_le _
 |k+1,h=>by
  have h1:=aOG (c:=c) (k:=k) λi hi=>h i (by omega);have h2:=h k (by omega);show off l k+l k≤c*(k+1);rw [Nat.mul_succ];omega
theorem Fit.lV {a b:Rp} (h:Fit a b) {v:Nat} (hv:v<a.dims.length):lV a b v≤16:=Nat.mul_le_mul (h.rb.d v (by rw [h.ne];exact hv)).2 (h.ra.d v hv).2
theorem Fit.lE {a b:Rp} (h:Fit a b) {i:Nat} (hi:i<a.q.src.length):lE a b i≤16:=Nat.mul_le_mul (h.rb.d _ (by rw [h.ne];exact (h.ra.t i hi).2)).2 (h.ra.d _ (h.ra.s i hi).2).2
theorem Fit.offV {a b:Rp} (h:Fit a b) {v:Nat} (hv:v≤a.dims.length):off (Proofs.YtdoejgaomlmgeaaGreatDoor.lV a b) v≤80:=by
 have:=aOG (l:=Proofs.YtdoejgaomlmgeaaGreatDoor.lV a b) (c:=16) (k:=v) λi hi=>h.lV (by omega);have:=h.ra.n5;omega
theorem Fit.offE {a b:Rp} (h:Fit a b) {i:Nat} (hi:i≤a.q.src.length):off (Proofs.YtdoejgaomlmgeaaGreatDoor.lE a b) i≤96:=by
 have:=aOG (l:=Proofs.YtdoejgaomlmgeaaGreatDoor.lE a b) (c:=16) (k:=i) λj hj=>h.lE (by omega);have:=h.ra.e6;omega
theorem aBv {α:Type} {f:Nat→α} {n k:Nat} (h:k<n):cP ((List.range n).map f) (k:Int)=some (f k):=by rw [dR (by simp;exact h)];simp
theorem pR {α:Type} {f:Nat→α} {k:Nat} :(List.range k).map f++[f k]=(List.range (k+1)).map f:=by rw [List.range_succ,List.map_append];rfl
theorem aTX {a b:Rp} (h:Fit a b):zK a b=some ((List.range a.dims.length).map λv=>(⟨dN b v,dN a v,bT (dN b v) (dN a v) λ_ _=>0⟩:Mt)):=by
 have n5:=h.ra.n5;unfold zK;rw [cF (r:=(List.range a.dims.length).map λv=>(⟨dN b v,dN a v,bT (dN b v) (dN a v) λ_ _=>0⟩:Mt)) (λk=>((List.range k).map λv=>(⟨dN b v,dN a v,bT (dN b v) (dN a v) λ_ _=>0⟩:Mt),(k:Int))) a.dims.length (by simp) (λk hk=>?_) (λ_=>?_),aA]
 ·have hkb:k<b.dims.length:=by rw [h.ne];exact hk
  unfold uO;simp only;rw [gC hk,aN,iJ 0 hk,aA,iJ 0 hkb,aA,(h.ra.d k hk).1,(h.rb.d k hkb).1,aHk (sq (h.rb.d k hkb).2 (h.ra.d k hk).2),aA,bC (by simp;omega),aN,bK hk (by omega),pR (f:=λv=>(⟨dN b v,dN a v,bT (dN b v) (dN a v) λ_ _=>0⟩:Mt))]
 ·unfold uO;simp only;rw [gS (bA _),aS]
theorem aHu {a b:Rp} (h:Fit a b):mY a b=some ((List.range a.q.src.length).map λi=>(⟨dN b (tV a i),dN a (sV a i),bT (dN b (tV a i)) (dN a (sV a i)) λ_ _=>0⟩:Mt)):=by
 have e6:=h.ra.e6;have tl:=h.ra.tl;unfold mY;rw [cF (r:=(List.range a.q.src.length).map λi=>(⟨dN b (tV a i),dN a (sV a i),bT (dN b (tV a i)) (dN a (sV a i)) λ_ _=>0⟩:Mt)) (λk=>((List.range k).map λi=>(⟨dN b (tV a i),dN a (sV a i),bT (dN b (tV a i)) (dN a (sV a i)) λ_ _=>0⟩:Mt),(k:Int))) a.q.src.length (by simp) (λk hk=>?_) (λ_=>?_),aA]
 ·obtain ⟨s1,s2⟩:=h.ra.s k hk;obtain ⟨t1,t2⟩:=h.ra.t k hk;have t3:tV a k<b.dims.length:=by rw [h.ne];exact t2
  unfold jK;simp only;rw [gC hk,aN,iJ 0 hk,aA,iJ 0 (by omega),aA,t1,iJ 0 t3,aA,s1,iJ 0 s2,aA,(h.ra.d _ s2).1,(h.rb.d _ t3).1,aHk (sq (h.rb.d _ t3).2 (h.ra.d _ s2).2),aA,bC (by simp;omega),aN,bK hk (by omega),pR (f:=λi=>(⟨dN b (tV a i),dN a (sV a i),bT (dN b (tV a i)) (dN a (sV a i)) λ_ _=>0⟩:Mt))]
 ·unfold jK;simp only;rw [gS (bA _),aS]
theorem aOH {k:Nat} {r c:Nat→Int} {l:Nat→Nat} {f:Nat→Nat→Int} (hk:k≤1048576) (hl:off l k≤1048576):lW ((List.range k).map λv=>(⟨r v,c v,(List.range (l v)).map (f v)⟩:Mt))=some (cat l f k):=by
 unfold lW;rw [cF (r:=cat l f k) (λj=>(cat l f j,(j:Int))) k (by simp [cat]) (λj hj=>?_) (λ_=>?_),aA]
 ·unfold wC;simp only;have h1:= @aDk l (j+1) k hj;have e:off l (j+1)=off l j+l j:=rfl;rw [cK,List.length_range,gC hj,aN,aBv hj,aA];simp only;rw [gY,cK,List.length_range,bC (by omega),aN,bK hj (by omega)];rfl
 ·unfold wC;simp only;rw [cK,List.length_range,gS (bA _),aS]
theorem aRz {k:Nat} {r c:Nat→Int} {z:Nat→List Int} {l:Nat→Nat} {f:Nat→Nat→Int} (hk:k≤1048576) (hl:off l k≤1048576) (hz: ∀ v,v<k→(z v).length=l v):xW ((List.range k).map λv=>(⟨r v,c v,z v⟩:Mt)) (cat l f k)=some ((List.range k).map λv=>(⟨r v,c v,(List.range (l v)).map (f v)⟩:Mt)):=by
 unfold xW;rw [cF (r:=(List.range k).map λv=>(⟨r v,c v,(List.range (l v)).map (f v)⟩:Mt)) (λj=>((cat l f k).drop (off l j),(List.range j).map (λv=>(⟨r v,c v,(List.range (l v)).map (f v)⟩:Mt)),(j:Int))) k (by simp [off]) (λj hj=>?_) (λ_=>?_),aA]
 ·unfold sH;simp only;have h1:= @aDk l (j+1) k hj;have e:off l (j+1)=off l j+l j:=rfl;rw [cK,List.length_range,gC hj,aN,aBv hj,aA];simp only;rw [hz j hj,List.length_drop,gY];simp only [dJ,Int.toNat_zero,List.drop_zero,Nat.sub_zero];rw [aRw hj];unfold xQ;rw [bC (by omega:(0:Int)≤((l j:Nat):Int)),bC (by omega:((l j:Nat):Int)≤((off l k - off l j:Nat):Int))];simp only [decide_true,Bool.and_self,aN,Int.le_refl];have q1:decide (((List.range (l j)).map (f j)).length ≤1048576)=true:=bC (by simp only [cK,List.length_range];omega);have q2:decide (((List.range j).map λv=>(⟨r v,c v,(List.range (l v)).map (f v)⟩:Mt)).length +1≤4294967296)=true:=bC (by simp only [cK,List.length_range];omega);simp only [q1,Bool.and_self,aN,aA];rw [q2,aN,bK hj (by omega),pR (f:=λv=>(⟨r v,c v,(List.range (l v)).map (f v)⟩:Mt)),List.drop_drop,List.take_of_length_le (by simp [gY];omega)];rfl
 ·unfold sH;simp only;rw [cK,List.length_range,gS (bA _),aS]
theorem aUa {p:Int} (hp:iR p=true) {r c:Nat} (hN:r*c≤1048576) {r' c':Int} {F G:Nat→Nat→Int} (hF:wT p r c F) (hG:wT p r c G) {k:Int} (hk:0≤k∧k≤5):
  aAh p ⟨r,c,bT r c F⟩ k ⟨r',c',bT r c G⟩=some ⟨r,c,bT r c λi j=>(F i j+k*G i j) % p⟩:=by
 have e1: ∀ H:Nat→Nat→Int,bT r c H=bT 1 (r*c) (λ_ y=>H (y / c) (y % c)):=by
  intro H;unfold bT;rw [Nat.one_mul];refine yR λy hy=>?_;rw [Nat.mod_eq_of_lt (List.mem_range.1 hy)]
 have e2:bT r c G=dZ (r*c) (λy=>G (y / c) (y % c)):=rfl;unfold aAh jC xQ;simp only;rw [dO,bC hN,aN,aA,aA];simp only;have:=aHj hp (r:=1) (c:=r*c) (i:=0) hN (by omega) (F:=λ_ y=>F (y / c) (y % c)) (g:=λy=>G (y / c) (y % c)) hk (λy hy=>hF _ _ (aDm hy).1 (aDm hy).2) (λy hy=>hG _ _ (aDm hy).1 (aDm hy).2);rw [Nat.zero_mul,←e2,←e1] at this;rw [dO,this,aA,dO,Nat.one_mul,bC rfl,aN,e1 (λi j=>(F i j+k*G i j) % p)];congr 2;refine cC λa y ha hy=>?_;unfold aHi;rw [aU (by omega)]
def aKs (a b:Rp) (P:Nat→Nat→Nat→Int) (i:Nat):Nat→Nat→Int:=λr k=>
 (aBs a.p (dN b (sV a i)) (aF b i) (P (sV a i)) r k+(a.p - 1)*aBs a.p (dN a (tV a i)) (P (tV a i)) (aF a i) r k) % a.p
theorem aKt {a b:Rp} (h:Fit a b) {P:Nat→Nat→Nat→Int} (hP: ∀ v,v<a.dims.length→wT a.p (dN b v) (dN a v) (P v)):
  qL a b ((List.range a.dims.length).map λv=>(⟨dN b v,dN a v,bT (dN b v) (dN a v) (P v)⟩:Mt))=some ((List.range a.q.src.length).map λi=>(⟨dN b (tV a i),dN a (sV a i),bT (dN b (tV a i)) (dN a (sV a i)) (aKs a b P i)⟩:Mt)):=by
 have e6:=h.ra.e6;have tl:=h.ra.tl;have hb:=dF h.ra.hp;unfold qL;rw [cF (r:=(List.range a.q.src.length).map λi=>(⟨dN b (tV a i),dN a (sV a i),bT (dN b (tV a i)) (dN a (sV a i)) (aKs a b P i)⟩:Mt)) (λk=>((List.range k).map λi=>(⟨dN b (tV a i),dN a (sV a i),bT (dN b (tV a i)) (dN a (sV a i)) (aKs a b P i)⟩:Mt),(k:Int))) a.q.src.length (by simp) (λk hk=>?_) (λ_=>?_),aA]
 ·obtain ⟨s1,s2⟩:=h.ra.s k hk;obtain ⟨t1,t2⟩:=h.ra.t k hk;have s3:sV a k<b.dims.length:=by rw [h.ne];exact s2
  have t3:tV a k<b.dims.length:=by rw [h.ne];exact t2
  have hkb:k<b.q.src.length:=by rw [h.qe];exact hk
  obtain ⟨m1,m2⟩:=h.ra.m k hk;obtain ⟨g1,g2⟩:=h.rb.m k hkb;rw [h.sV,h.tV] at g1 g2;rw [h.pe] at g2;have da:=h.ra.d _ s2;have da2:=h.ra.d _ t2;have db:=h.rb.d _ s3;have db2:=h.rb.d _ t3;unfold lX;simp only;rw [gC hk,aN,iJ 0 hk,aA,iJ ⟨0,0,[]⟩ (by rw [h.rb.ml];exact hkb),aA,g1,s1,aBv s2,aA];rw [aKo h.ra.hp (sq db2.2 db.2) (sq db.2 da.2) (sq db2.2 da.2) (by omega) (by omega) (by omega) g2 (hP _ s2),aA,iJ 0 (by omega),aA,t1,aBv t2,aA,iJ ⟨0,0,[]⟩ (by rw [h.ra.ml];exact hk),aA,m1];rw [aKo h.ra.hp (sq db2.2 da2.2) (sq da2.2 da.2) (sq db2.2 da.2) (by omega) (by omega) (by omega) (hP _ t2) m2,aA,cZ (by omega)];rw [aUa h.ra.hp (sq db2.2 da.2) (aPD h.ra.hp _ _ _ _ _) (aPD h.ra.hp _ _ _ _ _) (by omega),aA,bC (by simp;omega),aN,bK hk (by omega)];have:=pR (f:=λi=>(⟨dN b (tV a i),dN a (sV a i),bT (dN b (tV a i)) (dN a (sV a i)) (aKs a b P i)⟩:Mt)) (k:=k);rw [←this];rfl
 ·unfold lX;simp only;rw [gS (bA _),aS]
theorem aDO {R N:Nat} (hN:R*N≤1048576) (h1:R≤1048576) (h2:N≤1048576) (M:Nat→Nat→Int):gG R ((List.range N).map λk=>dZ R λi=>M i k)=some ⟨R,N,bT R N M⟩:=by
 unfold gG;rw [cK,List.length_range,aHk hN,aA];simp only;rw [cF (r:=bT R N M) (λk=>(bT R N (λi j=>if j<k then M i j else 0),(k:Int))) N (by simp) (λk hk=>?_) (λ_=>?_),aA]
 ·unfold kQ;simp only;rw [cK,List.length_range,gC hk,aN,aBv hk,aA];rw [cF (r:=bT R N (λi j=>if j<k+1 then M i j else 0)) (λx=>(bT R N (λi j=>if j<k∨(j=k∧i<x) then M i j else 0),(x:Int))) R (by simp) (λx hx=>?_) (λ_=>?_),aA,bK hk (by omega)]
  ·unfold kP;simp only;rw [eN,gC hx,aN,aBr _ hx,aA,atT hN hx hk,aA,aKj hN hx hk,bK hx (by omega)];congr 3;refine cC λi j hi hj=>?_;simp only [aDB];by_cases e:i=x∧j=k
   ·rw [aU e,aU (by omega),e.1,e.2]
   ·rw [aV e];by_cases e2:j<k∨j=k∧i<x
    ·rw [aU e2,aU (by omega)]
    ·rw [aV e2,aV (by omega)]
  ·unfold kP;simp only;rw [eN,gS (bA _),aS];congr 2;refine cC λi j hi hj=>?_;by_cases e:j<k+1
   ·rw [aU e,aU (by omega)]
   ·rw [aV e,aV (by omega)]
 ·unfold kQ;simp only;rw [cK,List.length_range,gS (bA _),aS];congr 2;exact cC λi j hi hj=>by rw [aU hj]
def eF (a b:Rp) (i r k v j l:Nat):Int:=((if sV a i=v∧k=l then aF b i r j else 0) - (if tV a i=v∧r=j then aF a i l k else 0)) % a.p
def e2 (a b:Rp) (i y v z:Nat):Int:=eF a b i (y / dN a (sV a i)) (y % dN a (sV a i)) v (z / dN a v) (z % dN a v)
def mE (a b:Rp):Nat→Nat→Int:=λx k=>(cat (lE a b) (λi y=>(cat (lV a b) (e2 a b i y) a.dims.length)[k]?.getD 0) a.q.src.length)[x]?.getD 0
def nE (a b:Rp):Nat:=off (lE a b) a.q.src.length
def nV (a b:Rp):Nat:=off (lV a b) a.dims.length
theorem aUE {a b:Rp} (h:Fit a b):wT a.p (nE a b) (nV a b) (mE a b):=by
 intro x k hx hk;obtain ⟨i,y,hi,hy,rfl⟩:=aEV hx;obtain ⟨v,z,hv,hz,rfl⟩:=aEV hk;unfold mE;rw [sO _ hi hy,lF,sO _ hv hz,lF];exact zG h.ra.hp
theorem aKu (F G:Nat→Nat→Int) (i j:Nat): ∀ k,aEP F G i j k=sN (λt=>F i t*G t j) k
 |0=>rfl
 |k+1=>by rw [aEP,sN,aKu F G i j k]
def unP (a:Rp) (v0 z0:Nat):Nat→Nat→Nat→Int:=λv j l=>if v=v0∧j*dN a v+l=z0 then 1 else 0
theorem aUb {a:Rp} (hp:iR a.p=true) (v0 z0 v m n:Nat):wT a.p m n (unP a v0 z0 v):=by
 have hb:=dF hp;intro i j _ _;unfold unP;split <;> omega
theorem aSA {a b:Rp} (h:Fit a b) {v0 z0 i r k:Nat} (hv:v0<a.dims.length) (hz:z0<lV a b v0) (hi:i<a.q.src.length) (hr:r<dN b (tV a i)) (hk:k<dN a (sV a i)):
  aKs a b (unP a v0 z0) i r k=eF a b i r k v0 (z0 / dN a v0) (z0 % dN a v0):=by
 have hb:=dF h.ra.hp;obtain ⟨hj0,hl0⟩:=aDm hz
 have key: ∀ v j l,l<dN a v→(v=v0∧j*dN a v+l=z0↔v=v0∧j=z0 / dN a v0∧l=z0 % dN a v0):=by
  intro v j l hl;constructor
  ·rintro ⟨rfl,rfl⟩;exact ⟨rfl,(aAn hl).symm,(aAo hl).symm⟩
  ·rintro ⟨rfl,rfl,rfl⟩;exact ⟨rfl,aAj⟩
 have e1:aBs a.p (dN b (sV a i)) (aF b i) (unP a v0 z0 (sV a i)) r k=(if sV a i=v0∧k=z0 % dN a v0 then aF b i r (z0 / dN a v0) else 0) % a.p:=by
  unfold aBs;rw [aKu];by_cases e:sV a i=v0∧k=z0 % dN a v0
  ·rw [aU e,aBp (j:=z0 / dN a v0) (by rw [e.1];exact hj0)]
   ·unfold unP;rw [aU ((key _ _ _ hk).2 ⟨e.1,rfl,e.2⟩),Int.mul_one]
   ·intro t ht htj;unfold unP;rw [aV λg=>htj ((key _ _ _ hk).1 g).2.1,Int.mul_zero]
  ·rw [aV e,gZ (g:=λ_=>0),zF];intro t ht;unfold unP;rw [aV λg=>e ⟨((key _ _ _ hk).1 g).1,((key _ _ _ hk).1 g).2.2⟩,Int.mul_zero]
 have e2:aBs a.p (dN a (tV a i)) (unP a v0 z0 (tV a i)) (aF a i) r k=(if tV a i=v0∧r=z0 / dN a v0 then aF a i (z0 % dN a v0) k else 0) % a.p:=by
  unfold aBs;rw [aKu];by_cases e:tV a i=v0∧r=z0 / dN a v0
  ·rw [aU e,aBp (j:=z0 % dN a v0) (by rw [e.1];exact hl0)]
   ·unfold unP;rw [aU ((key _ _ _ (by rw [e.1];exact hl0)).2 ⟨e.1,e.2,rfl⟩),Int.one_mul]
   ·intro t ht htj;unfold unP;rw [aV λg=>htj ((key _ _ _ ht).1 g).2.2,Int.zero_mul]
  ·rw [aV e,gZ (g:=λ_=>0),zF];intro t ht;unfold unP;rw [aV λg=>e ⟨((key _ _ _ ht).1 g).1,((key _ _ _ ht).1 g).2.1⟩,Int.zero_mul]
 unfold aKs eF;rw [e1,e2];generalize (if sV a i=v0∧k=z0 % dN a v0 then aF b i r (z0 / dN a v0) else 0)=x;generalize (if tV a i=v0∧r=z0 / dN a v0 then aF a i (z0 % dN a v0) k else 0)=y;rw [show x % a.p+(a.p - 1)*(y % a.p)=(x % a.p - y % a.p)+a.p*(y % a.p) by rw [Int.sub_mul];omega,Int.add_mul_emod_self_left];exact (Int.sub_emod x y a.p).symm
theorem aEX {a b:Rp} (h:Fit a b):lZ a b=some ⟨nE a b,nV a b,bT (nE a b) (nV a b) (mE a b)⟩:=by
 have n5:=h.ra.n5;have e6:=h.ra.e6;have bV:=h.offV (bA _);have bE:=h.offE (bA _);unfold lZ;rw [aTX h,aA];have z1:lW ((List.range a.dims.length).map λv=>(⟨dN b v,dN a v,bT (dN b v) (dN a v) λ_ _=>0⟩:Mt))=some (cat (lV a b) (λ_ _=>0) a.dims.length):=aOH (l:=lV a b) (f:=λ_ _=>0) (by omega) (by omega);have z2:lW ((List.range a.q.src.length).map λi=>(⟨dN b (tV a i),dN a (sV a i),bT (dN b (tV a i)) (dN a (sV a i)) λ_ _=>0⟩:Mt))=some (cat (lE a b) (λ_ _=>0) a.q.src.length):=aOH (l:=lE a b) (f:=λ_ _=>0) (by omega) (by omega);rw [z1,aA];rw [cF (r:=(List.range (nV a b)).map λk=>dZ (nE a b) λx=>mE a b x k) (λk=>((List.range k).map (λk=>dZ (nE a b) λx=>mE a b x k),(k:Int))) (nV a b) (by simp) (λk hk=>?_) (λ_=>?_),aA,aHu h,aA,z2,aA,gY]
 ·have:=aDO (R:=nE a b) (N:=nV a b) (Nat.le_trans (Nat.mul_le_mul bE bV) (by decide)) (by unfold nE;omega) (by unfold nV;omega) (mE a b);unfold nE at this ⊢;rw [this,aA]
 ·obtain ⟨v0,z0,hv0,hz0,ek⟩:=aEV hk;unfold lY;simp only [gY];rw [show off (lV a b) a.dims.length=nV a b from rfl,gC hk,aN,bC (by omega),bC (by unfold nV;omega:((nV a b:Nat):Int)≤1048576),Bool.and_self,aN,dJ,dJ,dR (by simp;exact hk),aA]
  have eu:(List.replicate (nV a b) (0:Int)).set k 1=cat (lV a b) (λv z=>if v=v0∧z=z0 then 1 else 0) a.dims.length:=by
   unfold nV;rw [aMW,ek,aKr hv0 hz0]
  rw [eu,aRz (l:=lV a b) (r:=λv=>(dN b v:Int)) (c:=λv=>(dN a v:Int)) (z:=λv=>bT (dN b v) (dN a v) λ_ _=>0) (by omega) (by omega) (λv _=>dO _ _ _),aA]
  have eb:((List.range a.dims.length).map λv=>(⟨dN b v,dN a v,(List.range (lV a b v)).map (λz=>if v=v0∧z=z0 then (1:Int) else 0)⟩:Mt))=(List.range a.dims.length).map λv=>(⟨dN b v,dN a v,bT (dN b v) (dN a v) (unP a v0 z0 v)⟩:Mt):=by
   refine yR λv hv=>?_;congr 1;refine aUZ λy hy=>?_;unfold unP;rw [aAj]
  rw [eb,aKt h (λv _=>aUb h.ra.hp _ _ _ _ _),aA];have ef:lW ((List.range a.q.src.length).map λi=>(⟨dN b (tV a i),dN a (sV a i),bT (dN b (tV a i)) (dN a (sV a i)) (aKs a b (unP a v0 z0) i)⟩:Mt))=some (cat (lE a b) (λi y=>aKs a b (unP a v0 z0) i (y / dN a (sV a i)) (y % dN a (sV a i))) a.q.src.length):=aOH (l:=lE a b) (f:=λi y=>aKs a b (unP a v0 z0) i (y / dN a (sV a i)) (y % dN a (sV a i))) (by omega) (by omega);rw [ef,aA,bC (by simp;unfold nV at hk;omega),aN,bK hk (by unfold nV;omega),←pR (f:=λk=>dZ (nE a b) λx=>mE a b x k)];congr 5;symm;refine aEW (by rw [eN];rfl) λi y hi hy=>?_;have hx:off (lE a b) i+y<nE a b:=xG hi hy;unfold dZ;rw [List.getElem?_map,List.getElem?_range hx,Option.map_some];congr 1;obtain ⟨q1,q2⟩:=aDm hy;rw [aSA h hv0 hz0 hi q1 q2];unfold mE;rw [sO _ hi hy,lF,ek,sO _ hv0 hz0,lF];rfl
 ·unfold lY;simp only [gY];rw [show off (lV a b) a.dims.length=nV a b from rfl,gS (bA _),aS]
theorem aPF {a b:Rp} (h:Fit a b):Tb a.p (nE a b) (nV a b) (mE a b):=by
 have bV:=h.offV (bA _);have bE:=h.offE (bA _);exact ⟨h.ra.hp,Nat.le_trans (Nat.mul_le_mul bE bV) (by decide),by unfold nE;omega,by unfold nV;omega,aUE h⟩
def aHv (a b:Rp):Nat:=nV a b - rkF a.p (nE a b) (nV a b) (mE a b)
theorem aUF {p:Int} {m n:Nat} {F:Nat→Nat→Int} :rkF p m n F≤n:=wZ n
theorem aMX {a b:Rp} (h:Fit a b):tT a b=some (aHv a b:Int):=by
 have bV:=h.offV (bA _);unfold tT;rw [aEX h,aA,aDi (aPF h),aA];have:= @aUF a.p (nE a b) (nV a b) (mE a b);have e:((bF a.p (nE a b) (mE a b) (nV a b)).2.length)=rkF a.p (nE a b) (nV a b) (mE a b):=rfl;simp only;rw [e,cZ (by unfold nV at*;omega)];unfold aHv;congr 1;omega
end
noncomputable section
def aTY (n:Nat) (l:List (List Int)):Mt:=⟨n,(l.length:Int),bT n l.length λi k=>cD l k i⟩
theorem aQF {n:Nat} {l:List (List Int)} (h: ∀ v∈l,v.length=n):l=(List.range l.length).map λk=>dZ n λi=>cD l k i:=aEU h
theorem aSB {n:Nat} {l:List (List Int)} (hn:n≤1024) (hl:l.length≤512) (h: ∀ v∈l,v.length=n):gG n l=some (aTY n l):=by
 have hN:n*l.length≤1048576:=by have:=Nat.mul_le_mul hn hl;omega
 have e:=aDO hN (by omega) (by omega) (λi k=>cD l k i);rw [←aQF h] at e;exact e
theorem aIr {r c:Nat} (hN:c*r≤1048576) (hr:r≤1048576) (hc:c≤1048576) (F:Nat→Nat→Int):pE ⟨r,c,bT r c F⟩=some ⟨c,r,bT c r λi k=>F k i⟩:=by
 have hN':r*c≤1048576:=by rw [Nat.mul_comm];exact hN
 unfold pE;simp only;rw [aHl hN,aA];simp only;rw [cF (r:=bT c r λi k=>F k i) (λt=>(bT c r (λi k=>if k<t then F k i else 0),(t:Int))) r (by simp) (λt ht=>?_) (λ_=>?_),aA]
 ·unfold kT;simp only;rw [gC ht,aN];rw [cF (r:=bT c r (λi k=>if k<t+1 then F k i else 0)) (λx=>(bT c r (λi k=>if k<t∨(k=t∧i<x) then F k i else 0),(x:Int))) c (by simp) (λx hx=>?_) (λ_=>?_),aA,bK ht (by omega)]
  ·unfold kS;simp only;rw [gC hx,aN,atT hN' ht hx,aA,atT hN hx ht,aA,aKj hN hx ht,bK hx (by omega)];congr 3;refine cC λi j hi hj=>?_;simp only [aDB];by_cases e:i=x∧j=t
   ·rw [aU e,aU (by omega),e.1,e.2]
   ·rw [aV e];by_cases e2:j<t∨j=t∧i<x
    ·rw [aU e2,aU (by omega)]
    ·rw [aV e2,aV (by omega)]
  ·unfold kS;simp only;rw [gS (bA _),aS];congr 2;refine cC λi j hi hj=>?_;by_cases e:j<t+1
   ·rw [aU e,aU (by omega)]
   ·rw [aV e,aV (by omega)]
 ·unfold kT;simp only;rw [gS (bA _),aS];congr 2;exact cC λi j hi hj=>by rw [aU hj]
theorem aVR {α β:Type} {f:α→β} {l:List α} {k:Nat} (hk:k<l.length):(l.take k).map f++[f l[k]]=(l.take (k+1)).map f:=by rw [aCM hk,List.map_append];rfl
end
end Go.Proofs.YtdoejgaomlmgeaaGreatDoor

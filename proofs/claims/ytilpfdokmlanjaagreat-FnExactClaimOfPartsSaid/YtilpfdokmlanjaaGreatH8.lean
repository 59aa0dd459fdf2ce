/-
  Several texts of the claim in one.
-/
import Derived.Test.YtilpfdokmlanjaaGreatH7
set_option linter.unusedVariables false
set_option linter.unusedSimpArgs false
namespace Go.Proofs.YtilpfdokmlanjaaGreat
open Go.RowKit
noncomputable section
def fF (L:List Nat):List Int:=L.map λt:Nat=>(t:Int)
theorem dH (L:List Nat):(fF L).length=L.length:=by simp [fF]
theorem aKb {p:Int} {m:Nat} {F:Nat→Nat→Int} {j:Nat} (h:(cD p m F j).2.length=m): ∀ d,cD p m F (j+d)=cD p m F j
 |0=>rfl
 |d+1=>by
  show iE p m (cD p m F (j+d)) (j+d)=_;rw [aKb h d];unfold iE;rw [aW];rw [h,Nat.sub_self];rfl
def aDy (F:Nat→Nat→Int) (a b x:Nat):Nat→Nat→Int:=λi y=>if y<x then zG F a b i y else F i y
def aBn (p:Int) (F:Nat→Nat→Int) (a:Nat) (s:Int) (x:Nat):Nat→Nat→Int:=λi y=>if y<x then uN p F a s i y else F i y
def kJ (p:Int) (F:Nat→Nat→Int) (a j x:Nat):Nat→Nat→Int:=λi c=>if i<x then aAW p F a j i c else F i c
theorem aMQ {r c a b x:Nat} (F:Nat→Nat→Int):bY r c (aEa (aEa (aDy F a b x) a x (F b x)) b x (F a x))=bY r c (aDy F a b (x+1)):=by
 refine cH λi y hi hy=>?_;simp only [aEa,aDy,zG];by_cases e:y=x
 ·subst e;simp only [and_true,Nat.lt_irrefl,if_false,Nat.lt_succ_self,if_true];by_cases e1:i=b
  ·rw [aW e1];by_cases e2:i=a
   ·rw [aW e2];subst e1;rw [e2]
   ·rw [aZ e2,aW e1]
  ·rw [aZ e1];by_cases e2:i=a
   ·rw [aW e2,aW e2]
   ·rw [aZ e2,aZ e2,aZ e1]
 ·rw [aZ (by omega),aZ (by omega)];by_cases e1:y<x
  ·rw [aW e1,aW (show y<x+1 by omega)]
  ·rw [aZ e1,aZ (show ¬ y<x+1 by omega)]
theorem aFK {F:Nat→Nat→Int} {a b x i:Nat} :aDy F a b x i x=F i x:=by simp [aDy]
theorem aKc {p:Int} {F:Nat→Nat→Int} {a x i:Nat} {s:Int} :aBn p F a s x i x=F i x:=by simp [aBn]
theorem aKd {p:Int} {r c a x:Nat} {s:Int} (F:Nat→Nat→Int):bY r c (aEa (aBn p F a s x) a x ((F a x*s) % p))=bY r c (aBn p F a s (x+1)):=by
 refine cH λi y hi hy=>?_;simp only [aEa,aBn,uN];by_cases e:y=x
 ·subst e;simp only [and_true,Nat.lt_irrefl,if_false,Nat.lt_succ_self,if_true]
 ·rw [aZ (by omega)];by_cases e1:y<x
  ·rw [aW e1,aW (show y<x+1 by omega)]
  ·rw [aZ e1,aZ (show ¬ y<x+1 by omega)]
theorem aRj {p r:Int} (hp:lP p=true) (hr:0≤r∧r<p):0≤aDH p r∧aDH p r<p:=aRV hp hr _
theorem aOx {p:Int} {m n k r:Nat} {F:Nat→Nat→Int} (h:yT p m n F) (hk:k<m) (hr:r<m):yT p m n (zG F k r):=by
 intro i c hi hc;unfold zG;split
 ·exact h r c hr hc
 ·split
  ·exact h k c hk hc
  ·exact h i c hi hc
theorem aMR {p:Int} (hp:lP p=true) {m n k:Nat} {s:Int} {F:Nat→Nat→Int} (h:yT p m n F):yT p m n (uN p F k s):=by
 intro i c hi hc;unfold uN;split
 ·exact xX hp
 ·exact h i c hi hc
theorem aSl {p:Int} (hp:lP p=true) {m n k j x:Nat} {F:Nat→Nat→Int} (h:yT p m n F):yT p m n (kJ p F k j x):=by
 intro i c hi hc;unfold kJ aAW;split
 ·split
  ·rename_i h1 h2;subst h2;exact h _ c hi hc
  ·exact xX hp
 ·exact h i c hi hc
theorem aUH {p:Int} (hp:lP p=true) {m n k j x:Nat} {F:Nat→Nat→Int} (hx:x≠k):bY m n (aKY p (kJ p F k j x) x (p - F x j) (kJ p F k j x k))=bY m n (kJ p F k j (x+1)):=by
 refine cH λi c hi hc=>?_;simp only [aKY,kJ,aAW];by_cases e:i=x
 ·subst e;rw [aW rfl,aZ (Nat.lt_irrefl _),aW (Nat.lt_succ_self _),aZ hx];simp only [if_true,ite_self];rw [show F i c+(p - F i j)*F k c=(F i c - F i j*F k c)+p*F k c by rw [Int.sub_mul];omega,Int.add_mul_emod_self_left]
 ·rw [aZ e];by_cases e1:i<x
  ·rw [aW e1,aW (show i<x+1 by omega)]
  ·rw [aZ e1,aZ (show ¬ i<x+1 by omega)]
theorem aMS {p:Int} {m n k j:Nat} {F:Nat→Nat→Int} :bY m n (kJ p F k j k)=bY m n (kJ p F k j (k+1)):=by
 refine cH λi c hi hc=>?_;simp only [kJ,aAW];by_cases e:i<k
 ·rw [aW e,aW (show i<k+1 by omega)]
 ·rw [aZ e];by_cases e1:i=k
  ·subst e1;simp
  ·rw [aZ (show ¬ i<k+1 by omega)]
theorem aKe {p:Int} {F:Nat→Nat→Int} {k r j:Nat} :gC p F k r j=aAW p (uN p (zG F k r) k (aDH p (F r j))) k j:=rfl
structure Tb (p:Int) (m n:Nat) (F:Nat→Nat→Int):Prop where
 hp:lP p=true
 hN:m*n≤1048576
 hm:m≤1048576
 hn:n≤1048576
 hi:yT p m n F
theorem aXD {p:Int} {m n:Nat} {F:Nat→Nat→Int} (T:Tb p m n F) {j:Nat} (hj:j<n) (L:List Nat) (hL:L.length≤m) (l:List Int):
  Lp (qH ⟨m,n,l⟩ ((j:Int),bY m n F,fF L)) (((fF L).length:Nat):Int)=some ((lG F j (m - L.length) L.length:Nat):Int):=by
 obtain ⟨hp,hN,hm,hn,hi⟩:=T;have hle:= @aCA F j (m - L.length) L.length;have hz:= @aGC F j (m - L.length) L.length;have hh:= @aFE F j (m - L.length) L.length;generalize lG F j (m - L.length) L.length=r at*;rw [dH];refine cO (λt=>((L.length+t:Nat):Int)) (r - L.length) (by simp) (λt ht=>?_) (λ_=>?_)
 ·unfold qH;simp only
  rw [gA (by omega),aM,aIm hN hm (by omega),aA,wN hN (by omega),aAC hN hm (by omega),eN,eN,Nat.add_sub_cancel_left,gA hj,gd,aM,Nat.zero_add,eN,lQ _ (by omega) hj,aA,
   hz _ (by omega) (by omega),bH rfl,aM,bZ (n:=m) (by omega) (by omega),Nat.add_assoc]
 ·rw [show L.length+(r - L.length)=r by omega];unfold qH;simp only;rcases eO r m with h|h
  ·rw [gA h,aM,aIm hN hm h,aA,wN hN h,aAC hN hm h,eN,eN,Nat.add_sub_cancel_left,gA hj,gd,aM,Nat.zero_add,eN,lQ _ h hj,aA,
    dU (hh (by omega)),aR]
  ·rw [gN h,aR]
theorem aWC {p:Int} {m n:Nat} {F:Nat→Nat→Int} (T:Tb p m n F) {j:Nat} (hj:j<n) (L:List Nat) (hL:L.length≤m) (l:List Int):
  qI p ⟨m,n,l⟩ ((j:Int),bY m n F,fF L)=some (.inl (((j+1:Nat):Int),bY m n (iE p m (F,L) j).1,fF (iE p m (F,L) j).2)):=by
 have hpv:=aXD T hj L hL l;obtain ⟨hp,hN,hm,hn,hi⟩:=T;have hb:=eZ hp;have hle:= @aCA F j (m - L.length) L.length;unfold qI iE;simp only;rw [gA hj,aM,hpv,aA,bZ hj (by omega)];clear hpv;generalize lG F j (m - L.length) L.length=r at*;by_cases hr:r=m
 ·rw [bH (by omega),aM,aW hr]
 ·rw [dU (by omega),aR,aZ hr];have hk:L.length<m:=by omega
  have hrm:r<m:=by omega
  simp only [dH];rw [aIm hN hm hk,aA,wN hN hk,aAC hN hm hk];simp only [eN,Nat.add_sub_cancel_left,Nat.zero_add];rw [cO (r:=bY m n (zG F L.length r)) (λx=>(bY m n (aDy F L.length r x),(x:Int))) n ?_ (λx hx=>?_) (λ_=>?_),aA,gA hj,gd,aM,lQ _ hk hj,aA]
  ·have e1:zG F L.length r L.length j=F r j:=by simp [zG]
   have hrj:=hi r j hrm hj;rw [e1,aSh hp,aA,Int.emod_eq_of_lt hrj.1 hrj.2];have hs:=aRj hp hrj;rw [aKe];generalize aDH p (F r j)=s at*;have h1:=aOx hi hk hrm;generalize zG F L.length r=F1 at*;rw [cO (r:=bY m n (uN p F1 L.length s)) (λx=>(bY m n (aBn p F1 L.length s x),(x:Int))) n ?_ (λx hx=>?_) (λ_=>?_),aA]
   ·have h2:=aMR hp (k:=L.length) (s:=s) h1;generalize uN p F1 L.length s=F2 at*;rw [cO (r:=bY m n (aAW p F2 L.length j)) (λx=>(bY m n (kJ p F2 L.length j x),(x:Int))) m ?_ (λx hx=>?_) (λ_=>?_),aA]
    ·rw [bH (by simp;omega),aM];simp [fF]
    ·congr 1
    ·unfold vG;simp only [dH];rw [gA hx,aM];by_cases hxk:x=L.length
     ·rw [bH (by omega),dW,aR,bZ hx (by omega),hxk,aMS]
     ·rw [dU (by omega),Bool.not_false,aM,aIm hN hm hx,aA,aA,wN hN hx,aAC hN hm hx,wN hN hk,aAC hN hm hk];simp only [eN,Nat.add_sub_cancel_left,Nat.zero_add];rw [gA hj,gd,aM,lQ _ hx hj,aA];have e2:kJ p F2 L.length j x x j=F2 x j:=by simp [kJ]
      have h3:=h2 x j hx hj;have h4:=aSl hp (k:=L.length) (j:=j) (x:=x) h2;rw [e2,dV (by omega),aSk hp hn hx hk hxk (by omega) (λb hb=>h4 _ b hx hb) (λb hb=>h4 _ b hk hb),aA,dZ,dZ,bH rfl,aM,bZ hx (by omega),aUH hp hxk]
    ·unfold vG;simp only;rw [gN (bJ _),aR];congr 2;exact cH λa b ha hb=>by simp only [kJ];rw [aW ha]
   ·congr 1
   ·unfold vF;simp only [dH];rw [wN hN hk,aAC hN hm hk];simp only [eN,Nat.add_sub_cancel_left,Nat.zero_add];have g1:=h1 _ x hk hx;have g2:=aLZ (a:=F1 L.length x) (b:=s) (by omega) (by omega);rw [gA hx,aM,gd,aM,lQ _ hk hx,aA,aSj hp,aM,aM,aA,aKc,dV (by omega),Int.tmod_eq_emod_of_nonneg g2.1,aDJ _ _ hk hx,bZ hx (by omega),aKd]
   ·unfold vF;simp only [dH];rw [wN hN hk,aAC hN hm hk];simp only [eN,Nat.add_sub_cancel_left,Nat.zero_add];rw [gN (bJ _),aR];congr 2;exact cH λa b ha hb=>by simp only [aBn];rw [aW hb]
  ·congr 1
  ·unfold vE;simp only [dH];rw [gA hx,aM,aIm hN hm hrm,aA,aA,wN hN hk,aAC hN hm hk,wN hN hrm,aAC hN hm hrm];simp only [eN,Nat.add_sub_cancel_left,Nat.zero_add];rw [gA hx,gd,aM,lQ _ hrm hx,aA,aM,lQ _ hk hx,aA,aM,aA,aM,aDJ _ _ hk hx,lQ _ hrm hx,aA,aDJ _ _ hrm hx,aFK,aFK,bZ hx (by omega),aMQ]
  ·unfold vE;simp only;rw [gN (bJ _),aR];congr 2;exact cH λa b ha hb=>by simp only [aDy];rw [aW hb]
theorem aGy {p:Int} {m n:Nat} {F:Nat→Nat→Int} (T:Tb p m n F):wX p ⟨m,n,bY m n F⟩=some (⟨m,n,bY m n (cD p m F n).1⟩,fF (cD p m F n).2):=by
 have hN:=T.hN;have hn:=T.hn;unfold wX gQ pG;simp only;rw [dZ,bH hN,aM,aA,aA];simp only;rw [cO (r:=(bY m n (cD p m F n).1,fF (cD p m F n).2)) (λj=>((j:Int),bY m n (cD p m F j).1,fF (cD p m F j).2)) n (by simp [cD,fF]) (λj hj=>?_) (λ_=>?_),aA]
 ·show _=some (Sum.inl (((j+1:Nat):Int),bY m n (iE p m (cD p m F j) j).1,fF (iE p m (cD p m F j) j).2):(Int×List Int×List Int) ⊕ (List Int×List Int));exact aWC ⟨T.hp,T.hN,T.hm,T.hn,sF (by have:=eZ T.hp;omega) T.hi j⟩ hj _ (qB j) _
 ·unfold qI;simp only;rw [gN (bJ _),aR]
theorem aXE {p:Int} {m n:Nat} {F:Nat→Nat→Int} (T:Tb p m n F) {j:Nat} (hj:j<n) (L:List Nat) (hL:L.length<m) (l:List Int):
  Lp (lY ⟨m,n,l⟩ ((j:Int),bY m n F,fF L,(L.length:Int))) (-1,wr ((m:Int) - 1))=some (if lG F j (m - L.length) L.length=m then -1 else ((lG F j (m - L.length) L.length:Nat):Int)):=by
 obtain ⟨hp,hN,hm,hn,hi⟩:=T;refine cO (λt=>(if lG F j t (m - t)=m then -1 else ((lG F j t (m - t):Nat):Int),((m - t:Nat):Int) - 1)) (m - L.length) ?_ (λt ht=>?_) (λ_=>?_)
 ·simp only [lG,Nat.sub_zero,if_true];rw [dV (by omega)]
 ·unfold lY;simp only;have e:((m - t:Nat):Int) - 1=((m - (t+1):Nat):Int):=by omega
  have hi2:m - (t+1)<m:=by omega
  rw [e,bH (by omega),aM,atT hN hi2 hj,aA,dV (x:=((m - (t+1):Nat):Int) - 1) (by omega)]
  have ep:lG F j (t+1) (m - (t+1))=if F (m - (t+1)) j=0 then lG F j t (m - t) else m - (t+1):=by
   rw [lG,show m - (t+1)+1=m - t by omega]
  rw [ep];by_cases h:F (m - (t+1)) j=0
  ·rw [bH h,dW,aR,aW h]
  ·rw [dU h,Bool.not_false,aM,aZ h,aZ (by omega)]
 ·rw [show m - (m - L.length)=L.length by omega];unfold lY;simp only;rw [dU (by omega),aR]
theorem aWD {p:Int} {m n:Nat} {F:Nat→Nat→Int} (T:Tb p m n F) {j:Nat} (hj:j<n) (L:List Nat) (hL:L.length<m) (l:List Int):
  hY p ⟨m,n,l⟩ ((j:Int),bY m n F,fF L,(L.length:Int))=some (.inl (((j+1:Nat):Int),bY m n (iE p m (F,L) j).1,fF (iE p m (F,L) j).2,((iE p m (F,L) j).2.length:Int))):=by
 have hpv:=aXE T hj L hL l;obtain ⟨hp,hN,hm,hn,hi⟩:=T;have hb:=eZ hp;have hle:= @aCA F j (m - L.length) L.length;unfold hY iE;simp only;rw [gA hj,aM,gA hL,aM,hpv,aA,bZ hj (by omega)];clear hpv;generalize lG F j (m - L.length) L.length=r at*;have hk:L.length<m:=hL;by_cases hr:r=m
 ·rw [aW hr,aW hr,bH (by omega),aM]
 ·rw [aZ hr,aZ hr,dU (by omega),aR];have hrm:r<m:=by omega
  rw [cO (r:=bY m n (zG F L.length r)) (λx=>(bY m n (aDy F L.length r x),(x:Int))) n ?_ (λx hx=>?_) (λ_=>?_),aA,atT hN hk hj,aA]
  ·have e1:zG F L.length r L.length j=F r j:=by simp [zG]
   have hrj:=hi r j hrm hj;rw [e1,aSi hp (by omega),aA,Int.emod_eq_of_lt hrj.1 hrj.2];have hs:=aRj hp hrj;rw [aKe];generalize aDH p (F r j)=s at*;have h1:=aOx hi hk hrm;generalize zG F L.length r=F1 at*;rw [cO (r:=bY m n (uN p F1 L.length s)) (λx=>(bY m n (aBn p F1 L.length s x),(x:Int))) n ?_ (λx hx=>?_) (λ_=>?_),aA]
   ·have h2:=aMR hp (k:=L.length) (s:=s) h1;generalize uN p F1 L.length s=F2 at*;rw [cO (r:=bY m n (aAW p F2 L.length j)) (λx=>(bY m n (kJ p F2 L.length j x),(x:Int))) m ?_ (λx hx=>?_) (λ_=>?_),aA]
    ·rw [dH,bH (by simp;omega),aM,bZ hk (by omega)];simp [fF]
    ·congr 1
    ·unfold rH;simp only;rw [gA hx,aM,atT hN hx hj,aA,bZ hx (by omega)];have e2:kJ p F2 L.length j x x j=F2 x j:=by simp [kJ]
     rw [e2];by_cases hxk:x=L.length
     ·rw [gS (r:=bY m n (kJ p F2 L.length j x)) ?_,aA,hxk,aMS];unfold lZ;simp only;rcases Nat.eq_zero_or_pos n with h0|h0
      ·omega
      ·rw [bH (by omega),aM,bH (by omega),dW,aR]
     ·rw [cO (r:=bY m n (kJ p F2 L.length j (x+1))) (λy=>(bY m n (λa c=>if a=x∧c<y then aAW p F2 L.length j x c else kJ p F2 L.length j x a c),(y:Int))) n (by simp) (λy hy=>?_) (λ_=>?_),aA]
      ·unfold lZ;simp only;rw [gA hy,aM,dU (by omega),Bool.not_false,aM,atT hN hx hy,aA,atT hN hk hy,aA];have e3:kJ p F2 L.length j x x y=F2 x y:=by simp [kJ]
       have e4:kJ p F2 L.length j x L.length y=F2 L.length y:=by simp [kJ,aAW]
       rw [aZ (by omega),aZ (by omega),e3,e4];have g1:=h2 x j hx hj;have g2:=h2 L.length y hk hy;have g3:=h2 x y hx hy;have g4:=aLZ (a:=F2 x j) (b:=F2 L.length y) (by omega) (by omega);rw [dV (x:=F2 x j*F2 L.length y) (by omega),dV (x:=F2 x y - F2 x j*F2 L.length y) (by omega),aBm hp (by omega),aA,aA,aLa hN hx hy,bZ hy (by omega)];congr 3;refine cH λa c ha hc=>?_;simp only [aEa];by_cases e5:a=x∧c=y
       ·rw [aW e5,aW (by omega),e5.2];simp only [aAW];rw [aZ hxk]
       ·rw [aZ e5];by_cases e6:a=x∧c<y
        ·rw [aW e6,aW (by omega)]
        ·rw [aZ e6,aZ (by omega)]
      ·unfold lZ;simp only;rw [gN (bJ _),aR];congr 2;refine cH λa c ha hc=>?_;simp only [kJ];by_cases e5:a=x
       ·rw [aW ⟨e5,hc⟩,aW (by omega),e5]
       ·rw [aZ (by omega)];by_cases e6:a<x
        ·rw [aW e6,aW (by omega)]
        ·rw [aZ e6,aZ (by omega)]
    ·unfold rH;simp only;rw [gN (bJ _),aR];congr 2;exact cH λa b ha hb=>by simp only [kJ];rw [aW ha]
   ·congr 1
   ·unfold rG;simp only;have g1:=h1 _ x hk hx;have g2:=aLZ (a:=F1 L.length x) (b:=s) (by omega) (by omega);rw [gA hx,aM,atT hN hk hx,aA,aKc,Int.mul_comm,dV (by omega),aBm hp (by omega),aA,aA,aLa hN hk hx,bZ hx (by omega),aKd]
   ·unfold rG;simp only;rw [gN (bJ _),aR];congr 2;exact cH λa b ha hb=>by simp only [aBn];rw [aW hb]
  ·congr 1
  ·unfold rF;simp only;rw [gA hx,aM,atT hN hk hx,aA,atT hN hrm hx,aA,aA,aLa hN hk hx,atT hN hrm hx,aA,aLa hN hrm hx,aFK,aFK,bZ hx (by omega),aMQ]
  ·unfold rF;simp only;rw [gN (bJ _),aR];congr 2;exact cH λa b ha hb=>by simp only [aDy];rw [aW hb]
theorem aDz {p:Int} {m n:Nat} {F:Nat→Nat→Int} (T:Tb p m n F):nF p ⟨m,n,bY m n F⟩=some (⟨m,n,bY m n (cD p m F n).1⟩,fF (cD p m F n).2):=by
 have hN:=T.hN;have hn:=T.hn;unfold nF wW;simp only;rw [dZ,bH (by simp;omega),aM,aA];simp only [List.nil_append]
 obtain ⟨r,h1,h2⟩: ∃ r,Lp (hY p ⟨m,n,bY m n F⟩) (0,bY m n F,[],0)=some r∧r=(bY m n (cD p m F n).1,fF (cD p m F n).2):=by
  refine aNF (λs=> ∃ j:Nat,j≤n∧s=((j:Int),bY m n (cD p m F j).1,fF (cD p m F j).2,((cD p m F j).2.length:Int))) (λs=>n - s.1.toNat) _ ⟨0,Nat.zero_le _,by simp [cD,fF]⟩ ?_;rintro s ⟨j,hj,rfl⟩;rcases eO j n with hlt|hge
  ·have hlen:= @qB p m F j;rcases eO (cD p m F j).2.length m with hl|hl
   ·refine .inl ⟨_,aWD ⟨T.hp,T.hN,T.hm,T.hn,sF (by have:=eZ T.hp;omega) T.hi j⟩ hlt _ hl _,⟨j+1,hlt,rfl⟩,?_⟩;simp;omega
   ·refine .inr ⟨_,?_,rfl⟩;unfold hY;simp only;have e:=aKb (p:=p) (F:=F) (j:=j) (by omega:(cD p m F j).2.length=m) (n - j);rw [show j+(n - j)=n by omega] at e;rw [gA hlt,aM,gN hl,aR,e]
  ·have e:j=n:=by omega
   subst e;refine .inr ⟨_,?_,rfl⟩;unfold hY;simp only;rw [gN (bJ _),aR]
 rw [h1,h2,aA]
end
noncomputable section
set_option maxRecDepth 10000
set_option maxHeartbeats 4000000
def xY (a0:Rp) (a1:Rp) (x1:((List Mt)×Int)):Option (((List Mt)×Int) ⊕ (List Mt)):=
 bif decide (x1.2<(a0.dims.length:Int)) then
 ((cY a0.dims x1.2).bind λv2=>
 (cY a1.dims x1.2).bind λv3=>
 (lI v3 v2).bind λv4=>
 bif decide (x1.1.length+1≤4294967296) then
 (some (.inl ((x1.1++[v4]),wr (x1.2+1))))
 else none)
 else
 (some (.inr x1.1))
def vL (a0:Rp) (a1:Rp):Option (List Mt):=
 (Lp (xY a0 a1) ([],0)).bind λy6=>
 some (y6)
theorem aEA (a0:Rp) (a1:Rp) (r:(List Mt)) (h:vL a0 a1=some r):HasC Tryz.prog 191 [.agg (eR a0),.agg (eR a1)] (.list 3 (r.map eM)):=by
 refine hM [.tmp 4] Tryz.func191 Tryz.ntmps191 k<|sR<|ae (wb k) k<|ae (wb k) k<|aT k2<|sR<|aT k2<|sQ<|sR<|fp k8<|lp k8<|ln k4<|am k k<|an<|tn<|aD<|oB h λy6 hy6 h=>cC (body:=(xY a0 a1)) hy6 (λ(x1:((List Mt)×Int))=>mN [(3,.ptr 0 0 0),(5,.own 1 0 x1.1.length),(9,.list 1 (a0.dims.map eI)),(10,.int (a0.dims.length:Int)),(11,.int x1.2)] [(0,⟨6,[eR a1]⟩),(1,⟨3,x1.1.map (ow eM)⟩)] 2) (λr e t=>e= .exit 0∧Ent t (mN [(5,.own 0 0 r.length)] [(0,⟨3,r.map (ow eM)⟩)] 1)) (eY (σ:=sg [(0,1)]) (kT 1 k2 (gH ⟨_,k,⟨k,k,k,k⟩⟩ (bG k2))) (bO k<|hX k k<|aQ) k) ?_ ?_
 ·intro x1 o h;refine sR<|cm k4<|an<|tn<|sQ<|cN k h (λ_ h=>?_) λ_ h=>aY<|aB<|aB<|sp h ⟨_,k,k,(gT [1] (bG k2) (bW (aX.plainO _) k<|aQ) k4)⟩;refine aG<|tn<|sQ<|aD<|sR<|am k k<|oB h λv2 hv2 h=>ae (xl hv2 k) k<|lr k7<|aa k k<|aT k2<|rg<|am k k<|fp k8<|lp k8<|am k k<|oB h λv3 hv3 h=>ae (xl hv3 k) k<|lr k7<|am k k<|oB h λv4 hv4 h=>ae (cM (uQ v3 v2 v4 hv4) k3 (cJ k (cJ k aO))) k<|ae (wl k) k<|cG h λq5 h=>ae (fN aJ (l:=x1.1) (c:=[.int v4.rows,.int v4.cols,.own 2 0 v4.cells.length]) q5 k k k k k k k k k k k k k k) k<|aa k k<|an<|bB<|tn<|aI (t:=mN [(3,.ptr 0 0 0),(5,.own 4 0 ((x1.1++[v4]).length)),(9,.list 1 (a0.dims.map eI)),(10,.int (a0.dims.length:Int)),(11,.int x1.2)] [(0,⟨6,[eR a1]⟩),(4,⟨3,List.map (ow eM) (x1.1++[v4])⟩)] 5) (Ent.trans (dJ (b:=4) (b':=2) (j:=2) (es':=v4.cells.map eI) k k k k (aH _ _) (cA.frzs _)) (bP (kT 1 k2 (gH ⟨_,k,⟨k,k,(by simp only [aH,lA,lT,lR,lC,lN]),k⟩⟩ (bG k2))) (bO k<|hX ⟨_,k,k,.inl ⟨fV v4 k,aX.plainO _⟩⟩ k<|aQ) k4)) ?_;exact rg<|ae (bF k k) k<|am k k<|an<|tn<|sp h ⟨_,k,(gT [0,4] (bG k2) (bO k<|bW (aX.plainO _) k<|aQ) k4)⟩
 ·rintro e t ⟨rfl,hent⟩;exact aN<|tn<|aI hent<|sR<|am k k<|aT k2<|aE<|sp h (bD k k k (fH (cW aX k k)))
def aAD (a0:(List Mt)) (x1:((List Int)×Int)):Option (((List Int)×Int) ⊕ (List Int)):=
 bif decide (x1.2<(a0.length:Int)) then
 ((cY a0 x1.2).bind λv2=>
 bif decide (x1.1.length+v2.cells.length≤4294967296) then
 (some (.inl ((x1.1++v2.cells),wr (x1.2+1))))
 else none)
 else
 (some (.inr x1.1))
def nZ (a0:(List Mt)):Option (List Int):=
 (Lp (aAD a0) ([],0)).bind λy4=>
 some (y4)
theorem aEm (a0:(List Mt)) (r:(List Int)) (h:nZ a0=some r):HasC Tryz.prog 128 [.list 3 (a0.map eM)] (.list 1 (r.map eI)):=by
 refine hM [.tmp 2] Tryz.func128 Tryz.ntmps128 k<|sR<|aT k2<|sR<|aT k2<|sQ<|sR<|am k k<|ln k4<|am k k<|an<|tn<|aD<|oB h λy4 hy4 h=>cC (body:=(aAD a0)) hy4 (λ(x1:((List Int)×Int))=>mN [(3,.own 0 0 x1.1.length),(6,.list 3 (a0.map eM)),(7,.int (a0.length:Int)),(8,.int x1.2)] [(0,⟨1,x1.1.map (ow eI)⟩)] 1) (λr e t=>e= .exit 0∧Ent t (mN [(3,.own 0 0 r.length)] [(0,⟨1,r.map (ow eI)⟩)] 1)) (eY (σ:=sg []) (gH ⟨_,k,⟨k,k,k,k⟩⟩ (bG k2)) (hX k k<|aQ) k) ?_ ?_
 ·intro x1 o h;exact sR<|cm k4<|an<|tn<|sQ<|cN k h (λ_ h=>aG<|tn<|sQ<|aD<|sR<|oB h λv2 hv2 h=>ae (xl hv2 k) k<|lr k7<|ae (bX aJ k k) k<|ae (ws k) k<|an<|tn<|rg<|am k k<|fp k8<|lp k8<|cG h λq3 h=>ae (qV aJ (l:=x1.1) (m:=v2.cells) kH q3 k k k k k k k k k k k k) k<|aa k k<|an<|bB<|tn<|rg<|ae (bF k k) k<|am k k<|an<|tn<|sp h ⟨_,k,(gT [2] (bG k2) (bN k<|aQ) k4)⟩) λ_ h=>aY<|aB<|aB<|sp h ⟨_,k,k,(bP (bG k2) (bN k<|aQ) k4)⟩
 ·rintro e t ⟨rfl,hent⟩;exact aN<|tn<|aI hent<|sR<|am k k<|aT k2<|aE<|sp h (bD k k k (fH (cW cA k k)))
def vM (a0:(List Mt)) (x1:((List Int)×(List Mt)×Int)):Option (((List Int)×(List Mt)×Int) ⊕ (List Mt)):=
 bif decide (x1.2.2<(a0.length:Int)) then
 ((cY a0 x1.2.2).bind λv2=>
 bif (decide (0≤0)&&(decide (0≤(v2.cells.length:Int))&&decide ((v2.cells.length:Int)≤(x1.1.length:Int)))) then
 ((pG ((x1.1.drop (0:Int).toNat).take ((v2.cells.length:Int).toNat - (0:Int).toNat))).bind λv4=>
 bif decide (x1.2.1.length+1≤4294967296) then
 (bif (decide (0≤(v2.cells.length:Int))&&(decide ((v2.cells.length:Int)≤(x1.1.length:Int))&&decide ((x1.1.length:Int)≤(x1.1.length:Int)))) then
 (some (.inl (((x1.1.drop (v2.cells.length:Int).toNat).take ((x1.1.length:Int).toNat - (v2.cells.length:Int).toNat)),(x1.2.1++[(⟨v2.rows,v2.cols,v4⟩:Mt)]),wr (x1.2.2+1))))
 else none)
 else none)
 else none)
 else
 (some (.inr x1.2.1))
def sU (a0:(List Mt)) (a1:(List Int)):Option (List Mt):=
 (Lp (vM a0) (a1,[],0)).bind λy7=>
 some (y7)
theorem aFo (a0:(List Mt)) (a1:(List Int)) (r:(List Mt)) (h:sU a0 a1=some r):HasC Tryz.prog 131 [.list 3 (a0.map eM),.list 1 (a1.map eI)] (.list 3 (r.map eM)):=by
 refine hM [.tmp 4] Tryz.func131 Tryz.ntmps131 k<|sR<|aT k2<|sR<|aT k2<|sQ<|sR<|am k k<|ln k4<|am k k<|an<|tn<|aD<|oB h λy7 hy7 h=>cC (body:=(vM a0)) hy7 (λ(x1:((List Int)×(List Mt)×Int))=>mN [(1,.list 1 (x1.1.map eI)),(5,.own 0 0 x1.2.1.length),(9,.list 3 (a0.map eM)),(10,.int (a0.length:Int)),(11,.int x1.2.2)] [(0,⟨3,x1.2.1.map (ow eM)⟩)] 1) (λr e t=>e= .exit 0∧Ent t (mN [(5,.own 0 0 r.length)] [(0,⟨3,r.map (ow eM)⟩)] 1)) (eY (σ:=sg []) (kT 1 k2 (gH ⟨_,k,⟨k,k,k,k⟩⟩ (bG k2))) (hX k k<|aQ) k) ?_ ?_
 ·intro x1 o h;refine sR<|cm k4<|an<|tn<|sQ<|cN k h (λ_ h=>?_) λ_ h=>aY<|aB<|aB<|sp h ⟨_,k,k,(bP (bG k2) (bW (aX.plainO _) k<|aQ) k4)⟩;refine aG<|tn<|sQ<|aD<|sR<|oB h λv2 hv2 h=>ae (xl hv2 k) k<|lr k7<|ae (bX aJ k k) k<|ae (ws k) k<|an<|tn<|sR<|fp k8<|lp k8<|ln k4<|aT k2<|sQ<|aP fB<|am k k<|fp k8<|lp k8<|fp k8<|lp k8<|am k k<|am k k ?_;exact cG h λq3 h=>ae (aDu aJ (l0:=x1.1) (l:=0) (h:=(v2.cells.length:Int)) q3 k k k k k k k) k<|oB h λv4 hv4 h=>ae (cL cA (aDv ((x1.1.drop (0:Int).toNat).take ((v2.cells.length:Int).toNat - (0:Int).toNat)) v4 hv4) k3 (cJ k aO)) k<|ae (fW aJ k k k k k k) k<|ae (wl k) k<|cG h λq5 h=>ae (fN aJ (l:=x1.2.1) (c:=[.int v2.rows,.int v2.cols,.own 2 0 v4.length]) q5 k k k k k k k k k k k k k k) k<|aa k k<|an<|lL (by kernel_rfl)<|tn<|aI (t:=mN [(1,.list 1 (x1.1.map eI)),(5,.own 4 0 ((x1.2.1++[(⟨v2.rows,v2.cols,v4⟩:Mt)]).length)),(8,.int (v2.cells.length:Int)),(9,.list 3 (a0.map eM)),(10,.int (a0.length:Int)),(11,.int x1.2.2)] [(4,⟨3,List.map (ow eM) (x1.2.1++[(⟨v2.rows,v2.cols,v4⟩:Mt)])⟩)] 5) (Ent.trans (dJ (b:=4) (b':=2) (j:=2) (es':=v4.map eI) k k k k (aH _ _) (cA.frzs _)) (bP (kT 1 k2 (gH ⟨_,k,⟨k,k,(by simp only [aH,lA,lT,lR,lC,lN]),k⟩⟩ (bG k2))) (hX ⟨_,k,k,.inl ⟨fV (⟨v2.rows,v2.cols,v4⟩:Mt) k,aX.plainO _⟩⟩ k<|aQ) k4))<|rg<|am k k<|am k k<|cG h λq6 h=>ae (aDu aJ (l0:=x1.1) (l:=(v2.cells.length:Int)) (h:=(x1.1.length:Int)) q6 k k k k k k k) k<|aa k k<|an<|bB<|tn<|rg<|ae (bF k k) k<|am k k<|an<|tn<|sp h ⟨_,k,(gT [4] (bG k2) (bW (aX.plainO _) k<|aQ) k4)⟩
 ·rintro e t ⟨rfl,hent⟩;exact aN<|tn<|aI hent<|sR<|am k k<|aT k2<|aE<|sp h (bD k k k (fH (cW aX k k)))
def aCl (a0:Int) (a1:Mt) (a2:Int) (a3:Mt):Option Mt:=
 (gQ a1).bind λv1=>
 (hU a0 v1.cells 0 v1.cells.length a2 a3.cells).bind λv2=>
 bif decide (v2.length=v1.cells.length) then
 (some ((⟨v1.rows,v1.cols,v2⟩:Mt)))
 else none
theorem aOy (a0:Int) (a1:Mt) (a2:Int) (a3:Mt) (r:Mt) (h:aCl a0 a1 a2 a3=some r):HasC Tryz.prog 233 [.int a0,.agg (eM a1),.int a2,.agg (eM a3)] (.agg (eM r)):=by
 refine hM [.cell 8 91] Tryz.func233 Tryz.ntmps233 k<|sR<|ae (wb k) k<|ae (wb k) k<|ae (bX aJ k k) k<|an<|tn<|sR<|lp k8<|oB h λv1 hv1 h=>ae (cM (wM a1 v1 hv1) k3 (aL (eV k) aO)) k<|ae (bX aJ k k) k<|ae (ws k) k<|an<|tn<|sR<|am k k<|fp k8<|lp k8<|am k k<|fp k8<|lp k8<|oB h λv2 hv2 h=>ae (gP (σ:=sg [(0,3)]) (σ':=sg [(3,0)]) (touch:=[3]) (news:=[]) (hl2:=[(3,⟨1,v2.map (ow eI)⟩)]) (n':=5) (r2:= .own 3 0 v1.cells.length) (yV a0 v1.cells 0 v1.cells.length a2 a3.cells v2 hv2) k k ⟨_,_,k,k,⟨_,_,k,⟨k,k,k,k⟩,⟨_,_,k,k,⟨_,_,k,⟨k,k⟩,k⟩⟩⟩⟩ ⟨⟨_,k,k,.inl ⟨k,cA.plainO _⟩⟩,k,aQ⟩ k k k ⟨⟨_,k,k,.inl ⟨k,cA.plainO _⟩⟩,k,aQ⟩ k ⟨k,k,(by simp only [aH,lA,lT,lR,lC,lN]),k⟩ k ⟨k,cA.tame _ _,aQ⟩ k k) k<|cG h λq3 h=>an<|tn<|sR<|lp k8 ?_;exact ae (ws k) k<|an<|tn<|aE<|sp h (bD k k k (iJ (aU (k) (aU (k) (aU (cW cA k (by first|rfl|simp only [List.length_set,of_decide_eq_true q3])) fA)))))
def oA (a0:Rp) (a1:Rp) (a2:(List Mt)) (x1:((List Mt)×Int)):Option (((List Mt)×Int) ⊕ (List Mt)):=
 bif decide (x1.2<(a0.q.src.length:Int)) then
 ((cY a0.q.src x1.2).bind λv2=>
 (cY a1.maps x1.2).bind λv3=>
 (cY a2 v2).bind λv4=>
 (nW a0.p v3 v4).bind λv5=>
 (cY a0.q.tgt x1.2).bind λv6=>
 (cY a2 v6).bind λv7=>
 (cY a0.maps x1.2).bind λv8=>
 (nW a0.p v7 v8).bind λv9=>
 (aCl a0.p v5 (wr (a0.p - 1)) v9).bind λv10=>
 bif decide (x1.1.length+1≤4294967296) then
 (some (.inl ((x1.1++[v10]),wr (x1.2+1))))
 else none)
 else
 (some (.inr x1.1))
def tJ (a0:Rp) (a1:Rp) (a2:(List Mt)):Option (List Mt):=
 (Lp (oA a0 a1 a2) ([],0)).bind λy12=>
 some (y12)
theorem aGz (a0:Rp) (a1:Rp) (a2:(List Mt)) (r:(List Mt)) (h:tJ a0 a1 a2=some r):HasC Tryz.prog 200 [.agg (eR a0),.agg (eR a1),.list 3 (a2.map eM)] (.list 3 (r.map eM)):=by
 refine hM [.tmp 6] Tryz.func200 Tryz.ntmps200 k<|sR<|ae (wb k) k<|ae (wb k) k<|aT k2<|sR<|aT k2<|sQ<|sR<|fp k8<|fp k8<|lp k8<|ln k4<|am k k<|an<|tn<|aD<|oB h λy12 hy12 h=>cC (body:=(oA a0 a1 a2)) hy12 (λ(x1:((List Mt)×Int))=>mN [(2,.list 3 (a2.map eM)),(3,.ptr 0 0 0),(4,.ptr 1 0 0),(7,.own 2 0 x1.1.length),(13,.list 1 (a0.q.src.map eI)),(14,.int (a0.q.src.length:Int)),(15,.int x1.2)] [(0,⟨6,[eR a0]⟩),(1,⟨6,[eR a1]⟩),(2,⟨3,x1.1.map (ow eM)⟩)] 3) (λr e t=>e= .exit 0∧Ent t (mN [(7,.own 0 0 r.length)] [(0,⟨3,r.map (ow eM)⟩)] 1)) (eY (σ:=sg [(0,0),(1,1)]) (kT 3 k2 (gH ⟨_,k,⟨k,k,k,k⟩⟩ (bG k2))) (bO k<|bO k<|hX k k<|aQ) k) ?_ ?_
 ·intro x1 o h;refine sR<|cm k4<|an<|tn<|sQ<|cN k h (λ_ h=>?_) λ_ h=>aY<|aB<|aB<|sp h ⟨_,k,k,(gT [2] (bG k2) (bW (aX.plainO _) k<|aQ) k4)⟩;refine aG<|tn<|sQ<|aD<|sR<|am k k<|oB h λv2 hv2 h=>ae (xl hv2 k) k<|lr k7<|aa k k<|aT k2<|sQ<|aP fB<|fp k8<|lp k8<|fp k8<|lp k8<|am k k<|oB h λv3 hv3 h=>ae (xl hv3 k) k<|lr k7<|am k k<|am k k<|oB h λv4 hv4 h=>ae (xl hv4 k) k<|lr k7<|oB h λv5 hv5 h=>ae (cM (aAB a0.p v3 v4 v5 hv5) k3 (cJ k (aL (eV k) (aL (eV k) aO)))) k<|ae (bX aJ k k) k<|ae (ws k) k ?_;refine an<|lL (by kernel_rfl)<|tn<|aP fB<|am k k<|fp k8<|lp k8<|lp k8<|fp k8<|lp k8<|ae (wS k k) k<|fp k8<|lp k8<|am k k<|fp k8<|fp k8<|lp k8<|am k k<|oB h λv6 hv6 h=>ae (xl hv6 k) k<|lr k7<|oB h λv7 hv7 h=>ae (xl hv7 k) k<|lr k7<|fp k8<|lp k8<|am k k<|oB h λv8 hv8 h=>ae (xl hv8 k) k<|lr k7<|oB h λv9 hv9 h=>ae (cM (aAB a0.p v7 v8 v9 hv9) k3 (cJ k (aL (eV k) (aL (eV k) aO)))) k<|oB h λv10 hv10 h=>ae (cM (aOy a0.p v5 (wr (a0.p - 1)) v9 v10 hv10) k3 (cJ k (aL (vaM k2) (cJ k (aL (vaM k2) aO))))) k<|ae (wl k) k ?_;exact cG h λq11 h=>ae (fN aJ (l:=x1.1) (c:=[.int v10.rows,.int v10.cols,.own 6 0 v10.cells.length]) q11 k k k k k k k k k k k k k k) k<|aa k k<|an<|lL (by kernel_rfl)<|bB<|tn<|aI (t:=mN [(2,.list 3 (a2.map eM)),(3,.ptr 0 0 0),(4,.ptr 1 0 0),(7,.own 8 0 ((x1.1++[v10]).length)),(13,.list 1 (a0.q.src.map eI)),(14,.int (a0.q.src.length:Int)),(15,.int x1.2)] [(0,⟨6,[eR a0]⟩),(1,⟨6,[eR a1]⟩),(8,⟨3,List.map (ow eM) (x1.1++[v10])⟩)] 9) (Ent.trans (dJ (b:=8) (b':=6) (j:=2) (es':=v10.cells.map eI) k k k k (aH _ _) (cA.frzs _)) (bP (kT 3 k2 (gH ⟨_,k,⟨k,k,(by simp only [aH,lA,lT,lR,lC,lN]),k⟩⟩ (bG k2))) (bO k<|bO k<|hX ⟨_,k,k,.inl ⟨fV v10 k,aX.plainO _⟩⟩ k<|aQ) k4))<|rg<|ae (bF k k) k<|am k k<|an<|tn<|sp h ⟨_,k,(gT [0,1,8] (bG k2) (bO k<|bO k<|bW (aX.plainO _) k<|aQ) k4)⟩
 ·rintro e t ⟨rfl,hent⟩;exact aN<|tn<|aI hent<|sR<|am k k<|aT k2<|aE<|sp h (bD k k k (fH (cW aX k k)))
def kV (a0:Rp) (a1:Rp) (x1:((List Mt)×Int)):Option (((List Mt)×Int) ⊕ (List Mt)):=
 bif decide (x1.2<(a0.q.src.length:Int)) then
 ((cY a0.q.src x1.2).bind λv2=>
 (cY a0.q.tgt x1.2).bind λv3=>
 (cY a1.dims v3).bind λv4=>
 (cY a0.dims v2).bind λv5=>
 (lI v4 v5).bind λv6=>
 bif decide (x1.1.length+1≤4294967296) then
 (some (.inl ((x1.1++[v6]),wr (x1.2+1))))
 else none)
 else
 (some (.inr x1.1))
def pL (a0:Rp) (a1:Rp):Option (List Mt):=
 (Lp (kV a0 a1) ([],0)).bind λy8=>
 some (y8)
theorem aFY (a0:Rp) (a1:Rp) (r:(List Mt)) (h:pL a0 a1=some r):HasC Tryz.prog 201 [.agg (eR a0),.agg (eR a1)] (.list 3 (r.map eM)):=by
 refine hM [.tmp 4] Tryz.func201 Tryz.ntmps201 k<|sR<|ae (wb k) k<|ae (wb k) k<|aT k2<|sR<|aT k2<|sQ<|sR<|fp k8<|fp k8<|lp k8<|ln k4<|am k k<|an<|tn<|aD<|oB h λy8 hy8 h=>cC (body:=(kV a0 a1)) hy8 (λ(x1:((List Mt)×Int))=>mN [(2,.ptr 0 0 0),(3,.ptr 1 0 0),(5,.own 2 0 x1.1.length),(10,.list 1 (a0.q.src.map eI)),(11,.int (a0.q.src.length:Int)),(12,.int x1.2)] [(0,⟨6,[eR a0]⟩),(1,⟨6,[eR a1]⟩),(2,⟨3,x1.1.map (ow eM)⟩)] 3) (λr e t=>e= .exit 0∧Ent t (mN [(5,.own 0 0 r.length)] [(0,⟨3,r.map (ow eM)⟩)] 1)) (eY (σ:=sg [(0,0),(1,1)]) (kT 2 k2 (gH ⟨_,k,⟨k,k,k,k⟩⟩ (bG k2))) (bO k<|bO k<|hX k k<|aQ) k) ?_ ?_
 ·intro x1 o h;refine sR<|cm k4<|an<|tn<|sQ<|cN k h (λ_ h=>?_) λ_ h=>aY<|aB<|aB<|sp h ⟨_,k,k,(gT [2] (bG k2) (bW (aX.plainO _) k<|aQ) k4)⟩;refine aG<|tn<|sQ<|aD<|sR<|am k k<|oB h λv2 hv2 h=>ae (xl hv2 k) k<|lr k7<|aa k k<|aT k2<|aP fB<|am k k<|fp k8<|lp k8<|fp k8<|fp k8<|lp k8<|am k k<|oB h λv3 hv3 h=>ae (xl hv3 k) k<|lr k7<|oB h λv4 hv4 h=>ae (xl hv4 k) k<|lr k7<|fp k8<|lp k8<|am k k<|oB h λv5 hv5 h=>ae (xl hv5 k) k ?_;exact lr k7<|oB h λv6 hv6 h=>ae (cM (uQ v4 v5 v6 hv6) k3 (cJ k (cJ k aO))) k<|ae (wl k) k<|cG h λq7 h=>ae (fN aJ (l:=x1.1) (c:=[.int v6.rows,.int v6.cols,.own 3 0 v6.cells.length]) q7 k k k k k k k k k k k k k k) k<|aa k k<|an<|lL (by kernel_rfl)<|bB<|tn<|aI (t:=mN [(2,.ptr 0 0 0),(3,.ptr 1 0 0),(5,.own 5 0 ((x1.1++[v6]).length)),(10,.list 1 (a0.q.src.map eI)),(11,.int (a0.q.src.length:Int)),(12,.int x1.2)] [(0,⟨6,[eR a0]⟩),(1,⟨6,[eR a1]⟩),(5,⟨3,List.map (ow eM) (x1.1++[v6])⟩)] 6) (Ent.trans (dJ (b:=5) (b':=3) (j:=2) (es':=v6.cells.map eI) k k k k (aH _ _) (cA.frzs _)) (bP (kT 2 k2 (gH ⟨_,k,⟨k,k,(by simp only [aH,lA,lT,lR,lC,lN]),k⟩⟩ (bG k2))) (bO k<|bO k<|hX ⟨_,k,k,.inl ⟨fV v6 k,aX.plainO _⟩⟩ k<|aQ) k4))<|rg<|ae (bF k k) k<|am k k<|an<|tn<|sp h ⟨_,k,(gT [0,1,5] (bG k2) (bO k<|bO k<|bW (aX.plainO _) k<|aQ) k4)⟩
 ·rintro e t ⟨rfl,hent⟩;exact aN<|tn<|aI hent<|sR<|am k k<|aT k2<|aE<|sp h (bD k k k (fH (cW aX k k)))
def mO (v1:Mt) (v3:(List Int)) (x1:((List Int)×Int)) (x2:((List Int)×Int)):Option (((List Int)×Int) ⊕ (List Int)):=
 bif decide (x2.2<(v3.length:Int)) then
 ((cY v3 x2.2).bind λv5=>
 (cY x2.1 (wr ((wr (x2.2*v1.cols))+x1.2))).bind λv6=>
 some (.inl ((x2.1.set ((wr ((wr (x2.2*v1.cols))+x1.2)).toNat) v5),wr (x2.2+1))))
 else
 (some (.inr x2.1))
def mP (a1:(List (List Int))) (v1:Mt) (x1:((List Int)×Int)):Option (((List Int)×Int) ⊕ (List Int)):=
 bif decide (x1.2<(a1.length:Int)) then
 ((cY a1 x1.2).bind λv3=>
 (Lp (mO v1 v3 x1) (x1.1,0)).bind λy7=>
 some (.inl (y7,wr (x1.2+1))))
 else
 (some (.inr x1.1))
def fT (a0:Int) (a1:(List (List Int))):Option Mt:=
 (lI a0 (a1.length:Int)).bind λv1=>
 (Lp (mP a1 v1) (v1.cells,0)).bind λy8=>
 some ((⟨v1.rows,v1.cols,y8⟩:Mt))
theorem mB (a0:Int) (a1:(List (List Int))) (r:Mt) (h:fT a0 a1=some r):HasC Tryz.prog 165 [.int a0,.list 1 (a1.map (dQ 1 eI))] (.agg (eM r)):=by
 refine hM [.cell 4 91] Tryz.func165 Tryz.ntmps165 k<|sR<|ae (bX aJ k k) k<|an<|tn<|sR<|am k k<|am k k<|ln k4<|oB h λv1 hv1 h=>ae (cM (uQ a0 (a1.length:Int) v1 hv1) k3 (cJ k (cJ k aO))) k<|ae (bX aJ k k) k<|ae (ws k) k<|an<|tn<|sQ<|sR<|am k k<|ln k4<|am k k<|an<|tn<|aD<|oB h λy8 hy8 h=>cC (body:=(mP a1 v1)) hy8 (λ(x1:((List Int)×Int))=>mN [(4,.ptr 0 0 0),(5,.ptr 1 0 0),(14,.list 1 (a1.map (dQ 1 eI))),(15,.int (a1.length:Int)),(16,.int x1.2)] [(0,⟨3,[gD]⟩),(1,⟨3,[[.int v1.rows,.int v1.cols,.own 2 0 x1.1.length]]⟩),(2,⟨1,x1.1.map (ow eI)⟩)] 3) (λr e t=>e= .exit 0∧Ent t (mN [(4,.ptr 0 0 0),(5,.ptr 1 0 0)] [(0,⟨3,[gD]⟩),(1,⟨3,[[.int v1.rows,.int v1.cols,.own 2 0 r.length]]⟩),(2,⟨1,r.map (ow eI)⟩)] 3)) (gT [0,2,1] (bG k2) (bO k<|eJ k<|bN k<|aQ) k4) ?_ ?_
 ·intro x1 o h;refine sR<|cm k4<|an<|tn<|sQ<|cN k h (λ_ h=>?_) λ_ h=>aY<|aB<|aB<|sp h ⟨_,k,k,(bP (bG k2) (bO k<|eJ k<|bN k<|aQ) k4)⟩;refine aG<|tn<|sQ<|aD<|sR<|am k k<|oB h λv3 hv3 h=>ae (xl hv3 k) k<|lr k7<|aa k k<|aT k2<|sR<|am k k<|ln k4<|am k k<|an<|tn<|aD<|oB h λy7 hy7 h=>cC (body:=(mO v1 v3 x1)) hy7 (λ(x2:((List Int)×Int))=>mN [(4,.ptr 0 0 0),(5,.ptr 1 0 0),(6,.int x1.2),(14,.list 1 (a1.map (dQ 1 eI))),(15,.int (a1.length:Int)),(16,.int x1.2),(21,.list 1 (v3.map eI)),(22,.int (v3.length:Int)),(23,.int x2.2)] [(0,⟨3,[gD]⟩),(1,⟨3,[[.int v1.rows,.int v1.cols,.own 2 0 x2.1.length]]⟩),(2,⟨1,x2.1.map (ow eI)⟩)] 3) (λr e t=>e= .exit 2∧Ent t (mN [(4,.ptr 0 0 0),(5,.ptr 1 0 0),(14,.list 1 (a1.map (dQ 1 eI))),(15,.int (a1.length:Int)),(16,.int x1.2)] [(0,⟨3,[gD]⟩),(1,⟨3,[[.int v1.rows,.int v1.cols,.own 2 0 r.length]]⟩),(2,⟨1,r.map (ow eI)⟩)] 3)) (bP (bG k2) (bO k<|eJ k<|bN k<|aQ) k4) ?_ ?_
  ·intro x2 o h;refine sR<|cm k4<|an<|tn<|sQ<|cN k h (λ_ h=>?_) λ_ h=>aY<|aB<|aB<|sp h ⟨_,k,k,(bP (bG k2) (bO k<|eJ k<|bN k<|aQ) k4)⟩;refine aG<|tn<|sQ<|aD<|sR<|am k k<|oB h λv5 hv5 h=>ae (xl hv5 k) k<|lr k7<|aa k k<|aT k2<|rg<|fp k8<|lp k8<|am k k<|fp k8<|lp k8<|ae (fP k k) k<|am k k<|ae (bF k k) k<|am k k<|oB h λv6 hv6 h=>ae (xo hv6 k) k<|ae (gL aJ kH (u:=v5) (dF hv6) k k k k k k) k<|an<|bB<|tn<|rg ?_;exact ae (bF k k) k<|am k k<|an<|tn<|sp h ⟨_,k,(bP (bG k2) (bO k<|hX ⟨_,k,k,.inr ⟨_,_,k,⟨_,_,k,k,⟨_,_,k,k,⟨_,_,k,⟨k,k,(by simp only [aH,lA,lT,lR,lC,lN]),k⟩,k⟩⟩⟩,k⟩⟩ k<|bN k<|aQ) k4)⟩
  ·rintro e t ⟨rfl,hent⟩;exact aN<|bB<|tn<|aI hent<|rg<|ae (bF k k) k<|am k k<|an<|tn<|sp h ⟨_,k,(bP (bG k2) (bO k<|eJ k<|bN k<|aQ) k4)⟩
 ·rintro e t ⟨rfl,hent⟩;exact aN<|tn<|aI hent<|sR<|lp k8<|ae (ws k) k<|an<|tn<|aE<|sp h (bD k k k (iJ (aU (k) (aU (k) (aU (cW cA k k) fA)))))
def oC (a0:Rp) (a1:Rp) (v1:(List Mt)) (v2:(List Int)) (x1:((List (List Int))×Int)):Option (((List (List Int))×Int) ⊕ (List (List Int))):=
 bif decide (x1.2<((v2.length:Nat):Int)) then
 (bif (decide (0≤((v2.length:Nat):Int))&&decide (((v2.length:Nat):Int)≤1048576)) then
 ((cY (List.replicate (((v2.length:Nat):Int).toNat) (0:Int)) x1.2).bind λv4=>
 (sU v1 ((List.replicate (((v2.length:Nat):Int).toNat) (0:Int)).set x1.2.toNat 1)).bind λv5=>
 (tJ a0 a1 v5).bind λv6=>
 (nZ v6).bind λv7=>
 bif decide (x1.1.length+1≤4294967296) then
 (some (.inl ((x1.1++[v7]),wr (x1.2+1))))
 else none)
 else none)
 else
 (some (.inr x1.1))
def tK (a0:Rp) (a1:Rp):Option Mt:=
 (vL a0 a1).bind λv1=>
 (nZ v1).bind λv2=>
 (Lp (oC a0 a1 v1 v2) ([],0)).bind λy10=>
 (pL a0 a1).bind λv11=>
 (nZ v11).bind λv12=>
 (fT ((v12.length:Nat):Int) y10).bind λv13=>
 some (v13)
theorem aHA (a0:Rp) (a1:Rp) (r:Mt) (h:tK a0 a1=some r):HasC Tryz.prog 170 [.agg (eR a0),.agg (eR a1)] (.agg (eM r)):=by
 refine hM [.cell 4 91] Tryz.func170 Tryz.ntmps170 k<|sR<|ae (wb k) k<|ae (wb k) k<|ae (bX aJ k k) k<|an<|tn<|sR<|lp k8<|lp k8<|oB h λv1 hv1 h=>ae (cL aX (aEA a0 a1 v1 hv1) k3 (aL (eV k) (aL (eV k) aO))) k<|aT k2<|sR<|am k k<|oB h λv2 hv2 h=>ae (cL cA (aEm v1 v2 hv2) k3 (aL (tA aX k k) aO)) k<|ae (dR aJ k k k k) k<|aT k2<|sR<|aT k2<|sQ ?_;refine sR<|am k k<|am k k<|an<|tn<|aD<|oB h λy10 hy10 h=>cC (body:=(oC a0 a1 v1 v2)) hy10 (λ(x1:((List (List Int))×Int))=>mN [(2,.ptr 0 0 0),(3,.ptr 1 0 0),(4,.ptr 2 0 0),(5,.own 3 0 v1.length),(6,.int ((v2.length:Nat):Int)),(7,.own 4 0 x1.1.length),(16,.int ((v2.length:Nat):Int)),(17,.int x1.2)] [(0,⟨6,[eR a0]⟩),(1,⟨6,[eR a1]⟩),(2,⟨3,[gD]⟩),(3,⟨3,v1.map (ow eM)⟩),(4,⟨1,x1.1.map (ow (dQ 1 eI))⟩)] 5) (λr e t=>e= .exit 0∧Ent t (mN [(2,.ptr 0 0 0),(3,.ptr 1 0 0),(4,.ptr 2 0 0),(7,.own 3 0 r.length)] [(0,⟨6,[eR a0]⟩),(1,⟨6,[eR a1]⟩),(2,⟨3,[gD]⟩),(3,⟨1,r.map (ow (dQ 1 eI))⟩)] 4)) (eY (σ:=sg [(0,0),(1,1),(2,2),(3,3)]) (kT 5 k2 (gH ⟨_,k,⟨k,k,k,k⟩⟩ (bG k2))) (bO k<|bO k<|bO k<|bW (aX.plainO _) k<|hX k k<|aQ) k) ?_ ?_
 ·intro x1 o h;refine sR<|cm k4<|an<|tn<|sQ<|cN k h (λ_ h=>?_) λ_ h=>aY<|aB<|aB<|sp h ⟨_,k,k,(gT [0,1,2,4] (bG k2) (bO k<|bO k<|bO k<|bW (cB.plainO _) k<|aQ) k4)⟩;refine aG<|tn<|sQ<|aD<|sR<|am k k<|aT k2<|sR<|am k k<|cG h λq9 h=>ae (aCD aJ q9 k k k k k k k k) k<|aT k2<|aI (t:=mN [(2,.ptr 0 0 0),(3,.ptr 1 0 0),(4,.ptr 2 0 0),(5,.own 3 0 v1.length),(6,.int ((v2.length:Nat):Int)),(7,.own 4 0 x1.1.length),(8,.int x1.2),(9,.own 5 0 ((List.replicate (((v2.length:Nat):Int).toNat) (0:Int)).length)),(16,.int ((v2.length:Nat):Int)),(17,.int x1.2)] [(0,⟨6,[eR a0]⟩),(1,⟨6,[eR a1]⟩),(2,⟨3,[gD]⟩),(3,⟨3,v1.map (ow eM)⟩),(4,⟨1,x1.1.map (ow (dQ 1 eI))⟩),(5,⟨1,List.map (ow eI) (List.replicate (((v2.length:Nat):Int).toNat) (0:Int))⟩)] 6) (bP (kT 7 k2 (gH ⟨_,k,⟨k,k,(by simp only [aH,lA,lT,lR,lC,lN]),k⟩⟩ (bG k2))) (bO k<|bO k<|bO k<|bW (aX.plainO _) k<|bW (cB.plainO _) k<|hX ⟨_,k,k,.inl ⟨aCt (e:=eI) (z:=0) _,cA.plainO _⟩⟩ k<|aQ) k4)<|sR<|am k k<|am k k<|oB h λv4 hv4 h=>ae (xo hv4 k) k<|ae (gL aJ kH (u:=1) (dF hv4) k k k k k k) k<|an<|tn<|aP fB<|am k k<|lp k8 ?_;exact lp k8<|am k k<|am k k<|oB h λv5 hv5 h=>ae (cL aX (aFo v1 ((List.replicate (((v2.length:Nat):Int).toNat) (0:Int)).set x1.2.toNat 1) v5 hv5) k3 (aL (tA aX k k) (aL (tA cA k (by first|rfl|simp only [List.length_set])) aO))) k<|oB h λv6 hv6 h=>ae (cL aX (aGz a0 a1 v5 v6 hv6) k3 (aL (eV k) (aL (eV k) (aL (tA aX k k) aO)))) k<|oB h λv7 hv7 h=>ae (cL cA (aEm v6 v7 hv7) k3 (aL (tA aX k k) aO)) k<|ae (wl k) k<|cG h λq8 h=>ae (fN aJ (l:=x1.1) (c:=[.own 8 0 v7.length]) q8 k k k k k k k k k k k k k k) k<|aa k k<|an<|lL (by kernel_rfl)<|bB<|tn<|aI (t:=mN [(2,.ptr 0 0 0),(3,.ptr 1 0 0),(4,.ptr 2 0 0),(5,.own 3 0 v1.length),(6,.int ((v2.length:Nat):Int)),(7,.own 10 0 ((x1.1++[v7]).length)),(16,.int ((v2.length:Nat):Int)),(17,.int x1.2)] [(0,⟨6,[eR a0]⟩),(1,⟨6,[eR a1]⟩),(2,⟨3,[gD]⟩),(3,⟨3,v1.map (ow eM)⟩),(10,⟨1,List.map (ow (dQ 1 eI)) (x1.1++[v7])⟩)] 11) (Ent.trans (dJ (b:=10) (b':=8) (j:=0) (es':=v7.map eI) k k k k (aH _ _) (cA.frzs _)) (bP (kT 5 k2 (gH ⟨_,k,⟨k,k,(by simp only [aH,lA,lT,lR,lC,lN]),k⟩⟩ (bG k2))) (bO k<|bO k<|bO k<|bW (aX.plainO _) k<|hX ⟨_,k,k,.inl ⟨fV v7 k,cB.plainO _⟩⟩ k<|aQ) k4))<|rg<|ae (bF k k) k<|am k k<|an<|tn<|sp h ⟨_,k,(gT [0,1,2,3,10] (bG k2) (bO k<|bO k<|bO k<|bW (aX.plainO _) k<|bW (cB.plainO _) k<|aQ) k4)⟩
 ·rintro e t ⟨rfl,hent⟩;exact aN<|tn<|aI hent<|sR<|lp k8<|lp k8<|oB h λv11 hv11 h=>ae (cL aX (aFY a0 a1 v11 hv11) k3 (aL (eV k) (aL (eV k) aO))) k<|oB h λv12 hv12 h=>ae (cL cA (aEm v11 v12 hv12) k3 (aL (tA aX k k) aO)) k<|ae (dR aJ k k k k) k<|am k k<|oB h λv13 hv13 h=>ae (cM (mB ((v12.length:Nat):Int) y10 v13 hv13) k3 (cJ k (aL (tA cB k k) aO))) k<|ae (ws k) k<|an<|tn<|aE<|sp h (bD k k k (iJ (aU (k) (aU (k) (aU (cW cA k k) fA)))))
def rN (a0:Int) (v1:(Mt×(List Int))) (x1:(Int×(List (List Int)))) (x2:((List Int)×Int)):Option (((List Int)×Int) ⊕ (List Int)):=
 bif decide (x2.2<((v1.2.length:Nat):Int)) then
 ((cY v1.2 x2.2).bind λv7=>
 (cY v1.1.cells (wr ((wr (x2.2*v1.1.cols))+x1.1))).bind λv8=>
 (gX a0 (wr (-v8))).bind λv9=>
 (cY x2.1 v7).bind λv10=>
 some (.inl ((x2.1.set v7.toNat v9),wr (x2.2+1))))
 else
 (some (.inr x2.1))
def rO (a0:Int) (v1:(Mt×(List Int))) (x1:(Int×(List (List Int)))):Option ((Int×(List (List Int))) ⊕ (List (List Int))):=
 bif decide (x1.1<v1.1.cols) then
 ((aBi v1.2 x1.1).bind λv3=>
 bif v3 then
 (some (.inl (wr (x1.1+1),x1.2)))
 else
 (bif (decide (0≤v1.1.cols)&&decide (v1.1.cols≤1048576)) then
 ((cY (List.replicate v1.1.cols.toNat (0:Int)) x1.1).bind λv5=>
 (Lp (rN a0 v1 x1) (((List.replicate v1.1.cols.toNat (0:Int)).set x1.1.toNat 1),0)).bind λy11=>
 bif decide (x1.2.length+1≤4294967296) then
 (some (.inl (wr (x1.1+1),(x1.2++[y11]))))
 else none)
 else none))
 else
 (some (.inr x1.2))
def sI (a0:Int) (a1:Mt):Option (List (List Int)):=
 (nF a0 a1).bind λv1=>
 (Lp (rO a0 v1) (0,([]:(List (List Int))))).bind λy14=>
 some (y14)
theorem aEN (a0:Int) (a1:Mt) (r:(List (List Int))) (h:sI a0 a1=some r):HasC Tryz.prog 173 [.int a0,.agg (eM a1)] (.list 1 (r.map (dQ 1 eI))):=by
 refine hM [.tmp 4] Tryz.func173 Tryz.ntmps173 k<|sR<|ae (wb k) k<|aT k2<|sR<|am k k<|lp k8<|oB h λv1 hv1 h=>ae (AEff.conv (jE (x:= .tuple [.agg [.int v1.1.rows,.int v1.1.cols,.own 1 0 (v1.1.cells.map eI).length],.own 2 0 (v1.2.map eI).length]) (nb:=[(1,⟨1,cF (v1.1.cells.map eI)⟩),(2,⟨1,cF (v1.2.map eI)⟩)]) (aBT a0 a1 v1 hv1) k (by rfl) k k (dE (bU aQ (bU aQ (bU (cA.good _) tC))) (dE (cA.good _) qD)) (cJ k (aL (eV k) aO))) (v':= .tuple [.agg [.int v1.1.rows,.int v1.1.cols,.own 1 0 v1.1.cells.length],.own 2 0 v1.2.length]) (ed':=[(1,some ⟨1,v1.1.cells.map (ow eI)⟩),(2,some ⟨1,v1.2.map (ow eI)⟩)]) (by simp only [aH]) (pE (nb':=[(1,⟨1,v1.1.cells.map (ow eI)⟩),(2,⟨1,v1.2.map (ow eI)⟩)]) (by simp only [dX]))) k<|am k k<|ae (bA k k (by intro _ h;cases h)) k<|ae (bA k k (by intro _ h;cases h)) k<|ae (bX aJ k k) k<|ae (ws k) k<|aT k2<|sR<|ae (wl k) k<|aT k2<|aI (t:=mN [(0,.int a0),(5,.ptr 3 0 0),(6,.own 2 0 v1.2.length),(7,.own 4 0 (([]:(List (List Int))).length))] [(1,⟨1,v1.1.cells.map (ow eI)⟩),(2,⟨1,v1.2.map (ow eI)⟩),(3,⟨3,[oMt v1.1 1]⟩),(4,⟨1,List.map (ow (dQ 1 eI)) ([]:(List (List Int)))⟩)] 5) (bP (kT 3 k2 (gH ⟨_,k,⟨k,k,(by simp only [aH,lA,lT,lR,lC,lN]),k⟩⟩ aQ)) (bN k<|bN k<|eJ k<|bW (cB.plainO _) k<|aQ) k4)<|sQ<|sR ?_;refine aT k2<|aD<|oB h λy14 hy14 h=>cC (body:=(rO a0 v1)) hy14 (λ(x1:(Int×(List (List Int))))=>mN [(0,.int a0),(5,.ptr 0 0 0),(6,.own 2 0 v1.2.length),(7,.own 3 0 x1.2.length),(8,.int x1.1)] [(0,⟨3,[oMt v1.1 1]⟩),(1,⟨1,v1.1.cells.map (ow eI)⟩),(2,⟨1,v1.2.map (ow eI)⟩),(3,⟨1,x1.2.map (ow (dQ 1 eI))⟩)] 4) (λr e t=>e= .exit 0∧Ent t (mN [(7,.own 0 0 r.length)] [(0,⟨1,r.map (ow (dQ 1 eI))⟩)] 1)) (gT [3,1,2,4] (bG k2) (eJ k<|bN k<|bN k<|bW (cB.plainO _) k<|aQ) k4) ?_ ?_
 ·intro x1 o h;refine sQ<|sR<|am k k<|fp k8<|lp k8<|cm k4<|an<|tn<|cN k h (λ_ h=>?_) λ_ h=>aY<|aB<|aB<|sp h ⟨_,k,k,(gT [3] (bG k2) (bW (cB.plainO _) k<|aQ) k4)⟩;refine aG<|tn<|sQ<|aD<|sQ<|sR<|am k k<|am k k<|oB h λv3 hv3 h=>ae (aS (aNL v1.2 x1.1 v3 hv3) k (vcT k k (cJ k aO))) k<|an<|tn<|cN k h (λ_ h=>aY<|aB<|aN<|tn<|rg<|am k k<|ae (bF k k) k<|aT k2<|sp h ⟨_,k,(bP (bG k2) (eJ k<|bN k<|bN k<|bW (cB.plainO _) k<|aQ) k4)⟩) λ_ h=>?_;refine aG<|tn<|sR<|fp k8<|lp k8<|cG h λq13 h=>ae (aCD aJ q13 k k k k k k k k) k<|aT k2<|aI (t:=mN [(0,.int a0),(5,.ptr 0 0 0),(6,.own 2 0 v1.2.length),(7,.own 3 0 x1.2.length),(8,.int x1.1),(9,.own 4 0 ((List.replicate v1.1.cols.toNat (0:Int)).length))] [(0,⟨3,[oMt v1.1 1]⟩),(1,⟨1,v1.1.cells.map (ow eI)⟩),(2,⟨1,v1.2.map (ow eI)⟩),(3,⟨1,x1.2.map (ow (dQ 1 eI))⟩),(4,⟨1,List.map (ow eI) (List.replicate v1.1.cols.toNat (0:Int))⟩)] 5) (bP (kT 5 k2 (gH ⟨_,k,⟨k,k,(by simp only [aH,lA,lT,lR,lC,lN]),k⟩⟩ aQ)) (eJ k<|bN k<|bN k<|bW (cB.plainO _) k<|hX ⟨_,k,k,.inl ⟨aCt (e:=eI) (z:=0) _,cA.plainO _⟩⟩ k<|aQ) k4)<|sR<|am k k<|am k k<|oB h λv5 hv5 h=>ae (xo hv5 k) k<|ae (gL aJ kH (u:=1) (dF hv5) k k k k k k) k<|an<|tn<|sQ<|sR<|aT k2<|aD<|oB h λy11 hy11 h=>cC (body:=(rN a0 v1 x1)) hy11 (λ(x2:((List Int)×Int))=>mN [(0,.int a0),(5,.ptr 0 0 0),(6,.own 2 0 v1.2.length),(7,.own 3 0 x1.2.length),(8,.int x1.1),(9,.own 4 0 x2.1.length),(10,.int x2.2)] [(0,⟨3,[oMt v1.1 1]⟩),(1,⟨1,v1.1.cells.map (ow eI)⟩),(2,⟨1,v1.2.map (ow eI)⟩),(3,⟨1,x1.2.map (ow (dQ 1 eI))⟩),(4,⟨1,x2.1.map (ow eI)⟩)] 5) (λr e t=>e= .exit 2∧Ent t (mN [(0,.int a0),(5,.ptr 0 0 0),(6,.own 2 0 v1.2.length),(7,.own 3 0 x1.2.length),(8,.int x1.1),(9,.own 4 0 r.length)] [(0,⟨3,[oMt v1.1 1]⟩),(1,⟨1,v1.1.cells.map (ow eI)⟩),(2,⟨1,v1.2.map (ow eI)⟩),(3,⟨1,x1.2.map (ow (dQ 1 eI))⟩),(4,⟨1,r.map (ow eI)⟩)] 5)) (bP (kT 5 k2 (gH ⟨_,k,⟨k,k,(by simp only [aH,lA,lT,lR,lC,lN]),k⟩⟩ (bG k2))) (eJ k<|bN k<|bN k<|bW (cB.plainO _) k<|bN k<|aQ) k4) ?_ ?_
  ·intro x2 o h;refine sQ<|sR<|am k k<|am k k<|ae (dR aJ k k k k) k<|cm k4<|an<|tn<|cN k h (λ_ h=>?_) λ_ h=>aY<|aB<|aB<|sp h ⟨_,k,k,(bP (bG k2) (eJ k<|bN k<|bN k<|bW (cB.plainO _) k<|bN k<|aQ) k4)⟩;refine aG<|tn<|sQ<|aD<|aP fB<|am k k<|am k k<|am k k<|oB h λv7 hv7 h=>ae (xo hv7 k) k<|ae (wp hv7 k) k<|am k k<|fp k8<|lp k8<|am k k<|fp k8<|lp k8<|ae (fP k k) k<|am k k<|ae (bF k k) k<|oB h λv8 hv8 h=>ae (xo hv8 k) k<|ae (wp hv8 k) k<|ae (aXl k) k<|oB h λv9 hv9 h=>ae (aS (kU a0 (wr (-v8)) v9 hv9) k (cJ k (cJ k aO))) k<|oB h λv10 hv10 h=>ae (xo hv10 k) k<|ae (gL aJ kH (u:=v9) (dF hv10) k k k k k k) k<|an<|lL (by kernel_rfl)<|bB<|tn ?_;exact aI (t:=mN [(0,.int a0),(5,.ptr 0 0 0),(6,.own 2 0 v1.2.length),(7,.own 3 0 x1.2.length),(8,.int x1.1),(9,.own 4 0 ((x2.1.set v7.toNat v9).length)),(10,.int x2.2)] [(0,⟨3,[oMt v1.1 1]⟩),(1,⟨1,v1.1.cells.map (ow eI)⟩),(2,⟨1,v1.2.map (ow eI)⟩),(3,⟨1,x1.2.map (ow (dQ 1 eI))⟩),(4,⟨1,List.map (ow eI) (x2.1.set v7.toNat v9)⟩)] 5) (bP (kT 5 k2 (gH ⟨_,k,⟨k,k,(by simp only [aH,lA,lT,lR,lC,lN]),k⟩⟩ (bG k2))) (eJ k<|bN k<|bN k<|bW (cB.plainO _) k<|bN k<|aQ) k4)<|rg<|am k k<|ae (bF k k) k<|aT k2<|sp h ⟨_,k,(bP (bG k2) (eJ k<|bN k<|bN k<|bW (cB.plainO _) k<|bN k<|aQ) k4)⟩
  ·rintro e t ⟨rfl,hent⟩;exact aN<|tn<|aI hent<|rg<|am k k<|am k k<|ae (wl k) k<|cG h λq12 h=>ae (fN aJ (l:=x1.2) (c:=[.own 4 0 y11.length]) q12 k k k k k k k k k k k k k k) k<|aa k k<|an<|bB<|tn<|aI (t:=mN [(0,.int a0),(5,.ptr 0 0 0),(6,.own 2 0 v1.2.length),(7,.own 6 0 ((x1.2++[y11]).length)),(8,.int x1.1)] [(0,⟨3,[oMt v1.1 1]⟩),(1,⟨1,v1.1.cells.map (ow eI)⟩),(2,⟨1,v1.2.map (ow eI)⟩),(6,⟨1,List.map (ow (dQ 1 eI)) (x1.2++[y11])⟩)] 7) (Ent.trans (dJ (b:=6) (b':=4) (j:=0) (es':=y11.map eI) k k k k (aH _ _) (cA.frzs _)) (bP (kT 3 k2 (gH ⟨_,k,⟨k,k,(by simp only [aH,lA,lT,lR,lC,lN]),k⟩⟩ (bG k2))) (eJ k<|bN k<|bN k<|hX ⟨_,k,k,.inl ⟨fV y11 k,cB.plainO _⟩⟩ k<|aQ) k4))<|rg<|am k k<|ae (bF k k) k<|aT k2<|sp h ⟨_,k,(gT [0,1,2,6] (bG k2) (eJ k<|bN k<|bN k<|bW (cB.plainO _) k<|aQ) k4)⟩
 ·rintro e t ⟨rfl,hent⟩;exact aN<|tn<|aI hent<|sR<|am k k<|aT k2<|aE<|sp h (bD k k k (fH (cW cB k k)))
def xZ (a0:Rp) (a1:Rp) (a2:Int) (x1:(Int×Int)):Option ((Int×Int) ⊕ Int):=
 bif decide (x1.2<a2) then
 ((cY a0.dims x1.2).bind λv2=>
 (cY a1.dims x1.2).bind λv3=>
 some (.inl (wr (x1.1+(wr (v2*v3))),wr (x1.2+1))))
 else
 (some (.inr x1.1))
def aAE (a0:Rp) (a1:Rp) (a2:Int):Option Int:=
 (Lp (xZ a0 a1 a2) (0,0)).bind λy4=>
 some (y4)
theorem aHB (a0:Rp) (a1:Rp) (a2:Int) (r:Int) (h:aAE a0 a1 a2=some r):HasC Tryz.prog 209 [.agg (eR a0),.agg (eR a1),.int a2] (.int r):=by
 refine hM [.tmp 6] Tryz.func209 Tryz.ntmps209 k<|sR<|ae (wb k) k<|ae (wb k) k<|aT k2<|sR<|aT k2<|sQ<|sR<|aT k2<|aD<|oB h λy4 hy4 h=>cC (body:=(xZ a0 a1 a2)) hy4 (λ(x1:(Int×Int))=>mN [(2,.int a2),(3,.ptr 0 0 0),(4,.ptr 1 0 0),(7,.int x1.1),(8,.int x1.2)] [(0,⟨6,[eR a0]⟩),(1,⟨6,[eR a1]⟩)] 2) (λr e t=>e= .exit 0∧Ent t (mN [(7,.int r)] [] 0)) (bP (bG k2) (bO k<|bO k<|aQ) k4) ?_ ?_
 ·intro x1 o h;exact sQ<|sR<|am k k<|am k k<|cm k4<|an<|tn<|cN k h (λ_ h=>aG<|tn<|sQ<|aD<|aP fB<|am k k<|fp k8<|lp k8<|am k k<|oB h λv2 hv2 h=>ae (xl hv2 k) k<|lr k7<|fp k8<|lp k8<|am k k<|oB h λv3 hv3 h=>ae (xl hv3 k) k<|lr k7<|ae (fP k k) k<|ae (bF k k) k<|aa k k<|an<|lL (by kernel_rfl)<|bB<|tn<|rg<|am k k<|ae (bF k k) k<|aT k2<|sp h ⟨_,k,(bP (bG k2) (bO k<|bO k<|aQ) k4)⟩) λ_ h=>aY<|aB<|aB<|sp h ⟨_,k,k,(bP (bG k2) aQ k4)⟩
 ·rintro e t ⟨rfl,hent⟩;exact aN<|tn<|aI hent<|sR<|am k k<|aT k2<|aE<|rtI h k2
def tL (a0:Rp) (a1:Rp) (x1:(Int×Int)):Option ((Int×Int) ⊕ Int):=
 bif decide (x1.2<(a0.dims.length:Int)) then
 ((cY a0.dims x1.2).bind λv2=>
 (cY a1.dims x1.2).bind λv3=>
 some (.inl (wr (x1.1+(wr (v2*v3))),wr (x1.2+1))))
 else
 (some (.inr x1.1))
def uR (a0:Rp) (a1:Rp):Option Int:=
 (Lp (tL a0 a1) (0,0)).bind λy4=>
 some (y4)
theorem aEn (a0:Rp) (a1:Rp) (r:Int) (h:uR a0 a1=some r):HasC Tryz.prog 208 [.agg (eR a0),.agg (eR a1)] (.int r):=by
 refine hM [.tmp 4] Tryz.func208 Tryz.ntmps208 k<|sR<|ae (wb k) k<|ae (wb k) k<|aT k2<|sR<|aT k2<|sQ<|sR<|aT k2<|aD<|oB h λy4 hy4 h=>cC (body:=(tL a0 a1)) hy4 (λ(x1:(Int×Int))=>mN [(2,.ptr 0 0 0),(3,.ptr 1 0 0),(5,.int x1.1),(6,.int x1.2)] [(0,⟨6,[eR a0]⟩),(1,⟨6,[eR a1]⟩)] 2) (λr e t=>e= .exit 0∧Ent t (mN [(5,.int r)] [] 0)) (bP (bG k2) (bO k<|bO k<|aQ) k4) ?_ ?_
 ·intro x1 o h;exact sQ<|sR<|am k k<|fp k8<|lp k8<|ln k4<|cm k4<|an<|tn<|cN k h (λ_ h=>aG<|tn<|sQ<|aD<|aP fB<|am k k<|fp k8<|lp k8<|am k k<|oB h λv2 hv2 h=>ae (xl hv2 k) k<|lr k7<|fp k8<|lp k8<|am k k<|oB h λv3 hv3 h=>ae (xl hv3 k) k<|lr k7<|ae (fP k k) k<|ae (bF k k) k<|aa k k<|an<|lL (by kernel_rfl)<|bB<|tn<|rg<|am k k<|ae (bF k k) k<|aT k2<|sp h ⟨_,k,(bP (bG k2) (bO k<|bO k<|aQ) k4)⟩) λ_ h=>aY<|aB<|aB<|sp h ⟨_,k,k,(bP (bG k2) aQ k4)⟩
 ·rintro e t ⟨rfl,hent⟩;exact aN<|tn<|aI hent<|sR<|am k k<|aT k2<|aE<|rtI h k2
def iR (a0:Rp) (a1:Rp) (v3:Int) (x1:(Int×(List Int)×Int)) (x2:(Int×(List Int)×Int)) (x3:(Int×(List Int)×Int)) (x4:((List Int)×Int)):Option (((List Int)×Int) ⊕ (List Int)):=
 (cY a1.dims v3).bind λv9=>
 bif decide (x4.2<v9) then
 ((aAE a0 a1 v3).bind λv11=>
 (cY a0.dims v3).bind λv12=>
 (cY x4.1 (wr ((wr (v11+(wr (x4.2*v12))))+x3.2.2))).bind λv13=>
 (cY a1.maps x1.2.2).bind λv14=>
 (cY a1.dims v3).bind λv15=>
 (cY v14.cells (wr ((wr (x2.2.2*v15))+x4.2))).bind λv16=>
 (gX a0.p (wr (v13+v16))).bind λv17=>
 (cY x4.1 (wr ((wr (v11+(wr (x4.2*v12))))+x3.2.2))).bind λv18=>
 some (.inl ((x4.1.set ((wr ((wr (v11+(wr (x4.2*v12))))+x3.2.2)).toNat) v17),wr (x4.2+1))))
 else
 (some (.inr x4.1))
def iT (a0:Rp) (a1:Rp) (v3:Int) (v4:Int) (x1:(Int×(List Int)×Int)) (x2:(Int×(List Int)×Int)) (x3:(Int×(List Int)×Int)) (x5:((List Int)×Int)):Option (((List Int)×Int) ⊕ (List Int)):=
 (cY a0.dims v4).bind λv20=>
 bif decide (x5.2<v20) then
 ((aAE a0 a1 v4).bind λv22=>
 (cY a0.dims v4).bind λv23=>
 (cY x5.1 (wr ((wr (v22+(wr (x2.2.2*v23))))+x5.2))).bind λv24=>
 (cY a0.maps x1.2.2).bind λv25=>
 (cY a0.dims v3).bind λv26=>
 (cY v25.cells (wr ((wr (x5.2*v26))+x3.2.2))).bind λv27=>
 (gX a0.p (wr (v24 - v27))).bind λv28=>
 (cY x5.1 (wr ((wr (v22+(wr (x2.2.2*v23))))+x5.2))).bind λv29=>
 some (.inl ((x5.1.set ((wr ((wr (v22+(wr (x2.2.2*v23))))+x5.2)).toNat) v28),wr (x5.2+1))))
 else
 (some (.inr x5.1))
def kW (a0:Rp) (a1:Rp) (v1:Int) (v3:Int) (v4:Int) (x1:(Int×(List Int)×Int)) (x2:(Int×(List Int)×Int)) (x3:(Int×(List Int)×Int)):Option ((Int×(List Int)×Int) ⊕ (Int×(List Int))):=
 (cY a0.dims v3).bind λv7=>
 bif decide (x3.2.2<v7) then
 (bif (decide (0≤v1)&&decide (v1≤1048576)) then
 ((Lp (iR a0 a1 v3 x1 x2 x3) ((List.replicate v1.toNat (0:Int)),0)).bind λy19=>
 (Lp (iT a0 a1 v3 v4 x1 x2 x3) (y19,0)).bind λy30=>
 bif decide (x3.2.1.length+y30.length≤4294967296) then
 (some (.inl (wr (x3.1+1),(x3.2.1++y30),wr (x3.2.2+1))))
 else none)
 else none)
 else
 (some (.inr (x3.1,x3.2.1)))
def kX (a0:Rp) (a1:Rp) (v1:Int) (v3:Int) (v4:Int) (x1:(Int×(List Int)×Int)) (x2:(Int×(List Int)×Int)):Option ((Int×(List Int)×Int) ⊕ (Int×(List Int))):=
 (cY a1.dims v4).bind λv5=>
 bif decide (x2.2.2<v5) then
 ((Lp (kW a0 a1 v1 v3 v4 x1 x2) (x2.1,x2.2.1,0)).bind λy33=>
 some (.inl (y33.1,y33.2,wr (x2.2.2+1))))
 else
 (some (.inr (x2.1,x2.2.1)))
def kY (a0:Rp) (a1:Rp) (v1:Int) (x1:(Int×(List Int)×Int)):Option ((Int×(List Int)×Int) ⊕ (Int×(List Int))):=
 bif decide (x1.2.2<(a0.maps.length:Int)) then
 ((cY a0.q.src x1.2.2).bind λv3=>
 (cY a0.q.tgt x1.2.2).bind λv4=>
 (Lp (kX a0 a1 v1 v3 v4 x1) (x1.1,x1.2.1,0)).bind λy34=>
 some (.inl (y34.1,y34.2,wr (x1.2.2+1))))
 else
 (some (.inr (x1.1,x1.2.1)))
def pM (a0:Rp) (a1:Rp):Option Mt:=
 (uR a0 a1).bind λv1=>
 (Lp (kY a0 a1 v1) (0,([]:(List Int)),0)).bind λy35=>
 some ((⟨y35.1,v1,y35.2⟩:Mt))
theorem aFZ (a0:Rp) (a1:Rp) (r:Mt) (h:pM a0 a1=some r):HasC Tryz.prog 174 [.agg (eR a0),.agg (eR a1)] (.agg (eM r)):=by
 refine hM [.cell 4 91] Tryz.func174 Tryz.ntmps174 k<|sR<|ae (wb k) k<|ae (wb k) k<|ae (bX aJ k k) k<|an<|tn<|sR<|lp k8<|lp k8<|oB h λv1 hv1 h=>ae (aS (aEn a0 a1 v1 hv1) k (aL (eV k) (aL (eV k) aO))) k<|aT k2<|sR<|am k k<|ae (wl k) k<|ae (fW aJ k k k k k k) k<|ae (bX aJ k k) k<|ae (ws k) k<|an<|tn<|aI (t:=mN [(2,.ptr 0 0 0),(3,.ptr 1 0 0),(4,.ptr 2 0 0),(5,.int v1),(6,.ptr 4 0 0)] [(0,⟨6,[eR a0]⟩),(1,⟨6,[eR a1]⟩),(2,⟨3,[gD]⟩),(3,⟨1,List.map (ow eI) ([]:(List Int))⟩),(4,⟨3,[[.int 0,.int v1,.own 3 0 (([]:(List Int)).length)]]⟩)] 5) (bP (bG k2) (bO k<|bO k<|bO k<|bN k<|hX ⟨_,k,k,.inr ⟨_,_,k,⟨_,_,k,k,⟨_,_,k,k,⟨_,_,k,⟨k,k,(by simp only [aH,lA,lT,lR,lC,lN]),k⟩,k⟩⟩⟩,k⟩⟩ k<|aQ) k4)<|sQ<|sR<|aa k k ?_;refine an<|tn<|aD<|oB h λy35 hy35 h=>cC (body:=(kY a0 a1 v1)) hy35 (λ(x1:(Int×(List Int)×Int))=>mN [(2,.ptr 0 0 0),(3,.ptr 1 0 0),(4,.ptr 2 0 0),(5,.int v1),(6,.ptr 3 0 0),(7,.int x1.2.2)] [(0,⟨6,[eR a0]⟩),(1,⟨6,[eR a1]⟩),(2,⟨3,[gD]⟩),(3,⟨3,[[.int x1.1,.int v1,.own 4 0 x1.2.1.length]]⟩),(4,⟨1,x1.2.1.map (ow eI)⟩)] 5) (λr e t=>e= .exit 0∧Ent t (mN [(4,.ptr 0 0 0),(6,.ptr 1 0 0)] [(0,⟨3,[gD]⟩),(1,⟨3,[[.int r.1,.int v1,.own 2 0 r.2.length]]⟩),(2,⟨1,r.2.map (ow eI)⟩)] 3)) (gT [0,1,2,4,3] (bG k2) (bO k<|bO k<|bO k<|eJ k<|bN k<|aQ) k4) ?_ ?_
 ·intro x1 o h;refine sQ<|sR<|am k k<|fp k8<|lp k8<|ln k4<|cm k4<|an<|tn<|cN k h (λ_ h=>?_) λ_ h=>aY<|aB<|aB<|sp h ⟨_,k,k,(gT [2,3,4] (bG k2) (bO k<|eJ k<|bN k<|aQ) k4)⟩;refine aG<|tn<|sQ<|aD<|sR<|fp k8<|fp k8<|lp k8<|am k k<|oB h λv3 hv3 h=>ae (xl hv3 k) k<|lr k7<|aT k2<|sR<|fp k8<|fp k8<|lp k8<|am k k<|oB h λv4 hv4 h=>ae (xl hv4 k) k<|lr k7<|aT k2<|sR<|aa k k ?_;refine an<|tn<|aD<|oB h λy34 hy34 h=>cC (body:=(kX a0 a1 v1 v3 v4 x1)) hy34 (λ(x2:(Int×(List Int)×Int))=>mN [(2,.ptr 0 0 0),(3,.ptr 1 0 0),(4,.ptr 2 0 0),(5,.int v1),(6,.ptr 3 0 0),(7,.int x1.2.2),(8,.int v3),(9,.int v4),(10,.int x2.2.2)] [(0,⟨6,[eR a0]⟩),(1,⟨6,[eR a1]⟩),(2,⟨3,[gD]⟩),(3,⟨3,[[.int x2.1,.int v1,.own 4 0 x2.2.1.length]]⟩),(4,⟨1,x2.2.1.map (ow eI)⟩)] 5) (λr e t=>e= .exit 2∧Ent t (mN [(2,.ptr 0 0 0),(3,.ptr 1 0 0),(4,.ptr 2 0 0),(5,.int v1),(6,.ptr 3 0 0),(7,.int x1.2.2)] [(0,⟨6,[eR a0]⟩),(1,⟨6,[eR a1]⟩),(2,⟨3,[gD]⟩),(3,⟨3,[[.int r.1,.int v1,.own 4 0 r.2.length]]⟩),(4,⟨1,r.2.map (ow eI)⟩)] 5)) (bP (bG k2) (bO k<|bO k<|bO k<|eJ k<|bN k<|aQ) k4) ?_ ?_
  ·intro x2 o h;refine sQ<|sR<|am k k<|fp k8<|lp k8<|am k k<|oB h λv5 hv5 h=>ae (xl hv5 k) k<|lr k7<|cm k4<|an<|tn<|cN k h (λ_ h=>?_) λ_ h=>aY<|aB<|aB<|sp h ⟨_,k,k,(bP (bG k2) (bO k<|bO k<|bO k<|eJ k<|bN k<|aQ) k4)⟩;refine aG<|tn<|sQ<|aD<|sR<|aT k2<|aD<|oB h λy33 hy33 h=>cC (body:=(kW a0 a1 v1 v3 v4 x1 x2)) hy33 (λ(x3:(Int×(List Int)×Int))=>mN [(2,.ptr 0 0 0),(3,.ptr 1 0 0),(4,.ptr 2 0 0),(5,.int v1),(6,.ptr 3 0 0),(7,.int x1.2.2),(8,.int v3),(9,.int v4),(10,.int x2.2.2),(11,.int x3.2.2)] [(0,⟨6,[eR a0]⟩),(1,⟨6,[eR a1]⟩),(2,⟨3,[gD]⟩),(3,⟨3,[[.int x3.1,.int v1,.own 4 0 x3.2.1.length]]⟩),(4,⟨1,x3.2.1.map (ow eI)⟩)] 5) (λr e t=>e= .exit 4∧Ent t (mN [(2,.ptr 0 0 0),(3,.ptr 1 0 0),(4,.ptr 2 0 0),(5,.int v1),(6,.ptr 3 0 0),(7,.int x1.2.2),(8,.int v3),(9,.int v4),(10,.int x2.2.2)] [(0,⟨6,[eR a0]⟩),(1,⟨6,[eR a1]⟩),(2,⟨3,[gD]⟩),(3,⟨3,[[.int r.1,.int v1,.own 4 0 r.2.length]]⟩),(4,⟨1,r.2.map (ow eI)⟩)] 5)) (bP (bG k2) (bO k<|bO k<|bO k<|eJ k<|bN k<|aQ) k4) ?_ ?_
   ·intro x3 o h;refine sQ<|sR<|am k k<|fp k8<|lp k8<|am k k<|oB h λv7 hv7 h=>ae (xl hv7 k) k<|lr k7<|cm k4<|an<|tn<|cN k h (λ_ h=>?_) λ_ h=>aY<|aB<|aB<|sp h ⟨_,k,k,(bP (bG k2) (bO k<|bO k<|bO k<|eJ k<|bN k<|aQ) k4)⟩;refine aG<|tn<|sQ<|aD<|sR<|am k k<|cG h λq32 h=>ae (aCD aJ q32 k k k k k k k k) k<|aT k2<|aI (t:=mN [(2,.ptr 0 0 0),(3,.ptr 1 0 0),(4,.ptr 2 0 0),(5,.int v1),(6,.ptr 3 0 0),(7,.int x1.2.2),(8,.int v3),(9,.int v4),(10,.int x2.2.2),(11,.int x3.2.2),(12,.own 5 0 ((List.replicate v1.toNat (0:Int)).length))] [(0,⟨6,[eR a0]⟩),(1,⟨6,[eR a1]⟩),(2,⟨3,[gD]⟩),(3,⟨3,[[.int x3.1,.int v1,.own 4 0 x3.2.1.length]]⟩),(4,⟨1,x3.2.1.map (ow eI)⟩),(5,⟨1,List.map (ow eI) (List.replicate v1.toNat (0:Int))⟩)] 6) (bP (kT 10 k2 (gH ⟨_,k,⟨k,k,(by simp only [aH,lA,lT,lR,lC,lN]),k⟩⟩ aQ)) (bO k<|bO k<|bO k<|eJ k<|bN k<|hX ⟨_,k,k,.inl ⟨aCt (e:=eI) (z:=0) _,cA.plainO _⟩⟩ k<|aQ) k4)<|sQ<|sR<|aT k2<|aD<|oB h λy19 hy19 h=>cC (body:=(iR a0 a1 v3 x1 x2 x3)) hy19 (λ(x4:((List Int)×Int))=>mN [(2,.ptr 0 0 0),(3,.ptr 1 0 0),(4,.ptr 2 0 0),(5,.int v1),(6,.ptr 3 0 0),(7,.int x1.2.2),(8,.int v3),(9,.int v4),(10,.int x2.2.2),(11,.int x3.2.2),(12,.own 5 0 x4.1.length),(13,.int x4.2)] [(0,⟨6,[eR a0]⟩),(1,⟨6,[eR a1]⟩),(2,⟨3,[gD]⟩),(3,⟨3,[[.int x3.1,.int v1,.own 4 0 x3.2.1.length]]⟩),(4,⟨1,x3.2.1.map (ow eI)⟩),(5,⟨1,x4.1.map (ow eI)⟩)] 6) (λr e t=>e= .exit 6∧Ent t (mN [(2,.ptr 0 0 0),(3,.ptr 1 0 0),(4,.ptr 2 0 0),(5,.int v1),(6,.ptr 3 0 0),(7,.int x1.2.2),(8,.int v3),(9,.int v4),(10,.int x2.2.2),(11,.int x3.2.2),(12,.own 5 0 r.length)] [(0,⟨6,[eR a0]⟩),(1,⟨6,[eR a1]⟩),(2,⟨3,[gD]⟩),(3,⟨3,[[.int x3.1,.int v1,.own 4 0 x3.2.1.length]]⟩),(4,⟨1,x3.2.1.map (ow eI)⟩),(5,⟨1,r.map (ow eI)⟩)] 6)) (bP (bG k2) (bO k<|bO k<|bO k<|eJ k<|bN k<|bN k<|aQ) k4) ?_ ?_
    ·intro x4 o h;refine sQ<|sR<|am k k<|fp k8<|lp k8<|am k k<|oB h λv9 hv9 h=>ae (xl hv9 k) k<|lr k7<|cm k4<|an<|tn<|cN k h (λ_ h=>?_) λ_ h=>aY<|aB<|aB<|sp h ⟨_,k,k,(bP (bG k2) (bO k<|bO k<|bO k<|eJ k<|bN k<|bN k<|aQ) k4)⟩;refine aG<|tn<|sQ<|aD<|sQ<|aP fB<|lp k8<|lp k8<|am k k<|oB h λv11 hv11 h=>ae (aS (aHB a0 a1 v3 v11 hv11) k (aL (eV k) (aL (eV k) (cJ k aO)))) k<|am k k<|fp k8<|lp k8<|am k k<|oB h λv12 hv12 h=>ae (xl hv12 k) k<|lr k7<|ae (fP k k) k<|ae (bF k k) k<|am k k<|ae (bF k k) k<|aa k k<|an<|lL (by kernel_rfl)<|tn<|aP fB<|am k k<|am k k<|fp k8<|lp k8 ?_;refine am k k<|am k k<|oB h λv13 hv13 h=>ae (xo hv13 k) k<|ae (wp hv13 k) k<|fp k8<|lp k8<|am k k<|oB h λv14 hv14 h=>ae (xl hv14 k) k<|ae (dG aJ k k k k k k) k<|lr k7<|am k k<|fp k8<|lp k8<|am k k<|oB h λv15 hv15 h=>ae (xl hv15 k) k<|lr k7<|ae (fP k k) k<|am k k<|ae (bF k k) k<|oB h λv16 hv16 h=>ae (xl hv16 k) k<|lr k7<|ae (bF k k) k<|oB h λv17 hv17 h=>ae (aS (kU a0.p (wr (v13+v16)) v17 hv17) k (cJ k (cJ k aO))) k<|oB h λv18 hv18 h=>ae (xo hv18 k) k<|ae (gL aJ kH (u:=v17) (dF hv18) k k k k k k) k<|an<|lL (by kernel_rfl)<|bB<|tn<|aI (t:=mN [(2,.ptr 0 0 0),(3,.ptr 1 0 0),(4,.ptr 2 0 0),(5,.int v1),(6,.ptr 3 0 0),(7,.int x1.2.2),(8,.int v3),(9,.int v4),(10,.int x2.2.2),(11,.int x3.2.2),(12,.own 5 0 ((x4.1.set ((wr ((wr (v11+(wr (x4.2*v12))))+x3.2.2)).toNat) v17).length)),(13,.int x4.2)] [(0,⟨6,[eR a0]⟩),(1,⟨6,[eR a1]⟩),(2,⟨3,[gD]⟩),(3,⟨3,[[.int x3.1,.int v1,.own 4 0 x3.2.1.length]]⟩),(4,⟨1,x3.2.1.map (ow eI)⟩),(5,⟨1,List.map (ow eI) (x4.1.set ((wr ((wr (v11+(wr (x4.2*v12))))+x3.2.2)).toNat) v17)⟩)] 6) (bP (kT 10 k2 (gH ⟨_,k,⟨k,k,(by simp only [aH,lA,lT,lR,lC,lN]),k⟩⟩ (bG k2))) (bO k<|bO k<|bO k<|eJ k<|bN k<|bN k<|aQ) k4) ?_;exact rg<|am k k<|ae (bF k k) k<|aT k2<|sp h ⟨_,k,(bP (bG k2) (bO k<|bO k<|bO k<|eJ k<|bN k<|bN k<|aQ) k4)⟩
    ·rintro e t ⟨rfl,hent⟩;refine aN<|tn<|aI hent<|sQ<|sR<|aT k2<|aD<|oB h λy30 hy30 h=>cC (body:=(iT a0 a1 v3 v4 x1 x2 x3)) hy30 (λ(x5:((List Int)×Int))=>mN [(2,.ptr 0 0 0),(3,.ptr 1 0 0),(4,.ptr 2 0 0),(5,.int v1),(6,.ptr 3 0 0),(7,.int x1.2.2),(8,.int v3),(9,.int v4),(10,.int x2.2.2),(11,.int x3.2.2),(12,.own 5 0 x5.1.length),(15,.int x5.2)] [(0,⟨6,[eR a0]⟩),(1,⟨6,[eR a1]⟩),(2,⟨3,[gD]⟩),(3,⟨3,[[.int x3.1,.int v1,.own 4 0 x3.2.1.length]]⟩),(4,⟨1,x3.2.1.map (ow eI)⟩),(5,⟨1,x5.1.map (ow eI)⟩)] 6) (λr e t=>e= .exit 8∧Ent t (mN [(2,.ptr 0 0 0),(3,.ptr 1 0 0),(4,.ptr 2 0 0),(5,.int v1),(6,.ptr 3 0 0),(7,.int x1.2.2),(8,.int v3),(9,.int v4),(10,.int x2.2.2),(11,.int x3.2.2),(12,.own 5 0 r.length)] [(0,⟨6,[eR a0]⟩),(1,⟨6,[eR a1]⟩),(2,⟨3,[gD]⟩),(3,⟨3,[[.int x3.1,.int v1,.own 4 0 x3.2.1.length]]⟩),(4,⟨1,x3.2.1.map (ow eI)⟩),(5,⟨1,r.map (ow eI)⟩)] 6)) (bP (bG k2) (bO k<|bO k<|bO k<|eJ k<|bN k<|bN k<|aQ) k4) ?_ ?_
     ·intro x5 o h;refine sQ<|sR<|am k k<|fp k8<|lp k8<|am k k<|oB h λv20 hv20 h=>ae (xl hv20 k) k<|lr k7<|cm k4<|an<|tn<|cN k h (λ_ h=>?_) λ_ h=>aY<|aB<|aB<|sp h ⟨_,k,k,(bP (bG k2) (bO k<|bO k<|bO k<|eJ k<|bN k<|bN k<|aQ) k4)⟩;refine aG<|tn<|sQ<|aD<|sQ<|aP fB<|lp k8<|lp k8<|am k k<|oB h λv22 hv22 h=>ae (aS (aHB a0 a1 v4 v22 hv22) k (aL (eV k) (aL (eV k) (cJ k aO)))) k<|am k k<|fp k8<|lp k8<|am k k<|oB h λv23 hv23 h=>ae (xl hv23 k) k<|lr k7<|ae (fP k k) k<|ae (bF k k) k<|am k k<|ae (bF k k) k<|aa k k<|an<|lL (by kernel_rfl)<|tn<|aP fB<|am k k<|am k k<|fp k8<|lp k8 ?_;refine am k k<|am k k<|oB h λv24 hv24 h=>ae (xo hv24 k) k<|ae (wp hv24 k) k<|fp k8<|lp k8<|am k k<|oB h λv25 hv25 h=>ae (xl hv25 k) k<|ae (dG aJ k k k k k k) k<|lr k7<|am k k<|fp k8<|lp k8<|am k k<|oB h λv26 hv26 h=>ae (xl hv26 k) k<|lr k7<|ae (fP k k) k<|am k k<|ae (bF k k) k<|oB h λv27 hv27 h=>ae (xl hv27 k) k<|lr k7<|ae (wS k k) k<|oB h λv28 hv28 h=>ae (aS (kU a0.p (wr (v24 - v27)) v28 hv28) k (cJ k (cJ k aO))) k<|oB h λv29 hv29 h=>ae (xo hv29 k) k<|ae (gL aJ kH (u:=v28) (dF hv29) k k k k k k) k<|an<|lL (by kernel_rfl)<|bB<|tn<|aI (t:=mN [(2,.ptr 0 0 0),(3,.ptr 1 0 0),(4,.ptr 2 0 0),(5,.int v1),(6,.ptr 3 0 0),(7,.int x1.2.2),(8,.int v3),(9,.int v4),(10,.int x2.2.2),(11,.int x3.2.2),(12,.own 5 0 ((x5.1.set ((wr ((wr (v22+(wr (x2.2.2*v23))))+x5.2)).toNat) v28).length)),(15,.int x5.2)] [(0,⟨6,[eR a0]⟩),(1,⟨6,[eR a1]⟩),(2,⟨3,[gD]⟩),(3,⟨3,[[.int x3.1,.int v1,.own 4 0 x3.2.1.length]]⟩),(4,⟨1,x3.2.1.map (ow eI)⟩),(5,⟨1,List.map (ow eI) (x5.1.set ((wr ((wr (v22+(wr (x2.2.2*v23))))+x5.2)).toNat) v28)⟩)] 6) (bP (kT 10 k2 (gH ⟨_,k,⟨k,k,(by simp only [aH,lA,lT,lR,lC,lN]),k⟩⟩ (bG k2))) (bO k<|bO k<|bO k<|eJ k<|bN k<|bN k<|aQ) k4) ?_;exact rg<|am k k<|ae (bF k k) k<|aT k2<|sp h ⟨_,k,(bP (bG k2) (bO k<|bO k<|bO k<|eJ k<|bN k<|bN k<|aQ) k4)⟩
     ·rintro e t ⟨rfl,hent⟩;exact aN<|tn<|aI hent<|sR<|fp k8<|lp k8<|ae (bF k k) k<|fp k8<|ae (ws k) k<|an<|tn<|rg<|fp k8<|lp k8<|am k k<|cG h λq31 h=>ae (qV aJ (l:=x3.2.1) (m:=y30) kH q31 k k k k k (aTo cA k k) k k k k k k) k<|fp k8<|ae (ws k) k<|an<|bB<|tn<|rg<|am k k<|ae (bF k k) k<|aT k2<|sp h ⟨_,k,(gT [0,1,2,3,6] (bG k2) (bO k<|bO k<|bO k<|eJ k<|bN k<|aQ) k4)⟩
   ·rintro e t ⟨rfl,hent⟩;exact aN<|bB<|tn<|aI hent<|rg<|am k k<|ae (bF k k) k<|aT k2<|sp h ⟨_,k,(bP (bG k2) (bO k<|bO k<|bO k<|eJ k<|bN k<|aQ) k4)⟩
  ·rintro e t ⟨rfl,hent⟩;exact aN<|bB<|tn<|aI hent<|rg<|am k k<|ae (bF k k) k<|aT k2<|sp h ⟨_,k,(bP (bG k2) (bO k<|bO k<|bO k<|eJ k<|bN k<|aQ) k4)⟩
 ·rintro e t ⟨rfl,hent⟩;exact aN<|tn<|aI hent<|sR<|lp k8<|ae (ws k) k<|an<|tn<|aE<|sp h (bD k k k (iJ (aU (k) (aU (k) (aU (cW cA k k) fA)))))
def jK (a0:Rp) (a1:Rp) (a2:(List Int)) (x1:((List Mt)×Int×Int)):Option (((List Mt)×Int×Int) ⊕ (List Mt)):=
 bif decide (x1.2.2<(a0.dims.length:Int)) then
 ((cY a0.dims x1.2.2).bind λv2=>
 (cY a1.dims x1.2.2).bind λv3=>
 (cY a1.dims x1.2.2).bind λv4=>
 (cY a0.dims x1.2.2).bind λv5=>
 bif (decide (0≤x1.2.1)&&(decide (x1.2.1≤wr (x1.2.1+(wr (v2*v3))))&&decide (wr (x1.2.1+(wr (v2*v3)))≤(a2.length:Int)))) then
 (bif decide (([]:(List Int)).length +((a2.drop x1.2.1.toNat).take ((wr (x1.2.1+(wr (v2*v3)))).toNat - x1.2.1.toNat)).length ≤4294967296) then
 (bif decide (x1.1.length+1≤4294967296) then
 (some (.inl ((x1.1++[(⟨v4,v5,(([]:(List Int))++((a2.drop x1.2.1.toNat).take ((wr (x1.2.1+(wr (v2*v3)))).toNat - x1.2.1.toNat)))⟩:Mt)]),wr (x1.2.1+(wr (v2*v3))),wr (x1.2.2+1))))
 else none)
 else none)
 else none)
 else
 (some (.inr x1.1))
def kK (a0:Rp) (a1:Rp) (a2:(List Int)):Option (List Mt):=
 (Lp (jK a0 a1 a2) (([]:(List Mt)),0,0)).bind λy9=>
 some (y9)
theorem aEO (a0:Rp) (a1:Rp) (a2:(List Int)) (r:(List Mt)) (h:kK a0 a1 a2=some r):HasC Tryz.prog 175 [.agg (eR a0),.agg (eR a1),.list 1 (a2.map eI)] (.list 3 (r.map eM)):=by
 refine hM [.tmp 6] Tryz.func175 Tryz.ntmps175 k<|sR<|ae (wb k) k<|ae (wb k) k<|aT k2<|sR<|ae (wl k) k<|aT k2<|aI (t:=mN [(2,.list 1 (a2.map eI)),(3,.ptr 0 0 0),(4,.ptr 1 0 0),(7,.own 2 0 (([]:(List Mt)).length))] [(0,⟨6,[eR a0]⟩),(1,⟨6,[eR a1]⟩),(2,⟨3,List.map (ow eM) ([]:(List Mt))⟩)] 3) (bP (kT 3 k2 (gH ⟨_,k,⟨k,k,(by simp only [aH,lA,lT,lR,lC,lN]),k⟩⟩ aQ)) (bO k<|bO k<|bW (aX.plainO _) k<|aQ) k4)<|sR<|aT k2<|sQ<|sR<|aT k2<|aD<|oB h λy9 hy9 h=>cC (body:=(jK a0 a1 a2)) hy9 (λ(x1:((List Mt)×Int×Int))=>mN [(2,.list 1 (a2.map eI)),(3,.ptr 0 0 0),(4,.ptr 1 0 0),(7,.own 2 0 x1.1.length),(8,.int x1.2.1),(9,.int x1.2.2)] [(0,⟨6,[eR a0]⟩),(1,⟨6,[eR a1]⟩),(2,⟨3,x1.1.map (ow eM)⟩)] 3) (λr e t=>e= .exit 0∧Ent t (mN [(7,.own 0 0 r.length)] [(0,⟨3,r.map (ow eM)⟩)] 1)) (bP (bG k2) (bO k<|bO k<|bW (aX.plainO _) k<|aQ) k4) ?_ ?_
 ·intro x1 o h;refine sQ<|sR<|am k k<|fp k8<|lp k8<|ln k4<|cm k4<|an<|tn<|cN k h (λ_ h=>?_) λ_ h=>aY<|aB<|aB<|sp h ⟨_,k,k,(gT [2] (bG k2) (bW (aX.plainO _) k<|aQ) k4)⟩;refine aG<|tn<|sQ<|aD<|sQ<|aP fB<|fp k8<|lp k8<|am k k<|oB h λv2 hv2 h=>ae (xl hv2 k) k<|lr k7<|fp k8<|lp k8<|am k k<|oB h λv3 hv3 h=>ae (xl hv3 k) k<|lr k7<|ae (fP k k) k<|aa k k<|an<|lL (by kernel_rfl)<|tn<|sQ<|aP fB<|am k k<|fp k8<|lp k8<|am k k<|oB h λv4 hv4 h=>ae (xl hv4 k) k<|lr k7 ?_;refine fp k8<|lp k8<|am k k<|oB h λv5 hv5 h=>ae (xl hv5 k) k<|lr k7<|ae (wl k) k<|am k k<|am k k<|am k k<|am k k<|ae (bF k k) k<|cG h λq6 h=>ae (aDu aJ (l0:=a2) (l:=x1.2.1) (h:=wr (x1.2.1+(wr (v2*v3)))) q6 k k k k k k k) k<|cG h λq7 h=>ae (qV aJ (l:=([]:(List Int))) (m:=((a2.drop x1.2.1.toNat).take ((wr (x1.2.1+(wr (v2*v3)))).toNat - x1.2.1.toNat))) kH q7 k k k k k k k k k k k k) k<|ae (fW aJ k k k k k k) k<|ae (wl k) k<|cG h λq8 h=>ae (fN aJ (l:=x1.1) (c:=[.int v4,.int v5,.own 4 0 ((([]:(List Int))++((a2.drop x1.2.1.toNat).take ((wr (x1.2.1+(wr (v2*v3)))).toNat - x1.2.1.toNat))).length)]) q8 k k k k k k k k k k k k k k) k<|aa k k<|an<|lL (by kernel_rfl)<|tn<|aI (t:=mN [(2,.list 1 (a2.map eI)),(3,.ptr 0 0 0),(4,.ptr 1 0 0),(7,.own 6 0 ((x1.1++[(⟨v4,v5,(([]:(List Int))++((a2.drop x1.2.1.toNat).take ((wr (x1.2.1+(wr (v2*v3)))).toNat - x1.2.1.toNat)))⟩:Mt)]).length)),(8,.int x1.2.1),(9,.int x1.2.2),(10,.int (wr (v2*v3)))] [(0,⟨6,[eR a0]⟩),(1,⟨6,[eR a1]⟩),(6,⟨3,List.map (ow eM) (x1.1++[(⟨v4,v5,(([]:(List Int))++((a2.drop x1.2.1.toNat).take ((wr (x1.2.1+(wr (v2*v3)))).toNat - x1.2.1.toNat)))⟩:Mt)])⟩)] 7) (Ent.trans (dJ (b:=6) (b':=4) (j:=2) (es':=List.map eI (([]:(List Int))++((a2.drop x1.2.1.toNat).take ((wr (x1.2.1+(wr (v2*v3)))).toNat - x1.2.1.toNat)))) k k k k (aH _ _) (cA.frzs _)) (bP (kT 3 k2 (gH ⟨_,k,⟨k,k,(by simp only [aH,lA,lT,lR,lC,lN]),k⟩⟩ (bG k2))) (bO k<|bO k<|hX ⟨_,k,k,.inl ⟨fV (⟨v4,v5,(([]:(List Int))++((a2.drop x1.2.1.toNat).take ((wr (x1.2.1+(wr (v2*v3)))).toNat - x1.2.1.toNat)))⟩:Mt) k,aX.plainO _⟩⟩ k<|aQ) k4))<|rg<|am k k<|am k k<|ae (bF k k) k<|aa k k<|an<|bB<|tn<|rg ?_;exact am k k<|ae (bF k k) k<|aT k2<|sp h ⟨_,k,(gT [0,1,6] (bG k2) (bO k<|bO k<|bW (aX.plainO _) k<|aQ) k4)⟩
 ·rintro e t ⟨rfl,hent⟩;exact aN<|tn<|aI hent<|sR<|am k k<|aT k2<|aE<|sp h (bD k k k (fH (cW aX k k)))
def hZ (a0:Rp) (a1:Rp) (v4:(List (List Int))) (x1:((List (List Mt))×Int)):Option (((List (List Mt))×Int) ⊕ (List (List Mt))):=
 bif decide (x1.2<((v4.length:Nat):Int)) then
 ((cY v4 x1.2).bind λv6=>
 (kK a0 a1 v6).bind λv7=>
 bif decide (x1.1.length+1≤4294967296) then
 (some (.inl ((x1.1++[v7]),wr (x1.2+1))))
 else none)
 else
 (some (.inr x1.1))
def kL (a0:Rp) (a1:Rp):Option ((List (List Mt))×Bool):=
 (zZ a0 a1).bind λv1=>
 bif !v1 then
 (some ((([]:(List (List Mt))),false)))
 else
 ((pM a0 a1).bind λv3=>
 (sI a0.p v3).bind λv4=>
 (Lp (hZ a0 a1 v4) (([]:(List (List Mt))),0)).bind λy9=>
 some ((y9,true)))
theorem aEP (a0:Rp) (a1:Rp) (r:((List (List Mt))×Bool)) (h:kL a0 a1=some r):HasC Tryz.prog 142 [.agg (eR a0),.agg (eR a1)] (.tuple [.list 1 (r.1.map (dQ 3 eM)),.bl r.2]):=by
 refine hM [.tmp 4,.tmp 5] Tryz.func142 Tryz.ntmps142 k<|sR<|ae (wb k) k<|ae (wb k) k<|aa k k<|aT k2<|sR<|ae (wl k) k<|aT k2<|aI (t:=mN [(2,.ptr 0 0 0),(3,.ptr 1 0 0),(6,.own 2 0 (([]:(List (List Mt))).length))] [(0,⟨6,[eR a0]⟩),(1,⟨6,[eR a1]⟩),(2,⟨1,List.map (ow (dQ 3 eM)) ([]:(List (List Mt)))⟩)] 3) (bP (kT 2 k2 (gH ⟨_,k,⟨k,k,(by simp only [aH,lA,lT,lR,lC,lN]),k⟩⟩ aQ)) (bO k<|bO k<|bW (cB.plainO _) k<|aQ) k4)<|sQ<|sR<|lp k8<|lp k8<|oB h λv1 hv1 h=>ae (aS (aGt a0 a1 v1 hv1) k (aL (eV k) (aL (eV k) aO))) k<|ae (dI k) k<|an<|tn<|cN k h (λ_ h=>sR<|am k k<|aa k k<|aT k2<|aE<|aC<|sp h (bD k k k (cU k (bL (dL (cW cB k k)) (bL (k) eG))))) λ_ h=>?_;refine aG<|tn<|sQ<|aP fB<|fp k8<|lp k8<|lp k8<|lp k8<|oB h λv3 hv3 h=>ae (cM (aFZ a0 a1 v3 hv3) k3 (aL (eV k) (aL (eV k) aO))) k<|oB h λv4 hv4 h=>ae (cL cB (aEN a0.p v3 v4 hv4) k3 (cJ k (aL (vaM k2) aO))) k<|aa k k<|an<|lL (by kernel_rfl)<|tn<|sQ<|sR<|aT k2<|aD<|oB h λy9 hy9 h=>cC (body:=(hZ a0 a1 v4)) hy9 (λ(x1:((List (List Mt))×Int))=>mN [(2,.ptr 0 0 0),(3,.ptr 1 0 0),(6,.own 2 0 x1.1.length),(7,.own 3 0 v4.length),(8,.int x1.2)] [(0,⟨6,[eR a0]⟩),(1,⟨6,[eR a1]⟩),(2,⟨1,x1.1.map (ow (dQ 3 eM))⟩),(3,⟨1,v4.map (ow (dQ 1 eI))⟩)] 4) (λr e t=>e= .exit 0∧Ent t (mN [(6,.own 0 0 r.length)] [(0,⟨1,r.map (ow (dQ 3 eM))⟩)] 1)) (gT [0,1,2,4] (bG k2) (bO k<|bO k<|bW (cB.plainO _) k<|bW (cB.plainO _) k<|aQ) k4) ?_ ?_
 ·intro x1 o h;exact sQ<|sR<|am k k<|am k k<|ae (dR aJ k k k k) k<|cm k4<|an<|tn<|cN k h (λ_ h=>aG<|tn<|sQ<|aD<|aP fB<|am k k<|lp k8<|lp k8<|am k k<|am k k<|oB h λv6 hv6 h=>ae (xo hv6 k) k<|ae (wp hv6 k) k<|oB h λv7 hv7 h=>ae (cL aX (aEO a0 a1 v6 v7 hv7) k3 (aL (eV k) (aL (eV k) (cJ k aO)))) k<|ae (wl k) k<|cG h λq8 h=>ae (fN aJ (l:=x1.1) (c:=[.own 4 0 v7.length]) q8 k k k k k k k k k k k k k k) k<|aa k k<|an<|lL (by kernel_rfl)<|bB<|tn<|aI (t:=mN [(2,.ptr 0 0 0),(3,.ptr 1 0 0),(6,.own 6 0 ((x1.1++[v7]).length)),(7,.own 3 0 v4.length),(8,.int x1.2)] [(0,⟨6,[eR a0]⟩),(1,⟨6,[eR a1]⟩),(3,⟨1,v4.map (ow (dQ 1 eI))⟩),(6,⟨1,List.map (ow (dQ 3 eM)) (x1.1++[v7])⟩)] 7) (Ent.trans (dJ (b:=6) (b':=4) (j:=0) (es':=v7.map eM) k k k k (aH _ _) (aX.frzs _)) (bP (kT 2 k2 (gH ⟨_,k,⟨k,k,(by simp only [aH,lA,lT,lR,lC,lN]),k⟩⟩ (bG k2))) (bO k<|bO k<|bW (cB.plainO _) k<|hX ⟨_,k,k,.inl ⟨fV v7 k,cB.plainO _⟩⟩ k<|aQ) k4))<|rg<|am k k<|ae (bF k k) k<|aT k2<|sp h ⟨_,k,(gT [0,1,6,3] (bG k2) (bO k<|bO k<|bW (cB.plainO _) k<|bW (cB.plainO _) k<|aQ) k4)⟩) λ_ h=>aY<|aB<|aB<|sp h ⟨_,k,k,(gT [2] (bG k2) (bW (cB.plainO _) k<|aQ) k4)⟩
 ·rintro e t ⟨rfl,hent⟩;exact aN<|tn<|aI hent<|sR<|am k k<|aa k k<|aT k2<|aE<|sp h (bD k k k (cU k (bL (dL (cW cB k k)) (bL (k) eG))))
def aAr (a0:Rp) (a1:Rp):Option Int:=
 (kL a0 a1).bind λv1=>
 bif !v1.2 then
 (some ((-1)))
 else
 (some (((v1.1.length:Nat):Int)))
theorem aLb (a0:Rp) (a1:Rp) (r:Int) (h:aAr a0 a1=some r):HasC Tryz.prog 96 [.agg (eR a0),.agg (eR a1)] (.int r):=by
 exact hM [.tmp 4] Tryz.func96 Tryz.ntmps96 k<|sR<|ae (wb k) k<|ae (wb k) k<|aT k2<|sR<|lp k8<|lp k8<|oB h λv1 hv1 h=>ae (cT cB (aEP a0 a1 v1 hv1) k3 (aL (eV k) (aL (eV k) aO))) k<|am k k<|ae (bA k k (by intro _ h;cases h)) k<|ae (bA k k (by intro _ h;cases h)) k<|aa k k<|aT k2<|sQ<|sR<|am k k<|ae (dI k) k<|an<|tn<|cN k h (λ_ h=>sR<|aT k2<|aE<|aC<|rtI h k2) λ_ h=>aG<|tn<|sR<|am k k<|ae (dR aJ k k k k) k<|aT k2<|aE<|rtI h k2
end
noncomputable section
set_option maxRecDepth 10000
set_option maxHeartbeats 4000000
end
noncomputable section
def rkF (p:Int) (m n:Nat) (F:Nat→Nat→Int):Nat:=(cD p m F n).2.length
theorem aWE {p:Int} (hp:lP p=true) (m n:Nat):yT p m n pF:=by
 have hb:=eZ hp;intro i j _ _;unfold pF;split <;> omega
def dN (r:Rp) (k:Nat):Nat:=(r.dims[k]?.getD 0).toNat
theorem aCL {r:Rp} (h:wY r=true):lP r.p=true∧aFn r.q r.dims=true∧r.maps.length=r.q.src.length∧ ∀ k,k<r.maps.length→aES r.p (r.maps[k]?.getD ⟨0,0,[]⟩)=true∧(r.maps[k]?.getD ⟨0,0,[]⟩).cols=r.dims[(r.q.src[k]?.getD 0).toNat]?.getD 0∧(r.maps[k]?.getD ⟨0,0,[]⟩).rows=r.dims[(r.q.tgt[k]?.getD 0).toNat]?.getD 0:=by
 unfold wY at h;simp only [dD,lD,sK] at h;exact ⟨h.1,h.2.1,by omega,h.2.2.2⟩
theorem jL {c:Nat} {f g:Nat→Int} (h: ∀ j,j<c→f j=g j):fC c f=fC c g:=uJ λj hj=>h j (List.mem_range.1 hj)
theorem aKf {c j:Nat} (hj:j<c) (f:Nat→Int) (v:Int):(fC c f).set j v=fC c (λb=>if b=j then v else f b):=by
 refine List.ext_getElem (by simp [fC]) λt h1 h2=>?_;rw [dY] at h2;rw [List.getElem_set];simp only [fC,List.getElem_map,List.getElem_range];by_cases e:j=t
 ·rw [aW e,aW e.symm]
 ·rw [aZ e,aZ (by omega)]
theorem aHu (c:Nat):List.replicate c (0:Int)=fC c (λ_=>0):=by
 refine List.ext_getElem (by simp [fC]) λt h1 h2=>?_;simp [fC]
theorem sq {a b:Nat} (ha:a≤4) (hb:b≤4):a*b≤1048576:=by have:=Nat.mul_le_mul ha hb;omega
theorem aHC (c:Nat) (f:Nat→Nat→Int): ∀ n,((List.range n).map λi=>fC c (f i)).flatten=bY n c f
 |0=>by simp [bY]
 |n+1=>by
  rw [List.range_succ,List.map_append,List.flatten_append,aHC c f n];unfold bY;rw [Nat.succ_mul,List.range_add,List.map_append];congr 1;simp only [List.map_cons,List.map_nil,List.flatten_cons,List.flatten_nil,List.append_nil,List.map_map,fC];refine uJ λj hj=>?_;have hj:=List.mem_range.1 hj;simp only [Function.comp];rw [aBy hj,aBz hj]
theorem aMT {l:List (List Int)} (h: ∀ x∈l,x.length≤1024):l.flatten.length≤1024*l.length:=by
 induction l with
 |nil=>simp
 |cons x l ih=>
  have h1:=h x (by simp);have h2:=ih λy hy=>h y (by simp [hy]);simp only [List.flatten_cons,List.length_append,List.length_cons];omega
theorem aBt {l:List (List Int)} {k:Nat} (hk:k<l.length):(l.take (k+1)).flatten=(l.take k).flatten++l[k]:=by
 rw [zL hk,List.flatten_append];simp
theorem aUI {l:List (List Int)} (hl:l.length≤512) (h: ∀ x∈l,x.length≤1024):jR l=some l.flatten:=by
 have hb: ∀ k,(l.take k).flatten.length ≤1024*512:=λk=>by
  have:=aMT (l:=l.take k) λx hx=>h x (List.mem_of_mem_take hx);have h2:(l.take k).length ≤512:=by simp;omega
  omega
 unfold jR;rw [cO (r:=(l.flatten.length:Int)) (λk=>(((l.take k).flatten.length:Int),(k:Int))) l.length (by simp) (λk hk=>?_) (λ_=>?_),aA]
 ·have e:=hb l.length;rw [List.take_length] at e;unfold aQU;rw [bH (by omega),bH (by omega:(l.flatten.length:Int)≤1048576),Bool.and_self,aM,aA];rw [cO (r:=l.flatten) (λk=>((l.take k).flatten,(k:Int))) l.length (by simp) (λk hk=>?_) (λ_=>?_),aA]
  ·unfold iI;simp only;have e2:=hb (k+1);rw [aBt hk,List.length_append] at e2;rw [gA hk,aM,cX hk,aA,bH (by omega),aM,bZ hk (by omega),aBt hk]
  ·unfold iI;simp only;rw [gN (bJ _),aR,List.take_length]
 ·unfold iH;simp only;have e2:=hb (k+1);rw [aBt hk,List.length_append] at e2;rw [gA hk,aM,cX hk,aA,dV (x:=_+_) (by omega),dU (by omega),aR,bZ hk (by omega),aBt hk,List.length_append,Int.natCast_add (List.take k l).flatten.length l[k].length]
 ·unfold iH;simp only;rw [gN (bJ _),aR,List.take_length]
end
noncomputable section
def sN (f:Nat→Int):Nat→Int
 |0=>0
 |k+1=>sN f k+f k
theorem dA {f g:Nat→Int} : ∀ {n:Nat},(∀ k,k<n→f k=g k)→sN f n=sN g n
 |0,_=>rfl
 |n+1,h=>by rw [sN,sN,dA λk hk=>h k (by omega),h n (by omega)]
theorem aKg (f g:Nat→Int): ∀ n,sN (λk=>f k+g k) n=sN f n+sN g n
 |0=>rfl
 |n+1=>by rw [sN,sN,sN,aKg f g n];omega
theorem aKh (c:Int) (f:Nat→Int): ∀ n,sN (λk=>c*f k) n=c*sN f n
 |0=>by simp [sN]
 |n+1=>by rw [sN,sN,aKh c f n,Int.mul_add]
theorem aAs: ∀ n,sN (λ_=>0) n=0
 |0=>rfl
 |n+1=>by rw [sN,aAs n];rfl
theorem aBW {f:Nat→Int} {j:Nat} : ∀ {n:Nat},j<n→(∀ k,k<n→k≠j→f k=0)→sN f n=f j
 |0,h,_=>absurd h (Nat.not_lt_zero _)
 |n+1,h,hz=>by
  rw [sN];by_cases e:j=n
  ·subst e;rw [dA (g:=λ_=>0) λk hk=>hz k (by omega) (by omega),aAs];omega
  ·rw [aBW (j:=j) (by omega) λk hk hj=>hz k (by omega) hj,hz n (by omega) (by omega)];omega
def Z0 (p x:Int):Prop:=x % p=0
theorem aKi {p x y:Int} (h:Z0 p x) (k:Z0 p y):Z0 p (x+y):=by unfold Z0 at*;rw [Int.add_emod,h,k];simp
theorem aCy {p x:Int} (c:Int) (h:Z0 p x):Z0 p (c*x):=by unfold Z0 at*;rw [Int.mul_emod,h];simp
theorem aMU {p:Int} {f g:Nat→Int} : ∀ {n:Nat},(∀ k,k<n→f k % p=g k % p)→sN f n % p=sN g n % p
 |0,_=>rfl
 |n+1,h=>by rw [sN,sN,Int.add_emod,aMU λk hk=>h k (by omega),h n (by omega),←Int.add_emod]
theorem aBL {p x y:Int} (h:x % p=y % p) (k:Z0 p x):Z0 p y:=by unfold Z0 at*;rw [←h];exact k
def dt (n:Nat) (f x:Nat→Int):Int:=sN (λk=>f k*x k) n
def Kr (p:Int) (m n:Nat) (F:Nat→Nat→Int) (x:Nat→Int):Prop:= ∀ i,i<m→Z0 p (dt n (F i) x)
theorem aKj {p:Int} {n:Nat} {f g x:Nat→Int} (h: ∀ k,k<n→f k % p=g k % p):dt n f x % p=dt n g x % p:=by
 unfold dt;refine aMU λk hk=>?_;rw [Int.mul_emod,h k hk,←Int.mul_emod]
theorem aUJ {n:Nat} {f g x:Nat→Int} (c:Int):dt n (λk=>f k+c*g k) x=dt n f x+c*dt n g x:=by
 unfold dt;rw [←aKh,←aKg];refine dA λk hk=>?_;rw [Int.add_mul,Int.mul_assoc]
theorem aRk {n:Nat} {f x:Nat→Int} (c:Int):dt n (λk=>c*f k) x=c*dt n f x:=by
 unfold dt;rw [←aKh];refine dA λk hk=>?_;rw [Int.mul_assoc]
theorem aUK {p:Int} (hp:lP p=true) {m n k r j:Nat} (hj:j<n) (hk:k<m) (hr:r<m) {F:Nat→Nat→Int} (hin:yT p m n F) (hrj:F r j≠0) (x:Nat→Int):Kr p m n (gC p F k r j) x↔Kr p m n F x:=by
 have hb:=eZ hp;have hrb:=hin r j hr hj;have hiv:=aTh hp (r:=F r j) ⟨by omega,by omega⟩;generalize hs:aDH p (F r j)=s at*;have hrow: ∀ c,gC p F k r j k c=(F r c*s) % p:=by intro c;simp [gC,aAW,uN,zG,hs]
 have hoth: ∀ i c,i≠k→gC p F k r j i c=((if i=r then F k c else F i c) - (if i=r then F k j else F i j)*gC p F k r j k c) % p:=by
  intro i c hi;simp [gC,aAW,uN,zG,hi,hs]
 have e1:dt n (gC p F k r j k) x % p=(s*dt n (F r) x) % p:=by
  rw [←aRk];refine aKj λc hc=>?_;rw [hrow,Int.mul_comm,Int.emod_emod_of_dvd _ (Int.dvd_refl p)]
 have e2:dt n (F r) x % p=(F r j*dt n (gC p F k r j k) x) % p:=by
  rw [←aRk];refine aKj λc hc=>?_;rw [hrow,Int.mul_emod,Int.emod_emod_of_dvd _ (Int.dvd_refl p),←Int.mul_emod,show F r j*(F r c*s)=(F r j*s)*F r c by rw [Int.mul_comm (F r c),Int.mul_assoc],Int.mul_emod,hiv.2.2];simp
 have e3: ∀ i,i≠k→ ∀ G:Nat→Int,(∀ c,G c=if i=r then F k c else F i c)→dt n (gC p F k r j i) x % p=(dt n G x+ -(G j)*dt n (gC p F k r j k) x) % p:=by
  intro i hi G hG;rw [←aUJ];refine aKj λc hc=>?_;rw [hoth i c hi,Int.emod_emod_of_dvd _ (Int.dvd_refl p),←hG,←hG,Int.neg_mul,Int.sub_eq_add_neg]
 constructor
 ·intro h;have hkk:=h k hk;have hrr:Z0 p (dt n (F r) x):=by unfold Z0;rw [e2];exact aCy _ hkk
  have key: ∀ i,i<m→i≠k→Z0 p (dt n (λc=>if i=r then F k c else F i c) x):=by
   intro i hi hik;have h1:=h i hi;unfold Z0 at h1;rw [e3 i hik (λc=>if i=r then F k c else F i c) (λc=>rfl)] at h1;have h2:=aKi (y:=(if i=r then F k j else F i j)*dt n (gC p F k r j k) x) h1 (aCy _ hkk);refine aBL (congrArg (· % p) ?_) h2;rw [Int.neg_mul];omega
  intro i hi;by_cases e:i=r
  ·subst e;exact hrr
  ·by_cases e4:i=k
   ·subst e4;have:=key r hr (λh=>e h.symm);simpa using this
   ·have:=key i hi e4;simpa [e] using this
 ·intro h;have hkk:Z0 p (dt n (gC p F k r j k) x):=by unfold Z0;rw [e1];exact aCy _ (h r hr)
  intro i hi;by_cases e:i=k
  ·subst e;exact hkk
  ·unfold Z0;rw [e3 i e (λc=>if i=r then F k c else F i c) (λc=>rfl)];refine aKi ?_ (aCy _ hkk);by_cases e4:i=r
   ·simp only [e4,if_true];exact h k hk
   ·simp only [e4,if_false];exact h i hi
theorem aBo {p:Int} (hp:lP p=true) {m n:Nat} {F:Nat→Nat→Int} (hin:yT p m n F) (x:Nat→Int): ∀ t,t≤n→(Kr p m n (cD p m F t).1 x↔Kr p m n F x)
 |0,_=>Iff.rfl
 |t+1,ht=>by
  have ih:=aBo hp hin x t (by omega);have hin2:=sF (by have:=eZ hp;omega:0<p) hin t;have hlen:= @qB p m F t;show Kr p m n (iE p m (cD p m F t) t).1 x↔_;unfold iE;split
  ·exact ih
  ·rename_i h1;have hle:= @aCA (cD p m F t).1 t (m - (cD p m F t).2.length) (cD p m F t).2.length;have hh:= @aFE (cD p m F t).1 t (m - (cD p m F t).2.length) (cD p m F t).2.length (by omega);refine Iff.trans ?_ ih;exact aUK hp (by omega) (by omega) (by omega) hin2 hh x
def kx (F:Nat→Nat→Int) (L:List Nat) (k:Nat):Nat→Int:=λc=>if c=k then 1 else -(sN (λi=>if L[i]?.getD 0=c then F i k else 0) L.length)
theorem aMV {m n:Nat} {F:Nat→Nat→Int} {L:List Nat} (h:Red m n F L) {k:Nat} (hk:k<n) (hL: ∀ i,i<L.length→L[i]?.getD 0≠k) (g:Nat→Int):dt n g (kx F L k)=g k - sN (λi=>g (L[i]?.getD 0)*F i k) L.length:=by
 have key: ∀ a,a≤L.length→sN (λc=>g c*(if c=k then 1 else -(sN (λi=>if L[i]?.getD 0=c then F i k else 0) a))) n=g k - sN (λi=>g (L[i]?.getD 0)*F i k) a:=by
  intro a;induction a with
  |zero=>
   intro _;rw [aBW (j:=k) hk]
   ·rw [aW rfl];simp [sN]
   ·intro c hc hck;rw [aZ hck];simp [sN]
  |succ a ih=>
   intro ha;have ih:=ih (by omega);have hlt:=h.lt a (by omega);have hne:=hL a (by omega)
   have e:sN (λc=>g c*(if c=k then 1 else -(sN (λi=>if L[i]?.getD 0=c then F i k else 0) (a+1)))) n
     =sN (λc=>g c*(if c=k then 1 else -(sN (λi=>if L[i]?.getD 0=c then F i k else 0) a))+(if c=L[a]?.getD 0 then -(g c*F a k) else 0)) n:=by
    refine dA λc hc=>?_;by_cases e1:c=k
    ·rw [aW e1,aW e1,aZ (by omega)];omega
    ·rw [aZ e1,aZ e1];simp only [sN];by_cases e2:c=L[a]?.getD 0
     ·rw [aW e2,aW e2.symm,Int.neg_add,Int.mul_add,Int.mul_neg (g c) (F a k)]
     ·rw [aZ e2,aZ (λh=>e2 h.symm)];simp
   rw [e,aKg,ih,aBW (j:=L[a]?.getD 0) hlt (λc _ hc=>aZ hc),aW rfl];simp only [sN];omega
 have:=key L.length (bJ _);exact this
theorem aHv {p:Int} {m n:Nat} {F:Nat→Nat→Int} {L:List Nat} (h:Red m n F L) {k:Nat} (hk:k<n) (hL: ∀ i,i<L.length→L[i]?.getD 0≠k):Kr p m n F (kx F L k):=by
 intro i hi;rw [aMV h hk hL];rcases eO i L.length with hl|hl
 ·rw [aBW (j:=i) hl]
  ·rw [h.one i hl];unfold Z0;rw [Int.one_mul,Int.sub_self];simp
  ·intro t ht hti;rw [h.col t i ht hi (λe=>hti e.symm)];simp
 ·rw [h.low i k hl hi hk,dA (g:=λ_=>0) λt ht=>by rw [h.low i _ hl hi (h.lt t ht)];simp];rw [aAs];unfold Z0;simp
theorem aNU {p:Int} (hp:lP p=true) {m m' n:Nat} {F G:Nat→Nat→Int} {L M:List Nat} (hF:Red m n F L) (hG:Red m' n G M) (hK: ∀ x,Kr p m n F x→Kr p m' n G x) {t:Nat} (ht:t<M.length): ∃ i,i<L.length∧L[i]?.getD 0=M[t]?.getD 0:=by
 have hb:=eZ hp;refine Classical.byContradiction λhn=>?_;have hL: ∀ i,i<L.length→L[i]?.getD 0≠M[t]?.getD 0:=λi hi e=>hn ⟨i,hi,e⟩;have hk:=hG.lt t ht;have h1:=hK _ (aHv (p:=p) hF hk hL) t (by have:=hG.len;omega);rw [aMV hF hk hL,hG.one t ht,dA (g:=λ_=>0) λi hi=>?_,aAs] at h1
 ·unfold Z0 at h1;rw [Int.sub_zero,Int.emod_eq_of_lt (by omega) (by omega)] at h1;cases h1
 ·rcases eO (L[i]?.getD 0) (M[t]?.getD 0) with e|e
  ·rw [hG.left t _ ht e];simp
  ·have:=hL i hi;rw [hF.left i _ hi (by omega)];simp
theorem aHw: ∀ {L M:List Nat},(∀ i k,i<k→k<L.length→L[i]?.getD 0<L[k]?.getD 0)→(∀ i k,i<k→k<M.length→M[i]?.getD 0<M[k]?.getD 0)→(∀ i,i<L.length→ ∃ j,j<M.length∧M[j]?.getD 0=L[i]?.getD 0)→(∀ j,j<M.length→ ∃ i,i<L.length∧L[i]?.getD 0=M[j]?.getD 0)→L=M
 | [],[],_,_,_,_=>rfl
 | [],y::M,_,_,_,h=>by obtain ⟨i,hi,_⟩:=h 0 (by simp);simp at hi
 |x::L,[],_,_,h,_=>by obtain ⟨i,hi,_⟩:=h 0 (by simp);simp at hi
 |x::L,y::M,hL,hM,h1,h2=>by
  have sL: ∀ i k,i<k→k<L.length→L[i]?.getD 0<L[k]?.getD 0:=λi k hik hk=>by have:=hL (i+1) (k+1) (by omega) (by simp;omega);simpa using this
  have sM: ∀ i k,i<k→k<M.length→M[i]?.getD 0<M[k]?.getD 0:=λi k hik hk=>by have:=hM (i+1) (k+1) (by omega) (by simp;omega);simpa using this
  have xL: ∀ i,i<L.length→x<L[i]?.getD 0:=λi hi=>by have:=hL 0 (i+1) (by omega) (by simp;omega);simpa using this
  have yM: ∀ i,i<M.length→y<M[i]?.getD 0:=λi hi=>by have:=hM 0 (i+1) (by omega) (by simp;omega);simpa using this
  have exy:x=y:=by
   obtain ⟨j,hj,e1⟩:=h1 0 (by simp);obtain ⟨i,hi,e2⟩:=h2 0 (by simp);simp at e1 e2
   have b1:y≤x:=by
    cases j with
    |zero=>simp at e1;omega
    |succ j=>simp at e1 hj;have:=yM j hj;omega
   have b2:x≤y:=by
    cases i with
    |zero=>simp at e2;omega
    |succ i=>simp at e2 hi;have:=xL i hi;omega
   omega
  subst exy;congr 1;refine aHw sL sM (λi hi=>?_) (λj hj=>?_)
  ·obtain ⟨j,hj,e⟩:=h1 (i+1) (by simp;omega);simp at e;have:=xL i hi;cases j with
   |zero=>simp at e;omega
   |succ j=>simp at e hj;exact ⟨j,hj,e⟩
  ·obtain ⟨i,hi,e⟩:=h2 (j+1) (by simp;omega);simp at e;have:=yM j hj;cases i with
   |zero=>simp at e;omega
   |succ i=>simp at e hi;exact ⟨i,hi,e⟩
theorem aQe {p:Int} (hp:lP p=true) {m m' n:Nat} {F G:Nat→Nat→Int} {L M:List Nat} (hF:Red m n F L) (hG:Red m' n G M) (iF:yT p m n F) (iG:yT p m' n G) (hK: ∀ x,Kr p m n F x↔Kr p m' n G x):L=M∧ ∀ i j,i<L.length→j<n→F i j=G i j:=by
 have e:L=M:=aHw hF.inc hG.inc (λi hi=>aNU hp hG hF (λx=>(hK x).2) hi) (λj hj=>aNU hp hF hG (λx=>(hK x).1) hj);subst e;refine ⟨rfl,λi k hi hk=>?_⟩;have hm:=hF.len;have hm':=hG.len;by_cases hL: ∃ t,t<L.length∧L[t]?.getD 0=k
 ·obtain ⟨t,ht,rfl⟩:=hL;by_cases e:i=t
  ·subst e;rw [hF.one i hi,hG.one i hi]
  ·rw [hF.col t i ht (by omega) e,hG.col t i ht (by omega) e]
 ·have hL: ∀ t,t<L.length→L[t]?.getD 0≠k:=λt ht e=>hL ⟨t,ht,e⟩;have h1:=(hK _).1 (aHv (p:=p) hF hk hL) i (by omega);rw [aMV hF hk hL,aBW (j:=i) hi (λt ht hti=>by rw [hG.col t i ht (by omega) (λe=>hti e.symm)];simp),hG.one i hi,Int.one_mul] at h1;unfold Z0 at h1;have b1:=iF i k (by omega) hk;have b2:=iG i k (by omega) hk;have hd:=Int.dvd_of_emod_eq_zero h1;obtain ⟨c,hc⟩:=hd
  have hc0:c=0:=by
   rcases Int.lt_trichotomy c 0 with h|h|h
   ·have:=Int.mul_le_mul_of_nonneg_left (show c≤ -1 by omega) (by omega:0≤p);omega
   ·exact h
   ·have:=Int.mul_le_mul_of_nonneg_left (show 1≤c by omega) (by omega:0≤p);omega
  subst hc0;simp at hc;omega
theorem aNV {p:Int} (hp:lP p=true) {m m' n:Nat} {F G:Nat→Nat→Int} (iF:yT p m n F) (iG:yT p m' n G) (hK: ∀ x,Kr p m n F x↔Kr p m' n G x):(cD p m F n).2=(cD p m' G n).2∧ ∀ i j,i<(cD p m F n).2.length→j<n→(cD p m F n).1 i j=(cD p m' G n).1 i j:=by
 have hb:=eZ hp;refine aQe hp (aCB hp iF n (bJ _)) (aCB hp iG n (bJ _)) (sF (by omega) iF n) (sF (by omega) iG n) λx=>?_;rw [aBo hp iF x n (bJ _),hK,aBo hp iG x n (bJ _)]
end
noncomputable section
def off (l:Nat→Nat):Nat→Nat
 |0=>0
 |k+1=>off l k+l k
theorem aEB {l:Nat→Nat} {i k:Nat} (h:i≤k):off l i≤off l k:=by
 induction k with
 |zero=>have:i=0:=by omega
        subst this;exact bJ _
 |succ k ih=>
  rcases eO k i with h'|h'
  ·have:i=k+1:=by omega
   subst this;exact bJ _
  ·have:=ih h';show off l i≤off l k+l k;omega
theorem nC {l:Nat→Nat} {i k y:Nat} (hi:i<k) (hy:y<l i):off l i+y<off l k:=by
 have:= @aEB l (i+1) k hi;have e:off l (i+1)=off l i+l i:=rfl;omega
theorem aFL {l:Nat→Nat} : ∀ {k x:Nat},x<off l k→ ∃ i y,i<k∧y<l i∧x=off l i+y
 |0,x,h=>absurd h (Nat.not_lt_zero _)
 |k+1,x,h=>by
  rcases eO x (off l k) with h'|h'
  ·obtain ⟨i,y,h1,h2,h3⟩:=aFL h';exact ⟨i,y,by omega,h2,h3⟩
  ·have e:off l (k+1)=off l k+l k:=rfl;exact ⟨k,x - off l k,by omega,by omega,by omega⟩
theorem aRl {l:Nat→Nat} {i j y z:Nat} (hy:y<l i) (hz:z<l j) (h:off l i+y=off l j+z):i=j∧y=z:=by
 have e1:off l (i+1)=off l i+l i:=rfl;have e2:off l (j+1)=off l j+l j:=rfl;rcases Nat.lt_trichotomy i j with h1|h1|h1
 ·have:= @aEB l (i+1) j h1;omega
 ·subst h1;exact ⟨rfl,by omega⟩
 ·have:= @aEB l (j+1) i h1;omega
def cat (l:Nat→Nat) (f:Nat→Nat→Int):Nat→List Int
 |0=>[]
 |k+1=>cat l f k++(List.range (l k)).map (f k)
theorem iU (l:Nat→Nat) (f:Nat→Nat→Int): ∀ k,(cat l f k).length=off l k
 |0=>rfl
 |k+1=>by rw [cat,off,List.length_append,iU l f k];simp
theorem rP {l:Nat→Nat} (f:Nat→Nat→Int): ∀ {k i y:Nat},i<k→y<l i→(cat l f k)[off l i+y]? =some (f i y)
 |0,i,y,h,_=>absurd h (Nat.not_lt_zero _)
 |k+1,i,y,h,hy=>by
  rw [cat];by_cases e:i=k
  ·subst e;rw [List.getElem?_append_right (by rw [iU];omega),iU,Nat.add_sub_cancel_left];simp [hy]
  ·rw [List.getElem?_append_left (by rw [iU];exact nC (by omega) hy)];exact rP f (by omega) hy
theorem aEC {l:Nat→Nat} {f:Nat→Nat→Int} {k:Nat} {v:List Int} (hv:v.length=off l k) (h: ∀ i y,i<k→y<l i→v[off l i+y]? =some (f i y)):v=cat l f k:=by
 refine List.ext_getElem (by rw [iU,hv]) λx h1 h2=>?_;obtain ⟨i,y,hi,hy,rfl⟩:=aFL (hv▸h1);have a:=h i y hi hy;have b:=rP f hi hy;rw [iC h1] at a;rw [iC h2] at b;exact (Option.some.inj a).trans (Option.some.inj b).symm
theorem aDV {l:Nat→Nat} {f g:Nat→Nat→Int} {k:Nat} (h: ∀ i y,i<k→y<l i→f i y=g i y):cat l f k=cat l g k:=
 aEC (iU l f k) λi y hi hy=>by rw [rP f hi hy,h i y hi hy]
theorem aNW {l:Nat→Nat} {f:Nat→Nat→Int} {k i y:Nat} (hi:i<k) (hy:y<l i) (v:Int):(cat l f k).set (off l i+y) v=cat l (λa b=>if a=i∧b=y then v else f a b) k:=by
 refine aEC (by rw [List.length_set,iU]) λa b ha hb=>?_;rw [List.getElem?_set];by_cases e:off l i+y=off l a+b
 ·obtain ⟨rfl,rfl⟩:=aRl hy hb e;rw [aW rfl,aW (by rw [iU];exact nC hi hy),aW ⟨rfl,rfl⟩]
 ·rw [aZ e,aZ (by rintro ⟨rfl,rfl⟩;exact e rfl),rP f ha hb]
theorem aOz (l:Nat→Nat) (k:Nat):List.replicate (off l k) (0:Int)=cat l (λ_ _=>0) k:=aEC (by simp) λi y hi hy=>by simp [nC hi hy]
theorem aPA {l:Nat→Nat} {f:Nat→Nat→Int} {k:Nat} : ∀ {n:Nat},k<n→((cat l f n).drop (off l k)).take (l k)=(List.range (l k)).map (f k):=by
 intro n hk;refine List.ext_getElem ?_ λx h1 h2=>?_
 ·have:= @aEB l (k+1) n hk;have e:off l (k+1)=off l k+l k:=rfl;simp [iU];omega
 ·have hx:x<l k:=by simpa using h2
  rw [List.getElem_take,List.getElem_drop];have:=rP f hk hx;rw [iC (by rw [iU];exact nC hk hx)] at this;simp [Option.some.inj this]
theorem aUL {r c:Nat} {g:Nat→Int} {F:Nat→Nat→Int} (h: ∀ y,y<r*c→g y=F (y / c) (y % c)):(List.range (r*c)).map g=bY r c F:=uJ λy hy=>h y (List.mem_range.1 hy)
theorem aGK {r c y:Nat} (h:y<r*c):y / c<r∧y % c<c:=by
 have hc:0<c:=by rcases Nat.eq_zero_or_pos c with rfl|h';simp at h;exact h'
 exact ⟨Nat.div_lt_of_lt_mul (by rw [Nat.mul_comm];exact h),Nat.mod_lt _ hc⟩
theorem aBM {c y:Nat} :y / c*c+y % c=y:=by rw [Nat.mul_comm];exact Nat.div_add_mod y c
theorem aUM {n:Nat} {L:List Nat} (hinc: ∀ i k,i<k→k<L.length→L[i]?.getD 0<L[k]?.getD 0) (hlt: ∀ x∈L,x<n):(aBH n L).length +L.length=n:=by
 have key: ∀ t,((List.range t).filter λk=> !L.contains k).length +((List.range t).filter λk=>L.contains k).length=t:=by
  intro t;induction t with
  |zero=>simp
  |succ t ih=>
   rw [List.range_succ,List.filter_append,List.filter_append,List.length_append,List.length_append];cases h:L.contains t <;> simp only [List.filter_cons,List.filter_nil,h,dW,Bool.not_false,fU,if_true,if_false,List.length_cons,List.length_nil] <;> omega
 have e:(List.range n).filter (λk=>L.contains k)=L:=by
  have hL: ∀ i,i<L.length→L[i]?.getD 0<n:=λi hi=>hlt _ (by rw [iC hi];exact List.getElem_mem hi);have hS:((List.range n).filter λk=>L.contains k).Pairwise (· < ·):=List.Pairwise.filter _ List.pairwise_lt_range;refine aHw (λi k hik hk=>?_) hinc (λi hi=>?_) (λj hj=>?_)
  ·have:=List.pairwise_iff_getElem.1 hS i k (by omega) hk hik;rw [iC (by omega),iC hk];exact this
  ·have hm:=List.getElem_mem hi;rw [List.mem_filter] at hm;have h2:=List.contains_iff_mem.1 hm.2;obtain ⟨j,hj,he⟩:=List.mem_iff_getElem.1 h2;refine ⟨j,hj,?_⟩;rw [iC hj,iC hi];exact he
  ·have hm:L[j]∈(List.range n).filter λk=>L.contains k:=by
    rw [List.mem_filter];exact ⟨List.mem_range.2 (hlt _ (List.getElem_mem hj)),List.contains_iff_mem.2 (List.getElem_mem hj)⟩
   obtain ⟨i,hi,he⟩:=List.mem_iff_getElem.1 hm;refine ⟨i,hi,?_⟩;rw [iC hj,iC hi];exact he
 have:=key n;rw [e] at this;exact this
end
noncomputable section
def sV (r:Rp) (i:Nat):Nat:=(r.q.src[i]?.getD 0).toNat
def tV (r:Rp) (i:Nat):Nat:=(r.q.tgt[i]?.getD 0).toNat
def aF (r:Rp) (i:Nat):Nat→Nat→Int:=λj k=>(r.maps[i]?.getD ⟨0,0,[]⟩).cells[j*dN r (sV r i)+k]?.getD 0
structure Rv (r:Rp):Prop where
 hp:lP r.p=true
 n5:r.dims.length≤5
 d: ∀ k,k<r.dims.length→r.dims[k]?.getD 0=(dN r k:Int)∧dN r k≤4
 e6:r.q.src.length≤6
 tl:r.q.tgt.length=r.q.src.length
 ml:r.maps.length=r.q.src.length
 s: ∀ i,i<r.q.src.length→r.q.src[i]?.getD 0=(sV r i:Int)∧sV r i<r.dims.length
 t: ∀ i,i<r.q.src.length→r.q.tgt[i]?.getD 0=(tV r i:Int)∧tV r i<r.dims.length
 m: ∀ i,i<r.q.src.length→r.maps[i]?.getD ⟨0,0,[]⟩=⟨dN r (tV r i),dN r (sV r i),bY (dN r (tV r i)) (dN r (sV r i)) (aF r i)⟩∧yT r.p (dN r (tV r i)) (dN r (sV r i)) (aF r i)
theorem aEo {r:Rp} (h:wY r=true):Rv r:=by
 obtain ⟨hp,hD,hml,hM⟩:=aCL h;obtain ⟨hQ,hd1,hd2,_⟩:=nX hD;obtain ⟨n,hn,hn1,hn5,hq1,hq2,hq3,hq4⟩:=aEk hQ;have hdl:r.dims.length=n:=by omega
 have hd: ∀ k,k<r.dims.length→r.dims[k]?.getD 0=(dN r k:Int)∧dN r k≤4:=by
  intro k hk;have:=hd2 _ (jS 0 hk);unfold dN;omega
 have hs: ∀ i,i<r.q.src.length→r.q.src[i]?.getD 0=(sV r i:Int)∧sV r i<r.dims.length:=by
  intro i hi;have:=hq3 _ (jS 0 hi);unfold sV;omega
 have ht: ∀ i,i<r.q.src.length→r.q.tgt[i]?.getD 0=(tV r i:Int)∧tV r i<r.dims.length:=by
  intro i hi;have:=hq4 _ (jS 0 (show i<r.q.tgt.length by omega));unfold tV;omega
 refine ⟨hp,by omega,hd,hq2,by omega,hml,hs,ht,λi hi=>?_⟩;obtain ⟨g1,g2,g3⟩:=hM i (by omega);rw [show (r.q.src[i]?.getD 0).toNat=sV r i from rfl,(hd _ (hs i hi).2).1] at g2;rw [show (r.q.tgt[i]?.getD 0).toNat=tV r i from rfl,(hd _ (ht i hi).2).1] at g3;obtain ⟨_,a,b,F,ha,hb,he,hF⟩:=aQa g1;have ea:a=dN r (tV r i):=by rw [he] at g3;simp only at g3;omega
 have eb:b=dN r (sV r i):=by rw [he] at g2;simp only at g2;omega
 have em: ∀ j k,j<a→k<b→aF r i j k=F j k:=by
  intro j k hj hk;unfold aF;rw [he,←eb];simp only;rw [lQ F hj hk];rfl
 subst ea;subst eb;rw [he];refine ⟨?_,λj k hj hk=>by rw [em j k hj hk];exact hF j k hj hk⟩;rw [cH em]
structure Fit (a b:Rp):Prop where
 ra:Rv a
 rb:Rv b
 pe:b.p=a.p
 qe:b.q=a.q
 ne:b.dims.length=a.dims.length
theorem aNX {a b:Rp} (h1:wY a=true) (h2:wY b=true) (hp:a.p=b.p) (hq:a.q=b.q):Fit a b:=by
 refine ⟨aEo h1,aEo h2,hp.symm,hq.symm,?_⟩;have e1:=(nX (aCL h1).2.1).2.1;have e2:=(nX (aCL h2).2.1).2.1;rw [hq] at e1;omega
theorem Fit.sV {a b:Rp} (h:Fit a b) (i:Nat):sV b i=sV a i:=by unfold Proofs.YtilpfdokmlanjaaGreat.sV;rw [h.qe]
theorem Fit.tV {a b:Rp} (h:Fit a b) (i:Nat):tV b i=tV a i:=by unfold Proofs.YtilpfdokmlanjaaGreat.tV;rw [h.qe]
def lV (a b:Rp) (v:Nat):Nat:=dN b v*dN a v
def lE (a b:Rp) (i:Nat):Nat:=dN b (tV a i)*dN a (sV a i)
theorem aQf {l:Nat→Nat} {c:Nat} : ∀ {k:Nat},(∀ i,i<k→l i≤c)→off l k≤c*k
 |0,_=>Nat.zero_le _
 |k+1,h=>by
  have h1:=aQf (c:=c) (k:=k) λi hi=>h i (by omega);have h2:=h k (by omega);show off l k+l k≤c*(k+1);rw [Nat.mul_succ];omega
theorem Fit.lV {a b:Rp} (h:Fit a b) {v:Nat} (hv:v<a.dims.length):lV a b v≤16:=Nat.mul_le_mul (h.rb.d v (by rw [h.ne];exact hv)).2 (h.ra.d v hv).2
theorem Fit.lE {a b:Rp} (h:Fit a b) {i:Nat} (hi:i<a.q.src.length):lE a b i≤16:=Nat.mul_le_mul (h.rb.d _ (by rw [h.ne];exact (h.ra.t i hi).2)).2 (h.ra.d _ (h.ra.s i hi).2).2
theorem Fit.offV {a b:Rp} (h:Fit a b) {v:Nat} (hv:v≤a.dims.length):off (Proofs.YtilpfdokmlanjaaGreat.lV a b) v≤80:=by
 have:=aQf (l:=Proofs.YtilpfdokmlanjaaGreat.lV a b) (c:=16) (k:=v) λi hi=>h.lV (by omega);have:=h.ra.n5;omega
theorem Fit.offE {a b:Rp} (h:Fit a b) {i:Nat} (hi:i≤a.q.src.length):off (Proofs.YtilpfdokmlanjaaGreat.lE a b) i≤96:=by
 have:=aQf (l:=Proofs.YtilpfdokmlanjaaGreat.lE a b) (c:=16) (k:=i) λj hj=>h.lE (by omega);have:=h.ra.e6;omega
theorem oD {α:Type} {f:Nat→α} {n k:Nat} (h:k<n):cY ((List.range n).map f) (k:Int)=some (f k):=by rw [cX (by simp;exact h)];simp
theorem jZ {α:Type} {f:Nat→α} {k:Nat} :(List.range k).map f++[f k]=(List.range (k+1)).map f:=by rw [List.range_succ,List.map_append];rfl
theorem aNY {a b:Rp} (h:Fit a b):vL a b=some ((List.range a.dims.length).map λv=>(⟨dN b v,dN a v,bY (dN b v) (dN a v) λ_ _=>0⟩:Mt)):=by
 have n5:=h.ra.n5;unfold vL;rw [cO (r:=(List.range a.dims.length).map λv=>(⟨dN b v,dN a v,bY (dN b v) (dN a v) λ_ _=>0⟩:Mt)) (λk=>((List.range k).map λv=>(⟨dN b v,dN a v,bY (dN b v) (dN a v) λ_ _=>0⟩:Mt),(k:Int))) a.dims.length (by simp) (λk hk=>?_) (λ_=>?_),aA]
 ·have hkb:k<b.dims.length:=by rw [h.ne];exact hk
  unfold xY;simp only;rw [gA hk,aM,iN 0 hk,aA,iN 0 hkb,aA,(h.ra.d k hk).1,(h.rb.d k hkb).1,aGJ (sq (h.rb.d k hkb).2 (h.ra.d k hk).2),aA,bH (by simp;omega),aM,bZ hk (by omega),jZ (f:=λv=>(⟨dN b v,dN a v,bY (dN b v) (dN a v) λ_ _=>0⟩:Mt))]
 ·unfold xY;simp only;rw [gN (bJ _),aR]
theorem aKk {a b:Rp} (h:Fit a b):pL a b=some ((List.range a.q.src.length).map λi=>(⟨dN b (tV a i),dN a (sV a i),bY (dN b (tV a i)) (dN a (sV a i)) λ_ _=>0⟩:Mt)):=by
 have e6:=h.ra.e6;have tl:=h.ra.tl;unfold pL;rw [cO (r:=(List.range a.q.src.length).map λi=>(⟨dN b (tV a i),dN a (sV a i),bY (dN b (tV a i)) (dN a (sV a i)) λ_ _=>0⟩:Mt)) (λk=>((List.range k).map λi=>(⟨dN b (tV a i),dN a (sV a i),bY (dN b (tV a i)) (dN a (sV a i)) λ_ _=>0⟩:Mt),(k:Int))) a.q.src.length (by simp) (λk hk=>?_) (λ_=>?_),aA]
 ·obtain ⟨s1,s2⟩:=h.ra.s k hk;obtain ⟨t1,t2⟩:=h.ra.t k hk;have t3:tV a k<b.dims.length:=by rw [h.ne];exact t2
  unfold kV;simp only;rw [gA hk,aM,iN 0 hk,aA,iN 0 (by omega),aA,t1,iN 0 t3,aA,s1,iN 0 s2,aA,(h.ra.d _ s2).1,(h.rb.d _ t3).1,aGJ (sq (h.rb.d _ t3).2 (h.ra.d _ s2).2),aA,bH (by simp;omega),aM,bZ hk (by omega),jZ (f:=λi=>(⟨dN b (tV a i),dN a (sV a i),bY (dN b (tV a i)) (dN a (sV a i)) λ_ _=>0⟩:Mt))]
 ·unfold kV;simp only;rw [gN (bJ _),aR]
theorem aQg {k:Nat} {r c:Nat→Int} {l:Nat→Nat} {f:Nat→Nat→Int} (hk:k≤1048576) (hl:off l k≤1048576):nZ ((List.range k).map λv=>(⟨r v,c v,(List.range (l v)).map (f v)⟩:Mt))=some (cat l f k):=by
 unfold nZ;rw [cO (r:=cat l f k) (λj=>(cat l f j,(j:Int))) k (by simp [cat]) (λj hj=>?_) (λ_=>?_),aA]
 ·unfold aAD;simp only;have h1:= @aEB l (j+1) k hj;have e:off l (j+1)=off l j+l j:=rfl;rw [dC,List.length_range,gA hj,aM,oD hj,aA];simp only;rw [iU,dC,List.length_range,bH (by omega),aM,bZ hj (by omega)];rfl
 ·unfold aAD;simp only;rw [dC,List.length_range,gN (bJ _),aR]
theorem aPB {k:Nat} {r c:Nat→Int} {z:Nat→List Int} {l:Nat→Nat} {f:Nat→Nat→Int} (hk:k≤1048576) (hl:off l k≤1048576) (hz: ∀ v,v<k→(z v).length=l v):sU ((List.range k).map λv=>(⟨r v,c v,z v⟩:Mt)) (cat l f k)=some ((List.range k).map λv=>(⟨r v,c v,(List.range (l v)).map (f v)⟩:Mt)):=by
 unfold sU;rw [cO (r:=(List.range k).map λv=>(⟨r v,c v,(List.range (l v)).map (f v)⟩:Mt)) (λj=>((cat l f k).drop (off l j),(List.range j).map (λv=>(⟨r v,c v,(List.range (l v)).map (f v)⟩:Mt)),(j:Int))) k (by simp [off]) (λj hj=>?_) (λ_=>?_),aA]
 ·unfold vM;simp only;have h1:= @aEB l (j+1) k hj;have e:off l (j+1)=off l j+l j:=rfl;rw [dC,List.length_range,gA hj,aM,oD hj,aA];simp only;rw [hz j hj,List.length_drop,iU];simp only [eN,Int.toNat_zero,List.drop_zero,Nat.sub_zero];rw [aPA hj];unfold pG;rw [bH (by omega:(0:Int)≤((l j:Nat):Int)),bH (by omega:((l j:Nat):Int)≤((off l k - off l j:Nat):Int))];simp only [decide_true,Bool.and_self,aM,Int.le_refl];have q1:decide (((List.range (l j)).map (f j)).length ≤1048576)=true:=bH (by simp only [dC,List.length_range];omega);have q2:decide (((List.range j).map λv=>(⟨r v,c v,(List.range (l v)).map (f v)⟩:Mt)).length +1≤4294967296)=true:=bH (by simp only [dC,List.length_range];omega);simp only [q1,Bool.and_self,aM,aA];rw [q2,aM,bZ hj (by omega),jZ (f:=λv=>(⟨r v,c v,(List.range (l v)).map (f v)⟩:Mt)),List.drop_drop,List.take_of_length_le (by simp [iU];omega)];rfl
 ·unfold vM;simp only;rw [dC,List.length_range,gN (bJ _),aR]
theorem aXF {p:Int} (hp:lP p=true) {r c:Nat} (hN:r*c≤1048576) {r' c':Int} {F G:Nat→Nat→Int} (hF:yT p r c F) (hG:yT p r c G) {k:Int} (hk:0≤k∧k≤5):
  aCl p ⟨r,c,bY r c F⟩ k ⟨r',c',bY r c G⟩=some ⟨r,c,bY r c λi j=>(F i j+k*G i j) % p⟩:=by
 have e1: ∀ H:Nat→Nat→Int,bY r c H=bY 1 (r*c) (λ_ y=>H (y / c) (y % c)):=by
  intro H;unfold bY;rw [Nat.one_mul];refine uJ λy hy=>?_;rw [Nat.mod_eq_of_lt (List.mem_range.1 hy)]
 have e2:bY r c G=fC (r*c) (λy=>G (y / c) (y % c)):=rfl;unfold aCl gQ pG;simp only;rw [dZ,bH hN,aM,aA,aA];simp only;have:=aKZ hp (r:=1) (c:=r*c) (i:=0) hN (by omega) (F:=λ_ y=>F (y / c) (y % c)) (g:=λy=>G (y / c) (y % c)) hk (λy hy=>hF _ _ (aGK hy).1 (aGK hy).2) (λy hy=>hG _ _ (aGK hy).1 (aGK hy).2);rw [Nat.zero_mul,←e2,←e1] at this;rw [dZ,this,aA,dZ,Nat.one_mul,bH rfl,aM,e1 (λi j=>(F i j+k*G i j) % p)];congr 2;refine cH λa y ha hy=>?_;unfold aKY;rw [aW (by omega)]
def aKl (a b:Rp) (P:Nat→Nat→Nat→Int) (i:Nat):Nat→Nat→Int:=λr k=>
 (iK a.p (dN b (sV a i)) (aF b i) (P (sV a i)) r k+(a.p - 1)*iK a.p (dN a (tV a i)) (P (tV a i)) (aF a i) r k) % a.p
theorem aNZ {a b:Rp} (h:Fit a b) {P:Nat→Nat→Nat→Int} (hP: ∀ v,v<a.dims.length→yT a.p (dN b v) (dN a v) (P v)):
  tJ a b ((List.range a.dims.length).map λv=>(⟨dN b v,dN a v,bY (dN b v) (dN a v) (P v)⟩:Mt))=some ((List.range a.q.src.length).map λi=>(⟨dN b (tV a i),dN a (sV a i),bY (dN b (tV a i)) (dN a (sV a i)) (aKl a b P i)⟩:Mt)):=by
 have e6:=h.ra.e6;have tl:=h.ra.tl;have hb:=eZ h.ra.hp;unfold tJ;rw [cO (r:=(List.range a.q.src.length).map λi=>(⟨dN b (tV a i),dN a (sV a i),bY (dN b (tV a i)) (dN a (sV a i)) (aKl a b P i)⟩:Mt)) (λk=>((List.range k).map λi=>(⟨dN b (tV a i),dN a (sV a i),bY (dN b (tV a i)) (dN a (sV a i)) (aKl a b P i)⟩:Mt),(k:Int))) a.q.src.length (by simp) (λk hk=>?_) (λ_=>?_),aA]
 ·obtain ⟨s1,s2⟩:=h.ra.s k hk;obtain ⟨t1,t2⟩:=h.ra.t k hk;have s3:sV a k<b.dims.length:=by rw [h.ne];exact s2
  have t3:tV a k<b.dims.length:=by rw [h.ne];exact t2
  have hkb:k<b.q.src.length:=by rw [h.qe];exact hk
  obtain ⟨m1,m2⟩:=h.ra.m k hk;obtain ⟨g1,g2⟩:=h.rb.m k hkb;rw [h.sV,h.tV] at g1 g2;rw [h.pe] at g2;have da:=h.ra.d _ s2;have da2:=h.ra.d _ t2;have db:=h.rb.d _ s3;have db2:=h.rb.d _ t3;unfold oA;simp only;rw [gA hk,aM,iN 0 hk,aA,iN ⟨0,0,[]⟩ (by rw [h.rb.ml];exact hkb),aA,g1,s1,oD s2,aA];rw [aGx h.ra.hp (sq db2.2 db.2) (sq db.2 da.2) (sq db2.2 da.2) (by omega) (by omega) (by omega) g2 (hP _ s2),aA,iN 0 (by omega),aA,t1,oD t2,aA,iN ⟨0,0,[]⟩ (by rw [h.ra.ml];exact hk),aA,m1];rw [aGx h.ra.hp (sq db2.2 da2.2) (sq da2.2 da.2) (sq db2.2 da.2) (by omega) (by omega) (by omega) (hP _ t2) m2,aA,dV (by omega)];rw [aXF h.ra.hp (sq db2.2 da.2) (aGw h.ra.hp _ _ _ _ _) (aGw h.ra.hp _ _ _ _ _) (by omega),aA,bH (by simp;omega),aM,bZ hk (by omega)];have:=jZ (f:=λi=>(⟨dN b (tV a i),dN a (sV a i),bY (dN b (tV a i)) (dN a (sV a i)) (aKl a b P i)⟩:Mt)) (k:=k);rw [←this];rfl
 ·unfold oA;simp only;rw [gN (bJ _),aR]
theorem aAt {R N:Nat} (hN:R*N≤1048576) (h1:R≤1048576) (h2:N≤1048576) (M:Nat→Nat→Int):fT R ((List.range N).map λk=>fC R λi=>M i k)=some ⟨R,N,bY R N M⟩:=by
 unfold fT;rw [dC,List.length_range,aGJ hN,aA];simp only;rw [cO (r:=bY R N M) (λk=>(bY R N (λi j=>if j<k then M i j else 0),(k:Int))) N (by simp) (λk hk=>?_) (λ_=>?_),aA]
 ·unfold mP;simp only;rw [dC,List.length_range,gA hk,aM,oD hk,aA];rw [cO (r:=bY R N (λi j=>if j<k+1 then M i j else 0)) (λx=>(bY R N (λi j=>if j<k∨(j=k∧i<x) then M i j else 0),(x:Int))) R (by simp) (λx hx=>?_) (λ_=>?_),aA,bZ hk (by omega)]
  ·unfold mO;simp only;rw [dY,gA hx,aM,aCk _ hx,aA,atT hN hx hk,aA,aLa hN hx hk,bZ hx (by omega)];congr 3;refine cH λi j hi hj=>?_;simp only [aEa];by_cases e:i=x∧j=k
   ·rw [aW e,aW (by omega),e.1,e.2]
   ·rw [aZ e];by_cases e2:j<k∨j=k∧i<x
    ·rw [aW e2,aW (by omega)]
    ·rw [aZ e2,aZ (by omega)]
  ·unfold mO;simp only;rw [dY,gN (bJ _),aR];congr 2;refine cH λi j hi hj=>?_;by_cases e:j<k+1
   ·rw [aW e,aW (by omega)]
   ·rw [aZ e,aZ (by omega)]
 ·unfold mP;simp only;rw [dC,List.length_range,gN (bJ _),aR];congr 2;exact cH λi j hi hj=>by rw [aW hj]
def eF (a b:Rp) (i r k v j l:Nat):Int:=((if sV a i=v∧k=l then aF b i r j else 0) - (if tV a i=v∧r=j then aF a i l k else 0)) % a.p
def e2 (a b:Rp) (i y v z:Nat):Int:=eF a b i (y / dN a (sV a i)) (y % dN a (sV a i)) v (z / dN a v) (z % dN a v)
def mE (a b:Rp):Nat→Nat→Int:=λx k=>(cat (lE a b) (λi y=>(cat (lV a b) (e2 a b i y) a.dims.length)[k]?.getD 0) a.q.src.length)[x]?.getD 0
def nE (a b:Rp):Nat:=off (lE a b) a.q.src.length
def nV (a b:Rp):Nat:=off (lV a b) a.dims.length
theorem aMW {a b:Rp} (h:Fit a b):yT a.p (nE a b) (nV a b) (mE a b):=by
 intro x k hx hk;obtain ⟨i,y,hi,hy,rfl⟩:=aFL hx;obtain ⟨v,z,hv,hz,rfl⟩:=aFL hk;unfold mE;rw [rP _ hi hy,jP,rP _ hv hz,jP];exact xX h.ra.hp
theorem aED (F G:Nat→Nat→Int) (i j:Nat): ∀ k,aCx F G i j k=sN (λt=>F i t*G t j) k
 |0=>rfl
 |k+1=>by rw [aCx,sN,aED F G i j k]
def unP (a:Rp) (v0 z0:Nat):Nat→Nat→Nat→Int:=λv j l=>if v=v0∧j*dN a v+l=z0 then 1 else 0
theorem aXG {a:Rp} (hp:lP a.p=true) (v0 z0 v m n:Nat):yT a.p m n (unP a v0 z0 v):=by
 have hb:=eZ hp;intro i j _ _;unfold unP;split <;> omega
theorem aPC {a b:Rp} (h:Fit a b) {v0 z0 i r k:Nat} (hv:v0<a.dims.length) (hz:z0<lV a b v0) (hi:i<a.q.src.length) (hr:r<dN b (tV a i)) (hk:k<dN a (sV a i)):
  aKl a b (unP a v0 z0) i r k=eF a b i r k v0 (z0 / dN a v0) (z0 % dN a v0):=by
 have hb:=eZ h.ra.hp;obtain ⟨hj0,hl0⟩:=aGK hz
 have key: ∀ v j l,l<dN a v→(v=v0∧j*dN a v+l=z0↔v=v0∧j=z0 / dN a v0∧l=z0 % dN a v0):=by
  intro v j l hl;constructor
  ·rintro ⟨rfl,rfl⟩;exact ⟨rfl,(aBy hl).symm,(aBz hl).symm⟩
  ·rintro ⟨rfl,rfl,rfl⟩;exact ⟨rfl,aBM⟩
 have e1:iK a.p (dN b (sV a i)) (aF b i) (unP a v0 z0 (sV a i)) r k=(if sV a i=v0∧k=z0 % dN a v0 then aF b i r (z0 / dN a v0) else 0) % a.p:=by
  unfold iK;rw [aED];by_cases e:sV a i=v0∧k=z0 % dN a v0
  ·rw [aW e,aBW (j:=z0 / dN a v0) (by rw [e.1];exact hj0)]
   ·unfold unP;rw [aW ((key _ _ _ hk).2 ⟨e.1,rfl,e.2⟩),Int.mul_one]
   ·intro t ht htj;unfold unP;rw [aZ λg=>htj ((key _ _ _ hk).1 g).2.1,Int.mul_zero]
  ·rw [aZ e,dA (g:=λ_=>0),aAs];intro t ht;unfold unP;rw [aZ λg=>e ⟨((key _ _ _ hk).1 g).1,((key _ _ _ hk).1 g).2.2⟩,Int.mul_zero]
 have e2:iK a.p (dN a (tV a i)) (unP a v0 z0 (tV a i)) (aF a i) r k=(if tV a i=v0∧r=z0 / dN a v0 then aF a i (z0 % dN a v0) k else 0) % a.p:=by
  unfold iK;rw [aED];by_cases e:tV a i=v0∧r=z0 / dN a v0
  ·rw [aW e,aBW (j:=z0 % dN a v0) (by rw [e.1];exact hl0)]
   ·unfold unP;rw [aW ((key _ _ _ (by rw [e.1];exact hl0)).2 ⟨e.1,e.2,rfl⟩),Int.one_mul]
   ·intro t ht htj;unfold unP;rw [aZ λg=>htj ((key _ _ _ ht).1 g).2.2,Int.zero_mul]
  ·rw [aZ e,dA (g:=λ_=>0),aAs];intro t ht;unfold unP;rw [aZ λg=>e ⟨((key _ _ _ ht).1 g).1,((key _ _ _ ht).1 g).2.1⟩,Int.zero_mul]
 unfold aKl eF;rw [e1,e2];generalize (if sV a i=v0∧k=z0 % dN a v0 then aF b i r (z0 / dN a v0) else 0)=x;generalize (if tV a i=v0∧r=z0 / dN a v0 then aF a i (z0 % dN a v0) k else 0)=y;rw [show x % a.p+(a.p - 1)*(y % a.p)=(x % a.p - y % a.p)+a.p*(y % a.p) by rw [Int.sub_mul];omega,Int.add_mul_emod_self_left];exact (Int.sub_emod x y a.p).symm
theorem aNb {a b:Rp} (h:Fit a b):tK a b=some ⟨nE a b,nV a b,bY (nE a b) (nV a b) (mE a b)⟩:=by
 have n5:=h.ra.n5;have e6:=h.ra.e6;have bV:=h.offV (bJ _);have bE:=h.offE (bJ _);unfold tK;rw [aNY h,aA];have z1:nZ ((List.range a.dims.length).map λv=>(⟨dN b v,dN a v,bY (dN b v) (dN a v) λ_ _=>0⟩:Mt))=some (cat (lV a b) (λ_ _=>0) a.dims.length):=aQg (l:=lV a b) (f:=λ_ _=>0) (by omega) (by omega);have z2:nZ ((List.range a.q.src.length).map λi=>(⟨dN b (tV a i),dN a (sV a i),bY (dN b (tV a i)) (dN a (sV a i)) λ_ _=>0⟩:Mt))=some (cat (lE a b) (λ_ _=>0) a.q.src.length):=aQg (l:=lE a b) (f:=λ_ _=>0) (by omega) (by omega);rw [z1,aA];rw [cO (r:=(List.range (nV a b)).map λk=>fC (nE a b) λx=>mE a b x k) (λk=>((List.range k).map (λk=>fC (nE a b) λx=>mE a b x k),(k:Int))) (nV a b) (by simp) (λk hk=>?_) (λ_=>?_),aA,aKk h,aA,z2,aA,iU]
 ·have:=aAt (R:=nE a b) (N:=nV a b) (Nat.le_trans (Nat.mul_le_mul bE bV) (by decide)) (by unfold nE;omega) (by unfold nV;omega) (mE a b);unfold nE at this ⊢;rw [this,aA]
 ·obtain ⟨v0,z0,hv0,hz0,ek⟩:=aFL hk;unfold oC;simp only [iU];rw [show off (lV a b) a.dims.length=nV a b from rfl,gA hk,aM,bH (by omega),bH (by unfold nV;omega:((nV a b:Nat):Int)≤1048576),Bool.and_self,aM,eN,eN,cX (by simp;exact hk),aA]
  have eu:(List.replicate (nV a b) (0:Int)).set k 1=cat (lV a b) (λv z=>if v=v0∧z=z0 then 1 else 0) a.dims.length:=by
   unfold nV;rw [aOz,ek,aNW hv0 hz0]
  rw [eu,aPB (l:=lV a b) (r:=λv=>(dN b v:Int)) (c:=λv=>(dN a v:Int)) (z:=λv=>bY (dN b v) (dN a v) λ_ _=>0) (by omega) (by omega) (λv _=>dZ _ _ _),aA]
  have eb:((List.range a.dims.length).map λv=>(⟨dN b v,dN a v,(List.range (lV a b v)).map (λz=>if v=v0∧z=z0 then (1:Int) else 0)⟩:Mt))=(List.range a.dims.length).map λv=>(⟨dN b v,dN a v,bY (dN b v) (dN a v) (unP a v0 z0 v)⟩:Mt):=by
   refine uJ λv hv=>?_;congr 1;refine aUL λy hy=>?_;unfold unP;rw [aBM]
  rw [eb,aNZ h (λv _=>aXG h.ra.hp _ _ _ _ _),aA];have ef:nZ ((List.range a.q.src.length).map λi=>(⟨dN b (tV a i),dN a (sV a i),bY (dN b (tV a i)) (dN a (sV a i)) (aKl a b (unP a v0 z0) i)⟩:Mt))=some (cat (lE a b) (λi y=>aKl a b (unP a v0 z0) i (y / dN a (sV a i)) (y % dN a (sV a i))) a.q.src.length):=aQg (l:=lE a b) (f:=λi y=>aKl a b (unP a v0 z0) i (y / dN a (sV a i)) (y % dN a (sV a i))) (by omega) (by omega);rw [ef,aA,bH (by simp;unfold nV at hk;omega),aM,bZ hk (by unfold nV;omega),←jZ (f:=λk=>fC (nE a b) λx=>mE a b x k)];congr 5;symm;refine aEC (by rw [dY];rfl) λi y hi hy=>?_;have hx:off (lE a b) i+y<nE a b:=nC hi hy;unfold fC;rw [List.getElem?_map,List.getElem?_range hx,Option.map_some];congr 1;obtain ⟨q1,q2⟩:=aGK hy;rw [aPC h hv0 hz0 hi q1 q2];unfold mE;rw [rP _ hi hy,jP,ek,rP _ hv0 hz0,jP];rfl
 ·unfold oC;simp only [iU];rw [show off (lV a b) a.dims.length=nV a b from rfl,gN (bJ _),aR]
theorem aUN {a b:Rp} (h:Fit a b):Tb a.p (nE a b) (nV a b) (mE a b):=by
 have bV:=h.offV (bJ _);have bE:=h.offE (bJ _);exact ⟨h.ra.hp,Nat.le_trans (Nat.mul_le_mul bE bV) (by decide),by unfold nE;omega,by unfold nV;omega,aMW h⟩
def gW (a b:Rp):Nat:=nV a b - rkF a.p (nE a b) (nV a b) (mE a b)
theorem aYD {p:Int} {m n:Nat} {F:Nat→Nat→Int} :rkF p m n F≤n:=aAc n
end
noncomputable section
theorem aWF {L:List Nat} (hL:L.length≤1048576) (k:Nat):aBi (fF L) k=some (L.contains k):=by
 unfold aBi;rw [aWs (n:=L.length) (λi=>decide (L[i]?.getD 0=k)) true (by omega) (λi hi=>?_) (λ_=>?_),aA]
 ·have e:(List.range L.length).any (λi=>decide (L[i]?.getD 0=k))=L.contains k:=by
   rw [Bool.eq_iff_iff,List.any_eq_true,List.contains_iff_mem];constructor
   ·rintro ⟨i,hi,he⟩;have hi:=List.mem_range.1 hi;have he:=of_decide_eq_true he;rw [iC hi,jP] at he;subst he;exact List.getElem_mem hi
   ·intro h;obtain ⟨i,hi,rfl⟩:=List.mem_iff_getElem.1 h;exact ⟨i,List.mem_range.2 hi,by simp [hi]⟩
  rw [e];cases L.contains k <;> rfl
 ·unfold xH;rw [dH,gA hi,aM,iN 0 (by rw [dH];exact hi),aA]
  have e:decide ((fF L)[i]?.getD 0=(k:Int))=decide (L[i]?.getD 0=k):=by
   rw [Bool.eq_iff_iff,lD,lD];simp [fF,hi];omega
  rw [e];cases decide (L[i]?.getD 0=k) <;> rfl
 ·unfold xH;rw [dH,gN (bJ _),aR]
theorem aKm {L:List Nat} {i:Nat} (h:i<L.length):cY (fF L) (i:Int)=some ((L[i]?.getD 0:Nat):Int):=by
 rw [cX (by rw [dH];exact h)];simp [fF,h]
theorem aMX {p:Int} {m:Nat} {F:Nat→Nat→Int} {t i:Nat} (h:i<(cD p m F t).2.length):(cD p m F t).2[i]?.getD 0<t:=aDK t _ (jS 0 h)
theorem aGL {p:Int} {m n:Nat} {F:Nat→Nat→Int} (T:Tb p m n F):sI p ⟨m,n,bY m n F⟩=some (aER p n (cD p m F n).1 (cD p m F n).2):=by
 have hn:=T.hn;have hN:=T.hN;have hin:=sF (by have:=eZ T.hp;omega:0<p) T.hi n;have hlen:= @qB p m F n;have hlen2:= @aAc p m F n;have hget:= @aMX p m F n;unfold sI;rw [aDz T,aA];generalize (cD p m F n).1=R at*;generalize (cD p m F n).2=L at*;rw [cO (r:=aER p n R L) (λk=>((k:Int),((List.range k).filter λk=> !L.contains k).map λk=>aEd p n R L k L.length)) n (by simp) (λk hk=>?_) (λ_=>?_),aA]
 ·unfold rO;simp only;have hfl:((List.range k).filter λk=> !L.contains k).length ≤k:=by have:=List.length_filter_le (λk=> !L.contains k) (List.range k);simpa using this
  rw [gA hk,aM,aWF (by omega),aA,List.range_succ,List.filter_append,List.map_append];cases hc:L.contains k with
  |true=>
   rw [aM,bZ hk (by omega),show [k].filter (λk=> !L.contains k)=[] by simp only [List.filter_cons,List.filter_nil,hc,dW,fU,if_false],List.map_nil,List.append_nil]
  |false=>
   rw [aR,bH (by omega),bH (by omega:(n:Int)≤1048576),Bool.and_self,aM,eN,eN,cX (by simp;exact hk),aA];rw [cO (r:=aEd p n R L k L.length) (λi=>(aEd p n R L k i,(i:Int))) L.length (by rfl) (λi hi=>?_) (λ_=>?_),aA]
   ·rw [bH (by simp only [dC];omega),aM,bZ hk (by omega),show [k].filter (λk=> !L.contains k)=[k] by simp only [List.filter_cons,List.filter_nil,hc,Bool.not_false,if_true]];rfl
   ·unfold rN;simp only;have b1:=hin i k (by omega) hk;have hp:=eZ T.hp;have hv:=hget hi;rw [dH,gA hi,aM,aKm hi,aA,atT hN (by omega) hk,aA,dV (by omega),aBm T.hp (by omega),aA,cX (by rw [aCC];exact hv),aA,eN,bZ hi (by omega)];rfl
   ·unfold rN;simp only;rw [dH,gN (bJ _),aR]
 ·unfold rO;simp only;rw [gN (bJ _),aR];rfl
theorem aKn {p:Int} (hp:lP p=true) {m n:Nat} {F:Nat→Nat→Int} (hi:yT p m n F):(aER p n (cD p m F n).1 (cD p m F n).2).length=n - rkF p m n F:=by
 have h:=aCB hp hi n (bJ _);have:=aUM h.inc (aDK n);unfold aER rkF;rw [dC];omega
theorem Fit.lA {a b:Rp} (h:Fit a b) {v:Nat} (hv:v<a.dims.length):wr ((dN a v:Int)*(dN b v:Int))=((Proofs.YtilpfdokmlanjaaGreat.lV a b v:Nat):Int):=by
 have:=h.lV hv;unfold Proofs.YtilpfdokmlanjaaGreat.lV at*;rw [Nat.mul_comm] at this ⊢;exact aKI (by omega)
theorem aRm {a b:Rp} (h:Fit a b) {v:Nat} (hv:v≤a.dims.length):aAE a b v=some ((off (lV a b) v:Nat):Int):=by
 have n5:=h.ra.n5;unfold aAE;rw [cO (r:=((off (lV a b) v:Nat):Int)) (λk=>(((off (lV a b) k:Nat):Int),(k:Int))) v (by rfl) (λk hk=>?_) (λ_=>?_),aA]
 ·have hka:k<a.dims.length:=by omega
  have hkb:k<b.dims.length:=by rw [h.ne];exact hka
  have ho:=h.offV (v:=k+1) (by omega);have e:off (lV a b) (k+1)=off (lV a b) k+lV a b k:=rfl;unfold xZ;simp only;rw [gA hk,aM,iN 0 hka,aA,iN 0 hkb,aA,(h.ra.d k hka).1,(h.rb.d k hkb).1,h.lA hka,bZ hk (by omega),dV (by omega),e];simp
 ·unfold xZ;simp only;rw [gN (bJ _),aR]
theorem aMY {a b:Rp} (h:Fit a b):uR a b=some (nV a b:Int):=by
 have n5:=h.ra.n5;unfold uR;rw [cO (r:=(nV a b:Int)) (λk=>(((off (lV a b) k:Nat):Int),(k:Int))) a.dims.length (by rfl) (λk hk=>?_) (λ_=>?_),aA]
 ·have hkb:k<b.dims.length:=by rw [h.ne];exact hk
  have ho:=h.offV (v:=k+1) (by omega);have e:off (lV a b) (k+1)=off (lV a b) k+lV a b k:=rfl;unfold tL;simp only;rw [gA hk,aM,iN 0 hk,aA,iN 0 hkb,aA,(h.ra.d k hk).1,(h.rb.d k hkb).1,h.lA hk,bZ hk (by omega),dV (by omega),e];simp
 ·unfold tL;simp only;rw [gN (bJ _),aR];rfl
def aEp (a b:Rp) (i r k j:Nat):Nat→Nat→Int:=λv z=>if v=sV a i∧z % dN a v=k∧z / dN a v<j then aF b i r (z / dN a v) else 0
def aPD (a b:Rp) (i r k j:Nat):Nat→Nat→Int:=λv z=>if v=tV a i∧z / dN a v=r∧z % dN a v<j then (aEp a b i r k (dN b (sV a i)) v z - aF a i (z % dN a v) k) % a.p else aEp a b i r k (dN b (sV a i)) v z
theorem aHx (r c:Nat) (F:Nat→Nat→Int):bY r c F++fC c (F r)=bY (r+1) c F:=by
 rw [←aHC c F r,←aHC c F (r+1),List.range_succ,List.map_append,List.flatten_append];simp
theorem aWG {a b:Rp} (h:Fit a b) {i r k:Nat} (hi:i<a.q.src.length) (hr:r<dN b (tV a i)) (hk:k<dN a (sV a i)) (x1 x2 x3:Int×List Int×Int) (e1:x1.2.2=i) (e2':x2.2.2=r) (e3:x3.2.2=k):
  ∃ y,Lp (iR a b (sV a i) x1 x2 x3) (List.replicate (nV a b) 0,0)=some y∧Lp (iT a b (sV a i) (tV a i) x1 x2 x3) (y,0)=some (cat (lV a b) (e2 a b i (r*dN a (sV a i)+k)) a.dims.length):=by
 have hb:=eZ h.ra.hp;have n5:=h.ra.n5;obtain ⟨s1,s2⟩:=h.ra.s i hi;obtain ⟨t1,t2⟩:=h.ra.t i hi;have s3:sV a i<b.dims.length:=by rw [h.ne];exact s2
 have t3:tV a i<b.dims.length:=by rw [h.ne];exact t2
 have hib:i<b.q.src.length:=by rw [h.qe];exact hi
 obtain ⟨m1,m2⟩:=h.ra.m i hi;obtain ⟨g1,g2⟩:=h.rb.m i hib;rw [h.sV,h.tV] at g1 g2;rw [h.pe] at g2;have da:=h.ra.d _ s2;have da2:=h.ra.d _ t2;have db:=h.rb.d _ s3;have db2:=h.rb.d _ t3;have oS:=h.offV (v:=sV a i+1) s2;have oT:=h.offV (v:=tV a i+1) t2;have eS:off (lV a b) (sV a i+1)=off (lV a b) (sV a i)+lV a b (sV a i):=rfl;have eT:off (lV a b) (tV a i+1)=off (lV a b) (tV a i)+lV a b (tV a i):=rfl;refine ⟨cat (lV a b) (aEp a b i r k (dN b (sV a i))) a.dims.length,?_,?_⟩
 ·refine cO (λj=>(cat (lV a b) (aEp a b i r k j) a.dims.length,(j:Int))) (dN b (sV a i)) ?_ (λj hj=>?_) (λ_=>?_)
  ·unfold nV;rw [aOz];congr 1;exact aDV λv z _ _=>by unfold aEp;rw [aZ λq=>absurd q.2.2 (Nat.not_lt_zero _)]
  ·have hz:j*dN a (sV a i)+k<lV a b (sV a i):=aCf hj hk
   have hpos:wr (wr (((off (lV a b) (sV a i):Nat):Int)+wr ((j:Int)*(dN a (sV a i):Int)))+(k:Int))=((off (lV a b) (sV a i)+(j*dN a (sV a i)+k):Nat):Int):=by
    rw [aKI (by omega),dV (x:=((off (lV a b) (sV a i):Nat):Int)+((j*dN a (sV a i):Nat):Int)) (by omega),dV (by omega)];omega
   have hw:=g2 r j hr hj;unfold iR;simp only [e1,e2',e3];rw [iN 0 s3,aA,db.1,gA hj,aM,aRm h (by omega),aA,iN 0 s2,aA,da.1,hpos,cX (by rw [iU];exact nC s2 hz)];rw [aA,iN ⟨0,0,[]⟩ (by rw [h.rb.ml];exact hib),aA,aA,g1];simp only;rw [atT (sq db2.2 db.2) hr hj,aA]
   have hv0:(cat (lV a b) (aEp a b i r k j) a.dims.length)[off (lV a b) (sV a i)+(j*dN a (sV a i)+k)]'(by rw [iU];exact nC s2 hz)=0:=by
    have:=rP (aEp a b i r k j) s2 hz;rw [iC (by rw [iU];exact nC s2 hz)] at this;rw [Option.some.inj this];unfold aEp;rw [aZ];rw [aBy hk];omega
   rw [hv0,Int.zero_add,dV (by omega),aBm h.ra.hp (by omega),aA,aA,eN,aNW s2 hz,bZ hj (by omega),Int.emod_eq_of_lt hw.1 hw.2];congr 3;refine aDV λv z hv hz2=>?_;by_cases e:v=sV a i∧z=j*dN a (sV a i)+k
   ·obtain ⟨rfl,rfl⟩:=e;rw [aW ⟨rfl,rfl⟩];unfold aEp;rw [aBy hk,aBz hk,aW ⟨rfl,rfl,Nat.lt_succ_self _⟩]
   ·rw [aZ e];unfold aEp;by_cases e4:v=sV a i∧z % dN a v=k∧z / dN a v<j
    ·rw [aW e4,aW ⟨e4.1,e4.2.1,by omega⟩]
    ·rw [aZ e4,aZ];rintro ⟨q1,q2,q3⟩
     have q4:z / dN a v=j:=by
      rcases eO (z / dN a v) j with h'|h'
      ·exact absurd ⟨q1,q2,h'⟩ e4
      ·omega
     refine e ⟨q1,?_⟩;rw [←@aBM (dN a v) z,q4,q2,q1]
  ·unfold iR;simp only [e1,e2',e3];rw [iN 0 s3,aA,db.1,gN (bJ _),aR]
 ·refine cO (λj=>(cat (lV a b) (aPD a b i r k j) a.dims.length,(j:Int))) (dN a (tV a i)) ?_ (λj hj=>?_) (λ_=>?_)
  ·congr 1;exact aDV λv z _ _=>by unfold aPD;rw [aZ λq=>absurd q.2.2 (Nat.not_lt_zero _)]
  ·have hz:r*dN a (tV a i)+j<lV a b (tV a i):=aCf hr hj
   have hpos:wr (wr (((off (lV a b) (tV a i):Nat):Int)+wr ((r:Int)*(dN a (tV a i):Int)))+(j:Int))=((off (lV a b) (tV a i)+(r*dN a (tV a i)+j):Nat):Int):=by
    rw [aKI (by omega),dV (x:=((off (lV a b) (tV a i):Nat):Int)+((r*dN a (tV a i):Nat):Int)) (by omega),dV (by omega)];omega
   have hw:=m2 j k hj hk;unfold iT;simp only [e1,e2',e3];rw [iN 0 t2,aA,da2.1,gA hj,aM,aRm h (by omega),aA,aA,hpos,cX (by rw [iU];exact nC t2 hz)];rw [aA,iN ⟨0,0,[]⟩ (by rw [h.ra.ml];exact hi),aA,iN 0 s2,aA,m1,da.1];simp only;rw [atT (sq da2.2 da.2) hj hk,aA]
   have hv0:(cat (lV a b) (aPD a b i r k j) a.dims.length)[off (lV a b) (tV a i)+(r*dN a (tV a i)+j)]'(by rw [iU];exact nC t2 hz)=aEp a b i r k (dN b (sV a i)) (tV a i) (r*dN a (tV a i)+j):=by
    have:=rP (aPD a b i r k j) t2 hz;rw [iC (by rw [iU];exact nC t2 hz)] at this;rw [Option.some.inj this];unfold aPD;rw [aZ];rw [aBz hj];omega
   have hbA:0≤aEp a b i r k (dN b (sV a i)) (tV a i) (r*dN a (tV a i)+j)∧aEp a b i r k (dN b (sV a i)) (tV a i) (r*dN a (tV a i)+j)≤5:=by
    unfold aEp;split
    ·rename_i q;have:=g2 r ((r*dN a (tV a i)+j) / dN a (tV a i)) hr q.2.2;omega
    ·omega
   rw [hv0];generalize hA:aEp a b i r k (dN b (sV a i)) (tV a i) (r*dN a (tV a i)+j)=A at*;rw [dV (x:=A - aF a i j k) (by omega),aBm h.ra.hp (by omega),aA,aA,eN,aNW t2 hz,bZ hj (by omega)];congr 3;refine aDV λv z hv hz2=>?_;by_cases e:v=tV a i∧z=r*dN a (tV a i)+j
   ·obtain ⟨rfl,rfl⟩:=e;rw [aW ⟨rfl,rfl⟩];unfold aPD;rw [aBy hj,aBz hj,aW ⟨rfl,rfl,Nat.lt_succ_self _⟩,hA]
   ·rw [aZ e];unfold aPD;by_cases e4:v=tV a i∧z / dN a v=r∧z % dN a v<j
    ·rw [aW e4,aW ⟨e4.1,e4.2.1,by omega⟩]
    ·rw [aZ e4,aZ];rintro ⟨q1,q2,q3⟩
     have q4:z % dN a v=j:=by
      rcases eO (z % dN a v) j with h'|h'
      ·exact absurd ⟨q1,q2,h'⟩ e4
      ·omega
     refine e ⟨q1,?_⟩;rw [←@aBM (dN a v) z,q4,q2,q1]
  ·unfold iT;simp only [e1,e2',e3];rw [iN 0 t2,aA,da2.1,gN (bJ _),aR];congr 2;refine aDV λv z hv hz2=>?_;have hzb:z<dN b v*dN a v:=hz2;obtain ⟨q1,q2⟩:=aGK hzb
   have eA:aEp a b i r k (dN b (sV a i)) v z=if sV a i=v∧k=z % dN a v then aF b i r (z / dN a v) else 0:=by
    unfold aEp;by_cases e:sV a i=v∧k=z % dN a v
    ·rw [aW e,aW ⟨e.1.symm,e.2.symm,by rw [e.1];exact q1⟩]
    ·rw [aZ e,aZ λq=>e ⟨q.1.symm,q.2.1.symm⟩]
   unfold aPD e2 eF;rw [eA,aBy hk,aBz hk];by_cases e:tV a i=v∧r=z / dN a v
   ·rw [aW ⟨e.1.symm,e.2.symm,by rw [e.1];exact q2⟩,aW e]
   ·rw [aZ λq=>e ⟨q.1.symm,q.2.1.symm⟩,aZ e,Int.sub_zero];split
    ·rename_i q;have hw:=g2 r (z / dN a v) hr (by rw [q.1];exact q1);exact (Int.emod_eq_of_lt hw.1 hw.2).symm
    ·simp
theorem aXH {a b:Rp} {i y:Nat} (hi:i<a.q.src.length) (hy:y<lE a b i):cat (lV a b) (e2 a b i y) a.dims.length=fC (nV a b) (mE a b (off (lE a b) i+y)):=by
 symm;refine aEC (by rw [dY];rfl) λv z hv hz=>?_;have hk:off (lV a b) v+z<nV a b:=nC hv hz;unfold fC;rw [List.getElem?_map,List.getElem?_range hk,Option.map_some];congr 1;unfold mE;rw [rP _ hi hy,jP,rP _ hv hz,jP]
theorem aEq {a b:Rp} (h:Fit a b):pM a b=some ⟨nE a b,nV a b,bY (nE a b) (nV a b) (mE a b)⟩:=by
 have n5:=h.ra.n5;have e6:=h.ra.e6;have bV:=h.offV (bJ _);have bE:=h.offE (bJ _);have tl:=h.ra.tl;have ml:=h.ra.ml;have hV:nV a b≤80:=bV;unfold pM;rw [aMY h,aA];rw [cO (r:=((nE a b:Int),bY (nE a b) (nV a b) (mE a b))) (λi=>(((off (lE a b) i:Nat):Int),bY (off (lE a b) i) (nV a b) (mE a b),(i:Int))) a.q.src.length (by simp [off,bY]) (λi hi=>?_) (λ_=>?_),aA]
 ·obtain ⟨s1,s2⟩:=h.ra.s i hi;obtain ⟨t1,t2⟩:=h.ra.t i hi;have t3:tV a i<b.dims.length:=by rw [h.ne];exact t2
  have da:=h.ra.d _ s2;have db2:=h.rb.d _ t3;have oE:=h.offE (i:=i+1) hi;have eE:off (lE a b) (i+1)=off (lE a b) i+dN b (tV a i)*dN a (sV a i):=rfl;unfold kY;simp only;rw [ml,gA hi,aM,iN 0 hi,aA,s1,iN 0 (by omega),aA,t1];rw [cO (r:=(((off (lE a b) (i+1):Nat):Int),bY (off (lE a b) (i+1)) (nV a b) (mE a b))) (λr=>(((off (lE a b) i+r*dN a (sV a i):Nat):Int),bY (off (lE a b) i+r*dN a (sV a i)) (nV a b) (mE a b),(r:Int))) (dN b (tV a i)) (by simp) (λr hr=>?_) (λ_=>?_),aA,bZ hi (by omega)]
  ·unfold kX;simp only;rw [iN 0 t3,aA,db2.1,gA hr,aM];rw [cO (r:=(((off (lE a b) i+(r+1)*dN a (sV a i):Nat):Int),bY (off (lE a b) i+(r+1)*dN a (sV a i)) (nV a b) (mE a b))) (λk=>(((off (lE a b) i+r*dN a (sV a i)+k:Nat):Int),bY (off (lE a b) i+r*dN a (sV a i)+k) (nV a b) (mE a b),(k:Int))) (dN a (sV a i)) (by simp) (λk hk=>?_) (λ_=>?_),aA,bZ hr (by omega)]
   ·unfold kW;simp only;have hy:r*dN a (sV a i)+k<lE a b i:=aCf hr hk;have hx:off (lE a b) i+(r*dN a (sV a i)+k)<nE a b:=nC hi hy;have hx2:nE a b≤96:=bE;have hsz:(off (lE a b) i+r*dN a (sV a i)+k)*nV a b≤96*80:=Nat.mul_le_mul (by omega) hV;rw [iN 0 s2,aA,da.1,gA hk,aM,bH (by omega),bH (by omega:(nV a b:Int)≤1048576),Bool.and_self,aM,eN];obtain ⟨y,y1,y2⟩:=aWG h hi hr hk (((off (lE a b) i:Nat):Int),bY (off (lE a b) i) (nV a b) (mE a b),(i:Int)) (((off (lE a b) i+r*dN a (sV a i):Nat):Int),bY (off (lE a b) i+r*dN a (sV a i)) (nV a b) (mE a b),(r:Int)) (((off (lE a b) i+r*dN a (sV a i)+k:Nat):Int),bY (off (lE a b) i+r*dN a (sV a i)+k) (nV a b) (mE a b),(k:Int)) rfl rfl rfl;rw [y1,aA,y2,aA,aXH hi hy,dZ,dY,bH (by omega),aM,bZ hk (by omega),dV (by omega),←Nat.add_assoc,aHx];congr 2
   ·unfold kW;simp only;rw [iN 0 s2,aA,da.1,gN (bJ _),aR,Nat.succ_mul,Nat.add_assoc]
  ·unfold kX;simp only;rw [iN 0 t3,aA,db2.1,gN (bJ _),aR,eE]
 ·unfold kY;simp only;rw [ml,gN (bJ _),aR];rfl
theorem aQh {a b:Rp} (h:Fit a b) {x:List Int} (hx:x.length=nV a b): ∃ r,kK a b x=some r:=by
 have n5:=h.ra.n5;have bV:=h.offV (bJ _);have hV:nV a b≤80:=bV;refine ⟨(List.range a.dims.length).map λv=>(⟨dN b v,dN a v,(x.drop (off (lV a b) v)).take (lV a b v)⟩:Mt),?_⟩;unfold kK;rw [cO (r:=(List.range a.dims.length).map λv=>(⟨dN b v,dN a v,(x.drop (off (lV a b) v)).take (lV a b v)⟩:Mt)) (λk=>((List.range k).map (λv=>(⟨dN b v,dN a v,(x.drop (off (lV a b) v)).take (lV a b v)⟩:Mt)),((off (lV a b) k:Nat):Int),(k:Int))) a.dims.length (by simp [off]) (λk hk=>?_) (λ_=>?_),aA]
 ·have hkb:k<b.dims.length:=by rw [h.ne];exact hk
  have ho:= @aEB (lV a b) (k+1) a.dims.length hk;have e:off (lV a b) (k+1)=off (lV a b) k+lV a b k:=rfl;unfold jK;simp only
  rw [gA hk,aM,iN 0 hk,aA,iN 0 hkb,aA,aA,aA,(h.ra.d k hk).1,(h.rb.d k hkb).1,h.lA hk,dV (x:=((off (lV a b) k:Nat):Int)+((lV a b k:Nat):Int)) (by omega),hx,
   bH (by omega),bH (by omega:((off (lV a b) k:Nat):Int)≤((off (lV a b) k:Nat):Int)+((lV a b k:Nat):Int)),bH (by unfold nV;omega:((off (lV a b) k:Nat):Int)+((lV a b k:Nat):Int)≤((nV a b:Nat):Int)),Bool.and_self,Bool.and_self,aM,
   show (((off (lV a b) k:Nat):Int)+((lV a b k:Nat):Int)).toNat - ((off (lV a b) k:Nat):Int).toNat=lV a b k by omega,eN]
  have q2:decide (((List.range k).map λv=>(⟨dN b v,dN a v,(x.drop (off (lV a b) v)).take (lV a b v)⟩:Mt)).length +1≤4294967296)=true:=bH (by simp only [dC,List.length_range];omega);have q1:decide (([]:List Int).length +((x.drop (off (lV a b) k)).take (lV a b k)).length ≤4294967296)=true:=bH (by simp only [List.length_nil,List.length_take,List.length_drop];omega);rw [q1,aM,q2,aM,List.nil_append,bZ hk (by omega),jZ (f:=λv=>(⟨dN b v,dN a v,(x.drop (off (lV a b) v)).take (lV a b v)⟩:Mt)),e];simp
 ·unfold jK;simp only;rw [gN (bJ _),aR]
end
noncomputable section
def aBN (a b:Rp):Bool:=wY a&&(wY b&&(decide (a.p=b.p)&&decide (a.q=b.q)))
theorem aCM {a b:Rp} (h:aBN a b=true):Fit a b:=by
 unfold aBN at h;simp only [dD,lD] at h;exact aNX h.1 h.2.1 h.2.2.1 h.2.2.2
def hdI (a b:Rp):Int:=if aBN a b=true then (gW a b:Int) else -1
theorem aQi {a b:Rp} (ha:bR a) (hb:bR b): ∃ l,kL a b=some (l,aBN a b)∧(aBN a b=true→l.length=gW a b):=by
 unfold kL;rw [aJg ha hb,aA];cases hf:wY a&&(wY b&&(decide (a.p=b.p)&&decide (a.q=b.q))) with
 |false=>
  refine ⟨[],?_,λh=>by unfold aBN at h;rw [hf] at h;cases h⟩;unfold aBN;rw [hf];rfl
 |true=>
  have h:=aCM hf;have bV:=h.offV (bJ _);have hV:nV a b≤80:=bV;have hl:=aKn h.ra.hp (aMW h)
  have hkl: ∀ v∈aER a.p (nV a b) (cD a.p (nE a b) (mE a b) (nV a b)).1 (cD a.p (nE a b) (mE a b) (nV a b)).2,v.length=nV a b:=by
   intro v hv;unfold aER at hv;obtain ⟨k,_,rfl⟩:=List.mem_map.1 hv;exact aCC _ _ _ _ _ _
  rw [dW,aR,aEq h,aA,aGL (aUN h),aA];generalize aER a.p (nV a b) (cD a.p (nE a b) (mE a b) (nV a b)).1 (cD a.p (nE a b) (mE a b) (nV a b)).2=K at*;have key:=aNF (body:=hZ a b K) (s:=(([]:List (List Mt)),0)) (λs=>s.2=(s.1.length:Int)∧s.1.length≤K.length) (λs=>K.length - s.1.length) (λr=>r.length=K.length) ⟨rfl,Nat.zero_le _⟩ (λs ⟨h1,h2⟩=>?_)
  ·obtain ⟨r,h1,h2⟩:=key;rw [h1,aA];exact ⟨r,by unfold aBN;rw [hf],λ_=>by rw [h2,hl];rfl⟩
  ·obtain ⟨l,j⟩:=s;simp only at h1 h2;subst h1;unfold hZ;simp only;rcases eO l.length K.length with hlt|hge
   ·obtain ⟨r,hr⟩:=aQh h (hkl _ (List.getElem_mem hlt));rw [gA hlt,aM,cX hlt,aA,hr,aA,bH (by omega),aM,bZ hlt (by omega)];exact .inl ⟨_,rfl,⟨by simp,by simp;omega⟩,by simp;omega⟩
   ·rw [gN hge,aR];exact .inr ⟨_,rfl,by omega⟩
theorem aSm {a b:Rp} (ha:bR a) (hb:bR b):aAr a b=some (hdI a b):=by
 obtain ⟨l,h1,h2⟩:=aQi ha hb;unfold aAr hdI;rw [h1,aA];cases hf:aBN a b with
 |false=>rfl
 |true=>rw [aW rfl,←h2 hf];rfl
theorem aEE {a b:Rp} (h:Fit a b):gW a b≤80:=by
 have bV:=h.offV (bJ _);unfold gW nV;omega
theorem aUO {α β:Type} {f:α→β} {l:List α} {k:Nat} (hk:k<l.length):(l.take k).map f++[f l[k]]=(l.take (k+1)).map f:=by rw [zL hk,List.map_append];rfl
end
noncomputable section
theorem aQj {L:List Nat} (hL:L.length≤1048576) (k:Nat):iQ (fF L) (k:Int)=some (L.contains k):=by
 have hl:=dH L;unfold iQ qG;rw [aAb (s0:=0) (s:=0) (n:=L.length) (λi=>bif decide ((k:Int)=(fF L)[i]?.getD 0) then some (i:Int) else none) rfl (by omega) (Nat.zero_le _) (λi _ hi=>?_) (λ_=>?_)]
 ·rw [aA];cases e:(List.range' 0 (L.length - 0)).findSome? (λi:Nat=>bif decide ((k:Int)=(fF L)[i]?.getD 0) then some (i:Int) else none) with
  |none=>
   rw [List.findSome?_eq_none_iff] at e
   have:L.contains k=false:=by
    rw [Bool.eq_false_iff];intro hc;have hm:k∈L:=by simpa using hc
    obtain ⟨j,hj,e2⟩:=List.mem_iff_getElem.1 hm;have:=e j (by simp;omega);have hg:(fF L)[j]?.getD 0=(k:Int):=by simp [fF,hj,e2]
    rw [hg,bH rfl] at this;cases this
   rw [this];rfl
  |some i=>
   obtain ⟨j,hj,he⟩:=List.exists_of_findSome?_eq_some e;simp at hj;have hjl:j<L.length:=by omega
   have hg:(fF L)[j]?.getD 0=((L[j]:Nat):Int):=by simp [fF,hjl]
   rw [hg] at he;by_cases c:(k:Int)=((L[j]:Nat):Int)
   ·rw [bH c] at he;cases he
    have:L.contains k=true:=by
     have:k=L[j]:=by omega
     rw [this];simp
    rw [this];show (Option.bind (some ((j:Nat):Int)) λv1=>some (decide (0≤v1)))=some true;rw [aA,bH (by omega)]
   ·rw [dU c] at he;cases he
 ·unfold iP;rw [hl,gA hi,aM,iN 0 (by omega),aA];cases decide ((k:Int)=(fF L)[i]?.getD 0) <;> rfl
 ·unfold iP;rw [hl,gN (bJ _),aR]
theorem aSn (L:List Nat) (k:Nat):aBH (k+1) L=aBH k L++if L.contains k=true then [] else [k]:=by
 unfold aBH;rw [List.range_succ,List.filter_append];congr 1;cases h:L.contains k <;> simp at h <;> simp [h]
theorem aPE (n:Nat) (L:List Nat):(aBH n L).length ≤n:=by
 have:=List.length_filter_le (λk=> !L.contains k) (List.range n);simpa [aBH] using this
theorem aPF {n k:Nat} {L:List Nat} (h:k∈aBH n L):k<n:=List.mem_range.1 (List.mem_filter.1 h).1
theorem aQk {n:Nat} {L:List Nat} (hn:n≤1048576) (hL:L.length≤1048576):rJ (n:Int) (fF L)=some (fF (aBH n L)):=by
 unfold rJ;rw [cO (s:=(([]:List Int),(0:Int))) (r:=fF (aBH n L)) (λk=>(fF (aBH k L),(k:Int))) n rfl (λk hk=>?_) (λ_=>?_),aA]
 ·have h1:=aPE k L;unfold mM;simp only;rw [gA hk,aM,aQj hL,aA,aSn,bZ hk (by omega)];cases hc:L.contains k
  ·rw [Bool.not_false,aM,bH (by rw [dH];simp;omega),aM];simp [fF]
  ·rw [dW,aR];simp
 ·unfold mM;simp only;rw [gN (bJ _),aR]
end
noncomputable section
set_option maxRecDepth 10000
set_option maxHeartbeats 4000000
def kF (a0:Mt) (a1:Int) (x1:((List Int)×Int)):Option (((List Int)×Int) ⊕ (List Int)):=
 bif decide (x1.2<(((List.replicate a0.rows.toNat (0:Int)).length:Nat):Int)) then
 ((cY a0.cells (wr ((wr (x1.2*a0.cols))+a1))).bind λv2=>
 (cY x1.1 x1.2).bind λv3=>
 some (.inl ((x1.1.set x1.2.toNat v2),wr (x1.2+1))))
 else
 (some (.inr x1.1))
def oF (a0:Mt) (a1:Int):Option (List Int):=
 bif (decide (0≤a0.rows)&&decide (a0.rows≤1048576)) then
 ((Lp (kF a0 a1) ((List.replicate a0.rows.toNat (0:Int)),0)).bind λy4=>
 some (y4))
 else none
theorem aEr (a0:Mt) (a1:Int) (r:(List Int)) (h:oF a0 a1=some r):HasC Tryz.prog 199 [.agg (eM a0),.int a1] (.list 1 (r.map eI)):=by
 refine hM [.tmp 4] Tryz.func199 Tryz.ntmps199 k<|sR<|ae (wb k) k<|aT k2<|sR<|fp k8<|lp k8<|cG h λq5 h=>ae (aCD aJ q5 k k k k k k k k) k<|aT k2<|aI (t:=mN [(1,.int a1),(2,.ptr 0 0 0),(5,.own 1 0 ((List.replicate a0.rows.toNat (0:Int)).length))] [(0,⟨3,[eM a0]⟩),(1,⟨1,List.map (ow eI) (List.replicate a0.rows.toNat (0:Int))⟩)] 2) (bP (kT 2 k2 (gH ⟨_,k,⟨k,k,(by simp only [aH,lA,lT,lR,lC,lN]),k⟩⟩ aQ)) (bO k<|hX ⟨_,k,k,.inl ⟨aCt (e:=eI) (z:=0) _,cA.plainO _⟩⟩ k<|aQ) k4)<|sQ<|sR<|am k k<|ae (dR aJ k k k k) k<|am k k<|an<|tn<|aD<|oB h λy4 hy4 h=>cC (body:=(kF a0 a1)) hy4 (λ(x1:((List Int)×Int))=>mN [(1,.int a1),(2,.ptr 0 0 0),(5,.own 1 0 x1.1.length),(11,.int (((List.replicate a0.rows.toNat (0:Int)).length:Nat):Int)),(12,.int x1.2)] [(0,⟨3,[eM a0]⟩),(1,⟨1,x1.1.map (ow eI)⟩)] 2) (λr e t=>e= .exit 0∧Ent t (mN [(5,.own 0 0 r.length)] [(0,⟨1,r.map (ow eI)⟩)] 1)) (bP (bG k2) (bO k<|bN k<|aQ) k4) ?_ ?_
 ·intro x1 o h;refine sR<|cm k4<|an<|tn<|sQ<|cN k h (λ_ h=>?_) λ_ h=>aY<|aB<|aB<|sp h ⟨_,k,k,(gT [1] (bG k2) (bN k<|aQ) k4)⟩;refine aG<|tn<|sQ<|aD<|sR<|am k k<|aT k2<|rg<|am k k<|am k k<|fp k8<|lp k8<|am k k<|fp k8<|lp k8<|ae (fP k k) k<|am k k<|ae (bF k k) k<|oB h λv2 hv2 h=>ae (xl hv2 k) k<|lr k7<|oB h λv3 hv3 h=>ae (xo hv3 k) k<|ae (gL aJ kH (u:=v2) (dF hv3) k k k k k k) k<|an<|bB<|tn<|rg ?_;exact ae (bF k k) k<|am k k<|an<|tn<|sp h ⟨_,k,(bP (kT 2 k2 (gH ⟨_,k,⟨k,k,(by simp only [aH,lA,lT,lR,lC,lN]),k⟩⟩ (bG k2))) (bO k<|bN k<|aQ) k4)⟩
 ·rintro e t ⟨rfl,hent⟩;exact aN<|tn<|aI hent<|sR<|am k k<|aT k2<|aE<|sp h (bD k k k (fH (cW cA k k)))
def jT (a0:Mt) (x1:((List (List Int))×Int)):Option (((List (List Int))×Int) ⊕ (List (List Int))):=
 bif decide (x1.2<a0.cols) then
 ((oF a0 x1.2).bind λv2=>
 bif decide (x1.1.length+1≤4294967296) then
 (some (.inl ((x1.1++[v2]),wr (x1.2+1))))
 else none)
 else
 (some (.inr x1.1))
def gU (a0:Mt):Option (List (List Int)):=
 (Lp (jT a0) ([],0)).bind λy4=>
 some (y4)
theorem tD (a0:Mt) (r:(List (List Int))) (h:gU a0=some r):HasC Tryz.prog 166 [.agg (eM a0)] (.list 1 (r.map (dQ 1 eI))):=by
 refine hM [.tmp 2] Tryz.func166 Tryz.ntmps166 k<|sR<|ae (wb k) k<|aT k2<|sR<|aT k2<|sQ<|sR<|fp k8<|lp k8<|am k k<|an<|tn<|aD<|oB h λy4 hy4 h=>cC (body:=(jT a0)) hy4 (λ(x1:((List (List Int))×Int))=>mN [(1,.ptr 0 0 0),(3,.own 1 0 x1.1.length),(6,.int a0.cols),(7,.int x1.2)] [(0,⟨3,[eM a0]⟩),(1,⟨1,x1.1.map (ow (dQ 1 eI))⟩)] 2) (λr e t=>e= .exit 0∧Ent t (mN [(3,.own 0 0 r.length)] [(0,⟨1,r.map (ow (dQ 1 eI))⟩)] 1)) (eY (σ:=sg [(0,0)]) (kT 1 k2 (gH ⟨_,k,⟨k,k,k,k⟩⟩ (bG k2))) (bO k<|hX k k<|aQ) k) ?_ ?_
 ·intro x1 o h;exact sR<|cm k4<|an<|tn<|sQ<|cN k h (λ_ h=>aG<|tn<|sQ<|aD<|sR<|am k k<|aT k2<|rg<|am k k<|lp k8<|am k k<|oB h λv2 hv2 h=>ae (cL cA (aEr a0 x1.2 v2 hv2) k3 (aL (eV k) (cJ k aO))) k<|ae (wl k) k<|cG h λq3 h=>ae (fN aJ (l:=x1.1) (c:=[.own 2 0 v2.length]) q3 k k k k k k k k k k k k k k) k<|aa k k<|an<|bB<|tn<|aI (t:=mN [(1,.ptr 0 0 0),(3,.own 4 0 ((x1.1++[v2]).length)),(6,.int a0.cols),(7,.int x1.2)] [(0,⟨3,[eM a0]⟩),(4,⟨1,List.map (ow (dQ 1 eI)) (x1.1++[v2])⟩)] 5) (Ent.trans (dJ (b:=4) (b':=2) (j:=0) (es':=v2.map eI) k k k k (aH _ _) (cA.frzs _)) (bP (kT 1 k2 (gH ⟨_,k,⟨k,k,(by simp only [aH,lA,lT,lR,lC,lN]),k⟩⟩ (bG k2))) (bO k<|hX ⟨_,k,k,.inl ⟨fV v2 k,cB.plainO _⟩⟩ k<|aQ) k4))<|rg<|ae (bF k k) k<|am k k<|an<|tn<|sp h ⟨_,k,(gT [0,4] (bG k2) (bO k<|bW (cB.plainO _) k<|aQ) k4)⟩) λ_ h=>aY<|aB<|aB<|sp h ⟨_,k,k,(gT [1] (bG k2) (bW (cB.plainO _) k<|aQ) k4)⟩
 ·rintro e t ⟨rfl,hent⟩;exact aN<|tn<|aI hent<|sR<|am k k<|aT k2<|aE<|sp h (bD k k k (fH (cW cB k k)))
def yA (a0:Int) (a1:(List (List Int))):Option Mt:=
 (jR a1).bind λv1=>
 some ((⟨(a1.length:Int),a0,v1⟩:Mt))
theorem aJG (a0:Int) (a1:(List (List Int))) (r:Mt) (h:yA a0 a1=some r):HasC Tryz.prog 203 [.int a0,.list 1 (a1.map (dQ 1 eI))] (.agg (eM r)):=by
 exact hM [.cell 4 91] Tryz.func203 Tryz.ntmps203 k<|sR<|ae (bX aJ k k) k<|an<|tn<|sR<|am k k<|ln k4<|am k k<|am k k<|oB h λv1 hv1 h=>ae (cL cA (aCv a1 v1 hv1) k3 (cJ k aO)) k<|ae (fW aJ k k k k k k) k<|ae (ws k) k<|an<|tn<|aE<|sp h (bD k k k (iJ (aU (k) (aU (k) (aU (cW cA k k) fA)))))
def aAF (v2:(Mt×(List Int))) (x1:((List (List Int))×Int)):Option (((List (List Int))×Int) ⊕ (List (List Int))):=
 bif decide (x1.2<((v2.2.length:Nat):Int)) then
 ((eK v2.1 x1.2).bind λv4=>
 (pG ((v2.1.cells.drop (0+(wr (x1.2*v2.1.cols)).toNat)).take ((wr ((wr (x1.2+1))*v2.1.cols)).toNat - (wr (x1.2*v2.1.cols)).toNat))).bind λv5=>
 bif decide (x1.1.length+1≤4294967296) then
 (some (.inl ((x1.1++[v5]),wr (x1.2+1))))
 else none)
 else
 (some (.inr x1.1))
def aBO (a0:Int) (a1:Int) (a2:(List (List Int))):Option Sc:=
 (yA a1 a2).bind λv1=>
 (wX a0 v1).bind λv2=>
 (Lp (aAF v2) ([],0)).bind λy7=>
 some ((⟨a1,y7⟩:Sc))
theorem aIn (a0:Int) (a1:Int) (a2:(List (List Int))) (r:Sc) (h:aBO a0 a1 a2=some r):HasC Tryz.prog 247 [.int a0,.int a1,.list 1 (a2.map (dQ 1 eI))] (.agg (eS r)):=by
 refine hM [.cell 6 128] Tryz.func247 Tryz.ntmps247 k<|sR<|ae (bX aJ k k) k<|an<|tn<|sR<|am k k<|am k k<|am k k<|oB h λv1 hv1 h=>ae (cM (aJG a1 a2 v1 hv1) k3 (cJ k (cJ k aO))) k<|oB h λv2 hv2 h=>ae (AEff.conv (jE (x:= .tuple [.agg [.int v2.1.rows,.int v2.1.cols,.own 2 0 (v2.1.cells.map eI).length],.own 3 0 (v2.2.map eI).length]) (nb:=[(2,⟨1,cF (v2.1.cells.map eI)⟩),(3,⟨1,cF (v2.2.map eI)⟩)]) (aFm a0 v1 v2 hv2) k (by rfl) k k (dE (bU aQ (bU aQ (bU (cA.good _) tC))) (dE (cA.good _) qD)) (cJ k (aL (vaM k2) aO))) (v':= .tuple [.agg [.int v2.1.rows,.int v2.1.cols,.own 2 0 v2.1.cells.length],.own 3 0 v2.2.length]) (ed':=[(2,some ⟨1,v2.1.cells.map (ow eI)⟩),(3,some ⟨1,v2.2.map (ow eI)⟩)]) (by simp only [aH]) (pE (nb':=[(2,⟨1,v2.1.cells.map (ow eI)⟩),(3,⟨1,v2.2.map (ow eI)⟩)]) (by simp only [dX]))) k<|am k k<|ae (bA k k (by intro _ h;cases h)) k<|ae (bA k k (by intro _ h;cases h)) k<|ae (bX aJ k k) k<|ae (ws k) k<|aT k2<|sR<|aT k2<|sQ<|sR<|am k k ?_;refine ae (dR aJ k k k k) k<|am k k<|an<|tn<|aD<|oB h λy7 hy7 h=>cC (body:=(aAF v2)) hy7 (λ(x1:((List (List Int))×Int))=>mN [(1,.int a1),(6,.ptr 0 0 0),(7,.ptr 1 0 0),(9,.own 3 0 x1.1.length),(20,.int ((v2.2.length:Nat):Int)),(21,.int x1.2)] [(0,⟨2,[[.int 0,.nil 1]]⟩),(1,⟨3,[oMt v2.1 2]⟩),(2,⟨1,v2.1.cells.map (ow eI)⟩),(3,⟨1,x1.1.map (ow (dQ 1 eI))⟩)] 4) (λr e t=>e= .exit 0∧Ent t (mN [(1,.int a1),(6,.ptr 0 0 0),(9,.own 1 0 r.length)] [(0,⟨2,[[.int 0,.nil 1]]⟩),(1,⟨1,r.map (ow (dQ 1 eI))⟩)] 2)) (eY (σ:=sg [(0,0),(1,4),(2,2)]) (kT 3 k2 (gH ⟨_,k,⟨k,k,k,k⟩⟩ (bG k2))) (bO k<|eJ k<|bN k<|hX k k<|aQ) k) ?_ ?_
 ·intro x1 o h;refine sR<|cm k4<|an<|tn<|sQ<|cN k h (λ_ h=>?_) λ_ h=>aY<|aB<|aB<|sp h ⟨_,k,k,(gT [0,3] (bG k2) (bO k<|bW (cB.plainO _) k<|aQ) k4)⟩;exact aG<|tn<|sQ<|aD<|sR<|am k k<|aT k2<|rg<|am k k<|lp k8<|am k k<|oB h λv4 hv4 h=>ae (AEff.pureE (gP (σ:=sg [(0,2)]) (σ':=sg [(2,0)]) (touch:=[2]) (news:=[]) (hl2:=[(2,⟨1,v2.1.cells.map (ow eI)⟩)]) (n':=4) (r2:= .own 2 (0+(wr (x1.2*v2.1.cols)).toNat) ((wr ((wr (x1.2+1))*v2.1.cols)).toNat - (wr (x1.2*v2.1.cols)).toNat)) (gE v2.1 x1.2 v4 hv4) k k ⟨_,_,k,⟨_,_,k,k,⟨_,_,k,k,⟨_,_,k,⟨k,k,k,k⟩,k⟩⟩⟩,⟨_,_,k,k,k⟩⟩ ⟨⟨_,k,k,.inl ⟨k,cA.plainO _⟩⟩,k,aQ⟩ k k k ⟨⟨_,k,k,.inl ⟨k,cA.plainO _⟩⟩,k,aQ⟩ k ⟨k,k,(by simp only [aH,lA,lT,lR,lC,lN]),k⟩ k ⟨k,cA.tame _ _,aQ⟩ k k) ⟨k,k,aQ⟩) k<|oB h λv5 hv5 h=>ae (cL cA (aDv ((v2.1.cells.drop (0+(wr (x1.2*v2.1.cols)).toNat)).take ((wr ((wr (x1.2+1))*v2.1.cols)).toNat - (wr (x1.2*v2.1.cols)).toNat)) v5 hv5) k3 (aL (aVn cA k) aO)) k<|ae (wl k) k<|cG h λq6 h=>ae (fN aJ (l:=x1.1) (c:=[.own 4 0 v5.length]) q6 k k k k k k k k k k k k k k) k<|aa k k<|an<|bB<|tn<|aI (t:=mN [(1,.int a1),(6,.ptr 0 0 0),(7,.ptr 1 0 0),(9,.own 6 0 ((x1.1++[v5]).length)),(20,.int ((v2.2.length:Nat):Int)),(21,.int x1.2)] [(0,⟨2,[[.int 0,.nil 1]]⟩),(1,⟨3,[oMt v2.1 2]⟩),(2,⟨1,v2.1.cells.map (ow eI)⟩),(6,⟨1,List.map (ow (dQ 1 eI)) (x1.1++[v5])⟩)] 7) (Ent.trans (dJ (b:=6) (b':=4) (j:=0) (es':=v5.map eI) k k k k (aH _ _) (cA.frzs _)) (bP (kT 3 k2 (gH ⟨_,k,⟨k,k,(by simp only [aH,lA,lT,lR,lC,lN]),k⟩⟩ (bG k2))) (bO k<|eJ k<|bN k<|hX ⟨_,k,k,.inl ⟨fV v5 k,cB.plainO _⟩⟩ k<|aQ) k4))<|rg<|ae (bF k k) k<|am k k<|an<|tn<|sp h ⟨_,k,(gT [0,1,2,6] (bG k2) (bO k<|eJ k<|bN k<|bW (cB.plainO _) k<|aQ) k4)⟩
 ·rintro e t ⟨rfl,hent⟩;exact aN<|tn<|aI hent<|sR<|am k k<|am k k<|ae (fW aJ k k k k k k) k<|ae (ws k) k<|an<|tn<|aE<|sp h (bD k k k (iJ (aU (k) (aU (cW cB k k) fA))))
def rQ (a0:Int) (a1:(List Mt)) (x1:((List Sc)×Int)):Option (((List Sc)×Int) ⊕ (List Sc)):=
 bif decide (x1.2<(a1.length:Int)) then
 ((cY a1 x1.2).bind λv2=>
 (gU v2).bind λv3=>
 (aBO a0 v2.rows v3).bind λv4=>
 bif decide (x1.1.length+1≤4294967296) then
 (some (.inl ((x1.1++[v4]),wr (x1.2+1))))
 else none)
 else
 (some (.inr x1.1))
def yB (a0:Int) (a1:(List Mt)):Option (List Sc):=
 (Lp (rQ a0 a1) ([],0)).bind λy6=>
 some (y6)
theorem aJH (a0:Int) (a1:(List Mt)) (r:(List Sc)) (h:yB a0 a1=some r):HasC Tryz.prog 228 [.int a0,.list 3 (a1.map eM)] (.list 2 (r.map eS)):=by
 refine hM [.tmp 4] Tryz.func228 Tryz.ntmps228 k<|sR<|aT k2<|sR<|aT k2<|sQ<|sR<|am k k<|ln k4<|am k k<|an<|tn<|aD<|oB h λy6 hy6 h=>cC (body:=(rQ a0 a1)) hy6 (λ(x1:((List Sc)×Int))=>mN [(0,.int a0),(5,.own 0 0 x1.1.length),(8,.list 3 (a1.map eM)),(9,.int (a1.length:Int)),(10,.int x1.2)] [(0,⟨2,x1.1.map (ow eS)⟩)] 1) (λr e t=>e= .exit 0∧Ent t (mN [(5,.own 0 0 r.length)] [(0,⟨2,r.map (ow eS)⟩)] 1)) (eY (σ:=sg []) (kT 1 k2 (gH ⟨_,k,⟨k,k,k,k⟩⟩ (bG k2))) (hX k k<|aQ) k) ?_ ?_
 ·intro x1 o h;refine sR<|cm k4<|an<|tn<|sQ<|cN k h (λ_ h=>?_) λ_ h=>aY<|aB<|aB<|sp h ⟨_,k,k,(bP (bG k2) (bW (cV.plainO _) k<|aQ) k4)⟩;refine aG<|tn<|sQ<|aD<|sR<|oB h λv2 hv2 h=>ae (xl hv2 k) k<|lr k7<|ae (bX aJ k k) k<|ae (ws k) k<|an<|tn<|aP fB<|am k k<|am k k<|fp k8<|lp k8<|lp k8<|oB h λv3 hv3 h=>ae (cL cB (tD v2 v3 hv3) k3 (aL (eV k) aO)) k<|oB h λv4 hv4 h=>ae (cS (aIn a0 v2.rows v3 v4 hv4) k3 (cJ k (cJ k (aL (tA cB k k) aO)))) k<|ae (wl k) k<|cG h λq5 h=>ae (fN aJ (l:=x1.1) (c:=[.int v4.size,.own 3 0 v4.basis.length]) q5 k k k k k k k k k k k k k k) k<|aa k k<|an<|lL (by kernel_rfl)<|bB<|tn<|aI (t:=mN [(0,.int a0),(5,.own 5 0 ((x1.1++[v4]).length)),(8,.list 3 (a1.map eM)),(9,.int (a1.length:Int)),(10,.int x1.2)] [(5,⟨2,List.map (ow eS) (x1.1++[v4])⟩)] 6) (Ent.trans (dJ (b:=5) (b':=3) (j:=1) (es':=v4.basis.map (dQ 1 eI)) k k k k (aH _ _) (cB.frzs _)) (bP (kT 1 k2 (gH ⟨_,k,⟨k,k,(by simp only [aH,lA,lT,lR,lC,lN]),k⟩⟩ (bG k2))) (hX ⟨_,k,k,.inl ⟨fV v4 k,cV.plainO _⟩⟩ k<|aQ) k4))<|rg ?_;exact ae (bF k k) k<|am k k<|an<|tn<|sp h ⟨_,k,(gT [5] (bG k2) (bW (cV.plainO _) k<|aQ) k4)⟩
 ·rintro e t ⟨rfl,hent⟩;exact aN<|tn<|aI hent<|sR<|am k k<|aT k2<|aE<|sp h (bD k k k (fH (cW cV k k)))
def tM (a1:Mt) (v1:(Mt×(List Int))) (x1:((List (List Int))×Int)) (x2:((List Int)×Int)):Option (((List Int)×Int) ⊕ (List Int)):=
 bif decide (x2.2<a1.rows) then
 ((cY v1.2 x1.2).bind λv4=>
 (cY a1.cells (wr ((wr (x2.2*a1.cols))+v4))).bind λv5=>
 bif decide (x2.1.length+[v5].length ≤4294967296) then
 (some (.inl ((x2.1++[v5]),wr (x2.2+1))))
 else none)
 else
 (some (.inr x2.1))
def tN (a1:Mt) (v1:(Mt×(List Int))) (x1:((List (List Int))×Int)):Option (((List (List Int))×Int) ⊕ (List (List Int))):=
 bif decide (x1.2<((v1.2.length:Nat):Int)) then
 ((Lp (tM a1 v1 x1) (([]:(List Int)),0)).bind λy7=>
 bif decide (x1.1.length+1≤4294967296) then
 (some (.inl ((x1.1++[y7]),wr (x1.2+1))))
 else none)
 else
 (some (.inr x1.1))
def aAG (a0:Int) (a1:Mt):Option (List (List Int)):=
 (nF a0 a1).bind λv1=>
 (Lp (tN a1 v1) (([]:(List (List Int))),0)).bind λy9=>
 some (y9)
theorem aKo (a0:Int) (a1:Mt) (r:(List (List Int))) (h:aAG a0 a1=some r):HasC Tryz.prog 239 [.int a0,.agg (eM a1)] (.list 1 (r.map (dQ 1 eI))):=by
 refine hM [.tmp 4] Tryz.func239 Tryz.ntmps239 k<|sR<|ae (wb k) k<|aT k2<|sR<|am k k<|lp k8<|oB h λv1 hv1 h=>ae (AEff.conv (jE (x:= .tuple [.agg [.int v1.1.rows,.int v1.1.cols,.own 1 0 (v1.1.cells.map eI).length],.own 2 0 (v1.2.map eI).length]) (nb:=[(1,⟨1,cF (v1.1.cells.map eI)⟩),(2,⟨1,cF (v1.2.map eI)⟩)]) (aBT a0 a1 v1 hv1) k (by rfl) k k (dE (bU aQ (bU aQ (bU (cA.good _) tC))) (dE (cA.good _) qD)) (cJ k (aL (eV k) aO))) (v':= .tuple [.agg [.int v1.1.rows,.int v1.1.cols,.own 1 0 v1.1.cells.length],.own 2 0 v1.2.length]) (ed':=[(1,some ⟨1,v1.1.cells.map (ow eI)⟩),(2,some ⟨1,v1.2.map (ow eI)⟩)]) (by simp only [aH]) (pE (nb':=[(1,⟨1,v1.1.cells.map (ow eI)⟩),(2,⟨1,v1.2.map (ow eI)⟩)]) (by simp only [dX]))) k<|am k k<|ae (bA k k (by intro _ h;cases h)) k<|ae (bA k k (by intro _ h;cases h)) k<|ae (bX aJ k k) k<|ae (ws k) k<|aT k2<|sR<|ae (wl k) k<|aT k2<|aI (t:=mN [(3,.ptr 0 0 0),(6,.own 2 0 v1.2.length),(7,.own 4 0 (([]:(List (List Int))).length))] [(0,⟨3,[eM a1]⟩),(2,⟨1,v1.2.map (ow eI)⟩),(4,⟨1,List.map (ow (dQ 1 eI)) ([]:(List (List Int)))⟩)] 5) (bP (kT 2 k2 (gH ⟨_,k,⟨k,k,(by simp only [aH,lA,lT,lR,lC,lN]),k⟩⟩ aQ)) (bO k<|bN k<|bW (cB.plainO _) k<|aQ) k4)<|sQ<|sR ?_;refine aT k2<|aD<|oB h λy9 hy9 h=>cC (body:=(tN a1 v1)) hy9 (λ(x1:((List (List Int))×Int))=>mN [(3,.ptr 0 0 0),(6,.own 1 0 v1.2.length),(7,.own 2 0 x1.1.length),(8,.int x1.2)] [(0,⟨3,[eM a1]⟩),(1,⟨1,v1.2.map (ow eI)⟩),(2,⟨1,x1.1.map (ow (dQ 1 eI))⟩)] 3) (λr e t=>e= .exit 0∧Ent t (mN [(7,.own 0 0 r.length)] [(0,⟨1,r.map (ow (dQ 1 eI))⟩)] 1)) (gT [0,2,4] (bG k2) (bO k<|bN k<|bW (cB.plainO _) k<|aQ) k4) ?_ ?_
 ·intro x1 o h;refine sQ<|sR<|am k k<|am k k<|ae (dR aJ k k k k) k<|cm k4<|an<|tn<|cN k h (λ_ h=>?_) λ_ h=>aY<|aB<|aB<|sp h ⟨_,k,k,(gT [2] (bG k2) (bW (cB.plainO _) k<|aQ) k4)⟩;refine aG<|tn<|sQ<|aD<|sR<|ae (wl k) k<|aT k2<|aI (t:=mN [(3,.ptr 0 0 0),(6,.own 1 0 v1.2.length),(7,.own 2 0 x1.1.length),(8,.int x1.2),(9,.own 3 0 (([]:(List Int)).length))] [(0,⟨3,[eM a1]⟩),(1,⟨1,v1.2.map (ow eI)⟩),(2,⟨1,x1.1.map (ow (dQ 1 eI))⟩),(3,⟨1,List.map (ow eI) ([]:(List Int))⟩)] 4) (bP (kT 4 k2 (gH ⟨_,k,⟨k,k,(by simp only [aH,lA,lT,lR,lC,lN]),k⟩⟩ aQ)) (bO k<|bN k<|bW (cB.plainO _) k<|bN k<|aQ) k4)<|sQ<|sR<|aT k2<|aD<|oB h λy7 hy7 h=>cC (body:=(tM a1 v1 x1)) hy7 (λ(x2:((List Int)×Int))=>mN [(3,.ptr 0 0 0),(6,.own 1 0 v1.2.length),(7,.own 2 0 x1.1.length),(8,.int x1.2),(9,.own 3 0 x2.1.length),(10,.int x2.2)] [(0,⟨3,[eM a1]⟩),(1,⟨1,v1.2.map (ow eI)⟩),(2,⟨1,x1.1.map (ow (dQ 1 eI))⟩),(3,⟨1,x2.1.map (ow eI)⟩)] 4) (λr e t=>e= .exit 2∧Ent t (mN [(3,.ptr 0 0 0),(6,.own 1 0 v1.2.length),(7,.own 2 0 x1.1.length),(8,.int x1.2),(9,.own 3 0 r.length)] [(0,⟨3,[eM a1]⟩),(1,⟨1,v1.2.map (ow eI)⟩),(2,⟨1,x1.1.map (ow (dQ 1 eI))⟩),(3,⟨1,r.map (ow eI)⟩)] 4)) (bP (bG k2) (bO k<|bN k<|bW (cB.plainO _) k<|bN k<|aQ) k4) ?_ ?_
  ·intro x2 o h;refine sQ<|sR<|am k k<|fp k8<|lp k8<|cm k4<|an<|tn<|cN k h (λ_ h=>?_) λ_ h=>aY<|aB<|aB<|sp h ⟨_,k,k,(bP (bG k2) (bO k<|bN k<|bW (cB.plainO _) k<|bN k<|aQ) k4)⟩;refine aG<|tn<|sQ<|aD<|aP fB<|am k k<|fp k8<|lp k8<|am k k<|fp k8<|lp k8<|ae (fP k k) k<|am k k<|am k k<|oB h λv4 hv4 h=>ae (xo hv4 k) k<|ae (wp hv4 k) k<|ae (bF k k) k<|oB h λv5 hv5 h=>ae (xl hv5 k) k<|lr k7<|ae (wl k) k<|cG h λq6 h=>ae (qV aJ (l:=x2.1) (m:=[v5]) kH q6 k k k k k k k k k k k k) k<|aa k k<|an<|lL (by kernel_rfl)<|bB<|tn<|rg<|am k k<|ae (bF k k) k ?_;exact aT k2<|sp h ⟨_,k,(gT [0,1,2,5] (bG k2) (bO k<|bN k<|bW (cB.plainO _) k<|bN k<|aQ) k4)⟩
  ·rintro e t ⟨rfl,hent⟩;exact aN<|tn<|aI hent<|rg<|am k k<|am k k<|ae (wl k) k<|cG h λq8 h=>ae (fN aJ (l:=x1.1) (c:=[.own 3 0 y7.length]) q8 k k k k k k k k k k k k k k) k<|aa k k<|an<|bB<|tn<|aI (t:=mN [(3,.ptr 0 0 0),(6,.own 1 0 v1.2.length),(7,.own 5 0 ((x1.1++[y7]).length)),(8,.int x1.2)] [(0,⟨3,[eM a1]⟩),(1,⟨1,v1.2.map (ow eI)⟩),(5,⟨1,List.map (ow (dQ 1 eI)) (x1.1++[y7])⟩)] 6) (Ent.trans (dJ (b:=5) (b':=3) (j:=0) (es':=y7.map eI) k k k k (aH _ _) (cA.frzs _)) (bP (kT 2 k2 (gH ⟨_,k,⟨k,k,(by simp only [aH,lA,lT,lR,lC,lN]),k⟩⟩ (bG k2))) (bO k<|bN k<|hX ⟨_,k,k,.inl ⟨fV y7 k,cB.plainO _⟩⟩ k<|aQ) k4))<|rg<|am k k<|ae (bF k k) k<|aT k2<|sp h ⟨_,k,(gT [0,1,5] (bG k2) (bO k<|bN k<|bW (cB.plainO _) k<|aQ) k4)⟩
 ·rintro e t ⟨rfl,hent⟩;exact aN<|tn<|aI hent<|sR<|am k k<|aT k2<|aE<|sp h (bD k k k (fH (cW cB k k)))
def vN (a1:(List (List Int))) (x1:((List Int)×Int)):Option (((List Int)×Int) ⊕ (List Int)):=
 bif decide (x1.2<(a1.length:Int)) then
 ((cY a1 x1.2).bind λv2=>
 bif decide (x1.1.length+v2.length≤4294967296) then
 (some (.inl ((x1.1++v2),wr (x1.2+1))))
 else none)
 else
 (some (.inr x1.1))
def sW (a0:Int) (a1:(List (List Int))):Option Mt:=
 (Lp (vN a1) ([],0)).bind λy4=>
 some ((⟨(a1.length:Int),a0,y4⟩:Mt))
theorem aCz (a0:Int) (a1:(List (List Int))) (r:Mt) (h:sW a0 a1=some r):HasC Tryz.prog 186 [.int a0,.list 1 (a1.map (dQ 1 eI))] (.agg (eM r)):=by
 refine hM [.cell 4 91] Tryz.func186 Tryz.ntmps186 k<|sR<|ae (bX aJ k k) k<|an<|tn<|sR<|am k k<|ln k4<|am k k<|ae (fW aJ k k k k k k) k<|ae (bX aJ k k) k<|ae (ws k) k<|an<|tn<|sQ<|sR<|aT k2<|aD<|oB h λy4 hy4 h=>cC (body:=(vN a1)) hy4 (λ(x1:((List Int)×Int))=>mN [(1,.list 1 (a1.map (dQ 1 eI))),(4,.ptr 0 0 0),(5,.ptr 1 0 0),(6,.int x1.2)] [(0,⟨3,[gD]⟩),(1,⟨3,[[.int (a1.length:Int),.int a0,.own 2 0 x1.1.length]]⟩),(2,⟨1,x1.1.map (ow eI)⟩)] 3) (λr e t=>e= .exit 0∧Ent t (mN [(4,.ptr 0 0 0),(5,.ptr 1 0 0)] [(0,⟨3,[gD]⟩),(1,⟨3,[[.int (a1.length:Int),.int a0,.own 2 0 r.length]]⟩),(2,⟨1,r.map (ow eI)⟩)] 3)) (eY (σ:=sg [(0,0),(1,1)]) (bG k2) (bO k<|hX ⟨_,k,k,.inr ⟨_,_,k,⟨_,_,k,k,⟨_,_,k,k,⟨_,_,k,⟨k,k,k,k⟩,k⟩⟩⟩,k⟩⟩ k<|hX k k<|aQ) k) ?_ ?_
 ·intro x1 o h;exact sQ<|sR<|am k k<|am k k<|ln k4<|cm k4<|an<|tn<|cN k h (λ_ h=>aG<|tn<|sQ<|aD<|aP fB<|fp k8<|lp k8<|am k k<|am k k<|oB h λv2 hv2 h=>ae (xl hv2 k) k<|lr k7<|cG h λq3 h=>ae (qV aJ (l:=x1.1) (m:=v2) kH q3 k k k k k k k k k k k k) k<|fp k8<|ae (ws k) k<|an<|lL (by kernel_rfl)<|bB<|tn<|rg<|am k k<|ae (bF k k) k<|aT k2<|sp h ⟨_,k,(gT [0,1,3] (bG k2) (bO k<|eJ k<|bN k<|aQ) k4)⟩) λ_ h=>aY<|aB<|aB<|sp h ⟨_,k,k,(bP (bG k2) (bO k<|eJ k<|bN k<|aQ) k4)⟩
 ·rintro e t ⟨rfl,hent⟩;exact aN<|tn<|aI hent<|sR<|lp k8<|ae (ws k) k<|an<|tn<|aE<|sp h (bD k k k (iJ (aU (k) (aU (k) (aU (cW cA k k) fA)))))
def tP (v1:(Mt×(List Int))) (x1:((List (List Int))×Int)):Option (((List (List Int))×Int) ⊕ (List (List Int))):=
 bif decide (x1.2<((v1.2.length:Nat):Int)) then
 (bif (decide (0≤wr (x1.2*v1.1.cols))&&(decide (wr (x1.2*v1.1.cols)≤wr ((wr (x1.2*v1.1.cols))+v1.1.cols))&&decide (wr ((wr (x1.2*v1.1.cols))+v1.1.cols)≤((v1.1.cells.length:Nat):Int)))) then
 (bif decide (([]:(List Int)).length +((v1.1.cells.drop (0+(wr (x1.2*v1.1.cols)).toNat)).take ((wr ((wr (x1.2*v1.1.cols))+v1.1.cols)).toNat - (wr (x1.2*v1.1.cols)).toNat)).length ≤4294967296) then
 (bif decide (x1.1.length+1≤4294967296) then
 (some (.inl ((x1.1++[(([]:(List Int))++((v1.1.cells.drop (0+(wr (x1.2*v1.1.cols)).toNat)).take ((wr ((wr (x1.2*v1.1.cols))+v1.1.cols)).toNat - (wr (x1.2*v1.1.cols)).toNat)))]),wr (x1.2+1))))
 else none)
 else none)
 else none)
 else
 (some (.inr x1.1))
def uS (a0:Int) (a1:Mt):Option (List (List Int)):=
 (nF a0 a1).bind λv1=>
 (Lp (tP v1) (([]:(List (List Int))),0)).bind λy6=>
 some (y6)
theorem aEs (a0:Int) (a1:Mt) (r:(List (List Int))) (h:uS a0 a1=some r):HasC Tryz.prog 243 [.int a0,.agg (eM a1)] (.list 1 (r.map (dQ 1 eI))):=by
 refine hM [.tmp 4] Tryz.func243 Tryz.ntmps243 k<|sR<|ae (wb k) k<|aT k2<|sR<|am k k<|lp k8<|oB h λv1 hv1 h=>ae (AEff.conv (jE (x:= .tuple [.agg [.int v1.1.rows,.int v1.1.cols,.own 1 0 (v1.1.cells.map eI).length],.own 2 0 (v1.2.map eI).length]) (nb:=[(1,⟨1,cF (v1.1.cells.map eI)⟩),(2,⟨1,cF (v1.2.map eI)⟩)]) (aBT a0 a1 v1 hv1) k (by rfl) k k (dE (bU aQ (bU aQ (bU (cA.good _) tC))) (dE (cA.good _) qD)) (cJ k (aL (eV k) aO))) (v':= .tuple [.agg [.int v1.1.rows,.int v1.1.cols,.own 1 0 v1.1.cells.length],.own 2 0 v1.2.length]) (ed':=[(1,some ⟨1,v1.1.cells.map (ow eI)⟩),(2,some ⟨1,v1.2.map (ow eI)⟩)]) (by simp only [aH]) (pE (nb':=[(1,⟨1,v1.1.cells.map (ow eI)⟩),(2,⟨1,v1.2.map (ow eI)⟩)]) (by simp only [dX]))) k<|am k k<|ae (bA k k (by intro _ h;cases h)) k<|ae (bA k k (by intro _ h;cases h)) k<|ae (bX aJ k k) k<|ae (ws k) k<|aT k2<|sR<|ae (wl k) k<|aT k2<|aI (t:=mN [(5,.ptr 3 0 0),(6,.own 2 0 v1.2.length),(7,.own 4 0 (([]:(List (List Int))).length))] [(1,⟨1,v1.1.cells.map (ow eI)⟩),(2,⟨1,v1.2.map (ow eI)⟩),(3,⟨3,[oMt v1.1 1]⟩),(4,⟨1,List.map (ow (dQ 1 eI)) ([]:(List (List Int)))⟩)] 5) (bP (kT 2 k2 (gH ⟨_,k,⟨k,k,(by simp only [aH,lA,lT,lR,lC,lN]),k⟩⟩ aQ)) (bN k<|bN k<|eJ k<|bW (cB.plainO _) k<|aQ) k4)<|sQ<|sR ?_;refine aT k2<|aD<|oB h λy6 hy6 h=>cC (body:=(tP v1)) hy6 (λ(x1:((List (List Int))×Int))=>mN [(5,.ptr 0 0 0),(6,.own 2 0 v1.2.length),(7,.own 3 0 x1.1.length),(8,.int x1.2)] [(0,⟨3,[oMt v1.1 1]⟩),(1,⟨1,v1.1.cells.map (ow eI)⟩),(2,⟨1,v1.2.map (ow eI)⟩),(3,⟨1,x1.1.map (ow (dQ 1 eI))⟩)] 4) (λr e t=>e= .exit 0∧Ent t (mN [(7,.own 0 0 r.length)] [(0,⟨1,r.map (ow (dQ 1 eI))⟩)] 1)) (gT [3,1,2,4] (bG k2) (eJ k<|bN k<|bN k<|bW (cB.plainO _) k<|aQ) k4) ?_ ?_
 ·intro x1 o h;refine sQ<|sR<|am k k<|am k k<|ae (dR aJ k k k k) k<|cm k4<|an<|tn<|cN k h (λ_ h=>?_) λ_ h=>aY<|aB<|aB<|sp h ⟨_,k,k,(gT [3] (bG k2) (bW (cB.plainO _) k<|aQ) k4)⟩;refine aG<|tn<|sQ<|aD<|rg<|am k k<|ae (wl k) k<|fp k8<|lp k8<|am k k<|fp k8<|lp k8<|ae (fP k k) k<|am k k<|fp k8<|lp k8<|ae (fP k k) k<|fp k8<|lp k8<|ae (bF k k) k<|cG h λq3 h=>ae (aIj aJ (l:=wr (x1.2*v1.1.cols)) (h:=wr ((wr (x1.2*v1.1.cols))+v1.1.cols)) q3 k k k k k k k k) k<|cG h λq4 h=>ae (qV aJ (l:=([]:(List Int))) (m:=((v1.1.cells.drop (0+(wr (x1.2*v1.1.cols)).toNat)).take ((wr ((wr (x1.2*v1.1.cols))+v1.1.cols)).toNat - (wr (x1.2*v1.1.cols)).toNat))) kH q4 k k k k k (aXA cA k) k k k k k k) k<|ae (wl k) k<|cG h λq5 h=>ae (fN aJ (l:=x1.1) (c:=[.own 5 0 ((([]:(List Int))++((v1.1.cells.drop (0+(wr (x1.2*v1.1.cols)).toNat)).take ((wr ((wr (x1.2*v1.1.cols))+v1.1.cols)).toNat - (wr (x1.2*v1.1.cols)).toNat))).length)]) q5 k k k k k k k k k k k k k k) k<|aa k k<|an<|bB<|tn<|aI (t:=mN [(5,.ptr 0 0 0),(6,.own 2 0 v1.2.length),(7,.own 7 0 ((x1.1++[(([]:(List Int))++((v1.1.cells.drop (0+(wr (x1.2*v1.1.cols)).toNat)).take ((wr ((wr (x1.2*v1.1.cols))+v1.1.cols)).toNat - (wr (x1.2*v1.1.cols)).toNat)))]).length)),(8,.int x1.2)] [(0,⟨3,[oMt v1.1 1]⟩),(1,⟨1,v1.1.cells.map (ow eI)⟩),(2,⟨1,v1.2.map (ow eI)⟩),(7,⟨1,List.map (ow (dQ 1 eI)) (x1.1++[(([]:(List Int))++((v1.1.cells.drop (0+(wr (x1.2*v1.1.cols)).toNat)).take ((wr ((wr (x1.2*v1.1.cols))+v1.1.cols)).toNat - (wr (x1.2*v1.1.cols)).toNat)))])⟩)] 8) (Ent.trans (dJ (b:=7) (b':=5) (j:=0) (es':=List.map eI (([]:(List Int))++((v1.1.cells.drop (0+(wr (x1.2*v1.1.cols)).toNat)).take ((wr ((wr (x1.2*v1.1.cols))+v1.1.cols)).toNat - (wr (x1.2*v1.1.cols)).toNat)))) k k k k (aH _ _) (cA.frzs _)) (bP (kT 2 k2 (gH ⟨_,k,⟨k,k,(by simp only [aH,lA,lT,lR,lC,lN]),k⟩⟩ (bG k2))) (eJ k<|bN k<|bN k<|hX ⟨_,k,k,.inl ⟨fV (([]:(List Int))++((v1.1.cells.drop (0+(wr (x1.2*v1.1.cols)).toNat)).take ((wr ((wr (x1.2*v1.1.cols))+v1.1.cols)).toNat - (wr (x1.2*v1.1.cols)).toNat))) k,cB.plainO _⟩⟩ k<|aQ) k4)) ?_;exact rg<|am k k<|ae (bF k k) k<|aT k2<|sp h ⟨_,k,(gT [0,1,2,7] (bG k2) (eJ k<|bN k<|bN k<|bW (cB.plainO _) k<|aQ) k4)⟩
 ·rintro e t ⟨rfl,hent⟩;exact aN<|tn<|aI hent<|sR<|am k k<|aT k2<|aE<|sp h (bD k k k (fH (cW cB k k)))
def pB (a0:Int) (a1:Int) (a2:(List (List Int))):Option Sc:=
 (sW a1 a2).bind λv1=>
 (uS a0 v1).bind λv2=>
 some ((⟨a1,v2⟩:Sc))
theorem aAu (a0:Int) (a1:Int) (a2:(List (List Int))) (r:Sc) (h:pB a0 a1 a2=some r):HasC Tryz.prog 238 [.int a0,.int a1,.list 1 (a2.map (dQ 1 eI))] (.agg (eS r)):=by
 exact hM [.cell 6 128] Tryz.func238 Tryz.ntmps238 k<|sR<|ae (bX aJ k k) k<|an<|tn<|sR<|am k k<|am k k<|am k k<|am k k<|oB h λv1 hv1 h=>ae (cM (aCz a1 a2 v1 hv1) k3 (cJ k (cJ k aO))) k<|oB h λv2 hv2 h=>ae (cL cB (aEs a0 v1 v2 hv2) k3 (cJ k (aL (vaM k2) aO))) k<|ae (fW aJ k k k k k k) k<|ae (ws k) k<|an<|tn<|aE<|sp h (bD k k k (iJ (aU (k) (aU (cW cB k k) fA))))
def mQ (a0:Mt) (x1:((List Int)×Int)) (x2:((List Int)×Int)):Option (((List Int)×Int) ⊕ (List Int)):=
 bif decide (x2.2<a0.cols) then
 ((cY a0.cells (wr ((wr (x1.2*a0.cols))+x2.2))).bind λv4=>
 (cY x2.1 (wr ((wr (x2.2*a0.rows))+x1.2))).bind λv5=>
 some (.inl ((x2.1.set ((wr ((wr (x2.2*a0.rows))+x1.2)).toNat) v4),wr (x2.2+1))))
 else
 (some (.inr x2.1))
def mR (a0:Mt) (x1:((List Int)×Int)):Option (((List Int)×Int) ⊕ (List Int)):=
 bif decide (x1.2<a0.rows) then
 ((Lp (mQ a0 x1) (x1.1,0)).bind λy6=>
 some (.inl (y6,wr (x1.2+1))))
 else
 (some (.inr x1.1))
def iA (a0:Mt):Option Mt:=
 (lJ a0.cols a0.rows).bind λv1=>
 (Lp (mR a0) (v1.cells,0)).bind λy7=>
 some ((⟨v1.rows,v1.cols,y7⟩:Mt))
theorem rR (a0:Mt) (r:Mt) (h:iA a0=some r):HasC Tryz.prog 158 [.agg (eM a0)] (.agg (eM r)):=by
 refine hM [.cell 2 91] Tryz.func158 Tryz.ntmps158 k<|sR<|ae (wb k) k<|ae (bX aJ k k) k<|an<|tn<|sR<|fp k8<|lp k8<|fp k8<|lp k8<|oB h λv1 hv1 h=>ae (cM (wV a0.cols a0.rows v1 hv1) k3 (cJ k (cJ k aO))) k<|ae (bX aJ k k) k<|ae (ws k) k<|an<|tn<|sQ<|sR<|aT k2<|aD<|oB h λy7 hy7 h=>cC (body:=(mR a0)) hy7 (λ(x1:((List Int)×Int))=>mN [(1,.ptr 0 0 0),(2,.ptr 1 0 0),(3,.ptr 2 0 0),(4,.int x1.2)] [(0,⟨3,[eM a0]⟩),(1,⟨3,[gD]⟩),(2,⟨3,[[.int v1.rows,.int v1.cols,.own 3 0 x1.1.length]]⟩),(3,⟨1,x1.1.map (ow eI)⟩)] 4) (λr e t=>e= .exit 0∧Ent t (mN [(2,.ptr 0 0 0),(3,.ptr 1 0 0)] [(0,⟨3,[gD]⟩),(1,⟨3,[[.int v1.rows,.int v1.cols,.own 2 0 r.length]]⟩),(2,⟨1,r.map (ow eI)⟩)] 3)) (gT [0,1,3,2] (bG k2) (bO k<|bO k<|eJ k<|bN k<|aQ) k4) ?_ ?_
 ·intro x1 o h;refine sQ<|sR<|am k k<|fp k8<|lp k8<|cm k4<|an<|tn<|cN k h (λ_ h=>?_) λ_ h=>aY<|aB<|aB<|sp h ⟨_,k,k,(gT [1,2,3] (bG k2) (bO k<|eJ k<|bN k<|aQ) k4)⟩;refine aG<|tn<|sQ<|aD<|sR<|aT k2<|aD<|oB h λy6 hy6 h=>cC (body:=(mQ a0 x1)) hy6 (λ(x2:((List Int)×Int))=>mN [(1,.ptr 0 0 0),(2,.ptr 1 0 0),(3,.ptr 2 0 0),(4,.int x1.2),(5,.int x2.2)] [(0,⟨3,[eM a0]⟩),(1,⟨3,[gD]⟩),(2,⟨3,[[.int v1.rows,.int v1.cols,.own 3 0 x2.1.length]]⟩),(3,⟨1,x2.1.map (ow eI)⟩)] 4) (λr e t=>e= .exit 2∧Ent t (mN [(1,.ptr 0 0 0),(2,.ptr 1 0 0),(3,.ptr 2 0 0),(4,.int x1.2)] [(0,⟨3,[eM a0]⟩),(1,⟨3,[gD]⟩),(2,⟨3,[[.int v1.rows,.int v1.cols,.own 3 0 r.length]]⟩),(3,⟨1,r.map (ow eI)⟩)] 4)) (bP (bG k2) (bO k<|bO k<|eJ k<|bN k<|aQ) k4) ?_ ?_
  ·intro x2 o h;refine sQ<|sR<|am k k<|fp k8<|lp k8<|cm k4<|an<|tn<|cN k h (λ_ h=>?_) λ_ h=>aY<|aB<|aB<|sp h ⟨_,k,k,(bP (bG k2) (bO k<|bO k<|eJ k<|bN k<|aQ) k4)⟩;refine aG<|tn<|sQ<|aD<|aP fB<|fp k8<|lp k8<|am k k<|fp k8<|lp k8<|ae (fP k k) k<|am k k<|ae (bF k k) k<|fp k8<|lp k8<|am k k<|fp k8<|lp k8<|ae (fP k k) k<|am k k<|ae (bF k k) k<|oB h λv4 hv4 h=>ae (xl hv4 k) k<|lr k7<|oB h λv5 hv5 h=>ae (xo hv5 k) k<|ae (gL aJ kH (u:=v4) (dF hv5) k k k k k k) k<|an<|lL (by kernel_rfl)<|bB<|tn ?_;exact aI (t:=mN [(1,.ptr 0 0 0),(2,.ptr 1 0 0),(3,.ptr 2 0 0),(4,.int x1.2),(5,.int x2.2)] [(0,⟨3,[eM a0]⟩),(1,⟨3,[gD]⟩),(2,⟨3,[[.int v1.rows,.int v1.cols,.own 3 0 ((x2.1.set ((wr ((wr (x2.2*a0.rows))+x1.2)).toNat) v4).length)]]⟩),(3,⟨1,List.map (ow eI) (x2.1.set ((wr ((wr (x2.2*a0.rows))+x1.2)).toNat) v4)⟩)] 4) (bP (bG k2) (bO k<|bO k<|hX ⟨_,k,k,.inr ⟨_,_,k,⟨_,_,k,k,⟨_,_,k,k,⟨_,_,k,⟨k,k,(by simp only [aH,lA,lT,lR,lC,lN]),k⟩,k⟩⟩⟩,k⟩⟩ k<|bN k<|aQ) k4)<|rg<|am k k<|ae (bF k k) k<|aT k2<|sp h ⟨_,k,(bP (bG k2) (bO k<|bO k<|eJ k<|bN k<|aQ) k4)⟩
  ·rintro e t ⟨rfl,hent⟩;exact aN<|bB<|tn<|aI hent<|rg<|am k k<|ae (bF k k) k<|aT k2<|sp h ⟨_,k,(bP (bG k2) (bO k<|bO k<|eJ k<|bN k<|aQ) k4)⟩
 ·rintro e t ⟨rfl,hent⟩;exact aN<|tn<|aI hent<|sR<|lp k8<|ae (ws k) k<|an<|tn<|aE<|sp h (bD k k k (iJ (aU (k) (aU (k) (aU (cW cA k k) fA)))))
def vO (a0:Int) (a1:Int) (a2:(List (List Int))) (x1:Int):Option (Int ⊕ (Unit ⊕ Bool)):=
 bif decide (x1<(a2.length:Int)) then
 ((cY a2 x1).bind λv2=>
 bif !decide ((v2.length:Int)=a1) then
 (some (.inr (.inr (false))))
 else
 ((cY a2 x1).bind λv4=>
 (nD a0 v4).bind λv5=>
 bif !v5 then
 (some (.inr (.inr (false))))
 else
 (some (.inl (wr (x1+1))))))
 else
 (some (.inr (.inl ())))
def aAv (a0:Int) (a1:Int) (a2:(List (List Int))):Option Bool:=
 (Lp (vO a0 a1 a2) 0).bind λy7=>
 Sum.elim (λy8=>
 (qF a0).bind λv9=>
 bif v9 then
 ((lH a1 0 8).bind λv11=>
 bif v11 then
 (some (decide ((a2.length:Int)≤16)))
 else
 (some (false)))
 else
 (some (false))
 )
 (λy13=>
 some y13
 )
 y7
theorem aLc (a0:Int) (a1:Int) (a2:(List (List Int))) (r:Bool) (h:aAv a0 a1 a2=some r):HasC Tryz.prog 241 [.int a0,.int a1,.list 1 (a2.map (dQ 1 eI))] (.bl r):=by
 refine hM [.tmp 6] Tryz.func241 Tryz.ntmps241 k<|sR<|aT k2<|sQ<|sR<|aT k2<|aD<|oB h λy7 hy7 h=>cC (body:=(vO a0 a1 a2)) hy7 (λ(x1:Int)=>mN [(0,.int a0),(1,.int a1),(2,.list 1 (a2.map (dQ 1 eI))),(7,.int x1)] [] 0) (λr e t=>Sum.elim (λa=>(λr e t=>e= .exit 0∧Ent t (mN [(0,.int a0),(1,.int a1),(2,.list 1 (a2.map (dQ 1 eI)))] [] 0)) a e t) (λb=>(λr e t=>e= .ret∧mW TT [.tmp 6] (.bl r) .ret t) b e t) r) (bP (bG k2) aQ k4) ?_ ?_
 ·intro x1 o h;exact sQ<|sR<|am k k<|am k k<|ln k4<|cm k4<|an<|tn<|cN k h (λ_ h=>aG<|tn<|sQ<|aD<|sR<|am k k<|am k k<|oB h λv2 hv2 h=>ae (xl hv2 k) k<|lr k7<|ln k4<|am k k<|cm k4<|am k k<|sP h (λq3 h=>aV 21 k q3<|aK k4<|aK k4<|aK k4<|ak k k<|pk k3<|an<|tn<|dO k k<|sR<|aT k2<|aE<|bC<|aC<|aC<|sp h ⟨_,k,k,bD k k k (lF k)⟩) λq3 h=>aV 21 k q3<|am k k<|am k k<|am k k<|oB h λv4 hv4 h=>ae (xl hv4 k) k<|lr k7<|oB h λv5 hv5 h=>ae (aS (aBS a0 v4 v5 hv5) k (cJ k (cJ k aO))) k<|ae (dI k) k<|pk k3<|an<|tn<|cN k h (λ_ h=>sR<|aT k2<|aE<|bC<|aC<|aC<|sp h ⟨_,k,k,bD k k k (lF k)⟩) λ_ h=>aG<|bB<|tn<|rg<|am k k<|ae (bF k k) k<|aT k2<|sp h ⟨_,k,(bP (bG k2) aQ k4)⟩) λ_ h=>aY<|aB<|aB<|sp h ⟨_,k,k,(bP (bG k2) aQ k4)⟩
 ·intro e t hX;rcases y7 with y8|y13
  ·obtain ⟨rfl,hent⟩:=hX;exact aN<|tn<|aI hent<|sR<|am k k<|oB h λv9 hv9 h=>ae (aS (zX a0 v9 hv9) k (cJ k aO)) k<|am k k<|sP h (λq10 h=>aV 32 k q10<|am k k<|oB h λv11 hv11 h=>ae (aS (qW a1 0 8 v11 hv11) k (cJ k (cJ k (cJ k aO)))) k<|pk k3<|am k k<|sP h (λq12 h=>aV 36 k q12<|am k k<|ln k4<|cm k4<|pk k3<|aT k2<|aE<|gK h k2) λq12 h=>aV 36 k q12<|aK k4<|ak k k<|pk k3<|aT k2<|aE<|gK h k2) λq10 h=>aV 32 k q10<|aK k4<|pk k3<|am k k<|aK k4<|ak k k<|pk k3<|aT k2<|aE<|gK h k2
  ·obtain ⟨rfl,hent⟩:=hX;exact bC<|aC<|sp h hent
def qK (a0:(List (List Int))) (a1:(List (List Int))) (x1:Int) (x2:Int):Option (Int ⊕ (Unit ⊕ Bool)):=
 (cY a0 x1).bind λv6=>
 bif decide (x2<(v6.length:Int)) then
 ((cY a0 x1).bind λv8=>
 (cY v8 x2).bind λv9=>
 (cY a1 x1).bind λv10=>
 (cY v10 x2).bind λv11=>
 bif !decide (v9=v11) then
 (some (.inr (.inr (false))))
 else
 (some (.inl (wr (x2+1)))))
 else
 (some (.inr (.inl ())))
def vP (a0:(List (List Int))) (a1:(List (List Int))) (x1:Int):Option (Int ⊕ (Unit ⊕ Bool)):=
 bif decide (x1<(a0.length:Int)) then
 ((cY a0 x1).bind λv3=>
 (cY a1 x1).bind λv4=>
 bif !decide ((v3.length:Int)=(v4.length:Int)) then
 (some (.inr (.inr (false))))
 else
 ((Lp (qK a0 a1 x1) 0).bind λy13=>
 Sum.elim (λy14=>
 some (.inl (wr (x1+1)))
 )
 (λy15=>
 some (.inr (.inr y15))
 )
 y13))
 else
 (some (.inr (.inl ())))
def wZ (a0:(List (List Int))) (a1:(List (List Int))):Option Bool:=
 bif !decide ((a0.length:Int)=(a1.length:Int)) then
 (some (false))
 else
 ((Lp (vP a0 a1) 0).bind λy16=>
 Sum.elim (λy17=>
 some (true)
 )
 (λy18=>
 some y18
 )
 y16)
theorem aFp (a0:(List (List Int))) (a1:(List (List Int))) (r:Bool) (h:wZ a0 a1=some r):HasC Tryz.prog 242 [.list 1 (a0.map (dQ 1 eI)),.list 1 (a1.map (dQ 1 eI))] (.bl r):=by
 refine hM [.tmp 4] Tryz.func242 Tryz.ntmps242 k<|sR<|aT k2<|sQ<|sR<|am k k<|ln k4<|am k k<|ln k4<|cm k4<|an<|tn<|cN k h (λ_ h=>sR<|aT k2<|aE<|aC<|gK h k2) λ_ h=>?_;refine aG<|tn<|sQ<|sR<|aT k2<|aD<|oB h λy16 hy16 h=>cC (body:=(vP a0 a1)) hy16 (λ(x1:Int)=>mN [(0,.list 1 (a0.map (dQ 1 eI))),(1,.list 1 (a1.map (dQ 1 eI))),(5,.int x1)] [] 0) (λr e t=>Sum.elim (λa=>(λr e t=>e= .exit 0∧Ent t (mN [] [] 0)) a e t) (λb=>(λr e t=>e= .ret∧mW TT [.tmp 4] (.bl r) .ret t) b e t) r) (bP (bG k2) aQ k4) ?_ ?_
 ·intro x1 o h;refine sQ<|sR<|am k k<|am k k<|ln k4<|cm k4<|an<|tn<|cN k h (λ_ h=>?_) λ_ h=>aY<|aB<|aB<|sp h ⟨_,k,k,(bP aQ aQ k4)⟩;refine aG<|tn<|sQ<|aD<|sQ<|sQ<|aP fB<|am k k<|am k k<|oB h λv3 hv3 h=>ae (xl hv3 k) k<|lr k7<|ln k4<|am k k<|am k k<|oB h λv4 hv4 h=>ae (xl hv4 k) k<|lr k7<|ln k4<|cm k4<|an<|lL (by kernel_rfl)<|tn<|cN k h (λ_ h=>sR<|aT k2<|aE<|aC<|bC<|aC<|aC<|sp h ⟨_,k,k,bD k k k (lF k)⟩) λ_ h=>?_;refine aG<|tn<|sR<|aT k2<|aD<|oB h λy13 hy13 h=>cC (body:=(qK a0 a1 x1)) hy13 (λ(x2:Int)=>mN [(0,.list 1 (a0.map (dQ 1 eI))),(1,.list 1 (a1.map (dQ 1 eI))),(5,.int x1),(6,.int x2)] [] 0) (λr e t=>Sum.elim (λa=>(λr e t=>e= .exit 2∧Ent t (mN [(0,.list 1 (a0.map (dQ 1 eI))),(1,.list 1 (a1.map (dQ 1 eI))),(5,.int x1)] [] 0)) a e t) (λb=>(λr e t=>e= .ret∧mW TT [.tmp 4] (.bl r) .ret t) b e t) r) (bP (bG k2) aQ k4) ?_ ?_
  ·intro x2 o h;exact sQ<|sR<|am k k<|am k k<|am k k<|oB h λv6 hv6 h=>ae (xl hv6 k) k<|lr k7<|ln k4<|cm k4<|an<|tn<|cN k h (λ_ h=>aG<|tn<|sQ<|aD<|sQ<|aP fB<|am k k<|am k k<|oB h λv8 hv8 h=>ae (xl hv8 k) k<|lr k7<|am k k<|oB h λv9 hv9 h=>ae (xl hv9 k) k<|lr k7<|am k k<|am k k<|oB h λv10 hv10 h=>ae (xl hv10 k) k<|lr k7<|am k k<|oB h λv11 hv11 h=>ae (xl hv11 k) k<|lr k7<|cm k4<|an<|lL (by kernel_rfl)<|tn<|cN k h (λ_ h=>sR<|aT k2<|aE<|bC<|aC<|aC<|sp h ⟨_,k,k,bD k k k (lF k)⟩) λ_ h=>aG<|bB<|tn<|rg<|am k k<|ae (bF k k) k<|aT k2<|sp h ⟨_,k,(bP (bG k2) aQ k4)⟩) λ_ h=>aY<|aB<|aB<|sp h ⟨_,k,k,(bP (bG k2) aQ k4)⟩
  ·intro e t hX;rcases y13 with y14|y15
   ·obtain ⟨rfl,hent⟩:=hX;exact aN<|bB<|tn<|aI hent<|rg<|am k k<|ae (bF k k) k<|aT k2<|sp h ⟨_,k,(bP (bG k2) aQ k4)⟩
   ·obtain ⟨rfl,hent⟩:=hX;exact bC<|bC<|aC<|aC<|sp h ⟨_,k,k,hent⟩
 ·intro e t hX;rcases y16 with y17|y18
  ·obtain ⟨rfl,hent⟩:=hX;exact aN<|tn<|aI hent<|sR<|aT k2<|aE<|gK h k2
  ·obtain ⟨rfl,hent⟩:=hX;exact bC<|aC<|sp h hent
def mD (a0:Int) (a1:Sc):Option Bool:=
 (aAv a0 a1.size a1.basis).bind λv1=>
 bif !v1 then
 (some (false))
 else
 ((sW a1.size a1.basis).bind λv3=>
 (uS a0 v3).bind λv4=>
 (wZ v4 a1.basis).bind λv5=>
 some (v5))
theorem aAH (a0:Int) (a1:Sc) (r:Bool) (h:mD a0 a1=some r):HasC Tryz.prog 219 [.int a0,.agg (eS a1)] (.bl r):=by
 exact hM [.tmp 4] Tryz.func219 Tryz.ntmps219 k<|sR<|ae (wb k) k<|aT k2<|sQ<|sR<|am k k<|fp k8<|lp k8<|fp k8<|lp k8<|oB h λv1 hv1 h=>ae (aS (aLc a0 a1.size a1.basis v1 hv1) k (cJ k (cJ k (cJ k aO)))) k<|ae (dI k) k<|an<|tn<|cN k h (λ_ h=>sR<|aT k2<|aE<|aC<|gK h k2) λ_ h=>aG<|tn<|sQ<|aP fB<|am k k<|fp k8<|lp k8<|fp k8<|lp k8<|oB h λv3 hv3 h=>ae (cM (aCz a1.size a1.basis v3 hv3) k3 (cJ k (cJ k aO))) k<|oB h λv4 hv4 h=>ae (cL cB (aEs a0 v3 v4 hv4) k3 (cJ k (aL (vaM k2) aO))) k<|fp k8<|lp k8<|oB h λv5 hv5 h=>ae (aS (aFp v4 a1.basis v5 hv5) k (aL (tA cB k k) (cJ k aO))) k<|aa k k<|an<|lL (by kernel_rfl)<|tn<|aE<|gK h k2
def xA (a0:Qv):Option Qv:=
 bif decide (([]:(List Int)).length +a0.src.length≤4294967296) then
 (bif decide (([]:(List Int)).length +a0.tgt.length≤4294967296) then
 (some ((⟨a0.n,(([]:(List Int))++a0.src),(([]:(List Int))++a0.tgt)⟩:Qv)))
 else none)
 else none
theorem aFq (a0:Qv) (r:Qv) (h:xA a0=some r):HasC Tryz.prog 74 [.agg (eQ a0)] (.agg (eQ r)):=by
 exact hM [.cell 2 26] Tryz.func74 Tryz.ntmps74 k<|sR<|ae (wb k) k<|ae (bX aJ k k) k<|an<|tn<|sQ<|aP fB<|fp k8<|lp k8<|ae (wl k) k<|fp k8<|lp k8<|cG h λq1 h=>ae (qV aJ (l:=([]:(List Int))) (m:=a0.src) kH q1 k k k k k k k k k k k k) k<|ae (wl k) k<|fp k8<|lp k8<|cG h λq2 h=>ae (qV aJ (l:=([]:(List Int))) (m:=a0.tgt) kH q2 k k k k k k k k k k k k) k<|ae (fW aJ k k k k k k) k<|ae (ws k) k<|an<|lL (by kernel_rfl)<|tn<|aE<|sp h (bD k k k (iJ (aU (k) (aU (cW cA k k) (aU (cW cA k k) fA)))))
def vQ (a1:Qv) (a2:(List Int)) (x1:((List Mt)×Int)):Option (((List Mt)×Int) ⊕ (List Mt)):=
 bif decide (x1.2<(a1.src.length:Int)) then
 ((cY a1.tgt x1.2).bind λv4=>
 (cY a2 v4).bind λv5=>
 (cY a1.src x1.2).bind λv6=>
 (cY a2 v6).bind λv7=>
 (lJ v5 v7).bind λv8=>
 bif decide (x1.1.length+1≤4294967296) then
 (some (.inl ((x1.1++[v8]),wr (x1.2+1))))
 else none)
 else
 (some (.inr x1.1))
def aAw (a0:Int) (a1:Qv) (a2:(List Int)):Option Rp:=
 (xA a1).bind λv1=>
 bif decide (([]:(List Int)).length +a2.length≤4294967296) then
 ((Lp (vQ a1 a2) (([]:(List Mt)),0)).bind λy10=>
 some ((⟨a0,v1,(([]:(List Int))++a2),y10⟩:Rp)))
 else none
theorem aLd (a0:Int) (a1:Qv) (a2:(List Int)) (r:Rp) (h:aAw a0 a1 a2=some r):HasC Tryz.prog 33 [.int a0,.agg (eQ a1),.list 1 (a2.map eI)] (.agg (eR r)):=by
 refine hM [.cell 6 29] Tryz.func33 Tryz.ntmps33 k<|sR<|ae (wb k) k<|ae (bX aJ k k) k<|an<|tn<|sR<|am k k<|lp k8<|oB h λv1 hv1 h=>ae (cQ (aFq a1 v1 hv1) k3 (aL (eV k) aO)) k<|ae (wl k) k<|am k k<|cG h λq2 h=>ae (qV aJ (l:=([]:(List Int))) (m:=a2) kH q2 k k k k k k k k k k k k) k<|ae (wl k) k<|ae (fW aJ k k k k k k) k<|ae (bX aJ k k) k<|ae (ws k) k<|an<|tn<|aI (t:=mN [(2,.list 1 (a2.map eI)),(4,.ptr 0 0 0),(6,.ptr 1 0 0),(7,.ptr 7 0 0)] [(0,⟨3,[eQ a1]⟩),(1,⟨6,[nB]⟩),(2,⟨1,v1.src.map (ow eI)⟩),(3,⟨1,v1.tgt.map (ow eI)⟩),(5,⟨1,List.map (ow eI) (([]:(List Int))++a2)⟩),(6,⟨3,List.map (ow eM) ([]:(List Mt))⟩),(7,⟨6,[[.int a0,.int v1.n,.own 2 0 v1.src.length,.own 3 0 v1.tgt.length,.own 5 0 ((([]:(List Int))++a2).length),.own 6 0 (([]:(List Mt)).length)]]⟩)] 8) (bP (bG k2) (bO k<|bO k<|bN k<|bN k<|bN k<|bW (aX.plainO _) k<|hX ⟨_,k,k,.inr ⟨_,_,k,⟨_,_,k,k,⟨_,_,k,k,⟨_,_,k,⟨k,k,k,k⟩,⟨_,_,k,⟨k,k,k,k⟩,⟨_,_,k,⟨k,k,k,k⟩,⟨_,_,k,⟨k,k,(by simp only [aH,lA,lT,lR,lC,lN]),k⟩,k⟩⟩⟩⟩⟩⟩,k⟩⟩ k<|aQ) k4)<|sQ<|sR<|aT k2<|aD<|oB h λy10 hy10 h=>cC (body:=(vQ a1 a2)) hy10 (λ(x1:((List Mt)×Int))=>mN [(2,.list 1 (a2.map eI)),(4,.ptr 0 0 0),(6,.ptr 1 0 0),(7,.ptr 2 0 0),(8,.int x1.2)] [(0,⟨3,[eQ a1]⟩),(1,⟨6,[nB]⟩),(2,⟨6,[[.int a0,.int v1.n,.own 3 0 v1.src.length,.own 4 0 v1.tgt.length,.own 5 0 ((([]:(List Int))++a2).length),.own 6 0 x1.1.length]]⟩),(3,⟨1,v1.src.map (ow eI)⟩),(4,⟨1,v1.tgt.map (ow eI)⟩),(5,⟨1,List.map (ow eI) (([]:(List Int))++a2)⟩),(6,⟨3,x1.1.map (ow eM)⟩)] 7) (λr e t=>e= .exit 0∧Ent t (mN [(6,.ptr 0 0 0),(7,.ptr 1 0 0)] [(0,⟨6,[nB]⟩),(1,⟨6,[[.int a0,.int v1.n,.own 2 0 v1.src.length,.own 3 0 v1.tgt.length,.own 4 0 ((([]:(List Int))++a2).length),.own 5 0 r.length]]⟩),(2,⟨1,v1.src.map (ow eI)⟩),(3,⟨1,v1.tgt.map (ow eI)⟩),(4,⟨1,List.map (ow eI) (([]:(List Int))++a2)⟩),(5,⟨3,r.map (ow eM)⟩)] 6)) (gT [0,1,7,2,3,5,6] (bG k2) (bO k<|bO k<|eJ k<|bN k<|bN k<|bN k<|bW (aX.plainO _) k<|aQ) k4) ?_ ?_
 ·intro x1 o h;refine sQ<|sR<|am k k<|fp k8<|lp k8<|ln k4<|cm k4<|an<|tn<|cN k h (λ_ h=>?_) λ_ h=>aY<|aB<|aB<|sp h ⟨_,k,k,(gT [1,2,3,4,5,6] (bG k2) (bO k<|eJ k<|bN k<|bN k<|bN k<|bW (aX.plainO _) k<|aQ) k4)⟩;refine aG<|tn<|sQ<|aD<|aP fB<|fp k8<|lp k8<|am k k<|fp k8<|lp k8<|am k k<|oB h λv4 hv4 h=>ae (xl hv4 k) k<|lr k7<|oB h λv5 hv5 h=>ae (xl hv5 k) k<|lr k7<|am k k<|fp k8<|lp k8<|am k k<|oB h λv6 hv6 h=>ae (xl hv6 k) k<|lr k7<|oB h λv7 hv7 h=>ae (xl hv7 k) k<|lr k7<|oB h λv8 hv8 h=>ae (cM (wV v5 v7 v8 hv8) k3 (cJ k (cJ k aO))) k<|ae (wl k) k<|cG h λq9 h=>ae (fN aJ (l:=x1.1) (c:=[.int v8.rows,.int v8.cols,.own 7 0 v8.cells.length]) q9 k k k k k k k k k k k k k k) k<|fp k8<|ae (ws k) k<|an ?_;exact lL (by kernel_rfl)<|bB<|tn<|aI (t:=mN [(2,.list 1 (a2.map eI)),(4,.ptr 0 0 0),(6,.ptr 1 0 0),(7,.ptr 2 0 0),(8,.int x1.2)] [(0,⟨3,[eQ a1]⟩),(1,⟨6,[nB]⟩),(2,⟨6,[[.int a0,.int v1.n,.own 3 0 v1.src.length,.own 4 0 v1.tgt.length,.own 5 0 ((([]:(List Int))++a2).length),.own 9 0 ((x1.1++[v8]).length)]]⟩),(3,⟨1,v1.src.map (ow eI)⟩),(4,⟨1,v1.tgt.map (ow eI)⟩),(5,⟨1,List.map (ow eI) (([]:(List Int))++a2)⟩),(9,⟨3,List.map (ow eM) (x1.1++[v8])⟩)] 10) (Ent.trans (dJ (b:=9) (b':=7) (j:=2) (es':=v8.cells.map eI) k k k k (aH _ _) (cA.frzs _)) (bP (bG k2) (bO k<|bO k<|hX ⟨_,k,k,.inr ⟨_,_,k,⟨_,_,k,k,⟨_,_,k,k,⟨_,_,k,⟨k,k,k,k⟩,⟨_,_,k,⟨k,k,k,k⟩,⟨_,_,k,⟨k,k,k,k⟩,⟨_,_,k,⟨k,k,(by simp only [aH,lA,lT,lR,lC,lN]),k⟩,k⟩⟩⟩⟩⟩⟩,k⟩⟩ k<|bN k<|bN k<|bN k<|hX ⟨_,k,k,.inl ⟨fV v8 k,aX.plainO _⟩⟩ k<|aQ) k4))<|rg<|am k k<|ae (bF k k) k<|aT k2<|sp h ⟨_,k,(gT [0,1,2,3,4,5,9] (bG k2) (bO k<|bO k<|eJ k<|bN k<|bN k<|bN k<|bW (aX.plainO _) k<|aQ) k4)⟩
 ·rintro e t ⟨rfl,hent⟩;exact aN<|tn<|aI hent<|sR<|lp k8<|ae (ws k) k<|an<|tn<|aE<|sp h (bD k k k (iJ (aU (k) (aU (k) (aU (cW cA k k) (aU (cW cA k k) (aU (cW cA k k) (aU (cW aX k k) fA))))))))
end
end Go.Proofs.YtilpfdokmlanjaaGreat

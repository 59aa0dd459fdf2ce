/-
  Several texts of the claim in one.
-/
import Derived.Test.YtghechfdejhapaaGreatProg
import Derived.Test.YtghechfdejhapaaGreatH7
set_option linter.unusedVariables false
set_option linter.unusedSimpArgs false
namespace Go.Proofs.YtghechfdejhapaaGreat
open Go.RowKit
noncomputable section
def zB (L:List Nat):List Int:=L.map λt:Nat=>(t:Int)
theorem pO (L:List Nat):(zB L).length=L.length:=by simp [zB]
theorem aLy {p:Int} {m:Nat} {F:Nat→Nat→Int} {j:Nat} (h:(dB p m F j).2.length=m): ∀ d,dB p m F (j+d)=dB p m F j
 |0=>rfl
 |d+1=>by
  show iJ p m (dB p m F (j+d)) (j+d)=_
  rw [aLy h d]
  unfold iJ
  rw [if_pos]
  rw [h,Nat.sub_self]
  rfl
def aEG (F:Nat→Nat→Int) (a b x:Nat):Nat→Nat→Int:=λi y=>if y<x then yY F a b i y else F i y
def aBz (p:Int) (F:Nat→Nat→Int) (a:Nat) (s:Int) (x:Nat):Nat→Nat→Int:=λi y=>if y<x then uE p F a s i y else F i y
def kT (p:Int) (F:Nat→Nat→Int) (a j x:Nat):Nat→Nat→Int:=λi c=>if i<x then aAZ p F a j i c else F i c
theorem aNh {r c a b x:Nat} (F:Nat→Nat→Int):dC r c (aIn (aIn (aEG F a b x) a x (F b x)) b x (F a x))=dC r c (aEG F a b (x+1)):=by
 refine cW λi y hi hy=>?_
 simp only [aIn,aEG,yY]
 by_cases e:y=x
 ·subst e
  simp only [and_true,Nat.lt_irrefl,if_false,Nat.lt_succ_self,if_true]
  by_cases e1:i=b
  ·rw [if_pos e1]
   by_cases e2:i=a
   ·rw [if_pos e2]
    subst e1;rw [e2]
   ·rw [if_neg e2,if_pos e1]
  ·rw [if_neg e1]
   by_cases e2:i=a
   ·rw [if_pos e2,if_pos e2]
   ·rw [if_neg e2,if_neg e2,if_neg e1]
 ·rw [if_neg (by omega),if_neg (by omega)]
  by_cases e1:y<x
  ·rw [if_pos e1,if_pos (show y<x+1 by omega)]
  ·rw [if_neg e1,if_neg (show ¬ y<x+1 by omega)]
theorem aFq {F:Nat→Nat→Int} {a b x i:Nat} :aEG F a b x i x=F i x:=by simp [aEG]
theorem aLz {p:Int} {F:Nat→Nat→Int} {a x i:Nat} {s:Int} :aBz p F a s x i x=F i x:=by simp [aBz]
theorem aMA {p:Int} {r c a x:Nat} {s:Int} (F:Nat→Nat→Int):dC r c (aIn (aBz p F a s x) a x ((F a x*s) % p))=dC r c (aBz p F a s (x+1)):=by
 refine cW λi y hi hy=>?_
 simp only [aIn,aBz,uE]
 by_cases e:y=x
 ·subst e
  simp only [and_true,Nat.lt_irrefl,if_false,Nat.lt_succ_self,if_true]
 ·rw [if_neg (by omega)]
  by_cases e1:y<x
  ·rw [if_pos e1,if_pos (show y<x+1 by omega)]
  ·rw [if_neg e1,if_neg (show ¬ y<x+1 by omega)]
theorem aSP {p r:Int} (hp:oF p=true) (hr:0≤r∧r<p):0≤aDX p r∧aDX p r<p:=aSA hp hr _
theorem aQA {p:Int} {m n k r:Nat} {F:Nat→Nat→Int} (h:InP p m n F) (hk:k<m) (hr:r<m):InP p m n (yY F k r):=by
 intro i c hi hc
 unfold yY
 split
 ·exact h r c hr hc
 ·split
  ·exact h k c hk hc
  ·exact h i c hi hc
theorem aNi {p:Int} (hp:oF p=true) {m n k:Nat} {s:Int} {F:Nat→Nat→Int} (h:InP p m n F):InP p m n (uE p F k s):=by
 intro i c hi hc
 unfold uE
 split
 ·exact aBy hp
 ·exact h i c hi hc
theorem aTS {p:Int} (hp:oF p=true) {m n k j x:Nat} {F:Nat→Nat→Int} (h:InP p m n F):InP p m n (kT p F k j x):=by
 intro i c hi hc
 unfold kT aAZ
 split
 ·split
  ·rename_i h1 h2;subst h2;exact h _ c hi hc
  ·exact aBy hp
 ·exact h i c hi hc
theorem aUv {p:Int} (hp:oF p=true) {m n k j x:Nat} {F:Nat→Nat→Int} (hx:x≠k):dC m n (aMp p (kT p F k j x) x (p - F x j) (kT p F k j x k))=dC m n (kT p F k j (x+1)):=by
 refine cW λi c hi hc=>?_
 simp only [aMp,kT,aAZ]
 by_cases e:i=x
 ·subst e
  rw [if_pos rfl,if_neg (Nat.lt_irrefl _),if_pos (Nat.lt_succ_self _),if_neg hx]
  simp only [if_true,ite_self]
  rw [show F i c+(p - F i j)*F k c=(F i c - F i j*F k c)+p*F k c by rw [Int.sub_mul];omega,Int.add_mul_emod_self_left]
 ·rw [if_neg e]
  by_cases e1:i<x
  ·rw [if_pos e1,if_pos (show i<x+1 by omega)]
  ·rw [if_neg e1,if_neg (show ¬ i<x+1 by omega)]
theorem aNj {p:Int} {m n k j:Nat} {F:Nat→Nat→Int} :dC m n (kT p F k j k)=dC m n (kT p F k j (k+1)):=by
 refine cW λi c hi hc=>?_
 simp only [kT,aAZ]
 by_cases e:i<k
 ·rw [if_pos e,if_pos (show i<k+1 by omega)]
 ·rw [if_neg e]
  by_cases e1:i=k
  ·subst e1;simp
  ·rw [if_neg (show ¬ i<k+1 by omega)]
theorem aMB {p:Int} {F:Nat→Nat→Int} {k r j:Nat} :fP p F k r j=aAZ p (uE p (yY F k r) k (aDX p (F r j))) k j:=rfl
structure Tb (p:Int) (m n:Nat) (F:Nat→Nat→Int):Prop where
 hp:oF p=true
 hN:m*n≤1048576
 hm:m≤1048576
 hn:n≤1048576
 hi:InP p m n F
theorem aXh {p:Int} {m n:Nat} {F:Nat→Nat→Int} (T:Tb p m n F) {j:Nat} (hj:j<n) (L:List Nat) (hL:L.length≤m) (l:List Int):
  Lp (pM ⟨m,n,l⟩ ((j:Int),dC m n F,zB L)) (((zB L).length:Nat):Int)=some ((lL F j (m - L.length) L.length:Nat):Int):=by
 obtain ⟨hp,hN,hm,hn,hi⟩:=T
 have hle:= @aCR F j (m - L.length) L.length
 have hz:= @aGs F j (m - L.length) L.length
 have hh:= @aFi F j (m - L.length) L.length
 generalize lL F j (m - L.length) L.length=r at*
 rw [pO]
 refine eB (λt=>((L.length+t:Nat):Int)) (r - L.length) (by simp) (λt ht=>?_) (λ_=>?_)
 ·unfold pM
  simp only
  rw [lE (by omega),cond_true,aLx hN hm (by omega),Option.bind_some,xV hN (by omega),aAn hN hm (by omega),Int.toNat_natCast,Int.toNat_natCast,Nat.add_sub_cancel_left,lE hj,gd,cond_true,Nat.zero_add,Int.toNat_natCast,nM _ (by omega) hj,Option.bind_some,
   hz _ (by omega) (by omega),decide_eq_true rfl,cond_true,cH (n:=m) (by omega) (by omega),Nat.add_assoc]
 ·rw [show L.length+(r - L.length)=r by omega]
  unfold pM
  simp only
  rcases Nat.lt_or_ge r m with h|h
  ·rw [lE h,cond_true,aLx hN hm h,Option.bind_some,xV hN h,aAn hN hm h,Int.toNat_natCast,Int.toNat_natCast,Nat.add_sub_cancel_left,lE hj,gd,cond_true,Nat.zero_add,Int.toNat_natCast,nM _ h hj,Option.bind_some,
    decide_eq_false (hh (by omega)),cond_false]
  ·rw [oG h,cond_false]
theorem aWg {p:Int} {m n:Nat} {F:Nat→Nat→Int} (T:Tb p m n F) {j:Nat} (hj:j<n) (L:List Nat) (hL:L.length≤m) (l:List Int):
  pN p ⟨m,n,l⟩ ((j:Int),dC m n F,zB L)=some (.inl (((j+1:Nat):Int),dC m n (iJ p m (F,L) j).1,zB (iJ p m (F,L) j).2)):=by
 have hpv:=aXh T hj L hL l
 obtain ⟨hp,hN,hm,hn,hi⟩:=T
 have hb:=iI hp
 have hle:= @aCR F j (m - L.length) L.length
 unfold pN iJ
 simp only
 rw [lE hj,cond_true,hpv,Option.bind_some,cH hj (by omega)]
 clear hpv
 generalize lL F j (m - L.length) L.length=r at*
 by_cases hr:r=m
 ·rw [decide_eq_true (by omega),cond_true,if_pos hr]
 ·rw [decide_eq_false (by omega),cond_false,if_neg hr]
  have hk:L.length<m:=by omega
  have hrm:r<m:=by omega
  simp only [pO]
  rw [aLx hN hm hk,Option.bind_some,xV hN hk,aAn hN hm hk]
  simp only [Int.toNat_natCast,Nat.add_sub_cancel_left,Nat.zero_add]
  rw [eB (r:=dC m n (yY F L.length r)) (λx=>(dC m n (aEG F L.length r x),(x:Int))) n ?_ (λx hx=>?_) (λ_=>?_),Option.bind_some,lE hj,gd,cond_true,nM _ hk hj,Option.bind_some]
  ·have e1:yY F L.length r L.length j=F r j:=by simp [yY]
   have hrj:=hi r j hrm hj
   rw [e1,aTO hp,Option.bind_some,Int.emod_eq_of_lt hrj.1 hrj.2]
   have hs:=aSP hp hrj
   rw [aMB]
   generalize aDX p (F r j)=s at*
   have h1:=aQA hi hk hrm
   generalize yY F L.length r=F1 at*
   rw [eB (r:=dC m n (uE p F1 L.length s)) (λx=>(dC m n (aBz p F1 L.length s x),(x:Int))) n ?_ (λx hx=>?_) (λ_=>?_),Option.bind_some]
   ·have h2:=aNi hp (k:=L.length) (s:=s) h1
    generalize uE p F1 L.length s=F2 at*
    rw [eB (r:=dC m n (aAZ p F2 L.length j)) (λx=>(dC m n (kT p F2 L.length j x),(x:Int))) m ?_ (λx hx=>?_) (λ_=>?_),Option.bind_some]
    ·rw [decide_eq_true (by simp;omega),cond_true]
     simp [zB]
    ·congr 1
    ·unfold vH
     simp only [pO]
     rw [lE hx,cond_true]
     by_cases hxk:x=L.length
     ·rw [decide_eq_true (by omega),Bool.not_true,cond_false,cH hx (by omega),hxk,aNj]
     ·rw [decide_eq_false (by omega),Bool.not_false,cond_true,aLx hN hm hx,Option.bind_some,Option.bind_some,xV hN hx,aAn hN hm hx,xV hN hk,aAn hN hm hk]
      simp only [Int.toNat_natCast,Nat.add_sub_cancel_left,Nat.zero_add]
      rw [lE hj,gd,cond_true,nM _ hx hj,Option.bind_some]
      have e2:kT p F2 L.length j x x j=F2 x j:=by simp [kT]
      have h3:=h2 x j hx hj
      have h4:=aTS hp (k:=L.length) (j:=j) (x:=x) h2
      rw [e2,eH (by omega),aTR hp hn hx hk hxk (by omega) (λb hb=>h4 _ b hx hb) (λb hb=>h4 _ b hk hb),Option.bind_some,jB,jB,decide_eq_true rfl,cond_true,cH hx (by omega),aUv hp hxk]
    ·unfold vH
     simp only
     rw [oG (Nat.le_refl _),cond_false]
     congr 2
     exact cW λa b ha hb=>by simp only [kT];rw [if_pos ha]
   ·congr 1
   ·unfold vG
    simp only [pO]
    rw [xV hN hk,aAn hN hm hk]
    simp only [Int.toNat_natCast,Nat.add_sub_cancel_left,Nat.zero_add]
    have g1:=h1 _ x hk hx
    have g2:=aOf (a:=F1 L.length x) (b:=s) (by omega) (by omega)
    rw [lE hx,cond_true,gd,cond_true,nM _ hk hx,Option.bind_some,aXg hp,cond_true,cond_true,Option.bind_some,aLz,eH (by omega),Int.tmod_eq_emod_of_nonneg g2.1,aDY _ _ hk hx,cH hx (by omega),aMA]
   ·unfold vG
    simp only [pO]
    rw [xV hN hk,aAn hN hm hk]
    simp only [Int.toNat_natCast,Nat.add_sub_cancel_left,Nat.zero_add]
    rw [oG (Nat.le_refl _),cond_false]
    congr 2
    exact cW λa b ha hb=>by simp only [aBz];rw [if_pos hb]
  ·congr 1
  ·unfold vF
   simp only [pO]
   rw [lE hx,cond_true,aLx hN hm hrm,Option.bind_some,Option.bind_some,xV hN hk,aAn hN hm hk,xV hN hrm,aAn hN hm hrm]
   simp only [Int.toNat_natCast,Nat.add_sub_cancel_left,Nat.zero_add]
   rw [lE hx,gd,cond_true,nM _ hrm hx,Option.bind_some,cond_true,nM _ hk hx,Option.bind_some,cond_true,Option.bind_some,cond_true,aDY _ _ hk hx,nM _ hrm hx,Option.bind_some,aDY _ _ hrm hx,aFq,aFq,cH hx (by omega),aNh]
  ·unfold vF
   simp only
   rw [oG (Nat.le_refl _),cond_false]
   congr 2
   exact cW λa b ha hb=>by simp only [aEG];rw [if_pos hb]
theorem aOi {p:Int} {m n:Nat} {F:Nat→Nat→Int} (T:Tb p m n F):aBC p ⟨m,n,dC m n F⟩=some (⟨m,n,dC m n (dB p m F n).1⟩,zB (dB p m F n).2):=by
 have hN:=T.hN
 have hn:=T.hn
 unfold aBC vW nO
 simp only
 rw [jB,decide_eq_true hN,cond_true,Option.bind_some,Option.bind_some]
 simp only
 rw [eB (r:=(dC m n (dB p m F n).1,zB (dB p m F n).2)) (λj=>((j:Int),dC m n (dB p m F j).1,zB (dB p m F j).2)) n (by simp [dB,zB]) (λj hj=>?_) (λ_=>?_),Option.bind_some]
 ·show _=some (Sum.inl (((j+1:Nat):Int),dC m n (iJ p m (dB p m F j) j).1,zB (iJ p m (dB p m F j) j).2):(Int×List Int×List Int) ⊕ (List Int×List Int))
  exact aWg ⟨T.hp,T.hN,T.hm,T.hn,wC (by have:=iI T.hp;omega) T.hi j⟩ hj _ (yZ j) _
 ·unfold pN
  simp only
  rw [oG (Nat.le_refl _),cond_false]
theorem aXi {p:Int} {m n:Nat} {F:Nat→Nat→Int} (T:Tb p m n F) {j:Nat} (hj:j<n) (L:List Nat) (hL:L.length<m) (l:List Int):
  Lp (gV ⟨m,n,l⟩ ((j:Int),dC m n F,zB L,(L.length:Int))) (-1,wr ((m:Int) - 1))=some (if lL F j (m - L.length) L.length=m then -1 else ((lL F j (m - L.length) L.length:Nat):Int)):=by
 obtain ⟨hp,hN,hm,hn,hi⟩:=T
 refine eB (λt=>(if lL F j t (m - t)=m then -1 else ((lL F j t (m - t):Nat):Int),((m - t:Nat):Int) - 1)) (m - L.length) ?_ (λt ht=>?_) (λ_=>?_)
 ·simp only [lL,Nat.sub_zero,if_true]
  rw [eH (by omega)]
 ·unfold gV
  simp only
  have e:((m - t:Nat):Int) - 1=((m - (t+1):Nat):Int):=by omega
  have hi2:m - (t+1)<m:=by omega
  rw [e,decide_eq_true (by omega),cond_true,atT hN hi2 hj,Option.bind_some,eH (x:=((m - (t+1):Nat):Int) - 1) (by omega)]
  have ep:lL F j (t+1) (m - (t+1))=if F (m - (t+1)) j=0 then lL F j t (m - t) else m - (t+1):=by
   rw [lL,show m - (t+1)+1=m - t by omega]
  rw [ep]
  by_cases h:F (m - (t+1)) j=0
  ·rw [decide_eq_true h,Bool.not_true,cond_false,if_pos h]
  ·rw [decide_eq_false h,Bool.not_false,cond_true,if_neg h,if_neg (by omega)]
 ·rw [show m - (m - L.length)=L.length by omega]
  unfold gV
  simp only
  rw [decide_eq_false (by omega),cond_false]
theorem aWh {p:Int} {m n:Nat} {F:Nat→Nat→Int} (T:Tb p m n F) {j:Nat} (hj:j<n) (L:List Nat) (hL:L.length<m) (l:List Int):
  fA p ⟨m,n,l⟩ ((j:Int),dC m n F,zB L,(L.length:Int))=some (.inl (((j+1:Nat):Int),dC m n (iJ p m (F,L) j).1,zB (iJ p m (F,L) j).2,((iJ p m (F,L) j).2.length:Int))):=by
 have hpv:=aXi T hj L hL l
 obtain ⟨hp,hN,hm,hn,hi⟩:=T
 have hb:=iI hp
 have hle:= @aCR F j (m - L.length) L.length
 unfold fA iJ
 simp only
 rw [lE hj,cond_true,lE hL,cond_true,hpv,Option.bind_some,cH hj (by omega)]
 clear hpv
 generalize lL F j (m - L.length) L.length=r at*
 have hk:L.length<m:=hL
 by_cases hr:r=m
 ·rw [if_pos hr,if_pos hr,decide_eq_true (by omega),cond_true]
 ·rw [if_neg hr,if_neg hr,decide_eq_false (by omega),cond_false]
  have hrm:r<m:=by omega
  rw [eB (r:=dC m n (yY F L.length r)) (λx=>(dC m n (aEG F L.length r x),(x:Int))) n ?_ (λx hx=>?_) (λ_=>?_),Option.bind_some,atT hN hk hj,Option.bind_some]
  ·have e1:yY F L.length r L.length j=F r j:=by simp [yY]
   have hrj:=hi r j hrm hj
   rw [e1,aTP hp (by omega),Option.bind_some,Int.emod_eq_of_lt hrj.1 hrj.2]
   have hs:=aSP hp hrj
   rw [aMB]
   generalize aDX p (F r j)=s at*
   have h1:=aQA hi hk hrm
   generalize yY F L.length r=F1 at*
   rw [eB (r:=dC m n (uE p F1 L.length s)) (λx=>(dC m n (aBz p F1 L.length s x),(x:Int))) n ?_ (λx hx=>?_) (λ_=>?_),Option.bind_some]
   ·have h2:=aNi hp (k:=L.length) (s:=s) h1
    generalize uE p F1 L.length s=F2 at*
    rw [eB (r:=dC m n (aAZ p F2 L.length j)) (λx=>(dC m n (kT p F2 L.length j x),(x:Int))) m ?_ (λx hx=>?_) (λ_=>?_),Option.bind_some]
    ·rw [pO,decide_eq_true (by simp;omega),cond_true,cH hk (by omega)]
     simp [zB]
    ·congr 1
    ·unfold jG
     simp only
     rw [lE hx,cond_true,atT hN hx hj,Option.bind_some,cH hx (by omega)]
     have e2:kT p F2 L.length j x x j=F2 x j:=by simp [kT]
     rw [e2]
     by_cases hxk:x=L.length
     ·rw [mI (r:=dC m n (kT p F2 L.length j x)) ?_,Option.bind_some,hxk,aNj]
      unfold gW
      simp only
      rcases Nat.eq_zero_or_pos n with h0|h0
      ·omega
      ·rw [decide_eq_true (by omega),cond_true,decide_eq_true (by omega),Bool.not_true,cond_false]
     ·rw [eB (r:=dC m n (kT p F2 L.length j (x+1))) (λy=>(dC m n (λa c=>if a=x∧c<y then aAZ p F2 L.length j x c else kT p F2 L.length j x a c),(y:Int))) n (by simp) (λy hy=>?_) (λ_=>?_),Option.bind_some]
      ·unfold gW
       simp only
       rw [lE hy,cond_true,decide_eq_false (by omega),Bool.not_false,cond_true,atT hN hx hy,Option.bind_some,atT hN hk hy,Option.bind_some]
       have e3:kT p F2 L.length j x x y=F2 x y:=by simp [kT]
       have e4:kT p F2 L.length j x L.length y=F2 L.length y:=by simp [kT,aAZ]
       rw [if_neg (by omega),if_neg (by omega),e3,e4]
       have g1:=h2 x j hx hj
       have g2:=h2 L.length y hk hy
       have g3:=h2 x y hx hy
       have g4:=aOf (a:=F2 x j) (b:=F2 L.length y) (by omega) (by omega)
       rw [eH (x:=F2 x j*F2 L.length y) (by omega),eH (x:=F2 x y - F2 x j*F2 L.length y) (by omega),aHx hp (by omega),Option.bind_some,Option.bind_some,aTQ hN hx hy,cH hy (by omega)]
       congr 3
       refine cW λa c ha hc=>?_
       simp only [aIn]
       by_cases e5:a=x∧c=y
       ·rw [if_pos e5,if_pos (by omega),e5.2]
        simp only [aAZ]
        rw [if_neg hxk]
       ·rw [if_neg e5]
        by_cases e6:a=x∧c<y
        ·rw [if_pos e6,if_pos (by omega)]
        ·rw [if_neg e6,if_neg (by omega)]
      ·unfold gW
       simp only
       rw [oG (Nat.le_refl _),cond_false]
       congr 2
       refine cW λa c ha hc=>?_
       simp only [kT]
       by_cases e5:a=x
       ·rw [if_pos ⟨e5,hc⟩,if_pos (by omega),e5]
       ·rw [if_neg (by omega)]
        by_cases e6:a<x
        ·rw [if_pos e6,if_pos (by omega)]
        ·rw [if_neg e6,if_neg (by omega)]
    ·unfold jG
     simp only
     rw [oG (Nat.le_refl _),cond_false]
     congr 2
     exact cW λa b ha hb=>by simp only [kT];rw [if_pos ha]
   ·congr 1
   ·unfold jF
    simp only
    have g1:=h1 _ x hk hx
    have g2:=aOf (a:=F1 L.length x) (b:=s) (by omega) (by omega)
    rw [lE hx,cond_true,atT hN hk hx,Option.bind_some,aLz,Int.mul_comm,eH (by omega),aHx hp (by omega),Option.bind_some,Option.bind_some,aTQ hN hk hx,cH hx (by omega),aMA]
   ·unfold jF
    simp only
    rw [oG (Nat.le_refl _),cond_false]
    congr 2
    exact cW λa b ha hb=>by simp only [aBz];rw [if_pos hb]
  ·congr 1
  ·unfold jE
   simp only
   rw [lE hx,cond_true,atT hN hk hx,Option.bind_some,atT hN hrm hx,Option.bind_some,Option.bind_some,aTQ hN hk hx,atT hN hrm hx,Option.bind_some,aTQ hN hrm hx,aFq,aFq,cH hx (by omega),aNh]
  ·unfold jE
   simp only
   rw [oG (Nat.le_refl _),cond_false]
   congr 2
   exact cW λa b ha hb=>by simp only [aEG];rw [if_pos hb]
theorem aOj {p:Int} {m n:Nat} {F:Nat→Nat→Int} (T:Tb p m n F):nH p ⟨m,n,dC m n F⟩=some (⟨m,n,dC m n (dB p m F n).1⟩,zB (dB p m F n).2):=by
 have hN:=T.hN
 have hn:=T.hn
 unfold nH wD
 simp only
 rw [jB,decide_eq_true (by simp;omega),cond_true,Option.bind_some]
 simp only [List.nil_append]
 obtain ⟨r,h1,h2⟩: ∃ r,Lp (fA p ⟨m,n,dC m n F⟩) (0,dC m n F,[],0)=some r∧r=(dC m n (dB p m F n).1,zB (dB p m F n).2):=by
  refine aRz (λs=> ∃ j:Nat,j≤n∧s=((j:Int),dC m n (dB p m F j).1,zB (dB p m F j).2,((dB p m F j).2.length:Int))) (λs=>n - s.1.toNat) _ ⟨0,Nat.zero_le _,by simp [dB,zB]⟩ ?_
  rintro s ⟨j,hj,rfl⟩
  rcases Nat.lt_or_ge j n with hlt|hge
  ·have hlen:= @yZ p m F j
   rcases Nat.lt_or_ge (dB p m F j).2.length m with hl|hl
   ·refine .inl ⟨_,aWh ⟨T.hp,T.hN,T.hm,T.hn,wC (by have:=iI T.hp;omega) T.hi j⟩ hlt _ hl _,⟨j+1,hlt,rfl⟩,?_⟩
    simp;omega
   ·refine .inr ⟨_,?_,rfl⟩
    unfold fA
    simp only
    have e:=aLy (p:=p) (F:=F) (j:=j) (by omega:(dB p m F j).2.length=m) (n - j)
    rw [show j+(n - j)=n by omega] at e
    rw [lE hlt,cond_true,oG hl,cond_false,e]
  ·have e:j=n:=by omega
   subst e
   refine .inr ⟨_,?_,rfl⟩
   unfold fA
   simp only
   rw [oG (Nat.le_refl _),cond_false]
 rw [h1,h2,Option.bind_some]
end
noncomputable section
set_option maxRecDepth 10000
set_option maxHeartbeats 4000000
def gI (v1:Mt) (v3:(List Int)) (x1:((List Int)×Int)) (x2:((List Int)×Int)):Option (((List Int)×Int) ⊕ (List Int)):=
 bif decide (x2.2<(v3.length:Int)) then
 ((cI v3 x2.2).bind λv5=>
 (cI x2.1 (wr ((wr (x2.2*v1.cols))+x1.2))).bind λv6=>
 some (.inl ((x2.1.set ((wr ((wr (x2.2*v1.cols))+x1.2)).toNat) v5),wr (x2.2+1))))
 else
 (some (.inr x2.1))
def gJ (a1:(List (List Int))) (v1:Mt) (x1:((List Int)×Int)):Option (((List Int)×Int) ⊕ (List Int)):=
 bif decide (x1.2<(a1.length:Int)) then
 ((cI a1 x1.2).bind λv3=>
 (Lp (gI v1 v3 x1) (x1.1,0)).bind λy7=>
 some (.inl (y7,wr (x1.2+1))))
 else
 (some (.inr x1.1))
def fB (a0:Int) (a1:(List (List Int))):Option Mt:=
 (lM a0 (a1.length:Int)).bind λv1=>
 (Lp (gJ a1 v1) (v1.cells,0)).bind λy8=>
 some ((⟨v1.rows,v1.cols,y8⟩:Mt))
theorem xW (a0:Int) (a1:(List (List Int))) (r:Mt) (h:fB a0 a1=some r):HasC Tryz.prog 155 [.int a0,.list 1 (a1.map (dH 1 eI))] (.agg (eM r)):=by
 refine aW aA (rvs:=[.cell 4 113]) (ns:=fE) Tryz.func155 k k Tryz.ntmps155 k k k<|sR<|ae (bW aA k k) k<|an<|tn<|sR<|am k k<|am k k<|ln k4<|oB h λv1 hv1 h=>ae (cM (aBO a0 (a1.length:Int) v1 hv1) k3 (bX k (bX k aM))) k<|ae (bW aA k k) k<|ae (bF aA k k k k k k k k) k<|an<|tn<|sQ<|sR<|am k k<|ln k4<|am k k<|an<|tn<|aE<|oB h λy8 hy8 h=>bU (body:=(gJ a1 v1)) hy8 (λ(x1:((List Int)×Int))=>mN [(4,.ptr 0 0 0),(5,.ptr 1 0 0),(14,.list 1 (a1.map (dH 1 eI))),(15,.int (a1.length:Int)),(16,.int x1.2)] [(0,⟨3,[gC]⟩),(1,⟨3,[[.int v1.rows,.int v1.cols,.own 2 0 x1.1.length]]⟩),(2,⟨1,x1.1.map (ow eI)⟩)] 3) (λr e t=>e= .exit 0∧Ent t (mN [(4,.ptr 0 0 0),(5,.ptr 1 0 0)] [(0,⟨3,[gC]⟩),(1,⟨3,[[.int v1.rows,.int v1.cols,.own 2 0 r.length]]⟩),(2,⟨1,r.map (ow eI)⟩)] 3)) (pI [0,2,1] (bE k2) (bK k<|dK k<|bO k<|aR) k4) ?_ ?_
 ·intro x1 o h
  refine sR<|cm k4<|an<|tn<|sQ ?_
  rcases cb h with ⟨q2,h⟩|⟨q2,h⟩
  ·refine aC k q2<|aI<|tn<|sQ<|aE<|sR<|am k k<|oB h λv3 hv3 h=>ae (aP aA hv3 k k k k k k) k<|lr k7<|aa k k<|aT k2<|sR<|am k k<|ln k4<|am k k<|an<|tn<|aE<|oB h λy7 hy7 h=>bU (body:=(gI v1 v3 x1)) hy7 (λ(x2:((List Int)×Int))=>mN [(4,.ptr 0 0 0),(5,.ptr 1 0 0),(6,.int x1.2),(14,.list 1 (a1.map (dH 1 eI))),(15,.int (a1.length:Int)),(16,.int x1.2),(21,.list 1 (v3.map eI)),(22,.int (v3.length:Int)),(23,.int x2.2)] [(0,⟨3,[gC]⟩),(1,⟨3,[[.int v1.rows,.int v1.cols,.own 2 0 x2.1.length]]⟩),(2,⟨1,x2.1.map (ow eI)⟩)] 3) (λr e t=>e= .exit 2∧Ent t (mN [(4,.ptr 0 0 0),(5,.ptr 1 0 0),(14,.list 1 (a1.map (dH 1 eI))),(15,.int (a1.length:Int)),(16,.int x1.2)] [(0,⟨3,[gC]⟩),(1,⟨3,[[.int v1.rows,.int v1.cols,.own 2 0 r.length]]⟩),(2,⟨1,r.map (ow eI)⟩)] 3)) (bJ (bE k2) (bK k<|dK k<|bO k<|aR) k4) ?_ ?_
   ·intro x2 o h
    refine sR<|cm k4<|an<|tn<|sQ ?_
    rcases cb h with ⟨q4,h⟩|⟨q4,h⟩
    ·refine aC k q4<|aI<|tn<|sQ<|aE<|sR<|am k k<|oB h λv5 hv5 h=>ae (aP aA hv5 k k k k k k) k<|lr k7<|aa k k<|aT k2<|rg<|fp k8<|lp k8<|am k k<|fp k8<|lp k8<|ae (fH k k) k<|am k k<|ae (bB k k) k<|am k k<|oB h λv6 hv6 h=>ae (bP aA (cO hv6) (cB hv6) k k k k k k k) k<|ae (gF aA nD (u:=v5) (bZ hv6) k k k k k k) k<|an<|aU<|tn<|rg ?_
     refine ae (bB k k) k<|am k k<|an<|tn ?_
     obtain rfl:=so h
     exact ⟨_,k,(bJ (bE k2) (bK k<|hX ⟨_,k,k,.inr ⟨_,_,k,⟨_,_,k,k,⟨_,_,k,k,⟨_,_,k,⟨k,k,(by simp only [aQ,lA,lT,lR,lC,lN]),k⟩,k⟩⟩⟩,k⟩⟩ k<|bO k<|aR) k4)⟩
    ·refine aD k q4<|aV<|aB<|aB ?_
     obtain rfl:=so h
     exact ⟨_,k,k,(bJ (bE k2) (bK k<|dK k<|bO k<|aR) k4)⟩
   ·rintro e t ⟨rfl,hent⟩
    refine aL<|aU<|tn<|aN hent<|rg<|ae (bB k k) k<|am k k<|an<|tn ?_
    obtain rfl:=so h
    exact ⟨_,k,(bJ (bE k2) (bK k<|dK k<|bO k<|aR) k4)⟩
  ·refine aD k q2<|aV<|aB<|aB ?_
   obtain rfl:=so h
   exact ⟨_,k,k,(bJ (bE k2) (bK k<|dK k<|bO k<|aR) k4)⟩
 ·rintro e t ⟨rfl,hent⟩
  refine aL<|tn<|aN hent<|sR<|lp k8<|ae (bF aA k k k k k k k k) k<|an<|tn<|aH ?_
  obtain rfl:=so h
  exact bH k k k (nB (bA (k) (bA (k) (bA (eK cX k k) fK))))
end
noncomputable section
set_option maxRecDepth 10000
set_option maxHeartbeats 4000000
end
noncomputable section
def dN (r:Rp) (k:Nat):Nat:=(r.dims[k]?.getD 0).toNat
theorem aQB {r:Rp} (h:aEE r=true):oF r.p=true∧aGe r.q r.dims=true∧r.maps.length=r.q.src.length∧ ∀ k,k<r.maps.length→aDK r.p (r.maps[k]?.getD ⟨0,0,[]⟩)=true∧(r.maps[k]?.getD ⟨0,0,[]⟩).cols=r.dims[(r.q.src[k]?.getD 0).toNat]?.getD 0∧(r.maps[k]?.getD ⟨0,0,[]⟩).rows=r.dims[(r.q.tgt[k]?.getD 0).toNat]?.getD 0:=by
 unfold aEE at h
 simp only [Bool.and_eq_true,decide_eq_true_eq,rU] at h
 exact ⟨h.1,h.2.1,by omega,h.2.2.2⟩
theorem aMC {c:Nat} {f g:Nat→Int} (h: ∀ j,j<c→f j=g j):jJ c f=jJ c g:=List.map_congr_left λj hj=>h j (List.mem_range.1 hj)
theorem aUw {c j:Nat} (hj:j<c) (f:Nat→Int) (v:Int):(jJ c f).set j v=jJ c (λb=>if b=j then v else f b):=by
 refine List.ext_getElem (by simp [jJ]) λt h1 h2=>?_
 rw [fX] at h2
 rw [List.getElem_set]
 simp only [jJ,List.getElem_map,List.getElem_range]
 by_cases e:j=t
 ·rw [if_pos e,if_pos e.symm]
 ·rw [if_neg e,if_neg (by omega)]
theorem aTT (c:Nat):List.replicate c (0:Int)=jJ c (λ_=>0):=by
 refine List.ext_getElem (by simp [jJ]) λt h1 h2=>?_
 simp [jJ]
theorem aQC (c:Nat) (f:Nat→Nat→Int): ∀ n,((List.range n).map λi=>jJ c (f i)).flatten=dC n c f
 |0=>by simp [dC]
 |n+1=>by
  rw [List.range_succ,List.map_append,List.flatten_append,aQC c f n]
  unfold dC
  rw [Nat.succ_mul,List.range_add,List.map_append]
  congr 1
  simp only [List.map_cons,List.map_nil,List.flatten_cons,List.flatten_nil,List.append_nil,List.map_map,jJ]
  refine List.map_congr_left λj hj=>?_
  have hj:=List.mem_range.1 hj
  simp only [Function.comp]
  rw [aLZ hj,aLa hj]
theorem aNk {l:List (List Int)} (h: ∀ x∈l,x.length≤1024):l.flatten.length≤1024*l.length:=by
 induction l with
 |nil=>simp
 |cons x l ih=>
  have h1:=h x (by simp)
  have h2:=ih λy hy=>h y (by simp [hy])
  simp only [List.flatten_cons,List.length_append,List.length_cons]
  omega
theorem aCI {l:List (List Int)} {k:Nat} (hk:k<l.length):(l.take (k+1)).flatten=(l.take k).flatten++l[k]:=by
 rw [List.take_succ_eq_append_getElem hk,List.flatten_append];simp
theorem aUx {l:List (List Int)} (hl:l.length≤512) (h: ∀ x∈l,x.length≤1024):jT l=some l.flatten:=by
 have hb: ∀ k,(l.take k).flatten.length ≤1024*512:=λk=>by
  have:=aNk (l:=l.take k) λx hx=>h x (List.mem_of_mem_take hx)
  have h2:(l.take k).length ≤512:=by simp;omega
  omega
 unfold jT
 rw [eB (r:=(l.flatten.length:Int)) (λk=>(((l.take k).flatten.length:Int),(k:Int))) l.length (by simp) (λk hk=>?_) (λ_=>?_),Option.bind_some]
 ·have e:=hb l.length
  rw [List.take_length] at e
  unfold aRI
  rw [decide_eq_true (by omega),decide_eq_true (by omega:(l.flatten.length:Int)≤1048576),Bool.and_self,cond_true,Option.bind_some]
  rw [eB (r:=l.flatten) (λk=>((l.take k).flatten,(k:Int))) l.length (by simp) (λk hk=>?_) (λ_=>?_),Option.bind_some]
  ·unfold iB
   simp only
   have e2:=hb (k+1)
   rw [aCI hk,List.length_append] at e2
   rw [lE hk,cond_true,eV hk,Option.bind_some,decide_eq_true (by omega),cond_true,cH hk (by omega),aCI hk]
  ·unfold iB
   simp only
   rw [oG (Nat.le_refl _),cond_false,List.take_length]
 ·unfold iA
  simp only
  have e2:=hb (k+1)
  rw [aCI hk,List.length_append] at e2
  rw [lE hk,cond_true,eV hk,Option.bind_some,eH (x:=_+_) (by omega),decide_eq_false (by omega),cond_false,cH hk (by omega),aCI hk,List.length_append,Int.natCast_add (List.take k l).flatten.length l[k].length]
 ·unfold iA
  simp only
  rw [oG (Nat.le_refl _),cond_false,List.take_length]
end
noncomputable section
open Go.ChangeShapes Go.WideShapes Go.ChangeAt Go.RowKit
theorem oI:aCS Tryz.prog 3 (aDI 1 eI):=aRF Tryz.underlying3
theorem oL:aCS Tryz.prog 22 (aDI 1 eL):=aHp Tryz.underlying22 (by decide) (by kernel_rfl) oI
theorem oQ:aCS Tryz.prog 24 (aDI 3 eQ):=by
 intro H enc w fuel cs d ps h hf
 obtain ⟨x0,T0,u0⟩:=rV Tryz.underlying24 h hf aLj (i:=0) (ft:=3) rfl (k:=1) (by kernel_rfl) oI
 obtain ⟨x1,T1,u1⟩:=rV Tryz.underlying24 h hf u0 (i:=1) (ft:=22) rfl (k:=1) (by kernel_rfl) oL
 obtain ⟨x2,T2,u2⟩:=rV Tryz.underlying24 h hf u1 (i:=2) (ft:=22) rfl (k:=1) (by kernel_rfl) oL
 exact ⟨⟨x0,x1,x2⟩,_,aLk Tryz.underlying24 h hf u2 (by kernel_rfl) _ rfl⟩
theorem oM:aCS Tryz.prog 111 (aDI 3 eM):=by
 intro H enc w fuel cs d ps h hf
 obtain ⟨x0,T0,u0⟩:=rV Tryz.underlying111 h hf aLj (i:=0) (ft:=3) rfl (k:=1) (by kernel_rfl) oI
 obtain ⟨x1,T1,u1⟩:=rV Tryz.underlying111 h hf u0 (i:=1) (ft:=3) rfl (k:=1) (by kernel_rfl) oI
 obtain ⟨x2,T2,u2⟩:=rV Tryz.underlying111 h hf u1 (i:=2) (ft:=22) rfl (k:=1) (by kernel_rfl) oL
 exact ⟨⟨x0,x1,x2⟩,_,aLk Tryz.underlying111 h hf u2 (by kernel_rfl) _ rfl⟩
theorem oMs:aCS Tryz.prog 25 (aDI 1 (λl:List Mt=>[.list 3 (l.map eM)])):=aHp Tryz.underlying25 (by decide) (by kernel_rfl) oM
theorem oR:aCS Tryz.prog 27 (aDI 6 eR):=by
 intro H enc w fuel cs d ps h hf
 obtain ⟨x0,T0,u0⟩:=rV Tryz.underlying27 h hf aLj (i:=0) (ft:=3) rfl (k:=1) (by kernel_rfl) oI
 obtain ⟨x1,T1,u1⟩:=rV Tryz.underlying27 h hf u0 (i:=1) (ft:=24) rfl (k:=3) (by kernel_rfl) oQ
 obtain ⟨x2,T2,u2⟩:=rV Tryz.underlying27 h hf u1 (i:=2) (ft:=22) rfl (k:=1) (by kernel_rfl) oL
 obtain ⟨x3,T3,u3⟩:=rV Tryz.underlying27 h hf u2 (i:=3) (ft:=25) rfl (k:=1) (by kernel_rfl) oMs
 exact ⟨⟨x0,x1,x2,x3⟩,_,aLk Tryz.underlying27 h hf u3 (by kernel_rfl) _ rfl⟩
end
noncomputable section
theorem aSQ {w:World} : ∀ {ds:List AV} {vs:List Value} {S:List Nat},RepVs w ds vs S→ ∀ d∈ds,∃ v S',RepD w d v S'
 | [],_,_,_,d,hd=>by cases hd
 |c::cs,vs,S,h,d,hd=>by
  simp only [RepVs] at h
  obtain ⟨v,r,S1,S2,_,_,h3,h4⟩:=h
  rcases List.mem_cons.1 hd with rfl|h'
  ·exact ⟨v,S1,h3⟩
  ·exact aSQ h4 d h'
theorem aSR {w:World} {b:Nat} : ∀ {ds:List AV} {o:Nat} {S:List Nat},RepCs w b o ds S→ ∀ d∈ds,∃ v S',RepD w d v S'
 | [],_,_,_,d,hd=>by cases hd
 |c::cs,o,S,h,d,hd=>by
  simp only [RepCs] at h
  obtain ⟨v,S1,S2,_,_,_,_,h3,h4⟩:=h
  rcases List.mem_cons.1 hd with rfl|h'
  ·exact ⟨v,S1,h3⟩
  ·exact aSR h4 d h'
theorem aSS {w:World} {k b:Nat} : ∀ {es:List (List AV)} {o:Nat} {S:List Nat},RepEs w k b o es S→ ∀ cs∈es,∀ d∈cs,∃ v S',RepD w d v S'
 | [],_,_,_,cs,hc=>by cases hc
 |c::es,o,S,h,cs,hc=>by
  simp only [RepEs] at h
  obtain ⟨S1,S2,_,_,h3,h4⟩:=h
  rcases List.mem_cons.1 hc with rfl|h'
  ·exact aSR h3
  ·exact aSS h4 cs h'
theorem aST {w:World} {k:Nat} {es:List (List AV)} {v:Value} {S:List Nat} (h:RepD w (.list k es) v S):es.length≤9223372036854775807∧ ∀ cs∈es,∀ d∈cs,∃ v S',RepD w d v S':=by
 unfold RepD at h
 obtain ⟨a,c,_,h2,h3,h4⟩:=h
 have hm:maxLen≤9223372036854775807:=by decide
 refine ⟨by omega,?_⟩
 rcases h4 with ⟨rfl,_⟩|⟨b,o,T,_,_,_,h5⟩
 ·intro cs hcs;cases hcs
 ·exact aSS h5
theorem aXM {w:World} {l:List Int} {v:Value} {S:List Nat} (h:RepD w (aON l) v S):fI l:=by
 have:=(aST (k:=1) (es:=List.map eI l) h).1
 rwa [List.length_map] at this
theorem aOk {w:World} {ds:List AV} (h: ∀ d∈ds,∃ v S',RepD w d v S') {l:List Int} (hl:aON l∈ds):fI l:=by
 obtain ⟨v,S,h⟩:=h _ hl
 exact aXM h
theorem aUy {w:World} {ds:List AV} (h: ∀ d∈ds,∃ v S',RepD w d v S') {α:Type} {k:Nat} {e:α→List AV} {l:List α} (hl:AV.list k (l.map e)∈ds):fI l∧ ∀ x∈l,∀ d∈e x,∃ v S',RepD w d v S':=by
 obtain ⟨v,S,h⟩:=h _ hl
 have:=aST h
 rw [List.length_map] at this
 exact ⟨this.1,λx hx=>this.2 _ (List.mem_map.2 ⟨x,hx,rfl⟩)⟩
theorem aYj {w:World} {m:Mt} (h: ∀ d∈eM m,∃ v S',RepD w d v S'):fM m:=aOk h (by simp [eM])
theorem aXj {w:World} {l:List Mt} {ds:List AV} (h: ∀ d∈ds,∃ v S',RepD w d v S') (hl:AV.list 3 (l.map eM)∈ds):fMs l:=by
 obtain ⟨h1,h2⟩:=aUy h hl
 exact ⟨h1,λm hm=>aYj (h2 m hm)⟩
theorem aYk {w:World} {r:Rp} (h: ∀ d∈eR r,∃ v S',RepD w d v S'):fR r:=⟨⟨aOk h (by simp [eR]),aOk h (by simp [eR])⟩,aOk h (by simp [eR]),aXj h (by simp [eR])⟩
theorem aUz {w0 w:World} {v:Value} {S:List Nat} (h:aLP w (.bl true) v S):Ending.returned v= .returned (.bool true):=by rw [h.1]
end
noncomputable section
set_option maxRecDepth 10000
set_option maxHeartbeats 4000000
def tC (a0:(List (List Int))) (a1:(List (List Int))) (x1:Int):Option (Int ⊕ (Unit ⊕ Bool)):=
 bif decide (x1<(a0.length:Int)) then
 ((cI a0 x1).bind λv3=>
 (cI a1 x1).bind λv4=>
 (lP v3 v4).bind λv5=>
 bif !v5 then
 (some (.inr (.inr (false))))
 else
 (some (.inl (wr (x1+1)))))
 else
 (some (.inr (.inl ())))
def pP (a0:(List (List Int))) (a1:(List (List Int))):Option Bool:=
 bif !decide ((a0.length:Int)=(a1.length:Int)) then
 (some (false))
 else
 ((Lp (tC a0 a1) 0).bind λy7=>
 Sum.elim (λy8=>
 some (true)
 )
 (λy9=>
 some y9
 )
 y7)
theorem aCW (a0:(List (List Int))) (a1:(List (List Int))) (r:Bool) (h:pP a0 a1=some r):HasC Tryz.prog 45 [.list 1 (a0.map (dH 1 eI)),.list 1 (a1.map (dH 1 eI))] (.bl r):=by
 refine aW aA (rvs:=[.tmp 4]) (ns:=fE) Tryz.func45 k k Tryz.ntmps45 k k k<|sR<|aT k2<|sQ<|sR<|am k k<|ln k4<|am k k<|ln k4<|cm k4<|an<|tn ?_
 rcases cb h with ⟨q1,h⟩|⟨q1,h⟩
 ·exact aC k q1<|sR<|aT k2<|aH<|aG<|gD h k2
 ·refine aD k q1<|aI<|tn<|sQ<|sR<|aT k2<|aE<|oB h λy7 hy7 h=>bU (body:=(tC a0 a1)) hy7 (λ(x1:Int)=>mN [(0,.list 1 (a0.map (dH 1 eI))),(1,.list 1 (a1.map (dH 1 eI))),(5,.int x1)] [] 0) (λr e t=>Sum.elim (λa=>(λr e t=>e= .exit 0∧Ent t (mN [] [] 0)) a e t) (λb=>(λr e t=>e= .ret∧qA TT [.tmp 4] (.bl r) .ret t) b e t) r) (bJ (bE k2) aR k4) ?_ ?_
  ·intro x1 o h
   refine sQ<|sR<|am k k<|am k k<|ln k4<|cm k4<|an<|tn ?_
   rcases cb h with ⟨q2,h⟩|⟨q2,h⟩
   ·refine aC k q2<|aI<|tn<|sQ<|aE<|sQ<|aS iL<|am k k<|am k k<|oB h λv3 hv3 h=>ae (aP aA hv3 k k k k k k) k<|lr k7<|am k k<|am k k<|oB h λv4 hv4 h=>ae (aP aA hv4 k k k k k k) k<|lr k7<|oB h λv5 hv5 h=>ae (aO (rW v3 v4 v5 hv5) k (bX k (bX k aM))) k<|ae (dG k) k<|an<|wA (by kernel_rfl)<|tn ?_
    rcases cb h with ⟨q6,h⟩|⟨q6,h⟩
    ·refine aC k q6<|sR<|aT k2<|aH<|bD<|aG<|aG ?_
     obtain rfl:=so h
     exact ⟨_,k,k,bH k k k (mX k)⟩
    ·refine aD k q6<|aI<|aU<|tn<|rg<|am k k<|ae (bB k k) k<|aT k2 ?_
     obtain rfl:=so h
     exact ⟨_,k,(bJ (bE k2) aR k4)⟩
   ·refine aD k q2<|aV<|aB<|aB ?_
    obtain rfl:=so h
    exact ⟨_,k,k,(bJ aR aR k4)⟩
  ·intro e t hX
   rcases y7 with y8|y9
   ·obtain ⟨rfl,hent⟩:=hX
    exact aL<|tn<|aN hent<|sR<|aT k2<|aH<|gD h k2
   ·obtain ⟨rfl,hent⟩:=hX
    refine bD<|aG ?_
    obtain rfl:=so h
    exact hent
end
noncomputable section
theorem aYl {a b:List (List Int)} (h:a.length≤1048576∧ ∀ m∈a,bI m):pP a b=some (decide (a=b)):=by
 obtain ⟨h,hb⟩:=h
 unfold pP
 rw [aDi]
 by_cases e:a.length=b.length
 ·rw [decide_eq_true e,Bool.not_true,cond_false]
  refine aFE (by omega) e (λk h1 h2=>?_) ?_
  ·unfold tC
   rw [lE h1,cond_true,eV h1,Option.bind_some,eV h2,Option.bind_some,aTL (hb _ (List.getElem_mem h1)),Option.bind_some]
   cases decide (a[k]=b[k]) <;> rfl
  ·unfold tC
   rw [oG (Nat.le_refl _),cond_false]
 ·rw [decide_eq_false e,Bool.not_false,cond_true,decide_eq_false (by rintro rfl;exact e rfl)]
end
noncomputable section
set_option maxRecDepth 10000
set_option maxHeartbeats 4000000
def kP (a0:Mt) (a1:Int) (x1:((List Int)×Int)):Option (((List Int)×Int) ⊕ (List Int)):=
 bif decide (x1.2<(((List.replicate a0.rows.toNat (0:Int)).length:Nat):Int)) then
 ((cI a0.cells (wr ((wr (x1.2*a0.cols))+a1))).bind λv2=>
 (cI x1.1 x1.2).bind λv3=>
 some (.inl ((x1.1.set x1.2.toNat v2),wr (x1.2+1))))
 else
 (some (.inr x1.1))
def nV (a0:Mt) (a1:Int):Option (List Int):=
 bif (decide (0≤a0.rows)&&decide (a0.rows≤1048576)) then
 ((Lp (kP a0 a1) ((List.replicate a0.rows.toNat (0:Int)),0)).bind λy4=>
 some (y4))
 else none
theorem aFG (a0:Mt) (a1:Int) (r:(List Int)) (h:nV a0 a1=some r):HasC Tryz.prog 154 [.agg (eM a0),.int a1] (.list 1 (r.map eI)):=by
 refine aW aA (rvs:=[.tmp 4]) (ns:=fE) Tryz.func154 k k Tryz.ntmps154 k k k<|sR<|ae (cP k k k k) k<|aT k2<|sR<|fp k8<|lp k8<|cG h λq5 h=>ae (aDH aA q5 k k k k k k k k) k<|aT k2<|aN (t:=mN [(1,.int a1),(2,.ptr 0 0 0),(5,.own 1 0 ((List.replicate a0.rows.toNat (0:Int)).length))] [(0,⟨3,[eM a0]⟩),(1,⟨1,List.map (ow eI) (List.replicate a0.rows.toNat (0:Int))⟩)] 2) (bJ (mZ 2 k2 (gU ⟨_,k,⟨k,k,(by simp only [aQ,lA,lT,lR,lC,lN]),k⟩⟩ aR)) (bK k<|hX ⟨_,k,k,.inl ⟨aEB (e:=eI) (z:=0) _,cX.plainO _⟩⟩ k<|aR) k4)<|sQ<|sR<|am k k<|ae (cF aA k k k k) k<|am k k<|an<|tn<|aE<|oB h λy4 hy4 h=>bU (body:=(kP a0 a1)) hy4 (λ(x1:((List Int)×Int))=>mN [(1,.int a1),(2,.ptr 0 0 0),(5,.own 1 0 x1.1.length),(11,.int (((List.replicate a0.rows.toNat (0:Int)).length:Nat):Int)),(12,.int x1.2)] [(0,⟨3,[eM a0]⟩),(1,⟨1,x1.1.map (ow eI)⟩)] 2) (λr e t=>e= .exit 0∧Ent t (mN [(5,.own 0 0 r.length)] [(0,⟨1,r.map (ow eI)⟩)] 1)) (bJ (bE k2) (bK k<|bO k<|aR) k4) ?_ ?_
 ·intro x1 o h
  refine sR<|cm k4<|an<|tn<|sQ ?_
  rcases cb h with ⟨q1,h⟩|⟨q1,h⟩
  ·refine aC k q1<|aI<|tn<|sQ<|aE<|sR<|am k k<|aT k2<|rg<|am k k<|am k k<|fp k8<|lp k8<|am k k<|fp k8<|lp k8<|ae (fH k k) k<|am k k<|ae (bB k k) k<|oB h λv2 hv2 h=>ae (aP aA hv2 k k k k k k) k<|lr k7<|oB h λv3 hv3 h=>ae (bP aA (cO hv3) (cB hv3) k k k k k k k) k<|ae (gF aA nD (u:=v2) (bZ hv3) k k k k k k) k<|an<|aU<|tn<|rg ?_
   refine ae (bB k k) k<|am k k<|an<|tn ?_
   obtain rfl:=so h
   exact ⟨_,k,(bJ (mZ 2 k2 (gU ⟨_,k,⟨k,k,(by simp only [aQ,lA,lT,lR,lC,lN]),k⟩⟩ (bE k2))) (bK k<|bO k<|aR) k4)⟩
  ·refine aD k q1<|aV<|aB<|aB ?_
   obtain rfl:=so h
   exact ⟨_,k,k,(pI [1] (bE k2) (bO k<|aR) k4)⟩
 ·rintro e t ⟨rfl,hent⟩
  refine aL<|tn<|aN hent<|sR<|am k k<|aT k2<|aH ?_
  obtain rfl:=so h
  exact bH k k k (mJ (eK cX k k))
def wZ (a0:Int) (a1:(List (List Int))):Option Mt:=
 (jT a1).bind λv1=>
 some ((⟨(a1.length:Int),a0,v1⟩:Mt))
theorem aKV (a0:Int) (a1:(List (List Int))) (r:Mt) (h:wZ a0 a1=some r):HasC Tryz.prog 260 [.int a0,.list 1 (a1.map (dH 1 eI))] (.agg (eM r)):=by
 refine aW aA (rvs:=[.cell 4 113]) (ns:=fE) Tryz.func260 k k Tryz.ntmps260 k k k<|sR<|ae (bW aA k k) k<|an<|tn<|sR<|am k k<|ln k4<|am k k<|am k k<|oB h λv1 hv1 h=>ae (cL cX (aDJ a1 v1 hv1) k3 (bX k aM)) k<|ae (iE aA k k k k k k) k<|ae (bF aA k k k k k k k k) k<|an<|tn<|aH ?_
 obtain rfl:=so h
 exact bH k k k (nB (bA (k) (bA (k) (bA (eK cX k k) fK))))
def zX (v2:(Mt×(List Int))) (x1:((List (List Int))×Int)):Option (((List (List Int))×Int) ⊕ (List (List Int))):=
 bif decide (x1.2<((v2.2.length:Nat):Int)) then
 ((dE v2.1 x1.2).bind λv4=>
 (nO ((v2.1.cells.drop (0+(wr (x1.2*v2.1.cols)).toNat)).take ((wr ((wr (x1.2+1))*v2.1.cols)).toNat - (wr (x1.2*v2.1.cols)).toNat))).bind λv5=>
 bif decide (x1.1.length+1≤4294967296) then
 (some (.inl ((x1.1++[v5]),wr (x1.2+1))))
 else none)
 else
 (some (.inr x1.1))
def aBR (a0:Int) (a1:Int) (a2:(List (List Int))):Option Sc:=
 (wZ a1 a2).bind λv1=>
 (aBC a0 v1).bind λv2=>
 (Lp (zX v2) ([],0)).bind λy7=>
 some ((⟨a1,y7⟩:Sc))
theorem aJy (a0:Int) (a1:Int) (a2:(List (List Int))) (r:Sc) (h:aBR a0 a1 a2=some r):HasC Tryz.prog 233 [.int a0,.int a1,.list 1 (a2.map (dH 1 eI))] (.agg (eS r)):=by
 refine aW aA (rvs:=[.cell 6 99]) (ns:=fE) Tryz.func233 k k Tryz.ntmps233 k k k<|sR<|ae (bW aA k k) k<|an<|tn<|sR<|am k k<|am k k<|am k k<|oB h λv1 hv1 h=>ae (cM (aKV a1 a2 v1 hv1) k3 (bX k (bX k aM))) k<|oB h λv2 hv2 h=>ae (AEff.conv (oT (x:= .tuple [.agg [.int v2.1.rows,.int v2.1.cols,.own 2 0 (v2.1.cells.map eI).length],.own 3 0 (v2.2.map eI).length]) (nb:=[(2,⟨1,cU (v2.1.cells.map eI)⟩),(3,⟨1,cU (v2.2.map eI)⟩)]) (aMo a0 v1 v2 hv2) k (by rfl) k k (gP (cK aR (cK aR (cK (cX.good _) zL))) (gP (cX.good _) aBZ)) (bX k (aZ (vaM k2) aM))) (v':= .tuple [.agg [.int v2.1.rows,.int v2.1.cols,.own 2 0 v2.1.cells.length],.own 3 0 v2.2.length]) (ed':=[(2,some ⟨1,v2.1.cells.map (ow eI)⟩),(3,some ⟨1,v2.2.map (ow eI)⟩)]) (by simp only [aQ]) (aBL (nb':=[(2,⟨1,v2.1.cells.map (ow eI)⟩),(3,⟨1,v2.2.map (ow eI)⟩)]) (by simp only [jP]))) k<|am k k<|ae (bY k k (by intro _ h;cases h)) k<|ae (bY k k (by intro _ h;cases h)) k<|ae (bW aA k k) k<|ae (bF aA k k k k k k k k) k<|aT k2<|sR<|aT k2<|sQ<|sR<|am k k ?_
 refine ae (cF aA k k k k) k<|am k k<|an<|tn<|aE<|oB h λy7 hy7 h=>bU (body:=(zX v2)) hy7 (λ(x1:((List (List Int))×Int))=>mN [(1,.int a1),(6,.ptr 0 0 0),(7,.ptr 1 0 0),(9,.own 3 0 x1.1.length),(20,.int ((v2.2.length:Nat):Int)),(21,.int x1.2)] [(0,⟨2,[[.int 0,.nil 1]]⟩),(1,⟨3,[oMt v2.1 2]⟩),(2,⟨1,v2.1.cells.map (ow eI)⟩),(3,⟨1,x1.1.map (ow (dH 1 eI))⟩)] 4) (λr e t=>e= .exit 0∧Ent t (mN [(1,.int a1),(6,.ptr 0 0 0),(9,.own 1 0 r.length)] [(0,⟨2,[[.int 0,.nil 1]]⟩),(1,⟨1,r.map (ow (dH 1 eI))⟩)] 2)) (fU (σ:=sg [(0,0),(1,4),(2,2)]) (mZ 3 k2 (gU ⟨_,k,⟨k,k,k,k⟩⟩ (bE k2))) (bK k<|dK k<|bO k<|hX k k<|aR) k) ?_ ?_
 ·intro x1 o h
  refine sR<|cm k4<|an<|tn<|sQ ?_
  rcases cb h with ⟨q3,h⟩|⟨q3,h⟩
  ·refine aC k q3<|aI<|tn<|sQ<|aE<|sR<|am k k<|aT k2<|rg<|am k k<|lp k8<|am k k<|oB h λv4 hv4 h=>ae (AEff.pureE (gZ (σ:=sg [(0,2)]) (σ':=sg [(2,0)]) (touch:=[2]) (news:=[]) (hl2:=[(2,⟨1,v2.1.cells.map (ow eI)⟩)]) (n':=4) (r2:= .own 2 (0+(wr (x1.2*v2.1.cols)).toNat) ((wr ((wr (x1.2+1))*v2.1.cols)).toNat - (wr (x1.2*v2.1.cols)).toNat)) (eW v2.1 x1.2 v4 hv4) k k ⟨_,_,k,⟨_,_,k,k,⟨_,_,k,k,⟨_,_,k,⟨k,k,k,k⟩,k⟩⟩⟩,⟨_,_,k,k,k⟩⟩ ⟨⟨_,k,k,.inl ⟨k,cX.plainO _⟩⟩,k,aR⟩ k k k ⟨⟨_,k,k,.inl ⟨k,cX.plainO _⟩⟩,k,aR⟩ k ⟨k,k,(by simp only [aQ,lA,lT,lR,lC,lN]),k⟩ k ⟨k,cX.tame _ _,aR⟩ k k) ⟨k,k,aR⟩) k<|oB h λv5 hv5 h=>ae (cL cX (aCx ((v2.1.cells.drop (0+(wr (x1.2*v2.1.cols)).toNat)).take ((wr ((wr (x1.2+1))*v2.1.cols)).toNat - (wr (x1.2*v2.1.cols)).toNat)) v5 hv5) k3 (aZ (aWT cX k) aM)) k<|ae (cV aA k k k k k k k k k k k k) k<|cG h λq6 h=>ae (lF aA (l:=x1.1) (c:=[.own 4 0 v5.length]) q6 k k k k k k k k k k k k k k) k<|aa k k<|an<|aU<|tn<|aN (t:=mN [(1,.int a1),(6,.ptr 0 0 0),(7,.ptr 1 0 0),(9,.own 6 0 ((x1.1++[v5]).length)),(20,.int ((v2.2.length:Nat):Int)),(21,.int x1.2)] [(0,⟨2,[[.int 0,.nil 1]]⟩),(1,⟨3,[oMt v2.1 2]⟩),(2,⟨1,v2.1.cells.map (ow eI)⟩),(6,⟨1,List.map (ow (dH 1 eI)) (x1.1++[v5])⟩)] 7) (Ent.trans (iK (b:=6) (b':=4) (j:=0) (es':=v5.map eI) k k k k (aQ _ _) (cX.frzs _)) (bJ (mZ 3 k2 (gU ⟨_,k,⟨k,k,(by simp only [aQ,lA,lT,lR,lC,lN]),k⟩⟩ (bE k2))) (bK k<|dK k<|bO k<|hX ⟨_,k,k,.inl ⟨pG v5 k,bN.plainO _⟩⟩ k<|aR) k4))<|rg<|ae (bB k k) k<|am k k<|an<|tn ?_
   obtain rfl:=so h
   exact ⟨_,k,(pI [0,1,2,6] (bE k2) (bK k<|dK k<|bO k<|cE (bN.plainO _) k<|aR) k4)⟩
  ·refine aD k q3<|aV<|aB<|aB ?_
   obtain rfl:=so h
   exact ⟨_,k,k,(pI [0,3] (bE k2) (bK k<|cE (bN.plainO _) k<|aR) k4)⟩
 ·rintro e t ⟨rfl,hent⟩
  refine aL<|tn<|aN hent<|sR<|am k k<|am k k<|ae (iE aA k k k k k k) k<|ae (bF aA k k k k k k k k) k<|an<|tn<|aH ?_
  obtain rfl:=so h
  exact bH k k k (nB (bA (k) (bA (eK bN k k) fK)))
def lQ (a1:(List (List Int))) (x1:((List Int)×Int)):Option (((List Int)×Int) ⊕ (List Int)):=
 bif decide (x1.2<(a1.length:Int)) then
 ((cI a1 x1.2).bind λv2=>
 bif decide (x1.1.length+v2.length≤4294967296) then
 (some (.inl ((x1.1++v2),wr (x1.2+1))))
 else none)
 else
 (some (.inr x1.1))
def oK (a0:Int) (a1:(List (List Int))):Option Mt:=
 (Lp (lQ a1) ([],0)).bind λy4=>
 some ((⟨(a1.length:Int),a0,y4⟩:Mt))
theorem aGf (a0:Int) (a1:(List (List Int))) (r:Mt) (h:oK a0 a1=some r):HasC Tryz.prog 157 [.int a0,.list 1 (a1.map (dH 1 eI))] (.agg (eM r)):=by
 refine aW aA (rvs:=[.cell 4 113]) (ns:=fE) Tryz.func157 k k Tryz.ntmps157 k k k<|sR<|ae (bW aA k k) k<|an<|tn<|sR<|am k k<|ln k4<|am k k<|ae (iE aA k k k k k k) k<|ae (bW aA k k) k<|ae (bF aA k k k k k k k k) k<|an<|tn<|sQ<|sR<|aT k2<|aE<|oB h λy4 hy4 h=>bU (body:=(lQ a1)) hy4 (λ(x1:((List Int)×Int))=>mN [(1,.list 1 (a1.map (dH 1 eI))),(4,.ptr 0 0 0),(5,.ptr 1 0 0),(6,.int x1.2)] [(0,⟨3,[gC]⟩),(1,⟨3,[[.int (a1.length:Int),.int a0,.own 2 0 x1.1.length]]⟩),(2,⟨1,x1.1.map (ow eI)⟩)] 3) (λr e t=>e= .exit 0∧Ent t (mN [(4,.ptr 0 0 0),(5,.ptr 1 0 0)] [(0,⟨3,[gC]⟩),(1,⟨3,[[.int (a1.length:Int),.int a0,.own 2 0 r.length]]⟩),(2,⟨1,r.map (ow eI)⟩)] 3)) (fU (σ:=sg [(0,0),(1,1)]) (bE k2) (bK k<|hX ⟨_,k,k,.inr ⟨_,_,k,⟨_,_,k,k,⟨_,_,k,k,⟨_,_,k,⟨k,k,k,k⟩,k⟩⟩⟩,k⟩⟩ k<|hX k k<|aR) k) ?_ ?_
 ·intro x1 o h
  refine sQ<|sR<|am k k<|am k k<|ln k4<|cm k4<|an<|tn ?_
  rcases cb h with ⟨q1,h⟩|⟨q1,h⟩
  ·refine aC k q1<|aI<|tn<|sQ<|aE<|aS iL<|fp k8<|lp k8<|am k k<|am k k<|oB h λv2 hv2 h=>ae (aP aA hv2 k k k k k k) k<|lr k7<|cG h λq3 h=>ae (pF aA (l:=x1.1) (m:=v2) nD q3 k k k k k k k k k k k k) k<|fp k8<|ae (bF aA k k k k k k k k) k<|an<|wA (by kernel_rfl)<|aU<|tn<|rg<|am k k<|ae (bB k k) k<|aT k2 ?_
   obtain rfl:=so h
   exact ⟨_,k,(pI [0,1,3] (bE k2) (bK k<|dK k<|bO k<|aR) k4)⟩
  ·refine aD k q1<|aV<|aB<|aB ?_
   obtain rfl:=so h
   exact ⟨_,k,k,(bJ (bE k2) (bK k<|dK k<|bO k<|aR) k4)⟩
 ·rintro e t ⟨rfl,hent⟩
  refine aL<|tn<|aN hent<|sR<|lp k8<|ae (bF aA k k k k k k k k) k<|an<|tn<|aH ?_
  obtain rfl:=so h
  exact bH k k k (nB (bA (k) (bA (k) (bA (eK cX k k) fK))))
def kQ (v1:(Mt×(List Int))) (x1:((List (List Int))×Int)):Option (((List (List Int))×Int) ⊕ (List (List Int))):=
 bif decide (x1.2<((v1.2.length:Nat):Int)) then
 (bif (decide (0≤wr (x1.2*v1.1.cols))&&(decide (wr (x1.2*v1.1.cols)≤wr ((wr (x1.2*v1.1.cols))+v1.1.cols))&&decide (wr ((wr (x1.2*v1.1.cols))+v1.1.cols)≤((v1.1.cells.length:Nat):Int)))) then
 (bif decide (([]:(List Int)).length +((v1.1.cells.drop (0+(wr (x1.2*v1.1.cols)).toNat)).take ((wr ((wr (x1.2*v1.1.cols))+v1.1.cols)).toNat - (wr (x1.2*v1.1.cols)).toNat)).length ≤4294967296) then
 (bif decide (x1.1.length+1≤4294967296) then
 (some (.inl ((x1.1++[(([]:(List Int))++((v1.1.cells.drop (0+(wr (x1.2*v1.1.cols)).toNat)).take ((wr ((wr (x1.2*v1.1.cols))+v1.1.cols)).toNat - (wr (x1.2*v1.1.cols)).toNat)))]),wr (x1.2+1))))
 else none)
 else none)
 else none)
 else
 (some (.inr x1.1))
def lX (a0:Int) (a1:Mt):Option (List (List Int)):=
 (nH a0 a1).bind λv1=>
 (Lp (kQ v1) (([]:(List (List Int))),0)).bind λy6=>
 some (y6)
theorem aFH (a0:Int) (a1:Mt) (r:(List (List Int))) (h:lX a0 a1=some r):HasC Tryz.prog 182 [.int a0,.agg (eM a1)] (.list 1 (r.map (dH 1 eI))):=by
 refine aW aA (rvs:=[.tmp 4]) (ns:=fE) Tryz.func182 k k Tryz.ntmps182 k k k<|sR<|ae (cP k k k k) k<|aT k2<|sR<|am k k<|lp k8<|oB h λv1 hv1 h=>ae (AEff.conv (oT (x:= .tuple [.agg [.int v1.1.rows,.int v1.1.cols,.own 1 0 (v1.1.cells.map eI).length],.own 2 0 (v1.2.map eI).length]) (nb:=[(1,⟨1,cU (v1.1.cells.map eI)⟩),(2,⟨1,cU (v1.2.map eI)⟩)]) (aKL a0 a1 v1 hv1) k (by rfl) k k (gP (cK aR (cK aR (cK (cX.good _) zL))) (gP (cX.good _) aBZ)) (bX k (aZ (pY k) aM))) (v':= .tuple [.agg [.int v1.1.rows,.int v1.1.cols,.own 1 0 v1.1.cells.length],.own 2 0 v1.2.length]) (ed':=[(1,some ⟨1,v1.1.cells.map (ow eI)⟩),(2,some ⟨1,v1.2.map (ow eI)⟩)]) (by simp only [aQ]) (aBL (nb':=[(1,⟨1,v1.1.cells.map (ow eI)⟩),(2,⟨1,v1.2.map (ow eI)⟩)]) (by simp only [jP]))) k<|am k k<|ae (bY k k (by intro _ h;cases h)) k<|ae (bY k k (by intro _ h;cases h)) k<|ae (bW aA k k) k<|ae (bF aA k k k k k k k k) k<|aT k2<|sR<|ae (cV aA k k k k k k k k k k k k) k<|aT k2<|aN (t:=mN [(5,.ptr 3 0 0),(6,.own 2 0 v1.2.length),(7,.own 4 0 (([]:(List (List Int))).length))] [(1,⟨1,v1.1.cells.map (ow eI)⟩),(2,⟨1,v1.2.map (ow eI)⟩),(3,⟨3,[oMt v1.1 1]⟩),(4,⟨1,List.map (ow (dH 1 eI)) ([]:(List (List Int)))⟩)] 5) (bJ (mZ 2 k2 (gU ⟨_,k,⟨k,k,(by simp only [aQ,lA,lT,lR,lC,lN]),k⟩⟩ aR)) (bO k<|bO k<|dK k<|cE (bN.plainO _) k<|aR) k4)<|sQ<|sR ?_
 refine aT k2<|aE<|oB h λy6 hy6 h=>bU (body:=(kQ v1)) hy6 (λ(x1:((List (List Int))×Int))=>mN [(5,.ptr 0 0 0),(6,.own 2 0 v1.2.length),(7,.own 3 0 x1.1.length),(8,.int x1.2)] [(0,⟨3,[oMt v1.1 1]⟩),(1,⟨1,v1.1.cells.map (ow eI)⟩),(2,⟨1,v1.2.map (ow eI)⟩),(3,⟨1,x1.1.map (ow (dH 1 eI))⟩)] 4) (λr e t=>e= .exit 0∧Ent t (mN [(7,.own 0 0 r.length)] [(0,⟨1,r.map (ow (dH 1 eI))⟩)] 1)) (pI [3,1,2,4] (bE k2) (dK k<|bO k<|bO k<|cE (bN.plainO _) k<|aR) k4) ?_ ?_
 ·intro x1 o h
  refine sQ<|sR<|am k k<|am k k<|ae (cF aA k k k k) k<|cm k4<|an<|tn ?_
  rcases cb h with ⟨q2,h⟩|⟨q2,h⟩
  ·refine aC k q2<|aI<|tn<|sQ<|aE<|rg<|am k k<|ae (cV aA k k k k k k k k k k k k) k<|fp k8<|lp k8<|am k k<|fp k8<|lp k8<|ae (fH k k) k<|am k k<|fp k8<|lp k8<|ae (fH k k) k<|fp k8<|lp k8<|ae (bB k k) k<|cG h λq3 h=>ae (aCw aA (l:=wr (x1.2*v1.1.cols)) (h:=wr ((wr (x1.2*v1.1.cols))+v1.1.cols)) q3 k k k k k k k k) k<|cG h λq4 h=>ae (pF aA (l:=([]:(List Int))) (m:=((v1.1.cells.drop (0+(wr (x1.2*v1.1.cols)).toNat)).take ((wr ((wr (x1.2*v1.1.cols))+v1.1.cols)).toNat - (wr (x1.2*v1.1.cols)).toNat))) nD q4 k k k k k (aUo cX k) k k k k k k) k<|ae (cV aA k k k k k k k k k k k k) k<|cG h λq5 h=>ae (lF aA (l:=x1.1) (c:=[.own 5 0 ((([]:(List Int))++((v1.1.cells.drop (0+(wr (x1.2*v1.1.cols)).toNat)).take ((wr ((wr (x1.2*v1.1.cols))+v1.1.cols)).toNat - (wr (x1.2*v1.1.cols)).toNat))).length)]) q5 k k k k k k k k k k k k k k) k<|aa k k<|an<|aU<|tn<|aN (t:=mN [(5,.ptr 0 0 0),(6,.own 2 0 v1.2.length),(7,.own 7 0 ((x1.1++[(([]:(List Int))++((v1.1.cells.drop (0+(wr (x1.2*v1.1.cols)).toNat)).take ((wr ((wr (x1.2*v1.1.cols))+v1.1.cols)).toNat - (wr (x1.2*v1.1.cols)).toNat)))]).length)),(8,.int x1.2)] [(0,⟨3,[oMt v1.1 1]⟩),(1,⟨1,v1.1.cells.map (ow eI)⟩),(2,⟨1,v1.2.map (ow eI)⟩),(7,⟨1,List.map (ow (dH 1 eI)) (x1.1++[(([]:(List Int))++((v1.1.cells.drop (0+(wr (x1.2*v1.1.cols)).toNat)).take ((wr ((wr (x1.2*v1.1.cols))+v1.1.cols)).toNat - (wr (x1.2*v1.1.cols)).toNat)))])⟩)] 8) (Ent.trans (iK (b:=7) (b':=5) (j:=0) (es':=List.map eI (([]:(List Int))++((v1.1.cells.drop (0+(wr (x1.2*v1.1.cols)).toNat)).take ((wr ((wr (x1.2*v1.1.cols))+v1.1.cols)).toNat - (wr (x1.2*v1.1.cols)).toNat)))) k k k k (aQ _ _) (cX.frzs _)) (bJ (mZ 2 k2 (gU ⟨_,k,⟨k,k,(by simp only [aQ,lA,lT,lR,lC,lN]),k⟩⟩ (bE k2))) (dK k<|bO k<|bO k<|hX ⟨_,k,k,.inl ⟨pG (([]:(List Int))++((v1.1.cells.drop (0+(wr (x1.2*v1.1.cols)).toNat)).take ((wr ((wr (x1.2*v1.1.cols))+v1.1.cols)).toNat - (wr (x1.2*v1.1.cols)).toNat))) k,bN.plainO _⟩⟩ k<|aR) k4)) ?_
   refine rg<|am k k<|ae (bB k k) k<|aT k2 ?_
   obtain rfl:=so h
   exact ⟨_,k,(pI [0,1,2,7] (bE k2) (dK k<|bO k<|bO k<|cE (bN.plainO _) k<|aR) k4)⟩
  ·refine aD k q2<|aV<|aB<|aB ?_
   obtain rfl:=so h
   exact ⟨_,k,k,(pI [3] (bE k2) (cE (bN.plainO _) k<|aR) k4)⟩
 ·rintro e t ⟨rfl,hent⟩
  refine aL<|tn<|aN hent<|sR<|am k k<|aT k2<|aH ?_
  obtain rfl:=so h
  exact bH k k k (mJ (eK bN k k))
def wF (a0:Int) (a1:Int) (a2:(List (List Int))):Option Sc:=
 (oK a1 a2).bind λv1=>
 (lX a0 v1).bind λv2=>
 some ((⟨a1,v2⟩:Sc))
theorem aGg (a0:Int) (a1:Int) (a2:(List (List Int))) (r:Sc) (h:wF a0 a1 a2=some r):HasC Tryz.prog 184 [.int a0,.int a1,.list 1 (a2.map (dH 1 eI))] (.agg (eS r)):=by
 refine aW aA (rvs:=[.cell 6 99]) (ns:=fE) Tryz.func184 k k Tryz.ntmps184 k k k<|sR<|ae (bW aA k k) k<|an<|tn<|sR<|am k k<|am k k<|am k k<|am k k<|oB h λv1 hv1 h=>ae (cM (aGf a1 a2 v1 hv1) k3 (bX k (bX k aM))) k<|oB h λv2 hv2 h=>ae (cL bN (aFH a0 v1 v2 hv2) k3 (bX k (aZ (vaM k2) aM))) k<|ae (iE aA k k k k k k) k<|ae (bF aA k k k k k k k k) k<|an<|tn<|aH ?_
 obtain rfl:=so h
 exact bH k k k (nB (bA (k) (bA (eK bN k k) fK)))
def oX (a0:(List Int)) (a1:Int) (a2:Int):Option Bool:=
 bif !decide ((a0.length:Int)=a1) then
 (some (true))
 else
 ((rP a2 a0).bind λv2=>
 some (!v2))
theorem aFw (a0:(List Int)) (a1:Int) (a2:Int) (r:Bool) (h:oX a0 a1 a2=some r):HasC Tryz.prog 257 [.list 1 (a0.map eI),.ref (eI a1),.ref (eI a2)] (.bl r):=by
 refine aW aA (rvs:=[.tmp 4]) (ns:=fE) Tryz.func257 k k Tryz.ntmps257 k k k<|sR<|aT k2<|sR<|am k k<|ln k4<|lr k7<|cm k4<|am k k ?_
 rcases cb h with ⟨q1,h⟩|⟨q1,h⟩
 ·exact aJ 9 k q1<|aK k4<|aK k4<|pk k3<|aT k2<|aH<|gD h k2
 ·exact aJ 9 k q1<|lr k7<|am k k<|oB h λv2 hv2 h=>ae (aO (aEd a2 a0 v2 hv2) k (bX k (bX k aM))) k<|ae (dG k) k<|pk k3<|aT k2<|aH<|gD h k2
def tD (a0:Int) (a1:Int) (a2:(List (List Int))):Option Bool:=
 (jQ a1 0 8).bind λv1=>
 bif v1 then
 (bif decide ((a2.length:Int)≤16) then
 ((eD a2 (λb0=>oX b0 a1 a0)).bind λv4=>
 some (!v4))
 else
 (some (false)))
 else
 (some (false))
theorem aIA (a0:Int) (a1:Int) (a2:(List (List Int))) (r:Bool) (h:tD a0 a1 a2=some r):HasC Tryz.prog 231 [.int a0,.int a1,.list 1 (a2.map (dH 1 eI))] (.bl r):=by
 refine aW aA (rvs:=[.tmp 6]) (ns:=fE) Tryz.func231 k k Tryz.ntmps231 k k k<|sR<|ae (cP k k k k) k<|ae (cP k k k k) k<|aT k2<|sR<|lp k8<|oB h λv1 hv1 h=>ae (aO (oH a1 0 8 v1 hv1) k (bX k (bX k (bX k aM)))) k<|am k k ?_
 rcases cb h with ⟨q2,h⟩|⟨q2,h⟩
 ·refine aJ 9 k q2<|am k k<|ln k4<|cm k4<|pk k3<|am k k ?_
  rcases cb h with ⟨q3,h⟩|⟨q3,h⟩
  ·exact aJ 14 k q3<|am k k<|ae (aDs (vs:=[.ptr 1 0 0,.ptr 0 0 0]) k (by simp)) k<|oB h λv4 hv4 h=>ae (aO (nU a2 (λb0=>oX b0 a1 a0) k (λb0 r h=>aFw b0 a1 a0 r h) v4 hv4) k (bX k (aZ (aNR (aFl (aIr k k (mH (vA k) aDz)) (aFl (aIr k k (mH (vA k) aDz)) aFk))) aM))) k<|ae (dG k) k<|pk k3<|aT k2<|aH<|gD h k2
  ·exact aJ 14 k q3<|aK k4<|aK k4<|pk k3<|aT k2<|aH<|gD h k2
 ·exact aJ 9 k q2<|aK k4<|ak k k<|pk k3<|am k k<|aK k4<|aK k4<|pk k3<|aT k2<|aH<|gD h k2
def jZ (a0:(List Int)) (a1:(List Int)):Option Bool:=
 (pJ a0 a1).bind λv1=>
 some (v1)
theorem aFI (a0:(List Int)) (a1:(List Int)) (r:Bool) (h:jZ a0 a1=some r):HasC Tryz.prog 259 [.list 1 (a0.map eI),.list 1 (a1.map eI)] (.bl r):=by
 exact aW aA (rvs:=[.tmp 4]) (ns:=fE) Tryz.func259 k k Tryz.ntmps259 k k k<|sR<|aT k2<|sR<|am k k<|am k k<|oB h λv1 hv1 h=>ae (aO (aDf a0 a1 v1 hv1) k (bX k (bX k aM))) k<|aT k2<|aH<|gD h k2
def dO (a0:(List (List Int))) (a1:(List (List Int))) (a2:((List Int)→(List Int)→Option Bool)) (x1:Int):Option (Int ⊕ (Unit ⊕ Bool)):=
 bif decide (x1<(a0.length:Int)) then
 ((cI a0 x1).bind λv3=>
 (cI a1 x1).bind λv4=>
 (a2 v3 v4).bind λv5=>
 bif !v5 then
 (some (.inr (.inr (false))))
 else
 (some (.inl (wr (x1+1)))))
 else
 (some (.inr (.inl ())))
def dY (a0:(List (List Int))) (a1:(List (List Int))) (a2:((List Int)→(List Int)→Option Bool)):Option Bool:=
 bif !decide ((a0.length:Int)=(a1.length:Int)) then
 (some (false))
 else
 ((Lp (dO a0 a1 a2) 0).bind λy7=>
 Sum.elim (λy8=>
 some (true)
 )
 (λy9=>
 some y9
 )
 y7)
theorem sE (a0:(List (List Int))) (a1:(List (List Int))) (a2:((List Int)→(List Int)→Option Bool)) {f2:FuncId} {c2:List AV} (hc2:c2.all eC=true) (hf2: ∀ b0 b1 r,a2 b0 b1=some r→HasC Tryz.prog f2 ([.list 1 (b0.map eI),.list 1 (b1.map eI)]++c2) (.bl r)) (r:Bool) (h:dY a0 a1 a2=some r):HasC Tryz.prog 258 [.list 1 (a0.map (dH 1 eI)),.list 1 (a1.map (dH 1 eI)),.fn f2 c2] (.bl r):=by
 refine aW aA (rvs:=[.tmp 6]) (ns:=fE) Tryz.func258 k k Tryz.ntmps258 k k (sZ k (sZ k (sZ hc2 aJB)))<|sR<|aT k2<|sQ<|sR<|am k k<|ln k4<|am k k<|ln k4<|cm k4<|an<|tn ?_
 rcases cb h with ⟨q1,h⟩|⟨q1,h⟩
 ·exact aC k q1<|sR<|aT k2<|aH<|aG<|gD h k2
 ·refine aD k q1<|aI<|tn<|sQ<|sR<|am k k<|ln k4<|am k k<|an<|tn<|aE<|oB h λy7 hy7 h=>bU (body:=(dO a0 a1 a2)) hy7 (λ(x1:Int)=>mN [(1,.list 1 (a1.map (dH 1 eI))),(2,.fn f2 c2),(15,.list 1 (a0.map (dH 1 eI))),(16,.int (a0.length:Int)),(17,.int x1)] [] 0) (λr e t=>Sum.elim (λa=>(λr e t=>e= .exit 0∧Ent t (mN [] [] 0)) a e t) (λb=>(λr e t=>e= .ret∧qA TT [.tmp 6] (.bl r) .ret t) b e t) r) (bJ (mZ 1 k2 (gU ⟨_,k,⟨k,zA _ hc2⟩⟩ (bE k2))) aR k4) ?_ ?_
  ·intro x1 o h
   refine sR<|cm k4<|an<|tn<|sQ ?_
   rcases cb h with ⟨q2,h⟩|⟨q2,h⟩
   ·refine aC k q2<|aI<|tn<|sQ<|aE<|sR<|am k k<|oB h λv3 hv3 h=>ae (aP aA hv3 k k k k k k) k<|lr k7<|aa k k<|aT k2<|sR<|am k k<|am k k<|oB h λv4 hv4 h=>ae (aP aA hv4 k k k k k k) k<|lr k7<|aT k2<|sR<|am k k<|am k k<|am k k<|oB h λv5 hv5 h=>ae (aHn hc2 (hf2 v3 v4 v5 hv5) k k (bX k (bX k aM))) k<|ae (dG k) k ?_
    refine an<|tn ?_
    rcases cb h with ⟨q6,h⟩|⟨q6,h⟩
    ·refine aC k q6<|sR<|aT k2<|aH<|bD<|aG<|aG ?_
     obtain rfl:=so h
     exact ⟨_,k,k,bH k k k (mX k)⟩
    ·refine aD k q6<|aI<|aU<|tn<|rg<|ae (bB k k) k<|am k k<|an<|tn ?_
     obtain rfl:=so h
     exact ⟨_,k,(bJ (mZ 1 k2 (gU ⟨_,k,⟨k,zA _ hc2⟩⟩ (bE k2))) aR k4)⟩
   ·refine aD k q2<|aV<|aB<|aB ?_
    obtain rfl:=so h
    exact ⟨_,k,k,(bJ aR aR k4)⟩
  ·intro e t hX
   rcases y7 with y8|y9
   ·obtain ⟨rfl,hent⟩:=hX
    exact aL<|tn<|aN hent<|sR<|aT k2<|aH<|gD h k2
   ·obtain ⟨rfl,hent⟩:=hX
    refine bD<|aG ?_
    obtain rfl:=so h
    exact hent
def qM (a0:Sc) (a1:Sc):Option Bool:=
 bif decide (a0.size=a1.size) then
 ((dY a0.basis a1.basis (λb0 b1=>jZ b0 b1)).bind λv2=>
 some (v2))
 else
 (some (false))
theorem aGz (a0:Sc) (a1:Sc) (r:Bool) (h:qM a0 a1=some r):HasC Tryz.prog 232 [.agg (eS a0),.agg (eS a1)] (.bl r):=by
 refine aW aA (rvs:=[.tmp 4]) (ns:=fE) Tryz.func232 k k Tryz.ntmps232 k k k<|sR<|ae (cP k k k k) k<|ae (cP k k k k) k<|aT k2<|sR<|fp k8<|lp k8<|fp k8<|lp k8<|cm k4<|am k k ?_
 rcases cb h with ⟨q1,h⟩|⟨q1,h⟩
 ·exact aJ 10 k q1<|fp k8<|lp k8<|fp k8<|lp k8<|oB h λv2 hv2 h=>ae (aO (sE a0.basis a1.basis (λb0 b1=>jZ b0 b1) k (λb0 b1 r h=>aFI b0 b1 r h) v2 hv2) k (bX k (bX k (aZ (aNR aFk) aM)))) k<|pk k3<|aT k2<|aH<|gD h k2
 ·exact aJ 10 k q1<|aK k4<|aK k4<|ak k k<|pk k3<|aT k2<|aH<|gD h k2
def zY (a0:Int) (a1:Sc):Option Bool:=
 (jX a0).bind λv1=>
 bif !v1 then
 (some (false))
 else
 ((tD a0 a1.size a1.basis).bind λv3=>
 bif !v3 then
 (some (false))
 else
 ((aBR a0 a1.size a1.basis).bind λv5=>
 (qM v5 a1).bind λv6=>
 some (v6)))
theorem aMD (a0:Int) (a1:Sc) (r:Bool) (h:zY a0 a1=some r):HasC Tryz.prog 197 [.int a0,.agg (eS a1)] (.bl r):=by
 refine aW aA (rvs:=[.tmp 4]) (ns:=fE) Tryz.func197 k k Tryz.ntmps197 k k k<|sR<|ae (cP k k k k) k<|aT k2<|sQ<|sR<|am k k<|oB h λv1 hv1 h=>ae (aO (pL a0 v1 hv1) k (bX k aM)) k<|ae (dG k) k<|am k k ?_
 rcases cb h with ⟨q2,h⟩|⟨q2,h⟩
 ·exact aJ 8 k q2<|aK k4<|aK k4<|aK k4<|ak k k<|pk k3<|an<|tn<|aC k k<|sR<|aT k2<|aH<|aG<|gD h k2
 ·refine aJ 8 k q2<|am k k<|fp k8<|lp k8<|fp k8<|lp k8<|oB h λv3 hv3 h=>ae (aO (aIA a0 a1.size a1.basis v3 hv3) k (bX k (bX k (bX k aM)))) k<|ae (dG k) k<|pk k3<|an<|tn ?_
  rcases cb h with ⟨q4,h⟩|⟨q4,h⟩
  ·exact aC k q4<|sR<|aT k2<|aH<|aG<|gD h k2
  ·exact aD k q4<|aI<|tn<|sQ<|aS iL<|am k k<|fp k8<|lp k8<|fp k8<|lp k8<|oB h λv5 hv5 h=>ae (cS (aJy a0 a1.size a1.basis v5 hv5) k3 (bX k (bX k (bX k aM)))) k<|lp k8<|oB h λv6 hv6 h=>ae (aO (aGz v5 a1 v6 hv6) k (aZ (vaC k2) (aZ (pY k) aM))) k<|aa k k<|an<|wA (by kernel_rfl)<|tn<|aH<|gD h k2
def lS (a0:Int) (a1:Int) (a2:(List (List Int))) (x1:Int):Option (Int ⊕ (Unit ⊕ Bool)):=
 bif decide (x1<(a2.length:Int)) then
 ((cI a2 x1).bind λv2=>
 bif !decide ((v2.length:Int)=a1) then
 (some (.inr (.inr (false))))
 else
 ((cI a2 x1).bind λv4=>
 (iW a0 v4).bind λv5=>
 bif !v5 then
 (some (.inr (.inr (false))))
 else
 (some (.inl (wr (x1+1))))))
 else
 (some (.inr (.inl ())))
def rX (a0:Int) (a1:Int) (a2:(List (List Int))):Option Bool:=
 (Lp (lS a0 a1 a2) 0).bind λy7=>
 Sum.elim (λy8=>
 (gM a0).bind λv9=>
 bif v9 then
 ((eJ a1 0 8).bind λv11=>
 bif v11 then
 (some (decide ((a2.length:Int)≤16)))
 else
 (some (false)))
 else
 (some (false))
 )
 (λy13=>
 some y13
 )
 y7
theorem aMq (a0:Int) (a1:Int) (a2:(List (List Int))) (r:Bool) (h:rX a0 a1 a2=some r):HasC Tryz.prog 180 [.int a0,.int a1,.list 1 (a2.map (dH 1 eI))] (.bl r):=by
 refine aW aA (rvs:=[.tmp 6]) (ns:=fE) Tryz.func180 k k Tryz.ntmps180 k k k<|sR<|aT k2<|sQ<|sR<|aT k2<|aE<|oB h λy7 hy7 h=>bU (body:=(lS a0 a1 a2)) hy7 (λ(x1:Int)=>mN [(0,.int a0),(1,.int a1),(2,.list 1 (a2.map (dH 1 eI))),(7,.int x1)] [] 0) (λr e t=>Sum.elim (λa=>(λr e t=>e= .exit 0∧Ent t (mN [(0,.int a0),(1,.int a1),(2,.list 1 (a2.map (dH 1 eI)))] [] 0)) a e t) (λb=>(λr e t=>e= .ret∧qA TT [.tmp 6] (.bl r) .ret t) b e t) r) (bJ (bE k2) aR k4) ?_ ?_
 ·intro x1 o h
  refine sQ<|sR<|am k k<|am k k<|ln k4<|cm k4<|an<|tn ?_
  rcases cb h with ⟨q1,h⟩|⟨q1,h⟩
  ·refine aC k q1<|aI<|tn<|sQ<|aE<|sR<|am k k<|am k k<|oB h λv2 hv2 h=>ae (aP aA hv2 k k k k k k) k<|lr k7<|ln k4<|am k k<|cm k4<|am k k ?_
   rcases cb h with ⟨q3,h⟩|⟨q3,h⟩
   ·refine aJ 21 k q3<|aK k4<|aK k4<|aK k4<|ak k k<|pk k3<|an<|tn<|aC k k<|sR<|aT k2<|aH<|bD<|aG<|aG ?_
    obtain rfl:=so h
    exact ⟨_,k,k,bH k k k (mX k)⟩
   ·refine aJ 21 k q3<|am k k<|am k k<|am k k<|oB h λv4 hv4 h=>ae (aP aA hv4 k k k k k k) k<|lr k7<|oB h λv5 hv5 h=>ae (aO (aBb a0 v4 v5 hv5) k (bX k (bX k aM))) k<|ae (dG k) k<|pk k3<|an<|tn ?_
    rcases cb h with ⟨q6,h⟩|⟨q6,h⟩
    ·refine aC k q6<|sR<|aT k2<|aH<|bD<|aG<|aG ?_
     obtain rfl:=so h
     exact ⟨_,k,k,bH k k k (mX k)⟩
    ·refine aD k q6<|aI<|aU<|tn<|rg<|am k k<|ae (bB k k) k<|aT k2 ?_
     obtain rfl:=so h
     exact ⟨_,k,(bJ (bE k2) aR k4)⟩
  ·refine aD k q1<|aV<|aB<|aB ?_
   obtain rfl:=so h
   exact ⟨_,k,k,(bJ (bE k2) aR k4)⟩
 ·intro e t hX
  rcases y7 with y8|y13
  ·obtain ⟨rfl,hent⟩:=hX
   refine aL<|tn<|aN hent<|sR<|am k k<|oB h λv9 hv9 h=>ae (aO (pK a0 v9 hv9) k (bX k aM)) k<|am k k ?_
   rcases cb h with ⟨q10,h⟩|⟨q10,h⟩
   ·refine aJ 32 k q10<|am k k<|oB h λv11 hv11 h=>ae (aO (gG a1 0 8 v11 hv11) k (bX k (bX k (bX k aM)))) k<|pk k3<|am k k ?_
    rcases cb h with ⟨q12,h⟩|⟨q12,h⟩
    ·exact aJ 36 k q12<|am k k<|ln k4<|cm k4<|pk k3<|aT k2<|aH<|gD h k2
    ·exact aJ 36 k q12<|aK k4<|ak k k<|pk k3<|aT k2<|aH<|gD h k2
   ·exact aJ 32 k q10<|aK k4<|pk k3<|am k k<|aK k4<|ak k k<|pk k3<|aT k2<|aH<|gD h k2
  ·obtain ⟨rfl,hent⟩:=hX
   refine bD<|aG ?_
   obtain rfl:=so h
   exact hent
def jK (a0:(List (List Int))) (a1:(List (List Int))) (x1:Int) (x2:Int):Option (Int ⊕ (Unit ⊕ Bool)):=
 (cI a0 x1).bind λv6=>
 bif decide (x2<(v6.length:Int)) then
 ((cI a0 x1).bind λv8=>
 (cI v8 x2).bind λv9=>
 (cI a1 x1).bind λv10=>
 (cI v10 x2).bind λv11=>
 bif !decide (v9=v11) then
 (some (.inr (.inr (false))))
 else
 (some (.inl (wr (x2+1)))))
 else
 (some (.inr (.inl ())))
def lU (a0:(List (List Int))) (a1:(List (List Int))) (x1:Int):Option (Int ⊕ (Unit ⊕ Bool)):=
 bif decide (x1<(a0.length:Int)) then
 ((cI a0 x1).bind λv3=>
 (cI a1 x1).bind λv4=>
 bif !decide ((v3.length:Int)=(v4.length:Int)) then
 (some (.inr (.inr (false))))
 else
 ((Lp (jK a0 a1 x1) 0).bind λy13=>
 Sum.elim (λy14=>
 some (.inl (wr (x1+1)))
 )
 (λy15=>
 some (.inr (.inr y15))
 )
 y13))
 else
 (some (.inr (.inl ())))
def rY (a0:(List (List Int))) (a1:(List (List Int))):Option Bool:=
 bif !decide ((a0.length:Int)=(a1.length:Int)) then
 (some (false))
 else
 ((Lp (lU a0 a1) 0).bind λy16=>
 Sum.elim (λy17=>
 some (true)
 )
 (λy18=>
 some y18
 )
 y16)
theorem aMr (a0:(List (List Int))) (a1:(List (List Int))) (r:Bool) (h:rY a0 a1=some r):HasC Tryz.prog 181 [.list 1 (a0.map (dH 1 eI)),.list 1 (a1.map (dH 1 eI))] (.bl r):=by
 refine aW aA (rvs:=[.tmp 4]) (ns:=fE) Tryz.func181 k k Tryz.ntmps181 k k k<|sR<|aT k2<|sQ<|sR<|am k k<|ln k4<|am k k<|ln k4<|cm k4<|an<|tn ?_
 rcases cb h with ⟨q1,h⟩|⟨q1,h⟩
 ·exact aC k q1<|sR<|aT k2<|aH<|aG<|gD h k2
 ·refine aD k q1<|aI<|tn<|sQ<|sR<|aT k2<|aE<|oB h λy16 hy16 h=>bU (body:=(lU a0 a1)) hy16 (λ(x1:Int)=>mN [(0,.list 1 (a0.map (dH 1 eI))),(1,.list 1 (a1.map (dH 1 eI))),(5,.int x1)] [] 0) (λr e t=>Sum.elim (λa=>(λr e t=>e= .exit 0∧Ent t (mN [] [] 0)) a e t) (λb=>(λr e t=>e= .ret∧qA TT [.tmp 4] (.bl r) .ret t) b e t) r) (bJ (bE k2) aR k4) ?_ ?_
  ·intro x1 o h
   refine sQ<|sR<|am k k<|am k k<|ln k4<|cm k4<|an<|tn ?_
   rcases cb h with ⟨q2,h⟩|⟨q2,h⟩
   ·refine aC k q2<|aI<|tn<|sQ<|aE<|sQ<|sQ<|aS iL<|am k k<|am k k<|oB h λv3 hv3 h=>ae (aP aA hv3 k k k k k k) k<|lr k7<|ln k4<|am k k<|am k k<|oB h λv4 hv4 h=>ae (aP aA hv4 k k k k k k) k<|lr k7<|ln k4<|cm k4<|an<|wA (by kernel_rfl)<|tn ?_
    rcases cb h with ⟨q5,h⟩|⟨q5,h⟩
    ·refine aC k q5<|sR<|aT k2<|aH<|aG<|bD<|aG<|aG ?_
     obtain rfl:=so h
     exact ⟨_,k,k,bH k k k (mX k)⟩
    ·refine aD k q5<|aI<|tn<|sR<|aT k2<|aE<|oB h λy13 hy13 h=>bU (body:=(jK a0 a1 x1)) hy13 (λ(x2:Int)=>mN [(0,.list 1 (a0.map (dH 1 eI))),(1,.list 1 (a1.map (dH 1 eI))),(5,.int x1),(6,.int x2)] [] 0) (λr e t=>Sum.elim (λa=>(λr e t=>e= .exit 2∧Ent t (mN [(0,.list 1 (a0.map (dH 1 eI))),(1,.list 1 (a1.map (dH 1 eI))),(5,.int x1)] [] 0)) a e t) (λb=>(λr e t=>e= .ret∧qA TT [.tmp 4] (.bl r) .ret t) b e t) r) (bJ (bE k2) aR k4) ?_ ?_
     ·intro x2 o h
      refine sQ<|sR<|am k k<|am k k<|am k k<|oB h λv6 hv6 h=>ae (aP aA hv6 k k k k k k) k<|lr k7<|ln k4<|cm k4<|an<|tn ?_
      rcases cb h with ⟨q7,h⟩|⟨q7,h⟩
      ·refine aC k q7<|aI<|tn<|sQ<|aE<|sQ<|aS iL<|am k k<|am k k<|oB h λv8 hv8 h=>ae (aP aA hv8 k k k k k k) k<|lr k7<|am k k<|oB h λv9 hv9 h=>ae (aP aA hv9 k k k k k k) k<|lr k7<|am k k<|am k k<|oB h λv10 hv10 h=>ae (aP aA hv10 k k k k k k) k<|lr k7<|am k k<|oB h λv11 hv11 h=>ae (aP aA hv11 k k k k k k) k<|lr k7<|cm k4<|an<|wA (by kernel_rfl)<|tn ?_
       rcases cb h with ⟨q12,h⟩|⟨q12,h⟩
       ·refine aC k q12<|sR<|aT k2<|aH<|bD<|aG<|aG ?_
        obtain rfl:=so h
        exact ⟨_,k,k,bH k k k (mX k)⟩
       ·refine aD k q12<|aI<|aU<|tn<|rg<|am k k<|ae (bB k k) k<|aT k2 ?_
        obtain rfl:=so h
        exact ⟨_,k,(bJ (bE k2) aR k4)⟩
      ·refine aD k q7<|aV<|aB<|aB ?_
       obtain rfl:=so h
       exact ⟨_,k,k,(bJ (bE k2) aR k4)⟩
     ·intro e t hX
      rcases y13 with y14|y15
      ·obtain ⟨rfl,hent⟩:=hX
       refine aL<|aU<|tn<|aN hent<|rg<|am k k<|ae (bB k k) k<|aT k2 ?_
       obtain rfl:=so h
       exact ⟨_,k,(bJ (bE k2) aR k4)⟩
      ·obtain ⟨rfl,hent⟩:=hX
       refine bD<|bD<|aG<|aG ?_
       obtain rfl:=so h
       exact ⟨_,k,k,hent⟩
   ·refine aD k q2<|aV<|aB<|aB ?_
    obtain rfl:=so h
    exact ⟨_,k,k,(bJ aR aR k4)⟩
  ·intro e t hX
   rcases y16 with y17|y18
   ·obtain ⟨rfl,hent⟩:=hX
    exact aL<|tn<|aN hent<|sR<|aT k2<|aH<|gD h k2
   ·obtain ⟨rfl,hent⟩:=hX
    refine bD<|aG ?_
    obtain rfl:=so h
    exact hent
def gO (a0:Int) (a1:Sc):Option Bool:=
 (rX a0 a1.size a1.basis).bind λv1=>
 bif !v1 then
 (some (false))
 else
 ((oK a1.size a1.basis).bind λv3=>
 (lX a0 v3).bind λv4=>
 (rY v4 a1.basis).bind λv5=>
 some (v5))
theorem uH (a0:Int) (a1:Sc) (r:Bool) (h:gO a0 a1=some r):HasC Tryz.prog 135 [.int a0,.agg (eS a1)] (.bl r):=by
 refine aW aA (rvs:=[.tmp 4]) (ns:=fE) Tryz.func135 k k Tryz.ntmps135 k k k<|sR<|ae (cP k k k k) k<|aT k2<|sQ<|sR<|am k k<|fp k8<|lp k8<|fp k8<|lp k8<|oB h λv1 hv1 h=>ae (aO (aMq a0 a1.size a1.basis v1 hv1) k (bX k (bX k (bX k aM)))) k<|ae (dG k) k<|an<|tn ?_
 rcases cb h with ⟨q2,h⟩|⟨q2,h⟩
 ·exact aC k q2<|sR<|aT k2<|aH<|aG<|gD h k2
 ·exact aD k q2<|aI<|tn<|sQ<|aS iL<|am k k<|fp k8<|lp k8<|fp k8<|lp k8<|oB h λv3 hv3 h=>ae (cM (aGf a1.size a1.basis v3 hv3) k3 (bX k (bX k aM))) k<|oB h λv4 hv4 h=>ae (cL bN (aFH a0 v3 v4 hv4) k3 (bX k (aZ (vaM k2) aM))) k<|fp k8<|lp k8<|oB h λv5 hv5 h=>ae (aO (aMr v4 a1.basis v5 hv5) k (aZ (aDG bN k k) (bX k aM))) k<|aa k k<|an<|wA (by kernel_rfl)<|tn<|aH<|gD h k2
def aBE (a0:Qv):Option Qv:=
 bif decide (([]:(List Int)).length +a0.src.length≤4294967296) then
 (bif decide (([]:(List Int)).length +a0.tgt.length≤4294967296) then
 (some ((⟨a0.n,(([]:(List Int))++a0.src),(([]:(List Int))++a0.tgt)⟩:Qv)))
 else none)
 else none
theorem aMs (a0:Qv) (r:Qv) (h:aBE a0=some r):HasC Tryz.prog 113 [.agg (eQ a0)] (.agg (eQ r)):=by
 refine aW aA (rvs:=[.cell 2 29]) (ns:=fE) Tryz.func113 k k Tryz.ntmps113 k k k<|sR<|ae (cP k k k k) k<|ae (bW aA k k) k<|an<|tn<|sQ<|aS iL<|fp k8<|lp k8<|ae (cV aA k k k k k k k k k k k k) k<|fp k8<|lp k8<|cG h λq1 h=>ae (pF aA (l:=([]:(List Int))) (m:=a0.src) nD q1 k k k k k k k k k k k k) k<|ae (cV aA k k k k k k k k k k k k) k<|fp k8<|lp k8<|cG h λq2 h=>ae (pF aA (l:=([]:(List Int))) (m:=a0.tgt) nD q2 k k k k k k k k k k k k) k<|ae (iE aA k k k k k k) k<|ae (bF aA k k k k k k k k) k<|an<|wA (by kernel_rfl)<|tn<|aH ?_
 obtain rfl:=so h
 exact bH k k k (nB (bA (k) (bA (eK cX k k) (bA (eK cX k k) fK))))
def vM (a1:Qv) (a2:(List Int)) (x1:((List Mt)×Int)):Option (((List Mt)×Int) ⊕ (List Mt)):=
 bif decide (x1.2<(a1.src.length:Int)) then
 ((cI a1.tgt x1.2).bind λv4=>
 (cI a2 v4).bind λv5=>
 (cI a1.src x1.2).bind λv6=>
 (cI a2 v6).bind λv7=>
 (jS v5 v7).bind λv8=>
 bif decide (x1.1.length+1≤4294967296) then
 (some (.inl ((x1.1++[v8]),wr (x1.2+1))))
 else none)
 else
 (some (.inr x1.1))
def aBF (a0:Int) (a1:Qv) (a2:(List Int)):Option Rp:=
 (aBE a1).bind λv1=>
 bif decide (([]:(List Int)).length +a2.length≤4294967296) then
 ((Lp (vM a1 a2) (([]:(List Mt)),0)).bind λy10=>
 some ((⟨a0,v1,(([]:(List Int))++a2),y10⟩:Rp)))
 else none
theorem aMt (a0:Int) (a1:Qv) (a2:(List Int)) (r:Rp) (h:aBF a0 a1 a2=some r):HasC Tryz.prog 144 [.int a0,.agg (eQ a1),.list 1 (a2.map eI)] (.agg (eR r)):=by
 refine aW aA (rvs:=[.cell 6 32]) (ns:=fE) Tryz.func144 k k Tryz.ntmps144 k k k<|sR<|ae (cP k k k k) k<|ae (bW aA k k) k<|an<|tn<|sR<|am k k<|lp k8<|oB h λv1 hv1 h=>ae (cQ (aMs a1 v1 hv1) k3 (aZ (pY k) aM)) k<|ae (cV aA k k k k k k k k k k k k) k<|am k k<|cG h λq2 h=>ae (pF aA (l:=([]:(List Int))) (m:=a2) nD q2 k k k k k k k k k k k k) k<|ae (cV aA k k k k k k k k k k k k) k<|ae (iE aA k k k k k k) k<|ae (bW aA k k) k<|ae (bF aA k k k k k k k k) k<|an<|tn<|aN (t:=mN [(2,.list 1 (a2.map eI)),(4,.ptr 0 0 0),(6,.ptr 1 0 0),(7,.ptr 7 0 0)] [(0,⟨3,[eQ a1]⟩),(1,⟨6,[zG]⟩),(2,⟨1,v1.src.map (ow eI)⟩),(3,⟨1,v1.tgt.map (ow eI)⟩),(5,⟨1,List.map (ow eI) (([]:(List Int))++a2)⟩),(6,⟨3,List.map (ow eM) ([]:(List Mt))⟩),(7,⟨6,[[.int a0,.int v1.n,.own 2 0 v1.src.length,.own 3 0 v1.tgt.length,.own 5 0 ((([]:(List Int))++a2).length),.own 6 0 (([]:(List Mt)).length)]]⟩)] 8) (bJ (bE k2) (bK k<|bK k<|bO k<|bO k<|bO k<|cE (dI.plainO _) k<|hX ⟨_,k,k,.inr ⟨_,_,k,⟨_,_,k,k,⟨_,_,k,k,⟨_,_,k,⟨k,k,k,k⟩,⟨_,_,k,⟨k,k,k,k⟩,⟨_,_,k,⟨k,k,k,k⟩,⟨_,_,k,⟨k,k,(by simp only [aQ,lA,lT,lR,lC,lN]),k⟩,k⟩⟩⟩⟩⟩⟩,k⟩⟩ k<|aR) k4)<|sQ<|sR<|aT k2<|aE<|oB h λy10 hy10 h=>bU (body:=(vM a1 a2)) hy10 (λ(x1:((List Mt)×Int))=>mN [(2,.list 1 (a2.map eI)),(4,.ptr 0 0 0),(6,.ptr 1 0 0),(7,.ptr 2 0 0),(8,.int x1.2)] [(0,⟨3,[eQ a1]⟩),(1,⟨6,[zG]⟩),(2,⟨6,[[.int a0,.int v1.n,.own 3 0 v1.src.length,.own 4 0 v1.tgt.length,.own 5 0 ((([]:(List Int))++a2).length),.own 6 0 x1.1.length]]⟩),(3,⟨1,v1.src.map (ow eI)⟩),(4,⟨1,v1.tgt.map (ow eI)⟩),(5,⟨1,List.map (ow eI) (([]:(List Int))++a2)⟩),(6,⟨3,x1.1.map (ow eM)⟩)] 7) (λr e t=>e= .exit 0∧Ent t (mN [(6,.ptr 0 0 0),(7,.ptr 1 0 0)] [(0,⟨6,[zG]⟩),(1,⟨6,[[.int a0,.int v1.n,.own 2 0 v1.src.length,.own 3 0 v1.tgt.length,.own 4 0 ((([]:(List Int))++a2).length),.own 5 0 r.length]]⟩),(2,⟨1,v1.src.map (ow eI)⟩),(3,⟨1,v1.tgt.map (ow eI)⟩),(4,⟨1,List.map (ow eI) (([]:(List Int))++a2)⟩),(5,⟨3,r.map (ow eM)⟩)] 6)) (pI [0,1,7,2,3,5,6] (bE k2) (bK k<|bK k<|dK k<|bO k<|bO k<|bO k<|cE (dI.plainO _) k<|aR) k4) ?_ ?_
 ·intro x1 o h
  refine sQ<|sR<|am k k<|fp k8<|lp k8<|ln k4<|cm k4<|an<|tn ?_
  rcases cb h with ⟨q3,h⟩|⟨q3,h⟩
  ·refine aC k q3<|aI<|tn<|sQ<|aE<|aS iL<|fp k8<|lp k8<|am k k<|fp k8<|lp k8<|am k k<|oB h λv4 hv4 h=>ae (aP aA hv4 k k k k k k) k<|lr k7<|oB h λv5 hv5 h=>ae (aP aA hv5 k k k k k k) k<|lr k7<|am k k<|fp k8<|lp k8<|am k k<|oB h λv6 hv6 h=>ae (aP aA hv6 k k k k k k) k<|lr k7<|oB h λv7 hv7 h=>ae (aP aA hv7 k k k k k k) k<|lr k7<|oB h λv8 hv8 h=>ae (cM (aBB v5 v7 v8 hv8) k3 (bX k (bX k aM))) k<|ae (cV aA k k k k k k k k k k k k) k<|cG h λq9 h=>ae (lF aA (l:=x1.1) (c:=[.int v8.rows,.int v8.cols,.own 7 0 v8.cells.length]) q9 k k k k k k k k k k k k k k) k<|fp k8<|ae (bF aA k k k k k k k k) k<|an ?_
   refine wA (by kernel_rfl)<|aU<|tn<|aN (t:=mN [(2,.list 1 (a2.map eI)),(4,.ptr 0 0 0),(6,.ptr 1 0 0),(7,.ptr 2 0 0),(8,.int x1.2)] [(0,⟨3,[eQ a1]⟩),(1,⟨6,[zG]⟩),(2,⟨6,[[.int a0,.int v1.n,.own 3 0 v1.src.length,.own 4 0 v1.tgt.length,.own 5 0 ((([]:(List Int))++a2).length),.own 9 0 ((x1.1++[v8]).length)]]⟩),(3,⟨1,v1.src.map (ow eI)⟩),(4,⟨1,v1.tgt.map (ow eI)⟩),(5,⟨1,List.map (ow eI) (([]:(List Int))++a2)⟩),(9,⟨3,List.map (ow eM) (x1.1++[v8])⟩)] 10) (Ent.trans (iK (b:=9) (b':=7) (j:=2) (es':=v8.cells.map eI) k k k k (aQ _ _) (cX.frzs _)) (bJ (bE k2) (bK k<|bK k<|hX ⟨_,k,k,.inr ⟨_,_,k,⟨_,_,k,k,⟨_,_,k,k,⟨_,_,k,⟨k,k,k,k⟩,⟨_,_,k,⟨k,k,k,k⟩,⟨_,_,k,⟨k,k,k,k⟩,⟨_,_,k,⟨k,k,(by simp only [aQ,lA,lT,lR,lC,lN]),k⟩,k⟩⟩⟩⟩⟩⟩,k⟩⟩ k<|bO k<|bO k<|bO k<|hX ⟨_,k,k,.inl ⟨pG v8 k,dI.plainO _⟩⟩ k<|aR) k4))<|rg<|am k k<|ae (bB k k) k<|aT k2 ?_
   obtain rfl:=so h
   exact ⟨_,k,(pI [0,1,2,3,4,5,9] (bE k2) (bK k<|bK k<|dK k<|bO k<|bO k<|bO k<|cE (dI.plainO _) k<|aR) k4)⟩
  ·refine aD k q3<|aV<|aB<|aB ?_
   obtain rfl:=so h
   exact ⟨_,k,k,(pI [1,2,3,4,5,6] (bE k2) (bK k<|dK k<|bO k<|bO k<|bO k<|cE (dI.plainO _) k<|aR) k4)⟩
 ·rintro e t ⟨rfl,hent⟩
  refine aL<|tn<|aN hent<|sR<|lp k8<|ae (bF aA k k k k k k k k) k<|an<|tn<|aH ?_
  obtain rfl:=so h
  exact bH k k k (nB (bA (k) (bA (k) (bA (eK cX k k) (bA (eK cX k k) (bA (eK cX k k) (bA (eK dI k k) fK)))))))
end
noncomputable section
theorem aSU {l:List (List Int)} {n:Nat} (h: ∀ v∈l,v.length=n):l=(List.range l.length).map λi=>jJ n (dD l i):=by
 refine List.ext_getElem (by simp) λi h1 h2=>?_
 simp only [List.getElem_map,List.getElem_range]
 refine List.ext_getElem (by rw [fX];exact h _ (List.getElem_mem h1)) λj h3 h4=>?_
 simp [jJ,dD,h1,h3]
theorem aNl {l:List (List Int)} {n:Nat} (h: ∀ v∈l,v.length=n):l.flatten=dC l.length n (dD l):=by
 have e:l.flatten=((List.range l.length).map λi=>jJ n (dD l i)).flatten:=by rw [←aSU h]
 rw [e,aQC]
theorem aOl {p:Int} (hp:oF p=true) {n:Nat} {l:List (List Int)} (hn:n≤1024) (hl:l.length≤512) (h:VecsP p n l):Tb p l.length n (dD l):=by
 refine ⟨hp,?_,by omega,by omega,h.inP⟩
 have:=Nat.mul_le_mul hl hn
 omega
theorem aQD {r c i:Nat} (hN:r*c≤1048576) (hr:r≤1048576) (hi:i<r) (F:Nat→Nat→Int):((dC r c F).drop (0+(i*c))).take ((i*c+c) - i*c)=jJ c (F i):=by
 have h:= @aLw r c i hi
 rw [Nat.succ_mul] at h
 refine List.ext_getElem (by simp [jB,fX];omega) λt h1 h2=>?_
 rw [fX] at h2
 rw [List.getElem_take,List.getElem_drop]
 simp [dC,jJ,aLZ h2,aLa h2]
theorem aGh (F:Nat→Nat→Int) (r n:Nat):gL F r n=(List.range r).map λi=>jJ n (F i):=rfl
theorem aGi (F:Nat→Nat→Int) (r n:Nat):gL F r n++[jJ n (F r)]=gL F (r+1) n:=by
 rw [aGh,aGh,List.range_succ,List.map_append];rfl
theorem aRR {n:Nat} {l:List (List Int)} (hn:n≤1024) (hl:l.length≤512) (h: ∀ v∈l,v.length=n):wZ n l=some ⟨l.length,n,dC l.length n (dD l)⟩:=by
 unfold wZ
 rw [aUx hl (λv hv=>by rw [h v hv];exact hn),Option.bind_some,aNl h]
theorem aME {p:Int} (hp:oF p=true) {n:Nat} {l:List (List Int)} (hn:n≤1024) (hl:l.length≤512) (h:VecsP p n l):aBR p n l=some ⟨n,gB p n l⟩:=by
 have T:=aOl hp hn hl h
 have hL:= @yZ p l.length (dD l) n
 have h1:=T.hN
 unfold aBR
 rw [aRR hn hl (λv hv=>(h v hv).1),Option.bind_some,aOi T,Option.bind_some]
 rw [eB (r:=gB p n l) (λk=>(gL (dB p l.length (dD l) n).1 k n,(k:Int))) (dB p l.length (dD l) n).2.length (by simp [gL]) (λk hk=>?_) (λ_=>?_),Option.bind_some]
 ·have hkl:k<l.length:=by omega
  have h3:= @aLw l.length n k hkl
  rw [Nat.succ_mul] at h3
  unfold zX
  simp only
  rw [pO,lE hk,cond_true,aLx T.hN T.hm hkl,Option.bind_some,xV T.hN hkl,aAn T.hN T.hm hkl]
  simp only [Int.toNat_natCast]
  rw [aQD T.hN T.hm hkl]
  unfold nO
  rw [fX,decide_eq_true (by omega),cond_true,Option.bind_some,vB,decide_eq_true (by omega),cond_true,aGi,cH hk (by omega)]
 ·unfold zX
  simp only
  rw [pO,oG (Nat.le_refl _),cond_false]
  rfl
theorem aQE {n:Nat} {l:List (List Int)} (hn:n≤1024) (hl:l.length≤512) (h: ∀ v∈l,v.length=n):oK n l=some ⟨l.length,n,dC l.length n (dD l)⟩:=by
 have hb: ∀ k,(l.take k).flatten.length ≤1024*512:=λk=>by
  have:=aNk (l:=l.take k) λx hx=>by rw [h x (List.mem_of_mem_take hx)];exact hn
  have h2:(l.take k).length ≤512:=by simp;omega
  omega
 unfold oK
 rw [eB (r:=l.flatten) (λk=>((l.take k).flatten,(k:Int))) l.length (by simp) (λk hk=>?_) (λ_=>?_),Option.bind_some,aNl h]
 ·unfold lQ
  simp only
  have e2:=hb (k+1)
  rw [aCI hk,List.length_append] at e2
  rw [lE hk,cond_true,eV hk,Option.bind_some,decide_eq_true (by omega),cond_true,cH hk (by omega),aCI hk]
 ·unfold lQ
  simp only
  rw [oG (Nat.le_refl _),cond_false,List.take_length]
theorem aNm {p:Int} {m n:Nat} {F:Nat→Nat→Int} (T:Tb p m n F):lX p ⟨m,n,dC m n F⟩=some (gL (dB p m F n).1 (dB p m F n).2.length n):=by
 have hL:= @yZ p m F n
 have hm:=T.hm
 have hn:=T.hn
 unfold lX
 rw [aOj T,Option.bind_some]
 rw [eB (r:=gL (dB p m F n).1 (dB p m F n).2.length n) (λk=>(gL (dB p m F n).1 k n,(k:Int))) (dB p m F n).2.length (by simp [gL]) (λk hk=>?_) (λ_=>?_),Option.bind_some]
 ·have hkl:k<m:=by omega
  have h3:= @aLw m n k hkl
  rw [Nat.succ_mul] at h3
  have h4:=T.hN
  have e:wr (wr ((k:Int)*(n:Int))+(n:Int))=((k*n+n:Nat):Int):=by rw [xV T.hN hkl,eH (by omega)];omega
  unfold kQ
  simp only
  rw [pO,lE hk,cond_true,e,xV T.hN hkl,jB,decide_eq_true (by omega),decide_eq_true (by omega:((k*n:Nat):Int)≤((k*n+n:Nat):Int)),decide_eq_true (by omega:((k*n+n:Nat):Int)≤((m*n:Nat):Int))]
  simp only [Int.toNat_natCast,Bool.and_self,cond_true,aQD T.hN T.hm hkl]
  rw [fX,decide_eq_true (by simp;omega),cond_true,vB,decide_eq_true (by omega),cond_true,List.nil_append,aGi,cH hk (by omega)]
 ·unfold kQ
  simp only
  rw [pO,oG (Nat.le_refl _),cond_false]
theorem aQF {p:Int} (hp:oF p=true) {n:Nat} {l:List (List Int)} (hn:n≤1024) (hl:l.length≤512) (h:VecsP p n l):wF p n l=some ⟨n,gB p n l⟩:=by
 unfold wF
 rw [aQE hn hl (λv hv=>(h v hv).1),Option.bind_some,aNm (aOl hp hn hl h),Option.bind_some]
 rfl
def bLs (l:List (List Int)):Prop:=l.length≤1048576∧ ∀ v∈l,bI v
theorem aRS (p:Int) (v:List Int):(oF p&&decide (v.length≤64)&&v.all λx=>rN x 0 (wr (p - 1)))=aEt p v:=by
 unfold aEt
 cases h:oF p with
 |false=>rfl
 |true=>rw [eH (by have:=iI h;omega)]
theorem aWi {α:Type} {l:List α} {P Q:α→Bool} (h: ∀ x∈l,P x=Q x):l.all P=l.all Q:=by
 induction l with
 |nil=>rfl
 |cons x l ih=>rw [List.all_cons,List.all_cons,h x (by simp),ih λy hy=>h y (by simp [hy])]
theorem aKt (p size:Int) (l:List (List Int)):aHk p size l=(oF p&&rN size 0 8&&decide (l.length≤16)&&l.all λv=>decide ((v.length:Int)=size)&&aEt p v):=rfl
theorem aIB {l:List (List Int)} {f:List Int→Option Bool} (P:List Int→Bool) (hf: ∀ x∈l,f x=some (P x)) (h:l.length≤1048576):eD l f=some (l.any P):=by
 unfold eD jY
 rw [aIm (s0:=0) (s:=0) (n:=l.length) (λk=>bif P (l[k]?.getD []) then some (k:Int) else none) rfl (by omega) (Nat.zero_le _) (λk _ hk=>?_) (λ_=>?_)]
 ·rw [Option.bind_some]
  cases e:(List.range' 0 (l.length - 0)).findSome? (λk:Nat=>bif P (l[k]?.getD []) then some (k:Int) else none) with
  |none=>
   rw [List.findSome?_eq_none_iff] at e
   have:l.any P=false:=by
    rw [List.any_eq_false]
    intro x hx
    obtain ⟨k,hk,rfl⟩:=List.mem_iff_getElem.1 hx
    have:=e k (by simp;omega)
    simp only [List.getElem?_eq_getElem hk,Option.getD_some] at this
    cases hp:P l[k] with
    |false=>simp
    |true=>rw [hp] at this;cases this
   rw [this];rfl
  |some i=>
   obtain ⟨k,hk,he⟩:=List.exists_of_findSome?_eq_some e
   simp at hk
   have hkl:k<l.length:=by omega
   rw [List.getElem?_eq_getElem hkl] at he
   simp only [Option.getD_some] at he
   cases hp:P l[k] with
   |false=>rw [hp] at he;cases he
   |true=>
    rw [hp] at he
    cases he
    have:l.any P=true:=List.any_eq_true.2 ⟨_,List.getElem_mem hkl,hp⟩
    rw [this]
    simp only [Sum.elim_inr,Option.bind_some]
    rw [decide_eq_true (by omega)]
 ·unfold fS
  rw [lE hk,cond_true,mW [] hk,Option.bind_some,hf _ (dU [] hk),Option.bind_some]
  cases P _ <;> rfl
 ·unfold fS
  rw [oG (Nat.le_refl _),cond_false]
theorem aOm (p n:Int) {l:List (List Int)} (h:bLs l):tD p n l=some (rN n 0 8&&(decide (l.length≤16)&&l.all λv=>decide ((v.length:Int)=n)&&aEt p v)):=by
 unfold tD
 rw [aBQ,Option.bind_some]
 refine iZ λ_=>?_
 rw [show decide ((l.length:Int)≤16)=decide (l.length≤16) by rw [Bool.eq_iff_iff,decide_eq_true_eq,decide_eq_true_eq];omega]
 refine iZ λ_=>?_
 rw [aIB (λv=> !(decide ((v.length:Int)=n)&&aEt p v)) (λv hv=>?_) h.1,Option.bind_some,List.not_any_eq_all_not]
 ·simp
 ·unfold oX
  cases decide ((v.length:Int)=n) with
  |false=>rfl
  |true=>rw [Bool.not_true,cond_false,aNf p (h.2 v hv),Option.bind_some,aRS,Bool.true_and]
theorem aTU {a b:List (List Int)} (h:bLs a):dY a b (λb0 b1=>jZ b0 b1)=some (decide (a=b)):=by
 obtain ⟨h,hb⟩:=h
 unfold dY
 rw [aDi]
 by_cases e:a.length=b.length
 ·rw [decide_eq_true e,Bool.not_true,cond_false]
  refine aFE (by omega) e (λk h1 h2=>?_) ?_
  ·unfold dO jZ
   simp only
   rw [lE h1,cond_true,eV h1,Option.bind_some,eV h2,Option.bind_some,aTM (hb _ (List.getElem_mem h1)),Option.bind_some,Option.bind_some]
   cases decide (a[k]=b[k]) <;> rfl
  ·unfold dO
   rw [oG (Nat.le_refl _),cond_false]
 ·rw [decide_eq_false e,Bool.not_false,cond_true,decide_eq_false (by rintro rfl;exact e rfl)]
theorem aMu {a b:Sc} (h:bLs a.basis):qM a b=some (decide (a.size=b.size)&&decide (a.basis=b.basis)):=by
 unfold qM
 refine iZ λ_=>?_
 rw [aTU h,Option.bind_some]
theorem aXl {p:Int} {n:Nat} {l:List (List Int)} (hl:l.length≤1048576) (hn:n≤1048576) (h:VecsP p n l):bLs l:=⟨hl,λv hv=>by unfold bI;rw [(h v hv).1];exact hn⟩
theorem aQG {p:Int} (hp:oF p=true) {n:Nat} {l:List (List Int)} (hn:n≤1048576) (h:VecsP p n l):bLs (gB p n l):=aXl (by have:=(@aEv p n l).1;omega) hn (aFj hp h.inP)
theorem aMv (p:Int) {s:Sc} (h:bS s):zY p s=some (sC p s.size s.basis):=by
 unfold zY sC
 rw [aFp,Option.bind_some,aOm p s.size h.1,Option.bind_some,aKt]
 cases hf:oF p with
 |false=>simp
 |true=>
  rw [Bool.not_true,cond_false]
  cases hv:(rN s.size 0 8&&(decide (s.basis.length≤16)&&s.basis.all λv=>decide ((v.length:Int)=s.size)&&aEt p v)) with
  |false=>
   have hx:(true&&rN s.size 0 8&&decide (s.basis.length≤16)&&s.basis.all λv=>decide ((v.length:Int)=s.size)&&aEt p v)=false:=by rw [Bool.true_and,Bool.and_assoc];exact hv
   rw [hx];rfl
  |true=>
   have hfine:aHk p s.size s.basis=true:=by rw [aKt,hf];simp only [Bool.true_and,Bool.and_assoc];exact hv
   obtain ⟨_,n,e,hn,hl,hv2⟩:=aEw hfine
   rw [Bool.not_true,cond_false,e,aME hf (by omega) (by omega) hv2,Option.bind_some,aMu (aQG hf (by omega) hv2),Option.bind_some]
   rw [e] at hfine
   rw [aKt,hf] at hfine
   rw [hfine]
   simp [e]
theorem aVA (p n:Int) {l:List (List Int)} (h:bLs l):rX p n l=some (aHk p n l):=by
 unfold rX
 have hall:=yX ([]:List Int) l (λv=>decide ((v.length:Int)=n)&&aEt p v)
 have hb:=h.1
 rw [aAi (λk=>decide ((((l[k]?.getD []).length:Nat):Int)=n)&&aEt p (l[k]?.getD [])) false (n:=l.length) (by omega) (λk hk=>?_) (λ_=>?_),Option.bind_some,hall,aKt]
 ·cases l.all λv=>decide ((v.length:Int)=n)&&aEt p v with
  |false=>simp
  |true=>
   simp only [cond_true,Sum.elim_inl]
   rw [aHv,Option.bind_some,xU,Option.bind_some,Bool.and_true,Bool.and_assoc]
   refine iZ λ_=>?_
   refine iZ λ_=>?_
   congr 1
   rw [Bool.eq_iff_iff,decide_eq_true_eq,decide_eq_true_eq];omega
 ·unfold lS
  rw [lE hk,cond_true,mW [] hk,Option.bind_some,Option.bind_some,aJH p (h.2 _ (dU [] hk)),Option.bind_some,aRS]
  cases decide ((((l[k]?.getD []).length:Nat):Int)=n) <;> cases aEt p (l[k]?.getD []) <;> rfl
 ·unfold lS
  rw [oG (Nat.le_refl _),cond_false]
theorem aVB {a b:List (List Int)} (h:bLs a):rY a b=some (decide (a=b)):=by
 obtain ⟨h,hb⟩:=h
 unfold rY
 rw [aDi]
 by_cases e:a.length=b.length
 ·rw [decide_eq_true e,Bool.not_true,cond_false]
  refine aFE (by omega) e (λk h1 h2=>?_) ?_
  ·have hbk:=hb _ (List.getElem_mem h1)
   unfold bI at hbk
   unfold lU
   rw [lE h1,cond_true,eV h1,Option.bind_some,eV h2,Option.bind_some,aDi]
   by_cases e2:a[k].length=b[k].length
   ·rw [decide_eq_true e2,Bool.not_true,cond_false]
    have h3:=aAi (body:=jK a b k) (λj=>decide (a[k][j]?.getD 0=b[k][j]?.getD 0)) false (n:=a[k].length) (by omega) (λj hj=>?_) ?_
    ·rw [h3,aPe e2,Option.bind_some]
     cases decide (a[k]=b[k]) <;> rfl
    ·unfold jK
     rw [eV h1,Option.bind_some,lE hj,cond_true,Option.bind_some,mW 0 hj,Option.bind_some,eV h2,Option.bind_some,mW 0 (e2▸hj),Option.bind_some]
     cases decide (a[k][j]?.getD 0=b[k][j]?.getD 0) <;> rfl
    ·intro _
     unfold jK
     rw [eV h1,Option.bind_some,oG (Nat.le_refl _),cond_false]
   ·rw [decide_eq_false e2,Bool.not_false,cond_true,decide_eq_false (λe3=>e2 (by rw [e3])),cond_false]
  ·unfold lU
   rw [oG (Nat.le_refl _),cond_false]
 ·rw [decide_eq_false e,Bool.not_false,cond_true,decide_eq_false (by rintro rfl;exact e rfl)]
theorem aBG (p:Int) {s:Sc} (h:bS s):gO p s=some (sC p s.size s.basis):=by
 unfold gO sC
 rw [aVA p s.size h.1,Option.bind_some]
 cases hf:aHk p s.size s.basis with
 |false=>rfl
 |true=>
  obtain ⟨hp,n,e,hn,hl,hv⟩:=aEw hf
  rw [Bool.not_true,cond_false,e,aQE (by omega) (by omega) (λv hv'=>(hv v hv').1),Option.bind_some,aNm (aOl hp (by omega) (by omega) hv),Option.bind_some,show gL (dB p s.basis.length (dD s.basis) n).1 (dB p s.basis.length (dD s.basis) n).2.length n=gB p n s.basis from rfl,aVB (aQG hp (by omega) hv),Option.bind_some]
  simp
end
noncomputable section
set_option maxRecDepth 10000
set_option maxHeartbeats 4000000
def qN (x1:((List Int)×Int×Int)):Option (((List Int)×Int×Int) ⊕ ((List Int)×Int)):=
 bif decide (x1.2.2<((x1.1.length:Nat):Int)) then
 ((cI x1.1 x1.2.2).bind λv2=>
 some (.inl ((x1.1.set x1.2.2.toNat x1.2.1),wr (x1.2.1+1),wr (x1.2.2+1))))
 else
 (some (.inr (x1.1,x1.2.1)))
def gQ (a0:(List Int)) (a1:Int):Option ((List Int)×Int):=
 (Lp qN (a0,a1,0)).bind λy3=>
 some (y3.1,y3.2)
theorem nJ (a0:(List Int)) (a1:Int) (r:((List Int)×Int)) (h:gQ a0 a1=some r):HasE Tryz.prog 33 [.own 0 0 a0.length,.int a1] [(0,⟨1,a0.map (ow eI)⟩)] 1 (.int r.2) [(0,⟨1,r.1.map (ow eI)⟩)]:=by
 refine sY aA (rvs:=[.tmp 4]) (ns:=fE.drop 1) Tryz.func33 k k Tryz.ntmps33 k k<|sR<|aT k2<|sQ<|sR<|aT k2<|aE<|oB h λy3 hy3 h=>bU (body:=qN) hy3 (λ(x1:((List Int)×Int×Int))=>mN [(0,.own 0 0 x1.1.length),(1,.int x1.2.1),(5,.int x1.2.2)] [(0,⟨1,x1.1.map (ow eI)⟩)] 1 1) (λr e t=>e= .exit 0∧Ent t (mN [(1,.int r.2)] [(0,⟨1,r.1.map (ow eI)⟩)] 1 1)) (bJ (bE k2) (bO k<|aR) k4) ?_ ?_
 ·intro x1 o h
  refine sQ<|sR<|am k k<|am k k<|ae (cF aA k k k k) k<|cm k4<|an<|tn ?_
  rcases cb h with ⟨q1,h⟩|⟨q1,h⟩
  ·refine aC k q1<|aI<|tn<|sQ<|aE<|sR<|am k k<|am k k<|am k k<|oB h λv2 hv2 h=>ae (bP aA (cO hv2) (cB hv2) k k k k k k k) k<|ae (gF aA nD (u:=x1.2.1) (bZ hv2) k k k k k k) k<|an<|tn<|rg<|am k k<|ae (bB k k) k<|aa k k<|an<|aU<|tn<|rg<|am k k<|ae (bB k k) k<|aT k2 ?_
   obtain rfl:=so h
   exact ⟨_,k,(bJ (gU ⟨_,k,⟨k,k,(by simp only [aQ,lA,lT,lR,lC,lN]),k⟩⟩ (bE k2)) (bO k<|aR) k4)⟩
  ·refine aD k q1<|aV<|aB<|aB ?_
   obtain rfl:=so h
   exact ⟨_,k,k,(bJ (bE k2) (bO k<|aR) k4)⟩
 ·rintro e t ⟨rfl,hent⟩
  refine aL<|tn<|aN hent<|sR<|am k k<|aT k2<|aH ?_
  obtain rfl:=so h
  exact ⟨mN [(4,.int y3.2)] [(0,⟨1,y3.1.map (ow eI)⟩)] 1 1,(bJ (bE k2) (bO k<|aR) k4),k,⟨_,k,.inl k⟩,⟨k,aR⟩⟩
def oY (x1:((List (List Int))×Int×Int)):Option (((List (List Int))×Int×Int) ⊕ ((List (List Int))×Int)):=
 bif decide (x1.2.2<((x1.1.length:Nat):Int)) then
 ((cI x1.1 x1.2.2).bind λv2=>
 (gQ v2 x1.2.1).bind λv3=>
 bif decide (v3.1.length=v2.length) then
 (some (.inl ((x1.1.set x1.2.2.toNat v3.1),v3.2,wr (x1.2.2+1))))
 else none)
 else
 (some (.inr (x1.1,x1.2.1)))
def vN (a0:(List (List Int))) (a1:Int):Option ((List (List Int))×Int):=
 (Lp oY (a0,a1,0)).bind λy5=>
 some (y5.1,y5.2)
theorem aJL (a0:(List (List Int))) (a1:Int) (r:((List (List Int))×Int)) (h:vN a0 a1=some r):HasT Tryz.prog 46 [.own 0 0 a0.length,.int a1] [(0,⟨1,a0.map (ow (dH 1 eI))⟩)] 1 (.int r.2) [(0,⟨1,r.1.map (ow (dH 1 eI))⟩)]:=by
 refine aOV aA (rvs:=[.tmp 4]) (ns:=fE.drop 1) Tryz.func46 k k Tryz.ntmps46 k k<|sS<|mY k2<|sn<|tn<|sQ<|sS<|mY k2<|sn<|tn<|aE<|oB h λy5 hy5 h=>bU (body:=oY) hy5 (λ(x1:((List (List Int))×Int×Int))=>mN [(0,.own 0 0 x1.1.length),(1,.int x1.2.1),(5,.int x1.2.2)] [(0,⟨1,x1.1.map (ow (dH 1 eI))⟩)] 1 ⟨1,true,none,true⟩) (λr e t=>e= .exit 0∧Ent t (mN [(1,.int r.2)] [(0,⟨1,r.1.map (ow (dH 1 eI))⟩)] 1 ⟨1,true,none,true⟩)) (bJ (bE k2) (cE (bN.plainO _) k<|aR) k4) ?_ ?_
 ·intro x1 o h
  refine sQ<|sS<|eT k2<|eT k2<|se (cF aA k k k k) k<|cmS k4<|sn<|tn ?_
  rcases cb h with ⟨q1,h⟩|⟨q1,h⟩
  ·refine aC k q1<|aI<|tn<|sQ<|aE<|rgS<|eT k2<|eT k2<|oB h λv2 hv2 h=>pH (t:=mN [(0,.own 0 0 x1.1.length),(1,.int x1.2.1),(5,.int x1.2.2),(6,.int x1.2.2),(7,.own 0 0 x1.1.length),(8,.int ((x1.1.length:Nat):Int)),(9,.bl (decide (x1.2.2<((x1.1.length:Nat):Int)))),(12,.own 0 0 x1.1.length),(13,.int x1.2.2)] [(0,⟨1,(x1.1.map (ow (dH 1 eI))).set x1.2.2.toNat [.abs 1 (v2.map eI)]⟩)] 1 ⟨1,true,none,true⟩) (bJ (bE k2) (hX ⟨_,k,k,.inl ⟨aPp (bZ hv2),aNb bN k⟩⟩ k<|aR) k4)<|pH (aNc (b:=0) (c:=1) (i:=x1.2.2.toNat) (j:=0) (n:=v2.length) (A:=x1.1.map (ow (dH 1 eI))) (fs:=v2.map (ow eI)) (by rw [List.length_map];exact cB hv2) k k k k (aQ _ _) (jP _ _) (aIy ⟨k,k,k,k,k,k,k,k,k,aR⟩) (aIz (skip:=[]) ⟨.inr (bN.dfS _ _ _ k),aR⟩))<|pH (t:=mN [(0,.own 0 0 x1.1.length),(1,.int x1.2.1),(5,.int x1.2.2),(6,.int x1.2.2),(7,.own 0 0 x1.1.length),(8,.int ((x1.1.length:Nat):Int)),(9,.bl (decide (x1.2.2<((x1.1.length:Nat):Int)))),(12,.own 0 0 x1.1.length),(13,.int x1.2.2)] [(0,⟨1,(x1.1.map (ow (dH 1 eI))).set x1.2.2.toNat [.own 1 0 v2.length]⟩),(1,⟨1,v2.map (ow eI)⟩)] 2 ⟨1,true,none,true⟩) (fU (σ:=sg [(0,0),(1,1)]) (bE k2) (hX ⟨_,k,k,.inr (aOT (σ:=sg [(0,0),(1,1)]) (m:=2) (e:=(dH 1 eI)) (l:=x1.1) (i:=x1.2.2.toNat) (c:=[.own 1 0 v2.length]) (d:=[.own 1 0 v2.length]) bN ⟨_,_,k,⟨k,k,k,k⟩,k⟩)⟩ k<|bO k<|aR) k)<|se (bP aA (cO hv2) (cB hv2) k k k k k k k) k<|se (bG aA k k k k (aUf (cB hv2)) k k) k<|eT k2<|oB h λv3 hv3 h=>se (gZ (σ:=sg [(0,1)]) (σ':=sg [(1,0)]) (touch:=[1]) (news:=[]) (hl2:=[(1,⟨1,v3.1.map (ow eI)⟩)]) (n':=2) (r2:= .int v3.2) (nJ v2 x1.2.1 v3 hv3) k k ⟨_,_,k,⟨k,k,k,k⟩,⟨_,_,k,k,k⟩⟩ ⟨⟨_,k,k,.inl ⟨k,cX.plainO _⟩⟩,k,aR⟩ k k k ⟨⟨_,k,k,.inl ⟨k,cX.plainO _⟩⟩,k,aR⟩ k k k ⟨k,cX.tame _ _,aR⟩ k k) k<|cG h λq4 h=>mY k2<|sn<|aU<|tn<|rgS<|eT k2<|se (bB k k) k<|mY k2<|sn<|tn ?_
   obtain rfl:=so h
   exact ⟨_,k,(Ent.trans (show Ent _ (mN [(0,.own 0 0 ((x1.1.set x1.2.2.toNat v3.1).length)),(1,.int v3.2),(5,.int (wr (x1.2.2+1)))] [(0,⟨1,List.map (ow (dH 1 eI)) (x1.1.set x1.2.2.toNat v3.1)⟩)] 2 ⟨1,true,none,true⟩) from (Ent.trans (aEx (b:=0) (b':=1) (j:=0) (es':=v3.1.map eI) (by rw [List.length_map];exact cB hv2) k k k k (by simp only [aQ,lA,lT,lR,lC,lN,of_decide_eq_true q4]) (cX.frzs _)) (bJ (gU ⟨_,k,⟨k,k,(by simp only [aQ,lA,lT,lR,lC,lN,of_decide_eq_true q4]),k⟩⟩ (bE k2)) (hX ⟨_,k,k,.inl ⟨aLi v3.1 k,bN.plainO _⟩⟩ k<|aR) k4))) (bJ (bE k2) (cE (bN.plainO _) k<|aR) k4))⟩
  ·refine aD k q1<|aV<|aB<|aB ?_
   obtain rfl:=so h
   exact ⟨_,k,k,(bJ (bE k2) (cE (bN.plainO _) k<|aR) k4)⟩
 ·rintro e t ⟨rfl,hent⟩
  refine aL<|tn<|aN hent<|sS<|eT k2<|mY k2<|sn<|tn<|aH ?_
  obtain rfl:=so h
  exact ⟨mN [(4,.int y5.2)] [(0,⟨1,y5.1.map (ow (dH 1 eI))⟩)] 1 ⟨1,true,none,true⟩,(bJ (bE k2) (cE (bN.plainO _) k<|aR) k4),k,⟨_,k,.inl k⟩,⟨k,aR⟩⟩
def tE (a0:Qv) (a1:Int):Option ((List Int)×(List Int)×Int):=
 (gQ a0.src a1).bind λv1=>
 bif decide (v1.1.length=a0.src.length) then
 ((gQ a0.tgt v1.2).bind λv3=>
 bif decide (v3.1.length=a0.tgt.length) then
 (some (v1.1,v3.1,v3.2))
 else none)
 else none
theorem aIC (a0:Qv) (a1:Int) (r:((List Int)×(List Int)×Int)) (h:tE a0 a1=some r):HasE Tryz.prog 69 [.agg [.int a0.n,.own 0 0 a0.src.length,.own 1 0 a0.tgt.length],.int a1] [(0,⟨1,a0.src.map (ow eI)⟩),(1,⟨1,a0.tgt.map (ow eI)⟩)] 2 (.int r.2.2) [(0,⟨1,r.1.map (ow eI)⟩),(1,⟨1,r.2.1.map (ow eI)⟩)]:=by
 refine sY aA (rvs:=[.tmp 4]) (ns:=fE.drop 2) Tryz.func69 k k Tryz.ntmps69 k k<|sR<|ae (cP k k k k) k<|aT k2<|sR<|fp k8<|lp k8<|am k k<|oB h λv1 hv1 h=>ae (gZ (σ:=sg [(0,0)]) (σ':=sg [(0,0)]) (touch:=[0]) (news:=[]) (hl2:=[(0,⟨1,v1.1.map (ow eI)⟩)]) (n':=3) (r2:= .int v1.2) (nJ a0.src a1 v1 hv1) k k ⟨_,_,k,⟨k,k,k,k⟩,⟨_,_,k,k,k⟩⟩ ⟨⟨_,k,k,.inl ⟨k,cX.plainO _⟩⟩,k,aR⟩ k k k ⟨⟨_,k,k,.inl ⟨k,cX.plainO _⟩⟩,k,aR⟩ k k k ⟨k,cX.tame _ _,aR⟩ k k) k<|cG h λq2 h=>aT k2<|sR<|fp k8<|lp k8<|am k k<|oB h λv3 hv3 h=>ae (gZ (σ:=sg [(0,1)]) (σ':=sg [(1,0)]) (touch:=[1]) (news:=[]) (hl2:=[(1,⟨1,v3.1.map (ow eI)⟩)]) (n':=3) (r2:= .int v3.2) (nJ a0.tgt v1.2 v3 hv3) k k ⟨_,_,k,⟨k,k,k,k⟩,⟨_,_,k,k,k⟩⟩ ⟨⟨_,k,k,.inl ⟨k,cX.plainO _⟩⟩,k,aR⟩ k k k ⟨⟨_,k,k,.inl ⟨k,cX.plainO _⟩⟩,k,aR⟩ k k k ⟨k,cX.tame _ _,aR⟩ k k) k<|cG h λq4 h=>aT k2<|sR<|am k k<|aa k k<|an ?_
 refine tn<|aH ?_
 obtain rfl:=so h
 exact ⟨mN [(4,.int v3.2)] [(0,⟨1,v1.1.map (ow eI)⟩),(1,⟨1,v3.1.map (ow eI)⟩)] 2 2,(bJ (bE k2) (bO k<|bO k<|aR) k4),k,⟨_,k,.inl k⟩,⟨k,k,aR⟩⟩
def mM (x1:((List Mt)×Int×Int)):Option (((List Mt)×Int×Int) ⊕ ((List Mt)×Int)):=
 bif decide (x1.2.2<((x1.1.length:Nat):Int)) then
 ((cI x1.1 x1.2.2).bind λv2=>
 (gQ v2.cells (wr ((wr (x1.2.1+1))+1))).bind λv3=>
 bif decide (v3.1.length=v2.cells.length) then
 (some (.inl ((x1.1.set x1.2.2.toNat (⟨x1.2.1,wr (x1.2.1+1),v3.1⟩:Mt)),v3.2,wr (x1.2.2+1))))
 else none)
 else
 (some (.inr (x1.1,x1.2.1)))
def qO (a0:(List Mt)) (a1:Int):Option ((List Mt)×Int):=
 (Lp mM (a0,a1,0)).bind λy5=>
 some (y5.1,y5.2)
theorem aHA (a0:(List Mt)) (a1:Int) (r:((List Mt)×Int)) (h:qO a0 a1=some r):HasT Tryz.prog 70 [.own 0 0 a0.length,.int a1] [(0,⟨3,a0.map (ow eM)⟩)] 1 (.int r.2) [(0,⟨3,r.1.map (ow eM)⟩)]:=by
 refine aOV aA (rvs:=[.tmp 4]) (ns:=fE.drop 1) Tryz.func70 k k Tryz.ntmps70 k k<|sS<|mY k2<|sn<|tn<|sQ<|sS<|mY k2<|sn<|tn<|aE<|oB h λy5 hy5 h=>bU (body:=mM) hy5 (λ(x1:((List Mt)×Int×Int))=>mN [(0,.own 0 0 x1.1.length),(1,.int x1.2.1),(5,.int x1.2.2)] [(0,⟨3,x1.1.map (ow eM)⟩)] 1 ⟨1,true,none,true⟩) (λr e t=>e= .exit 0∧Ent t (mN [(1,.int r.2)] [(0,⟨3,r.1.map (ow eM)⟩)] 1 ⟨1,true,none,true⟩)) (bJ (bE k2) (cE (dI.plainO _) k<|aR) k4) ?_ ?_
 ·intro x1 o h
  refine sQ<|sS<|eT k2<|eT k2<|se (cF aA k k k k) k<|cmS k4<|sn<|tn ?_
  rcases cb h with ⟨q1,h⟩|⟨q1,h⟩
  ·refine aC k q1<|aI<|tn<|sQ<|aE<|sS<|eT k2<|eT k2<|eT k2<|oB h λv2 hv2 h=>pH (t:=mN [(0,.own 0 0 x1.1.length),(1,.int x1.2.1),(5,.int x1.2.2),(6,.int x1.2.2),(7,.own 0 0 x1.1.length),(8,.int ((x1.1.length:Nat):Int)),(9,.bl (decide (x1.2.2<((x1.1.length:Nat):Int)))),(12,.own 0 0 x1.1.length),(13,.int x1.2.2),(14,.int x1.2.1)] [(0,⟨3,(x1.1.map (ow eM)).set x1.2.2.toNat [.int v2.rows,.int v2.cols,.abs 1 (v2.cells.map eI)]⟩)] 1 ⟨1,true,none,true⟩) (bJ (bE k2) (hX ⟨_,k,k,.inl ⟨aPp (bZ hv2),aNb dI k⟩⟩ k<|aR) k4)<|pH (aNc (b:=0) (c:=1) (i:=x1.2.2.toNat) (j:=2) (n:=v2.cells.length) (A:=x1.1.map (ow eM)) (fs:=v2.cells.map (ow eI)) (by rw [List.length_map];exact cB hv2) k k k k (aQ _ _) (jP _ _) (aIy ⟨k,k,k,k,k,k,k,k,k,k,aR⟩) (aIz (skip:=[]) ⟨.inr (dI.dfS _ _ _ k),aR⟩))<|pH (t:=mN [(0,.own 0 0 x1.1.length),(1,.int x1.2.1),(5,.int x1.2.2),(6,.int x1.2.2),(7,.own 0 0 x1.1.length),(8,.int ((x1.1.length:Nat):Int)),(9,.bl (decide (x1.2.2<((x1.1.length:Nat):Int)))),(12,.own 0 0 x1.1.length),(13,.int x1.2.2),(14,.int x1.2.1)] [(0,⟨3,(x1.1.map (ow eM)).set x1.2.2.toNat [.int v2.rows,.int v2.cols,.own 1 0 v2.cells.length]⟩),(1,⟨1,v2.cells.map (ow eI)⟩)] 2 ⟨1,true,none,true⟩) (fU (σ:=sg [(0,0),(1,1)]) (bE k2) (hX ⟨_,k,k,.inr (aOT (σ:=sg [(0,0),(1,1)]) (m:=2) (e:=eM) (l:=x1.1) (i:=x1.2.2.toNat) (c:=[.int v2.rows,.int v2.cols,.own 1 0 v2.cells.length]) (d:=[.int v2.rows,.int v2.cols,.own 1 0 v2.cells.length]) dI ⟨_,_,k,k,⟨_,_,k,k,⟨_,_,k,⟨k,k,k,k⟩,k⟩⟩⟩)⟩ k<|bO k<|aR) k)<|se (bP aA (cO hv2) (cB hv2) k k k k k k k) k<|fpS k8<|se (aPq aA (A:=x1.1.map (ow eM)) (by rw [List.length_map];exact cB hv2) k k k k k k k) k<|sn<|tn<|sS<|eT k2<|se (bB k k) k<|mY k2<|sn<|tn<|sS<|eT k2<|eT k2<|eT k2 ?_
   refine se (bP aA (cO hv2) (cB hv2) k k k k k k k) k<|fpS k8<|se (aPq aA (A:=x1.1.map (ow eM)) (by rw [List.length_map];exact cB hv2) k k k k k k k) k<|sn<|tn<|sS<|eT k2<|se (bB k k) k<|mY k2<|sn<|tn<|rgS<|eT k2<|eT k2<|se (bP aA (cO hv2) (cB hv2) k k k k k k k) k<|fpS k8<|se (bG aA k k k k (aUf (cB hv2)) k k) k<|eT k2<|oB h λv3 hv3 h=>se (gZ (σ:=sg [(0,1)]) (σ':=sg [(1,0)]) (touch:=[1]) (news:=[]) (hl2:=[(1,⟨1,v3.1.map (ow eI)⟩)]) (n':=2) (r2:= .int v3.2) (nJ v2.cells (wr ((wr (x1.2.1+1))+1)) v3 hv3) k k ⟨_,_,k,⟨k,k,k,k⟩,⟨_,_,k,k,k⟩⟩ ⟨⟨_,k,k,.inl ⟨k,cX.plainO _⟩⟩,k,aR⟩ k k k ⟨⟨_,k,k,.inl ⟨k,cX.plainO _⟩⟩,k,aR⟩ k k k ⟨k,cX.tame _ _,aR⟩ k k) k<|cG h λq4 h=>mY k2<|sn<|aU<|tn<|rgS<|eT k2<|se (bB k k) k<|mY k2<|sn<|tn ?_
   obtain rfl:=so h
   exact ⟨_,k,(Ent.trans (show Ent _ (mN [(0,.own 0 0 ((x1.1.set x1.2.2.toNat (⟨x1.2.1,wr (x1.2.1+1),v3.1⟩:Mt)).length)),(1,.int v3.2),(5,.int (wr (x1.2.2+1)))] [(0,⟨3,List.map (ow eM) (x1.1.set x1.2.2.toNat (⟨x1.2.1,wr (x1.2.1+1),v3.1⟩:Mt))⟩)] 2 ⟨1,true,none,true⟩) from (Ent.trans (aEx (b:=0) (b':=1) (j:=2) (es':=v3.1.map eI) (by rw [List.length_map];exact cB hv2) k k k k (by simp only [aQ,lA,lT,lR,lC,lN,of_decide_eq_true q4]) (cX.frzs _)) (bJ (gU ⟨_,k,⟨k,k,(by simp only [aQ,lA,lT,lR,lC,lN,of_decide_eq_true q4]),k⟩⟩ (bE k2)) (hX ⟨_,k,k,.inl ⟨aLi (⟨x1.2.1,wr (x1.2.1+1),v3.1⟩:Mt) k,dI.plainO _⟩⟩ k<|aR) k4))) (bJ (bE k2) (cE (dI.plainO _) k<|aR) k4))⟩
  ·refine aD k q1<|aV<|aB<|aB ?_
   obtain rfl:=so h
   exact ⟨_,k,k,(bJ (bE k2) (cE (dI.plainO _) k<|aR) k4)⟩
 ·rintro e t ⟨rfl,hent⟩
  refine aL<|tn<|aN hent<|sS<|eT k2<|mY k2<|sn<|tn<|aH ?_
  obtain rfl:=so h
  exact ⟨mN [(4,.int y5.2)] [(0,⟨3,y5.1.map (ow eM)⟩)] 1 ⟨1,true,none,true⟩,(bJ (bE k2) (cE (dI.plainO _) k<|aR) k4),k,⟨_,k,.inl k⟩,⟨k,aR⟩⟩
def zZ (a0:Rp) (a1:Int):Option ((List Int)×(List Int)×(List Int)×(List Mt)×Int):=
 (tE a0.q a1).bind λv1=>
 bif decide (v1.1.length=a0.q.src.length) then
 (bif decide (v1.2.1.length=a0.q.tgt.length) then
 ((gQ a0.dims v1.2.2).bind λv4=>
 bif decide (v4.1.length=a0.dims.length) then
 ((qO a0.maps v4.2).bind λv6=>
 bif decide (v6.1.length=a0.maps.length) then
 (some (v1.1,v1.2.1,v4.1,v6.1,v6.2))
 else none)
 else none)
 else none)
 else none
theorem aMF (a0:Rp) (a1:Int) (r:((List Int)×(List Int)×(List Int)×(List Mt)×Int)) (h:zZ a0 a1=some r):HasT Tryz.prog 19 [.agg [.int a0.p,.int a0.q.n,.own 0 0 a0.q.src.length,.own 1 0 a0.q.tgt.length,.own 2 0 a0.dims.length,.own 3 0 a0.maps.length],.int a1] [(0,⟨1,a0.q.src.map (ow eI)⟩),(1,⟨1,a0.q.tgt.map (ow eI)⟩),(2,⟨1,a0.dims.map (ow eI)⟩),(3,⟨3,a0.maps.map (ow eM)⟩)] 4 (.int r.2.2.2.2) [(0,⟨1,r.1.map (ow eI)⟩),(1,⟨1,r.2.1.map (ow eI)⟩),(2,⟨1,r.2.2.1.map (ow eI)⟩),(3,⟨3,r.2.2.2.1.map (ow eM)⟩)]:=by
 refine aOV aA (rvs:=[.tmp 4]) (ns:=fE.drop 4) Tryz.func19 k k Tryz.ntmps19 k k<|sS<|se (cP k k k k) k<|mY k2<|sn<|tn<|sS<|fpS k8<|lpS k8<|eT k2<|oB h λv1 hv1 h=>se (gZ (σ:=sg [(0,0),(1,1)]) (σ':=sg [(0,0),(1,1)]) (touch:=[0,1]) (news:=[]) (hl2:=[(0,⟨1,v1.1.map (ow eI)⟩),(1,⟨1,v1.2.1.map (ow eI)⟩)]) (n':=5) (r2:= .int v1.2.2) (aIC a0.q a1 v1 hv1) k k ⟨_,_,k,⟨_,_,k,k,⟨_,_,k,⟨k,k,k,k⟩,⟨_,_,k,⟨k,k,k,k⟩,k⟩⟩⟩,⟨_,_,k,k,k⟩⟩ ⟨⟨_,k,k,.inl ⟨k,cX.plainO _⟩⟩,k,⟨_,k,k,.inl ⟨k,cX.plainO _⟩⟩,k,aR⟩ k k k ⟨⟨_,k,k,.inl ⟨k,cX.plainO _⟩⟩,k,⟨_,k,k,.inl ⟨k,cX.plainO _⟩⟩,k,aR⟩ k k k ⟨k,cX.tame _ _,⟨k,cX.tame _ _,aR⟩⟩ k k) k<|cG h λq2 h=>cG h λq3 h=>mY k2<|sn<|tn<|sS<|fpS k8<|lpS k8<|eT k2<|oB h λv4 hv4 h=>se (gZ (σ:=sg [(0,2)]) (σ':=sg [(2,0)]) (touch:=[2]) (news:=[]) (hl2:=[(2,⟨1,v4.1.map (ow eI)⟩)]) (n':=5) (r2:= .int v4.2) (nJ a0.dims v1.2.2 v4 hv4) k k ⟨_,_,k,⟨k,k,k,k⟩,⟨_,_,k,k,k⟩⟩ ⟨⟨_,k,k,.inl ⟨k,cX.plainO _⟩⟩,k,aR⟩ k k k ⟨⟨_,k,k,.inl ⟨k,cX.plainO _⟩⟩,k,aR⟩ k k k ⟨k,cX.tame _ _,aR⟩ k k) k<|cG h λq5 h=>mY k2<|sn<|tn<|sS<|fpS k8<|lpS k8<|eT k2 ?_
 refine oB h λv6 hv6 h=>pH (t:=mN [(0,.agg (oRp a0 0 1 2 3)),(1,.int v4.2),(2,.ptr 4 0 0),(4,.int 0),(5,.ptr 4 0 1),(6,.agg (oQv a0.q 0 1)),(7,.int a1),(8,.int v1.2.2),(9,.ptr 4 0 4),(10,.own 2 0 a0.dims.length),(11,.int v1.2.2),(12,.int v4.2),(13,.ptr 4 0 5),(14,.own 3 0 a0.maps.length),(15,.int v4.2)] [(0,⟨1,v1.1.map (ow eI)⟩),(1,⟨1,v1.2.1.map (ow eI)⟩),(2,⟨1,v4.1.map (ow eI)⟩),(3,⟨3,a0.maps.map (ow eM)⟩),(4,⟨6,[oRp a0 0 1 2 3]⟩)] 5 ⟨4,true,none,true⟩) (bJ (bE k2) (bO k<|bO k<|bO k<|cE (dI.plainO _) k<|dK k<|aR) k4)<|aRL (σ:=sg [(0,3)]) (σ':=sg [(3,0)]) (touch:=[3]) (news:=[]) (hl2:=[(3,⟨3,v6.1.map (ow eM)⟩)]) (n':=5) (r2:= .int v6.2) (aHA a0.maps v4.2 v6 hv6) k k ⟨_,_,k,⟨k,k,k,k⟩,⟨_,_,k,k,k⟩⟩ ⟨⟨_,k,k,.inl ⟨k,dI.plainO _⟩⟩,k,aR⟩ k k k ⟨⟨_,k,k,.inl ⟨k,dI.plainO _⟩⟩,k,aR⟩ k k k ⟨k,dI.tame _ _,aR⟩ k k k k k (aIy ⟨k,k,k,k,k,k,k,k,k,k,k,k,k,k,k,aR⟩) (aIz (skip:=[3]) ⟨.inr (cX.df _ _),.inr (cX.df _ _),.inr (cX.df _ _),.inl (by decide),.inr (aLs k),aR⟩)<|cG h λq7 h=>mY k2<|sn<|tn<|sS<|eT k2<|mY k2<|sn<|tn<|aH ?_
 obtain rfl:=so h
 exact ⟨mN [(4,.int v6.2)] [(0,⟨1,v1.1.map (ow eI)⟩),(1,⟨1,v1.2.1.map (ow eI)⟩),(2,⟨1,v4.1.map (ow eI)⟩),(3,⟨3,v6.1.map (ow eM)⟩)] 4 ⟨4,true,none,true⟩,(bJ (bE k2) (bO k<|bO k<|bO k<|cE (dI.plainO _) k<|aR) k4),k,⟨_,k,.inl k⟩,⟨k,k,k,k,aR⟩⟩
def qP (a0:(List Int)) (x1:(Int×Int)):Option ((Int×Int) ⊕ (Int ⊕ Int)):=
 bif decide (x1.2<(a0.length:Int)) then
 ((cI a0 x1.2).bind λv2=>
 bif !decide (v2=x1.1) then
 (some (.inr (.inr ((-1)))))
 else
 (some (.inl (wr (x1.1+1),wr (x1.2+1)))))
 else
 (some (.inr (.inl x1.1)))
def xA (a0:(List Int)) (a1:Int):Option Int:=
 (Lp (qP a0) (a1,0)).bind λy4=>
 Sum.elim (λy5=>
 some (y5)
 )
 (λy6=>
 some y6
 )
 y4
theorem aKW (a0:(List Int)) (a1:Int) (r:Int) (h:xA a0 a1=some r):HasC Tryz.prog 77 [.list 1 (a0.map eI),.int a1] (.int r):=by
 refine aW aA (rvs:=[.tmp 4]) (ns:=fE) Tryz.func77 k k Tryz.ntmps77 k k k<|sR<|aT k2<|sQ<|sR<|aT k2<|aE<|oB h λy4 hy4 h=>bU (body:=(qP a0)) hy4 (λ(x1:(Int×Int))=>mN [(0,.list 1 (a0.map eI)),(1,.int x1.1),(5,.int x1.2)] [] 0) (λr e t=>Sum.elim (λa=>(λr e t=>e= .exit 0∧Ent t (mN [(1,.int r)] [] 0)) a e t) (λb=>(λr e t=>e= .ret∧qA TT [.tmp 4] (.int r) .ret t) b e t) r) (bJ (bE k2) aR k4) ?_ ?_
 ·intro x1 o h
  refine sQ<|sR<|am k k<|am k k<|ln k4<|cm k4<|an<|tn ?_
  rcases cb h with ⟨q1,h⟩|⟨q1,h⟩
  ·refine aC k q1<|aI<|tn<|sQ<|aE<|sQ<|sR<|am k k<|am k k<|oB h λv2 hv2 h=>ae (aP aA hv2 k k k k k k) k<|lr k7<|am k k<|cm k4<|an<|tn ?_
   rcases cb h with ⟨q3,h⟩|⟨q3,h⟩
   ·refine aC k q3<|sR<|aT k2<|aH<|aG<|bD<|aG<|aG ?_
    obtain rfl:=so h
    exact ⟨_,k,k,bH k k k (aAh k)⟩
   ·refine aD k q3<|aI<|tn<|rg<|am k k<|ae (bB k k) k<|aa k k<|an<|aU<|tn<|rg<|am k k<|ae (bB k k) k<|aT k2 ?_
    obtain rfl:=so h
    exact ⟨_,k,(bJ (bE k2) aR k4)⟩
  ·refine aD k q1<|aV<|aB<|aB ?_
   obtain rfl:=so h
   exact ⟨_,k,k,(bJ (bE k2) aR k4)⟩
 ·intro e t hX
  rcases y4 with y5|y6
  ·obtain ⟨rfl,hent⟩:=hX
   exact aL<|tn<|aN hent<|sR<|am k k<|aT k2<|aH<|uY h k2
  ·obtain ⟨rfl,hent⟩:=hX
   refine bD<|aG ?_
   obtain rfl:=so h
   exact hent
def oZ (a0:(List (List Int))) (x1:(Int×Int)):Option ((Int×Int) ⊕ (Int ⊕ Int)):=
 bif decide (x1.2<(a0.length:Int)) then
 ((cI a0 x1.2).bind λv2=>
 (xA v2 x1.1).bind λv3=>
 bif decide (v3<0) then
 (some (.inr (.inr ((-1)))))
 else
 (some (.inl (v3,wr (x1.2+1)))))
 else
 (some (.inr (.inl x1.1)))
def pQ (a0:(List (List Int))) (a1:Int):Option Int:=
 (Lp (oZ a0) (a1,0)).bind λy5=>
 Sum.elim (λy6=>
 some (y6)
 )
 (λy7=>
 some y7
 )
 y5
theorem aDj (a0:(List (List Int))) (a1:Int) (r:Int) (h:pQ a0 a1=some r):HasC Tryz.prog 47 [.list 1 (a0.map (dH 1 eI)),.int a1] (.int r):=by
 refine aW aA (rvs:=[.tmp 4]) (ns:=fE) Tryz.func47 k k Tryz.ntmps47 k k k<|sR<|aT k2<|sQ<|sR<|aT k2<|aE<|oB h λy5 hy5 h=>bU (body:=(oZ a0)) hy5 (λ(x1:(Int×Int))=>mN [(0,.list 1 (a0.map (dH 1 eI))),(1,.int x1.1),(5,.int x1.2)] [] 0) (λr e t=>Sum.elim (λa=>(λr e t=>e= .exit 0∧Ent t (mN [(1,.int r)] [] 0)) a e t) (λb=>(λr e t=>e= .ret∧qA TT [.tmp 4] (.int r) .ret t) b e t) r) (bJ (bE k2) aR k4) ?_ ?_
 ·intro x1 o h
  refine sQ<|sR<|am k k<|am k k<|ln k4<|cm k4<|an<|tn ?_
  rcases cb h with ⟨q1,h⟩|⟨q1,h⟩
  ·refine aC k q1<|aI<|tn<|sQ<|aE<|sR<|am k k<|am k k<|oB h λv2 hv2 h=>ae (aP aA hv2 k k k k k k) k<|lr k7<|am k k<|oB h λv3 hv3 h=>ae (aO (aKW v2 x1.1 v3 hv3) k (bX k (bX k aM))) k<|aT k2<|sR<|am k k<|cm k4<|an<|tn ?_
   rcases cb h with ⟨q4,h⟩|⟨q4,h⟩
   ·refine aC k q4<|sR<|aT k2<|aH<|bD<|aG<|aG ?_
    obtain rfl:=so h
    exact ⟨_,k,k,bH k k k (aAh k)⟩
   ·refine aD k q4<|aI<|aU<|tn<|rg<|am k k<|ae (bB k k) k<|aT k2 ?_
    obtain rfl:=so h
    exact ⟨_,k,(bJ (bE k2) aR k4)⟩
  ·refine aD k q1<|aV<|aB<|aB ?_
   obtain rfl:=so h
   exact ⟨_,k,k,(bJ (bE k2) aR k4)⟩
 ·intro e t hX
  rcases y5 with y6|y7
  ·obtain ⟨rfl,hent⟩:=hX
   exact aL<|tn<|aN hent<|sR<|am k k<|aT k2<|aH<|uY h k2
  ·obtain ⟨rfl,hent⟩:=hX
   refine bD<|aG ?_
   obtain rfl:=so h
   exact hent
end
noncomputable section
def nvS {α:Type} (nv:α→Nat):List α→Nat
 | []=>0
 |x::l=>nv x+nvS nv l
def mvS {α:Type} (mv:Int→α→α) (nv:α→Nat):Int→List α→List α
 |_,[]=>[]
 |k,x::l=>mv k x::mvS mv nv (k+nv x) l
section
variable {α:Type} {mv:Int→α→α} {nv:α→Nat}
theorem aAA: ∀ (l:List α) (k:Int),(mvS mv nv k l).length=l.length
 | [],_=>rfl
 |x::l,k=>by simp [mvS,aAA l]
theorem aOn: ∀ (l m:List α),nvS nv (l++m)=nvS nv l+nvS nv m
 | [],m=>by simp [nvS]
 |x::l,m=>by simp [nvS,aOn l m];omega
theorem aOo: ∀ (l m:List α) (k:Int),mvS mv nv k (l++m)=mvS mv nv k l++mvS mv nv (k+nvS nv l) m
 | [],m,k=>by simp [mvS,nvS]
 |x::l,m,k=>by
  simp only [List.cons_append,mvS,nvS,aOo l m]
  rw [show k+((nv x+nvS nv l:Nat):Int)=k+(nv x:Int)+(nvS nv l:Int) by omega]
theorem aID {l:List α} {i:Nat} (hi:i<l.length):nvS nv (l.take (i+1))=nvS nv (l.take i)+nv l[i]:=by
 rw [List.take_succ_eq_append_getElem hi,aOn];simp [nvS]
theorem aJz (l:List α) (i:Nat):nvS nv (l.take i)≤nvS nv l:=by
 have h:nvS nv (l.take i++l.drop i)=nvS nv l:=by rw [List.take_append_drop]
 rw [aOn] at h;omega
theorem aRT {c:Nat} : ∀ {l:List α},(∀ x∈l,nv x≤c)→nvS nv l≤c*l.length
 | [],_=>by simp [nvS]
 |x::l,h=>by
  have h1:=h x (by simp)
  have h2:=aRT (l:=l) λy hy=>h y (by simp [hy])
  simp only [nvS,List.length_cons,Nat.mul_add,Nat.mul_one];omega
theorem aSV {l:List α} {k:Int} {i:Nat} (hi:i<l.length):(mvS mv nv k l)[i]? =some (mv (k+nvS nv (l.take i)) l[i]):=by
 have e:l=l.take i++l[i]::l.drop (i+1):=by rw [←List.drop_eq_getElem_cons hi,List.take_append_drop]
 have e2:mvS mv nv k l=mvS mv nv k (l.take i)++mvS mv nv (k+nvS nv (l.take i)) (l[i]::l.drop (i+1)):=by rw [←aOo,←e]
 rw [e2,List.getElem?_append_right (by rw [aAA];simp;omega),aAA]
 simp [mvS,Nat.min_eq_left (Nat.le_of_lt hi)]
theorem aJM {l:List α} {k0:Int} {body:List α×Int×Int→Option ((List α×Int×Int) ⊕ (List α×Int))} (h0:0≤k0) (hk:k0+nvS nv l≤4611686018427387904) (hl:l.length≤4611686018427387904)
  (hs: ∀ (r:List α) (i:Nat) (k:Int) (hi:i<r.length),r[i]∈l→0≤k→k+nv r[i]≤4611686018427387904→body (r,k,i)=some (.inl (r.set i (mv k r[i]),k+nv r[i],wr (i+1)))) (he: ∀ r k,body (r,k,(r.length:Int))=some (.inr (r,k))):
  Lp body (l,k0,0)=some (mvS mv nv k0 l,k0+nvS nv l):=by
 rw [eB (r:=(mvS mv nv k0 l,k0+nvS nv l)) (λi=>(mvS mv nv k0 (l.take i)++l.drop i,k0+nvS nv (l.take i),(i:Int))) l.length (by simp [mvS,nvS]) (λi hi=>?_) (λ_=>?_)]
 ·have hm:(mvS mv nv k0 (l.take i)).length=i:=by rw [aAA];simp;omega
  have hg:(mvS mv nv k0 (l.take i)++l.drop i)[i]'(by simp [aAA];omega)=l[i]:=by
   rw [List.getElem_append_right (by omega)]
   simp [hm]
  have hb:=aJz (nv:=nv) l (i+1)
  rw [aID hi] at hb
  rw [hs _ i _ (by simp [aAA];omega) (by rw [hg];exact List.getElem_mem hi) (by omega) (by rw [hg];omega),hg,cH hi hl]
  congr 2
  refine Prod.ext ?_ (Prod.ext ?_ rfl)
  ·simp only
   rw [List.set_append_right _ _ (by omega),hm,Nat.sub_self,List.drop_eq_getElem_cons hi,List.set_cons_zero,List.take_succ_eq_append_getElem hi,aOo]
   simp [mvS]
  ·simp only
   rw [aID hi];omega
 ·have:=he (mvS mv nv k0 (l.take l.length)++l.drop l.length) (k0+nvS nv (l.take l.length))
  simp only [List.take_length,List.drop_length,List.append_nil,aAA] at this ⊢
  exact this
theorem aNn {l:List α} {k0:Int} {body:Int×Int→Option ((Int×Int) ⊕ (Int ⊕ Int))} (h0:0≤k0) (hk:k0+nvS nv l≤4611686018427387904) (hl:l.length≤4611686018427387904)
  (hs: ∀ (i:Nat) (hi:i<l.length) (k:Int),k=k0+nvS nv (l.take i)→0≤k→k+nv l[i]≤4611686018427387904→body (k,i)=some (.inl (k+nv l[i],wr (i+1)))) (he: ∀ k,body (k,(l.length:Int))=some (.inr (.inl k))):
  Lp body (k0,0)=some (.inl (k0+nvS nv l)):=by
 rw [eB (r:=Sum.inl (k0+nvS nv l)) (λi=>(k0+nvS nv (l.take i),(i:Int))) l.length (by simp [nvS]) (λi hi=>?_) (λ_=>?_)]
 ·have hb:=aJz (nv:=nv) l (i+1)
  rw [aID hi] at hb
  rw [hs i hi _ rfl (by omega) (by omega),cH hi hl,aID hi]
  congr 3
  omega
 ·rw [he];simp
end
def nI (l:List Int):Nat:=nvS (λ_=>1) l
def mvI:Int→List Int→List Int:=mvS (λk _=>k) (λ_=>1)
theorem aEH: ∀ l:List Int,nI l=l.length
 | []=>rfl
 |x::l=>by have:=aEH l;simp only [nI] at this;simp only [nI,nvS,List.length_cons];omega
theorem aAB (k:Int) (l:List Int):(mvI k l).length=l.length:=aAA l k
theorem aYm {k:Int} {n:Nat} (h:0≤k):decide (k+(n:Int)<0)=false:=decide_eq_false (by omega)
theorem aTW {l:List Int} {k:Int} (h0:0≤k) (hk:k+nI l≤4611686018427387904):gQ l k=some (mvI k l,k+nI l):=by
 have hl:=aEH l
 unfold gQ
 rw [aJM (mv:=λk _=>k) (nv:=λ_=>1) h0 hk (by omega) (λr i k hi _ g0 g1=>?_) (λr k=>?_),Option.bind_some]
 ·rfl
 ·unfold qN
  simp only
  rw [lE hi,cond_true,eV hi,Option.bind_some,Int.toNat_natCast,eH (x:=k+1) (by omega)]
  simp
 ·unfold qN
  simp only
  rw [oG (Nat.le_refl _),cond_false]
theorem aZd {l:List Int} {k:Int} (h0:0≤k) (hk:k+nI l≤4611686018427387904):xA (mvI k l) k=some (k+nI l):=by
 have hl:=aEH l
 have hm:=aAB k l
 unfold xA
 rw [aNn (l:=l) (nv:=λ_=>1) h0 hk (by omega) (λi hi k' e g0 g1=>?_) (λk'=>?_),Option.bind_some]
 ·rfl
 ·unfold qP
  simp only
  have hg:(mvI k l)[i]? =some k':=by unfold mvI;rw [aSV hi,e]
  rw [hm,lE hi,cond_true,eV (by omega),Option.bind_some]
  have hg':(mvI k l)[i]'(by omega)=k':=by rw [List.getElem?_eq_getElem (by omega)] at hg;exact Option.some.inj hg
  rw [hg',decide_eq_true rfl,Bool.not_true,cond_false,eH (x:=k'+1) (by omega)]
  simp
 ·unfold qP
  simp only
  rw [hm,oG (Nat.le_refl _),cond_false]
def nIS:List (List Int)→Nat:=nvS nI
def aVC:Int→List (List Int)→List (List Int):=mvS mvI nI
theorem aXm {α:Type} {l:List α} {i:Nat} {v:α} (h:l[i]? =some v) (hi:i<l.length):l[i]=v:=by rw [List.getElem?_eq_getElem hi] at h;exact Option.some.inj h
theorem aYn {l:List (List Int)} {k:Int} (h0:0≤k) (hk:k+nIS l≤4611686018427387904) (hl:l.length≤4611686018427387904):vN l k=some (aVC k l,k+nIS l):=by
 unfold vN
 rw [aJM (mv:=mvI) (nv:=nI) h0 hk hl (λr i k hi _ g0 g1=>?_) (λr k=>?_),Option.bind_some]
 ·rfl
 ·unfold oY
  simp only
  rw [lE hi,cond_true,eV hi,Option.bind_some,aTW g0 g1,Option.bind_some,Int.toNat_natCast,aAB,decide_eq_true rfl,cond_true]
 ·unfold oY
  simp only
  rw [oG (Nat.le_refl _),cond_false]
theorem aYo {l:List (List Int)} {k:Int} (h0:0≤k) (hk:k+nIS l≤4611686018427387904) (hl:l.length≤4611686018427387904):pQ (aVC k l) k=some (k+nIS l):=by
 have hm:(aVC k l).length=l.length:=aAA l k
 unfold pQ
 rw [aNn (l:=l) (nv:=nI) h0 hk hl (λi hi k' e g0 g1=>?_) (λk'=>?_),Option.bind_some]
 ·rfl
 ·unfold oZ
  simp only
  rw [hm,lE hi,cond_true,eV (by omega),Option.bind_some,aXm (v:=mvI k' l[i]) (by unfold aVC;rw [aSV hi,e]) (by omega),aZd g0 g1,Option.bind_some,aYm g0,cond_false]
 ·unfold oZ
  simp only
  rw [hm,oG (Nat.le_refl _),cond_false]
theorem aVD (k:Int) (l:List (List Int)):(aVC k l).length=l.length:=aAA l k
def nQ (q:Qv):Nat:=nI q.src+nI q.tgt
def mvQ (k:Int) (q:Qv):Qv:=⟨q.n,mvI k q.src,mvI (k+nI q.src) q.tgt⟩
theorem aZe {q:Qv} {k:Int} (h0:0≤k) (hk:k+nQ q≤4611686018427387904):tE q k=some ((mvQ k q).src,(mvQ k q).tgt,k+nQ q):=by
 unfold nQ at hk
 unfold tE
 rw [aTW h0 (by omega),Option.bind_some,aAB,decide_eq_true rfl,cond_true,aTW (by omega) (by omega),Option.bind_some,aAB,decide_eq_true rfl,cond_true]
 unfold mvQ nQ
 congr 3
 omega
def nMe (m:Mt):Nat:=2+nI m.cells
def aXn (k:Int) (m:Mt):Mt:=⟨k,k+1,mvI (k+2) m.cells⟩
def nMs:List Mt→Nat:=nvS nMe
def aXo:Int→List Mt→List Mt:=mvS aXn nMe
theorem aQH (k:Int) (l:List Mt):(aXo k l).length=l.length:=aAA l k
theorem aYr {l:List Mt} {k:Int} (h0:0≤k) (hk:k+nMs l≤4611686018427387904) (hl:l.length≤4611686018427387904):qO l k=some (aXo k l,k+nMs l):=by
 unfold qO
 rw [aJM (mv:=aXn) (nv:=nMe) h0 hk hl (λr i k hi hm g0 g1=>?_) (λr k=>?_),Option.bind_some]
 ·rfl
 ·unfold nMe at g1
  unfold mM
  simp only
  rw [lE hi,cond_true,eV hi,Option.bind_some,eH (x:=k+1) (by omega),eH (x:=k+1+1) (by omega),show k+1+1=k+2 by omega,aTW (by omega) (by omega),Option.bind_some,aAB,decide_eq_true rfl,cond_true,Int.toNat_natCast]
  unfold aXn nMe
  congr 4
  omega
 ·unfold mM
  simp only
  rw [oG (Nat.le_refl _),cond_false]
def nR (r:Rp):Nat:=nQ r.q+nI r.dims+nMs r.maps
def mvR (k:Int) (r:Rp):Rp:=⟨r.p,mvQ k r.q,mvI (k+nQ r.q) r.dims,aXo (k+nQ r.q+nI r.dims) r.maps⟩
theorem aZf {r:Rp} {k:Int} (h0:0≤k) (hk:k+nR r≤4611686018427387904) (hl:r.maps.length≤4611686018427387904):zZ r k=some ((mvR k r).q.src,(mvR k r).q.tgt,(mvR k r).dims,(mvR k r).maps,k+nR r):=by
 unfold nR at hk
 unfold zZ
 rw [aZe h0 (by omega),Option.bind_some]
 simp only [mvQ,aAB,decide_true,cond_true]
 rw [aTW (by omega) (by omega),Option.bind_some]
 simp only [aAB,decide_true,cond_true]
 rw [aYr (by omega) (by omega) hl,Option.bind_some]
 simp only [aQH,decide_true,cond_true]
 unfold mvR nR
 congr 5
 omega
theorem aWk (k:Int) (r:Rp):(mvR k r).q.src.length=r.q.src.length∧(mvR k r).q.tgt.length=r.q.tgt.length∧(mvR k r).dims.length=r.dims.length∧(mvR k r).maps.length=r.maps.length:=⟨aAB _ _,aAB _ _,aAB _ _,aQH _ _⟩
theorem aXp {l:List Mt} (h:l.length≤1048576∧ ∀ m∈l,bM m):nMs l≤2097152*1048576:=by
 have:=aRT (nv:=nMe) (c:=2097152) (l:=l) λm hm=>by have:=(h.2 m hm).1;unfold bI at this;unfold nMe;rw [aEH];omega
 unfold nMs
 calc nvS nMe l≤2097152*l.length:=this
  _≤2097152*1048576:=Nat.mul_le_mul_left _ h.1
theorem aYs {r:Rp} (h:bR r):nR r≤4398046511104:=by
 obtain ⟨⟨h1,h2,_⟩,h3,h4,_⟩:=h
 have:=aXp h4
 unfold bI at h1 h2 h3
 unfold nR nQ
 rw [aEH,aEH,aEH]
 omega
theorem aXq {l:List (List Int)} (h:l.length≤1048576∧ ∀ v∈l,bI v):nIS l≤1048576*1048576:=by
 have:=aRT (nv:=nI) (c:=1048576) (l:=l) λm hm=>by have:=h.2 m hm;unfold bI at this;rw [aEH];exact this
 unfold nIS
 calc nvS nI l≤1048576*l.length:=this
  _≤1048576*1048576:=Nat.mul_le_mul_left _ h.1
end
noncomputable section
set_option maxRecDepth 10000
set_option maxHeartbeats 4000000
end
noncomputable section
theorem aVE {r c k:Nat} (hN:r*c≤1048576) (hr:r≤1048576) (hk:k<c) (F:Nat→Nat→Int):nV ⟨r,c,dC r c F⟩ k=some (jJ r λi=>F i k):=by
 unfold nV
 simp only
 rw [decide_eq_true (by omega),decide_eq_true (by omega:(r:Int)≤1048576),Bool.and_self,cond_true]
 rw [eB (r:=jJ r λi=>F i k) (λt=>(jJ r (λi=>if i<t then F i k else 0),(t:Int))) r (by simp [aTT]) (λt ht=>?_) (λ_=>?_),Option.bind_some]
 ·unfold kP
  simp only [List.length_replicate,Int.toNat_natCast]
  rw [lE ht,cond_true,atT hN ht hk,Option.bind_some,aHy _ ht,Option.bind_some,aUw ht,cH ht (by omega)]
  congr 3
  refine aMC λb hb=>?_
  by_cases e:b=t
  ·rw [if_pos e,if_pos (by omega),e]
  ·rw [if_neg e]
   by_cases e2:b<t
   ·rw [if_pos e2,if_pos (by omega)]
   ·rw [if_neg e2,if_neg (by omega)]
 ·unfold kP
  simp only [List.length_replicate,Int.toNat_natCast]
  rw [oG (Nat.le_refl _),cond_false]
  congr 2
  exact aMC λb hb=>by rw [if_pos hb]
theorem aVF {p:Int} (hp:oF p=true) {n:Nat} {l l':List (List Int)} (h:InP p l.length n (dD l)) (h':InP p l'.length n (dD l')) (hK: ∀ x,Kr p l.length n (dD l) x↔Kr p l'.length n (dD l') x):gB p n l=gB p n l':=by
 obtain ⟨e1,e2⟩:=aOS hp h h' hK
 unfold gB
 rw [←e1]
 exact aEu e2
theorem aXO {p:Int} {f:Nat→Int} : ∀ {n:Nat},(∀ k,k<n→Z0 p (f k))→Z0 p (sN f n)
 |0,_=>by unfold Z0;simp [sN]
 |n+1,h=>aRA (aXO λk hk=>h k (by omega)) (h n (by omega))
end
noncomputable section
theorem aVG {k:Nat} {f:Nat→Nat} (hlt: ∀ t,t<k→f t<k) (hinc: ∀ s t,s<t→t<k→f s<f t): ∀ t,t<k→f t=t:=by
 have h1: ∀ t,t<k→t≤f t:=by
  intro t
  induction t with
  |zero=>intro _;exact Nat.zero_le _
  |succ t ih=>intro h;have:=ih (by omega);have:=hinc t (t+1) (by omega) h;omega
 have h2: ∀ d t,t+d+1=k→f t≤t:=by
  intro d
  induction d with
  |zero=>intro t h;have:=hlt t (by omega);omega
  |succ d ih=>intro t h;have:=ih (t+1) (by omega);have:=hinc t (t+1) (by omega) (by omega);omega
 intro t ht
 have:=h1 t ht
 have:=h2 (k - t - 1) t (by omega)
 omega
theorem aRU {L M:List Nat} (hL: ∀ i k,i<k→k<L.length→L[i]?.getD 0<L[k]?.getD 0) (hM: ∀ i k,i<k→k<M.length→M[i]?.getD 0<M[k]?.getD 0) (hs: ∀ t,t<M.length→ ∃ i,i<L.length∧L[i]?.getD 0=M[t]?.getD 0) (hl:L.length=M.length):L=M:=by
 have hs': ∀ t:Nat,∃ i,t<M.length→i<L.length∧L[i]?.getD 0=M[t]?.getD 0:=λt=>by
  by_cases h:t<M.length
  ·obtain ⟨i,hi⟩:=hs t h;exact ⟨i,λ_=>hi⟩
  ·exact ⟨0,λh'=>absurd h' h⟩
 obtain ⟨f,hf⟩:=Classical.axiomOfChoice hs'
 have e:=aVG (k:=M.length) (f:=f) (λt ht=>hl▸(hf t ht).1) (λs t hst ht=>by
  rcases Nat.lt_trichotomy (f s) (f t) with h|h|h
  ·exact h
  ·have a:=(hf s (by omega)).2;have b:=(hf t ht).2;have c:=hM s t hst ht;rw [h,b] at a;omega
  ·have a:=(hf s (by omega)).2;have b:=(hf t ht).2;have c:=hM s t hst ht
   have:=hL (f t) (f s) h (hf s (by omega)).1
   omega)
 refine List.ext_getElem hl λi h1 h2=>?_
 have:=(hf i h2).2
 rw [e i h2] at this
 simpa [h1,h2] using this
theorem aVH {p:Int} (hp:oF p=true) {m m' n:Nat} {F G:Nat→Nat→Int} {L M:List Nat} (hF:Red m n F L) (hG:Red m' n G M) (iF:InP p m n F) (iG:InP p m' n G) (hK: ∀ x,Kr p m n F x→Kr p m' n G x) (hl:L.length=M.length):L=M∧ ∀ i j,i<L.length→j<n→F i j=G i j:=by
 have e:L=M:=aRU hF.inc hG.inc (λt ht=>aOR hp hF hG hK ht) hl
 subst e
 refine ⟨rfl,λi k hi hk=>?_⟩
 have hm:=hF.len
 have hm':=hG.len
 by_cases hL: ∃ t,t<L.length∧L[t]?.getD 0=k
 ·obtain ⟨t,ht,rfl⟩:=hL
  by_cases e:i=t
  ·subst e;rw [hF.one i hi,hG.one i hi]
  ·rw [hF.col t i ht (by omega) e,hG.col t i ht (by omega) e]
 ·have hL: ∀ t,t<L.length→L[t]?.getD 0≠k:=λt ht e=>hL ⟨t,ht,e⟩
  have h1:=hK _ (aOQ (p:=p) hF hk hL) i (by omega)
  rw [aPh hF hk hL,aIp (j:=i) hi (λt ht hti=>by rw [hG.col t i ht (by omega) (λe=>hti e.symm)];simp),hG.one i hi,Int.one_mul] at h1
  unfold Z0 at h1
  have b1:=iF i k (by omega) hk
  have b2:=iG i k (by omega) hk
  have e1:G i k % p=F i k % p:=by
   have:=Int.emod_emod_of_dvd
   exact Int.emod_eq_emod_iff_emod_sub_eq_zero.2 h1
  rw [Int.emod_eq_of_lt b2.1 b2.2,Int.emod_eq_of_lt b1.1 b1.2] at e1
  exact e1.symm
theorem aNo {p:Int} {n:Nat} {l:List (List Int)} (hp:oF p=true) (hv:VecsP p n l) (hs:gB p n l=l): ∃ L,L.length=l.length∧Red l.length n (dD l) L:=by
 have hi:=hv.inP
 have hr:=aIo hp hi n (Nat.le_refl _)
 have hlen:(dB p l.length (dD l) n).2.length=l.length:=by
  have:=congrArg List.length hs
  unfold gB at this
  rw [vB] at this
  exact this
 have hrow: ∀ i j,i<l.length→j<n→(dB p l.length (dD l) n).1 i j=dD l i j:=by
  intro i j hi hj
  have:=aLd (dB p l.length (dD l) n).1 (dB p l.length (dD l) n).2.length n i j (by omega) hj
  unfold gB at hs
  rw [hs] at this
  exact this.symm
 refine ⟨_,hlen,⟨hr.lt,hr.inc,by omega,λi h=>?_,λi k h hk hne=>?_,λi j h h2 hj=>?_,λi j h hj=>?_⟩⟩
 ·rw [←hrow i _ (by omega) (hr.lt i h)];exact hr.one i h
 ·rw [←hrow k _ hk (hr.lt i h)];exact hr.col i k h hk hne
 ·omega
 ·rw [←hrow i j (by omega) (by have:=hr.lt i h;omega)];exact hr.left i j h hj
def rsF (p:Int) (B:Nat→Nat→Int) (L:List Nat) (v:Nat→Int):Nat→Nat→Int
 |0=>v
 |t+1=>λj=>(rsF p B L v t j+(p - rsF p B L v t (L[t]?.getD 0))*B t j) % p
theorem aVI {p:Int} (hp:oF p=true) {B:Nat→Nat→Int} {L:List Nat} {v:Nat→Int} {n:Nat} (hv: ∀ j,j<n→0≤v j∧v j<p): ∀ t j,j<n→0≤rsF p B L v t j∧rsF p B L v t j<p
 |0,j,h=>hv j h
 |t+1,j,_=>aBy hp
theorem aOp {p:Int} (hp:oF p=true) {m n:Nat} {B:Nat→Nat→Int} {L:List Nat} (h:Red m n B L) {v:Nat→Int} : ∀ t,t≤L.length→ ∀ s,s<t→rsF p B L v t (L[s]?.getD 0)=0
 |0,_,s,hs=>absurd hs (Nat.not_lt_zero _)
 |t+1,ht,s,hs=>by
  have hm:=h.len
  simp only [rsF]
  by_cases e:s=t
  ·subst e
   rw [h.one s (by omega),Int.mul_one,show rsF p B L v s (L[s]?.getD 0)+(p - rsF p B L v s (L[s]?.getD 0))=p by omega,Int.emod_self]
  ·rw [h.col s t (by omega) (by omega) (λe'=>e e'.symm),aOp hp h t (by omega) s (by omega)]
   simp
theorem aRV {p:Int} (hp:oF p=true) {m n:Nat} {B:Nat→Nat→Int} {L:List Nat} (hL:L.length≤m) {v x:Nat→Int} (hx:Kr p m n B x): ∀ t,t≤L.length→dt n (rsF p B L v t) x % p=dt n v x % p
 |0,_=>rfl
 |t+1,ht=>by
  have ih:=aRV hp hL (v:=v) hx t (by omega)
  have h1:=hx t (by omega)
  rw [←ih]
  simp only [rsF]
  rw [aOP (g:=λj=>rsF p B L v t j+(p - rsF p B L v t (L[t]?.getD 0))*B t j) (λk _=>by rw [Int.emod_emod_of_dvd _ (Int.dvd_refl p)]),aUY]
  have h2:=aIq (p - rsF p B L v t (L[t]?.getD 0)) h1
  unfold Z0 at h2
  rw [Int.add_emod,h2]
  simp
theorem aVJ {p:Int} (hp:oF p=true) {m n:Nat} {B:Nat→Nat→Int} {L:List Nat} (h:Red m n B L) {v:Nat→Int} (hv: ∀ j,j<n→0≤v j∧v j<p):(∀ j,j<n→rsF p B L v L.length j=0)↔ ∀ x,Kr p m n B x→Z0 p (dt n v x):=by
 constructor
 ·intro hz x hx
  have:=aRV hp h.len (v:=v) hx L.length (Nat.le_refl _)
  unfold Z0
  rw [←this]
  have e:dt n (rsF p B L v L.length) x=0:=by
   unfold dt
   rw [uF (g:=λ_=>0) (λk hk=>by rw [hz k hk];simp),aEA]
  rw [e]
  simp
 ·intro hz k hk
  by_cases hL: ∃ t,t<L.length∧L[t]?.getD 0=k
  ·obtain ⟨t,ht,rfl⟩:=hL
   exact aOp hp h L.length (Nat.le_refl _) t ht
  ·have hL: ∀ t,t<L.length→L[t]?.getD 0≠k:=λt ht e=>hL ⟨t,ht,e⟩
   have hx:=aOQ (p:=p) h hk hL
   have h1:=hz _ hx
   unfold Z0 at h1
   rw [←aRV hp h.len (v:=v) hx L.length (Nat.le_refl _),aPh h hk hL,uF (g:=λ_=>0) (λi hi=>by rw [aOp hp h L.length (Nat.le_refl _) i hi];simp),aEA,Int.sub_zero] at h1
   have b:=aVI hp (B:=B) (L:=L) hv L.length k hk
   rw [Int.emod_eq_of_lt b.1 b.2] at h1
   exact h1
theorem aFr {p:Int} {n:Nat} {a b:List (List Int)} {x:Nat→Int} :Kr p (a++b).length n (dD (a++b)) x↔Kr p a.length n (dD a) x∧Kr p b.length n (dD b) x:=by
 have e1: ∀ i,i<a.length→dD (a++b) i=dD a i:=λi hi=>by funext j;simp only [dD];rw [List.getElem?_append_left hi]
 have e2: ∀ i,dD (a++b) (a.length+i)=dD b i:=λi=>by funext j;simp only [dD];rw [List.getElem?_append_right (by omega),Nat.add_sub_cancel_left]
 unfold Kr
 rw [List.length_append]
 refine ⟨λh=>⟨λi hi=>e1 i hi▸h i (by omega),λi hi=>e2 i▸h (a.length+i) (by omega)⟩,λh i hi=>?_⟩
 rcases Nat.lt_or_ge i a.length with h'|h'
 ·rw [e1 i h'];exact h.1 i h'
 ·have:=h.2 (i - a.length) (by omega)
  rw [←e2,show a.length+(i - a.length)=i by omega] at this
  exact this
theorem aCX {p:Int} (hp:oF p=true) {n:Nat} {a b:List (List Int)} (ha:VecsP p n a) (hb:VecsP p n b) (hs:gB p n b=b):(aMk p n a b).length=b.length↔ ∀ x,Kr p b.length n (dD b) x→Kr p a.length n (dD a) x:=by
 have hi:=(ha.append hb).inP
 constructor
 ·intro hl x hx
  obtain ⟨L,hLl,hR⟩:=aNo hp hb hs
  have hr:=aIo hp hi n (Nat.le_refl _)
  have hb':=iI hp
  have hlen:(dB p (a++b).length (dD (a++b)) n).2.length=L.length:=by
   unfold aMk gB at hl
   rw [vB] at hl
   omega
  obtain ⟨_,h2⟩:=aVH hp hr hR (wC (by omega) hi n) hb.inP (λx hx=>(aFr.1 ((aHl hp hi x n (Nat.le_refl _)).1 hx)).2) hlen
  refine (aFr.1 ((aHl hp hi x n (Nat.le_refl _)).1 λi hi'=>?_)).1
  rcases Nat.lt_or_ge i (dB p (a++b).length (dD (a++b)) n).2.length with h'|h'
  ·have e:dt n ((dB p (a++b).length (dD (a++b)) n).1 i) x=dt n (dD b i) x:=uF λk hk=>by rw [h2 i k h' hk]
   rw [e]
   exact hx i (by omega)
  ·have e:dt n ((dB p (a++b).length (dD (a++b)) n).1 i) x=0:=by
    unfold dt
    rw [uF (g:=λ_=>0) (λk hk=>by rw [hr.low i k h' hi' hk];simp),aEA]
   rw [e]
   unfold Z0
   simp
 ·intro hK
  unfold aMk
  rw [aVF hp hi hb.inP λx=>⟨λh=>(aFr.1 h).2,λh=>aFr.2 ⟨hK x h,h⟩⟩,hs]
end
noncomputable section
def sV (r:Rp) (i:Nat):Nat:=(r.q.src[i]?.getD 0).toNat
def tV (r:Rp) (i:Nat):Nat:=(r.q.tgt[i]?.getD 0).toNat
def aF (r:Rp) (i:Nat):Nat→Nat→Int:=λj k=>(r.maps[i]?.getD ⟨0,0,[]⟩).cells[j*dN r (sV r i)+k]?.getD 0
structure Rv (r:Rp):Prop where
 hp:oF r.p=true
 n5:r.dims.length≤5
 d: ∀ k,k<r.dims.length→r.dims[k]?.getD 0=(dN r k:Int)∧dN r k≤4
 e6:r.q.src.length≤6
 tl:r.q.tgt.length=r.q.src.length
 ml:r.maps.length=r.q.src.length
 s: ∀ i,i<r.q.src.length→r.q.src[i]?.getD 0=(sV r i:Int)∧sV r i<r.dims.length
 t: ∀ i,i<r.q.src.length→r.q.tgt[i]?.getD 0=(tV r i:Int)∧tV r i<r.dims.length
 m: ∀ i,i<r.q.src.length→r.maps[i]?.getD ⟨0,0,[]⟩=⟨dN r (tV r i),dN r (sV r i),dC (dN r (tV r i)) (dN r (sV r i)) (aF r i)⟩∧InP r.p (dN r (tV r i)) (dN r (sV r i)) (aF r i)
theorem aNp {r:Rp} (h:aEE r=true):Rv r:=by
 obtain ⟨hp,hD,hml,hM⟩:=aQB h
 obtain ⟨hQ,hd1,hd2,_⟩:=aDA hD
 obtain ⟨n,hn,hn1,hn5,hq1,hq2,hq3,hq4⟩:=aFF hQ
 have hdl:r.dims.length=n:=by omega
 have hd: ∀ k,k<r.dims.length→r.dims[k]?.getD 0=(dN r k:Int)∧dN r k≤4:=by
  intro k hk
  have:=hd2 _ (dU 0 hk)
  unfold dN
  omega
 have hs: ∀ i,i<r.q.src.length→r.q.src[i]?.getD 0=(sV r i:Int)∧sV r i<r.dims.length:=by
  intro i hi
  have:=hq3 _ (dU 0 hi)
  unfold sV
  omega
 have ht: ∀ i,i<r.q.src.length→r.q.tgt[i]?.getD 0=(tV r i:Int)∧tV r i<r.dims.length:=by
  intro i hi
  have:=hq4 _ (dU 0 (show i<r.q.tgt.length by omega))
  unfold tV
  omega
 refine ⟨hp,by omega,hd,hq2,by omega,hml,hs,ht,λi hi=>?_⟩
 obtain ⟨g1,g2,g3⟩:=hM i (by omega)
 rw [show (r.q.src[i]?.getD 0).toNat=sV r i from rfl,(hd _ (hs i hi).2).1] at g2
 rw [show (r.q.tgt[i]?.getD 0).toNat=tV r i from rfl,(hd _ (ht i hi).2).1] at g3
 obtain ⟨_,a,b,F,ha,hb,he,hF⟩:=aLv g1
 have ea:a=dN r (tV r i):=by rw [he] at g3;simp only at g3;omega
 have eb:b=dN r (sV r i):=by rw [he] at g2;simp only at g2;omega
 have em: ∀ j k,j<a→k<b→aF r i j k=F j k:=by
  intro j k hj hk
  unfold aF
  rw [he,←eb]
  simp only
  rw [nM F hj hk];rfl
 subst ea;subst eb
 rw [he]
 refine ⟨?_,λj k hj hk=>by rw [em j k hj hk];exact hF j k hj hk⟩
 rw [cW em]
theorem aWl {α:Type} {f:Nat→α} {n k:Nat} (h:k<n):cI ((List.range n).map f) (k:Int)=some (f k):=by rw [eV (by simp;exact h)];simp
theorem aGj {R N:Nat} (hN:R*N≤1048576) (h1:R≤1048576) (h2:N≤1048576) (M:Nat→Nat→Int):fB R ((List.range N).map λk=>jJ R λi=>M i k)=some ⟨R,N,dC R N M⟩:=by
 unfold fB
 rw [List.length_map,List.length_range,aRQ hN,Option.bind_some]
 simp only
 rw [eB (r:=dC R N M) (λk=>(dC R N (λi j=>if j<k then M i j else 0),(k:Int))) N (by simp) (λk hk=>?_) (λ_=>?_),Option.bind_some]
 ·unfold gJ
  simp only
  rw [List.length_map,List.length_range,lE hk,cond_true,aWl hk,Option.bind_some]
  rw [eB (r:=dC R N (λi j=>if j<k+1 then M i j else 0)) (λx=>(dC R N (λi j=>if j<k∨(j=k∧i<x) then M i j else 0),(x:Int))) R (by simp) (λx hx=>?_) (λ_=>?_),Option.bind_some,cH hk (by omega)]
  ·unfold gI
   simp only
   rw [fX,lE hx,cond_true,aHy _ hx,Option.bind_some,atT hN hx hk,Option.bind_some,aTQ hN hx hk,cH hx (by omega)]
   congr 3
   refine cW λi j hi hj=>?_
   simp only [aIn]
   by_cases e:i=x∧j=k
   ·rw [if_pos e,if_pos (by omega),e.1,e.2]
   ·rw [if_neg e]
    by_cases e2:j<k∨j=k∧i<x
    ·rw [if_pos e2,if_pos (by omega)]
    ·rw [if_neg e2,if_neg (by omega)]
  ·unfold gI
   simp only
   rw [fX,oG (Nat.le_refl _),cond_false]
   congr 2
   refine cW λi j hi hj=>?_
   by_cases e:j<k+1
   ·rw [if_pos e,if_pos (by omega)]
   ·rw [if_neg e,if_neg (by omega)]
 ·unfold gJ
  simp only
  rw [List.length_map,List.length_range,oG (Nat.le_refl _),cond_false]
  congr 2
  exact cW λi j hi hj=>by rw [if_pos hj]
end
noncomputable section
def aXr (n:Nat) (l:List (List Int)):Mt:=⟨n,(l.length:Int),dC n l.length λi k=>dD l k i⟩
theorem aTX {n:Nat} {l:List (List Int)} (h: ∀ v∈l,v.length=n):l=(List.range l.length).map λk=>jJ n λi=>dD l k i:=aSU h
theorem aXs {n:Nat} {l:List (List Int)} (hn:n≤1024) (hl:l.length≤512) (h: ∀ v∈l,v.length=n):fB n l=some (aXr n l):=by
 have hN:n*l.length≤1048576:=by have:=Nat.mul_le_mul hn hl;omega
 have e:=aGj hN (by omega) (by omega) (λi k=>dD l k i)
 rw [←aTX h] at e
 exact e
theorem aYt {α β:Type} {f:α→β} {l:List α} {k:Nat} (hk:k<l.length):(l.take k).map f++[f l[k]]=(l.take (k+1)).map f:=by rw [List.take_succ_eq_append_getElem hk,List.map_append];rfl
theorem aVK {q:Qv} (h:bQ q):aBE q=some q:=by
 obtain ⟨h1,h2,_⟩:=h
 unfold bI at h1 h2
 unfold aBE
 rw [decide_eq_true (by simp;omega),cond_true,decide_eq_true (by simp;omega),cond_true]
 simp
end
end Go.Proofs.YtghechfdejhapaaGreat

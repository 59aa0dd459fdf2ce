/- Several texts. -/
import Derived.Test.YtgkfbfiiaphgoaaGreatM7
set_option linter.unusedVariables false
set_option linter.unusedSimpArgs false
namespace Go.Proofs.YtgkfbfiiaphgoaaGreat
open Go.RowKit
section
def sN (f:Nat->Int):Nat->Int
 |0=>0
 |k+1=>sN f k+f k
theorem kJ {f g:Nat->Int} : ∀ {n:Nat},(∀ k,k<n->f k=g k)->sN f n=sN g n
 |0,_=>rfl
 |n+1,h=>by rw [sN,sN,kJ λk hk=>h k (by omega),h n (by omega)]
theorem aQC (f g:Nat->Int): ∀ n,sN (λk=>f k+g k) n=sN f n+sN g n
 |0=>rfl
 |n+1=>by rw [sN,sN,sN,aQC f g n];omega
theorem aQD (c:Int) (f:Nat->Int): ∀ n,sN (λk=>c*f k) n=c*sN f n
 |0=>by simp [sN]
 |n+1=>by rw [sN,sN,aQD c f n,Int.mul_add]
theorem aEZ: ∀ n,sN (λ_=>0) n=0
 |0=>rfl
 |n+1=>by rw [sN,aEZ n];rfl
theorem aDo {f:Nat->Int} {j:Nat} : ∀ {n:Nat},j<n->(∀ k,k<n->k≠j->f k=0)->sN f n=f j
 |0,h,_=>absurd h (Nat.not_lt_zero _)
 |n+1,h,hz=>by
  rw [sN];by_cases e:j=n
  ·subst e;rw [kJ (g:=λ_=>0) λk hk=>hz k (by omega) (by omega),aEZ];omega
  ·rw [aDo (j:=j) (by omega) λk hk hj=>hz k (by omega) hj,hz n (by omega) (by omega)];omega
def Z0 (p x:Int):Prop:=x % p=0
theorem aMr {p x y:Int} (h:Z0 p x) (k:Z0 p y):Z0 p (x+y):=by unfold Z0 at*;rw [Int.add_emod,h,k];simp
theorem aHA {p x:Int} (c:Int) (h:Z0 p x):Z0 p (c*x):=by unfold Z0 at*;rw [Int.mul_emod,h];simp
theorem aUP {p:Int} {f g:Nat->Int} : ∀ {n:Nat},(∀ k,k<n->f k % p=g k % p)->sN f n % p=sN g n % p
 |0,_=>rfl
 |n+1,h=>by rw [sN,sN,Int.add_emod,aUP λk hk=>h k (by omega),h n (by omega),←Int.add_emod]
theorem aUQ {p x y:Int} (h:x % p=y % p) (k:Z0 p x):Z0 p y:=by unfold Z0 at*;rw [←h];exact k
def dt (n:Nat) (f x:Nat->Int):Int:=sN (λk=>f k*x k) n
def Kr (p:Int) (m n:Nat) (F:Nat->Nat->Int) (x:Nat->Int):Prop:= ∀ i,i<m->Z0 p (dt n (F i) x)
theorem aMs {p:Int} {n:Nat} {f g x:Nat->Int} (h: ∀ k,k<n->f k % p=g k % p):dt n f x % p=dt n g x % p:=by
 unfold dt;refine aUP λk hk=>?_;rw [Int.mul_emod,h k hk,←Int.mul_emod]
theorem aQE {n:Nat} {f g x:Nat->Int} (c:Int):dt n (λk=>f k+c*g k) x=dt n f x+c*dt n g x:=by
 unfold dt;rw [←aQD,←aQC];refine kJ λk hk=>?_;rw [Int.add_mul,Int.mul_assoc]
theorem aRG {n:Nat} {f x:Nat->Int} (c:Int):dt n (λk=>c*f k) x=c*dt n f x:=by
 unfold dt;rw [←aQD];refine kJ λk hk=>?_;rw [Int.mul_assoc]
theorem aUR {p:Int} (hp:yJ p=true) {m n k r j:Nat} (hj:j<n) (hk:k<m) (hr:r<m) {F:Nat->Nat->Int} (hin:InP p m n F) (hrj:F r j≠0) (x:Nat->Int):Kr p m n (iY p F k r j) x↔Kr p m n F x:=by
 have hb:=jA hp;have hrb:=hin r j hr hj;have hiv:=aTn hp (r:=F r j) ⟨by omega,by omega⟩;generalize hs:aEg p (F r j)=s at*;have hrow: ∀ c,iY p F k r j k c=(F r c*s) % p:=by intro c;simp [iY,aAP,wW,yG,hs]
 have hoth: ∀ i c,i≠k->iY p F k r j i c=((if i=r then F k c else F i c) - (if i=r then F k j else F i j)*iY p F k r j k c) % p:=by
  intro i c hi;simp [iY,aAP,wW,yG,hi,hs]
 have e1:dt n (iY p F k r j k) x % p=(s*dt n (F r) x) % p:=by
  rw [←aRG];refine aMs λc hc=>?_;rw [hrow,Int.mul_comm,Int.emod_emod_of_dvd _ (Int.dvd_refl p)]
 have e2:dt n (F r) x % p=(F r j*dt n (iY p F k r j k) x) % p:=by
  rw [←aRG];refine aMs λc hc=>?_;rw [hrow,Int.mul_emod,Int.emod_emod_of_dvd _ (Int.dvd_refl p),←Int.mul_emod,show F r j*(F r c*s)=(F r j*s)*F r c by rw [Int.mul_comm (F r c),Int.mul_assoc],Int.mul_emod,hiv.2.2];simp
 have e3: ∀ i,i≠k-> ∀ G:Nat->Int,(∀ c,G c=if i=r then F k c else F i c)->dt n (iY p F k r j i) x % p=(dt n G x+ -(G j)*dt n (iY p F k r j k) x) % p:=by
  intro i hi G hG;rw [←aQE];refine aMs λc hc=>?_;rw [hoth i c hi,Int.emod_emod_of_dvd _ (Int.dvd_refl p),←hG,←hG,Int.neg_mul,Int.sub_eq_add_neg]
 constructor
 ·intro h;have hkk:=h k hk;have hrr:Z0 p (dt n (F r) x):=by unfold Z0;rw [e2];exact aHA _ hkk
  have key: ∀ i,i<m->i≠k->Z0 p (dt n (λc=>if i=r then F k c else F i c) x):=by
   intro i hi hik;have h1:=h i hi;unfold Z0 at h1;rw [e3 i hik (λc=>if i=r then F k c else F i c) (λc=>rfl)] at h1;have h2:=aMr (y:=(if i=r then F k j else F i j)*dt n (iY p F k r j k) x) h1 (aHA _ hkk);refine aUQ (congrArg (· % p) ?_) h2;rw [Int.neg_mul];omega
  intro i hi;by_cases e:i=r
  ·subst e;exact hrr
  ·by_cases e4:i=k
   ·subst e4;have:=key r hr (λh=>e h.symm);simpa using this
   ·have:=key i hi e4;simpa [e] using this
 ·intro h;have hkk:Z0 p (dt n (iY p F k r j k) x):=by unfold Z0;rw [e1];exact aHA _ (h r hr)
  intro i hi;by_cases e:i=k
  ·subst e;exact hkk
  ·unfold Z0;rw [e3 i e (λc=>if i=r then F k c else F i c) (λc=>rfl)];refine aMr ?_ (aHA _ hkk);by_cases e4:i=r
   ·simp only [e4,if_true];exact h k hk
   ·simp only [e4,if_false];exact h i hi
theorem aGA {p:Int} (hp:yJ p=true) {m n:Nat} {F:Nat->Nat->Int} (hin:InP p m n F) (x:Nat->Int): ∀ t,t<=n->(Kr p m n (cP p m F t).1 x↔Kr p m n F x)
 |0,_=>Iff.rfl
 |t+1,ht=>by
  have ih:=aGA hp hin x t (by omega);have hin2:=zO (by have:=jA hp;omega:0<p) hin t;have hlen:= @yN p m F t;show Kr p m n (jE p m (cP p m F t) t).1 x↔_;unfold jE;split
  ·exact ih
  ·rename_i h1;have hle:= @aAv (cP p m F t).1 t (m - (cP p m F t).2.length) (cP p m F t).2.length;have hh:= @aEO (cP p m F t).1 t (m - (cP p m F t).2.length) (cP p m F t).2.length (by omega);refine Iff.trans ?_ ih;exact aUR hp (by omega) (by omega) (by omega) hin2 hh x
def kx (F:Nat->Nat->Int) (L:List Nat) (k:Nat):Nat->Int:=λc=>if c=k then 1 else -(sN (λi=>if L[i]?.getD 0=c then F i k else 0) L.length)
theorem aWO {F:Nat->Nat->Int} {L:List Nat} {k:Nat} :kx F L k k=1:=bD rfl
theorem aRH {m n:Nat} {F:Nat->Nat->Int} {L:List Nat} (h:Red m n F L) {k:Nat} (hk:k<n) (hL: ∀ i,i<L.length->L[i]?.getD 0≠k) (g:Nat->Int):dt n g (kx F L k)=g k - sN (λi=>g (L[i]?.getD 0)*F i k) L.length:=by
 have key: ∀ a,a<=L.length->sN (λc=>g c*(if c=k then 1 else -(sN (λi=>if L[i]?.getD 0=c then F i k else 0) a))) n=g k - sN (λi=>g (L[i]?.getD 0)*F i k) a:=by
  intro a;induction a with
  |zero=>
   intro _;rw [aDo (j:=k) hk]
   ·rw [bD rfl];simp [sN]
   ·intro c hc hck;rw [bB hck];simp [sN]
  |succ a ih=>
   intro ha;have ih:=ih (by omega);have hlt:=h.lt a (by omega);have hne:=hL a (by omega)
   have e:sN (λc=>g c*(if c=k then 1 else -(sN (λi=>if L[i]?.getD 0=c then F i k else 0) (a+1)))) n
     =sN (λc=>g c*(if c=k then 1 else -(sN (λi=>if L[i]?.getD 0=c then F i k else 0) a))+(if c=L[a]?.getD 0 then -(g c*F a k) else 0)) n:=by
    refine kJ λc hc=>?_;by_cases e1:c=k
    ·rw [bD e1,bD e1,bB (by omega)];omega
    ·rw [bB e1,bB e1];simp only [sN];by_cases e2:c=L[a]?.getD 0
     ·rw [bD e2,bD e2.symm,Int.neg_add,Int.mul_add,Int.mul_neg (g c) (F a k)]
     ·rw [bB e2,bB (λh=>e2 h.symm)];simp
   rw [e,aQC,ih,aDo (j:=L[a]?.getD 0) hlt (λc _ hc=>bB hc),bD rfl];simp only [sN];omega
 have:=key L.length (bP _);exact this
theorem aMt {p:Int} {m n:Nat} {F:Nat->Nat->Int} {L:List Nat} (h:Red m n F L) {k:Nat} (hk:k<n) (hL: ∀ i,i<L.length->L[i]?.getD 0≠k):Kr p m n F (kx F L k):=by
 intro i hi;rw [aRH h hk hL];rcases dV i L.length with hl|hl
 ·rw [aDo (j:=i) hl]
  ·rw [h.one i hl];unfold Z0;rw [Int.one_mul,Int.sub_self];simp
  ·intro t ht hti;rw [h.col t i ht hi (λe=>hti e.symm)];simp
 ·rw [h.low i k hl hi hk,kJ (g:=λ_=>0) λt ht=>by rw [h.low i _ hl hi (h.lt t ht)];simp];rw [aEZ];unfold Z0;simp
theorem aRI {p:Int} (hp:yJ p=true) {m m' n:Nat} {F G:Nat->Nat->Int} {L M:List Nat} (hF:Red m n F L) (hG:Red m' n G M) (hK: ∀ x,Kr p m n F x->Kr p m' n G x) {t:Nat} (ht:t<M.length): ∃ i,i<L.length/\L[i]?.getD 0=M[t]?.getD 0:=by
 have hb:=jA hp;refine Classical.byContradiction λhn=>?_;have hL: ∀ i,i<L.length->L[i]?.getD 0≠M[t]?.getD 0:=λi hi e=>hn ⟨i,hi,e⟩;have hk:=hG.lt t ht;have h1:=hK _ (aMt (p:=p) hF hk hL) t (by have:=hG.len;omega);rw [aRH hF hk hL,hG.one t ht,kJ (g:=λ_=>0) λi hi=>?_,aEZ] at h1
 ·unfold Z0 at h1;rw [Int.sub_zero,Int.emod_eq_of_lt (by omega) (by omega)] at h1;cases h1
 ·rcases dV (L[i]?.getD 0) (M[t]?.getD 0) with e|e
  ·rw [hG.left t _ ht e];simp
  ·have:=hL i hi;rw [hF.left i _ hi (by omega)];simp
theorem aHB: ∀ {L M:List Nat},(∀ i k,i<k->k<L.length->L[i]?.getD 0<L[k]?.getD 0)->(∀ i k,i<k->k<M.length->M[i]?.getD 0<M[k]?.getD 0)->(∀ i,i<L.length-> ∃ j,j<M.length/\M[j]?.getD 0=L[i]?.getD 0)->(∀ j,j<M.length-> ∃ i,i<L.length/\L[i]?.getD 0=M[j]?.getD 0)->L=M
 | [],[],_,_,_,_=>rfl
 | [],y::M,_,_,_,h=>by obtain ⟨i,hi,_⟩:=h 0 (by simp);simp at hi
 |x::L,[],_,_,h,_=>by obtain ⟨i,hi,_⟩:=h 0 (by simp);simp at hi
 |x::L,y::M,hL,hM,h1,h2=>by
  have sL: ∀ i k,i<k->k<L.length->L[i]?.getD 0<L[k]?.getD 0:=λi k hik hk=>by have:=hL (i+1) (k+1) (by omega) (by simp;omega);simpa using this
  have sM: ∀ i k,i<k->k<M.length->M[i]?.getD 0<M[k]?.getD 0:=λi k hik hk=>by have:=hM (i+1) (k+1) (by omega) (by simp;omega);simpa using this
  have xL: ∀ i,i<L.length->x<L[i]?.getD 0:=λi hi=>by have:=hL 0 (i+1) (by omega) (by simp;omega);simpa using this
  have yM: ∀ i,i<M.length->y<M[i]?.getD 0:=λi hi=>by have:=hM 0 (i+1) (by omega) (by simp;omega);simpa using this
  have exy:x=y:=by
   obtain ⟨j,hj,e1⟩:=h1 0 (by simp);obtain ⟨i,hi,e2⟩:=h2 0 (by simp);simp at e1 e2
   have b1:y<=x:=by
    cases j with
    |zero=>simp at e1;omega
    |succ j=>simp at e1 hj;have:=yM j hj;omega
   have b2:x<=y:=by
    cases i with
    |zero=>simp at e2;omega
    |succ i=>simp at e2 hi;have:=xL i hi;omega
   omega
  subst exy;congr 1;refine aHB sL sM (λi hi=>?_) (λj hj=>?_)
  ·obtain ⟨j,hj,e⟩:=h1 (i+1) (by simp;omega);simp at e;have:=xL i hi;cases j with
   |zero=>simp at e;omega
   |succ j=>simp at e hj;exact ⟨j,hj,e⟩
  ·obtain ⟨i,hi,e⟩:=h2 (j+1) (by simp;omega);simp at e;have:=yM j hj;cases i with
   |zero=>simp at e;omega
   |succ i=>simp at e hi;exact ⟨i,hi,e⟩
theorem aQF {p:Int} (hp:yJ p=true) {m m' n:Nat} {F G:Nat->Nat->Int} {L M:List Nat} (hF:Red m n F L) (hG:Red m' n G M) (iF:InP p m n F) (iG:InP p m' n G) (hK: ∀ x,Kr p m n F x↔Kr p m' n G x):L=M/\ ∀ i j,i<L.length->j<n->F i j=G i j:=by
 have e:L=M:=aHB hF.inc hG.inc (λi hi=>aRI hp hG hF (λx=>(hK x).2) hi) (λj hj=>aRI hp hF hG (λx=>(hK x).1) hj);subst e;refine ⟨rfl,λi k hi hk=>?_⟩;have hm:=hF.len;have hm':=hG.len;by_cases hL: ∃ t,t<L.length/\L[t]?.getD 0=k
 ·obtain ⟨t,ht,rfl⟩:=hL;by_cases e:i=t
  ·subst e;rw [hF.one i hi,hG.one i hi]
  ·rw [hF.col t i ht (by omega) e,hG.col t i ht (by omega) e]
 ·have hL: ∀ t,t<L.length->L[t]?.getD 0≠k:=λt ht e=>hL ⟨t,ht,e⟩;have h1:=(hK _).1 (aMt (p:=p) hF hk hL) i (by omega);rw [aRH hF hk hL,aDo (j:=i) hi (λt ht hti=>by rw [hG.col t i ht (by omega) (λe=>hti e.symm)];simp),hG.one i hi,Int.one_mul] at h1;unfold Z0 at h1;have b1:=iF i k (by omega) hk;have b2:=iG i k (by omega) hk;have hd:=Int.dvd_of_emod_eq_zero h1;obtain ⟨c,hc⟩:=hd
  have hc0:c=0:=by
   rcases Int.lt_trichotomy c 0 with h|h|h
   ·have:=Int.mul_le_mul_of_nonneg_left (show c<= -1 by omega) (by omega:0<=p);omega
   ·exact h
   ·have:=Int.mul_le_mul_of_nonneg_left (show 1<=c by omega) (by omega:0<=p);omega
  subst hc0;simp at hc;omega
theorem aCw {p:Int} (hp:yJ p=true) {m m' n:Nat} {F G:Nat->Nat->Int} (iF:InP p m n F) (iG:InP p m' n G) (hK: ∀ x,Kr p m n F x↔Kr p m' n G x):(cP p m F n).2=(cP p m' G n).2/\ ∀ i j,i<(cP p m F n).2.length->j<n->(cP p m F n).1 i j=(cP p m' G n).1 i j:=by
 have hb:=jA hp;refine aQF hp (aGl hp iF n (bP _)) (aGl hp iG n (bP _)) (zO (by omega) iF n) (zO (by omega) iG n) λx=>?_;rw [aGA hp iF x n (bP _),hK,aGA hp iG x n (bP _)]
def dG (l:Nat->Nat):Nat->Nat
 |0=>0
 |k+1=>dG l k+l k
theorem aBv {l:Nat->Nat} {i k:Nat} (h:i<=k):dG l i<=dG l k:=by
 induction k with
 |zero=>have:i=0:=by omega
        subst this;exact bP _
 |succ k ih=>
  rcases dV k i with h'|h'
  ·have:i=k+1:=by omega
   subst this;exact bP _
  ·have:=ih h';show dG l i<=dG l k+l k;omega
theorem wY {l:Nat->Nat} {i k y:Nat} (hi:i<k) (hy:y<l i):dG l i+y<dG l k:=by
 have:= @aBv l (i+1) k hi;have e:dG l (i+1)=dG l i+l i:=rfl;omega
theorem aBi {l:Nat->Nat} : ∀ {k x:Nat},x<dG l k-> ∃ i y,i<k/\y<l i/\x=dG l i+y
 |0,x,h=>absurd h (Nat.not_lt_zero _)
 |k+1,x,h=>by
  rcases dV x (dG l k) with h'|h'
  ·obtain ⟨i,y,h1,h2,h3⟩:=aBi h';exact ⟨i,y,by omega,h2,h3⟩
  ·have e:dG l (k+1)=dG l k+l k:=rfl;exact ⟨k,x - dG l k,by omega,by omega,by omega⟩
theorem aRJ {l:Nat->Nat} {i j y z:Nat} (hy:y<l i) (hz:z<l j) (h:dG l i+y=dG l j+z):i=j/\y=z:=by
 have e1:dG l (i+1)=dG l i+l i:=rfl;have e2:dG l (j+1)=dG l j+l j:=rfl;rcases Nat.lt_trichotomy i j with h1|h1|h1
 ·have:= @aBv l (i+1) j h1;omega
 ·subst h1;exact ⟨rfl,by omega⟩
 ·have:= @aBv l (j+1) i h1;omega
def cat (l:Nat->Nat) (f:Nat->Nat->Int):Nat->aA
 |0=>[]
 |k+1=>cat l f k++(List.range (l k)).map (f k)
theorem kF (l:Nat->Nat) (f:Nat->Nat->Int): ∀ k,(cat l f k).length=dG l k
 |0=>rfl
 |k+1=>by rw [cat,dG,List.length_append,kF l f k];simp
theorem sG {l:Nat->Nat} (f:Nat->Nat->Int): ∀ {k i y:Nat},i<k->y<l i->(cat l f k)[dG l i+y]? =some (f i y)
 |0,i,y,h,_=>absurd h (Nat.not_lt_zero _)
 |k+1,i,y,h,hy=>by
  rw [cat];by_cases e:i=k
  ·subst e;rw [List.getElem?_append_right (by rw [kF];omega),kF,Nat.add_sub_cancel_left];simp [hy]
  ·rw [List.getElem?_append_left (by rw [kF];exact wY (by omega) hy)];exact sG f (by omega) hy
theorem aGB {l:Nat->Nat} {f:Nat->Nat->Int} {k:Nat} {v:aA} (hv:v.length=dG l k) (h: ∀ i y,i<k->y<l i->v[dG l i+y]? =some (f i y)):v=cat l f k:=by
 refine List.ext_getElem (by rw [kF,hv]) λx h1 h2=>?_;obtain ⟨i,y,hi,hy,rfl⟩:=aBi (hv▸h1);have a:=h i y hi hy;have b:=sG f hi hy;rw [fP h1] at a;rw [fP h2] at b;exact (Option.some.inj a).trans (Option.some.inj b).symm
theorem aCS {l:Nat->Nat} {f g:Nat->Nat->Int} {k:Nat} (h: ∀ i y,i<k->y<l i->f i y=g i y):cat l f k=cat l g k:=
 aGB (kF l f k) λi y hi hy=>by rw [sG f hi hy,h i y hi hy]
theorem aMu {l:Nat->Nat} {f:Nat->Nat->Int} {k i y:Nat} (hi:i<k) (hy:y<l i) (v:Int):(cat l f k).set (dG l i+y) v=cat l (λa b=>if a=i/\b=y then v else f a b) k:=by
 refine aGB (by rw [List.length_set,kF]) λa b ha hb=>?_;rw [List.getElem?_set];by_cases e:dG l i+y=dG l a+b
 ·obtain ⟨rfl,rfl⟩:=aRJ hy hb e;rw [bD rfl,bD (by rw [kF];exact wY hi hy),bD ⟨rfl,rfl⟩]
 ·rw [bB e,bB (by rintro ⟨rfl,rfl⟩;exact e rfl),sG f ha hb]
theorem aOX (l:Nat->Nat) (k:Nat):List.replicate (dG l k) (0:Int)=cat l (λ_ _=>0) k:=aGB (by simp) λi y hi hy=>by simp [wY hi hy]
theorem aUS {l:Nat->Nat} {f:Nat->Nat->Int} {k:Nat} : ∀ {n:Nat},k<n->((cat l f n).drop (dG l k)).take (l k)=(List.range (l k)).map (f k):=by
 intro n hk;refine List.ext_getElem ?_ λx h1 h2=>?_
 ·have:= @aBv l (k+1) n hk;have e:dG l (k+1)=dG l k+l k:=rfl;simp [kF];omega
 ·have hx:x<l k:=by simpa using h2
  rw [List.getElem_take,List.getElem_drop];have:=sG f hk hx;rw [fP (by rw [kF];exact wY hk hx)] at this;simp [Option.some.inj this]
theorem aXy {r c:Nat} {g:Nat->Int} {F:Nat->Nat->Int} (h: ∀ y,y<r*c->g y=F (y / c) (y % c)):(List.range (r*c)).map g=dA r c F:=sT λy hy=>h y (List.mem_range.1 hy)
theorem aFK {r c y:Nat} (h:y<r*c):y / c<r/\y % c<c:=by
 have hc:0<c:=by rcases Nat.eq_zero_or_pos c with rfl|h';simp at h;exact h'
 exact ⟨Nat.div_lt_of_lt_mul (by rw [Nat.mul_comm];exact h),Nat.mod_lt _ hc⟩
theorem aBj {c y:Nat} :y / c*c+y % c=y:=by rw [Nat.mul_comm];exact Nat.div_add_mod y c
theorem aUT {n:Nat} {L:List Nat} (hinc: ∀ i k,i<k->k<L.length->L[i]?.getD 0<L[k]?.getD 0) (hlt: ∀ x∈L,x<n):(aXN n L).length +L.length=n:=by
 have key: ∀ t,((List.range t).filter λk=> !L.contains k).length +((List.range t).filter λk=>L.contains k).length=t:=by
  intro t;induction t with
  |zero=>simp
  |succ t ih=>
   rw [List.range_succ,List.filter_append,List.filter_append,List.length_append,List.length_append];cases h:L.contains t <;> simp only [List.filter_cons,List.filter_nil,h,eP,Bool.not_false,gA,if_true,if_false,List.length_cons,List.length_nil] <;> omega
 have e:(List.range n).filter (λk=>L.contains k)=L:=by
  have hL: ∀ i,i<L.length->L[i]?.getD 0<n:=λi hi=>hlt _ (by rw [fP hi];exact List.getElem_mem hi);have hS:((List.range n).filter λk=>L.contains k).Pairwise (· < ·):=List.Pairwise.filter _ List.pairwise_lt_range;refine aHB (λi k hik hk=>?_) hinc (λi hi=>?_) (λj hj=>?_)
  ·have:=List.pairwise_iff_getElem.1 hS i k (by omega) hk hik;rw [fP (by omega),fP hk];exact this
  ·have hm:=List.getElem_mem hi;rw [List.mem_filter] at hm;have h2:=List.contains_iff_mem.1 hm.2;obtain ⟨j,hj,he⟩:=List.mem_iff_getElem.1 h2;refine ⟨j,hj,?_⟩;rw [fP hj,fP hi];exact he
  ·have hm:L[j]∈(List.range n).filter λk=>L.contains k:=by
    rw [List.mem_filter];exact ⟨List.mem_range.2 (hlt _ (List.getElem_mem hj)),List.contains_iff_mem.2 (List.getElem_mem hj)⟩
   obtain ⟨i,hi,he⟩:=List.mem_iff_getElem.1 hm;refine ⟨i,hi,?_⟩;rw [fP hj,fP hi];exact he
 have:=key n;rw [e] at this;exact this
def sV (r:Rp) (i:Nat):Nat:=(r.q.src[i]?.getD 0).toNat
def tV (r:Rp) (i:Nat):Nat:=(r.q.tgt[i]?.getD 0).toNat
def aF (r:Rp) (i:Nat):Nat->Nat->Int:=λj k=>(r.maps[i]?.getD ⟨0,0,[]⟩).cells[j*dN r (sV r i)+k]?.getD 0
structure Rv (r:Rp):Prop where
 hp:yJ r.p=true
 n5:r.dims.length<=5
 d: ∀ k,k<r.dims.length->r.dims[k]?.getD 0=(dN r k:Int)/\dN r k<=4
 e6:r.q.src.length<=6
 tl:r.q.tgt.length=r.q.src.length
 ml:r.maps.length=r.q.src.length
 s: ∀ i,i<r.q.src.length->r.q.src[i]?.getD 0=(sV r i:Int)/\sV r i<r.dims.length
 t: ∀ i,i<r.q.src.length->r.q.tgt[i]?.getD 0=(tV r i:Int)/\tV r i<r.dims.length
 m: ∀ i,i<r.q.src.length->r.maps[i]?.getD ⟨0,0,[]⟩=⟨dN r (tV r i),dN r (sV r i),dA (dN r (tV r i)) (dN r (sV r i)) (aF r i)⟩/\InP r.p (dN r (tV r i)) (dN r (sV r i)) (aF r i)
theorem aXW {r:Rp} (h:aAg r=true):Rv r:=by
 obtain ⟨hp,hD,hml,hM⟩:=aJj h;obtain ⟨hQ,hd1,hd2,_⟩:=xK hD;obtain ⟨n,hn,hn1,hn5,hq1,hq2,hq3,hq4⟩:=zU hQ;have hdl:r.dims.length=n:=by omega
 have hd: ∀ k,k<r.dims.length->r.dims[k]?.getD 0=(dN r k:Int)/\dN r k<=4:=by
  intro k hk;have:=hd2 _ (iH 0 hk);unfold dN;omega
 have hs: ∀ i,i<r.q.src.length->r.q.src[i]?.getD 0=(sV r i:Int)/\sV r i<r.dims.length:=by
  intro i hi;have:=hq3 _ (iH 0 hi);unfold sV;omega
 have ht: ∀ i,i<r.q.src.length->r.q.tgt[i]?.getD 0=(tV r i:Int)/\tV r i<r.dims.length:=by
  intro i hi;have:=hq4 _ (iH 0 (show i<r.q.tgt.length by omega));unfold tV;omega
 refine ⟨hp,by omega,hd,hq2,by omega,hml,hs,ht,λi hi=>?_⟩;obtain ⟨g1,g2,g3⟩:=hM i (by omega);rw [show (r.q.src[i]?.getD 0).toNat=sV r i from rfl,(hd _ (hs i hi).2).1] at g2;rw [show (r.q.tgt[i]?.getD 0).toNat=tV r i from rfl,(hd _ (ht i hi).2).1] at g3;obtain ⟨_,a,b,F,ha,hb,he,hF⟩:=aPy g1;have ea:a=dN r (tV r i):=by rw [he] at g3;simp only at g3;omega
 have eb:b=dN r (sV r i):=by rw [he] at g2;simp only at g2;omega
 have em: ∀ j k,j<a->k<b->aF r i j k=F j k:=by
  intro j k hj hk;unfold aF;rw [he,←eb];simp only;rw [qN F hj hk];rfl
 subst ea;subst eb;rw [he];refine ⟨?_,λj k hj hk=>by rw [em j k hj hk];exact hF j k hj hk⟩;rw [eD em]
structure Fit (a b:Rp):Prop where
 ra:Rv a
 rb:Rv b
 pe:b.p=a.p
 qe:b.q=a.q
 ne:b.dims.length=a.dims.length
theorem aUU {a b:Rp} (h1:aAg a=true) (h2:aAg b=true) (hp:a.p=b.p) (hq:a.q=b.q):Fit a b:=by
 refine ⟨aXW h1,aXW h2,hp.symm,hq.symm,?_⟩;have e1:=(xK (aJj h1).2.1).2.1;have e2:=(xK (aJj h2).2.1).2.1;rw [hq] at e1;omega
theorem Fit.sV {a b:Rp} (h:Fit a b) (i:Nat):sV b i=sV a i:=by unfold Proofs.YtgkfbfiiaphgoaaGreat.sV;rw [h.qe]
theorem Fit.tV {a b:Rp} (h:Fit a b) (i:Nat):tV b i=tV a i:=by unfold Proofs.YtgkfbfiiaphgoaaGreat.tV;rw [h.qe]
def lV (a b:Rp) (v:Nat):Nat:=dN b v*dN a v
def lE (a b:Rp) (i:Nat):Nat:=dN b (tV a i)*dN a (sV a i)
theorem aQG {l:Nat->Nat} {c:Nat} : ∀ {k:Nat},(∀ i,i<k->l i<=c)->dG l k<=c*k
 |0,_=>Nat.zero_le _
 |k+1,h=>by
  have h1:=aQG (c:=c) (k:=k) λi hi=>h i (by omega);have h2:=h k (by omega);show dG l k+l k<=c*(k+1);rw [Nat.mul_succ];omega
theorem Fit.lV {a b:Rp} (h:Fit a b) {v:Nat} (hv:v<a.dims.length):lV a b v<=16:=Nat.mul_le_mul (h.rb.d v (by rw [h.ne];exact hv)).2 (h.ra.d v hv).2
theorem Fit.lE {a b:Rp} (h:Fit a b) {i:Nat} (hi:i<a.q.src.length):lE a b i<=16:=Nat.mul_le_mul (h.rb.d _ (by rw [h.ne];exact (h.ra.t i hi).2)).2 (h.ra.d _ (h.ra.s i hi).2).2
theorem Fit.offV {a b:Rp} (h:Fit a b) {v:Nat} (hv:v<=a.dims.length):dG (Proofs.YtgkfbfiiaphgoaaGreat.lV a b) v<=80:=by
 have:=aQG (l:=Proofs.YtgkfbfiiaphgoaaGreat.lV a b) (c:=16) (k:=v) λi hi=>h.lV (by omega);have:=h.ra.n5;omega
theorem Fit.offE {a b:Rp} (h:Fit a b) {i:Nat} (hi:i<=a.q.src.length):dG (Proofs.YtgkfbfiiaphgoaaGreat.lE a b) i<=96:=by
 have:=aQG (l:=Proofs.YtgkfbfiiaphgoaaGreat.lE a b) (c:=16) (k:=i) λj hj=>h.lE (by omega);have:=h.ra.e6;omega
theorem aCx {α:Type} {f:Nat->α} {n k:Nat} (h:k<n):cO ((List.range n).map f) (k:Int)=some (f k):=by rw [hZ (by simp;exact h)];simp
theorem aCT {α:Type} {f:Nat->α} {k:Nat} :(List.range k).map f++[f k]=(List.range (k+1)).map f:=by rw [List.range_succ,List.map_append];rfl
theorem aWP {a b:Rp} (h:Fit a b):aAi a b=some ((List.range a.dims.length).map λv=>(⟨dN b v,dN a v,dA (dN b v) (dN a v) λ_ _=>0⟩:Mt)):=by
 have n5:=h.ra.n5;unfold aAi;rw [eX (r:=(List.range a.dims.length).map λv=>(⟨dN b v,dN a v,dA (dN b v) (dN a v) λ_ _=>0⟩:Mt)) (λk=>((List.range k).map λv=>(⟨dN b v,dN a v,dA (dN b v) (dN a v) λ_ _=>0⟩:Mt),(k:Int))) a.dims.length (by simp) (λk hk=>?_) (λ_=>?_),aC]
 ·have hkb:k<b.dims.length:=by rw [h.ne];exact hk
  unfold wJ;simp only;rw [kC hk,aJ,tS 0 hk,aC,tS 0 hkb,aC,(h.ra.d k hk).1,(h.rb.d k hkb).1,aMm (sq (h.rb.d k hkb).2 (h.ra.d k hk).2),aC,bK (by simp;omega),aJ,cC hk (by omega),aCT (f:=λv=>(⟨dN b v,dN a v,dA (dN b v) (dN a v) λ_ _=>0⟩:Mt))]
 ·unfold wJ;simp only;rw [lM (bP _),aY]
theorem aJl {a b:Rp} (h:Fit a b):pV a b=some ((List.range a.q.src.length).map λi=>(⟨dN b (tV a i),dN a (sV a i),dA (dN b (tV a i)) (dN a (sV a i)) λ_ _=>0⟩:Mt)):=by
 have e6:=h.ra.e6;have tl:=h.ra.tl;unfold pV;rw [eX (r:=(List.range a.q.src.length).map λi=>(⟨dN b (tV a i),dN a (sV a i),dA (dN b (tV a i)) (dN a (sV a i)) λ_ _=>0⟩:Mt)) (λk=>((List.range k).map λi=>(⟨dN b (tV a i),dN a (sV a i),dA (dN b (tV a i)) (dN a (sV a i)) λ_ _=>0⟩:Mt),(k:Int))) a.q.src.length (by simp) (λk hk=>?_) (λ_=>?_),aC]
 ·obtain ⟨s1,s2⟩:=h.ra.s k hk;obtain ⟨t1,t2⟩:=h.ra.t k hk;have t3:tV a k<b.dims.length:=by rw [h.ne];exact t2
  unfold mS;simp only;rw [kC hk,aJ,tS 0 hk,aC,tS 0 (by omega),aC,t1,tS 0 t3,aC,s1,tS 0 s2,aC,(h.ra.d _ s2).1,(h.rb.d _ t3).1,aMm (sq (h.rb.d _ t3).2 (h.ra.d _ s2).2),aC,bK (by simp;omega),aJ,cC hk (by omega),aCT (f:=λi=>(⟨dN b (tV a i),dN a (sV a i),dA (dN b (tV a i)) (dN a (sV a i)) λ_ _=>0⟩:Mt))]
 ·unfold mS;simp only;rw [lM (bP _),aY]
theorem aQH {k:Nat} {r c:Nat->Int} {l:Nat->Nat} {f:Nat->Nat->Int} (hk:k<=1048576) (hl:dG l k<=1048576):oY ((List.range k).map λv=>(⟨r v,c v,(List.range (l v)).map (f v)⟩:Mt))=some (cat l f k):=by
 unfold oY;rw [eX (r:=cat l f k) (λj=>(cat l f j,(j:Int))) k (by simp [cat]) (λj hj=>?_) (λ_=>?_),aC]
 ·unfold xX;simp only;have h1:= @aBv l (j+1) k hj;have e:dG l (j+1)=dG l j+l j:=rfl;rw [fE,List.length_range,kC hj,aJ,aCx hj,aC];simp only;rw [kF,fE,List.length_range,bK (by omega),aJ,cC hj (by omega)];rfl
 ·unfold xX;simp only;rw [fE,List.length_range,lM (bP _),aY]
theorem aUV {k:Nat} {r c:Nat->Int} {z:Nat->aA} {l:Nat->Nat} {f:Nat->Nat->Int} (hk:k<=1048576) (hl:dG l k<=1048576) (hz: ∀ v,v<k->(z v).length=l v):zF ((List.range k).map λv=>(⟨r v,c v,z v⟩:Mt)) (cat l f k)=some ((List.range k).map λv=>(⟨r v,c v,(List.range (l v)).map (f v)⟩:Mt)):=by
 unfold zF;rw [eX (r:=(List.range k).map λv=>(⟨r v,c v,(List.range (l v)).map (f v)⟩:Mt)) (λj=>((cat l f k).drop (dG l j),(List.range j).map (λv=>(⟨r v,c v,(List.range (l v)).map (f v)⟩:Mt)),(j:Int))) k (by simp [dG]) (λj hj=>?_) (λ_=>?_),aC]
 ·unfold uN;simp only;have h1:= @aBv l (j+1) k hj;have e:dG l (j+1)=dG l j+l j:=rfl;rw [fE,List.length_range,kC hj,aJ,aCx hj,aC];simp only;rw [hz j hj,List.length_drop,kF];simp only [dX,Int.toNat_zero,List.drop_zero,Nat.sub_zero];rw [aUS hj];unfold lQ;rw [bK (by omega:(0:Int)<=((l j:Nat):Int)),bK (by omega:((l j:Nat):Int)<=((dG l k - dG l j:Nat):Int))];simp only [decide_true,Bool.and_self,aJ,Int.le_refl];have q1:decide (((List.range (l j)).map (f j)).length <=1048576)=true:=bK (by simp only [fE,List.length_range];omega);have q2:decide (((List.range j).map λv=>(⟨r v,c v,(List.range (l v)).map (f v)⟩:Mt)).length +1<=4294967296)=true:=bK (by simp only [fE,List.length_range];omega);simp only [q1,Bool.and_self,aJ,aC];rw [q2,aJ,cC hj (by omega),aCT (f:=λv=>(⟨r v,c v,(List.range (l v)).map (f v)⟩:Mt)),List.drop_drop,List.take_of_length_le (by simp [kF];omega)];rfl
 ·unfold uN;simp only;rw [fE,List.length_range,lM (bP _),aY]
theorem aXz {p:Int} (hp:yJ p=true) {r c:Nat} (hN:r*c<=1048576) {r' c':Int} {F G:Nat->Nat->Int} (hF:InP p r c F) (hG:InP p r c G) {k:Int} (hk:0<=k/\k<=5):
  aBg p ⟨r,c,dA r c F⟩ k ⟨r',c',dA r c G⟩=some ⟨r,c,dA r c λi j=>(F i j+k*G i j) % p⟩:=by
 have e1: ∀ H:Nat->Nat->Int,dA r c H=dA 1 (r*c) (λ_ y=>H (y / c) (y % c)):=by
  intro H;unfold dA;rw [Nat.one_mul];refine sT λy hy=>?_;rw [Nat.mod_eq_of_lt (List.mem_range.1 hy)]
 have e2:dA r c G=aAI (r*c) (λy=>G (y / c) (y % c)):=rfl;unfold aBg mH lQ;simp only;rw [kX,bK hN,aJ,aC,aC];simp only;have:=aOT hp (r:=1) (c:=r*c) (i:=0) hN (by omega) (F:=λ_ y=>F (y / c) (y % c)) (g:=λy=>G (y / c) (y % c)) hk (λy hy=>hF _ _ (aFK hy).1 (aFK hy).2) (λy hy=>hG _ _ (aFK hy).1 (aFK hy).2);rw [Nat.zero_mul,←e2,←e1] at this;rw [kX,this,aC,kX,Nat.one_mul,bK rfl,aJ,e1 (λi j=>(F i j+k*G i j) % p)];congr 2;refine eD λa y ha hy=>?_;unfold aKh;rw [bD (by omega)]
def aMv (a b:Rp) (P:Nat->Nat->Nat->Int) (i:Nat):Nat->Nat->Int:=λr k=>
 (aGz a.p (dN b (sV a i)) (aF b i) (P (sV a i)) r k+(a.p - 1)*aGz a.p (dN a (tV a i)) (P (tV a i)) (aF a i) r k) % a.p
theorem aMw {a b:Rp} (h:Fit a b) {P:Nat->Nat->Nat->Int} (hP: ∀ v,v<a.dims.length->InP a.p (dN b v) (dN a v) (P v)):
  tM a b ((List.range a.dims.length).map λv=>(⟨dN b v,dN a v,dA (dN b v) (dN a v) (P v)⟩:Mt))=some ((List.range a.q.src.length).map λi=>(⟨dN b (tV a i),dN a (sV a i),dA (dN b (tV a i)) (dN a (sV a i)) (aMv a b P i)⟩:Mt)):=by
 have e6:=h.ra.e6;have tl:=h.ra.tl;have hb:=jA h.ra.hp;unfold tM;rw [eX (r:=(List.range a.q.src.length).map λi=>(⟨dN b (tV a i),dN a (sV a i),dA (dN b (tV a i)) (dN a (sV a i)) (aMv a b P i)⟩:Mt)) (λk=>((List.range k).map λi=>(⟨dN b (tV a i),dN a (sV a i),dA (dN b (tV a i)) (dN a (sV a i)) (aMv a b P i)⟩:Mt),(k:Int))) a.q.src.length (by simp) (λk hk=>?_) (λ_=>?_),aC]
 ·obtain ⟨s1,s2⟩:=h.ra.s k hk;obtain ⟨t1,t2⟩:=h.ra.t k hk;have s3:sV a k<b.dims.length:=by rw [h.ne];exact s2
  have t3:tV a k<b.dims.length:=by rw [h.ne];exact t2
  have hkb:k<b.q.src.length:=by rw [h.qe];exact hk
  obtain ⟨m1,m2⟩:=h.ra.m k hk;obtain ⟨g1,g2⟩:=h.rb.m k hkb;rw [h.sV,h.tV] at g1 g2;rw [h.pe] at g2;have da:=h.ra.d _ s2;have da2:=h.ra.d _ t2;have db:=h.rb.d _ s3;have db2:=h.rb.d _ t3;unfold oZ;simp only;rw [kC hk,aJ,tS 0 hk,aC,tS ⟨0,0,[]⟩ (by rw [h.rb.ml];exact hkb),aC,g1,s1,aCx s2,aC];rw [aRE h.ra.hp (sq db2.2 db.2) (sq db.2 da.2) (sq db2.2 da.2) (by omega) (by omega) (by omega) g2 (hP _ s2),aC,tS 0 (by omega),aC,t1,aCx t2,aC,tS ⟨0,0,[]⟩ (by rw [h.ra.ml];exact hk),aC,m1];rw [aRE h.ra.hp (sq db2.2 da2.2) (sq da2.2 da.2) (sq db2.2 da.2) (by omega) (by omega) (by omega) (hP _ t2) m2,aC,cU (by omega)];rw [aXz h.ra.hp (sq db2.2 da.2) (aRD h.ra.hp _ _ _ _ _) (aRD h.ra.hp _ _ _ _ _) (by omega),aC,bK (by simp;omega),aJ,cC hk (by omega)];have:=aCT (f:=λi=>(⟨dN b (tV a i),dN a (sV a i),dA (dN b (tV a i)) (dN a (sV a i)) (aMv a b P i)⟩:Mt)) (k:=k);rw [←this];rfl
 ·unfold oZ;simp only;rw [lM (bP _),aY]
theorem aKm {R N:Nat} (hN:R*N<=1048576) (h1:R<=1048576) (h2:N<=1048576) (M:Nat->Nat->Int):sA R ((List.range N).map λk=>aAI R λi=>M i k)=some ⟨R,N,dA R N M⟩:=by
 unfold sA;rw [fE,List.length_range,aMm hN,aC];simp only;rw [eX (r:=dA R N M) (λk=>(dA R N (λi j=>if j<k then M i j else 0),(k:Int))) N (by simp) (λk hk=>?_) (λ_=>?_),aC]
 ·unfold oF;simp only;rw [fE,List.length_range,kC hk,aJ,aCx hk,aC];rw [eX (r:=dA R N (λi j=>if j<k+1 then M i j else 0)) (λx=>(dA R N (λi j=>if j<k∨(j=k/\i<x) then M i j else 0),(x:Int))) R (by simp) (λx hx=>?_) (λ_=>?_),aC,cC hk (by omega)]
  ·unfold oD;simp only;rw [sX,kC hx,aJ,aMl _ hx,aC,atT hN hx hk,aC,aUK hN hx hk,cC hx (by omega)];congr 3;refine eD λi j hi hj=>?_;simp only [aII];by_cases e:i=x/\j=k
   ·rw [bD e,bD (by omega),e.1,e.2]
   ·rw [bB e];by_cases e2:j<k∨j=k/\i<x
    ·rw [bD e2,bD (by omega)]
    ·rw [bB e2,bB (by omega)]
  ·unfold oD;simp only;rw [sX,lM (bP _),aY];congr 2;refine eD λi j hi hj=>?_;by_cases e:j<k+1
   ·rw [bD e,bD (by omega)]
   ·rw [bB e,bB (by omega)]
 ·unfold oF;simp only;rw [fE,List.length_range,lM (bP _),aY];congr 2;exact eD λi j hi hj=>by rw [bD hj]
def eF (a b:Rp) (i r k v j l:Nat):Int:=((if sV a i=v/\k=l then aF b i r j else 0) - (if tV a i=v/\r=j then aF a i l k else 0)) % a.p
def e2 (a b:Rp) (i y v z:Nat):Int:=eF a b i (y / dN a (sV a i)) (y % dN a (sV a i)) v (z / dN a v) (z % dN a v)
def mE (a b:Rp):Nat->Nat->Int:=λx k=>(cat (lE a b) (λi y=>(cat (lV a b) (e2 a b i y) a.dims.length)[k]?.getD 0) a.q.src.length)[x]?.getD 0
def nE (a b:Rp):Nat:=dG (lE a b) a.q.src.length
def nV (a b:Rp):Nat:=dG (lV a b) a.dims.length
theorem aUW {a b:Rp} (h:Fit a b):InP a.p (nE a b) (nV a b) (mE a b):=by
 intro x k hx hk;obtain ⟨i,y,hi,hy,rfl⟩:=aBi hx;obtain ⟨v,z,hv,hz,rfl⟩:=aBi hk;unfold mE;rw [sG _ hi hy,kS,sG _ hv hz,kS];exact aBf h.ra.hp
theorem aMx (F G:Nat->Nat->Int) (i j:Nat): ∀ k,aQB F G i j k=sN (λt=>F i t*G t j) k
 |0=>rfl
 |k+1=>by rw [aQB,sN,aMx F G i j k]
def unP (a:Rp) (v0 z0:Nat):Nat->Nat->Nat->Int:=λv j l=>if v=v0/\j*dN a v+l=z0 then 1 else 0
theorem aYA {a:Rp} (hp:yJ a.p=true) (v0 z0 v m n:Nat):InP a.p m n (unP a v0 z0 v):=by
 have hb:=jA hp;intro i j _ _;unfold unP;split <;> omega
theorem aUX {a b:Rp} (h:Fit a b) {v0 z0 i r k:Nat} (hv:v0<a.dims.length) (hz:z0<lV a b v0) (hi:i<a.q.src.length) (hr:r<dN b (tV a i)) (hk:k<dN a (sV a i)):
  aMv a b (unP a v0 z0) i r k=eF a b i r k v0 (z0 / dN a v0) (z0 % dN a v0):=by
 have hb:=jA h.ra.hp;obtain ⟨hj0,hl0⟩:=aFK hz
 have key: ∀ v j l,l<dN a v->(v=v0/\j*dN a v+l=z0↔v=v0/\j=z0 / dN a v0/\l=z0 % dN a v0):=by
  intro v j l hl;constructor
  ·rintro ⟨rfl,rfl⟩;exact ⟨rfl,(aCp hl).symm,(aCq hl).symm⟩
  ·rintro ⟨rfl,rfl,rfl⟩;exact ⟨rfl,aBj⟩
 have e1:aGz a.p (dN b (sV a i)) (aF b i) (unP a v0 z0 (sV a i)) r k=(if sV a i=v0/\k=z0 % dN a v0 then aF b i r (z0 / dN a v0) else 0) % a.p:=by
  unfold aGz;rw [aMx];by_cases e:sV a i=v0/\k=z0 % dN a v0
  ·rw [bD e,aDo (j:=z0 / dN a v0) (by rw [e.1];exact hj0)]
   ·unfold unP;rw [bD ((key _ _ _ hk).2 ⟨e.1,rfl,e.2⟩),Int.mul_one]
   ·intro t ht htj;unfold unP;rw [bB λg=>htj ((key _ _ _ hk).1 g).2.1,Int.mul_zero]
  ·rw [bB e,kJ (g:=λ_=>0),aEZ];intro t ht;unfold unP;rw [bB λg=>e ⟨((key _ _ _ hk).1 g).1,((key _ _ _ hk).1 g).2.2⟩,Int.mul_zero]
 have e2:aGz a.p (dN a (tV a i)) (unP a v0 z0 (tV a i)) (aF a i) r k=(if tV a i=v0/\r=z0 / dN a v0 then aF a i (z0 % dN a v0) k else 0) % a.p:=by
  unfold aGz;rw [aMx];by_cases e:tV a i=v0/\r=z0 / dN a v0
  ·rw [bD e,aDo (j:=z0 % dN a v0) (by rw [e.1];exact hl0)]
   ·unfold unP;rw [bD ((key _ _ _ (by rw [e.1];exact hl0)).2 ⟨e.1,e.2,rfl⟩),Int.one_mul]
   ·intro t ht htj;unfold unP;rw [bB λg=>htj ((key _ _ _ ht).1 g).2.2,Int.zero_mul]
  ·rw [bB e,kJ (g:=λ_=>0),aEZ];intro t ht;unfold unP;rw [bB λg=>e ⟨((key _ _ _ ht).1 g).1,((key _ _ _ ht).1 g).2.1⟩,Int.zero_mul]
 unfold aMv eF;rw [e1,e2];generalize (if sV a i=v0/\k=z0 % dN a v0 then aF b i r (z0 / dN a v0) else 0)=x;generalize (if tV a i=v0/\r=z0 / dN a v0 then aF a i (z0 % dN a v0) k else 0)=y;rw [show x % a.p+(a.p - 1)*(y % a.p)=(x % a.p - y % a.p)+a.p*(y % a.p) by rw [Int.sub_mul];omega,Int.add_mul_emod_self_left];exact (Int.sub_emod x y a.p).symm
theorem aGC {a b:Rp} (h:Fit a b):pB a b=some ⟨nE a b,nV a b,dA (nE a b) (nV a b) (mE a b)⟩:=by
 have n5:=h.ra.n5;have e6:=h.ra.e6;have bV:=h.offV (bP _);have bE:=h.offE (bP _);unfold pB;rw [aWP h,aC];have z1:oY ((List.range a.dims.length).map λv=>(⟨dN b v,dN a v,dA (dN b v) (dN a v) λ_ _=>0⟩:Mt))=some (cat (lV a b) (λ_ _=>0) a.dims.length):=aQH (l:=lV a b) (f:=λ_ _=>0) (by omega) (by omega);have z2:oY ((List.range a.q.src.length).map λi=>(⟨dN b (tV a i),dN a (sV a i),dA (dN b (tV a i)) (dN a (sV a i)) λ_ _=>0⟩:Mt))=some (cat (lE a b) (λ_ _=>0) a.q.src.length):=aQH (l:=lE a b) (f:=λ_ _=>0) (by omega) (by omega);rw [z1,aC];rw [eX (r:=(List.range (nV a b)).map λk=>aAI (nE a b) λx=>mE a b x k) (λk=>((List.range k).map (λk=>aAI (nE a b) λx=>mE a b x k),(k:Int))) (nV a b) (by simp) (λk hk=>?_) (λ_=>?_),aC,aJl h,aC,z2,aC,kF]
 ·have:=aKm (R:=nE a b) (N:=nV a b) (Nat.le_trans (Nat.mul_le_mul bE bV) (by decide)) (by unfold nE;omega) (by unfold nV;omega) (mE a b);unfold nE at this ⊢;rw [this,aC]
 ·obtain ⟨v0,z0,hv0,hz0,ek⟩:=aBi hk;unfold pA;simp only [kF];rw [show dG (lV a b) a.dims.length=nV a b from rfl,kC hk,aJ,bK (by omega),bK (by unfold nV;omega:((nV a b:Nat):Int)<=1048576),Bool.and_self,aJ,dX,dX,hZ (by simp;exact hk),aC]
  have eu:(List.replicate (nV a b) (0:Int)).set k 1=cat (lV a b) (λv z=>if v=v0/\z=z0 then 1 else 0) a.dims.length:=by
   unfold nV;rw [aOX,ek,aMu hv0 hz0]
  rw [eu,aUV (l:=lV a b) (r:=λv=>(dN b v:Int)) (c:=λv=>(dN a v:Int)) (z:=λv=>dA (dN b v) (dN a v) λ_ _=>0) (by omega) (by omega) (λv _=>kX _ _ _),aC]
  have eb:((List.range a.dims.length).map λv=>(⟨dN b v,dN a v,(List.range (lV a b v)).map (λz=>if v=v0/\z=z0 then (1:Int) else 0)⟩:Mt))=(List.range a.dims.length).map λv=>(⟨dN b v,dN a v,dA (dN b v) (dN a v) (unP a v0 z0 v)⟩:Mt):=by
   refine sT λv hv=>?_;congr 1;refine aXy λy hy=>?_;unfold unP;rw [aBj]
  rw [eb,aMw h (λv _=>aYA h.ra.hp _ _ _ _ _),aC];have ef:oY ((List.range a.q.src.length).map λi=>(⟨dN b (tV a i),dN a (sV a i),dA (dN b (tV a i)) (dN a (sV a i)) (aMv a b (unP a v0 z0) i)⟩:Mt))=some (cat (lE a b) (λi y=>aMv a b (unP a v0 z0) i (y / dN a (sV a i)) (y % dN a (sV a i))) a.q.src.length):=aQH (l:=lE a b) (f:=λi y=>aMv a b (unP a v0 z0) i (y / dN a (sV a i)) (y % dN a (sV a i))) (by omega) (by omega);rw [ef,aC,bK (by simp;unfold nV at hk;omega),aJ,cC hk (by unfold nV;omega),←aCT (f:=λk=>aAI (nE a b) λx=>mE a b x k)];congr 5;symm;refine aGB (by rw [sX];rfl) λi y hi hy=>?_;have hx:dG (lE a b) i+y<nE a b:=wY hi hy;unfold aAI;rw [List.getElem?_map,List.getElem?_range hx,Option.map_some];congr 1;obtain ⟨q1,q2⟩:=aFK hy;rw [aUX h hv0 hz0 hi q1 q2];unfold mE;rw [sG _ hi hy,kS,ek,sG _ hv0 hz0,kS];rfl
 ·unfold pA;simp only [kF];rw [show dG (lV a b) a.dims.length=nV a b from rfl,lM (bP _),aY]
theorem aUY {a b:Rp} (h:Fit a b):Tb a.p (nE a b) (nV a b) (mE a b):=by
 have bV:=h.offV (bP _);have bE:=h.offE (bP _);exact ⟨h.ra.hp,Nat.le_trans (Nat.mul_le_mul bE bV) (by decide),by unfold nE;omega,by unfold nV;omega,aUW h⟩
def aIT (a b:Rp):Nat:=nV a b - rkF a.p (nE a b) (nV a b) (mE a b)
theorem aZP {p:Int} {m n:Nat} {F:Nat->Nat->Int} :rkF p m n F<=n:=aCr n
theorem aUZ {a b:Rp} (h:Fit a b):zG a b=some (aIT a b:Int):=by
 have bV:=h.offV (bP _);unfold zG;rw [aGC h,aC,aJh (aUY h),aC];have:= @aZP a.p (nE a b) (nV a b) (mE a b);have e:((cP a.p (nE a b) (mE a b) (nV a b)).2.length)=rkF a.p (nE a b) (nV a b) (mE a b):=rfl;simp only;rw [e,cU (by unfold nV at*;omega)];unfold aIT;congr 1;omega
end
end Go.Proofs.YtgkfbfiiaphgoaaGreat

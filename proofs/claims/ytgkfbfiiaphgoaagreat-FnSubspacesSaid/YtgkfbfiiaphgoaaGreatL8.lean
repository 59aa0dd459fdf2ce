/-
  Several texts of the claim in one.
-/
import Derived.Test.YtgkfbfiiaphgoaaGreatL7
set_option linter.unusedVariables false
set_option linter.unusedSimpArgs false
namespace Go.Proofs.YtgkfbfiiaphgoaaGreat
open Go.RowKit
noncomputable section
theorem aGS {α β:Type} {l:List α} {f:α→β} {body:List β×Int→Option ((List β×Int) ⊕ List β)} (hl:l.length≤4611686018427387904)
  (hs: ∀ (k:Nat) (hk:k<l.length) (o:List β),o.length=k→body (o,k)=some (.inl (o++[f l[k]],wr (k+1)))) (he: ∀ o,body (o,l.length)=some (.inr o)):Lp body ([],0)=some (l.map f):=by
 rw [fV (r:=l.map f) (λk=>((l.take k).map f,(k:Int))) l.length (by simp) (λk hk=>?_) (λ_=>?_)]
 ·rw [hs k hk _ (by simp;omega),dI hk hl,aBE hk,List.map_append];rfl
 ·rw [he,List.take_length]
theorem aJU {σ ρ:Type} {body:σ→Option (σ ⊕ ρ)} (I:Nat→σ) (n:Nat) (P:Nat→Bool) (b fin:ρ)
  (hs: ∀ k,k<n→(∀ j,j<k→P j=true)→body (I k)=some (bif P k then .inl (I (k+1)) else .inr b)) (he:(∀ j,j<n→P j=true)→body (I n)=some (.inr fin)):Lp body (I 0)=some (bif (List.range n).all P then fin else b):=by
 have key: ∀ d k,k+d=n→(∀ j,j<k→P j=true)→Lp body (I k)=some (bif (List.range n).all P then fin else b):=by
  intro d;induction d with
  |zero=>
   intro k hk hP;have:k=n:=by omega
   subst this;rw [pB (he hP),show (List.range k).all P=true from nK.2 hP];rfl
  |succ d ih=>
   intro k hk hP;have h:=hs k (by omega) hP;cases e:P k with
   |true=>
    rw [e] at h;rw [rQ h]
    exact ih (k+1) (by omega) λj hj=>by
     rcases fA j k with h1|h1
     ·exact hP j h1
     ·rw [show j=k by omega];exact e
   |false=>
    rw [e] at h
    have:(List.range n).all P=false:=by
     cases h2:(List.range n).all P with
     |false=>rfl
     |true=>rw [nK.1 h2 k (by omega)] at e;cases e
    rw [pB h,this];rfl
 exact key n 0 (by omega) λj hj=>absurd hj (Nat.not_lt_zero _)
def gS (n:Nat):Qv:=⟨(n+1:Nat),(List.range n).map λk:Nat=>(k:Int),List.replicate n (n:Int)⟩
def qH (n:Int):Qv×Bool:=bif rR n 1 4 then (gS n.toNat,true) else (⟨0,[],[]⟩,false)
theorem aHc {α:Type} (k:Nat) (x:α):List.replicate k x++[x]=List.replicate (k+1) x:=(List.replicate_succ' ..).symm
theorem aDv (k:Nat):((List.range k).map λk:Nat=>(k:Int))++[(k:Int)]=(List.range (k+1)).map λk:Nat=>(k:Int):=by rw [List.range_succ,List.map_append];rfl
theorem xZ (n:Int):gL n=some (qH n):=by
 unfold gL qH;rw [uD,aA];cases h:rR n 1 4 with
 |false=>rfl
 |true=>
  have hb:=fG h;obtain ⟨k,rfl⟩: ∃ k:Nat,n=k:=⟨n.toNat,by omega⟩;rw [dC,aV,aQ,fL];rw [fV (r:=((List.range k).map (λk:Nat=>(k:Int)),List.replicate k (k:Int))) (λi=>((List.range i).map (λk:Nat=>(k:Int)),List.replicate i (k:Int),(i:Int))) k (by simp) (λi hi=>?_) (λ_=>?_),aA,dV (by omega)]
  ·rfl
  ·unfold pJ;simp only;rw [nR hi,aQ,bG (by simp;omega),aQ,bG (by simp;omega),aQ,dI hi (by omega),aDv,aHc]
  ·unfold pJ;simp only;rw [qA (bY _),aV]
theorem aAw (n:Int):lG n=some (qH n):=by
 unfold lG qH;rw [tR,aA];cases h:rR n 1 4 with
 |false=>rfl
 |true=>
  have hb:=fG h;obtain ⟨k,rfl⟩: ∃ k:Nat,n=k:=⟨n.toNat,by omega⟩;rw [dC,aV,aQ,fL];rw [fV (r:=((List.range k).map (λk:Nat=>(k:Int)),List.replicate k (k:Int))) (λi=>((List.range i).map (λk:Nat=>(k:Int)),List.replicate i (k:Int),(i:Int))) k (by simp) (λi hi=>?_) (λ_=>?_),aA,dV (by omega)]
  ·rfl
  ·unfold pK;simp only;rw [nR hi,aQ,bG (by simp;omega),aQ,bG (by simp;omega),aQ,dI hi (by omega),aDv,aHc]
  ·unfold pK;simp only;rw [qA (bY _),aV]
theorem aBk (n:Int):bQ (qH n).1:=by
 unfold qH;cases h:rR n 1 4 with
 |false=>exact ⟨by simp [bI],by simp [bI],trivial⟩
 |true=>
  have hb:=fG h;exact ⟨by simp [bI,gS];omega,by simp [bI,gS];omega,trivial⟩
def rD (r c:Nat) (F:Nat→Nat→Int):List (List Int):=(List.range c).map λk=>jE r λi=>F i k
theorem aLr {r c k:Nat} (hN:r*c≤1048576) (hr:r≤1048576) (hk:k<c) (F:Nat→Nat→Int):kZ ⟨r,c,dE r c F⟩ k=some (jE r λi=>F i k):=by
 unfold kZ;simp only;rw [bG (by omega),bG (by omega:(r:Int)≤1048576),Bool.and_self,aQ];rw [fV (r:=jE r λi=>F i k) (λt=>(jE r (λi=>if i<t then F i k else 0),(t:Int))) r (by simp [aKR]) (λt ht=>?_) (λ_=>?_),aA]
 ·unfold iY;simp only [List.length_replicate,fL];rw [nR ht,aQ,atT hN ht hk,aA,aDC _ ht,aA,aHY ht,dI ht (by omega)];congr 3;refine vL λb hb=>?_;by_cases e:b=t
  ·rw [bF e,bF (by omega),e]
  ·rw [bJ e];by_cases e2:b<t
   ·rw [bF e2,bF (by omega)]
   ·rw [bJ e2,bJ (by omega)]
 ·unfold iY;simp only [List.length_replicate,fL];rw [qA (bY _),aV];congr 2;exact vL λb hb=>by rw [bF hb]
theorem aKT {r c:Nat} (hN:r*c≤1048576) (hr:r≤1048576) (hc:c≤1048576) (F:Nat→Nat→Int):kM ⟨r,c,dE r c F⟩=some (rD r c F):=by
 unfold kM;rw [fV (r:=rD r c F) (λk=>(rD r k F,(k:Int))) c (by simp [rD]) (λk hk=>?_) (λ_=>?_),aA]
 ·unfold iL;simp only;rw [nR hk,aQ,aLr hN hr hk,aA,bG (by simp [rD];omega),aQ,dI hk (by omega)];congr 3;unfold rD;rw [List.range_succ,List.map_append];rfl
 ·unfold iL;simp only;rw [qA (bY _),aV]
def nB (r:Nat) (F:Nat→Nat→Int) (L:List Nat):List (List Int):=L.map λk=>jE r λi=>F i k
theorem aDw {p:Int} {m:Nat} {F:Nat→Nat→Int} {t i:Nat} (h:i<(bA p m F t).2.length):(bA p m F t).2[i]'h<t:=zA t _ (List.getElem_mem h)
theorem aKU {p:Int} {m n:Nat} {F:Nat→Nat→Int} (T:Tb p m n F):sC p ⟨m,n,dE m n F⟩=some (nB m F (bA p m F n).2):=by
 have hL:= @mB p m F n;have hm:=T.hm;unfold sC;rw [xX T,aA];rw [aGS (l:=(bA p m F n).2) (f:=λk=>jE m λi=>F i k) (by omega) (λk hk o ho=>?_) (λo=>?_),aA]
 ·rfl
 ·have hlt:=aDw hk;unfold oD;simp only;rw [dP,nR hk,aQ];rw [fV (r:=jE m λi=>F i (bA p m F n).2[k]) (λt=>(jE t (λi=>F i (bA p m F n).2[k]),(t:Int))) m (by simp [jE]) (λt ht=>?_) (λ_=>?_),aA,bG (by omega),aQ]
  ·unfold oC;simp only;rw [nR ht,aQ,eA (by rw [dP];exact hk),aA];have e:(gJ (bA p m F n).2)[k]'(by rw [dP];exact hk)=(((bA p m F n).2[k]:Nat):Int):=by simp [gJ]
   rw [e,atT T.hN ht hlt,aA,bG (by rw [kC];simp;omega),aQ,dI ht (by omega)];congr 3;unfold jE;rw [List.range_succ,List.map_append];rfl
  ·unfold oC;simp only;rw [qA (bY _),aV]
 ·unfold oD;simp only;rw [dP,qA (bY _),aV]
theorem aDx {p:Int} (hp:iI p=true) {n:Nat} {l l':List (List Int)} (h:uW p l.length n (bD l)) (h':uW p l'.length n (bD l')) (hK: ∀ x,Kr p l.length n (bD l) x↔Kr p l'.length n (bD l') x):dW p n l=dW p n l':=by
 obtain ⟨e1,e2⟩:=aBT hp h h' hK;unfold dW;rw [←e1];exact zB e2
theorem aDy {p:Int} {f:Nat→Int} : ∀ {n:Nat},(∀ k,k<n→Z0 p (f k))→Z0 p (sN f n)
 |0,_=>by unfold Z0;simp [sN]
 |n+1,h=>aAm (aDy λk hk=>h k (by omega)) (h n (by omega))
theorem aMv {p:Int} {r c:Nat} {F:Nat→Nat→Int} {x:Nat→Int} :Kr p (rD r c F).length r (bD (rD r c F)) x↔ ∀ k,k<c→Z0 p (dt r (λi=>F i k) x):=by
 have e: ∀ k,k<c→dt r (bD (rD r c F) k) x=dt r (λi=>F i k) x:=λk hk=>dB λi hi=>by simp [bD,rD,jE,hk,hi]
 have hl:(rD r c F).length=c:=by simp [rD]
 unfold Kr;rw [hl];exact ⟨λh k hk=>e k hk▸h k hk,λh k hk=>(e k hk).symm ▸h k hk⟩
theorem aKV {p:Int} {r:Nat} {F:Nat→Nat→Int} {L:List Nat} {x:Nat→Int} :Kr p (nB r F L).length r (bD (nB r F L)) x↔ ∀ t,t<L.length→Z0 p (dt r (λi=>F i (L[t]?.getD 0)) x):=by
 have e: ∀ t,t<L.length→dt r (bD (nB r F L) t) x=dt r (λi=>F i (L[t]?.getD 0)) x:=λt ht=>dB λi hi=>by simp [bD,nB,jE,ht,hi]
 have hl:(nB r F L).length=L.length:=by simp [nB]
 unfold Kr;rw [hl];exact ⟨λh k hk=>e k hk▸h k hk,λh k hk=>(e k hk).symm ▸h k hk⟩
theorem aNs {r n k:Nat} {F R:Nat→Nat→Int} {L:List Nat} {x:Nat→Int} :dt r (λi=>F i k - sN (λt=>F i (L[t]?.getD 0)*R t k) n) x=dt r (λi=>F i k) x - sN (λt=>R t k*dt r (λi=>F i (L[t]?.getD 0)) x) n:=by
 induction n with
 |zero=>simp [sN,dt]
 |succ n ih=>
  have e:dt r (λi=>F i k - sN (λt=>F i (L[t]?.getD 0)*R t k) (n+1)) x=dt r (λi=>(F i k - sN (λt=>F i (L[t]?.getD 0)*R t k) n)+(-(R n k))*F i (L[n]?.getD 0)) x:=dB λi hi=>by
   congr 1;show F i k - (sN (λt=>F i (L[t]?.getD 0)*R t k) n+F i (L[n]?.getD 0)*R n k)=F i k - sN (λt=>F i (L[t]?.getD 0)*R t k) n+(-(R n k))*F i (L[n]?.getD 0);rw [Int.neg_mul,Int.mul_comm (R n k)];omega
  rw [e,aIU,ih,Int.neg_mul];show _=dt r (λi=>F i k) x - (sN (λt=>R t k*dt r (λi=>F i (L[t]?.getD 0)) x) n+R n k*dt r (λi=>F i (L[n]?.getD 0)) x);omega
theorem aFa {p:Int} (hp:iI p=true) {r c:Nat} {F:Nat→Nat→Int} (hF:uW p r c F):dW p r (rD r c F)=dW p r (nB r F (bA p r F c).2):=by
 have hb:=eP hp;have hR:=tY hp hF c (bY _)
 have i1:uW p (rD r c F).length r (bD (rD r c F)):=by
  intro k i hk hi;have hk:k<c:=by simpa [rD] using hk
  have e:bD (rD r c F) k i=F i k:=by simp [bD,rD,jE,hk,hi]
  rw [e];exact hF i k hi hk
 have i2:uW p (nB r F (bA p r F c).2).length r (bD (nB r F (bA p r F c).2)):=by
  intro k i hk hi;have hk:k<(bA p r F c).2.length:=by simpa [nB] using hk
  have e:bD (nB r F (bA p r F c).2) k i=F i ((bA p r F c).2[k]):=by simp [bD,nB,jE,hk,hi]
  rw [e];exact hF i _ hi (aDw hk)
 refine aDx hp i1 i2 λx=>?_;rw [aMv,aKV];constructor
 ·intro h t ht;exact h _ (hR.lt t ht)
 ·intro h k hk;by_cases hL: ∃ i,i<(bA p r F c).2.length∧(bA p r F c).2[i]?.getD 0=k
  ·obtain ⟨i,h1,rfl⟩:=hL;exact h i h1
  ·have hL': ∀ i,i<(bA p r F c).2.length→(bA p r F c).2[i]?.getD 0≠k:=λi hi e=>hL ⟨i,hi,e⟩;have hk1:=(wG hp hF (kx (bA p r F c).1 (bA p r F c).2 k) c (bY _)).1 (zF hR hk hL')
   have hz:Z0 p (dt r (λi=>F i k - sN (λt=>F i ((bA p r F c).2[t]?.getD 0)*(bA p r F c).1 t k) (bA p r F c).2.length) x):=by
    unfold dt;refine aDy λi hi=>?_;have:=hk1 i hi;rw [aFG hR hk hL'] at this;rw [Int.mul_comm];exact sV _ this
   rw [aNs] at hz;have hs:Z0 p (sN (λt=>(bA p r F c).1 t k*dt r (λi=>F i ((bA p r F c).2[t]?.getD 0)) x) (bA p r F c).2.length):=aDy λt ht=>sV _ (h t ht);have:=aAm hz hs
   rwa [Int.sub_add_cancel] at this
theorem aFb {p:Int} {r c:Nat} {F:Nat→Nat→Int} (hF:uW p r c F):VecsP p r (rD r c F):=by
 intro v hv;unfold rD at hv;obtain ⟨k,hk,rfl⟩:=List.mem_map.1 hv;refine ⟨kC _ _,λx hx=>?_⟩;obtain ⟨i,hi,rfl⟩:=List.mem_map.1 hx;exact hF i k (List.mem_range.1 hi) (List.mem_range.1 hk)
theorem aHd {p:Int} {r c:Nat} {F:Nat→Nat→Int} (hF:uW p r c F) {L:List Nat} (hL: ∀ k∈L,k<c):VecsP p r (nB r F L):=by
 intro v hv;unfold nB at hv;obtain ⟨k,hk,rfl⟩:=List.mem_map.1 hv;refine ⟨kC _ _,λx hx=>?_⟩;obtain ⟨i,hi,rfl⟩:=List.mem_map.1 hx;exact hF i k (List.mem_range.1 hi) (hL k hk)
def aIg (p:Int) (m:Mt):Sc:=⟨m.rows,dW p m.rows.toNat (rD m.rows.toNat m.cols.toNat λi k=>m.cells[i*m.cols.toNat+k]?.getD 0)⟩
theorem aBl {p:Int} {r c:Nat} {F:Nat→Nat→Int} :aIg p ⟨r,c,dE r c F⟩=⟨r,dW p r (rD r c F)⟩:=by
 unfold aIg;simp only [fL];congr 2;refine yC λk hk=>vL λi hi=>?_;simp only [kV F hi (List.mem_range.1 hk),jJ]
def aAW (r:Rp):List Sc×Bool:=bif aAJ r&&((qH (wr (r.q.n - 1))).2&&decide ((qH (wr (r.q.n - 1))).1=r.q)) then (r.maps.map (aIg r.p),true) else ([],false)
theorem aDz {r:Rp} (h:aAJ r=true) {k:Nat} (hk:k<r.maps.length):aAI r.p r.maps[k]=true:=by
 have:=((aHX h).2.2.2 k hk).1
 rwa [gZ hk,jJ] at this
theorem aEA {r:Rp} (h:aAJ r=true):r.maps.length≤6:=by
 obtain ⟨_,h2,h3,_⟩:=aHX h;obtain ⟨n,_,_,_,_,h4,_⟩:=tS (zJ h2).1;omega
theorem aLs {p:Int} (hp:iI p=true) {r c:Nat} (hr:r≤8) (hc:c≤8) {F:Nat→Nat→Int} (hF:uW p r c F):Tb p r c F:=⟨hp,by have:=Nat.mul_le_mul hr hc;omega,by omega,by omega,hF⟩
theorem aEB {r:Rp} (h:bR r):iC r=some (aAW r):=by
 have hsb:=aBk (wr (r.q.n - 1));unfold iC aAW;rw [aAw,aA];cases h1:(qH (wr (r.q.n - 1))).2 with
 |false=>rw [Bool.false_and,Bool.and_false];rfl
 |true=>
  rw [dC,aV,aFS h,aA];cases h2:aAJ r with
  |false=>rfl
  |true=>
   rw [dC,aV,aKI hsb,aA,Bool.true_and,Bool.true_and];cases h3:decide ((qH (wr (r.q.n - 1))).1=r.q) with
   |false=>rfl
   |true=>
    have h6:=aEA h2;rw [dC,aV,aQ];unfold uF;rw [aGS (l:=r.maps) (f:=aIg r.p) (by omega) (λk hk o ho=>?_) (λo=>?_)]
    ·rfl
    ·obtain ⟨hp,a,b,F,ha,hb,e,hF⟩:=aAv (aDz h2 hk);have T:=aLs hp ha hb hF;unfold nA;simp only;rw [nR hk,aQ,eA hk,aA,e,aKT T.hN T.hm T.hn,aA];simp only;rw [xY hp (by omega) (by simp [rD];omega) (aFb hF),aA,bG (by omega),aQ,aBl]
    ·unfold nA;simp only;rw [qA (bY _),aV]
theorem aIh {r:Rp} (h:bR r):kD r=some (aAW r):=by
 have hsb:=aBk (wr (r.q.n - 1));unfold kD aAW;rw [aKL h,aA];cases h2:aAJ r with
 |false=>rfl
 |true=>
  rw [dC,aV,xZ,aA,Bool.true_and];cases h1:(qH (wr (r.q.n - 1))).2 with
  |false=>rfl
  |true=>
   rw [dC,aV,aCL hsb,aA,Bool.true_and];cases h3:decide ((qH (wr (r.q.n - 1))).1=r.q) with
   |false=>rfl
   |true=>
    have h6:=aEA h2;rw [dC,aV,aQ];rw [aGS (l:=r.maps) (f:=aIg r.p) (by omega) (λk hk o ho=>?_) (λo=>?_)]
    ·rfl
    ·obtain ⟨hp,a,b,F,ha,hb,e,hF⟩:=aAv (aDz h2 hk);have T:=aLs hp ha hb hF;have hL:= @vH r.p a F b;unfold kO;simp only;rw [nR hk,aQ,eA hk,aA,aA,e,aKU T,aA];simp only;rw [aBi hp (by omega) (by simp [nB];omega) (aHd hF λk hk=>zA b k hk),aA,bG (by omega),aQ,aBl,aFa hp hF]
    ·unfold kO;simp only;rw [qA (bY _),aV]
theorem aMw (r:Rp):(aAW r).1.length ≤1048576∧ ∀ s∈(aAW r).1,bS s:=by
 unfold aAW;cases h:aAJ r&&((qH (wr (r.q.n - 1))).2&&decide ((qH (wr (r.q.n - 1))).1=r.q)) with
 |false=>simp
 |true=>
  have h2:aAJ r=true:=by simp only [cY] at h;exact h.1
  have h6:=aEA h2;rw [aQ];refine ⟨by simp;omega,λs hs=>?_⟩;obtain ⟨m,hm,rfl⟩:=List.mem_map.1 hs;obtain ⟨k,hk,rfl⟩:=List.mem_iff_getElem.1 hm;obtain ⟨hp,a,b,F,ha,hb,e,hF⟩:=aAv (aDz h2 hk);rw [e,aBl];exact ⟨aBj hp (by omega) (aFb hF),trivial⟩
end
noncomputable section
theorem aLt {k:Nat} {f:Nat→Nat} (hlt: ∀ t,t<k→f t<k) (hinc: ∀ s t,s<t→t<k→f s<f t): ∀ t,t<k→f t=t:=by
 have h1: ∀ t,t<k→t≤f t:=by
  intro t;induction t with
  |zero=>intro _;exact Nat.zero_le _
  |succ t ih=>intro h;have:=ih (by omega);have:=hinc t (t+1) (by omega) h;omega
 have h2: ∀ d t,t+d+1=k→f t≤t:=by
  intro d;induction d with
  |zero=>intro t h;have:=hlt t (by omega);omega
  |succ d ih=>intro t h;have:=ih (t+1) (by omega);have:=hinc t (t+1) (by omega) (by omega);omega
 intro t ht;have:=h1 t ht;have:=h2 (k - t - 1) t (by omega);omega
theorem aIi {L M:List Nat} (hL: ∀ i k,i<k→k<L.length→L[i]?.getD 0<L[k]?.getD 0) (hM: ∀ i k,i<k→k<M.length→M[i]?.getD 0<M[k]?.getD 0) (hs: ∀ t,t<M.length→ ∃ i,i<L.length∧L[i]?.getD 0=M[t]?.getD 0) (hl:L.length=M.length):L=M:=by
 have hs': ∀ t:Nat,∃ i,t<M.length→i<L.length∧L[i]?.getD 0=M[t]?.getD 0:=λt=>by
  by_cases h:t<M.length
  ·obtain ⟨i,hi⟩:=hs t h;exact ⟨i,λ_=>hi⟩
  ·exact ⟨0,λh'=>absurd h' h⟩
 obtain ⟨f,hf⟩:=Classical.axiomOfChoice hs'
 have e:=aLt (k:=M.length) (f:=f) (λt ht=>hl▸(hf t ht).1) (λs t hst ht=>by
  rcases Nat.lt_trichotomy (f s) (f t) with h|h|h
  ·exact h
  ·have a:=(hf s (by omega)).2;have b:=(hf t ht).2;have c:=hM s t hst ht;rw [h,b] at a;omega
  ·have a:=(hf s (by omega)).2;have b:=(hf t ht).2;have c:=hM s t hst ht;have:=hL (f t) (f s) h (hf s (by omega)).1
   omega)
 refine List.ext_getElem hl λi h1 h2=>?_;have:=(hf i h2).2;rw [e i h2] at this;simpa [h1,h2] using this
theorem aLu {p:Int} (hp:iI p=true) {m m' n:Nat} {F G:Nat→Nat→Int} {L M:List Nat} (hF:Red m n F L) (hG:Red m' n G M) (iF:uW p m n F) (iG:uW p m' n G) (hK: ∀ x,Kr p m n F x→Kr p m' n G x) (hl:L.length=M.length):L=M∧ ∀ i j,i<L.length→j<n→F i j=G i j:=by
 have e:L=M:=aIi hF.inc hG.inc (λt ht=>aGE hp hF hG hK ht) hl;subst e;refine ⟨rfl,λi k hi hk=>?_⟩;have hm:=hF.len;have hm':=hG.len;by_cases hL: ∃ t,t<L.length∧L[t]?.getD 0=k
 ·obtain ⟨t,ht,rfl⟩:=hL;by_cases e:i=t
  ·subst e;rw [hF.one i hi,hG.one i hi]
  ·rw [hF.col t i ht (by omega) e,hG.col t i ht (by omega) e]
 ·have hL: ∀ t,t<L.length→L[t]?.getD 0≠k:=λt ht e=>hL ⟨t,ht,e⟩;have h1:=hK _ (zF (p:=p) hF hk hL) i (by omega);rw [aFG hF hk hL,xS (j:=i) hi (λt ht hti=>by rw [hG.col t i ht (by omega) (λe=>hti e.symm)];simp),hG.one i hi,Int.one_mul] at h1;unfold Z0 at h1;have b1:=iF i k (by omega) hk;have b2:=iG i k (by omega) hk
  have e1:G i k % p=F i k % p:=by
   have:=Int.emod_emod_of_dvd;exact Int.emod_eq_emod_iff_emod_sub_eq_zero.2 h1
  rw [Int.emod_eq_of_lt b2.1 b2.2,Int.emod_eq_of_lt b1.1 b1.2] at e1;exact e1.symm
theorem uZ {p:Int} {n:Nat} {l:List (List Int)} (hp:iI p=true) (hv:VecsP p n l) (hs:dW p n l=l): ∃ L,L.length=l.length∧Red l.length n (bD l) L:=by
 have hi:=hv.inP;have hr:=tY hp hi n (bY _)
 have hlen:(bA p l.length (bD l) n).2.length=l.length:=by
  have:=congrArg List.length hs;unfold dW at this;rw [mR] at this;exact this
 have hrow: ∀ i j,i<l.length→j<n→(bA p l.length (bD l) n).1 i j=bD l i j:=by
  intro i j hi hj;have:=aAk (bA p l.length (bD l) n).1 (bA p l.length (bD l) n).2.length n i j (by omega) hj;unfold dW at hs;rw [hs] at this;exact this.symm
 refine ⟨_,hlen,⟨hr.lt,hr.inc,by omega,λi h=>?_,λi k h hk hne=>?_,λi j h h2 hj=>?_,λi j h hj=>?_⟩⟩
 ·rw [←hrow i _ (by omega) (hr.lt i h)];exact hr.one i h
 ·rw [←hrow k _ hk (hr.lt i h)];exact hr.col i k h hk hne
 ·omega
 ·rw [←hrow i j (by omega) (by have:=hr.lt i h;omega)];exact hr.left i j h hj
theorem aKW {p:Int} {n:Nat} {a b:List (List Int)} {x:Nat→Int} :Kr p (a++b).length n (bD (a++b)) x↔Kr p a.length n (bD a) x∧Kr p b.length n (bD b) x:=by
 have e1: ∀ i,i<a.length→bD (a++b) i=bD a i:=λi hi=>by funext j;simp only [bD];rw [List.getElem?_append_left hi]
 have e2: ∀ i,bD (a++b) (a.length+i)=bD b i:=λi=>by funext j;simp only [bD];rw [List.getElem?_append_right (by omega),Nat.add_sub_cancel_left]
 unfold Kr;rw [List.length_append];refine ⟨λh=>⟨λi hi=>e1 i hi▸h i (by omega),λi hi=>e2 i▸h (a.length+i) (by omega)⟩,λh i hi=>?_⟩;rcases fA i a.length with h'|h'
 ·rw [e1 i h'];exact h.1 i h'
 ·have:=h.2 (i - a.length) (by omega);rw [←e2,show a.length+(i - a.length)=i by omega] at this;exact this
end
noncomputable section
def vM (x:List Int):Nat→Int:=λk=>x[k]?.getD 0
theorem aBm {l:List (List Int)} {i:Nat} (hi:i<l.length):vM l[i]=bD l i:=by
 funext k;unfold vM bD;rw [gZ hi,jJ]
theorem vR (n:Nat) (f x:Nat→Int):dt n f x=dt n x f:=dB λk _=>Int.mul_comm _ _
theorem aGT {p:Int} {n:Nat} {f x y:Nat→Int} (h: ∀ k,k<n→x k % p=y k % p):dt n f x % p=dt n f y % p:=by
 unfold dt;refine aJK λk hk=>?_;rw [Int.mul_emod,h k hk,←Int.mul_emod]
theorem aKX {p:Int} {n:Nat} {l:List (List Int)} {x:Nat→Int} (h:Kr p l.length n (bD l) x) {w:List Int} (hw:w∈l):Z0 p (dt n (vM w) x):=by
 obtain ⟨i,hi,rfl⟩:=List.getElem_of_mem hw;rw [aBm hi];exact h i hi
theorem aJV {p:Int} {n:Nat} {l:List (List Int)} {x:Nat→Int} (h: ∀ w∈l,Z0 p (dt n (vM w) x)):Kr p l.length n (bD l) x:=λi hi=>by
 rw [←aBm hi];exact h _ (List.getElem_mem hi)
theorem aHe {p:Int} (hp:iI p=true) {n:Nat} {l:List (List Int)} (hl:uW p l.length n (bD l)) (x:Nat→Int):Kr p (dW p n l).length n (bD (dW p n l)) x↔Kr p l.length n (bD l) x:=by
 have hr:=tY hp hl n (bY _);have hk:=wG hp hl x n (bY _);have hm:=hr.len;rw [←hk];unfold dW;rw [mR];have e: ∀ i,i<(bA p l.length (bD l) n).2.length→dt n (bD (fH (bA p l.length (bD l) n).1 (bA p l.length (bD l) n).2.length n) i) x=dt n ((bA p l.length (bD l) n).1 i) x:=λi hi=>dB λj hj=>by rw [aAk _ _ _ _ _ hi hj]
 constructor
 ·intro h i hi;rcases fA i (bA p l.length (bD l) n).2.length with h'|h'
  ·rw [←e i h'];exact h i h'
  ·have e0:dt n ((bA p l.length (bD l) n).1 i) x=0:=by
    unfold dt;rw [dB (g:=λ_=>0) (λk hk=>by rw [hr.low i k h' hi hk];simp),rS]
   rw [e0];unfold Z0;simp
 ·intro h i hi;rw [e i hi];exact h i (by omega)
theorem aEC {p:Int} {m n:Nat} {R:Nat→Nat→Int} {L:List Nat} (h:Red m n R L) {x:Nat→Int} (hx: ∀ k,k<n→(∀ i,i<L.length→L[i]?.getD 0≠k)→Z0 p (dt n x (kx R L k))): ∀ k,k<n→x k % p=sN (λi=>x (L[i]?.getD 0)*R i k) L.length % p:=by
 intro k hk;by_cases hf: ∀ i,i<L.length→L[i]?.getD 0≠k
 ·have h1:=hx k hk hf;rw [aFG h hk hf x] at h1;exact Int.emod_eq_emod_iff_emod_sub_eq_zero.2 h1
 ·obtain ⟨j,hj,e⟩: ∃ j,j<L.length∧L[j]?.getD 0=k:=Classical.byContradiction λhn=>hf λi hi e=>hn ⟨i,hi,e⟩;have hm:=h.len
  rw [xS (j:=j) hj λi hi hne=>by
   have:=h.col j i hj (by omega) hne;rw [e] at this
   rw [this,Int.mul_zero]]
  have:=h.one j hj;rw [e] at this;rw [this,e,Int.mul_one]
theorem aHf {p:Int} {m n:Nat} {F:Nat→Nat→Int} {L:List Nat} (h:Red m n F L) {k:Nat} (hk:k<n) (hL: ∀ i,i<L.length→L[i]?.getD 0≠k): ∀ t,t≤L.length→ ∀ c,c<n→vM (xR p n F L k t) c % p=(if c=k then 1 else -(sN (λi=>if L[i]?.getD 0=c then F i k else 0) t)) % p
 |0,_,c,hc=>by
  unfold xR vM;rw [List.getElem?_set,List.length_replicate];by_cases e:c=k
  ·rw [bF e.symm,bF hk,bF e];rfl
  ·rw [bJ λh=>e h.symm,bJ e];simp [hc,sN]
 |t+1,ht,c,hc=>by
  have ih:=aHf (p:=p) h hk hL t (by omega) c hc;have hlt:=h.lt t (by omega);have hne:=hL t (by omega);unfold xR vM;rw [List.getElem?_set,zC];by_cases e:L[t]?.getD 0=c
  ·rw [bF e,bF (by omega),jJ,Int.emod_emod_of_dvd _ (Int.dvd_refl p),bJ (by omega),sN,bF e];rw [dB (g:=λ_=>0) λi hi=>?_,rS,Int.zero_add];rw [bJ];intro e2;have:=h.inc i t hi (by omega);omega
  ·rw [bJ e];refine ih.trans ?_;rw [sN,bJ e,Int.add_zero]
theorem aHg {p:Int} {m n:Nat} {F:Nat→Nat→Int} {L:List Nat} (h:Red m n F L) {k:Nat} (hk:k<n) (hL: ∀ i,i<L.length→L[i]?.getD 0≠k) {c:Nat} (hc:c<n):vM (xR p n F L k L.length) c % p=kx F L k c % p:=aHf h hk hL _ (bY _) c hc
theorem aIj {p:Int} {n:Nat} {F:Nat→Nat→Int} {L:List Nat} {k:Nat} (hk:k<n) (hL: ∀ i,i<L.length→L[i]?.getD 0≠k):xR p n F L k L.length∈tN p n F L:=by
 unfold tN;refine List.mem_map.2 ⟨k,List.mem_filter.2 ⟨List.mem_range.2 hk,?_⟩,rfl⟩
 have:k ∉ L:=λh=>by
  obtain ⟨i,hi,e⟩:=List.getElem_of_mem h;exact hL i hi (by rw [gZ hi];exact e)
 simpa using this
theorem aHh (c x:Nat→Int) (u:Nat→Nat→Int) (N:Nat): ∀ n,sN (λt=>c t*sN (λq=>x q*u q t) N) n=sN (λq=>x q*sN (λt=>c t*u q t) n) N
 |0=>by
  rw [dB (f:=λq=>x q*sN (λt=>c t*u q t) 0) (g:=λ_=>0) (n:=N) λq _=>by simp [sN],rS];rfl
 |n+1=>by
  rw [sN,aHh c x u N n,←aCD,←aDd];refine dB λq _=>?_;rw [sN,Int.mul_add,Int.mul_left_comm (c n)]
theorem aKY {p:Int} (hp:iI p=true) {m n:Nat} {F:Nat→Nat→Int} (hi:uW p m n F) {x:Nat→Int} (hx: ∀ w∈tN p n (bA p m F n).1 (bA p m F n).2,Z0 p (dt n (vM w) x)) {y:Nat→Int} (hy:Kr p m n F y):Z0 p (dt n y x):=by
 have hR:=tY hp hi n (bY _);have hm:=hR.len;have hyR:=(wG hp hi y n (bY _)).2 hy;generalize (bA p m F n).1=R at hR hx hyR;generalize (bA p m F n).2=L at hR hx hm
 have hrow:=aEC (p:=p) hR (x:=x) λk hk hL=>by
  have h1:=hx _ (aIj (p:=p) (F:=R) hk hL);rw [vR] at h1;exact qB (aGT λc hc=>aHg hR hk hL hc) h1
 have e1:dt n y x % p=dt n y (λk=>sN (λi=>x (L[i]?.getD 0)*R i k) L.length) % p:=aGT hrow
 have e2:dt n y (λk=>sN (λi=>x (L[i]?.getD 0)*R i k) L.length)=sN (λi=>x (L[i]?.getD 0)*dt n (R i) y) L.length:=by
  unfold dt;rw [aHh y (λi=>x (L[i]?.getD 0)) (λi k=>R i k) L.length n];refine dB λi _=>?_;congr 1;exact dB λk _=>Int.mul_comm _ _
 unfold Z0;rw [e1,e2];exact aDy λi hi'=>sV _ (hyR i (by omega))
theorem aMx {p:Int} {n:Nat} {F:Nat→Nat→Int} {L:List Nat} {k:Nat} (hk:k<(fM n L).length):bD (tN p n F L) k=vM (xR p n F L ((fM n L)[k]?.getD 0) L.length):=by
 funext c;unfold bD tN vM;rw [List.getElem?_map,gZ hk];rfl
theorem aCM {p:Int} {n:Nat} {F:Nat→Nat→Int} {L:List Nat} :(tN p n F L).length=(fM n L).length:=by unfold tN;rw [jS]
theorem aJW {p:Int} {m n:Nat} {F:Nat→Nat→Int} {L:List Nat} (h:Red m n F L) {k c:Nat} (hk:k<(fM n L).length) (hc:c<n):bD (tN p n F L) k c % p=kx F L ((fM n L)[k]?.getD 0) c % p:=by
 rw [aMx hk];exact aHg h (aFH hk).1 (aIX (aFH hk).2) hc
theorem aJX {p:Int} (hp:iI p=true) {m n:Nat} {F:Nat→Nat→Int} (hi:uW p m n F) {k:Nat} (hk:k<(tN p n (bA p m F n).1 (bA p m F n).2).length):Kr p m n F (bD (tN p n (bA p m F n).1 (bA p m F n).2) k):=by
 rw [aCM] at hk;have hR:=tY hp hi n (bY _);refine (wG hp hi _ n (bY _)).1 λi him=>?_;exact qB (aGT λc hc=>(aJW hR hk hc).symm) (zF (p:=p) hR (aFH hk).1 (aIX (aFH hk).2) i him)
theorem aJY {p:Int} {c d:Nat→Int} {l l':Nat→Nat→Int} {k:Nat} : ∀ s,(∀ i,i<s→c i*l i k % p=d i*l' i k % p)→vW c l s k % p=vW d l' s k % p:=λs h=>aJK h
theorem aBn {p:Int} {n:Nat} {a:List (List Int)} {w:List Int} {x:Nat} (hx:x<n): ∀ t,vM (mO p n a w t) x % p=vW (vM w) (bD a) t x % p
 |0=>by
  unfold mO vM vW;rw [List.getElem?_replicate,bF hx];rfl
 |t+1=>by
  have ih:=aBn (p:=p) (a:=a) (w:=w) hx t;unfold mO vM;rw [List.getElem?_map,List.getElem?_range hx,Option.map_some,jJ,Int.emod_emod_of_dvd _ (Int.dvd_refl p),Int.add_emod];unfold vM at ih;rw [ih];unfold vW;rw [sN,Int.add_emod (sN _ t)]
theorem aJZ {p:Int} {n:Nat} {a:List (List Int)} {w:List Int} {x:Nat→Int} (t:Nat):dt n (vM (mO p n a w t)) x % p=sN (λi=>vM w i*dt n (bD a i) x) t % p:=by
 rw [aCE (g:=vW (vM w) (bD a) t) λk hk=>aBn hk t,vR,aCG];congr 1;exact dB λi _=>by rw [vR]
theorem aKZ {a b:List (List Int)} {i:Nat} (hi:i<a.length):bD (a++b) i=bD a i:=by
 funext j;simp only [bD];rw [List.getElem?_append_left hi]
theorem aKa {a b:List (List Int)} {i:Nat} :bD (a++b) (a.length+i)=bD b i:=by
 funext j;simp only [bD];rw [List.getElem?_append_right (by omega),Nat.add_sub_cancel_left]
theorem aJa {a b:List (List Int)} (w:Nat→Int) (x:Nat):vW w (bD (a++b)) (a.length+b.length) x=vW w (bD a) a.length x+vW (λj=>w (a.length+j)) (bD b) b.length x:=by
 unfold vW;rw [aBU];congr 1
 ·exact dB λi hi=>by rw [aKZ hi]
 ·exact dB λi hi=>by rw [aKa]
theorem aGU {l:List (List Int)} (w:Nat→Int) (m x:Nat):dt m (fB l x) w=vW w (bD l) m x:=dB λq _=>Int.mul_comm _ _
theorem aJb {m n:Nat} {F:Nat→Nat→Int} {L:List Nat} (h:Red m n F L) (c:Nat→Int) {i:Nat} (hi:i<L.length):vW c F L.length (L[i]?.getD 0)=c i:=by
 unfold vW;have:=h.len;rw [xS hi λj hj hji=>by rw [h.col i j hi (by omega) hji,Int.mul_zero],h.one i hi,Int.mul_one]
def Mb (p:Int) (n:Nat) (l:List (List Int)) (v:Nat→Int):Prop:= ∀ x,Kr p l.length n (bD l) x→Z0 p (dt n v x)
theorem aNt {p:Int} {n:Nat} {l:List (List Int)} {i:Nat} (hi:i<l.length):Mb p n l (bD l i):=λx hx=>hx i hi
theorem aGV {p:Int} {n:Nat} {l l':List (List Int)} (h: ∀ v,Mb p n l v→Mb p n l' v) {x:Nat→Int} (hx:Kr p l'.length n (bD l') x):Kr p l.length n (bD l) x:=λi hi=>h _ (aNt hi) x hx
theorem aOT {p:Int} (hp:iI p=true) {n:Nat} {l l':List (List Int)} (hl:VecsP p n l) (hl':VecsP p n l') (sl:dW p n l=l) (sl':dW p n l'=l') (h: ∀ v,Mb p n l v↔Mb p n l' v):l=l':=by
 rw [←sl,←sl'];exact aDx hp hl.inP hl'.inP λx=>⟨aGV λv=>(h v).2,aGV λv=>(h v).1⟩
theorem aDE {p:Int} {n:Nat} {a b:List (List Int)} (ha:VecsP p n a) (hb:VecsP p n b):uW p n (a++b).length (fB (a++b)):=λi j hi hj=>(ha.append hb).inP j i hj hi
theorem aAX {p:Int} {n:Nat} {a b:List (List Int)} {w:Nat→Int} (hw:Kr p n (a++b).length (fB (a++b)) w) {x:Nat} (hx:x<n):Z0 p (vW w (bD a) a.length x+vW (λj=>w (a.length+j)) (bD b) b.length x):=by
 have:=hw x hx;rw [aGU,List.length_append,aJa] at this;exact this
theorem aKb {p:Int} {n:Nat} {a b:List (List Int)} {x:Nat→Int} (h:Kr p a.length n (bD a) x):Kr p (oP p n a b).length n (bD (oP p n a b)) x:=aJV λw hw=>by
 unfold oP at hw;obtain ⟨k,_,rfl⟩:=List.mem_map.1 hw;exact qB (aJZ _).symm (aDy λi hi=>sV _ (h i hi))
theorem aKc {p:Int} (hp:iI p=true) {n:Nat} {a b:List (List Int)} (ha:VecsP p n a) (hb:VecsP p n b) {x:Nat→Int} (h:Kr p b.length n (bD b) x):Kr p (oP p n a b).length n (bD (oP p n a b)) x:=aJV λw hw=>by
 unfold oP at hw;obtain ⟨k,hk,rfl⟩:=List.mem_map.1 hw;obtain ⟨i,hi,rfl⟩:=List.getElem_of_mem hk;have hK:=aJX hp (aDE ha hb) hi;rw [←aBm hi] at hK;generalize (tN p (a++b).length (bA p n (fB (a++b)) (a++b).length).1 (bA p n (fB (a++b)) (a++b).length).2)[i]=w at hK
 have h1:Z0 p (dt n (vW (vM w) (bD a) a.length) x+dt n (vW (λj=>vM w (a.length+j)) (bD b) b.length) x):=by
  rw [show dt n (vW (vM w) (bD a) a.length) x+dt n (vW (λj=>vM w (a.length+j)) (bD b) b.length) x=dt n (λk=>vW (vM w) (bD a) a.length k+1*vW (λj=>vM w (a.length+j)) (bD b) b.length k) x by rw [aIU,Int.one_mul]];unfold dt;refine aDy λk hk=>?_;have:=sV (x k) (aAX hK hk);rw [Int.mul_comm] at this;simp only [Int.one_mul];exact this
 have h2:Z0 p (dt n (vW (λj=>vM w (a.length+j)) (bD b) b.length) x):=by
  rw [vR,aCG];exact aDy λi hi=>sV _ (by rw [vR];exact h i hi)
 have h3:=aAm h1 (sV (-1) h2);refine qB ?_ h3;rw [aCE (f:=vM (mO p n a w a.length)) (g:=vW (vM w) (bD a) a.length) λk hk=>aBn hk _];congr 1;omega
theorem aKd {p:Int} (hp:iI p=true) {n:Nat} {a b:List (List Int)} (ha:VecsP p n a) (hb:VecsP p n b) (sa:dW p n a=a) (sb:dW p n b=b) {v x:Nat→Int} (va:Mb p n a v) (vb:Mb p n b v) (hx:Kr p (oP p n a b).length n (bD (oP p n a b)) x):Z0 p (dt n v x):=by
 obtain ⟨La,ea,Ra⟩:=uZ hp ha sa;obtain ⟨Lb,eb,Rb⟩:=uZ hp hb sb;have A:=aEC (p:=p) Ra (x:=v) λk hk hL=>va _ (zF Ra hk hL);have B:=aEC (p:=p) Rb (x:=v) λk hk hL=>vb _ (zF Rb hk hL);rw [ea] at A;rw [eb] at B;obtain ⟨y,hyd⟩: ∃ y:Nat→Int,y=λq=>if q<a.length then v (La[q]?.getD 0) else -(v (Lb[q - a.length]?.getD 0)):=⟨_,rfl⟩
 have hy1: ∀ k,vW y (bD a) a.length k=sN (λi=>v (La[i]?.getD 0)*bD a i k) a.length:=λk=>dB λi hi=>by rw [hyd];simp only;rw [bF hi]
 have hy2: ∀ k,vW (λj=>y (a.length+j)) (bD b) b.length k=(-1)*sN (λi=>v (Lb[i]?.getD 0)*bD b i k) b.length:=λk=>by
  rw [←aCD];refine dB λi hi=>?_;rw [hyd];simp only;rw [bJ (by omega),Nat.add_sub_cancel_left,Int.neg_mul,Int.neg_mul,Int.one_mul]
 have hK:Kr p n (a++b).length (fB (a++b)) y:=λk hk=>by
  rw [aGU,List.length_append,aJa,hy1,hy2];unfold Z0;rw [Int.add_emod,Int.mul_emod,←A k hk,←B k hk,←Int.mul_emod,←Int.add_emod,show v k+ -1*v k=0 by omega];simp
 have hX:=aKY hp (aDE ha hb) (x:=λq=>if q<a.length then dt n (bD a q) x else 0) (y:=y) (λw hw=>?_) hK
 ·rw [List.length_append] at hX;unfold dt at hX
  rw [aBU,dB (g:=λi=>v (La[i]?.getD 0)*dt n (bD a i) x) λi hi=>by
   rw [hyd];simp only;rw [bF hi,bF hi]
   rfl] at hX
  rw [dB (f:=λj=>y (a.length+j)*(if a.length+j<a.length then sN (λk=>bD a (a.length+j) k*x k) n else 0)) (g:=λ_=>0) λi hi=>by rw [bJ (by omega),Int.mul_zero],rS,Int.add_zero] at hX;refine qB ?_ hX;have e:=aCE (p:=p) (n:=n) (f:=v) (g:=vW (λi=>v (La[i]?.getD 0)) (bD a) a.length) (x:=x) A;rw [e,vR,aCG];congr 1;exact dB λi _=>by rw [vR]
 ·have h1:=aKX hx (w:=mO p n a w a.length) (List.mem_map.2 ⟨w,hw,rfl⟩);refine qB ?_ h1;rw [aJZ,List.length_append];unfold dt;rw [aBU,dB (f:=λj=>vM w (a.length+j)*(if a.length+j<a.length then sN (λk=>bD a (a.length+j) k*x k) n else 0)) (g:=λ_=>0) λi hi=>by rw [bJ (by omega),Int.mul_zero],rS,Int.add_zero];congr 1;exact dB λi hi=>by simp only;rw [bF hi]
theorem aMy {p:Int} (hp:iI p=true) {n:Nat} {a b:List (List Int)} (ha:VecsP p n a) (hb:VecsP p n b) (sa:dW p n a=a) (sb:dW p n b=b) (v:Nat→Int):Mb p n (eE p n a b) v↔Mb p n a v∧Mb p n b v:=by
 have hk:=λx=>aHe hp (zD hp n a b).inP x;refine ⟨λh=>⟨λx hx=>h x ((hk x).2 (aKb hx)),λx hx=>h x ((hk x).2 (aKc hp ha hb hx))⟩,λh x hx=>aKd hp ha hb sa sb h.1 h.2 ((hk x).1 hx)⟩
theorem aAx {p:Int} (hp:iI p=true) {n:Nat} {a b:List (List Int)} (ha:VecsP p n a) (hb:VecsP p n b) {x:Nat→Int} :Kr p (nS p n a b).length n (bD (nS p n a b)) x↔Kr p a.length n (bD a) x∧Kr p b.length n (bD b) x:=(aHe hp (ha.append hb).inP x).trans aKW
theorem aJc {p:Int} {n:Nat} {l:List (List Int)} :(dW p n l).length=(bA p l.length (bD l) n).2.length:=mR _ _ _
theorem aJd {p:Int} (hp:iI p=true) {m n:Nat} {F:Nat→Nat→Int} (hF:uW p m n F):(bA p n (λk i=>F i k) m).2.length ≤(bA p m F n).2.length:=by
 have h1:=congrArg List.length (aFa hp hF);have h2:(dW p m (nB m F (bA p m F n).2)).length ≤(nB m F (bA p m F n).2).length:=xF.2;rw [show (nB m F (bA p m F n).2).length=(bA p m F n).2.length from jS _] at h2;rw [aJc] at h1;have hl:(rD m n F).length=n:=by simp [rD]
 have he: ∀ k i,k<n→i<m→bD (rD m n F) k i=F i k:=λk i hk hi=>by simp [bD,rD,jE,hk,hi]
 have i1:uW p n m (bD (rD m n F)):=λk i hk hi=>by rw [he k i hk hi];exact hF i k hi hk
 have i2:uW p n m (λk i=>F i k):=λk i hk hi=>hF i k hi hk
 have h3:=(aBT hp i2 i1 λx=>⟨λh i hi=>by
  have:=h i hi
  rwa [show dt m (bD (rD m n F) i) x=dt m (λq=>F q i) x from dB λq hq=>by rw [he i q hi hq]],λh i hi=>by
  have:=h i hi
  rwa [show dt m (bD (rD m n F) i) x=dt m (λq=>F q i) x from dB λq hq=>by rw [he i q hi hq]] at this⟩).1
 rw [h3];rw [hl] at h1;omega
theorem aFc {p:Int} (hp:iI p=true) {n:Nat} {l:List (List Int)} (hl:VecsP p n l):(bA p n (fB l) l.length).2.length=(dW p n l).length:=by
 have i1:=hl.inP;have i2:uW p n l.length (fB l):=λi j hi hj=>i1 j i hj hi;have h1:=aJd hp i1;have h2:=aJd hp i2;rw [aJc];exact Nat.le_antisymm h1 h2
theorem aNu {p:Int} (hp:iI p=true) {n:Nat} {l:List (List Int)} (hl:VecsP p n l) (hI:Ind p n l.length (bD l)):(dW p n l).length=l.length:=by
 have h1:=(xF (p:=p) (n:=n) (l:=l)).2;refine Classical.byContradiction λhne=>?_;have h2:=aFc hp hl;have hb:=eP hp;obtain ⟨c,hc,k,hk,e⟩:=aIW hp (m:=n) (n:=l.length) (F:=fB l) (λi j hi hj=>hl.inP j i hj hi) (by omega)
 have h3:=hI c (λx hx=>by
  have:=hc x hx
  rwa [aGU] at this) k hk
 unfold Z0 at h3;rw [e,Int.emod_eq_of_lt (by omega) (by omega)] at h3;omega
theorem aKe {p:Int} (hp:iI p=true) {n:Nat} {a b:List (List Int)} (ha:VecsP p n a) (hb:VecsP p n b) (sa:dW p n a=a) (sb:dW p n b=b):Ind p n (oP p n a b).length (bD (oP p n a b)):=by
 obtain ⟨La,ea,Ra⟩:=uZ hp ha sa;obtain ⟨Lb,eb,Rb⟩:=uZ hp hb sb;have hM:=aDE ha hb;have hR:=tY hp hM (a++b).length (bY _);intro c hc;have hml:(oP p n a b).length=(tN p (a++b).length (bA p n (fB (a++b)) (a++b).length).1 (bA p n (fB (a++b)) (a++b).length).2).length:=jS _;have hKr:=λk hk=>aJX hp hM (k:=k) hk
 have hrow: ∀ k,k<(oP p n a b).length→ ∀ x,x<n→bD (oP p n a b) k x % p=vW (bD (tN p (a++b).length (bA p n (fB (a++b)) (a++b).length).1 (bA p n (fB (a++b)) (a++b).length).2) k) (bD a) a.length x % p:=by
  intro k hk x hx;rw [hml] at hk;rw [←aBm hk,←aBm (by rw [hml];exact hk)];unfold oP;rw [List.getElem_map];exact aBn hx _
 rw [hml] at hc ⊢;rw [hml] at hrow;have hkx:=λk c' hk hc'=>aJW (p:=p) (k:=k) (c:=c') hR hk hc';have hfl:=aCM (p:=p) (n:=(a++b).length) (F:=(bA p n (fB (a++b)) (a++b).length).1) (L:=(bA p n (fB (a++b)) (a++b).length).2);have hbasis: ∀ (d:Nat→Int) (j:Nat),j<nul p n (a++b).length (fB (a++b))→vW d (bas p n (a++b).length (fB (a++b))) (nul p n (a++b).length (fB (a++b))) ((fM (a++b).length (bA p n (fB (a++b)) (a++b).length).2)[j]?.getD 0)=d j:=λd j hj=>aMe d hj;unfold nul bas at hbasis;have hfa:=λj=>aFH (n:=(a++b).length) (L:=(bA p n (fB (a++b)) (a++b).length).2) (i:=j);generalize (bA p n (fB (a++b)) (a++b).length).1=R at hc hkx hKr hrow hfl hbasis ⊢;generalize (bA p n (fB (a++b)) (a++b).length).2=L at hc hkx hKr hrow hfl hbasis hfa ⊢;generalize hK:tN p (a++b).length R L=K at hc hkx hKr hrow hfl ⊢;generalize hw:vW c (bD K) K.length=w;have hwK:Kr p n (a++b).length (fB (a++b)) w:=hw▸aNc λi hi=>hKr i hi
 have hA: ∀ x,x<n→Z0 p (vW w (bD a) a.length x):=λx hx=>by
  refine qB ?_ (hc x hx);rw [←hw,←aMf];exact aJY _ λi hi=>by rw [Int.mul_emod,hrow i hi x hx,←Int.mul_emod]
 have hB: ∀ x,x<n→Z0 p (vW (λj=>w (a.length+j)) (bD b) b.length x):=λx hx=>by
  have h1:=aAm (aAX hwK hx) (sV (-1) (hA x hx));refine qB ?_ h1;congr 1;omega
 have hz: ∀ q,q<(a++b).length→Z0 p (w q):=by
  intro q hq;rw [List.length_append] at hq;rcases fA q a.length with h|h
  ·have h1:=hA (La[q]?.getD 0) (Ra.lt q (by omega));rw [←ea,aJb Ra w (by omega)] at h1;exact h1
  ·have h1:=hB (Lb[q - a.length]?.getD 0) (Rb.lt (q - a.length) (by omega));rw [←eb,aJb Rb (λj=>w (a.length+j)) (by omega)] at h1
   rwa [show a.length+(q - a.length)=q by omega] at h1
 intro k hk;rw [hfl] at hk;have h1:=hz _ (hfa k hk).1;refine qB ?_ h1;rw [←hw,←hbasis c k hk,hfl];exact aJY _ λi hi=>by rw [Int.mul_emod,hkx i _ hi (hfa k hk).1,←Int.mul_emod]
theorem aLv {p:Int} (hp:iI p=true) {n:Nat} {a b:List (List Int)} (ha:VecsP p n a) (hb:VecsP p n b) (sa:dW p n a=a) (sb:dW p n b=b):(eE p n a b).length +(nS p n a b).length=a.length+b.length:=by
 have h1:=aNu hp (zD hp n a b) (aKe hp ha hb sa sb);have h2:=aFc hp (ha.append hb);have h3:=aNd (tY hp (aDE ha hb) (a++b).length (bY _));have h4:(oP p n a b).length=(fM (a++b).length (bA p n (fB (a++b)) (a++b).length).2).length:=by unfold oP;rw [jS,aCM]
 unfold eE nS;rw [List.length_append] at h3 h2 h4;rw [h1,h4]
 have h5:(fM (a.length+b.length) (bA p n (fB (a++b)) (a.length+b.length)).2).length +(dW p n (a++b)).length=a.length+b.length:=by
  rw [←h2];exact h3
 exact h5
end
noncomputable section
structure Spc (p:Int) (n:Nat) (l:List (List Int)):Prop where
 v:VecsP p n l
 s:dW p n l=l
theorem Spc.span {p:Int} (hp:iI p=true) {n:Nat} {l:List (List Int)} (h:VecsP p n l):Spc p n (dW p n l):=⟨aCC hp h.inP,aFE hp h.inP⟩
theorem Spc.sum {p:Int} (hp:iI p=true) {n:Nat} {a b:List (List Int)} (A:Spc p n a) (B:Spc p n b):Spc p n (nS p n a b):= .span hp (A.v.append B.v)
theorem Spc.meet {p:Int} (hp:iI p=true) (n:Nat) (a b:List (List Int)):Spc p n (eE p n a b):= .span hp (zD hp n a b)
theorem Spc.len {p:Int} (hp:iI p=true) {n:Nat} {a b:List (List Int)} (A:Spc p n a) (B:Spc p n b):(eE p n a b).length +(nS p n a b).length=a.length+b.length:=aLv hp A.v B.v A.s B.s
theorem Spc.mb {p:Int} (hp:iI p=true) {n:Nat} {a b:List (List Int)} (A:Spc p n a) (B:Spc p n b) (v:Nat→Int):Mb p n (eE p n a b) v↔Mb p n a v∧Mb p n b v:=aMy hp A.v B.v A.s B.s v
theorem Spc.eq {p:Int} (hp:iI p=true) {n:Nat} {a b:List (List Int)} (A:Spc p n a) (B:Spc p n b) (h: ∀ v,Mb p n a v↔Mb p n b v):a=b:=aOT hp A.v B.v A.s B.s h
theorem Spc.eqK {p:Int} (hp:iI p=true) {n:Nat} {a b:List (List Int)} (A:Spc p n a) (B:Spc p n b) (h: ∀ x,Kr p a.length n (bD a) x↔Kr p b.length n (bD b) x):a=b:=by
 rw [←A.s,←B.s];exact aDx hp A.v.inP B.v.inP h
def kN (p:Int) (n:Nat) (a b c:List (List Int)):Int:=((eE p n a (nS p n b c)).length:Int) - ((nS p n (eE p n a b) (eE p n a c)).length:Int)
theorem aNv {p:Int} (hp:iI p=true) {n:Nat} {a b c:List (List Int)} (A:Spc p n a) (B:Spc p n b) (C:Spc p n c):kN p n a b c=kN p n b c a:=by
 have M:=Spc.meet (p:=p) hp n;have l1:=Spc.len hp A (B.sum hp C);have l2:=Spc.len hp B C;have l3:=Spc.len hp (M a b) (M a c);have l4:=Spc.len hp B (C.sum hp A);have l5:=Spc.len hp C A;have l6:=Spc.len hp (M b c) (M b a);have e1:eE p n c a=eE p n a c:=(M c a).eq hp (M a c) λv=>by rw [C.mb hp A,A.mb hp C];exact And.comm
 have e2:eE p n b a=eE p n a b:=(M b a).eq hp (M a b) λv=>by rw [B.mb hp A,A.mb hp B];exact And.comm
 have e3:nS p n b (nS p n c a)=nS p n a (nS p n b c):=(B.sum hp (C.sum hp A)).eqK hp (A.sum hp (B.sum hp C)) λx=>by
  rw [aAx hp B.v (C.sum hp A).v,aAx hp C.v A.v,aAx hp A.v (B.sum hp C).v,aAx hp B.v C.v];exact ⟨λh=>⟨h.2.2,h.1,h.2.1⟩,λh=>⟨h.2.1,h.2.2,h.1⟩⟩
 have e4:eE p n (eE p n b c) (eE p n b a)=eE p n (eE p n a b) (eE p n a c):=(M _ _).eq hp (M _ _) λv=>by
  rw [(M b c).mb hp (M b a),(M a b).mb hp (M a c),B.mb hp C,B.mb hp A,A.mb hp B,A.mb hp C];exact ⟨λh=>⟨⟨h.2.2,h.1.1⟩,h.2.2,h.1.2⟩,λh=>⟨⟨h.1.2,h.2.2⟩,h.1.2,h.1.1⟩⟩
 unfold kN;rw [e1] at l5;rw [e2] at l6 ⊢;rw [e3] at l4;rw [e2] at e4;rw [e4] at l6;omega
theorem aMz {p:Int} (hp:iI p=true) {n:Nat} {a b c:List (List Int)} (A:Spc p n a) (B:Spc p n b) (C:Spc p n c):decide (eE p n a (nS p n b c)=nS p n (eE p n a b) (eE p n a c))=decide (kN p n a b c=0):=by
 have M:=Spc.meet (p:=p) hp n;have S:=(M a b).sum hp (M a c);have T:=M a (nS p n b c)
 have hK: ∀ x,Kr p (eE p n a (nS p n b c)).length n (bD (eE p n a (nS p n b c))) x→Kr p (nS p n (eE p n a b) (eE p n a c)).length n (bD (nS p n (eE p n a b) (eE p n a c))) x:=λx hx=>by
  refine (aAx hp (M a b).v (M a c).v).2 ⟨aGV (λv hv=>?_) hx,aGV (λv hv=>?_) hx⟩
  ·have h:=(A.mb hp B v).1 hv;exact (A.mb hp (B.sum hp C) v).2 ⟨h.1,λy hy=>h.2 y ((aAx hp B.v C.v).1 hy).1⟩
  ·have h:=(A.mb hp C v).1 hv;exact (A.mb hp (B.sum hp C) v).2 ⟨h.1,λy hy=>h.2 y ((aAx hp B.v C.v).1 hy).2⟩
 unfold kN;refine decide_eq_decide.2 ⟨λe=>by rw [e];omega,λe=>?_⟩;obtain ⟨L,eL,RL⟩:=uZ hp T.v T.s;obtain ⟨L',eL',RL'⟩:=uZ hp S.v S.s;have hl:(eE p n a (nS p n b c)).length=(nS p n (eE p n a b) (eE p n a c)).length:=by omega
 obtain ⟨_,h2⟩:=aLu hp RL RL' T.v.inP S.v.inP hK (by omega);rw [aBg (n:=n) λv hv=>(T.v v hv).1,aBg (n:=n) λv hv=>(S.v v hv).1,hl];exact yC λi hi=>yC λj hj=>h2 i j (by have:=List.mem_range.1 hi;omega) (List.mem_range.1 hj)
end
noncomputable section
theorem aNA {α:Type} {f:Nat→α} {n k:Nat} (h:k<n):eF ((List.range n).map f) (k:Int)=some (f k):=by rw [eA (by simp;exact h)];simp
theorem aEW {R N:Nat} (hN:R*N≤1048576) (h1:R≤1048576) (h2:N≤1048576) (M:Nat→Nat→Int):iB R ((List.range N).map λk=>jE R λi=>M i k)=some ⟨R,N,dE R N M⟩:=by
 unfold iB;rw [jS,List.length_range,aNn hN,aA];simp only;rw [fV (r:=dE R N M) (λk=>(dE R N (λi j=>if j<k then M i j else 0),(k:Int))) N (by simp) (λk hk=>?_) (λ_=>?_),aA]
 ·unfold kL;simp only;rw [jS,List.length_range,nR hk,aQ,aNA hk,aA];rw [fV (r:=dE R N (λi j=>if j<k+1 then M i j else 0)) (λx=>(dE R N (λi j=>if j<k∨(j=k∧i<x) then M i j else 0),(x:Int))) R (by simp) (λx hx=>?_) (λ_=>?_),aA,dI hk (by omega)]
  ·unfold kK;simp only;rw [kC,nR hx,aQ,aDC _ hx,aA,atT hN hx hk,aA,aKO hN hx hk,dI hx (by omega)];congr 3;refine dR λi j hi hj=>?_;simp only [aCB];by_cases e:i=x∧j=k
   ·rw [bF e,bF (by omega),e.1,e.2]
   ·rw [bJ e];by_cases e2:j<k∨j=k∧i<x
    ·rw [bF e2,bF (by omega)]
    ·rw [bJ e2,bJ (by omega)]
  ·unfold kK;simp only;rw [kC,qA (bY _),aV];congr 2;refine dR λi j hi hj=>?_;by_cases e:j<k+1
   ·rw [bF e,bF (by omega)]
   ·rw [bJ e,bJ (by omega)]
 ·unfold kL;simp only;rw [jS,List.length_range,qA (bY _),aV];congr 2;exact dR λi j hi hj=>by rw [bF hj]
end
noncomputable section
def aCu (n:Nat) (l:List (List Int)):Mt:=⟨n,(l.length:Int),dE n l.length λi k=>bD l k i⟩
theorem aFd {n:Nat} {l:List (List Int)} (h: ∀ v∈l,v.length=n):l=(List.range l.length).map λk=>jE n λi=>bD l k i:=aBg h
theorem aLw {n:Nat} {l:List (List Int)} (hn:n≤1024) (hl:l.length≤512) (h: ∀ v∈l,v.length=n):iB n l=some (aCu n l):=by
 have hN:n*l.length≤1048576:=by have:=Nat.mul_le_mul hn hl;omega
 have e:=aEW hN (by omega) (by omega) (λi k=>bD l k i);rw [←aFd h] at e;exact e
theorem aAY {r c:Nat} (hN:c*r≤1048576) (hr:r≤1048576) (hc:c≤1048576) (F:Nat→Nat→Int):kF ⟨r,c,dE r c F⟩=some ⟨c,r,dE c r λi k=>F k i⟩:=by
 have hN':r*c≤1048576:=by rw [Nat.mul_comm];exact hN
 unfold kF;simp only;rw [aBd hN,aA];simp only;rw [fV (r:=dE c r λi k=>F k i) (λt=>(dE c r (λi k=>if k<t then F k i else 0),(t:Int))) r (by simp) (λt ht=>?_) (λ_=>?_),aA]
 ·unfold kR;simp only;rw [nR ht,aQ];rw [fV (r:=dE c r (λi k=>if k<t+1 then F k i else 0)) (λx=>(dE c r (λi k=>if k<t∨(k=t∧i<x) then F k i else 0),(x:Int))) c (by simp) (λx hx=>?_) (λ_=>?_),aA,dI ht (by omega)]
  ·unfold kQ;simp only;rw [nR hx,aQ,atT hN' ht hx,aA,atT hN hx ht,aA,aKO hN hx ht,dI hx (by omega)];congr 3;refine dR λi j hi hj=>?_;simp only [aCB];by_cases e:i=x∧j=t
   ·rw [bF e,bF (by omega),e.1,e.2]
   ·rw [bJ e];by_cases e2:j<t∨j=t∧i<x
    ·rw [bF e2,bF (by omega)]
    ·rw [bJ e2,bJ (by omega)]
  ·unfold kQ;simp only;rw [qA (bY _),aV];congr 2;refine dR λi j hi hj=>?_;by_cases e:j<t+1
   ·rw [bF e,bF (by omega)]
   ·rw [bJ e,bJ (by omega)]
 ·unfold kR;simp only;rw [qA (bY _),aV];congr 2;exact dR λi j hi hj=>by rw [bF hj]
def uJ (n:Nat) (l:List Sc):List Int:=l.map (λs=>(s.basis.length:Int))++[(n:Int)]
def wL (n:Nat) (l:List Sc):List Mt:=l.map λs=>aCu n s.basis
def okS (p n:Int) (s:Sc):Bool:=fW p s.size s.basis&&decide (s.size=n)
def aGW (p:Int) (n:Nat) (l:List Sc):Rp:=⟨p,gS l.length,uJ n l,wL n l⟩
def aBo:Rp×Bool:=(⟨0,⟨0,[],[]⟩,[],[]⟩,false)
def yL (p n:Int) (l:List Sc):Rp×Bool:=
 bif (rR (l.length:Int) 1 4)&&(iI p&&(rR n 0 4&&(l.all (okS p n)&&tT (gS l.length) (uJ n.toNat l)))) then (aGW p n.toNat l,true) else aBo
theorem vA {p:Int} {n:Nat} {s:Sc} (h:okS p n s=true):iI p=true∧s.size=n∧n≤8∧s.basis.length≤n∧VecsP p n s.basis:=by
 simp only [okS,cY,iT] at h;obtain ⟨hp,m,e,h1,h2,h3,_⟩:=pC h.1;have:m=n:=by have:=h.2;omega
 subst this;exact ⟨hp,e,h1,h2,h3⟩
theorem aNB {p:Int} {n:Nat} {l:List (List Int)} (h:VecsP p n l):uW p n l.length λi k=>bD l k i:=λi k hi hk=>h.inP k i hk hi
theorem aGX {n:Nat} (h:n≤4):bQ (gS n):=⟨by simp [bI,gS];omega,by simp [bI,gS];omega,trivial⟩
theorem aOk {n:Nat} (h1:1≤n) (h:n≤4):yK (gS n)=true:=by
 unfold yK gS;simp only [cY,iT,List.all_eq_true,jS,List.length_range,List.length_replicate];refine ⟨wP (by omega) (by omega),trivial,by omega,λx hx=>?_,λx hx=>?_⟩
 ·obtain ⟨k,hk,rfl⟩:=List.mem_map.1 hx;have:=List.mem_range.1 hk;rw [dV (by omega)];exact wP (by omega) (by omega)
 ·have:=List.eq_of_mem_replicate hx;subst this;rw [dV (by omega)];exact wP (by omega) (by omega)
theorem aLx {p:Int} {n:Nat} {l:List Sc} (h1:l.length≤4) (hp:iI p=true) (hn:n≤4) (ho: ∀ s∈l,okS p n s=true):aAJ (aGW p n l)=tT (gS l.length) (uJ n l):=by
 unfold aAJ aGW;simp only;rw [hp,Bool.true_and];have hm:(wL n l).length=l.length:=by simp [wL]
 have hsl:(gS l.length).src.length=l.length:=by simp [gS]
 rw [hm,hsl,bG rfl,Bool.true_and]
 have hall:((List.range l.length).all λk=>aAI p ((wL n l)[k]?.getD ⟨0,0,[]⟩)&&(decide (((wL n l)[k]?.getD ⟨0,0,[]⟩).cols=(uJ n l)[((gS l.length).src[k]?.getD 0).toNat]?.getD 0)&&decide (((wL n l)[k]?.getD ⟨0,0,[]⟩).rows=(uJ n l)[((gS l.length).tgt[k]?.getD 0).toNat]?.getD 0)))=true:=by
  rw [nK];intro k hk;obtain ⟨_,e1,e2,e3,e4⟩:=vA (ho _ (List.getElem_mem hk));have g1:(wL n l)[k]?.getD ⟨0,0,[]⟩=aCu n l[k].basis:=by simp [wL,hk]
  have g2:((gS l.length).src[k]?.getD 0).toNat=k:=by simp [gS,hk]
  have g3:((gS l.length).tgt[k]?.getD 0).toNat=l.length:=by simp [gS,hk]
  have g4:(uJ n l)[k]?.getD 0=(l[k].basis.length:Int):=by unfold uJ;rw [List.getElem?_append_left (by simp;exact hk)];simp [hk]
  have g5:(uJ n l)[l.length]?.getD 0=(n:Int):=by simp [uJ]
  rw [g1,g2,g3,g4,g5];unfold aCu;rw [aMu hp (by omega) (by omega) (aNB e4)];simp
 rw [hall,Bool.and_true]
theorem aLy {p:Int} {n:Nat} {l:List Sc} (h1:l.length≤4) (hn:n≤4) (ho: ∀ s∈l,okS p n s=true):bR (aGW p n l):=by
 refine ⟨aGX h1,by simp [bI,aGW,uJ];omega,⟨by simp [aGW,wL];omega,λm hm=>?_⟩,trivial⟩;obtain ⟨s,hs,rfl⟩:=List.mem_map.1 hm;obtain ⟨_,_,_,e3,_⟩:=vA (ho s hs);have:=Nat.mul_le_mul hn (show s.basis.length≤4 by omega);exact ⟨by simp [bI,aCu,jT];omega,trivial⟩
theorem aNC:bR aBo.1:=⟨⟨by simp [bI,aBo],by simp [bI,aBo],trivial⟩,by simp [bI,aBo],⟨by simp [aBo],by simp [aBo]⟩,trivial⟩
theorem aGY (p n:Int) (l:List Sc):bR (yL p n l).1:=by
 unfold yL;cases h:(rR (l.length:Int) 1 4)&&(iI p&&(rR n 0 4&&(l.all (okS p n)&&tT (gS l.length) (uJ n.toNat l)))) with
 |false=>exact aNC
 |true=>
  simp only [cY,List.all_eq_true] at h;obtain ⟨h1,h2,h3,h4,h5⟩:=h;have h1:=fG h1;have h3:=fG h3;exact aLy (by omega) (by omega) λs hs=>by rw [show ((n.toNat:Nat):Int)=n by omega];exact h4 s hs
theorem aJe {α β:Type} {f:α→β} {l:List α} {k:Nat} (hk:k<l.length):(l.take k).map f++[f l[k]]=(l.take (k+1)).map f:=by rw [aBE hk,List.map_append];rfl
theorem aFe {p n:Int} (l:List Sc):(List.range l.length).all (λk=>okS p n (l[k]?.getD ⟨0,[]⟩))=l.all (okS p n):=uV _ l _
theorem aIk (p n:Int) {l:List Sc} (h:l.length≤1048576∧ ∀ s∈l,bS s):kP p n l=some (yL p n l):=by
 obtain ⟨hl,hb⟩:=h;unfold kP yL;rw [aAw,aA];unfold qH;cases h1:rR (l.length:Int) 1 4 with
 |false=>rfl
 |true=>
  have h1:=fG h1;rw [aQ];simp only [dC,aV];rw [xV,aA];cases hp:iI p with
  |false=>rfl
  |true=>
   rw [dC,aV,tR,aA];cases h3:rR n 0 4 with
   |false=>rfl
   |true=>
    have h3:=fG h3;obtain ⟨m,rfl⟩: ∃ m:Nat,n=m:=⟨n.toNat,by omega⟩;simp only [dC,aV,Bool.true_and,fL];have key:=aJU (body:=fN p m l) (I:=λk=>((l.take k).map (λs=>(s.basis.length:Int)),(l.take k).map (λs=>aCu m s.basis),(k:Int))) (n:=l.length) (P:=λk=>okS p m (l[k]?.getD ⟨0,[]⟩)) (b:= .inr aBo) (fin:= .inl (l.map (λs=>(s.basis.length:Int)),wL m l)) (λk hk _=>?_) (λ_=>?_)
    ·rw [aFe] at key;simp only [List.take_zero,List.map_nil,show ((0:Nat):Int)=0 from rfl] at key;rw [key,aA];cases ho:l.all (okS p m) with
     |false=>rfl
     |true=>
      rw [aQ];simp only [Sum.elim_inl];rw [bG (by simp;omega),aQ];have hb2:bR (⟨p,gS l.length,l.map (λs=>(s.basis.length:Int))++[(m:Int)],wL m l⟩:Rp):=aLy (p:=p) (by omega) (by omega) (List.all_eq_true.1 ho);rw [aFS hb2,aA];have hv:aAJ (⟨p,gS l.length,l.map (λs=>(s.basis.length:Int))++[(m:Int)],wL m l⟩:Rp)=tT (gS l.length) (uJ m l):=aLx (by omega) hp (by omega) (List.all_eq_true.1 ho);rw [hv];cases tT (gS l.length) (uJ m l) <;> rfl
    ·unfold fN;simp only;rw [nR hk,aQ,eA hk,aA,wU p (hb _ (List.getElem_mem hk)),aA,gZ hk,jJ];unfold okS;cases hs:fW p l[k].size l[k].basis with
     |false=>rfl
     |true=>
      rw [dC,aV,Bool.true_and];cases hz:decide (l[k].size=(m:Int)) with
      |false=>rfl
      |true=>
       obtain ⟨_,_,e2,e3,e4⟩:=vA (p:=p) (n:=m) (s:=l[k]) (by unfold okS;rw [hs,hz];rfl);rw [dC,aV,bG (by simp;omega),aQ,aLw (by omega) (by omega) (λv hv=>(e4 v hv).1),aA,bG (by simp;omega),aQ,aJe (f:=λs:Sc=>(s.basis.length:Int)) hk,aJe (f:=λs:Sc=>aCu m s.basis) hk,dI hk (by omega)];rfl
    ·unfold fN;simp only;rw [qA (bY _),aV,List.take_length];rfl
theorem aHj {q:Qv} (h:bQ q):tI q=some q:=by
 obtain ⟨h1,h2,_⟩:=h;unfold bI at h1 h2;unfold tI;rw [bG (by simp;omega),aQ,bG (by simp;omega),aQ];simp
theorem aED (p n:Int) {l:List Sc} (h:l.length≤1048576∧ ∀ s∈l,bS s):hJ p n l=some (yL p n l):=by
 obtain ⟨hl,hb⟩:=h;unfold hJ yL;rw [xZ,aA];unfold qH;cases h1:rR (l.length:Int) 1 4 with
 |false=>rfl
 |true=>
  have h1:=fG h1;rw [aQ];simp only [dC,aV];rw [aBb,aA];cases hp:iI p with
  |false=>rfl
  |true=>
   rw [dC,aV,uD,aA];cases h3:rR n 0 4 with
   |false=>rfl
   |true=>
    have h3:=fG h3;obtain ⟨m,rfl⟩: ∃ m:Nat,n=m:=⟨n.toNat,by omega⟩;simp only [dC,aV,Bool.true_and,fL];have key:=aJU (body:=fP p m l) (I:=λk=>((l.take k).map (λs=>(s.basis.length:Int)),(k:Int))) (n:=l.length) (P:=λk=>okS p m (l[k]?.getD ⟨0,[]⟩)) (b:= .inr aBo) (fin:= .inl (l.map (λs=>(s.basis.length:Int)))) (λk hk _=>?_) (λ_=>?_)
    ·rw [aFe] at key;simp only [List.take_zero,List.map_nil,show ((0:Nat):Int)=0 from rfl] at key;rw [key,aA];cases ho:l.all (okS p m) with
     |false=>rfl
     |true=>
      have ho:=List.all_eq_true.1 ho;rw [aQ];simp only [Sum.elim_inl];rw [bG (by simp;omega),aQ,aDo (aGX (by omega)) (by simp [bI];omega),aA];have hd:tT (gS l.length) (l.map (λs=>(s.basis.length:Int))++[(m:Int)])=tT (gS l.length) (uJ m l):=rfl;rw [hd];cases hv:tT (gS l.length) (uJ m l) with
      |false=>rfl
      |true=>
       rw [dC,aV,Bool.and_self,aQ];unfold nN;rw [aHj (aGX (by omega)),aA,bG (by simp;omega),aQ];have hsl:(gS l.length).src.length=l.length:=by simp [gS]
       have hz:=aGS (l:=l) (f:=λs=>(⟨m,(s.basis.length:Int),dE m s.basis.length λ_ _=>0⟩:Mt)) (body:=iD (gS l.length) (l.map (λs=>(s.basis.length:Int))++[(m:Int)])) (by omega) (λk hk o ho2=>?_) (λo=>?_)
       ·rw [hz,aA,aA];simp only [List.nil_append];rw [fV (r:=wL m l) (λk=>((l.take k).map (λs=>aCu m s.basis)++(l.drop k).map (λs=>(⟨m,(s.basis.length:Int),dE m s.basis.length λ_ _=>0⟩:Mt)),(k:Int))) l.length (by simp) (λk hk=>?_) (λ_=>?_),aA]
        ·rfl
        ·obtain ⟨_,_,e2,e3,e4⟩:=vA (ho _ (List.getElem_mem hk));unfold iM;simp only;rw [nR hk,aQ,eA hk,aA,aBh (by omega) (by omega) (λv hv=>(e4 v hv).1),aA,aAY (by have:=Nat.mul_le_mul e2 (show l[k].basis.length ≤8 by omega);omega) (by omega) (by omega),aA,eA (by simp;omega),aA,dI hk (by omega),fL];congr 3;rw [List.set_append_right _ _ (by simp;omega),jS,List.length_take,Nat.min_eq_left (Nat.le_of_lt hk),Nat.sub_self,List.drop_eq_getElem_cons hk,List.map_cons,List.set_cons_zero,aBE hk,List.map_append,List.append_assoc];rfl
        ·unfold iM;simp only;rw [qA (bY _),aV];simp [wL]
       ·obtain ⟨_,_,e2,e3,e4⟩:=vA (ho _ (List.getElem_mem hk));unfold iD;simp only;have g1:eF (gS l.length).tgt (k:Int)=some (l.length:Int):=by rw [eA (by simp [gS];exact hk)];simp [gS]
        have g2:eF (gS l.length).src (k:Int)=some (k:Int):=by rw [eA (by simp [gS];exact hk)];simp [gS]
        have g3:eF (l.map (λs=>(s.basis.length:Int))++[(m:Int)]) (l.length:Int)=some (m:Int):=by rw [eA (by simp)];simp
        have g4:eF (l.map (λs=>(s.basis.length:Int))++[(m:Int)]) (k:Int)=some (l[k].basis.length:Int):=by rw [eA (by simp;omega)];simp [List.getElem_append_left,hk]
        rw [hsl,nR hk,aQ,g1,aA,g3,aA,g2,aA,g4,aA,aBd (by have:=Nat.mul_le_mul e2 (show l[k].basis.length ≤8 by omega);omega),aA,bG (by omega),aQ]
       ·unfold iD;simp only;rw [hsl,qA (bY _),aV]
    ·unfold fP;simp only;rw [nR hk,aQ,eA hk,aA,iN p (hb _ (List.getElem_mem hk)),aA,gZ hk,jJ];unfold okS;cases hs:fW p l[k].size l[k].basis with
     |false=>rfl
     |true=>
      rw [dC,aV,Bool.true_and,aA];cases hz:decide (l[k].size=(m:Int)) with
      |false=>rfl
      |true=>
       rw [dC,aV,aA,bG (by simp;omega),aQ,aJe (f:=λs:Sc=>(s.basis.length:Int)) hk,dI hk (by omega)];rfl
    ·unfold fP;simp only;rw [qA (bY _),aV,List.take_length]
end
end Go.Proofs.YtgkfbfiiaphgoaaGreat

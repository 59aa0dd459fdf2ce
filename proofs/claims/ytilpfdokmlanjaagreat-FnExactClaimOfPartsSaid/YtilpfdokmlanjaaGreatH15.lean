/-
  Several texts of the claim in one.
-/
import Derived.Test.YtilpfdokmlanjaaGreatH14
set_option linter.unusedVariables false
set_option linter.unusedSimpArgs false
namespace Go.Proofs.YtilpfdokmlanjaaGreat
open Go.RowKit
noncomputable section
def nvS {α:Type} (nv:α→Nat):List α→Nat
 | []=>0
 |x::l=>nv x+nvS nv l
def mvS {α:Type} (mv:Int→α→α) (nv:α→Nat):Int→List α→List α
 |_,[]=>[]
 |k,x::l=>mv k x::mvS mv nv (k+nv x) l
section
variable {α:Type} {mv:Int→α→α} {nv:α→Nat}
theorem pT: ∀ (l:List α) (k:Int),(mvS mv nv k l).length=l.length
 | [],_=>rfl
 |x::l,k=>by simp [mvS,pT l]
theorem aNl: ∀ (l m:List α),nvS nv (l++m)=nvS nv l+nvS nv m
 | [],m=>by simp [nvS]
 |x::l,m=>by simp [nvS,aNl l m];omega
theorem aNm: ∀ (l m:List α) (k:Int),mvS mv nv k (l++m)=mvS mv nv k l++mvS mv nv (k+nvS nv l) m
 | [],m,k=>by simp [mvS,nvS]
 |x::l,m,k=>by
  simp only [List.cons_append,mvS,nvS,aNm l m];rw [show k+((nv x+nvS nv l:Nat):Int)=k+(nv x:Int)+(nvS nv l:Int) by omega]
theorem aHL {l:List α} {i:Nat} (hi:i<l.length):nvS nv (l.take (i+1))=nvS nv (l.take i)+nv l[i]:=by
 rw [zL hi,aNl];simp [nvS]
theorem aIr (l:List α) (i:Nat):nvS nv (l.take i)≤nvS nv l:=by
 have h:nvS nv (l.take i++l.drop i)=nvS nv l:=by rw [List.take_append_drop]
 rw [aNl] at h;omega
theorem aLF {c:Nat} : ∀ {l:List α},(∀ x∈l,nv x≤c)→nvS nv l≤c*l.length
 | [],_=>by simp [nvS]
 |x::l,h=>by
  have h1:=h x (by simp);have h2:=aLF (l:=l) λy hy=>h y (by simp [hy]);simp only [nvS,List.length_cons,Nat.mul_add,Nat.mul_one];omega
theorem aHM {l:List α} {k:Int} {i:Nat} (hi:i<l.length):(mvS mv nv k l)[i]? =some (mv (k+nvS nv (l.take i)) l[i]):=by
 have e:l=l.take i++l[i]::l.drop (i+1):=by rw [←List.drop_eq_getElem_cons hi,List.take_append_drop]
 have e2:mvS mv nv k l=mvS mv nv k (l.take i)++mvS mv nv (k+nvS nv (l.take i)) (l[i]::l.drop (i+1)):=by rw [←aNm,←e]
 rw [e2,List.getElem?_append_right (by rw [pT];simp;omega),pT];simp [mvS,Nat.min_eq_left (Nat.le_of_lt hi)]
theorem aDa {l:List α} {k0:Int} {body:List α×Int×Int→Option ((List α×Int×Int) ⊕ (List α×Int))} (h0:0≤k0) (hk:k0+nvS nv l≤4611686018427387904) (hl:l.length≤4611686018427387904)
  (hs: ∀ (r:List α) (i:Nat) (k:Int) (hi:i<r.length),r[i]∈l→0≤k→k+nv r[i]≤4611686018427387904→body (r,k,i)=some (.inl (r.set i (mv k r[i]),k+nv r[i],wr (i+1)))) (he: ∀ r k,body (r,k,(r.length:Int))=some (.inr (r,k))):
  Lp body (l,k0,0)=some (mvS mv nv k0 l,k0+nvS nv l):=by
 rw [cO (r:=(mvS mv nv k0 l,k0+nvS nv l)) (λi=>(mvS mv nv k0 (l.take i)++l.drop i,k0+nvS nv (l.take i),(i:Int))) l.length (by simp [mvS,nvS]) (λi hi=>?_) (λ_=>?_)]
 ·have hm:(mvS mv nv k0 (l.take i)).length=i:=by rw [pT];simp;omega
  have hg:(mvS mv nv k0 (l.take i)++l.drop i)[i]'(by simp [pT];omega)=l[i]:=by
   rw [List.getElem_append_right (by omega)];simp [hm]
  have hb:=aIr (nv:=nv) l (i+1);rw [aHL hi] at hb;rw [hs _ i _ (by simp [pT];omega) (by rw [hg];exact List.getElem_mem hi) (by omega) (by rw [hg];omega),hg,bZ hi hl];congr 2;refine Prod.ext ?_ (Prod.ext ?_ rfl)
  ·simp only;rw [List.set_append_right _ _ (by omega),hm,Nat.sub_self,List.drop_eq_getElem_cons hi,List.set_cons_zero,zL hi,aNm];simp [mvS]
  ·simp only;rw [aHL hi];omega
 ·have:=he (mvS mv nv k0 (l.take l.length)++l.drop l.length) (k0+nvS nv (l.take l.length));simp only [List.take_length,List.drop_length,List.append_nil,pT] at this ⊢;exact this
theorem aDb {l:List α} {k0:Int} {body:Int×Int→Option ((Int×Int) ⊕ (Int ⊕ Int))} (h0:0≤k0) (hk:k0+nvS nv l≤4611686018427387904) (hl:l.length≤4611686018427387904)
  (hs: ∀ (i:Nat) (hi:i<l.length) (k:Int),k=k0+nvS nv (l.take i)→0≤k→k+nv l[i]≤4611686018427387904→body (k,i)=some (.inl (k+nv l[i],wr (i+1)))) (he: ∀ k,body (k,(l.length:Int))=some (.inr (.inl k))):
  Lp body (k0,0)=some (.inl (k0+nvS nv l)):=by
 rw [cO (r:=Sum.inl (k0+nvS nv l)) (λi=>(k0+nvS nv (l.take i),(i:Int))) l.length (by simp [nvS]) (λi hi=>?_) (λ_=>?_)]
 ·have hb:=aIr (nv:=nv) l (i+1);rw [aHL hi] at hb;rw [hs i hi _ rfl (by omega) (by omega),bZ hi hl,aHL hi];congr 3;omega
 ·rw [he];simp
end
def nI (l:List Int):Nat:=nvS (λ_=>1) l
def mvI:Int→List Int→List Int:=mvS (λk _=>k) (λ_=>1)
theorem aDA: ∀ l:List Int,nI l=l.length
 | []=>rfl
 |x::l=>by have:=aDA l;simp only [nI] at this;simp only [nI,nvS,List.length_cons];omega
theorem sB (k:Int) (l:List Int):(mvI k l).length=l.length:=pT l k
theorem aJT {k:Int} {n:Nat} (h:0≤k):decide (k+(n:Int)<0)=false:=dU (by omega)
theorem aNo {l:List Int} {k:Int} (h0:0≤k) (hk:k+nI l≤4611686018427387904):fJ l k=some (mvI k l,k+nI l):=by
 have hl:=aDA l;unfold fJ;rw [aDa (mv:=λk _=>k) (nv:=λ_=>1) h0 hk (by omega) (λr i k hi _ g0 g1=>?_) (λr k=>?_),aA]
 ·rfl
 ·unfold rU;simp only;rw [gA hi,aM,cX hi,aA,eN,dV (x:=k+1) (by omega)];simp
 ·unfold rU;simp only;rw [gN (bJ _),aR]
theorem aNp {l:List Int} {k:Int} (h0:0≤k) (hk:k+nI l≤4611686018427387904):fK (mvI k l) k=some (k+nI l):=by
 have hl:=aDA l;have hm:=sB k l;unfold fK;rw [aDb (l:=l) (nv:=λ_=>1) h0 hk (by omega) (λi hi k' e g0 g1=>?_) (λk'=>?_),aA]
 ·rfl
 ·unfold rW;simp only;have hg:(mvI k l)[i]? =some k':=by unfold mvI;rw [aHM hi,e]
  rw [hm,gA hi,aM,cX (by omega),aA];have hg':(mvI k l)[i]'(by omega)=k':=by rw [iC (by omega)] at hg;exact Option.some.inj hg
  rw [hg',bH rfl,dW,aR,dV (x:=k'+1) (by omega)];simp
 ·unfold rW;simp only;rw [hm,gN (bJ _),aR]
def nIS:List (List Int)→Nat:=nvS nI
def aSy:Int→List (List Int)→List (List Int):=mvS mvI nI
theorem aNq {α:Type} {l:List α} {i:Nat} {v:α} (h:l[i]? =some v) (hi:i<l.length):l[i]=v:=by rw [iC hi] at h;exact Option.some.inj h
theorem aYJ {l:List (List Int)} {k:Int} (h0:0≤k) (hk:k+nIS l≤4611686018427387904) (hl:l.length≤4611686018427387904):vR l k=some (aSy k l,k+nIS l):=by
 unfold vR;rw [aDa (mv:=mvI) (nv:=nI) h0 hk hl (λr i k hi _ g0 g1=>?_) (λr k=>?_),aA]
 ·rfl
 ·unfold pO;simp only;rw [gA hi,aM,cX hi,aA,aNo g0 g1,aA,eN,sB,bH rfl,aM]
 ·unfold pO;simp only;rw [gN (bJ _),aR]
theorem aYK {l:List (List Int)} {k:Int} (h0:0≤k) (hk:k+nIS l≤4611686018427387904) (hl:l.length≤4611686018427387904):vT (aSy k l) k=some (k+nIS l):=by
 have hm:(aSy k l).length=l.length:=pT l k;unfold vT;rw [aDb (l:=l) (nv:=nI) h0 hk hl (λi hi k' e g0 g1=>?_) (λk'=>?_),aA]
 ·rfl
 ·unfold pP;simp only;rw [hm,gA hi,aM,cX (by omega),aA,aNq (v:=mvI k' l[i]) (by unfold aSy;rw [aHM hi,e]) (by omega),aNp g0 g1,aA,aJT g0,aR]
 ·unfold pP;simp only;rw [hm,gN (bJ _),aR]
def nSe (s:Sc):Nat:=1+nIS s.basis
def aUe (k:Int) (s:Sc):Sc:=⟨k,aSy (k+1) s.basis⟩
def nSs:List Sc→Nat:=nvS nSe
def aPV:Int→List Sc→List Sc:=mvS aUe nSe
def lS (l:List Sc):Prop:=l.length≤4611686018427387904∧ ∀ s∈l,s.basis.length≤4611686018427387904
theorem aUf (k:Int) (l:List (List Int)):(aSy k l).length=l.length:=pT l k
theorem aPW (k:Int) (l:List Sc):(aPV k l).length=l.length:=pT l k
theorem aYL {l:List Sc} {k:Int} (h0:0≤k) (hk:k+nSs l≤4611686018427387904) (hl:lS l):tT l k=some (aPV k l,k+nSs l):=by
 unfold tT;rw [aDa (mv:=aUe) (nv:=nSe) h0 hk hl.1 (λr i k hi hm g0 g1=>?_) (λr k=>?_),aA]
 ·rfl
 ·unfold nSe at g1;unfold oH;simp only;rw [gA hi,aM,cX hi,aA,dV (x:=k+1) (by omega),aYJ (by omega) (by omega) (hl.2 _ hm),aA,aUf,bH rfl,aM,eN];unfold aUe nSe;congr 4;omega
 ·unfold oH;simp only;rw [gN (bJ _),aR]
theorem aYM {l:List Sc} {k:Int} (h0:0≤k) (hk:k+nSs l≤4611686018427387904) (hl:lS l):tW (aPV k l) k=some (k+nSs l):=by
 have hm:(aPV k l).length=l.length:=pT l k;unfold tW;rw [aDb (l:=l) (nv:=nSe) h0 hk hl.1 (λi hi k' e g0 g1=>?_) (λk'=>?_),aA]
 ·rfl
 ·unfold nSe at g1;unfold oJ;simp only;rw [hm,gA hi,aM,cX (by omega),aA,aNq (v:=aUe k' l[i]) (by unfold aPV;rw [aHM hi,e]) (by omega)];unfold aUe;simp only [decide_true,dW,aR,aA];rw [dV (x:=k'+1) (by omega),aYK (by omega) (by omega) (hl.2 _ (List.getElem_mem hi)),aA,aJT (by omega),aR];unfold nSe;congr 3;omega
 ·unfold oJ;simp only;rw [hm,gN (bJ _),aR]
def nQ (q:Qv):Nat:=nI q.src+nI q.tgt
def mvQ (k:Int) (q:Qv):Qv:=⟨q.n,mvI k q.src,mvI (k+nI q.src) q.tgt⟩
theorem aYs {q:Qv} {k:Int} (h0:0≤k) (hk:k+nQ q≤4611686018427387904):tU q k=some ((mvQ k q).src,(mvQ k q).tgt,k+nQ q):=by
 unfold nQ at hk;unfold tU;rw [aNo h0 (by omega),aA,sB,bH rfl,aM,aNo (by omega) (by omega),aA,sB,bH rfl,aM];unfold mvQ nQ;congr 3;omega
theorem aYt {q:Qv} {k:Int} (h0:0≤k) (hk:k+nQ q≤4611686018427387904):tX (mvQ k q) k=some (k+nQ q):=by
 unfold nQ at hk;unfold tX mvQ;simp only;rw [aNp h0 (by omega),aA,aJT h0,aR,aNp (by omega) (by omega),aA,aJT (by omega),aR];unfold nQ;congr 1;omega
def nMe (m:Mt):Nat:=2+nI m.cells
def aUh (k:Int) (m:Mt):Mt:=⟨k,k+1,mvI (k+2) m.cells⟩
def nMs:List Mt→Nat:=nvS nMe
def aLg:Int→List Mt→List Mt:=mvS aUh nMe
theorem aEx (k:Int) (l:List Mt):(aLg k l).length=l.length:=pT l k
theorem aUi {l:List Mt} {k:Int} (h0:0≤k) (hk:k+nMs l≤4611686018427387904) (hl:l.length≤4611686018427387904):jM l k=some (aLg k l,k+nMs l):=by
 unfold jM;rw [aDa (mv:=aUh) (nv:=nMe) h0 hk hl (λr i k hi hm g0 g1=>?_) (λr k=>?_),aA]
 ·rfl
 ·unfold nMe at g1;unfold mS;simp only;rw [gA hi,aM,cX hi,aA,dV (x:=k+1) (by omega),dV (x:=k+1+1) (by omega),show k+1+1=k+2 by omega,aNo (by omega) (by omega),aA,sB,bH rfl,aM,eN];unfold aUh nMe;congr 4;omega
 ·unfold mS;simp only;rw [gN (bJ _),aR]
theorem aUj {l:List Mt} {k:Int} (h0:0≤k) (hk:k+nMs l≤4611686018427387904) (hl:l.length≤4611686018427387904):jN (aLg k l) k=some (k+nMs l):=by
 have hm:(aLg k l).length=l.length:=pT l k;unfold jN;rw [aDb (l:=l) (nv:=nMe) h0 hk hl (λi hi k' e g0 g1=>?_) (λk'=>?_),aA]
 ·rfl
 ·unfold nMe at g1;unfold mT;simp only;rw [hm,gA hi,aM,cX (by omega),aA,aNq (v:=aUh k' l[i]) (by unfold aLg;rw [aHM hi,e]) (by omega)];unfold aUh;simp only [decide_true,dW,aR,aA,dV (x:=k'+1) (by omega)];rw [dV (x:=k'+1+1) (by omega),show k'+1+1=k'+2 by omega,aNp (by omega) (by omega),aA,aJT (by omega),aR];unfold nMe;congr 3;omega
 ·unfold mT;simp only;rw [hm,gN (bJ _),aR]
def nR (r:Rp):Nat:=nQ r.q+nI r.dims+nMs r.maps
def mvR (k:Int) (r:Rp):Rp:=⟨r.p,mvQ k r.q,mvI (k+nQ r.q) r.dims,aLg (k+nQ r.q+nI r.dims) r.maps⟩
theorem aXR {r:Rp} {k:Int} (h0:0≤k) (hk:k+nR r≤4611686018427387904) (hl:r.maps.length≤4611686018427387904):qN r k=some ((mvR k r).q.src,(mvR k r).q.tgt,(mvR k r).dims,(mvR k r).maps,k+nR r):=by
 unfold nR at hk;unfold qN;rw [aYs h0 (by omega),aA];simp only [mvQ,sB,decide_true,aM];rw [aNo (by omega) (by omega),aA];simp only [sB,decide_true,aM];rw [aUi (by omega) (by omega) hl,aA];simp only [aEx,decide_true,aM];unfold mvR nR;congr 5;omega
theorem aYN {r:Rp} {k:Int} (h0:0≤k) (hk:k+nR r≤4611686018427387904) (hl:r.maps.length≤4611686018427387904):uW (mvR k r) k=some (k+nR r):=by
 unfold nR at hk;unfold uW mvR;simp only;rw [aYt h0 (by omega),aA,aJT h0,aR,aNp (by omega) (by omega),aA,aJT (by omega),aR,aUj (by omega) (by omega) hl,aA,aJT (by omega),aR];unfold nR;congr 1;omega
theorem aHN (k:Int) (r:Rp):(mvR k r).q.src.length=r.q.src.length∧(mvR k r).q.tgt.length=r.q.tgt.length∧(mvR k r).dims.length=r.dims.length∧(mvR k r).maps.length=r.maps.length:=⟨sB _ _,sB _ _,sB _ _,aEx _ _⟩
theorem aQr {l:List Mt} (h:l.length≤1048576∧ ∀ m∈l,bM m):nMs l≤2097152*1048576:=by
 have:=aLF (nv:=nMe) (c:=2097152) (l:=l) λm hm=>by have:=(h.2 m hm).1;unfold bI at this;unfold nMe;rw [aDA];omega
 unfold nMs
 calc nvS nMe l≤2097152*l.length:=this
  _≤2097152*1048576:=Nat.mul_le_mul_left _ h.1
theorem aMk {r:Rp} (h:bR r):nR r≤4398046511104:=by
 obtain ⟨⟨h1,h2,_⟩,h3,h4,_⟩:=h;have:=aQr h4;unfold bI at h1 h2 h3;unfold nR nQ;rw [aDA,aDA,aDA];omega
theorem aXS {l:List (List Int)} (h:l.length≤1048576∧ ∀ v∈l,bI v):nIS l≤1048576*1048576:=by
 have:=aLF (nv:=nI) (c:=1048576) (l:=l) λm hm=>by have:=h.2 m hm;unfold bI at this;rw [aDA];exact this
 unfold nIS
 calc nvS nI l≤1048576*l.length:=this
  _≤1048576*1048576:=Nat.mul_le_mul_left _ h.1
theorem aUk {l:List Sc} (h:l.length≤1048576∧ ∀ s∈l,bS s):nSs l≤2305843009213693952:=by
 have:=aLF (nv:=nSe) (c:=2097152*1048576) (l:=l) λm hm=>by have:=aXS (h.2 m hm).1;unfold nSe;omega
 unfold nSs
 calc nvS nSe l≤2097152*1048576*l.length:=this
  _≤2097152*1048576*1048576:=Nat.mul_le_mul_left _ h.1
  _≤2305843009213693952:=by decide
theorem aWk {l:List Sc} (h:l.length≤1048576∧ ∀ s∈l,bS s):lS l:=⟨by omega,λs hs=>by have:=(h.2 s hs).1.1;omega⟩
end
noncomputable section
set_option maxRecDepth 10000
set_option maxHeartbeats 4000000
end
noncomputable section
theorem aXT {α β:Type} {l:List α} {f:α→β} {body:List β×Int→Option ((List β×Int) ⊕ List β)} (hl:l.length≤4611686018427387904)
  (hs: ∀ (k:Nat) (hk:k<l.length) (o:List β),o.length=k→body (o,k)=some (.inl (o++[f l[k]],wr (k+1)))) (he: ∀ o,body (o,l.length)=some (.inr o)):Lp body ([],0)=some (l.map f):=by
 rw [cO (r:=l.map f) (λk=>((l.take k).map f,(k:Int))) l.length (by simp) (λk hk=>?_) (λ_=>?_)]
 ·rw [hs k hk _ (by simp;omega),bZ hk hl,zL hk,List.map_append];rfl
 ·rw [he,List.take_length]
def aAl (r c:Nat) (F:Nat→Nat→Int):List (List Int):=(List.range c).map λk=>fC r λi=>F i k
theorem aUl {r c k:Nat} (hN:r*c≤1048576) (hr:r≤1048576) (hk:k<c) (F:Nat→Nat→Int):oF ⟨r,c,bY r c F⟩ k=some (fC r λi=>F i k):=by
 unfold oF;simp only;rw [bH (by omega),bH (by omega:(r:Int)≤1048576),Bool.and_self,aM];rw [cO (r:=fC r λi=>F i k) (λt=>(fC r (λi=>if i<t then F i k else 0),(t:Int))) r (by simp [aHu]) (λt ht=>?_) (λ_=>?_),aA]
 ·unfold kF;simp only [List.length_replicate,eN];rw [gA ht,aM,atT hN ht hk,aA,aCk _ ht,aA,aKf ht,bZ ht (by omega)];congr 3;refine jL λb hb=>?_;by_cases e:b=t
  ·rw [aW e,aW (by omega),e]
  ·rw [aZ e];by_cases e2:b<t
   ·rw [aW e2,aW (by omega)]
   ·rw [aZ e2,aZ (by omega)]
 ·unfold kF;simp only [List.length_replicate,eN];rw [gN (bJ _),aR];congr 2;exact jL λb hb=>by rw [aW hb]
theorem aIH {r c:Nat} (hN:r*c≤1048576) (hr:r≤1048576) (hc:c≤1048576) (F:Nat→Nat→Int):gU ⟨r,c,bY r c F⟩=some (aAl r c F):=by
 unfold gU;rw [cO (r:=aAl r c F) (λk=>(aAl r k F,(k:Int))) c (by simp [aAl]) (λk hk=>?_) (λ_=>?_),aA]
 ·unfold jT;simp only;rw [gA hk,aM,aUl hN hr hk,aA,bH (by simp [aAl];omega),aM,bZ hk (by omega)];congr 3;unfold aAl;rw [List.range_succ,List.map_append];rfl
 ·unfold jT;simp only;rw [gN (bJ _),aR]
def uX (r:Nat) (F:Nat→Nat→Int) (L:List Nat):List (List Int):=L.map λk=>fC r λi=>F i k
theorem aLH {p:Int} {m:Nat} {F:Nat→Nat→Int} {t i:Nat} (h:i<(cD p m F t).2.length):(cD p m F t).2[i]'h<t:=aDK t _ (List.getElem_mem h)
theorem aSz {p:Int} {m n:Nat} {F:Nat→Nat→Int} (T:Tb p m n F):aAG p ⟨m,n,bY m n F⟩=some (uX m F (cD p m F n).2):=by
 have hL:= @qB p m F n;have hm:=T.hm;unfold aAG;rw [aDz T,aA];rw [aXT (l:=(cD p m F n).2) (f:=λk=>fC m λi=>F i k) (by omega) (λk hk o ho=>?_) (λo=>?_),aA]
 ·rfl
 ·have hlt:=aLH hk;unfold tN;simp only;rw [dH,gA hk,aM];rw [cO (r:=fC m λi=>F i (cD p m F n).2[k]) (λt=>(fC t (λi=>F i (cD p m F n).2[k]),(t:Int))) m (by simp [fC]) (λt ht=>?_) (λ_=>?_),aA,bH (by omega),aM]
  ·unfold tM;simp only;rw [gA ht,aM,cX (by rw [dH];exact hk),aA];have e:(fF (cD p m F n).2)[k]'(by rw [dH];exact hk)=(((cD p m F n).2[k]:Nat):Int):=by simp [fF]
   rw [e,atT T.hN ht hlt,aA,bH (by rw [dY];simp;omega),aM,bZ ht (by omega)];congr 3;unfold fC;rw [List.range_succ,List.map_append];rfl
  ·unfold tM;simp only;rw [gN (bJ _),aR]
 ·unfold tN;simp only;rw [dH,gN (bJ _),aR]
theorem aPX {p:Int} (hp:lP p=true) {n:Nat} {l l':List (List Int)} (h:yT p l.length n (cI l)) (h':yT p l'.length n (cI l')) (hK: ∀ x,Kr p l.length n (cI l) x↔Kr p l'.length n (cI l') x):fZ p n l=fZ p n l':=by
 obtain ⟨e1,e2⟩:=aNV hp h h' hK;unfold fZ;rw [←e1];exact aEb e2
theorem aMl {p:Int} {f:Nat→Int} : ∀ {n:Nat},(∀ k,k<n→Z0 p (f k))→Z0 p (sN f n)
 |0,_=>by unfold Z0;simp [sN]
 |n+1,h=>aKi (aMl λk hk=>h k (by omega)) (h n (by omega))
theorem aNr {p:Int} {r c:Nat} {F:Nat→Nat→Int} {x:Nat→Int} :Kr p (aAl r c F).length r (cI (aAl r c F)) x↔ ∀ k,k<c→Z0 p (dt r (λi=>F i k) x):=by
 have e: ∀ k,k<c→dt r (cI (aAl r c F) k) x=dt r (λi=>F i k) x:=λk hk=>dA λi hi=>by simp [cI,aAl,fC,hk,hi]
 have hl:(aAl r c F).length=c:=by simp [aAl]
 unfold Kr;rw [hl];exact ⟨λh k hk=>e k hk▸h k hk,λh k hk=>(e k hk).symm ▸h k hk⟩
theorem aTA {p:Int} {r:Nat} {F:Nat→Nat→Int} {L:List Nat} {x:Nat→Int} :Kr p (uX r F L).length r (cI (uX r F L)) x↔ ∀ t,t<L.length→Z0 p (dt r (λi=>F i (L[t]?.getD 0)) x):=by
 have e: ∀ t,t<L.length→dt r (cI (uX r F L) t) x=dt r (λi=>F i (L[t]?.getD 0)) x:=λt ht=>dA λi hi=>by simp [cI,uX,fC,ht,hi]
 have hl:(uX r F L).length=L.length:=by simp [uX]
 unfold Kr;rw [hl];exact ⟨λh k hk=>e k hk▸h k hk,λh k hk=>(e k hk).symm ▸h k hk⟩
theorem aXU {r n k:Nat} {F R:Nat→Nat→Int} {L:List Nat} {x:Nat→Int} :dt r (λi=>F i k - sN (λt=>F i (L[t]?.getD 0)*R t k) n) x=dt r (λi=>F i k) x - sN (λt=>R t k*dt r (λi=>F i (L[t]?.getD 0)) x) n:=by
 induction n with
 |zero=>simp [sN,dt]
 |succ n ih=>
  have e:dt r (λi=>F i k - sN (λt=>F i (L[t]?.getD 0)*R t k) (n+1)) x=dt r (λi=>(F i k - sN (λt=>F i (L[t]?.getD 0)*R t k) n)+(-(R n k))*F i (L[n]?.getD 0)) x:=dA λi hi=>by
   congr 1;show F i k - (sN (λt=>F i (L[t]?.getD 0)*R t k) n+F i (L[n]?.getD 0)*R n k)=F i k - sN (λt=>F i (L[t]?.getD 0)*R t k) n+(-(R n k))*F i (L[n]?.getD 0);rw [Int.neg_mul,Int.mul_comm (R n k)];omega
  rw [e,aUJ,ih,Int.neg_mul];show _=dt r (λi=>F i k) x - (sN (λt=>R t k*dt r (λi=>F i (L[t]?.getD 0)) x) n+R n k*dt r (λi=>F i (L[n]?.getD 0)) x);omega
theorem aMm {p:Int} (hp:lP p=true) {r c:Nat} {F:Nat→Nat→Int} (hF:yT p r c F):fZ p r (aAl r c F)=fZ p r (uX r F (cD p r F c).2):=by
 have hb:=eZ hp;have hR:=aCB hp hF c (bJ _)
 have i1:yT p (aAl r c F).length r (cI (aAl r c F)):=by
  intro k i hk hi;have hk:k<c:=by simpa [aAl] using hk
  have e:cI (aAl r c F) k i=F i k:=by simp [cI,aAl,fC,hk,hi]
  rw [e];exact hF i k hi hk
 have i2:yT p (uX r F (cD p r F c).2).length r (cI (uX r F (cD p r F c).2)):=by
  intro k i hk hi;have hk:k<(cD p r F c).2.length:=by simpa [uX] using hk
  have e:cI (uX r F (cD p r F c).2) k i=F i ((cD p r F c).2[k]):=by simp [cI,uX,fC,hk,hi]
  rw [e];exact hF i _ hi (aLH hk)
 refine aPX hp i1 i2 λx=>?_;rw [aNr,aTA];constructor
 ·intro h t ht;exact h _ (hR.lt t ht)
 ·intro h k hk;by_cases hL: ∃ i,i<(cD p r F c).2.length∧(cD p r F c).2[i]?.getD 0=k
  ·obtain ⟨i,h1,rfl⟩:=hL;exact h i h1
  ·have hL': ∀ i,i<(cD p r F c).2.length→(cD p r F c).2[i]?.getD 0≠k:=λi hi e=>hL ⟨i,hi,e⟩;have hk1:=(aBo hp hF (kx (cD p r F c).1 (cD p r F c).2 k) c (bJ _)).1 (aHv hR hk hL')
   have hz:Z0 p (dt r (λi=>F i k - sN (λt=>F i ((cD p r F c).2[t]?.getD 0)*(cD p r F c).1 t k) (cD p r F c).2.length) x):=by
    unfold dt;refine aMl λi hi=>?_;have:=hk1 i hi;rw [aMV hR hk hL'] at this;rw [Int.mul_comm];exact aCy _ this
   rw [aXU] at hz;have hs:Z0 p (sN (λt=>(cD p r F c).1 t k*dt r (λi=>F i ((cD p r F c).2[t]?.getD 0)) x) (cD p r F c).2.length):=aMl λt ht=>aCy _ (h t ht);have:=aKi hz hs
   rwa [Int.sub_add_cancel] at this
theorem aFQ {p:Int} {r c:Nat} {F:Nat→Nat→Int} (hF:yT p r c F):VecsP p r (aAl r c F):=by
 intro v hv;unfold aAl at hv;obtain ⟨k,hk,rfl⟩:=List.mem_map.1 hv;refine ⟨dY _ _,λx hx=>?_⟩;obtain ⟨i,hi,rfl⟩:=List.mem_map.1 hx;exact hF i k (List.mem_range.1 hi) (List.mem_range.1 hk)
theorem aPY {p:Int} {r c:Nat} {F:Nat→Nat→Int} (hF:yT p r c F) {L:List Nat} (hL: ∀ k∈L,k<c):VecsP p r (uX r F L):=by
 intro v hv;unfold uX at hv;obtain ⟨k,hk,rfl⟩:=List.mem_map.1 hv;refine ⟨dY _ _,λx hx=>?_⟩;obtain ⟨i,hi,rfl⟩:=List.mem_map.1 hx;exact hF i k (List.mem_range.1 hi) (hL k hk)
end
noncomputable section
theorem aUm {k:Nat} {f:Nat→Nat} (hlt: ∀ t,t<k→f t<k) (hinc: ∀ s t,s<t→t<k→f s<f t): ∀ t,t<k→f t=t:=by
 have h1: ∀ t,t<k→t≤f t:=by
  intro t;induction t with
  |zero=>intro _;exact Nat.zero_le _
  |succ t ih=>intro h;have:=ih (by omega);have:=hinc t (t+1) (by omega) h;omega
 have h2: ∀ d t,t+d+1=k→f t≤t:=by
  intro d;induction d with
  |zero=>intro t h;have:=hlt t (by omega);omega
  |succ d ih=>intro t h;have:=ih (t+1) (by omega);have:=hinc t (t+1) (by omega) (by omega);omega
 intro t ht;have:=h1 t ht;have:=h2 (k - t - 1) t (by omega);omega
theorem aQs {L M:List Nat} (hL: ∀ i k,i<k→k<L.length→L[i]?.getD 0<L[k]?.getD 0) (hM: ∀ i k,i<k→k<M.length→M[i]?.getD 0<M[k]?.getD 0) (hs: ∀ t,t<M.length→ ∃ i,i<L.length∧L[i]?.getD 0=M[t]?.getD 0) (hl:L.length=M.length):L=M:=by
 have hs': ∀ t:Nat,∃ i,t<M.length→i<L.length∧L[i]?.getD 0=M[t]?.getD 0:=λt=>by
  by_cases h:t<M.length
  ·obtain ⟨i,hi⟩:=hs t h;exact ⟨i,λ_=>hi⟩
  ·exact ⟨0,λh'=>absurd h' h⟩
 obtain ⟨f,hf⟩:=Classical.axiomOfChoice hs'
 have e:=aUm (k:=M.length) (f:=f) (λt ht=>hl▸(hf t ht).1) (λs t hst ht=>by
  rcases Nat.lt_trichotomy (f s) (f t) with h|h|h
  ·exact h
  ·have a:=(hf s (by omega)).2;have b:=(hf t ht).2;have c:=hM s t hst ht;rw [h,b] at a;omega
  ·have a:=(hf s (by omega)).2;have b:=(hf t ht).2;have c:=hM s t hst ht;have:=hL (f t) (f s) h (hf s (by omega)).1
   omega)
 refine List.ext_getElem hl λi h1 h2=>?_;have:=(hf i h2).2;rw [e i h2] at this;simpa [h1,h2] using this
theorem aUn {p:Int} (hp:lP p=true) {m m' n:Nat} {F G:Nat→Nat→Int} {L M:List Nat} (hF:Red m n F L) (hG:Red m' n G M) (iF:yT p m n F) (iG:yT p m' n G) (hK: ∀ x,Kr p m n F x→Kr p m' n G x) (hl:L.length=M.length):L=M∧ ∀ i j,i<L.length→j<n→F i j=G i j:=by
 have e:L=M:=aQs hF.inc hG.inc (λt ht=>aNU hp hF hG hK ht) hl;subst e;refine ⟨rfl,λi k hi hk=>?_⟩;have hm:=hF.len;have hm':=hG.len;by_cases hL: ∃ t,t<L.length∧L[t]?.getD 0=k
 ·obtain ⟨t,ht,rfl⟩:=hL;by_cases e:i=t
  ·subst e;rw [hF.one i hi,hG.one i hi]
  ·rw [hF.col t i ht (by omega) e,hG.col t i ht (by omega) e]
 ·have hL: ∀ t,t<L.length→L[t]?.getD 0≠k:=λt ht e=>hL ⟨t,ht,e⟩;have h1:=hK _ (aHv (p:=p) hF hk hL) i (by omega);rw [aMV hF hk hL,aBW (j:=i) hi (λt ht hti=>by rw [hG.col t i ht (by omega) (λe=>hti e.symm)];simp),hG.one i hi,Int.one_mul] at h1;unfold Z0 at h1;have b1:=iF i k (by omega) hk;have b2:=iG i k (by omega) hk
  have e1:G i k % p=F i k % p:=by
   have:=Int.emod_emod_of_dvd;exact Int.emod_eq_emod_iff_emod_sub_eq_zero.2 h1
  rw [Int.emod_eq_of_lt b2.1 b2.2,Int.emod_eq_of_lt b1.1 b1.2] at e1;exact e1.symm
theorem aMn {p:Int} {n:Nat} {l:List (List Int)} (hp:lP p=true) (hv:VecsP p n l) (hs:fZ p n l=l): ∃ L,L.length=l.length∧Red l.length n (cI l) L:=by
 have hi:=hv.inP;have hr:=aCB hp hi n (bJ _)
 have hlen:(cD p l.length (cI l) n).2.length=l.length:=by
  have:=congrArg List.length hs;unfold fZ at this;rw [qZ] at this;exact this
 have hrow: ∀ i j,i<l.length→j<n→(cD p l.length (cI l) n).1 i j=cI l i j:=by
  intro i j hi hj;have:=aGB (cD p l.length (cI l) n).1 (cD p l.length (cI l) n).2.length n i j (by omega) hj;unfold fZ at hs;rw [hs] at this;exact this.symm
 refine ⟨_,hlen,⟨hr.lt,hr.inc,by omega,λi h=>?_,λi k h hk hne=>?_,λi j h h2 hj=>?_,λi j h hj=>?_⟩⟩
 ·rw [←hrow i _ (by omega) (hr.lt i h)];exact hr.one i h
 ·rw [←hrow k _ hk (hr.lt i h)];exact hr.col i k h hk hne
 ·omega
 ·rw [←hrow i j (by omega) (by have:=hr.lt i h;omega)];exact hr.left i j h hj
theorem aFR {p:Int} {n:Nat} {a b:List (List Int)} {x:Nat→Int} :Kr p (a++b).length n (cI (a++b)) x↔Kr p a.length n (cI a) x∧Kr p b.length n (cI b) x:=by
 have e1: ∀ i,i<a.length→cI (a++b) i=cI a i:=λi hi=>by funext j;simp only [cI];rw [List.getElem?_append_left hi]
 have e2: ∀ i,cI (a++b) (a.length+i)=cI b i:=λi=>by funext j;simp only [cI];rw [List.getElem?_append_right (by omega),Nat.add_sub_cancel_left]
 unfold Kr;rw [List.length_append];refine ⟨λh=>⟨λi hi=>e1 i hi▸h i (by omega),λi hi=>e2 i▸h (a.length+i) (by omega)⟩,λh i hi=>?_⟩;rcases eO i a.length with h'|h'
 ·rw [e1 i h'];exact h.1 i h'
 ·have:=h.2 (i - a.length) (by omega);rw [←e2,show a.length+(i - a.length)=i by omega] at this;exact this
theorem aGS {p:Int} (hp:lP p=true) {n:Nat} {a b:List (List Int)} (ha:VecsP p n a) (hb:VecsP p n b) (hs:fZ p n b=b):(aTk p n a b).length=b.length↔ ∀ x,Kr p b.length n (cI b) x→Kr p a.length n (cI a) x:=by
 have hi:=(ha.append hb).inP;constructor
 ·intro hl x hx;obtain ⟨L,hLl,hR⟩:=aMn hp hb hs;have hr:=aCB hp hi n (bJ _);have hb':=eZ hp
  have hlen:(cD p (a++b).length (cI (a++b)) n).2.length=L.length:=by
   unfold aTk fZ at hl;rw [qZ] at hl;omega
  obtain ⟨_,h2⟩:=aUn hp hr hR (sF (by omega) hi n) hb.inP (λx hx=>(aFR.1 ((aBo hp hi x n (bJ _)).1 hx)).2) hlen;refine (aFR.1 ((aBo hp hi x n (bJ _)).1 λi hi'=>?_)).1;rcases eO i (cD p (a++b).length (cI (a++b)) n).2.length with h'|h'
  ·have e:dt n ((cD p (a++b).length (cI (a++b)) n).1 i) x=dt n (cI b i) x:=dA λk hk=>by rw [h2 i k h' hk]
   rw [e];exact hx i (by omega)
  ·have e:dt n ((cD p (a++b).length (cI (a++b)) n).1 i) x=0:=by
    unfold dt;rw [dA (g:=λ_=>0) (λk hk=>by rw [hr.low i k h' hi' hk];simp),aAs]
   rw [e];unfold Z0;simp
 ·intro hK;unfold aTk;rw [aPX hp hi hb.inP λx=>⟨λh=>(aFR.1 h).2,λh=>aFR.2 ⟨hK x h,h⟩⟩,hs]
end
noncomputable section
def aQt (n:Nat) (l:List (List Int)):Mt:=⟨n,(l.length:Int),bY n l.length λi k=>cI l k i⟩
theorem aTB {n:Nat} {l:List (List Int)} (h: ∀ v∈l,v.length=n):l=(List.range l.length).map λk=>fC n λi=>cI l k i:=aRx h
theorem aUo {n:Nat} {l:List (List Int)} (hn:n≤1024) (hl:l.length≤512) (h: ∀ v∈l,v.length=n):fT n l=some (aQt n l):=by
 have hN:n*l.length≤1048576:=by have:=Nat.mul_le_mul hn hl;omega
 have e:=aAt hN (by omega) (by omega) (λi k=>cI l k i);rw [←aTB h] at e;exact e
theorem aBB {r c:Nat} (hN:c*r≤1048576) (hr:r≤1048576) (hc:c≤1048576) (F:Nat→Nat→Int):iA ⟨r,c,bY r c F⟩=some ⟨c,r,bY c r λi k=>F k i⟩:=by
 have hN':r*c≤1048576:=by rw [Nat.mul_comm];exact hN
 unfold iA;simp only;rw [aEl hN,aA];simp only;rw [cO (r:=bY c r λi k=>F k i) (λt=>(bY c r (λi k=>if k<t then F k i else 0),(t:Int))) r (by simp) (λt ht=>?_) (λ_=>?_),aA]
 ·unfold mR;simp only;rw [gA ht,aM];rw [cO (r:=bY c r (λi k=>if k<t+1 then F k i else 0)) (λx=>(bY c r (λi k=>if k<t∨(k=t∧i<x) then F k i else 0),(x:Int))) c (by simp) (λx hx=>?_) (λ_=>?_),aA,bZ ht (by omega)]
  ·unfold mQ;simp only;rw [gA hx,aM,atT hN' ht hx,aA,atT hN hx ht,aA,aLa hN hx ht,bZ hx (by omega)];congr 3;refine cH λi j hi hj=>?_;simp only [aEa];by_cases e:i=x∧j=t
   ·rw [aW e,aW (by omega),e.1,e.2]
   ·rw [aZ e];by_cases e2:j<t∨j=t∧i<x
    ·rw [aW e2,aW (by omega)]
    ·rw [aZ e2,aZ (by omega)]
  ·unfold mQ;simp only;rw [gN (bJ _),aR];congr 2;refine cH λi j hi hj=>?_;by_cases e:j<t+1
   ·rw [aW e,aW (by omega)]
   ·rw [aZ e,aZ (by omega)]
 ·unfold mR;simp only;rw [gN (bJ _),aR];congr 2;exact cH λi j hi hj=>by rw [aW hj]
theorem aRy {p:Int} {n:Nat} {l:List (List Int)} (h:VecsP p n l):yT p n l.length λi k=>cI l k i:=λi k hi hk=>h.inP k i hk hi
theorem aYO {α β:Type} {f:α→β} {l:List α} {k:Nat} (hk:k<l.length):(l.take k).map f++[f l[k]]=(l.take (k+1)).map f:=by rw [zL hk,List.map_append];rfl
theorem aPZ {q:Qv} (h:bQ q):xA q=some q:=by
 obtain ⟨h1,h2,_⟩:=h;unfold bI at h1 h2;unfold xA;rw [bH (by simp;omega),aM,bH (by simp;omega),aM];simp
end
noncomputable section
theorem aUp {v:List Int} {k:Nat} (hl:bI v) (hk:k<v.length) (h0: ∀ j,j<k→v[j]?.getD 0=0) (h1:v[k]?.getD 0≠0):aAI v=some (k:Int):=by
 unfold bI at hl;unfold aAI fD;rw [cO (r:= .inr (k:Int)) (λj=>(j:Int)) k (by rfl) (λj hj=>?_) (λ_=>?_)];rfl
 ·unfold eH qL;rw [gA (show j<v.length by omega),aM,iN 0 (by omega),aA,aA,h0 j hj];simp only [decide_true,dW,aR];rw [bZ hj (by omega)]
 ·unfold eH qL;rw [gA hk,aM,iN 0 hk,aA,aA,dU h1];rfl
theorem aWL {v:List Int} {n:Nat} (h:v.length=n):v=fC n λj=>v[j]?.getD 0:=by
 refine List.ext_getElem (by rw [dY,h]) λi h1 h2=>?_;simp [fC,h1]
def inV (p:Int) (n:Nat) (a b:List (List Int)):Bool:=decide ((aTk p n a b).length=b.length)
def aLI (p:Int) (r c:Nat) (F:Nat→Nat→Int) (v:List Int):List Int:=fC r λi=>iK p c F (λt _=>v[t]?.getD 0) i 0
def imL (p:Int) (r c:Nat) (F:Nat→Nat→Int) (l:List (List Int)):List (List Int):=l.map (aLI p r c F)
theorem aUr (n:Nat) (v:List Int):aQt n [v]=⟨n,1,bY n 1 λi _=>v[i]?.getD 0⟩:=by
 unfold aQt;congr 1
 exact cH λi j _ hj=>by have:j=0:=by simpa using hj
                        subst this;rfl
theorem aNs (r:Nat) (F:Nat→Nat→Int):bY r 1 F=fC r λi=>F i 0:=by
 unfold bY fC;rw [Nat.mul_one];exact uJ λt _=>by rw [Nat.div_one,Nat.mod_one]
theorem aHO {p:Int} (hp:lP p=true) (r c:Nat) (F:Nat→Nat→Int) (l:List (List Int)):VecsP p r (imL p r c F l):=by
 intro v hv;obtain ⟨w,_,rfl⟩:=List.mem_map.1 hv;refine ⟨dY _ _,λx hx=>?_⟩;obtain ⟨i,_,rfl⟩:=List.mem_map.1 hx;exact xX hp
theorem aWM {p:Int} (hp:lP p=true) {r c:Nat} (hr:r≤8) (hc:c≤8) {F:Nat→Nat→Int} (hF:yT p r c F) {v:List Int} (hvl:v.length=c) (hv: ∀ x∈v,0≤x∧x<p):aBq p ⟨r,c,bY r c F⟩ v=some (aLI p r c F v):=by
 have hrc:=Nat.mul_le_mul hr hc;unfold aBq;rw [aUo (l:=[v]) (by omega) (by simp) (λw hw=>by rw [List.mem_singleton.1 hw];exact hvl),aA,aUr];rw [show (1:Int)=((1:Nat):Int) by rfl,aGx hp (by omega) (by omega) (by omega) (by omega) (by omega) (by omega) hF (λi j hi hj=>hv _ (jS 0 (by omega))),aA];congr 1;exact aNs r _
theorem aPa {p:Int} (hp:lP p=true) {r c:Nat} (hr:r≤8) (hc:c≤8) {F:Nat→Nat→Int} (hM:aES p ⟨r,c,bY r c F⟩=true) (hF:yT p r c F) {v:List Int} (hvl:v.length=c) (hv: ∀ x∈v,0≤x∧x<p):rS p ⟨r,c,bY r c F⟩ v=some (aLI p r c F v,true):=by
 have hrc:=Nat.mul_le_mul hr hc;unfold rS;rw [aDU p ⟨by unfold bI;simp only [dZ];omega,trivial⟩,aA,hM];simp only [dW,aR];rw [aHt p (by unfold bI;omega),aUa,aA]
 have hV:aHi p v=true:=by
  unfold aHi;rw [hp,bH (by omega),Bool.true_and,Bool.true_and,List.all_eq_true];exact λx hx=>aCs (hv x hx).1 (by have:=(hv x hx).2;omega)
 rw [hV,hvl,bH rfl];simp only [dW,aR];rw [bH (by simp;omega),aM];have e:([]:List Int)++v=bY c 1 λi _=>v[i]?.getD 0:=by rw [aNs];exact aWL hvl
 rw [e,show (1:Int)=((1:Nat):Int) by rfl,nY hp (by omega) (by omega) (by omega) (by omega) (by omega) (by omega) hF (λi j hi hj=>hv _ (jS 0 (by omega))),aA];congr 2;exact aNs r _
theorem aBu {α β:Type} (f:α→β) {l:List α} {k:Nat} (d:α) (h:k<l.length):(l.take k).map f++[f (l[k]?.getD d)]=(l.take (k+1)).map f:=by
 rw [iC h,jP];exact aYO h
theorem aPb {p:Int} (hp:lP p=true) {r c:Nat} (hr:r≤8) (hc:c≤8) {F:Nat→Nat→Int} (hM:aES p ⟨r,c,bY r c F⟩=true) (hF:yT p r c F) {l:List (List Int)} (hS:aBQ p c l=true) (hv:VecsP p c l) (hl:l.length≤16):pN p ⟨r,c,bY r c F⟩ ⟨c,l⟩=some (⟨r,fZ p r (imL p r c F l)⟩,true):=by
 have hrc:=Nat.mul_le_mul hr hc;unfold pN;rw [aDU p ⟨by unfold bI;simp only [dZ];omega,trivial⟩,aA,hM];simp only [dW,aR];rw [aBA p ⟨⟨by simp only;omega,λw hw=>by unfold bI;rw [(hv w hw).1];omega⟩,trivial⟩,aA,hS];simp only [dW,aR,decide_true];rw [cO (r:=imL p r c F l) (λk=>((l.take k).map (aLI p r c F),(k:Int))) l.length (by rfl) (λk hk=>?_) (λ_=>?_),aA]
 ·rw [aHK hp (by omega) (by unfold imL;rw [dC];omega) (aHO hp r c F l),aA]
 ·unfold kZ;simp only;rw [gA hk,aM,iN [] hk,aA,aPa hp hr hc hM hF (hv _ (jS [] hk)).1 (hv _ (jS [] hk)).2,aA,bH (by rw [dC,List.length_take];omega),aM,aBu _ _ hk,bZ hk (by omega)]
 ·unfold kZ;simp only;rw [gN (bJ _),aR,List.take_length];rfl
theorem aNt {p:Int} (hp:lP p=true) {n:Nat} (hn:n≤8) {a b:List (List Int)} (hA:aBQ p n a=true) (hB:aBQ p n b=true):yC p ⟨n,a⟩ ⟨n,b⟩=some (inV p n a b):=by
 obtain ⟨_,n1,h1,_,ha,hva,_⟩:=aDs hA;obtain ⟨_,n2,h2,_,hb,hvb,_⟩:=aDs hB;have e1:n1=n:=by omega
 have e2:n2=n:=by omega
 subst e1 e2;unfold yC aAi;rw [aBA p ⟨⟨by simp only;omega,λw hw=>by unfold bI;rw [(hva w hw).1];omega⟩,trivial⟩,aA,hA];simp only [dW,aR];rw [aBA p ⟨⟨by simp only;omega,λw hw=>by unfold bI;rw [(hvb w hw).1];omega⟩,trivial⟩,aA,hB];simp only [dW,aR,decide_true,List.nil_append];rw [bH (by simp;omega),aM,bH (by omega),aM,aHK hp (by omega) (by simp;omega) (hva.append hvb),aA,aA];simp only [aM];congr 1;unfold inV aTk;by_cases h:(fZ p n2 (a++b)).length=b.length
 ·rw [bH h,bH (by omega)]
 ·rw [dU h,dU (by omega)]
end
noncomputable section
def sG (s:List Sc) (v:Nat):Sc:=s[v]?.getD ⟨0,[]⟩
def spB (r:Rp) (s:List Sc) (v:Nat):Bool:=aBQ r.p (sG s v).size (sG s v).basis &&decide ((sG s v).size=r.dims[v]?.getD 0)
def imB (r:Rp) (s:List Sc) (i:Nat):Bool:=inV r.p (dN r (tV r i)) (fZ r.p (dN r (tV r i)) (imL r.p (dN r (tV r i)) (dN r (sV r i)) (aF r i) (sG s (sV r i)).basis)) (sG s (tV r i)).basis
def aII (r:Rp) (s:List Sc):Bool:=wY r&&(decide ((s.length:Int)=(r.dims.length:Int))&&((List.range s.length).all (spB r s)&&(List.range r.maps.length).all (imB r s)))
structure SpV (r:Rp) (s:List Sc) (v:Nat):Prop where
 size:(sG s v).size=(dN r v:Int)
 ok:aBQ r.p (dN r v) (sG s v).basis=true
 len:(sG s v).basis.length ≤dN r v
 vecs:VecsP r.p (dN r v) (sG s v).basis
 span:fZ r.p (dN r v) (sG s v).basis=(sG s v).basis
theorem aUs {r:Rp} (R:Rv r) {s:List Sc} {v:Nat} (hv:v<r.dims.length) (h:spB r s v=true):SpV r s v:=by
 unfold spB at h;simp only [dD,lD] at h;obtain ⟨h1,h2⟩:=h;rw [(R.d v hv).1] at h2;rw [h2] at h1;obtain ⟨_,n,e,_,h3,h4,h5⟩:=aDs h1;have e:dN r v=n:=by omega
 subst e;exact ⟨h2,h1,h3,h4,h5⟩
theorem aQu {r:Rp} {s:List Sc} (h:aII r s=true):Rv r∧s.length=r.dims.length∧(∀ v,v<r.dims.length→SpV r s v):=by
 unfold aII at h;simp only [dD,lD] at h;obtain ⟨h1,h2,h3,_⟩:=h;have R:=aEo h1;refine ⟨R,by omega,λv hv=>aUs R hv ?_⟩;exact List.all_eq_true.1 h3 v (List.mem_range.2 (by omega))
theorem aPc {p:Int} (hp:lP p=true) {r c:Nat} (hr:r≤8) (hc:c≤8) {F:Nat→Nat→Int} (hF:yT p r c F):aES p ⟨r,c,bY r c F⟩=true:=by
 have hb:=eZ hp;have h:=Nat.mul_le_mul hr hc;unfold aES;simp only [dZ];rw [aCs (by omega) (by omega),aCs (by omega) (by omega),aKI (by omega),bH (by omega),hp,bH (by omega)];simp only [Bool.true_and,List.all_eq_true];intro x hx;obtain ⟨t,ht,rfl⟩:=List.mem_map.1 hx;have ht:=List.mem_range.1 ht
 have hc0:0<c:=by
  rcases Nat.eq_zero_or_pos c with h0|h0
  ·subst h0;simp at ht
  ·exact h0
 have:=hF (t / c) (t % c) ((Nat.div_lt_iff_lt_mul hc0).2 ht) (Nat.mod_lt _ hc0);refine aCs this.1 ?_;rw [dV (by omega)];omega
theorem aTC {r:Rp} (hr:bR r) {s:List Sc} (hs:s.length≤1048576∧ ∀ x∈s,bS x):aBr r s=some (aII r s):=by
 unfold aBr aII;rw [aAh hr,aA];refine jG λhR=>?_;have R:=aEo hR;refine jG λhL=>?_;have hL:=of_decide_eq_true hL;have hL:s.length=r.dims.length:=by omega
 rw [wL (spB r s) false (n:=s.length) (by omega) (λk hk=>?_) (λ_=>?_),aA]
 ·cases hA:(List.range s.length).all (spB r s) with
  |false=>rfl
  |true=>
   have hV: ∀ v,v<r.dims.length→SpV r s v:=λv hv=>aUs R hv (List.all_eq_true.1 hA v (List.mem_range.2 (by omega)));simp only [aM,Sum.elim_inl,Bool.true_and];rw [wL (imB r s) false (n:=r.maps.length) (by have:=R.e6;have:=R.ml;omega) (λi hi=>?_) (λ_=>?_),aA]
   ·cases (List.range r.maps.length).all (imB r s) <;> rfl
   ·have hi':i<r.q.src.length:=by have:=R.ml;omega
    have S1:=hV _ (R.s i hi').2;have S2:=hV _ (R.t i hi').2;have d1:=(R.d _ (R.s i hi').2).2;have d2:=(R.d _ (R.t i hi').2).2;have hM:=R.m i hi';unfold yE;rw [gA hi,aM,iN ⟨0,0,[]⟩ hi,aA,iN 0 hi',aA,(R.s i hi').1,iN ⟨0,[]⟩ (by have:=(R.s i hi').2;omega),aA,hM.1];have e1:=aPb R.hp (r:=dN r (tV r i)) (c:=dN r (sV r i)) (by omega) (by omega) (aPc R.hp (by omega) (by omega) hM.2) hM.2 S1.ok S1.vecs (by have:=S1.len;omega);have e2:(s[sV r i]?.getD ⟨0,[]⟩:Sc)=⟨(dN r (sV r i):Int),(sG s (sV r i)).basis⟩:=by rw [←S1.size];rfl
    rw [e2,e1,aA,iN 0 (by have:=R.tl;omega),aA,(R.t i hi').1,iN ⟨0,[]⟩ (by have:=(R.t i hi').2;omega),aA];have e3:(s[tV r i]?.getD ⟨0,[]⟩:Sc)=⟨(dN r (tV r i):Int),(sG s (tV r i)).basis⟩:=by rw [←S2.size];rfl
    rw [e3,aNt R.hp (by omega) (aGD R.hp (by omega) (aHO R.hp _ _ _ _)) S2.ok,aA];show _=some (bif imB r s i then _ else _);unfold imB;cases inV r.p _ _ _ <;> rfl
   ·unfold yE;rw [gN (bJ _),aR]
 ·unfold yD;rw [gA hk,aM,iN ⟨0,[]⟩ hk,aA,aBA _ (hs.2 _ (jS _ hk)),aA,aA,iN 0 (by omega),aA];unfold spB sG;cases aBQ r.p _ _ <;> cases decide ((s[k]?.getD ⟨0,[]⟩).size=r.dims[k]?.getD 0) <;> rfl
 ·unfold yD;rw [gN (bJ _),aR]
def eP (s:List Sc):List Int:=s.map λx=>(x.basis.length:Int)
theorem aIJ {s:List Sc} (hs:s.length≤1048576):qM s=some (eP s):=by
 unfold qM;rw [cO (r:=eP s) (λk=>((s.take k).map (λx=>(x.basis.length:Int)),(k:Int))) s.length (by simp) (λk hk=>?_) (λ_=>?_),aA]
 ·unfold tR;simp only;rw [gA hk,aM,iN ⟨0,[]⟩ hk,aA,bH (by rw [dC,List.length_take];simp;omega),aM,bZ hk (by omega),aBu (λx:Sc=>(x.basis.length:Int)) _ hk]
 ·unfold tR;simp only;rw [gN (bJ _),aR,List.take_length];rfl
end
noncomputable section
set_option maxRecDepth 10000
set_option maxHeartbeats 4000000
def uC (a0:Int) (a1:Mt) (a2:Int) (x1:(Int×Int×(List Int)×Int)):Option ((Int×Int×(List Int)×Int) ⊕ (Int×Int×(List Int))):=
 bif decide (x1.2.2.2<a2) then
 ((nW a0 (⟨x1.1,x1.2.1,x1.2.2.1⟩:Mt) a1).bind λv3=>
 some (.inl (v3.rows,v3.cols,v3.cells,wr (x1.2.2.2+1))))
 else
 (some (.inr (x1.1,x1.2.1,x1.2.2.1)))
def uY (a0:Int) (a1:Mt) (a2:Int):Option Mt:=
 (sH a1.rows).bind λv1=>
 (Lp (uC a0 a1 a2) (v1.rows,v1.cols,v1.cells,0)).bind λy4=>
 some ((⟨y4.1,y4.2.1,y4.2.2⟩:Mt))
theorem aLJ (a0:Int) (a1:Mt) (a2:Int) (r:Mt) (h:uY a0 a1 a2=some r):HasC Tryz.prog 226 [.int a0,.agg (eM a1),.int a2] (.agg (eM r)):=by
 refine hM [.cell 6 91] Tryz.func226 Tryz.ntmps226 k<|sR<|ae (wb k) k<|ae (bX aJ k k) k<|an<|tn<|sR<|fp k8<|lp k8<|oB h λv1 hv1 h=>ae (cM (aEM a1.rows v1 hv1) k3 (cJ k aO)) k<|ae (bX aJ k k) k<|ae (ws k) k<|an<|tn<|sQ<|sR<|am k k<|am k k<|an<|tn<|aD<|oB h λy4 hy4 h=>cC (body:=(uC a0 a1 a2)) hy4 (λ(x1:(Int×Int×(List Int)×Int))=>mN [(0,.int a0),(4,.ptr 0 0 0),(6,.ptr 1 0 0),(7,.ptr 2 0 0),(11,.int a2),(12,.int x1.2.2.2)] [(0,⟨3,[eM a1]⟩),(1,⟨3,[gD]⟩),(2,⟨3,[[.int x1.1,.int x1.2.1,.own 3 0 x1.2.2.1.length]]⟩),(3,⟨1,x1.2.2.1.map (ow eI)⟩)] 4) (λr e t=>e= .exit 0∧Ent t (mN [(6,.ptr 0 0 0),(7,.ptr 1 0 0)] [(0,⟨3,[gD]⟩),(1,⟨3,[[.int r.1,.int r.2.1,.own 2 0 r.2.2.length]]⟩),(2,⟨1,r.2.2.map (ow eI)⟩)] 3)) (gT [0,1,3,2] (bG k2) (bO k<|bO k<|eJ k<|bN k<|aQ) k4) ?_ ?_
 ·intro x1 o h;exact sR<|cm k4<|an<|tn<|sQ<|cN k h (λ_ h=>aG<|tn<|sQ<|aD<|rg<|am k k<|lp k8<|lp k8<|oB h λv3 hv3 h=>ae (cM (aAB a0 (⟨x1.1,x1.2.1,x1.2.2.1⟩:Mt) a1 v3 hv3) k3 (cJ k (aL (vaM k2) (aL (eV k) aO)))) k<|ae (ws k) k<|an<|bB<|tn<|rg<|ae (bF k k) k<|am k k<|an<|tn<|sp h ⟨_,k,(gT [0,1,2,4] (bG k2) (bO k<|bO k<|eJ k<|bN k<|aQ) k4)⟩) λ_ h=>aY<|aB<|aB<|sp h ⟨_,k,k,(gT [1,2,3] (bG k2) (bO k<|eJ k<|bN k<|aQ) k4)⟩
 ·rintro e t ⟨rfl,hent⟩;exact aN<|tn<|aI hent<|sR<|lp k8<|ae (ws k) k<|an<|tn<|aE<|sp h (bD k k k (iJ (aU (k) (aU (k) (aU (cW cA k k) fA)))))
def pU (a0:Int) (a1:(List Mt)) (x1:((List Sc)×Int)):Option (((List Sc)×Int) ⊕ (List Sc)):=
 bif decide (x1.2<(a1.length:Int)) then
 ((cY a1 x1.2).bind λv2=>
 (xD a0 v2).bind λv3=>
 (aBO a0 v2.cols v3).bind λv4=>
 bif decide (x1.1.length+1≤4294967296) then
 (some (.inl ((x1.1++[v4]),wr (x1.2+1))))
 else none)
 else
 (some (.inr x1.1))
def wG (a0:Int) (a1:(List Mt)):Option (List Sc):=
 (Lp (pU a0 a1) ([],0)).bind λy6=>
 some (y6)
theorem aIK (a0:Int) (a1:(List Mt)) (r:(List Sc)) (h:wG a0 a1=some r):HasC Tryz.prog 227 [.int a0,.list 3 (a1.map eM)] (.list 2 (r.map eS)):=by
 refine hM [.tmp 4] Tryz.func227 Tryz.ntmps227 k<|sR<|aT k2<|sR<|aT k2<|sQ<|sR<|am k k<|ln k4<|am k k<|an<|tn<|aD<|oB h λy6 hy6 h=>cC (body:=(pU a0 a1)) hy6 (λ(x1:((List Sc)×Int))=>mN [(0,.int a0),(5,.own 0 0 x1.1.length),(8,.list 3 (a1.map eM)),(9,.int (a1.length:Int)),(10,.int x1.2)] [(0,⟨2,x1.1.map (ow eS)⟩)] 1) (λr e t=>e= .exit 0∧Ent t (mN [(5,.own 0 0 r.length)] [(0,⟨2,r.map (ow eS)⟩)] 1)) (eY (σ:=sg []) (kT 1 k2 (gH ⟨_,k,⟨k,k,k,k⟩⟩ (bG k2))) (hX k k<|aQ) k) ?_ ?_
 ·intro x1 o h;refine sR<|cm k4<|an<|tn<|sQ<|cN k h (λ_ h=>?_) λ_ h=>aY<|aB<|aB<|sp h ⟨_,k,k,(bP (bG k2) (bW (cV.plainO _) k<|aQ) k4)⟩;refine aG<|tn<|sQ<|aD<|sR<|oB h λv2 hv2 h=>ae (xl hv2 k) k<|lr k7<|ae (bX aJ k k) k<|ae (ws k) k<|an<|tn<|aP fB<|am k k<|am k k<|fp k8<|lp k8<|am k k<|lp k8<|oB h λv3 hv3 h=>ae (cL cB (aFt a0 v2 v3 hv3) k3 (cJ k (aL (eV k) aO))) k<|oB h λv4 hv4 h=>ae (cS (aIn a0 v2.cols v3 v4 hv4) k3 (cJ k (cJ k (aL (tA cB k k) aO)))) k<|ae (wl k) k<|cG h λq5 h=>ae (fN aJ (l:=x1.1) (c:=[.int v4.size,.own 3 0 v4.basis.length]) q5 k k k k k k k k k k k k k k) k<|aa k k<|an<|lL (by kernel_rfl)<|bB<|tn<|aI (t:=mN [(0,.int a0),(5,.own 5 0 ((x1.1++[v4]).length)),(8,.list 3 (a1.map eM)),(9,.int (a1.length:Int)),(10,.int x1.2)] [(5,⟨2,List.map (ow eS) (x1.1++[v4])⟩)] 6) (Ent.trans (dJ (b:=5) (b':=3) (j:=1) (es':=v4.basis.map (dQ 1 eI)) k k k k (aH _ _) (cB.frzs _)) (bP (kT 1 k2 (gH ⟨_,k,⟨k,k,(by simp only [aH,lA,lT,lR,lC,lN]),k⟩⟩ (bG k2))) (hX ⟨_,k,k,.inl ⟨fV v4 k,cV.plainO _⟩⟩ k<|aQ) k4)) ?_;exact rg<|ae (bF k k) k<|am k k<|an<|tn<|sp h ⟨_,k,(gT [5] (bG k2) (bW (cV.plainO _) k<|aQ) k4)⟩
 ·rintro e t ⟨rfl,hent⟩;exact aN<|tn<|aI hent<|sR<|am k k<|aT k2<|aE<|sp h (bD k k k (fH (cW cV k k)))
def oN (a0:Rp) (a1:(List Mt)) (x1:((List Mt)×Int)):Option (((List Mt)×Int) ⊕ (List Mt)):=
 bif decide (x1.2<(a1.length:Int)) then
 ((cY a1 x1.2).bind λv2=>
 (uY a0.p v2 8).bind λv3=>
 bif decide (x1.1.length+1≤4294967296) then
 (some (.inl ((x1.1++[v3]),wr (x1.2+1))))
 else none)
 else
 (some (.inr x1.1))
def aAO (a0:Rp) (a1:(List Mt)):Option ((List Sc)×(List Sc)×Bool):=
 (Lp (oN a0 a1) ([],0)).bind λy5=>
 (wG a0.p y5).bind λv6=>
 (yB a0.p y5).bind λv7=>
 (qM v6).bind λv8=>
 (nL v8).bind λv9=>
 bif decide (v9=0) then
 (some (([],[],false)))
 else
 ((qM v7).bind λv11=>
 (nL v11).bind λv12=>
 bif decide (v12=0) then
 (some (([],[],false)))
 else
 (some ((v6,v7,true))))
theorem aLK (a0:Rp) (a1:(List Mt)) (r:((List Sc)×(List Sc)×Bool)) (h:aAO a0 a1=some r):HasC Tryz.prog 192 [.agg (eR a0),.list 3 (a1.map eM)] (.tuple [.list 2 (r.1.map eS),.list 2 (r.2.1.map eS),.bl r.2.2]):=by
 refine hM [.tmp 4,.tmp 5,.tmp 6] Tryz.func192 Tryz.ntmps192 k<|sR<|ae (wb k) k<|aa k k<|aa k k<|aT k2<|sR<|aT k2<|sQ<|sR<|am k k<|ln k4<|am k k<|an<|tn<|aD<|oB h λy5 hy5 h=>cC (body:=(oN a0 a1)) hy5 (λ(x1:((List Mt)×Int))=>mN [(2,.ptr 0 0 0),(7,.own 1 0 x1.1.length),(12,.list 3 (a1.map eM)),(13,.int (a1.length:Int)),(14,.int x1.2)] [(0,⟨6,[eR a0]⟩),(1,⟨3,x1.1.map (ow eM)⟩)] 2) (λr e t=>e= .exit 0∧Ent t (mN [(2,.ptr 0 0 0),(7,.own 1 0 r.length)] [(0,⟨6,[eR a0]⟩),(1,⟨3,r.map (ow eM)⟩)] 2)) (eY (σ:=sg [(0,0)]) (kT 1 k2 (gH ⟨_,k,⟨k,k,k,k⟩⟩ (bG k2))) (bO k<|hX k k<|aQ) k) ?_ ?_
 ·intro x1 o h;refine sR<|cm k4<|an<|tn<|sQ<|cN k h (λ_ h=>?_) λ_ h=>aY<|aB<|aB<|sp h ⟨_,k,k,(bP (bG k2) (bO k<|bW (aX.plainO _) k<|aQ) k4)⟩;refine aG<|tn<|sQ<|aD<|sR<|oB h λv2 hv2 h=>ae (xl hv2 k) k<|lr k7<|ae (bX aJ k k) k<|ae (ws k) k<|an<|tn<|rg<|am k k<|fp k8<|lp k8<|lp k8<|oB h λv3 hv3 h=>ae (cM (aLJ a0.p v2 8 v3 hv3) k3 (cJ k (aL (eV k) (cJ k aO)))) k<|ae (wl k) k<|cG h λq4 h=>ae (fN aJ (l:=x1.1) (c:=[.int v3.rows,.int v3.cols,.own 3 0 v3.cells.length]) q4 k k k k k k k k k k k k k k) k<|aa k k<|an<|bB<|tn<|aI (t:=mN [(2,.ptr 0 0 0),(7,.own 5 0 ((x1.1++[v3]).length)),(12,.list 3 (a1.map eM)),(13,.int (a1.length:Int)),(14,.int x1.2)] [(0,⟨6,[eR a0]⟩),(5,⟨3,List.map (ow eM) (x1.1++[v3])⟩)] 6) (Ent.trans (dJ (b:=5) (b':=3) (j:=2) (es':=v3.cells.map eI) k k k k (aH _ _) (cA.frzs _)) (bP (kT 1 k2 (gH ⟨_,k,⟨k,k,(by simp only [aH,lA,lT,lR,lC,lN]),k⟩⟩ (bG k2))) (bO k<|hX ⟨_,k,k,.inl ⟨fV v3 k,aX.plainO _⟩⟩ k<|aQ) k4))<|rg<|ae (bF k k) k<|am k k<|an ?_;exact tn<|sp h ⟨_,k,(gT [0,5] (bG k2) (bO k<|bW (aX.plainO _) k<|aQ) k4)⟩
 ·rintro e t ⟨rfl,hent⟩;exact aN<|tn<|aI hent<|sQ<|aP fB<|fp k8<|lp k8<|am k k<|oB h λv6 hv6 h=>ae (cL cV (aIK a0.p y5 v6 hv6) k3 (cJ k (aL (tA aX k k) aO))) k<|fp k8<|lp k8<|am k k<|oB h λv7 hv7 h=>ae (cL cV (aJH a0.p y5 v7 hv7) k3 (cJ k (aL (tA aX k k) aO))) k<|aa k k<|aa k k<|an<|lL (by kernel_rfl)<|tn<|sQ<|sR<|am k k<|oB h λv8 hv8 h=>ae (cL cA (aCO v6 v8 hv8) k3 (aL (tA cV k k) aO)) k<|oB h λv9 hv9 h=>ae (aS (aBh v8 v9 hv9) k (vcT k k aO)) k<|cm k4<|am k k<|sP h (λq10 h=>aV 38 k q10<|aK k4<|aK k4<|pk k3<|an<|tn<|dO k k<|sR<|aa k k<|aa k k<|aT k2<|aE<|aC<|sp h (bD k k k (cU k (bL (dL (k)) (bL (dL (k)) (bL (k) eG)))))) λq10 h=>aV 38 k q10<|am k k<|oB h λv11 hv11 h=>ae (cL cA (aCO v7 v11 hv11) k3 (aL (tA cV k k) aO)) k<|oB h λv12 hv12 h=>ae (aS (aBh v11 v12 hv12) k (vcT k k aO)) k<|cm k4<|pk k3<|an<|tn<|cN k h (λ_ h=>sR<|aa k k<|aa k k<|aT k2<|aE<|aC<|sp h (bD k k k (cU k (bL (dL (k)) (bL (dL (k)) (bL (k) eG)))))) λ_ h=>aG<|tn<|sR<|am k k<|am k k<|aa k k<|aa k k<|aT k2<|aI (t:=mN [(4,.own 2 0 v6.length),(5,.own 3 0 v7.length),(6,.bl true)] [(2,⟨2,v6.map (ow eS)⟩),(3,⟨2,v7.map (ow eS)⟩)] 6) (bP (bG k2) (bW (cV.plainO _) k<|bW (cV.plainO _) k<|aQ) k4)<|aE<|sp h (bD k k k (cU k (bL (dL (cW cV k k)) (bL (dL (cW cV k k)) (bL (k) eG)))))
def pV (a0:Rp) (a1:(List (List Mt))) (x1:Int):Option (Int ⊕ (Unit ⊕ ((List Sc)×(List Sc)×Bool))):=
 (qR a0.p (a1.length:Int)).bind λv1=>
 bif decide (x1<min v1 3000) then
 ((yN a0 a0 a1 x1).bind λv3=>
 (aAO a0 v3).bind λv4=>
 bif v4.2.2 then
 (some (.inr (.inr ((v4.1,v4.2.1,true)))))
 else
 (some (.inl (wr (x1+1)))))
 else
 (some (.inr (.inl ())))
def wH (a0:Rp) (a1:(List (List Mt))):Option ((List Sc)×(List Sc)×Bool):=
 (Lp (pV a0 a1) 1).bind λy6=>
 Sum.elim (λy7=>
 some (([],[],false))
 )
 (λy8=>
 some y8
 )
 y6
theorem aIL (a0:Rp) (a1:(List (List Mt))) (r:((List Sc)×(List Sc)×Bool)) (h:wH a0 a1=some r):HasC Tryz.prog 160 [.agg (eR a0),.list 1 (a1.map (dQ 3 eM))] (.tuple [.list 2 (r.1.map eS),.list 2 (r.2.1.map eS),.bl r.2.2]):=by
 refine hM [.tmp 4,.tmp 5,.tmp 6] Tryz.func160 Tryz.ntmps160 k<|sR<|ae (wb k) k<|aa k k<|aa k k<|aT k2<|sQ<|sR<|aT k2<|aD<|oB h λy6 hy6 h=>cC (body:=(pV a0 a1)) hy6 (λ(x1:Int)=>mN [(1,.list 1 (a1.map (dQ 3 eM))),(2,.ptr 0 0 0),(7,.int x1)] [(0,⟨6,[eR a0]⟩)] 1) (λr e t=>Sum.elim (λa=>(λr e t=>e= .exit 0∧Ent t (mN [] [] 0)) a e t) (λb=>(λr e t=>e= .ret∧mW TT [.tmp 4,.tmp 5,.tmp 6] (.tuple [.list 2 (r.1.map eS),.list 2 (r.2.1.map eS),.bl r.2.2]) .ret t) b e t) r) (bP (bG k2) (bO k<|aQ) k4) ?_ ?_
 ·intro x1 o h;refine sQ<|sR<|am k k<|fp k8<|lp k8<|am k k<|ln k4<|oB h λv1 hv1 h=>ae (aS (aDZ a0.p (a1.length:Int) v1 hv1) k (cJ k (cJ k aO))) k<|ae (aXp k k) k<|cm k4<|an<|tn<|cN k h (λ_ h=>?_) λ_ h=>aY<|aB<|aB<|sp h ⟨_,k,k,(bP aQ aQ k4)⟩;exact aG<|tn<|sQ<|aD<|sQ<|aP fB<|lp k8<|lp k8<|lp k8<|am k k<|am k k<|oB h λv3 hv3 h=>ae (cL aX (aJR a0 a0 a1 x1 v3 hv3) k3 (aL (eV k) (aL (eV k) (cJ k (cJ k aO))))) k<|oB h λv4 hv4 h=>ae (AEff.conv (jE (x:= .tuple [.own 2 0 (v4.1.map eS).length,.own 3 0 (v4.2.1.map eS).length,.bl v4.2.2]) (nb:=[(2,⟨2,cF (v4.1.map eS)⟩),(3,⟨2,cF (v4.2.1.map eS)⟩)]) (aLK a0 v3 v4 hv4) k (by rfl) k k (dE (cV.good _) (dE (cV.good _) (dE aQ qD))) (aL (eV k) (aL (tA aX k k) aO))) (v':= .tuple [.own 2 0 v4.1.length,.own 3 0 v4.2.1.length,.bl v4.2.2]) (ed':=[(2,some ⟨2,v4.1.map (ow eS)⟩),(3,some ⟨2,v4.2.1.map (ow eS)⟩)]) (by simp only [aH]) (pE (nb':=[(2,⟨2,v4.1.map (ow eS)⟩),(3,⟨2,v4.2.1.map (ow eS)⟩)]) (by simp only [dX]))) k<|am k k<|ae (bA k k (by intro _ h;cases h)) k<|ae (bA k k (by intro _ h;cases h)) k<|ae (bA k k (by intro _ h;cases h)) k<|aa k k<|aa k k<|aa k k<|an<|lL (by kernel_rfl)<|tn<|sR<|am k k<|an<|tn<|cN k h (λ_ h=>sR<|am k k<|am k k<|aa k k<|aa k k<|aT k2<|aI (t:=mN [(4,.own 2 0 v4.1.length),(5,.own 3 0 v4.2.1.length),(6,.bl true)] [(2,⟨2,v4.1.map (ow eS)⟩),(3,⟨2,v4.2.1.map (ow eS)⟩)] 4) (bP (bG k2) (bW (cV.plainO _) k<|bW (cV.plainO _) k<|aQ) k4)<|aE<|bC<|aC<|aC<|sp h ⟨_,k,k,bD k k k (cU k (bL (dL (cW cV k k)) (bL (dL (cW cV k k)) (bL (k) eG))))⟩) λ_ h=>aG<|bB<|tn<|rg<|am k k<|ae (bF k k) k<|aT k2<|sp h ⟨_,k,(bP (bG k2) (bO k<|aQ) k4)⟩
 ·intro e t hX;rcases y6 with y7|y8
  ·obtain ⟨rfl,hent⟩:=hX;exact aN<|tn<|aI hent<|sR<|aa k k<|aa k k<|aT k2<|aE<|sp h (bD k k k (cU k (bL (dL (k)) (bL (dL (k)) (bL (k) eG)))))
  ·obtain ⟨rfl,hent⟩:=hX;exact bC<|aC<|sp h hent
def oO (a0:(List Int)) (x1:((List Mt)×Int)):Option (((List Mt)×Int) ⊕ (List Mt)):=
 bif decide (x1.2<(a0.length:Int)) then
 ((cY a0 x1.2).bind λv2=>
 (sH v2).bind λv3=>
 bif decide (x1.1.length+1≤4294967296) then
 (some (.inl ((x1.1++[v3]),wr (x1.2+1))))
 else none)
 else
 (some (.inr x1.1))
def uD (a0:(List Int)):Option (List Mt):=
 (Lp (oO a0) ([],0)).bind λy5=>
 some (y5)
theorem aHP (a0:(List Int)) (r:(List Mt)) (h:uD a0=some r):HasC Tryz.prog 161 [.list 1 (a0.map eI)] (.list 3 (r.map eM)):=by
 refine hM [.tmp 2] Tryz.func161 Tryz.ntmps161 k<|sR<|aT k2<|sR<|aT k2<|sQ<|sR<|am k k<|ln k4<|am k k<|an<|tn<|aD<|oB h λy5 hy5 h=>cC (body:=(oO a0)) hy5 (λ(x1:((List Mt)×Int))=>mN [(3,.own 0 0 x1.1.length),(6,.list 1 (a0.map eI)),(7,.int (a0.length:Int)),(8,.int x1.2)] [(0,⟨3,x1.1.map (ow eM)⟩)] 1) (λr e t=>e= .exit 0∧Ent t (mN [(3,.own 0 0 r.length)] [(0,⟨3,r.map (ow eM)⟩)] 1)) (eY (σ:=sg []) (gH ⟨_,k,⟨k,k,k,k⟩⟩ (bG k2)) (hX k k<|aQ) k) ?_ ?_
 ·intro x1 o h;exact sR<|cm k4<|an<|tn<|sQ<|cN k h (λ_ h=>aG<|tn<|sQ<|aD<|sR<|oB h λv2 hv2 h=>ae (xl hv2 k) k<|lr k7<|aT k2<|rg<|am k k<|am k k<|oB h λv3 hv3 h=>ae (cM (aEM v2 v3 hv3) k3 (cJ k aO)) k<|ae (wl k) k<|cG h λq4 h=>ae (fN aJ (l:=x1.1) (c:=[.int v3.rows,.int v3.cols,.own 1 0 v3.cells.length]) q4 k k k k k k k k k k k k k k) k<|aa k k<|an<|bB<|tn<|aI (t:=mN [(3,.own 3 0 ((x1.1++[v3]).length)),(6,.list 1 (a0.map eI)),(7,.int (a0.length:Int)),(8,.int x1.2)] [(3,⟨3,List.map (ow eM) (x1.1++[v3])⟩)] 4) (Ent.trans (dJ (b:=3) (b':=1) (j:=2) (es':=v3.cells.map eI) k k k k (aH _ _) (cA.frzs _)) (bP (gH ⟨_,k,⟨k,k,(by simp only [aH,lA,lT,lR,lC,lN]),k⟩⟩ (bG k2)) (hX ⟨_,k,k,.inl ⟨fV v3 k,aX.plainO _⟩⟩ k<|aQ) k4))<|rg<|ae (bF k k) k<|am k k<|an<|tn<|sp h ⟨_,k,(gT [3] (bG k2) (bW (aX.plainO _) k<|aQ) k4)⟩) λ_ h=>aY<|aB<|aB<|sp h ⟨_,k,k,(bP (bG k2) (bW (aX.plainO _) k<|aQ) k4)⟩
 ·rintro e t ⟨rfl,hent⟩;exact aN<|tn<|aI hent<|sR<|am k k<|aT k2<|aE<|sp h (bD k k k (fH (cW aX k k)))
def sC (a0:Int) (a1:(List Mt)) (a2:(List Mt)) (x1:((List Mt)×Int)):Option (((List Mt)×Int) ⊕ (List Mt)):=
 bif decide (x1.2<(a1.length:Int)) then
 ((cY a1 x1.2).bind λv2=>
 (cY a2 x1.2).bind λv3=>
 (nW a0 v3 v2).bind λv4=>
 bif decide (x1.1.length+1≤4294967296) then
 (some (.inl ((x1.1++[v4]),wr (x1.2+1))))
 else none)
 else
 (some (.inr x1.1))
def nG (a0:Int) (a1:(List Mt)) (a2:(List Mt)):Option (List Mt):=
 (Lp (sC a0 a1 a2) ([],0)).bind λy6=>
 some (y6)
theorem aJU (a0:Int) (a1:(List Mt)) (a2:(List Mt)) (r:(List Mt)) (h:nG a0 a1 a2=some r):HasC Tryz.prog 164 [.int a0,.list 3 (a1.map eM),.list 3 (a2.map eM)] (.list 3 (r.map eM)):=by
 refine hM [.tmp 6] Tryz.func164 Tryz.ntmps164 k<|sR<|aT k2<|sR<|aT k2<|sQ<|sR<|am k k<|ln k4<|am k k<|an<|tn<|aD<|oB h λy6 hy6 h=>cC (body:=(sC a0 a1 a2)) hy6 (λ(x1:((List Mt)×Int))=>mN [(0,.int a0),(2,.list 3 (a2.map eM)),(7,.own 0 0 x1.1.length),(10,.list 3 (a1.map eM)),(11,.int (a1.length:Int)),(12,.int x1.2)] [(0,⟨3,x1.1.map (ow eM)⟩)] 1) (λr e t=>e= .exit 0∧Ent t (mN [(7,.own 0 0 r.length)] [(0,⟨3,r.map (ow eM)⟩)] 1)) (eY (σ:=sg []) (kT 2 k2 (gH ⟨_,k,⟨k,k,k,k⟩⟩ (bG k2))) (hX k k<|aQ) k) ?_ ?_
 ·intro x1 o h;refine sR<|cm k4<|an<|tn<|sQ<|cN k h (λ_ h=>?_) λ_ h=>aY<|aB<|aB<|sp h ⟨_,k,k,(bP (bG k2) (bW (aX.plainO _) k<|aQ) k4)⟩;refine aG<|tn<|sQ<|aD<|sR<|am k k<|oB h λv2 hv2 h=>ae (xl hv2 k) k<|lr k7<|ae (bX aJ k k) k<|aa k k<|ae (ws k) k<|an<|tn<|aP fB<|am k k<|am k k<|am k k<|am k k<|oB h λv3 hv3 h=>ae (xl hv3 k) k<|lr k7<|lp k8<|oB h λv4 hv4 h=>ae (cM (aAB a0 v3 v2 v4 hv4) k3 (cJ k (aL (eV k) (aL (eV k) aO)))) k<|ae (wl k) k<|cG h λq5 h=>ae (fN aJ (l:=x1.1) (c:=[.int v4.rows,.int v4.cols,.own 2 0 v4.cells.length]) q5 k k k k k k k k k k k k k k) k<|aa k k<|an<|lL (by kernel_rfl)<|bB ?_;exact tn<|aI (t:=mN [(0,.int a0),(2,.list 3 (a2.map eM)),(7,.own 4 0 ((x1.1++[v4]).length)),(10,.list 3 (a1.map eM)),(11,.int (a1.length:Int)),(12,.int x1.2)] [(4,⟨3,List.map (ow eM) (x1.1++[v4])⟩)] 5) (Ent.trans (dJ (b:=4) (b':=2) (j:=2) (es':=v4.cells.map eI) k k k k (aH _ _) (cA.frzs _)) (bP (kT 2 k2 (gH ⟨_,k,⟨k,k,(by simp only [aH,lA,lT,lR,lC,lN]),k⟩⟩ (bG k2))) (hX ⟨_,k,k,.inl ⟨fV v4 k,aX.plainO _⟩⟩ k<|aQ) k4))<|rg<|ae (bF k k) k<|am k k<|an<|tn<|sp h ⟨_,k,(gT [4] (bG k2) (bW (aX.plainO _) k<|aQ) k4)⟩
 ·rintro e t ⟨rfl,hent⟩;exact aN<|tn<|aI hent<|sR<|am k k<|aT k2<|aE<|sp h (bD k k k (fH (cW aX k k)))
def oP (a0:Rp) (v9:(Rp×(List Mt))) (v10:((List Rp)×(List (List Mt))×Bool)) (x2:((List (List Mt))×Int)):Option (((List (List Mt))×Int) ⊕ (List (List Mt))):=
 bif decide (x2.2<((v10.2.1.length:Nat):Int)) then
 ((cY v10.2.1 x2.2).bind λv14=>
 (nG a0.p v14 v9.2).bind λv15=>
 bif decide (x2.1.length+1≤4294967296) then
 (some (.inl ((x2.1++[v15]),wr (x2.2+1))))
 else none)
 else
 (some (.inr x2.1))
def iV (self:(Rp→Option ((List Rp)×(List (List Mt))×Bool))) (a0:Rp) (v2:((List Sc)×(List Sc)×Bool)) (x1:((List Rp)×(List (List Mt))×Int)):Option (((List Rp)×(List (List Mt))×Int) ⊕ (((List Rp)×(List (List Mt))) ⊕ Unit)):=
 bif decide (x1.2.2<2) then
 ((cY [v2.1,v2.2.1] x1.2.2).bind λv8=>
 (aAy a0 v8).bind λv9=>
 (self v9.1).bind λv10=>
 bif !v10.2.2 then
 (some (.inr (.inr ())))
 else
 (bif decide (x1.1.length+v10.1.length≤4294967296) then
 ((Lp (oP a0 v9 v10) (x1.2.1,0)).bind λy17=>
 some (.inl ((x1.1++v10.1),y17,wr (x1.2.2+1))))
 else none))
 else
 (some (.inr (.inl (x1.1,x1.2.1))))
def aAm (self:Rp→Option ((List Rp)×(List (List Mt))×Bool)) (a0:Rp):Option ((List Rp)×(List (List Mt))×Bool):=
 (yK a0 a0).bind λv1=>
 (wH a0 v1).bind λv2=>
 bif !v2.2.2 then
 ((qP a0).bind λv4=>
 (uD a0.dims).bind λv5=>
 (qR a0.p ((v1.length:Nat):Int)).bind λv6=>
 some ([v4],[v5],decide (v6≤3000)))
 else
 ((Lp (iV self a0 v2) ([],[],0)).bind λy18=>
 Sum.elim (λy19=>
 some (y19.1,y19.2,true)
 )
 (λy20=>
 some ([],[],false)
 )
 y18)
def iW:Nat→Rp→Option ((List Rp)×(List (List Mt))×Bool)
 |0,_=>none
 |n+1,a0=>aAm (iW n) a0
theorem aIM (self:Rp→Option ((List Rp)×(List (List Mt))×Bool)) (a0:Rp) (ih: ∀ (a0:Rp) (r:((List Rp)×(List (List Mt))×Bool)),self a0=some r→HasE Tryz.prog 118 [.agg (eR a0)] [] 0 (.tuple [.own 0 0 r.1.length,.own 1 0 r.2.1.length,.bl r.2.2]) [(0,⟨6,r.1.map (ow eR)⟩),(1,⟨1,r.2.1.map (ow (dQ 3 eM))⟩)]) (r:((List Rp)×(List (List Mt))×Bool)) (h:aAm self a0=some r):HasE Tryz.prog 118 [.agg (eR a0)] [] 0 (.tuple [.own 0 0 r.1.length,.own 1 0 r.2.1.length,.bl r.2.2]) [(0,⟨6,r.1.map (ow eR)⟩),(1,⟨1,r.2.1.map (ow (dQ 3 eM))⟩)]:=by
 refine aBf aJ (rvs:=[.tmp 2,.tmp 3,.tmp 4]) (ns:=nmA.drop 0) Tryz.func118 k k Tryz.ntmps118 k k<|sR<|ae (wb k) k<|aa k k<|aa k k<|aT k2<|sR<|lp k8<|lp k8<|oB h λv1 hv1 h=>ae (cL cB (aJO a0 a0 v1 hv1) k3 (aL (eV k) (aL (eV k) aO))) k<|aT k2<|sR<|lp k8<|am k k<|oB h λv2 hv2 h=>ae (AEff.conv (jE (x:= .tuple [.own 2 0 (v2.1.map eS).length,.own 3 0 (v2.2.1.map eS).length,.bl v2.2.2]) (nb:=[(2,⟨2,cF (v2.1.map eS)⟩),(3,⟨2,cF (v2.2.1.map eS)⟩)]) (aIL a0 v1 v2 hv2) k (by rfl) k k (dE (cV.good _) (dE (cV.good _) (dE aQ qD))) (aL (eV k) (aL (tA cB k k) aO))) (v':= .tuple [.own 2 0 v2.1.length,.own 3 0 v2.2.1.length,.bl v2.2.2]) (ed':=[(2,some ⟨2,v2.1.map (ow eS)⟩),(3,some ⟨2,v2.2.1.map (ow eS)⟩)]) (by simp only [aH]) (pE (nb':=[(2,⟨2,v2.1.map (ow eS)⟩),(3,⟨2,v2.2.1.map (ow eS)⟩)]) (by simp only [dX]))) k<|am k k<|ae (bA k k (by intro _ h;cases h)) k<|ae (bA k k (by intro _ h;cases h)) k<|ae (bA k k (by intro _ h;cases h)) k<|aa k k<|aa k k<|aa k k<|an ?_;refine tn<|sQ<|sR<|am k k<|ae (dI k) k<|an<|tn<|cN k h (λ_ h=>?_) λ_ h=>?_
 ·exact sQ<|aP fB<|lp k8<|oB h λv4 hv4 h=>ae (cR (aDY a0 v4 hv4) k3 (aL (eV k) aO)) k<|ae (wl k) k<|fp k8<|lp k8<|oB h λv5 hv5 h=>ae (cL aX (aHP a0.dims v5 hv5) k3 (cJ k aO)) k<|ae (wl k) k<|fp k8<|lp k8<|am k k<|ae (dR aJ k k k k) k<|oB h λv6 hv6 h=>ae (aS (aDZ a0.p ((v1.length:Nat):Int) v6 hv6) k (cJ k (cJ k aO))) k<|cm k4<|aa k k<|aa k k<|aa k k<|an<|lL (by kernel_rfl)<|tn<|aI (t:=mN [(2,.own 8 0 ([v4].length)),(3,.own 10 0 ([v5].length)),(4,.bl (decide (v6≤3000)))] [(8,⟨6,List.map (ow eR) [v4]⟩),(10,⟨1,List.map (ow (dQ 3 eM)) [v5]⟩)] 11 ⟨0,false,none,true⟩) (Ent.trans (gR (b:=8) (b':=4) (i:=0) (j:=2) (es':=v4.q.src.map eI) k k k k k (aH _ _) k (cA.frzs _)) (Ent.trans (gR (b:=8) (b':=5) (i:=0) (j:=3) (es':=v4.q.tgt.map eI) k k k k k (aH _ _) k (cA.frzs _)) (Ent.trans (gR (b:=8) (b':=6) (i:=0) (j:=4) (es':=v4.dims.map eI) k k k k k (aH _ _) k (cA.frzs _)) (Ent.trans (gR (b:=8) (b':=7) (i:=0) (j:=5) (es':=v4.maps.map eM) k k k k k (aH _ _) k (aX.frzs _)) (Ent.trans (gR (b:=10) (b':=9) (i:=0) (j:=0) (es':=v5.map eM) k k k k k (aH _ _) k (aX.frzs _)) (bP (gH ⟨_,k,⟨k,k,(by simp only [aH,lA,lT,lR,lC,lN]),k⟩⟩ (gH ⟨_,k,⟨k,k,(by simp only [aH,lA,lT,lR,lC,lN]),k⟩⟩ (bG k2))) (bW (cZ.plainO _) k<|bW (cB.plainO _) k<|aQ) k4))))))<|aE<|aC<|sp h ⟨mN [(2,.own 0 0 ([v4].length)),(3,.own 1 0 ([v5].length)),(4,.bl (decide (v6≤3000)))] [(0,⟨6,List.map (ow eR) [v4]⟩),(1,⟨1,List.map (ow (dQ 3 eM)) [v5]⟩)] 2 ⟨0,false,none,true⟩,(gT [8,10] (bG k2) (bW (cZ.plainO _) k<|bW (cB.plainO _) k<|aQ) k4),k,⟨_,k,.inr ⟨(by simp),k,k⟩⟩,⟨k,k,aQ⟩⟩
 ·refine aG<|tn<|sR<|aT k2<|sR<|aT k2<|sQ<|sR<|am k k<|am k k<|ae (wl k) k<|ae (dR aJ k k k k) k<|am k k<|an<|tn<|aI (t:=mN [(1,.ptr 0 0 0),(9,.nil 0),(10,.nil 0),(47,.own 4 0 ([v2.1,v2.2.1].length)),(48,.int 2),(49,.int 0)] [(0,⟨6,[eR a0]⟩),(4,⟨1,List.map (ow (dQ 2 eS)) [v2.1,v2.2.1]⟩)] 5 ⟨0,false,none,true⟩) (Ent.trans (gR (b:=4) (b':=2) (i:=0) (j:=0) (es':=v2.1.map eS) k k k k k (aH _ _) k (cV.frzs _)) (Ent.trans (gR (b:=4) (b':=3) (i:=1) (j:=0) (es':=v2.2.1.map eS) k k k k k (aH _ _) k (cV.frzs _)) (bP (kT 3 k2 (gH ⟨_,k,⟨k,k,(by simp only [aH,lA,lT,lR,lC,lN]),k⟩⟩ (bG k2))) (bO k<|bW (cB.plainO _) k<|aQ) k4)))<|aD<|oB h λy18 hy18 h=>cC (body:=(iV self a0 v2)) hy18 (λ(x1:((List Rp)×(List (List Mt))×Int))=>mN [(1,.ptr 0 0 0),(9,.own 1 0 x1.1.length),(10,.own 2 0 x1.2.1.length),(47,.own 3 0 ([v2.1,v2.2.1].length)),(48,.int 2),(49,.int x1.2.2)] [(0,⟨6,[eR a0]⟩),(1,⟨6,x1.1.map (ow eR)⟩),(2,⟨1,x1.2.1.map (ow (dQ 3 eM))⟩),(3,⟨1,List.map (ow (dQ 2 eS)) [v2.1,v2.2.1]⟩)] 4 ⟨0,false,none,true⟩) (λr e t=>Sum.elim (λa=>(λr e t=>e= .exit 0∧Ent t (mN [(9,.own 0 0 r.1.length),(10,.own 1 0 r.2.length)] [(0,⟨6,r.1.map (ow eR)⟩),(1,⟨1,r.2.map (ow (dQ 3 eM))⟩)] 2 ⟨0,false,none,true⟩)) a e t) (λb=>(λr e t=>e= .ret∧Ent t (mN [(2,.nil 0),(3,.nil 0),(4,.bl false)] [] 0 ⟨0,false,none,true⟩)) b e t) r) (eY (σ:=sg [(0,0),(3,4)]) (kT 1 k2 (gH ⟨_,k,⟨k,k,k,k⟩⟩ (gH ⟨_,k,⟨k,k,k,k⟩⟩ (bG k2)))) (bO k<|hX k k<|hX k k<|bW (cB.plainO _) k<|aQ) k) ?_ ?_
  ·intro x1 o h;refine sR<|cm k4<|an<|tn<|sQ<|cN k h (λ_ h=>?_) λ_ h=>aY<|aB<|aB<|sp h ⟨_,k,k,(gT [1,2] (bG k2) (bW (cZ.plainO _) k<|bW (cB.plainO _) k<|aQ) k4)⟩;refine aG<|tn<|sQ<|aD<|sR<|oB h λv8 hv8 h=>ae (xo hv8 k) k<|ae (wp hv8 k) k<|aT k2<|sR<|lp k8<|am k k<|oB h λv9 hv9 h=>ae (AEff.conv (jE (x:= .tuple [.agg [.int v9.1.p,.int v9.1.q.n,.own 4 0 (v9.1.q.src.map eI).length,.own 5 0 (v9.1.q.tgt.map eI).length,.own 6 0 (v9.1.dims.map eI).length,.own 7 0 (v9.1.maps.map eM).length],.own 8 0 (v9.2.map eM).length]) (nb:=[(4,⟨1,cF (v9.1.q.src.map eI)⟩),(5,⟨1,cF (v9.1.q.tgt.map eI)⟩),(6,⟨1,cF (v9.1.dims.map eI)⟩),(7,⟨3,cF (v9.1.maps.map eM)⟩),(8,⟨3,cF (v9.2.map eM)⟩)]) (aLf a0 v8 v9 hv9) k (by rfl) k k (dE (bU aQ (bU aQ (bU (cA.good _) (bU (cA.good _) (bU (cA.good _) (bU (aX.good _) tC)))))) (dE (aX.good _) qD)) (aL (eV k) (cJ k aO))) (v':= .tuple [.agg [.int v9.1.p,.int v9.1.q.n,.own 4 0 v9.1.q.src.length,.own 5 0 v9.1.q.tgt.length,.own 6 0 v9.1.dims.length,.own 7 0 v9.1.maps.length],.own 8 0 v9.2.length]) (ed':=[(4,some ⟨1,v9.1.q.src.map (ow eI)⟩),(5,some ⟨1,v9.1.q.tgt.map (ow eI)⟩),(6,some ⟨1,v9.1.dims.map (ow eI)⟩),(7,some ⟨3,v9.1.maps.map (ow eM)⟩),(8,some ⟨3,v9.2.map (ow eM)⟩)]) (by simp only [aH]) (pE (nb':=[(4,⟨1,v9.1.q.src.map (ow eI)⟩),(5,⟨1,v9.1.q.tgt.map (ow eI)⟩),(6,⟨1,v9.1.dims.map (ow eI)⟩),(7,⟨3,v9.1.maps.map (ow eM)⟩),(8,⟨3,v9.2.map (ow eM)⟩)]) (by simp only [dX]))) k<|am k k<|ae (bA k k (by intro _ h;cases h)) k<|ae (bA k k (by intro _ h;cases h)) k<|ae (bX aJ k k) k<|ae (ws k) k<|aT k2<|sR<|lp k8<|oB h λv10 hv10 h=>ae (aCN (σ:=sg []) (σ':=sg [(10,0),(11,1)]) (touch:=[4,5,6,7]) (news:=[10,11]) (hl2:=[(10,⟨6,v10.1.map (ow eR)⟩),(11,⟨1,v10.2.1.map (ow (dQ 3 eM))⟩)]) (n':=12) (r2:= .tuple [.own 10 0 v10.1.length,.own 11 0 v10.2.1.length,.bl v10.2.2]) (ih v9.1 v10 hv10) k k ⟨_,_,k,(.inr ⟨⟨_,_,k,(eU k),⟨_,_,k,(eU k),⟨_,_,k,(eD cA k k),⟨_,_,k,(eD cA k k),⟨_,_,k,(eD cA k k),⟨_,_,k,(eD aX k k),k⟩⟩⟩⟩⟩⟩,k,k⟩),k⟩ aQ k k k ⟨⟨_,k,k,.inl ⟨k,cZ.plainO _⟩⟩,k,⟨_,k,k,.inl ⟨k,cB.plainO _⟩⟩,k,aQ⟩ k (.inr ⟨_,_,k,k,⟨_,_,k,⟨k,k,(by simp only [aH,lA,lT,lR,lC,lN]),k⟩,⟨_,_,k,⟨k,k,(by simp only [aH,lA,lT,lR,lC,lN]),k⟩,⟨_,_,k,k,k⟩⟩⟩⟩) k ⟨k,cZ.tamd _ _,⟨k,cB.tamd _ _,aQ⟩⟩ k k) k<|am k k ?_;refine ae (bA k k (by intro _ h;cases h)) k<|ae (bA k k (by intro _ h;cases h)) k<|ae (bA k k (by intro _ h;cases h)) k<|aa k k<|aa k k<|aT k2<|sQ<|sR<|am k k<|ae (dI k) k<|an<|tn<|aI (t:=mN [(1,.ptr 0 0 0),(9,.own 1 0 x1.1.length),(10,.own 2 0 x1.2.1.length),(14,.own 8 0 v9.2.length),(15,.own 10 0 v10.1.length),(16,.own 11 0 v10.2.1.length),(47,.own 3 0 ([v2.1,v2.2.1].length)),(48,.int 2),(49,.int x1.2.2),(66,.bl (!v10.2.2))] [(0,⟨6,[eR a0]⟩),(1,⟨6,x1.1.map (ow eR)⟩),(2,⟨1,x1.2.1.map (ow (dQ 3 eM))⟩),(3,⟨1,List.map (ow (dQ 2 eS)) [v2.1,v2.2.1]⟩),(8,⟨3,v9.2.map (ow eM)⟩),(10,⟨6,v10.1.map (ow eR)⟩),(11,⟨1,v10.2.1.map (ow (dQ 3 eM))⟩)] 12 ⟨0,false,none,true⟩) (bP (bG k2) (bO k<|bW (cZ.plainO _) k<|bW (cB.plainO _) k<|bW (cB.plainO _) k<|bW (aX.plainO _) k<|bW (cZ.plainO _) k<|bW (cB.plainO _) k<|aQ) k4)<|cN k h (λ_ h=>sR<|aa k k<|aa k k<|aT k2<|aE<|aC<|bC<|aC<|aC<|sp h ⟨_,k,k,(bP (bG k2) aQ k4)⟩) λ_ h=>?_;refine aG<|tn<|sR<|am k k<|am k k<|cG h λq12 h=>ae (aPK aJ (l:=x1.1) (m:=v10.1) cZ q12 k k k k k k k k k k k k k k) k<|aT k2<|sR<|am k k<|ae (dR aJ k k k k) k<|am k k<|an<|tn<|aD<|oB h λy17 hy17 h=>cC (body:=(oP a0 v9 v10)) hy17 (λ(x2:((List (List Mt))×Int))=>mN [(1,.ptr 0 0 0),(9,.own 1 0 ((x1.1++v10.1).length)),(10,.own 2 0 x2.1.length),(14,.own 3 0 v9.2.length),(47,.own 4 0 ([v2.1,v2.2.1].length)),(48,.int 2),(49,.int x1.2.2),(70,.own 5 0 v10.2.1.length),(71,.int ((v10.2.1.length:Nat):Int)),(72,.int x2.2)] [(0,⟨6,[eR a0]⟩),(1,⟨6,List.map (ow eR) (x1.1++v10.1)⟩),(2,⟨1,x2.1.map (ow (dQ 3 eM))⟩),(3,⟨3,v9.2.map (ow eM)⟩),(4,⟨1,List.map (ow (dQ 2 eS)) [v2.1,v2.2.1]⟩),(5,⟨1,v10.2.1.map (ow (dQ 3 eM))⟩)] 6 ⟨0,false,none,true⟩) (λr e t=>e= .exit 2∧Ent t (mN [(1,.ptr 0 0 0),(9,.own 1 0 ((x1.1++v10.1).length)),(10,.own 2 0 r.length),(47,.own 3 0 ([v2.1,v2.2.1].length)),(48,.int 2),(49,.int x1.2.2)] [(0,⟨6,[eR a0]⟩),(1,⟨6,List.map (ow eR) (x1.1++v10.1)⟩),(2,⟨1,r.map (ow (dQ 3 eM))⟩),(3,⟨1,List.map (ow (dQ 2 eS)) [v2.1,v2.2.1]⟩)] 4 ⟨0,false,none,true⟩)) (gT [0,12,2,8,3,11] (bG k2) (bO k<|bW (cZ.plainO _) k<|bW (cB.plainO _) k<|bW (aX.plainO _) k<|bW (cB.plainO _) k<|bW (cB.plainO _) k<|aQ) k4) ?_ ?_
   ·intro x2 o h;refine sR<|cm k4<|an<|tn<|sQ<|cN k h (λ_ h=>?_) λ_ h=>aY<|aB<|aB<|sp h ⟨_,k,k,(gT [0,1,2,4] (bG k2) (bO k<|bW (cZ.plainO _) k<|bW (cB.plainO _) k<|bW (cB.plainO _) k<|aQ) k4)⟩;refine aG<|tn<|sQ<|aD<|sR<|oB h λv14 hv14 h=>ae (xo hv14 k) k<|ae (wp hv14 k) k<|aT k2<|rg<|am k k<|fp k8<|lp k8<|am k k<|am k k<|oB h λv15 hv15 h=>ae (cL aX (aJU a0.p v14 v9.2 v15 hv15) k3 (cJ k (cJ k (aL (tA aX k k) aO)))) k<|ae (wl k) k<|cG h λq16 h=>ae (fN aJ (l:=x2.1) (c:=[.own 6 0 v15.length]) q16 k k k k k k k k k k k k k k) k<|aa k k<|an<|bB<|tn<|aI (t:=mN [(1,.ptr 0 0 0),(9,.own 1 0 ((x1.1++v10.1).length)),(10,.own 8 0 ((x2.1++[v15]).length)),(14,.own 3 0 v9.2.length),(47,.own 4 0 ([v2.1,v2.2.1].length)),(48,.int 2),(49,.int x1.2.2),(70,.own 5 0 v10.2.1.length),(71,.int ((v10.2.1.length:Nat):Int)),(72,.int x2.2)] [(0,⟨6,[eR a0]⟩),(1,⟨6,List.map (ow eR) (x1.1++v10.1)⟩),(3,⟨3,v9.2.map (ow eM)⟩),(4,⟨1,List.map (ow (dQ 2 eS)) [v2.1,v2.2.1]⟩),(5,⟨1,v10.2.1.map (ow (dQ 3 eM))⟩),(8,⟨1,List.map (ow (dQ 3 eM)) (x2.1++[v15])⟩)] 9 ⟨0,false,none,true⟩) (Ent.trans (dJ (b:=8) (b':=6) (j:=0) (es':=v15.map eM) k k k k (aH _ _) (aX.frzs _)) (bP (kT 2 k2 (gH ⟨_,k,⟨k,k,(by simp only [aH,lA,lT,lR,lC,lN]),k⟩⟩ (bG k2))) (bO k<|bW (cZ.plainO _) k<|bW (aX.plainO _) k<|bW (cB.plainO _) k<|bW (cB.plainO _) k<|hX ⟨_,k,k,.inl ⟨fV v15 k,cB.plainO _⟩⟩ k<|aQ) k4))<|rg<|ae (bF k k) k<|am k k<|an ?_;exact tn<|sp h ⟨_,k,(gT [0,1,8,3,4,5] (bG k2) (bO k<|bW (cZ.plainO _) k<|bW (cB.plainO _) k<|bW (aX.plainO _) k<|bW (cB.plainO _) k<|bW (cB.plainO _) k<|aQ) k4)⟩
   ·rintro e t ⟨rfl,hent⟩;exact aN<|bB<|tn<|aI hent<|rg<|ae (bF k k) k<|am k k<|an<|tn<|sp h ⟨_,k,(bP (bG k2) (bO k<|bW (cZ.plainO _) k<|bW (cB.plainO _) k<|bW (cB.plainO _) k<|aQ) k4)⟩
  ·intro e t hX;rcases y18 with y19|y20
   ·obtain ⟨rfl,hent⟩:=hX;exact aN<|tn<|aI hent<|sR<|am k k<|am k k<|aa k k<|aa k k<|aT k2<|aE<|sp h ⟨mN [(2,.own 0 0 y19.1.length),(3,.own 1 0 y19.2.length),(4,.bl true)] [(0,⟨6,y19.1.map (ow eR)⟩),(1,⟨1,y19.2.map (ow (dQ 3 eM))⟩)] 2 ⟨0,false,none,true⟩,(bP (bG k2) (bW (cZ.plainO _) k<|bW (cB.plainO _) k<|aQ) k4),k,⟨_,k,.inr ⟨(by simp),k,k⟩⟩,⟨k,k,aQ⟩⟩
   ·obtain ⟨rfl,hent⟩:=hX;exact bC<|aC<|sp h ⟨mN [(2,.own 0 0 ([].length)),(3,.own 1 0 ([].length)),(4,.bl false)] [(0,⟨6,List.map (ow eR) []⟩),(1,⟨1,List.map (ow (dQ 3 eM)) []⟩)] 2 ⟨0,false,none,true⟩,(Ent.trans hent (eY (σ:=sg []) (gH ⟨_,k,⟨k,k,k,k⟩⟩ (gH ⟨_,k,⟨k,k,k,k⟩⟩ (bG k2))) (hX k k<|hX k k<|aQ) k)),k,⟨_,k,.inr ⟨(by simp),k,k⟩⟩,⟨k,k,aQ⟩⟩
theorem aEy: ∀ (n:Nat) (a0:Rp) (r:((List Rp)×(List (List Mt))×Bool)),iW n a0=some r→HasE Tryz.prog 118 [.agg (eR a0)] [] 0 (.tuple [.own 0 0 r.1.length,.own 1 0 r.2.1.length,.bl r.2.2]) [(0,⟨6,r.1.map (ow eR)⟩),(1,⟨1,r.2.1.map (ow (dQ 3 eM))⟩)]
 |0,a0,r,h=>by cases h
 |n+1,a0,r,h=>aIM (iW n) a0 (aEy n) r h
def aBC (a0:Mt) (a1:Mt):Option Mt:=
 (gU a0).bind λv1=>
 (gU a1).bind λv2=>
 bif decide (v1.length+v2.length≤4294967296) then
 ((fT a0.rows (v1++v2)).bind λv4=>
 some (v4))
 else none
theorem aLh (a0:Mt) (a1:Mt) (r:Mt) (h:aBC a0 a1=some r):HasC Tryz.prog 120 [.agg (eM a0),.agg (eM a1)] (.agg (eM r)):=by
 exact hM [.cell 4 91] Tryz.func120 Tryz.ntmps120 k<|sR<|ae (wb k) k<|ae (wb k) k<|ae (bX aJ k k) k<|an<|tn<|sQ<|aP fB<|fp k8<|lp k8<|lp k8<|oB h λv1 hv1 h=>ae (cL cB (tD a0 v1 hv1) k3 (aL (eV k) aO)) k<|lp k8<|oB h λv2 hv2 h=>ae (cL cB (tD a1 v2 hv2) k3 (aL (eV k) aO)) k<|cG h λq3 h=>ae (aPK aJ (l:=v1) (m:=v2) cB q3 k k k k k k k k k k k k k k) k<|oB h λv4 hv4 h=>ae (cM (mB a0.rows (v1++v2) v4 hv4) k3 (cJ k (aL (tA cB k k) aO))) k<|ae (ws k) k<|an<|lL (by kernel_rfl)<|tn<|aE<|sp h (bD k k k (iJ (aU (k) (aU (k) (aU (cW cA k k) fA)))))
def oU (v5:((List Rp)×(List (List Mt))×Bool)) (x1:((List Mt)×Int)) (x2:(Int×Int×(List Int)×Int)):Option ((Int×Int×(List Int)×Int) ⊕ (Int×Int×(List Int))):=
 bif decide (x2.2.2.2<((v5.2.1.length:Nat):Int)) then
 ((cY v5.2.1 x2.2.2.2).bind λv11=>
 (cY v11 x1.2).bind λv12=>
 (aBC (⟨x2.1,x2.2.1,x2.2.2.1⟩:Mt) v12).bind λv13=>
 some (.inl (v13.rows,v13.cols,v13.cells,wr (x2.2.2.2+1))))
 else
 (some (.inr (x2.1,x2.2.1,x2.2.2.1)))
def oV (a0:Rp) (v5:((List Rp)×(List (List Mt))×Bool)) (x1:((List Mt)×Int)):Option (((List Mt)×Int) ⊕ (List Mt)):=
 bif decide (x1.2<(a0.dims.length:Int)) then
 ((cY a0.dims x1.2).bind λv8=>
 (lI v8 0).bind λv9=>
 (Lp (oU v5 x1) (v9.rows,v9.cols,v9.cells,0)).bind λy14=>
 bif decide (x1.1.length+1≤4294967296) then
 (some (.inl ((x1.1++[(⟨y14.1,y14.2.1,y14.2.2⟩:Mt)]),wr (x1.2+1))))
 else none)
 else
 (some (.inr x1.1))
def aAP (a0:Rp):Option ((List Rp)×(List Mt)×Bool):=
 (aBj a0).bind λv1=>
 bif !v1 then
 (some (([],[],false)))
 else
 ((nL a0.dims).bind λv3=>
 bif decide (v3=0) then
 (some (([],[],false)))
 else
 ((iW 9 a0).bind λv5=>
 bif !v5.2.2 then
 (some (([],[],false)))
 else
 ((Lp (oV a0 v5) ([],0)).bind λy16=>
 some ((v5.1,y16,true)))))
theorem aLL (a0:Rp) (r:((List Rp)×(List Mt)×Bool)) (h:aAP a0=some r):HasC Tryz.prog 62 [.agg (eR a0)] (.tuple [.list 6 (r.1.map eR),.list 3 (r.2.1.map eM),.bl r.2.2]):=by
 refine hM [.tmp 2,.tmp 3,.tmp 4] Tryz.func62 Tryz.ntmps62 k<|sR<|ae (wb k) k<|aa k k<|aa k k<|aT k2<|sQ<|sR<|lp k8<|oB h λv1 hv1 h=>ae (aS (aNM a0 v1 hv1) k (aL (eV k) aO)) k<|ae (dI k) k<|am k k<|sP h (λq2 h=>aV 16 k q2<|aK k4<|aK k4<|pk k3<|an<|tn<|dO k k<|sR<|aa k k<|aa k k<|aT k2<|aE<|aC<|sp h (bD k k k (cU k (bL (dL (k)) (bL (dL (k)) (bL (k) eG)))))) λq2 h=>?_;refine aV 16 k q2<|fp k8<|lp k8<|oB h λv3 hv3 h=>ae (aS (aBh a0.dims v3 hv3) k (cJ k aO)) k<|cm k4<|pk k3<|an<|tn<|cN k h (λ_ h=>sR<|aa k k<|aa k k<|aT k2<|aE<|aC<|sp h (bD k k k (cU k (bL (dL (k)) (bL (dL (k)) (bL (k) eG)))))) λ_ h=>?_;refine aG<|tn<|sR<|lp k8<|oB h λv5 hv5 h=>ae (aCN (σ:=sg []) (σ':=sg [(1,0),(2,1)]) (touch:=[]) (news:=[1,2]) (hl2:=[(1,⟨6,v5.1.map (ow eR)⟩),(2,⟨1,v5.2.1.map (ow (dQ 3 eM))⟩)]) (n':=3) (r2:= .tuple [.own 1 0 v5.1.length,.own 2 0 v5.2.1.length,.bl v5.2.2]) (aEy 9 a0 v5 hv5) k k ⟨_,_,k,(.inl ⟨_,_,k,k,⟨_,_,k,k,⟨_,_,k,⟨k,k⟩,⟨_,_,k,⟨k,k⟩,⟨_,_,k,⟨k,k⟩,⟨_,_,k,⟨k,k⟩,k⟩⟩⟩⟩⟩⟩),k⟩ aQ k k k ⟨⟨_,k,k,.inl ⟨k,cZ.plainO _⟩⟩,k,⟨_,k,k,.inl ⟨k,cB.plainO _⟩⟩,k,aQ⟩ k (.inr ⟨_,_,k,k,⟨_,_,k,⟨k,k,(by simp only [aH,lA,lT,lR,lC,lN]),k⟩,⟨_,_,k,⟨k,k,(by simp only [aH,lA,lT,lR,lC,lN]),k⟩,⟨_,_,k,k,k⟩⟩⟩⟩) k ⟨k,cZ.tamd _ _,⟨k,cB.tamd _ _,aQ⟩⟩ k k) k<|am k k<|ae (bA k k (by intro _ h;cases h)) k<|ae (bA k k (by intro _ h;cases h)) k<|ae (bA k k (by intro _ h;cases h)) k<|aa k k<|aa k k<|aT k2<|sQ<|sR<|am k k<|ae (dI k) k<|an<|tn<|aI (t:=mN [(1,.ptr 0 0 0),(5,.own 1 0 v5.1.length),(6,.own 2 0 v5.2.1.length),(29,.bl (!v5.2.2))] [(0,⟨6,[eR a0]⟩),(1,⟨6,v5.1.map (ow eR)⟩),(2,⟨1,v5.2.1.map (ow (dQ 3 eM))⟩)] 3) (bP (bG k2) (bO k<|bW (cZ.plainO _) k<|bW (cB.plainO _) k<|aQ) k4)<|cN k h (λ_ h=>sR<|aa k k<|aa k k<|aT k2<|aE<|aC<|sp h (bD k k k (cU k (bL (dL (k)) (bL (dL (k)) (bL (k) eG)))))) λ_ h=>?_;refine aG<|tn<|sR<|aT k2<|sQ<|sR<|fp k8<|lp k8<|ln k4<|am k k<|an<|tn<|aD<|oB h λy16 hy16 h=>cC (body:=(oV a0 v5)) hy16 (λ(x1:((List Mt)×Int))=>mN [(1,.ptr 0 0 0),(5,.own 1 0 v5.1.length),(6,.own 2 0 v5.2.1.length),(8,.own 3 0 x1.1.length),(32,.int (a0.dims.length:Int)),(33,.int x1.2)] [(0,⟨6,[eR a0]⟩),(1,⟨6,v5.1.map (ow eR)⟩),(2,⟨1,v5.2.1.map (ow (dQ 3 eM))⟩),(3,⟨3,x1.1.map (ow eM)⟩)] 4) (λr e t=>e= .exit 0∧Ent t (mN [(5,.own 0 0 v5.1.length),(8,.own 1 0 r.length)] [(0,⟨6,v5.1.map (ow eR)⟩),(1,⟨3,r.map (ow eM)⟩)] 2)) (eY (σ:=sg [(0,0),(1,1),(2,2)]) (kT 3 k2 (gH ⟨_,k,⟨k,k,k,k⟩⟩ (bG k2))) (bO k<|bW (cZ.plainO _) k<|bW (cB.plainO _) k<|hX k k<|aQ) k) ?_ ?_
 ·intro x1 o h;refine sR<|cm k4<|an<|tn<|sQ<|cN k h (λ_ h=>?_) λ_ h=>aY<|aB<|aB<|sp h ⟨_,k,k,(gT [1,3] (bG k2) (bW (cZ.plainO _) k<|bW (aX.plainO _) k<|aQ) k4)⟩;refine aG<|tn<|sQ<|aD<|sR<|am k k<|aT k2<|sR<|fp k8<|lp k8<|am k k<|oB h λv8 hv8 h=>ae (xl hv8 k) k<|lr k7<|oB h λv9 hv9 h=>ae (cM (uQ v8 0 v9 hv9) k3 (cJ k (cJ k aO))) k<|ae (bX aJ k k) k<|ae (ws k) k<|an<|tn<|sQ<|sR<|am k k<|ae (dR aJ k k k k) k<|am k k<|an ?_;refine tn<|aD<|oB h λy14 hy14 h=>cC (body:=(oU v5 x1)) hy14 (λ(x2:(Int×Int×(List Int)×Int))=>mN [(1,.ptr 0 0 0),(5,.own 1 0 v5.1.length),(6,.own 2 0 v5.2.1.length),(8,.own 3 0 x1.1.length),(9,.int x1.2),(10,.ptr 4 0 0),(32,.int (a0.dims.length:Int)),(33,.int x1.2),(42,.own 2 0 v5.2.1.length),(43,.int ((v5.2.1.length:Nat):Int)),(44,.int x2.2.2.2)] [(0,⟨6,[eR a0]⟩),(1,⟨6,v5.1.map (ow eR)⟩),(2,⟨1,v5.2.1.map (ow (dQ 3 eM))⟩),(3,⟨3,x1.1.map (ow eM)⟩),(4,⟨3,[[.int x2.1,.int x2.2.1,.own 5 0 x2.2.2.1.length]]⟩),(5,⟨1,x2.2.2.1.map (ow eI)⟩)] 6) (λr e t=>e= .exit 2∧Ent t (mN [(1,.ptr 0 0 0),(5,.own 1 0 v5.1.length),(6,.own 2 0 v5.2.1.length),(8,.own 3 0 x1.1.length),(10,.ptr 4 0 0),(32,.int (a0.dims.length:Int)),(33,.int x1.2)] [(0,⟨6,[eR a0]⟩),(1,⟨6,v5.1.map (ow eR)⟩),(2,⟨1,v5.2.1.map (ow (dQ 3 eM))⟩),(3,⟨3,x1.1.map (ow eM)⟩),(4,⟨3,[[.int r.1,.int r.2.1,.own 5 0 r.2.2.length]]⟩),(5,⟨1,r.2.2.map (ow eI)⟩)] 6)) (gT [0,1,2,3,5,4] (bG k2) (bO k<|bW (cZ.plainO _) k<|bW (cB.plainO _) k<|bW (aX.plainO _) k<|eJ k<|bN k<|aQ) k4) ?_ ?_
  ·intro x2 o h;exact sR<|cm k4<|an<|tn<|sQ<|cN k h (λ_ h=>aG<|tn<|sQ<|aD<|sR<|oB h λv11 hv11 h=>ae (xo hv11 k) k<|ae (wp hv11 k) k<|aT k2<|aP fB<|lp k8<|am k k<|am k k<|oB h λv12 hv12 h=>ae (xl hv12 k) k<|lr k7<|oB h λv13 hv13 h=>ae (cM (aLh (⟨x2.1,x2.2.1,x2.2.2.1⟩:Mt) v12 v13 hv13) k3 (aL (vaM k2) (aL (eV k) aO))) k<|ae (ws k) k<|an<|lL (by kernel_rfl)<|bB<|tn<|rg<|ae (bF k k) k<|am k k<|an<|tn<|sp h ⟨_,k,(gT [0,1,2,3,4,6] (bG k2) (bO k<|bW (cZ.plainO _) k<|bW (cB.plainO _) k<|bW (aX.plainO _) k<|eJ k<|bN k<|aQ) k4)⟩) λ_ h=>aY<|aB<|aB<|sp h ⟨_,k,k,(bP (bG k2) (bO k<|bW (cZ.plainO _) k<|bW (cB.plainO _) k<|bW (aX.plainO _) k<|eJ k<|bN k<|aQ) k4)⟩
  ·rintro e t ⟨rfl,hent⟩;exact aN<|tn<|aI hent<|rg<|am k k<|lp k8<|ae (wl k) k<|cG h λq15 h=>ae (fN aJ (l:=x1.1) (c:=[.int y14.1,.int y14.2.1,.own 5 0 y14.2.2.length]) q15 k k k k k k k k k k k k k k) k<|aa k k<|an<|bB<|tn<|aI (t:=mN [(1,.ptr 0 0 0),(5,.own 1 0 v5.1.length),(6,.own 2 0 v5.2.1.length),(8,.own 7 0 ((x1.1++[(⟨y14.1,y14.2.1,y14.2.2⟩:Mt)]).length)),(32,.int (a0.dims.length:Int)),(33,.int x1.2)] [(0,⟨6,[eR a0]⟩),(1,⟨6,v5.1.map (ow eR)⟩),(2,⟨1,v5.2.1.map (ow (dQ 3 eM))⟩),(7,⟨3,List.map (ow eM) (x1.1++[(⟨y14.1,y14.2.1,y14.2.2⟩:Mt)])⟩)] 8) (Ent.trans (dJ (b:=7) (b':=5) (j:=2) (es':=y14.2.2.map eI) k k k k (aH _ _) (cA.frzs _)) (bP (kT 3 k2 (gH ⟨_,k,⟨k,k,(by simp only [aH,lA,lT,lR,lC,lN]),k⟩⟩ (bG k2))) (bO k<|bW (cZ.plainO _) k<|bW (cB.plainO _) k<|hX ⟨_,k,k,.inl ⟨fV (⟨y14.1,y14.2.1,y14.2.2⟩:Mt) k,aX.plainO _⟩⟩ k<|aQ) k4))<|rg<|ae (bF k k) k<|am k k<|an<|tn<|sp h ⟨_,k,(gT [0,1,2,7] (bG k2) (bO k<|bW (cZ.plainO _) k<|bW (cB.plainO _) k<|bW (aX.plainO _) k<|aQ) k4)⟩
 ·rintro e t ⟨rfl,hent⟩;exact aN<|tn<|aI hent<|sR<|am k k<|am k k<|aa k k<|aa k k<|aT k2<|aE<|sp h (bD k k k (cU k (bL (dL (cW cZ k k)) (bL (dL (cW aX k k)) (bL (k) eG)))))
def uE (a0:Int) (a1:Mt) (a2:Int) (x1:(Int×Int×(List Int)×Int)):Option ((Int×Int×(List Int)×Int) ⊕ (Int×Int×(List Int))):=
 bif decide (x1.2.2.2<a2) then
 ((gF a0 (⟨x1.1,x1.2.1,x1.2.2.1⟩:Mt) a1).bind λv3=>
 some (.inl (v3.rows,v3.cols,v3.cells,wr (x1.2.2.2+1))))
 else
 (some (.inr (x1.1,x1.2.1,x1.2.2.1)))
def uZ (a0:Int) (a1:Mt) (a2:Int):Option Mt:=
 (nN a1.rows).bind λv1=>
 (Lp (uE a0 a1 a2) (v1.rows,v1.cols,v1.cells,0)).bind λy4=>
 some ((⟨y4.1,y4.2.1,y4.2.2⟩:Mt))
theorem aLM (a0:Int) (a1:Mt) (a2:Int) (r:Mt) (h:uZ a0 a1 a2=some r):HasC Tryz.prog 237 [.int a0,.agg (eM a1),.int a2] (.agg (eM r)):=by
 refine hM [.cell 6 91] Tryz.func237 Tryz.ntmps237 k<|sR<|ae (wb k) k<|ae (bX aJ k k) k<|an<|tn<|sR<|fp k8<|lp k8<|oB h λv1 hv1 h=>ae (cM (aCg a1.rows v1 hv1) k3 (cJ k aO)) k<|ae (bX aJ k k) k<|ae (ws k) k<|an<|tn<|sQ<|sR<|aT k2<|aD<|oB h λy4 hy4 h=>cC (body:=(uE a0 a1 a2)) hy4 (λ(x1:(Int×Int×(List Int)×Int))=>mN [(0,.int a0),(2,.int a2),(4,.ptr 0 0 0),(6,.ptr 1 0 0),(7,.ptr 2 0 0),(8,.int x1.2.2.2)] [(0,⟨3,[eM a1]⟩),(1,⟨3,[gD]⟩),(2,⟨3,[[.int x1.1,.int x1.2.1,.own 3 0 x1.2.2.1.length]]⟩),(3,⟨1,x1.2.2.1.map (ow eI)⟩)] 4) (λr e t=>e= .exit 0∧Ent t (mN [(6,.ptr 0 0 0),(7,.ptr 1 0 0)] [(0,⟨3,[gD]⟩),(1,⟨3,[[.int r.1,.int r.2.1,.own 2 0 r.2.2.length]]⟩),(2,⟨1,r.2.2.map (ow eI)⟩)] 3)) (gT [0,1,3,2] (bG k2) (bO k<|bO k<|eJ k<|bN k<|aQ) k4) ?_ ?_
 ·intro x1 o h;exact sQ<|sR<|am k k<|am k k<|cm k4<|an<|tn<|cN k h (λ_ h=>aG<|tn<|sQ<|aD<|rg<|am k k<|lp k8<|lp k8<|oB h λv3 hv3 h=>ae (cM (kB a0 (⟨x1.1,x1.2.1,x1.2.2.1⟩:Mt) a1 v3 hv3) k3 (cJ k (aL (vaM k2) (aL (eV k) aO)))) k<|ae (ws k) k<|an<|bB<|tn<|rg<|am k k<|ae (bF k k) k<|aT k2<|sp h ⟨_,k,(gT [0,1,2,4] (bG k2) (bO k<|bO k<|eJ k<|bN k<|aQ) k4)⟩) λ_ h=>aY<|aB<|aB<|sp h ⟨_,k,k,(gT [1,2,3] (bG k2) (bO k<|eJ k<|bN k<|aQ) k4)⟩
 ·rintro e t ⟨rfl,hent⟩;exact aN<|tn<|aI hent<|sR<|lp k8<|ae (ws k) k<|an<|tn<|aE<|sp h (bD k k k (iJ (aU (k) (aU (k) (aU (cW cA k k) fA)))))
def sD (a0:Rp) (a1:(List Mt)) (x1:((List Mt)×Int)):Option (((List Mt)×Int) ⊕ (List Mt)):=
 bif decide (x1.2<(a1.length:Int)) then
 ((cY a1 x1.2).bind λv2=>
 (uZ a0.p v2 8).bind λv3=>
 bif decide (x1.1.length+1≤4294967296) then
 (some (.inl ((x1.1++[v3]),wr (x1.2+1))))
 else none)
 else
 (some (.inr x1.1))
def yO (a0:Rp) (a1:(List Mt)):Option (List Mt):=
 (Lp (sD a0 a1) (([]:(List Mt)),0)).bind λy5=>
 some (y5)
theorem aJV (a0:Rp) (a1:(List Mt)) (r:(List Mt)) (h:yO a0 a1=some r):HasC Tryz.prog 213 [.agg (eR a0),.list 3 (a1.map eM)] (.list 3 (r.map eM)):=by
 refine hM [.tmp 4] Tryz.func213 Tryz.ntmps213 k<|sR<|ae (wb k) k<|aT k2<|sR<|ae (wl k) k<|aT k2<|aI (t:=mN [(1,.list 3 (a1.map eM)),(2,.ptr 0 0 0),(5,.own 1 0 (([]:(List Mt)).length))] [(0,⟨6,[eR a0]⟩),(1,⟨3,List.map (ow eM) ([]:(List Mt))⟩)] 2) (bP (kT 2 k2 (gH ⟨_,k,⟨k,k,(by simp only [aH,lA,lT,lR,lC,lN]),k⟩⟩ aQ)) (bO k<|bW (aX.plainO _) k<|aQ) k4)<|sQ<|sR<|aT k2<|aD<|oB h λy5 hy5 h=>cC (body:=(sD a0 a1)) hy5 (λ(x1:((List Mt)×Int))=>mN [(1,.list 3 (a1.map eM)),(2,.ptr 0 0 0),(5,.own 1 0 x1.1.length),(6,.int x1.2)] [(0,⟨6,[eR a0]⟩),(1,⟨3,x1.1.map (ow eM)⟩)] 2) (λr e t=>e= .exit 0∧Ent t (mN [(5,.own 0 0 r.length)] [(0,⟨3,r.map (ow eM)⟩)] 1)) (bP (bG k2) (bO k<|bW (aX.plainO _) k<|aQ) k4) ?_ ?_
 ·intro x1 o h;exact sQ<|sR<|am k k<|am k k<|ln k4<|cm k4<|an<|tn<|cN k h (λ_ h=>aG<|tn<|sQ<|aD<|aP fB<|am k k<|fp k8<|lp k8<|am k k<|am k k<|oB h λv2 hv2 h=>ae (xl hv2 k) k<|lr k7<|oB h λv3 hv3 h=>ae (cM (aLM a0.p v2 8 v3 hv3) k3 (cJ k (aL (eV k) (cJ k aO)))) k<|ae (wl k) k<|cG h λq4 h=>ae (fN aJ (l:=x1.1) (c:=[.int v3.rows,.int v3.cols,.own 2 0 v3.cells.length]) q4 k k k k k k k k k k k k k k) k<|aa k k<|an<|lL (by kernel_rfl)<|bB<|tn<|aI (t:=mN [(1,.list 3 (a1.map eM)),(2,.ptr 0 0 0),(5,.own 4 0 ((x1.1++[v3]).length)),(6,.int x1.2)] [(0,⟨6,[eR a0]⟩),(4,⟨3,List.map (ow eM) (x1.1++[v3])⟩)] 5) (Ent.trans (dJ (b:=4) (b':=2) (j:=2) (es':=v3.cells.map eI) k k k k (aH _ _) (cA.frzs _)) (bP (kT 2 k2 (gH ⟨_,k,⟨k,k,(by simp only [aH,lA,lT,lR,lC,lN]),k⟩⟩ (bG k2))) (bO k<|hX ⟨_,k,k,.inl ⟨fV v3 k,aX.plainO _⟩⟩ k<|aQ) k4))<|rg<|am k k<|ae (bF k k) k<|aT k2<|sp h ⟨_,k,(gT [0,4] (bG k2) (bO k<|bW (aX.plainO _) k<|aQ) k4)⟩) λ_ h=>aY<|aB<|aB<|sp h ⟨_,k,k,(gT [1] (bG k2) (bW (aX.plainO _) k<|aQ) k4)⟩
 ·rintro e t ⟨rfl,hent⟩;exact aN<|tn<|aI hent<|sR<|am k k<|aT k2<|aE<|sp h (bD k k k (fH (cW aX k k)))
def zB (a0:Sc) (a1:Sc):Option Bool:=
 bif decide (a0.size=a1.size) then
 ((wZ a0.basis a1.basis).bind λv2=>
 some (v2))
 else
 (some (false))
theorem aGT (a0:Sc) (a1:Sc) (r:Bool) (h:zB a0 a1=some r):HasC Tryz.prog 240 [.agg (eS a0),.agg (eS a1)] (.bl r):=by
 exact hM [.tmp 4] Tryz.func240 Tryz.ntmps240 k<|sR<|ae (wb k) k<|ae (wb k) k<|aT k2<|sR<|fp k8<|lp k8<|fp k8<|lp k8<|cm k4<|am k k<|sP h (λq1 h=>aV 10 k q1<|fp k8<|lp k8<|fp k8<|lp k8<|oB h λv2 hv2 h=>ae (aS (aFp a0.basis a1.basis v2 hv2) k (cJ k (cJ k aO))) k<|pk k3<|aT k2<|aE<|gK h k2) λq1 h=>aV 10 k q1<|aK k4<|aK k4<|ak k k<|pk k3<|aT k2<|aE<|gK h k2
def uF (a0:Rp) (x1:((List Sc)×Int)):Option (((List Sc)×Int) ⊕ (List Sc)):=
 bif decide (x1.2<(a0.dims.length:Int)) then
 ((cY a0.dims x1.2).bind λv2=>
 bif decide (x1.1.length+1≤4294967296) then
 (some (.inl ((x1.1++[(⟨v2,([]:(List (List Int)))⟩:Sc)]),wr (x1.2+1))))
 else none)
 else
 (some (.inr x1.1))
def vA (a0:Rp):Option (List Sc):=
 (Lp (uF a0) (([]:(List Sc)),0)).bind λy4=>
 some (y4)
theorem aEz (a0:Rp) (r:(List Sc)) (h:vA a0=some r):HasC Tryz.prog 217 [.agg (eR a0)] (.list 2 (r.map eS)):=by
 refine hM [.tmp 2] Tryz.func217 Tryz.ntmps217 k<|sR<|ae (wb k) k<|aT k2<|sR<|ae (wl k) k<|aT k2<|aI (t:=mN [(1,.ptr 0 0 0),(3,.own 1 0 (([]:(List Sc)).length))] [(0,⟨6,[eR a0]⟩),(1,⟨2,List.map (ow eS) ([]:(List Sc))⟩)] 2) (bP (kT 1 k2 (gH ⟨_,k,⟨k,k,(by simp only [aH,lA,lT,lR,lC,lN]),k⟩⟩ aQ)) (bO k<|bW (cV.plainO _) k<|aQ) k4)<|sQ<|sR<|aT k2<|aD<|oB h λy4 hy4 h=>cC (body:=(uF a0)) hy4 (λ(x1:((List Sc)×Int))=>mN [(1,.ptr 0 0 0),(3,.own 1 0 x1.1.length),(4,.int x1.2)] [(0,⟨6,[eR a0]⟩),(1,⟨2,x1.1.map (ow eS)⟩)] 2) (λr e t=>e= .exit 0∧Ent t (mN [(3,.own 0 0 r.length)] [(0,⟨2,r.map (ow eS)⟩)] 1)) (bP (bG k2) (bO k<|bW (cV.plainO _) k<|aQ) k4) ?_ ?_
 ·intro x1 o h;exact sQ<|sR<|am k k<|fp k8<|lp k8<|ln k4<|cm k4<|an<|tn<|cN k h (λ_ h=>aG<|tn<|sQ<|aD<|rg<|am k k<|fp k8<|lp k8<|am k k<|oB h λv2 hv2 h=>ae (xl hv2 k) k<|lr k7<|ae (wl k) k<|ae (fW aJ k k k k k k) k<|ae (wl k) k<|cG h λq3 h=>ae (fN aJ (l:=x1.1) (c:=[.int v2,.own 2 0 0]) q3 k k k k k k k k k k k k k k) k<|aa k k<|an<|bB<|tn<|aI (t:=mN [(1,.ptr 0 0 0),(3,.own 4 0 ((x1.1++[(⟨v2,([]:(List (List Int)))⟩:Sc)]).length)),(4,.int x1.2)] [(0,⟨6,[eR a0]⟩),(4,⟨2,List.map (ow eS) (x1.1++[(⟨v2,([]:(List (List Int)))⟩:Sc)])⟩)] 5) (Ent.trans (dJ (b:=4) (b':=2) (j:=1) (es':=List.map (dQ 1 eI) ([]:(List (List Int)))) k k k k k (cB.frzs ([]:(List (List Int))))) (bP (kT 1 k2 (gH ⟨_,k,⟨k,k,(by simp only [aH,lA,lT,lR,lC,lN]),k⟩⟩ (bG k2))) (bO k<|hX ⟨_,k,k,.inl ⟨fV (⟨v2,([]:(List (List Int)))⟩:Sc) k,cV.plainO _⟩⟩ k<|aQ) k4))<|rg<|am k k<|ae (bF k k) k<|aT k2<|sp h ⟨_,k,(gT [0,4] (bG k2) (bO k<|bW (cV.plainO _) k<|aQ) k4)⟩) λ_ h=>aY<|aB<|aB<|sp h ⟨_,k,k,(gT [1] (bG k2) (bW (cV.plainO _) k<|aQ) k4)⟩
 ·rintro e t ⟨rfl,hent⟩;exact aN<|tn<|aI hent<|sR<|am k k<|aT k2<|aE<|sp h (bD k k k (fH (cW cV k k)))
def pW (a0:(List Sc)) (a1:(List Sc)) (x1:Int):Option (Int ⊕ (Unit ⊕ Bool)):=
 bif decide (x1<(a0.length:Int)) then
 ((cY a0 x1).bind λv3=>
 (cY a1 x1).bind λv4=>
 (zB v3 v4).bind λv5=>
 bif !v5 then
 (some (.inr (.inr (false))))
 else
 (some (.inl (wr (x1+1)))))
 else
 (some (.inr (.inl ())))
def qS (a0:(List Sc)) (a1:(List Sc)):Option Bool:=
 bif !decide ((a0.length:Int)=(a1.length:Int)) then
 (some (false))
 else
 ((Lp (pW a0 a1) 0).bind λy7=>
 Sum.elim (λy8=>
 some (true)
 )
 (λy9=>
 some y9
 )
 y7)
theorem aDc (a0:(List Sc)) (a1:(List Sc)) (r:Bool) (h:qS a0 a1=some r):HasC Tryz.prog 216 [.list 2 (a0.map eS),.list 2 (a1.map eS)] (.bl r):=by
 refine hM [.tmp 4] Tryz.func216 Tryz.ntmps216 k<|sR<|aT k2<|sQ<|sR<|am k k<|ln k4<|am k k<|ln k4<|cm k4<|an<|tn<|cN k h (λ_ h=>sR<|aT k2<|aE<|aC<|gK h k2) λ_ h=>?_;refine aG<|tn<|sQ<|sR<|aT k2<|aD<|oB h λy7 hy7 h=>cC (body:=(pW a0 a1)) hy7 (λ(x1:Int)=>mN [(0,.list 2 (a0.map eS)),(1,.list 2 (a1.map eS)),(5,.int x1)] [] 0) (λr e t=>Sum.elim (λa=>(λr e t=>e= .exit 0∧Ent t (mN [] [] 0)) a e t) (λb=>(λr e t=>e= .ret∧mW TT [.tmp 4] (.bl r) .ret t) b e t) r) (bP (bG k2) aQ k4) ?_ ?_
 ·intro x1 o h;exact sQ<|sR<|am k k<|am k k<|ln k4<|cm k4<|an<|tn<|cN k h (λ_ h=>aG<|tn<|sQ<|aD<|sQ<|aP fB<|am k k<|am k k<|oB h λv3 hv3 h=>ae (xl hv3 k) k<|lr k7<|am k k<|am k k<|oB h λv4 hv4 h=>ae (xl hv4 k) k<|lr k7<|oB h λv5 hv5 h=>ae (aS (aGT v3 v4 v5 hv5) k (aL (eV k) (aL (eV k) aO))) k<|ae (dI k) k<|an<|lL (by kernel_rfl)<|tn<|cN k h (λ_ h=>sR<|aT k2<|aE<|bC<|aC<|aC<|sp h ⟨_,k,k,bD k k k (lF k)⟩) λ_ h=>aG<|bB<|tn<|rg<|am k k<|ae (bF k k) k<|aT k2<|sp h ⟨_,k,(bP (bG k2) aQ k4)⟩) λ_ h=>aY<|aB<|aB<|sp h ⟨_,k,k,(bP aQ aQ k4)⟩
 ·intro e t hX;rcases y7 with y8|y9
  ·obtain ⟨rfl,hent⟩:=hX;exact aN<|tn<|aI hent<|sR<|aT k2<|aE<|gK h k2
  ·obtain ⟨rfl,hent⟩:=hX;exact bC<|aC<|sp h hent
def pX (a0:Rp) (a2:(List Mt)) (x1:((List Sc)×Int)):Option (((List Sc)×Int) ⊕ (List Sc)):=
 bif decide (x1.2<(a2.length:Int)) then
 ((cY a0.dims x1.2).bind λv4=>
 (cY a2 x1.2).bind λv5=>
 (sI a0.p v5).bind λv6=>
 (pB a0.p v4 v6).bind λv7=>
 bif decide (x1.1.length+1≤4294967296) then
 (some (.inl ((x1.1++[v7]),wr (x1.2+1))))
 else none)
 else
 (some (.inr x1.1))
def wI (a0:Rp) (a1:Rp) (a2:(List Mt)):Option ((List Sc)×Bool):=
 (fL a0 a1 a2).bind λv1=>
 bif !v1 then
 (some ((([]:(List Sc)),false)))
 else
 ((Lp (pX a0 a2) (([]:(List Sc)),0)).bind λy9=>
 some ((y9,true)))
theorem aIN (a0:Rp) (a1:Rp) (a2:(List Mt)) (r:((List Sc)×Bool)) (h:wI a0 a1 a2=some r):HasC Tryz.prog 214 [.agg (eR a0),.agg (eR a1),.list 3 (a2.map eM)] (.tuple [.list 2 (r.1.map eS),.bl r.2]):=by
 refine hM [.tmp 6,.tmp 7] Tryz.func214 Tryz.ntmps214 k<|sR<|ae (wb k) k<|ae (wb k) k<|aa k k<|aT k2<|sR<|ae (wl k) k<|aT k2<|aI (t:=mN [(2,.list 3 (a2.map eM)),(3,.ptr 0 0 0),(4,.ptr 1 0 0),(8,.own 2 0 (([]:(List Sc)).length))] [(0,⟨6,[eR a0]⟩),(1,⟨6,[eR a1]⟩),(2,⟨2,List.map (ow eS) ([]:(List Sc))⟩)] 3) (bP (kT 3 k2 (gH ⟨_,k,⟨k,k,(by simp only [aH,lA,lT,lR,lC,lN]),k⟩⟩ aQ)) (bO k<|bO k<|bW (cV.plainO _) k<|aQ) k4)<|sQ<|sR<|lp k8<|lp k8<|am k k<|oB h λv1 hv1 h=>ae (aS (oK a0 a1 a2 v1 hv1) k (aL (eV k) (aL (eV k) (cJ k aO)))) k<|ae (dI k) k<|an<|tn<|cN k h (λ_ h=>sR<|am k k<|aa k k<|aT k2<|aE<|aC<|sp h (bD k k k (cU k (bL (dL (cW cV k k)) (bL (k) eG))))) λ_ h=>?_;refine aG<|tn<|sQ<|sR<|aT k2<|aD<|oB h λy9 hy9 h=>cC (body:=(pX a0 a2)) hy9 (λ(x1:((List Sc)×Int))=>mN [(2,.list 3 (a2.map eM)),(3,.ptr 0 0 0),(8,.own 1 0 x1.1.length),(9,.int x1.2)] [(0,⟨6,[eR a0]⟩),(1,⟨2,x1.1.map (ow eS)⟩)] 2) (λr e t=>e= .exit 0∧Ent t (mN [(8,.own 0 0 r.length)] [(0,⟨2,r.map (ow eS)⟩)] 1)) (gT [0,2] (bG k2) (bO k<|bW (cV.plainO _) k<|aQ) k4) ?_ ?_
 ·intro x1 o h;refine sQ<|sR<|am k k<|am k k<|ln k4<|cm k4<|an<|tn<|cN k h (λ_ h=>?_) λ_ h=>aY<|aB<|aB<|sp h ⟨_,k,k,(gT [1] (bG k2) (bW (cV.plainO _) k<|aQ) k4)⟩;refine aG<|tn<|sQ<|aD<|aP fB<|am k k<|fp k8<|lp k8<|fp k8<|lp k8<|am k k<|oB h λv4 hv4 h=>ae (xl hv4 k) k<|lr k7<|fp k8<|lp k8<|am k k<|am k k<|oB h λv5 hv5 h=>ae (xl hv5 k) k<|lr k7<|oB h λv6 hv6 h=>ae (cL cB (aEN a0.p v5 v6 hv6) k3 (cJ k (aL (eV k) aO))) k<|oB h λv7 hv7 h=>ae (cS (aAu a0.p v4 v6 v7 hv7) k3 (cJ k (cJ k (aL (tA cB k k) aO)))) k<|ae (wl k) k<|cG h λq8 h=>ae (fN aJ (l:=x1.1) (c:=[.int v7.size,.own 3 0 v7.basis.length]) q8 k k k k k k k k k k k k k k) k<|aa k k<|an<|lL (by kernel_rfl)<|bB<|tn<|aI (t:=mN [(2,.list 3 (a2.map eM)),(3,.ptr 0 0 0),(8,.own 5 0 ((x1.1++[v7]).length)),(9,.int x1.2)] [(0,⟨6,[eR a0]⟩),(5,⟨2,List.map (ow eS) (x1.1++[v7])⟩)] 6) (Ent.trans (dJ (b:=5) (b':=3) (j:=1) (es':=v7.basis.map (dQ 1 eI)) k k k k (aH _ _) (cB.frzs _)) (bP (kT 2 k2 (gH ⟨_,k,⟨k,k,(by simp only [aH,lA,lT,lR,lC,lN]),k⟩⟩ (bG k2))) (bO k<|hX ⟨_,k,k,.inl ⟨fV v7 k,cV.plainO _⟩⟩ k<|aQ) k4)) ?_;exact rg<|am k k<|ae (bF k k) k<|aT k2<|sp h ⟨_,k,(gT [0,5] (bG k2) (bO k<|bW (cV.plainO _) k<|aQ) k4)⟩
 ·rintro e t ⟨rfl,hent⟩;exact aN<|tn<|aI hent<|sR<|am k k<|aa k k<|aT k2<|aE<|sp h (bD k k k (cU k (bL (dL (cW cV k k)) (bL (k) eG))))
def sE (a0:Rp) (a1:Rp) (a2:(List Mt)) (x1:((List Sc)×Int)):Option (((List Sc)×Int) ⊕ (List Sc)):=
 bif decide (x1.2<(a2.length:Int)) then
 ((cY a1.dims x1.2).bind λv4=>
 (cY a2 x1.2).bind λv5=>
 (aAG a0.p v5).bind λv6=>
 (pB a0.p v4 v6).bind λv7=>
 bif decide (x1.1.length+1≤4294967296) then
 (some (.inl ((x1.1++[v7]),wr (x1.2+1))))
 else none)
 else
 (some (.inr x1.1))
def yP (a0:Rp) (a1:Rp) (a2:(List Mt)):Option ((List Sc)×Bool):=
 (fL a0 a1 a2).bind λv1=>
 bif !v1 then
 (some ((([]:(List Sc)),false)))
 else
 ((Lp (sE a0 a1 a2) (([]:(List Sc)),0)).bind λy9=>
 some ((y9,true)))
theorem aJW (a0:Rp) (a1:Rp) (a2:(List Mt)) (r:((List Sc)×Bool)) (h:yP a0 a1 a2=some r):HasC Tryz.prog 215 [.agg (eR a0),.agg (eR a1),.list 3 (a2.map eM)] (.tuple [.list 2 (r.1.map eS),.bl r.2]):=by
 refine hM [.tmp 6,.tmp 7] Tryz.func215 Tryz.ntmps215 k<|sR<|ae (wb k) k<|ae (wb k) k<|aa k k<|aT k2<|sR<|ae (wl k) k<|aT k2<|aI (t:=mN [(2,.list 3 (a2.map eM)),(3,.ptr 0 0 0),(4,.ptr 1 0 0),(8,.own 2 0 (([]:(List Sc)).length))] [(0,⟨6,[eR a0]⟩),(1,⟨6,[eR a1]⟩),(2,⟨2,List.map (ow eS) ([]:(List Sc))⟩)] 3) (bP (kT 3 k2 (gH ⟨_,k,⟨k,k,(by simp only [aH,lA,lT,lR,lC,lN]),k⟩⟩ aQ)) (bO k<|bO k<|bW (cV.plainO _) k<|aQ) k4)<|sQ<|sR<|lp k8<|lp k8<|am k k<|oB h λv1 hv1 h=>ae (aS (oK a0 a1 a2 v1 hv1) k (aL (eV k) (aL (eV k) (cJ k aO)))) k<|ae (dI k) k<|an<|tn<|cN k h (λ_ h=>sR<|am k k<|aa k k<|aT k2<|aE<|aC<|sp h (bD k k k (cU k (bL (dL (cW cV k k)) (bL (k) eG))))) λ_ h=>?_;refine aG<|tn<|sQ<|sR<|aT k2<|aD<|oB h λy9 hy9 h=>cC (body:=(sE a0 a1 a2)) hy9 (λ(x1:((List Sc)×Int))=>mN [(2,.list 3 (a2.map eM)),(3,.ptr 0 0 0),(4,.ptr 1 0 0),(8,.own 2 0 x1.1.length),(9,.int x1.2)] [(0,⟨6,[eR a0]⟩),(1,⟨6,[eR a1]⟩),(2,⟨2,x1.1.map (ow eS)⟩)] 3) (λr e t=>e= .exit 0∧Ent t (mN [(8,.own 0 0 r.length)] [(0,⟨2,r.map (ow eS)⟩)] 1)) (bP (bG k2) (bO k<|bO k<|bW (cV.plainO _) k<|aQ) k4) ?_ ?_
 ·intro x1 o h;refine sQ<|sR<|am k k<|am k k<|ln k4<|cm k4<|an<|tn<|cN k h (λ_ h=>?_) λ_ h=>aY<|aB<|aB<|sp h ⟨_,k,k,(gT [2] (bG k2) (bW (cV.plainO _) k<|aQ) k4)⟩;refine aG<|tn<|sQ<|aD<|aP fB<|am k k<|fp k8<|lp k8<|fp k8<|lp k8<|am k k<|oB h λv4 hv4 h=>ae (xl hv4 k) k<|lr k7<|fp k8<|lp k8<|am k k<|am k k<|oB h λv5 hv5 h=>ae (xl hv5 k) k<|lr k7<|oB h λv6 hv6 h=>ae (cL cB (aKo a0.p v5 v6 hv6) k3 (cJ k (aL (eV k) aO))) k<|oB h λv7 hv7 h=>ae (cS (aAu a0.p v4 v6 v7 hv7) k3 (cJ k (cJ k (aL (tA cB k k) aO)))) k<|ae (wl k) k<|cG h λq8 h=>ae (fN aJ (l:=x1.1) (c:=[.int v7.size,.own 4 0 v7.basis.length]) q8 k k k k k k k k k k k k k k) k<|aa k k<|an<|lL (by kernel_rfl)<|bB<|tn<|aI (t:=mN [(2,.list 3 (a2.map eM)),(3,.ptr 0 0 0),(4,.ptr 1 0 0),(8,.own 6 0 ((x1.1++[v7]).length)),(9,.int x1.2)] [(0,⟨6,[eR a0]⟩),(1,⟨6,[eR a1]⟩),(6,⟨2,List.map (ow eS) (x1.1++[v7])⟩)] 7) (Ent.trans (dJ (b:=6) (b':=4) (j:=1) (es':=v7.basis.map (dQ 1 eI)) k k k k (aH _ _) (cB.frzs _)) (bP (kT 3 k2 (gH ⟨_,k,⟨k,k,(by simp only [aH,lA,lT,lR,lC,lN]),k⟩⟩ (bG k2))) (bO k<|bO k<|hX ⟨_,k,k,.inl ⟨fV v7 k,cV.plainO _⟩⟩ k<|aQ) k4)) ?_;exact rg<|am k k<|ae (bF k k) k<|aT k2<|sp h ⟨_,k,(gT [0,1,6] (bG k2) (bO k<|bO k<|bW (cV.plainO _) k<|aQ) k4)⟩
 ·rintro e t ⟨rfl,hent⟩;exact aN<|tn<|aI hent<|sR<|am k k<|aa k k<|aT k2<|aE<|sp h (bD k k k (cU k (bL (dL (cW cV k k)) (bL (k) eG))))
def qT (a0:Rp) (a1:(List Mt)):Option ((List Sc)×(List Sc)×Bool):=
 (fL a0 a0 a1).bind λv1=>
 bif !v1 then
 (some ((([]:(List Sc)),([]:(List Sc)),false)))
 else
 ((yO a0 a1).bind λv3=>
 (wI a0 a0 v3).bind λv4=>
 (yP a0 a0 v3).bind λv5=>
 (vA a0).bind λv6=>
 (qS v4.1 v6).bind λv7=>
 bif v7 then
 (some ((([]:(List Sc)),([]:(List Sc)),false)))
 else
 ((vA a0).bind λv9=>
 (qS v5.1 v9).bind λv10=>
 bif v10 then
 (some ((([]:(List Sc)),([]:(List Sc)),false)))
 else
 (some ((v4.1,v5.1,true)))))
theorem aCS (a0:Rp) (a1:(List Mt)) (r:((List Sc)×(List Sc)×Bool)) (h:qT a0 a1=some r):HasC Tryz.prog 182 [.agg (eR a0),.list 3 (a1.map eM)] (.tuple [.list 2 (r.1.map eS),.list 2 (r.2.1.map eS),.bl r.2.2]):=by
 refine hM [.tmp 4,.tmp 5,.tmp 6] Tryz.func182 Tryz.ntmps182 k<|sR<|ae (wb k) k<|aa k k<|aa k k<|aT k2<|sQ<|sR<|lp k8<|lp k8<|am k k<|oB h λv1 hv1 h=>ae (aS (oK a0 a0 a1 v1 hv1) k (aL (eV k) (aL (eV k) (cJ k aO)))) k<|ae (dI k) k<|an<|tn<|cN k h (λ_ h=>sR<|ae (wl k) k<|ae (wl k) k<|aa k k<|aa k k<|aT k2<|aI (t:=mN [(4,.own 1 0 (([]:(List Sc)).length)),(5,.own 2 0 (([]:(List Sc)).length)),(6,.bl false)] [(1,⟨2,List.map (ow eS) ([]:(List Sc))⟩),(2,⟨2,List.map (ow eS) ([]:(List Sc))⟩)] 3) (bP (gH ⟨_,k,⟨k,k,(by simp only [aH,lA,lT,lR,lC,lN]),k⟩⟩ (gH ⟨_,k,⟨k,k,(by simp only [aH,lA,lT,lR,lC,lN]),k⟩⟩ (bG k2))) (bW (cV.plainO _) k<|bW (cV.plainO _) k<|aQ) k4)<|aE<|aC<|sp h (bD k k k (cU k (bL (dL (cW cV k k)) (bL (dL (cW cV k k)) (bL (k) eG)))))) λ_ h=>?_;refine aG<|tn<|sR<|lp k8<|am k k<|oB h λv3 hv3 h=>ae (cL aX (aJV a0 a1 v3 hv3) k3 (aL (eV k) (cJ k aO))) k<|aT k2<|sR<|lp k8<|lp k8<|am k k<|oB h λv4 hv4 h=>ae (cT cV (aIN a0 a0 v3 v4 hv4) k3 (aL (eV k) (aL (eV k) (aL (tA aX k k) aO)))) k<|am k k<|ae (bA k k (by intro _ h;cases h)) k<|ae (bA k k (by intro _ h;cases h)) k<|aa k k<|aT k2<|sR<|lp k8<|lp k8<|am k k<|oB h λv5 hv5 h=>ae (cT cV (aJW a0 a0 v3 v5 hv5) k3 (aL (eV k) (aL (eV k) (aL (tA aX k k) aO)))) k ?_;exact am k k<|ae (bA k k (by intro _ h;cases h)) k<|ae (bA k k (by intro _ h;cases h)) k<|aa k k<|aT k2<|aI (t:=mN [(2,.ptr 0 0 0),(8,.own 2 0 v4.1.length),(10,.own 3 0 v5.1.length)] [(0,⟨6,[eR a0]⟩),(2,⟨2,v4.1.map (ow eS)⟩),(3,⟨2,v5.1.map (ow eS)⟩)] 4) (bP (bG k2) (bO k<|bW (cV.plainO _) k<|bW (cV.plainO _) k<|aQ) k4)<|sQ<|sR<|am k k<|lp k8<|oB h λv6 hv6 h=>ae (cL cV (aEz a0 v6 hv6) k3 (aL (eV k) aO)) k<|oB h λv7 hv7 h=>ae (aS (aDc v4.1 v6 v7 hv7) k (aL (tA cV k k) (aL (tA cV k k) aO))) k<|am k k<|sP h (λq8 h=>aV 40 k q8<|aK k4<|aK k4<|pk k3<|an<|tn<|dO k k<|sR<|ae (wl k) k<|ae (wl k) k<|aa k k<|aa k k<|aT k2<|aI (t:=mN [(4,.own 5 0 (([]:(List Sc)).length)),(5,.own 6 0 (([]:(List Sc)).length)),(6,.bl false)] [(5,⟨2,List.map (ow eS) ([]:(List Sc))⟩),(6,⟨2,List.map (ow eS) ([]:(List Sc))⟩)] 7) (bP (gH ⟨_,k,⟨k,k,(by simp only [aH,lA,lT,lR,lC,lN]),k⟩⟩ (gH ⟨_,k,⟨k,k,(by simp only [aH,lA,lT,lR,lC,lN]),k⟩⟩ (bG k2))) (bW (cV.plainO _) k<|bW (cV.plainO _) k<|aQ) k4)<|aE<|aC<|sp h (bD k k k (cU k (bL (dL (cW cV k k)) (bL (dL (cW cV k k)) (bL (k) eG)))))) λq8 h=>aV 40 k q8<|am k k<|lp k8<|oB h λv9 hv9 h=>ae (cL cV (aEz a0 v9 hv9) k3 (aL (eV k) aO)) k<|oB h λv10 hv10 h=>ae (aS (aDc v5.1 v9 v10 hv10) k (aL (tA cV k k) (aL (tA cV k k) aO))) k<|pk k3<|an<|tn<|cN k h (λ_ h=>sR<|ae (wl k) k<|ae (wl k) k<|aa k k<|aa k k<|aT k2<|aI (t:=mN [(4,.own 6 0 (([]:(List Sc)).length)),(5,.own 7 0 (([]:(List Sc)).length)),(6,.bl false)] [(6,⟨2,List.map (ow eS) ([]:(List Sc))⟩),(7,⟨2,List.map (ow eS) ([]:(List Sc))⟩)] 8) (bP (gH ⟨_,k,⟨k,k,(by simp only [aH,lA,lT,lR,lC,lN]),k⟩⟩ (gH ⟨_,k,⟨k,k,(by simp only [aH,lA,lT,lR,lC,lN]),k⟩⟩ (bG k2))) (bW (cV.plainO _) k<|bW (cV.plainO _) k<|aQ) k4)<|aE<|aC<|sp h (bD k k k (cU k (bL (dL (cW cV k k)) (bL (dL (cW cV k k)) (bL (k) eG)))))) λ_ h=>aG<|tn<|sR<|am k k<|am k k<|aa k k<|aa k k<|aT k2<|aE<|sp h (bD k k k (cU k (bL (dL (cW cV k k)) (bL (dL (cW cV k k)) (bL (k) eG)))))
def uG (a0:Rp) (v1:((List (List Mt))×Bool)) (x1:Int):Option (Int ⊕ (Unit ⊕ ((List Sc)×(List Sc)×Bool×Bool))):=
 bif decide (x1<3000) then
 ((lM a0 a0 v1.1 x1).bind λv5=>
 (qT a0 v5).bind λv6=>
 bif v6.2.2 then
 (some (.inr (.inr ((v6.1,v6.2.1,true,true)))))
 else
 (some (.inl (wr (x1+1)))))
 else
 (some (.inr (.inl ())))
def uH (a0:Rp) (v1:((List (List Mt))×Bool)) (x2:Int):Option (Int ⊕ (Unit ⊕ ((List Sc)×(List Sc)×Bool×Bool))):=
 bif decide (x2<3000) then
 ((lM a0 a0 v1.1 x2).bind λv13=>
 (qT a0 v13).bind λv14=>
 bif v14.2.2 then
 (some (.inr (.inr ((v14.1,v14.2.1,true,true)))))
 else
 (some (.inl (wr (x2+1)))))
 else
 (some (.inr (.inl ())))
def uI (a0:Rp) (v1:((List (List Mt))×Bool)) (v2:Int) (x3:Int):Option (Int ⊕ (Unit ⊕ ((List Sc)×(List Sc)×Bool×Bool))):=
 bif decide (x3<v2) then
 ((lM a0 a0 v1.1 x3).bind λv20=>
 (qT a0 v20).bind λv21=>
 bif v21.2.2 then
 (some (.inr (.inr ((v21.1,v21.2.1,true,true)))))
 else
 (some (.inl (wr (x3+1)))))
 else
 (some (.inr (.inl ())))
def aAQ (a0:Rp):Option ((List Sc)×(List Sc)×Bool×Bool):=
 (kL a0 a0).bind λv1=>
 (mV a0 a0).bind λv2=>
 bif decide (v2<0) then
 ((Lp (uG a0 v1) 1).bind λy8=>
 Sum.elim (λy9=>
 some ((([]:(List Sc)),([]:(List Sc)),false,decide (3000=v2)))
 )
 (λy10=>
 some y10
 )
 y8)
 else
 (bif decide (3000<v2) then
 ((Lp (uH a0 v1) 1).bind λy16=>
 Sum.elim (λy17=>
 some ((([]:(List Sc)),([]:(List Sc)),false,decide (3000=v2)))
 )
 (λy18=>
 some y18
 )
 y16)
 else
 ((Lp (uI a0 v1 v2) 1).bind λy23=>
 Sum.elim (λy24=>
 some ((([]:(List Sc)),([]:(List Sc)),false,decide (v2=v2)))
 )
 (λy25=>
 some y25
 )
 y23))
theorem aLN (a0:Rp) (r:((List Sc)×(List Sc)×Bool×Bool)) (h:aAQ a0=some r):HasC Tryz.prog 154 [.agg (eR a0)] (.tuple [.list 2 (r.1.map eS),.list 2 (r.2.1.map eS),.bl r.2.2.1,.bl r.2.2.2]):=by
 refine hM [.tmp 2,.tmp 3,.tmp 4,.tmp 5] Tryz.func154 Tryz.ntmps154 k<|sR<|ae (wb k) k<|aa k k<|aa k k<|aa k k<|aT k2<|sR<|lp k8<|lp k8<|oB h λv1 hv1 h=>ae (cT cB (aEP a0 a0 v1 hv1) k3 (aL (eV k) (aL (eV k) aO))) k<|am k k<|ae (bA k k (by intro _ h;cases h)) k<|ae (bA k k (by intro _ h;cases h)) k<|aa k k<|aT k2<|sR<|lp k8<|lp k8<|oB h λv2 hv2 h=>ae (aS (aEU a0 a0 v2 hv2) k (aL (eV k) (aL (eV k) aO))) k<|aT k2 ?_;refine sR<|am k k<|aT k2<|sQ<|sR<|am k k<|cm k4<|am k k<|sP h (λq3 h=>?_) λq3 h=>?_
 ·refine aV 26 k q3<|aK k4<|pk k3<|an<|tn<|aI (t:=mN [(1,.ptr 0 0 0),(6,.own 1 0 v1.1.length),(8,.int v2),(9,.int v2),(29,.bl true)] [(0,⟨6,[eR a0]⟩),(1,⟨1,v1.1.map (ow (dQ 3 eM))⟩)] 2) (bP (bG k2) (bO k<|bW (cB.plainO _) k<|aQ) k4)<|dO k k<|rg<|aT k2<|sQ<|sR<|aT k2<|aD<|oB h λy8 hy8 h=>cC (body:=(uG a0 v1)) hy8 (λ(x1:Int)=>mN [(1,.ptr 0 0 0),(6,.own 1 0 v1.1.length),(8,.int v2),(9,.int 3000),(10,.int x1)] [(0,⟨6,[eR a0]⟩),(1,⟨1,v1.1.map (ow (dQ 3 eM))⟩)] 2) (λr e t=>Sum.elim (λa=>(λr e t=>e= .exit 0∧Ent t (mN [(8,.int v2),(9,.int 3000)] [] 0)) a e t) (λb=>(λr e t=>e= .ret∧mW TT [.tmp 2,.tmp 3,.tmp 4,.tmp 5] (.tuple [.list 2 (r.1.map eS),.list 2 (r.2.1.map eS),.bl r.2.2.1,.bl r.2.2.2]) .ret t) b e t) r) (bP (bG k2) (bO k<|bW (cB.plainO _) k<|aQ) k4) ?_ ?_
  ·intro x1 o h;refine sQ<|sR<|am k k<|am k k<|cm k4<|an<|tn<|cN k h (λ_ h=>?_) λ_ h=>aY<|aB<|aB<|sp h ⟨_,k,k,(bP (bG k2) aQ k4)⟩;exact aG<|tn<|sQ<|aD<|sQ<|aP fB<|lp k8<|lp k8<|lp k8<|am k k<|am k k<|oB h λv5 hv5 h=>ae (cL aX (aAk a0 a0 v1.1 x1 v5 hv5) k3 (aL (eV k) (aL (eV k) (aL (tA cB k k) (cJ k aO))))) k<|oB h λv6 hv6 h=>ae (AEff.conv (jE (x:= .tuple [.own 3 0 (v6.1.map eS).length,.own 4 0 (v6.2.1.map eS).length,.bl v6.2.2]) (nb:=[(3,⟨2,cF (v6.1.map eS)⟩),(4,⟨2,cF (v6.2.1.map eS)⟩)]) (aCS a0 v5 v6 hv6) k (by rfl) k k (dE (cV.good _) (dE (cV.good _) (dE aQ qD))) (aL (eV k) (aL (tA aX k k) aO))) (v':= .tuple [.own 3 0 v6.1.length,.own 4 0 v6.2.1.length,.bl v6.2.2]) (ed':=[(3,some ⟨2,v6.1.map (ow eS)⟩),(4,some ⟨2,v6.2.1.map (ow eS)⟩)]) (by simp only [aH]) (pE (nb':=[(3,⟨2,v6.1.map (ow eS)⟩),(4,⟨2,v6.2.1.map (ow eS)⟩)]) (by simp only [dX]))) k<|am k k<|ae (bA k k (by intro _ h;cases h)) k<|ae (bA k k (by intro _ h;cases h)) k<|ae (bA k k (by intro _ h;cases h)) k<|aa k k<|aa k k<|aa k k<|an<|lL (by kernel_rfl)<|tn<|sR<|am k k<|an<|tn<|cN k h (λ_ h=>sR<|am k k<|am k k<|aa k k<|aa k k<|aa k k<|aT k2<|aI (t:=mN [(2,.own 3 0 v6.1.length),(3,.own 4 0 v6.2.1.length),(4,.bl true),(5,.bl true)] [(3,⟨2,v6.1.map (ow eS)⟩),(4,⟨2,v6.2.1.map (ow eS)⟩)] 5) (bP (bG k2) (bW (cV.plainO _) k<|bW (cV.plainO _) k<|aQ) k4)<|aE<|bC<|aC<|aC<|sp h ⟨_,k,k,bD k k k (cU k (bL (dL (cW cV k k)) (bL (dL (cW cV k k)) (bL (k) (bL (k) eG)))))⟩) λ_ h=>aG<|bB<|tn<|rg<|am k k<|ae (bF k k) k<|aT k2<|sp h ⟨_,k,(bP (bG k2) (bO k<|bW (cB.plainO _) k<|aQ) k4)⟩
  ·intro e t hX;rcases y8 with y9|y10
   ·obtain ⟨rfl,hent⟩:=hX;exact aN<|tn<|aI hent<|sR<|ae (wl k) k<|ae (wl k) k<|am k k<|am k k<|cm k4<|aa k k<|aa k k<|aa k k<|aT k2<|aI (t:=mN [(2,.own 0 0 (([]:(List Sc)).length)),(3,.own 1 0 (([]:(List Sc)).length)),(4,.bl false),(5,.bl (decide (3000=v2)))] [(0,⟨2,List.map (ow eS) ([]:(List Sc))⟩),(1,⟨2,List.map (ow eS) ([]:(List Sc))⟩)] 2) (bP (gH ⟨_,k,⟨k,k,(by simp only [aH,lA,lT,lR,lC,lN]),k⟩⟩ (gH ⟨_,k,⟨k,k,(by simp only [aH,lA,lT,lR,lC,lN]),k⟩⟩ (bG k2))) (bW (cV.plainO _) k<|bW (cV.plainO _) k<|aQ) k4)<|aE<|sp h (bD k k k (cU k (bL (dL (cW cV k k)) (bL (dL (cW cV k k)) (bL (k) (bL (k) eG))))))
   ·obtain ⟨rfl,hent⟩:=hX;exact bC<|aC<|sp h hent
 ·refine aV 26 k q3<|am k k<|cm k4<|pk k3<|an<|tn<|aI (t:=mN [(1,.ptr 0 0 0),(6,.own 1 0 v1.1.length),(8,.int v2),(9,.int v2),(29,.bl (decide (3000<v2)))] [(0,⟨6,[eR a0]⟩),(1,⟨1,v1.1.map (ow (dQ 3 eM))⟩)] 2) (bP (bG k2) (bO k<|bW (cB.plainO _) k<|aQ) k4)<|cN k h (λ_ h=>?_) λ_ h=>?_
  ·refine rg<|aT k2<|sQ<|sR<|aT k2<|aD<|oB h λy16 hy16 h=>cC (body:=(uH a0 v1)) hy16 (λ(x2:Int)=>mN [(1,.ptr 0 0 0),(6,.own 1 0 v1.1.length),(8,.int v2),(9,.int 3000),(10,.int x2)] [(0,⟨6,[eR a0]⟩),(1,⟨1,v1.1.map (ow (dQ 3 eM))⟩)] 2) (λr e t=>Sum.elim (λa=>(λr e t=>e= .exit 0∧Ent t (mN [(8,.int v2),(9,.int 3000)] [] 0)) a e t) (λb=>(λr e t=>e= .ret∧mW TT [.tmp 2,.tmp 3,.tmp 4,.tmp 5] (.tuple [.list 2 (r.1.map eS),.list 2 (r.2.1.map eS),.bl r.2.2.1,.bl r.2.2.2]) .ret t) b e t) r) (bP (bG k2) (bO k<|bW (cB.plainO _) k<|aQ) k4) ?_ ?_
   ·intro x2 o h;refine sQ<|sR<|am k k<|am k k<|cm k4<|an<|tn<|cN k h (λ_ h=>?_) λ_ h=>aY<|aB<|aB<|sp h ⟨_,k,k,(bP (bG k2) aQ k4)⟩;exact aG<|tn<|sQ<|aD<|sQ<|aP fB<|lp k8<|lp k8<|lp k8<|am k k<|am k k<|oB h λv13 hv13 h=>ae (cL aX (aAk a0 a0 v1.1 x2 v13 hv13) k3 (aL (eV k) (aL (eV k) (aL (tA cB k k) (cJ k aO))))) k<|oB h λv14 hv14 h=>ae (AEff.conv (jE (x:= .tuple [.own 3 0 (v14.1.map eS).length,.own 4 0 (v14.2.1.map eS).length,.bl v14.2.2]) (nb:=[(3,⟨2,cF (v14.1.map eS)⟩),(4,⟨2,cF (v14.2.1.map eS)⟩)]) (aCS a0 v13 v14 hv14) k (by rfl) k k (dE (cV.good _) (dE (cV.good _) (dE aQ qD))) (aL (eV k) (aL (tA aX k k) aO))) (v':= .tuple [.own 3 0 v14.1.length,.own 4 0 v14.2.1.length,.bl v14.2.2]) (ed':=[(3,some ⟨2,v14.1.map (ow eS)⟩),(4,some ⟨2,v14.2.1.map (ow eS)⟩)]) (by simp only [aH]) (pE (nb':=[(3,⟨2,v14.1.map (ow eS)⟩),(4,⟨2,v14.2.1.map (ow eS)⟩)]) (by simp only [dX]))) k<|am k k<|ae (bA k k (by intro _ h;cases h)) k<|ae (bA k k (by intro _ h;cases h)) k<|ae (bA k k (by intro _ h;cases h)) k<|aa k k<|aa k k<|aa k k<|an<|lL (by kernel_rfl)<|tn<|sR<|am k k<|an<|tn<|cN k h (λ_ h=>sR<|am k k<|am k k<|aa k k<|aa k k<|aa k k<|aT k2<|aI (t:=mN [(2,.own 3 0 v14.1.length),(3,.own 4 0 v14.2.1.length),(4,.bl true),(5,.bl true)] [(3,⟨2,v14.1.map (ow eS)⟩),(4,⟨2,v14.2.1.map (ow eS)⟩)] 5) (bP (bG k2) (bW (cV.plainO _) k<|bW (cV.plainO _) k<|aQ) k4)<|aE<|bC<|aC<|aC<|sp h ⟨_,k,k,bD k k k (cU k (bL (dL (cW cV k k)) (bL (dL (cW cV k k)) (bL (k) (bL (k) eG)))))⟩) λ_ h=>aG<|bB<|tn<|rg<|am k k<|ae (bF k k) k<|aT k2<|sp h ⟨_,k,(bP (bG k2) (bO k<|bW (cB.plainO _) k<|aQ) k4)⟩
   ·intro e t hX;rcases y16 with y17|y18
    ·obtain ⟨rfl,hent⟩:=hX;exact aN<|tn<|aI hent<|sR<|ae (wl k) k<|ae (wl k) k<|am k k<|am k k<|cm k4<|aa k k<|aa k k<|aa k k<|aT k2<|aI (t:=mN [(2,.own 0 0 (([]:(List Sc)).length)),(3,.own 1 0 (([]:(List Sc)).length)),(4,.bl false),(5,.bl (decide (3000=v2)))] [(0,⟨2,List.map (ow eS) ([]:(List Sc))⟩),(1,⟨2,List.map (ow eS) ([]:(List Sc))⟩)] 2) (bP (gH ⟨_,k,⟨k,k,(by simp only [aH,lA,lT,lR,lC,lN]),k⟩⟩ (gH ⟨_,k,⟨k,k,(by simp only [aH,lA,lT,lR,lC,lN]),k⟩⟩ (bG k2))) (bW (cV.plainO _) k<|bW (cV.plainO _) k<|aQ) k4)<|aE<|sp h (bD k k k (cU k (bL (dL (cW cV k k)) (bL (dL (cW cV k k)) (bL (k) (bL (k) eG))))))
    ·obtain ⟨rfl,hent⟩:=hX;exact bC<|aC<|sp h hent
  ·refine aG<|tn<|sQ<|sR<|aT k2<|aD<|oB h λy23 hy23 h=>cC (body:=(uI a0 v1 v2)) hy23 (λ(x3:Int)=>mN [(1,.ptr 0 0 0),(6,.own 1 0 v1.1.length),(8,.int v2),(9,.int v2),(10,.int x3)] [(0,⟨6,[eR a0]⟩),(1,⟨1,v1.1.map (ow (dQ 3 eM))⟩)] 2) (λr e t=>Sum.elim (λa=>(λr e t=>e= .exit 0∧Ent t (mN [(8,.int v2),(9,.int v2)] [] 0)) a e t) (λb=>(λr e t=>e= .ret∧mW TT [.tmp 2,.tmp 3,.tmp 4,.tmp 5] (.tuple [.list 2 (r.1.map eS),.list 2 (r.2.1.map eS),.bl r.2.2.1,.bl r.2.2.2]) .ret t) b e t) r) (bP (bG k2) (bO k<|bW (cB.plainO _) k<|aQ) k4) ?_ ?_
   ·intro x3 o h;refine sQ<|sR<|am k k<|am k k<|cm k4<|an<|tn<|cN k h (λ_ h=>?_) λ_ h=>aY<|aB<|aB<|sp h ⟨_,k,k,(bP (bG k2) aQ k4)⟩;exact aG<|tn<|sQ<|aD<|sQ<|aP fB<|lp k8<|lp k8<|lp k8<|am k k<|am k k<|oB h λv20 hv20 h=>ae (cL aX (aAk a0 a0 v1.1 x3 v20 hv20) k3 (aL (eV k) (aL (eV k) (aL (tA cB k k) (cJ k aO))))) k<|oB h λv21 hv21 h=>ae (AEff.conv (jE (x:= .tuple [.own 3 0 (v21.1.map eS).length,.own 4 0 (v21.2.1.map eS).length,.bl v21.2.2]) (nb:=[(3,⟨2,cF (v21.1.map eS)⟩),(4,⟨2,cF (v21.2.1.map eS)⟩)]) (aCS a0 v20 v21 hv21) k (by rfl) k k (dE (cV.good _) (dE (cV.good _) (dE aQ qD))) (aL (eV k) (aL (tA aX k k) aO))) (v':= .tuple [.own 3 0 v21.1.length,.own 4 0 v21.2.1.length,.bl v21.2.2]) (ed':=[(3,some ⟨2,v21.1.map (ow eS)⟩),(4,some ⟨2,v21.2.1.map (ow eS)⟩)]) (by simp only [aH]) (pE (nb':=[(3,⟨2,v21.1.map (ow eS)⟩),(4,⟨2,v21.2.1.map (ow eS)⟩)]) (by simp only [dX]))) k<|am k k<|ae (bA k k (by intro _ h;cases h)) k<|ae (bA k k (by intro _ h;cases h)) k<|ae (bA k k (by intro _ h;cases h)) k<|aa k k<|aa k k<|aa k k<|an<|lL (by kernel_rfl)<|tn<|sR<|am k k<|an<|tn<|cN k h (λ_ h=>sR<|am k k<|am k k<|aa k k<|aa k k<|aa k k<|aT k2<|aI (t:=mN [(2,.own 3 0 v21.1.length),(3,.own 4 0 v21.2.1.length),(4,.bl true),(5,.bl true)] [(3,⟨2,v21.1.map (ow eS)⟩),(4,⟨2,v21.2.1.map (ow eS)⟩)] 5) (bP (bG k2) (bW (cV.plainO _) k<|bW (cV.plainO _) k<|aQ) k4)<|aE<|bC<|aC<|aC<|sp h ⟨_,k,k,bD k k k (cU k (bL (dL (cW cV k k)) (bL (dL (cW cV k k)) (bL (k) (bL (k) eG)))))⟩) λ_ h=>aG<|bB<|tn<|rg<|am k k<|ae (bF k k) k<|aT k2<|sp h ⟨_,k,(bP (bG k2) (bO k<|bW (cB.plainO _) k<|aQ) k4)⟩
   ·intro e t hX;rcases y23 with y24|y25
    ·obtain ⟨rfl,hent⟩:=hX;exact aN<|tn<|aI hent<|sR<|ae (wl k) k<|ae (wl k) k<|am k k<|am k k<|cm k4<|aa k k<|aa k k<|aa k k<|aT k2<|aI (t:=mN [(2,.own 0 0 (([]:(List Sc)).length)),(3,.own 1 0 (([]:(List Sc)).length)),(4,.bl false),(5,.bl (decide (v2=v2)))] [(0,⟨2,List.map (ow eS) ([]:(List Sc))⟩),(1,⟨2,List.map (ow eS) ([]:(List Sc))⟩)] 2) (bP (gH ⟨_,k,⟨k,k,(by simp only [aH,lA,lT,lR,lC,lN]),k⟩⟩ (gH ⟨_,k,⟨k,k,(by simp only [aH,lA,lT,lR,lC,lN]),k⟩⟩ (bG k2))) (bW (cV.plainO _) k<|bW (cV.plainO _) k<|aQ) k4)<|aE<|sp h (bD k k k (cU k (bL (dL (cW cV k k)) (bL (dL (cW cV k k)) (bL (k) (bL (k) eG))))))
    ·obtain ⟨rfl,hent⟩:=hX;exact bC<|aC<|sp h hent
def iX (a0:Rp) (x1:((List Mt)×Int)):Option (((List Mt)×Int) ⊕ (List Mt)):=
 bif decide (x1.2<(a0.dims.length:Int)) then
 ((jQ a0).bind λv2=>
 bif v2 then
 ((cY a0.dims x1.2).bind λv4=>
 (nN v4).bind λv5=>
 bif decide (x1.1.length+1≤4294967296) then
 (some (.inl ((x1.1++[v5]),wr (x1.2+1))))
 else none)
 else
 (some (.inr x1.1)))
 else
 (some (.inr x1.1))
def kG (a0:Rp):Option ((List Mt)×Bool):=
 (Lp (iX a0) (([]:(List Mt)),0)).bind λy7=>
 (jQ a0).bind λv8=>
 some ((y7,v8))
theorem aDd (a0:Rp) (r:((List Mt)×Bool)) (h:kG a0=some r):HasC Tryz.prog 155 [.agg (eR a0)] (.tuple [.list 3 (r.1.map eM),.bl r.2]):=by
 refine hM [.tmp 2,.tmp 3] Tryz.func155 Tryz.ntmps155 k<|sR<|ae (wb k) k<|aa k k<|aT k2<|sR<|ae (wl k) k<|aT k2<|aI (t:=mN [(1,.ptr 0 0 0),(4,.own 1 0 (([]:(List Mt)).length))] [(0,⟨6,[eR a0]⟩),(1,⟨3,List.map (ow eM) ([]:(List Mt))⟩)] 2) (bP (kT 1 k2 (gH ⟨_,k,⟨k,k,(by simp only [aH,lA,lT,lR,lC,lN]),k⟩⟩ aQ)) (bO k<|bW (aX.plainO _) k<|aQ) k4)<|sQ<|sR<|aT k2<|aD<|oB h λy7 hy7 h=>cC (body:=(iX a0)) hy7 (λ(x1:((List Mt)×Int))=>mN [(1,.ptr 0 0 0),(4,.own 1 0 x1.1.length),(5,.int x1.2)] [(0,⟨6,[eR a0]⟩),(1,⟨3,x1.1.map (ow eM)⟩)] 2) (λr e t=>e= .exit 0∧Ent t (mN [(1,.ptr 0 0 0),(4,.own 1 0 r.length)] [(0,⟨6,[eR a0]⟩),(1,⟨3,r.map (ow eM)⟩)] 2)) (bP (bG k2) (bO k<|bW (aX.plainO _) k<|aQ) k4) ?_ ?_
 ·intro x1 o h;exact sQ<|sR<|am k k<|fp k8<|lp k8<|ln k4<|cm k4<|am k k<|sP h (λq1 h=>aV 12 k q1<|lp k8<|oB h λv2 hv2 h=>ae (aS (rK a0 v2 hv2) k (aL (eV k) aO)) k<|pk k3<|an<|tn<|cN k h (λ_ h=>aG<|tn<|sQ<|aD<|rg<|am k k<|fp k8<|lp k8<|am k k<|oB h λv4 hv4 h=>ae (xl hv4 k) k<|lr k7<|oB h λv5 hv5 h=>ae (cM (aCg v4 v5 hv5) k3 (cJ k aO)) k<|ae (wl k) k<|cG h λq6 h=>ae (fN aJ (l:=x1.1) (c:=[.int v5.rows,.int v5.cols,.own 2 0 v5.cells.length]) q6 k k k k k k k k k k k k k k) k<|aa k k<|an<|bB<|tn<|aI (t:=mN [(1,.ptr 0 0 0),(4,.own 4 0 ((x1.1++[v5]).length)),(5,.int x1.2)] [(0,⟨6,[eR a0]⟩),(4,⟨3,List.map (ow eM) (x1.1++[v5])⟩)] 5) (Ent.trans (dJ (b:=4) (b':=2) (j:=2) (es':=v5.cells.map eI) k k k k (aH _ _) (cA.frzs _)) (bP (kT 1 k2 (gH ⟨_,k,⟨k,k,(by simp only [aH,lA,lT,lR,lC,lN]),k⟩⟩ (bG k2))) (bO k<|hX ⟨_,k,k,.inl ⟨fV v5 k,aX.plainO _⟩⟩ k<|aQ) k4))<|rg<|am k k<|ae (bF k k) k<|aT k2<|sp h ⟨_,k,(gT [0,4] (bG k2) (bO k<|bW (aX.plainO _) k<|aQ) k4)⟩) λ_ h=>aY<|aB<|aB<|sp h ⟨_,k,k,(bP (bG k2) (bO k<|bW (aX.plainO _) k<|aQ) k4)⟩) λq1 h=>aV 12 k q1<|aK k4<|pk k3<|an<|tn<|aBG k k<|aY<|aB<|aB<|sp h ⟨_,k,k,(bP (bG k2) (bO k<|bW (aX.plainO _) k<|aQ) k4)⟩
 ·rintro e t ⟨rfl,hent⟩;exact aN<|tn<|aI hent<|sR<|am k k<|lp k8<|oB h λv8 hv8 h=>ae (aS (rK a0 v8 hv8) k (aL (eV k) aO)) k<|aa k k<|aT k2<|aE<|sp h (bD k k k (cU k (bL (dL (cW aX k k)) (bL (k) eG))))
def iY (a0:Rp) (a3:(List Mt)) (a4:(List Mt)) (x1:((List Mt)×Int)):Option (((List Mt)×Int) ⊕ (List Mt)):=
 bif decide (x1.2<(a3.length:Int)) then
 ((cY a4 x1.2).bind λv6=>
 (cY a3 x1.2).bind λv7=>
 (gF a0.p v6 v7).bind λv8=>
 bif decide (x1.1.length+1≤4294967296) then
 (some (.inl ((x1.1++[v8]),wr (x1.2+1))))
 else none)
 else
 (some (.inr x1.1))
def gI (a0:Rp) (a1:Rp) (a2:Rp) (a3:(List Mt)) (a4:(List Mt)):Option ((List Mt)×Bool):=
 (fL a0 a1 a3).bind λv1=>
 bif !v1 then
 (some ((([]:(List Mt)),false)))
 else
 ((fL a1 a2 a4).bind λv3=>
 bif !v3 then
 (some ((([]:(List Mt)),false)))
 else
 ((Lp (iY a0 a3 a4) (([]:(List Mt)),0)).bind λy10=>
 some ((y10,true))))
theorem zK (a0:Rp) (a1:Rp) (a2:Rp) (a3:(List Mt)) (a4:(List Mt)) (r:((List Mt)×Bool)) (h:gI a0 a1 a2 a3 a4=some r):HasC Tryz.prog 157 [.agg (eR a0),.agg (eR a1),.agg (eR a2),.list 3 (a3.map eM),.list 3 (a4.map eM)] (.tuple [.list 3 (r.1.map eM),.bl r.2]):=by
 refine hM [.tmp 10,.tmp 11] Tryz.func157 Tryz.ntmps157 k<|sR<|ae (wb k) k<|ae (wb k) k<|ae (wb k) k<|aa k k<|aT k2<|sR<|ae (wl k) k<|aT k2<|aI (t:=mN [(3,.list 3 (a3.map eM)),(4,.list 3 (a4.map eM)),(5,.ptr 0 0 0),(6,.ptr 1 0 0),(7,.ptr 2 0 0),(12,.own 3 0 (([]:(List Mt)).length))] [(0,⟨6,[eR a0]⟩),(1,⟨6,[eR a1]⟩),(2,⟨6,[eR a2]⟩),(3,⟨3,List.map (ow eM) ([]:(List Mt))⟩)] 4) (bP (kT 5 k2 (gH ⟨_,k,⟨k,k,(by simp only [aH,lA,lT,lR,lC,lN]),k⟩⟩ aQ)) (bO k<|bO k<|bO k<|bW (aX.plainO _) k<|aQ) k4)<|sQ<|sR<|lp k8<|lp k8<|am k k<|oB h λv1 hv1 h=>ae (aS (oK a0 a1 a3 v1 hv1) k (aL (eV k) (aL (eV k) (cJ k aO)))) k<|ae (dI k) k<|am k k<|sP h (λq2 h=>aV 20 k q2<|aK k4<|aK k4<|ak k k<|pk k3<|an<|tn<|dO k k<|sR<|am k k<|aa k k<|aT k2<|aE<|aC<|sp h (bD k k k (cU k (bL (dL (cW aX k k)) (bL (k) eG))))) λq2 h=>?_;refine aV 20 k q2<|lp k8<|lp k8<|am k k<|oB h λv3 hv3 h=>ae (aS (oK a1 a2 a4 v3 hv3) k (aL (eV k) (aL (eV k) (cJ k aO)))) k<|ae (dI k) k<|pk k3<|an<|tn<|cN k h (λ_ h=>sR<|am k k<|aa k k<|aT k2<|aE<|aC<|sp h (bD k k k (cU k (bL (dL (cW aX k k)) (bL (k) eG))))) λ_ h=>?_;refine aG<|tn<|sQ<|sR<|aT k2<|aD<|oB h λy10 hy10 h=>cC (body:=(iY a0 a3 a4)) hy10 (λ(x1:((List Mt)×Int))=>mN [(3,.list 3 (a3.map eM)),(4,.list 3 (a4.map eM)),(5,.ptr 0 0 0),(12,.own 1 0 x1.1.length),(13,.int x1.2)] [(0,⟨6,[eR a0]⟩),(1,⟨3,x1.1.map (ow eM)⟩)] 2) (λr e t=>e= .exit 0∧Ent t (mN [(12,.own 0 0 r.length)] [(0,⟨3,r.map (ow eM)⟩)] 1)) (gT [0,3] (bG k2) (bO k<|bW (aX.plainO _) k<|aQ) k4) ?_ ?_
 ·intro x1 o h;refine sQ<|sR<|am k k<|am k k<|ln k4<|cm k4<|an<|tn<|cN k h (λ_ h=>?_) λ_ h=>aY<|aB<|aB<|sp h ⟨_,k,k,(gT [1] (bG k2) (bW (aX.plainO _) k<|aQ) k4)⟩;refine aG<|tn<|sQ<|aD<|aP fB<|am k k<|fp k8<|lp k8<|am k k<|am k k<|oB h λv6 hv6 h=>ae (xl hv6 k) k<|lr k7<|am k k<|am k k<|oB h λv7 hv7 h=>ae (xl hv7 k) k<|lr k7<|oB h λv8 hv8 h=>ae (cM (kB a0.p v6 v7 v8 hv8) k3 (cJ k (aL (eV k) (aL (eV k) aO)))) k<|ae (wl k) k<|cG h λq9 h=>ae (fN aJ (l:=x1.1) (c:=[.int v8.rows,.int v8.cols,.own 2 0 v8.cells.length]) q9 k k k k k k k k k k k k k k) k<|aa k k<|an<|lL (by kernel_rfl)<|bB<|tn<|aI (t:=mN [(3,.list 3 (a3.map eM)),(4,.list 3 (a4.map eM)),(5,.ptr 0 0 0),(12,.own 4 0 ((x1.1++[v8]).length)),(13,.int x1.2)] [(0,⟨6,[eR a0]⟩),(4,⟨3,List.map (ow eM) (x1.1++[v8])⟩)] 5) (Ent.trans (dJ (b:=4) (b':=2) (j:=2) (es':=v8.cells.map eI) k k k k (aH _ _) (cA.frzs _)) (bP (kT 3 k2 (gH ⟨_,k,⟨k,k,(by simp only [aH,lA,lT,lR,lC,lN]),k⟩⟩ (bG k2))) (bO k<|hX ⟨_,k,k,.inl ⟨fV v8 k,aX.plainO _⟩⟩ k<|aQ) k4))<|rg<|am k k<|ae (bF k k) k<|aa k k ?_;exact an<|tn<|sp h ⟨_,k,(gT [0,4] (bG k2) (bO k<|bW (aX.plainO _) k<|aQ) k4)⟩
 ·rintro e t ⟨rfl,hent⟩;exact aN<|tn<|aI hent<|sR<|am k k<|aa k k<|aT k2<|aE<|sp h (bD k k k (cU k (bL (dL (cW aX k k)) (bL (k) eG))))
def mG (a0:Rp) (v9:(Rp×(List Mt)×Bool)) (v10:((List Rp)×(List (List Mt))×Bool)) (x2:((List Rp)×(List (List Mt))×Int)):Option (((List Rp)×(List (List Mt))×Int) ⊕ ((List Rp)×(List (List Mt)))):=
 bif decide (x2.2.2<(v10.1.length:Int)) then
 ((cY v10.1 x2.2.2).bind λv13=>
 (cY v10.2.1 x2.2.2).bind λv14=>
 (gI v13 v9.1 a0 v14 v9.2.1).bind λv15=>
 (cY v10.1 x2.2.2).bind λv16=>
 bif decide (x2.1.length+1≤4294967296) then
 (bif decide (x2.2.1.length+1≤4294967296) then
 (some (.inl ((x2.1++[v16]),(x2.2.1++[v15.1]),wr (x2.2.2+1))))
 else none)
 else none)
 else
 (some (.inr (x2.1,x2.2.1)))
def mH (a0:Rp) (v20:(Rp×(List Mt)×Bool)) (v21:((List Rp)×(List (List Mt))×Bool)) (x3:((List Rp)×(List (List Mt))×Int)):Option (((List Rp)×(List (List Mt))×Int) ⊕ ((List Rp)×(List (List Mt)))):=
 bif decide (x3.2.2<(v21.1.length:Int)) then
 ((cY v21.1 x3.2.2).bind λv24=>
 (cY v21.2.1 x3.2.2).bind λv25=>
 (gI v24 v20.1 a0 v25 v20.2.1).bind λv26=>
 (cY v21.1 x3.2.2).bind λv27=>
 bif decide (x3.1.length+1≤4294967296) then
 (bif decide (x3.2.1.length+1≤4294967296) then
 (some (.inl ((x3.1++[v27]),(x3.2.1++[v26.1]),wr (x3.2.2+1))))
 else none)
 else none)
 else
 (some (.inr (x3.1,x3.2.1)))
def iB (self:(Rp→Option ((List Rp)×(List (List Mt))×Bool))) (a0:Rp) (v3:((List Sc)×(List Sc)×Bool×Bool)) (x1:((List Rp)×(List (List Mt))×Int)):Option (((List Rp)×(List (List Mt))×Int) ⊕ (((List Rp)×(List (List Mt))) ⊕ Unit)):=
 bif decide (x1.2.2<2) then
 (bif decide (x1.2.2=1) then
 ((xE a0 v3.2.1).bind λv9=>
 (self v9.1).bind λv10=>
 bif !v10.2.2 then
 (some (.inr (.inr ())))
 else
 ((Lp (mG a0 v9 v10) (x1.1,x1.2.1,0)).bind λy19=>
 some (.inl (y19.1,y19.2,wr (x1.2.2+1)))))
 else
 ((xE a0 v3.1).bind λv20=>
 (self v20.1).bind λv21=>
 bif !v21.2.2 then
 (some (.inr (.inr ())))
 else
 ((Lp (mH a0 v20 v21) (x1.1,x1.2.1,0)).bind λy30=>
 some (.inl (y30.1,y30.2,wr (x1.2.2+1))))))
 else
 (some (.inr (.inl (x1.1,x1.2.1))))
def aAR (self:Rp→Option ((List Rp)×(List (List Mt))×Bool)) (a0:Rp):Option ((List Rp)×(List (List Mt))×Bool):=
 (uV a0).bind λv1=>
 bif decide (v1=0) then
 (some (([]:(List Rp)),([]:(List (List Mt))),true))
 else
 ((aAQ a0).bind λv3=>
 bif !v3.2.2.1 then
 ((kG a0).bind λv5=>
 (xC a0).bind λv6=>
 some ([v6],[v5.1],v3.2.2.2))
 else
 ((Lp (iB self a0 v3) (([]:(List Rp)),([]:(List (List Mt))),0)).bind λy31=>
 Sum.elim (λy32=>
 some (y32.1,y32.2,true)
 )
 (λy33=>
 some (([]:(List Rp)),([]:(List (List Mt))),false)
 )
 y31))
def hJ:Nat→Rp→Option ((List Rp)×(List (List Mt))×Bool)
 |0,_=>none
 |n+1,a0=>aAR (hJ n) a0
theorem aHQ (self:Rp→Option ((List Rp)×(List (List Mt))×Bool)) (a0:Rp) (ih: ∀ (a0:Rp) (r:((List Rp)×(List (List Mt))×Bool)),self a0=some r→HasE Tryz.prog 114 [.agg (eR a0)] [] 0 (.tuple [.own 0 0 r.1.length,.own 1 0 r.2.1.length,.bl r.2.2]) [(0,⟨6,r.1.map eR⟩),(1,⟨1,r.2.1.map (dQ 3 eM)⟩)]) (r:((List Rp)×(List (List Mt))×Bool)) (h:aAR self a0=some r):HasE Tryz.prog 114 [.agg (eR a0)] [] 0 (.tuple [.own 0 0 r.1.length,.own 1 0 r.2.1.length,.bl r.2.2]) [(0,⟨6,r.1.map eR⟩),(1,⟨1,r.2.1.map (dQ 3 eM)⟩)]:=by
 refine aBf aJ (rvs:=[.tmp 2,.tmp 3,.tmp 4]) (ns:=nmA.drop 0) Tryz.func114 k k Tryz.ntmps114 k k<|sR<|ae (wb k) k<|aa k k<|aa k k<|aT k2<|sQ<|sR<|lp k8<|oB h λv1 hv1 h=>ae (aS (aEt a0 v1 hv1) k (aL (eV k) aO)) k<|cm k4<|an<|tn<|cN k h (λ_ h=>sR<|ae (wl k) k<|ae (wl k) k<|aa k k<|aa k k<|aT k2<|aI (t:=mN [(2,.own 1 0 (([]:(List Rp)).length)),(3,.own 2 0 (([]:(List (List Mt))).length)),(4,.bl true)] [(1,⟨6,List.map (ow eR) ([]:(List Rp))⟩),(2,⟨1,List.map (ow (dQ 3 eM)) ([]:(List (List Mt)))⟩)] 3 ⟨0,false,none,true⟩) (bP (gH ⟨_,k,⟨k,k,(by simp only [aH,lA,lT,lR,lC,lN]),k⟩⟩ (gH ⟨_,k,⟨k,k,(by simp only [aH,lA,lT,lR,lC,lN]),k⟩⟩ (bG k2))) (bW (cZ.plainO _) k<|bW (cB.plainO _) k<|aQ) k4)<|aE<|aC<|sp h ⟨mN [(2,.own 0 0 (([]:(List Rp)).length)),(3,.own 1 0 (([]:(List (List Mt))).length)),(4,.bl true)] [(0,⟨6,List.map eR ([]:(List Rp))⟩),(1,⟨1,List.map (dQ 3 eM) ([]:(List (List Mt)))⟩)] 2 ⟨0,false,none,true⟩,(Ent.trans (Ent.trans (pC (b:=1) cZ k) (pC (b:=2) cB k)) (gT [1,2] (bG k2) (bW (cZ.plainE _) k<|bW (cB.plainE _) k<|aQ) k4)),k,⟨_,k,.inr ⟨(by simp),k,k⟩⟩,⟨k,k,aQ⟩⟩) λ_ h=>?_;refine aG<|tn<|sR<|lp k8<|oB h λv3 hv3 h=>ae (AEff.conv (jE (x:= .tuple [.own 1 0 (v3.1.map eS).length,.own 2 0 (v3.2.1.map eS).length,.bl v3.2.2.1,.bl v3.2.2.2]) (nb:=[(1,⟨2,cF (v3.1.map eS)⟩),(2,⟨2,cF (v3.2.1.map eS)⟩)]) (aLN a0 v3 hv3) k (by rfl) k k (dE (cV.good _) (dE (cV.good _) (dE aQ (dE aQ qD)))) (aL (eV k) aO)) (v':= .tuple [.own 1 0 v3.1.length,.own 2 0 v3.2.1.length,.bl v3.2.2.1,.bl v3.2.2.2]) (ed':=[(1,some ⟨2,v3.1.map (ow eS)⟩),(2,some ⟨2,v3.2.1.map (ow eS)⟩)]) (by simp only [aH]) (pE (nb':=[(1,⟨2,v3.1.map (ow eS)⟩),(2,⟨2,v3.2.1.map (ow eS)⟩)]) (by simp only [dX]))) k<|am k k<|ae (bA k k (by intro _ h;cases h)) k<|ae (bA k k (by intro _ h;cases h)) k<|ae (bA k k (by intro _ h;cases h)) k<|ae (bA k k (by intro _ h;cases h)) k<|aa k k<|aa k k<|aa k k<|aT k2<|sQ<|sR<|am k k<|ae (dI k) k<|an<|tn<|cN k h (λ_ h=>?_) λ_ h=>?_
 ·exact sR<|lp k8<|oB h λv5 hv5 h=>ae (cT aX (aDd a0 v5 hv5) k3 (aL (eV k) aO)) k<|am k k<|ae (bA k k (by intro _ h;cases h)) k<|ae (bA k k (by intro _ h;cases h)) k<|aa k k<|aT k2<|aI (t:=mN [(1,.ptr 0 0 0),(8,.bl v3.2.2.2),(9,.own 3 0 v5.1.length)] [(0,⟨6,[eR a0]⟩),(3,⟨3,v5.1.map (ow eM)⟩)] 4 ⟨0,false,none,true⟩) (bP (bG k2) (bO k<|bW (aX.plainO _) k<|aQ) k4)<|sR<|lp k8<|oB h λv6 hv6 h=>ae (cR (aFr a0 v6 hv6) k3 (aL (eV k) aO)) k<|ae (wl k) k<|am k k<|ae (wl k) k<|am k k<|aa k k<|aa k k<|aT k2<|aI (t:=mN [(2,.own 8 0 ([v6].length)),(3,.own 9 0 ([v5.1].length)),(4,.bl v3.2.2.2)] [(8,⟨6,List.map (ow eR) [v6]⟩),(9,⟨1,List.map (ow (dQ 3 eM)) [v5.1]⟩)] 10 ⟨0,false,none,true⟩) (Ent.trans (gR (b:=8) (b':=4) (i:=0) (j:=2) (es':=v6.q.src.map eI) k k k k k (aH _ _) k (cA.frzs _)) (Ent.trans (gR (b:=8) (b':=5) (i:=0) (j:=3) (es':=v6.q.tgt.map eI) k k k k k (aH _ _) k (cA.frzs _)) (Ent.trans (gR (b:=8) (b':=6) (i:=0) (j:=4) (es':=v6.dims.map eI) k k k k k (aH _ _) k (cA.frzs _)) (Ent.trans (gR (b:=8) (b':=7) (i:=0) (j:=5) (es':=v6.maps.map eM) k k k k k (aH _ _) k (aX.frzs _)) (Ent.trans (gR (b:=9) (b':=3) (i:=0) (j:=0) (es':=v5.1.map eM) k k k k k (aH _ _) k (aX.frzs _)) (bP (gH ⟨_,k,⟨k,k,(by simp only [aH,lA,lT,lR,lC,lN]),k⟩⟩ (gH ⟨_,k,⟨k,k,(by simp only [aH,lA,lT,lR,lC,lN]),k⟩⟩ (bG k2))) (bW (cZ.plainO _) k<|bW (cB.plainO _) k<|aQ) k4))))))<|aE<|aC<|sp h ⟨mN [(2,.own 0 0 ([v6].length)),(3,.own 1 0 ([v5.1].length)),(4,.bl v3.2.2.2)] [(0,⟨6,List.map eR [v6]⟩),(1,⟨1,List.map (dQ 3 eM) [v5.1]⟩)] 2 ⟨0,false,none,true⟩,(Ent.trans (Ent.trans (pC (b:=8) cZ k) (pC (b:=9) cB k)) (gT [8,9] (bG k2) (bW (cZ.plainE _) k<|bW (cB.plainE _) k<|aQ) k4)),k,⟨_,k,.inr ⟨(by simp),k,k⟩⟩,⟨k,k,aQ⟩⟩
 ·refine aG<|tn<|sQ<|aI (uT (t:=5) (d:= .list 2 (v3.1.map eS)) [1] k (eD cV k k) k k)<|aI (uT (t:=6) (d:= .list 2 (v3.2.1.map eS)) [2] k (eD cV k k) k k)<|rg<|ae (wl k) k<|aT k2<|aI (t:=mN [(1,.ptr 0 0 0),(5,.list 2 (v3.1.map eS)),(6,.list 2 (v3.2.1.map eS)),(11,.own 3 0 (([]:(List Rp)).length))] [(0,⟨6,[eR a0]⟩),(3,⟨6,List.map (ow eR) ([]:(List Rp))⟩)] 4 ⟨0,false,none,true⟩) (bP (kT 3 k2 (gH ⟨_,k,⟨k,k,(by simp only [aH,lA,lT,lR,lC,lN]),k⟩⟩ aQ)) (bO k<|bW (cZ.plainO _) k<|aQ) k4)<|sR<|ae (wl k) k<|aT k2<|aI (t:=mN [(1,.ptr 0 0 0),(5,.list 2 (v3.1.map eS)),(6,.list 2 (v3.2.1.map eS)),(11,.own 3 0 (([]:(List Rp)).length)),(12,.own 4 0 (([]:(List (List Mt))).length))] [(0,⟨6,[eR a0]⟩),(3,⟨6,List.map (ow eR) ([]:(List Rp))⟩),(4,⟨1,List.map (ow (dQ 3 eM)) ([]:(List (List Mt)))⟩)] 5 ⟨0,false,none,true⟩) (bP (kT 4 k2 (gH ⟨_,k,⟨k,k,(by simp only [aH,lA,lT,lR,lC,lN]),k⟩⟩ aQ)) (bO k<|bW (cZ.plainO _) k<|bW (cB.plainO _) k<|aQ) k4)<|sQ<|sR<|aT k2<|aD<|oB h λy31 hy31 h=>cC (body:=(iB self a0 v3)) hy31 (λ(x1:((List Rp)×(List (List Mt))×Int))=>mN [(1,.ptr 0 0 0),(5,.list 2 (v3.1.map eS)),(6,.list 2 (v3.2.1.map eS)),(11,.own 1 0 x1.1.length),(12,.own 2 0 x1.2.1.length),(13,.int x1.2.2)] [(0,⟨6,[eR a0]⟩),(1,⟨6,x1.1.map eR⟩),(2,⟨1,x1.2.1.map (ow (dQ 3 eM))⟩)] 3 ⟨0,false,none,true⟩) (λr e t=>Sum.elim (λa=>(λr e t=>e= .exit 0∧Ent t (mN [(11,.own 0 0 r.1.length),(12,.own 1 0 r.2.length)] [(0,⟨6,r.1.map eR⟩),(1,⟨1,r.2.map (ow (dQ 3 eM))⟩)] 2 ⟨0,false,none,true⟩)) a e t) (λb=>(λr e t=>e= .ret∧Ent t (mN [(2,.own 0 0 (([]:(List Rp)).length)),(3,.own 1 0 (([]:(List (List Mt))).length)),(4,.bl false)] [(0,⟨6,List.map (ow eR) ([]:(List Rp))⟩),(1,⟨1,List.map (ow (dQ 3 eM)) ([]:(List (List Mt)))⟩)] 2 ⟨0,false,none,true⟩)) b e t) r) (gT [0,3,4] (bG k2) (bO k<|bW (cZ.plainE _) k<|bW (cB.plainO _) k<|aQ) k4) ?_ ?_
  ·intro x1 o h;refine sQ<|sR<|am k k<|cm k4<|an<|tn<|cN k h (λ_ h=>?_) λ_ h=>aY<|aB<|aB<|sp h ⟨_,k,k,(gT [1,2] (bG k2) (bW (cZ.plainE _) k<|bW (cB.plainO _) k<|aQ) k4)⟩;refine aG<|tn<|sQ<|aD<|sR<|am k k<|aT k2<|sQ<|sR<|am k k<|cm k4<|an<|tn<|cN k h (λ_ h=>?_) λ_ h=>?_
   ·refine rg<|am k k<|aT k2<|sR<|lp k8<|am k k<|oB h λv9 hv9 h=>ae (AEff.conv (jE (x:= .tuple [.agg [.int v9.1.p,.int v9.1.q.n,.own 3 0 (v9.1.q.src.map eI).length,.own 4 0 (v9.1.q.tgt.map eI).length,.own 5 0 (v9.1.dims.map eI).length,.own 6 0 (v9.1.maps.map eM).length],.own 7 0 (v9.2.1.map eM).length,.bl v9.2.2]) (nb:=[(3,⟨1,cF (v9.1.q.src.map eI)⟩),(4,⟨1,cF (v9.1.q.tgt.map eI)⟩),(5,⟨1,cF (v9.1.dims.map eI)⟩),(6,⟨3,cF (v9.1.maps.map eM)⟩),(7,⟨3,cF (v9.2.1.map eM)⟩)]) (aFu a0 v3.2.1 v9 hv9) k (by rfl) k k (dE (bU aQ (bU aQ (bU (cA.good _) (bU (cA.good _) (bU (cA.good _) (bU (aX.good _) tC)))))) (dE (aX.good _) (dE aQ qD))) (aL (eV k) (cJ k aO))) (v':= .tuple [.agg [.int v9.1.p,.int v9.1.q.n,.own 3 0 v9.1.q.src.length,.own 4 0 v9.1.q.tgt.length,.own 5 0 v9.1.dims.length,.own 6 0 v9.1.maps.length],.own 7 0 v9.2.1.length,.bl v9.2.2]) (ed':=[(3,some ⟨1,v9.1.q.src.map (ow eI)⟩),(4,some ⟨1,v9.1.q.tgt.map (ow eI)⟩),(5,some ⟨1,v9.1.dims.map (ow eI)⟩),(6,some ⟨3,v9.1.maps.map (ow eM)⟩),(7,some ⟨3,v9.2.1.map (ow eM)⟩)]) (by simp only [aH]) (pE (nb':=[(3,⟨1,v9.1.q.src.map (ow eI)⟩),(4,⟨1,v9.1.q.tgt.map (ow eI)⟩),(5,⟨1,v9.1.dims.map (ow eI)⟩),(6,⟨3,v9.1.maps.map (ow eM)⟩),(7,⟨3,v9.2.1.map (ow eM)⟩)]) (by simp only [dX]))) k<|am k k<|ae (bA k k (by intro _ h;cases h)) k<|ae (bA k k (by intro _ h;cases h)) k<|ae (bA k k (by intro _ h;cases h)) k<|ae (bX aJ k k) k<|ae (ws k) k<|aa k k<|aT k2<|sQ<|aI (oG (b:=8) (b':=3) (i:=0) (j:=2) (es':=v9.1.q.src.map eI) k k k k (eD cA k k))<|aI (oG (b:=8) (b':=4) (i:=0) (j:=3) (es':=v9.1.q.tgt.map eI) k k k k (eD cA k k))<|aI (oG (b:=8) (b':=5) (i:=0) (j:=4) (es':=v9.1.dims.map eI) k k k k (eD cA k k))<|aI (oG (b:=8) (b':=6) (i:=0) (j:=5) (es':=v9.1.maps.map eM) k k k k (eD aX k k))<|rg<|lp k8<|oB h λv10 hv10 h=>ae (aCN (σ:=sg []) (σ':=sg [(9,0),(10,1)]) (touch:=[]) (news:=[9,10]) (hl2:=[(9,⟨6,v10.1.map eR⟩),(10,⟨1,v10.2.1.map (dQ 3 eM)⟩)]) (n':=11) (r2:= .tuple [.own 9 0 v10.1.length,.own 10 0 v10.2.1.length,.bl v10.2.2]) (ih v9.1 v10 hv10) k k ⟨_,_,k,(.inl ⟨_,_,k,k,⟨_,_,k,k,⟨_,_,k,⟨k,k⟩,⟨_,_,k,⟨k,k⟩,⟨_,_,k,⟨k,k⟩,⟨_,_,k,⟨k,k⟩,k⟩⟩⟩⟩⟩⟩),k⟩ aQ k k k ⟨⟨_,k,k,.inl ⟨k,cZ.plainE _⟩⟩,k,⟨_,k,k,.inl ⟨k,cB.plainE _⟩⟩,k,aQ⟩ k (.inr ⟨_,_,k,k,⟨_,_,k,⟨k,k,(by simp only [aH,lA,lT,lR,lC,lN]),k⟩,⟨_,_,k,⟨k,k,(by simp only [aH,lA,lT,lR,lC,lN]),k⟩,⟨_,_,k,k,k⟩⟩⟩⟩) k ⟨k,cZ.tamdE _ _,⟨k,cB.tamdE _ _,aQ⟩⟩ k k) k<|am k k ?_;refine ae (bA k k (by intro _ h;cases h)) k<|ae (bA k k (by intro _ h;cases h)) k<|ae (bA k k (by intro _ h;cases h)) k<|aa k k<|aa k k<|aT k2<|aI (t:=mN [(1,.ptr 0 0 0),(5,.list 2 (v3.1.map eS)),(6,.list 2 (v3.2.1.map eS)),(11,.own 1 0 x1.1.length),(12,.own 2 0 x1.2.1.length),(13,.int x1.2.2),(15,.ptr 8 0 0),(16,.own 7 0 v9.2.1.length),(18,.own 9 0 v10.1.length),(19,.own 10 0 v10.2.1.length),(20,.bl v10.2.2)] [(0,⟨6,[eR a0]⟩),(1,⟨6,x1.1.map eR⟩),(2,⟨1,x1.2.1.map (ow (dQ 3 eM))⟩),(7,⟨3,v9.2.1.map (ow eM)⟩),(8,⟨6,[eR v9.1]⟩),(9,⟨6,v10.1.map eR⟩),(10,⟨1,v10.2.1.map (dQ 3 eM)⟩)] 11 ⟨0,false,none,true⟩) (bP (bG k2) (bO k<|bW (cZ.plainE _) k<|bW (cB.plainO _) k<|bW (aX.plainO _) k<|bO k<|bW (cZ.plainE _) k<|bW (cB.plainE _) k<|aQ) k4)<|sQ<|sR<|am k k<|ae (dI k) k<|an<|tn<|cN k h (λ_ h=>sR<|ae (wl k) k<|ae (wl k) k<|aa k k<|aa k k<|aT k2<|aI (t:=mN [(2,.own 11 0 (([]:(List Rp)).length)),(3,.own 12 0 (([]:(List (List Mt))).length)),(4,.bl false)] [(11,⟨6,List.map (ow eR) ([]:(List Rp))⟩),(12,⟨1,List.map (ow (dQ 3 eM)) ([]:(List (List Mt)))⟩)] 13 ⟨0,false,none,true⟩) (bP (gH ⟨_,k,⟨k,k,(by simp only [aH,lA,lT,lR,lC,lN]),k⟩⟩ (gH ⟨_,k,⟨k,k,(by simp only [aH,lA,lT,lR,lC,lN]),k⟩⟩ (bG k2))) (bW (cZ.plainO _) k<|bW (cB.plainO _) k<|aQ) k4)<|aE<|aC<|bC<|aC<|aC<|sp h ⟨_,k,k,(gT [11,12] (bG k2) (bW (cZ.plainO _) k<|bW (cB.plainO _) k<|aQ) k4)⟩) λ_ h=>?_;refine aG<|tn<|sQ<|aI (uT (t:=18) (d:= .list 6 (v10.1.map eR)) [9] k (aMA cZ k k) k k)<|aI (uT (t:=19) (d:= .list 1 (v10.2.1.map (dQ 3 eM))) [10] k (aMA cB k k) k k)<|aI (uT (t:=16) (d:= .list 3 (v9.2.1.map eM)) [7] k (eD aX k k) k k)<|rg<|aT k2<|aD<|oB h λy19 hy19 h=>cC (body:=(mG a0 v9 v10)) hy19 (λ(x2:((List Rp)×(List (List Mt))×Int))=>mN [(1,.ptr 0 0 0),(5,.list 2 (v3.1.map eS)),(6,.list 2 (v3.2.1.map eS)),(11,.own 1 0 x2.1.length),(12,.own 2 0 x2.2.1.length),(13,.int x1.2.2),(15,.ptr 3 0 0),(16,.list 3 (v9.2.1.map eM)),(18,.list 6 (v10.1.map eR)),(19,.list 1 (v10.2.1.map (dQ 3 eM))),(21,.int x2.2.2)] [(0,⟨6,[eR a0]⟩),(1,⟨6,x2.1.map eR⟩),(2,⟨1,x2.2.1.map (ow (dQ 3 eM))⟩),(3,⟨6,[eR v9.1]⟩)] 4 ⟨0,false,none,true⟩) (λr e t=>e= .exit 2∧Ent t (mN [(1,.ptr 0 0 0),(5,.list 2 (v3.1.map eS)),(6,.list 2 (v3.2.1.map eS)),(11,.own 1 0 r.1.length),(12,.own 2 0 r.2.length),(13,.int x1.2.2)] [(0,⟨6,[eR a0]⟩),(1,⟨6,r.1.map eR⟩),(2,⟨1,r.2.map (ow (dQ 3 eM))⟩)] 3 ⟨0,false,none,true⟩)) (gT [0,1,2,8] (bG k2) (bO k<|bW (cZ.plainE _) k<|bW (cB.plainO _) k<|bO k<|aQ) k4) ?_ ?_
    ·intro x2 o h;refine sQ<|sR<|am k k<|am k k<|ln k4<|cm k4<|an<|tn<|cN k h (λ_ h=>?_) λ_ h=>aY<|aB<|aB<|sp h ⟨_,k,k,(bP (bG k2) (bO k<|bW (cZ.plainE _) k<|bW (cB.plainO _) k<|aQ) k4)⟩;refine aG<|tn<|sQ<|aD<|sQ<|aP fB<|am k k<|am k k<|oB h λv13 hv13 h=>ae (xl hv13 k) k<|lr k7<|lp k8<|lp k8<|am k k<|am k k<|oB h λv14 hv14 h=>ae (xl hv14 k) k<|lr k7<|am k k<|oB h λv15 hv15 h=>ae (cT aX (zK v13 v9.1 a0 v14 v9.2.1 v15 hv15) k3 (aL (eV k) (aL (eV k) (aL (eV k) (cJ k (cJ k aO)))))) k<|am k k<|ae (bA k k (by intro _ h;cases h)) k<|ae (bA k k (by intro _ h;cases h)) k<|aa k k<|aa k k<|an<|lL (by kernel_rfl)<|tn<|sR<|am k k ?_;exact am k k<|am k k<|oB h λv16 hv16 h=>ae (xl hv16 k) k<|lr k7<|ae (wl k) k<|cG h λq17 h=>ae (AEff.conv (fN aJ (e:=eR) (l:=x2.1) (c:=[.int v16.p,.int v16.q.n,.list 1 (v16.q.src.map eI),.list 1 (v16.q.tgt.map eI),.list 1 (v16.dims.map eI),.list 3 (v16.maps.map eM)]) q17 k k k k k k k k k k k k k k) (v':= .own 6 0 (x2.1++[v16]).length) (ed':=[(1,none),(6,some ⟨6,List.map eR (x2.1++[v16])⟩)]) (by simp only [List.length_append,List.length_cons,List.length_nil]) (by rw [show List.map eR (x2.1++[v16])=List.map eR x2.1++[[.int v16.p,.int v16.q.n,.list 1 (v16.q.src.map eI),.list 1 (v16.q.tgt.map eI),.list 1 (v16.dims.map eI),.list 3 (v16.maps.map eM)]] from List.map_append])) k<|aT k2<|aI (t:=mN [(1,.ptr 0 0 0),(5,.list 2 (v3.1.map eS)),(6,.list 2 (v3.2.1.map eS)),(11,.own 6 0 ((x2.1++[v16]).length)),(12,.own 2 0 x2.2.1.length),(13,.int x1.2.2),(15,.ptr 3 0 0),(16,.list 3 (v9.2.1.map eM)),(18,.list 6 (v10.1.map eR)),(19,.list 1 (v10.2.1.map (dQ 3 eM))),(21,.int x2.2.2),(22,.own 4 0 v15.1.length)] [(0,⟨6,[eR a0]⟩),(2,⟨1,x2.2.1.map (ow (dQ 3 eM))⟩),(3,⟨6,[eR v9.1]⟩),(4,⟨3,v15.1.map (ow eM)⟩),(6,⟨6,List.map eR (x2.1++[v16])⟩)] 7 ⟨0,false,none,true⟩) (bP (bG k2) (bO k<|bW (cB.plainO _) k<|bO k<|bW (aX.plainO _) k<|bW (cZ.plainE _) k<|aQ) k4)<|rg<|am k k<|am k k<|ae (wl k) k<|cG h λq18 h=>ae (fN aJ (l:=x2.2.1) (c:=[.own 4 0 v15.1.length]) q18 k k k k k k k k k k k k k k) k<|aa k k<|an<|bB<|tn<|aI (t:=mN [(1,.ptr 0 0 0),(5,.list 2 (v3.1.map eS)),(6,.list 2 (v3.2.1.map eS)),(11,.own 6 0 ((x2.1++[v16]).length)),(12,.own 8 0 ((x2.2.1++[v15.1]).length)),(13,.int x1.2.2),(15,.ptr 3 0 0),(16,.list 3 (v9.2.1.map eM)),(18,.list 6 (v10.1.map eR)),(19,.list 1 (v10.2.1.map (dQ 3 eM))),(21,.int x2.2.2)] [(0,⟨6,[eR a0]⟩),(3,⟨6,[eR v9.1]⟩),(6,⟨6,List.map eR (x2.1++[v16])⟩),(8,⟨1,List.map (ow (dQ 3 eM)) (x2.2.1++[v15.1])⟩)] 9 ⟨0,false,none,true⟩) (Ent.trans (dJ (b:=8) (b':=4) (j:=0) (es':=v15.1.map eM) k k k k (aH _ _) (aX.frzs _)) (bP (kT 4 k2 (gH ⟨_,k,⟨k,k,(by simp only [aH,lA,lT,lR,lC,lN]),k⟩⟩ (bG k2))) (bO k<|bO k<|bW (cZ.plainE _) k<|hX ⟨_,k,k,.inl ⟨fV v15.1 k,cB.plainO _⟩⟩ k<|aQ) k4))<|rg<|am k k<|ae (bF k k) k<|aT k2<|sp h ⟨_,k,(gT [0,6,8,3] (bG k2) (bO k<|bW (cZ.plainE _) k<|bW (cB.plainO _) k<|bO k<|aQ) k4)⟩
    ·rintro e t ⟨rfl,hent⟩;exact aN<|bB<|tn<|aI hent<|rg<|am k k<|ae (bF k k) k<|aT k2<|sp h ⟨_,k,(bP (bG k2) (bO k<|bW (cZ.plainE _) k<|bW (cB.plainO _) k<|aQ) k4)⟩
   ·refine aG<|tn<|sR<|lp k8<|am k k<|oB h λv20 hv20 h=>ae (AEff.conv (jE (x:= .tuple [.agg [.int v20.1.p,.int v20.1.q.n,.own 3 0 (v20.1.q.src.map eI).length,.own 4 0 (v20.1.q.tgt.map eI).length,.own 5 0 (v20.1.dims.map eI).length,.own 6 0 (v20.1.maps.map eM).length],.own 7 0 (v20.2.1.map eM).length,.bl v20.2.2]) (nb:=[(3,⟨1,cF (v20.1.q.src.map eI)⟩),(4,⟨1,cF (v20.1.q.tgt.map eI)⟩),(5,⟨1,cF (v20.1.dims.map eI)⟩),(6,⟨3,cF (v20.1.maps.map eM)⟩),(7,⟨3,cF (v20.2.1.map eM)⟩)]) (aFu a0 v3.1 v20 hv20) k (by rfl) k k (dE (bU aQ (bU aQ (bU (cA.good _) (bU (cA.good _) (bU (cA.good _) (bU (aX.good _) tC)))))) (dE (aX.good _) (dE aQ qD))) (aL (eV k) (cJ k aO))) (v':= .tuple [.agg [.int v20.1.p,.int v20.1.q.n,.own 3 0 v20.1.q.src.length,.own 4 0 v20.1.q.tgt.length,.own 5 0 v20.1.dims.length,.own 6 0 v20.1.maps.length],.own 7 0 v20.2.1.length,.bl v20.2.2]) (ed':=[(3,some ⟨1,v20.1.q.src.map (ow eI)⟩),(4,some ⟨1,v20.1.q.tgt.map (ow eI)⟩),(5,some ⟨1,v20.1.dims.map (ow eI)⟩),(6,some ⟨3,v20.1.maps.map (ow eM)⟩),(7,some ⟨3,v20.2.1.map (ow eM)⟩)]) (by simp only [aH]) (pE (nb':=[(3,⟨1,v20.1.q.src.map (ow eI)⟩),(4,⟨1,v20.1.q.tgt.map (ow eI)⟩),(5,⟨1,v20.1.dims.map (ow eI)⟩),(6,⟨3,v20.1.maps.map (ow eM)⟩),(7,⟨3,v20.2.1.map (ow eM)⟩)]) (by simp only [dX]))) k<|am k k<|ae (bA k k (by intro _ h;cases h)) k<|ae (bA k k (by intro _ h;cases h)) k<|ae (bA k k (by intro _ h;cases h)) k<|ae (bX aJ k k) k<|ae (ws k) k<|aa k k<|aT k2<|sQ<|aI (oG (b:=8) (b':=3) (i:=0) (j:=2) (es':=v20.1.q.src.map eI) k k k k (eD cA k k))<|aI (oG (b:=8) (b':=4) (i:=0) (j:=3) (es':=v20.1.q.tgt.map eI) k k k k (eD cA k k))<|aI (oG (b:=8) (b':=5) (i:=0) (j:=4) (es':=v20.1.dims.map eI) k k k k (eD cA k k))<|aI (oG (b:=8) (b':=6) (i:=0) (j:=5) (es':=v20.1.maps.map eM) k k k k (eD aX k k))<|rg<|lp k8<|oB h λv21 hv21 h=>ae (aCN (σ:=sg []) (σ':=sg [(9,0),(10,1)]) (touch:=[]) (news:=[9,10]) (hl2:=[(9,⟨6,v21.1.map eR⟩),(10,⟨1,v21.2.1.map (dQ 3 eM)⟩)]) (n':=11) (r2:= .tuple [.own 9 0 v21.1.length,.own 10 0 v21.2.1.length,.bl v21.2.2]) (ih v20.1 v21 hv21) k k ⟨_,_,k,(.inl ⟨_,_,k,k,⟨_,_,k,k,⟨_,_,k,⟨k,k⟩,⟨_,_,k,⟨k,k⟩,⟨_,_,k,⟨k,k⟩,⟨_,_,k,⟨k,k⟩,k⟩⟩⟩⟩⟩⟩),k⟩ aQ k k k ⟨⟨_,k,k,.inl ⟨k,cZ.plainE _⟩⟩,k,⟨_,k,k,.inl ⟨k,cB.plainE _⟩⟩,k,aQ⟩ k (.inr ⟨_,_,k,k,⟨_,_,k,⟨k,k,(by simp only [aH,lA,lT,lR,lC,lN]),k⟩,⟨_,_,k,⟨k,k,(by simp only [aH,lA,lT,lR,lC,lN]),k⟩,⟨_,_,k,k,k⟩⟩⟩⟩) k ⟨k,cZ.tamdE _ _,⟨k,cB.tamdE _ _,aQ⟩⟩ k k) k<|am k k<|ae (bA k k (by intro _ h;cases h)) k<|ae (bA k k (by intro _ h;cases h)) k<|ae (bA k k (by intro _ h;cases h)) k ?_;refine aa k k<|aa k k<|aT k2<|aI (t:=mN [(1,.ptr 0 0 0),(5,.list 2 (v3.1.map eS)),(6,.list 2 (v3.2.1.map eS)),(11,.own 1 0 x1.1.length),(12,.own 2 0 x1.2.1.length),(13,.int x1.2.2),(15,.ptr 8 0 0),(16,.own 7 0 v20.2.1.length),(18,.own 9 0 v21.1.length),(19,.own 10 0 v21.2.1.length),(20,.bl v21.2.2)] [(0,⟨6,[eR a0]⟩),(1,⟨6,x1.1.map eR⟩),(2,⟨1,x1.2.1.map (ow (dQ 3 eM))⟩),(7,⟨3,v20.2.1.map (ow eM)⟩),(8,⟨6,[eR v20.1]⟩),(9,⟨6,v21.1.map eR⟩),(10,⟨1,v21.2.1.map (dQ 3 eM)⟩)] 11 ⟨0,false,none,true⟩) (bP (bG k2) (bO k<|bW (cZ.plainE _) k<|bW (cB.plainO _) k<|bW (aX.plainO _) k<|bO k<|bW (cZ.plainE _) k<|bW (cB.plainE _) k<|aQ) k4)<|sQ<|sR<|am k k<|ae (dI k) k<|an<|tn<|cN k h (λ_ h=>sR<|ae (wl k) k<|ae (wl k) k<|aa k k<|aa k k<|aT k2<|aI (t:=mN [(2,.own 11 0 (([]:(List Rp)).length)),(3,.own 12 0 (([]:(List (List Mt))).length)),(4,.bl false)] [(11,⟨6,List.map (ow eR) ([]:(List Rp))⟩),(12,⟨1,List.map (ow (dQ 3 eM)) ([]:(List (List Mt)))⟩)] 13 ⟨0,false,none,true⟩) (bP (gH ⟨_,k,⟨k,k,(by simp only [aH,lA,lT,lR,lC,lN]),k⟩⟩ (gH ⟨_,k,⟨k,k,(by simp only [aH,lA,lT,lR,lC,lN]),k⟩⟩ (bG k2))) (bW (cZ.plainO _) k<|bW (cB.plainO _) k<|aQ) k4)<|aE<|aC<|bC<|aC<|aC<|sp h ⟨_,k,k,(gT [11,12] (bG k2) (bW (cZ.plainO _) k<|bW (cB.plainO _) k<|aQ) k4)⟩) λ_ h=>?_;refine aG<|tn<|sQ<|aI (uT (t:=18) (d:= .list 6 (v21.1.map eR)) [9] k (aMA cZ k k) k k)<|aI (uT (t:=19) (d:= .list 1 (v21.2.1.map (dQ 3 eM))) [10] k (aMA cB k k) k k)<|aI (uT (t:=16) (d:= .list 3 (v20.2.1.map eM)) [7] k (eD aX k k) k k)<|rg<|aT k2<|aD<|oB h λy30 hy30 h=>cC (body:=(mH a0 v20 v21)) hy30 (λ(x3:((List Rp)×(List (List Mt))×Int))=>mN [(1,.ptr 0 0 0),(5,.list 2 (v3.1.map eS)),(6,.list 2 (v3.2.1.map eS)),(11,.own 1 0 x3.1.length),(12,.own 2 0 x3.2.1.length),(13,.int x1.2.2),(15,.ptr 3 0 0),(16,.list 3 (v20.2.1.map eM)),(18,.list 6 (v21.1.map eR)),(19,.list 1 (v21.2.1.map (dQ 3 eM))),(21,.int x3.2.2)] [(0,⟨6,[eR a0]⟩),(1,⟨6,x3.1.map eR⟩),(2,⟨1,x3.2.1.map (ow (dQ 3 eM))⟩),(3,⟨6,[eR v20.1]⟩)] 4 ⟨0,false,none,true⟩) (λr e t=>e= .exit 2∧Ent t (mN [(1,.ptr 0 0 0),(5,.list 2 (v3.1.map eS)),(6,.list 2 (v3.2.1.map eS)),(11,.own 1 0 r.1.length),(12,.own 2 0 r.2.length),(13,.int x1.2.2)] [(0,⟨6,[eR a0]⟩),(1,⟨6,r.1.map eR⟩),(2,⟨1,r.2.map (ow (dQ 3 eM))⟩)] 3 ⟨0,false,none,true⟩)) (gT [0,1,2,8] (bG k2) (bO k<|bW (cZ.plainE _) k<|bW (cB.plainO _) k<|bO k<|aQ) k4) ?_ ?_
    ·intro x3 o h;refine sQ<|sR<|am k k<|am k k<|ln k4<|cm k4<|an<|tn<|cN k h (λ_ h=>?_) λ_ h=>aY<|aB<|aB<|sp h ⟨_,k,k,(bP (bG k2) (bO k<|bW (cZ.plainE _) k<|bW (cB.plainO _) k<|aQ) k4)⟩;refine aG<|tn<|sQ<|aD<|sQ<|aP fB<|am k k<|am k k<|oB h λv24 hv24 h=>ae (xl hv24 k) k<|lr k7<|lp k8<|lp k8<|am k k<|am k k<|oB h λv25 hv25 h=>ae (xl hv25 k) k<|lr k7<|am k k<|oB h λv26 hv26 h=>ae (cT aX (zK v24 v20.1 a0 v25 v20.2.1 v26 hv26) k3 (aL (eV k) (aL (eV k) (aL (eV k) (cJ k (cJ k aO)))))) k<|am k k<|ae (bA k k (by intro _ h;cases h)) k<|ae (bA k k (by intro _ h;cases h)) k<|aa k k<|aa k k<|an<|lL (by kernel_rfl)<|tn<|sR<|am k k ?_;exact am k k<|am k k<|oB h λv27 hv27 h=>ae (xl hv27 k) k<|lr k7<|ae (wl k) k<|cG h λq28 h=>ae (AEff.conv (fN aJ (e:=eR) (l:=x3.1) (c:=[.int v27.p,.int v27.q.n,.list 1 (v27.q.src.map eI),.list 1 (v27.q.tgt.map eI),.list 1 (v27.dims.map eI),.list 3 (v27.maps.map eM)]) q28 k k k k k k k k k k k k k k) (v':= .own 6 0 (x3.1++[v27]).length) (ed':=[(1,none),(6,some ⟨6,List.map eR (x3.1++[v27])⟩)]) (by simp only [List.length_append,List.length_cons,List.length_nil]) (by rw [show List.map eR (x3.1++[v27])=List.map eR x3.1++[[.int v27.p,.int v27.q.n,.list 1 (v27.q.src.map eI),.list 1 (v27.q.tgt.map eI),.list 1 (v27.dims.map eI),.list 3 (v27.maps.map eM)]] from List.map_append])) k<|aT k2<|aI (t:=mN [(1,.ptr 0 0 0),(5,.list 2 (v3.1.map eS)),(6,.list 2 (v3.2.1.map eS)),(11,.own 6 0 ((x3.1++[v27]).length)),(12,.own 2 0 x3.2.1.length),(13,.int x1.2.2),(15,.ptr 3 0 0),(16,.list 3 (v20.2.1.map eM)),(18,.list 6 (v21.1.map eR)),(19,.list 1 (v21.2.1.map (dQ 3 eM))),(21,.int x3.2.2),(22,.own 4 0 v26.1.length)] [(0,⟨6,[eR a0]⟩),(2,⟨1,x3.2.1.map (ow (dQ 3 eM))⟩),(3,⟨6,[eR v20.1]⟩),(4,⟨3,v26.1.map (ow eM)⟩),(6,⟨6,List.map eR (x3.1++[v27])⟩)] 7 ⟨0,false,none,true⟩) (bP (bG k2) (bO k<|bW (cB.plainO _) k<|bO k<|bW (aX.plainO _) k<|bW (cZ.plainE _) k<|aQ) k4)<|rg<|am k k<|am k k<|ae (wl k) k<|cG h λq29 h=>ae (fN aJ (l:=x3.2.1) (c:=[.own 4 0 v26.1.length]) q29 k k k k k k k k k k k k k k) k<|aa k k<|an<|bB<|tn<|aI (t:=mN [(1,.ptr 0 0 0),(5,.list 2 (v3.1.map eS)),(6,.list 2 (v3.2.1.map eS)),(11,.own 6 0 ((x3.1++[v27]).length)),(12,.own 8 0 ((x3.2.1++[v26.1]).length)),(13,.int x1.2.2),(15,.ptr 3 0 0),(16,.list 3 (v20.2.1.map eM)),(18,.list 6 (v21.1.map eR)),(19,.list 1 (v21.2.1.map (dQ 3 eM))),(21,.int x3.2.2)] [(0,⟨6,[eR a0]⟩),(3,⟨6,[eR v20.1]⟩),(6,⟨6,List.map eR (x3.1++[v27])⟩),(8,⟨1,List.map (ow (dQ 3 eM)) (x3.2.1++[v26.1])⟩)] 9 ⟨0,false,none,true⟩) (Ent.trans (dJ (b:=8) (b':=4) (j:=0) (es':=v26.1.map eM) k k k k (aH _ _) (aX.frzs _)) (bP (kT 4 k2 (gH ⟨_,k,⟨k,k,(by simp only [aH,lA,lT,lR,lC,lN]),k⟩⟩ (bG k2))) (bO k<|bO k<|bW (cZ.plainE _) k<|hX ⟨_,k,k,.inl ⟨fV v26.1 k,cB.plainO _⟩⟩ k<|aQ) k4))<|rg<|am k k<|ae (bF k k) k<|aT k2<|sp h ⟨_,k,(gT [0,6,8,3] (bG k2) (bO k<|bW (cZ.plainE _) k<|bW (cB.plainO _) k<|bO k<|aQ) k4)⟩
    ·rintro e t ⟨rfl,hent⟩;exact aN<|bB<|tn<|aI hent<|rg<|am k k<|ae (bF k k) k<|aT k2<|sp h ⟨_,k,(bP (bG k2) (bO k<|bW (cZ.plainE _) k<|bW (cB.plainO _) k<|aQ) k4)⟩
  ·intro e t hX;rcases y31 with y32|y33
   ·obtain ⟨rfl,hent⟩:=hX;exact aN<|tn<|aI hent<|sR<|am k k<|am k k<|aa k k<|aa k k<|aT k2<|aE<|sp h ⟨mN [(2,.own 0 0 y32.1.length),(3,.own 1 0 y32.2.length),(4,.bl true)] [(0,⟨6,y32.1.map eR⟩),(1,⟨1,y32.2.map (dQ 3 eM)⟩)] 2 ⟨0,false,none,true⟩,(Ent.trans (pC (b:=1) cB k) (bP (bG k2) (bW (cZ.plainE _) k<|bW (cB.plainE _) k<|aQ) k4)),k,⟨_,k,.inr ⟨(by simp),k,k⟩⟩,⟨k,k,aQ⟩⟩
   ·obtain ⟨rfl,hent⟩:=hX;exact bC<|aC<|sp h ⟨mN [(2,.own 0 0 (([]:(List Rp)).length)),(3,.own 1 0 (([]:(List (List Mt))).length)),(4,.bl false)] [(0,⟨6,List.map eR ([]:(List Rp))⟩),(1,⟨1,List.map (dQ 3 eM) ([]:(List (List Mt)))⟩)] 2 ⟨0,false,none,true⟩,(Ent.trans (Ent.trans (Ent.trans hent (pC (b:=0) cZ k)) (pC (b:=1) cB k)) (bP (bG k2) (bW (cZ.plainE _) k<|bW (cB.plainE _) k<|aQ) k4)),k,⟨_,k,.inr ⟨(by simp),k,k⟩⟩,⟨k,k,aQ⟩⟩
theorem aEQ: ∀ (n:Nat) (a0:Rp) (r:((List Rp)×(List (List Mt))×Bool)),hJ n a0=some r→HasE Tryz.prog 114 [.agg (eR a0)] [] 0 (.tuple [.own 0 0 r.1.length,.own 1 0 r.2.1.length,.bl r.2.2]) [(0,⟨6,r.1.map eR⟩),(1,⟨1,r.2.1.map (dQ 3 eM)⟩)]
 |0,a0,r,h=>by cases h
 |n+1,a0,r,h=>aHQ (hJ n) a0 (aEQ n) r h
def wJ (a0:Mt) (a1:Mt):Option Mt:=
 (iA a0).bind λv1=>
 bif decide (([]:(List Int)).length +v1.cells.length≤4294967296) then
 ((iA a1).bind λv3=>
 bif decide ((([]:(List Int))++v1.cells).length +v3.cells.length≤4294967296) then
 ((iA (⟨wr (a0.cols+a1.cols),a0.rows,((([]:(List Int))++v1.cells)++v3.cells)⟩:Mt)).bind λv5=>
 some (v5))
 else none)
 else none
theorem aIO (a0:Mt) (a1:Mt) (r:Mt) (h:wJ a0 a1=some r):HasC Tryz.prog 115 [.agg (eM a0),.agg (eM a1)] (.agg (eM r)):=by
 refine hM [.cell 4 91] Tryz.func115 Tryz.ntmps115 k<|sR<|ae (wb k) k<|ae (wb k) k<|ae (bX aJ k k) k<|an<|tn<|sQ<|aP fB<|fp k8<|lp k8<|fp k8<|lp k8<|ae (bF k k) k<|fp k8<|lp k8<|ae (wl k) k<|lp k8<|oB h λv1 hv1 h=>ae (cM (rR a0 v1 hv1) k3 (aL (eV k) aO)) k<|ae (aJi aJ k k k k k k k) k<|cG h λq2 h=>ae (qV aJ (l:=([]:(List Int))) (m:=v1.cells) kH q2 k k k k k (aTo cA k k) k k k k k k) k<|lp k8<|oB h λv3 hv3 h=>ae (cM (rR a1 v3 hv3) k3 (aL (eV k) aO)) k<|ae (aJi aJ k k k k k k k) k<|cG h λq4 h=>ae (qV aJ (l:=(([]:(List Int))++v1.cells)) (m:=v3.cells) kH q4 k k k k k (aTo cA k k) k k k k k k) k<|ae (fW aJ k k k k k k) k<|oB h λv5 hv5 h=>ae (cM (rR (⟨wr (a0.cols+a1.cols),a0.rows,((([]:(List Int))++v1.cells)++v3.cells)⟩:Mt) v5 hv5) k3 (aL (vaM k2) aO)) k<|ae (ws k) k<|an ?_;exact lL (by kernel_rfl)<|tn<|aE<|sp h (bD k k k (iJ (aU (k) (aU (k) (aU (cW cA k k) fA)))))
def oW (v5:((List Rp)×(List (List Mt))×Bool)) (x1:((List Mt)×Int)) (x2:(Int×Int×(List Int)×Int)):Option ((Int×Int×(List Int)×Int) ⊕ (Int×Int×(List Int))):=
 bif decide (x2.2.2.2<((v5.2.1.length:Nat):Int)) then
 ((cY v5.2.1 x2.2.2.2).bind λv11=>
 (cY v11 x1.2).bind λv12=>
 (wJ (⟨x2.1,x2.2.1,x2.2.2.1⟩:Mt) v12).bind λv13=>
 some (.inl (v13.rows,v13.cols,v13.cells,wr (x2.2.2.2+1))))
 else
 (some (.inr (x2.1,x2.2.1,x2.2.2.1)))
def oX (a0:Rp) (v5:((List Rp)×(List (List Mt))×Bool)) (x1:((List Mt)×Int)):Option (((List Mt)×Int) ⊕ (List Mt)):=
 bif decide (x1.2<(a0.dims.length:Int)) then
 ((cY a0.dims x1.2).bind λv8=>
 (lJ v8 0).bind λv9=>
 (Lp (oW v5 x1) (v9.rows,v9.cols,v9.cells,0)).bind λy14=>
 bif decide (x1.1.length+1≤4294967296) then
 (some (.inl ((x1.1++[(⟨y14.1,y14.2.1,y14.2.2⟩:Mt)]),wr (x1.2+1))))
 else none)
 else
 (some (.inr x1.1))
def aAS (a0:Rp):Option ((List Rp)×(List Mt)×Bool):=
 (jQ a0).bind λv1=>
 bif !v1 then
 (some (([]:(List Rp)),([]:(List Mt)),false))
 else
 ((uV a0).bind λv3=>
 bif decide (v3=0) then
 (some (([]:(List Rp)),([]:(List Mt)),false))
 else
 ((hJ 9 a0).bind λv5=>
 bif !v5.2.2 then
 (some (([]:(List Rp)),([]:(List Mt)),false))
 else
 ((Lp (oX a0 v5) (([]:(List Mt)),0)).bind λy16=>
 some (v5.1,y16,true))))
theorem aLO (a0:Rp) (r:((List Rp)×(List Mt)×Bool)) (h:aAS a0=some r):HasE Tryz.prog 60 [.agg (eR a0)] [] 0 (.tuple [.own 0 0 r.1.length,.own 1 0 r.2.1.length,.bl r.2.2]) [(0,⟨6,r.1.map eR⟩),(1,⟨3,r.2.1.map (ow eM)⟩)]:=by
 refine aBf aJ (rvs:=[.tmp 2,.tmp 3,.tmp 4]) (ns:=nmA.drop 0) Tryz.func60 k k Tryz.ntmps60 k k<|sR<|ae (wb k) k<|aa k k<|aa k k<|aT k2<|sQ<|sR<|lp k8<|oB h λv1 hv1 h=>ae (aS (rK a0 v1 hv1) k (aL (eV k) aO)) k<|ae (dI k) k<|am k k<|sP h (λq2 h=>aV 15 k q2<|aK k4<|ak k k<|pk k3<|an<|tn<|dO k k<|sR<|ae (wl k) k<|ae (wl k) k<|aa k k<|aa k k<|aT k2<|aI (t:=mN [(2,.own 1 0 (([]:(List Rp)).length)),(3,.own 2 0 (([]:(List Mt)).length)),(4,.bl false)] [(1,⟨6,List.map (ow eR) ([]:(List Rp))⟩),(2,⟨3,List.map (ow eM) ([]:(List Mt))⟩)] 3 ⟨0,false,none,true⟩) (bP (gH ⟨_,k,⟨k,k,(by simp only [aH,lA,lT,lR,lC,lN]),k⟩⟩ (gH ⟨_,k,⟨k,k,(by simp only [aH,lA,lT,lR,lC,lN]),k⟩⟩ (bG k2))) (bW (cZ.plainO _) k<|bW (aX.plainO _) k<|aQ) k4)<|aE<|aC<|sp h ⟨mN [(2,.own 0 0 (([]:(List Rp)).length)),(3,.own 1 0 (([]:(List Mt)).length)),(4,.bl false)] [(0,⟨6,List.map eR ([]:(List Rp))⟩),(1,⟨3,List.map (ow eM) ([]:(List Mt))⟩)] 2 ⟨0,false,none,true⟩,(Ent.trans (pC (b:=1) cZ k) (gT [1,2] (bG k2) (bW (cZ.plainE _) k<|bW (aX.plainO _) k<|aQ) k4)),k,⟨_,k,.inr ⟨(by simp),k,k⟩⟩,⟨k,k,aQ⟩⟩) λq2 h=>?_;refine aV 15 k q2<|lp k8<|oB h λv3 hv3 h=>ae (aS (aEt a0 v3 hv3) k (aL (eV k) aO)) k<|cm k4<|pk k3<|an<|tn<|cN k h (λ_ h=>sR<|ae (wl k) k<|ae (wl k) k<|aa k k<|aa k k<|aT k2<|aI (t:=mN [(2,.own 1 0 (([]:(List Rp)).length)),(3,.own 2 0 (([]:(List Mt)).length)),(4,.bl false)] [(1,⟨6,List.map (ow eR) ([]:(List Rp))⟩),(2,⟨3,List.map (ow eM) ([]:(List Mt))⟩)] 3 ⟨0,false,none,true⟩) (bP (gH ⟨_,k,⟨k,k,(by simp only [aH,lA,lT,lR,lC,lN]),k⟩⟩ (gH ⟨_,k,⟨k,k,(by simp only [aH,lA,lT,lR,lC,lN]),k⟩⟩ (bG k2))) (bW (cZ.plainO _) k<|bW (aX.plainO _) k<|aQ) k4)<|aE<|aC<|sp h ⟨mN [(2,.own 0 0 (([]:(List Rp)).length)),(3,.own 1 0 (([]:(List Mt)).length)),(4,.bl false)] [(0,⟨6,List.map eR ([]:(List Rp))⟩),(1,⟨3,List.map (ow eM) ([]:(List Mt))⟩)] 2 ⟨0,false,none,true⟩,(Ent.trans (pC (b:=1) cZ k) (gT [1,2] (bG k2) (bW (cZ.plainE _) k<|bW (aX.plainO _) k<|aQ) k4)),k,⟨_,k,.inr ⟨(by simp),k,k⟩⟩,⟨k,k,aQ⟩⟩) λ_ h=>?_;refine aG<|tn<|sR<|lp k8<|oB h λv5 hv5 h=>ae (aCN (σ:=sg []) (σ':=sg [(1,0),(2,1)]) (touch:=[]) (news:=[1,2]) (hl2:=[(1,⟨6,v5.1.map eR⟩),(2,⟨1,v5.2.1.map (dQ 3 eM)⟩)]) (n':=3) (r2:= .tuple [.own 1 0 v5.1.length,.own 2 0 v5.2.1.length,.bl v5.2.2]) (aEQ 9 a0 v5 hv5) k k ⟨_,_,k,(.inl ⟨_,_,k,k,⟨_,_,k,k,⟨_,_,k,⟨k,k⟩,⟨_,_,k,⟨k,k⟩,⟨_,_,k,⟨k,k⟩,⟨_,_,k,⟨k,k⟩,k⟩⟩⟩⟩⟩⟩),k⟩ aQ k k k ⟨⟨_,k,k,.inl ⟨k,cZ.plainE _⟩⟩,k,⟨_,k,k,.inl ⟨k,cB.plainE _⟩⟩,k,aQ⟩ k (.inr ⟨_,_,k,k,⟨_,_,k,⟨k,k,(by simp only [aH,lA,lT,lR,lC,lN]),k⟩,⟨_,_,k,⟨k,k,(by simp only [aH,lA,lT,lR,lC,lN]),k⟩,⟨_,_,k,k,k⟩⟩⟩⟩) k ⟨k,cZ.tamdE _ _,⟨k,cB.tamdE _ _,aQ⟩⟩ k k) k<|am k k<|ae (bA k k (by intro _ h;cases h)) k<|ae (bA k k (by intro _ h;cases h)) k<|ae (bA k k (by intro _ h;cases h)) k<|aa k k<|aa k k<|aT k2<|sQ<|sR<|am k k<|ae (dI k) k<|an<|tn<|cN k h (λ_ h=>sR<|ae (wl k) k<|ae (wl k) k<|aa k k<|aa k k<|aT k2<|aI (t:=mN [(2,.own 3 0 (([]:(List Rp)).length)),(3,.own 4 0 (([]:(List Mt)).length)),(4,.bl false)] [(3,⟨6,List.map (ow eR) ([]:(List Rp))⟩),(4,⟨3,List.map (ow eM) ([]:(List Mt))⟩)] 5 ⟨0,false,none,true⟩) (bP (gH ⟨_,k,⟨k,k,(by simp only [aH,lA,lT,lR,lC,lN]),k⟩⟩ (gH ⟨_,k,⟨k,k,(by simp only [aH,lA,lT,lR,lC,lN]),k⟩⟩ (bG k2))) (bW (cZ.plainO _) k<|bW (aX.plainO _) k<|aQ) k4)<|aE<|aC<|sp h ⟨mN [(2,.own 0 0 (([]:(List Rp)).length)),(3,.own 1 0 (([]:(List Mt)).length)),(4,.bl false)] [(0,⟨6,List.map eR ([]:(List Rp))⟩),(1,⟨3,List.map (ow eM) ([]:(List Mt))⟩)] 2 ⟨0,false,none,true⟩,(Ent.trans (pC (b:=3) cZ k) (gT [3,4] (bG k2) (bW (cZ.plainE _) k<|bW (aX.plainO _) k<|aQ) k4)),k,⟨_,k,.inr ⟨(by simp),k,k⟩⟩,⟨k,k,aQ⟩⟩) λ_ h=>?_;refine aG<|tn<|sR<|ae (wl k) k<|aT k2<|aI (t:=mN [(1,.ptr 0 0 0),(5,.own 1 0 v5.1.length),(6,.own 2 0 v5.2.1.length),(8,.own 3 0 (([]:(List Mt)).length))] [(0,⟨6,[eR a0]⟩),(1,⟨6,v5.1.map eR⟩),(2,⟨1,v5.2.1.map (dQ 3 eM)⟩),(3,⟨3,List.map (ow eM) ([]:(List Mt))⟩)] 4 ⟨0,false,none,true⟩) (bP (kT 3 k2 (gH ⟨_,k,⟨k,k,(by simp only [aH,lA,lT,lR,lC,lN]),k⟩⟩ aQ)) (bO k<|bW (cZ.plainE _) k<|bW (cB.plainE _) k<|bW (aX.plainO _) k<|aQ) k4)<|sQ<|sR<|aT k2<|aD<|oB h λy16 hy16 h=>cC (body:=(oX a0 v5)) hy16 (λ(x1:((List Mt)×Int))=>mN [(1,.ptr 0 0 0),(5,.own 1 0 v5.1.length),(6,.own 2 0 v5.2.1.length),(8,.own 3 0 x1.1.length),(9,.int x1.2)] [(0,⟨6,[eR a0]⟩),(1,⟨6,v5.1.map eR⟩),(2,⟨1,v5.2.1.map (dQ 3 eM)⟩),(3,⟨3,x1.1.map (ow eM)⟩)] 4 ⟨0,false,none,true⟩) (λr e t=>e= .exit 0∧Ent t (mN [(5,.own 0 0 v5.1.length),(8,.own 1 0 r.length)] [(0,⟨6,v5.1.map eR⟩),(1,⟨3,r.map (ow eM)⟩)] 2 ⟨0,false,none,true⟩)) (bP (bG k2) (bO k<|bW (cZ.plainE _) k<|bW (cB.plainE _) k<|bW (aX.plainO _) k<|aQ) k4) ?_ ?_
 ·intro x1 o h;refine sQ<|sR<|am k k<|fp k8<|lp k8<|ln k4<|cm k4<|an<|tn<|cN k h (λ_ h=>?_) λ_ h=>aY<|aB<|aB<|sp h ⟨_,k,k,(gT [1,3] (bG k2) (bW (cZ.plainE _) k<|bW (aX.plainO _) k<|aQ) k4)⟩;refine aG<|tn<|sQ<|aD<|sR<|fp k8<|lp k8<|am k k<|oB h λv8 hv8 h=>ae (xl hv8 k) k<|lr k7<|oB h λv9 hv9 h=>ae (cM (wV v8 0 v9 hv9) k3 (cJ k (cJ k aO))) k<|ae (bX aJ k k) k<|ae (ws k) k<|an<|tn<|sQ<|sR<|aT k2<|aD<|oB h λy14 hy14 h=>cC (body:=(oW v5 x1)) hy14 (λ(x2:(Int×Int×(List Int)×Int))=>mN [(1,.ptr 0 0 0),(5,.own 1 0 v5.1.length),(6,.own 2 0 v5.2.1.length),(8,.own 3 0 x1.1.length),(9,.int x1.2),(10,.ptr 4 0 0),(11,.int x2.2.2.2)] [(0,⟨6,[eR a0]⟩),(1,⟨6,v5.1.map eR⟩),(2,⟨1,v5.2.1.map (dQ 3 eM)⟩),(3,⟨3,x1.1.map (ow eM)⟩),(4,⟨3,[[.int x2.1,.int x2.2.1,.own 5 0 x2.2.2.1.length]]⟩),(5,⟨1,x2.2.2.1.map (ow eI)⟩)] 6 ⟨0,false,none,true⟩) (λr e t=>e= .exit 2∧Ent t (mN [(1,.ptr 0 0 0),(5,.own 1 0 v5.1.length),(6,.own 2 0 v5.2.1.length),(8,.own 3 0 x1.1.length),(9,.int x1.2),(10,.ptr 4 0 0)] [(0,⟨6,[eR a0]⟩),(1,⟨6,v5.1.map eR⟩),(2,⟨1,v5.2.1.map (dQ 3 eM)⟩),(3,⟨3,x1.1.map (ow eM)⟩),(4,⟨3,[[.int r.1,.int r.2.1,.own 5 0 r.2.2.length]]⟩),(5,⟨1,r.2.2.map (ow eI)⟩)] 6 ⟨0,false,none,true⟩)) (gT [0,1,2,3,5,4] (bG k2) (bO k<|bW (cZ.plainE _) k<|bW (cB.plainE _) k<|bW (aX.plainO _) k<|eJ k<|bN k<|aQ) k4) ?_ ?_
  ·intro x2 o h;exact sQ<|sR<|am k k<|am k k<|ae (dR aJ k k k k) k<|cm k4<|an<|tn<|cN k h (λ_ h=>aG<|tn<|sQ<|aD<|aP fB<|lp k8<|am k k<|am k k<|oB h λv11 hv11 h=>ae (xo hv11 k) k<|ae (wp hv11 k) k<|am k k<|oB h λv12 hv12 h=>ae (xl hv12 k) k<|lr k7<|oB h λv13 hv13 h=>ae (cM (aIO (⟨x2.1,x2.2.1,x2.2.2.1⟩:Mt) v12 v13 hv13) k3 (aL (vaM k2) (aL (eV k) aO))) k<|ae (ws k) k<|an<|lL (by kernel_rfl)<|bB<|tn<|rg<|am k k<|ae (bF k k) k<|aT k2<|sp h ⟨_,k,(gT [0,1,2,3,4,6] (bG k2) (bO k<|bW (cZ.plainE _) k<|bW (cB.plainE _) k<|bW (aX.plainO _) k<|eJ k<|bN k<|aQ) k4)⟩) λ_ h=>aY<|aB<|aB<|sp h ⟨_,k,k,(bP (bG k2) (bO k<|bW (cZ.plainE _) k<|bW (cB.plainE _) k<|bW (aX.plainO _) k<|eJ k<|bN k<|aQ) k4)⟩
  ·rintro e t ⟨rfl,hent⟩;exact aN<|tn<|aI hent<|rg<|am k k<|lp k8<|ae (wl k) k<|cG h λq15 h=>ae (fN aJ (l:=x1.1) (c:=[.int y14.1,.int y14.2.1,.own 5 0 y14.2.2.length]) q15 k k k k k k k k k k k k k k) k<|aa k k<|an<|bB<|tn<|aI (t:=mN [(1,.ptr 0 0 0),(5,.own 1 0 v5.1.length),(6,.own 2 0 v5.2.1.length),(8,.own 7 0 ((x1.1++[(⟨y14.1,y14.2.1,y14.2.2⟩:Mt)]).length)),(9,.int x1.2)] [(0,⟨6,[eR a0]⟩),(1,⟨6,v5.1.map eR⟩),(2,⟨1,v5.2.1.map (dQ 3 eM)⟩),(7,⟨3,List.map (ow eM) (x1.1++[(⟨y14.1,y14.2.1,y14.2.2⟩:Mt)])⟩)] 8 ⟨0,false,none,true⟩) (Ent.trans (dJ (b:=7) (b':=5) (j:=2) (es':=y14.2.2.map eI) k k k k (aH _ _) (cA.frzs _)) (bP (kT 3 k2 (gH ⟨_,k,⟨k,k,(by simp only [aH,lA,lT,lR,lC,lN]),k⟩⟩ (bG k2))) (bO k<|bW (cZ.plainE _) k<|bW (cB.plainE _) k<|hX ⟨_,k,k,.inl ⟨fV (⟨y14.1,y14.2.1,y14.2.2⟩:Mt) k,aX.plainO _⟩⟩ k<|aQ) k4))<|rg<|am k k<|ae (bF k k) k<|aT k2<|sp h ⟨_,k,(gT [0,1,2,7] (bG k2) (bO k<|bW (cZ.plainE _) k<|bW (cB.plainE _) k<|bW (aX.plainO _) k<|aQ) k4)⟩
 ·rintro e t ⟨rfl,hent⟩;exact aN<|tn<|aI hent<|sR<|am k k<|am k k<|aa k k<|aa k k<|aT k2<|aE<|sp h ⟨mN [(2,.own 0 0 v5.1.length),(3,.own 1 0 y16.length),(4,.bl true)] [(0,⟨6,v5.1.map eR⟩),(1,⟨3,y16.map (ow eM)⟩)] 2 ⟨0,false,none,true⟩,(bP (bG k2) (bW (cZ.plainE _) k<|bW (aX.plainO _) k<|aQ) k4),k,⟨_,k,.inr ⟨(by simp),k,k⟩⟩,⟨k,k,aQ⟩⟩
end
noncomputable section
theorem aPd (F G:Nat→Nat→Int) (i j:Nat): ∀ n,aCx F G i j n=sN (λt=>F i t*G t j) n
 |0=>rfl
 |n+1=>by simp only [aCx,sN,aPd F G i j n]
theorem pY (p:Int) (n:Nat) (F G:Nat→Nat→Int) (i j:Nat):iK p n F G i j=sN (λt=>F i t*G t j) n % p:=by unfold iK;rw [aPd]
theorem aUt (p x y:Int):(x % p*y) % p=(x*y) % p:=by rw [Int.mul_emod,Int.emod_emod_of_dvd _ (Int.dvd_refl p),←Int.mul_emod]
theorem aUu (p x y:Int):(x*(y % p)) % p=(x*y) % p:=by rw [Int.mul_emod,Int.emod_emod_of_dvd _ (Int.dvd_refl p),←Int.mul_emod]
theorem aPe {p:Int} {n:Nat} {F F' G:Nat→Nat→Int} {i j:Nat} (h: ∀ t,t<n→F i t=F' i t):iK p n F G i j=iK p n F' G i j:=by
 rw [pY,pY];rw [dA λt ht=>by rw [h t ht]]
theorem aPf {p:Int} {n:Nat} {F G G':Nat→Nat→Int} {i j:Nat} (h: ∀ t,t<n→G t j=G' t j):iK p n F G i j=iK p n F G' i j:=by
 rw [pY,pY];rw [dA λt ht=>by rw [h t ht]]
theorem aGU (p:Int) (m n:Nat) (F G H:Nat→Nat→Int) (i j:Nat):iK p m (iK p n F G) H i j=iK p n F (iK p m G H) i j:=by
 rw [pY,pY]
 have h1:sN (λt=>iK p n F G i t*H t j) m % p=sN (λt=>H t j*sN (λq=>F i q*G q t) n) m % p:=aMU λt _=>by
  rw [pY,aUt,Int.mul_comm]
 have h2:sN (λq=>F i q*iK p m G H q j) n % p=sN (λq=>F i q*sN (λt=>H t j*G q t) m) n % p:=aMU λq _=>by
  rw [pY,aUu];congr 2;exact dA λt _=>Int.mul_comm _ _
 rw [h1,h2];exact congrArg (· % p) (aAz (λt=>H t j) (F i) G n m)
theorem aQv {p:Int} {n:Nat} {F:Nat→Nat→Int} {i j:Nat} (hj:j<n) (h:0≤F i j∧F i j<p):iK p n F pF i j=F i j:=by
 rw [pY,aBW hj λt _ ht=>by simp only [pF];rw [aZ ht,Int.mul_zero]];rw [show pF j j=1 from aW rfl,Int.mul_one];exact Int.emod_eq_of_lt h.1 h.2
theorem aQw {p:Int} {n:Nat} {F:Nat→Nat→Int} {i j:Nat} (hi:i<n) (h:0≤F i j∧F i j<p):iK p n pF F i j=F i j:=by
 rw [pY,aBW hi λt _ ht=>by simp only [pF];rw [aZ (λe=>ht e.symm),Int.zero_mul]];rw [show pF i i=1 from aW rfl,Int.one_mul];exact Int.emod_eq_of_lt h.1 h.2
theorem aUv {p:Int} (hp:lP p=true) (r c:Nat):yT p r c pF:=λi j _ _=>by
 have:=eZ hp;unfold pF;split <;> omega
def wO (a b:Rp) (P:Nat→Nat→Nat→Int):List Mt:=(List.range a.dims.length).map λv=>(⟨dN b v,dN a v,bY (dN b v) (dN a v) (P v)⟩:Mt)
structure Mor (a b:Rp) (P:Nat→Nat→Nat→Int):Prop where
 inp: ∀ v,v<a.dims.length→yT a.p (dN b v) (dN a v) (P v)
 eq: ∀ i,i<a.q.src.length→ ∀ r k,r<dN b (tV a i)→k<dN a (sV a i)→iK a.p (dN b (sV a i)) (aF b i) (P (sV a i)) r k=iK a.p (dN a (tV a i)) (P (tV a i)) (aF a i) r k
theorem aUw {a:Rp} (h:Rv a):Mor a a (λ_=>pF):=by
 refine ⟨λv _=>aUv h.hp _ _,λi hi r k hr hk=>?_⟩;have hm:=(h.m i hi).2 r k hr hk;rw [aQv hk hm,aQw hr hm]
theorem aPg {a b c:Rp} (h1:Fit a b) {P Q:Nat→Nat→Nat→Int} (f:Mor a b P) (g:Mor b c Q):Mor a c (λv=>iK a.p (dN b v) (Q v) (P v)):=by
 refine ⟨λv _=>aGw h1.ra.hp _ _ _ _ _,λi hi r k hr hk=>?_⟩;have hib:i<b.q.src.length:=by rw [h1.qe];exact hi
 have ge:=g.eq i hib;rw [h1.sV,h1.tV,h1.pe] at ge;rw [←aGU,aPe λt ht=>ge r t hr ht,aGU,aPf λt ht=>f.eq i hi t k ht hk,←aGU]
theorem aXX {a:Rp} (h:Fit a a) (c:Nat):Mor a a (gM a a (coF a a c)):=⟨λv hv=>(aPS h c).inP hv,λi hi r k hr hk=>aWj h hi hr hk c⟩
section
variable {a b:Rp} (ha:bR a) (hb:bR b) (hf:aBN a b=true) {P:Nat→Nat→Nat→Int} (hm:Mor a b P)
include ha hb hf hm
theorem aQx:jO a b (wO a b P)=some true:=by
 have h:=aCM hf;have n5:=h.ra.n5;have hf':=hf;unfold aBN at hf';have hlen:(wO a b P).length=a.dims.length:=by simp [wO]
 unfold jO;rw [aJg ha hb,aA,hf',dW,aR,bH (by omega),dW,aR];rw [wL (n:=a.dims.length) (λ_=>true) false (by omega) (λv hv=>?_) (λ_=>?_),aA]
 ·rw [show (List.range a.dims.length).all (λ_=>true)=true by simp];rfl
 ·have hvb:v<b.dims.length:=by rw [h.ne];exact hv
  have d1:=(h.ra.d v hv);have d2:=(h.rb.d v hvb);have m4:=Nat.mul_le_mul d2.2 d1.2;unfold gV;rw [hlen,gA hv,aM];unfold wO;rw [oD hv,aA,aDU _ ⟨by unfold bI;simp only;rw [dZ];omega,trivial⟩,aMh h.ra.hp (by omega) (by omega) (hm.inp v hv),aA,dW,aR,aA,iN 0 hv,aA,d1.1,bH rfl,dW,aR,aA,iN 0 hvb,aA,d2.1,bH rfl];rfl
 ·unfold gV;rw [hlen,gN (bJ _),aR]
theorem aHR:fL a b (wO a b P)=some true:=by
 have h:=aCM hf;have e6:=h.ra.e6;unfold fL;rw [aQx ha hb hf hm,aA,dW,aR];rw [wL (n:=a.maps.length) (λ_=>true) false (by have:=h.ra.ml;omega) (λi hi=>?_) (λ_=>?_),aA]
 ·rw [show (List.range a.maps.length).all (λ_=>true)=true by simp];rfl
 ·have hi':i<a.q.src.length:=by have:=h.ra.ml;omega
  have hib:i<b.q.src.length:=by rw [h.qe];exact hi'
  obtain ⟨s1,s2⟩:=h.ra.s i hi';obtain ⟨t1,t2⟩:=h.ra.t i hi';have s3:sV a i<b.dims.length:=by rw [h.ne];exact s2
  have t3:tV a i<b.dims.length:=by rw [h.ne];exact t2
  obtain ⟨m1,m2⟩:=h.ra.m i hi';obtain ⟨g1,g2⟩:=h.rb.m i hib;rw [h.sV,h.tV] at g1 g2;rw [h.pe] at g2;have da:=h.ra.d _ s2;have da2:=h.ra.d _ t2;have db:=h.rb.d _ s3;have db2:=h.rb.d _ t3
  have e:bY (dN b (tV a i)) (dN a (sV a i)) (iK a.p (dN b (sV a i)) (aF b i) (P (sV a i)))=bY (dN b (tV a i)) (dN a (sV a i)) (iK a.p (dN a (tV a i)) (P (tV a i)) (aF a i)):=
   cH λr k hr hk=>hm.eq i hi' r k hr hk
  have m4:=Nat.mul_le_mul db2.2 da.2;unfold iD;rw [gA hi,aM];unfold wO;rw [iN ⟨0,0,[]⟩ (by rw [h.rb.ml];exact hib),aA,g1,iN 0 hi',aA,s1,oD s2,aA,nY h.ra.hp (sq db2.2 db.2) (sq db.2 da.2) (sq db2.2 da.2) (by omega) (by omega) (by omega) g2 (hm.inp _ s2),aA,iN 0 (by have:=h.ra.tl;omega),aA,t1,oD t2,aA,iN ⟨0,0,[]⟩ hi,aA,m1,nY h.ra.hp (sq db2.2 da2.2) (sq da2.2 da.2) (sq db2.2 da.2) (by omega) (by omega) (by omega) (hm.inp _ t2) m2,aA,e,aMg (by unfold bI;simp only;rw [dZ];omega),aA];rfl
 ·unfold iD;rw [gN (bJ _),aR]
end
theorem aAT {a b:Rp} {P:Nat→Nat→Nat→Int} {v:Nat} (h:v<a.dims.length):cY (wO a b P) (v:Int)=some ⟨dN b v,dN a v,bY (dN b v) (dN a v) (P v)⟩:=oD h
theorem sJ (a b:Rp) (P:Nat→Nat→Nat→Int):(wO a b P).length=a.dims.length:=by simp [wO]
section
variable {a b c:Rp} (h1:Fit a b) (h2:Fit b c) {P Q:Nat→Nat→Nat→Int} (f:Mor a b P) (g:Mor b c Q)
include h1 h2 f g
theorem aQy:nG a.p (wO a b P) (wO b c Q)=some (wO a c λv=>iK a.p (dN b v) (Q v) (P v)):=by
 have n5:=h1.ra.n5;unfold nG;rw [cO (s:=(([]:List Mt),(0:Int))) (r:=wO a c λv=>iK a.p (dN b v) (Q v) (P v)) (λk=>((List.range k).map λv=>(⟨dN c v,dN a v,bY (dN c v) (dN a v) (iK a.p (dN b v) (Q v) (P v))⟩:Mt),(k:Int))) a.dims.length rfl (λv hv=>?_) (λ_=>?_),aA]
 ·have hvb:v<b.dims.length:=by rw [h1.ne];exact hv
  have hvc:v<c.dims.length:=by rw [h2.ne];exact hvb
  have d1:=(h1.ra.d v hv).2;have d2:=(h1.rb.d v hvb).2;have d3:=(h2.rb.d v hvc).2;have gi:=g.inp v hvb;rw [h1.pe] at gi;unfold sC;simp only;rw [sJ,gA hv,aM,aAT hv,aA,aAT hvb,aA,aGx h1.ra.hp (sq d3 d2) (sq d2 d1) (sq d3 d1) (by omega) (by omega) (by omega) gi (f.inp v hv),aA,bH (by simp;omega),aM,bZ hv (by omega)];congr 3;exact jZ (f:=λv=>(⟨dN c v,dN a v,bY (dN c v) (dN a v) (iK a.p (dN b v) (Q v) (P v))⟩:Mt))
 ·unfold sC;simp only;rw [sJ,gN (bJ _),aR];rfl
theorem aQz (ha:bR a) (hb:bR b) (hc:bR c) (f1:aBN a b=true) (f2:aBN b c=true):gI a b c (wO a b P) (wO b c Q)=some (wO a c (λv=>iK a.p (dN b v) (Q v) (P v)),true):=by
 have n5:=h1.ra.n5;unfold gI;rw [aHR ha hb f1 f,aA,dW,aR,aHR hb hc f2 g,aA,dW,aR];rw [cO (s:=(([]:List Mt),(0:Int))) (r:=wO a c λv=>iK a.p (dN b v) (Q v) (P v)) (λk=>((List.range k).map λv=>(⟨dN c v,dN a v,bY (dN c v) (dN a v) (iK a.p (dN b v) (Q v) (P v))⟩:Mt),(k:Int))) a.dims.length rfl (λv hv=>?_) (λ_=>?_),aA]
 ·have hvb:v<b.dims.length:=by rw [h1.ne];exact hv
  have hvc:v<c.dims.length:=by rw [h2.ne];exact hvb
  have d1:=(h1.ra.d v hv).2;have d2:=(h1.rb.d v hvb).2;have d3:=(h2.rb.d v hvc).2;have gi:=g.inp v hvb;rw [h1.pe] at gi;unfold iY;simp only;rw [sJ,gA hv,aM,aAT hvb,aA,aAT hv,aA,nY h1.ra.hp (sq d3 d2) (sq d2 d1) (sq d3 d1) (by omega) (by omega) (by omega) gi (f.inp v hv),aA,bH (by simp;omega),aM,bZ hv (by omega)];congr 3;exact jZ (f:=λv=>(⟨dN c v,dN a v,bY (dN c v) (dN a v) (iK a.p (dN b v) (Q v) (P v))⟩:Mt))
 ·unfold iY;simp only;rw [sJ,gN (bJ _),aR];rfl
end
theorem aUx {a:Rp} (h:Rv a):uD a.dims=some (wO a a λ_=>pF):=by
 have n5:=h.n5;unfold uD;rw [cO (s:=(([]:List Mt),(0:Int))) (r:=wO a a λ_=>pF) (λk=>((List.range k).map λv=>(⟨dN a v,dN a v,bY (dN a v) (dN a v) pF⟩:Mt),(k:Int))) a.dims.length rfl (λv hv=>?_) (λ_=>?_),aA]
 ·have d1:=h.d v hv;unfold oO;simp only;rw [gA hv,aM,iN 0 hv,aA,d1.1,aKa (sq d1.2 d1.2) (by omega),aA,bH (by simp;omega),aM,bZ hv (by omega)];congr 3;exact jZ (f:=λv=>(⟨dN a v,dN a v,bY (dN a v) (dN a v) pF⟩:Mt))
 ·unfold oO;simp only;rw [gN (bJ _),aR];rfl
theorem aWN {a:Rp} (ha:bR a) (hv:wY a=true):kG a=some (wO a a (λ_=>pF),true):=by
 have h:=aEo hv;have n5:=h.n5;unfold kG;rw [cO (s:=(([]:List Mt),(0:Int))) (r:=wO a a λ_=>pF) (λk=>((List.range k).map λv=>(⟨dN a v,dN a v,bY (dN a v) (dN a v) pF⟩:Mt),(k:Int))) a.dims.length rfl (λv hv'=>?_) (λ_=>?_),aA,aAh ha,hv]
 ·rfl
 ·have d1:=h.d v hv';unfold iX;simp only;rw [gA hv',aM,aAh ha,hv,aA,aM,iN 0 hv',aA,d1.1,aGv (sq d1.2 d1.2) (by omega),aA,bH (by simp;omega),aM,bZ hv' (by omega)];congr 3;exact jZ (f:=λv=>(⟨dN a v,dN a v,bY (dN a v) (dN a v) pF⟩:Mt))
 ·unfold iX;simp only;rw [gN (bJ _),aR];rfl
end
noncomputable section
theorem aRz (n:Nat) (f x:Nat→Int):dt n f x=dt n x f:=dA λk _=>Int.mul_comm _ _
theorem aCT {p:Int} (hp:lP p=true) {n:Nat} {l:List (List Int)} (hl:yT p l.length n (cI l)) (x:Nat→Int):Kr p (fZ p n l).length n (cI (fZ p n l)) x↔Kr p l.length n (cI l) x:=by
 have hr:=aCB hp hl n (bJ _);have hk:=aBo hp hl x n (bJ _);have hm:=hr.len;rw [←hk];unfold fZ;rw [qZ];have e: ∀ i,i<(cD p l.length (cI l) n).2.length→dt n (cI (gO (cD p l.length (cI l) n).1 (cD p l.length (cI l) n).2.length n) i) x=dt n ((cD p l.length (cI l) n).1 i) x:=λi hi=>dA λj hj=>by rw [aGB _ _ _ _ _ hi hj]
 constructor
 ·intro h i hi;rcases eO i (cD p l.length (cI l) n).2.length with h'|h'
  ·rw [←e i h'];exact h i h'
  ·have e0:dt n ((cD p l.length (cI l) n).1 i) x=0:=by
    unfold dt;rw [dA (g:=λ_=>0) (λk hk=>by rw [hr.low i k h' hi hk];simp),aAs]
   rw [e0];unfold Z0;simp
 ·intro h i hi;rw [e i hi];exact h i (by omega)
theorem aSA {p:Int} {m n:Nat} {R:Nat→Nat→Int} {L:List Nat} (h:Red m n R L) {x:Nat→Int} (hx: ∀ k,k<n→(∀ i,i<L.length→L[i]?.getD 0≠k)→Z0 p (dt n x (kx R L k))): ∀ k,k<n→x k % p=sN (λi=>x (L[i]?.getD 0)*R i k) L.length % p:=by
 intro k hk;by_cases hf: ∀ i,i<L.length→L[i]?.getD 0≠k
 ·have h1:=hx k hk hf;rw [aMV h hk hf x] at h1;exact Int.emod_eq_emod_iff_emod_sub_eq_zero.2 h1
 ·obtain ⟨j,hj,e⟩: ∃ j,j<L.length∧L[j]?.getD 0=k:=Classical.byContradiction λhn=>hf λi hi e=>hn ⟨i,hi,e⟩;have hm:=h.len
  rw [aBW (j:=j) hj λi hi hne=>by
   have:=h.col j i hj (by omega) hne;rw [e] at this
   rw [this,Int.mul_zero]]
  have:=h.one j hj;rw [e] at this;rw [this,e,Int.mul_one]
theorem aTD {p:Int} {n:Nat} {F:Nat→Nat→Int} {L:List Nat} {k:Nat} (hk:k<n) (hL: ∀ i,i<L.length→L[i]?.getD 0≠k):aEd p n F L k L.length∈aER p n F L:=by
 unfold aER;refine List.mem_map.2 ⟨k,List.mem_filter.2 ⟨List.mem_range.2 hk,?_⟩,rfl⟩
 have:k ∉ L:=λh=>by
  obtain ⟨i,hi,e⟩:=List.getElem_of_mem h;exact hL i hi (by rw [iC hi];exact e)
 simpa using this
theorem aHS {p:Int} {n:Nat} {l:List (List Int)} {x:Nat→Int} (h:Kr p l.length n (cI l) x) {w:List Int} (hw:w∈l):Z0 p (dt n (vAt w) x):=by
 obtain ⟨i,hi,rfl⟩:=List.getElem_of_mem hw;rw [aHJ hi];exact h i hi
theorem aRA {p:Int} {n:Nat} {l:List (List Int)} {x:Nat→Int} (h: ∀ w∈l,Z0 p (dt n (vAt w) x)):Kr p l.length n (cI l) x:=λi hi=>by
 rw [←aHJ hi];exact h _ (List.getElem_mem hi)
theorem aUy {p:Int} (hp:lP p=true) {m n:Nat} {F:Nat→Nat→Int} (hi:yT p m n F) {x:Nat→Int} (hx: ∀ w∈aER p n (cD p m F n).1 (cD p m F n).2,Z0 p (dt n (vAt w) x)) {y:Nat→Int} (hy:Kr p m n F y):Z0 p (dt n y x):=by
 have hR:=aCB hp hi n (bJ _);have hm:=hR.len;have hyR:=(aBo hp hi y n (bJ _)).2 hy;generalize (cD p m F n).1=R at hR hx hyR;generalize (cD p m F n).2=L at hR hx hm
 have hrow:=aSA (p:=p) hR (x:=x) λk hk hL=>by
  have h1:=hx _ (aTD (p:=p) (F:=R) hk hL);rw [aRz] at h1;refine aBL (aFP λc hc=>?_) h1;exact (aNh hR hk hL _ (bJ _) c hc)
 have e1:dt n y x % p=dt n y (λk=>sN (λi=>x (L[i]?.getD 0)*R i k) L.length) % p:=aFP hrow
 have e2:dt n y (λk=>sN (λi=>x (L[i]?.getD 0)*R i k) L.length)=sN (λi=>x (L[i]?.getD 0)*dt n (R i) y) L.length:=by
  unfold dt;rw [aAz y (λi=>x (L[i]?.getD 0)) (λi k=>R i k) L.length n];refine dA λi _=>?_;congr 1;exact dA λk _=>Int.mul_comm _ _
 unfold Z0;rw [e1,e2];exact aMl λi hi'=>aCy _ (hyR i (by omega))
def adj (r:Nat) (F:Nat→Nat→Int) (x:Nat→Int):Nat→Int:=λk=>sN (λi=>x i*F i k) r
theorem aNu {p:Int} (r c:Nat) (F:Nat→Nat→Int) (w:List Int) (x:Nat→Int):dt r (vAt (aLI p r c F w)) x % p=dt c (vAt w) (adj r F x) % p:=by
 have e1:dt r (vAt (aLI p r c F w)) x % p=dt r (λi=>sN (λt=>F i t*vAt w t) c) x % p:=aKj λi hi=>by
  unfold aLI;rw [aRt hi,pY,Int.emod_emod_of_dvd _ (Int.dvd_refl p)];rfl
 rw [e1];congr 1;unfold dt adj;rw [aAz (vAt w) x (λi k=>F i k) r c];refine dA λi _=>?_;rw [Int.mul_comm];congr 1;exact dA λk _=>Int.mul_comm _ _
theorem aUz {p:Int} {r c:Nat} {F:Nat→Nat→Int} {l:List (List Int)} {x:Nat→Int} :Kr p (imL p r c F l).length r (cI (imL p r c F l)) x↔Kr p l.length c (cI l) (adj r F x):=by
 constructor
 ·intro h;refine aRA λw hw=>?_;have:=aHS h (List.mem_map.2 ⟨w,hw,rfl⟩);exact aBL (aNu r c F w x) this
 ·intro h;refine aRA λu hu=>?_;obtain ⟨w,hw,rfl⟩:=List.mem_map.1 hu;exact aBL (aNu r c F w x).symm (aHS h hw)
def aNv (p:Int) (d:Nat) (F:Nat→Nat→Int):Nat→Nat→Nat→Int
 |0=>pF
 |k+1=>iK p d (aNv p d F k) F
theorem aSB {p:Int} (hp:lP p=true) (d:Nat) (F:Nat→Nat→Int): ∀ k,yT p d d (aNv p d F k)
 |0=>aWE hp d d
 |k+1=>aGw hp _ _ _ _ _
theorem aTE {p:Int} (hp:lP p=true) {d:Nat} (hd:d≤4) {F:Nat→Nat→Int} (hF:yT p d d F) {n:Nat} (hn:n≤100):uY p ⟨d,d,bY d d F⟩ (n:Int)=some ⟨d,d,bY d d (aNv p d F n)⟩:=by
 unfold uY;rw [aKa (sq hd hd) (by omega),aA];rw [cO (s:=((d:Int),(d:Int),bY d d pF,(0:Int))) (r:=((d:Int),(d:Int),bY d d (aNv p d F n))) (λk=>((d:Int),(d:Int),bY d d (aNv p d F k),(k:Int))) n rfl (λk hk=>?_) (λ_=>?_),aA]
 ·unfold uC;simp only;rw [gA hk,aM,aGx hp (sq hd hd) (sq hd hd) (sq hd hd) (by omega) (by omega) (by omega) (aSB hp d F k) hF,aA,bZ hk (by omega)];rfl
 ·unfold uC;simp only;rw [gN (bJ _),aR]
theorem aTF {p:Int} (hp:lP p=true) {d:Nat} (hd:d≤4) {F:Nat→Nat→Int} (hF:yT p d d F) {n:Nat} (hn:n≤100):uZ p ⟨d,d,bY d d F⟩ (n:Int)=some ⟨d,d,bY d d (aNv p d F n)⟩:=by
 unfold uZ;rw [aGv (sq hd hd) (by omega),aA];rw [cO (s:=((d:Int),(d:Int),bY d d pF,(0:Int))) (r:=((d:Int),(d:Int),bY d d (aNv p d F n))) (λk=>((d:Int),(d:Int),bY d d (aNv p d F k),(k:Int))) n rfl (λk hk=>?_) (λ_=>?_),aA]
 ·unfold uE;simp only;rw [gA hk,aM,nY hp (sq hd hd) (sq hd hd) (sq hd hd) (by omega) (by omega) (by omega) (aSB hp d F k) hF,aA,bZ hk (by omega)];rfl
 ·unfold uE;simp only;rw [gN (bJ _),aR]
def aYP (a:Rp) (P:Nat→Nat→Nat→Int) (n:Nat):Nat→Nat→Nat→Int:=λv=>aNv a.p (dN a v) (P v) n
theorem aSC {a:Rp} (h:Fit a a) {P:Nat→Nat→Nat→Int} (m:Mor a a P): ∀ n,Mor a a (aYP a P n)
 |0=>aUw h.ra
 |n+1=>aPg h m (aSC h m n)
theorem aLP {p:Int} (hp:lP p=true) (n:Nat) (F:Nat→Nat→Int) (L:List Nat):VecsP p n (aER p n F L):=λv hv=>by
 obtain ⟨k,_,rfl⟩:=List.mem_map.1 hv;exact ⟨aCC p n F L k _,aNH hp n F L k _⟩
def krL (a:Rp) (P:Nat→Nat→Nat→Int) (v:Nat):List (List Int):=aER a.p (dN a v) (cD a.p (dN a v) (P v) (dN a v)).1 (cD a.p (dN a v) (P v) (dN a v)).2
def krS (a:Rp) (P:Nat→Nat→Nat→Int) (v:Nat):Sc:=⟨dN a v,fZ a.p (dN a v) (krL a P v)⟩
def iSc (a:Rp) (P:Nat→Nat→Nat→Int) (v:Nat):Sc:=⟨dN a v,fZ a.p (dN a v) (aAl (dN a v) (dN a v) (P v))⟩
def aBZ (a:Rp) (P:Nat→Nat→Nat→Int):List Sc:=(List.range a.dims.length).map (krS a P)
def aBa (a:Rp) (P:Nat→Nat→Nat→Int):List Sc:=(List.range a.dims.length).map (iSc a P)
theorem aLQ {a:Rp} (hp:lP a.p=true) (P:Nat→Nat→Nat→Int) (v:Nat):VecsP a.p (dN a v) (krL a P v):=aLP hp _ _ _
theorem aEH {a:Rp} {P:Nat→Nat→Nat→Int} {v:Nat} (hv:v<a.dims.length):sG (aBZ a P) v=krS a P v:=by
 unfold sG aBZ;simp [hv]
theorem aEI {a:Rp} {P:Nat→Nat→Nat→Int} {v:Nat} (hv:v<a.dims.length):sG (aBa a P) v=iSc a P v:=by
 unfold sG aBa;simp [hv]
section
variable {a:Rp} (h:Fit a a) {P:Nat→Nat→Nat→Int} (m:Mor a a P)
include h m
theorem aNw {v:Nat} (hv:v<a.dims.length):(krL a P v).length=dN a v - rkF a.p (dN a v) (dN a v) (P v):=aKn h.ra.hp (m.inp v hv)
theorem tbP {v:Nat} (hv:v<a.dims.length):Tb a.p (dN a v) (dN a v) (P v):=by
 have d:=(h.ra.d v hv).2;exact ⟨h.ra.hp,sq d d,by omega,by omega,m.inp v hv⟩
theorem aPh:wG a.p (wO a a P)=some (aBZ a P):=by
 have n5:=h.ra.n5;unfold wG;rw [cO (s:=(([]:List Sc),(0:Int))) (r:=aBZ a P) (λk=>((List.range k).map (krS a P),(k:Int))) a.dims.length rfl (λv hv=>?_) (λ_=>?_),aA]
 ·have d:=(h.ra.d v hv).2;have hk:=aNw h m hv;unfold pU;simp only;rw [sJ,gA hv,aM,aAT hv,aA,aHI (tbP h m hv),aA,aLD h.ra.hp (by omega) (by unfold krL at hk;omega) (aLP h.ra.hp _ _ _),aA,bH (by simp;omega),aM,bZ hv (by omega)];congr 3;exact jZ (f:=krS a P)
 ·unfold pU;simp only;rw [sJ,gN (bJ _),aR];rfl
theorem aRB:yB a.p (wO a a P)=some (aBa a P):=by
 have n5:=h.ra.n5;unfold yB;rw [cO (s:=(([]:List Sc),(0:Int))) (r:=aBa a P) (λk=>((List.range k).map (iSc a P),(k:Int))) a.dims.length rfl (λv hv=>?_) (λ_=>?_),aA]
 ·have d:=(h.ra.d v hv).2;unfold rQ;simp only;rw [sJ,gA hv,aM,aAT hv,aA,aIH (sq d d) (by omega) (by omega),aA,aLD h.ra.hp (by omega) (by simp [aAl];omega) (aFQ (m.inp v hv)),aA,bH (by simp;omega),aM,bZ hv (by omega)];congr 3;exact jZ (f:=iSc a P)
 ·unfold rQ;simp only;rw [sJ,gN (bJ _),aR];rfl
theorem aPi (ha:bR a) (hf:aBN a a=true):wI a a (wO a a P)=some (aBZ a P,true):=by
 have n5:=h.ra.n5;unfold wI;rw [aHR ha ha hf m,aA,dW,aR];rw [cO (s:=(([]:List Sc),(0:Int))) (r:=aBZ a P) (λk=>((List.range k).map (krS a P),(k:Int))) a.dims.length rfl (λv hv=>?_) (λ_=>?_),aA]
 ·have d:=h.ra.d v hv;have hk:=aNw h m hv;unfold pX;simp only;rw [sJ,gA hv,aM,iN 0 hv,aA,d.1,aAT hv,aA,aGL (tbP h m hv),aA,aHK h.ra.hp (by omega) (by unfold krL at hk;omega) (aLP h.ra.hp _ _ _),aA,bH (by simp;omega),aM,bZ hv (by omega)];congr 3;exact jZ (f:=krS a P)
 ·unfold pX;simp only;rw [sJ,gN (bJ _),aR];rfl
theorem aRC (ha:bR a) (hf:aBN a a=true):yP a a (wO a a P)=some (aBa a P,true):=by
 have n5:=h.ra.n5;unfold yP;rw [aHR ha ha hf m,aA,dW,aR];rw [cO (s:=(([]:List Sc),(0:Int))) (r:=aBa a P) (λk=>((List.range k).map (iSc a P),(k:Int))) a.dims.length rfl (λv hv=>?_) (λ_=>?_),aA]
 ·have d:=h.ra.d v hv;have hL:= @aAc a.p (dN a v) (P v) (dN a v);unfold sE;simp only;rw [sJ,gA hv,aM,iN 0 hv,aA,d.1,aAT hv,aA,aSz (tbP h m hv),aA,aHK h.ra.hp (by omega) (by simp [uX];omega) (aPY (m.inp v hv) λk hk=>aDK _ k hk),aA,bH (by simp;omega),aM,bZ hv (by omega)];congr 3;have e:=jZ (f:=iSc a P) (k:=v);rw [←e];unfold iSc;rw [aMm h.ra.hp (m.inp v hv)]
 ·unfold sE;simp only;rw [sJ,gN (bJ _),aR];rfl
theorem aWO (hr:wY a=true):aII a (aBZ a P)=true:=by
 have hp:=h.ra.hp;unfold aII;rw [hr,bH (by simp [aBZ])];simp only [Bool.true_and,dD];constructor
 ·refine List.all_eq_true.2 λv hv=>?_;have hv:v<a.dims.length:=by have:=List.mem_range.1 hv;simpa [aBZ] using this
  have d:=h.ra.d v hv;unfold spB;rw [aEH hv,d.1];unfold krS;simp only;rw [aGD hp (by omega) (aLQ hp P v)];simp
 ·refine List.all_eq_true.2 λi hi=>?_;have hi:i<a.q.src.length:=by have:=List.mem_range.1 hi;have:=h.ra.ml;omega
  obtain ⟨_,s2⟩:=h.ra.s i hi;obtain ⟨_,t2⟩:=h.ra.t i hi;have ds:=(h.ra.d _ s2).2;have dt':=(h.ra.d _ t2).2;unfold imB inV;rw [aEH s2,aEH t2];unfold krS;simp only;have hv1:VecsP a.p (dN a (tV a i)) (imL a.p (dN a (tV a i)) (dN a (sV a i)) (aF a i) (fZ a.p (dN a (sV a i)) (krL a P (sV a i)))):=aHO hp _ _ _ _;have hk:=aLQ hp P (tV a i);have hks:=aLQ hp P (sV a i);refine bH ((aGS hp (aAd hp hv1.inP) (aAd hp hk.inP) (aHj hp hk.inP)).2 λx hx=>?_);rw [aCT hp hv1.inP,aUz,aCT hp hks.inP];have hx':=(aCT hp hk.inP x).1 hx;refine aRA λw hw=>?_;refine aBL (aNu (dN a (tV a i)) (dN a (sV a i)) (aF a i) w x) ?_;refine aUy hp (m.inp _ t2) (λu hu=>aHS hx' hu) ?_;have hw2:=aUY hp (m.inp _ s2) hw;intro r hr
  have e1:dt (dN a (tV a i)) (P (tV a i) r) (vAt (aLI a.p (dN a (tV a i)) (dN a (sV a i)) (aF a i) w)) % a.p=dt (dN a (sV a i)) (vAt w) (adj (dN a (tV a i)) (aF a i) (P (tV a i) r)) % a.p:=by
   rw [aRz];exact aNu _ _ _ _ _
  have e2:dt (dN a (sV a i)) (vAt w) (adj (dN a (tV a i)) (aF a i) (P (tV a i) r)) % a.p=dt (dN a (sV a i)) (vAt w) (λk=>sN (λj=>aF a i r j*P (sV a i) j k) (dN a (sV a i))) % a.p:=by
   refine aFP λk hk'=>?_;have:=m.eq i hi r k hr hk';rw [pY,pY] at this;exact this.symm
  have e3:dt (dN a (sV a i)) (vAt w) (λk=>sN (λj=>aF a i r j*P (sV a i) j k) (dN a (sV a i)))=sN (λj=>aF a i r j*dt (dN a (sV a i)) (P (sV a i) j) (vAt w)) (dN a (sV a i)):=by
   unfold dt;rw [aAz (vAt w) (aF a i r) (λj k=>P (sV a i) j k) (dN a (sV a i)) (dN a (sV a i))];refine dA λj _=>?_;congr 1;exact dA λk _=>Int.mul_comm _ _
  unfold Z0;rw [e1,e2,e3];exact aMl λj hj=>aCy _ (hw2 j hj)
theorem aWP (hr:wY a=true):aII a (aBa a P)=true:=by
 have hp:=h.ra.hp;unfold aII;rw [hr,bH (by simp [aBa])];simp only [Bool.true_and,dD];constructor
 ·refine List.all_eq_true.2 λv hv=>?_;have hv:v<a.dims.length:=by have:=List.mem_range.1 hv;simpa [aBa] using this
  have d:=h.ra.d v hv;unfold spB;rw [aEI hv,d.1];unfold iSc;simp only;rw [aGD hp (by omega) (aFQ (m.inp v hv))];simp
 ·refine List.all_eq_true.2 λi hi=>?_;have hi:i<a.q.src.length:=by have:=List.mem_range.1 hi;have:=h.ra.ml;omega
  obtain ⟨_,s2⟩:=h.ra.s i hi;obtain ⟨_,t2⟩:=h.ra.t i hi;have ds:=(h.ra.d _ s2).2;have dt':=(h.ra.d _ t2).2;unfold imB inV;rw [aEI s2,aEI t2];unfold iSc;simp only;have hct:=aFQ (m.inp _ t2);have hcs:=aFQ (m.inp _ s2);have hv1:VecsP a.p (dN a (tV a i)) (imL a.p (dN a (tV a i)) (dN a (sV a i)) (aF a i) (fZ a.p (dN a (sV a i)) (aAl (dN a (sV a i)) (dN a (sV a i)) (P (sV a i))))):=aHO hp _ _ _ _;refine bH ((aGS hp (aAd hp hv1.inP) (aAd hp hct.inP) (aHj hp hct.inP)).2 λx hx=>?_);rw [aCT hp hv1.inP,aUz,aCT hp hcs.inP,aNr];have hx':=aNr.1 ((aCT hp hct.inP x).1 hx);intro k hk
  have e1:dt (dN a (sV a i)) (λj=>P (sV a i) j k) (adj (dN a (tV a i)) (aF a i) x)=dt (dN a (tV a i)) x (λr=>sN (λj=>aF a i r j*P (sV a i) j k) (dN a (sV a i))):=by
   unfold dt adj;rw [aAz (λj=>P (sV a i) j k) x (λr j=>aF a i r j) (dN a (tV a i)) (dN a (sV a i))];refine dA λr _=>?_;congr 1;exact dA λj _=>Int.mul_comm _ _
  have e2:dt (dN a (tV a i)) x (λr=>sN (λj=>aF a i r j*P (sV a i) j k) (dN a (sV a i))) % a.p=dt (dN a (tV a i)) x (λr=>sN (λj=>P (tV a i) r j*aF a i j k) (dN a (tV a i))) % a.p:=by
   refine aFP λr hr'=>?_;have:=m.eq i hi r k hr' hk;rw [pY,pY] at this;exact this
  have e3:dt (dN a (tV a i)) x (λr=>sN (λj=>P (tV a i) r j*aF a i j k) (dN a (tV a i)))=sN (λj=>aF a i j k*dt (dN a (tV a i)) (λr=>P (tV a i) r j) x) (dN a (tV a i)):=by
   unfold dt;rw [dA (g:=λr=>x r*sN (λj=>aF a i j k*P (tV a i) r j) (dN a (tV a i))) λr _=>by rw [dA λj _=>Int.mul_comm _ _],aAz x (λj=>aF a i j k) (λj r=>P (tV a i) r j) (dN a (tV a i)) (dN a (tV a i))];refine dA λj _=>?_;congr 1;exact dA λr _=>Int.mul_comm _ _
  unfold Z0;rw [e1,e2,e3];exact aMl λj hj=>aCy _ (hx' j hj)
end
end
noncomputable section
open Classical in
def ldL (x:Sc):List Nat:=if h: ∃ L:List Nat,L.length=x.basis.length∧Red x.basis.length x.size.toNat (cI x.basis) L then Classical.choose h else []
theorem aLR {L:List Nat} {k:Nat} (h:k<L.length):fF (L.take k)++[((L[k]?.getD 0:Nat):Int)]=fF (L.take (k+1)):=by
 unfold fF;rw [zL h,List.map_append,iC h];rfl
theorem aWQ {p:Int} {n:Nat} {x:Sc} {L:List Nat} (hn:n≤1024) (hl:x.basis.length≤1024) (hv:VecsP p n x.basis) (hL:L.length=x.basis.length) (hR:Red x.basis.length n (cI x.basis) L):mU x=some (fF L):=by
 unfold mU;rw [cO (r:=fF L) (λk=>(fF (L.take k),(k:Int))) x.basis.length (by rfl) (λk hk=>?_) (λ_=>?_)];rfl
 ·have hkL:k<L.length:=by omega
  have hlt:=hR.lt k hkL;have hlen:=(hv _ (jS (l:=x.basis) [] hk)).1;unfold jU;simp only;rw [gA hk,aM,iN [] hk,aA,aUp (k:=L[k]?.getD 0) (by unfold bI;omega) (by omega) (λj hj=>hR.left k j hkL hj) (by have:=hR.one k hkL;unfold cI at this;omega),aA,bH (by rw [dH,List.length_take];simp;omega),aM,bZ hk (by omega),aLR hkL]
 ·unfold jU;simp only;rw [gN (bJ _),aR,←hL,List.take_length]
theorem aVA {p:Int} {n:Nat} {x:Sc} {L:List Nat} (hn:n≤1024) (hl:x.basis.length≤1024) (hv:VecsP p n x.basis) (hL:L.length=x.basis.length) (hR:Red x.basis.length n (cI x.basis) L):aAM x=some (fF L):=by
 unfold aAM;rw [cO (r:=fF L) (λk=>(fF (L.take k),(k:Int))) x.basis.length (by rfl) (λk hk=>?_) (λ_=>?_)];rfl
 ·have hkL:k<L.length:=by omega
  have hlt:=hR.lt k hkL;have hlen:=(hv _ (jS (l:=x.basis) [] hk)).1;unfold uA;simp only;rw [gA hk,aM];rw [cO (r:=((L[k]?.getD 0:Nat):Int)) (λj=>(j:Int)) (L[k]?.getD 0) (by rfl) (λj hj=>?_) (λ_=>?_),aA,bH (by rw [dH,List.length_take];simp;omega),aM,bZ hk (by omega),aLR hkL]
  ·have h0:=hR.left k j hkL hj;unfold cI at h0;unfold tZ;simp only;rw [iN [] hk,aA,iN 0 (by omega),aA,h0,bH rfl,aM,bZ hj (by omega)]
  ·have h1:=hR.one k hkL;unfold cI at h1;unfold tZ;simp only;rw [iN [] hk,aA,iN 0 (by omega),aA,h1];rfl
 ·unfold uA;simp only;rw [gN (bJ _),aR,←hL,List.take_length]
theorem aMo {L:List Nat} {i:Nat} (h:i<L.length):(fF L)[i]?.getD 0=((L[i]?.getD 0:Nat):Int):=by simp [fF,h]
structure Pt (r:Rp) (s:List Sc):Prop where
 R:Rv r
 sub:aII r s=true
 len:s.length=r.dims.length
 v: ∀ v,v<r.dims.length→SpV r s v
 b: ∀ x∈s,bS x
theorem aIP {s:List Sc} {v:Nat} (h:v<s.length):s[v]=sG s v:=by unfold sG;rw [iC h,jP]
theorem aWn {r:Rp} {s:List Sc} (h:aII r s=true):Pt r s:=by
 obtain ⟨R,hl,hv⟩:=aQu h;refine ⟨R,h,hl,hv,λx hx=>?_⟩;obtain ⟨v,hv',rfl⟩:=List.getElem_of_mem hx;have V:=hv v (by omega);have d:=(R.d v (by omega)).2;have l:=V.len;rw [aIP hv'];exact ⟨⟨by omega,λw hw=>by unfold bI;rw [(V.vecs w hw).1];omega⟩,trivial⟩
def kN (s:List Sc) (v:Nat):Nat:=(sG s v).basis.length
theorem aGV {r:Rp} {s:List Sc} (T:Pt r s) {v:Nat} (hv:v<r.dims.length):(ldL (sG s v)).length=kN s v∧Red (kN s v) (dN r v) (cI (sG s v).basis) (ldL (sG s v)):=by
 have V:=T.v v hv;have h:=aMn T.R.hp V.vecs V.span;have e:(sG s v).size.toNat=dN r v:=by rw [V.size];rfl
 have h': ∃ L:List Nat,L.length=(sG s v).basis.length∧Red (sG s v).basis.length (sG s v).size.toNat (cI (sG s v).basis) L:=by rw [e];exact h
 unfold ldL;rw [dif_pos h'];have:=Classical.choose_spec h';generalize Classical.choose h'=L at this ⊢;rw [e] at this;exact this
def ldN (s:List Sc) (v j:Nat):Nat:=(ldL (sG s v))[j]?.getD 0
theorem aWo {r:Rp} {s:List Sc} (T:Pt r s) {v j:Nat} (hv:v<r.dims.length) (hj:j<kN s v):ldN s v j<dN r v:=(aGV T hv).2.lt j (by rw [(aGV T hv).1];exact hj)
theorem pD (s:List Sc):(eP s).length=s.length:=by simp [eP]
theorem aDB {α:Type} (n k:Nat) (f:Nat→α) (v:α):((List.range n).map f).set k v=(List.range n).map λi=>if i=k then v else f i:=by
 refine List.ext_getElem (by simp) λt h1 h2=>?_;rw [List.getElem_set,List.getElem_map,List.getElem_map,List.getElem_range];by_cases e:k=t
 ·rw [aW e,aW e.symm]
 ·rw [aZ e,aZ λh=>e h.symm]
theorem aCn {α:Type} (k:Nat) (f:Nat→α):(List.range k).map f++[f k]=(List.range (k+1)).map f:=by rw [List.range_succ,List.map_append];rfl
theorem aVB {q:Qv} (h:bQ q):jA q=some q:=by
 unfold jA pG;have h1:q.src.length≤1048576:=h.1;have h2:q.tgt.length≤1048576:=h.2.1;rw [bH h1,bH h2];rfl
def zeM (r:Rp) (f:Nat→Nat) (i:Nat):Mt:=⟨(f (tV r i):Nat),(f (sV r i):Nat),bY (f (tV r i)) (f (sV r i)) λ_ _=>0⟩
section
variable {r:Rp} (R:Rv r) (hb:bR r) {d:List Int} (hl:d.length=r.dims.length) {f:Nat→Nat} (hd: ∀ v,v<r.dims.length→d[v]?.getD 0=(f v:Int)∧f v≤8)
include R hb hl hd
theorem aTG (p:Int):aAL p r.q d=some ⟨p,r.q,d,(List.range r.maps.length).map (zeM r f)⟩:=by
 unfold aAL;have h5:=R.n5;have h6:=R.e6;rw [aVB hb.1,aA];unfold pG;rw [bH (by omega),aM,aA];rw [cO (r:=(List.range r.maps.length).map (zeM r f)) (λk=>((List.range k).map (zeM r f),(k:Int))) r.q.src.length (by rfl) (λi hi=>?_) (λ_=>?_),aA]
 ·have s1:=hd _ (R.s i hi).2;have t1:=hd _ (R.t i hi).2;unfold tY;simp only;rw [gA hi,aM,iN 0 hi,aA,iN 0 (by have:=R.tl;omega),aA,(R.t i hi).1,iN 0 (by have:=(R.t i hi).2;omega),aA,(R.s i hi).1,iN 0 (by have:=(R.s i hi).2;omega),aA,s1.1,t1.1,aGJ (by have:=Nat.mul_le_mul t1.2 s1.2;omega),aA,bH (by simp;omega),aM,bZ hi (by omega),←aCn];rfl
 ·unfold tY;simp only;rw [gN (bJ _),aR,R.ml]
theorem aVC (p:Int):aAw p r.q d=some ⟨p,r.q,d,(List.range r.maps.length).map (zeM r f)⟩:=by
 unfold aAw;have h5:=R.n5;have h6:=R.e6;rw [aPZ hb.1,aA,bH (by simp;omega),aM,List.nil_append];rw [cO (r:=(List.range r.maps.length).map (zeM r f)) (λk=>((List.range k).map (zeM r f),(k:Int))) r.q.src.length (by rfl) (λi hi=>?_) (λ_=>?_),aA]
 ·have s1:=hd _ (R.s i hi).2;have t1:=hd _ (R.t i hi).2;unfold vQ;simp only;rw [gA hi,aM,iN 0 (by have:=R.tl;omega),aA,(R.t i hi).1,iN 0 (by have:=(R.t i hi).2;omega),aA,iN 0 hi,aA,(R.s i hi).1,iN 0 (by have:=(R.s i hi).2;omega),aA,s1.1,t1.1,aEl (by have:=Nat.mul_le_mul t1.2 s1.2;omega),aA,bH (by simp;omega),aM,bZ hi (by omega),←aCn];rfl
 ·unfold vQ;simp only;rw [gN (bJ _),aR,R.ml]
end
def bcF (s:List Sc) (v:Nat):Nat→Nat→Int:=λt b=>cI (sG s v).basis b t
def suW (r:Rp) (s:List Sc) (i:Nat):Nat→Nat→Int:=iK r.p (dN r (sV r i)) (aF r i) (bcF s (sV r i))
def aPj (r:Rp) (s:List Sc) (i:Nat):Nat→Nat→Int:=λa b=>suW r s i (ldN s (tV r i) a) b
def aLi (r:Rp) (s:List Sc) (i:Nat):Mt:=⟨(kN s (tV r i):Nat),(kN s (sV r i):Nat),bY (kN s (tV r i)) (kN s (sV r i)) (aPj r s i)⟩
def wK (r:Rp) (s:List Sc):Rp:=⟨r.p,r.q,eP s,(List.range r.maps.length).map (aLi r s)⟩
def inM (x:Sc):Mt:=aQt x.size.toNat x.basis
theorem aVD {r:Rp} {s:List Sc} {i b k:Nat} (hk:k<dN r (tV r i)):(aLI r.p (dN r (tV r i)) (dN r (sV r i)) (aF r i) ((sG s (sV r i)).basis[b]?.getD []))[k]?.getD 0=suW r s i k b:=by
 unfold aLI suW iK;rw [aED];unfold fC;rw [List.getElem?_map,List.getElem?_range hk];show aCx _ _ _ _ _ % _=_;rw [aED];rfl
theorem tE {r:Rp} {s:List Sc} (T:Pt r s) {v:Nat} (hv:v<r.dims.length):(eP s)[v]?.getD 0=(kN s v:Int)∧kN s v≤dN r v:=by
 have h1:=T.len;have h2:=T.v v hv;unfold eP;rw [List.getElem?_map,iC (by omega),Option.map_some,jP,aIP];exact ⟨rfl,h2.len⟩
section
variable {r:Rp} {s:List Sc} (hr:bR r) (T:Pt r s)
include hr T
theorem aPk:aAy r s=some (wK r s,s.map inM):=by
 have h5:=T.R.n5;have h6:=T.R.e6;have hml:=T.R.ml;have hsl:=T.len;unfold aAy;rw [aIJ (by omega),aA,aTG T.R hr (d:=eP s) (by rw [pD];exact hsl) (f:=kN s) (λv hv=>⟨(tE T hv).1,by have:=(tE T hv).2;have:=(T.R.d v hv).2;omega⟩),aA];simp only;rw [cO (r:=(List.range r.maps.length).map (aLi r s)) (λk=>((List.range r.maps.length).map λi=>if i<k then aLi r s i else zeM r (kN s) i,(k:Int))) r.maps.length (by simp) (λi hi=>?_) (λ_=>?_),aA]
 ·rw [cO (r:=s.map inM) (λk=>((s.take k).map inM,(k:Int))) s.length (by rfl) (λv hv=>?_) (λ_=>?_),aA]
  ·rfl
  ·have hv':v<r.dims.length:=by omega
   have P:=T.v v hv';have d1:=(T.R.d _ hv').2;have l1:=P.len;have e:=aIP hv;unfold wA;simp only;rw [gA hv,aM,cX hv,aA,e,P.size,aUo (by omega) (by omega) (λx hx=>(P.vecs x hx).1),aA,bH (by simp;omega),aM,bZ hv (by omega)];rw [zL hv,List.map_append,e];unfold inM;simp only [List.map_cons,List.map_nil,P.size,eN]
  ·unfold wA;simp only;rw [gN (bJ _),aR,List.take_length]
 ·have hi':i<r.q.src.length:=by omega
  have hs:=(T.R.s i hi').2;have ht:=(T.R.t i hi').2;have d1:=(T.R.d _ hs).2;have d2:=(T.R.d _ ht).2;have k1:=(tE T hs).2;have k2:=(tE T ht).2;obtain ⟨hM,hMi⟩:=T.R.m i hi';have P:=T.v _ hs;have hq:=aGV T ht;have hqV:=T.v _ ht;have hqn:=hqV.len;have hql:=(aGV T ht).1;have m5:=Nat.mul_le_mul (show kN s (tV r i)≤4 by omega) (show kN s (sV r i)≤4 by omega);unfold vZ;simp only;rw [gA hi,aM,iN ⟨0,0,[]⟩ hi,aA,hM,iN 0 (by have:=T.R.tl;omega),aA,(T.R.t i hi').1,iN ⟨0,[]⟩ (by omega),aA,iN 0 hi',aA,(T.R.s i hi').1,iN ⟨0,[]⟩ (by omega),aA];rw [show (s[sV r i]?.getD ⟨0,[]⟩:Sc)=sG s (sV r i) from rfl,show (s[tV r i]?.getD ⟨0,[]⟩:Sc)=sG s (tV r i) from rfl];rw [cO (r:=(List.range (kN s (sV r i))).map λb=>fC (kN s (tV r i)) λa=>aPj r s i a b) (λk=>((List.range k).map λb=>fC (kN s (tV r i)) λa=>aPj r s i a b,(k:Int))) (kN s (sV r i)) (by rfl) (λb hb=>?_) (λ_=>?_),aA]
  ·rw [show ((sG s (tV r i)).basis.length:Int)=(kN s (tV r i):Nat) from rfl,aAt (by omega) (by omega) (by omega),aA,iN ⟨0,0,[]⟩ (by simpa using hi),aA,bZ hi (by omega),eN,aDB];congr 3;refine uJ λj hj=>?_;by_cases e:j=i
   ·rw [aW e,aW (by omega),e];rfl
   ·rw [aZ e];by_cases e2:j<i
    ·rw [aW e2,aW (by omega)]
    ·rw [aZ e2,aZ (by omega)]
  ·have hb':b<(sG s (sV r i)).basis.length:=hb;have hv:=P.vecs _ (jS (l:=(sG s (sV r i)).basis) [] hb');unfold vY;simp only;rw [gA hb',aM,iN [] hb',aA,aWM T.R.hp (by omega) (by omega) hMi hv.1 hv.2,aA,aWQ (by omega) (by omega) hqV.vecs hq.1 hq.2,aA];rw [cO (r:=fC (kN s (tV r i)) λa=>aPj r s i a b) (λk=>(fC k λa=>aPj r s i a b,(k:Int))) (kN s (tV r i)) (by rfl) (λa ha=>?_) (λ_=>?_),aA]
   ·rw [bH (by simp;omega),aM,bZ hb (by omega),←aCn]
   ·have f1:(fF (ldL (sG s (tV r i))))[a]?.getD 0=(ldN s (tV r i) a:Int):=aMo (by omega);have f2:=aWo T ht ha;unfold vX;simp only;rw [(show (fF (ldL (sG s (tV r i)))).length=kN s (tV r i) by rw [dH];exact hql),gA ha,aM,iN 0 (by rw [(show (fF (ldL (sG s (tV r i)))).length=kN s (tV r i) by rw [dH];exact hql)];exact ha),aA,f1,iN 0 (by unfold aLI;rw [dY];exact f2),aA,aVD f2,bH (by rw [dY];simp;omega),aM,bZ ha (by omega)];congr 3;unfold fC;rw [←aCn];rfl
   ·unfold vX;simp only;rw [(show (fF (ldL (sG s (tV r i)))).length=kN s (tV r i) by rw [dH];exact hql),gN (bJ _),aR]
  ·unfold vY;simp only;rw [show (sG s (sV r i)).basis.length=kN s (sV r i) from rfl,gN (bJ _),aR]
 ·unfold vZ;simp only;rw [gN (bJ _),aR];congr 2;exact uJ λj hj=>by rw [aW (List.mem_range.1 hj)]
def suB (r:Rp) (s:List Sc) (i:Nat):List Mt:=(List.range r.maps.length).map λk=>if k<i then aLi r s k else zeM r (kN s) k
def suI (r:Rp) (s:List Sc) (i a b:Nat):Mt:=⟨(kN s (tV r i):Nat),(kN s (sV r i):Nat),bY (kN s (tV r i)) (kN s (sV r i)) λx y=>if x<a∨(x=a∧y<b) then aPj r s i x y else 0⟩
theorem aPl:xE r s=some (wK r s,s.map inM,true):=by
 have h5:=T.R.n5;have h6:=T.R.e6;have hml:=T.R.ml;have hsl:=T.len;unfold xE;rw [aTC hr ⟨by omega,T.b⟩,aA,T.sub,dW,aR];rw [cO (r:=(eP s,s.map inM)) (λk=>(eP (s.take k),(s.take k).map inM,(k:Int))) s.length (by rfl) (λv hv=>?_) (λ_=>?_),aA]
 ·simp only;rw [aVC T.R hr (d:=eP s) (by rw [pD];exact hsl) (f:=kN s) (λv hv=>⟨(tE T hv).1,by have:=(tE T hv).2;have:=(T.R.d v hv).2;omega⟩),aA];simp only;rw [cO (r:=(List.range r.maps.length).map (aLi r s)) (λk=>(suB r s k,(k:Int))) r.maps.length (by simp [suB]) (λi hi=>?_) (λ_=>?_),aA]
  ·rfl
  ·have hi':i<r.q.src.length:=by omega
   have hs:=(T.R.s i hi').2;have ht:=(T.R.t i hi').2;have d1:=(T.R.d _ hs).2;have d2:=(T.R.d _ ht).2;have k1:=(tE T hs).2;have k2:=(tE T ht).2;obtain ⟨hM,hMi⟩:=T.R.m i hi';have P:=T.v _ hs;have hq:=aGV T ht;have hqV:=T.v _ ht;have hqn:=hqV.len;have hql:=(aGV T ht).1;have m2:=Nat.mul_le_mul d2 d1;have m4:=Nat.mul_le_mul d1 (show kN s (sV r i)≤4 by omega);have m5:=Nat.mul_le_mul (show kN s (tV r i)≤4 by omega) (show kN s (sV r i)≤4 by omega);have m6:=Nat.mul_le_mul d2 (show kN s (sV r i)≤4 by omega);have hbl:(suB r s i).length=r.maps.length:=by simp [suB]
   have e2:((s.map inM)[sV r i]?.getD ⟨0,0,[]⟩:Mt)=⟨(dN r (sV r i):Nat),(kN s (sV r i):Nat),bY (dN r (sV r i)) (kN s (sV r i)) (bcF s (sV r i))⟩:=by
    rw [List.getElem?_map,iC (by omega),Option.map_some,jP,aIP];unfold inM aQt;rw [P.size,eN];rfl
   have at_i: ∀ M:Mt,cY ((suB r s i).set i M) (i:Int)=some M:=λM=>by
    rw [cX (by simp;omega)];simp
   unfold wF;simp only;rw [gA hi,aM,iN ⟨0,0,[]⟩ hi,aA,hM,iN 0 hi',aA,(T.R.s i hi').1,iN ⟨0,0,[]⟩ (by simp;omega),aA,e2,nY T.R.hp (by omega) (by omega) (by omega) (by omega) (by omega) (by omega) hMi (show yT r.p (dN r (sV r i)) (kN s (sV r i)) (bcF s (sV r i)) from aRy P.vecs),aA,iN 0 (by have:=T.R.tl;omega),aA,(T.R.t i hi').1,iN ⟨0,[]⟩ (by omega),aA];rw [show (s[tV r i]?.getD ⟨0,[]⟩:Sc)=sG s (tV r i) from rfl,aVA (by omega) (by omega) hqV.vecs hq.1 hq.2,aA];rw [cO (r:=(suB r s i).set i (suI r s i (kN s (tV r i)) 0)) (λa=>((suB r s i).set i (suI r s i a 0),(a:Int))) (kN s (tV r i)) ?_ (λa ha=>?_) (λ_=>?_),aA]
   ·rw [bZ hi (by omega)];congr 3;unfold suB;rw [aDB];refine uJ λj hj=>?_;by_cases e:j=i
    ·rw [aW e,aW (by omega),e];unfold suI aLi;congr 1;exact cH λx y hx hy=>by rw [aW (by omega)]
    ·rw [aZ e];by_cases e2:j<i
     ·rw [aW e2,aW (by omega)]
     ·rw [aZ e2,aZ (by omega)]
   ·congr 1;unfold suB;rw [aDB];refine uJ λj hj=>?_;by_cases e:j=i
    ·rw [aW e,aZ (by omega),e];unfold suI zeM;congr 1;exact cH λx y hx hy=>by rw [aZ (by omega)]
    ·rw [aZ e]
   ·have f1:(fF (ldL (sG s (tV r i))))[a]?.getD 0=(ldN s (tV r i) a:Int):=aMo (by omega);have f2:=aWo T ht ha;unfold wD;simp only;rw [at_i,aA,show (suI r s i a 0).rows=(kN s (tV r i):Nat) from rfl,gA ha,aM,eN,List.set_set];rw [cO (r:=(suB r s i).set i (suI r s i (a+1) 0)) (λb=>((suB r s i).set i (suI r s i a b),(b:Int))) (kN s (sV r i)) (by rfl) (λb hb=>?_) (λ_=>?_),aA,bZ ha (by omega)]
    ·unfold wC;simp only;rw [at_i,aA,show (suI r s i a b).cols=(kN s (sV r i):Nat) from rfl,gA hb,aM,eN,List.set_set,at_i,aA,iN 0 (by rw [(show (fF (ldL (sG s (tV r i)))).length=kN s (tV r i) by rw [dH];exact hql)];exact ha),aA,f1,atT (by omega) f2 hb,aA];unfold suI;simp only;rw [atT (by omega) ha hb,aA,aLa (by omega) ha hb,List.set_set,bZ hb (by omega)];congr 5;refine cH λx y hx hy=>?_;simp only [aEa];by_cases e:x=a∧y=b
     ·rw [aW e,aW (by omega),e.1,e.2];rfl
     ·rw [aZ e];by_cases e2:x<a∨x=a∧y<b
      ·rw [aW e2,aW (by omega)]
      ·rw [aZ e2,aZ (by omega)]
    ·unfold wC;simp only;rw [at_i,aA,show (suI r s i a (kN s (sV r i))).cols=(kN s (sV r i):Nat) from rfl,gN (bJ _),aR,eN,List.set_set];congr 3;unfold suI;congr 1;refine cH λx y hx hy=>?_;by_cases e2:x<a+1
     ·rw [aW (by omega),aW (by omega)]
     ·rw [aZ (by omega),aZ (by omega)]
   ·unfold wD;simp only;rw [at_i,aA,show (suI r s i (kN s (tV r i)) 0).rows=(kN s (tV r i):Nat) from rfl,gN (bJ _),aR,eN,List.set_set]
  ·unfold wF;simp only;rw [gN (bJ _),aR];congr 2;exact uJ λj hj=>by rw [aW (List.mem_range.1 hj)]
 ·have hv':v<r.dims.length:=by omega
  have P:=T.v v hv';have d1:=(T.R.d _ hv').2;have l1:=P.len;have e:=aIP hv;have m1:=Nat.mul_le_mul d1 (show (sG s v).basis.length ≤4 by omega);unfold wB;simp only;rw [gA hv,aM,cX hv,aA,e,bH (by simp [eP];omega),aM,aA,aA,P.size,aLE (by omega) (by omega) (λx hx=>(P.vecs x hx).1),aA,aBB (by omega) (by omega) (by omega),aA,bH (by simp;omega),aM,bZ hv (by omega)]
  have e3:eP (s.take v)++[((sG s v).basis.length:Int)]=eP (s.take (v+1)):=by
   unfold eP;rw [zL hv,List.map_append,e];rfl
  have e4:(s.take v).map inM++[(⟨(dN r v:Nat),((sG s v).basis.length:Nat),bY (dN r v) (sG s v).basis.length λi k=>cI (sG s v).basis k i⟩:Mt)]=(s.take (v+1)).map inM:=by
   rw [zL hv,List.map_append,e];unfold inM aQt;simp only [List.map_cons,List.map_nil,P.size,eN]
  rw [e3,e4]
 ·unfold wB;simp only;rw [gN (bJ _),aR,List.take_length]
theorem aVF:bR (wK r s):=by
 have h5:=T.R.n5;have h6:=T.R.e6;have hml:=T.R.ml;have hsl:=T.len;refine ⟨hr.1,by simp [bI,wK,eP];omega,⟨by simp [wK];omega,λm hm=>?_⟩,trivial⟩;obtain ⟨i,hi,rfl⟩:=List.mem_map.1 hm;have hi':i<r.q.src.length:=by have:=List.mem_range.1 hi;omega
 have d1:=(T.R.d _ (T.R.s i hi').2).2;have d2:=(T.R.d _ (T.R.t i hi').2).2;have k1:=(tE T (T.R.s i hi').2).2;have k2:=(tE T (T.R.t i hi').2).2;have m5:=Nat.mul_le_mul (show kN s (tV r i)≤4 by omega) (show kN s (sV r i)≤4 by omega);refine ⟨?_,trivial⟩;unfold bI aLi;simp only;rw [dZ];omega
end
theorem aXa {a b:List Int} (hl:a.length=b.length) (h: ∀ k,k<a.length→a[k]?.getD 0≤b[k]?.getD 0):a.sum≤b.sum:=by
 induction a generalizing b with
 |nil=>cases b with
  |nil=>exact Int.le_refl _
  |cons y b=>simp at hl
 |cons x a ih=>cases b with
  |nil=>simp at hl
  |cons y b=>
   have h0:=h 0 (by simp);have h1:=ih (b:=b) (by simpa using hl) λk hk=>by have:=h (k+1) (by simpa using hk);simpa using this
   simp only [List.sum_cons];simp at h0;omega
theorem aLS {r:Rp} {s:List Sc} (T:Pt r s) {v:Nat} (hv:v<r.dims.length):dN (wK r s) v=kN s v:=by
 unfold dN;show ((eP s)[v]?.getD 0).toNat=_;rw [(tE T hv).1];rfl
section
variable {r:Rp} {s:List Sc} (hr:bR r) (T:Pt r s)
include T
theorem aFS:wY (wK r s)=true:=by
 have hsl:=T.len;have hml:=T.R.ml;have hlen:(eP s).length=r.dims.length:=by rw [pD];exact hsl
 have hrep:wY r=true:=by have:=T.sub;unfold aII at this;simp only [dD] at this;exact this.1
 obtain ⟨hp,hD,_,_⟩:=aCL hrep;obtain ⟨hQ,hd1,_,hd3⟩:=nX hD
 have hmem: ∀ x∈eP s,0≤x∧x≤4:=by
  intro x hx;obtain ⟨v,hv,e⟩:=List.mem_iff_getElem.1 hx;have hv':v<r.dims.length:=by omega
  have h1:=tE T hv';rw [iC hv,jP,e] at h1;have:=(T.R.d v hv').2;omega
 have hsum:(eP s).sum ≤r.dims.sum:=aXa hlen λv hv=>by
  have h1:=tE T (show v<r.dims.length by omega);have h2:=T.R.d v (by omega);omega
 have hdv:aFn r.q (eP s)=true:=by
  unfold aFn;simp only [dD,lD,List.all_eq_true];refine ⟨hQ,by omega,λx hx=>?_,by omega⟩;have:=hmem x hx;unfold inR;simp only [lD];omega
 unfold wY;simp only [dD,lD,sK];refine ⟨hp,hdv,by simp [wK];omega,λk hk=>?_⟩;have hk':k<r.maps.length:=by simpa [wK] using hk
 have hi':k<r.q.src.length:=by omega
 have hs:=(T.R.s k hi').2;have ht:=(T.R.t k hi').2
 have e:((wK r s).maps[k]?.getD ⟨0,0,[]⟩:Mt)=aLi r s k:=by
  show ((List.range r.maps.length).map (aLi r s))[k]?.getD _=_;simp [hk']
 rw [e];have q1:=tE T hs;have q2:=tE T ht;have d1:=(T.R.d _ hs).2;have d2:=(T.R.d _ ht).2;refine ⟨aPc hp (by omega) (by omega) (λa b ha hb=>?_),?_,?_⟩
 ·exact aGw hp _ _ _ (ldN s (tV r k) a+1) (b+1) (ldN s (tV r k) a) b (by omega) (by omega)
 ·show ((kN s (sV r k):Nat):Int)=(eP s)[sV r k]?.getD 0;rw [q1.1]
 ·show ((kN s (tV r k):Nat):Int)=(eP s)[tV r k]?.getD 0;rw [q2.1]
theorem aWT:Fit (wK r s) r:=aNX (aFS T) (by have:=T.sub;unfold aII at this;simp only [dD] at this;exact this.1) rfl rfl
theorem aNx:Mor (wK r s) r (bcF s):=by
 have hsl:=T.len;have hml:=T.R.ml;have hn:(wK r s).dims.length=r.dims.length:=by show (eP s).length=_;rw [pD];exact hsl
 refine ⟨λv hv=>?_,λi hi x k hx hk=>?_⟩
 ·have hv':v<r.dims.length:=by omega
  rw [aLS T hv'];exact aRy (T.v v hv').vecs
 ·have hi':i<r.q.src.length:=hi;have hs:=(T.R.s i hi').2;have ht:=(T.R.t i hi').2;have hk':k<kN s (sV r i):=by rw [←aLS T hs];exact hk
  have Vs:=T.v _ hs;have Vt:=T.v _ ht;have ds:=(T.R.d _ hs).2;have dt':=(T.R.d _ ht).2;have hL:=aGV T ht
  have hw:inV r.p (dN r (tV r i)) (fZ r.p (dN r (tV r i)) (imL r.p (dN r (tV r i)) (dN r (sV r i)) (aF r i) (sG s (sV r i)).basis)) (sG s (tV r i)).basis=true:=by
   have:=T.sub;unfold aII at this;simp only [dD] at this;exact List.all_eq_true.1 this.2.2.2 i (List.mem_range.2 (by omega))
  have hv1:VecsP r.p (dN r (tV r i)) (imL r.p (dN r (tV r i)) (dN r (sV r i)) (aF r i) (sG s (sV r i)).basis):=aHO T.R.hp _ _ _ _;have hwi:=(aGS T.R.hp (aAd T.R.hp hv1.inP) Vt.vecs Vt.span).1 (of_decide_eq_true hw);have hk2:k<(sG s (sV r i)).basis.length:=hk'
  have key:=aSA (p:=r.p) hL.2 (x:=λt=>suW r s i t k) λc hc hcL=>by
   have h1:=hwi _ (aHv (p:=r.p) hL.2 hc hcL);rw [aCT T.R.hp hv1.inP] at h1;have h2:=aHS h1 (List.mem_map.2 ⟨(sG s (sV r i)).basis[k],List.getElem_mem hk2,rfl⟩);refine aBL (aKj λt ht'=>?_) h2;have:=aVD (s:=s) (r:=r) (i:=i) (b:=k) ht';rw [iC hk2,jP] at this;unfold vAt;rw [this]
  have h3:=key x hx;have hsu:suW r s i x k % r.p=suW r s i x k:=by unfold suW iK;exact Int.emod_emod_of_dvd _ (Int.dvd_refl _)
  show iK r.p (dN r (sV r i)) (aF r i) (bcF s (sV r i)) x k=iK r.p (dN (wK r s) (tV r i)) (bcF s (tV r i)) (aF (wK r s) i) x k;rw [aLS T ht,pY r.p (kN s (tV r i))];have e1:iK r.p (dN r (sV r i)) (aF r i) (bcF s (sV r i)) x k=suW r s i x k:=rfl;rw [e1,←hsu];rw [h3,hL.1];congr 1;refine dA λa ha=>?_
  have e2:aF (wK r s) i a k=aPj r s i a k:=by
   unfold aF;show (((List.range r.maps.length).map (aLi r s))[i]?.getD ⟨0,0,[]⟩).cells[a*dN (wK r s) (sV r i)+k]?.getD 0=_;rw [aLS T hs,List.getElem?_map,List.getElem?_range (by omega)];show (bY (kN s (tV r i)) (kN s (sV r i)) (aPj r s i))[a*kN s (sV r i)+k]?.getD 0=_;rw [lQ _ ha hk'];rfl
  rw [e2,Int.mul_comm];rfl
theorem aWU:s.map inM=wO (wK r s) r (bcF s):=by
 have hsl:=T.len;have hn:(wK r s).dims.length=r.dims.length:=by show (eP s).length=_;rw [pD];exact hsl
 unfold wO;refine List.ext_getElem (by simp;omega) λv h1 h2=>?_;have hv:v<s.length:=by simpa using h1
 have hv':v<r.dims.length:=by omega
 rw [List.getElem_map,List.getElem_map,List.getElem_range,aIP hv,aLS T hv'];unfold inM aQt;rw [(T.v v hv').size,eN];rfl
end
end
noncomputable section
theorem aNy (s:List Sc):0≤(eP s).sum:=by
 induction s with
 |nil=>exact Int.le_refl 0
 |cons x s ih=>unfold eP at ih ⊢;simp only [List.map_cons,List.sum_cons];omega
theorem aMp (s:List Sc):(eP s).sum=0↔ ∀ v,v<s.length→(sG s v).basis=[]:=by
 induction s with
 |nil=>exact ⟨λ_ v hv=>absurd hv (by simp),λ_=>rfl⟩
 |cons x s ih=>
  have h0:=aNy s;have e:(eP (x::s)).sum=(x.basis.length:Int)+(eP s).sum:=rfl;rw [e];constructor
  ·intro h v hv;cases v with
   |zero=>exact List.length_eq_zero_iff.1 (by show x.basis.length=0;omega)
   |succ v=>exact ih.1 (by omega) v (by simpa using hv)
  ·intro h;have h1:x.basis=[]:=h 0 (by simp);have h2:=ih.2 λv hv=>h (v+1) (by simpa using hv);rw [h1,h2];rfl
theorem aRD {a b c:List Int} (h1:a.length=c.length) (h2:b.length=c.length) (h: ∀ k,k<c.length→a[k]?.getD 0+b[k]?.getD 0≤c[k]?.getD 0):a.sum+b.sum≤c.sum:=by
 induction c generalizing a b with
 |nil=>
  cases a with
  |nil=>cases b with
   |nil=>exact Int.le_refl _
   |cons y b=>simp at h2
  |cons x a=>simp at h1
 |cons z c ih=>
  cases a with
  |nil=>simp at h1
  |cons x a=>cases b with
   |nil=>simp at h2
   |cons y b=>
    have h0:=h 0 (by simp);have h3:=ih (a:=a) (b:=b) (by simpa using h1) (by simpa using h2) λk hk=>by have:=h (k+1) (by simpa using hk);simpa using this
    simp only [List.sum_cons];simp at h0;omega
theorem aPm {r:Rp} {s:List Sc} (T:Pt r s):nL (eP s)=some (eP s).sum:=by
 have h5:=T.R.n5;have hl:=T.len;refine aNR (λx hx=>?_) (by rw [pD];omega);obtain ⟨v,hv,e⟩:=List.mem_iff_getElem.1 hx;rw [pD] at hv;have h1:=tE T (show v<r.dims.length by omega);rw [iC (by rw [pD];omega),jP,e] at h1;have:=(T.R.d v (by omega)).2;omega
def pw8 (a:Rp) (c:Nat):Nat→Nat→Nat→Int:=aYP a (gM a a (coF a a c)) 8
def kS (a:Rp) (c:Nat):List Sc:=aBZ a (pw8 a c)
def iS (a:Rp) (c:Nat):List Sc:=aBa a (pw8 a c)
def spl (a:Rp) (c:Nat):Bool:= !decide ((eP (kS a c)).sum=0)&& !decide ((eP (iS a c)).sum=0)
def aRE (a:Rp):List Sc:=a.dims.map λd=>⟨d,[]⟩
theorem aTH {a:Rp} (h:Rv a):vA a=some (aRE a):=by
 have h5:=h.n5;unfold vA aRE;rw [cO (s:=(([]:List Sc),(0:Int))) (r:=a.dims.map λd=>(⟨d,[]⟩:Sc)) (λk=>((a.dims.take k).map λd=>(⟨d,[]⟩:Sc),(k:Int))) a.dims.length rfl (λv hv=>?_) (λ_=>?_),aA]
 ·unfold uF;simp only;rw [gA hv,aM,iN 0 hv,aA,bH (by rw [dC,List.length_take];omega),aM,bZ hv (by omega),aBu (λd=>(⟨d,[]⟩:Sc)) 0 hv]
 ·unfold uF;simp only;rw [gN (bJ _),aR,List.take_length]
theorem aPn {a:Rp} {s:List Sc} (T:Pt a s):qS s (aRE a)=some (decide ((eP s).sum=0)):=by
 have h5:=T.R.n5;have hl:=T.len;unfold qS;rw [bH (by unfold aRE;rw [dC];omega),dW,aR];rw [wL (n:=s.length) (λv=>decide ((sG s v).basis=[])) false (by omega) (λv hv=>?_) (λ_=>?_),aA]
 ·cases hA:(List.range s.length).all λv=>decide ((sG s v).basis=[]) with
  |true=>
   rw [bH ((aMp s).2 λv hv=>of_decide_eq_true (sK.1 hA v hv))];rfl
  |false=>
   rw [dU λe=>by
    have:(List.range s.length).all (λv=>decide ((sG s v).basis=[]))=true:=sK.2 λv hv=>bH ((aMp s).1 e v hv);rw [this] at hA
    exact Bool.noConfusion hA]
   rfl
 ·have hv':v<a.dims.length:=by omega
  have V:=T.v v hv';have hb:bLs (sG s v).basis:=(T.b _ (jS (l:=s) ⟨0,[]⟩ hv)).1
  have e2:(aRE a)[v]?.getD ⟨0,[]⟩=(⟨(dN a v:Int),[]⟩:Sc):=by
   unfold aRE;rw [List.getElem?_map,iC hv',Option.map_some,jP];have:=(T.R.d v hv').1;rw [iC hv',jP] at this;rw [this]
  unfold pW;rw [gA hv,aM,iN ⟨0,[]⟩ hv,aA,iN ⟨0,[]⟩ (by unfold aRE;rw [dC];exact hv'),aA,e2];unfold zB;rw [show (s[v]?.getD ⟨0,[]⟩:Sc)=sG s v from rfl,bH V.size,aM,aPU hb,aA,aA];show _=some (bif decide ((sG s v).basis=[]) then _ else _);cases decide ((sG s v).basis=[]) <;> rfl
 ·unfold pW;rw [gN (bJ _),aR]
section
variable {a:Rp} (hv:wY a=true)
include hv
theorem qU:Fit a a:=aNX hv hv rfl rfl
theorem aMq:aBN a a=true:=by unfold aBN;rw [hv,bH rfl,bH rfl];rfl
theorem aLT (c:Nat):Mor a a (pw8 a c):=aSC (qU hv) (aXX (qU hv) c) 8
theorem aSD (c:Nat):Pt a (kS a c):=aWn (aWO (qU hv) (aLT hv c) hv)
theorem aSE (c:Nat):Pt a (iS a c):=aWn (aWP (qU hv) (aLT hv c) hv)
theorem aVG (c:Nat):Lp (oN a (jC a a (coF a a c))) ([],0)=some (wO a a (pw8 a c)):=by
 have h:=qU hv;have n5:=h.ra.n5;rw [aFO];rw [cO (s:=(([]:List Mt),(0:Int))) (r:=wO a a (pw8 a c)) (λk=>((List.range k).map λv=>(⟨dN a v,dN a v,bY (dN a v) (dN a v) (pw8 a c v)⟩:Mt),(k:Int))) a.dims.length rfl (λv hv=>?_) (λ_=>?_)]
 ·have d:=(h.ra.d v hv).2;have p8:uY a.p _ 8=_:=aTE h.ra.hp d ((aPS h c).inP hv) (n:=8) (by omega);unfold oN;simp only;rw [dC,List.length_range,gA hv,aM,oD hv,aA,p8,aA,bH (by simp;omega),aM,bZ hv (by omega)];congr 3;exact jZ (f:=λv=>(⟨dN a v,dN a v,bY (dN a v) (dN a v) (pw8 a c v)⟩:Mt))
 ·unfold oN;simp only;rw [dC,List.length_range,gN (bJ _),aR];rfl
theorem aRF (c:Nat):yO a (jC a a (coF a a c))=some (wO a a (pw8 a c)):=by
 have h:=qU hv;have n5:=h.ra.n5;unfold yO;rw [aFO];rw [cO (s:=(([]:List Mt),(0:Int))) (r:=wO a a (pw8 a c)) (λk=>((List.range k).map λv=>(⟨dN a v,dN a v,bY (dN a v) (dN a v) (pw8 a c v)⟩:Mt),(k:Int))) a.dims.length rfl (λv hv=>?_) (λ_=>?_),aA]
 ·have d:=(h.ra.d v hv).2;have p8:uZ a.p _ 8=_:=aTF h.ra.hp d ((aPS h c).inP hv) (n:=8) (by omega);unfold sD;simp only;rw [dC,List.length_range,gA hv,aM,oD hv,aA,p8,aA,bH (by simp;omega),aM,bZ hv (by omega)];congr 3;exact jZ (f:=λv=>(⟨dN a v,dN a v,bY (dN a v) (dN a v) (pw8 a c v)⟩:Mt))
 ·unfold sD;simp only;rw [dC,List.length_range,gN (bJ _),aR];rfl
theorem aTI (c:Nat):aAO a (jC a a (coF a a c))=some (bif spl a c then (kS a c,iS a c,true) else ([],[],false)):=by
 have h:=qU hv;have hm:=aLT hv c;have K:=aSD hv c;have I:=aSE hv c;have l5:=h.ra.n5;have lk:=K.len;have li:=I.len;unfold aAO;rw [aVG hv c,aA,aPh h hm,aA,aRB h hm,aA];rw [show aBZ a (pw8 a c)=kS a c from rfl,show aBa a (pw8 a c)=iS a c from rfl,aIJ (by omega),aA,aPm K,aA];unfold spl;cases decide ((eP (kS a c)).sum=0) with
 |true=>rfl
 |false=>
  rw [aR,aIJ (by omega),aA,aPm I,aA];cases decide ((eP (iS a c)).sum=0) <;> rfl
theorem aIQ (ha:bR a) (c:Nat):qT a (jC a a (coF a a c))=some (bif spl a c then (kS a c,iS a c,true) else ([],[],false)):=by
 have h:=qU hv;have hf:=aMq hv;have hm:=aLT hv c;have K:=aSD hv c;have I:=aSE hv c;unfold qT;rw [aSx ha ha hf c,aA,dW,aR,aRF hv c,aA,aPi h hm ha hf,aA,aRC h hm ha hf,aA,aTH h.ra,aA];rw [show aBZ a (pw8 a c)=kS a c from rfl,show aBa a (pw8 a c)=iS a c from rfl,aPn K,aA];unfold spl;cases decide ((eP (kS a c)).sum=0) with
 |true=>rfl
 |false=>
  rw [aR,aA,aPn I,aA];cases decide ((eP (iS a c)).sum=0) <;> rfl
theorem aVH (c:Nat):(eP (kS a c)).sum +(eP (iS a c)).sum ≤a.dims.sum:=by
 have h:=qU hv;have hm:=aLT hv c;have K:=aSD hv c;have I:=aSE hv c;refine aRD (by rw [pD];exact K.len) (by rw [pD];exact I.len) λv hv'=>?_;rw [(tE K hv').1,(tE I hv').1,(h.ra.d v hv').1];have h1:=aNw h hm hv';have h2:= @aYD a.p (dN a v) (dN a v) (pw8 a c v)
 have e1:kN (kS a c) v≤(krL a (pw8 a c) v).length:=by
  unfold kN kS;rw [aEH hv'];exact aEc.2
 have e2:kN (iS a c) v≤rkF a.p (dN a v) (dN a v) (pw8 a c v):=by
  unfold kN iS;rw [aEI hv'];unfold iSc;simp only;rw [aMm h.ra.hp (hm.inp v hv')];refine Nat.le_trans aEc.2 ?_;unfold uX;rw [dC];exact bJ _
 omega
end
def fS (a:Rp) (c:Nat):Option (List Sc×List Sc):=bif spl a c then some (kS a c,iS a c) else none
def aNz (a:Rp):Option (List Sc×List Sc):=(List.range' 1 (aAX a a - 1)).findSome? (fS a)
theorem aHT {β γ:Type} (f:Nat→Option β) (g:β→γ) (l:List Nat):l.findSome? (λc=>(f c).map g)=(l.findSome? f).map g:=by
 induction l with
 |nil=>rfl
 |cons c l ih=>
  rw [List.findSome?_cons,List.findSome?_cons];cases f c with
  |none=>exact ih
  |some b=>rfl
theorem aTJ {a:Rp} {k i:List Sc} (h:aNz a=some (k,i)): ∃ c,spl a c=true∧k=kS a c∧i=iS a c:=by
 unfold aNz at h;obtain ⟨c,_,hc⟩:=List.exists_of_findSome?_eq_some h;unfold fS at hc;cases e:spl a c with
 |false=>rw [e] at hc;simp at hc
 |true=>
  rw [e,aM] at hc;have:=Option.some.inj hc;exact ⟨c,e,(congrArg Prod.fst this).symm,(congrArg Prod.snd this).symm⟩
theorem aSF {P:Nat} (h:1≤P): ∀ n,1≤cnH P n
 |0=>bJ _
 |n+1=>by
  have ih:=aSF h n;unfold cnH;split
  ·exact Nat.le_trans ih (Nat.le_mul_of_pos_right _ h)
  ·exact ih
section
variable {a:Rp} (hv:wY a=true)
include hv
theorem aMr:1≤aAX a a:=by
 have hp:=(aFN (qU hv).ra.hp).2.1;have:=aSF (P:=a.p.toNat) (by omega) (gW a a);unfold aAX;omega
theorem aPo:wH a (hmB a a)=some (match aNz a with|some x=>(x.1,x.2,true)|none=>([],[],false)):=by
 have h:=qU hv;have hl:=aBs h;have hd:=aEE h;have el:((hmB a a).length:Int)=(gW a a:Int):=by unfold hmB;rw [dC,hl]
 have em:min ((cnH a.p.toNat (gW a a):Nat):Int) 3000=((aAX a a:Nat):Int):=by unfold aAX;omega
 have ht:aAX a a≤3000:=Nat.min_le_right _ _;unfold wH;rw [aAb (s0:=1) (s:=1) (n:=aAX a a) (λc=>(fS a c).map λx=>(x.1,x.2,true)) rfl (by omega) (aMr hv) (λc _ hc=>?_) (λ_=>?_),aA,aHT]
 ·unfold aNz;cases (List.range' 1 (aAX a a - 1)).findSome? (fS a) <;> rfl
 ·unfold pV;rw [el,aEw h.ra.hp (by omega),aA,em,gA hc,aM,aQo h (by omega),aA,aTI hv c,aA];unfold fS;cases spl a c <;> rfl
 ·unfold pV;rw [el,aEw h.ra.hp (by omega),aA,em,gN (bJ _),aR]
theorem aTK (ha:bR a):aAQ a=some (match aNz a with|some x=>(x.1,x.2,true,true)|none=>([],[],false,decide (cnH a.p.toNat (gW a a)≤3000))):=by
 have h:=qU hv;have hf:=aMq hv;have ht:aAX a a≤3000:=Nat.min_le_right _ _;have hpos:=aMr hv;unfold aAQ;rw [aPR ha ha hf,aA,aNj ha ha hf,aA];unfold cmI;by_cases h1:cnH a.p.toNat (gW a a)≤100000
 ·rw [aW h1,dU (by omega),aR];by_cases h3:cnH a.p.toNat (gW a a)≤3000
  ·have et:aAX a a=cnH a.p.toNat (gW a a):=Nat.min_eq_left h3;rw [dU (by omega),aR];rw [aAb (s0:=1) (s:=1) (n:=aAX a a) (λc=>(fS a c).map λx=>(x.1,x.2,true,true)) rfl (by omega) hpos (λc _ hc=>?_) (λ_=>?_),aA,aHT,bH h3,bH rfl]
   ·unfold aNz;cases (List.range' 1 (aAX a a - 1)).findSome? (fS a) <;> rfl
   ·unfold uI;rw [←et,gA hc,aM];simp only;rw [aLB h (by omega),aA,aIQ hv ha c,aA];unfold fS;cases spl a c <;> rfl
   ·unfold uI;rw [←et,gN (bJ _),aR]
  ·have et:aAX a a=3000:=Nat.min_eq_right (by omega);rw [bH (by omega),aM];rw [aAb (s0:=1) (s:=1) (n:=aAX a a) (λc=>(fS a c).map λx=>(x.1,x.2,true,true)) rfl (by omega) hpos (λc _ hc=>?_) (λ_=>?_),aA,aHT,dU h3,dU (by omega)]
   ·unfold aNz;cases (List.range' 1 (aAX a a - 1)).findSome? (fS a) <;> rfl
   ·unfold uH;rw [bH (by omega),aM];simp only;rw [aLB h (by omega),aA,aIQ hv ha c,aA];unfold fS;cases spl a c <;> rfl
   ·unfold uH;rw [dU (by omega),aR]
 ·have et:aAX a a=3000:=Nat.min_eq_right (by omega);rw [aZ h1,bH (by omega),aM];rw [aAb (s0:=1) (s:=1) (n:=aAX a a) (λc=>(fS a c).map λx=>(x.1,x.2,true,true)) rfl (by omega) hpos (λc _ hc=>?_) (λ_=>?_),aA,aHT,dU (show ¬ cnH a.p.toNat (gW a a)≤3000 by omega),dU (by omega)]
  ·unfold aNz;cases (List.range' 1 (aAX a a - 1)).findSome? (fS a) <;> rfl
  ·unfold uG;rw [bH (by omega),aM];simp only;rw [aLB h (by omega),aA,aIQ hv ha c,aA];unfold fS;cases spl a c <;> rfl
  ·unfold uG;rw [dU (by omega),aR]
end
end
noncomputable section
theorem aIs {r:Rp} (h:bR r):qP r=some r:=by
 obtain ⟨⟨h1,h2,_⟩,h3,⟨h4,h5⟩,_⟩:=h;unfold bI at h1 h2 h3
 have hc:pQ r.maps=some r.maps:=by
  unfold pQ;rw [cO (s:=(([]:List Mt),(0:Int))) (r:=r.maps) (λk=>(r.maps.take k,(k:Int))) r.maps.length rfl (λk hk=>?_) (λ_=>?_),aA]
  ·have:=(h5 _ (List.getElem_mem hk)).1;unfold bI at this;unfold lB;simp only;rw [gA hk,aM,cX hk,aA];unfold gQ pG;rw [bH this,aM,aA,aA,bH (by simp;omega),aM,bZ hk (by omega),zL hk]
  ·unfold lB;simp only;rw [gN (bJ _),aR,List.take_length]
 unfold qP jA pG;rw [bH h1,bH h2,bH h3,hc];rfl
theorem aPp {r:Rp} (h:bR r):xC r=some r:=by
 obtain ⟨hq,h3,⟨h4,h5⟩,_⟩:=h;unfold bI at h3;unfold xC;rw [aPZ hq,aA,bH (by simp;omega),aM];rw [cO (s:=(([]:List Mt),(0:Int))) (r:=r.maps) (λk=>(r.maps.take k,(k:Int))) r.maps.length rfl (λk hk=>?_) (λ_=>?_),aA,List.nil_append]
 ·have:=(h5 _ (List.getElem_mem hk)).1;unfold bI at this;unfold vU;simp only;rw [gA hk,aM,cX hk,aA];unfold wW;rw [bH (by simp;omega),aM,aA,bH (by simp;omega),aM,bZ hk (by omega),zL hk,List.nil_append]
 ·unfold vU;simp only;rw [gN (bJ _),aR,List.take_length]
theorem aVI:aAx [] []=some true:=by
 unfold aAx;rw [bH rfl,dW,aR,gS (r:= .inl ()) (by unfold aAj;rfl)];rfl
theorem aYQ:([]:List Mt).length ≤1048576∧ ∀ m∈([]:List Mt),bM m:=⟨by simp,by simp⟩
theorem aVJ (k:Int):yH [] k=some ([],k):=by
 unfold yH;rw [gS (r:=([],k)) (by unfold yY;rfl)];rfl
theorem aVK (k:Int):yJ [] k=some k:=by
 unfold yJ;rw [gS (r:= .inl k) (by unfold zA;rfl)];rfl
def noR:Rp:=⟨0,⟨0,[],[]⟩,[],[]⟩
theorem aVL:bR noR:=⟨⟨by simp [noR,bI],by simp [noR,bI],trivial⟩,by simp [noR,bI],⟨by simp [noR],by simp [noR]⟩,trivial⟩
end
noncomputable section
theorem aOA {r:Rp} (h:wY r=true):0≤r.dims.sum∧r.dims.sum≤8∧ ∀ x∈r.dims,0≤x∧x≤4:=by
 obtain ⟨_,hD,_,_⟩:=aCL h;obtain ⟨_,_,h2,h3⟩:=nX hD;exact ⟨(aNQ h2).1,h3,h2⟩
theorem aPq {r:Rp} (hr:bR r) (h:wY r=true):uV r=some r.dims.sum:=by
 have h5:=(aEo h).n5;have h2:=(aOA h).2.2;unfold uV;rw [aAh hr,aA,h,dW,aR];rw [cO (r:=r.dims.sum) (λk=>((r.dims.take k).sum,(k:Int))) r.dims.length (by simp) (λk hk=>?_) (λ_=>?_),aA]
 ·unfold tQ;simp only;have h1:=aNQ (d:=r.dims.take (k+1)) λx hx=>h2 x (List.mem_of_mem_take hx);rw [gA hk,aM,iN 0 hk,aA,←aKW hk,dV (by simp at h1;omega),bZ hk (by omega)]
 ·unfold tQ;simp only;rw [gN (bJ _),aR,List.take_length]
structure Gd (a r:Rp) (m:List Mt):Prop where
 b:bR r
 v:wY r=true
 p:r.p=a.p
 q:r.q=a.q
 m: ∃ P,m=wO r a P∧Mor r a P
def GdL (a:Rp):List Rp→List (List Mt)→Prop
 | [],[]=>True
 |r::rs,m::ms=>Gd a r m∧GdL a rs ms
 |_,_=>False
theorem GdL.len {a:Rp} : ∀ {rs:List Rp} {ms:List (List Mt)},GdL a rs ms→rs.length=ms.length
 | [],[],_=>rfl
 | [],_::_,h=>h.elim
 |_::_,[],h=>h.elim
 |r::rs,m::ms,h=>by simp only [List.length_cons];rw [GdL.len h.2]
theorem GdL.append {a:Rp} {xs:List Rp} {ys:List (List Mt)} (h':GdL a xs ys): ∀ {rs:List Rp} {ms:List (List Mt)},GdL a rs ms→GdL a (rs++xs) (ms++ys)
 | [],[],_=>h'
 | [],_::_,h=>h.elim
 |_::_,[],h=>h.elim
 |r::rs,m::ms,h=>⟨h.1,GdL.append h' h.2⟩
theorem GdL.get {a:Rp} : ∀ {rs:List Rp} {ms:List (List Mt)},GdL a rs ms→ ∀ k,k<rs.length→Gd a (rs[k]?.getD ⟨0,⟨0,[],[]⟩,[],[]⟩) (ms[k]?.getD [])
 | [],[],_,k,hk=>absurd hk (by simp)
 | [],_::_,h,_,_=>h.elim
 |_::_,[],h,_,_=>h.elim
 |r::rs,m::ms,h,0,_=>h.1
 |r::rs,m::ms,h,k+1,hk=>GdL.get h.2 k (by simpa using hk)
def cmp (p:Int) (N M:List Mt):List Mt:=(nG p M N).getD []
theorem aJj {a r:Rp} {s:List Sc} (ha:bR a) (hv:wY a=true) (T:Pt a s) {m:List Mt} (g:Gd (wK a s) r m):
  nG a.p m (s.map inM)=some (cmp a.p (s.map inM) m)∧gI r (wK a s) a m (s.map inM)=some (cmp a.p (s.map inM) m,true)∧Gd a r (cmp a.p (s.map inM) m):=by
 obtain ⟨P,e,f⟩:=g.m;have h1:Fit r (wK a s):=aNX g.v (aFS T) g.p g.q;have h2:=aWT T;have hp:r.p=a.p:=g.p;have c1:=aQy h1 h2 f (aNx T);have f1:aBN r (wK a s)=true:=by unfold aBN;rw [g.v,aFS T,bH g.p,bH g.q];rfl
 have f2:aBN (wK a s) a=true:=by unfold aBN;rw [hv,aFS T,bH (show (wK a s).p=a.p from rfl),bH (show (wK a s).q=a.q from rfl)];rfl
 have c2:=aQz h1 h2 f (aNx T) g.b (aVF ha T) ha f1 f2;rw [←e,←aWU T] at c1 c2;have c4:=aPg h1 f (aNx T);rw [hp] at c1 c2 c4;have c3:cmp a.p (s.map inM) m=wO r a λv=>iK a.p (dN (wK a s) v) (bcF s v) (P v):=by unfold cmp;rw [c1];rfl
 rw [←c3] at c1 c2;exact ⟨c1,c2,g.b,g.v,g.p,g.q,_,c3,c4⟩
section
variable {a:Rp} (ha:bR a) (hv:wY a=true) {s:List Sc} (T:Pt a s)
include ha hv T
theorem GdL.map: ∀ {rs:List Rp} {ms:List (List Mt)},GdL (wK a s) rs ms→GdL a rs (ms.map (cmp a.p (s.map inM)))
 | [],[],_=>trivial
 | [],_::_,h=>h.elim
 |_::_,[],h=>h.elim
 |r::rs,m::ms,h=>⟨(aJj ha hv T h.1).2.2,GdL.map h.2⟩
variable {rs:List Rp} {ms:List (List Mt)} (G:GdL (wK a s) rs ms) (h8:rs.length≤64) {x:List (List Mt)} (hx:x.length≤64)
include G h8 hx
theorem aMs {f:Bool} :Lp (oP a (wK a s,s.map inM) (rs,ms,f)) (x,0)=some (x++ms.map (cmp a.p (s.map inM))):=by
 have hl:=G.len;rw [cO (r:=x++ms.map (cmp a.p (s.map inM))) (λk=>(x++(ms.take k).map (cmp a.p (s.map inM)),(k:Int))) ms.length (by simp) (λk hk=>?_) (λ_=>?_)]
 ·have g:=aJj ha hv T (G.get k (by omega));unfold oP;simp only;rw [gA hk,aM,iN [] hk,aA,g.1,aA,bH (by rw [List.length_append,dC,List.length_take];omega),aM,bZ hk (by omega),List.append_assoc,aBu (cmp a.p (s.map inM)) [] hk]
 ·unfold oP;simp only;rw [gN (bJ _),aR,List.take_length]
variable {X:List Rp} (hX:X.length≤64)
include hX
theorem aOB {f g:Bool} :Lp (mG a (wK a s,s.map inM,g) (rs,ms,f)) (X,x,0)=some (X++rs,x++ms.map (cmp a.p (s.map inM))):=by
 have hl:=G.len;rw [cO (r:=(X++rs,x++ms.map (cmp a.p (s.map inM)))) (λk=>(X++rs.take k,x++(ms.take k).map (cmp a.p (s.map inM)),(k:Int))) rs.length (by simp) (λk hk=>?_) (λ_=>?_)]
 ·have g:=aJj ha hv T (G.get k hk);unfold mG;simp only;rw [gA hk,aM,iN ⟨0,⟨0,[],[]⟩,[],[]⟩ hk,aA,iN [] (by omega),aA,g.2.1,aA,aA,bH (by rw [List.length_append,List.length_take];omega),aM,bH (by rw [List.length_append,dC,List.length_take];omega),aM,bZ hk (by omega),List.append_assoc,List.append_assoc,aBu (cmp a.p (s.map inM)) [] (by omega)];congr 3;rw [zL hk,iC hk];rfl
 ·unfold mG;simp only;rw [gN (bJ _),aR,List.take_length,hl,List.take_length]
theorem aOC {f g:Bool} :Lp (mH a (wK a s,s.map inM,g) (rs,ms,f)) (X,x,0)=some (X++rs,x++ms.map (cmp a.p (s.map inM))):=by
 have hl:=G.len;rw [cO (r:=(X++rs,x++ms.map (cmp a.p (s.map inM)))) (λk=>(X++rs.take k,x++(ms.take k).map (cmp a.p (s.map inM)),(k:Int))) rs.length (by simp) (λk hk=>?_) (λ_=>?_)]
 ·have g:=aJj ha hv T (G.get k hk);unfold mH;simp only;rw [gA hk,aM,iN ⟨0,⟨0,[],[]⟩,[],[]⟩ hk,aA,iN [] (by omega),aA,g.2.1,aA,aA,bH (by rw [List.length_append,List.length_take];omega),aM,bH (by rw [List.length_append,dC,List.length_take];omega),aM,bZ hk (by omega),List.append_assoc,List.append_assoc,aBu (cmp a.p (s.map inM)) [] (by omega)];congr 3;rw [zL hk,iC hk];rfl
 ·unfold mH;simp only;rw [gN (bJ _),aR,List.take_length,hl,List.take_length]
end
theorem aLU: ∀ (n:Nat) (a:Rp),bR a→wY a=true→0<a.dims.sum→a.dims.sum<(n:Int)→ ∃ rs ms f,iW n a=some (rs,ms,f)∧hJ n a=some (rs,ms,f)∧GdL a rs ms∧(rs.length:Int)≤a.dims.sum
 |0,a,_,_,h1,h2=>absurd h1 (by omega)
 |n+1,a,ha,hv,h1,h2=>by
  have h8:=(aOA hv).2.1;have hf:=qU hv;have hl:=aBs hf;have hd:=aEE hf;have el:((hmB a a).length:Int)=(gW a a:Int):=by unfold hmB;rw [dC,hl]
  unfold iW hJ aAm aAR;rw [aPQ hf,aA,aPo hv,aA,aPq ha hv,aA,dU (show ¬ a.dims.sum=0 by omega),aR,aTK hv ha,aA];cases hs:aNz a with
  |none=>
   have ec:decide (((cnH a.p.toNat (gW a a):Nat):Int)≤3000)=decide (cnH a.p.toNat (gW a a)≤3000):=decide_eq_decide.2 (by omega);simp only [Bool.not_false,aM];rw [aIs ha,aA,aUx hf.ra,aA,el,aEw hf.ra.hp (by omega),aA,aWN ha hv,aA,aPp ha,aA];refine ⟨_,_,_,rfl,?_,⟨⟨ha,hv,rfl,rfl,_,rfl,aUw hf.ra⟩,trivial⟩,by simp;omega⟩;rw [ec]
  |some x=>
   obtain ⟨k,i⟩:=x;obtain ⟨c,hc,ek,ei⟩:=aTJ hs;have K:Pt a k:=ek▸aSD hv c;have I:Pt a i:=ei▸aSE hv c;have hle:=aVH hv c;have hk0:=aNy (kS a c);have hi0:=aNy (iS a c);unfold spl at hc;simp only [dD,Bool.not_eq_true',decide_eq_false_iff_not] at hc;rw [←ek,←ei] at hle hc;rw [←ek] at hk0;rw [←ei] at hi0;obtain ⟨r1,m1,f1,a1,b1,g1,l1⟩:=aLU n (wK a k) (aVF ha K) (aFS K) (by show 0<(eP k).sum;omega) (by show (eP k).sum <_;omega);obtain ⟨r2,m2,f2,a2,b2,g2,l2⟩:=aLU n (wK a i) (aVF ha I) (aFS I) (by show 0<(eP i).sum;omega) (by show (eP i).sum <_;omega);replace l1:(r1.length:Int)≤(eP k).sum:=l1;replace l2:(r2.length:Int)≤(eP i).sum:=l2;have n1:=g1.len;have n2:=g2.len;simp only [dW,aR]
   have A0:iV (iW n) a (k,i,true) ([],[],0)=some (bif f1 then .inl (r1,m1.map (cmp a.p (k.map inM)),1) else .inr (.inr ())):=by
    unfold iV;simp only;rw [show decide ((0:Int)<2)=true from rfl,aM,show cY [k,i] 0=some k from rfl,aA,aPk ha K,aA,a1,aA];cases f1 with
    |false=>rfl
    |true=>
     simp only [dW,aR,aM];rw [bH (by simp;omega),aM,aMs ha hv K g1 (by omega) (by simp),aA];rfl
   have B0:iB (hJ n) a (k,i,true,true) ([],[],0)=some (bif f1 then .inl (r1,m1.map (cmp a.p (k.map inM)),1) else .inr (.inr ())):=by
    unfold iB;simp only;rw [show decide ((0:Int)<2)=true from rfl,aM,show decide ((0:Int)=1)=false from rfl,aR,aPl ha K,aA,b1,aA];cases f1 with
    |false=>rfl
    |true=>
     simp only [dW,aR,aM];rw [aOC ha hv K g1 (by omega) (by simp) (by simp),aA];rfl
   cases f1 with
   |false=>
    refine ⟨[],[],false,?_,?_,trivial,by simp;omega⟩
    ·rw [gS A0];rfl
    ·rw [gS B0];rfl
   |true=>
    have A1:iV (iW n) a (k,i,true) (r1,m1.map (cmp a.p (k.map inM)),1)=some (bif f2 then .inl (r1++r2,m1.map (cmp a.p (k.map inM))++m2.map (cmp a.p (i.map inM)),2) else .inr (.inr ())):=by
     unfold iV;simp only;rw [show decide ((1:Int)<2)=true from rfl,aM,show cY [k,i] 1=some i from rfl,aA,aPk ha I,aA,a2,aA];cases f2 with
     |false=>rfl
     |true=>
      simp only [dW,aR,aM];rw [bH (by omega),aM,aMs ha hv I g2 (by omega) (by rw [dC];omega),aA];rfl
    have B1:iB (hJ n) a (k,i,true,true) (r1,m1.map (cmp a.p (k.map inM)),1)=some (bif f2 then .inl (r1++r2,m1.map (cmp a.p (k.map inM))++m2.map (cmp a.p (i.map inM)),2) else .inr (.inr ())):=by
     unfold iB;simp only;rw [show decide ((1:Int)<2)=true from rfl,aM,decide_true,aM,aPl ha I,aA,b2,aA];cases f2 with
     |false=>rfl
     |true=>
      simp only [dW,aR,aM];rw [aOB ha hv I g2 (by omega) (by rw [dC];omega) (by omega),aA];rfl
    rw [qY A0,qY B0];cases f2 with
    |false=>
     refine ⟨[],[],false,?_,?_,trivial,by simp;omega⟩
     ·rw [gS A1];rfl
     ·rw [gS B1];rfl
    |true=>
     refine ⟨r1++r2,m1.map (cmp a.p (k.map inM))++m2.map (cmp a.p (i.map inM)),true,?_,?_,(GdL.map ha hv I g2).append (GdL.map ha hv K g1),by rw [List.length_append];omega⟩
     ·rw [qY A1,gS (show iV (iW n) a (k,i,true) (_,_,2)=some (.inr (.inl (_,_))) from rfl)];rfl
     ·rw [qY B1,gS (show iB (hJ n) a (k,i,true,true) (_,_,2)=some (.inr (.inl (_,_))) from rfl)];rfl
end
noncomputable section
set_option maxRecDepth 10000
set_option maxHeartbeats 4000000
def kM (a0:Rp):Option (Cl×Bool):=
 (aAP a0).bind λv1=>
 bif !v1.2.2 then
 (some (((⟨0,(⟨0,(⟨0,[],[]⟩:Qv),[],[]⟩:Rp),(⟨0,(⟨0,[],[]⟩:Qv),[],[]⟩:Rp),[],[],[],[],[]⟩:Cl),false)))
 else
 ((qP a0).bind λv3=>
 some (((⟨1,v3,(⟨0,(⟨0,[],[]⟩:Qv),[],[]⟩:Rp),v1.1,v1.2.1,[],[],[]⟩:Cl),true)))
theorem aBc (a0:Rp) (r:(Cl×Bool)) (h:kM a0=some r):HasC Tryz.prog 27 [.agg (eR a0)] (.tuple [.agg (eC r.1),.bl r.2]):=by
 refine aKT aJ (rvs:=[.cell 2 53,.tmp 3]) (ns:=nmA) Tryz.func27 k k Tryz.ntmps27 k k k (λW=>?_);refine aEh<|rB<|rB<|jX (λw0_2 S0_2 r0_2=>?_);refine jX (λw0_3 S0_3 r0_3=>?_);refine jX (λw0_4 S0_4 r0_4=>?_);refine jX (λw0_5 S0_5 r0_5=>?_);exact uO<|aEg<|sS<|se (wb k) k<|se (bX aJ k k) k<|jY k2<|sn<|tn<|sS<|lpS k8<|oB h λv1 hv1 h=>se (AEff.conv (aDO (x:= .tuple [.own 2 0 (v1.1.map eR).length,.own 3 0 (v1.2.1.map eM).length,.bl v1.2.2]) (nb:=[(2,⟨6,cF (v1.1.map eR)⟩),(3,⟨3,cF (v1.2.1.map eM)⟩)]) (aLL a0 v1 hv1) k (by rfl) k k (dE (cZ.good _) (dE (aX.good _) (dE aQ qD))) (fX (vrR k r0_2 r0_3 r0_4 r0_5) nA)) (v':= .tuple [.own 2 0 v1.1.length,.own 3 0 v1.2.1.length,.bl v1.2.2]) (ed':=[(2,some ⟨6,v1.1.map (ow eR)⟩),(3,some ⟨3,v1.2.1.map (ow eM)⟩)]) (by simp only [aH]) (pE (nb':=[(2,⟨6,v1.1.map (ow eR)⟩),(3,⟨3,v1.2.1.map (ow eM)⟩)]) (by simp only [dX]))) k<|gJ k2<|se (bA k k (by intro _ h;cases h)) k<|se (bA k k (by intro _ h;cases h)) k<|se (bA k k (by intro _ h;cases h)) k<|jY k2<|jY k2<|jY k2<|sn<|tn<|sQ<|sS<|gJ k2<|se (dI k) k<|sn<|tn<|cN k h (λ_ h=>sS<|se (fW aJ k k k k k k) k<|se (ws k) k<|jY k2<|sn<|tn<|aE<|aC<|sp h (bD k k k (cU k (bL (yU (aU (k) (aU (k) (aU (k) (aU (k) (aU (k) (aU (k) (aU (k) (aU (k) (aU (k) (aU (k) (aU (k) (aU (k) (aU (k) (aU (k) (aU (k) (aU (k) (aU (k) (aU (k) fA))))))))))))))))))) (bL (k) eG))))) λ_ h=>aG<|tn<|sS<|lpS k8<|oB h λv3 hv3 h=>se (cRK (aDY a0 v3 hv3) k3 (fX (vrR k r0_2 r0_3 r0_4 r0_5) nA)) k<|gJ k2<|gJ k2<|se (fW aJ k k k k k k) k<|se (ws k) k<|jY k2<|sn<|tn<|aE<|sp h (bD k k k (cU k (bL (yU (aU (k) (aU (k) (aU (k) (aU (cW cA k k) (aU (cW cA k k) (aU (cW cA k k) (aU (cW aX k k) (aU (k) (aU (k) (aU (k) (aU (k) (aU (k) (aU (k) (aU (cW cZ k k) (aU (cW aX k k) (aU (k) (aU (k) (aU (k) fA))))))))))))))))))) (bL (k) eG))))
def pZ (a0:Rp):Option (Int×Int×Int×(List Int)×(List Int)×(List Int)×(List Mt)×(List Rp)×(List Mt)×Bool):=
 (aAS a0).bind λv1=>
 bif !v1.2.2 then
 (some (0,0,0,[],[],[],[],[],[],false))
 else
 ((xC a0).bind λv3=>
 some (1,v3.p,v3.q.n,v3.q.src,v3.q.tgt,v3.dims,v3.maps,v1.1,v1.2.1,true))
theorem aFd (a0:Rp) (r:(Int×Int×Int×(List Int)×(List Int)×(List Int)×(List Mt)×(List Rp)×(List Mt)×Bool)) (h:pZ a0=some r):HasE Tryz.prog 26 [.agg (eR a0)] [] 0 (.tuple [.agg [.int r.1,.int r.2.1,.int r.2.2.1,.own 1 0 r.2.2.2.1.length,.own 2 0 r.2.2.2.2.1.length,.own 3 0 r.2.2.2.2.2.1.length,.own 4 0 r.2.2.2.2.2.2.1.length,.int 0,.int 0,.nil 1,.nil 1,.nil 1,.nil 3,.own 5 0 r.2.2.2.2.2.2.2.1.length,.own 6 0 r.2.2.2.2.2.2.2.2.1.length,.nil 3,.nil 1,.nil 2],.bl r.2.2.2.2.2.2.2.2.2]) [(1,⟨1,r.2.2.2.1.map (ow eI)⟩),(2,⟨1,r.2.2.2.2.1.map (ow eI)⟩),(3,⟨1,r.2.2.2.2.2.1.map (ow eI)⟩),(4,⟨3,r.2.2.2.2.2.2.1.map (ow eM)⟩),(5,⟨6,r.2.2.2.2.2.2.2.1.map eR⟩),(6,⟨3,r.2.2.2.2.2.2.2.2.1.map (ow eM)⟩)]:=by
 exact aBf aJ (rvs:=[.cell 2 53,.tmp 3]) (ns:=nmA.drop 0) Tryz.func26 k k Tryz.ntmps26 k k<|sR<|ae (wb k) k<|ae (bX aJ k k) k<|aT k2<|sR<|lp k8<|oB h λv1 hv1 h=>ae (aCN (σ:=sg []) (σ':=sg [(2,0),(3,1)]) (touch:=[]) (news:=[2,3]) (hl2:=[(2,⟨6,v1.1.map eR⟩),(3,⟨3,v1.2.1.map (ow eM)⟩)]) (n':=4) (r2:= .tuple [.own 2 0 v1.1.length,.own 3 0 v1.2.1.length,.bl v1.2.2]) (aLO a0 v1 hv1) k k ⟨_,_,k,(.inl ⟨_,_,k,k,⟨_,_,k,k,⟨_,_,k,⟨k,k⟩,⟨_,_,k,⟨k,k⟩,⟨_,_,k,⟨k,k⟩,⟨_,_,k,⟨k,k⟩,k⟩⟩⟩⟩⟩⟩),k⟩ aQ k k k ⟨⟨_,k,k,.inl ⟨k,cZ.plainE _⟩⟩,k,⟨_,k,k,.inl ⟨k,aX.plainO _⟩⟩,k,aQ⟩ k (.inr ⟨_,_,k,k,⟨_,_,k,⟨k,k,(by simp only [aH,lA,lT,lR,lC,lN]),k⟩,⟨_,_,k,⟨k,k,(by simp only [aH,lA,lT,lR,lC,lN]),k⟩,⟨_,_,k,k,k⟩⟩⟩⟩) k ⟨k,cZ.tamdE _ _,⟨k,aX.tamd _ _,aQ⟩⟩ k k) k<|am k k<|ae (bA k k (by intro _ h;cases h)) k<|ae (bA k k (by intro _ h;cases h)) k<|ae (bA k k (by intro _ h;cases h)) k<|aa k k<|aa k k<|aT k2<|sQ<|sR<|am k k<|ae (dI k) k<|an<|tn<|cN k h (λ_ h=>sR<|ae (fW aJ k k k k k k) k<|ae (ws k) k<|aT k2<|aE<|aC<|sp h ⟨mN [(2,.ptr 0 0 0),(3,.bl false)] [(0,⟨18,[[.int 0,.int 0,.int 0,.own 1 0 ([].length),.own 2 0 ([].length),.own 3 0 ([].length),.own 4 0 ([].length),.int 0,.int 0,.nil 1,.nil 1,.nil 1,.nil 3,.own 5 0 ([].length),.own 6 0 ([].length),.nil 3,.nil 1,.nil 2]]⟩),(1,⟨1,List.map (ow eI) []⟩),(2,⟨1,List.map (ow eI) []⟩),(3,⟨1,List.map (ow eI) []⟩),(4,⟨3,List.map (ow eM) []⟩),(5,⟨6,List.map eR []⟩),(6,⟨3,List.map (ow eM) []⟩)] 7 ⟨0,false,none,true⟩,(eY (σ:=sg [(0,1)]) (bG k2) (hX ⟨_,k,k,.inr ⟨_,_,k,⟨_,_,k,k,⟨_,_,k,k,⟨_,_,k,k,⟨_,_,k,⟨k,k,k,k⟩,⟨_,_,k,⟨k,k,k,k⟩,⟨_,_,k,⟨k,k,k,k⟩,⟨_,_,k,⟨k,k,k,k⟩,⟨_,_,k,k,⟨_,_,k,k,⟨_,_,k,aQ,⟨_,_,k,aQ,⟨_,_,k,aQ,⟨_,_,k,aQ,⟨_,_,k,⟨k,k,k,k⟩,⟨_,_,k,⟨k,k,k,k⟩,⟨_,_,k,aQ,⟨_,_,k,aQ,⟨_,_,k,aQ,k⟩⟩⟩⟩⟩⟩⟩⟩⟩⟩⟩⟩⟩⟩⟩⟩⟩⟩,k⟩⟩ k<|hX k k<|hX k k<|hX k k<|hX k k<|hX k k<|hX k k<|aQ) k),k,⟨_,k,.inr ⟨(by simp),k,k⟩⟩,⟨k,k,k,k,k,k,aQ⟩⟩) λ_ h=>aG<|tn<|sR<|lp k8<|oB h λv3 hv3 h=>ae (cR (aFr a0 v3 hv3) k3 (aL (eV k) aO)) k<|am k k<|am k k<|ae (fW aJ k k k k k k) k<|ae (ws k) k<|aT k2<|aE<|sp h ⟨mN [(2,.ptr 0 0 0),(3,.bl true)] [(0,⟨18,[[.int 1,.int v3.p,.int v3.q.n,.own 1 0 v3.q.src.length,.own 2 0 v3.q.tgt.length,.own 3 0 v3.dims.length,.own 4 0 v3.maps.length,.int 0,.int 0,.nil 1,.nil 1,.nil 1,.nil 3,.own 5 0 v1.1.length,.own 6 0 v1.2.1.length,.nil 3,.nil 1,.nil 2]]⟩),(1,⟨1,v3.q.src.map (ow eI)⟩),(2,⟨1,v3.q.tgt.map (ow eI)⟩),(3,⟨1,v3.dims.map (ow eI)⟩),(4,⟨3,v3.maps.map (ow eM)⟩),(5,⟨6,v1.1.map eR⟩),(6,⟨3,v1.2.1.map (ow eM)⟩)] 7 ⟨0,false,none,true⟩,(gT [1,4,5,6,7,2,3] (bG k2) (eJ k<|bN k<|bN k<|bN k<|bW (aX.plainO _) k<|bW (cZ.plainE _) k<|bW (aX.plainO _) k<|aQ) k4),k,⟨_,k,.inr ⟨(by simp),k,k⟩⟩,⟨k,k,k,k,k,k,aQ⟩⟩
end
noncomputable section
def aLV (c:Nat) (F G:Nat→Nat→Int):Nat→Nat→Int:=λi j=>if j<c then F i j else G i (j - c)
theorem aVM (r c d:Nat) (F G:Nat→Nat→Int):aAl r c F++aAl r d G=(List.range (c+d)).map λk=>fC r λi=>aLV c F G i k:=by
 unfold aAl;rw [List.range_add,List.map_append,List.map_map];congr 1
 ·refine uJ λk hk=>jL λi _=>?_;simp only [aLV];rw [aW (List.mem_range.1 hk)]
 ·refine uJ λk hk=>?_;show _=fC r λi=>aLV c F G i (c+k);refine jL λi _=>?_;simp only [aLV];rw [aZ (by omega),Nat.add_sub_cancel_left]
theorem aPr (r c:Nat) (F G:Nat→Nat→Int): ∀ s,bY r c F++bY s c G=bY (r+s) c λi j=>if i<r then F i j else G (i - r) j
 |0=>by
  rw [show bY 0 c G=[] by simp [bY],List.append_nil];exact cH λi j hi _=>by rw [aW hi]
 |s+1=>by
  rw [←aHx s c G,←List.append_assoc,aPr r c F G s,show r+(s+1)=r+s+1 by omega,←aHx (r+s) c];congr 1;refine jL λj _=>?_;rw [aZ (by omega),Nat.add_sub_cancel_left]
section
variable {d c e:Nat} (hd:d≤4) (hc:c≤64) (he:e≤4) (F G:Nat→Nat→Int)
include hd hc he
theorem aVN:aBC ⟨d,c,bY d c F⟩ ⟨d,e,bY d e G⟩=some ⟨d,(c+e:Nat),bY d (c+e) (aLV c F G)⟩:=by
 have m1:=Nat.mul_le_mul hd hc;have m2:=Nat.mul_le_mul hd he;have m3:=Nat.mul_le_mul hd (show c+e≤68 by omega);unfold aBC;rw [aIH (by omega) (by omega) (by omega),aA,aIH (by omega) (by omega) (by omega),aA,bH (by simp [aAl];omega),aM,aVM,aAt (by omega) (by omega) (by omega)];rfl
theorem aPs:wJ ⟨d,c,bY d c F⟩ ⟨d,e,bY d e G⟩=some ⟨d,(c+e:Nat),bY d (c+e) (aLV c F G)⟩:=by
 have m1:=Nat.mul_le_mul hc hd;have m2:=Nat.mul_le_mul he hd;have m3:=Nat.mul_le_mul (show c+e≤68 by omega) hd;have m4:=Nat.mul_le_mul hd (show c+e≤68 by omega);unfold wJ;rw [aBB (by omega) (by omega) (by omega),aA];simp only [List.nil_append,List.length_nil,dZ];rw [bH (by omega),aM,aBB (by omega) (by omega) (by omega),aA];simp only [dZ];rw [bH (by omega),aM,aPr,show wr ((c:Int)+(e:Int))=((c+e:Nat):Int) by rw [dV (by omega)];omega,aBB (by omega) (by omega) (by omega),aA];rfl
end
section
variable {a:Rp} (ra:wY a=true) {rs:List Rp} {ms:List (List Mt)} (G:GdL a rs ms) (h8:rs.length≤8) {f:Bool}
include ra G h8
theorem aVO {v:Nat} (hv:v<a.dims.length) {x1:List Mt×Int} (hx:x1.2=(v:Int)): ∀ (d k:Nat),k+d=ms.length→ ∀ (c:Nat) (F:Nat→Nat→Int),c≤4*k→
  ∃ Q:Int×Int×List Int,Lp (oU (rs,ms,f) x1) ((dN a v:Int),(c:Int),bY (dN a v) c F,(k:Int))=some Q∧Lp (oW (rs,ms,f) x1) ((dN a v:Int),(c:Int),bY (dN a v) c F,(k:Int))=some Q∧Q.2.2.length≤1048576
 |0,k,hk,c,F,hc=>by
  have R:=aEo ra;have hl:=G.len;have dv:=(R.d v hv).2;have m1:=Nat.mul_le_mul dv (show c≤64 by omega);refine ⟨((dN a v:Int),(c:Int),bY (dN a v) c F),gS ?_,gS ?_,by rw [dZ];omega⟩
  ·unfold oU;simp only;rw [gN (by omega),aR]
  ·unfold oW;simp only;rw [gN (by omega),aR]
 |d+1,k,hk,c,F,hc=>by
  have R:=aEo ra;have hl:=G.len;have dv:=(R.d v hv).2;have hkm:k<ms.length:=by omega
  have g:=G.get k (by omega);obtain ⟨P,e,f'⟩:=g.m;have hr:=aEo g.v
  have hn:(rs[k]?.getD ⟨0,⟨0,[],[]⟩,[],[]⟩).dims.length=a.dims.length:=by
   have h1:=(nX (aCL g.v).2.1).2.1;have h2:=g.q;generalize (rs[k]?.getD ⟨0,⟨0,[],[]⟩,[],[]⟩)=r at*;rw [h2] at h1;have h3:=(nX (aCL ra).2.1).2.1;omega
  have dr:=(hr.d v (by omega)).2
  have hat:cY (ms[k]?.getD []) (v:Int)=some ⟨dN a v,dN (rs[k]?.getD ⟨0,⟨0,[],[]⟩,[],[]⟩) v,bY (dN a v) (dN (rs[k]?.getD ⟨0,⟨0,[],[]⟩,[],[]⟩) v) (P v)⟩:=by
   rw [e];exact aAT (by omega)
  obtain ⟨Q,q1,q2,q3⟩:=aVO hv hx d (k+1) (by omega) (c+dN (rs[k]?.getD ⟨0,⟨0,[],[]⟩,[],[]⟩) v) (aLV c F (P v)) (by omega);refine ⟨Q,?_,?_,q3⟩
  ·rw [qY ?_];exact q1;unfold oU;simp only;rw [gA hkm,aM,iN [] hkm,aA,hx,hat,aA,aVN dv (by omega) dr,aA,bZ hkm (by omega)]
  ·rw [qY ?_];exact q2;unfold oW;simp only;rw [gA hkm,aM,iN [] hkm,aA,hx,hat,aA,aPs dv (by omega) dr,aA,bZ hkm (by omega)]
theorem aPt: ∀ (d v:Nat),v+d=a.dims.length→ ∀ acc:List Mt,acc.length=v→(∀ m∈acc,bM m)→
  ∃ L:List Mt,Lp (oV a (rs,ms,f)) (acc,(v:Int))=some L∧Lp (oX a (rs,ms,f)) (acc,(v:Int))=some L∧L.length=a.dims.length∧ ∀ m∈L,bM m
 |0,v,hv,acc,ha,hm=>by
  refine ⟨acc,gS ?_,gS ?_,by omega,hm⟩
  ·unfold oV;simp only;rw [gN (by omega),aR]
  ·unfold oX;simp only;rw [gN (by omega),aR]
 |d+1,v,hv,acc,ha,hm=>by
  have R:=aEo ra;have hva:v<a.dims.length:=by omega
  have h5:=R.n5;have dv:=R.d v hva;obtain ⟨Q,q1,q2,q3⟩:=aVO ra G h8 (f:=f) hva (x1:=(acc,(v:Int))) rfl ms.length 0 (by omega) 0 (λ_ _=>0) (by omega)
  obtain ⟨L,l1,l2,l3,l4⟩:=aPt d (v+1) (by omega) (acc++[⟨Q.1,Q.2.1,Q.2.2⟩]) (by simp;omega) (λm hm'=>by
   rcases eW.1 hm' with h|h
   ·exact hm m h
   ·rcases List.mem_singleton.1 h with rfl
    exact ⟨q3,trivial⟩)
  have z1:=aGJ (r:=dN a v) (c:=0) (by omega);have z2:=aEl (r:=dN a v) (c:=0) (by omega);refine ⟨L,?_,?_,l3,l4⟩
  ·rw [qY ?_];exact l1;unfold oV;simp only;rw [gA hva,aM,iN 0 hva,aA,dv.1,show (0:Int)=((0:Nat):Int) from rfl,z1,aA,q1,aA,bH (by omega),aM,bZ hva (by omega)]
  ·rw [qY ?_];exact l2;unfold oX;simp only;rw [gA hva,aM,iN 0 hva,aA,dv.1,show (0:Int)=((0:Nat):Int) from rfl,z2,aA,q2,aA,bH (by omega),aM,bZ hva (by omega)]
end
theorem GdL.b {a:Rp} : ∀ {rs:List Rp} {ms:List (List Mt)},GdL a rs ms→ ∀ r∈rs,bR r
 | [],[],_,r,hr=>by simp at hr
 | [],_::_,h,_,_=>h.elim
 |_::_,[],h,_,_=>h.elim
 |x::rs,m::ms,h,r,hr=>by
  rcases fE.1 hr with e|h2
  ·rw [e];exact h.1.b
  ·exact GdL.b h.2 r h2
theorem aTL {a:Rp} (ha:bR a): ∃ rs L f,aAP a=some (rs,L,f)∧aAS a=some (rs,L,f)∧rs.length≤8∧(∀ r∈rs,bR r)∧L.length≤5∧ ∀ m∈L,bM m:=by
 unfold aAP aAS;rw [aSg ha,aAh ha,aA,aA];cases hv:wY a with
 |false=>exact ⟨[],[],false,rfl,rfl,by simp,by simp,by simp,by simp⟩
 |true=>
  have R:=aEo hv;have h5:=R.n5;obtain ⟨t0,t8,t4⟩:=aOA hv;rw [dW,aR,aR,aNR t4 (by omega),aPq ha hv,aA,aA];by_cases hz:a.dims.sum=0
  ·rw [bH hz,aM];exact ⟨[],[],false,rfl,rfl,by simp,by simp,by simp,by simp⟩
  ·rw [dU hz,aR,aR];obtain ⟨rs,ms,f,p1,p2,G,l8⟩:=aLU 9 a ha hv (by omega) (by omega);rw [p1,p2,aA,aA];cases f with
   |false=>exact ⟨[],[],false,rfl,rfl,by simp,by simp,by simp,by simp⟩
   |true=>
    obtain ⟨L,l1,l2,l3,l4⟩:=aPt hv G (by omega) (f:=true) a.dims.length 0 (by omega) [] rfl (by simp);simp only [dW,aR];rw [show ((0:Nat):Int)=0 from rfl] at l1 l2;rw [l1,l2];exact ⟨rs,L,true,rfl,rfl,by omega,G.b,by omega,l4⟩
def cP (a:Rp) (rs:List Rp) (L:List Mt) (f:Bool):Cl:=bif f then ⟨1,a,noR,rs,L,[],[],[]⟩ else ⟨0,noR,noR,[],[],[],[],[]⟩
theorem aYv {a:Rp} (ha:bR a): ∃ rs L f,kM a=some (cP a rs L f,f)∧pZ a=some ((cP a rs L f).kind,(cP a rs L f).rep.p,(cP a rs L f).rep.q.n,(cP a rs L f).rep.q.src,(cP a rs L f).rep.q.tgt,(cP a rs L f).rep.dims,(cP a rs L f).rep.maps,(cP a rs L f).parts,(cP a rs L f).maps,f)∧rs.length≤8∧(∀ r∈rs,bR r)∧L.length≤5∧ ∀ m∈L,bM m:=by
 obtain ⟨rs,L,f,h1,h2,h3,h4,h5,h6⟩:=aTL ha;refine ⟨rs,L,f,?_,?_,h3,h4,h5,h6⟩
 ·unfold kM;rw [h1,aA];cases f with
  |false=>rfl
  |true=>rw [dW,aR,aIs ha];rfl
 ·unfold pZ;rw [h2,aA];cases f with
  |false=>rfl
  |true=>rw [dW,aR,aPp ha];rfl
end
noncomputable section
set_option maxRecDepth 10000
set_option maxHeartbeats 4000000
def mI (a0:Rp):Option Bool:=
 (aDx a0 1048576).bind λv1=>
 bif decide (v1<0) then
 (some (true))
 else
 ((rL a0).bind λv3=>
 (pZ v3).bind λv4=>
 (rL a0).bind λv5=>
 (kM v5).bind λv6=>
 (qQ v6.1 (⟨v4.1,(⟨v4.2.1,(⟨v4.2.2.1,v4.2.2.2.1,v4.2.2.2.2.1⟩:Qv),v4.2.2.2.2.2.1,v4.2.2.2.2.2.2.1⟩:Rp),(⟨0,(⟨0,[],[]⟩:Qv),[],[]⟩:Rp),v4.2.2.2.2.2.2.2.1,v4.2.2.2.2.2.2.2.2.1,[],[],[]⟩:Cl)).bind λv7=>
 bif !v7 then
 (some (false))
 else
 (bif !(v6.2==v4.2.2.2.2.2.2.2.2.2) then
 (some (false))
 else
 ((rL a0).bind λv10=>
 (rM v5 v10).bind λv11=>
 bif !v11 then
 (some (false))
 else
 ((qN v5 1).bind λv13=>
 bif decide (v13.1.length=v5.q.src.length) then
 (bif decide (v13.2.1.length=v5.q.tgt.length) then
 (bif decide (v13.2.2.1.length=v5.dims.length) then
 (bif decide (v13.2.2.2.1.length=v5.maps.length) then
 (bif decide (v13.2.2.2.2<0) then
 (some (false))
 else
 ((qQ v6.1 (⟨v4.1,(⟨v4.2.1,(⟨v4.2.2.1,v4.2.2.2.1,v4.2.2.2.2.1⟩:Qv),v4.2.2.2.2.2.1,v4.2.2.2.2.2.2.1⟩:Rp),(⟨0,(⟨0,[],[]⟩:Qv),[],[]⟩:Rp),v4.2.2.2.2.2.2.2.1,v4.2.2.2.2.2.2.2.2.1,[],[],[]⟩:Cl)).bind λv19=>
 bif !v19 then
 (some (false))
 else
 (bif !(v6.2==v4.2.2.2.2.2.2.2.2.2) then
 (some (false))
 else
 ((vS v6.1 1).bind λv22=>
 bif decide (v22.1.length=v6.1.rep.q.src.length) then
 (bif decide (v22.2.1.length=v6.1.rep.q.tgt.length) then
 (bif decide (v22.2.2.1.length=v6.1.rep.dims.length) then
 (bif decide (v22.2.2.2.1.length=v6.1.rep.maps.length) then
 (bif decide (v22.2.2.2.2.1.length=v6.1.other.q.src.length) then
 (bif decide (v22.2.2.2.2.2.1.length=v6.1.other.q.tgt.length) then
 (bif decide (v22.2.2.2.2.2.2.1.length=v6.1.other.dims.length) then
 (bif decide (v22.2.2.2.2.2.2.2.1.length=v6.1.other.maps.length) then
 (bif decide (v22.2.2.2.2.2.2.2.2.1.length=v6.1.parts.length) then
 (bif decide (v22.2.2.2.2.2.2.2.2.2.1.length=v6.1.maps.length) then
 (bif decide (v22.2.2.2.2.2.2.2.2.2.2.1.length=v6.1.bars.length) then
 (bif decide (v22.2.2.2.2.2.2.2.2.2.2.2.1.length=v6.1.theta.length) then
 (bif decide (v22.2.2.2.2.2.2.2.2.2.2.2.2.1.length=v6.1.subs.length) then
 ((qO (⟨v6.1.kind,(⟨v6.1.rep.p,(⟨v6.1.rep.q.n,v22.1,v22.2.1⟩:Qv),v22.2.2.1,v22.2.2.2.1⟩:Rp),(⟨v6.1.other.p,(⟨v6.1.other.q.n,v22.2.2.2.2.1,v22.2.2.2.2.2.1⟩:Qv),v22.2.2.2.2.2.2.1,v22.2.2.2.2.2.2.2.1⟩:Rp),v22.2.2.2.2.2.2.2.2.1,v22.2.2.2.2.2.2.2.2.2.1,v22.2.2.2.2.2.2.2.2.2.2.1,v22.2.2.2.2.2.2.2.2.2.2.2.1,v22.2.2.2.2.2.2.2.2.2.2.2.2.1⟩:Cl) 1).bind λv36=>
 bif decide (v36<0) then
 (some (false))
 else
 (bif !decide (v36=v22.2.2.2.2.2.2.2.2.2.2.2.2.2) then
 (some (false))
 else
 ((rL a0).bind λv39=>
 (kM v39).bind λv40=>
 (qQ v40.1 (⟨v4.1,(⟨v4.2.1,(⟨v4.2.2.1,v4.2.2.2.1,v4.2.2.2.2.1⟩:Qv),v4.2.2.2.2.2.1,v4.2.2.2.2.2.2.1⟩:Rp),(⟨0,(⟨0,[],[]⟩:Qv),[],[]⟩:Rp),v4.2.2.2.2.2.2.2.1,v4.2.2.2.2.2.2.2.2.1,[],[],[]⟩:Cl)).bind λv41=>
 bif !v41 then
 (some (false))
 else
 (bif !(v40.2==v4.2.2.2.2.2.2.2.2.2) then
 (some (false))
 else
 ((qO (⟨v6.1.kind,(⟨v6.1.rep.p,(⟨v6.1.rep.q.n,v22.1,v22.2.1⟩:Qv),v22.2.2.1,v22.2.2.2.1⟩:Rp),(⟨v6.1.other.p,(⟨v6.1.other.q.n,v22.2.2.2.2.1,v22.2.2.2.2.2.1⟩:Qv),v22.2.2.2.2.2.2.1,v22.2.2.2.2.2.2.2.1⟩:Rp),v22.2.2.2.2.2.2.2.2.1,v22.2.2.2.2.2.2.2.2.2.1,v22.2.2.2.2.2.2.2.2.2.2.1,v22.2.2.2.2.2.2.2.2.2.2.2.1,v22.2.2.2.2.2.2.2.2.2.2.2.2.1⟩:Cl) 1).bind λv44=>
 bif decide (v44<0) then
 (some (false))
 else
 (bif !decide (v44=v22.2.2.2.2.2.2.2.2.2.2.2.2.2) then
 (some (false))
 else
 (some (true))))))))
 else none)
 else none)
 else none)
 else none)
 else none)
 else none)
 else none)
 else none)
 else none)
 else none)
 else none)
 else none)
 else none))))
 else none)
 else none)
 else none)
 else none))))
theorem aCU (a0:Rp) (r:Bool) (h:mI a0=some r):HasC Tryz.prog 6 [.agg (eR a0)] (.bl r):=by
 refine aUS aJ (rvs:=[.tmp 2]) (ns:=nmA) Tryz.func6 k k Tryz.ntmps6 k k k (λW=>?_);refine aEh<|rB<|rB<|jX (λw0_2 S0_2 r0_2=>?_);refine jX (λw0_3 S0_3 r0_3=>?_);refine jX (λw0_4 S0_4 r0_4=>?_);refine jX (λw0_5 S0_5 r0_5=>?_);refine uO<|aEg<|sS<|se (wb k) k<|jY k2<|sn<|tn<|sS<|jY k2<|sn<|tn<|sS<|lpS k8<|gJ k2<|oB h λv1 hv1 h=>se (zH (aNN a0 1048576 v1 hv1) k (fX (vrR k r0_2 r0_3 r0_4 r0_5) (wkS k nA))) k<|jY k2<|sn<|tn<|sQ<|sS<|gJ k2<|cmS k4<|sn<|tn<|cN k h (λ_ h=>sS<|jY k2<|sn<|tn<|aE<|aC<|gK h k2) λ_ h=>?_;refine aG<|tn<|sS<|lpS k8<|oB h λv3 hv3 h=>se (cRK (aBk a0 v3 hv3) k3 (fX (vrR k r0_2 r0_3 r0_4 r0_5) nA)) k<|oB h λv4 hv4 h=>se (aCN (σ:=sg []) (σ':=sg [(5,1),(6,2),(7,3),(8,4),(9,5),(10,6)]) (touch:=[1,2,3,4]) (news:=[5,6,7,8,9,10]) (hl2:=[(5,⟨1,v4.2.2.2.1.map (ow eI)⟩),(6,⟨1,v4.2.2.2.2.1.map (ow eI)⟩),(7,⟨1,v4.2.2.2.2.2.1.map (ow eI)⟩),(8,⟨3,v4.2.2.2.2.2.2.1.map (ow eM)⟩),(9,⟨6,v4.2.2.2.2.2.2.2.1.map eR⟩),(10,⟨3,v4.2.2.2.2.2.2.2.2.1.map (ow eM)⟩)]) (n':=11) (r2:= .tuple [.agg [.int v4.1,.int v4.2.1,.int v4.2.2.1,.own 5 0 v4.2.2.2.1.length,.own 6 0 v4.2.2.2.2.1.length,.own 7 0 v4.2.2.2.2.2.1.length,.own 8 0 v4.2.2.2.2.2.2.1.length,.int 0,.int 0,.nil 1,.nil 1,.nil 1,.nil 3,.own 9 0 v4.2.2.2.2.2.2.2.1.length,.own 10 0 v4.2.2.2.2.2.2.2.2.1.length,.nil 3,.nil 1,.nil 2],.bl v4.2.2.2.2.2.2.2.2.2]) (aFd v3 v4 hv4) k k ⟨_,_,k,(.inr ⟨⟨_,_,k,(eU k),⟨_,_,k,(eU k),⟨_,_,k,(eD cA k k),⟨_,_,k,(eD cA k k),⟨_,_,k,(eD cA k k),⟨_,_,k,(eD aX k k),k⟩⟩⟩⟩⟩⟩,k,k⟩),k⟩ aQ k k k ⟨⟨_,k,k,.inl ⟨k,cA.plainO _⟩⟩,k,⟨_,k,k,.inl ⟨k,cA.plainO _⟩⟩,k,⟨_,k,k,.inl ⟨k,cA.plainO _⟩⟩,k,⟨_,k,k,.inl ⟨k,aX.plainO _⟩⟩,k,⟨_,k,k,.inl ⟨k,cZ.plainE _⟩⟩,k,⟨_,k,k,.inl ⟨k,aX.plainO _⟩⟩,k,aQ⟩ k (.inr ⟨_,_,k,k,⟨_,_,k,⟨_,_,k,k,⟨_,_,k,k,⟨_,_,k,k,⟨_,_,k,⟨k,k,(by simp only [aH,lA,lT,lR,lC,lN]),k⟩,⟨_,_,k,⟨k,k,(by simp only [aH,lA,lT,lR,lC,lN]),k⟩,⟨_,_,k,⟨k,k,(by simp only [aH,lA,lT,lR,lC,lN]),k⟩,⟨_,_,k,⟨k,k,(by simp only [aH,lA,lT,lR,lC,lN]),k⟩,⟨_,_,k,k,⟨_,_,k,k,⟨_,_,k,aQ,⟨_,_,k,aQ,⟨_,_,k,aQ,⟨_,_,k,aQ,⟨_,_,k,⟨k,k,(by simp only [aH,lA,lT,lR,lC,lN]),k⟩,⟨_,_,k,⟨k,k,(by simp only [aH,lA,lT,lR,lC,lN]),k⟩,⟨_,_,k,aQ,⟨_,_,k,aQ,⟨_,_,k,aQ,k⟩⟩⟩⟩⟩⟩⟩⟩⟩⟩⟩⟩⟩⟩⟩⟩⟩⟩,⟨_,_,k,k,k⟩⟩⟩) k ⟨k,cA.tamd _ _,⟨k,cA.tamd _ _,⟨k,cA.tamd _ _,⟨k,aX.tamd _ _,⟨k,cZ.tamdE _ _,⟨k,aX.tamd _ _,aQ⟩⟩⟩⟩⟩⟩ k k) k<|gJ k2<|se (bA k k (by intro _ h;cases h)) k<|se (bA k k (by intro _ h;cases h)) k<|se (bX aJ k k) k<|se (ws k) k<|jY k2<|sn<|tn<|aI (t:=mN [(1,.ptr 0 0 0),(4,.ptr 11 0 0),(5,.bl v4.2.2.2.2.2.2.2.2.2)] [(0,⟨6,[[.int a0.p,.int a0.q.n,.sc w0_2,.sc w0_3,.sc w0_4,.sc w0_5]]⟩),(5,⟨1,v4.2.2.2.1.map (ow eI)⟩),(6,⟨1,v4.2.2.2.2.1.map (ow eI)⟩),(7,⟨1,v4.2.2.2.2.2.1.map (ow eI)⟩),(8,⟨3,v4.2.2.2.2.2.2.1.map (ow eM)⟩),(9,⟨6,v4.2.2.2.2.2.2.2.1.map eR⟩),(10,⟨3,v4.2.2.2.2.2.2.2.2.1.map (ow eM)⟩),(11,⟨18,[[.int v4.1,.int v4.2.1,.int v4.2.2.1,.own 5 0 v4.2.2.2.1.length,.own 6 0 v4.2.2.2.2.1.length,.own 7 0 v4.2.2.2.2.2.1.length,.own 8 0 v4.2.2.2.2.2.2.1.length,.int 0,.int 0,.nil 1,.nil 1,.nil 1,.nil 3,.own 9 0 v4.2.2.2.2.2.2.2.1.length,.own 10 0 v4.2.2.2.2.2.2.2.2.1.length,.nil 3,.nil 1,.nil 2]]⟩)] 12 ⟨0,true,zU W,false⟩) (bP (bG k2) (bO k<|bN k<|bN k<|bN k<|bW (aX.plainO _) k<|bW (cZ.plainE _) k<|bW (aX.plainO _) k<|eJ k<|aQ) k4)<|aI (aPJ (t:=1) (b:=0) k k k)<|aI (oG (b:=11) (b':=5) (i:=0) (j:=3) (es':=v4.2.2.2.1.map eI) k k k k (eD cA k k))<|aI (oG (b:=11) (b':=6) (i:=0) (j:=4) (es':=v4.2.2.2.2.1.map eI) k k k k (eD cA k k))<|aI (oG (b:=11) (b':=7) (i:=0) (j:=5) (es':=v4.2.2.2.2.2.1.map eI) k k k k (eD cA k k))<|aI (oG (b:=11) (b':=8) (i:=0) (j:=6) (es':=v4.2.2.2.2.2.2.1.map eM) k k k k (eD aX k k))<|aI (aCR (b:=11) (i:=0) (j:=9) (k':=1) k k k)<|aI (aCR (b:=11) (i:=0) (j:=10) (k':=1) k k k)<|aI (aCR (b:=11) (i:=0) (j:=11) (k':=1) k k k)<|aI (aCR (b:=11) (i:=0) (j:=12) (k':=3) k k k)<|aI (oG (b:=11) (b':=9) (i:=0) (j:=13) (es':=v4.2.2.2.2.2.2.2.1.map eR) k k k k (aMA cZ k k))<|aI (oG (b:=11) (b':=10) (i:=0) (j:=14) (es':=v4.2.2.2.2.2.2.2.2.1.map eM) k k k k (eD aX k k))<|aI (aCR (b:=11) (i:=0) (j:=15) (k':=3) k k k)<|aI (aCR (b:=11) (i:=0) (j:=16) (k':=1) k k k) ?_;refine aI (aCR (b:=11) (i:=0) (j:=17) (k':=2) k k k)<|aI (aPJ (t:=4) (b:=11) k k k)<|aI (t:=mN [(1,.ref [.int a0.p,.int a0.q.n,.sc w0_2,.sc w0_3,.sc w0_4,.sc w0_5]),(4,.ref [.int v4.1,.int v4.2.1,.int v4.2.2.1,.list 1 (v4.2.2.2.1.map eI),.list 1 (v4.2.2.2.2.1.map eI),.list 1 (v4.2.2.2.2.2.1.map eI),.list 3 (v4.2.2.2.2.2.2.1.map eM),.int 0,.int 0,.list 1 (List.map eI []),.list 1 (List.map eI []),.list 1 (List.map eI []),.list 3 (List.map eM []),.list 6 (v4.2.2.2.2.2.2.2.1.map eR),.list 3 (v4.2.2.2.2.2.2.2.2.1.map eM),.list 3 (List.map eB []),.list 1 (List.map eI []),.list 2 (List.map eS [])]),(5,.bl v4.2.2.2.2.2.2.2.2.2)] [] 12 ⟨0,true,zU W,false⟩) (bP (bG k2) aQ k4)<|aSs (ts:=[1,4,5]) (ds:=[.ref [.int a0.p,.int a0.q.n,.sc w0_2,.sc w0_3,.sc w0_4,.sc w0_5],.ref [.int v4.1,.int v4.2.1,.int v4.2.2.1,.list 1 (v4.2.2.2.1.map eI),.list 1 (v4.2.2.2.2.1.map eI),.list 1 (v4.2.2.2.2.2.1.map eI),.list 3 (v4.2.2.2.2.2.2.1.map eM),.int 0,.int 0,.list 1 (List.map eI []),.list 1 (List.map eI []),.list 1 (List.map eI []),.list 3 (List.map eM []),.list 6 (v4.2.2.2.2.2.2.2.1.map eR),.list 3 (v4.2.2.2.2.2.2.2.2.1.map eM),.list 3 (List.map eB []),.list 1 (List.map eI []),.list 2 (List.map eS [])],.bl v4.2.2.2.2.2.2.2.2.2]) k k k (λW' hbW'=>?_);have r0_2:=r0_2.keep (λb hb=>hbW' b (r0_2.lt b hb));have r0_3:=r0_3.keep (λb hb=>hbW' b (r0_3.lt b hb));have r0_4:=r0_4.keep (λb hb=>hbW' b (r0_4.lt b hb));have r0_5:=r0_5.keep (λb hb=>hbW' b (r0_5.lt b hb));refine aPL (λwn1 Sn1 rn1=>?_);refine aPL (λwn2 Sn2 rn2=>?_);refine aVt<|aEg ?_;change AC Tryz.prog _ _ (mN [(1,.sc wn1),(4,.sc wn2),(5,.bl v4.2.2.2.2.2.2.2.2.2)] [] 12 ⟨0,true,zU W',false⟩) _;refine sS<|se (zJ aJ rn1 k k k k k k k) k<|oB h λv5 hv5 h=>se (cRK (aBk a0 v5 hv5) k3 (fX (vrR k r0_2 r0_3 r0_4 r0_5) nA)) k<|se (bX aJ k k) k<|se (ws k) k<|sn<|tn<|sS<|lpS k8<|oB h λv6 hv6 h=>se (AEff.conv (aDO (x:= .tuple [.agg [.int v6.1.kind,.int v6.1.rep.p,.int v6.1.rep.q.n,.own 17 0 (v6.1.rep.q.src.map eI).length,.own 18 0 (v6.1.rep.q.tgt.map eI).length,.own 19 0 (v6.1.rep.dims.map eI).length,.own 20 0 (v6.1.rep.maps.map eM).length,.int v6.1.other.p,.int v6.1.other.q.n,.own 21 0 (v6.1.other.q.src.map eI).length,.own 22 0 (v6.1.other.q.tgt.map eI).length,.own 23 0 (v6.1.other.dims.map eI).length,.own 24 0 (v6.1.other.maps.map eM).length,.own 25 0 (v6.1.parts.map eR).length,.own 26 0 (v6.1.maps.map eM).length,.own 27 0 (v6.1.bars.map eB).length,.own 28 0 (v6.1.theta.map eI).length,.own 29 0 (v6.1.subs.map eS).length],.bl v6.2]) (nb:=[(17,⟨1,cF (v6.1.rep.q.src.map eI)⟩),(18,⟨1,cF (v6.1.rep.q.tgt.map eI)⟩),(19,⟨1,cF (v6.1.rep.dims.map eI)⟩),(20,⟨3,cF (v6.1.rep.maps.map eM)⟩),(21,⟨1,cF (v6.1.other.q.src.map eI)⟩),(22,⟨1,cF (v6.1.other.q.tgt.map eI)⟩),(23,⟨1,cF (v6.1.other.dims.map eI)⟩),(24,⟨3,cF (v6.1.other.maps.map eM)⟩),(25,⟨6,cF (v6.1.parts.map eR)⟩),(26,⟨3,cF (v6.1.maps.map eM)⟩),(27,⟨3,cF (v6.1.bars.map eB)⟩),(28,⟨1,cF (v6.1.theta.map eI)⟩),(29,⟨2,cF (v6.1.subs.map eS)⟩)]) (aBc v5 v6 hv6) k (by rfl) k k (dE (bU aQ (bU aQ (bU aQ (bU (cA.good _) (bU (cA.good _) (bU (cA.good _) (bU (aX.good _) (bU aQ (bU aQ (bU (cA.good _) (bU (cA.good _) (bU (cA.good _) (bU (aX.good _) (bU (cZ.good _) (bU (aX.good _) (bU (tB.good _) (bU (cA.good _) (bU (cV.good _) tC)))))))))))))))))) (dE aQ qD)) (fX (.inl (vaR k8)) nA)) (v':= .tuple [.agg [.int v6.1.kind,.int v6.1.rep.p,.int v6.1.rep.q.n,.own 17 0 v6.1.rep.q.src.length,.own 18 0 v6.1.rep.q.tgt.length,.own 19 0 v6.1.rep.dims.length,.own 20 0 v6.1.rep.maps.length,.int v6.1.other.p,.int v6.1.other.q.n,.own 21 0 v6.1.other.q.src.length,.own 22 0 v6.1.other.q.tgt.length,.own 23 0 v6.1.other.dims.length,.own 24 0 v6.1.other.maps.length,.own 25 0 v6.1.parts.length,.own 26 0 v6.1.maps.length,.own 27 0 v6.1.bars.length,.own 28 0 v6.1.theta.length,.own 29 0 v6.1.subs.length],.bl v6.2]) (ed':=[(17,some ⟨1,v6.1.rep.q.src.map (ow eI)⟩),(18,some ⟨1,v6.1.rep.q.tgt.map (ow eI)⟩),(19,some ⟨1,v6.1.rep.dims.map (ow eI)⟩),(20,some ⟨3,v6.1.rep.maps.map (ow eM)⟩),(21,some ⟨1,v6.1.other.q.src.map (ow eI)⟩),(22,some ⟨1,v6.1.other.q.tgt.map (ow eI)⟩),(23,some ⟨1,v6.1.other.dims.map (ow eI)⟩),(24,some ⟨3,v6.1.other.maps.map (ow eM)⟩),(25,some ⟨6,v6.1.parts.map (ow eR)⟩),(26,some ⟨3,v6.1.maps.map (ow eM)⟩),(27,some ⟨3,v6.1.bars.map (ow eB)⟩),(28,some ⟨1,v6.1.theta.map (ow eI)⟩),(29,some ⟨2,v6.1.subs.map (ow eS)⟩)]) (by simp only [aH]) (pE (nb':=[(17,⟨1,v6.1.rep.q.src.map (ow eI)⟩),(18,⟨1,v6.1.rep.q.tgt.map (ow eI)⟩),(19,⟨1,v6.1.rep.dims.map (ow eI)⟩),(20,⟨3,v6.1.rep.maps.map (ow eM)⟩),(21,⟨1,v6.1.other.q.src.map (ow eI)⟩),(22,⟨1,v6.1.other.q.tgt.map (ow eI)⟩),(23,⟨1,v6.1.other.dims.map (ow eI)⟩),(24,⟨3,v6.1.other.maps.map (ow eM)⟩),(25,⟨6,v6.1.parts.map (ow eR)⟩),(26,⟨3,v6.1.maps.map (ow eM)⟩),(27,⟨3,v6.1.bars.map (ow eB)⟩),(28,⟨1,v6.1.theta.map (ow eI)⟩),(29,⟨2,v6.1.subs.map (ow eS)⟩)]) (by simp only [dX]))) k<|gJ k2<|se (bA k k (by intro _ h;cases h)) k<|se (bA k k (by intro _ h;cases h)) k<|se (bX aJ k k) k<|se (ws k) k<|jY k2<|sn<|tn<|sQ<|sS<|lpS k8<|se (zJ aJ rn2 k k k k k k k) k<|oB h λv7 hv7 h=>se (zH (aCQ v6.1 (⟨v4.1,(⟨v4.2.1,(⟨v4.2.2.1,v4.2.2.2.1,v4.2.2.2.2.1⟩:Qv),v4.2.2.2.2.2.1,v4.2.2.2.2.2.2.1⟩:Rp),(⟨0,(⟨0,[],[]⟩:Qv),[],[]⟩:Rp),v4.2.2.2.2.2.2.2.1,v4.2.2.2.2.2.2.2.2.1,[],[],[]⟩:Cl) v7 hv7) k (fX (.inl (aBe (bT (eU k) (bT (eU k) (bT (eU k) (bT (eD cA k k) (bT (eD cA k k) (bT (eD cA k k) (bT (eD aX k k) (bT (eU k) (bT (eU k) (bT (eD cA k k) (bT (eD cA k k) (bT (eD cA k k) (bT (eD aX k k) (bT (eD cZ k k) (bT (eD aX k k) (bT (eD tB k k) (bT (eD cA k k) (bT (eD cV k k) aCq)))))))))))))))))))) (fX (.inl (eV k)) nA))) k ?_;refine se (dI k) k<|gJ k2<|sP h (λq8 h=>aBK 36 k q8<|iZ k k<|iZ k k<|iZ k k<|pkS k3<|sn<|tn<|dO k k<|sS<|jY k2<|sn<|tn<|aE<|aC<|gK h k2) λq8 h=>?_;refine aBK 36 k q8<|gJ k2<|gJ k2<|se (aQJ (by kernel_rfl) k k) k<|pkS k3<|sn<|tn<|cN k h (λ_ h=>sS<|jY k2<|sn<|tn<|aE<|aC<|gK h k2) λ_ h=>?_;refine aG<|tn<|sQ<|sQ<|aP fB<|lp k8<|ae (zJ aJ rn1 k k k k k k k) k<|oB h λv10 hv10 h=>ae (cRK (aBk a0 v10 hv10) k3 (fX (vrR k r0_2 r0_3 r0_4 r0_5) nA)) k<|oB h λv11 hv11 h=>ae (zH (aBl v5 v10 v11 hv11) k (fX (.inl (vaR k8)) (fX (.inl (vaR k8)) nA))) k<|ae (dI k) k<|an<|lL (by kernel_rfl)<|tn<|aI (t:=mN [(1,.sc wn1),(4,.sc wn2),(5,.bl v4.2.2.2.2.2.2.2.2.2),(6,.ptr 16 0 0),(7,.ptr 30 0 0),(8,.bl v6.2),(45,.bl (!v11))] [(12,⟨1,v5.q.src.map (ow eI)⟩),(13,⟨1,v5.q.tgt.map (ow eI)⟩),(14,⟨1,v5.dims.map (ow eI)⟩),(15,⟨3,v5.maps.map (ow eM)⟩),(16,⟨6,[oRp v5 12 13 14 15]⟩),(17,⟨1,v6.1.rep.q.src.map (ow eI)⟩),(18,⟨1,v6.1.rep.q.tgt.map (ow eI)⟩),(19,⟨1,v6.1.rep.dims.map (ow eI)⟩),(20,⟨3,v6.1.rep.maps.map (ow eM)⟩),(21,⟨1,v6.1.other.q.src.map (ow eI)⟩),(22,⟨1,v6.1.other.q.tgt.map (ow eI)⟩),(23,⟨1,v6.1.other.dims.map (ow eI)⟩),(24,⟨3,v6.1.other.maps.map (ow eM)⟩),(25,⟨6,v6.1.parts.map (ow eR)⟩),(26,⟨3,v6.1.maps.map (ow eM)⟩),(27,⟨3,v6.1.bars.map (ow eB)⟩),(28,⟨1,v6.1.theta.map (ow eI)⟩),(29,⟨2,v6.1.subs.map (ow eS)⟩),(30,⟨18,[[.int v6.1.kind,.int v6.1.rep.p,.int v6.1.rep.q.n,.own 17 0 v6.1.rep.q.src.length,.own 18 0 v6.1.rep.q.tgt.length,.own 19 0 v6.1.rep.dims.length,.own 20 0 v6.1.rep.maps.length,.int v6.1.other.p,.int v6.1.other.q.n,.own 21 0 v6.1.other.q.src.length,.own 22 0 v6.1.other.q.tgt.length,.own 23 0 v6.1.other.dims.length,.own 24 0 v6.1.other.maps.length,.own 25 0 v6.1.parts.length,.own 26 0 v6.1.maps.length,.own 27 0 v6.1.bars.length,.own 28 0 v6.1.theta.length,.own 29 0 v6.1.subs.length]]⟩)] 35 ⟨0,true,zU W',false⟩) (bP (bG k2) (bN k<|bN k<|bN k<|bW (aX.plainO _) k<|eJ k<|bN k<|bN k<|bN k<|bW (aX.plainO _) k<|bN k<|bN k<|bN k<|bW (aX.plainO _) k<|bW (cZ.plainO _) k<|bW (aX.plainO _) k<|bW (tB.plainO _) k<|bN k<|bW (cV.plainO _) k<|eJ k<|aQ) k4)<|cN k h (λ_ h=>sS<|jY k2<|sn<|tn<|aE<|aC<|gK h k2) λ_ h=>?_;refine aG<|tn<|sS<|jY k2<|sn<|tn<|sS<|lpS k8<|gJ k2<|oB h λv13 hv13 h=>dS (t:=mN [(1,.sc wn1),(4,.sc wn2),(5,.bl v4.2.2.2.2.2.2.2.2.2),(6,.ptr 16 0 0),(7,.ptr 30 0 0),(8,.bl v6.2),(9,.int 1),(45,.bl (!v11)),(46,.agg (oRp v5 12 13 14 15)),(47,.int 1)] [(12,⟨1,v5.q.src.map (ow eI)⟩),(13,⟨1,v5.q.tgt.map (ow eI)⟩),(14,⟨1,v5.dims.map (ow eI)⟩),(15,⟨3,v5.maps.map (ow eM)⟩),(16,⟨6,[oRp v5 12 13 14 15]⟩),(17,⟨1,v6.1.rep.q.src.map (ow eI)⟩),(18,⟨1,v6.1.rep.q.tgt.map (ow eI)⟩),(19,⟨1,v6.1.rep.dims.map (ow eI)⟩),(20,⟨3,v6.1.rep.maps.map (ow eM)⟩),(21,⟨1,v6.1.other.q.src.map (ow eI)⟩),(22,⟨1,v6.1.other.q.tgt.map (ow eI)⟩),(23,⟨1,v6.1.other.dims.map (ow eI)⟩),(24,⟨3,v6.1.other.maps.map (ow eM)⟩),(25,⟨6,v6.1.parts.map (ow eR)⟩),(26,⟨3,v6.1.maps.map (ow eM)⟩),(27,⟨3,v6.1.bars.map (ow eB)⟩),(28,⟨1,v6.1.theta.map (ow eI)⟩),(29,⟨2,v6.1.subs.map (ow eS)⟩),(30,⟨18,[[.int v6.1.kind,.int v6.1.rep.p,.int v6.1.rep.q.n,.own 17 0 v6.1.rep.q.src.length,.own 18 0 v6.1.rep.q.tgt.length,.own 19 0 v6.1.rep.dims.length,.own 20 0 v6.1.rep.maps.length,.int v6.1.other.p,.int v6.1.other.q.n,.own 21 0 v6.1.other.q.src.length,.own 22 0 v6.1.other.q.tgt.length,.own 23 0 v6.1.other.dims.length,.own 24 0 v6.1.other.maps.length,.own 25 0 v6.1.parts.length,.own 26 0 v6.1.maps.length,.own 27 0 v6.1.bars.length,.own 28 0 v6.1.theta.length,.own 29 0 v6.1.subs.length]]⟩)] 35 ⟨0,true,zU W',false⟩) (bP (bG k2) (bN k<|bN k<|bN k<|bW (aX.plainO _) k<|eJ k<|bN k<|bN k<|bN k<|bW (aX.plainO _) k<|bN k<|bN k<|bN k<|bW (aX.plainO _) k<|bW (cZ.plainO _) k<|bW (aX.plainO _) k<|bW (tB.plainO _) k<|bN k<|bW (cV.plainO _) k<|eJ k<|aQ) k4)<|aCH (σ:=sg [(0,12),(1,13),(2,14),(3,15)]) (σ':=sg [(12,0),(13,1),(14,2),(15,3)]) (touch:=[12,13,14,15]) (news:=[]) (hl2:=[(12,⟨1,v13.1.map (ow eI)⟩),(13,⟨1,v13.2.1.map (ow eI)⟩),(14,⟨1,v13.2.2.1.map (ow eI)⟩),(15,⟨3,v13.2.2.2.1.map (ow eM)⟩)]) (n':=35) (r2:= .int v13.2.2.2.2) (aCP v5 1 v13 hv13) k k ⟨_,_,k,⟨_,_,k,k,⟨_,_,k,k,⟨_,_,k,⟨k,k,k,k⟩,⟨_,_,k,⟨k,k,k,k⟩,⟨_,_,k,⟨k,k,k,k⟩,⟨_,_,k,⟨k,k,k,k⟩,k⟩⟩⟩⟩⟩⟩,⟨_,_,k,k,k⟩⟩ ⟨⟨_,k,k,.inl ⟨k,cA.plainO _⟩⟩,k,⟨_,k,k,.inl ⟨k,cA.plainO _⟩⟩,k,⟨_,k,k,.inl ⟨k,cA.plainO _⟩⟩,k,⟨_,k,k,.inl ⟨k,aX.plainO _⟩⟩,k,aQ⟩ k k k ⟨⟨_,k,k,.inl ⟨k,cA.plainO _⟩⟩,k,⟨_,k,k,.inl ⟨k,cA.plainO _⟩⟩,k,⟨_,k,k,.inl ⟨k,cA.plainO _⟩⟩,k,⟨_,k,k,.inl ⟨k,aX.plainO _⟩⟩,k,aQ⟩ k k k ⟨k,cA.tame _ _,⟨k,cA.tame _ _,⟨k,cA.tame _ _,⟨k,aX.tame _ _,aQ⟩⟩⟩⟩ k k k k k (lU ⟨k,k,k,k,k,k,k,k,k,k,aQ⟩) (lW (skip:=[12,13,14,15]) ⟨.inl (by decide),.inl (by decide),.inl (by decide),.inl (by decide),.inr (kR k),.inr (cA.df _ _),.inr (cA.df _ _),.inr (cA.df _ _),.inr (aX.df _ _),.inr (cA.df _ _),.inr (cA.df _ _),.inr (cA.df _ _),.inr (aX.df _ _),.inr (cZ.df _ _),.inr (aX.df _ _),.inr (tB.df _ _),.inr (cA.df _ _),.inr (cV.df _ _),.inr (kR k),aQ⟩)<|cG h λq14 h=>cG h λq15 h=>cG h λq16 h=>cG h λq17 h=>jY k2<|sn<|tn<|sQ<|sS<|gJ k2<|cmS k4<|gJ k2<|sP h (λq18 h=>aBK 51 k q18<|iZ k k<|iZ k k<|iZ k k<|iZ k k<|pkS k3<|gJ k2<|iZ k k<|iZ k k<|iZ k k<|pkS k3<|sn<|tn<|dO k k<|sS<|jY k2<|sn<|tn<|aE<|aC<|gK h k2) λq18 h=>?_;refine aBK 51 k q18<|lpS k8<|se (zJ aJ rn2 k k k k k k k) k<|oB h λv19 hv19 h=>se (zH (aCQ v6.1 (⟨v4.1,(⟨v4.2.1,(⟨v4.2.2.1,v4.2.2.2.1,v4.2.2.2.2.1⟩:Qv),v4.2.2.2.2.2.1,v4.2.2.2.2.2.2.1⟩:Rp),(⟨0,(⟨0,[],[]⟩:Qv),[],[]⟩:Rp),v4.2.2.2.2.2.2.2.1,v4.2.2.2.2.2.2.2.2.1,[],[],[]⟩:Cl) v19 hv19) k (fX (.inl (aBe (bT (eU k) (bT (eU k) (bT (eU k) (bT (eD cA k k) (bT (eD cA k k) (bT (eD cA k k) (bT (eD aX k k) (bT (eU k) (bT (eU k) (bT (eD cA k k) (bT (eD cA k k) (bT (eD cA k k) (bT (eD aX k k) (bT (eD cZ k k) (bT (eD aX k k) (bT (eD tB k k) (bT (eD cA k k) (bT (eD cV k k) aCq)))))))))))))))))))) (fX (.inl (eV k)) nA))) k<|se (dI k) k<|pkS k3<|gJ k2<|sP h (λq20 h=>aBK 57 k q20<|iZ k k<|iZ k k<|iZ k k<|pkS k3<|sn<|tn<|dO k k<|sS<|jY k2<|sn<|tn<|aE<|aC<|gK h k2) λq20 h=>?_;refine aBK 57 k q20<|gJ k2<|gJ k2<|se (aQJ (by kernel_rfl) k k) k<|pkS k3<|sn<|tn<|cN k h (λ_ h=>sS<|jY k2<|sn<|tn<|aE<|aC<|gK h k2) λ_ h=>?_;refine aG<|tn<|sS<|jY k2<|sn<|tn<|sS<|lpS k8<|gJ k2<|oB h λv22 hv22 h=>dS (t:=mN [(1,.sc wn1),(4,.sc wn2),(5,.bl v4.2.2.2.2.2.2.2.2.2),(7,.ptr 30 0 0),(10,.int 1),(62,.agg [.int v6.1.kind,.int v6.1.rep.p,.int v6.1.rep.q.n,.own 17 0 v6.1.rep.q.src.length,.own 18 0 v6.1.rep.q.tgt.length,.own 19 0 v6.1.rep.dims.length,.own 20 0 v6.1.rep.maps.length,.int v6.1.other.p,.int v6.1.other.q.n,.own 21 0 v6.1.other.q.src.length,.own 22 0 v6.1.other.q.tgt.length,.own 23 0 v6.1.other.dims.length,.own 24 0 v6.1.other.maps.length,.own 25 0 v6.1.parts.length,.own 26 0 v6.1.maps.length,.own 27 0 v6.1.bars.length,.own 28 0 v6.1.theta.length,.own 29 0 v6.1.subs.length]),(63,.int 1)] [(17,⟨1,v6.1.rep.q.src.map (ow eI)⟩),(18,⟨1,v6.1.rep.q.tgt.map (ow eI)⟩),(19,⟨1,v6.1.rep.dims.map (ow eI)⟩),(20,⟨3,v6.1.rep.maps.map (ow eM)⟩),(21,⟨1,v6.1.other.q.src.map (ow eI)⟩),(22,⟨1,v6.1.other.q.tgt.map (ow eI)⟩),(23,⟨1,v6.1.other.dims.map (ow eI)⟩),(24,⟨3,v6.1.other.maps.map (ow eM)⟩),(25,⟨6,v6.1.parts.map (ow eR)⟩),(26,⟨3,v6.1.maps.map (ow eM)⟩),(27,⟨3,v6.1.bars.map (ow eB)⟩),(28,⟨1,v6.1.theta.map (ow eI)⟩),(29,⟨2,v6.1.subs.map (ow eS)⟩),(30,⟨18,[[.int v6.1.kind,.int v6.1.rep.p,.int v6.1.rep.q.n,.own 17 0 v6.1.rep.q.src.length,.own 18 0 v6.1.rep.q.tgt.length,.own 19 0 v6.1.rep.dims.length,.own 20 0 v6.1.rep.maps.length,.int v6.1.other.p,.int v6.1.other.q.n,.own 21 0 v6.1.other.q.src.length,.own 22 0 v6.1.other.q.tgt.length,.own 23 0 v6.1.other.dims.length,.own 24 0 v6.1.other.maps.length,.own 25 0 v6.1.parts.length,.own 26 0 v6.1.maps.length,.own 27 0 v6.1.bars.length,.own 28 0 v6.1.theta.length,.own 29 0 v6.1.subs.length]]⟩)] 35 ⟨0,true,zU W',false⟩) (bP (bG k2) (bN k<|bN k<|bN k<|bW (aX.plainO _) k<|bN k<|bN k<|bN k<|bW (aX.plainO _) k<|bW (cZ.plainO _) k<|bW (aX.plainO _) k<|bW (tB.plainO _) k<|bN k<|bW (cV.plainO _) k<|eJ k<|aQ) k4)<|aCH (σ:=sg [(0,17),(1,18),(2,19),(3,20),(4,21),(5,22),(6,23),(7,24),(8,25),(9,26),(10,27),(11,28),(12,29)]) (σ':=sg [(17,0),(18,1),(19,2),(20,3),(21,4),(22,5),(23,6),(24,7),(25,8),(26,9),(27,10),(28,11),(29,12)]) (touch:=[17,18,19,20,21,22,23,24,25,26,27,28,29]) (news:=[]) (hl2:=[(17,⟨1,v22.1.map (ow eI)⟩),(18,⟨1,v22.2.1.map (ow eI)⟩),(19,⟨1,v22.2.2.1.map (ow eI)⟩),(20,⟨3,v22.2.2.2.1.map (ow eM)⟩),(21,⟨1,v22.2.2.2.2.1.map (ow eI)⟩),(22,⟨1,v22.2.2.2.2.2.1.map (ow eI)⟩),(23,⟨1,v22.2.2.2.2.2.2.1.map (ow eI)⟩),(24,⟨3,v22.2.2.2.2.2.2.2.1.map (ow eM)⟩),(25,⟨6,v22.2.2.2.2.2.2.2.2.1.map (ow eR)⟩),(26,⟨3,v22.2.2.2.2.2.2.2.2.2.1.map (ow eM)⟩),(27,⟨3,v22.2.2.2.2.2.2.2.2.2.2.1.map (ow eB)⟩),(28,⟨1,v22.2.2.2.2.2.2.2.2.2.2.2.1.map (ow eI)⟩),(29,⟨2,v22.2.2.2.2.2.2.2.2.2.2.2.2.1.map (ow eS)⟩)]) (n':=35) (r2:= .int v22.2.2.2.2.2.2.2.2.2.2.2.2.2) (aID v6.1 1 v22 hv22) k k ⟨_,_,k,⟨_,_,k,k,⟨_,_,k,k,⟨_,_,k,k,⟨_,_,k,⟨k,k,k,k⟩,⟨_,_,k,⟨k,k,k,k⟩,⟨_,_,k,⟨k,k,k,k⟩,⟨_,_,k,⟨k,k,k,k⟩,⟨_,_,k,k,⟨_,_,k,k,⟨_,_,k,⟨k,k,k,k⟩,⟨_,_,k,⟨k,k,k,k⟩,⟨_,_,k,⟨k,k,k,k⟩,⟨_,_,k,⟨k,k,k,k⟩,⟨_,_,k,⟨k,k,k,k⟩,⟨_,_,k,⟨k,k,k,k⟩,⟨_,_,k,⟨k,k,k,k⟩,⟨_,_,k,⟨k,k,k,k⟩,⟨_,_,k,⟨k,k,k,k⟩,k⟩⟩⟩⟩⟩⟩⟩⟩⟩⟩⟩⟩⟩⟩⟩⟩⟩⟩,⟨_,_,k,k,k⟩⟩ ⟨⟨_,k,k,.inl ⟨k,cA.plainO _⟩⟩,k,⟨_,k,k,.inl ⟨k,cA.plainO _⟩⟩,k,⟨_,k,k,.inl ⟨k,cA.plainO _⟩⟩,k,⟨_,k,k,.inl ⟨k,aX.plainO _⟩⟩,k,⟨_,k,k,.inl ⟨k,cA.plainO _⟩⟩,k,⟨_,k,k,.inl ⟨k,cA.plainO _⟩⟩,k,⟨_,k,k,.inl ⟨k,cA.plainO _⟩⟩,k,⟨_,k,k,.inl ⟨k,aX.plainO _⟩⟩,k,⟨_,k,k,.inl ⟨k,cZ.plainO _⟩⟩,k,⟨_,k,k,.inl ⟨k,aX.plainO _⟩⟩,k,⟨_,k,k,.inl ⟨k,tB.plainO _⟩⟩,k,⟨_,k,k,.inl ⟨k,cA.plainO _⟩⟩,k,⟨_,k,k,.inl ⟨k,cV.plainO _⟩⟩,k,aQ⟩ k k k ⟨⟨_,k,k,.inl ⟨k,cA.plainO _⟩⟩,k,⟨_,k,k,.inl ⟨k,cA.plainO _⟩⟩,k,⟨_,k,k,.inl ⟨k,cA.plainO _⟩⟩,k,⟨_,k,k,.inl ⟨k,aX.plainO _⟩⟩,k,⟨_,k,k,.inl ⟨k,cA.plainO _⟩⟩,k,⟨_,k,k,.inl ⟨k,cA.plainO _⟩⟩,k,⟨_,k,k,.inl ⟨k,cA.plainO _⟩⟩,k,⟨_,k,k,.inl ⟨k,aX.plainO _⟩⟩,k,⟨_,k,k,.inl ⟨k,cZ.plainO _⟩⟩,k,⟨_,k,k,.inl ⟨k,aX.plainO _⟩⟩,k,⟨_,k,k,.inl ⟨k,tB.plainO _⟩⟩,k,⟨_,k,k,.inl ⟨k,cA.plainO _⟩⟩,k,⟨_,k,k,.inl ⟨k,cV.plainO _⟩⟩,k,aQ⟩ k k k ⟨k,cA.tame _ _,⟨k,cA.tame _ _,⟨k,cA.tame _ _,⟨k,aX.tame _ _,⟨k,cA.tame _ _,⟨k,cA.tame _ _,⟨k,cA.tame _ _,⟨k,aX.tame _ _,⟨k,cZ.tame _ _,⟨k,aX.tame _ _,⟨k,tB.tame _ _,⟨k,cA.tame _ _,⟨k,cV.tame _ _,aQ⟩⟩⟩⟩⟩⟩⟩⟩⟩⟩⟩⟩⟩ k k k k k (lU ⟨k,k,k,k,k,k,k,aQ⟩) (lW (skip:=[17,18,19,20,21,22,23,24,25,26,27,28,29]) ⟨.inl (by decide),.inl (by decide),.inl (by decide),.inl (by decide),.inl (by decide),.inl (by decide),.inl (by decide),.inl (by decide),.inl (by decide),.inl (by decide),.inl (by decide),.inl (by decide),.inl (by decide),.inr (kR k),aQ⟩)<|cG h λq23 h=>cG h λq24 h=>cG h λq25 h=>cG h λq26 h=>cG h λq27 h=>cG h λq28 h=>cG h λq29 h=>cG h λq30 h=>cG h λq31 h=>cG h λq32 h=>cG h λq33 h=>cG h λq34 h=>cG h λq35 h=>jY k2<|sn<|tn<|sS<|jY k2<|sn<|tn<|sS<|lpS k8<|gJ k2<|oB h λv36 hv36 h=>se (zH (aDX (⟨v6.1.kind,(⟨v6.1.rep.p,(⟨v6.1.rep.q.n,v22.1,v22.2.1⟩:Qv),v22.2.2.1,v22.2.2.2.1⟩:Rp),(⟨v6.1.other.p,(⟨v6.1.other.q.n,v22.2.2.2.2.1,v22.2.2.2.2.2.1⟩:Qv),v22.2.2.2.2.2.2.1,v22.2.2.2.2.2.2.2.1⟩:Rp),v22.2.2.2.2.2.2.2.2.1,v22.2.2.2.2.2.2.2.2.2.1,v22.2.2.2.2.2.2.2.2.2.2.1,v22.2.2.2.2.2.2.2.2.2.2.2.1,v22.2.2.2.2.2.2.2.2.2.2.2.2.1⟩:Cl) 1 v36 hv36) k (fX (.inl (aBe (bT (eU k) (bT (eU k) (bT (eU k) (bT (eD cA k (by first|rfl|simp only [List.length_set,of_decide_eq_true q23])) (bT (eD cA k (by first|rfl|simp only [List.length_set,of_decide_eq_true q24])) (bT (eD cA k (by first|rfl|simp only [List.length_set,of_decide_eq_true q25])) (bT (eD aX k (by first|rfl|simp only [List.length_set,of_decide_eq_true q26])) (bT (eU k) (bT (eU k) (bT (eD cA k (by first|rfl|simp only [List.length_set,of_decide_eq_true q27])) (bT (eD cA k (by first|rfl|simp only [List.length_set,of_decide_eq_true q28])) (bT (eD cA k (by first|rfl|simp only [List.length_set,of_decide_eq_true q29])) (bT (eD aX k (by first|rfl|simp only [List.length_set,of_decide_eq_true q30])) (bT (eD cZ k (by first|rfl|simp only [List.length_set,of_decide_eq_true q31])) (bT (eD aX k (by first|rfl|simp only [List.length_set,of_decide_eq_true q32])) (bT (eD tB k (by first|rfl|simp only [List.length_set,of_decide_eq_true q33])) (bT (eD cA k (by first|rfl|simp only [List.length_set,of_decide_eq_true q34])) (bT (eD cV k (by first|rfl|simp only [List.length_set,of_decide_eq_true q35])) aCq)))))))))))))))))))) (wkS k nA))) k ?_;refine jY k2<|sn<|tn<|sQ<|sS<|gJ k2<|cmS k4<|sn<|tn<|cN k h (λ_ h=>sS<|jY k2<|sn<|tn<|aE<|aC<|gK h k2) λ_ h=>?_;refine aG<|tn<|sQ<|sS<|gJ k2<|gJ k2<|cmS k4<|sn<|tn<|cN k h (λ_ h=>sS<|jY k2<|sn<|tn<|aE<|aC<|gK h k2) λ_ h=>?_;refine aG<|tn<|sS<|se (zJ aJ rn1 k k k k k k k) k<|oB h λv39 hv39 h=>se (cRK (aBk a0 v39 hv39) k3 (fX (vrR k r0_2 r0_3 r0_4 r0_5) nA)) k<|oB h λv40 hv40 h=>se (AEff.conv (aDO (x:= .tuple [.agg [.int v40.1.kind,.int v40.1.rep.p,.int v40.1.rep.q.n,.own 39 0 (v40.1.rep.q.src.map eI).length,.own 40 0 (v40.1.rep.q.tgt.map eI).length,.own 41 0 (v40.1.rep.dims.map eI).length,.own 42 0 (v40.1.rep.maps.map eM).length,.int v40.1.other.p,.int v40.1.other.q.n,.own 43 0 (v40.1.other.q.src.map eI).length,.own 44 0 (v40.1.other.q.tgt.map eI).length,.own 45 0 (v40.1.other.dims.map eI).length,.own 46 0 (v40.1.other.maps.map eM).length,.own 47 0 (v40.1.parts.map eR).length,.own 48 0 (v40.1.maps.map eM).length,.own 49 0 (v40.1.bars.map eB).length,.own 50 0 (v40.1.theta.map eI).length,.own 51 0 (v40.1.subs.map eS).length],.bl v40.2]) (nb:=[(39,⟨1,cF (v40.1.rep.q.src.map eI)⟩),(40,⟨1,cF (v40.1.rep.q.tgt.map eI)⟩),(41,⟨1,cF (v40.1.rep.dims.map eI)⟩),(42,⟨3,cF (v40.1.rep.maps.map eM)⟩),(43,⟨1,cF (v40.1.other.q.src.map eI)⟩),(44,⟨1,cF (v40.1.other.q.tgt.map eI)⟩),(45,⟨1,cF (v40.1.other.dims.map eI)⟩),(46,⟨3,cF (v40.1.other.maps.map eM)⟩),(47,⟨6,cF (v40.1.parts.map eR)⟩),(48,⟨3,cF (v40.1.maps.map eM)⟩),(49,⟨3,cF (v40.1.bars.map eB)⟩),(50,⟨1,cF (v40.1.theta.map eI)⟩),(51,⟨2,cF (v40.1.subs.map eS)⟩)]) (aBc v39 v40 hv40) k (by rfl) k k (dE (bU aQ (bU aQ (bU aQ (bU (cA.good _) (bU (cA.good _) (bU (cA.good _) (bU (aX.good _) (bU aQ (bU aQ (bU (cA.good _) (bU (cA.good _) (bU (cA.good _) (bU (aX.good _) (bU (cZ.good _) (bU (aX.good _) (bU (tB.good _) (bU (cA.good _) (bU (cV.good _) tC)))))))))))))))))) (dE aQ qD)) (fX (.inl (vaR k8)) nA)) (v':= .tuple [.agg [.int v40.1.kind,.int v40.1.rep.p,.int v40.1.rep.q.n,.own 39 0 v40.1.rep.q.src.length,.own 40 0 v40.1.rep.q.tgt.length,.own 41 0 v40.1.rep.dims.length,.own 42 0 v40.1.rep.maps.length,.int v40.1.other.p,.int v40.1.other.q.n,.own 43 0 v40.1.other.q.src.length,.own 44 0 v40.1.other.q.tgt.length,.own 45 0 v40.1.other.dims.length,.own 46 0 v40.1.other.maps.length,.own 47 0 v40.1.parts.length,.own 48 0 v40.1.maps.length,.own 49 0 v40.1.bars.length,.own 50 0 v40.1.theta.length,.own 51 0 v40.1.subs.length],.bl v40.2]) (ed':=[(39,some ⟨1,v40.1.rep.q.src.map (ow eI)⟩),(40,some ⟨1,v40.1.rep.q.tgt.map (ow eI)⟩),(41,some ⟨1,v40.1.rep.dims.map (ow eI)⟩),(42,some ⟨3,v40.1.rep.maps.map (ow eM)⟩),(43,some ⟨1,v40.1.other.q.src.map (ow eI)⟩),(44,some ⟨1,v40.1.other.q.tgt.map (ow eI)⟩),(45,some ⟨1,v40.1.other.dims.map (ow eI)⟩),(46,some ⟨3,v40.1.other.maps.map (ow eM)⟩),(47,some ⟨6,v40.1.parts.map (ow eR)⟩),(48,some ⟨3,v40.1.maps.map (ow eM)⟩),(49,some ⟨3,v40.1.bars.map (ow eB)⟩),(50,some ⟨1,v40.1.theta.map (ow eI)⟩),(51,some ⟨2,v40.1.subs.map (ow eS)⟩)]) (by simp only [aH]) (pE (nb':=[(39,⟨1,v40.1.rep.q.src.map (ow eI)⟩),(40,⟨1,v40.1.rep.q.tgt.map (ow eI)⟩),(41,⟨1,v40.1.rep.dims.map (ow eI)⟩),(42,⟨3,v40.1.rep.maps.map (ow eM)⟩),(43,⟨1,v40.1.other.q.src.map (ow eI)⟩),(44,⟨1,v40.1.other.q.tgt.map (ow eI)⟩),(45,⟨1,v40.1.other.dims.map (ow eI)⟩),(46,⟨3,v40.1.other.maps.map (ow eM)⟩),(47,⟨6,v40.1.parts.map (ow eR)⟩),(48,⟨3,v40.1.maps.map (ow eM)⟩),(49,⟨3,v40.1.bars.map (ow eB)⟩),(50,⟨1,v40.1.theta.map (ow eI)⟩),(51,⟨2,v40.1.subs.map (ow eS)⟩)]) (by simp only [dX]))) k<|gJ k2<|se (bA k k (by intro _ h;cases h)) k<|se (bA k k (by intro _ h;cases h)) k<|se (bX aJ k k) k<|se (ws k) k<|jY k2<|sn<|tn<|sQ<|sS<|lpS k8<|se (zJ aJ rn2 k k k k k k k) k<|oB h λv41 hv41 h=>se (zH (aCQ v40.1 (⟨v4.1,(⟨v4.2.1,(⟨v4.2.2.1,v4.2.2.2.1,v4.2.2.2.2.1⟩:Qv),v4.2.2.2.2.2.1,v4.2.2.2.2.2.2.1⟩:Rp),(⟨0,(⟨0,[],[]⟩:Qv),[],[]⟩:Rp),v4.2.2.2.2.2.2.2.1,v4.2.2.2.2.2.2.2.2.1,[],[],[]⟩:Cl) v41 hv41) k (fX (.inl (aBe (bT (eU k) (bT (eU k) (bT (eU k) (bT (eD cA k k) (bT (eD cA k k) (bT (eD cA k k) (bT (eD aX k k) (bT (eU k) (bT (eU k) (bT (eD cA k k) (bT (eD cA k k) (bT (eD cA k k) (bT (eD aX k k) (bT (eD cZ k k) (bT (eD aX k k) (bT (eD tB k k) (bT (eD cA k k) (bT (eD cV k k) aCq)))))))))))))))))))) (fX (.inl (eV k)) nA))) k ?_;refine se (dI k) k<|gJ k2<|sP h (λq42 h=>?_) λq42 h=>?_
 ·exact aBK 83 k q42<|iZ k k<|iZ k k<|iZ k k<|pkS k3<|sn<|tn<|aI (t:=mN [(7,.ptr 30 0 0),(10,.int v22.2.2.2.2.2.2.2.2.2.2.2.2.2),(87,.bl true)] [(17,⟨1,v22.1.map (ow eI)⟩),(18,⟨1,v22.2.1.map (ow eI)⟩),(19,⟨1,v22.2.2.1.map (ow eI)⟩),(20,⟨3,v22.2.2.2.1.map (ow eM)⟩),(21,⟨1,v22.2.2.2.2.1.map (ow eI)⟩),(22,⟨1,v22.2.2.2.2.2.1.map (ow eI)⟩),(23,⟨1,v22.2.2.2.2.2.2.1.map (ow eI)⟩),(24,⟨3,v22.2.2.2.2.2.2.2.1.map (ow eM)⟩),(25,⟨6,v22.2.2.2.2.2.2.2.2.1.map (ow eR)⟩),(26,⟨3,v22.2.2.2.2.2.2.2.2.2.1.map (ow eM)⟩),(27,⟨3,v22.2.2.2.2.2.2.2.2.2.2.1.map (ow eB)⟩),(28,⟨1,v22.2.2.2.2.2.2.2.2.2.2.2.1.map (ow eI)⟩),(29,⟨2,v22.2.2.2.2.2.2.2.2.2.2.2.2.1.map (ow eS)⟩),(30,⟨18,[[.int v6.1.kind,.int v6.1.rep.p,.int v6.1.rep.q.n,.own 17 0 v22.1.length,.own 18 0 v22.2.1.length,.own 19 0 v22.2.2.1.length,.own 20 0 v22.2.2.2.1.length,.int v6.1.other.p,.int v6.1.other.q.n,.own 21 0 v22.2.2.2.2.1.length,.own 22 0 v22.2.2.2.2.2.1.length,.own 23 0 v22.2.2.2.2.2.2.1.length,.own 24 0 v22.2.2.2.2.2.2.2.1.length,.own 25 0 v22.2.2.2.2.2.2.2.2.1.length,.own 26 0 v22.2.2.2.2.2.2.2.2.2.1.length,.own 27 0 v22.2.2.2.2.2.2.2.2.2.2.1.length,.own 28 0 v22.2.2.2.2.2.2.2.2.2.2.2.1.length,.own 29 0 v22.2.2.2.2.2.2.2.2.2.2.2.2.1.length]]⟩)] 53 ⟨0,true,zU W',false⟩) (bP (bG k2) (bN k<|bN k<|bN k<|bW (aX.plainO _) k<|bN k<|bN k<|bN k<|bW (aX.plainO _) k<|bW (cZ.plainO _) k<|bW (aX.plainO _) k<|bW (tB.plainO _) k<|bN k<|bW (cV.plainO _) k<|hX ⟨_,k,k,.inr ⟨_,_,k,⟨_,_,k,k,⟨_,_,k,k,⟨_,_,k,k,⟨_,_,k,⟨k,k,(by simp only [aH,lA,lT,lR,lC,lN,of_decide_eq_true q23]),k⟩,⟨_,_,k,⟨k,k,(by simp only [aH,lA,lT,lR,lC,lN,of_decide_eq_true q24]),k⟩,⟨_,_,k,⟨k,k,(by simp only [aH,lA,lT,lR,lC,lN,of_decide_eq_true q25]),k⟩,⟨_,_,k,⟨k,k,(by simp only [aH,lA,lT,lR,lC,lN,of_decide_eq_true q26]),k⟩,⟨_,_,k,k,⟨_,_,k,k,⟨_,_,k,⟨k,k,(by simp only [aH,lA,lT,lR,lC,lN,of_decide_eq_true q27]),k⟩,⟨_,_,k,⟨k,k,(by simp only [aH,lA,lT,lR,lC,lN,of_decide_eq_true q28]),k⟩,⟨_,_,k,⟨k,k,(by simp only [aH,lA,lT,lR,lC,lN,of_decide_eq_true q29]),k⟩,⟨_,_,k,⟨k,k,(by simp only [aH,lA,lT,lR,lC,lN,of_decide_eq_true q30]),k⟩,⟨_,_,k,⟨k,k,(by simp only [aH,lA,lT,lR,lC,lN,of_decide_eq_true q31]),k⟩,⟨_,_,k,⟨k,k,(by simp only [aH,lA,lT,lR,lC,lN,of_decide_eq_true q32]),k⟩,⟨_,_,k,⟨k,k,(by simp only [aH,lA,lT,lR,lC,lN,of_decide_eq_true q33]),k⟩,⟨_,_,k,⟨k,k,(by simp only [aH,lA,lT,lR,lC,lN,of_decide_eq_true q34]),k⟩,⟨_,_,k,⟨k,k,(by simp only [aH,lA,lT,lR,lC,lN,of_decide_eq_true q35]),k⟩,k⟩⟩⟩⟩⟩⟩⟩⟩⟩⟩⟩⟩⟩⟩⟩⟩⟩⟩,k⟩⟩ k<|aQ) k4)<|dO k k<|sS<|jY k2<|sn<|tn<|aE<|aC<|gK h k2
 ·refine aBK 83 k q42<|gJ k2<|gJ k2<|se (aQJ (by kernel_rfl) k k) k<|pkS k3<|sn<|tn<|aI (t:=mN [(7,.ptr 30 0 0),(10,.int v22.2.2.2.2.2.2.2.2.2.2.2.2.2),(87,.bl (!(v40.2==v4.2.2.2.2.2.2.2.2.2)))] [(17,⟨1,v22.1.map (ow eI)⟩),(18,⟨1,v22.2.1.map (ow eI)⟩),(19,⟨1,v22.2.2.1.map (ow eI)⟩),(20,⟨3,v22.2.2.2.1.map (ow eM)⟩),(21,⟨1,v22.2.2.2.2.1.map (ow eI)⟩),(22,⟨1,v22.2.2.2.2.2.1.map (ow eI)⟩),(23,⟨1,v22.2.2.2.2.2.2.1.map (ow eI)⟩),(24,⟨3,v22.2.2.2.2.2.2.2.1.map (ow eM)⟩),(25,⟨6,v22.2.2.2.2.2.2.2.2.1.map (ow eR)⟩),(26,⟨3,v22.2.2.2.2.2.2.2.2.2.1.map (ow eM)⟩),(27,⟨3,v22.2.2.2.2.2.2.2.2.2.2.1.map (ow eB)⟩),(28,⟨1,v22.2.2.2.2.2.2.2.2.2.2.2.1.map (ow eI)⟩),(29,⟨2,v22.2.2.2.2.2.2.2.2.2.2.2.2.1.map (ow eS)⟩),(30,⟨18,[[.int v6.1.kind,.int v6.1.rep.p,.int v6.1.rep.q.n,.own 17 0 v22.1.length,.own 18 0 v22.2.1.length,.own 19 0 v22.2.2.1.length,.own 20 0 v22.2.2.2.1.length,.int v6.1.other.p,.int v6.1.other.q.n,.own 21 0 v22.2.2.2.2.1.length,.own 22 0 v22.2.2.2.2.2.1.length,.own 23 0 v22.2.2.2.2.2.2.1.length,.own 24 0 v22.2.2.2.2.2.2.2.1.length,.own 25 0 v22.2.2.2.2.2.2.2.2.1.length,.own 26 0 v22.2.2.2.2.2.2.2.2.2.1.length,.own 27 0 v22.2.2.2.2.2.2.2.2.2.2.1.length,.own 28 0 v22.2.2.2.2.2.2.2.2.2.2.2.1.length,.own 29 0 v22.2.2.2.2.2.2.2.2.2.2.2.2.1.length]]⟩)] 53 ⟨0,true,zU W',false⟩) (bP (bG k2) (bN k<|bN k<|bN k<|bW (aX.plainO _) k<|bN k<|bN k<|bN k<|bW (aX.plainO _) k<|bW (cZ.plainO _) k<|bW (aX.plainO _) k<|bW (tB.plainO _) k<|bN k<|bW (cV.plainO _) k<|hX ⟨_,k,k,.inr ⟨_,_,k,⟨_,_,k,k,⟨_,_,k,k,⟨_,_,k,k,⟨_,_,k,⟨k,k,(by simp only [aH,lA,lT,lR,lC,lN,of_decide_eq_true q23]),k⟩,⟨_,_,k,⟨k,k,(by simp only [aH,lA,lT,lR,lC,lN,of_decide_eq_true q24]),k⟩,⟨_,_,k,⟨k,k,(by simp only [aH,lA,lT,lR,lC,lN,of_decide_eq_true q25]),k⟩,⟨_,_,k,⟨k,k,(by simp only [aH,lA,lT,lR,lC,lN,of_decide_eq_true q26]),k⟩,⟨_,_,k,k,⟨_,_,k,k,⟨_,_,k,⟨k,k,(by simp only [aH,lA,lT,lR,lC,lN,of_decide_eq_true q27]),k⟩,⟨_,_,k,⟨k,k,(by simp only [aH,lA,lT,lR,lC,lN,of_decide_eq_true q28]),k⟩,⟨_,_,k,⟨k,k,(by simp only [aH,lA,lT,lR,lC,lN,of_decide_eq_true q29]),k⟩,⟨_,_,k,⟨k,k,(by simp only [aH,lA,lT,lR,lC,lN,of_decide_eq_true q30]),k⟩,⟨_,_,k,⟨k,k,(by simp only [aH,lA,lT,lR,lC,lN,of_decide_eq_true q31]),k⟩,⟨_,_,k,⟨k,k,(by simp only [aH,lA,lT,lR,lC,lN,of_decide_eq_true q32]),k⟩,⟨_,_,k,⟨k,k,(by simp only [aH,lA,lT,lR,lC,lN,of_decide_eq_true q33]),k⟩,⟨_,_,k,⟨k,k,(by simp only [aH,lA,lT,lR,lC,lN,of_decide_eq_true q34]),k⟩,⟨_,_,k,⟨k,k,(by simp only [aH,lA,lT,lR,lC,lN,of_decide_eq_true q35]),k⟩,k⟩⟩⟩⟩⟩⟩⟩⟩⟩⟩⟩⟩⟩⟩⟩⟩⟩⟩,k⟩⟩ k<|aQ) k4)<|cN k h (λ_ h=>sS<|jY k2<|sn<|tn<|aE<|aC<|gK h k2) λ_ h=>?_;exact aG<|tn<|sS<|jY k2<|sn<|tn<|sS<|lpS k8<|gJ k2<|oB h λv44 hv44 h=>se (zH (aDX (⟨v6.1.kind,(⟨v6.1.rep.p,(⟨v6.1.rep.q.n,v22.1,v22.2.1⟩:Qv),v22.2.2.1,v22.2.2.2.1⟩:Rp),(⟨v6.1.other.p,(⟨v6.1.other.q.n,v22.2.2.2.2.1,v22.2.2.2.2.2.1⟩:Qv),v22.2.2.2.2.2.2.1,v22.2.2.2.2.2.2.2.1⟩:Rp),v22.2.2.2.2.2.2.2.2.1,v22.2.2.2.2.2.2.2.2.2.1,v22.2.2.2.2.2.2.2.2.2.2.1,v22.2.2.2.2.2.2.2.2.2.2.2.1,v22.2.2.2.2.2.2.2.2.2.2.2.2.1⟩:Cl) 1 v44 hv44) k (fX (.inl (aBe (bT (eU k) (bT (eU k) (bT (eU k) (bT (eD cA k (by first|rfl|simp only [List.length_set,of_decide_eq_true q23])) (bT (eD cA k (by first|rfl|simp only [List.length_set,of_decide_eq_true q24])) (bT (eD cA k (by first|rfl|simp only [List.length_set,of_decide_eq_true q25])) (bT (eD aX k (by first|rfl|simp only [List.length_set,of_decide_eq_true q26])) (bT (eU k) (bT (eU k) (bT (eD cA k (by first|rfl|simp only [List.length_set,of_decide_eq_true q27])) (bT (eD cA k (by first|rfl|simp only [List.length_set,of_decide_eq_true q28])) (bT (eD cA k (by first|rfl|simp only [List.length_set,of_decide_eq_true q29])) (bT (eD aX k (by first|rfl|simp only [List.length_set,of_decide_eq_true q30])) (bT (eD cZ k (by first|rfl|simp only [List.length_set,of_decide_eq_true q31])) (bT (eD aX k (by first|rfl|simp only [List.length_set,of_decide_eq_true q32])) (bT (eD tB k (by first|rfl|simp only [List.length_set,of_decide_eq_true q33])) (bT (eD cA k (by first|rfl|simp only [List.length_set,of_decide_eq_true q34])) (bT (eD cV k (by first|rfl|simp only [List.length_set,of_decide_eq_true q35])) aCq)))))))))))))))))))) (wkS k nA))) k<|jY k2<|sn<|tn<|sQ<|sS<|gJ k2<|cmS k4<|sn<|tn<|cN k h (λ_ h=>sS<|jY k2<|sn<|tn<|aE<|aC<|gK h k2) λ_ h=>aG<|tn<|sQ<|sS<|gJ k2<|gJ k2<|cmS k4<|sn<|tn<|cN k h (λ_ h=>sS<|jY k2<|sn<|tn<|aE<|aC<|gK h k2) λ_ h=>aG<|tn<|sS<|jY k2<|sn<|tn<|aE<|gK h k2
end
noncomputable section
def nRe (r:Rp):Nat:=2+nI r.q.src+nI r.q.tgt+nI r.dims+nMs r.maps
def aVP (k:Int) (r:Rp):Rp:=⟨k,⟨k+1,mvI (k+2) r.q.src,mvI (k+2+nI r.q.src) r.q.tgt⟩,mvI (k+2+nI r.q.src+nI r.q.tgt) r.dims,aLg (k+2+nI r.q.src+nI r.q.tgt+nI r.dims) r.maps⟩
def nRs:List Rp→Nat:=nvS nRe
def aPu:Int→List Rp→List Rp:=mvS aVP nRe
theorem aPv (k:Int) (l:List Rp):(aPu k l).length=l.length:=pT l k
theorem aVQ {l:List Rp} (h: ∀ r∈l,bR r):nRs l≤4398046511106*l.length:=by
 refine aLF (nv:=nRe) (c:=4398046511106) λr hr=>?_;have:=aMk (h r hr);unfold nR nQ at this;unfold nRe;omega
theorem aYR {l:List Rp} {k:Int} (h0:0≤k) (hk:k+nRs l≤4611686018427387904) (hl:l.length≤4611686018427387904) (hb: ∀ r∈l,bR r):yG l k=some (aPu k l,k+nRs l):=by
 unfold yG;rw [aDa (mv:=aVP) (nv:=nRe) h0 hk hl (λr i k hi hm g0 g1=>?_) (λr k=>?_),aA]
 ·rfl
 ·have hml:(r[i]).maps.length ≤1048576:=(hb _ hm).2.2.1.1;unfold nRe at g1;unfold rV;simp only;rw [gA hi,aM,cX hi,aA,dV (x:=k+1) (by omega),dV (x:=k+1+1) (by omega),show k+1+1=k+2 by omega,aNo (by omega) (by omega),aA];simp only [sB,decide_true,aM];rw [aNo (by omega) (by omega),aA];simp only [sB,decide_true,aM];rw [aNo (by omega) (by omega),aA];simp only [sB,decide_true,aM];rw [aUi (by omega) (by omega) (by omega),aA];simp only [aEx,decide_true,aM,eN];unfold aVP nRe;congr 4;omega
 ·unfold rV;simp only;rw [gN (bJ _),aR]
theorem aYS {l:List Rp} {k:Int} (h0:0≤k) (hk:k+nRs l≤4611686018427387904) (hl:l.length≤4611686018427387904) (hb: ∀ r∈l,bR r):yI (aPu k l) k=some (k+nRs l):=by
 have hm:(aPu k l).length=l.length:=pT l k;unfold yI;rw [aDb (l:=l) (nv:=nRe) h0 hk hl (λi hi k' e g0 g1=>?_) (λk'=>?_),aA]
 ·rfl
 ·have hml:(l[i]).maps.length ≤1048576:=(hb _ (List.getElem_mem hi)).2.2.1.1;unfold nRe at g1;unfold rX;simp only;rw [hm,gA hi,aM,cX (by omega),aA,aNq (v:=aVP k' l[i]) (by unfold aPu;rw [aHM hi,e]) (by omega)];unfold aVP;simp only [decide_true,dW,aR,aA,dV (x:=k'+1) (by omega)];rw [dV (x:=k'+1+1) (by omega),show k'+1+1=k'+2 by omega,aNp (by omega) (by omega),aA,aJT (by omega),aR,aNp (by omega) (by omega),aA,aJT (by omega),aR,aNp (by omega) (by omega),aA,aJT (by omega),aR,aUj (by omega) (by omega) (by omega),aA,aJT (by omega),aR];unfold nRe;congr 3;omega
 ·unfold rX;simp only;rw [hm,gN (bJ _),aR]
structure Cl8 (c:Cl):Prop where
 rep:bR c.rep
 other:bR c.other
 parts:c.parts.length≤8
 partsB: ∀ r∈c.parts,bR r
 maps:c.maps.length≤1048576∧ ∀ m∈c.maps,bM m
 bars:c.bars=[]
 theta:bI c.theta
 subs:c.subs.length≤1048576∧ ∀ s∈c.subs,bS s
theorem aVR {c:Cl} (h:Cl8 c):qQ c c=some true:=by
 have hp:c.parts.length≤1048576∧ ∀ r∈c.parts,bR r:=⟨by have:=h.parts;omega,h.partsB⟩;unfold qQ;simp only [h.bars,decide_true,dW,aR,aVz h.rep,aVz h.other,aXz hp,aWg h.maps,aVI,aSc h.theta,aYH h.subs,aA]
def kP (c:Cl):Int:=1+nR c.rep+nR c.other+nRs c.parts+nMs c.maps+nI c.theta+nSs c.subs
def mvP (c:Cl):Cl:=⟨c.kind,mvR 1 c.rep,mvR (1+nR c.rep) c.other,aPu (1+nR c.rep+nR c.other) c.parts,aLg (1+nR c.rep+nR c.other+nRs c.parts) c.maps,[],mvI (1+nR c.rep+nR c.other+nRs c.parts+nMs c.maps) c.theta,aPV (1+nR c.rep+nR c.other+nRs c.parts+nMs c.maps+nI c.theta) c.subs⟩
theorem aXb {c:Cl} (h:Cl8 c):vS c 1=some ((mvP c).rep.q.src,(mvP c).rep.q.tgt,(mvP c).rep.dims,(mvP c).rep.maps,(mvP c).other.q.src,(mvP c).other.q.tgt,(mvP c).other.dims,(mvP c).other.maps,(mvP c).parts,(mvP c).maps,[],(mvP c).theta,(mvP c).subs,kP c):=by
 have b1:=aMk h.rep;have b2:=aMk h.other;have b3:=aUk h.subs;have b5:=aQr h.maps;have l3:=h.maps.1;have b4:nI c.theta≤1048576:=by rw [aDA];exact h.theta
 have b6:=aVQ h.partsB;have l6:=h.parts;have l1:=h.rep.2.2.1.1;have l2:=h.other.2.2.1.1;obtain ⟨g1,g2,g3,g4⟩:=aHN 1 c.rep;obtain ⟨k1,k2,k3,k4⟩:=aHN (1+nR c.rep) c.other;unfold vS;rw [aXR (by omega) (by omega) (by omega),aA];simp only [g1,g2,g3,g4,decide_true,aM];rw [aXR (by omega) (by omega) (by omega),aA];simp only [k1,k2,k3,k4,decide_true,aM];rw [h.bars,aYR (by omega) (by omega) (by omega) h.partsB,aA];simp only [aPv,decide_true,aM];rw [aUi (by omega) (by omega) (by omega),aA];simp only [aEx,decide_true,aM];rw [aVJ,aA];simp only [decide_true,aM];rw [aNo (by omega) (by omega),aA];simp only [sB,decide_true,aM];rw [aYL (by omega) (by omega) (aWk h.subs),aA];simp only [aPW,decide_true,aM];rfl
theorem aXc {c:Cl} (h:Cl8 c):qO (mvP c) 1=some (kP c):=by
 have b1:=aMk h.rep;have b2:=aMk h.other;have b3:=aUk h.subs;have b5:=aQr h.maps;have l3:=h.maps.1;have b4:nI c.theta≤1048576:=by rw [aDA];exact h.theta
 have b6:=aVQ h.partsB;have l6:=h.parts;have l1:=h.rep.2.2.1.1;have l2:=h.other.2.2.1.1;unfold qO mvP;simp only;rw [aYN (by omega) (by omega) (by omega),aA,dU (by omega),aR,aYN (by omega) (by omega) (by omega),aA,dU (by omega),aR,aYS (by omega) (by omega) (by omega) h.partsB,aA,dU (by omega),aR,aUj (by omega) (by omega) (by omega),aA,dU (by omega),aR,aVK,aA,dU (by omega),aR,aNp (by omega) (by omega),aA,dU (by omega),aR,aYM (by omega) (by omega) (aWk h.subs),aA,dU (by omega),aR];rfl
theorem aYT {a:Rp} (ha:bR a) {rs:List Rp} {L:List Mt} {f:Bool} (h3:rs.length≤8) (h4: ∀ r∈rs,bR r) (h5:L.length≤5) (h6: ∀ m∈L,bM m):Cl8 (cP a rs L f):=by
 cases f with
 |false=>exact ⟨aVL,aVL,by simp [cP],by simp [cP],aYQ,rfl,by simp [cP,bI],by simp [cP],by simp [cP]⟩
 |true=>exact ⟨ha,aVL,h3,h4,⟨by show L.length≤_;omega,h6⟩,rfl,by simp [cP,bI],by simp [cP],by simp [cP]⟩
theorem aGW {a:Rp} (fa:fR a):mI a=some true:=by
 unfold mI;rw [aYi fa (by decide) (by decide),aA];rcases aVv a 1048576 (by decide) (by decide) with e|⟨e1,e2,ha⟩
 ·rw [e];rfl
 ·rw [dU (by omega),aR];obtain ⟨rs,L,f,hi,hs,h3,h4,h5,h6⟩:=aYv ha;have hC:=aYT ha h3 h4 h5 h6 (f:=f);have ee:(⟨(cP a rs L f).kind,⟨(cP a rs L f).rep.p,⟨(cP a rs L f).rep.q.n,(cP a rs L f).rep.q.src,(cP a rs L f).rep.q.tgt⟩,(cP a rs L f).rep.dims,(cP a rs L f).rep.maps⟩,⟨0,⟨0,[],[]⟩,[],[]⟩,(cP a rs L f).parts,(cP a rs L f).maps,[],[],[]⟩:Cl)=cP a rs L f:=by cases f <;> rfl
  generalize cP a rs L f=c at*;have n1:=aMk ha;have l1:=ha.2.2.1.1;obtain ⟨g1,g2,g3,g4⟩:=aHN 1 a;simp only [aYl ha,aA,hs,hi,ee,aVR hC,dW,aR,beq_self_eq_true,aVz ha,decide_true];rw [aXR (by omega) (by omega) (by omega),aA];simp only [g1,g2,g3,g4,decide_true,aM];rw [dU (show ¬ (1+(nR a:Int)<0) by omega),aR,aXb hC,aA];obtain ⟨p1,p2,p3,p4⟩:=aHN 1 c.rep;obtain ⟨q1,q2,q3,q4⟩:=aHN (1+nR c.rep) c.other;have hk:decide (kP c<0)=false:=dU (by unfold kP;omega);have hh:=aXc hC;unfold mvP at hh ⊢;simp only at hh ⊢;simp only [p1,p2,p3,p4,q1,q2,q3,q4,hC.bars,aPv,sB,aPW,aEx,decide_true,aM,List.length_nil];have e0:(⟨c.kind,⟨c.rep.p,⟨c.rep.q.n,(mvR 1 c.rep).q.src,(mvR 1 c.rep).q.tgt⟩,(mvR 1 c.rep).dims,(mvR 1 c.rep).maps⟩,⟨c.other.p,⟨c.other.q.n,(mvR (1+nR c.rep) c.other).q.src,(mvR (1+nR c.rep) c.other).q.tgt⟩,(mvR (1+nR c.rep) c.other).dims,(mvR (1+nR c.rep) c.other).maps⟩,aPu (1+nR c.rep+nR c.other) c.parts,aLg (1+nR c.rep+nR c.other+nRs c.parts) c.maps,[],mvI (1+nR c.rep+nR c.other+nRs c.parts+nMs c.maps) c.theta,aPV (1+nR c.rep+nR c.other+nRs c.parts+nMs c.maps+nI c.theta) c.subs⟩:Cl)=⟨c.kind,mvR 1 c.rep,mvR (1+nR c.rep) c.other,aPu (1+nR c.rep+nR c.other) c.parts,aLg (1+nR c.rep+nR c.other+nRs c.parts) c.maps,[],mvI (1+nR c.rep+nR c.other+nRs c.parts+nMs c.maps) c.theta,aPV (1+nR c.rep+nR c.other+nRs c.parts+nMs c.maps+nI c.theta) c.subs⟩:=rfl;simp only [e0,hh,aA,hk,aR,decide_true,dW,ee,aVR hC,beq_self_eq_true]
end
end Go.Proofs.YtilpfdokmlanjaaGreat

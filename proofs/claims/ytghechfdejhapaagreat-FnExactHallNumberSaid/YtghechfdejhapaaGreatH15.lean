/-
  Several texts of the claim in one.
-/
import Derived.Test.YtghechfdejhapaaGreatH14
set_option linter.unusedVariables false
set_option linter.unusedSimpArgs false
namespace Go.Proofs.YtghechfdejhapaaGreat
open Go.RowKit
noncomputable section
def prM (p:Int) (x:Sc):Mt:=(rC p x).getD ⟨0,0,[]⟩
def bkM (p:Int) (x:Sc):Mt:=((vL p x).getD (⟨0,0,[]⟩,⟨0,0,[]⟩)).2
def ldL (x:Sc):List Int:=(kI x).getD []
def frL (x:Sc):List Int:=(kS x.size (ldL x)).getD []
def qOk (p:Int) (n k:Nat) (x:Sc):Bool:=
 decide (rC p x=some (prM p x))&&(decide (vL p x=some (prM p x,bkM p x))&&(decide (kI x=some (ldL x))&&(decide (aBX x=some (ldL x))&&(decide (kS x.size (ldL x)=some (frL x))&&
 (aCn p (prM p x)&&(aCn p (bkM p x)&&(decide ((prM p x).rows=(n - k:Nat))&&(decide ((prM p x).cols=(n:Nat))&&(decide ((bkM p x).rows=(n:Nat))&&(decide ((bkM p x).cols=(n - k:Nat))&&(decide ((frL x).length=n - k)&&
 (decide ((ldL x).length=k)&&((List.range k).all (λj=>decide (0≤(ldL x)[j]?.getD 0)&&decide ((ldL x)[j]?.getD 0<(n:Nat)))&&
 (List.range (n - k)).all λj=>decide (0≤(frL x)[j]?.getD 0)&&(decide ((frL x)[j]?.getD 0<(n:Nat))&&(List.range n).all λt=>decide ((bkM p x).cells[t*(n - k)+j]?.getD 0=if (t:Int)=(frL x)[j]?.getD 0 then 1 else 0)))))))))))))))
theorem qT2: ∀ p,p<2→ ∀ n,n<3→ ∀ k,k<n+1→((spT (p+2) n k).all (qOk ((p+2:Nat):Int) n k))=true:=by decide+kernel
theorem qT (p:Nat) (h1:p<4) (h2:2≤p): ∀ n,n<3→ ∀ k,k<n+1→((spT p n k).all (qOk (p:Nat) n k))=true:=by
 have:=qT2 (p - 2) (by omega);rw [show p - 2+2=p by omega] at this;exact this
structure Qx (p:Int) (n k:Nat) (x:Sc):Prop where
 pr:mS p x=some (prM p x)
 pj:pZ p x=some (prM p x,bkM p x)
 ld:gT x=some (ldL x)
 l12:rT x=some (ldL x)
 fr:fN x.size (ldL x)=some (frL x)
 pv:aCn p (prM p x)=true
 bv:aCn p (bkM p x)=true
 pR:(prM p x).rows=(n - k:Nat)
 pC:(prM p x).cols=(n:Nat)
 bR:(bkM p x).rows=(n:Nat)
 bC:(bkM p x).cols=(n - k:Nat)
 fl:(frL x).length=n - k
 ll:(ldL x).length=k
 l1: ∀ j,j<k→0≤(ldL x)[j]?.getD 0∧(ldL x)[j]?.getD 0<(n:Nat)
 f1: ∀ j,j<n - k→0≤(frL x)[j]?.getD 0∧(frL x)[j]?.getD 0<(n:Nat)
 f2: ∀ j,j<n - k→ ∀ t,t<n→(bkM p x).cells[t*(n - k)+j]?.getD 0=if (t:Int)=(frL x)[j]?.getD 0 then 1 else 0
theorem bAV {p:Int} {n k:Nat} {x:Sc} (h:qOk p n k x=true):Qx p n k x:=by
 unfold qOk at h;simp only [dA,hZ,List.all_eq_true,List.mem_range] at h;obtain ⟨a1,a2,a3,a4,a5,a6,a7,a8,a9,a10,a11,a12,b1,b2,a13⟩:=h;exact ⟨aGd _ _ _ a1,aIW _ _ _ a2,aBV _ _ a3,aFs _ _ a4,xY _ _ _ a5,a6,a7,a8,a9,a10,a11,a12,b1,b2,λj hj=>⟨(a13 j hj).1,(a13 j hj).2.1⟩,λj hj t ht=>(a13 j hj).2.2 t ht⟩
theorem aZg {p n:Nat} {k:Int} (hp:p=2∨p=3) (hn:n≤2) {x:Sc} (hx:x∈spI p n k):Qx (p:Nat) n x.basis.length x:=by
 obtain ⟨_,h1,_⟩:=aQP hp hn hx;unfold spI at hx;cases hk:inR k 0 n with
 |false=>rw [hk] at hx;simp at hx
 |true=>
  rw [hk,aR] at hx;have:=lF hk;have e:x.basis.length=k.toNat:=by omega
  rw [e];exact bAV (List.all_eq_true.1 (qT p (by omega) (by omega) n (by omega) k.toNat (by omega)) x hx)
structure PartT (r:Rp) (s:List Sc):Prop where
 P:Part r s
 q: ∀ v,v<r.dims.length→Qx r.p (dN r v) (sG s v).basis.length (sG s v)
theorem aRz {r:Rp} (S:Sm r) {d:List Int} {s:List Sc} (h:s∈oG r d):PartT r s:=by
 refine ⟨aYa S h,λv hv=>?_⟩;obtain ⟨h1,h2⟩:=List.mem_filter.1 h;have h3:=(aJa h1).2 v ⟨0,[]⟩ (by rw [wH];exact hv);rw [aTO hv] at h3;have:=aZg (aRu S) (S.d v hv) h3;have e:((r.p.toNat:Nat):Int)=r.p:=by have:=S.p;omega
 rw [e] at this;exact this
def kN (s:List Sc) (v:Nat):Nat:=(sG s v).basis.length
def prF (r:Rp) (s:List Sc) (v:Nat):Nat→Nat→Int:=λi j=>(prM r.p (sG s v)).cells[i*dN r v+j]?.getD 0
def bkF (r:Rp) (s:List Sc) (v:Nat):Nat→Nat→Int:=λi j=>(bkM r.p (sG s v)).cells[i*(dN r v - kN s v)+j]?.getD 0
def frN (s:List Sc) (v j:Nat):Nat:=((frL (sG s v))[j]?.getD 0).toNat
theorem aUQ {p:Int} {m:Mt} {r c:Nat} (h:aCn p m=true) (hr:m.rows=r) (hc:m.cols=c):m=⟨r,c,cD r c λi j=>m.cells[i*c+j]?.getD 0⟩∧InP p r c (λi j=>m.cells[i*c+j]?.getD 0):=by
 obtain ⟨_,a,b,F,_,_,e,hF⟩:=aMo h;have ea:a=r:=by rw [e] at hr;simp only at hr;omega
 have eb:b=c:=by rw [e] at hc;simp only at hc;omega
 subst ea;subst eb;have key: ∀ i j,i<a→j<b→m.cells[i*b+j]?.getD 0=F i j:=λi j hi hj=>by rw [e];simp only;rw [nQ F hi hj];rfl
 refine ⟨?_,λi j hi hj=>by show 0≤m.cells[i*b+j]?.getD 0∧m.cells[i*b+j]?.getD 0<p;rw [key i j hi hj];exact hF i j hi hj⟩;rw [cH key];exact e
theorem aXQ {r:Rp} {s:List Sc} (T:PartT r s) {v:Nat} (hv:v<r.dims.length):prM r.p (sG s v)=⟨(dN r v - kN s v:Nat),(dN r v:Nat),cD (dN r v - kN s v) (dN r v) (prF r s v)⟩∧InP r.p (dN r v - kN s v) (dN r v) (prF r s v):=aUQ (T.q v hv).pv (T.q v hv).pR (T.q v hv).pC
theorem aZh {r:Rp} {s:List Sc} (T:PartT r s) {v:Nat} (hv:v<r.dims.length):bkM r.p (sG s v)=⟨(dN r v:Nat),(dN r v - kN s v:Nat),cD (dN r v) (dN r v - kN s v) (bkF r s v)⟩∧InP r.p (dN r v) (dN r v - kN s v) (bkF r s v):=aUQ (T.q v hv).bv (T.q v hv).bR (T.q v hv).bC
theorem aXR {r:Rp} {s:List Sc} (T:PartT r s) {v j:Nat} (hv:v<r.dims.length) (hj:j<dN r v - kN s v):(frL (sG s v))[j]?.getD 0=(frN s v j:Int)∧frN s v j<dN r v:=by
 have:=(T.q v hv).f1 j hj;unfold frN;omega
theorem aYc {r:Rp} {s:List Sc} (T:PartT r s) {v j:Nat} (hv:v<r.dims.length) (hj:j<dN r v - kN s v) {t:Nat} (ht:t<dN r v):bkF r s v t j=if t=frN s v j then 1 else 0:=by
 have h1:=(T.q v hv).f2 j hj t ht;obtain ⟨h2,h3⟩:=aXR T hv hj;rw [h2] at h1;unfold bkF kN;rw [h1];by_cases e:t=frN s v j
 ·rw [aV e,aV (by omega)]
 ·rw [aX e,aX (by omega)]
theorem aPN {F U:Nat→Nat→Int} {i j f:Nat} : ∀ {n:Nat},(∀ t,t<n→U t j=if t=f then 1 else 0)→aDi F U i j n=if f<n then F i f else 0
 |0,_=>by simp [aDi]
 |n+1,h=>by
  have ih:=aPN (F:=F) (i:=i) (n:=n) λt ht=>h t (by omega);simp only [aDi];rw [ih,h n (by omega)];by_cases e:n=f
  ·subst e;rw [aX (by omega),aV rfl,aV (by omega)];omega
  ·rw [aX e];by_cases e2:f<n
   ·rw [aV e2,aV (by omega)];omega
   ·rw [aX e2,aX (by omega)];omega
def aZi (r:Rp) (s:List Sc) (i:Nat):Nat→Nat→Int:=λa b=>aBd r.p (dN r (tV r i)) (prF r s (tV r i)) (aF r i) a (frN s (sV r i) b)
def aQS (r:Rp) (s:List Sc) (i:Nat):Mt:=⟨(dN r (tV r i) - kN s (tV r i):Nat),(dN r (sV r i) - kN s (sV r i):Nat),cD (dN r (tV r i) - kN s (tV r i)) (dN r (sV r i) - kN s (sV r i)) (aZi r s i)⟩
def aBY (s:List Sc):List Int:=s.map λx=>x.size - (x.basis.length:Int)
def aLc (r:Rp) (s:List Sc):Rp:=⟨r.p,r.q,aBY s,(List.range r.maps.length).map (aQS r s)⟩
theorem yP {α:Type} (n k:Nat) (f:Nat→α) (v:α):((List.range n).map f).set k v=(List.range n).map λi=>if i=k then v else f i:=by
 refine List.ext_getElem (by simp) λt h1 h2=>?_;rw [List.getElem_set,List.getElem_map,List.getElem_map,List.getElem_range];by_cases e:k=t
 ·rw [aV e,aV e.symm]
 ·rw [aX e,aX λh=>e h.symm]
theorem aCe {α:Type} (k:Nat) (f:Nat→α):(List.range k).map f++[f k]=(List.range (k+1)).map f:=by rw [List.range_succ,List.map_append];rfl
theorem aXS {q:Qv} (h:bQ q):rB q=some q:=by
 unfold rB mW;have h1:q.src.length≤1048576:=h.1;have h2:q.tgt.length≤1048576:=h.2.1;rw [bH h1,bH h2];rfl
def zeM (r:Rp) (f:Nat→Nat) (i:Nat):Mt:=⟨(f (tV r i):Nat),(f (sV r i):Nat),cD (f (tV r i)) (f (sV r i)) λ_ _=>0⟩
section
variable {r:Rp} (R:Rv r) (hb:bR r) {d:List Int} (hl:d.length=r.dims.length) {f:Nat→Nat} (hd: ∀ v,v<r.dims.length→d[v]?.getD 0=(f v:Int)∧f v≤8)
include R hb hl hd
theorem aPO (p:Int):wI p r.q d=some ⟨p,r.q,d,(List.range r.maps.length).map (zeM r f)⟩:=by
 unfold wI;have h5:=R.n5;have h6:=R.e6;rw [aXS hb.1,aB];unfold mW;rw [bH (by omega),aR,aB];rw [cZ (r:=(List.range r.maps.length).map (zeM r f)) (λk=>((List.range k).map (zeM r f),(k:Int))) r.q.src.length (by rfl) (λi hi=>?_) (λ_=>?_),aB]
 ·have s1:=hd _ (R.s i hi).2;have t1:=hd _ (R.t i hi).2;unfold vJ;simp only;rw [iO hi,aR,iN 0 hi,aB,iN 0 (by have:=R.tl;omega),aB,(R.t i hi).1,iN 0 (by have:=(R.t i hi).2;omega),aB,(R.s i hi).1,iN 0 (by have:=(R.s i hi).2;omega),aB,s1.1,t1.1,aMq (by have:=Nat.mul_le_mul t1.2 s1.2;omega),aB,bH (by simp;omega),aR,cA hi (by omega),←aCe];rfl
 ·unfold vJ;simp only;rw [jU (bN _),aZ,R.ml]
theorem aSA (p:Int):yK p r.q d=some ⟨p,r.q,d,(List.range r.maps.length).map (zeM r f)⟩:=by
 unfold yK;have h5:=R.n5;have h6:=R.e6;rw [aWy hb.1,aB,bH (by simp;omega),aR,List.nil_append];rw [cZ (r:=(List.range r.maps.length).map (zeM r f)) (λk=>((List.range k).map (zeM r f),(k:Int))) r.q.src.length (by rfl) (λi hi=>?_) (λ_=>?_),aB]
 ·have s1:=hd _ (R.s i hi).2;have t1:=hd _ (R.t i hi).2;unfold xD;simp only;rw [iO hi,aR,iN 0 (by have:=R.tl;omega),aB,(R.t i hi).1,iN 0 (by have:=(R.t i hi).2;omega),aB,iN 0 hi,aB,(R.s i hi).1,iN 0 (by have:=(R.s i hi).2;omega),aB,s1.1,t1.1,aMr (by have:=Nat.mul_le_mul t1.2 s1.2;omega),aB,bH (by simp;omega),aR,cA hi (by omega),←aCe];rfl
 ·unfold xD;simp only;rw [jU (bN _),aZ,R.ml]
end
theorem aCy {s:List Sc} {v:Nat} (h:v<s.length):s[v]=sG s v:=by unfold sG;rw [gI h,iA]
theorem aEw {r:Rp} {s:List Sc} (S:Sm r) (T:PartT r s) {v:Nat} (hv:v<r.dims.length):(aBY s)[v]?.getD 0=((dN r v - kN s v:Nat):Int)∧kN s v≤dN r v:=by
 have h1:=T.P.len;have h2:=(tF T.P.sub).2.2 v hv;unfold aBY;rw [List.getElem?_map,gI (by omega),Option.map_some,iA,aCy,h2.size];have:=h2.len;unfold kN;omega
theorem aVa {r:Rp} {s:List Sc} (S:Sm r) (T:PartT r s):s.map (λx=>(prM r.p x).rows)=aBY s:=by
 refine List.ext_getElem (by simp [aBY]) λv h1 h2=>?_;have hv:v<s.length:=by simpa using h1
 have hv':v<r.dims.length:=by have:=T.P.len;omega
 have e:=aEw S T hv'
 have e2:(aBY s)[v]? =some ((dN r v - kN s v:Nat):Int):=by
  rw [gI h2] at e ⊢;simpa using e.1
 have e3:(aBY s)[v]=((dN r v - kN s v:Nat):Int):=by rw [gI h2] at e2;simpa using e2
 rw [List.getElem_map,e3,aCy hv,(T.q v hv').pR];rfl
theorem aYd {r:Rp} {s:List Sc} (S:Sm r) (T:PartT r s):(aBY s).sum=r.dims.sum - (lL s).sum:=by
 have key: ∀ l:List Sc,(aBY l).sum=(l.map Sc.size).sum - (lL l).sum:=by
  intro l;induction l with
  |nil=>rfl
  |cons x l ih=>
   unfold aBY lL at ih ⊢;simp only [List.map_cons,List.sum_cons];omega
 have e:s.map Sc.size=r.dims:=by
  refine List.ext_getElem (by simp [T.P.len]) λv h1 h2=>?_;have hv:v<s.length:=by simpa using h1
  have h3:=((tF T.P.sub).2.2 v h2).size;rw [List.getElem_map,aCy hv,h3,←(S.R.d v h2).1,gI h2,iA]
 rw [key,e]
theorem bBM {r:Rp} {s:List Sc} (S:Sm r) (T:PartT r s) (hS:wG r=true):wG (aLc r s)=true:=by
 have h5:=S.R.n5;have hml:=S.R.ml;have hsl:=T.P.len;have hlen:(aBY s).length=r.dims.length:=by simp [aBY,hsl]
 have hrep:=aRy hS;obtain ⟨hp,hD,_,_⟩:=aJG hrep;obtain ⟨hQ,hd1,_,_⟩:=aAl hD
 have hmem: ∀ x∈aBY s,0≤x∧x≤2:=by
  intro x hx;obtain ⟨v,hv,e⟩:=List.mem_iff_getElem.1 hx;have hv':v<r.dims.length:=by omega
  have h1:=aEw S T hv';rw [gI hv,iA,e] at h1;have:=S.d v hv';omega
 have hsum:=aYd S T
 have hs0:0≤(lL s).sum:=by
  have key: ∀ l:List Sc,0≤(lL l).sum:=by
   intro l;induction l with
   |nil=>exact Int.le_refl 0
   |cons x l ih=>
    unfold lL at ih ⊢;simp only [List.map_cons,List.sum_cons];omega
  exact key s
 have h55:=S.s
 have hdv:aHh r.q (aBY s)=true:=by
  unfold aHh;simp only [dA,hZ,List.all_eq_true];refine ⟨hQ,by omega,λx hx=>?_,by omega⟩;have:=hmem x hx;unfold inR;simp only [dA,hZ];omega
 unfold wG;simp only [dA,hZ,List.all_eq_true];refine ⟨?_,by show r.p≤3;have:=S.p;omega,λx hx=>?_,by show (aBY s).sum ≤5;omega⟩
 ·unfold aBC;simp only [dA,hZ,tZ];refine ⟨hp,hdv,by simp [aLc];omega,λk hk=>?_⟩;have hk':k<r.maps.length:=by simpa [aLc] using hk
  have hi':k<r.q.src.length:=by omega
  have hs:=(S.R.s k hi').2;have ht:=(S.R.t k hi').2
  have e:((aLc r s).maps[k]?.getD ⟨0,0,[]⟩:Mt)=aQS r s k:=by
   show ((List.range r.maps.length).map (aQS r s))[k]?.getD _=_;simp [hk']
  rw [e];have q1:=aEw S T hs;have q2:=aEw S T ht;have d1:=S.d _ hs;have d2:=S.d _ ht;refine ⟨aRq hp (by omega) (by omega) (λa b ha hb=>?_),?_,?_⟩
  ·exact aLp hp _ _ _ (dN r (tV r k) - kN s (tV r k)) (frN s (sV r k) b+1) a (frN s (sV r k) b) ha (by omega)
  ·show ((dN r (sV r k) - kN s (sV r k):Nat):Int)=(aBY s)[sV r k]?.getD 0;rw [q1.1]
  ·show ((dN r (tV r k) - kN s (tV r k):Nat):Int)=(aBY s)[tV r k]?.getD 0;rw [q2.1]
 ·have:=hmem x hx;unfold inR;simp only [dA,hZ];omega
section
variable {r:Rp} {s:List Sc} (hr:bR r) (S:Sm r) (T:PartT r s)
include hr S T
theorem aZj:tH r s=some (aLc r s,s.map (prM r.p)):=by
 have h5:=S.R.n5;have h6:=S.R.e6;have hml:=S.R.ml;have hsl:=T.P.len;unfold tH;rw [cZ (r:=(aBY s,s.map (prM r.p))) (λk=>(aBY (s.take k),(s.take k).map (prM r.p),(k:Int))) s.length (by rfl) (λv hv=>?_) (λ_=>?_),aB]
 ·simp only;rw [aPO S.R hr (d:=aBY s) (by simp [aBY,hsl]) (f:=λv=>dN r v - kN s v) (λv hv=>⟨(aEw S T hv).1,by have:=S.d v hv;omega⟩),aB];simp only;rw [cZ (r:=(List.range r.maps.length).map (aQS r s)) (λk=>((List.range r.maps.length).map λi=>if i<k then aQS r s i else zeM r (λv=>dN r v - kN s v) i,(k:Int))) r.maps.length (by simp) (λi hi=>?_) (λ_=>?_),aB]
  ·rfl
  ·have hi':i<r.q.src.length:=by omega
   have hs:=(S.R.s i hi').2;have ht:=(S.R.t i hi').2;have d1:=S.d _ hs;have d2:=S.d _ ht;obtain ⟨hM,hMi⟩:=S.R.m i hi';obtain ⟨hP,hPi⟩:=aXQ T ht;have hq:=T.q _ hs;unfold oW;simp only;rw [iO hi,aR,iN ⟨0,0,[]⟩ hi,aB,hM,iN 0 hi',aB,(S.R.s i hi').1,iN ⟨0,[]⟩ (by omega),aB,iN 0 (by have:=S.R.tl;omega),aB,(S.R.t i hi').1,iN ⟨0,0,[]⟩ (by simp;omega),aB]
   have e1:((s.map (prM r.p))[tV r i]?.getD ⟨0,0,[]⟩:Mt)=prM r.p (sG s (tV r i)):=by
    rw [List.getElem?_map,gI (by omega),Option.map_some,iA,aCy]
   have m1:=Nat.mul_le_mul (show dN r (tV r i) - kN s (tV r i)≤2 by omega) d2;have m2:=Nat.mul_le_mul d2 d1;have m3:=Nat.mul_le_mul (show dN r (tV r i) - kN s (tV r i)≤2 by omega) d1;rw [e1,hP,aLq S.R.hp (by omega) (by omega) (by omega) (by omega) (by omega) (by omega) hPi hMi,aB];have e2:(s[sV r i]?.getD ⟨0,[]⟩:Sc)=sG s (sV r i):=rfl;rw [e2,hq.ld,aB,hq.fr,aB];have hfl:=hq.fl;rw [cZ (r:=(List.range (dN r (sV r i) - kN s (sV r i))).map λk=>eP (dN r (tV r i) - kN s (tV r i)) λa=>aZi r s i a k) (λk=>((List.range k).map λk=>eP (dN r (tV r i) - kN s (tV r i)) λa=>aZi r s i a k,(k:Int))) (dN r (sV r i) - kN s (sV r i)) (by rfl) (λk hk=>?_) (λ_=>?_),aB]
   ·simp only;rw [aCN (by have:=Nat.mul_le_mul (show dN r (tV r i) - kN s (tV r i)≤2 by omega) (show dN r (sV r i) - kN s (sV r i)≤2 by omega);omega) (by omega) (by omega),aB,iN ⟨0,0,[]⟩ (by simpa using hi),aB,cA hi (by omega),eX,yP];congr 3;refine rF λj hj=>?_;by_cases e:j=i
    ·rw [aV e,aV (by omega),e];rfl
    ·rw [aX e];by_cases e2:j<i
     ·rw [aV e2,aV (by omega)]
     ·rw [aX e2,aX (by omega)]
   ·obtain ⟨f1,f2⟩:=aXR T hs hk;unfold oV;simp only;rw [show (frL (sG s (sV r i))).length=dN r (sV r i) - kN s (sV r i) from hfl,iO hk,aR,iN 0 (by rw [show (frL (sG s (sV r i))).length=dN r (sV r i) - kN s (sV r i) from hfl];exact hk),aB,f1,aWp (by omega) (by omega) f2,aB,bH (by simp;omega),aR,cA hk (by omega),←aCe];rfl
   ·unfold oV;simp only;rw [show (frL (sG s (sV r i))).length=dN r (sV r i) - kN s (sV r i) from hfl,jU (bN _),aZ]
  ·unfold oW;simp only;rw [jU (bN _),aZ];congr 2;exact rF λj hj=>by rw [aV (List.mem_range.1 hj)]
 ·have hv':v<r.dims.length:=by omega
  have h2:=(tF T.P.sub).2.2 v hv';have e:=aCy hv;unfold oU;simp only;rw [iO hv,aR,dS hv,aB,bH (by simp [aBY];omega),aR];rw [e,(T.q v hv').pr,aB,bH (by simp;omega),aR,cA hv (by omega),h2.size,eY (by have:=h2.len;have:=S.d v hv';omega)]
  have e3:aBY (s.take v)++[(dN r v:Int) - ((sG s v).basis.length:Int)]=aBY (s.take (v+1)):=by
   unfold aBY;rw [yB hv,List.map_append,e];simp [h2.size]
  have e4:(s.take v).map (prM r.p)++[prM r.p (sG s v)]=(s.take (v+1)).map (prM r.p):=by
   rw [yB hv,List.map_append,e];rfl
  rw [e3,e4]
 ·unfold oU;simp only;rw [jU (bN _),aZ,List.take_length]
theorem aZk:tI r s=some (aLc r s,s.map (prM r.p),true):=by
 have h5:=S.R.n5;have h6:=S.R.e6;have hml:=S.R.ml;have hsl:=T.P.len;unfold tI;rw [aKW hr ⟨by omega,T.P.b⟩,aB,T.P.sub,eD,aZ];rw [cZ (r:=(aBY s,s.map (prM r.p),s.map (bkM r.p))) (λk=>((s.take k).map (λx=>(prM r.p x).rows),(s.take k).map (prM r.p),(s.take k).map (bkM r.p),(k:Int))) s.length (by rfl) (λv hv=>?_) (λ_=>?_),aB]
 ·simp only;rw [aSA S.R hr (d:=aBY s) (by simp [aBY,hsl]) (f:=λv=>dN r v - kN s v) (λv hv=>⟨(aEw S T hv).1,by have:=S.d v hv;omega⟩),aB];simp only;rw [cZ (r:=(List.range r.maps.length).map (aQS r s)) (λk=>((List.range r.maps.length).map λi=>if i<k then aQS r s i else zeM r (λv=>dN r v - kN s v) i,(k:Int))) r.maps.length (by simp) (λi hi=>?_) (λ_=>?_),aB]
  ·rfl
  ·have hi':i<r.q.src.length:=by omega
   have hs:=(S.R.s i hi').2;have ht:=(S.R.t i hi').2;have d1:=S.d _ hs;have d2:=S.d _ ht;obtain ⟨hM,hMi⟩:=S.R.m i hi';obtain ⟨hP,hPi⟩:=aXQ T ht;obtain ⟨hB,hBi⟩:=aZh T hs;unfold oY;simp only;rw [iO hi,aR,iN 0 (by have:=S.R.tl;omega),aB,(S.R.t i hi').1,iN ⟨0,0,[]⟩ (by simp;omega),aB,iN ⟨0,0,[]⟩ hi,aB,hM]
   have e1:((s.map (prM r.p))[tV r i]?.getD ⟨0,0,[]⟩:Mt)=prM r.p (sG s (tV r i)):=by
    rw [List.getElem?_map,gI (by omega),Option.map_some,iA,aCy]
   have e2:((s.map (bkM r.p))[sV r i]?.getD ⟨0,0,[]⟩:Mt)=bkM r.p (sG s (sV r i)):=by
    rw [List.getElem?_map,gI (by omega),Option.map_some,iA,aCy]
   have m1:=Nat.mul_le_mul (show dN r (tV r i) - kN s (tV r i)≤2 by omega) d2;have m2:=Nat.mul_le_mul d2 d1;have m3:=Nat.mul_le_mul (show dN r (tV r i) - kN s (tV r i)≤2 by omega) d1;have m4:=Nat.mul_le_mul d1 (show dN r (sV r i) - kN s (sV r i)≤2 by omega);have m5:=Nat.mul_le_mul (show dN r (tV r i) - kN s (tV r i)≤2 by omega) (show dN r (sV r i) - kN s (sV r i)≤2 by omega);have hW:=aLp S.R.hp (dN r (tV r i)) (prF r s (tV r i)) (aF r i) (dN r (tV r i) - kN s (tV r i)) (dN r (sV r i));rw [e1,hP,xA S.R.hp (by omega) (by omega) (by omega) (by omega) (by omega) (by omega) hPi hMi,aB,iN 0 hi',aB,(S.R.s i hi').1,iN ⟨0,0,[]⟩ (by simp;omega),aB,e2,hB,xA S.R.hp (by omega) (by omega) (by omega) (by omega) (by omega) (by omega) hW hBi,aB,iN ⟨0,0,[]⟩ (by simpa using hi),aB,cA hi (by omega),eX,yP];congr 3;refine rF λj hj=>?_;by_cases e:j=i
   ·rw [aV e,aV (by omega),e];unfold aQS;congr 1;refine cH λa b ha hb=>?_;obtain ⟨f1,f2⟩:=aXR T hs hb;have hw:=hW a (frN s (sV r i) b) ha f2;show aDi _ _ _ _ _ % _=_;rw [aPN (λt ht=>aYc T hs hb ht),aV f2];exact Int.emod_eq_of_lt hw.1 hw.2
   ·rw [aX e];by_cases e2:j<i
    ·rw [aV e2,aV (by omega)]
    ·rw [aX e2,aX (by omega)]
  ·unfold oY;simp only;rw [jU (bN _),aZ];congr 2;exact rF λj hj=>by rw [aV (List.mem_range.1 hj)]
 ·have hv':v<r.dims.length:=by omega
  have e:=aCy hv;unfold oX;simp only;rw [iO hv,aR,dS hv,aB,e,(T.q v hv').pj,aB,bH (by simp;omega),aR,bH (by simp;omega),aR,bH (by simp;omega),aR,cA hv (by omega)];rw [yB hv,List.map_append,List.map_append,List.map_append,e];rfl
 ·unfold oX;simp only;rw [jU (bN _),aZ,List.take_length,aVa S T]
theorem aYx:bR (aLc r s):=by
 have h5:=S.R.n5;have h6:=S.R.e6;have hml:=S.R.ml;have hsl:=T.P.len;refine ⟨hr.1,by simp [bI,aLc,aBY];omega,⟨by simp [aLc];omega,λm hm=>?_⟩,trivial⟩;obtain ⟨i,hi,rfl⟩:=List.mem_map.1 hm;have hi':i<r.q.src.length:=by have:=List.mem_range.1 hi;omega
 have d1:=S.d _ (S.R.s i hi').2;have d2:=S.d _ (S.R.t i hi').2;have m5:=Nat.mul_le_mul (show dN r (tV r i) - kN s (tV r i)≤2 by omega) (show dN r (sV r i) - kN s (sV r i)≤2 by omega);refine ⟨?_,trivial⟩;unfold bI aQS;simp only;rw [eN];omega
end
end
noncomputable section
theorem aYe {L:List Nat} (hL:L.length≤1048576) (k:Nat):rY (kB L) k=some (L.contains k):=by
 unfold rY;rw [aZF (n:=L.length) (λi=>decide (L[i]?.getD 0=k)) true (by omega) (λi hi=>?_) (λ_=>?_),aB]
 ·have e:(List.range L.length).any (λi=>decide (L[i]?.getD 0=k))=L.contains k:=by
   rw [Bool.eq_iff_iff,List.any_eq_true,List.contains_iff_mem];constructor
   ·rintro ⟨i,hi,he⟩;have hi:=List.mem_range.1 hi;have he:=of_decide_eq_true he;rw [gI hi,iA] at he;subst he;exact List.getElem_mem hi
   ·intro h;obtain ⟨i,hi,rfl⟩:=List.mem_iff_getElem.1 h;exact ⟨i,List.mem_range.2 hi,by simp [hi]⟩
  rw [e];cases L.contains k <;> rfl
 ·unfold tR;rw [fD,iO hi,aR,iN 0 (by rw [fD];exact hi),aB]
  have e:decide ((kB L)[i]?.getD 0=(k:Int))=decide (L[i]?.getD 0=k):=by
   rw [Bool.eq_iff_iff,hZ,hZ];simp [kB,hi];omega
  rw [e];cases decide (L[i]?.getD 0=k) <;> rfl
 ·unfold tR;rw [fD,jU (bN _),aZ]
theorem aNb {L:List Nat} {i:Nat} (h:i<L.length):cJ (kB L) (i:Int)=some ((L[i]?.getD 0:Nat):Int):=by
 rw [dS (by rw [fD];exact h)];simp [kB,h]
theorem aPP {p:Int} {m:Nat} {F:Nat→Nat→Int} {t i:Nat} (h:i<(cI p m F t).2.length):(cI p m F t).2[i]?.getD 0<t:=aIn t _ (fL 0 h)
theorem aNc {p:Int} {m n:Nat} {F:Nat→Nat→Int} (T:Tb p m n F):zK p ⟨m,n,cD m n F⟩=some (aJs p n (cI p m F n).1 (cI p m F n).2):=by
 have hn:=T.hn;have hN:=T.hN;have hin:=tQ (by have:=fF T.hp;omega:0<p) T.hi n;have hlen:= @uA p m F n;have hlen2:= @aDc p m F n;have hget:= @aPP p m F n;unfold zK;rw [aFS T,aB];generalize (cI p m F n).1=R at*;generalize (cI p m F n).2=L at*;rw [cZ (r:=aJs p n R L) (λk=>((k:Int),((List.range k).filter λk=> !L.contains k).map λk=>aHN p n R L k L.length)) n (by simp) (λk hk=>?_) (λ_=>?_),aB]
 ·unfold sJ;simp only;have hfl:((List.range k).filter λk=> !L.contains k).length ≤k:=by have:=List.length_filter_le (λk=> !L.contains k) (List.range k);simpa using this
  rw [iO hk,aR,aYe (by omega),aB,List.range_succ,List.filter_append,List.map_append];cases hc:L.contains k with
  |true=>
   rw [aR,cA hk (by omega),show [k].filter (λk=> !L.contains k)=[] by simp only [List.filter_cons,List.filter_nil,hc,eD,gZ,if_false],List.map_nil,List.append_nil]
  |false=>
   rw [aZ,bH (by omega),bH (by omega:(n:Int)≤1048576),Bool.and_self,aR,eX,eX,dS (by simp;exact hk),aB];rw [cZ (r:=aHN p n R L k L.length) (λi=>(aHN p n R L k i,(i:Int))) L.length (by rfl) (λi hi=>?_) (λ_=>?_),aB]
   ·rw [bH (by simp only [dU];omega),aR,cA hk (by omega),show [k].filter (λk=> !L.contains k)=[k] by simp only [List.filter_cons,List.filter_nil,hc,Bool.not_false,if_true]];rfl
   ·unfold sI;simp only;have b1:=hin i k (by omega) hk;have hp:=fF T.hp;have hv:=hget hi;rw [fD,iO hi,aR,aNb hi,aB,atT hN (by omega) hk,aB,eY (by omega),aDJ T.hp (by omega),aB,dS (by rw [aEm];exact hv),aB,eX,cA hi (by omega)];rfl
   ·unfold sI;simp only;rw [fD,jU (bN _),aZ]
 ·unfold sJ;simp only;rw [jU (bN _),aZ];rfl
theorem aSB {p:Int} (hp:mU p=true) {m n:Nat} {F:Nat→Nat→Int} (hi:InP p m n F):(aJs p n (cI p m F n).1 (cI p m F n).2).length=n - rkF p m n F:=by
 have h:=aGF hp hi n (bN _);have:=aWw h.inc (aIn n);unfold aJs rkF;rw [dU];omega
theorem Fit.lA {a b:Rp} (h:Fit a b) {v:Nat} (hv:v<a.dims.length):wr ((dN a v:Int)*(dN b v:Int))=((Proofs.YtghechfdejhapaaGreat.lV a b v:Nat):Int):=by
 have:=h.lV hv;unfold Proofs.YtghechfdejhapaaGreat.lV at*;rw [Nat.mul_comm] at this ⊢;exact aLB (by omega)
theorem aUR {a b:Rp} (h:Fit a b) {v:Nat} (hv:v≤a.dims.length):aBF a b v=some ((off (lV a b) v:Nat):Int):=by
 have n5:=h.ra.n5;unfold aBF;rw [cZ (r:=((off (lV a b) v:Nat):Int)) (λk=>(((off (lV a b) k:Nat):Int),(k:Int))) v (by rfl) (λk hk=>?_) (λ_=>?_),aB]
 ·have hka:k<a.dims.length:=by omega
  have hkb:k<b.dims.length:=by rw [h.ne];exact hka
  have ho:=h.offV (v:=k+1) (by omega);have e:off (lV a b) (k+1)=off (lV a b) k+lV a b k:=rfl;unfold zL;simp only;rw [iO hk,aR,iN 0 hka,aB,iN 0 hkb,aB,(h.ra.d k hka).1,(h.rb.d k hkb).1,h.lA hka,cA hk (by omega),eY (by omega),e];simp
 ·unfold zL;simp only;rw [jU (bN _),aZ]
theorem aPQ {a b:Rp} (h:Fit a b):vZ a b=some (nV a b:Int):=by
 have n5:=h.ra.n5;unfold vZ;rw [cZ (r:=(nV a b:Int)) (λk=>(((off (lV a b) k:Nat):Int),(k:Int))) a.dims.length (by rfl) (λk hk=>?_) (λ_=>?_),aB]
 ·have hkb:k<b.dims.length:=by rw [h.ne];exact hk
  have ho:=h.offV (v:=k+1) (by omega);have e:off (lV a b) (k+1)=off (lV a b) k+lV a b k:=rfl;unfold vB;simp only;rw [iO hk,aR,iN 0 hk,aB,iN 0 hkb,aB,(h.ra.d k hk).1,(h.rb.d k hkb).1,h.lA hk,cA hk (by omega),eY (by omega),e];simp
 ·unfold vB;simp only;rw [jU (bN _),aZ];rfl
def aGe (a b:Rp) (i r k j:Nat):Nat→Nat→Int:=λv z=>if v=sV a i∧z % dN a v=k∧z / dN a v<j then aF b i r (z / dN a v) else 0
def aSC (a b:Rp) (i r k j:Nat):Nat→Nat→Int:=λv z=>if v=tV a i∧z / dN a v=r∧z % dN a v<j then (aGe a b i r k (dN b (sV a i)) v z - aF a i (z % dN a v) k) % a.p else aGe a b i r k (dN b (sV a i)) v z
theorem aVb (r c:Nat) (F:Nat→Nat→Int):cD r c F++eP c (F r)=cD (r+1) c F:=by
 rw [←aJH c F r,←aJH c F (r+1),List.range_succ,List.map_append,List.flatten_append];simp
theorem aYf {a b:Rp} (h:Fit a b) {i r k:Nat} (hi:i<a.q.src.length) (hr:r<dN b (tV a i)) (hk:k<dN a (sV a i)) (x1 x2 x3:Int×List Int×Int) (e1:x1.2.2=i) (e2':x2.2.2=r) (e3:x3.2.2=k):
  ∃ y,Lp (jP a b (sV a i) x1 x2 x3) (List.replicate (nV a b) 0,0)=some y∧Lp (jQ a b (sV a i) (tV a i) x1 x2 x3) (y,0)=some (cat (lV a b) (e2 a b i (r*dN a (sV a i)+k)) a.dims.length):=by
 have hb:=fF h.ra.hp;have n5:=h.ra.n5;obtain ⟨s1,s2⟩:=h.ra.s i hi;obtain ⟨t1,t2⟩:=h.ra.t i hi;have s3:sV a i<b.dims.length:=by rw [h.ne];exact s2
 have t3:tV a i<b.dims.length:=by rw [h.ne];exact t2
 have hib:i<b.q.src.length:=by rw [h.qe];exact hi
 obtain ⟨m1,m2⟩:=h.ra.m i hi;obtain ⟨g1,g2⟩:=h.rb.m i hib;rw [h.sV,h.tV] at g1 g2;rw [h.pe] at g2;have da:=h.ra.d _ s2;have da2:=h.ra.d _ t2;have db:=h.rb.d _ s3;have db2:=h.rb.d _ t3;have oS:=h.offV (v:=sV a i+1) s2;have oT:=h.offV (v:=tV a i+1) t2;have eS:off (lV a b) (sV a i+1)=off (lV a b) (sV a i)+lV a b (sV a i):=rfl;have eT:off (lV a b) (tV a i+1)=off (lV a b) (tV a i)+lV a b (tV a i):=rfl;refine ⟨cat (lV a b) (aGe a b i r k (dN b (sV a i))) a.dims.length,?_,?_⟩
 ·refine cZ (λj=>(cat (lV a b) (aGe a b i r k j) a.dims.length,(j:Int))) (dN b (sV a i)) ?_ (λj hj=>?_) (λ_=>?_)
  ·unfold nV;rw [aRY];congr 1;exact aEs λv z _ _=>by unfold aGe;rw [aX λq=>absurd q.2.2 (Nat.not_lt_zero _)]
  ·have hz:j*dN a (sV a i)+k<lV a b (sV a i):=aEF hj hk
   have hpos:wr (wr (((off (lV a b) (sV a i):Nat):Int)+wr ((j:Int)*(dN a (sV a i):Int)))+(k:Int))=((off (lV a b) (sV a i)+(j*dN a (sV a i)+k):Nat):Int):=by
    rw [aLB (by omega),eY (x:=((off (lV a b) (sV a i):Nat):Int)+((j*dN a (sV a i):Nat):Int)) (by omega),eY (by omega)];omega
   have hw:=g2 r j hr hj;unfold jP;simp only [e1,e2',e3];rw [iN 0 s3,aB,db.1,iO hj,aR,aUR h (by omega),aB,iN 0 s2,aB,da.1,hpos,dS (by rw [jR];exact pD s2 hz)];rw [aB,iN ⟨0,0,[]⟩ (by rw [h.rb.ml];exact hib),aB,aB,g1];simp only;rw [atT (sq db2.2 db.2) hr hj,aB]
   have hv0:(cat (lV a b) (aGe a b i r k j) a.dims.length)[off (lV a b) (sV a i)+(j*dN a (sV a i)+k)]'(by rw [jR];exact pD s2 hz)=0:=by
    have:=sP (aGe a b i r k j) s2 hz;rw [gI (by rw [jR];exact pD s2 hz)] at this;rw [Option.some.inj this];unfold aGe;rw [aX];rw [aDZ hk];omega
   rw [hv0,Int.zero_add,eY (by omega),aDJ h.ra.hp (by omega),aB,aB,eX,aQD s2 hz,cA hj (by omega),Int.emod_eq_of_lt hw.1 hw.2];congr 3;refine aEs λv z hv hz2=>?_;by_cases e:v=sV a i∧z=j*dN a (sV a i)+k
   ·obtain ⟨rfl,rfl⟩:=e;rw [aV ⟨rfl,rfl⟩];unfold aGe;rw [aDZ hk,aDa hk,aV ⟨rfl,rfl,Nat.lt_succ_self _⟩]
   ·rw [aX e];unfold aGe;by_cases e4:v=sV a i∧z % dN a v=k∧z / dN a v<j
    ·rw [aV e4,aV ⟨e4.1,e4.2.1,by omega⟩]
    ·rw [aX e4,aX];rintro ⟨q1,q2,q3⟩
     have q4:z / dN a v=j:=by
      rcases dZ (z / dN a v) j with h'|h'
      ·exact absurd ⟨q1,q2,h'⟩ e4
      ·omega
     refine e ⟨q1,?_⟩;rw [←@aCb (dN a v) z,q4,q2,q1]
  ·unfold jP;simp only [e1,e2',e3];rw [iN 0 s3,aB,db.1,jU (bN _),aZ]
 ·refine cZ (λj=>(cat (lV a b) (aSC a b i r k j) a.dims.length,(j:Int))) (dN a (tV a i)) ?_ (λj hj=>?_) (λ_=>?_)
  ·congr 1;exact aEs λv z _ _=>by unfold aSC;rw [aX λq=>absurd q.2.2 (Nat.not_lt_zero _)]
  ·have hz:r*dN a (tV a i)+j<lV a b (tV a i):=aEF hr hj
   have hpos:wr (wr (((off (lV a b) (tV a i):Nat):Int)+wr ((r:Int)*(dN a (tV a i):Int)))+(j:Int))=((off (lV a b) (tV a i)+(r*dN a (tV a i)+j):Nat):Int):=by
    rw [aLB (by omega),eY (x:=((off (lV a b) (tV a i):Nat):Int)+((r*dN a (tV a i):Nat):Int)) (by omega),eY (by omega)];omega
   have hw:=m2 j k hj hk;unfold jQ;simp only [e1,e2',e3];rw [iN 0 t2,aB,da2.1,iO hj,aR,aUR h (by omega),aB,aB,hpos,dS (by rw [jR];exact pD t2 hz)];rw [aB,iN ⟨0,0,[]⟩ (by rw [h.ra.ml];exact hi),aB,iN 0 s2,aB,m1,da.1];simp only;rw [atT (sq da2.2 da.2) hj hk,aB]
   have hv0:(cat (lV a b) (aSC a b i r k j) a.dims.length)[off (lV a b) (tV a i)+(r*dN a (tV a i)+j)]'(by rw [jR];exact pD t2 hz)=aGe a b i r k (dN b (sV a i)) (tV a i) (r*dN a (tV a i)+j):=by
    have:=sP (aSC a b i r k j) t2 hz;rw [gI (by rw [jR];exact pD t2 hz)] at this;rw [Option.some.inj this];unfold aSC;rw [aX];rw [aDa hj];omega
   have hbA:0≤aGe a b i r k (dN b (sV a i)) (tV a i) (r*dN a (tV a i)+j)∧aGe a b i r k (dN b (sV a i)) (tV a i) (r*dN a (tV a i)+j)≤5:=by
    unfold aGe;split
    ·rename_i q;have:=g2 r ((r*dN a (tV a i)+j) / dN a (tV a i)) hr q.2.2;omega
    ·omega
   rw [hv0];generalize hA:aGe a b i r k (dN b (sV a i)) (tV a i) (r*dN a (tV a i)+j)=A at*;rw [eY (x:=A - aF a i j k) (by omega),aDJ h.ra.hp (by omega),aB,aB,eX,aQD t2 hz,cA hj (by omega)];congr 3;refine aEs λv z hv hz2=>?_;by_cases e:v=tV a i∧z=r*dN a (tV a i)+j
   ·obtain ⟨rfl,rfl⟩:=e;rw [aV ⟨rfl,rfl⟩];unfold aSC;rw [aDZ hj,aDa hj,aV ⟨rfl,rfl,Nat.lt_succ_self _⟩,hA]
   ·rw [aX e];unfold aSC;by_cases e4:v=tV a i∧z / dN a v=r∧z % dN a v<j
    ·rw [aV e4,aV ⟨e4.1,e4.2.1,by omega⟩]
    ·rw [aX e4,aX];rintro ⟨q1,q2,q3⟩
     have q4:z % dN a v=j:=by
      rcases dZ (z % dN a v) j with h'|h'
      ·exact absurd ⟨q1,q2,h'⟩ e4
      ·omega
     refine e ⟨q1,?_⟩;rw [←@aCb (dN a v) z,q4,q2,q1]
  ·unfold jQ;simp only [e1,e2',e3];rw [iN 0 t2,aB,da2.1,jU (bN _),aZ];congr 2;refine aEs λv z hv hz2=>?_;have hzb:z<dN b v*dN a v:=hz2;obtain ⟨q1,q2⟩:=aIH hzb
   have eA:aGe a b i r k (dN b (sV a i)) v z=if sV a i=v∧k=z % dN a v then aF b i r (z / dN a v) else 0:=by
    unfold aGe;by_cases e:sV a i=v∧k=z % dN a v
    ·rw [aV e,aV ⟨e.1.symm,e.2.symm,by rw [e.1];exact q1⟩]
    ·rw [aX e,aX λq=>e ⟨q.1.symm,q.2.1.symm⟩]
   unfold aSC e2 eF;rw [eA,aDZ hk,aDa hk];by_cases e:tV a i=v∧r=z / dN a v
   ·rw [aV ⟨e.1.symm,e.2.symm,by rw [e.1];exact q2⟩,aV e]
   ·rw [aX λq=>e ⟨q.1.symm,q.2.1.symm⟩,aX e,Int.sub_zero];split
    ·rename_i q;have hw:=g2 r (z / dN a v) hr (by rw [q.1];exact q1);exact (Int.emod_eq_of_lt hw.1 hw.2).symm
    ·simp
theorem aZl {a b:Rp} {i y:Nat} (hi:i<a.q.src.length) (hy:y<lE a b i):cat (lV a b) (e2 a b i y) a.dims.length=eP (nV a b) (mE a b (off (lE a b) i+y)):=by
 symm;refine aFW (by rw [dM];rfl) λv z hv hz=>?_;have hk:off (lV a b) v+z<nV a b:=pD hv hz;unfold eP;rw [List.getElem?_map,List.getElem?_range hk,Option.map_some];congr 1;unfold mE;rw [sP _ hi hy,iA,sP _ hv hz,iA]
theorem aGf {a b:Rp} (h:Fit a b):qY a b=some ⟨nE a b,nV a b,cD (nE a b) (nV a b) (mE a b)⟩:=by
 have n5:=h.ra.n5;have e6:=h.ra.e6;have bV:=h.offV (bN _);have bE:=h.offE (bN _);have tl:=h.ra.tl;have ml:=h.ra.ml;have hV:nV a b≤80:=bV;unfold qY;rw [aPQ h,aB];rw [cZ (r:=((nE a b:Int),cD (nE a b) (nV a b) (mE a b))) (λi=>(((off (lE a b) i:Nat):Int),cD (off (lE a b) i) (nV a b) (mE a b),(i:Int))) a.q.src.length (by simp [off,cD]) (λi hi=>?_) (λ_=>?_),aB]
 ·obtain ⟨s1,s2⟩:=h.ra.s i hi;obtain ⟨t1,t2⟩:=h.ra.t i hi;have t3:tV a i<b.dims.length:=by rw [h.ne];exact t2
  have da:=h.ra.d _ s2;have db2:=h.rb.d _ t3;have oE:=h.offE (i:=i+1) hi;have eE:off (lE a b) (i+1)=off (lE a b) i+dN b (tV a i)*dN a (sV a i):=rfl;unfold nB;simp only;rw [ml,iO hi,aR,iN 0 hi,aB,s1,iN 0 (by omega),aB,t1];rw [cZ (r:=(((off (lE a b) (i+1):Nat):Int),cD (off (lE a b) (i+1)) (nV a b) (mE a b))) (λr=>(((off (lE a b) i+r*dN a (sV a i):Nat):Int),cD (off (lE a b) i+r*dN a (sV a i)) (nV a b) (mE a b),(r:Int))) (dN b (tV a i)) (by simp) (λr hr=>?_) (λ_=>?_),aB,cA hi (by omega)]
  ·unfold nA;simp only;rw [iN 0 t3,aB,db2.1,iO hr,aR];rw [cZ (r:=(((off (lE a b) i+(r+1)*dN a (sV a i):Nat):Int),cD (off (lE a b) i+(r+1)*dN a (sV a i)) (nV a b) (mE a b))) (λk=>(((off (lE a b) i+r*dN a (sV a i)+k:Nat):Int),cD (off (lE a b) i+r*dN a (sV a i)+k) (nV a b) (mE a b),(k:Int))) (dN a (sV a i)) (by simp) (λk hk=>?_) (λ_=>?_),aB,cA hr (by omega)]
   ·unfold mZ;simp only;have hy:r*dN a (sV a i)+k<lE a b i:=aEF hr hk;have hx:off (lE a b) i+(r*dN a (sV a i)+k)<nE a b:=pD hi hy;have hx2:nE a b≤96:=bE;have hsz:(off (lE a b) i+r*dN a (sV a i)+k)*nV a b≤96*80:=Nat.mul_le_mul (by omega) hV;rw [iN 0 s2,aB,da.1,iO hk,aR,bH (by omega),bH (by omega:(nV a b:Int)≤1048576),Bool.and_self,aR,eX];obtain ⟨y,y1,y2⟩:=aYf h hi hr hk (((off (lE a b) i:Nat):Int),cD (off (lE a b) i) (nV a b) (mE a b),(i:Int)) (((off (lE a b) i+r*dN a (sV a i):Nat):Int),cD (off (lE a b) i+r*dN a (sV a i)) (nV a b) (mE a b),(r:Int)) (((off (lE a b) i+r*dN a (sV a i)+k:Nat):Int),cD (off (lE a b) i+r*dN a (sV a i)+k) (nV a b) (mE a b),(k:Int)) rfl rfl rfl;rw [y1,aB,y2,aB,aZl hi hy,eN,dM,bH (by omega),aR,cA hk (by omega),eY (by omega),←Nat.add_assoc,aVb];congr 2
   ·unfold mZ;simp only;rw [iN 0 s2,aB,da.1,jU (bN _),aZ,Nat.succ_mul,Nat.add_assoc]
  ·unfold nA;simp only;rw [iN 0 t3,aB,db2.1,jU (bN _),aZ,eE]
 ·unfold nB;simp only;rw [ml,jU (bN _),aZ];rfl
theorem aTS {a b:Rp} (h:Fit a b) {x:List Int} (hx:x.length=nV a b): ∃ r,mI a b x=some r:=by
 have n5:=h.ra.n5;have bV:=h.offV (bN _);have hV:nV a b≤80:=bV;refine ⟨(List.range a.dims.length).map λv=>(⟨dN b v,dN a v,(x.drop (off (lV a b) v)).take (lV a b v)⟩:Mt),?_⟩;unfold mI;rw [cZ (r:=(List.range a.dims.length).map λv=>(⟨dN b v,dN a v,(x.drop (off (lV a b) v)).take (lV a b v)⟩:Mt)) (λk=>((List.range k).map (λv=>(⟨dN b v,dN a v,(x.drop (off (lV a b) v)).take (lV a b v)⟩:Mt)),((off (lV a b) k:Nat):Int),(k:Int))) a.dims.length (by simp [off]) (λk hk=>?_) (λ_=>?_),aB]
 ·have hkb:k<b.dims.length:=by rw [h.ne];exact hk
  have ho:= @aFV (lV a b) (k+1) a.dims.length hk;have e:off (lV a b) (k+1)=off (lV a b) k+lV a b k:=rfl;unfold kP;simp only
  rw [iO hk,aR,iN 0 hk,aB,iN 0 hkb,aB,aB,aB,(h.ra.d k hk).1,(h.rb.d k hkb).1,h.lA hk,eY (x:=((off (lV a b) k:Nat):Int)+((lV a b k:Nat):Int)) (by omega),hx,
   bH (by omega),bH (by omega:((off (lV a b) k:Nat):Int)≤((off (lV a b) k:Nat):Int)+((lV a b k:Nat):Int)),bH (by unfold nV;omega:((off (lV a b) k:Nat):Int)+((lV a b k:Nat):Int)≤((nV a b:Nat):Int)),Bool.and_self,Bool.and_self,aR,
   show (((off (lV a b) k:Nat):Int)+((lV a b k:Nat):Int)).toNat - ((off (lV a b) k:Nat):Int).toNat=lV a b k by omega,eX]
  have q2:decide (((List.range k).map λv=>(⟨dN b v,dN a v,(x.drop (off (lV a b) v)).take (lV a b v)⟩:Mt)).length +1≤4294967296)=true:=bH (by simp only [dU,List.length_range];omega);have q1:decide (([]:List Int).length +((x.drop (off (lV a b) k)).take (lV a b k)).length ≤4294967296)=true:=bH (by simp only [List.length_nil,List.length_take,List.length_drop];omega);rw [q1,aR,q2,aR,List.nil_append,cA hk (by omega),aBI (f:=λv=>(⟨dN b v,dN a v,(x.drop (off (lV a b) v)).take (lV a b v)⟩:Mt)),e];simp
 ·unfold kP;simp only;rw [jU (bN _),aZ]
end
noncomputable section
def tY (a b:Rp):Bool:=aBC a&&(aBC b&&(decide (a.p=b.p)&&decide (a.q=b.q)))
theorem mT {a b:Rp} (h:tY a b=true):Fit a b:=by
 unfold tY at h;simp only [dA,hZ] at h;exact aZV h.1 h.2.1 h.2.2.1 h.2.2.2
def hdI (a b:Rp):Int:=if tY a b=true then (fW a b:Int) else -1
theorem aTT {a b:Rp} (ha:bR a) (hb:bR b): ∃ l,mJ a b=some (l,tY a b)∧(tY a b=true→l.length=fW a b):=by
 unfold mJ;rw [aHF ha hb,aB];cases hf:aBC a&&(aBC b&&(decide (a.p=b.p)&&decide (a.q=b.q))) with
 |false=>
  refine ⟨[],?_,λh=>by unfold tY at h;rw [hf] at h;cases h⟩;unfold tY;rw [hf];rfl
 |true=>
  have h:=mT hf;have bV:=h.offV (bN _);have hV:nV a b≤80:=bV;have hl:=aSB h.ra.hp (aPE h)
  have hkl: ∀ v∈aJs a.p (nV a b) (cI a.p (nE a b) (mE a b) (nV a b)).1 (cI a.p (nE a b) (mE a b) (nV a b)).2,v.length=nV a b:=by
   intro v hv;unfold aJs at hv;obtain ⟨k,_,rfl⟩:=List.mem_map.1 hv;exact aEm _ _ _ _ _ _
  rw [eD,aZ,aGf h,aB,aNc (aUG h),aB];generalize aJs a.p (nV a b) (cI a.p (nE a b) (mE a b) (nV a b)).1 (cI a.p (nE a b) (mE a b) (nV a b)).2=K at*;have key:=aPk (body:=iV a b K) (s:=(([]:List (List Mt)),0)) (λs=>s.2=(s.1.length:Int)∧s.1.length≤K.length) (λs=>K.length - s.1.length) (λr=>r.length=K.length) ⟨rfl,Nat.zero_le _⟩ (λs ⟨h1,h2⟩=>?_)
  ·obtain ⟨r,h1,h2⟩:=key;rw [h1,aB];exact ⟨r,by unfold tY;rw [hf],λ_=>by rw [h2,hl];rfl⟩
  ·obtain ⟨l,j⟩:=s;simp only at h1 h2;subst h1;unfold iV;simp only;rcases dZ l.length K.length with hlt|hge
   ·obtain ⟨r,hr⟩:=aTS h (hkl _ (List.getElem_mem hlt));rw [iO hlt,aR,dS hlt,aB,hr,aB,bH (by omega),aR,cA hlt (by omega)];exact .inl ⟨_,rfl,⟨by simp,by simp;omega⟩,by simp;omega⟩
   ·rw [jU hge,aZ];exact .inr ⟨_,rfl,by omega⟩
theorem aEx {a b:Rp} (ha:bR a) (hb:bR b):nI a b=some (hdI a b):=by
 obtain ⟨l,h1,h2⟩:=aTT ha hb;unfold nI hdI;rw [h1,aB];cases hf:tY a b with
 |false=>rfl
 |true=>rw [aV rfl,←h2 hf];rfl
theorem aFh {a b:Rp} (h:Fit a b):fW a b≤80:=by
 have bV:=h.offV (bN _);unfold fW nV;omega
theorem aXU {α β:Type} {f:α→β} {l:List α} {k:Nat} (hk:k<l.length):(l.take k).map f++[f l[k]]=(l.take (k+1)).map f:=by rw [yB hk,List.map_append];rfl
end
noncomputable section
theorem aTU {L:List Nat} (hL:L.length≤1048576) (k:Nat):fY (kB L) (k:Int)=some (L.contains k):=by
 have hl:=fD L;unfold fY iZ;rw [aAi (s0:=0) (s:=0) (n:=L.length) (λi=>bif decide ((k:Int)=(kB L)[i]?.getD 0) then some (i:Int) else none) rfl (by omega) (Nat.zero_le _) (λi _ hi=>?_) (λ_=>?_)]
 ·rw [aB];cases e:(List.range' 0 (L.length - 0)).findSome? (λi:Nat=>bif decide ((k:Int)=(kB L)[i]?.getD 0) then some (i:Int) else none) with
  |none=>
   rw [List.findSome?_eq_none_iff] at e
   have:L.contains k=false:=by
    rw [Bool.eq_false_iff];intro hc;have hm:k∈L:=by simpa using hc
    obtain ⟨j,hj,e2⟩:=List.mem_iff_getElem.1 hm;have:=e j (by simp;omega);have hg:(kB L)[j]?.getD 0=(k:Int):=by simp [kB,hj,e2]
    rw [hg,bH rfl] at this;cases this
   rw [this];rfl
  |some i=>
   obtain ⟨j,hj,he⟩:=List.exists_of_findSome?_eq_some e;simp at hj;have hjl:j<L.length:=by omega
   have hg:(kB L)[j]?.getD 0=((L[j]:Nat):Int):=by simp [kB,hjl]
   rw [hg] at he;by_cases c:(k:Int)=((L[j]:Nat):Int)
   ·rw [bH c] at he;cases he
    have:L.contains k=true:=by
     have:k=L[j]:=by omega
     rw [this];simp
    rw [this];show (Option.bind (some ((j:Nat):Int)) λv1=>some (decide (0≤v1)))=some true;rw [aB,bH (by omega)]
   ·rw [dF c] at he;cases he
 ·unfold iC;rw [hl,iO hi,aR,iN 0 (by omega),aB];cases decide ((k:Int)=(kB L)[i]?.getD 0) <;> rfl
 ·unfold iC;rw [hl,jU (bN _),aZ]
theorem aVc (L:List Nat) (k:Nat):aCT (k+1) L=aCT k L++if L.contains k=true then [] else [k]:=by
 unfold aCT;rw [List.range_succ,List.filter_append];congr 1;cases h:L.contains k <;> simp at h <;> simp [h]
theorem aSD (n:Nat) (L:List Nat):(aCT n L).length ≤n:=by
 have:=List.length_filter_le (λk=> !L.contains k) (List.range n);simpa [aCT] using this
theorem aSE {n k:Nat} {L:List Nat} (h:k∈aCT n L):k<n:=List.mem_range.1 (List.mem_filter.1 h).1
theorem aTV {n:Nat} {L:List Nat} (hn:n≤1048576) (hL:L.length≤1048576):fN (n:Int) (kB L)=some (kB (aCT n L)):=by
 unfold fN;rw [cZ (s:=(([]:List Int),(0:Int))) (r:=kB (aCT n L)) (λk=>(kB (aCT k L),(k:Int))) n rfl (λk hk=>?_) (λ_=>?_),aB]
 ·have h1:=aSD k L;unfold iL;simp only;rw [iO hk,aR,aTU hL,aB,aVc,cA hk (by omega)];cases hc:L.contains k
  ·rw [Bool.not_false,aR,bH (by rw [fD];simp;omega),aR];simp [kB]
  ·rw [eD,aZ];simp
 ·unfold iL;simp only;rw [jU (bN _),aZ]
end
noncomputable section
section
variable {P:Program} {T:List (Nat×Ty)} {dst:Option Tmp} {ty:TypeId} {pos:String} {aft:Array Edge} {g:Option (Nat×Bool)}
theorem aHp (hT:TyOk P T) {ins:Operand→Option AV} {hp:Hp} {κ:Kp} {x:Operand} {t:Nat} {y:Ty} {cs:List AV} {W:World} {vb:Value} {S:List Nat} {K:List AV→Prop}
  (hfx:κ.fx=fxW W) (hrep:RepD W (.ref cs) vb S) (hx:ins x=some (.sc vb)) (hy:dH T t=some y) (h1:(y.desc.isAgg||Nat.beq y.size 1)=true) (hn:y.size≤cs.length) (ok:(cs.take y.size).all mO=true) (h:aIv W (cs.take y.size) K):
  ∃ xs,K xs∧AEff P ⟨dst,.load t x,ty,pos,aft,g⟩ ins hp κ ⟨aAn y.desc.isAgg xs,[],[],[]⟩:=by
 have hlt:=hrep.lt;simp only [RepD] at hrep;obtain ⟨b,o,S',rfl,h4,rfl,h5⟩:=hrep;obtain ⟨us,g1,g2,g3,g4⟩:=h5.vals;obtain ⟨S2,g5,g6⟩:=g1.take y.size;obtain ⟨xs,hk,hxs⟩:=aPs g5 ok h;refine ⟨xs,hk,⟨λC s ν a w Q K {hκ} hi' ht hnw hd hs hK=>?_⟩⟩;have hp1:=hs.ev ((hi' x (by simp [Op.operands])).trans hx);simp only [RepA,RepB,Rep1] at hp1;have hst:=(hs.stays hκ hfx (b:=b) (hlt b (by simp))).1
 have hrun: ∃ v,(execOp a.eval ⟨dst,.load t x,ty,pos,aft,g⟩).run P w= .ok (.value v) w∧RepA w s.heap s.used ν (aAn y.desc.isAgg xs) v:=by
  obtain ⟨ii,z,d,hy'⟩:=hT.is hy;have hl:(us.take y.size).length=y.size:=by simp;omega
  have hr:=pH (P:=P) hy' (w:=w) (b:=b) (o:=o) (vs:=us.take y.size) hl (λhg=>by rw [hg] at h1;simpa using Nat.eq_of_beq_eq_true h1) (λm u hu=>by
   have hm:m<y.size:=by
    rcases dZ m y.size with h'|h'
    ·exact h'
    ·rw [jV (by omega)] at hu;cases hu
   rw [List.getElem?_take_of_lt hm] at hu
   exact (aPX hst).trans (g4 m u hu).1)
  refine ⟨_,by simp only [execOp,Instr.loadAt,hp1.1,Instr.sureAddr,Sem.run_bind,Sem.run_pure,Result.andThen_ok];rw [hr];rfl,?_⟩;have e3:=hxs w s.heap s.used ν;cases hg:y.desc.isAgg with
  |true=>
   simp only [aAn,aR,if_true,RepA,RepB];exact ⟨_,rfl,e3⟩
  |false=>
   rw [hg] at h1;have hs1:y.size=1:=Nat.eq_of_beq_eq_true (by simpa using h1);simp only [aAn,aZ];revert e3 hl;generalize us.take y.size=vs;intro hl e3
   match xs,vs,e3 with
   | [],vs,e3=>simp only [All2] at e3;subst e3;simp [hs1] at hl
   |d::ds,vs,e3=>
    obtain ⟨v,r,rfl,e6,e7⟩:=e3;simp only [List.headD_cons,List.getElem?_cons_zero,iA,gZ,if_false];exact e6.repA
 obtain ⟨v,h1,h2⟩:=hrun;unfold Oper.wp;rw [h1];simp only [Oper.upon];exact hK ν _ w (hs.step hd (Ext.refl _ _ _ _) (Below.refl _ _) hs.heap rfl h2)
end
section
variable {P:Program} {T:List (Nat×Ty)} {ops:Array Oper} {nt:Nat} {dst:Option Tmp} {ty:TypeId} {pos:String} {aft:Array Edge} {g:Option (Nat×Bool)} {rest:List Oper} {s:AState} {α:Type} {k:Nat} {e:α→List AV}
def aIX (W:World) (cs:List AV) (v:Value):Prop:= ∃ S,RepD W (.ref cs) v S
theorem uH {l:List α} {i:Nat} {u:α} {W:World} {v:Value} {S:List Nat} (r:RepD W (.list k (l.map e)) v S) (hm:l[i]? =some u):aIX W (e u) (aNL v k i):=aPJ (i:=i) (cs:=e u) r (by rw [List.getElem?_map,hm];rfl)
def aTW (v:Value) (j:Nat):Value:=match v with
 | .pointer (some a)=> .pointer (some ⟨a.block,a.off+j,none⟩)
 |v=>v
theorem aIY {W:World} {cs:List AV} {v:Value} (r:aIX W cs v) (j:Nat):aIX W (cs.drop j) (aTW v j):=by
 obtain ⟨S,r⟩:=r;simp only [RepD] at r;obtain ⟨b,o,S',rfl,h4,rfl,h5⟩:=r;obtain ⟨S2,h6,h7⟩:=h5.drop j;exact ⟨b::S2,by simp only [RepD];exact ⟨b,o+j,S2,rfl,h4,rfl,h6⟩⟩
theorem aGg (hT:TyOk P T) {x:Operand} {st f off ft:Nat} {cs:List AV} {y yf:Ty} {fs:List (Nat×Nat)} {W:World} {v:Value} (r:aIX W cs v) (hx:s.ev x=some (.sc v)) (hy:dH T st=some y) (hd:y.desc= .struct fs) (hf:fs[f]? =some (off,ft)) (hft:dH T ft=some yf) (hsz:Nat.beq yf.size 0=false):
  AEff P ⟨dst,.fieldAddr st x f,ty,pos,aft,g⟩ s.ev s.heap s.kp ⟨.sc (aTW v off),[],[],[]⟩:=
 AEff.pure λC s ν a w hi ht hs=>by
  have h1:=hs.ev ((hi x (by simp [Op.operands])).trans hx);simp only [RepA,RepB,Rep1] at h1;obtain ⟨S,r⟩:=r;simp only [RepD] at r;obtain ⟨b,o,S',rfl,h4,rfl,h5⟩:=r;obtain ⟨ii,z,d,hy'⟩:=hT.is hy;obtain ⟨if',zf,df,hyf⟩:=hT.is hft;obtain ⟨fields,hu,fd,hf1,hf2,hf3⟩:=hy'.field hd hf;have hs0:yf.size≠0:=λh=>by rw [h] at hsz;cases hsz
  refine ⟨.pointer (some ⟨b,o+off,none⟩),?_,by simp only [RepA,RepB,Rep1,aTW];exact ⟨trivial,rfl⟩⟩;simp only [execOp,Instr.fieldAt,Sem.run_bind,kU hu,Result.andThen_ok,hf1,h1.1,Instr.sureAddr,fieldPlace,Sem.run_pure,hf3,kF hyf.info,hyf.size,hs0,if_false,hf2];rw [Addr.add_lit]
theorem aSF (hT:TyOk P T) {x:Operand} {t:Nat} {y:Ty} {cs:List AV} {av:AV} {W:World} {v:Value} (r:aIX W cs v) (hfx:s.kp.fx=fxW W) (hx:s.ev x=some (.sc v)) (hy:dH T t=some y) (h1:(y.desc.isAgg||Nat.beq y.size 1)=true) (hn:Nat.ble y.size cs.length=true) (hpl:(cs.take y.size).all fE=true) (hv:aAn y.desc.isAgg (cs.take y.size)=av):
  AEff P ⟨dst,.load t x,ty,pos,aft,g⟩ s.ev s.heap s.kp ⟨av,[],[],[]⟩:=by
 obtain ⟨S,hr⟩:=r;exact hv▸aFY hT hfx hr hr.lt hx hy h1 (Nat.le_of_ble_eq_true hn) hpl
theorem aHK (hT:TyOk P T) {K:AState→Prop} {x:Operand} {t:Nat} {y:Ty} {W:World} {v:Value} {c0:List AV} (cs:List AV) (r:aIX W c0 v) (hfx:s.kp.fx=fxW W) (hx:s.ev x=some (.sc v)) (hy:dH T t=some y) (h1:(y.desc.isAgg||Nat.beq y.size 1)=true) (hn:Nat.ble y.size c0.length=true) (hc:c0.take y.size=cs) (ok:cs.all mO=true)
  (hd:aKy ⟨dst,.load t x,ty,pos,aft,g⟩ nt=true) (hg:pI ops s.env ⟨dst,.load t x,ty,pos,aft,g⟩=some true)
  (h:aIv W cs λxs=>SOps P ops nt rest (s.app dst ⟨aAn y.desc.isAgg xs,[],[],[]⟩) K):SOps P ops nt (⟨dst,.load t x,ty,pos,aft,g⟩::rest) s K:=by
 subst hc;obtain ⟨S',hr⟩:=r;obtain ⟨xs,hk,he⟩:=aHp (dst:=dst) (ty:=ty) (pos:=pos) (aft:=aft) (g:=g) hT (hp:=s.heap) hfx hr hx hy h1 (Nat.le_of_ble_eq_true hn) ok h;exact aRE he hd hg rfl hk
theorem aPR (hT:TyOk P T) {tr:List Tr} {K:List Tr→AState→Prop} {x:Operand} {t:Nat} {y:Ty} {W:World} {v:Value} {c0:List AV} (cs:List AV) (r:aIX W c0 v) (hfx:s.kp.fx=fxW W) (hx:s.ev x=some (.sc v)) (hy:dH T t=some y) (h1:(y.desc.isAgg||Nat.beq y.size 1)=true) (hn:Nat.ble y.size c0.length=true) (hc:c0.take y.size=cs) (ok:cs.all mO=true)
  (hd:aKy ⟨dst,.load t x,ty,pos,aft,g⟩ nt=true) (hg:pI ops s.env ⟨dst,.load t x,ty,pos,aft,g⟩=some true)
  (h:aIv W cs λxs=>AOps P ops nt rest (s.app dst ⟨aAn y.desc.isAgg xs,[],[],[]⟩) (aEQ ⟨aAn y.desc.isAgg xs,[],[],[]⟩::tr) K):AOps P ops nt (⟨dst,.load t x,ty,pos,aft,g⟩::rest) s tr K:=by
 subst hc;obtain ⟨S',hr⟩:=r;obtain ⟨xs,hk,he⟩:=aHp (dst:=dst) (ty:=ty) (pos:=pos) (aft:=aft) (g:=g) hT (hp:=s.heap) hfx hr hx hy h1 (Nat.le_of_ble_eq_true hn) ok h;exact bD he hd hg rfl hk
end
end
noncomputable section
set_option maxRecDepth 10000
set_option maxHeartbeats 4000000
def xJ (a0:Int) (v1:(Mt×(List Int))) (v4:Int) (x2:((List Int)×Int)):Option (((List Int)×Int) ⊕ (List Int)):=
 bif decide (x2.2<((v1.2.length:Nat):Int)) then
 ((cJ v1.2 x2.2).bind λv7=>
 (dK v1.1 x2.2).bind λv8=>
 bif (decide (0≤v4)&&decide (v4<((((wr ((wr (x2.2+1))*v1.1.cols)).toNat - (wr (x2.2*v1.1.cols)).toNat):Nat):Int))) then
 ((v1.1.cells[((0+(wr (x2.2*v1.1.cols)).toNat)+v4.toNat)]?).bind λv9=>
 bif !decide (a0=0) then
 ((cJ x2.1 v7).bind λv11=>
 some (.inl ((x2.1.set v7.toNat ((wr (a0 - v9)).tmod a0)),wr (x2.2+1))))
 else none
 )
 else none)
 else
 (some (.inr x2.1))
def xK (a0:Int) (a1:Mt) (v1:(Mt×(List Int))) (v2:(List Int)) (x1:((List (List Int))×Int)):Option (((List (List Int))×Int) ⊕ (List (List Int))):=
 bif decide (x1.2<((v2.length:Nat):Int)) then
 ((cJ v2 x1.2).bind λv4=>
 bif (decide (0≤a1.cols)&&decide (a1.cols≤1048576)) then
 ((cJ (List.replicate a1.cols.toNat (0:Int)) v4).bind λv5=>
 (Lp (xJ a0 v1 v4) (((List.replicate a1.cols.toNat (0:Int)).set v4.toNat 1),0)).bind λy13=>
 bif decide (x1.1.length+1≤4294967296) then
 (some (.inl ((x1.1++[y13]),wr (x1.2+1))))
 else none)
 else none)
 else
 (some (.inr x1.1))
def aCO (a0:Int) (a1:Mt):Option (List (List Int)):=
 (uC a0 a1).bind λv1=>
 (fN a1.cols v1.2).bind λv2=>
 (Lp (xK a0 a1 v1 v2) ([],0)).bind λy16=>
 some (y16)
theorem aOG (a0:Int) (a1:Mt) (r:(List (List Int))) (h:aCO a0 a1=some r):HasC Tryz.prog 173 [.int a0,.agg (eM a1)] (.list 1 (r.map (dL 1 eI))):=by
 refine hM [.tmp 4] Tryz.func173 Tryz.ntmps173 k<|sR<|ae (wb k) k<|aT k2<|sR<|am k k<|lp k8<|oB h λv1 hv1 h=>ae (AEff.conv (jK (x:= .tuple [.agg [.int v1.1.rows,.int v1.1.cols,.own 1 0 (v1.1.cells.map eI).length],.own 2 0 (v1.2.map eI).length]) (nb:=[(1,⟨1,cY (v1.1.cells.map eI)⟩),(2,⟨1,cY (v1.2.map eI)⟩)]) (aET a0 a1 v1 hv1) k (by rfl) k k (dV (cB aS (cB aS (cB (cX.good _) qF))) (dV (cX.good _) uL)) (cC k (aH (dI k) aI))) (v':= .tuple [.agg [.int v1.1.rows,.int v1.1.cols,.own 1 0 v1.1.cells.length],.own 2 0 v1.2.length]) (ed':=[(1,some ⟨1,v1.1.cells.map (ow eI)⟩),(2,some ⟨1,v1.2.map (ow eI)⟩)]) (by simp only [aQ]) (uW (nb':=[(1,⟨1,v1.1.cells.map (ow eI)⟩),(2,⟨1,v1.2.map (ow eI)⟩)]) (by simp only [gU]))) k<|am k k<|ae (bW k k (by intro _ h;cases h)) k<|ae (bW k k (by intro _ h;cases h)) k<|ae (bP aJ k k) k<|ae (ws k) k<|aT k2<|sR<|aT k2<|sQ<|sR<|fp k8<|lp k8 ?_;refine am k k<|oB h λv2 hv2 h=>ae (cL cX (sC a1.cols v1.2 v2 hv2) k3 (cC k (vcT k k aI))) k<|ae (cF aJ k k k k) k<|am k k<|an<|tn<|aC<|oB h λy16 hy16 h=>bX (body:=(xK a0 a1 v1 v2)) hy16 (λ(x1:((List (List Int))×Int))=>mN [(0,.int a0),(3,.ptr 0 0 0),(5,.ptr 1 0 0),(6,.own 3 0 v1.2.length),(7,.own 4 0 x1.1.length),(22,.own 5 0 v2.length),(23,.int ((v2.length:Nat):Int)),(24,.int x1.2)] [(0,⟨3,[eM a1]⟩),(1,⟨3,[oMt v1.1 2]⟩),(2,⟨1,v1.1.cells.map (ow eI)⟩),(3,⟨1,v1.2.map (ow eI)⟩),(4,⟨1,x1.1.map (ow (dL 1 eI))⟩),(5,⟨1,v2.map (ow eI)⟩)] 6) (λr e t=>e= .exit 0∧Ent t (mN [(7,.own 0 0 r.length)] [(0,⟨1,r.map (ow (dL 1 eI))⟩)] 1)) (eJ (σ:=sg [(0,0),(1,3),(2,1),(3,2),(5,4)]) (iU 4 k2 (gK ⟨_,k,⟨k,k,k,k⟩⟩ (bJ k2))) (bA k<|cP k<|bG k<|bG k<|hX k k<|bG k<|aS) k) ?_ ?_
 ·intro x1 o h;refine sR<|cm k4<|an<|tn<|sQ<|cV k h (λ_ h=>?_) λ_ h=>aW<|aA<|aA<|sp h ⟨_,k,k,(kC [4] (bJ k2) (cE (bZ.plainO _) k<|aS) k4)⟩;refine aG<|tn<|sQ<|aC<|sR<|oB h λv4 hv4 h=>ae (xo hv4 k) k<|ae (wp hv4 k) k<|aT k2<|sR<|fp k8<|lp k8<|cG h λq15 h=>ae (aAL aJ q15 k k k k k k k k) k<|aT k2<|aL (t:=mN [(0,.int a0),(3,.ptr 0 0 0),(5,.ptr 1 0 0),(6,.own 3 0 v1.2.length),(7,.own 4 0 x1.1.length),(9,.int v4),(10,.own 6 0 ((List.replicate a1.cols.toNat (0:Int)).length)),(22,.own 5 0 v2.length),(23,.int ((v2.length:Nat):Int)),(24,.int x1.2)] [(0,⟨3,[eM a1]⟩),(1,⟨3,[oMt v1.1 2]⟩),(2,⟨1,v1.1.cells.map (ow eI)⟩),(3,⟨1,v1.2.map (ow eI)⟩),(4,⟨1,x1.1.map (ow (dL 1 eI))⟩),(5,⟨1,v2.map (ow eI)⟩),(6,⟨1,List.map (ow eI) (List.replicate a1.cols.toNat (0:Int))⟩)] 7) (bT (iU 6 k2 (gK ⟨_,k,⟨k,k,(by simp only [aQ,lA,lT,lR,lC,lN]),k⟩⟩ (bJ k2))) (bA k<|cP k<|bG k<|bG k<|cE (bZ.plainO _) k<|bG k<|hX ⟨_,k,k,.inl ⟨aAr (e:=eI) (z:=0) _,cX.plainO _⟩⟩ k<|aS) k4)<|sR<|am k k<|am k k<|oB h λv5 hv5 h=>ae (xo hv5 k) k<|ae (fG aJ jG (u:=1) (dB hv5) k k k k k k) k<|an<|tn<|sQ ?_;refine sR<|am k k<|ae (cF aJ k k k k) k<|am k k<|an<|tn<|aC<|oB h λy13 hy13 h=>bX (body:=(xJ a0 v1 v4)) hy13 (λ(x2:((List Int)×Int))=>mN [(0,.int a0),(3,.ptr 0 0 0),(5,.ptr 1 0 0),(6,.own 3 0 v1.2.length),(7,.own 4 0 x1.1.length),(9,.int v4),(10,.own 5 0 x2.1.length),(22,.own 6 0 v2.length),(23,.int ((v2.length:Nat):Int)),(24,.int x1.2),(34,.own 3 0 v1.2.length),(35,.int ((v1.2.length:Nat):Int)),(36,.int x2.2)] [(0,⟨3,[eM a1]⟩),(1,⟨3,[oMt v1.1 2]⟩),(2,⟨1,v1.1.cells.map (ow eI)⟩),(3,⟨1,v1.2.map (ow eI)⟩),(4,⟨1,x1.1.map (ow (dL 1 eI))⟩),(5,⟨1,x2.1.map (ow eI)⟩),(6,⟨1,v2.map (ow eI)⟩)] 7) (λr e t=>e= .exit 2∧Ent t (mN [(0,.int a0),(3,.ptr 0 0 0),(5,.ptr 1 0 0),(6,.own 3 0 v1.2.length),(7,.own 4 0 x1.1.length),(10,.own 5 0 r.length),(22,.own 6 0 v2.length),(23,.int ((v2.length:Nat):Int)),(24,.int x1.2)] [(0,⟨3,[eM a1]⟩),(1,⟨3,[oMt v1.1 2]⟩),(2,⟨1,v1.1.cells.map (ow eI)⟩),(3,⟨1,v1.2.map (ow eI)⟩),(4,⟨1,x1.1.map (ow (dL 1 eI))⟩),(5,⟨1,r.map (ow eI)⟩),(6,⟨1,v2.map (ow eI)⟩)] 7)) (kC [0,1,2,3,4,6,5] (iU 6 k2 (gK ⟨_,k,⟨k,k,(by simp only [aQ,lA,lT,lR,lC,lN]),k⟩⟩ (bJ k2))) (bA k<|cP k<|bG k<|bG k<|cE (bZ.plainO _) k<|bG k<|bG k<|aS) k4) ?_ ?_
  ·intro x2 o h;refine sR<|cm k4<|an<|tn<|sQ<|cV k h (λ_ h=>?_) λ_ h=>aW<|aA<|aA<|sp h ⟨_,k,k,(bT (bJ k2) (bA k<|cP k<|bG k<|bG k<|cE (bZ.plainO _) k<|bG k<|bG k<|aS) k4)⟩;refine aG<|tn<|sQ<|aC<|sR<|am k k<|oB h λv7 hv7 h=>ae (xo hv7 k) k<|ae (wp hv7 k) k<|aa k k<|aT k2<|rg<|am k k<|am k k<|am k k<|lp k8<|am k k<|oB h λv8 hv8 h=>ae (AEff.pureE (nR (σ:=sg [(0,2)]) (σ':=sg [(2,0)]) (touch:=[2]) (news:=[]) (nP:=[(2,⟨1,v1.1.cells.map (ow eI)⟩)]) (n':=7) (r2:= .own 2 (0+(wr (x2.2*v1.1.cols)).toNat) ((wr ((wr (x2.2+1))*v1.1.cols)).toNat - (wr (x2.2*v1.1.cols)).toNat)) (fJ v1.1 x2.2 v8 hv8) k k ⟨_,_,k,⟨_,_,k,k,⟨_,_,k,k,⟨_,_,k,⟨k,k,k,k⟩,k⟩⟩⟩,⟨_,_,k,k,k⟩⟩ ⟨⟨_,k,k,.inl ⟨k,cX.plainO _⟩⟩,k,aS⟩ k k k ⟨⟨_,k,k,.inl ⟨k,cX.plainO _⟩⟩,k,aS⟩ k ⟨k,k,(by simp only [aQ,lA,lT,lR,lC,lN]),k⟩ k ⟨k,cX.tame _ _,aS⟩ k k) ⟨k,k,aS⟩) k<|am k k<|cG h λq10 h=>oB h λv9 hv9 h=>ae (iX aJ q10 k k k k k k k) k<|ae (eK aJ k k k k (aAJ (hv9)) k k) k<|ae (jL k k) k<|am k k<|cG h λq12 h=>ae (aGI k k q12) k<|oB h λv11 hv11 h=>ae (xo hv11 k) k<|ae (fG aJ jG (u:=(wr (a0 - v9)).tmod a0) (dB hv11) k k k k k k) k<|an ?_;exact aU<|tn<|rg<|ae (bB k k) k<|am k k<|an<|tn<|sp h ⟨_,k,(bT (iU 6 k2 (gK ⟨_,k,⟨k,k,(by simp only [aQ,lA,lT,lR,lC,lN]),k⟩⟩ (bJ k2))) (bA k<|cP k<|bG k<|bG k<|cE (bZ.plainO _) k<|bG k<|bG k<|aS) k4)⟩
  ·rintro e t ⟨rfl,hent⟩;exact aN<|tn<|aL hent<|rg<|am k k<|am k k<|ae (wl k) k<|cG h λq14 h=>ae (iE aJ (l:=x1.1) (c:=[.own 5 0 y13.length]) q14 k k k k k k k k k k k k k k) k<|aa k k<|an<|aU<|tn<|aL (t:=mN [(0,.int a0),(3,.ptr 0 0 0),(5,.ptr 1 0 0),(6,.own 3 0 v1.2.length),(7,.own 8 0 ((x1.1++[y13]).length)),(22,.own 6 0 v2.length),(23,.int ((v2.length:Nat):Int)),(24,.int x1.2)] [(0,⟨3,[eM a1]⟩),(1,⟨3,[oMt v1.1 2]⟩),(2,⟨1,v1.1.cells.map (ow eI)⟩),(3,⟨1,v1.2.map (ow eI)⟩),(6,⟨1,v2.map (ow eI)⟩),(8,⟨1,List.map (ow (dL 1 eI)) (x1.1++[y13])⟩)] 9) (Ent.trans (fH (b:=8) (b':=5) (j:=0) (es':=y13.map eI) k k k k (aQ _ _) (cX.frzs _)) (bT (iU 4 k2 (gK ⟨_,k,⟨k,k,(by simp only [aQ,lA,lT,lR,lC,lN]),k⟩⟩ (bJ k2))) (bA k<|cP k<|bG k<|bG k<|bG k<|hX ⟨_,k,k,.inl ⟨jH y13 k,bZ.plainO _⟩⟩ k<|aS) k4))<|rg<|ae (bB k k) k<|am k k<|an<|tn<|sp h ⟨_,k,(kC [0,1,2,3,8,6] (bJ k2) (bA k<|cP k<|bG k<|bG k<|cE (bZ.plainO _) k<|bG k<|aS) k4)⟩
 ·rintro e t ⟨rfl,hent⟩;exact aN<|tn<|aL hent<|sR<|am k k<|aT k2<|aD<|sp h (bK k k k (fZ (dE bZ k k)))
def oH (a0:Rp) (a1:Rp) (v2:(List (List Int))) (x1:((List (List Mt))×Int)):Option (((List (List Mt))×Int) ⊕ (List (List Mt))):=
 bif decide (x1.2<((v2.length:Nat):Int)) then
 ((cJ v2 x1.2).bind λv4=>
 (xB a0 a1).bind λv5=>
 (uE v5 v4).bind λv6=>
 bif decide (x1.1.length+1≤4294967296) then
 (some (.inl ((x1.1++[v6]),wr (x1.2+1))))
 else none)
 else
 (some (.inr x1.1))
def aAC (a0:Rp) (a1:Rp):Option (List (List Mt)):=
 (pU a0 a1).bind λv1=>
 (aCO a0.p v1).bind λv2=>
 (Lp (oH a0 a1 v2) ([],0)).bind λy8=>
 some (y8)
theorem aLd (a0:Rp) (a1:Rp) (r:(List (List Mt))) (h:aAC a0 a1=some r):HasC Tryz.prog 123 [.agg (eR a0),.agg (eR a1)] (.list 1 (r.map (dL 3 eM))):=by
 refine hM [.tmp 4] Tryz.func123 Tryz.ntmps123 k<|sR<|ae (wb k) k<|ae (wb k) k<|aT k2<|sR<|aT k2<|sQ<|sQ<|aP eG<|fp k8<|lp k8<|lp k8<|lp k8<|oB h λv1 hv1 h=>ae (cM (aEK a0 a1 v1 hv1) k3 (aH (dI k) (aH (dI k) aI))) k<|oB h λv2 hv2 h=>ae (cL bZ (aOG a0.p v1 v2 hv2) k3 (cC k (aH (vaM k2) aI))) k<|ae (cF aJ k k k k) k<|am k k<|an<|lB (by kernel_rfl)<|tn<|aC<|oB h λy8 hy8 h=>bX (body:=(oH a0 a1 v2)) hy8 (λ(x1:((List (List Mt))×Int))=>mN [(2,.ptr 0 0 0),(3,.ptr 1 0 0),(5,.own 2 0 x1.1.length),(13,.own 3 0 v2.length),(14,.int ((v2.length:Nat):Int)),(15,.int x1.2)] [(0,⟨6,[eR a0]⟩),(1,⟨6,[eR a1]⟩),(2,⟨1,x1.1.map (ow (dL 3 eM))⟩),(3,⟨1,v2.map (ow (dL 1 eI))⟩)] 4) (λr e t=>e= .exit 0∧Ent t (mN [(5,.own 0 0 r.length)] [(0,⟨1,r.map (ow (dL 3 eM))⟩)] 1)) (eJ (σ:=sg [(0,0),(1,1),(3,3)]) (iU 2 k2 (gK ⟨_,k,⟨k,k,k,k⟩⟩ (bJ k2))) (bA k<|bA k<|hX k k<|cE (bZ.plainO _) k<|aS) k) ?_ ?_
 ·intro x1 o h;refine sR<|cm k4<|an<|tn<|sQ<|cV k h (λ_ h=>?_) λ_ h=>aW<|aA<|aA<|sp h ⟨_,k,k,(kC [2] (bJ k2) (cE (bZ.plainO _) k<|aS) k4)⟩;refine aG<|tn<|sQ<|aC<|sR<|oB h λv4 hv4 h=>ae (xo hv4 k) k<|ae (wp hv4 k) k<|aT k2<|rg<|am k k<|lp k8<|lp k8<|oB h λv5 hv5 h=>ae (cL bU (aFT a0 a1 v5 hv5) k3 (aH (dI k) (aH (dI k) aI))) k<|am k k<|oB h λv6 hv6 h=>ae (cL bU (aHi v5 v4 v6 hv6) k3 (aH (aCi bU k k) (cC k aI))) k<|ae (wl k) k<|cG h λq7 h=>ae (iE aJ (l:=x1.1) (c:=[.own 5 0 v6.length]) q7 k k k k k k k k k k k k k k) k<|aa k k<|an<|aU<|tn<|aL (t:=mN [(2,.ptr 0 0 0),(3,.ptr 1 0 0),(5,.own 7 0 ((x1.1++[v6]).length)),(13,.own 3 0 v2.length),(14,.int ((v2.length:Nat):Int)),(15,.int x1.2)] [(0,⟨6,[eR a0]⟩),(1,⟨6,[eR a1]⟩),(3,⟨1,v2.map (ow (dL 1 eI))⟩),(7,⟨1,List.map (ow (dL 3 eM)) (x1.1++[v6])⟩)] 8) (Ent.trans (fH (b:=7) (b':=5) (j:=0) (es':=v6.map eM) k k k k (aQ _ _) (bU.frzs _)) (bT (iU 2 k2 (gK ⟨_,k,⟨k,k,(by simp only [aQ,lA,lT,lR,lC,lN]),k⟩⟩ (bJ k2))) (bA k<|bA k<|cE (bZ.plainO _) k<|hX ⟨_,k,k,.inl ⟨jH v6 k,bZ.plainO _⟩⟩ k<|aS) k4))<|rg<|ae (bB k k) k<|am k k<|an ?_;exact tn<|sp h ⟨_,k,(kC [0,1,7,3] (bJ k2) (bA k<|bA k<|cE (bZ.plainO _) k<|cE (bZ.plainO _) k<|aS) k4)⟩
 ·rintro e t ⟨rfl,hent⟩;exact aN<|tn<|aL hent<|sR<|am k k<|aT k2<|aD<|sp h (bK k k k (fZ (dE bZ k k)))
def tK (a0:Int) (x1:(Int×(List Int)×Int)):Option ((Int×(List Int)×Int) ⊕ (List Int)):=
 bif decide (0≤x1.2.2) then
 (bif !decide (a0=0) then
 ((cJ x1.2.1 x1.2.2).bind λv2=>
 bif !decide (a0=0) then
 (some (.inl (wr (x1.1.tdiv a0),(x1.2.1.set x1.2.2.toNat (x1.1.tmod a0)),wr (x1.2.2 - 1))))
 else none)
 else none)
 else
 (some (.inr x1.2.1))
def aAD (a0:Int) (a1:Int) (a2:Int):Option (List Int):=
 bif (decide (0≤a1)&&decide (a1≤1048576)) then
 ((Lp (tK a0) (a2,(List.replicate a1.toNat (0:Int)),wr (a1 - 1))).bind λy5=>
 some (y5))
 else none
theorem aLe (a0:Int) (a1:Int) (a2:Int) (r:(List Int)) (h:aAD a0 a1 a2=some r):HasC Tryz.prog 224 [.int a0,.int a1,.int a2] (.list 1 (r.map eI)):=by
 refine hM [.tmp 6] Tryz.func224 Tryz.ntmps224 k<|sR<|aT k2<|sR<|am k k<|cG h λq6 h=>ae (aAL aJ q6 k k k k k k k k) k<|aT k2<|aL (t:=mN [(0,.int a0),(1,.int a1),(2,.int a2),(7,.own 0 0 ((List.replicate a1.toNat (0:Int)).length))] [(0,⟨1,List.map (ow eI) (List.replicate a1.toNat (0:Int))⟩)] 1) (bT (iU 3 k2 (gK ⟨_,k,⟨k,k,(by simp only [aQ,lA,lT,lR,lC,lN]),k⟩⟩ aS)) (hX ⟨_,k,k,.inl ⟨aAr (e:=eI) (z:=0) _,cX.plainO _⟩⟩ k<|aS) k4)<|sQ<|sR<|am k k<|ae (jL k k) k<|aT k2<|aC<|oB h λy5 hy5 h=>bX (body:=(tK a0)) hy5 (λ(x1:(Int×(List Int)×Int))=>mN [(0,.int a0),(2,.int x1.1),(7,.own 0 0 x1.2.1.length),(8,.int x1.2.2)] [(0,⟨1,x1.2.1.map (ow eI)⟩)] 1) (λr e t=>e= .exit 0∧Ent t (mN [(7,.own 0 0 r.length)] [(0,⟨1,r.map (ow eI)⟩)] 1)) (bT (bJ k2) (bG k<|aS) k4) ?_ ?_
 ·intro x1 o h;exact sQ<|sR<|am k k<|cm k4<|an<|tn<|cV k h (λ_ h=>aG<|tn<|sQ<|aC<|sR<|am k k<|am k k<|am k k<|am k k<|cG h λq4 h=>ae (aGI k k q4) k<|oB h λv2 hv2 h=>ae (xo hv2 k) k<|ae (fG aJ jG (u:=x1.1.tmod a0) (dB hv2) k k k k k k) k<|an<|tn<|rg<|am k k<|am k k<|cG h λq3 h=>ae (aTs k k q3) k<|aa k k<|an<|aU<|tn<|rg<|am k k<|ae (jL k k) k<|aT k2<|sp h ⟨_,k,(bT (iU 2 k2 (gK ⟨_,k,⟨k,k,(by simp only [aQ,lA,lT,lR,lC,lN]),k⟩⟩ (bJ k2))) (bG k<|aS) k4)⟩) λ_ h=>aW<|aA<|aA<|sp h ⟨_,k,k,(bT (bJ k2) (bG k<|aS) k4)⟩
 ·rintro e t ⟨rfl,hent⟩;exact aN<|tn<|aL hent<|sR<|am k k<|aT k2<|aD<|sp h (bK k k k (fZ (dE cX k k)))
def tL (a0:Rp) (a3:(List Int)) (v3:(List Mt)) (x1:((List Mt)×Int)) (x2:((List Mt)×Int)):Option (((List Mt)×Int) ⊕ (List Mt)):=
 bif decide (x2.2<(v3.length:Int)) then
 ((cJ v3 x2.2).bind λv5=>
 (cJ x2.1 x2.2).bind λv6=>
 (cJ a3 x1.2).bind λv7=>
 (eO a0.p v6.cells 0 v6.cells.length v7 v5.cells).bind λv8=>
 bif decide (v8.length=v6.cells.length) then
 (some (.inl ((x2.1.set x2.2.toNat (⟨v6.rows,v6.cols,v8⟩:Mt)),wr (x2.2+1))))
 else none)
 else
 (some (.inr x2.1))
def tM (a0:Rp) (a2:(List (List Mt))) (a3:(List Int)) (x1:((List Mt)×Int)):Option (((List Mt)×Int) ⊕ (List Mt)):=
 bif decide (x1.2<(a2.length:Int)) then
 ((cJ a2 x1.2).bind λv3=>
 (Lp (tL a0 a3 v3 x1) (x1.1,0)).bind λy10=>
 some (.inl (y10,wr (x1.2+1))))
 else
 (some (.inr x1.1))
def aCz (a0:Rp) (a1:Rp) (a2:(List (List Mt))) (a3:(List Int)):Option (List Mt):=
 (xB a0 a1).bind λv1=>
 (Lp (tM a0 a2 a3) (v1,0)).bind λy11=>
 some (y11)
theorem aLf (a0:Rp) (a1:Rp) (a2:(List (List Mt))) (a3:(List Int)) (r:(List Mt)) (h:aCz a0 a1 a2 a3=some r):HasC Tryz.prog 223 [.agg (eR a0),.agg (eR a1),.list 1 (a2.map (dL 3 eM)),.list 1 (a3.map eI)] (.list 3 (r.map eM)):=by
 refine aRJ aJ (rvs:=[.tmp 8]) (ns:=nmA) Tryz.func223 k k Tryz.ntmps223 k k k (λW=>?_);refine aMj<|aAv<|aAv<|uM (λw0_2 S0_2 r0_2=>?_);refine uM (λw0_3 S0_3 r0_3=>?_);refine uM (λw0_4 S0_4 r0_4=>?_);refine uM (λw0_5 S0_5 r0_5=>?_);refine aAu<|aMj<|aAv<|aAv<|uM (λw1_2 S1_2 r1_2=>?_);refine uM (λw1_3 S1_3 r1_3=>?_);refine uM (λw1_4 S1_4 r1_4=>?_);refine uM (λw1_5 S1_5 r1_5=>?_);refine aAu<|aSt (λw2_0 S2_0 r2_0=>?_);refine aSt (λw3_0 S3_0 r3_0=>?_);refine aRH<|sS<|se (wb k) k<|se (wb k) k<|saS k2<|sn<|tn<|sS<|lpS k8<|lpS k8<|oB h λv1 hv1 h=>se (cLK bU (aFT a0 a1 v1 hv1) k3 (aAt (vrR k r0_2 r0_3 r0_4 r0_5) (aAt (vrR k r1_2 r1_3 r1_4 r1_5) aIC))) k<|saS k2<|sn<|tn<|sQ<|sS<|lS k2<|se (aEu aJ r2_0 k k k) k<|lS k2<|sn<|tn<|aC<|oB h λy11 hy11 h=>bX (body:=(tM a0 a2 a3)) hy11 (λ(x1:((List Mt)×Int))=>mN [(3,.sc w3_0),(4,.ptr 0 0 0),(9,.own 1 0 x1.1.length),(17,.sc w2_0),(18,.int (a2.length:Int)),(19,.int x1.2)] [(0,⟨6,[[.int a0.p,.int a0.q.n,.sc w0_2,.sc w0_3,.sc w0_4,.sc w0_5]]⟩),(1,⟨3,x1.1.map (ow eM)⟩)] 2 ⟨0,true,fxW W,true⟩) (λr e t=>e= .exit 0∧Ent t (mN [(9,.own 0 0 r.length)] [(0,⟨3,r.map (ow eM)⟩)] 1 ⟨0,true,fxW W,true⟩)) (kC [0,2] (bJ k2) (bA k<|cE (bU.plainO _) k<|aS) k4) ?_ ?_
 ·intro x1 o h;refine sS<|cmS k4<|sn<|tn<|sQ<|cV k h (λ_ h=>?_) λ_ h=>aW<|aA<|aA<|sp h ⟨_,k,k,(kC [1] (bJ k2) (cE (bU.plainO _) k<|aS) k4)⟩;refine aG<|tn<|sQ<|aC<|sS<|lS k2<|oB h λv3 hv3 h=>se (yL aJ r2_0 hv3 k k k k k k) k<|aHK aJ [.list 3 (v3.map eM)] (uH r2_0 (dB hv3)) k k k k k k k k k<|uM (λwn9 Sn9 rn9=>?_);refine aAu<|saS k2<|saS k2<|sn<|tn<|sS<|lS k2<|se (aEu aJ rn9 k k k) k<|lS k2<|sn<|tn<|aC<|oB h λy10 hy10 h=>bX (body:=(tL a0 a3 v3 x1)) hy10 (λ(x2:((List Mt)×Int))=>mN [(3,.sc w3_0),(4,.ptr 0 0 0),(9,.own 1 0 x2.1.length),(10,.int x1.2),(17,.sc w2_0),(18,.int (a2.length:Int)),(19,.int x1.2),(24,.sc wn9),(25,.int (v3.length:Int)),(26,.int x2.2)] [(0,⟨6,[[.int a0.p,.int a0.q.n,.sc w0_2,.sc w0_3,.sc w0_4,.sc w0_5]]⟩),(1,⟨3,x2.1.map (ow eM)⟩)] 2 ⟨0,true,fxW W,true⟩) (λr e t=>e= .exit 2∧Ent t (mN [(3,.sc w3_0),(4,.ptr 0 0 0),(9,.own 1 0 r.length),(17,.sc w2_0),(18,.int (a2.length:Int)),(19,.int x1.2)] [(0,⟨6,[[.int a0.p,.int a0.q.n,.sc w0_2,.sc w0_3,.sc w0_4,.sc w0_5]]⟩),(1,⟨3,r.map (ow eM)⟩)] 2 ⟨0,true,fxW W,true⟩)) (bT (bJ k2) (bA k<|cE (bU.plainO _) k<|aS) k4) ?_ ?_
  ·intro x2 o h;refine sS<|cmS k4<|sn<|tn<|sQ<|cV k h (λ_ h=>?_) λ_ h=>aW<|aA<|aA<|sp h ⟨_,k,k,(bT (bJ k2) (bA k<|cE (bU.plainO _) k<|aS) k4)⟩;refine aG<|tn<|sQ<|aC<|sS<|lS k2<|oB h λv5 hv5 h=>se (yL aJ rn9 hv5 k k k k k k) k<|aHK aJ [.int v5.rows,.int v5.cols,.list 1 (v5.cells.map eI)] (uH rn9 (dB hv5)) k k k k k k k k k<|aAv<|aAv<|uM (λwn12 Sn12 rn12=>?_);refine aAu<|se (bP aJ k k) k<|saS k2<|se (ws k) k<|sn<|tn<|oB h λv6 hv6 h=>aL (t:=mN [(3,.sc w3_0),(4,.ptr 0 0 0),(9,.own 1 0 x2.1.length),(10,.int x1.2),(12,.int x2.2),(13,.ptr 2 0 0),(17,.sc w2_0),(18,.int (a2.length:Int)),(19,.int x1.2),(24,.sc wn9),(25,.int (v3.length:Int)),(26,.int x2.2),(27,.bl (decide (x2.2<(v3.length:Int)))),(28,.int x2.2),(29,.sc (aNL wn9 3 x2.2.toNat)),(30,.agg [.int v5.rows,.int v5.cols,.sc wn12])] [(0,⟨6,[[.int a0.p,.int a0.q.n,.sc w0_2,.sc w0_3,.sc w0_4,.sc w0_5]]⟩),(1,⟨3,(x2.1.map (ow eM)).set x2.2.toNat [.int v6.rows,.int v6.cols,.abs 1 (v6.cells.map eI)]⟩),(2,⟨3,[[.int v5.rows,.int v5.cols,.sc wn12]]⟩)] 3 ⟨0,true,fxW W,true⟩) (bT (bJ k2) (bA k<|hX ⟨_,k,k,.inl ⟨aIw (dB hv6),aGz bU k⟩⟩ k<|bA k<|aS) k4)<|aL (aHA (b:=1) (c:=3) (i:=x2.2.toNat) (j:=2) (n:=v6.cells.length) (A:=x2.1.map (ow eM)) (fs:=v6.cells.map (ow eI)) (by rw [dU];exact rH hv6) k k k k (aQ _ _) (gU _ _) (aMk ⟨k,k,k,k,k,k,k,k,k,k,k,k,k,k,k,k,aS⟩) (aMl (skip:=[]) ⟨.inr (aAw k),.inr (bU.dfS _ _ _ k),.inr (aAw k),aS⟩))<|aL (t:=mN [(3,.sc w3_0),(4,.ptr 0 0 0),(9,.own 1 0 x2.1.length),(10,.int x1.2),(12,.int x2.2),(13,.ptr 2 0 0),(17,.sc w2_0),(18,.int (a2.length:Int)),(19,.int x1.2),(24,.sc wn9),(25,.int (v3.length:Int)),(26,.int x2.2),(27,.bl (decide (x2.2<(v3.length:Int)))),(28,.int x2.2),(29,.sc (aNL wn9 3 x2.2.toNat)),(30,.agg [.int v5.rows,.int v5.cols,.sc wn12])] [(0,⟨6,[[.int a0.p,.int a0.q.n,.sc w0_2,.sc w0_3,.sc w0_4,.sc w0_5]]⟩),(1,⟨3,(x2.1.map (ow eM)).set x2.2.toNat [.int v6.rows,.int v6.cols,.own 3 0 v6.cells.length]⟩),(2,⟨3,[[.int v5.rows,.int v5.cols,.sc wn12]]⟩),(3,⟨1,v6.cells.map (ow eI)⟩)] 4 ⟨0,true,fxW W,true⟩) (eJ (σ:=sg [(0,0),(1,1),(2,2),(3,3)]) (bJ k2) (bA k<|hX ⟨_,k,k,.inr (aIr (σ:=sg [(0,0),(1,1),(2,2),(3,3)]) (m:=4) (e:=eM) (l:=x2.1) (i:=x2.2.toNat) (c:=[.int v6.rows,.int v6.cols,.own 3 0 v6.cells.length]) (d:=[.int v6.rows,.int v6.cols,.own 3 0 v6.cells.length]) bU ⟨_,_,k,k,⟨_,_,k,k,⟨_,_,k,⟨k,k,k,k⟩,k⟩⟩⟩)⟩ k<|bA k<|bG k<|aS) k)<|aP eG<|fp k8<|lp k8<|am k k<|am k k<|ae (xo hv6 k) k<|fp k8<|ae (eK aJ k k k k (aMc (rH hv6)) k k) k<|am k k<|am k k<|oB h λv7 hv7 h=>ae (yL aJ r3_0 hv7 k k k k k k) k<|ae (aIK aJ r3_0 (dB hv7) k k k k k k k) k<|fp k8<|lp k8<|oB h λv8 hv8 h=>ae (aUt (σ:=sg [(0,3)]) (σ':=sg [(3,0)]) (touch:=[3]) (news:=[]) (nP:=[(3,⟨1,v8.map (ow eI)⟩)]) (n':=4) (r2:= .own 3 0 v6.cells.length) (sA a0.p v6.cells 0 v6.cells.length v7 v5.cells v8 hv8) k k ⟨_,_,k,(.inl k),⟨_,_,k,(.inl ⟨k,k,k,k⟩),⟨_,_,k,(.inl k),⟨_,_,k,(.inr ⟨aYp k rn12,k,⟨k,k⟩⟩),k⟩⟩⟩⟩ ⟨⟨_,k,k,.inl ⟨k,cX.plainO _⟩⟩,k,aS⟩ k k k ⟨⟨_,k,k,.inl ⟨k,cX.plainO _⟩⟩,k,aS⟩ k ⟨k,k,(by simp only [aQ,lA,lT,lR,lC,lN]),k⟩ k ⟨k,cX.tame _ _,aS⟩ k k) k<|cG h λq9 h=>an<|lB (by kernel_rfl)<|aU<|tn<|aL (t:=mN [(3,.sc w3_0),(4,.ptr 0 0 0),(9,.own 1 0 ((x2.1.set x2.2.toNat (⟨v6.rows,v6.cols,v8⟩:Mt)).length)),(10,.int x1.2),(17,.sc w2_0),(18,.int (a2.length:Int)),(19,.int x1.2),(24,.sc wn9),(25,.int (v3.length:Int)),(26,.int x2.2)] [(0,⟨6,[[.int a0.p,.int a0.q.n,.sc w0_2,.sc w0_3,.sc w0_4,.sc w0_5]]⟩),(1,⟨3,List.map (ow eM) (x2.1.set x2.2.toNat (⟨v6.rows,v6.cols,v8⟩:Mt))⟩)] 4 ⟨0,true,fxW W,true⟩) (Ent.trans (aCU (b:=1) (b':=3) (j:=2) (es':=v8.map eI) (by rw [dU];exact rH hv6) k k k k (by simp only [aQ,lA,lT,lR,lC,lN,of_decide_eq_true q9]) (cX.frzs _)) (bT (iU 2 k2 (gK ⟨_,k,⟨k,k,(by simp only [aQ,lA,lT,lR,lC,lN,of_decide_eq_true q9]),k⟩⟩ (bJ k2))) (bA k<|hX ⟨_,k,k,.inl ⟨aGK (⟨v6.rows,v6.cols,v8⟩:Mt) k,bU.plainO _⟩⟩ k<|aS) k4))<|rgS ?_;exact se (bB k k) k<|lS k2<|sn<|tn<|sp h ⟨_,k,(bT (bJ k2) (bA k<|cE (bU.plainO _) k<|aS) k4)⟩
  ·rintro e t ⟨rfl,hent⟩;exact aN<|aU<|tn<|aL hent<|rgS<|se (bB k k) k<|lS k2<|sn<|tn<|sp h ⟨_,k,(bT (bJ k2) (bA k<|cE (bU.plainO _) k<|aS) k4)⟩
 ·rintro e t ⟨rfl,hent⟩;exact aN<|tn<|aL hent<|sS<|lS k2<|saS k2<|sn<|tn<|aD<|sp h (bK k k k (fZ (dE bU k k)))
def aAE (a0:Rp) (a1:Rp) (a2:(List (List Mt))) (a3:Int):Option (List Mt):=
 (aAD a0.p (a2.length:Int) a3).bind λv1=>
 (aCz a0 a1 a2 v1).bind λv2=>
 some (v2)
theorem aLg (a0:Rp) (a1:Rp) (a2:(List (List Mt))) (a3:Int) (r:(List Mt)) (h:aAE a0 a1 a2 a3=some r):HasC Tryz.prog 171 [.agg (eR a0),.agg (eR a1),.list 1 (a2.map (dL 3 eM)),.int a3] (.list 3 (r.map eM)):=by
 exact hM [.tmp 8] Tryz.func171 Tryz.ntmps171 k<|sR<|ae (wb k) k<|ae (wb k) k<|aT k2<|sQ<|aP eG<|lp k8<|lp k8<|am k k<|fp k8<|lp k8<|am k k<|ln k4<|am k k<|oB h λv1 hv1 h=>ae (cL cX (aLe a0.p (a2.length:Int) a3 v1 hv1) k3 (cC k (cC k (cC k aI)))) k<|oB h λv2 hv2 h=>ae (cL bU (aLf a0 a1 a2 v1 v2 hv2) k3 (aH (dI k) (aH (dI k) (cC k (vcT k k aI))))) k<|aa k k<|an<|lB (by kernel_rfl)<|tn<|aD<|sp h (bK k k k (fZ (dE bU k k)))
def jT (a0:Int) (a1:Int) (x1:(Int×Int)):Option ((Int×Int) ⊕ Int):=
 bif decide (x1.2<a1) then
 (bif decide (x1.1≤100000) then
 (some (.inl (wr (x1.1*a0),wr (x1.2+1))))
 else
 (some (.inr x1.1)))
 else
 (some (.inr x1.1))
def rU (a0:Int) (a1:Int):Option Int:=
 (Lp (jT a0 a1) (1,0)).bind λy3=>
 some (y3)
theorem aEy (a0:Int) (a1:Int) (r:Int) (h:rU a0 a1=some r):HasC Tryz.prog 160 [.int a0,.int a1] (.int r):=by
 refine hM [.tmp 4] Tryz.func160 Tryz.ntmps160 k<|sR<|aT k2<|sR<|aT k2<|sQ<|sR<|aT k2<|aC<|oB h λy3 hy3 h=>bX (body:=(jT a0 a1)) hy3 (λ(x1:(Int×Int))=>mN [(0,.int a0),(1,.int a1),(5,.int x1.1),(6,.int x1.2)] [] 0) (λr e t=>e= .exit 0∧Ent t (mN [(5,.int r)] [] 0)) (bT (bJ k2) aS k4) ?_ ?_
 ·intro x1 o h;exact sQ<|sR<|am k k<|am k k<|cm k4<|am k k<|mG h (λq1 h=>aM 10 k q1<|am k k<|cm k4<|pk k3<|an<|tn<|cV k h (λ_ h=>aG<|tn<|sQ<|aC<|rg<|am k k<|am k k<|ae (fC k k) k<|aa k k<|an<|aU<|tn<|rg<|am k k<|ae (bB k k) k<|aT k2<|sp h ⟨_,k,(bT (bJ k2) aS k4)⟩) λ_ h=>aW<|aA<|aA<|sp h ⟨_,k,k,(bT (bJ k2) aS k4)⟩) λq1 h=>aM 10 k q1<|aK k4<|pk k3<|an<|tn<|vV k k<|aW<|aA<|aA<|sp h ⟨_,k,k,(bT (bJ k2) aS k4)⟩
 ·rintro e t ⟨rfl,hent⟩;exact aN<|tn<|aL hent<|sR<|am k k<|aT k2<|aD<|qD h k2
def aAF (a0:Int) (a1:(List Mt)) (x1:((List Int)×Int)):Option (((List Int)×Int) ⊕ (List Int)):=
 bif decide (x1.2<(a1.length:Int)) then
 ((cJ a1 x1.2).bind λv2=>
 (aCX a0 v2).bind λv3=>
 bif decide (x1.1.length+[v3].length ≤4294967296) then
 (some (.inl ((x1.1++[v3]),wr (x1.2+1))))
 else none)
 else
 (some (.inr x1.1))
def aDP (a0:Int) (a1:(List Mt)):Option (List Int):=
 (Lp (aAF a0 a1) ([],0)).bind λy5=>
 some (y5)
theorem aQT (a0:Int) (a1:(List Mt)) (r:(List Int)) (h:aDP a0 a1=some r):HasC Tryz.prog 225 [.int a0,.list 3 (a1.map eM)] (.list 1 (r.map eI)):=by
 refine hM [.tmp 4] Tryz.func225 Tryz.ntmps225 k<|sR<|aT k2<|sR<|aT k2<|sQ<|sR<|am k k<|ln k4<|am k k<|an<|tn<|aC<|oB h λy5 hy5 h=>bX (body:=(aAF a0 a1)) hy5 (λ(x1:((List Int)×Int))=>mN [(0,.int a0),(5,.own 0 0 x1.1.length),(8,.list 3 (a1.map eM)),(9,.int (a1.length:Int)),(10,.int x1.2)] [(0,⟨1,x1.1.map (ow eI)⟩)] 1) (λr e t=>e= .exit 0∧Ent t (mN [(5,.own 0 0 r.length)] [(0,⟨1,r.map (ow eI)⟩)] 1)) (eJ (σ:=sg []) (iU 1 k2 (gK ⟨_,k,⟨k,k,k,k⟩⟩ (bJ k2))) (hX k k<|aS) k) ?_ ?_
 ·intro x1 o h;exact sR<|cm k4<|an<|tn<|sQ<|cV k h (λ_ h=>aG<|tn<|sQ<|aC<|sR<|oB h λv2 hv2 h=>ae (xl hv2 k) k<|lr k7<|ae (bP aJ k k) k<|ae (ws k) k<|an<|tn<|rg<|am k k<|am k k<|lp k8<|oB h λv3 hv3 h=>ae (aO (aKn a0 v2 v3 hv3) k (cC k (aH (dI k) aI))) k<|ae (wl k) k<|cG h λq4 h=>ae (mP aJ (l:=x1.1) (m:=[v3]) jG q4 k k k k k k k k k k k k) k<|aa k k<|an<|aU<|tn<|rg<|ae (bB k k) k<|am k k<|an<|tn<|sp h ⟨_,k,(kC [3] (bJ k2) (bG k<|aS) k4)⟩) λ_ h=>aW<|aA<|aA<|sp h ⟨_,k,k,(bT (bJ k2) (bG k<|aS) k4)⟩
 ·rintro e t ⟨rfl,hent⟩;exact aN<|tn<|aL hent<|sR<|am k k<|aT k2<|aD<|sp h (bK k k k (fZ (dE cX k k)))
def vM (a0:Rp) (a1:Rp) (a2:(List Mt)):Option Bool:=
 (eZ a0.dims a1.dims).bind λv1=>
 bif v1 then
 ((aDP a0.p a2).bind λv3=>
 (eZ v3 a0.dims).bind λv4=>
 some (v4))
 else
 (some (false))
theorem aJd (a0:Rp) (a1:Rp) (a2:(List Mt)) (r:Bool) (h:vM a0 a1 a2=some r):HasC Tryz.prog 172 [.agg (eR a0),.agg (eR a1),.list 3 (a2.map eM)] (.bl r):=by
 exact hM [.tmp 6] Tryz.func172 Tryz.ntmps172 k<|sR<|ae (wb k) k<|ae (wb k) k<|aT k2<|sQ<|aP eG<|fp k8<|lp k8<|fp k8<|lp k8<|oB h λv1 hv1 h=>ae (aO (hJ a0.dims a1.dims v1 hv1) k (cC k (cC k aI))) k<|am k k<|mG h (λq2 h=>aM 12 k q2<|fp k8<|lp k8<|am k k<|oB h λv3 hv3 h=>ae (cL cX (aQT a0.p a2 v3 hv3) k3 (cC k (cC k aI))) k<|fp k8<|lp k8<|oB h λv4 hv4 h=>ae (aO (hJ v3 a0.dims v4 hv4) k (vcT k k (cC k aI))) k<|pk k3<|aa k k<|an<|lB (by kernel_rfl)<|tn<|aD<|gJ h k2) λq2 h=>aM 12 k q2<|aK k4<|aK k4<|aK k4<|ak k k<|pk k3<|aa k k<|an<|lB (by kernel_rfl)<|tn<|aD<|gJ h k2
def kE (a0:Rp) (a1:Rp) (a2:(List (List Mt))) (v1:Int) (x1:Int):Option (Int ⊕ (Unit ⊕ ((List Mt)×Bool))):=
 bif decide (x1<min v1 3000) then
 ((aAE a0 a1 a2 x1).bind λv3=>
 (vM a0 a1 v3).bind λv4=>
 bif v4 then
 (some (.inr (.inr ((v3,true)))))
 else
 (some (.inl (wr (x1+1)))))
 else
 (some (.inr (.inl ())))
def nG (a0:Rp) (a1:Rp) (a2:(List (List Mt))):Option ((List Mt)×Bool):=
 (rU a0.p (a2.length:Int)).bind λv1=>
 (Lp (kE a0 a1 a2 v1) 0).bind λy6=>
 Sum.elim (λy7=>
 some (([],false))
 )
 (λy8=>
 some y8
 )
 y6
theorem aFi (a0:Rp) (a1:Rp) (a2:(List (List Mt))) (r:((List Mt)×Bool)) (h:nG a0 a1 a2=some r):HasC Tryz.prog 122 [.agg (eR a0),.agg (eR a1),.list 1 (a2.map (dL 3 eM))] (.tuple [.list 3 (r.1.map eM),.bl r.2]):=by
 refine hM [.tmp 6,.tmp 7] Tryz.func122 Tryz.ntmps122 k<|sR<|ae (wb k) k<|ae (wb k) k<|aa k k<|aT k2<|sQ<|sR<|fp k8<|lp k8<|am k k<|ln k4<|oB h λv1 hv1 h=>ae (aO (aEy a0.p (a2.length:Int) v1 hv1) k (cC k (cC k aI))) k<|ae (aZy k k) k<|am k k<|an<|tn<|aC<|oB h λy6 hy6 h=>bX (body:=(kE a0 a1 a2 v1)) hy6 (λ(x1:Int)=>mN [(2,.list 1 (a2.map (dL 3 eM))),(3,.ptr 0 0 0),(4,.ptr 1 0 0),(15,.int (min v1 3000)),(16,.int x1)] [(0,⟨6,[eR a0]⟩),(1,⟨6,[eR a1]⟩)] 2) (λr e t=>Sum.elim (λa=>(λr e t=>e= .exit 0∧Ent t (mN [] [] 0)) a e t) (λb=>(λr e t=>e= .ret∧qE TT [.tmp 6,.tmp 7] (.tuple [.list 3 (r.1.map eM),.bl r.2]) .ret t) b e t) r) (bT (bJ k2) (bA k<|bA k<|aS) k4) ?_ ?_
 ·intro x1 o h;exact sR<|cm k4<|an<|tn<|sQ<|cV k h (λ_ h=>aG<|tn<|sQ<|aC<|sR<|am k k<|aT k2<|sR<|lp k8<|lp k8<|am k k<|am k k<|oB h λv3 hv3 h=>ae (cL bU (aLg a0 a1 a2 x1 v3 hv3) k3 (aH (dI k) (aH (dI k) (cC k (cC k aI))))) k<|aT k2<|sR<|lp k8<|lp k8<|am k k<|oB h λv4 hv4 h=>ae (aO (aJd a0 a1 v3 v4 hv4) k (aH (dI k) (aH (dI k) (aH (aCi bU k k) aI)))) k<|an<|tn<|cV k h (λ_ h=>sR<|am k k<|aa k k<|aT k2<|aD<|bF<|aE<|aE<|sp h ⟨_,k,k,bK k k k (dG k (bY (jM (dE bU k k)) (bY (k) gN)))⟩) λ_ h=>aG<|aU<|tn<|rg<|ae (bB k k) k<|am k k<|an<|tn<|sp h ⟨_,k,(bT (bJ k2) (bA k<|bA k<|aS) k4)⟩) λ_ h=>aW<|aA<|aA<|sp h ⟨_,k,k,(bT aS aS k4)⟩
 ·intro e t hX;rcases y6 with y7|y8
  ·obtain ⟨rfl,hent⟩:=hX;exact aN<|tn<|aL hent<|sR<|aa k k<|aT k2<|aD<|sp h (bK k k k (dG k (bY (jM (k)) (bY (k) gN))))
  ·obtain ⟨rfl,hent⟩:=hX;exact bF<|aE<|sp h hent
def aCP (a0:Rp) (a1:Rp):Option Bool:=
 (eZ a0.dims a1.dims).bind λv1=>
 bif !v1 then
 (some (true))
 else
 ((qK a0 a0).bind λv3=>
 (qK a0 a1).bind λv4=>
 bif !decide (v4=v3) then
 (some (true))
 else
 ((qK a1 a0).bind λv6=>
 bif !decide (v6=v3) then
 (some (true))
 else
 ((qK a1 a1).bind λv8=>
 some (!decide (v8=v3)))))
theorem aOH (a0:Rp) (a1:Rp) (r:Bool) (h:aCP a0 a1=some r):HasC Tryz.prog 62 [.agg (eR a0),.agg (eR a1)] (.bl r):=by
 exact hM [.tmp 4] Tryz.func62 Tryz.ntmps62 k<|sR<|ae (wb k) k<|ae (wb k) k<|aT k2<|sQ<|sR<|fp k8<|lp k8<|fp k8<|lp k8<|oB h λv1 hv1 h=>ae (aO (hJ a0.dims a1.dims v1 hv1) k (cC k (cC k aI))) k<|ae (dD k) k<|an<|tn<|cV k h (λ_ h=>sR<|aT k2<|aD<|aE<|gJ h k2) λ_ h=>aG<|tn<|sR<|lp k8<|lp k8<|oB h λv3 hv3 h=>ae (aO (aCK a0 a0 v3 hv3) k (aH (dI k) (aH (dI k) aI))) k<|aT k2<|sR<|lp k8<|lp k8<|oB h λv4 hv4 h=>ae (aO (aCK a0 a1 v4 hv4) k (aH (dI k) (aH (dI k) aI))) k<|am k k<|cm k4<|am k k<|mG h (λq5 h=>aM 20 k q5<|aK k4<|aK k4<|ak k k<|pk k3<|am k k<|aK k4<|aK k4<|ak k k<|pk k3<|aT k2<|aD<|gJ h k2) λq5 h=>aM 20 k q5<|lp k8<|lp k8<|oB h λv6 hv6 h=>ae (aO (aCK a1 a0 v6 hv6) k (aH (dI k) (aH (dI k) aI))) k<|am k k<|cm k4<|pk k3<|am k k<|mG h (λq7 h=>aM 27 k q7<|aK k4<|aK k4<|ak k k<|pk k3<|aT k2<|aD<|gJ h k2) λq7 h=>aM 27 k q7<|lp k8<|lp k8<|oB h λv8 hv8 h=>ae (aO (aCK a1 a1 v8 hv8) k (aH (dI k) (aH (dI k) aI))) k<|am k k<|cm k4<|pk k3<|aT k2<|aD<|gJ h k2
def lM (a0:Rp) (a1:Rp):Option Int:=
 (vY a0 a1).bind λv1=>
 bif !v1 then
 (some ((-1)))
 else
 ((aCP a0 a1).bind λv3=>
 bif v3 then
 (some (0))
 else
 ((aAC a0 a1).bind λv5=>
 (nG a0 a1 v5).bind λv6=>
 bif v6.2 then
 (some (1))
 else
 ((rU a0.p ((v5.length:Nat):Int)).bind λv8=>
 bif decide (v8≤3000) then
 (some (0))
 else
 (some ((-1))))))
theorem aCf (a0:Rp) (a1:Rp) (r:Int) (h:lM a0 a1=some r):HasC Tryz.prog 108 [.agg (eR a0),.agg (eR a1)] (.int r):=by
 refine hM [.tmp 4] Tryz.func108 Tryz.ntmps108 k<|sR<|ae (wb k) k<|ae (wb k) k<|aT k2<|sQ<|sR<|lp k8<|lp k8<|oB h λv1 hv1 h=>ae (aO (aIE a0 a1 v1 hv1) k (aH (dI k) (aH (dI k) aI))) k<|ae (dD k) k<|an<|tn<|cV k h (λ_ h=>sR<|aT k2<|aD<|aE<|qD h k2) λ_ h=>?_;refine aG<|tn<|sQ<|sR<|lp k8<|lp k8<|oB h λv3 hv3 h=>ae (aO (aOH a0 a1 v3 hv3) k (aH (dI k) (aH (dI k) aI))) k<|an<|tn<|cV k h (λ_ h=>sR<|aT k2<|aD<|aE<|qD h k2) λ_ h=>?_;refine aG<|tn<|sR<|lp k8<|lp k8<|oB h λv5 hv5 h=>ae (cL bZ (aLd a0 a1 v5 hv5) k3 (aH (dI k) (aH (dI k) aI))) k<|aT k2<|sQ<|sR<|lp k8<|lp k8<|am k k<|oB h λv6 hv6 h=>ae (cT bU (aFi a0 a1 v5 v6 hv6) k3 (aH (dI k) (aH (dI k) (aH (aCi bZ k k) aI)))) k<|am k k<|ae (bW k k (by intro _ h;cases h)) k<|ae (bW k k (by intro _ h;cases h)) k<|aa k k<|aT k2<|sR<|am k k<|an<|tn ?_;exact aL (t:=mN [(2,.ptr 0 0 0),(5,.own 2 0 v5.length),(25,.bl v6.2)] [(0,⟨6,[eR a0]⟩),(2,⟨1,v5.map (ow (dL 3 eM))⟩)] 4) (bT (bJ k2) (bA k<|cE (bZ.plainO _) k<|aS) k4)<|cV k h (λ_ h=>sR<|aT k2<|aD<|aE<|qD h k2) λ_ h=>aG<|tn<|sQ<|sR<|fp k8<|lp k8<|am k k<|ae (cF aJ k k k k) k<|oB h λv8 hv8 h=>ae (aO (aEy a0.p ((v5.length:Nat):Int) v8 hv8) k (cC k (cC k aI))) k<|cm k4<|an<|tn<|cV k h (λ_ h=>sR<|aT k2<|aD<|aE<|qD h k2) λ_ h=>aG<|tn<|sR<|aT k2<|aD<|qD h k2
def xM (v11:(List Int)) (v12:(List Int)) (x3:((List Int)×Int)):Option (((List Int)×Int) ⊕ (List Int)):=
 bif decide (x3.2<((v12.length:Nat):Int)) then
 ((cJ v12 x3.2).bind λv14=>
 (cJ v11 v14).bind λv15=>
 bif decide (x3.1.length+[v15].length ≤4294967296) then
 (some (.inl ((x3.1++[v15]),wr (x3.2+1))))
 else none)
 else
 (some (.inr x3.1))
def xN (a0:Rp) (v4:Mt) (v6:Sc) (v8:Sc) (x2:((List (List Int))×Int)):Option (((List (List Int))×Int) ⊕ (List (List Int))):=
 bif decide (x2.2<(v8.basis.length:Int)) then
 ((cJ v8.basis x2.2).bind λv10=>
 (aBJ a0.p v4 v10).bind λv11=>
 (gT v6).bind λv12=>
 (Lp (xM v11 v12) ([],0)).bind λy17=>
 bif decide (x2.1.length+1≤4294967296) then
 (some (.inl ((x2.1++[y17]),wr (x2.2+1))))
 else none)
 else
 (some (.inr x2.1))
def xO (a0:Rp) (a1:(List Sc)) (x1:((List Mt)×Int)):Option (((List Mt)×Int) ⊕ (List Mt)):=
 bif decide (x1.2<(a0.maps.length:Int)) then
 ((cJ a0.maps x1.2).bind λv4=>
 (cJ a0.q.tgt x1.2).bind λv5=>
 (cJ a1 v5).bind λv6=>
 (cJ a0.q.src x1.2).bind λv7=>
 (cJ a1 v7).bind λv8=>
 (Lp (xN a0 v4 v6 v8) ([],0)).bind λy19=>
 (dT (v6.basis.length:Int) y19).bind λv20=>
 (cJ x1.1 x1.2).bind λv21=>
 some (.inl ((x1.1.set x1.2.toNat v20),wr (x1.2+1))))
 else
 (some (.inr x1.1))
def xP (a1:(List Sc)) (x4:((List Mt)×Int)):Option (((List Mt)×Int) ⊕ (List Mt)):=
 bif decide (x4.2<(a1.length:Int)) then
 ((cJ a1 x4.2).bind λv24=>
 (dT v24.size v24.basis).bind λv25=>
 bif decide (x4.1.length+1≤4294967296) then
 (some (.inl ((x4.1++[v25]),wr (x4.2+1))))
 else none)
 else
 (some (.inr x4.1))
def aCQ (a0:Rp) (a1:(List Sc)):Option (Rp×(List Mt)):=
 (aBO a1).bind λv1=>
 (wI a0.p a0.q v1).bind λv2=>
 (Lp (xO a0 a1) (v2.maps,0)).bind λy22=>
 (Lp (xP a1) ([],0)).bind λy27=>
 some (((⟨v2.p,v2.q,v2.dims,y22⟩:Rp),y27))
theorem aOI (a0:Rp) (a1:(List Sc)) (r:(Rp×(List Mt))) (h:aCQ a0 a1=some r):HasC Tryz.prog 107 [.agg (eR a0),.list 2 (a1.map eS)] (.tuple [.agg (eR r.1),.list 3 (r.2.map eM)]):=by
 refine hM [.cell 4 32,.tmp 5] Tryz.func107 Tryz.ntmps107 k<|sR<|ae (wb k) k<|ae (bP aJ k k) k<|aT k2<|sQ<|aP eG<|fp k8<|lp k8<|fp k8<|lp k8<|am k k<|oB h λv1 hv1 h=>ae (cL cX (aNQ a1 v1 hv1) k3 (cC k aI)) k<|oB h λv2 hv2 h=>ae (cR (aGb a0.p a0.q v1 v2 hv2) k3 (cC k (aH (dI k) (vcT k k aI)))) k<|ae (bP aJ k k) k<|ae (ws k) k<|an<|lB (by kernel_rfl)<|tn<|sQ<|sR<|fp k8<|lp k8<|ln k4<|am k k<|an ?_;refine tn<|aC<|oB h λy22 hy22 h=>bX (body:=(xO a0 a1)) hy22 (λ(x1:((List Mt)×Int))=>mN [(1,.list 2 (a1.map eS)),(2,.ptr 0 0 0),(4,.ptr 1 0 0),(6,.ptr 2 0 0),(28,.list 3 (a0.maps.map eM)),(29,.int (a0.maps.length:Int)),(30,.int x1.2)] [(0,⟨6,[eR a0]⟩),(1,⟨6,[iR]⟩),(2,⟨6,[[.int v2.p,.int v2.q.n,.own 3 0 v2.q.src.length,.own 4 0 v2.q.tgt.length,.own 5 0 v2.dims.length,.own 6 0 x1.1.length]]⟩),(3,⟨1,v2.q.src.map (ow eI)⟩),(4,⟨1,v2.q.tgt.map (ow eI)⟩),(5,⟨1,v2.dims.map (ow eI)⟩),(6,⟨3,x1.1.map (ow eM)⟩)] 7) (λr e t=>e= .exit 0∧Ent t (mN [(1,.list 2 (a1.map eS)),(4,.ptr 0 0 0),(6,.ptr 1 0 0)] [(0,⟨6,[iR]⟩),(1,⟨6,[[.int v2.p,.int v2.q.n,.own 2 0 v2.q.src.length,.own 3 0 v2.q.tgt.length,.own 4 0 v2.dims.length,.own 5 0 r.length]]⟩),(2,⟨1,v2.q.src.map (ow eI)⟩),(3,⟨1,v2.q.tgt.map (ow eI)⟩),(4,⟨1,v2.dims.map (ow eI)⟩),(5,⟨3,r.map (ow eM)⟩)] 6)) (kC [0,1,7,3,4,5,6] (bJ k2) (bA k<|bA k<|cP k<|bG k<|bG k<|bG k<|cE (bU.plainO _) k<|aS) k4) ?_ ?_
 ·intro x1 o h;refine sR<|cm k4<|an<|tn<|sQ<|cV k h (λ_ h=>?_) λ_ h=>aW<|aA<|aA<|sp h ⟨_,k,k,(kC [1,2,3,4,5,6] (bJ k2) (bA k<|cP k<|bG k<|bG k<|bG k<|cE (bU.plainO _) k<|aS) k4)⟩;refine aG<|tn<|sQ<|aC<|sR<|am k k<|oB h λv4 hv4 h=>ae (xl hv4 k) k<|lr k7<|ae (bP aJ k k) k<|aa k k<|ae (ws k) k<|an<|tn<|sR<|am k k<|fp k8<|fp k8<|lp k8<|am k k<|oB h λv5 hv5 h=>ae (xl hv5 k) k<|lr k7<|oB h λv6 hv6 h=>ae (xl hv6 k) k<|lr k7<|ae (bP aJ k k) k<|ae (ws k) k<|an<|tn ?_;refine sR<|aT k2<|sQ<|sR<|am k k<|fp k8<|fp k8<|lp k8<|am k k<|oB h λv7 hv7 h=>ae (xl hv7 k) k<|lr k7<|oB h λv8 hv8 h=>ae (xl hv8 k) k<|ae (pJ aJ k k k k k k) k<|lr k7<|ln k4<|am k k<|an<|tn<|aL (t:=mN [(1,.list 2 (a1.map eS)),(2,.ptr 0 0 0),(4,.ptr 1 0 0),(6,.ptr 2 0 0),(7,.int x1.2),(8,.ptr 7 0 0),(9,.ptr 8 0 0),(10,.nil 0),(28,.list 3 (a0.maps.map eM)),(29,.int (a0.maps.length:Int)),(30,.int x1.2),(53,.list 1 (v8.basis.map (dL 1 eI))),(54,.int (v8.basis.length:Int)),(55,.int 0)] [(0,⟨6,[eR a0]⟩),(1,⟨6,[iR]⟩),(2,⟨6,[[.int v2.p,.int v2.q.n,.own 3 0 v2.q.src.length,.own 4 0 v2.q.tgt.length,.own 5 0 v2.dims.length,.own 6 0 x1.1.length]]⟩),(3,⟨1,v2.q.src.map (ow eI)⟩),(4,⟨1,v2.q.tgt.map (ow eI)⟩),(5,⟨1,v2.dims.map (ow eI)⟩),(6,⟨3,x1.1.map (ow eM)⟩),(7,⟨3,[eM v4]⟩),(8,⟨2,[eS v6]⟩)] 9) (bT (bJ k2) (bA k<|bA k<|cP k<|bG k<|bG k<|bG k<|cE (bU.plainO _) k<|bA k<|bA k<|aS) k4)<|aC<|oB h λy19 hy19 h=>bX (body:=(xN a0 v4 v6 v8)) hy19 (λ(x2:((List (List Int))×Int))=>mN [(1,.list 2 (a1.map eS)),(2,.ptr 0 0 0),(4,.ptr 1 0 0),(6,.ptr 2 0 0),(7,.int x1.2),(8,.ptr 7 0 0),(9,.ptr 8 0 0),(10,.own 9 0 x2.1.length),(28,.list 3 (a0.maps.map eM)),(29,.int (a0.maps.length:Int)),(30,.int x1.2),(53,.list 1 (v8.basis.map (dL 1 eI))),(54,.int (v8.basis.length:Int)),(55,.int x2.2)] [(0,⟨6,[eR a0]⟩),(1,⟨6,[iR]⟩),(2,⟨6,[[.int v2.p,.int v2.q.n,.own 3 0 v2.q.src.length,.own 4 0 v2.q.tgt.length,.own 5 0 v2.dims.length,.own 6 0 x1.1.length]]⟩),(3,⟨1,v2.q.src.map (ow eI)⟩),(4,⟨1,v2.q.tgt.map (ow eI)⟩),(5,⟨1,v2.dims.map (ow eI)⟩),(6,⟨3,x1.1.map (ow eM)⟩),(7,⟨3,[eM v4]⟩),(8,⟨2,[eS v6]⟩),(9,⟨1,x2.1.map (ow (dL 1 eI))⟩)] 10) (λr e t=>e= .exit 2∧Ent t (mN [(1,.list 2 (a1.map eS)),(2,.ptr 0 0 0),(4,.ptr 1 0 0),(6,.ptr 2 0 0),(7,.int x1.2),(9,.ptr 7 0 0),(10,.own 8 0 r.length),(28,.list 3 (a0.maps.map eM)),(29,.int (a0.maps.length:Int)),(30,.int x1.2)] [(0,⟨6,[eR a0]⟩),(1,⟨6,[iR]⟩),(2,⟨6,[[.int v2.p,.int v2.q.n,.own 3 0 v2.q.src.length,.own 4 0 v2.q.tgt.length,.own 5 0 v2.dims.length,.own 6 0 x1.1.length]]⟩),(3,⟨1,v2.q.src.map (ow eI)⟩),(4,⟨1,v2.q.tgt.map (ow eI)⟩),(5,⟨1,v2.dims.map (ow eI)⟩),(6,⟨3,x1.1.map (ow eM)⟩),(7,⟨2,[eS v6]⟩),(8,⟨1,r.map (ow (dL 1 eI))⟩)] 9)) (eJ (σ:=sg [(0,0),(1,1),(2,2),(3,3),(4,4),(5,5),(6,6),(7,7),(8,8)]) (iU 7 k2 (gK ⟨_,k,⟨k,k,k,k⟩⟩ (bJ k2))) (bA k<|bA k<|cP k<|bG k<|bG k<|bG k<|cE (bU.plainO _) k<|bA k<|bA k<|hX k k<|aS) k) ?_ ?_
  ·intro x2 o h;refine sR<|cm k4<|an<|tn<|sQ<|cV k h (λ_ h=>?_) λ_ h=>aW<|aA<|aA<|sp h ⟨_,k,k,(kC [0,1,2,3,4,5,6,8,9] (bJ k2) (bA k<|bA k<|cP k<|bG k<|bG k<|bG k<|cE (bU.plainO _) k<|bA k<|cE (bZ.plainO _) k<|aS) k4)⟩;refine aG<|tn<|sQ<|aC<|sR<|oB h λv10 hv10 h=>ae (xl hv10 k) k<|lr k7<|aT k2<|sR<|fp k8<|lp k8<|lp k8<|am k k<|oB h λv11 hv11 h=>ae (cL cX (aJU a0.p v4 v10 v11 hv11) k3 (cC k (aH (dI k) (cC k aI)))) k<|aT k2<|sR<|aT k2<|sQ<|sR ?_;refine lp k8<|oB h λv12 hv12 h=>ae (cL cX (uT v6 v12 hv12) k3 (aH (dI k) aI)) k<|ae (cF aJ k k k k) k<|am k k<|an<|tn<|aC<|oB h λy17 hy17 h=>bX (body:=(xM v11 v12)) hy17 (λ(x3:((List Int)×Int))=>mN [(1,.list 2 (a1.map eS)),(2,.ptr 0 0 0),(4,.ptr 1 0 0),(6,.ptr 2 0 0),(7,.int x1.2),(8,.ptr 7 0 0),(9,.ptr 8 0 0),(10,.own 9 0 x2.1.length),(13,.own 10 0 v11.length),(14,.own 11 0 x3.1.length),(28,.list 3 (a0.maps.map eM)),(29,.int (a0.maps.length:Int)),(30,.int x1.2),(53,.list 1 (v8.basis.map (dL 1 eI))),(54,.int (v8.basis.length:Int)),(55,.int x2.2),(65,.own 12 0 v12.length),(66,.int ((v12.length:Nat):Int)),(67,.int x3.2)] [(0,⟨6,[eR a0]⟩),(1,⟨6,[iR]⟩),(2,⟨6,[[.int v2.p,.int v2.q.n,.own 3 0 v2.q.src.length,.own 4 0 v2.q.tgt.length,.own 5 0 v2.dims.length,.own 6 0 x1.1.length]]⟩),(3,⟨1,v2.q.src.map (ow eI)⟩),(4,⟨1,v2.q.tgt.map (ow eI)⟩),(5,⟨1,v2.dims.map (ow eI)⟩),(6,⟨3,x1.1.map (ow eM)⟩),(7,⟨3,[eM v4]⟩),(8,⟨2,[eS v6]⟩),(9,⟨1,x2.1.map (ow (dL 1 eI))⟩),(10,⟨1,v11.map (ow eI)⟩),(11,⟨1,x3.1.map (ow eI)⟩),(12,⟨1,v12.map (ow eI)⟩)] 13) (λr e t=>e= .exit 4∧Ent t (mN [(1,.list 2 (a1.map eS)),(2,.ptr 0 0 0),(4,.ptr 1 0 0),(6,.ptr 2 0 0),(7,.int x1.2),(8,.ptr 7 0 0),(9,.ptr 8 0 0),(10,.own 9 0 x2.1.length),(14,.own 10 0 r.length),(28,.list 3 (a0.maps.map eM)),(29,.int (a0.maps.length:Int)),(30,.int x1.2),(53,.list 1 (v8.basis.map (dL 1 eI))),(54,.int (v8.basis.length:Int)),(55,.int x2.2)] [(0,⟨6,[eR a0]⟩),(1,⟨6,[iR]⟩),(2,⟨6,[[.int v2.p,.int v2.q.n,.own 3 0 v2.q.src.length,.own 4 0 v2.q.tgt.length,.own 5 0 v2.dims.length,.own 6 0 x1.1.length]]⟩),(3,⟨1,v2.q.src.map (ow eI)⟩),(4,⟨1,v2.q.tgt.map (ow eI)⟩),(5,⟨1,v2.dims.map (ow eI)⟩),(6,⟨3,x1.1.map (ow eM)⟩),(7,⟨3,[eM v4]⟩),(8,⟨2,[eS v6]⟩),(9,⟨1,x2.1.map (ow (dL 1 eI))⟩),(10,⟨1,r.map (ow eI)⟩)] 11)) (eJ (σ:=sg [(0,0),(1,1),(2,2),(3,3),(4,4),(5,5),(6,6),(7,7),(8,8),(9,9),(10,10),(12,11)]) (iU 9 k2 (gK ⟨_,k,⟨k,k,k,k⟩⟩ (bJ k2))) (bA k<|bA k<|cP k<|bG k<|bG k<|bG k<|cE (bU.plainO _) k<|bA k<|bA k<|cE (bZ.plainO _) k<|bG k<|hX k k<|bG k<|aS) k) ?_ ?_
   ·intro x3 o h;exact sR<|cm k4<|an<|tn<|sQ<|cV k h (λ_ h=>aG<|tn<|sQ<|aC<|sR<|oB h λv14 hv14 h=>ae (xo hv14 k) k<|ae (wp hv14 k) k<|aT k2<|rg<|am k k<|am k k<|am k k<|oB h λv15 hv15 h=>ae (xo hv15 k) k<|ae (wp hv15 k) k<|ae (wl k) k<|cG h λq16 h=>ae (mP aJ (l:=x3.1) (m:=[v15]) jG q16 k k k k k k k k k k k k) k<|aa k k<|an<|aU<|tn<|rg<|ae (bB k k) k<|am k k<|an<|tn<|sp h ⟨_,k,(kC [0,1,2,3,4,5,6,7,8,9,10,14,12] (bJ k2) (bA k<|bA k<|cP k<|bG k<|bG k<|bG k<|cE (bU.plainO _) k<|bA k<|bA k<|cE (bZ.plainO _) k<|bG k<|bG k<|bG k<|aS) k4)⟩) λ_ h=>aW<|aA<|aA<|sp h ⟨_,k,k,(kC [0,1,2,3,4,5,6,7,8,9,11] (bJ k2) (bA k<|bA k<|cP k<|bG k<|bG k<|bG k<|cE (bU.plainO _) k<|bA k<|bA k<|cE (bZ.plainO _) k<|bG k<|aS) k4)⟩
   ·rintro e t ⟨rfl,hent⟩;exact aN<|tn<|aL hent<|rg<|am k k<|am k k<|ae (wl k) k<|cG h λq18 h=>ae (iE aJ (l:=x2.1) (c:=[.own 10 0 y17.length]) q18 k k k k k k k k k k k k k k) k<|aa k k<|an<|aU<|tn<|aL (t:=mN [(1,.list 2 (a1.map eS)),(2,.ptr 0 0 0),(4,.ptr 1 0 0),(6,.ptr 2 0 0),(7,.int x1.2),(8,.ptr 7 0 0),(9,.ptr 8 0 0),(10,.own 12 0 ((x2.1++[y17]).length)),(28,.list 3 (a0.maps.map eM)),(29,.int (a0.maps.length:Int)),(30,.int x1.2),(53,.list 1 (v8.basis.map (dL 1 eI))),(54,.int (v8.basis.length:Int)),(55,.int x2.2)] [(0,⟨6,[eR a0]⟩),(1,⟨6,[iR]⟩),(2,⟨6,[[.int v2.p,.int v2.q.n,.own 3 0 v2.q.src.length,.own 4 0 v2.q.tgt.length,.own 5 0 v2.dims.length,.own 6 0 x1.1.length]]⟩),(3,⟨1,v2.q.src.map (ow eI)⟩),(4,⟨1,v2.q.tgt.map (ow eI)⟩),(5,⟨1,v2.dims.map (ow eI)⟩),(6,⟨3,x1.1.map (ow eM)⟩),(7,⟨3,[eM v4]⟩),(8,⟨2,[eS v6]⟩),(12,⟨1,List.map (ow (dL 1 eI)) (x2.1++[y17])⟩)] 13) (Ent.trans (fH (b:=12) (b':=10) (j:=0) (es':=y17.map eI) k k k k (aQ _ _) (cX.frzs _)) (bT (iU 7 k2 (gK ⟨_,k,⟨k,k,(by simp only [aQ,lA,lT,lR,lC,lN]),k⟩⟩ (bJ k2))) (bA k<|bA k<|cP k<|bG k<|bG k<|bG k<|cE (bU.plainO _) k<|bA k<|bA k<|hX ⟨_,k,k,.inl ⟨jH y17 k,bZ.plainO _⟩⟩ k<|aS) k4))<|rg<|ae (bB k k) k<|am k k<|an<|tn<|sp h ⟨_,k,(kC [0,1,2,3,4,5,6,7,8,12] (bJ k2) (bA k<|bA k<|cP k<|bG k<|bG k<|bG k<|cE (bU.plainO _) k<|bA k<|bA k<|cE (bZ.plainO _) k<|aS) k4)⟩
  ·rintro e t ⟨rfl,hent⟩;exact aN<|tn<|aL hent<|aP eG<|fp k8<|lp k8<|am k k<|fp k8<|lp k8<|ln k4<|am k k<|oB h λv20 hv20 h=>ae (cM (kO (v6.basis.length:Int) y19 v20 hv20) k3 (cC k (aH (aCi bZ k k) aI))) k<|oB h λv21 hv21 h=>ae (xo hv21 k) k<|ae (aGo aJ k k k k k k (aAJ (dB hv21)) k) k<|an<|lB (by kernel_rfl)<|aU<|tn<|rg<|ae (bB k k) k<|am k k<|an<|tn<|sp h ⟨_,k,(Ent.trans (show Ent _ (mN [(1,.list 2 (a1.map eS)),(2,.ptr 0 0 0),(4,.ptr 1 0 0),(6,.ptr 2 0 0),(28,.list 3 (a0.maps.map eM)),(29,.int (a0.maps.length:Int)),(30,.int (wr (x1.2+1)))] [(0,⟨6,[eR a0]⟩),(1,⟨6,[iR]⟩),(2,⟨6,[[.int v2.p,.int v2.q.n,.own 3 0 v2.q.src.length,.own 4 0 v2.q.tgt.length,.own 5 0 v2.dims.length,.own 6 0 ((x1.1.set x1.2.toNat v20).length)]]⟩),(3,⟨1,v2.q.src.map (ow eI)⟩),(4,⟨1,v2.q.tgt.map (ow eI)⟩),(5,⟨1,v2.dims.map (ow eI)⟩),(6,⟨3,List.map (ow eM) (x1.1.set x1.2.toNat v20)⟩)] 10) from (Ent.trans (aCU (b:=6) (b':=9) (j:=2) (es':=v20.cells.map eI) (by rw [dU];exact rH hv21) k k k k (aQ _ _) (cX.frzs _)) (bT (bJ k2) (bA k<|bA k<|hX ⟨_,k,k,.inr ⟨_,_,k,⟨_,_,k,k,⟨_,_,k,k,⟨_,_,k,⟨k,k,k,k⟩,⟨_,_,k,⟨k,k,k,k⟩,⟨_,_,k,⟨k,k,k,k⟩,⟨_,_,k,⟨k,k,(by simp only [aQ,lA,lT,lR,lC,lN]),k⟩,k⟩⟩⟩⟩⟩⟩,k⟩⟩ k<|bG k<|bG k<|bG k<|hX ⟨_,k,k,.inl ⟨aGK v20 k,bU.plainO _⟩⟩ k<|aS) k4))) (bT (bJ k2) (bA k<|bA k<|cP k<|bG k<|bG k<|bG k<|cE (bU.plainO _) k<|aS) k4))⟩
 ·rintro e t ⟨rfl,hent⟩;refine aN<|tn<|aL hent<|sR<|aT k2<|sQ<|sR<|am k k<|ln k4<|am k k<|an<|tn<|aC<|oB h λy27 hy27 h=>bX (body:=(xP a1)) hy27 (λ(x4:((List Mt)×Int))=>mN [(4,.ptr 0 0 0),(6,.ptr 1 0 0),(17,.own 6 0 x4.1.length),(94,.list 2 (a1.map eS)),(95,.int (a1.length:Int)),(96,.int x4.2)] [(0,⟨6,[iR]⟩),(1,⟨6,[[.int v2.p,.int v2.q.n,.own 2 0 v2.q.src.length,.own 3 0 v2.q.tgt.length,.own 4 0 v2.dims.length,.own 5 0 y22.length]]⟩),(2,⟨1,v2.q.src.map (ow eI)⟩),(3,⟨1,v2.q.tgt.map (ow eI)⟩),(4,⟨1,v2.dims.map (ow eI)⟩),(5,⟨3,y22.map (ow eM)⟩),(6,⟨3,x4.1.map (ow eM)⟩)] 7) (λr e t=>e= .exit 6∧Ent t (mN [(4,.ptr 0 0 0),(6,.ptr 1 0 0),(17,.own 6 0 r.length)] [(0,⟨6,[iR]⟩),(1,⟨6,[[.int v2.p,.int v2.q.n,.own 2 0 v2.q.src.length,.own 3 0 v2.q.tgt.length,.own 4 0 v2.dims.length,.own 5 0 y22.length]]⟩),(2,⟨1,v2.q.src.map (ow eI)⟩),(3,⟨1,v2.q.tgt.map (ow eI)⟩),(4,⟨1,v2.dims.map (ow eI)⟩),(5,⟨3,y22.map (ow eM)⟩),(6,⟨3,r.map (ow eM)⟩)] 7)) (eJ (σ:=sg [(0,0),(1,1),(2,2),(3,3),(4,4),(5,5)]) (iU 2 k2 (gK ⟨_,k,⟨k,k,k,k⟩⟩ (bJ k2))) (bA k<|cP k<|bG k<|bG k<|bG k<|cE (bU.plainO _) k<|hX k k<|aS) k) ?_ ?_
  ·intro x4 o h;refine sR<|cm k4<|an<|tn<|sQ<|cV k h (λ_ h=>?_) λ_ h=>aW<|aA<|aA<|sp h ⟨_,k,k,(bT (bJ k2) (bA k<|cP k<|bG k<|bG k<|bG k<|cE (bU.plainO _) k<|cE (bU.plainO _) k<|aS) k4)⟩;refine aG<|tn<|sQ<|aC<|sR<|oB h λv24 hv24 h=>ae (xl hv24 k) k<|lr k7<|ae (bP aJ k k) k<|ae (ws k) k<|an<|tn<|rg<|am k k<|fp k8<|lp k8<|fp k8<|lp k8<|oB h λv25 hv25 h=>ae (cM (kO v24.size v24.basis v25 hv25) k3 (cC k (cC k aI))) k<|ae (wl k) k<|cG h λq26 h=>ae (iE aJ (l:=x4.1) (c:=[.int v25.rows,.int v25.cols,.own 8 0 v25.cells.length]) q26 k k k k k k k k k k k k k k) k<|aa k k<|an<|aU<|tn<|aL (t:=mN [(4,.ptr 0 0 0),(6,.ptr 1 0 0),(17,.own 10 0 ((x4.1++[v25]).length)),(94,.list 2 (a1.map eS)),(95,.int (a1.length:Int)),(96,.int x4.2)] [(0,⟨6,[iR]⟩),(1,⟨6,[[.int v2.p,.int v2.q.n,.own 2 0 v2.q.src.length,.own 3 0 v2.q.tgt.length,.own 4 0 v2.dims.length,.own 5 0 y22.length]]⟩),(2,⟨1,v2.q.src.map (ow eI)⟩),(3,⟨1,v2.q.tgt.map (ow eI)⟩),(4,⟨1,v2.dims.map (ow eI)⟩),(5,⟨3,y22.map (ow eM)⟩),(10,⟨3,List.map (ow eM) (x4.1++[v25])⟩)] 11) (Ent.trans (fH (b:=10) (b':=8) (j:=2) (es':=v25.cells.map eI) k k k k (aQ _ _) (cX.frzs _)) (bT (iU 2 k2 (gK ⟨_,k,⟨k,k,(by simp only [aQ,lA,lT,lR,lC,lN]),k⟩⟩ (bJ k2))) (bA k<|cP k<|bG k<|bG k<|bG k<|cE (bU.plainO _) k<|hX ⟨_,k,k,.inl ⟨jH v25 k,bU.plainO _⟩⟩ k<|aS) k4))<|rg<|ae (bB k k) k<|am k k ?_;exact an<|tn<|sp h ⟨_,k,(kC [0,1,2,3,4,5,10] (bJ k2) (bA k<|cP k<|bG k<|bG k<|bG k<|cE (bU.plainO _) k<|cE (bU.plainO _) k<|aS) k4)⟩
  ·rintro e t ⟨rfl,hent⟩;exact aN<|tn<|aL hent<|sR<|lp k8<|am k k<|ae (ws k) k<|aT k2<|aD<|sp h (bK k k k (dG k (bY (rI (aY (k) (aY (k) (aY (dE cX k k) (aY (dE cX k k) (aY (dE cX k k) (aY (dE bU k k) fA))))))) (bY (jM (dE bU k k)) gN))))
def lO (a0:Rp) (a1:Rp) (a2:Rp) (v7:(List (List Sc))) (x1:(Int×Int)):Option ((Int×Int) ⊕ (Int ⊕ Int)):=
 bif decide (x1.2<((v7.length:Nat):Int)) then
 ((cJ v7 x1.2).bind λv9=>
 (aCQ a0 v9).bind λv10=>
 (tH a0 v9).bind λv11=>
 (lM v10.1 a2).bind λv12=>
 (lM v11.1 a1).bind λv13=>
 bif decide (v12<0) then
 (some (.inr (.inr ((-1)))))
 else
 (bif decide (v13<0) then
 (some (.inr (.inr ((-1)))))
 else
 (some (.inl (wr (x1.1+(wr (v12*v13))),wr (x1.2+1))))))
 else
 (some (.inr (.inl x1.1)))
def vN (a0:Rp) (a1:Rp) (a2:Rp):Option Int:=
 (vY a0 a1).bind λv1=>
 bif !v1 then
 (some ((-1)))
 else
 ((vY a0 a2).bind λv3=>
 bif !v3 then
 (some ((-1)))
 else
 ((wC a0).bind λv5=>
 bif !v5 then
 (some ((-1)))
 else
 ((tU a0 a2.dims).bind λv7=>
 (Lp (lO a0 a1 a2 v7) (0,0)).bind λy16=>
 Sum.elim (λy17=>
 some (y17)
 )
 (λy18=>
 some y18
 )
 y16)))
theorem aJe (a0:Rp) (a1:Rp) (a2:Rp) (r:Int) (h:vN a0 a1 a2=some r):HasC Tryz.prog 51 [.agg (eR a0),.agg (eR a1),.agg (eR a2)] (.int r):=by
 refine hM [.tmp 6] Tryz.func51 Tryz.ntmps51 k<|sR<|ae (wb k) k<|ae (wb k) k<|ae (wb k) k<|aT k2<|sQ<|sR<|lp k8<|lp k8<|oB h λv1 hv1 h=>ae (aO (aIE a0 a1 v1 hv1) k (aH (dI k) (aH (dI k) aI))) k<|ae (dD k) k<|am k k<|mG h (λq2 h=>aM 20 k q2<|aK k4<|aK k4<|pk k3<|am k k<|aK k4<|ak k k<|pk k3<|an<|tn<|cW k k<|sR<|aT k2<|aD<|aE<|qD h k2) λq2 h=>?_;refine aM 20 k q2<|lp k8<|lp k8<|oB h λv3 hv3 h=>ae (aO (aIE a0 a2 v3 hv3) k (aH (dI k) (aH (dI k) aI))) k<|ae (dD k) k<|pk k3<|am k k<|mG h (λq4 h=>aM 26 k q4<|aK k4<|ak k k<|pk k3<|an<|tn<|cW k k<|sR<|aT k2<|aD<|aE<|qD h k2) λq4 h=>?_;refine aM 26 k q4<|lp k8<|oB h λv5 hv5 h=>ae (aO (aNN a0 v5 hv5) k (aH (dI k) aI)) k<|ae (dD k) k<|pk k3<|an<|tn<|cV k h (λ_ h=>sR<|aT k2<|aD<|aE<|qD h k2) λ_ h=>?_;refine aG<|tn<|sR<|aT k2<|sQ<|sR<|lp k8<|fp k8<|lp k8<|oB h λv7 hv7 h=>ae (cL bZ (aLT a0 a2.dims v7 hv7) k3 (aH (dI k) (cC k aI))) k<|ae (cF aJ k k k k) k<|am k k<|an<|tn<|aL (t:=mN [(3,.ptr 0 0 0),(4,.ptr 1 0 0),(5,.ptr 2 0 0),(7,.int 0),(34,.own 3 0 v7.length),(35,.int ((v7.length:Nat):Int)),(36,.int 0)] [(0,⟨6,[eR a0]⟩),(1,⟨6,[eR a1]⟩),(2,⟨6,[eR a2]⟩),(3,⟨1,v7.map (ow (dL 2 eS))⟩)] 4) (bT (bJ k2) (bA k<|bA k<|bA k<|cE (bZ.plainO _) k<|aS) k4)<|aC<|oB h λy16 hy16 h=>bX (body:=(lO a0 a1 a2 v7)) hy16 (λ(x1:(Int×Int))=>mN [(3,.ptr 0 0 0),(4,.ptr 1 0 0),(5,.ptr 2 0 0),(7,.int x1.1),(34,.own 3 0 v7.length),(35,.int ((v7.length:Nat):Int)),(36,.int x1.2)] [(0,⟨6,[eR a0]⟩),(1,⟨6,[eR a1]⟩),(2,⟨6,[eR a2]⟩),(3,⟨1,v7.map (ow (dL 2 eS))⟩)] 4) (λr e t=>Sum.elim (λa=>(λr e t=>e= .exit 0∧Ent t (mN [(7,.int r)] [] 0)) a e t) (λb=>(λr e t=>e= .ret∧qE TT [.tmp 6] (.int r) .ret t) b e t) r) (bT (bJ k2) (bA k<|bA k<|bA k<|cE (bZ.plainO _) k<|aS) k4) ?_ ?_
 ·intro x1 o h;refine sR<|cm k4<|an<|tn<|sQ<|cV k h (λ_ h=>?_) λ_ h=>aW<|aA<|aA<|sp h ⟨_,k,k,(bT (bJ k2) aS k4)⟩;refine aG<|tn<|sQ<|aC<|sR<|oB h λv9 hv9 h=>ae (xo hv9 k) k<|ae (wp hv9 k) k<|aT k2<|sR<|lp k8<|am k k<|oB h λv10 hv10 h=>ae (AEff.conv (jK (x:= .tuple [.agg [.int v10.1.p,.int v10.1.q.n,.own 4 0 (v10.1.q.src.map eI).length,.own 5 0 (v10.1.q.tgt.map eI).length,.own 6 0 (v10.1.dims.map eI).length,.own 7 0 (v10.1.maps.map eM).length],.own 8 0 (v10.2.map eM).length]) (nb:=[(4,⟨1,cY (v10.1.q.src.map eI)⟩),(5,⟨1,cY (v10.1.q.tgt.map eI)⟩),(6,⟨1,cY (v10.1.dims.map eI)⟩),(7,⟨3,cY (v10.1.maps.map eM)⟩),(8,⟨3,cY (v10.2.map eM)⟩)]) (aOI a0 v9 v10 hv10) k (by rfl) k k (dV (cB aS (cB aS (cB (cX.good _) (cB (cX.good _) (cB (cX.good _) (cB (bU.good _) qF)))))) (dV (bU.good _) uL)) (aH (dI k) (cC k aI))) (v':= .tuple [.agg [.int v10.1.p,.int v10.1.q.n,.own 4 0 v10.1.q.src.length,.own 5 0 v10.1.q.tgt.length,.own 6 0 v10.1.dims.length,.own 7 0 v10.1.maps.length],.own 8 0 v10.2.length]) (ed':=[(4,some ⟨1,v10.1.q.src.map (ow eI)⟩),(5,some ⟨1,v10.1.q.tgt.map (ow eI)⟩),(6,some ⟨1,v10.1.dims.map (ow eI)⟩),(7,some ⟨3,v10.1.maps.map (ow eM)⟩),(8,some ⟨3,v10.2.map (ow eM)⟩)]) (by simp only [aQ]) (uW (nb':=[(4,⟨1,v10.1.q.src.map (ow eI)⟩),(5,⟨1,v10.1.q.tgt.map (ow eI)⟩),(6,⟨1,v10.1.dims.map (ow eI)⟩),(7,⟨3,v10.1.maps.map (ow eM)⟩),(8,⟨3,v10.2.map (ow eM)⟩)]) (by simp only [gU]))) k<|am k k<|ae (bW k k (by intro _ h;cases h)) k<|ae (bW k k (by intro _ h;cases h)) k<|ae (bP aJ k k) k<|ae (ws k) k<|aT k2<|sR<|lp k8<|am k k<|oB h λv11 hv11 h=>ae (AEff.conv (jK (x:= .tuple [.agg [.int v11.1.p,.int v11.1.q.n,.own 10 0 (v11.1.q.src.map eI).length,.own 11 0 (v11.1.q.tgt.map eI).length,.own 12 0 (v11.1.dims.map eI).length,.own 13 0 (v11.1.maps.map eM).length],.own 14 0 (v11.2.map eM).length]) (nb:=[(10,⟨1,cY (v11.1.q.src.map eI)⟩),(11,⟨1,cY (v11.1.q.tgt.map eI)⟩),(12,⟨1,cY (v11.1.dims.map eI)⟩),(13,⟨3,cY (v11.1.maps.map eM)⟩),(14,⟨3,cY (v11.2.map eM)⟩)]) (aIS a0 v9 v11 hv11) k (by rfl) k k (dV (cB aS (cB aS (cB (cX.good _) (cB (cX.good _) (cB (cX.good _) (cB (bU.good _) qF)))))) (dV (bU.good _) uL)) (aH (dI k) (cC k aI))) (v':= .tuple [.agg [.int v11.1.p,.int v11.1.q.n,.own 10 0 v11.1.q.src.length,.own 11 0 v11.1.q.tgt.length,.own 12 0 v11.1.dims.length,.own 13 0 v11.1.maps.length],.own 14 0 v11.2.length]) (ed':=[(10,some ⟨1,v11.1.q.src.map (ow eI)⟩),(11,some ⟨1,v11.1.q.tgt.map (ow eI)⟩),(12,some ⟨1,v11.1.dims.map (ow eI)⟩),(13,some ⟨3,v11.1.maps.map (ow eM)⟩),(14,some ⟨3,v11.2.map (ow eM)⟩)]) (by simp only [aQ]) (uW (nb':=[(10,⟨1,v11.1.q.src.map (ow eI)⟩),(11,⟨1,v11.1.q.tgt.map (ow eI)⟩),(12,⟨1,v11.1.dims.map (ow eI)⟩),(13,⟨3,v11.1.maps.map (ow eM)⟩),(14,⟨3,v11.2.map (ow eM)⟩)]) (by simp only [gU]))) k ?_;exact am k k<|ae (bW k k (by intro _ h;cases h)) k<|ae (bW k k (by intro _ h;cases h)) k<|ae (bP aJ k k) k<|ae (ws k) k<|aT k2<|sQ<|aP eG<|lp k8<|lp k8<|oB h λv12 hv12 h=>ae (aO (aCf v10.1 a2 v12 hv12) k (aH (vaR k8) (aH (dI k) aI))) k<|lp k8<|lp k8<|oB h λv13 hv13 h=>ae (aO (aCf v11.1 a1 v13 hv13) k (aH (vaR k8) (aH (dI k) aI))) k<|aa k k<|aa k k<|an<|lB (by kernel_rfl)<|tn<|aL (t:=mN [(3,.ptr 0 0 0),(4,.ptr 1 0 0),(5,.ptr 2 0 0),(7,.int x1.1),(14,.int v12),(15,.int v13),(34,.own 3 0 v7.length),(35,.int ((v7.length:Nat):Int)),(36,.int x1.2)] [(0,⟨6,[eR a0]⟩),(1,⟨6,[eR a1]⟩),(2,⟨6,[eR a2]⟩),(3,⟨1,v7.map (ow (dL 2 eS))⟩)] 16) (bT (bJ k2) (bA k<|bA k<|bA k<|cE (bZ.plainO _) k<|aS) k4)<|sQ<|sR<|am k k<|cm k4<|am k k<|mG h (λq14 h=>aM 60 k q14<|aK k4<|pk k3<|an<|tn<|cW k k<|sR<|aT k2<|aD<|aE<|bF<|aE<|aE<|sp h ⟨_,k,k,bK k k k (aAI k)⟩) λq14 h=>aM 60 k q14<|am k k<|cm k4<|pk k3<|an<|tn<|cV k h (λ_ h=>sR<|aT k2<|aD<|aE<|bF<|aE<|aE<|sp h ⟨_,k,k,bK k k k (aAI k)⟩) λ_ h=>aG<|tn<|rg<|am k k<|am k k<|am k k<|ae (fC k k) k<|ae (bB k k) k<|aa k k<|an<|aU<|tn<|rg<|ae (bB k k) k<|am k k<|an<|tn<|sp h ⟨_,k,(bT (bJ k2) (bA k<|bA k<|bA k<|cE (bZ.plainO _) k<|aS) k4)⟩
 ·intro e t hX;rcases y16 with y17|y18
  ·obtain ⟨rfl,hent⟩:=hX;exact aN<|tn<|aL hent<|sR<|am k k<|aT k2<|aD<|qD h k2
  ·obtain ⟨rfl,hent⟩:=hX;exact bF<|aE<|sp h hent
def vO (a0:(List Mt)) (x1:((List Int)×Int)):Option (((List Int)×Int) ⊕ (List Int)):=
 bif decide (x1.2<(a0.length:Int)) then
 ((cJ a0 x1.2).bind λv2=>
 bif decide (x1.1.length+v2.cells.length≤4294967296) then
 (some (.inl ((x1.1++v2.cells),wr (x1.2+1))))
 else none)
 else
 (some (.inr x1.1))
def aBZ (a0:(List Mt)):Option (List Int):=
 (Lp (vO a0) (([]:(List Int)),0)).bind λy4=>
 some (y4)
theorem aNd (a0:(List Mt)) (r:(List Int)) (h:aBZ a0=some r):HasC Tryz.prog 216 [.list 3 (a0.map eM)] (.list 1 (r.map eI)):=by
 refine hM [.tmp 2] Tryz.func216 Tryz.ntmps216 k<|sR<|aT k2<|sR<|ae (wl k) k<|aT k2<|aL (t:=mN [(0,.list 3 (a0.map eM)),(3,.own 0 0 (([]:(List Int)).length))] [(0,⟨1,List.map (ow eI) ([]:(List Int))⟩)] 1) (bT (iU 1 k2 (gK ⟨_,k,⟨k,k,(by simp only [aQ,lA,lT,lR,lC,lN]),k⟩⟩ aS)) (bG k<|aS) k4)<|sQ<|sR<|aT k2<|aC<|oB h λy4 hy4 h=>bX (body:=(vO a0)) hy4 (λ(x1:((List Int)×Int))=>mN [(0,.list 3 (a0.map eM)),(3,.own 0 0 x1.1.length),(4,.int x1.2)] [(0,⟨1,x1.1.map (ow eI)⟩)] 1) (λr e t=>e= .exit 0∧Ent t (mN [(3,.own 0 0 r.length)] [(0,⟨1,r.map (ow eI)⟩)] 1)) (bT (bJ k2) (bG k<|aS) k4) ?_ ?_
 ·intro x1 o h;exact sQ<|sR<|am k k<|am k k<|ln k4<|cm k4<|an<|tn<|cV k h (λ_ h=>aG<|tn<|sQ<|aC<|rg<|am k k<|am k k<|am k k<|oB h λv2 hv2 h=>ae (xl hv2 k) k<|ae (pJ aJ k k k k k k) k<|lr k7<|cG h λq3 h=>ae (mP aJ (l:=x1.1) (m:=v2.cells) jG q3 k k k k k k k k k k k k) k<|aa k k<|an<|aU<|tn<|rg<|am k k<|ae (bB k k) k<|aT k2<|sp h ⟨_,k,(kC [1] (bJ k2) (bG k<|aS) k4)⟩) λ_ h=>aW<|aA<|aA<|sp h ⟨_,k,k,(bT (bJ k2) (bG k<|aS) k4)⟩
 ·rintro e t ⟨rfl,hent⟩;exact aN<|tn<|aL hent<|sR<|am k k<|aT k2<|aD<|sp h (bK k k k (fZ (dE cX k k)))
def rD (a0:Rp) (v4:(List Int)) (x1:(Int×(List Int)×Int)) (x2:((List Int)×Int)):Option (((List Int)×Int) ⊕ (List Int)):=
 bif decide (x2.2<((v4.length:Nat):Int)) then
 ((cJ x2.1 x2.2).bind λv6=>
 (cJ v4 x2.2).bind λv7=>
 (iH a0.p (wr (v6+(wr ((x1.1.tmod a0.p)*v7))))).bind λv8=>
 (cJ x2.1 x2.2).bind λv9=>
 some (.inl ((x2.1.set x2.2.toNat v8),wr (x2.2+1))))
 else
 (some (.inr x2.1))
def rE (a0:Rp) (a2:(List (List Mt))) (x1:(Int×(List Int)×Int)):Option ((Int×(List Int)×Int) ⊕ (List Int)):=
 bif decide (0≤x1.2.2) then
 (bif !decide (a0.p=0) then
 (bif !decide (a0.p=0) then
 ((cJ a2 x1.2.2).bind λv3=>
 (aBZ v3).bind λv4=>
 (Lp (rD a0 v4 x1) (x1.2.1,0)).bind λy10=>
 some (.inl (wr (x1.1.tdiv a0.p),y10,wr (x1.2.2 - 1))))
 else none)
 else none)
 else
 (some (.inr x1.2.1))
def nO (a0:Rp) (a1:Rp) (a2:(List (List Mt))) (a3:Int):Option (List Mt):=
 (vZ a0 a1).bind λv1=>
 bif (decide (0≤v1)&&decide (v1≤1048576)) then
 ((Lp (rE a0 a2) (a3,(List.replicate v1.toNat (0:Int)),wr ((a2.length:Int) - 1))).bind λy13=>
 (mI a0 a1 y13).bind λv14=>
 some (v14))
 else none
theorem aBx (a0:Rp) (a1:Rp) (a2:(List (List Mt))) (a3:Int) (r:(List Mt)) (h:nO a0 a1 a2 a3=some r):HasC Tryz.prog 166 [.agg (eR a0),.agg (eR a1),.list 1 (a2.map (dL 3 eM)),.int a3] (.list 3 (r.map eM)):=by
 refine hM [.tmp 8] Tryz.func166 Tryz.ntmps166 k<|sR<|ae (wb k) k<|ae (wb k) k<|aT k2<|sR<|lp k8<|lp k8<|oB h λv1 hv1 h=>ae (aO (aGS a0 a1 v1 hv1) k (aH (dI k) (aH (dI k) aI))) k<|cG h λq15 h=>ae (aAL aJ q15 k k k k k k k k) k<|aT k2<|aL (t:=mN [(2,.list 1 (a2.map (dL 3 eM))),(3,.int a3),(4,.ptr 0 0 0),(5,.ptr 1 0 0),(9,.own 2 0 ((List.replicate v1.toNat (0:Int)).length))] [(0,⟨6,[eR a0]⟩),(1,⟨6,[eR a1]⟩),(2,⟨1,List.map (ow eI) (List.replicate v1.toNat (0:Int))⟩)] 3) (bT (iU 4 k2 (gK ⟨_,k,⟨k,k,(by simp only [aQ,lA,lT,lR,lC,lN]),k⟩⟩ aS)) (bA k<|bA k<|hX ⟨_,k,k,.inl ⟨aAr (e:=eI) (z:=0) _,cX.plainO _⟩⟩ k<|aS) k4)<|sQ<|sR<|am k k<|ln k4<|ae (jL k k) k<|aT k2<|aC<|oB h λy13 hy13 h=>bX (body:=(rE a0 a2)) hy13 (λ(x1:(Int×(List Int)×Int))=>mN [(2,.list 1 (a2.map (dL 3 eM))),(3,.int x1.1),(4,.ptr 0 0 0),(5,.ptr 1 0 0),(9,.own 2 0 x1.2.1.length),(10,.int x1.2.2)] [(0,⟨6,[eR a0]⟩),(1,⟨6,[eR a1]⟩),(2,⟨1,x1.2.1.map (ow eI)⟩)] 3) (λr e t=>e= .exit 0∧Ent t (mN [(4,.ptr 0 0 0),(5,.ptr 1 0 0),(9,.own 2 0 r.length)] [(0,⟨6,[eR a0]⟩),(1,⟨6,[eR a1]⟩),(2,⟨1,r.map (ow eI)⟩)] 3)) (bT (bJ k2) (bA k<|bA k<|bG k<|aS) k4) ?_ ?_
 ·intro x1 o h;refine sQ<|sR<|am k k<|cm k4<|an<|tn<|cV k h (λ_ h=>?_) λ_ h=>aW<|aA<|aA<|sp h ⟨_,k,k,(bT (bJ k2) (bA k<|bA k<|bG k<|aS) k4)⟩;refine aG<|tn<|sQ<|aC<|sR<|am k k<|fp k8<|lp k8<|cG h λq12 h=>ae (aGI k k q12) k<|aT k2<|sR<|am k k<|fp k8<|lp k8<|cG h λq11 h=>ae (aTs k k q11) k<|aT k2<|sR<|am k k<|am k k<|oB h λv3 hv3 h=>ae (xl hv3 k) k<|lr k7<|oB h λv4 hv4 h=>ae (cL cX (aNd v3 v4 hv4) k3 (cC k aI)) k ?_;refine aT k2<|sR<|aT k2<|aC<|oB h λy10 hy10 h=>bX (body:=(rD a0 v4 x1)) hy10 (λ(x2:((List Int)×Int))=>mN [(2,.list 1 (a2.map (dL 3 eM))),(3,.int (wr (x1.1.tdiv a0.p))),(4,.ptr 0 0 0),(5,.ptr 1 0 0),(9,.own 2 0 x2.1.length),(10,.int x1.2.2),(11,.int (x1.1.tmod a0.p)),(12,.own 3 0 v4.length),(13,.int x2.2)] [(0,⟨6,[eR a0]⟩),(1,⟨6,[eR a1]⟩),(2,⟨1,x2.1.map (ow eI)⟩),(3,⟨1,v4.map (ow eI)⟩)] 4) (λr e t=>e= .exit 2∧Ent t (mN [(2,.list 1 (a2.map (dL 3 eM))),(3,.int (wr (x1.1.tdiv a0.p))),(4,.ptr 0 0 0),(5,.ptr 1 0 0),(9,.own 2 0 r.length),(10,.int x1.2.2)] [(0,⟨6,[eR a0]⟩),(1,⟨6,[eR a1]⟩),(2,⟨1,r.map (ow eI)⟩)] 3)) (bT (bJ k2) (bA k<|bA k<|bG k<|bG k<|aS) k4) ?_ ?_
  ·intro x2 o h;refine sQ<|sR<|am k k<|am k k<|ae (cF aJ k k k k) k<|cm k4<|an<|tn<|cV k h (λ_ h=>?_) λ_ h=>aW<|aA<|aA<|sp h ⟨_,k,k,(bT (bJ k2) (bA k<|bA k<|bG k<|aS) k4)⟩;refine aG<|tn<|sQ<|aC<|aP eG<|am k k<|am k k<|fp k8<|lp k8<|am k k<|am k k<|oB h λv6 hv6 h=>ae (xo hv6 k) k<|ae (wp hv6 k) k<|am k k<|am k k<|am k k<|oB h λv7 hv7 h=>ae (xo hv7 k) k<|ae (wp hv7 k) k<|ae (fC k k) k<|ae (bB k k) k<|oB h λv8 hv8 h=>ae (aO (kW a0.p (wr (v6+(wr ((x1.1.tmod a0.p)*v7)))) v8 hv8) k (cC k (cC k aI))) k<|oB h λv9 hv9 h=>ae (xo hv9 k) k<|ae (fG aJ jG (u:=v8) (dB hv9) k k k k k k) k<|an<|lB (by kernel_rfl)<|aU<|tn<|rg<|am k k ?_;exact ae (bB k k) k<|aT k2<|sp h ⟨_,k,(bT (iU 4 k2 (gK ⟨_,k,⟨k,k,(by simp only [aQ,lA,lT,lR,lC,lN]),k⟩⟩ (bJ k2))) (bA k<|bA k<|bG k<|bG k<|aS) k4)⟩
  ·rintro e t ⟨rfl,hent⟩;exact aN<|aU<|tn<|aL hent<|rg<|am k k<|ae (jL k k) k<|aT k2<|sp h ⟨_,k,(bT (bJ k2) (bA k<|bA k<|bG k<|aS) k4)⟩
 ·rintro e t ⟨rfl,hent⟩;exact aN<|tn<|aL hent<|sR<|lp k8<|lp k8<|am k k<|oB h λv14 hv14 h=>ae (cL bU (aFn a0 a1 y13 v14 hv14) k3 (aH (dI k) (aH (dI k) (vcT k k aI)))) k<|aT k2<|aD<|sp h (bK k k k (fZ (dE bU k k)))
def oZ (a0:Rp) (a1:Rp) (a2:(List Mt)) (x1:Int):Option (Int ⊕ (Unit ⊕ Bool)):=
 bif decide (x1<(a2.length:Int)) then
 ((cJ a2 x1).bind λv5=>
 (jY a0.p v5).bind λv6=>
 bif !v6 then
 (some (.inr (.inr (false))))
 else
 ((cJ a2 x1).bind λv8=>
 (cJ a0.dims x1).bind λv9=>
 bif !decide (v8.cols=v9) then
 (some (.inr (.inr (false))))
 else
 ((cJ a2 x1).bind λv11=>
 (cJ a1.dims x1).bind λv12=>
 bif !decide (v11.rows=v12) then
 (some (.inr (.inr (false))))
 else
 (some (.inl (wr (x1+1)))))))
 else
 (some (.inr (.inl ())))
def tN (a0:Rp) (a1:Rp) (a2:(List Mt)):Option Bool:=
 (kX a0 a1).bind λv1=>
 bif !v1 then
 (some (false))
 else
 (bif !decide ((a2.length:Int)=(a0.dims.length:Int)) then
 (some (false))
 else
 ((Lp (oZ a0 a1 a2) 0).bind λy14=>
 Sum.elim (λy15=>
 some (true)
 )
 (λy16=>
 some y16
 )
 y14))
theorem aIZ (a0:Rp) (a1:Rp) (a2:(List Mt)) (r:Bool) (h:tN a0 a1 a2=some r):HasC Tryz.prog 262 [.agg (eR a0),.agg (eR a1),.list 3 (a2.map eM)] (.bl r):=by
 refine hM [.tmp 6] Tryz.func262 Tryz.ntmps262 k<|sR<|ae (wb k) k<|ae (wb k) k<|aT k2<|sQ<|sR<|lp k8<|lp k8<|oB h λv1 hv1 h=>ae (aO (aAz a0 a1 v1 hv1) k (aH (dI k) (aH (dI k) aI))) k<|ae (dD k) k<|am k k<|mG h (λq2 h=>aM 12 k q2<|aK k4<|aK k4<|aK k4<|pk k3<|an<|tn<|cW k k<|sR<|aT k2<|aD<|aE<|gJ h k2) λq2 h=>?_;refine aM 12 k q2<|am k k<|ln k4<|fp k8<|lp k8<|ln k4<|cm k4<|pk k3<|an<|tn<|cV k h (λ_ h=>sR<|aT k2<|aD<|aE<|gJ h k2) λ_ h=>?_;refine aG<|tn<|sQ<|sR<|aT k2<|aC<|oB h λy14 hy14 h=>bX (body:=(oZ a0 a1 a2)) hy14 (λ(x1:Int)=>mN [(2,.list 3 (a2.map eM)),(3,.ptr 0 0 0),(4,.ptr 1 0 0),(7,.int x1)] [(0,⟨6,[eR a0]⟩),(1,⟨6,[eR a1]⟩)] 2) (λr e t=>Sum.elim (λa=>(λr e t=>e= .exit 0∧Ent t (mN [] [] 0)) a e t) (λb=>(λr e t=>e= .ret∧qE TT [.tmp 6] (.bl r) .ret t) b e t) r) (bT (bJ k2) (bA k<|bA k<|aS) k4) ?_ ?_
 ·intro x1 o h;refine sQ<|sR<|am k k<|am k k<|ln k4<|cm k4<|an<|tn<|cV k h (λ_ h=>?_) λ_ h=>aW<|aA<|aA<|sp h ⟨_,k,k,(bT aS aS k4)⟩;refine aG<|tn<|sQ<|aC<|sQ<|aP eG<|fp k8<|lp k8<|am k k<|am k k<|oB h λv5 hv5 h=>ae (xl hv5 k) k<|lr k7<|oB h λv6 hv6 h=>ae (aO (tS a0.p v5 v6 hv6) k (cC k (aH (dI k) aI))) k<|ae (dD k) k<|am k k<|mG h (λq7 h=>?_) λq7 h=>?_
  ·refine aM 34 k q7<|aK k4<|aK k4<|aK k4<|aK k4<|aK k4<|ak k k<|pk k3<|am k k<|aK k4<|aK k4<|aK k4<|aK k4<|aK k4<|ak k k<|pk k3<|an<|lB (by kernel_rfl)<|tn<|aL (t:=mN [(2,.list 3 (a2.map eM)),(3,.ptr 0 0 0),(4,.ptr 1 0 0),(7,.int x1),(59,.bl true)] [(0,⟨6,[eR a0]⟩),(1,⟨6,[eR a1]⟩)] 2) (bT (bJ k2) (bA k<|bA k<|aS) k4) ?_;exact cW k k<|sR<|aT k2<|aD<|bF<|aE<|aE<|sp h ⟨_,k,k,bK k k k (mM k)⟩
  ·exact aM 34 k q7<|am k k<|am k k<|oB h λv8 hv8 h=>ae (xl hv8 k) k<|ae (pJ aJ k k k k k k) k<|lr k7<|fp k8<|lp k8<|am k k<|oB h λv9 hv9 h=>ae (xl hv9 k) k<|lr k7<|cm k4<|pk k3<|am k k<|mG h (λq10 h=>aM 47 k q10<|aK k4<|aK k4<|aK k4<|aK k4<|aK k4<|ak k k<|pk k3<|an<|lB (by kernel_rfl)<|tn<|aL (t:=mN [(2,.list 3 (a2.map eM)),(3,.ptr 0 0 0),(4,.ptr 1 0 0),(7,.int x1),(59,.bl true)] [(0,⟨6,[eR a0]⟩),(1,⟨6,[eR a1]⟩)] 2) (bT (bJ k2) (bA k<|bA k<|aS) k4)<|cW k k<|sR<|aT k2<|aD<|bF<|aE<|aE<|sp h ⟨_,k,k,bK k k k (mM k)⟩) λq10 h=>aM 47 k q10<|am k k<|am k k<|oB h λv11 hv11 h=>ae (xl hv11 k) k<|ae (pJ aJ k k k k k k) k<|lr k7<|fp k8<|lp k8<|am k k<|oB h λv12 hv12 h=>ae (xl hv12 k) k<|lr k7<|cm k4<|pk k3<|an<|lB (by kernel_rfl)<|tn<|aL (t:=mN [(2,.list 3 (a2.map eM)),(3,.ptr 0 0 0),(4,.ptr 1 0 0),(7,.int x1),(59,.bl (!decide (v11.rows=v12)))] [(0,⟨6,[eR a0]⟩),(1,⟨6,[eR a1]⟩)] 2) (bT (bJ k2) (bA k<|bA k<|aS) k4)<|cV k h (λ_ h=>sR<|aT k2<|aD<|bF<|aE<|aE<|sp h ⟨_,k,k,bK k k k (mM k)⟩) λ_ h=>aG<|aU<|tn<|rg<|am k k<|ae (bB k k) k<|aT k2<|sp h ⟨_,k,(bT (bJ k2) (bA k<|bA k<|aS) k4)⟩
 ·intro e t hX;rcases y14 with y15|y16
  ·obtain ⟨rfl,hent⟩:=hX;exact aN<|tn<|aL hent<|sR<|aT k2<|aD<|gJ h k2
  ·obtain ⟨rfl,hent⟩:=hX;exact bF<|aE<|sp h hent
def qA (a0:Rp) (a1:Rp) (a2:(List Mt)) (x1:Int):Option (Int ⊕ (Unit ⊕ Bool)):=
 bif decide (x1<(a0.maps.length:Int)) then
 ((cJ a1.maps x1).bind λv4=>
 (cJ a0.q.src x1).bind λv5=>
 (cJ a2 v5).bind λv6=>
 (gX a0.p v4 v6).bind λv7=>
 (cJ a0.q.tgt x1).bind λv8=>
 (cJ a2 v8).bind λv9=>
 (cJ a0.maps x1).bind λv10=>
 (gX a0.p v9 v10).bind λv11=>
 (pO v7 v11).bind λv12=>
 bif !v12 then
 (some (.inr (.inr (false))))
 else
 (some (.inl (wr (x1+1)))))
 else
 (some (.inr (.inl ())))
def mB (a0:Rp) (a1:Rp) (a2:(List Mt)):Option Bool:=
 (tN a0 a1 a2).bind λv1=>
 bif !v1 then
 (some (false))
 else
 ((Lp (qA a0 a1 a2) 0).bind λy14=>
 Sum.elim (λy15=>
 some (true)
 )
 (λy16=>
 some y16
 )
 y14)
theorem aBa (a0:Rp) (a1:Rp) (a2:(List Mt)) (r:Bool) (h:mB a0 a1 a2=some r):HasC Tryz.prog 240 [.agg (eR a0),.agg (eR a1),.list 3 (a2.map eM)] (.bl r):=by
 refine hM [.tmp 6] Tryz.func240 Tryz.ntmps240 k<|sR<|ae (wb k) k<|ae (wb k) k<|aT k2<|sQ<|sR<|lp k8<|lp k8<|am k k<|oB h λv1 hv1 h=>ae (aO (aIZ a0 a1 a2 v1 hv1) k (aH (dI k) (aH (dI k) (cC k aI)))) k<|ae (dD k) k<|an<|tn<|cV k h (λ_ h=>sR<|aT k2<|aD<|aE<|gJ h k2) λ_ h=>?_;refine aG<|tn<|sQ<|sR<|aT k2<|aC<|oB h λy14 hy14 h=>bX (body:=(qA a0 a1 a2)) hy14 (λ(x1:Int)=>mN [(2,.list 3 (a2.map eM)),(3,.ptr 0 0 0),(4,.ptr 1 0 0),(7,.int x1)] [(0,⟨6,[eR a0]⟩),(1,⟨6,[eR a1]⟩)] 2) (λr e t=>Sum.elim (λa=>(λr e t=>e= .exit 0∧Ent t (mN [] [] 0)) a e t) (λb=>(λr e t=>e= .ret∧qE TT [.tmp 6] (.bl r) .ret t) b e t) r) (bT (bJ k2) (bA k<|bA k<|aS) k4) ?_ ?_
 ·intro x1 o h;refine sQ<|sR<|am k k<|fp k8<|lp k8<|ln k4<|cm k4<|an<|tn<|cV k h (λ_ h=>?_) λ_ h=>aW<|aA<|aA<|sp h ⟨_,k,k,(bT aS aS k4)⟩;refine aG<|tn<|sQ<|aC<|sQ<|aP eG<|fp k8<|lp k8<|fp k8<|lp k8<|am k k<|oB h λv4 hv4 h=>ae (xl hv4 k) k<|lr k7<|am k k<|fp k8<|fp k8<|lp k8<|am k k<|oB h λv5 hv5 h=>ae (xl hv5 k) k<|lr k7<|oB h λv6 hv6 h=>ae (xl hv6 k) k<|lr k7<|oB h λv7 hv7 h=>ae (cM (lW a0.p v4 v6 v7 hv7) k3 (cC k (aH (dI k) (aH (dI k) aI)))) k<|ae (bP aJ k k) k<|ae (ws k) k<|an<|lB (by kernel_rfl)<|tn<|aL (t:=mN [(2,.list 3 (a2.map eM)),(3,.ptr 0 0 0),(4,.ptr 1 0 0),(7,.int x1),(8,.ptr 3 0 0)] [(0,⟨6,[eR a0]⟩),(1,⟨6,[eR a1]⟩),(2,⟨1,v7.cells.map (ow eI)⟩),(3,⟨3,[oMt v7 2]⟩)] 4) (bT (bJ k2) (bA k<|bA k<|bG k<|cP k<|aS) k4) ?_;refine sQ<|aP eG<|fp k8<|lp k8<|am k k<|fp k8<|fp k8<|lp k8<|am k k<|oB h λv8 hv8 h=>ae (xl hv8 k) k<|lr k7<|oB h λv9 hv9 h=>ae (xl hv9 k) k<|lr k7<|fp k8<|lp k8<|am k k<|oB h λv10 hv10 h=>ae (xl hv10 k) k<|lr k7<|oB h λv11 hv11 h=>ae (cM (lW a0.p v9 v10 v11 hv11) k3 (cC k (aH (dI k) (aH (dI k) aI)))) k<|ae (bP aJ k k) k<|ae (ws k) k<|an<|lB (by kernel_rfl)<|tn<|sR<|lp k8<|lp k8<|oB h λv12 hv12 h=>ae (aO (aGM v7 v11 v12 hv12) k (aH (vaM k2) (aH (vaM k2) aI))) k<|ae (dD k) k ?_;exact an<|tn<|cV k h (λ_ h=>sR<|aT k2<|aL (t:=mN [(6,.bl false)] [] 6) (bT (bJ k2) aS k4)<|aD<|bF<|aE<|aE<|sp h ⟨_,k,k,bK k k k (mM k)⟩) λ_ h=>aG<|aU<|tn<|rg<|am k k<|ae (bB k k) k<|aT k2<|sp h ⟨_,k,(bT (bJ k2) (bA k<|bA k<|aS) k4)⟩
 ·intro e t hX;rcases y14 with y15|y16
  ·obtain ⟨rfl,hent⟩:=hX;exact aN<|tn<|aL hent<|sR<|aT k2<|aD<|gJ h k2
  ·obtain ⟨rfl,hent⟩:=hX;exact bF<|aE<|sp h hent
def qB (a0:Rp) (a1:Rp) (a2:(List Mt)) (x1:((List Int)×Int)):Option (((List Int)×Int) ⊕ (List Int)):=
 bif decide (x1.2<(a2.length:Int)) then
 ((mB a0 a1 a2).bind λv2=>
 bif v2 then
 ((cJ a2 x1.2).bind λv4=>
 (aCG a0.p v4).bind λv5=>
 bif decide (x1.1.length+[v5].length ≤4294967296) then
 (some (.inl ((x1.1++[v5]),wr (x1.2+1))))
 else none)
 else
 (some (.inr x1.1)))
 else
 (some (.inr x1.1))
def qC (a0:Rp) (a1:Rp) (a2:(List Mt)):Option (List Int):=
 (Lp (qB a0 a1 a2) (([]:(List Int)),0)).bind λy7=>
 some (y7)
theorem aEO (a0:Rp) (a1:Rp) (a2:(List Mt)) (r:(List Int)) (h:qC a0 a1 a2=some r):HasC Tryz.prog 241 [.agg (eR a0),.agg (eR a1),.list 3 (a2.map eM)] (.list 1 (r.map eI)):=by
 refine hM [.tmp 6] Tryz.func241 Tryz.ntmps241 k<|sR<|ae (wb k) k<|ae (wb k) k<|aT k2<|sR<|ae (wl k) k<|aT k2<|aL (t:=mN [(2,.list 3 (a2.map eM)),(3,.ptr 0 0 0),(4,.ptr 1 0 0),(7,.own 2 0 (([]:(List Int)).length))] [(0,⟨6,[eR a0]⟩),(1,⟨6,[eR a1]⟩),(2,⟨1,List.map (ow eI) ([]:(List Int))⟩)] 3) (bT (iU 3 k2 (gK ⟨_,k,⟨k,k,(by simp only [aQ,lA,lT,lR,lC,lN]),k⟩⟩ aS)) (bA k<|bA k<|bG k<|aS) k4)<|sQ<|sR<|aT k2<|aC<|oB h λy7 hy7 h=>bX (body:=(qB a0 a1 a2)) hy7 (λ(x1:((List Int)×Int))=>mN [(2,.list 3 (a2.map eM)),(3,.ptr 0 0 0),(4,.ptr 1 0 0),(7,.own 2 0 x1.1.length),(8,.int x1.2)] [(0,⟨6,[eR a0]⟩),(1,⟨6,[eR a1]⟩),(2,⟨1,x1.1.map (ow eI)⟩)] 3) (λr e t=>e= .exit 0∧Ent t (mN [(7,.own 0 0 r.length)] [(0,⟨1,r.map (ow eI)⟩)] 1)) (bT (bJ k2) (bA k<|bA k<|bG k<|aS) k4) ?_ ?_
 ·intro x1 o h;exact sQ<|sR<|am k k<|am k k<|ln k4<|cm k4<|am k k<|mG h (λq1 h=>aM 14 k q1<|lp k8<|lp k8<|am k k<|oB h λv2 hv2 h=>ae (aO (aBa a0 a1 a2 v2 hv2) k (aH (dI k) (aH (dI k) (cC k aI)))) k<|pk k3<|an<|tn<|cV k h (λ_ h=>aG<|tn<|sQ<|aC<|aP eG<|am k k<|fp k8<|lp k8<|am k k<|am k k<|oB h λv4 hv4 h=>ae (xl hv4 k) k<|lr k7<|oB h λv5 hv5 h=>ae (aO (aNw a0.p v4 v5 hv5) k (cC k (aH (dI k) aI))) k<|ae (wl k) k<|cG h λq6 h=>ae (mP aJ (l:=x1.1) (m:=[v5]) jG q6 k k k k k k k k k k k k) k<|aa k k<|an<|lB (by kernel_rfl)<|aU<|tn<|rg<|am k k<|ae (bB k k) k<|aT k2<|sp h ⟨_,k,(kC [0,1,4] (bJ k2) (bA k<|bA k<|bG k<|aS) k4)⟩) λ_ h=>aW<|aA<|aA<|sp h ⟨_,k,k,(kC [2] (bJ k2) (bG k<|aS) k4)⟩) λq1 h=>aM 14 k q1<|aK k4<|aK k4<|pk k3<|an<|tn<|vV k k<|aW<|aA<|aA<|sp h ⟨_,k,k,(kC [2] (bJ k2) (bG k<|aS) k4)⟩
 ·rintro e t ⟨rfl,hent⟩;exact aN<|tn<|aL hent<|sR<|am k k<|aT k2<|aD<|sp h (bK k k k (fZ (dE cX k k)))
def aAf (a0:Rp) (a1:Rp) (a2:(List Mt)):Option Bool:=
 (mB a0 a1 a2).bind λv1=>
 bif v1 then
 ((qC a0 a1 a2).bind λv3=>
 (qH v3 a0.dims).bind λv4=>
 some (v4))
 else
 (some (false))
theorem aIa (a0:Rp) (a1:Rp) (a2:(List Mt)) (r:Bool) (h:aAf a0 a1 a2=some r):HasC Tryz.prog 217 [.agg (eR a0),.agg (eR a1),.list 3 (a2.map eM)] (.bl r):=by
 exact hM [.tmp 6] Tryz.func217 Tryz.ntmps217 k<|sR<|ae (wb k) k<|ae (wb k) k<|aT k2<|sQ<|aP eG<|lp k8<|lp k8<|am k k<|oB h λv1 hv1 h=>ae (aO (aBa a0 a1 a2 v1 hv1) k (aH (dI k) (aH (dI k) (cC k aI)))) k<|am k k<|mG h (λq2 h=>aM 11 k q2<|lp k8<|lp k8<|am k k<|oB h λv3 hv3 h=>ae (cL cX (aEO a0 a1 a2 v3 hv3) k3 (aH (dI k) (aH (dI k) (cC k aI)))) k<|fp k8<|lp k8<|oB h λv4 hv4 h=>ae (aO (yG v3 a0.dims v4 hv4) k (vcT k k (cC k aI))) k<|pk k3<|aa k k<|an<|lB (by kernel_rfl)<|tn<|aD<|gJ h k2) λq2 h=>aM 11 k q2<|aK k4<|aK k4<|aK k4<|ak k k<|pk k3<|aa k k<|an<|lB (by kernel_rfl)<|tn<|aD<|gJ h k2
def yA (a0:Rp) (a1:Rp) (a2:(List Mt)):Option Bool:=
 (mB a0 a1 a2).bind λv1=>
 bif v1 then
 ((qC a0 a1 a2).bind λv3=>
 (qH v3 a1.dims).bind λv4=>
 some (v4))
 else
 (some (false))
theorem aHg (a0:Rp) (a1:Rp) (a2:(List Mt)) (r:Bool) (h:yA a0 a1 a2=some r):HasC Tryz.prog 218 [.agg (eR a0),.agg (eR a1),.list 3 (a2.map eM)] (.bl r):=by
 exact hM [.tmp 6] Tryz.func218 Tryz.ntmps218 k<|sR<|ae (wb k) k<|ae (wb k) k<|aT k2<|sQ<|aP eG<|lp k8<|lp k8<|am k k<|oB h λv1 hv1 h=>ae (aO (aBa a0 a1 a2 v1 hv1) k (aH (dI k) (aH (dI k) (cC k aI)))) k<|am k k<|mG h (λq2 h=>aM 11 k q2<|lp k8<|lp k8<|am k k<|oB h λv3 hv3 h=>ae (cL cX (aEO a0 a1 a2 v3 hv3) k3 (aH (dI k) (aH (dI k) (cC k aI)))) k<|fp k8<|lp k8<|oB h λv4 hv4 h=>ae (aO (yG v3 a1.dims v4 hv4) k (vcT k k (cC k aI))) k<|pk k3<|aa k k<|an<|lB (by kernel_rfl)<|tn<|aD<|gJ h k2) λq2 h=>aM 11 k q2<|aK k4<|aK k4<|aK k4<|ak k k<|pk k3<|aa k k<|an<|lB (by kernel_rfl)<|tn<|aD<|gJ h k2
def jC (a0:Rp) (a1:Rp) (a2:(List Mt)):Option Bool:=
 (aAf a0 a1 a2).bind λv1=>
 bif v1 then
 ((yA a0 a1 a2).bind λv3=>
 some (v3))
 else
 (some (false))
theorem wN (a0:Rp) (a1:Rp) (a2:(List Mt)) (r:Bool) (h:jC a0 a1 a2=some r):HasC Tryz.prog 167 [.agg (eR a0),.agg (eR a1),.list 3 (a2.map eM)] (.bl r):=by
 exact hM [.tmp 6] Tryz.func167 Tryz.ntmps167 k<|sR<|ae (wb k) k<|ae (wb k) k<|aT k2<|sR<|lp k8<|lp k8<|am k k<|oB h λv1 hv1 h=>ae (aO (aIa a0 a1 a2 v1 hv1) k (aH (dI k) (aH (dI k) (cC k aI)))) k<|am k k<|mG h (λq2 h=>aM 11 k q2<|lp k8<|lp k8<|am k k<|oB h λv3 hv3 h=>ae (aO (aHg a0 a1 a2 v3 hv3) k (aH (dI k) (aH (dI k) (cC k aI)))) k<|pk k3<|aT k2<|aD<|gJ h k2) λq2 h=>aM 11 k q2<|aK k4<|aK k4<|pk k3<|aT k2<|aD<|gJ h k2
def gP (a0:Rp) (v1:Int) (x1:(Int×Int)):Option ((Int×Int) ⊕ (Int ⊕ Int)):=
 bif decide (x1.2<v1) then
 (bif decide (100000<wr (x1.1*a0.p)) then
 (some (.inr (.inr ((-2)))))
 else
 (some (.inl (wr (x1.1*a0.p),wr (x1.2+1)))))
 else
 (some (.inr (.inl x1.1)))
def pA (a0:Rp) (a1:Rp):Option Int:=
 (nI a0 a1).bind λv1=>
 bif decide (v1<0) then
 (some ((-1)))
 else
 ((Lp (gP a0 v1) (1,0)).bind λy5=>
 Sum.elim (λy6=>
 some (y6)
 )
 (λy7=>
 some y7
 )
 y5)
theorem aFy (a0:Rp) (a1:Rp) (r:Int) (h:pA a0 a1=some r):HasC Tryz.prog 165 [.agg (eR a0),.agg (eR a1)] (.int r):=by
 refine hM [.tmp 4] Tryz.func165 Tryz.ntmps165 k<|sR<|ae (wb k) k<|ae (wb k) k<|aT k2<|sR<|lp k8<|lp k8<|oB h λv1 hv1 h=>ae (aO (yI a0 a1 v1 hv1) k (aH (dI k) (aH (dI k) aI))) k<|aT k2<|sQ<|sR<|am k k<|cm k4<|an<|tn<|cV k h (λ_ h=>sR<|aT k2<|aD<|aE<|qD h k2) λ_ h=>?_;refine aG<|tn<|sR<|aT k2<|sQ<|sR<|aT k2<|aC<|oB h λy5 hy5 h=>bX (body:=(gP a0 v1)) hy5 (λ(x1:(Int×Int))=>mN [(2,.ptr 0 0 0),(5,.int v1),(6,.int x1.1),(7,.int x1.2)] [(0,⟨6,[eR a0]⟩)] 1) (λr e t=>Sum.elim (λa=>(λr e t=>e= .exit 0∧Ent t (mN [(6,.int r)] [] 0)) a e t) (λb=>(λr e t=>e= .ret∧qE TT [.tmp 4] (.int r) .ret t) b e t) r) (bT (bJ k2) (bA k<|aS) k4) ?_ ?_
 ·intro x1 o h;exact sQ<|sR<|am k k<|am k k<|cm k4<|an<|tn<|cV k h (λ_ h=>aG<|tn<|sQ<|aC<|sR<|am k k<|fp k8<|lp k8<|ae (fC k k) k<|aT k2<|sR<|am k k<|cm k4<|an<|tn<|cV k h (λ_ h=>sR<|aT k2<|aD<|bF<|aE<|aE<|sp h ⟨_,k,k,bK k k k (aAI k)⟩) λ_ h=>aG<|aU<|tn<|rg<|am k k<|ae (bB k k) k<|aT k2<|sp h ⟨_,k,(bT (bJ k2) (bA k<|aS) k4)⟩) λ_ h=>aW<|aA<|aA<|sp h ⟨_,k,k,(bT (bJ k2) aS k4)⟩
 ·intro e t hX;rcases y5 with y6|y7
  ·obtain ⟨rfl,hent⟩:=hX;exact aN<|tn<|aL hent<|sR<|am k k<|aT k2<|aD<|qD h k2
  ·obtain ⟨rfl,hent⟩:=hX;exact bF<|aE<|sp h hent
def vP (a0:Rp) (a1:Rp) (v1:((List (List Mt))×Bool)) (x1:Int):Option (Int ⊕ (Unit ⊕ ((List Mt)×Bool×Bool))):=
 bif decide (x1<3000) then
 ((nO a0 a1 v1.1 x1).bind λv5=>
 (jC a0 a1 v5).bind λv6=>
 bif v6 then
 (some (.inr (.inr ((v5,true,true)))))
 else
 (some (.inl (wr (x1+1)))))
 else
 (some (.inr (.inl ())))
def vQ (a0:Rp) (a1:Rp) (v1:((List (List Mt))×Bool)) (x2:Int):Option (Int ⊕ (Unit ⊕ ((List Mt)×Bool×Bool))):=
 bif decide (x2<3000) then
 ((nO a0 a1 v1.1 x2).bind λv13=>
 (jC a0 a1 v13).bind λv14=>
 bif v14 then
 (some (.inr (.inr ((v13,true,true)))))
 else
 (some (.inl (wr (x2+1)))))
 else
 (some (.inr (.inl ())))
def vR (a0:Rp) (a1:Rp) (v1:((List (List Mt))×Bool)) (v2:Int) (x3:Int):Option (Int ⊕ (Unit ⊕ ((List Mt)×Bool×Bool))):=
 bif decide (x3<v2) then
 ((nO a0 a1 v1.1 x3).bind λv20=>
 (jC a0 a1 v20).bind λv21=>
 bif v21 then
 (some (.inr (.inr ((v20,true,true)))))
 else
 (some (.inl (wr (x3+1)))))
 else
 (some (.inr (.inl ())))
def aBb (a0:Rp) (a1:Rp):Option ((List Mt)×Bool×Bool):=
 (mJ a0 a1).bind λv1=>
 (pA a0 a1).bind λv2=>
 bif decide (v2<0) then
 ((Lp (vP a0 a1 v1) 0).bind λy8=>
 Sum.elim (λy9=>
 some ((([]:(List Mt)),false,decide (3000=v2)))
 )
 (λy10=>
 some y10
 )
 y8)
 else
 (bif decide (3000<v2) then
 ((Lp (vQ a0 a1 v1) 0).bind λy16=>
 Sum.elim (λy17=>
 some ((([]:(List Mt)),false,decide (3000=v2)))
 )
 (λy18=>
 some y18
 )
 y16)
 else
 ((Lp (vR a0 a1 v1 v2) 0).bind λy23=>
 Sum.elim (λy24=>
 some ((([]:(List Mt)),false,decide (v2=v2)))
 )
 (λy25=>
 some y25
 )
 y23))
theorem aNe (a0:Rp) (a1:Rp) (r:((List Mt)×Bool×Bool)) (h:aBb a0 a1=some r):HasC Tryz.prog 115 [.agg (eR a0),.agg (eR a1)] (.tuple [.list 3 (r.1.map eM),.bl r.2.1,.bl r.2.2]):=by
 refine hM [.tmp 4,.tmp 5,.tmp 6] Tryz.func115 Tryz.ntmps115 k<|sR<|ae (wb k) k<|ae (wb k) k<|aa k k<|aa k k<|aT k2<|sR<|lp k8<|lp k8<|oB h λv1 hv1 h=>ae (cT bZ (aFo a0 a1 v1 hv1) k3 (aH (dI k) (aH (dI k) aI))) k<|am k k<|ae (bW k k (by intro _ h;cases h)) k<|ae (bW k k (by intro _ h;cases h)) k<|aa k k<|aT k2<|sR<|lp k8<|lp k8<|oB h λv2 hv2 h=>ae (aO (aFy a0 a1 v2 hv2) k (aH (dI k) (aH (dI k) aI))) k<|aT k2 ?_;refine sR<|am k k<|aT k2<|sQ<|sR<|am k k<|cm k4<|am k k<|mG h (λq3 h=>?_) λq3 h=>?_
 ·refine aM 25 k q3<|aK k4<|pk k3<|an<|tn<|aL (t:=mN [(2,.ptr 0 0 0),(3,.ptr 1 0 0),(7,.own 2 0 v1.1.length),(9,.int v2),(10,.int v2),(28,.bl true)] [(0,⟨6,[eR a0]⟩),(1,⟨6,[eR a1]⟩),(2,⟨1,v1.1.map (ow (dL 3 eM))⟩)] 3) (bT (bJ k2) (bA k<|bA k<|cE (bZ.plainO _) k<|aS) k4)<|cW k k<|rg<|aT k2<|sQ<|sR<|aT k2<|aC<|oB h λy8 hy8 h=>bX (body:=(vP a0 a1 v1)) hy8 (λ(x1:Int)=>mN [(2,.ptr 0 0 0),(3,.ptr 1 0 0),(7,.own 2 0 v1.1.length),(9,.int v2),(10,.int 3000),(11,.int x1)] [(0,⟨6,[eR a0]⟩),(1,⟨6,[eR a1]⟩),(2,⟨1,v1.1.map (ow (dL 3 eM))⟩)] 3) (λr e t=>Sum.elim (λa=>(λr e t=>e= .exit 0∧Ent t (mN [(9,.int v2),(10,.int 3000)] [] 0)) a e t) (λb=>(λr e t=>e= .ret∧qE TT [.tmp 4,.tmp 5,.tmp 6] (.tuple [.list 3 (r.1.map eM),.bl r.2.1,.bl r.2.2]) .ret t) b e t) r) (bT (bJ k2) (bA k<|bA k<|cE (bZ.plainO _) k<|aS) k4) ?_ ?_
  ·intro x1 o h;exact sQ<|sR<|am k k<|am k k<|cm k4<|an<|tn<|cV k h (λ_ h=>aG<|tn<|sQ<|aC<|sR<|lp k8<|lp k8<|am k k<|am k k<|oB h λv5 hv5 h=>ae (cL bU (aBx a0 a1 v1.1 x1 v5 hv5) k3 (aH (dI k) (aH (dI k) (aH (aCi bZ k k) (cC k aI))))) k<|aT k2<|sR<|lp k8<|lp k8<|am k k<|oB h λv6 hv6 h=>ae (aO (wN a0 a1 v5 v6 hv6) k (aH (dI k) (aH (dI k) (aH (aCi bU k k) aI)))) k<|an<|tn<|cV k h (λ_ h=>sR<|am k k<|aa k k<|aa k k<|aT k2<|aD<|bF<|aE<|aE<|sp h ⟨_,k,k,bK k k k (dG k (bY (jM (dE bU k k)) (bY (k) (bY (k) gN))))⟩) λ_ h=>aG<|aU<|tn<|rg<|am k k<|ae (bB k k) k<|aT k2<|sp h ⟨_,k,(bT (bJ k2) (bA k<|bA k<|cE (bZ.plainO _) k<|aS) k4)⟩) λ_ h=>aW<|aA<|aA<|sp h ⟨_,k,k,(bT (bJ k2) aS k4)⟩
  ·intro e t hX;rcases y8 with y9|y10
   ·obtain ⟨rfl,hent⟩:=hX;exact aN<|tn<|aL hent<|sR<|ae (wl k) k<|am k k<|am k k<|cm k4<|aa k k<|aa k k<|aT k2<|aL (t:=mN [(4,.own 0 0 (([]:(List Mt)).length)),(5,.bl false),(6,.bl (decide (3000=v2)))] [(0,⟨3,List.map (ow eM) ([]:(List Mt))⟩)] 1) (bT (gK ⟨_,k,⟨k,k,(by simp only [aQ,lA,lT,lR,lC,lN]),k⟩⟩ (bJ k2)) (cE (bU.plainO _) k<|aS) k4)<|aD<|sp h (bK k k k (dG k (bY (jM (dE bU k k)) (bY (k) (bY (k) gN)))))
   ·obtain ⟨rfl,hent⟩:=hX;exact bF<|aE<|sp h hent
 ·refine aM 25 k q3<|am k k<|cm k4<|pk k3<|an<|tn<|aL (t:=mN [(2,.ptr 0 0 0),(3,.ptr 1 0 0),(7,.own 2 0 v1.1.length),(9,.int v2),(10,.int v2),(28,.bl (decide (3000<v2)))] [(0,⟨6,[eR a0]⟩),(1,⟨6,[eR a1]⟩),(2,⟨1,v1.1.map (ow (dL 3 eM))⟩)] 3) (bT (bJ k2) (bA k<|bA k<|cE (bZ.plainO _) k<|aS) k4)<|cV k h (λ_ h=>?_) λ_ h=>?_
  ·refine rg<|aT k2<|sQ<|sR<|aT k2<|aC<|oB h λy16 hy16 h=>bX (body:=(vQ a0 a1 v1)) hy16 (λ(x2:Int)=>mN [(2,.ptr 0 0 0),(3,.ptr 1 0 0),(7,.own 2 0 v1.1.length),(9,.int v2),(10,.int 3000),(11,.int x2)] [(0,⟨6,[eR a0]⟩),(1,⟨6,[eR a1]⟩),(2,⟨1,v1.1.map (ow (dL 3 eM))⟩)] 3) (λr e t=>Sum.elim (λa=>(λr e t=>e= .exit 0∧Ent t (mN [(9,.int v2),(10,.int 3000)] [] 0)) a e t) (λb=>(λr e t=>e= .ret∧qE TT [.tmp 4,.tmp 5,.tmp 6] (.tuple [.list 3 (r.1.map eM),.bl r.2.1,.bl r.2.2]) .ret t) b e t) r) (bT (bJ k2) (bA k<|bA k<|cE (bZ.plainO _) k<|aS) k4) ?_ ?_
   ·intro x2 o h;exact sQ<|sR<|am k k<|am k k<|cm k4<|an<|tn<|cV k h (λ_ h=>aG<|tn<|sQ<|aC<|sR<|lp k8<|lp k8<|am k k<|am k k<|oB h λv13 hv13 h=>ae (cL bU (aBx a0 a1 v1.1 x2 v13 hv13) k3 (aH (dI k) (aH (dI k) (aH (aCi bZ k k) (cC k aI))))) k<|aT k2<|sR<|lp k8<|lp k8<|am k k<|oB h λv14 hv14 h=>ae (aO (wN a0 a1 v13 v14 hv14) k (aH (dI k) (aH (dI k) (aH (aCi bU k k) aI)))) k<|an<|tn<|cV k h (λ_ h=>sR<|am k k<|aa k k<|aa k k<|aT k2<|aD<|bF<|aE<|aE<|sp h ⟨_,k,k,bK k k k (dG k (bY (jM (dE bU k k)) (bY (k) (bY (k) gN))))⟩) λ_ h=>aG<|aU<|tn<|rg<|am k k<|ae (bB k k) k<|aT k2<|sp h ⟨_,k,(bT (bJ k2) (bA k<|bA k<|cE (bZ.plainO _) k<|aS) k4)⟩) λ_ h=>aW<|aA<|aA<|sp h ⟨_,k,k,(bT (bJ k2) aS k4)⟩
   ·intro e t hX;rcases y16 with y17|y18
    ·obtain ⟨rfl,hent⟩:=hX;exact aN<|tn<|aL hent<|sR<|ae (wl k) k<|am k k<|am k k<|cm k4<|aa k k<|aa k k<|aT k2<|aL (t:=mN [(4,.own 0 0 (([]:(List Mt)).length)),(5,.bl false),(6,.bl (decide (3000=v2)))] [(0,⟨3,List.map (ow eM) ([]:(List Mt))⟩)] 1) (bT (gK ⟨_,k,⟨k,k,(by simp only [aQ,lA,lT,lR,lC,lN]),k⟩⟩ (bJ k2)) (cE (bU.plainO _) k<|aS) k4)<|aD<|sp h (bK k k k (dG k (bY (jM (dE bU k k)) (bY (k) (bY (k) gN)))))
    ·obtain ⟨rfl,hent⟩:=hX;exact bF<|aE<|sp h hent
  ·refine aG<|tn<|sQ<|sR<|aT k2<|aC<|oB h λy23 hy23 h=>bX (body:=(vR a0 a1 v1 v2)) hy23 (λ(x3:Int)=>mN [(2,.ptr 0 0 0),(3,.ptr 1 0 0),(7,.own 2 0 v1.1.length),(9,.int v2),(10,.int v2),(11,.int x3)] [(0,⟨6,[eR a0]⟩),(1,⟨6,[eR a1]⟩),(2,⟨1,v1.1.map (ow (dL 3 eM))⟩)] 3) (λr e t=>Sum.elim (λa=>(λr e t=>e= .exit 0∧Ent t (mN [(9,.int v2),(10,.int v2)] [] 0)) a e t) (λb=>(λr e t=>e= .ret∧qE TT [.tmp 4,.tmp 5,.tmp 6] (.tuple [.list 3 (r.1.map eM),.bl r.2.1,.bl r.2.2]) .ret t) b e t) r) (bT (bJ k2) (bA k<|bA k<|cE (bZ.plainO _) k<|aS) k4) ?_ ?_
   ·intro x3 o h;exact sQ<|sR<|am k k<|am k k<|cm k4<|an<|tn<|cV k h (λ_ h=>aG<|tn<|sQ<|aC<|sR<|lp k8<|lp k8<|am k k<|am k k<|oB h λv20 hv20 h=>ae (cL bU (aBx a0 a1 v1.1 x3 v20 hv20) k3 (aH (dI k) (aH (dI k) (aH (aCi bZ k k) (cC k aI))))) k<|aT k2<|sR<|lp k8<|lp k8<|am k k<|oB h λv21 hv21 h=>ae (aO (wN a0 a1 v20 v21 hv21) k (aH (dI k) (aH (dI k) (aH (aCi bU k k) aI)))) k<|an<|tn<|cV k h (λ_ h=>sR<|am k k<|aa k k<|aa k k<|aT k2<|aD<|bF<|aE<|aE<|sp h ⟨_,k,k,bK k k k (dG k (bY (jM (dE bU k k)) (bY (k) (bY (k) gN))))⟩) λ_ h=>aG<|aU<|tn<|rg<|am k k<|ae (bB k k) k<|aT k2<|sp h ⟨_,k,(bT (bJ k2) (bA k<|bA k<|cE (bZ.plainO _) k<|aS) k4)⟩) λ_ h=>aW<|aA<|aA<|sp h ⟨_,k,k,(bT (bJ k2) aS k4)⟩
   ·intro e t hX;rcases y23 with y24|y25
    ·obtain ⟨rfl,hent⟩:=hX;exact aN<|tn<|aL hent<|sR<|ae (wl k) k<|am k k<|am k k<|cm k4<|aa k k<|aa k k<|aT k2<|aL (t:=mN [(4,.own 0 0 (([]:(List Mt)).length)),(5,.bl false),(6,.bl (decide (v2=v2)))] [(0,⟨3,List.map (ow eM) ([]:(List Mt))⟩)] 1) (bT (gK ⟨_,k,⟨k,k,(by simp only [aQ,lA,lT,lR,lC,lN]),k⟩⟩ (bJ k2)) (cE (bU.plainO _) k<|aS) k4)<|aD<|sp h (bK k k k (dG k (bY (jM (dE bU k k)) (bY (k) (bY (k) gN)))))
    ·obtain ⟨rfl,hent⟩:=hX;exact bF<|aE<|sp h hent
def lP (a0:Rp) (a1:Rp):Option Int:=
 (kX a0 a1).bind λv1=>
 bif !v1 then
 (some ((-1)))
 else
 ((nI a0 a0).bind λv3=>
 (qH a0.dims a1.dims).bind λv4=>
 bif !v4 then
 (some (0))
 else
 ((nI a0 a1).bind λv6=>
 bif !decide (v6=v3) then
 (some (0))
 else
 ((nI a1 a0).bind λv8=>
 bif !decide (v8=v3) then
 (some (0))
 else
 ((nI a1 a1).bind λv10=>
 bif !decide (v10=v3) then
 (some (0))
 else
 ((aBb a0 a1).bind λv12=>
 bif v12.2.1 then
 (some (1))
 else
 (bif v12.2.2 then
 (some (0))
 else
 (some ((-1)))))))))
theorem aCg (a0:Rp) (a1:Rp) (r:Int) (h:lP a0 a1=some r):HasC Tryz.prog 106 [.agg (eR a0),.agg (eR a1)] (.int r):=by
 refine hM [.tmp 4] Tryz.func106 Tryz.ntmps106 k<|sR<|ae (wb k) k<|ae (wb k) k<|aT k2<|sQ<|sR<|lp k8<|lp k8<|oB h λv1 hv1 h=>ae (aO (aAz a0 a1 v1 hv1) k (aH (dI k) (aH (dI k) aI))) k<|ae (dD k) k<|an<|tn<|cV k h (λ_ h=>sR<|aT k2<|aD<|aE<|qD h k2) λ_ h=>?_;refine aG<|tn<|sR<|lp k8<|lp k8<|oB h λv3 hv3 h=>ae (aO (yI a0 a0 v3 hv3) k (aH (dI k) (aH (dI k) aI))) k<|aT k2<|sQ<|sR<|fp k8<|lp k8<|fp k8<|lp k8<|oB h λv4 hv4 h=>ae (aO (yG a0.dims a1.dims v4 hv4) k (cC k (cC k aI))) k<|ae (dD k) k<|am k k<|mG h (λq5 h=>?_) λq5 h=>?_
 ·refine aM 22 k q5<|aK k4<|aK k4<|ak k k<|pk k3<|am k k<|aK k4<|aK k4<|ak k k<|pk k3<|am k k<|aK k4<|aK k4<|ak k k<|pk k3<|an<|tn<|aL (t:=mN [(2,.ptr 0 0 0),(3,.ptr 1 0 0),(42,.bl true)] [(0,⟨6,[eR a0]⟩),(1,⟨6,[eR a1]⟩)] 2) (bT (bJ k2) (bA k<|bA k<|aS) k4)<|cW k k<|sR<|aT k2 ?_;exact aD<|aE<|qD h k2
 ·refine aM 22 k q5<|lp k8<|lp k8<|oB h λv6 hv6 h=>ae (aO (yI a0 a1 v6 hv6) k (aH (dI k) (aH (dI k) aI))) k<|am k k<|cm k4<|pk k3<|am k k<|mG h (λq7 h=>aM 29 k q7<|aK k4<|aK k4<|ak k k<|pk k3<|am k k<|aK k4<|aK k4<|ak k k<|pk k3<|an<|tn<|aL (t:=mN [(2,.ptr 0 0 0),(3,.ptr 1 0 0),(42,.bl true)] [(0,⟨6,[eR a0]⟩),(1,⟨6,[eR a1]⟩)] 2) (bT (bJ k2) (bA k<|bA k<|aS) k4)<|cW k k<|sR<|aT k2<|aD<|aE<|qD h k2) λq7 h=>?_;refine aM 29 k q7<|lp k8<|lp k8<|oB h λv8 hv8 h=>ae (aO (yI a1 a0 v8 hv8) k (aH (dI k) (aH (dI k) aI))) k<|am k k<|cm k4<|pk k3<|am k k<|mG h (λq9 h=>aM 36 k q9<|aK k4<|aK k4<|ak k k<|pk k3<|an<|tn<|aL (t:=mN [(2,.ptr 0 0 0),(3,.ptr 1 0 0),(42,.bl true)] [(0,⟨6,[eR a0]⟩),(1,⟨6,[eR a1]⟩)] 2) (bT (bJ k2) (bA k<|bA k<|aS) k4)<|cW k k<|sR<|aT k2<|aD<|aE<|qD h k2) λq9 h=>?_;exact aM 36 k q9<|lp k8<|lp k8<|oB h λv10 hv10 h=>ae (aO (yI a1 a1 v10 hv10) k (aH (dI k) (aH (dI k) aI))) k<|am k k<|cm k4<|pk k3<|an<|tn<|aL (t:=mN [(2,.ptr 0 0 0),(3,.ptr 1 0 0),(42,.bl (!decide (v10=v3)))] [(0,⟨6,[eR a0]⟩),(1,⟨6,[eR a1]⟩)] 2) (bT (bJ k2) (bA k<|bA k<|aS) k4)<|cV k h (λ_ h=>sR<|aT k2<|aD<|aE<|qD h k2) λ_ h=>aG<|tn<|sR<|lp k8<|lp k8<|oB h λv12 hv12 h=>ae (AEff.conv (jK (x:= .tuple [.own 2 0 (v12.1.map eM).length,.bl v12.2.1,.bl v12.2.2]) (nb:=[(2,⟨3,cY (v12.1.map eM)⟩)]) (aNe a0 a1 v12 hv12) k (by rfl) k k (dV (bU.good _) (dV aS (dV aS uL))) (aH (dI k) (aH (dI k) aI))) (v':= .tuple [.own 2 0 v12.1.length,.bl v12.2.1,.bl v12.2.2]) (ed':=[(2,some ⟨3,v12.1.map (ow eM)⟩)]) (by simp only [aQ]) (uW (nb':=[(2,⟨3,v12.1.map (ow eM)⟩)]) (by simp only [gU]))) k<|am k k<|ae (bW k k (by intro _ h;cases h)) k<|ae (bW k k (by intro _ h;cases h)) k<|ae (bW k k (by intro _ h;cases h)) k<|aa k k<|aa k k<|aT k2<|sQ<|aC<|sR<|am k k<|aT k2<|cV k h (λ_ h=>sR<|aT k2<|aD<|bF<|aE<|qD h k2) λ_ h=>sR<|am k k<|aT k2<|cV k h (λ_ h=>sR<|aT k2<|aD<|bF<|aE<|qD h k2) λ_ h=>aG<|aU<|tn<|sR<|aT k2<|aD<|qD h k2
def xQ (a1:(List Sc)) (x1:((List Int)×(List Mt)×Int)):Option (((List Int)×(List Mt)×Int) ⊕ ((List Int)×(List Mt))):=
 bif decide (x1.2.2<(a1.length:Int)) then
 ((cJ a1 x1.2.2).bind λv4=>
 bif decide (x1.1.length+[(v4.basis.length:Int)].length ≤4294967296) then
 ((cJ a1 x1.2.2).bind λv6=>
 (cJ a1 x1.2.2).bind λv7=>
 (nJ v6.size v7.basis).bind λv8=>
 (sO v8).bind λv9=>
 bif decide (x1.2.1.length+1≤4294967296) then
 (some (.inl ((x1.1++[(v4.basis.length:Int)]),(x1.2.1++[v9]),wr (x1.2.2+1))))
 else none)
 else none)
 else
 (some (.inr (x1.1,x1.2.1)))
def xR (v17:Mt) (v20:(List Int)) (x2:((List Mt)×Int)) (x3:((List Mt)×Int)) (x4:((List Mt)×Int)):Option (((List Mt)×Int) ⊕ (List Mt)):=
 (cJ x4.1 x2.2).bind λv23=>
 bif decide (x4.2<v23.cols) then
 ((cJ (x4.1.set x2.2.toNat v23) x2.2).bind λv25=>
 (cJ v20 x3.2).bind λv26=>
 (cJ v17.cells (wr ((wr (v26*v17.cols))+x4.2))).bind λv27=>
 (cJ v25.cells (wr ((wr (x3.2*v25.cols))+x4.2))).bind λv28=>
 some (.inl (((x4.1.set x2.2.toNat v23).set x2.2.toNat (⟨v25.rows,v25.cols,(v25.cells.set ((wr ((wr (x3.2*v25.cols))+x4.2)).toNat) v27)⟩:Mt)),wr (x4.2+1))))
 else
 (some (.inr (x4.1.set x2.2.toNat v23)))
def xS (v17:Mt) (v20:(List Int)) (x2:((List Mt)×Int)) (x3:((List Mt)×Int)):Option (((List Mt)×Int) ⊕ (List Mt)):=
 (cJ x3.1 x2.2).bind λv21=>
 bif decide (x3.2<v21.rows) then
 ((Lp (xR v17 v20 x2 x3) ((x3.1.set x2.2.toNat v21),0)).bind λy29=>
 some (.inl (y29,wr (x3.2+1))))
 else
 (some (.inr (x3.1.set x2.2.toNat v21)))
def xT (a0:Rp) (a1:(List Sc)) (y11:((List Int)×(List Mt))) (x2:((List Mt)×Int)):Option (((List Mt)×Int) ⊕ (List Mt)):=
 bif decide (x2.2<(a0.maps.length:Int)) then
 ((cJ a0.maps x2.2).bind λv14=>
 (cJ a0.q.src x2.2).bind λv15=>
 (cJ y11.2 v15).bind λv16=>
 (gX a0.p v14 v16).bind λv17=>
 (cJ a0.q.tgt x2.2).bind λv18=>
 (cJ a1 v18).bind λv19=>
 (rT v19).bind λv20=>
 (Lp (xS v17 v20 x2) (x2.1,0)).bind λy30=>
 some (.inl (y30,wr (x2.2+1))))
 else
 (some (.inr x2.1))
def aCR (a0:Rp) (a1:(List Sc)):Option (Rp×(List Mt)×Bool):=
 (xG a0 a1).bind λv1=>
 bif !v1 then
 (some (((⟨0,(⟨0,[],[]⟩:Qv),[],[]⟩:Rp),([]:(List Mt)),false)))
 else
 ((Lp (xQ a1) (([]:(List Int)),([]:(List Mt)),0)).bind λy11=>
 (yK a0.p a0.q y11.1).bind λv12=>
 (Lp (xT a0 a1 y11) (v12.maps,0)).bind λy31=>
 some (((⟨v12.p,v12.q,v12.dims,y31⟩:Rp),y11.2,true)))
theorem aOJ (a0:Rp) (a1:(List Sc)) (r:(Rp×(List Mt)×Bool)) (h:aCR a0 a1=some r):HasC Tryz.prog 105 [.agg (eR a0),.list 2 (a1.map eS)] (.tuple [.agg (eR r.1),.list 3 (r.2.1.map eM),.bl r.2.2]):=by
 refine aRJ aJ (rvs:=[.cell 4 32,.tmp 5,.tmp 6]) (ns:=nmA) Tryz.func105 k k Tryz.ntmps105 k k k (λW=>?_);refine aMj<|aAv<|aAv<|uM (λw0_2 S0_2 r0_2=>?_);refine uM (λw0_3 S0_3 r0_3=>?_);refine uM (λw0_4 S0_4 r0_4=>?_);refine uM (λw0_5 S0_5 r0_5=>?_);refine aAu<|aSt (λw1_0 S1_0 r1_0=>?_);refine aRH<|sS<|se (wb k) k<|se (bP aJ k k) k<|saS k2<|saS k2<|sn<|tn<|sQ<|sS<|lpS k8<|lS k2<|oB h λv1 hv1 h=>se (aUu (aFc a0 a1 v1 hv1) k (aAt (vrR k r0_2 r0_3 r0_4 r0_5) (wkD k r1_0 aIC))) k<|se (dD k) k<|sn<|tn<|cV k h (λ_ h=>sS<|se (hO aJ k k k k k k) k<|se (wl k) k<|se (ws k) k<|saS k2<|saS k2<|sn<|tn<|aL (t:=mN [(4,.ptr 1 0 0),(5,.own 2 0 (([]:(List Mt)).length)),(6,.bl false)] [(1,⟨6,[iR]⟩),(2,⟨3,List.map (ow eM) ([]:(List Mt))⟩)] 3 ⟨0,true,fxW W,true⟩) (bT (iU 1 k2 (gK ⟨_,k,⟨k,k,(by simp only [aQ,lA,lT,lR,lC,lN]),k⟩⟩ (bJ k2))) (bA k<|cE (bU.plainO _) k<|aS) k4)<|aD<|aE<|sp h (bK k k k (dG k (bY (rI (aY (k) (aY (k) (aY (k) (aY (k) (aY (k) (aY (k) fA))))))) (bY (jM (dE bU k k)) (bY (k) gN)))))) λ_ h=>?_;refine aG<|tn<|sS<|se (wl k) k<|saS k2<|sn<|tn<|aL (t:=mN [(1,.sc w1_0),(2,.ptr 0 0 0),(4,.ptr 1 0 0),(7,.own 2 0 (([]:(List Int)).length))] [(0,⟨6,[[.int a0.p,.int a0.q.n,.sc w0_2,.sc w0_3,.sc w0_4,.sc w0_5]]⟩),(1,⟨6,[iR]⟩),(2,⟨1,List.map (ow eI) ([]:(List Int))⟩)] 3 ⟨0,true,fxW W,true⟩) (bT (iU 3 k2 (gK ⟨_,k,⟨k,k,(by simp only [aQ,lA,lT,lR,lC,lN]),k⟩⟩ aS)) (bA k<|bA k<|bG k<|aS) k4)<|sS<|se (wl k) k<|saS k2<|sn<|tn<|aL (t:=mN [(1,.sc w1_0),(2,.ptr 0 0 0),(4,.ptr 1 0 0),(7,.own 2 0 (([]:(List Int)).length)),(8,.own 3 0 (([]:(List Mt)).length))] [(0,⟨6,[[.int a0.p,.int a0.q.n,.sc w0_2,.sc w0_3,.sc w0_4,.sc w0_5]]⟩),(1,⟨6,[iR]⟩),(2,⟨1,List.map (ow eI) ([]:(List Int))⟩),(3,⟨3,List.map (ow eM) ([]:(List Mt))⟩)] 4 ⟨0,true,fxW W,true⟩) (bT (iU 4 k2 (gK ⟨_,k,⟨k,k,(by simp only [aQ,lA,lT,lR,lC,lN]),k⟩⟩ aS)) (bA k<|bA k<|bG k<|cE (bU.plainO _) k<|aS) k4)<|sQ<|sS<|saS k2<|sn<|tn<|aC<|oB h λy11 hy11 h=>bX (body:=(xQ a1)) hy11 (λ(x1:((List Int)×(List Mt)×Int))=>mN [(1,.sc w1_0),(2,.ptr 0 0 0),(4,.ptr 1 0 0),(7,.own 2 0 x1.1.length),(8,.own 3 0 x1.2.1.length),(9,.int x1.2.2)] [(0,⟨6,[[.int a0.p,.int a0.q.n,.sc w0_2,.sc w0_3,.sc w0_4,.sc w0_5]]⟩),(1,⟨6,[iR]⟩),(2,⟨1,x1.1.map (ow eI)⟩),(3,⟨3,x1.2.1.map (ow eM)⟩)] 4 ⟨0,true,fxW W,true⟩) (λr e t=>e= .exit 0∧Ent t (mN [(1,.sc w1_0),(2,.ptr 0 0 0),(4,.ptr 1 0 0),(7,.own 2 0 r.1.length),(8,.own 3 0 r.2.length)] [(0,⟨6,[[.int a0.p,.int a0.q.n,.sc w0_2,.sc w0_3,.sc w0_4,.sc w0_5]]⟩),(1,⟨6,[iR]⟩),(2,⟨1,r.1.map (ow eI)⟩),(3,⟨3,r.2.map (ow eM)⟩)] 4 ⟨0,true,fxW W,true⟩)) (bT (bJ k2) (bA k<|bA k<|bG k<|cE (bU.plainO _) k<|aS) k4) ?_ ?_
 ·intro x1 o h;refine sQ<|sS<|lS k2<|lS k2<|se (aEu aJ r1_0 k k k) k<|cmS k4<|sn<|tn<|cV k h (λ_ h=>?_) λ_ h=>aW<|aA<|aA<|sp h ⟨_,k,k,(bT (bJ k2) (bA k<|bA k<|bG k<|cE (bU.plainO _) k<|aS) k4)⟩;refine aG<|tn<|sQ<|aC<|sS<|lS k2<|lS k2<|lS k2<|oB h λv4 hv4 h=>se (yL aJ r1_0 hv4 k k k k k k) k<|se (aGg aJ (uH r1_0 (dB hv4)) k k k k k k) k<|aHK aJ [.list 1 (v4.basis.map (dL 1 eI))] (aIY (uH r1_0 (dB hv4)) 1) k k k k k k k k k<|uM (λwn5 Sn5 rn5=>?_);refine aAu<|se (aEu aJ rn5 k k k) k<|se (wl k) k<|cG h λq5 h=>se (mP aJ (l:=x1.1) (m:=[(v4.basis.length:Int)]) jG q5 k k k k k k k k k k k k) k<|saS k2<|sn<|tn<|aP eG<|am k k<|am k k<|am k k<|oB h λv6 hv6 h=>ae (yL aJ r1_0 hv6 k k k k k k) k<|ae (aGg aJ (uH r1_0 (dB hv6)) k k k k k k) k<|ae (aSF aJ (aIY (uH r1_0 (dB hv6)) 0) k k k k k k k) k<|am k k<|am k k<|oB h λv7 hv7 h=>ae (yL aJ r1_0 hv7 k k k k k k) k<|ae (aGg aJ (uH r1_0 (dB hv7)) k k k k k k) k<|aPR aJ [.list 1 (v7.basis.map (dL 1 eI))] (aIY (uH r1_0 (dB hv7)) 1) k k k k k k k k k<|uM (λwn6 Sn6 rn6=>?_);exact aAu<|oB h λv8 hv8 h=>ae (cMK (aEV v6.size v7.basis v8 hv8) k3 (wkS k (wkD k rn6 aIC))) k<|oB h λv9 hv9 h=>ae (cMK (aIG v8 v9 hv9) k3 (aAt (.inl (vaM k2)) aIC)) k<|ae (wl k) k<|cG h λq10 h=>ae (iE aJ (l:=x1.2.1) (c:=[.int v9.rows,.int v9.cols,.own 7 0 v9.cells.length]) q10 k k k k k k k k k k k k k k) k<|aa k k<|an<|lB (by kernel_rfl)<|aU<|tn<|aL (t:=mN [(1,.sc w1_0),(2,.ptr 0 0 0),(4,.ptr 1 0 0),(7,.own 5 0 ((x1.1++[(v4.basis.length:Int)]).length)),(8,.own 9 0 ((x1.2.1++[v9]).length)),(9,.int x1.2.2)] [(0,⟨6,[[.int a0.p,.int a0.q.n,.sc w0_2,.sc w0_3,.sc w0_4,.sc w0_5]]⟩),(1,⟨6,[iR]⟩),(5,⟨1,List.map (ow eI) (x1.1++[(v4.basis.length:Int)])⟩),(9,⟨3,List.map (ow eM) (x1.2.1++[v9])⟩)] 10 ⟨0,true,fxW W,true⟩) (Ent.trans (fH (b:=9) (b':=7) (j:=2) (es':=v9.cells.map eI) k k k k (aQ _ _) (cX.frzs _)) (bT (iU 4 k2 (gK ⟨_,k,⟨k,k,(by simp only [aQ,lA,lT,lR,lC,lN]),k⟩⟩ (bJ k2))) (bA k<|bA k<|bG k<|hX ⟨_,k,k,.inl ⟨jH v9 k,bU.plainO _⟩⟩ k<|aS) k4))<|rgS<|lS k2<|se (bB k k) k<|saS k2<|sn<|tn<|sp h ⟨_,k,(kC [0,1,5,9] (bJ k2) (bA k<|bA k<|bG k<|cE (bU.plainO _) k<|aS) k4)⟩
 ·rintro e t ⟨rfl,hent⟩;refine aN<|tn<|aL hent<|sS<|fpS k8<|lpS k8<|fpS k8<|lpS k8<|lS k2<|oB h λv12 hv12 h=>se (cRK (aHk a0.p a0.q y11.1 v12 hv12) k3 (wkS k (aAt (.inr (pK (aGy k k) (pK (aES k r0_2) (pK (aES k r0_3) aLm)))) (wkT k k aIC)))) k<|se (bP aJ k k) k<|se (ws k) k<|sn<|tn<|sQ<|sS<|saS k2<|sn<|tn<|aC<|oB h λy31 hy31 h=>bX (body:=(xT a0 a1 y11)) hy31 (λ(x2:((List Mt)×Int))=>mN [(1,.sc w1_0),(2,.ptr 0 0 0),(4,.ptr 1 0 0),(8,.own 2 0 y11.2.length),(10,.ptr 3 0 0),(11,.int x2.2)] [(0,⟨6,[[.int a0.p,.int a0.q.n,.sc w0_2,.sc w0_3,.sc w0_4,.sc w0_5]]⟩),(1,⟨6,[iR]⟩),(2,⟨3,y11.2.map (ow eM)⟩),(3,⟨6,[[.int v12.p,.int v12.q.n,.own 4 0 v12.q.src.length,.own 5 0 v12.q.tgt.length,.own 6 0 v12.dims.length,.own 7 0 x2.1.length]]⟩),(4,⟨1,v12.q.src.map (ow eI)⟩),(5,⟨1,v12.q.tgt.map (ow eI)⟩),(6,⟨1,v12.dims.map (ow eI)⟩),(7,⟨3,x2.1.map (ow eM)⟩)] 8 ⟨0,true,fxW W,true⟩) (λr e t=>e= .exit 2∧Ent t (mN [(4,.ptr 0 0 0),(8,.own 1 0 y11.2.length),(10,.ptr 2 0 0)] [(0,⟨6,[iR]⟩),(1,⟨3,y11.2.map (ow eM)⟩),(2,⟨6,[[.int v12.p,.int v12.q.n,.own 3 0 v12.q.src.length,.own 4 0 v12.q.tgt.length,.own 5 0 v12.dims.length,.own 6 0 r.length]]⟩),(3,⟨1,v12.q.src.map (ow eI)⟩),(4,⟨1,v12.q.tgt.map (ow eI)⟩),(5,⟨1,v12.dims.map (ow eI)⟩),(6,⟨3,r.map (ow eM)⟩)] 7 ⟨0,true,fxW W,true⟩)) (kC [0,1,3,8,4,5,6,7] (bJ k2) (bA k<|bA k<|cE (bU.plainO _) k<|cP k<|bG k<|bG k<|bG k<|cE (bU.plainO _) k<|aS) k4) ?_ ?_
  ·intro x2 o h;refine sQ<|sS<|lS k2<|fpS k8<|lpS k8<|se (aEu aJ r0_5 k k k) k<|cmS k4<|sn<|tn<|cV k h (λ_ h=>?_) λ_ h=>aW<|aA<|aA<|sp h ⟨_,k,k,(kC [1,2,3,4,5,6,7] (bJ k2) (bA k<|cE (bU.plainO _) k<|cP k<|bG k<|bG k<|bG k<|cE (bU.plainO _) k<|aS) k4)⟩;refine aG<|tn<|sQ<|aC<|sQ<|aP eG<|fp k8<|lp k8<|fp k8<|lp k8<|am k k<|oB h λv14 hv14 h=>ae (yL aJ r0_5 hv14 k k k k k k) k<|aPR aJ [.int v14.rows,.int v14.cols,.list 1 (v14.cells.map eI)] (uH r0_5 (dB hv14)) k k k k k k k k k<|aAv<|aAv<|uM (λwn11 Sn11 rn11=>?_);refine aAu<|am k k<|fp k8<|fp k8<|lp k8<|am k k<|oB h λv15 hv15 h=>ae (yL aJ r0_2 hv15 k k k k k k) k<|ae (aIK aJ r0_2 (dB hv15) k k k k k k k) k<|oB h λv16 hv16 h=>ae (xo hv16 k) k<|ae (wp hv16 k) k<|oB h λv17 hv17 h=>ae (cMK (lW a0.p v14 v16 v17 hv17) k3 (wkS k (aAt (.inr (pK (aGy k k) (pK (aGy k k) (pK (aES k rn11) aLm)))) (aAt (.inl (dI k)) aIC)))) k<|ae (bP aJ k k) k<|ae (ws k) k<|an<|lB (by kernel_rfl)<|tn<|aL (t:=mN [(1,.sc w1_0),(2,.ptr 0 0 0),(4,.ptr 1 0 0),(8,.own 2 0 y11.2.length),(10,.ptr 3 0 0),(11,.int x2.2),(12,.ptr 9 0 0)] [(0,⟨6,[[.int a0.p,.int a0.q.n,.sc w0_2,.sc w0_3,.sc w0_4,.sc w0_5]]⟩),(1,⟨6,[iR]⟩),(2,⟨3,y11.2.map (ow eM)⟩),(3,⟨6,[[.int v12.p,.int v12.q.n,.own 4 0 v12.q.src.length,.own 5 0 v12.q.tgt.length,.own 6 0 v12.dims.length,.own 7 0 x2.1.length]]⟩),(4,⟨1,v12.q.src.map (ow eI)⟩),(5,⟨1,v12.q.tgt.map (ow eI)⟩),(6,⟨1,v12.dims.map (ow eI)⟩),(7,⟨3,x2.1.map (ow eM)⟩),(8,⟨1,v17.cells.map (ow eI)⟩),(9,⟨3,[oMt v17 8]⟩)] 10 ⟨0,true,fxW W,true⟩) (bT (bJ k2) (bA k<|bA k<|cE (bU.plainO _) k<|cP k<|bG k<|bG k<|bG k<|cE (bU.plainO _) k<|bG k<|cP k<|aS) k4)<|sS<|lS k2<|fpS k8<|fpS k8<|lpS k8<|lS k2<|oB h λv18 hv18 h=>se (yL aJ r0_3 hv18 k k k k k k) k<|se (aIK aJ r0_3 (dB hv18) k k k k k k k) k<|oB h λv19 hv19 h=>se (yL aJ r1_0 hv19 k k k k k k) k<|aHK aJ [.int v19.size,.list 1 (v19.basis.map (dL 1 eI))] (uH r1_0 (dB hv19)) k k k k k k k k k<|aAv<|uM (λwn12 Sn12 rn12=>?_);refine aAu<|oB h λv20 hv20 h=>se (cLK cX (aGc v19 v20 hv20) k3 (aAt (.inr (pK (aGy k k) (pK (aES k rn12) aLm))) aIC)) k<|saS k2<|sn<|tn<|sS<|saS k2<|sn<|tn<|aC<|oB h λy30 hy30 h=>bX (body:=(xS v17 v20 x2)) hy30 (λ(x3:((List Mt)×Int))=>mN [(1,.sc w1_0),(2,.ptr 0 0 0),(4,.ptr 1 0 0),(8,.own 2 0 y11.2.length),(10,.ptr 3 0 0),(11,.int x2.2),(12,.ptr 8 0 0),(13,.own 10 0 v20.length),(14,.int x3.2)] [(0,⟨6,[[.int a0.p,.int a0.q.n,.sc w0_2,.sc w0_3,.sc w0_4,.sc w0_5]]⟩),(1,⟨6,[iR]⟩),(2,⟨3,y11.2.map (ow eM)⟩),(3,⟨6,[[.int v12.p,.int v12.q.n,.own 4 0 v12.q.src.length,.own 5 0 v12.q.tgt.length,.own 6 0 v12.dims.length,.own 7 0 x3.1.length]]⟩),(4,⟨1,v12.q.src.map (ow eI)⟩),(5,⟨1,v12.q.tgt.map (ow eI)⟩),(6,⟨1,v12.dims.map (ow eI)⟩),(7,⟨3,x3.1.map (ow eM)⟩),(8,⟨3,[oMt v17 9]⟩),(9,⟨1,v17.cells.map (ow eI)⟩),(10,⟨1,v20.map (ow eI)⟩)] 11 ⟨0,true,fxW W,true⟩) (λr e t=>e= .exit 4∧Ent t (mN [(1,.sc w1_0),(2,.ptr 0 0 0),(4,.ptr 1 0 0),(8,.own 2 0 y11.2.length),(10,.ptr 3 0 0),(11,.int x2.2)] [(0,⟨6,[[.int a0.p,.int a0.q.n,.sc w0_2,.sc w0_3,.sc w0_4,.sc w0_5]]⟩),(1,⟨6,[iR]⟩),(2,⟨3,y11.2.map (ow eM)⟩),(3,⟨6,[[.int v12.p,.int v12.q.n,.own 4 0 v12.q.src.length,.own 5 0 v12.q.tgt.length,.own 6 0 v12.dims.length,.own 7 0 r.length]]⟩),(4,⟨1,v12.q.src.map (ow eI)⟩),(5,⟨1,v12.q.tgt.map (ow eI)⟩),(6,⟨1,v12.dims.map (ow eI)⟩),(7,⟨3,r.map (ow eM)⟩)] 8 ⟨0,true,fxW W,true⟩)) (kC [0,1,2,3,4,5,6,7,9,8,10] (bJ k2) (bA k<|bA k<|cE (bU.plainO _) k<|cP k<|bG k<|bG k<|bG k<|cE (bU.plainO _) k<|cP k<|bG k<|bG k<|aS) k4) ?_ ?_
   ·intro x3 o h;refine sQ<|sS<|lS k2<|fpS k8<|lpS k8<|lS k2<|oB h λv21 hv21 h=>yF (t:=mN [(1,.sc w1_0),(2,.ptr 0 0 0),(4,.ptr 1 0 0),(8,.own 2 0 y11.2.length),(10,.ptr 3 0 0),(11,.int x2.2),(12,.ptr 8 0 0),(13,.own 10 0 v20.length),(14,.int x3.2),(94,.int x3.2),(95,.ptr 3 0 5),(96,.own 7 0 x3.1.length),(97,.int x2.2)] [(0,⟨6,[[.int a0.p,.int a0.q.n,.sc w0_2,.sc w0_3,.sc w0_4,.sc w0_5]]⟩),(1,⟨6,[iR]⟩),(2,⟨3,y11.2.map (ow eM)⟩),(3,⟨6,[[.int v12.p,.int v12.q.n,.own 4 0 v12.q.src.length,.own 5 0 v12.q.tgt.length,.own 6 0 v12.dims.length,.own 7 0 x3.1.length]]⟩),(4,⟨1,v12.q.src.map (ow eI)⟩),(5,⟨1,v12.q.tgt.map (ow eI)⟩),(6,⟨1,v12.dims.map (ow eI)⟩),(7,⟨3,(x3.1.map (ow eM)).set x2.2.toNat [.int v21.rows,.int v21.cols,.abs 1 (v21.cells.map eI)]⟩),(8,⟨3,[oMt v17 9]⟩),(9,⟨1,v17.cells.map (ow eI)⟩),(10,⟨1,v20.map (ow eI)⟩)] 11 ⟨0,true,fxW W,true⟩) (bT (bJ k2) (bA k<|bA k<|cE (bU.plainO _) k<|cP k<|bG k<|bG k<|bG k<|hX ⟨_,k,k,.inl ⟨aIw (dB hv21),aGz bU k⟩⟩ k<|cP k<|bG k<|bG k<|aS) k4)<|yF (aHA (b:=7) (c:=11) (i:=x2.2.toNat) (j:=2) (n:=v21.cells.length) (A:=x3.1.map (ow eM)) (fs:=v21.cells.map (ow eI)) (by rw [dU];exact rH hv21) k k k k (aQ _ _) (gU _ _) (aMk ⟨k,k,k,k,k,k,k,k,k,k,k,k,k,aS⟩) (aMl (skip:=[]) ⟨.inr (aAw k),.inr (aAw k),.inr (bU.df _ _),.inr (aAw k),.inr (cX.df _ _),.inr (cX.df _ _),.inr (cX.df _ _),.inr (bU.dfS _ _ _ k),.inr (aAw k),.inr (cX.df _ _),.inr (cX.df _ _),aS⟩))<|yF (t:=mN [(1,.sc w1_0),(2,.ptr 0 0 0),(4,.ptr 1 0 0),(8,.own 2 0 y11.2.length),(10,.ptr 3 0 0),(11,.int x2.2),(12,.ptr 8 0 0),(13,.own 10 0 v20.length),(14,.int x3.2),(94,.int x3.2),(95,.ptr 3 0 5),(96,.own 7 0 x3.1.length),(97,.int x2.2)] [(0,⟨6,[[.int a0.p,.int a0.q.n,.sc w0_2,.sc w0_3,.sc w0_4,.sc w0_5]]⟩),(1,⟨6,[iR]⟩),(2,⟨3,y11.2.map (ow eM)⟩),(3,⟨6,[[.int v12.p,.int v12.q.n,.own 4 0 v12.q.src.length,.own 5 0 v12.q.tgt.length,.own 6 0 v12.dims.length,.own 7 0 x3.1.length]]⟩),(4,⟨1,v12.q.src.map (ow eI)⟩),(5,⟨1,v12.q.tgt.map (ow eI)⟩),(6,⟨1,v12.dims.map (ow eI)⟩),(7,⟨3,(x3.1.map (ow eM)).set x2.2.toNat [.int v21.rows,.int v21.cols,.own 11 0 v21.cells.length]⟩),(8,⟨3,[oMt v17 9]⟩),(9,⟨1,v17.cells.map (ow eI)⟩),(10,⟨1,v20.map (ow eI)⟩),(11,⟨1,v21.cells.map (ow eI)⟩)] 12 ⟨0,true,fxW W,true⟩) (eJ (σ:=sg [(0,0),(1,1),(2,2),(3,3),(4,4),(5,5),(6,6),(7,7),(8,8),(9,9),(10,10),(11,11)]) (bJ k2) (bA k<|bA k<|cE (bU.plainO _) k<|cP k<|bG k<|bG k<|bG k<|hX ⟨_,k,k,.inr (aIr (σ:=sg [(0,0),(1,1),(2,2),(3,3),(4,4),(5,5),(6,6),(7,7),(8,8),(9,9),(10,10),(11,11)]) (m:=12) (e:=eM) (l:=x3.1) (i:=x2.2.toNat) (c:=[.int v21.rows,.int v21.cols,.own 11 0 v21.cells.length]) (d:=[.int v21.rows,.int v21.cols,.own 11 0 v21.cells.length]) bU ⟨_,_,k,k,⟨_,_,k,k,⟨_,_,k,⟨k,k,k,k⟩,k⟩⟩⟩)⟩ k<|cP k<|bG k<|bG k<|bG k<|aS) k)<|se (xo hv21 k) k<|fpS k8<|se (eK aJ k k k k (aMc (rH hv21)) k k) k<|cmS k4<|sn<|tn<|aL (t:=mN [(1,.sc w1_0),(2,.ptr 0 0 0),(4,.ptr 1 0 0),(8,.own 2 0 y11.2.length),(10,.ptr 3 0 0),(11,.int x2.2),(12,.ptr 8 0 0),(13,.own 10 0 v20.length),(14,.int x3.2),(101,.bl (decide (x3.2<v21.rows)))] [(0,⟨6,[[.int a0.p,.int a0.q.n,.sc w0_2,.sc w0_3,.sc w0_4,.sc w0_5]]⟩),(1,⟨6,[iR]⟩),(2,⟨3,y11.2.map (ow eM)⟩),(3,⟨6,[[.int v12.p,.int v12.q.n,.own 4 0 v12.q.src.length,.own 5 0 v12.q.tgt.length,.own 6 0 v12.dims.length,.own 7 0 ((x3.1.set x2.2.toNat v21).length)]]⟩),(4,⟨1,v12.q.src.map (ow eI)⟩),(5,⟨1,v12.q.tgt.map (ow eI)⟩),(6,⟨1,v12.dims.map (ow eI)⟩),(7,⟨3,List.map (ow eM) (x3.1.set x2.2.toNat v21)⟩),(8,⟨3,[oMt v17 9]⟩),(9,⟨1,v17.cells.map (ow eI)⟩),(10,⟨1,v20.map (ow eI)⟩)] 12 ⟨0,true,fxW W,true⟩) (Ent.trans (aCU (b:=7) (b':=11) (j:=2) (es':=v21.cells.map eI) (by rw [dU];exact rH hv21) k k k k (aQ _ _) (cX.frzs _)) (bT (bJ k2) (bA k<|bA k<|cE (bU.plainO _) k<|hX ⟨_,k,k,.inr ⟨_,_,k,⟨_,_,k,k,⟨_,_,k,k,⟨_,_,k,⟨k,k,k,k⟩,⟨_,_,k,⟨k,k,k,k⟩,⟨_,_,k,⟨k,k,k,k⟩,⟨_,_,k,⟨k,k,(by simp only [aQ,lA,lT,lR,lC,lN]),k⟩,k⟩⟩⟩⟩⟩⟩,k⟩⟩ k<|bG k<|bG k<|bG k<|hX ⟨_,k,k,.inl ⟨aGK v21 k,bU.plainO _⟩⟩ k<|cP k<|bG k<|bG k<|aS) k4))<|cV k h (λ_ h=>?_) λ_ h=>aW<|aA<|aA<|sp h ⟨_,k,k,(bT (bJ k2) (bA k<|bA k<|cE (bU.plainO _) k<|cP k<|bG k<|bG k<|bG k<|cE (bU.plainO _) k<|aS) k4)⟩;refine aG<|tn<|sQ<|aC<|sS<|saS k2<|sn<|tn<|aC<|oB h λy29 hy29 h=>bX (body:=(xR v17 v20 x2 x3)) hy29 (λ(x4:((List Mt)×Int))=>mN [(1,.sc w1_0),(2,.ptr 0 0 0),(4,.ptr 1 0 0),(8,.own 2 0 y11.2.length),(10,.ptr 3 0 0),(11,.int x2.2),(12,.ptr 8 0 0),(13,.own 10 0 v20.length),(14,.int x3.2),(15,.int x4.2)] [(0,⟨6,[[.int a0.p,.int a0.q.n,.sc w0_2,.sc w0_3,.sc w0_4,.sc w0_5]]⟩),(1,⟨6,[iR]⟩),(2,⟨3,y11.2.map (ow eM)⟩),(3,⟨6,[[.int v12.p,.int v12.q.n,.own 4 0 v12.q.src.length,.own 5 0 v12.q.tgt.length,.own 6 0 v12.dims.length,.own 7 0 x4.1.length]]⟩),(4,⟨1,v12.q.src.map (ow eI)⟩),(5,⟨1,v12.q.tgt.map (ow eI)⟩),(6,⟨1,v12.dims.map (ow eI)⟩),(7,⟨3,x4.1.map (ow eM)⟩),(8,⟨3,[oMt v17 9]⟩),(9,⟨1,v17.cells.map (ow eI)⟩),(10,⟨1,v20.map (ow eI)⟩)] 11 ⟨0,true,fxW W,true⟩) (λr e t=>e= .exit 6∧Ent t (mN [(1,.sc w1_0),(2,.ptr 0 0 0),(4,.ptr 1 0 0),(8,.own 2 0 y11.2.length),(10,.ptr 3 0 0),(11,.int x2.2),(12,.ptr 8 0 0),(13,.own 10 0 v20.length),(14,.int x3.2)] [(0,⟨6,[[.int a0.p,.int a0.q.n,.sc w0_2,.sc w0_3,.sc w0_4,.sc w0_5]]⟩),(1,⟨6,[iR]⟩),(2,⟨3,y11.2.map (ow eM)⟩),(3,⟨6,[[.int v12.p,.int v12.q.n,.own 4 0 v12.q.src.length,.own 5 0 v12.q.tgt.length,.own 6 0 v12.dims.length,.own 7 0 r.length]]⟩),(4,⟨1,v12.q.src.map (ow eI)⟩),(5,⟨1,v12.q.tgt.map (ow eI)⟩),(6,⟨1,v12.dims.map (ow eI)⟩),(7,⟨3,r.map (ow eM)⟩),(8,⟨3,[oMt v17 9]⟩),(9,⟨1,v17.cells.map (ow eI)⟩),(10,⟨1,v20.map (ow eI)⟩)] 11 ⟨0,true,fxW W,true⟩)) (bT (bJ k2) (bA k<|bA k<|cE (bU.plainO _) k<|cP k<|bG k<|bG k<|bG k<|cE (bU.plainO _) k<|cP k<|bG k<|bG k<|aS) k4) ?_ ?_
    ·intro x4 o h;refine sQ<|sS<|lS k2<|fpS k8<|lpS k8<|lS k2<|oB h λv23 hv23 h=>yF (t:=mN [(1,.sc w1_0),(2,.ptr 0 0 0),(4,.ptr 1 0 0),(8,.own 2 0 y11.2.length),(10,.ptr 3 0 0),(11,.int x2.2),(12,.ptr 8 0 0),(13,.own 10 0 v20.length),(14,.int x3.2),(15,.int x4.2),(104,.int x4.2),(105,.ptr 3 0 5),(106,.own 7 0 x4.1.length),(107,.int x2.2)] [(0,⟨6,[[.int a0.p,.int a0.q.n,.sc w0_2,.sc w0_3,.sc w0_4,.sc w0_5]]⟩),(1,⟨6,[iR]⟩),(2,⟨3,y11.2.map (ow eM)⟩),(3,⟨6,[[.int v12.p,.int v12.q.n,.own 4 0 v12.q.src.length,.own 5 0 v12.q.tgt.length,.own 6 0 v12.dims.length,.own 7 0 x4.1.length]]⟩),(4,⟨1,v12.q.src.map (ow eI)⟩),(5,⟨1,v12.q.tgt.map (ow eI)⟩),(6,⟨1,v12.dims.map (ow eI)⟩),(7,⟨3,(x4.1.map (ow eM)).set x2.2.toNat [.int v23.rows,.int v23.cols,.abs 1 (v23.cells.map eI)]⟩),(8,⟨3,[oMt v17 9]⟩),(9,⟨1,v17.cells.map (ow eI)⟩),(10,⟨1,v20.map (ow eI)⟩)] 11 ⟨0,true,fxW W,true⟩) (bT (bJ k2) (bA k<|bA k<|cE (bU.plainO _) k<|cP k<|bG k<|bG k<|bG k<|hX ⟨_,k,k,.inl ⟨aIw (dB hv23),aGz bU k⟩⟩ k<|cP k<|bG k<|bG k<|aS) k4)<|yF (aHA (b:=7) (c:=11) (i:=x2.2.toNat) (j:=2) (n:=v23.cells.length) (A:=x4.1.map (ow eM)) (fs:=v23.cells.map (ow eI)) (by rw [dU];exact rH hv23) k k k k (aQ _ _) (gU _ _) (aMk ⟨k,k,k,k,k,k,k,k,k,k,k,k,k,k,aS⟩) (aMl (skip:=[]) ⟨.inr (aAw k),.inr (aAw k),.inr (bU.df _ _),.inr (aAw k),.inr (cX.df _ _),.inr (cX.df _ _),.inr (cX.df _ _),.inr (bU.dfS _ _ _ k),.inr (aAw k),.inr (cX.df _ _),.inr (cX.df _ _),aS⟩))<|yF (t:=mN [(1,.sc w1_0),(2,.ptr 0 0 0),(4,.ptr 1 0 0),(8,.own 2 0 y11.2.length),(10,.ptr 3 0 0),(11,.int x2.2),(12,.ptr 8 0 0),(13,.own 10 0 v20.length),(14,.int x3.2),(15,.int x4.2),(104,.int x4.2),(105,.ptr 3 0 5),(106,.own 7 0 x4.1.length),(107,.int x2.2)] [(0,⟨6,[[.int a0.p,.int a0.q.n,.sc w0_2,.sc w0_3,.sc w0_4,.sc w0_5]]⟩),(1,⟨6,[iR]⟩),(2,⟨3,y11.2.map (ow eM)⟩),(3,⟨6,[[.int v12.p,.int v12.q.n,.own 4 0 v12.q.src.length,.own 5 0 v12.q.tgt.length,.own 6 0 v12.dims.length,.own 7 0 x4.1.length]]⟩),(4,⟨1,v12.q.src.map (ow eI)⟩),(5,⟨1,v12.q.tgt.map (ow eI)⟩),(6,⟨1,v12.dims.map (ow eI)⟩),(7,⟨3,(x4.1.map (ow eM)).set x2.2.toNat [.int v23.rows,.int v23.cols,.own 11 0 v23.cells.length]⟩),(8,⟨3,[oMt v17 9]⟩),(9,⟨1,v17.cells.map (ow eI)⟩),(10,⟨1,v20.map (ow eI)⟩),(11,⟨1,v23.cells.map (ow eI)⟩)] 12 ⟨0,true,fxW W,true⟩) (eJ (σ:=sg [(0,0),(1,1),(2,2),(3,3),(4,4),(5,5),(6,6),(7,7),(8,8),(9,9),(10,10),(11,11)]) (bJ k2) (bA k<|bA k<|cE (bU.plainO _) k<|cP k<|bG k<|bG k<|bG k<|hX ⟨_,k,k,.inr (aIr (σ:=sg [(0,0),(1,1),(2,2),(3,3),(4,4),(5,5),(6,6),(7,7),(8,8),(9,9),(10,10),(11,11)]) (m:=12) (e:=eM) (l:=x4.1) (i:=x2.2.toNat) (c:=[.int v23.rows,.int v23.cols,.own 11 0 v23.cells.length]) (d:=[.int v23.rows,.int v23.cols,.own 11 0 v23.cells.length]) bU ⟨_,_,k,k,⟨_,_,k,k,⟨_,_,k,⟨k,k,k,k⟩,k⟩⟩⟩)⟩ k<|cP k<|bG k<|bG k<|bG k<|aS) k)<|se (xo hv23 k) k<|fpS k8<|se (eK aJ k k k k (aMc (rH hv23)) k k) k<|cmS k4<|sn<|tn<|aL (t:=mN [(1,.sc w1_0),(2,.ptr 0 0 0),(4,.ptr 1 0 0),(8,.own 2 0 y11.2.length),(10,.ptr 3 0 0),(11,.int x2.2),(12,.ptr 8 0 0),(13,.own 10 0 v20.length),(14,.int x3.2),(15,.int x4.2),(111,.bl (decide (x4.2<v23.cols)))] [(0,⟨6,[[.int a0.p,.int a0.q.n,.sc w0_2,.sc w0_3,.sc w0_4,.sc w0_5]]⟩),(1,⟨6,[iR]⟩),(2,⟨3,y11.2.map (ow eM)⟩),(3,⟨6,[[.int v12.p,.int v12.q.n,.own 4 0 v12.q.src.length,.own 5 0 v12.q.tgt.length,.own 6 0 v12.dims.length,.own 7 0 ((x4.1.set x2.2.toNat v23).length)]]⟩),(4,⟨1,v12.q.src.map (ow eI)⟩),(5,⟨1,v12.q.tgt.map (ow eI)⟩),(6,⟨1,v12.dims.map (ow eI)⟩),(7,⟨3,List.map (ow eM) (x4.1.set x2.2.toNat v23)⟩),(8,⟨3,[oMt v17 9]⟩),(9,⟨1,v17.cells.map (ow eI)⟩),(10,⟨1,v20.map (ow eI)⟩)] 12 ⟨0,true,fxW W,true⟩) (Ent.trans (aCU (b:=7) (b':=11) (j:=2) (es':=v23.cells.map eI) (by rw [dU];exact rH hv23) k k k k (aQ _ _) (cX.frzs _)) (bT (bJ k2) (bA k<|bA k<|cE (bU.plainO _) k<|hX ⟨_,k,k,.inr ⟨_,_,k,⟨_,_,k,k,⟨_,_,k,k,⟨_,_,k,⟨k,k,k,k⟩,⟨_,_,k,⟨k,k,k,k⟩,⟨_,_,k,⟨k,k,k,k⟩,⟨_,_,k,⟨k,k,(by simp only [aQ,lA,lT,lR,lC,lN]),k⟩,k⟩⟩⟩⟩⟩⟩,k⟩⟩ k<|bG k<|bG k<|bG k<|hX ⟨_,k,k,.inl ⟨aGK v23 k,bU.plainO _⟩⟩ k<|cP k<|bG k<|bG k<|aS) k4))<|cV k h (λ_ h=>?_) λ_ h=>aW<|aA<|aA<|sp h ⟨_,k,k,(bT (bJ k2) (bA k<|bA k<|cE (bU.plainO _) k<|cP k<|bG k<|bG k<|bG k<|cE (bU.plainO _) k<|cP k<|bG k<|bG k<|aS) k4)⟩;refine aG<|tn<|sQ<|aC<|oB h λv25 hv25 h=>aL (t:=mN [(1,.sc w1_0),(2,.ptr 0 0 0),(4,.ptr 1 0 0),(8,.own 2 0 y11.2.length),(10,.ptr 3 0 0),(11,.int x2.2),(12,.ptr 8 0 0),(13,.own 10 0 v20.length),(14,.int x3.2),(15,.int x4.2),(111,.bl (decide (x4.2<v23.cols)))] [(0,⟨6,[[.int a0.p,.int a0.q.n,.sc w0_2,.sc w0_3,.sc w0_4,.sc w0_5]]⟩),(1,⟨6,[iR]⟩),(2,⟨3,y11.2.map (ow eM)⟩),(3,⟨6,[[.int v12.p,.int v12.q.n,.own 4 0 v12.q.src.length,.own 5 0 v12.q.tgt.length,.own 6 0 v12.dims.length,.own 7 0 ((x4.1.set x2.2.toNat v23).length)]]⟩),(4,⟨1,v12.q.src.map (ow eI)⟩),(5,⟨1,v12.q.tgt.map (ow eI)⟩),(6,⟨1,v12.dims.map (ow eI)⟩),(7,⟨3,(List.map (ow eM) (x4.1.set x2.2.toNat v23)).set x2.2.toNat [.int v25.rows,.int v25.cols,.abs 1 (v25.cells.map eI)]⟩),(8,⟨3,[oMt v17 9]⟩),(9,⟨1,v17.cells.map (ow eI)⟩),(10,⟨1,v20.map (ow eI)⟩)] 12 ⟨0,true,fxW W,true⟩) (bT (bJ k2) (bA k<|bA k<|cE (bU.plainO _) k<|cP k<|bG k<|bG k<|bG k<|hX ⟨_,k,k,.inl ⟨aIw (dB hv25),aGz bU k⟩⟩ k<|cP k<|bG k<|bG k<|aS) k4)<|aL (aHA (b:=7) (c:=12) (i:=x2.2.toNat) (j:=2) (n:=v25.cells.length) (A:=List.map (ow eM) (x4.1.set x2.2.toNat v23)) (fs:=v25.cells.map (ow eI)) (by rw [dU];exact rH hv25) k k k k (aQ _ _) (gU _ _) (aMk ⟨k,k,k,k,k,k,k,k,k,k,k,aS⟩) (aMl (skip:=[]) ⟨.inr (aAw k),.inr (aAw k),.inr (bU.df _ _),.inr (aAw k),.inr (cX.df _ _),.inr (cX.df _ _),.inr (cX.df _ _),.inr (bU.dfS _ _ _ k),.inr (aAw k),.inr (cX.df _ _),.inr (cX.df _ _),aS⟩))<|aL (t:=mN [(1,.sc w1_0),(2,.ptr 0 0 0),(4,.ptr 1 0 0),(8,.own 2 0 y11.2.length),(10,.ptr 3 0 0),(11,.int x2.2),(12,.ptr 8 0 0),(13,.own 10 0 v20.length),(14,.int x3.2),(15,.int x4.2),(111,.bl (decide (x4.2<v23.cols)))] [(0,⟨6,[[.int a0.p,.int a0.q.n,.sc w0_2,.sc w0_3,.sc w0_4,.sc w0_5]]⟩),(1,⟨6,[iR]⟩),(2,⟨3,y11.2.map (ow eM)⟩),(3,⟨6,[[.int v12.p,.int v12.q.n,.own 4 0 v12.q.src.length,.own 5 0 v12.q.tgt.length,.own 6 0 v12.dims.length,.own 7 0 ((x4.1.set x2.2.toNat v23).length)]]⟩),(4,⟨1,v12.q.src.map (ow eI)⟩),(5,⟨1,v12.q.tgt.map (ow eI)⟩),(6,⟨1,v12.dims.map (ow eI)⟩),(7,⟨3,(List.map (ow eM) (x4.1.set x2.2.toNat v23)).set x2.2.toNat [.int v25.rows,.int v25.cols,.own 12 0 v25.cells.length]⟩),(8,⟨3,[oMt v17 9]⟩),(9,⟨1,v17.cells.map (ow eI)⟩),(10,⟨1,v20.map (ow eI)⟩),(12,⟨1,v25.cells.map (ow eI)⟩)] 13 ⟨0,true,fxW W,true⟩) (eJ (σ:=sg [(0,0),(1,1),(2,2),(3,3),(4,4),(5,5),(6,6),(7,7),(8,8),(9,9),(10,10),(12,12)]) (bJ k2) (bA k<|bA k<|cE (bU.plainO _) k<|cP k<|bG k<|bG k<|bG k<|hX ⟨_,k,k,.inr (aIr (σ:=sg [(0,0),(1,1),(2,2),(3,3),(4,4),(5,5),(6,6),(7,7),(8,8),(9,9),(10,10),(12,12)]) (m:=13) (e:=eM) (l:=(x4.1.set x2.2.toNat v23)) (i:=x2.2.toNat) (c:=[.int v25.rows,.int v25.cols,.own 12 0 v25.cells.length]) (d:=[.int v25.rows,.int v25.cols,.own 12 0 v25.cells.length]) bU ⟨_,_,k,k,⟨_,_,k,k,⟨_,_,k,⟨k,k,k,k⟩,k⟩⟩⟩)⟩ k<|cP k<|bG k<|bG k<|bG k<|aS) k)<|aP eG<|fp k8<|lp k8<|am k k<|ae (xo hv25 k) k<|fp k8<|ae (eK aJ k k k k (aMc (rH hv25)) k k) k<|am k k<|fp k8<|lp k8<|am k k<|ae (xo hv25 k) k<|fp k8<|ae (eK aJ k k k k (aMc (rH hv25)) k k) k<|ae (fC k k) k<|am k k<|ae (bB k k) k<|fp k8<|lp k8<|am k k<|am k k<|oB h λv26 hv26 h=>ae (xo hv26 k) k ?_;exact ae (wp hv26 k) k<|fp k8<|lp k8<|ae (fC k k) k<|am k k<|ae (bB k k) k<|oB h λv27 hv27 h=>ae (xo hv27 k) k<|ae (wp hv27 k) k<|oB h λv28 hv28 h=>ae (xo hv28 k) k<|ae (fG aJ jG (u:=v27) (dB hv28) k k k k k k) k<|an<|lB (by kernel_rfl)<|aU<|tn<|aL (t:=mN [(1,.sc w1_0),(2,.ptr 0 0 0),(4,.ptr 1 0 0),(8,.own 2 0 y11.2.length),(10,.ptr 3 0 0),(11,.int x2.2),(12,.ptr 8 0 0),(13,.own 10 0 v20.length),(14,.int x3.2),(15,.int x4.2)] [(0,⟨6,[[.int a0.p,.int a0.q.n,.sc w0_2,.sc w0_3,.sc w0_4,.sc w0_5]]⟩),(1,⟨6,[iR]⟩),(2,⟨3,y11.2.map (ow eM)⟩),(3,⟨6,[[.int v12.p,.int v12.q.n,.own 4 0 v12.q.src.length,.own 5 0 v12.q.tgt.length,.own 6 0 v12.dims.length,.own 7 0 (((x4.1.set x2.2.toNat v23).set x2.2.toNat (⟨v25.rows,v25.cols,(v25.cells.set ((wr ((wr (x3.2*v25.cols))+x4.2)).toNat) v27)⟩:Mt)).length)]]⟩),(4,⟨1,v12.q.src.map (ow eI)⟩),(5,⟨1,v12.q.tgt.map (ow eI)⟩),(6,⟨1,v12.dims.map (ow eI)⟩),(7,⟨3,List.map (ow eM) ((x4.1.set x2.2.toNat v23).set x2.2.toNat (⟨v25.rows,v25.cols,(v25.cells.set ((wr ((wr (x3.2*v25.cols))+x4.2)).toNat) v27)⟩:Mt))⟩),(8,⟨3,[oMt v17 9]⟩),(9,⟨1,v17.cells.map (ow eI)⟩),(10,⟨1,v20.map (ow eI)⟩)] 13 ⟨0,true,fxW W,true⟩) (Ent.trans (aCU (b:=7) (b':=12) (j:=2) (es':=List.map eI (v25.cells.set ((wr ((wr (x3.2*v25.cols))+x4.2)).toNat) v27)) (by rw [dU];exact rH hv25) k k k k (by simp only [aQ,lA,lT,lR,lC,lN]) (cX.frzs _)) (bT (bJ k2) (bA k<|bA k<|cE (bU.plainO _) k<|hX ⟨_,k,k,.inr ⟨_,_,k,⟨_,_,k,k,⟨_,_,k,k,⟨_,_,k,⟨k,k,k,k⟩,⟨_,_,k,⟨k,k,k,k⟩,⟨_,_,k,⟨k,k,k,k⟩,⟨_,_,k,⟨k,k,(by simp only [aQ,lA,lT,lR,lC,lN]),k⟩,k⟩⟩⟩⟩⟩⟩,k⟩⟩ k<|bG k<|bG k<|bG k<|hX ⟨_,k,k,.inl ⟨aGK (⟨v25.rows,v25.cols,(v25.cells.set ((wr ((wr (x3.2*v25.cols))+x4.2)).toNat) v27)⟩:Mt) k,bU.plainO _⟩⟩ k<|cP k<|bG k<|bG k<|aS) k4))<|rgS<|lS k2<|se (bB k k) k<|saS k2<|sn<|tn<|sp h ⟨_,k,(bT (bJ k2) (bA k<|bA k<|cE (bU.plainO _) k<|cP k<|bG k<|bG k<|bG k<|cE (bU.plainO _) k<|cP k<|bG k<|bG k<|aS) k4)⟩
    ·rintro e t ⟨rfl,hent⟩;exact aN<|aU<|tn<|aL hent<|rgS<|lS k2<|se (bB k k) k<|saS k2<|sn<|tn<|sp h ⟨_,k,(bT (bJ k2) (bA k<|bA k<|cE (bU.plainO _) k<|cP k<|bG k<|bG k<|bG k<|cE (bU.plainO _) k<|cP k<|bG k<|bG k<|aS) k4)⟩
   ·rintro e t ⟨rfl,hent⟩;exact aN<|aU<|tn<|aL hent<|rgS<|lS k2<|se (bB k k) k<|saS k2<|sn<|tn<|sp h ⟨_,k,(bT (bJ k2) (bA k<|bA k<|cE (bU.plainO _) k<|cP k<|bG k<|bG k<|bG k<|cE (bU.plainO _) k<|aS) k4)⟩
  ·rintro e t ⟨rfl,hent⟩;exact aN<|tn<|aL hent<|sS<|lpS k8<|lS k2<|se (ws k) k<|saS k2<|saS k2<|sn<|tn<|aD<|sp h (bK k k k (dG k (bY (rI (aY (k) (aY (k) (aY (dE cX k k) (aY (dE cX k k) (aY (dE cX k k) (aY (dE bU k k) fA))))))) (bY (jM (dE bU k k)) (bY (k) gN)))))
def lQ (a0:Rp) (a1:Rp) (a2:Rp) (v5:((List (List Sc))×Bool)) (x1:(Int×Int)):Option ((Int×Int) ⊕ (Int ⊕ Int)):=
 bif decide (x1.2<((v5.1.length:Nat):Int)) then
 ((cJ v5.1 x1.2).bind λv8=>
 (aCR a0 v8).bind λv9=>
 (cJ v5.1 x1.2).bind λv10=>
 (tI a0 v10).bind λv11=>
 (lP v9.1 a2).bind λv12=>
 (lP v11.1 a1).bind λv13=>
 bif decide (v12<0) then
 (some (.inr (.inr ((-1)))))
 else
 (bif decide (v13<0) then
 (some (.inr (.inr ((-1)))))
 else
 (some (.inl (wr (x1.1+(wr (v12*v13))),wr (x1.2+1))))))
 else
 (some (.inr (.inl x1.1)))
def vS (a0:Rp) (a1:Rp) (a2:Rp):Option Int:=
 (kX a0 a1).bind λv1=>
 bif !v1 then
 (some ((-1)))
 else
 ((kX a0 a2).bind λv3=>
 bif !v3 then
 (some ((-1)))
 else
 ((zZ a0 a2.dims).bind λv5=>
 bif !v5.2 then
 (some ((-1)))
 else
 ((Lp (lQ a0 a1 a2 v5) (0,0)).bind λy16=>
 Sum.elim (λy17=>
 some (y17)
 )
 (λy18=>
 some y18
 )
 y16)))
theorem aJf (a0:Rp) (a1:Rp) (a2:Rp) (r:Int) (h:vS a0 a1 a2=some r):HasC Tryz.prog 50 [.agg (eR a0),.agg (eR a1),.agg (eR a2)] (.int r):=by
 refine hM [.tmp 6] Tryz.func50 Tryz.ntmps50 k<|sR<|ae (wb k) k<|ae (wb k) k<|ae (wb k) k<|aT k2<|sQ<|sR<|lp k8<|lp k8<|oB h λv1 hv1 h=>ae (aO (aAz a0 a1 v1 hv1) k (aH (dI k) (aH (dI k) aI))) k<|ae (dD k) k<|am k k<|mG h (λq2 h=>aM 23 k q2<|aK k4<|aK k4<|pk k3<|an<|tn<|cW k k<|sR<|aT k2<|aD<|aE<|qD h k2) λq2 h=>?_;refine aM 23 k q2<|lp k8<|lp k8<|oB h λv3 hv3 h=>ae (aO (aAz a0 a2 v3 hv3) k (aH (dI k) (aH (dI k) aI))) k<|ae (dD k) k<|pk k3<|an<|tn<|cV k h (λ_ h=>sR<|aT k2<|aD<|aE<|qD h k2) λ_ h=>?_;refine aG<|tn<|sR<|lp k8<|fp k8<|lp k8<|oB h λv5 hv5 h=>ae (aCd (σ:=sg []) (σ':=sg [(3,0)]) (touch:=[]) (news:=[3]) (nP:=[(3,⟨1,v5.1.map (dL 2 eS)⟩)]) (n':=4) (r2:= .tuple [.own 3 0 v5.1.length,.bl v5.2]) (aLY a0 a2.dims v5 hv5) k k ⟨_,_,k,(.inl ⟨_,_,k,k,⟨_,_,k,k,⟨_,_,k,⟨k,k⟩,⟨_,_,k,⟨k,k⟩,⟨_,_,k,⟨k,k⟩,⟨_,_,k,⟨k,k⟩,k⟩⟩⟩⟩⟩⟩),⟨_,_,k,(.inl ⟨k,k⟩),k⟩⟩ aS k k k ⟨⟨_,k,k,.inl ⟨k,bZ.plainE _⟩⟩,k,aS⟩ k (.inr ⟨_,_,k,k,⟨_,_,k,⟨k,k,(by simp only [aQ,lA,lT,lR,lC,lN]),k⟩,⟨_,_,k,k,k⟩⟩⟩) k ⟨k,bZ.tamdE _ _,aS⟩ k k) k<|am k k<|ae (bW k k (by intro _ h;cases h)) k<|ae (bW k k (by intro _ h;cases h)) k<|aa k k<|aT k2<|sQ<|sR<|am k k<|ae (dD k) k<|an<|tn<|aL (t:=mN [(3,.ptr 0 0 0),(4,.ptr 1 0 0),(5,.ptr 2 0 0),(7,.own 3 0 v5.1.length),(37,.bl (!v5.2))] [(0,⟨6,[eR a0]⟩),(1,⟨6,[eR a1]⟩),(2,⟨6,[eR a2]⟩),(3,⟨1,v5.1.map (dL 2 eS)⟩)] 4) (bT (bJ k2) (bA k<|bA k<|bA k<|cE (bZ.plainE _) k<|aS) k4)<|cV k h (λ_ h=>sR<|aT k2<|aD<|aE<|qD h k2) λ_ h=>?_;refine aG<|tn<|sR<|aT k2<|sQ<|sR<|aT k2<|aC<|oB h λy16 hy16 h=>bX (body:=(lQ a0 a1 a2 v5)) hy16 (λ(x1:(Int×Int))=>mN [(3,.ptr 0 0 0),(4,.ptr 1 0 0),(5,.ptr 2 0 0),(7,.own 3 0 v5.1.length),(9,.int x1.1),(10,.int x1.2)] [(0,⟨6,[eR a0]⟩),(1,⟨6,[eR a1]⟩),(2,⟨6,[eR a2]⟩),(3,⟨1,v5.1.map (dL 2 eS)⟩)] 4) (λr e t=>Sum.elim (λa=>(λr e t=>e= .exit 0∧Ent t (mN [(9,.int r)] [] 0)) a e t) (λb=>(λr e t=>e= .ret∧qE TT [.tmp 6] (.int r) .ret t) b e t) r) (bT (bJ k2) (bA k<|bA k<|bA k<|cE (bZ.plainE _) k<|aS) k4) ?_ ?_
 ·intro x1 o h;refine sQ<|sR<|am k k<|am k k<|ae (cF aJ k k k k) k<|cm k4<|an<|tn<|cV k h (λ_ h=>?_) λ_ h=>aW<|aA<|aA<|sp h ⟨_,k,k,(bT (bJ k2) aS k4)⟩;refine aG<|tn<|sQ<|aC<|sQ<|aP eG<|lp k8<|am k k<|am k k<|oB h λv8 hv8 h=>ae (xo hv8 k) k<|ae (wp hv8 k) k<|oB h λv9 hv9 h=>ae (AEff.conv (jK (x:= .tuple [.agg [.int v9.1.p,.int v9.1.q.n,.own 4 0 (v9.1.q.src.map eI).length,.own 5 0 (v9.1.q.tgt.map eI).length,.own 6 0 (v9.1.dims.map eI).length,.own 7 0 (v9.1.maps.map eM).length],.own 8 0 (v9.2.1.map eM).length,.bl v9.2.2]) (nb:=[(4,⟨1,cY (v9.1.q.src.map eI)⟩),(5,⟨1,cY (v9.1.q.tgt.map eI)⟩),(6,⟨1,cY (v9.1.dims.map eI)⟩),(7,⟨3,cY (v9.1.maps.map eM)⟩),(8,⟨3,cY (v9.2.1.map eM)⟩)]) (aOJ a0 v8 v9 hv9) k (by rfl) k k (dV (cB aS (cB aS (cB (cX.good _) (cB (cX.good _) (cB (cX.good _) (cB (bU.good _) qF)))))) (dV (bU.good _) (dV aS uL))) (aH (dI k) (cC k aI))) (v':= .tuple [.agg [.int v9.1.p,.int v9.1.q.n,.own 4 0 v9.1.q.src.length,.own 5 0 v9.1.q.tgt.length,.own 6 0 v9.1.dims.length,.own 7 0 v9.1.maps.length],.own 8 0 v9.2.1.length,.bl v9.2.2]) (ed':=[(4,some ⟨1,v9.1.q.src.map (ow eI)⟩),(5,some ⟨1,v9.1.q.tgt.map (ow eI)⟩),(6,some ⟨1,v9.1.dims.map (ow eI)⟩),(7,some ⟨3,v9.1.maps.map (ow eM)⟩),(8,some ⟨3,v9.2.1.map (ow eM)⟩)]) (by simp only [aQ]) (uW (nb':=[(4,⟨1,v9.1.q.src.map (ow eI)⟩),(5,⟨1,v9.1.q.tgt.map (ow eI)⟩),(6,⟨1,v9.1.dims.map (ow eI)⟩),(7,⟨3,v9.1.maps.map (ow eM)⟩),(8,⟨3,v9.2.1.map (ow eM)⟩)]) (by simp only [gU]))) k<|am k k<|ae (bW k k (by intro _ h;cases h)) k<|ae (bW k k (by intro _ h;cases h)) k<|ae (bW k k (by intro _ h;cases h)) k<|ae (bP aJ k k) k<|ae (ws k) k<|aa k k<|aa k k<|an<|lB (by kernel_rfl)<|tn<|sQ<|aP eG<|lp k8<|am k k<|am k k<|oB h λv10 hv10 h=>ae (xo hv10 k) k ?_;refine ae (wp hv10 k) k<|oB h λv11 hv11 h=>ae (AEff.conv (jK (x:= .tuple [.agg [.int v11.1.p,.int v11.1.q.n,.own 10 0 (v11.1.q.src.map eI).length,.own 11 0 (v11.1.q.tgt.map eI).length,.own 12 0 (v11.1.dims.map eI).length,.own 13 0 (v11.1.maps.map eM).length],.own 14 0 (v11.2.1.map eM).length,.bl v11.2.2]) (nb:=[(10,⟨1,cY (v11.1.q.src.map eI)⟩),(11,⟨1,cY (v11.1.q.tgt.map eI)⟩),(12,⟨1,cY (v11.1.dims.map eI)⟩),(13,⟨3,cY (v11.1.maps.map eM)⟩),(14,⟨3,cY (v11.2.1.map eM)⟩)]) (aIT a0 v10 v11 hv11) k (by rfl) k k (dV (cB aS (cB aS (cB (cX.good _) (cB (cX.good _) (cB (cX.good _) (cB (bU.good _) qF)))))) (dV (bU.good _) (dV aS uL))) (aH (dI k) (cC k aI))) (v':= .tuple [.agg [.int v11.1.p,.int v11.1.q.n,.own 10 0 v11.1.q.src.length,.own 11 0 v11.1.q.tgt.length,.own 12 0 v11.1.dims.length,.own 13 0 v11.1.maps.length],.own 14 0 v11.2.1.length,.bl v11.2.2]) (ed':=[(10,some ⟨1,v11.1.q.src.map (ow eI)⟩),(11,some ⟨1,v11.1.q.tgt.map (ow eI)⟩),(12,some ⟨1,v11.1.dims.map (ow eI)⟩),(13,some ⟨3,v11.1.maps.map (ow eM)⟩),(14,some ⟨3,v11.2.1.map (ow eM)⟩)]) (by simp only [aQ]) (uW (nb':=[(10,⟨1,v11.1.q.src.map (ow eI)⟩),(11,⟨1,v11.1.q.tgt.map (ow eI)⟩),(12,⟨1,v11.1.dims.map (ow eI)⟩),(13,⟨3,v11.1.maps.map (ow eM)⟩),(14,⟨3,v11.2.1.map (ow eM)⟩)]) (by simp only [gU]))) k<|am k k<|ae (bW k k (by intro _ h;cases h)) k<|ae (bW k k (by intro _ h;cases h)) k<|ae (bW k k (by intro _ h;cases h)) k<|ae (bP aJ k k) k<|ae (ws k) k<|aa k k<|aa k k<|an<|lB (by kernel_rfl)<|tn<|aL (t:=mN [(3,.ptr 0 0 0),(4,.ptr 1 0 0),(5,.ptr 2 0 0),(7,.own 3 0 v5.1.length),(9,.int x1.1),(10,.int x1.2),(11,.ptr 9 0 0),(14,.ptr 15 0 0)] [(0,⟨6,[eR a0]⟩),(1,⟨6,[eR a1]⟩),(2,⟨6,[eR a2]⟩),(3,⟨1,v5.1.map (dL 2 eS)⟩),(4,⟨1,v9.1.q.src.map (ow eI)⟩),(5,⟨1,v9.1.q.tgt.map (ow eI)⟩),(6,⟨1,v9.1.dims.map (ow eI)⟩),(7,⟨3,v9.1.maps.map (ow eM)⟩),(9,⟨6,[oRp v9.1 4 5 6 7]⟩),(10,⟨1,v11.1.q.src.map (ow eI)⟩),(11,⟨1,v11.1.q.tgt.map (ow eI)⟩),(12,⟨1,v11.1.dims.map (ow eI)⟩),(13,⟨3,v11.1.maps.map (ow eM)⟩),(15,⟨6,[oRp v11.1 10 11 12 13]⟩)] 16) (bT (bJ k2) (bA k<|bA k<|bA k<|cE (bZ.plainE _) k<|bG k<|bG k<|bG k<|cE (bU.plainO _) k<|cP k<|bG k<|bG k<|bG k<|cE (bU.plainO _) k<|cP k<|aS) k4)<|sR<|lp k8<|lp k8<|oB h λv12 hv12 h=>ae (aO (aCg v9.1 a2 v12 hv12) k (aH (vaR k8) (aH (dI k) aI))) k<|aT k2<|sR<|lp k8<|lp k8<|oB h λv13 hv13 h=>ae (aO (aCg v11.1 a1 v13 hv13) k (aH (vaR k8) (aH (dI k) aI))) k<|aT k2 ?_;exact sQ<|sR<|am k k<|cm k4<|am k k<|mG h (λq14 h=>aM 72 k q14<|aK k4<|pk k3<|an<|tn<|cW k k<|sR<|aT k2<|aD<|aE<|bF<|aE<|aE<|sp h ⟨_,k,k,bK k k k (aAI k)⟩) λq14 h=>aM 72 k q14<|am k k<|cm k4<|pk k3<|an<|tn<|cV k h (λ_ h=>sR<|aT k2<|aD<|aE<|bF<|aE<|aE<|sp h ⟨_,k,k,bK k k k (aAI k)⟩) λ_ h=>aG<|tn<|rg<|am k k<|am k k<|am k k<|ae (fC k k) k<|ae (bB k k) k<|aa k k<|an<|aU<|tn<|rg<|am k k<|ae (bB k k) k<|aT k2<|sp h ⟨_,k,(bT (bJ k2) (bA k<|bA k<|bA k<|cE (bZ.plainE _) k<|aS) k4)⟩
 ·intro e t hX;rcases y16 with y17|y18
  ·obtain ⟨rfl,hent⟩:=hX;exact aN<|tn<|aL hent<|sR<|am k k<|aT k2<|aD<|qD h k2
  ·obtain ⟨rfl,hent⟩:=hX;exact bF<|aE<|sp h hent
def qO (a0:Rp) (a1:Rp) (a2:Rp):Option Bool:=
 (aBB a0 1048576).bind λv1=>
 bif decide (v1<0) then
 (some (true))
 else
 ((aBB a1 v1).bind λv3=>
 bif decide (v3<0) then
 (some (true))
 else
 ((aBB a2 v3).bind λv5=>
 bif decide (v5<0) then
 (some (true))
 else
 ((iS a0).bind λv7=>
 (iS a1).bind λv8=>
 (iS a2).bind λv9=>
 (vS v7 v8 v9).bind λv10=>
 (iS a0).bind λv11=>
 (iS a1).bind λv12=>
 (iS a2).bind λv13=>
 (vN v11 v12 v13).bind λv14=>
 bif !decide (v14=v10) then
 (some (false))
 else
 ((iS a0).bind λv16=>
 (wY v11 v16).bind λv17=>
 bif !v17 then
 (some (false))
 else
 ((iS a1).bind λv19=>
 (wY v12 v19).bind λv20=>
 bif !v20 then
 (some (false))
 else
 ((iS a2).bind λv22=>
 (wY v13 v22).bind λv23=>
 bif !v23 then
 (some (false))
 else
 (some (true))))))))
theorem aEb (a0:Rp) (a1:Rp) (a2:Rp) (r:Bool) (h:qO a0 a1 a2=some r):HasC Tryz.prog 12 [.agg (eR a0),.agg (eR a1),.agg (eR a2)] (.bl r):=by
 refine hM [.tmp 6] Tryz.func12 Tryz.ntmps12 k<|sR<|ae (wb k) k<|ae (wb k) k<|ae (wb k) k<|aT k2<|sR<|aT k2<|sR<|lp k8<|am k k<|oB h λv1 hv1 h=>ae (aO (aFO a0 1048576 v1 hv1) k (aH (dI k) (cC k aI))) k<|aT k2<|sQ<|sR<|am k k<|cm k4<|an<|tn<|cV k h (λ_ h=>sR<|aT k2<|aD<|aE<|gJ h k2) λ_ h=>?_;refine aG<|tn<|sR<|lp k8<|am k k<|oB h λv3 hv3 h=>ae (aO (aFO a1 v1 v3 hv3) k (aH (dI k) (cC k aI))) k<|aT k2<|sQ<|sR<|am k k<|cm k4<|an<|tn<|cV k h (λ_ h=>sR<|aT k2<|aD<|aE<|gJ h k2) λ_ h=>?_;refine aG<|tn<|sR<|lp k8<|am k k<|oB h λv5 hv5 h=>ae (aO (aFO a2 v3 v5 hv5) k (aH (dI k) (cC k aI))) k<|aT k2<|sQ<|sR<|am k k<|cm k4<|an<|tn<|cV k h (λ_ h=>sR<|aT k2<|aL (t:=mN [(6,.bl true)] [] 3) (bT (bJ k2) aS k4)<|aD<|aE<|gJ h k2) λ_ h=>?_;refine aG<|tn<|sQ<|aP eG<|lp k8<|oB h λv7 hv7 h=>ae (cR (mX a0 v7 hv7) k3 (aH (dI k) aI)) k<|lp k8<|oB h λv8 hv8 h=>ae (cR (mX a1 v8 hv8) k3 (aH (dI k) aI)) k<|lp k8<|oB h λv9 hv9 h=>ae (cR (mX a2 v9 hv9) k3 (aH (dI k) aI)) k<|oB h λv10 hv10 h=>ae (aO (aJf v7 v8 v9 v10 hv10) k (aH (vaR k8) (aH (vaR k8) (aH (vaR k8) aI)))) k<|aa k k<|an<|lB (by kernel_rfl)<|tn<|aL (t:=mN [(3,.ptr 0 0 0),(4,.ptr 1 0 0),(5,.ptr 2 0 0),(8,.int v10)] [(0,⟨6,[eR a0]⟩),(1,⟨6,[eR a1]⟩),(2,⟨6,[eR a2]⟩)] 15) (bT (bJ k2) (bA k<|bA k<|bA k<|aS) k4)<|sR<|lp k8<|oB h λv11 hv11 h=>ae (cR (mX a0 v11 hv11) k3 (aH (dI k) aI)) k ?_;refine ae (bP aJ k k) k<|ae (ws k) k<|an<|tn<|sR<|lp k8<|oB h λv12 hv12 h=>ae (cR (mX a1 v12 hv12) k3 (aH (dI k) aI)) k<|ae (bP aJ k k) k<|ae (ws k) k<|an<|tn<|sR<|lp k8<|oB h λv13 hv13 h=>ae (cR (mX a2 v13 hv13) k3 (aH (dI k) aI)) k<|ae (bP aJ k k) k<|ae (ws k) k<|an<|tn<|sR<|lp k8<|lp k8<|lp k8<|oB h λv14 hv14 h=>ae (aO (aJe v11 v12 v13 v14 hv14) k (aH (vaR k8) (aH (vaR k8) (aH (vaR k8) aI)))) k<|aT k2<|sQ ?_;refine sR<|am k k<|am k k<|cm k4<|an<|tn<|cV k h (λ_ h=>sR<|aT k2<|aD<|aE<|gJ h k2) λ_ h=>?_;exact aG<|tn<|sQ<|sQ<|aP eG<|lp k8<|lp k8<|oB h λv16 hv16 h=>ae (cR (mX a0 v16 hv16) k3 (aH (dI k) aI)) k<|oB h λv17 hv17 h=>ae (aO (aFP v11 v16 v17 hv17) k (aH (vaR k8) (aH (vaR k8) aI))) k<|ae (dD k) k<|an<|lB (by kernel_rfl)<|tn<|aL (t:=mN [(4,.ptr 1 0 0),(5,.ptr 2 0 0),(10,.ptr 24 0 0),(11,.ptr 29 0 0),(52,.bl (!v17))] [(1,⟨6,[eR a1]⟩),(2,⟨6,[eR a2]⟩),(20,⟨1,v12.q.src.map (ow eI)⟩),(21,⟨1,v12.q.tgt.map (ow eI)⟩),(22,⟨1,v12.dims.map (ow eI)⟩),(23,⟨3,v12.maps.map (ow eM)⟩),(24,⟨6,[oRp v12 20 21 22 23]⟩),(25,⟨1,v13.q.src.map (ow eI)⟩),(26,⟨1,v13.q.tgt.map (ow eI)⟩),(27,⟨1,v13.dims.map (ow eI)⟩),(28,⟨3,v13.maps.map (ow eM)⟩),(29,⟨6,[oRp v13 25 26 27 28]⟩)] 34) (bT (bJ k2) (bA k<|bA k<|bG k<|bG k<|bG k<|cE (bU.plainO _) k<|cP k<|bG k<|bG k<|bG k<|cE (bU.plainO _) k<|cP k<|aS) k4)<|cV k h (λ_ h=>sR<|aT k2<|aD<|aE<|gJ h k2) λ_ h=>aG<|tn<|sQ<|sQ<|aP eG<|lp k8<|lp k8<|oB h λv19 hv19 h=>ae (cR (mX a1 v19 hv19) k3 (aH (dI k) aI)) k<|oB h λv20 hv20 h=>ae (aO (aFP v12 v19 v20 hv20) k (aH (vaR k8) (aH (vaR k8) aI))) k<|ae (dD k) k<|an<|lB (by kernel_rfl)<|tn<|cV k h (λ_ h=>sR<|aT k2<|aD<|aE<|gJ h k2) λ_ h=>aG<|tn<|sQ<|sQ<|aP eG<|lp k8<|lp k8<|oB h λv22 hv22 h=>ae (cR (mX a2 v22 hv22) k3 (aH (dI k) aI)) k<|oB h λv23 hv23 h=>ae (aO (aFP v13 v22 v23 hv23) k (aH (vaR k8) (aH (vaR k8) aI))) k<|ae (dD k) k<|an<|lB (by kernel_rfl)<|tn<|cV k h (λ_ h=>sR<|aT k2<|aD<|aE<|gJ h k2) λ_ h=>aG<|tn<|sR<|aT k2<|aD<|gJ h k2
end
noncomputable section
theorem aXV {p x:Int} (hp:mU p=true) (hx:0≤x∧x<p):(wr (p - x)).tmod p=(-x) % p:=by
 have hb:=fF hp;rw [eY (by omega),Int.tmod_eq_emod_of_nonneg (by omega),show p - x= -x+p*1 by omega,Int.add_mul_emod_self_left]
theorem aQU {p:Int} {m n:Nat} {F:Nat→Nat→Int} (T:Tb p m n F):aCO p ⟨m,n,cD m n F⟩=some (aJs p n (cI p m F n).1 (cI p m F n).2):=by
 have hn:=T.hn;have hN:=T.hN;have hm:=T.hm;have hin:=tQ (by have:=fF T.hp;omega:0<p) T.hi n;have hlen:= @uA p m F n;have hlen2:= @aDc p m F n;have hget:= @aPP p m F n;unfold aCO;rw [aFR T,aB];simp only;generalize (cI p m F n).1=R at*;generalize (cI p m F n).2=L at*;rw [aTV hn (by omega),aB];have hfl:=aSD n L;rw [cZ (s:=(([]:List (List Int)),(0:Int))) (r:=aJs p n R L) (λk=>(((aCT n L).take k).map λk=>aHN p n R L k L.length,(k:Int))) (aCT n L).length (by rfl) (λk hk=>?_) (λ_=>?_),aB]
 ·have hf:=aSE (List.getElem_mem hk);have ef:(aCT n L)[k]?.getD 0=(aCT n L)[k]:=by rw [gI hk];rfl
  unfold xK;simp only;rw [fD,iO hk,aR,aNb hk,aB,ef,bH (by omega),bH (by omega:(n:Int)≤1048576),Bool.and_self,aR,eX,eX,dS (by simp;exact hf),aB];rw [cZ (r:=aHN p n R L (aCT n L)[k] L.length) (λi=>(aHN p n R L (aCT n L)[k] i,(i:Int))) L.length (by rfl) (λi hi=>?_) (λ_=>?_),aB]
  ·rw [bH (by simp only [dU,List.length_take];omega),aR,cA hk (by omega),aXU (f:=λk=>aHN p n R L k L.length) hk]
  ·have him:i<m:=by omega
   have b1:=hin i _ him hf;have hv:=hget hi;unfold xJ;simp only;rw [fD,iO hi,aR,aNb hi,aB,aKp hN hm him,aB,xX hN him,aBD hN hm him];simp only [eX,Nat.add_sub_cancel_left];rw [bH (by omega),bH (by omega),Bool.and_self,aR,Nat.zero_add,nQ R him hf,aB,aVA T.hp,aR,dS (by rw [aEm];exact hv),aB,aXV T.hp b1,cA hi (by omega)];rfl
  ·unfold xJ;simp only;rw [fD,jU (bN _),aZ]
 ·unfold xK;simp only;rw [fD,jU (bN _),aZ,List.take_length];rfl
def gD (a b:Rp) (g:Nat→Int):List Mt:=(List.range a.dims.length).map λv=>(⟨dN b v,dN a v,eP (lV a b v) λy=>g (off (lV a b) v+y)⟩:Mt)
def vAt (x:List Int):Nat→Int:=λk=>x[k]?.getD 0
theorem aXW {l:Nat→Nat} {x:List Int} {k:Nat} (h:x.length=off l k):x=cat l (λv y=>vAt x (off l v+y)) k:=
 aFW h λi y hi hy=>by
  have:=pD hi hy;unfold vAt;rw [gI (by omega),iA]
theorem aSG {a b:Rp} {f g:Nat→Int} (h: ∀ k,k<nV a b→f k=g k):gD a b f=gD a b g:=by
 unfold gD;refine rF λv hv=>?_;congr 1;exact qL λy hy=>h _ (pD (List.mem_range.1 hv) hy)
theorem aYg {n:Nat} {g:Nat→Int} {k:Nat} (h:k<n):vAt (eP n g) k=g k:=by simp [vAt,eP,h]
theorem aXX {a b:Rp} (h:Fit a b) {x:List Int} (hx:x.length=nV a b):uE ((List.range a.dims.length).map λv=>(⟨dN b v,dN a v,cD (dN b v) (dN a v) λ_ _=>0⟩:Mt)) x=some (gD a b (vAt x)):=by
 have n5:=h.ra.n5;have bV:=h.offV (bN _);have:=aRa (k:=a.dims.length) (l:=lV a b) (r:=λv=>(dN b v:Int)) (c:=λv=>(dN a v:Int)) (z:=λv=>cD (dN b v) (dN a v) λ_ _=>0) (f:=λv y=>vAt x (off (lV a b) v+y)) (by omega) (by omega) (λv _=>eN _ _ _);rw [←aXW hx] at this;exact this
theorem aSH {a b:Rp} (h:Fit a b) {x:List Int} (hx:x.length=nV a b):mI a b x=some (gD a b (vAt x)):=by
 have n5:=h.ra.n5;have bV:=h.offV (bN _);have hV:nV a b≤80:=bV
 have e0: ∀ v,v<a.dims.length→(x.drop (off (lV a b) v)).take (lV a b v)=eP (lV a b v) λy=>vAt x (off (lV a b) v+y):=λv hv=>by
  have h1:=aRZ (l:=lV a b) (f:=λv y=>vAt x (off (lV a b) v+y)) hv;rw [←aXW hx] at h1;exact h1
 unfold mI;rw [cZ (r:=gD a b (vAt x)) (λk=>((List.range k).map (λv=>(⟨dN b v,dN a v,eP (lV a b v) λy=>vAt x (off (lV a b) v+y)⟩:Mt)),((off (lV a b) k:Nat):Int),(k:Int))) a.dims.length (by simp [off]) (λk hk=>?_) (λ_=>?_),aB]
 ·have hkb:k<b.dims.length:=by rw [h.ne];exact hk
  have ho:= @aFV (lV a b) (k+1) a.dims.length hk;have e:off (lV a b) (k+1)=off (lV a b) k+lV a b k:=rfl;unfold kP;simp only
  rw [iO hk,aR,iN 0 hk,aB,iN 0 hkb,aB,aB,aB,(h.ra.d k hk).1,(h.rb.d k hkb).1,h.lA hk,eY (x:=((off (lV a b) k:Nat):Int)+((lV a b k:Nat):Int)) (by omega),hx,
   bH (by omega),bH (by omega:((off (lV a b) k:Nat):Int)≤((off (lV a b) k:Nat):Int)+((lV a b k:Nat):Int)),bH (by unfold nV;omega:((off (lV a b) k:Nat):Int)+((lV a b k:Nat):Int)≤((nV a b:Nat):Int)),Bool.and_self,Bool.and_self,aR,
   show (((off (lV a b) k:Nat):Int)+((lV a b k:Nat):Int)).toNat - ((off (lV a b) k:Nat):Int).toNat=lV a b k by omega,eX,e0 k hk]
  have q2:decide (((List.range k).map λv=>(⟨dN b v,dN a v,eP (lV a b v) λy=>vAt x (off (lV a b) v+y)⟩:Mt)).length +1≤4294967296)=true:=bH (by simp only [dU,List.length_range];omega);have q1:decide (([]:List Int).length +(eP (lV a b k) λy=>vAt x (off (lV a b) k+y)).length ≤4294967296)=true:=bH (by rw [dM];simp only [List.length_nil];omega);rw [q1,aR,q2,aR,List.nil_append,cA hk (by omega),aBI (f:=λv=>(⟨dN b v,dN a v,eP (lV a b v) λy=>vAt x (off (lV a b) v+y)⟩:Mt)),e];simp
 ·unfold kP;simp only;rw [jU (bN _),aZ];rfl
theorem aYy {α β:Type} {l:List α} {f:α→β} {body:List β×Int→Option ((List β×Int) ⊕ List β)} (hl:l.length≤4611686018427387904)
  (hs: ∀ (k:Nat) (hk:k<l.length) (o:List β),o.length=k→body (o,k)=some (.inl (o++[f l[k]],wr (k+1)))) (he: ∀ o,body (o,l.length)=some (.inr o)):Lp body ([],0)=some (l.map f):=by
 rw [cZ (r:=l.map f) (λk=>((l.take k).map f,(k:Int))) l.length (by simp) (λk hk=>?_) (λ_=>?_)]
 ·rw [hs k hk _ (by simp;omega),cA hk hl,yB hk,List.map_append];rfl
 ·rw [he,List.take_length]
def hmK (a b:Rp):List (List Int):=aJs a.p (nV a b) (cI a.p (nE a b) (mE a b) (nV a b)).1 (cI a.p (nE a b) (mE a b) (nV a b)).2
def hmB (a b:Rp):List (List Mt):=(hmK a b).map λx=>gD a b (vAt x)
theorem aDQ {a b:Rp} (h:Fit a b):(hmK a b).length=fW a b:=aSB h.ra.hp (aPE h)
theorem aQV {a b:Rp} (h:Fit a b) {x:List Int} (hx:x∈hmK a b):x.length=nV a b∧ ∀ z∈x,0≤z∧z<a.p:=by
 unfold hmK aJs at hx;obtain ⟨k,_,rfl⟩:=List.mem_map.1 hx;exact ⟨aEm _ _ _ _ _ _,aTp h.ra.hp _ _ _ _ _⟩
theorem aSJ {a b:Rp} (h:Fit a b):aAC a b=some (hmB a b):=by
 have hl:=aDQ h;have hd:=aFh h;unfold aAC;rw [aJK h,aB,aQU (aUG h),aB];show (Lp (oH a b (hmK a b)) ([],0)).bind _=_;rw [aYy (l:=hmK a b) (f:=λx=>gD a b (vAt x)) (by omega) (λk hk o ho=>?_) (λo=>?_)]
 ·rfl
 ·unfold oH;simp only;rw [iO hk,aR,dS hk,aB,aQE h,aB,aXX h (aQV h (List.getElem_mem hk)).1,aB,bH (by omega),aR]
 ·unfold oH;simp only;rw [jU (bN _),aZ]
theorem aSK {a b:Rp} (ha:bR a) (hb:bR b) (hf:tY a b=true):mJ a b=some (hmB a b,true):=by
 have h:=mT hf;have hl:=aDQ h;have hd:=aFh h;unfold mJ;have hf':=hf;unfold tY at hf';rw [aHF ha hb,aB,hf',eD,aZ,aGf h,aB,aNc (aUG h),aB];show (Lp (iV a b (hmK a b)) ([],0)).bind _=_;rw [aYy (l:=hmK a b) (f:=λx=>gD a b (vAt x)) (by omega) (λk hk o ho=>?_) (λo=>?_)]
 ·rfl
 ·unfold iV;simp only;rw [iO hk,aR,dS hk,aB,aSH h (aQV h (List.getElem_mem hk)).1,aB,bH (by omega),aR]
 ·unfold iV;simp only;rw [jU (bN _),aZ]
def dgN (P n c i:Nat):Nat:=c / P ^ (n - 1 - i) % P
def coF (a b:Rp) (c:Nat):Nat→Int:=λk=>sN (λi=>(dgN a.p.toNat (fW a b) c i:Int)*cO (hmK a b) i k) (fW a b) % a.p
theorem aJg {p:Int} (hp:mU p=true):((p.toNat:Nat):Int)=p∧2≤p.toNat∧p.toNat≤5:=by have:=fF hp;omega
theorem aYz {p:Int} (hp:mU p=true) (n c i:Nat):0≤(dgN p.toNat n c i:Int)∧(dgN p.toNat n c i:Int)<p:=by
 have:=aJg hp;have h:=Nat.mod_lt (c / p.toNat ^ (n - 1 - i)) (show p.toNat>0 by omega);unfold dgN;omega
theorem aUS {a b:Rp} (h:Fit a b) {i k:Nat} (hi:i<fW a b) (hk:k<nV a b):0≤cO (hmK a b) i k∧cO (hmK a b) i k<a.p:=by
 have hl:=aDQ h;have hm:=aQV h (List.getElem_mem (show i<(hmK a b).length by omega));have e:(hmK a b)[i]?.getD []=(hmK a b)[i]'(by omega):=by rw [gI (by omega),iA]
 unfold cO;rw [e,gI (by omega),iA];exact hm.2 _ (List.getElem_mem _)
theorem aSL {l:List (List Int)} {i:Nat} (hi:i<l.length):vAt l[i]=cO l i:=by
 funext k;unfold vAt cO;rw [gI hi,iA]
theorem aUT {a b:Rp} (h:Fit a b) {i:Nat} (hi:i<fW a b):cJ (hmB a b) (i:Int)=some (gD a b (cO (hmK a b) i)):=by
 have hl:=aDQ h;unfold hmB;rw [dS (by rw [dU];omega),List.getElem_map,aSL (by omega)]
theorem aTX {p:Int} (hp:mU p=true) {n c:Nat} (hn:n≤100) (hc:c≤1000000):aAD p (n:Int) (c:Int)=some (eP n λi=>(dgN p.toNat n c i:Int)):=by
 obtain ⟨e,e2,e5⟩:=aJg hp;unfold aAD;rw [bH (by omega),bH (by omega:(n:Int)≤1048576),Bool.and_self,aR,eX];rw [cZ (r:=eP n λi=>(dgN p.toNat n c i:Int)) (λt=>(((c / p.toNat ^ t:Nat):Int),eP n (λi=>if n - t≤i then (dgN p.toNat n c i:Int) else 0),(n:Int) - 1 - t)) n ?_ (λt ht=>?_) (λ_=>?_),aB]
 ·rw [eY (by omega),aKI];simp only [Nat.pow_zero,Nat.div_one,Nat.sub_zero];congr 2
  ·exact qL λj hj=>by rw [aX (by omega)]
  ·omega
 ·have ei:(n:Int) - 1 - (t:Int)=((n - 1 - t:Nat):Int):=by omega
  have hq:c / p.toNat ^ t≤c:=Nat.div_le_self _ _;have hq2:c / p.toNat ^ (t+1)≤c:=Nat.div_le_self _ _;unfold tK;simp only;rw [ei,bH (by omega),aR,aVA hp,aR,aDK _ (by omega),aB,aR,eX,Int.tmod_eq_emod_of_nonneg (Int.natCast_nonneg _),Int.tdiv_eq_ediv_of_nonneg (Int.natCast_nonneg _),aMx (by omega)]
  have e3:((c / p.toNat ^ t:Nat):Int) / p=((c / p.toNat ^ (t+1):Nat):Int):=by
   rw [Nat.pow_succ,←Nat.div_div_eq_div_mul];generalize c / p.toNat ^ t=q;rw [Int.natCast_ediv,e]
  have e4:((c / p.toNat ^ t:Nat):Int) % p=(dgN p.toNat n c (n - 1 - t):Int):=by
   unfold dgN;rw [show n - 1 - (n - 1 - t)=t by omega,Int.natCast_emod,e]
  rw [e3,e4,eY ⟨Int.le_trans (by decide) (Int.natCast_nonneg _),Int.le_trans (Int.ofNat_le.2 (Nat.le_trans hq2 hc)) (by decide)⟩,eY (by omega)];congr 4
  ·refine qL λj hj=>?_;by_cases e6:j=n - 1 - t
   ·rw [aV e6,aV (by omega),e6]
   ·rw [aX e6];by_cases e7:n - t≤j
    ·rw [aV e7,aV (by omega)]
    ·rw [aX e7,aX (by omega)]
  ·omega
 ·unfold tK;simp only;rw [dF (by omega),aZ];congr 2;exact qL λj hj=>by rw [aV (by omega)]
def paF (a b:Rp) (c t:Nat):Nat→Int:=λk=>sN (λi=>(dgN a.p.toNat (fW a b) c i:Int)*cO (hmK a b) i k) t % a.p
theorem aNg {α:Type} (n k:Nat) (f:Nat→α) (v:α):((List.range n).map f).set k v=(List.range n).map λi=>if i=k then v else f i:=by
 refine List.ext_getElem (by simp) λt h1 h2=>?_;rw [List.getElem_set,List.getElem_map,List.getElem_map,List.getElem_range];by_cases e:k=t
 ·rw [aV e,aV e.symm]
 ·rw [aX e,aX λh=>e h.symm]
theorem aPS (n:Nat) (f:Nat→Int):cD 1 n (λ_=>f)=eP n f:=by
 unfold cD eP;rw [Nat.one_mul];refine rF λy hy=>?_;rw [Nat.mod_eq_of_lt (List.mem_range.1 hy)]
theorem aVd {p:Int} (hp:mU p=true) {n:Nat} (hn:n≤1048576) {f g:Nat→Int} {k:Int} (hk:0≤k∧k≤5) (hf: ∀ b,b<n→0≤f b∧f b<p) (hg: ∀ b,b<n→0≤g b∧g b<p):
  eO p (eP n f) 0 n k (eP n g)=some (eP n λb=>(f b+k*g b) % p):=by
 have:=aJD (r:=1) (i:=0) hp hn (by omega) (F:=λ_=>f) hk hf hg;rw [Nat.zero_mul,aPS] at this;rw [this];congr 1;rw [←aPS];exact cH λi j hi hj=>by simp only [aLN];rw [aV (by omega)]
theorem aTY {a b:Rp} (h:Fit a b) {c:Nat} (hc:c≤1000000):aAE a b (hmB a b) (c:Int)=some (gD a b (coF a b c)):=by
 have hl:=aDQ h;have hd:=aFh h;have hp:=fF h.ra.hp;have n5:=h.ra.n5;have bV:=h.offV (bN _);have hV:nV a b≤80:=bV;unfold aAE;have el:((hmB a b).length:Int)=(fW a b:Int):=by unfold hmB;rw [dU,hl]
 rw [el,aTX h.ra.hp (by omega) hc,aB];unfold aCz;rw [aQE h,aB];rw [cZ (r:=gD a b (coF a b c)) (λi=>(gD a b (paF a b c i),(i:Int))) (fW a b) ?_ (λi hi=>?_) (λ_=>?_),aB,aB]
 ·unfold gD paF;congr 1
 ·have hdg:=aYz h.ra.hp (fW a b) c i;unfold tM;simp only;rw [show decide ((i:Int)<((hmB a b).length:Int))=true from bH (by rw [el];omega),aR,aUT h hi,aB];rw [cZ (r:=gD a b (paF a b c (i+1))) (λv=>((List.range a.dims.length).map λw=>(⟨dN b w,dN a w,eP (lV a b w) λy=>paF a b c (if w<v then i+1 else i) (off (lV a b) w+y)⟩:Mt),(v:Int))) a.dims.length ?_ (λv hv=>?_) (λ_=>?_),aB,cA hi (by omega)]
  ·congr 1
  ·have hlv:=h.lV hv;have hov: ∀ y,y<lV a b v→off (lV a b) v+y<nV a b:=λy hy=>pD hv hy;unfold tL;simp only;rw [show decide ((v:Int)<((gD a b (cO (hmK a b) i)).length:Int))=true from bH (by unfold gD;simp;exact hv),aR];rw [show cJ (gD a b (cO (hmK a b) i)) (v:Int)=some (⟨dN b v,dN a v,eP (lV a b v) λy=>cO (hmK a b) i (off (lV a b) v+y)⟩:Mt) from xE hv,aB,xE hv,aB,aDK _ hi,aB];simp only;rw [dM,aX (Nat.lt_irrefl _),aVd (f:=λy=>paF a b c i (off (lV a b) v+y)) h.ra.hp (by omega) (by omega) (λy hy=>wZ h.ra.hp) (λy hy=>aUS h hi (hov y hy)),aB,dM,bH rfl,aR,eX,aNg,cA hv (by omega)];congr 3;refine rF λw hw=>?_;by_cases e:w=v
   ·subst e;rw [aV rfl,aV (by omega)];congr 1;refine qL λy hy=>?_;unfold paF;rw [sN,Int.emod_add_emod]
   ·rw [aX e];by_cases e2:w<v
    ·rw [aV e2,aV (by omega)]
    ·rw [aX e2,aX (by omega)]
  ·unfold tL;simp only;rw [show decide ((a.dims.length:Int)<((gD a b (cO (hmK a b) i)).length:Int))=false from dF (by unfold gD;simp),aZ];congr 2;unfold gD;refine rF λw hw=>?_;rw [aV (List.mem_range.1 hw)]
 ·unfold tM;simp only;rw [show decide ((fW a b:Int)<((hmB a b).length:Int))=false from dF (by rw [el];omega),aZ];rfl
theorem aUU (g:Nat→Int): ∀ n,sN g (n+1)=g 0+sN (λs=>g (s+1)) n
 |0=>by simp [sN]
 |n+1=>by rw [sN,aUU g n,sN];omega
theorem aXY: ∀ (n:Nat) (f:Nat→Int),sN (λs=>f (n - 1 - s)) n=sN f n
 |0,_=>rfl
 |n+1,f=>by
  have e:sN (λs=>f (n+1 - 1 - (s+1))) n=sN (λs=>f (n - 1 - s)) n:=gW λs hs=>by rw [show n+1 - 1 - (s+1)=n - 1 - s by omega]
  rw [aUU,e,aXY n f,sN,show n+1 - 1 - 0=n by omega];omega
theorem aVe {a b:Rp} (h:Fit a b) (g:Nat→Int):aBZ (gD a b g)=some (eP (nV a b) g):=by
 have n5:=h.ra.n5;have bV:=h.offV (bN _);unfold aBZ;rw [cZ (r:=eP (nV a b) g) (λk=>(cat (lV a b) (λv y=>g (off (lV a b) v+y)) k,(k:Int))) a.dims.length (by rfl) (λk hk=>?_) (λ_=>?_),aB]
 ·have h1:= @aFV (lV a b) (k+1) a.dims.length hk;have e:off (lV a b) (k+1)=off (lV a b) k+lV a b k:=rfl;unfold vO;simp only;rw [show decide ((k:Int)<((gD a b g).length:Int))=true from bH (by unfold gD;simp;exact hk),aR,show cJ (gD a b g) (k:Int)=some (⟨dN b k,dN a k,eP (lV a b k) λy=>g (off (lV a b) k+y)⟩:Mt) from xE hk,aB];simp only;rw [jR,dM,bH (by omega),aR,cA hk (by omega)];rfl
 ·unfold vO;simp only;rw [show decide ((a.dims.length:Int)<((gD a b g).length:Int))=false from dF (by unfold gD;simp),aZ];congr 2;refine (aFW (dM _ _) λi y hi hy=>?_).symm;have hx:off (lV a b) i+y<off (lV a b) a.dims.length:=pD hi hy;unfold eP;rw [List.getElem?_map,List.getElem?_range hx];rfl
def suF (a b:Rp) (c t:Nat):Nat→Int:=λk=>sN (λs=>(dgN a.p.toNat (fW a b) c (fW a b - 1 - s):Int)*cO (hmK a b) (fW a b - 1 - s) k) t % a.p
theorem aYi (a b:Rp) (c k:Nat):suF a b c (fW a b) k=coF a b c k:=by
 unfold suF coF;rw [aXY (fW a b) λi=>(dgN a.p.toNat (fW a b) c i:Int)*cO (hmK a b) i k]
theorem aNh {a b:Rp} (h:Fit a b) {c:Nat} (hc:c≤1000000):nO a b (hmB a b) (c:Int)=some (gD a b (coF a b c)):=by
 have hl:=aDQ h;have hd:=aFh h;have hp:=fF h.ra.hp;obtain ⟨ep,ep2,ep5⟩:=aJg h.ra.hp;have n5:=h.ra.n5;have bV:=h.offV (bN _);have hV:nV a b≤80:=bV;have el:((hmB a b).length:Int)=(fW a b:Int):=by unfold hmB;rw [dU,hl]
 unfold nO;rw [aPQ h,aB,bH (by omega),bH (by omega:((nV a b:Nat):Int)≤1048576),Bool.and_self,aR,el,eX];rw [cZ (r:=eP (nV a b) (coF a b c)) (λt=>(((c / a.p.toNat ^ t:Nat):Int),eP (nV a b) (suF a b c t),(fW a b:Int) - 1 - t)) (fW a b) ?_ (λt ht=>?_) (λ_=>?_),aB,aSH h (dM _ _),aB]
 ·congr 1;exact aSG λk hk=>aYg hk
 ·rw [eY (by omega),aKI];simp only [Nat.pow_zero,Nat.div_one];congr 2;omega
 ·have ei:(fW a b:Int) - 1 - (t:Int)=((fW a b - 1 - t:Nat):Int):=by omega
  have hi:fW a b - 1 - t<fW a b:=by omega
  have hq2:c / a.p.toNat ^ (t+1)≤c:=Nat.div_le_self _ _
  have hD:((c / a.p.toNat ^ t:Nat):Int).tmod a.p=(dgN a.p.toNat (fW a b) c (fW a b - 1 - t):Int):=by
   rw [Int.tmod_eq_emod_of_nonneg (Int.natCast_nonneg _)];unfold dgN;rw [show fW a b - 1 - (fW a b - 1 - t)=t by omega,Int.natCast_emod,ep]
  have e3:((c / a.p.toNat ^ t:Nat):Int).tdiv a.p=((c / a.p.toNat ^ (t+1):Nat):Int):=by
   rw [Int.tdiv_eq_ediv_of_nonneg (Int.natCast_nonneg _),Nat.pow_succ,←Nat.div_div_eq_div_mul];generalize c / a.p.toNat ^ t=q;rw [Int.natCast_ediv,ep]
  have hdg:=aYz h.ra.hp (fW a b) c (fW a b - 1 - t);unfold rE;simp only;rw [ei,bH (by omega),aR,aVA h.ra.hp,aR,aR,aUT h hi,aB,aVe h,aB];rw [cZ (r:=eP (nV a b) (suF a b c (t+1))) (λj=>(eP (nV a b) (λk=>if k<j then suF a b c (t+1) k else suF a b c t k),(j:Int))) (nV a b) ?_ (λj hj=>?_) (λ_=>?_),aB,e3,eY ⟨Int.le_trans (by decide) (Int.natCast_nonneg _),Int.le_trans (Int.ofNat_le.2 (Nat.le_trans hq2 hc)) (by decide)⟩,eY (by omega)]
  ·congr 4;omega
  ·congr 1
  ·have hr:=aUS h hi hj;have hs:0≤suF a b c t j∧suF a b c t j<a.p:=wZ h.ra.hp;have hm:=aNx (a:=(dgN a.p.toNat (fW a b) c (fW a b - 1 - t):Int)) (b:=cO (hmK a b) (fW a b - 1 - t) j) (by omega) (by omega);unfold rD;simp only;rw [dM,iO hj,aR,aDK _ hj,aB,aDK _ hj,aB,hD];rw [aX (Nat.lt_irrefl _)];generalize hM:(dgN a.p.toNat (fW a b) c (fW a b - 1 - t):Int)*cO (hmK a b) (fW a b - 1 - t) j=M at*;rw [eY (x:=M) (by omega),eY (by omega),aDJ h.ra.hp (by omega),aB,aB,eX,aMx hj,cA hj (by omega)];congr 3;refine qL λk hk=>?_;by_cases e:k=j
   ·subst e;rw [aV rfl,aV (by omega)];unfold suF;rw [sN,Int.emod_add_emod,hM]
   ·rw [aX e];by_cases e2:k<j
    ·rw [aV e2,aV (by omega)]
    ·rw [aX e2,aX (by omega)]
  ·unfold rD;simp only;rw [dM,jU (bN _),aZ];congr 2;exact qL λk hk=>by rw [aV hk]
 ·unfold rE;simp only;rw [dF (by omega),aZ];congr 2;exact qL λk hk=>aYi a b c k
def gM (a b:Rp) (g:Nat→Int) (v:Nat):Nat→Nat→Int:=λr k=>g (off (lV a b) v+(r*dN a v+k))
theorem aHL (a b:Rp) (g:Nat→Int):gD a b g=(List.range a.dims.length).map λv=>(⟨dN b v,dN a v,cD (dN b v) (dN a v) (gM a b g v)⟩:Mt):=by
 unfold gD;refine rF λv hv=>?_;congr 1;exact aWv λy hy=>by unfold gM;rw [aCb]
def rkL (a b:Rp) (g:Nat→Int):List Int:=(List.range a.dims.length).map λv=>(rkF a.p (dN b v) (dN a v) (gM a b g v):Int)
def InG (a b:Rp) (g:Nat→Int):Prop:= ∀ k,k<nV a b→0≤g k∧g k<a.p
theorem InG.inP {a b:Rp} {g:Nat→Int} (hg:InG a b g) {v:Nat} (hv:v<a.dims.length):InP a.p (dN b v) (dN a v) (gM a b g v):=λr k hr hk=>hg _ (pD hv (aEF hr hk))
theorem aUV {a b:Rp} (h:Fit a b) (c:Nat):InG a b (coF a b c):=λk _=>wZ h.ra.hp
theorem aYj {a b:Rp} (h:Fit a b) {g:Nat→Int} (hg:InG a b g):aDP a.p (gD a b g)=some (rkL a b g):=by
 have n5:=h.ra.n5;rw [aHL];unfold aDP;rw [cZ (s:=(([]:List Int),(0:Int))) (r:=rkL a b g) (λk=>((List.range k).map (λv=>(rkF a.p (dN b v) (dN a v) (gM a b g v):Int)),(k:Int))) a.dims.length (by rfl) (λk hk=>?_) (λ_=>?_),aB]
 ·have hkb:k<b.dims.length:=by rw [h.ne];exact hk
  have d1:=(h.ra.d k hk).2;have d2:=(h.rb.d k hkb).2;have T:Tb a.p (dN b k) (dN a k) (gM a b g k):=⟨h.ra.hp,sq d2 d1,by omega,by omega,hg.inP hk⟩;unfold aAF;simp only;rw [dU,List.length_range,iO hk,aR,xE hk,aB,aMw T,aB,bH (by simp;omega),aR,cA hk (by omega),←aBI (f:=λv=>(rkF a.p (dN b v) (dN a v) (gM a b g v):Int))];rfl
 ·unfold aAF;simp only;rw [dU,List.length_range,jU (bN _),aZ];rfl
theorem aYk {a b:Rp} (ha:bR a) (h:Fit a b) (he:a.dims=b.dims) {g:Nat→Int} (hg:InG a b g):vM a b (gD a b g)=some (decide (rkL a b g=a.dims)):=by
 have n5:=h.ra.n5;unfold vM;rw [aDT ha.2.1,aB,bH he,aR,aYj h hg,aB,aDT (by unfold bI rkL;simp;omega),aB]
theorem aLw (c x:Nat→Int) (u:Nat→Nat→Int) (N:Nat): ∀ n,sN (λt=>c t*sN (λq=>x q*u q t) N) n=sN (λq=>x q*sN (λt=>c t*u q t) n) N
 |0=>by
  rw [gW (f:=λq=>x q*sN (λt=>c t*u q t) 0) (g:=λ_=>0) (n:=N) λq _=>by simp [sN],aAq];rfl
 |n+1=>by
  rw [sN,aLw c x u N n,←aMU,←aMT];refine gW λq _=>?_;rw [sN,Int.mul_add,Int.mul_left_comm (c n)]
theorem aUW {p:Int} {n:Nat} {f x y:Nat→Int} (h: ∀ k,k<n→x k % p=y k % p):dt n f x % p=dt n f y % p:=by
 unfold dt;refine aTq λk hk=>?_;rw [Int.mul_emod,h k hk,←Int.mul_emod]
theorem aXZ {p:Int} {f:Nat→Int} : ∀ {n:Nat},(∀ k,k<n→Z0 p (f k))→Z0 p (sN f n)
 |0,_=>by unfold Z0;simp [sN]
 |n+1,h=>aSi (aXZ λk hk=>h k (by omega)) (h n (by omega))
theorem aUX {p:Int} {m n:Nat} {F:Nat→Nat→Int} {L:List Nat} (h:Red m n F L) {k:Nat} (hk:k<n) (hL: ∀ i,i<L.length→L[i]?.getD 0≠k): ∀ t,t≤L.length→ ∀ c,c<n→vAt (aHN p n F L k t) c % p=(if c=k then 1 else -(sN (λi=>if L[i]?.getD 0=c then F i k else 0) t)) % p
 |0,_,c,hc=>by
  unfold aHN vAt;rw [List.getElem?_set,List.length_replicate];by_cases e:c=k
  ·rw [aV e.symm,aV hk,aV e];rfl
  ·rw [aX λh=>e h.symm,aX e];simp [hc,sN]
 |t+1,ht,c,hc=>by
  have ih:=aUX (p:=p) h hk hL t (by omega) c hc;have hlt:=h.lt t (by omega);have hne:=hL t (by omega);unfold aHN vAt;rw [List.getElem?_set,aEm];by_cases e:L[t]?.getD 0=c
  ·rw [aV e,aV (by omega),iA,Int.emod_emod_of_dvd _ (Int.dvd_refl p),aX (by omega),sN,aV e];rw [gW (g:=λ_=>0) λi hi=>?_,aAq,Int.zero_add];rw [aX];intro e2;have:=h.inc i t hi (by omega);omega
  ·rw [aX e];refine ih.trans ?_;rw [sN,aX e,Int.add_zero]
theorem aZm {p:Int} (hp:mU p=true) {m n:Nat} {F:Nat→Nat→Int} (hi:InP p m n F) {x:List Int} (hx:x∈aJs p n (cI p m F n).1 (cI p m F n).2):Kr p m n F (vAt x):=by
 have hR:=aGF hp hi n (bN _);unfold aJs at hx;obtain ⟨k,hk,rfl⟩:=List.mem_map.1 hx;have hk1:=aSE hk
 have hL: ∀ i,i<(cI p m F n).2.length→(cI p m F n).2[i]?.getD 0≠k:=by
  intro i hi e;have h2:=(List.mem_filter.1 hk).2;have h3:k∈(cI p m F n).2:=by rw [←e];exact fL 0 hi
  simp [h3] at h2
 refine (aGr hp hi _ n (bN _)).1 λi him=>?_;have h1:=aMW (p:=p) hR hk1 hL i him;refine aMV (aUW λc hc=>?_) h1;exact (aUX hR hk1 hL _ (bN _) c hc).symm
theorem bAX {a b:Rp} (h:Fit a b) (c:Nat):Kr a.p (nE a b) (nV a b) (mE a b) (coF a b c):=by
 intro i hi
 have e1:dt (nV a b) (mE a b i) (coF a b c) % a.p=dt (nV a b) (mE a b i) (λk=>sN (λj=>(dgN a.p.toNat (fW a b) c j:Int)*cO (hmK a b) j k) (fW a b)) % a.p:=
  aUW λk hk=>by unfold coF;exact Int.emod_emod_of_dvd _ (Int.dvd_refl _)
 refine aMV e1.symm ?_;unfold dt;rw [aLw (mE a b i) (λj=>(dgN a.p.toNat (fW a b) c j:Int)) (cO (hmK a b)) (fW a b) (nV a b)];refine aXZ λj hj=>aJt _ ?_;have hl:=aDQ h;have hm:=aZm h.ra.hp (aPE h) (List.getElem_mem (show j<(hmK a b).length by omega)) i hi;rw [aSL (by omega)] at hm;exact hm
def uU (a b:Rp) (q:Nat):Nat→Nat→Nat→Int:=λv j l=>if off (lV a b) v+(j*dN a v+l)=q then 1 else 0
def dP (a b:Rp) (P:Nat→Nat→Nat→Int) (i r k:Nat):Int:=aDi (aF b i) (P (sV a i)) r k (dN b (sV a i)) - aDi (P (tV a i)) (aF a i) r k (dN a (tV a i))
theorem aZn {a b:Rp} (P:Nat→Nat→Nat→Int) (i r k:Nat):aND a b P i r k=dP a b P i r k % a.p:=by
 unfold aND dP aBd;generalize aDi (aF b i) (P (sV a i)) r k (dN b (sV a i))=x;generalize aDi (P (tV a i)) (aF a i) r k (dN a (tV a i))=y;rw [show x % a.p+(a.p - 1)*(y % a.p)=(x % a.p - y % a.p)+a.p*(y % a.p) by rw [Int.sub_mul];omega,Int.add_mul_emod_self_left];exact (Int.sub_emod x y a.p).symm
theorem aXa {a b:Rp} (x:Nat→Int) {v j l:Nat} (hv:v<a.dims.length) (hj:j<dN b v) (hl:l<dN a v):gM a b x v j l=sN (λq=>x q*uU a b q v j l) (nV a b):=by
 rw [aFL (n:=nV a b) (j:=off (lV a b) v+(j*dN a v+l)) (pD hv (aEF hj hl))]
 ·unfold uU gM;rw [aV rfl,Int.mul_one]
 ·intro q _ hq;unfold uU;rw [aX λe=>hq e.symm,Int.mul_zero]
section
variable {a b:Rp} (h:Fit a b) {i r k:Nat} (hi:i<a.q.src.length) (hr:r<dN b (tV a i)) (hk:k<dN a (sV a i))
include h hi hr hk
theorem aZo (x:Nat→Int):dP a b (gM a b x) i r k=sN (λq=>x q*dP a b (uU a b q) i r k) (nV a b):=by
 have hs:=(h.ra.s i hi).2;have ht:=(h.ra.t i hi).2;unfold dP;simp only [aFX]
 have e1:sN (λt=>aF b i r t*gM a b x (sV a i) t k) (dN b (sV a i))=sN (λq=>x q*sN (λt=>aF b i r t*uU a b q (sV a i) t k) (dN b (sV a i))) (nV a b):=by
  rw [←aLw (aF b i r) x (λq t=>uU a b q (sV a i) t k)];exact gW λt ht2=>by rw [aXa x hs ht2 hk]
 have e2:sN (λt=>gM a b x (tV a i) r t*aF a i t k) (dN a (tV a i))=sN (λq=>x q*sN (λt=>uU a b q (tV a i) r t*aF a i t k) (dN a (tV a i))) (nV a b):=by
  have:=aLw (λt=>aF a i t k) x (λq t=>uU a b q (tV a i) r t) (nV a b) (dN a (tV a i));rw [gW (f:=λt=>gM a b x (tV a i) r t*aF a i t k) (g:=λt=>aF a i t k*sN (λq=>x q*uU a b q (tV a i) r t) (nV a b)) λt ht2=>by rw [aXa x ht hr ht2,Int.mul_comm],this];exact gW λq _=>by rw [gW λt _=>Int.mul_comm _ _]
 rw [e1,e2];have e3: ∀ f g:Nat→Int,sN f (nV a b) - sN g (nV a b)=sN (λq=>f q+(-1)*g q) (nV a b):=λf g=>by rw [aMT,aMU];omega
 rw [e3];exact gW λq _=>by rw [Int.mul_sub];omega
theorem aYl {q:Nat} (hq:q<nV a b):dP a b (uU a b q) i r k % a.p=mE a b (off (lE a b) i+(r*dN a (sV a i)+k)) q:=by
 obtain ⟨v0,z0,hv0,hz0,ek⟩:=aHI hq;have hs:=(h.ra.s i hi).2;have ht:=(h.ra.t i hi).2;have hc:=aRb h hv0 hz0 hi hr hk;have hy:r*dN a (sV a i)+k<lE a b i:=aEF hr hk
 have e: ∀ v j l,v<a.dims.length→j<dN b v→l<dN a v→uU a b q v j l=unP a v0 z0 v j l:=by
  intro v j l hv hj hl;unfold uU unP;rw [ek];by_cases e1:off (lV a b) v+(j*dN a v+l)=off (lV a b) v0+z0
  ·rw [aV e1];have:=aUF (l:=lV a b) (aEF hj hl) hz0 e1;rw [aV this]
  ·rw [aX e1,aX];rintro ⟨rfl,rfl⟩;exact e1 rfl
 have e2:dP a b (uU a b q) i r k=dP a b (unP a v0 z0) i r k:=by
  unfold dP;simp only [aFX];rw [gW λt ht2=>by rw [e _ t k hs ht2 hk],gW (f:=λt=>uU a b q (tV a i) r t*aF a i t k) λt ht2=>by rw [e _ r t ht hr ht2]]
 rw [e2,←aZn,hc];unfold mE;rw [sP _ hi hy,iA,ek,sP _ hv0 hz0,iA];unfold Proofs.YtghechfdejhapaaGreat.e2;rw [aDZ hk,aDa hk]
theorem bAY (c:Nat):aBd a.p (dN b (sV a i)) (aF b i) (gM a b (coF a b c) (sV a i)) r k=aBd a.p (dN a (tV a i)) (gM a b (coF a b c) (tV a i)) (aF a i) r k:=by
 have h1:=aZo h hi hr hk (coF a b c);have h2:=bAX h c (off (lE a b) i+(r*dN a (sV a i)+k)) (pD hi (aEF hr hk))
 have h3:dP a b (gM a b (coF a b c)) i r k % a.p=0:=by
  rw [h1];refine (aTq (g:=λq=>mE a b (off (lE a b) i+(r*dN a (sV a i)+k)) q*coF a b c q) λq hq=>?_).trans h2;rw [Int.mul_emod,aYl h hi hr hk hq,Int.mul_comm (mE _ _ _ _),Int.mul_emod (coF a b c q) (mE a b _ q)];congr 2;exact (Int.emod_eq_of_lt (aPE h _ _ (pD hi (aEF hr hk)) hq).1 (aPE h _ _ (pD hi (aEF hr hk)) hq).2).symm
 unfold aBd;exact Int.emod_eq_emod_iff_emod_sub_eq_zero.2 h3
end
theorem aVf {m:Mt} (h:bI m.cells):pO m m=some true:=by
 unfold bI at h;unfold pO;rw [bH rfl,bH rfl,bH rfl];simp only [eD,aZ];rw [xW (n:=m.cells.length) (λ_=>true) false (by omega) (λk hk=>?_) (λ_=>?_),aB]
 ·rw [show (List.range m.cells.length).all (λ_=>true)=true by simp];rfl
 ·unfold lZ;rw [iO hk,aR,dS hk,aB,aB,bH rfl];rfl
 ·unfold lZ;rw [jU (bN _),aZ]
theorem aVg {p:Int} (hp:mU p=true) {r c:Nat} (hr:r≤8) (hc:c≤8) {F:Nat→Nat→Int} (hF:InP p r c F):aCn p ⟨r,c,cD r c F⟩=true:=by
 have hb:=fF hp;have h:=Nat.mul_le_mul hr hc;unfold aCn;simp only [eN];rw [xV (by omega) (by omega),xV (by omega) (by omega),aLB (by omega),bH (by omega),hp,bH (by omega)];simp only [Bool.true_and,List.all_eq_true];intro x hx;obtain ⟨t,ht,rfl⟩:=List.mem_map.1 hx;have ht:=List.mem_range.1 ht
 have hc0:0<c:=by
  rcases Nat.eq_zero_or_pos c with h0|h0
  ·subst h0;simp at ht
  ·exact h0
 have:=hF (t / c) (t % c) ((Nat.div_lt_iff_lt_mul hc0).2 ht) (Nat.mod_lt _ hc0);refine xV this.1 ?_;rw [eY (by omega)];omega
section
variable {a b:Rp} (ha:bR a) (hb:bR b) (hf:tY a b=true)
include ha hb hf
theorem aVh {g:Nat→Int} (hg:InG a b g):tN a b (gD a b g)=some true:=by
 have h:=mT hf;have n5:=h.ra.n5;have hf':=hf;unfold tY at hf';have hlen:(gD a b g).length=a.dims.length:=by simp [gD]
 unfold tN;rw [aHF ha hb,aB,hf',eD,aZ,bH (by omega),eD,aZ];rw [xW (n:=a.dims.length) (λ_=>true) false (by omega) (λv hv=>?_) (λ_=>?_),aB]
 ·rw [show (List.range a.dims.length).all (λ_=>true)=true by simp];rfl
 ·have hvb:v<b.dims.length:=by rw [h.ne];exact hv
  have d1:=(h.ra.d v hv);have d2:=(h.rb.d v hvb);have m4:=Nat.mul_le_mul d2.2 d1.2;unfold oZ;rw [hlen,iO hv,aR,aHL,xE hv,aB,aEr _ ⟨by unfold bI;simp only;rw [eN];omega,trivial⟩,aVg h.ra.hp (by omega) (by omega) (hg.inP hv),aB,eD,aZ,aB,iN 0 hv,aB,d1.1,bH rfl,eD,aZ,aB,iN 0 hvb,aB,d2.1,bH rfl];rfl
 ·unfold oZ;rw [hlen,jU (bN _),aZ]
theorem aPT (c:Nat):mB a b (gD a b (coF a b c))=some true:=by
 have h:=mT hf;have e6:=h.ra.e6;unfold mB;rw [aVh ha hb hf (aUV h c),aB,eD,aZ];rw [xW (n:=a.maps.length) (λ_=>true) false (by have:=h.ra.ml;omega) (λi hi=>?_) (λ_=>?_),aB]
 ·rw [show (List.range a.maps.length).all (λ_=>true)=true by simp];rfl
 ·have hi':i<a.q.src.length:=by have:=h.ra.ml;omega
  have hib:i<b.q.src.length:=by rw [h.qe];exact hi'
  obtain ⟨s1,s2⟩:=h.ra.s i hi';obtain ⟨t1,t2⟩:=h.ra.t i hi';have s3:sV a i<b.dims.length:=by rw [h.ne];exact s2
  have t3:tV a i<b.dims.length:=by rw [h.ne];exact t2
  obtain ⟨m1,m2⟩:=h.ra.m i hi';obtain ⟨g1,g2⟩:=h.rb.m i hib;rw [h.sV,h.tV] at g1 g2;rw [h.pe] at g2;have da:=h.ra.d _ s2;have da2:=h.ra.d _ t2;have db:=h.rb.d _ s3;have db2:=h.rb.d _ t3;have hin:=aUV h c
  have e:cD (dN b (tV a i)) (dN a (sV a i)) (aBd a.p (dN b (sV a i)) (aF b i) (gM a b (coF a b c) (sV a i)))=cD (dN b (tV a i)) (dN a (sV a i)) (aBd a.p (dN a (tV a i)) (gM a b (coF a b c) (tV a i)) (aF a i)):=
   cH λr k hr hk=>bAY h hi' hr hk c
  have m4:=Nat.mul_le_mul db2.2 da.2;unfold qA;rw [iO hi,aR,aHL,iN ⟨0,0,[]⟩ (by rw [h.rb.ml];exact hib),aB,g1,iN 0 hi',aB,s1,xE s2,aB,xA h.ra.hp (sq db2.2 db.2) (sq db.2 da.2) (sq db2.2 da.2) (by omega) (by omega) (by omega) g2 (hin.inP s2),aB,iN 0 (by have:=h.ra.tl;omega),aB,t1,xE t2,aB,iN ⟨0,0,[]⟩ hi,aB,m1,xA h.ra.hp (sq db2.2 da2.2) (sq da2.2 da.2) (sq db2.2 da.2) (by omega) (by omega) (by omega) (hin.inP t2) m2,aB,e,aVf (by unfold bI;simp only;rw [eN];omega),aB];rfl
 ·unfold qA;rw [jU (bN _),aZ]
theorem aVi (c:Nat):qC a b (gD a b (coF a b c))=some (rkL a b (coF a b c)):=by
 have h:=mT hf;have n5:=h.ra.n5;have hM:=aPT ha hb hf c;have hlen:(gD a b (coF a b c)).length=a.dims.length:=by simp [gD]
 unfold qC;rw [cZ (r:=rkL a b (coF a b c)) (λk=>((List.range k).map (λv=>(rkF a.p (dN b v) (dN a v) (gM a b (coF a b c) v):Int)),(k:Int))) a.dims.length (by rfl) (λk hk=>?_) (λ_=>?_),aB]
 ·have hkb:k<b.dims.length:=by rw [h.ne];exact hk
  have d1:=(h.ra.d k hk).2;have d2:=(h.rb.d k hkb).2;unfold qB;simp only;rw [hlen,iO hk,aR,hM,aB,aR,aHL,xE hk,aB,aWi h.ra.hp (by omega) (by omega) ((aUV h c).inP hk),aB,bH (by simp;omega),aR,cA hk (by omega),←aBI (f:=λv=>(rkF a.p (dN b v) (dN a v) (gM a b (coF a b c) v):Int))]
 ·unfold qB;simp only;rw [hlen,jU (bN _),aZ];rfl
theorem aQW (he:a.dims=b.dims) (c:Nat):jC a b (gD a b (coF a b c))=some (decide (rkL a b (coF a b c)=a.dims)):=by
 have h:=mT hf;have n5:=h.ra.n5;have hM:=aPT ha hb hf c;have hR:=aVi ha hb hf c;have hbi:bI (rkL a b (coF a b c)):=by unfold bI rkL;simp;omega
 unfold jC aAf yA;rw [hM,aB,aR,hR,aB,aGO hbi,aB,aB,aB,aR,aB,aGO hbi,aB,aB,←he];cases decide (rkL a b (coF a b c)=a.dims) <;> rfl
end
def aFj (a b:Rp) (c:Nat):Bool:=decide (rkL a b (coF a b c)=a.dims)
def aTa (a b:Rp) (n:Nat):Option (List Mt):=(List.range' 0 (n - 0)).findSome? λc=>bif aFj a b c then some (gD a b (coF a b c)) else none
def cnH (P:Nat):Nat→Nat
 |0=>1
 |k+1=>if cnH P k≤100000 then cnH P k*P else cnH P k
theorem aQX {P:Nat} (h5:P≤5): ∀ k,cnH P k≤500000
 |0=>by simp [cnH]
 |k+1=>by
  unfold cnH;split
  ·rename_i h;exact Nat.le_trans (Nat.mul_le_mul h h5) (by decide)
  ·exact aQX h5 k
theorem aNi {P:Nat} : ∀ {k n:Nat},k≤n→100000<cnH P k→cnH P n=cnH P k
 |k,0,h,_=>by rw [show k=0 by omega]
 |k,n+1,h,g=>by
  rcases dZ n k with h'|h'
  ·rw [show k=n+1 by omega]
  ·have ih:=aNi h' g;show (if cnH P n≤100000 then cnH P n*P else cnH P n)=_;rw [aX (by omega),ih]
theorem aKw {p:Int} (hp:mU p=true) {n:Nat} (hn:n≤1000):rU p (n:Int)=some (cnH p.toNat n:Int):=by
 obtain ⟨e,e2,e5⟩:=aJg hp
 have key: ∀ d k,k+d=n→Lp (jT p (n:Int)) ((cnH p.toNat k:Int),(k:Int))=some (cnH p.toNat n:Int):=by
  intro d;induction d with
  |zero=>
   intro k hk;rw [Nat.add_zero] at hk;subst hk;refine qQ ?_;unfold jT;simp only;rw [jU (bN _),aZ]
  |succ d ih=>
   intro k hk;have hb:=aQX e5 k;by_cases h:cnH p.toNat k≤100000
   ·rw [←ih (k+1) (by omega)];refine aDE ?_;unfold jT;simp only;rw [iO (by omega),aR,bH (by omega),aR]
    have e3:wr ((cnH p.toNat k:Int)*p)=(cnH p.toNat (k+1):Int):=by
     rw [show cnH p.toNat (k+1)=cnH p.toNat k*p.toNat from aV h,Int.natCast_mul,e];have:=aQX e5 (k+1);rw [show cnH p.toNat (k+1)=cnH p.toNat k*p.toNat from aV h] at this;have h2:((cnH p.toNat k*p.toNat:Nat):Int)=(cnH p.toNat k:Int)*p:=by rw [Int.natCast_mul,e]
     rw [eY (by rw [←h2];omega)]
    rw [e3,cA (show k<n by omega) (by omega)]
   ·rw [aNi (show k≤n by omega) (by omega)];refine qQ ?_;unfold jT;simp only;rw [iO (by omega),aR,dF (by omega),aZ]
 unfold rU;have h0:=key n 0 (by omega);rw [show ((cnH p.toNat 0:Nat):Int)=1 from rfl,show ((0:Nat):Int)=0 from rfl] at h0;rw [h0,aB]
def cmI (a b:Rp):Int:=if cnH a.p.toNat (fW a b)≤100000 then (cnH a.p.toNat (fW a b):Int) else -2
theorem aQY {a b:Rp} (ha:bR a) (hb:bR b) (hf:tY a b=true):pA a b=some (cmI a b):=by
 have h:=mT hf;have hd:=aFh h;obtain ⟨e,e2,e5⟩:=aJg h.ra.hp
 have key: ∀ d k,k+d=fW a b→cnH a.p.toNat k≤100000→Lp (gP a (fW a b:Int)) ((cnH a.p.toNat k:Int),(k:Int))=some (if cnH a.p.toNat (fW a b)≤100000 then .inl (cnH a.p.toNat (fW a b):Int) else .inr (-2)):=by
  intro d;induction d with
  |zero=>
   intro k hk h1;rw [Nat.add_zero] at hk;rw [←hk,aV h1];refine qQ ?_;unfold gP;simp only;rw [jU (bN _),aZ]
  |succ d ih=>
   intro k hk h1;have hb:=aQX e5 (k+1);have e4:cnH a.p.toNat (k+1)=cnH a.p.toNat k*a.p.toNat:=aV h1;have h2:((cnH a.p.toNat (k+1):Nat):Int)=(cnH a.p.toNat k:Int)*a.p:=by rw [e4,Int.natCast_mul,e]
   have e3:wr ((cnH a.p.toNat k:Int)*a.p)=(cnH a.p.toNat (k+1):Int):=by rw [←h2,eY (by omega)]
   by_cases h3:cnH a.p.toNat (k+1)≤100000
   ·rw [←ih (k+1) (by omega) h3];refine aDE ?_;unfold gP;simp only;rw [iO (by omega),aR,e3,dF (by omega),aZ,cA (show k<fW a b by omega) (by omega)]
   ·rw [aX (by rw [aNi (show k+1≤fW a b by omega) (by omega)];exact h3)];refine qQ ?_;unfold gP;simp only;rw [iO (by omega),aR,e3,bH (by omega),aR]
 unfold pA;rw [aEx ha hb,aB];unfold hdI;rw [aV hf,dF (by omega),aZ];have h0:=key (fW a b) 0 (by omega) (by simp [cnH]);rw [show ((cnH a.p.toNat 0:Nat):Int)=1 from rfl,show ((0:Nat):Int)=0 from rfl] at h0;rw [h0,aB];unfold cmI;by_cases h3:cnH a.p.toNat (fW a b)≤100000
 ·rw [aV h3,aV h3];rfl
 ·rw [aX h3,aX h3];rfl
def aBi (a b:Rp):Nat:=min (cnH a.p.toNat (fW a b)) 3000
def aXb (a b:Rp):List Mt×Bool:=match aTa a b (aBi a b) with|some f=>(f,true)|none=>([],false)
theorem aVj {a b:Rp} (ha:bR a) (hf:tY a b=true) (he:a.dims=b.dims):nG a b (hmB a b)=some (aXb a b):=by
 have h:=mT hf;have hl:=aDQ h;have hd:=aFh h;have el:((hmB a b).length:Int)=(fW a b:Int):=by unfold hmB;rw [dU,hl]
 unfold nG;rw [el,aKw h.ra.hp (by omega),aB];have em:min ((cnH a.p.toNat (fW a b):Nat):Int) 3000=((aBi a b:Nat):Int):=by unfold aBi;omega
 have ht:aBi a b≤3000:=Nat.min_le_right _ _;rw [aAi (s0:=0) (s:=0) (n:=aBi a b) (λc=>bif aFj a b c then some (gD a b (coF a b c),true) else none) rfl (by omega) (Nat.zero_le _) (λc _ hc=>?_) (λ_=>?_),aB]
 ·unfold aXb aTa
  have key: ∀ l:List Nat,l.findSome? (λc=>bif aFj a b c then some (gD a b (coF a b c),true) else none)=(l.findSome? λc=>bif aFj a b c then some (gD a b (coF a b c)) else none).map λf=>(f,true):=by
   intro l;induction l with
   |nil=>rfl
   |cons c l ih=>
    rw [List.findSome?_cons,List.findSome?_cons];cases aFj a b c with
    |true=>rfl
    |false=>exact ih
  rw [key];cases (List.range' 0 (aBi a b - 0)).findSome? λc=>bif aFj a b c then some (gD a b (coF a b c)) else none <;> rfl
 ·unfold kE;rw [em,iO hc,aR,aTY h (by omega),aB,aYk ha h he (aUV h c),aB];unfold aFj;cases decide (rkL a b (coF a b c)=a.dims) <;> rfl
 ·unfold kE;rw [em,jU (bN _),aZ]
theorem bAZ {a b:Rp} (ha:bR a) (hb:bR b) (hf:tY a b=true) (he:a.dims=b.dims):aBb a b=some (match aTa a b (aBi a b) with|some f=>(f,true,true)|none=>([],false,decide (cnH a.p.toNat (fW a b)≤3000))):=by
 have h:=mT hf;have ht:aBi a b≤3000:=Nat.min_le_right _ _
 have key: ∀ l:List Nat,l.findSome? (λc=>bif aFj a b c then some (gD a b (coF a b c),true,true) else none)=(l.findSome? λc=>bif aFj a b c then some (gD a b (coF a b c)) else none).map λf=>(f,true,true):=by
  intro l;induction l with
  |nil=>rfl
  |cons c l ih=>
   rw [List.findSome?_cons,List.findSome?_cons];cases aFj a b c with
   |true=>rfl
   |false=>exact ih
 unfold aBb;rw [aSK ha hb hf,aB,aQY ha hb hf,aB];unfold cmI;by_cases h1:cnH a.p.toNat (fW a b)≤100000
 ·rw [aV h1,dF (by omega),aZ];by_cases h3:cnH a.p.toNat (fW a b)≤3000
  ·have et:aBi a b=cnH a.p.toNat (fW a b):=Nat.min_eq_left h3;rw [dF (by omega),aZ];rw [aAi (s0:=0) (s:=0) (n:=aBi a b) (λc=>bif aFj a b c then some (gD a b (coF a b c),true,true) else none) rfl (by omega) (Nat.zero_le _) (λc _ hc=>?_) (λ_=>?_),aB,key]
   ·unfold aTa;rw [bH h3];cases (List.range' 0 (aBi a b - 0)).findSome? λc=>bif aFj a b c then some (gD a b (coF a b c)) else none with
    |none=>simp
    |some f=>rfl
   ·unfold vR;rw [←et,iO hc,aR];simp only;rw [aNh h (by omega),aB,aQW ha hb hf he c,aB];unfold aFj;cases decide (rkL a b (coF a b c)=a.dims) <;> rfl
   ·unfold vR;rw [←et,jU (bN _),aZ]
  ·have et:aBi a b=3000:=Nat.min_eq_right (by omega);rw [bH (by omega),aR];rw [aAi (s0:=0) (s:=0) (n:=aBi a b) (λc=>bif aFj a b c then some (gD a b (coF a b c),true,true) else none) rfl (by omega) (Nat.zero_le _) (λc _ hc=>?_) (λ_=>?_),aB,key]
   ·unfold aTa;rw [dF h3];cases (List.range' 0 (aBi a b - 0)).findSome? λc=>bif aFj a b c then some (gD a b (coF a b c)) else none with
    |none=>simp;omega
    |some f=>rfl
   ·unfold vQ;rw [bH (by omega),aR];simp only;rw [aNh h (by omega),aB,aQW ha hb hf he c,aB];unfold aFj;cases decide (rkL a b (coF a b c)=a.dims) <;> rfl
   ·unfold vQ;rw [et,dF (by omega),aZ]
 ·have et:aBi a b=3000:=Nat.min_eq_right (by omega);rw [aX h1,bH (by omega),aR];rw [aAi (s0:=0) (s:=0) (n:=aBi a b) (λc=>bif aFj a b c then some (gD a b (coF a b c),true,true) else none) rfl (by omega) (Nat.zero_le _) (λc _ hc=>?_) (λ_=>?_),aB,key]
  ·unfold aTa;rw [dF (by omega: ¬ cnH a.p.toNat (fW a b)≤3000)];cases (List.range' 0 (aBi a b - 0)).findSome? λc=>bif aFj a b c then some (gD a b (coF a b c)) else none with
   |none=>simp
   |some f=>rfl
  ·unfold vP;rw [bH (by omega),aR];simp only;rw [aNh h (by omega),aB,aQW ha hb hf he c,aB];unfold aFj;cases decide (rkL a b (coF a b c)=a.dims) <;> rfl
  ·unfold vP;rw [et,dF (by omega),aZ]
def aTb (a b:Rp):Bool:= !decide (a.dims=b.dims)||(!decide (fW a b=fW a a)||(!decide (fW b a=fW a a)|| !decide (fW b b=fW a a)))
theorem aUY {a b:Rp} (hf:tY a b=true):tY b a=true∧tY a a=true∧tY b b=true:=by
 unfold tY at*;simp only [dA,hZ] at*;exact ⟨⟨hf.2.1,hf.1,hf.2.2.1.symm,hf.2.2.2.symm⟩,⟨hf.1,hf.1,trivial,trivial⟩,hf.2.1,hf.2.1,trivial,trivial⟩
theorem aEz {x y:Nat} :decide ((x:Int)=(y:Int))=decide (x=y):=by
 by_cases h:x=y
 ·rw [bH h,bH (by omega)]
 ·rw [dF h,dF (by omega)]
theorem aXc {a b:Rp} (ha:bR a) (hf:tY a b=true):aCP a b=some (aTb a b):=by
 obtain ⟨f1,f2,f3⟩:=aUY hf;unfold aCP aTb;rw [aDT ha.2.1,aB];by_cases he:a.dims=b.dims
 ·rw [bH he,eD,aZ,aJL (mT f2),aB,aJL (mT hf),aB,aJL (mT f1),aB,aJL (mT f3),aB,aEz,aEz,aEz];cases decide (fW a b=fW a a) <;> cases decide (fW b a=fW a a) <;> rfl
 ·rw [dF he];rfl
def isI (a b:Rp):Int:=if tY a b=true then (if aTb a b=true then 0 else if (aXb a b).2=true then 1 else if cnH a.p.toNat (fW a b)≤3000 then 0 else -1) else -1
theorem aPU {a b:Rp} (ha:bR a) (hb:bR b):lM a b=some (isI a b):=by
 unfold lM isI;rw [aWd ha hb,aB];cases hf:aBC a&&(aBC b&&(decide (a.p=b.p)&&decide (a.q=b.q))) with
 |false=>
  rw [aX (by unfold tY;rw [hf];simp)];rfl
 |true=>
  have hf':tY a b=true:=hf;have h:=mT hf';have hl:=aDQ h;have hd:=aFh h;rw [aV hf',eD,aZ,aXc ha hf',aB];cases hD:aTb a b with
  |true=>rfl
  |false=>
   have he:a.dims=b.dims:=by
    unfold aTb at hD;simp only [Bool.or_eq_false_iff,Bool.not_eq_false',hZ] at hD;exact hD.1
   have el:(((hmB a b).length:Nat):Int)=(fW a b:Int):=by unfold hmB;rw [dU,hl]
   rw [aZ,aSJ h,aB,aVj ha hf' he,aB,el,aKw h.ra.hp (by omega),aB,aX (by simp)];cases (aXb a b).2 with
   |true=>rfl
   |false=>
    rw [aZ,aX (by simp)];by_cases h3:cnH a.p.toNat (fW a b)≤3000
    ·rw [aV h3,bH (by omega)];rfl
    ·rw [aX h3,dF (by omega)];rfl
theorem aPV {a b:Rp} (ha:bR a) (hb:bR b):lP a b=some (isI a b):=by
 unfold lP isI;rw [aHF ha hb,aB];cases hf:aBC a&&(aBC b&&(decide (a.p=b.p)&&decide (a.q=b.q))) with
 |false=>
  rw [aX (by unfold tY;rw [hf];simp)];rfl
 |true=>
  have hf':tY a b=true:=hf;obtain ⟨f1,f2,f3⟩:=aUY hf';have ed: ∀ {x y:Rp},tY x y=true→hdI x y=(fW x y:Int):=λh=>by unfold hdI;rw [aV h]
  rw [aV hf',eD,aZ,aEx ha ha,aB,aGO ha.2.1,aB];by_cases he:a.dims=b.dims
  ·rw [bH he,eD,aZ,aEx ha hb,aB,aEx hb ha,aB,aEx hb hb,aB,ed hf',ed f1,ed f2,ed f3,aEz,aEz,aEz];unfold aTb;rw [bH he];cases decide (fW a b=fW a a) with
   |false=>rfl
   |true=>
    cases decide (fW b a=fW a a) with
    |false=>rfl
    |true=>
     cases decide (fW b b=fW a a) with
     |false=>rfl
     |true=>
      simp only [eD,Bool.or_false,aZ];rw [bAZ ha hb hf' he,aB,aX (by simp)];unfold aXb;cases aTa a b (aBi a b) with
      |some f=>rfl
      |none=>
       simp only [aZ];by_cases h3:cnH a.p.toNat (fW a b)≤3000
       ·rw [aV h3,bH h3];rfl
       ·rw [aX h3,dF h3];rfl
  ·unfold aTb;rw [dF he];rfl
end
noncomputable section
def ldN (s:List Sc) (v j:Nat):Nat:=((ldL (sG s v))[j]?.getD 0).toNat
theorem aZA {r:Rp} {s:List Sc} (T:PartT r s) {v j:Nat} (hv:v<r.dims.length) (hj:j<kN s v):(ldL (sG s v))[j]?.getD 0=(ldN s v j:Int)∧ldN s v j<dN r v:=by
 have:=(T.q v hv).l1 j hj;unfold ldN;omega
def bcF (s:List Sc) (v:Nat):Nat→Nat→Int:=λt b=>cO (sG s v).basis b t
def suW (r:Rp) (s:List Sc) (i:Nat):Nat→Nat→Int:=aBd r.p (dN r (sV r i)) (aF r i) (bcF s (sV r i))
def aVk (r:Rp) (s:List Sc) (i:Nat):Nat→Nat→Int:=λa b=>suW r s i (ldN s (tV r i) a) b
def aTc (r:Rp) (s:List Sc) (i:Nat):Mt:=⟨(kN s (tV r i):Nat),(kN s (sV r i):Nat),cD (kN s (tV r i)) (kN s (sV r i)) (aVk r s i)⟩
def aSM (r:Rp) (s:List Sc):Rp:=⟨r.p,r.q,lL s,(List.range r.maps.length).map (aTc r s)⟩
def inM (x:Sc):Mt:=aVE x.size.toNat x.basis
theorem aZp {r:Rp} {s:List Sc} {i b k:Nat} (hk:k<dN r (tV r i)):(aRn r.p (dN r (tV r i)) (dN r (sV r i)) (aF r i) ((sG s (sV r i)).basis[b]?.getD []))[k]?.getD 0=suW r s i k b:=by
 unfold aRn suW aBd;rw [aFX];unfold eP;rw [List.getElem?_map,List.getElem?_range hk];show aDi _ _ _ _ _ % _=_;rw [aFX];rfl
theorem aEc {r:Rp} {s:List Sc} (T:PartT r s) {v:Nat} (hv:v<r.dims.length):(lL s)[v]?.getD 0=(kN s v:Int)∧kN s v≤dN r v:=by
 have h1:=T.P.len;have h2:=(tF T.P.sub).2.2 v hv;unfold lL;rw [List.getElem?_map,gI (by omega),Option.map_some,iA,aCy];exact ⟨rfl,h2.len⟩
section
variable {r:Rp} {s:List Sc} (hr:bR r) (S:Sm r) (T:PartT r s)
include hr S T
theorem aXd:aCQ r s=some (aSM r s,s.map inM):=by
 have h5:=S.R.n5;have h6:=S.R.e6;have hml:=S.R.ml;have hsl:=T.P.len;unfold aCQ;rw [aVZ (by omega),aB,aPO S.R hr (d:=lL s) (by rw [aNa];exact hsl) (f:=kN s) (λv hv=>⟨(aEc T hv).1,by have:=(aEc T hv).2;have:=S.d v hv;omega⟩),aB];simp only;rw [cZ (r:=(List.range r.maps.length).map (aTc r s)) (λk=>((List.range r.maps.length).map λi=>if i<k then aTc r s i else zeM r (kN s) i,(k:Int))) r.maps.length (by simp) (λi hi=>?_) (λ_=>?_),aB]
 ·rw [cZ (r:=s.map inM) (λk=>((s.take k).map inM,(k:Int))) s.length (by rfl) (λv hv=>?_) (λ_=>?_),aB]
  ·rfl
  ·have hv':v<r.dims.length:=by omega
   have P:=(tF T.P.sub).2.2 v hv';have d1:=S.d _ hv';have l1:=P.len;have e:=aCy hv;unfold xP;simp only;rw [iO hv,aR,dS hv,aB,e,P.size,aWx (by omega) (by omega) (λx hx=>(P.vecs x hx).1),aB,bH (by simp;omega),aR,cA hv (by omega)];rw [yB hv,List.map_append,e];unfold inM;simp only [List.map_cons,List.map_nil,P.size,eX]
  ·unfold xP;simp only;rw [jU (bN _),aZ,List.take_length]
 ·have hi':i<r.q.src.length:=by omega
  have hs:=(S.R.s i hi').2;have ht:=(S.R.t i hi').2;have d1:=S.d _ hs;have d2:=S.d _ ht;have k1:=(aEc T hs).2;have k2:=(aEc T ht).2;obtain ⟨hM,hMi⟩:=S.R.m i hi';have P:=(tF T.P.sub).2.2 _ hs;have hq:Qx r.p (dN r (tV r i)) (kN s (tV r i)) (sG s (tV r i)):=T.q _ ht;have m5:=Nat.mul_le_mul (show kN s (tV r i)≤2 by omega) (show kN s (sV r i)≤2 by omega);unfold xO;simp only;rw [iO hi,aR,iN ⟨0,0,[]⟩ hi,aB,hM,iN 0 (by have:=S.R.tl;omega),aB,(S.R.t i hi').1,iN ⟨0,[]⟩ (by omega),aB,iN 0 hi',aB,(S.R.s i hi').1,iN ⟨0,[]⟩ (by omega),aB];rw [show (s[sV r i]?.getD ⟨0,[]⟩:Sc)=sG s (sV r i) from rfl,show (s[tV r i]?.getD ⟨0,[]⟩:Sc)=sG s (tV r i) from rfl];rw [cZ (r:=(List.range (kN s (sV r i))).map λb=>eP (kN s (tV r i)) λa=>aVk r s i a b) (λk=>((List.range k).map λb=>eP (kN s (tV r i)) λa=>aVk r s i a b,(k:Int))) (kN s (sV r i)) (by rfl) (λb hb=>?_) (λ_=>?_),aB]
  ·rw [show ((sG s (tV r i)).basis.length:Int)=(kN s (tV r i):Nat) from rfl,aCN (by omega) (by omega) (by omega),aB,iN ⟨0,0,[]⟩ (by simpa using hi),aB,cA hi (by omega),eX,yP];congr 3;refine rF λj hj=>?_;by_cases e:j=i
   ·rw [aV e,aV (by omega),e];rfl
   ·rw [aX e];by_cases e2:j<i
    ·rw [aV e2,aV (by omega)]
    ·rw [aX e2,aX (by omega)]
  ·have hb':b<(sG s (sV r i)).basis.length:=hb;have hv:=P.vecs _ (fL (l:=(sG s (sV r i)).basis) [] hb');unfold xN;simp only;rw [iO hb',aR,iN [] hb',aB,aUN S.R.hp (by omega) (by omega) hMi hv.1 hv.2,aB,hq.ld,aB];rw [cZ (r:=eP (kN s (tV r i)) λa=>aVk r s i a b) (λk=>(eP k λa=>aVk r s i a b,(k:Int))) (kN s (tV r i)) (by rfl) (λa ha=>?_) (λ_=>?_),aB]
   ·rw [bH (by simp;omega),aR,cA hb (by omega),←aCe]
   ·obtain ⟨f1,f2⟩:=aZA T ht ha;unfold xM;simp only;rw [hq.ll,iO ha,aR,iN 0 (by rw [hq.ll];exact ha),aB,f1,iN 0 (by unfold aRn;rw [dM];exact f2),aB,aZp f2,bH (by rw [dM];simp;omega),aR,cA ha (by omega)];congr 3;unfold eP;rw [←aCe];rfl
   ·unfold xM;simp only;rw [hq.ll,jU (bN _),aZ]
  ·unfold xN;simp only;rw [show (sG s (sV r i)).basis.length=kN s (sV r i) from rfl,jU (bN _),aZ]
 ·unfold xO;simp only;rw [jU (bN _),aZ];congr 2;exact rF λj hj=>by rw [aV (List.mem_range.1 hj)]
def suB (r:Rp) (s:List Sc) (i:Nat):List Mt:=(List.range r.maps.length).map λk=>if k<i then aTc r s k else zeM r (kN s) k
def suI (r:Rp) (s:List Sc) (i a b:Nat):Mt:=⟨(kN s (tV r i):Nat),(kN s (sV r i):Nat),cD (kN s (tV r i)) (kN s (sV r i)) λx y=>if x<a∨(x=a∧y<b) then aVk r s i x y else 0⟩
theorem aXf:aCR r s=some (aSM r s,s.map inM,true):=by
 have h5:=S.R.n5;have h6:=S.R.e6;have hml:=S.R.ml;have hsl:=T.P.len;unfold aCR;rw [aKW hr ⟨by omega,T.P.b⟩,aB,T.P.sub,eD,aZ];rw [cZ (r:=(lL s,s.map inM)) (λk=>(lL (s.take k),(s.take k).map inM,(k:Int))) s.length (by rfl) (λv hv=>?_) (λ_=>?_),aB]
 ·simp only;rw [aSA S.R hr (d:=lL s) (by rw [aNa];exact hsl) (f:=kN s) (λv hv=>⟨(aEc T hv).1,by have:=(aEc T hv).2;have:=S.d v hv;omega⟩),aB];simp only;rw [cZ (r:=(List.range r.maps.length).map (aTc r s)) (λk=>(suB r s k,(k:Int))) r.maps.length (by simp [suB]) (λi hi=>?_) (λ_=>?_),aB]
  ·rfl
  ·have hi':i<r.q.src.length:=by omega
   have hs:=(S.R.s i hi').2;have ht:=(S.R.t i hi').2;have d1:=S.d _ hs;have d2:=S.d _ ht;have k1:=(aEc T hs).2;have k2:=(aEc T ht).2;obtain ⟨hM,hMi⟩:=S.R.m i hi';have P:=(tF T.P.sub).2.2 _ hs;have hq:Qx r.p (dN r (tV r i)) (kN s (tV r i)) (sG s (tV r i)):=T.q _ ht;have m2:=Nat.mul_le_mul d2 d1;have m4:=Nat.mul_le_mul d1 (show kN s (sV r i)≤2 by omega);have m5:=Nat.mul_le_mul (show kN s (tV r i)≤2 by omega) (show kN s (sV r i)≤2 by omega);have m6:=Nat.mul_le_mul d2 (show kN s (sV r i)≤2 by omega);have hbl:(suB r s i).length=r.maps.length:=by simp [suB]
   have e2:((s.map inM)[sV r i]?.getD ⟨0,0,[]⟩:Mt)=⟨(dN r (sV r i):Nat),(kN s (sV r i):Nat),cD (dN r (sV r i)) (kN s (sV r i)) (bcF s (sV r i))⟩:=by
    rw [List.getElem?_map,gI (by omega),Option.map_some,iA,aCy];unfold inM aVE;rw [P.size,eX];rfl
   have at_i: ∀ M:Mt,cJ ((suB r s i).set i M) (i:Int)=some M:=λM=>by
    rw [dS (by simp;omega)];simp
   unfold xT;simp only;rw [iO hi,aR,iN ⟨0,0,[]⟩ hi,aB,hM,iN 0 hi',aB,(S.R.s i hi').1,iN ⟨0,0,[]⟩ (by simp;omega),aB,e2,xA S.R.hp (by omega) (by omega) (by omega) (by omega) (by omega) (by omega) hMi (show InP r.p (dN r (sV r i)) (kN s (sV r i)) (bcF s (sV r i)) from aYP P.vecs),aB,iN 0 (by have:=S.R.tl;omega),aB,(S.R.t i hi').1,iN ⟨0,[]⟩ (by omega),aB];rw [show (s[tV r i]?.getD ⟨0,[]⟩:Sc)=sG s (tV r i) from rfl,hq.l12,aB];rw [cZ (r:=(suB r s i).set i (suI r s i (kN s (tV r i)) 0)) (λa=>((suB r s i).set i (suI r s i a 0),(a:Int))) (kN s (tV r i)) ?_ (λa ha=>?_) (λ_=>?_),aB]
   ·rw [cA hi (by omega)];congr 3;unfold suB;rw [yP];refine rF λj hj=>?_;by_cases e:j=i
    ·rw [aV e,aV (by omega),e];unfold suI aTc;congr 1;exact cH λx y hx hy=>by rw [aV (by omega)]
    ·rw [aX e];by_cases e2:j<i
     ·rw [aV e2,aV (by omega)]
     ·rw [aX e2,aX (by omega)]
   ·congr 1;unfold suB;rw [yP];refine rF λj hj=>?_;by_cases e:j=i
    ·rw [aV e,aX (by omega),e];unfold suI zeM;congr 1;exact cH λx y hx hy=>by rw [aX (by omega)]
    ·rw [aX e]
   ·obtain ⟨f1,f2⟩:=aZA T ht ha;unfold xS;simp only;rw [at_i,aB,show (suI r s i a 0).rows=(kN s (tV r i):Nat) from rfl,iO ha,aR,eX,List.set_set];rw [cZ (r:=(suB r s i).set i (suI r s i (a+1) 0)) (λb=>((suB r s i).set i (suI r s i a b),(b:Int))) (kN s (sV r i)) (by rfl) (λb hb=>?_) (λ_=>?_),aB,cA ha (by omega)]
    ·unfold xR;simp only;rw [at_i,aB,show (suI r s i a b).cols=(kN s (sV r i):Nat) from rfl,iO hb,aR,eX,List.set_set,at_i,aB,iN 0 (by rw [hq.ll];exact ha),aB,f1,atT (by omega) f2 hb,aB];unfold suI;simp only;rw [atT (by omega) ha hb,aB,aRR (by omega) ha hb,List.set_set,cA hb (by omega)];congr 5;refine cH λx y hx hy=>?_;simp only [aHx];by_cases e:x=a∧y=b
     ·rw [aV e,aV (by omega),e.1,e.2];rfl
     ·rw [aX e];by_cases e2:x<a∨x=a∧y<b
      ·rw [aV e2,aV (by omega)]
      ·rw [aX e2,aX (by omega)]
    ·unfold xR;simp only;rw [at_i,aB,show (suI r s i a (kN s (sV r i))).cols=(kN s (sV r i):Nat) from rfl,jU (bN _),aZ,eX,List.set_set];congr 3;unfold suI;congr 1;refine cH λx y hx hy=>?_;by_cases e2:x<a+1
     ·rw [aV (by omega),aV (by omega)]
     ·rw [aX (by omega),aX (by omega)]
   ·unfold xS;simp only;rw [at_i,aB,show (suI r s i (kN s (tV r i)) 0).rows=(kN s (tV r i):Nat) from rfl,jU (bN _),aZ,eX,List.set_set]
  ·unfold xT;simp only;rw [jU (bN _),aZ];congr 2;exact rF λj hj=>by rw [aV (List.mem_range.1 hj)]
 ·have hv':v<r.dims.length:=by omega
  have P:=(tF T.P.sub).2.2 v hv';have d1:=S.d _ hv';have l1:=P.len;have e:=aCy hv;have m1:=Nat.mul_le_mul d1 (show (sG s v).basis.length ≤2 by omega);unfold xQ;simp only;rw [iO hv,aR,dS hv,aB,e,bH (by simp [lL];omega),aR,aB,aB,P.size,aNA (by omega) (by omega) (λx hx=>(P.vecs x hx).1),aB,aOE (by omega) (by omega) (by omega),aB,bH (by simp;omega),aR,cA hv (by omega)]
  have e3:lL (s.take v)++[((sG s v).basis.length:Int)]=lL (s.take (v+1)):=by
   unfold lL;rw [yB hv,List.map_append,e];rfl
  have e4:(s.take v).map inM++[(⟨(dN r v:Nat),((sG s v).basis.length:Nat),cD (dN r v) (sG s v).basis.length λi k=>cO (sG s v).basis k i⟩:Mt)]=(s.take (v+1)).map inM:=by
   rw [yB hv,List.map_append,e];unfold inM aVE;simp only [List.map_cons,List.map_nil,P.size,eX]
  rw [e3,e4]
 ·unfold xQ;simp only;rw [jU (bN _),aZ,List.take_length]
theorem aZB:bR (aSM r s):=by
 have h5:=S.R.n5;have h6:=S.R.e6;have hml:=S.R.ml;have hsl:=T.P.len;refine ⟨hr.1,by simp [bI,aSM,lL];omega,⟨by simp [aSM];omega,λm hm=>?_⟩,trivial⟩;obtain ⟨i,hi,rfl⟩:=List.mem_map.1 hm;have hi':i<r.q.src.length:=by have:=List.mem_range.1 hi;omega
 have d1:=S.d _ (S.R.s i hi').2;have d2:=S.d _ (S.R.t i hi').2;have k1:=(aEc T (S.R.s i hi').2).2;have k2:=(aEc T (S.R.t i hi').2).2;have m5:=Nat.mul_le_mul (show kN s (tV r i)≤2 by omega) (show kN s (sV r i)≤2 by omega);refine ⟨?_,trivial⟩;unfold bI aTc;simp only;rw [eN];omega
end
def hl1 (r b:Rp) (k:Nat):Int:=isI (aSM r ((oG r b.dims)[k]?.getD [])) b
def nP (r a b:Rp) (k:Nat):Int:=isI (aLc r ((oG r b.dims)[k]?.getD [])) a
def hlA (r a b:Rp):Nat→Int
 |0=>0
 |k+1=>wr (hlA r a b k+wr (hl1 r b k*nP r a b k))
def hlG (r a b:Rp) (k:Nat):Bool:= !decide (hl1 r b k<0)&& !decide (nP r a b k<0)
def aUZ (r a b:Rp):Int:=bif tY r a&&(tY r b&&wG r) then (bif (List.range (oG r b.dims).length).all (hlG r a b) then hlA r a b (oG r b.dims).length else -1) else -1
section
variable {r a b:Rp} (hr:bR r) (ha:bR a) (hb:bR b) (S:Sm r)
include hr ha hb S
theorem aSN (hn:(oG r b.dims).length ≤1048576):Lp (lO r a b (oG r b.dims)) (0,0)=some (bif (List.range (oG r b.dims).length).all (hlG r a b) then .inl (hlA r a b (oG r b.dims).length) else .inr (-1)):=by
 refine aUE (λk=>(hlA r a b k,(k:Int))) (oG r b.dims).length (hlG r a b) (Sum.inr (-1)) (Sum.inl (hlA r a b (oG r b.dims).length)) (λk hk _=>?_) (λ_=>?_)
 ·have T:=aRz S (fL (l:=oG r b.dims) [] hk);unfold lO;simp only;rw [iO hk,aR,iN [] hk,aB,aXd hr S T,aB,aZj hr S T,aB];simp only;rw [aPU (aZB hr S T) hb,aB,aPU (aYx hr S T) ha,aB];rw [show hlA r a b (k+1)=wr (hlA r a b k+wr (hl1 r b k*nP r a b k)) from rfl];unfold hlG hl1 nP;cases h1:decide (isI (aSM r ((oG r b.dims)[k]?.getD [])) b<0) with
  |true=>rfl
  |false=>
   cases h2:decide (isI (aLc r ((oG r b.dims)[k]?.getD [])) a<0) with
   |true=>rfl
   |false=>rw [cA hk (by omega)];rfl
 ·unfold lO;simp only;rw [jU (bN _),aZ]
theorem aSO (hn:(oG r b.dims).length ≤1048576):Lp (lQ r a b (oG r b.dims,true)) (0,0)=some (bif (List.range (oG r b.dims).length).all (hlG r a b) then .inl (hlA r a b (oG r b.dims).length) else .inr (-1)):=by
 refine aUE (λk=>(hlA r a b k,(k:Int))) (oG r b.dims).length (hlG r a b) (Sum.inr (-1)) (Sum.inl (hlA r a b (oG r b.dims).length)) (λk hk _=>?_) (λ_=>?_)
 ·have T:=aRz S (fL (l:=oG r b.dims) [] hk);unfold lQ;simp only;rw [iO hk,aR,iN [] hk,aB,aXf hr S T,aB,aB,aZk hr S T,aB];simp only;rw [aPV (aZB hr S T) hb,aB,aPV (aYx hr S T) ha,aB];rw [show hlA r a b (k+1)=wr (hlA r a b k+wr (hl1 r b k*nP r a b k)) from rfl];unfold hlG hl1 nP;cases h1:decide (isI (aSM r ((oG r b.dims)[k]?.getD [])) b<0) with
  |true=>rfl
  |false=>
   cases h2:decide (isI (aLc r ((oG r b.dims)[k]?.getD [])) a<0) with
   |true=>rfl
   |false=>rw [cA hk (by omega)];rfl
 ·unfold lQ;simp only;rw [jU (bN _),aZ]
end
section
variable {r a b:Rp} (hr:bR r) (ha:bR a) (hb:bR b)
include hr ha hb
theorem aTd:vN r a b=some (aUZ r a b):=by
 unfold vN aUZ;rw [show vY r a=some (tY r a) from aWd hr ha,aB,show vY r b=some (tY r b) from aWd hr hb];cases h1:tY r a with
 |false=>rfl
 |true=>
  rw [eD,aZ,aB];cases h2:tY r b with
  |false=>rfl
  |true=>
   rw [eD,aZ,aPK hr,aB];cases h3:wG r with
   |false=>rfl
   |true=>
    have S:=aUO h3;have hn:=aNZ S b.dims;rw [eD,aZ,aNY hr S (mT h2).ne,aB,aSN hr ha hb S (by omega),aB];cases (List.range (oG r b.dims).length).all (hlG r a b) <;> rfl
theorem aTe:vS r a b=some (aUZ r a b):=by
 unfold vS aUZ;rw [show kX r a=some (tY r a) from aHF hr ha,aB,show kX r b=some (tY r b) from aHF hr hb];cases h1:tY r a with
 |false=>rfl
 |true=>
  rw [eD,aZ,aB];cases h2:tY r b with
  |false=>rfl
  |true=>
   rw [eD,aZ,aRx hr,aB];unfold aRv;rw [bH (mT h2).ne,Bool.and_true];cases h3:wG r with
   |false=>rfl
   |true=>
    have S:=aUO h3;have hn:=aNZ S b.dims;rw [aR,eD,aZ,aSO hr ha hb S (by omega),aB];cases (List.range (oG r b.dims).length).all (hlG r a b) <;> rfl
end
theorem aKa {a b c:Rp} (fa:fR a) (fb:fR b) (fc:fR c):qO a b c=some true:=by
 unfold qO;rw [aZN fa (by decide) (by decide),aB];rcases aPu a 1048576 (by decide) (by decide) with e|⟨e1,e2,ha⟩
 ·rw [e];rfl
 ·rw [dF (by omega),aZ,aZN fb e1 (by omega),aB];rcases aPu b _ e1 (by omega) with e|⟨e3,e4,hb⟩
  ·rw [e];rfl
  ·rw [dF (by omega),aZ,aZN fc e3 (by omega),aB];rcases aPu c _ e3 (by omega) with e|⟨e5,e6,hc⟩
   ·rw [e];rfl
   ·rw [dF (by omega),aZ];simp only [aZO ha,aZO hb,aZO hc,aB,aTe ha hb hc,aTd ha hb hc,decide_true,eD,aZ,aZP ha,aZP hb,aZP hc]
end
end Go.Proofs.YtghechfdejhapaaGreat

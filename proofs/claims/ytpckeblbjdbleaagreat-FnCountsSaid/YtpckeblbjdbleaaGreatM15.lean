/- Several texts. -/
import Derived.Test.YtpckeblbjdbleaaGreatM14
set_option linter.unusedVariables false
set_option linter.unusedSimpArgs false
set_option maxRecDepth 10000
set_option maxHeartbeats 4000000
namespace Go.Proofs.YtpckeblbjdbleaaGreat
open Go.RowKit
section
def sV(r:Rp)(i:Nat):Nat:=(r.q.src[i]?.getD 0).toNat
def tV(r:Rp)(i:Nat):Nat:=(r.q.tgt[i]?.getD 0).toNat
def aF(r:Rp)(i:Nat):Nat->Nat->Int:=λj k=>(r.maps[i]?.getD ⟨0,0,[]⟩).cells[j*dN r (sV r i)+k]?.getD 0
structure Rv(r:Rp):Prop where
 hp:mA r.p=true
 n5:r.dims.length<=5
 d:∀k,k<r.dims.length->r.dims[k]?.getD 0=(dN r k:Int)/\dN r k<=4
 e6:r.q.src.length<=6
 tl:r.q.tgt.length=r.q.src.length
 ml:r.maps.length=r.q.src.length
 s:∀i,i<r.q.src.length->r.q.src[i]?.getD 0=(sV r i:Int)/\sV r i<r.dims.length
 t:∀i,i<r.q.src.length->r.q.tgt[i]?.getD 0=(tV r i:Int)/\tV r i<r.dims.length
 m:∀i,i<r.q.src.length->r.maps[i]?.getD ⟨0,0,[]⟩=⟨dN r (tV r i),dN r (sV r i),bN (dN r (tV r i)) (dN r (sV r i)) (aF r i)⟩/\Bx r.p (dN r (tV r i)) (dN r (sV r i)) (aF r i)
theorem QD{r:Rp}(h:vX r=true):Rv r:=by
 obtain⟨hp,hD,hml,hM⟩:=ME h;obtain⟨hQ,hd1,hd2,_⟩:=nH hD;obtain⟨n,hn,hn1,hn5,hq1,hq2,hq3,hq4⟩:=pS hQ;have hdl:r.dims.length=n:=by omega
 have hd:∀k,k<r.dims.length->r.dims[k]?.getD 0=(dN r k:Int)/\dN r k<=4:=by
  intro k hk;have:=hd2 _ (cU 0 hk);unfold dN;omega
 have hs:∀i,i<r.q.src.length->r.q.src[i]?.getD 0=(sV r i:Int)/\sV r i<r.dims.length:=by
  intro i hi;have:=hq3 _ (cU 0 hi);unfold sV;omega
 have ht:∀i,i<r.q.src.length->r.q.tgt[i]?.getD 0=(tV r i:Int)/\tV r i<r.dims.length:=by
  intro i hi;have:=hq4 _ (cU 0 (show i<r.q.tgt.length by omega));unfold tV;omega
 refine⟨hp,by omega,hd,hq2,by omega,hml,hs,ht,λi hi=>?_⟩;obtain⟨g1,g2,g3⟩:=hM i (by omega);rw[show(r.q.src[i]?.getD 0).toNat=sV r i from rfl,(hd _ (hs i hi).2).1]at g2;rw[show(r.q.tgt[i]?.getD 0).toNat=tV r i from rfl,(hd _ (ht i hi).2).1]at g3;obtain⟨_,a,b,F,ha,hb,he,hF⟩:=Pi g1;have ea:a=dN r (tV r i):=by rw[he]at g3;simp only at g3;omega
 have eb:b=dN r (sV r i):=by rw[he]at g2;simp only at g2;omega
 have em:∀j k,j<a->k<b->aF r i j k=F j k:=by
  intro j k hj hk;unfold aF;rw[he,←eb];simp only;rw[nS F hj hk];rfl
 subst ea;subst eb;rw[he];refine⟨?_,λj k hj hk=>by rw[em j k hj hk];exact hF j k hj hk⟩;rw[bX em]
structure Fit(a b:Rp):Prop where
 ra:Rv a
 rb:Rv b
 pe:b.p=a.p
 qe:b.q=a.q
 ne:b.dims.length=a.dims.length
theorem aAy{a b:Rp}(h1:vX a=true)(h2:vX b=true)(hp:a.p=b.p)(hq:a.q=b.q):Fit a b:=by
 refine⟨QD h1,QD h2,hp.symm,hq.symm,?_⟩;have e1:=(nH (ME h1).2.1).2.1;have e2:=(nH (ME h2).2.1).2.1;rw[hq]at e1;omega
theorem Fit.sV{a b:Rp}(h:Fit a b)(i:Nat):sV b i=sV a i:=by unfold Proofs.YtpckeblbjdbleaaGreat.sV;rw[h.qe]
theorem Fit.tV{a b:Rp}(h:Fit a b)(i:Nat):tV b i=tV a i:=by unfold Proofs.YtpckeblbjdbleaaGreat.tV;rw[h.qe]
def lV(a b:Rp)(v:Nat):Nat:=dN b v*dN a v
def lE(a b:Rp)(i:Nat):Nat:=dN b (tV a i)*dN a (sV a i)
theorem TN{l:Nat->Nat}{c:Nat}:∀{k:Nat},(∀i,i<k->l i<=c)->dD l k<=c*k
 |0,_=>Nat.zero_le _
 |k+1,h=>by
  have h1:=TN (c:=c) (k:=k) λi hi=>h i (by omega);have h2:=h k (by omega);show dD l k+l k<=c*(k+1);rw[Nat.mul_succ];omega
theorem Fit.lV{a b:Rp}(h:Fit a b){v:Nat}(hv:v<a.dims.length):lV a b v<=16:=Nat.mul_le_mul (h.rb.d v (by rw[h.ne];exact hv)).2 (h.ra.d v hv).2
theorem Fit.lE{a b:Rp}(h:Fit a b){i:Nat}(hi:i<a.q.src.length):lE a b i<=16:=Nat.mul_le_mul (h.rb.d _ (by rw[h.ne];exact(h.ra.t i hi).2)).2 (h.ra.d _ (h.ra.s i hi).2).2
theorem Fit.offV{a b:Rp}(h:Fit a b){v:Nat}(hv:v<=a.dims.length):dD (Proofs.YtpckeblbjdbleaaGreat.lV a b) v<=80:=by
 have:=TN (l:=Proofs.YtpckeblbjdbleaaGreat.lV a b) (c:=16) (k:=v) λi hi=>h.lV (by omega);have:=h.ra.n5;omega
theorem Fit.offE{a b:Rp}(h:Fit a b){i:Nat}(hi:i<=a.q.src.length):dD (Proofs.YtpckeblbjdbleaaGreat.lE a b) i<=96:=by
 have:=TN (l:=Proofs.YtpckeblbjdbleaaGreat.lE a b) (c:=16) (k:=i) λj hj=>h.lE (by omega);have:=h.ra.e6;omega
theorem xV{α:Type}{f:Nat->α}{n k:Nat}(h:k<n):bP ((List.range n).map f) (k:Int)=some (f k):=by rw[dX (by simp;exact h)];simp
theorem Ba{α:Type}{f:Nat->α}{k:Nat}:(List.range k).map f++[f k]=(List.range (k+1)).map f:=by rw[List.range_succ,List.map_append];rfl
theorem TO{a b:Rp}(h:Fit a b):xN a b=some ((List.range a.dims.length).map λv=>(⟨dN b v,dN a v,bN (dN b v) (dN a v) λ_ _=>0⟩:Mt)):=by
 have n5:=h.ra.n5;unfold xN;rw[cB (r:=(List.range a.dims.length).map λv=>(⟨dN b v,dN a v,bN (dN b v) (dN a v) λ_ _=>0⟩:Mt)) (λk=>((List.range k).map λv=>(⟨dN b v,dN a v,bN (dN b v) (dN a v) λ_ _=>0⟩:Mt),(k:Int))) a.dims.length (by simp) (λk hk=>?_) (λ_=>?_),aB]
 .have hkb:k<b.dims.length:=by rw[h.ne];exact hk
  unfold Da;simp only;rw[iD hk,aI,gY 0 hk,aB,gY 0 hkb,aB,(h.ra.d k hk).1,(h.rb.d k hkb).1,Mu (sq (h.rb.d k hkb).2 (h.ra.d k hk).2),aB,aS (by simp;omega),aI,bJ hk (by omega),Ba (f:=λv=>(⟨dN b v,dN a v,bN (dN b v) (dN a v) λ_ _=>0⟩:Mt))]
 .unfold Da;simp only;rw[iZ (bA _),aN]
theorem QE{a b:Rp}(h:Fit a b):qQ a b=some ((List.range a.q.src.length).map λi=>(⟨dN b (tV a i),dN a (sV a i),bN (dN b (tV a i)) (dN a (sV a i)) λ_ _=>0⟩:Mt)):=by
 have e6:=h.ra.e6;have tl:=h.ra.tl;unfold qQ;rw[cB (r:=(List.range a.q.src.length).map λi=>(⟨dN b (tV a i),dN a (sV a i),bN (dN b (tV a i)) (dN a (sV a i)) λ_ _=>0⟩:Mt)) (λk=>((List.range k).map λi=>(⟨dN b (tV a i),dN a (sV a i),bN (dN b (tV a i)) (dN a (sV a i)) λ_ _=>0⟩:Mt),(k:Int))) a.q.src.length (by simp) (λk hk=>?_) (λ_=>?_),aB]
 .obtain⟨s1,s2⟩:=h.ra.s k hk;obtain⟨t1,t2⟩:=h.ra.t k hk;have t3:tV a k<b.dims.length:=by rw[h.ne];exact t2
  unfold sI;simp only;rw[iD hk,aI,gY 0 hk,aB,gY 0 (by omega),aB,t1,gY 0 t3,aB,s1,gY 0 s2,aB,(h.ra.d _ s2).1,(h.rb.d _ t3).1,Mu (sq (h.rb.d _ t3).2 (h.ra.d _ s2).2),aB,aS (by simp;omega),aI,bJ hk (by omega),Ba (f:=λi=>(⟨dN b (tV a i),dN a (sV a i),bN (dN b (tV a i)) (dN a (sV a i)) λ_ _=>0⟩:Mt))]
 .unfold sI;simp only;rw[iZ (bA _),aN]
theorem TP{k:Nat}{r c:Nat->Int}{l:Nat->Nat}{f:Nat->Nat->Int}(hk:k<=1048576)(hl:dD l k<=1048576):lM ((List.range k).map λv=>(⟨r v,c v,(List.range (l v)).map (f v)⟩:Mt))=some (Ji l f k):=by
 unfold lM;rw[cB (r:=Ji l f k) (λj=>(Ji l f j,(j:Int))) k (by simp[Ji]) (λj hj=>?_) (λ_=>?_),aB]
 .unfold Ew;simp only;have h1:=@HI l (j+1) k hj;have e:dD l (j+1)=dD l j+l j:=rfl;rw[dM,List.length_range,iD hj,aI,xV hj,aB];simp only;rw[jJ,dM,List.length_range,aS (by omega),aI,bJ hj (by omega)];rfl
 .unfold Ew;simp only;rw[dM,List.length_range,iZ (bA _),aN]
theorem VG{k:Nat}{r c:Nat->Int}{z:Nat->aA}{l:Nat->Nat}{f:Nat->Nat->Int}(hk:k<=1048576)(hl:dD l k<=1048576)(hz:∀v,v<k->(z v).length=l v):uI ((List.range k).map λv=>(⟨r v,c v,z v⟩:Mt)) (Ji l f k)=some ((List.range k).map λv=>(⟨r v,c v,(List.range (l v)).map (f v)⟩:Mt)):=by
 unfold uI;rw[cB (r:=(List.range k).map λv=>(⟨r v,c v,(List.range (l v)).map (f v)⟩:Mt)) (λj=>((Ji l f k).drop (dD l j),(List.range j).map (λv=>(⟨r v,c v,(List.range (l v)).map (f v)⟩:Mt)),(j:Int))) k (by simp[dD]) (λj hj=>?_) (λ_=>?_),aB]
 .unfold CO;simp only;have h1:=@HI l (j+1) k hj;have e:dD l (j+1)=dD l j+l j:=rfl;rw[dM,List.length_range,iD hj,aI,xV hj,aB];simp only;rw[hz j hj,List.length_drop,jJ];simp only[eK,Int.toNat_zero,List.drop_zero,Nat.sub_zero];rw[VF hj];unfold mB;rw[aS (by omega:(0:Int)<=((l j:Nat):Int)),aS (by omega:((l j:Nat):Int)<=((dD l k-dD l j:Nat):Int))];simp only[decide_true,Bool.and_self,aI,Int.le_refl];have q1:decide (((List.range (l j)).map (f j)).length <=1048576)=true:=aS (by simp only[dM,List.length_range];omega);have q2:decide (((List.range j).map λv=>(⟨r v,c v,(List.range (l v)).map (f v)⟩:Mt)).length +1<=4294967296)=true:=aS (by simp only[dM,List.length_range];omega);simp only[q1,Bool.and_self,aI,aB];rw[q2,aI,bJ hj (by omega),Ba (f:=λv=>(⟨r v,c v,(List.range (l v)).map (f v)⟩:Mt)),List.drop_drop,List.take_of_length_le (by simp[jJ];omega)];rfl
 .unfold CO;simp only;rw[dM,List.length_range,iZ (bA _),aN]
theorem aDq{p:Int}(hp:mA p=true){r c:Nat}(hN:r*c<=1048576){r' c':Int}{F G:Nat->Nat->Int}(hF:Bx p r c F)(hG:Bx p r c G){k:Int}(hk:0<=k/\k<=5):
  Fm p ⟨r,c,bN r c F⟩ k ⟨r',c',bN r c G⟩=some ⟨r,c,bN r c λi j=>(F i j+k*G i j)%p⟩:=by
 have e1:∀H:Nat->Nat->Int,bN r c H=bN 1 (r*c) (λ_ y=>H (y/c) (y%c)):=by
  intro H;unfold bN;rw[Nat.one_mul];refine oV λy hy=>?_;rw[Nat.mod_eq_of_lt (List.mem_range.1 hy)]
 have e2:bN r c G=eC (r*c) (λy=>G (y/c) (y%c)):=rfl;unfold Fm mS mB;simp only;rw[dU,aS hN,aI,aB,aB];simp only;have:=Lr hp (r:=1) (c:=r*c) (i:=0) hN (by omega) (F:=λ_ y=>F (y/c) (y%c)) (g:=λy=>G (y/c) (y%c)) hk (λy hy=>hF _ _ (Ky hy).1 (Ky hy).2) (λy hy=>hG _ _ (Ky hy).1 (Ky hy).2);rw[Nat.zero_mul,←e2,←e1]at this;rw[dU,this,aB,dU,Nat.one_mul,aS rfl,aI,e1 (λi j=>(F i j+k*G i j)%p)];congr 2;refine bX λa y ha hy=>?_;unfold OB;rw[aP (by omega)]
def QF(a b:Rp)(P:Nat->Nat->Nat->Int)(i:Nat):Nat->Nat->Int:=λr k=>
 (Bu a.p (dN b (sV a i)) (aF b i) (P (sV a i)) r k+(a.p-1)*Bu a.p (dN a (tV a i)) (P (tV a i)) (aF a i) r k)%a.p
theorem TQ{a b:Rp}(h:Fit a b){P:Nat->Nat->Nat->Int}(hP:∀v,v<a.dims.length->Bx a.p (dN b v) (dN a v) (P v)):
  vN a b ((List.range a.dims.length).map λv=>(⟨dN b v,dN a v,bN (dN b v) (dN a v) (P v)⟩:Mt))=some ((List.range a.q.src.length).map λi=>(⟨dN b (tV a i),dN a (sV a i),bN (dN b (tV a i)) (dN a (sV a i)) (QF a b P i)⟩:Mt)):=by
 have e6:=h.ra.e6;have tl:=h.ra.tl;have hb:=eY h.ra.hp;unfold vN;rw[cB (r:=(List.range a.q.src.length).map λi=>(⟨dN b (tV a i),dN a (sV a i),bN (dN b (tV a i)) (dN a (sV a i)) (QF a b P i)⟩:Mt)) (λk=>((List.range k).map λi=>(⟨dN b (tV a i),dN a (sV a i),bN (dN b (tV a i)) (dN a (sV a i)) (QF a b P i)⟩:Mt),(k:Int))) a.q.src.length (by simp) (λk hk=>?_) (λ_=>?_),aB]
 .obtain⟨s1,s2⟩:=h.ra.s k hk;obtain⟨t1,t2⟩:=h.ra.t k hk;have s3:sV a k<b.dims.length:=by rw[h.ne];exact s2
  have t3:tV a k<b.dims.length:=by rw[h.ne];exact t2
  have hkb:k<b.q.src.length:=by rw[h.qe];exact hk
  obtain⟨m1,m2⟩:=h.ra.m k hk;obtain⟨g1,g2⟩:=h.rb.m k hkb;rw[h.sV,h.tV]at g1 g2;rw[h.pe]at g2;have da:=h.ra.d _ s2;have da2:=h.ra.d _ t2;have db:=h.rb.d _ s3;have db2:=h.rb.d _ t3;unfold wM;simp only;rw[iD hk,aI,gY 0 hk,aB,gY ⟨0,0,[]⟩ (by rw[h.rb.ml];exact hkb),aB,g1,s1,xV s2,aB];rw[Od h.ra.hp (sq db2.2 db.2) (sq db.2 da.2) (sq db2.2 da.2) (by omega) (by omega) (by omega) g2 (hP _ s2),aB,gY 0 (by omega),aB,t1,xV t2,aB,gY ⟨0,0,[]⟩ (by rw[h.ra.ml];exact hk),aB,m1];rw[Od h.ra.hp (sq db2.2 da2.2) (sq da2.2 da.2) (sq db2.2 da.2) (by omega) (by omega) (by omega) (hP _ t2) m2,aB,cC (by omega)];rw[aDq h.ra.hp (sq db2.2 da.2) (Oc h.ra.hp _ _ _ _ _) (Oc h.ra.hp _ _ _ _ _) (by omega),aB,aS (by simp;omega),aI,bJ hk (by omega)];have:=Ba (f:=λi=>(⟨dN b (tV a i),dN a (sV a i),bN (dN b (tV a i)) (dN a (sV a i)) (QF a b P i)⟩:Mt)) (k:=k);rw[←this];rfl
 .unfold wM;simp only;rw[iZ (bA _),aN]
theorem Cw{R N:Nat}(hN:R*N<=1048576)(h1:R<=1048576)(h2:N<=1048576)(M:Nat->Nat->Int):dR R ((List.range N).map λk=>eC R λi=>M i k)=some ⟨R,N,bN R N M⟩:=by
 unfold dR;rw[dM,List.length_range,Mu hN,aB];simp only;rw[cB (r:=bN R N M) (λk=>(bN R N (λi j=>if j<k then M i j else 0),(k:Int))) N (by simp) (λk hk=>?_) (λ_=>?_),aB]
 .unfold kR;simp only;rw[dM,List.length_range,iD hk,aI,xV hk,aB];rw[cB (r:=bN R N (λi j=>if j<k+1 then M i j else 0)) (λx=>(bN R N (λi j=>if j<k∨(j=k/\i<x)then M i j else 0),(x:Int))) R (by simp) (λx hx=>?_) (λ_=>?_),aB,bJ hk (by omega)]
  .unfold oO;simp only;rw[dL,iD hx,aI,EP _ hx,aB,Qp hN hx hk,aB,Uv hN hx hk,bJ hx (by omega)];congr 3;refine bX λi j hi hj=>?_;simp only[KU];by_cases e:i=x/\j=k
   .rw[aP e,aP (by omega),e.1,e.2]
   .rw[aQ e];by_cases e2:j<k∨j=k/\i<x
    .rw[aP e2,aP (by omega)]
    .rw[aQ e2,aQ (by omega)]
  .unfold oO;simp only;rw[dL,iZ (bA _),aN];congr 2;refine bX λi j hi hj=>?_;by_cases e:j<k+1
   .rw[aP e,aP (by omega)]
   .rw[aQ e,aQ (by omega)]
 .unfold kR;simp only;rw[dM,List.length_range,iZ (bA _),aN];congr 2;exact bX λi j hi hj=>by rw[aP hj]
def eF(a b:Rp)(i r k v j l:Nat):Int:=((if sV a i=v/\k=l then aF b i r j else 0)-(if tV a i=v/\r=j then aF a i l k else 0))%a.p
def e2(a b:Rp)(i y v z:Nat):Int:=eF a b i (y/dN a (sV a i)) (y%dN a (sV a i)) v (z/dN a v) (z%dN a v)
def mE(a b:Rp):Nat->Nat->Int:=λx k=>(Ji (lE a b) (λi y=>(Ji (lV a b) (e2 a b i y) a.dims.length)[k]?.getD 0) a.q.src.length)[x]?.getD 0
def nE(a b:Rp):Nat:=dD (lE a b) a.q.src.length
def nV(a b:Rp):Nat:=dD (lV a b) a.dims.length
theorem SE{a b:Rp}(h:Fit a b):Bx a.p (nE a b) (nV a b) (mE a b):=by
 intro x k hx hk;obtain⟨i,y,hi,hy,rfl⟩:=JR hx;obtain⟨v,z,hv,hz,rfl⟩:=JR hk;unfold mE;rw[tH _ hi hy,fR,tH _ hv hz,fR];exact xK h.ra.hp
theorem HK(F G:Nat->Nat->Int)(i j:Nat):∀k,Ev F G i j k=sN (λt=>F i t*G t j) k
 |0=>rfl
 |k+1=>by rw[Ev,sN,HK F G i j k]
def TR(a:Rp)(v0 z0:Nat):Nat->Nat->Nat->Int:=λv j l=>if v=v0/\j*dN a v+l=z0 then 1 else 0
theorem aDr{a:Rp}(hp:mA a.p=true)(v0 z0 v m n:Nat):Bx a.p m n (TR a v0 z0 v):=by
 have hb:=eY hp;intro i j _ _;unfold TR;split<;>omega
theorem VH{a b:Rp}(h:Fit a b){v0 z0 i r k:Nat}(hv:v0<a.dims.length)(hz:z0<lV a b v0)(hi:i<a.q.src.length)(hr:r<dN b (tV a i))(hk:k<dN a (sV a i)):
  QF a b (TR a v0 z0) i r k=eF a b i r k v0 (z0/dN a v0) (z0%dN a v0):=by
 have hb:=eY h.ra.hp;obtain⟨hj0,hl0⟩:=Ky hz
 have key:∀v j l,l<dN a v->(v=v0/\j*dN a v+l=z0↔v=v0/\j=z0/dN a v0/\l=z0%dN a v0):=by
  intro v j l hl;constructor
  .rintro⟨rfl,rfl⟩;exact⟨rfl,(Ek hl).symm,(El hl).symm⟩
  .rintro⟨rfl,rfl,rfl⟩;exact⟨rfl,DN⟩
 have e1:Bu a.p (dN b (sV a i)) (aF b i) (TR a v0 z0 (sV a i)) r k=(if sV a i=v0/\k=z0%dN a v0 then aF b i r (z0/dN a v0)else 0)%a.p:=by
  unfold Bu;rw[HK];by_cases e:sV a i=v0/\k=z0%dN a v0
  .rw[aP e,Gt (j:=z0/dN a v0) (by rw[e.1];exact hj0)]
   .unfold TR;rw[aP ((key _ _ _ hk).2 ⟨e.1,rfl,e.2⟩),Int.mul_one]
   .intro t ht htj;unfold TR;rw[aQ λg=>htj ((key _ _ _ hk).1 g).2.1,Int.mul_zero]
  .rw[aQ e,gO (g:=λ_=>0),Ao];intro t ht;unfold TR;rw[aQ λg=>e ⟨((key _ _ _ hk).1 g).1,((key _ _ _ hk).1 g).2.2⟩,Int.mul_zero]
 have e2:Bu a.p (dN a (tV a i)) (TR a v0 z0 (tV a i)) (aF a i) r k=(if tV a i=v0/\r=z0/dN a v0 then aF a i (z0%dN a v0) k else 0)%a.p:=by
  unfold Bu;rw[HK];by_cases e:tV a i=v0/\r=z0/dN a v0
  .rw[aP e,Gt (j:=z0%dN a v0) (by rw[e.1];exact hl0)]
   .unfold TR;rw[aP ((key _ _ _ (by rw[e.1];exact hl0)).2 ⟨e.1,e.2,rfl⟩),Int.one_mul]
   .intro t ht htj;unfold TR;rw[aQ λg=>htj ((key _ _ _ ht).1 g).2.2,Int.zero_mul]
  .rw[aQ e,gO (g:=λ_=>0),Ao];intro t ht;unfold TR;rw[aQ λg=>e ⟨((key _ _ _ ht).1 g).1,((key _ _ _ ht).1 g).2.1⟩,Int.zero_mul]
 unfold QF eF;rw[e1,e2];generalize (if sV a i=v0/\k=z0%dN a v0 then aF b i r (z0/dN a v0)else 0)=x;generalize (if tV a i=v0/\r=z0/dN a v0 then aF a i (z0%dN a v0) k else 0)=y;rw[show x%a.p+(a.p-1)*(y%a.p)=(x%a.p-y%a.p)+a.p*(y%a.p) by rw[Int.sub_mul];omega,Int.add_mul_emod_self_left];exact(Int.sub_emod x y a.p).symm
theorem MH{a b:Rp}(h:Fit a b):pT a b=some ⟨nE a b,nV a b,bN (nE a b) (nV a b) (mE a b)⟩:=by
 have n5:=h.ra.n5;have e6:=h.ra.e6;have bV:=h.offV (bA _);have bE:=h.offE (bA _);unfold pT;rw[TO h,aB];have z1:lM ((List.range a.dims.length).map λv=>(⟨dN b v,dN a v,bN (dN b v) (dN a v) λ_ _=>0⟩:Mt))=some (Ji (lV a b) (λ_ _=>0) a.dims.length):=TP (l:=lV a b) (f:=λ_ _=>0) (by omega) (by omega);have z2:lM ((List.range a.q.src.length).map λi=>(⟨dN b (tV a i),dN a (sV a i),bN (dN b (tV a i)) (dN a (sV a i)) λ_ _=>0⟩:Mt))=some (Ji (lE a b) (λ_ _=>0) a.q.src.length):=TP (l:=lE a b) (f:=λ_ _=>0) (by omega) (by omega);rw[z1,aB];rw[cB (r:=(List.range (nV a b)).map λk=>eC (nE a b) λx=>mE a b x k) (λk=>((List.range k).map (λk=>eC (nE a b) λx=>mE a b x k),(k:Int))) (nV a b) (by simp) (λk hk=>?_) (λ_=>?_),aB,QE h,aB,z2,aB,jJ]
 .have:=Cw (R:=nE a b) (N:=nV a b) (Nat.le_trans (Nat.mul_le_mul bE bV) (by decide)) (by unfold nE;omega) (by unfold nV;omega) (mE a b);unfold nE at this ⊢;rw[this,aB]
 .obtain⟨v0,z0,hv0,hz0,ek⟩:=JR hk;unfold wN;simp only[jJ];rw[show dD (lV a b) a.dims.length=nV a b from rfl,iD hk,aI,aS (by omega),aS (by unfold nV;omega:((nV a b:Nat):Int)<=1048576),Bool.and_self,aI,eK,eK,dX (by simp;exact hk),aB]
  have eu:(List.replicate (nV a b) (0:Int)).set k 1=Ji (lV a b) (λv z=>if v=v0/\z=z0 then 1 else 0) a.dims.length:=by
   unfold nV;rw[VE,ek,TM hv0 hz0]
  rw[eu,VG (l:=lV a b) (r:=λv=>(dN b v:Int)) (c:=λv=>(dN a v:Int)) (z:=λv=>bN (dN b v) (dN a v) λ_ _=>0) (by omega) (by omega) (λv _=>dU _ _ _),aB]
  have eb:((List.range a.dims.length).map λv=>(⟨dN b v,dN a v,(List.range (lV a b v)).map (λz=>if v=v0/\z=z0 then(1:Int)else 0)⟩:Mt))=(List.range a.dims.length).map λv=>(⟨dN b v,dN a v,bN (dN b v) (dN a v) (TR a v0 z0 v)⟩:Mt):=by
   refine oV λv hv=>?_;congr 1;refine aAw λy hy=>?_;unfold TR;rw[DN]
  rw[eb,TQ h (λv _=>aDr h.ra.hp _ _ _ _ _),aB];have ef:lM ((List.range a.q.src.length).map λi=>(⟨dN b (tV a i),dN a (sV a i),bN (dN b (tV a i)) (dN a (sV a i)) (QF a b (TR a v0 z0) i)⟩:Mt))=some (Ji (lE a b) (λi y=>QF a b (TR a v0 z0) i (y/dN a (sV a i)) (y%dN a (sV a i))) a.q.src.length):=TP (l:=lE a b) (f:=λi y=>QF a b (TR a v0 z0) i (y/dN a (sV a i)) (y%dN a (sV a i))) (by omega) (by omega);rw[ef,aB,aS (by simp;unfold nV at hk;omega),aI,bJ hk (by unfold nV;omega),←Ba (f:=λk=>eC (nE a b) λx=>mE a b x k)];congr 5;symm;refine HJ (by rw[dL];rfl) λi y hi hy=>?_;have hx:dD (lE a b) i+y<nE a b:=pB hi hy;unfold eC;rw[List.getElem?_map,List.getElem?_range hx,Option.map_some];congr 1;obtain⟨q1,q2⟩:=Ky hy;rw[VH h hv0 hz0 hi q1 q2];unfold mE;rw[tH _ hi hy,fR,ek,tH _ hv0 hz0,fR];rfl
 .unfold wN;simp only[jJ];rw[show dD (lV a b) a.dims.length=nV a b from rfl,iZ (bA _),aN]
theorem Xs{a b:Rp}(h:Fit a b):Tb a.p (nE a b) (nV a b) (mE a b):=by
 have bV:=h.offV (bA _);have bE:=h.offE (bA _);exact⟨h.ra.hp,Nat.le_trans (Nat.mul_le_mul bE bV) (by decide),by unfold nE;omega,by unfold nV;omega,SE h⟩
def fD(a b:Rp):Nat:=nV a b-rkF a.p (nE a b) (nV a b) (mE a b)
theorem aEf{p:Int}{m n:Nat}{F:Nat->Nat->Int}:rkF p m n F<=n:=En n
theorem Ig{a b:Rp}(h:Fit a b):nI a b=some (fD a b:Int):=by
 have bV:=h.offV (bA _);unfold nI;rw[MH h,aB,Ps (Xs h),aB];have:=@aEf a.p (nE a b) (nV a b) (mE a b);have e:((bY a.p (nE a b) (mE a b) (nV a b)).2.length)=rkF a.p (nE a b) (nV a b) (mE a b):=rfl;simp only;rw[e,cC (by unfold nV at*;omega)];unfold fD;congr 1;omega
def Yx(n:Nat)(l:aZ):Mt:=⟨n,(l.length:Int),bN n l.length λi k=>cA l k i⟩
theorem Yy{n:Nat}{l:aZ}(h:∀v∈l,v.length=n):l=(List.range l.length).map λk=>eC n λi=>cA l k i:=Xo h
theorem aAz{n:Nat}{l:aZ}(hn:n<=1024)(hl:l.length<=512)(h:∀v∈l,v.length=n):dR n l=some (Yx n l):=by
 have hN:n*l.length<=1048576:=by have:=Nat.mul_le_mul hn hl;omega
 have e:=Cw hN (by omega) (by omega) (λi k=>cA l k i);rw[←Yy h]at e;exact e
theorem Qz{r c:Nat}(hN:c*r<=1048576)(hr:r<=1048576)(hc:c<=1048576)(F:Nat->Nat->Int):sT ⟨r,c,bN r c F⟩=some ⟨c,r,bN c r λi k=>F k i⟩:=by
 have hN':r*c<=1048576:=by rw[Nat.mul_comm];exact hN
 unfold sT;simp only;rw[IS hN,aB];simp only;rw[cB (r:=bN c r λi k=>F k i) (λt=>(bN c r (λi k=>if k<t then F k i else 0),(t:Int))) r (by simp) (λt ht=>?_) (λ_=>?_),aB]
 .unfold uT;simp only;rw[iD ht,aI];rw[cB (r:=bN c r (λi k=>if k<t+1 then F k i else 0)) (λx=>(bN c r (λi k=>if k<t∨(k=t/\i<x)then F k i else 0),(x:Int))) c (by simp) (λx hx=>?_) (λ_=>?_),aB,bJ ht (by omega)]
  .unfold uS;simp only;rw[iD hx,aI,Qp hN' ht hx,aB,Qp hN hx ht,aB,Uv hN hx ht,bJ hx (by omega)];congr 3;refine bX λi j hi hj=>?_;simp only[KU];by_cases e:i=x/\j=t
   .rw[aP e,aP (by omega),e.1,e.2]
   .rw[aQ e];by_cases e2:j<t∨j=t/\i<x
    .rw[aP e2,aP (by omega)]
    .rw[aQ e2,aQ (by omega)]
  .unfold uS;simp only;rw[iZ (bA _),aN];congr 2;refine bX λi j hi hj=>?_;by_cases e:j<t+1
   .rw[aP e,aP (by omega)]
   .rw[aQ e,aQ (by omega)]
 .unfold uT;simp only;rw[iZ (bA _),aN];congr 2;exact bX λi j hi hj=>by rw[aP hj]
theorem aCb{p:Int}{n:Nat}{l:aZ}(h:VecsP p n l):Bx p n l.length λi k=>cA l k i:=λi k hi hk=>h.inP k i hk hi
theorem aEg{α β:Type}{f:α->β}{l:List α}{k:Nat}(hk:k<l.length):(l.take k).map f++[f l[k]]=(l.take (k+1)).map f:=by rw[yK hk,List.map_append];rfl
theorem VI{q:Qv}(h:bQ q):Cq q=some q:=by
 obtain⟨h1,h2,_⟩:=h;unfold bI at h1 h2;unfold Cq;rw[aS (by simp;omega),aI,aS (by simp;omega),aI];simp
structure Cu where
 b:aA
 i:Int
 h:Int
section
variable {P:Program}{dst:Option Tmp}{ty:TypeId}{pos:String}{aft:Array Edge}{g:Option (Nat×Bool)}{s:AState}
theorem aBA{t t':TypeId}{x y:Operand}{a b:Int}{k:IntKind}(hx:s.ev x=some (.int a))(hy:s.ev y=some (.sc (.int k b)))(h:(!decide (b<0))=true):AEff P ⟨dst,.binOp .shr t x y t',ty,pos,aft,g⟩ s.ev s.heap s.kp ⟨.int (Ml a b),[],[],[]⟩:=
 qM hx hy rfl λw=>by
  have hb:¬ b<0:=by simpa using h
  simp[eqGuard,binOp,Op.shift,hb,Ml,IntKind.bits]
end
section
variable {P:Program}{dst:Option Tmp}{ty:TypeId}{pos:String}{aft:Array Edge}{g:Option (Nat×Bool)}{ins:Operand->Option AV}{hp:Hp}{κ:Kp}
theorem aDs(b:Nat)(t:List Nat){fo:Operand}{xs:Array Operand}{ats:Array TypeId}{f:FuncId}{caps avs ds:List AV}{e:List (List AV)}{i h I H:Int}{r:AV}{ed:List (Nat×Option Blk)}
  (hc:HasE P f ds [(0,⟨3,[[.list 1 e,.int i,.int h]]⟩)] 1 r [(0,⟨3,[[.list 1 e,.int I,.int H]]⟩)]) (hf:ins fo=some (.fn f caps)) (hx:Hz ins xs.toList=some avs)
  (hav:All2 (Un (sg [(0,b)]) 1 hp (b::t) [(0,⟨3,[[.list 1 e,.int i,.int h]]⟩)]) (avs++caps) ds) (hb:hp b=some ⟨3,[[.list 1 e,.int i,.int h]]⟩) (hlive:((b::t).all λb=>(hp b).isSome)=true)
  (hr:Mp (sg [(b,0)]) (b+1) r r) (htr:Rq (b::t) r=true) (he:yA (b::t) [(b,⟨3,[[.list 1 e,.int I,.int H]]⟩)]=ed):
  AEff P ⟨dst,.call ⟨.value fo,xs,ats⟩,ty,pos,aft,g⟩ ins hp κ ⟨r,b::t,ed,[]⟩:=by
 have hs:sg [(b,0)] b=some 0:=by
  unfold sg;simp
 have hct:(b::t).contains b=true:=by simp
 have hlt:Nat.blt b (b+1)=true:=by simp[Nat.blt]
 refine Pg (σ:=sg [(0,b)]) (σ':=sg [(b,0)]) (touch:=b::t) (news:=[]) (mR:=[(b,⟨3,[[.list 1 e,.int I,.int H]]⟩)]) (n':=b+1) (r2:=r) hc hf hx hav ?_ rfl ?_ hlive ?_ rfl hr ?_ ?_ ?_ ?_
 .exact⟨⟨_,hb,rfl,.inr ⟨_,_,rfl,⟨_,_,rfl,⟨rfl,rfl⟩,⟨_,_,rfl,rfl,⟨_,_,rfl,rfl,rfl⟩⟩⟩,rfl⟩⟩,rfl,trivial⟩
 .show(((b::t).contains b)&&true)=true;rw[hct];rfl
 .refine⟨?_,hlt,trivial⟩;rw[hs];exact⟨_,rfl,rfl,.inr ⟨_,_,rfl,⟨_,_,rfl,⟨rfl,rfl⟩,⟨_,_,rfl,rfl,⟨_,_,rfl,rfl,rfl⟩⟩⟩,rfl⟩⟩
 .unfold GS;simp[hs,sg];rfl
 .rw[List.append_nil];exact⟨hct,Pf rfl,trivial⟩
 .rw[List.append_nil];exact htr
 .rw[List.append_nil];exact he
end
section
variable {dst:Option Tmp}{ty:TypeId}{pos:String}{aft:Array Edge}{g:Option (Nat×Bool)}
theorem jU(b:Nat)(t:List Nat){ins:Operand->Option AV}{hp:Hp}{κ:Kp}{fo:Operand}{xs:Array Operand}{ats:Array TypeId}{f:FuncId}{caps avs ds:List AV}{e:List (List AV)}{i h I H:Int}{r:AV}
  (hc:HasE Tryz.prog f ds [(0,⟨3,[[.list 1 e,.int i,.int h]]⟩)] 1 r [(0,⟨3,[[.list 1 e,.int I,.int H]]⟩)]) (hf:ins fo=some (.fn f caps):=by exact k) (hx:Hz ins xs.toList=some avs:=by exact k)
  (hav:All2 (Un (sg [(0,b)]) 1 hp (b::t) [(0,⟨3,[[.list 1 e,.int i,.int h]]⟩)]) (avs++caps) ds:=by exact jM) (hb:hp b=some ⟨3,[[.list 1 e,.int i,.int h]]⟩/\((b::t).all λb=>(hp b).isSome)=true:=by exact k2)
  (hr:Mp (sg [(b,0)]) (b+1) r r:=by exact jM) (htr:Rq (b::t) r=true:=by exact k):
  AEff Tryz.prog ⟨dst,.call ⟨.value fo,xs,ats⟩,ty,pos,aft,g⟩ ins hp κ ⟨r,b::t,yA (b::t) [(b,⟨3,[[.list 1 e,.int I,.int H]]⟩)],[]⟩:=aDs b t hc hf hx hav hb.1 hb.2 hr htr rfl
end
end
noncomputable section
def EB(x1:(Int×ByteArray)):Option ((Int×ByteArray) ⊕ ByteArray):=
 bif !decide (x1.1=0)then
 (bif decide (x1.1.tmod 10<0)then
 (bif decide ((Ql [IntKind.u8.wrap (wr (48+(wr (-(x1.1.tmod 10)))))]).size +x1.2.size<=9223372036854775807)then
 some (.inl (wr (x1.1.tdiv 10),((Ql [IntKind.u8.wrap (wr (48+(wr (-(x1.1.tmod 10)))))])++x1.2)))
 else none)
 else
 (bif decide ((Ql [IntKind.u8.wrap (wr (48+(x1.1.tmod 10)))]).size +x1.2.size<=9223372036854775807)then
 some (.inl (wr (x1.1.tdiv 10),((Ql [IntKind.u8.wrap (wr (48+(x1.1.tmod 10)))])++x1.2)))
 else none))
 else
 some (.inr x1.2)
def nQ(a0:Int):Option ByteArray:=
 bif decide (a0=0)then
 some ((⟨#[48]⟩:ByteArray))
 else
 ((Lp EB (a0,(⟨#[]⟩:ByteArray))).bind λy6=>
 bif decide (a0<0)then
 (bif decide ((⟨#[45]⟩:ByteArray).size +y6.size<=9223372036854775807)then
 some (((⟨#[45]⟩:ByteArray)++y6))
 else none)
 else
 (some y6))
theorem Cd(a0:Int)(r:ByteArray)(h:nQ a0=some r):HasC Tryz.prog 216 [.int a0] (.str r):=by
 refine hM [.tmp 2] Tryz.func216 Tryz.ntmps216 k<|sR<|aT k2<|sQ<|sR<|am k k<|cm k4<|an<|tn<|cH k h (λ_ h=>jo) λ_ h=>?_;refine aG<|tn<|sR<|aT k2<|sR<|am k k<|cm k4<|aT k2<|sQ<|jB h (λx1=>mN [(0,.int x1.1),(3,.str x1.2),(4,.bl (decide (a0<0)))] [] 0) (λr=>mN [(3,.str r),(4,.bl (decide (a0<0)))] [] 0) ?_ ?_
 .intro x1 o h;exact sQ<|sR<|am k k<|cm k4<|an<|tn<|cH k h (λ_ h=>aG<|tn<|aL<|sR<|am k k<|ae (Dy k k (by decide)) k<|aT k2<|sQ<|sR<|am k k<|cm k4<|an<|tn<|cH k h (λ_ h=>rg<|am k k<|ae (UP k) k<|aT k2<|sR<|am k k<|ae (bG k k) k<|ae (aDN (u0:=.int .i64) (by kernel_rfl) (by kernel_rfl) k) k<|ae (wl k) k<|ae (aDO (e:=5) (l:=[IntKind.u8.wrap (wr (48+(wr (-(x1.1.tmod 10)))))]) (by kernel_rfl) (by kernel_rfl) (by kernel_rfl) k (St k k ⟨_,_,k,⟨_,_,k,k,k⟩,k⟩)) k<|am k k<|cG h λq4 h=>ae (Nl k k q4) k<|aT k2<|rg<|am k k<|ae (PL k k (by decide)) k<|jo) λ_ h=>aG<|tn<|sR<|am k k<|ae (bG k k) k<|ae (aDN (u0:=.int .i64) (by kernel_rfl) (by kernel_rfl) k) k<|ae (wl k) k<|ae (aDO (e:=5) (l:=[IntKind.u8.wrap (wr (48+(x1.1.tmod 10)))]) (by kernel_rfl) (by kernel_rfl) (by kernel_rfl) k (St k k ⟨_,_,k,⟨_,_,k,k,k⟩,k⟩)) k<|am k k<|cG h λq5 h=>ae (Nl k k q5) k<|aT k2<|rg<|am k k<|ae (PL k k (by decide)) k<|jo) λ_ h=>aR<|jo
 .intro y6 _ h;exact sQ<|sR<|am k k<|an<|tn<|cH k h (λ_ h=>sR<|am k k<|cG h λq8 h=>ae (Nl k k q8) k<|jo) λ_ h=>aG<|jo
def tI(a0:Qv)(x1:(ByteArray×Int)):Option ((ByteArray×Int) ⊕ ByteArray):=
 bif decide (x1.2<(a0.src.length:Int))then
 (bif decide (x1.1.size+(⟨#[32]⟩:ByteArray).size <=9223372036854775807)then
 ((bP a0.src x1.2).bind λv5=>
 (nQ v5).bind λv6=>
 bif decide ((x1.1++(⟨#[32]⟩:ByteArray)).size +v6.size<=9223372036854775807)then
 ((bP a0.tgt x1.2).bind λv7=>
 (nQ v7).bind λv8=>
 bif decide (((x1.1++(⟨#[32]⟩:ByteArray))++v6).size +v8.size<=9223372036854775807)then
 some (.inl ((((x1.1++(⟨#[32]⟩:ByteArray))++v6)++v8),wr (x1.2+1)))
 else none)
 else none)
 else none)
 else
 some (.inr x1.1)
def qX(a0:Qv):Option ByteArray:=
 (kD a0).bind λv1=>
 bif !v1 then
 some ((⟨#[]⟩:ByteArray))
 else
 ((nQ a0.n).bind λv3=>
 bif decide (v3.size+(⟨#[58]⟩:ByteArray).size <=9223372036854775807)then
 ((Lp (tI a0) ((v3++(⟨#[58]⟩:ByteArray)),0)).bind λy12=>
 some y12)
 else none)
theorem Jj(a0:Qv)(r:ByteArray)(h:qX a0=some r):HasC Tryz.prog 187 [.agg (eQ a0)] (.str r):=by
 refine hM [.tmp 2] Tryz.func187 Tryz.ntmps187 k<|sR<|ae (wb k) k<|aT k2<|sQ<|sR<|lp k8<|oB h λv1 hv1 h=>ae (jc (DS _ _ hv1)) k<|ae (dE k) k<|an<|tn<|cH k h (λ_ h=>jo) λ_ h=>?_;refine aG<|tn<|sR<|fp k8<|lp k8<|oB h λv3 hv3 h=>ae (jc (Cd _ _ hv3)) k<|cG h λq13 h=>ae (Nl k k q13) k<|aT k2<|sQ<|sR<|aT k2<|jB h (λx1=>mN [(1,.ptr 0 0 0),(3,.str x1.1),(4,.int x1.2)] [(0,⟨3,[eQ a0]⟩)] 1) (λr=>mN [(3,.str r)] [] 0) ?_ ?_
 .intro x1 o h;refine sQ<|sR<|am k k<|fp k8<|lp k8<|ln k4<|cm k4<|an<|tn<|cH k h (λ_ h=>?_) λ_ h=>aR<|aC<|aC<|sp h ⟨_,k,k,jI⟩;refine aG<|tn<|sQ<|aL<|aH dK<|am k k<|cG h λq11 h=>ae (Nl k k q11) k<|fp k8<|lp k8<|am k k<|jl h k2 λv5 hv5 h=>lr k7<|oB h λv6 hv6 h=>ae (jc (Cd _ _ hv6)) k<|cG h λq10 h=>ae (Nl k k q10) k<|fp k8<|lp k8<|am k k<|jl h k2 λv7 hv7 h=>lr k7<|oB h λv8 hv8 h=>ae (jc (Cd _ _ hv8)) k<|cG h λq9 h=>ae (Nl k k q9) k<|aa k k<|an<|lZ (by kernel_rfl)<|aY<|tn<|rg<|am k k<|ae (bG k k) k ?_;exact jo
 .intro y12 _ h;exact jo
def Hk(a0:ByteArray)(a1:Int)(x1:((List ByteArray)×Int×ByteArray)):Option (((List ByteArray)×Int×ByteArray) ⊕ ((List ByteArray)×ByteArray)):=
 bif decide (x1.2.1<(a0.size:Int))then
 ((DE a0 x1.2.1).bind λv2=>
 bif decide (v2=a1)then
 (bif decide (x1.1.length+[x1.2.2].length <=4294967296)then
 some (.inl ((x1.1++[x1.2.2]),wr (x1.2.1+1),(⟨#[]⟩:ByteArray)))
 else none)
 else
 (bif(decide (0<=x1.2.1)&&(decide (x1.2.1<=wr (x1.2.1+1))&&decide (wr (x1.2.1+1)<=(a0.size:Int))))then
 (bif decide (x1.2.2.size+(a0.extract x1.2.1.toNat (wr (x1.2.1+1)).toNat).size <=9223372036854775807)then
 some (.inl (x1.1,wr (x1.2.1+1),(x1.2.2++(a0.extract x1.2.1.toNat (wr (x1.2.1+1)).toNat))))
 else none)
 else none))
 else
 some (.inr (x1.1,x1.2.2))
def ET(a0:ByteArray)(a1:Int):Option (List ByteArray):=
 (Lp (Hk a0 a1) (([]:(List ByteArray)),0,(⟨#[]⟩:ByteArray))).bind λy7=>
 bif decide (y7.1.length+[y7.2].length <=4294967296)then
 some ((y7.1++[y7.2]))
 else none
theorem TS(a0:ByteArray)(a1:Int)(r:(List ByteArray))(h:ET a0 a1=some r):HasC Tryz.prog 186 [.str a0,.sc (.int .u8 a1)] (.list 1 (r.map UR)):=by
 refine hM [.tmp 4] Tryz.func186 Tryz.ntmps186 k<|sR<|aT k2<|sR<|ae (wl k) k<|aT k2<|sR<|aT k2<|sQ<|sR<|aT k2<|jB h (λx1=>mN [(0,.str a0),(1,.sc (.int .u8 a1)),(5,.own 0 0 x1.1.length),(6,.str x1.2.2),(7,.int x1.2.1)] [(0,⟨1,x1.1.map (ow UR)⟩)] 1) (λr=>mN [(5,.own 0 0 r.1.length),(6,.str r.2)] [(0,⟨1,r.1.map (ow UR)⟩)] 1) ?_ ?_
 .intro x1 o h;exact sQ<|sR<|am k k<|am k k<|ae (TC (by kernel_rfl) k) k<|cm k4<|an<|tn<|cH k h (λ_ h=>aG<|tn<|sQ<|aL<|sR<|am k k<|am k k<|oB h λv2 hv2 h=>ae (Lk (by kernel_rfl) hv2 k k) k<|am k k<|cm k4<|an<|tn<|cH k h (λ_ h=>sR<|am k k<|am k k<|ae (wl k) k<|cG h λq4 h=>ae (gZ aJ (l:=x1.1) (m:=[x1.2.2]) aAF q4 k k k k k k k k k k k k) k<|aT k2<|rg<|aa k k<|an<|aY<|tn<|rg<|am k k<|ae (bG k k) k<|aT k2<|sp h ⟨_,k,(jZ [2])⟩) λ_ h=>rg<|am k k<|am k k<|am k k<|am k k<|ae (bG k k) k<|cG h λq5 h=>ae (aAi (by kernel_rfl) q5 k k k) k<|cG h λq6 h=>ae (Nl k k q6) k<|jo) λ_ h=>aR<|jo
 .intro y7 _ h;exact sR<|am k k<|am k k<|ae (wl k) k<|cG h λq8 h=>ae (gZ aJ (l:=y7.1) (m:=[y7.2]) aAF q8 k k k k k k k k k k k k) k<|aT k2<|aV<|sp h (bH k k k (kK (cP US k k)))
def CC(v1:(List ByteArray))(x1:(aA×aA×Int)):Option ((aA×aA×Int) ⊕ ((aA×aA) ⊕ (Qv×Bool))):=
 bif decide (x1.2.2<((v1.length:Nat):Int))then
 ((bP v1 x1.2.2).bind λv8=>
 bif !decide ((v8.size:Int)=2)then
 some (.inr (.inr (((⟨0,[],[]⟩:Qv),false))))
 else
 ((bP v1 x1.2.2).bind λv10=>
 (DE v10 0).bind λv11=>
 bif decide (x1.1.length+[wr ((IntKind.i64.wrap v11)-48)].length <=4294967296)then
 ((bP v1 x1.2.2).bind λv13=>
 (DE v13 1).bind λv14=>
 bif decide (x1.2.1.length+[wr ((IntKind.i64.wrap v14)-48)].length <=4294967296)then
 some (.inl ((x1.1++[wr ((IntKind.i64.wrap v11)-48)]),(x1.2.1++[wr ((IntKind.i64.wrap v14)-48)]),wr (x1.2.2+1)))
 else none)
 else none))
 else
 some (.inr (.inl (x1.1,x1.2.1)))
def cO(a0:ByteArray):Option (Qv×Bool):=
 (ET a0 32).bind λv1=>
 (bP v1 0).bind λv2=>
 bif !decide ((v2.size:Int)=2)then
 some (((⟨0,[],[]⟩:Qv),false))
 else
 (bif decide (30<(a0.size:Int))then
 some (((⟨0,[],[]⟩:Qv),false))
 else
 ((bP v1 0).bind λv5=>
 (DE v5 0).bind λv6=>
 (Lp (CC v1) (([]:aA),([]:aA),1)).bind λy16=>
 Sum.elim (λy17=>
 (qX (⟨wr ((IntKind.i64.wrap v6)-48),y17.1,y17.2⟩:Qv)).bind λv18=>
 bif !LK v18 a0 then
 some (((⟨0,[],[]⟩:Qv),false))
 else
 (some (((⟨wr ((IntKind.i64.wrap v6)-48),y17.1,y17.2⟩:Qv),true)))
 )
 (λy20=>
 some y20
 )
 y16))
theorem dJ(a0:ByteArray)(r:(Qv×Bool))(h:cO a0=some r):HasC Tryz.prog 153 [.str a0] (.tuple [.agg (eQ r.1),.bl r.2]):=by
 refine hM [.cell 2 26,.tmp 3] Tryz.func153 Tryz.ntmps153 k<|sR<|jA k3<|aT k2<|sR<|am k k<|oB h λv1 hv1 h=>ae (cL US (TS _ _ _ hv1) k3 (fE k (fE k aU))) k<|aT k2<|sQ<|sR<|am k k<|jp h k2 λv2 hv2 h=>ae (wp hv2 k) k<|ae (TC (by kernel_rfl) k) k<|cm k4<|am k k<|iR h (λq3 h=>aE 14 k q3<|aK k4<|ak k k<|pk k3<|an<|tn<|kO k k<|sR<|ae (eP aJ k k k k k k) k<|ae (ws k) k<|aT k2<|aV<|bU<|sp h (bH k k k (bO k (aW (gF (aM k (aM k (aM k cY)))) (aW k cZ))))) λq3 h=>?_;refine aE 14 k q3<|am k k<|ae (TC (by kernel_rfl) k) k<|cm k4<|pk k3<|an<|tn<|cH k h (λ_ h=>sR<|ae (eP aJ k k k k k k) k<|ae (ws k) k<|aT k2<|aV<|bU<|sp h (bH k k k (bO k (aW (gF (aM k (aM k (aM k cY)))) (aW k cZ))))) λ_ h=>?_;refine aG<|tn<|sR<|am k k<|jp h k2 λv5 hv5 h=>ae (wp hv5 k) k<|oB h λv6 hv6 h=>ae (Lk (by kernel_rfl) hv6 k k) k<|ae (oZ (k1:=.u8) (k2:=.i64) (by kernel_rfl) (by kernel_rfl) k) k<|ae (iI k k) k<|ae (wl k) k<|ae (wl k) k<|ae (eP aJ k k k k k k) k<|jA k3<|ae (ws k) k<|an<|tn<|sQ<|sR<|aT k2<|jS [.cell 2 26,.tmp 3] (λr=>.tuple [.agg (eQ r.1),.bl r.2]) h (λx1=>mN [(0,.str a0),(2,.ptr 0 0 0),(4,.own 1 0 v1.length),(5,.ptr 2 0 0),(6,.int x1.2.2)] [(0,⟨3,[[.int 0,.nil 1,.nil 1]]⟩),(1,⟨1,v1.map (ow UR)⟩),(2,⟨3,[[.int (wr ((IntKind.i64.wrap v6)-48)),.own 3 0 x1.1.length,.own 4 0 x1.2.1.length]]⟩),(3,⟨1,x1.1.map (ow eI)⟩),(4,⟨1,x1.2.1.map (ow eI)⟩)] 5) (λr=>mN [(0,.str a0),(2,.ptr 0 0 0),(5,.ptr 1 0 0)] [(0,⟨3,[[.int 0,.nil 1,.nil 1]]⟩),(1,⟨3,[[.int (wr ((IntKind.i64.wrap v6)-48)),.own 2 0 r.1.length,.own 3 0 r.2.length]]⟩),(2,⟨1,r.1.map (ow eI)⟩),(3,⟨1,r.2.map (ow eI)⟩)] 4) ?_ ?_ (jZ [0,1,4,2,3])
 .intro x1 o h;refine sQ<|sR<|am k k<|am k k<|jn k5<|cm k4<|an<|tn<|cH k h (λ_ h=>?_) λ_ h=>aR<|aC<|aC<|sp h ⟨_,k,k,(jZ [0,2,3,4])⟩;refine aG<|tn<|sQ<|aL<|sQ<|sR<|am k k<|am k k<|jp h k2 λv8 hv8 h=>ae (wp hv8 k) k<|ae (TC (by kernel_rfl) k) k<|cm k4<|an<|tn<|cH k h (λ_ h=>sR<|ae (eP aJ k k k k k k) k<|ae (ws k) k<|aT k2<|aV<|bU<|kU<|bU<|bU<|sp h ⟨_,k,k,bH k k k (bO k (aW (gF (aM k (aM k (aM k cY)))) (aW k cZ)))⟩) λ_ h=>?_;refine aG<|tn<|sQ<|aH dK<|fp k8<|lp k8<|am k k<|am k k<|jp h k2 λv10 hv10 h=>ae (wp hv10 k) k<|oB h λv11 hv11 h=>ae (Lk (by kernel_rfl) hv11 k k) k<|ae (oZ (k1:=.u8) (k2:=.i64) (by kernel_rfl) (by kernel_rfl) k) k<|ae (iI k k) k<|ae (wl k) k<|cG h λq12 h=>ae (gZ aJ (l:=x1.1) (m:=[wr ((IntKind.i64.wrap v11)-48)]) gS q12 k k k k k k k k k k k k) k<|fp k8<|ae (ws k) k<|an<|lZ (by kernel_rfl)<|tn<|aH dK<|fp k8<|lp k8<|am k k<|am k k<|jp h k2 λv13 hv13 h=>ae (wp hv13 k) k<|oB h λv14 hv14 h=>ae (Lk (by kernel_rfl) hv14 k k) k<|ae (oZ (k1:=.u8) (k2:=.i64) (by kernel_rfl) (by kernel_rfl) k) k ?_;exact ae (iI k k) k<|ae (wl k) k<|cG h λq15 h=>ae (gZ aJ (l:=x1.2.1) (m:=[wr ((IntKind.i64.wrap v14)-48)]) gS q15 k k k k k k k k k k k k) k<|fp k8<|ae (ws k) k<|an<|lZ (by kernel_rfl)<|aY<|tn<|rg<|am k k<|ae (bG k k) k<|aT k2<|sp h ⟨_,k,(jZ [0,1,2,6,8])⟩
 .intro y17 h;exact sQ<|sR<|lp k8<|oB h λv18 hv18 h=>ae (iQ (Jj _ _ hv18) k (aO (vaQ k4) aU)) k<|am k k<|ae (aEc k k) k<|an<|tn<|cH k h (λ_ h=>sR<|ae (eP aJ k k k k k k) k<|ae (ws k) k<|aT k2<|aV<|bU<|sp h (bH k k k (bO k (aW (gF (aM k (aM k (aM k cY)))) (aW k cZ))))) λ_ h=>aG<|tn<|sR<|lp k8<|ae (ws k) k<|aT k2<|aV<|sp h (bH k k k (bO k (aW (gF (aM k (aM (cP cD k k) (aM (cP cD k k) cY)))) (aW k cZ))))
def gX(a0:ByteArray):Option (Qv×Bool):=
 bif LK a0 (⟨#[65,49]⟩:ByteArray)then
 ((cO (⟨#[49,58]⟩:ByteArray)).bind λv2=>
 some ((v2.1,v2.2)))
 else
 (bif LK a0 (⟨#[65,50]⟩:ByteArray)then
 ((cO (⟨#[50,58,32,48,49]⟩:ByteArray)).bind λv4=>
 some ((v4.1,v4.2)))
 else
 (bif LK a0 (⟨#[65,51]⟩:ByteArray)then
 ((cO (⟨#[51,58,32,48,49,32,49,50]⟩:ByteArray)).bind λv6=>
 some ((v6.1,v6.2)))
 else
 (bif LK a0 (⟨#[65,51,105,110]⟩:ByteArray)then
 ((cO (⟨#[51,58,32,48,49,32,50,49]⟩:ByteArray)).bind λv8=>
 some ((v8.1,v8.2)))
 else
 (bif LK a0 (⟨#[65,52]⟩:ByteArray)then
 ((cO (⟨#[52,58,32,48,49,32,49,50,32,50,51]⟩:ByteArray)).bind λv10=>
 some ((v10.1,v10.2)))
 else
 (bif LK a0 (⟨#[68,52]⟩:ByteArray)then
 ((cO (⟨#[52,58,32,48,51,32,49,51,32,50,51]⟩:ByteArray)).bind λv12=>
 some ((v12.1,v12.2)))
 else
 (bif LK a0 (⟨#[68,53]⟩:ByteArray)then
 ((cO (⟨#[53,58,32,48,50,32,49,50,32,50,51,32,51,52]⟩:ByteArray)).bind λv14=>
 some ((v14.1,v14.2)))
 else
 (bif LK a0 (⟨#[75,50]⟩:ByteArray)then
 ((cO (⟨#[50,58,32,48,49,32,48,49]⟩:ByteArray)).bind λv16=>
 some ((v16.1,v16.2)))
 else
 (bif LK a0 (⟨#[115,116,97,114,52]⟩:ByteArray)then
 ((cO (⟨#[53,58,32,48,52,32,49,52,32,50,52,32,51,52]⟩:ByteArray)).bind λv18=>
 some ((v18.1,v18.2)))
 else
 (bif LK a0 (⟨#[115,113,117,97,114,101]⟩:ByteArray)then
 ((cO (⟨#[52,58,32,48,49,32,48,50,32,49,51,32,50,51]⟩:ByteArray)).bind λv20=>
 some ((v20.1,v20.2)))
 else
 (bif LK a0 (⟨#[108,111,111,112]⟩:ByteArray)then
 ((cO (⟨#[49,58,32,48,48]⟩:ByteArray)).bind λv22=>
 some ((v22.1,v22.2)))
 else
 (bif LK a0 (⟨#[99,105,114,99,108,101]⟩:ByteArray)then
 ((cO (⟨#[51,58,32,48,49,32,49,50,32,50,48]⟩:ByteArray)).bind λv24=>
 some ((v24.1,v24.2)))
 else
 ((cO (⟨#[]⟩:ByteArray)).bind λv25=>
 some ((v25.1,v25.2))))))))))))))
theorem AS(a0:ByteArray)(r:(Qv×Bool))(h:gX a0=some r):HasC Tryz.prog 88 [.str a0] (.tuple [.agg (eQ r.1),.bl r.2]):=by
 refine hM [.cell 2 26,.tmp 3] Tryz.func88 Tryz.ntmps88 k<|sR<|jA k3<|aT k2<|sR<|aT k2<|sQ<|sR<|am k k<|an<|tn<|aL<|sR<|ae (Hb k k) k<|aT k2<|cH k h (λ_ h=>rg<|aa k k<|an<|aY<|tn<|sR<|am k k<|oB h λv2 hv2 h=>ae (Vv (dJ _ _ hv2) k3 (fE k aU)) k<|am k k<|jx k4<|jx k4<|jA k3<|ae (ws k) k<|aT k2<|sR<|lp k8<|am k k<|ae (ws k) k<|aT k2<|aV<|sp h (bH k k k (bO k (aW (gF (aM k (aM (cP cD k k) (aM (cP cD k k) cY)))) (aW k cZ))))) λ_ h=>?_;refine sR<|ae (Hb k k) k<|aT k2<|cH k h (λ_ h=>rg<|aa k k<|an<|aY<|tn<|sR<|am k k<|oB h λv4 hv4 h=>ae (Vv (dJ _ _ hv4) k3 (fE k aU)) k<|am k k<|jx k4<|jx k4<|jA k3<|ae (ws k) k<|aT k2<|sR<|lp k8<|am k k<|ae (ws k) k<|aT k2<|aV<|sp h (bH k k k (bO k (aW (gF (aM k (aM (cP cD k k) (aM (cP cD k k) cY)))) (aW k cZ))))) λ_ h=>?_;refine sR<|ae (Hb k k) k<|aT k2<|cH k h (λ_ h=>rg<|aa k k<|an<|aY<|tn<|sR<|am k k<|oB h λv6 hv6 h=>ae (Vv (dJ _ _ hv6) k3 (fE k aU)) k<|am k k<|jx k4<|jx k4<|jA k3<|ae (ws k) k<|aT k2<|sR<|lp k8<|am k k<|ae (ws k) k<|aT k2<|aV<|sp h (bH k k k (bO k (aW (gF (aM k (aM (cP cD k k) (aM (cP cD k k) cY)))) (aW k cZ))))) λ_ h=>?_;refine sR<|ae (Hb k k) k<|aT k2<|cH k h (λ_ h=>rg<|aa k k<|an<|aY<|tn<|sR<|am k k<|oB h λv8 hv8 h=>ae (Vv (dJ _ _ hv8) k3 (fE k aU)) k<|am k k<|jx k4<|jx k4<|jA k3<|ae (ws k) k<|aT k2<|sR<|lp k8<|am k k<|ae (ws k) k<|aT k2<|aV<|sp h (bH k k k (bO k (aW (gF (aM k (aM (cP cD k k) (aM (cP cD k k) cY)))) (aW k cZ))))) λ_ h=>?_;refine sR<|ae (Hb k k) k<|aT k2<|cH k h (λ_ h=>?_) λ_ h=>?_
 .exact rg<|aa k k<|an<|aY<|tn<|sR<|am k k<|oB h λv10 hv10 h=>ae (Vv (dJ _ _ hv10) k3 (fE k aU)) k<|am k k<|jx k4<|jx k4<|jA k3<|ae (ws k) k<|aT k2<|sR<|lp k8<|am k k<|ae (ws k) k<|aT k2<|aV<|sp h (bH k k k (bO k (aW (gF (aM k (aM (cP cD k k) (aM (cP cD k k) cY)))) (aW k cZ))))
 .refine sR<|ae (Hb k k) k<|aT k2<|cH k h (λ_ h=>?_) λ_ h=>?_
  .exact rg<|aa k k<|an<|aY<|tn<|sR<|am k k<|oB h λv12 hv12 h=>ae (Vv (dJ _ _ hv12) k3 (fE k aU)) k<|am k k<|jx k4<|jx k4<|jA k3<|ae (ws k) k<|aT k2<|sR<|lp k8<|am k k<|ae (ws k) k<|aT k2<|aV<|sp h (bH k k k (bO k (aW (gF (aM k (aM (cP cD k k) (aM (cP cD k k) cY)))) (aW k cZ))))
  .refine sR<|ae (Hb k k) k<|aT k2<|cH k h (λ_ h=>?_) λ_ h=>?_
   .exact rg<|aa k k<|an<|aY<|tn<|sR<|am k k<|oB h λv14 hv14 h=>ae (Vv (dJ _ _ hv14) k3 (fE k aU)) k<|am k k<|jx k4<|jx k4<|jA k3<|ae (ws k) k<|aT k2<|sR<|lp k8<|am k k<|ae (ws k) k<|aT k2<|aV<|sp h (bH k k k (bO k (aW (gF (aM k (aM (cP cD k k) (aM (cP cD k k) cY)))) (aW k cZ))))
   .refine sR<|ae (Hb k k) k<|aT k2<|cH k h (λ_ h=>?_) λ_ h=>?_
    .exact rg<|aa k k<|an<|aY<|tn<|sR<|am k k<|oB h λv16 hv16 h=>ae (Vv (dJ _ _ hv16) k3 (fE k aU)) k<|am k k<|jx k4<|jx k4<|jA k3<|ae (ws k) k<|aT k2<|sR<|lp k8<|am k k<|ae (ws k) k<|aT k2<|aV<|sp h (bH k k k (bO k (aW (gF (aM k (aM (cP cD k k) (aM (cP cD k k) cY)))) (aW k cZ))))
    .refine sR<|ae (Hb k k) k<|aT k2<|cH k h (λ_ h=>?_) λ_ h=>?_
     .exact rg<|aa k k<|an<|aY<|tn<|sR<|am k k<|oB h λv18 hv18 h=>ae (Vv (dJ _ _ hv18) k3 (fE k aU)) k<|am k k<|jx k4<|jx k4<|jA k3<|ae (ws k) k<|aT k2<|sR<|lp k8<|am k k<|ae (ws k) k<|aT k2<|aV<|sp h (bH k k k (bO k (aW (gF (aM k (aM (cP cD k k) (aM (cP cD k k) cY)))) (aW k cZ))))
     .refine sR<|ae (Hb k k) k<|aT k2<|cH k h (λ_ h=>rg<|aa k k<|an<|aY<|tn<|sR<|am k k<|oB h λv20 hv20 h=>ae (Vv (dJ _ _ hv20) k3 (fE k aU)) k<|am k k<|jx k4<|jx k4<|jA k3<|ae (ws k) k<|aT k2<|sR<|lp k8<|am k k<|ae (ws k) k<|aT k2<|aV<|sp h (bH k k k (bO k (aW (gF (aM k (aM (cP cD k k) (aM (cP cD k k) cY)))) (aW k cZ))))) λ_ h=>?_;refine sR<|ae (Hb k k) k<|aT k2<|cH k h (λ_ h=>rg<|aa k k<|an<|aY<|tn<|sR<|am k k<|oB h λv22 hv22 h=>ae (Vv (dJ _ _ hv22) k3 (fE k aU)) k<|am k k<|jx k4<|jx k4<|jA k3<|ae (ws k) k<|aT k2<|sR<|lp k8<|am k k<|ae (ws k) k<|aT k2<|aV<|sp h (bH k k k (bO k (aW (gF (aM k (aM (cP cD k k) (aM (cP cD k k) cY)))) (aW k cZ))))) λ_ h=>?_;exact sR<|ae (Hb k k) k<|aT k2<|cH k h (λ_ h=>rg<|aa k k<|an<|aY<|tn<|sR<|am k k<|oB h λv24 hv24 h=>ae (Vv (dJ _ _ hv24) k3 (fE k aU)) k<|am k k<|jx k4<|jx k4<|jA k3<|ae (ws k) k<|aT k2<|sR<|lp k8<|am k k<|ae (ws k) k<|aT k2<|aV<|sp h (bH k k k (bO k (aW (gF (aM k (aM (cP cD k k) (aM (cP cD k k) cY)))) (aW k cZ))))) λ_ h=>aG<|aY<|tn<|sR<|am k k<|oB h λv25 hv25 h=>ae (Vv (dJ _ _ hv25) k3 (fE k aU)) k<|am k k<|jx k4<|jx k4<|jA k3<|ae (ws k) k<|aT k2<|sR<|lp k8<|am k k<|ae (ws k) k<|aT k2<|aV<|sp h (bH k k k (bO k (aW (gF (aM k (aM (cP cD k k) (aM (cP cD k k) cY)))) (aW k cZ))))
def FL:Option (List ByteArray):=
 some ([(⟨#[65,49]⟩:ByteArray),(⟨#[65,50]⟩:ByteArray),(⟨#[65,51]⟩:ByteArray),(⟨#[65,51,105,110]⟩:ByteArray),(⟨#[65,52]⟩:ByteArray),(⟨#[68,52]⟩:ByteArray),(⟨#[68,53]⟩:ByteArray),(⟨#[75,50]⟩:ByteArray),(⟨#[115,116,97,114,52]⟩:ByteArray),(⟨#[115,113,117,97,114,101]⟩:ByteArray),(⟨#[108,111,111,112]⟩:ByteArray),(⟨#[99,105,114,99,108,101]⟩:ByteArray)])
theorem QG(r:(List ByteArray))(h:FL=some r):HasC Tryz.prog 196 [] (.list 1 (r.map UR)):=by
 exact hM [.tmp 0] Tryz.func196 Tryz.ntmps196 k<|sR<|aT k2<|sR<|ae (wl k) k<|aT k2<|aV<|sp h (bH k k k (kK (cP US k k)))
def tZ(a0:aA)(x1:(Int×Int)):Option ((Int×Int) ⊕ Int):=
 bif decide (x1.2<(a0.length:Int))then
 (bif decide (x1.2<4000)then
 ((bP a0 x1.2).bind λv3=>
 some (.inl (Mm (wr ((wr ((wr (x1.1*131))+(IntKind.i64.wrap v3)))+7)) 1073741823,wr (x1.2+1))))
 else
 (some (.inr x1.1)))
 else
 some (.inr x1.1)
def qA(a0:aA):Option Int:=
 (Lp (tZ a0) (wr (10101+(a0.length:Int)),0)).bind λy4=>
 some y4
theorem Bb(a0:aA)(r:Int)(h:qA a0=some r):HasE Tryz.prog 40 [.list 1 (a0.map eU)] [] 0 (.ptr 0 0 0) [(0,⟨3,[[.list 1 (a0.map eU),.int 0,.int r]]⟩)]:=by
 refine fI aJ (rvs:=[.tmp 2]) (ns:=Dz.drop 0) Tryz.func40 k k Tryz.ntmps40 k k<|sR<|aT k2<|sR<|am k k<|ln k4<|ae (bG k k) k<|aT k2<|sQ<|sR<|aT k2<|jB h (λx1=>mN [(0,.list 1 (a0.map eU)),(3,.int x1.1),(4,.int x1.2)] [] 0 ⟨0,false,none,true⟩) (λr=>mN [(0,.list 1 (a0.map eU)),(3,.int r)] [] 0 ⟨0,false,none,true⟩) ?_ ?_
 .intro x1 o h;exact sQ<|sR<|am k k<|am k k<|ln k4<|cm k4<|am k k<|iR h (λq1 h=>aE 12 k q1<|am k k<|cm k4<|pk k3<|an<|tn<|cH k h (λ_ h=>aG<|tn<|sQ<|aL<|rg<|am k k<|ae (fF k k) k<|am k k<|am k k<|jl h k2 λv3 hv3 h=>lr k7<|ae (oZ (k1:=.u8) (k2:=.i64) (by kernel_rfl) (by kernel_rfl) k) k<|ae (bG k k) k<|ae (bG k k) k<|ae (Xi k k) k<|jo) λ_ h=>aR<|jo) λq1 h=>aE 12 k q1<|jo
 .intro y4 _ h;exact sR<|am k k<|am k k<|ae (eP aJ k k k k k k) k<|ae (wb k) k<|aT k2<|aV<|sp h ⟨mN [(2,.ptr 0 0 0)] [(0,⟨3,[[.list 1 (a0.map eU),.int 0,.int y4]]⟩)] 1 ⟨0,false,none,true⟩,jI,k,⟨_,k,.inl k⟩,⟨k,dY⟩⟩
def nL(a0:Cu):Option (Int×Int):=
 bif decide (a0.i<(a0.b.length:Int))then
 ((bP a0.b a0.i).bind λv2=>
 some (wr (a0.i+1),Mm (wr ((Mm (Yk (Ml (wr ((wr (a0.h*6364136223846793005))+1442695040888963407)) 33) (Ml (wr ((wr (a0.h*6364136223846793005))+1442695040888963407)) 45)) 255)+(IntKind.i64.wrap v2))) 255))
 else
 some (a0.i,Mm (Yk (Ml (wr ((wr (a0.h*6364136223846793005))+1442695040888963407)) 33) (Ml (wr ((wr (a0.h*6364136223846793005))+1442695040888963407)) 45)) 255)
theorem yW(a0:Cu)(r:(Int×Int))(h:nL a0=some r):HasE Tryz.prog 91 [.ptr 0 0 0] [(0,⟨3,[[.list 1 (a0.b.map eU),.int a0.i,.int a0.h]]⟩)] 1 (.int r.2) [(0,⟨3,[[.list 1 (a0.b.map eU),.int r.1,.int (wr ((wr (a0.h*6364136223846793005))+1442695040888963407))]]⟩)]:=by
 refine fI aJ (rvs:=[.tmp 2]) (ns:=Dz.drop 1) Tryz.func91 k k Tryz.ntmps91 k k<|sR<|aT k2<|sR<|am k k<|am k k<|ae (iJ k k) k<|fp k8<|lp k8<|ae (fF k k) k<|ae (bG k k) k<|ae (iJ k k) k<|fp k8<|ae (ws k) k<|an<|tn<|sQ<|aH dK<|am k k<|ae (iJ k k) k<|fp k8<|lp k8<|ae (aBA k k (by decide)) k<|am k k<|ae (iJ k k) k<|fp k8 ?_;refine lp k8<|ae (aBA k k (by decide)) k<|ae (aEd k k) k<|ae (Xi k k) k<|aa k k<|an<|lZ (by kernel_rfl)<|tn<|sQ<|sQ<|aH dK<|am k k<|ae (iJ k k) k<|fp k8<|lp k8<|am k k<|ae (iJ k k) k<|fp k8<|lp k8<|ln k4<|cm k4<|an<|lZ (by kernel_rfl)<|tn<|cH k h (λ_ h=>?_) λ_ h=>aG<|tn<|sR<|am k k<|aT k2<|aV<|sp h ⟨mN [(2,.int (Mm (Yk (Ml (wr ((wr (a0.h*6364136223846793005))+1442695040888963407)) 33) (Ml (wr ((wr (a0.h*6364136223846793005))+1442695040888963407)) 45)) 255))] [(0,⟨3,[[.list 1 (a0.b.map eU),.int a0.i,.int (wr ((wr (a0.h*6364136223846793005))+1442695040888963407))]]⟩)] 1 1,jI,k,⟨_,k,.inl k⟩,⟨k,dY⟩⟩;refine sQ<|aH dK<|am k k<|am k k<|ae (iJ k k) k<|fp k8<|lp k8<|am k k<|ae (iJ k k) k<|fp k8<|lp k8<|jl h k2 λv2 hv2 h=>lr k7<|ae (oZ (k1:=.u8) (k2:=.i64) (by kernel_rfl) (by kernel_rfl) k) k<|ae (bG k k) k<|ae (Xi k k) k<|aa k k<|an<|lZ (by kernel_rfl)<|tn<|rg<|am k k<|am k k<|ae (iJ k k) k<|fp k8<|lp k8<|ae (bG k k) k<|ae (iJ k k) k ?_;exact fp k8<|ae (ws k) k<|an<|tn<|sR<|am k k<|aT k2<|aV<|sp h ⟨mN [(2,.int (Mm (wr ((Mm (Yk (Ml (wr ((wr (a0.h*6364136223846793005))+1442695040888963407)) 33) (Ml (wr ((wr (a0.h*6364136223846793005))+1442695040888963407)) 45)) 255)+(IntKind.i64.wrap v2))) 255))] [(0,⟨3,[[.list 1 (a0.b.map eU),.int (wr (a0.i+1)),.int (wr ((wr (a0.h*6364136223846793005))+1442695040888963407))]]⟩)] 1 1,jI,k,⟨_,k,.inl k⟩,⟨k,dY⟩⟩
def cE(a0:Cu)(a1:Int):Option (Int×Int×Int):=
 bif decide (a1<=0)then
 some (a0.i,a0.h,0)
 else
 (bif decide (a1<=256)then
 ((nL a0).bind λv3=>
 bif !decide (a1=0)then
 some (v3.1,wr ((wr (a0.h*6364136223846793005))+1442695040888963407),v3.2.tmod a1)
 else none)
 else
 ((nL a0).bind λv5=>
 (nL (⟨a0.b,v5.1,wr ((wr (a0.h*6364136223846793005))+1442695040888963407)⟩:Cu)).bind λv6=>
 (nL (⟨a0.b,v6.1,wr ((wr ((wr ((wr (a0.h*6364136223846793005))+1442695040888963407))*6364136223846793005))+1442695040888963407)⟩:Cu)).bind λv7=>
 (nL (⟨a0.b,v7.1,wr ((wr ((wr ((wr ((wr ((wr (a0.h*6364136223846793005))+1442695040888963407))*6364136223846793005))+1442695040888963407))*6364136223846793005))+1442695040888963407)⟩:Cu)).bind λv8=>
 bif !decide (a1=0)then
 some (v8.1,wr ((wr ((wr ((wr ((wr ((wr ((wr ((wr (a0.h*6364136223846793005))+1442695040888963407))*6364136223846793005))+1442695040888963407))*6364136223846793005))+1442695040888963407))*6364136223846793005))+1442695040888963407),(wr ((wr ((wr ((wr (v5.2*16777216))+(wr (v6.2*65536))))+(wr (v7.2*256))))+v8.2)).tmod a1)
 else none))
theorem dH(a0:Cu)(a1:Int)(r:(Int×Int×Int))(h:cE a0 a1=some r):HasE Tryz.prog 42 [.ptr 0 0 0,.int a1] [(0,⟨3,[[.list 1 (a0.b.map eU),.int a0.i,.int a0.h]]⟩)] 1 (.int r.2.2) [(0,⟨3,[[.list 1 (a0.b.map eU),.int r.1,.int r.2.1]]⟩)]:=by
 refine fI aJ (rvs:=[.tmp 4]) (ns:=Dz.drop 1) Tryz.func42 k k Tryz.ntmps42 k k<|sR<|aT k2<|sQ<|sR<|am k k<|cm k4<|an<|tn<|cH k h (λ_ h=>sR<|aT k2<|aV<|bU<|sp h ⟨mN [(4,.int 0)] [(0,⟨3,[[.list 1 (a0.b.map eU),.int a0.i,.int a0.h]]⟩)] 1 1,jI,k,⟨_,k,.inl k⟩,⟨k,dY⟩⟩) λ_ h=>?_;refine aG<|tn<|sQ<|sR<|am k k<|cm k4<|an<|tn<|cH k h (λ_ h=>sR<|am k k<|oB h λv3 hv3 h=>ae (jU 0 [] (yW _ _ hv3)) k<|am k k<|cG h λq4 h=>ae (Dy k k q4) k<|aT k2<|aV<|bU<|sp h ⟨mN [(4,.int (v3.2.tmod a1))] [(0,⟨3,[[.list 1 (a0.b.map eU),.int v3.1,.int (wr ((wr (a0.h*6364136223846793005))+1442695040888963407))]]⟩)] 1 1,jI,k,⟨_,k,.inl k⟩,⟨k,dY⟩⟩) λ_ h=>?_;refine aG<|tn<|sR<|am k k<|oB h λv5 hv5 h=>ae (jU 0 [] (yW _ _ hv5)) k<|aT k2<|sR<|am k k<|oB h λv6 hv6 h=>ae (jU 0 [] (yW _ _ hv6)) k<|aT k2<|sR<|am k k<|oB h λv7 hv7 h=>ae (jU 0 [] (yW _ _ hv7)) k<|aT k2<|sR<|am k k<|oB h λv8 hv8 h=>ae (jU 0 [] (yW _ _ hv8)) k<|aa k k<|an ?_;exact tn<|sR<|am k k<|ae (fF k k) k<|am k k<|ae (fF k k) k<|ae (bG k k) k<|am k k<|ae (fF k k) k<|ae (bG k k) k<|am k k<|ae (bG k k) k<|am k k<|cG h λq9 h=>ae (Dy k k q9) k<|aT k2<|aV<|sp h ⟨mN [(4,.int ((wr ((wr ((wr ((wr (v5.2*16777216))+(wr (v6.2*65536))))+(wr (v7.2*256))))+v8.2)).tmod a1))] [(0,⟨3,[[.list 1 (a0.b.map eU),.int v8.1,.int (wr ((wr ((wr ((wr ((wr ((wr ((wr ((wr (a0.h*6364136223846793005))+1442695040888963407))*6364136223846793005))+1442695040888963407))*6364136223846793005))+1442695040888963407))*6364136223846793005))+1442695040888963407))]]⟩)] 1 1,jI,k,⟨_,k,.inl k⟩,⟨k,dY⟩⟩
def nM(a0:Cu)(a1:Int):Option (Int×Int×Bool):=
 (cE a0 a1).bind λv1=>
 some (v1.1,v1.2.1,decide (v1.2.2=0))
theorem yX(a0:Cu)(a1:Int)(r:(Int×Int×Bool))(h:nM a0 a1=some r):HasE Tryz.prog 64 [.ptr 0 0 0,.int a1] [(0,⟨3,[[.list 1 (a0.b.map eU),.int a0.i,.int a0.h]]⟩)] 1 (.bl r.2.2) [(0,⟨3,[[.list 1 (a0.b.map eU),.int r.1,.int r.2.1]]⟩)]:=by
 exact fI aJ (rvs:=[.tmp 4]) (ns:=Dz.drop 1) Tryz.func64 k k Tryz.ntmps64 k k<|sR<|aT k2<|sR<|am k k<|am k k<|oB h λv1 hv1 h=>ae (jU 0 [] (dH _ _ _ hv1)) k<|cm k4<|aT k2<|aV<|sp h ⟨mN [(4,.bl (decide (v1.2.2=0)))] [(0,⟨3,[[.list 1 (a0.b.map eU),.int v1.1,.int v1.2.1]]⟩)] 1 1,jI,k,⟨_,k,.inl k⟩,⟨k,dY⟩⟩
def yY(a0:Cu)(a1:(List ByteArray)):Option (Int×Int×ByteArray):=
 (cE a0 (a1.length:Int)).bind λv1=>
 (bP a1 v1.2.2).bind λv2=>
 some (v1.1,v1.2.1,v2)
theorem KI(a0:Cu)(a1:(List ByteArray))(r:(Int×Int×ByteArray))(h:yY a0 a1=some r):HasE Tryz.prog 89 [.ptr 0 0 0,.list 1 (a1.map UR)] [(0,⟨3,[[.list 1 (a0.b.map eU),.int a0.i,.int a0.h]]⟩)] 1 (.str r.2.2) [(0,⟨3,[[.list 1 (a0.b.map eU),.int r.1,.int r.2.1]]⟩)]:=by
 exact fI aJ (rvs:=[.tmp 4]) (ns:=Dz.drop 1) Tryz.func89 k k Tryz.ntmps89 k k<|sR<|aT k2<|sR<|am k k<|am k k<|am k k<|ln k4<|oB h λv1 hv1 h=>ae (jU 0 [] (dH _ _ _ hv1)) k<|jl h k2 λv2 hv2 h=>lr k7<|aT k2<|aV<|sp h ⟨mN [(4,.str v2)] [(0,⟨3,[[.list 1 (a0.b.map eU),.int v1.1,.int v1.2.1]]⟩)] 1 1,jI,k,⟨_,k,.inl k⟩,⟨k,dY⟩⟩
def fQ(a0:Cu)(a1:aA):Option (Int×Int×Int):=
 (cE a0 (a1.length:Int)).bind λv1=>
 (bP a1 v1.2.2).bind λv2=>
 some (v1.1,v1.2.1,v2)
theorem iY(a0:Cu)(a1:aA)(r:(Int×Int×Int))(h:fQ a0 a1=some r):HasE Tryz.prog 114 [.ptr 0 0 0,.list 1 (a1.map eI)] [(0,⟨3,[[.list 1 (a0.b.map eU),.int a0.i,.int a0.h]]⟩)] 1 (.int r.2.2) [(0,⟨3,[[.list 1 (a0.b.map eU),.int r.1,.int r.2.1]]⟩)]:=by
 exact fI aJ (rvs:=[.tmp 4]) (ns:=Dz.drop 1) Tryz.func114 k k Tryz.ntmps114 k k<|sR<|aT k2<|sR<|am k k<|am k k<|am k k<|ln k4<|oB h λv1 hv1 h=>ae (jU 0 [] (dH _ _ _ hv1)) k<|jl h k2 λv2 hv2 h=>lr k7<|aT k2<|aV<|sp h ⟨mN [(4,.int v2)] [(0,⟨3,[[.list 1 (a0.b.map eU),.int v1.1,.int v1.2.1]]⟩)] 1 1,jI,k,⟨_,k,.inl k⟩,⟨k,dY⟩⟩
def Bc(a0:Cu):Option (Int×Int×Int):=
 (nM a0 16).bind λv1=>
 bif v1.2.2 then
 ((fQ (⟨a0.b,v1.1,v1.2.1⟩:Cu) [(-1),0,1,4,7]).bind λv3=>
 some (v3.1,v3.2.1,v3.2.2))
 else
 ((fQ (⟨a0.b,v1.1,v1.2.1⟩:Cu) [2,3,5,2,3]).bind λv4=>
 some (v4.1,v4.2.1,v4.2.2))
theorem QH(a0:Cu)(r:(Int×Int×Int))(h:Bc a0=some r):HasE Tryz.prog 115 [.ptr 0 0 0] [(0,⟨3,[[.list 1 (a0.b.map eU),.int a0.i,.int a0.h]]⟩)] 1 (.int r.2.2) [(0,⟨3,[[.list 1 (a0.b.map eU),.int r.1,.int r.2.1]]⟩)]:=by
 exact fI aJ (rvs:=[.tmp 2]) (ns:=Dz.drop 1) Tryz.func115 k k Tryz.ntmps115 k k<|sR<|aT k2<|sQ<|sR<|am k k<|oB h λv1 hv1 h=>ae (jU 0 [] (yX _ _ _ hv1)) k<|an<|tn<|cH k h (λ_ h=>sR<|am k k<|ae (wl k) k<|oB h λv3 hv3 h=>ae (jU 0 [1] (iY _ _ _ hv3)) k<|aT k2<|aV<|bU<|sp h ⟨mN [(2,.int v3.2.2)] [(0,⟨3,[[.list 1 (a0.b.map eU),.int v3.1,.int v3.2.1]]⟩)] 1 1,jI,k,⟨_,k,.inl k⟩,⟨k,dY⟩⟩) λ_ h=>aG<|tn<|sR<|am k k<|ae (wl k) k<|oB h λv4 hv4 h=>ae (jU 0 [1] (iY _ _ _ hv4)) k<|aT k2<|aV<|sp h ⟨mN [(2,.int v4.2.2)] [(0,⟨3,[[.list 1 (a0.b.map eU),.int v4.1,.int v4.2.1]]⟩)] 1 1,jI,k,⟨_,k,.inl k⟩,⟨k,dY⟩⟩
def Bd(a0:Cu):Option (Int×Int×Int):=
 (fQ a0 [2,3,2]).bind λv1=>
 some (v1.1,v1.2.1,v1.2.2)
theorem QI(a0:Cu)(r:(Int×Int×Int))(h:Bd a0=some r):HasE Tryz.prog 87 [.ptr 0 0 0] [(0,⟨3,[[.list 1 (a0.b.map eU),.int a0.i,.int a0.h]]⟩)] 1 (.int r.2.2) [(0,⟨3,[[.list 1 (a0.b.map eU),.int r.1,.int r.2.1]]⟩)]:=by
 exact fI aJ (rvs:=[.tmp 2]) (ns:=Dz.drop 1) Tryz.func87 k k Tryz.ntmps87 k k<|sR<|aT k2<|sR<|am k k<|ae (wl k) k<|oB h λv1 hv1 h=>ae (jU 0 [1] (iY _ _ _ hv1)) k<|aT k2<|aV<|sp h ⟨mN [(2,.int v1.2.2)] [(0,⟨3,[[.list 1 (a0.b.map eU),.int v1.1,.int v1.2.1]]⟩)] 1 1,jI,k,⟨_,k,.inl k⟩,⟨k,dY⟩⟩
def AT(a0:Cu)(a1:Int)(x1:(Int×Int×aA×Int)):Option ((Int×Int×aA×Int) ⊕ (Int×Int×aA)):=
 bif decide (x1.2.2.2<((x1.2.2.1.length:Nat):Int))then
 ((cE (⟨a0.b,x1.1,x1.2.1⟩:Cu) (max 1 (min 5 a1))).bind λv3=>
 (bP x1.2.2.1 x1.2.2.2).bind λv4=>
 some (.inl (v3.1,v3.2.1,(x1.2.2.1.set x1.2.2.2.toNat v3.2.2),wr (x1.2.2.2+1))))
 else
 some (.inr (x1.1,x1.2.1,x1.2.2.1))
def uA(a0:Cu)(a1:Int)(a2:Int)(a3:Int):Option (Int×Int×Int×Int×aA):=
 (iK a2 a3).bind λv1=>
 (Lp (AT a0 a1) (a0.i,a0.h,v1.cells,0)).bind λy5=>
 some (y5.1,y5.2.1,v1.rows,v1.cols,y5.2.2)
theorem Hl(a0:Cu)(a1:Int)(a2:Int)(a3:Int)(r:(Int×Int×Int×Int×aA))(h:uA a0 a1 a2 a3=some r):HasE Tryz.prog 154 [.ptr 0 0 0,.int a1,.int a2,.int a3] [(0,⟨3,[[.list 1 (a0.b.map eU),.int a0.i,.int a0.h]]⟩)] 1 (.agg [.int r.2.2.1,.int r.2.2.2.1,.own 2 0 r.2.2.2.2.length]) [(0,⟨3,[[.list 1 (a0.b.map eU),.int r.1,.int r.2.1]]⟩),(2,⟨1,r.2.2.2.2.map (ow eI)⟩)]:=by
 refine fI aJ (rvs:=[.cell 8 60]) (ns:=Dz.drop 1) Tryz.func154 k k Tryz.ntmps154 k k<|sR<|jA k3<|an<|tn<|sR<|am k k<|am k k<|oB h λv1 hv1 h=>ae (cM (uG _ _ _ hv1) k3 (fE k (fE k aU))) k<|jA k3<|ae (ws k) k<|an<|tn<|sQ<|sR<|aT k2<|jB h (λx1=>mN [(0,.ptr 0 0 0),(1,.int a1),(8,.ptr 1 0 0),(9,.ptr 2 0 0),(10,.int x1.2.2.2)] [(0,⟨3,[[.list 1 (a0.b.map eU),.int x1.1,.int x1.2.1]]⟩),(1,⟨3,[gD]⟩),(2,⟨3,[[.int v1.rows,.int v1.cols,.own 3 0 x1.2.2.1.length]]⟩),(3,⟨1,x1.2.2.1.map (ow eI)⟩)] 4 1) (λr=>mN [(8,.ptr 1 0 0),(9,.ptr 2 0 0)] [(0,⟨3,[[.list 1 (a0.b.map eU),.int r.1,.int r.2.1]]⟩),(1,⟨3,[gD]⟩),(2,⟨3,[[.int v1.rows,.int v1.cols,.own 3 0 r.2.2.length]]⟩),(3,⟨1,r.2.2.map (ow eI)⟩)] 4 1) ?_ ?_ (jZ [0,1,3,2])
 .intro x1 o h;exact sQ<|sR<|am k k<|fp k8<|lp k8<|jn k5<|cm k4<|an<|tn<|cH k h (λ_ h=>aG<|tn<|sQ<|aL<|aH dK<|fp k8<|lp k8<|am k k<|am k k<|am k k<|ae (Xf k k) k<|ae (aAT k k) k<|oB h λv3 hv3 h=>ae (jU 0 [] (dH _ _ _ hv3)) k<|jo) λ_ h=>aR<|jo
 .intro y5 _ h;exact sR<|lp k8<|ae (ws k) k<|an<|tn<|aV<|sp h ⟨mN [(8,.ptr 1 0 0)] [(0,⟨3,[[.list 1 (a0.b.map eU),.int y5.1,.int y5.2.1]]⟩),(1,⟨3,[[.int v1.rows,.int v1.cols,.own 2 0 y5.2.2.length]]⟩),(2,⟨1,y5.2.2.map (ow eI)⟩)] 3 1,(jZ [0,1,3]),k,⟨_,k,.inl k⟩,⟨k,k,dY⟩⟩
def EU(a0:Cu)(a1:Int):Option (Int×Int×Int×aA×Int):=
 (cE a0 4).bind λv1=>
 (cE (⟨a0.b,v1.1,v1.2.1⟩:Cu) 4).bind λv2=>
 (uA (⟨a0.b,v2.1,v2.2.1⟩:Cu) a1 v1.2.2 v2.2.2).bind λv3=>
 (cE (⟨a0.b,v3.1,v3.2.1⟩:Cu) 18).bind λv4=>
 bif decide (v4.2.2=0)then
 ((fQ (⟨a0.b,v4.1,v4.2.1⟩:Cu) [(-1),9,2,9223372036854775807]).bind λv6=>
 some (v6.1,v6.2.1,v6.2.2,v3.2.2.2.2,v3.2.2.2.1))
 else
 (bif decide (v4.2.2=1)then
 (bif decide (v3.2.2.2.2.length+[0].length <=4294967296)then
 some (v4.1,v4.2.1,v3.2.2.1,(v3.2.2.2.2++[0]),v3.2.2.2.1)
 else none)
 else
 (bif decide (v4.2.2=2)then
 (bif decide (0<((v3.2.2.2.2.length:Nat):Int))then
 ((fQ (⟨a0.b,v4.1,v4.2.1⟩:Cu) [(-1),5,2]).bind λv11=>
 (bP v3.2.2.2.2 0).bind λv12=>
 some (v11.1,v11.2.1,v3.2.2.1,(v3.2.2.2.2.set ((0:Int).toNat) v11.2.2),v3.2.2.2.1))
 else
 (some (v4.1,v4.2.1,v3.2.2.1,v3.2.2.2.2,v3.2.2.2.1)))
 else
 (some (v4.1,v4.2.1,v3.2.2.1,v3.2.2.2.2,v3.2.2.2.1))))
theorem TU(a0:Cu)(a1:Int)(r:(Int×Int×Int×aA×Int))(h:EU a0 a1=some r):HasE Tryz.prog 116 [.ptr 0 0 0,.int a1] [(0,⟨3,[[.list 1 (a0.b.map eU),.int a0.i,.int a0.h]]⟩)] 1 (.agg [.int r.2.2.1,.int r.2.2.2.2,.own 2 0 r.2.2.2.1.length]) [(0,⟨3,[[.list 1 (a0.b.map eU),.int r.1,.int r.2.1]]⟩),(2,⟨1,r.2.2.2.1.map (ow eI)⟩)]:=by
 refine fI aJ (rvs:=[.cell 4 60]) (ns:=Dz.drop 1) Tryz.func116 k k Tryz.ntmps116 k k<|sR<|jA k3<|an<|tn<|sR<|am k k<|oB h λv1 hv1 h=>ae (jU 0 [] (dH _ _ _ hv1)) k<|aT k2<|sR<|am k k<|am k k<|am k k<|am k k<|oB h λv2 hv2 h=>ae (jU 0 [] (dH _ _ _ hv2)) k<|oB h λv3 hv3 h=>ae (jC [(0,0)] [(0,0),(2,2)] [0] [2] [(0,⟨3,[[.list 1 (a0.b.map eU),.int v3.1,.int v3.2.1]]⟩),(2,⟨1,v3.2.2.2.2.map (ow eI)⟩)] 3 (.agg [.int v3.2.2.1,.int v3.2.2.2.1,.own 2 0 v3.2.2.2.2.length]) (Hl _ _ _ _ _ hv3)) k<|jA k3<|ae (ws k) k<|an<|tn<|sQ<|sR<|am k k<|oB h λv4 hv4 h=>ae (jU 0 [] (dH _ _ _ hv4)) k ?_;refine an<|tn<|aL<|sR<|cm k4<|aT k2<|cH k h (λ_ h=>rg<|am k k<|ae (wl k) k<|oB h λv6 hv6 h=>ae (jU 0 [4] (iY _ _ _ hv6)) k<|fp k8<|ae (ws k) k<|an<|aY<|tn<|sR<|lp k8<|ae (ws k) k<|an<|tn<|aV<|sp h ⟨mN [(4,.ptr 1 0 0)] [(0,⟨3,[[.list 1 (a0.b.map eU),.int v6.1,.int v6.2.1]]⟩),(1,⟨3,[[.int v6.2.2,.int v3.2.2.2.1,.own 2 0 v3.2.2.2.2.length]]⟩),(2,⟨1,v3.2.2.2.2.map (ow eI)⟩)] 3 1,jI,k,⟨_,k,.inl k⟩,⟨k,k,dY⟩⟩) λ_ h=>?_;refine sR<|cm k4<|aT k2<|cH k h (λ_ h=>rg<|fp k8<|lp k8<|ae (wl k) k<|cG h λq8 h=>ae (gZ aJ (l:=v3.2.2.2.2) (m:=[0]) gS q8 k k k k k k k k k k k k) k<|fp k8<|ae (ws k) k<|an<|aY<|tn<|sR<|lp k8<|ae (ws k) k<|an<|tn<|aV<|sp h ⟨mN [(4,.ptr 1 0 0)] [(0,⟨3,[[.list 1 (a0.b.map eU),.int v4.1,.int v4.2.1]]⟩),(1,⟨3,[[.int v3.2.2.1,.int v3.2.2.2.1,.own 2 0 ((v3.2.2.2.2++[0]).length)]]⟩),(2,⟨1,List.map (ow eI) (v3.2.2.2.2++[0])⟩)] 3 1,(jZ [0,1,5]),k,⟨_,k,.inl k⟩,⟨k,k,dY⟩⟩) λ_ h=>?_;refine sR<|cm k4<|aT k2<|cH k h (λ_ h=>?_) λ_ h=>aG<|aY<|tn<|sR<|lp k8<|ae (ws k) k<|an<|tn<|aV<|sp h ⟨mN [(4,.ptr 1 0 0)] [(0,⟨3,[[.list 1 (a0.b.map eU),.int v4.1,.int v4.2.1]]⟩),(1,⟨3,[[.int v3.2.2.1,.int v3.2.2.2.1,.own 2 0 v3.2.2.2.2.length]]⟩),(2,⟨1,v3.2.2.2.2.map (ow eI)⟩)] 3 1,jI,k,⟨_,k,.inl k⟩,⟨k,k,dY⟩⟩;exact sR<|fp k8<|lp k8<|jn k5<|cm k4<|an<|tn<|cH k h (λ_ h=>aH dK<|fp k8<|lp k8<|am k k<|ae (wl k) k<|oB h λv11 hv11 h=>ae (jU 0 [4] (iY _ _ _ hv11)) k<|jp h k2 λv12 hv12 h=>ae (eD aJ gS (u:=v11.2.2) (cJ hv12) k k k k k k) k<|an<|lZ (by kernel_rfl)<|aY<|tn<|sR<|lp k8<|ae (ws k) k<|an<|tn<|aV<|sp h ⟨mN [(4,.ptr 1 0 0)] [(0,⟨3,[[.list 1 (a0.b.map eU),.int v11.1,.int v11.2.1]]⟩),(1,⟨3,[[.int v3.2.2.1,.int v3.2.2.2.1,.own 2 0 ((v3.2.2.2.2.set ((0:Int).toNat) v11.2.2).length)]]⟩),(2,⟨1,List.map (ow eI) (v3.2.2.2.2.set ((0:Int).toNat) v11.2.2)⟩)] 3 1,jI,k,⟨_,k,.inl k⟩,⟨k,k,dY⟩⟩) λ_ h=>aG<|aY<|tn<|sR<|lp k8<|ae (ws k) k<|an<|tn<|aV<|sp h ⟨mN [(4,.ptr 1 0 0)] [(0,⟨3,[[.list 1 (a0.b.map eU),.int v4.1,.int v4.2.1]]⟩),(1,⟨3,[[.int v3.2.2.1,.int v3.2.2.2.1,.own 2 0 v3.2.2.2.2.length]]⟩),(2,⟨1,v3.2.2.2.2.map (ow eI)⟩)] 3 1,jI,k,⟨_,k,.inl k⟩,⟨k,k,dY⟩⟩
def yG(a0:Cu)(v7:(Int×Int×Int))(x1:(Int×Int×aA×aA×Int)):Option ((Int×Int×aA×aA×Int) ⊕ (Int×Int×aA×aA)):=
 bif decide (0<x1.2.2.2.2)then
 (bif decide (1<wr (1+v7.2.2))then
 ((cE (⟨a0.b,x1.1,x1.2.1⟩:Cu) (wr ((wr (1+v7.2.2))-1))).bind λv11=>
 bif decide (x1.2.2.1.length+[v11.2.2].length <=4294967296)then
 ((cE (⟨a0.b,v11.1,v11.2.1⟩:Cu) (wr ((wr ((wr (1+v7.2.2))-1))-v11.2.2))).bind λv13=>
 bif decide (x1.2.2.2.1.length+[wr ((wr (v11.2.2+1))+v13.2.2)].length <=4294967296)then
 some (.inl (v13.1,v13.2.1,(x1.2.2.1++[v11.2.2]),(x1.2.2.2.1++[wr ((wr (v11.2.2+1))+v13.2.2)]),wr (x1.2.2.2.2-1)))
 else none)
 else none)
 else
 (some (.inr (x1.1,x1.2.1,x1.2.2.1,x1.2.2.2.1))))
 else
 some (.inr (x1.1,x1.2.1,x1.2.2.1,x1.2.2.2.1))
def xW(a0:Cu):Option (Int×Int×Int×aA×aA):=
 (nM a0 2).bind λv1=>
 bif v1.2.2 then
 ((FL ).bind λv3=>
 (cE (⟨a0.b,v1.1,v1.2.1⟩:Cu) 10).bind λv4=>
 (bP v3 v4.2.2).bind λv5=>
 (gX v5).bind λv6=>
 some (v4.1,v4.2.1,v6.1.n,v6.1.src,v6.1.tgt))
 else
 ((cE (⟨a0.b,v1.1,v1.2.1⟩:Cu) 4).bind λv7=>
 (cE (⟨a0.b,v7.1,v7.2.1⟩:Cu) 5).bind λv8=>
 (Lp (yG a0 v7) (v8.1,v8.2.1,([]:aA),([]:aA),v8.2.2)).bind λy15=>
 some (y15.1,y15.2.1,wr (1+v7.2.2),y15.2.2.1,y15.2.2.2))
theorem ND(a0:Cu)(r:(Int×Int×Int×aA×aA))(h:xW a0=some r):HasE Tryz.prog 170 [.ptr 0 0 0] [(0,⟨3,[[.list 1 (a0.b.map eU),.int a0.i,.int a0.h]]⟩)] 1 (.agg [.int r.2.2.1,.own 2 0 r.2.2.2.1.length,.own 3 0 r.2.2.2.2.length]) [(0,⟨3,[[.list 1 (a0.b.map eU),.int r.1,.int r.2.1]]⟩),(2,⟨1,r.2.2.2.1.map (ow eI)⟩),(3,⟨1,r.2.2.2.2.map (ow eI)⟩)]:=by
 refine fI aJ (rvs:=[.cell 2 26]) (ns:=Dz.drop 1) Tryz.func170 k k Tryz.ntmps170 k k<|sR<|jA k3<|an<|tn<|sQ<|sR<|am k k<|oB h λv1 hv1 h=>ae (jU 0 [] (yX _ _ _ hv1)) k<|an<|tn<|cH k h (λ_ h=>?_) λ_ h=>?_
 .exact sR<|oB h λv3 hv3 h=>ae (cL US (QG _ hv3) k3 aU) k<|am k k<|oB h λv4 hv4 h=>ae (jU 0 [] (dH _ _ _ hv4)) k<|jp h k2 λv5 hv5 h=>ae (wp hv5 k) k<|oB h λv6 hv6 h=>ae (Vv (AS _ _ hv6) k3 (fE k aU)) k<|am k k<|jx k4<|jx k4<|jA k3<|ae (ws k) k<|aT k2<|sR<|lp k8<|ae (ws k) k<|an<|tn<|aV<|bU<|sp h ⟨mN [(2,.ptr 1 0 0)] [(0,⟨3,[[.list 1 (a0.b.map eU),.int v4.1,.int v4.2.1]]⟩),(1,⟨3,[oQv v6.1 2 3]⟩),(2,⟨1,v6.1.src.map (ow eI)⟩),(3,⟨1,v6.1.tgt.map (ow eI)⟩)] 4 1,(jZ [0,1,3,4]),k,⟨_,k,.inl k⟩,⟨k,k,k,dY⟩⟩
 .refine aG<|tn<|sR<|am k k<|oB h λv7 hv7 h=>ae (jU 0 [] (dH _ _ _ hv7)) k<|ae (bG k k) k<|ae (wl k) k<|ae (wl k) k<|ae (eP aJ k k k k k k) k<|jA k3<|ae (ws k) k<|an<|tn<|sQ<|sR<|am k k<|oB h λv8 hv8 h=>ae (jU 0 [] (dH _ _ _ hv8)) k<|aT k2<|jB h (λx1=>mN [(0,.ptr 0 0 0),(2,.ptr 1 0 0),(5,.ptr 2 0 0),(6,.int x1.2.2.2.2)] [(0,⟨3,[[.list 1 (a0.b.map eU),.int x1.1,.int x1.2.1]]⟩),(1,⟨3,[[.int 0,.nil 1,.nil 1]]⟩),(2,⟨3,[[.int (wr (1+v7.2.2)),.own 3 0 x1.2.2.1.length,.own 4 0 x1.2.2.2.1.length]]⟩),(3,⟨1,x1.2.2.1.map (ow eI)⟩),(4,⟨1,x1.2.2.2.1.map (ow eI)⟩)] 5 1) (λr=>mN [(2,.ptr 1 0 0),(5,.ptr 2 0 0)] [(0,⟨3,[[.list 1 (a0.b.map eU),.int r.1,.int r.2.1]]⟩),(1,⟨3,[[.int 0,.nil 1,.nil 1]]⟩),(2,⟨3,[[.int (wr (1+v7.2.2)),.own 3 0 r.2.2.1.length,.own 4 0 r.2.2.2.length]]⟩),(3,⟨1,r.2.2.1.map (ow eI)⟩),(4,⟨1,r.2.2.2.map (ow eI)⟩)] 5 1) ?_ ?_ (jZ [0,1,4,2,3])
  .intro x1 o h;refine sQ<|sR<|am k k<|cm k4<|am k k<|iR h (λq9 h=>?_) λq9 h=>aE 30 k q9<|aK k4<|ak k k<|pk k3<|an<|tn<|nR k k<|aR<|aC<|aC<|sp h ⟨_,k,k,jI⟩;refine aE 30 k q9<|fp k8<|lp k8<|cm k4<|pk k3<|an<|tn<|cH k h (λ_ h=>?_) λ_ h=>aR<|aC<|aC<|sp h ⟨_,k,k,jI⟩;refine aG<|tn<|sQ<|aL<|sR<|am k k<|fp k8<|lp k8<|ae (iI k k) k<|oB h λv11 hv11 h=>ae (jU 0 [] (dH _ _ _ hv11)) k<|aT k2<|sR<|fp k8<|lp k8<|am k k<|ae (wl k) k<|cG h λq12 h=>ae (gZ aJ (l:=x1.2.2.1) (m:=[v11.2.2]) gS q12 k k k k k k k k k k k k) k<|fp k8<|ae (ws k) k<|an<|tn<|aH dK<|fp k8<|lp k8<|am k k ?_;exact ae (bG k k) k<|am k k<|fp k8<|lp k8<|ae (iI k k) k<|am k k<|ae (iI k k) k<|oB h λv13 hv13 h=>ae (jU 0 [] (dH _ _ _ hv13)) k<|ae (bG k k) k<|ae (wl k) k<|cG h λq14 h=>ae (gZ aJ (l:=x1.2.2.2.1) (m:=[wr ((wr (v11.2.2+1))+v13.2.2)]) gS q14 k k k k k k k k k k k k) k<|fp k8<|ae (ws k) k<|an<|lZ (by kernel_rfl)<|aY<|tn<|rg<|am k k<|ae (iI k k) k<|aT k2<|sp h ⟨_,k,(jZ [0,1,2,6,8])⟩
  .intro y15 _ h;exact sR<|lp k8<|ae (ws k) k<|an<|tn<|aV<|sp h ⟨mN [(2,.ptr 1 0 0)] [(0,⟨3,[[.list 1 (a0.b.map eU),.int y15.1,.int y15.2.1]]⟩),(1,⟨3,[[.int (wr (1+v7.2.2)),.own 2 0 y15.2.2.1.length,.own 3 0 y15.2.2.2.length]]⟩),(2,⟨1,y15.2.2.1.map (ow eI)⟩),(3,⟨1,y15.2.2.2.map (ow eI)⟩)] 4 1,(jZ [0,1,3,4]),k,⟨_,k,.inl k⟩,⟨k,k,k,dY⟩⟩
def Be(a0:Cu):Option (Int×Int×Int×aA×aA):=
 (xW a0).bind λv1=>
 (cE (⟨a0.b,v1.1,v1.2.1⟩:Cu) 14).bind λv2=>
 bif decide (v2.2.2=0)then
 ((yY (⟨a0.b,v2.1,v2.2.1⟩:Cu) [(⟨#[108,111,111,112]⟩:ByteArray),(⟨#[99,105,114,99,108,101]⟩:ByteArray)]).bind λv4=>
 (gX v4.2.2).bind λv5=>
 some (v4.1,v4.2.1,v5.1.n,v5.1.src,v5.1.tgt))
 else
 (bif decide (v2.2.2=1)then
 ((fQ (⟨a0.b,v2.1,v2.2.1⟩:Cu) [0,6,(-1),2]).bind λv7=>
 some (v7.1,v7.2.1,v7.2.2,v1.2.2.2.1,v1.2.2.2.2))
 else
 (bif decide (v2.2.2=2)then
 ((cE (⟨a0.b,v2.1,v2.2.1⟩:Cu) 6).bind λv9=>
 bif decide (v1.2.2.2.1.length+[wr (v9.2.2-1)].length <=4294967296)then
 some (v9.1,v9.2.1,v1.2.2.1,(v1.2.2.2.1++[wr (v9.2.2-1)]),v1.2.2.2.2)
 else none)
 else
 (some (v2.1,v2.2.1,v1.2.2.1,v1.2.2.2.1,v1.2.2.2.2))))
theorem MI(a0:Cu)(r:(Int×Int×Int×aA×aA))(h:Be a0=some r):HasE Tryz.prog 112 [.ptr 0 0 0] [(0,⟨3,[[.list 1 (a0.b.map eU),.int a0.i,.int a0.h]]⟩)] 1 (.agg [.int r.2.2.1,.own 2 0 r.2.2.2.1.length,.own 3 0 r.2.2.2.2.length]) [(0,⟨3,[[.list 1 (a0.b.map eU),.int r.1,.int r.2.1]]⟩),(2,⟨1,r.2.2.2.1.map (ow eI)⟩),(3,⟨1,r.2.2.2.2.map (ow eI)⟩)]:=by
 refine fI aJ (rvs:=[.cell 2 26]) (ns:=Dz.drop 1) Tryz.func112 k k Tryz.ntmps112 k k<|sR<|jA k3<|an<|tn<|sR<|am k k<|oB h λv1 hv1 h=>ae (jC [(0,0)] [(0,0),(2,2),(3,3)] [0] [2,3] [(0,⟨3,[[.list 1 (a0.b.map eU),.int v1.1,.int v1.2.1]]⟩),(2,⟨1,v1.2.2.2.1.map (ow eI)⟩),(3,⟨1,v1.2.2.2.2.map (ow eI)⟩)] 4 (.agg [.int v1.2.2.1,.own 2 0 v1.2.2.2.1.length,.own 3 0 v1.2.2.2.2.length]) (ND _ _ hv1)) k<|jA k3<|ae (ws k) k<|an<|tn<|sQ<|sR<|am k k<|oB h λv2 hv2 h=>ae (jU 0 [] (dH _ _ _ hv2)) k<|an<|tn<|aL<|sR<|cm k4<|aT k2<|cH k h (λ_ h=>?_) λ_ h=>?_
 .exact rg<|am k k<|ae (wl k) k<|oB h λv4 hv4 h=>ae (jU 0 [5] (KI _ _ _ hv4)) k<|oB h λv5 hv5 h=>ae (Vv (AS _ _ hv5) k3 (fE k aU)) k<|am k k<|jx k4<|jx k4<|ae (ws k) k<|an<|aY<|tn<|sR<|lp k8<|ae (ws k) k<|an<|tn<|aV<|sp h ⟨mN [(2,.ptr 1 0 0)] [(0,⟨3,[[.list 1 (a0.b.map eU),.int v4.1,.int v4.2.1]]⟩),(1,⟨3,[oQv v5.1 2 3]⟩),(2,⟨1,v5.1.src.map (ow eI)⟩),(3,⟨1,v5.1.tgt.map (ow eI)⟩)] 4 1,(jZ [0,1,6,7]),k,⟨_,k,.inl k⟩,⟨k,k,k,dY⟩⟩
 .refine sR<|cm k4<|aT k2<|cH k h (λ_ h=>rg<|am k k<|ae (wl k) k<|oB h λv7 hv7 h=>ae (jU 0 [5] (iY _ _ _ hv7)) k<|fp k8<|ae (ws k) k<|an<|aY<|tn<|sR<|lp k8<|ae (ws k) k<|an<|tn<|aV<|sp h ⟨mN [(2,.ptr 1 0 0)] [(0,⟨3,[[.list 1 (a0.b.map eU),.int v7.1,.int v7.2.1]]⟩),(1,⟨3,[[.int v7.2.2,.own 2 0 v1.2.2.2.1.length,.own 3 0 v1.2.2.2.2.length]]⟩),(2,⟨1,v1.2.2.2.1.map (ow eI)⟩),(3,⟨1,v1.2.2.2.2.map (ow eI)⟩)] 4 1,jI,k,⟨_,k,.inl k⟩,⟨k,k,k,dY⟩⟩) λ_ h=>?_;exact sR<|cm k4<|aT k2<|cH k h (λ_ h=>aH dK<|fp k8<|lp k8<|am k k<|oB h λv9 hv9 h=>ae (jU 0 [] (dH _ _ _ hv9)) k<|ae (iI k k) k<|ae (wl k) k<|cG h λq10 h=>ae (gZ aJ (l:=v1.2.2.2.1) (m:=[wr (v9.2.2-1)]) gS q10 k k k k k k k k k k k k) k<|fp k8<|ae (ws k) k<|an<|lZ (by kernel_rfl)<|aY<|tn<|sR<|lp k8<|ae (ws k) k<|an<|tn<|aV<|sp h ⟨mN [(2,.ptr 1 0 0)] [(0,⟨3,[[.list 1 (a0.b.map eU),.int v9.1,.int v9.2.1]]⟩),(1,⟨3,[[.int v1.2.2.1,.own 2 0 ((v1.2.2.2.1++[wr (v9.2.2-1)]).length),.own 3 0 v1.2.2.2.2.length]]⟩),(2,⟨1,List.map (ow eI) (v1.2.2.2.1++[wr (v9.2.2-1)])⟩),(3,⟨1,v1.2.2.2.2.map (ow eI)⟩)] 4 1,(jZ [0,1,6,3]),k,⟨_,k,.inl k⟩,⟨k,k,k,dY⟩⟩) λ_ h=>aG<|aY<|tn<|sR<|lp k8<|ae (ws k) k<|an<|tn<|aV<|sp h ⟨mN [(2,.ptr 1 0 0)] [(0,⟨3,[[.list 1 (a0.b.map eU),.int v2.1,.int v2.2.1]]⟩),(1,⟨3,[[.int v1.2.2.1,.own 2 0 v1.2.2.2.1.length,.own 3 0 v1.2.2.2.2.length]]⟩),(2,⟨1,v1.2.2.2.1.map (ow eI)⟩),(3,⟨1,v1.2.2.2.2.map (ow eI)⟩)] 4 1,jI,k,⟨_,k,.inl k⟩,⟨k,k,k,dY⟩⟩
def Ce(a0:Cu)(a1:Qv)(a2:Int)(x1:(Int×Int×aA×Int×Int)):Option ((Int×Int×aA×Int×Int) ⊕ (Int×Int×aA)):=
 bif decide (x1.2.2.2.2<a1.n)then
 (bif decide (x1.2.2.2.2<5)then
 ((cE (⟨a0.b,x1.1,x1.2.1⟩:Cu) (wr (a2+1))).bind λv3=>
 bif decide (x1.2.2.1.length+[min x1.2.2.2.1 v3.2.2].length <=4294967296)then
 some (.inl (v3.1,v3.2.1,(x1.2.2.1++[min x1.2.2.2.1 v3.2.2]),wr (x1.2.2.2.1-(min x1.2.2.2.1 v3.2.2)),wr (x1.2.2.2.2+1)))
 else none)
 else
 (some (.inr (x1.1,x1.2.1,x1.2.2.1))))
 else
 some (.inr (x1.1,x1.2.1,x1.2.2.1))
def yZ(a0:Cu)(a1:Qv)(a2:Int):Option (Int×Int×aA):=
 (Lp (Ce a0 a1 a2) (a0.i,a0.h,([]:aA),8,0)).bind λy5=>
 some (y5.1,y5.2.1,y5.2.2)
theorem KJ(a0:Cu)(a1:Qv)(a2:Int)(r:(Int×Int×aA))(h:yZ a0 a1 a2=some r):HasE Tryz.prog 113 [.ptr 0 0 0,.agg (eQ a1),.int a2] [(0,⟨3,[[.list 1 (a0.b.map eU),.int a0.i,.int a0.h]]⟩)] 1 (.own 1 0 r.2.2.length) [(0,⟨3,[[.list 1 (a0.b.map eU),.int r.1,.int r.2.1]]⟩),(1,⟨1,r.2.2.map (ow eI)⟩)]:=by
 refine fI aJ (rvs:=[.tmp 6]) (ns:=Dz.drop 1) Tryz.func113 k k Tryz.ntmps113 k k<|sR<|ae (wb k) k<|aT k2<|sR<|ae (wl k) k<|aT k2<|sR<|aT k2<|sQ<|sR<|aT k2<|jB h (λx1=>mN [(0,.ptr 0 0 0),(2,.int a2),(4,.ptr 1 0 0),(7,.own 2 0 x1.2.2.1.length),(8,.int x1.2.2.2.1),(9,.int x1.2.2.2.2)] [(0,⟨3,[[.list 1 (a0.b.map eU),.int x1.1,.int x1.2.1]]⟩),(1,⟨3,[eQ a1]⟩),(2,⟨1,x1.2.2.1.map (ow eI)⟩)] 3 1) (λr=>mN [(7,.own 1 0 r.2.2.length)] [(0,⟨3,[[.list 1 (a0.b.map eU),.int r.1,.int r.2.1]]⟩),(1,⟨1,r.2.2.map (ow eI)⟩)] 2 1) ?_ ?_
 .intro x1 o h;refine sQ<|sR<|am k k<|fp k8<|lp k8<|cm k4<|am k k<|iR h (λq1 h=>?_) λq1 h=>aE 16 k q1<|aK k4<|pk k3<|an<|tn<|nR k k<|aR<|aC<|aC<|sp h ⟨_,k,k,(jZ [0,2])⟩;refine aE 16 k q1<|am k k<|cm k4<|pk k3<|an<|tn<|cH k h (λ_ h=>?_) λ_ h=>aR<|aC<|aC<|sp h ⟨_,k,k,(jZ [0,2])⟩;refine aG<|tn<|sQ<|aL<|sR<|am k k<|am k k<|am k k<|ae (bG k k) k<|oB h λv3 hv3 h=>ae (jU 0 [] (dH _ _ _ hv3)) k<|ae (Xf k k) k<|aT k2<|sR<|am k k<|am k k<|ae (wl k) k<|cG h λq4 h=>ae (gZ aJ (l:=x1.2.2.1) (m:=[min x1.2.2.2.1 v3.2.2]) gS q4 k k k k k k k k k k k k) k<|aT k2<|rg<|am k k<|am k k<|ae (iI k k) k<|aa k k ?_;exact an<|aY<|tn<|rg<|am k k<|ae (bG k k) k<|aT k2<|sp h ⟨_,k,(jZ [0,1,4])⟩
 .intro y5 _ h;exact sR<|am k k<|aT k2<|aV<|sp h ⟨mN [(6,.own 1 0 y5.2.2.length)] [(0,⟨3,[[.list 1 (a0.b.map eU),.int y5.1,.int y5.2.1]]⟩),(1,⟨1,y5.2.2.map (ow eI)⟩)] 2 1,jI,k,⟨_,k,.inl k⟩,⟨k,k,dY⟩⟩
def FM(a0:Cu)(a1:Int)(x1:(Int×Int×(List Mt)×Int)):Option ((Int×Int×(List Mt)×Int) ⊕ (Int×Int×(List Mt))):=
 bif decide (x1.2.2.2<((x1.2.2.1.length:Nat):Int))then
 ((bP x1.2.2.1 x1.2.2.2).bind λv6=>
 (bP x1.2.2.1 x1.2.2.2).bind λv7=>
 (uA (⟨a0.b,x1.1,x1.2.1⟩:Cu) a1 v6.rows v7.cols).bind λv8=>
 (bP x1.2.2.1 x1.2.2.2).bind λv9=>
 some (.inl (v8.1,v8.2.1,(x1.2.2.1.set x1.2.2.2.toNat (⟨v8.2.2.1,v8.2.2.2.1,v8.2.2.2.2⟩:Mt)),wr (x1.2.2.2+1))))
 else
 some (.inr (x1.1,x1.2.1,x1.2.2.1))
def Ak(a0:Cu)(a1:Int)(a2:Qv)(a3:Int):Option (Int×Int×Int×Int×aA×aA×aA×(List Mt)):=
 (kD a2).bind λv1=>
 bif !v1 then
 some (a0.i,a0.h,a1,a2.n,a2.src,a2.tgt,[],[])
 else
 ((yZ a0 a2 a3).bind λv3=>
 (nK a1 a2 v3.2.2).bind λv4=>
 (Lp (FM a0 a1) (v3.1,v3.2.1,v4.maps,0)).bind λy10=>
 some (y10.1,y10.2.1,v4.p,v4.q.n,v4.q.src,v4.q.tgt,v4.dims,y10.2.2))
theorem Ih(a0:Cu)(a1:Int)(a2:Qv)(a3:Int)(r:(Int×Int×Int×Int×aA×aA×aA×(List Mt)))(h:Ak a0 a1 a2 a3=some r):HasE Tryz.prog 90 [.ptr 0 0 0,.int a1,.agg (eQ a2),.int a3] [(0,⟨3,[[.list 1 (a0.b.map eU),.int a0.i,.int a0.h]]⟩)] 1 (.agg [.int r.2.2.1,.int r.2.2.2.1,.list 1 (r.2.2.2.2.1.map eI),.list 1 (r.2.2.2.2.2.1.map eI),.own 2 0 r.2.2.2.2.2.2.1.length,.own 3 0 r.2.2.2.2.2.2.2.length]) [(0,⟨3,[[.list 1 (a0.b.map eU),.int r.1,.int r.2.1]]⟩),(2,⟨1,r.2.2.2.2.2.2.1.map (ow eI)⟩),(3,⟨3,r.2.2.2.2.2.2.2.map (ow eM)⟩)]:=by
 refine fI aJ (rvs:=[.cell 8 29]) (ns:=Dz.drop 1) Tryz.func90 k k Tryz.ntmps90 k k<|sR<|ae (wb k) k<|jA k3<|an<|tn<|sQ<|sR<|lp k8<|oB h λv1 hv1 h=>ae (jc (DS _ _ hv1)) k<|ae (dE k) k<|an<|tn<|cH k h (λ_ h=>sR<|am k k<|lp k8<|ae (eP aJ k k k k k k) k<|ae (ws k) k<|an<|tn<|aV<|bU<|sp h ⟨mN [(8,.ptr 1 0 0)] [(0,⟨3,[[.list 1 (a0.b.map eU),.int a0.i,.int a0.h]]⟩),(1,⟨6,[[.int a1,.int a2.n,.list 1 (a2.src.map eI),.list 1 (a2.tgt.map eI),.own 2 0 ([].length),.own 3 0 ([].length)]]⟩),(2,⟨1,List.map (ow eI) []⟩),(3,⟨3,List.map (ow eM) []⟩)] 4 1,(jG [(0,0),(1,2)]),k,⟨_,k,.inl k⟩,⟨k,k,k,dY⟩⟩) λ_ h=>?_;refine aG<|tn<|sQ<|aH dK<|am k k<|lp k8<|am k k<|lp k8<|am k k<|oB h λv3 hv3 h=>ae (jC [(0,0)] [(0,0),(3,1)] [0] [3] [(0,⟨3,[[.list 1 (a0.b.map eU),.int v3.1,.int v3.2.1]]⟩),(3,⟨1,v3.2.2.map (ow eI)⟩)] 4 (.own 3 0 v3.2.2.length) (KJ _ _ _ _ hv3)) k<|oB h λv4 hv4 h=>ae (cR (GA _ _ _ _ hv4) k3 (fE k (aO (kB k) (vcT k k aU)))) k<|jA k3<|ae (ws k) k<|an<|lZ (by kernel_rfl)<|tn<|sQ<|sR<|aT k2<|jB h (λx1=>mN [(0,.ptr 0 0 0),(1,.int a1),(8,.ptr 1 0 0),(9,.ptr 2 0 0),(10,.int x1.2.2.2)] [(0,⟨3,[[.list 1 (a0.b.map eU),.int x1.1,.int x1.2.1]]⟩),(1,⟨6,[jY]⟩),(2,⟨6,[[.int v4.p,.int v4.q.n,.own 3 0 v4.q.src.length,.own 4 0 v4.q.tgt.length,.own 5 0 v4.dims.length,.own 6 0 x1.2.2.1.length]]⟩),(3,⟨1,v4.q.src.map (ow eI)⟩),(4,⟨1,v4.q.tgt.map (ow eI)⟩),(5,⟨1,v4.dims.map (ow eI)⟩),(6,⟨3,x1.2.2.1.map (ow eM)⟩)] 7 1) (λr=>mN [(8,.ptr 1 0 0),(9,.ptr 2 0 0)] [(0,⟨3,[[.list 1 (a0.b.map eU),.int r.1,.int r.2.1]]⟩),(1,⟨6,[jY]⟩),(2,⟨6,[[.int v4.p,.int v4.q.n,.own 3 0 v4.q.src.length,.own 4 0 v4.q.tgt.length,.own 5 0 v4.dims.length,.own 6 0 r.2.2.length]]⟩),(3,⟨1,v4.q.src.map (ow eI)⟩),(4,⟨1,v4.q.tgt.map (ow eI)⟩),(5,⟨1,v4.dims.map (ow eI)⟩),(6,⟨3,r.2.2.map (ow eM)⟩)] 7 1) ?_ ?_ (jZ [0,2,8,4,5,6,7])
 .intro x1 o h;refine sQ<|sR<|am k k<|fp k8<|lp k8<|jn k5<|cm k4<|an<|tn<|cH k h (λ_ h=>?_) λ_ h=>aR<|aC<|aC<|sp h ⟨_,k,k,jI⟩;refine aG<|tn<|sQ<|aL<|aH dK<|fp k8<|lp k8<|am k k<|am k k<|am k k<|fp k8<|lp k8<|am k k<|jp h k2 λv6 hv6 h=>fp k8<|ae (wp hv6 k) k<|fp k8<|lp k8<|am k k<|jp h k2 λv7 hv7 h=>fp k8<|ae (wp hv7 k) k<|oB h λv8 hv8 h=>ae (jC [(0,0)] [(0,0),(7,2)] [0] [7] [(0,⟨3,[[.list 1 (a0.b.map eU),.int v8.1,.int v8.2.1]]⟩),(7,⟨1,v8.2.2.2.2.map (ow eI)⟩)] 8 (.agg [.int v8.2.2.1,.int v8.2.2.2.1,.own 7 0 v8.2.2.2.2.length]) (Hl _ _ _ _ _ hv8)) k<|jp h k2 λv9 hv9 h=>ae (Gs aJ k k k k k k (wA (cJ hv9)) k) k<|an<|lZ (by kernel_rfl)<|aY<|tn ?_;exact bK (t:=mN [(0,.ptr 0 0 0),(1,.int a1),(8,.ptr 1 0 0),(9,.ptr 2 0 0),(10,.int x1.2.2.2)] [(0,⟨3,[[.list 1 (a0.b.map eU),.int v8.1,.int v8.2.1]]⟩),(1,⟨6,[jY]⟩),(2,⟨6,[[.int v4.p,.int v4.q.n,.own 3 0 v4.q.src.length,.own 4 0 v4.q.tgt.length,.own 5 0 v4.dims.length,.own 6 0 x1.2.2.1.length]]⟩),(3,⟨1,v4.q.src.map (ow eI)⟩),(4,⟨1,v4.q.tgt.map (ow eI)⟩),(5,⟨1,v4.dims.map (ow eI)⟩),(6,⟨3,(x1.2.2.1.map (ow eM)).set x1.2.2.2.toNat [.int v8.2.2.1,.int v8.2.2.2.1,.own 7 0 v8.2.2.2.2.length]⟩),(7,⟨1,v8.2.2.2.2.map (ow eI)⟩)] 8 1) (uN (σ:=sg [(0,0),(1,1),(2,2),(3,3),(4,4),(5,5),(6,6),(7,7)]) (Ha k2) (Cn k<|Cn k<|JK k<|qK k<|qK k<|qK k<|hX ⟨_,k,k,.inr (JL (σ:=sg [(0,0),(1,1),(2,2),(3,3),(4,4),(5,5),(6,6),(7,7)]) (m:=8) (e:=eM) (l:=x1.2.2.1) (i:=x1.2.2.2.toNat) (c:=[.int v8.2.2.1,.int v8.2.2.2.1,.own 7 0 v8.2.2.2.2.length]) (d:=[.int v8.2.2.1,.int v8.2.2.2.1,.own 7 0 v8.2.2.2.2.length]) dC ⟨_,_,k,k,⟨_,_,k,k,⟨_,_,k,⟨k,k,k,k⟩,k⟩⟩⟩)⟩ k<|qK k<|dY) k)<|rg<|am k k<|ae (bG k k) k<|aT k2<|sp h ⟨_,k,(Ent.trans (show Ent _ (mN [(0,.ptr 0 0 0),(1,.int a1),(8,.ptr 1 0 0),(9,.ptr 2 0 0),(10,.int (wr (x1.2.2.2+1)))] [(0,⟨3,[[.list 1 (a0.b.map eU),.int v8.1,.int v8.2.1]]⟩),(1,⟨6,[jY]⟩),(2,⟨6,[[.int v4.p,.int v4.q.n,.own 3 0 v4.q.src.length,.own 4 0 v4.q.tgt.length,.own 5 0 v4.dims.length,.own 6 0 ((x1.2.2.1.set x1.2.2.2.toNat (⟨v8.2.2.1,v8.2.2.2.1,v8.2.2.2.2⟩:Mt)).length)]]⟩),(3,⟨1,v4.q.src.map (ow eI)⟩),(4,⟨1,v4.q.tgt.map (ow eI)⟩),(5,⟨1,v4.dims.map (ow eI)⟩),(6,⟨3,List.map (ow eM) (x1.2.2.1.set x1.2.2.2.toNat (⟨v8.2.2.1,v8.2.2.2.1,v8.2.2.2.2⟩:Mt))⟩)] 8 1) from (Ent.trans (Ap (b:=6) (b':=7) (j:=2) (es':=v8.2.2.2.2.map eI) (by rw[dM];exact oY hv9) k k k k (bF _ _) (cD.frzs _)) (KZ (Ha k2) (Cn k<|Cn k<|hX ⟨_,k,k,.inr ⟨_,_,k,⟨_,_,k,k,⟨_,_,k,k,⟨_,_,k,⟨k,k,k,k⟩,⟨_,_,k,⟨k,k,k,k⟩,⟨_,_,k,⟨k,k,k,k⟩,⟨_,_,k,⟨k,k,(by simp only[bF,lA,lT,lR,lC,lN]),k⟩,k⟩⟩⟩⟩⟩⟩,k⟩⟩ k<|qK k<|qK k<|qK k<|hX ⟨_,k,k,.inl ⟨Gw (⟨v8.2.2.1,v8.2.2.2.1,v8.2.2.2.2⟩:Mt) k,dC.plainO _⟩⟩ k<|dY) k4))) jI)⟩
 .intro y10 _ h;exact sQ<|bK (gU (b:=2) (b':=3) (i:=0) (j:=2) (es':=v4.q.src.map eI) k k k k (qC cD k k))<|bK (gU (b:=2) (b':=4) (i:=0) (j:=3) (es':=v4.q.tgt.map eI) k k k k (qC cD k k))<|rg<|lp k8<|ae (ws k) k<|an<|tn<|aV<|sp h ⟨mN [(8,.ptr 1 0 0)] [(0,⟨3,[[.list 1 (a0.b.map eU),.int y10.1,.int y10.2.1]]⟩),(1,⟨6,[[.int v4.p,.int v4.q.n,.list 1 (v4.q.src.map eI),.list 1 (v4.q.tgt.map eI),.own 2 0 v4.dims.length,.own 3 0 y10.2.2.length]]⟩),(2,⟨1,v4.dims.map (ow eI)⟩),(3,⟨3,y10.2.2.map (ow eM)⟩)] 4 1,(jZ [0,1,5,6]),k,⟨_,k,.inl k⟩,⟨k,k,k,dY⟩⟩
def Bf(a0:Cu):Option (Int×Int×aA×(List Mt)×Int×Int×aA×aA):=
 (Bc a0).bind λv1=>
 (Be (⟨a0.b,v1.1,v1.2.1⟩:Cu)).bind λv2=>
 (Ak (⟨a0.b,v2.1,v2.2.1⟩:Cu) v1.2.2 (⟨v2.2.2.1,v2.2.2.2.1,v2.2.2.2.2⟩:Qv) 2).bind λv3=>
 (cE (⟨a0.b,v3.1,v3.2.1⟩:Cu) 14).bind λv4=>
 bif decide (v4.2.2=0)then
 (bif decide (v3.2.2.2.2.2.2.1.length+[1].length <=4294967296)then
 some (v4.1,v4.2.1,(v3.2.2.2.2.2.2.1++[1]),v3.2.2.2.2.2.2.2,v3.2.2.1,v3.2.2.2.1,v3.2.2.2.2.1,v3.2.2.2.2.2.1)
 else none)
 else
 (bif decide (v4.2.2=1)then
 (bif decide (0<((v3.2.2.2.2.2.2.2.length:Nat):Int))then
 ((EU (⟨a0.b,v4.1,v4.2.1⟩:Cu) v1.2.2).bind λv9=>
 (bP v3.2.2.2.2.2.2.2 0).bind λv10=>
 some (v9.1,v9.2.1,v3.2.2.2.2.2.2.1,(v3.2.2.2.2.2.2.2.set ((0:Int).toNat) (⟨v9.2.2.1,v9.2.2.2.2,v9.2.2.2.1⟩:Mt)),v3.2.2.1,v3.2.2.2.1,v3.2.2.2.2.1,v3.2.2.2.2.2.1))
 else
 (some (v4.1,v4.2.1,v3.2.2.2.2.2.2.1,v3.2.2.2.2.2.2.2,v3.2.2.1,v3.2.2.2.1,v3.2.2.2.2.1,v3.2.2.2.2.2.1)))
 else
 (bif decide (v4.2.2=2)then
 (bif decide (0<((v3.2.2.2.2.2.2.1.length:Nat):Int))then
 ((fQ (⟨a0.b,v4.1,v4.2.1⟩:Cu) [(-1),5,0]).bind λv13=>
 (bP v3.2.2.2.2.2.2.1 0).bind λv14=>
 some (v13.1,v13.2.1,(v3.2.2.2.2.2.2.1.set ((0:Int).toNat) v13.2.2),v3.2.2.2.2.2.2.2,v3.2.2.1,v3.2.2.2.1,v3.2.2.2.2.1,v3.2.2.2.2.2.1))
 else
 (some (v4.1,v4.2.1,v3.2.2.2.2.2.2.1,v3.2.2.2.2.2.2.2,v3.2.2.1,v3.2.2.2.1,v3.2.2.2.2.1,v3.2.2.2.2.2.1)))
 else
 (some (v4.1,v4.2.1,v3.2.2.2.2.2.2.1,v3.2.2.2.2.2.2.2,v3.2.2.1,v3.2.2.2.1,v3.2.2.2.2.1,v3.2.2.2.2.2.1))))
theorem MJ(a0:Cu)(r:(Int×Int×aA×(List Mt)×Int×Int×aA×aA))(h:Bf a0=some r):HasE Tryz.prog 52 [.ptr 0 0 0] [(0,⟨3,[[.list 1 (a0.b.map eU),.int a0.i,.int a0.h]]⟩)] 1 (.agg [.int r.2.2.2.2.1,.int r.2.2.2.2.2.1,.list 1 (r.2.2.2.2.2.2.1.map eI),.list 1 (r.2.2.2.2.2.2.2.map eI),.own 2 0 r.2.2.1.length,.own 3 0 r.2.2.2.1.length]) [(0,⟨3,[[.list 1 (a0.b.map eU),.int r.1,.int r.2.1]]⟩),(2,⟨1,r.2.2.1.map (ow eI)⟩),(3,⟨3,r.2.2.2.1.map (ow eM)⟩)]:=by
 refine fI aJ (rvs:=[.cell 2 29]) (ns:=Dz.drop 1) Tryz.func52 k k Tryz.ntmps52 k k<|sR<|jA k3<|an<|tn<|sR<|am k k<|oB h λv1 hv1 h=>ae (jU 0 [] (QH _ _ hv1)) k<|aT k2<|sR<|am k k<|oB h λv2 hv2 h=>ae (jC [(0,0)] [(0,0),(2,2),(3,3)] [0] [2,3] [(0,⟨3,[[.list 1 (a0.b.map eU),.int v2.1,.int v2.2.1]]⟩),(2,⟨1,v2.2.2.2.1.map (ow eI)⟩),(3,⟨1,v2.2.2.2.2.map (ow eI)⟩)] 4 (.agg [.int v2.2.2.1,.own 2 0 v2.2.2.2.1.length,.own 3 0 v2.2.2.2.2.length]) (MI _ _ hv2)) k<|jA k3<|ae (ws k) k<|an<|tn<|sR<|am k k<|am k k<|lp k8<|oB h λv3 hv3 h=>ae (Pg (σ:=sg [(0,0)]) (σ':=sg [(0,0),(5,2),(6,3)]) (touch:=[0,2,3]) (news:=[5,6]) (mR:=[(0,⟨3,[[.list 1 (a0.b.map eU),.int v3.1,.int v3.2.1]]⟩),(5,⟨1,v3.2.2.2.2.2.2.1.map (ow eI)⟩),(6,⟨3,v3.2.2.2.2.2.2.2.map (ow eM)⟩)]) (n':=7) (r2:=.agg [.int v3.2.2.1,.int v3.2.2.2.1,.list 1 (v3.2.2.2.2.1.map eI),.list 1 (v3.2.2.2.2.2.1.map eI),.own 5 0 v3.2.2.2.2.2.2.1.length,.own 6 0 v3.2.2.2.2.2.2.2.length]) (Ih _ _ _ _ _ hv3) k k ⟨_,_,k,(.inl ⟨k,k,k,k⟩),⟨_,_,k,(.inl k),⟨_,_,k,(.inr ⟨⟨_,_,k,(mX k),⟨_,_,k,(qC cD k k),⟨_,_,k,(qC cD k k),k⟩⟩⟩,k,k⟩),⟨_,_,k,(.inl k),k⟩⟩⟩⟩ ⟨⟨_,k,k,.inr ⟨_,_,k,⟨_,_,k,⟨k,k⟩,⟨_,_,k,k,⟨_,_,k,k,k⟩⟩⟩,k⟩⟩,k,dY⟩ k k k ⟨⟨_,k,k,.inr ⟨_,_,k,⟨_,_,k,⟨k,k⟩,⟨_,_,k,k,⟨_,_,k,k,k⟩⟩⟩,k⟩⟩,k,⟨_,k,k,.inl ⟨k,cD.plainO _⟩⟩,k,⟨_,k,k,.inl ⟨k,dC.plainO _⟩⟩,k,dY⟩ k (.inl ⟨_,_,k,k,⟨_,_,k,k,⟨_,_,k,⟨k,k⟩,⟨_,_,k,⟨k,k⟩,⟨_,_,k,⟨k,k,(by simp only[bF,lA,lT,lR,lC,lN]),k⟩,⟨_,_,k,⟨k,k,(by simp only[bF,lA,lT,lR,lC,lN]),k⟩,k⟩⟩⟩⟩⟩⟩) k ⟨k,Pf k,⟨k,cD.tamd _ _,⟨k,dC.tamd _ _,dY⟩⟩⟩ k k) k<|jA k3<|ae (ws k) k<|an ?_;refine tn<|sQ<|sR<|am k k<|oB h λv4 hv4 h=>ae (jU 0 [] (dH _ _ _ hv4)) k<|an<|tn<|aL<|sR<|cm k4<|aT k2<|cH k h (λ_ h=>rg<|fp k8<|lp k8<|ae (wl k) k<|cG h λq6 h=>ae (gZ aJ (l:=v3.2.2.2.2.2.2.1) (m:=[1]) gS q6 k k k k k k k k k k k k) k<|fp k8<|ae (ws k) k<|an<|aY<|tn<|sR<|lp k8<|ae (ws k) k<|an<|tn<|aV<|sp h ⟨mN [(2,.ptr 1 0 0)] [(0,⟨3,[[.list 1 (a0.b.map eU),.int v4.1,.int v4.2.1]]⟩),(1,⟨6,[[.int v3.2.2.1,.int v3.2.2.2.1,.list 1 (v3.2.2.2.2.1.map eI),.list 1 (v3.2.2.2.2.2.1.map eI),.own 2 0 ((v3.2.2.2.2.2.2.1++[1]).length),.own 3 0 v3.2.2.2.2.2.2.2.length]]⟩),(2,⟨1,List.map (ow eI) (v3.2.2.2.2.2.2.1++[1])⟩),(3,⟨3,v3.2.2.2.2.2.2.2.map (ow eM)⟩)] 4 1,(jZ [0,1,9,6]),k,⟨_,k,.inl k⟩,⟨k,k,k,dY⟩⟩) λ_ h=>?_;refine sR<|cm k4<|aT k2<|cH k h (λ_ h=>?_) λ_ h=>?_
 .refine sR<|fp k8<|lp k8<|jn k5<|cm k4<|an<|tn<|cH k h (λ_ h=>?_) λ_ h=>aG<|aY<|tn<|sR<|lp k8<|ae (ws k) k<|an<|tn<|aV<|sp h ⟨mN [(2,.ptr 1 0 0)] [(0,⟨3,[[.list 1 (a0.b.map eU),.int v4.1,.int v4.2.1]]⟩),(1,⟨6,[[.int v3.2.2.1,.int v3.2.2.2.1,.list 1 (v3.2.2.2.2.1.map eI),.list 1 (v3.2.2.2.2.2.1.map eI),.own 2 0 v3.2.2.2.2.2.2.1.length,.own 3 0 v3.2.2.2.2.2.2.2.length]]⟩),(2,⟨1,v3.2.2.2.2.2.2.1.map (ow eI)⟩),(3,⟨3,v3.2.2.2.2.2.2.2.map (ow eM)⟩)] 4 1,(jZ [0,1,5,6]),k,⟨_,k,.inl k⟩,⟨k,k,k,dY⟩⟩;exact aH dK<|fp k8<|lp k8<|am k k<|am k k<|oB h λv9 hv9 h=>ae (jC [(0,0)] [(0,0),(8,2)] [0] [8] [(0,⟨3,[[.list 1 (a0.b.map eU),.int v9.1,.int v9.2.1]]⟩),(8,⟨1,v9.2.2.2.1.map (ow eI)⟩)] 9 (.agg [.int v9.2.2.1,.int v9.2.2.2.2,.own 8 0 v9.2.2.2.1.length]) (TU _ _ _ hv9)) k<|jp h k2 λv10 hv10 h=>ae (Gs aJ k k k k k k (wA (cJ hv10)) k) k<|an<|lZ (by kernel_rfl)<|aY<|tn<|sR<|lp k8<|ae (ws k) k<|an<|tn<|aV<|sp h ⟨mN [(2,.ptr 1 0 0)] [(0,⟨3,[[.list 1 (a0.b.map eU),.int v9.1,.int v9.2.1]]⟩),(1,⟨6,[[.int v3.2.2.1,.int v3.2.2.2.1,.list 1 (v3.2.2.2.2.1.map eI),.list 1 (v3.2.2.2.2.2.1.map eI),.own 2 0 v3.2.2.2.2.2.2.1.length,.own 3 0 ((v3.2.2.2.2.2.2.2.set ((0:Int).toNat) (⟨v9.2.2.1,v9.2.2.2.2,v9.2.2.2.1⟩:Mt)).length)]]⟩),(2,⟨1,v3.2.2.2.2.2.2.1.map (ow eI)⟩),(3,⟨3,List.map (ow eM) (v3.2.2.2.2.2.2.2.set ((0:Int).toNat) (⟨v9.2.2.1,v9.2.2.2.2,v9.2.2.2.1⟩:Mt))⟩)] 4 1,(Ent.trans (show Ent _ (mN [(2,.ptr 1 0 0)] [(0,⟨3,[[.list 1 (a0.b.map eU),.int v9.1,.int v9.2.1]]⟩),(1,⟨6,[[.int v3.2.2.1,.int v3.2.2.2.1,.list 1 (v3.2.2.2.2.1.map eI),.list 1 (v3.2.2.2.2.2.1.map eI),.own 5 0 v3.2.2.2.2.2.2.1.length,.own 6 0 ((v3.2.2.2.2.2.2.2.set ((0:Int).toNat) (⟨v9.2.2.1,v9.2.2.2.2,v9.2.2.2.1⟩:Mt)).length)]]⟩),(5,⟨1,v3.2.2.2.2.2.2.1.map (ow eI)⟩),(6,⟨3,List.map (ow eM) (v3.2.2.2.2.2.2.2.set ((0:Int).toNat) (⟨v9.2.2.1,v9.2.2.2.2,v9.2.2.2.1⟩:Mt))⟩)] 9 1) from (Ent.trans (Ap (b:=6) (b':=8) (j:=2) (es':=v9.2.2.2.1.map eI) (by rw[dM];exact oY hv10) k k k k (bF _ _) (cD.frzs _)) (KZ (Ha k2) (Cn k<|hX ⟨_,k,k,.inr ⟨_,_,k,⟨_,_,k,k,⟨_,_,k,k,⟨_,_,k,⟨k,k⟩,⟨_,_,k,⟨k,k⟩,⟨_,_,k,⟨k,k,k,k⟩,⟨_,_,k,⟨k,k,(by simp only[bF,lA,lT,lR,lC,lN]),k⟩,k⟩⟩⟩⟩⟩⟩,k⟩⟩ k<|qK k<|hX ⟨_,k,k,.inl ⟨Gw (⟨v9.2.2.1,v9.2.2.2.2,v9.2.2.2.1⟩:Mt) k,dC.plainO _⟩⟩ k<|dY) k4))) (jZ [0,1,5,6])),k,⟨_,k,.inl k⟩,⟨k,k,k,dY⟩⟩
 .refine sR<|cm k4<|aT k2<|cH k h (λ_ h=>?_) λ_ h=>aG<|aY<|tn<|sR<|lp k8<|ae (ws k) k<|an<|tn<|aV<|sp h ⟨mN [(2,.ptr 1 0 0)] [(0,⟨3,[[.list 1 (a0.b.map eU),.int v4.1,.int v4.2.1]]⟩),(1,⟨6,[[.int v3.2.2.1,.int v3.2.2.2.1,.list 1 (v3.2.2.2.2.1.map eI),.list 1 (v3.2.2.2.2.2.1.map eI),.own 2 0 v3.2.2.2.2.2.2.1.length,.own 3 0 v3.2.2.2.2.2.2.2.length]]⟩),(2,⟨1,v3.2.2.2.2.2.2.1.map (ow eI)⟩),(3,⟨3,v3.2.2.2.2.2.2.2.map (ow eM)⟩)] 4 1,(jZ [0,1,5,6]),k,⟨_,k,.inl k⟩,⟨k,k,k,dY⟩⟩;exact sR<|fp k8<|lp k8<|jn k5<|cm k4<|an<|tn<|cH k h (λ_ h=>aH dK<|fp k8<|lp k8<|am k k<|ae (wl k) k<|oB h λv13 hv13 h=>ae (jU 0 [8] (iY _ _ _ hv13)) k<|jp h k2 λv14 hv14 h=>ae (eD aJ gS (u:=v13.2.2) (cJ hv14) k k k k k k) k<|an<|lZ (by kernel_rfl)<|aY<|tn<|sR<|lp k8<|ae (ws k) k<|an<|tn<|aV<|sp h ⟨mN [(2,.ptr 1 0 0)] [(0,⟨3,[[.list 1 (a0.b.map eU),.int v13.1,.int v13.2.1]]⟩),(1,⟨6,[[.int v3.2.2.1,.int v3.2.2.2.1,.list 1 (v3.2.2.2.2.1.map eI),.list 1 (v3.2.2.2.2.2.1.map eI),.own 2 0 ((v3.2.2.2.2.2.2.1.set ((0:Int).toNat) v13.2.2).length),.own 3 0 v3.2.2.2.2.2.2.2.length]]⟩),(2,⟨1,List.map (ow eI) (v3.2.2.2.2.2.2.1.set ((0:Int).toNat) v13.2.2)⟩),(3,⟨3,v3.2.2.2.2.2.2.2.map (ow eM)⟩)] 4 1,(jZ [0,1,5,6]),k,⟨_,k,.inl k⟩,⟨k,k,k,dY⟩⟩) λ_ h=>aG<|aY<|tn<|sR<|lp k8<|ae (ws k) k<|an<|tn<|aV<|sp h ⟨mN [(2,.ptr 1 0 0)] [(0,⟨3,[[.list 1 (a0.b.map eU),.int v4.1,.int v4.2.1]]⟩),(1,⟨6,[[.int v3.2.2.1,.int v3.2.2.2.1,.list 1 (v3.2.2.2.2.1.map eI),.list 1 (v3.2.2.2.2.2.1.map eI),.own 2 0 v3.2.2.2.2.2.2.1.length,.own 3 0 v3.2.2.2.2.2.2.2.length]]⟩),(2,⟨1,v3.2.2.2.2.2.2.1.map (ow eI)⟩),(3,⟨3,v3.2.2.2.2.2.2.2.map (ow eM)⟩)] 4 1,(jZ [0,1,5,6]),k,⟨_,k,.inl k⟩,⟨k,k,k,dY⟩⟩
def uM(a0:Cu):Option (Int×Int×Int×Int×aA×aA×aA×(List Mt)):=
 (Bd a0).bind λv1=>
 (yY (⟨a0.b,v1.1,v1.2.1⟩:Cu) [(⟨#[65,49]⟩:ByteArray),(⟨#[65,50]⟩:ByteArray),(⟨#[65,51]⟩:ByteArray),(⟨#[65,51,105,110]⟩:ByteArray),(⟨#[75,50]⟩:ByteArray),(⟨#[108,111,111,112]⟩:ByteArray)]).bind λv2=>
 (gX v2.2.2).bind λv3=>
 (nM (⟨a0.b,v2.1,v2.2.1⟩:Cu) 12).bind λv4=>
 bif v4.2.2 then
 ((Bf (⟨a0.b,v4.1,v4.2.1⟩:Cu)).bind λv6=>
 some (v6.1,v6.2.1,v6.2.2.2.2.1,v6.2.2.2.2.2.1,v6.2.2.2.2.2.2.1,v6.2.2.2.2.2.2.2,v6.2.2.1,v6.2.2.2.1))
 else
 ((Ak (⟨a0.b,v4.1,v4.2.1⟩:Cu) v1.2.2 v3.1 2).bind λv7=>
 (wQ (⟨v7.2.2.1,(⟨v7.2.2.2.1,v7.2.2.2.2.1,v7.2.2.2.2.2.1⟩:Qv),v7.2.2.2.2.2.2.1,v7.2.2.2.2.2.2.2⟩:Rp)).bind λv8=>
 bif decide (4<v8)then
 ((Ak (⟨a0.b,v7.1,v7.2.1⟩:Cu) v1.2.2 v3.1 1).bind λv10=>
 some (v10.1,v10.2.1,v10.2.2.1,v10.2.2.2.1,v10.2.2.2.2.1,v10.2.2.2.2.2.1,v10.2.2.2.2.2.2.1,v10.2.2.2.2.2.2.2))
 else
 (some (v7.1,v7.2.1,v7.2.2.1,v7.2.2.2.1,v7.2.2.2.2.1,v7.2.2.2.2.2.1,v7.2.2.2.2.2.2.1,v7.2.2.2.2.2.2.2)))
theorem GB(a0:Cu)(r:(Int×Int×Int×Int×aA×aA×aA×(List Mt)))(h:uM a0=some r):HasE Tryz.prog 39 [.ptr 0 0 0] [(0,⟨3,[[.list 1 (a0.b.map eU),.int a0.i,.int a0.h]]⟩)] 1 (.agg [.int r.2.2.1,.int r.2.2.2.1,.list 1 (r.2.2.2.2.1.map eI),.list 1 (r.2.2.2.2.2.1.map eI),.own 2 0 r.2.2.2.2.2.2.1.length,.own 3 0 r.2.2.2.2.2.2.2.length]) [(0,⟨3,[[.list 1 (a0.b.map eU),.int r.1,.int r.2.1]]⟩),(2,⟨1,r.2.2.2.2.2.2.1.map (ow eI)⟩),(3,⟨3,r.2.2.2.2.2.2.2.map (ow eM)⟩)]:=by
 refine fI aJ (rvs:=[.cell 2 29]) (ns:=Dz.drop 1) Tryz.func39 k k Tryz.ntmps39 k k<|sR<|jA k3<|an<|tn<|sR<|am k k<|oB h λv1 hv1 h=>ae (jU 0 [] (QI _ _ hv1)) k<|aT k2<|sR<|am k k<|ae (wl k) k<|oB h λv2 hv2 h=>ae (jU 0 [2] (KI _ _ _ hv2)) k<|oB h λv3 hv3 h=>ae (Vv (AS _ _ hv3) k3 (fE k aU)) k<|am k k<|jx k4<|jx k4<|jA k3<|ae (ws k) k<|aT k2<|sQ<|sQ<|bK (gU (b:=5) (b':=3) (i:=0) (j:=1) (es':=v3.1.src.map eI) k k k k (qC cD k k)) ?_;refine bK (gU (b:=5) (b':=4) (i:=0) (j:=2) (es':=v3.1.tgt.map eI) k k k k (qC cD k k))<|rg<|am k k<|oB h λv4 hv4 h=>ae (jU 0 [] (yX _ _ _ hv4)) k<|an<|tn<|cH k h (λ_ h=>?_) λ_ h=>?_
 .exact sR<|am k k<|oB h λv6 hv6 h=>ae (jC [(0,0)] [(0,0),(6,2),(7,3)] [0] [6,7] [(0,⟨3,[[.list 1 (a0.b.map eU),.int v6.1,.int v6.2.1]]⟩),(6,⟨1,v6.2.2.1.map (ow eI)⟩),(7,⟨3,v6.2.2.2.1.map (ow eM)⟩)] 8 (.agg [.int v6.2.2.2.2.1,.int v6.2.2.2.2.2.1,.list 1 (v6.2.2.2.2.2.2.1.map eI),.list 1 (v6.2.2.2.2.2.2.2.map eI),.own 6 0 v6.2.2.1.length,.own 7 0 v6.2.2.2.1.length]) (MJ _ _ hv6)) k<|ae (ws k) k<|an<|tn<|aV<|bU<|sp h ⟨mN [(2,.ptr 1 0 0)] [(0,⟨3,[[.list 1 (a0.b.map eU),.int v6.1,.int v6.2.1]]⟩),(1,⟨6,[[.int v6.2.2.2.2.1,.int v6.2.2.2.2.2.1,.list 1 (v6.2.2.2.2.2.2.1.map eI),.list 1 (v6.2.2.2.2.2.2.2.map eI),.own 2 0 v6.2.2.1.length,.own 3 0 v6.2.2.2.1.length]]⟩),(2,⟨1,v6.2.2.1.map (ow eI)⟩),(3,⟨3,v6.2.2.2.1.map (ow eM)⟩)] 4 1,(jZ [0,1,6,7]),k,⟨_,k,.inl k⟩,⟨k,k,k,dY⟩⟩
 .refine aG<|tn<|sR<|am k k<|am k k<|lp k8<|oB h λv7 hv7 h=>ae (jC [(0,0)] [(0,0),(6,2),(7,3)] [0] [6,7] [(0,⟨3,[[.list 1 (a0.b.map eU),.int v7.1,.int v7.2.1]]⟩),(6,⟨1,v7.2.2.2.2.2.2.1.map (ow eI)⟩),(7,⟨3,v7.2.2.2.2.2.2.2.map (ow eM)⟩)] 8 (.agg [.int v7.2.2.1,.int v7.2.2.2.1,.list 1 (v7.2.2.2.2.1.map eI),.list 1 (v7.2.2.2.2.2.1.map eI),.own 6 0 v7.2.2.2.2.2.2.1.length,.own 7 0 v7.2.2.2.2.2.2.2.length]) (Ih _ _ _ _ _ hv7)) k<|jA k3<|ae (ws k) k<|an<|tn<|sQ<|sR<|lp k8<|oB h λv8 hv8 h=>ae (iQ (IY _ _ hv8) k (aO (Ix (hJ (mX k) (hJ (mX k) (hJ (mX k) (hJ (mX k) (hJ (qC cD k k) (hJ (qC dC k k) Ei))))))) aU)) k<|cm k4<|an<|tn<|cH k h (λ_ h=>?_) λ_ h=>aG<|tn<|sR<|lp k8<|ae (ws k) k<|an<|tn<|aV<|sp h ⟨mN [(2,.ptr 1 0 0)] [(0,⟨3,[[.list 1 (a0.b.map eU),.int v7.1,.int v7.2.1]]⟩),(1,⟨6,[[.int v7.2.2.1,.int v7.2.2.2.1,.list 1 (v7.2.2.2.2.1.map eI),.list 1 (v7.2.2.2.2.2.1.map eI),.own 2 0 v7.2.2.2.2.2.2.1.length,.own 3 0 v7.2.2.2.2.2.2.2.length]]⟩),(2,⟨1,v7.2.2.2.2.2.2.1.map (ow eI)⟩),(3,⟨3,v7.2.2.2.2.2.2.2.map (ow eM)⟩)] 4 1,(jZ [0,1,6,7]),k,⟨_,k,.inl k⟩,⟨k,k,k,dY⟩⟩;exact sR<|am k k<|am k k<|lp k8<|oB h λv10 hv10 h=>ae (jC [(0,0)] [(0,0),(9,2),(10,3)] [0] [9,10] [(0,⟨3,[[.list 1 (a0.b.map eU),.int v10.1,.int v10.2.1]]⟩),(9,⟨1,v10.2.2.2.2.2.2.1.map (ow eI)⟩),(10,⟨3,v10.2.2.2.2.2.2.2.map (ow eM)⟩)] 11 (.agg [.int v10.2.2.1,.int v10.2.2.2.1,.list 1 (v10.2.2.2.2.1.map eI),.list 1 (v10.2.2.2.2.2.1.map eI),.own 9 0 v10.2.2.2.2.2.2.1.length,.own 10 0 v10.2.2.2.2.2.2.2.length]) (Ih _ _ _ _ _ hv10)) k<|ae (ws k) k<|an<|tn<|aV<|bU<|sp h ⟨mN [(2,.ptr 1 0 0)] [(0,⟨3,[[.list 1 (a0.b.map eU),.int v10.1,.int v10.2.1]]⟩),(1,⟨6,[[.int v10.2.2.1,.int v10.2.2.2.1,.list 1 (v10.2.2.2.2.1.map eI),.list 1 (v10.2.2.2.2.2.1.map eI),.own 2 0 v10.2.2.2.2.2.2.1.length,.own 3 0 v10.2.2.2.2.2.2.2.length]]⟩),(2,⟨1,v10.2.2.2.2.2.2.1.map (ow eI)⟩),(3,⟨3,v10.2.2.2.2.2.2.2.map (ow eM)⟩)] 4 1,(jZ [0,1,9,10]),k,⟨_,k,.inl k⟩,⟨k,k,k,dY⟩⟩
def Bg(a0:aA)(v2:(Int×Int×Int×Int×aA×aA×aA×(List Mt)))(x1:(Int×Int×aA×Int)):Option ((Int×Int×aA×Int) ⊕ (Int×Int×aA)):=
 bif decide (x1.2.2.2<((v2.2.2.2.2.2.2.1.length:Nat):Int))then
 ((bP v2.2.2.2.2.2.2.1 x1.2.2.2).bind λv4=>
 (cE (⟨a0,x1.1,x1.2.1⟩:Cu) (max 1 (min 5 (wr (v4+1))))).bind λv5=>
 bif decide (x1.2.2.1.length+[v5.2.2].length <=4294967296)then
 some (.inl (v5.1,v5.2.1,(x1.2.2.1++[v5.2.2]),wr (x1.2.2.2+1)))
 else none)
 else
 some (.inr (x1.1,x1.2.1,x1.2.2.1))
def FN(a0:aA):Option (aA×Int×Int×aA×aA×aA×(List Mt)):=
 (qA a0).bind λv1=>
 (uM (⟨a0,0,v1⟩:Cu)).bind λv2=>
 (Lp (Bg a0 v2) (v2.1,v2.2.1,([]:aA),0)).bind λy7=>
 (nM (⟨a0,y7.1,y7.2.1⟩:Cu) 12).bind λv8=>
 bif v8.2.2 then
 (bif decide (y7.2.2.length+[0].length <=4294967296)then
 some ((y7.2.2++[0]),v2.2.2.1,v2.2.2.2.1,v2.2.2.2.2.1,v2.2.2.2.2.2.1,v2.2.2.2.2.2.2.1,v2.2.2.2.2.2.2.2)
 else none)
 else
 some (y7.2.2,v2.2.2.1,v2.2.2.2.1,v2.2.2.2.2.1,v2.2.2.2.2.2.1,v2.2.2.2.2.2.2.1,v2.2.2.2.2.2.2.2)
theorem QJ(a0:aA)(r:(aA×Int×Int×aA×aA×aA×(List Mt)))(h:FN a0=some r):HasE Tryz.prog 27 [.list 1 (a0.map eU)] [] 0 (.tuple [.agg [.int r.2.1,.int r.2.2.1,.list 1 (r.2.2.2.1.map eI),.list 1 (r.2.2.2.2.1.map eI),.own 1 0 r.2.2.2.2.2.1.length,.own 2 0 r.2.2.2.2.2.2.length],.own 3 0 r.1.length]) [(1,⟨1,r.2.2.2.2.2.1.map (ow eI)⟩),(2,⟨3,r.2.2.2.2.2.2.map (ow eM)⟩),(3,⟨1,r.1.map (ow eI)⟩)]:=by
 refine fI aJ (rvs:=[.cell 2 29,.tmp 3]) (ns:=Dz.drop 0) Tryz.func27 k k Tryz.ntmps27 k k<|sR<|jA k3<|aT k2<|sR<|am k k<|oB h λv1 hv1 h=>ae (jC [] [(1,0)] [] [1] [(1,⟨3,[[.list 1 (a0.map eU),.int 0,.int v1]]⟩)] 2 (.ptr 1 0 0) (Bb _ _ hv1)) k<|aT k2<|sR<|am k k<|oB h λv2 hv2 h=>ae (jC [(0,1)] [(1,0),(2,2),(3,3)] [1] [2,3] [(1,⟨3,[[.list 1 (a0.map eU),.int v2.1,.int v2.2.1]]⟩),(2,⟨1,v2.2.2.2.2.2.2.1.map (ow eI)⟩),(3,⟨3,v2.2.2.2.2.2.2.2.map (ow eM)⟩)] 4 (.agg [.int v2.2.2.1,.int v2.2.2.2.1,.list 1 (v2.2.2.2.2.1.map eI),.list 1 (v2.2.2.2.2.2.1.map eI),.own 2 0 v2.2.2.2.2.2.2.1.length,.own 3 0 v2.2.2.2.2.2.2.2.length]) (GB _ _ hv2)) k<|jA k3<|ae (ws k) k<|an<|tn<|sR<|ae (wl k) k<|aT k2<|sQ ?_;refine sR<|aT k2<|jB h (λx1=>mN [(2,.ptr 0 0 0),(4,.ptr 1 0 0),(5,.ptr 2 0 0),(6,.own 5 0 x1.2.2.1.length),(7,.int x1.2.2.2)] [(0,⟨6,[jY]⟩),(1,⟨3,[[.list 1 (a0.map eU),.int x1.1,.int x1.2.1]]⟩),(2,⟨6,[[.int v2.2.2.1,.int v2.2.2.2.1,.list 1 (v2.2.2.2.2.1.map eI),.list 1 (v2.2.2.2.2.2.1.map eI),.own 3 0 v2.2.2.2.2.2.2.1.length,.own 4 0 v2.2.2.2.2.2.2.2.length]]⟩),(3,⟨1,v2.2.2.2.2.2.2.1.map (ow eI)⟩),(4,⟨3,v2.2.2.2.2.2.2.2.map (ow eM)⟩),(5,⟨1,x1.2.2.1.map (ow eI)⟩)] 6 ⟨0,false,none,true⟩) (λr=>mN [(2,.ptr 0 0 0),(4,.ptr 1 0 0),(5,.ptr 2 0 0),(6,.own 5 0 r.2.2.length)] [(0,⟨6,[jY]⟩),(1,⟨3,[[.list 1 (a0.map eU),.int r.1,.int r.2.1]]⟩),(2,⟨6,[[.int v2.2.2.1,.int v2.2.2.2.1,.list 1 (v2.2.2.2.2.1.map eI),.list 1 (v2.2.2.2.2.2.1.map eI),.own 3 0 v2.2.2.2.2.2.2.1.length,.own 4 0 v2.2.2.2.2.2.2.2.length]]⟩),(3,⟨1,v2.2.2.2.2.2.2.1.map (ow eI)⟩),(4,⟨3,v2.2.2.2.2.2.2.2.map (ow eM)⟩),(5,⟨1,r.2.2.map (ow eI)⟩)] 6 ⟨0,false,none,true⟩) ?_ ?_ (jZ [0,1,4,2,3,5])
 .intro x1 o h;exact sQ<|sR<|am k k<|fp k8<|lp k8<|jn k5<|cm k4<|an<|tn<|cH k h (λ_ h=>aG<|tn<|sQ<|aL<|rg<|am k k<|am k k<|fp k8<|lp k8<|am k k<|jp h k2 λv4 hv4 h=>ae (wp hv4 k) k<|ae (bG k k) k<|ae (Xf k k) k<|ae (aAT k k) k<|oB h λv5 hv5 h=>ae (jU 1 [] (dH _ _ _ hv5)) k<|ae (wl k) k<|cG h λq6 h=>ae (gZ aJ (l:=x1.2.2.1) (m:=[v5.2.2]) gS q6 k k k k k k k k k k k k) k<|aa k k<|an<|aY<|tn<|rg<|am k k<|ae (bG k k) k<|aT k2<|sp h ⟨_,k,(jZ [0,1,2,3,4,7])⟩) λ_ h=>aR<|jo
 .intro y7 _ h;exact sQ<|sR<|am k k<|oB h λv8 hv8 h=>ae (jU 1 [] (yX _ _ _ hv8)) k<|an<|tn<|cH k h (λ_ h=>rg<|am k k<|ae (wl k) k<|cG h λq10 h=>ae (gZ aJ (l:=y7.2.2) (m:=[0]) gS q10 k k k k k k k k k k k k) k<|aT k2<|sR<|lp k8<|am k k<|ae (ws k) k<|aT k2<|aV<|sp h ⟨mN [(2,.ptr 0 0 0),(3,.own 3 0 ((y7.2.2++[0]).length))] [(0,⟨6,[[.int v2.2.2.1,.int v2.2.2.2.1,.list 1 (v2.2.2.2.2.1.map eI),.list 1 (v2.2.2.2.2.2.1.map eI),.own 1 0 v2.2.2.2.2.2.2.1.length,.own 2 0 v2.2.2.2.2.2.2.2.length]]⟩),(1,⟨1,v2.2.2.2.2.2.2.1.map (ow eI)⟩),(2,⟨3,v2.2.2.2.2.2.2.2.map (ow eM)⟩),(3,⟨1,List.map (ow eI) (y7.2.2++[0])⟩)] 4 ⟨0,false,none,true⟩,(jZ [0,3,4,7]),k,⟨_,k,.inr ⟨(by simp),k,k⟩⟩,⟨k,k,k,dY⟩⟩) λ_ h=>aG<|tn<|sR<|lp k8<|am k k<|ae (ws k) k<|aT k2<|aV<|sp h ⟨mN [(2,.ptr 0 0 0),(3,.own 3 0 y7.2.2.length)] [(0,⟨6,[[.int v2.2.2.1,.int v2.2.2.2.1,.list 1 (v2.2.2.2.2.1.map eI),.list 1 (v2.2.2.2.2.2.1.map eI),.own 1 0 v2.2.2.2.2.2.2.1.length,.own 2 0 v2.2.2.2.2.2.2.2.length]]⟩),(1,⟨1,v2.2.2.2.2.2.2.1.map (ow eI)⟩),(2,⟨3,v2.2.2.2.2.2.2.2.map (ow eM)⟩),(3,⟨1,y7.2.2.map (ow eI)⟩)] 4 ⟨0,false,none,true⟩,(jZ [0,3,4,5]),k,⟨_,k,.inr ⟨(by simp),k,k⟩⟩,⟨k,k,k,dY⟩⟩
def Bh(a0:aA):Option (aA×Int×aA×aA):=
 (qA a0).bind λv1=>
 (Be (⟨a0,0,v1⟩:Cu)).bind λv2=>
 (yZ (⟨a0,v2.1,v2.2.1⟩:Cu) (⟨v2.2.2.1,v2.2.2.2.1,v2.2.2.2.2⟩:Qv) 3).bind λv3=>
 (nM (⟨a0,v3.1,v3.2.1⟩:Cu) 8).bind λv4=>
 bif v4.2.2 then
 (bif decide (0<((v3.2.2.length:Nat):Int))then
 ((fQ (⟨a0,v4.1,v4.2.1⟩:Cu) [(-1),5,4]).bind λv7=>
 (bP v3.2.2 0).bind λv8=>
 some ((v3.2.2.set ((0:Int).toNat) v7.2.2),v2.2.2.1,v2.2.2.2.1,v2.2.2.2.2))
 else
 (some (v3.2.2,v2.2.2.1,v2.2.2.2.1,v2.2.2.2.2)))
 else
 some (v3.2.2,v2.2.2.1,v2.2.2.2.1,v2.2.2.2.2)
theorem QK(a0:aA)(r:(aA×Int×aA×aA))(h:Bh a0=some r):HasE Tryz.prog 51 [.list 1 (a0.map eU)] [] 0 (.tuple [.agg [.int r.2.1,.list 1 (r.2.2.1.map eI),.list 1 (r.2.2.2.map eI)],.own 1 0 r.1.length]) [(1,⟨1,r.1.map (ow eI)⟩)]:=by
 refine fI aJ (rvs:=[.cell 2 26,.tmp 3]) (ns:=Dz.drop 0) Tryz.func51 k k Tryz.ntmps51 k k<|sR<|jA k3<|aT k2<|sR<|am k k<|oB h λv1 hv1 h=>ae (jC [] [(1,0)] [] [1] [(1,⟨3,[[.list 1 (a0.map eU),.int 0,.int v1]]⟩)] 2 (.ptr 1 0 0) (Bb _ _ hv1)) k<|aT k2<|sR<|am k k<|oB h λv2 hv2 h=>ae (jC [(0,1)] [(1,0),(2,2),(3,3)] [1] [2,3] [(1,⟨3,[[.list 1 (a0.map eU),.int v2.1,.int v2.2.1]]⟩),(2,⟨1,v2.2.2.2.1.map (ow eI)⟩),(3,⟨1,v2.2.2.2.2.map (ow eI)⟩)] 4 (.agg [.int v2.2.2.1,.own 2 0 v2.2.2.2.1.length,.own 3 0 v2.2.2.2.2.length]) (MI _ _ hv2)) k<|jA k3<|ae (ws k) k<|an<|tn<|sQ<|bK (gU (b:=4) (b':=2) (i:=0) (j:=1) (es':=v2.2.2.2.1.map eI) k k k k (qC cD k k))<|bK (gU (b:=4) (b':=3) (i:=0) (j:=2) (es':=v2.2.2.2.2.map eI) k k k k (qC cD k k))<|rg<|am k k<|lp k8<|oB h λv3 hv3 h=>ae (jC [(0,1)] [(1,0),(5,1)] [1] [5] [(1,⟨3,[[.list 1 (a0.map eU),.int v3.1,.int v3.2.1]]⟩),(5,⟨1,v3.2.2.map (ow eI)⟩)] 6 (.own 5 0 v3.2.2.length) (KJ _ _ _ _ hv3)) k<|aa k k ?_;refine an<|tn<|sQ<|sR<|am k k<|oB h λv4 hv4 h=>ae (jU 1 [] (yX _ _ _ hv4)) k<|am k k<|iR h (λq5 h=>?_) λq5 h=>aE 16 k q5<|aK k4<|ak k k<|pk k3<|an<|tn<|nR k k<|aG<|tn<|sR<|lp k8<|am k k<|ae (ws k) k<|aT k2<|aV<|sp h ⟨mN [(2,.ptr 0 0 0),(3,.own 1 0 v3.2.2.length)] [(0,⟨3,[[.int v2.2.2.1,.list 1 (v2.2.2.2.1.map eI),.list 1 (v2.2.2.2.2.map eI)]]⟩),(1,⟨1,v3.2.2.map (ow eI)⟩)] 2 ⟨0,false,none,true⟩,(jZ [0,5]),k,⟨_,k,.inr ⟨(by simp),k,k⟩⟩,⟨k,dY⟩⟩;exact aE 16 k q5<|am k k<|jn k5<|cm k4<|pk k3<|an<|tn<|cH k h (λ_ h=>rg<|am k k<|am k k<|ae (wl k) k<|oB h λv7 hv7 h=>ae (jU 1 [6] (iY _ _ _ hv7)) k<|jp h k2 λv8 hv8 h=>ae (eD aJ gS (u:=v7.2.2) (cJ hv8) k k k k k k) k<|an<|tn<|sR<|lp k8<|am k k<|ae (ws k) k<|aT k2<|aV<|sp h ⟨mN [(2,.ptr 0 0 0),(3,.own 1 0 ((v3.2.2.set ((0:Int).toNat) v7.2.2).length))] [(0,⟨3,[[.int v2.2.2.1,.list 1 (v2.2.2.2.1.map eI),.list 1 (v2.2.2.2.2.map eI)]]⟩),(1,⟨1,List.map (ow eI) (v3.2.2.set ((0:Int).toNat) v7.2.2)⟩)] 2 ⟨0,false,none,true⟩,(jZ [0,5]),k,⟨_,k,.inr ⟨(by simp),k,k⟩⟩,⟨k,dY⟩⟩) λ_ h=>aG<|tn<|sR<|lp k8<|am k k<|ae (ws k) k<|aT k2<|aV<|sp h ⟨mN [(2,.ptr 0 0 0),(3,.own 1 0 v3.2.2.length)] [(0,⟨3,[[.int v2.2.2.1,.list 1 (v2.2.2.2.1.map eI),.list 1 (v2.2.2.2.2.map eI)]]⟩),(1,⟨1,v3.2.2.map (ow eI)⟩)] 2 ⟨0,false,none,true⟩,(jZ [0,5]),k,⟨_,k,.inr ⟨(by simp),k,k⟩⟩,⟨k,dY⟩⟩
def qY(a0:aA):Option (Int×Int×aA×aA×aA×(List Mt)×aA):=
 (FN a0).bind λv1=>
 some (v1.2.1,v1.2.2.1,v1.2.2.2.1,v1.2.2.2.2.1,v1.2.2.2.2.2.1,v1.2.2.2.2.2.2,v1.1)
theorem Jk(a0:aA)(r:(Int×Int×aA×aA×aA×(List Mt)×aA))(h:qY a0=some r):HasE Tryz.prog 5 [.list 1 (a0.map eU)] [] 0 (.tuple [.agg [.int r.1,.int r.2.1,.list 1 (r.2.2.1.map eI),.list 1 (r.2.2.2.1.map eI),.own 1 0 r.2.2.2.2.1.length,.own 2 0 r.2.2.2.2.2.1.length],.own 3 0 r.2.2.2.2.2.2.length]) [(1,⟨1,r.2.2.2.2.1.map (ow eI)⟩),(2,⟨3,r.2.2.2.2.2.1.map (ow eM)⟩),(3,⟨1,r.2.2.2.2.2.2.map (ow eI)⟩)]:=by
 exact fI aJ (rvs:=[.cell 2 29,.tmp 3]) (ns:=Dz.drop 0) Tryz.func5 k k Tryz.ntmps5 k k<|sR<|jA k3<|aT k2<|sR<|am k k<|oB h λv1 hv1 h=>ae (jC [] [(1,1),(2,2),(3,3)] [] [1,2,3] [(1,⟨1,v1.2.2.2.2.2.1.map (ow eI)⟩),(2,⟨3,v1.2.2.2.2.2.2.map (ow eM)⟩),(3,⟨1,v1.1.map (ow eI)⟩)] 4 (.tuple [.agg [.int v1.2.1,.int v1.2.2.1,.list 1 (v1.2.2.2.1.map eI),.list 1 (v1.2.2.2.2.1.map eI),.own 1 0 v1.2.2.2.2.2.1.length,.own 2 0 v1.2.2.2.2.2.2.length],.own 3 0 v1.1.length]) (QJ _ _ hv1)) k<|am k k<|jx k4<|jx k4<|jA k3<|ae (ws k) k<|aT k2<|sR<|lp k8<|am k k<|ae (ws k) k<|aT k2<|aV<|sp h ⟨mN [(2,.ptr 0 0 0),(3,.own 3 0 v1.1.length)] [(0,⟨6,[[.int v1.2.1,.int v1.2.2.1,.list 1 (v1.2.2.2.1.map eI),.list 1 (v1.2.2.2.2.1.map eI),.own 1 0 v1.2.2.2.2.2.1.length,.own 2 0 v1.2.2.2.2.2.2.length]]⟩),(1,⟨1,v1.2.2.2.2.2.1.map (ow eI)⟩),(2,⟨3,v1.2.2.2.2.2.2.map (ow eM)⟩),(3,⟨1,v1.1.map (ow eI)⟩)] 4 ⟨0,false,none,true⟩,jI,k,⟨_,k,.inr ⟨(by simp),k,k⟩⟩,⟨k,k,k,dY⟩⟩
def tJ(a0:aA):Option (Int×Int×aA×aA×aA×(List Mt)):=
 (qA a0).bind λv1=>
 (uM (⟨a0,0,v1⟩:Cu)).bind λv2=>
 some (v2.2.2.1,v2.2.2.2.1,v2.2.2.2.2.1,v2.2.2.2.2.2.1,v2.2.2.2.2.2.2.1,v2.2.2.2.2.2.2.2)
theorem Kz(a0:aA)(r:(Int×Int×aA×aA×aA×(List Mt)))(h:tJ a0=some r):HasE Tryz.prog 14 [.list 1 (a0.map eU)] [] 0 (.agg [.int r.1,.int r.2.1,.list 1 (r.2.2.1.map eI),.list 1 (r.2.2.2.1.map eI),.own 1 0 r.2.2.2.2.1.length,.own 2 0 r.2.2.2.2.2.length]) [(1,⟨1,r.2.2.2.2.1.map (ow eI)⟩),(2,⟨3,r.2.2.2.2.2.map (ow eM)⟩)]:=by
 exact fI aJ (rvs:=[.cell 2 29]) (ns:=Dz.drop 0) Tryz.func14 k k Tryz.ntmps14 k k<|sR<|jA k3<|an<|tn<|sR<|am k k<|oB h λv1 hv1 h=>ae (jC [] [(1,0)] [] [1] [(1,⟨3,[[.list 1 (a0.map eU),.int 0,.int v1]]⟩)] 2 (.ptr 1 0 0) (Bb _ _ hv1)) k<|oB h λv2 hv2 h=>ae (jC [(0,1)] [(1,0),(2,2),(3,3)] [1] [2,3] [(1,⟨3,[[.list 1 (a0.map eU),.int v2.1,.int v2.2.1]]⟩),(2,⟨1,v2.2.2.2.2.2.2.1.map (ow eI)⟩),(3,⟨3,v2.2.2.2.2.2.2.2.map (ow eM)⟩)] 4 (.agg [.int v2.2.2.1,.int v2.2.2.2.1,.list 1 (v2.2.2.2.2.1.map eI),.list 1 (v2.2.2.2.2.2.1.map eI),.own 2 0 v2.2.2.2.2.2.2.1.length,.own 3 0 v2.2.2.2.2.2.2.2.length]) (GB _ _ hv2)) k<|ae (ws k) k<|an<|tn<|aV<|sp h ⟨mN [(2,.ptr 0 0 0)] [(0,⟨6,[[.int v2.2.2.1,.int v2.2.2.2.1,.list 1 (v2.2.2.2.2.1.map eI),.list 1 (v2.2.2.2.2.2.1.map eI),.own 1 0 v2.2.2.2.2.2.2.1.length,.own 2 0 v2.2.2.2.2.2.2.2.length]]⟩),(1,⟨1,v2.2.2.2.2.2.2.1.map (ow eI)⟩),(2,⟨3,v2.2.2.2.2.2.2.2.map (ow eM)⟩)] 3 ⟨0,false,none,true⟩,(jZ [0,2,3]),k,⟨_,k,.inl k⟩,⟨k,k,dY⟩⟩
def oQ(a0:aA):Option (Int×Int×aA×aA×aA×(List Mt)×Int×Int×aA×aA×aA×(List Mt)×Int×Int×aA×aA×aA×(List Mt)):=
 (qA a0).bind λv1=>
 (uM (⟨a0,0,v1⟩:Cu)).bind λv2=>
 (wT (⟨v2.2.2.1,(⟨v2.2.2.2.1,v2.2.2.2.2.1,v2.2.2.2.2.2.1⟩:Qv),v2.2.2.2.2.2.2.1,v2.2.2.2.2.2.2.2⟩:Rp)).bind λv3=>
 bif v3.2 then
 (bif decide (0<((v3.1.length:Nat):Int))then
 ((cE (⟨a0,v2.1,v2.2.1⟩:Cu) ((v3.1.length:Nat):Int)).bind λv6=>
 (bP v3.1 v6.2.2).bind λv7=>
 (yV (⟨v2.2.2.1,(⟨v2.2.2.2.1,v2.2.2.2.2.1,v2.2.2.2.2.2.1⟩:Qv),v2.2.2.2.2.2.2.1,v2.2.2.2.2.2.2.2⟩:Rp) v7).bind λv8=>
 (oK (⟨v2.2.2.1,(⟨v2.2.2.2.1,v2.2.2.2.2.1,v2.2.2.2.2.2.1⟩:Qv),v2.2.2.2.2.2.2.1,v2.2.2.2.2.2.2.2⟩:Rp) v7).bind λv9=>
 some (v9.1.p,v9.1.q.n,v9.1.q.src,v9.1.q.tgt,v9.1.dims,v9.1.maps,v8.1.p,v8.1.q.n,v8.1.q.src,v8.1.q.tgt,v8.1.dims,v8.1.maps,v2.2.2.1,v2.2.2.2.1,v2.2.2.2.2.1,v2.2.2.2.2.2.1,v2.2.2.2.2.2.2.1,v2.2.2.2.2.2.2.2))
 else
 (some (v2.2.2.1,v2.2.2.2.1,v2.2.2.2.2.1,v2.2.2.2.2.2.1,v2.2.2.2.2.2.2.1,v2.2.2.2.2.2.2.2,v2.2.2.1,v2.2.2.2.1,v2.2.2.2.2.1,v2.2.2.2.2.2.1,v2.2.2.2.2.2.2.1,v2.2.2.2.2.2.2.2,v2.2.2.1,v2.2.2.2.1,v2.2.2.2.2.1,v2.2.2.2.2.2.1,v2.2.2.2.2.2.2.1,v2.2.2.2.2.2.2.2)))
 else
 some (v2.2.2.1,v2.2.2.2.1,v2.2.2.2.2.1,v2.2.2.2.2.2.1,v2.2.2.2.2.2.2.1,v2.2.2.2.2.2.2.2,v2.2.2.1,v2.2.2.2.1,v2.2.2.2.2.1,v2.2.2.2.2.2.1,v2.2.2.2.2.2.2.1,v2.2.2.2.2.2.2.2,v2.2.2.1,v2.2.2.2.1,v2.2.2.2.2.1,v2.2.2.2.2.2.1,v2.2.2.2.2.2.2.1,v2.2.2.2.2.2.2.2)
theorem Hu(a0:aA)(r:(Int×Int×aA×aA×aA×(List Mt)×Int×Int×aA×aA×aA×(List Mt)×Int×Int×aA×aA×aA×(List Mt)))(h:oQ a0=some r):HasE Tryz.prog 17 [.list 1 (a0.map eU)] [] 0 (.tuple [.agg [.int r.2.2.2.2.2.2.2.2.2.2.2.2.1,.int r.2.2.2.2.2.2.2.2.2.2.2.2.2.1,.list 1 (r.2.2.2.2.2.2.2.2.2.2.2.2.2.2.1.map eI),.list 1 (r.2.2.2.2.2.2.2.2.2.2.2.2.2.2.2.1.map eI),.list 1 (r.2.2.2.2.2.2.2.2.2.2.2.2.2.2.2.2.1.map eI),.list 3 (r.2.2.2.2.2.2.2.2.2.2.2.2.2.2.2.2.2.map eM)],.agg [.int r.1,.int r.2.1,.list 1 (r.2.2.1.map eI),.list 1 (r.2.2.2.1.map eI),.list 1 (r.2.2.2.2.1.map eI),.list 3 (r.2.2.2.2.2.1.map eM)],.agg [.int r.2.2.2.2.2.2.1,.int r.2.2.2.2.2.2.2.1,.list 1 (r.2.2.2.2.2.2.2.2.1.map eI),.list 1 (r.2.2.2.2.2.2.2.2.2.1.map eI),.list 1 (r.2.2.2.2.2.2.2.2.2.2.1.map eI),.list 3 (r.2.2.2.2.2.2.2.2.2.2.2.1.map eM)]]) []:=by
 refine fI aJ (rvs:=[.cell 2 29,.cell 3 29,.cell 4 29]) (ns:=Dz.drop 0) Tryz.func17 k k Tryz.ntmps17 k k<|sR<|jA k3<|jA k3<|jA k3<|an<|tn<|sR<|am k k<|oB h λv1 hv1 h=>ae (jC [] [(3,0)] [] [3] [(3,⟨3,[[.list 1 (a0.map eU),.int 0,.int v1]]⟩)] 4 (.ptr 3 0 0) (Bb _ _ hv1)) k<|aT k2<|sR<|am k k<|oB h λv2 hv2 h=>ae (jC [(0,3)] [(3,0),(4,2),(5,3)] [3] [4,5] [(3,⟨3,[[.list 1 (a0.map eU),.int v2.1,.int v2.2.1]]⟩),(4,⟨1,v2.2.2.2.2.2.2.1.map (ow eI)⟩),(5,⟨3,v2.2.2.2.2.2.2.2.map (ow eM)⟩)] 6 (.agg [.int v2.2.2.1,.int v2.2.2.2.1,.list 1 (v2.2.2.2.2.1.map eI),.list 1 (v2.2.2.2.2.2.1.map eI),.own 4 0 v2.2.2.2.2.2.2.1.length,.own 5 0 v2.2.2.2.2.2.2.2.length]) (GB _ _ hv2)) k<|jA k3<|ae (ws k) k<|an<|tn<|sQ<|bK (gU (b:=6) (b':=4) (i:=0) (j:=4) (es':=v2.2.2.2.2.2.2.1.map eI) k k k k (qC cD k k))<|bK (gU (b:=6) (b':=5) (i:=0) (j:=5) (es':=v2.2.2.2.2.2.2.2.map eM) k k k k (qC dC k k))<|rg<|lp k8<|oB h λv3 hv3 h=>ae (jC [] [(7,0)] [] [7] [(7,⟨1,v3.1.map (dB 2 eS)⟩)] 8 (.tuple [.own 7 0 v3.1.length,.bl v3.2]) (Ib _ _ hv3)) k<|am k k ?_;refine jx k4<|jx k4<|aa k k<|aT k2<|sQ<|sR<|am k k<|am k k<|iR h (λq4 h=>?_) λq4 h=>?_
 .refine aE 26 k q4<|am k k<|jn k5<|cm k4<|pk k3<|an<|tn<|cH k h (λ_ h=>?_) λ_ h=>?_
  .refine sR<|am k k<|am k k<|am k k<|jn k5<|oB h λv6 hv6 h=>ae (jU 3 [] (dH _ _ _ hv6)) k<|jp h k2 λv7 hv7 h=>ae (wp hv7 k) k<|aT k2<|sR<|lp k8<|am k k<|oB h λv8 hv8 h=>ae (jWB (KF _ _ _ hv8) k3 (aO (kB k) (fE k aU))) k<|am k k<|jx k4<|jx k4<|jx k4<|jA k3<|ae (ws k) k<|aa k k<|aT k2<|sQ ?_;refine rg<|lp k8<|am k k<|oB h λv9 hv9 h=>ae (jWB (FJ _ _ _ hv9) k3 (aO (kB k) (fE k aU))) k<|am k k<|jx k4<|jx k4<|jx k4<|jA k3<|ae (ws k) k<|aa k k<|aT k2<|sQ<|bK (gU (b:=13) (b':=8) (i:=0) (j:=2) (es':=v8.1.q.src.map eI) k k k k (qC cD k k))<|bK (gU (b:=13) (b':=9) (i:=0) (j:=3) (es':=v8.1.q.tgt.map eI) k k k k (qC cD k k))<|bK (gU (b:=13) (b':=10) (i:=0) (j:=4) (es':=v8.1.dims.map eI) k k k k (qC cD k k))<|bK (gU (b:=13) (b':=11) (i:=0) (j:=5) (es':=v8.1.maps.map eM) k k k k (qC dC k k))<|bK (gU (b:=19) (b':=14) (i:=0) (j:=2) (es':=v9.1.q.src.map eI) k k k k (qC cD k k))<|bK (gU (b:=19) (b':=15) (i:=0) (j:=3) (es':=v9.1.q.tgt.map eI) k k k k (qC cD k k))<|bK (gU (b:=19) (b':=16) (i:=0) (j:=4) (es':=v9.1.dims.map eI) k k k k (qC cD k k))<|bK (gU (b:=19) (b':=17) (i:=0) (j:=5) (es':=v9.1.maps.map eM) k k k k (qC dC k k))<|aH dK<|lp k8<|lp k8<|lp k8<|ae (ws k) k<|ae (ws k) k<|ae (ws k) k ?_;exact an<|lZ (by kernel_rfl)<|tn<|aV<|bU<|sp h ⟨mN [(2,.ptr 0 0 0),(3,.ptr 1 0 0),(4,.ptr 2 0 0)] [(0,⟨6,[[.int v2.2.2.1,.int v2.2.2.2.1,.list 1 (v2.2.2.2.2.1.map eI),.list 1 (v2.2.2.2.2.2.1.map eI),.list 1 (v2.2.2.2.2.2.2.1.map eI),.list 3 (v2.2.2.2.2.2.2.2.map eM)]]⟩),(1,⟨6,[eR v9.1]⟩),(2,⟨6,[eR v8.1]⟩)] 3 ⟨0,false,none,true⟩,jI,k,⟨_,k,.inr ⟨(by simp),k,k⟩⟩,dY⟩
  .exact aG<|tn<|sQ<|aH dK<|lp k8<|lp k8<|lp k8<|ae (ws k) k<|ae (ws k) k<|ae (ws k) k<|an<|lZ (by kernel_rfl)<|tn<|aV<|sp h ⟨mN [(2,.ptr 0 0 0),(3,.ptr 1 0 0),(4,.ptr 2 0 0)] [(0,⟨6,[[.int v2.2.2.1,.int v2.2.2.2.1,.list 1 (v2.2.2.2.2.1.map eI),.list 1 (v2.2.2.2.2.2.1.map eI),.list 1 (v2.2.2.2.2.2.2.1.map eI),.list 3 (v2.2.2.2.2.2.2.2.map eM)]]⟩),(1,⟨6,[[.int v2.2.2.1,.int v2.2.2.2.1,.list 1 (v2.2.2.2.2.1.map eI),.list 1 (v2.2.2.2.2.2.1.map eI),.list 1 (v2.2.2.2.2.2.2.1.map eI),.list 3 (v2.2.2.2.2.2.2.2.map eM)]]⟩),(2,⟨6,[[.int v2.2.2.1,.int v2.2.2.2.1,.list 1 (v2.2.2.2.2.1.map eI),.list 1 (v2.2.2.2.2.2.1.map eI),.list 1 (v2.2.2.2.2.2.2.1.map eI),.list 3 (v2.2.2.2.2.2.2.2.map eM)]]⟩)] 3 ⟨0,false,none,true⟩,jI,k,⟨_,k,.inr ⟨(by simp),k,k⟩⟩,dY⟩
 .exact aE 26 k q4<|aK k4<|ak k k<|pk k3<|an<|tn<|nR k k<|aG<|tn<|sQ<|aH dK<|lp k8<|lp k8<|lp k8<|ae (ws k) k<|ae (ws k) k<|ae (ws k) k<|an<|lZ (by kernel_rfl)<|tn<|aV<|sp h ⟨mN [(2,.ptr 0 0 0),(3,.ptr 1 0 0),(4,.ptr 2 0 0)] [(0,⟨6,[[.int v2.2.2.1,.int v2.2.2.2.1,.list 1 (v2.2.2.2.2.1.map eI),.list 1 (v2.2.2.2.2.2.1.map eI),.list 1 (v2.2.2.2.2.2.2.1.map eI),.list 3 (v2.2.2.2.2.2.2.2.map eM)]]⟩),(1,⟨6,[[.int v2.2.2.1,.int v2.2.2.2.1,.list 1 (v2.2.2.2.2.1.map eI),.list 1 (v2.2.2.2.2.2.1.map eI),.list 1 (v2.2.2.2.2.2.2.1.map eI),.list 3 (v2.2.2.2.2.2.2.2.map eM)]]⟩),(2,⟨6,[[.int v2.2.2.1,.int v2.2.2.2.1,.list 1 (v2.2.2.2.2.1.map eI),.list 1 (v2.2.2.2.2.2.1.map eI),.list 1 (v2.2.2.2.2.2.2.1.map eI),.list 3 (v2.2.2.2.2.2.2.2.map eM)]]⟩)] 3 ⟨0,false,none,true⟩,jI,k,⟨_,k,.inr ⟨(by simp),k,k⟩⟩,dY⟩
def qB(a0:aA):Option (Int×Int×aA×aA×aA):=
 (Bh a0).bind λv1=>
 (bP ([2,3,5,4,2]:aA) ((a0.length:Int).tmod 5)).bind λv2=>
 some (v2,v1.2.1,v1.2.2.1,v1.2.2.2,v1.1)
theorem Ii(a0:aA)(r:(Int×Int×aA×aA×aA))(h:qB a0=some r):HasE Tryz.prog 20 [.list 1 (a0.map eU)] [] 0 (.tuple [.int r.1,.agg [.int r.2.1,.list 1 (r.2.2.1.map eI),.list 1 (r.2.2.2.1.map eI)],.own 1 0 r.2.2.2.2.length]) [(1,⟨1,r.2.2.2.2.map (ow eI)⟩)]:=by
 refine fI aJ (rvs:=[.tmp 2,.cell 3 26,.tmp 4]) (ns:=Dz.drop 0) Tryz.func20 k k Tryz.ntmps20 k k<|sR<|aa k k<|jA k3<|aT k2<|sR<|am k k<|oB h λv1 hv1 h=>ae (jC [] [(1,1)] [] [1] [(1,⟨1,v1.1.map (ow eI)⟩)] 2 (.tuple [.agg [.int v1.2.1,.list 1 (v1.2.2.1.map eI),.list 1 (v1.2.2.2.map eI)],.own 1 0 v1.1.length]) (QK _ _ hv1)) k<|am k k<|jx k4<|jx k4<|jA k3<|ae (ws k) k<|aT k2<|sQ<|aH dK<|ae (wl k) k<|am k k<|ln k4<|ae (Dy k k (by decide)) k<|oB h λv2 hv2 h=>ae (Eo aJ (n:=5) (PB hv2) (oY hv2) k k k k k k k) k<|ae (dV aJ k k k k (wA (f:=(ow eI)) (cJ hv2)) k k) k<|lp k8<|am k k ?_;exact aa k k<|ae (ws k) k<|aa k k<|an<|lZ (by kernel_rfl)<|tn<|aV<|sp h ⟨mN [(2,.int v2),(3,.ptr 0 0 0),(4,.own 1 0 v1.1.length)] [(0,⟨3,[[.int v1.2.1,.list 1 (v1.2.2.1.map eI),.list 1 (v1.2.2.2.map eI)]]⟩),(1,⟨1,v1.1.map (ow eI)⟩)] 2 ⟨0,false,none,true⟩,jI,k,⟨_,k,.inr ⟨(by simp),k,k⟩⟩,⟨k,dY⟩⟩
def qZ(a0:aA):Option (Int×Int×aA×aA×aA×(List Mt)):=
 (qA a0).bind λv1=>
 (Bf (⟨a0,0,v1⟩:Cu)).bind λv2=>
 some (v2.2.2.2.2.1,v2.2.2.2.2.2.1,v2.2.2.2.2.2.2.1,v2.2.2.2.2.2.2.2,v2.2.2.1,v2.2.2.2.1)
theorem Jl(a0:aA)(r:(Int×Int×aA×aA×aA×(List Mt)))(h:qZ a0=some r):HasE Tryz.prog 21 [.list 1 (a0.map eU)] [] 0 (.agg [.int r.1,.int r.2.1,.list 1 (r.2.2.1.map eI),.list 1 (r.2.2.2.1.map eI),.own 1 0 r.2.2.2.2.1.length,.own 2 0 r.2.2.2.2.2.length]) [(1,⟨1,r.2.2.2.2.1.map (ow eI)⟩),(2,⟨3,r.2.2.2.2.2.map (ow eM)⟩)]:=by
 exact fI aJ (rvs:=[.cell 2 29]) (ns:=Dz.drop 0) Tryz.func21 k k Tryz.ntmps21 k k<|sR<|jA k3<|an<|tn<|sR<|am k k<|oB h λv1 hv1 h=>ae (jC [] [(1,0)] [] [1] [(1,⟨3,[[.list 1 (a0.map eU),.int 0,.int v1]]⟩)] 2 (.ptr 1 0 0) (Bb _ _ hv1)) k<|oB h λv2 hv2 h=>ae (jC [(0,1)] [(1,0),(2,2),(3,3)] [1] [2,3] [(1,⟨3,[[.list 1 (a0.map eU),.int v2.1,.int v2.2.1]]⟩),(2,⟨1,v2.2.2.1.map (ow eI)⟩),(3,⟨3,v2.2.2.2.1.map (ow eM)⟩)] 4 (.agg [.int v2.2.2.2.2.1,.int v2.2.2.2.2.2.1,.list 1 (v2.2.2.2.2.2.2.1.map eI),.list 1 (v2.2.2.2.2.2.2.2.map eI),.own 2 0 v2.2.2.1.length,.own 3 0 v2.2.2.2.1.length]) (MJ _ _ hv2)) k<|ae (ws k) k<|an<|tn<|aV<|sp h ⟨mN [(2,.ptr 0 0 0)] [(0,⟨6,[[.int v2.2.2.2.2.1,.int v2.2.2.2.2.2.1,.list 1 (v2.2.2.2.2.2.2.1.map eI),.list 1 (v2.2.2.2.2.2.2.2.map eI),.own 1 0 v2.2.2.1.length,.own 2 0 v2.2.2.2.1.length]]⟩),(1,⟨1,v2.2.2.1.map (ow eI)⟩),(2,⟨3,v2.2.2.2.1.map (ow eM)⟩)] 3 ⟨0,false,none,true⟩,(jZ [0,2,3]),k,⟨_,k,.inl k⟩,⟨k,k,dY⟩⟩
end
section
def CD{σ ρ:Type}:Nat->(σ->Option (σ ⊕ ρ))->σ->Option ρ
 |0,_,_=>none
 |n+1,body,s=>match body s with
  |none=>none
  |some (.inl s')=>CD n body s'
  |some (.inr r)=>some r
def Le{α:Type}(a b:Option α):Prop:=∀r,a=some r->b=some r
theorem Le.rfl{α:Type}{a:Option α}:Le a a:=λ_ h=>h
theorem Le.none{α:Type}{b:Option α}:Le Option.none b:=λ_ h=>by cases h
theorem Le.bind{α β:Type}{a b:Option α}{f g:α->Option β}(h:Le a b)(k:∀x,Le (f x) (g x)):Le (a.bind f) (b.bind g):=λr e=>by
 obtain⟨x,h1,h2⟩:=ob e;rw[h x h1];exact k x r h2
theorem Le.cond{α:Type}{c:Bool}{a b a' b':Option α}(h:Le a a')(k:Le b b'):Le (bif c then a else b) (bif c then a' else b'):=by
 cases c
 .exact k
 .exact h
theorem Le.elim{α β γ:Type}{f f':α->Option γ}{g g':β->Option γ}{x:α ⊕ β}(h:∀a,Le (f a) (f' a))(k:∀b,Le (g b) (g' b)):Le (Sum.elim f g x) (Sum.elim f' g' x):=by
 cases x with
 |inl a=>exact h a
 |inr b=>exact k b
theorem Le.lp{σ ρ:Type}{f g:σ->Option (σ ⊕ ρ)}(h:∀s,Le (f s) (g s)):∀{n:Nat}{s:σ},Le (CD n f s) (Lp g s)
 |0,s=>Le.none
 |n+1,s=>λr e=>by
  simp only[CD]at e;cases hb:f s with
  |none=>rw[hb]at e;cases e
  |some x=>
   rw[hb]at e;cases x with
   |inl s'=>rw[EG (h s _ hb)];exact Le.lp h r e
   |inr r'=>cases e;exact rW (h s _ hb)
theorem Le.fl{α σ ρ:Type}{f g:α->σ->Option (σ ⊕ ρ)}(h:∀a s,Le (f a s) (g a s)):∀(l:List α)(s:σ),Le (Fl f l s) (Fl g l s)
 | [],s=>Le.rfl
 |x::xs,s=>λr e=>by
  simp only[Fl]at e ⊢;cases hb:f x s with
  |none=>rw[hb]at e;cases e
  |some y=>
   rw[hb]at e;rw[h x s _ hb];cases y with
   |inl s'=>exact Le.fl h xs s' r e
   |inr r'=>exact e
end
noncomputable section
def Dl(a0:Qv):Option Bool:=
 Option.bind (CD 60 (rZ a0) 0) λy9=>
 Sum.elim (λy10=>
  Option.bind (fA a0.n 1 5) λv11=>
  bif v11 then
   (bif decide ((a0.src.length:Int)<=6)then
    (some (decide ((a0.tgt.length:Int)=(a0.src.length:Int))))
   else
    (some (false)))
  else
   (some (false))
 )
 (λy14=>
  some y14
 )
  y9
theorem NE(a0:Qv):Le (Dl a0) (kD a0):=by
 unfold Dl kD
 repeat (with_reducible first|exact Le.rfl|refine Le.bind ?_ λ_=>?_|refine Le.cond ?_ ?_|refine Le.lp λ_=>?_|refine Le.elim (λ_=>?_) λ_=>?_)
def rO(a0:Int):Option ByteArray:=
 bif decide (a0=0)then
  (some ((⟨#[48]⟩:ByteArray)))
 else
  (Option.bind (CD 60 EB (a0,(⟨#[]⟩:ByteArray))) λy6=>
  bif decide (a0<0)then
   (bif decide ((⟨#[45]⟩:ByteArray).size +y6.size<=9223372036854775807)then
    (some (((⟨#[45]⟩:ByteArray)++y6)))
   else none)
  else
   (some (y6)))
theorem Ft(a0:Int):Le (rO a0) (nQ a0):=by
 unfold rO nQ
 repeat (with_reducible first|exact Le.rfl|refine Le.bind ?_ λ_=>?_|refine Le.cond ?_ ?_|refine Le.lp λ_=>?_)
def tK(a0:Qv)(x1:(ByteArray×Int)):Option ((ByteArray×Int) ⊕ ByteArray):=
 bif decide (x1.2<(a0.src.length:Int))then
  (bif decide (x1.1.size+(⟨#[32]⟩:ByteArray).size <=9223372036854775807)then
   (Option.bind (bP a0.src x1.2) λv5=>
   Option.bind (rO v5) λv6=>
   bif decide ((x1.1++(⟨#[32]⟩:ByteArray)).size +v6.size<=9223372036854775807)then
    (Option.bind (bP a0.tgt x1.2) λv7=>
    Option.bind (rO v7) λv8=>
    bif decide (((x1.1++(⟨#[32]⟩:ByteArray))++v6).size +v8.size<=9223372036854775807)then
     (some (.inl ((((x1.1++(⟨#[32]⟩:ByteArray))++v6)++v8),wr (x1.2+1))))
    else none)
   else none)
  else none)
 else
  (some (.inr x1.1))
theorem Gg(a0:Qv)(x1:(ByteArray×Int)):Le (tK a0 x1) (tI a0 x1):=by
 unfold tK tI
 repeat (with_reducible first|exact Le.rfl|refine Ft _|refine Le.bind ?_ λ_=>?_|refine Le.cond ?_ ?_)
def yH(a0:Qv):Option ByteArray:=
 Option.bind (Dl a0) λv1=>
 bif !v1 then
  (some ((⟨#[]⟩:ByteArray)))
 else
  (Option.bind (rO a0.n) λv3=>
  bif decide (v3.size+(⟨#[58]⟩:ByteArray).size <=9223372036854775807)then
   (Option.bind (CD 60 (tK a0) ((v3++(⟨#[58]⟩:ByteArray)),0)) λy12=>
   some (y12))
  else none)
theorem Ij(a0:Qv):Le (yH a0) (qX a0):=by
 unfold yH qX
 repeat (with_reducible first|exact Le.rfl|refine NE _|refine Ft _|refine Gg _ _|refine Le.bind ?_ λ_=>?_|refine Le.cond ?_ ?_|refine Le.lp λ_=>?_)
def HM(a0:ByteArray)(a1:Int):Option (List ByteArray):=
 Option.bind (CD 60 (Hk a0 a1) (([]:(List ByteArray)),0,(⟨#[]⟩:ByteArray))) λy7=>
 bif decide (y7.1.length+[y7.2].length <=4294967296)then
  (some ((y7.1++[y7.2])))
 else none
theorem RA(a0:ByteArray)(a1:Int):Le (HM a0 a1) (ET a0 a1):=by
 unfold HM ET
 repeat (with_reducible first|exact Le.rfl|refine Le.bind ?_ λ_=>?_|refine Le.cond ?_ ?_|refine Le.lp λ_=>?_)
def cV(a0:ByteArray):Option (Qv×Bool):=
 Option.bind (HM a0 32) λv1=>
 Option.bind (bP v1 0) λv2=>
 bif !decide ((v2.size:Int)=2)then
  (some (((⟨0,[],[]⟩:Qv),false)))
 else
  (bif decide (30<(a0.size:Int))then
   (some (((⟨0,[],[]⟩:Qv),false)))
  else
   (Option.bind (bP v1 0) λv5=>
   Option.bind (DE v5 0) λv6=>
   Option.bind (CD 60 (CC v1) (([]:aA),([]:aA),1)) λy16=>
   Sum.elim (λy17=>
    Option.bind (yH (⟨wr ((IntKind.i64.wrap v6)-48),y17.1,y17.2⟩:Qv)) λv18=>
    bif !LK v18 a0 then
     (some (((⟨0,[],[]⟩:Qv),false)))
    else
     (some (((⟨wr ((IntKind.i64.wrap v6)-48),y17.1,y17.2⟩:Qv),true)))
   )
   (λy20=>
    some y20
   )
    y16))
theorem Jm(a0:ByteArray):Le (cV a0) (cO a0):=by
 unfold cV cO
 repeat (with_reducible first|exact Le.rfl|refine RA _ _|refine Ij _|refine Le.bind ?_ λ_=>?_|refine Le.cond ?_ ?_|refine Le.lp λ_=>?_|refine Le.elim (λ_=>?_) λ_=>?_)
def AU(a0:ByteArray):Option (Qv×Bool):=
 bif LK a0 (⟨#[65,49]⟩:ByteArray)then
  (Option.bind (cV (⟨#[49,58]⟩:ByteArray)) λv2=>
  some ((v2.1,v2.2)))
 else
  (bif LK a0 (⟨#[65,50]⟩:ByteArray)then
   (Option.bind (cV (⟨#[50,58,32,48,49]⟩:ByteArray)) λv4=>
   some ((v4.1,v4.2)))
  else
   (bif LK a0 (⟨#[65,51]⟩:ByteArray)then
    (Option.bind (cV (⟨#[51,58,32,48,49,32,49,50]⟩:ByteArray)) λv6=>
    some ((v6.1,v6.2)))
   else
    (bif LK a0 (⟨#[65,51,105,110]⟩:ByteArray)then
     (Option.bind (cV (⟨#[51,58,32,48,49,32,50,49]⟩:ByteArray)) λv8=>
     some ((v8.1,v8.2)))
    else
     (bif LK a0 (⟨#[65,52]⟩:ByteArray)then
      (Option.bind (cV (⟨#[52,58,32,48,49,32,49,50,32,50,51]⟩:ByteArray)) λv10=>
      some ((v10.1,v10.2)))
     else
      (bif LK a0 (⟨#[68,52]⟩:ByteArray)then
       (Option.bind (cV (⟨#[52,58,32,48,51,32,49,51,32,50,51]⟩:ByteArray)) λv12=>
       some ((v12.1,v12.2)))
      else
       (bif LK a0 (⟨#[68,53]⟩:ByteArray)then
        (Option.bind (cV (⟨#[53,58,32,48,50,32,49,50,32,50,51,32,51,52]⟩:ByteArray)) λv14=>
        some ((v14.1,v14.2)))
       else
        (bif LK a0 (⟨#[75,50]⟩:ByteArray)then
         (Option.bind (cV (⟨#[50,58,32,48,49,32,48,49]⟩:ByteArray)) λv16=>
         some ((v16.1,v16.2)))
        else
         (bif LK a0 (⟨#[115,116,97,114,52]⟩:ByteArray)then
          (Option.bind (cV (⟨#[53,58,32,48,52,32,49,52,32,50,52,32,51,52]⟩:ByteArray)) λv18=>
          some ((v18.1,v18.2)))
         else
          (bif LK a0 (⟨#[115,113,117,97,114,101]⟩:ByteArray)then
           (Option.bind (cV (⟨#[52,58,32,48,49,32,48,50,32,49,51,32,50,51]⟩:ByteArray)) λv20=>
           some ((v20.1,v20.2)))
          else
           (bif LK a0 (⟨#[108,111,111,112]⟩:ByteArray)then
            (Option.bind (cV (⟨#[49,58,32,48,48]⟩:ByteArray)) λv22=>
            some ((v22.1,v22.2)))
           else
            (bif LK a0 (⟨#[99,105,114,99,108,101]⟩:ByteArray)then
             (Option.bind (cV (⟨#[51,58,32,48,49,32,49,50,32,50,48]⟩:ByteArray)) λv24=>
             some ((v24.1,v24.2)))
            else
             (Option.bind (cV (⟨#[]⟩:ByteArray)) λv25=>
             some ((v25.1,v25.2))))))))))))))
theorem Jn(a0:ByteArray):Le (AU a0) (gX a0):=by
 unfold AU gX
 repeat (with_reducible first|exact Le.rfl|refine Jm _|refine Le.bind ?_ λ_=>?_|refine Le.cond ?_ ?_)
end
section
theorem aBB(x:Int):0<=Mm x 255/\Mm x 255<256:=by
 have h:Mm x 255=x%256:=by
  have hm:(BitVec.ofInt 64 255).toNat=2 ^ 8-1:=by decide
  have key:(BitVec.ofInt 64 x&&& BitVec.ofInt 64 255).toNat=(x%((2 ^ 64:Nat):Int)).toNat % 2 ^ 8:=by
   rw[BitVec.toNat_and,BitVec.toNat_ofInt,hm,Nat.and_two_pow_sub_one_eq_mod]
  show IntKind.i64.wrap ((BitVec.ofInt 64 x&&& BitVec.ofInt 64 255).toNat:Nat)=x%256;rw[key,IntKind.wrap_i64];omega
 rw[h];omega
def HN(b:aA)(i:Int):Prop:=0<=i/\i<=b.length
section
variable {b:aA}{i:Int}(hb:b.length<=1048576)(hi:HN b i)(h:Int)
include hb hi
theorem VJ:∃i' x,nL ⟨b,i,h⟩=some (i',x)/\HN b i'/\0<=x/\x<256:=by
 unfold nL;simp only;unfold HN at hi;by_cases c:i<b.length
 .rw[aS c,aI,OY 0 hi.1 c,aB,cC (x:=i+1) (by omega)];exact⟨_,_,rfl,⟨by omega,by omega⟩,aBB _⟩
 .rw[bZ c,aN];exact⟨_,_,rfl,hi,aBB _⟩
theorem vG{n:Int}(hn:n<=256):∃i' h' x,cE ⟨b,i,h⟩ n=some (i',h',x)/\HN b i'/\0<=x/\(0<n->x<n)/\(n<=0->x=0):=by
 unfold cE;simp only;by_cases c:n<=0
 .rw[aS c,aI];exact⟨_,_,_,rfl,hi,Int.le_refl 0,λh=>by omega,λ_=>rfl⟩
 .obtain⟨i',x,e,hi',hx0,hx⟩:=VJ hb hi h;rw[bZ c,aN,aS hn,aI,e,aB,bZ (by omega:¬ n=0),Bool.not_false,aI];refine⟨_,_,_,rfl,hi',?_,λ_=>?_,λh=>by omega⟩
  .simp only;rw[Int.tmod_eq_emod_of_nonneg hx0];exact Int.emod_nonneg _ (by omega)
  .simp only;rw[Int.tmod_eq_emod_of_nonneg hx0];exact Int.emod_lt_of_pos _ (by omega)
theorem VK{n:Int}(hn:n<=256):∃i' h' t,nM ⟨b,i,h⟩ n=some (i',h',t)/\HN b i':=by
 unfold nM;obtain⟨i',h',x,e,hi',_⟩:=vG hb hi h hn;rw[e,aB];exact⟨_,_,_,rfl,hi'⟩
theorem DO{l:aA}(MT:0<l.length)(hl:l.length<=256):∃i' h' x,fQ ⟨b,i,h⟩ l=some (i',h',x)/\HN b i'/\x∈l:=by
 unfold fQ;obtain⟨i',h',x,e,hi',h0,h1,_⟩:=vG hb hi h (n:=(l.length:Int)) (by omega);rw[e,aB];simp only;have h1:=h1 (by omega);rw[OY 0 h0 h1,aB];exact⟨_,_,_,rfl,hi',cU 0 (by omega)⟩
theorem aDQ{l:List ByteArray}(MT:0<l.length)(hl:l.length<=256):∃i' h' x,yY ⟨b,i,h⟩ l=some (i',h',x)/\HN b i'/\x∈l:=by
 unfold yY;obtain⟨i',h',x,e,hi',h0,h1,_⟩:=vG hb hi h (n:=(l.length:Int)) (by omega);rw[e,aB];simp only;have h1:=h1 (by omega);rw[OY (⟨#[]⟩:ByteArray) h0 h1,aB];exact⟨_,_,_,rfl,hi',cU (⟨#[]⟩:ByteArray) (by omega)⟩
end
theorem aBC(c:aA)(hc:c.length<=1048576):∃h,qA c=some h:=by
 unfold qA
 have key:∀d k:Nat,k+d=min c.length 4000->∀h:Int,∃r,Lp (tZ c) (h,(k:Int))=some r:=by
  intro d;induction d with
  |zero=>
   intro k hk h;refine⟨h,rW ?_⟩;unfold tZ;simp only;by_cases h1:k<c.length
   .rw[aS (by omega),aI,bZ (by omega),aN]
   .rw[bZ (by omega),aN]
  |succ d ih=>
   intro k hk h;have hk1:k<c.length:=by omega
   have hs:∃h',tZ c (h,(k:Int))=some (.inl (h',((k+1:Nat):Int))):=by
    unfold tZ;simp only;rw[iD hk1,aI,aS (by omega),aI,gY 0 hk1,aB,bJ hk1 (by omega)];exact⟨_,rfl⟩
   obtain⟨h',e⟩:=hs;rw[EG e];exact ih (k+1) (by omega) h'
 obtain⟨r,e⟩:=key (min c.length 4000) 0 (by omega) (wr (10101+(c.length:Int)));rw[show((0:Nat):Int)=0 from rfl]at e;rw[e,aB];exact⟨_,rfl⟩
theorem c0(c:aA):HN c 0:=⟨Int.le_refl 0,by omega⟩
def nmL:List ByteArray:=[⟨#[65,49]⟩,⟨#[65,50]⟩,⟨#[65,51]⟩,⟨#[65,51,105,110]⟩,⟨#[65,52]⟩,⟨#[68,52]⟩,⟨#[68,53]⟩,⟨#[75,50]⟩,⟨#[115,116,97,114,52]⟩,⟨#[115,113,117,97,114,101]⟩,⟨#[108,111,111,112]⟩,⟨#[99,105,114,99,108,101]⟩]
def nmQ:List Qv:=[⟨1,[],[]⟩,⟨2,[0],[1]⟩,⟨3,[0,1],[1,2]⟩,⟨3,[0,2],[1,1]⟩,⟨4,[0,1,2],[1,2,3]⟩,⟨4,[0,1,2],[3,3,3]⟩,⟨5,[0,1,2,3],[2,2,3,4]⟩,⟨2,[0,0],[1,1]⟩,⟨5,[0,1,2,3],[4,4,4,4]⟩,⟨4,[0,0,1,2],[1,2,3,3]⟩,⟨1,[0],[0]⟩,⟨3,[0,1,2],[1,2,0]⟩]
theorem Yz:∀k:Fin 12,(AU (nmL[k.val]?.getD ⟨#[]⟩)==some (nmQ[k.val]?.getD ⟨0,[],[]⟩,true))=true:=by decide+kernel
theorem aBD{k:Nat}(hk:k<12):gX (nmL[k]?.getD (⟨#[]⟩:ByteArray))=some (nmQ[k]?.getD ⟨0,[],[]⟩,true):=Jn _ _ (eq_of_beq (Yz ⟨k,hk⟩))
theorem SF{s:ByteArray}(h:s∈nmL):∃q,q∈nmQ/\gX s=some (q,true):=by
 obtain⟨k,hk,rfl⟩:=List.getElem_of_mem h;have hk':k<12:=hk;refine⟨nmQ[k]?.getD ⟨0,[],[]⟩,cU _ hk',?_⟩;have:=aBD hk'
 rwa [fK hk,fR]at this
theorem aDu:FL=some nmL:=rfl
def Up(n:Nat)(s t:aA):Prop:=s.length=t.length/\s.length<=4/\∀k,k<s.length->0<=s[k]?.getD 0/\s[k]?.getD 0<t[k]?.getD 0/\t[k]?.getD 0<n
theorem Up.nil(n:Nat):Up n [] []:=⟨rfl,by simp,λk hk=>absurd hk (Nat.not_lt_zero _)⟩
theorem Up.snoc{n:Nat}{s t:aA}(h:Up n s t)(hl:s.length<4){x y:Int}(h1:0<=x)(h2:x<y)(h3:y<n):Up n (s++[x]) (t++[y]):=by
 obtain⟨e,_,hk⟩:=h;refine⟨by simp[e],by simp;omega,λk hk'=>?_⟩;rcases dS k s.length with c|c
 .rw[List.getElem?_append_left c,List.getElem?_append_left (by omega)];exact hk k c
 .simp only[List.length_append,List.length_cons,List.length_nil]at hk';have:k=s.length:=by omega
  subst this;rw[List.getElem?_append_right (bA _),Nat.sub_self,e,List.getElem?_append_right (bA _),Nat.sub_self];exact⟨h1,h2,h3⟩
section
variable {b:aA}{i:Int}(hb:b.length<=1048576)(hi:HN b i)(h:Int)
include hb hi
theorem aBE:∃(i' h':Int)(q:Qv),xW ⟨b,i,h⟩=some (i',h',q.n,q.src,q.tgt)/\HN b i'/\(q∈nmQ.take 10∨∃n:Nat,1<=n/\n<=4/\q.n=n/\Up n q.src q.tgt):=by
 unfold xW;obtain⟨i1,h1,t1,e1,k1⟩:=VK hb hi h (n:=2) (by omega);rw[e1,aB];cases t1 with
 |true=>
  simp only[aI];obtain⟨i2,h2,x,e2,k2,x0,x1,_⟩:=vG hb k1 h1 (n:=10) (by omega);have x1:=x1 (by omega);rw[aDu,aB,e2,aB];simp only;have hx:x.toNat<10:=by omega
  rw[OY (⟨#[]⟩:ByteArray) x0 (by have:nmL.length=12:=rfl;omega),aB,aBD (by omega),aB];refine⟨_,_,_,rfl,k2,.inl ?_⟩;rw[←List.getElem?_take_of_lt hx];exact cU _ hx
 |false=>
  simp only[aN];obtain⟨i2,h2,x,e2,k2,x0,x1,_⟩:=vG hb k1 h1 (n:=4) (by omega);have x1:=x1 (by omega);rw[e2,aB];obtain⟨i3,h3,y,e3,k3,y0,y1,_⟩:=vG hb k2 h2 (n:=5) (by omega);have y1:=y1 (by omega);rw[e3,aB];obtain⟨n,hn⟩:∃n:Nat,1+x=n:=⟨(1+x).toNat,by omega⟩;have hw:wr (1+x)=n:=by rw[cC (by omega)];exact hn
  have hloop:∃r,Lp (yG ⟨b,i,h⟩ (i2,h2,x)) (i3,h3,([]:aA),([]:aA),y)=some r/\(HN b r.1/\Up n r.2.2.1 r.2.2.2):=by
   refine EH (λs:Int×Int×aA×aA×Int=>HN b s.1/\Up n s.2.2.1 s.2.2.2.1/\0<=s.2.2.2.2/\s.2.2.1.length+s.2.2.2.2<=4) (λs=>s.2.2.2.2.toNat) (λr:Int×Int×aA×aA=>HN b r.1/\Up n r.2.2.1 r.2.2.2) ⟨k3,Up.nil n,y0,by simp;omega⟩ ?_;rintro⟨i4,h4,s,t,z⟩ ⟨k4,hU,z0,z1⟩;simp only at k4 hU z0 z1;unfold yG;simp only;rw[hw];by_cases c:0<z
   .rw[aS c,aI];by_cases c2:1<(n:Int)
    .rw[aS c2,aI,cC (x:=(n:Int)-1) (by omega)];obtain⟨i5,h5,v,e5,k5,v0,v1,_⟩:=vG hb k4 h4 (n:=(n:Int)-1) (by omega);have v1:=v1 (by omega);rw[e5,aB];simp only;have hsl:=hU.1;rw[aS (by simp;omega),aI,cC (x:=(n:Int)-1-v) (by omega)];obtain⟨i6,h6,u,e6,k6,u0,u1,_⟩:=vG hb k5 h5 (n:=(n:Int)-1-v) (by omega);have u1:=u1 (by omega);rw[e6,aB];simp only;rw[aS (by simp;omega),aI,cC (x:=v+1) (by omega),cC (x:=v+1+u) (by omega),cC (x:=z-1) (by omega)];exact .inl ⟨_,rfl,⟨k6,hU.snoc (by omega) v0 (by omega) (by omega),by simp only;omega,by simp;omega⟩,by simp only;omega⟩
    .rw[bZ c2,aN];exact .inr ⟨_,rfl,k4,hU⟩
   .rw[bZ c,aN];exact .inr ⟨_,rfl,k4,hU⟩
  obtain⟨⟨i7,h7,s,t⟩,e7,k7,hU⟩:=hloop;rw[e7,aB];simp only;rw[hw];exact⟨_,_,⟨(n:Int),s,t⟩,rfl,k7,.inr ⟨n,by omega,by omega,rfl,hU⟩⟩
theorem aEh:∃(i' h':Int)(q:Qv),Be ⟨b,i,h⟩=some (i',h',q.n,q.src,q.tgt)/\HN b i'/\q.src.length<=5/\q.tgt.length<=5:=by
 unfold Be;obtain⟨i1,h1,q,e1,k1,hq⟩:=aBE hb hi h;rw[e1,aB];obtain⟨i2,h2,x,e2,k2,x0,x1,_⟩:=vG hb k1 h1 (n:=14) (by omega);simp only;rw[e2,aB];simp only;have hsm:∀q∈nmQ,q.src.length<=4/\q.tgt.length<=4:=by decide
 have hlen:q.src.length<=4/\q.tgt.length<=4:=by
  rcases hq with hq|⟨n,_,_,_,hU⟩
  .exact hsm q (List.mem_of_mem_take hq)
  .exact⟨hU.2.1,by rw[←hU.1];exact hU.2.1⟩
 by_cases c:x=0
 .rw[aS c,aI];obtain⟨i3,h3,s,e3,k3,hs⟩:=aDQ hb k2 h2 (l:=[(⟨#[108,111,111,112]⟩:ByteArray),(⟨#[99,105,114,99,108,101]⟩:ByteArray)]) (by simp) (by simp);rw[e3,aB];simp only;obtain⟨q',hq',e4⟩:=SF (s:=s) (by simp only[eW,List.not_mem_nil,or_false]at hs;rcases hs with rfl|rfl<;>simp[nmL]);rw[e4,aB];have:=hsm q' hq';exact⟨_,_,q',rfl,k3,by omega,by omega⟩
 .rw[bZ c,aN];by_cases c2:x=1
  .rw[aS c2,aI];obtain⟨i3,h3,z,e3,k3,hz⟩:=DO hb k2 h2 (l:=[0,6,(-1),2]) (by simp) (by simp);rw[e3,aB];exact⟨_,_,⟨z,q.src,q.tgt⟩,rfl,k3,by simp only;omega,by simp only;omega⟩
  .rw[bZ c2,aN];by_cases c3:x=2
   .rw[aS c3,aI];obtain⟨i3,h3,z,e3,k3,_⟩:=vG hb k2 h2 (n:=6) (by omega);rw[e3,aB];simp only;rw[aS (by simp;omega),aI];exact⟨_,_,⟨q.n,q.src++[_],q.tgt⟩,rfl,k3,by simp;omega,by simp only;omega⟩
   .rw[bZ c3,aN];exact⟨_,_,q,rfl,k2,by omega,by omega⟩
end
theorem aDS{b:aA}{i:Int}(hb:b.length<=1048576)(hi:HN b i)(h:Int)(q:Qv){most:Int}(h0:0<=most)(hm:most<=255):∃(i' h':Int)(d:aA),yZ ⟨b,i,h⟩ q most=some (i',h',d)/\HN b i'/\(d.length:Int)=max 0 (min q.n 5)/\∀x∈d,0<=x/\x<=most:=by
 have hl:∃r,Lp (Ce ⟨b,i,h⟩ q most) (i,h,([]:aA),8,0)=some r/\(HN b r.1/\(r.2.2.length:Int)=max 0 (min q.n 5)/\∀x∈r.2.2,0<=x/\x<=most):=by
  refine EH (λs:Int×Int×aA×Int×Int=>HN b s.1/\(s.2.2.1.length:Int)=s.2.2.2.2/\(∀x∈s.2.2.1,0<=x/\x<=most)/\0<=s.2.2.2.1/\s.2.2.2.1<=8/\s.2.2.2.2<=5/\s.2.2.2.2<=max 0 q.n) (λs=>(5-s.2.2.2.2).toNat) (λr:Int×Int×aA=>HN b r.1/\(r.2.2.length:Int)=max 0 (min q.n 5)/\∀x∈r.2.2,0<=x/\x<=most) ⟨hi,rfl,λx hx=>(by cases hx),(by decide:(0:Int)<=8),(by decide:(8:Int)<=8),(by decide:(0:Int)<=5),(by omega:(0:Int)<=max 0 q.n)⟩ ?_;rintro⟨i1,h1,d,left,v⟩ ⟨k1,e1,k2,k3,k4,k5,k6⟩;simp only at k1 e1 k2 k3 k4 k5 k6;unfold Ce;simp only;by_cases c:v<q.n
  .rw[aS c,aI];by_cases c2:v<5
   .rw[aS c2,aI,cC (x:=most+1) (by omega)];obtain⟨i2,h2,x,e2,kk,x0,x1,_⟩:=vG hb k1 h1 (n:=most+1) (by omega);have x1:=x1 (by omega);rw[e2,aB];simp only;have hmin:min left x<=left:=Int.min_le_left _ _;have hmin2:min left x<=x:=Int.min_le_right _ _;have hmin3:0<=min left x:=by omega
    rw[aS (by simp;omega),aI,cC (x:=left-min left x) (by omega),cC (x:=v+1) (by omega)];refine .inl ⟨_,rfl,⟨kk,by simp;omega,λy hy=>?_,by simp only;omega,by simp only;omega,by simp only;omega,by simp only;omega⟩,by simp only;omega⟩;rcases eO.1 hy with hy|hy
    .exact k2 y hy
    .simp only[eW,List.not_mem_nil,or_false]at hy;subst hy;omega
   .rw[bZ c2,aN];exact .inr ⟨_,rfl,k1,by simp only;omega,k2⟩
  .rw[bZ c,aN];exact .inr ⟨_,rfl,k1,by simp only;omega,k2⟩
 obtain⟨⟨i1,h1,d⟩,e,k1,k2,k3⟩:=hl;unfold yZ;simp only;rw[e,aB];exact⟨_,_,_,rfl,k1,k2,k3⟩
section
variable {b:aA}{i:Int}(hb:b.length<=1048576)(hi:HN b i)(h:Int)
include hb hi
theorem aCc:∃(i' h' p:Int),Bd ⟨b,i,h⟩=some (i',h',p)/\HN b i'/\mA p=true:=by
 unfold Bd;obtain⟨i1,h1,p,e,k1,hp⟩:=DO hb hi h (l:=[2,3,2]) (by simp) (by simp);rw[e,aB];refine⟨_,_,_,rfl,k1,Zy ?_⟩;simp only[eW,List.not_mem_nil,or_false]at hp;simp only;omega
theorem aCd:∃(i' h' p:Int),Bc ⟨b,i,h⟩=some (i',h',p)/\HN b i':=by
 unfold Bc;obtain⟨i1,h1,t,e1,k1⟩:=VK hb hi h (n:=16) (by omega);rw[e1,aB];cases t with
 |true=>
  simp only[aI];obtain⟨i2,h2,p,e,k2,_⟩:=DO hb k1 h1 (l:=[(-1),0,1,4,7]) (by simp) (by simp);rw[e,aB];exact⟨_,_,_,rfl,k2⟩
 |false=>
  simp only[aN];obtain⟨i2,h2,p,e,k2,_⟩:=DO hb k1 h1 (l:=[2,3,5,2,3]) (by simp) (by simp);rw[e,aB];exact⟨_,_,_,rfl,k2⟩
theorem Xt(p:Int){r c:Nat}(hN:r*c<=1000):∃(i' h':Int)(l:aA),uA ⟨b,i,h⟩ p r c=some (i',h',(r:Int),(c:Int),l)/\HN b i'/\l.length=r*c:=by
 unfold uA;rw[IS (by omega),aB];simp only
 have hl:∃z,Lp (AT ⟨b,i,h⟩ p) (i,h,bN r c (λ_ _=>0),0)=some z/\(HN b z.1/\z.2.2.length=r*c):=by
  refine EH (λs:Int×Int×aA×Int=>HN b s.1/\s.2.2.1.length=r*c/\0<=s.2.2.2/\s.2.2.2<=(r*c:Nat)) (λs=>(((r*c:Nat):Int)-s.2.2.2).toNat) (λr':Int×Int×aA=>HN b r'.1/\r'.2.2.length=r*c) ⟨hi,(dU r c λ_ _=>0:(bN r c λ_ _=>0).length=r*c),Int.le_refl 0,(by omega:(0:Int)<=(r*c:Nat))⟩ ?_;rintro⟨i1,h1,d,v⟩ ⟨k1,e1,k2,k3⟩;simp only at k1 e1 k2 k3;unfold AT;simp only;rw[e1];by_cases c':v<(r*c:Nat)
  .obtain⟨i2,h2,x,e2,kk,_⟩:=vG hb k1 h1 (n:=max 1 (min 5 p)) (by omega);rw[aS c',aI,e2,aB,OY 0 k2 (by omega),aB,cC (x:=v+1) (by omega)];exact .inl ⟨_,rfl,⟨kk,by simp only;rw[List.length_set];exact e1,by simp only;omega,by simp only;omega⟩,by simp only;omega⟩
  .rw[bZ c',aN];exact .inr ⟨_,rfl,k1,e1⟩
 obtain⟨⟨i1,h1,d⟩,e,k1,k2⟩:=hl;rw[e,aB];exact⟨_,_,_,rfl,k1,k2⟩
theorem aEi(p:Int):∃(i' h' rows cols:Int)(l:aA),EU ⟨b,i,h⟩ p=some (i',h',rows,l,cols)/\HN b i'/\l.length<=100:=by
 unfold EU;obtain⟨i1,h1,x,e1,k1,x0,x1,_⟩:=vG hb hi h (n:=4) (by omega);have x1:=x1 (by omega);obtain⟨i2,h2,y,e2,k2,y0,y1,_⟩:=vG hb k1 h1 (n:=4) (by omega);have y1:=y1 (by omega);obtain⟨r,rfl⟩:∃r:Nat,x=r:=⟨x.toNat,by omega⟩;obtain⟨c,rfl⟩:∃c:Nat,y=c:=⟨y.toNat,by omega⟩;have hN:=Nat.mul_le_mul (show r<=4 by omega) (show c<=4 by omega);obtain⟨i3,h3,l,e3,k3,hl⟩:=Xt hb k2 h2 p (r:=r) (c:=c) (by omega);obtain⟨i4,h4,z,e4,k4,_⟩:=vG hb k3 h3 (n:=18) (by omega);rw[e1,aB];simp only;rw[e2,aB];simp only;rw[e3,aB];simp only;rw[e4,aB];simp only;by_cases c1:z=0
 .rw[aS c1,aI];obtain⟨i5,h5,w,e5,k5,_⟩:=DO hb k4 h4 (l:=[(-1),9,2,9223372036854775807]) (by simp) (by simp);rw[e5,aB];exact⟨_,_,_,_,_,rfl,k5,by omega⟩
 .rw[bZ c1,aN];by_cases c2:z=1
  .rw[aS c2,aI,aS (by simp;omega),aI];exact⟨_,_,_,_,_,rfl,k4,by simp;omega⟩
  .rw[bZ c2,aN];by_cases c3:z=2
   .rw[aS c3,aI];by_cases c4:0<l.length
    .rw[aS (by omega),aI];obtain⟨i5,h5,w,e5,k5,_⟩:=DO hb k4 h4 (l:=[(-1),5,2]) (by simp) (by simp);rw[e5,aB,OY 0 (Int.le_refl 0) (by omega),aB];exact⟨_,_,_,_,_,rfl,k5,by rw[List.length_set];omega⟩
    .rw[bZ (by omega),aN];exact⟨_,_,_,_,_,rfl,k4,by omega⟩
   .rw[bZ c3,aN];exact⟨_,_,_,_,_,rfl,k4,by omega⟩
end
structure SmM(m:Mt):Prop where
 r:∃r:Nat,m.rows=r/\r<=4
 c:∃c:Nat,m.cols=c/\c<=4
 l:m.cells.length<=100
theorem aEj(p:Int){q:Qv}(hb:bQ q)(hv:Jz q=true){d:aA}(hl:(d.length:Int)=q.n)(hd:∀x∈d,0<=x/\x<=4):∃ms,nK p q d=some ⟨p,q,d,ms⟩/\ms.length<=10/\∀m∈ms,SmM m:=by
 obtain⟨n,hn,n1,n5,hs1,hs2,hs,ht⟩:=pS hv;unfold nK;rw[VI hb,aB,aS (by simp;omega),aI]
 have hloop:∃r,Lp (rJ q d) (([]:List Mt),0)=some r/\((r:List Mt).length <=10/\∀m∈r,SmM m):=by
  refine EH (λs:List Mt×Int=>0<=s.2/\s.2<=q.src.length/\(s.1.length:Int)=s.2/\∀m∈s.1,SmM m) (λs=>((q.src.length:Int)-s.2).toNat) (λr:List Mt=>r.length<=10/\∀m∈r,SmM m) ⟨Int.le_refl 0,(by omega:(0:Int)<=q.src.length),rfl,λm hm=>(by cases hm)⟩ ?_;rintro⟨ms,v⟩ ⟨k1,k2,k3,k4⟩;simp only at k1 k2 k3 k4;unfold rJ;simp only;by_cases c:v<q.src.length
  .have a1:=hs _ (cU (l:=q.src) 0 (k:=v.toNat) (by omega));have a2:=ht _ (cU (l:=q.tgt) 0 (k:=v.toNat) (by omega));have b1:=hd _ (cU (l:=d) 0 (k:=(q.src[v.toNat]?.getD 0).toNat) (by omega));have b2:=hd _ (cU (l:=d) 0 (k:=(q.tgt[v.toNat]?.getD 0).toNat) (by omega));rw[aS c,aI,OY 0 k1 (by omega),aB,OY 0 a2.1 (by omega),aB,OY 0 k1 (by omega),aB,OY 0 a1.1 (by omega),aB];generalize d[(q.src[v.toNat]?.getD 0).toNat]?.getD 0=x at b1 ⊢;generalize d[(q.tgt[v.toNat]?.getD 0).toNat]?.getD 0=y at b2 ⊢;obtain⟨x',rfl⟩:∃x':Nat,x=x':=⟨x.toNat,by omega⟩;obtain⟨y',rfl⟩:∃y':Nat,y=y':=⟨y.toNat,by omega⟩;have hN:=Nat.mul_le_mul (show y'<=4 by omega) (show x'<=4 by omega);rw[IS (by omega),aB,aS (by omega),aI,cC (x:=v+1) (by omega)];refine .inl ⟨_,rfl,⟨by simp only;omega,by simp only;omega,by simp;omega,λm hm=>?_⟩,by simp only;omega⟩;rcases eO.1 hm with hm|hm
   .exact k4 m hm
   .simp only[eW,List.not_mem_nil,or_false]at hm;subst hm;exact⟨⟨y',rfl,by omega⟩,⟨x',rfl,by omega⟩,by simp only;rw[dU];omega⟩
  .rw[bZ c,aN];exact .inr ⟨_,rfl,by omega,k4⟩
 obtain⟨ms,e,k1,k2⟩:=hloop;rw[e,aB];exact⟨ms,rfl,k1,k2⟩
section
variable {b:aA}{i:Int}(hb:b.length<=1048576)(hi:HN b i)(h:Int)
include hb hi
theorem dOf(p:Int){q:Qv}(hq:bQ q){m:Int}(m0:0<=m)(m4:m<=4):∃(i' h':Int)(d:aA)(ms:List Mt),Ak ⟨b,i,h⟩ p q m=some (i',h',p,q.n,q.src,q.tgt,d,ms)/\HN b i'/\d.length<=5/\ms.length<=10/\∀m∈ms,m.cells.length<=100:=by
 unfold Ak;rw[Xl hq,aB];cases hv:Jz q with
 |false=>exact⟨_,_,_,_,rfl,hi,by simp,by simp,λm hm=>(by cases hm)⟩
 |true=>
  rw[dO,aN];obtain⟨i1,h1,d,e1,k1,l1,hd⟩:=aDS hb hi h q (most:=m) m0 (by omega);obtain⟨n,hn,n1,n5,_⟩:=pS hv;rw[e1,aB];simp only;obtain⟨ms,e2,l2,hm⟩:=aEj p hq hv (d:=d) (by omega) λx hx=>by have:=hd x hx;omega
  rw[e2,aB];simp only
  have hloop:∃r,Lp (FM ⟨b,i,h⟩ p) (i1,h1,ms,0)=some r/\(HN b r.1/\r.2.2.length<=10/\∀m∈r.2.2,SmM m):=by
   refine EH (λs:Int×Int×List Mt×Int=>HN b s.1/\0<=s.2.2.2/\s.2.2.2<=s.2.2.1.length/\s.2.2.1.length<=10/\∀m∈s.2.2.1,SmM m) (λs=>((s.2.2.1.length:Int)-s.2.2.2).toNat) (λr:Int×Int×List Mt=>HN b r.1/\r.2.2.length<=10/\∀m∈r.2.2,SmM m) ⟨k1,Int.le_refl 0,(by omega:(0:Int)<=ms.length),l2,hm⟩ ?_;rintro⟨i2,h2,ns,v⟩ ⟨k2,c1,c2,c3,c4⟩;simp only at k2 c1 c2 c3 c4;unfold FM;simp only;by_cases c:v<ns.length
   .have hm:=c4 _ (cU (l:=ns) ⟨0,0,[]⟩ (k:=v.toNat) (by omega));rw[aS c,aI,OY ⟨0,0,[]⟩ c1 c,aB,aB];obtain⟨⟨r,er,hr⟩,⟨cc,ec,hc⟩,_⟩:=hm;have hN:=Nat.mul_le_mul hr hc;obtain⟨i3,h3,l,e3,k3,hl⟩:=Xt hb k2 h2 p (r:=r) (c:=cc) (by omega);rw[er,ec,e3,aB,aB,cC (x:=v+1) (by omega)];refine .inl ⟨_,rfl,⟨k3,by simp only;omega,by simp only;rw[List.length_set];omega,by simp only;rw[List.length_set];exact c3,λm hm=>?_⟩,by simp only;rw[List.length_set];omega⟩;rcases List.mem_or_eq_of_mem_set hm with hm|hm
    .exact c4 m hm
    .subst hm;exact⟨⟨r,rfl,hr⟩,⟨cc,rfl,hc⟩,by simp only;omega⟩
   .rw[bZ c,aN];exact .inr ⟨_,rfl,k2,c3,c4⟩
  obtain⟨⟨i2,h2,ns⟩,e3,k3,l3,hm3⟩:=hloop;rw[e3,aB];exact⟨_,_,_,_,rfl,k3,by omega,l3,λm hm=>(hm3 m hm).l⟩
theorem aDT:∃(i' h':Int)(r:Rp),Bf ⟨b,i,h⟩=some (i',h',r.dims,r.maps,r.p,r.q.n,r.q.src,r.q.tgt)/\HN b i'/\bR r:=by
 unfold Bf;obtain⟨i1,h1,p,e1,k1⟩:=aCd hb hi h;obtain⟨i2,h2,q,e2,k2,q1,q2⟩:=aEh hb k1 h1;have hq:bQ q:=⟨by unfold bI;omega,by unfold bI;omega,trivial⟩;obtain⟨i3,h3,d,ms,e3,k3,l1,l2,hm⟩:=dOf hb k2 h2 p hq (m:=2) (by omega) (by omega);obtain⟨i4,h4,z,e4,k4,_⟩:=vG hb k3 h3 (n:=14) (by omega);have hR:∀(d':aA)(ms':List Mt),d'.length<=100->ms'.length<=100->(∀m∈ms',m.cells.length<=200)->bR ⟨p,q,d',ms'⟩:=λd' ms' h1 h2 h3=>⟨hq,by unfold bI;simp only;omega,⟨by simp only;omega,λm hm=>⟨by unfold bI;have:=h3 m hm;omega,trivial⟩⟩,trivial⟩;have q0:(⟨q.n,q.src,q.tgt⟩:Qv)=q:=rfl;rw[e1,aB];simp only;rw[e2,aB];simp only;rw[q0,e3,aB];simp only;rw[e4,aB];simp only;by_cases c1:z=0
 .rw[aS c1,aI,aS (by simp;omega),aI];exact⟨_,_,⟨p,q,d++[1],ms⟩,rfl,k4,hR _ _ (by simp;omega) (by omega) λm hm'=>by have:=hm m hm';omega⟩
 .rw[bZ c1,aN];by_cases c2:z=1
  .rw[aS c2,aI];by_cases c4:0<ms.length
   .rw[aS (by omega),aI];obtain⟨i5,h5,rr,cc,l,e5,k5,hl⟩:=aEi hb k4 h4 p;rw[e5,aB,OY ⟨0,0,[]⟩ (Int.le_refl 0) (by omega),aB];refine⟨_,_,⟨p,q,d,_⟩,rfl,k5,hR _ _ (by omega) (by rw[List.length_set];omega) λm hm'=>?_⟩;rcases List.mem_or_eq_of_mem_set hm' with hm'|hm'
    .have:=hm m hm';omega
    .subst hm';simp only;omega
   .rw[bZ (by omega),aN];exact⟨_,_,⟨p,q,d,ms⟩,rfl,k4,hR _ _ (by omega) (by omega) λm hm'=>by have:=hm m hm';omega⟩
  .rw[bZ c2,aN];by_cases c3:z=2
   .rw[aS c3,aI];by_cases c4:0<d.length
    .rw[aS (by omega),aI];obtain⟨i5,h5,w,e5,k5,_⟩:=DO hb k4 h4 (l:=[(-1),5,0]) (by simp) (by simp);rw[e5,aB,OY 0 (Int.le_refl 0) (by omega),aB];exact⟨_,_,⟨p,q,d.set 0 w,ms⟩,rfl,k5,hR _ _ (by rw[List.length_set];omega) (by omega) λm hm'=>by have:=hm m hm';omega⟩
    .rw[bZ (by omega),aN];exact⟨_,_,⟨p,q,d,ms⟩,rfl,k4,hR _ _ (by omega) (by omega) λm hm'=>by have:=hm m hm';omega⟩
   .rw[bZ c3,aN];exact⟨_,_,⟨p,q,d,ms⟩,rfl,k4,hR _ _ (by omega) (by omega) λm hm'=>by have:=hm m hm';omega⟩
end
theorem aBF{k:Nat}{f:Nat->Nat}(hlt:∀t,t<k->f t<k)(hinc:∀s t,s<t->t<k->f s<f t):∀t,t<k->f t=t:=by
 have h1:∀t,t<k->t<=f t:=by
  intro t;induction t with
  |zero=>intro _;exact Nat.zero_le _
  |succ t ih=>intro h;have:=ih (by omega);have:=hinc t (t+1) (by omega) h;omega
 have h2:∀d t,t+d+1=k->f t<=t:=by
  intro d;induction d with
  |zero=>intro t h;have:=hlt t (by omega);omega
  |succ d ih=>intro t h;have:=ih (t+1) (by omega);have:=hinc t (t+1) (by omega) (by omega);omega
 intro t ht;have:=h1 t ht;have:=h2 (k-t-1) t (by omega);omega
theorem We{L M:List Nat}(hL:∀i k,i<k->k<L.length->L[i]?.getD 0<L[k]?.getD 0)(hM:∀i k,i<k->k<M.length->M[i]?.getD 0<M[k]?.getD 0)(hs:∀t,t<M.length->∃i,i<L.length/\L[i]?.getD 0=M[t]?.getD 0)(hl:L.length=M.length):L=M:=by
 have hs':∀t:Nat,∃i,t<M.length->i<L.length/\L[i]?.getD 0=M[t]?.getD 0:=λt=>by
  by_cases h:t<M.length
  .obtain⟨i,hi⟩:=hs t h;exact⟨i,λ_=>hi⟩
  .exact⟨0,λh'=>absurd h' h⟩
 obtain⟨f,hf⟩:=Classical.axiomOfChoice hs'
 have e:=aBF (k:=M.length) (f:=f) (λt ht=>hl▸(hf t ht).1) (λs t hst ht=>by
  rcases Nat.lt_trichotomy (f s) (f t)with h|h|h
  .exact h
  .have a:=(hf s (by omega)).2;have b:=(hf t ht).2;have c:=hM s t hst ht;rw[h,b]at a;omega
  .have a:=(hf s (by omega)).2;have b:=(hf t ht).2;have c:=hM s t hst ht;have:=hL (f t) (f s) h (hf s (by omega)).1
   omega)
 refine List.ext_getElem hl λi h1 h2=>?_;have:=(hf i h2).2;rw[e i h2]at this;simpa [h1,h2]using this
theorem aBG{p:Int}(hp:mA p=true){m m' n:Nat}{F G:Nat->Nat->Int}{L M:List Nat}(hF:Red m n F L)(hG:Red m' n G M)(iF:Bx p m n F)(iG:Bx p m' n G)(hK:∀x,Kr p m n F x->Kr p m' n G x)(hl:L.length=M.length):L=M/\∀i j,i<L.length->j<n->F i j=G i j:=by
 have e:L=M:=We hF.inc hG.inc (λt ht=>Sq hp hF hG hK ht) hl;subst e;refine⟨rfl,λi k hi hk=>?_⟩;have hm:=hF.len;have hm':=hG.len;by_cases hL:∃t,t<L.length/\L[t]?.getD 0=k
 .obtain⟨t,ht,rfl⟩:=hL;by_cases e:i=t
  .subst e;rw[hF.one i hi,hG.one i hi]
  .rw[hF.col t i ht (by omega) e,hG.col t i ht (by omega) e]
 .have hL:∀t,t<L.length->L[t]?.getD 0≠k:=λt ht e=>hL ⟨t,ht,e⟩;have h1:=hK _ (PK (p:=p) hF hk hL) i (by omega);rw[UO hF hk hL,Gt (j:=i) hi (λt ht hti=>by rw[hG.col t i ht (by omega) (λe=>hti e.symm)];simp),hG.one i hi,Int.one_mul]at h1;unfold Z0 at h1;have b1:=iF i k (by omega) hk;have b2:=iG i k (by omega) hk
  have e1:G i k%p=F i k%p:=by
   have:=Int.emod_emod_of_dvd;exact Int.emod_eq_emod_iff_emod_sub_eq_zero.2 h1
  rw[Int.emod_eq_of_lt b2.1 b2.2,Int.emod_eq_of_lt b1.1 b1.2]at e1;exact e1.symm
theorem SG{p:Int}{n:Nat}{l:aZ}(hp:mA p=true)(hv:VecsP p n l)(hs:iE p n l=l):∃L,L.length=l.length/\Red l.length n (cA l) L:=by
 have hi:=hv.inP;have hr:=IF hp hi n (bA _)
 have hlen:(bY p l.length (cA l) n).2.length=l.length:=by
  have:=congrArg List.length hs;unfold iE at this;rw[xF]at this;exact this
 have hrow:∀i j,i<l.length->j<n->(bY p l.length (cA l) n).1 i j=cA l i j:=by
  intro i j hi hj;have:=PG (bY p l.length (cA l) n).1 (bY p l.length (cA l) n).2.length n i j (by omega) hj;unfold iE at hs;rw[hs]at this;exact this.symm
 refine⟨_,hlen,⟨hr.lt,hr.inc,by omega,λi h=>?_,λi k h hk hne=>?_,λi j h h2 hj=>?_,λi j h hj=>?_⟩⟩
 .rw[←hrow i _ (by omega) (hr.lt i h)];exact hr.one i h
 .rw[←hrow k _ hk (hr.lt i h)];exact hr.col i k h hk hne
 .omega
 .rw[←hrow i j (by omega) (by have:=hr.lt i h;omega)];exact hr.left i j h hj
def Of(p:Int)(B:Nat->Nat->Int)(L:List Nat)(v:Nat->Int):Nat->Nat->Int
 |0=>v
 |t+1=>λj=>(Of p B L v t j+(p-Of p B L v t (L[t]?.getD 0))*B t j)%p
theorem aBH{p:Int}(hp:mA p=true){B:Nat->Nat->Int}{L:List Nat}{v:Nat->Int}{n:Nat}(hv:∀j,j<n->0<=v j/\v j<p):∀t j,j<n->0<=Of p B L v t j/\Of p B L v t j<p
 |0,j,h=>hv j h
 |t+1,j,_=>xK hp
theorem TV{p:Int}(hp:mA p=true){m n:Nat}{B:Nat->Nat->Int}{L:List Nat}(h:Red m n B L){v:Nat->Int}:∀t,t<=L.length->∀s,s<t->Of p B L v t (L[s]?.getD 0)=0
 |0,_,s,hs=>absurd hs (Nat.not_lt_zero _)
 |t+1,ht,s,hs=>by
  have hm:=h.len;simp only[Of];by_cases e:s=t
  .subst e;rw[h.one s (by omega),Int.mul_one,show Of p B L v s (L[s]?.getD 0)+(p-Of p B L v s (L[s]?.getD 0))=p by omega,Int.emod_self]
  .rw[h.col s t (by omega) (by omega) (λe'=>e e'.symm),TV hp h t (by omega) s (by omega)];simp
theorem Wf{p:Int}(hp:mA p=true){m n:Nat}{B:Nat->Nat->Int}{L:List Nat}(hL:L.length<=m){v x:Nat->Int}(hx:Kr p m n B x):∀t,t<=L.length->dt n (Of p B L v t) x%p=dt n v x%p
 |0,_=>rfl
 |t+1,ht=>by
  have ih:=Wf hp hL (v:=v) hx t (by omega);have h1:=hx t (by omega);rw[←ih];simp only[Of];rw[Sp (g:=λj=>Of p B L v t j+(p-Of p B L v t (L[t]?.getD 0))*B t j) (λk _=>by rw[Int.emod_emod_of_dvd _ (Int.dvd_refl p)]),aAC];have h2:=KW (p-Of p B L v t (L[t]?.getD 0)) h1;unfold Z0 at h2;rw[Int.add_emod,h2];simp
theorem aBI{p:Int}(hp:mA p=true){m n:Nat}{B:Nat->Nat->Int}{L:List Nat}(h:Red m n B L){v:Nat->Int}(hv:∀j,j<n->0<=v j/\v j<p):(∀j,j<n->Of p B L v L.length j=0)↔ ∀x,Kr p m n B x->Z0 p (dt n v x):=by
 constructor
 .intro hz x hx;have:=Wf hp h.len (v:=v) hx L.length (bA _);unfold Z0;rw[←this]
  have e:dt n (Of p B L v L.length) x=0:=by
   unfold dt;rw[gO (g:=λ_=>0) (λk hk=>by rw[hz k hk];simp),Ao]
  rw[e];simp
 .intro hz k hk;by_cases hL:∃t,t<L.length/\L[t]?.getD 0=k
  .obtain⟨t,ht,rfl⟩:=hL;exact TV hp h L.length (bA _) t ht
  .have hL:∀t,t<L.length->L[t]?.getD 0≠k:=λt ht e=>hL ⟨t,ht,e⟩;have hx:=PK (p:=p) h hk hL;have h1:=hz _ hx;unfold Z0 at h1;rw[←Wf hp h.len (v:=v) hx L.length (bA _),UO h hk hL,gO (g:=λ_=>0) (λi hi=>by rw[TV hp h L.length (bA _) i hi];simp),Ao,Int.sub_zero]at h1;have b:=aBH hp (B:=B) (L:=L) hv L.length k hk;rw[Int.emod_eq_of_lt b.1 b.2]at h1;exact h1
theorem JS{p:Int}{n:Nat}{a b:aZ}{x:Nat->Int}:Kr p (a++b).length n (cA (a++b)) x↔Kr p a.length n (cA a) x/\Kr p b.length n (cA b) x:=by
 have e1:∀i,i<a.length->cA (a++b) i=cA a i:=λi hi=>by funext j;simp only[cA];rw[List.getElem?_append_left hi]
 have e2:∀i,cA (a++b) (a.length+i)=cA b i:=λi=>by funext j;simp only[cA];rw[List.getElem?_append_right (by omega),Nat.add_sub_cancel_left]
 unfold Kr;rw[List.length_append];refine⟨λh=>⟨λi hi=>e1 i hi▸h i (by omega),λi hi=>e2 i▸h (a.length+i) (by omega)⟩,λh i hi=>?_⟩;rcases dS i a.length with h'|h'
 .rw[e1 i h'];exact h.1 i h'
 .have:=h.2 (i-a.length) (by omega);rw[←e2,show a.length+(i-a.length)=i by omega]at this;exact this
theorem FO{p:Int}(hp:mA p=true){n:Nat}{a b:aZ}(ha:VecsP p n a)(hb:VecsP p n b)(hs:iE p n b=b):(Qj p n a b).length=b.length↔ ∀x,Kr p b.length n (cA b) x->Kr p a.length n (cA a) x:=by
 have hi:=(ha.append hb).inP;constructor
 .intro hl x hx;obtain⟨L,hLl,hR⟩:=SG hp hb hs;have hr:=IF hp hi n (bA _);have hb':=eY hp
  have hlen:(bY p (a++b).length (cA (a++b)) n).2.length=L.length:=by
   unfold Qj iE at hl;rw[xF]at hl;omega
  obtain⟨_,h2⟩:=aBG hp hr hR (tR (by omega) hi n) hb.inP (λx hx=>(JS.1 ((JA hp hi x n (bA _)).1 hx)).2) hlen;refine(JS.1 ((JA hp hi x n (bA _)).1 λi hi'=>?_)).1;rcases dS i (bY p (a++b).length (cA (a++b)) n).2.length with h'|h'
  .have e:dt n ((bY p (a++b).length (cA (a++b)) n).1 i) x=dt n (cA b i) x:=gO λk hk=>by rw[h2 i k h' hk]
   rw[e];exact hx i (by omega)
  .have e:dt n ((bY p (a++b).length (cA (a++b)) n).1 i) x=0:=by
    unfold dt;rw[gO (g:=λ_=>0) (λk hk=>by rw[hr.low i k h' hi' hk];simp),Ao]
   rw[e];unfold Z0;simp
 .intro hK;unfold Qj;rw[aAv hp hi hb.inP λx=>⟨λh=>(JS.1 h).2,λh=>JS.2 ⟨hK x h,h⟩⟩,hs]
theorem VL{v:aA}{k:Nat}(hl:bI v)(hk:k<v.length)(h0:∀j,j<k->v[j]?.getD 0=0)(h1:v[k]?.getD 0≠0):gW v=some (k:Int):=by
 unfold bI at hl;unfold gW cW;rw[cB (r:=.inr (k:Int)) (λj=>(j:Int)) k (by rfl) (λj hj=>?_) (λ_=>?_)];rfl
 .unfold cI kY;rw[iD (show j<v.length by omega),aI,gY 0 (by omega),aB,aB,h0 j hj];simp only[decide_true,dO,aN];rw[bJ hj (by omega)]
 .unfold cI kY;rw[iD hk,aI,gY 0 hk,aB,aB,bZ h1];rfl
theorem aBJ{v:aA}(hl:bI v)(h0:∀j,j<v.length->v[j]?.getD 0=0):gW v=some (-1):=by
 unfold bI at hl;unfold gW cW;rw[cB (r:=.inl ()) (λj=>(j:Int)) v.length (by rfl) (λj hj=>?_) (λ_=>?_)];rfl
 .unfold cI kY;rw[iD hj,aI,gY 0 hj,aB,aB,h0 j hj];simp only[decide_true,dO,aN];rw[bJ hj (by omega)]
 .unfold cI;rw[iZ (bA _),aN]
theorem ZA{v:aA}(hl:bI v):∃i,gW v=some i/\decide (i<0)=decide (∀j,j<v.length->v[j]?.getD 0=0):=by
 by_cases h:∀j,j<v.length->v[j]?.getD 0=0
 .exact⟨_,aBJ hl h,by rw[aS h];rfl⟩
 .have⟨k,hk,h1,h2⟩:∃k,k<v.length/\v[k]?.getD 0≠0/\∀j,j<k->v[j]?.getD 0=0:=by
   have hex:∃k,k<v.length/\v[k]?.getD 0≠0:=by
    refine Classical.byContradiction λhn=>h λj hj=>Classical.byContradiction λhne=>hn ⟨j,hj,hne⟩
   obtain⟨k0,hk0⟩:=hex;induction k0 using Nat.strongRecOn with
   |_ k0 ih=>
    by_cases hs:∃j,j<k0/\v[j]?.getD 0≠0
    .obtain⟨j,hj,hne⟩:=hs;exact ih j hj ⟨by omega,hne⟩
    .exact⟨k0,hk0.1,hk0.2,λj hj=>Classical.byContradiction λhne=>hs ⟨j,hj,hne⟩⟩
  refine⟨_,VL hl hk h2 h1,?_⟩;rw[bZ h,bZ (by omega)]
theorem VM(n:Nat)(f:Nat->Int):bN 1 n (λ_=>f)=eC n f:=by
 unfold bN eC;rw[Nat.one_mul];refine oV λt ht=>?_;rw[Nat.mod_eq_of_lt (List.mem_range.1 ht)]
theorem TW{v:aA}{n:Nat}(h:v.length=n):v=eC n λj=>v[j]?.getD 0:=by
 refine List.ext_getElem (by rw[dL,h]) λi h1 h2=>?_;simp[eC,h1]
theorem aBK{p:Int}(hp:mA p=true){n:Nat}(hn:n<=1048576){f g:Nat->Int}{k:Int}(hk:0<=k/\k<=5)(hf:∀b,b<n->0<=f b/\f b<p)(hg:∀b,b<n->0<=g b/\g b<p):
  eB p (eC n f) 0 n k (eC n g)=some (eC n λb=>(f b+k*g b)%p):=by
 have:=Lr (r:=1) (i:=0) hp hn (by omega) (F:=λ_=>f) hk hf hg;rw[Nat.zero_mul,VM]at this;rw[this];congr 1;rw[←VM];exact bX λi j hi hj=>by simp only[OB];rw[aP (by omega)]
theorem aDv{p:Int}(hp:mA p=true){n:Nat}{z:Int}{l:aZ}{L:List Nat}(hn:n<=1024)(hv:VecsP p n l)(hll:l.length<=1048576)(hL:L.length=l.length)(hR:Red l.length n (cA l) L){v:aA}(hvl:v.length=n)(hv2:∀x∈v,0<=x/\x<p):
  jW ⟨z,l⟩ p v=some (eC n (Of p (cA l) L (λj=>v[j]?.getD 0) l.length)):=by
 have hb:=eY hp;have hin:∀j,j<n->0<=v[j]?.getD 0/\v[j]?.getD 0<p:=λj hj=>hv2 _ (cU 0 (by omega));unfold jW mB;rw[aS (by omega),aI,aB];rw[cB (r:=eC n (Of p (cA l) L (λj=>v[j]?.getD 0) l.length)) (λt=>(eC n (Of p (cA l) L (λj=>v[j]?.getD 0) t),(t:Int))) l.length (by simp only[Of];rw[←TW hvl];rfl) (λt ht=>?_) (λ_=>?_)];rfl
 .have hLt:L[t]?.getD 0<n:=hR.lt t (by omega)
  have hrt:l[t]?.getD []=eC n (cA l t):=by
   have:=TW (hv _ (cU (l:=l) [] ht)).1;rw[this];rfl
  have hrs:=aBH hp (B:=cA l) (L:=L) (v:=λj=>v[j]?.getD 0) (n:=n) hin t;unfold lP;simp only;rw[iD ht,aI,gY [] ht,aB,hrt];rw[VL (v:=eC n (cA l t)) (k:=L[t]?.getD 0) (by unfold bI;rw[dL];omega) (by rw[dL];exact hLt) (λj hj=>?_) ?_,aB]
  .rw[EP _ hLt,aB,dL];have h1:=hrs _ hLt;rw[cC (x:=p-_) (by omega),aBK hp (by omega) (by omega) hrs (λb hb=>hv.inP t b ht hb),aB,dL,aS rfl,aI,bJ ht (by omega)];rfl
  .have:=hR.one t (by omega);simp[eC,hLt,this]
  .have:=hR.left t j (by omega) hj;simp[eC,show j<n by omega,this]
 .unfold lP;rw[iZ (bA _),aN]
def Xu(p:Int)(n:Nat)(a b:aZ):Bool:=decide ((Qj p n a b).length=b.length)
theorem aEk{p:Int}(hp:mA p=true){n:Nat}{z:Int}{l:aZ}(hn:n<=1024)(hv:VecsP p n l)(hs:iE p n l=l){v:aA}(hvl:v.length=n)(hv2:∀x∈v,0<=x/\x<p):
  xP ⟨z,l⟩ p v=some (Xu p n [v] l):=by
 obtain⟨L,hL,hR⟩:=SG hp hv hs;have hll:l.length<=n:=by have:=(@IG p n l).1;rw[hs]at this;exact this
 have hin:∀j,j<n->0<=v[j]?.getD 0/\v[j]?.getD 0<p:=λj hj=>hv2 _ (cU 0 (by omega));unfold xP;rw[aDv hp hn hv (by omega) hL hR hvl hv2,aB];obtain⟨i,h1,h2⟩:=ZA (v:=eC n (Of p (cA l) L (λj=>v[j]?.getD 0) l.length)) (by unfold bI;rw[dL];omega);rw[h1,aB,h2];congr 1;unfold Xu;have hv1:VecsP p n [v]:=λw hw=>by rw[List.mem_singleton.1 hw];exact⟨hvl,hv2⟩
 have h3:=FO hp hv1 hv hs;have h4:=aBI hp hR (v:=λj=>v[j]?.getD 0) hin
 have key:(∀j,j<(eC n (Of p (cA l) L (λj=>v[j]?.getD 0) l.length)).length->(eC n (Of p (cA l) L (λj=>v[j]?.getD 0) l.length))[j]?.getD 0=0)↔(Qj p n [v] l).length=l.length:=by
  rw[h3,dL]
  have e1:(∀j,j<n->(eC n (Of p (cA l) L (λj=>v[j]?.getD 0) l.length))[j]?.getD 0=0)↔ ∀j,j<n->Of p (cA l) L (λj=>v[j]?.getD 0) L.length j=0:=by
   refine⟨λh j hj=>?_,λh j hj=>?_⟩
   .have:=h j hj;simp only[eC,List.getElem?_map,List.getElem?_range hj,Option.map_some,fR]at this;rw[hL];exact this
   .have:=h j hj;simp only[eC,List.getElem?_map,List.getElem?_range hj,Option.map_some,fR];rw[hL]at this;exact this
  rw[e1,h4];refine⟨λh x hx i hi=>?_,λh x hx=>?_⟩
  .have:i=0:=by simpa using hi
   subst this;exact h x hx
  .exact h x hx 0 (by simp)
 by_cases h:(Qj p n [v] l).length=l.length
 .rw[aS h,aS (key.2 h)]
 .rw[bZ h,bZ (λh'=>h (key.1 h'))]
theorem aCe{p:Int}(hp:mA p=true){n:Nat}{a b:aZ}(ha:VecsP p n a)(hb:VecsP p n b)(hs:iE p n b=b):(a.all λv=>Xu p n [v] b)=Xu p n a b:=by
 have e:∀v∈a,VecsP p n [v]:=λv hv w hw=>by rw[List.mem_singleton.1 hw];exact ha v hv
 have key:(∀v∈a,(Qj p n [v] b).length=b.length)↔(Qj p n a b).length=b.length:=by
  rw[FO hp ha hb hs];refine⟨λh x hx i hi=>?_,λh v hv=>?_⟩
  .have:=(FO hp (e _ (List.getElem_mem hi)) hb hs).1 (h _ (List.getElem_mem hi)) x hx 0 (by simp);have e2:cA [a[i]] 0=cA a i:=by funext j;simp[cA,hi]
   rw[e2]at this;exact this
  .obtain⟨i,hi,rfl⟩:=List.mem_iff_getElem.1 hv;rw[FO hp (e _ hv) hb hs];intro x hx t ht;have:t=0:=by simpa using ht
   subst this;have e2:cA [a[i]] 0=cA a i:=by funext j;simp[cA,hi]
   rw[e2];exact h x hx i hi
 unfold Xu;by_cases h:(Qj p n a b).length=b.length
 .rw[aS h,List.all_eq_true];exact λv hv=>aS (key.2 h v hv)
 .rw[bZ h,List.all_eq_false];refine Classical.byContradiction λhn=>h (key.1 λv hv=>?_);refine Classical.byContradiction λhne=>hn ⟨v,hv,by simp[hne]⟩
theorem Wg{p:Int}(hp:mA p=true){n:Nat}{y z:Int}{a b:aZ}(hn:n<=1024)(ha:VecsP p n a)(hal:a.length<=1048576)(hb:VecsP p n b)(hs:iE p n b=b):zN p ⟨y,a⟩ ⟨z,b⟩=some (Xu p n a b):=by
 unfold zN;rw[MG (λv=> !Xu p n [v] b) (λv hv=>?_) hal,aB,←aCe hp ha hb hs]
 .congr 1;rw[←List.not_all_eq_any_not,Bool.not_not]
 .unfold vR;rw[aEk hp hn hb hs (ha v hv).1 (ha v hv).2,aB]
def VN(p:Int)(r c:Nat)(F:Nat->Nat->Int)(v:aA):aA:=eC r λi=>Bu p c F (λt _=>v[t]?.getD 0) i 0
def imL(p:Int)(r c:Nat)(F:Nat->Nat->Int)(l:aZ):aZ:=l.map (VN p r c F)
theorem aBL(n:Nat)(v:aA):Yx n [v]=⟨n,1,bN n 1 λi _=>v[i]?.getD 0⟩:=by
 unfold Yx;congr 1
 exact bX λi j _ hj=>by have:j=0:=by simpa using hj
                        subst this;rfl
theorem TX(r:Nat)(F:Nat->Nat->Int):bN r 1 F=eC r λi=>F i 0:=by
 unfold bN eC;rw[Nat.mul_one];exact oV λt _=>by rw[Nat.div_one,Nat.mod_one]
theorem MK{p:Int}(hp:mA p=true)(r c:Nat)(F:Nat->Nat->Int)(l:aZ):VecsP p r (imL p r c F l):=by
 intro v hv;obtain⟨w,_,rfl⟩:=List.mem_map.1 hv;refine⟨dL _ _,λx hx=>?_⟩;obtain⟨i,_,rfl⟩:=List.mem_map.1 hx;exact xK hp
theorem Xv{p:Int}(hp:mA p=true){r c:Nat}(hr:r<=8)(hc:c<=8){F:Nat->Nat->Int}(hF:Bx p r c F){v:aA}(hvl:v.length=c)(hv:∀x∈v,0<=x/\x<p):BF p ⟨r,c,bN r c F⟩ v=some (VN p r c F v):=by
 have hrc:=Nat.mul_le_mul hr hc;unfold BF;rw[aAz (l:=[v]) (by omega) (by simp) (λw hw=>by rw[List.mem_singleton.1 hw];exact hvl),aB,aBL];rw[show(1:Int)=((1:Nat):Int) by rfl,Od hp (by omega) (by omega) (by omega) (by omega) (by omega) (by omega) hF (λi j hi hj=>hv _ (cU 0 (by omega))),aB];congr 1;exact TX r _
theorem VO{p:Int}(hp:mA p=true){r c:Nat}(hr:r<=8)(hc:c<=8){F:Nat->Nat->Int}(hM:DZ p ⟨r,c,bN r c F⟩=true)(hF:Bx p r c F){v:aA}(hvl:v.length=c)(hv:∀x∈v,0<=x/\x<p):sY p ⟨r,c,bN r c F⟩ v=some (VN p r c F v,true):=by
 have hrc:=Nat.mul_le_mul hr hc;unfold sY;rw[GZ p ⟨by unfold bI;simp only[dU];omega,trivial⟩,aB,hM];simp only[dO,aN];rw[Ms p (by unfold bI;omega),Wd,aB]
 have hV:ID p v=true:=by
  unfold ID;rw[hp,aS (by omega),Bool.true_and,Bool.true_and,List.all_eq_true];exact λx hx=>xY (hv x hx).1 (by have:=(hv x hx).2;omega)
 rw[hV,hvl,aS rfl];simp only[dO,aN];rw[aS (by simp;omega),aI];have e:([]:aA)++v=bN c 1 λi _=>v[i]?.getD 0:=by rw[TX];exact TW hvl
 rw[e,show(1:Int)=((1:Nat):Int) by rfl,xM hp (by omega) (by omega) (by omega) (by omega) (by omega) (by omega) hF (λi j hi hj=>hv _ (cU 0 (by omega))),aB];congr 2;exact TX r _
theorem JT{α β:Type}(f:α->β){l:List α}{k:Nat}(d:α)(h:k<l.length):(l.take k).map f++[f (l[k]?.getD d)]=(l.take (k+1)).map f:=by
 rw[fK h,fR];exact aEg h
theorem ZB{p:Int}(hp:mA p=true){r c:Nat}(hr:r<=8)(hc:c<=8){F:Nat->Nat->Int}(hF:Bx p r c F){z:Int}{l:aZ}(hl:l.length<=16)(hv:VecsP p c l):BH p ⟨r,c,bN r c F⟩ ⟨z,l⟩=some ⟨r,iE p r (imL p r c F l)⟩:=by
 unfold BH;rw[cB (r:=imL p r c F l) (λk=>((l.take k).map (VN p r c F),(k:Int))) l.length (by rfl) (λk hk=>?_) (λ_=>?_),aB]
 .rw[QB hp (by omega) (by unfold imL;rw[dM];omega) (MK hp r c F l),aB]
 .unfold BG;simp only;rw[iD hk,aI,gY [] hk,aB,Xv hp hr hc hF (hv _ (cU [] hk)).1 (hv _ (cU [] hk)).2,aB,aS (by rw[dM,List.length_take];omega),aI,JT _ _ hk,bJ hk (by omega)]
 .unfold BG;simp only;rw[iZ (bA _),aN,List.take_length];rfl
theorem VP{p:Int}(hp:mA p=true){r c:Nat}(hr:r<=8)(hc:c<=8){F:Nat->Nat->Int}(hM:DZ p ⟨r,c,bN r c F⟩=true)(hF:Bx p r c F){l:aZ}(hS:uP p c l=true)(hv:VecsP p c l)(hl:l.length<=16):qU p ⟨r,c,bN r c F⟩ ⟨c,l⟩=some (⟨r,iE p r (imL p r c F l)⟩,true):=by
 have hrc:=Nat.mul_le_mul hr hc;unfold qU;rw[GZ p ⟨by unfold bI;simp only[dU];omega,trivial⟩,aB,hM];simp only[dO,aN];rw[Cv p ⟨⟨by simp only;omega,λw hw=>by unfold bI;rw[(hv w hw).1];omega⟩,trivial⟩,aB,hS];simp only[dO,aN,decide_true];rw[cB (r:=imL p r c F l) (λk=>((l.take k).map (VN p r c F),(k:Int))) l.length (by rfl) (λk hk=>?_) (λ_=>?_),aB]
 .rw[VB hp (by omega) (by unfold imL;rw[dM];omega) (MK hp r c F l),aB]
 .unfold sZ;simp only;rw[iD hk,aI,gY [] hk,aB,VO hp hr hc hM hF (hv _ (cU [] hk)).1 (hv _ (cU [] hk)).2,aB,aS (by rw[dM,List.length_take];omega),aI,JT _ _ hk,bJ hk (by omega)]
 .unfold sZ;simp only;rw[iZ (bA _),aN,List.take_length];rfl
theorem TY{p:Int}(hp:mA p=true){n:Nat}(hn:n<=8){a b:aZ}(hA:uP p n a=true)(hB:uP p n b=true):zO p ⟨n,a⟩ ⟨n,b⟩=some (Xu p n a b):=by
 obtain⟨_,n1,h1,_,ha,hva,_⟩:=EI hA;obtain⟨_,n2,h2,_,hb,hvb,_⟩:=EI hB;have e1:n1=n:=by omega
 have e2:n2=n:=by omega
 subst e1 e2;unfold zO CP;rw[Cv p ⟨⟨by simp only;omega,λw hw=>by unfold bI;rw[(hva w hw).1];omega⟩,trivial⟩,aB,hA];simp only[dO,aN];rw[Cv p ⟨⟨by simp only;omega,λw hw=>by unfold bI;rw[(hvb w hw).1];omega⟩,trivial⟩,aB,hB];simp only[dO,aN,decide_true,List.nil_append];rw[aS (by simp;omega),aI,aS (by omega),aI,VB hp (by omega) (by simp;omega) (hva.append hvb),aB,aB];simp only[aI];congr 1;unfold Xu Qj;by_cases h:(iE p n2 (a++b)).length=b.length
 .rw[aS h,aS (by omega)]
 .rw[bZ h,bZ (by omega)]
def sG(s:List Sc)(v:Nat):Sc:=s[v]?.getD ⟨0,[]⟩
def spB(r:Rp)(s:List Sc)(v:Nat):Bool:=uP r.p (sG s v).size (sG s v).basis &&decide ((sG s v).size=r.dims[v]?.getD 0)
def imB(r:Rp)(s:List Sc)(i:Nat):Bool:=Xu r.p (dN r (tV r i)) (iE r.p (dN r (tV r i)) (imL r.p (dN r (tV r i)) (dN r (sV r i)) (aF r i) (sG s (sV r i)).basis)) (sG s (tV r i)).basis
def Jo(r:Rp)(s:List Sc):Bool:=vX r&&(decide ((s.length:Int)=(r.dims.length:Int))&&((List.range s.length).all (spB r s)&&(List.range r.maps.length).all (imB r s)))
structure SpV(r:Rp)(s:List Sc)(v:Nat):Prop where
 size:(sG s v).size=(dN r v:Int)
 ok:uP r.p (dN r v) (sG s v).basis=true
 len:(sG s v).basis.length <=dN r v
 vecs:VecsP r.p (dN r v) (sG s v).basis
 span:iE r.p (dN r v) (sG s v).basis=(sG s v).basis
theorem Wh{r:Rp}(R:Rv r){s:List Sc}{v:Nat}(hv:v<r.dims.length)(h:spB r s v=true):SpV r s v:=by
 unfold spB at h;simp only[cF,gG]at h;obtain⟨h1,h2⟩:=h;rw[(R.d v hv).1]at h2;rw[h2]at h1;obtain⟨_,n,e,_,h3,h4,h5⟩:=EI h1;have e:dN r v=n:=by omega
 subst e;exact⟨h2,h1,h3,h4,h5⟩
theorem tL{r:Rp}{s:List Sc}(h:Jo r s=true):Rv r/\s.length=r.dims.length/\(∀v,v<r.dims.length->SpV r s v):=by
 unfold Jo at h;simp only[cF,gG]at h;obtain⟨h1,h2,h3,_⟩:=h;have R:=QD h1;refine⟨R,by omega,λv hv=>Wh R hv ?_⟩;exact List.all_eq_true.1 h3 v (List.mem_range.2 (by omega))
theorem SH{r:Rp}(hr:bR r){s:List Sc}(hs:s.length<=1048576/\∀x∈s,bS x):xQ r s=some (Jo r s):=by
 unfold xQ Jo;rw[Ga hr,aB];refine tU λhR=>?_;have R:=QD hR;refine tU λhL=>?_;have hL:=of_decide_eq_true hL;have hL:s.length=r.dims.length:=by omega
 rw[xZ (spB r s) false (n:=s.length) (by omega) (λk hk=>?_) (λ_=>?_),aB]
 .cases hA:(List.range s.length).all (spB r s)with
  |false=>rfl
  |true=>
   have hV:∀v,v<r.dims.length->SpV r s v:=λv hv=>Wh R hv (List.all_eq_true.1 hA v (List.mem_range.2 (by omega)));simp only[aI,Sum.elim_inl,Bool.true_and];rw[xZ (imB r s) false (n:=r.maps.length) (by have:=R.e6;have:=R.ml;omega) (λi hi=>?_) (λ_=>?_),aB]
   .cases (List.range r.maps.length).all (imB r s)<;>rfl
   .have hi':i<r.q.src.length:=by have:=R.ml;omega
    have S1:=hV _ (R.s i hi').2;have S2:=hV _ (R.t i hi').2;have d1:=(R.d _ (R.s i hi').2).2;have d2:=(R.d _ (R.t i hi').2).2;have hM:=R.m i hi';unfold Df;rw[iD hi,aI,gY ⟨0,0,[]⟩ hi,aB,gY 0 hi',aB,(R.s i hi').1,gY ⟨0,[]⟩ (by have:=(R.s i hi').2;omega),aB,hM.1];have e1:=ZB R.hp (r:=dN r (tV r i)) (c:=dN r (sV r i)) (by omega) (by omega) hM.2 (z:=(sG s (sV r i)).size) (by have:=S1.len;omega) S1.vecs;rw[show(s[sV r i]?.getD ⟨0,[]⟩:Sc)=⟨(sG s (sV r i)).size,(sG s (sV r i)).basis⟩ from rfl,e1,aB,gY 0 (by have:=R.tl;omega),aB,(R.t i hi').1,gY ⟨0,[]⟩ (by have:=(R.t i hi').2;omega),aB];have hv1:=Iz R.hp (MK R.hp (dN r (tV r i)) (dN r (sV r i)) (aF r i) (sG s (sV r i)).basis).inP;rw[show(s[tV r i]?.getD ⟨0,[]⟩:Sc)=⟨(sG s (tV r i)).size,(sG s (tV r i)).basis⟩ from rfl,Wg R.hp (by omega) hv1 (by have:=(@IG r.p (dN r (tV r i)) (imL r.p (dN r (tV r i)) (dN r (sV r i)) (aF r i) (sG s (sV r i)).basis)).1;omega) S2.vecs S2.span,aB];show _=some (bif imB r s i then _ else _);unfold imB;cases Xu r.p _ _ _<;>rfl
   .unfold Df;rw[iZ (bA _),aN]
 .unfold De;rw[iD hk,aI,gY ⟨0,[]⟩ hk,aB,Qy _ (hs.2 _ (cU _ hk)),aB,gY 0 (by omega),aB];unfold spB sG;cases uP r.p _ _<;>cases decide ((s[k]?.getD ⟨0,[]⟩).size=r.dims[k]?.getD 0)<;>rfl
 .unfold De;rw[iZ (bA _),aN]
theorem VQ{p:Int}(hp:mA p=true){r c:Nat}(hr:r<=8)(hc:c<=8){F:Nat->Nat->Int}(hF:Bx p r c F):DZ p ⟨r,c,bN r c F⟩=true:=by
 have hb:=eY hp;have h:=Nat.mul_le_mul hr hc;unfold DZ;simp only[dU];rw[xY (by omega) (by omega),xY (by omega) (by omega),Ma (by omega),aS (by omega),hp,aS (by omega)];simp only[Bool.true_and,List.all_eq_true];intro x hx;obtain⟨t,ht,rfl⟩:=List.mem_map.1 hx;have ht:=List.mem_range.1 ht
 have hc0:0<c:=by
  rcases Nat.eq_zero_or_pos c with h0|h0
  .subst h0;simp at ht
  .exact h0
 have:=hF (t/c) (t%c) ((Nat.div_lt_iff_lt_mul hc0).2 ht) (Nat.mod_lt _ hc0);refine xY this.1 ?_;rw[cC (by omega)];omega
theorem NF{r:Rp}(hr:bR r){s:List Sc}(hs:s.length<=1048576/\∀x∈s,bS x):xR r s=some (Jo r s):=by
 unfold xR Jo;rw[Ea hr,aB];refine tU λhR=>?_;have R:=QD hR;refine tU λhL=>?_;have hL:=of_decide_eq_true hL;have hL:s.length=r.dims.length:=by omega
 rw[xZ (spB r s) false (n:=s.length) (by omega) (λk hk=>?_) (λ_=>?_),aB]
 .cases hA:(List.range s.length).all (spB r s)with
  |false=>rfl
  |true=>
   have hV:∀v,v<r.dims.length->SpV r s v:=λv hv=>Wh R hv (List.all_eq_true.1 hA v (List.mem_range.2 (by omega)));simp only[aI,Sum.elim_inl,Bool.true_and];rw[xZ (imB r s) false (n:=r.maps.length) (by have:=R.e6;have:=R.ml;omega) (λi hi=>?_) (λ_=>?_),aB]
   .cases (List.range r.maps.length).all (imB r s)<;>rfl
   .have hi':i<r.q.src.length:=by have:=R.ml;omega
    have S1:=hV _ (R.s i hi').2;have S2:=hV _ (R.t i hi').2;have d1:=(R.d _ (R.s i hi').2).2;have d2:=(R.d _ (R.t i hi').2).2;have hM:=R.m i hi';unfold Di;rw[iD hi,aI,gY ⟨0,0,[]⟩ hi,aB,gY 0 hi',aB,(R.s i hi').1,gY ⟨0,[]⟩ (by have:=(R.s i hi').2;omega),aB,hM.1];have e1:=VP R.hp (r:=dN r (tV r i)) (c:=dN r (sV r i)) (by omega) (by omega) (VQ R.hp (by omega) (by omega) hM.2) hM.2 S1.ok S1.vecs (by have:=S1.len;omega);have e2:(s[sV r i]?.getD ⟨0,[]⟩:Sc)=⟨(dN r (sV r i):Int),(sG s (sV r i)).basis⟩:=by rw[←S1.size];rfl
    rw[e2,e1,aB,gY 0 (by have:=R.tl;omega),aB,(R.t i hi').1,gY ⟨0,[]⟩ (by have:=(R.t i hi').2;omega),aB];have e3:(s[tV r i]?.getD ⟨0,[]⟩:Sc)=⟨(dN r (tV r i):Int),(sG s (tV r i)).basis⟩:=by rw[←S2.size];rfl
    rw[e3,TY R.hp (by omega) (WO R.hp (by omega) (MK R.hp _ _ _ _)) S2.ok,aB];show _=some (bif imB r s i then _ else _);unfold imB;cases Xu r.p _ _ _<;>rfl
   .unfold Di;rw[iZ (bA _),aN]
 .unfold Dh;rw[iD hk,aI,gY ⟨0,[]⟩ hk,aB,Cv _ (hs.2 _ (cU _ hk)),aB,aB,gY 0 (by omega),aB];unfold spB sG;cases uP r.p _ _<;>cases decide ((s[k]?.getD ⟨0,[]⟩).size=r.dims[k]?.getD 0)<;>rfl
 .unfold Dh;rw[iZ (bA _),aN]
def jX(s:List Sc):aA:=s.map λx=>(x.basis.length:Int)
theorem SI{s:List Sc}(hs:s.length<=1048576):wS s=some (jX s):=by
 unfold wS;rw[cB (r:=jX s) (λk=>((s.take k).map (λx=>(x.basis.length:Int)),(k:Int))) s.length (by simp) (λk hk=>?_) (λ_=>?_),aB]
 .unfold BL;simp only;rw[iD hk,aI,gY ⟨0,[]⟩ hk,aB,aS (by rw[dM,List.length_take];simp;omega),aI,bJ hk (by omega),JT (λx:Sc=>(x.basis.length:Int)) _ hk]
 .unfold BL;simp only;rw[iZ (bA _),aN,List.take_length];rfl
end
noncomputable section
def Bi(a0:Int)(a1:Int):Option Int:=
 Option.bind (CD 100 (pM a0 a1) 1) λy7=>
 Sum.elim (λy8=>
  some (0)
 )
 (λy9=>
  some y9
 )
  y7
theorem LA(a0:Int)(a1:Int):Le (Bi a0 a1) (mG a0 a1):=by
 unfold Bi mG
 repeat (with_reducible first|exact Le.rfl|refine Le.bind ?_ λ_=>?_|refine Le.lp λ_=>?_|refine Le.elim (λ_=>?_) λ_=>?_)
def Dm(a0:Int)(a1:aA):Option Bool:=
 Option.bind (fN a0) λv1=>
 bif !v1 then
  (some (false))
 else
  (bif decide (64<(a1.length:Int))then
   (some (false))
  else
   (Option.bind (CD 100 (sB a0 a1) 0) λy8=>
   Sum.elim (λy9=>
    some (true)
   )
   (λy10=>
    some y10
   )
    y8))
theorem NG(a0:Int)(a1:aA):Le (Dm a0 a1) (kE a0 a1):=by
 unfold Dm kE
 repeat (with_reducible first|exact Le.rfl|refine Le.bind ?_ λ_=>?_|refine Le.cond ?_ ?_|refine Le.lp λ_=>?_|refine Le.elim (λ_=>?_) λ_=>?_)
def AW(a0:Int)(v1:Mt)(x1:(Int×aA×aA×Int))(x5:(aA×Int)):Option ((aA×Int) ⊕ aA):=
 bif decide (x5.2<v1.rows)then
  (Option.bind (bP x5.1 (wr ((wr (x5.2*v1.cols))+x1.1))) λv23=>
  Option.bind (CD 100 (oA a0 v1 v23 x1 x5) (x5.1,0)) λy30=>
  some (.inl (y30,wr (x5.2+1))))
 else
  (some (.inr x5.1))
theorem Jp(a0:Int)(v1:Mt)(x1:(Int×aA×aA×Int))(x5:(aA×Int)):Le (AW a0 v1 x1 x5) (oC a0 v1 x1 x5):=by
 unfold AW oC
 repeat (with_reducible first|exact Le.rfl|refine Le.bind ?_ λ_=>?_|refine Le.cond ?_ ?_|refine Le.lp λ_=>?_)
def AX(a0:Int)(v1:Mt)(x1:(Int×aA×aA×Int)):Option ((Int×aA×aA×Int) ⊕ (aA×aA)):=
 bif decide (x1.1<v1.cols)then
  (bif decide (x1.2.2.2<v1.rows)then
   (Option.bind (CD 100 (nZ v1 x1) ((-1),wr (v1.rows-1))) λy7=>
   bif decide (y7<0)then
    (some (.inl (wr (x1.1+1),x1.2.1,x1.2.2.1,x1.2.2.2)))
   else
    (Option.bind (CD 100 (sC v1 x1 y7) (x1.2.1,0)) λy14=>
    Option.bind (bP y14 (wr ((wr (x1.2.2.2*v1.cols))+x1.1))) λv15=>
    Option.bind (Bi a0 v15) λv16=>
    Option.bind (CD 100 (sD a0 v1 v16 x1) (y14,0)) λy21=>
    Option.bind (CD 100 (AW a0 v1 x1) (y21,0)) λy31=>
    bif decide (x1.2.2.1.length+[x1.1].length <=4294967296)then
     (some (.inl (wr (x1.1+1),y31,(x1.2.2.1++[x1.1]),wr (x1.2.2.2+1))))
    else none))
  else
   (some (.inr (x1.2.1,x1.2.2.1))))
 else
  (some (.inr (x1.2.1,x1.2.2.1)))
theorem Jq(a0:Int)(v1:Mt)(x1:(Int×aA×aA×Int)):Le (AX a0 v1 x1) (gV a0 v1 x1):=by
 unfold AX gV
 repeat (with_reducible first|exact Le.rfl|refine LA _ _|refine Jp _ _ _ _|refine Le.bind ?_ λ_=>?_|refine Le.cond ?_ ?_|refine Le.lp λ_=>?_)
def Dn(a0:Int)(a1:Mt):Option (Mt×aA):=
 Option.bind (Co a1) λv1=>
 Option.bind (CD 100 (AX a0 v1) (0,v1.cells,([]:aA),0)) λy33=>
 some (((⟨v1.rows,v1.cols,y33.1⟩:Mt),y33.2))
theorem NH(a0:Int)(a1:Mt):Le (Dn a0 a1) (kG a0 a1):=by
 unfold Dn kG
 repeat (with_reducible first|exact Le.rfl|refine Jq _ _ _|refine Le.bind ?_ λ_=>?_|refine Le.lp λ_=>?_)
def rP(a0:aA)(a1:Int):Option Int:=
 Option.bind (CD 100 (jP a0 a1) 0) λy4=>
 Sum.elim (λy5=>
  some ((-1))
 )
 (λy6=>
  some y6
 )
  y4
theorem GC(a0:aA)(a1:Int):Le (rP a0 a1) (iU a0 a1):=by
 unfold rP iU
 repeat (with_reducible first|exact Le.rfl|refine Le.bind ?_ λ_=>?_|refine Le.lp λ_=>?_|refine Le.elim (λ_=>?_) λ_=>?_)
def oL(a0:aA)(a1:Int):Option Bool:=
 Option.bind (rP a0 a1) λv1=>
 some (decide (0<=v1))
theorem EV(a0:aA)(a1:Int):Le (oL a0 a1) (fP a0 a1):=by
 unfold oL fP
 repeat (with_reducible first|exact Le.rfl|refine GC _ _|refine Le.bind ?_ λ_=>?_)
def vH(a0:Int)(a1:aA)(x1:(aA×Int)):Option ((aA×Int) ⊕ aA):=
 bif decide (x1.2<a0)then
  (Option.bind (oL a1 x1.2) λv2=>
  bif !v2 then
   (bif decide (x1.1.length+[x1.2].length <=4294967296)then
    (some (.inl ((x1.1++[x1.2]),wr (x1.2+1))))
   else none)
  else
   (some (.inl (x1.1,wr (x1.2+1)))))
 else
  (some (.inr x1.1))
theorem HP(a0:Int)(a1:aA)(x1:(aA×Int)):Le (vH a0 a1 x1) (kQ a0 a1 x1):=by
 unfold vH kQ
 repeat (with_reducible first|exact Le.rfl|refine EV _ _|refine Le.bind ?_ λ_=>?_|refine Le.cond ?_ ?_)
def kZ(a0:Int)(a1:aA):Option aA:=
 Option.bind (CD 100 (vH a0 a1) ([],0)) λy5=>
 some (y5)
theorem yI(a0:Int)(a1:aA):Le (kZ a0 a1) (fG a0 a1):=by
 unfold kZ fG
 repeat (with_reducible first|exact Le.rfl|refine HP _ _ _|refine Le.bind ?_ λ_=>?_|refine Le.lp λ_=>?_)
def GD(a0:Int)(a1:aZ):Option Mt:=
 Option.bind (CD 100 (xO a1) ([],0)) λy4=>
 some ((⟨(a1.length:Int),a0,y4⟩:Mt))
theorem QL(a0:Int)(a1:aZ):Le (GD a0 a1) (nJ a0 a1):=by
 unfold GD nJ
 repeat (with_reducible first|exact Le.rfl|refine Le.bind ?_ λ_=>?_|refine Le.lp λ_=>?_)
def FP(a0:Int)(a1:Mt):Option aZ:=
 Option.bind (Dn a0 a1) λv1=>
 Option.bind (CD 100 (vO v1) (([]:aZ),0)) λy6=>
 some (y6)
theorem OQ(a0:Int)(a1:Mt):Le (FP a0 a1) (oG a0 a1):=by
 unfold FP oG
 repeat (with_reducible first|exact Le.rfl|refine NH _ _|refine Le.bind ?_ λ_=>?_|refine Le.lp λ_=>?_)
def Cf(a0:Int)(a1:Int)(a2:aZ)(x1:Int):Option (Int ⊕ (Unit ⊕ Bool)):=
 bif decide (x1<(a2.length:Int))then
  (Option.bind (bP a2 x1) λv2=>
  bif !decide ((v2.length:Int)=a1)then
   (some (.inr (.inr (false))))
  else
   (Option.bind (bP a2 x1) λv4=>
   Option.bind (Dm a0 v4) λv5=>
   bif !v5 then
    (some (.inr (.inr (false))))
   else
    (some (.inl (wr (x1+1))))))
 else
  (some (.inr (.inl ())))
theorem ML(a0:Int)(a1:Int)(a2:aZ)(x1:Int):Le (Cf a0 a1 a2 x1) (rH a0 a1 a2 x1):=by
 unfold Cf rH
 repeat (with_reducible first|exact Le.rfl|refine NG _ _|refine Le.bind ?_ λ_=>?_|refine Le.cond ?_ ?_)
def GE(a0:Int)(a1:Int)(a2:aZ):Option Bool:=
 Option.bind (CD 100 (Cf a0 a1 a2) 0) λy7=>
 Sum.elim (λy8=>
  Option.bind (fN a0) λv9=>
  bif v9 then
   (Option.bind (fA a1 0 8) λv11=>
   bif v11 then
    (some (decide ((a2.length:Int)<=16)))
   else
    (some (false)))
  else
   (some (false))
 )
 (λy13=>
  some y13
 )
  y7
theorem QM(a0:Int)(a1:Int)(a2:aZ):Le (GE a0 a1 a2) (uK a0 a1 a2):=by
 unfold GE uK
 repeat (with_reducible first|exact Le.rfl|refine ML _ _ _ _|refine Le.bind ?_ λ_=>?_|refine Le.cond ?_ ?_|refine Le.lp λ_=>?_|refine Le.elim (λ_=>?_) λ_=>?_)
def Cg(a0:aZ)(a1:aZ)(x1:Int):Option (Int ⊕ (Unit ⊕ Bool)):=
 bif decide (x1<(a0.length:Int))then
  (Option.bind (bP a0 x1) λv3=>
  Option.bind (bP a1 x1) λv4=>
  bif !decide ((v3.length:Int)=(v4.length:Int))then
   (some (.inr (.inr (false))))
  else
   (Option.bind (CD 100 (nO a0 a1 x1) 0) λy13=>
   Sum.elim (λy14=>
    some (.inl (wr (x1+1)))
   )
   (λy15=>
    some (.inr (.inr y15))
   )
    y13))
 else
  (some (.inr (.inl ())))
theorem MM(a0:aZ)(a1:aZ)(x1:Int):Le (Cg a0 a1 x1) (rI a0 a1 x1):=by
 unfold Cg rI
 repeat (with_reducible first|exact Le.rfl|refine Le.bind ?_ λ_=>?_|refine Le.cond ?_ ?_|refine Le.lp λ_=>?_|refine Le.elim (λ_=>?_) λ_=>?_)
def GF(a0:aZ)(a1:aZ):Option Bool:=
 bif !decide ((a0.length:Int)=(a1.length:Int))then
  (some (false))
 else
  (Option.bind (CD 100 (Cg a0 a1) 0) λy16=>
  Sum.elim (λy17=>
   some (true)
  )
  (λy18=>
   some y18
  )
   y16)
theorem QN(a0:aZ)(a1:aZ):Le (GF a0 a1) (qF a0 a1):=by
 unfold GF qF
 repeat (with_reducible first|exact Le.rfl|refine MM _ _ _|refine Le.bind ?_ λ_=>?_|refine Le.cond ?_ ?_|refine Le.lp λ_=>?_|refine Le.elim (λ_=>?_) λ_=>?_)
def FQ(a0:Int)(a1:Sc):Option Bool:=
 Option.bind (GE a0 a1.size a1.basis) λv1=>
 bif !v1 then
  (some (false))
 else
  (Option.bind (GD a1.size a1.basis) λv3=>
  Option.bind (FP a0 v3) λv4=>
  Option.bind (GF v4 a1.basis) λv5=>
  some (v5))
theorem OR(a0:Int)(a1:Sc):Le (FQ a0 a1) (iL a0 a1):=by
 unfold FQ iL
 repeat (with_reducible first|exact Le.rfl|refine QM _ _ _|refine QL _ _|refine OQ _ _|refine QN _ _|refine Le.bind ?_ λ_=>?_|refine Le.cond ?_ ?_)
def pD(a0:aA)(a1:aA):Option Int:=
 Option.bind (CD 100 (tX a0 a1) 0) λy7=>
 Sum.elim (λy8=>
  bif decide ((a0.length:Int)<(a1.length:Int))then
   (some ((-1)))
  else
   (some (0))
 )
 (λy10=>
  some y10
 )
  y7
theorem FR(a0:aA)(a1:aA):Le (pD a0 a1) (kL a0 a1):=by
 unfold pD kL
 repeat (with_reducible first|exact Le.rfl|refine Le.bind ?_ λ_=>?_|refine Le.cond ?_ ?_|refine Le.lp λ_=>?_|refine Le.elim (λ_=>?_) λ_=>?_)
def yJ(a0:aA)(a1:aA):Option Int:=
 Option.bind (pD a0 a1) λv1=>
 some (v1)
theorem Ik(a0:aA)(a1:aA):Le (yJ a0 a1) (mT a0 a1):=by
 unfold yJ mT
 repeat (with_reducible first|exact Le.rfl|refine FR _ _|refine Le.bind ?_ λ_=>?_)
def fM(a0:aZ)(a1:aZ)(a2:(aA->aA->Option Int))(x1:Int):Option (Int ⊕ (Unit ⊕ Int)):=
 bif decide (x1<(a0.length:Int))then
  (Option.bind (bP a0 x1) λv2=>
  bif decide ((a1.length:Int)<=x1)then
   (some (.inr (.inr (1))))
  else
   (Option.bind (bP a1 x1) λv4=>
   Option.bind (a2 v2 v4) λv5=>
   bif !decide (v5=0)then
    (some (.inr (.inr (v5))))
   else
    (some (.inl (wr (x1+1))))))
 else
  (some (.inr (.inl ())))
theorem qI{a2 a2':(aA->aA->Option Int)}(ha2:∀z0 z1,Le (a2 z0 z1) (a2' z0 z1))(a0:aZ)(a1:aZ)(x1:Int):Le (fM a0 a1 a2 x1) (fL a0 a1 a2' x1):=by
 unfold fM fL
 repeat (with_reducible first|exact Le.rfl|exact ha2 _ _|refine Le.bind ?_ λ_=>?_|refine Le.cond ?_ ?_)
def gB(a0:aZ)(a1:aZ)(a2:(aA->aA->Option Int)):Option Int:=
 Option.bind (CD 100 (fM a0 a1 a2) 0) λy7=>
 Sum.elim (λy8=>
  bif decide ((a0.length:Int)<(a1.length:Int))then
   (some ((-1)))
  else
   (some (0))
 )
 (λy10=>
  some y10
 )
  y7
theorem rT{a2 a2':(aA->aA->Option Int)}(ha2:∀z0 z1,Le (a2 z0 z1) (a2' z0 z1))(a0:aZ)(a1:aZ):Le (gB a0 a1 a2) (dW a0 a1 a2'):=by
 unfold gB dW
 repeat (with_reducible first|exact Le.rfl|exact ha2 _ _|refine qI (λ_ _=>?_) _ _ _|refine Le.bind ?_ λ_=>?_|refine Le.cond ?_ ?_|refine Le.lp λ_=>?_|refine Le.elim (λ_=>?_) λ_=>?_)
def Bj(a0:Sc)(a1:Sc):Option Int:=
 Option.bind (gB a0.basis a1.basis (λb0 b1=>yJ b0 b1)) λv1=>
 some (v1)
theorem LB(a0:Sc)(a1:Sc):Le (Bj a0 a1) (vQ a0 a1):=by
 unfold Bj vQ
 repeat (with_reducible first|exact Le.rfl|refine rT (λ_ _=>?_) _ _|refine Ik _ _|refine Le.bind ?_ λ_=>?_)
def fU(a1:Int)(x2:((List Sc)×Int)):Option (((List Sc)×Int) ⊕ (List Sc)):=
 bif decide (a1<x2.2)then
  (Option.bind (bP x2.1 x2.2) λv3=>
  Option.bind (bP x2.1 (wr (x2.2-1))) λv4=>
  Option.bind (Bj v3 v4) λv5=>
  bif decide (v5<0)then
   (Option.bind (bP x2.1 (wr (x2.2-1))) λv7=>
   Option.bind (bP x2.1 x2.2) λv8=>
   Option.bind (bP x2.1 x2.2) λv9=>
   Option.bind (bP (x2.1.set x2.2.toNat v7) (wr (x2.2-1))) λv10=>
   some (.inl (((x2.1.set x2.2.toNat v7).set ((wr (x2.2-1)).toNat) v8),wr (x2.2-1))))
  else
   (some (.inr x2.1)))
 else
  (some (.inr x2.1))
theorem rQ(a1:Int)(x2:((List Sc)×Int)):Le (fU a1 x2) (fT a1 x2):=by
 unfold fU fT
 repeat (with_reducible first|exact Le.rfl|refine LB _ _|refine Le.bind ?_ λ_=>?_|refine Le.cond ?_ ?_)
def fV(a1:Int)(a2:Int)(x1:((List Sc)×Int)):Option (((List Sc)×Int) ⊕ (List Sc)):=
 bif decide (x1.2<a2)then
  (Option.bind (CD 100 (fU a1) (x1.1,x1.2)) λy11=>
  some (.inl (y11,wr (x1.2+1))))
 else
  (some (.inr x1.1))
theorem rR(a1:Int)(a2:Int)(x1:((List Sc)×Int)):Le (fV a1 a2 x1) (dT a1 a2 x1):=by
 unfold fV dT
 repeat (with_reducible first|exact Le.rfl|refine rQ _ _|refine Le.bind ?_ λ_=>?_|refine Le.cond ?_ ?_|refine Le.lp λ_=>?_)
def gK(a0:(List Sc))(a1:Int)(a2:Int):Option (List Sc):=
 Option.bind (CD 100 (fV a1 a2) (a0,wr (a1+1))) λy12=>
 some y12
theorem uB(a0:(List Sc))(a1:Int)(a2:Int):Le (gK a0 a1 a2) (eH a0 a1 a2):=by
 unfold gK eH
 repeat (with_reducible first|exact Le.rfl|refine rR _ _ _|refine Le.bind ?_ λ_=>?_|refine Le.lp λ_=>?_)
def iC(a0:(List Sc))(a1:Int)(a2:Int)(a3:Int)(x1:Unit):Option (Unit ⊕ (List Sc)):=
 bif decide (wr (a2-a1)<=12)then
  (Option.bind (gK a0 a1 a2) λv2=>
  bif decide (v2.length=a0.length)then
   (some (.inr v2))
  else none)
 else
  (bif decide (a3=0)then
   (none)
  else
   (none))
theorem wZ(a0:(List Sc))(a1:Int)(a2:Int)(a3:Int)(x1:Unit):Le (iC a0 a1 a2 a3 x1) (fJ a0 a1 a2 a3 x1):=by
 unfold iC fJ
 repeat (with_reducible first|exact Le.rfl|refine uB _ _ _|refine Le.bind ?_ λ_=>?_|refine Le.cond ?_ ?_)
def iP(a0:(List Sc))(a1:Int)(a2:Int)(a3:Int):Option (List Sc):=
 Option.bind (CD 100 (iC a0 a1 a2 a3) ()) λy5=>
 some y5
theorem zA(a0:(List Sc))(a1:Int)(a2:Int)(a3:Int):Le (iP a0 a1 a2 a3) (gA a0 a1 a2 a3):=by
 unfold iP gA
 repeat (with_reducible first|exact Le.rfl|refine wZ _ _ _ _ _|refine Le.bind ?_ λ_=>?_|refine Le.lp λ_=>?_)
def gL(a0:(List Sc)):Option (List Sc):=
 Option.bind (Dc (IntKind.u64.wrap ((a0.length:Nat):Int))) λv1=>
 Option.bind (iP a0 0 ((a0.length:Nat):Int) v1) λv2=>
 bif decide (v2.length=a0.length)then
  (some v2)
 else none
theorem uC(a0:(List Sc)):Le (gL a0) (eJ a0):=by
 unfold gL eJ
 repeat (with_reducible first|exact Le.rfl|refine zA _ _ _ _|refine Le.bind ?_ λ_=>?_|refine Le.cond ?_ ?_)
def tM(a0:Mt):Option aZ:=
 Option.bind (CD 100 (CB a0) ([],0)) λy5=>
 some (y5)
theorem EC(a0:Mt):Le (tM a0) (oH a0):=by
 unfold tM oH
 repeat (with_reducible first|exact Le.rfl|refine Le.bind ?_ λ_=>?_|refine Le.lp λ_=>?_)
def AY(a1:Int)(y6:aA)(x3:((List Pr)×Int)):Option (((List Pr)×Int) ⊕ (List Pr)):=
 bif decide (x3.2<((y6.length:Nat):Int))then
  (Option.bind (bP y6 x3.2) λv9=>
  Option.bind (kZ a1 y6) λv10=>
  Option.bind (CD 100 (FA v9 v10 x3) (x3.1,0)) λy15=>
  some (.inl (y15,wr (x3.2+1))))
 else
  (some (.inr x3.1))
theorem Jr(a1:Int)(y6:aA)(x3:((List Pr)×Int)):Le (AY a1 y6 x3) (AI a1 y6 x3):=by
 unfold AY AI
 repeat (with_reducible first|exact Le.rfl|refine yI _ _|refine Le.bind ?_ λ_=>?_|refine Le.cond ?_ ?_|refine Le.lp λ_=>?_)
def AZ(a1:Int)(a2:Int)(y6:aA)(y16:(List Pr))(v18:aA)(x5:(List Sc)):Option ((List Sc) ⊕ Unit):=
 Option.bind (iT a2 a1) λv19=>
 Option.bind (CD 100 (FB v19 y6) (v19.cells,0)) λy25=>
 Option.bind (CD 100 (FC v18 v19 y16) (y25,0)) λy32=>
 Option.bind (tM (⟨v19.rows,v19.cols,y32⟩:Mt)) λv33=>
 bif decide (x5.length+1<=4294967296)then
  (some (.inl (x5++[(⟨a1,v33⟩:Sc)])))
 else none
theorem Js(a1:Int)(a2:Int)(y6:aA)(y16:(List Pr))(v18:aA)(x5:(List Sc)):Le (AZ a1 a2 y6 y16 v18 x5) (sW a1 a2 y6 y16 v18 x5):=by
 unfold AZ sW
 repeat (with_reducible first|exact Le.rfl|refine EC _|refine Le.bind ?_ λ_=>?_|refine Le.cond ?_ ?_|refine Le.lp λ_=>?_)
def Aa(a0:Int)(a1:Int)(a2:Int)(x1:(Int×(List Sc))):Option ((Int×(List Sc)) ⊕ (List Sc)):=
 bif decide (x1.1<Hs 1 a1)then
  (Option.bind (CD 100 (Ez a1 x1) ([],0)) λy6=>
  bif !decide (((y6.length:Nat):Int)=a2)then
   (some (.inl (wr (x1.1+1),x1.2)))
  else
   (Option.bind (CD 100 (AY a1 y6) ([],0)) λy16=>
   bif(decide (0<=((y16.length:Nat):Int))&&decide (((y16.length:Nat):Int)<=1048576))then
    (bif Jy (List.replicate ((y16.length:Nat):Int).toNat (wr (a0-1)))then
     (Option.bind (Fl (AZ a1 a2 y6 y16) (dG (List.replicate ((y16.length:Nat):Int).toNat (wr (a0-1)))) x1.2) λy35=>
      Sum.elim (λy35=>
       some (.inl (wr (x1.1+1),y35))
      ) (λ_=>none) y35)
    else none)
   else none))
 else
  (some (.inr x1.2))
theorem Jt(a0:Int)(a1:Int)(a2:Int)(x1:(Int×(List Sc))):Le (Aa a0 a1 a2 x1) (AJ a0 a1 a2 x1):=by
 unfold Aa AJ
 repeat (with_reducible first|exact Le.rfl|refine Jr _ _ _|refine Js _ _ _ _ _ _|refine Le.bind ?_ λ_=>?_|refine Le.cond ?_ ?_|refine Le.lp λ_=>?_|refine Le.fl (λ_ _=>?_) _ _|refine Le.elim (λ_=>?_) λ_=>?_)
def zV(a0:Int)(a1:Int)(a2:Int):Option (List Sc):=
 bif !decide (a1<0)then
  (Option.bind (CD 100 (Aa a0 a1 a2) (0,[])) λy37=>
  Option.bind (gL y37) λv38=>
  bif decide (v38.length=y37.length)then
   (some v38)
  else none)
 else none
theorem NI(a0:Int)(a1:Int)(a2:Int):Le (zV a0 a1 a2) (pE a0 a1 a2):=by
 unfold zV pE
 repeat (with_reducible first|exact Le.rfl|refine Jt _ _ _ _|refine uC _|refine Le.bind ?_ λ_=>?_|refine Le.cond ?_ ?_|refine Le.lp λ_=>?_)
def Bk(a0:Int)(a1:Int):Option Int:=
 Option.bind (CD 100 (BK a0 a1) (1,0)) λy2=>
 some (y2)
theorem OS(a0:Int)(a1:Int):Le (Bk a0 a1) (lQ a0 a1):=by
 unfold Bk lQ
 repeat (with_reducible first|exact Le.rfl|refine Le.bind ?_ λ_=>?_|refine Le.lp λ_=>?_)
def vI(a0:Int)(a1:Int)(a2:Int)(x1:(Int×Int×Int)):Option ((Int×Int×Int) ⊕ (Int×Int)):=
 bif decide (x1.2.2<a2)then
  (Option.bind (Bk a0 (wr (a1-x1.2.2))) λv8=>
  Option.bind (Bk a0 (wr (x1.2.2+1))) λv9=>
  some (.inl (wr (x1.1*(wr (v8-1))),wr (x1.2.1*(wr (v9-1))),wr (x1.2.2+1))))
 else
  (some (.inr (x1.1,x1.2.1)))
theorem HQ(a0:Int)(a1:Int)(a2:Int)(x1:(Int×Int×Int)):Le (vI a0 a1 a2 x1) (uY a0 a1 a2 x1):=by
 unfold vI uY
 repeat (with_reducible first|exact Le.rfl|refine OS _ _|refine Le.bind ?_ λ_=>?_|refine Le.cond ?_ ?_)
def Ab(a0:Int)(a1:Int)(a2:Int):Option Int:=
 Option.bind (fN a0) λv1=>
 bif !v1 then
  (some ((-1)))
 else
  (Option.bind (fA a1 0 4) λv3=>
  bif !v3 then
   (some ((-1)))
  else
   (Option.bind (fA a2 0 a1) λv5=>
   bif !v5 then
    (some ((-1)))
   else
    (Option.bind (CD 100 (vI a0 a1 a2) (1,1,0)) λy10=>
    bif !decide (y10.2=0)then
     (some (wr (y10.1.tdiv y10.2)))
    else none)))
theorem Ju(a0:Int)(a1:Int)(a2:Int):Le (Ab a0 a1 a2) (oJ a0 a1 a2):=by
 unfold Ab oJ
 repeat (with_reducible first|exact Le.rfl|refine HQ _ _ _ _|refine Le.bind ?_ λ_=>?_|refine Le.cond ?_ ?_|refine Le.lp λ_=>?_)
def Dp(a0:Int)(a1:Int)(a2:Int):Option (aA×Bool):=
 Option.bind (fN a0) λv1=>
 bif !v1 then
  (some ((([]:aA),false)))
 else
  (Option.bind (fA a1 0 8) λv3=>
  bif !v3 then
   (some ((([]:aA),false)))
  else
   (bif decide (a2<0)then
    (some ((([]:aA),false)))
   else
    (bif(decide (0<=a1)&&decide (a1<=1048576))then
     (Option.bind (CD 100 (FH a0) (a2,(List.replicate a1.toNat (0:Int)),wr (a1-1))) λy10=>
     bif decide (0<y10.1)then
      (some ((([]:aA),false)))
     else
      (some ((y10.2,true))))
    else none)))
theorem NJ(a0:Int)(a1:Int)(a2:Int):Le (Dp a0 a1 a2) (zP a0 a1 a2):=by
 unfold Dp zP
 repeat (with_reducible first|exact Le.rfl|refine Le.bind ?_ λ_=>?_|refine Le.cond ?_ ?_|refine Le.lp λ_=>?_)
def Ch(a0:Int)(a1:Int)(v2:(List Sc))(v6:(aA×Bool))(x3:((List Sc)×Int)):Option (((List Sc)×Int) ⊕ (List Sc)):=
 bif decide (x3.2<((v2.length:Nat):Int))then
  (Option.bind (bP v2 x3.2) λv8=>
  bif decide ([v6.1].length +v8.basis.length<=4294967296)then
   (Option.bind (FQ a0 (⟨a1,([v6.1]++v8.basis)⟩:Sc)) λv10=>
   bif v10 then
    (bif decide (x3.1.length+1<=4294967296)then
     (some (.inl ((x3.1++[(⟨a1,([v6.1]++v8.basis)⟩:Sc)]),wr (x3.2+1))))
    else none)
   else
    (some (.inl (x3.1,wr (x3.2+1)))))
  else none)
 else
  (some (.inr x3.1))
theorem MN(a0:Int)(a1:Int)(v2:(List Sc))(v6:(aA×Bool))(x3:((List Sc)×Int)):Le (Ch a0 a1 v2 v6 x3) (CQ a0 a1 v2 v6 x3):=by
 unfold Ch CQ
 repeat (with_reducible first|exact Le.rfl|refine OR _ _|refine Le.bind ?_ λ_=>?_|refine Le.cond ?_ ?_)
def Ci(a0:Int)(a1:Int)(v2:(List Sc))(y4:Int)(x2:((List Sc)×Int)):Option (((List Sc)×Int) ⊕ (List Sc)):=
 bif decide (x2.2<y4)then
  (Option.bind (Dp a0 a1 x2.2) λv6=>
  Option.bind (CD 100 (Ch a0 a1 v2 v6) (x2.1,0)) λy13=>
  some (.inl (y13,wr (x2.2+1))))
 else
  (some (.inr x2.1))
theorem MO(a0:Int)(a1:Int)(v2:(List Sc))(y4:Int)(x2:((List Sc)×Int)):Le (Ci a0 a1 v2 y4 x2) (CR a0 a1 v2 y4 x2):=by
 unfold Ci CR
 repeat (with_reducible first|exact Le.rfl|refine NJ _ _ _|refine MN _ _ _ _ _|refine Le.bind ?_ λ_=>?_|refine Le.cond ?_ ?_|refine Le.lp λ_=>?_)
def Dq(self:Int->Int->Int->Option (List Sc))(a0:Int)(a1:Int)(a2:Int):Option (List Sc):=
 bif decide (a2=0)then
  (some [(⟨a1,([]:aZ)⟩:Sc)])
 else
  (Option.bind (self a0 a1 (wr (a2-1))) λv2=>
  Option.bind (CD 100 (Gc a0 a1) (1,0)) λy4=>
  Option.bind (CD 100 (Ci a0 a1 v2 y4) (([]:(List Sc)),0)) λy14=>
  some y14)
theorem NK{self self':Int->Int->Int->Option (List Sc)}(hself:∀z0 z1 z2,Le (self z0 z1 z2) (self' z0 z1 z2))(a0:Int)(a1:Int)(a2:Int):Le (Dq self a0 a1 a2) (zQ self' a0 a1 a2):=by
 unfold Dq zQ
 repeat (with_reducible first|exact Le.rfl|exact hself _ _ _|refine MO _ _ _ _ _|refine Le.bind ?_ λ_=>?_|refine Le.cond ?_ ?_|refine Le.lp λ_=>?_)
def GG:Nat->Int->Int->Int->Option (List Sc)
 |0,_,_,_=>none
 |n+1,a0,a1,a2=>Dq (GG n) a0 a1 a2
theorem Il:∀(n:Nat) a0 a1 a2,Le (GG n a0 a1 a2) (yU n a0 a1 a2)
 |0,a0,a1,a2=>Le.none
 |n+1,a0,a1,a2=>NK (λa0 a1 a2=>Il n a0 a1 a2) a0 a1 a2
def zW(a0:Int)(a1:Int)(a2:Int):Option ((List Sc)×Bool):=
 Option.bind (Ab a0 a1 a2) λv1=>
 bif decide (v1<0)then
  (some (([]:(List Sc)),false))
 else
  (bif decide (200<v1)then
   (some (([]:(List Sc)),false))
  else
   (Option.bind (GG 8 a0 a1 a2) λv4=>
   some (v4,true)))
theorem NL(a0:Int)(a1:Int)(a2:Int):Le (zW a0 a1 a2) (pG a0 a1 a2):=by
 unfold zW pG
 repeat (with_reducible first|exact Le.rfl|refine Ju _ _ _|refine Il _ _ _ _|refine Le.bind ?_ λ_=>?_|refine Le.cond ?_ ?_)
end
section
def mQ(r:Rp):Bool:=vX r&&(decide (r.p<=3)&&((r.dims.all λx=>zD x 0 2)&&decide (r.dims.sum<=5)))
theorem QO{r:Rp}(h:vX r=true):(∀x∈r.dims,0<=x/\x<=4)/\r.dims.length<=5:=by
 have R:=QD h;refine⟨λx hx=>?_,R.n5⟩;obtain⟨k,hk,rfl⟩:=List.mem_iff_getElem.1 hx;have:=R.d k hk;simp only[fK hk,fR]at this;omega
theorem NM{r:Rp}(hr:bR r):rK r=some (mQ r):=by
 unfold rK mQ;rw[Ga hr,aB];refine fZ λhR=>fZ λhp=>?_;obtain⟨h1,h2⟩:=QO hR;rw[DI (by unfold bI;omega),aB];refine fZ λhd=>?_;rw[Xm h1 (by omega),aB]
theorem VR{d:aA}(h:∀x∈d,0<=x/\x<=100)(hl:d.length<=1048576):∀k,k<=d.length->0<=(d.take k).sum/\(d.take k).sum <=100*k
 |0,_=>by simp
 |k+1,hk=>by
  have ih:=VR h hl k (by omega);have:=h _ (cU 0 (show k<d.length by omega));rw[IR (by omega)];omega
theorem SJ{r:Rp}(hr:bR r):wQ r=some (bif vX r then r.dims.sum else -1):=by
 unfold wQ;rw[Ea hr,aB];cases hR:vX r with
 |false=>rfl
 |true=>
  obtain⟨h1,h2⟩:=QO hR;have hs:=VR (d:=r.dims) (λx hx=>by have:=h1 x hx;omega) (by omega);simp only[dO,aN,aI];rw[cB (r:=r.dims.sum) (λk=>((r.dims.take k).sum,(k:Int))) r.dims.length (by simp) (λk hk=>?_) (λ_=>?_),aB]
  .unfold BI;simp only;have:=hs k (by omega);have:=hs (k+1) (by omega);rw[IR hk]at this;rw[iD hk,aI,gY 0 hk,aB,cC (by omega),bJ hk (by omega),IR hk]
  .unfold BI;simp only;rw[iZ (bA _),aN,List.take_length]
theorem SK{r:Rp}(hr:bR r):wR r=some (mQ r):=by
 unfold wR mQ;rw[SJ hr,aB,CN,aB];cases hR:vX r with
 |false=>rfl
 |true=>
  obtain⟨h1,h2⟩:=QO hR;have hs:=WZ h1;simp only[aI,Bool.true_and]
  have e1:zD r.dims.sum 0 5=decide (r.dims.sum<=5):=by
   by_cases h:r.dims.sum<=5
   .rw[aS h];exact xY (by omega) h
   .rw[bZ h];unfold zD;exact bZ (by omega)
  rw[e1]
  have e2:decide (3<r.p)= !decide (r.p<=3):=by
   by_cases h:r.p<=3
   .rw[aS h,bZ (by omega)];rfl
   .rw[bZ h,aS (by omega)];rfl
  rw[e2];rw[xZ (λk=>decide (r.dims[k]?.getD 0<=2)) false (n:=r.dims.length) (by omega) (λk hk=>?_) (λ_=>?_),aB]
  .have e3:(List.range r.dims.length).all (λk=>decide (r.dims[k]?.getD 0<=2))=r.dims.all λx=>zD x 0 2:=by
    rw[EY 0 r.dims (λx=>decide (x<=2))]
    exact aCa λx hx=>by
     have:=h1 x hx;by_cases h:x<=2
     .rw[aS h];exact(xY (by omega) h).symm
     .rw[bZ h];unfold zD;exact(bZ (by omega)).symm
   rw[e3];cases decide (r.dims.sum<=5)<;>cases decide (r.p<=3)<;>cases (r.dims.all λx=>zD x 0 2)<;>rfl
  .unfold BJ;rw[iD hk,aI,gY 0 hk,aB];by_cases h:r.dims[k]?.getD 0<=2
   .rw[aS h,bZ (by omega)];rfl
   .rw[bZ h,aS (by omega)];rfl
  .unfold BJ;rw[iZ (bA _),aN]
structure Sm(r:Rp):Prop where
 R:Rv r
 p:r.p=2∨r.p=3
 d:∀v,v<r.dims.length->dN r v<=2
 s:r.dims.sum<=5
theorem KK{r:Rp}(h:mQ r=true):Sm r:=by
 unfold mQ at h;simp only[cF,gG]at h;obtain⟨h1,h2,h3,h4⟩:=h;have R:=QD h1;refine⟨R,by have:=Ej R.hp;omega,λv hv=>?_,h4⟩;have:=kP (List.all_eq_true.1 h3 _ (cU 0 hv));rw[(R.d v hv).1]at this;omega
def Xw:Nat->Nat->Nat->List Sc
 |_,n,0=>[⟨n,[]⟩]
 |_,1,1=>[⟨1,[[1]]⟩]
 |2,2,1=>[⟨2,[[0,1]]⟩,⟨2,[[1,0]]⟩,⟨2,[[1,1]]⟩]
 |3,2,1=>[⟨2,[[0,1]]⟩,⟨2,[[1,0]]⟩,⟨2,[[1,1]]⟩,⟨2,[[1,2]]⟩]
 |_,2,2=>[⟨2,[[1,0],[0,1]]⟩]
 |_,_,_=>[]
theorem ZC:∀p,p<2->∀n,n<3->∀k,k<n+1->zV ((p+2:Nat):Int) (n:Nat) (k:Nat)=some (Xw (p+2) n k):=by decide+kernel
theorem aBM(p:Nat)(h1:p<4)(h2:2<=p):∀n,n<3->∀k,k<n+1->zV (p:Nat) (n:Nat) (k:Nat)=some (Xw p n k):=by
 have:=ZC (p-2) (by omega)
 rwa [show p-2+2=p by omega]at this
instance:DecidableEq (Option (List Sc×Bool)):=inferInstance
theorem ZD:∀p,p<2->∀n,n<3->∀k,k<n+1->zW ((p+2:Nat):Int) (n:Nat) (k:Nat)=some (Xw (p+2) n k,true):=by decide+kernel
theorem aBN(p:Nat)(h1:p<4)(h2:2<=p):∀n,n<3->∀k,k<n+1->zW (p:Nat) (n:Nat) (k:Nat)=some (Xw p n k,true):=by
 have:=ZD (p-2) (by omega)
 rwa [show p-2+2=p by omega]at this
def TZ(p n:Nat)(k:Int):List Sc:=bif zD k 0 n then Xw p n k.toNat else []
theorem Wi{p n:Nat}{k:Int}(hp:p=2∨p=3)(hn:n<=2)(hk:zD k 0 n=true):pE p n k=some (TZ p n k):=by
 have h:=kP hk;have e:=NI _ _ _ _ (aBM p (by omega) (by omega) n (by omega) k.toNat (by omega));rw[show((k.toNat:Nat):Int)=k by omega]at e;rw[e];unfold TZ;rw[hk];rfl
theorem Wj{p n:Nat}{k:Int}(hp:p=2∨p=3)(hn:n<=2):∃b,pG p n k=some (TZ p n k,b):=by
 cases hk:zD k 0 n with
 |true=>
  have h:=kP hk;have e:=NL _ _ _ _ (aBN p (by omega) (by omega) n (by omega) k.toNat (by omega));rw[show((k.toNat:Nat):Int)=k by omega]at e;refine⟨true,?_⟩;rw[e];unfold TZ;rw[hk];rfl
 |false=>
  refine⟨false,?_⟩;unfold pG oJ TZ;rw[JN,aB,Zy (by omega)];simp only[dO,aN];rw[CN,aB,xY (by omega) (by omega)];simp only[dO,aN];rw[CN,aB,hk];rfl
def Wk(p n:Nat)(x:Sc):Bool:=decide (x.basis.length<=2)&&(x.basis.all λv=>decide (v.length<=2))&&uP p n x.basis&&decide (x.size=n)
theorem ZE:∀p,p<2->∀n,n<3->∀k,k<n+1->((Xw (p+2) n k).all (λx=>decide (x.basis.length=k)&&Wk (p+2) n x)&&decide (1<=(Xw (p+2) n k).length)&&decide ((Xw (p+2) n k).length <=4))=true:=by decide+kernel
theorem VS(p:Nat)(h1:p<4)(h2:2<=p):∀n,n<3->∀k,k<n+1->((Xw p n k).all (λx=>decide (x.basis.length=k)&&Wk p n x)&&decide (1<=(Xw p n k).length)&&decide ((Xw p n k).length <=4))=true:=by
 have:=ZE (p-2) (by omega)
 rwa [show p-2+2=p by omega]at this
theorem Ta{p n:Nat}{k:Int}(hp:p=2∨p=3)(hn:n<=2){x:Sc}(hx:x∈TZ p n k):bS x/\(x.basis.length:Int)=k/\uP p n x.basis=true/\x.size=n:=by
 unfold TZ at hx;cases hk:zD k 0 n with
 |false=>rw[hk]at hx;simp at hx
 |true=>
  rw[hk]at hx;have h:=kP hk;have:=VS p (by omega) (by omega) n (by omega) k.toNat (by omega);simp only[cF,List.all_eq_true,gG]at this;have h2:=this.1.1 x hx;unfold Wk at h2;simp only[cF,List.all_eq_true,gG]at h2;obtain⟨a,⟨⟨b,c⟩,d⟩,e⟩:=h2;refine⟨⟨⟨by omega,λv hv=>?_⟩,trivial⟩,by omega,d,e⟩;have:=c v hv;unfold bI;omega
theorem Tc{p n:Nat}{k:Int}(hp:p=2∨p=3)(hn:n<=2):(TZ p n k).length <=4/\(zD k 0 n=true->1<=(TZ p n k).length):=by
 unfold TZ;cases hk:zD k 0 n with
 |false=>simp
 |true=>
  have h:=kP hk;have:=VS p (by omega) (by omega) n (by omega) k.toNat (by omega);simp only[cF,List.all_eq_true,gG]at this;exact⟨this.2,λ_=>this.1.2⟩
def kI{α:Type}:List (List α)->List (List α)
 | []=>[[]]
 |c::cs=>c.flatMap λx=>(kI cs).map (x:: ·)
theorem SL{α:Type}(c:List α):∀cs:List (List α),kI (cs++[c])=(kI cs).flatMap λs=>c.map λx=>s++[x]
 | []=>by
  simp only[List.nil_append,kI,List.flatMap_cons,List.flatMap_nil,List.append_nil,List.map_cons,List.map_nil];induction c with
  |nil=>rfl
  |cons x c ih=>rw[List.flatMap_cons,ih];rfl
 |d::cs=>by
  simp only[List.cons_append,kI];rw[SL c cs,List.flatMap_assoc];congr 1;funext x;rw[List.map_flatMap,List.flatMap_map];congr 1;funext s;simp
theorem QP{α:Type}{b:Nat}:∀{cs:List (List α)},(∀c∈cs,c.length<=b)->(kI cs).length <=b ^ cs.length
 | [],_=>by simp[kI]
 |c::cs,h=>by
  simp only[kI,List.length_cons,Nat.pow_succ];have ih:=QP (cs:=cs) λd hd=>h d (by simp[hd])
  have key:∀c:List α,(c.flatMap λx=>(kI cs).map (x:: ·)).length=c.length*(kI cs).length:=by
   intro c;induction c with
   |nil=>simp
   |cons x c ih=>rw[List.flatMap_cons,List.length_append,ih,dM,List.length_cons,Nat.succ_mul,Nat.add_comm]
  rw[key,Nat.mul_comm];exact Nat.mul_le_mul ih (h c (by simp))
theorem QQ{α β γ:Type}(h:α->β->γ)(l:List β):∀xs:List α,(xs.flatMap λs=>l.map (h s)).length=xs.length*l.length
 | []=>by simp
 |x::xs=>by rw[List.flatMap_cons,List.length_append,QQ h l xs,dM,List.length_cons,Nat.succ_mul,Nat.add_comm]
theorem MP{α:Type}:∀{cs:List (List α)}{s:List α},s∈kI cs->s.length=cs.length/\∀v (d:α),v<cs.length->s[v]?.getD d∈cs[v]?.getD []
 | [],s,h=>by simp[kI]at h;subst h;simp
 |c::cs,s,h=>by
  simp only[kI,List.mem_flatMap,List.mem_map]at h;obtain⟨x,hx,t,ht,rfl⟩:=h;obtain⟨h1,h2⟩:=MP ht;refine⟨by simp[h1],λv d hv=>?_⟩;cases v with
  |zero=>simpa using hx
  |succ v=>simpa using h2 v d (by simpa using hv)
theorem VT{α:Type}:∀{cs:List (List α)},[]∈cs->kI cs=[]
 |c::cs,h=>by
  rcases eW.1 h with h|h
  .subst h;rfl
  .simp[kI,VT h]
def FS(cs:List (List Sc))(x:aA):List Sc:=(List.range cs.length).map λv=>((cs[v]?.getD [])[(x[v]?.getD 0).toNat]?).getD ⟨0,[]⟩
theorem ZF(c:List Sc)(cs:List (List Sc))(i:Int)(x:aA):FS (c::cs) (i::x)=(c[i.toNat]?).getD ⟨0,[]⟩::FS cs x:=by
 unfold FS;rw[List.length_cons,List.range_succ_eq_map,List.map_cons,List.map_map];rfl
theorem Wl{α:Type}(d:α)(l:List α):(List.range l.length).map (λi=>l[i]?.getD d)=l:=by
 refine List.ext_getElem (by simp) λi h1 h2=>?_;simp[h2]
theorem QR:∀{cs:List (List Sc)},(∀c∈cs,1<=c.length)->(dG (cs.map λc=>(c.length:Int)-1)).map (FS cs)=kI cs
 | [],_=>rfl
 |c::cs,h=>by
  have ih:=QR (cs:=cs) λd hd=>h d (by simp[hd]);have hc:=h c (by simp);simp only[List.map_cons,dG,kI];rw[show((c.length:Int)-1).toNat +1=c.length by omega,List.map_flatMap,←ih]
  have e:∀i:Nat,((dG (cs.map λc=>(c.length:Int)-1)).map λx=>(i:Int)::x).map (FS (c::cs))=(λy:Sc=>((dG (cs.map λc=>(c.length:Int)-1)).map (FS cs)).map (y:: ·)) (c[i]?.getD ⟨0,[]⟩):=by
   intro i;simp only[List.map_map];refine oV λx _=>?_;simp only[Function.comp_apply];rw[ZF];rfl
  simp only[e]
  conv=>rhs;rw[←Wl ⟨0,[]⟩ c,List.flatMap_map]
def Ec(r:Rp)(d:aA):List (List Sc):=(List.range r.dims.length).map λv=>TZ r.p.toNat (dN r v) (d[v]?.getD 0)
def gQ(r:Rp)(d:aA):List (List Sc):=(kI (Ec r d)).filter (Jo r)
theorem Td{r:Rp}{d:aA}{v:Nat}(hv:v<r.dims.length):(Ec r d)[v]?.getD []=TZ r.p.toNat (dN r v) (d[v]?.getD 0):=by simp[Ec,hv]
theorem tN(r:Rp)(d:aA):(Ec r d).length=r.dims.length:=by simp[Ec]
theorem RB{r:Rp}(S:Sm r):r.p.toNat=2∨r.p.toNat=3:=by have:=S.p;omega
theorem MQ{r:Rp}(S:Sm r){d:aA}:∀c∈Ec r d,c.length<=4:=by
 intro c hc;obtain⟨v,hv,rfl⟩:=List.mem_map.1 hc;exact(Tc (RB S) (S.d v (List.mem_range.1 hv))).1
theorem SM{r:Rp}(S:Sm r)(n:Nat)(h:n<=r.dims.length):4 ^ n<=1024:=by
 have:=S.R.n5;exact Nat.le_trans (Nat.pow_le_pow_right (by omega) (show n<=5 by omega)) (by decide)
theorem LC{r:Rp}(S:Sm r){d:aA}:(kI (Ec r d)).length <=1024:=by
 have:=QP (MQ S (d:=d));rw[tN]at this;exact Nat.le_trans this (SM S _ (bA _))
theorem MR{r:Rp}(S:Sm r){d:aA}{s:List Sc}(hs:s∈kI (Ec r d)):s.length=r.dims.length/\(∀x∈s,bS x)/\∀v,v<r.dims.length->(sG s v).basis.length=d[v]?.getD 0/\uP r.p (dN r v) (sG s v).basis=true/\(sG s v).size=(dN r v:Int):=by
 obtain⟨h1,h2⟩:=MP hs;rw[tN]at h1 h2;have h3:∀v,v<r.dims.length->sG s v∈TZ r.p.toNat (dN r v) (d[v]?.getD 0):=λv hv=>by have:=h2 v ⟨0,[]⟩ hv;rwa [Td hv]at this
 refine⟨h1,λx hx=>?_,λv hv=>?_⟩
 .obtain⟨v,hv,rfl⟩:=List.mem_iff_getElem.1 hx;have:=h3 v (by omega);unfold sG at this;rw[fK hv,fR]at this;exact(Ta (RB S) (S.d v (by omega)) this).1
 .obtain⟨_,e1,e2,e3⟩:=Ta (RB S) (S.d v hv) (h3 v hv);have:=S.p;rw[show((r.p.toNat:Nat):Int)=r.p by omega]at e2;exact⟨e1,e2,e3⟩
theorem ZG{n:Nat}(P:Nat->Bool):(∀k,k<n->P k=true)∨∃k,k<n/\P k=false/\∀j,j<k->P j=true:=by
 induction n with
 |zero=>exact .inl λk hk=>absurd hk (Nat.not_lt_zero _)
 |succ n ih=>
  rcases ih with h|⟨k,h1,h2,h3⟩
  .cases hp:P n with
   |true=>
    refine .inl λk hk=>?_;rcases Nat.lt_or_eq_of_le (Nat.lt_succ_iff.1 hk)with h'|h'
    .exact h k h'
    .rw[h'];exact hp
   |false=>exact .inr ⟨n,Nat.lt_succ_self _,hp,h⟩
  .exact .inr ⟨k,by omega,h2,h3⟩
theorem Xx{α β ρ:Type}{f:α->List β->Option (List β ⊕ ρ)}(p:β->Bool)(g:α->β):∀(l:List α)(acc:List β),acc.length+l.length<=4000000->(∀x∈l,∀acc:List β,acc.length<=4000000->f x acc=some (.inl (if p (g x)=true then acc++[g x]else acc)))->Fl f l acc=some (.inl (acc++(l.map g).filter p))
 | [],acc,_,_=>by simp[Fl]
 |x::l,acc,hl,h=>by
  rw[List.length_cons]at hl;have h1:=h x (by simp) acc (by omega);simp only[Fl,h1];rw[Xx p g l _ (by split<;>(try simp only[List.length_append,List.length_cons,List.length_nil])<;>omega) λy hy=>h y (by simp[hy]),List.map_cons,List.filter_cons];cases p (g x)<;>simp
theorem aBO{x:Sc}(h:bS x):sX x=some x:=by
 obtain⟨⟨h1,h2⟩,_⟩:=h;unfold sX;rw[cB (r:=x.basis) (λk=>(x.basis.take k,(k:Int))) x.basis.length (by simp) (λk hk=>?_) (λ_=>?_),aB]
 .unfold uX mB;simp only;have:=h2 _ (cU [] hk);unfold bI at this;rw[iD hk,aI,gY [] hk,aB,aS this,aI,aB,aS (by rw[List.length_take];omega),aI,bJ hk (by omega),fK hk,fR,yK hk]
 .unfold uX;simp only;rw[iZ (bA _),aN,List.take_length]
theorem LD{r:Rp}(hr:bR r)(S:Sm r){d:aA}(hd:d.length=r.dims.length):pF r d=some (gQ r d):=by
 have h5:=S.R.n5
 have hsp:∀k,k<r.dims.length->zD (d[k]?.getD 0) 0 (r.dims[k]?.getD 0)=true->pE r.p (r.dims[k]?.getD 0) (d[k]?.getD 0)=some ((Ec r d)[k]?.getD []):=by
  intro k hk hin;rw[(S.R.d k hk).1]at hin ⊢;have:=Wi (RB S) (S.d k hk) hin;have hp:=S.p;rw[show((r.p.toNat:Nat):Int)=r.p by omega]at this;rw[this,Td hk]
 let most:aA:=(Ec r d).map λc=>(c.length:Int)-1
 have step:∀k,k<r.dims.length->zD (d[k]?.getD 0) 0 (r.dims[k]?.getD 0)=true->oI r d ((Ec r d).take k,most.take k,(k:Int))=some (.inl ((Ec r d).take (k+1),most.take (k+1),((k+1:Nat):Int))):=by
  intro k hk hin;have hk2:k<(Ec r d).length:=by rw[tN];exact hk
  have hk3:k<most.length:=by simp[most,tN,hk]
  have hsm:=MQ S (d:=d) _ (cU [] hk2);unfold oI;simp only;rw[iD hk,aI,gY 0 hk,aB,gY 0 (show k<d.length by omega),aB,DH,aB,hin];simp only[dO,aN,aB];rw[hsp k hk hin,aB,aS (by rw[List.length_take];omega),aI,aS (by rw[List.length_take];simp;omega),aI,bJ hk (by omega)];rw[cC (by omega)];have e1:(Ec r d).take k++[(Ec r d)[k]?.getD []]=(Ec r d).take (k+1):=by rw[fK hk2,fR,yK hk2]
  have e2:most.take k++[(((Ec r d)[k]?.getD []).length:Int)-1]=most.take (k+1):=by
   rw[yK hk3];simp[most,hk2]
  rw[e1,e2]
 unfold pF;rcases ZG (n:=r.dims.length) (λk=>zD (d[k]?.getD 0) 0 (r.dims[k]?.getD 0))with hall|⟨k0,hk0,hbad,hgood⟩
 .rw[cB (r:=.inl (Ec r d,most)) (λk=>((Ec r d).take k,most.take k,(k:Int))) r.dims.length (by simp) (λk hk=>step k hk (hall k hk)) (λ_=>?_),aB]
  .simp only[Sum.elim_inl]
   have h1:∀c∈Ec r d,1<=c.length:=by
    intro c hc;obtain⟨v,hv,rfl⟩:=List.mem_map.1 hc;have hv:=List.mem_range.1 hv;have:=hall v hv;rw[(S.R.d v hv).1]at this;exact(Tc (RB S) (S.d v hv)).2 this
   have hmost:Jy most=true:=by
    unfold Jy;rw[aS (by simp[most,tN];omega),Bool.and_true,List.all_eq_true];intro m hm;obtain⟨c,hc,rfl⟩:=List.mem_map.1 hm;have:=h1 c hc;have:=MQ S c hc;rw[aS (by omega),aS (by omega)];rfl
   rw[hmost,aI];have hbx:(dG most).map (FS (Ec r d))=kI (Ec r d):=QR h1
   have hlen:(dG most).length <=1024:=by
    have:=congrArg List.length hbx;rw[dM]at this;rw[this];exact LC S
   rw[Xx (Jo r) (FS (Ec r d)) _ _ (by simp;omega) (λx hx acc hacc=>?_),aB]
   .simp only[Sum.elim_inl,List.nil_append];rw[hbx];rfl
   .have hxl:=rX hx;have hml:most.length=r.dims.length:=by simp[most,tN]
    have hs:FS (Ec r d) x∈kI (Ec r d):=by rw[←hbx];exact List.mem_map.2 ⟨x,hx,rfl⟩
    obtain⟨p1,p2,p3⟩:=MR S hs
    have hg:∀k,k<r.dims.length->(((Ec r d)[k]?.getD [])[(x[k]?.getD 0).toNat]?).getD ⟨0,[]⟩=(FS (Ec r d) x)[k]?.getD ⟨0,[]⟩:=by
     intro k hk;simp[FS,tN,hk]
    unfold AL;rw[cB (r:=FS (Ec r d) x) (λk=>((FS (Ec r d) x).take k,(k:Int))) r.dims.length (by simp) (λk hk=>?_) (λ_=>?_),aB]
    .rw[SH hr ⟨by omega,p2⟩,aB];cases Jo r (FS (Ec r d) x)with
     |false=>simp
     |true=>simp only[aI,if_true];rw[aS (by omega),aI]
    .have hxk:k<x.length:=by omega
     have hb:=Kf hx k (x[k]?.getD 0) (most[k]?.getD 0) (by rw[fK hxk];rfl) (by rw[fK (by omega)];rfl);have hck:(Ec r d)[k]?.getD []∈Ec r d:=cU [] (by rw[tN];exact hk);have hmk:most[k]?.getD 0=(((Ec r d)[k]?.getD []).length:Int)-1:=by simp[most,tN,hk]
     have hc1:=h1 _ hck
     have hin:(x[k]?.getD 0).toNat <((Ec r d)[k]?.getD []).length:=by
      have:=hb.2 (by omega);omega
     unfold AK;simp only;rw[show((most.length:Nat):Int)=(r.dims.length:Int) by rw[hml],iD hk,aI,gY 0 hxk,aB,gY [] (by rw[tN];exact hk),aB,OY ⟨0,[]⟩ hb.1 (by omega),aB,hg k hk];have hpk:k<(FS (Ec r d) x).length:=by omega
     rw[aBO (p2 _ (cU _ hpk)),aB,aS (by rw[List.length_take];omega),aI,bJ hk (by omega),fK hpk,fR,yK hpk]
    .unfold AK;simp only;rw[show((most.length:Nat):Int)=(r.dims.length:Int) by rw[hml],iZ (bA _),aN,List.take_of_length_le (by omega)]
  .unfold oI;simp only;rw[iZ (bA _),aN,List.take_of_length_le (by rw[tN];omega),List.take_of_length_le (by simp[most,tN])]
 .rw[cB (r:=.inr []) (λk=>((Ec r d).take k,most.take k,(k:Int))) k0 (by simp) (λk hk=>step k (by omega) (hgood k hk)) (λ_=>?_),aB]
  .simp only[Sum.elim_inr];unfold gQ;rw[VT]
   .rfl
   .refine List.mem_map.2 ⟨k0,List.mem_range.2 hk0,?_⟩;unfold TZ;rw[←(S.R.d k0 hk0).1,hbad];rfl
  .unfold oI;simp only;rw[iD hk0,aI,gY 0 hk0,aB,gY 0 (show k0<d.length by omega),aB,DH,aB,hbad];rfl
def Hm(r:Rp)(d:aA):List (List Sc)×Bool:=bif mQ r&&decide (d.length=r.dims.length)then(gQ r d,true)else([],false)
theorem LE{r:Rp}(hr:bR r){d:aA}:tY r d=some (Hm r d):=by
 unfold tY Hm;rw[NM hr,aB];cases hS:mQ r with
 |false=>rfl
 |true=>
  simp only[dO,aN,Bool.true_and];by_cases hd:d.length=r.dims.length
  .rw[aS (by omega),aS hd];simp only[dO,aN,aI];rw[LD hr (KK hS) hd,aB]
  .rw[bZ (by omega),bZ hd];rfl
theorem Wm{α β:Type}(f:α->List β){l:List α}{k:Nat}(d:α)(h:k<l.length):(l.take k).flatMap f++f (l[k]?.getD d)=(l.take (k+1)).flatMap f:=by
 rw[yK h,List.flatMap_append,fK h];simp
theorem VU{α:Type}(p:α->Bool){l:List α}{k:Nat}(d:α)(h:k<l.length):(if p (l[k]?.getD d)=true then(l.take k).filter p++[l[k]?.getD d]else(l.take k).filter p)=(l.take (k+1)).filter p:=by
 rw[yK h,List.filter_append,fK h,fR];cases hp:p l[k]<;>simp[hp]
theorem aCg{l:List Sc}{b:Bool}{x:List (List Sc)}{z:Int}(hl:l.length<=4)(hx:x.length<=1024)(hs:∀s∈x,s.length<=5):Lp (tA (l,b) (x,z)) ([],0)=some (x.flatMap λs=>l.map λy=>s++[y]):=by
 have hfl:∀k,k<=x.length->((x.take k).flatMap λs=>l.map λy=>s++[y]).length <=4096:=λk hk=>by
  rw[QQ (λs y=>s++[y]),List.length_take];have:=Nat.mul_le_mul (show min k x.length<=1024 by omega) hl;omega
 rw[cB (r:=x.flatMap λs=>l.map λy=>s++[y]) (λk=>((x.take k).flatMap (λs=>l.map λy=>s++[y]),(k:Int))) x.length (by simp) (λk hk=>?_) (λ_=>?_)]
 .have hsk:=hs _ (cU [] hk);have hf:=hfl k (by omega);unfold tA;simp only;rw[iD hk,aI];rw[cB (r:=((x.take k).flatMap λs=>l.map λy=>s++[y])++l.map λy=>x[k]?.getD []++[y]) (λj=>(((x.take k).flatMap λs=>l.map λy=>s++[y])++(l.take j).map (λy=>x[k]?.getD []++[y]),(j:Int))) l.length (by simp) (λj hj=>?_) (λ_=>?_),aB]
  .rw[bJ hk (by omega),Wm (λs=>l.map λy=>s++[y]) [] hk]
  .unfold AM;simp only[List.nil_append,List.length_nil,Nat.zero_add];rw[iD hj,aI,gY [] hk,aB,aS (by omega),aI,gY ⟨0,[]⟩ hj,aB,aS (by omega),aI,aS (by rw[List.length_append,dM,List.length_take];omega),aI,bJ hj (by omega),List.append_assoc,JT (λy=>x[k]?.getD []++[y]) ⟨0,[]⟩ hj]
  .unfold AM;simp only;rw[iZ (bA _),aN,List.take_length]
 .unfold tA;simp only;rw[iZ (bA _),aN,List.take_length]
theorem Fu{r:Rp}(hr:bR r){d:aA}:mP r d=some (Hm r d):=by
 unfold mP Hm;rw[SK hr,aB];cases hS:mQ r with
 |false=>rfl
 |true=>
  have S:=KK hS;have h5:=S.R.n5;simp only[dO,aN,Bool.true_and];by_cases hd:d.length=r.dims.length
  .rw[aS (by omega),aS hd];simp only[dO,aN,aI]
   have htk:∀k,k<=r.dims.length->(kI ((Ec r d).take k)).length <=1024/\∀s∈kI ((Ec r d).take k),s.length<=5:=by
    intro k hk;have h1:=QP (b:=4) (cs:=(Ec r d).take k) λc hc=>MQ S c (List.mem_of_mem_take hc);rw[List.length_take,tN]at h1;refine⟨Nat.le_trans h1 (SM S _ (by omega)),λs hs=>?_⟩;have:=(MP hs).1;rw[List.length_take,tN]at this;omega
   rw[cB (r:=kI (Ec r d)) (λk=>(kI ((Ec r d).take k),(k:Int))) r.dims.length (by simp[kI]) (λk hk=>?_) (λ_=>?_),aB]
   .have hps:=LC S (d:=d);rw[cB (r:=gQ r d) (λk=>(((kI (Ec r d)).take k).filter (Jo r),(k:Int))) (kI (Ec r d)).length (by simp) (λk hk=>?_) (λ_=>?_),aB]
    .obtain⟨p1,p2, -⟩:=MR S (cU [] hk);have hfl:=List.length_filter_le (Jo r) ((kI (Ec r d)).take k);rw[List.length_take]at hfl;have e:=VU (Jo r) [] hk;unfold AN;simp only;rw[iD hk,aI,gY [] hk,aB,NF hr ⟨by omega,p2⟩,aB,bJ hk (by omega),←e];cases Jo r ((kI (Ec r d))[k]?.getD [])with
     |false=>simp
     |true=>simp only[aI,if_true,aB];rw[aS (by omega),aI]
    .unfold AN;simp only;rw[iZ (bA _),aN,List.take_length];rfl
   .obtain⟨t1,t2⟩:=htk k (by omega);have hkc:k<(Ec r d).length:=by rw[tN];exact hk
    have hp:=S.p;obtain⟨b,hb⟩:=Wj (k:=d[k]?.getD 0) (RB S) (S.d k hk);rw[show((r.p.toNat:Nat):Int)=r.p by omega,←(S.R.d k hk).1]at hb;unfold tB;simp only;rw[iD (show k<d.length by omega),aI,gY 0 hk,aB,gY 0 (show k<d.length by omega),aB,hb,aB,aCg (Tc (RB S) (S.d k hk)).1 t1 t2,aB,bJ hk (by omega),←SL];congr 4;rw[yK hkc];congr 2;simp[Ec]
   .unfold tB;simp only;rw[show(d.length:Int)=(r.dims.length:Int) by rw[hd],iZ (bA _),aN,List.take_of_length_le (by rw[tN];omega)]
  .rw[bZ (by omega),bZ hd];rfl
theorem VV{r:Rp}(hr:bR r){d:aA}:∃z,iW r d=some z/\xS r d=some z:=by
 unfold iW xS;rw[LE hr,Fu hr];simp only[aB];cases (Hm r d).2
 .exact⟨_,rfl,rfl⟩
 .exact⟨_,rfl,rfl⟩
def cN:aA->Nat
 | []=>1
 |m::ms=>(m.toNat+1)*cN ms
def Jv:aA->Nat->aA
 | [],_=>[]
 |m::ms,c=>((c/cN ms%(m.toNat+1):Nat):Int)::Jv ms c
theorem Wn:∀ms,0<cN ms
 | []=>by simp[cN]
 |m::ms=>Nat.mul_pos (Nat.succ_pos _) (Wn ms)
theorem VW:∀ms c,(Jv ms c).length=ms.length
 | [],_=>rfl
 |m::ms,c=>by simp[Jv,VW ms c]
theorem VX:∀(ms:aA)(i c:Nat),Jv ms (i*cN ms+c)=Jv ms c
 | [],_,_=>rfl
 |m::ms,i,c=>by
  simp only[Jv,cN];have h:=Wn ms;rw[show i*((m.toNat+1)*cN ms)+c=i*(m.toNat+1)*cN ms+c by rw[Nat.mul_assoc],VX ms,Nat.add_comm (i*(m.toNat+1)*cN ms) c,Nat.add_mul_div_right _ _ h,Nat.add_mul_mod_self_right]
theorem SN{α:Type}(f:Nat->α)(b:Nat):∀a,(List.range (a*b)).map f=(List.range a).flatMap λi=>(List.range b).map λc=>f (i*b+c)
 |0=>by simp
 |a+1=>by
  rw[Nat.succ_mul,List.range_add,List.map_append,SN f b a,List.range_succ,List.flatMap_append,List.flatMap_singleton,List.map_map];rfl
theorem MS{α β:Type}{f g:α->List β}:∀{l:List α},(∀x∈l,f x=g x)->l.flatMap f=l.flatMap g
 | [],_=>rfl
 |x::l,h=>by rw[List.flatMap_cons,List.flatMap_cons,h x (by simp),MS λy hy=>h y (by simp[hy])]
theorem NN:∀ms:aA,(List.range (cN ms)).map (Jv ms)=dG ms
 | []=>rfl
 |m::ms=>by
  simp only[cN,dG];rw[SN,←NN ms];refine MS λi hi=>?_;rw[List.map_map];refine oV λc hc=>?_;have hc:=List.mem_range.1 hc;have hi:=List.mem_range.1 hi;simp only[Jv,Function.comp_apply];rw[VX,Nat.add_comm (i*cN ms) c,Nat.add_mul_div_right _ _ (Wn ms),Nat.div_eq_of_lt hc,Nat.zero_add,Nat.mod_eq_of_lt hi]
theorem aBP{b:Nat}:∀{ms:aA},(∀m∈ms,m.toNat<=b)->cN ms<=(b+1) ^ ms.length
 | [],_=>by simp[cN]
 |m::ms,h=>by
  have ih:=aBP (ms:=ms) λx hx=>h x (by simp[hx]);have:=h m (by simp);simp only[cN,List.length_cons,Nat.pow_succ];rw[Nat.mul_comm];exact Nat.mul_le_mul ih (by omega)
theorem Sm.mem{r:Rp}(S:Sm r):∀x∈r.dims,0<=x/\x<=2:=by
 intro x hx;obtain⟨k,hk,rfl⟩:=List.mem_iff_getElem.1 hx;have h1:=(S.R.d k hk).1;have h2:=S.d k hk;rw[fK hk,fR]at h1;omega
theorem QS{r:Rp}(S:Sm r)(n:Nat):cN (r.dims.drop n)<=243:=by
 have h5:=S.R.n5;have h:=aBP (b:=2) (ms:=r.dims.drop n) λm hm=>by have:=S.mem m (List.mem_of_mem_drop hm);omega
 exact Nat.le_trans h (Nat.le_trans (Nat.pow_le_pow_right (by omega) (show(r.dims.drop n).length <=5 by rw[List.length_drop];omega)) (by decide))
theorem VY{r:Rp}(S:Sm r):(dG r.dims).length <=243:=by
 rw[←NN,dM,List.length_range];exact QS S 0
def RC(r:Rp):List (List Sc):=(dG r.dims).flatMap (gQ r)
theorem xA{r:Rp}(S:Sm r)(d:aA):(gQ r d).length <=1024:=Nat.le_trans (List.length_filter_le _ _) (LC S)
theorem Xy{α β ρ:Type}{f:α->List β->Option (List β ⊕ ρ)}(g:α->List β)(b:Nat):∀(l:List α)(acc:List β),acc.length+b*l.length<=4000000->(∀x∈l,(g x).length <=b/\∀acc:List β,acc.length+b<=4000000->f x acc=some (.inl (acc++g x)))->Fl f l acc=some (.inl (acc++l.flatMap g))
 | [],acc,_,_=>by simp[Fl]
 |x::l,acc,hl,h=>by
  rw[List.length_cons,Nat.mul_succ]at hl;obtain⟨h0,h1⟩:=h x (by simp);have h1:=h1 acc (by omega);simp only[Fl,h1];rw[Xy g b l _ (by rw[List.length_append];omega) λy hy=>h y (by simp[hy]),List.flatMap_cons,List.append_assoc]
theorem Wo{r:Rp}(S:Sm r):Jy r.dims=true:=by
 have h5:=S.R.n5;unfold Jy;rw[aS (by omega),Bool.and_true,List.all_eq_true];intro m hm;have:=S.mem m hm;rw[aS (by omega),aS (by omega)];rfl
theorem ZH{r:Rp}(hr:bR r)(S:Sm r):BN r=some (RC r):=by
 have hb:=VY S;unfold BN;rw[Wo S,aI,Xy (gQ r) 1024 _ _ (by simp;omega) (λx hx=>⟨xA S x,λacc hacc=>?_⟩),aB]
 .rfl
 .have hsm:=xA S x;unfold BM;rw[LD hr S (rX hx),aB,aS (by omega),aI]
theorem aBQ{r:Rp}(S:Sm r){c:Nat}(hc:c<cN r.dims):Lp (vS r) (List.replicate ((r.dims.length:Int).toNat) (0:Int),(c:Int),wr ((((List.replicate ((r.dims.length:Int).toNat) (0:Int)).length:Nat):Int)-1))=some (Jv r.dims c):=by
 have h5:=S.R.n5;have hc243:c<=243:=by have:=QS S 0;rw[List.drop_zero]at this;omega
 rw[eK,List.length_replicate];refine cB (λj=>(List.replicate (r.dims.length-j) 0++Jv (r.dims.drop (r.dims.length-j)) c,((c/cN (r.dims.drop (r.dims.length-j)):Nat):Int),(r.dims.length:Int)-j-1)) r.dims.length ?_ (λj hj=>?_) (λ_=>?_)
 .rw[Nat.sub_zero,List.drop_length,cC (by omega)];simp[Jv,cN]
 .obtain⟨v,hv⟩:∃v,v+1=r.dims.length-j:=⟨r.dims.length-j-1,by omega⟩;have hvl:v<r.dims.length:=by omega
  have hm:=S.mem _ (cU 0 hvl);have e1:r.dims.length-(j+1)=v:=by omega
  have e2:(r.dims.length:Int)-(j:Int)-1=(v:Int):=by omega
  have e3:r.dims.drop v=r.dims[v]?.getD 0::r.dims.drop (v+1):=by rw[List.drop_eq_getElem_cons hvl,fK hvl,fR]
  have hq:c/cN (r.dims.drop (v+1))<=c:=Nat.div_le_self _ _;unfold vS;simp only;rw[←hv,e1,e2,aS (by omega),aI,gY 0 hvl,aB,cC (x:=r.dims[v]?.getD 0+1) (by omega),bZ (by omega)];simp only[Bool.not_false,aI];rw[gY 0 (by simp;omega),aB,aB,cC (x:=r.dims[v]?.getD 0+1) (by omega),bZ (by omega)];simp only[Bool.not_false,aI];have e4:r.dims[v]?.getD 0+1=(((r.dims[v]?.getD 0).toNat +1:Nat):Int):=by omega
  rw[e4,eK,Int.tmod_eq_emod_of_nonneg (Int.natCast_nonneg _),Int.tdiv_eq_ediv_of_nonneg (Int.natCast_nonneg _)]
  have e5:(((c/cN (r.dims.drop (v+1)):Nat):Int)/(((r.dims[v]?.getD 0).toNat +1:Nat):Int))=((c/cN (r.dims.drop v):Nat):Int):=by
   rw[e3,cN,Nat.mul_comm,←Nat.div_div_eq_div_mul];rfl
  have hq2:c/cN (r.dims.drop v)<=c:=Nat.div_le_self _ _;rw[e5,cC ⟨Int.le_trans (by decide) (Int.natCast_nonneg _),Int.le_trans (Int.ofNat_le.2 (Nat.le_trans hq2 hc243)) (by decide)⟩,cC (by omega)];congr 3
  .rw[e3,Jv,List.replicate_succ',List.append_assoc,List.set_append_right _ _ (by simp)];rw[List.length_replicate,Nat.sub_self];rfl
  .congr 1;omega
 .unfold vS;simp only;rw[bZ (by omega),aN,Nat.sub_self,List.drop_zero];rfl
def QT(r:Rp):List (List Sc)×Bool:=bif mQ r then(RC r,true)else([],false)
theorem SO{r:Rp}(hr:bR r):wT r=some (QT r):=by
 unfold wT QT;rw[SK hr,aB];cases hS:mQ r with
 |false=>rfl
 |true=>
  have S:=KK hS;have h5:=S.R.n5;have h243:=QS S 0;rw[List.drop_zero]at h243;simp only[dO,aN,aI]
  have hpre:∀k,k<=r.dims.length->cN (r.dims.take k)<=243:=by
   intro k hk;have h:=aBP (b:=2) (ms:=r.dims.take k) λm hm=>by have:=S.mem m (List.mem_of_mem_take hm);omega
   exact Nat.le_trans h (Nat.le_trans (Nat.pow_le_pow_right (by omega) (show(r.dims.take k).length <=5 by rw[List.length_take];omega)) (by decide))
  have hsnoc:∀(l:aA)(m:Int),cN (l++[m])=cN l*(m.toNat+1):=by
   intro l m;induction l with
   |nil=>simp[cN]
   |cons x l ih=>simp only[List.cons_append,cN];rw[ih,Nat.mul_assoc]
  rw[cB (r:=(cN r.dims:Int)) (λk=>((cN (r.dims.take k):Int),(k:Int))) r.dims.length (by simp[cN]) (λk hk=>?_) (λ_=>?_),aB]
  .rw[cB (r:=RC r) (λk=>(((List.range k).map (Jv r.dims)).flatMap (gQ r),(k:Int))) (cN r.dims) (by simp) (λk hk=>?_) (λ_=>?_),aB]
   .have hlen:(((List.range k).map (Jv r.dims)).flatMap (gQ r)).length <=1024*k:=by
     have:∀l:aZ,(l.flatMap (gQ r)).length <=1024*l.length:=by
      intro l;induction l with
      |nil=>simp
      |cons x l ih=>rw[List.flatMap_cons,List.length_append,List.length_cons,Nat.mul_succ];have:=xA S x;omega
     have:=this ((List.range k).map (Jv r.dims))
     rwa [dM,List.length_range]at this
    have hsm:=xA S (Jv r.dims k);unfold BP;simp only;rw[iD hk,aI,aS (by omega),aS (by omega)];simp only[Bool.and_self,aI];rw[aBQ S hk,aB,Fu hr,aB];unfold Hm;rw[hS,aS (VW _ _)];simp only[Bool.and_self,aI];rw[aS (by omega),aI,bJ hk (by omega),List.range_succ,List.map_append,List.flatMap_append];simp
   .unfold BP;simp only;rw[iZ (bA _),aN,NN];rfl
  .have h1:=hpre k (by omega);have h2:=hpre (k+1) (by omega);have hm:=S.mem _ (cU 0 hk);have e:cN (r.dims.take (k+1))=cN (r.dims.take k)*((r.dims[k]?.getD 0).toNat +1):=by rw[yK hk,hsnoc,fK hk,fR]
   unfold BO;simp only;rw[iD hk,aI,gY 0 hk,aB,cC (x:=r.dims[k]?.getD 0+1) (by omega),show r.dims[k]?.getD 0+1=(((r.dims[k]?.getD 0).toNat +1:Nat):Int) by omega,Ma (by omega),←e,bJ hk (by omega)]
  .unfold BO;simp only;rw[iZ (bA _),aN,List.take_length]
structure Part(r:Rp)(s:List Sc):Prop where
 len:s.length=r.dims.length
 b:∀x∈s,bS x
 sub:Jo r s=true
 dim:∀v,v<r.dims.length->0<=(jX s)[v]?.getD 0/\(jX s)[v]?.getD 0<=r.dims[v]?.getD 0
theorem Te{r:Rp}(S:Sm r){d:aA}{s:List Sc}(h:s∈gQ r d):Part r s:=by
 obtain⟨h1,h2⟩:=List.mem_filter.1 h;obtain⟨p1,p2,p3⟩:=MR S h1;obtain⟨R,e1,e2⟩:=tL h2;refine⟨p1,p2,h2,λv hv=>?_⟩;have:=(e2 v hv).len
 have h3:(jX s)[v]?.getD 0=((sG s v).basis.length:Int):=by
  unfold jX sG;rw[List.getElem?_map];have:v<s.length:=by omega
  simp[this]
 rw[h3,(R.d v hv).1];omega
theorem QU(s:List Sc):(jX s).length=s.length:=by simp[jX]
theorem Nq{r:Rp}(h:mQ r=true):vX r=true:=by
 unfold mQ at h;simp only[cF]at h;exact h.1
theorem ZI{r:Rp}(hr:bR r):BQ r=some (QT r):=by
 unfold BQ QT;rw[NM hr,aB];cases hS:mQ r with
 |false=>rfl
 |true=>
  simp only[dO,aN,aI];rw[ZH hr (KK hS),aB]
def idR:Nat->aZ
 |1=>[[1]]
 |2=>[[1,0],[0,1]]
 |_=>[]
theorem aEl{p n:Nat}(hp:p=2∨p=3)(hn:n<=2):(⟨n,idR n⟩:Sc)∈TZ p n (n:Int):=by
 have h:n=0∨n=1∨n=2:=by omega
 rcases hp with rfl|rfl<;>rcases h with rfl|rfl|rfl<;>decide
theorem VZ{p:Int}(hp:mA p=true){n:Nat}(hn:n<=2){a:aZ}(ha:VecsP p n a)(hb:VecsP p n (idR n))(hs:iE p n (idR n)=idR n):Xu p n a (idR n)=true:=by
 unfold Xu;refine aS ((FO hp ha hb hs).2 λx hx=>?_)
 have hz:∀i,i<n->Z0 p (x i):=by
  have h:n=0∨n=1∨n=2:=by omega
  rcases h with rfl|rfl|rfl
  .intro i hi;omega
  .intro i hi;have:=hx 0 (by decide);have e:i=0:=by omega
   subst e;simpa [dt,sN,cA,idR]using this
  .intro i hi;have h0:=hx 0 (by decide);have h1:=hx 1 (by decide);have e:i=0∨i=1:=by omega
   rcases e with rfl|rfl
   .simpa [dt,sN,cA,idR]using h0
   .simpa [dt,sN,cA,idR]using h1
 intro k hk;exact aDP λi hi=>KW _ (hz i hi)
def KL(r:Rp):List Sc:=(List.range r.dims.length).map λv=>(⟨(dN r v:Nat),idR (dN r v)⟩:Sc)
theorem Va{r:Rp}{v:Nat}(hv:v<r.dims.length):sG (KL r) v=⟨(dN r v:Nat),idR (dN r v)⟩:=by simp[sG,KL,hv]
theorem Xz{α:Type}:∀{cs:List (List α)}{s:List α}(d:α),s.length=cs.length->(∀v,v<cs.length->s[v]?.getD d∈cs[v]?.getD [])->s∈kI cs
 | [],[],_,_,_=>by simp[kI]
 | [],y::s,_,h,_=>by simp at h
 |c::cs,[],_,h,_=>by simp at h
 |c::cs,y::s,d,hl,h=>by
  have h0:=h 0 (by simp);have h1:=Xz (cs:=cs) (s:=s) d (by simpa using hl) (λv hv=>by have:=h (v+1) (by simpa using hv);simpa using this);simp only[List.getElem?_cons_zero,fR]at h0;simp only[kI,List.mem_flatMap,List.mem_map];exact⟨y,h0,s,h1,rfl⟩
theorem YA:∀{ms:aA},(∀x∈ms,0<=x)->ms∈dG ms
 | [],_=>by simp[dG]
 |m::ms,h=>by
  simp only[dG,List.mem_flatMap,List.mem_map];exact⟨m.toNat,List.mem_range.2 (by omega),ms,YA λx hx=>h x (by simp[hx]),by rw[Int.toNat_of_nonneg (h m (by simp))]⟩
theorem aCh{r:Rp}(hS:mQ r=true):KL r∈RC r:=by
 have S:=KK hS;have hR:=Nq hS;have R:=S.R;have hl:(KL r).length=r.dims.length:=by simp[KL]
 have hm:KL r∈kI (Ec r r.dims):=by
  refine Xz ⟨0,[]⟩ (by rw[hl,tN]) λv hv=>?_;rw[tN]at hv;rw[Td hv,(R.d v hv).1,show(KL r)[v]?.getD ⟨0,[]⟩=_ from Va hv];exact aEl (RB S) (S.d v hv)
 obtain⟨_,_,p3⟩:=MR S hm
 have sv:∀v,v<r.dims.length->SpV r (KL r) v:=λv hv=>by
  obtain⟨g1,g2,g3⟩:=p3 v hv;obtain⟨_,n,e,_,h3,h4,h5⟩:=EI g2;have e:dN r v=n:=by omega
  subst e;exact⟨g3,g2,h3,h4,h5⟩
 have hsub:Jo r (KL r)=true:=by
  unfold Jo;simp only[cF,List.all_eq_true,gG];refine⟨hR,by rw[hl],λv hv=>?_,λi hi=>?_⟩
  .have hv:v<r.dims.length:=by rw[←hl];exact List.mem_range.1 hv
   obtain⟨g1,g2,g3⟩:=p3 v hv;unfold spB;rw[g3,g2,(R.d v hv).1];simp
  .have hi:i<r.q.src.length:=by rw[←R.ml];exact List.mem_range.1 hi
   have hs:=(R.s i hi).2;have ht:=(R.t i hi).2;have S1:=sv _ hs;have S2:=sv _ ht;have hv1:=Iz R.hp (MK R.hp (dN r (tV r i)) (dN r (sV r i)) (aF r i) (sG (KL r) (sV r i)).basis).inP;have h4:=S2.vecs;have h5:=S2.span;unfold imB;rw[Va ht]at h4 h5 ⊢;exact VZ R.hp (S.d _ ht) hv1 h4 h5
 unfold RC;exact List.mem_flatMap.2 ⟨r.dims,YA λx hx=>(S.mem x hx).1,List.mem_filter.2 ⟨hm,hsub⟩⟩
end
noncomputable section
def HR(a0:aA)(a1:Int):Option Bool:=
 Option.bind (CD 100 (zF a0 a1) 0) λy4=>
 Sum.elim (λy5=>
  some (false)
 )
 (λy6=>
  some y6
 )
  y4
theorem RD(a0:aA)(a1:Int):Le (HR a0 a1) (rY a0 a1):=by
 unfold HR rY
 repeat (with_reducible first|exact Le.rfl|refine Le.bind ?_ λ_=>?_|refine Le.lp λ_=>?_|refine Le.elim (λ_=>?_) λ_=>?_)
def Dr(a0:Int):Option Mt:=
 Option.bind (iT a0 a0) λv1=>
 Option.bind (CD 100 (Es a0) (v1.cells,0)) λy4=>
 some ((⟨v1.rows,v1.cols,y4⟩:Mt))
theorem NO(a0:Int):Le (Dr a0) (zG a0):=by
 unfold Dr zG
 repeat (with_reducible first|exact Le.rfl|refine Le.bind ?_ λ_=>?_|refine Le.lp λ_=>?_)
def Ac(a0:Int)(c0:aA)(s1:Nat)(n1:Nat)(a2:Int)(a3:aA):Option aA:=
 Option.bind (CD 100 (oN a0 a2 a3 n1 s1) (c0,0)) λy8=>
 some y8
theorem Jw(a0:Int)(c0:aA)(s1:Nat)(n1:Nat)(a2:Int)(a3:aA):Le (Ac a0 c0 s1 n1 a2 a3) (eB a0 c0 s1 n1 a2 a3):=by
 unfold Ac eB
 repeat (with_reducible first|exact Le.rfl|refine Le.bind ?_ λ_=>?_|refine Le.lp λ_=>?_)
def lB(a0:aA)(a1:(Int->Option Bool))(x1:Int):Option (Int ⊕ (Unit ⊕ Int)):=
 bif decide (x1<(a0.length:Int))then
  (Option.bind (bP a0 x1) λv2=>
  Option.bind (a1 v2) λv3=>
  bif v3 then
   (some (.inr (.inr (x1))))
  else
   (some (.inl (wr (x1+1)))))
 else
  (some (.inr (.inl ())))
theorem Bv{a1 a1':(Int->Option Bool)}(ha1:∀z0,Le (a1 z0) (a1' z0))(a0:aA)(x1:Int):Le (lB a0 a1 x1) (cI a0 a1' x1):=by
 unfold lB cI
 repeat (with_reducible first|exact Le.rfl|exact ha1 _|refine Le.bind ?_ λ_=>?_|refine Le.cond ?_ ?_)
def nF(a0:aA)(a1:(Int->Option Bool)):Option Int:=
 Option.bind (CD 100 (lB a0 a1) 0) λy5=>
 Sum.elim (λy6=>
  some ((-1))
 )
 (λy7=>
  some y7
 )
  y5
theorem Dt{a1 a1':(Int->Option Bool)}(ha1:∀z0,Le (a1 z0) (a1' z0))(a0:aA):Le (nF a0 a1) (cW a0 a1'):=by
 unfold nF cW
 repeat (with_reducible first|exact Le.rfl|exact ha1 _|refine Bv (λ_=>?_) _ _|refine Le.bind ?_ λ_=>?_|refine Le.lp λ_=>?_|refine Le.elim (λ_=>?_) λ_=>?_)
def vJ(a1:aZ)(v1:Mt)(x1:(aA×Int)):Option ((aA×Int) ⊕ aA):=
 bif decide (x1.2<(a1.length:Int))then
  (Option.bind (bP a1 x1.2) λv3=>
  Option.bind (CD 100 (oO v1 v3 x1) (x1.1,0)) λy7=>
  some (.inl (y7,wr (x1.2+1))))
 else
  (some (.inr x1.1))
theorem HT(a1:aZ)(v1:Mt)(x1:(aA×Int)):Le (vJ a1 v1 x1) (kR a1 v1 x1):=by
 unfold vJ kR
 repeat (with_reducible first|exact Le.rfl|refine Le.bind ?_ λ_=>?_|refine Le.cond ?_ ?_|refine Le.lp λ_=>?_)
def Ad(a0:Int)(a1:aZ):Option Mt:=
 Option.bind (iT a0 (a1.length:Int)) λv1=>
 Option.bind (CD 100 (vJ a1 v1) (v1.cells,0)) λy8=>
 some ((⟨v1.rows,v1.cols,y8⟩:Mt))
theorem Jx(a0:Int)(a1:aZ):Le (Ad a0 a1) (dR a0 a1):=by
 unfold Ad dR
 repeat (with_reducible first|exact Le.rfl|refine HT _ _ _|refine Le.bind ?_ λ_=>?_|refine Le.lp λ_=>?_)
def Bl(a0:aA):Option Int:=
 Option.bind (nF a0 (λb0=>kY b0)) λv1=>
 some (v1)
theorem Hn(a0:aA):Le (Bl a0) (gW a0):=by
 unfold Bl gW
 repeat (with_reducible first|exact Le.rfl|refine Dt (λ_=>?_) _|refine Le.bind ?_ λ_=>?_)
def xB(a0:Sc)(a1:Int)(x1:(aA×Int)):Option ((aA×Int) ⊕ aA):=
 bif decide (x1.2<(a0.basis.length:Int))then
  (Option.bind (bP a0.basis x1.2) λv3=>
  Option.bind (Bl v3) λv4=>
  Option.bind (bP x1.1 v4) λv5=>
  Option.bind (Ac a1 x1.1 0 x1.1.length (wr (a1-v5)) v3) λv6=>
  bif decide (v6.length=x1.1.length)then
   (some (.inl (v6,wr (x1.2+1))))
  else none)
 else
  (some (.inr x1.1))
theorem Hv(a0:Sc)(a1:Int)(x1:(aA×Int)):Le (xB a0 a1 x1) (lP a0 a1 x1):=by
 unfold xB lP
 repeat (with_reducible first|exact Le.rfl|refine Hn _|refine Jw _ _ _ _ _ _|refine Le.bind ?_ λ_=>?_|refine Le.cond ?_ ?_)
def Bm(a0:Sc)(a1:Int)(a2:aA):Option aA:=
 Option.bind (mB a2) λv1=>
 Option.bind (CD 100 (xB a0 a1) (v1,0)) λy8=>
 some (y8)
theorem LF(a0:Sc)(a1:Int)(a2:aA):Le (Bm a0 a1 a2) (jW a0 a1 a2):=by
 unfold Bm jW
 repeat (with_reducible first|exact Le.rfl|refine Hv _ _ _|refine Le.bind ?_ λ_=>?_|refine Le.lp λ_=>?_)
def qJ(a0:Sc)(x1:(aA×Int)):Option ((aA×Int) ⊕ aA):=
 bif decide (x1.2<(a0.basis.length:Int))then
  (Option.bind (bP a0.basis x1.2) λv2=>
  Option.bind (Bl v2) λv3=>
  bif decide (x1.1.length+[v3].length <=4294967296)then
   (some (.inl ((x1.1++[v3]),wr (x1.2+1))))
  else none)
 else
  (some (.inr x1.1))
theorem FX(a0:Sc)(x1:(aA×Int)):Le (qJ a0 x1) (qG a0 x1):=by
 unfold qJ qG
 repeat (with_reducible first|exact Le.rfl|refine Hn _|refine Le.bind ?_ λ_=>?_|refine Le.cond ?_ ?_)
def kS(a0:Sc):Option aA:=
 Option.bind (CD 100 (qJ a0) ([],0)) λy5=>
 some (y5)
theorem Bn(a0:Sc):Le (kS a0) (gJ a0):=by
 unfold kS gJ
 repeat (with_reducible first|exact Le.rfl|refine FX _ _|refine Le.bind ?_ λ_=>?_|refine Le.lp λ_=>?_)
def tP(a0:Int)(a1:Sc)(v2:aA)(v4:aZ)(x1:(aZ×Int)):Option ((aZ×Int) ⊕ aZ):=
 bif decide (x1.2<((v4.length:Nat):Int))then
  (Option.bind (bP v4 x1.2) λv6=>
  Option.bind (Bm a1 a0 v6) λv7=>
  Option.bind (CD 100 (BR v2 v7) ([],0)) λy12=>
  bif decide (x1.1.length+1<=4294967296)then
   (some (.inl ((x1.1++[y12]),wr (x1.2+1))))
  else none)
 else
  (some (.inr x1.1))
theorem Gh(a0:Int)(a1:Sc)(v2:aA)(v4:aZ)(x1:(aZ×Int)):Le (tP a0 a1 v2 v4 x1) (tC a0 a1 v2 v4 x1):=by
 unfold tP tC
 repeat (with_reducible first|exact Le.rfl|refine LF _ _ _|refine Le.bind ?_ λ_=>?_|refine Le.cond ?_ ?_|refine Le.lp λ_=>?_)
def rA(a0:Int)(a1:Sc):Option Mt:=
 Option.bind (kS a1) λv1=>
 Option.bind (kZ a1.size v1) λv2=>
 Option.bind (Dr a1.size) λv3=>
 Option.bind (tM v3) λv4=>
 Option.bind (CD 100 (tP a0 a1 v2 v4) ([],0)) λy14=>
 Option.bind (Ad ((v2.length:Nat):Int) y14) λv15=>
 some (v15)
theorem Im(a0:Int)(a1:Sc):Le (rA a0 a1) (mU a0 a1):=by
 unfold rA mU
 repeat (with_reducible first|exact Le.rfl|refine Bn _|refine yI _ _|refine NO _|refine EC _|refine Gh _ _ _ _ _|refine Jx _ _|refine Le.bind ?_ λ_=>?_|refine Le.lp λ_=>?_)
def Bo(a0:Sc)(x1:(aA×Int)):Option ((aA×Int) ⊕ aA):=
 bif decide (x1.2<(a0.basis.length:Int))then
  (Option.bind (CD 100 (Fr a0 x1) 0) λy5=>
  bif decide (x1.1.length+[y5].length <=4294967296)then
   (some (.inl ((x1.1++[y5]),wr (x1.2+1))))
  else none)
 else
  (some (.inr x1.1))
theorem LG(a0:Sc)(x1:(aA×Int)):Le (Bo a0 x1) (BS a0 x1):=by
 unfold Bo BS
 repeat (with_reducible first|exact Le.rfl|refine Le.bind ?_ λ_=>?_|refine Le.cond ?_ ?_|refine Le.lp λ_=>?_)
def Bp(a0:Sc):Option aA:=
 Option.bind (CD 100 (Bo a0) (([]:aA),0)) λy7=>
 some (y7)
theorem Ho(a0:Sc):Le (Bp a0) (rL a0):=by
 unfold Bp rL
 repeat (with_reducible first|exact Le.rfl|refine LG _ _|refine Le.bind ?_ λ_=>?_|refine Le.lp λ_=>?_)
def xC(a1:Sc)(v1:aA)(x1:(aA×Int)):Option ((aA×Int) ⊕ aA):=
 bif decide (x1.2<a1.size)then
  (Option.bind (HR v1 x1.2) λv3=>
  bif !v3 then
   (bif decide (x1.1.length+[x1.2].length <=4294967296)then
    (some (.inl ((x1.1++[x1.2]),wr (x1.2+1))))
   else none)
  else
   (some (.inl (x1.1,wr (x1.2+1)))))
 else
  (some (.inr x1.1))
theorem Hw(a1:Sc)(v1:aA)(x1:(aA×Int)):Le (xC a1 v1 x1) (wU a1 v1 x1):=by
 unfold xC wU
 repeat (with_reducible first|exact Le.rfl|refine RD _ _|refine Le.bind ?_ λ_=>?_|refine Le.cond ?_ ?_)
def xD(a0:Int)(a1:Sc)(v1:aA)(y6:aA)(x2:(aA×aA×Int)):Option ((aA×aA×Int) ⊕ (aA×aA)):=
 bif decide (x2.2.2<((y6.length:Nat):Int))then
  (Option.bind (bP y6 x2.2.2) λv10=>
  Option.bind (bP x2.1 (wr ((wr (x2.2.2*a1.size))+v10))) λv11=>
  Option.bind (bP y6 x2.2.2) λv12=>
  Option.bind (bP x2.2.1 (wr ((wr (v12*((y6.length:Nat):Int)))+x2.2.2))) λv13=>
  Option.bind (CD 100 (DK a0 a1 v1 x2 y6) ((x2.1.set ((wr ((wr (x2.2.2*a1.size))+v10)).toNat) 1),0)) λy21=>
  some (.inl (y21,(x2.2.1.set ((wr ((wr (v12*((y6.length:Nat):Int)))+x2.2.2)).toNat) 1),wr (x2.2.2+1))))
 else
  (some (.inr (x2.1,x2.2.1)))
theorem Hx(a0:Int)(a1:Sc)(v1:aA)(y6:aA)(x2:(aA×aA×Int)):Le (xD a0 a1 v1 y6 x2) (wV a0 a1 v1 y6 x2):=by
 unfold xD wV
 repeat (with_reducible first|exact Le.rfl|refine Le.bind ?_ λ_=>?_|refine Le.cond ?_ ?_|refine Le.lp λ_=>?_)
def vW(a0:Int)(a1:Sc):Option (Mt×Mt):=
 Option.bind (Bp a1) λv1=>
 Option.bind (CD 100 (xC a1 v1) (([]:aA),0)) λy6=>
 Option.bind (iK ((y6.length:Nat):Int) a1.size) λv7=>
 Option.bind (iK a1.size ((y6.length:Nat):Int)) λv8=>
 Option.bind (CD 100 (xD a0 a1 v1 y6) (v7.cells,v8.cells,0)) λy22=>
 some (((⟨v7.rows,v7.cols,y22.1⟩:Mt),(⟨v8.rows,v8.cols,y22.2⟩:Mt)))
theorem LH(a0:Int)(a1:Sc):Le (vW a0 a1) (pW a0 a1):=by
 unfold vW pW
 repeat (with_reducible first|exact Le.rfl|refine Ho _|refine Hw _ _ _|refine Hx _ _ _ _ _|refine Le.bind ?_ λ_=>?_|refine Le.lp λ_=>?_)
def NP(p:Int)(x:Sc):Mt:=(rA p x).getD ⟨0,0,[]⟩
def Vw(p:Int)(x:Sc):Mt:=((vW p x).getD (⟨0,0,[]⟩,⟨0,0,[]⟩)).2
def Wp(x:Sc):aA:=(kS x).getD []
def Wq(x:Sc):aA:=(kZ x.size (Wp x)).getD []
def qOk(p:Int)(n k:Nat)(x:Sc):Bool:=
 decide (rA p x=some (NP p x))&&(decide (vW p x=some (NP p x,Vw p x))&&(decide (kS x=some (Wp x))&&(decide (Bp x=some (Wp x))&&(decide (kZ x.size (Wp x)=some (Wq x))&&
 (DZ p (NP p x)&&(DZ p (Vw p x)&&(decide ((NP p x).rows=(n-k:Nat))&&(decide ((NP p x).cols=(n:Nat))&&(decide ((Vw p x).rows=(n:Nat))&&(decide ((Vw p x).cols=(n-k:Nat))&&(decide ((Wq x).length=n-k)&&
 (decide ((Wp x).length=k)&&((List.range k).all (λj=>decide (0<=(Wp x)[j]?.getD 0)&&decide ((Wp x)[j]?.getD 0<(n:Nat)))&&
 (List.range (n-k)).all λj=>decide (0<=(Wq x)[j]?.getD 0)&&(decide ((Wq x)[j]?.getD 0<(n:Nat))&&(List.range n).all λt=>decide ((Vw p x).cells[t*(n-k)+j]?.getD 0=if(t:Int)=(Wq x)[j]?.getD 0 then 1 else 0)))))))))))))))
theorem qT2:∀p,p<2->∀n,n<3->∀k,k<n+1->((Xw (p+2) n k).all (qOk ((p+2:Nat):Int) n k))=true:=by decide+kernel
theorem qT(p:Nat)(h1:p<4)(h2:2<=p):∀n,n<3->∀k,k<n+1->((Xw p n k).all (qOk (p:Nat) n k))=true:=by
 have:=qT2 (p-2) (by omega);rw[show p-2+2=p by omega]at this;exact this
structure Qx(p:Int)(n k:Nat)(x:Sc):Prop where
 pr:mU p x=some (NP p x)
 pj:pW p x=some (NP p x,Vw p x)
 ld:gJ x=some (Wp x)
 l12:rL x=some (Wp x)
 fr:fG x.size (Wp x)=some (Wq x)
 pv:DZ p (NP p x)=true
 bv:DZ p (Vw p x)=true
 pR:(NP p x).rows=(n-k:Nat)
 pC:(NP p x).cols=(n:Nat)
 bR:(Vw p x).rows=(n:Nat)
 bC:(Vw p x).cols=(n-k:Nat)
 fl:(Wq x).length=n-k
 ll:(Wp x).length=k
 l1:∀j,j<k->0<=(Wp x)[j]?.getD 0/\(Wp x)[j]?.getD 0<(n:Nat)
 f1:∀j,j<n-k->0<=(Wq x)[j]?.getD 0/\(Wq x)[j]?.getD 0<(n:Nat)
 f2:∀j,j<n-k->∀t,t<n->(Vw p x).cells[t*(n-k)+j]?.getD 0=if(t:Int)=(Wq x)[j]?.getD 0 then 1 else 0
theorem aEm{p:Int}{n k:Nat}{x:Sc}(h:qOk p n k x=true):Qx p n k x:=by
 unfold qOk at h;simp only[cF,gG,List.all_eq_true,List.mem_range]at h;obtain⟨a1,a2,a3,a4,a5,a6,a7,a8,a9,a10,a11,a12,b1,b2,a13⟩:=h;exact⟨Im _ _ _ a1,LH _ _ _ a2,Bn _ _ a3,Ho _ _ a4,yI _ _ _ a5,a6,a7,a8,a9,a10,a11,a12,b1,b2,λj hj=>⟨(a13 j hj).1,(a13 j hj).2.1⟩,λj hj t ht=>(a13 j hj).2.2 t ht⟩
theorem aDw{p n:Nat}{k:Int}(hp:p=2∨p=3)(hn:n<=2){x:Sc}(hx:x∈TZ p n k):Qx (p:Nat) n x.basis.length x:=by
 obtain⟨_,h1,_⟩:=Ta hp hn hx;unfold TZ at hx;cases hk:zD k 0 n with
 |false=>rw[hk]at hx;simp at hx
 |true=>
  rw[hk,aI]at hx;have:=kP hk;have e:x.basis.length=k.toNat:=by omega
  rw[e];exact aEm (List.all_eq_true.1 (qT p (by omega) (by omega) n (by omega) k.toNat (by omega)) x hx)
structure PartT(r:Rp)(s:List Sc):Prop where
 P:Part r s
 q:∀v,v<r.dims.length->Qx r.p (dN r v) (sG s v).basis.length (sG s v)
theorem QV{r:Rp}(S:Sm r){d:aA}{s:List Sc}(h:s∈gQ r d):PartT r s:=by
 refine⟨Te S h,λv hv=>?_⟩;obtain⟨h1,h2⟩:=List.mem_filter.1 h;have h3:=(MP h1).2 v ⟨0,[]⟩ (by rw[tN];exact hv);rw[Td hv]at h3;have:=aDw (RB S) (S.d v hv) h3;have e:((r.p.toNat:Nat):Int)=r.p:=by have:=S.p;omega
 rw[e]at this;exact this
theorem ZJ{r:Rp}(S:Sm r){s:List Sc}(h:s∈RC r):PartT r s:=by
 obtain⟨d,_,hd⟩:=List.mem_flatMap.1 h;exact QV S hd
def kN(s:List Sc)(v:Nat):Nat:=(sG s v).basis.length
def prF(r:Rp)(s:List Sc)(v:Nat):Nat->Nat->Int:=λi j=>(NP r.p (sG s v)).cells[i*dN r v+j]?.getD 0
def bkF(r:Rp)(s:List Sc)(v:Nat):Nat->Nat->Int:=λi j=>(Vw r.p (sG s v)).cells[i*(dN r v-kN s v)+j]?.getD 0
def frN(s:List Sc)(v j:Nat):Nat:=((Wq (sG s v))[j]?.getD 0).toNat
theorem YB{p:Int}{m:Mt}{r c:Nat}(h:DZ p m=true)(hr:m.rows=r)(hc:m.cols=c):m=⟨r,c,bN r c λi j=>m.cells[i*c+j]?.getD 0⟩/\Bx p r c (λi j=>m.cells[i*c+j]?.getD 0):=by
 obtain⟨_,a,b,F,_,_,e,hF⟩:=Pi h;have ea:a=r:=by rw[e]at hr;simp only at hr;omega
 have eb:b=c:=by rw[e]at hc;simp only at hc;omega
 subst ea;subst eb;have key:∀i j,i<a->j<b->m.cells[i*b+j]?.getD 0=F i j:=λi j hi hj=>by rw[e];simp only;rw[nS F hi hj];rfl
 refine⟨?_,λi j hi hj=>by show 0<=m.cells[i*b+j]?.getD 0/\m.cells[i*b+j]?.getD 0<p;rw[key i j hi hj];exact hF i j hi hj⟩;rw[bX key];exact e
theorem aBR{r:Rp}{s:List Sc}(T:PartT r s){v:Nat}(hv:v<r.dims.length):NP r.p (sG s v)=⟨(dN r v-kN s v:Nat),(dN r v:Nat),bN (dN r v-kN s v) (dN r v) (prF r s v)⟩/\Bx r.p (dN r v-kN s v) (dN r v) (prF r s v):=YB (T.q v hv).pv (T.q v hv).pR (T.q v hv).pC
theorem aDx{r:Rp}{s:List Sc}(T:PartT r s){v:Nat}(hv:v<r.dims.length):Vw r.p (sG s v)=⟨(dN r v:Nat),(dN r v-kN s v:Nat),bN (dN r v) (dN r v-kN s v) (bkF r s v)⟩/\Bx r.p (dN r v) (dN r v-kN s v) (bkF r s v):=YB (T.q v hv).bv (T.q v hv).bR (T.q v hv).bC
theorem aBS{r:Rp}{s:List Sc}(T:PartT r s){v j:Nat}(hv:v<r.dims.length)(hj:j<dN r v-kN s v):(Wq (sG s v))[j]?.getD 0=(frN s v j:Int)/\frN s v j<dN r v:=by
 have:=(T.q v hv).f1 j hj;unfold frN;omega
theorem aCj{r:Rp}{s:List Sc}(T:PartT r s){v j:Nat}(hv:v<r.dims.length)(hj:j<dN r v-kN s v){t:Nat}(ht:t<dN r v):bkF r s v t j=if t=frN s v j then 1 else 0:=by
 have h1:=(T.q v hv).f2 j hj t ht;obtain⟨h2,h3⟩:=aBS T hv hj;rw[h2]at h1;unfold bkF kN;rw[h1];by_cases e:t=frN s v j
 .rw[aP e,aP (by omega)]
 .rw[aQ e,aQ (by omega)]
theorem SP{F U:Nat->Nat->Int}{i j f:Nat}:∀{n:Nat},(∀t,t<n->U t j=if t=f then 1 else 0)->Ev F U i j n=if f<n then F i f else 0
 |0,_=>by simp[Ev]
 |n+1,h=>by
  have ih:=SP (F:=F) (i:=i) (n:=n) λt ht=>h t (by omega);simp only[Ev];rw[ih,h n (by omega)];by_cases e:n=f
  .subst e;rw[aQ (by omega),aP rfl,aP (by omega)];omega
  .rw[aQ e];by_cases e2:f<n
   .rw[aP e2,aP (by omega)];omega
   .rw[aQ e2,aQ (by omega)];omega
def aDy(r:Rp)(s:List Sc)(i:Nat):Nat->Nat->Int:=λa b=>Bu r.p (dN r (tV r i)) (prF r s (tV r i)) (aF r i) a (frN s (sV r i) b)
def Tf(r:Rp)(s:List Sc)(i:Nat):Mt:=⟨(dN r (tV r i)-kN s (tV r i):Nat),(dN r (sV r i)-kN s (sV r i):Nat),bN (dN r (tV r i)-kN s (tV r i)) (dN r (sV r i)-kN s (sV r i)) (aDy r s i)⟩
def Bq(s:List Sc):aA:=s.map λx=>x.size-(x.basis.length:Int)
def NQ(r:Rp)(s:List Sc):Rp:=⟨r.p,r.q,Bq s,(List.range r.maps.length).map (Tf r s)⟩
theorem zB{α:Type}(n k:Nat)(f:Nat->α)(v:α):((List.range n).map f).set k v=(List.range n).map λi=>if i=k then v else f i:=by
 refine List.ext_getElem (by simp) λt h1 h2=>?_;rw[List.getElem_set,List.getElem_map,List.getElem_map,List.getElem_range];by_cases e:k=t
 .rw[aP e,aP e.symm]
 .rw[aQ e,aQ λh=>e h.symm]
theorem Al{α:Type}(k:Nat)(f:Nat->α):(List.range k).map f++[f k]=(List.range (k+1)).map f:=by rw[List.range_succ,List.map_append];rfl
theorem Vb{q:Qv}(h:bQ q):qV q=some q:=by
 unfold qV mB;have h1:q.src.length<=1048576:=h.1;have h2:q.tgt.length<=1048576:=h.2.1;rw[aS h1,aS h2];rfl
def zeM(r:Rp)(f:Nat->Nat)(i:Nat):Mt:=⟨(f (tV r i):Nat),(f (sV r i):Nat),bN (f (tV r i)) (f (sV r i)) λ_ _=>0⟩
section
variable {r:Rp}(R:Rv r)(hb:bR r){d:aA}(hl:d.length=r.dims.length){f:Nat->Nat}(hd:∀v,v<r.dims.length->d[v]?.getD 0=(f v:Int)/\f v<=8)
include R hb hl hd
theorem SQ(p:Int):lS p r.q d=some ⟨p,r.q,d,(List.range r.maps.length).map (zeM r f)⟩:=by
 unfold lS;have h5:=R.n5;have h6:=R.e6;rw[Vb hb.1,aB];unfold mB;rw[aS (by omega),aI,aB];rw[cB (r:=(List.range r.maps.length).map (zeM r f)) (λk=>((List.range k).map (zeM r f),(k:Int))) r.q.src.length (by rfl) (λi hi=>?_) (λ_=>?_),aB]
 .have s1:=hd _ (R.s i hi).2;have t1:=hd _ (R.t i hi).2;unfold pV;simp only;rw[iD hi,aI,gY 0 hi,aB,gY 0 (by have:=R.tl;omega),aB,(R.t i hi).1,gY 0 (by have:=(R.t i hi).2;omega),aB,(R.s i hi).1,gY 0 (by have:=(R.s i hi).2;omega),aB,s1.1,t1.1,Mu (by have:=Nat.mul_le_mul t1.2 s1.2;omega),aB,aS (by simp;omega),aI,bJ hi (by omega),←Al];rfl
 .unfold pV;simp only;rw[iZ (bA _),aN,R.ml]
theorem Vc(p:Int):nK p r.q d=some ⟨p,r.q,d,(List.range r.maps.length).map (zeM r f)⟩:=by
 unfold nK;have h5:=R.n5;have h6:=R.e6;rw[VI hb.1,aB,aS (by simp;omega),aI,List.nil_append];rw[cB (r:=(List.range r.maps.length).map (zeM r f)) (λk=>((List.range k).map (zeM r f),(k:Int))) r.q.src.length (by rfl) (λi hi=>?_) (λ_=>?_),aB]
 .have s1:=hd _ (R.s i hi).2;have t1:=hd _ (R.t i hi).2;unfold rJ;simp only;rw[iD hi,aI,gY 0 (by have:=R.tl;omega),aB,(R.t i hi).1,gY 0 (by have:=(R.t i hi).2;omega),aB,gY 0 hi,aB,(R.s i hi).1,gY 0 (by have:=(R.s i hi).2;omega),aB,s1.1,t1.1,IS (by have:=Nat.mul_le_mul t1.2 s1.2;omega),aB,aS (by simp;omega),aI,bJ hi (by omega),←Al];rfl
 .unfold rJ;simp only;rw[iZ (bA _),aN,R.ml]
end
theorem Du{s:List Sc}{v:Nat}(h:v<s.length):s[v]=sG s v:=by unfold sG;rw[fK h,fR]
theorem Gi{r:Rp}{s:List Sc}(S:Sm r)(T:PartT r s){v:Nat}(hv:v<r.dims.length):(Bq s)[v]?.getD 0=((dN r v-kN s v:Nat):Int)/\kN s v<=dN r v:=by
 have h1:=T.P.len;have h2:=(tL T.P.sub).2.2 v hv;unfold Bq;rw[List.getElem?_map,fK (by omega),Option.map_some,fR,Du,h2.size];have:=h2.len;unfold kN;omega
theorem ZK{r:Rp}{s:List Sc}(S:Sm r)(T:PartT r s):s.map (λx=>(NP r.p x).rows)=Bq s:=by
 refine List.ext_getElem (by simp[Bq]) λv h1 h2=>?_;have hv:v<s.length:=by simpa using h1
 have hv':v<r.dims.length:=by have:=T.P.len;omega
 have e:=Gi S T hv'
 have e2:(Bq s)[v]? =some ((dN r v-kN s v:Nat):Int):=by
  rw[fK h2]at e ⊢;simpa using e.1
 have e3:(Bq s)[v]=((dN r v-kN s v:Nat):Int):=by rw[fK h2]at e2;simpa using e2
 rw[List.getElem_map,e3,Du hv,(T.q v hv').pR];rfl
theorem aCk{r:Rp}{s:List Sc}(S:Sm r)(T:PartT r s):(Bq s).sum=r.dims.sum-(jX s).sum:=by
 have key:∀l:List Sc,(Bq l).sum=(l.map Sc.size).sum - (jX l).sum:=by
  intro l;induction l with
  |nil=>rfl
  |cons x l ih=>
   unfold Bq jX at ih ⊢;simp only[List.map_cons,List.sum_cons];omega
 have e:s.map Sc.size=r.dims:=by
  refine List.ext_getElem (by simp[T.P.len]) λv h1 h2=>?_;have hv:v<s.length:=by simpa using h1
  have h3:=((tL T.P.sub).2.2 v h2).size;rw[List.getElem_map,Du hv,h3,←(S.R.d v h2).1,fK h2,fR]
 rw[key,e]
theorem aFb{r:Rp}{s:List Sc}(S:Sm r)(T:PartT r s)(hS:mQ r=true):mQ (NQ r s)=true:=by
 have h5:=S.R.n5;have hml:=S.R.ml;have hsl:=T.P.len;have hlen:(Bq s).length=r.dims.length:=by simp[Bq,hsl]
 have hrep:=Nq hS;obtain⟨hp,hD,_,_⟩:=ME hrep;obtain⟨hQ,hd1,_,_⟩:=nH hD
 have hmem:∀x∈Bq s,0<=x/\x<=2:=by
  intro x hx;obtain⟨v,hv,e⟩:=List.mem_iff_getElem.1 hx;have hv':v<r.dims.length:=by omega
  have h1:=Gi S T hv';rw[fK hv,fR,e]at h1;have:=S.d v hv';omega
 have hsum:=aCk S T
 have hs0:0<=(jX s).sum:=by
  have key:∀l:List Sc,0<=(jX l).sum:=by
   intro l;induction l with
   |nil=>exact Int.le_refl 0
   |cons x l ih=>
    unfold jX at ih ⊢;simp only[List.map_cons,List.sum_cons];omega
  exact key s
 have h55:=S.s
 have hdv:Hd r.q (Bq s)=true:=by
  unfold Hd;simp only[cF,gG,List.all_eq_true];refine⟨hQ,by omega,λx hx=>?_,by omega⟩;have:=hmem x hx;unfold zD;simp only[cF,gG];omega
 unfold mQ;simp only[cF,gG,List.all_eq_true];refine⟨?_,by show r.p<=3;have:=S.p;omega,λx hx=>?_,by show(Bq s).sum <=5;omega⟩
 .unfold vX;simp only[cF,gG,uE];refine⟨hp,hdv,by simp[NQ];omega,λk hk=>?_⟩;have hk':k<r.maps.length:=by simpa [NQ]using hk
  have hi':k<r.q.src.length:=by omega
  have hs:=(S.R.s k hi').2;have ht:=(S.R.t k hi').2
  have e:((NQ r s).maps[k]?.getD ⟨0,0,[]⟩:Mt)=Tf r s k:=by
   show((List.range r.maps.length).map (Tf r s))[k]?.getD _=_;simp[hk']
  rw[e];have q1:=Gi S T hs;have q2:=Gi S T ht;have d1:=S.d _ hs;have d2:=S.d _ ht;refine⟨VQ hp (by omega) (by omega) (λa b ha hb=>?_),?_,?_⟩
  .exact Oc hp _ _ _ (dN r (tV r k)-kN s (tV r k)) (frN s (sV r k) b+1) a (frN s (sV r k) b) ha (by omega)
  .show((dN r (sV r k)-kN s (sV r k):Nat):Int)=(Bq s)[sV r k]?.getD 0;rw[q1.1]
  .show((dN r (tV r k)-kN s (tV r k):Nat):Int)=(Bq s)[tV r k]?.getD 0;rw[q2.1]
 .have:=hmem x hx;unfold zD;simp only[cF,gG];omega
section
variable {r:Rp}{s:List Sc}(hr:bR r)(S:Sm r)(T:PartT r s)
include hr S T
theorem aDz:tD r s=some (NQ r s,s.map (NP r.p)):=by
 have h5:=S.R.n5;have h6:=S.R.e6;have hml:=S.R.ml;have hsl:=T.P.len;unfold tD;rw[cB (r:=(Bq s,s.map (NP r.p))) (λk=>(Bq (s.take k),(s.take k).map (NP r.p),(k:Int))) s.length (by rfl) (λv hv=>?_) (λ_=>?_),aB]
 .simp only;rw[SQ S.R hr (d:=Bq s) (by simp[Bq,hsl]) (f:=λv=>dN r v-kN s v) (λv hv=>⟨(Gi S T hv).1,by have:=S.d v hv;omega⟩),aB];simp only;rw[cB (r:=(List.range r.maps.length).map (Tf r s)) (λk=>((List.range r.maps.length).map λi=>if i<k then Tf r s i else zeM r (λv=>dN r v-kN s v) i,(k:Int))) r.maps.length (by simp) (λi hi=>?_) (λ_=>?_),aB]
  .rfl
  .have hi':i<r.q.src.length:=by omega
   have hs:=(S.R.s i hi').2;have ht:=(S.R.t i hi').2;have d1:=S.d _ hs;have d2:=S.d _ ht;obtain⟨hM,hMi⟩:=S.R.m i hi';obtain⟨hP,hPi⟩:=aBR T ht;have hq:=T.q _ hs;unfold vC;simp only;rw[iD hi,aI,gY ⟨0,0,[]⟩ hi,aB,hM,gY 0 hi',aB,(S.R.s i hi').1,gY ⟨0,[]⟩ (by omega),aB,gY 0 (by have:=S.R.tl;omega),aB,(S.R.t i hi').1,gY ⟨0,0,[]⟩ (by simp;omega),aB]
   have e1:((s.map (NP r.p))[tV r i]?.getD ⟨0,0,[]⟩:Mt)=NP r.p (sG s (tV r i)):=by
    rw[List.getElem?_map,fK (by omega),Option.map_some,fR,Du]
   have m1:=Nat.mul_le_mul (show dN r (tV r i)-kN s (tV r i)<=2 by omega) d2;have m2:=Nat.mul_le_mul d2 d1;have m3:=Nat.mul_le_mul (show dN r (tV r i)-kN s (tV r i)<=2 by omega) d1;rw[e1,hP,Od S.R.hp (by omega) (by omega) (by omega) (by omega) (by omega) (by omega) hPi hMi,aB];have e2:(s[sV r i]?.getD ⟨0,[]⟩:Sc)=sG s (sV r i):=rfl;rw[e2,hq.ld,aB,hq.fr,aB];have hfl:=hq.fl;rw[cB (r:=(List.range (dN r (sV r i)-kN s (sV r i))).map λk=>eC (dN r (tV r i)-kN s (tV r i)) λa=>aDy r s i a k) (λk=>((List.range k).map λk=>eC (dN r (tV r i)-kN s (tV r i)) λa=>aDy r s i a k,(k:Int))) (dN r (sV r i)-kN s (sV r i)) (by rfl) (λk hk=>?_) (λ_=>?_),aB]
   .simp only;rw[Cw (by have:=Nat.mul_le_mul (show dN r (tV r i)-kN s (tV r i)<=2 by omega) (show dN r (sV r i)-kN s (sV r i)<=2 by omega);omega) (by omega) (by omega),aB,gY ⟨0,0,[]⟩ (by simpa using hi),aB,bJ hi (by omega),eK,zB];congr 3;refine oV λj hj=>?_;by_cases e:j=i
    .rw[aP e,aP (by omega),e];rfl
    .rw[aQ e];by_cases e2:j<i
     .rw[aP e2,aP (by omega)]
     .rw[aQ e2,aQ (by omega)]
   .obtain⟨f1,f2⟩:=aBS T hs hk;unfold vB;simp only;rw[show(Wq (sG s (sV r i))).length=dN r (sV r i)-kN s (sV r i) from hfl,iD hk,aI,gY 0 (by rw[show(Wq (sG s (sV r i))).length=dN r (sV r i)-kN s (sV r i) from hfl];exact hk),aB,f1,aAu (by omega) (by omega) f2,aB,aS (by simp;omega),aI,bJ hk (by omega),←Al];rfl
   .unfold vB;simp only;rw[show(Wq (sG s (sV r i))).length=dN r (sV r i)-kN s (sV r i) from hfl,iZ (bA _),aN]
  .unfold vC;simp only;rw[iZ (bA _),aN];congr 2;exact oV λj hj=>by rw[aP (List.mem_range.1 hj)]
 .have hv':v<r.dims.length:=by omega
  have h2:=(tL T.P.sub).2.2 v hv';have e:=Du hv;unfold vA;simp only;rw[iD hv,aI,dX hv,aB,aS (by simp[Bq];omega),aI];rw[e,(T.q v hv').pr,aB,aS (by simp;omega),aI,bJ hv (by omega),h2.size,cC (by have:=h2.len;have:=S.d v hv';omega)]
  have e3:Bq (s.take v)++[(dN r v:Int)-((sG s v).basis.length:Int)]=Bq (s.take (v+1)):=by
   unfold Bq;rw[yK hv,List.map_append,e];simp[h2.size]
  have e4:(s.take v).map (NP r.p)++[NP r.p (sG s v)]=(s.take (v+1)).map (NP r.p):=by
   rw[yK hv,List.map_append,e];rfl
  rw[e3,e4]
 .unfold vA;simp only;rw[iZ (bA _),aN,List.take_length]
theorem aBU:oK r s=some (NQ r s,s.map (NP r.p),true):=by
 have h5:=S.R.n5;have h6:=S.R.e6;have hml:=S.R.ml;have hsl:=T.P.len;unfold oK;rw[NF hr ⟨by omega,T.P.b⟩,aB,T.P.sub,dO,aN];rw[cB (r:=(Bq s,s.map (NP r.p),s.map (Vw r.p))) (λk=>((s.take k).map (λx=>(NP r.p x).rows),(s.take k).map (NP r.p),(s.take k).map (Vw r.p),(k:Int))) s.length (by rfl) (λv hv=>?_) (λ_=>?_),aB]
 .simp only;rw[Vc S.R hr (d:=Bq s) (by simp[Bq,hsl]) (f:=λv=>dN r v-kN s v) (λv hv=>⟨(Gi S T hv).1,by have:=S.d v hv;omega⟩),aB];simp only;rw[cB (r:=(List.range r.maps.length).map (Tf r s)) (λk=>((List.range r.maps.length).map λi=>if i<k then Tf r s i else zeM r (λv=>dN r v-kN s v) i,(k:Int))) r.maps.length (by simp) (λi hi=>?_) (λ_=>?_),aB]
  .rfl
  .have hi':i<r.q.src.length:=by omega
   have hs:=(S.R.s i hi').2;have ht:=(S.R.t i hi').2;have d1:=S.d _ hs;have d2:=S.d _ ht;obtain⟨hM,hMi⟩:=S.R.m i hi';obtain⟨hP,hPi⟩:=aBR T ht;obtain⟨hB,hBi⟩:=aDx T hs;unfold vE;simp only;rw[iD hi,aI,gY 0 (by have:=S.R.tl;omega),aB,(S.R.t i hi').1,gY ⟨0,0,[]⟩ (by simp;omega),aB,gY ⟨0,0,[]⟩ hi,aB,hM]
   have e1:((s.map (NP r.p))[tV r i]?.getD ⟨0,0,[]⟩:Mt)=NP r.p (sG s (tV r i)):=by
    rw[List.getElem?_map,fK (by omega),Option.map_some,fR,Du]
   have e2:((s.map (Vw r.p))[sV r i]?.getD ⟨0,0,[]⟩:Mt)=Vw r.p (sG s (sV r i)):=by
    rw[List.getElem?_map,fK (by omega),Option.map_some,fR,Du]
   have m1:=Nat.mul_le_mul (show dN r (tV r i)-kN s (tV r i)<=2 by omega) d2;have m2:=Nat.mul_le_mul d2 d1;have m3:=Nat.mul_le_mul (show dN r (tV r i)-kN s (tV r i)<=2 by omega) d1;have m4:=Nat.mul_le_mul d1 (show dN r (sV r i)-kN s (sV r i)<=2 by omega);have m5:=Nat.mul_le_mul (show dN r (tV r i)-kN s (tV r i)<=2 by omega) (show dN r (sV r i)-kN s (sV r i)<=2 by omega);have hW:=Oc S.R.hp (dN r (tV r i)) (prF r s (tV r i)) (aF r i) (dN r (tV r i)-kN s (tV r i)) (dN r (sV r i));rw[e1,hP,xM S.R.hp (by omega) (by omega) (by omega) (by omega) (by omega) (by omega) hPi hMi,aB,gY 0 hi',aB,(S.R.s i hi').1,gY ⟨0,0,[]⟩ (by simp;omega),aB,e2,hB,xM S.R.hp (by omega) (by omega) (by omega) (by omega) (by omega) (by omega) hW hBi,aB,gY ⟨0,0,[]⟩ (by simpa using hi),aB,bJ hi (by omega),eK,zB];congr 3;refine oV λj hj=>?_;by_cases e:j=i
   .rw[aP e,aP (by omega),e];unfold Tf;congr 1;refine bX λa b ha hb=>?_;obtain⟨f1,f2⟩:=aBS T hs hb;have hw:=hW a (frN s (sV r i) b) ha f2;show Ev _ _ _ _ _%_=_;rw[SP (λt ht=>aCj T hs hb ht),aP f2];exact Int.emod_eq_of_lt hw.1 hw.2
   .rw[aQ e];by_cases e2:j<i
    .rw[aP e2,aP (by omega)]
    .rw[aQ e2,aQ (by omega)]
  .unfold vE;simp only;rw[iZ (bA _),aN];congr 2;exact oV λj hj=>by rw[aP (List.mem_range.1 hj)]
 .have hv':v<r.dims.length:=by omega
  have e:=Du hv;unfold vD;simp only;rw[iD hv,aI,dX hv,aB,e,(T.q v hv').pj,aB,aS (by simp;omega),aI,aS (by simp;omega),aI,aS (by simp;omega),aI,bJ hv (by omega)];rw[yK hv,List.map_append,List.map_append,List.map_append,e];rfl
 .unfold vD;simp only;rw[iZ (bA _),aN,List.take_length,ZK S T]
theorem aBV:bR (NQ r s):=by
 have h5:=S.R.n5;have h6:=S.R.e6;have hml:=S.R.ml;have hsl:=T.P.len;refine⟨hr.1,by simp[bI,NQ,Bq];omega,⟨by simp[NQ];omega,λm hm=>?_⟩,trivial⟩;obtain⟨i,hi,rfl⟩:=List.mem_map.1 hm;have hi':i<r.q.src.length:=by have:=List.mem_range.1 hi;omega
 have d1:=S.d _ (S.R.s i hi').2;have d2:=S.d _ (S.R.t i hi').2;have m5:=Nat.mul_le_mul (show dN r (tV r i)-kN s (tV r i)<=2 by omega) (show dN r (sV r i)-kN s (sV r i)<=2 by omega);refine⟨?_,trivial⟩;unfold bI Tf;simp only;rw[dU];omega
end
end
section
theorem aCl{L:List Nat}(hL:L.length<=1048576)(k:Nat):rY (kH L) k=some (L.contains k):=by
 unfold rY;rw[aDa (n:=L.length) (λi=>decide (L[i]?.getD 0=k)) true (by omega) (λi hi=>?_) (λ_=>?_),aB]
 .have e:(List.range L.length).any (λi=>decide (L[i]?.getD 0=k))=L.contains k:=by
   rw[Bool.eq_iff_iff,List.any_eq_true,List.contains_iff_mem];constructor
   .rintro⟨i,hi,he⟩;have hi:=List.mem_range.1 hi;have he:=of_decide_eq_true he;rw[fK hi,fR]at he;subst he;exact List.getElem_mem hi
   .intro h;obtain⟨i,hi,rfl⟩:=List.mem_iff_getElem.1 h;exact⟨i,List.mem_range.2 hi,by simp[hi]⟩
  rw[e];cases L.contains k<;>rfl
 .unfold zF;rw[eX,iD hi,aI,gY 0 (by rw[eX];exact hi),aB]
  have e:decide ((kH L)[i]?.getD 0=(k:Int))=decide (L[i]?.getD 0=k):=by
   rw[Bool.eq_iff_iff,gG,gG];simp[kH,hi];omega
  rw[e];cases decide (L[i]?.getD 0=k)<;>rfl
 .unfold zF;rw[eX,iZ (bA _),aN]
theorem QW{L:List Nat}{i:Nat}(h:i<L.length):bP (kH L) (i:Int)=some ((L[i]?.getD 0:Nat):Int):=by
 rw[dX (by rw[eX];exact h)];simp[kH,h]
theorem SR{p:Int}{m:Nat}{F:Nat->Nat->Int}{t i:Nat}(h:i<(bY p m F t).2.length):(bY p m F t).2[i]?.getD 0<t:=LW t _ (cU 0 h)
theorem QX{p:Int}{m n:Nat}{F:Nat->Nat->Int}(T:Tb p m n F):zK p ⟨m,n,bN m n F⟩=some (Mb p n (bY p m F n).1 (bY p m F n).2):=by
 have hn:=T.hn;have hN:=T.hN;have hin:=tR (by have:=eY T.hp;omega:0<p) T.hi n;have hlen:=@uF p m F n;have hlen2:=@En p m F n;have hget:=@SR p m F n;unfold zK;rw[HC T,aB];generalize (bY p m F n).1=R at*;generalize (bY p m F n).2=L at*;rw[cB (r:=Mb p n R L) (λk=>((k:Int),((List.range k).filter λk=> !L.contains k).map λk=>JX p n R L k L.length)) n (by simp) (λk hk=>?_) (λ_=>?_),aB]
 .unfold AF;simp only;have hfl:((List.range k).filter λk=> !L.contains k).length <=k:=by have:=List.length_filter_le (λk=> !L.contains k) (List.range k);simpa using this
  rw[iD hk,aI,aCl (by omega),aB,List.range_succ,List.filter_append,List.map_append];cases hc:L.contains k with
  |true=>
   rw[aI,bJ hk (by omega),show [k].filter (λk=> !L.contains k)=[] by simp only[List.filter_cons,List.filter_nil,hc,dO,gH,if_false],List.map_nil,List.append_nil]
  |false=>
   rw[aN,aS (by omega),aS (by omega:(n:Int)<=1048576),Bool.and_self,aI,eK,eK,dX (by simp;exact hk),aB];rw[cB (r:=JX p n R L k L.length) (λi=>(JX p n R L k i,(i:Int))) L.length (by rfl) (λi hi=>?_) (λ_=>?_),aB]
   .rw[aS (by simp only[dM];omega),aI,bJ hk (by omega),show [k].filter (λk=> !L.contains k)=[k] by simp only[List.filter_cons,List.filter_nil,hc,Bool.not_false,if_true]];rfl
   .unfold AE;simp only;have b1:=hin i k (by omega) hk;have hp:=eY T.hp;have hv:=hget hi;rw[eX,iD hi,aI,QW hi,aB,Qp hN (by omega) hk,aB,cC (by omega),EO T.hp (by omega),aB,dX (by rw[GR];exact hv),aB,eK,bJ hi (by omega)];rfl
   .unfold AE;simp only;rw[eX,iZ (bA _),aN]
 .unfold AF;simp only;rw[iZ (bA _),aN];rfl
theorem Vd{p:Int}(hp:mA p=true){m n:Nat}{F:Nat->Nat->Int}(hi:Bx p m n F):(Mb p n (bY p m F n).1 (bY p m F n).2).length=n-rkF p m n F:=by
 have h:=IF hp hi n (bA _);have:=aAx h.inc (LW n);unfold Mb rkF;rw[dM];omega
theorem Fit.lA{a b:Rp}(h:Fit a b){v:Nat}(hv:v<a.dims.length):wr ((dN a v:Int)*(dN b v:Int))=((Proofs.YtpckeblbjdbleaaGreat.lV a b v:Nat):Int):=by
 have:=h.lV hv;unfold Proofs.YtpckeblbjdbleaaGreat.lV at*;rw[Nat.mul_comm]at this ⊢;exact Ma (by omega)
theorem YC{a b:Rp}(h:Fit a b){v:Nat}(hv:v<=a.dims.length):BC a b v=some ((dD (lV a b) v:Nat):Int):=by
 have n5:=h.ra.n5;unfold BC;rw[cB (r:=((dD (lV a b) v:Nat):Int)) (λk=>(((dD (lV a b) k:Nat):Int),(k:Int))) v (by rfl) (λk hk=>?_) (λ_=>?_),aB]
 .have hka:k<a.dims.length:=by omega
  have hkb:k<b.dims.length:=by rw[h.ne];exact hka
  have ho:=h.offV (v:=k+1) (by omega);have e:dD (lV a b) (k+1)=dD (lV a b) k+lV a b k:=rfl;unfold Db;simp only;rw[iD hk,aI,gY 0 hka,aB,gY 0 hkb,aB,(h.ra.d k hka).1,(h.rb.d k hkb).1,h.lA hka,bJ hk (by omega),cC (by omega),e];simp
 .unfold Db;simp only;rw[iZ (bA _),aN]
theorem SS{a b:Rp}(h:Fit a b):wO a b=some (nV a b:Int):=by
 have n5:=h.ra.n5;unfold wO;rw[cB (r:=(nV a b:Int)) (λk=>(((dD (lV a b) k:Nat):Int),(k:Int))) a.dims.length (by rfl) (λk hk=>?_) (λ_=>?_),aB]
 .have hkb:k<b.dims.length:=by rw[h.ne];exact hk
  have ho:=h.offV (v:=k+1) (by omega);have e:dD (lV a b) (k+1)=dD (lV a b) k+lV a b k:=rfl;unfold BD;simp only;rw[iD hk,aI,gY 0 hk,aB,gY 0 hkb,aB,(h.ra.d k hk).1,(h.rb.d k hkb).1,h.lA hk,bJ hk (by omega),cC (by omega),e];simp
 .unfold BD;simp only;rw[iZ (bA _),aN];rfl
def In(a b:Rp)(i r k j:Nat):Nat->Nat->Int:=λv z=>if v=sV a i/\z%dN a v=k/\z/dN a v<j then aF b i r (z/dN a v)else 0
def Ve(a b:Rp)(i r k j:Nat):Nat->Nat->Int:=λv z=>if v=tV a i/\z/dN a v=r/\z%dN a v<j then(In a b i r k (dN b (sV a i)) v z-aF a i (z%dN a v) k)%a.p else In a b i r k (dN b (sV a i)) v z
theorem ZL(r c:Nat)(F:Nat->Nat->Int):bN r c F++eC c (F r)=bN (r+1) c F:=by
 rw[←MF c F r,←MF c F (r+1),List.range_succ,List.map_append,List.flatten_append];simp
theorem aCm{a b:Rp}(h:Fit a b){i r k:Nat}(hi:i<a.q.src.length)(hr:r<dN b (tV a i))(hk:k<dN a (sV a i))(x1 x2 x3:Int×aA×Int)(e1:x1.2.2=i)(e2':x2.2.2=r)(e3:x3.2.2=k):
  ∃y,Lp (nB a b (sV a i) x1 x2 x3) (List.replicate (nV a b) 0,0)=some y/\Lp (nC a b (sV a i) (tV a i) x1 x2 x3) (y,0)=some (Ji (lV a b) (e2 a b i (r*dN a (sV a i)+k)) a.dims.length):=by
 have hb:=eY h.ra.hp;have n5:=h.ra.n5;obtain⟨s1,s2⟩:=h.ra.s i hi;obtain⟨t1,t2⟩:=h.ra.t i hi;have s3:sV a i<b.dims.length:=by rw[h.ne];exact s2
 have t3:tV a i<b.dims.length:=by rw[h.ne];exact t2
 have hib:i<b.q.src.length:=by rw[h.qe];exact hi
 obtain⟨m1,m2⟩:=h.ra.m i hi;obtain⟨g1,g2⟩:=h.rb.m i hib;rw[h.sV,h.tV]at g1 g2;rw[h.pe]at g2;have da:=h.ra.d _ s2;have da2:=h.ra.d _ t2;have db:=h.rb.d _ s3;have db2:=h.rb.d _ t3;have oS:=h.offV (v:=sV a i+1) s2;have oT:=h.offV (v:=tV a i+1) t2;have eS:dD (lV a b) (sV a i+1)=dD (lV a b) (sV a i)+lV a b (sV a i):=rfl;have eT:dD (lV a b) (tV a i+1)=dD (lV a b) (tV a i)+lV a b (tV a i):=rfl;refine⟨Ji (lV a b) (In a b i r k (dN b (sV a i))) a.dims.length,?_,?_⟩
 .refine cB (λj=>(Ji (lV a b) (In a b i r k j) a.dims.length,(j:Int))) (dN b (sV a i)) ?_ (λj hj=>?_) (λ_=>?_)
  .unfold nV;rw[VE];congr 1;exact Gf λv z _ _=>by unfold In;rw[aQ λq=>absurd q.2.2 (Nat.not_lt_zero _)]
  .have hz:j*dN a (sV a i)+k<lV a b (sV a i):=Fi hj hk
   have hpos:wr (wr (((dD (lV a b) (sV a i):Nat):Int)+wr ((j:Int)*(dN a (sV a i):Int)))+(k:Int))=((dD (lV a b) (sV a i)+(j*dN a (sV a i)+k):Nat):Int):=by
    rw[Ma (by omega),cC (x:=((dD (lV a b) (sV a i):Nat):Int)+((j*dN a (sV a i):Nat):Int)) (by omega),cC (by omega)];omega
   have hw:=g2 r j hr hj;unfold nB;simp only[e1,e2',e3];rw[gY 0 s3,aB,db.1,iD hj,aI,YC h (by omega),aB,gY 0 s2,aB,da.1,hpos,dX (by rw[jJ];exact pB s2 hz)];rw[aB,gY ⟨0,0,[]⟩ (by rw[h.rb.ml];exact hib),aB,aB,g1];simp only;rw[Qp (sq db2.2 db.2) hr hj,aB]
   have hv0:(Ji (lV a b) (In a b i r k j) a.dims.length)[dD (lV a b) (sV a i)+(j*dN a (sV a i)+k)]'(by rw[jJ];exact pB s2 hz)=0:=by
    have:=tH (In a b i r k j) s2 hz;rw[fK (by rw[jJ];exact pB s2 hz)]at this;rw[Option.some.inj this];unfold In;rw[aQ];rw[Ek hk];omega
   rw[hv0,Int.zero_add,cC (by omega),EO h.ra.hp (by omega),aB,aB,eK,TM s2 hz,bJ hj (by omega),Int.emod_eq_of_lt hw.1 hw.2];congr 3;refine Gf λv z hv hz2=>?_;by_cases e:v=sV a i/\z=j*dN a (sV a i)+k
   .obtain⟨rfl,rfl⟩:=e;rw[aP ⟨rfl,rfl⟩];unfold In;rw[Ek hk,El hk,aP ⟨rfl,rfl,Nat.lt_succ_self _⟩]
   .rw[aQ e];unfold In;by_cases e4:v=sV a i/\z%dN a v=k/\z/dN a v<j
    .rw[aP e4,aP ⟨e4.1,e4.2.1,by omega⟩]
    .rw[aQ e4,aQ];rintro⟨q1,q2,q3⟩
     have q4:z/dN a v=j:=by
      rcases dS (z/dN a v) j with h'|h'
      .exact absurd ⟨q1,q2,h'⟩ e4
      .omega
     refine e ⟨q1,?_⟩;rw[←@DN (dN a v) z,q4,q2,q1]
  .unfold nB;simp only[e1,e2',e3];rw[gY 0 s3,aB,db.1,iZ (bA _),aN]
 .refine cB (λj=>(Ji (lV a b) (Ve a b i r k j) a.dims.length,(j:Int))) (dN a (tV a i)) ?_ (λj hj=>?_) (λ_=>?_)
  .congr 1;exact Gf λv z _ _=>by unfold Ve;rw[aQ λq=>absurd q.2.2 (Nat.not_lt_zero _)]
  .have hz:r*dN a (tV a i)+j<lV a b (tV a i):=Fi hr hj
   have hpos:wr (wr (((dD (lV a b) (tV a i):Nat):Int)+wr ((r:Int)*(dN a (tV a i):Int)))+(j:Int))=((dD (lV a b) (tV a i)+(r*dN a (tV a i)+j):Nat):Int):=by
    rw[Ma (by omega),cC (x:=((dD (lV a b) (tV a i):Nat):Int)+((r*dN a (tV a i):Nat):Int)) (by omega),cC (by omega)];omega
   have hw:=m2 j k hj hk;unfold nC;simp only[e1,e2',e3];rw[gY 0 t2,aB,da2.1,iD hj,aI,YC h (by omega),aB,aB,hpos,dX (by rw[jJ];exact pB t2 hz)];rw[aB,gY ⟨0,0,[]⟩ (by rw[h.ra.ml];exact hi),aB,gY 0 s2,aB,m1,da.1];simp only;rw[Qp (sq da2.2 da.2) hj hk,aB]
   have hv0:(Ji (lV a b) (Ve a b i r k j) a.dims.length)[dD (lV a b) (tV a i)+(r*dN a (tV a i)+j)]'(by rw[jJ];exact pB t2 hz)=In a b i r k (dN b (sV a i)) (tV a i) (r*dN a (tV a i)+j):=by
    have:=tH (Ve a b i r k j) t2 hz;rw[fK (by rw[jJ];exact pB t2 hz)]at this;rw[Option.some.inj this];unfold Ve;rw[aQ];rw[El hj];omega
   have hbA:0<=In a b i r k (dN b (sV a i)) (tV a i) (r*dN a (tV a i)+j)/\In a b i r k (dN b (sV a i)) (tV a i) (r*dN a (tV a i)+j)<=5:=by
    unfold In;split
    .rename_i q;have:=g2 r ((r*dN a (tV a i)+j)/dN a (tV a i)) hr q.2.2;omega
    .omega
   rw[hv0];generalize hA:In a b i r k (dN b (sV a i)) (tV a i) (r*dN a (tV a i)+j)=A at*;rw[cC (x:=A-aF a i j k) (by omega),EO h.ra.hp (by omega),aB,aB,eK,TM t2 hz,bJ hj (by omega)];congr 3;refine Gf λv z hv hz2=>?_;by_cases e:v=tV a i/\z=r*dN a (tV a i)+j
   .obtain⟨rfl,rfl⟩:=e;rw[aP ⟨rfl,rfl⟩];unfold Ve;rw[Ek hj,El hj,aP ⟨rfl,rfl,Nat.lt_succ_self _⟩,hA]
   .rw[aQ e];unfold Ve;by_cases e4:v=tV a i/\z/dN a v=r/\z%dN a v<j
    .rw[aP e4,aP ⟨e4.1,e4.2.1,by omega⟩]
    .rw[aQ e4,aQ];rintro⟨q1,q2,q3⟩
     have q4:z%dN a v=j:=by
      rcases dS (z%dN a v) j with h'|h'
      .exact absurd ⟨q1,q2,h'⟩ e4
      .omega
     refine e ⟨q1,?_⟩;rw[←@DN (dN a v) z,q4,q2,q1]
  .unfold nC;simp only[e1,e2',e3];rw[gY 0 t2,aB,da2.1,iZ (bA _),aN];congr 2;refine Gf λv z hv hz2=>?_;have hzb:z<dN b v*dN a v:=hz2;obtain⟨q1,q2⟩:=Ky hzb
   have eA:In a b i r k (dN b (sV a i)) v z=if sV a i=v/\k=z%dN a v then aF b i r (z/dN a v)else 0:=by
    unfold In;by_cases e:sV a i=v/\k=z%dN a v
    .rw[aP e,aP ⟨e.1.symm,e.2.symm,by rw[e.1];exact q1⟩]
    .rw[aQ e,aQ λq=>e ⟨q.1.symm,q.2.1.symm⟩]
   unfold Ve e2 eF;rw[eA,Ek hk,El hk];by_cases e:tV a i=v/\r=z/dN a v
   .rw[aP ⟨e.1.symm,e.2.symm,by rw[e.1];exact q2⟩,aP e]
   .rw[aQ λq=>e ⟨q.1.symm,q.2.1.symm⟩,aQ e,Int.sub_zero];split
    .rename_i q;have hw:=g2 r (z/dN a v) hr (by rw[q.1];exact q1);exact(Int.emod_eq_of_lt hw.1 hw.2).symm
    .simp
theorem aEA{a b:Rp}{i y:Nat}(hi:i<a.q.src.length)(hy:y<lE a b i):Ji (lV a b) (e2 a b i y) a.dims.length=eC (nV a b) (mE a b (dD (lE a b) i+y)):=by
 symm;refine HJ (by rw[dL];rfl) λv z hv hz=>?_;have hk:dD (lV a b) v+z<nV a b:=pB hv hz;unfold eC;rw[List.getElem?_map,List.getElem?_range hk,Option.map_some];congr 1;unfold mE;rw[tH _ hi hy,fR,tH _ hv hz,fR]
theorem Io{a b:Rp}(h:Fit a b):qR a b=some ⟨nE a b,nV a b,bN (nE a b) (nV a b) (mE a b)⟩:=by
 have n5:=h.ra.n5;have e6:=h.ra.e6;have bV:=h.offV (bA _);have bE:=h.offE (bA _);have tl:=h.ra.tl;have ml:=h.ra.ml;have hV:nV a b<=80:=bV;unfold qR;rw[SS h,aB];rw[cB (r:=((nE a b:Int),bN (nE a b) (nV a b) (mE a b))) (λi=>(((dD (lE a b) i:Nat):Int),bN (dD (lE a b) i) (nV a b) (mE a b),(i:Int))) a.q.src.length (by simp[dD,bN]) (λi hi=>?_) (λ_=>?_),aB]
 .obtain⟨s1,s2⟩:=h.ra.s i hi;obtain⟨t1,t2⟩:=h.ra.t i hi;have t3:tV a i<b.dims.length:=by rw[h.ne];exact t2
  have da:=h.ra.d _ s2;have db2:=h.rb.d _ t3;have oE:=h.offE (i:=i+1) hi;have eE:dD (lE a b) (i+1)=dD (lE a b) i+dN b (tV a i)*dN a (sV a i):=rfl;unfold sO;simp only;rw[ml,iD hi,aI,gY 0 hi,aB,s1,gY 0 (by omega),aB,t1];rw[cB (r:=(((dD (lE a b) (i+1):Nat):Int),bN (dD (lE a b) (i+1)) (nV a b) (mE a b))) (λr=>(((dD (lE a b) i+r*dN a (sV a i):Nat):Int),bN (dD (lE a b) i+r*dN a (sV a i)) (nV a b) (mE a b),(r:Int))) (dN b (tV a i)) (by simp) (λr hr=>?_) (λ_=>?_),aB,bJ hi (by omega)]
  .unfold sK;simp only;rw[gY 0 t3,aB,db2.1,iD hr,aI];rw[cB (r:=(((dD (lE a b) i+(r+1)*dN a (sV a i):Nat):Int),bN (dD (lE a b) i+(r+1)*dN a (sV a i)) (nV a b) (mE a b))) (λk=>(((dD (lE a b) i+r*dN a (sV a i)+k:Nat):Int),bN (dD (lE a b) i+r*dN a (sV a i)+k) (nV a b) (mE a b),(k:Int))) (dN a (sV a i)) (by simp) (λk hk=>?_) (λ_=>?_),aB,bJ hr (by omega)]
   .unfold sJ;simp only;have hy:r*dN a (sV a i)+k<lE a b i:=Fi hr hk;have hx:dD (lE a b) i+(r*dN a (sV a i)+k)<nE a b:=pB hi hy;have hx2:nE a b<=96:=bE;have hsz:(dD (lE a b) i+r*dN a (sV a i)+k)*nV a b<=96*80:=Nat.mul_le_mul (by omega) hV;rw[gY 0 s2,aB,da.1,iD hk,aI,aS (by omega),aS (by omega:(nV a b:Int)<=1048576),Bool.and_self,aI,eK];obtain⟨y,y1,y2⟩:=aCm h hi hr hk (((dD (lE a b) i:Nat):Int),bN (dD (lE a b) i) (nV a b) (mE a b),(i:Int)) (((dD (lE a b) i+r*dN a (sV a i):Nat):Int),bN (dD (lE a b) i+r*dN a (sV a i)) (nV a b) (mE a b),(r:Int)) (((dD (lE a b) i+r*dN a (sV a i)+k:Nat):Int),bN (dD (lE a b) i+r*dN a (sV a i)+k) (nV a b) (mE a b),(k:Int)) rfl rfl rfl;rw[y1,aB,y2,aB,aEA hi hy,dU,dL,aS (by omega),aI,bJ hk (by omega),cC (by omega),←Nat.add_assoc,ZL];congr 2
   .unfold sJ;simp only;rw[gY 0 s2,aB,da.1,iZ (bA _),aN,Nat.succ_mul,Nat.add_assoc]
  .unfold sK;simp only;rw[gY 0 t3,aB,db2.1,iZ (bA _),aN,eE]
 .unfold sO;simp only;rw[ml,iZ (bA _),aN];rfl
theorem Wr{a b:Rp}(h:Fit a b){x:aA}(hx:x.length=nV a b):∃r,mM a b x=some r:=by
 have n5:=h.ra.n5;have bV:=h.offV (bA _);have hV:nV a b<=80:=bV;refine⟨(List.range a.dims.length).map λv=>(⟨dN b v,dN a v,(x.drop (dD (lV a b) v)).take (lV a b v)⟩:Mt),?_⟩;unfold mM;rw[cB (r:=(List.range a.dims.length).map λv=>(⟨dN b v,dN a v,(x.drop (dD (lV a b) v)).take (lV a b v)⟩:Mt)) (λk=>((List.range k).map (λv=>(⟨dN b v,dN a v,(x.drop (dD (lV a b) v)).take (lV a b v)⟩:Mt)),((dD (lV a b) k:Nat):Int),(k:Int))) a.dims.length (by simp[dD]) (λk hk=>?_) (λ_=>?_),aB]
 .have hkb:k<b.dims.length:=by rw[h.ne];exact hk
  have ho:=@HI (lV a b) (k+1) a.dims.length hk;have e:dD (lV a b) (k+1)=dD (lV a b) k+lV a b k:=rfl;unfold oF;simp only
  rw[iD hk,aI,gY 0 hk,aB,gY 0 hkb,aB,aB,aB,(h.ra.d k hk).1,(h.rb.d k hkb).1,h.lA hk,cC (x:=((dD (lV a b) k:Nat):Int)+((lV a b k:Nat):Int)) (by omega),hx,
   aS (by omega),aS (by omega:((dD (lV a b) k:Nat):Int)<=((dD (lV a b) k:Nat):Int)+((lV a b k:Nat):Int)),aS (by unfold nV;omega:((dD (lV a b) k:Nat):Int)+((lV a b k:Nat):Int)<=((nV a b:Nat):Int)),Bool.and_self,Bool.and_self,aI,
   show(((dD (lV a b) k:Nat):Int)+((lV a b k:Nat):Int)).toNat - ((dD (lV a b) k:Nat):Int).toNat=lV a b k by omega,eK]
  have q2:decide (((List.range k).map λv=>(⟨dN b v,dN a v,(x.drop (dD (lV a b) v)).take (lV a b v)⟩:Mt)).length +1<=4294967296)=true:=aS (by simp only[dM,List.length_range];omega);have q1:decide (([]:aA).length +((x.drop (dD (lV a b) k)).take (lV a b k)).length <=4294967296)=true:=aS (by simp only[List.length_nil,List.length_take,List.length_drop];omega);rw[q1,aI,q2,aI,List.nil_append,bJ hk (by omega),Ba (f:=λv=>(⟨dN b v,dN a v,(x.drop (dD (lV a b) v)).take (lV a b v)⟩:Mt)),e];simp
 .unfold oF;simp only;rw[iZ (bA _),aN]
def rS(a b:Rp):Bool:=vX a&&(vX b&&(decide (a.p=b.p)&&decide (a.q=b.q)))
theorem lX{a b:Rp}(h:rS a b=true):Fit a b:=by
 unfold rS at h;simp only[cF,gG]at h;exact aAy h.1 h.2.1 h.2.2.1 h.2.2.2
theorem Vf{a:Rp}(h:vX a=true):Fit a a:=aAy h h rfl rfl
def hdI(a b:Rp):Int:=if rS a b=true then(fD a b:Int)else -1
theorem Ws{a b:Rp}(ha:bR a)(hb:bR b):∃l,mO a b=some (l,rS a b)/\(rS a b=true->l.length=fD a b):=by
 unfold mO;rw[JO ha hb,aB];cases hf:vX a&&(vX b&&(decide (a.p=b.p)&&decide (a.q=b.q)))with
 |false=>
  refine⟨[],?_,λh=>by unfold rS at h;rw[hf]at h;cases h⟩;unfold rS;rw[hf];rfl
 |true=>
  have h:=lX hf;have bV:=h.offV (bA _);have hV:nV a b<=80:=bV;have hl:=Vd h.ra.hp (SE h)
  have hkl:∀v∈Mb a.p (nV a b) (bY a.p (nE a b) (mE a b) (nV a b)).1 (bY a.p (nE a b) (mE a b) (nV a b)).2,v.length=nV a b:=by
   intro v hv;unfold Mb at hv;obtain⟨k,_,rfl⟩:=List.mem_map.1 hv;exact GR _ _ _ _ _ _
  rw[dO,aN,Io h,aB,QX (Xs h),aB];generalize Mb a.p (nV a b) (bY a.p (nE a b) (mE a b) (nV a b)).1 (bY a.p (nE a b) (mE a b) (nV a b)).2=K at*;have key:=EH (body:=kX a b K) (s:=(([]:List (List Mt)),0)) (λs=>s.2=(s.1.length:Int)/\s.1.length<=K.length) (λs=>K.length-s.1.length) (λr=>r.length=K.length) ⟨rfl,Nat.zero_le _⟩ (λs ⟨h1,h2⟩=>?_)
  .obtain⟨r,h1,h2⟩:=key;rw[h1,aB];exact⟨r,by unfold rS;rw[hf],λ_=>by rw[h2,hl];rfl⟩
  .obtain⟨l,j⟩:=s;simp only at h1 h2;subst h1;unfold kX;simp only;rcases dS l.length K.length with hlt|hge
   .obtain⟨r,hr⟩:=Wr h (hkl _ (List.getElem_mem hlt));rw[iD hlt,aI,dX hlt,aB,hr,aB,aS (by omega),aI,bJ hlt (by omega)];exact .inl ⟨_,rfl,⟨by simp,by simp;omega⟩,by simp;omega⟩
   .rw[iZ hge,aN];exact .inr ⟨_,rfl,by omega⟩
theorem Ed{a b:Rp}(ha:bR a)(hb:bR b):lJ a b=some (hdI a b):=by
 obtain⟨l,h1,h2⟩:=Ws ha hb;unfold lJ hdI;rw[h1,aB];cases hf:rS a b with
 |false=>rfl
 |true=>rw[aP rfl,←h2 hf];rfl
theorem EW{a b:Rp}(h:Fit a b):fD a b<=80:=by
 have bV:=h.offV (bA _);unfold fD nV;omega
def Wt(a:Rp):Int:=if vX a=true then((dD (lV a a) a.dims.length:Nat):Int)-fD a a else -1
theorem ZM{a:Rp}(ha:bR a):tW a=some (Wt a):=by
 unfold tW Wt;rw[Ga ha,aB];cases hf:vX a with
 |false=>rfl
 |true=>
  have h:=Vf hf;have n5:=h.ra.n5;have hd:=EW h;rw[dO,aN,Ig h,aB,aP rfl,cC (by omega)];rw[cB (r:=((dD (lV a a) a.dims.length:Nat):Int)-fD a a) (λk=>(((dD (lV a a) k:Nat):Int)-fD a a,(k:Int))) a.dims.length (by simp[dD]) (λk hk=>?_) (λ_=>?_),aB]
  .have ho:=h.offV (v:=k+1) hk;have e:dD (lV a a) (k+1)=dD (lV a a) k+lV a a k:=rfl;unfold AD;simp only;rw[iD hk,aI,gY 0 hk,aB,(h.ra.d k hk).1,h.lA hk,bJ hk (by omega),cC (by omega),e];congr 3;omega
  .unfold AD;simp only;rw[iZ (bA _),aN]
theorem ZN{a:Rp}(ha:bR a):zL a=some (Wt a):=by
 unfold zL Wt;rw[Ea ha,aB];cases hf:vX a with
 |false=>rfl
 |true=>
  have h:=Vf hf;have n5:=h.ra.n5;have hd:=EW h;have bV:=h.offV (bA _);rw[dO,aN,aP rfl];rw[cB (r:=((dD (lV a a) a.dims.length:Nat):Int)) (λk=>(((dD (lV a a) k:Nat):Int),(k:Int))) a.dims.length (by simp[dD]) (λk hk=>?_) (λ_=>?_),aB,Ed ha ha,aB]
  .unfold hdI;rw[aP (by unfold rS;rw[hf];simp),cC (by omega)]
  .have ho:=h.offV (v:=k+1) hk;have e:dD (lV a a) (k+1)=dD (lV a a) k+lV a a k:=rfl;unfold AG;simp only;rw[iD hk,aI,gY 0 hk,aB,aB,(h.ra.d k hk).1,h.lA hk,bJ hk (by omega),cC (by omega),e];congr 3
  .unfold AG;simp only;rw[iZ (bA _),aN]
theorem aBW{α β:Type}{f:α->β}{l:List α}{k:Nat}(hk:k<l.length):(l.take k).map f++[f l[k]]=(l.take (k+1)).map f:=by rw[yK hk,List.map_append];rfl
theorem Wu{L:List Nat}(hL:L.length<=1048576)(k:Nat):fP (kH L) (k:Int)=some (L.contains k):=by
 have hl:=eX L;unfold fP iU;rw[Ag (s0:=0) (s:=0) (n:=L.length) (λi=>bif decide ((k:Int)=(kH L)[i]?.getD 0)then some (i:Int)else none) rfl (by omega) (Nat.zero_le _) (λi _ hi=>?_) (λ_=>?_)]
 .rw[aB];cases e:(List.range' 0 (L.length-0)).findSome? (λi:Nat=>bif decide ((k:Int)=(kH L)[i]?.getD 0)then some (i:Int)else none)with
  |none=>
   rw[List.findSome?_eq_none_iff]at e
   have:L.contains k=false:=by
    rw[Bool.eq_false_iff];intro hc;have hm:k∈L:=by simpa using hc
    obtain⟨j,hj,e2⟩:=List.mem_iff_getElem.1 hm;have:=e j (by simp;omega);have hg:(kH L)[j]?.getD 0=(k:Int):=by simp[kH,hj,e2]
    rw[hg,aS rfl]at this;cases this
   rw[this];rfl
  |some i=>
   obtain⟨j,hj,he⟩:=List.exists_of_findSome?_eq_some e;simp at hj;have hjl:j<L.length:=by omega
   have hg:(kH L)[j]?.getD 0=((L[j]:Nat):Int):=by simp[kH,hjl]
   rw[hg]at he;by_cases c:(k:Int)=((L[j]:Nat):Int)
   .rw[aS c]at he;cases he
    have:L.contains k=true:=by
     have:k=L[j]:=by omega
     rw[this];simp
    rw[this];show(Option.bind (some ((j:Nat):Int)) λv1=>some (decide (0<=v1)))=some true;rw[aB,aS (by omega)]
   .rw[bZ c]at he;cases he
 .unfold jP;rw[hl,iD hi,aI,gY 0 (by omega),aB];cases decide ((k:Int)=(kH L)[i]?.getD 0)<;>rfl
 .unfold jP;rw[hl,iZ (bA _),aN]
theorem ZO(L:List Nat)(k:Nat):DB (k+1) L=DB k L++if L.contains k=true then []else [k]:=by
 unfold DB;rw[List.range_succ,List.filter_append];congr 1;cases h:L.contains k<;>simp at h<;>simp[h]
theorem Vg(n:Nat)(L:List Nat):(DB n L).length <=n:=by
 have:=List.length_filter_le (λk=> !L.contains k) (List.range n);simpa [DB]using this
theorem Vh{n k:Nat}{L:List Nat}(h:k∈DB n L):k<n:=List.mem_range.1 (List.mem_filter.1 h).1
theorem Wv{n:Nat}{L:List Nat}(hn:n<=1048576)(hL:L.length<=1048576):fG (n:Int) (kH L)=some (kH (DB n L)):=by
 unfold fG;rw[cB (s:=(([]:aA),(0:Int))) (r:=kH (DB n L)) (λk=>(kH (DB k L),(k:Int))) n rfl (λk hk=>?_) (λ_=>?_),aB]
 .have h1:=Vg k L;unfold kQ;simp only;rw[iD hk,aI,Wu hL,aB,ZO,bJ hk (by omega)];cases hc:L.contains k
  .rw[Bool.not_false,aI,aS (by rw[eX];simp;omega),aI];simp[kH]
  .rw[dO,aN];simp
 .unfold kQ;simp only;rw[iZ (bA _),aN]
theorem aBX{p x:Int}(hp:mA p=true)(hx:0<=x/\x<p):(wr (p-x)).tmod p=(-x)%p:=by
 have hb:=eY hp;rw[cC (by omega),Int.tmod_eq_emod_of_nonneg (by omega),show p-x= -x+p*1 by omega,Int.add_mul_emod_self_left]
theorem Tg{p:Int}{m n:Nat}{F:Nat->Nat->Int}(T:Tb p m n F):Cr p ⟨m,n,bN m n F⟩=some (Mb p n (bY p m F n).1 (bY p m F n).2):=by
 have hn:=T.hn;have hN:=T.hN;have hm:=T.hm;have hin:=tR (by have:=eY T.hp;omega:0<p) T.hi n;have hlen:=@uF p m F n;have hlen2:=@En p m F n;have hget:=@SR p m F n;unfold Cr;rw[HB T,aB];simp only;generalize (bY p m F n).1=R at*;generalize (bY p m F n).2=L at*;rw[Wv hn (by omega),aB];have hfl:=Vg n L;rw[cB (s:=(([]:aZ),(0:Int))) (r:=Mb p n R L) (λk=>(((DB n L).take k).map λk=>JX p n R L k L.length,(k:Int))) (DB n L).length (by rfl) (λk hk=>?_) (λ_=>?_),aB]
 .have hf:=Vh (List.getElem_mem hk);have ef:(DB n L)[k]?.getD 0=(DB n L)[k]:=by rw[fK hk];rfl
  unfold CT;simp only;rw[eX,iD hk,aI,QW hk,aB,ef,aS (by omega),aS (by omega:(n:Int)<=1048576),Bool.and_self,aI,eK,eK,dX (by simp;exact hf),aB];rw[cB (r:=JX p n R L (DB n L)[k] L.length) (λi=>(JX p n R L (DB n L)[k] i,(i:Int))) L.length (by rfl) (λi hi=>?_) (λ_=>?_),aB]
  .rw[aS (by simp only[dM,List.length_take];omega),aI,bJ hk (by omega),aBW (f:=λk=>JX p n R L k L.length) hk]
  .have him:i<m:=by omega
   have b1:=hin i _ him hf;have hv:=hget hi;unfold CS;simp only;rw[eX,iD hi,aI,QW hi,aB,Nn hN hm him,aB,yB hN him,BB hN hm him];simp only[eK,Nat.add_sub_cancel_left];rw[aS (by omega),aS (by omega),Bool.and_self,aI,Nat.zero_add,nS R him hf,aB,Yr T.hp,aI,dX (by rw[GR];exact hv),aB,aBX T.hp b1,bJ hi (by omega)];rfl
  .unfold CS;simp only;rw[eX,iZ (bA _),aN]
 .unfold CT;simp only;rw[eX,iZ (bA _),aN,List.take_length];rfl
def Tn(P n c i:Nat):Nat:=c/P ^ (n-1-i)%P
theorem JU{p:Int}(hp:mA p=true):((p.toNat:Nat):Int)=p/\2<=p.toNat/\p.toNat<=5:=by have:=eY hp;omega
theorem aDU{p:Int}(hp:mA p=true)(n c i:Nat):0<=(Tn p.toNat n c i:Int)/\(Tn p.toNat n c i:Int)<p:=by
 have:=JU hp;have h:=Nat.mod_lt (c/p.toNat ^ (n-1-i)) (show p.toNat>0 by omega);unfold Tn;omega
theorem Ww{p:Int}(hp:mA p=true){n c:Nat}(hn:n<=100)(hc:c<=1000000):zT p (n:Int) (c:Int)=some (eC n λi=>(Tn p.toNat n c i:Int)):=by
 obtain⟨e,e2,e5⟩:=JU hp;unfold zT;rw[aS (by omega),aS (by omega:(n:Int)<=1048576),Bool.and_self,aI,eK];rw[cB (r:=eC n λi=>(Tn p.toNat n c i:Int)) (λt=>(((c/p.toNat ^ t:Nat):Int),eC n (λi=>if n-t<=i then(Tn p.toNat n c i:Int)else 0),(n:Int)-1-t)) n ?_ (λt ht=>?_) (λ_=>?_),aB]
 .rw[cC (by omega),NC];simp only[Nat.pow_zero,Nat.div_one,Nat.sub_zero];congr 2
  .exact qH λj hj=>by rw[aQ (by omega)]
  .omega
 .have ei:(n:Int)-1-(t:Int)=((n-1-t:Nat):Int):=by omega
  have hq:c/p.toNat ^ t<=c:=Nat.div_le_self _ _;have hq2:c/p.toNat ^ (t+1)<=c:=Nat.div_le_self _ _;unfold AO;simp only;rw[ei,aS (by omega),aI,Yr hp,aI,EP _ (by omega),aB,aI,eK,Int.tmod_eq_emod_of_nonneg (Int.natCast_nonneg _),Int.tdiv_eq_ediv_of_nonneg (Int.natCast_nonneg _),QA (by omega)]
  have e3:((c/p.toNat ^ t:Nat):Int)/p=((c/p.toNat ^ (t+1):Nat):Int):=by
   rw[Nat.pow_succ,←Nat.div_div_eq_div_mul];generalize c/p.toNat ^ t=q;rw[Int.natCast_ediv,e]
  have e4:((c/p.toNat ^ t:Nat):Int)%p=(Tn p.toNat n c (n-1-t):Int):=by
   unfold Tn;rw[show n-1-(n-1-t)=t by omega,Int.natCast_emod,e]
  rw[e3,e4,cC ⟨Int.le_trans (by decide) (Int.natCast_nonneg _),Int.le_trans (Int.ofNat_le.2 (Nat.le_trans hq2 hc)) (by decide)⟩,cC (by omega)];congr 4
  .refine qH λj hj=>?_;by_cases e6:j=n-1-t
   .rw[aP e6,aP (by omega),e6]
   .rw[aQ e6];by_cases e7:n-t<=j
    .rw[aP e7,aP (by omega)]
    .rw[aQ e7,aQ (by omega)]
  .omega
 .unfold AO;simp only;rw[bZ (by omega),aN];congr 2;exact qH λj hj=>by rw[aP (by omega)]
end
end Go.Proofs.YtpckeblbjdbleaaGreat

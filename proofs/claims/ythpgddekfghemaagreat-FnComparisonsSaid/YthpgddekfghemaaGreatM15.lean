/- Several texts. -/
import Derived.Test.YthpgddekfghemaaGreatProg
import Derived.Test.YthpgddekfghemaaGreatM14
set_option linter.unusedVariables false
set_option linter.unusedSimpArgs false
set_option linter.defProp false
set_option maxRecDepth 10000
set_option maxHeartbeats 4000000
namespace Go.Proofs.YthpgddekfghemaaGreat
open Go.RowKit
variable{p:Int}{r:Nat}{c:Nat}{F:Nat->Nat->Int}{i:Nat}{j:Nat}{b:Nat}{a:Rp}
section
def OU(p:Int)(m n:Nat)(F:Nat->Nat->Int):Nat:=(bX p m F n).2.length
def aAf(hp:tJ p=true)(hr:r<=8)(hc:c<=8)(hF:xQ p r c F):JP p ⟨r,c,bT r c F⟩=true:=by
 have hb:=fN hp;have h64:r*c<=64:=Nat.mul_le_mul hr hc;unfold JP;simp only[cB,iS,List.all_eq_true];refine⟨JJ (by omega) (by omega),JJ (by omega) (by omega),?_,⟨hp,by rw[fT];exact h64⟩,λx hx=>?_⟩
 .rw[fT,Lu (by omega)]
 .unfold bT at hx;obtain⟨t,ht,rfl⟩:=List.mem_map.1 hx;have ht:=List.mem_range.1 ht;have hc0:0<c:=by rcases Nat.eq_zero_or_pos c with rfl|h';simp at ht;exact h'
  have:=hF (t/c) (t%c) (Nat.div_lt_of_lt_mul (by rw[Nat.mul_comm];exact ht)) (Nat.mod_lt _ hc0);rw[dS (by omega)];exact JJ this.1 (by omega)
def Sr(hp:tJ p=true)(hr:r<=8)(hc:c<=8)(hF:xQ p r c F):AP p ⟨r,c,bT r c F⟩=some (OU p r c F:Int):=by
 have h64:r*c<=64:=Nat.mul_le_mul hr hc;unfold AP CS;rw[Pa p ⟨by unfold bI;simp only[fT];omega,trivial⟩,aAf hp hr hc hF,aC,gP,aW,KJ ⟨hp,by omega,by omega,by omega,hF⟩,aC,aC];simp only[gP,aW,gZ];rfl
def Qj(hp:tJ p=true)(m n):xQ p m n hJ:=by
 have hb:=fN hp;intro i j _ _;unfold hJ;split<;>omega
def Cc{d}(h:i<d):(List.range d)[i]?.getD 0=i:=by simp[h]
def Vp(hp:tJ p=true)(d):OU p d d hJ=d:=by
 have hR:Red d d hJ (List.range d):=by
  refine⟨λi hi=>?_,λi k hik hk=>?_,by simp,λi hi=>?_,λi k hi hk hki=>?_,λi j h1 h2 _=>?_,λi j hi hj=>?_⟩
  .simp at hi;rw[Cc hi];exact hi
  .simp at hk;rw[Cc (by omega),Cc hk];exact hik
  .simp at hi;rw[Cc hi];simp[hJ]
  .simp at hi;rw[Cc hi];simp[hJ,hki]
  .simp at h1;omega
  .simp at hi;rw[Cc hi]at hj;simp[hJ];omega
 obtain⟨⟨k,hk,e1,h3,h4⟩,_⟩:=PX hp (G:=hJ) hR (Qj hp d d) (λi j _ _=>rfl) d (bG _);have hl:(List.range d).length=d:=by simp
 rw[hl]at e1 hk h4;unfold OU;rw[e1]
 have:k=d:=by
  rcases eG k d with h|h
  .have:=h4 k (bG _) h;rw[Cc h]at this;omega
  .omega
 subst this;simp
def dN(r:Rp)(k:Nat):Nat:=(r.dims[k]?.getD 0).toNat
def mF(r:Rp)(k:Nat):Nat->Nat->Int:=λi j=>(r.maps[k]?.getD ⟨0,0,[]⟩).cells[i*dN r k+j]?.getD 0
def chF(r:Rp)(i:Nat):Nat->Nat->Nat->Int
 |0=>hJ
 |t+1=>fZ r.p (dN r (i+t)) (mF r (i+t)) (chF r i t)
def rR(r:Rp)(i j:Nat):Int:=if i<=j then(OU r.p (dN r j) (dN r i) (chF r i (j-i)):Int)else 0
def KK(r:Rp):aL:=(List.range r.dims.length).map λi=>iP r.dims.length (rR r i)
def AX{r}(h:iI r=true):tJ r.p=true/\GX r.q r.dims=true/\r.maps.length=r.q.src.length/\∀k,k<r.maps.length->JP r.p (r.maps[k]?.getD ⟨0,0,[]⟩)=true/\(r.maps[k]?.getD ⟨0,0,[]⟩).cols=r.dims[(r.q.src[k]?.getD 0).toNat]?.getD 0/\(r.maps[k]?.getD ⟨0,0,[]⟩).rows=r.dims[(r.q.tgt[k]?.getD 0).toNat]?.getD 0:=by
 unfold iI at h;simp only[cB,iS,oW]at h;exact⟨h.1,h.2.1,by omega,h.2.2.2⟩
structure Ln(r:Rp):Prop where
 hp:tJ r.p=true
 n1:1<=r.dims.length
 n5:r.dims.length<=5
 d:∀k,k<r.dims.length->r.dims[k]?.getD 0=(dN r k:Int)/\dN r k<=4
 ml:r.maps.length+1=r.dims.length
 m:∀k,k+1<r.dims.length->r.maps[k]?.getD ⟨0,0,[]⟩=⟨dN r (k+1),dN r k,bT (dN r (k+1)) (dN r k) (mF r k)⟩/\xQ r.p (dN r (k+1)) (dN r k) (mF r k)
def Vq{r}(h1:iI r=true)(h2:uV r.q=true):Ln r:=by
 obtain⟨hp,hD,hml,hM⟩:=AX h1;obtain⟨hQ,hd1,hd2,_⟩:=mK hD;obtain⟨n,hn,hn1,hn5,hq1,hq2,hq3,hq4⟩:=kT hQ;unfold uV at h2;simp only[cB,iS,oW]at h2;obtain⟨_,h3,h4⟩:=h2;rw[dS (by omega)]at h3;have hdl:r.dims.length=n:=by omega
 have hd:∀k,k<r.dims.length->r.dims[k]?.getD 0=(dN r k:Int)/\dN r k<=4:=by
  intro k hk;have:=hd2 _ (iR 0 hk);unfold dN;omega
 refine⟨hp,by omega,by omega,hd,by omega,λk hk=>?_⟩;obtain⟨g1,g2,g3⟩:=hM k (by omega);obtain⟨g4,g5⟩:=h4 k (by omega);rw[g4,fU,(hd k (by omega)).1]at g2;rw[g5,show((k:Int)+1).toNat=k+1 by omega,(hd (k+1) hk).1]at g3;obtain⟨_,a,b,F,ha,hb,he,hF⟩:=Na g1;have ea:a=dN r (k+1):=by rw[he]at g3;simp only at g3;omega
 have eb:b=dN r k:=by rw[he]at g2;simp only at g2;omega
 have em:∀i j,i<a->j<b->mF r k i j=F i j:=by
  intro i j hi hj;unfold mF;rw[he,←eb];simp only;rw[kE F hi hj];rfl
 subst ea;subst eb;rw[he];refine⟨?_,λi j hi hj=>by rw[em i j hi hj];exact hF i j hi hj⟩;rw[cE em]
def aBa{r}(L:Ln r)(i t)(m):xQ r.p m (dN r i) (chF r i t):=by
 cases t with
 |zero=>exact Qj L.hp _ _
 |succ t=>exact CE L.hp _ _ _ _ _
def Vr{r}(L:Ln r)(i):rR r i i=(dN r i:Int):=by
 unfold rR;rw[aM (bG _),Nat.sub_self];unfold chF;rw[Vp L.hp]
def Ih(r:Rp)(i j:Nat):Nat->Int:=λb=>if i<=b/\b<j then rR r i b else 0
def mB{f g}(h:∀j,j<c->f j=g j):iP c f=iP c g:=tI λj hj=>h j (List.mem_range.1 hj)
def Nm(hj:j<c)(f)(v):(iP c f).set j v=iP c (λb=>if b=j then v else f b):=by
 refine List.ext_getElem (by simp[iP]) λt h1 h2=>?_;rw[nA]at h2;rw[List.getElem_set];simp only[iP,List.getElem_map,List.getElem_range];by_cases e:j=t
 .rw[aM e,aM e.symm]
 .rw[aN e,aN (by omega)]
def Hz(c):List.replicate c (0:Int)=iP c (λ_=>0):=by
 refine List.ext_getElem (by simp[iP]) λt h1 h2=>?_;simp[iP]
def IA{r}(hij:i<=j)(hj:j<c){v}(hv:v=rR r i j):(iP c (Ih r i j)).set j v=iP c (Ih r i (j+1)):=by
 rw[Nm hj];refine mB λb hb=>?_;unfold Ih;by_cases e:b=j
 .subst e;rw[aM rfl,aM (by omega),hv]
 .rw[aN e];by_cases e2:i<=b/\b<j
  .rw[aM e2,aM (by omega)]
  .rw[aN e2,aN (by omega)]
def Ss{r}:iP c (Ih r i c)=iP c (rR r i):=by
 refine mB λb hb=>?_;unfold Ih;by_cases e:i<=b
 .rw[aM ⟨e,hb⟩]
 .rw[aN (by omega)];unfold rR;rw[aN e]
def sq{a}(ha:a<=4)(hb:b<=4):a*b<=1048576:=by have:=Nat.mul_le_mul ha hb;omega
def LW{r}(h:bR r):uJ r=some (bif iI r&&uV r.q then(KK r,true)else([],false)):=by
 unfold uJ;rw[wO h,aC];cases h1:iI r with
 |false=>rfl
 |true=>
  rw[gP,aW,Nb h.1,aC];cases h2:uV r.q with
  |false=>rfl
  |true=>
   rw[gP,aW,Bool.and_self,aJ];have L:=Vq h1 h2;have n1:=L.n1;have n5:=L.n5;have ml:=L.ml;rw[eO (r:=KK r) (λi=>((List.range i).map (λa=>iP r.dims.length (rR r a)),(i:Int))) r.dims.length (by simp) (λi hi=>?_) (λ_=>?_),aC]
   .unfold zX;simp only;have di:=L.d i hi;rw[oD hi,aJ,bF (by omega),bF (by omega:(r.dims.length:Int)<=1048576),Bool.and_self,aJ,yN 0 hi,aC,di.1,Qe (sq di.2 di.2) (by omega),aC,fU];simp only;rw[eO (r:=iP r.dims.length (rR r i)) (λt=>(iP r.dims.length (Ih r i (i+t)),((dN r (i+(t-1)):Nat):Int),((dN r i:Nat):Int),bT (dN r (i+(t-1))) (dN r i) (chF r i (t-1)),((i+t:Nat):Int))) (r.dims.length-i) ?_ (λt ht=>?_) (λ_=>?_),aC]
    .rw[bF (by simp;omega),aJ,cD hi (by omega),List.range_succ,List.map_append];rfl
    .rw[Hz,Nat.add_zero];simp only[chF,Nat.zero_sub,Nat.add_zero];congr 1;exact mB λb _=>by unfold Ih;rw[aN (by omega)]
    .unfold zW;simp only;have hj:i+t<r.dims.length:=by omega
     have dj:=L.d _ hj;rw[oD hj,aJ];cases t with
     |zero=>
      rw[fC (by omega),aW];simp only[Nat.add_zero,Nat.zero_sub,chF];rw[Sr L.hp (by omega) (by omega) (Qj L.hp _ _),aC,CD _ hi,aC,fU,IA (bG _) hi (by rw[Vr L,Vp L.hp]),cD hi (by omega)];rfl
     |succ t=>
      have dk:=L.d (i+t) (by omega);have dj2:dN r (i+t+1)<=4:=dj.2;obtain⟨m1,m2⟩:=L.m (i+t) (by omega);have hch:=aBa L i t (dN r (i+t));rw[bF (by omega),aJ,show(((i+(t+1):Nat):Int)-1)=((i+t:Nat):Int) by omega,dS (x:=((i+t:Nat):Int)) (by omega),yN ⟨0,0,[]⟩ (by omega),aC,m1];simp only[Nat.add_sub_cancel];rw[Qh (r:=dN r (i+t+1)) L.hp (sq dj.2 dk.2) (sq dk.2 di.2) (sq dj.2 di.2) (by omega) (by omega) (by omega) m2 hch,aC];rw[Sr L.hp (r:=dN r (i+t+1)) (by omega) (by omega) (CE L.hp _ _ _ _ _),aC,CD _ hj,aC,fU,IA (by omega) hj ?_,cD hj (by omega)]
      .rfl
      .unfold rR;rw[aM (by omega),show i+(t+1)-i=t+1 by omega];rfl
    .unfold zW;simp only;rw[show i+(r.dims.length-i)=r.dims.length by omega,rH (bG _),aW,Ss]
   .unfold zX;simp only;rw[rH (bG _),aW];rfl
def LX{r}(h:bR r):uM r=some (bif iI r&&uV r.q then(KK r,true)else([],false)):=by
 unfold uM;rw[Bb h,aC];cases h1:iI r with
 |false=>rfl
 |true=>
  rw[gP,aW,UW h.1,aC];cases h2:uV r.q with
  |false=>rfl
  |true=>
   rw[gP,aW,Bool.and_self,aJ];have L:=Vq h1 h2;have n1:=L.n1;have n5:=L.n5;have ml:=L.ml;rw[bF (by omega),bF (by omega:(r.dims.length:Int)<=1048576),Bool.and_self,aJ];rw[eO (r:=KK r) (λi=>((List.range r.dims.length).map (λa=>if a<i then iP r.dims.length (rR r a)else []),(i:Int))) r.dims.length ?_ (λi hi=>?_) (λ_=>?_),aC]
   .congr 1;refine List.ext_getElem (by simp) λt h1 h2=>?_;simp
   .unfold AA;simp only;have di:=L.d i hi;rw[oD hi,aJ,yN 0 hi,aC,bF (by omega),bF (by omega:(r.dims.length:Int)<=1048576),Bool.and_self,aJ,fQ (by simp;exact hi),aC,fQ (by simp;exact hi),aC,di.1,UZ (sq di.2 di.2) (by omega),aC,fU,fU];simp only;rw[eO (r:=iP r.dims.length (rR r i)) (λt=>(iP r.dims.length (Ih r i (i+1+t)),((dN r (i+t):Nat):Int),((dN r i:Nat):Int),bT (dN r (i+t)) (dN r i) (chF r i t),((i+1+t:Nat):Int))) (r.dims.length-(i+1)) ?_ (λt ht=>?_) (λ_=>?_),aC,cD hi (by omega)]
    .congr 3;refine List.ext_getElem (by simp) λt h1 h2=>?_;rw[List.getElem_set];simp only[List.getElem_map,List.getElem_range];by_cases e:i=t
     .subst e;rw[aM rfl,aM (by omega)]
     .rw[aN e];by_cases e2:t<i
      .rw[aM e2,aM (by omega)]
      .rw[aN e2,aN (by omega)]
    .rw[cD hi (by omega),Hz,Nat.add_zero,Nat.add_zero];simp only[chF];congr 1;rw[show iP r.dims.length (λ_=>(0:Int))=iP r.dims.length (Ih r i i) from mB λb _=>by unfold Ih;rw[aN (by omega)]];exact IA (bG _) hi (Vr L i).symm
    .unfold zZ;simp only;have hj:i+1+t<r.dims.length:=by omega
     have dj:=L.d _ hj;have dk:=L.d (i+t) (by omega);obtain⟨m1,m2⟩:=L.m (i+t) (by omega);have hch:=aBa L i t (dN r (i+t));rw[show i+1+t=i+t+1 by omega]at hj dj ⊢;rw[oD hj,aJ,show(((i+t+1:Nat):Int)-1)=((i+t:Nat):Int) by omega,dS (x:=((i+t:Nat):Int)) (by omega),yN ⟨0,0,[]⟩ (by omega),aC,m1];rw[Qi L.hp (sq dj.2 dk.2) (sq dk.2 di.2) (sq dj.2 di.2) (by omega) (by omega) (by omega) m2 hch,aC];rw[GL ⟨L.hp,sq dj.2 di.2,by omega,by omega,CE L.hp _ _ _ _ _⟩,aC,CD _ hj,aC,fU,IA (by omega) hj ?_,cD hj (by omega)]
     .rw[show i+1+(t+1)=i+t+1+1 by omega];rfl
     .unfold rR;rw[aM (by omega),show i+t+1-i=t+1 by omega];rfl
    .unfold zZ;simp only;rw[show i+1+(r.dims.length-(i+1))=r.dims.length by omega,rH (bG _),aW,Ss]
   .unfold AA;simp only;rw[rH (bG _),aW];congr 2;exact tI λa ha=>by rw[aM (List.mem_range.1 ha)]
def Fp(c)(f):∀n,((List.range n).map λi=>iP c (f i)).flatten=bT n c f
 |0=>by simp[bT]
 |n+1=>by
  rw[List.range_succ,List.map_append,List.flatten_append,Fp c f n];unfold bT;rw[Nat.succ_mul,List.range_add,List.map_append];congr 1;simp only[List.map_cons,List.map_nil,List.flatten_cons,List.flatten_nil,List.append_nil,List.map_map,iP];refine tI λj hj=>?_;have hj:=List.mem_range.1 hj;simp only[Function.comp];rw[EQ hj,ER hj]
def XJ{l:aL}(h:∀x∈l,x.length<=1024):l.flatten.length<=1024*l.length:=by
 induction l with
 |nil=>simp
 |cons x l ih=>
  have h1:=h x (by simp);have h2:=ih λy hy=>h y (by simp[hy]);simp only[List.flatten_cons,List.length_append,List.length_cons];omega
def IB{l:aL}{k}(hk:k<l.length):(l.take (k+1)).flatten=(l.take k).flatten++l[k]:=by
 rw[MX hk,List.flatten_append];simp
def Nn{l}(hl:l.length<=512)(h:∀x∈l,x.length<=1024):eC l=some l.flatten:=by
 have hb:∀k,(l.take k).flatten.length <=1024*512:=λk=>by
  have:=XJ (l:=l.take k) λx hx=>h x (List.mem_of_mem_take hx);have h2:(l.take k).length <=512:=by simp;omega
  omega
 unfold eC;rw[eO (r:=(l.flatten.length:Int)) (λk=>(((l.take k).flatten.length:Int),(k:Int))) l.length (by simp) (λk hk=>?_) (λ_=>?_),aC]
 .have e:=hb l.length;rw[List.take_length]at e;unfold Tz;rw[bF (by omega),bF (by omega:(l.flatten.length:Int)<=1048576),Bool.and_self,aJ,aC];rw[eO (r:=l.flatten) (λk=>((l.take k).flatten,(k:Int))) l.length (by simp) (λk hk=>?_) (λ_=>?_),aC]
  .unfold iE;simp only;have e2:=hb (k+1);rw[IB hk,List.length_append]at e2;rw[oD hk,aJ,fQ hk,aC,bF (by omega),aJ,cD hk (by omega),IB hk]
  .unfold iE;simp only;rw[rH (bG _),aW,List.take_length]
 .unfold iD;simp only;have e2:=hb (k+1);rw[IB hk,List.length_append]at e2;rw[oD hk,aJ,fQ hk,aC,dS (x:=_+_) (by omega),fC (by omega),aW,cD hk (by omega),IB hk,List.length_append,Int.natCast_add (List.take k l).flatten.length l[k].length]
 .unfold iD;simp only;rw[rH (bG _),aW,List.take_length]
def aAh(n c)(F G):(List.range (n*c)).all (λk=> !decide ((bT n c G)[k]?.getD 0<(bT n c F)[k]?.getD 0))=(List.range n).all λi=>(List.range c).all λj=> !decide (G i j<F i j):=by
 rw[Bool.eq_iff_iff,oW,oW];simp only[oW];constructor
 .intro h i hi j hj;have:=h _ (CK hi hj);rw[kE _ hi hj,kE _ hi hj]at this;exact this
 .intro h k hk;have hc:0<c:=by rcases Nat.eq_zero_or_pos c with rfl|h';simp at hk;exact h'
  have hi:k/c<n:=Nat.div_lt_of_lt_mul (by rw[Nat.mul_comm];exact hk);have hj:=Nat.mod_lt k hc;have:=h _ hi _ hj;have e:k/c*c+k%c=k:=by rw[Nat.mul_comm];exact Nat.div_add_mod k c
  rw[←e,kE _ hi hj,kE _ hi hj];exact this
def Pf{a b}(hl:a.length=b.length)(ha:bI a):yE a b=some ((List.range a.length).all λk=> !decide (b[k]?.getD 0<a[k]?.getD 0)):=by
 unfold bI at ha;unfold yE;rw[AE (λk=> !decide (b[k]?.getD 0<a[k]?.getD 0)) false (n:=a.length) (by omega) (λk hk=>?_) (λ_=>?_),aC]
 .cases (List.range a.length).all _<;>rfl
 .unfold Bm;rw[oD hk,aJ,yN 0 hk,aC,yN 0 (hl▸hk),aC];cases decide (b[k]?.getD 0<a[k]?.getD 0)<;>rfl
 .unfold Bm;rw[rH (bG _),aW]
def Qk(a b:Rp):Bool:=(List.range a.dims.length).all λi=>(List.range a.dims.length).all λj=> !decide (rR b i j<rR a i j)
def JQ(a b:Rp):Bool:=(iI a&&uV a.q)&&((iI b&&uV b.q)&&((decide (a.p=b.p)&&decide (a.q=b.q))&&(decide (a.dims=b.dims)&&Qk a b)))
def Vs{r}(h:i<r.dims.length):bY (KK r) (i:Int)=some (iP r.dims.length (rR r i)):=by
 rw[fQ (by simp[KK];exact h)];simp[KK]
def Fq(r):(KK r).length=r.dims.length:=by simp[KK]
def St{b}(ha:bR a)(hb:bR b):xE a b=some (JQ a b):=by
 unfold xE JQ;rw[LW ha,LW hb,aC,aC];cases h1:iI a&&uV a.q with
 |false=>rfl
 |true=>
  rw[aJ];simp only[gP,aW,Bool.true_and];cases h2:iI b&&uV b.q with
  |false=>rfl
  |true=>
   rw[aJ];simp only[gP,aW,Bool.true_and];have g1:=(cB _ _▸h1:iI a=true/\uV a.q=true);have g2:=(cB _ _▸h2:iI b=true/\uV b.q=true);rw[MR ha hb,g1.1,g2.1,aC,Bool.true_and,Bool.true_and];refine rC λ_=>?_;rw[HN ha.2.1,aC];refine rC λhd=>?_;have hd:=of_decide_eq_true hd;have hl:b.dims.length=a.dims.length:=by rw[hd]
   have L:=Vq g1.1 g1.2;have n5:=L.n5;rw[AE (λi=>(List.range a.dims.length).all λj=> !decide (rR b i j<rR a i j)) false (n:=a.dims.length) (by omega) (λi hi=>?_) (λ_=>?_),aC]
   .unfold Qk;cases (List.range a.dims.length).all _<;>rfl
   .unfold yC;simp only[Fq];rw[oD hi,aJ,AE (λj=> !decide (rR b i j<rR a i j)) false (n:=a.dims.length) (by omega) (λj hj=>?_) (λ_=>?_),aC]
    .cases (List.range a.dims.length).all _<;>rfl
    .unfold sE;simp only[Fq];rw[oD hj,aJ,Vs hi,aC,CD _ hj,aC,Vs (hl▸hi),aC,CD _ (hl▸hj),aC];cases decide (rR b i j<rR a i j)<;>rfl
    .unfold sE;simp only[Fq];rw[rH (bG _),aW]
   .unfold yC;simp only[Fq];rw[rH (bG _),aW]
def LY{b}(ha:bR a)(hb:bR b):sG a b=some (JQ a b):=by
 unfold sG;rw[LX ha,LX hb,aC,aC,Sn ha hb,aC]
 have key:∀o:Option Bool,((iI a&&uV a.q)=true->(iI b&&uV b.q)=true->(decide (a.p=b.p)&&decide (a.q=b.q))=true->o=some (decide (a.dims=b.dims)&&Qk a b))->
   (bif !(iI a&&(iI b&&(decide (a.p=b.p)&&decide (a.q=b.q))))then some false else bif !(bif iI a&&uV a.q then(KK a,true)else([],false)).2 then some false else bif !(bif iI b&&uV b.q then(KK b,true)else([],false)).2 then some false else o)=some (JQ a b):=by
  intro o ho;unfold JQ;cases h1:iI a<;>cases h2:uV a.q<;>cases h3:iI b<;>cases h4:uV b.q<;>cases h5:(decide (a.p=b.p)&&decide (a.q=b.q))<;>simp_all
 refine key _ λh1 h2 _=>?_;rw[h1,h2,aJ,aJ];simp only;have g1:=(cB _ _▸h1:iI a=true/\uV a.q=true);have g2:=(cB _ _▸h2:iI b=true/\uV b.q=true);rw[CZ ha.2.1,aC];refine rC λhd=>?_;have hd:=of_decide_eq_true hd;have hl:b.dims.length=a.dims.length:=by rw[hd]
 have n5:=(Vq g1.1 g1.2).n5
 have hrow:∀r:Rp,r.dims.length<=5->∀x∈KK r,x.length<=1024:=by
  intro r hr x hx;unfold KK at hx;obtain⟨i,_,rfl⟩:=List.mem_map.1 hx;rw[nA];omega
 have h25:a.dims.length*a.dims.length<=25:=Nat.mul_le_mul n5 n5;rw[Nn (by rw[Fq];omega) (hrow a n5),aC,Nn (by rw[Fq];omega) (hrow b (by omega)),aC];unfold KK;rw[Fp,Fp,hl];rw[Pf (by rw[fT,fT]) (by unfold bI;rw[fT];omega),aC,fT,aAh];rfl
open Go.ChangeShapes Go.WideShapes Go.ChangeAt Go.RowKit
end
variable{m:Nat}{n:Nat}{l':aL}{L:List Nat}{α:Type}{G:Nat->Nat->Int}{N:Nat}{β:Type}
section
def ZI{w0 w:World}{v:Value}{S:List Nat}(h:Mn w (.bl true) v S):Ending.returned v= .returned (.bool true):=by rw[h.1]
def GM(r c:Nat)(F:Nat->Nat->Int):aL:=(List.range c).map λk=>iP r λi=>F i k
def BO(r:Nat)(F:Nat->Nat->Int)(L:List Nat):aL:=L.map λk=>iP r λi=>F i k
def Ua{t}(h:i<(bX p m F t).2.length):(bX p m F t).2[i]'h<t:=HJ t _ (List.getElem_mem h)
def ZJ(hp:tJ p=true){l}(h:xQ p l.length n (fI l))(h':xQ p l'.length n (fI l'))(hK:∀x,Kr p l.length n (fI l) x↔Kr p l'.length n (fI l') x):GW p n l=GW p n l':=by
 obtain⟨e1,e2⟩:=Dn hp h h' hK;unfold GW;rw[←e1];exact NY e2
def ZK{f}:∀{n},(∀k,k<n->Z0 p (f k))->Z0 p (sN f n)
 |0,_=>by unfold Z0;simp[sN]
 |n+1,h=>FG (ZK λk hk=>h k (by omega)) (h n (by omega))
def aAi{x}:Kr p (GM r c F).length r (fI (GM r c F)) x↔ ∀k,k<c->Z0 p (dt r (λi=>F i k) x):=by
 have e:∀k,k<c->dt r (fI (GM r c F) k) x=dt r (λi=>F i k) x:=λk hk=>dL λi hi=>by simp[fI,GM,iP,hk,hi]
 have hl:(GM r c F).length=c:=by simp[GM]
 unfold Kr;rw[hl];exact⟨λh k hk=>e k hk▸h k hk,λh k hk=>(e k hk).symm ▸h k hk⟩
def XK{x}:Kr p (BO r F L).length r (fI (BO r F L)) x↔ ∀t,t<L.length->Z0 p (dt r (λi=>F i (L[t]?.getD 0)) x):=by
 have e:∀t,t<L.length->dt r (fI (BO r F L) t) x=dt r (λi=>F i (L[t]?.getD 0)) x:=λt ht=>dL λi hi=>by simp[fI,BO,iP,ht,hi]
 have hl:(BO r F L).length=L.length:=by simp[BO]
 unfold Kr;rw[hl];exact⟨λh k hk=>e k hk▸h k hk,λh k hk=>(e k hk).symm ▸h k hk⟩
def aCa{k}{R:Nat->Nat->Int}{x}:dt r (λi=>F i k-sN (λt=>F i (L[t]?.getD 0)*R t k) n) x=dt r (λi=>F i k) x-sN (λt=>R t k*dt r (λi=>F i (L[t]?.getD 0)) x) n:=by
 induction n with
 |zero=>simp[sN,dt]
 |succ n ih=>
  have e:dt r (λi=>F i k-sN (λt=>F i (L[t]?.getD 0)*R t k) (n+1)) x=dt r (λi=>(F i k-sN (λt=>F i (L[t]?.getD 0)*R t k) n)+(-(R n k))*F i (L[n]?.getD 0)) x:=dL λi hi=>by
   congr 1;show F i k-(sN (λt=>F i (L[t]?.getD 0)*R t k) n+F i (L[n]?.getD 0)*R n k)=F i k-sN (λt=>F i (L[t]?.getD 0)*R t k) n+(-(R n k))*F i (L[n]?.getD 0);rw[Int.neg_mul,Int.mul_comm (R n k)];omega
  rw[e,UP,ih,Int.neg_mul];show _=dt r (λi=>F i k) x-(sN (λt=>R t k*dt r (λi=>F i (L[t]?.getD 0)) x) n+R n k*dt r (λi=>F i (L[n]?.getD 0)) x);omega
def XL(hp:tJ p=true)(hF:xQ p r c F):GW p r (GM r c F)=GW p r (BO r F (bX p r F c).2):=by
 have hb:=fN hp;have hR:=DL hp hF c (bG _)
 have i1:xQ p (GM r c F).length r (fI (GM r c F)):=by
  intro k i hk hi;have hk:k<c:=by simpa [GM]using hk
  have e:fI (GM r c F) k i=F i k:=by simp[fI,GM,iP,hk,hi]
  rw[e];exact hF i k hi hk
 have i2:xQ p (BO r F (bX p r F c).2).length r (fI (BO r F (bX p r F c).2)):=by
  intro k i hk hi;have hk:k<(bX p r F c).2.length:=by simpa [BO]using hk
  have e:fI (BO r F (bX p r F c).2) k i=F i ((bX p r F c).2[k]):=by simp[fI,BO,iP,hk,hi]
  rw[e];exact hF i _ hi (Ua hk)
 refine ZJ hp i1 i2 λx=>?_;rw[aAi,XK];constructor
 .intro h t ht;exact h _ (hR.lt t ht)
 .intro h k hk;by_cases hL:∃i,i<(bX p r F c).2.length/\(bX p r F c).2[i]?.getD 0=k
  .obtain⟨i,h1,rfl⟩:=hL;exact h i h1
  .have hL':∀i,i<(bX p r F c).2.length->(bX p r F c).2[i]?.getD 0≠k:=λi hi e=>hL ⟨i,hi,e⟩;have hk1:=(Dm hp hF (kx (bX p r F c).1 (bX p r F c).2 k) c (bG _)).1 (Kz hR hk hL')
   have hz:Z0 p (dt r (λi=>F i k-sN (λt=>F i ((bX p r F c).2[t]?.getD 0)*(bX p r F c).1 t k) (bX p r F c).2.length) x):=by
    unfold dt;refine ZK λi hi=>?_;have:=hk1 i hi;rw[Vh hR hk hL']at this;rw[Int.mul_comm];exact yP _ this
   rw[aCa]at hz;have hs:Z0 p (sN (λt=>(bX p r F c).1 t k*dt r (λi=>F i ((bX p r F c).2[t]?.getD 0)) x) (bX p r F c).2.length):=ZK λt ht=>yP _ (h t ht);have:=FG hz hs
   rwa [Int.sub_add_cancel]at this
def vM(x:aA):Nat->Int:=λk=>x[k]?.getD 0
def Sv{p:Int}{m n:Nat}{F:Nat->Nat->Int}{L:List Nat}(h:Red m n F L){k:Nat}(hk:k<n)(hL:∀i,i<L.length->L[i]?.getD 0≠k):∀t,t<=L.length->∀c,c<n->vM (FE p n F L k t) c%p=(if c=k then 1 else -(sN (λi=>if L[i]?.getD 0=c then F i k else 0) t))%p
 |0,_,c,hc=>by
  unfold FE vM;rw[List.getElem?_set,List.length_replicate];by_cases e:c=k
  .rw[aM e.symm,aM hk,aM e];rfl
  .rw[aN λh=>e h.symm,aN e];simp[hc,sN]
 |t+1,ht,c,hc=>by
  have ih:=Sv (p:=p) h hk hL t (by omega) c hc;have hlt:=h.lt t (by omega);have hne:=hL t (by omega);unfold FE vM;rw[List.getElem?_set,EU];by_cases e:L[t]?.getD 0=c
  .rw[aM e,aM (by omega),iN,Int.emod_emod_of_dvd _ (Int.dvd_refl p),aN (by omega),sN,aM e];rw[dL (g:=λ_=>0) λi hi=>?_,Ar,Int.zero_add];rw[aN];intro e2;have:=h.inc i t hi (by omega);omega
  .rw[aN e];refine ih.trans ?_;rw[sN,aN e,Int.add_zero]
def ZL(h:Red m n F L){k}(hk:k<n)(hL:∀i,i<L.length->L[i]?.getD 0≠k)(hc:c<n):vM (FE p n F L k L.length) c%p=kx F L k c%p:=Sv h hk hL _ (bG _) c hc
def aAj{k}(hk:k<(lB n L).length):fI (Gc p n F L) k=vM (FE p n F L ((lB n L)[k]?.getD 0) L.length):=by
 funext c;unfold fI Gc vM;rw[List.getElem?_map,iL hk];rfl
def XM:(Gc p n F L).length=(lB n L).length:=by unfold Gc;rw[eD]
def aAk(h:Red m n F L){k}(hk:k<(lB n L).length)(hc:c<n):fI (Gc p n F L) k c%p=kx F L ((lB n L)[k]?.getD 0) c%p:=by
 rw[aAj hk];exact ZL h (PY hk).1 (US (PY hk).2) hc
def aAl{l}(w)(m x):dt m (Vf l x) w=OS w (fI l) m x:=dL λq _=>Int.mul_comm _ _
def Ql{l}:(GW p n l).length=(bX p l.length (fI l) n).2.length:=KG _ _ _
def Vt(hp:tJ p=true)(hF:xQ p m n F):(bX p n (λk i=>F i k) m).2.length <=(bX p m F n).2.length:=by
 have h1:=congrArg List.length (XL hp hF);have h2:(GW p m (BO m F (bX p m F n).2)).length <=(BO m F (bX p m F n).2).length:=Sh.2;rw[show(BO m F (bX p m F n).2).length=(bX p m F n).2.length from eD _]at h2;rw[Ql]at h1;have hl:(GM m n F).length=n:=by simp[GM]
 have he:∀k i,k<n->i<m->fI (GM m n F) k i=F i k:=λk i hk hi=>by simp[fI,GM,iP,hk,hi]
 have i1:xQ p n m (fI (GM m n F)):=λk i hk hi=>by rw[he k i hk hi];exact hF i k hi hk
 have i2:xQ p n m (λk i=>F i k):=λk i hk hi=>hF i k hi hk
 have h3:=(Dn hp i2 i1 λx=>⟨λh i hi=>by
  have:=h i hi
  rwa [show dt m (fI (GM m n F) i) x=dt m (λq=>F q i) x from dL λq hq=>by rw[he i q hi hq]],λh i hi=>by
  have:=h i hi
  rwa [show dt m (fI (GM m n F) i) x=dt m (λq=>F q i) x from dL λq hq=>by rw[he i q hi hq]]at this⟩).1
 rw[h3];rw[hl]at h1;omega
def XN(hp:tJ p=true){l}(hl:VecsP p n l):(bX p n (Vf l) l.length).2.length=(GW p n l).length:=by
 have i1:=hl.inP;have i2:xQ p n l.length (Vf l):=λi j hi hj=>i1 j i hj hi;have h1:=Vt hp i1;have h2:=Vt hp i2;rw[Ql];exact Nat.le_antisymm h1 h2
def aCb(hp:tJ p=true){l}(hl:VecsP p n l)(hI:Ind p n l.length (fI l)):(GW p n l).length=l.length:=by
 have h1:=(Sh (p:=p) (n:=n) (l:=l)).2;refine Classical.byContradiction λhne=>?_;have h2:=XN hp hl;have hb:=fN hp;obtain⟨c,hc,k,hk,e⟩:=JO hp (m:=n) (n:=l.length) (F:=Vf l) (λi j hi hj=>hl.inP j i hj hi) (by omega)
 have h3:=hI c (λx hx=>by
  have:=hc x hx
  rwa [aAl]at this) k hk
 unfold Z0 at h3;rw[e,Int.emod_eq_of_lt (by omega) (by omega)]at h3;omega
def sV(r:Rp)(i:Nat):Nat:=(r.q.src[i]?.getD 0).toNat
def tV(r:Rp)(i:Nat):Nat:=(r.q.tgt[i]?.getD 0).toNat
def aF(r:Rp)(i:Nat):Nat->Nat->Int:=λj k=>(r.maps[i]?.getD ⟨0,0,[]⟩).cells[j*dN r (sV r i)+k]?.getD 0
structure Rv(r:Rp):Prop where
 hp:tJ r.p=true
 n5:r.dims.length<=5
 d:∀k,k<r.dims.length->r.dims[k]?.getD 0=(dN r k:Int)/\dN r k<=4
 e6:r.q.src.length<=6
 tl:r.q.tgt.length=r.q.src.length
 ml:r.maps.length=r.q.src.length
 s:∀i,i<r.q.src.length->r.q.src[i]?.getD 0=(sV r i:Int)/\sV r i<r.dims.length
 t:∀i,i<r.q.src.length->r.q.tgt[i]?.getD 0=(tV r i:Int)/\tV r i<r.dims.length
 m:∀i,i<r.q.src.length->r.maps[i]?.getD ⟨0,0,[]⟩=⟨dN r (tV r i),dN r (sV r i),bT (dN r (tV r i)) (dN r (sV r i)) (aF r i)⟩/\xQ r.p (dN r (tV r i)) (dN r (sV r i)) (aF r i)
def Vu{r}(h:iI r=true):Rv r:=by
 obtain⟨hp,hD,hml,hM⟩:=AX h;obtain⟨hQ,hd1,hd2,_⟩:=mK hD;obtain⟨n,hn,hn1,hn5,hq1,hq2,hq3,hq4⟩:=kT hQ;have hdl:r.dims.length=n:=by omega
 have hd:∀k,k<r.dims.length->r.dims[k]?.getD 0=(dN r k:Int)/\dN r k<=4:=by
  intro k hk;have:=hd2 _ (iR 0 hk);unfold dN;omega
 have hs:∀i,i<r.q.src.length->r.q.src[i]?.getD 0=(sV r i:Int)/\sV r i<r.dims.length:=by
  intro i hi;have:=hq3 _ (iR 0 hi);unfold sV;omega
 have ht:∀i,i<r.q.src.length->r.q.tgt[i]?.getD 0=(tV r i:Int)/\tV r i<r.dims.length:=by
  intro i hi;have:=hq4 _ (iR 0 (show i<r.q.tgt.length by omega));unfold tV;omega
 refine⟨hp,by omega,hd,hq2,by omega,hml,hs,ht,λi hi=>?_⟩;obtain⟨g1,g2,g3⟩:=hM i (by omega);rw[show(r.q.src[i]?.getD 0).toNat=sV r i from rfl,(hd _ (hs i hi).2).1]at g2;rw[show(r.q.tgt[i]?.getD 0).toNat=tV r i from rfl,(hd _ (ht i hi).2).1]at g3;obtain⟨_,a,b,F,ha,hb,he,hF⟩:=Na g1;have ea:a=dN r (tV r i):=by rw[he]at g3;simp only at g3;omega
 have eb:b=dN r (sV r i):=by rw[he]at g2;simp only at g2;omega
 have em:∀j k,j<a->k<b->aF r i j k=F j k:=by
  intro j k hj hk;unfold aF;rw[he,←eb];simp only;rw[kE F hj hk];rfl
 subst ea;subst eb;rw[he];refine⟨?_,λj k hj hk=>by rw[em j k hj hk];exact hF j k hj hk⟩;rw[cE em]
structure Fit(a b:Rp):Prop where
 ra:Rv a
 rb:Rv b
 pe:b.p=a.p
 qe:b.q=a.q
 ne:b.dims.length=a.dims.length
def Qm{b}(h1:iI a=true)(h2:iI b=true)(hp:a.p=b.p)(hq:a.q=b.q):Fit a b:=by
 refine⟨Vu h1,Vu h2,hp.symm,hq.symm,?_⟩;have e1:=(mK (AX h1).2.1).2.1;have e2:=(mK (AX h2).2.1).2.1;rw[hq]at e1;omega
def Fit.sV{a b:Rp}(h:Fit a b)(i:Nat):sV b i=sV a i:=by unfold Proofs.YthpgddekfghemaaGreat.sV;rw[h.qe]
def Fit.tV{a b:Rp}(h:Fit a b)(i:Nat):tV b i=tV a i:=by unfold Proofs.YthpgddekfghemaaGreat.tV;rw[h.qe]
def lV(a b:Rp)(v:Nat):Nat:=dN b v*dN a v
def lE(a b:Rp)(i:Nat):Nat:=dN b (tV a i)*dN a (sV a i)
def Ub{l:Nat->Nat}{c:Nat}:∀{k:Nat},(∀i,i<k->l i<=c)->fD l k<=c*k
 |0,_=>Nat.zero_le _
 |k+1,h=>by
  have h1:=Ub (c:=c) (k:=k) λi hi=>h i (by omega);have h2:=h k (by omega);show fD l k+l k<=c*(k+1);rw[Nat.mul_succ];omega
def Fit.lV{a b:Rp}(h:Fit a b){v:Nat}(hv:v<a.dims.length):lV a b v<=16:=Nat.mul_le_mul (h.rb.d v (by rw[h.ne];exact hv)).2 (h.ra.d v hv).2
def Fit.lE{a b:Rp}(h:Fit a b){i:Nat}(hi:i<a.q.src.length):lE a b i<=16:=Nat.mul_le_mul (h.rb.d _ (by rw[h.ne];exact(h.ra.t i hi).2)).2 (h.ra.d _ (h.ra.s i hi).2).2
def Fit.offV{b}(h:Fit a b){v}(hv:v<=a.dims.length):fD (Proofs.YthpgddekfghemaaGreat.lV a b) v<=80:=by
 have:=Ub (l:=Proofs.YthpgddekfghemaaGreat.lV a b) (c:=16) (k:=v) λi hi=>h.lV (by omega);have:=h.ra.n5;omega
def Fit.offE{b}(h:Fit a b)(hi:i<=a.q.src.length):fD (Proofs.YthpgddekfghemaaGreat.lE a b) i<=96:=by
 have:=Ub (l:=Proofs.YthpgddekfghemaaGreat.lE a b) (c:=16) (k:=i) λj hj=>h.lE (by omega);have:=h.ra.e6;omega
def Cn{f:Nat->α}{k}(h:k<n):bY ((List.range n).map f) (k:Int)=some (f k):=by rw[fQ (by simp;exact h)];simp
def AY{f:Nat->α}{k}:(List.range k).map f++[f k]=(List.range (k+1)).map f:=by rw[List.range_succ,List.map_append];rfl
def Qn{b}(h:Fit a b):zC a b=some ((List.range a.dims.length).map λv=>(⟨dN b v,dN a v,bT (dN b v) (dN a v) λ_ _=>0⟩:Mt)):=by
 have n5:=h.ra.n5;unfold zC;rw[eO (r:=(List.range a.dims.length).map λv=>(⟨dN b v,dN a v,bT (dN b v) (dN a v) λ_ _=>0⟩:Mt)) (λk=>((List.range k).map λv=>(⟨dN b v,dN a v,bT (dN b v) (dN a v) λ_ _=>0⟩:Mt),(k:Int))) a.dims.length (by simp) (λk hk=>?_) (λ_=>?_),aC]
 .have hkb:k<b.dims.length:=by rw[h.ne];exact hk
  unfold DJ;simp only;rw[oD hk,aJ,yN 0 hk,aC,yN 0 hkb,aC,(h.ra.d k hk).1,(h.rb.d k hkb).1,HP (sq (h.rb.d k hkb).2 (h.ra.d k hk).2),aC,bF (by simp;omega),aJ,cD hk (by omega),AY (f:=λv=>(⟨dN b v,dN a v,bT (dN b v) (dN a v) λ_ _=>0⟩:Mt))]
 .unfold DJ;simp only;rw[rH (bG _),aW]
def Np{b}(h:Fit a b):tP a b=some ((List.range a.q.src.length).map λi=>(⟨dN b (tV a i),dN a (sV a i),bT (dN b (tV a i)) (dN a (sV a i)) λ_ _=>0⟩:Mt)):=by
 have e6:=h.ra.e6;have tl:=h.ra.tl;unfold tP;rw[eO (r:=(List.range a.q.src.length).map λi=>(⟨dN b (tV a i),dN a (sV a i),bT (dN b (tV a i)) (dN a (sV a i)) λ_ _=>0⟩:Mt)) (λk=>((List.range k).map λi=>(⟨dN b (tV a i),dN a (sV a i),bT (dN b (tV a i)) (dN a (sV a i)) λ_ _=>0⟩:Mt),(k:Int))) a.q.src.length (by simp) (λk hk=>?_) (λ_=>?_),aC]
 .obtain⟨s1,s2⟩:=h.ra.s k hk;obtain⟨t1,t2⟩:=h.ra.t k hk;have t3:tV a k<b.dims.length:=by rw[h.ne];exact t2
  unfold vK;simp only;rw[oD hk,aJ,yN 0 hk,aC,yN 0 (by omega),aC,t1,yN 0 t3,aC,s1,yN 0 s2,aC,(h.ra.d _ s2).1,(h.rb.d _ t3).1,HP (sq (h.rb.d _ t3).2 (h.ra.d _ s2).2),aC,bF (by simp;omega),aJ,cD hk (by omega),AY (f:=λi=>(⟨dN b (tV a i),dN a (sV a i),bT (dN b (tV a i)) (dN a (sV a i)) λ_ _=>0⟩:Mt))]
 .unfold vK;simp only;rw[rH (bG _),aW]
def Uc{k}{r c:Nat->Int}{l f}(hk:k<=1048576)(hl:fD l k<=1048576):mJ ((List.range k).map λv=>(⟨r v,c v,(List.range (l v)).map (f v)⟩:Mt))=some (Hw l f k):=by
 unfold mJ;rw[eO (r:=Hw l f k) (λj=>(Hw l f j,(j:Int))) k (by simp[Hw]) (λj hj=>?_) (λ_=>?_),aC]
 .unfold yF;simp only;have h1:=@JN l (j+1) k hj;have e:fD l (j+1)=fD l j+l j:=rfl;rw[eD,List.length_range,oD hj,aJ,Cn hj,aC];simp only;rw[mT,eD,List.length_range,bF (by omega),aJ,cD hj (by omega)];rfl
 .unfold yF;simp only;rw[eD,List.length_range,rH (bG _),aW]
def Sw{k}{r c:Nat->Int}{z:Nat->aA}{l f}(hk:k<=1048576)(hl:fD l k<=1048576)(hz:∀v,v<k->(z v).length=l v):nO ((List.range k).map λv=>(⟨r v,c v,z v⟩:Mt)) (Hw l f k)=some ((List.range k).map λv=>(⟨r v,c v,(List.range (l v)).map (f v)⟩:Mt)):=by
 unfold nO;rw[eO (r:=(List.range k).map λv=>(⟨r v,c v,(List.range (l v)).map (f v)⟩:Mt)) (λj=>((Hw l f k).drop (fD l j),(List.range j).map (λv=>(⟨r v,c v,(List.range (l v)).map (f v)⟩:Mt)),(j:Int))) k (by simp[fD]) (λj hj=>?_) (λ_=>?_),aC]
 .unfold uN;simp only;have h1:=@JN l (j+1) k hj;have e:fD l (j+1)=fD l j+l j:=rfl;rw[eD,List.length_range,oD hj,aJ,Cn hj,aC];simp only;rw[hz j hj,List.length_drop,mT];simp only[fU,Int.toNat_zero,List.drop_zero,Nat.sub_zero];rw[Yx hj];unfold nJ;rw[bF (by omega:(0:Int)<=((l j:Nat):Int)),bF (by omega:((l j:Nat):Int)<=((fD l k-fD l j:Nat):Int))];simp only[decide_true,Bool.and_self,aJ,Int.le_refl];have q1:decide (((List.range (l j)).map (f j)).length <=1048576)=true:=bF (by simp only[eD,List.length_range];omega);have q2:decide (((List.range j).map λv=>(⟨r v,c v,(List.range (l v)).map (f v)⟩:Mt)).length +1<=4294967296)=true:=bF (by simp only[eD,List.length_range];omega);simp only[q1,Bool.and_self,aJ,aC];rw[q2,aJ,cD hj (by omega),AY (f:=λv=>(⟨r v,c v,(List.range (l v)).map (f v)⟩:Mt)),List.drop_drop,List.take_of_length_le (by simp[mT];omega)];rfl
 .unfold uN;simp only;rw[eD,List.length_range,rH (bG _),aW]
def aCc(hp:tJ p=true)(hN:r*c<=1048576){r' c'}(hF:xQ p r c F)(hG:xQ p r c G){k}(hk:0<=k/\k<=5):Ep p ⟨r,c,bT r c F⟩ k ⟨r',c',bT r c G⟩=some ⟨r,c,bT r c λi j=>(F i j+k*G i j)%p⟩:=by
 have e1:∀H:Nat->Nat->Int,bT r c H=bT 1 (r*c) (λ_ y=>H (y/c) (y%c)):=by
  intro H;unfold bT;rw[Nat.one_mul];refine tI λy hy=>?_;rw[Nat.mod_eq_of_lt (List.mem_range.1 hy)]
 have e2:bT r c G=iP (r*c) (λy=>G (y/c) (y%c)):=rfl;unfold Ep gA nJ;simp only;rw[fT,bF hN,aJ,aC,aC];simp only;have:=Nh hp (r:=1) (c:=r*c) (i:=0) hN (by omega) (F:=λ_ y=>F (y/c) (y%c)) (g:=λy=>G (y/c) (y%c)) hk (λy hy=>hF _ _ (FH hy).1 (FH hy).2) (λy hy=>hG _ _ (FH hy).1 (FH hy).2);rw[Nat.zero_mul,←e2,←e1]at this;rw[fT,this,aC,fT,Nat.one_mul,bF rfl,aJ,e1 (λi j=>(F i j+k*G i j)%p)];congr 2;refine cE λa y ha hy=>?_;unfold Ng;rw[aM (by omega)]
def Nq(a b:Rp)(P:Nat->Nat->Nat->Int)(i:Nat):Nat->Nat->Int:=λr k=>
 (fZ a.p (dN b (sV a i)) (aF b i) (P (sV a i)) r k+(a.p-1)*fZ a.p (dN a (tV a i)) (P (tV a i)) (aF a i) r k)%a.p
def Qo{b}(h:Fit a b){P}(hP:∀v,v<a.dims.length->xQ a.p (dN b v) (dN a v) (P v)):xF a b ((List.range a.dims.length).map λv=>(⟨dN b v,dN a v,bT (dN b v) (dN a v) (P v)⟩:Mt))=some ((List.range a.q.src.length).map λi=>(⟨dN b (tV a i),dN a (sV a i),bT (dN b (tV a i)) (dN a (sV a i)) (Nq a b P i)⟩:Mt)):=by
 have e6:=h.ra.e6;have tl:=h.ra.tl;have hb:=fN h.ra.hp;unfold xF;rw[eO (r:=(List.range a.q.src.length).map λi=>(⟨dN b (tV a i),dN a (sV a i),bT (dN b (tV a i)) (dN a (sV a i)) (Nq a b P i)⟩:Mt)) (λk=>((List.range k).map λi=>(⟨dN b (tV a i),dN a (sV a i),bT (dN b (tV a i)) (dN a (sV a i)) (Nq a b P i)⟩:Mt),(k:Int))) a.q.src.length (by simp) (λk hk=>?_) (λ_=>?_),aC]
 .obtain⟨s1,s2⟩:=h.ra.s k hk;obtain⟨t1,t2⟩:=h.ra.t k hk;have s3:sV a k<b.dims.length:=by rw[h.ne];exact s2
  have t3:tV a k<b.dims.length:=by rw[h.ne];exact t2
  have hkb:k<b.q.src.length:=by rw[h.qe];exact hk
  obtain⟨m1,m2⟩:=h.ra.m k hk;obtain⟨g1,g2⟩:=h.rb.m k hkb;rw[h.sV,h.tV]at g1 g2;rw[h.pe]at g2;have da:=h.ra.d _ s2;have da2:=h.ra.d _ t2;have db:=h.rb.d _ s3;have db2:=h.rb.d _ t3;unfold yG;simp only;rw[oD hk,aJ,yN 0 hk,aC,yN ⟨0,0,[]⟩ (by rw[h.rb.ml];exact hkb),aC,g1,s1,Cn s2,aC];rw[Qi h.ra.hp (sq db2.2 db.2) (sq db.2 da.2) (sq db2.2 da.2) (by omega) (by omega) (by omega) g2 (hP _ s2),aC,yN 0 (by omega),aC,t1,Cn t2,aC,yN ⟨0,0,[]⟩ (by rw[h.ra.ml];exact hk),aC,m1];rw[Qi h.ra.hp (sq db2.2 da2.2) (sq da2.2 da.2) (sq db2.2 da.2) (by omega) (by omega) (by omega) (hP _ t2) m2,aC,dS (by omega)];rw[aCc h.ra.hp (sq db2.2 da.2) (CE h.ra.hp _ _ _ _ _) (CE h.ra.hp _ _ _ _ _) (by omega),aC,bF (by simp;omega),aJ,cD hk (by omega)];have:=AY (f:=λi=>(⟨dN b (tV a i),dN a (sV a i),bT (dN b (tV a i)) (dN a (sV a i)) (Nq a b P i)⟩:Mt)) (k:=k);rw[←this];rfl
 .unfold yG;simp only;rw[rH (bG _),aW]
def Ii{R}(hN:R*N<=1048576)(h1:R<=1048576)(h2:N<=1048576)(M):kK R ((List.range N).map λk=>iP R λi=>M i k)=some ⟨R,N,bT R N M⟩:=by
 unfold kK;rw[eD,List.length_range,HP hN,aC];simp only;rw[eO (r:=bT R N M) (λk=>(bT R N (λi j=>if j<k then M i j else 0),(k:Int))) N (by simp) (λk hk=>?_) (λ_=>?_),aC]
 .unfold mX;simp only;rw[eD,List.length_range,oD hk,aJ,Cn hk,aC];rw[eO (r:=bT R N (λi j=>if j<k+1 then M i j else 0)) (λx=>(bT R N (λi j=>if j<k∨(j=k/\i<x)then M i j else 0),(x:Int))) R (by simp) (λx hx=>?_) (λ_=>?_),aC,cD hk (by omega)]
  .unfold mW;simp only;rw[nA,oD hx,aJ,CD _ hx,aC,Nc hN hx hk,aC,OT hN hx hk,cD hx (by omega)];congr 3;refine cE λi j hi hj=>?_;simp only[HI];by_cases e:i=x/\j=k
   .rw[aM e,aM (by omega),e.1,e.2]
   .rw[aN e];by_cases e2:j<k∨j=k/\i<x
    .rw[aM e2,aM (by omega)]
    .rw[aN e2,aN (by omega)]
  .unfold mW;simp only;rw[nA,rH (bG _),aW];congr 2;refine cE λi j hi hj=>?_;by_cases e:j<k+1
   .rw[aM e,aM (by omega)]
   .rw[aN e,aN (by omega)]
 .unfold mX;simp only;rw[eD,List.length_range,rH (bG _),aW];congr 2;exact cE λi j hi hj=>by rw[aM hj]
def eF(a b:Rp)(i r k v j l:Nat):Int:=((if sV a i=v/\k=l then aF b i r j else 0)-(if tV a i=v/\r=j then aF a i l k else 0))%a.p
def e2(a b:Rp)(i y v z:Nat):Int:=eF a b i (y/dN a (sV a i)) (y%dN a (sV a i)) v (z/dN a v) (z%dN a v)
def mE(a b:Rp):Nat->Nat->Int:=λx k=>(Hw (lE a b) (λi y=>(Hw (lV a b) (e2 a b i y) a.dims.length)[k]?.getD 0) a.q.src.length)[x]?.getD 0
def nE(a b:Rp):Nat:=fD (lE a b) a.q.src.length
def nV(a b:Rp):Nat:=fD (lV a b) a.dims.length
def Ij{b}(h:Fit a b):xQ a.p (nE a b) (nV a b) (mE a b):=by
 intro x k hx hk;obtain⟨i,y,hi,hy,rfl⟩:=Er hx;obtain⟨v,z,hv,hz,rfl⟩:=Er hk;unfold mE;rw[uA _ hi hy,iN,uA _ hv hz,iN];exact CC h.ra.hp
def KL(F G)(i j):∀k,Fo F G i j k=sN (λt=>F i t*G t j) k
 |0=>rfl
 |k+1=>by rw[Fo,sN,KL F G i j k]
def Qp(a:Rp)(v0 z0:Nat):Nat->Nat->Nat->Int:=λv j l=>if v=v0/\j*dN a v+l=z0 then 1 else 0
def aCd(hp:tJ a.p=true)(v0 z0 v m n):xQ a.p m n (Qp a v0 z0 v):=by
 have hb:=fN hp;intro i j _ _;unfold Qp;split<;>omega
def Sx{b}(h:Fit a b){v0 z0 k}(hv:v0<a.dims.length)(hz:z0<lV a b v0)(hi:i<a.q.src.length)(hr:r<dN b (tV a i))(hk:k<dN a (sV a i)):Nq a b (Qp a v0 z0) i r k=eF a b i r k v0 (z0/dN a v0) (z0%dN a v0):=by
 have hb:=fN h.ra.hp;obtain⟨hj0,hl0⟩:=FH hz
 have key:∀v j l,l<dN a v->(v=v0/\j*dN a v+l=z0↔v=v0/\j=z0/dN a v0/\l=z0%dN a v0):=by
  intro v j l hl;constructor
  .rintro⟨rfl,rfl⟩;exact⟨rfl,(EQ hl).symm,(ER hl).symm⟩
  .rintro⟨rfl,rfl,rfl⟩;exact⟨rfl,vA⟩
 have e1:fZ a.p (dN b (sV a i)) (aF b i) (Qp a v0 z0 (sV a i)) r k=(if sV a i=v0/\k=z0%dN a v0 then aF b i r (z0/dN a v0)else 0)%a.p:=by
  unfold fZ;rw[KL];by_cases e:sV a i=v0/\k=z0%dN a v0
  .rw[aM e,BN (j:=z0/dN a v0) (by rw[e.1];exact hj0)]
   .unfold Qp;rw[aM ((key _ _ _ hk).2 ⟨e.1,rfl,e.2⟩),Int.mul_one]
   .intro t ht htj;unfold Qp;rw[aN λg=>htj ((key _ _ _ hk).1 g).2.1,Int.mul_zero]
  .rw[aN e,dL (g:=λ_=>0),Ar];intro t ht;unfold Qp;rw[aN λg=>e ⟨((key _ _ _ hk).1 g).1,((key _ _ _ hk).1 g).2.2⟩,Int.mul_zero]
 have e2:fZ a.p (dN a (tV a i)) (Qp a v0 z0 (tV a i)) (aF a i) r k=(if tV a i=v0/\r=z0/dN a v0 then aF a i (z0%dN a v0) k else 0)%a.p:=by
  unfold fZ;rw[KL];by_cases e:tV a i=v0/\r=z0/dN a v0
  .rw[aM e,BN (j:=z0%dN a v0) (by rw[e.1];exact hl0)]
   .unfold Qp;rw[aM ((key _ _ _ (by rw[e.1];exact hl0)).2 ⟨e.1,e.2,rfl⟩),Int.one_mul]
   .intro t ht htj;unfold Qp;rw[aN λg=>htj ((key _ _ _ ht).1 g).2.2,Int.zero_mul]
  .rw[aN e,dL (g:=λ_=>0),Ar];intro t ht;unfold Qp;rw[aN λg=>e ⟨((key _ _ _ ht).1 g).1,((key _ _ _ ht).1 g).2.1⟩,Int.zero_mul]
 unfold Nq eF;rw[e1,e2];generalize (if sV a i=v0/\k=z0%dN a v0 then aF b i r (z0/dN a v0)else 0)=x;generalize (if tV a i=v0/\r=z0/dN a v0 then aF a i (z0%dN a v0) k else 0)=y;rw[show x%a.p+(a.p-1)*(y%a.p)=(x%a.p-y%a.p)+a.p*(y%a.p) by rw[Int.sub_mul];omega,Int.add_mul_emod_self_left];exact(Int.sub_emod x y a.p).symm
def GN{b}(h:Fit a b):oK a b=some ⟨nE a b,nV a b,bT (nE a b) (nV a b) (mE a b)⟩:=by
 have n5:=h.ra.n5;have e6:=h.ra.e6;have bV:=h.offV (bG _);have bE:=h.offE (bG _);unfold oK;rw[Qn h,aC];have z1:mJ ((List.range a.dims.length).map λv=>(⟨dN b v,dN a v,bT (dN b v) (dN a v) λ_ _=>0⟩:Mt))=some (Hw (lV a b) (λ_ _=>0) a.dims.length):=Uc (l:=lV a b) (f:=λ_ _=>0) (by omega) (by omega);have z2:mJ ((List.range a.q.src.length).map λi=>(⟨dN b (tV a i),dN a (sV a i),bT (dN b (tV a i)) (dN a (sV a i)) λ_ _=>0⟩:Mt))=some (Hw (lE a b) (λ_ _=>0) a.q.src.length):=Uc (l:=lE a b) (f:=λ_ _=>0) (by omega) (by omega);rw[z1,aC];rw[eO (r:=(List.range (nV a b)).map λk=>iP (nE a b) λx=>mE a b x k) (λk=>((List.range k).map (λk=>iP (nE a b) λx=>mE a b x k),(k:Int))) (nV a b) (by simp) (λk hk=>?_) (λ_=>?_),aC,Np h,aC,z2,aC,mT]
 .have:=Ii (R:=nE a b) (N:=nV a b) (Nat.le_trans (Nat.mul_le_mul bE bV) (by decide)) (by unfold nE;omega) (by unfold nV;omega) (mE a b);unfold nE at this ⊢;rw[this,aC]
 .obtain⟨v0,z0,hv0,hz0,ek⟩:=Er hk;unfold yH;simp only[mT];rw[show fD (lV a b) a.dims.length=nV a b from rfl,oD hk,aJ,bF (by omega),bF (by unfold nV;omega:((nV a b:Nat):Int)<=1048576),Bool.and_self,aJ,fU,fU,fQ (by simp;exact hk),aC]
  have eu:(List.replicate (nV a b) (0:Int)).set k 1=Hw (lV a b) (λv z=>if v=v0/\z=z0 then 1 else 0) a.dims.length:=by
   unfold nV;rw[Si,ek,QZ hv0 hz0]
  rw[eu,Sw (l:=lV a b) (r:=λv=>(dN b v:Int)) (c:=λv=>(dN a v:Int)) (z:=λv=>bT (dN b v) (dN a v) λ_ _=>0) (by omega) (by omega) (λv _=>fT _ _ _),aC]
  have eb:((List.range a.dims.length).map λv=>(⟨dN b v,dN a v,(List.range (lV a b v)).map (λz=>if v=v0/\z=z0 then(1:Int)else 0)⟩:Mt))=(List.range a.dims.length).map λv=>(⟨dN b v,dN a v,bT (dN b v) (dN a v) (Qp a v0 z0 v)⟩:Mt):=by
   refine tI λv hv=>?_;congr 1;refine Yy λy hy=>?_;unfold Qp;rw[vA]
  rw[eb,Qo h (λv _=>aCd h.ra.hp _ _ _ _ _),aC];have ef:mJ ((List.range a.q.src.length).map λi=>(⟨dN b (tV a i),dN a (sV a i),bT (dN b (tV a i)) (dN a (sV a i)) (Nq a b (Qp a v0 z0) i)⟩:Mt))=some (Hw (lE a b) (λi y=>Nq a b (Qp a v0 z0) i (y/dN a (sV a i)) (y%dN a (sV a i))) a.q.src.length):=Uc (l:=lE a b) (f:=λi y=>Nq a b (Qp a v0 z0) i (y/dN a (sV a i)) (y%dN a (sV a i))) (by omega) (by omega);rw[ef,aC,bF (by simp;unfold nV at hk;omega),aJ,cD hk (by unfold nV;omega),←AY (f:=λk=>iP (nE a b) λx=>mE a b x k)];congr 5;symm;refine Hx (by rw[nA];rfl) λi y hi hy=>?_;have hx:fD (lE a b) i+y<nE a b:=rM hi hy;unfold iP;rw[List.getElem?_map,List.getElem?_range hx,Option.map_some];congr 1;obtain⟨q1,q2⟩:=FH hy;rw[Sx h hv0 hz0 hi q1 q2];unfold mE;rw[uA _ hi hy,iN,ek,uA _ hv0 hz0,iN];rfl
 .unfold yH;simp only[mT];rw[show fD (lV a b) a.dims.length=nV a b from rfl,rH (bG _),aW]
def Vv{b}(h:Fit a b):Tb a.p (nE a b) (nV a b) (mE a b):=by
 have bV:=h.offV (bG _);have bE:=h.offE (bG _);exact⟨h.ra.hp,Nat.le_trans (Nat.mul_le_mul bE bV) (by decide),by unfold nE;omega,by unfold nV;omega,Ij h⟩
def kU(a b:Rp):Nat:=nV a b-OU a.p (nE a b) (nV a b) (mE a b)
def aBb{p:Int}{m n:Nat}{F:Nat->Nat->Int}:OU p m n F<=n:=ET n
def Fs{b}(h:Fit a b):lG a b=some (kU a b:Int):=by
 have bV:=h.offV (bG _);unfold lG;rw[GN h,aC,GL (Vv h),aC];have:=@aBb a.p (nE a b) (nV a b) (mE a b);have e:((bX a.p (nE a b) (mE a b) (nV a b)).2.length)=OU a.p (nE a b) (nV a b) (mE a b):=rfl;simp only;rw[e,dS (by unfold nV at*;omega)];unfold kU;congr 1;omega
def aAm(hL:L.length<=1048576)(k:Nat):Dh (mM L) k=some (L.contains k):=by
 unfold Dh;rw[aCQ (n:=L.length) (λi=>decide (L[i]?.getD 0=k)) true (by omega) (λi hi=>?_) (λ_=>?_),aC]
 .have e:(List.range L.length).any (λi=>decide (L[i]?.getD 0=k))=L.contains k:=by
   rw[Bool.eq_iff_iff,List.any_eq_true,List.contains_iff_mem];constructor
   .rintro⟨i,hi,he⟩;have hi:=List.mem_range.1 hi;have he:=of_decide_eq_true he;rw[iL hi,iN]at he;subst he;exact List.getElem_mem hi
   .intro h;obtain⟨i,hi,rfl⟩:=List.mem_iff_getElem.1 h;exact⟨i,List.mem_range.2 hi,by simp[hi]⟩
  rw[e];cases L.contains k<;>rfl
 .unfold DF;rw[gZ,oD hi,aJ,yN 0 (by rw[gZ];exact hi),aC]
  have e:decide ((mM L)[i]?.getD 0=(k:Int))=decide (L[i]?.getD 0=k):=by
   rw[Bool.eq_iff_iff,iS,iS];simp[mM,hi];omega
  rw[e];cases decide (L[i]?.getD 0=k)<;>rfl
 .unfold DF;rw[gZ,rH (bG _),aW]
def Nr(h:i<L.length):bY (mM L) (i:Int)=some ((L[i]?.getD 0:Nat):Int):=by
 rw[fQ (by rw[gZ];exact h)];simp[mM,h]
def Pg{p:Int}{m:Nat}{F:Nat->Nat->Int}{t i}(h:i<(bX p m F t).2.length):(bX p m F t).2[i]?.getD 0<t:=HJ t _ (iR 0 h)
def Ud(T:Tb p m n F):Aj p ⟨m,n,bT m n F⟩=some (Gc p n (bX p m F n).1 (bX p m F n).2):=by
 have hn:=T.hn;have hN:=T.hN;have hin:=CA (by have:=fN T.hp;omega:0<p) T.hi n;have hlen:=@Ba p m F n;have hlen2:=@ET p m F n;have hget:=@Pg p m F n;unfold Aj;rw[KJ T,aC];generalize (bX p m F n).1=R at*;generalize (bX p m F n).2=L at*;rw[eO (r:=Gc p n R L) (λk=>((k:Int),((List.range k).filter λk=> !L.contains k).map λk=>FE p n R L k L.length)) n (by simp) (λk hk=>?_) (λ_=>?_),aC]
 .unfold BJ;simp only;have hfl:((List.range k).filter λk=> !L.contains k).length <=k:=by have:=List.length_filter_le (λk=> !L.contains k) (List.range k);simpa using this
  rw[oD hk,aJ,aAm (by omega),aC,List.range_succ,List.filter_append,List.map_append];cases hc:L.contains k with
  |true=>
   rw[aJ,cD hk (by omega),show [k].filter (λk=> !L.contains k)=[] by simp only[List.filter_cons,List.filter_nil,hc,gP,fK,if_false],List.map_nil,List.append_nil]
  |false=>
   rw[aW,bF (by omega),bF (by omega:(n:Int)<=1048576),Bool.and_self,aJ,fU,fU,fQ (by simp;exact hk),aC];rw[eO (r:=FE p n R L k L.length) (λi=>(FE p n R L k i,(i:Int))) L.length (by rfl) (λi hi=>?_) (λ_=>?_),aC]
   .rw[bF (by simp only[eD];omega),aJ,cD hk (by omega),show [k].filter (λk=> !L.contains k)=[k] by simp only[List.filter_cons,List.filter_nil,hc,Bool.not_false,if_true]];rfl
   .unfold BI;simp only;have b1:=hin i k (by omega) hk;have hp:=fN T.hp;have hv:=hget hi;rw[gZ,oD hi,aJ,Nr hi,aC,Nc hN (by omega) hk,aC,dS (by omega),Es T.hp (by omega),aC,fQ (by rw[EU];exact hv),aC,fU,cD hi (by omega)];rfl
   .unfold BI;simp only;rw[gZ,rH (bG _),aW]
 .unfold BJ;simp only;rw[rH (bG _),aW];rfl
def Sy(hp:tJ p=true)(hi:xQ p m n F):(Gc p n (bX p m F n).1 (bX p m F n).2).length=n-OU p m n F:=by
 have h:=DL hp hi n (bG _);have:=Sj h.inc (HJ n);unfold Gc OU;rw[eD];omega
def Fit.lA{b}(h:Fit a b){v}(hv:v<a.dims.length):wr ((dN a v:Int)*(dN b v:Int))=((Proofs.YthpgddekfghemaaGreat.lV a b v:Nat):Int):=by
 have:=h.lV hv;unfold Proofs.YthpgddekfghemaaGreat.lV at*;rw[Nat.mul_comm]at this ⊢;exact Lu (by omega)
def Vw{b}(h:Fit a b){v}(hv:v<=a.dims.length):Bo a b v=some ((fD (lV a b) v:Nat):Int):=by
 have n5:=h.ra.n5;unfold Bo;rw[eO (r:=((fD (lV a b) v:Nat):Int)) (λk=>(((fD (lV a b) k:Nat):Int),(k:Int))) v (by rfl) (λk hk=>?_) (λ_=>?_),aC]
 .have hka:k<a.dims.length:=by omega
  have hkb:k<b.dims.length:=by rw[h.ne];exact hka
  have ho:=h.offV (v:=k+1) (by omega);have e:fD (lV a b) (k+1)=fD (lV a b) k+lV a b k:=rfl;unfold DK;simp only;rw[oD hk,aJ,yN 0 hka,aC,yN 0 hkb,aC,(h.ra.d k hka).1,(h.rb.d k hkb).1,h.lA hka,cD hk (by omega),dS (by omega),e];simp
 .unfold DK;simp only;rw[rH (bG _),aW]
def XO{b}(h:Fit a b):Bq a b=some (nV a b:Int):=by
 have n5:=h.ra.n5;unfold Bq;rw[eO (r:=(nV a b:Int)) (λk=>(((fD (lV a b) k:Nat):Int),(k:Int))) a.dims.length (by rfl) (λk hk=>?_) (λ_=>?_),aC]
 .have hkb:k<b.dims.length:=by rw[h.ne];exact hk
  have ho:=h.offV (v:=k+1) (by omega);have e:fD (lV a b) (k+1)=fD (lV a b) k+lV a b k:=rfl;unfold Bp;simp only;rw[oD hk,aJ,yN 0 hk,aC,yN 0 hkb,aC,(h.ra.d k hk).1,(h.rb.d k hkb).1,h.lA hk,cD hk (by omega),dS (by omega),e];simp
 .unfold Bp;simp only;rw[rH (bG _),aW];rfl
def HQ(a b:Rp)(i r k j:Nat):Nat->Nat->Int:=λv z=>if v=sV a i/\z%dN a v=k/\z/dN a v<j then aF b i r (z/dN a v)else 0
def Sz(a b:Rp)(i r k j:Nat):Nat->Nat->Int:=λv z=>if v=tV a i/\z/dN a v=r/\z%dN a v<j then(HQ a b i r k (dN b (sV a i)) v z-aF a i (z%dN a v) k)%a.p else HQ a b i r k (dN b (sV a i)) v z
def XP(r c)(F):bT r c F++iP c (F r)=bT (r+1) c F:=by
 rw[←Fp c F r,←Fp c F (r+1),List.range_succ,List.map_append,List.flatten_append];simp
def aAn{b}(h:Fit a b){k}(hi:i<a.q.src.length)(hr:r<dN b (tV a i))(hk:k<dN a (sV a i))(x1 x2 x3:Int×aA×Int)(e1:x1.2.2=i)(e2':x2.2.2=r)(e3:x3.2.2=k):∃y,Lp (pO a b (sV a i) x1 x2 x3) (List.replicate (nV a b) 0,0)=some y/\Lp (pP a b (sV a i) (tV a i) x1 x2 x3) (y,0)=some (Hw (lV a b) (e2 a b i (r*dN a (sV a i)+k)) a.dims.length):=by
 have hb:=fN h.ra.hp;have n5:=h.ra.n5;obtain⟨s1,s2⟩:=h.ra.s i hi;obtain⟨t1,t2⟩:=h.ra.t i hi;have s3:sV a i<b.dims.length:=by rw[h.ne];exact s2
 have t3:tV a i<b.dims.length:=by rw[h.ne];exact t2
 have hib:i<b.q.src.length:=by rw[h.qe];exact hi
 obtain⟨m1,m2⟩:=h.ra.m i hi;obtain⟨g1,g2⟩:=h.rb.m i hib;rw[h.sV,h.tV]at g1 g2;rw[h.pe]at g2;have da:=h.ra.d _ s2;have da2:=h.ra.d _ t2;have db:=h.rb.d _ s3;have db2:=h.rb.d _ t3;have oS:=h.offV (v:=sV a i+1) s2;have oT:=h.offV (v:=tV a i+1) t2;have eS:fD (lV a b) (sV a i+1)=fD (lV a b) (sV a i)+lV a b (sV a i):=rfl;have eT:fD (lV a b) (tV a i+1)=fD (lV a b) (tV a i)+lV a b (tV a i):=rfl;refine⟨Hw (lV a b) (HQ a b i r k (dN b (sV a i))) a.dims.length,?_,?_⟩
 .refine eO (λj=>(Hw (lV a b) (HQ a b i r k j) a.dims.length,(j:Int))) (dN b (sV a i)) ?_ (λj hj=>?_) (λ_=>?_)
  .unfold nV;rw[Si];congr 1;exact Fm λv z _ _=>by unfold HQ;rw[aN λq=>absurd q.2.2 (Nat.not_lt_zero _)]
  .have hz:j*dN a (sV a i)+k<lV a b (sV a i):=CK hj hk
   have hpos:wr (wr (((fD (lV a b) (sV a i):Nat):Int)+wr ((j:Int)*(dN a (sV a i):Int)))+(k:Int))=((fD (lV a b) (sV a i)+(j*dN a (sV a i)+k):Nat):Int):=by
    rw[Lu (by omega),dS (x:=((fD (lV a b) (sV a i):Nat):Int)+((j*dN a (sV a i):Nat):Int)) (by omega),dS (by omega)];omega
   have hw:=g2 r j hr hj;unfold pO;simp only[e1,e2',e3];rw[yN 0 s3,aC,db.1,oD hj,aJ,Vw h (by omega),aC,yN 0 s2,aC,da.1,hpos,fQ (by rw[mT];exact rM s2 hz)];rw[aC,yN ⟨0,0,[]⟩ (by rw[h.rb.ml];exact hib),aC,aC,g1];simp only;rw[Nc (sq db2.2 db.2) hr hj,aC]
   have hv0:(Hw (lV a b) (HQ a b i r k j) a.dims.length)[fD (lV a b) (sV a i)+(j*dN a (sV a i)+k)]'(by rw[mT];exact rM s2 hz)=0:=by
    have:=uA (HQ a b i r k j) s2 hz;rw[iL (by rw[mT];exact rM s2 hz)]at this;rw[Option.some.inj this];unfold HQ;rw[aN];rw[EQ hk];omega
   rw[hv0,Int.zero_add,dS (by omega),Es h.ra.hp (by omega),aC,aC,fU,QZ s2 hz,cD hj (by omega),Int.emod_eq_of_lt hw.1 hw.2];congr 3;refine Fm λv z hv hz2=>?_;by_cases e:v=sV a i/\z=j*dN a (sV a i)+k
   .obtain⟨rfl,rfl⟩:=e;rw[aM ⟨rfl,rfl⟩];unfold HQ;rw[EQ hk,ER hk,aM ⟨rfl,rfl,Nat.lt_succ_self _⟩]
   .rw[aN e];unfold HQ;by_cases e4:v=sV a i/\z%dN a v=k/\z/dN a v<j
    .rw[aM e4,aM ⟨e4.1,e4.2.1,by omega⟩]
    .rw[aN e4,aN];rintro⟨q1,q2,q3⟩
     have q4:z/dN a v=j:=by
      rcases eG (z/dN a v) j with h'|h'
      .exact absurd ⟨q1,q2,h'⟩ e4
      .omega
     refine e ⟨q1,?_⟩;rw[←@vA (dN a v) z,q4,q2,q1]
  .unfold pO;simp only[e1,e2',e3];rw[yN 0 s3,aC,db.1,rH (bG _),aW]
 .refine eO (λj=>(Hw (lV a b) (Sz a b i r k j) a.dims.length,(j:Int))) (dN a (tV a i)) ?_ (λj hj=>?_) (λ_=>?_)
  .congr 1;exact Fm λv z _ _=>by unfold Sz;rw[aN λq=>absurd q.2.2 (Nat.not_lt_zero _)]
  .have hz:r*dN a (tV a i)+j<lV a b (tV a i):=CK hr hj
   have hpos:wr (wr (((fD (lV a b) (tV a i):Nat):Int)+wr ((r:Int)*(dN a (tV a i):Int)))+(j:Int))=((fD (lV a b) (tV a i)+(r*dN a (tV a i)+j):Nat):Int):=by
    rw[Lu (by omega),dS (x:=((fD (lV a b) (tV a i):Nat):Int)+((r*dN a (tV a i):Nat):Int)) (by omega),dS (by omega)];omega
   have hw:=m2 j k hj hk;unfold pP;simp only[e1,e2',e3];rw[yN 0 t2,aC,da2.1,oD hj,aJ,Vw h (by omega),aC,aC,hpos,fQ (by rw[mT];exact rM t2 hz)];rw[aC,yN ⟨0,0,[]⟩ (by rw[h.ra.ml];exact hi),aC,yN 0 s2,aC,m1,da.1];simp only;rw[Nc (sq da2.2 da.2) hj hk,aC]
   have hv0:(Hw (lV a b) (Sz a b i r k j) a.dims.length)[fD (lV a b) (tV a i)+(r*dN a (tV a i)+j)]'(by rw[mT];exact rM t2 hz)=HQ a b i r k (dN b (sV a i)) (tV a i) (r*dN a (tV a i)+j):=by
    have:=uA (Sz a b i r k j) t2 hz;rw[iL (by rw[mT];exact rM t2 hz)]at this;rw[Option.some.inj this];unfold Sz;rw[aN];rw[ER hj];omega
   have hbA:0<=HQ a b i r k (dN b (sV a i)) (tV a i) (r*dN a (tV a i)+j)/\HQ a b i r k (dN b (sV a i)) (tV a i) (r*dN a (tV a i)+j)<=5:=by
    unfold HQ;split
    .rename_i q;have:=g2 r ((r*dN a (tV a i)+j)/dN a (tV a i)) hr q.2.2;omega
    .omega
   rw[hv0];generalize hA:HQ a b i r k (dN b (sV a i)) (tV a i) (r*dN a (tV a i)+j)=A at*;rw[dS (x:=A-aF a i j k) (by omega),Es h.ra.hp (by omega),aC,aC,fU,QZ t2 hz,cD hj (by omega)];congr 3;refine Fm λv z hv hz2=>?_;by_cases e:v=tV a i/\z=r*dN a (tV a i)+j
   .obtain⟨rfl,rfl⟩:=e;rw[aM ⟨rfl,rfl⟩];unfold Sz;rw[EQ hj,ER hj,aM ⟨rfl,rfl,Nat.lt_succ_self _⟩,hA]
   .rw[aN e];unfold Sz;by_cases e4:v=tV a i/\z/dN a v=r/\z%dN a v<j
    .rw[aM e4,aM ⟨e4.1,e4.2.1,by omega⟩]
    .rw[aN e4,aN];rintro⟨q1,q2,q3⟩
     have q4:z%dN a v=j:=by
      rcases eG (z%dN a v) j with h'|h'
      .exact absurd ⟨q1,q2,h'⟩ e4
      .omega
     refine e ⟨q1,?_⟩;rw[←@vA (dN a v) z,q4,q2,q1]
  .unfold pP;simp only[e1,e2',e3];rw[yN 0 t2,aC,da2.1,rH (bG _),aW];congr 2;refine Fm λv z hv hz2=>?_;have hzb:z<dN b v*dN a v:=hz2;obtain⟨q1,q2⟩:=FH hzb
   have eA:HQ a b i r k (dN b (sV a i)) v z=if sV a i=v/\k=z%dN a v then aF b i r (z/dN a v)else 0:=by
    unfold HQ;by_cases e:sV a i=v/\k=z%dN a v
    .rw[aM e,aM ⟨e.1.symm,e.2.symm,by rw[e.1];exact q1⟩]
    .rw[aN e,aN λq=>e ⟨q.1.symm,q.2.1.symm⟩]
   unfold Sz e2 eF;rw[eA,EQ hk,ER hk];by_cases e:tV a i=v/\r=z/dN a v
   .rw[aM ⟨e.1.symm,e.2.symm,by rw[e.1];exact q2⟩,aM e]
   .rw[aN λq=>e ⟨q.1.symm,q.2.1.symm⟩,aN e,Int.sub_zero];split
    .rename_i q;have hw:=g2 r (z/dN a v) hr (by rw[q.1];exact q1);exact(Int.emod_eq_of_lt hw.1 hw.2).symm
    .simp
def ZM{b y}(hi:i<a.q.src.length)(hy:y<lE a b i):Hw (lV a b) (e2 a b i y) a.dims.length=iP (nV a b) (mE a b (fD (lE a b) i+y)):=by
 symm;refine Hx (by rw[nA];rfl) λv z hv hz=>?_;have hk:fD (lV a b) v+z<nV a b:=rM hv hz;unfold iP;rw[List.getElem?_map,List.getElem?_range hk,Option.map_some];congr 1;unfold mE;rw[uA _ hi hy,iN,uA _ hv hz,iN]
def Ns{b}(h:Fit a b):tQ a b=some ⟨nE a b,nV a b,bT (nE a b) (nV a b) (mE a b)⟩:=by
 have n5:=h.ra.n5;have e6:=h.ra.e6;have bV:=h.offV (bG _);have bE:=h.offE (bG _);have tl:=h.ra.tl;have ml:=h.ra.ml;have hV:nV a b<=80:=bV;unfold tQ;rw[XO h,aC];rw[eO (r:=((nE a b:Int),bT (nE a b) (nV a b) (mE a b))) (λi=>(((fD (lE a b) i:Nat):Int),bT (fD (lE a b) i) (nV a b) (mE a b),(i:Int))) a.q.src.length (by simp[fD,bT]) (λi hi=>?_) (λ_=>?_),aC]
 .obtain⟨s1,s2⟩:=h.ra.s i hi;obtain⟨t1,t2⟩:=h.ra.t i hi;have t3:tV a i<b.dims.length:=by rw[h.ne];exact t2
  have da:=h.ra.d _ s2;have db2:=h.rb.d _ t3;have oE:=h.offE (i:=i+1) hi;have eE:fD (lE a b) (i+1)=fD (lE a b) i+dN b (tV a i)*dN a (sV a i):=rfl;unfold vO;simp only;rw[ml,oD hi,aJ,yN 0 hi,aC,s1,yN 0 (by omega),aC,t1];rw[eO (r:=(((fD (lE a b) (i+1):Nat):Int),bT (fD (lE a b) (i+1)) (nV a b) (mE a b))) (λr=>(((fD (lE a b) i+r*dN a (sV a i):Nat):Int),bT (fD (lE a b) i+r*dN a (sV a i)) (nV a b) (mE a b),(r:Int))) (dN b (tV a i)) (by simp) (λr hr=>?_) (λ_=>?_),aC,cD hi (by omega)]
  .unfold vN;simp only;rw[yN 0 t3,aC,db2.1,oD hr,aJ];rw[eO (r:=(((fD (lE a b) i+(r+1)*dN a (sV a i):Nat):Int),bT (fD (lE a b) i+(r+1)*dN a (sV a i)) (nV a b) (mE a b))) (λk=>(((fD (lE a b) i+r*dN a (sV a i)+k:Nat):Int),bT (fD (lE a b) i+r*dN a (sV a i)+k) (nV a b) (mE a b),(k:Int))) (dN a (sV a i)) (by simp) (λk hk=>?_) (λ_=>?_),aC,cD hr (by omega)]
   .unfold vL;simp only;have hy:r*dN a (sV a i)+k<lE a b i:=CK hr hk;have hx:fD (lE a b) i+(r*dN a (sV a i)+k)<nE a b:=rM hi hy;have hx2:nE a b<=96:=bE;have hsz:(fD (lE a b) i+r*dN a (sV a i)+k)*nV a b<=96*80:=Nat.mul_le_mul (by omega) hV;rw[yN 0 s2,aC,da.1,oD hk,aJ,bF (by omega),bF (by omega:(nV a b:Int)<=1048576),Bool.and_self,aJ,fU];obtain⟨y,y1,y2⟩:=aAn h hi hr hk (((fD (lE a b) i:Nat):Int),bT (fD (lE a b) i) (nV a b) (mE a b),(i:Int)) (((fD (lE a b) i+r*dN a (sV a i):Nat):Int),bT (fD (lE a b) i+r*dN a (sV a i)) (nV a b) (mE a b),(r:Int)) (((fD (lE a b) i+r*dN a (sV a i)+k:Nat):Int),bT (fD (lE a b) i+r*dN a (sV a i)+k) (nV a b) (mE a b),(k:Int)) rfl rfl rfl;rw[y1,aC,y2,aC,ZM hi hy,fT,nA,bF (by omega),aJ,cD hk (by omega),dS (by omega),←Nat.add_assoc,XP];congr 2
   .unfold vL;simp only;rw[yN 0 s2,aC,da.1,rH (bG _),aW,Nat.succ_mul,Nat.add_assoc]
  .unfold vN;simp only;rw[yN 0 t3,aC,db2.1,rH (bG _),aW,eE]
 .unfold vO;simp only;rw[ml,rH (bG _),aW];rfl
def Ue{b}(h:Fit a b){x}(hx:x.length=nV a b):∃r,Ak a b x=some r:=by
 have n5:=h.ra.n5;have bV:=h.offV (bG _);have hV:nV a b<=80:=bV;refine⟨(List.range a.dims.length).map λv=>(⟨dN b v,dN a v,(x.drop (fD (lV a b) v)).take (lV a b v)⟩:Mt),?_⟩;unfold Ak;rw[eO (r:=(List.range a.dims.length).map λv=>(⟨dN b v,dN a v,(x.drop (fD (lV a b) v)).take (lV a b v)⟩:Mt)) (λk=>((List.range k).map (λv=>(⟨dN b v,dN a v,(x.drop (fD (lV a b) v)).take (lV a b v)⟩:Mt)),((fD (lV a b) k:Nat):Int),(k:Int))) a.dims.length (by simp[fD]) (λk hk=>?_) (λ_=>?_),aC]
 .have hkb:k<b.dims.length:=by rw[h.ne];exact hk
  have ho:=@JN (lV a b) (k+1) a.dims.length hk;have e:fD (lV a b) (k+1)=fD (lV a b) k+lV a b k:=rfl;unfold BK;simp only
  rw[oD hk,aJ,yN 0 hk,aC,yN 0 hkb,aC,aC,aC,(h.ra.d k hk).1,(h.rb.d k hkb).1,h.lA hk,dS (x:=((fD (lV a b) k:Nat):Int)+((lV a b k:Nat):Int)) (by omega),hx,
   bF (by omega),bF (by omega:((fD (lV a b) k:Nat):Int)<=((fD (lV a b) k:Nat):Int)+((lV a b k:Nat):Int)),bF (by unfold nV;omega:((fD (lV a b) k:Nat):Int)+((lV a b k:Nat):Int)<=((nV a b:Nat):Int)),Bool.and_self,Bool.and_self,aJ,
   show(((fD (lV a b) k:Nat):Int)+((lV a b k:Nat):Int)).toNat - ((fD (lV a b) k:Nat):Int).toNat=lV a b k by omega,fU]
  have q2:decide (((List.range k).map λv=>(⟨dN b v,dN a v,(x.drop (fD (lV a b) v)).take (lV a b v)⟩:Mt)).length +1<=4294967296)=true:=bF (by simp only[eD,List.length_range];omega);have q1:decide (([]:aA).length +((x.drop (fD (lV a b) k)).take (lV a b k)).length <=4294967296)=true:=bF (by simp only[List.length_nil,List.length_take,List.length_drop];omega);rw[q1,aJ,q2,aJ,List.nil_append,cD hk (by omega),AY (f:=λv=>(⟨dN b v,dN a v,(x.drop (fD (lV a b) v)).take (lV a b v)⟩:Mt)),e];simp
 .unfold BK;simp only;rw[rH (bG _),aW]
def wX(a b:Rp):Bool:=iI a&&(iI b&&(decide (a.p=b.p)&&decide (a.q=b.q)))
def gL{b}(h:wX a b=true):Fit a b:=by
 unfold wX at h;simp only[cB,iS]at h;exact Qm h.1 h.2.1 h.2.2.1 h.2.2.2
def Vx(a b:Rp):Int:=if wX a b=true then(kU a b:Int)else -1
def Uf{b}(ha:bR a)(hb:bR b):∃l,Al a b=some (l,wX a b)/\(wX a b=true->l.length=kU a b):=by
 unfold Al;rw[MR ha hb,aC];cases hf:iI a&&(iI b&&(decide (a.p=b.p)&&decide (a.q=b.q)))with
 |false=>
  refine⟨[],?_,λh=>by unfold wX at h;rw[hf]at h;cases h⟩;unfold wX;rw[hf];rfl
 |true=>
  have h:=gL hf;have bV:=h.offV (bG _);have hV:nV a b<=80:=bV;have hl:=Sy h.ra.hp (Ij h)
  have hkl:∀v∈Gc a.p (nV a b) (bX a.p (nE a b) (mE a b) (nV a b)).1 (bX a.p (nE a b) (mE a b) (nV a b)).2,v.length=nV a b:=by
   intro v hv;unfold Gc at hv;obtain⟨k,_,rfl⟩:=List.mem_map.1 hv;exact EU _ _ _ _ _ _
  rw[gP,aW,Ns h,aC,Ud (Vv h),aC];generalize Gc a.p (nV a b) (bX a.p (nE a b) (mE a b) (nV a b)).1 (bX a.p (nE a b) (mE a b) (nV a b)).2=K at*;have key:=Db (body:=BL a b K) (s:=(([]:List bK),0)) (λs=>s.2=(s.1.length:Int)/\s.1.length<=K.length) (λs=>K.length-s.1.length) (λr=>r.length=K.length) ⟨rfl,Nat.zero_le _⟩ (λs ⟨h1,h2⟩=>?_)
  .obtain⟨r,h1,h2⟩:=key;rw[h1,aC];exact⟨r,by unfold wX;rw[hf],λ_=>by rw[h2,hl];rfl⟩
  .obtain⟨l,j⟩:=s;simp only at h1 h2;subst h1;unfold BL;simp only;rcases eG l.length K.length with hlt|hge
   .obtain⟨r,hr⟩:=Ue h (hkl _ (List.getElem_mem hlt));rw[oD hlt,aJ,fQ hlt,aC,hr,aC,bF (by omega),aJ,cD hlt (by omega)];exact .inl ⟨_,rfl,⟨by simp,by simp;omega⟩,by simp;omega⟩
   .rw[rH hge,aW];exact .inr ⟨_,rfl,by omega⟩
def Ph{b}(ha:bR a)(hb:bR b):wK a b=some (Vx a b):=by
 obtain⟨l,h1,h2⟩:=Uf ha hb;unfold wK Vx;rw[h1,aC];cases hf:wX a b with
 |false=>rfl
 |true=>rw[aM rfl,←h2 hf];rfl
def Pi{b}(ha:bR a)(hb:bR b):AS a b=some (Vx a b):=by
 unfold AS Vx;rw[Sn ha hb,aC];cases hf:iI a&&(iI b&&(decide (a.p=b.p)&&decide (a.q=b.q)))with
 |false=>
  unfold wX;rw[hf];rfl
 |true=>
  rw[gP,aW,Fs (gL hf),aC,aM (show wX a b=true from hf)]
def MS{b}(h:Fit a b):kU a b<=80:=by
 have bV:=h.offV (bG _);unfold kU nV;omega
def Cd(a:Rp)(l:List Rp):aA:=if l.length<=20 then l.map λr=>Vx r a else []
def TA(a b)(l):(Cd a l).length=(Cd b l).length:=by unfold Cd;split<;>simp
def Nt(a)(l):(Cd a l).length <=20:=by unfold Cd;split<;>simp;omega
def Nv{f:α->β}{l:List α}{k}(hk:k<l.length):(l.take k).map f++[f l[k]]=(l.take (k+1)).map f:=by rw[MX hk,List.map_append];rfl
def IC{l}(ha:bR a)(hl:l.length<=1048576/\∀r∈l,bR r):qA a l=some (Cd a l):=by
 obtain⟨hl,hb⟩:=hl;unfold qA;by_cases h20:l.length<=20
 .rw[eO (r:=Cd a l) (λk=>((l.take k).map (λr=>Vx r a),(k:Int))) l.length (by simp) (λk hk=>?_) (λ_=>?_),aC]
  .unfold qF;simp only;rw[oD hk,aJ,bF (by omega),aJ,fQ hk,aC,Ph (hb _ (List.getElem_mem hk)) ha,aC,bF (by simp only[eD,List.length_take,List.length_cons,List.length_nil];omega),aJ,cD hk (by omega),Nv (f:=λr=>Vx r a) hk]
  .unfold qF Cd;simp only;rw[rH (bG _),aW,List.take_length,aM h20]
 .rw[oG (r:=[]),aC]
  .unfold Cd;rw[aN h20]
  .unfold qF;simp only;rw[bF (by omega),aJ,fC (by omega),aW]
def ID{l}(ha:bR a)(hl:l.length<=1048576/\∀r∈l,bR r):pZ a l=some (Cd a l):=by
 obtain⟨hl,hb⟩:=hl;unfold pZ;by_cases h20:l.length<=20
 .rw[fC (by omega),aW];rw[eO (r:=Cd a l) (λk=>((l.take k).map (λr=>Vx r a),(k:Int))) l.length (by simp) (λk hk=>?_) (λ_=>?_),aC]
  .unfold uO;simp only;rw[oD hk,aJ,fQ hk,aC,Pi (hb _ (List.getElem_mem hk)) ha,aC,bF (by simp only[eD,List.length_take,List.length_cons,List.length_nil];omega),aJ,cD hk (by omega),Nv (f:=λr=>Vx r a) hk]
  .unfold uO Cd;simp only;rw[rH (bG _),aW,List.take_length,aM h20]
 .rw[bF (by omega),aJ];unfold Cd;rw[aN h20]
def Vy(a b:Rp)(l:List Rp):Bool:=(wX a b&&decide (a.dims=b.dims))&&(List.range (Cd a l).length).all λk=> !decide ((Cd b l)[k]?.getD 0<(Cd a l)[k]?.getD 0)
def Ug{b l}(ha:bR a)(hb:bR b)(hl:l.length<=1048576/\∀r∈l,bR r):zE a b l=some (Vy a b l):=by
 have h1:=Nt a l;have h2:=TA a b l;unfold zE;rw[IC ha hl,IC hb hl,aC,aC];rw[AE (λk=> !decide ((Cd b l)[k]?.getD 0<(Cd a l)[k]?.getD 0)) false (n:=(Cd a l).length) (by omega) (λk hk=>?_) (λ_=>?_),aC]
 .unfold Vy;cases (List.range (Cd a l).length).all (λk=> !decide ((Cd b l)[k]?.getD 0<(Cd a l)[k]?.getD 0))with
  |false=>simp
  |true=>
   simp only[aJ,Sum.elim_inl,Bool.and_true];rw[MR ha hb,aC];refine jW λ_=>?_;rw[HN ha.2.1,aC]
 .unfold AB;rw[oD hk,aJ,yN 0 hk,aC,yN 0 (by omega),aC];cases decide ((Cd b l)[k]?.getD 0<(Cd a l)[k]?.getD 0)<;>rfl
 .unfold AB;rw[rH (bG _),aW]
def Uh{b l}(ha:bR a)(hb:bR b)(hl:l.length<=1048576/\∀r∈l,bR r):zD a b l=some (Vy a b l):=by
 have h1:=Nt a l;have h2:=TA a b l;unfold zD Vy;rw[Sn ha hb,aC,Bool.and_assoc];refine jW λ_=>?_;rw[CZ ha.2.1,aC];refine jW λ_=>?_;rw[ID ha hl,ID hb hl,aC,aC,Pf h2 (by unfold bI;omega),aC]
def Ui(hL:L.length<=1048576)(k:Nat):lQ (mM L) (k:Int)=some (L.contains k):=by
 have hl:=gZ L;unfold lQ uI;rw[Ht (s0:=0) (s:=0) (n:=L.length) (λi=>bif decide ((k:Int)=(mM L)[i]?.getD 0)then some (i:Int)else none) rfl (by omega) (Nat.zero_le _) (λi _ hi=>?_) (λ_=>?_)]
 .rw[aC];cases e:(List.range' 0 (L.length-0)).findSome? (λi:Nat=>bif decide ((k:Int)=(mM L)[i]?.getD 0)then some (i:Int)else none)with
  |none=>
   rw[List.findSome?_eq_none_iff]at e
   have:L.contains k=false:=by
    rw[Bool.eq_false_iff];intro hc;have hm:k∈L:=by simpa using hc
    obtain⟨j,hj,e2⟩:=List.mem_iff_getElem.1 hm;have:=e j (by simp;omega);have hg:(mM L)[j]?.getD 0=(k:Int):=by simp[mM,hj,e2]
    rw[hg,bF rfl]at this;cases this
   rw[this];rfl
  |some i=>
   obtain⟨j,hj,he⟩:=List.exists_of_findSome?_eq_some e;simp at hj;have hjl:j<L.length:=by omega
   have hg:(mM L)[j]?.getD 0=((L[j]:Nat):Int):=by simp[mM,hjl]
   rw[hg]at he;by_cases c:(k:Int)=((L[j]:Nat):Int)
   .rw[bF c]at he;cases he
    have:L.contains k=true:=by
     have:k=L[j]:=by omega
     rw[this];simp
    rw[this];show(Option.bind (some ((j:Nat):Int)) λv1=>some (decide (0<=v1)))=some true;rw[aC,bF (by omega)]
   .rw[fC c]at he;cases he
 .unfold qT;rw[hl,oD hi,aJ,yN 0 (by omega),aC];cases decide ((k:Int)=(mM L)[i]?.getD 0)<;>rfl
 .unfold qT;rw[hl,rH (bG _),aW]
def XQ(L)(k):lB (k+1) L=lB k L++if L.contains k=true then []else [k]:=by
 unfold lB;rw[List.range_succ,List.filter_append];congr 1;cases h:L.contains k<;>simp at h<;>simp[h]
def TB(n)(L):(lB n L).length <=n:=by
 have:=List.length_filter_le (λk=> !L.contains k) (List.range n);simpa [lB]using this
def TC{k}(h:k∈lB n L):k<n:=List.mem_range.1 (List.mem_filter.1 h).1
def Uj(hn:n<=1048576)(hL:L.length<=1048576):vH (n:Int) (mM L)=some (mM (lB n L)):=by
 unfold vH;rw[eO (s:=(([]:aA),(0:Int))) (r:=mM (lB n L)) (λk=>(mM (lB k L),(k:Int))) n rfl (λk hk=>?_) (λ_=>?_),aC]
 .have h1:=TB k L;unfold wW;simp only;rw[oD hk,aJ,Ui hL,aC,XQ,cD hk (by omega)];cases hc:L.contains k
  .rw[Bool.not_false,aJ,bF (by rw[gZ];simp;omega),aJ];simp[mM]
  .rw[gP,aW];simp
 .unfold wW;simp only;rw[rH (bG _),aW]
end
noncomputable section
def Ce(a0:Int)(v1:(Mt×aA))(v4:Int)(x2:(aA×Int)):Option ((aA×Int) ⊕ aA):=bif decide (x2.2<((v1.2.length:Nat):Int))then((bY v1.2 x2.2).bind λv7=>(fR v1.1 x2.2).bind λv8=>bif(decide (0<=v4)&&decide (v4<((((wr ((wr (x2.2+1))*v1.1.cols)).toNat - (wr (x2.2*v1.1.cols)).toNat):Nat):Int)))then((v1.1.cells[((0+(wr (x2.2*v1.1.cols)).toNat)+v4.toNat)]?).bind λv9=>bif !decide (a0=0)then((bY x2.1 v7).bind λv11=>some (.inl ((x2.1.set v7.toNat ((wr (a0-v9)).tmod a0)),wr (x2.2+1))))else none)else none)else some (.inr x2.1)
def Cf(a0:Int)(a1:Mt)(v1:(Mt×aA))(v2:aA)(x1:(aL×Int)):Option ((aL×Int) ⊕ aL):=bif decide (x1.2<((v2.length:Nat):Int))then((bY v2 x1.2).bind λv4=>bif(decide (0<=a1.cols)&&decide (a1.cols<=1048576))then((bY (List.replicate a1.cols.toNat (0:Int)) v4).bind λv5=>(Lp (Ce a0 v1 v4) (((List.replicate a1.cols.toNat (0:Int)).set v4.toNat 1),0)).bind λy13=>bif decide (x1.1.length+1<=4294967296)then some (.inl ((x1.1++[y13]),wr (x1.2+1)))else none)else none)else some (.inr x1.1)
def Co(a0:Int)(a1:Mt):Option aL:=(AR a0 a1).bind λv1=>(vH a1.cols v1.2).bind λv2=>(Lp (Cf a0 a1 v1 v2) ([],0)).bind λy16=>some y16
def OV(a0)(a1)(r)(h:Co a0 a1=some r):HasC Tryz.prog 105 [.int a0,.agg (eM a1)] (.list 1 (r.map (bP 1 eI))):=by
 refine hM [.tmp 4] Tryz.func105 Tryz.ntmps105 k<|cW 10 k<|oB h λv1 hv1 h=>ae (jWM (IY _ _ _ hv1) k3 (fV k (aI (kM k) aQ))) k<|oI 17 k<|lp k8 ?_;refine am k k<|oB h λv2 hv2 h=>ae (cL cI (JC _ _ _ hv2) k3 (fV k (Wm k k aQ))) k<|jn k5<|dQ 3 k<|jB h (λx1=>mN [(0,.int a0),(3,.ptr 0 0 0),(5,.ptr 1 0 0),(6,.own 3 0 v1.2.length),(7,.own 4 0 x1.1.length),(22,.own 5 0 v2.length),(23,.int ((v2.length:Nat):Int)),(24,.int x1.2)] [(0,⟨3,[eM a1]⟩),(1,⟨3,[Xo v1.1 2]⟩),(2,⟨1,v1.1.cells.map (ow eI)⟩),(3,⟨1,v1.2.map (ow eI)⟩),(4,⟨1,x1.1.map (ow (bP 1 eI))⟩),(5,⟨1,v2.map (ow eI)⟩)] 6) (λr=>mN [(7,.own 0 0 r.length)] [(0,⟨1,r.map (ow (bP 1 eI))⟩)] 1) ?_ ?_ (jG [(0,0),(1,3),(2,1),(3,2),(5,4)])
 .intro x1 o h;refine nK 6 k<|cO k h (λ_ h=>?_) λ_ h=>aS<|aB<|aB<|sp h ⟨_,k,k,(jZ [4])⟩;refine pB 6 k<|jp h k2 λv4 hv4 h=>ae (wp hv4 k) k<|oI 7 k<|cG h λq15 h=>ae (nU aH q15 k k k k k k k k) k<|aT k2<|aP (t:=mN [(0,.int a0),(3,.ptr 0 0 0),(5,.ptr 1 0 0),(6,.own 3 0 v1.2.length),(7,.own 4 0 x1.1.length),(9,.int v4),(10,.own 6 0 ((List.replicate a1.cols.toNat (0:Int)).length)),(22,.own 5 0 v2.length),(23,.int ((v2.length:Nat):Int)),(24,.int x1.2)] [(0,⟨3,[eM a1]⟩),(1,⟨3,[Xo v1.1 2]⟩),(2,⟨1,v1.1.cells.map (ow eI)⟩),(3,⟨1,v1.2.map (ow eI)⟩),(4,⟨1,x1.1.map (ow (bP 1 eI))⟩),(5,⟨1,v2.map (ow eI)⟩),(6,⟨1,List.map (ow eI) (List.replicate a1.cols.toNat (0:Int))⟩)] 7) jI<|cW 4 k<|jp h k2 λv5 hv5 h=>ae (dE aH gT (u:=1) (cA hv5) k k k k k k) k<|an<|tn<|sQ ?_;refine cW 3 k<|jn k5<|dQ 3 k<|jB h (λx2=>mN [(0,.int a0),(3,.ptr 0 0 0),(5,.ptr 1 0 0),(6,.own 3 0 v1.2.length),(7,.own 4 0 x1.1.length),(9,.int v4),(10,.own 5 0 x2.1.length),(22,.own 6 0 v2.length),(23,.int ((v2.length:Nat):Int)),(24,.int x1.2),(34,.own 3 0 v1.2.length),(35,.int ((v1.2.length:Nat):Int)),(36,.int x2.2)] [(0,⟨3,[eM a1]⟩),(1,⟨3,[Xo v1.1 2]⟩),(2,⟨1,v1.1.cells.map (ow eI)⟩),(3,⟨1,v1.2.map (ow eI)⟩),(4,⟨1,x1.1.map (ow (bP 1 eI))⟩),(5,⟨1,x2.1.map (ow eI)⟩),(6,⟨1,v2.map (ow eI)⟩)] 7) (λr=>mN [(0,.int a0),(3,.ptr 0 0 0),(5,.ptr 1 0 0),(6,.own 3 0 v1.2.length),(7,.own 4 0 x1.1.length),(10,.own 5 0 r.length),(22,.own 6 0 v2.length),(23,.int ((v2.length:Nat):Int)),(24,.int x1.2)] [(0,⟨3,[eM a1]⟩),(1,⟨3,[Xo v1.1 2]⟩),(2,⟨1,v1.1.cells.map (ow eI)⟩),(3,⟨1,v1.2.map (ow eI)⟩),(4,⟨1,x1.1.map (ow (bP 1 eI))⟩),(5,⟨1,r.map (ow eI)⟩),(6,⟨1,v2.map (ow eI)⟩)] 7) ?_ ?_ (jZ [0,1,2,3,4,6,5])
  .intro x2 o h;refine nK 6 k<|cO k h (λ_ h=>?_) λ_ h=>aS<|aB<|aB<|sp h ⟨_,k,k,jI⟩;refine pB 7 k<|jp h k2 λv7 hv7 h=>ae (wp hv7 k) k<|oI 10 k<|oB h λv8 hv8 h=>ae (AEff.pureE (xT (σ:=sg [(0,2)]) (σ':=sg [(2,0)]) (touch:=[2]) (news:=[]) (hl2:=[(2,⟨1,v1.1.cells.map (ow eI)⟩)]) (n':=7) (r2:=.own 2 (0+(wr (x2.2*v1.1.cols)).toNat) ((wr ((wr (x2.2+1))*v1.1.cols)).toNat - (wr (x2.2*v1.1.cols)).toNat)) (jP _ _ _ hv8) k k ⟨_,_,k,⟨_,_,k,k,⟨_,_,k,k,⟨_,_,k,⟨k,k,k,k⟩,k⟩⟩⟩,⟨_,_,k,k,k⟩⟩ ⟨⟨_,k,k,.inl ⟨k,cI.plainO _⟩⟩,k,bJ⟩ k k k ⟨⟨_,k,k,.inl ⟨k,cI.plainO _⟩⟩,k,bJ⟩ k ⟨k,k,(by simp only[aV,lA,lT,lR,lC,lN]),k⟩ k ⟨k,cI.tame _ _,bJ⟩ k k) ⟨k,k,bJ⟩) k<|am k k<|cG h λq10 h=>oB h λv9 hv9 h=>ae (nB aH q10 k k k k k k k) k<|ae (dM aH k k k k (zU hv9) k k) k<|gO 2 k<|cG h λq12 h=>ae (FS k k q12) k<|jp h k2 λv11 hv11 h=>ae (dE aH gT (u:=(wr (a0-v9)).tmod a0) (cA hv11) k k k k k k) k<|an ?_;exact jo
  .intro y13 _ h;exact cW 3 k<|ae (wl k) k<|cG h λq14 h=>ae (kZ aH (l:=x1.1) (c:=[.own 5 0 y13.length]) q14 k k k k k k k k k k k k k k) k<|JB 2 k<|aU<|tn<|aP (t:=mN [(0,.int a0),(3,.ptr 0 0 0),(5,.ptr 1 0 0),(6,.own 3 0 v1.2.length),(7,.own 8 0 ((x1.1++[y13]).length)),(22,.own 6 0 v2.length),(23,.int ((v2.length:Nat):Int)),(24,.int x1.2)] [(0,⟨3,[eM a1]⟩),(1,⟨3,[Xo v1.1 2]⟩),(2,⟨1,v1.1.cells.map (ow eI)⟩),(3,⟨1,v1.2.map (ow eI)⟩),(6,⟨1,v2.map (ow eI)⟩),(8,⟨1,List.map (ow (bP 1 eI)) (x1.1++[y13])⟩)] 9) (Ent.trans (eJ (b:=8) (b':=5) (j:=0) (es':=y13.map eI) k k k k (aV _ _) (cI.frzs _)) jI)<|kN 4 k<|tn<|sp h ⟨_,k,(jZ [0,1,2,3,8,6])⟩
 .intro y16 _ h;exact kN 7 k<|sp h (bD k k k (lL (cS aZ k k)))
def vR(a0 a1:Rp)(v2:aL)(x1:((List bK)×Int)):Option (((List bK)×Int) ⊕ (List bK)):=bif decide (x1.2<((v2.length:Nat):Int))then((bY v2 x1.2).bind λv4=>(zC a0 a1).bind λv5=>(nO v5 v4).bind λv6=>bif decide (x1.1.length+1<=4294967296)then some (.inl ((x1.1++[v6]),wr (x1.2+1)))else none)else some (.inr x1.1)
def As(a0 a1:Rp):Option (List bK):=(oK a0 a1).bind λv1=>(Co a0.p v1).bind λv2=>(Lp (vR a0 a1 v2) ([],0)).bind λy8=>some y8
def Lv(a0)(a1)(r)(h:As a0 a1=some r):HasC Tryz.prog 46 [.agg (eR a0),.agg (eR a1)] (.list 1 (r.map (bP 3 eM))):=by
 refine hM [.tmp 4] Tryz.func46 Tryz.ntmps46 k<|nK 14 k<|aG dO<|gO 4 k<|oB h λv1 hv1 h=>ae (cM (Bn _ _ _ hv1) k3 (aI (kM k) (aI (kM k) aQ))) k<|oB h λv2 hv2 h=>ae (cL aZ (OV _ _ _ hv2) k3 (fV k (aI (UG k2) aQ))) k<|jn k5<|am k k<|an<|mV (by kernel_rfl)<|tn<|jB h (λx1=>mN [(2,.ptr 0 0 0),(3,.ptr 1 0 0),(5,.own 2 0 x1.1.length),(13,.own 3 0 v2.length),(14,.int ((v2.length:Nat):Int)),(15,.int x1.2)] [(0,⟨6,[eR a0]⟩),(1,⟨6,[eR a1]⟩),(2,⟨1,x1.1.map (ow (bP 3 eM))⟩),(3,⟨1,v2.map (ow (bP 1 eI))⟩)] 4) (λr=>mN [(5,.own 0 0 r.length)] [(0,⟨1,r.map (ow (bP 3 eM))⟩)] 1) ?_ ?_ (jG [(0,0),(1,1),(3,3)])
 .intro x1 o h;refine nK 6 k<|cO k h (λ_ h=>?_) λ_ h=>aS<|aB<|aB<|sp h ⟨_,k,k,(jZ [2])⟩;refine pB 6 k<|jp h k2 λv4 hv4 h=>ae (wp hv4 k) k<|oI 7 k<|oB h λv5 hv5 h=>ae (cL eZ (GI _ _ _ hv5) k3 (aI (kM k) (aI (kM k) aQ))) k<|am k k<|oB h λv6 hv6 h=>ae (cL eZ (Ez _ _ _ hv6) k3 (aI (xS eZ k k) (fV k aQ))) k<|ae (wl k) k<|cG h λq7 h=>ae (kZ aH (l:=x1.1) (c:=[.own 5 0 v6.length]) q7 k k k k k k k k k k k k k k) k<|JB 2 k<|aU<|tn<|aP (t:=mN [(2,.ptr 0 0 0),(3,.ptr 1 0 0),(5,.own 7 0 ((x1.1++[v6]).length)),(13,.own 3 0 v2.length),(14,.int ((v2.length:Nat):Int)),(15,.int x1.2)] [(0,⟨6,[eR a0]⟩),(1,⟨6,[eR a1]⟩),(3,⟨1,v2.map (ow (bP 1 eI))⟩),(7,⟨1,List.map (ow (bP 3 eM)) (x1.1++[v6])⟩)] 8) (Ent.trans (eJ (b:=7) (b':=5) (j:=0) (es':=v6.map eM) k k k k (aV _ _) (eZ.frzs _)) jI)<|cW 3 k<|an ?_;exact tn<|sp h ⟨_,k,(jZ [0,1,7,3])⟩
 .intro y8 _ h;exact kN 7 k<|sp h (bD k k k (lL (cS aZ k k)))
def BP(a0:Int)(x1:(Int×aA×Int)):Option ((Int×aA×Int) ⊕ aA):=bif decide (0<=x1.2.2)then(bif !decide (a0=0)then((bY x1.2.1 x1.2.2).bind λv2=>bif !decide (a0=0)then some (.inl (wr (x1.1.tdiv a0),(x1.2.1.set x1.2.2.toNat (x1.1.tmod a0)),wr (x1.2.2-1)))else none)else none)else some (.inr x1.2.1)
def Au(a0 a1 a2:Int):Option aA:=bif(decide (0<=a1)&&decide (a1<=1048576))then((Lp (BP a0) (a2,(List.replicate a1.toNat (0:Int)),wr (a1-1))).bind λy5=>some y5)else none
def Lw(a0)(a1)(a2)(r)(h:Au a0 a1 a2=some r):HasC Tryz.prog 160 [.int a0,.int a1,.int a2] (.list 1 (r.map eI)):=by
 refine hM [.tmp 6] Tryz.func160 Tryz.ntmps160 k<|cW 8 k<|cG h λq6 h=>ae (nU aH q6 k k k k k k k k) k<|dQ 11 k<|jB h (λx1=>mN [(0,.int a0),(2,.int x1.1),(7,.own 0 0 x1.2.1.length),(8,.int x1.2.2)] [(0,⟨1,x1.2.1.map (ow eI)⟩)] 1) (λr=>mN [(7,.own 0 0 r.length)] [(0,⟨1,r.map (ow eI)⟩)] 1) ?_ ?_
 .intro x1 o h;exact nK 7 k<|cO k h (λ_ h=>pB 10 k<|cG h λq4 h=>ae (FS k k q4) k<|jp h k2 λv2 hv2 h=>ae (dE aH gT (u:=x1.1.tmod a0) (cA hv2) k k k k k k) k<|oI 5 k<|cG h λq3 h=>ae (VI k k q3) k<|jo) λ_ h=>aS<|jo
 .intro y5 _ h;exact jo
def BQ(a0:Rp)(a3:aA)(v3:bK)(x1 x2:(bK×Int)):Option ((bK×Int) ⊕ bK):=bif decide (x2.2<(v3.length:Int))then((bY v3 x2.2).bind λv5=>(bY x2.1 x2.2).bind λv6=>(bY a3 x1.2).bind λv7=>(kI a0.p v6.cells 0 v6.cells.length v7 v5.cells).bind λv8=>bif decide (v8.length=v6.cells.length)then some (.inl ((x2.1.set x2.2.toNat (⟨v6.rows,v6.cols,v8⟩:Mt)),wr (x2.2+1)))else none)else some (.inr x2.1)
def BR(a0:Rp)(a2:(List bK))(a3:aA)(x1:(bK×Int)):Option ((bK×Int) ⊕ bK):=bif decide (x1.2<(a2.length:Int))then((bY a2 x1.2).bind λv3=>(Lp (BQ a0 a3 v3 x1) (x1.1,0)).bind λy10=>some (.inl (y10,wr (x1.2+1))))else some (.inr x1.1)
def DM(a0 a1:Rp)(a2:(List bK))(a3:aA):Option bK:=(zC a0 a1).bind λv1=>(Lp (BR a0 a2 a3) (v1,0)).bind λy11=>some y11
def Lx(a0)(a1)(a2)(a3)(r)(h:DM a0 a1 a2 a3=some r):HasC Tryz.prog 159 [.agg (eR a0),.agg (eR a1),.list 1 (a2.map (bP 3 eM)),.list 1 (a3.map eI)] (.list 3 (r.map eM)):=by
 refine Jl aH (rvs:=[.tmp 8]) (ns:=Cx) Tryz.func159 k k Tryz.ntmps159 k k k (λW=>?_);refine EG<|rZ<|rZ<|nW (λw0_2 S0_2 r0_2=>?_);refine nW (λw0_3 S0_3 r0_3=>?_);refine nW (λw0_4 S0_4 r0_4=>?_);refine nW (λw0_5 S0_5 r0_5=>?_);refine xU<|EG<|rZ<|rZ<|nW (λw1_2 S1_2 r1_2=>?_);refine nW (λw1_3 S1_3 r1_3=>?_);refine nW (λw1_4 S1_4 r1_4=>?_);refine nW (λw1_5 S1_5 r1_5=>?_);refine xU<|QI (λw2_0 S2_0 r2_0=>?_);refine QI (λw3_0 S3_0 r3_0=>?_);refine FW<|sS<|se (wb k) k<|se (wb k) k<|pL k2<|sn<|tn<|sS<|GG k8<|GG k8<|oB h λv1 hv1 h=>se (cLK eZ (GI _ _ _ hv1) k3 (wZ (vrR k r0_2 r0_3 r0_4 r0_5) (wZ (vrR k r1_2 r1_3 r1_4 r1_5) Ex))) k<|pL k2<|sn<|tn<|sQ<|sS<|gW k2<|se (FY aH r2_0 k k k) k<|gW k2<|sn<|tn<|jB h (λx1=>mN [(3,.sc w3_0),(4,.ptr 0 0 0),(9,.own 1 0 x1.1.length),(17,.sc w2_0),(18,.int (a2.length:Int)),(19,.int x1.2)] [(0,⟨6,[[.int a0.p,.int a0.q.n,.sc w0_2,.sc w0_3,.sc w0_4,.sc w0_5]]⟩),(1,⟨3,x1.1.map (ow eM)⟩)] 2 ⟨0,true,vD W,true⟩) (λr=>mN [(9,.own 0 0 r.length)] [(0,⟨3,r.map (ow eM)⟩)] 1 ⟨0,true,vD W,true⟩) ?_ ?_ (jZ [0,2])
 .intro x1 o h;refine sS<|LU k4<|sn<|tn<|sQ<|cO k h (λ_ h=>?_) λ_ h=>aS<|aB<|aB<|sp h ⟨_,k,k,(jZ [1])⟩;refine yU 4 k<|sS<|gW k2<|oB h λv3 hv3 h=>se (xW aH r2_0 hv3 k k k k k k) k<|Ku aH [.list 3 (v3.map eM)] (Dy r2_0 (cA hv3)) k k k k k k k k k<|nW (λwn9 Sn9 rn9=>?_);refine xU<|pL k2<|pL k2<|sn<|tn<|sS<|gW k2<|se (FY aH rn9 k k k) k<|gW k2<|sn<|tn<|jD h (λx2=>mN [(3,.sc w3_0),(4,.ptr 0 0 0),(9,.own 1 0 x2.1.length),(10,.int x1.2),(17,.sc w2_0),(18,.int (a2.length:Int)),(19,.int x1.2),(24,.sc wn9),(25,.int (v3.length:Int)),(26,.int x2.2)] [(0,⟨6,[[.int a0.p,.int a0.q.n,.sc w0_2,.sc w0_3,.sc w0_4,.sc w0_5]]⟩),(1,⟨3,x2.1.map (ow eM)⟩)] 2 ⟨0,true,vD W,true⟩) (λr=>mN [(3,.sc w3_0),(4,.ptr 0 0 0),(9,.own 1 0 r.length),(17,.sc w2_0),(18,.int (a2.length:Int)),(19,.int x1.2)] [(0,⟨6,[[.int a0.p,.int a0.q.n,.sc w0_2,.sc w0_3,.sc w0_4,.sc w0_5]]⟩),(1,⟨3,r.map (ow eM)⟩)] 2 ⟨0,true,vD W,true⟩) ?_ ?_
  .intro x2 o h;refine sS<|LU k4<|sn<|tn<|sQ<|cO k h (λ_ h=>?_) λ_ h=>aS<|aB<|aB<|sp h ⟨_,k,k,jI⟩;refine yU 4 k<|sS<|gW k2<|oB h λv5 hv5 h=>se (xW aH rn9 hv5 k k k k k k) k<|Ku aH [.int v5.rows,.int v5.cols,.list 1 (v5.cells.map eI)] (Dy rn9 (cA hv5)) k k k k k k k k k<|rZ<|rZ<|nW (λwn12 Sn12 rn12=>?_);refine xU<|se (Bf aH k k) k<|pL k2<|se (ws k) k<|sn<|tn<|oB h λv6 hv6 h=>aP (t:=mN [(3,.sc w3_0),(4,.ptr 0 0 0),(9,.own 1 0 x2.1.length),(10,.int x1.2),(12,.int x2.2),(13,.ptr 2 0 0),(17,.sc w2_0),(18,.int (a2.length:Int)),(19,.int x1.2),(24,.sc wn9),(25,.int (v3.length:Int)),(26,.int x2.2),(27,.bl (decide (x2.2<(v3.length:Int)))),(28,.int x2.2),(29,.sc (Bk wn9 3 x2.2.toNat)),(30,.agg [.int v5.rows,.int v5.cols,.sc wn12])] [(0,⟨6,[[.int a0.p,.int a0.q.n,.sc w0_2,.sc w0_3,.sc w0_4,.sc w0_5]]⟩),(1,⟨3,(x2.1.map (ow eM)).set x2.2.toNat [.int v6.rows,.int v6.cols,.abs 1 (v6.cells.map eI)]⟩),(2,⟨3,[[.int v5.rows,.int v5.cols,.sc wn12]]⟩)] 3 ⟨0,true,vD W,true⟩) (fB (eB k2) (iQ k<|hX ⟨_,k,k,.inl ⟨EH (cA hv6),CP eZ k⟩⟩ k<|iQ k<|bJ) k4)<|aP (CQ (b:=1) (c:=3) (i:=x2.2.toNat) (j:=2) (n:=v6.cells.length) (A:=x2.1.map (ow eM)) (fs:=v6.cells.map (ow eI)) (by rw[eD];exact jK hv6) k k k k (aV _ _) (mS _ _) (Gt ⟨k,k,k,k,k,k,k,k,k,k,k,k,k,k,k,k,bJ⟩) (Gu (skip:=[]) ⟨.inr (Bj k),.inr (eZ.dfS _ _ _ k),.inr (Bj k),bJ⟩))<|aP (t:=mN [(3,.sc w3_0),(4,.ptr 0 0 0),(9,.own 1 0 x2.1.length),(10,.int x1.2),(12,.int x2.2),(13,.ptr 2 0 0),(17,.sc w2_0),(18,.int (a2.length:Int)),(19,.int x1.2),(24,.sc wn9),(25,.int (v3.length:Int)),(26,.int x2.2),(27,.bl (decide (x2.2<(v3.length:Int)))),(28,.int x2.2),(29,.sc (Bk wn9 3 x2.2.toNat)),(30,.agg [.int v5.rows,.int v5.cols,.sc wn12])] [(0,⟨6,[[.int a0.p,.int a0.q.n,.sc w0_2,.sc w0_3,.sc w0_4,.sc w0_5]]⟩),(1,⟨3,(x2.1.map (ow eM)).set x2.2.toNat [.int v6.rows,.int v6.cols,.own 3 0 v6.cells.length]⟩),(2,⟨3,[[.int v5.rows,.int v5.cols,.sc wn12]]⟩),(3,⟨1,v6.cells.map (ow eI)⟩)] 4 ⟨0,true,vD W,true⟩) (iU (σ:=sg [(0,0),(1,1),(2,2),(3,3)]) (eB k2) (iQ k<|hX ⟨_,k,k,.inr (vE (σ:=sg [(0,0),(1,1),(2,2),(3,3)]) (m:=4) (e:=eM) (l:=x2.1) (i:=x2.2.toNat) (c:=[.int v6.rows,.int v6.cols,.own 3 0 v6.cells.length]) (d:=[.int v6.rows,.int v6.cols,.own 3 0 v6.cells.length]) eZ ⟨_,_,k,k,⟨_,_,k,k,⟨_,_,k,⟨k,k,k,k⟩,k⟩⟩⟩)⟩ k<|iQ k<|oH k<|bJ) k)<|aG dO<|gO 4 k<|ae (xo hv6 k) k<|fp k8<|ae (dM aH k k k k (GE (jK hv6)) k k) k<|gO 2 k<|oB h λv7 hv7 h=>ae (xW aH r3_0 hv7 k k k k k k) k<|ae (EI aH r3_0 (cA hv7) k k k k k k k) k<|gO 2 k<|oB h λv8 hv8 h=>ae (We (σ:=sg [(0,3)]) (σ':=sg [(3,0)]) (touch:=[3]) (news:=[]) (hl2:=[(3,⟨1,v8.map (ow eI)⟩)]) (n':=4) (r2:=.own 3 0 v6.cells.length) (BC _ _ _ _ _ _ _ hv8) k k ⟨_,_,k,(.inl k),⟨_,_,k,(.inl ⟨k,k,k,k⟩),⟨_,_,k,(.inl k),⟨_,_,k,(.inr ⟨YO k rn12,k,⟨k,k⟩⟩),k⟩⟩⟩⟩ ⟨⟨_,k,k,.inl ⟨k,cI.plainO _⟩⟩,k,bJ⟩ k k k ⟨⟨_,k,k,.inl ⟨k,cI.plainO _⟩⟩,k,bJ⟩ k ⟨k,k,(by simp only[aV,lA,lT,lR,lC,lN]),k⟩ k ⟨k,cI.tame _ _,bJ⟩ k k) k<|cG h λq9 h=>an<|mV (by kernel_rfl)<|aU<|tn<|aP (t:=mN [(3,.sc w3_0),(4,.ptr 0 0 0),(9,.own 1 0 ((x2.1.set x2.2.toNat (⟨v6.rows,v6.cols,v8⟩:Mt)).length)),(10,.int x1.2),(17,.sc w2_0),(18,.int (a2.length:Int)),(19,.int x1.2),(24,.sc wn9),(25,.int (v3.length:Int)),(26,.int x2.2)] [(0,⟨6,[[.int a0.p,.int a0.q.n,.sc w0_2,.sc w0_3,.sc w0_4,.sc w0_5]]⟩),(1,⟨3,List.map (ow eM) (x2.1.set x2.2.toNat (⟨v6.rows,v6.cols,v8⟩:Mt))⟩)] 4 ⟨0,true,vD W,true⟩) (Ent.trans (vW (b:=1) (b':=3) (j:=2) (es':=v8.map eI) (by rw[eD];exact jK hv6) k k k k (by simp only[aV,lA,lT,lR,lC,lN,of_decide_eq_true q9]) (cI.frzs _)) (fB (BX 2 k2 (wU ⟨_,k,⟨k,k,(by simp only[aV,lA,lT,lR,lC,lN,of_decide_eq_true q9]),k⟩⟩ (eB k2))) (iQ k<|hX ⟨_,k,k,.inl ⟨DD (⟨v6.rows,v6.cols,v8⟩:Mt) k,eZ.plainO _⟩⟩ k<|bJ) k4))<|Gx ?_;exact se (dC k k) k<|gW k2<|sn<|jo
  .intro y10 _ h;exact Gx<|se (dC k k) k<|gW k2<|sn<|jo
 .intro y11 _ h;exact sS<|gW k2<|pL k2<|sn<|tn<|bS<|sp h (bD k k k (lL (cS eZ k k)))
def Av(a0 a1:Rp)(a2:(List bK))(a3:Int):Option bK:=(Au a0.p (a2.length:Int) a3).bind λv1=>(DM a0 a1 a2 v1).bind λv2=>some v2
def Ly(a0)(a1)(a2)(a3)(r)(h:Av a0 a1 a2 a3=some r):HasC Tryz.prog 109 [.agg (eR a0),.agg (eR a1),.list 1 (a2.map (bP 3 eM)),.int a3] (.list 3 (r.map eM)):=by
 exact hM [.tmp 8] Tryz.func109 Tryz.ntmps109 k<|nK 8 k<|aG dO<|gO 6 k<|ln k4<|am k k<|oB h λv1 hv1 h=>ae (cL cI (Lw _ _ _ _ hv1) k3 (fV k (fV k (fV k aQ)))) k<|oB h λv2 hv2 h=>ae (cL eZ (Lx _ _ _ _ _ hv2) k3 (aI (kM k) (aI (kM k) (fV k (Wm k k aQ))))) k<|aa k k<|an<|mV (by kernel_rfl)<|tn<|bS<|sp h (bD k k k (lL (cS eZ k k)))
def pI(a0 a1:Int)(x1:(Int×Int)):Option ((Int×Int) ⊕ Int):=bif decide (x1.2<a1)then(bif decide (x1.1<=100000)then some (.inl (wr (x1.1*a0),wr (x1.2+1)))else(some (.inr x1.1)))else some (.inr x1.1)
def uW(a0 a1:Int):Option Int:=(Lp (pI a0 a1) (1,0)).bind λy3=>some y3
def Ft(a0)(a1)(r)(h:uW a0 a1=some r):HasC Tryz.prog 48 [.int a0,.int a1] (.int r):=by
 refine hM [.tmp 4] Tryz.func48 Tryz.ntmps48 k<|nK 16 k<|jB h (λx1=>mN [(0,.int a0),(1,.int a1),(5,.int x1.1),(6,.int x1.2)] [] 0) (λr=>mN [(5,.int r)] [] 0) ?_ ?_
 .intro x1 o h;exact cW 7 k<|jJ h (λq1 h=>aE 10 k q1<|jo) λq1 h=>aE 10 k q1<|jo
 .intro y3 _ h;exact jo
def DN(a0:Int)(a1:bK)(x1:(aA×Int)):Option ((aA×Int) ⊕ aA):=bif decide (x1.2<(a1.length:Int))then((bY a1 x1.2).bind λv2=>(yD a0 v2).bind λv3=>bif decide (x1.1.length+[v3].length <=4294967296)then some (.inl ((x1.1++[v3]),wr (x1.2+1)))else none)else some (.inr x1.1)
def Dq(a0:Int)(a1:bK):Option aA:=(Lp (DN a0 a1) ([],0)).bind λy5=>some y5
def Qq(a0)(a1)(r)(h:Dq a0 a1=some r):HasC Tryz.prog 161 [.int a0,.list 3 (a1.map eM)] (.list 1 (r.map eI)):=by
 refine hM [.tmp 4] Tryz.func161 Tryz.ntmps161 k<|cW 14 k<|ln k4<|dQ 3 k<|jB h (λx1=>mN [(0,.int a0),(5,.own 0 0 x1.1.length),(8,.list 3 (a1.map eM)),(9,.int (a1.length:Int)),(10,.int x1.2)] [(0,⟨1,x1.1.map (ow eI)⟩)] 1) (λr=>mN [(5,.own 0 0 r.length)] [(0,⟨1,r.map (ow eI)⟩)] 1) ?_ ?_ (jG [])
 .intro x1 o h;exact nK 6 k<|cO k h (λ_ h=>pB 6 k<|jl h k2 λv2 hv2 h=>oI 9 k<|oB h λv3 hv3 h=>ae (jc (Em _ _ _ hv3)) k<|ae (wl k) k<|cG h λq4 h=>ae (nH aH (l:=x1.1) (m:=[v3]) gT q4 k k k k k k k k k k k k) k<|JB 2 k<|aU<|tn<|kN 4 k<|tn<|sp h ⟨_,k,(jZ [3])⟩) λ_ h=>aS<|jo
 .intro y5 _ h;exact jo
def xP(a0 a1:Rp)(a2:bK):Option Bool:=(cU a0.dims a1.dims).bind λv1=>bif v1 then((Dq a0.p a2).bind λv3=>(cU v3 a0.dims).bind λv4=>some v4)else some false
def KM(a0)(a1)(a2)(r)(h:xP a0 a1 a2=some r):HasC Tryz.prog 110 [.agg (eR a0),.agg (eR a1),.list 3 (a2.map eM)] (.bl r):=by
 exact hM [.tmp 6] Tryz.func110 Tryz.ntmps110 k<|nK 8 k<|aG dO<|gO 4 k<|oB h λv1 hv1 h=>ae (jc (eP _ _ _ hv1)) k<|am k k<|jJ h (λq2 h=>aE 12 k q2<|gO 3 k<|oB h λv3 hv3 h=>ae (cL cI (Qq _ _ _ hv3) k3 (fV k (fV k aQ))) k<|gO 2 k<|oB h λv4 hv4 h=>ae (jc (eP _ _ _ hv4)) k<|jo) λq2 h=>aE 12 k q2<|jo
def rN(a0 a1:Rp)(a2:(List bK))(v1 x1:Int):Option (Int ⊕ (Unit ⊕ (bK×Bool))):=bif decide (x1<min v1 3000)then((Av a0 a1 a2 x1).bind λv3=>(xP a0 a1 v3).bind λv4=>bif v4 then some (.inr (.inr ((v3,true))))else(some (.inl (wr (x1+1)))))else some (.inr (.inl ()))
def pW(a0 a1:Rp)(a2:(List bK)):Option (bK×Bool):=(uW a0.p (a2.length:Int)).bind λv1=>(Lp (rN a0 a1 a2 v1) 0).bind λy6=>Sum.elim (λy7=>some (([],false))) (λy8=>some y8) y6
def GO(a0)(a1)(a2)(r)(h:pW a0 a1 a2=some r):HasC Tryz.prog 47 [.agg (eR a0),.agg (eR a1),.list 1 (a2.map (bP 3 eM))] (.tuple [.list 3 (r.1.map eM),.bl r.2]):=by
 refine hM [.tmp 6,.tmp 7] Tryz.func47 Tryz.ntmps47 k<|cW 14 k<|ln k4<|oB h λv1 hv1 h=>ae (jc (Ft _ _ _ hv1)) k<|ae (Rw k k) k<|dQ 3 k<|jS [.tmp 6,.tmp 7] (λr=>.tuple [.list 3 (r.1.map eM),.bl r.2]) h (λx1=>mN [(2,.list 1 (a2.map (bP 3 eM))),(3,.ptr 0 0 0),(4,.ptr 1 0 0),(15,.int (min v1 3000)),(16,.int x1)] [(0,⟨6,[eR a0]⟩),(1,⟨6,[eR a1]⟩)] 2) (λ_=>mN [] [] 0) ?_ ?_
 .intro x1 o h;exact nK 6 k<|cO k h (λ_ h=>pB 16 k<|oB h λv3 hv3 h=>ae (cL eZ (Ly _ _ _ _ _ hv3) k3 (aI (kM k) (aI (kM k) (fV k (fV k aQ))))) k<|oI 8 k<|oB h λv4 hv4 h=>ae (jc (KM _ _ _ _ hv4)) k<|an<|tn<|cO k h (λ_ h=>kN 8 k<|dJ<|aX<|aX<|sp h ⟨_,k,k,bD k k k (bH k (aR (hO (cS eZ k k)) (aR k cC)))⟩) λ_ h=>bC<|jo) λ_ h=>aS<|jo
 .intro y7 h;exact kN 7 k<|sp h (bD k k k (bH k (aR (hO k) (aR k cC))))
def Cp(a0 a1:Rp):Option Bool:=(cU a0.dims a1.dims).bind λv1=>bif !v1 then some true else((lG a0 a0).bind λv3=>(lG a0 a1).bind λv4=>bif !decide (v4=v3)then some true else((lG a1 a0).bind λv6=>bif !decide (v6=v3)then some true else((lG a1 a1).bind λv8=>some (!decide (v8=v3)))))
def OW(a0)(a1)(r)(h:Cp a0 a1=some r):HasC Tryz.prog 45 [.agg (eR a0),.agg (eR a1)] (.bl r):=by
 exact hM [.tmp 4] Tryz.func45 Tryz.ntmps45 k<|cW 14 k<|oB h λv1 hv1 h=>ae (jc (eP _ _ _ hv1)) k<|dQ 3 k<|cO k h (λ_ h=>jo) λ_ h=>pB 6 k<|oB h λv3 hv3 h=>ae (jc (wJ _ _ _ hv3)) k<|oI 7 k<|oB h λv4 hv4 h=>ae (jc (wJ _ _ _ hv4)) k<|gO 3 k<|jJ h (λq5 h=>aE 20 k q5<|jo) λq5 h=>aE 20 k q5<|gO 2 k<|oB h λv6 hv6 h=>ae (jc (wJ _ _ _ hv6)) k<|gO 4 k<|jJ h (λq7 h=>aE 27 k q7<|jo) λq7 h=>aE 27 k q7<|gO 2 k<|oB h λv8 hv8 h=>ae (jc (wJ _ _ _ hv8)) k<|jo
def tA(a0 a1:Rp):Option Int:=(vJ a0 a1).bind λv1=>bif !v1 then some ((-1))else((Cp a0 a1).bind λv3=>bif v3 then some 0 else((As a0 a1).bind λv5=>(pW a0 a1 v5).bind λv6=>bif v6.2 then some 1 else((uW a0.p ((v5.length:Nat):Int)).bind λv8=>bif decide (v8<=3000)then some 0 else(some ((-1))))))
def HR(a0)(a1)(r)(h:tA a0 a1=some r):HasC Tryz.prog 10 [.agg (eR a0),.agg (eR a1)] (.int r):=by
 refine hM [.tmp 4] Tryz.func10 Tryz.ntmps10 k<|cW 12 k<|oB h λv1 hv1 h=>ae (jc (EM _ _ _ hv1)) k<|dQ 3 k<|cO k h (λ_ h=>jo) λ_ h=>?_;refine pB 7 k<|oB h λv3 hv3 h=>ae (jc (OW _ _ _ hv3)) k<|an<|tn<|cO k h (λ_ h=>jo) λ_ h=>?_;refine pB 6 k<|oB h λv5 hv5 h=>ae (cL aZ (Lv _ _ _ hv5) k3 (aI (kM k) (aI (kM k) aQ))) k<|oI 9 k<|oB h λv6 hv6 h=>ae (cT eZ (GO _ _ _ _ hv6) k3 (aI (kM k) (aI (kM k) (aI (xS aZ k k) aQ)))) k<|zQ 11 k<|tn ?_;exact cO k h (λ_ h=>jo) λ_ h=>pB 8 k<|jn k5<|oB h λv8 hv8 h=>ae (jc (Ft _ _ _ hv8)) k<|jo
def FI(a0 a1:Rp):Option Int:=(oK a0 a1).bind λv1=>(yD a0.p v1).bind λv2=>some (wr (v1.rows-v2))
def OX(a0)(a1)(r)(h:FI a0 a1=some r):HasC Tryz.prog 119 [.agg (eR a0),.agg (eR a1)] (.int r):=by
 refine hM [.tmp 4] Tryz.func119 Tryz.ntmps119 k<|cW 11 k<|oB h λv1 hv1 h=>ae (cM (Bn _ _ _ hv1) k3 (aI (kM k) (aI (kM k) aQ))) k<|dQ 5 k<|aG dO<|gO 5 k<|oB h λv2 hv2 h=>ae (bZ (Em _ _ _ hv2) k (fV k (aI (UG k2) aQ))) k<|gO 2 k<|an<|mV (by kernel_rfl)<|tn ?_;exact jo
def FJ(a0 a1:Rp):Option Int:=(vJ a0 a1).bind λv1=>bif !v1 then some ((-1))else((FI a0 a1).bind λv3=>some v3)
def OY(a0)(a1)(r)(h:FJ a0 a1=some r):HasC Tryz.prog 59 [.agg (eR a0),.agg (eR a1)] (.int r):=by
 exact hM [.tmp 4] Tryz.func59 Tryz.ntmps59 k<|cW 12 k<|oB h λv1 hv1 h=>ae (jc (EM _ _ _ hv1)) k<|dQ 3 k<|cO k h (λ_ h=>jo) λ_ h=>pB 6 k<|oB h λv3 hv3 h=>ae (jc (OX _ _ _ hv3)) k<|jo
def yQ(a0:Rp):Option Bool:=(FJ a0 a0).bind λv1=>some (decide (v1=0))
def Nw(a0)(r)(h:yQ a0=some r):HasC Tryz.prog 15 [.agg (eR a0)] (.bl r):=by
 exact hM [.tmp 2] Tryz.func15 Tryz.ntmps15 k<|cW 10 k<|oB h λv1 hv1 h=>ae (jc (OY _ _ _ hv1)) k<|jo
def AF(a0 a1:Rp)(x1:Int):Option (Int ⊕ (Unit ⊕ Bool)):=bif decide (x1<(a0.maps.length:Int))then((bY a0.maps x1).bind λv8=>(bY a1.maps x1).bind λv9=>(sD v8 v9).bind λv10=>bif !v10 then some (.inr (.inr false))else(some (.inl (wr (x1+1)))))else some (.inr (.inl ()))
def qL(a0 a1:Rp):Option Bool:=bif !decide (a0.p=a1.p)then some false else((jN a0.q a1.q).bind λv2=>bif !v2 then some false else((lD a0.dims a1.dims).bind λv4=>bif !v4 then some false else(bif !decide ((a0.maps.length:Int)=(a1.maps.length:Int))then some false else((Lp (AF a0 a1) 0).bind λy12=>Sum.elim (λy13=>some true) (λy14=>some y14) y12))))
def Cg(a0)(a1)(r)(h:qL a0 a1=some r):HasC Tryz.prog 14 [.agg (eR a0),.agg (eR a1)] (.bl r):=by
 refine hM [.tmp 4] Tryz.func14 Tryz.ntmps14 k<|cW 16 k<|jJ h (λq1 h=>?_) λq1 h=>?_
 .refine aE 11 k q1<|dQ 26 k<|aP (t:=mN [(2,.ptr 0 0 0),(3,.ptr 1 0 0),(35,.bl true)] [(0,⟨6,[eR a0]⟩),(1,⟨6,[eR a1]⟩)] 2) jI<|vV k k<|sQ ?_;exact jo
 .refine aE 11 k q1<|gO 4 k<|oB h λv2 hv2 h=>ae (jc (DT _ _ _ hv2)) k<|gO 3 k<|jJ h (λq3 h=>aE 19 k q3<|dQ 18 k<|aP (t:=mN [(2,.ptr 0 0 0),(3,.ptr 1 0 0),(35,.bl true)] [(0,⟨6,[eR a0]⟩),(1,⟨6,[eR a1]⟩)] 2) jI<|jo) λq3 h=>?_;refine aE 19 k q3<|gO 4 k<|oB h λv4 hv4 h=>ae (jc (wI _ _ _ hv4)) k<|gO 3 k<|jJ h (λq5 h=>aE 27 k q5<|dQ 10 k<|aP (t:=mN [(2,.ptr 0 0 0),(3,.ptr 1 0 0),(35,.bl true)] [(0,⟨6,[eR a0]⟩),(1,⟨6,[eR a1]⟩)] 2) jI<|jo) λq5 h=>?_;refine aE 27 k q5<|gO 2 k<|ln k4<|gO 2 k<|ln k4<|dQ 4 k<|aP (t:=mN [(2,.ptr 0 0 0),(3,.ptr 1 0 0),(35,.bl (!decide ((a0.maps.length:Int)=(a1.maps.length:Int))))] [(0,⟨6,[eR a0]⟩),(1,⟨6,[eR a1]⟩)] 2) jI<|cO k h (λ_ h=>jo) λ_ h=>?_;refine yU 8 k<|jS [.tmp 4] .bl h (λx1=>mN [(2,.ptr 0 0 0),(3,.ptr 1 0 0),(5,.int x1)] [(0,⟨6,[eR a0]⟩),(1,⟨6,[eR a1]⟩)] 2) (λ_=>mN [] [] 0) ?_ ?_
  .intro x1 o h;exact cW 6 k<|ln k4<|dQ 3 k<|cO k h (λ_ h=>yU 5 k<|aG dO<|gO 3 k<|jl h k2 λv8 hv8 h=>gO 4 k<|jl h k2 λv9 hv9 h=>lr k7<|oB h λv10 hv10 h=>ae (jc (Gz _ _ _ hv10)) k<|jo) λ_ h=>aS<|jo
  .intro y13 h;exact jo
end
section
def ZN{x}(hp:tJ p=true)(hx:0<=x/\x<p):(wr (p-x)).tmod p=(-x)%p:=by
 have hb:=fN hp;rw[dS (by omega),Int.tmod_eq_emod_of_nonneg (by omega),show p-x= -x+p*1 by omega,Int.add_mul_emod_self_left]
def Qr(T:Tb p m n F):Co p ⟨m,n,bT m n F⟩=some (Gc p n (bX p m F n).1 (bX p m F n).2):=by
 have hn:=T.hn;have hN:=T.hN;have hm:=T.hm;have hin:=CA (by have:=fN T.hp;omega:0<p) T.hi n;have hlen:=@Ba p m F n;have hlen2:=@ET p m F n;have hget:=@Pg p m F n;unfold Co;rw[KI T,aC];simp only;generalize (bX p m F n).1=R at*;generalize (bX p m F n).2=L at*;rw[Uj hn (by omega),aC];have hfl:=TB n L;rw[eO (s:=(([]:aL),(0:Int))) (r:=Gc p n R L) (λk=>(((lB n L).take k).map λk=>FE p n R L k L.length,(k:Int))) (lB n L).length (by rfl) (λk hk=>?_) (λ_=>?_),aC]
 .have hf:=TC (List.getElem_mem hk);have ef:(lB n L)[k]?.getD 0=(lB n L)[k]:=by rw[iL hk];rfl
  unfold Cf;simp only;rw[gZ,oD hk,aJ,Nr hk,aC,ef,bF (by omega),bF (by omega:(n:Int)<=1048576),Bool.and_self,aJ,fU,fU,fQ (by simp;exact hf),aC];rw[eO (r:=FE p n R L (lB n L)[k] L.length) (λi=>(FE p n R L (lB n L)[k] i,(i:Int))) L.length (by rfl) (λi hi=>?_) (λ_=>?_),aC]
  .rw[bF (by simp only[eD,List.length_take];omega),aJ,cD hk (by omega),Nv (f:=λk=>FE p n R L k L.length) hk]
  .have him:i<m:=by omega
   have b1:=hin i _ him hf;have hv:=hget hi;unfold Ce;simp only;rw[gZ,oD hi,aJ,Nr hi,aC,Nd hN hm him,aC,Ca hN him,Cb hN hm him];simp only[fU,Nat.add_sub_cancel_left];rw[bF (by omega),bF (by omega),Bool.and_self,aJ,Nat.zero_add,kE R him hf,aC,ZF T.hp,aJ,fQ (by rw[EU];exact hv),aC,ZN T.hp b1,cD hi (by omega)];rfl
  .unfold Ce;simp only;rw[gZ,rH (bG _),aW]
 .unfold Cf;simp only;rw[gZ,rH (bG _),aW,List.take_length];rfl
def Te(P n c i:Nat):Nat:=c/P ^ (n-1-i)%P
def Qs(hp:tJ p=true):((p.toNat:Nat):Int)=p/\2<=p.toNat/\p.toNat<=5:=by have:=fN hp;omega
def aEB(hp:tJ p=true)(n c i):0<=(Te p.toNat n c i:Int)/\(Te p.toNat n c i:Int)<p:=by
 have:=Qs hp;have h:=Nat.mod_lt (c/p.toNat ^ (n-1-i)) (show p.toNat>0 by omega);unfold Te;omega
def Uk(hp:tJ p=true)(hn:n<=100)(hc:c<=1000000):Au p (n:Int) (c:Int)=some (iP n λi=>(Te p.toNat n c i:Int)):=by
 obtain⟨e,e2,e5⟩:=Qs hp;unfold Au;rw[bF (by omega),bF (by omega:(n:Int)<=1048576),Bool.and_self,aJ,fU];rw[eO (r:=iP n λi=>(Te p.toNat n c i:Int)) (λt=>(((c/p.toNat ^ t:Nat):Int),iP n (λi=>if n-t<=i then(Te p.toNat n c i:Int)else 0),(n:Int)-1-t)) n ?_ (λt ht=>?_) (λ_=>?_),aC]
 .rw[dS (by omega),Hz];simp only[Nat.pow_zero,Nat.div_one,Nat.sub_zero];congr 2
  .exact mB λj hj=>by rw[aN (by omega)]
  .omega
 .have ei:(n:Int)-1-(t:Int)=((n-1-t:Nat):Int):=by omega
  have hq:c/p.toNat ^ t<=c:=Nat.div_le_self _ _;have hq2:c/p.toNat ^ (t+1)<=c:=Nat.div_le_self _ _;unfold BP;simp only;rw[ei,bF (by omega),aJ,ZF hp,aJ,CD _ (by omega),aC,aJ,fU,Int.tmod_eq_emod_of_nonneg (Int.natCast_nonneg _),Int.tdiv_eq_ediv_of_nonneg (Int.natCast_nonneg _),Nm (by omega)]
  have e3:((c/p.toNat ^ t:Nat):Int)/p=((c/p.toNat ^ (t+1):Nat):Int):=by
   rw[Nat.pow_succ,←Nat.div_div_eq_div_mul];generalize c/p.toNat ^ t=q;rw[Int.natCast_ediv,e]
  have e4:((c/p.toNat ^ t:Nat):Int)%p=(Te p.toNat n c (n-1-t):Int):=by
   unfold Te;rw[show n-1-(n-1-t)=t by omega,Int.natCast_emod,e]
  rw[e3,e4,dS ⟨Int.le_trans (by decide) (Int.natCast_nonneg _),Int.le_trans (Int.ofNat_le.2 (Nat.le_trans hq2 hc)) (by decide)⟩,dS (by omega)];congr 4
  .refine mB λj hj=>?_;by_cases e6:j=n-1-t
   .rw[aM e6,aM (by omega),e6]
   .rw[aN e6];by_cases e7:n-t<=j
    .rw[aM e7,aM (by omega)]
    .rw[aN e7,aN (by omega)]
  .omega
 .unfold BP;simp only;rw[fC (by omega),aW];congr 2;exact mB λj hj=>by rw[aM (by omega)]
def wF(a b:Rp)(g:Nat->Int):bK:=(List.range a.dims.length).map λv=>(⟨dN b v,dN a v,iP (lV a b v) λy=>g (fD (lV a b) v+y)⟩:Mt)
def Vz(x:aA):Nat->Int:=λk=>x[k]?.getD 0
def aCe{l x k}(h:x.length=fD l k):x=Hw l (λv y=>Vz x (fD l v+y)) k:=
 Hx h λi y hi hy=>by
  have:=rM hi hy;unfold Vz;rw[iL (by omega),iN]
def ZO{a b}(h:Fit a b){x}(hx:x.length=nV a b):nO ((List.range a.dims.length).map λv=>(⟨dN b v,dN a v,bT (dN b v) (dN a v) λ_ _=>0⟩:Mt)) x=some (wF a b (Vz x)):=by
 have n5:=h.ra.n5;have bV:=h.offV (bG _);have:=Sw (k:=a.dims.length) (l:=lV a b) (r:=λv=>(dN b v:Int)) (c:=λv=>(dN a v:Int)) (z:=λv=>bT (dN b v) (dN a v) λ_ _=>0) (f:=λv y=>Vz x (fD (lV a b) v+y)) (by omega) (by omega) (λv _=>fT _ _ _);rw[←aCe hx]at this;exact this
def aEC{l:List α}{f}{body:List β×Int->Option ((List β×Int) ⊕ List β)}(hl:l.length<=4611686018427387904)(hs:∀(k:Nat)(hk:k<l.length)(o:List β),o.length=k->body (o,k)=some (.inl (o++[f l[k]],wr (k+1))))(he:∀o,body (o,l.length)=some (.inr o)):Lp body ([],0)=some (l.map f):=by
 rw[eO (r:=l.map f) (λk=>((l.take k).map f,(k:Int))) l.length (by simp) (λk hk=>?_) (λ_=>?_)]
 .rw[hs k hk _ (by simp;omega),cD hk hl,MX hk,List.map_append];rfl
 .rw[he,List.take_length]
def Lz(a b:Rp):aL:=Gc a.p (nV a b) (bX a.p (nE a b) (mE a b) (nV a b)).1 (bX a.p (nE a b) (mE a b) (nV a b)).2
def XR(a b:Rp):List bK:=(Lz a b).map λx=>wF a b (Vz x)
def Et{a b}(h:Fit a b):(Lz a b).length=kU a b:=Sy h.ra.hp (Ij h)
def WA{a b}(h:Fit a b){x}(hx:x∈Lz a b):x.length=nV a b/\∀z∈x,0<=z/\z<a.p:=by
 unfold Lz Gc at hx;obtain⟨k,_,rfl⟩:=List.mem_map.1 hx;exact⟨EU _ _ _ _ _ _,Ve h.ra.hp _ _ _ _ _⟩
def TD{a b}(h:Fit a b):As a b=some (XR a b):=by
 have hl:=Et h;have hd:=MS h;unfold As;rw[GN h,aC,Qr (Vv h),aC];show(Lp (vR a b (Lz a b)) ([],0)).bind _=_;rw[aEC (l:=Lz a b) (f:=λx=>wF a b (Vz x)) (by omega) (λk hk o ho=>?_) (λo=>?_)]
 .rfl
 .unfold vR;simp only;rw[oD hk,aJ,fQ hk,aC,Qn h,aC,ZO h (WA h (List.getElem_mem hk)).1,aC,bF (by omega),aJ]
 .unfold vR;simp only;rw[rH (bG _),aW]
def MT(a b:Rp)(c:Nat):Nat->Int:=λk=>sN (λi=>(Te a.p.toNat (kU a b) c i:Int)*fI (Lz a b) i k) (kU a b)%a.p
def aAo{a b}(h:Fit a b){i k}(hi:i<kU a b)(hk:k<nV a b):0<=fI (Lz a b) i k/\fI (Lz a b) i k<a.p:=by
 have hl:=Et h;have hm:=WA h (List.getElem_mem (show i<(Lz a b).length by omega));have e:(Lz a b)[i]?.getD []=(Lz a b)[i]'(by omega):=by rw[iL (by omega),iN]
 unfold fI;rw[e,iL (by omega),iN];exact hm.2 _ (List.getElem_mem _)
def TE{l i}(hi:i<l.length):Vz l[i]=fI l i:=by
 funext k;unfold Vz fI;rw[iL hi,iN]
def aAp{a b}(h:Fit a b){i}(hi:i<kU a b):bY (XR a b) (i:Int)=some (wF a b (fI (Lz a b) i)):=by
 have hl:=Et h;unfold XR;rw[fQ (by rw[eD];omega),List.getElem_map,TE (by omega)]
def paF(a b:Rp)(c t:Nat):Nat->Int:=λk=>sN (λi=>(Te a.p.toNat (kU a b) c i:Int)*fI (Lz a b) i k) t%a.p
def Nx(n k:Nat)(f:Nat->α)(v:α):((List.range n).map f).set k v=(List.range n).map λi=>if i=k then v else f i:=by
 refine List.ext_getElem (by simp) λt h1 h2=>?_;rw[List.getElem_set,List.getElem_map,List.getElem_map,List.getElem_range];by_cases e:k=t
 .rw[aM e,aM e.symm]
 .rw[aN e,aN λh=>e h.symm]
def Pj(n)(f):bT 1 n (λ_=>f)=iP n f:=by
 unfold bT iP;rw[Nat.one_mul];refine tI λy hy=>?_;rw[Nat.mod_eq_of_lt (List.mem_range.1 hy)]
def XS(hp:tJ p=true)(hn:n<=1048576){f g k}(hk:0<=k/\k<=5)(hf:∀b,b<n->0<=f b/\f b<p)(hg:∀b,b<n->0<=g b/\g b<p):kI p (iP n f) 0 n k (iP n g)=some (iP n λb=>(f b+k*g b)%p):=by
 have:=Nh (r:=1) (i:=0) hp hn (by omega) (F:=λ_=>f) hk hf hg;rw[Nat.zero_mul,Pj]at this;rw[this];congr 1;rw[←Pj];exact cE λi j hi hj=>by simp only[Ng];rw[aM (by omega)]
def Ul{a b}(h:Fit a b)(hc:c<=1000000):Av a b (XR a b) (c:Int)=some (wF a b (MT a b c)):=by
 have hl:=Et h;have hd:=MS h;have hp:=fN h.ra.hp;have n5:=h.ra.n5;have bV:=h.offV (bG _);have hV:nV a b<=80:=bV;unfold Av;have el:((XR a b).length:Int)=(kU a b:Int):=by unfold XR;rw[eD,hl]
 rw[el,Uk h.ra.hp (by omega) hc,aC];unfold DM;rw[Qn h,aC];rw[eO (r:=wF a b (MT a b c)) (λi=>(wF a b (paF a b c i),(i:Int))) (kU a b) ?_ (λi hi=>?_) (λ_=>?_),aC,aC]
 .unfold wF paF;congr 1
 .have hdg:=aEB h.ra.hp (kU a b) c i;unfold BR;simp only;rw[show decide ((i:Int)<((XR a b).length:Int))=true from bF (by rw[el];omega),aJ,aAp h hi,aC];rw[eO (r:=wF a b (paF a b c (i+1))) (λv=>((List.range a.dims.length).map λw=>(⟨dN b w,dN a w,iP (lV a b w) λy=>paF a b c (if w<v then i+1 else i) (fD (lV a b) w+y)⟩:Mt),(v:Int))) a.dims.length ?_ (λv hv=>?_) (λ_=>?_),aC,cD hi (by omega)]
  .congr 1
  .have hlv:=h.lV hv;have hov:∀y,y<lV a b v->fD (lV a b) v+y<nV a b:=λy hy=>rM hv hy;unfold BQ;simp only;rw[show decide ((v:Int)<((wF a b (fI (Lz a b) i)).length:Int))=true from bF (by unfold wF;simp;exact hv),aJ];rw[show bY (wF a b (fI (Lz a b) i)) (v:Int)=some (⟨dN b v,dN a v,iP (lV a b v) λy=>fI (Lz a b) i (fD (lV a b) v+y)⟩:Mt) from Cn hv,aC,Cn hv,aC,CD _ hi,aC];simp only;rw[nA,aN (Nat.lt_irrefl _),XS (f:=λy=>paF a b c i (fD (lV a b) v+y)) h.ra.hp (by omega) (by omega) (λy hy=>CC h.ra.hp) (λy hy=>aAo h hi (hov y hy)),aC,nA,bF rfl,aJ,fU,Nx,cD hv (by omega)];congr 3;refine tI λw hw=>?_;by_cases e:w=v
   .subst e;rw[aM rfl,aM (by omega)];congr 1;refine mB λy hy=>?_;unfold paF;rw[sN,Int.emod_add_emod]
   .rw[aN e];by_cases e2:w<v
    .rw[aM e2,aM (by omega)]
    .rw[aN e2,aN (by omega)]
  .unfold BQ;simp only;rw[show decide ((a.dims.length:Int)<((wF a b (fI (Lz a b) i)).length:Int))=false from fC (by unfold wF;simp),aW];congr 2;unfold wF;refine tI λw hw=>?_;rw[aM (List.mem_range.1 hw)]
 .unfold BR;simp only;rw[show decide ((kU a b:Int)<((XR a b).length:Int))=false from fC (by rw[el];omega),aW];rfl
def WB(g):∀n,sN g (n+1)=g 0+sN (λs=>g (s+1)) n
 |0=>by simp[sN]
 |n+1=>by rw[sN,WB g n,sN];omega
def gM(a b:Rp)(g:Nat->Int)(v:Nat):Nat->Nat->Int:=λr k=>g (fD (lV a b) v+(r*dN a v+k))
def XT(a b)(g):wF a b g=(List.range a.dims.length).map λv=>(⟨dN b v,dN a v,bT (dN b v) (dN a v) (gM a b g v)⟩:Mt):=by
 unfold wF;refine tI λv hv=>?_;congr 1;exact Yy λy hy=>by unfold gM;rw[vA]
def rkL(a b:Rp)(g:Nat->Int):aA:=(List.range a.dims.length).map λv=>(OU a.p (dN b v) (dN a v) (gM a b g v):Int)
def InG(a b:Rp)(g:Nat->Int):Prop:=∀k,k<nV a b->0<=g k/\g k<a.p
def InG.inP{a b g}(hg:InG a b g){v}(hv:v<a.dims.length):xQ a.p (dN b v) (dN a v) (gM a b g v):=λr k hr hk=>hg _ (rM hv (CK hr hk))
def aBc{a b}(h:Fit a b)(c):InG a b (MT a b c):=λk _=>CC h.ra.hp
def aAq{a b}(h:Fit a b){g}(hg:InG a b g):Dq a.p (wF a b g)=some (rkL a b g):=by
 have n5:=h.ra.n5;rw[XT];unfold Dq;rw[eO (s:=(([]:aA),(0:Int))) (r:=rkL a b g) (λk=>((List.range k).map (λv=>(OU a.p (dN b v) (dN a v) (gM a b g v):Int)),(k:Int))) a.dims.length (by rfl) (λk hk=>?_) (λ_=>?_),aC]
 .have hkb:k<b.dims.length:=by rw[h.ne];exact hk
  have d1:=(h.ra.d k hk).2;have d2:=(h.rb.d k hkb).2;have T:Tb a.p (dN b k) (dN a k) (gM a b g k):=⟨h.ra.hp,sq d2 d1,by omega,by omega,hg.inP hk⟩;unfold DN;simp only;rw[eD,List.length_range,oD hk,aJ,Cn hk,aC,GL T,aC,bF (by simp;omega),aJ,cD hk (by omega),←AY (f:=λv=>(OU a.p (dN b v) (dN a v) (gM a b g v):Int))];rfl
 .unfold DN;simp only;rw[eD,List.length_range,rH (bG _),aW];rfl
def aAr{a b}(ha:bR a)(h:Fit a b)(he:a.dims=b.dims){g}(hg:InG a b g):xP a b (wF a b g)=some (decide (rkL a b g=a.dims)):=by
 have n5:=h.ra.n5;unfold xP;rw[CZ ha.2.1,aC,bF he,aJ,aAq h hg,aC,CZ (by unfold bI rkL;simp;omega),aC]
def GP(c x:Nat->Int)(u:Nat->Nat->Int)(N):∀n,sN (λt=>c t*sN (λq=>x q*u q t) N) n=sN (λq=>x q*sN (λt=>c t*u q t) n) N
 |0=>by
  rw[dL (f:=λq=>x q*sN (λt=>c t*u q t) 0) (g:=λ_=>0) (n:=N) λq _=>by simp[sN],Ar];rfl
 |n+1=>by
  rw[sN,GP c x u N n,←JM,←JL];refine dL λq _=>?_;rw[sN,Int.mul_add,Int.mul_left_comm (c n)]
def WC{f x y}(h:∀k,k<n->x k%p=y k%p):dt n f x%p=dt n f y%p:=by
 unfold dt;refine HK λk hk=>?_;rw[Int.mul_emod,h k hk,←Int.mul_emod]
def ZP{f}:∀{n},(∀k,k<n->Z0 p (f k))->Z0 p (sN f n)
 |0,_=>by unfold Z0;simp[sN]
 |n+1,h=>FG (ZP λk hk=>h k (by omega)) (h n (by omega))
def WD{p:Int}{m n:Nat}{F:Nat->Nat->Int}{L:List Nat}(h:Red m n F L){k:Nat}(hk:k<n)(hL:∀i,i<L.length->L[i]?.getD 0≠k):∀t,t<=L.length->∀c,c<n->Vz (FE p n F L k t) c%p=(if c=k then 1 else -(sN (λi=>if L[i]?.getD 0=c then F i k else 0) t))%p
 |0,_,c,hc=>by
  unfold FE Vz;rw[List.getElem?_set,List.length_replicate];by_cases e:c=k
  .rw[aM e.symm,aM hk,aM e];rfl
  .rw[aN λh=>e h.symm,aN e];simp[hc,sN]
 |t+1,ht,c,hc=>by
  have ih:=WD (p:=p) h hk hL t (by omega) c hc;have hlt:=h.lt t (by omega);have hne:=hL t (by omega);unfold FE Vz;rw[List.getElem?_set,EU];by_cases e:L[t]?.getD 0=c
  .rw[aM e,aM (by omega),iN,Int.emod_emod_of_dvd _ (Int.dvd_refl p),aN (by omega),sN,aM e];rw[dL (g:=λ_=>0) λi hi=>?_,Ar,Int.zero_add];rw[aN];intro e2;have:=h.inc i t hi (by omega);omega
  .rw[aN e];refine ih.trans ?_;rw[sN,aN e,Int.add_zero]
def aCg(hp:tJ p=true)(hi:xQ p m n F){x}(hx:x∈Gc p n (bX p m F n).1 (bX p m F n).2):Kr p m n F (Vz x):=by
 have hR:=DL hp hi n (bG _);unfold Gc at hx;obtain⟨k,hk,rfl⟩:=List.mem_map.1 hx;have hk1:=TC hk
 have hL:∀i,i<(bX p m F n).2.length->(bX p m F n).2[i]?.getD 0≠k:=by
  intro i hi e;have h2:=(List.mem_filter.1 hk).2;have h3:k∈(bX p m F n).2:=by rw[←e];exact iR 0 hi
  simp[h3]at h2
 refine(Dm hp hi _ n (bG _)).1 λi him=>?_;have h1:=Kz (p:=p) hR hk1 hL i him;refine CB (WC λc hc=>?_) h1;exact(WD hR hk1 hL _ (bG _) c hc).symm
def aED{a b}(h:Fit a b)(c):Kr a.p (nE a b) (nV a b) (mE a b) (MT a b c):=by
 intro i hi
 have e1:dt (nV a b) (mE a b i) (MT a b c)%a.p=dt (nV a b) (mE a b i) (λk=>sN (λj=>(Te a.p.toNat (kU a b) c j:Int)*fI (Lz a b) j k) (kU a b))%a.p:=
  WC λk hk=>by unfold MT;exact Int.emod_emod_of_dvd _ (Int.dvd_refl _)
 refine CB e1.symm ?_;unfold dt;rw[GP (mE a b i) (λj=>(Te a.p.toNat (kU a b) c j:Int)) (fI (Lz a b)) (kU a b) (nV a b)];refine ZP λj hj=>yP _ ?_;have hl:=Et h;have hm:=aCg h.ra.hp (Ij h) (List.getElem_mem (show j<(Lz a b).length by omega)) i hi;rw[TE (by omega)]at hm;exact hm
def uU(a b:Rp)(q:Nat):Nat->Nat->Nat->Int:=λv j l=>if fD (lV a b) v+(j*dN a v+l)=q then 1 else 0
def dP(a b:Rp)(P:Nat->Nat->Nat->Int)(i r k:Nat):Int:=Fo (aF b i) (P (sV a i)) r k (dN b (sV a i))-Fo (P (tV a i)) (aF a i) r k (dN a (tV a i))
def aCh{a b}(P)(i r k):Nq a b P i r k=dP a b P i r k%a.p:=by
 unfold Nq dP fZ;generalize Fo (aF b i) (P (sV a i)) r k (dN b (sV a i))=x;generalize Fo (P (tV a i)) (aF a i) r k (dN a (tV a i))=y;rw[show x%a.p+(a.p-1)*(y%a.p)=(x%a.p-y%a.p)+a.p*(y%a.p) by rw[Int.sub_mul];omega,Int.add_mul_emod_self_left];exact(Int.sub_emod x y a.p).symm
def ZQ{a b}(x){v l}(hv:v<a.dims.length)(hj:j<dN b v)(hl:l<dN a v):gM a b x v j l=sN (λq=>x q*uU a b q v j l) (nV a b):=by
 rw[BN (n:=nV a b) (j:=fD (lV a b) v+(j*dN a v+l)) (rM hv (CK hj hl))]
 .unfold uU gM;rw[aM rfl,Int.mul_one]
 .intro q _ hq;unfold uU;rw[aN λe=>hq e.symm,Int.mul_zero]
section
variable {a b:Rp}(h:Fit a b){i r k:Nat}(hi:i<a.q.src.length)(hr:r<dN b (tV a i))(hk:k<dN a (sV a i))
include h hi hr hk
def aCi(x:Nat->Int):dP a b (gM a b x) i r k=sN (λq=>x q*dP a b (uU a b q) i r k) (nV a b):=by
 have hs:=(h.ra.s i hi).2;have ht:=(h.ra.t i hi).2;unfold dP;simp only[KL]
 have e1:sN (λt=>aF b i r t*gM a b x (sV a i) t k) (dN b (sV a i))=sN (λq=>x q*sN (λt=>aF b i r t*uU a b q (sV a i) t k) (dN b (sV a i))) (nV a b):=by
  rw[←GP (aF b i r) x (λq t=>uU a b q (sV a i) t k)];exact dL λt ht2=>by rw[ZQ x hs ht2 hk]
 have e2:sN (λt=>gM a b x (tV a i) r t*aF a i t k) (dN a (tV a i))=sN (λq=>x q*sN (λt=>uU a b q (tV a i) r t*aF a i t k) (dN a (tV a i))) (nV a b):=by
  have:=GP (λt=>aF a i t k) x (λq t=>uU a b q (tV a i) r t) (nV a b) (dN a (tV a i));rw[dL (f:=λt=>gM a b x (tV a i) r t*aF a i t k) (g:=λt=>aF a i t k*sN (λq=>x q*uU a b q (tV a i) r t) (nV a b)) λt ht2=>by rw[ZQ x ht hr ht2,Int.mul_comm],this];exact dL λq _=>by rw[dL λt _=>Int.mul_comm _ _]
 rw[e1,e2];have e3:∀f g:Nat->Int,sN f (nV a b)-sN g (nV a b)=sN (λq=>f q+(-1)*g q) (nV a b):=λf g=>by rw[JL,JM];omega
 rw[e3];exact dL λq _=>by rw[Int.mul_sub];omega
def aAs{q:Nat}(hq:q<nV a b):dP a b (uU a b q) i r k%a.p=mE a b (fD (lE a b) i+(r*dN a (sV a i)+k)) q:=by
 obtain⟨v0,z0,hv0,hz0,ek⟩:=Er hq;have hs:=(h.ra.s i hi).2;have ht:=(h.ra.t i hi).2;have hc:=Sx h hv0 hz0 hi hr hk;have hy:r*dN a (sV a i)+k<lE a b i:=CK hr hk
 have e:∀v j l,v<a.dims.length->j<dN b v->l<dN a v->uU a b q v j l=Qp a v0 z0 v j l:=by
  intro v j l hv hj hl;unfold uU Qp;rw[ek];by_cases e1:fD (lV a b) v+(j*dN a v+l)=fD (lV a b) v0+z0
  .rw[aM e1];have:=Vj (l:=lV a b) (CK hj hl) hz0 e1;rw[aM this]
  .rw[aN e1,aN];rintro⟨rfl,rfl⟩;exact e1 rfl
 have e2:dP a b (uU a b q) i r k=dP a b (Qp a v0 z0) i r k:=by
  unfold dP;simp only[KL];rw[dL λt ht2=>by rw[e _ t k hs ht2 hk],dL (f:=λt=>uU a b q (tV a i) r t*aF a i t k) λt ht2=>by rw[e _ r t ht hr ht2]]
 rw[e2,←aCh,hc];unfold mE;rw[uA _ hi hy,iN,ek,uA _ hv0 hz0,iN];unfold Proofs.YthpgddekfghemaaGreat.e2;rw[EQ hk,ER hk]
end
def XU{m}(h:bI m.cells):sD m m=some true:=by
 unfold bI at h;unfold sD;rw[bF rfl,bF rfl,bF rfl];simp only[gP,aW];rw[AE (n:=m.cells.length) (λ_=>true) false (by omega) (λk hk=>?_) (λ_=>?_),aC]
 .rw[show(List.range m.cells.length).all (λ_=>true)=true by simp];rfl
 .unfold uK;rw[oD hk,aJ,fQ hk,aC,aC,bF rfl];rfl
 .unfold uK;rw[rH (bG _),aW]
def OZ(a b:Rp)(c:Nat):Bool:=decide (rkL a b (MT a b c)=a.dims)
def aCj(a b:Rp)(n:Nat):Option bK:=(List.range' 0 (n-0)).findSome? λc=>bif OZ a b c then some (wF a b (MT a b c))else none
def GY(P:Nat):Nat->Nat
 |0=>1
 |k+1=>if GY P k<=100000 then GY P k*P else GY P k
def Um{P}(h5:P<=5):∀k,GY P k<=500000
 |0=>by simp[GY]
 |k+1=>by
  unfold GY;split
  .rename_i h;exact Nat.le_trans (Nat.mul_le_mul h h5) (by decide)
  .exact Um h5 k
def TF{P}:∀{k n},k<=n->100000<GY P k->GY P n=GY P k
 |k,0,h,_=>by rw[show k=0 by omega]
 |k,n+1,h,g=>by
  rcases eG n k with h'|h'
  .rw[show k=n+1 by omega]
  .have ih:=TF h' g;show(if GY P n<=100000 then GY P n*P else GY P n)=_;rw[aN (by omega),ih]
def LZ(hp:tJ p=true)(hn:n<=1000):uW p (n:Int)=some (GY p.toNat n:Int):=by
 obtain⟨e,e2,e5⟩:=Qs hp
 have key:∀d k,k+d=n->Lp (pI p (n:Int)) ((GY p.toNat k:Int),(k:Int))=some (GY p.toNat n:Int):=by
  intro d;induction d with
  |zero=>
   intro k hk;rw[Nat.add_zero]at hk;subst hk;refine oG ?_;unfold pI;simp only;rw[rH (bG _),aW]
  |succ d ih=>
   intro k hk;have hb:=Um e5 k;by_cases h:GY p.toNat k<=100000
   .rw[←ih (k+1) (by omega)];refine Bg ?_;unfold pI;simp only;rw[oD (by omega),aJ,bF (by omega),aJ]
    have e3:wr ((GY p.toNat k:Int)*p)=(GY p.toNat (k+1):Int):=by
     rw[show GY p.toNat (k+1)=GY p.toNat k*p.toNat from aM h,Int.natCast_mul,e];have:=Um e5 (k+1);rw[show GY p.toNat (k+1)=GY p.toNat k*p.toNat from aM h]at this;have h2:((GY p.toNat k*p.toNat:Nat):Int)=(GY p.toNat k:Int)*p:=by rw[Int.natCast_mul,e]
     rw[dS (by rw[←h2];omega)]
    rw[e3,cD (show k<n by omega) (by omega)]
   .rw[TF (show k<=n by omega) (by omega)];refine oG ?_;unfold pI;simp only;rw[oD (by omega),aJ,fC (by omega),aW]
 unfold uW;have h0:=key n 0 (by omega);rw[show((GY p.toNat 0:Nat):Int)=1 from rfl,show((0:Nat):Int)=0 from rfl]at h0;rw[h0,aC]
def La(a b:Rp):Nat:=min (GY a.p.toNat (kU a b)) 3000
def Un(a b:Rp):bK×Bool:=match aCj a b (La a b)with|some f=>(f,true)|none=>([],false)
def XV{a b}(ha:bR a)(hf:wX a b=true)(he:a.dims=b.dims):pW a b (XR a b)=some (Un a b):=by
 have h:=gL hf;have hl:=Et h;have hd:=MS h;have el:((XR a b).length:Int)=(kU a b:Int):=by unfold XR;rw[eD,hl]
 unfold pW;rw[el,LZ h.ra.hp (by omega),aC];have em:min ((GY a.p.toNat (kU a b):Nat):Int) 3000=((La a b:Nat):Int):=by unfold La;omega
 have ht:La a b<=3000:=Nat.min_le_right _ _;rw[Ht (s0:=0) (s:=0) (n:=La a b) (λc=>bif OZ a b c then some (wF a b (MT a b c),true)else none) rfl (by omega) (Nat.zero_le _) (λc _ hc=>?_) (λ_=>?_),aC]
 .unfold Un aCj
  have key:∀l:List Nat,l.findSome? (λc=>bif OZ a b c then some (wF a b (MT a b c),true)else none)=(l.findSome? λc=>bif OZ a b c then some (wF a b (MT a b c))else none).map λf=>(f,true):=by
   intro l;induction l with
   |nil=>rfl
   |cons c l ih=>
    rw[List.findSome?_cons,List.findSome?_cons];cases OZ a b c with
    |true=>rfl
    |false=>exact ih
  rw[key];cases (List.range' 0 (La a b-0)).findSome? λc=>bif OZ a b c then some (wF a b (MT a b c))else none<;>rfl
 .unfold rN;rw[em,oD hc,aJ,Ul h (by omega),aC,aAr ha h he (aBc h c),aC];unfold OZ;cases decide (rkL a b (MT a b c)=a.dims)<;>rfl
 .unfold rN;rw[em,rH (bG _),aW]
def XW(a b:Rp):Bool:= !decide (a.dims=b.dims)||(!decide (kU a b=kU a a)||(!decide (kU b a=kU a a)|| !decide (kU b b=kU a a)))
def WE{a b}(hf:wX a b=true):wX b a=true/\wX a a=true/\wX b b=true:=by
 unfold wX at*;simp only[cB,iS]at*;exact⟨⟨hf.2.1,hf.1,hf.2.2.1.symm,hf.2.2.2.symm⟩,⟨hf.1,hf.1,trivial,trivial⟩,hf.2.1,hf.2.1,trivial,trivial⟩
def Ny{x y:Nat}:decide ((x:Int)=(y:Int))=decide (x=y):=by
 by_cases h:x=y
 .rw[bF h,bF (by omega)]
 .rw[fC h,fC (by omega)]
def ZR{a b}(ha:bR a)(hf:wX a b=true):Cp a b=some (XW a b):=by
 obtain⟨f1,f2,f3⟩:=WE hf;unfold Cp XW;rw[CZ ha.2.1,aC];by_cases he:a.dims=b.dims
 .rw[bF he,gP,aW,Fs (gL f2),aC,Fs (gL hf),aC,Fs (gL f1),aC,Fs (gL f3),aC,Ny,Ny,Ny];cases decide (kU a b=kU a a)<;>cases decide (kU b a=kU a a)<;>rfl
 .rw[fC he];rfl
def isI(a b:Rp):Int:=if wX a b=true then(if XW a b=true then 0 else if(Un a b).2=true then 1 else if GY a.p.toNat (kU a b)<=3000 then 0 else -1)else -1
def XX{a b}(ha:bR a)(hb:bR b):tA a b=some (isI a b):=by
 unfold tA isI;rw[Sn ha hb,aC];cases hf:iI a&&(iI b&&(decide (a.p=b.p)&&decide (a.q=b.q)))with
 |false=>
  rw[aN (by unfold wX;rw[hf];simp)];rfl
 |true=>
  have hf':wX a b=true:=hf;have h:=gL hf';have hl:=Et h;have hd:=MS h;rw[aM hf',gP,aW,ZR ha hf',aC];cases hD:XW a b with
  |true=>rfl
  |false=>
   have he:a.dims=b.dims:=by
    unfold XW at hD;simp only[Bool.or_eq_false_iff,Bool.not_eq_false',iS]at hD;exact hD.1
   have el:(((XR a b).length:Nat):Int)=(kU a b:Int):=by unfold XR;rw[eD,hl]
   rw[aW,TD h,aC,XV ha hf' he,aC,el,LZ h.ra.hp (by omega),aC,aN (by simp)];cases (Un a b).2 with
   |true=>rfl
   |false=>
    rw[aW,aN (by simp)];by_cases h3:GY a.p.toNat (kU a b)<=3000
    .rw[aM h3,bF (by omega)];rfl
    .rw[aN h3,fC (by omega)];rfl
end
noncomputable section
open Frc (frc)
def gE(v:aA)(k:Nat):Int:=v[k]?.getD 0
def TG(p:Int)(j:Nat)(r v:aA):aA:=List.zipWith (λa b=>(gE r j*b-gE v j*a)%p) r v
def GZ(j:Nat):aL->Option (aA×aL)
 | []=>none
 |v::l=>if gE v j=0 then(GZ j l).map λx=>(x.1,v::x.2)else some (v,l)
def RR(p:Int):Nat->aL->aL
 |0,_=>[]
 |j+1,l=>match GZ j l with
  |none=>RR p j l
  |some x=>x.1::RR p j (x.2.map (TG p j x.1))
def IE:∀{l},GZ j l=none->∀v∈l,gE v j=0
 | [],_,v,h=>by cases h
 |w::l,h,v,hv=>by
  unfold GZ at h;by_cases e:gE w j=0
  .rw[aM e,Option.map_eq_none_iff]at h;rcases dR.1 hv with rfl|hv
   .exact e
   .exact IE h v hv
  .rw[aN e]at h;cases h
def Fu:∀{l x},GZ j l=some x->gE x.1 j≠0/\∀v,v∈l↔v=x.1∨v∈x.2
 | [],x,h=>by cases h
 |w::l,x,h=>by
  unfold GZ at h;by_cases e:gE w j=0
  .rw[aM e]at h;obtain⟨y,hy,rfl⟩:=Option.map_eq_some_iff.1 h;obtain⟨h1,h2⟩:=Fu hy;refine⟨h1,λv=>?_⟩;simp only[dR];rw[h2];exact⟨λh=>by rcases h with h|h|h<;>simp[h],λh=>by rcases h with h|h|h<;>simp[h]⟩
  .rw[aN e]at h;cases h;exact⟨e,λv=>dR⟩
def Qt{p r v}(h:r.length=v.length)(k):gE (TG p j r v) k=(gE r j*gE v k-gE v j*gE r k)%p:=by
 rw[show gE (TG p j r v) k=(TG p j r v)[k]?.getD 0 from rfl];unfold TG;rw[List.getElem?_zipWith];by_cases hk:k<r.length
 .rw[iL hk,iL (show k<v.length by omega)];simp[gE,hk,show k<v.length by omega]
 .rw[iM (show r.length<=k by omega)];simp[gE,hk,show ¬ k<v.length by omega]
def ZS{p a y}(hp:tJ p=true)(h0:a≠0)(h1:0<=a)(h2:a<p)(h:Z0 p (a*y)):Z0 p y:=by
 have:=(UM hp (r:=a) ⟨by omega,h2⟩).2.2;have h3:=yP (Ed p a) h;unfold Z0 at*;rw[←Int.mul_assoc,Int.mul_emod,Int.mul_comm (Ed p a),this,Int.one_mul,Int.emod_emod_of_dvd _ (Int.dvd_refl p)]at h3;exact h3
section
variable {p:Int}(hp:tJ p=true){n:Nat}
include hp
def MU{j:Nat}{r v:aA}(hr:r.length=n)(hv:v.length=n):(TG p j r v).length=n/\∀x∈TG p j r v,0<=x/\x<p:=by
 refine⟨by unfold TG;rw[List.length_zipWith];omega,λx hx=>?_⟩;unfold TG at hx;obtain⟨i,hi,rfl⟩:=List.getElem_of_mem hx;rw[List.getElem_zipWith];exact CC hp
def aBd{l:aL}(hl:VecsP p n l){v:aA}(hv:v∈l)(k:Nat):0<=gE v k/\gE v k<p:=by
 have:=fN hp;unfold gE;by_cases hk:k<v.length
 .rw[iL hk,iN];exact(hl v hv).2 _ (List.getElem_mem hk)
 .rw[iM (by omega)];simp;omega
def Qu:∀(j:Nat){l:aL},VecsP p n l->VecsP p n (RR p j l)
 |0,l,h=>λv hv=>by cases hv
 |j+1,l,h=>by
  unfold RR;cases hk:GZ j l with
  |none=>exact Qu j h
  |some x=>
   have h2:=(Fu hk).2;have hx:=h x.1 ((h2 _).2 (.inl rfl));intro v hv;rcases dR.1 hv with rfl|hv
   .exact hx
   .refine Qu j (λw hw=>?_) v hv;obtain⟨u,hu,rfl⟩:=List.mem_map.1 hw;exact MU hp hx.1 (h u ((h2 _).2 (.inr hu))).1
def Qw:∀(j:Nat){l:aL},VecsP p n l->(∀v∈l,∀k,j<=k->gE v k=0)->∀v∈RR p j l,∀k,j<=k->gE v k=0
 |0,l,_,h=>λv hv=>by cases hv
 |j+1,l,hV,h=>by
  unfold RR;cases hk:GZ j l with
  |none=>
   have h1:=IE hk;intro v hv k hjk;refine Qw j hV (λv hv k hjk=>?_) v hv k (by omega);by_cases e:k=j
   .rw[e];exact h1 v hv
   .exact h v hv k (by omega)
  |some x=>
   have h2:=(Fu hk).2;have hx:=hV x.1 ((h2 _).2 (.inl rfl));intro v hv k hjk;rcases dR.1 hv with rfl|hv
   .exact h _ ((h2 _).2 (.inl rfl)) k hjk
   .refine Qw j (λw hw=>?_) (λw hw k hjk=>?_) v hv k (by omega)
    .obtain⟨u,hu,rfl⟩:=List.mem_map.1 hw;exact MU hp hx.1 (hV u ((h2 _).2 (.inr hu))).1
    .obtain⟨u,hu,rfl⟩:=List.mem_map.1 hw;have hu':=(h2 _).2 (.inr hu);rw[Qt (by rw[hx.1,(hV u hu').1])];by_cases e:k=j
     .rw[e,Int.mul_comm (gE u j),Int.sub_self];rfl
     .rw[h u hu' k (by omega),h x.1 ((h2 _).2 (.inl rfl)) k (by omega)];simp
omit hp in
def ZT{r v}(h:r.length=v.length)(x):dt n (gE (TG p j r v)) x%p=(gE r j*dt n (gE v) x+(-(gE v j))*dt n (gE r) x)%p:=by
 have e:dt n (λk=>gE r j*gE v k+(-(gE v j))*gE r k) x=gE r j*dt n (gE v) x+(-(gE v j))*dt n (gE r) x:=by
  rw[UP (f:=λk=>gE r j*gE v k),QY]
 rw[←e];refine QX λk _=>?_;rw[Qt h,Int.emod_emod_of_dvd _ (Int.dvd_refl p),Int.neg_mul];rfl
def Qx:∀(j:Nat){l:aL},VecsP p n l->(∀v∈l,∀k,j<=k->gE v k=0)->∀x:Nat->Int,(∀v∈l,Z0 p (dt n (gE v) x))↔ ∀v∈RR p j l,Z0 p (dt n (gE v) x)
 |0,l,_,h,x=>by
  refine⟨λ_ v hv=>(by cases hv),λ_ v hv=>?_⟩;unfold dt;exact NZ λk _=>by rw[h v hv k (Nat.zero_le _),Int.zero_mul];rfl
 |j+1,l,hV,h,x=>by
  unfold RR;cases hk:GZ j l with
  |none=>
   have h1:=IE hk;refine Qx j hV (λv hv k hjk=>?_) x;by_cases e:k=j
   .rw[e];exact h1 v hv
   .exact h v hv k (by omega)
  |some y=>
   obtain⟨h1,h2⟩:=Fu hk;have hy':=(h2 _).2 (.inl rfl);have hy:=hV y.1 hy';have hb:=aBd hp hV hy' j
   have hV2:VecsP p n (y.2.map (TG p j y.1)):=λw hw=>by
    obtain⟨u,hu,rfl⟩:=List.mem_map.1 hw;exact MU hp hy.1 (hV u ((h2 _).2 (.inr hu))).1
   have ih:=Qx j hV2 (λw hw k hjk=>by
    obtain⟨u,hu,rfl⟩:=List.mem_map.1 hw;have hu':=(h2 _).2 (.inr hu);rw[Qt (by rw[hy.1,(hV u hu').1])];by_cases e:k=j
    .rw[e,Int.mul_comm (gE u j),Int.sub_self];rfl
    .rw[h u hu' k (by omega),h y.1 hy' k (by omega)];simp) x
   simp only[dR,forall_eq_or_imp];rw[←ih];constructor
   .intro hx;refine⟨hx _ hy',λw hw=>?_⟩;obtain⟨u,hu,rfl⟩:=List.mem_map.1 hw;have hu':=(h2 _).2 (.inr hu);refine CB (ZT (by rw[hy.1,(hV u hu').1]) x).symm ?_;exact FG (yP _ (hx u hu')) (yP _ (hx _ hy'))
   .rintro⟨g1,g2⟩ v hv;rcases (h2 v).1 hv with rfl|hv'
    .exact g1
    .have g3:=g2 _ (List.mem_map.2 ⟨v,hv',rfl⟩);have g4:=CB (ZT (by rw[hy.1,(hV v hv).1]) x) g3;have g5:=FG g4 (yP (gE v j) g1);rw[Int.neg_mul,Int.neg_add_cancel_right]at g5;exact ZS hp h1 hb.1 hb.2 g5
def Qy:∀(j:Nat){l:aL},j<=n->VecsP p n l->(∀v∈l,∀k,j<=k->gE v k=0)->Ind p n (RR p j l).length (fI (RR p j l))
 |0,l,_,_,h=>λc _ i hi=>absurd hi (Nat.not_lt_zero i)
 |j+1,l,hj,hV,h=>by
  unfold RR;cases hk:GZ j l with
  |none=>
   have h1:=IE hk;refine Qy j (by omega) hV λv hv k hjk=>?_;by_cases e:k=j
   .rw[e];exact h1 v hv
   .exact h v hv k (by omega)
  |some y=>
   obtain⟨h1,h2⟩:=Fu hk;have hy':=(h2 _).2 (.inl rfl);have hy:=hV y.1 hy';have hb:=aBd hp hV hy' j
   have hV2:VecsP p n (y.2.map (TG p j y.1)):=λw hw=>by
    obtain⟨u,hu,rfl⟩:=List.mem_map.1 hw;exact MU hp hy.1 (hV u ((h2 _).2 (.inr hu))).1
   have hlow:∀w∈y.2.map (TG p j y.1),∀k,j<=k->gE w k=0:=λw hw k hjk=>by
    obtain⟨u,hu,rfl⟩:=List.mem_map.1 hw;have hu':=(h2 _).2 (.inr hu);rw[Qt (by rw[hy.1,(hV u hu').1])];by_cases e:k=j
    .rw[e,Int.mul_comm (gE u j),Int.sub_self];rfl
    .rw[h u hu' k (by omega),h y.1 hy' k (by omega)];simp
   have ih:=Qy j (by omega) hV2 hlow;show Ind p n (y.1::RR p j (y.2.map (TG p j y.1))).length (fI (y.1::RR p j (y.2.map (TG p j y.1))));have hz:=Qw hp j hV2 hlow;generalize RR p j (y.2.map (TG p j y.1))=B at ih hz ⊢;intro c hc
   have e1:∀k,OS c (fI (y.1::B)) (y.1::B).length k=c 0*gE y.1 k+OS (λi=>c (i+1)) (fI B) B.length k:=λk=>by
    unfold OS;rw[List.length_cons,WB];rfl
   have e2:∀k,j<=k->OS (λi=>c (i+1)) (fI B) B.length k=0:=λk hjk=>by
    refine(dL (g:=λ_=>0) λi hi=>?_).trans (Ar _)
    have:fI B i k=0:=by
     unfold fI;rw[iL hi,iN];exact hz _ (List.getElem_mem hi) k hjk
    rw[this,Int.mul_zero]
   have hc0:Z0 p (c 0):=by
    have:=hc j (by omega);rw[e1,e2 j (bG _),Int.add_zero,Int.mul_comm]at this;exact ZS hp h1 hb.1 hb.2 this
   intro i hi;cases i with
   |zero=>exact hc0
   |succ i=>
    refine ih (λi=>c (i+1)) (λk hk=>?_) i (by simpa using hi);have:=hc k hk;rw[e1]at this;have g:=FG this (yP (-(gE y.1 k)) hc0)
    rwa [Int.neg_mul,Int.mul_comm (c 0),Int.add_right_comm,Int.add_right_neg,Int.zero_add]at g
def aAt{l:aL}(hV:VecsP p n l):(bX p l.length (fI l) n).2.length=(RR p n l).length:=by
 have h0:∀v∈l,∀k,n<=k->gE v k=0:=λv hv k hk=>by
  unfold gE;rw[iM (by rw[(hV v hv).1];exact hk)];rfl
 have hB:=Qu hp n hV;have hK:=Qx hp n hV h0
 have kr:∀(L:aL)(x:Nat->Int),Kr p L.length n (fI L) x↔ ∀v∈L,Z0 p (dt n (gE v) x):=λL x=>by
  have e:∀i (hi:i<L.length),fI L i=gE L[i]:=λi hi=>by
   funext k;unfold fI gE;rw[iL hi,iN]
  constructor
  .intro h v hv;obtain⟨i,hi,rfl⟩:=List.getElem_of_mem hv;rw[←e i hi];exact h i hi
  .intro h i hi;rw[e i hi];exact h _ (List.getElem_mem hi)
 have h1:=(Dn hp hV.inP hB.inP λx=>(kr l x).trans ((hK x).trans (kr _ x).symm)).1;rw[h1,←Ql (l:=RR p n l)];exact aCb hp hB (Qy hp n (bG _) hV h0)
end
def aAu{β:Type}(f:Int->Int->Int):aA->aA->(aA->β)->β
 |a::r,b::v,k=>frc (f a b) λx=>aAu f r v λl=>k (x::l)
 |_,_,k=>k []
def WF(f):∀(r v:aA)(k:aA->β),aAu f r v k=k (List.zipWith f r v)
 |a::r,b::v,k=>by rw[aAu,Frc.eq,WF f r v];rfl
 | [],v,k=>by cases v<;>rfl
 |a::r,[],k=>rfl
def elC{β:Type}(p:Int)(j:Nat)(r:aA):aL->(aL->β)->β
 | [],k=>k []
 |v::l,k=>frc (gE r j) λx=>frc (gE v j) λy=>aAu (λa b=>(x*b-y*a)%p) r v λw=>elC p j r l λm=>k (w::m)
def ZU(p)(j)(r):∀(l:aL)(k:aL->β),elC p j r l k=k (l.map (TG p j r))
 | [],k=>rfl
 |v::l,k=>by rw[elC,Frc.eq,Frc.eq,WF,ZU p j r l];rfl
def rkN(p:Int):Nat->aL->Nat
 |0,_=>0
 |j+1,l=>match GZ j l with
  |none=>rkN p j l
  |some x=>elC p j x.1 x.2 λm=>rkN p j m+1
def Uo(p):∀(j:Nat)(l:aL),rkN p j l=(RR p j l).length
 |0,l=>rfl
 |j+1,l=>by
  unfold rkN RR;cases GZ j l with
  |none=>exact Uo p j l
  |some x=>
   show elC p j x.1 x.2 (λm=>rkN p j m+1)=_;rw[ZU,Uo p j];rfl
def eqR(a b:Rp):aL:=(List.range a.q.src.length).flatMap λi=>(List.range (lE a b i)).map λy=>Hw (lV a b) (e2 a b i y) a.dims.length
def Pk(l)(g:Nat->β):∀m,(List.range m).flatMap (λi=>(List.range (l i)).map λy=>g (fD l i+y))=(List.range (fD l m)).map g
 |0=>rfl
 |m+1=>by
  rw[List.range_succ,List.flatMap_append,Pk l g m,fD,List.range_add,List.map_append,List.map_map];simp
def aCk(a b):eqR a b=(List.range (nE a b)).map λx=>iP (nV a b) (mE a b x):=by
 unfold eqR nE;rw[←Pk (lE a b) (λx=>iP (nV a b) (mE a b x)) a.q.src.length]
 have:∀(L:List Nat)(f g:Nat->aL),(∀i∈L,f i=g i)->L.flatMap f=L.flatMap g:=λL f g h=>by
  induction L with
  |nil=>rfl
  |cons i L ih=>rw[List.flatMap_cons,List.flatMap_cons,h i (by simp),ih λj hj=>h j (by simp[hj])]
 refine this _ _ _ λi hi=>tI λy hy=>?_;exact ZM (List.mem_range.1 hi) (List.mem_range.1 hy)
def rkC(a b:Rp):Nat:=frc (eqR a b) (rkN a.p (nV a b))
def aEG{b}(h:Fit a b):OU a.p (nE a b) (nV a b) (mE a b)=rkC a b:=by
 have hp:=h.ra.hp;have hi:=Ij h;unfold rkC;rw[Frc.eq,Uo,aCk];obtain⟨L,hL⟩:∃L,L=(List.range (nE a b)).map λx=>iP (nV a b) (mE a b x):=⟨_,rfl⟩;have hl:L.length=nE a b:=by rw[hL];simp
 have hV:VecsP a.p (nV a b) L:=λv hv=>by
  rw[hL]at hv;obtain⟨x,hx,rfl⟩:=List.mem_map.1 hv;refine⟨nA _ _,λy hy=>?_⟩;obtain⟨k,hk,rfl⟩:=List.mem_map.1 hy;exact hi _ _ (List.mem_range.1 hx) (List.mem_range.1 hk)
 rw[←hL,←aAt hp hV,hl];have e:∀x k,x<nE a b->k<nV a b->fI L x k=mE a b x k:=λx k hx hk=>by rw[hL];simp[fI,iP,hx,hk]
 refine congrArg List.length (Dn hp hi (by rw[←hl];exact hV.inP) λx=>⟨λg i hi=>?_,λg i hi=>?_⟩).1
 .rw[show dt (nV a b) (fI L i) x=dt (nV a b) (mE a b i) x from dL λk hk=>by rw[e i k hi hk]];exact g i hi
 .rw[←show dt (nV a b) (fI L i) x=dt (nV a b) (mE a b i) x from dL λk hk=>by rw[e i k hi hk]];exact g i hi
end
variable{q:Qv}
noncomputable section
set_option maxRecDepth 100000
def ZV(h:q∈Hs):eK q=some (PV q)/\dK q=some (PV q):=by
 have:=aCP q h;simp only[cB,iS]at this;exact⟨DS this.1,DS this.2⟩
noncomputable instance{q:Qv}:Tw (eK q):=⟨bif decide (q∈Hs)then some (PV q)else none,λr h=>by
 obtain⟨h1,h2⟩:=cg h
 rw[(ZV (of_decide_eq_true h1)).1,h2]⟩
noncomputable instance{q:Qv}:Tw (dK q):=⟨bif decide (q∈Hs)then some (PV q)else none,λr h=>by
 obtain⟨h1,h2⟩:=cg h
 rw[(ZV (of_decide_eq_true h1)).2,h2]⟩
def bB(r:Rp):Bool:=decide (r.q.src.length<=100)&&(decide (r.q.tgt.length<=100)&&(decide (r.dims.length<=100)&&(decide (r.maps.length<=100)&&r.maps.all λm=>decide (m.cells.length<=100))))
def ZW{r}(h:bB r=true):bR r:=by
 unfold bB at h;simp only[cB,iS,List.all_eq_true]at h;obtain⟨h1,h2,h3,h4,h5⟩:=h;exact⟨⟨by unfold bI;omega,by unfold bI;omega,trivial⟩,by unfold bI;omega,⟨by omega,λm hm=>⟨by have:=h5 m hm;unfold bI;omega,trivial⟩⟩,trivial⟩
def hdE(a b:Rp):Option Int:=bif bB a&&(bB b&&wX a b)then some ((nV a b-rkC a b:Nat):Int)else none
def aCm{b}(h:Fit a b):kU a b=nV a b-rkC a b:=by
 unfold kU;rw[aEG h]
def Uq{b r}(h:hdE a b=some r):bR a/\bR b/\wX a b=true/\r=(kU a b:Int):=by
 obtain⟨h1,h2⟩:=cg h;simp only[cB]at h1;cases h2;exact⟨ZW h1.1,ZW h1.2.1,h1.2.2,by rw[aCm (gL h1.2.2)]⟩
noncomputable instance{a b:Rp}:Tw (wK a b):=⟨hdE a b,λr h=>by
 obtain⟨h1,h2,h3,rfl⟩:=Uq h;rw[Ph h1 h2];unfold Vx
 rw[aM h3]⟩
noncomputable instance{a b:Rp}:Tw (AS a b):=⟨hdE a b,λr h=>by
 obtain⟨h1,h2,h3,rfl⟩:=Uq h;rw[Pi h1 h2];unfold Vx
 rw[aM h3]⟩
noncomputable instance{a b:Rp}:Tw (lG a b):=⟨hdE a b,λr h=>by
 obtain⟨h1,h2,h3,rfl⟩:=Uq h
 exact Fs (gL h3)⟩
end
noncomputable section
set_option synthInstance.maxSize 100000
set_option synthInstance.maxHeartbeats 400000
noncomputable section
instance {a0 a1 x1}:Tw (lO a0 a1 x1):=by delta lO;infer_instance
instance {a0 a1}:Tw (cU a0 a1):=by delta cU;infer_instance
instance {a0}:Tw (jY a0):=by delta jY;infer_instance
instance {a0}:Tw (kB a0):=by delta kB;infer_instance
instance {a0 a1}:Tw (kP a0 a1):=by delta kP;infer_instance
instance {a0 a1}:Tw (lF a0 a1):=by delta lF;infer_instance
instance {a1 x1}:Tw (lS a1 x1):=by delta lS;infer_instance
instance {a0 a1}:Tw (nX a0 a1):=by delta nX;infer_instance
instance {a0 a1 x1} [∀z0,Tw (a1 z0)]:Tw (lU a0 a1 x1):=by delta lU;infer_instance
instance {a0 a1} [∀z0,Tw (a1 z0)]:Tw (jR a0 a1):=by delta jR;infer_instance
instance {a0 a1}:Tw (nY a0 a1):=by delta nY;infer_instance
instance {a0 x1}:Tw (yF a0 x1):=by delta yF;infer_instance
instance {a0}:Tw (mJ a0):=by delta mJ;infer_instance
instance {a0 x1}:Tw (uN a0 x1):=by delta uN;infer_instance
instance {a0 a1}:Tw (nO a0 a1):=by delta nO;infer_instance
instance {a0 a1}:Tw (qB a0 a1):=by delta qB;infer_instance
instance {a0 a1 a2}:Tw (qU a0 a1 a2):=by delta qU;infer_instance
instance {a0 a1}:Tw (qW a0 a1):=by delta qW;infer_instance
instance {a0 a1}:Tw (zL a0 a1):=by delta zL;infer_instance
instance {a0 a1}:Tw (wM a0 a1):=by delta wM;infer_instance
instance {a0 a1 a2}:Tw (qX a0 a1 a2):=by delta qX;infer_instance
instance {a1 x1}:Tw (xJ a1 x1):=by delta xJ;infer_instance
instance {a0 a1 x2 x3}:Tw (xK a0 a1 x2 x3):=by delta xK;infer_instance
instance {v17 x2 x4}:Tw (xM v17 x2 x4):=by delta xM;infer_instance
instance {self a0 a1 x2} [∀z0 z1 z2,Tw (self z0 z1 z2)]:Tw (xN self a0 a1 x2):=by delta xN;infer_instance
instance {self a0 a1 a2} [∀z0 z1 z2,Tw (self z0 z1 z2)]:Tw (uQ self a0 a1 a2):=by delta uQ;infer_instance
instance t_spec_l20Sums:∀n a0 a1 a2,Tw (uR n a0 a1 a2)
 |0,_,_,_=>⟨none,Le.none⟩
 |n+1,a0,a1,a2=>have:=t_spec_l20Sums n;(inferInstance:Tw (uQ (uR n) a0 a1 a2))
instance {a0 a1}:Tw (eV a0 a1):=by delta eV;infer_instance
instance {a0}:Tw (jO a0):=by delta jO;infer_instance
instance {a1 a2 x1}:Tw (sP a1 a2 x1):=by delta sP;infer_instance
instance {a0 a1 a2}:Tw (qY a0 a1 a2):=by delta qY;infer_instance
instance {a0}:Tw (kC a0):=by delta kC;infer_instance
instance {a1 a2 x1}:Tw (nG a1 a2 x1):=by delta nG;infer_instance
instance {a0 a1 a2}:Tw (iT a0 a1 a2):=by delta iT;infer_instance
instance {v7 v11 x1}:Tw (xO v7 v11 x1):=by delta xO;infer_instance
instance {a0 a1 a2}:Tw (Bt a0 a1 a2):=by delta Bt;infer_instance
instance {x1}:Tw (Bu x1):=by delta Bu;infer_instance
instance {x3 x4}:Tw (Bv x3 x4):=by delta Bv;infer_instance
instance {x3}:Tw (Bw x3):=by delta Bw;infer_instance
instance {v7 y10 x2}:Tw (Bx v7 y10 x2):=by delta Bx;infer_instance
instance {a0 a1 a2}:Tw (Bz a0 a1 a2):=by delta Bz;infer_instance
instance {a0 a1 v1 x1}:Tw (pU a0 a1 v1 x1):=by delta pU;infer_instance
instance {a0 a1}:Tw (dH a0 a1):=by delta dH;infer_instance
instance {a0 a1 v1 x1}:Tw (pV a0 a1 v1 x1):=by delta pV;infer_instance
instance {a0 a1}:Tw (dA a0 a1):=by delta dA;infer_instance
instance {a0 x1}:Tw (tG a0 x1):=by delta tG;infer_instance
instance {a0}:Tw (rG a0):=by delta rG;infer_instance
instance {v9 x2}:Tw (AD v9 x2):=by delta AD;infer_instance
instance {self a0 a2 a3 x1} [∀z0 z1 z2 z3 z4,Tw (self z0 z1 z2 z3 z4)]:Tw (tZ self a0 a2 a3 x1):=by delta tZ;infer_instance
instance {self a0 a1 a2 a3 a4} [∀z0 z1 z2 z3 z4,Tw (self z0 z1 z2 z3 z4)]:Tw (rA self a0 a1 a2 a3 a4):=by delta rA;infer_instance
instance t_impl_decompose:∀n a0 a1 a2 a3 a4,Tw (qK n a0 a1 a2 a3 a4)
 |0,_,_,_,_,_=>⟨none,Le.none⟩
 |n+1,a0,a1,a2,a3,a4=>have:=t_impl_decompose n;(inferInstance:Tw (rA (qK n) a0 a1 a2 a3 a4))
instance {a0 a1}:Tw (eW a0 a1):=by delta eW;infer_instance
end
end
noncomputable section
open Frc (frc)
set_option maxRecDepth 100000
def aCn{m:Option α}{c:Bool}{v:α}(h:c=true->m=some v):Le (bif c then some v else none) m:=λr e=>by
 obtain⟨h1,h2⟩:=cg e;rw[h h1,h2]
@[reducible] def twO {α:Type} {m:Option α} (c:Bool) (v:α) (h:c=true->m=some v):Tw m:=⟨bif c then some v else none,aCn h⟩
def Nz(l:aA):aA->Bool:=List.rec (motive:=λ_=>aA->Bool) (λm=>List.rec (motive:=λ_=>Bool) true (λ_ _ _=>false) m) (λa _ h m=>List.rec (motive:=λ_=>Bool) false (λb m _=>Bool.rec false (h m) (eqZ a b)) m) l
def MV:∀{l m},Nz l m=true->l=m
 | [],[],_=>rfl
 | [],b::m,h=>by cases h
 |a::l,[],h=>by cases h
 |a::l,b::m,h=>by
  have h:(Bool.rec false (Nz l m) (eqZ a b):Bool)=true:=h;cases e:eqZ a b with
  |false=>rw[e]at h;cases h
  |true=>
   rw[e]at h;rw[UF]at e;rw[of_decide_eq_true e,MV h]
def ZX(x:aA)(L:aL):Bool:=List.rec (motive:=λ_=>Bool) false (λa _ h=>Bool.rec h true (Nz x a)) L
def OA{x}:∀{L},ZX x L=true->x∈L
 | [],h=>by cases h
 |a::L,h=>by
  have h:(Bool.rec (ZX x L) true (Nz x a):Bool)=true:=h;cases e:Nz x a with
  |false=>rw[e]at h;exact List.mem_cons_of_mem _ (OA h)
  |true=>rw[MV e];exact List.mem_cons_self
def aAv(q:Qv)(L:List Qv):Bool:=List.rec (motive:=λ_=>Bool) false (λr _ h=>Bool.rec h true (Bool.rec false (Bool.rec false (Nz q.tgt r.tgt) (Nz q.src r.src)) (eqZ q.n r.n))) L
def KN:∀{L},aAv q L=true->q∈L
 | [],h=>by cases h
 |r::L,h=>by
  have h:(Bool.rec (aAv q L) true (Bool.rec false (Bool.rec false (Nz q.tgt r.tgt) (Nz q.src r.src)) (eqZ q.n r.n)):Bool)=true:=h;cases e1:eqZ q.n r.n with
  |false=>rw[e1]at h;exact List.mem_cons_of_mem _ (KN h)
  |true=>
   cases e2:Nz q.src r.src with
   |false=>rw[e1,e2]at h;exact List.mem_cons_of_mem _ (KN h)
   |true=>
    cases e3:Nz q.tgt r.tgt with
    |false=>rw[e1,e2,e3]at h;exact List.mem_cons_of_mem _ (KN h)
    |true=>
     rw[UF]at e1
     have e:q=r:=by
      obtain⟨n,s,t⟩:=q;obtain⟨n',s',t'⟩:=r;rw[show n=n' from of_decide_eq_true e1,show s=s' from MV e2,show t=t' from MV e3]
     rw[e];exact List.mem_cons_self
def dtF(l:aA):aA->Int:=List.rec (motive:=λ_=>aA->Int) (λ_=>0) (λa _ h m=>List.rec (motive:=λ_=>Int) 0 (λb m _=>adZ (Int.mul a b) (h m)) m) l
def rhF(q:Qv)(x y:aA):Int:=
 frc (Int.sub (dtF x y) (dtF (q.src.map λs=>(OM x s.toNat).getD 0) (q.tgt.map λs=>(OM y s.toNat).getD 0))) λe=>Bool.rec 0 e (leZ 0 e)
def aCo:∀q∈Ys,∀x∈(PV q).1,∀y∈(PV q).1,(decide (tw (qX q x y)=some (rhF q x y))&&decide (tw (qU q x y)=some (rhF q x y)))=true:=by decide+kernel
def rhC(q:Qv)(x y:aA):Bool:=Bool.rec false (Bool.rec false (ZX y (PV q).1) (ZX x (PV q).1)) (aAv q Ys)
def aBf{x y}(h:rhC q x y=true):qX q x y=some (rhF q x y)/\qU q x y=some (rhF q x y):=by
 unfold rhC at h;cases e1:aAv q Ys with
 |false=>rw[e1]at h;cases h
 |true=>
  cases e2:ZX x (PV q).1 with
  |false=>rw[e1,e2]at h;cases h
  |true=>
   rw[e1,e2]at h;have:=aCo q (KN e1) x (OA e2) y (OA h);simp only[cB,iS]at this;exact⟨DS this.1,DS this.2⟩
noncomputable instance{q x y}:Tw (qX q x y):=twO (rhC q x y) _ λh=>(aBf h).1
noncomputable instance{q x y}:Tw (qU q x y):=twO (rhC q x y) _ λh=>(aBf h).2
def Fw:Nat->aL
 |0=>[[]]
 |n+1=>(Fw n).flatMap λl=>[0::l,1::l,2::l]
def Qz:∀(x:aA),(∀a∈x,0<=a/\a<=2)->x∈Fw x.length
 | [],_=>by simp[Fw]
 |a::x,h=>by
  refine List.mem_flatMap.2 ⟨x,Qz x λb hb=>h b (List.mem_cons_of_mem _ hb),?_⟩;have:=h a List.mem_cons_self;rcases (show a=0∨a=1∨a=2 by omega)with rfl|rfl|rfl<;>simp
def dcF(R:aL):Nat->Nat->aA->aL
 |0,_,_=>[]
 |f+1,j,x=>if(x.all λa=>decide (a=0))=true then [[]]else(List.range' j (R.length-j)).flatMap λi=>if(List.zipWith (λa b=>a-b) x (R[i]?.getD [])).all (λa=>decide (0<=a))=true then(dcF R f i (List.zipWith (λa b=>a-b) x (R[i]?.getD []))).map ((i:Int):: ·)else []
def dcT(q:Qv)(x:aA):aL×Bool:=if(PV q).2=true then(dcF (PV q).1 7 0 x,true)else([],false)
def aCp:∀q∈Hs,∀x∈Fw q.n.toNat,(decide (tw (eW q x)=some (dcT q x))&&decide (tw (eV q x)=some (dcT q x)))=true:=by decide+kernel
def WG{x}(h:(decide (q∈Hs)&&decide (x∈Fw q.n.toNat))=true):eW q x=some (dcT q x)/\eV q x=some (dcT q x):=by
 simp only[cB,iS]at h;have:=aCp q h.1 x h.2;simp only[cB,iS]at this;exact⟨DS this.1,DS this.2⟩
noncomputable instance{q x}:Tw (eW q x):=twO (decide (q∈Hs)&&decide (x∈Fw q.n.toNat)) _ λh=>(WG h).1
noncomputable instance{q x}:Tw (eV q x):=twO (decide (q∈Hs)&&decide (x∈Fw q.n.toNat)) _ λh=>(WG h).2
def rpT(p:Int)(q:Qv)(x:aA):Rp:=⟨p,q,x,List.zipWith (λs t=>⟨x[t.toNat]?.getD 0,x[s.toNat]?.getD 0,List.replicate ((x[t.toNat]?.getD 0)*(x[s.toNat]?.getD 0)).toNat 1⟩) q.src q.tgt⟩
def pD:aA:=[2,3,5,1,4,6,7,0, -1]
def Xp(p:Int)(q:Qv):List Rp×Bool:=if(p=2∨p=3∨p=5)/\(PV q).2=true then((PV q).1.map (rpT p q),true)else([],false)
def aCq:∀p∈pD,∀q∈Hs,(decide (tw (dH p q)=some (Xp p q))&&decide (tw (dA p q)=some (Xp p q)))=true:=by decide+kernel
def TH(h:(decide (p∈pD)&&decide (q∈Hs))=true):dH p q=some (Xp p q)/\dA p q=some (Xp p q):=by
 simp only[cB,iS]at h;have:=aCq p h.1 q h.2;simp only[cB,iS]at this;exact⟨DS this.1,DS this.2⟩
noncomputable instance{p q}:Tw (dH p q):=twO (decide (p∈pD)&&decide (q∈Hs)) _ λh=>(TH h).1
noncomputable instance{p q}:Tw (dA p q):=twO (decide (p∈pD)&&decide (q∈Hs)) _ λh=>(TH h).2
end
noncomputable section
set_option synthInstance.maxSize 100000
set_option synthInstance.maxHeartbeats 400000
noncomputable section
instance {a0 a1 a2}:Tw (yI a0 a1 a2):=by delta yI;infer_instance
instance {a0 a1 a2}:Tw (sI a0 a1 a2):=by delta sI;infer_instance
instance {a0 v1 v2 x1 x2 x3}:Tw (sJ a0 v1 v2 x1 x2 x3):=by delta sJ;infer_instance
instance {a0 v1 v2 x1 x2}:Tw (sK a0 v1 v2 x1 x2):=by delta sK;infer_instance
instance {a0 v1 v2 x1}:Tw (sO a0 v1 v2 x1):=by delta sO;infer_instance
instance {a0 a1}:Tw (lW a0 a1):=by delta lW;infer_instance
instance {a0 a1 a2 a3}:Tw (mZ a0 a1 a2 a3):=by delta mZ;infer_instance
instance {a0 a1 a2 a3}:Tw (pH a0 a1 a2 a3):=by delta pH;infer_instance
instance {a0 v1 v2 x1}:Tw (sZ a0 v1 v2 x1):=by delta sZ;infer_instance
instance {a0 a1}:Tw (lY a0 a1):=by delta lY;infer_instance
end
end
noncomputable section
set_option maxRecDepth 100000
def aFC(q:Qv)(x y:aA):Int:=Int.sub (dtF x y) (dtF (q.src.map λs=>(OM x s.toNat).getD 0) (q.tgt.map λs=>(OM y s.toNat).getD 0))
def gdF(q:Qv)(w:aA):Bool:=w.all λi=>w.all λj=>leZ 0 (aFC q ((OM (PV q).1 i.toNat).getD []) ((OM (PV q).1 j.toNat).getD []))
def gsT(q:Qv)(x:aA):aA×Bool:=match (dcT q x).1.find? (gdF q)with
 |some w=>(w,true)
 |none=>([],false)
def aCr:∀q∈Hs,∀x∈Fw q.n.toNat,(decide (tw (lY q x)=some (gsT q x))&&decide (tw (lW q x)=some (gsT q x)))=true:=by decide+kernel
def aBg{x}(h:(decide (q∈Hs)&&decide (x∈Fw q.n.toNat))=true):lY q x=some (gsT q x)/\lW q x=some (gsT q x):=by
 simp only[cB,iS]at h;have:=aCr q h.1 x h.2;simp only[cB,iS]at this;exact⟨DS this.1,DS this.2⟩
noncomputable instance{q x}:Tw (lY q x):=twO (decide (q∈Hs)&&decide (x∈Fw q.n.toNat)) _ λh=>(aBg h).1
noncomputable instance{q x}:Tw (lW q x):=twO (decide (q∈Hs)&&decide (x∈Fw q.n.toNat)) _ λh=>(aBg h).2
end
noncomputable section
set_option synthInstance.maxSize 100000
set_option synthInstance.maxHeartbeats 400000
noncomputable section
instance {a0 a1 x1}:Tw (qS a0 a1 x1):=by delta qS;infer_instance
instance {a0 a1}:Tw (rO a0 a1):=by delta rO;infer_instance
instance {a0 a1}:Tw (oY a0 a1):=by delta oY;infer_instance
instance {a0 x1}:Tw (wA a0 x1):=by delta wA;infer_instance
instance {a0}:Tw (kF a0):=by delta kF;infer_instance
instance {a0 a1}:Tw (jN a0 a1):=by delta jN;infer_instance
instance {a0 a1}:Tw (pN a0 a1):=by delta pN;infer_instance
instance {a0 a1}:Tw (rP a0 a1):=by delta rP;infer_instance
instance {a0 a1}:Tw (rQ a0 a1):=by delta rQ;infer_instance
instance {a0 x1}:Tw (wB a0 x1):=by delta wB;infer_instance
instance {a0}:Tw (nM a0):=by delta nM;infer_instance
instance {a0}:Tw (gA a0):=by delta gA;infer_instance
instance {v1 v3 x1 x2}:Tw (mW v1 v3 x1 x2):=by delta mW;infer_instance
instance {a1 v1 x1}:Tw (mX a1 v1 x1):=by delta mX;infer_instance
instance {a0 a1}:Tw (kK a0 a1):=by delta kK;infer_instance
instance {a0 a1 x1}:Tw (uO a0 a1 x1):=by delta uO;infer_instance
instance {a0 a1}:Tw (pZ a0 a1):=by delta pZ;infer_instance
instance {a0 a1 x1}:Tw (qF a0 a1 x1):=by delta qF;infer_instance
instance {a0 a1}:Tw (qA a0 a1):=by delta qA;infer_instance
instance {a0 v4 v13 x3}:Tw (gF a0 v4 v13 x3):=by delta gF;infer_instance
instance {a0 v4 v11 x2}:Tw (gG a0 v4 v11 x2):=by delta gG;infer_instance
instance {a0 v4 v5 v9 x1}:Tw (gH a0 v4 v5 v9 x1):=by delta gH;infer_instance
instance {a0}:Tw (cV a0):=by delta cV;infer_instance
instance {v6 x1 x2}:Tw (rB v6 x1 x2):=by delta rB;infer_instance
instance {a0 v4 v5 x3 y20 x4}:Tw (gI a0 v4 v5 x3 y20 x4):=by delta gI;infer_instance
instance {a0 v4 v5 v10 y20 x3}:Tw (gJ a0 v4 v5 v10 y20 x3):=by delta gJ;infer_instance
instance {a0 v4 v5 v6 v10 x1}:Tw (gK a0 v4 v5 v6 v10 x1):=by delta gK;infer_instance
instance {a0}:Tw (cJ a0):=by delta cJ;infer_instance
instance {a0 a1 x1}:Tw (kR a0 a1 x1):=by delta kR;infer_instance
instance {a0 a1}:Tw (kS a0 a1):=by delta kS;infer_instance
instance {a0 x1}:Tw (kD a0 x1):=by delta kD;infer_instance
instance {a0}:Tw (iA a0):=by delta iA;infer_instance
instance {a0 x1}:Tw (mY a0 x1):=by delta mY;infer_instance
instance {a0}:Tw (kL a0):=by delta kL;infer_instance
instance {a0 a1}:Tw (rS a0 a1):=by delta rS;infer_instance
instance {a0 x1}:Tw (lX a0 x1):=by delta lX;infer_instance
instance {a0}:Tw (mG a0):=by delta mG;infer_instance
instance {a0}:Tw (qH a0):=by delta qH;infer_instance
instance {a0 a1}:Tw (tF a0 a1):=by delta tF;infer_instance
instance {a0 a1}:Tw (zM a0 a1):=by delta zM;infer_instance
instance {a0 a1 a2}:Tw (wN a0 a1 a2):=by delta wN;infer_instance
instance {a1 x1}:Tw (pC a1 x1):=by delta pC;infer_instance
instance {a0 a1 x2}:Tw (pE a0 a1 x2):=by delta pE;infer_instance
instance {a0 a1}:Tw (qI a0 a1):=by delta qI;infer_instance
instance {a2 x1}:Tw (gB a2 x1):=by delta gB;infer_instance
instance {a0 a1 a2}:Tw (uS a0 a1 a2):=by delta uS;infer_instance
instance {a0 v1 x1 x2}:Tw (sU a0 v1 x1 x2):=by delta sU;infer_instance
instance {a0 v1 x1}:Tw (sW a0 v1 x1):=by delta sW;infer_instance
instance {a0 a1 v1 x3 x4}:Tw (sX a0 a1 v1 x3 x4):=by delta sX;infer_instance
instance {a0 a1 v1 x3}:Tw (sY a0 a1 v1 x3):=by delta sY;infer_instance
instance {a0 a1}:Tw (uT a0 a1):=by delta uT;infer_instance
instance {a0 a1 x1}:Tw (pF a0 a1 x1):=by delta pF;infer_instance
instance {a0 a1 x2}:Tw (pG a0 a1 x2):=by delta pG;infer_instance
instance {a0 a1}:Tw (qJ a0 a1):=by delta qJ;infer_instance
instance {a2 v1 x1}:Tw (dG a2 v1 x1):=by delta dG;infer_instance
instance {a0 a1 a2}:Tw (cH a0 a1 a2):=by delta cH;infer_instance
instance {a2 v1 x1 x2}:Tw (cZ a2 v1 x1 x2):=by delta cZ;infer_instance
instance {a2 v1 x1}:Tw (cP a2 v1 x1):=by delta cP;infer_instance
instance {a0 a1 a2}:Tw (fH a0 a1 a2):=by delta fH;infer_instance
instance {v1 x1}:Tw (yK v1 x1):=by delta yK;infer_instance
instance {a0 a1 a2}:Tw (lZ a0 a1 a2):=by delta lZ;infer_instance
instance {v1 x1}:Tw (yL v1 x1):=by delta yL;infer_instance
instance {a0 a1 a2}:Tw (mA a0 a1 a2):=by delta mA;infer_instance
end
end
noncomputable section
set_option maxRecDepth 100000
def aEH(d:aA)(a b:Option (Rp×Bool)):Bool:=decide ((aCD a λr=>some (decide (b=some r)&&(bB r.1&&(!r.2||(decide (r.1.dims=d)&&(wX r.1 r.1&&decide (nE r.1 r.1-rkC r.1 r.1=0)))))))=some true)
def aCs:∀p∈pD,∀q∈Hs,∀d∈Fw q.n.toNat,aEH d (tw (lZ p q d)) (tw (mA p q d))=true:=by decide+kernel
def aEI(hp:p∈pD)(hq:q∈Hs){d}(hd:d∈Fw q.n.toNat):∃r b,lZ p q d=some (r,b)/\mA p q d=some (r,b)/\bR r/\(b=true->r.dims=d/\wX r r=true/\nE r r-rkC r r=0):=by
 have h:=aCs p hp q hq d hd;unfold aEH at h;rw[VT,iS]at h;obtain⟨⟨r,b⟩,h1,h2⟩:=ob h;simp only[Option.some.injEq,cB,iS,Bool.or_eq_true,Bool.not_eq_true']at h2;exact⟨r,b,DS h1,DS h2.1,ZW h2.2.1,λhb=>h2.2.2.resolve_left λh=>by rw[hb]at h;cases h⟩
end
variable{t:TypeId}{t':TypeId}{x:Operand}{fo:Operand}{xs:Array Operand}{ats:Array TypeId}{f:FuncId}{caps:List AV}{avs:List AV}{ds:List AV}{ed:List (Nat×Option Blk)}{ins:Operand->Option AV}{hp:Hp}{κ:Kp}
section
def ZY(h:bQ q):kC q=some q:=by
 obtain⟨h1,h2,_⟩:=h;unfold bI at h1 h2;unfold kC;rw[bF (by simp;omega),aJ,bF (by simp;omega),aJ];simp
structure Cu where
 b:aA
 i:Int
 h:Int
section
variable {P:Program}{dst:Option Tmp}{ty:TypeId}{pos:String}{aft:Array Edge}{g:Option (Nat×Bool)}{s:AState}
def ZZ{y a b k}(hx:s.ev x=some (.int a))(hy:s.ev y=some (.sc (.int k b)))(h:(!decide (b<0))=true):AEff P ⟨dst,.binOp .shr t x y t',ty,pos,aft,g⟩ s.ev s.heap s.kp ⟨.int (II a b),[],[],[]⟩:=
 tK hx hy rfl λw=>by
  have hb:¬ b<0:=by simpa using h
  simp[eqGuard,binOp,Op.shift,hb,II,IntKind.bits]
end
section
variable {P:Program}{dst:Option Tmp}{ty:TypeId}{pos:String}{aft:Array Edge}{g:Option (Nat×Bool)}{ins:Operand->Option AV}{hp:Hp}{κ:Kp}
def aCt(b)(t){e i h I H r}(hc:HasE P f ds [(0,⟨3,[[.list 1 e,.int i,.int h]]⟩)] 1 r [(0,⟨3,[[.list 1 e,.int I,.int H]]⟩)])(hf:ins fo=some (.fn f caps))(hx:Gh ins xs.toList=some avs)(hav:All2 (SJ (sg [(0,b)]) 1 hp (b::t) [(0,⟨3,[[.list 1 e,.int i,.int h]]⟩)]) (avs++caps) ds)(hb:hp b=some ⟨3,[[.list 1 e,.int i,.int h]]⟩)(hlive:((b::t).all λb=>(hp b).isSome)=true)(hr:Kj (sg [(b,0)]) (b+1) r r)(htr:PK (b::t) r=true)(he:zV (b::t) [(b,⟨3,[[.list 1 e,.int I,.int H]]⟩)]=ed):AEff P ⟨dst,.call ⟨.value fo,xs,ats⟩,ty,pos,aft,g⟩ ins hp κ ⟨r,b::t,ed,[]⟩:=by
 have hs:sg [(b,0)] b=some 0:=by
  unfold sg;simp
 have hct:(b::t).contains b=true:=by simp
 have hlt:Nat.blt b (b+1)=true:=by simp[Nat.blt]
 refine lM (σ:=sg [(0,b)]) (σ':=sg [(b,0)]) (touch:=b::t) (news:=[]) (hl2:=[(b,⟨3,[[.list 1 e,.int I,.int H]]⟩)]) (n':=b+1) (r2:=r) hc hf hx hav ?_ rfl ?_ hlive ?_ rfl hr ?_ ?_ ?_ ?_
 .exact⟨⟨_,hb,rfl,.inr ⟨_,_,rfl,⟨_,_,rfl,⟨rfl,rfl⟩,⟨_,_,rfl,rfl,⟨_,_,rfl,rfl,rfl⟩⟩⟩,rfl⟩⟩,rfl,trivial⟩
 .show(((b::t).contains b)&&true)=true;rw[hct];rfl
 .refine⟨?_,hlt,trivial⟩;rw[hs];exact⟨_,rfl,rfl,.inr ⟨_,_,rfl,⟨_,_,rfl,⟨rfl,rfl⟩,⟨_,_,rfl,rfl,⟨_,_,rfl,rfl,rfl⟩⟩⟩,rfl⟩⟩
 .unfold FV;simp[hs,sg];rfl
 .rw[List.append_nil];exact⟨hct,AM rfl,trivial⟩
 .rw[List.append_nil];exact htr
 .rw[List.append_nil];exact he
end
section
variable {dst:Option Tmp}{ty:TypeId}{pos:String}{aft:Array Edge}{g:Option (Nat×Bool)}
def jU(b)(t){e i h I H r}(hc:HasE Tryz.prog f ds [(0,⟨3,[[.list 1 e,.int i,.int h]]⟩)] 1 r [(0,⟨3,[[.list 1 e,.int I,.int H]]⟩)])(hf:ins fo=some (.fn f caps):=by exact k)(hx:Gh ins xs.toList=some avs:=by exact k)(hav:All2 (SJ (sg [(0,b)]) 1 hp (b::t) [(0,⟨3,[[.list 1 e,.int i,.int h]]⟩)]) (avs++caps) ds:=by exact jM)(hb:hp b=some ⟨3,[[.list 1 e,.int i,.int h]]⟩/\((b::t).all λb=>(hp b).isSome)=true:=by exact k2)(hr:Kj (sg [(b,0)]) (b+1) r r:=by exact jM)(htr:PK (b::t) r=true:=by exact k):AEff Tryz.prog ⟨dst,.call ⟨.value fo,xs,ats⟩,ty,pos,aft,g⟩ ins hp κ ⟨r,b::t,zV (b::t) [(b,⟨3,[[.list 1 e,.int I,.int H]]⟩)],[]⟩:=aCt b t hc hf hx hav hb.1 hb.2 hr htr rfl
end
end
noncomputable section
def AG(x1:(Int×ByteArray)):Option ((Int×ByteArray) ⊕ ByteArray):=bif !decide (x1.1=0)then(bif decide (x1.1.tmod 10<0)then(bif decide ((OQ [IntKind.u8.wrap (wr (48+(wr (-(x1.1.tmod 10)))))]).size +x1.2.size<=9223372036854775807)then some (.inl (wr (x1.1.tdiv 10),((OQ [IntKind.u8.wrap (wr (48+(wr (-(x1.1.tmod 10)))))])++x1.2)))else none)else(bif decide ((OQ [IntKind.u8.wrap (wr (48+(x1.1.tmod 10)))]).size +x1.2.size<=9223372036854775807)then some (.inl (wr (x1.1.tdiv 10),((OQ [IntKind.u8.wrap (wr (48+(x1.1.tmod 10)))])++x1.2)))else none))else some (.inr x1.2)
def qM(a0:Int):Option ByteArray:=bif decide (a0=0)then some ((⟨#[48]⟩:ByteArray))else((Lp AG (a0,(⟨#[]⟩:ByteArray))).bind λy6=>bif decide (a0<0)then(bif decide ((⟨#[45]⟩:ByteArray).size +y6.size<=9223372036854775807)then some (((⟨#[45]⟩:ByteArray)++y6))else none)else(some y6))
def Ch(a0)(r)(h:qM a0=some r):HasC Tryz.prog 201 [.int a0] (.str r):=by
 refine hM [.tmp 2] Tryz.func201 Tryz.ntmps201 k<|nK 12 k<|cO k h (λ_ h=>jo) λ_ h=>?_;refine yU 15 k<|jB h (λx1=>mN [(0,.int x1.1),(3,.str x1.2),(4,.bl (decide (a0<0)))] [] 0) (λr=>mN [(3,.str r),(4,.bl (decide (a0<0)))] [] 0) ?_ ?_
 .intro x1 o h;exact nK 7 k<|cO k h (λ_ h=>pB 6 k<|ae (FS k k (by decide)) k<|dQ 10 k<|cO k h (λ_ h=>cW 2 k<|ae (Ot k) k<|oI 7 k<|ae (aBY (u0:=.int .i64) (by kernel_rfl) (by kernel_rfl) k) k<|ae (wl k) k<|ae (aBZ (e:=5) (l:=[IntKind.u8.wrap (wr (48+(wr (-(x1.1.tmod 10)))))]) (by kernel_rfl) (by kernel_rfl) (by kernel_rfl) k (Mw k k ⟨_,_,k,⟨_,_,k,k,k⟩,k⟩)) k<|am k k<|cG h λq4 h=>ae (LV k k q4) k<|oI 5 k<|ae (VI k k (by decide)) k<|jo) λ_ h=>pB 6 k<|ae (aBY (u0:=.int .i64) (by kernel_rfl) (by kernel_rfl) k) k<|ae (wl k) k<|ae (aBZ (e:=5) (l:=[IntKind.u8.wrap (wr (48+(x1.1.tmod 10)))]) (by kernel_rfl) (by kernel_rfl) (by kernel_rfl) k (Mw k k ⟨_,_,k,⟨_,_,k,k,k⟩,k⟩)) k<|am k k<|cG h λq5 h=>ae (LV k k q5) k<|oI 5 k<|ae (VI k k (by decide)) k<|jo) λ_ h=>aS<|jo
 .intro y6 _ h;exact nK 6 k<|cO k h (λ_ h=>cW 3 k<|cG h λq8 h=>ae (LV k k q8) k<|jo) λ_ h=>bC<|jo
def vS(a0:Qv)(x1:(ByteArray×Int)):Option ((ByteArray×Int) ⊕ ByteArray):=bif decide (x1.2<(a0.src.length:Int))then(bif decide (x1.1.size+(⟨#[32]⟩:ByteArray).size <=9223372036854775807)then((bY a0.src x1.2).bind λv5=>(qM v5).bind λv6=>bif decide ((x1.1++(⟨#[32]⟩:ByteArray)).size +v6.size<=9223372036854775807)then((bY a0.tgt x1.2).bind λv7=>(qM v7).bind λv8=>bif decide (((x1.1++(⟨#[32]⟩:ByteArray))++v6).size +v8.size<=9223372036854775807)then some (.inl ((((x1.1++(⟨#[32]⟩:ByteArray))++v6)++v8),wr (x1.2+1)))else none)else none)else none)else some (.inr x1.1)
def uB(a0:Qv):Option ByteArray:=(gC a0).bind λv1=>bif !v1 then some ((⟨#[]⟩:ByteArray))else((qM a0.n).bind λv3=>bif decide (v3.size+(⟨#[58]⟩:ByteArray).size <=9223372036854775807)then((Lp (vS a0) ((v3++(⟨#[58]⟩:ByteArray)),0)).bind λy12=>some y12)else none)
def IS(a0)(r)(h:uB a0=some r):HasC Tryz.prog 189 [.agg (eQ a0)] (.str r):=by
 refine hM [.tmp 2] Tryz.func189 Tryz.ntmps189 k<|cW 10 k<|oB h λv1 hv1 h=>ae (jc (oX _ _ hv1)) k<|dQ 3 k<|cO k h (λ_ h=>jo) λ_ h=>?_;refine pB 6 k<|oB h λv3 hv3 h=>ae (jc (Ch _ _ hv3)) k<|cG h λq13 h=>ae (LV k k q13) k<|dQ 9 k<|jB h (λx1=>mN [(1,.ptr 0 0 0),(3,.str x1.1),(4,.int x1.2)] [(0,⟨3,[eQ a0]⟩)] 1) (λr=>mN [(3,.str r)] [] 0) ?_ ?_
 .intro x1 o h;refine cW 6 k<|ln k4<|dQ 3 k<|cO k h (λ_ h=>?_) λ_ h=>aS<|aB<|aB<|sp h ⟨_,k,k,jI⟩;refine yU 4 k<|aG dO<|am k k<|cG h λq11 h=>ae (LV k k q11) k<|gO 3 k<|jl h k2 λv5 hv5 h=>lr k7<|oB h λv6 hv6 h=>ae (jc (Ch _ _ hv6)) k<|cG h λq10 h=>ae (LV k k q10) k<|gO 3 k<|jl h k2 λv7 hv7 h=>lr k7<|oB h λv8 hv8 h=>ae (jc (Ch _ _ hv8)) k<|cG h λq9 h=>ae (LV k k q9) k<|aa k k<|an<|mV (by kernel_rfl)<|aU<|tn<|cW 2 k<|ae (dC k k) k ?_;exact jo
 .intro y12 _ h;exact jo
def DO(a0:ByteArray)(a1:Int)(x1:((List ByteArray)×Int×ByteArray)):Option (((List ByteArray)×Int×ByteArray) ⊕ ((List ByteArray)×ByteArray)):=bif decide (x1.2.1<(a0.size:Int))then((PQ a0 x1.2.1).bind λv2=>bif decide (v2=a1)then(bif decide (x1.1.length+[x1.2.2].length <=4294967296)then some (.inl ((x1.1++[x1.2.2]),wr (x1.2.1+1),(⟨#[]⟩:ByteArray)))else none)else(bif(decide (0<=x1.2.1)&&(decide (x1.2.1<=wr (x1.2.1+1))&&decide (wr (x1.2.1+1)<=(a0.size:Int))))then(bif decide (x1.2.2.size+(a0.extract x1.2.1.toNat (wr (x1.2.1+1)).toNat).size <=9223372036854775807)then some (.inl (x1.1,wr (x1.2.1+1),(x1.2.2++(a0.extract x1.2.1.toNat (wr (x1.2.1+1)).toNat))))else none)else none))else some (.inr (x1.1,x1.2.2))
def Dr(a0:ByteArray)(a1:Int):Option (List ByteArray):=(Lp (DO a0 a1) (([]:(List ByteArray)),0,(⟨#[]⟩:ByteArray))).bind λy7=>bif decide (y7.1.length+[y7.2].length <=4294967296)then some ((y7.1++[y7.2]))else none
def RA(a0)(a1)(r)(h:Dr a0 a1=some r):HasC Tryz.prog 188 [.str a0,.sc (.int .u8 a1)] (.list 1 (r.map Rq)):=by
 refine hM [.tmp 4] Tryz.func188 Tryz.ntmps188 k<|cW 7 k<|ae (wl k) k<|dQ 14 k<|jB h (λx1=>mN [(0,.str a0),(1,.sc (.int .u8 a1)),(5,.own 0 0 x1.1.length),(6,.str x1.2.2),(7,.int x1.2.1)] [(0,⟨1,x1.1.map (ow Rq)⟩)] 1) (λr=>mN [(5,.own 0 0 r.1.length),(6,.str r.2)] [(0,⟨1,r.1.map (ow Rq)⟩)] 1) ?_ ?_
 .intro x1 o h;exact cW 5 k<|ae (QR (by kernel_rfl) k) k<|dQ 3 k<|cO k h (λ_ h=>pB 8 k<|oB h λv2 hv2 h=>ae (KA (by kernel_rfl) hv2 k k) k<|dQ 4 k<|cO k h (λ_ h=>cW 4 k<|ae (wl k) k<|cG h λq4 h=>ae (nH aH (l:=x1.1) (m:=[x1.2.2]) YI q4 k k k k k k k k k k k k) k<|zQ 6 k<|aU<|tn<|cW 3 k<|aT k2<|sp h ⟨_,k,(jZ [2])⟩) λ_ h=>cW 6 k<|cG h λq5 h=>ae (Yn (by kernel_rfl) q5 k k k) k<|cG h λq6 h=>ae (LV k k q6) k<|jo) λ_ h=>aS<|jo
 .intro y7 _ h;exact cW 4 k<|ae (wl k) k<|cG h λq8 h=>ae (nH aH (l:=y7.1) (m:=[y7.2]) YI q8 k k k k k k k k k k k k) k<|zQ 4 k<|sp h (bD k k k (lL (cS Rr k k)))
def wY(v1:(List ByteArray))(x1:(aA×aA×Int)):Option ((aA×aA×Int) ⊕ ((aA×aA) ⊕ (Qv×Bool))):=bif decide (x1.2.2<((v1.length:Nat):Int))then((bY v1 x1.2.2).bind λv8=>bif !decide ((v8.size:Int)=2)then some (.inr (.inr (((⟨0,[],[]⟩:Qv),false))))else((bY v1 x1.2.2).bind λv10=>(PQ v10 0).bind λv11=>bif decide (x1.1.length+[wr ((IntKind.i64.wrap v11)-48)].length <=4294967296)then((bY v1 x1.2.2).bind λv13=>(PQ v13 1).bind λv14=>bif decide (x1.2.1.length+[wr ((IntKind.i64.wrap v14)-48)].length <=4294967296)then some (.inl ((x1.1++[wr ((IntKind.i64.wrap v11)-48)]),(x1.2.1++[wr ((IntKind.i64.wrap v14)-48)]),wr (x1.2.2+1)))else none)else none))else some (.inr (.inl (x1.1,x1.2.1)))
def cX(a0:ByteArray):Option (Qv×Bool):=(Dr a0 32).bind λv1=>(bY v1 0).bind λv2=>bif !decide ((v2.size:Int)=2)then some (((⟨0,[],[]⟩:Qv),false))else(bif decide (30<(a0.size:Int))then some (((⟨0,[],[]⟩:Qv),false))else((bY v1 0).bind λv5=>(PQ v5 0).bind λv6=>(Lp (wY v1) (([]:aA),([]:aA),1)).bind λy16=>Sum.elim (λy17=>(uB (⟨wr ((IntKind.i64.wrap v6)-48),y17.1,y17.2⟩:Qv)).bind λv18=>bif !SS v18 a0 then some (((⟨0,[],[]⟩:Qv),false))else(some (((⟨wr ((IntKind.i64.wrap v6)-48),y17.1,y17.2⟩:Qv),true)))) (λy20=>some y20) y16))
def dX(a0)(r)(h:cX a0=some r):HasC Tryz.prog 162 [.str a0] (.tuple [.agg (eQ r.1),.bl r.2]):=by
 refine hM [.cell 2 26,.tmp 3] Tryz.func162 Tryz.ntmps162 k<|cW 9 k<|oB h λv1 hv1 h=>ae (cL Rr (RA _ _ _ hv1) k3 (fV k (fV k aQ))) k<|oI 7 k<|jp h k2 λv2 hv2 h=>ae (wp hv2 k) k<|ae (QR (by kernel_rfl) k) k<|gO 2 k<|jJ h (λq3 h=>aE 14 k q3<|zQ 15 k<|aX<|sp h (bD k k k (bH k (aR (eH (aD k (aD k (aD k cK)))) (aR k cC))))) λq3 h=>?_;refine aE 14 k q3<|am k k<|ae (QR (by kernel_rfl) k) k<|dQ 4 k<|cO k h (λ_ h=>kN 8 k<|aX<|sp h (bD k k k (bH k (aR (eH (aD k (aD k (aD k cK)))) (aR k cC))))) λ_ h=>?_;refine pB 5 k<|jp h k2 λv5 hv5 h=>ae (wp hv5 k) k<|oB h λv6 hv6 h=>ae (KA (by kernel_rfl) hv6 k k) k<|ae (NQ (k1:=.u8) (k2:=.i64) (by kernel_rfl) (by kernel_rfl) k) k<|gO 1 k<|ae (wl k) k<|ae (wl k) k<|dQ 11 k<|jS [.cell 2 26,.tmp 3] (λr=>.tuple [.agg (eQ r.1),.bl r.2]) h (λx1=>mN [(0,.str a0),(2,.ptr 0 0 0),(4,.own 1 0 v1.length),(5,.ptr 2 0 0),(6,.int x1.2.2)] [(0,⟨3,[[.int 0,.nil 1,.nil 1]]⟩),(1,⟨1,v1.map (ow Rq)⟩),(2,⟨3,[[.int (wr ((IntKind.i64.wrap v6)-48)),.own 3 0 x1.1.length,.own 4 0 x1.2.1.length]]⟩),(3,⟨1,x1.1.map (ow eI)⟩),(4,⟨1,x1.2.1.map (ow eI)⟩)] 5) (λr=>mN [(0,.str a0),(2,.ptr 0 0 0),(5,.ptr 1 0 0)] [(0,⟨3,[[.int 0,.nil 1,.nil 1]]⟩),(1,⟨3,[[.int (wr ((IntKind.i64.wrap v6)-48)),.own 2 0 r.1.length,.own 3 0 r.2.length]]⟩),(2,⟨1,r.1.map (ow eI)⟩),(3,⟨1,r.2.map (ow eI)⟩)] 4) ?_ ?_ (jZ [0,1,4,2,3])
 .intro x1 o h;refine cW 5 k<|jn k5<|dQ 3 k<|cO k h (λ_ h=>?_) λ_ h=>aS<|aB<|aB<|sp h ⟨_,k,k,(jZ [0,2,3,4])⟩;refine pB 9 k<|jp h k2 λv8 hv8 h=>ae (wp hv8 k) k<|ae (QR (by kernel_rfl) k) k<|dQ 3 k<|cO k h (λ_ h=>kN 8 k<|aX<|dJ<|aX<|aX<|sp h ⟨_,k,k,bD k k k (bH k (aR (eH (aD k (aD k (aD k cK)))) (aR k cC)))⟩) λ_ h=>?_;refine yU 3 k<|aG dO<|gO 4 k<|jp h k2 λv10 hv10 h=>ae (wp hv10 k) k<|oB h λv11 hv11 h=>ae (KA (by kernel_rfl) hv11 k k) k<|ae (NQ (k1:=.u8) (k2:=.i64) (by kernel_rfl) (by kernel_rfl) k) k<|gO 1 k<|ae (wl k) k<|cG h λq12 h=>ae (nH aH (l:=x1.1) (m:=[wr ((IntKind.i64.wrap v11)-48)]) gT q12 k k k k k k k k k k k k) k<|gO 2 k<|an<|mV (by kernel_rfl)<|tn<|aG dO<|gO 4 k<|jp h k2 λv13 hv13 h=>ae (wp hv13 k) k<|oB h λv14 hv14 h=>ae (KA (by kernel_rfl) hv14 k k) k<|ae (NQ (k1:=.u8) (k2:=.i64) (by kernel_rfl) (by kernel_rfl) k) k ?_;exact gO 1 k<|ae (wl k) k<|cG h λq15 h=>ae (nH aH (l:=x1.2.1) (m:=[wr ((IntKind.i64.wrap v14)-48)]) gT q15 k k k k k k k k k k k k) k<|gO 2 k<|an<|mV (by kernel_rfl)<|aU<|tn<|cW 3 k<|aT k2<|sp h ⟨_,k,(jZ [0,1,2,6,8])⟩
 .intro y17 h;exact cW 4 k<|oB h λv18 hv18 h=>ae (bZ (IS _ _ hv18) k (aI (vaQ k4) aQ)) k<|am k k<|ae (aDw k k) k<|an<|tn<|cO k h (λ_ h=>kN 8 k<|aX<|sp h (bD k k k (bH k (aR (eH (aD k (aD k (aD k cK)))) (aR k cC))))) λ_ h=>gDE 10 k<|sp h (bD k k k (bH k (aR (eH (aD k (aD (cS cI k k) (aD (cS cI k k) cK)))) (aR k cC))))
def fJ(a0:ByteArray):Option (Qv×Bool):=bif SS a0 (⟨#[65,49]⟩:ByteArray)then((cX (⟨#[49,58]⟩:ByteArray)).bind λv2=>some ((v2.1,v2.2)))else(bif SS a0 (⟨#[65,50]⟩:ByteArray)then((cX (⟨#[50,58,32,48,49]⟩:ByteArray)).bind λv4=>some ((v4.1,v4.2)))else(bif SS a0 (⟨#[65,51]⟩:ByteArray)then((cX (⟨#[51,58,32,48,49,32,49,50]⟩:ByteArray)).bind λv6=>some ((v6.1,v6.2)))else(bif SS a0 (⟨#[65,51,105,110]⟩:ByteArray)then((cX (⟨#[51,58,32,48,49,32,50,49]⟩:ByteArray)).bind λv8=>some ((v8.1,v8.2)))else(bif SS a0 (⟨#[65,52]⟩:ByteArray)then((cX (⟨#[52,58,32,48,49,32,49,50,32,50,51]⟩:ByteArray)).bind λv10=>some ((v10.1,v10.2)))else(bif SS a0 (⟨#[68,52]⟩:ByteArray)then((cX (⟨#[52,58,32,48,51,32,49,51,32,50,51]⟩:ByteArray)).bind λv12=>some ((v12.1,v12.2)))else(bif SS a0 (⟨#[68,53]⟩:ByteArray)then((cX (⟨#[53,58,32,48,50,32,49,50,32,50,51,32,51,52]⟩:ByteArray)).bind λv14=>some ((v14.1,v14.2)))else(bif SS a0 (⟨#[75,50]⟩:ByteArray)then((cX (⟨#[50,58,32,48,49,32,48,49]⟩:ByteArray)).bind λv16=>some ((v16.1,v16.2)))else(bif SS a0 (⟨#[115,116,97,114,52]⟩:ByteArray)then((cX (⟨#[53,58,32,48,52,32,49,52,32,50,52,32,51,52]⟩:ByteArray)).bind λv18=>some ((v18.1,v18.2)))else(bif SS a0 (⟨#[115,113,117,97,114,101]⟩:ByteArray)then((cX (⟨#[52,58,32,48,49,32,48,50,32,49,51,32,50,51]⟩:ByteArray)).bind λv20=>some ((v20.1,v20.2)))else(bif SS a0 (⟨#[108,111,111,112]⟩:ByteArray)then((cX (⟨#[49,58,32,48,48]⟩:ByteArray)).bind λv22=>some ((v22.1,v22.2)))else(bif SS a0 (⟨#[99,105,114,99,108,101]⟩:ByteArray)then((cX (⟨#[51,58,32,48,49,32,49,50,32,50,48]⟩:ByteArray)).bind λv24=>some ((v24.1,v24.2)))else((cX (⟨#[]⟩:ByteArray)).bind λv25=>some ((v25.1,v25.2))))))))))))))
def vT(a0)(r)(h:fJ a0=some r):HasC Tryz.prog 111 [.str a0] (.tuple [.agg (eQ r.1),.bl r.2]):=by
 refine hM [.cell 2 26,.tmp 3] Tryz.func111 Tryz.ntmps111 k<|cW 20 k<|ae (GV k k) k<|aT k2<|cO k h (λ_ h=>kN 3 k<|aU<|tn<|cW 3 k<|oB h λv2 hv2 h=>ae (SP (dX _ _ hv2) k3 (fV k aQ)) k<|zQ 17 k<|sp h (bD k k k (bH k (aR (eH (aD k (aD (cS cI k k) (aD (cS cI k k) cK)))) (aR k cC))))) λ_ h=>?_;refine sR<|ae (GV k k) k<|aT k2<|cO k h (λ_ h=>kN 3 k<|aU<|tn<|cW 3 k<|oB h λv4 hv4 h=>ae (SP (dX _ _ hv4) k3 (fV k aQ)) k<|zQ 17 k<|sp h (bD k k k (bH k (aR (eH (aD k (aD (cS cI k k) (aD (cS cI k k) cK)))) (aR k cC))))) λ_ h=>?_;refine sR<|ae (GV k k) k<|aT k2<|cO k h (λ_ h=>kN 3 k<|aU<|tn<|cW 3 k<|oB h λv6 hv6 h=>ae (SP (dX _ _ hv6) k3 (fV k aQ)) k<|zQ 17 k<|sp h (bD k k k (bH k (aR (eH (aD k (aD (cS cI k k) (aD (cS cI k k) cK)))) (aR k cC))))) λ_ h=>?_;refine sR<|ae (GV k k) k<|aT k2<|cO k h (λ_ h=>kN 3 k<|aU<|tn<|cW 3 k<|oB h λv8 hv8 h=>ae (SP (dX _ _ hv8) k3 (fV k aQ)) k<|zQ 17 k<|sp h (bD k k k (bH k (aR (eH (aD k (aD (cS cI k k) (aD (cS cI k k) cK)))) (aR k cC))))) λ_ h=>?_;refine sR<|ae (GV k k) k<|aT k2<|cO k h (λ_ h=>?_) λ_ h=>?_
 .exact kN 3 k<|aU<|tn<|cW 3 k<|oB h λv10 hv10 h=>ae (SP (dX _ _ hv10) k3 (fV k aQ)) k<|zQ 17 k<|sp h (bD k k k (bH k (aR (eH (aD k (aD (cS cI k k) (aD (cS cI k k) cK)))) (aR k cC))))
 .refine sR<|ae (GV k k) k<|aT k2<|cO k h (λ_ h=>?_) λ_ h=>?_
  .exact kN 3 k<|aU<|tn<|cW 3 k<|oB h λv12 hv12 h=>ae (SP (dX _ _ hv12) k3 (fV k aQ)) k<|zQ 17 k<|sp h (bD k k k (bH k (aR (eH (aD k (aD (cS cI k k) (aD (cS cI k k) cK)))) (aR k cC))))
  .refine sR<|ae (GV k k) k<|aT k2<|cO k h (λ_ h=>?_) λ_ h=>?_
   .exact kN 3 k<|aU<|tn<|cW 3 k<|oB h λv14 hv14 h=>ae (SP (dX _ _ hv14) k3 (fV k aQ)) k<|zQ 17 k<|sp h (bD k k k (bH k (aR (eH (aD k (aD (cS cI k k) (aD (cS cI k k) cK)))) (aR k cC))))
   .refine sR<|ae (GV k k) k<|aT k2<|cO k h (λ_ h=>?_) λ_ h=>?_
    .exact kN 3 k<|aU<|tn<|cW 3 k<|oB h λv16 hv16 h=>ae (SP (dX _ _ hv16) k3 (fV k aQ)) k<|zQ 17 k<|sp h (bD k k k (bH k (aR (eH (aD k (aD (cS cI k k) (aD (cS cI k k) cK)))) (aR k cC))))
    .refine sR<|ae (GV k k) k<|aT k2<|cO k h (λ_ h=>?_) λ_ h=>?_
     .exact kN 3 k<|aU<|tn<|cW 3 k<|oB h λv18 hv18 h=>ae (SP (dX _ _ hv18) k3 (fV k aQ)) k<|zQ 17 k<|sp h (bD k k k (bH k (aR (eH (aD k (aD (cS cI k k) (aD (cS cI k k) cK)))) (aR k cC))))
     .refine sR<|ae (GV k k) k<|aT k2<|cO k h (λ_ h=>kN 3 k<|aU<|tn<|cW 3 k<|oB h λv20 hv20 h=>ae (SP (dX _ _ hv20) k3 (fV k aQ)) k<|zQ 17 k<|sp h (bD k k k (bH k (aR (eH (aD k (aD (cS cI k k) (aD (cS cI k k) cK)))) (aR k cC))))) λ_ h=>?_;refine sR<|ae (GV k k) k<|aT k2<|cO k h (λ_ h=>kN 3 k<|aU<|tn<|cW 3 k<|oB h λv22 hv22 h=>ae (SP (dX _ _ hv22) k3 (fV k aQ)) k<|zQ 17 k<|sp h (bD k k k (bH k (aR (eH (aD k (aD (cS cI k k) (aD (cS cI k k) cK)))) (aR k cC))))) λ_ h=>?_;exact sR<|ae (GV k k) k<|aT k2<|cO k h (λ_ h=>kN 3 k<|aU<|tn<|cW 3 k<|oB h λv24 hv24 h=>ae (SP (dX _ _ hv24) k3 (fV k aQ)) k<|zQ 17 k<|sp h (bD k k k (bH k (aR (eH (aD k (aD (cS cI k k) (aD (cS cI k k) cK)))) (aR k cC))))) λ_ h=>bC<|aU<|tn<|cW 3 k<|oB h λv25 hv25 h=>ae (SP (dX _ _ hv25) k3 (fV k aQ)) k<|zQ 17 k<|sp h (bD k k k (bH k (aR (eH (aD k (aD (cS cI k k) (aD (cS cI k k) cK)))) (aR k cC))))
def EY:Option (List ByteArray):=some ([(⟨#[65,49]⟩:ByteArray),(⟨#[65,50]⟩:ByteArray),(⟨#[65,51]⟩:ByteArray),(⟨#[65,51,105,110]⟩:ByteArray),(⟨#[65,52]⟩:ByteArray),(⟨#[68,52]⟩:ByteArray),(⟨#[68,53]⟩:ByteArray),(⟨#[75,50]⟩:ByteArray),(⟨#[115,116,97,114,52]⟩:ByteArray),(⟨#[115,113,117,97,114,101]⟩:ByteArray),(⟨#[108,111,111,112]⟩:ByteArray),(⟨#[99,105,114,99,108,101]⟩:ByteArray)])
def OB(r)(h:EY=some r):HasC Tryz.prog 204 [] (.list 1 (r.map Rq)):=by
 exact hM [.tmp 0] Tryz.func204 Tryz.ntmps204 k<|cW 7 k<|ae (wl k) k<|zQ 4 k<|sp h (bD k k k (lL (cS Rr k k)))
def wG(a0:aA)(x1:(Int×Int)):Option ((Int×Int) ⊕ Int):=bif decide (x1.2<(a0.length:Int))then(bif decide (x1.2<4000)then((bY a0 x1.2).bind λv3=>some (.inl (IJ (wr ((wr ((wr (x1.1*131))+(IntKind.i64.wrap v3)))+7)) 1073741823,wr (x1.2+1))))else(some (.inr x1.1)))else some (.inr x1.1)
def pX(a0:aA):Option Int:=(Lp (wG a0) (wr (10101+(a0.length:Int)),0)).bind λy4=>some y4
def zN(a0)(r)(h:pX a0=some r):HasE Tryz.prog 31 [.list 1 (a0.map eU)] [] 0 (.ptr 0 0 0) [(0,⟨3,[[.list 1 (a0.map eU),.int 0,.int r]]⟩)]:=by
 refine fE aH (rvs:=[.tmp 2]) (ns:=Cx.drop 0) Tryz.func31 k k Tryz.ntmps31 k k<|cW 8 k<|ln k4<|dQ 10 k<|jB h (λx1=>mN [(0,.list 1 (a0.map eU)),(3,.int x1.1),(4,.int x1.2)] [] 0 ⟨0,false,none,true⟩) (λr=>mN [(0,.list 1 (a0.map eU)),(3,.int r)] [] 0 ⟨0,false,none,true⟩) ?_ ?_
 .intro x1 o h;exact cW 5 k<|ln k4<|gO 2 k<|jJ h (λq1 h=>aE 12 k q1<|dQ 5 k<|cO k h (λ_ h=>pB 9 k<|jl h k2 λv3 hv3 h=>lr k7<|ae (NQ (k1:=.u8) (k2:=.i64) (by kernel_rfl) (by kernel_rfl) k) k<|gO 2 k<|ae (NH k k) k<|jo) λ_ h=>aS<|jo) λq1 h=>aE 12 k q1<|jo
 .intro y4 _ h;exact kN 10 k<|sp h ⟨mN [(2,.ptr 0 0 0)] [(0,⟨3,[[.list 1 (a0.map eU),.int 0,.int y4]]⟩)] 1 ⟨0,false,none,true⟩,jI,k,⟨_,k,.inl k⟩,⟨k,bJ⟩⟩
def qD(a0:Cu):Option (Int×Int):=bif decide (a0.i<(a0.b.length:Int))then((bY a0.b a0.i).bind λv2=>some (wr (a0.i+1),IJ (wr ((IJ (Wp (II (wr ((wr (a0.h*6364136223846793005))+1442695040888963407)) 33) (II (wr ((wr (a0.h*6364136223846793005))+1442695040888963407)) 45)) 255)+(IntKind.i64.wrap v2))) 255))else some (a0.i,IJ (Wp (II (wr ((wr (a0.h*6364136223846793005))+1442695040888963407)) 33) (II (wr ((wr (a0.h*6364136223846793005))+1442695040888963407)) 45)) 255)
def AZ(a0)(r)(h:qD a0=some r):HasE Tryz.prog 163 [.ptr 0 0 0] [(0,⟨3,[[.list 1 (a0.b.map eU),.int a0.i,.int a0.h]]⟩)] 1 (.int r.2) [(0,⟨3,[[.list 1 (a0.b.map eU),.int r.1,.int (wr ((wr (a0.h*6364136223846793005))+1442695040888963407))]]⟩)]:=by
 refine fE aH (rvs:=[.tmp 2]) (ns:=Cx.drop 1) Tryz.func163 k k Tryz.ntmps163 k k<|nK 20 k<|aG dO<|gO 4 k<|ae (ZZ k k (by decide)) k<|gO 2 k<|fp k8 ?_;refine lp k8<|ae (ZZ k k (by decide)) k<|ae (aDx k k) k<|ae (NH k k) k<|aa k k<|an<|mV (by kernel_rfl)<|tn<|sQ<|sQ<|aG dO<|gO 8 k<|ln k4<|cm k4<|an<|mV (by kernel_rfl)<|tn<|cO k h (λ_ h=>?_) λ_ h=>gDE 9 k<|sp h ⟨mN [(2,.int (IJ (Wp (II (wr ((wr (a0.h*6364136223846793005))+1442695040888963407)) 33) (II (wr ((wr (a0.h*6364136223846793005))+1442695040888963407)) 45)) 255))] [(0,⟨3,[[.list 1 (a0.b.map eU),.int a0.i,.int (wr ((wr (a0.h*6364136223846793005))+1442695040888963407))]]⟩)] 1 1,jI,k,⟨_,k,.inl k⟩,⟨k,bJ⟩⟩;refine sQ<|aG dO<|gO 9 k<|jl h k2 λv2 hv2 h=>lr k7<|ae (NQ (k1:=.u8) (k2:=.i64) (by kernel_rfl) (by kernel_rfl) k) k<|gO 1 k<|ae (NH k k) k<|aa k k<|an<|mV (by kernel_rfl)<|tn<|cW 7 k<|ae (Gy k k) k ?_;exact zQ 11 k<|sp h ⟨mN [(2,.int (IJ (wr ((IJ (Wp (II (wr ((wr (a0.h*6364136223846793005))+1442695040888963407)) 33) (II (wr ((wr (a0.h*6364136223846793005))+1442695040888963407)) 45)) 255)+(IntKind.i64.wrap v2))) 255))] [(0,⟨3,[[.list 1 (a0.b.map eU),.int (wr (a0.i+1)),.int (wr ((wr (a0.h*6364136223846793005))+1442695040888963407))]]⟩)] 1 1,jI,k,⟨_,k,.inl k⟩,⟨k,bJ⟩⟩
def dI(a0:Cu)(a1:Int):Option (Int×Int×Int):=bif decide (a1<=0)then some (a0.i,a0.h,0)else(bif decide (a1<=256)then((qD a0).bind λv3=>bif !decide (a1=0)then some (v3.1,wr ((wr (a0.h*6364136223846793005))+1442695040888963407),v3.2.tmod a1)else none)else((qD a0).bind λv5=>(qD (⟨a0.b,v5.1,wr ((wr (a0.h*6364136223846793005))+1442695040888963407)⟩:Cu)).bind λv6=>(qD (⟨a0.b,v6.1,wr ((wr ((wr ((wr (a0.h*6364136223846793005))+1442695040888963407))*6364136223846793005))+1442695040888963407)⟩:Cu)).bind λv7=>(qD (⟨a0.b,v7.1,wr ((wr ((wr ((wr ((wr ((wr (a0.h*6364136223846793005))+1442695040888963407))*6364136223846793005))+1442695040888963407))*6364136223846793005))+1442695040888963407)⟩:Cu)).bind λv8=>bif !decide (a1=0)then some (v8.1,wr ((wr ((wr ((wr ((wr ((wr ((wr ((wr (a0.h*6364136223846793005))+1442695040888963407))*6364136223846793005))+1442695040888963407))*6364136223846793005))+1442695040888963407))*6364136223846793005))+1442695040888963407),(wr ((wr ((wr ((wr (v5.2*16777216))+(wr (v6.2*65536))))+(wr (v7.2*256))))+v8.2)).tmod a1)else none))
def fA(a0)(a1)(r)(h:dI a0 a1=some r):HasE Tryz.prog 113 [.ptr 0 0 0,.int a1] [(0,⟨3,[[.list 1 (a0.b.map eU),.int a0.i,.int a0.h]]⟩)] 1 (.int r.2.2) [(0,⟨3,[[.list 1 (a0.b.map eU),.int r.1,.int r.2.1]]⟩)]:=by
 refine fE aH (rvs:=[.tmp 4]) (ns:=Cx.drop 1) Tryz.func113 k k Tryz.ntmps113 k k<|nK 12 k<|cO k h (λ_ h=>kN 6 k<|aX<|sp h ⟨mN [(4,.int 0)] [(0,⟨3,[[.list 1 (a0.b.map eU),.int a0.i,.int a0.h]]⟩)] 1 1,jI,k,⟨_,k,.inl k⟩,⟨k,bJ⟩⟩) λ_ h=>?_;refine yU 9 k<|cO k h (λ_ h=>cW 3 k<|oB h λv3 hv3 h=>ae (jU 0 [] (AZ _ _ hv3)) k<|am k k<|cG h λq4 h=>ae (FS k k q4) k<|zQ 4 k<|aX<|sp h ⟨mN [(4,.int (v3.2.tmod a1))] [(0,⟨3,[[.list 1 (a0.b.map eU),.int v3.1,.int (wr ((wr (a0.h*6364136223846793005))+1442695040888963407))]]⟩)] 1 1,jI,k,⟨_,k,.inl k⟩,⟨k,bJ⟩⟩) λ_ h=>?_;refine pB 5 k<|oB h λv5 hv5 h=>ae (jU 0 [] (AZ _ _ hv5)) k<|oI 6 k<|oB h λv6 hv6 h=>ae (jU 0 [] (AZ _ _ hv6)) k<|oI 6 k<|oB h λv7 hv7 h=>ae (jU 0 [] (AZ _ _ hv7)) k<|oI 6 k<|oB h λv8 hv8 h=>ae (jU 0 [] (AZ _ _ hv8)) k<|aa k k<|an ?_;exact tn<|cW 13 k<|cG h λq9 h=>ae (FS k k q9) k<|zQ 4 k<|sp h ⟨mN [(4,.int ((wr ((wr ((wr ((wr (v5.2*16777216))+(wr (v6.2*65536))))+(wr (v7.2*256))))+v8.2)).tmod a1))] [(0,⟨3,[[.list 1 (a0.b.map eU),.int v8.1,.int (wr ((wr ((wr ((wr ((wr ((wr ((wr ((wr (a0.h*6364136223846793005))+1442695040888963407))*6364136223846793005))+1442695040888963407))*6364136223846793005))+1442695040888963407))*6364136223846793005))+1442695040888963407))]]⟩)] 1 1,jI,k,⟨_,k,.inl k⟩,⟨k,bJ⟩⟩
def nQ(a0:Cu)(a1:Int):Option (Int×Int×Bool):=(dI a0 a1).bind λv1=>some (v1.1,v1.2.1,decide (v1.2.2=0))
def wP(a0)(a1)(r)(h:nQ a0 a1=some r):HasE Tryz.prog 61 [.ptr 0 0 0,.int a1] [(0,⟨3,[[.list 1 (a0.b.map eU),.int a0.i,.int a0.h]]⟩)] 1 (.bl r.2.2) [(0,⟨3,[[.list 1 (a0.b.map eU),.int r.1,.int r.2.1]]⟩)]:=by
 exact fE aH (rvs:=[.tmp 4]) (ns:=Cx.drop 1) Tryz.func61 k k Tryz.ntmps61 k k<|cW 9 k<|oB h λv1 hv1 h=>ae (jU 0 [] (fA _ _ _ hv1)) k<|zQ 5 k<|sp h ⟨mN [(4,.bl (decide (v1.2.2=0)))] [(0,⟨3,[[.list 1 (a0.b.map eU),.int v1.1,.int v1.2.1]]⟩)] 1 1,jI,k,⟨_,k,.inl k⟩,⟨k,bJ⟩⟩
def wQ(a0:Cu)(a1:(List ByteArray)):Option (Int×Int×ByteArray):=(dI a0 (a1.length:Int)).bind λv1=>(bY a1 v1.2.2).bind λv2=>some (v1.1,v1.2.1,v2)
def FK(a0)(a1)(r)(h:wQ a0 a1=some r):HasE Tryz.prog 112 [.ptr 0 0 0,.list 1 (a1.map Rq)] [(0,⟨3,[[.list 1 (a0.b.map eU),.int a0.i,.int a0.h]]⟩)] 1 (.str r.2.2) [(0,⟨3,[[.list 1 (a0.b.map eU),.int r.1,.int r.2.1]]⟩)]:=by
 exact fE aH (rvs:=[.tmp 4]) (ns:=Cx.drop 1) Tryz.func112 k k Tryz.ntmps112 k k<|cW 10 k<|ln k4<|oB h λv1 hv1 h=>ae (jU 0 [] (fA _ _ _ hv1)) k<|jl h k2 λv2 hv2 h=>zQ 5 k<|sp h ⟨mN [(4,.str v2)] [(0,⟨3,[[.list 1 (a0.b.map eU),.int v1.1,.int v1.2.1]]⟩)] 1 1,jI,k,⟨_,k,.inl k⟩,⟨k,bJ⟩⟩
def gN(a0:Cu)(a1:aA):Option (Int×Int×Int):=(dI a0 (a1.length:Int)).bind λv1=>(bY a1 v1.2.2).bind λv2=>some (v1.1,v1.2.1,v2)
def kV(a0)(a1)(r)(h:gN a0 a1=some r):HasE Tryz.prog 76 [.ptr 0 0 0,.list 1 (a1.map eI)] [(0,⟨3,[[.list 1 (a0.b.map eU),.int a0.i,.int a0.h]]⟩)] 1 (.int r.2.2) [(0,⟨3,[[.list 1 (a0.b.map eU),.int r.1,.int r.2.1]]⟩)]:=by
 exact fE aH (rvs:=[.tmp 4]) (ns:=Cx.drop 1) Tryz.func76 k k Tryz.ntmps76 k k<|cW 10 k<|ln k4<|oB h λv1 hv1 h=>ae (jU 0 [] (fA _ _ _ hv1)) k<|jl h k2 λv2 hv2 h=>zQ 5 k<|sp h ⟨mN [(4,.int v2)] [(0,⟨3,[[.list 1 (a0.b.map eU),.int v1.1,.int v1.2.1]]⟩)] 1 1,jI,k,⟨_,k,.inl k⟩,⟨k,bJ⟩⟩
def mD(a0:Cu):Option (Int×Int×Int):=(nQ a0 16).bind λv1=>bif v1.2.2 then((gN (⟨a0.b,v1.1,v1.2.1⟩:Cu) [(-1),0,1,4,7]).bind λv3=>some (v3.1,v3.2.1,v3.2.2))else((gN (⟨a0.b,v1.1,v1.2.1⟩:Cu) [2,3,5,2,3]).bind λv4=>some (v4.1,v4.2.1,v4.2.2))
def CF(a0)(r)(h:mD a0=some r):HasE Tryz.prog 49 [.ptr 0 0 0] [(0,⟨3,[[.list 1 (a0.b.map eU),.int a0.i,.int a0.h]]⟩)] 1 (.int r.2.2) [(0,⟨3,[[.list 1 (a0.b.map eU),.int r.1,.int r.2.1]]⟩)]:=by
 exact fE aH (rvs:=[.tmp 2]) (ns:=Cx.drop 1) Tryz.func49 k k Tryz.ntmps49 k k<|cW 9 k<|oB h λv1 hv1 h=>ae (jU 0 [] (wP _ _ _ hv1)) k<|an<|tn<|cO k h (λ_ h=>cW 3 k<|ae (wl k) k<|oB h λv3 hv3 h=>ae (jU 0 [1] (kV _ _ _ hv3)) k<|zQ 4 k<|aX<|sp h ⟨mN [(2,.int v3.2.2)] [(0,⟨3,[[.list 1 (a0.b.map eU),.int v3.1,.int v3.2.1]]⟩)] 1 1,jI,k,⟨_,k,.inl k⟩,⟨k,bJ⟩⟩) λ_ h=>pB 5 k<|ae (wl k) k<|oB h λv4 hv4 h=>ae (jU 0 [1] (kV _ _ _ hv4)) k<|zQ 4 k<|sp h ⟨mN [(2,.int v4.2.2)] [(0,⟨3,[[.list 1 (a0.b.map eU),.int v4.1,.int v4.2.1]]⟩)] 1 1,jI,k,⟨_,k,.inl k⟩,⟨k,bJ⟩⟩
def uX(a0:Cu):Option (Int×Int×Int):=(gN a0 [2,3,2]).bind λv1=>some (v1.1,v1.2.1,v1.2.2)
def EZ(a0)(r)(h:uX a0=some r):HasE Tryz.prog 75 [.ptr 0 0 0] [(0,⟨3,[[.list 1 (a0.b.map eU),.int a0.i,.int a0.h]]⟩)] 1 (.int r.2.2) [(0,⟨3,[[.list 1 (a0.b.map eU),.int r.1,.int r.2.1]]⟩)]:=by
 exact fE aH (rvs:=[.tmp 2]) (ns:=Cx.drop 1) Tryz.func75 k k Tryz.ntmps75 k k<|cW 8 k<|ae (wl k) k<|oB h λv1 hv1 h=>ae (jU 0 [1] (kV _ _ _ hv1)) k<|zQ 4 k<|sp h ⟨mN [(2,.int v1.2.2)] [(0,⟨3,[[.list 1 (a0.b.map eU),.int v1.1,.int v1.2.1]]⟩)] 1 1,jI,k,⟨_,k,.inl k⟩,⟨k,bJ⟩⟩
def BS(a0:Cu)(a1:Int)(x1:(Int×Int×aA×Int)):Option ((Int×Int×aA×Int) ⊕ (Int×Int×aA)):=bif decide (x1.2.2.2<((x1.2.2.1.length:Nat):Int))then((dI (⟨a0.b,x1.1,x1.2.1⟩:Cu) (max 1 (min 5 a1))).bind λv3=>(bY x1.2.2.1 x1.2.2.2).bind λv4=>some (.inl (v3.1,v3.2.1,(x1.2.2.1.set x1.2.2.2.toNat v3.2.2),wr (x1.2.2.2+1))))else some (.inr (x1.1,x1.2.1,x1.2.2.1))
def rT(a0:Cu)(a1 a2 a3:Int):Option (Int×Int×Int×Int×aA):=(lF a2 a3).bind λv1=>(Lp (BS a0 a1) (a0.i,a0.h,v1.cells,0)).bind λy5=>some (y5.1,y5.2.1,v1.rows,v1.cols,y5.2.2)
def DP(a0)(a1)(a2)(a3)(r)(h:rT a0 a1 a2 a3=some r):HasE Tryz.prog 63 [.ptr 0 0 0,.int a1,.int a2,.int a3] [(0,⟨3,[[.list 1 (a0.b.map eU),.int a0.i,.int a0.h]]⟩)] 1 (.agg [.int r.2.2.1,.int r.2.2.2.1,.own 2 0 r.2.2.2.2.length]) [(0,⟨3,[[.list 1 (a0.b.map eU),.int r.1,.int r.2.1]]⟩),(2,⟨1,r.2.2.2.2.map (ow eI)⟩)]:=by
 refine fE aH (rvs:=[.cell 8 78]) (ns:=Cx.drop 1) Tryz.func63 k k Tryz.ntmps63 k k<|cW 9 k<|oB h λv1 hv1 h=>ae (cM (AO _ _ _ hv1) k3 (fV k (fV k aQ))) k<|dQ 10 k<|jB h (λx1=>mN [(0,.ptr 0 0 0),(1,.int a1),(8,.ptr 1 0 0),(9,.ptr 2 0 0),(10,.int x1.2.2.2)] [(0,⟨3,[[.list 1 (a0.b.map eU),.int x1.1,.int x1.2.1]]⟩),(1,⟨3,[jL]⟩),(2,⟨3,[[.int v1.rows,.int v1.cols,.own 3 0 x1.2.2.1.length]]⟩),(3,⟨1,x1.2.2.1.map (ow eI)⟩)] 4 1) (λr=>mN [(8,.ptr 1 0 0),(9,.ptr 2 0 0)] [(0,⟨3,[[.list 1 (a0.b.map eU),.int r.1,.int r.2.1]]⟩),(1,⟨3,[jL]⟩),(2,⟨3,[[.int v1.rows,.int v1.cols,.own 3 0 r.2.2.length]]⟩),(3,⟨1,r.2.2.map (ow eI)⟩)] 4 1) ?_ ?_ (jZ [0,1,3,2])
 .intro x1 o h;exact cW 6 k<|jn k5<|dQ 3 k<|cO k h (λ_ h=>yU 4 k<|aG dO<|gO 5 k<|ae (Rw k k) k<|ae (PD k k) k<|oB h λv3 hv3 h=>ae (jU 0 [] (fA _ _ _ hv3)) k<|jo) λ_ h=>aS<|jo
 .intro y5 _ h;exact kN 7 k<|sp h ⟨mN [(8,.ptr 1 0 0)] [(0,⟨3,[[.list 1 (a0.b.map eU),.int y5.1,.int y5.2.1]]⟩),(1,⟨3,[[.int v1.rows,.int v1.cols,.own 2 0 y5.2.2.length]]⟩),(2,⟨1,y5.2.2.map (ow eI)⟩)] 3 1,(jZ [0,1,3]),k,⟨_,k,.inl k⟩,⟨k,k,bJ⟩⟩
def Dt(a0:Cu)(a1:Int):Option (Int×Int×Int×aA×Int):=(dI a0 4).bind λv1=>(dI (⟨a0.b,v1.1,v1.2.1⟩:Cu) 4).bind λv2=>(rT (⟨a0.b,v2.1,v2.2.1⟩:Cu) a1 v1.2.2 v2.2.2).bind λv3=>(dI (⟨a0.b,v3.1,v3.2.1⟩:Cu) 18).bind λv4=>bif decide (v4.2.2=0)then((gN (⟨a0.b,v4.1,v4.2.1⟩:Cu) [(-1),9,2,9223372036854775807]).bind λv6=>some (v6.1,v6.2.1,v6.2.2,v3.2.2.2.2,v3.2.2.2.1))else(bif decide (v4.2.2=1)then(bif decide (v3.2.2.2.2.length+[0].length <=4294967296)then some (v4.1,v4.2.1,v3.2.2.1,(v3.2.2.2.2++[0]),v3.2.2.2.1)else none)else(bif decide (v4.2.2=2)then(bif decide (0<((v3.2.2.2.2.length:Nat):Int))then((gN (⟨a0.b,v4.1,v4.2.1⟩:Cu) [(-1),5,2]).bind λv11=>(bY v3.2.2.2.2 0).bind λv12=>some (v11.1,v11.2.1,v3.2.2.1,(v3.2.2.2.2.set ((0:Int).toNat) v11.2.2),v3.2.2.2.1))else(some (v4.1,v4.2.1,v3.2.2.1,v3.2.2.2.2,v3.2.2.2.1)))else(some (v4.1,v4.2.1,v3.2.2.1,v3.2.2.2.2,v3.2.2.2.1))))
def RB(a0)(a1)(r)(h:Dt a0 a1=some r):HasE Tryz.prog 170 [.ptr 0 0 0,.int a1] [(0,⟨3,[[.list 1 (a0.b.map eU),.int a0.i,.int a0.h]]⟩)] 1 (.agg [.int r.2.2.1,.int r.2.2.2.2,.own 2 0 r.2.2.2.1.length]) [(0,⟨3,[[.list 1 (a0.b.map eU),.int r.1,.int r.2.1]]⟩),(2,⟨1,r.2.2.2.1.map (ow eI)⟩)]:=by
 refine fE aH (rvs:=[.cell 4 78]) (ns:=Cx.drop 1) Tryz.func170 k k Tryz.ntmps170 k k<|cW 8 k<|oB h λv1 hv1 h=>ae (jU 0 [] (fA _ _ _ hv1)) k<|oI 9 k<|oB h λv2 hv2 h=>ae (jU 0 [] (fA _ _ _ hv2)) k<|oB h λv3 hv3 h=>ae (jC [(0,0)] [(0,0),(2,2)] [0] [2] [(0,⟨3,[[.list 1 (a0.b.map eU),.int v3.1,.int v3.2.1]]⟩),(2,⟨1,v3.2.2.2.2.map (ow eI)⟩)] 3 (.agg [.int v3.2.2.1,.int v3.2.2.2.1,.own 2 0 v3.2.2.2.2.length]) (DP _ _ _ _ _ hv3)) k<|oI 8 k<|oB h λv4 hv4 h=>ae (jU 0 [] (fA _ _ _ hv4)) k ?_;refine dQ 9 k<|cO k h (λ_ h=>cW 2 k<|ae (wl k) k<|oB h λv6 hv6 h=>ae (jU 0 [4] (kV _ _ _ hv6)) k<|JB 3 k<|aU<|tn<|kN 7 k<|sp h ⟨mN [(4,.ptr 1 0 0)] [(0,⟨3,[[.list 1 (a0.b.map eU),.int v6.1,.int v6.2.1]]⟩),(1,⟨3,[[.int v6.2.2,.int v3.2.2.2.1,.own 2 0 v3.2.2.2.2.length]]⟩),(2,⟨1,v3.2.2.2.2.map (ow eI)⟩)] 3 1,jI,k,⟨_,k,.inl k⟩,⟨k,k,bJ⟩⟩) λ_ h=>?_;refine nK 6 k<|cO k h (λ_ h=>cW 3 k<|ae (wl k) k<|cG h λq8 h=>ae (nH aH (l:=v3.2.2.2.2) (m:=[0]) gT q8 k k k k k k k k k k k k) k<|JB 3 k<|aU<|tn<|kN 7 k<|sp h ⟨mN [(4,.ptr 1 0 0)] [(0,⟨3,[[.list 1 (a0.b.map eU),.int v4.1,.int v4.2.1]]⟩),(1,⟨3,[[.int v3.2.2.1,.int v3.2.2.2.1,.own 2 0 ((v3.2.2.2.2++[0]).length)]]⟩),(2,⟨1,List.map (ow eI) (v3.2.2.2.2++[0])⟩)] 3 1,(jZ [0,1,5]),k,⟨_,k,.inl k⟩,⟨k,k,bJ⟩⟩) λ_ h=>?_;refine nK 6 k<|cO k h (λ_ h=>?_) λ_ h=>bC<|aU<|tn<|kN 7 k<|sp h ⟨mN [(4,.ptr 1 0 0)] [(0,⟨3,[[.list 1 (a0.b.map eU),.int v4.1,.int v4.2.1]]⟩),(1,⟨3,[[.int v3.2.2.1,.int v3.2.2.2.1,.own 2 0 v3.2.2.2.2.length]]⟩),(2,⟨1,v3.2.2.2.2.map (ow eI)⟩)] 3 1,jI,k,⟨_,k,.inl k⟩,⟨k,k,bJ⟩⟩;exact cW 4 k<|jn k5<|dQ 3 k<|cO k h (λ_ h=>aG dO<|gO 3 k<|ae (wl k) k<|oB h λv11 hv11 h=>ae (jU 0 [4] (kV _ _ _ hv11)) k<|jp h k2 λv12 hv12 h=>ae (dE aH gT (u:=v11.2.2) (cA hv12) k k k k k k) k<|an<|mV (by kernel_rfl)<|aU<|tn<|kN 7 k<|sp h ⟨mN [(4,.ptr 1 0 0)] [(0,⟨3,[[.list 1 (a0.b.map eU),.int v11.1,.int v11.2.1]]⟩),(1,⟨3,[[.int v3.2.2.1,.int v3.2.2.2.1,.own 2 0 ((v3.2.2.2.2.set ((0:Int).toNat) v11.2.2).length)]]⟩),(2,⟨1,List.map (ow eI) (v3.2.2.2.2.set ((0:Int).toNat) v11.2.2)⟩)] 3 1,jI,k,⟨_,k,.inl k⟩,⟨k,k,bJ⟩⟩) λ_ h=>bC<|aU<|tn<|kN 7 k<|sp h ⟨mN [(4,.ptr 1 0 0)] [(0,⟨3,[[.list 1 (a0.b.map eU),.int v4.1,.int v4.2.1]]⟩),(1,⟨3,[[.int v3.2.2.1,.int v3.2.2.2.1,.own 2 0 v3.2.2.2.2.length]]⟩),(2,⟨1,v3.2.2.2.2.map (ow eI)⟩)] 3 1,jI,k,⟨_,k,.inl k⟩,⟨k,k,bJ⟩⟩
def AH(a0:Cu)(v7:(Int×Int×Int))(x1:(Int×Int×aA×aA×Int)):Option ((Int×Int×aA×aA×Int) ⊕ (Int×Int×aA×aA)):=bif decide (0<x1.2.2.2.2)then(bif decide (1<wr (1+v7.2.2))then((dI (⟨a0.b,x1.1,x1.2.1⟩:Cu) (wr ((wr (1+v7.2.2))-1))).bind λv11=>bif decide (x1.2.2.1.length+[v11.2.2].length <=4294967296)then((dI (⟨a0.b,v11.1,v11.2.1⟩:Cu) (wr ((wr ((wr (1+v7.2.2))-1))-v11.2.2))).bind λv13=>bif decide (x1.2.2.2.1.length+[wr ((wr (v11.2.2+1))+v13.2.2)].length <=4294967296)then some (.inl (v13.1,v13.2.1,(x1.2.2.1++[v11.2.2]),(x1.2.2.2.1++[wr ((wr (v11.2.2+1))+v13.2.2)]),wr (x1.2.2.2.2-1)))else none)else none)else(some (.inr (x1.1,x1.2.1,x1.2.2.1,x1.2.2.2.1))))else some (.inr (x1.1,x1.2.1,x1.2.2.1,x1.2.2.2.1))
def zO(a0:Cu):Option (Int×Int×Int×aA×aA):=(nQ a0 2).bind λv1=>bif v1.2.2 then((EY ).bind λv3=>(dI (⟨a0.b,v1.1,v1.2.1⟩:Cu) 10).bind λv4=>(bY v3 v4.2.2).bind λv5=>(fJ v5).bind λv6=>some (v4.1,v4.2.1,v6.1.n,v6.1.src,v6.1.tgt))else((dI (⟨a0.b,v1.1,v1.2.1⟩:Cu) 4).bind λv7=>(dI (⟨a0.b,v7.1,v7.2.1⟩:Cu) 5).bind λv8=>(Lp (AH a0 v7) (v8.1,v8.2.1,([]:aA),([]:aA),v8.2.2)).bind λy15=>some (y15.1,y15.2.1,wr (1+v7.2.2),y15.2.2.1,y15.2.2.2))
def LB(a0)(r)(h:zO a0=some r):HasE Tryz.prog 191 [.ptr 0 0 0] [(0,⟨3,[[.list 1 (a0.b.map eU),.int a0.i,.int a0.h]]⟩)] 1 (.agg [.int r.2.2.1,.own 2 0 r.2.2.2.1.length,.own 3 0 r.2.2.2.2.length]) [(0,⟨3,[[.list 1 (a0.b.map eU),.int r.1,.int r.2.1]]⟩),(2,⟨1,r.2.2.2.1.map (ow eI)⟩),(3,⟨1,r.2.2.2.2.map (ow eI)⟩)]:=by
 refine fE aH (rvs:=[.cell 2 26]) (ns:=Cx.drop 1) Tryz.func191 k k Tryz.ntmps191 k k<|cW 9 k<|oB h λv1 hv1 h=>ae (jU 0 [] (wP _ _ _ hv1)) k<|an<|tn<|cO k h (λ_ h=>?_) λ_ h=>?_
 .exact sR<|oB h λv3 hv3 h=>ae (cL Rr (OB _ hv3) k3 aQ) k<|am k k<|oB h λv4 hv4 h=>ae (jU 0 [] (fA _ _ _ hv4)) k<|jp h k2 λv5 hv5 h=>ae (wp hv5 k) k<|oB h λv6 hv6 h=>ae (SP (vT _ _ hv6) k3 (fV k aQ)) k<|zQ 15 k<|aX<|sp h ⟨mN [(2,.ptr 1 0 0)] [(0,⟨3,[[.list 1 (a0.b.map eU),.int v4.1,.int v4.2.1]]⟩),(1,⟨3,[oQv v6.1 2 3]⟩),(2,⟨1,v6.1.src.map (ow eI)⟩),(3,⟨1,v6.1.tgt.map (ow eI)⟩)] 4 1,(jZ [0,1,3,4]),k,⟨_,k,.inl k⟩,⟨k,k,k,bJ⟩⟩
 .refine pB 5 k<|oB h λv7 hv7 h=>ae (jU 0 [] (fA _ _ _ hv7)) k<|gO 1 k<|ae (wl k) k<|ae (wl k) k<|oI 9 k<|oB h λv8 hv8 h=>ae (jU 0 [] (fA _ _ _ hv8)) k<|aT k2<|jB h (λx1=>mN [(0,.ptr 0 0 0),(2,.ptr 1 0 0),(5,.ptr 2 0 0),(6,.int x1.2.2.2.2)] [(0,⟨3,[[.list 1 (a0.b.map eU),.int x1.1,.int x1.2.1]]⟩),(1,⟨3,[[.int 0,.nil 1,.nil 1]]⟩),(2,⟨3,[[.int (wr (1+v7.2.2)),.own 3 0 x1.2.2.1.length,.own 4 0 x1.2.2.2.1.length]]⟩),(3,⟨1,x1.2.2.1.map (ow eI)⟩),(4,⟨1,x1.2.2.2.1.map (ow eI)⟩)] 5 1) (λr=>mN [(2,.ptr 1 0 0),(5,.ptr 2 0 0)] [(0,⟨3,[[.list 1 (a0.b.map eU),.int r.1,.int r.2.1]]⟩),(1,⟨3,[[.int 0,.nil 1,.nil 1]]⟩),(2,⟨3,[[.int (wr (1+v7.2.2)),.own 3 0 r.2.2.1.length,.own 4 0 r.2.2.2.length]]⟩),(3,⟨1,r.2.2.1.map (ow eI)⟩),(4,⟨1,r.2.2.2.map (ow eI)⟩)] 5 1) ?_ ?_ (jZ [0,1,4,2,3])
  .intro x1 o h;refine cW 6 k<|jJ h (λq9 h=>?_) λq9 h=>aE 30 k q9<|zQ 8 k<|aB<|aB<|sp h ⟨_,k,k,jI⟩;refine aE 30 k q9<|dQ 6 k<|cO k h (λ_ h=>?_) λ_ h=>aS<|aB<|aB<|sp h ⟨_,k,k,jI⟩;refine pB 10 k<|oB h λv11 hv11 h=>ae (jU 0 [] (fA _ _ _ hv11)) k<|oI 8 k<|ae (wl k) k<|cG h λq12 h=>ae (nH aH (l:=x1.2.2.1) (m:=[v11.2.2]) gT q12 k k k k k k k k k k k k) k<|dQ 4 k<|aG dO<|gO 2 k<|am k k ?_;exact gO 7 k<|oB h λv13 hv13 h=>ae (jU 0 [] (fA _ _ _ hv13)) k<|gO 1 k<|ae (wl k) k<|cG h λq14 h=>ae (nH aH (l:=x1.2.2.2.1) (m:=[wr ((wr (v11.2.2+1))+v13.2.2)]) gT q14 k k k k k k k k k k k k) k<|gO 2 k<|an<|mV (by kernel_rfl)<|aU<|tn<|cW 3 k<|aT k2<|sp h ⟨_,k,(jZ [0,1,2,6,8])⟩
  .intro y15 _ h;exact kN 7 k<|sp h ⟨mN [(2,.ptr 1 0 0)] [(0,⟨3,[[.list 1 (a0.b.map eU),.int y15.1,.int y15.2.1]]⟩),(1,⟨3,[[.int (wr (1+v7.2.2)),.own 2 0 y15.2.2.1.length,.own 3 0 y15.2.2.2.length]]⟩),(2,⟨1,y15.2.2.1.map (ow eI)⟩),(3,⟨1,y15.2.2.2.map (ow eI)⟩)] 4 1,(jZ [0,1,3,4]),k,⟨_,k,.inl k⟩,⟨k,k,k,bJ⟩⟩
def Du(a0:Cu):Option (Int×Int×Int×aA×aA):=(zO a0).bind λv1=>(dI (⟨a0.b,v1.1,v1.2.1⟩:Cu) 14).bind λv2=>bif decide (v2.2.2=0)then((wQ (⟨a0.b,v2.1,v2.2.1⟩:Cu) [(⟨#[108,111,111,112]⟩:ByteArray),(⟨#[99,105,114,99,108,101]⟩:ByteArray)]).bind λv4=>(fJ v4.2.2).bind λv5=>some (v4.1,v4.2.1,v5.1.n,v5.1.src,v5.1.tgt))else(bif decide (v2.2.2=1)then((gN (⟨a0.b,v2.1,v2.2.1⟩:Cu) [0,6,(-1),2]).bind λv7=>some (v7.1,v7.2.1,v7.2.2,v1.2.2.2.1,v1.2.2.2.2))else(bif decide (v2.2.2=2)then((dI (⟨a0.b,v2.1,v2.2.1⟩:Cu) 6).bind λv9=>bif decide (v1.2.2.2.1.length+[wr (v9.2.2-1)].length <=4294967296)then some (v9.1,v9.2.1,v1.2.2.1,(v1.2.2.2.1++[wr (v9.2.2-1)]),v1.2.2.2.2)else none)else(some (v2.1,v2.2.1,v1.2.2.1,v1.2.2.2.1,v1.2.2.2.2))))
def RC(a0)(r)(h:Du a0=some r):HasE Tryz.prog 169 [.ptr 0 0 0] [(0,⟨3,[[.list 1 (a0.b.map eU),.int a0.i,.int a0.h]]⟩)] 1 (.agg [.int r.2.2.1,.own 2 0 r.2.2.2.1.length,.own 3 0 r.2.2.2.2.length]) [(0,⟨3,[[.list 1 (a0.b.map eU),.int r.1,.int r.2.1]]⟩),(2,⟨1,r.2.2.2.1.map (ow eI)⟩),(3,⟨1,r.2.2.2.2.map (ow eI)⟩)]:=by
 refine fE aH (rvs:=[.cell 2 26]) (ns:=Cx.drop 1) Tryz.func169 k k Tryz.ntmps169 k k<|cW 8 k<|oB h λv1 hv1 h=>ae (jC [(0,0)] [(0,0),(2,2),(3,3)] [0] [2,3] [(0,⟨3,[[.list 1 (a0.b.map eU),.int v1.1,.int v1.2.1]]⟩),(2,⟨1,v1.2.2.2.1.map (ow eI)⟩),(3,⟨1,v1.2.2.2.2.map (ow eI)⟩)] 4 (.agg [.int v1.2.2.1,.own 2 0 v1.2.2.2.1.length,.own 3 0 v1.2.2.2.2.length]) (LB _ _ hv1)) k<|oI 8 k<|oB h λv2 hv2 h=>ae (jU 0 [] (fA _ _ _ hv2)) k<|dQ 9 k<|cO k h (λ_ h=>?_) λ_ h=>?_
 .exact cW 2 k<|ae (wl k) k<|oB h λv4 hv4 h=>ae (jU 0 [5] (FK _ _ _ hv4)) k<|oB h λv5 hv5 h=>ae (SP (vT _ _ hv5) k3 (fV k aQ)) k<|JB 5 k<|aU<|tn<|kN 7 k<|sp h ⟨mN [(2,.ptr 1 0 0)] [(0,⟨3,[[.list 1 (a0.b.map eU),.int v4.1,.int v4.2.1]]⟩),(1,⟨3,[oQv v5.1 2 3]⟩),(2,⟨1,v5.1.src.map (ow eI)⟩),(3,⟨1,v5.1.tgt.map (ow eI)⟩)] 4 1,(jZ [0,1,6,7]),k,⟨_,k,.inl k⟩,⟨k,k,k,bJ⟩⟩
 .refine nK 6 k<|cO k h (λ_ h=>cW 2 k<|ae (wl k) k<|oB h λv7 hv7 h=>ae (jU 0 [5] (kV _ _ _ hv7)) k<|JB 3 k<|aU<|tn<|kN 7 k<|sp h ⟨mN [(2,.ptr 1 0 0)] [(0,⟨3,[[.list 1 (a0.b.map eU),.int v7.1,.int v7.2.1]]⟩),(1,⟨3,[[.int v7.2.2,.own 2 0 v1.2.2.2.1.length,.own 3 0 v1.2.2.2.2.length]]⟩),(2,⟨1,v1.2.2.2.1.map (ow eI)⟩),(3,⟨1,v1.2.2.2.2.map (ow eI)⟩)] 4 1,jI,k,⟨_,k,.inl k⟩,⟨k,k,k,bJ⟩⟩) λ_ h=>?_;exact nK 6 k<|cO k h (λ_ h=>aG dO<|gO 3 k<|oB h λv9 hv9 h=>ae (jU 0 [] (fA _ _ _ hv9)) k<|gO 1 k<|ae (wl k) k<|cG h λq10 h=>ae (nH aH (l:=v1.2.2.2.1) (m:=[wr (v9.2.2-1)]) gT q10 k k k k k k k k k k k k) k<|gO 2 k<|an<|mV (by kernel_rfl)<|aU<|tn<|kN 7 k<|sp h ⟨mN [(2,.ptr 1 0 0)] [(0,⟨3,[[.list 1 (a0.b.map eU),.int v9.1,.int v9.2.1]]⟩),(1,⟨3,[[.int v1.2.2.1,.own 2 0 ((v1.2.2.2.1++[wr (v9.2.2-1)]).length),.own 3 0 v1.2.2.2.2.length]]⟩),(2,⟨1,List.map (ow eI) (v1.2.2.2.1++[wr (v9.2.2-1)])⟩),(3,⟨1,v1.2.2.2.2.map (ow eI)⟩)] 4 1,(jZ [0,1,6,3]),k,⟨_,k,.inl k⟩,⟨k,k,k,bJ⟩⟩) λ_ h=>bC<|aU<|tn<|kN 7 k<|sp h ⟨mN [(2,.ptr 1 0 0)] [(0,⟨3,[[.list 1 (a0.b.map eU),.int v2.1,.int v2.2.1]]⟩),(1,⟨3,[[.int v1.2.2.1,.own 2 0 v1.2.2.2.1.length,.own 3 0 v1.2.2.2.2.length]]⟩),(2,⟨1,v1.2.2.2.1.map (ow eI)⟩),(3,⟨1,v1.2.2.2.2.map (ow eI)⟩)] 4 1,jI,k,⟨_,k,.inl k⟩,⟨k,k,k,bJ⟩⟩
def Ci(a0:Cu)(a1:Qv)(a2:Int)(x1:(Int×Int×aA×Int×Int)):Option ((Int×Int×aA×Int×Int) ⊕ (Int×Int×aA)):=bif decide (x1.2.2.2.2<a1.n)then(bif decide (x1.2.2.2.2<5)then((dI (⟨a0.b,x1.1,x1.2.1⟩:Cu) (wr (a2+1))).bind λv3=>bif decide (x1.2.2.1.length+[min x1.2.2.2.1 v3.2.2].length <=4294967296)then some (.inl (v3.1,v3.2.1,(x1.2.2.1++[min x1.2.2.2.1 v3.2.2]),wr (x1.2.2.2.1-(min x1.2.2.2.1 v3.2.2)),wr (x1.2.2.2.2+1)))else none)else(some (.inr (x1.1,x1.2.1,x1.2.2.1))))else some (.inr (x1.1,x1.2.1,x1.2.2.1))
def Aa(a0:Cu)(a1:Qv)(a2:Int):Option (Int×Int×aA):=(Lp (Ci a0 a1 a2) (a0.i,a0.h,([]:aA),8,0)).bind λy5=>some (y5.1,y5.2.1,y5.2.2)
def Ik(a0)(a1)(a2)(r)(h:Aa a0 a1 a2=some r):HasE Tryz.prog 51 [.ptr 0 0 0,.agg (eQ a1),.int a2] [(0,⟨3,[[.list 1 (a0.b.map eU),.int a0.i,.int a0.h]]⟩)] 1 (.own 1 0 r.2.2.length) [(0,⟨3,[[.list 1 (a0.b.map eU),.int r.1,.int r.2.1]]⟩),(1,⟨1,r.2.2.map (ow eI)⟩)]:=by
 refine fE aH (rvs:=[.tmp 6]) (ns:=Cx.drop 1) Tryz.func51 k k Tryz.ntmps51 k k<|cW 8 k<|ae (wl k) k<|dQ 14 k<|jB h (λx1=>mN [(0,.ptr 0 0 0),(2,.int a2),(4,.ptr 1 0 0),(7,.own 2 0 x1.2.2.1.length),(8,.int x1.2.2.2.1),(9,.int x1.2.2.2.2)] [(0,⟨3,[[.list 1 (a0.b.map eU),.int x1.1,.int x1.2.1]]⟩),(1,⟨3,[eQ a1]⟩),(2,⟨1,x1.2.2.1.map (ow eI)⟩)] 3 1) (λr=>mN [(7,.own 1 0 r.2.2.length)] [(0,⟨3,[[.list 1 (a0.b.map eU),.int r.1,.int r.2.1]]⟩),(1,⟨1,r.2.2.map (ow eI)⟩)] 2 1) ?_ ?_
 .intro x1 o h;refine cW 8 k<|jJ h (λq1 h=>?_) λq1 h=>aE 16 k q1<|zQ 7 k<|aB<|aB<|sp h ⟨_,k,k,(jZ [0,2])⟩;refine aE 16 k q1<|dQ 5 k<|cO k h (λ_ h=>?_) λ_ h=>aS<|aB<|aB<|sp h ⟨_,k,k,(jZ [0,2])⟩;refine pB 10 k<|oB h λv3 hv3 h=>ae (jU 0 [] (fA _ _ _ hv3)) k<|ae (Rw k k) k<|oI 7 k<|ae (wl k) k<|cG h λq4 h=>ae (nH aH (l:=x1.2.2.1) (m:=[min x1.2.2.2.1 v3.2.2]) gT q4 k k k k k k k k k k k k) k<|oI 7 k<|aa k k ?_;exact an<|aU<|tn<|cW 3 k<|aT k2<|sp h ⟨_,k,(jZ [0,1,4])⟩
 .intro y5 _ h;exact kN 7 k<|sp h ⟨mN [(6,.own 1 0 y5.2.2.length)] [(0,⟨3,[[.list 1 (a0.b.map eU),.int y5.1,.int y5.2.1]]⟩),(1,⟨1,y5.2.2.map (ow eI)⟩)] 2 1,jI,k,⟨_,k,.inl k⟩,⟨k,k,bJ⟩⟩
def Ea(a0:Cu)(a1:Int)(x1:(Int×Int×bK×Int)):Option ((Int×Int×bK×Int) ⊕ (Int×Int×bK)):=bif decide (x1.2.2.2<((x1.2.2.1.length:Nat):Int))then((bY x1.2.2.1 x1.2.2.2).bind λv6=>(bY x1.2.2.1 x1.2.2.2).bind λv7=>(rT (⟨a0.b,x1.1,x1.2.1⟩:Cu) a1 v6.rows v7.cols).bind λv8=>(bY x1.2.2.1 x1.2.2.2).bind λv9=>some (.inl (v8.1,v8.2.1,(x1.2.2.1.set x1.2.2.2.toNat (⟨v8.2.2.1,v8.2.2.2.1,v8.2.2.2.2⟩:Mt)),wr (x1.2.2.2+1))))else some (.inr (x1.1,x1.2.1,x1.2.2.1))
def vB(a0:Cu)(a1:Int)(a2:Qv)(a3:Int):Option (Int×Int×Int×Int×aA×aA×aA×bK):=(gC a2).bind λv1=>bif !v1 then some (a0.i,a0.h,a1,a2.n,a2.src,a2.tgt,[],[])else((Aa a0 a2 a3).bind λv3=>(iT a1 a2 v3.2.2).bind λv4=>(Lp (Ea a0 a1) (v3.1,v3.2.1,v4.maps,0)).bind λy10=>some (y10.1,y10.2.1,v4.p,v4.q.n,v4.q.src,v4.q.tgt,v4.dims,y10.2.2))
def Eu(a0)(a1)(a2)(a3)(r)(h:vB a0 a1 a2 a3=some r):HasE Tryz.prog 74 [.ptr 0 0 0,.int a1,.agg (eQ a2),.int a3] [(0,⟨3,[[.list 1 (a0.b.map eU),.int a0.i,.int a0.h]]⟩)] 1 (.agg [.int r.2.2.1,.int r.2.2.2.1,.list 1 (r.2.2.2.2.1.map eI),.list 1 (r.2.2.2.2.2.1.map eI),.own 2 0 r.2.2.2.2.2.2.1.length,.own 3 0 r.2.2.2.2.2.2.2.length]) [(0,⟨3,[[.list 1 (a0.b.map eU),.int r.1,.int r.2.1]]⟩),(2,⟨1,r.2.2.2.2.2.2.1.map (ow eI)⟩),(3,⟨3,r.2.2.2.2.2.2.2.map (ow eM)⟩)]:=by
 refine fE aH (rvs:=[.cell 8 29]) (ns:=Cx.drop 1) Tryz.func74 k k Tryz.ntmps74 k k<|cW 10 k<|oB h λv1 hv1 h=>ae (jc (oX _ _ hv1)) k<|dQ 3 k<|cO k h (λ_ h=>kN 9 k<|aX<|sp h ⟨mN [(8,.ptr 1 0 0)] [(0,⟨3,[[.list 1 (a0.b.map eU),.int a0.i,.int a0.h]]⟩),(1,⟨6,[[.int a1,.int a2.n,.list 1 (a2.src.map eI),.list 1 (a2.tgt.map eI),.own 2 0 ([].length),.own 3 0 ([].length)]]⟩),(2,⟨1,List.map (ow eI) []⟩),(3,⟨3,List.map (ow eM) []⟩)] 4 1,(jG [(0,0),(1,2)]),k,⟨_,k,.inl k⟩,⟨k,k,k,bJ⟩⟩) λ_ h=>?_;refine yU 3 k<|aG dO<|gO 5 k<|oB h λv3 hv3 h=>ae (jC [(0,0)] [(0,0),(3,1)] [0] [3] [(0,⟨3,[[.list 1 (a0.b.map eU),.int v3.1,.int v3.2.1]]⟩),(3,⟨1,v3.2.2.map (ow eI)⟩)] 4 (.own 3 0 v3.2.2.length) (Ik _ _ _ _ hv3)) k<|oB h λv4 hv4 h=>ae (cR (AW _ _ _ _ hv4) k3 (fV k (aI (kM k) (Wm k k aQ)))) k<|gO 2 k<|an<|mV (by kernel_rfl)<|tn<|nK 6 k<|jB h (λx1=>mN [(0,.ptr 0 0 0),(1,.int a1),(8,.ptr 1 0 0),(9,.ptr 2 0 0),(10,.int x1.2.2.2)] [(0,⟨3,[[.list 1 (a0.b.map eU),.int x1.1,.int x1.2.1]]⟩),(1,⟨6,[gX]⟩),(2,⟨6,[[.int v4.p,.int v4.q.n,.own 3 0 v4.q.src.length,.own 4 0 v4.q.tgt.length,.own 5 0 v4.dims.length,.own 6 0 x1.2.2.1.length]]⟩),(3,⟨1,v4.q.src.map (ow eI)⟩),(4,⟨1,v4.q.tgt.map (ow eI)⟩),(5,⟨1,v4.dims.map (ow eI)⟩),(6,⟨3,x1.2.2.1.map (ow eM)⟩)] 7 1) (λr=>mN [(8,.ptr 1 0 0),(9,.ptr 2 0 0)] [(0,⟨3,[[.list 1 (a0.b.map eU),.int r.1,.int r.2.1]]⟩),(1,⟨6,[gX]⟩),(2,⟨6,[[.int v4.p,.int v4.q.n,.own 3 0 v4.q.src.length,.own 4 0 v4.q.tgt.length,.own 5 0 v4.dims.length,.own 6 0 r.2.2.length]]⟩),(3,⟨1,v4.q.src.map (ow eI)⟩),(4,⟨1,v4.q.tgt.map (ow eI)⟩),(5,⟨1,v4.dims.map (ow eI)⟩),(6,⟨3,r.2.2.map (ow eM)⟩)] 7 1) ?_ ?_ (jZ [0,2,8,4,5,6,7])
 .intro x1 o h;refine cW 6 k<|jn k5<|dQ 3 k<|cO k h (λ_ h=>?_) λ_ h=>aS<|aB<|aB<|sp h ⟨_,k,k,jI⟩;refine yU 4 k<|aG dO<|gO 8 k<|jp h k2 λv6 hv6 h=>fp k8<|ae (wp hv6 k) k<|gO 3 k<|jp h k2 λv7 hv7 h=>fp k8<|ae (wp hv7 k) k<|oB h λv8 hv8 h=>ae (jC [(0,0)] [(0,0),(7,2)] [0] [7] [(0,⟨3,[[.list 1 (a0.b.map eU),.int v8.1,.int v8.2.1]]⟩),(7,⟨1,v8.2.2.2.2.map (ow eI)⟩)] 8 (.agg [.int v8.2.2.1,.int v8.2.2.2.1,.own 7 0 v8.2.2.2.2.length]) (DP _ _ _ _ _ hv8)) k<|jp h k2 λv9 hv9 h=>ae (Da aH k k k k k k (zU (cA hv9)) k) k<|an<|mV (by kernel_rfl)<|aU<|tn ?_;exact aP (t:=mN [(0,.ptr 0 0 0),(1,.int a1),(8,.ptr 1 0 0),(9,.ptr 2 0 0),(10,.int x1.2.2.2)] [(0,⟨3,[[.list 1 (a0.b.map eU),.int v8.1,.int v8.2.1]]⟩),(1,⟨6,[gX]⟩),(2,⟨6,[[.int v4.p,.int v4.q.n,.own 3 0 v4.q.src.length,.own 4 0 v4.q.tgt.length,.own 5 0 v4.dims.length,.own 6 0 x1.2.2.1.length]]⟩),(3,⟨1,v4.q.src.map (ow eI)⟩),(4,⟨1,v4.q.tgt.map (ow eI)⟩),(5,⟨1,v4.dims.map (ow eI)⟩),(6,⟨3,(x1.2.2.1.map (ow eM)).set x1.2.2.2.toNat [.int v8.2.2.1,.int v8.2.2.2.1,.own 7 0 v8.2.2.2.2.length]⟩),(7,⟨1,v8.2.2.2.2.map (ow eI)⟩)] 8 1) (iU (σ:=sg [(0,0),(1,1),(2,2),(3,3),(4,4),(5,5),(6,6),(7,7)]) (eB k2) (iQ k<|iQ k<|Gi k<|oH k<|oH k<|oH k<|hX ⟨_,k,k,.inr (vE (σ:=sg [(0,0),(1,1),(2,2),(3,3),(4,4),(5,5),(6,6),(7,7)]) (m:=8) (e:=eM) (l:=x1.2.2.1) (i:=x1.2.2.2.toNat) (c:=[.int v8.2.2.1,.int v8.2.2.2.1,.own 7 0 v8.2.2.2.2.length]) (d:=[.int v8.2.2.1,.int v8.2.2.2.1,.own 7 0 v8.2.2.2.2.length]) eZ ⟨_,_,k,k,⟨_,_,k,k,⟨_,_,k,⟨k,k,k,k⟩,k⟩⟩⟩)⟩ k<|oH k<|bJ) k)<|cW 3 k<|aT k2<|sp h ⟨_,k,(Ent.trans (show Ent _ (mN [(0,.ptr 0 0 0),(1,.int a1),(8,.ptr 1 0 0),(9,.ptr 2 0 0),(10,.int (wr (x1.2.2.2+1)))] [(0,⟨3,[[.list 1 (a0.b.map eU),.int v8.1,.int v8.2.1]]⟩),(1,⟨6,[gX]⟩),(2,⟨6,[[.int v4.p,.int v4.q.n,.own 3 0 v4.q.src.length,.own 4 0 v4.q.tgt.length,.own 5 0 v4.dims.length,.own 6 0 ((x1.2.2.1.set x1.2.2.2.toNat (⟨v8.2.2.1,v8.2.2.2.1,v8.2.2.2.2⟩:Mt)).length)]]⟩),(3,⟨1,v4.q.src.map (ow eI)⟩),(4,⟨1,v4.q.tgt.map (ow eI)⟩),(5,⟨1,v4.dims.map (ow eI)⟩),(6,⟨3,List.map (ow eM) (x1.2.2.1.set x1.2.2.2.toNat (⟨v8.2.2.1,v8.2.2.2.1,v8.2.2.2.2⟩:Mt))⟩)] 8 1) from (Ent.trans (vW (b:=6) (b':=7) (j:=2) (es':=v8.2.2.2.2.map eI) (by rw[eD];exact jK hv9) k k k k (aV _ _) (cI.frzs _)) (fB (eB k2) (iQ k<|iQ k<|hX ⟨_,k,k,.inr ⟨_,_,k,⟨_,_,k,k,⟨_,_,k,k,⟨_,_,k,⟨k,k,k,k⟩,⟨_,_,k,⟨k,k,k,k⟩,⟨_,_,k,⟨k,k,k,k⟩,⟨_,_,k,⟨k,k,(by simp only[aV,lA,lT,lR,lC,lN]),k⟩,k⟩⟩⟩⟩⟩⟩,k⟩⟩ k<|oH k<|oH k<|oH k<|hX ⟨_,k,k,.inl ⟨DD (⟨v8.2.2.1,v8.2.2.2.1,v8.2.2.2.2⟩:Mt) k,eZ.plainO _⟩⟩ k<|bJ) k4))) jI)⟩
 .intro y10 _ h;exact sQ<|aP (fS (b:=2) (b':=3) (i:=0) (j:=2) (es':=v4.q.src.map eI) k k k k (mQ cI k k))<|aP (fS (b:=2) (b':=4) (i:=0) (j:=3) (es':=v4.q.tgt.map eI) k k k k (mQ cI k k))<|gDE 6 k<|sp h ⟨mN [(8,.ptr 1 0 0)] [(0,⟨3,[[.list 1 (a0.b.map eU),.int y10.1,.int y10.2.1]]⟩),(1,⟨6,[[.int v4.p,.int v4.q.n,.list 1 (v4.q.src.map eI),.list 1 (v4.q.tgt.map eI),.own 2 0 v4.dims.length,.own 3 0 y10.2.2.length]]⟩),(2,⟨1,v4.dims.map (ow eI)⟩),(3,⟨3,y10.2.2.map (ow eM)⟩)] 4 1,(jZ [0,1,5,6]),k,⟨_,k,.inl k⟩,⟨k,k,k,bJ⟩⟩
def Dv(a0:Cu):Option (Int×Int×aA×bK×Int×Int×aA×aA):=(mD a0).bind λv1=>(Du (⟨a0.b,v1.1,v1.2.1⟩:Cu)).bind λv2=>(vB (⟨a0.b,v2.1,v2.2.1⟩:Cu) v1.2.2 (⟨v2.2.2.1,v2.2.2.2.1,v2.2.2.2.2⟩:Qv) 2).bind λv3=>(dI (⟨a0.b,v3.1,v3.2.1⟩:Cu) 14).bind λv4=>bif decide (v4.2.2=0)then(bif decide (v3.2.2.2.2.2.2.1.length+[1].length <=4294967296)then some (v4.1,v4.2.1,(v3.2.2.2.2.2.2.1++[1]),v3.2.2.2.2.2.2.2,v3.2.2.1,v3.2.2.2.1,v3.2.2.2.2.1,v3.2.2.2.2.2.1)else none)else(bif decide (v4.2.2=1)then(bif decide (0<((v3.2.2.2.2.2.2.2.length:Nat):Int))then((Dt (⟨a0.b,v4.1,v4.2.1⟩:Cu) v1.2.2).bind λv9=>(bY v3.2.2.2.2.2.2.2 0).bind λv10=>some (v9.1,v9.2.1,v3.2.2.2.2.2.2.1,(v3.2.2.2.2.2.2.2.set ((0:Int).toNat) (⟨v9.2.2.1,v9.2.2.2.2,v9.2.2.2.1⟩:Mt)),v3.2.2.1,v3.2.2.2.1,v3.2.2.2.2.1,v3.2.2.2.2.2.1))else(some (v4.1,v4.2.1,v3.2.2.2.2.2.2.1,v3.2.2.2.2.2.2.2,v3.2.2.1,v3.2.2.2.1,v3.2.2.2.2.1,v3.2.2.2.2.2.1)))else(bif decide (v4.2.2=2)then(bif decide (0<((v3.2.2.2.2.2.2.1.length:Nat):Int))then((gN (⟨a0.b,v4.1,v4.2.1⟩:Cu) [(-1),5,0]).bind λv13=>(bY v3.2.2.2.2.2.2.1 0).bind λv14=>some (v13.1,v13.2.1,(v3.2.2.2.2.2.2.1.set ((0:Int).toNat) v13.2.2),v3.2.2.2.2.2.2.2,v3.2.2.1,v3.2.2.2.1,v3.2.2.2.2.1,v3.2.2.2.2.2.1))else(some (v4.1,v4.2.1,v3.2.2.2.2.2.2.1,v3.2.2.2.2.2.2.2,v3.2.2.1,v3.2.2.2.1,v3.2.2.2.2.1,v3.2.2.2.2.2.1)))else(some (v4.1,v4.2.1,v3.2.2.2.2.2.2.1,v3.2.2.2.2.2.2.2,v3.2.2.1,v3.2.2.2.1,v3.2.2.2.2.1,v3.2.2.2.2.2.1))))
def RD(a0)(r)(h:Dv a0=some r):HasE Tryz.prog 120 [.ptr 0 0 0] [(0,⟨3,[[.list 1 (a0.b.map eU),.int a0.i,.int a0.h]]⟩)] 1 (.agg [.int r.2.2.2.2.1,.int r.2.2.2.2.2.1,.list 1 (r.2.2.2.2.2.2.1.map eI),.list 1 (r.2.2.2.2.2.2.2.map eI),.own 2 0 r.2.2.1.length,.own 3 0 r.2.2.2.1.length]) [(0,⟨3,[[.list 1 (a0.b.map eU),.int r.1,.int r.2.1]]⟩),(2,⟨1,r.2.2.1.map (ow eI)⟩),(3,⟨3,r.2.2.2.1.map (ow eM)⟩)]:=by
 refine fE aH (rvs:=[.cell 2 29]) (ns:=Cx.drop 1) Tryz.func120 k k Tryz.ntmps120 k k<|cW 8 k<|oB h λv1 hv1 h=>ae (jU 0 [] (CF _ _ hv1)) k<|oI 6 k<|oB h λv2 hv2 h=>ae (jC [(0,0)] [(0,0),(2,2),(3,3)] [0] [2,3] [(0,⟨3,[[.list 1 (a0.b.map eU),.int v2.1,.int v2.2.1]]⟩),(2,⟨1,v2.2.2.2.1.map (ow eI)⟩),(3,⟨1,v2.2.2.2.2.map (ow eI)⟩)] 4 (.agg [.int v2.2.2.1,.own 2 0 v2.2.2.2.1.length,.own 3 0 v2.2.2.2.2.length]) (RC _ _ hv2)) k<|oI 9 k<|oB h λv3 hv3 h=>ae (lM (σ:=sg [(0,0)]) (σ':=sg [(0,0),(5,2),(6,3)]) (touch:=[0,2,3]) (news:=[5,6]) (hl2:=[(0,⟨3,[[.list 1 (a0.b.map eU),.int v3.1,.int v3.2.1]]⟩),(5,⟨1,v3.2.2.2.2.2.2.1.map (ow eI)⟩),(6,⟨3,v3.2.2.2.2.2.2.2.map (ow eM)⟩)]) (n':=7) (r2:=.agg [.int v3.2.2.1,.int v3.2.2.2.1,.list 1 (v3.2.2.2.2.1.map eI),.list 1 (v3.2.2.2.2.2.1.map eI),.own 5 0 v3.2.2.2.2.2.2.1.length,.own 6 0 v3.2.2.2.2.2.2.2.length]) (Eu _ _ _ _ _ hv3) k k ⟨_,_,k,(.inl ⟨k,k,k,k⟩),⟨_,_,k,(.inl k),⟨_,_,k,(.inr ⟨⟨_,_,k,(iC k),⟨_,_,k,(mQ cI k k),⟨_,_,k,(mQ cI k k),k⟩⟩⟩,k,k⟩),⟨_,_,k,(.inl k),k⟩⟩⟩⟩ ⟨⟨_,k,k,.inr ⟨_,_,k,⟨_,_,k,⟨k,k⟩,⟨_,_,k,k,⟨_,_,k,k,k⟩⟩⟩,k⟩⟩,k,bJ⟩ k k k ⟨⟨_,k,k,.inr ⟨_,_,k,⟨_,_,k,⟨k,k⟩,⟨_,_,k,k,⟨_,_,k,k,k⟩⟩⟩,k⟩⟩,k,⟨_,k,k,.inl ⟨k,cI.plainO _⟩⟩,k,⟨_,k,k,.inl ⟨k,eZ.plainO _⟩⟩,k,bJ⟩ k (.inl ⟨_,_,k,k,⟨_,_,k,k,⟨_,_,k,⟨k,k⟩,⟨_,_,k,⟨k,k⟩,⟨_,_,k,⟨k,k,(by simp only[aV,lA,lT,lR,lC,lN]),k⟩,⟨_,_,k,⟨k,k,(by simp only[aV,lA,lT,lR,lC,lN]),k⟩,k⟩⟩⟩⟩⟩⟩) k ⟨k,AM k,⟨k,cI.tamd _ _,⟨k,eZ.tamd _ _,bJ⟩⟩⟩ k k) k<|gO 2 k<|an ?_;refine tn<|cW 4 k<|oB h λv4 hv4 h=>ae (jU 0 [] (fA _ _ _ hv4)) k<|dQ 9 k<|cO k h (λ_ h=>cW 3 k<|ae (wl k) k<|cG h λq6 h=>ae (nH aH (l:=v3.2.2.2.2.2.2.1) (m:=[1]) gT q6 k k k k k k k k k k k k) k<|JB 3 k<|aU<|tn<|kN 7 k<|sp h ⟨mN [(2,.ptr 1 0 0)] [(0,⟨3,[[.list 1 (a0.b.map eU),.int v4.1,.int v4.2.1]]⟩),(1,⟨6,[[.int v3.2.2.1,.int v3.2.2.2.1,.list 1 (v3.2.2.2.2.1.map eI),.list 1 (v3.2.2.2.2.2.1.map eI),.own 2 0 ((v3.2.2.2.2.2.2.1++[1]).length),.own 3 0 v3.2.2.2.2.2.2.2.length]]⟩),(2,⟨1,List.map (ow eI) (v3.2.2.2.2.2.2.1++[1])⟩),(3,⟨3,v3.2.2.2.2.2.2.2.map (ow eM)⟩)] 4 1,(jZ [0,1,9,6]),k,⟨_,k,.inl k⟩,⟨k,k,k,bJ⟩⟩) λ_ h=>?_;refine nK 6 k<|cO k h (λ_ h=>?_) λ_ h=>?_
 .refine cW 4 k<|jn k5<|dQ 3 k<|cO k h (λ_ h=>?_) λ_ h=>bC<|aU<|tn<|kN 7 k<|sp h ⟨mN [(2,.ptr 1 0 0)] [(0,⟨3,[[.list 1 (a0.b.map eU),.int v4.1,.int v4.2.1]]⟩),(1,⟨6,[[.int v3.2.2.1,.int v3.2.2.2.1,.list 1 (v3.2.2.2.2.1.map eI),.list 1 (v3.2.2.2.2.2.1.map eI),.own 2 0 v3.2.2.2.2.2.2.1.length,.own 3 0 v3.2.2.2.2.2.2.2.length]]⟩),(2,⟨1,v3.2.2.2.2.2.2.1.map (ow eI)⟩),(3,⟨3,v3.2.2.2.2.2.2.2.map (ow eM)⟩)] 4 1,(jZ [0,1,5,6]),k,⟨_,k,.inl k⟩,⟨k,k,k,bJ⟩⟩;exact aG dO<|gO 4 k<|oB h λv9 hv9 h=>ae (jC [(0,0)] [(0,0),(8,2)] [0] [8] [(0,⟨3,[[.list 1 (a0.b.map eU),.int v9.1,.int v9.2.1]]⟩),(8,⟨1,v9.2.2.2.1.map (ow eI)⟩)] 9 (.agg [.int v9.2.2.1,.int v9.2.2.2.2,.own 8 0 v9.2.2.2.1.length]) (RB _ _ _ hv9)) k<|jp h k2 λv10 hv10 h=>ae (Da aH k k k k k k (zU (cA hv10)) k) k<|an<|mV (by kernel_rfl)<|aU<|tn<|kN 7 k<|sp h ⟨mN [(2,.ptr 1 0 0)] [(0,⟨3,[[.list 1 (a0.b.map eU),.int v9.1,.int v9.2.1]]⟩),(1,⟨6,[[.int v3.2.2.1,.int v3.2.2.2.1,.list 1 (v3.2.2.2.2.1.map eI),.list 1 (v3.2.2.2.2.2.1.map eI),.own 2 0 v3.2.2.2.2.2.2.1.length,.own 3 0 ((v3.2.2.2.2.2.2.2.set ((0:Int).toNat) (⟨v9.2.2.1,v9.2.2.2.2,v9.2.2.2.1⟩:Mt)).length)]]⟩),(2,⟨1,v3.2.2.2.2.2.2.1.map (ow eI)⟩),(3,⟨3,List.map (ow eM) (v3.2.2.2.2.2.2.2.set ((0:Int).toNat) (⟨v9.2.2.1,v9.2.2.2.2,v9.2.2.2.1⟩:Mt))⟩)] 4 1,(Ent.trans (show Ent _ (mN [(2,.ptr 1 0 0)] [(0,⟨3,[[.list 1 (a0.b.map eU),.int v9.1,.int v9.2.1]]⟩),(1,⟨6,[[.int v3.2.2.1,.int v3.2.2.2.1,.list 1 (v3.2.2.2.2.1.map eI),.list 1 (v3.2.2.2.2.2.1.map eI),.own 5 0 v3.2.2.2.2.2.2.1.length,.own 6 0 ((v3.2.2.2.2.2.2.2.set ((0:Int).toNat) (⟨v9.2.2.1,v9.2.2.2.2,v9.2.2.2.1⟩:Mt)).length)]]⟩),(5,⟨1,v3.2.2.2.2.2.2.1.map (ow eI)⟩),(6,⟨3,List.map (ow eM) (v3.2.2.2.2.2.2.2.set ((0:Int).toNat) (⟨v9.2.2.1,v9.2.2.2.2,v9.2.2.2.1⟩:Mt))⟩)] 9 1) from (Ent.trans (vW (b:=6) (b':=8) (j:=2) (es':=v9.2.2.2.1.map eI) (by rw[eD];exact jK hv10) k k k k (aV _ _) (cI.frzs _)) (fB (eB k2) (iQ k<|hX ⟨_,k,k,.inr ⟨_,_,k,⟨_,_,k,k,⟨_,_,k,k,⟨_,_,k,⟨k,k⟩,⟨_,_,k,⟨k,k⟩,⟨_,_,k,⟨k,k,k,k⟩,⟨_,_,k,⟨k,k,(by simp only[aV,lA,lT,lR,lC,lN]),k⟩,k⟩⟩⟩⟩⟩⟩,k⟩⟩ k<|oH k<|hX ⟨_,k,k,.inl ⟨DD (⟨v9.2.2.1,v9.2.2.2.2,v9.2.2.2.1⟩:Mt) k,eZ.plainO _⟩⟩ k<|bJ) k4))) (jZ [0,1,5,6])),k,⟨_,k,.inl k⟩,⟨k,k,k,bJ⟩⟩
 .refine nK 6 k<|cO k h (λ_ h=>?_) λ_ h=>bC<|aU<|tn<|kN 7 k<|sp h ⟨mN [(2,.ptr 1 0 0)] [(0,⟨3,[[.list 1 (a0.b.map eU),.int v4.1,.int v4.2.1]]⟩),(1,⟨6,[[.int v3.2.2.1,.int v3.2.2.2.1,.list 1 (v3.2.2.2.2.1.map eI),.list 1 (v3.2.2.2.2.2.1.map eI),.own 2 0 v3.2.2.2.2.2.2.1.length,.own 3 0 v3.2.2.2.2.2.2.2.length]]⟩),(2,⟨1,v3.2.2.2.2.2.2.1.map (ow eI)⟩),(3,⟨3,v3.2.2.2.2.2.2.2.map (ow eM)⟩)] 4 1,(jZ [0,1,5,6]),k,⟨_,k,.inl k⟩,⟨k,k,k,bJ⟩⟩;exact cW 4 k<|jn k5<|dQ 3 k<|cO k h (λ_ h=>aG dO<|gO 3 k<|ae (wl k) k<|oB h λv13 hv13 h=>ae (jU 0 [8] (kV _ _ _ hv13)) k<|jp h k2 λv14 hv14 h=>ae (dE aH gT (u:=v13.2.2) (cA hv14) k k k k k k) k<|an<|mV (by kernel_rfl)<|aU<|tn<|kN 7 k<|sp h ⟨mN [(2,.ptr 1 0 0)] [(0,⟨3,[[.list 1 (a0.b.map eU),.int v13.1,.int v13.2.1]]⟩),(1,⟨6,[[.int v3.2.2.1,.int v3.2.2.2.1,.list 1 (v3.2.2.2.2.1.map eI),.list 1 (v3.2.2.2.2.2.1.map eI),.own 2 0 ((v3.2.2.2.2.2.2.1.set ((0:Int).toNat) v13.2.2).length),.own 3 0 v3.2.2.2.2.2.2.2.length]]⟩),(2,⟨1,List.map (ow eI) (v3.2.2.2.2.2.2.1.set ((0:Int).toNat) v13.2.2)⟩),(3,⟨3,v3.2.2.2.2.2.2.2.map (ow eM)⟩)] 4 1,(jZ [0,1,5,6]),k,⟨_,k,.inl k⟩,⟨k,k,k,bJ⟩⟩) λ_ h=>bC<|aU<|tn<|kN 7 k<|sp h ⟨mN [(2,.ptr 1 0 0)] [(0,⟨3,[[.list 1 (a0.b.map eU),.int v4.1,.int v4.2.1]]⟩),(1,⟨6,[[.int v3.2.2.1,.int v3.2.2.2.1,.list 1 (v3.2.2.2.2.1.map eI),.list 1 (v3.2.2.2.2.2.1.map eI),.own 2 0 v3.2.2.2.2.2.2.1.length,.own 3 0 v3.2.2.2.2.2.2.2.length]]⟩),(2,⟨1,v3.2.2.2.2.2.2.1.map (ow eI)⟩),(3,⟨3,v3.2.2.2.2.2.2.2.map (ow eM)⟩)] 4 1,(jZ [0,1,5,6]),k,⟨_,k,.inl k⟩,⟨k,k,k,bJ⟩⟩
def CG(a0:Cu):Option (Int×Int×Int×aA×aA):=(wQ a0 [(⟨#[65,49]⟩:ByteArray),(⟨#[65,50]⟩:ByteArray),(⟨#[65,51]⟩:ByteArray),(⟨#[65,52]⟩:ByteArray),(⟨#[65,52]⟩:ByteArray)]).bind λv1=>(fJ v1.2.2).bind λv2=>some (v1.1,v1.2.1,v2.1.n,v2.1.src,v2.1.tgt)
def OC(a0)(r)(h:CG a0=some r):HasE Tryz.prog 121 [.ptr 0 0 0] [(0,⟨3,[[.list 1 (a0.b.map eU),.int a0.i,.int a0.h]]⟩)] 1 (.agg [.int r.2.2.1,.own 2 0 r.2.2.2.1.length,.own 3 0 r.2.2.2.2.length]) [(0,⟨3,[[.list 1 (a0.b.map eU),.int r.1,.int r.2.1]]⟩),(2,⟨1,r.2.2.2.1.map (ow eI)⟩),(3,⟨1,r.2.2.2.2.map (ow eI)⟩)]:=by
 exact fE aH (rvs:=[.cell 2 26]) (ns:=Cx.drop 1) Tryz.func121 k k Tryz.ntmps121 k k<|cW 8 k<|ae (wl k) k<|oB h λv1 hv1 h=>ae (jU 0 [2] (FK _ _ _ hv1)) k<|oB h λv2 hv2 h=>ae (SP (vT _ _ hv2) k3 (fV k aQ)) k<|zQ 15 k<|sp h ⟨mN [(2,.ptr 1 0 0)] [(0,⟨3,[[.list 1 (a0.b.map eU),.int v1.1,.int v1.2.1]]⟩),(1,⟨3,[oQv v2.1 2 3]⟩),(2,⟨1,v2.1.src.map (ow eI)⟩),(3,⟨1,v2.1.tgt.map (ow eI)⟩)] 4 1,(jZ [0,1,3,4]),k,⟨_,k,.inl k⟩,⟨k,k,k,bJ⟩⟩
def wR(a0:Cu):Option (Int×Int×Int×Int×aA×aA×aA×bK):=(nQ a0 8).bind λv1=>bif v1.2.2 then((Dv (⟨a0.b,v1.1,v1.2.1⟩:Cu)).bind λv3=>some (v3.1,v3.2.1,v3.2.2.2.2.1,v3.2.2.2.2.2.1,v3.2.2.2.2.2.2.1,v3.2.2.2.2.2.2.2,v3.2.2.1,v3.2.2.2.1))else((uX (⟨a0.b,v1.1,v1.2.1⟩:Cu)).bind λv4=>(CG (⟨a0.b,v4.1,v4.2.1⟩:Cu)).bind λv5=>(vB (⟨a0.b,v5.1,v5.2.1⟩:Cu) v4.2.2 (⟨v5.2.2.1,v5.2.2.2.1,v5.2.2.2.2⟩:Qv) 3).bind λv6=>some (v6.1,v6.2.1,v6.2.2.1,v6.2.2.2.1,v6.2.2.2.2.1,v6.2.2.2.2.2.1,v6.2.2.2.2.2.2.1,v6.2.2.2.2.2.2.2))
def FL(a0)(r)(h:wR a0=some r):HasE Tryz.prog 60 [.ptr 0 0 0] [(0,⟨3,[[.list 1 (a0.b.map eU),.int a0.i,.int a0.h]]⟩)] 1 (.agg [.int r.2.2.1,.int r.2.2.2.1,.list 1 (r.2.2.2.2.1.map eI),.list 1 (r.2.2.2.2.2.1.map eI),.own 2 0 r.2.2.2.2.2.2.1.length,.own 3 0 r.2.2.2.2.2.2.2.length]) [(0,⟨3,[[.list 1 (a0.b.map eU),.int r.1,.int r.2.1]]⟩),(2,⟨1,r.2.2.2.2.2.2.1.map (ow eI)⟩),(3,⟨3,r.2.2.2.2.2.2.2.map (ow eM)⟩)]:=by
 refine fE aH (rvs:=[.cell 2 29]) (ns:=Cx.drop 1) Tryz.func60 k k Tryz.ntmps60 k k<|cW 9 k<|oB h λv1 hv1 h=>ae (jU 0 [] (wP _ _ _ hv1)) k<|an<|tn<|cO k h (λ_ h=>?_) λ_ h=>?_
 .exact cW 3 k<|oB h λv3 hv3 h=>ae (jC [(0,0)] [(0,0),(2,2),(3,3)] [0] [2,3] [(0,⟨3,[[.list 1 (a0.b.map eU),.int v3.1,.int v3.2.1]]⟩),(2,⟨1,v3.2.2.1.map (ow eI)⟩),(3,⟨3,v3.2.2.2.1.map (ow eM)⟩)] 4 (.agg [.int v3.2.2.2.2.1,.int v3.2.2.2.2.2.1,.list 1 (v3.2.2.2.2.2.2.1.map eI),.list 1 (v3.2.2.2.2.2.2.2.map eI),.own 2 0 v3.2.2.1.length,.own 3 0 v3.2.2.2.1.length]) (RD _ _ hv3)) k<|zQ 4 k<|aX<|sp h ⟨mN [(2,.ptr 1 0 0)] [(0,⟨3,[[.list 1 (a0.b.map eU),.int v3.1,.int v3.2.1]]⟩),(1,⟨6,[[.int v3.2.2.2.2.1,.int v3.2.2.2.2.2.1,.list 1 (v3.2.2.2.2.2.2.1.map eI),.list 1 (v3.2.2.2.2.2.2.2.map eI),.own 2 0 v3.2.2.1.length,.own 3 0 v3.2.2.2.1.length]]⟩),(2,⟨1,v3.2.2.1.map (ow eI)⟩),(3,⟨3,v3.2.2.2.1.map (ow eM)⟩)] 4 1,jI,k,⟨_,k,.inl k⟩,⟨k,k,k,bJ⟩⟩
 .exact pB 5 k<|oB h λv4 hv4 h=>ae (jU 0 [] (EZ _ _ hv4)) k<|oI 6 k<|oB h λv5 hv5 h=>ae (jC [(0,0)] [(0,0),(2,2),(3,3)] [0] [2,3] [(0,⟨3,[[.list 1 (a0.b.map eU),.int v5.1,.int v5.2.1]]⟩),(2,⟨1,v5.2.2.2.1.map (ow eI)⟩),(3,⟨1,v5.2.2.2.2.map (ow eI)⟩)] 4 (.agg [.int v5.2.2.1,.own 2 0 v5.2.2.2.1.length,.own 3 0 v5.2.2.2.2.length]) (OC _ _ hv5)) k<|oI 9 k<|oB h λv6 hv6 h=>ae (lM (σ:=sg [(0,0)]) (σ':=sg [(0,0),(5,2),(6,3)]) (touch:=[0,2,3]) (news:=[5,6]) (hl2:=[(0,⟨3,[[.list 1 (a0.b.map eU),.int v6.1,.int v6.2.1]]⟩),(5,⟨1,v6.2.2.2.2.2.2.1.map (ow eI)⟩),(6,⟨3,v6.2.2.2.2.2.2.2.map (ow eM)⟩)]) (n':=7) (r2:=.agg [.int v6.2.2.1,.int v6.2.2.2.1,.list 1 (v6.2.2.2.2.1.map eI),.list 1 (v6.2.2.2.2.2.1.map eI),.own 5 0 v6.2.2.2.2.2.2.1.length,.own 6 0 v6.2.2.2.2.2.2.2.length]) (Eu _ _ _ _ _ hv6) k k ⟨_,_,k,(.inl ⟨k,k,k,k⟩),⟨_,_,k,(.inl k),⟨_,_,k,(.inr ⟨⟨_,_,k,(iC k),⟨_,_,k,(mQ cI k k),⟨_,_,k,(mQ cI k k),k⟩⟩⟩,k,k⟩),⟨_,_,k,(.inl k),k⟩⟩⟩⟩ ⟨⟨_,k,k,.inr ⟨_,_,k,⟨_,_,k,⟨k,k⟩,⟨_,_,k,k,⟨_,_,k,k,k⟩⟩⟩,k⟩⟩,k,bJ⟩ k k k ⟨⟨_,k,k,.inr ⟨_,_,k,⟨_,_,k,⟨k,k⟩,⟨_,_,k,k,⟨_,_,k,k,k⟩⟩⟩,k⟩⟩,k,⟨_,k,k,.inl ⟨k,cI.plainO _⟩⟩,k,⟨_,k,k,.inl ⟨k,eZ.plainO _⟩⟩,k,bJ⟩ k (.inl ⟨_,_,k,k,⟨_,_,k,k,⟨_,_,k,⟨k,k⟩,⟨_,_,k,⟨k,k⟩,⟨_,_,k,⟨k,k,(by simp only[aV,lA,lT,lR,lC,lN]),k⟩,⟨_,_,k,⟨k,k,(by simp only[aV,lA,lT,lR,lC,lN]),k⟩,k⟩⟩⟩⟩⟩⟩) k ⟨k,AM k,⟨k,cI.tamd _ _,⟨k,eZ.tamd _ _,bJ⟩⟩⟩ k k) k<|zQ 4 k<|sp h ⟨mN [(2,.ptr 1 0 0)] [(0,⟨3,[[.list 1 (a0.b.map eU),.int v6.1,.int v6.2.1]]⟩),(1,⟨6,[[.int v6.2.2.1,.int v6.2.2.2.1,.list 1 (v6.2.2.2.2.1.map eI),.list 1 (v6.2.2.2.2.2.1.map eI),.own 2 0 v6.2.2.2.2.2.2.1.length,.own 3 0 v6.2.2.2.2.2.2.2.length]]⟩),(2,⟨1,v6.2.2.2.2.2.2.1.map (ow eI)⟩),(3,⟨3,v6.2.2.2.2.2.2.2.map (ow eM)⟩)] 4 1,(jZ [0,1,5,6]),k,⟨_,k,.inl k⟩,⟨k,k,k,bJ⟩⟩
def pA(a0:Cu):Option (Int×Int×Int×aA×aA):=(wQ a0 [(⟨#[65,49]⟩:ByteArray),(⟨#[65,50]⟩:ByteArray),(⟨#[65,51]⟩:ByteArray),(⟨#[65,51,105,110]⟩:ByteArray),(⟨#[65,50]⟩:ByteArray),(⟨#[75,50]⟩:ByteArray)]).bind λv1=>(fJ v1.2.2).bind λv2=>some (v1.1,v1.2.1,v2.1.n,v2.1.src,v2.1.tgt)
def Aw(a0)(r)(h:pA a0=some r):HasE Tryz.prog 50 [.ptr 0 0 0] [(0,⟨3,[[.list 1 (a0.b.map eU),.int a0.i,.int a0.h]]⟩)] 1 (.agg [.int r.2.2.1,.own 2 0 r.2.2.2.1.length,.own 3 0 r.2.2.2.2.length]) [(0,⟨3,[[.list 1 (a0.b.map eU),.int r.1,.int r.2.1]]⟩),(2,⟨1,r.2.2.2.1.map (ow eI)⟩),(3,⟨1,r.2.2.2.2.map (ow eI)⟩)]:=by
 exact fE aH (rvs:=[.cell 2 26]) (ns:=Cx.drop 1) Tryz.func50 k k Tryz.ntmps50 k k<|cW 8 k<|ae (wl k) k<|oB h λv1 hv1 h=>ae (jU 0 [2] (FK _ _ _ hv1)) k<|oB h λv2 hv2 h=>ae (SP (vT _ _ hv2) k3 (fV k aQ)) k<|zQ 15 k<|sp h ⟨mN [(2,.ptr 1 0 0)] [(0,⟨3,[[.list 1 (a0.b.map eU),.int v1.1,.int v1.2.1]]⟩),(1,⟨3,[oQv v2.1 2 3]⟩),(2,⟨1,v2.1.src.map (ow eI)⟩),(3,⟨1,v2.1.tgt.map (ow eI)⟩)] 4 1,(jZ [0,1,3,4]),k,⟨_,k,.inl k⟩,⟨k,k,k,bJ⟩⟩
def Ab(a0:Cu):Option (Int×Int×Int×Int×aA×aA×aA×bK):=(uX a0).bind λv1=>(pA (⟨a0.b,v1.1,v1.2.1⟩:Cu)).bind λv2=>(vB (⟨a0.b,v2.1,v2.2.1⟩:Cu) v1.2.2 (⟨v2.2.2.1,v2.2.2.2.1,v2.2.2.2.2⟩:Qv) 2).bind λv3=>some (v3.1,v3.2.1,v3.2.2.1,v3.2.2.2.1,v3.2.2.2.2.1,v3.2.2.2.2.2.1,v3.2.2.2.2.2.2.1,v3.2.2.2.2.2.2.2)
def Il(a0)(r)(h:Ab a0=some r):HasE Tryz.prog 30 [.ptr 0 0 0] [(0,⟨3,[[.list 1 (a0.b.map eU),.int a0.i,.int a0.h]]⟩)] 1 (.agg [.int r.2.2.1,.int r.2.2.2.1,.list 1 (r.2.2.2.2.1.map eI),.list 1 (r.2.2.2.2.2.1.map eI),.own 2 0 r.2.2.2.2.2.2.1.length,.own 3 0 r.2.2.2.2.2.2.2.length]) [(0,⟨3,[[.list 1 (a0.b.map eU),.int r.1,.int r.2.1]]⟩),(2,⟨1,r.2.2.2.2.2.2.1.map (ow eI)⟩),(3,⟨3,r.2.2.2.2.2.2.2.map (ow eM)⟩)]:=by
 refine fE aH (rvs:=[.cell 2 29]) (ns:=Cx.drop 1) Tryz.func30 k k Tryz.ntmps30 k k<|cW 8 k<|oB h λv1 hv1 h=>ae (jU 0 [] (EZ _ _ hv1)) k<|oI 6 k<|oB h λv2 hv2 h=>ae (jC [(0,0)] [(0,0),(2,2),(3,3)] [0] [2,3] [(0,⟨3,[[.list 1 (a0.b.map eU),.int v2.1,.int v2.2.1]]⟩),(2,⟨1,v2.2.2.2.1.map (ow eI)⟩),(3,⟨1,v2.2.2.2.2.map (ow eI)⟩)] 4 (.agg [.int v2.2.2.1,.own 2 0 v2.2.2.2.1.length,.own 3 0 v2.2.2.2.2.length]) (Aw _ _ hv2)) k<|oI 9 k<|oB h λv3 hv3 h=>ae (lM (σ:=sg [(0,0)]) (σ':=sg [(0,0),(5,2),(6,3)]) (touch:=[0,2,3]) (news:=[5,6]) (hl2:=[(0,⟨3,[[.list 1 (a0.b.map eU),.int v3.1,.int v3.2.1]]⟩),(5,⟨1,v3.2.2.2.2.2.2.1.map (ow eI)⟩),(6,⟨3,v3.2.2.2.2.2.2.2.map (ow eM)⟩)]) (n':=7) (r2:=.agg [.int v3.2.2.1,.int v3.2.2.2.1,.list 1 (v3.2.2.2.2.1.map eI),.list 1 (v3.2.2.2.2.2.1.map eI),.own 5 0 v3.2.2.2.2.2.2.1.length,.own 6 0 v3.2.2.2.2.2.2.2.length]) (Eu _ _ _ _ _ hv3) k k ⟨_,_,k,(.inl ⟨k,k,k,k⟩),⟨_,_,k,(.inl k),⟨_,_,k,(.inr ⟨⟨_,_,k,(iC k),⟨_,_,k,(mQ cI k k),⟨_,_,k,(mQ cI k k),k⟩⟩⟩,k,k⟩),⟨_,_,k,(.inl k),k⟩⟩⟩⟩ ⟨⟨_,k,k,.inr ⟨_,_,k,⟨_,_,k,⟨k,k⟩,⟨_,_,k,k,⟨_,_,k,k,k⟩⟩⟩,k⟩⟩,k,bJ⟩ k k k ⟨⟨_,k,k,.inr ⟨_,_,k,⟨_,_,k,⟨k,k⟩,⟨_,_,k,k,⟨_,_,k,k,k⟩⟩⟩,k⟩⟩,k,⟨_,k,k,.inl ⟨k,cI.plainO _⟩⟩,k,⟨_,k,k,.inl ⟨k,eZ.plainO _⟩⟩,k,bJ⟩ k (.inl ⟨_,_,k,k,⟨_,_,k,k,⟨_,_,k,⟨k,k⟩,⟨_,_,k,⟨k,k⟩,⟨_,_,k,⟨k,k,(by simp only[aV,lA,lT,lR,lC,lN]),k⟩,⟨_,_,k,⟨k,k,(by simp only[aV,lA,lT,lR,lC,lN]),k⟩,k⟩⟩⟩⟩⟩⟩) k ⟨k,AM k,⟨k,cI.tamd _ _,⟨k,eZ.tamd _ _,bJ⟩⟩⟩ k k) k<|JB 2 k<|tn ?_;exact bS<|sp h ⟨mN [(2,.ptr 1 0 0)] [(0,⟨3,[[.list 1 (a0.b.map eU),.int v3.1,.int v3.2.1]]⟩),(1,⟨6,[[.int v3.2.2.1,.int v3.2.2.2.1,.list 1 (v3.2.2.2.2.1.map eI),.list 1 (v3.2.2.2.2.2.1.map eI),.own 2 0 v3.2.2.2.2.2.2.1.length,.own 3 0 v3.2.2.2.2.2.2.2.length]]⟩),(2,⟨1,v3.2.2.2.2.2.2.1.map (ow eI)⟩),(3,⟨3,v3.2.2.2.2.2.2.2.map (ow eM)⟩)] 4 1,(jZ [0,1,5,6]),k,⟨_,k,.inl k⟩,⟨k,k,k,bJ⟩⟩
def kY(a0:aA):Option (Int×Int×aA×aA×aA×bK):=(pX a0).bind λv1=>(Ab (⟨a0,0,v1⟩:Cu)).bind λv2=>some (v2.2.2.1,v2.2.2.2.1,v2.2.2.2.2.1,v2.2.2.2.2.2.1,v2.2.2.2.2.2.2.1,v2.2.2.2.2.2.2.2)
def Dw(a0)(r)(h:kY a0=some r):HasE Tryz.prog 5 [.list 1 (a0.map eU)] [] 0 (.agg [.int r.1,.int r.2.1,.list 1 (r.2.2.1.map eI),.list 1 (r.2.2.2.1.map eI),.own 1 0 r.2.2.2.2.1.length,.own 2 0 r.2.2.2.2.2.length]) [(1,⟨1,r.2.2.2.2.1.map (ow eI)⟩),(2,⟨3,r.2.2.2.2.2.map (ow eM)⟩)]:=by
 exact fE aH (rvs:=[.cell 2 29]) (ns:=Cx.drop 0) Tryz.func5 k k Tryz.ntmps5 k k<|cW 8 k<|oB h λv1 hv1 h=>ae (jC [] [(1,0)] [] [1] [(1,⟨3,[[.list 1 (a0.map eU),.int 0,.int v1]]⟩)] 2 (.ptr 1 0 0) (zN _ _ hv1)) k<|oB h λv2 hv2 h=>ae (jC [(0,1)] [(1,0),(2,2),(3,3)] [1] [2,3] [(1,⟨3,[[.list 1 (a0.map eU),.int v2.1,.int v2.2.1]]⟩),(2,⟨1,v2.2.2.2.2.2.2.1.map (ow eI)⟩),(3,⟨3,v2.2.2.2.2.2.2.2.map (ow eM)⟩)] 4 (.agg [.int v2.2.2.1,.int v2.2.2.2.1,.list 1 (v2.2.2.2.2.1.map eI),.list 1 (v2.2.2.2.2.2.1.map eI),.own 2 0 v2.2.2.2.2.2.2.1.length,.own 3 0 v2.2.2.2.2.2.2.2.length]) (Il _ _ hv2)) k<|zQ 4 k<|sp h ⟨mN [(2,.ptr 0 0 0)] [(0,⟨6,[[.int v2.2.2.1,.int v2.2.2.2.1,.list 1 (v2.2.2.2.2.1.map eI),.list 1 (v2.2.2.2.2.2.1.map eI),.own 1 0 v2.2.2.2.2.2.2.1.length,.own 2 0 v2.2.2.2.2.2.2.2.length]]⟩),(1,⟨1,v2.2.2.2.2.2.2.1.map (ow eI)⟩),(2,⟨3,v2.2.2.2.2.2.2.2.map (ow eM)⟩)] 3 ⟨0,false,none,true⟩,(jZ [0,2,3]),k,⟨_,k,.inl k⟩,⟨k,k,bJ⟩⟩
def rI(a0:aA):Option (Int×Int×aA×aA×aA):=(pX a0).bind λv1=>(mD (⟨a0,0,v1⟩:Cu)).bind λv2=>(pA (⟨a0,v2.1,v2.2.1⟩:Cu)).bind λv3=>(Aa (⟨a0,v3.1,v3.2.1⟩:Cu) (⟨v3.2.2.1,v3.2.2.2.1,v3.2.2.2.2⟩:Qv) 2).bind λv4=>some (v2.2.2,v3.2.2.1,v3.2.2.2.1,v3.2.2.2.2,v4.2.2)
def Gd(a0)(r)(h:rI a0=some r):HasE Tryz.prog 11 [.list 1 (a0.map eU)] [] 0 (.tuple [.int r.1,.agg [.int r.2.1,.list 1 (r.2.2.1.map eI),.list 1 (r.2.2.2.1.map eI)],.own 1 0 r.2.2.2.2.length]) [(1,⟨1,r.2.2.2.2.map (ow eI)⟩)]:=by
 refine fE aH (rvs:=[.tmp 2,.cell 3 26,.tmp 4]) (ns:=Cx.drop 0) Tryz.func11 k k Tryz.ntmps11 k k<|cW 10 k<|oB h λv1 hv1 h=>ae (jC [] [(1,0)] [] [1] [(1,⟨3,[[.list 1 (a0.map eU),.int 0,.int v1]]⟩)] 2 (.ptr 1 0 0) (zN _ _ hv1)) k<|oI 6 k<|oB h λv2 hv2 h=>ae (jU 1 [] (CF _ _ hv2)) k<|oI 6 k<|oB h λv3 hv3 h=>ae (jC [(0,1)] [(1,0),(2,2),(3,3)] [1] [2,3] [(1,⟨3,[[.list 1 (a0.map eU),.int v3.1,.int v3.2.1]]⟩),(2,⟨1,v3.2.2.2.1.map (ow eI)⟩),(3,⟨1,v3.2.2.2.2.map (ow eI)⟩)] 4 (.agg [.int v3.2.2.1,.own 2 0 v3.2.2.2.1.length,.own 3 0 v3.2.2.2.2.length]) (Aw _ _ hv3)) k<|JB 3 k<|tn ?_;exact sQ<|aP (fS (b:=4) (b':=2) (i:=0) (j:=1) (es':=v3.2.2.2.1.map eI) k k k k (mQ cI k k))<|aP (fS (b:=4) (b':=3) (i:=0) (j:=2) (es':=v3.2.2.2.2.map eI) k k k k (mQ cI k k))<|aG dO<|gO 4 k<|oB h λv4 hv4 h=>ae (jC [(0,1)] [(1,0),(5,1)] [1] [5] [(1,⟨3,[[.list 1 (a0.map eU),.int v4.1,.int v4.2.1]]⟩),(5,⟨1,v4.2.2.map (ow eI)⟩)] 6 (.own 5 0 v4.2.2.length) (Ik _ _ _ _ hv4)) k<|gO 3 k<|an<|mV (by kernel_rfl)<|tn<|bS<|sp h ⟨mN [(2,.int v2.2.2),(3,.ptr 0 0 0),(4,.own 1 0 v4.2.2.length)] [(0,⟨3,[[.int v3.2.2.1,.list 1 (v3.2.2.2.1.map eI),.list 1 (v3.2.2.2.2.map eI)]]⟩),(1,⟨1,v4.2.2.map (ow eI)⟩)] 2 ⟨0,false,none,true⟩,(jZ [0,5]),k,⟨_,k,.inr ⟨(by simp),k,k⟩⟩,⟨k,bJ⟩⟩
def tH(a0:aA)(v2:(Int×Int×Int×Int×aA×aA×aA×bK))(x1:(Int×Int×bK×Int)):Option ((Int×Int×bK×Int) ⊕ bK):=bif decide (x1.2.2.2<((x1.2.2.1.length:Nat):Int))then((bY x1.2.2.1 x1.2.2.2).bind λv9=>(bY x1.2.2.1 x1.2.2.2).bind λv10=>(rT (⟨a0,x1.1,x1.2.1⟩:Cu) v2.2.2.1 v9.rows v10.cols).bind λv11=>(bY x1.2.2.1 x1.2.2.2).bind λv12=>some (.inl (v11.1,v11.2.1,(x1.2.2.1.set x1.2.2.2.toNat (⟨v11.2.2.1,v11.2.2.2.1,v11.2.2.2.2⟩:Mt)),wr (x1.2.2.2+1))))else some (.inr x1.2.2.1)
def rJ(a0:aA):Option (Int×Int×aA×aA×aA×bK×Int×Int×aA×aA×aA×bK):=(pX a0).bind λv1=>(wR (⟨a0,0,v1⟩:Cu)).bind λv2=>(kF (⟨v2.2.2.1,(⟨v2.2.2.2.1,v2.2.2.2.2.1,v2.2.2.2.2.2.1⟩:Qv),v2.2.2.2.2.2.2.1,v2.2.2.2.2.2.2.2⟩:Rp)).bind λv3=>bif v3 then((nQ (⟨a0,v2.1,v2.2.1⟩:Cu) 3).bind λv5=>bif !v5.2.2 then((iT v2.2.2.1 (⟨v2.2.2.2.1,v2.2.2.2.2.1,v2.2.2.2.2.2.1⟩:Qv) v2.2.2.2.2.2.2.1).bind λv7=>(Lp (tH a0 v2) (v5.1,v5.2.1,v7.maps,0)).bind λy13=>some (v7.p,v7.q.n,v7.q.src,v7.q.tgt,v7.dims,y13,v2.2.2.1,v2.2.2.2.1,v2.2.2.2.2.1,v2.2.2.2.2.2.1,v2.2.2.2.2.2.2.1,v2.2.2.2.2.2.2.2))else((wR (⟨a0,v5.1,v5.2.1⟩:Cu)).bind λv14=>some (v14.2.2.1,v14.2.2.2.1,v14.2.2.2.2.1,v14.2.2.2.2.2.1,v14.2.2.2.2.2.2.1,v14.2.2.2.2.2.2.2,v2.2.2.1,v2.2.2.2.1,v2.2.2.2.2.1,v2.2.2.2.2.2.1,v2.2.2.2.2.2.2.1,v2.2.2.2.2.2.2.2)))else((wR (⟨a0,v2.1,v2.2.1⟩:Cu)).bind λv15=>some (v15.2.2.1,v15.2.2.2.1,v15.2.2.2.2.1,v15.2.2.2.2.2.1,v15.2.2.2.2.2.2.1,v15.2.2.2.2.2.2.2,v2.2.2.1,v2.2.2.2.1,v2.2.2.2.2.1,v2.2.2.2.2.2.1,v2.2.2.2.2.2.2.1,v2.2.2.2.2.2.2.2))
def Ge(a0)(r)(h:rJ a0=some r):HasE Tryz.prog 16 [.list 1 (a0.map eU)] [] 0 (.tuple [.agg [.int r.2.2.2.2.2.2.1,.int r.2.2.2.2.2.2.2.1,.list 1 (r.2.2.2.2.2.2.2.2.1.map eI),.list 1 (r.2.2.2.2.2.2.2.2.2.1.map eI),.list 1 (r.2.2.2.2.2.2.2.2.2.2.1.map eI),.list 3 (r.2.2.2.2.2.2.2.2.2.2.2.map eM)],.agg [.int r.1,.int r.2.1,.list 1 (r.2.2.1.map eI),.list 1 (r.2.2.2.1.map eI),.list 1 (r.2.2.2.2.1.map eI),.list 3 (r.2.2.2.2.2.1.map eM)]]) []:=by
 refine fE aH (rvs:=[.cell 2 29,.cell 3 29]) (ns:=Cx.drop 0) Tryz.func16 k k Tryz.ntmps16 k k<|cW 9 k<|oB h λv1 hv1 h=>ae (jC [] [(2,0)] [] [2] [(2,⟨3,[[.list 1 (a0.map eU),.int 0,.int v1]]⟩)] 3 (.ptr 2 0 0) (zN _ _ hv1)) k<|oI 6 k<|oB h λv2 hv2 h=>ae (jC [(0,2)] [(2,0),(3,2),(4,3)] [2] [3,4] [(2,⟨3,[[.list 1 (a0.map eU),.int v2.1,.int v2.2.1]]⟩),(3,⟨1,v2.2.2.2.2.2.2.1.map (ow eI)⟩),(4,⟨3,v2.2.2.2.2.2.2.2.map (ow eM)⟩)] 5 (.agg [.int v2.2.2.1,.int v2.2.2.2.1,.list 1 (v2.2.2.2.2.1.map eI),.list 1 (v2.2.2.2.2.2.1.map eI),.own 3 0 v2.2.2.2.2.2.2.1.length,.own 4 0 v2.2.2.2.2.2.2.2.length]) (FL _ _ hv2)) k<|dQ 6 k<|aP (fS (b:=5) (b':=3) (i:=0) (j:=4) (es':=v2.2.2.2.2.2.2.1.map eI) k k k k (mQ cI k k))<|aP (fS (b:=5) (b':=4) (i:=0) (j:=5) (es':=v2.2.2.2.2.2.2.2.map eM) k k k k (mQ eZ k k))<|cW 2 k<|oB h λv3 hv3 h=>ae (jc (vI _ _ hv3)) k<|am k k<|jJ h (λq4 h=>?_) λq4 h=>?_
 .refine aE 14 k q4<|am k k<|oB h λv5 hv5 h=>ae (jU 2 [] (wP _ _ _ hv5)) k<|dQ 4 k<|cO k h (λ_ h=>?_) λ_ h=>?_
  .refine cW 8 k<|oB h λv7 hv7 h=>ae (cR (AW _ _ _ _ hv7) k3 (fV k (aI (kM k) (fV k aQ)))) k<|dQ 4 k<|aP (t:=mN [(2,.ptr 0 0 0),(3,.ptr 1 0 0),(4,.ptr 2 0 0),(5,.ptr 5 0 0),(6,.ptr 10 0 0)] [(0,⟨6,[gX]⟩),(1,⟨6,[gX]⟩),(2,⟨3,[[.list 1 (a0.map eU),.int v5.1,.int v5.2.1]]⟩),(5,⟨6,[[.int v2.2.2.1,.int v2.2.2.2.1,.list 1 (v2.2.2.2.2.1.map eI),.list 1 (v2.2.2.2.2.2.1.map eI),.list 1 (v2.2.2.2.2.2.2.1.map eI),.list 3 (v2.2.2.2.2.2.2.2.map eM)]]⟩),(6,⟨1,v7.q.src.map (ow eI)⟩),(7,⟨1,v7.q.tgt.map (ow eI)⟩),(8,⟨1,v7.dims.map (ow eI)⟩),(9,⟨3,v7.maps.map (ow eM)⟩),(10,⟨6,[oRp v7 6 7 8 9]⟩)] 11 ⟨0,false,none,true⟩) jI<|nK 6 k<|jB h (λx1=>mN [(2,.ptr 0 0 0),(3,.ptr 1 0 0),(4,.ptr 2 0 0),(5,.ptr 3 0 0),(6,.ptr 4 0 0),(7,.int x1.2.2.2)] [(0,⟨6,[gX]⟩),(1,⟨6,[gX]⟩),(2,⟨3,[[.list 1 (a0.map eU),.int x1.1,.int x1.2.1]]⟩),(3,⟨6,[[.int v2.2.2.1,.int v2.2.2.2.1,.list 1 (v2.2.2.2.2.1.map eI),.list 1 (v2.2.2.2.2.2.1.map eI),.list 1 (v2.2.2.2.2.2.2.1.map eI),.list 3 (v2.2.2.2.2.2.2.2.map eM)]]⟩),(4,⟨6,[[.int v7.p,.int v7.q.n,.own 5 0 v7.q.src.length,.own 6 0 v7.q.tgt.length,.own 7 0 v7.dims.length,.own 8 0 x1.2.2.1.length]]⟩),(5,⟨1,v7.q.src.map (ow eI)⟩),(6,⟨1,v7.q.tgt.map (ow eI)⟩),(7,⟨1,v7.dims.map (ow eI)⟩),(8,⟨3,x1.2.2.1.map (ow eM)⟩)] 9 ⟨0,false,none,true⟩) (λr=>mN [(2,.ptr 0 0 0),(3,.ptr 1 0 0),(5,.ptr 2 0 0),(6,.ptr 3 0 0)] [(0,⟨6,[gX]⟩),(1,⟨6,[gX]⟩),(2,⟨6,[[.int v2.2.2.1,.int v2.2.2.2.1,.list 1 (v2.2.2.2.2.1.map eI),.list 1 (v2.2.2.2.2.2.1.map eI),.list 1 (v2.2.2.2.2.2.2.1.map eI),.list 3 (v2.2.2.2.2.2.2.2.map eM)]]⟩),(3,⟨6,[[.int v7.p,.int v7.q.n,.own 4 0 v7.q.src.length,.own 5 0 v7.q.tgt.length,.own 6 0 v7.dims.length,.own 7 0 r.length]]⟩),(4,⟨1,v7.q.src.map (ow eI)⟩),(5,⟨1,v7.q.tgt.map (ow eI)⟩),(6,⟨1,v7.dims.map (ow eI)⟩),(7,⟨3,r.map (ow eM)⟩)] 8 ⟨0,false,none,true⟩) ?_ ?_ (jZ [0,1,2,5,10,6,7,8,9])
   .intro x1 o h;refine cW 6 k<|jn k5<|dQ 3 k<|cO k h (λ_ h=>?_) λ_ h=>aS<|aB<|aB<|sp h ⟨_,k,k,(jZ [0,1,3,4,5,6,7,8])⟩;refine yU 4 k<|aG dO<|gO 9 k<|jp h k2 λv9 hv9 h=>fp k8<|ae (wp hv9 k) k<|gO 3 k<|jp h k2 λv10 hv10 h=>fp k8<|ae (wp hv10 k) k<|oB h λv11 hv11 h=>ae (jC [(0,2)] [(2,0),(9,2)] [2] [9] [(2,⟨3,[[.list 1 (a0.map eU),.int v11.1,.int v11.2.1]]⟩),(9,⟨1,v11.2.2.2.2.map (ow eI)⟩)] 10 (.agg [.int v11.2.2.1,.int v11.2.2.2.1,.own 9 0 v11.2.2.2.2.length]) (DP _ _ _ _ _ hv11)) k<|jp h k2 λv12 hv12 h=>ae (Da aH k k k k k k (zU (cA hv12)) k) k<|an<|mV (by kernel_rfl)<|aU ?_;exact tn<|aP (t:=mN [(2,.ptr 0 0 0),(3,.ptr 1 0 0),(4,.ptr 2 0 0),(5,.ptr 3 0 0),(6,.ptr 4 0 0),(7,.int x1.2.2.2)] [(0,⟨6,[gX]⟩),(1,⟨6,[gX]⟩),(2,⟨3,[[.list 1 (a0.map eU),.int v11.1,.int v11.2.1]]⟩),(3,⟨6,[[.int v2.2.2.1,.int v2.2.2.2.1,.list 1 (v2.2.2.2.2.1.map eI),.list 1 (v2.2.2.2.2.2.1.map eI),.list 1 (v2.2.2.2.2.2.2.1.map eI),.list 3 (v2.2.2.2.2.2.2.2.map eM)]]⟩),(4,⟨6,[[.int v7.p,.int v7.q.n,.own 5 0 v7.q.src.length,.own 6 0 v7.q.tgt.length,.own 7 0 v7.dims.length,.own 8 0 x1.2.2.1.length]]⟩),(5,⟨1,v7.q.src.map (ow eI)⟩),(6,⟨1,v7.q.tgt.map (ow eI)⟩),(7,⟨1,v7.dims.map (ow eI)⟩),(8,⟨3,(x1.2.2.1.map (ow eM)).set x1.2.2.2.toNat [.int v11.2.2.1,.int v11.2.2.2.1,.own 9 0 v11.2.2.2.2.length]⟩),(9,⟨1,v11.2.2.2.2.map (ow eI)⟩)] 10 ⟨0,false,none,true⟩) (iU (σ:=sg [(0,0),(1,1),(2,2),(3,3),(4,4),(5,5),(6,6),(7,7),(8,8),(9,9)]) (eB k2) (iQ k<|iQ k<|iQ k<|iQ k<|Gi k<|oH k<|oH k<|oH k<|hX ⟨_,k,k,.inr (vE (σ:=sg [(0,0),(1,1),(2,2),(3,3),(4,4),(5,5),(6,6),(7,7),(8,8),(9,9)]) (m:=10) (e:=eM) (l:=x1.2.2.1) (i:=x1.2.2.2.toNat) (c:=[.int v11.2.2.1,.int v11.2.2.2.1,.own 9 0 v11.2.2.2.2.length]) (d:=[.int v11.2.2.1,.int v11.2.2.2.1,.own 9 0 v11.2.2.2.2.length]) eZ ⟨_,_,k,k,⟨_,_,k,k,⟨_,_,k,⟨k,k,k,k⟩,k⟩⟩⟩)⟩ k<|oH k<|bJ) k)<|cW 3 k<|aT k2<|sp h ⟨_,k,(Ent.trans (show Ent _ (mN [(2,.ptr 0 0 0),(3,.ptr 1 0 0),(4,.ptr 2 0 0),(5,.ptr 3 0 0),(6,.ptr 4 0 0),(7,.int (wr (x1.2.2.2+1)))] [(0,⟨6,[gX]⟩),(1,⟨6,[gX]⟩),(2,⟨3,[[.list 1 (a0.map eU),.int v11.1,.int v11.2.1]]⟩),(3,⟨6,[[.int v2.2.2.1,.int v2.2.2.2.1,.list 1 (v2.2.2.2.2.1.map eI),.list 1 (v2.2.2.2.2.2.1.map eI),.list 1 (v2.2.2.2.2.2.2.1.map eI),.list 3 (v2.2.2.2.2.2.2.2.map eM)]]⟩),(4,⟨6,[[.int v7.p,.int v7.q.n,.own 5 0 v7.q.src.length,.own 6 0 v7.q.tgt.length,.own 7 0 v7.dims.length,.own 8 0 ((x1.2.2.1.set x1.2.2.2.toNat (⟨v11.2.2.1,v11.2.2.2.1,v11.2.2.2.2⟩:Mt)).length)]]⟩),(5,⟨1,v7.q.src.map (ow eI)⟩),(6,⟨1,v7.q.tgt.map (ow eI)⟩),(7,⟨1,v7.dims.map (ow eI)⟩),(8,⟨3,List.map (ow eM) (x1.2.2.1.set x1.2.2.2.toNat (⟨v11.2.2.1,v11.2.2.2.1,v11.2.2.2.2⟩:Mt))⟩)] 10 ⟨0,false,none,true⟩) from (Ent.trans (vW (b:=8) (b':=9) (j:=2) (es':=v11.2.2.2.2.map eI) (by rw[eD];exact jK hv12) k k k k (aV _ _) (cI.frzs _)) (fB (eB k2) (iQ k<|iQ k<|iQ k<|iQ k<|hX ⟨_,k,k,.inr ⟨_,_,k,⟨_,_,k,k,⟨_,_,k,k,⟨_,_,k,⟨k,k,k,k⟩,⟨_,_,k,⟨k,k,k,k⟩,⟨_,_,k,⟨k,k,k,k⟩,⟨_,_,k,⟨k,k,(by simp only[aV,lA,lT,lR,lC,lN]),k⟩,k⟩⟩⟩⟩⟩⟩,k⟩⟩ k<|oH k<|oH k<|oH k<|hX ⟨_,k,k,.inl ⟨DD (⟨v11.2.2.1,v11.2.2.2.1,v11.2.2.2.2⟩:Mt) k,eZ.plainO _⟩⟩ k<|bJ) k4))) jI)⟩
   .intro y13 _ h;exact sQ<|aG dO<|gO 4 k<|an<|mV (by kernel_rfl)<|tn<|bS<|aX<|sp h ⟨mN [(2,.ptr 0 0 0),(3,.ptr 1 0 0)] [(0,⟨6,[[.int v2.2.2.1,.int v2.2.2.2.1,.list 1 (v2.2.2.2.2.1.map eI),.list 1 (v2.2.2.2.2.2.1.map eI),.list 1 (v2.2.2.2.2.2.2.1.map eI),.list 3 (v2.2.2.2.2.2.2.2.map eM)]]⟩),(1,⟨6,[[.int v7.p,.int v7.q.n,.list 1 (v7.q.src.map eI),.list 1 (v7.q.tgt.map eI),.list 1 (v7.dims.map eI),.list 3 (y13.map eM)]]⟩)] 2 ⟨0,false,none,true⟩,(Ent.trans (Ent.trans (Ent.trans (Ent.trans (fS (b:=1) (b':=4) (i:=0) (j:=2) (es':=v7.q.src.map eI) k k k k (mQ cI k k)) (fS (b:=1) (b':=5) (i:=0) (j:=3) (es':=v7.q.tgt.map eI) k k k k (mQ cI k k))) (fS (b:=1) (b':=6) (i:=0) (j:=4) (es':=v7.dims.map eI) k k k k (mQ cI k k))) (fS (b:=1) (b':=7) (i:=0) (j:=5) (es':=y13.map eM) k k k k (mQ eZ k k))) jI),k,⟨_,k,.inr ⟨(by simp),k,k⟩⟩,bJ⟩
  .exact yU 3 k<|aG dO<|gO 2 k<|oB h λv14 hv14 h=>ae (jC [(0,2)] [(2,0),(6,2),(7,3)] [2] [6,7] [(2,⟨3,[[.list 1 (a0.map eU),.int v14.1,.int v14.2.1]]⟩),(6,⟨1,v14.2.2.2.2.2.2.1.map (ow eI)⟩),(7,⟨3,v14.2.2.2.2.2.2.2.map (ow eM)⟩)] 8 (.agg [.int v14.2.2.1,.int v14.2.2.2.1,.list 1 (v14.2.2.2.2.1.map eI),.list 1 (v14.2.2.2.2.2.1.map eI),.own 6 0 v14.2.2.2.2.2.2.1.length,.own 7 0 v14.2.2.2.2.2.2.2.length]) (FL _ _ hv14)) k<|gO 2 k<|an<|mV (by kernel_rfl)<|tn<|bS<|sp h ⟨mN [(2,.ptr 0 0 0),(3,.ptr 1 0 0)] [(0,⟨6,[[.int v2.2.2.1,.int v2.2.2.2.1,.list 1 (v2.2.2.2.2.1.map eI),.list 1 (v2.2.2.2.2.2.1.map eI),.list 1 (v2.2.2.2.2.2.2.1.map eI),.list 3 (v2.2.2.2.2.2.2.2.map eM)]]⟩),(1,⟨6,[[.int v14.2.2.1,.int v14.2.2.2.1,.list 1 (v14.2.2.2.2.1.map eI),.list 1 (v14.2.2.2.2.2.1.map eI),.list 1 (v14.2.2.2.2.2.2.1.map eI),.list 3 (v14.2.2.2.2.2.2.2.map eM)]]⟩)] 2 ⟨0,false,none,true⟩,(Ent.trans (Ent.trans (fS (b:=1) (b':=6) (i:=0) (j:=4) (es':=v14.2.2.2.2.2.2.1.map eI) k k k k (mQ cI k k)) (fS (b:=1) (b':=7) (i:=0) (j:=5) (es':=v14.2.2.2.2.2.2.2.map eM) k k k k (mQ eZ k k))) jI),k,⟨_,k,.inr ⟨(by simp),k,k⟩⟩,bJ⟩
 .exact aE 14 k q4<|zQ 8 k<|tn<|sQ<|aG dO<|gO 2 k<|oB h λv15 hv15 h=>ae (jC [(0,2)] [(2,0),(6,2),(7,3)] [2] [6,7] [(2,⟨3,[[.list 1 (a0.map eU),.int v15.1,.int v15.2.1]]⟩),(6,⟨1,v15.2.2.2.2.2.2.1.map (ow eI)⟩),(7,⟨3,v15.2.2.2.2.2.2.2.map (ow eM)⟩)] 8 (.agg [.int v15.2.2.1,.int v15.2.2.2.1,.list 1 (v15.2.2.2.2.1.map eI),.list 1 (v15.2.2.2.2.2.1.map eI),.own 6 0 v15.2.2.2.2.2.2.1.length,.own 7 0 v15.2.2.2.2.2.2.2.length]) (FL _ _ hv15)) k<|gO 2 k<|an<|mV (by kernel_rfl)<|tn<|bS<|sp h ⟨mN [(2,.ptr 0 0 0),(3,.ptr 1 0 0)] [(0,⟨6,[[.int v2.2.2.1,.int v2.2.2.2.1,.list 1 (v2.2.2.2.2.1.map eI),.list 1 (v2.2.2.2.2.2.1.map eI),.list 1 (v2.2.2.2.2.2.2.1.map eI),.list 3 (v2.2.2.2.2.2.2.2.map eM)]]⟩),(1,⟨6,[[.int v15.2.2.1,.int v15.2.2.2.1,.list 1 (v15.2.2.2.2.1.map eI),.list 1 (v15.2.2.2.2.2.1.map eI),.list 1 (v15.2.2.2.2.2.2.1.map eI),.list 3 (v15.2.2.2.2.2.2.2.map eM)]]⟩)] 2 ⟨0,false,none,true⟩,(Ent.trans (Ent.trans (fS (b:=1) (b':=6) (i:=0) (j:=4) (es':=v15.2.2.2.2.2.2.1.map eI) k k k k (mQ cI k k)) (fS (b:=1) (b':=7) (i:=0) (j:=5) (es':=v15.2.2.2.2.2.2.2.map eM) k k k k (mQ eZ k k))) jI),k,⟨_,k,.inr ⟨(by simp),k,k⟩⟩,bJ⟩
def tB(a0:aA):Option (Int×Int×aA×aA×aA×bK×Int×Int×aA×aA×aA×bK×(List Rp)):=(pX a0).bind λv1=>(Ab (⟨a0,0,v1⟩:Cu)).bind λv2=>(iT v2.2.2.1 (⟨v2.2.2.2.1,v2.2.2.2.2.1,v2.2.2.2.2.2.1⟩:Qv) v2.2.2.2.2.2.2.1).bind λv3=>(dA v2.2.2.1 (⟨v2.2.2.2.1,v2.2.2.2.2.1,v2.2.2.2.2.2.1⟩:Qv)).bind λv4=>(nQ (⟨a0,v2.1,v2.2.1⟩:Cu) 2).bind λv5=>bif v5.2.2 then some (v2.2.2.1,v2.2.2.2.1,v2.2.2.2.2.1,v2.2.2.2.2.2.1,v2.2.2.2.2.2.2.1,v2.2.2.2.2.2.2.2,v3.p,v3.q.n,v3.q.src,v3.q.tgt,v3.dims,v3.maps,v4.1)else some (v3.p,v3.q.n,v3.q.src,v3.q.tgt,v3.dims,v3.maps,v2.2.2.1,v2.2.2.2.1,v2.2.2.2.2.1,v2.2.2.2.2.2.1,v2.2.2.2.2.2.2.1,v2.2.2.2.2.2.2.2,v4.1)
def HT(a0)(r)(h:tB a0=some r):HasE Tryz.prog 17 [.list 1 (a0.map eU)] [] 0 (.tuple [.agg [.int r.1,.int r.2.1,.list 1 (r.2.2.1.map eI),.list 1 (r.2.2.2.1.map eI),.list 1 (r.2.2.2.2.1.map eI),.list 3 (r.2.2.2.2.2.1.map eM)],.agg [.int r.2.2.2.2.2.2.1,.int r.2.2.2.2.2.2.2.1,.list 1 (r.2.2.2.2.2.2.2.2.1.map eI),.list 1 (r.2.2.2.2.2.2.2.2.2.1.map eI),.list 1 (r.2.2.2.2.2.2.2.2.2.2.1.map eI),.list 3 (r.2.2.2.2.2.2.2.2.2.2.2.1.map eM)],.own 2 0 r.2.2.2.2.2.2.2.2.2.2.2.2.length]) [(2,⟨6,r.2.2.2.2.2.2.2.2.2.2.2.2.map (ow eR)⟩)]:=by
 refine fE aH (rvs:=[.cell 2 29,.cell 3 29,.tmp 4]) (ns:=Cx.drop 0) Tryz.func17 k k Tryz.ntmps17 k k<|cW 10 k<|oB h λv1 hv1 h=>ae (jC [] [(2,0)] [] [2] [(2,⟨3,[[.list 1 (a0.map eU),.int 0,.int v1]]⟩)] 3 (.ptr 2 0 0) (zN _ _ hv1)) k<|oI 6 k<|oB h λv2 hv2 h=>ae (jC [(0,2)] [(2,0),(3,2),(4,3)] [2] [3,4] [(2,⟨3,[[.list 1 (a0.map eU),.int v2.1,.int v2.2.1]]⟩),(3,⟨1,v2.2.2.2.2.2.2.1.map (ow eI)⟩),(4,⟨3,v2.2.2.2.2.2.2.2.map (ow eM)⟩)] 5 (.agg [.int v2.2.2.1,.int v2.2.2.2.1,.list 1 (v2.2.2.2.2.1.map eI),.list 1 (v2.2.2.2.2.2.1.map eI),.own 3 0 v2.2.2.2.2.2.2.1.length,.own 4 0 v2.2.2.2.2.2.2.2.length]) (Il _ _ hv2)) k<|dQ 5 k<|aP (fS (b:=5) (b':=3) (i:=0) (j:=4) (es':=v2.2.2.2.2.2.2.1.map eI) k k k k (mQ cI k k))<|aP (fS (b:=5) (b':=4) (i:=0) (j:=5) (es':=v2.2.2.2.2.2.2.2.map eM) k k k k (mQ eZ k k))<|cW 3 k<|fp k8 ?_;exact gO 3 k<|oB h λv3 hv3 h=>ae (cR (AW _ _ _ _ hv3) k3 (fV k (aI (kM k) (fV k aQ)))) k<|oI 10 k<|oB h λv4 hv4 h=>ae (cT CI (nP _ _ _ hv4) k3 (fV k (aI (kM k) aQ))) k<|dQ 7 k<|aP (t:=mN [(2,.ptr 0 0 0),(3,.ptr 1 0 0),(5,.ptr 2 0 0),(6,.ptr 5 0 0),(7,.ptr 10 0 0),(8,.own 11 0 v4.1.length)] [(0,⟨6,[gX]⟩),(1,⟨6,[gX]⟩),(2,⟨3,[[.list 1 (a0.map eU),.int v2.1,.int v2.2.1]]⟩),(5,⟨6,[[.int v2.2.2.1,.int v2.2.2.2.1,.list 1 (v2.2.2.2.2.1.map eI),.list 1 (v2.2.2.2.2.2.1.map eI),.list 1 (v2.2.2.2.2.2.2.1.map eI),.list 3 (v2.2.2.2.2.2.2.2.map eM)]]⟩),(6,⟨1,v3.q.src.map (ow eI)⟩),(7,⟨1,v3.q.tgt.map (ow eI)⟩),(8,⟨1,v3.dims.map (ow eI)⟩),(9,⟨3,v3.maps.map (ow eM)⟩),(10,⟨6,[oRp v3 6 7 8 9]⟩),(11,⟨6,v4.1.map (ow eR)⟩)] 12 ⟨0,false,none,true⟩) jI<|cW 4 k<|oB h λv5 hv5 h=>ae (jU 2 [] (wP _ _ _ hv5)) k<|an<|tn<|cO k h (λ_ h=>sQ<|aG dO<|gO 6 k<|an<|mV (by kernel_rfl)<|tn<|bS<|aX<|sp h ⟨mN [(2,.ptr 0 0 0),(3,.ptr 1 0 0),(4,.own 2 0 v4.1.length)] [(0,⟨6,[[.int v2.2.2.1,.int v2.2.2.2.1,.list 1 (v2.2.2.2.2.1.map eI),.list 1 (v2.2.2.2.2.2.1.map eI),.list 1 (v2.2.2.2.2.2.2.1.map eI),.list 3 (v2.2.2.2.2.2.2.2.map eM)]]⟩),(1,⟨6,[eR v3]⟩),(2,⟨6,v4.1.map (ow eR)⟩)] 3 ⟨0,false,none,true⟩,(Ent.trans (Ent.trans (Ent.trans (Ent.trans (fS (b:=1) (b':=6) (i:=0) (j:=2) (es':=v3.q.src.map eI) k k k k (mQ cI k k)) (fS (b:=1) (b':=7) (i:=0) (j:=3) (es':=v3.q.tgt.map eI) k k k k (mQ cI k k))) (fS (b:=1) (b':=8) (i:=0) (j:=4) (es':=v3.dims.map eI) k k k k (mQ cI k k))) (fS (b:=1) (b':=9) (i:=0) (j:=5) (es':=v3.maps.map eM) k k k k (mQ eZ k k))) (jZ [0,1,11])),k,⟨_,k,.inr ⟨(by simp),k,k⟩⟩,⟨k,bJ⟩⟩) λ_ h=>yU 3 k<|aG dO<|gO 6 k<|an<|mV (by kernel_rfl)<|tn<|bS<|sp h ⟨mN [(2,.ptr 0 0 0),(3,.ptr 1 0 0),(4,.own 2 0 v4.1.length)] [(0,⟨6,[eR v3]⟩),(1,⟨6,[[.int v2.2.2.1,.int v2.2.2.2.1,.list 1 (v2.2.2.2.2.1.map eI),.list 1 (v2.2.2.2.2.2.1.map eI),.list 1 (v2.2.2.2.2.2.2.1.map eI),.list 3 (v2.2.2.2.2.2.2.2.map eM)]]⟩),(2,⟨6,v4.1.map (ow eR)⟩)] 3 ⟨0,false,none,true⟩,(Ent.trans (Ent.trans (Ent.trans (Ent.trans (fS (b:=0) (b':=6) (i:=0) (j:=2) (es':=v3.q.src.map eI) k k k k (mQ cI k k)) (fS (b:=0) (b':=7) (i:=0) (j:=3) (es':=v3.q.tgt.map eI) k k k k (mQ cI k k))) (fS (b:=0) (b':=8) (i:=0) (j:=4) (es':=v3.dims.map eI) k k k k (mQ cI k k))) (fS (b:=0) (b':=9) (i:=0) (j:=5) (es':=v3.maps.map eM) k k k k (mQ eZ k k))) (jZ [0,1,11])),k,⟨_,k,.inr ⟨(by simp),k,k⟩⟩,⟨k,bJ⟩⟩
def kG(a0:aA):Option (Int×Int×aA×aA):=(pX a0).bind λv1=>(mD (⟨a0,0,v1⟩:Cu)).bind λv2=>(pA (⟨a0,v2.1,v2.2.1⟩:Cu)).bind λv3=>some (v2.2.2,v3.2.2.1,v3.2.2.2.1,v3.2.2.2.2)
def DQ(a0)(r)(h:kG a0=some r):HasE Tryz.prog 24 [.list 1 (a0.map eU)] [] 0 (.tuple [.int r.1,.agg [.int r.2.1,.own 1 0 r.2.2.1.length,.own 2 0 r.2.2.2.length]]) [(1,⟨1,r.2.2.1.map (ow eI)⟩),(2,⟨1,r.2.2.2.map (ow eI)⟩)]:=by
 refine fE aH (rvs:=[.tmp 2,.cell 3 26]) (ns:=Cx.drop 0) Tryz.func24 k k Tryz.ntmps24 k k<|cW 9 k<|oB h λv1 hv1 h=>ae (jC [] [(1,0)] [] [1] [(1,⟨3,[[.list 1 (a0.map eU),.int 0,.int v1]]⟩)] 2 (.ptr 1 0 0) (zN _ _ hv1)) k<|oI 6 k<|oB h λv2 hv2 h=>ae (jU 1 [] (CF _ _ hv2)) k<|oI 7 k<|oB h λv3 hv3 h=>ae (jC [(0,1)] [(1,0),(2,2),(3,3)] [1] [2,3] [(1,⟨3,[[.list 1 (a0.map eU),.int v3.1,.int v3.2.1]]⟩),(2,⟨1,v3.2.2.2.1.map (ow eI)⟩),(3,⟨1,v3.2.2.2.2.map (ow eI)⟩)] 4 (.agg [.int v3.2.2.1,.own 2 0 v3.2.2.2.1.length,.own 3 0 v3.2.2.2.2.length]) (Aw _ _ hv3)) k<|JB 3 k<|tn ?_;exact bS<|sp h ⟨mN [(2,.int v2.2.2),(3,.ptr 0 0 0)] [(0,⟨3,[[.int v3.2.2.1,.own 1 0 v3.2.2.2.1.length,.own 2 0 v3.2.2.2.2.length]]⟩),(1,⟨1,v3.2.2.2.1.map (ow eI)⟩),(2,⟨1,v3.2.2.2.2.map (ow eI)⟩)] 3 ⟨0,false,none,true⟩,(jZ [0,2,3]),k,⟨_,k,.inr ⟨(by simp),k,k⟩⟩,⟨k,k,bJ⟩⟩
def iY(a0:aA):Option (aA×Int×Int×aA×aA):=(pX a0).bind λv1=>(mD (⟨a0,0,v1⟩:Cu)).bind λv2=>(pA (⟨a0,v2.1,v2.2.1⟩:Cu)).bind λv3=>(uX (⟨a0,v3.1,v3.2.1⟩:Cu)).bind λv4=>(vB (⟨a0,v4.1,v4.2.1⟩:Cu) v4.2.2 (⟨v3.2.2.1,v3.2.2.2.1,v3.2.2.2.2⟩:Qv) 2).bind λv5=>(cJ (⟨v5.2.2.1,(⟨v5.2.2.2.1,v5.2.2.2.2.1,v5.2.2.2.2.2.1⟩:Qv),v5.2.2.2.2.2.2.1,v5.2.2.2.2.2.2.2⟩:Rp)).bind λv6=>bif v6.2 then(bif decide (0<((v6.1.length:Nat):Int))then((nQ (⟨a0,v5.1,v5.2.1⟩:Cu) 8).bind λv9=>bif v9.2.2 then((gN (⟨a0,v9.1,v9.2.1⟩:Cu) [(-1),9,1]).bind λv11=>(bY v6.1 0).bind λv12=>some ((v6.1.set ((0:Int).toNat) v11.2.2),v2.2.2,v3.2.2.1,v3.2.2.2.1,v3.2.2.2.2))else(some (v6.1,v2.2.2,v3.2.2.1,v3.2.2.2.1,v3.2.2.2.2)))else(some (v6.1,v2.2.2,v3.2.2.1,v3.2.2.2.1,v3.2.2.2.2)))else some (v6.1,v2.2.2,v3.2.2.1,v3.2.2.2.1,v3.2.2.2.2)
def Cj(a0)(r)(h:iY a0=some r):HasE Tryz.prog 27 [.list 1 (a0.map eU)] [] 0 (.tuple [.int r.2.1,.agg [.int r.2.2.1,.list 1 (r.2.2.2.1.map eI),.list 1 (r.2.2.2.2.map eI)],.own 1 0 r.1.length]) [(1,⟨1,r.1.map (ow eI)⟩)]:=by
 refine fE aH (rvs:=[.tmp 2,.cell 3 26,.tmp 4]) (ns:=Cx.drop 0) Tryz.func27 k k Tryz.ntmps27 k k<|cW 10 k<|oB h λv1 hv1 h=>ae (jC [] [(1,0)] [] [1] [(1,⟨3,[[.list 1 (a0.map eU),.int 0,.int v1]]⟩)] 2 (.ptr 1 0 0) (zN _ _ hv1)) k<|oI 6 k<|oB h λv2 hv2 h=>ae (jU 1 [] (CF _ _ hv2)) k<|oI 6 k<|oB h λv3 hv3 h=>ae (jC [(0,1)] [(1,0),(2,2),(3,3)] [1] [2,3] [(1,⟨3,[[.list 1 (a0.map eU),.int v3.1,.int v3.2.1]]⟩),(2,⟨1,v3.2.2.2.1.map (ow eI)⟩),(3,⟨1,v3.2.2.2.2.map (ow eI)⟩)] 4 (.agg [.int v3.2.2.1,.own 2 0 v3.2.2.2.1.length,.own 3 0 v3.2.2.2.2.length]) (Aw _ _ hv3)) k<|JB 3 k<|tn ?_;refine sQ<|aP (fS (b:=4) (b':=2) (i:=0) (j:=1) (es':=v3.2.2.2.1.map eI) k k k k (mQ cI k k))<|aP (fS (b:=4) (b':=3) (i:=0) (j:=2) (es':=v3.2.2.2.2.map eI) k k k k (mQ cI k k))<|aG dO<|gO 2 k<|oB h λv4 hv4 h=>ae (jU 1 [] (EZ _ _ hv4)) k<|lp k8<|oB h λv5 hv5 h=>ae (jC [(0,1)] [(1,0),(5,2),(6,3)] [1] [5,6] [(1,⟨3,[[.list 1 (a0.map eU),.int v5.1,.int v5.2.1]]⟩),(5,⟨1,v5.2.2.2.2.2.2.1.map (ow eI)⟩),(6,⟨3,v5.2.2.2.2.2.2.2.map (ow eM)⟩)] 7 (.agg [.int v5.2.2.1,.int v5.2.2.2.1,.list 1 (v5.2.2.2.2.1.map eI),.list 1 (v5.2.2.2.2.2.1.map eI),.own 5 0 v5.2.2.2.2.2.2.1.length,.own 6 0 v5.2.2.2.2.2.2.2.length]) (Eu _ _ _ _ _ hv5)) k<|oB h λv6 hv6 h=>ae (cT cI (BY _ _ hv6) k3 (aI (El (eX (iC k) (eX (iC k) (eX (iC k) (eX (iC k) (eX (mQ cI k k) (eX (mQ eZ k k) ED))))))) aQ)) k<|gO 5 k<|an<|mV (by kernel_rfl)<|tn<|aP (t:=mN [(3,.ptr 0 0 0),(5,.ptr 1 0 0),(6,.int v2.2.2),(7,.ptr 4 0 0),(8,.own 7 0 v6.1.length),(9,.bl v6.2)] [(0,⟨3,[[.int 0,.nil 1,.nil 1]]⟩),(1,⟨3,[[.list 1 (a0.map eU),.int v5.1,.int v5.2.1]]⟩),(4,⟨3,[[.int v3.2.2.1,.list 1 (v3.2.2.2.1.map eI),.list 1 (v3.2.2.2.2.map eI)]]⟩),(7,⟨1,v6.1.map (ow eI)⟩)] 8 ⟨0,false,none,true⟩) jI<|cW 5 k<|jJ h (λq7 h=>?_) λq7 h=>aE 26 k q7<|zQ 12 k<|tn<|sQ<|aG dO<|gO 6 k<|an<|mV (by kernel_rfl)<|tn<|bS<|sp h ⟨mN [(2,.int v2.2.2),(3,.ptr 0 0 0),(4,.own 1 0 v6.1.length)] [(0,⟨3,[[.int v3.2.2.1,.list 1 (v3.2.2.2.1.map eI),.list 1 (v3.2.2.2.2.map eI)]]⟩),(1,⟨1,v6.1.map (ow eI)⟩)] 2 ⟨0,false,none,true⟩,(jZ [0,7]),k,⟨_,k,.inr ⟨(by simp),k,k⟩⟩,⟨k,bJ⟩⟩;refine aE 26 k q7<|am k k<|jn k5<|gO 3 k<|jJ h (λq8 h=>?_) λq8 h=>aE 31 k q8<|zQ 7 k<|tn<|sQ<|aG dO<|gO 6 k<|an<|mV (by kernel_rfl)<|tn<|bS<|sp h ⟨mN [(2,.int v2.2.2),(3,.ptr 0 0 0),(4,.own 1 0 v6.1.length)] [(0,⟨3,[[.int v3.2.2.1,.list 1 (v3.2.2.2.1.map eI),.list 1 (v3.2.2.2.2.map eI)]]⟩),(1,⟨1,v6.1.map (ow eI)⟩)] 2 ⟨0,false,none,true⟩,(jZ [0,7]),k,⟨_,k,.inr ⟨(by simp),k,k⟩⟩,⟨k,bJ⟩⟩;exact aE 31 k q8<|am k k<|oB h λv9 hv9 h=>ae (jU 1 [] (wP _ _ _ hv9)) k<|dQ 3 k<|cO k h (λ_ h=>cW 3 k<|ae (wl k) k<|oB h λv11 hv11 h=>ae (jU 1 [8] (kV _ _ _ hv11)) k<|jp h k2 λv12 hv12 h=>ae (dE aH gT (u:=v11.2.2) (cA hv12) k k k k k k) k<|dQ 3 k<|aG dO<|gO 6 k<|an<|mV (by kernel_rfl)<|tn<|bS<|sp h ⟨mN [(2,.int v2.2.2),(3,.ptr 0 0 0),(4,.own 1 0 ((v6.1.set ((0:Int).toNat) v11.2.2).length))] [(0,⟨3,[[.int v3.2.2.1,.list 1 (v3.2.2.2.1.map eI),.list 1 (v3.2.2.2.2.map eI)]]⟩),(1,⟨1,List.map (ow eI) (v6.1.set ((0:Int).toNat) v11.2.2)⟩)] 2 ⟨0,false,none,true⟩,(jZ [0,7]),k,⟨_,k,.inr ⟨(by simp),k,k⟩⟩,⟨k,bJ⟩⟩) λ_ h=>yU 3 k<|aG dO<|gO 6 k<|an<|mV (by kernel_rfl)<|tn<|bS<|sp h ⟨mN [(2,.int v2.2.2),(3,.ptr 0 0 0),(4,.own 1 0 v6.1.length)] [(0,⟨3,[[.int v3.2.2.1,.list 1 (v3.2.2.2.1.map eI),.list 1 (v3.2.2.2.2.map eI)]]⟩),(1,⟨1,v6.1.map (ow eI)⟩)] 2 ⟨0,false,none,true⟩,(jZ [0,7]),k,⟨_,k,.inr ⟨(by simp),k,k⟩⟩,⟨k,bJ⟩⟩
set_option synthInstance.maxSize 100000
set_option synthInstance.maxHeartbeats 400000
noncomputable section
instance {x1}:Tw (AG x1):=by delta AG;infer_instance
instance {a0}:Tw (qM a0):=by delta qM;infer_instance
instance {a0 x1}:Tw (vS a0 x1):=by delta vS;infer_instance
instance {a0}:Tw (uB a0):=by delta uB;infer_instance
instance {a0 a1 x1}:Tw (DO a0 a1 x1):=by delta DO;infer_instance
instance {a0 a1}:Tw (Dr a0 a1):=by delta Dr;infer_instance
instance {v1 x1}:Tw (wY v1 x1):=by delta wY;infer_instance
instance {a0}:Tw (cX a0):=by delta cX;infer_instance
instance {a0}:Tw (fJ a0):=by delta fJ;infer_instance
end
end
section
def Za(x):0<=IJ x 255/\IJ x 255<256:=by
 have h:IJ x 255=x%256:=by
  have hm:(BitVec.ofInt 64 255).toNat=2 ^ 8-1:=by decide
  have key:(BitVec.ofInt 64 x&&& BitVec.ofInt 64 255).toNat=(x%((2 ^ 64:Nat):Int)).toNat % 2 ^ 8:=by
   rw[BitVec.toNat_and,BitVec.toNat_ofInt,hm,Nat.and_two_pow_sub_one_eq_mod]
  show IntKind.i64.wrap ((BitVec.ofInt 64 x&&& BitVec.ofInt 64 255).toNat:Nat)=x%256;rw[key,IntKind.wrap_i64];omega
 rw[h];omega
def Fv(b:aA)(i:Int):Prop:=0<=i/\i<=b.length
section
variable {b:aA}{i:Int}(hb:b.length<=1048576)(hi:Fv b i)(h:Int)
include hb hi
def aEJ:∃i' x,qD ⟨b,i,h⟩=some (i',x)/\Fv b i'/\0<=x/\x<256:=by
 unfold qD;simp only;unfold Fv at hi;by_cases c:i<b.length
 .rw[bF c,aJ,QW 0 hi.1 c,aC,dS (x:=i+1) (by omega)];exact⟨_,_,rfl,⟨by omega,by omega⟩,Za _⟩
 .rw[fC c,aW];exact⟨_,_,rfl,hi,Za _⟩
def AI{n:Int}(hn:n<=256):∃i' h' x,dI ⟨b,i,h⟩ n=some (i',h',x)/\Fv b i'/\0<=x/\(0<n->x<n)/\(n<=0->x=0):=by
 unfold dI;simp only;by_cases c:n<=0
 .rw[bF c,aJ];exact⟨_,_,_,rfl,hi,Int.le_refl 0,λh=>by omega,λ_=>rfl⟩
 .obtain⟨i',x,e,hi',hx0,hx⟩:=aEJ hb hi h;rw[fC c,aW,bF hn,aJ,e,aC,fC (by omega:¬ n=0),Bool.not_false,aJ];refine⟨_,_,_,rfl,hi',?_,λ_=>?_,λh=>by omega⟩
  .simp only;rw[Int.tmod_eq_emod_of_nonneg hx0];exact Int.emod_nonneg _ (by omega)
  .simp only;rw[Int.tmod_eq_emod_of_nonneg hx0];exact Int.emod_lt_of_pos _ (by omega)
def OD{n:Int}(hn:n<=256):∃i' h' t,nQ ⟨b,i,h⟩ n=some (i',h',t)/\Fv b i':=by
 unfold nQ;obtain⟨i',h',x,e,hi',_⟩:=AI hb hi h hn;rw[e,aC];exact⟨_,_,_,rfl,hi'⟩
def Ac{l:aA}(hl1:0<l.length)(hl:l.length<=256):∃i' h' x,gN ⟨b,i,h⟩ l=some (i',h',x)/\Fv b i'/\x∈l:=by
 unfold gN;obtain⟨i',h',x,e,hi',h0,h1,_⟩:=AI hb hi h (n:=(l.length:Int)) (by omega);rw[e,aC];simp only;have h1:=h1 (by omega);rw[QW 0 h0 h1,aC];exact⟨_,_,_,rfl,hi',iR 0 (by omega)⟩
def Zb{l:List ByteArray}(hl1:0<l.length)(hl:l.length<=256):∃i' h' x,wQ ⟨b,i,h⟩ l=some (i',h',x)/\Fv b i'/\x∈l:=by
 unfold wQ;obtain⟨i',h',x,e,hi',h0,h1,_⟩:=AI hb hi h (n:=(l.length:Int)) (by omega);rw[e,aC];simp only;have h1:=h1 (by omega);rw[QW (⟨#[]⟩:ByteArray) h0 h1,aC];exact⟨_,_,_,rfl,hi',iR (⟨#[]⟩:ByteArray) (by omega)⟩
end
def XY(c)(hc:c.length<=1048576):∃h,pX c=some h:=by
 unfold pX
 have key:∀d k:Nat,k+d=min c.length 4000->∀h:Int,∃r,Lp (wG c) (h,(k:Int))=some r:=by
  intro d;induction d with
  |zero=>
   intro k hk h;refine⟨h,oG ?_⟩;unfold wG;simp only;by_cases h1:k<c.length
   .rw[bF (by omega),aJ,fC (by omega),aW]
   .rw[fC (by omega),aW]
  |succ d ih=>
   intro k hk h;have hk1:k<c.length:=by omega
   have hs:∃h',wG c (h,(k:Int))=some (.inl (h',((k+1:Nat):Int))):=by
    unfold wG;simp only;rw[oD hk1,aJ,bF (by omega),aJ,yN 0 hk1,aC,cD hk1 (by omega)];exact⟨_,rfl⟩
   obtain⟨h',e⟩:=hs;rw[Bg e];exact ih (k+1) (by omega) h'
 obtain⟨r,e⟩:=key (min c.length 4000) 0 (by omega) (wr (10101+(c.length:Int)));rw[show((0:Nat):Int)=0 from rfl]at e;rw[e,aC];exact⟨_,rfl⟩
def c0(c):Fv c 0:=⟨Int.le_refl 0,by omega⟩
def nmL:List ByteArray:=[⟨#[65,49]⟩,⟨#[65,50]⟩,⟨#[65,51]⟩,⟨#[65,51,105,110]⟩,⟨#[65,52]⟩,⟨#[68,52]⟩,⟨#[68,53]⟩,⟨#[75,50]⟩,⟨#[115,116,97,114,52]⟩,⟨#[115,113,117,97,114,101]⟩,⟨#[108,111,111,112]⟩,⟨#[99,105,114,99,108,101]⟩]
def nmQ:List Qv:=[⟨1,[],[]⟩,⟨2,[0],[1]⟩,⟨3,[0,1],[1,2]⟩,⟨3,[0,2],[1,1]⟩,⟨4,[0,1,2],[1,2,3]⟩,⟨4,[0,1,2],[3,3,3]⟩,⟨5,[0,1,2,3],[2,2,3,4]⟩,⟨2,[0,0],[1,1]⟩,⟨5,[0,1,2,3],[4,4,4,4]⟩,⟨4,[0,0,1,2],[1,2,3,3]⟩,⟨1,[0],[0]⟩,⟨3,[0,1,2],[1,2,0]⟩]
def XZ:∀k:Fin 12,(tw (fJ (nmL[k.val]?.getD ⟨#[]⟩))==some (nmQ[k.val]?.getD ⟨0,[],[]⟩,true))=true:=by decide+kernel
def HU{k}(hk:k<12):fJ (nmL[k]?.getD (⟨#[]⟩:ByteArray))=some (nmQ[k]?.getD ⟨0,[],[]⟩,true):=DS (eq_of_beq (XZ ⟨k,hk⟩))
def Pm{s}(h:s∈nmL):∃q,q∈nmQ/\fJ s=some (q,true):=by
 obtain⟨k,hk,rfl⟩:=List.getElem_of_mem h;have hk':k<12:=hk;refine⟨nmQ[k]?.getD ⟨0,[],[]⟩,iR _ hk',?_⟩;have:=HU hk'
 rwa [iL hk,iN]at this
def aCw:EY=some nmL:=rfl
def Up(n:Nat)(s t:aA):Prop:=s.length=t.length/\s.length<=4/\∀k,k<s.length->0<=s[k]?.getD 0/\s[k]?.getD 0<t[k]?.getD 0/\t[k]?.getD 0<n
def Up.nil(n):Up n [] []:=⟨rfl,by simp,λk hk=>absurd hk (Nat.not_lt_zero _)⟩
def Up.snoc{s t}(h:Up n s t)(hl:s.length<4){x y:Int}(h1:0<=x)(h2:x<y)(h3:y<n):Up n (s++[x]) (t++[y]):=by
 obtain⟨e,_,hk⟩:=h;refine⟨by simp[e],by simp;omega,λk hk'=>?_⟩;rcases eG k s.length with c|c
 .rw[List.getElem?_append_left c,List.getElem?_append_left (by omega)];exact hk k c
 .simp only[List.length_append,List.length_cons,List.length_nil]at hk';have:k=s.length:=by omega
  subst this;rw[List.getElem?_append_right (bG _),Nat.sub_self,e,List.getElem?_append_right (bG _),Nat.sub_self];exact⟨h1,h2,h3⟩
section
variable {b:aA}{i:Int}(hb:b.length<=1048576)(hi:Fv b i)(h:Int)
include hb hi
def Zc:∃(i' h':Int)(q:Qv),zO ⟨b,i,h⟩=some (i',h',q.n,q.src,q.tgt)/\Fv b i'/\(q∈nmQ.take 10∨∃n:Nat,1<=n/\n<=4/\q.n=n/\Up n q.src q.tgt):=by
 unfold zO;obtain⟨i1,h1,t1,e1,k1⟩:=OD hb hi h (n:=2) (by omega);rw[e1,aC];cases t1 with
 |true=>
  simp only[aJ];obtain⟨i2,h2,x,e2,k2,x0,x1,_⟩:=AI hb k1 h1 (n:=10) (by omega);have x1:=x1 (by omega);rw[aCw,aC,e2,aC];simp only;have hx:x.toNat<10:=by omega
  rw[QW (⟨#[]⟩:ByteArray) x0 (by have:nmL.length=12:=rfl;omega),aC,HU (by omega),aC];refine⟨_,_,_,rfl,k2,.inl ?_⟩;rw[←List.getElem?_take_of_lt hx];exact iR _ hx
 |false=>
  simp only[aW];obtain⟨i2,h2,x,e2,k2,x0,x1,_⟩:=AI hb k1 h1 (n:=4) (by omega);have x1:=x1 (by omega);rw[e2,aC];obtain⟨i3,h3,y,e3,k3,y0,y1,_⟩:=AI hb k2 h2 (n:=5) (by omega);have y1:=y1 (by omega);rw[e3,aC];obtain⟨n,hn⟩:∃n:Nat,1+x=n:=⟨(1+x).toNat,by omega⟩;have hw:wr (1+x)=n:=by rw[dS (by omega)];exact hn
  have hloop:∃r,Lp (AH ⟨b,i,h⟩ (i2,h2,x)) (i3,h3,([]:aA),([]:aA),y)=some r/\(Fv b r.1/\Up n r.2.2.1 r.2.2.2):=by
   refine Db (λs:Int×Int×aA×aA×Int=>Fv b s.1/\Up n s.2.2.1 s.2.2.2.1/\0<=s.2.2.2.2/\s.2.2.1.length+s.2.2.2.2<=4) (λs=>s.2.2.2.2.toNat) (λr:Int×Int×aA×aA=>Fv b r.1/\Up n r.2.2.1 r.2.2.2) ⟨k3,Up.nil n,y0,by simp;omega⟩ ?_;rintro⟨i4,h4,s,t,z⟩ ⟨k4,hU,z0,z1⟩;simp only at k4 hU z0 z1;unfold AH;simp only;rw[hw];by_cases c:0<z
   .rw[bF c,aJ];by_cases c2:1<(n:Int)
    .rw[bF c2,aJ,dS (x:=(n:Int)-1) (by omega)];obtain⟨i5,h5,v,e5,k5,v0,v1,_⟩:=AI hb k4 h4 (n:=(n:Int)-1) (by omega);have v1:=v1 (by omega);rw[e5,aC];simp only;have hsl:=hU.1;rw[bF (by simp;omega),aJ,dS (x:=(n:Int)-1-v) (by omega)];obtain⟨i6,h6,u,e6,k6,u0,u1,_⟩:=AI hb k5 h5 (n:=(n:Int)-1-v) (by omega);have u1:=u1 (by omega);rw[e6,aC];simp only;rw[bF (by simp;omega),aJ,dS (x:=v+1) (by omega),dS (x:=v+1+u) (by omega),dS (x:=z-1) (by omega)];exact .inl ⟨_,rfl,⟨k6,hU.snoc (by omega) v0 (by omega) (by omega),by simp only;omega,by simp;omega⟩,by simp only;omega⟩
    .rw[fC c2,aW];exact .inr ⟨_,rfl,k4,hU⟩
   .rw[fC c,aW];exact .inr ⟨_,rfl,k4,hU⟩
  obtain⟨⟨i7,h7,s,t⟩,e7,k7,hU⟩:=hloop;rw[e7,aC];simp only;rw[hw];exact⟨_,_,⟨(n:Int),s,t⟩,rfl,k7,.inr ⟨n,by omega,by omega,rfl,hU⟩⟩
def aFD:∃(i' h':Int)(q:Qv),Du ⟨b,i,h⟩=some (i',h',q.n,q.src,q.tgt)/\Fv b i'/\q.src.length<=5/\q.tgt.length<=5:=by
 unfold Du;obtain⟨i1,h1,q,e1,k1,hq⟩:=Zc hb hi h;rw[e1,aC];obtain⟨i2,h2,x,e2,k2,x0,x1,_⟩:=AI hb k1 h1 (n:=14) (by omega);simp only;rw[e2,aC];simp only;have hsm:∀q∈nmQ,q.src.length<=4/\q.tgt.length<=4:=by decide
 have hlen:q.src.length<=4/\q.tgt.length<=4:=by
  rcases hq with hq|⟨n,_,_,_,hU⟩
  .exact hsm q (List.mem_of_mem_take hq)
  .exact⟨hU.2.1,by rw[←hU.1];exact hU.2.1⟩
 by_cases c:x=0
 .rw[bF c,aJ];obtain⟨i3,h3,s,e3,k3,hs⟩:=Zb hb k2 h2 (l:=[(⟨#[108,111,111,112]⟩:ByteArray),(⟨#[99,105,114,99,108,101]⟩:ByteArray)]) (by simp) (by simp);rw[e3,aC];simp only;obtain⟨q',hq',e4⟩:=Pm (s:=s) (by simp only[dR,List.not_mem_nil,or_false]at hs;rcases hs with rfl|rfl<;>simp[nmL]);rw[e4,aC];have:=hsm q' hq';exact⟨_,_,q',rfl,k3,by omega,by omega⟩
 .rw[fC c,aW];by_cases c2:x=1
  .rw[bF c2,aJ];obtain⟨i3,h3,z,e3,k3,hz⟩:=Ac hb k2 h2 (l:=[0,6,(-1),2]) (by simp) (by simp);rw[e3,aC];exact⟨_,_,⟨z,q.src,q.tgt⟩,rfl,k3,by simp only;omega,by simp only;omega⟩
  .rw[fC c2,aW];by_cases c3:x=2
   .rw[bF c3,aJ];obtain⟨i3,h3,z,e3,k3,_⟩:=AI hb k2 h2 (n:=6) (by omega);rw[e3,aC];simp only;rw[bF (by simp;omega),aJ];exact⟨_,_,⟨q.n,q.src++[_],q.tgt⟩,rfl,k3,by simp;omega,by simp only;omega⟩
   .rw[fC c3,aW];exact⟨_,_,q,rfl,k2,by omega,by omega⟩
end
def aBh{b i}(hb:b.length<=1048576)(hi:Fv b i)(h)(q){most}(h0:0<=most)(hm:most<=255):∃(i' h':Int)(d:aA),Aa ⟨b,i,h⟩ q most=some (i',h',d)/\Fv b i'/\(d.length:Int)=max 0 (min q.n 5)/\∀x∈d,0<=x/\x<=most:=by
 have hl:∃r,Lp (Ci ⟨b,i,h⟩ q most) (i,h,([]:aA),8,0)=some r/\(Fv b r.1/\(r.2.2.length:Int)=max 0 (min q.n 5)/\∀x∈r.2.2,0<=x/\x<=most):=by
  refine Db (λs:Int×Int×aA×Int×Int=>Fv b s.1/\(s.2.2.1.length:Int)=s.2.2.2.2/\(∀x∈s.2.2.1,0<=x/\x<=most)/\0<=s.2.2.2.1/\s.2.2.2.1<=8/\s.2.2.2.2<=5/\s.2.2.2.2<=max 0 q.n) (λs=>(5-s.2.2.2.2).toNat) (λr:Int×Int×aA=>Fv b r.1/\(r.2.2.length:Int)=max 0 (min q.n 5)/\∀x∈r.2.2,0<=x/\x<=most) ⟨hi,rfl,λx hx=>(by cases hx),(by decide:(0:Int)<=8),(by decide:(8:Int)<=8),(by decide:(0:Int)<=5),(by omega:(0:Int)<=max 0 q.n)⟩ ?_;rintro⟨i1,h1,d,left,v⟩ ⟨k1,e1,k2,k3,k4,k5,k6⟩;simp only at k1 e1 k2 k3 k4 k5 k6;unfold Ci;simp only;by_cases c:v<q.n
  .rw[bF c,aJ];by_cases c2:v<5
   .rw[bF c2,aJ,dS (x:=most+1) (by omega)];obtain⟨i2,h2,x,e2,kk,x0,x1,_⟩:=AI hb k1 h1 (n:=most+1) (by omega);have x1:=x1 (by omega);rw[e2,aC];simp only;have hmin:min left x<=left:=Int.min_le_left _ _;have hmin2:min left x<=x:=Int.min_le_right _ _;have hmin3:0<=min left x:=by omega
    rw[bF (by simp;omega),aJ,dS (x:=left-min left x) (by omega),dS (x:=v+1) (by omega)];refine .inl ⟨_,rfl,⟨kk,by simp;omega,λy hy=>?_,by simp only;omega,by simp only;omega,by simp only;omega,by simp only;omega⟩,by simp only;omega⟩;rcases eY.1 hy with hy|hy
    .exact k2 y hy
    .simp only[dR,List.not_mem_nil,or_false]at hy;subst hy;omega
   .rw[fC c2,aW];exact .inr ⟨_,rfl,k1,by simp only;omega,k2⟩
  .rw[fC c,aW];exact .inr ⟨_,rfl,k1,by simp only;omega,k2⟩
 obtain⟨⟨i1,h1,d⟩,e,k1,k2,k3⟩:=hl;unfold Aa;simp only;rw[e,aC];exact⟨_,_,_,rfl,k1,k2,k3⟩
section
variable {b:aA}{i:Int}(hb:b.length<=1048576)(hi:Fv b i)(h:Int)
include hb hi
def OE:∃(i' h' p:Int),uX ⟨b,i,h⟩=some (i',h',p)/\Fv b i'/\(p=2∨p=3):=by
 unfold uX;obtain⟨i1,h1,p,e,k1,hp⟩:=Ac hb hi h (l:=[2,3,2]) (by simp) (by simp);rw[e,aC];refine⟨_,_,_,rfl,k1,?_⟩;simp only[dR,List.not_mem_nil,or_false]at hp;simp only;omega
def aAw:∃(i' h' p:Int),mD ⟨b,i,h⟩=some (i',h',p)/\Fv b i':=by
 unfold mD;obtain⟨i1,h1,t,e1,k1⟩:=OD hb hi h (n:=16) (by omega);rw[e1,aC];cases t with
 |true=>
  simp only[aJ];obtain⟨i2,h2,p,e,k2,_⟩:=Ac hb k1 h1 (l:=[(-1),0,1,4,7]) (by simp) (by simp);rw[e,aC];exact⟨_,_,_,rfl,k2⟩
 |false=>
  simp only[aW];obtain⟨i2,h2,p,e,k2,_⟩:=Ac hb k1 h1 (l:=[2,3,5,2,3]) (by simp) (by simp);rw[e,aC];exact⟨_,_,_,rfl,k2⟩
def RE(p:Int){r c:Nat}(hN:r*c<=1000):∃(i' h':Int)(l:aA),rT ⟨b,i,h⟩ p r c=some (i',h',(r:Int),(c:Int),l)/\Fv b i'/\l.length=r*c:=by
 unfold rT;rw[Fn (by omega),aC];simp only
 have hl:∃z,Lp (BS ⟨b,i,h⟩ p) (i,h,bT r c (λ_ _=>0),0)=some z/\(Fv b z.1/\z.2.2.length=r*c):=by
  refine Db (λs:Int×Int×aA×Int=>Fv b s.1/\s.2.2.1.length=r*c/\0<=s.2.2.2/\s.2.2.2<=(r*c:Nat)) (λs=>(((r*c:Nat):Int)-s.2.2.2).toNat) (λr':Int×Int×aA=>Fv b r'.1/\r'.2.2.length=r*c) ⟨hi,(fT r c λ_ _=>0:(bT r c λ_ _=>0).length=r*c),Int.le_refl 0,(by omega:(0:Int)<=(r*c:Nat))⟩ ?_;rintro⟨i1,h1,d,v⟩ ⟨k1,e1,k2,k3⟩;simp only at k1 e1 k2 k3;unfold BS;simp only;rw[e1];by_cases c':v<(r*c:Nat)
  .obtain⟨i2,h2,x,e2,kk,_⟩:=AI hb k1 h1 (n:=max 1 (min 5 p)) (by omega);rw[bF c',aJ,e2,aC,QW 0 k2 (by omega),aC,dS (x:=v+1) (by omega)];exact .inl ⟨_,rfl,⟨kk,by simp only;rw[List.length_set];exact e1,by simp only;omega,by simp only;omega⟩,by simp only;omega⟩
  .rw[fC c',aW];exact .inr ⟨_,rfl,k1,e1⟩
 obtain⟨⟨i1,h1,d⟩,e,k1,k2⟩:=hl;rw[e,aC];exact⟨_,_,_,rfl,k1,k2⟩
def aEK(p:Int):∃(i' h' rows cols:Int)(l:aA),Dt ⟨b,i,h⟩ p=some (i',h',rows,l,cols)/\Fv b i'/\l.length<=100:=by
 unfold Dt;obtain⟨i1,h1,x,e1,k1,x0,x1,_⟩:=AI hb hi h (n:=4) (by omega);have x1:=x1 (by omega);obtain⟨i2,h2,y,e2,k2,y0,y1,_⟩:=AI hb k1 h1 (n:=4) (by omega);have y1:=y1 (by omega);obtain⟨r,rfl⟩:∃r:Nat,x=r:=⟨x.toNat,by omega⟩;obtain⟨c,rfl⟩:∃c:Nat,y=c:=⟨y.toNat,by omega⟩;have hN:=Nat.mul_le_mul (show r<=4 by omega) (show c<=4 by omega);obtain⟨i3,h3,l,e3,k3,hl⟩:=RE hb k2 h2 p (r:=r) (c:=c) (by omega);obtain⟨i4,h4,z,e4,k4,_⟩:=AI hb k3 h3 (n:=18) (by omega);rw[e1,aC];simp only;rw[e2,aC];simp only;rw[e3,aC];simp only;rw[e4,aC];simp only;by_cases c1:z=0
 .rw[bF c1,aJ];obtain⟨i5,h5,w,e5,k5,_⟩:=Ac hb k4 h4 (l:=[(-1),9,2,9223372036854775807]) (by simp) (by simp);rw[e5,aC];exact⟨_,_,_,_,_,rfl,k5,by omega⟩
 .rw[fC c1,aW];by_cases c2:z=1
  .rw[bF c2,aJ,bF (by simp;omega),aJ];exact⟨_,_,_,_,_,rfl,k4,by simp;omega⟩
  .rw[fC c2,aW];by_cases c3:z=2
   .rw[bF c3,aJ];by_cases c4:0<l.length
    .rw[bF (by omega),aJ];obtain⟨i5,h5,w,e5,k5,_⟩:=Ac hb k4 h4 (l:=[(-1),5,2]) (by simp) (by simp);rw[e5,aC,QW 0 (Int.le_refl 0) (by omega),aC];exact⟨_,_,_,_,_,rfl,k5,by rw[List.length_set];omega⟩
    .rw[fC (by omega),aW];exact⟨_,_,_,_,_,rfl,k4,by omega⟩
   .rw[fC c3,aW];exact⟨_,_,_,_,_,rfl,k4,by omega⟩
end
structure SmM(m:Mt):Prop where
 r:∃r:Nat,m.rows=r/\r<=4
 c:∃c:Nat,m.cols=c/\c<=4
 l:m.cells.length<=100
def Zd(p)(hb:bQ q)(hv:EX q=true){d}(hl:(d.length:Int)=q.n)(hd:∀x∈d,0<=x/\x<=4):∃ms,iT p q d=some ⟨p,q,d,ms⟩/\ms.length<=10/\∀m∈ms,SmM m:=by
 obtain⟨n,hn,n1,n5,hs1,hs2,hs,ht⟩:=kT hv;unfold iT;rw[ZY hb,aC,bF (by simp;omega),aJ]
 have hloop:∃r,Lp (nG q d) (([]:bK),0)=some r/\((r:bK).length <=10/\∀m∈r,SmM m):=by
  refine Db (λs:bK×Int=>0<=s.2/\s.2<=q.src.length/\(s.1.length:Int)=s.2/\∀m∈s.1,SmM m) (λs=>((q.src.length:Int)-s.2).toNat) (λr:bK=>r.length<=10/\∀m∈r,SmM m) ⟨Int.le_refl 0,(by omega:(0:Int)<=q.src.length),rfl,λm hm=>(by cases hm)⟩ ?_;rintro⟨ms,v⟩ ⟨k1,k2,k3,k4⟩;simp only at k1 k2 k3 k4;unfold nG;simp only;by_cases c:v<q.src.length
  .have a1:=hs _ (iR (l:=q.src) 0 (k:=v.toNat) (by omega));have a2:=ht _ (iR (l:=q.tgt) 0 (k:=v.toNat) (by omega));have b1:=hd _ (iR (l:=d) 0 (k:=(q.src[v.toNat]?.getD 0).toNat) (by omega));have b2:=hd _ (iR (l:=d) 0 (k:=(q.tgt[v.toNat]?.getD 0).toNat) (by omega));rw[bF c,aJ,QW 0 k1 (by omega),aC,QW 0 a2.1 (by omega),aC,QW 0 k1 (by omega),aC,QW 0 a1.1 (by omega),aC];generalize d[(q.src[v.toNat]?.getD 0).toNat]?.getD 0=x at b1 ⊢;generalize d[(q.tgt[v.toNat]?.getD 0).toNat]?.getD 0=y at b2 ⊢;obtain⟨x',rfl⟩:∃x':Nat,x=x':=⟨x.toNat,by omega⟩;obtain⟨y',rfl⟩:∃y':Nat,y=y':=⟨y.toNat,by omega⟩;have hN:=Nat.mul_le_mul (show y'<=4 by omega) (show x'<=4 by omega);rw[Fn (by omega),aC,bF (by omega),aJ,dS (x:=v+1) (by omega)];refine .inl ⟨_,rfl,⟨by simp only;omega,by simp only;omega,by simp;omega,λm hm=>?_⟩,by simp only;omega⟩;rcases eY.1 hm with hm|hm
   .exact k4 m hm
   .simp only[dR,List.not_mem_nil,or_false]at hm;subst hm;exact⟨⟨y',rfl,by omega⟩,⟨x',rfl,by omega⟩,by simp only;rw[fT];omega⟩
  .rw[fC c,aW];exact .inr ⟨_,rfl,by omega,k4⟩
 obtain⟨ms,e,k1,k2⟩:=hloop;rw[e,aC];exact⟨ms,rfl,k1,k2⟩
section
variable {b:aA}{i:Int}(hb:b.length<=1048576)(hi:Fv b i)(h:Int)
include hb hi
def aCx(p:Int){q:Qv}(hq:bQ q){m:Int}(m0:0<=m)(m4:m<=4):∃(i' h':Int)(d:aA)(ms:bK),vB ⟨b,i,h⟩ p q m=some (i',h',p,q.n,q.src,q.tgt,d,ms)/\Fv b i'/\d.length<=5/\ms.length<=10/\(∀m∈ms,m.cells.length<=100)/\(∀x∈d,0<=x/\x<=m)/\(EX q=true->(d.length:Int)=q.n):=by
 unfold vB;rw[Qc hq,aC];cases hv:EX q with
 |false=>exact⟨_,_,_,_,rfl,hi,by simp,by simp,λm hm=>(by cases hm),λx hx=>(by cases hx),λh=>(by cases h)⟩
 |true=>
  rw[gP,aW];obtain⟨i1,h1,d,e1,k1,l1,hd⟩:=aBh hb hi h q (most:=m) m0 (by omega);obtain⟨n,hn,n1,n5,_⟩:=kT hv;rw[e1,aC];simp only;obtain⟨ms,e2,l2,hm⟩:=Zd p hq hv (d:=d) (by omega) λx hx=>by have:=hd x hx;omega
  rw[e2,aC];simp only
  have hloop:∃r,Lp (Ea ⟨b,i,h⟩ p) (i1,h1,ms,0)=some r/\(Fv b r.1/\r.2.2.length<=10/\∀m∈r.2.2,SmM m):=by
   refine Db (λs:Int×Int×bK×Int=>Fv b s.1/\0<=s.2.2.2/\s.2.2.2<=s.2.2.1.length/\s.2.2.1.length<=10/\∀m∈s.2.2.1,SmM m) (λs=>((s.2.2.1.length:Int)-s.2.2.2).toNat) (λr:Int×Int×bK=>Fv b r.1/\r.2.2.length<=10/\∀m∈r.2.2,SmM m) ⟨k1,Int.le_refl 0,(by omega:(0:Int)<=ms.length),l2,hm⟩ ?_;rintro⟨i2,h2,ns,v⟩ ⟨k2,c1,c2,c3,c4⟩;simp only at k2 c1 c2 c3 c4;unfold Ea;simp only;by_cases c:v<ns.length
   .have hm:=c4 _ (iR (l:=ns) ⟨0,0,[]⟩ (k:=v.toNat) (by omega));rw[bF c,aJ,QW ⟨0,0,[]⟩ c1 c,aC,aC];obtain⟨⟨r,er,hr⟩,⟨cc,ec,hc⟩,_⟩:=hm;have hN:=Nat.mul_le_mul hr hc;obtain⟨i3,h3,l,e3,k3,hl⟩:=RE hb k2 h2 p (r:=r) (c:=cc) (by omega);rw[er,ec,e3,aC,aC,dS (x:=v+1) (by omega)];refine .inl ⟨_,rfl,⟨k3,by simp only;omega,by simp only;rw[List.length_set];omega,by simp only;rw[List.length_set];exact c3,λm hm=>?_⟩,by simp only;rw[List.length_set];omega⟩;rcases List.mem_or_eq_of_mem_set hm with hm|hm
    .exact c4 m hm
    .subst hm;exact⟨⟨r,rfl,hr⟩,⟨cc,rfl,hc⟩,by simp only;omega⟩
   .rw[fC c,aW];exact .inr ⟨_,rfl,k2,c3,c4⟩
  obtain⟨⟨i2,h2,ns⟩,e3,k3,l3,hm3⟩:=hloop;rw[e3,aC];exact⟨_,_,_,_,rfl,k3,by omega,l3,λm hm=>(hm3 m hm).l,hd,λ_=>by omega⟩
def dOf(p:Int){q:Qv}(hq:bQ q){m:Int}(m0:0<=m)(m4:m<=4):∃(i' h':Int)(d:aA)(ms:bK),vB ⟨b,i,h⟩ p q m=some (i',h',p,q.n,q.src,q.tgt,d,ms)/\Fv b i'/\d.length<=5/\ms.length<=10/\∀m∈ms,m.cells.length<=100:=by
 obtain⟨i1,h1,d,ms,e,k,l1,l2,l3,_⟩:=aCx hb hi h p hq m0 m4;exact⟨i1,h1,d,ms,e,k,l1,l2,l3⟩
def aEL:∃(i' h':Int)(r:Rp),Dv ⟨b,i,h⟩=some (i',h',r.dims,r.maps,r.p,r.q.n,r.q.src,r.q.tgt)/\Fv b i'/\bR r:=by
 unfold Dv;obtain⟨i1,h1,p,e1,k1⟩:=aAw hb hi h;obtain⟨i2,h2,q,e2,k2,q1,q2⟩:=aFD hb k1 h1;have hq:bQ q:=⟨by unfold bI;omega,by unfold bI;omega,trivial⟩;obtain⟨i3,h3,d,ms,e3,k3,l1,l2,hm⟩:=dOf hb k2 h2 p hq (m:=2) (by omega) (by omega);obtain⟨i4,h4,z,e4,k4,_⟩:=AI hb k3 h3 (n:=14) (by omega);have hR:∀(d':aA)(ms':bK),d'.length<=100->ms'.length<=100->(∀m∈ms',m.cells.length<=200)->bR ⟨p,q,d',ms'⟩:=λd' ms' h1 h2 h3=>⟨hq,by unfold bI;simp only;omega,⟨by simp only;omega,λm hm=>⟨by unfold bI;have:=h3 m hm;omega,trivial⟩⟩,trivial⟩;have q0:(⟨q.n,q.src,q.tgt⟩:Qv)=q:=rfl;rw[e1,aC];simp only;rw[e2,aC];simp only;rw[q0,e3,aC];simp only;rw[e4,aC];simp only;by_cases c1:z=0
 .rw[bF c1,aJ,bF (by simp;omega),aJ];exact⟨_,_,⟨p,q,d++[1],ms⟩,rfl,k4,hR _ _ (by simp;omega) (by omega) λm hm'=>by have:=hm m hm';omega⟩
 .rw[fC c1,aW];by_cases c2:z=1
  .rw[bF c2,aJ];by_cases c4:0<ms.length
   .rw[bF (by omega),aJ];obtain⟨i5,h5,rr,cc,l,e5,k5,hl⟩:=aEK hb k4 h4 p;rw[e5,aC,QW ⟨0,0,[]⟩ (Int.le_refl 0) (by omega),aC];refine⟨_,_,⟨p,q,d,_⟩,rfl,k5,hR _ _ (by omega) (by rw[List.length_set];omega) λm hm'=>?_⟩;rcases List.mem_or_eq_of_mem_set hm' with hm'|hm'
    .have:=hm m hm';omega
    .subst hm';simp only;omega
   .rw[fC (by omega),aW];exact⟨_,_,⟨p,q,d,ms⟩,rfl,k4,hR _ _ (by omega) (by omega) λm hm'=>by have:=hm m hm';omega⟩
  .rw[fC c2,aW];by_cases c3:z=2
   .rw[bF c3,aJ];by_cases c4:0<d.length
    .rw[bF (by omega),aJ];obtain⟨i5,h5,w,e5,k5,_⟩:=Ac hb k4 h4 (l:=[(-1),5,0]) (by simp) (by simp);rw[e5,aC,QW 0 (Int.le_refl 0) (by omega),aC];exact⟨_,_,⟨p,q,d.set 0 w,ms⟩,rfl,k5,hR _ _ (by rw[List.length_set];omega) (by omega) λm hm'=>by have:=hm m hm';omega⟩
    .rw[fC (by omega),aW];exact⟨_,_,⟨p,q,d,ms⟩,rfl,k4,hR _ _ (by omega) (by omega) λm hm'=>by have:=hm m hm';omega⟩
   .rw[fC c3,aW];exact⟨_,_,⟨p,q,d,ms⟩,rfl,k4,hR _ _ (by omega) (by omega) λm hm'=>by have:=hm m hm';omega⟩
end
def Xa(k:Nat)(r c:Nat->Int)(l:Nat->Nat)(F:Nat->Nat->Int):bK:=(List.range k).map λv=>⟨r v,c v,(List.range (l v)).map (F v)⟩
def TI(n k:Nat)(f:Nat->α)(v:α):((List.range n).map f).set k v=(List.range n).map λi=>if i=k then v else f i:=by
 refine List.ext_getElem (by simp) λt h1 h2=>?_;rw[List.getElem_set,List.getElem_map,List.getElem_map,List.getElem_range];by_cases e:k=t
 .rw[aM e,aM e.symm]
 .rw[aN e,aN λh=>e h.symm]
section
variable {k:Nat}{r c:Nat->Int}{l:Nat->Nat}
def RF:(Xa k r c l F).length=k:=by unfold Xa;simp
end
def fXd(x:aA)(v:Nat):Nat:=(x[v]?.getD 0).toNat
def sXq(q:Qv)(i:Nat):Nat:=(q.src[i]?.getD 0).toNat
def tXq(q:Qv)(i:Nat):Nat:=(q.tgt[i]?.getD 0).toNat
def rXq(q:Qv)(x:aA)(i:Nat):Int:=(fXd x (tXq q i):Int)
def cXq(q:Qv)(x:aA)(i:Nat):Int:=(fXd x (sXq q i):Int)
def Xb(q:Qv)(x:aA)(i:Nat):Nat:=fXd x (tXq q i)*fXd x (sXq q i)
def RG(p:Int)(q:Qv)(x:aA)(F:Nat->Nat->Int):Rp:=⟨p,q,x,Xa q.src.length (rXq q x) (cXq q x) (Xb q x) F⟩
structure RX(q:Qv)(x:aA):Prop where
 n5:x.length<=5
 eq:q.tgt.length=q.src.length
 m6:q.src.length<=6
 d:∀v,v<x.length->x[v]?.getD 0=(fXd x v:Int)
 d4:∀v,fXd x v<=4
 s:∀i,i<q.src.length->q.src[i]?.getD 0=(sXq q i:Int)/\sXq q i<x.length
 t:∀i,i<q.src.length->q.tgt[i]?.getD 0=(tXq q i:Int)/\tXq q i<x.length
def aBi{x}(h:GX q x=true):RX q x:=by
 obtain⟨hQ,hd1,hd2,_⟩:=mK h;obtain⟨n,hn,hn1,hn5,hq1,hq2,hq3,hq4⟩:=kT hQ;refine⟨by omega,by omega,hq2,λv hv=>?_,λv=>?_,λi hi=>?_,λi hi=>?_⟩
 .have:=hd2 _ (iR 0 hv);unfold fXd;omega
 .unfold fXd;by_cases hv:v<x.length
  .have:=hd2 _ (iR 0 hv);omega
  .rw[iM (by omega)];exact Nat.zero_le _
 .have:=hq3 _ (iR 0 hi);unfold sXq;omega
 .have:=hq4 _ (iR 0 (show i<q.tgt.length by omega));unfold tXq;omega
def RX.l16{x}(X:RX q x)(i):Xb q x i<=16:=Nat.mul_le_mul (X.d4 _) (X.d4 _)
def Ze{x}(hp:tJ p=true)(hD:GX q x=true)(hF:∀v y,0<=F v y/\F v y<=1):iI (RG p q x F)=true:=by
 have X:=aBi hD;unfold iI;simp only[cB,iS,oW];refine⟨hp,hD,by simp[RG,Xa],λi hi=>?_⟩;have hi':i<q.src.length:=by simpa [RG,Xa]using hi
 have e:(RG p q x F).maps[i]?.getD ⟨0,0,[]⟩=⟨rXq q x i,cXq q x i,(List.range (Xb q x i)).map (F i)⟩:=by
  unfold RG Xa;simp[hi']
 have h1:=X.d4 (tXq q i);have h2:=X.d4 (sXq q i);have hl:=X.l16 i;rw[e];refine⟨?_,?_,?_⟩
 .unfold JP;simp only[cB,iS,List.all_eq_true];have hb:=fN hp;refine⟨JJ (by unfold rXq;omega) (by unfold rXq;omega),JJ (by unfold cXq;omega) (by unfold cXq;omega),?_,⟨hp,by simp;omega⟩,λz hz=>?_⟩
  .show(((List.range (Xb q x i)).map (F i)).length:Int)=wr ((fXd x (tXq q i):Int)*(fXd x (sXq q i):Int));unfold Xb at hl;rw[Lu (by omega),eD,List.length_range];rfl
  .obtain⟨y,_,rfl⟩:=List.mem_map.1 hz;have:=hF i y;refine JJ this.1 ?_;show F i y<=wr (p-1);rw[dS (by omega)];omega
 .exact(X.d _ (X.s i hi').2).symm
 .exact(X.d _ (X.t i hi').2).symm
def aCy{x}(hb:bQ q)(X:RX q x):bR (RG p q x F):=by
 refine⟨hb,?_,⟨?_,λm hm=>?_⟩,trivial⟩
 .show x.length<=1048576;have:=X.n5;omega
 .show(Xa q.src.length (rXq q x) (cXq q x) (Xb q x) F).length <=1048576;rw[RF];have:=X.m6;omega
 .obtain⟨v,_,rfl⟩:=List.mem_map.1 hm;refine⟨?_,trivial⟩;show((List.range (Xb q x v)).map (F v)).length <=1048576;have:=X.l16 v;rw[eD,List.length_range];omega
def aBj(k)(f:Nat->α):(List.range k).map f++[f k]=(List.range (k+1)).map f:=by rw[List.range_succ,List.map_append];rfl
def aAz(p){x}(hb:bQ q)(X:RX q x):qY p q x=some (RG p q x λ_ _=>0):=by
 have h1:q.src.length<=1048576:=hb.1;have h2:q.tgt.length<=1048576:=hb.2.1;have h5:=X.n5;have h6:=X.m6;have hc:∀{l:aA},l.length<=1048576->nJ l=some l:=λh=>by unfold nJ;rw[bF h,aJ]
 unfold qY jO;simp only[hc h1,hc h2,hc (show x.length<=1048576 by omega),aC];rw[eO (r:=Xa q.src.length (rXq q x) (cXq q x) (Xb q x) λ_ _=>0) (λk=>(Xa k (rXq q x) (cXq q x) (Xb q x) λ_ _=>0,(k:Int))) q.src.length (by rfl) (λi hi=>?_) (λ_=>?_),aC]
 .rfl
 .have s1:=X.s i hi;have t1:=X.t i hi;have hl:=X.l16 i;unfold Xb at hl;unfold sP;simp only;rw[oD hi,aJ,yN 0 hi,aC,yN 0 (by rw[X.eq];exact hi),aC,t1.1,yN 0 t1.2,aC,s1.1,yN 0 s1.2,aC,X.d _ s1.2,X.d _ t1.2,HP (by omega),aC,RF,bF (by omega),aJ,cD hi (by omega)];unfold Xa;rw[←aBj];rfl
 .unfold sP;simp only;rw[rH (bG _),aW]
def Xc(p){x}(hb:bQ q)(X:RX q x):iT p q x=some (RG p q x λ_ _=>0):=by
 have h1:q.src.length<=1048576:=hb.1;have h2:q.tgt.length<=1048576:=hb.2.1;have h5:=X.n5;have h6:=X.m6
 have hq:kC q=some q:=by
  unfold kC;rw[bF (by simp;omega),aJ,bF (by simp;omega),aJ];simp
 unfold iT;rw[hq,aC,bF (by simp;omega),aJ,List.nil_append];rw[eO (r:=Xa q.src.length (rXq q x) (cXq q x) (Xb q x) λ_ _=>0) (λk=>(Xa k (rXq q x) (cXq q x) (Xb q x) λ_ _=>0,(k:Int))) q.src.length (by rfl) (λi hi=>?_) (λ_=>?_),aC]
 .rfl
 .have s1:=X.s i hi;have t1:=X.t i hi;have hl:=X.l16 i;unfold Xb at hl;unfold nG;simp only;rw[oD hi,aJ,yN 0 (by rw[X.eq];exact hi),aC,t1.1,yN 0 t1.2,aC,yN 0 hi,aC,s1.1,yN 0 s1.2,aC,X.d _ s1.2,X.d _ t1.2,Fn (by omega),aC,RF,bF (by omega),aJ,cD hi (by omega)];unfold Xa;rw[←aBj];rfl
 .unfold nG;simp only;rw[rH (bG _),aW]
def Xq:Rp:=⟨0,⟨0,[],[]⟩,[],[]⟩
def MA(r c:Nat)(F:Nat->Nat->Int):aL:=(List.range c).map λk=>iP r λi=>F i k
def MB(r c:Nat)(F:Nat->Nat->Int):aL:=(List.range r).map λi=>iP c (F i)
def OF(c:Nat)(F G:Nat->Nat->Int):Nat->Nat->Int:=λi j=>if j<c then F i j else G i (j-c)
def Pn(r:Nat)(F G:Nat->Nat->Int):Nat->Nat->Int:=λi j=>if i<r then F i j else G (i-r) j
def Zf(r c d)(F G):MA r c F++MA r d G=MA r (c+d) (OF c F G):=by
 unfold MA;rw[List.range_add,List.map_append,List.map_map];congr 1
 .refine tI λk hk=>mB λi _=>?_;simp only[OF];rw[aM (List.mem_range.1 hk)]
 .refine tI λk hk=>?_;show _=iP r λi=>OF c F G i (c+k);refine mB λi _=>?_;simp only[OF];rw[aN (by omega),Nat.add_sub_cancel_left]
def Zg(r s c)(F G):MB r c F++MB s c G=MB (r+s) c (Pn r F G):=by
 unfold MB;rw[List.range_add,List.map_append,List.map_map];congr 1
 .refine tI λk hk=>mB λi _=>?_;simp only[Pn];rw[aM (List.mem_range.1 hk)]
 .refine tI λk hk=>?_;show _=iP c (Pn r F G (r+k));refine mB λi _=>?_;simp only[Pn];rw[aN (by omega),Nat.add_sub_cancel_left]
def RH{a}(ha:a<=64)(hb:b<=64):a*b<=1048576:=by
 have:=Nat.mul_le_mul ha hb;omega
def Xd{k}(hN:r*c<=1048576)(hr:r<=1048576)(hk:k<c)(F):kS ⟨r,c,bT r c F⟩ k=some (iP r λi=>F i k):=by
 unfold kS;simp only;rw[bF (by omega),bF (by omega:(r:Int)<=1048576),Bool.and_self,aJ];rw[eO (r:=iP r λi=>F i k) (λt=>(iP r (λi=>if i<t then F i k else 0),(t:Int))) r (by simp[Hz]) (λt ht=>?_) (λ_=>?_),aC]
 .unfold kR;simp only[List.length_replicate,fU];rw[oD ht,aJ,Nc hN ht hk,aC,CD _ ht,aC,Nm ht,cD ht (by omega)];congr 3;refine mB λb hb=>?_;by_cases e:b=t
  .rw[aM e,aM (by omega),e]
  .rw[aN e];by_cases e2:b<t
   .rw[aM e2,aM (by omega)]
   .rw[aN e2,aN (by omega)]
 .unfold kR;simp only[List.length_replicate,fU];rw[rH (bG _),aW];congr 2;exact mB λb hb=>by rw[aM hb]
def OG(hr:r<=64)(hc:c<=64)(F):iA ⟨r,c,bT r c F⟩=some (MA r c F):=by
 have hN:=RH hr hc;unfold iA;rw[eO (r:=MA r c F) (λk=>(MA r k F,(k:Int))) c (by simp[MA]) (λk hk=>?_) (λ_=>?_),aC]
 .unfold kD;simp only;rw[oD hk,aJ,Xd hN (by omega) hk,aC,bF (by simp[MA];omega),aJ,cD hk (by omega)];congr 3;unfold MA;rw[List.range_succ,List.map_append];rfl
 .unfold kD;simp only;rw[rH (bG _),aW]
def WH(hr:r<=64)(hc:c<=64)(F):kL ⟨r,c,bT r c F⟩=some (MB r c F):=by
 have hN:=RH hr hc;unfold kL;rw[eO (s:=(([]:aL),(0:Int))) (r:=MB r c F) (λk=>(MB k c F,(k:Int))) r rfl (λk hk=>?_) (λ_=>?_),aC]
 .unfold mY;simp only;rw[oD hk,aJ,UY hN (by omega) hk,aC];unfold nJ;rw[bF (by simp[iP];omega),aJ,aC,bF (by simp[MB];omega),aJ,cD hk (by omega)];congr 3;exact AY (f:=λi=>iP c (F i))
 .unfold mY;simp only;rw[rH (bG _),aW]
def TJ(hr:r<=64)(hc:c<=64)(F):rS c (MB r c F)=some ⟨r,c,bT r c F⟩:=by
 unfold rS;rw[Nn (by simp[MB];omega) (λv hv=>by obtain⟨i,_,rfl⟩:=List.mem_map.1 hv;rw[nA];omega),aC];unfold MB;rw[Fp,eD,List.length_range]
def TK{d:Nat}(hr:r<=32)(hc:c<=32)(hd:d<=32)(F G):tF ⟨r,c,bT r c F⟩ ⟨r,d,bT r d G⟩=some ⟨r,(c+d:Nat),bT r (c+d) (OF c F G)⟩:=by
 unfold tF;rw[OG (by omega) (by omega),aC,OG (by omega) (by omega),aC,bF (by simp[MA];omega),aJ,Zf];simp only;unfold MA;rw[Ii (RH (by omega) (by omega)) (by omega) (by omega),aC]
def aBA{s:Nat}(hr:r<=32)(hs:s<=32)(hc:c<=64)(F G):zM ⟨r,c,bT r c F⟩ ⟨s,c,bT s c G⟩=some ⟨(r+s:Nat),c,bT (r+s) c (Pn r F G)⟩:=by
 unfold zM;rw[WH (by omega) hc,aC,WH (by omega) hc,aC,bF (by simp[MB];omega),aJ,Zg];simp only;rw[TJ (by omega) hc,aC]
def zF:Nat->Nat->Int:=λ_ _=>0
def TL(r c:Nat)(F G:Nat->Nat->Int):Nat->Nat->Int:=Pn r (OF c F zF) (OF c zF G)
def RI(r c)(F G)(i j):TL r c F G i j=if i<r then(if j<c then F i j else 0)else if j<c then 0 else G (i-r) (j-c):=rfl
def Zh{s d:Nat}(hr:r<=32)(hs:s<=32)(hc:c<=32)(hd:d<=32)(F G):wN ⟨r,c,bT r c F⟩ ⟨r,d,bT r d zF⟩ ⟨s,d,bT s d G⟩=some ⟨(r+s:Nat),(c+d:Nat),bT (r+s) (c+d) (TL r c F G)⟩:=by
 unfold wN;rw[TK hr hc hd,aC];simp only;rw[HP (RH (by omega) (by omega)),aC,show(λ_ _=>0:Nat->Nat->Int)=zF from rfl,TK hs hc hd,aC,aBA hr hs (by omega),aC];rfl
def aCz{C R k}(hr:r+i<R)(hR:R*C<=1048576)(hc:c+k<C)(hC:C<=64)(hR2:R<=64):wr (wr (wr (wr ((r:Int)+(i:Int))*(C:Int))+(c:Int))+(k:Int))=wr (wr (((r+i:Nat):Int)*(C:Int))+((c+k:Nat):Int)):=by
 have h1:(r+i)*C<=R*C:=Nat.mul_le_mul_right C (by omega);rw[dS (x:=(r:Int)+(i:Int)) (by omega),show(r:Int)+(i:Int)=((r+i:Nat):Int) by omega,Lu (by omega)];generalize (r+i)*C=X at*;rw[dS (x:=(X:Int)+(c:Int)) (by omega)];congr 1;omega
def Xe{s d:Nat}(hr:r<=32)(hs:s<=32)(hc:c<=32)(hd:d<=32)(F G):uT ⟨r,c,bT r c F⟩ ⟨s,d,bT s d G⟩=some ⟨(r+s:Nat),(c+d:Nat),bT (r+s) (c+d) (TL r c F G)⟩:=by
 have hN:(r+s)*(c+d)<=1048576:=RH (by omega) (by omega);unfold uT;simp only;rw[dS (x:=(r:Int)+(s:Int)) (by omega),dS (x:=(c:Int)+(d:Int)) (by omega),show(r:Int)+(s:Int)=((r+s:Nat):Int) by omega,show(c:Int)+(d:Int)=((c+d:Nat):Int) by omega,Fn hN,aC];simp only;rw[eO (r:=bT (r+s) (c+d) (λa b=>if a<r/\b<c then F a b else 0)) (λi=>(bT (r+s) (c+d) (λa b=>if a<i/\b<c then F a b else 0),(i:Int))) r (by simp) (λi hi=>?_) (λ_=>?_),aC]
 .rw[eO (r:=bT (r+s) (c+d) (TL r c F G)) (λi=>(bT (r+s) (c+d) (λa b=>if a<r+i then TL r c F G a b else 0),(i:Int))) s ?_ (λi hi=>?_) (λ_=>?_),aC]
  .congr 1;refine cE λa b ha hb=>?_;rw[RI];by_cases h1:a<r
   .rw[aM (show a<r+0 by omega),aM h1];by_cases h2:b<c
    .rw[aM ⟨h1,h2⟩,aM h2]
    .rw[aN (λh=>h2 h.2),aN h2]
   .rw[aN (λh=>h1 h.1),aN (show ¬ a<r+0 by omega)]
  .unfold sY;simp only;rw[oD hi,aJ];rw[eO (r:=bT (r+s) (c+d) (λa b=>if a<r+i+1 then TL r c F G a b else 0)) (λk=>(bT (r+s) (c+d) (λa b=>if a<r+i∨a=r+i/\b<c+k then TL r c F G a b else 0),(k:Int))) d ?_ (λk hk=>?_) (λ_=>?_),aC,cD hi (by omega)]
   .rfl
   .congr 1;refine cE λa b ha hb=>?_;by_cases h1:a<r+i
    .rw[aM h1,aM (.inl h1)]
    .rw[aN h1];by_cases h2:a=r+i/\b<c+0
     .rw[aM (.inr h2),RI,aN (by omega),aM (by omega)]
     .rw[aN (by omega)]
   .unfold sX;simp only;rw[oD hk,aJ,Nc (RH (by omega) (by omega)) hi hk,aC,aCz (R:=r+s) (by omega) hN (by omega) (by omega) (by omega),Nc hN (show r+i<r+s by omega) (show c+k<c+d by omega),aC,OT hN (show r+i<r+s by omega) (show c+k<c+d by omega),cD hk (by omega)];congr 3;refine cE λa b ha hb=>?_;simp only[HI];by_cases e:a=r+i/\b=c+k
    .rw[aM e,aM (by omega),RI,aN (by omega),aN (by omega),e.1,e.2,Nat.add_sub_cancel_left,Nat.add_sub_cancel_left]
    .rw[aN e];by_cases e2:a<r+i∨a=r+i/\b<c+k
     .rw[aM e2,aM (by omega)]
     .rw[aN e2,aN (by omega)]
   .unfold sX;simp only;rw[rH (bG _),aW];congr 2;refine cE λa b ha hb=>?_;by_cases h1:a<r+i+1
    .rw[aM h1,aM (by omega)]
    .rw[aN h1,aN (by omega)]
  .unfold sY;simp only;rw[rH (bG _),aW];congr 2;exact cE λa b ha hb=>by rw[aM ha]
 .unfold sW;simp only;rw[oD hi,aJ];rw[eO (r:=bT (r+s) (c+d) (λa b=>if a<i+1/\b<c then F a b else 0)) (λk=>(bT (r+s) (c+d) (λa b=>if(a<i/\b<c)∨a=i/\b<k then F a b else 0),(k:Int))) c (by simp) (λk hk=>?_) (λ_=>?_),aC,cD hi (by omega)]
  .unfold sU;simp only;rw[oD hk,aJ,Nc (RH (by omega) (by omega)) hi hk,aC,Nc hN (show i<r+s by omega) (show k<c+d by omega),aC,OT hN (show i<r+s by omega) (show k<c+d by omega),cD hk (by omega)];congr 3;refine cE λa b ha hb=>?_;simp only[HI];by_cases e:a=i/\b=k
   .rw[aM e,aM (by omega),e.1,e.2]
   .rw[aN e];by_cases e2:(a<i/\b<c)∨a=i/\b<k
    .rw[aM e2,aM (by omega)]
    .rw[aN e2,aN (by omega)]
  .unfold sU;simp only;rw[rH (bG _),aW];congr 2;refine cE λa b ha hb=>?_;by_cases h1:a<i+1/\b<c
   .rw[aM h1,aM (by omega)]
   .rw[aN h1,aN (by omega)]
 .unfold sW;simp only;rw[rH (bG _),aW]
end
variable{v1:List Rp×Bool}
noncomputable section
def rpM(r:Rp)(i:Nat):Mt:=⟨dN r (tV r i),dN r (sV r i),bT (dN r (tV r i)) (dN r (sV r i)) (aF r i)⟩
def Rv.dimsE{r}(h:Rv r):r.dims=(List.range r.dims.length).map λv=>(dN r v:Int):=by
 refine List.ext_getElem (by simp) λi h1 h2=>?_;have:=(h.d i h1).1;rw[iL h1]at this;simpa using this
def Rv.mapsE{r}(h:Rv r):r.maps=(List.range r.q.src.length).map (rpM r):=by
 refine List.ext_getElem (by simp[h.ml]) λi h1 h2=>?_;have:=(h.m i (by rw[←h.ml];exact h1)).1;rw[iL h1]at this;simpa [rpM]using this
def dsM(a b:Rp)(i:Nat):Mt:=⟨(dN a (tV a i)+dN b (tV a i):Nat),(dN a (sV a i)+dN b (sV a i):Nat),bT (dN a (tV a i)+dN b (tV a i)) (dN a (sV a i)+dN b (sV a i)) (TL (dN a (tV a i)) (dN a (sV a i)) (aF a i) (aF b i))⟩
def FM(a b:Rp):Rp:=⟨a.p,a.q,(List.range a.dims.length).map λv=>((dN a v+dN b v:Nat):Int),(List.range a.q.src.length).map (dsM a b)⟩
def Ur{b}(h:Fit a b)(ha:bR a):bR (FM a b):=by
 have:=h.ra.n5;have:=h.ra.e6;refine⟨ha.1,by simp[FM,bI];omega,⟨by simp[FM];omega,λm hm=>?_⟩,trivial⟩;obtain⟨i,hi,rfl⟩:=List.mem_map.1 hm;have hi:=List.mem_range.1 hi;obtain⟨_,s2⟩:=h.ra.s i hi;obtain⟨_,t2⟩:=h.ra.t i hi;have d1:=(h.ra.d _ s2).2;have d2:=(h.ra.d _ t2).2;have d3:=(h.rb.d (sV a i) (by rw[h.ne];exact s2)).2;have d4:=(h.rb.d (tV a i) (by rw[h.ne];exact t2)).2;refine⟨?_,trivial⟩;show(bT _ _ _).length <=1048576;rw[fT];exact RH (by omega) (by omega)
def RJ{r}(h:bR r):qH r=some r:=by
 obtain⟨⟨h1,h2,_⟩,h3,⟨h4,h5⟩,_⟩:=h;unfold bI at h1 h2 h3
 have hc:mG r.maps=some r.maps:=by
  unfold mG;rw[eO (s:=(([]:bK),(0:Int))) (r:=r.maps) (λk=>(r.maps.take k,(k:Int))) r.maps.length rfl (λk hk=>?_) (λ_=>?_),aC]
  .have:=(h5 _ (List.getElem_mem hk)).1;unfold bI at this;unfold lX;simp only;rw[oD hk,aJ,fQ hk,aC];unfold gA nJ;rw[bF this,aJ,aC,aC,bF (by simp;omega),aJ,cD hk (by omega),MX hk]
  .unfold lX;simp only;rw[rH (bG _),aW,List.take_length]
 unfold qH jO nJ;rw[bF h1,bF h2,bF h3,hc];rfl
def Xf(h:bQ q):kC q=some q:=by
 obtain⟨h1,h2,_⟩:=h;unfold bI at h1 h2;unfold kC;rw[bF (by simp;omega),aJ,bF (by simp;omega),aJ];simp
def RK{r}(h:Rv r){k}(hk:k<r.dims.length):bY r.dims (k:Int)=some (dN r k:Int):=by
 rw[yN 0 hk,(h.d k hk).1]
def MW{r}(h:Rv r){k}(hk:k<r.q.src.length):bY r.maps (k:Int)=some (rpM r k):=by
 rw[yN ⟨0,0,[]⟩ (by rw[h.ml];exact hk),(h.m k hk).1];rfl
def WI{b}(h:Fit a b)(i):rpM b i=⟨dN b (tV a i),dN b (sV a i),bT (dN b (tV a i)) (dN b (sV a i)) (aF b i)⟩:=by
 unfold rpM;rw[h.sV,h.tV]
def TM{b}(h:Fit a b)(ha:bR a):qI a b=some (FM a b):=by
 have n5:=h.ra.n5;have e6:=h.ra.e6;have hbe:b.q.src.length=a.q.src.length:=by rw[h.qe]
 unfold qI;rw[RJ ha,aC];rw[eO (r:=(List.range a.dims.length).map λv=>((dN a v+dN b v:Nat):Int)) (λk=>((List.range a.dims.length).map λv=>if v<k then((dN a v+dN b v:Nat):Int)else(dN a v:Int),(k:Int))) b.dims.length ?_ (λk hk=>?_) (λ_=>?_),aC]
 .rw[eO (r:=(List.range a.q.src.length).map (dsM a b)) (λk=>((List.range a.q.src.length).map λi=>if i<k then dsM a b i else rpM a i,(k:Int))) b.maps.length ?_ (λk hk=>?_) (λ_=>?_),aC]
  .rfl
  .rw[h.ra.mapsE];simp[rpM]
  .have hkb:k<b.q.src.length:=by rw[←h.rb.ml];exact hk
   have hbl:=h.rb.ml;have hka:k<a.q.src.length:=by omega
   obtain⟨_,s2⟩:=h.ra.s k hka;obtain⟨_,t2⟩:=h.ra.t k hka;have d1:=(h.ra.d _ s2).2;have d2:=(h.ra.d _ t2).2;have d3:=(h.rb.d (sV a k) (by rw[h.ne];exact s2)).2;have d4:=(h.rb.d (tV a k) (by rw[h.ne];exact t2)).2;unfold pE;simp only;rw[oD hk,aJ,MW h.rb hkb,aC,Cn hka,aC,MW h.ra hka,aC,aC,WI h];unfold rpM;simp only;rw[HP (RH (by omega) (by omega)),aC,show(λ_ _=>0:Nat->Nat->Int)=zF from rfl,Zh (by omega) (by omega) (by omega) (by omega),aC,fU,TI,cD hk (by omega)];congr 3;refine tI λi hi=>?_;by_cases e:i=k
   .rw[aM e,aM (by omega),e];rfl
   .rw[aN e];by_cases e2:i<k
    .rw[aM e2,aM (by omega)]
    .rw[aN e2,aN (by omega)]
  .unfold pE;simp only;rw[rH (bG _),aW];congr 2;refine tI λi hi=>?_;rw[aM (by have:=List.mem_range.1 hi;have:=h.rb.ml;omega)]
 .rw[show(List.range a.dims.length).map (λv=>if v<0 then((dN a v+dN b v:Nat):Int)else(dN a v:Int))=a.dims from by
   rw[h.ra.dimsE];simp[←h.ra.dimsE]]
  rfl
 .have hka:k<a.dims.length:=by rw[←h.ne];exact hk
  have hbl:=h.ne;have da:=(h.ra.d _ hka).2;have db:=(h.rb.d _ hk).2;unfold pC;simp only;rw[oD hk,aJ,RK h.rb hk,aC,Cn hka,aC,aC,aN (by omega),fU,TI,cD hk (by omega),dS (by omega)];congr 3;refine tI λi hi=>?_;by_cases e:i=k
  .rw[aM e,aM (by omega),e];omega
  .rw[aN e];by_cases e2:i<k
   .rw[aM e2,aM (by omega)]
   .rw[aN e2,aN (by omega)]
 .unfold pC;simp only;rw[rH (bG _),aW];congr 2;refine tI λi hi=>?_;rw[aM (by have:=List.mem_range.1 hi;have:=h.ne;omega)]
def Ut{b}(h:Fit a b)(va:iI a=true)(vb:iI b=true)(ha:bR a)(hb:bR b):qJ a b=some (bif iI (FM a b)then(FM a b,true)else(Xq,false)):=by
 have n5:=h.ra.n5;have e6:=h.ra.e6;have hml:=h.ra.ml;unfold qJ;rw[MR ha hb,va,vb,bF h.pe.symm,bF h.qe.symm,aC];simp only[Bool.and_self,gP,aW];rw[Xf ha.1,aC];rw[eO (s:=(([]:aA),(0:Int))) (r:=(List.range a.dims.length).map λv=>((dN a v+dN b v:Nat):Int)) (λk=>((List.range k).map λv=>((dN a v+dN b v:Nat):Int),(k:Int))) a.dims.length rfl (λk hk=>?_) (λ_=>?_),aC]
 .rw[eO (s:=(([]:bK),(0:Int))) (r:=(List.range a.q.src.length).map (dsM a b)) (λk=>((List.range k).map (dsM a b),(k:Int))) a.maps.length rfl (λk hk=>?_) (λ_=>?_),aC]
  .have e:(⟨a.p,a.q,(List.range a.dims.length).map λv=>((dN a v+dN b v:Nat):Int),(List.range a.q.src.length).map (dsM a b)⟩:Rp)=FM a b:=rfl;rw[e,wO (Ur h ha),aC];cases iI (FM a b)<;>rfl
  .have hka:k<a.q.src.length:=by omega
   have hkb:k<b.q.src.length:=by rw[h.qe];exact hka
   obtain⟨_,s2⟩:=h.ra.s k hka;obtain⟨_,t2⟩:=h.ra.t k hka;have d1:=(h.ra.d _ s2).2;have d2:=(h.ra.d _ t2).2;have d3:=(h.rb.d (sV a k) (by rw[h.ne];exact s2)).2;have d4:=(h.rb.d (tV a k) (by rw[h.ne];exact t2)).2;unfold pG;simp only;rw[oD hk,aJ,MW h.ra hka,aC,MW h.rb hkb,aC,WI h];unfold rpM;rw[Xe (by omega) (by omega) (by omega) (by omega),aC,bF (by simp;omega),aJ,cD hk (by omega)];congr 3;exact AY (f:=dsM a b)
  .unfold pG;simp only;rw[rH (bG _),aW,hml]
 .have hkb:k<b.dims.length:=by rw[h.ne];exact hk
  have da:=(h.ra.d _ hk).2;have db:=(h.rb.d _ hkb).2;unfold pF;simp only;rw[oD hk,aJ,RK h.ra hk,aC,RK h.rb hkb,aC,bF (by simp;omega),aJ,cD hk (by omega),dS (by omega)];congr 3;have:=AY (f:=λv=>((dN a v+dN b v:Nat):Int)) (k:=k);rw[←this];congr 2
 .unfold pF;simp only;rw[rH (bG _),aW]
structure SmR(p:Int)(q:Qv)(r:Rp):Prop where
 v:iI r=true
 b:bR r
 hp:r.p=p
 hq:r.q=q
def SmR.fit{b}(ha:SmR p q a)(hb:SmR p q b):Fit a b:=Qm ha.v hb.v (ha.hp.trans hb.hp.symm) (ha.hq.trans hb.hq.symm)
def IT:Rp->List Rp->Option Rp
 |o,[]=>some o
 |o,r::l=>bif iI (FM o r)then IT (FM o r) l else none
def TN:∀(l m:List Rp)(o:Rp),IT o (l++m)=(IT o l).bind λz=>IT z m
 | [],m,o=>rfl
 |r::l,m,o=>by
  simp only[List.cons_append,IT];cases iI (FM o r)with
  |false=>rfl
  |true=>exact TN l m _
def SmR.dsum{p:Int}{q:Qv}{a b:Rp}(ha:SmR p q a)(hb:SmR p q b)(h:iI (FM a b)=true):SmR p q (FM a b):=⟨h,Ur (ha.fit hb) ha.b,ha.hp,ha.hq⟩
def RL:∀(l:List Rp)(o:Rp),SmR p q o->(∀r∈l,SmR p q r)->∀z,IT o l=some z->SmR p q z
 | [],o,ho,_,z,h=>by cases h;exact ho
 |r::l,o,ho,hl,z,h=>by
  simp only[IT]at h;cases hv:iI (Proofs.YthpgddekfghemaaGreat.FM o r)with
  |false=>rw[hv]at h;cases h
  |true=>rw[hv]at h;exact RL l _ (ho.dsum (hl r (by simp)) hv) (λx hx=>hl x (by simp[hx])) z h
def fl(o:Rp)(i:Int):Int×Int×aA×aA×aA×bK×Int:=(o.p,o.q.n,o.q.src,o.q.tgt,o.dims,o.maps,i)
def fl6(o:Rp):Int×Int×aA×aA×aA×bK:=(o.p,o.q.n,o.q.src,o.q.tgt,o.dims,o.maps)
def Zi(x:Option Rp):(Int×Int×aA×aA×aA×bK) ⊕ (Rp×Bool):=match x with|some z=>.inl (fl6 z)|none=>.inr (Xq,false)
def aBC{l}(hl:l.length<=1048576)(hs:∀r∈l,SmR p q r):∀(d i:Nat)(o:Rp),i+d=l.length->SmR p q o->Lp (gB l) (fl o i)=some (Zi (IT o (l.drop i))):=by
 intro d;induction d with
 |zero=>
  intro i o hi ho;rw[List.drop_of_length_le (by omega)];refine oG ?_;unfold gB fl;simp only;rw[rH (by omega),aW];rfl
 |succ d ih=>
  intro i o hi ho;have hil:i<l.length:=by omega
  have hr:=hs _ (List.getElem_mem hil);have hd:=TM (ho.fit hr) ho.b
  have hb:gB l (fl o i)=some (bif iI (FM o l[i])then .inl (fl (FM o l[i]) ((i+1:Nat):Int))else .inr (.inr (Xq,false))):=by
   unfold gB fl;simp only;rw[oD hil,aJ,fQ hil,aC];have e:(⟨o.p,⟨o.q.n,o.q.src,o.q.tgt⟩,o.dims,o.maps⟩:Rp)=o:=rfl;rw[e,hd,aC,Bb (Ur (ho.fit hr) ho.b),aC,cD hil (by omega)];cases iI (FM o l[i])<;>rfl
  rw[List.drop_eq_getElem_cons hil];simp only[IT];cases hv:iI (FM o l[i])with
  |false=>rw[hv]at hb;exact oG hb
  |true=>rw[hv]at hb;exact(Bg hb).trans (ih (i+1) _ (by omega) (ho.dsum hr hv))
def Gf:aA->List Rp->List Rp
 |x::xs,r::rs=>List.replicate x.toNat r++Gf xs rs
 |_,_=>[]
def TO:∀(m:aA)(l:List Rp),∀r∈Gf m l,r∈l
 | [],_,r,h=>by simp[Gf]at h
 |_::_,[],r,h=>by simp[Gf]at h
 |x::xs,y::ys,r,h=>by
  rcases eY.1 h with h|h
  .rw[(List.mem_replicate.1 h).2];simp
  .exact List.mem_cons_of_mem _ (TO xs ys r h)
def TP:∀(m:aA)(l:List Rp),(m.all λx=>FD x 0 8)=true->(Gf m l).length <=8*m.length
 | [],_,_=>by simp[Gf]
 |_::_,[],_=>by simp[Gf]
 |x::xs,y::ys,h=>by
  simp only[List.all_cons,cB]at h;have h1:=wD h.1;have h2:=TP xs ys h.2;simp only[Gf,List.length_append,List.length_replicate,List.length_cons];omega
def Zj{m}(hm:m.length<=20)(hl:m.length=v1.1.length)(ha:(m.all λx=>FD x 0 8)=true):∀(d i:Nat)(acc:List Rp),i+d=m.length->acc.length<=8*i->Lp (dG m v1) (acc,(i:Int))=some (acc++Gf (m.drop i) (v1.1.drop i)):=by
 intro d;induction d with
 |zero=>
  intro i acc hi hacc;refine oG ?_;unfold dG;simp only;rw[rH (by omega),aW,List.drop_of_length_le (show m.length<=i by omega)];simp[Gf]
 |succ d ih=>
  intro i acc hi hacc;have him:i<m.length:=by omega
  have hil:i<v1.1.length:=by omega
  have hx:=wD (List.all_eq_true.1 ha _ (List.getElem_mem him))
  have hrep:Dx [v1.1[i]] m[i]=some (List.replicate m[i].toNat v1.1[i]):=by
   simp only[Dx];rw[bF (by omega),bF (by omega)];rfl
  have hb:dG m v1 (acc,(i:Int))=some (.inl (acc++List.replicate m[i].toNat v1.1[i],((i+1:Nat):Int))):=by
   unfold dG;simp only;rw[oD him,aJ,fQ him,aC,fQ hil,aC,hrep,aC,bF (by simp;omega),aJ,cD him (by omega)]
  rw[Bg hb,ih (i+1) _ (by omega) (by simp;omega),List.drop_eq_getElem_cons him,List.drop_eq_getElem_cons hil];simp only[Gf,List.append_assoc]
def aDB{m}(o1)(him:i<m.length)(hil:i<v1.1.length)(hn:m[i]=(n:Int))(hn8:n<=8)(hr:SmR p q v1.1[i]):∀(d k:Nat)(o:Rp),k+d=n->SmR p q o->Lp (cZ m v1 (fl o1 i)) (fl o k)=some (Zi (IT o (List.replicate d v1.1[i]))):=by
 intro d;induction d with
 |zero=>
  intro k o hk ho;refine oG ?_;unfold cZ fl;simp only;rw[fQ him,aC,hn,rH (by omega),aW];rfl
 |succ d ih=>
  intro k o hk ho;have hd:=Ut (ho.fit hr) ho.v hr.v ho.b hr.b
  have hb:cZ m v1 (fl o1 i) (fl o k)=some (bif iI (FM o v1.1[i])then .inl (fl (FM o v1.1[i]) ((k+1:Nat):Int))else .inr (.inr (Xq,false))):=by
   unfold cZ fl;simp only;rw[fQ him,aC,hn,oD (by omega),aJ,fQ hil,aC];have e:(⟨o.p,⟨o.q.n,o.q.src,o.q.tgt⟩,o.dims,o.maps⟩:Rp)=o:=rfl;rw[e,hd,aC,cD (show k<n by omega) (by omega)];cases iI (FM o v1.1[i])<;>rfl
  rw[List.replicate_succ];simp only[IT];cases hv:iI (FM o v1.1[i])with
  |false=>rw[hv]at hb;exact oG hb
  |true=>rw[hv]at hb;exact(Bg hb).trans (ih (k+1) _ (by omega) (ho.dsum hr hv))
def aDC{m}(hm:m.length<=20)(hl:m.length=v1.1.length)(hs:∀r∈v1.1,SmR p q r):∀(d i:Nat)(o:Rp),i+d=m.length->SmR p q o->Lp (cP m v1) (fl o i)=some (bif(m.drop i).all (λx=>FD x 0 8)then Zi (IT o (Gf (m.drop i) (v1.1.drop i)))else .inr (Xq,false)):=by
 intro d;induction d with
 |zero=>
  intro i o hi ho;rw[List.drop_of_length_le (show m.length<=i by omega)];refine oG ?_;unfold cP fl;simp only;rw[rH (by omega),aW];rfl
 |succ d ih=>
  intro i o hi ho;have him:i<m.length:=by omega
  have hil:i<v1.1.length:=by omega
  rw[List.drop_eq_getElem_cons him,List.drop_eq_getElem_cons hil];simp only[List.all_cons,Gf];cases hx:FD m[i] 0 8 with
  |false=>
   refine oG ?_;unfold cP fl;simp only;rw[oD him,aJ,fQ him,aC,EW,aC,hx];rfl
  |true=>
   have h8:=wD hx;obtain⟨n,hn⟩:∃n:Nat,m[i]=(n:Int):=⟨m[i].toNat,by omega⟩;have hr:=hs _ (List.getElem_mem hil);have h2:=aDB (m:=m) (v1:=v1) o him hil hn (by omega) hr n 0 o (by omega) ho
   have hb:cP m v1 (fl o i)=some (Sum.elim (λy=>.inl (y.1,y.2.1,y.2.2.1,y.2.2.2.1,y.2.2.2.2.1,y.2.2.2.2.2,((i+1:Nat):Int))) (λy=>.inr (.inr y)) (Zi (IT o (List.replicate n v1.1[i])))):=by
    have e0:cP m v1 (fl o i)=(Option.bind (Lp (cZ m v1 (fl o i)) (fl o ((0:Nat):Int))) λy14=>Sum.elim (λy15=>some (.inl (y15.1,y15.2.1,y15.2.2.1,y15.2.2.2.1,y15.2.2.2.2.1,y15.2.2.2.2.2,((i+1:Nat):Int)))) (λy16=>some (.inr (.inr y16))) y14):=by
     unfold cP fl;simp only;rw[oD him,aJ,fQ him,aC,EW,aC,hx,cD him (by omega)];rfl
    rw[e0,h2,aC];cases Zi (IT o (List.replicate n v1.1[i]))<;>rfl
   rw[hn,fU,Bool.true_and,TN];cases hz:IT o (List.replicate n v1.1[i])with
   |none=>
    rw[hz]at hb;rw[oG (r:=.inr (Xq,false)) hb];cases (m.drop (i+1)).all λx=>FD x 0 8<;>rfl
   |some z=>
    rw[hz]at hb;have hzs:=RL _ _ ho (λr hr'=>by rw[(List.mem_replicate.1 hr').2];exact hr) z hz;rw[Bg (s':=fl z ((i+1:Nat):Int)) hb,ih (i+1) z (by omega) hzs];rfl
end
end Go.Proofs.YthpgddekfghemaaGreat

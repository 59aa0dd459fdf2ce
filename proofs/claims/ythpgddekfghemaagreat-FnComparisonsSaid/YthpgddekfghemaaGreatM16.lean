/- Several texts. -/
import Derived.Test.YthpgddekfghemaaGreatM15
set_option linter.unusedVariables false
set_option linter.unusedSimpArgs false
set_option linter.defProp false
set_option maxRecDepth 100000
namespace Go.Proofs.YthpgddekfghemaaGreat
open Go.RowKit
variable{q:Qv}{p:Int}{n:Nat}{F:Nat->Nat->Int}{F':Nat->Nat->Int}{G:Nat->Nat->Int}{i:Nat}{j:Nat}{G':Nat->Nat->Int}{m':Nat}{n':Nat}{a:Rp}{X:Nat->Nat->Nat->Int}{r:Nat}{c:Nat}
section
def OH:∀q∈Hs,EX q=true/\q.src.length<=10/\q.tgt.length<=10:=by decide
def Im(h:q.src.length<=10/\q.tgt.length<=10):bQ q:=⟨by unfold bI;omega,by unfold bI;omega,trivial⟩
def aEM:∀p∈pD,∀q∈Hs,(decide ((Xp p q).1.length <=20)&&((Xp p q).1.all (λr=>iI r&&(bB r&&(decide (r.p=p)&&decide (r.q=q))))&&(!(Xp p q).2|| !(Xp p q).1.isEmpty)))=true:=by decide+kernel
def WJ(hp:p∈pD)(hq:q∈Hs):∃L b,dH p q=some (L,b)/\dA p q=some (L,b)/\L.length<=20/\(∀r∈L,SmR p q r)/\(b=true->L≠[]):=by
 have h:=aEM p hp q hq;simp only[cB,iS,List.all_eq_true,Bool.or_eq_true,Bool.not_eq_true']at h;obtain⟨h1,h2,h3⟩:=h;obtain⟨g1,g2⟩:=TH (p:=p) (q:=q) (by rw[bF hp,bF hq];rfl);refine⟨(Xp p q).1,(Xp p q).2,g1,g2,h1,λr hr=>?_,λhb e=>?_⟩
 .obtain⟨k1,k2,k3,k4⟩:=h2 r hr;exact⟨k1,ZW k2,k3,k4⟩
 .rcases h3 with h3|h3
  .rw[hb]at h3;cases h3
  .rw[e]at h3;cases h3
def aDD(hp:p∈pD)(hq:q∈Hs){m}(hm:bI m):∃r b,cH p q m=some (r,b)/\fH p q m=some (r,b)/\bR r:=by
 have hE:bR Xq:=by refine⟨⟨?_,?_,trivial⟩,?_,⟨?_,?_⟩,trivial⟩<;>simp[Xq,bI]
 obtain⟨L,b,h1,h2,h3,hsm,hne⟩:=WJ hp hq;unfold cH fH;rw[h1,h2];simp only[aC];cases b with
 |false=>exact⟨Xq,false,rfl,rfl,hE⟩
 |true=>
  simp only[gP,aW];by_cases hl:m.length=L.length
  .rw[bF (show((m.length:Nat):Int)=(L.length:Int) by omega)];simp only[gP,aW];obtain⟨y,hy⟩:=List.exists_mem_of_ne_nil _ (hne rfl);have hy2:=hsm y hy;have hQ:EX q=true:=by have:=(mK (AX hy2.v).2.1).1;rwa [hy2.hq]at this
   have hF:tJ p=true:=by have:=(AX hy2.v).1;rwa [hy2.hp]at this
   obtain⟨n,hn,hn1,hn5,hq1,hq2,hq3,hq4⟩:=kT hQ;obtain⟨x0,hx0⟩:∃x0,x0=List.replicate n (0:Int):=⟨_,rfl⟩
   have hD:GX q x0=true:=by
    unfold GX;rw[hQ,hx0];simp[hn];exact .inr (by decide)
   have X:=aBi hD;obtain⟨o,ho⟩:∃o,o=RG p q x0 λ_ _=>0:=⟨_,rfl⟩;have hoS:SmR p q o:=⟨by rw[ho];exact Ze hF hD (λ_ _=>by omega),by rw[ho];exact aCy (Im (OH q hq).2) X,by rw[ho];rfl,by rw[ho];rfl⟩;have z1:=aAz p (Im (OH q hq).2) X;have z2:=Xc p (Im (OH q hq).2) X;rw[←ho]at z1 z2;have hS:=aDC (v1:=(L,true)) (p:=p) (q:=q) (m:=m) (by omega) hl hsm m.length 0 o (by omega) hoS;rw[List.drop_zero,List.drop_zero]at hS;rw[DA hm,aC,hn,bF (by omega),bF (by omega)];simp only[Bool.and_self,aJ,fU];rw[←hx0,z2,aC];have e1:Lp (cP m (L,true)) (o.p,o.q.n,o.q.src,o.q.tgt,o.dims,o.maps,0)=_:=hS;rw[e1,aC];cases ha:m.all λx=>FD x 0 8 with
   |false=>exact⟨Xq,false,rfl,rfl,hE⟩
   |true=>
    simp only[gP,aW,aJ];have hI:=Zj (v1:=(L,true)) (m:=m) (by omega) hl ha m.length 0 [] (by omega) (by simp);rw[List.drop_zero,List.drop_zero,List.nil_append]at hI;have e2:Lp (dG m (L,true)) ([],0)=_:=hI;rw[e2,aC];have hsl:=TP m L ha;have hmem:∀r∈Gf m L,SmR p q r:=λr hr=>hsm r (TO m L r hr);have hZ:=aBC (p:=p) (q:=q) (l:=Gf m L) (by omega) hmem (Gf m L).length 0 o (by omega) hoS;rw[List.drop_zero]at hZ;unfold uS;rw[hn,bF (by omega),bF (by omega)];simp only[Bool.and_self,aJ,fU];rw[←hx0,z1,aC];have e3:Lp (gB (Gf m L)) (o.p,o.q.n,o.q.src,o.q.tgt,o.dims,o.maps,0)=_:=hZ;rw[e3,aC];cases hz:IT o (Gf m L)with
    |none=>exact⟨Xq,false,rfl,rfl,hE⟩
    |some z=>exact⟨z,true,rfl,rfl,(RL _ _ hoS hmem z hz).b⟩
  .rw[fC (show ¬ ((m.length:Nat):Int)=(L.length:Int) by omega)];exact⟨Xq,false,rfl,rfl,hE⟩
def aBD{r z}(hr:bR r)(hz:bR z)(h1:iI r=true)(h2:iI z=true)(e1:z.p=r.p)(e2:z.q=r.q)(e3:z.dims=r.dims)(hp:r.p∈pD)(hq:r.q∈Hs)(h:∀L,(∀y∈L,SmR r.p r.q y)->Cd r L=Cd z L):cV r=cV z/\cJ r=cJ z:=by
 obtain⟨L,b,i1,i2,i3,i4,i5⟩:=WJ hp hq;have hL:L.length<=1048576/\∀r∈L,bR r:=⟨by omega,λy hy=>(i4 y hy).b⟩
 have a3:∀v,gF r v=gF z v:=λv=>by
  funext a b;unfold gF;rw[e2]
 have a2:∀v,gG r v=gG z v:=λv=>by
  funext a b;unfold gG;simp only[a3]
 have a1:∀v,gH r v=gH z v:=λv=>by
  funext a b c;unfold gH;simp only[a2]
 have c4:∀v,gI r v=gI z v:=λv=>by
  funext a b c d;unfold gI;rw[e2]
 have c3:∀v,gJ r v=gJ z v:=λv=>by
  funext a b c d;unfold gJ;simp only[c4]
 have c1:∀v,gK r v=gK z v:=λv=>by
  funext a b c d;unfold gK;simp only[c3]
 constructor
 .unfold cV;rw[Bb hr,Bb hz,h1,h2,e1,e2,e3,i1];simp only[aC,a1,ID hr hL,ID hz hL,h L i4]
 .unfold cJ;rw[wO hr,wO hz,h1,h2,e1,e2,i2];simp only[aC,e3,c1,IC hr hL,IC hz hL,h L i4]
def TQ(F G)(i j):∀n,Fo F G i j n=sN (λt=>F i t*G t j) n
 |0=>rfl
 |n+1=>by simp only[Fo,sN,TQ F G i j n]
def pY(p)(n)(F G)(i j):fZ p n F G i j=sN (λt=>F i t*G t j) n%p:=by unfold fZ;rw[TQ]
def Zk(p x y:Int):(x%p*y)%p=(x*y)%p:=by rw[Int.mul_emod,Int.emod_emod_of_dvd _ (Int.dvd_refl p),←Int.mul_emod]
def OI(p x y:Int):(x*(y%p))%p=(x*y)%p:=by rw[Int.mul_emod,Int.emod_emod_of_dvd _ (Int.dvd_refl p),←Int.mul_emod]
def mO(h:∀t,t<n->F i t=F' i t):fZ p n F G i j=fZ p n F' G i j:=by
 rw[pY,pY];rw[dL λt ht=>by rw[h t ht]]
def mP(h:∀t,t<n->G t j=G' t j):fZ p n F G i j=fZ p n F G' i j:=by
 rw[pY,pY];rw[dL λt ht=>by rw[h t ht]]
def iB(p)(m n)(F G H)(i j):fZ p m (fZ p n F G) H i j=fZ p n F (fZ p m G H) i j:=by
 rw[pY,pY]
 have h1:sN (λt=>fZ p n F G i t*H t j) m%p=sN (λt=>H t j*sN (λq=>F i q*G q t) n) m%p:=HK λt _=>by
  rw[pY,Zk,Int.mul_comm]
 have h2:sN (λq=>F i q*fZ p m G H q j) n%p=sN (λq=>F i q*sN (λt=>H t j*G q t) m) n%p:=HK λq _=>by
  rw[pY,OI];congr 2;exact dL λt _=>Int.mul_comm _ _
 rw[h1,h2];exact congrArg (· % p) (GP (λt=>H t j) (F i) G n m)
def rD(hj:j<n)(h:0<=F i j/\F i j<p):fZ p n F hJ i j=F i j:=by
 rw[pY,BN hj λt _ ht=>by simp only[hJ];rw[aN ht,Int.mul_zero]];rw[show hJ j j=1 from aM rfl,Int.mul_one];exact Int.emod_eq_of_lt h.1 h.2
def yR(hi:i<n)(h:0<=F i j/\F i j<p):fZ p n hJ F i j=F i j:=by
 rw[pY,BN hi λt _ ht=>by simp only[hJ];rw[aN (λe=>ht e.symm),Int.zero_mul]];rw[show hJ i i=1 from aM rfl,Int.one_mul];exact Int.emod_eq_of_lt h.1 h.2
def DB(hp:tJ p=true)(r c):xQ p r c hJ:=λi j _ _=>by
 have:=fN hp;unfold hJ;split<;>omega
structure IsoD(p:Int)(n m:Nat)(s t d:Nat->Nat)(A B P Q:Nat->Nat->Nat->Int):Prop where
 pi:∀v,v<n->xQ p (d v) (d v) (P v)
 qi:∀v,v<n->xQ p (d v) (d v) (Q v)
 pq:∀v,v<n->∀i j,i<d v->j<d v->fZ p (d v) (P v) (Q v) i j=hJ i j
 qp:∀v,v<n->∀i j,i<d v->j<d v->fZ p (d v) (Q v) (P v) i j=hJ i j
 f:∀e,e<m->∀r k,r<d (t e)->k<d (s e)->fZ p (d (s e)) (B e) (P (s e)) r k=fZ p (d (t e)) (P (t e)) (A e) r k
 g:∀e,e<m->∀r k,r<d (t e)->k<d (s e)->fZ p (d (s e)) (A e) (Q (s e)) r k=fZ p (d (t e)) (Q (t e)) (B e) r k
def IsoF(p:Int)(n m:Nat)(s t d:Nat->Nat)(A B:Nat->Nat->Nat->Int):Prop:=∃P Q,IsoD p n m s t d A B P Q
section
variable {p:Int}{n m:Nat}{s t d:Nat->Nat}{A B C:Nat->Nat->Nat->Int}
def IsoD.sym{P Q}(h:IsoD p n m s t d A B P Q):IsoD p n m s t d B A Q P:=⟨h.qi,h.pi,h.qp,h.pq,h.g,h.f⟩
def IsoF.trans(hp:tJ p=true)(hs:∀e,e<m->s e<n)(ht:∀e,e<m->t e<n)(h1:IsoF p n m s t d A B)(h2:IsoF p n m s t d B C):IsoF p n m s t d A C:=by
 obtain⟨P1,Q1,D1⟩:=h1;obtain⟨P2,Q2,D2⟩:=h2
 have key:∀{X Y Z:Nat->Nat->Nat->Int}{P1 P2:Nat->Nat->Nat->Int},(∀e,e<m->∀r k,r<d (t e)->k<d (s e)->fZ p (d (s e)) (Y e) (P1 (s e)) r k=fZ p (d (t e)) (P1 (t e)) (X e) r k)->(∀e,e<m->∀r k,r<d (t e)->k<d (s e)->fZ p (d (s e)) (Z e) (P2 (s e)) r k=fZ p (d (t e)) (P2 (t e)) (Y e) r k)->
   ∀e,e<m->∀r k,r<d (t e)->k<d (s e)->fZ p (d (s e)) (Z e) (fZ p (d (s e)) (P2 (s e)) (P1 (s e))) r k=fZ p (d (t e)) (fZ p (d (t e)) (P2 (t e)) (P1 (t e))) (X e) r k:=λf1 f2 e he r k hr hk=>by
  rw[←iB,mO λu hu=>f2 e he r u hr hu,iB,mP λu hu=>f1 e he u k hu hk,←iB]
 refine⟨λv=>fZ p (d v) (P2 v) (P1 v),λv=>fZ p (d v) (Q1 v) (Q2 v),⟨λv _=>CE hp _ _ _ _ _,λv _=>CE hp _ _ _ _ _,λv hv i j hi hj=>?_,λv hv i j hi hj=>?_,key D1.f D2.f,key D2.g D1.g⟩⟩
 .rw[iB,mP (G':=Q2 v) λu hu=>by rw[←iB,mO λw hw=>D1.pq v hv u w hu hw,yR hu (D2.qi v hv u j hu hj)]];exact D2.pq v hv i j hi hj
 .rw[iB,mP (G':=P1 v) λu hu=>by rw[←iB,mO λw hw=>D2.qp v hv u w hu hw,yR hu (D1.pi v hv u j hu hj)]];exact D1.qp v hv i j hi hj
def Oa(p:Int)(s t d:Nat->Nat)(v:Nat)(g h:Nat->Nat->Int)(A:Nat->Nat->Nat->Int):Nat->Nat->Nat->Int:=λe=>if t e=v then fZ p (d v) g (A e)else if s e=v then fZ p (d v) (A e) h else A e
def aBE(hp:tJ p=true)(hA:∀e,e<m->xQ p (d (t e)) (d (s e)) (A e))(hne:∀e,e<m->s e≠t e){v g h}(hg:xQ p (d v) (d v) g)(hh:xQ p (d v) (d v) h)(gh:∀i j,i<d v->j<d v->fZ p (d v) g h i j=hJ i j)(hgu:∀i j,i<d v->j<d v->fZ p (d v) h g i j=hJ i j):IsoF p n m s t d A (Oa p s t d v g h A):=by
 have cs:∀(x:Nat->Nat->Int)(e:Nat),e=v->(if e=v then x else hJ)=x:=λx e h=>aM h;have cn:∀(x:Nat->Nat->Int)(e:Nat),e≠v->(if e=v then x else hJ)=hJ:=λx e h=>aN h;refine⟨λw=>if w=v then g else hJ,λw=>if w=v then h else hJ,⟨λw _=>?_,λw _=>?_,λw _ i j hi hj=>?_,λw _ i j hi hj=>?_,λe he r k hr hk=>?_,λe he r k hr hk=>?_⟩⟩
 .by_cases e:w=v
  .subst e;rw[cs _ _ rfl];exact hg
  .rw[cn _ _ e];exact DB hp _ _
 .by_cases e:w=v
  .subst e;rw[cs _ _ rfl];exact hh
  .rw[cn _ _ e];exact DB hp _ _
 .by_cases e:w=v
  .subst e;rw[cs _ _ rfl,cs _ _ rfl];exact gh i j hi hj
  .rw[cn _ _ e,cn _ _ e];exact rD hj (DB hp (i+1) (j+1) i j (by omega) (by omega))
 .by_cases e:w=v
  .subst e;rw[cs _ _ rfl,cs _ _ rfl];exact hgu i j hi hj
  .rw[cn _ _ e,cn _ _ e];exact rD hj (DB hp (i+1) (j+1) i j (by omega) (by omega))
 .have hin:=hA e he r k hr hk;simp only[Oa];by_cases h1:t e=v
  .have h2:s e≠v:=λh2=>hne e he (h2.trans h1.symm);rw[cs _ _ h1,cn _ _ h2,aM h1,rD hk (CE hp _ _ _ (r+1) (k+1) r k (by omega) (by omega)),h1]
  .rw[cn _ _ h1,aN h1,yR hr hin];by_cases h2:s e=v
   .rw[cs _ _ h2,aM h2,h2,iB,mP (G':=hJ) λu hu=>hgu u k hu (by rw[←h2];exact hk)];rw[←h2];exact rD hk hin
   .rw[cn _ _ h2,aN h2,rD hk hin]
 .have hin:=hA e he r k hr hk;simp only[Oa];by_cases h1:t e=v
  .have h2:s e≠v:=λh2=>hne e he (h2.trans h1.symm);rw[cs _ _ h1,cn _ _ h2,aM h1,rD hk hin,h1,←iB,mO (F':=hJ) λu hu=>hgu r u (by rw[←h1];exact hr) hu];rw[←h1];exact(yR hr hin).symm
  .rw[cn _ _ h1,aN h1];by_cases h2:s e=v
   .rw[cs _ _ h2,aM h2,h2,yR hr (CE hp _ _ _ (r+1) (k+1) r k (by omega) (by omega))]
   .rw[cn _ _ h2,aN h2,yR hr hin,rD hk hin]
end
def aDE{p}(hp:tJ p=true){m n}(hF:xQ p m n F)(hG:xQ p m' n' G)(f:(Nat->Int)->Nat->Int)(h1:∀x,Kr p m n F x->Kr p m' n' G (f x))(h2:∀c l s k,k<n'->f (OS c l s) k%p=OS c (λi=>f (l i)) s k%p)(h3:∀x,(∀k,k<n'->Z0 p (f x k))->∀k,k<n->Z0 p (x k)):n-OU p m n F<=n'-OU p m' n' G:=by
 have e:=aCW hp hF
 have:=aCT hp hG (s:=Zu p m n F) (l:=λi=>f (bas p m n F i)) (λi hi=>h1 _ (aAa hp hF hi)) λc hc i hi=>by
  have:=h3 (OS c (bas p m n F) (Zu p m n F)) (λk hk=>CB (h2 _ _ _ k hk).symm (hc k hk)) _ (PY hi).1
  rwa [aAb c hi]at this
 unfold OU;omega
def Mq(a b:Rp)(X:Nat->Nat->Nat->Int):Prop:=∀i,i<a.q.src.length->∀r k,r<dN b (tV a i)->k<dN a (sV a i)->fZ a.p (dN b (sV a i)) (aF b i) (X (sV a i)) r k=fZ a.p (dN a (tV a i)) (X (tV a i)) (aF a i) r k
def Zl{b}(h:Fit a b)(x):Kr a.p (nE a b) (nV a b) (mE a b) x↔Mq a b (gM a b x):=by
 have key:∀i,i<a.q.src.length->∀r k,r<dN b (tV a i)->k<dN a (sV a i)->(Z0 a.p (dt (nV a b) (mE a b (fD (lE a b) i+(r*dN a (sV a i)+k))) x)↔fZ a.p (dN b (sV a i)) (aF b i) (gM a b x (sV a i)) r k=fZ a.p (dN a (tV a i)) (gM a b x (tV a i)) (aF a i) r k):=λi hi r k hr hk=>by
  have h1:=aCi h hi hr hk x
  have h3:dP a b (gM a b x) i r k%a.p=dt (nV a b) (mE a b (fD (lE a b) i+(r*dN a (sV a i)+k))) x%a.p:=by
   rw[h1];refine HK (g:=λq=>mE a b (fD (lE a b) i+(r*dN a (sV a i)+k)) q*x q) λq hq=>?_;rw[Int.mul_emod,aAs h hi hr hk hq,Int.mul_comm (mE _ _ _ _),Int.mul_emod (x q) (mE a b _ q)];congr 2;exact(Int.emod_eq_of_lt (Ij h _ _ (rM hi (CK hr hk)) hq).1 (Ij h _ _ (rM hi (CK hr hk)) hq).2).symm
  unfold Z0 fZ;rw[←h3,Int.emod_eq_emod_iff_emod_sub_eq_zero];rfl
 constructor
 .intro hk i hi r k hr hk';exact(key i hi r k hr hk').1 (hk _ (rM hi (CK hr hk')))
 .intro hq z hz;obtain⟨i,y,hi,hy,e⟩:=Er (l:=lE a b) (k:=a.q.src.length) hz;have hd:0<dN a (sV a i):=Nat.pos_of_ne_zero λh0=>by unfold lE at hy;rw[h0,Nat.mul_zero]at hy;omega
  have hrk:=FH (r:=dN b (tV a i)) (c:=dN a (sV a i)) hy;have:=(key i hi _ _ hrk.1 hrk.2).2 (hq i hi _ _ hrk.1 hrk.2)
  rwa [vA,←e]at this
def OJ(a b:Rp)(X:Nat->Nat->Nat->Int):Nat->Int:=Vz (Hw (lV a b) (λv y=>X v (y/dN a v) (y%dN a v)) a.dims.length)
def aBF{b v y}(hv:v<a.dims.length)(hy:y<lV a b v):OJ a b X (fD (lV a b) v+y)=X v (y/dN a v) (y%dN a v):=by
 unfold OJ Vz;rw[uA _ hv hy,iN]
def WK{b v l}(hv:v<a.dims.length)(hj:j<dN b v)(hl:l<dN a v):gM a b (OJ a b X) v j l=X v j l:=by
 unfold gM;rw[aBF hv (CK hj hl),EQ hl,ER hl]
def Uu{b k}(hk:k<nV a b):∃v j l,v<a.dims.length/\j<dN b v/\l<dN a v/\k=fD (lV a b) v+(j*dN a v+l):=by
 obtain⟨v,y,hv,hy,e⟩:=Er (l:=lV a b) (k:=a.dims.length) hk;have hrk:=FH (r:=dN b v) (c:=dN a v) hy;exact⟨v,_,_,hv,hrk.1,hrk.2,by rw[vA];exact e⟩
def TR{b a' b'}(h:Fit a b)(h':Fit a' b')(hp:a'.p=a.p)(hn:a'.dims.length=a.dims.length)(φ:Nat->(Nat->Nat->Int)->Nat->Nat->Int)(hq:∀X,Mq a b X->Mq a' b' λv=>φ v (X v))(hl:∀c (l:Nat->Nat->Int) s v j k,v<a.dims.length->j<dN b' v->k<dN a' v->φ v (gM a b (OS c l s) v) j k%a.p=sN (λi=>c i*φ v (gM a b (l i) v) j k) s%a.p)(hz:∀X:Nat->Nat->Int,∀v,v<a.dims.length->(∀j k,j<dN b' v->k<dN a' v->Z0 a.p (φ v X j k))->∀j k,j<dN b v->k<dN a v->Z0 a.p (X j k)):kU a b<=kU a' b':=by
 unfold kU;rw[hp];have hgm:∀(x:Nat->Int) v j k,v<a.dims.length->j<dN b' v->k<dN a' v->gM a' b' (OJ a' b' λv=>φ v (gM a b x v)) v j k=φ v (gM a b x v) j k:=λx v j k hv hj hk=>WK (by omega) hj hk;refine aDE h.ra.hp (Ij h) (by rw[←hp];exact Ij h') (λx=>OJ a' b' λv=>φ v (gM a b x v)) (λx hx=>?_) (λc l s k hk=>?_) (λx hx k hk=>?_)
 .rw[←hp];refine(Zl h' _).2 λi hi r k hr hk=>?_;have hs:=(h'.ra.s i hi).2;have ht:=(h'.ra.t i hi).2;have:=hq _ ((Zl h x).1 hx) i hi r k hr hk;rw[mP λu hu=>hgm x _ u k (by omega) hu hk,mO λu hu=>hgm x _ r u (by omega) hr hu];exact this
 .obtain⟨v,j,l',hv,hj,hl',rfl⟩:=Uu hk;have e:=hl c l s v j l' (by omega) hj hl';have e1:∀x:Nat->Int,OJ a' b' (λv=>φ v (gM a b x v)) (fD (lV a' b') v+(j*dN a' v+l'))=φ v (gM a b x v) j l':=λx=>hgm x v j l' (by omega) hj hl';rw[e1,e];unfold OS;simp only[e1]
 .obtain⟨v,j,l',hv,hj,hl',rfl⟩:=Uu hk;refine hz (gM a b x v) v hv (λj k hj hk=>?_) j l' hj hl';have:=hx (fD (lV a' b') v+(j*dN a' v+k)) (rM (by omega) (CK hj hk));have e:OJ a' b' (λv=>φ v (gM a b x v)) (fD (lV a' b') v+(j*dN a' v+k))=φ v (gM a b x v) j k:=hgm x v j k hv hj hk;rw[e]at this;exact this
def aDF{p n}(h:∀t,t<n->Z0 p (F i t)):Z0 p (fZ p n F G i j):=by
 rw[pY];unfold Z0;rw[Int.emod_emod_of_dvd _ (Int.dvd_refl p)];exact NZ λt ht=>by rw[Int.mul_comm];exact yP _ (h t ht)
def WL{p n}(h:∀t,t<n->Z0 p (G t j)):Z0 p (fZ p n F G i j):=by
 rw[pY];unfold Z0;rw[Int.emod_emod_of_dvd _ (Int.dvd_refl p)];exact NZ λt ht=>yP _ (h t ht)
def aBG{p n}(hj:j<n):fZ p n F hJ i j=F i j%p:=by
 rw[pY,BN hj λt _ ht=>by simp only[hJ];rw[aN ht,Int.mul_zero],show hJ j j=1 from aM rfl,Int.mul_one]
def WM{p n}(hi:i<n):fZ p n hJ F i j=F i j%p:=by
 rw[pY,BN hi λt _ ht=>by simp only[hJ];rw[aN (λe=>ht e.symm),Int.zero_mul],show hJ i i=1 from aM rfl,Int.one_mul]
structure Iso2(a b:Rp)(P Q:Nat->Nat->Nat->Int):Prop where
 F:Fit a b
 d:b.dims=a.dims
 D:IsoD a.p a.dims.length a.q.src.length (sV a) (tV a) (dN a) (aF a) (aF b) P Q
def Iso2.dN{a b:Rp}{P Q:Nat->Nat->Nat->Int}(h:Iso2 a b P Q)(v:Nat):dN b v=dN a v:=by unfold Proofs.YthpgddekfghemaaGreat.dN;rw[h.d]
def Iso2.sym{b P Q}(h:Iso2 a b P Q)(hb:iI b=true)(ha:iI a=true):Iso2 b a Q P:=by
 refine⟨Qm hb ha h.F.pe h.F.qe,h.d.symm,?_⟩;have e1:sV b=sV a:=funext h.F.sV;have e2:tV b=tV a:=funext h.F.tV;have e3:Proofs.YthpgddekfghemaaGreat.dN b=Proofs.YthpgddekfghemaaGreat.dN a:=funext h.dN;rw[e1,e2,e3,h.d,h.F.pe,h.F.qe];exact h.D.sym
def KO{b c P Q}(h:Iso2 a b P Q)(hac:Fit a c)(hbc:Fit b c):kU b c<=kU a c:=by
 have hp:a.p=b.p:=h.F.pe.symm;have eN:=h.dN;have es:=h.F.sV;have et:=h.F.tV;have el:a.dims.length=b.dims.length:=by rw[h.d]
 refine TR hbc hac hp el (λv X=>fZ b.p (dN a v) X (P v)) (λX hX i hi r k hr hk=>?_) (λc' l s v j k hv hj hk=>?_) (λX v hv h0 j k hj hk=>?_)
 .have hX:=hX i (by rw[h.F.qe];exact hi);rw[es,et]at hX;have f:=h.D.f i hi;rw[hp]at f ⊢;rw[←iB,mO λu hu=>hX r u hr (by rw[eN];exact hu),eN,iB,mP λu hu=>f u k hu hk,←iB]
 .rw[pY,Int.emod_emod_of_dvd _ (Int.dvd_refl _)];have e1:sN (λt=>gM b c (OS c' l s) v j t*P v t k) (dN a v)=sN (λt=>P v t k*sN (λi=>c' i*gM b c (l i) v j t) s) (dN a v):=dL λt _=>by rw[Int.mul_comm];rfl
  rw[e1,GP];refine HK λi _=>?_;rw[pY,OI];congr 2;exact dL λt _=>Int.mul_comm _ _
 .rw[eN]at hk
  have e1:X j k%b.p=fZ b.p (dN a v) (fZ b.p (dN a v) X (P v)) (Q v) j k:=by
   rw[iB,mP (G':=hJ) λu hu=>by rw[←hp];exact h.D.pq v (by omega) u k hu hk,aBG hk]
  have:=aDF (n:=dN a v) (F:=fZ b.p (dN a v) X (P v)) (G:=Q v) (j:=k) λt ht=>h0 j t hj ht;rw[←e1]at this;exact CB (Int.emod_emod_of_dvd _ (Int.dvd_refl _)) this
def IF{b c P Q}(h:Iso2 a b P Q)(hca:Fit c a)(hcb:Fit c b):kU c a<=kU c b:=by
 have hp:a.p=c.p:=hca.pe;have eN:=h.dN;have es:=hca.sV;have et:=hca.tV;have el:a.dims.length=c.dims.length:=hca.ne;refine TR hca hcb rfl rfl (λv X=>fZ c.p (dN a v) (P v) X) (λX hX i hi r k hr hk=>?_) (λc' l s v j k hv hj hk=>?_) (λX v hv h0 j k hj hk=>?_)
 .have hX:=hX i hi;have f:=h.D.f i (by rw[hca.qe];exact hi);rw[eN]at hr;rw[es,et,hp]at f;rw[eN,←iB,mO λu hu=>f r u hr hu,iB,mP λu hu=>hX u k hu hk,←iB]
 .rw[pY,Int.emod_emod_of_dvd _ (Int.dvd_refl _)];have e1:sN (λt=>P v j t*gM c a (OS c' l s) v t k) (dN a v)=sN (λt=>P v j t*sN (λi=>c' i*gM c a (l i) v t k) s) (dN a v):=rfl;rw[e1,GP];refine HK λi _=>?_;rw[pY,OI]
 .have e1:X j k%c.p=fZ c.p (dN a v) (Q v) (fZ c.p (dN a v) (P v) X) j k:=by
   rw[←iB,mO (F':=hJ) λu hu=>by rw[←hp];exact h.D.qp v (by omega) j u hj hu,WM hj]
  have:=WL (n:=dN a v) (F:=Q v) (G:=fZ c.p (dN a v) (P v) X) (i:=j) λt ht=>h0 t k (by rw[eN];exact ht) hk;rw[←e1]at this;exact CB (Int.emod_emod_of_dvd _ (Int.dvd_refl _)) this
def WN{P}:∀{n},GY P n<=100000->GY P n=P ^ n
 |0,_=>rfl
 |n+1,h=>by
  have e:GY P (n+1)=if GY P n<=100000 then GY P n*P else GY P n:=rfl
  by_cases g:GY P n<=100000
  .rw[e,aM g,WN g,Nat.pow_succ]
  .rw[e,aN g]at h;exact absurd h g
def Zm{P}(hP:0<P):∀(n:Nat)(e:Nat->Nat),(∀i,i<n->e i<P)->∃c,c<P ^ n/\∀i,i<n->Te P n c i=e i
 |0,e,_=>⟨0,by simp,λi hi=>absurd hi (Nat.not_lt_zero i)⟩
 |n+1,e,h=>by
  obtain⟨c,hc,hd⟩:=Zm hP n e λi hi=>h i (by omega);have hn:=h n (by omega);refine⟨c*P+e n,?_,λi hi=>?_⟩
  .rw[Nat.pow_succ];have:=Nat.mul_le_mul_right P (show c+1<=P ^ n from hc);rw[Nat.add_mul]at this;omega
  .unfold Te;by_cases hi':i<n
   .have e1:P ^ (n+1-1-i)=P*P ^ (n-1-i):=by rw[←Nat.pow_succ'];congr 1;omega
    rw[e1,←Nat.div_div_eq_div_mul,show(c*P+e n)/P=c by rw[Nat.mul_comm,Nat.mul_add_div hP,Nat.div_eq_of_lt hn,Nat.add_zero]];exact hd i hi'
   .have:i=n:=by omega
    subst this;rw[show i+1-1-i=0 by omega,Nat.pow_zero,Nat.div_one,Nat.mul_comm,Nat.mul_add_mod,Nat.mod_eq_of_lt hn]
def aDG{b}(h:Fit a b){x}(hx:Kr a.p (nE a b) (nV a b) (mE a b) x)(hin:∀k,k<nV a b->0<=x k/\x k<a.p):∃c,c<a.p.toNat ^ kU a b/\∀k,k<nV a b->MT a b c k=x k:=by
 have hp:=h.ra.hp;have hb:=fN hp;have hE:=Ij h;have R:=DL hp hE (nV a b) (bG _);obtain⟨fr,hfr⟩:∃fr,fr=lB (nV a b) (bX a.p (nE a b) (mE a b) (nV a b)).2:=⟨_,rfl⟩
 have hl:fr.length=kU a b:=by
  rw[hfr,←Et h];unfold Lz;rw[XM]
 obtain⟨c,hc,hd⟩:=Zm (P:=a.p.toNat) (by omega) (kU a b) (λi=>(x (fr[i]?.getD 0)).toNat) λi hi=>by
  have:=hin _ (hfr▸(PY (n:=nV a b) (L:=(bX a.p (nE a b) (mE a b) (nV a b)).2) (i:=i) (by rw[←hfr];omega)).1);omega
 refine⟨c,hc,λk hk=>?_⟩;have hy:Kr a.p (nE a b) (nV a b) (mE a b) (λk=>MT a b c k+(-1)*x k):=aCU (aED h c) hx λ_ _=>rfl
 have h0:∀k,k<nV a b->k ∉ (bX a.p (nE a b) (mE a b) (nV a b)).2->Z0 a.p (MT a b c k+(-1)*x k):=λk hk hkL=>by
  have hm:k∈fr:=by rw[hfr];exact UR.2 ⟨hk,hkL⟩
  obtain⟨j,hj,rfl⟩:=List.mem_iff_getElem.1 hm;have ej:fr[j]?.getD 0=fr[j]:=by rw[iL hj,iN]
  have e1:MT a b c fr[j]%a.p=x fr[j]%a.p:=by
   unfold MT;rw[Int.emod_emod_of_dvd _ (Int.dvd_refl _)]
   have e2:sN (λi=>(Te a.p.toNat (kU a b) c i:Int)*fI (Lz a b) i fr[j]) (kU a b)%a.p=sN (λi=>(Te a.p.toNat (kU a b) c i:Int)*if i=j then 1 else 0) (kU a b)%a.p:=HK λi hi=>by
    have e3:fI (Lz a b) i fr[j]%a.p=(if i=j then 1 else 0)%a.p:=by
     have g1:=aAk (p:=a.p) R (k:=i) (c:=fr[j]) (by rw[←hfr];omega) hk;have g2:=UT (p:=a.p) (m:=nE a b) (n:=nV a b) (F:=mE a b) (i:=i) (j:=j) (by unfold Zu;rw[←hfr];omega) (by unfold Zu;rw[←hfr];omega);unfold bas at g2;rw[←hfr]at g1 g2;rw[ej]at g2;unfold Lz;rw[g1,g2]
    rw[Int.mul_emod,e3,←Int.mul_emod]
   rw[e2,BN (j:=j) (by omega) λi _ hi=>by rw[aN hi,Int.mul_zero],aM rfl,Int.mul_one,hd j (by omega),ej,Int.toNat_of_nonneg (hin _ hk).1]
  unfold Z0;rw[show MT a b c fr[j]+ -1*x fr[j]=MT a b c fr[j]-x fr[j] by omega];exact Int.emod_eq_emod_iff_emod_sub_eq_zero.1 e1
 have h1:=Vk R ((Dm hp hE _ (nV a b) (bG _)).2 hy) h0 k hk;unfold Z0 at h1;rw[show MT a b c k+ -1*x k=MT a b c k-x k by omega]at h1;have h2:=Int.emod_eq_emod_iff_emod_sub_eq_zero.2 h1;have h3:=aBc h c k hk;have h4:=hin k hk
 rwa [Int.emod_eq_of_lt h3.1 h3.2,Int.emod_eq_of_lt h4.1 h4.2]at h2
def aDH(hp:tJ p=true){d Q}(hG:xQ p d d G)(h:∀i j,i<d->j<d->fZ p d Q G i j=hJ i j):OU p d d G=d:=by
 have h1:=@aBb p d d G;refine Classical.byContradiction λhne=>?_;obtain⟨x,hx,k,hk,h2⟩:=JO hp hG (show(bX p d G d).2.length <d by unfold OU at hne h1;omega)
 have h3:Z0 p (fZ p d Q (fZ p d G λt _=>x t) k 0):=WL λt ht=>by
  rw[pY];unfold Z0;rw[Int.emod_emod_of_dvd _ (Int.dvd_refl p)];exact hx t ht
 rw[←iB,mO (F':=hJ) λu hu=>h k u hk hu,WM hk,h2]at h3;have hb:=fN hp;unfold Z0 at h3;rw[Int.emod_emod_of_dvd _ (Int.dvd_refl p),Int.emod_eq_of_lt (by omega) (by omega)]at h3;omega
def Zn{b P Q}(h:Iso2 a b P Q):∃c,c<a.p.toNat ^ kU a b/\OZ a b c=true:=by
 have hF:=h.F;have hp:=hF.ra.hp;have hg:∀v j k,v<a.dims.length->j<dN b v->k<dN a v->gM a b (OJ a b P) v j k=P v j k:=λv j k hv hj hk=>WK hv hj hk
 have hm:Mq a b (gM a b (OJ a b P)):=λi hi r k hr hk=>by
  have hs:=(hF.ra.s i hi).2;have ht:=(hF.ra.t i hi).2;have f:=h.D.f i hi r k (by rw[←h.dN];exact hr) hk;rw[mP λu hu=>hg _ u k hs hu hk,mO λu hu=>hg _ r u ht hr hu,h.dN];exact f
 have hin:∀k,k<nV a b->0<=OJ a b P k/\OJ a b P k<a.p:=λk hk=>by
  obtain⟨v,j,l,hv,hj,hl,rfl⟩:=Uu hk;have:=hg v j l hv hj hl;unfold gM at this;rw[this];exact h.D.pi v hv j l (by rw[←h.dN];exact hj) hl
 obtain⟨c,hc,he⟩:=aDG hF ((Zl hF _).2 hm) hin;refine⟨c,hc,?_⟩;unfold OZ;refine bF ?_
 rw[show a.dims=(List.range a.dims.length).map λv=>(dN a v:Int) from List.ext_getElem (by simp) λv h1 h2=>by
  have:=(hF.ra.d v h1).1;rw[iL h1,iN]at this
  simpa using this]
 unfold rkL;refine tI λv hv=>?_;have hv:=List.mem_range.1 hv;rw[h.dN]
 have e:∀j k,j<dN a v->k<dN a v->gM a b (MT a b c) v j k=P v j k:=λj k hj hk=>by
  have hj':j<dN b v:=by rw[h.dN];exact hj
  rw[←hg v j k hv hj' hk];unfold gM;exact he _ (rM hv (CK hj' hk))
 rw[aDH (Q:=Q v) hp (λj k hj hk=>by rw[e j k hj hk];exact h.D.pi v hv j k hj hk) λj k hj hk=>by rw[mP λu hu=>e u k hu hk];exact h.D.qp v hv j k hj hk]
def aDI{b P Q}(h:Iso2 a b P Q)(hf:wX a b=true):isI a b≠0:=by
 obtain⟨f1,f2,f3⟩:=WE hf;have va:iI a=true:=by unfold wX at hf;simp only[cB]at hf;exact hf.1
 have vb:iI b=true:=by unfold wX at hf;simp only[cB]at hf;exact hf.2.1
 have h':=h.sym vb va;have e1:kU b a=kU a a:=Nat.le_antisymm (KO h (gL f2) (gL f1)) (KO h' (gL f1) (gL f2));have e2:kU a b=kU b b:=Nat.le_antisymm (KO h' (gL f3) (gL hf)) (KO h (gL hf) (gL f3));have e3:kU a b=kU a a:=Nat.le_antisymm (IF h' (gL hf) (gL f2)) (IF h (gL f2) (gL hf));unfold isI;rw[aM hf,aN (by unfold XW;rw[e1,←e2,e3,h.d];simp)];by_cases hc:GY a.p.toNat (kU a b)<=3000
 .obtain⟨c,hc1,hc2⟩:=Zn h;rw[←WN (by omega)]at hc1;have ht:La a b=GY a.p.toNat (kU a b):=Nat.min_eq_left hc
  have:(Un a b).2=true:=by
   unfold Un aCj;cases hfs:(List.range' 0 (La a b-0)).findSome? λc=>bif OZ a b c then some (wF a b (MT a b c))else none with
   |some f=>rfl
   |none=>
    rw[List.findSome?_eq_none_iff]at hfs;have:=hfs c (by simp;omega);rw[hc2]at this;cases this
  rw[aM this];decide
 .by_cases h2:(Un a b).2=true
  .rw[aM h2];decide
  .rw[aN h2,aN hc];decide
def gx(x:aA)(i:Nat):Int:=x[i]?.getD 0
def LC:∀{ms x},x∈fM ms↔x.length=ms.length/\∀i,i<ms.length->0<=gx x i/\(gx x i).toNat <=(gx ms i).toNat
 | [],x=>by
  simp only[fM,List.mem_singleton,List.length_nil];constructor
  .rintro rfl;exact⟨rfl,λi h=>by omega⟩
  .rintro⟨h,_⟩;exact List.eq_nil_of_length_eq_zero h
 |m::ms,x=>by
  simp only[fM,List.mem_flatMap,List.mem_range,List.mem_map];constructor
  .rintro⟨i,hi,y,hy,rfl⟩;obtain⟨h1,h2⟩:=LC.1 hy;refine⟨by simp[h1],λj hj=>?_⟩;cases j with
   |zero=>show 0<=(i:Int)/\(i:Int).toNat <=m.toNat;omega
   |succ j=>exact h2 j (by simpa using hj)
  .rintro⟨h1,h2⟩;cases x with
   |nil=>simp at h1
   |cons a x=>
    have h3:=h2 0 (by simp);have h4:0<=a/\a.toNat<=m.toNat:=h3;refine⟨a.toNat,by omega,x,LC.2 ⟨by simpa using h1,λj hj=>h2 (j+1) (by simpa using hj)⟩,?_⟩;rw[Int.toNat_of_nonneg h4.1]
def cF(l:aA)(c:Nat):Nat->Nat->Int:=λi j=>l[i*c+j]?.getD 0
def Uv(hi:i<r)(hj:j<c):cF (bT r c F) c i j=F i j:=by
 unfold cF;rw[kE F hi hj,iN]
def Uw(n:Nat)(f:Nat->Bool):Bool:=(List.range n).all f
def IG{n f}(h:Uw n f=true)(hi:i<n):f i=true:=List.all_eq_true.1 h i (List.mem_range.2 hi)
def inB(p:Int)(r c:Nat)(F:Nat->Nat->Int):Bool:=Uw r λi=>Uw c λj=>decide (0<=F i j)&&decide (F i j<p)
def eqB(r c:Nat)(F G:Nat->Nat->Int):Bool:=Uw r λi=>Uw c λj=>decide (F i j=G i j)
def RM{p}(h:inB p r c F=true):xQ p r c F:=λi j hi hj=>by
 have:=IG (IG h hi) hj;simpa using this
def LD(h:eqB r c F G=true):∀i j,i<r->j<c->F i j=G i j:=λi j hi hj=>of_decide_eq_true (IG (IG h hi) hj)
def aDJ(p:Int)(n m:Nat)(s t d:Nat->Nat)(A B P Q:Nat->Nat->Nat->Int):Bool:=
 (Uw n λv=>inB p (d v) (d v) (P v)&&(inB p (d v) (d v) (Q v)&&(eqB (d v) (d v) (fZ p (d v) (P v) (Q v)) hJ&&eqB (d v) (d v) (fZ p (d v) (Q v) (P v)) hJ)))&&
  Uw m λe=>eqB (d (t e)) (d (s e)) (fZ p (d (s e)) (B e) (P (s e))) (fZ p (d (t e)) (P (t e)) (A e))&&eqB (d (t e)) (d (s e)) (fZ p (d (s e)) (A e) (Q (s e))) (fZ p (d (t e)) (Q (t e)) (B e))
def aDK{p n m s t d A B P Q}(h:aDJ p n m s t d A B P Q=true):IsoD p n m s t d A B P Q:=by
 unfold aDJ at h;rw[cB]at h
 have k:=λv (hv:v<n)=>by
  have:=IG h.1 hv;simp only[cB]at this;exact this
 have k2:=λe (he:e<m)=>by
  have:=IG h.2 he;simp only[cB]at this;exact this
 exact⟨λv hv=>RM (k v hv).1,λv hv=>RM (k v hv).2.1,λv hv=>LD (k v hv).2.2.1,λv hv=>LD (k v hv).2.2.2,λe he r c hr hc=>LD (k2 e he).1 r c hr hc,λe he r c hr hc=>LD (k2 e he).2 r c hr hc⟩
def RN(p:Int):aA->aA
 | [a]=>[a]
 | [a,b,c,d]=>[(a*d-b*c)*d%p, -((a*d-b*c)*b)%p, -((a*d-b*c)*c)%p,(a*d-b*c)*a%p]
 |_=>[]
def aEO(p:Int)(n:Nat)(l:aA):Bool:=inB p n n (cF l n)&&(inB p n n (cF (RN p l) n)&&(eqB n n (fZ p n (cF l n) (cF (RN p l) n)) hJ&&eqB n n (fZ p n (cF (RN p l) n) (cF l n)) hJ))
def Zo(p:Int)(r c:Nat):aL:=fM (List.replicate (r*c) (p-1))
def glT(p:Int)(n:Nat):aL:=(Zo p n n).filter (aEO p n)
def upT(p:Int):aA:=if p=2 then [0,1]else [0,1,2]
def Xg(p:Int)(r c:Nat):aL:=
 if r*c=0 then [[]]else if r*c=1 then [[0],[1]]else if r=1 then [[0,0],[0,1]]++(upT p).map λa=>[1,a]else if c=1 then [[0,0],[1,0]]else [[0,0,0,0],[0,1,0,0],[1,0,0,1]]++(upT p).map λa=>[1,a,0,0]
def Xh(r c:Nat):aL:=if r*c=0 then [[]]else if r*c=1 then [[0],[1]]else if r*c=2 then [[0,0],[1,0]]else [[0,0,0,0],[1,0,0,0],[1,0,0,1]]
def Zp(p:Int)(r c:Nat):aL:=(Xg p c r).map λl=>bT r c λi j=>cF l r j i
def mlT(p:Int)(r n c:Nat)(a b:aA):aA:=bT r c (fZ p n (cF a n) (cF b c))
def aFE:∀p∈[(2:Int),3],∀r,r<3->∀c,c<3->(Zo p r c).all (λl=>(glT p r).any λg=>decide (mlT p r r c g l∈Xg p r c))=true:=by decide+kernel
def aFF:∀p∈[(2:Int),3],∀r,r<3->∀c,c<3->(Xg p r c).all (λl=>(glT p c).any λg=>decide (mlT p r c c l (RN p g)∈Xh r c))=true:=by decide+kernel
def aEQ:∀p∈[(2:Int),3],∀r,r<3->∀c,c<3->(Zo p r c).all (λl=>(glT p c).any λg=>decide (mlT p r c c l (RN p g)∈Zp p r c))=true:=by decide+kernel
def TS{p}(h:xQ p r c F):bT r c F∈Zo p r c:=by
 unfold Zo;rw[LC,List.length_replicate,fT];refine⟨rfl,λk hk=>?_⟩;obtain⟨h1,h2⟩:=FH hk
 have e:gx (bT r c F) k=F (k/c) (k%c):=by
  have:=kE F h1 h2;rw[vA]at this;unfold gx;rw[this,iN]
 have e2:gx (List.replicate (r*c) (p-1)) k=p-1:=by unfold gx;simp[hk]
 have:=h _ _ h1 h2;rw[e,e2];omega
def IsoF.congr{p n m s t d A B B'}(h:IsoF p n m s t d A B)(e:∀i,i<m->∀r k,r<d (t i)->k<d (s i)->B i r k=B' i r k):IsoF p n m s t d A B':=by
 obtain⟨P,Q,D⟩:=h;exact⟨P,Q,D.pi,D.qi,D.pq,D.qp,λi hi r k hr hk=>by rw[←D.f i hi r k hr hk];exact mO λu hu=>(e i hi r u hr hu).symm,λi hi r k hr hk=>by rw[D.g i hi r k hr hk];exact mP λu hu=>e i hi u k hu hk⟩
section
variable {p:Int}(hp:p=2∨p=3){n m:Nat}{s t d:Nat->Nat}{A:Nat->Nat->Nat->Int}(hA:∀e,e<m->xQ p (d (t e)) (d (s e)) (A e))(hne:∀e,e<m->s e≠t e)
include hp hA hne
omit hne in
def Zq:IsoF p n m s t d A A:=by
 have hF:tJ p=true:=by rcases hp with rfl|rfl<;>rfl
 refine⟨λ_=>hJ,λ_=>hJ,λv _=>DB hF _ _,λv _=>DB hF _ _,λv _ i j hi hj=>rD hj (DB hF (i+1) (j+1) i j (by omega) (by omega)),λv _ i j hi hj=>rD hj (DB hF (i+1) (j+1) i j (by omega) (by omega)),λe he r k hr hk=>?_,λe he r k hr hk=>?_⟩
 .rw[rD hk (hA e he r k hr hk),yR hr (hA e he r k hr hk)]
 .rw[rD hk (hA e he r k hr hk),yR hr (hA e he r k hr hk)]
def TU{v:Nat}{g:aA}(hg:g∈glT p (d v)):IsoF p n m s t d A (Oa p s t d v (cF g (d v)) (cF (RN p g) (d v)) A)/\(∀e,e<m->xQ p (d (t e)) (d (s e)) (Oa p s t d v (cF g (d v)) (cF (RN p g) (d v)) A e))/\∀e,s e≠v->t e≠v->Oa p s t d v (cF g (d v)) (cF (RN p g) (d v)) A e=A e:=by
 have hF:tJ p=true:=by rcases hp with rfl|rfl<;>rfl
 have h:=(List.mem_filter.1 hg).2;unfold aEO at h;simp only[cB]at h;refine⟨aBE hF hA hne (RM h.1) (RM h.2.1) (LD h.2.2.1) (LD h.2.2.2),λe he=>?_,λe h1 h2=>?_⟩
 .unfold Oa;by_cases h1:t e=v
  .rw[aM h1];exact CE hF _ _ _ _ _
  .rw[aN h1];by_cases h2:s e=v
   .rw[aM h2];exact CE hF _ _ _ _ _
   .rw[aN h2];exact hA e he
 .unfold Oa;rw[aN h2,aN h1]
def TW{e:Nat}(he:e<m)(h1:d (t e)<=2)(h2:d (s e)<=2):∃B,IsoF p n m s t d A B/\(∀e,e<m->xQ p (d (t e)) (d (s e)) (B e))/\(∃E∈Xg p (d (t e)) (d (s e)),bT (d (t e)) (d (s e)) (B e)=E)/\∀e',s e'≠t e->t e'≠t e->B e'=A e':=by
 have hm:p∈[(2:Int),3]:=by rcases hp with rfl|rfl<;>simp
 have k:=List.all_eq_true.1 (aFE p hm (d (t e)) (by omega) (d (s e)) (by omega)) _ (TS (hA e he));obtain⟨g,hg,hd⟩:=List.any_eq_true.1 k;obtain⟨a1,a2,a3⟩:=TU (n:=n) hp hA hne (v:=t e) hg;refine⟨_,a1,a2,⟨_,of_decide_eq_true hd,?_⟩,a3⟩;unfold mlT;refine cE λi j hi hj=>?_;unfold Oa;rw[aM rfl];exact mP λu hu=>(Uv hu hj).symm
def TX{e:Nat}(he:e<m){L:aL}(k:(glT p (d (s e))).any (λg=>decide (mlT p (d (t e)) (d (s e)) (d (s e)) (bT (d (t e)) (d (s e)) (A e)) (RN p g)∈L))=true):∃B,IsoF p n m s t d A B/\(∀e,e<m->xQ p (d (t e)) (d (s e)) (B e))/\(∃E∈L,bT (d (t e)) (d (s e)) (B e)=E)/\∀e',s e'≠s e->t e'≠s e->B e'=A e':=by
 obtain⟨g,hg,hd⟩:=List.any_eq_true.1 k;obtain⟨a1,a2,a3⟩:=TU (n:=n) hp hA hne (v:=s e) hg;refine⟨_,a1,a2,⟨_,of_decide_eq_true hd,?_⟩,a3⟩;unfold mlT;refine cE λi j hi hj=>?_;unfold Oa;rw[aN (λh=>hne e he h.symm),aM rfl];exact mO λu hu=>(Uv hi hu).symm
def TY(hs:∀e,e<m->s e<n)(ht:∀e,e<m->t e<n)(h0:0<m)(h1:d (t 0)<=2)(h2:d (s 0)<=2)(hx:∀e,e<m->e≠0->s e≠s 0/\t e≠s 0):∃B,IsoF p n m s t d A B/\(∀e,e<m->xQ p (d (t e)) (d (s e)) (B e))/\bT (d (t 0)) (d (s 0)) (B 0)∈Xh (d (t 0)) (d (s 0)):=by
 have hF:tJ p=true:=by rcases hp with rfl|rfl<;>rfl
 have hm:p∈[(2:Int),3]:=by rcases hp with rfl|rfl<;>simp
 obtain⟨B,b1,b2,⟨E,b3,b4⟩,_⟩:=TW (n:=n) hp hA hne h0 h1 h2;have k:=List.all_eq_true.1 (aFF p hm (d (t 0)) (by omega) (d (s 0)) (by omega)) E b3;rw[←b4]at k;obtain⟨C,c1,c2,⟨N,c3,c4⟩,_⟩:=TX (n:=n) hp b2 hne h0 k;exact⟨C,b1.trans hF hs ht c1,c2,by rw[c4];exact c3⟩
def TZ(hs:∀e,e<m->s e<n)(ht:∀e,e<m->t e<n)(h0:1<m)(hd:∀v,v<n->d v<=2)(hx:∀e,e<m->e≠0->s e≠s 0/\t e≠s 0):
  (s 0≠t 1->t 0≠t 1->∃B,IsoF p n m s t d A B/\bT (d (t 0)) (d (s 0)) (B 0)∈Xh (d (t 0)) (d (s 0))/\bT (d (t 1)) (d (s 1)) (B 1)∈Xg p (d (t 1)) (d (s 1)))/\(s 0≠s 1->t 0≠s 1->∃B,IsoF p n m s t d A B/\bT (d (t 0)) (d (s 0)) (B 0)∈Xh (d (t 0)) (d (s 0))/\bT (d (t 1)) (d (s 1)) (B 1)∈Zp p (d (t 1)) (d (s 1))):=by
 have hF:tJ p=true:=by rcases hp with rfl|rfl<;>rfl
 have hm:p∈[(2:Int),3]:=by rcases hp with rfl|rfl<;>simp
 obtain⟨B,b1,b2,b3⟩:=TY (n:=n) hp hA hne hs ht (by omega) (hd _ (ht 0 (by omega))) (hd _ (hs 0 (by omega))) hx;have d1:=hd _ (ht 1 h0);have d2:=hd _ (hs 1 h0);constructor
 .intro g1 g2;obtain⟨C,c1,c2,⟨E,c3,c4⟩,c5⟩:=TW (n:=n) hp b2 hne h0 d1 d2;exact⟨C,b1.trans hF hs ht c1,by rw[c5 0 g1 g2];exact b3,by rw[c4];exact c3⟩
 .intro g1 g2;have k:=List.all_eq_true.1 (aEQ p hm (d (t 1)) (by omega) (d (s 1)) (by omega)) _ (TS (b2 1 h0));obtain⟨C,c1,c2,⟨E,c3,c4⟩,c5⟩:=TX (n:=n) hp b2 hne h0 k;exact⟨C,b1.trans hF hs ht c1,by rw[c5 0 g1 g2];exact b3,by rw[c4];exact c3⟩
end
end
variable{m:Nat}
noncomputable section
open Frc (frc)
def aDL(p:Int)(n:Nat):List (aA×aA):=
 if n=0 then [([],[])]else if n=1 then [([1],[1])]else [([1,0,0,1],[1,0,0,1]),([0,1,1,0],[0,1,1,0])]++
  if p=2 then [([1,1,1,0],[0,1,1,1]),([0,1,1,1],[1,1,1,0])]else [([1,1,1,0],[0,1,1,2]),([1,1,2,0],[0,2,1,1]),([0,1,1,1],[2,1,1,0]),([0,1,1,2],[1,1,1,0])]
def aBH(d:Nat->Nat)(g0 g1 g2:aA)(v:Nat):Nat->Nat->Int:=cF (if v=0 then g0 else if v=1 then g1 else g2) (d v)
def aBl(p:Int)(n m:Nat)(s t d:Nat->Nat)(A B:Nat->Nat->Nat->Int):Bool:=(aDL p (d 0)).any λa=>(aDL p (d 1)).any λb=>
 (decide (m=0)||eqB (d (t 0)) (d (s 0)) (fZ p (d (s 0)) (B 0) (aBH d a.1 b.1 [] (s 0))) (fZ p (d (t 0)) (aBH d a.1 b.1 [] (t 0)) (A 0)))&&
  (aDL p (d 2)).any λc=>aDJ p n m s t d A B (aBH d a.1 b.1 c.1) (aBH d a.2 b.2 c.2)
def Xi{s t d A B}(h:aBl p n m s t d A B=true):IsoF p n m s t d A B:=by
 obtain⟨a,_,h⟩:=List.any_eq_true.1 h;obtain⟨b,_,h⟩:=List.any_eq_true.1 h;rw[cB]at h;obtain⟨c,_,h⟩:=List.any_eq_true.1 h.2;exact⟨_,_,aDK h⟩
def tgs(p:Int)(q:Qv)(d:Nat->Nat):List aL:=
 if q.src.length=0 then [[]]else if q.src.length=1 then(Xh (d (tXq q 0)) (d (sXq q 0))).map λN=>[N]else(Xh (d (tXq q 0)) (d (sXq q 0))).flatMap λN=>
  (if tXq q 0=tXq q 1 then Zp p (d (tXq q 1)) (d (sXq q 1))else Xg p (d (tXq q 1)) (d (sXq q 1))).map λE=>[N,E]
def tgF(l:aL)(q:Qv)(d:Nat->Nat)(e:Nat):Nat->Nat->Int:=cF (l[e]?.getD []) (d (sXq q e))
def rkE(l:aA):Int:=if l.all λx=>decide (x=0)then 0 else if l=[1,0,0,1]then 2 else 1
def prn(z:Rp)(l:aL):Bool:=decide ((z.maps[0]?.getD (⟨0,0,[]⟩:Mt)).cells.sum=(l[0]?.getD []).sum)&&decide ((z.maps[1]?.getD (⟨0,0,[]⟩:Mt)).cells.sum=rkE (l[1]?.getD []))
def cnF(m:Nat)(w:aA):aA:=(List.range m).map λ(i:Nat)=>((w.filter λa=>decide (a=Int.ofNat i)).length:Int)
def zsT(p:Int)(q:Qv)(d:aA):List (aA×Rp×Bool):=(dcT q d).1.map λw=>(cnF (PV q).1.length w,(tw (cH p q (cnF (PV q).1.length w))).getD (⟨0,⟨0,[],[]⟩,[],[]⟩,false))
def zOk(p:Int)(q:Qv)(d:aA)(z:aA×Rp×Bool):Bool:=z.2.2&&(decide (z.1.length<=20)&&(decide (z.2.1.p=p)&&(decide (z.2.1.q=q)&&(decide (z.2.1.dims=d)&&(bB z.2.1&&(iI z.2.1&&(decide (tw (cV z.2.1)=some (z.1,true))&&decide (tw (cJ z.2.1)=some (z.1,true)))))))))
def DC(p:Int)(q:Qv)(d:aA):Bool:=frc (zsT p q d) λZ=>Z.all (zOk p q d)&&(tgs p q (fXd d)).all λl=>frc l λl=>Z.any λz=>prn z.2.1 l&&aBl p q.n.toNat q.src.length (sXq q) (tXq q) (fXd d) (aF z.2.1) (tgF l q (fXd d))
def aFH{d}(h:DC p q d=true):∀l∈tgs p q (fXd d),∃m z,cH p q m=some (z,true)/\m.length<=20/\z.p=p/\z.q=q/\z.dims=d/\bR z/\iI z=true/\cV z=some (m,true)/\cJ z=some (m,true)/\IsoF p q.n.toNat q.src.length (sXq q) (tXq q) (fXd d) (aF z) (tgF l q (fXd d)):=by
 intro l hl;unfold DC at h;rw[Frc.eq,cB]at h;obtain⟨h1,h2⟩:=h;have h2:=List.all_eq_true.1 h2 l hl;rw[Frc.eq]at h2;obtain⟨z,hz,h3⟩:=List.any_eq_true.1 h2;have h4:=List.all_eq_true.1 h1 z hz;unfold zOk at h4;simp only[cB,iS]at h3 h4;obtain⟨w,hw,e⟩:=List.mem_map.1 hz;obtain⟨k1,k2,k3,k4,k5,k6,k7,k8,k9⟩:=h4;refine⟨z.1,z.2.1,?_,k2,k3,k4,k5,ZW k6,k7,DS k8,DS k9,Xi h3.2⟩;rw[←e]at k1 ⊢;simp only at k1 ⊢;cases hr:tw (cH p q (cnF (PV q).1.length w))with
 |none=>rw[hr]at k1;cases k1
 |some x=>
  rw[hr]at k1;refine DS ?_;rw[hr,iN];exact congrArg some (Prod.ext rfl k1)
def WO(h0:∀l∈Fw 2,DC p q (0::l)=true)(h1:∀l∈Fw 2,DC p q (1::l)=true)(h2:∀l∈Fw 2,DC p q (2::l)=true):∀d∈Fw 3,DC p q d=true:=λd hd=>by
 obtain⟨l,hl,h⟩:=List.mem_flatMap.1 hd;simp only[dR,List.not_mem_nil,or_false]at h;rcases h with rfl|rfl|rfl
 .exact h0 l hl
 .exact h1 l hl
 .exact h2 l hl
def aBm(h1:∀d∈Fw 1,DC p ⟨1,[],[]⟩ d=true)(h2:∀d∈Fw 2,DC p ⟨2,[0],[1]⟩ d=true)(h3:∀d∈Fw 3,DC p ⟨3,[0,1],[1,2]⟩ d=true)(h4:∀d∈Fw 3,DC p ⟨3,[0,2],[1,1]⟩ d=true):∀q∈Ys,∀d∈Fw q.n.toNat,DC p q d=true:=λq hq=>by
 unfold Ys at hq;simp only[dR,List.not_mem_nil,or_false]at hq;rcases hq with rfl|rfl|rfl|rfl
 .exact h1
 .exact h2
 .exact h3
 .exact h4
end
section
def aDN:∀l∈Fw 2,DC 2 ⟨3,[0,1],[1,2]⟩ (0::l)=true:=by decide+kernel
def aDO:∀l∈Fw 2,DC 2 ⟨3,[0,1],[1,2]⟩ (1::l)=true:=by decide+kernel
def aDP:∀l∈Fw 2,DC 2 ⟨3,[0,1],[1,2]⟩ (2::l)=true:=by decide+kernel
def aDQ:∀l∈Fw 2,DC 2 ⟨3,[0,2],[1,1]⟩ (0::l)=true:=by decide+kernel
def aDR:∀l∈Fw 2,DC 2 ⟨3,[0,2],[1,1]⟩ (1::l)=true:=by decide+kernel
def aDS:∀l∈Fw 2,DC 2 ⟨3,[0,2],[1,1]⟩ (2::l)=true:=by decide+kernel
def aFI:∀q∈Ys,∀d∈Fw q.n.toNat,DC 2 q d=true:=aBm (by decide+kernel) (by decide+kernel) (WO aDN aDO aDP) (WO aDQ aDR aDS)
def aDT:∀l∈Fw 2,DC 3 ⟨3,[0,1],[1,2]⟩ (0::l)=true:=by decide+kernel
def aDU:∀l∈Fw 2,DC 3 ⟨3,[0,1],[1,2]⟩ (1::l)=true:=by decide+kernel
def aDV:∀l∈Fw 2,DC 3 ⟨3,[0,1],[1,2]⟩ (2::l)=true:=by decide+kernel
def aDW:∀l∈Fw 2,DC 3 ⟨3,[0,2],[1,1]⟩ (0::l)=true:=by decide+kernel
def aDX:∀l∈Fw 2,DC 3 ⟨3,[0,2],[1,1]⟩ (1::l)=true:=by decide+kernel
def aDY:∀l∈Fw 2,DC 3 ⟨3,[0,2],[1,1]⟩ (2::l)=true:=by decide+kernel
def aFJ:∀q∈Ys,∀d∈Fw q.n.toNat,DC 3 q d=true:=aBm (by decide+kernel) (by decide+kernel) (WO aDT aDU aDV) (WO aDW aDX aDY)
def IsoF.sym{s t d A B}(h:IsoF p n m s t d A B):IsoF p n m s t d B A:=by
 obtain⟨P,Q,D⟩:=h;exact⟨Q,P,D.sym⟩
section
variable {r:Rp}(hv:iI r=true)(hp:r.p=2∨r.p=3)(hq:r.q∈Ys)(hd:∀x∈r.dims,0<=x/\x<=2)
include hv hp hq hd
def Xj:∃l∈tgs r.p r.q (fXd r.dims),IsoF r.p r.dims.length r.q.src.length (sV r) (tV r) (dN r) (aF r) (tgF l r.q (fXd r.dims)):=by
 have R:=Vu hv;have hA:∀e,e<r.q.src.length->xQ r.p (dN r (tV r e)) (dN r (sV r e)) (aF r e):=λe he=>(R.m e he).2;have hs:∀e,e<r.q.src.length->sV r e<r.dims.length:=λe he=>(R.s e he).2;have ht:∀e,e<r.q.src.length->tV r e<r.dims.length:=λe he=>(R.t e he).2
 have h2:∀v,v<r.dims.length->dN r v<=2:=λv hv'=>by
  have h1:=(R.d v hv').1;have:=hd _ (iR (l:=r.dims) 0 hv');omega
 have key:∀(e:Nat)(B:Nat->Nat->Nat->Int)(l:aL),l[e]?.getD []=bT (dN r (tV r e)) (dN r (sV r e)) (B e)->∀j k,j<dN r (tV r e)->k<dN r (sV r e)->B e j k=tgF l r.q (fXd r.dims) e j k:=λe B l he j k hj hk=>by
  unfold tgF;rw[he];exact(Uv hj hk).symm
 unfold Ys at hq;simp only[dR,List.not_mem_nil,or_false]at hq;have es:∀e,sV r e=(r.q.src[e]?.getD 0).toNat:=λ_=>rfl;have et:∀e,tV r e=(r.q.tgt[e]?.getD 0).toNat:=λ_=>rfl;rcases hq with hq|hq|hq|hq
 .have hm:r.q.src.length=0:=by rw[hq];rfl
  refine⟨[],?_,(Zq hp hA).congr λi hi=>by omega⟩;unfold tgs;rw[aM hm];simp
 .have hm:r.q.src.length=1:=by rw[hq];rfl
  have hne:∀e,e<r.q.src.length->sV r e≠tV r e:=λe he=>by
   obtain rfl:e=0:=by omega
   rw[es,et,hq];decide
  obtain⟨B,b1,b2,b3⟩:=TY (n:=r.dims.length) hp hA hne hs ht (by omega) (h2 _ (ht 0 (by omega))) (h2 _ (hs 0 (by omega))) (λe he h=>by omega);refine⟨[bT (dN r (tV r 0)) (dN r (sV r 0)) (B 0)],?_,b1.congr λi hi j k hj hk=>?_⟩
  .unfold tgs;rw[aN (by omega),aM hm];exact List.mem_map.2 ⟨_,b3,rfl⟩
  .obtain rfl:i=0:=by omega
   exact key 0 B _ rfl j k hj hk
 .have hm:r.q.src.length=2:=by rw[hq];rfl
  have c:sV r 0=0/\tV r 0=1/\sV r 1=1/\tV r 1=2:=by
   rw[es,es,et,et,hq];decide
  obtain⟨c1,c2,c3,c4⟩:=c
  have hne:∀e,e<r.q.src.length->sV r e≠tV r e:=λe he=>by
   rcases (show e=0∨e=1 by omega)with rfl|rfl<;>omega
  obtain⟨B,b1,b2,b3⟩:=(TZ (n:=r.dims.length) hp hA hne hs ht (by omega) h2 (λe he h=>by
   obtain rfl:e=1:=by omega
   omega)).1 (by omega) (by omega)
  refine⟨[bT (dN r (tV r 0)) (dN r (sV r 0)) (B 0),bT (dN r (tV r 1)) (dN r (sV r 1)) (B 1)],?_,b1.congr λi hi j k hj hk=>?_⟩
  .unfold tgs;rw[aN (by omega),aN (by omega)];refine List.mem_flatMap.2 ⟨_,b2,?_⟩;rw[aN (show ¬ tXq r.q 0=tXq r.q 1 by show ¬ tV r 0=tV r 1;omega)];exact List.mem_map.2 ⟨_,b3,rfl⟩
  .rcases (show i=0∨i=1 by omega)with rfl|rfl
   .exact key 0 B _ rfl j k hj hk
   .exact key 1 B _ rfl j k hj hk
 .have hm:r.q.src.length=2:=by rw[hq];rfl
  have c:sV r 0=0/\tV r 0=1/\sV r 1=2/\tV r 1=1:=by
   rw[es,es,et,et,hq];decide
  obtain⟨c1,c2,c3,c4⟩:=c
  have hne:∀e,e<r.q.src.length->sV r e≠tV r e:=λe he=>by
   rcases (show e=0∨e=1 by omega)with rfl|rfl<;>omega
  obtain⟨B,b1,b2,b3⟩:=(TZ (n:=r.dims.length) hp hA hne hs ht (by omega) h2 (λe he h=>by
   obtain rfl:e=1:=by omega
   omega)).2 (by omega) (by omega)
  refine⟨[bT (dN r (tV r 0)) (dN r (sV r 0)) (B 0),bT (dN r (tV r 1)) (dN r (sV r 1)) (B 1)],?_,b1.congr λi hi j k hj hk=>?_⟩
  .unfold tgs;rw[aN (by omega),aN (by omega)];refine List.mem_flatMap.2 ⟨_,b2,?_⟩;rw[aM (show tXq r.q 0=tXq r.q 1 by show tV r 0=tV r 1;omega)];exact List.mem_map.2 ⟨_,b3,rfl⟩
  .rcases (show i=0∨i=1 by omega)with rfl|rfl
   .exact key 0 B _ rfl j k hj hk
   .exact key 1 B _ rfl j k hj hk
omit hp hq in
def Zr:r.dims∈Fw r.q.n.toNat:=by
 have h1:=(mK (AX hv).2.1).2.1;rw[show r.q.n.toNat=r.dims.length by omega];exact Qz _ hd
def aDZ:∃m z,cH r.p r.q m=some (z,true)/\m.length<=20/\z.p=r.p/\z.q=r.q/\z.dims=r.dims/\bR z/\iI z=true/\cV z=some (m,true)/\cJ z=some (m,true)/\∃P Q,Iso2 z r P Q:=by
 have R:=Vu hv;have hb:=Zr hv hd
 have hz:DC r.p r.q r.dims=true:=by
  rcases hp with e|e
  .rw[e];exact aFI r.q hq _ hb
  .rw[e];exact aFJ r.q hq _ hb
 obtain⟨l,hl,hiso⟩:=Xj hv hp hq hd;obtain⟨m,z,k1,k2,k3,k4,k5,k6,k7,k8,k9,i1⟩:=aFH hz l hl
 have hn:r.q.n.toNat=r.dims.length:=by
  have h1:=(mK (AX hv).2.1).2.1;omega
 rw[hn]at i1;have i2:=i1.trans R.hp (λe he=>(R.s e he).2) (λe he=>(R.t e he).2) hiso.sym;obtain⟨P,Q,D⟩:=i2;refine⟨m,z,k1,k2,k3,k4,k5,k6,k7,k8,k9,P,Q,Qm k7 hv k3 k4,k5.symm,?_⟩;have e1:sV z=sV r:=funext λi=>by unfold sV;rw[k4]
 have e2:tV z=tV r:=funext λi=>by unfold tV;rw[k4]
 have e3:dN z=dN r:=funext λi=>by unfold dN;rw[k5]
 rw[e1,e2,e3,k5,k3,k4];exact D
end
def Ta{r}(hr:bR r)(hp:r.p=2∨r.p=3)(hq:r.q∈Hs)(hd:∀x∈r.dims,0<=x/\x<=2):∃w b,cV r=some (w,b)/\cJ r=some (w,b)/\w.length<=20/\(b=true->∃x,cH r.p r.q w=some (x,true)/\bR x/\x.dims=r.dims/\isI x r≠0):=by
 have hpD:r.p∈pD:=by rcases hp with e|e<;>rw[e]<;>decide
 cases hv:iI r with
 |false=>
  unfold cV cJ;rw[Bb hr,wO hr,hv];exact⟨[],false,rfl,rfl,by simp,λh=>by cases h⟩
 |true=>
  by_cases hq4:r.q∈Ys
  .obtain⟨m,z,k1,k2,k3,k4,k5,k6,k7,k8,k9,P,Q,hI⟩:=aDZ hv hp hq4 hd
   obtain⟨g1,g2⟩:=aBD hr k6 hv k7 k3 k4 k5 hpD hq λL hL=>by
    unfold Cd
    rw[show L.map (λy=>Vx y r)=L.map λy=>Vx y z from tI λy hy=>by
     have Y:=hL y hy
     have f2:wX y r=true:=by
      unfold wX;rw[Y.v,hv,Y.hp,Y.hq];simp
     have f1:wX y z=true:=by
      unfold wX;rw[Y.v,k7,Y.hp,Y.hq,k3,k4];simp
     unfold Vx
     rw[aM f2,aM f1,Nat.le_antisymm (IF (hI.sym hv k7) (gL f2) (gL f1)) (IF hI (gL f1) (gL f2))]]
   have hf:wX z r=true:=by
    unfold wX;rw[k7,hv,k3,k4];simp
   exact⟨m,true,g1.trans k8,g2.trans k9,k2,λ_=>⟨z,k1,k6,k5,aDI hI hf⟩⟩
  .have e:r.q=⟨2,[0,0],[1,1]⟩:=by
    rcases eY.1 hq with h|h
    .exact absurd h hq4
    .exact List.mem_singleton.1 h
   have hb:=Zr hv hd;have hn:=(mK (AX hv).2.1).2.1;have hb2:(decide (r.q∈Hs)&&decide (r.dims∈Fw r.q.n.toNat))=true:=by rw[bF hq,bF hb];rfl
   have hb3:(decide (r.p∈pD)&&decide (r.q∈Hs))=true:=by rw[bF hq,bF hpD];rfl
   have i3:Xp r.p r.q=([],false):=by
    unfold Xp;rw[e];exact aN λh=>by cases h.2
   have hq2:r.q.n=2:=by rw[e]
   unfold cV cJ;rw[Bb hr,wO hr,hv,(TH hb3).1,(TH hb3).2,(WG hb2).1,(WG hb2).2,(ZV hq).2,i3];simp only[aC,gP,Bool.not_false,aW,aJ];rw[fC (by omega),fC (by omega)];exact⟨[],false,rfl,rfl,by simp,λh=>by cases h⟩
def aDa:∀q∈nmQ,q.src.length<=10/\q.tgt.length<=10:=by decide
def Tc{d ms}(hq:bQ q)(h1:d.length<=5)(h2:ms.length<=10)(h3:∀m∈ms,m.cells.length<=100):bR ⟨p,q,d,ms⟩:=
 ⟨hq,by unfold bI;simp only;omega,⟨by simp only;omega,λm hm=>⟨by unfold bI;have:=h3 m hm;omega,trivial⟩⟩,trivial⟩
section
variable {b:aA}{i:Int}(hb:b.length<=1048576)(hi:Fv b i)(h:Int)
include hb hi
def RO:∃(i' h' p:Int),mD ⟨b,i,h⟩=some (i',h',p)/\Fv b i'/\p∈pD:=by
 unfold mD;obtain⟨i1,h1,t,e1,k1⟩:=OD hb hi h (n:=16) (by omega);rw[e1,aC];cases t with
 |true=>
  simp only[aJ];obtain⟨i2,h2,p,e,k2,hp⟩:=Ac hb k1 h1 (l:=[(-1),0,1,4,7]) (by simp) (by simp);rw[e,aC];exact⟨_,_,_,rfl,k2,(by decide:∀p∈[(-1:Int),0,1,4,7],p∈pD) p hp⟩
 |false=>
  simp only[aW];obtain⟨i2,h2,p,e,k2,hp⟩:=Ac hb k1 h1 (l:=[2,3,5,2,3]) (by simp) (by simp);rw[e,aC];exact⟨_,_,_,rfl,k2,(by decide:∀p∈[(2:Int),3,5,2,3],p∈pD) p hp⟩
def RP:∃(i' h':Int)(q:Qv),pA ⟨b,i,h⟩=some (i',h',q.n,q.src,q.tgt)/\Fv b i'/\q∈Hs:=by
 unfold pA;obtain⟨i1,h1,s,e,k1,hs⟩:=Zb hb hi h (l:=[(⟨#[65,49]⟩:ByteArray),(⟨#[65,50]⟩:ByteArray),(⟨#[65,51]⟩:ByteArray),(⟨#[65,51,105,110]⟩:ByteArray),(⟨#[65,50]⟩:ByteArray),(⟨#[75,50]⟩:ByteArray)]) (by simp) (by simp)
 have hq:∃q∈Hs,fJ s=some (q,true):=by
  simp only[dR,List.not_mem_nil,or_false]at hs;rcases hs with rfl|rfl|rfl|rfl|rfl|rfl
  .exact⟨_,by decide,HU (k:=0) (by omega)⟩
  .exact⟨_,by decide,HU (k:=1) (by omega)⟩
  .exact⟨_,by decide,HU (k:=2) (by omega)⟩
  .exact⟨_,by decide,HU (k:=3) (by omega)⟩
  .exact⟨_,by decide,HU (k:=1) (by omega)⟩
  .exact⟨_,by decide,HU (k:=7) (by omega)⟩
 obtain⟨q,hq,e2⟩:=hq;rw[e,aC];simp only;rw[e2,aC];exact⟨_,_,_,rfl,k1,hq⟩
def aES:∃(i' h':Int)(r:Rp),Ab ⟨b,i,h⟩=some (i',h',r.p,r.q.n,r.q.src,r.q.tgt,r.dims,r.maps)/\Fv b i'/\bR r/\(r.p=2∨r.p=3)/\r.q∈Hs/\(r.dims.length:Int)=r.q.n/\∀x∈r.dims,0<=x/\x<=2:=by
 unfold Ab;obtain⟨i1,h1,p,e1,k1,hp⟩:=OE hb hi h;obtain⟨i2,h2,q,e2,k2,hq⟩:=RP hb k1 h1;obtain⟨v1,v2⟩:=OH q hq;obtain⟨i3,h3,d,ms,e3,k3,l1,l2,l3,l4,l5⟩:=aCx hb k2 h2 p (Im v2) (m:=2) (by omega) (by omega);rw[e1,aC];simp only;rw[e2,aC];simp only;have q0:(⟨q.n,q.src,q.tgt⟩:Qv)=q:=rfl;rw[q0,e3,aC];exact⟨i3,h3,⟨p,q,d,ms⟩,rfl,k3,Tc (Im v2) l1 l2 l3,hp,hq,l5 v1,l4⟩
def aET:∃(i' h':Int)(q:Qv),CG ⟨b,i,h⟩=some (i',h',q.n,q.src,q.tgt)/\Fv b i'/\bQ q:=by
 unfold CG;obtain⟨i1,h1,s,e,k1,hs⟩:=Zb hb hi h (l:=[(⟨#[65,49]⟩:ByteArray),(⟨#[65,50]⟩:ByteArray),(⟨#[65,51]⟩:ByteArray),(⟨#[65,52]⟩:ByteArray),(⟨#[65,52]⟩:ByteArray)]) (by simp) (by simp)
 obtain⟨q,hq,e2⟩:=Pm (s:=s) (by
  simp only[dR,List.not_mem_nil,or_false]at hs
  rcases hs with rfl|rfl|rfl|rfl|rfl<;>simp[nmL])
 rw[e,aC];simp only;rw[e2,aC];exact⟨_,_,_,rfl,k1,Im (aDa q hq)⟩
def d23:∃(i' h':Int)(r:Rp),wR ⟨b,i,h⟩=some (i',h',r.p,r.q.n,r.q.src,r.q.tgt,r.dims,r.maps)/\Fv b i'/\bR r:=by
 unfold wR;obtain⟨i1,h1,t,e1,k1⟩:=OD hb hi h (n:=8) (by omega);rw[e1,aC];cases t with
 |true=>
  simp only[aJ];obtain⟨i2,h2,r,e2,k2,hr⟩:=aEL hb k1 h1;rw[e2,aC];exact⟨_,_,r,rfl,k2,hr⟩
 |false=>
  simp only[aW];obtain⟨i2,h2,p,e2,k2,_⟩:=OE hb k1 h1;obtain⟨i3,h3,q,e3,k3,hq⟩:=aET hb k2 h2;obtain⟨i4,h4,d,ms,e4,k4,l1,l2,l3⟩:=dOf hb k3 h3 p hq (m:=3) (by omega) (by omega);rw[e2,aC];simp only;rw[e3,aC];simp only;have q0:(⟨q.n,q.src,q.tgt⟩:Qv)=q:=rfl;rw[q0,e4,aC];exact⟨_,_,⟨p,q,d,ms⟩,rfl,k4,Tc hq l1 l2 l3⟩
end
section
variable {c:aA}(hc:c.length<=1048576)
include hc
def aEU:∃r:Rp,kY c=some (r.p,r.q.n,r.q.src,r.q.tgt,r.dims,r.maps)/\bR r/\(r.p=2∨r.p=3)/\r.q∈Hs/\∀x∈r.dims,0<=x/\x<=2:=by
 unfold kY;obtain⟨h0,e0⟩:=XY c hc;obtain⟨i1,h1,r,e1,_,g1,g2,g3,_,g4⟩:=aES hc (c0 c) h0;rw[e0,aC,e1,aC];exact⟨r,rfl,g1,g2,g3,g4⟩
def Zs:∃(p:Int)(q:Qv)(d:aA),rI c=some (p,q.n,q.src,q.tgt,d)/\p∈pD/\q∈Hs/\d∈Fw q.n.toNat:=by
 unfold rI;obtain⟨h0,e0⟩:=XY c hc;obtain⟨i1,h1,p,e1,k1,hpD⟩:=RO hc (c0 c) h0;obtain⟨i2,h2,q,e2,k2,hq⟩:=RP hc k1 h1;obtain⟨i3,h3,d,e3,_,l1,l2⟩:=aBh hc k2 h2 q (most:=2) (by omega) (by omega);obtain⟨n,hn,n1,n5,_⟩:=kT (OH q hq).1;rw[e0,aC,e1,aC];simp only;rw[e2,aC];simp only;have q0:(⟨q.n,q.src,q.tgt⟩:Qv)=q:=rfl;rw[q0,e3,aC];exact⟨p,q,d,rfl,hpD,hq,by rw[show q.n.toNat=d.length by omega];exact Qz d l2⟩
def aDb:∃(p:Int)(q:Qv),kG c=some (p,q.n,q.src,q.tgt)/\p∈pD/\q∈Hs:=by
 unfold kG;obtain⟨h0,e0⟩:=XY c hc;obtain⟨i1,h1,p,e1,k1,hpD⟩:=RO hc (c0 c) h0;obtain⟨i2,h2,q,e2,k2,hq⟩:=RP hc k1 h1;rw[e0,aC,e1,aC];simp only;rw[e2,aC];exact⟨p,q,rfl,hpD,hq⟩
def aEV:∃(m:aA)(p:Int)(q:Qv),iY c=some (m,p,q.n,q.src,q.tgt)/\p∈pD/\q∈Hs/\m.length<=20:=by
 unfold iY;obtain⟨h0,e0⟩:=XY c hc;obtain⟨i1,h1,p,e1,k1,hpD⟩:=RO hc (c0 c) h0;obtain⟨i2,h2,q,e2,k2,hq⟩:=RP hc k1 h1;obtain⟨i3,h3,p',e3,k3,hp⟩:=OE hc k2 h2;obtain⟨v1,v2⟩:=OH q hq;obtain⟨i4,h4,d,ms,e4,k4,l1,l2,l3,l4,l5⟩:=aCx hc k3 h3 p' (Im v2) (m:=2) (by omega) (by omega);obtain⟨w,t,_,e5,hw,_⟩:=Ta (r:=⟨p',q,d,ms⟩) (Tc (Im v2) l1 l2 l3) hp hq l4;rw[e0,aC,e1,aC];simp only;rw[e2,aC];simp only;rw[e3,aC];simp only;have q0:(⟨q.n,q.src,q.tgt⟩:Qv)=q:=rfl;rw[q0,e4,aC];simp only;rw[q0,e5,aC];simp only;cases t with
 |false=>exact⟨w,p,q,rfl,hpD,hq,hw⟩
 |true=>
  rw[aJ];by_cases h0:0<w.length
  .rw[bF (by omega),aJ];obtain⟨i6,h6,t2,e6,k6⟩:=OD hc k4 h4 (n:=8) (by omega);rw[e6,aC];simp only;cases t2 with
   |false=>exact⟨w,p,q,rfl,hpD,hq,hw⟩
   |true=>
    rw[aJ];obtain⟨i7,h7,z,e7,_,_⟩:=Ac hc k6 h6 (l:=[(-1),9,1]) (by simp) (by simp);rw[e7,aC,QW 0 (Int.le_refl 0) (by omega),aC];exact⟨_,p,q,rfl,hpD,hq,by simp only;rw[List.length_set];exact hw⟩
  .rw[fC (by omega),aW];exact⟨w,p,q,rfl,hpD,hq,hw⟩
def aEW:∃(a b:Rp)(l:List Rp),tB c=some (a.p,a.q.n,a.q.src,a.q.tgt,a.dims,a.maps,b.p,b.q.n,b.q.src,b.q.tgt,b.dims,b.maps,l)/\bR a/\bR b/\l.length<=20/\∀r∈l,bR r:=by
 unfold tB;obtain⟨h0,e0⟩:=XY c hc;obtain⟨i1,h1,r,e1,k1,g1,g2,g3,g4,g5⟩:=aES hc (c0 c) h0;obtain⟨v1,v2⟩:=OH r.q g3;obtain⟨ms,e2,l2,hm⟩:=Zd r.p (Im v2) v1 g4 λx hx=>by have:=g5 x hx;omega
 obtain⟨L,t,_,e3,l3,l4',_⟩:=WJ (p:=r.p) (by rcases g2 with e|e<;>rw[e]<;>decide) g3;have l4:∀r∈L,bR r:=λy hy=>(l4' y hy).b;obtain⟨i4,h4,t2,e4,k4⟩:=OD hc k1 h1 (n:=2) (by omega);obtain⟨n,hn,n1,n5,_⟩:=kT v1;have hb2:bR ⟨r.p,r.q,r.dims,ms⟩:=Tc (Im v2) (by omega) l2 λm h=>(hm m h).l;rw[e0,aC,e1,aC];simp only;have q0:(⟨r.q.n,r.q.src,r.q.tgt⟩:Qv)=r.q:=rfl;rw[q0,e2,aC,e3,aC,e4,aC];simp only;cases t2 with
 |true=>exact⟨r,⟨r.p,r.q,r.dims,ms⟩,L,rfl,g1,hb2,l3,l4⟩
 |false=>exact⟨⟨r.p,r.q,r.dims,ms⟩,r,L,rfl,hb2,g1,l3,l4⟩
def aDc:∃(a b:Rp),rJ c=some (b.p,b.q.n,b.q.src,b.q.tgt,b.dims,b.maps,a.p,a.q.n,a.q.src,a.q.tgt,a.dims,a.maps)/\bR a/\bR b:=by
 unfold rJ;obtain⟨h0,e0⟩:=XY c hc;obtain⟨i1,h1,⟨p,⟨n0,s0,t0⟩,d0,m0⟩,e1,k1,ha⟩:=d23 hc (c0 c) h0;have e2:=wO ha;simp only at e1;rw[e0,aC,e1,aC];simp only;rw[e2,aC];cases hv:iI (⟨p,⟨n0,s0,t0⟩,d0,m0⟩:Rp)with
 |false=>
  obtain⟨i3,h3,b,e3,k3,hb⟩:=d23 hc k1 h1;rw[aW,e3,aC];exact⟨⟨p,⟨n0,s0,t0⟩,d0,m0⟩,b,rfl,ha,hb⟩
 |true=>
  obtain⟨i3,h3,t,e3,k3⟩:=OD hc k1 h1 (n:=3) (by omega);rw[aJ,e3,aC];simp only;cases t with
  |true=>
   obtain⟨i4,h4,b,e4,k4,hb⟩:=d23 hc k3 h3;rw[gP,aW,e4,aC];exact⟨⟨p,⟨n0,s0,t0⟩,d0,m0⟩,b,rfl,ha,hb⟩
  |false=>
   obtain⟨_,hD,_,_⟩:=AX hv;obtain⟨hQ,d1,d2,_⟩:=mK hD;obtain⟨n,hn,n1,n5,_⟩:=kT hQ;simp only at hQ d1 d2 hn;obtain⟨ms,e4,l4,hm⟩:=Zd p (q:=⟨n0,s0,t0⟩) ha.1 hQ (d:=d0) d1 d2;rw[Bool.not_false,aJ,e4,aC];simp only;obtain⟨V,hV⟩:∃V:Int×Int×Int×Int×aA×aA×aA×bK,V=(i1,h1,p,n0,s0,t0,d0,m0):=⟨_,rfl⟩;rw[←hV]
   have hloop:∃r,Lp (tH c V) (i3,h3,ms,0)=some r/\((r:bK).length <=10/\∀m∈r,SmM m):=by
    refine Db (λs:Int×Int×bK×Int=>Fv c s.1/\0<=s.2.2.2/\s.2.2.2<=s.2.2.1.length/\s.2.2.1.length<=10/\∀m∈s.2.2.1,SmM m) (λs=>((s.2.2.1.length:Int)-s.2.2.2).toNat) (λr:bK=>r.length<=10/\∀m∈r,SmM m) ⟨k3,Int.le_refl 0,(by omega:(0:Int)<=ms.length),l4,hm⟩ ?_;rintro⟨i5,h5,ns,v⟩ ⟨k5,c1,c2,c3,c4⟩;simp only at k5 c1 c2 c3 c4;unfold tH;simp only;by_cases cc:v<ns.length
    .have hm:=c4 _ (iR (l:=ns) ⟨0,0,[]⟩ (k:=v.toNat) (by omega));rw[bF cc,aJ,QW ⟨0,0,[]⟩ c1 cc,aC,aC];obtain⟨⟨r,er,hr⟩,⟨co,ec,hco⟩,_⟩:=hm;have hN:=Nat.mul_le_mul hr hco;obtain⟨i6,h6,l,e6,k6,hl⟩:=RE hc k5 h5 V.2.2.1 (r:=r) (c:=co) (by omega);rw[er,ec,e6,aC,aC,dS (x:=v+1) (by omega)];refine .inl ⟨_,rfl,⟨k6,by simp only;omega,by simp only;rw[List.length_set];omega,by simp only;rw[List.length_set];exact c3,λm hm=>?_⟩,by simp only;rw[List.length_set];omega⟩;rcases List.mem_or_eq_of_mem_set hm with hm|hm
     .exact c4 m hm
     .subst hm;exact⟨⟨r,rfl,hr⟩,⟨co,rfl,hco⟩,by simp only;omega⟩
    .rw[fC cc,aW];exact .inr ⟨_,rfl,c3,c4⟩
   obtain⟨ns,e5,l5,hm5⟩:=hloop;rw[e5,aC];exact⟨⟨p,⟨n0,s0,t0⟩,d0,m0⟩,⟨p,⟨n0,s0,t0⟩,d0,ns⟩,rfl,ha,Tc ha.1 (by omega) l5 λm h=>(hm5 m h).l⟩
end
end
variable{P:Program}{nt:Nat}{s:AState}
noncomputable section
set_option maxRecDepth 10000
set_option maxHeartbeats 4000000
def JR(a0:aA):Option Bool:=some (decide (1048576<(a0.length:Int)))
def Ux(a0)(r)(h:JR a0=some r):HasC Tryz.prog 4 [.list 1 (a0.map eU)] (.bl r):=by
 exact hM [.tmp 2] Tryz.func4 Tryz.ntmps4 k<|jo
def Eb(a0 a1:aA)(x1:Int):Option (Int ⊕ (Unit ⊕ Bool)):=bif decide (x1<(a0.length:Int))then((bY a0 x1).bind λv3=>(bY a1 x1).bind λv4=>bif !decide (v3=v4)then some (.inr (.inr false))else(some (.inl (wr (x1+1)))))else some (.inr (.inl ()))
def wH(a0 a1:aA):Option Bool:=bif !decide ((a0.length:Int)=(a1.length:Int))then some false else((Lp (Eb a0 a1) 0).bind λy6=>Sum.elim (λy7=>some true) (λy8=>some y8) y6)
def DR(a0)(a1)(r)(h:wH a0 a1=some r):HasC Tryz.prog 8 [.list 1 (a0.map eI),.list 1 (a1.map eI)] (.bl r):=by
 refine hM [.tmp 4] Tryz.func8 Tryz.ntmps8 k<|cW 9 k<|ln k4<|am k k<|ln k4<|dQ 3 k<|cO k h (λ_ h=>jo) λ_ h=>?_;refine yU 8 k<|jS [.tmp 4] .bl h (λx1=>mN [(0,.list 1 (a0.map eI)),(1,.list 1 (a1.map eI)),(5,.int x1)] [] 0) (λ_=>mN [] [] 0) ?_ ?_
 .intro x1 o h;exact jo
 .intro y7 h;exact jo
def BT(a0 a1:(List Rp))(x1:Int):Option (Int ⊕ (Unit ⊕ Bool)):=bif decide (x1<(a0.length:Int))then((bY a0 x1).bind λv3=>(bY a1 x1).bind λv4=>(qL v3 v4).bind λv5=>bif !v5 then some (.inr (.inr false))else(some (.inl (wr (x1+1)))))else some (.inr (.inl ()))
def Ax(a0 a1:(List Rp)):Option Bool:=bif !decide ((a0.length:Int)=(a1.length:Int))then some false else((Lp (BT a0 a1) 0).bind λy7=>Sum.elim (λy8=>some true) (λy9=>some y9) y7)
def MC(a0)(a1)(r)(h:Ax a0 a1=some r):HasC Tryz.prog 29 [.list 6 (a0.map eR),.list 6 (a1.map eR)] (.bl r):=by
 refine hM [.tmp 4] Tryz.func29 Tryz.ntmps29 k<|cW 9 k<|ln k4<|am k k<|ln k4<|dQ 3 k<|cO k h (λ_ h=>jo) λ_ h=>?_;refine yU 8 k<|jS [.tmp 4] .bl h (λx1=>mN [(0,.list 6 (a0.map eR)),(1,.list 6 (a1.map eR)),(5,.int x1)] [] 0) (λ_=>mN [] [] 0) ?_ ?_
 .intro x1 o h;exact cW 5 k<|ln k4<|dQ 3 k<|cO k h (λ_ h=>yU 5 k<|aG dO<|gO 2 k<|jl h k2 λv3 hv3 h=>gO 3 k<|jl h k2 λv4 hv4 h=>lr k7<|oB h λv5 hv5 h=>ae (jc (Cg _ _ _ hv5)) k<|jo) λ_ h=>aS<|jo
 .intro y8 h;exact jo
def gR(a0:aA):Option Bool:=(kG a0).bind λv41=>(dH v41.1 (⟨v41.2.1,v41.2.2.1,v41.2.2.2⟩:Qv)).bind λv42=>(dA v41.1 (⟨v41.2.1,v41.2.2.1,v41.2.2.2⟩:Qv)).bind λv43=>(iY a0).bind λv44=>(cH v44.2.1 (⟨v44.2.2.1,v44.2.2.2.1,v44.2.2.2.2⟩:Qv) v44.1).bind λv45=>(fH v44.2.1 (⟨v44.2.2.1,v44.2.2.2.1,v44.2.2.2.2⟩:Qv) v44.1).bind λv46=>bif(v42.2==v43.2)then((Ax v42.1 v43.1).bind λv48=>bif v48 then(bif(v45.2==v46.2)then((qL v45.1 v46.1).bind λv51=>some v51)else(some false))else(some false))else some false
def iZ(a0:aA):Option Bool:=(rJ a0).bind λv27=>(tB a0).bind λv28=>(sG (⟨v27.2.2.2.2.2.2.1,(⟨v27.2.2.2.2.2.2.2.1,v27.2.2.2.2.2.2.2.2.1,v27.2.2.2.2.2.2.2.2.2.1⟩:Qv),v27.2.2.2.2.2.2.2.2.2.2.1,v27.2.2.2.2.2.2.2.2.2.2.2⟩:Rp) (⟨v27.1,(⟨v27.2.1,v27.2.2.1,v27.2.2.2.1⟩:Qv),v27.2.2.2.2.1,v27.2.2.2.2.2.1⟩:Rp)).bind λv29=>(xE (⟨v27.2.2.2.2.2.2.1,(⟨v27.2.2.2.2.2.2.2.1,v27.2.2.2.2.2.2.2.2.1,v27.2.2.2.2.2.2.2.2.2.1⟩:Qv),v27.2.2.2.2.2.2.2.2.2.2.1,v27.2.2.2.2.2.2.2.2.2.2.2⟩:Rp) (⟨v27.1,(⟨v27.2.1,v27.2.2.1,v27.2.2.2.1⟩:Qv),v27.2.2.2.2.1,v27.2.2.2.2.2.1⟩:Rp)).bind λv30=>bif !(v29==v30)then some false else((zD (⟨v28.1,(⟨v28.2.1,v28.2.2.1,v28.2.2.2.1⟩:Qv),v28.2.2.2.2.1,v28.2.2.2.2.2.1⟩:Rp) (⟨v28.2.2.2.2.2.2.1,(⟨v28.2.2.2.2.2.2.2.1,v28.2.2.2.2.2.2.2.2.1,v28.2.2.2.2.2.2.2.2.2.1⟩:Qv),v28.2.2.2.2.2.2.2.2.2.2.1,v28.2.2.2.2.2.2.2.2.2.2.2.1⟩:Rp) v28.2.2.2.2.2.2.2.2.2.2.2.2).bind λv32=>(zE (⟨v28.1,(⟨v28.2.1,v28.2.2.1,v28.2.2.2.1⟩:Qv),v28.2.2.2.2.1,v28.2.2.2.2.2.1⟩:Rp) (⟨v28.2.2.2.2.2.2.1,(⟨v28.2.2.2.2.2.2.2.1,v28.2.2.2.2.2.2.2.2.1,v28.2.2.2.2.2.2.2.2.2.1⟩:Qv),v28.2.2.2.2.2.2.2.2.2.2.1,v28.2.2.2.2.2.2.2.2.2.2.2.1⟩:Rp) v28.2.2.2.2.2.2.2.2.2.2.2.2).bind λv33=>bif !(v32==v33)then some false else((kF (⟨v27.2.2.2.2.2.2.1,(⟨v27.2.2.2.2.2.2.2.1,v27.2.2.2.2.2.2.2.2.1,v27.2.2.2.2.2.2.2.2.2.1⟩:Qv),v27.2.2.2.2.2.2.2.2.2.2.1,v27.2.2.2.2.2.2.2.2.2.2.2⟩:Rp)).bind λv35=>bif v35 then((AQ (⟨v27.2.2.2.2.2.2.2.1,v27.2.2.2.2.2.2.2.2.1,v27.2.2.2.2.2.2.2.2.2.1⟩:Qv)).bind λv37=>bif v37 then((sG (⟨v27.2.2.2.2.2.2.1,(⟨v27.2.2.2.2.2.2.2.1,v27.2.2.2.2.2.2.2.2.1,v27.2.2.2.2.2.2.2.2.2.1⟩:Qv),v27.2.2.2.2.2.2.2.2.2.2.1,v27.2.2.2.2.2.2.2.2.2.2.2⟩:Rp) (⟨v27.2.2.2.2.2.2.1,(⟨v27.2.2.2.2.2.2.2.1,v27.2.2.2.2.2.2.2.2.1,v27.2.2.2.2.2.2.2.2.2.1⟩:Qv),v27.2.2.2.2.2.2.2.2.2.2.1,v27.2.2.2.2.2.2.2.2.2.2.2⟩:Rp)).bind λv39=>bif !v39 then some false else(gR a0))else(gR a0))else(gR a0)))
def jF(a0:aA):Option Bool:=(rI a0).bind λv16=>(lZ v16.1 (⟨v16.2.1,v16.2.2.1,v16.2.2.2.1⟩:Qv) v16.2.2.2.2).bind λv17=>(mA v16.1 (⟨v16.2.1,v16.2.2.1,v16.2.2.2.1⟩:Qv) v16.2.2.2.2).bind λv18=>bif !(v17.2==v18.2)then some false else((qL v17.1 v18.1).bind λv20=>bif !v20 then some false else(bif v17.2 then((wH v18.1.dims v16.2.2.2.2).bind λv23=>bif !v23 then some false else((yQ v18.1).bind λv25=>bif !v25 then some false else(iZ a0)))else(iZ a0)))
def yS(a0:aA):Option Bool:=(JR a0).bind λv1=>bif v1 then some true else((kY a0).bind λv3=>(cV (⟨v3.1,(⟨v3.2.1,v3.2.2.1,v3.2.2.2.1⟩:Qv),v3.2.2.2.2.1,v3.2.2.2.2.2⟩:Rp)).bind λv4=>(cJ (⟨v3.1,(⟨v3.2.1,v3.2.2.1,v3.2.2.2.1⟩:Qv),v3.2.2.2.2.1,v3.2.2.2.2.2⟩:Rp)).bind λv5=>bif !(v4.2==v5.2)then some false else((wH v4.1 v5.1).bind λv7=>bif !v7 then some false else(bif v4.2 then((cH v3.1 (⟨v3.2.1,v3.2.2.1,v3.2.2.2.1⟩:Qv) v5.1).bind λv10=>bif !v10.2 then some false else((wH v10.1.dims v3.2.2.2.2.1).bind λv12=>bif !v12 then some false else((tA v10.1 (⟨v3.1,(⟨v3.2.1,v3.2.2.1,v3.2.2.2.1⟩:Qv),v3.2.2.2.2.1,v3.2.2.2.2.2⟩:Rp)).bind λv14=>bif decide (v14=0)then some false else(jF a0))))else(jF a0))))
def RQ{x y t Q p}(hy:p->AC P nt y t Q)(h:AC P nt x s (lJ (λs'=>Ent s' t/\p) Q)):AC P nt (.seq x y) s Q:=
 gU (Px h λe s' hq=>by
  cases e with
  |normal=>exact aP hq.1 (hy hq.2)
  |exit _=>exact hq
  |goto _=>exact hq
  |ret=>exact hq
  |panic _=>exact hq
  |outgrown=>exact hq)
def HV(a0)(r)(h:yS a0=some r):HasC Tryz.prog 3 [.list 1 (a0.map eU)] (.bl r):=by
 refine hM [.tmp 2] Tryz.func3 Tryz.ntmps3 k<|cW 9 k<|oB h λv1 hv1 h=>ae (jc (Ux _ _ hv1)) k<|an<|tn<|cO k h (λ_ h=>jo) λ_ h=>?_;refine pB 5 k<|oB h λv3 hv3 h=>ae (jC [] [(0,1),(1,2)] [] [0,1] [(0,⟨1,v3.2.2.2.2.1.map (ow eI)⟩),(1,⟨3,v3.2.2.2.2.2.map (ow eM)⟩)] 2 (.agg [.int v3.1,.int v3.2.1,.list 1 (v3.2.2.1.map eI),.list 1 (v3.2.2.2.1.map eI),.own 0 0 v3.2.2.2.2.1.length,.own 1 0 v3.2.2.2.2.2.length]) (Dw _ _ hv3)) k<|oI 7 k<|oB h λv4 hv4 h=>ae (cT cI (Fg _ _ hv4) k3 (aI (El (eX (iC k) (eX (iC k) (eX (iC k) (eX (iC k) (eX (mQ cI k k) (eX (mQ eZ k k) ED))))))) aQ)) k<|oI 10 k<|oB h λv5 hv5 h=>ae (cT cI (BY _ _ hv5) k3 (aI (El (eX (iC k) (eX (iC k) (eX (iC k) (eX (iC k) (eX (mQ cI k k) (eX (mQ eZ k k) ED))))))) aQ)) k<|gO 3 k<|aa k k ?_;refine oI 8 k<|ae (QC (by kernel_rfl) k k) k<|am k k<|jJ h (λq6 h=>aE 52 k q6<|dQ 7 k<|aP (t:=mN [(0,.list 1 (a0.map eU)),(3,.ptr 2 0 0),(5,.bl v4.2),(6,.own 4 0 v5.1.length),(57,.bl true)] [(0,⟨1,v3.2.2.2.2.1.map (ow eI)⟩),(1,⟨3,v3.2.2.2.2.2.map (ow eM)⟩),(2,⟨6,[[.int v3.1,.int v3.2.1,.list 1 (v3.2.2.1.map eI),.list 1 (v3.2.2.2.1.map eI),.own 0 0 v3.2.2.2.2.1.length,.own 1 0 v3.2.2.2.2.2.length]]⟩),(4,⟨1,v5.1.map (ow eI)⟩)] 5) jI<|jo) λq6 h=>?_;refine aE 52 k q6<|gO 2 k<|oB h λv7 hv7 h=>ae (jc (DR _ _ _ hv7)) k<|dQ 4 k<|aP (t:=mN [(0,.list 1 (a0.map eU)),(3,.ptr 2 0 0),(5,.bl v4.2),(6,.own 4 0 v5.1.length),(57,.bl (!v7))] [(0,⟨1,v3.2.2.2.2.1.map (ow eI)⟩),(1,⟨3,v3.2.2.2.2.2.map (ow eM)⟩),(2,⟨6,[[.int v3.1,.int v3.2.1,.list 1 (v3.2.2.1.map eI),.list 1 (v3.2.2.2.1.map eI),.own 0 0 v3.2.2.2.2.1.length,.own 1 0 v3.2.2.2.2.2.length]]⟩),(4,⟨1,v5.1.map (ow eI)⟩)] 5) jI<|cO k h (λ_ h=>jo) λ_ h=>?_;refine bC<|tn<|RQ (t:=mN [(0,.list 1 (a0.map eU))] [] 5) (p:=jF a0=some r) (λh=>?_)<|nK 5 k<|cO k h (λ_ h=>?_) λ_ h=>?_
 .unfold jF at h;refine cW 3 k<|oB h λv121 hv121 h=>ae (jC [] [(5,1)] [] [5] [(5,⟨1,v121.2.2.2.2.map (ow eI)⟩)] 6 (.tuple [.int v121.1,.agg [.int v121.2.1,.list 1 (v121.2.2.1.map eI),.list 1 (v121.2.2.2.1.map eI)],.own 5 0 v121.2.2.2.2.length]) (Gd _ _ hv121)) k<|oI 15 k<|oB h λv122 hv122 h=>ae (Yi (KE _ _ _ _ hv122) k3 (fV k (aI (kM k) (Wm k k aQ)))) k<|gO 6 k<|an ?_;refine tn<|cW 5 k<|oB h λv123 hv123 h=>ae (Yi (KF _ _ _ _ hv123) k3 (fV k (aI (kM k) (Wm k k aQ)))) k<|dQ 8 k<|aP (t:=mN [(0,.list 1 (a0.map eU)),(12,.own 5 0 v121.2.2.2.2.length),(13,.ptr 11 0 0),(14,.bl v122.2),(15,.ptr 16 0 0),(16,.bl v123.2)] [(5,⟨1,v121.2.2.2.2.map (ow eI)⟩),(7,⟨1,v122.1.q.src.map (ow eI)⟩),(8,⟨1,v122.1.q.tgt.map (ow eI)⟩),(9,⟨1,v122.1.dims.map (ow eI)⟩),(10,⟨3,v122.1.maps.map (ow eM)⟩),(11,⟨6,[oRp v122.1 7 8 9 10]⟩),(12,⟨1,v123.1.q.src.map (ow eI)⟩),(13,⟨1,v123.1.q.tgt.map (ow eI)⟩),(14,⟨1,v123.1.dims.map (ow eI)⟩),(15,⟨3,v123.1.maps.map (ow eM)⟩),(16,⟨6,[oRp v123.1 12 13 14 15]⟩)] 17) jI<|RQ (t:=mN [(0,.list 1 (a0.map eU))] [] 17) (p:=iZ a0=some r) (λh=>?_)<|cW 4 k<|ae (QC (by kernel_rfl) k k) k<|am k k<|jJ h (λq124 h=>?_) λq124 h=>?_
  .unfold iZ at h;refine cW 3 k<|oB h λv132 hv132 h=>ae (jC [] [] [] [] [] 17 (.tuple [.agg [.int v132.2.2.2.2.2.2.1,.int v132.2.2.2.2.2.2.2.1,.list 1 (v132.2.2.2.2.2.2.2.2.1.map eI),.list 1 (v132.2.2.2.2.2.2.2.2.2.1.map eI),.list 1 (v132.2.2.2.2.2.2.2.2.2.2.1.map eI),.list 3 (v132.2.2.2.2.2.2.2.2.2.2.2.map eM)],.agg [.int v132.1,.int v132.2.1,.list 1 (v132.2.2.1.map eI),.list 1 (v132.2.2.2.1.map eI),.list 1 (v132.2.2.2.2.1.map eI),.list 3 (v132.2.2.2.2.2.1.map eM)]]) (Ge _ _ hv132)) k<|oI 12 k<|oB h λv133 hv133 h=>ae (jC [] [(19,2)] [] [19] [(19,⟨6,v133.2.2.2.2.2.2.2.2.2.2.2.2.map (ow eR)⟩)] 20 (.tuple [.agg [.int v133.1,.int v133.2.1,.list 1 (v133.2.2.1.map eI),.list 1 (v133.2.2.2.1.map eI),.list 1 (v133.2.2.2.2.1.map eI),.list 3 (v133.2.2.2.2.2.1.map eM)],.agg [.int v133.2.2.2.2.2.2.1,.int v133.2.2.2.2.2.2.2.1,.list 1 (v133.2.2.2.2.2.2.2.2.1.map eI),.list 1 (v133.2.2.2.2.2.2.2.2.2.1.map eI),.list 1 (v133.2.2.2.2.2.2.2.2.2.2.1.map eI),.list 3 (v133.2.2.2.2.2.2.2.2.2.2.2.1.map eM)],.own 19 0 v133.2.2.2.2.2.2.2.2.2.2.2.2.length]) (HT _ _ hv133)) k<|gO 9 k<|an ?_;refine tn<|sQ<|sQ<|aG dO<|gO 2 k<|oB h λv134 hv134 h=>ae (jc (En _ _ _ hv134)) k<|gO 2 k<|oB h λv135 hv135 h=>ae (jc (Jv _ _ _ hv135)) k<|ae (QC (by kernel_rfl) k k) k<|am k k<|jJ h (λq136 h=>aE 146 k q136<|gO 10 k<|an<|mV (by kernel_rfl)<|tn<|aP (t:=mN [(0,.list 1 (a0.map eU)),(17,.ptr 17 0 0),(156,.bl true)] [(17,⟨6,[[.int v132.2.2.2.2.2.2.1,.int v132.2.2.2.2.2.2.2.1,.list 1 (v132.2.2.2.2.2.2.2.2.1.map eI),.list 1 (v132.2.2.2.2.2.2.2.2.2.1.map eI),.list 1 (v132.2.2.2.2.2.2.2.2.2.2.1.map eI),.list 3 (v132.2.2.2.2.2.2.2.2.2.2.2.map eM)]]⟩)] 22) jI<|jo) λq136 h=>?_;refine aE 146 k q136<|gO 3 k<|oB h λv137 hv137 h=>ae (bZ (Km _ _ _ _ hv137) k (aI (kM k) (aI (kM k) (aI (xS CI k k) aQ)))) k<|gO 3 k<|oB h λv138 hv138 h=>ae (bZ (Kn _ _ _ _ hv138) k (aI (kM k) (aI (kM k) (aI (xS CI k k) aQ)))) k<|ae (QC (by kernel_rfl) k k) k<|pk k3<|an<|mV (by kernel_rfl)<|tn<|aP (t:=mN [(0,.list 1 (a0.map eU)),(17,.ptr 17 0 0),(156,.bl (!(v137==v138)))] [(17,⟨6,[[.int v132.2.2.2.2.2.2.1,.int v132.2.2.2.2.2.2.2.1,.list 1 (v132.2.2.2.2.2.2.2.2.1.map eI),.list 1 (v132.2.2.2.2.2.2.2.2.2.1.map eI),.list 1 (v132.2.2.2.2.2.2.2.2.2.2.1.map eI),.list 3 (v132.2.2.2.2.2.2.2.2.2.2.2.map eM)]]⟩)] 22) jI<|cO k h (λ_ h=>jo) λ_ h=>?_;refine bC<|tn<|RQ (t:=mN [(0,.list 1 (a0.map eU))] [] 22) (p:=gR a0=some r) (λh=>?_)<|cW 3 k<|oB h λv140 hv140 h=>ae (jc (vI _ _ hv140)) k<|am k k<|jJ h (λq141 h=>?_) λq141 h=>?_
   .unfold gR at h;refine cW 3 k<|oB h λv146 hv146 h=>ae (jC [] [(22,1),(23,2)] [] [22,23] [(22,⟨1,v146.2.2.1.map (ow eI)⟩),(23,⟨1,v146.2.2.2.map (ow eI)⟩)] 24 (.tuple [.int v146.1,.agg [.int v146.2.1,.own 22 0 v146.2.2.1.length,.own 23 0 v146.2.2.2.length]]) (DQ _ _ hv146)) k<|oI 12 k<|oB h λv147 hv147 h=>ae (cT CI (tD _ _ _ hv147) k3 (fV k (aI (vaQ k4) aQ))) k<|dQ 7 k<|aP (t:=mN [(0,.list 1 (a0.map eU)),(22,.int v146.1),(23,.ptr 24 0 0),(24,.own 25 0 v147.1.length),(25,.bl v147.2)] [(22,⟨1,v146.2.2.1.map (ow eI)⟩),(23,⟨1,v146.2.2.2.map (ow eI)⟩),(24,⟨3,[[.int v146.2.1,.own 22 0 v146.2.2.1.length,.own 23 0 v146.2.2.2.length]]⟩),(25,⟨6,v147.1.map (ow eR)⟩)] 26) jI<|sR ?_;refine gO 2 k<|oB h λv148 hv148 h=>ae (cT CI (nP _ _ _ hv148) k3 (fV k (aI (vaQ k4) aQ))) k<|oI 10 k<|oB h λv149 hv149 h=>ae (jC [] [(27,1)] [] [27] [(27,⟨1,v149.1.map (ow eI)⟩)] 28 (.tuple [.int v149.2.1,.agg [.int v149.2.2.1,.list 1 (v149.2.2.2.1.map eI),.list 1 (v149.2.2.2.2.map eI)],.own 27 0 v149.1.length]) (Cj _ _ hv149)) k<|oI 15 k<|oB h λv150 hv150 h=>ae (Yi (qZ _ _ _ _ hv150) k3 (fV k (aI (kM k) (Wm k k aQ)))) k ?_;exact dQ 8 k<|aP (t:=mN [(24,.own 25 0 v147.1.length),(25,.bl v147.2),(26,.own 26 0 v148.1.length),(27,.bl v148.2),(28,.int v149.2.1),(29,.ptr 28 0 0),(30,.own 27 0 v149.1.length),(31,.ptr 33 0 0),(32,.bl v150.2)] [(25,⟨6,v147.1.map (ow eR)⟩),(26,⟨6,v148.1.map (ow eR)⟩),(27,⟨1,v149.1.map (ow eI)⟩),(28,⟨3,[[.int v149.2.2.1,.list 1 (v149.2.2.2.1.map eI),.list 1 (v149.2.2.2.2.map eI)]]⟩),(29,⟨1,v150.1.q.src.map (ow eI)⟩),(30,⟨1,v150.1.q.tgt.map (ow eI)⟩),(31,⟨1,v150.1.dims.map (ow eI)⟩),(32,⟨3,v150.1.maps.map (ow eM)⟩),(33,⟨6,[oRp v150.1 29 30 31 32]⟩)] 34) jI<|cW 5 k<|oB h λv151 hv151 h=>ae (Yi (yJ _ _ _ _ hv151) k3 (fV k (aI (kM k) (Wm k k aQ)))) k<|oI 12 k<|ae (aBO (by kernel_rfl) k k) k<|am k k<|jJ h (λq152 h=>aE 210 k q152<|gO 2 k<|oB h λv153 hv153 h=>ae (bZ (MC _ _ _ hv153) k (aI (xS CI k k) (aI (xS CI k k) aQ))) k<|gO 2 k<|jJ h (λq154 h=>aE 215 k q154<|gO 2 k<|ae (aBO (by kernel_rfl) k k) k<|gO 2 k<|jJ h (λq155 h=>aE 220 k q155<|gO 2 k<|oB h λv156 hv156 h=>ae (bZ (Cg _ _ _ hv156) k (aI (VW k8) (aI (VW k8) aQ))) k<|jo) λq155 h=>aE 220 k q155<|jo) λq154 h=>aE 215 k q154<|jo) λq152 h=>aE 210 k q152<|jo
   .refine aE 159 k q141<|gO 2 k<|oB h λv142 hv142 h=>ae (jc (IX _ _ hv142)) k<|gO 2 k<|jJ h (λq143 h=>?_) λq143 h=>?_
    .refine aE 164 k q143<|gO 2 k<|oB h λv144 hv144 h=>ae (jc (En _ _ _ hv144)) k<|dQ 4 k<|cO k h (λ_ h=>jo) λ_ h=>?_;exact bC<|tn ⟨jI,h⟩
    .exact aE 164 k q143<|zQ 9 k<|tn ⟨jI,h⟩
   .exact aE 159 k q141<|zQ 14 k<|tn ⟨jI,h⟩
  .refine aE 107 k q124<|dQ 22 k<|aP (t:=mN [(0,.list 1 (a0.map eU)),(127,.bl true)] [] 17) jI<|cW 3 k<|aT k2 ?_;exact jo
  .refine aE 107 k q124<|gO 2 k<|oB h λv125 hv125 h=>ae (bZ (Cg _ _ _ hv125) k (aI (VW k8) (aI (VW k8) aQ))) k<|gO 3 k<|jJ h (λq126 h=>aE 113 k q126<|dQ 16 k<|aP (t:=mN [(0,.list 1 (a0.map eU)),(127,.bl true)] [] 17) jI<|jo) λq126 h=>?_;refine aE 113 k q126<|gO 2 k<|jJ h (λq127 h=>?_) λq127 h=>?_
   .refine aE 115 k q127<|gO 3 k<|oB h λv128 hv128 h=>ae (jc (DR _ _ _ hv128)) k<|gO 2 k<|jJ h (λq129 h=>aE 121 k q129<|dQ 8 k<|aP (t:=mN [(0,.list 1 (a0.map eU)),(127,.bl true)] [] 17) jI<|jo) λq129 h=>?_;refine aE 121 k q129<|lp k8<|oB h λv130 hv130 h=>ae (bZ (Nw _ _ hv130) k (aI (VW k8) aQ)) k<|dQ 6 k<|aP (t:=mN [(0,.list 1 (a0.map eU)),(127,.bl (!v130))] [] 17) jI<|cO k h (λ_ h=>jo) λ_ h=>?_;exact bC<|tn ⟨jI,h⟩
   .exact aE 115 k q127<|dQ 14 k<|aP (t:=mN [(0,.list 1 (a0.map eU)),(127,.bl false)] [] 17) jI<|kN 2 k<|tn ⟨jI,h⟩
 .refine cW 7 k<|oB h λv10 hv10 h=>ae (Yi (qZ _ _ _ _ hv10) k3 (fV k (aI (kM k) (Wm k k aQ)))) k<|oI 13 k<|jJ h (λq11 h=>aE 70 k q11<|dQ 15 k<|aP (t:=mN [(0,.list 1 (a0.map eU)),(83,.bl true)] [] 10) jI<|jo) λq11 h=>?_;refine aE 70 k q11<|gO 4 k<|oB h λv12 hv12 h=>ae (jc (DR _ _ _ hv12)) k<|gO 3 k<|jJ h (λq13 h=>aE 78 k q13<|dQ 7 k<|aP (t:=mN [(0,.list 1 (a0.map eU)),(83,.bl true)] [] 10) jI<|jo) λq13 h=>?_;refine aE 78 k q13<|gO 2 k<|oB h λv14 hv14 h=>ae (bZ (HR _ _ _ hv14) k (aI (VW k8) (aI (El (eX (iC k) (eX (iC k) (eX (iC k) (eX (iC k) (eX (mQ cI k k) (eX (mQ eZ k k) ED))))))) aQ))) k<|dQ 4 k<|aP (t:=mN [(0,.list 1 (a0.map eU)),(83,.bl (decide (v14=0)))] [] 10) jI<|cO k h (λ_ h=>jo) λ_ h=>?_;exact bC<|tn ⟨jI,h⟩
 .exact bC<|tn ⟨jZ [],h⟩
end
section
def aBI{r}(hr:bR r)(hf:wX r r=true)(h0:nE r r-rkC r r=0):yQ r=some true:=by
 have h:=gL hf;have bE:=h.offE (bG _);have hle:OU r.p (nE r r) (nV r r) (mE r r)<=nE r r:=Ba (nV r r);have e:((bX r.p (nE r r) (mE r r) (nV r r)).2.length)=OU r.p (nE r r) (nV r r) (mE r r):=rfl;have e0:nE r r-OU r.p (nE r r) (nV r r) (mE r r)=0:=by rw[aEG h];exact h0
 unfold yQ FJ;rw[show vJ r r=some (wX r r) from Sn hr hr,aC,hf,gP,aW];unfold FI;rw[GN h,aC,GL (Vv h),aC];simp only;rw[e,dS (by unfold nE at*;omega),aC,aC,bF (by omega)]
def aBJ(hp:p∈pD)(hq:q∈Hs){d}(hd:d∈Fw q.n.toNat):∃r b,lZ p q d=some (r,b)/\mA p q d=some (r,b)/\bR r/\(b=true->r.dims=d/\yQ r=some true):=by
 obtain⟨r,b,e1,e2,e3,e4⟩:=aEI hp hq hd;exact⟨r,b,e1,e2,e3,λhb=>⟨(e4 hb).1,aBI e3 (e4 hb).2.1 (e4 hb).2.2⟩⟩
def HW{a b}(h:bI a):wH a b=some (decide (a=b)):=by
 unfold bI at h;exact Qa (body:=Eb a b) (by omega) rfl
def LE{r}(h:bR r):qL r r=some true:=by
 unfold qL;rw[bF rfl,gP,aW,PZ h.1,aC,bF rfl,gP,aW,HN h.2.1,aC,bF rfl,gP,aW,bF rfl,gP,aW];have hl:=h.2.2.1.1;rw[AE (n:=r.maps.length) (λ_=>true) false (by omega) (λk hk=>?_) (λ_=>?_),aC]
 .rw[show((List.range r.maps.length).all λ_=>true)=true from List.all_eq_true.2 λ_ _=>rfl];rfl
 .unfold AF;have hm:=h.2.2.1.2 _ (iR (l:=r.maps) ⟨0,0,[]⟩ hk);rw[oD hk,aJ,yN ⟨0,0,[]⟩ hk,aC,aC];rw[XU hm.1,aC];rfl
 .unfold AF;rw[rH (bG _),aW]
def Td{l}(hl:l.length<=20)(h:∀r∈l,bR r):Ax l l=some true:=by
 unfold Ax;rw[bF rfl,gP,aW];rw[AE (n:=l.length) (λ_=>true) false (by omega) (λk hk=>?_) (λ_=>?_),aC]
 .rw[show((List.range l.length).all λ_=>true)=true from List.all_eq_true.2 λ_ _=>rfl];rfl
 .unfold BT;rw[oD hk,aJ,fQ hk,aC,aC,LE (h _ (List.getElem_mem hk)),aC];rfl
 .unfold BT;rw[rH (bG _),aW]
def Uy{r}(h1:iI r=true)(h2:uV r.q=true):JQ r r=true:=by
 unfold JQ Qk;rw[h1,h2];simp
section
variable {c:aA}(hc:c.length<=1048576)
include hc
def aBK:gR c=some true:=by
 obtain⟨p,q,f1,hp,hq⟩:=aDb hc;obtain⟨m,p2,q2,f2,hp2,hq2,hm⟩:=aEV hc;obtain⟨L,b,g1,g2,l1,l2',_⟩:=WJ hp hq;have l2:∀r∈L,bR r:=λy hy=>(l2' y hy).b;obtain⟨r,b2,g3,g4,hr⟩:=aDD hp2 hq2 (m:=m) (by unfold bI;omega);have q0:(⟨q.n,q.src,q.tgt⟩:Qv)=q:=rfl;have q1:(⟨q2.n,q2.src,q2.tgt⟩:Qv)=q2:=rfl;unfold gR;rw[f1,aC];simp only;rw[q0,g1,aC,g2,aC,f2,aC];simp only;rw[q1,g3,aC,g4,aC,beq_self_eq_true,aJ,Td l1 l2,aC,aJ,beq_self_eq_true,aJ,LE hr,aC]
def aBL:iZ c=some true:=by
 obtain⟨a,b,f1,ha,hb⟩:=aDc hc;obtain⟨x,y,l,f2,hx,hy,l1,l2⟩:=aEW hc;have f3:=aBK hc;have qa:(⟨a.p,⟨a.q.n,a.q.src,a.q.tgt⟩,a.dims,a.maps⟩:Rp)=a:=rfl;have qb:(⟨b.p,⟨b.q.n,b.q.src,b.q.tgt⟩,b.dims,b.maps⟩:Rp)=b:=rfl;have qx:(⟨x.p,⟨x.q.n,x.q.src,x.q.tgt⟩,x.dims,x.maps⟩:Rp)=x:=rfl;have qy:(⟨y.p,⟨y.q.n,y.q.src,y.q.tgt⟩,y.dims,y.maps⟩:Rp)=y:=rfl;have q0:(⟨a.q.n,a.q.src,a.q.tgt⟩:Qv)=a.q:=rfl;have hl:l.length<=1048576/\∀r∈l,bR r:=⟨by omega,l2⟩;unfold iZ;rw[f1,aC,f2,aC];simp only;rw[qa,qb,qx,qy,q0,LY ha hb,aC,St ha hb,aC,beq_self_eq_true,gP,aW,Uh hx hy hl,aC,Ug hx hy hl,aC,beq_self_eq_true,gP,aW,wO ha,aC];cases h1:iI a with
 |false=>exact f3
 |true=>
  rw[aJ,Nb ha.1,aC];cases h2:uV a.q with
  |false=>exact f3
  |true=>
   rw[aJ,LY ha ha,aC,Uy h1 h2,gP,aW];exact f3
def aBM:jF c=some true:=by
 obtain⟨p,q,d,f1,hp,hq,hd⟩:=Zs hc;obtain⟨r,b,g1,g2,hr,hb⟩:=aBJ hp hq hd;have f3:=aBL hc;have q0:(⟨q.n,q.src,q.tgt⟩:Qv)=q:=rfl;unfold jF;rw[f1,aC];simp only;rw[q0,g1,aC,g2,aC,beq_self_eq_true,gP,aW,LE hr,aC,gP,aW];cases b with
 |false=>exact f3
 |true=>
  obtain⟨h1,h2⟩:=hb rfl;simp only[aJ];rw[HW hr.2.1,aC,bF h1,gP,aW,h2,aC,gP,aW];exact f3
end
def KP{c}:yS c=some true:=by
 unfold yS JR;rw[aC];by_cases hbig:(1048576:Int)<c.length
 .rw[bF hbig,aJ]
 .have hc:c.length<=1048576:=by omega
  rw[fC hbig,aW];obtain⟨r,f1,hr,hp,hq,hd⟩:=aEU hc;obtain⟨w,b,g1,g2,hw,hb⟩:=Ta hr hp hq hd;have f3:=aBM hc;have qr:(⟨r.p,⟨r.q.n,r.q.src,r.q.tgt⟩,r.dims,r.maps⟩:Rp)=r:=rfl;have q0:(⟨r.q.n,r.q.src,r.q.tgt⟩:Qv)=r.q:=rfl;rw[f1,aC];simp only;rw[qr,q0,g1,aC,g2,aC,beq_self_eq_true,gP,aW,HW (by unfold bI;simp only;omega),aC,bF rfl,gP,aW];cases b with
  |false=>exact f3
  |true=>
   obtain⟨x,h1,h2,h3,h4⟩:=hb rfl;simp only[aJ];rw[h1,aC];simp only;rw[gP,aW,HW h2.2.1,aC,bF h3,gP,aW,XX h2 hr,aC,fC h4,aW];exact f3
open Go.RowKit Go.ChangeShapes Go.WideShapes Go.ChangeAt
def oU:YQ Tryz.prog 5 (Ry 1 eU):=by
 intro H enc w fuel cs d ps h hf;obtain⟨n,rfl,_,_⟩:=DataW.trod_int Tryz.underlying5 h;exact⟨n,[],⟨_,_,[],[],rfl,rfl,Ei rfl,rfl,rfl⟩,by simp[Value.oneCell'],rfl⟩
end
end Go.Proofs.YthpgddekfghemaaGreat

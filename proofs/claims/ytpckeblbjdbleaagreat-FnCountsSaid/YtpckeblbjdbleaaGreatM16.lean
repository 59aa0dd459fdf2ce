/- Several texts. -/
import Derived.Test.YtpckeblbjdbleaaGreatM15
set_option linter.unusedVariables false
set_option linter.unusedSimpArgs false
namespace Go.Proofs.YtpckeblbjdbleaaGreat
open Go.RowKit
section
def fX(a b:Rp)(g:Nat->Int):List Mt:=(List.range a.dims.length).map λv=>(⟨dN b v,dN a v,eC (lV a b v) λy=>g (dD (lV a b) v+y)⟩:Mt)
def QY(x:aA):Nat->Int:=λk=>x[k]?.getD 0
theorem aBY{l:Nat->Nat}{x:aA}{k:Nat}(h:x.length=dD l k):x=Ji l (λv y=>QY x (dD l v+y)) k:=
 HJ h λi y hi hy=>by
  have:=pB hi hy;unfold QY;rw[fK (by omega),fR]
theorem Vi{a b:Rp}{f g:Nat->Int}(h:∀k,k<nV a b->f k=g k):fX a b f=fX a b g:=by
 unfold fX;refine oV λv hv=>?_;congr 1;exact qH λy hy=>h _ (pB (List.mem_range.1 hv) hy)
theorem aCn{n:Nat}{g:Nat->Int}{k:Nat}(h:k<n):QY (eC n g) k=g k:=by simp[QY,eC,h]
theorem aBZ{a b:Rp}(h:Fit a b){x:aA}(hx:x.length=nV a b):uI ((List.range a.dims.length).map λv=>(⟨dN b v,dN a v,bN (dN b v) (dN a v) λ_ _=>0⟩:Mt)) x=some (fX a b (QY x)):=by
 have n5:=h.ra.n5;have bV:=h.offV (bA _);have:=VG (k:=a.dims.length) (l:=lV a b) (r:=λv=>(dN b v:Int)) (c:=λv=>(dN a v:Int)) (z:=λv=>bN (dN b v) (dN a v) λ_ _=>0) (f:=λv y=>QY x (dD (lV a b) v+y)) (by omega) (by omega) (λv _=>dU _ _ _);rw[←aBY hx]at this;exact this
theorem Vj{a b:Rp}(h:Fit a b){x:aA}(hx:x.length=nV a b):mM a b x=some (fX a b (QY x)):=by
 have n5:=h.ra.n5;have bV:=h.offV (bA _);have hV:nV a b<=80:=bV
 have e0:∀v,v<a.dims.length->(x.drop (dD (lV a b) v)).take (lV a b v)=eC (lV a b v) λy=>QY x (dD (lV a b) v+y):=λv hv=>by
  have h1:=VF (l:=lV a b) (f:=λv y=>QY x (dD (lV a b) v+y)) hv;rw[←aBY hx]at h1;exact h1
 unfold mM;rw[cB (r:=fX a b (QY x)) (λk=>((List.range k).map (λv=>(⟨dN b v,dN a v,eC (lV a b v) λy=>QY x (dD (lV a b) v+y)⟩:Mt)),((dD (lV a b) k:Nat):Int),(k:Int))) a.dims.length (by simp[dD]) (λk hk=>?_) (λ_=>?_),aB]
 .have hkb:k<b.dims.length:=by rw[h.ne];exact hk
  have ho:=@HI (lV a b) (k+1) a.dims.length hk;have e:dD (lV a b) (k+1)=dD (lV a b) k+lV a b k:=rfl;unfold oF;simp only
  rw[iD hk,aI,gY 0 hk,aB,gY 0 hkb,aB,aB,aB,(h.ra.d k hk).1,(h.rb.d k hkb).1,h.lA hk,cC (x:=((dD (lV a b) k:Nat):Int)+((lV a b k:Nat):Int)) (by omega),hx,
   aS (by omega),aS (by omega:((dD (lV a b) k:Nat):Int)<=((dD (lV a b) k:Nat):Int)+((lV a b k:Nat):Int)),aS (by unfold nV;omega:((dD (lV a b) k:Nat):Int)+((lV a b k:Nat):Int)<=((nV a b:Nat):Int)),Bool.and_self,Bool.and_self,aI,
   show(((dD (lV a b) k:Nat):Int)+((lV a b k:Nat):Int)).toNat - ((dD (lV a b) k:Nat):Int).toNat=lV a b k by omega,eK,e0 k hk]
  have q2:decide (((List.range k).map λv=>(⟨dN b v,dN a v,eC (lV a b v) λy=>QY x (dD (lV a b) v+y)⟩:Mt)).length +1<=4294967296)=true:=aS (by simp only[dM,List.length_range];omega);have q1:decide (([]:aA).length +(eC (lV a b k) λy=>QY x (dD (lV a b) k+y)).length <=4294967296)=true:=aS (by rw[dL];simp only[List.length_nil];omega);rw[q1,aI,q2,aI,List.nil_append,bJ hk (by omega),Ba (f:=λv=>(⟨dN b v,dN a v,eC (lV a b v) λy=>QY x (dD (lV a b) v+y)⟩:Mt)),e];simp
 .unfold oF;simp only;rw[iZ (bA _),aN];rfl
theorem aDV{α β:Type}{l:List α}{f:α->β}{body:List β×Int->Option ((List β×Int) ⊕ List β)}(hl:l.length<=4611686018427387904)
  (hs:∀(k:Nat)(hk:k<l.length)(o:List β),o.length=k->body (o,k)=some (.inl (o++[f l[k]],wr (k+1)))) (he:∀o,body (o,l.length)=some (.inr o)):Lp body ([],0)=some (l.map f):=by
 rw[cB (r:=l.map f) (λk=>((l.take k).map f,(k:Int))) l.length (by simp) (λk hk=>?_) (λ_=>?_)]
 .rw[hs k hk _ (by simp;omega),bJ hk hl,yK hk,List.map_append];rfl
 .rw[he,List.take_length]
def NR(a b:Rp):aZ:=Mb a.p (nV a b) (bY a.p (nE a b) (mE a b) (nV a b)).1 (bY a.p (nE a b) (mE a b) (nV a b)).2
def Vk(a b:Rp):List (List Mt):=(NR a b).map λx=>fX a b (QY x)
theorem EX{a b:Rp}(h:Fit a b):(NR a b).length=fD a b:=Vd h.ra.hp (SE h)
theorem Th{a b:Rp}(h:Fit a b){x:aA}(hx:x∈NR a b):x.length=nV a b/\∀z∈x,0<=z/\z<a.p:=by
 unfold NR Mb at hx;obtain⟨k,_,rfl⟩:=List.mem_map.1 hx;exact⟨GR _ _ _ _ _ _,Xa h.ra.hp _ _ _ _ _⟩
theorem Vl{a b:Rp}(h:Fit a b):zS a b=some (Vk a b):=by
 have hl:=EX h;have hd:=EW h;unfold zS;rw[MH h,aB,Tg (Xs h),aB];show(Lp (tE a b (NR a b)) ([],0)).bind _=_;rw[aDV (l:=NR a b) (f:=λx=>fX a b (QY x)) (by omega) (λk hk o ho=>?_) (λo=>?_)]
 .rfl
 .unfold tE;simp only;rw[iD hk,aI,dX hk,aB,TO h,aB,aBZ h (Th h (List.getElem_mem hk)).1,aB,aS (by omega),aI]
 .unfold tE;simp only;rw[iZ (bA _),aN]
theorem Vm{a b:Rp}(ha:bR a)(hb:bR b)(hf:rS a b=true):mO a b=some (Vk a b,true):=by
 have h:=lX hf;have hl:=EX h;have hd:=EW h;unfold mO;have hf':=hf;unfold rS at hf';rw[JO ha hb,aB,hf',dO,aN,Io h,aB,QX (Xs h),aB];show(Lp (kX a b (NR a b)) ([],0)).bind _=_;rw[aDV (l:=NR a b) (f:=λx=>fX a b (QY x)) (by omega) (λk hk o ho=>?_) (λo=>?_)]
 .rfl
 .unfold kX;simp only;rw[iD hk,aI,dX hk,aB,Vj h (Th h (List.getElem_mem hk)).1,aB,aS (by omega),aI]
 .unfold kX;simp only;rw[iZ (bA _),aN]
def FT(a b:Rp)(c:Nat):Nat->Int:=λk=>sN (λi=>(Tn a.p.toNat (fD a b) c i:Int)*cA (NR a b) i k) (fD a b)%a.p
theorem YD{a b:Rp}(h:Fit a b){i k:Nat}(hi:i<fD a b)(hk:k<nV a b):0<=cA (NR a b) i k/\cA (NR a b) i k<a.p:=by
 have hl:=EX h;have hm:=Th h (List.getElem_mem (show i<(NR a b).length by omega));have e:(NR a b)[i]?.getD []=(NR a b)[i]'(by omega):=by rw[fK (by omega),fR]
 unfold cA;rw[e,fK (by omega),fR];exact hm.2 _ (List.getElem_mem _)
theorem Vn{l:aZ}{i:Nat}(hi:i<l.length):QY l[i]=cA l i:=by
 funext k;unfold QY cA;rw[fK hi,fR]
theorem YE{a b:Rp}(h:Fit a b){i:Nat}(hi:i<fD a b):bP (Vk a b) (i:Int)=some (fX a b (cA (NR a b) i)):=by
 have hl:=EX h;unfold Vk;rw[dX (by rw[dM];omega),List.getElem_map,Vn (by omega)]
def paF(a b:Rp)(c t:Nat):Nat->Int:=λk=>sN (λi=>(Tn a.p.toNat (fD a b) c i:Int)*cA (NR a b) i k) t%a.p
theorem QZ{α:Type}(n k:Nat)(f:Nat->α)(v:α):((List.range n).map f).set k v=(List.range n).map λi=>if i=k then v else f i:=by
 refine List.ext_getElem (by simp) λt h1 h2=>?_;rw[List.getElem_set,List.getElem_map,List.getElem_map,List.getElem_range];by_cases e:k=t
 .rw[aP e,aP e.symm]
 .rw[aQ e,aQ λh=>e h.symm]
theorem SU(n:Nat)(f:Nat->Int):bN 1 n (λ_=>f)=eC n f:=by
 unfold bN eC;rw[Nat.one_mul];refine oV λy hy=>?_;rw[Nat.mod_eq_of_lt (List.mem_range.1 hy)]
theorem ZP{p:Int}(hp:mA p=true){n:Nat}(hn:n<=1048576){f g:Nat->Int}{k:Int}(hk:0<=k/\k<=5)(hf:∀b,b<n->0<=f b/\f b<p)(hg:∀b,b<n->0<=g b/\g b<p):
  eB p (eC n f) 0 n k (eC n g)=some (eC n λb=>(f b+k*g b)%p):=by
 have:=Lr (r:=1) (i:=0) hp hn (by omega) (F:=λ_=>f) hk hf hg;rw[Nat.zero_mul,SU]at this;rw[this];congr 1;rw[←SU];exact bX λi j hi hj=>by simp only[OB];rw[aP (by omega)]
theorem Wx{a b:Rp}(h:Fit a b){c:Nat}(hc:c<=1000000):zU a b (Vk a b) (c:Int)=some (fX a b (FT a b c)):=by
 have hl:=EX h;have hd:=EW h;have hp:=eY h.ra.hp;have n5:=h.ra.n5;have bV:=h.offV (bA _);have hV:nV a b<=80:=bV;unfold zU;have el:((Vk a b).length:Int)=(fD a b:Int):=by unfold Vk;rw[dM,hl]
 rw[el,Ww h.ra.hp (by omega) hc,aB];unfold Dj;rw[TO h,aB];rw[cB (r:=fX a b (FT a b c)) (λi=>(fX a b (paF a b c i),(i:Int))) (fD a b) ?_ (λi hi=>?_) (λ_=>?_),aB,aB]
 .unfold fX paF;congr 1
 .have hdg:=aDU h.ra.hp (fD a b) c i;unfold AQ;simp only;rw[show decide ((i:Int)<((Vk a b).length:Int))=true from aS (by rw[el];omega),aI,YE h hi,aB];rw[cB (r:=fX a b (paF a b c (i+1))) (λv=>((List.range a.dims.length).map λw=>(⟨dN b w,dN a w,eC (lV a b w) λy=>paF a b c (if w<v then i+1 else i) (dD (lV a b) w+y)⟩:Mt),(v:Int))) a.dims.length ?_ (λv hv=>?_) (λ_=>?_),aB,bJ hi (by omega)]
  .congr 1
  .have hlv:=h.lV hv;have hov:∀y,y<lV a b v->dD (lV a b) v+y<nV a b:=λy hy=>pB hv hy;unfold AP;simp only;rw[show decide ((v:Int)<((fX a b (cA (NR a b) i)).length:Int))=true from aS (by unfold fX;simp;exact hv),aI];rw[show bP (fX a b (cA (NR a b) i)) (v:Int)=some (⟨dN b v,dN a v,eC (lV a b v) λy=>cA (NR a b) i (dD (lV a b) v+y)⟩:Mt) from xV hv,aB,xV hv,aB,EP _ hi,aB];simp only;rw[dL,aQ (Nat.lt_irrefl _),ZP (f:=λy=>paF a b c i (dD (lV a b) v+y)) h.ra.hp (by omega) (by omega) (λy hy=>xK h.ra.hp) (λy hy=>YD h hi (hov y hy)),aB,dL,aS rfl,aI,eK,QZ,bJ hv (by omega)];congr 3;refine oV λw hw=>?_;by_cases e:w=v
   .subst e;rw[aP rfl,aP (by omega)];congr 1;refine qH λy hy=>?_;unfold paF;rw[sN,Int.emod_add_emod]
   .rw[aQ e];by_cases e2:w<v
    .rw[aP e2,aP (by omega)]
    .rw[aQ e2,aQ (by omega)]
  .unfold AP;simp only;rw[show decide ((a.dims.length:Int)<((fX a b (cA (NR a b) i)).length:Int))=false from bZ (by unfold fX;simp),aN];congr 2;unfold fX;refine oV λw hw=>?_;rw[aP (List.mem_range.1 hw)]
 .unfold AQ;simp only;rw[show decide ((fD a b:Int)<((Vk a b).length:Int))=false from bZ (by rw[el];omega),aN];rfl
theorem YF(g:Nat->Int):∀n,sN g (n+1)=g 0+sN (λs=>g (s+1)) n
 |0=>by simp[sN]
 |n+1=>by rw[sN,YF g n,sN];omega
theorem aBa:∀(n:Nat)(f:Nat->Int),sN (λs=>f (n-1-s)) n=sN f n
 |0,_=>rfl
 |n+1,f=>by
  have e:sN (λs=>f (n+1-1-(s+1))) n=sN (λs=>f (n-1-s)) n:=gO λs hs=>by rw[show n+1-1-(s+1)=n-1-s by omega]
  rw[YF,e,aBa n f,sN,show n+1-1-0=n by omega];omega
theorem ZQ{a b:Rp}(h:Fit a b)(g:Nat->Int):BU (fX a b g)=some (eC (nV a b) g):=by
 have n5:=h.ra.n5;have bV:=h.offV (bA _);unfold BU;rw[cB (r:=eC (nV a b) g) (λk=>(Ji (lV a b) (λv y=>g (dD (lV a b) v+y)) k,(k:Int))) a.dims.length (by rfl) (λk hk=>?_) (λ_=>?_),aB]
 .have h1:=@HI (lV a b) (k+1) a.dims.length hk;have e:dD (lV a b) (k+1)=dD (lV a b) k+lV a b k:=rfl;unfold BT;simp only;rw[show decide ((k:Int)<((fX a b g).length:Int))=true from aS (by unfold fX;simp;exact hk),aI,show bP (fX a b g) (k:Int)=some (⟨dN b k,dN a k,eC (lV a b k) λy=>g (dD (lV a b) k+y)⟩:Mt) from xV hk,aB];simp only;rw[jJ,dL,aS (by omega),aI,bJ hk (by omega)];rfl
 .unfold BT;simp only;rw[show decide ((a.dims.length:Int)<((fX a b g).length:Int))=false from bZ (by unfold fX;simp),aN];congr 2;refine(HJ (dL _ _) λi y hi hy=>?_).symm;have hx:dD (lV a b) i+y<dD (lV a b) a.dims.length:=pB hi hy;unfold eC;rw[List.getElem?_map,List.getElem?_range hx];rfl
def suF(a b:Rp)(c t:Nat):Nat->Int:=λk=>sN (λs=>(Tn a.p.toNat (fD a b) c (fD a b-1-s):Int)*cA (NR a b) (fD a b-1-s) k) t%a.p
theorem aCp(a b:Rp)(c k:Nat):suF a b c (fD a b) k=FT a b c k:=by
 unfold suF FT;rw[aBa (fD a b) λi=>(Tn a.p.toNat (fD a b) c i:Int)*cA (NR a b) i k]
theorem Qa{a b:Rp}(h:Fit a b){c:Nat}(hc:c<=1000000):nP a b (Vk a b) (c:Int)=some (fX a b (FT a b c)):=by
 have hl:=EX h;have hd:=EW h;have hp:=eY h.ra.hp;obtain⟨ep,ep2,ep5⟩:=JU h.ra.hp;have n5:=h.ra.n5;have bV:=h.offV (bA _);have hV:nV a b<=80:=bV;have el:((Vk a b).length:Int)=(fD a b:Int):=by unfold Vk;rw[dM,hl]
 unfold nP;rw[SS h,aB,aS (by omega),aS (by omega:((nV a b:Nat):Int)<=1048576),Bool.and_self,aI,el,eK];rw[cB (r:=eC (nV a b) (FT a b c)) (λt=>(((c/a.p.toNat ^ t:Nat):Int),eC (nV a b) (suF a b c t),(fD a b:Int)-1-t)) (fD a b) ?_ (λt ht=>?_) (λ_=>?_),aB,Vj h (dL _ _),aB]
 .congr 1;exact Vi λk hk=>aCn hk
 .rw[cC (by omega),NC];simp only[Nat.pow_zero,Nat.div_one];congr 2;omega
 .have ei:(fD a b:Int)-1-(t:Int)=((fD a b-1-t:Nat):Int):=by omega
  have hi:fD a b-1-t<fD a b:=by omega
  have hq2:c/a.p.toNat ^ (t+1)<=c:=Nat.div_le_self _ _
  have hD:((c/a.p.toNat ^ t:Nat):Int).tmod a.p=(Tn a.p.toNat (fD a b) c (fD a b-1-t):Int):=by
   rw[Int.tmod_eq_emod_of_nonneg (Int.natCast_nonneg _)];unfold Tn;rw[show fD a b-1-(fD a b-1-t)=t by omega,Int.natCast_emod,ep]
  have e3:((c/a.p.toNat ^ t:Nat):Int).tdiv a.p=((c/a.p.toNat ^ (t+1):Nat):Int):=by
   rw[Int.tdiv_eq_ediv_of_nonneg (Int.natCast_nonneg _),Nat.pow_succ,←Nat.div_div_eq_div_mul];generalize c/a.p.toNat ^ t=q;rw[Int.natCast_ediv,ep]
  have hdg:=aDU h.ra.hp (fD a b) c (fD a b-1-t);unfold yD;simp only;rw[ei,aS (by omega),aI,Yr h.ra.hp,aI,aI,YE h hi,aB,ZQ h,aB];rw[cB (r:=eC (nV a b) (suF a b c (t+1))) (λj=>(eC (nV a b) (λk=>if k<j then suF a b c (t+1) k else suF a b c t k),(j:Int))) (nV a b) ?_ (λj hj=>?_) (λ_=>?_),aB,e3,cC ⟨Int.le_trans (by decide) (Int.natCast_nonneg _),Int.le_trans (Int.ofNat_le.2 (Nat.le_trans hq2 hc)) (by decide)⟩,cC (by omega)]
  .congr 4;omega
  .congr 1
  .have hr:=YD h hi hj;have hs:0<=suF a b c t j/\suF a b c t j<a.p:=xK h.ra.hp;have hm:=Qo (a:=(Tn a.p.toNat (fD a b) c (fD a b-1-t):Int)) (b:=cA (NR a b) (fD a b-1-t) j) (by omega) (by omega);unfold yC;simp only;rw[dL,iD hj,aI,EP _ hj,aB,EP _ hj,aB,hD];rw[aQ (Nat.lt_irrefl _)];generalize hM:(Tn a.p.toNat (fD a b) c (fD a b-1-t):Int)*cA (NR a b) (fD a b-1-t) j=M at*;rw[cC (x:=M) (by omega),cC (by omega),EO h.ra.hp (by omega),aB,aB,eK,QA hj,bJ hj (by omega)];congr 3;refine qH λk hk=>?_;by_cases e:k=j
   .subst e;rw[aP rfl,aP (by omega)];unfold suF;rw[sN,Int.emod_add_emod,hM]
   .rw[aQ e];by_cases e2:k<j
    .rw[aP e2,aP (by omega)]
    .rw[aQ e2,aQ (by omega)]
  .unfold yC;simp only;rw[dL,iZ (bA _),aN];congr 2;exact qH λk hk=>by rw[aP hk]
 .unfold yD;simp only;rw[bZ (by omega),aN];congr 2;exact qH λk hk=>aCp a b c k
def gM(a b:Rp)(g:Nat->Int)(v:Nat):Nat->Nat->Int:=λr k=>g (dD (lV a b) v+(r*dN a v+k))
theorem JV(a b:Rp)(g:Nat->Int):fX a b g=(List.range a.dims.length).map λv=>(⟨dN b v,dN a v,bN (dN b v) (dN a v) (gM a b g v)⟩:Mt):=by
 unfold fX;refine oV λv hv=>?_;congr 1;exact aAw λy hy=>by unfold gM;rw[DN]
def Wy(a b:Rp)(g:Nat->Int):aA:=(List.range a.dims.length).map λv=>(rkF a.p (dN b v) (dN a v) (gM a b g v):Int)
def InG(a b:Rp)(g:Nat->Int):Prop:=∀k,k<nV a b->0<=g k/\g k<a.p
theorem InG.inP{a b:Rp}{g:Nat->Int}(hg:InG a b g){v:Nat}(hv:v<a.dims.length):Bx a.p (dN b v) (dN a v) (gM a b g v):=λr k hr hk=>hg _ (pB hv (Fi hr hk))
theorem YG{a b:Rp}(h:Fit a b)(c:Nat):InG a b (FT a b c):=λk _=>xK h.ra.hp
theorem aCq{a b:Rp}(h:Fit a b){g:Nat->Int}(hg:InG a b g):ER a.p (fX a b g)=some (Wy a b g):=by
 have n5:=h.ra.n5;rw[JV];unfold ER;rw[cB (s:=(([]:aA),(0:Int))) (r:=Wy a b g) (λk=>((List.range k).map (λv=>(rkF a.p (dN b v) (dN a v) (gM a b g v):Int)),(k:Int))) a.dims.length (by rfl) (λk hk=>?_) (λ_=>?_),aB]
 .have hkb:k<b.dims.length:=by rw[h.ne];exact hk
  have d1:=(h.ra.d k hk).2;have d2:=(h.rb.d k hkb).2;have T:Tb a.p (dN b k) (dN a k) (gM a b g k):=⟨h.ra.hp,sq d2 d1,by omega,by omega,hg.inP hk⟩;unfold Dk;simp only;rw[dM,List.length_range,iD hk,aI,xV hk,aB,Ps T,aB,aS (by simp;omega),aI,bJ hk (by omega),←Ba (f:=λv=>(rkF a.p (dN b v) (dN a v) (gM a b g v):Int))];rfl
 .unfold Dk;simp only;rw[dM,List.length_range,iZ (bA _),aN];rfl
theorem aCr{a b:Rp}(ha:bR a)(h:Fit a b)(he:a.dims=b.dims){g:Nat->Int}(hg:InG a b g):vT a b (fX a b g)=some (decide (Wy a b g=a.dims)):=by
 have n5:=h.ra.n5;unfold vT;rw[EZ ha.2.1,aB,aS he,aI,aCq h hg,aB,EZ (by unfold bI Wy;simp;omega),aB]
theorem Og(c x:Nat->Int)(u:Nat->Nat->Int)(N:Nat):∀n,sN (λt=>c t*sN (λq=>x q*u q t) N) n=sN (λq=>x q*sN (λt=>c t*u q t) n) N
 |0=>by
  rw[gO (f:=λq=>x q*sN (λt=>c t*u q t) 0) (g:=λ_=>0) (n:=N) λq _=>by simp[sN],Ao];rfl
 |n+1=>by
  rw[sN,Og c x u N n,←PI,←PH];refine gO λq _=>?_;rw[sN,Int.mul_add,Int.mul_left_comm (c n)]
theorem YH{p:Int}{n:Nat}{f x y:Nat->Int}(h:∀k,k<n->x k%p=y k%p):dt n f x%p=dt n f y%p:=by
 unfold dt;refine Xb λk hk=>?_;rw[Int.mul_emod,h k hk,←Int.mul_emod]
theorem aBb{p:Int}{f:Nat->Int}:∀{n:Nat},(∀k,k<n->Z0 p (f k))->Z0 p (sN f n)
 |0,_=>by unfold Z0;simp[sN]
 |n+1,h=>So (aBb λk hk=>h k (by omega)) (h n (by omega))
theorem YI{p:Int}{m n:Nat}{F:Nat->Nat->Int}{L:List Nat}(h:Red m n F L){k:Nat}(hk:k<n)(hL:∀i,i<L.length->L[i]?.getD 0≠k):∀t,t<=L.length->∀c,c<n->QY (JX p n F L k t) c%p=(if c=k then 1 else -(sN (λi=>if L[i]?.getD 0=c then F i k else 0) t))%p
 |0,_,c,hc=>by
  unfold JX QY;rw[List.getElem?_set,List.length_replicate];by_cases e:c=k
  .rw[aP e.symm,aP hk,aP e];rfl
  .rw[aQ λh=>e h.symm,aQ e];simp[hc,sN]
 |t+1,ht,c,hc=>by
  have ih:=YI (p:=p) h hk hL t (by omega) c hc;have hlt:=h.lt t (by omega);have hne:=hL t (by omega);unfold JX QY;rw[List.getElem?_set,GR];by_cases e:L[t]?.getD 0=c
  .rw[aP e,aP (by omega),fR,Int.emod_emod_of_dvd _ (Int.dvd_refl p),aQ (by omega),sN,aP e];rw[gO (g:=λ_=>0) λi hi=>?_,Ao,Int.zero_add];rw[aQ];intro e2;have:=h.inc i t hi (by omega);omega
  .rw[aQ e];refine ih.trans ?_;rw[sN,aQ e,Int.add_zero]
theorem aEB{p:Int}(hp:mA p=true){m n:Nat}{F:Nat->Nat->Int}(hi:Bx p m n F){x:aA}(hx:x∈Mb p n (bY p m F n).1 (bY p m F n).2):Kr p m n F (QY x):=by
 have hR:=IF hp hi n (bA _);unfold Mb at hx;obtain⟨k,hk,rfl⟩:=List.mem_map.1 hx;have hk1:=Vh hk
 have hL:∀i,i<(bY p m F n).2.length->(bY p m F n).2[i]?.getD 0≠k:=by
  intro i hi e;have h2:=(List.mem_filter.1 hk).2;have h3:k∈(bY p m F n).2:=by rw[←e];exact cU 0 hi
  simp[h3]at h2
 refine(JA hp hi _ n (bA _)).1 λi him=>?_;have h1:=PK (p:=p) hR hk1 hL i him;refine PJ (YH λc hc=>?_) h1;exact(YI hR hk1 hL _ (bA _) c hc).symm
theorem aEn{a b:Rp}(h:Fit a b)(c:Nat):Kr a.p (nE a b) (nV a b) (mE a b) (FT a b c):=by
 intro i hi
 have e1:dt (nV a b) (mE a b i) (FT a b c)%a.p=dt (nV a b) (mE a b i) (λk=>sN (λj=>(Tn a.p.toNat (fD a b) c j:Int)*cA (NR a b) j k) (fD a b))%a.p:=
  YH λk hk=>by unfold FT;exact Int.emod_emod_of_dvd _ (Int.dvd_refl _)
 refine PJ e1.symm ?_;unfold dt;rw[Og (mE a b i) (λj=>(Tn a.p.toNat (fD a b) c j:Int)) (cA (NR a b)) (fD a b) (nV a b)];refine aBb λj hj=>KW _ ?_;have hl:=EX h;have hm:=aEB h.ra.hp (SE h) (List.getElem_mem (show j<(NR a b).length by omega)) i hi;rw[Vn (by omega)]at hm;exact hm
def uU(a b:Rp)(q:Nat):Nat->Nat->Nat->Int:=λv j l=>if dD (lV a b) v+(j*dN a v+l)=q then 1 else 0
def dP(a b:Rp)(P:Nat->Nat->Nat->Int)(i r k:Nat):Int:=Ev (aF b i) (P (sV a i)) r k (dN b (sV a i))-Ev (P (tV a i)) (aF a i) r k (dN a (tV a i))
theorem aEC{a b:Rp}(P:Nat->Nat->Nat->Int)(i r k:Nat):QF a b P i r k=dP a b P i r k%a.p:=by
 unfold QF dP Bu;generalize Ev (aF b i) (P (sV a i)) r k (dN b (sV a i))=x;generalize Ev (P (tV a i)) (aF a i) r k (dN a (tV a i))=y;rw[show x%a.p+(a.p-1)*(y%a.p)=(x%a.p-y%a.p)+a.p*(y%a.p) by rw[Int.sub_mul];omega,Int.add_mul_emod_self_left];exact(Int.sub_emod x y a.p).symm
theorem aBc{a b:Rp}(x:Nat->Int){v j l:Nat}(hv:v<a.dims.length)(hj:j<dN b v)(hl:l<dN a v):gM a b x v j l=sN (λq=>x q*uU a b q v j l) (nV a b):=by
 rw[Gt (n:=nV a b) (j:=dD (lV a b) v+(j*dN a v+l)) (pB hv (Fi hj hl))]
 .unfold uU gM;rw[aP rfl,Int.mul_one]
 .intro q _ hq;unfold uU;rw[aQ λe=>hq e.symm,Int.mul_zero]
section
variable {a b:Rp}(h:Fit a b){i r k:Nat}(hi:i<a.q.src.length)(hr:r<dN b (tV a i))(hk:k<dN a (sV a i))
include h hi hr hk
theorem aED(x:Nat->Int):dP a b (gM a b x) i r k=sN (λq=>x q*dP a b (uU a b q) i r k) (nV a b):=by
 have hs:=(h.ra.s i hi).2;have ht:=(h.ra.t i hi).2;unfold dP;simp only[HK]
 have e1:sN (λt=>aF b i r t*gM a b x (sV a i) t k) (dN b (sV a i))=sN (λq=>x q*sN (λt=>aF b i r t*uU a b q (sV a i) t k) (dN b (sV a i))) (nV a b):=by
  rw[←Og (aF b i r) x (λq t=>uU a b q (sV a i) t k)];exact gO λt ht2=>by rw[aBc x hs ht2 hk]
 have e2:sN (λt=>gM a b x (tV a i) r t*aF a i t k) (dN a (tV a i))=sN (λq=>x q*sN (λt=>uU a b q (tV a i) r t*aF a i t k) (dN a (tV a i))) (nV a b):=by
  have:=Og (λt=>aF a i t k) x (λq t=>uU a b q (tV a i) r t) (nV a b) (dN a (tV a i));rw[gO (f:=λt=>gM a b x (tV a i) r t*aF a i t k) (g:=λt=>aF a i t k*sN (λq=>x q*uU a b q (tV a i) r t) (nV a b)) λt ht2=>by rw[aBc x ht hr ht2,Int.mul_comm],this];exact gO λq _=>by rw[gO λt _=>Int.mul_comm _ _]
 rw[e1,e2];have e3:∀f g:Nat->Int,sN f (nV a b)-sN g (nV a b)=sN (λq=>f q+(-1)*g q) (nV a b):=λf g=>by rw[PH,PI];omega
 rw[e3];exact gO λq _=>by rw[Int.mul_sub];omega
theorem aCs{q:Nat}(hq:q<nV a b):dP a b (uU a b q) i r k%a.p=mE a b (dD (lE a b) i+(r*dN a (sV a i)+k)) q:=by
 obtain⟨v0,z0,hv0,hz0,ek⟩:=JR hq;have hs:=(h.ra.s i hi).2;have ht:=(h.ra.t i hi).2;have hc:=VH h hv0 hz0 hi hr hk;have hy:r*dN a (sV a i)+k<lE a b i:=Fi hr hk
 have e:∀v j l,v<a.dims.length->j<dN b v->l<dN a v->uU a b q v j l=TR a v0 z0 v j l:=by
  intro v j l hv hj hl;unfold uU TR;rw[ek];by_cases e1:dD (lV a b) v+(j*dN a v+l)=dD (lV a b) v0+z0
  .rw[aP e1];have:=Xq (l:=lV a b) (Fi hj hl) hz0 e1;rw[aP this]
  .rw[aQ e1,aQ];rintro⟨rfl,rfl⟩;exact e1 rfl
 have e2:dP a b (uU a b q) i r k=dP a b (TR a v0 z0) i r k:=by
  unfold dP;simp only[HK];rw[gO λt ht2=>by rw[e _ t k hs ht2 hk],gO (f:=λt=>uU a b q (tV a i) r t*aF a i t k) λt ht2=>by rw[e _ r t ht hr ht2]]
 rw[e2,←aEC,hc];unfold mE;rw[tH _ hi hy,fR,ek,tH _ hv0 hz0,fR];unfold Proofs.YtpckeblbjdbleaaGreat.e2;rw[Ek hk,El hk]
theorem aEo(c:Nat):Bu a.p (dN b (sV a i)) (aF b i) (gM a b (FT a b c) (sV a i)) r k=Bu a.p (dN a (tV a i)) (gM a b (FT a b c) (tV a i)) (aF a i) r k:=by
 have h1:=aED h hi hr hk (FT a b c);have h2:=aEn h c (dD (lE a b) i+(r*dN a (sV a i)+k)) (pB hi (Fi hr hk))
 have h3:dP a b (gM a b (FT a b c)) i r k%a.p=0:=by
  rw[h1];refine(Xb (g:=λq=>mE a b (dD (lE a b) i+(r*dN a (sV a i)+k)) q*FT a b c q) λq hq=>?_).trans h2;rw[Int.mul_emod,aCs h hi hr hk hq,Int.mul_comm (mE _ _ _ _),Int.mul_emod (FT a b c q) (mE a b _ q)];congr 2;exact(Int.emod_eq_of_lt (SE h _ _ (pB hi (Fi hr hk)) hq).1 (SE h _ _ (pB hi (Fi hr hk)) hq).2).symm
 unfold Bu;exact Int.emod_eq_emod_iff_emod_sub_eq_zero.2 h3
end
theorem ZR{m:Mt}(h:bI m.cells):pO m m=some true:=by
 unfold bI at h;unfold pO;rw[aS rfl,aS rfl,aS rfl];simp only[dO,aN];rw[xZ (n:=m.cells.length) (λ_=>true) false (by omega) (λk hk=>?_) (λ_=>?_),aB]
 .rw[show(List.range m.cells.length).all (λ_=>true)=true by simp];rfl
 .unfold rE;rw[iD hk,aI,dX hk,aB,aB,aS rfl];rfl
 .unfold rE;rw[iZ (bA _),aN]
theorem ZS{p:Int}(hp:mA p=true){r c:Nat}(hr:r<=8)(hc:c<=8){F:Nat->Nat->Int}(hF:Bx p r c F):DZ p ⟨r,c,bN r c F⟩=true:=by
 have hb:=eY hp;have h:=Nat.mul_le_mul hr hc;unfold DZ;simp only[dU];rw[xY (by omega) (by omega),xY (by omega) (by omega),Ma (by omega),aS (by omega),hp,aS (by omega)];simp only[Bool.true_and,List.all_eq_true];intro x hx;obtain⟨t,ht,rfl⟩:=List.mem_map.1 hx;have ht:=List.mem_range.1 ht
 have hc0:0<c:=by
  rcases Nat.eq_zero_or_pos c with h0|h0
  .subst h0;simp at ht
  .exact h0
 have:=hF (t/c) (t%c) ((Nat.div_lt_iff_lt_mul hc0).2 ht) (Nat.mod_lt _ hc0);refine xY this.1 ?_;rw[cC (by omega)];omega
section
variable {a b:Rp}(ha:bR a)(hb:bR b)(hf:rS a b=true)
include ha hb hf
theorem ZT{g:Nat->Int}(hg:InG a b g):tF a b (fX a b g)=some true:=by
 have h:=lX hf;have n5:=h.ra.n5;have hf':=hf;unfold rS at hf';have hlen:(fX a b g).length=a.dims.length:=by simp[fX]
 unfold tF;rw[JO ha hb,aB,hf',dO,aN,aS (by omega),dO,aN];rw[xZ (n:=a.dims.length) (λ_=>true) false (by omega) (λv hv=>?_) (λ_=>?_),aB]
 .rw[show(List.range a.dims.length).all (λ_=>true)=true by simp];rfl
 .have hvb:v<b.dims.length:=by rw[h.ne];exact hv
  have d1:=(h.ra.d v hv);have d2:=(h.rb.d v hvb);have m4:=Nat.mul_le_mul d2.2 d1.2;unfold vF;rw[hlen,iD hv,aI,JV,xV hv,aB,GZ _ ⟨by unfold bI;simp only;rw[dU];omega,trivial⟩,ZS h.ra.hp (by omega) (by omega) (hg.inP hv),aB,dO,aN,aB,gY 0 hv,aB,d1.1,aS rfl,dO,aN,aB,gY 0 hvb,aB,d2.1,aS rfl];rfl
 .unfold vF;rw[hlen,iZ (bA _),aN]
theorem SV(c:Nat):mH a b (fX a b (FT a b c))=some true:=by
 have h:=lX hf;have e6:=h.ra.e6;unfold mH;rw[ZT ha hb hf (YG h c),aB,dO,aN];rw[xZ (n:=a.maps.length) (λ_=>true) false (by have:=h.ra.ml;omega) (λi hi=>?_) (λ_=>?_),aB]
 .rw[show(List.range a.maps.length).all (λ_=>true)=true by simp];rfl
 .have hi':i<a.q.src.length:=by have:=h.ra.ml;omega
  have hib:i<b.q.src.length:=by rw[h.qe];exact hi'
  obtain⟨s1,s2⟩:=h.ra.s i hi';obtain⟨t1,t2⟩:=h.ra.t i hi';have s3:sV a i<b.dims.length:=by rw[h.ne];exact s2
  have t3:tV a i<b.dims.length:=by rw[h.ne];exact t2
  obtain⟨m1,m2⟩:=h.ra.m i hi';obtain⟨g1,g2⟩:=h.rb.m i hib;rw[h.sV,h.tV]at g1 g2;rw[h.pe]at g2;have da:=h.ra.d _ s2;have da2:=h.ra.d _ t2;have db:=h.rb.d _ s3;have db2:=h.rb.d _ t3;have hin:=YG h c
  have e:bN (dN b (tV a i)) (dN a (sV a i)) (Bu a.p (dN b (sV a i)) (aF b i) (gM a b (FT a b c) (sV a i)))=bN (dN b (tV a i)) (dN a (sV a i)) (Bu a.p (dN a (tV a i)) (gM a b (FT a b c) (tV a i)) (aF a i)):=
   bX λr k hr hk=>aEo h hi' hr hk c
  have m4:=Nat.mul_le_mul db2.2 da.2;unfold wW;rw[iD hi,aI,JV,gY ⟨0,0,[]⟩ (by rw[h.rb.ml];exact hib),aB,g1,gY 0 hi',aB,s1,xV s2,aB,xM h.ra.hp (sq db2.2 db.2) (sq db.2 da.2) (sq db2.2 da.2) (by omega) (by omega) (by omega) g2 (hin.inP s2),aB,gY 0 (by have:=h.ra.tl;omega),aB,t1,xV t2,aB,gY ⟨0,0,[]⟩ hi,aB,m1,xM h.ra.hp (sq db2.2 da2.2) (sq da2.2 da.2) (sq db2.2 da.2) (by omega) (by omega) (by omega) (hin.inP t2) m2,aB,e,ZR (by unfold bI;simp only;rw[dU];omega),aB];rfl
 .unfold wW;rw[iZ (bA _),aN]
theorem ZU(c:Nat):pY a b (fX a b (FT a b c))=some (Wy a b (FT a b c)):=by
 have h:=lX hf;have n5:=h.ra.n5;have hM:=SV ha hb hf c;have hlen:(fX a b (FT a b c)).length=a.dims.length:=by simp[fX]
 unfold pY;rw[cB (r:=Wy a b (FT a b c)) (λk=>((List.range k).map (λv=>(rkF a.p (dN b v) (dN a v) (gM a b (FT a b c) v):Int)),(k:Int))) a.dims.length (by rfl) (λk hk=>?_) (λ_=>?_),aB]
 .have hkb:k<b.dims.length:=by rw[h.ne];exact hk
  have d1:=(h.ra.d k hk).2;have d2:=(h.rb.d k hkb).2;unfold wX;simp only;rw[hlen,iD hk,aI,hM,aB,aI,JV,xV hk,aB,aAq h.ra.hp (by omega) (by omega) ((YG h c).inP hk),aB,aS (by simp;omega),aI,bJ hk (by omega),←Ba (f:=λv=>(rkF a.p (dN b v) (dN a v) (gM a b (FT a b c) v):Int))]
 .unfold wX;simp only;rw[hlen,iZ (bA _),aN];rfl
theorem Ti(he:a.dims=b.dims)(c:Nat):iX a b (fX a b (FT a b c))=some (decide (Wy a b (FT a b c)=a.dims)):=by
 have h:=lX hf;have n5:=h.ra.n5;have hM:=SV ha hb hf c;have hR:=ZU ha hb hf c;have hbi:bI (Wy a b (FT a b c)):=by unfold bI Wy;simp;omega
 unfold iX AR yE;rw[hM,aB,aI,hR,aB,IQ hbi,aB,aB,aB,aI,aB,IQ hbi,aB,aB,←he];cases decide (Wy a b (FT a b c)=a.dims)<;>rfl
end
def HU(a b:Rp)(c:Nat):Bool:=decide (Wy a b (FT a b c)=a.dims)
def Wz(a b:Rp)(n:Nat):Option (List Mt):=(List.range' 0 (n-0)).findSome? λc=>bif HU a b c then some (fX a b (FT a b c))else none
def Dv(P:Nat):Nat->Nat
 |0=>1
 |k+1=>if Dv P k<=100000 then Dv P k*P else Dv P k
theorem Tj{P:Nat}(h5:P<=5):∀k,Dv P k<=500000
 |0=>by simp[Dv]
 |k+1=>by
  unfold Dv;split
  .rename_i h;exact Nat.le_trans (Nat.mul_le_mul h h5) (by decide)
  .exact Tj h5 k
theorem Qb{P:Nat}:∀{k n:Nat},k<=n->100000<Dv P k->Dv P n=Dv P k
 |k,0,h,_=>by rw[show k=0 by omega]
 |k,n+1,h,g=>by
  rcases dS n k with h'|h'
  .rw[show k=n+1 by omega]
  .have ih:=Qb h' g;show(if Dv P n<=100000 then Dv P n*P else Dv P n)=_;rw[aQ (by omega),ih]
theorem Nr{p:Int}(hp:mA p=true){n:Nat}(hn:n<=1000):rM p (n:Int)=some (Dv p.toNat n:Int):=by
 obtain⟨e,e2,e5⟩:=JU hp
 have key:∀d k,k+d=n->Lp (mV p (n:Int)) ((Dv p.toNat k:Int),(k:Int))=some (Dv p.toNat n:Int):=by
  intro d;induction d with
  |zero=>
   intro k hk;rw[Nat.add_zero]at hk;subst hk;refine rW ?_;unfold mV;simp only;rw[iZ (bA _),aN]
  |succ d ih=>
   intro k hk;have hb:=Tj e5 k;by_cases h:Dv p.toNat k<=100000
   .rw[←ih (k+1) (by omega)];refine EG ?_;unfold mV;simp only;rw[iD (by omega),aI,aS (by omega),aI]
    have e3:wr ((Dv p.toNat k:Int)*p)=(Dv p.toNat (k+1):Int):=by
     rw[show Dv p.toNat (k+1)=Dv p.toNat k*p.toNat from aP h,Int.natCast_mul,e];have:=Tj e5 (k+1);rw[show Dv p.toNat (k+1)=Dv p.toNat k*p.toNat from aP h]at this;have h2:((Dv p.toNat k*p.toNat:Nat):Int)=(Dv p.toNat k:Int)*p:=by rw[Int.natCast_mul,e]
     rw[cC (by rw[←h2];omega)]
    rw[e3,bJ (show k<n by omega) (by omega)]
   .rw[Qb (show k<=n by omega) (by omega)];refine rW ?_;unfold mV;simp only;rw[iD (by omega),aI,bZ (by omega),aN]
 unfold rM;have h0:=key n 0 (by omega);rw[show((Dv p.toNat 0:Nat):Int)=1 from rfl,show((0:Nat):Int)=0 from rfl]at h0;rw[h0,aB]
def cmI(a b:Rp):Int:=if Dv a.p.toNat (fD a b)<=100000 then(Dv a.p.toNat (fD a b):Int)else -2
theorem Tk{a b:Rp}(ha:bR a)(hb:bR b)(hf:rS a b=true):oP a b=some (cmI a b):=by
 have h:=lX hf;have hd:=EW h;obtain⟨e,e2,e5⟩:=JU h.ra.hp
 have key:∀d k,k+d=fD a b->Dv a.p.toNat k<=100000->Lp (iM a (fD a b:Int)) ((Dv a.p.toNat k:Int),(k:Int))=some (if Dv a.p.toNat (fD a b)<=100000 then .inl (Dv a.p.toNat (fD a b):Int)else .inr (-2)):=by
  intro d;induction d with
  |zero=>
   intro k hk h1;rw[Nat.add_zero]at hk;rw[←hk,aP h1];refine rW ?_;unfold iM;simp only;rw[iZ (bA _),aN]
  |succ d ih=>
   intro k hk h1;have hb:=Tj e5 (k+1);have e4:Dv a.p.toNat (k+1)=Dv a.p.toNat k*a.p.toNat:=aP h1;have h2:((Dv a.p.toNat (k+1):Nat):Int)=(Dv a.p.toNat k:Int)*a.p:=by rw[e4,Int.natCast_mul,e]
   have e3:wr ((Dv a.p.toNat k:Int)*a.p)=(Dv a.p.toNat (k+1):Int):=by rw[←h2,cC (by omega)]
   by_cases h3:Dv a.p.toNat (k+1)<=100000
   .rw[←ih (k+1) (by omega) h3];refine EG ?_;unfold iM;simp only;rw[iD (by omega),aI,e3,bZ (by omega),aN,bJ (show k<fD a b by omega) (by omega)]
   .rw[aQ (by rw[Qb (show k+1<=fD a b by omega) (by omega)];exact h3)];refine rW ?_;unfold iM;simp only;rw[iD (by omega),aI,e3,aS (by omega),aI]
 unfold oP;rw[Ed ha hb,aB];unfold hdI;rw[aP hf,bZ (by omega),aN];have h0:=key (fD a b) 0 (by omega) (by simp[Dv]);rw[show((Dv a.p.toNat 0:Nat):Int)=1 from rfl,show((0:Nat):Int)=0 from rfl]at h0;rw[h0,aB];unfold cmI;by_cases h3:Dv a.p.toNat (fD a b)<=100000
 .rw[aP h3,aP h3];rfl
 .rw[aQ h3,aQ h3];rfl
def CE(a b:Rp):Nat:=min (Dv a.p.toNat (fD a b)) 3000
def aBd(a b:Rp):List Mt×Bool:=match Wz a b (CE a b)with|some f=>(f,true)|none=>([],false)
theorem ZV{a b:Rp}(ha:bR a)(hf:rS a b=true)(he:a.dims=b.dims):nD a b (Vk a b)=some (aBd a b):=by
 have h:=lX hf;have hl:=EX h;have hd:=EW h;have el:((Vk a b).length:Int)=(fD a b:Int):=by unfold Vk;rw[dM,hl]
 unfold nD;rw[el,Nr h.ra.hp (by omega),aB];have em:min ((Dv a.p.toNat (fD a b):Nat):Int) 3000=((CE a b:Nat):Int):=by unfold CE;omega
 have ht:CE a b<=3000:=Nat.min_le_right _ _;rw[Ag (s0:=0) (s:=0) (n:=CE a b) (λc=>bif HU a b c then some (fX a b (FT a b c),true)else none) rfl (by omega) (Nat.zero_le _) (λc _ hc=>?_) (λ_=>?_),aB]
 .unfold aBd Wz
  have key:∀l:List Nat,l.findSome? (λc=>bif HU a b c then some (fX a b (FT a b c),true)else none)=(l.findSome? λc=>bif HU a b c then some (fX a b (FT a b c))else none).map λf=>(f,true):=by
   intro l;induction l with
   |nil=>rfl
   |cons c l ih=>
    rw[List.findSome?_cons,List.findSome?_cons];cases HU a b c with
    |true=>rfl
    |false=>exact ih
  rw[key];cases (List.range' 0 (CE a b-0)).findSome? λc=>bif HU a b c then some (fX a b (FT a b c))else none<;>rfl
 .unfold pA;rw[em,iD hc,aI,Wx h (by omega),aB,aCr ha h he (YG h c),aB];unfold HU;cases decide (Wy a b (FT a b c)=a.dims)<;>rfl
 .unfold pA;rw[em,iZ (bA _),aN]
theorem aEp{a b:Rp}(ha:bR a)(hb:bR b)(hf:rS a b=true)(he:a.dims=b.dims):BZ a b=some (match Wz a b (CE a b)with|some f=>(f,true,true)|none=>([],false,decide (Dv a.p.toNat (fD a b)<=3000))):=by
 have h:=lX hf;have ht:CE a b<=3000:=Nat.min_le_right _ _
 have key:∀l:List Nat,l.findSome? (λc=>bif HU a b c then some (fX a b (FT a b c),true,true)else none)=(l.findSome? λc=>bif HU a b c then some (fX a b (FT a b c))else none).map λf=>(f,true,true):=by
  intro l;induction l with
  |nil=>rfl
  |cons c l ih=>
   rw[List.findSome?_cons,List.findSome?_cons];cases HU a b c with
   |true=>rfl
   |false=>exact ih
 unfold BZ;rw[Vm ha hb hf,aB,Tk ha hb hf,aB];unfold cmI;by_cases h1:Dv a.p.toNat (fD a b)<=100000
 .rw[aP h1,bZ (by omega),aN];by_cases h3:Dv a.p.toNat (fD a b)<=3000
  .have et:CE a b=Dv a.p.toNat (fD a b):=Nat.min_eq_left h3;rw[bZ (by omega),aN];rw[Ag (s0:=0) (s:=0) (n:=CE a b) (λc=>bif HU a b c then some (fX a b (FT a b c),true,true)else none) rfl (by omega) (Nat.zero_le _) (λc _ hc=>?_) (λ_=>?_),aB,key]
   .unfold Wz;rw[aS h3];cases (List.range' 0 (CE a b-0)).findSome? λc=>bif HU a b c then some (fX a b (FT a b c))else none with
    |none=>simp
    |some f=>rfl
   .unfold BY;rw[←et,iD hc,aI];simp only;rw[Qa h (by omega),aB,Ti ha hb hf he c,aB];unfold HU;cases decide (Wy a b (FT a b c)=a.dims)<;>rfl
   .unfold BY;rw[←et,iZ (bA _),aN]
  .have et:CE a b=3000:=Nat.min_eq_right (by omega);rw[aS (by omega),aI];rw[Ag (s0:=0) (s:=0) (n:=CE a b) (λc=>bif HU a b c then some (fX a b (FT a b c),true,true)else none) rfl (by omega) (Nat.zero_le _) (λc _ hc=>?_) (λ_=>?_),aB,key]
   .unfold Wz;rw[bZ h3];cases (List.range' 0 (CE a b-0)).findSome? λc=>bif HU a b c then some (fX a b (FT a b c))else none with
    |none=>simp;omega
    |some f=>rfl
   .unfold BX;rw[aS (by omega),aI];simp only;rw[Qa h (by omega),aB,Ti ha hb hf he c,aB];unfold HU;cases decide (Wy a b (FT a b c)=a.dims)<;>rfl
   .unfold BX;rw[et,bZ (by omega),aN]
 .have et:CE a b=3000:=Nat.min_eq_right (by omega);rw[aQ h1,aS (by omega),aI];rw[Ag (s0:=0) (s:=0) (n:=CE a b) (λc=>bif HU a b c then some (fX a b (FT a b c),true,true)else none) rfl (by omega) (Nat.zero_le _) (λc _ hc=>?_) (λ_=>?_),aB,key]
  .unfold Wz;rw[bZ (by omega:¬ Dv a.p.toNat (fD a b)<=3000)];cases (List.range' 0 (CE a b-0)).findSome? λc=>bif HU a b c then some (fX a b (FT a b c))else none with
   |none=>simp
   |some f=>rfl
  .unfold BW;rw[aS (by omega),aI];simp only;rw[Qa h (by omega),aB,Ti ha hb hf he c,aB];unfold HU;cases decide (Wy a b (FT a b c)=a.dims)<;>rfl
  .unfold BW;rw[et,bZ (by omega),aN]
def XA(a b:Rp):Bool:= !decide (a.dims=b.dims)||(!decide (fD a b=fD a a)||(!decide (fD b a=fD a a)|| !decide (fD b b=fD a a)))
theorem YJ{a b:Rp}(hf:rS a b=true):rS b a=true/\rS a a=true/\rS b b=true:=by
 unfold rS at*;simp only[cF,gG]at*;exact⟨⟨hf.2.1,hf.1,hf.2.2.1.symm,hf.2.2.2.symm⟩,⟨hf.1,hf.1,trivial,trivial⟩,hf.2.1,hf.2.1,trivial,trivial⟩
theorem Gj{x y:Nat}:decide ((x:Int)=(y:Int))=decide (x=y):=by
 by_cases h:x=y
 .rw[aS h,aS (by omega)]
 .rw[bZ h,bZ (by omega)]
theorem aBe{a b:Rp}(ha:bR a)(hf:rS a b=true):Cs a b=some (XA a b):=by
 obtain⟨f1,f2,f3⟩:=YJ hf;unfold Cs XA;rw[EZ ha.2.1,aB];by_cases he:a.dims=b.dims
 .rw[aS he,dO,aN,Ig (lX f2),aB,Ig (lX hf),aB,Ig (lX f1),aB,Ig (lX f3),aB,Gj,Gj,Gj];cases decide (fD a b=fD a a)<;>cases decide (fD b a=fD a a)<;>rfl
 .rw[bZ he];rfl
def Zb(a b:Rp):Int:=if rS a b=true then(if XA a b=true then 0 else if(aBd a b).2=true then 1 else if Dv a.p.toNat (fD a b)<=3000 then 0 else -1)else -1
theorem SW{a b:Rp}(ha:bR a)(hb:bR b):lU a b=some (Zb a b):=by
 unfold lU Zb;rw[aAl ha hb,aB];cases hf:vX a&&(vX b&&(decide (a.p=b.p)&&decide (a.q=b.q)))with
 |false=>
  rw[aQ (by unfold rS;rw[hf];simp)];rfl
 |true=>
  have hf':rS a b=true:=hf;have h:=lX hf';have hl:=EX h;have hd:=EW h;rw[aP hf',dO,aN,aBe ha hf',aB];cases hD:XA a b with
  |true=>rfl
  |false=>
   have he:a.dims=b.dims:=by
    unfold XA at hD;simp only[Bool.or_eq_false_iff,Bool.not_eq_false',gG]at hD;exact hD.1
   have el:(((Vk a b).length:Nat):Int)=(fD a b:Int):=by unfold Vk;rw[dM,hl]
   rw[aN,Vl h,aB,ZV ha hf' he,aB,el,Nr h.ra.hp (by omega),aB,aQ (by simp)];cases (aBd a b).2 with
   |true=>rfl
   |false=>
    rw[aN,aQ (by simp)];by_cases h3:Dv a.p.toNat (fD a b)<=3000
    .rw[aP h3,aS (by omega)];rfl
    .rw[aQ h3,bZ (by omega)];rfl
theorem SX{a b:Rp}(ha:bR a)(hb:bR b):lW a b=some (Zb a b):=by
 unfold lW Zb;rw[JO ha hb,aB];cases hf:vX a&&(vX b&&(decide (a.p=b.p)&&decide (a.q=b.q)))with
 |false=>
  rw[aQ (by unfold rS;rw[hf];simp)];rfl
 |true=>
  have hf':rS a b=true:=hf;obtain⟨f1,f2,f3⟩:=YJ hf';have ed:∀{x y:Rp},rS x y=true->hdI x y=(fD x y:Int):=λh=>by unfold hdI;rw[aP h]
  rw[aP hf',dO,aN,Ed ha ha,aB,IQ ha.2.1,aB];by_cases he:a.dims=b.dims
  .rw[aS he,dO,aN,Ed ha hb,aB,Ed hb ha,aB,Ed hb hb,aB,ed hf',ed f1,ed f2,ed f3,Gj,Gj,Gj];unfold XA;rw[aS he];cases decide (fD a b=fD a a)with
   |false=>rfl
   |true=>
    cases decide (fD b a=fD a a)with
    |false=>rfl
    |true=>
     cases decide (fD b b=fD a a)with
     |false=>rfl
     |true=>
      simp only[dO,Bool.or_false,aN];rw[aEp ha hb hf' he,aB,aQ (by simp)];unfold aBd;cases Wz a b (CE a b)with
      |some f=>rfl
      |none=>
       simp only[aN];by_cases h3:Dv a.p.toNat (fD a b)<=3000
       .rw[aP h3,aS h3];rfl
       .rw[aQ h3,bZ h3];rfl
  .unfold XA;rw[bZ he];rfl
end
noncomputable section
def ldN(s:List Sc)(v j:Nat):Nat:=((Wp (sG s v))[j]?.getD 0).toNat
theorem aDW{r:Rp}{s:List Sc}(T:PartT r s){v j:Nat}(hv:v<r.dims.length)(hj:j<kN s v):(Wp (sG s v))[j]?.getD 0=(ldN s v j:Int)/\ldN s v j<dN r v:=by
 have:=(T.q v hv).l1 j hj;unfold ldN;omega
def bcF(s:List Sc)(v:Nat):Nat->Nat->Int:=λt b=>cA (sG s v).basis b t
def suW(r:Rp)(s:List Sc)(i:Nat):Nat->Nat->Int:=Bu r.p (dN r (sV r i)) (aF r i) (bcF s (sV r i))
def ZW(r:Rp)(s:List Sc)(i:Nat):Nat->Nat->Int:=λa b=>suW r s i (ldN s (tV r i) a) b
def XB(r:Rp)(s:List Sc)(i:Nat):Mt:=⟨(kN s (tV r i):Nat),(kN s (sV r i):Nat),bN (kN s (tV r i)) (kN s (sV r i)) (ZW r s i)⟩
def Tl(r:Rp)(s:List Sc):Rp:=⟨r.p,r.q,jX s,(List.range r.maps.length).map (XB r s)⟩
def Zc(x:Sc):Mt:=Yx x.size.toNat x.basis
theorem aEE{r:Rp}{s:List Sc}{i b k:Nat}(hk:k<dN r (tV r i)):(VN r.p (dN r (tV r i)) (dN r (sV r i)) (aF r i) ((sG s (sV r i)).basis[b]?.getD []))[k]?.getD 0=suW r s i k b:=by
 unfold VN suW Bu;rw[HK];unfold eC;rw[List.getElem?_map,List.getElem?_range hk];show Ev _ _ _ _ _%_=_;rw[HK];rfl
theorem GH{r:Rp}{s:List Sc}(T:PartT r s){v:Nat}(hv:v<r.dims.length):(jX s)[v]?.getD 0=(kN s v:Int)/\kN s v<=dN r v:=by
 have h1:=T.P.len;have h2:=(tL T.P.sub).2.2 v hv;unfold jX;rw[List.getElem?_map,fK (by omega),Option.map_some,fR,Du];exact⟨rfl,h2.len⟩
section
variable {r:Rp}{s:List Sc}(hr:bR r)(S:Sm r)(T:PartT r s)
include hr S T
theorem aBf:Ct r s=some (Tl r s,s.map Zc):=by
 have h5:=S.R.n5;have h6:=S.R.e6;have hml:=S.R.ml;have hsl:=T.P.len;unfold Ct;rw[SI (by omega),aB,SQ S.R hr (d:=jX s) (by rw[QU];exact hsl) (f:=kN s) (λv hv=>⟨(GH T hv).1,by have:=(GH T hv).2;have:=S.d v hv;omega⟩),aB];simp only;rw[cB (r:=(List.range r.maps.length).map (XB r s)) (λk=>((List.range r.maps.length).map λi=>if i<k then XB r s i else zeM r (kN s) i,(k:Int))) r.maps.length (by simp) (λi hi=>?_) (λ_=>?_),aB]
 .rw[cB (r:=s.map Zc) (λk=>((s.take k).map Zc,(k:Int))) s.length (by rfl) (λv hv=>?_) (λ_=>?_),aB]
  .rfl
  .have hv':v<r.dims.length:=by omega
   have P:=(tL T.P.sub).2.2 v hv';have d1:=S.d _ hv';have l1:=P.len;have e:=Du hv;unfold CX;simp only;rw[iD hv,aI,dX hv,aB,e,P.size,aAz (by omega) (by omega) (λx hx=>(P.vecs x hx).1),aB,aS (by simp;omega),aI,bJ hv (by omega)];rw[yK hv,List.map_append,e];unfold Zc;simp only[List.map_cons,List.map_nil,P.size,eK]
  .unfold CX;simp only;rw[iZ (bA _),aN,List.take_length]
 .have hi':i<r.q.src.length:=by omega
  have hs:=(S.R.s i hi').2;have ht:=(S.R.t i hi').2;have d1:=S.d _ hs;have d2:=S.d _ ht;have k1:=(GH T hs).2;have k2:=(GH T ht).2;obtain⟨hM,hMi⟩:=S.R.m i hi';have P:=(tL T.P.sub).2.2 _ hs;have hq:Qx r.p (dN r (tV r i)) (kN s (tV r i)) (sG s (tV r i)):=T.q _ ht;have m5:=Nat.mul_le_mul (show kN s (tV r i)<=2 by omega) (show kN s (sV r i)<=2 by omega);unfold CW;simp only;rw[iD hi,aI,gY ⟨0,0,[]⟩ hi,aB,hM,gY 0 (by have:=S.R.tl;omega),aB,(S.R.t i hi').1,gY ⟨0,[]⟩ (by omega),aB,gY 0 hi',aB,(S.R.s i hi').1,gY ⟨0,[]⟩ (by omega),aB];rw[show(s[sV r i]?.getD ⟨0,[]⟩:Sc)=sG s (sV r i) from rfl,show(s[tV r i]?.getD ⟨0,[]⟩:Sc)=sG s (tV r i) from rfl];rw[cB (r:=(List.range (kN s (sV r i))).map λb=>eC (kN s (tV r i)) λa=>ZW r s i a b) (λk=>((List.range k).map λb=>eC (kN s (tV r i)) λa=>ZW r s i a b,(k:Int))) (kN s (sV r i)) (by rfl) (λb hb=>?_) (λ_=>?_),aB]
  .rw[show((sG s (tV r i)).basis.length:Int)=(kN s (tV r i):Nat) from rfl,Cw (by omega) (by omega) (by omega),aB,gY ⟨0,0,[]⟩ (by simpa using hi),aB,bJ hi (by omega),eK,zB];congr 3;refine oV λj hj=>?_;by_cases e:j=i
   .rw[aP e,aP (by omega),e];rfl
   .rw[aQ e];by_cases e2:j<i
    .rw[aP e2,aP (by omega)]
    .rw[aQ e2,aQ (by omega)]
  .have hb':b<(sG s (sV r i)).basis.length:=hb;have hv:=P.vecs _ (cU (l:=(sG s (sV r i)).basis) [] hb');unfold CV;simp only;rw[iD hb',aI,gY [] hb',aB,Xv S.R.hp (by omega) (by omega) hMi hv.1 hv.2,aB,hq.ld,aB];rw[cB (r:=eC (kN s (tV r i)) λa=>ZW r s i a b) (λk=>(eC k λa=>ZW r s i a b,(k:Int))) (kN s (tV r i)) (by rfl) (λa ha=>?_) (λ_=>?_),aB]
   .rw[aS (by simp;omega),aI,bJ hb (by omega),←Al]
   .obtain⟨f1,f2⟩:=aDW T ht ha;unfold CU;simp only;rw[hq.ll,iD ha,aI,gY 0 (by rw[hq.ll];exact ha),aB,f1,gY 0 (by unfold VN;rw[dL];exact f2),aB,aEE f2,aS (by rw[dL];simp;omega),aI,bJ ha (by omega)];congr 3;unfold eC;rw[←Al];rfl
   .unfold CU;simp only;rw[hq.ll,iZ (bA _),aN]
  .unfold CV;simp only;rw[show(sG s (sV r i)).basis.length=kN s (sV r i) from rfl,iZ (bA _),aN]
 .unfold CW;simp only;rw[iZ (bA _),aN];congr 2;exact oV λj hj=>by rw[aP (List.mem_range.1 hj)]
def suB(r:Rp)(s:List Sc)(i:Nat):List Mt:=(List.range r.maps.length).map λk=>if k<i then XB r s k else zeM r (kN s) k
def Zd(r:Rp)(s:List Sc)(i a b:Nat):Mt:=⟨(kN s (tV r i):Nat),(kN s (sV r i):Nat),bN (kN s (tV r i)) (kN s (sV r i)) λx y=>if x<a∨(x=a/\y<b)then ZW r s i x y else 0⟩
theorem Vo:yV r s=some (Tl r s,s.map Zc,true):=by
 have h5:=S.R.n5;have h6:=S.R.e6;have hml:=S.R.ml;have hsl:=T.P.len;unfold yV;rw[NF hr ⟨by omega,T.P.b⟩,aB,T.P.sub,dO,aN];rw[cB (r:=(jX s,s.map Zc)) (λk=>(jX (s.take k),(s.take k).map Zc,(k:Int))) s.length (by rfl) (λv hv=>?_) (λ_=>?_),aB]
 .simp only;rw[Vc S.R hr (d:=jX s) (by rw[QU];exact hsl) (f:=kN s) (λv hv=>⟨(GH T hv).1,by have:=(GH T hv).2;have:=S.d v hv;omega⟩),aB];simp only;rw[cB (r:=(List.range r.maps.length).map (XB r s)) (λk=>(suB r s k,(k:Int))) r.maps.length (by simp[suB]) (λi hi=>?_) (λ_=>?_),aB]
  .rfl
  .have hi':i<r.q.src.length:=by omega
   have hs:=(S.R.s i hi').2;have ht:=(S.R.t i hi').2;have d1:=S.d _ hs;have d2:=S.d _ ht;have k1:=(GH T hs).2;have k2:=(GH T ht).2;obtain⟨hM,hMi⟩:=S.R.m i hi';have P:=(tL T.P.sub).2.2 _ hs;have hq:Qx r.p (dN r (tV r i)) (kN s (tV r i)) (sG s (tV r i)):=T.q _ ht;have m2:=Nat.mul_le_mul d2 d1;have m4:=Nat.mul_le_mul d1 (show kN s (sV r i)<=2 by omega);have m5:=Nat.mul_le_mul (show kN s (tV r i)<=2 by omega) (show kN s (sV r i)<=2 by omega);have m6:=Nat.mul_le_mul d2 (show kN s (sV r i)<=2 by omega);have hbl:(suB r s i).length=r.maps.length:=by simp[suB]
   have e2:((s.map Zc)[sV r i]?.getD ⟨0,0,[]⟩:Mt)=⟨(dN r (sV r i):Nat),(kN s (sV r i):Nat),bN (dN r (sV r i)) (kN s (sV r i)) (bcF s (sV r i))⟩:=by
    rw[List.getElem?_map,fK (by omega),Option.map_some,fR,Du];unfold Zc Yx;rw[P.size,eK];rfl
   have at_i:∀M:Mt,bP ((suB r s i).set i M) (i:Int)=some M:=λM=>by
    rw[dX (by simp;omega)];simp
   unfold Cc;simp only;rw[iD hi,aI,gY ⟨0,0,[]⟩ hi,aB,hM,gY 0 hi',aB,(S.R.s i hi').1,gY ⟨0,0,[]⟩ (by simp;omega),aB,e2,xM S.R.hp (by omega) (by omega) (by omega) (by omega) (by omega) (by omega) hMi (show Bx r.p (dN r (sV r i)) (kN s (sV r i)) (bcF s (sV r i)) from aCb P.vecs),aB,gY 0 (by have:=S.R.tl;omega),aB,(S.R.t i hi').1,gY ⟨0,[]⟩ (by omega),aB];rw[show(s[tV r i]?.getD ⟨0,[]⟩:Sc)=sG s (tV r i) from rfl,hq.l12,aB];rw[cB (r:=(suB r s i).set i (Zd r s i (kN s (tV r i)) 0)) (λa=>((suB r s i).set i (Zd r s i a 0),(a:Int))) (kN s (tV r i)) ?_ (λa ha=>?_) (λ_=>?_),aB]
   .rw[bJ hi (by omega)];congr 3;unfold suB;rw[zB];refine oV λj hj=>?_;by_cases e:j=i
    .rw[aP e,aP (by omega),e];unfold Zd XB;congr 1;exact bX λx y hx hy=>by rw[aP (by omega)]
    .rw[aQ e];by_cases e2:j<i
     .rw[aP e2,aP (by omega)]
     .rw[aQ e2,aQ (by omega)]
   .congr 1;unfold suB;rw[zB];refine oV λj hj=>?_;by_cases e:j=i
    .rw[aP e,aQ (by omega),e];unfold Zd zeM;congr 1;exact bX λx y hx hy=>by rw[aQ (by omega)]
    .rw[aQ e]
   .obtain⟨f1,f2⟩:=aDW T ht ha;unfold Cb;simp only;rw[at_i,aB,show(Zd r s i a 0).rows=(kN s (tV r i):Nat) from rfl,iD ha,aI,eK,List.set_set];rw[cB (r:=(suB r s i).set i (Zd r s i (a+1) 0)) (λb=>((suB r s i).set i (Zd r s i a b),(b:Int))) (kN s (sV r i)) (by rfl) (λb hb=>?_) (λ_=>?_),aB,bJ ha (by omega)]
    .unfold Ca;simp only;rw[at_i,aB,show(Zd r s i a b).cols=(kN s (sV r i):Nat) from rfl,iD hb,aI,eK,List.set_set,at_i,aB,gY 0 (by rw[hq.ll];exact ha),aB,f1,Qp (by omega) f2 hb,aB];unfold Zd;simp only;rw[Qp (by omega) ha hb,aB,Uv (by omega) ha hb,List.set_set,bJ hb (by omega)];congr 5;refine bX λx y hx hy=>?_;simp only[KU];by_cases e:x=a/\y=b
     .rw[aP e,aP (by omega),e.1,e.2];rfl
     .rw[aQ e];by_cases e2:x<a∨x=a/\y<b
      .rw[aP e2,aP (by omega)]
      .rw[aQ e2,aQ (by omega)]
    .unfold Ca;simp only;rw[at_i,aB,show(Zd r s i a (kN s (sV r i))).cols=(kN s (sV r i):Nat) from rfl,iZ (bA _),aN,eK,List.set_set];congr 3;unfold Zd;congr 1;refine bX λx y hx hy=>?_;by_cases e2:x<a+1
     .rw[aP (by omega),aP (by omega)]
     .rw[aQ (by omega),aQ (by omega)]
   .unfold Cb;simp only;rw[at_i,aB,show(Zd r s i (kN s (tV r i)) 0).rows=(kN s (tV r i):Nat) from rfl,iZ (bA _),aN,eK,List.set_set]
  .unfold Cc;simp only;rw[iZ (bA _),aN];congr 2;exact oV λj hj=>by rw[aP (List.mem_range.1 hj)]
 .have hv':v<r.dims.length:=by omega
  have P:=(tL T.P.sub).2.2 v hv';have d1:=S.d _ hv';have l1:=P.len;have e:=Du hv;have m1:=Nat.mul_le_mul d1 (show(sG s v).basis.length <=2 by omega);unfold CZ;simp only;rw[iD hv,aI,dX hv,aB,e,aS (by simp[jX];omega),aI,aB,aB,P.size,QC (by omega) (by omega) (λx hx=>(P.vecs x hx).1),aB,Qz (by omega) (by omega) (by omega),aB,aS (by simp;omega),aI,bJ hv (by omega)]
  have e3:jX (s.take v)++[((sG s v).basis.length:Int)]=jX (s.take (v+1)):=by
   unfold jX;rw[yK hv,List.map_append,e];rfl
  have e4:(s.take v).map Zc++[(⟨(dN r v:Nat),((sG s v).basis.length:Nat),bN (dN r v) (sG s v).basis.length λi k=>cA (sG s v).basis k i⟩:Mt)]=(s.take (v+1)).map Zc:=by
   rw[yK hv,List.map_append,e];unfold Zc Yx;simp only[List.map_cons,List.map_nil,P.size,eK]
  rw[e3,e4]
 .unfold CZ;simp only;rw[iZ (bA _),aN,List.take_length]
theorem aBh:bR (Tl r s):=by
 have h5:=S.R.n5;have h6:=S.R.e6;have hml:=S.R.ml;have hsl:=T.P.len;refine⟨hr.1,by simp[bI,Tl,jX];omega,⟨by simp[Tl];omega,λm hm=>?_⟩,trivial⟩;obtain⟨i,hi,rfl⟩:=List.mem_map.1 hm;have hi':i<r.q.src.length:=by have:=List.mem_range.1 hi;omega
 have d1:=S.d _ (S.R.s i hi').2;have d2:=S.d _ (S.R.t i hi').2;have k1:=(GH T (S.R.s i hi').2).2;have k2:=(GH T (S.R.t i hi').2).2;have m5:=Nat.mul_le_mul (show kN s (tV r i)<=2 by omega) (show kN s (sV r i)<=2 by omega);refine⟨?_,trivial⟩;unfold bI XB;simp only;rw[dU];omega
end
def MT(r b:Rp)(k:Nat):Int:=Zb (Tl r ((gQ r b.dims)[k]?.getD [])) b
def mR(r a b:Rp)(k:Nat):Int:=Zb (NQ r ((gQ r b.dims)[k]?.getD [])) a
def XC(r a b:Rp):Nat->Int
 |0=>0
 |k+1=>wr (XC r a b k+wr (MT r b k*mR r a b k))
def Ze(r a b:Rp)(k:Nat):Bool:= !decide (MT r b k<0)&& !decide (mR r a b k<0)
def Ns(r a b:Rp):Int:=bif rS r a&&(rS r b&&mQ r)then(bif(List.range (gQ r b.dims).length).all (Ze r a b)then XC r a b (gQ r b.dims).length else -1)else -1
section
variable {r a b:Rp}(hr:bR r)(ha:bR a)(hb:bR b)(S:Sm r)
include hr ha hb S
theorem Vp(hn:(gQ r b.dims).length <=1048576):Lp (pX r a b (gQ r b.dims)) (0,0)=some (bif(List.range (gQ r b.dims).length).all (Ze r a b)then .inl (XC r a b (gQ r b.dims).length)else .inr (-1)):=by
 refine Xp (λk=>(XC r a b k,(k:Int))) (gQ r b.dims).length (Ze r a b) (Sum.inr (-1)) (Sum.inl (XC r a b (gQ r b.dims).length)) (λk hk _=>?_) (λ_=>?_)
 .have T:=QV S (cU (l:=gQ r b.dims) [] hk);unfold pX;simp only;rw[iD hk,aI,gY [] hk,aB,aBf hr S T,aB,aDz hr S T,aB];simp only;rw[SW (aBh hr S T) hb,aB,SW (aBV hr S T) ha,aB];rw[show XC r a b (k+1)=wr (XC r a b k+wr (MT r b k*mR r a b k)) from rfl];unfold Ze MT mR;cases h1:decide (Zb (Tl r ((gQ r b.dims)[k]?.getD [])) b<0)with
  |true=>rfl
  |false=>
   cases h2:decide (Zb (NQ r ((gQ r b.dims)[k]?.getD [])) a<0)with
   |true=>rfl
   |false=>rw[bJ hk (by omega)];rfl
 .unfold pX;simp only;rw[iZ (bA _),aN]
theorem Vq(hn:(gQ r b.dims).length <=1048576):Lp (pZ r a b (gQ r b.dims,true)) (0,0)=some (bif(List.range (gQ r b.dims).length).all (Ze r a b)then .inl (XC r a b (gQ r b.dims).length)else .inr (-1)):=by
 refine Xp (λk=>(XC r a b k,(k:Int))) (gQ r b.dims).length (Ze r a b) (Sum.inr (-1)) (Sum.inl (XC r a b (gQ r b.dims).length)) (λk hk _=>?_) (λ_=>?_)
 .have T:=QV S (cU (l:=gQ r b.dims) [] hk);unfold pZ;simp only;rw[iD hk,aI,gY [] hk,aB,Vo hr S T,aB,aB,aBU hr S T,aB];simp only;rw[SX (aBh hr S T) hb,aB,SX (aBV hr S T) ha,aB];rw[show XC r a b (k+1)=wr (XC r a b k+wr (MT r b k*mR r a b k)) from rfl];unfold Ze MT mR;cases h1:decide (Zb (Tl r ((gQ r b.dims)[k]?.getD [])) b<0)with
  |true=>rfl
  |false=>
   cases h2:decide (Zb (NQ r ((gQ r b.dims)[k]?.getD [])) a<0)with
   |true=>rfl
   |false=>rw[bJ hk (by omega)];rfl
 .unfold pZ;simp only;rw[iZ (bA _),aN]
end
section
variable {r a b:Rp}(hr:bR r)(ha:bR a)(hb:bR b)
include hr ha hb
theorem XD:vU r a b=some (Ns r a b):=by
 unfold vU Ns;rw[show wL r a=some (rS r a) from aAl hr ha,aB,show wL r b=some (rS r b) from aAl hr hb];cases h1:rS r a with
 |false=>rfl
 |true=>
  rw[dO,aN,aB];cases h2:rS r b with
  |false=>rfl
  |true=>
   rw[dO,aN,NM hr,aB];cases h3:mQ r with
   |false=>rfl
   |true=>
    have S:=KK h3;have hn:=xA S b.dims;rw[dO,aN,LD hr S (lX h2).ne,aB,Vp hr ha hb S (by omega),aB];cases (List.range (gQ r b.dims).length).all (Ze r a b)<;>rfl
theorem XE:vV r a b=some (Ns r a b):=by
 unfold vV Ns;rw[show lH r a=some (rS r a) from JO hr ha,aB,show lH r b=some (rS r b) from JO hr hb];cases h1:rS r a with
 |false=>rfl
 |true=>
  rw[dO,aN,aB];cases h2:rS r b with
  |false=>rfl
  |true=>
   rw[dO,aN,Fu hr,aB];unfold Hm;rw[aS (lX h2).ne,Bool.and_true];cases h3:mQ r with
   |false=>rfl
   |true=>
    have S:=KK h3;have hn:=xA S b.dims;rw[aI,dO,aN,Vq hr ha hb S (by omega),aB];cases (List.range (gQ r b.dims).length).all (Ze r a b)<;>rfl
end
end
section
theorem aCt{P k:Nat}(hP:P<=5)(hk:k<=21):P ^ k<=476837158203125:=by
 have h1:P ^ k<=5 ^ k:=Nat.pow_le_pow_left hP k;have h2:5 ^ k<=5 ^ 21:=Nat.pow_le_pow_right (by omega) hk;have h3:5 ^ 21=476837158203125:=by decide
 omega
section
variable {p:Int}(hp:mA p=true){d:Nat}(hd:d<=20)
include hp hd
theorem Vr:∀k,k<d->(bif decide ((k:Int)<(d:Int))then some (.inl (wr (((p.toNat ^ k:Nat):Int)*p),wr ((k:Int)+1)))else some (.inr ((p.toNat ^ k:Nat):Int)))=(some (.inl (((p.toNat ^ (k+1):Nat):Int),((k+1:Nat):Int))):Option ((Int×Int) ⊕ Int)):=by
 intro k hk;obtain⟨e,e2,e5⟩:=JU hp;have hb:=aCt (P:=p.toNat) (k:=k+1) e5 (by omega);have em:((p.toNat ^ k:Nat):Int)*p=((p.toNat ^ (k+1):Nat):Int):=by rw[Nat.pow_succ,Int.natCast_mul,e]
 rw[iD hk,aI,em,cC (by omega),bJ hk (by omega)]
theorem aCu:ES p (d:Int)=some ((p.toNat ^ d:Nat):Int)/\lQ p (d:Int)=some ((p.toNat ^ d:Nat):Int):=by
 unfold ES lQ;constructor
 .rw[cB (s:=((1:Int),(0:Int))) (r:=((p.toNat ^ d:Nat):Int)) (λk=>(((p.toNat ^ k:Nat):Int),(k:Int))) d rfl (λk hk=>Vr hp hd k hk) (λ_=>?_),aB];unfold Hj;simp only;rw[iZ (bA _),aN]
 .rw[cB (s:=((1:Int),(0:Int))) (r:=((p.toNat ^ d:Nat):Int)) (λk=>(((p.toNat ^ k:Nat):Int),(k:Int))) d rfl (λk hk=>Vr hp hd k hk) (λ_=>?_),aB];unfold BK;simp only;rw[iZ (bA _),aN]
end
def aD(q:Qv)(d:aA)(i:Nat):Nat:=(d[(q.tgt[i]?.getD 0).toNat]?.getD 0).toNat
def bD(q:Qv)(d:aA)(i:Nat):Nat:=(d[(q.src[i]?.getD 0).toNat]?.getD 0).toNat
section
variable {q:Qv}{d:aA}(hD:Hd q d=true)
include hD
theorem XF{i:Nat}(hi:i<q.src.length):bP q.src (i:Int)=some (q.src[i]?.getD 0)/\bP q.tgt (i:Int)=some (q.tgt[i]?.getD 0)/\bP d (q.src[i]?.getD 0)=some (bD q d i:Int)/\bP d (q.tgt[i]?.getD 0)=some (aD q d i:Int)/\aD q d i<=4/\bD q d i<=4:=by
 obtain⟨hv,hl,hd,_⟩:=nH hD;obtain⟨n,hn,n1,n5,he,h6,hs,ht⟩:=pS hv;have s1:=hs _ (cU (l:=q.src) 0 hi);have t1:=ht _ (cU (l:=q.tgt) 0 (k:=i) (by omega));have s2:=hd _ (cU (l:=d) 0 (k:=(q.src[i]?.getD 0).toNat) (by omega));have t2:=hd _ (cU (l:=d) 0 (k:=(q.tgt[i]?.getD 0).toNat) (by omega));refine⟨gY 0 hi,gY 0 (by omega),?_,?_,?_,?_⟩
 .rw[OY 0 s1.1 (by omega)];unfold bD;rw[Int.toNat_of_nonneg s2.1]
 .rw[OY 0 t1.1 (by omega)];unfold aD;rw[Int.toNat_of_nonneg t2.1]
 .unfold aD;omega
 .unfold bD;omega
theorem aCv(hq:bQ q)(p:Int):lS p q d=some ⟨p,q,d,(List.range q.src.length).map λi=>(⟨aD q d i,bD q d i,bN (aD q d i) (bD q d i) λ_ _=>0⟩:Mt)⟩:=by
 obtain⟨hv,hl,hd,_⟩:=nH hD;obtain⟨n,hn,n1,n5,he,h6,hs,ht⟩:=pS hv;unfold lS mB;rw[Vb hq,aB,aS (by omega),aI,aB];rw[cB (r:=(List.range q.src.length).map λi=>(⟨aD q d i,bD q d i,bN (aD q d i) (bD q d i) λ_ _=>0⟩:Mt)) (λk=>((List.range k).map λi=>(⟨aD q d i,bD q d i,bN (aD q d i) (bD q d i) λ_ _=>0⟩:Mt),(k:Int))) q.src.length (by rfl) (λi hi=>?_) (λ_=>?_),aB]
 .obtain⟨e1,e2,e3,e4,a4,b4⟩:=XF hD hi;have hN:=Nat.mul_le_mul a4 b4;unfold pV;simp only;rw[iD hi,aI,e1,aB,e2,aB,e4,aB,e3,aB,Mu (by omega),aB,aS (by simp;omega),aI,Al,bJ hi (by omega)]
 .unfold pV;simp only;rw[iZ (bA _),aN]
theorem aCw:Lp (qW q d) (0,0)=some ((dD (λi=>aD q d i*bD q d i) q.src.length:Nat):Int)/\dD (λi=>aD q d i*bD q d i) q.src.length<=96:=by
 obtain⟨hv,hl,hd,_⟩:=nH hD;obtain⟨n,hn,n1,n5,he,h6,hs,ht⟩:=pS hv
 have hb:∀k,k<=q.src.length->dD (λi=>aD q d i*bD q d i) k<=16*k:=λk hk=>TN λi hi=>by
  obtain⟨_,_,_,_,a4,b4⟩:=XF hD (i:=i) (by omega);exact Nat.mul_le_mul a4 b4
 have hb6:=hb _ (bA _);refine⟨?_,by omega⟩;rw[cB (r:=((dD (λi=>aD q d i*bD q d i) q.src.length:Nat):Int)) (λk=>(((dD (λi=>aD q d i*bD q d i) k:Nat):Int),(k:Int))) q.src.length (by rfl) (λi hi=>?_) (λ_=>?_)]
 .obtain⟨e1,e2,e3,e4,a4,b4⟩:=XF hD hi;have hN:=Nat.mul_le_mul a4 b4;have h1:=hb i (by omega);have em:(bD q d i:Int)*(aD q d i:Int)=((aD q d i*bD q d i:Nat):Int):=by rw[Int.natCast_mul,Int.mul_comm]
  have eo:dD (λi=>aD q d i*bD q d i) (i+1)=dD (λi=>aD q d i*bD q d i) i+aD q d i*bD q d i:=rfl;unfold qW;simp only;rw[iD hi,aI,e1,aB,e3,aB,e2,aB,e4,aB,em,eo];generalize aD q d i*bD q d i=x at*;rw[cC (x:=(x:Int)) (by omega),cC (by omega),bJ hi (by omega)];congr 4
 .unfold qW;simp only;rw[iZ (bA _),aN]
end
theorem Vs(p:Int){q:Qv}{d:aA}(hq:bQ q)(hd:bI d):∃z,xT p q d=some z/\xU p q d=some z:=by
 unfold xT xU;rw[Gz,JN,Pj hq hd,Pk hq hd];simp only[aB];cases hp:mA p with
 |false=>exact⟨_,rfl,rfl⟩
 |true=>
  cases hD:Hd q d with
  |false=>exact⟨_,rfl,rfl⟩
  |true=>
   obtain⟨e1,hb⟩:=aCw hD;obtain⟨hv,_⟩:=nH hD;obtain⟨n,hn,n1,n5,he,h6,_⟩:=pS hv;have hf:=TP (k:=q.src.length) (r:=λi=>(aD q d i:Int)) (c:=λi=>(bD q d i:Int)) (l:=λi=>aD q d i*bD q d i) (f:=λ_ _=>0) (by omega) (by omega);have hf':lM ((List.range q.src.length).map λi=>(⟨aD q d i,bD q d i,bN (aD q d i) (bD q d i) λ_ _=>0⟩:Mt))=_:=hf;simp only[dO,aN,aCv hD hq,aB,hf',e1,jJ];by_cases c:20<dD (λi=>aD q d i*bD q d i) q.src.length
   .rw[aS (by omega)];exact⟨_,rfl,rfl⟩
   .rw[bZ (by omega),aN,aN];obtain⟨g1,g2⟩:=aCu hp (d:=dD (λi=>aD q d i*bD q d i) q.src.length) (by omega);rw[g1,g2];exact⟨_,rfl,rfl⟩
theorem aDX{p:Int}{q:Qv}{d:aA}{ms:List Mt}(hq:bQ q)(h1:d.length<=100)(h2:ms.length<=100)(h3:∀m∈ms,m.cells.length<=200):bR ⟨p,q,d,ms⟩:=
 ⟨hq,by unfold bI;simp only;omega,⟨by simp only;omega,λm hm=>⟨by unfold bI;have:=h3 m hm;omega,trivial⟩⟩,trivial⟩
section
variable {b:aA}{i:Int}(hb:b.length<=1048576)(hi:HN b i)(h:Int)
include hb hi
theorem aCx{n:Int}(hn:0<n):∃i' h' x,cE ⟨b,i,h⟩ n=some (i',h',x)/\HN b i'/\0<=x/\x<n:=by
 by_cases c:n<=256
 .obtain⟨i',h',x,e,k,x0,x1,_⟩:=vG hb hi h c;exact⟨_,_,_,e,k,x0,x1 hn⟩
 .obtain⟨i1,x1,e1,k1,a1,b1⟩:=VJ hb hi h;unfold cE;simp only;rw[bZ (by omega),aN,bZ c,aN,e1,aB];simp only;generalize wr (wr (h*6364136223846793005)+1442695040888963407)=g1;obtain⟨i2,x2,e2,k2,a2,b2⟩:=VJ hb k1 g1;rw[e2,aB];simp only;generalize wr (wr (g1*6364136223846793005)+1442695040888963407)=g2;obtain⟨i3,x3,e3,k3,a3,b3⟩:=VJ hb k2 g2;rw[e3,aB];simp only;generalize wr (wr (g2*6364136223846793005)+1442695040888963407)=g3;obtain⟨i4,x4,e4,k4,a4,b4⟩:=VJ hb k3 g3;rw[e4,aB,bZ (by omega:¬ n=0),Bool.not_false,aI];rw[cC (x:=x1*16777216) (by omega),cC (x:=x2*65536) (by omega),cC (x:=x3*256) (by omega),cC (x:=x1*16777216+x2*65536) (by omega),cC (x:=x1*16777216+x2*65536+x3*256) (by omega),cC (x:=x1*16777216+x2*65536+x3*256+x4) (by omega)];have h0:0<=x1*16777216+x2*65536+x3*256+x4:=by omega
  refine⟨_,_,_,rfl,k4,?_,?_⟩
  .rw[Int.tmod_eq_emod_of_nonneg h0];exact Int.emod_nonneg _ (by omega)
  .rw[Int.tmod_eq_emod_of_nonneg h0];exact Int.emod_lt_of_pos _ (by omega)
theorem XG:∃(i' h':Int)(r:Rp),uM ⟨b,i,h⟩=some (i',h',r.p,r.q.n,r.q.src,r.q.tgt,r.dims,r.maps)/\HN b i'/\bR r:=by
 unfold uM;obtain⟨i1,h1,p,e1,k1,_⟩:=aCc hb hi h;obtain⟨i2,h2,s,e2,k2,hs⟩:=aDQ hb k1 h1 (l:=[(⟨#[65,49]⟩:ByteArray),⟨#[65,50]⟩,⟨#[65,51]⟩,⟨#[65,51,105,110]⟩,⟨#[75,50]⟩,⟨#[108,111,111,112]⟩]) (by simp) (by simp)
 have hs':s∈nmL:=by
  simp only[eW,List.not_mem_nil,or_false]at hs;rcases hs with rfl|rfl|rfl|rfl|rfl|rfl<;>simp[nmL]
 obtain⟨q,hq,e3⟩:=SF hs';have hq5:=(by decide:∀q∈nmQ,q.src.length<=5/\q.tgt.length<=5) q hq;have bq:bQ q:=⟨by unfold bI;omega,by unfold bI;omega,trivial⟩;obtain⟨i4,h4,t,e4,k4⟩:=VK hb k2 h2 (n:=12) (by omega);rw[e1,aB];simp only;rw[e2,aB];simp only;rw[e3,aB,e4,aB];cases t with
 |true=>
  obtain⟨i5,h5,r,e5,k5,hr⟩:=aDT hb k4 h4;simp only[aI];rw[e5,aB];exact⟨_,_,r,rfl,k5,hr⟩
 |false=>
  obtain⟨i5,h5,d,ms,e5,k5,l1,l2,hm⟩:=dOf hb k4 h4 p bq (m:=2) (by omega) (by omega);have hR:bR ⟨p,q,d,ms⟩:=aDX bq (by omega) (by omega) λm hm'=>by have:=hm m hm';omega
  have q0:(⟨q.n,q.src,q.tgt⟩:Qv)=q:=rfl;simp only[aN];rw[e5,aB];simp only;rw[q0,SJ hR,aB];cases decide (4<bif vX ⟨p,q,d,ms⟩then(⟨p,q,d,ms⟩:Rp).dims.sum else -1)with
  |true=>
   obtain⟨i6,h6,d',ms',e6,k6,m1,m2,hm'⟩:=dOf hb k5 h5 p bq (m:=1) (by omega) (by omega);rw[aI,e6,aB];exact⟨_,_,⟨p,q,d',ms'⟩,rfl,k6,aDX bq (by omega) (by omega) λm hm=>by have:=hm' m hm;omega⟩
  |false=>exact⟨_,_,⟨p,q,d,ms⟩,rfl,k5,hR⟩
end
section
variable {c:aA}(hc:c.length<=1048576)
include hc
theorem aEF:∃(r:Rp)(d:aA),qY c=some (r.p,r.q.n,r.q.src,r.q.tgt,r.dims,r.maps,d)/\bR r:=by
 obtain⟨h,e⟩:=aBC c hc;obtain⟨i1,h1,r,e1,k1,hr⟩:=XG hc (c0 c) h;have hl:r.dims.length<=1048576:=hr.2.1
 have hloop:∃z,Lp (Bg c (i1,h1,r.p,r.q.n,r.q.src,r.q.tgt,r.dims,r.maps)) (i1,h1,([]:aA),0)=some z/\(HN c z.1/\z.2.2.length<=1048576):=by
  refine EH (λs:Int×Int×aA×Int=>HN c s.1/\(s.2.2.1.length:Int)=s.2.2.2/\s.2.2.2<=r.dims.length) (λs=>((r.dims.length:Int)-s.2.2.2).toNat) (λz:Int×Int×aA=>HN c z.1/\z.2.2.length<=1048576) ⟨k1,rfl,by simp only;omega⟩ ?_;rintro⟨i2,h2,d,v⟩ ⟨k2,f1,f2⟩;simp only at k2 f1 f2;unfold Bg;simp only;by_cases cc:v<r.dims.length
  .obtain⟨i3,h3,x,e3,k3,_⟩:=vG hc k2 h2 (n:=max 1 (min 5 (wr (r.dims[v.toNat]?.getD 0+1)))) (by omega);rw[aS cc,aI,OY 0 (by omega) (by omega),aB,e3,aB,aS (by simp;omega),aI,cC (x:=v+1) (by omega)];exact .inl ⟨_,rfl,⟨k3,by simp;omega,by simp only;omega⟩,by simp only;omega⟩
  .rw[bZ cc,aN];exact .inr ⟨_,rfl,k2,by simp only;omega⟩
 obtain⟨⟨i2,h2,d⟩,e2,k2,l2⟩:=hloop;simp only at k2 l2;obtain⟨i3,h3,t,e3,k3⟩:=VK hc k2 h2 (n:=12) (by omega);unfold qY FN;rw[e,aB,e1,aB];simp only;rw[e2,aB];simp only;rw[e3,aB];cases t with
 |true=>
  simp only[aI];rw[aS (by simp;omega),aI];exact⟨r,_,rfl,hr⟩
 |false=>exact⟨r,_,rfl,hr⟩
theorem aEq:∃r:Rp,tJ c=some (r.p,r.q.n,r.q.src,r.q.tgt,r.dims,r.maps)/\bR r:=by
 obtain⟨h,e⟩:=aBC c hc;obtain⟨i1,h1,r,e1,k1,hr⟩:=XG hc (c0 c) h;unfold tJ;rw[e,aB,e1,aB];exact⟨r,rfl,hr⟩
theorem aEG:∃x y z:Rp,oQ c=some (y.p,y.q.n,y.q.src,y.q.tgt,y.dims,y.maps,z.p,z.q.n,z.q.src,z.q.tgt,z.dims,z.maps,x.p,x.q.n,x.q.src,x.q.tgt,x.dims,x.maps)/\bR x/\bR y/\bR z:=by
 obtain⟨h,e⟩:=aBC c hc;obtain⟨i1,h1,r,e1,k1,hr⟩:=XG hc (c0 c) h;unfold oQ;rw[e,aB,e1,aB];simp only;rw[show(⟨r.p,⟨r.q.n,r.q.src,r.q.tgt⟩,r.dims,r.maps⟩:Rp)=r from rfl,SO hr,aB];cases hS:mQ r with
 |false=>
  unfold QT;rw[hS];exact⟨r,r,r,rfl,hr,hr,hr⟩
 |true=>
  have S:=KK hS;have ha:QT r=(RC r,true):=by unfold QT;rw[hS];rfl
  rw[ha];simp only[aI];by_cases c1:0<(RC r).length
  .obtain⟨i2,h2,x,e2,k2,x0,x1⟩:=aCx hc k1 h1 (n:=((RC r).length:Int)) (by omega);rw[aS (by omega),aI,e2,aB];simp only;rw[OY [] x0 (by omega),aB];have T:=ZJ S (cU (l:=RC r) [] (k:=x.toNat) (by omega));rw[Vo hr S T,aB,aBU hr S T,aB];exact⟨r,NQ r _,Tl r _,rfl,hr,aBV hr S T,aBh hr S T⟩
  .rw[bZ (by omega),aN];exact⟨r,r,r,rfl,hr,hr,hr⟩
theorem aEH:∃(p:Int)(q:Qv)(d:aA),qB c=some (p,q.n,q.src,q.tgt,d)/\bQ q/\bI d:=by
 obtain⟨h,e⟩:=aBC c hc;obtain⟨i1,h1,q,e1,k1,l1,l2⟩:=aEh hc (c0 c) h;have bq:bQ q:=⟨by unfold bI;omega,by unfold bI;omega,trivial⟩;obtain⟨i2,h2,d,e2,k2,l3,_⟩:=aDS hc k1 h1 q (most:=3) (by omega) (by omega);obtain⟨i3,h3,t,e3,k3⟩:=VK hc k2 h2 (n:=8) (by omega);have q0:(⟨q.n,q.src,q.tgt⟩:Qv)=q:=rfl
 have hm:∃p,bP ([2,3,5,4,2]:aA) ((c.length:Int).tmod 5)=some p:=by
  rw[Int.tmod_eq_emod_of_nonneg (by omega)];exact⟨_,OY 0 (by omega) (by simp only[List.length_cons,List.length_nil];omega)⟩
 obtain⟨p,e5⟩:=hm
 have hQ:∃d',Bh c=some (d',q.n,q.src,q.tgt)/\bI d':=by
  unfold Bh;rw[e,aB,e1,aB];simp only;rw[q0,e2,aB];simp only;rw[e3,aB];cases t with
  |false=>exact⟨d,rfl,by unfold bI;omega⟩
  |true=>
   simp only[aI];by_cases c1:0<d.length
   .obtain⟨i4,h4,x,e4,k4,_⟩:=DO hc k3 h3 (l:=[(-1),5,4]) (by simp) (by simp);rw[aS (by omega),aI,e4,aB,OY 0 (Int.le_refl 0) (by omega),aB];exact⟨_,rfl,by unfold bI;rw[List.length_set];omega⟩
   .rw[bZ (by omega),aN];exact⟨d,rfl,by unfold bI;omega⟩
 obtain⟨d',e4,bd⟩:=hQ;unfold qB;rw[e4,aB,e5,aB];exact⟨p,q,d',rfl,bq,bd⟩
theorem aEr:∃r:Rp,qZ c=some (r.p,r.q.n,r.q.src,r.q.tgt,r.dims,r.maps)/\bR r:=by
 obtain⟨h,e⟩:=aBC c hc;obtain⟨i1,h1,r,e1,k1,hr⟩:=aDT hc (c0 c) h;unfold qZ;rw[e,aB,e1,aB];exact⟨r,rfl,hr⟩
end
end
noncomputable section
set_option maxRecDepth 10000
set_option maxHeartbeats 4000000
def LI(a0:aA):Option Bool:=
 some (decide (1048576<(a0.length:Int)))
theorem XH(a0:aA)(r:Bool)(h:LI a0=some r):HasC Tryz.prog 4 [.list 1 (a0.map eU)] (.bl r):=by
 exact hM [.tmp 2] Tryz.func4 Tryz.ntmps4 k<|jo
def FU(a0:aA)(a1:aA)(x1:Int):Option (Int ⊕ (Unit ⊕ Bool)):=
 bif decide (x1<(a0.length:Int))then
 ((bP a0 x1).bind λv3=>
 (bP a1 x1).bind λv4=>
 bif !decide (v3=v4)then
 some (.inr (.inr false))
 else
 (some (.inl (wr (x1+1)))))
 else
 some (.inr (.inl ()))
def Dw(a0:aA)(a1:aA):Option Bool:=
 bif !decide ((a0.length:Int)=(a1.length:Int))then
 some false
 else
 ((Lp (FU a0 a1) 0).bind λy6=>
 Sum.elim (λy7=>
 some true
 )
 (λy8=>
 some y8
 )
 y6)
theorem OT(a0:aA)(a1:aA)(r:Bool)(h:Dw a0 a1=some r):HasC Tryz.prog 12 [.list 1 (a0.map eI),.list 1 (a1.map eI)] (.bl r):=by
 refine hM [.tmp 4] Tryz.func12 Tryz.ntmps12 k<|sR<|aT k2<|sQ<|sR<|am k k<|ln k4<|am k k<|ln k4<|cm k4<|an<|tn<|cH k h (λ_ h=>jo) λ_ h=>?_;refine aG<|tn<|sQ<|sR<|aT k2<|jS [.tmp 4] .bl h (λx1=>mN [(0,.list 1 (a0.map eI)),(1,.list 1 (a1.map eI)),(5,.int x1)] [] 0) (λ_=>mN [] [] 0) ?_ ?_
 .intro x1 o h;exact jo
 .intro y7 h;exact jo
def oM(v5:((List (List Sc))×Bool))(x1:Int)(x2:Int):Option (Int ⊕ (Unit ⊕ Bool)):=
 bif decide (x2<x1)then
 ((bP v5.1 x2).bind λv24=>
 (bP v5.1 x1).bind λv25=>
 (rN v24 v25).bind λv26=>
 bif v26 then
 some (.inr (.inr false))
 else
 (some (.inl (wr (x2+1)))))
 else
 some (.inr (.inl ()))
def tQ(v3:(Int×Int×aA×aA×aA×(List Mt)×aA))(v4:((List (List Sc))×Bool))(v5:((List (List Sc))×Bool))(x1:Int):Option (Int ⊕ (Unit ⊕ Bool)):=
 bif decide (x1<((v5.1.length:Nat):Int))then
 ((bP v4.1 x1).bind λv12=>
 (bP v5.1 x1).bind λv13=>
 (rN v12 v13).bind λv14=>
 bif !v14 then
 some (.inr (.inr false))
 else
 ((bP v5.1 x1).bind λv16=>
 (xQ (⟨v3.1,(⟨v3.2.1,v3.2.2.1,v3.2.2.2.1⟩:Qv),v3.2.2.2.2.1,v3.2.2.2.2.2.1⟩:Rp) v16).bind λv17=>
 bif !v17 then
 some (.inr (.inr false))
 else
 ((bP v5.1 x1).bind λv19=>
 (FK (⟨v3.1,(⟨v3.2.1,v3.2.2.1,v3.2.2.2.1⟩:Qv),v3.2.2.2.2.1,v3.2.2.2.2.2.1⟩:Rp) v19).bind λv20=>
 (Dw v20 v3.2.2.2.2.2.2).bind λv21=>
 bif !v21 then
 some (.inr (.inr false))
 else
 ((Lp (oM v5 x1) 0).bind λy28=>
 Sum.elim (λy29=>
 some (.inl (wr (x1+1)))
 )
 (λy30=>
 some (.inr (.inr y30))
 )
 y28))))
 else
 some (.inr (.inl ()))
def Br(a0:aA):Option Bool:=
 (qB a0).bind λv47=>
 (qZ a0).bind λv48=>
 (xT v47.1 (⟨v47.2.1,v47.2.2.1,v47.2.2.2.1⟩:Qv) v47.2.2.2.2).bind λv49=>
 (xU v47.1 (⟨v47.2.1,v47.2.2.1,v47.2.2.2.1⟩:Qv) v47.2.2.2.2).bind λv50=>
 bif decide (v49=v50)then
 ((tW (⟨v48.1,(⟨v48.2.1,v48.2.2.1,v48.2.2.2.1⟩:Qv),v48.2.2.2.2.1,v48.2.2.2.2.2⟩:Rp)).bind λv52=>
 (zL (⟨v48.1,(⟨v48.2.1,v48.2.2.1,v48.2.2.2.1⟩:Qv),v48.2.2.2.2.1,v48.2.2.2.2.2⟩:Rp)).bind λv53=>
 bif decide (v52=v53)then
 ((mY (⟨v48.1,(⟨v48.2.1,v48.2.2.1,v48.2.2.2.1⟩:Qv),v48.2.2.2.2.1,v48.2.2.2.2.2⟩:Rp)).bind λv55=>
 bif !v55 then
 some true
 else
 ((tW (⟨v48.1,(⟨v48.2.1,v48.2.2.1,v48.2.2.2.1⟩:Qv),v48.2.2.2.2.1,v48.2.2.2.2.2⟩:Rp)).bind λv57=>
 some (decide (0<=v57))))
 else
 (some false))
 else
 some false
def Bs(a0:aA):Option Bool:=
 (oQ a0).bind λv40=>
 (vU (⟨v40.2.2.2.2.2.2.2.2.2.2.2.2.1,(⟨v40.2.2.2.2.2.2.2.2.2.2.2.2.2.1,v40.2.2.2.2.2.2.2.2.2.2.2.2.2.2.1,v40.2.2.2.2.2.2.2.2.2.2.2.2.2.2.2.1⟩:Qv),v40.2.2.2.2.2.2.2.2.2.2.2.2.2.2.2.2.1,v40.2.2.2.2.2.2.2.2.2.2.2.2.2.2.2.2.2⟩:Rp) (⟨v40.1,(⟨v40.2.1,v40.2.2.1,v40.2.2.2.1⟩:Qv),v40.2.2.2.2.1,v40.2.2.2.2.2.1⟩:Rp) (⟨v40.2.2.2.2.2.2.1,(⟨v40.2.2.2.2.2.2.2.1,v40.2.2.2.2.2.2.2.2.1,v40.2.2.2.2.2.2.2.2.2.1⟩:Qv),v40.2.2.2.2.2.2.2.2.2.2.1,v40.2.2.2.2.2.2.2.2.2.2.2.1⟩:Rp)).bind λv41=>
 (vV (⟨v40.2.2.2.2.2.2.2.2.2.2.2.2.1,(⟨v40.2.2.2.2.2.2.2.2.2.2.2.2.2.1,v40.2.2.2.2.2.2.2.2.2.2.2.2.2.2.1,v40.2.2.2.2.2.2.2.2.2.2.2.2.2.2.2.1⟩:Qv),v40.2.2.2.2.2.2.2.2.2.2.2.2.2.2.2.2.1,v40.2.2.2.2.2.2.2.2.2.2.2.2.2.2.2.2.2⟩:Rp) (⟨v40.1,(⟨v40.2.1,v40.2.2.1,v40.2.2.2.1⟩:Qv),v40.2.2.2.2.1,v40.2.2.2.2.2.1⟩:Rp) (⟨v40.2.2.2.2.2.2.1,(⟨v40.2.2.2.2.2.2.2.1,v40.2.2.2.2.2.2.2.2.1,v40.2.2.2.2.2.2.2.2.2.1⟩:Qv),v40.2.2.2.2.2.2.2.2.2.2.1,v40.2.2.2.2.2.2.2.2.2.2.2.1⟩:Rp)).bind λv42=>
 bif !decide (v41=v42)then
 some false
 else
 (bif decide (0<v41)then
 ((iW (⟨v40.2.2.2.2.2.2.2.2.2.2.2.2.1,(⟨v40.2.2.2.2.2.2.2.2.2.2.2.2.2.1,v40.2.2.2.2.2.2.2.2.2.2.2.2.2.2.1,v40.2.2.2.2.2.2.2.2.2.2.2.2.2.2.2.1⟩:Qv),v40.2.2.2.2.2.2.2.2.2.2.2.2.2.2.2.2.1,v40.2.2.2.2.2.2.2.2.2.2.2.2.2.2.2.2.2⟩:Rp) v40.2.2.2.2.2.2.2.2.2.2.1).bind λv45=>
 bif decide (v45<v41)then
 some false
 else
 (Br a0))
 else
 (Br a0))
def Dx(a0:aA):Option Bool:=
 (LI a0).bind λv1=>
 bif v1 then
 some true
 else
 ((qY a0).bind λv3=>
 (tY (⟨v3.1,(⟨v3.2.1,v3.2.2.1,v3.2.2.2.1⟩:Qv),v3.2.2.2.2.1,v3.2.2.2.2.2.1⟩:Rp) v3.2.2.2.2.2.2).bind λv4=>
 (mP (⟨v3.1,(⟨v3.2.1,v3.2.2.1,v3.2.2.2.1⟩:Qv),v3.2.2.2.2.1,v3.2.2.2.2.2.1⟩:Rp) v3.2.2.2.2.2.2).bind λv5=>
 bif !(v4.2==v5.2)then
 some false
 else
 (bif !decide (((v4.1.length:Nat):Int)=((v5.1.length:Nat):Int))then
 some false
 else
 ((iW (⟨v3.1,(⟨v3.2.1,v3.2.2.1,v3.2.2.2.1⟩:Qv),v3.2.2.2.2.1,v3.2.2.2.2.2.1⟩:Rp) v3.2.2.2.2.2.2).bind λv8=>
 (xS (⟨v3.1,(⟨v3.2.1,v3.2.2.1,v3.2.2.2.1⟩:Qv),v3.2.2.2.2.1,v3.2.2.2.2.2.1⟩:Rp) v3.2.2.2.2.2.2).bind λv9=>
 bif !decide (v8=v9)then
 some false
 else
 ((Lp (tQ v3 v4 v5) 0).bind λy31=>
 Sum.elim (λy32=>
 (tJ a0).bind λv33=>
 (BQ (⟨v33.1,(⟨v33.2.1,v33.2.2.1,v33.2.2.2.1⟩:Qv),v33.2.2.2.2.1,v33.2.2.2.2.2⟩:Rp)).bind λv34=>
 (wT (⟨v33.1,(⟨v33.2.1,v33.2.2.1,v33.2.2.2.1⟩:Qv),v33.2.2.2.2.1,v33.2.2.2.2.2⟩:Rp)).bind λv35=>
 bif !(v34.2==v35.2)then
 some false
 else
 (bif !decide (((v34.1.length:Nat):Int)=((v35.1.length:Nat):Int))then
 some false
 else
 (bif v34.2 then
 (bif decide (((v35.1.length:Nat):Int)<1)then
 some false
 else
 (Bs a0))
 else
 (Bs a0)))
 )
 (λy98=>
 some y98
 )
 y31))))
theorem OU(a0:aA)(r:Bool)(h:Dx a0=some r):HasC Tryz.prog 3 [.list 1 (a0.map eU)] (.bl r):=by
 refine hM [.tmp 2] Tryz.func3 Tryz.ntmps3 k<|sR<|aT k2<|sQ<|sR<|am k k<|oB h λv1 hv1 h=>ae (jc (XH _ _ hv1)) k<|an<|tn<|cH k h (λ_ h=>jo) λ_ h=>?_;refine aG<|tn<|sR<|am k k<|oB h λv3 hv3 h=>ae (jC [] [(0,1),(1,2),(2,3)] [] [0,1,2] [(0,⟨1,v3.2.2.2.2.1.map (ow eI)⟩),(1,⟨3,v3.2.2.2.2.2.1.map (ow eM)⟩),(2,⟨1,v3.2.2.2.2.2.2.map (ow eI)⟩)] 3 (.tuple [.agg [.int v3.1,.int v3.2.1,.list 1 (v3.2.2.1.map eI),.list 1 (v3.2.2.2.1.map eI),.own 0 0 v3.2.2.2.2.1.length,.own 1 0 v3.2.2.2.2.2.1.length],.own 2 0 v3.2.2.2.2.2.2.length]) (Jk _ _ hv3)) k<|am k k<|jx k4<|jx k4<|jA k3<|ae (ws k) k<|aT k2<|sQ<|bK (gU (b:=3) (b':=0) (i:=0) (j:=4) (es':=v3.2.2.2.2.1.map eI) k k k k (qC cD k k))<|bK (gU (b:=3) (b':=1) (i:=0) (j:=5) (es':=v3.2.2.2.2.2.1.map eM) k k k k (qC dC k k))<|bK (CH (t:=4) (d:=.list 1 (v3.2.2.2.2.2.2.map eI)) [2] k (qC cD k k) k k)<|rg<|lp k8<|am k k<|oB h λv4 hv4 h=>ae (cT fY (Hi _ _ _ hv4) k3 (aO (kB k) (fE k aU))) k<|am k k<|jx k4<|jx k4<|aa k k<|aT k2 ?_;refine sR<|lp k8<|am k k<|oB h λv5 hv5 h=>ae (jC [] [(5,0)] [] [5] [(5,⟨1,v5.1.map (dB 2 eS)⟩)] 6 (.tuple [.own 5 0 v5.1.length,.bl v5.2]) (zR _ _ _ hv5)) k<|am k k<|jx k4<|jx k4<|aa k k<|aT k2<|bK (t:=mN [(0,.list 1 (a0.map eU)),(3,.ptr 3 0 0),(4,.list 1 (v3.2.2.2.2.2.2.map eI)),(5,.own 4 0 v4.1.length),(6,.bl v4.2),(7,.own 5 0 v5.1.length),(8,.bl v5.2)] [(3,⟨6,[[.int v3.1,.int v3.2.1,.list 1 (v3.2.2.1.map eI),.list 1 (v3.2.2.2.1.map eI),.list 1 (v3.2.2.2.2.1.map eI),.list 3 (v3.2.2.2.2.2.1.map eM)]]⟩),(4,⟨1,v4.1.map (ow (dB 2 eS))⟩),(5,⟨1,v5.1.map (dB 2 eS)⟩)] 6) jI<|sQ<|sQ<|aH dK<|am k k<|am k k<|ae (Zu (by kernel_rfl) k k) k<|am k k<|iR h (λq6 h=>aE 46 k q6<|jo) λq6 h=>?_;refine aE 46 k q6<|am k k<|jn k5<|am k k<|jn k5<|cm k4<|pk k3<|am k k<|iR h (λq7 h=>aE 53 k q7<|jo) λq7 h=>?_;refine aE 53 k q7<|lp k8<|am k k<|oB h λv8 hv8 h=>ae (jc (Gb _ _ _ hv8)) k<|lp k8<|am k k<|oB h λv9 hv9 h=>ae (jc (My _ _ _ hv9)) k<|cm k4<|pk k3<|an<|lZ (by kernel_rfl)<|tn<|cH k h (λ_ h=>jo) λ_ h=>?_;refine aG<|tn<|sQ<|sR<|aT k2<|jS [.tmp 2] .bl h (λx1=>mN [(0,.list 1 (a0.map eU)),(3,.ptr 0 0 0),(4,.list 1 (v3.2.2.2.2.2.2.map eI)),(5,.own 1 0 v4.1.length),(7,.own 2 0 v5.1.length),(9,.int x1)] [(0,⟨6,[[.int v3.1,.int v3.2.1,.list 1 (v3.2.2.1.map eI),.list 1 (v3.2.2.2.1.map eI),.list 1 (v3.2.2.2.2.1.map eI),.list 3 (v3.2.2.2.2.2.1.map eM)]]⟩),(1,⟨1,v4.1.map (ow (dB 2 eS))⟩),(2,⟨1,v5.1.map (dB 2 eS)⟩)] 3) (λ_=>mN [(0,.list 1 (a0.map eU))] [] 0) ?_ ?_ (jZ [3,4,5])
 .intro x1 o h;refine sQ<|sR<|am k k<|am k k<|jn k5<|cm k4<|an<|tn<|cH k h (λ_ h=>?_) λ_ h=>aR<|aC<|aC<|sp h ⟨_,k,k,jI⟩;refine aG<|tn<|sQ<|aL<|sQ<|sQ<|aH dK<|am k k<|am k k<|jp h k2 λv12 hv12 h=>ae (wp hv12 k) k<|am k k<|am k k<|jp h k2 λv13 hv13 h=>ae (wp hv13 k) k<|oB h λv14 hv14 h=>ae (jc (Ge _ _ _ hv14)) k<|ae (dE k) k<|am k k<|iR h (λq15 h=>?_) λq15 h=>?_
  .refine aE 78 k q15<|aK k4<|aK k4<|aK k4<|ak k k<|pk k3<|am k k<|aK k4<|aK k4<|aK k4<|aK k4<|ak k k<|pk k3<|an<|lZ (by kernel_rfl)<|tn<|bK (t:=mN [(0,.list 1 (a0.map eU)),(3,.ptr 0 0 0),(4,.list 1 (v3.2.2.2.2.2.2.map eI)),(5,.own 1 0 v4.1.length),(7,.own 2 0 v5.1.length),(9,.int x1),(97,.bl true)] [(0,⟨6,[[.int v3.1,.int v3.2.1,.list 1 (v3.2.2.1.map eI),.list 1 (v3.2.2.2.1.map eI),.list 1 (v3.2.2.2.2.1.map eI),.list 3 (v3.2.2.2.2.2.1.map eM)]]⟩),(1,⟨1,v4.1.map (ow (dB 2 eS))⟩),(2,⟨1,v5.1.map (dB 2 eS)⟩)] 3) jI<|kO k k<|sR<|aT k2 ?_;exact jo
  .refine aE 78 k q15<|lp k8<|am k k<|am k k<|jp h k2 λv16 hv16 h=>ae (wp hv16 k) k<|oB h λv17 hv17 h=>ae (jc (HF _ _ _ hv17)) k<|ae (dE k) k<|pk k3<|am k k<|iR h (λq18 h=>aE 87 k q18<|aK k4<|aK k4<|aK k4<|aK k4<|ak k k<|pk k3<|an<|lZ (by kernel_rfl)<|tn<|bK (t:=mN [(0,.list 1 (a0.map eU)),(3,.ptr 0 0 0),(4,.list 1 (v3.2.2.2.2.2.2.map eI)),(5,.own 1 0 v4.1.length),(7,.own 2 0 v5.1.length),(9,.int x1),(97,.bl true)] [(0,⟨6,[[.int v3.1,.int v3.2.1,.list 1 (v3.2.2.1.map eI),.list 1 (v3.2.2.2.1.map eI),.list 1 (v3.2.2.2.2.1.map eI),.list 3 (v3.2.2.2.2.2.1.map eM)]]⟩),(1,⟨1,v4.1.map (ow (dB 2 eS))⟩),(2,⟨1,v5.1.map (dB 2 eS)⟩)] 3) jI<|jo) λq18 h=>?_;refine aE 87 k q18<|lp k8<|am k k<|am k k<|jp h k2 λv19 hv19 h=>ae (wp hv19 k) k<|oB h λv20 hv20 h=>ae (cL cD (Pz _ _ _ hv20) k3 (aO (kB k) (fE k aU))) k<|am k k<|oB h λv21 hv21 h=>ae (jc (OT _ _ _ hv21)) k<|ae (dE k) k<|pk k3<|an<|lZ (by kernel_rfl)<|tn<|bK (t:=mN [(0,.list 1 (a0.map eU)),(3,.ptr 0 0 0),(4,.list 1 (v3.2.2.2.2.2.2.map eI)),(5,.own 1 0 v4.1.length),(7,.own 2 0 v5.1.length),(9,.int x1),(97,.bl (!v21))] [(0,⟨6,[[.int v3.1,.int v3.2.1,.list 1 (v3.2.2.1.map eI),.list 1 (v3.2.2.2.1.map eI),.list 1 (v3.2.2.2.2.1.map eI),.list 3 (v3.2.2.2.2.2.1.map eM)]]⟩),(1,⟨1,v4.1.map (ow (dB 2 eS))⟩),(2,⟨1,v5.1.map (dB 2 eS)⟩)] 4) jI<|cH k h (λ_ h=>jo) λ_ h=>?_;refine aG<|tn<|sR<|aT k2<|aL<|oB h λy28 hy28 h=>Na (body:=(oM v5 x1)) hy28 (λ(x2:Int)=>mN [(0,.list 1 (a0.map eU)),(3,.ptr 0 0 0),(4,.list 1 (v3.2.2.2.2.2.2.map eI)),(5,.own 1 0 v4.1.length),(7,.own 2 0 v5.1.length),(9,.int x1),(10,.int x2)] [(0,⟨6,[[.int v3.1,.int v3.2.1,.list 1 (v3.2.2.1.map eI),.list 1 (v3.2.2.2.1.map eI),.list 1 (v3.2.2.2.2.1.map eI),.list 3 (v3.2.2.2.2.2.1.map eM)]]⟩),(1,⟨1,v4.1.map (ow (dB 2 eS))⟩),(2,⟨1,v5.1.map (dB 2 eS)⟩)] 3) (λr e t=>Sum.elim (λa=>(λr e t=>e= .exit 2/\Ent t (mN [(0,.list 1 (a0.map eU)),(3,.ptr 0 0 0),(4,.list 1 (v3.2.2.2.2.2.2.map eI)),(5,.own 1 0 v4.1.length),(7,.own 2 0 v5.1.length),(9,.int x1)] [(0,⟨6,[[.int v3.1,.int v3.2.1,.list 1 (v3.2.2.1.map eI),.list 1 (v3.2.2.2.1.map eI),.list 1 (v3.2.2.2.2.1.map eI),.list 3 (v3.2.2.2.2.2.1.map eM)]]⟩),(1,⟨1,v4.1.map (ow (dB 2 eS))⟩),(2,⟨1,v5.1.map (dB 2 eS)⟩)] 3)) a e t) (λb=>(λr e t=>e= .ret/\Qi TT [.tmp 2] (.bl r) .ret t) b e t) r) jI ?_ ?_
   .intro x2 o h;exact sQ<|sR<|am k k<|am k k<|cm k4<|an<|tn<|cH k h (λ_ h=>aG<|tn<|sQ<|aL<|sQ<|aH dK<|am k k<|am k k<|jp h k2 λv24 hv24 h=>ae (wp hv24 k) k<|am k k<|am k k<|jp h k2 λv25 hv25 h=>ae (wp hv25 k) k<|oB h λv26 hv26 h=>ae (jc (Ge _ _ _ hv26)) k<|jo) λ_ h=>aR<|jo
   .intro e t hX;rcases y28 with y29|y30
    .obtain⟨rfl,hent⟩:=hX;exact jo
    .obtain⟨rfl,hent⟩:=hX;exact kU<|kU<|bU<|bU<|sp h ⟨_,k,k,hent⟩
 .intro y32 h;refine sR<|am k k<|oB h λv33 hv33 h=>ae (jC [] [(0,1),(1,2)] [] [0,1] [(0,⟨1,v33.2.2.2.2.1.map (ow eI)⟩),(1,⟨3,v33.2.2.2.2.2.map (ow eM)⟩)] 2 (.agg [.int v33.1,.int v33.2.1,.list 1 (v33.2.2.1.map eI),.list 1 (v33.2.2.2.1.map eI),.own 0 0 v33.2.2.2.2.1.length,.own 1 0 v33.2.2.2.2.2.length]) (Kz _ _ hv33)) k<|jA k3<|ae (ws k) k<|an<|tn<|sQ<|bK (gU (b:=2) (b':=0) (i:=0) (j:=4) (es':=v33.2.2.2.2.1.map eI) k k k k (qC cD k k))<|bK (gU (b:=2) (b':=1) (i:=0) (j:=5) (es':=v33.2.2.2.2.2.map eM) k k k k (qC dC k k))<|rg<|lp k8<|oB h λv34 hv34 h=>ae (cT fY (Pw _ _ hv34) k3 (aO (kB k) aU)) k<|am k k<|jx k4<|jx k4<|aa k k<|aT k2<|sR<|lp k8<|oB h λv35 hv35 h=>ae (jC [] [(4,0)] [] [4] [(4,⟨1,v35.1.map (dB 2 eS)⟩)] 5 (.tuple [.own 4 0 v35.1.length,.bl v35.2]) (Ib _ _ hv35)) k<|am k k<|jx k4 ?_;refine jx k4<|aa k k<|aT k2<|sQ<|sR<|am k k<|am k k<|ae (Zu (by kernel_rfl) k k) k<|am k k<|iR h (λq36 h=>aE 127 k q36<|aK k4<|aK k4<|ak k k<|pk k3<|am k k<|aK k4<|aK k4<|aK k4<|pk k3<|an<|tn<|bK (t:=mN [(0,.list 1 (a0.map eU)),(141,.bl true)] [] 5) jI<|jo) λq36 h=>?_;refine aE 127 k q36<|am k k<|jn k5<|am k k<|jn k5<|cm k4<|pk k3<|am k k<|iR h (λq37 h=>aE 134 k q37<|aK k4<|aK k4<|aK k4<|pk k3<|an<|tn<|bK (t:=mN [(0,.list 1 (a0.map eU)),(141,.bl true)] [] 5) jI<|jo) λq37 h=>?_;refine aE 134 k q37<|am k k<|am k k<|iR h (λq38 h=>aE 136 k q38<|am k k<|jn k5<|cm k4<|pk k3<|pk k3<|an<|tn<|bK (t:=mN [(0,.list 1 (a0.map eU)),(141,.bl (decide (((v35.1.length:Nat):Int)<1)))] [] 5) jI<|cH k h (λ_ h=>jo) λ_ h=>?_) λq38 h=>aE 136 k q38<|aK k4<|ak k k<|pk k3<|pk k3<|an<|tn<|bK (t:=mN [(0,.list 1 (a0.map eU)),(141,.bl false)] [] 5) jI<|nR k k ?_
  all_goals refine aG<|tn<|sR<|am k k<|oB h λv40 hv40 h=>ae (jC [] [] [] [] [] 5 (.tuple [.agg [.int v40.2.2.2.2.2.2.2.2.2.2.2.2.1,.int v40.2.2.2.2.2.2.2.2.2.2.2.2.2.1,.list 1 (v40.2.2.2.2.2.2.2.2.2.2.2.2.2.2.1.map eI),.list 1 (v40.2.2.2.2.2.2.2.2.2.2.2.2.2.2.2.1.map eI),.list 1 (v40.2.2.2.2.2.2.2.2.2.2.2.2.2.2.2.2.1.map eI),.list 3 (v40.2.2.2.2.2.2.2.2.2.2.2.2.2.2.2.2.2.map eM)],.agg [.int v40.1,.int v40.2.1,.list 1 (v40.2.2.1.map eI),.list 1 (v40.2.2.2.1.map eI),.list 1 (v40.2.2.2.2.1.map eI),.list 3 (v40.2.2.2.2.2.1.map eM)],.agg [.int v40.2.2.2.2.2.2.1,.int v40.2.2.2.2.2.2.2.1,.list 1 (v40.2.2.2.2.2.2.2.2.1.map eI),.list 1 (v40.2.2.2.2.2.2.2.2.2.1.map eI),.list 1 (v40.2.2.2.2.2.2.2.2.2.2.1.map eI),.list 3 (v40.2.2.2.2.2.2.2.2.2.2.2.1.map eM)]]) (Hu _ _ hv40)) k<|am k k<|jx k4<|jx k4<|jx k4<|jA k3<|jA k3<|jA k3<|ae (ws k) k<|ae (ws k) k<|ae (ws k) k<|an<|tn<|sR<|lp k8<|lp k8<|lp k8<|oB h λv41 hv41 h=>ae (jc (MC _ _ _ _ hv41)) k<|aT k2<|sQ<|sQ ?_
  all_goals refine rg<|am k k<|lp k8<|lp k8<|lp k8<|oB h λv42 hv42 h=>ae (jc (MD _ _ _ _ hv42)) k<|cm k4<|am k k<|iR h (λq43 h=>aE 158 k q43<|aK k4<|aK k4<|aK k4<|aK k4<|aK k4<|pk k3<|an<|tn<|bK (t:=mN [(0,.list 1 (a0.map eU)),(169,.bl true)] [] 8) jI<|jo) λq43 h=>?_
  all_goals refine aE 158 k q43<|am k k<|cm k4<|am k k<|iR h (λq44 h=>aE 161 k q44<|am k k<|lp k8<|fp k8<|lp k8<|oB h λv45 hv45 h=>ae (jc (Gb _ _ _ hv45)) k<|cm k4<|pk k3<|pk k3<|an<|tn<|bK (t:=mN [(0,.list 1 (a0.map eU)),(169,.bl (decide (v45<v41)))] [] 8) jI<|cH k h (λ_ h=>jo) λ_ h=>?_) λq44 h=>aE 161 k q44<|aK k4<|aK k4<|aK k4<|pk k3<|pk k3<|an<|tn<|bK (t:=mN [(0,.list 1 (a0.map eU)),(169,.bl false)] [] 8) jI<|nR k k ?_
  all_goals refine aG<|tn<|sR<|am k k<|oB h λv47 hv47 h=>ae (jC [] [(8,1)] [] [8] [(8,⟨1,v47.2.2.2.2.map (ow eI)⟩)] 9 (.tuple [.int v47.1,.agg [.int v47.2.1,.list 1 (v47.2.2.1.map eI),.list 1 (v47.2.2.2.1.map eI)],.own 8 0 v47.2.2.2.2.length]) (Ii _ _ hv47)) k<|am k k<|jx k4<|jx k4<|jx k4<|jA k3<|aa k k<|ae (ws k) k<|aT k2<|sR<|am k k<|oB h λv48 hv48 h=>ae (jC [] [(10,1),(11,2)] [] [10,11] [(10,⟨1,v48.2.2.2.2.1.map (ow eI)⟩),(11,⟨3,v48.2.2.2.2.2.map (ow eM)⟩)] 12 (.agg [.int v48.1,.int v48.2.1,.list 1 (v48.2.2.1.map eI),.list 1 (v48.2.2.2.1.map eI),.own 10 0 v48.2.2.2.2.1.length,.own 11 0 v48.2.2.2.2.2.length]) (Jl _ _ hv48)) k<|jA k3<|ae (ws k) k<|an<|tn<|sQ<|bK (gU (b:=12) (b':=10) (i:=0) (j:=4) (es':=v48.2.2.2.2.1.map eI) k k k k (qC cD k k))<|bK (gU (b:=12) (b':=11) (i:=0) (j:=5) (es':=v48.2.2.2.2.2.map eM) k k k k (qC dC k k))<|bK (CH (t:=22) (d:=.list 1 (v47.2.2.2.2.map eI)) [8] k (qC cD k k) k k)<|aH dK ?_
  all_goals exact am k k<|lp k8<|am k k<|oB h λv49 hv49 h=>ae (jc (Mz _ _ _ _ hv49)) k<|am k k<|lp k8<|am k k<|oB h λv50 hv50 h=>ae (jc (NA _ _ _ _ hv50)) k<|cm k4<|am k k<|iR h (λq51 h=>aE 187 k q51<|lp k8<|oB h λv52 hv52 h=>ae (jc (He _ _ hv52)) k<|lp k8<|oB h λv53 hv53 h=>ae (jc (OD _ _ hv53)) k<|cm k4<|pk k3<|am k k<|iR h (λq54 h=>aE 194 k q54<|lp k8<|oB h λv55 hv55 h=>ae (jc (xH _ _ hv55)) k<|ae (dE k) k<|am k k<|iR h (λq56 h=>aE 198 k q56<|jo) λq56 h=>aE 198 k q56<|lp k8<|oB h λv57 hv57 h=>ae (jc (He _ _ hv57)) k<|jo) λq54 h=>aE 194 k q54<|jo) λq51 h=>aE 187 k q51<|jo
end
section
theorem Vt{a b:aA}(h:bI a):Dw a b=some (decide (a=b)):=by
 unfold bI at h;exact TF (body:=FU a b) (by omega) rfl
theorem aBi{a b:Sc}(h:bS a):tG a b=some (decide (a=b)):=by
 obtain⟨x,l⟩:=a;obtain⟨y,m⟩:=b;unfold tG;simp only;by_cases c:x=y
 .subst c;rw[aS rfl,aI,VD h.1,aB];simp
 .rw[bZ c,aN];simp[c]
theorem Qc{a b:List Sc}(hl:a.length<=1048576)(h:∀s∈a,bS s):rN a b=some (decide (a=b)):=by
 unfold rN;rw[IP];by_cases e:a.length=b.length
 .rw[aS e,dO,aN];refine Lq (by omega) e (λk h1 h2=>?_) ?_
  .unfold yF;rw[iD h1,aI,dX h1,aB,dX h2,aB,aBi (h _ (List.getElem_mem h1)),aB];cases decide (a[k]=b[k])<;>rfl
  .unfold yF;rw[iZ (bA _),aN]
 .rw[bZ e,bZ λh=>e (by rw[h])];rfl
theorem aCy:∀p,p<2->∀n,n<3->∀k,k<n+1->(Xw (p+2) n k).Nodup:=by decide+kernel
theorem aEI{p n:Nat}(hp:p=2∨p=3)(hn:n<=2)(k:Int):(TZ p n k).Nodup:=by
 unfold TZ;cases hk:zD k 0 n with
 |false=>exact List.nodup_nil
 |true=>
  have:=kP hk;have h:=aCy (p-2) (by omega) n (by omega) k.toNat (by omega)
  rwa [show p-2+2=p by omega]at h
theorem YK{α:Type}:∀{cs:List (List α)},(∀c∈cs,c.Nodup)->(kI cs).Nodup
 | [],_=>by simp[kI]
 |c::cs,h=>by
  have ih:=YK λx hx=>h x (List.mem_cons_of_mem c hx);unfold kI List.Nodup;refine List.pairwise_flatMap.2 ⟨λx hx=>List.pairwise_map.2 (List.Pairwise.imp (λh e=>h (List.cons.inj e).2) ih),List.Pairwise.imp (λ{x y} hne a ha b hb e=>?_) (h c (List.mem_cons_self ..))⟩;obtain⟨a',_,rfl⟩:=List.mem_map.1 ha;obtain⟨b',_,rfl⟩:=List.mem_map.1 hb;exact hne (List.cons.inj e).1
theorem aCz{r:Rp}(S:Sm r)(d:aA):(gQ r d).Nodup:=by
 refine List.Pairwise.filter _ (YK λc hc=>?_);obtain⟨v,hv,rfl⟩:=List.mem_map.1 hc;exact aEI (RB S) (S.d v (List.mem_range.1 hv)) _
theorem ZX{r:Rp}(S:Sm r){d:aA}(hd:d.length=r.dims.length){s:List Sc}(hs:s∈gQ r d):jX s=d:=by
 obtain⟨h1,h2,h3⟩:=MR S (List.mem_filter.1 hs).1;refine List.ext_getElem (by simp[jX];omega) λv g1 g2=>?_;have h4:=(h3 v (by omega)).1;unfold jX at g1 ⊢;rw[dM]at g1;rw[List.getElem_map];unfold sG at h4;rw[fK g1,fK g2,fR,fR]at h4;exact h4
theorem aBj{r:Rp}(hr:bR r)(d:aA):Lp (tQ (r.p,r.q.n,r.q.src,r.q.tgt,r.dims,r.maps,d) (Hm r d) (Hm r d)) 0=some (.inl ()):=by
 unfold Hm;cases hA:mQ r&&decide (d.length=r.dims.length)with
 |false=>exact cB (λk=>(k:Int)) 0 rfl (λk hk=>absurd hk (Nat.not_lt_zero _)) λ_=>rfl
 |true=>
  simp only[cF,gG]at hA;have S:=KK hA.1;rw[aI];have hn:=xA S d;have r0:(⟨r.p,⟨r.q.n,r.q.src,r.q.tgt⟩,r.dims,r.maps⟩:Rp)=r:=rfl;refine cB (λk=>(k:Int)) (gQ r d).length rfl (λk hk=>?_) λ_=>?_
  .have hm:=cU (l:=gQ r d) [] hk;have P:=Te S hm;have h5:=S.R.n5;have hl:=P.len;have g1:=Qc (b:=(gQ r d)[k]?.getD []) (by omega) P.b;rw[aS rfl]at g1;have g2:=SH hr ⟨by omega,P.b⟩;rw[P.sub]at g2;have g3:=SI (s:=(gQ r d)[k]?.getD []) (by omega);rw[ZX S hA.2 hm]at g3;have g4:=Vt (a:=d) (b:=d) (by unfold bI;omega);rw[aS rfl]at g4
   have hin:Lp (oM (gQ r d,true) (k:Int)) 0=some (.inl ()):=by
    refine cB (λj=>(j:Int)) k rfl (λj hj=>?_) λ_=>?_
    .have hne:=List.pairwise_iff_getElem.1 (aCz S d) j k (by omega) hk hj;have P':=Te S (List.getElem_mem (l:=gQ r d) (n:=j) (by omega));have:=P'.len;have g5:=Qc (a:=(gQ r d)[j]) (b:=(gQ r d)[k]) (by omega) P'.b;rw[bZ hne]at g5;unfold oM;simp only;rw[iD hj,aI,dX (show j<(gQ r d).length by omega),aB,dX hk,aB,g5,aB,aN,bJ hj (by omega)]
    .unfold oM;rw[iZ (bA _),aN]
   unfold tQ FK;simp only;simp only[iD hk,aI,gY [] hk,r0,g1,g2,g3,g4,hin,aB,dO,aN,Sum.elim_inl];rw[bJ hk (by omega)]
  .unfold tQ;simp only;rw[iZ (bA _),aN]
theorem aBk(a b:Rp):Zb a b<=1:=by
 unfold Zb;split
 .split
  .omega
  .split
   .omega
   .split<;>omega
 .omega
theorem aBl{r a b:Rp}:∀{n:Nat},n<=1048576->(∀k,k<n->Ze r a b k=true)->0<=XC r a b n/\XC r a b n<=n
 |0,_,_=>⟨Int.le_refl 0,Int.le_refl 0⟩
 |n+1,hn,h=>by
  obtain⟨h1,h2⟩:=aBl (n:=n) (by omega) λk hk=>h k (by omega);have hg:=h n (by omega);unfold Ze at hg;simp only[cF,Bool.not_eq_true',decide_eq_false_iff_not]at hg;have e1:MT r b n<=1:=aBk _ _;have e2:mR r a b n<=1:=aBk _ _;have e3:MT r b n=0∨MT r b n=1:=by omega
  have e4:mR r a b n=0∨mR r a b n=1:=by omega
  have e5:MT r b n*mR r a b n=0∨MT r b n*mR r a b n=1:=by
   rcases e3 with e|e<;>rcases e4 with e'|e'<;>rw[e,e']<;>simp
  unfold XC;rw[cC (x:=MT r b n*mR r a b n) (by omega),cC (by omega)];omega
theorem aDA{r a b:Rp}(hr:bR r)(h:0<Ns r a b):∃z,iW r b.dims=some z/\Ns r a b<=z:=by
 unfold iW;rw[LE hr];unfold Ns at h ⊢;cases h1:rS r a&&(rS r b&&mQ r)with
 |false=>rw[h1]at h;simp at h
 |true=>
  rw[h1]at h;simp only[cF]at h1;have S:=KK h1.2.2;have hn:=xA S b.dims;unfold Hm;rw[h1.2.2,aS (lX h1.2.1).ne];cases h2:(List.range (gQ r b.dims).length).all (Ze r a b)with
  |false=>rw[h2]at h;simp at h
  |true=>
   have:=aBl (n:=(gQ r b.dims).length) (by omega) λk hk=>List.all_eq_true.1 h2 k (List.mem_range.2 hk);exact⟨_,rfl,this.2⟩
theorem aDB{r:Rp}(h:(QT r).2=true):1<=(QT r).1.length:=by
 unfold QT at h ⊢;cases hS:mQ r with
 |false=>rw[hS]at h;simp at h
 |true=>exact List.length_pos_of_mem (aCh hS)
theorem aEJ{r:Rp}(h:vX r=true):0<=Wt r:=by
 have g2:fD r r<=nV r r:=by unfold fD;omega
 unfold Wt;rw[aP h];unfold nV at g2;omega
theorem Tm{c:aA}:Dx c=some true:=by
 unfold Dx LI;rw[aB];by_cases hbig:(1048576:Int)<c.length
 .rw[aS hbig,aI]
 .have hc:c.length<=1048576:=by omega
  rw[bZ hbig,aN];obtain⟨⟨rp,⟨rn,rs,rt⟩,rd,rm⟩,d,f1,hr⟩:=aEF hc;obtain⟨⟨ap,⟨an,ar,at'⟩,ad,am⟩,f2,ha⟩:=aEq hc;obtain⟨⟨xp,⟨xn,xs,xt⟩,xd,xm⟩,⟨yp,⟨yn,ys,yt⟩,yd,ym⟩,⟨zp,⟨zn,zs,zt⟩,zd,zm⟩,f3,hx,hy,hz⟩:=aEG hc;obtain⟨p,⟨qn,qs,qt⟩,e,f4,hq,he⟩:=aEH hc;obtain⟨⟨op,⟨on,os,ot⟩,od,om⟩,f5,ho⟩:=aEr hc;have f6:=LE hr (d:=d);have f7:=Fu hr (d:=d);obtain⟨z,f8,f9⟩:=VV hr (d:=d);have f10:=aBj hr d;have f11:=ZI ha;have f12:=SO ha;have f13:=XD hx hy hz;have f14:=XE hx hy hz;have f15:=aDA (a:=⟨yp,⟨yn,ys,yt⟩,yd,ym⟩) (b:=⟨zp,⟨zn,zs,zt⟩,zd,zm⟩) hx;obtain⟨w,f16,f17⟩:=Vs p hq he;have f18:=ZM ho;have f19:=ZN ho;have f20:=Ea ho;have f21:=@aEJ ⟨op,⟨on,os,ot⟩,od,om⟩;have f22:=@aDB ⟨ap,⟨an,ar,at'⟩,ad,am⟩;generalize Hm ⟨rp,⟨rn,rs,rt⟩,rd,rm⟩ d=L at f6 f7 f10;generalize QT ⟨ap,⟨an,ar,at'⟩,ad,am⟩=A at f11 f12 f22;generalize Ns ⟨xp,⟨xn,xs,xt⟩,xd,xm⟩ ⟨yp,⟨yn,ys,yt⟩,yd,ym⟩ ⟨zp,⟨zn,zs,zt⟩,zd,zm⟩=H at f13 f14 f15;generalize Wt ⟨op,⟨on,os,ot⟩,od,om⟩=O at f18 f19 f21;generalize vX ⟨op,⟨on,os,ot⟩,od,om⟩=V at f20 f21;simp only at f1 f2 f3 f4 f5 f10
  have ht:(bif !V then some true else some (decide (0<=O)))=some true:=by
   cases V with
   |false=>rfl
   |true=>rw[dO,aN,aS (f21 rfl)]
  simp only[Bs,Br,f1,f2,f3,f4,f5,f6,f7,f8,f9,f10,f11,f12,f13,f14,f16,f17,f18,f19,f20,aB,beq_self_eq_true,dO,aI,aN,decide_true,Sum.elim_inl,ht]
  have hH:∀x:Option Bool,x=some true->(bif decide (0<H)then Option.bind (iW ⟨xp,⟨xn,xs,xt⟩,xd,xm⟩ zd) λv=>bif decide (v<H)then some false else x else x)=some true:=by
   rintro x rfl;by_cases c1:0<H
   .obtain⟨v,g1,g2⟩:=f15 c1;simp only at g1;rw[aS c1,aI,g1,aB,bZ (by omega),aN]
   .rw[bZ c1,aN]
  rw[hH _ rfl];cases hA:A.2 with
  |false=>rfl
  |true=>
   have:=f22 hA;rw[aI,bZ (by omega),aN]
open Go.RowKit Go.ChangeShapes Go.WideShapes Go.ChangeAt
theorem oU:aAU Tryz.prog 5 (Ue 1 eU):=by
 intro H enc w fuel cs d ps h hf;obtain⟨n,rfl,_,_⟩:=DataW.trod_int Tryz.underlying5 h;exact⟨n,[],⟨_,_,[],[],rfl,rfl,Fd rfl,rfl,rfl⟩,by simp[Value.oneCell'],rfl⟩
end
end Go.Proofs.YtpckeblbjdbleaaGreat

/- Several texts. -/
import Derived.Test.YtppgeohlmkgpbaaGreatM14
set_option linter.unusedVariables false
set_option linter.unusedSimpArgs false
set_option maxRecDepth 10000
namespace Go.Proofs.YtppgeohlmkgpbaaGreat
open Go.RowKit
section
def sG(s:aI)(v:Nat):Sc:=s[v]?.getD ⟨0,[]⟩
def spB(r:Rp)(s:aI)(v:Nat):Bool:=vL r.p (sG s v).size (sG s v).basis &&decide ((sG s v).size=r.dims[v]?.getD 0)
def imB(r:Rp)(s:aI)(i:Nat):Bool:=Ux r.p (dN r (tV r i)) (dW r.p (dN r (tV r i)) (Rc r.p (dN r (tV r i)) (dN r (sV r i)) (aF r i) (sG s (sV r i)).basis)) (sG s (tV r i)).basis
def rH(r:Rp)(s:aI):Bool:=xN r&&(decide ((s.length:Int)=(r.dims.length:Int))&&((List.range s.length).all (spB r s)&&(List.range r.maps.length).all (imB r s)))
structure SpV(r:Rp)(s:aI)(v:Nat):Prop where
 size:(sG s v).size=(dN r v:Int)
 ok:vL r.p (dN r v) (sG s v).basis=true
 len:(sG s v).basis.length <=dN r v
 vecs:VecsP r.p (dN r v) (sG s v).basis
 span:dW r.p (dN r v) (sG s v).basis=(sG s v).basis
theorem Xt{r:Rp}(R:Rv r){s:aI}{v:Nat}(hv:v<r.dims.length)(h:spB r s v=true):SpV r s v:=by
 unfold spB at h;simp only[bX,eD]at h;obtain⟨h1,h2⟩:=h;rw[(R.d v hv).1]at h2;rw[h2]at h1;obtain⟨_,n,e,_,h3,h4,h5⟩:=Ec h1;have e:dN r v=n:=by omega
 subst e;exact⟨h2,h1,h3,h4,h5⟩
theorem eG{r:Rp}{s:aI}(h:rH r s=true):Rv r/\s.length=r.dims.length/\(∀v,v<r.dims.length->SpV r s v):=by
 unfold rH at h;simp only[bX,eD]at h;obtain⟨h1,h2,h3,_⟩:=h;have R:=Mh h1;refine⟨R,by omega,λv hv=>Xt R hv ?_⟩;exact List.all_eq_true.1 h3 v (List.mem_range.2 (by omega))
theorem aAZ{r:Rp}(hr:bR r){s:aI}(hs:s.length<=1048576/\∀x∈s,bS x):Em r s=some (rH r s):=by
 unfold Em rH;rw[Gz hr,aB];refine uS λhR=>?_;have R:=Mh hR;refine uS λhL=>?_;have hL:=of_decide_eq_true hL;have hL:s.length=r.dims.length:=by omega
 rw[Ag (spB r s) false (n:=s.length) (by omega) (λk hk=>?_) (λ_=>?_),aB]
 .cases hA:(List.range s.length).all (spB r s)with
  |false=>rfl
  |true=>
   have hV:∀v,v<r.dims.length->SpV r s v:=λv hv=>Xt R hv (List.all_eq_true.1 hA v (List.mem_range.2 (by omega)));simp only[aG,Sum.elim_inl,Bool.true_and];rw[Ag (imB r s) false (n:=r.maps.length) (by have:=R.e6;have:=R.ml;omega) (λi hi=>?_) (λ_=>?_),aB]
   .cases (List.range r.maps.length).all (imB r s)<;>rfl
   .have hi':i<r.q.src.length:=by have:=R.ml;omega
    have S1:=hV _ (R.s i hi').2;have S2:=hV _ (R.t i hi').2;have d1:=(R.d _ (R.s i hi').2).2;have d2:=(R.d _ (R.t i hi').2).2;have hM:=R.m i hi';unfold EC;rw[jW hi,aG,kM ⟨0,0,[]⟩ hi,aB,kM 0 hi',aB,(R.s i hi').1,kM ⟨0,[]⟩ (by have:=(R.s i hi').2;omega),aB,hM.1];have e1:=aAW R.hp (r:=dN r (tV r i)) (c:=dN r (sV r i)) (by omega) (by omega) hM.2 (z:=(sG s (sV r i)).size) (by have:=S1.len;omega) S1.vecs;rw[show(s[sV r i]?.getD ⟨0,[]⟩:Sc)=⟨(sG s (sV r i)).size,(sG s (sV r i)).basis⟩ from rfl,e1,aB,kM 0 (by have:=R.tl;omega),aB,(R.t i hi').1,kM ⟨0,[]⟩ (by have:=(R.t i hi').2;omega),aB];have hv1:=rU R.hp (Ab R.hp (dN r (tV r i)) (dN r (sV r i)) (aF r i) (sG s (sV r i)).basis).inP;rw[show(s[tV r i]?.getD ⟨0,[]⟩:Sc)=⟨(sG s (tV r i)).size,(sG s (tV r i)).basis⟩ from rfl,Xs R.hp (by omega) hv1 (by have:=(@DX r.p (dN r (tV r i)) (Rc r.p (dN r (tV r i)) (dN r (sV r i)) (aF r i) (sG s (sV r i)).basis)).1;omega) S2.vecs S2.span,aB];show _=some (bif imB r s i then _ else _);unfold imB;cases Ux r.p _ _ _<;>rfl
   .unfold EC;rw[mG (bD _),aN]
 .unfold EB;rw[jW hk,aG,kM ⟨0,[]⟩ hk,aB,Rq _ (hs.2 _ (cE _ hk)),aB,kM 0 (by omega),aB];unfold spB sG;cases vL r.p _ _<;>cases decide ((s[k]?.getD ⟨0,[]⟩).size=r.dims[k]?.getD 0)<;>rfl
 .unfold EB;rw[mG (bD _),aN]
theorem RH{p:Int}(hp:lL p=true){r c:Nat}(hr:r<=8)(hc:c<=8){F:Nat->Nat->Int}(hF:wF p r c F):GU p ⟨r,c,bY r c F⟩=true:=by
 have hb:=fN hp;have h:=Nat.mul_le_mul hr hc;unfold GU;simp only[gJ];rw[Dl (by omega) (by omega),Dl (by omega) (by omega),Tl (by omega),aR (by omega),hp,aR (by omega)];simp only[Bool.true_and,List.all_eq_true];intro x hx;obtain⟨t,ht,rfl⟩:=List.mem_map.1 hx;have ht:=List.mem_range.1 ht
 have hc0:0<c:=by
  rcases Nat.eq_zero_or_pos c with h0|h0
  .subst h0;simp at ht
  .exact h0
 have:=hF (t/c) (t%c) ((Nat.div_lt_iff_lt_mul hc0).2 ht) (Nat.mod_lt _ hc0);refine Dl this.1 ?_;rw[dM (by omega)];omega
theorem Js{r:Rp}(hr:bR r){s:aI}(hs:s.length<=1048576/\∀x∈s,bS x):uA r s=some (rH r s):=by
 unfold uA rH;rw[Sw hr,aB];refine uS λhR=>?_;have R:=Mh hR;refine uS λhL=>?_;have hL:=of_decide_eq_true hL;have hL:s.length=r.dims.length:=by omega
 rw[Ag (spB r s) false (n:=s.length) (by omega) (λk hk=>?_) (λ_=>?_),aB]
 .cases hA:(List.range s.length).all (spB r s)with
  |false=>rfl
  |true=>
   have hV:∀v,v<r.dims.length->SpV r s v:=λv hv=>Xt R hv (List.all_eq_true.1 hA v (List.mem_range.2 (by omega)));simp only[aG,Sum.elim_inl,Bool.true_and];rw[Ag (imB r s) false (n:=r.maps.length) (by have:=R.e6;have:=R.ml;omega) (λi hi=>?_) (λ_=>?_),aB]
   .cases (List.range r.maps.length).all (imB r s)<;>rfl
   .have hi':i<r.q.src.length:=by have:=R.ml;omega
    have S1:=hV _ (R.s i hi').2;have S2:=hV _ (R.t i hi').2;have d1:=(R.d _ (R.s i hi').2).2;have d2:=(R.d _ (R.t i hi').2).2;have hM:=R.m i hi';unfold EE;rw[jW hi,aG,kM ⟨0,0,[]⟩ hi,aB,kM 0 hi',aB,(R.s i hi').1,kM ⟨0,[]⟩ (by have:=(R.s i hi').2;omega),aB,hM.1];have e1:=WQ R.hp (r:=dN r (tV r i)) (c:=dN r (sV r i)) (by omega) (by omega) (RH R.hp (by omega) (by omega) hM.2) hM.2 S1.ok S1.vecs (by have:=S1.len;omega);have e2:(s[sV r i]?.getD ⟨0,[]⟩:Sc)=⟨(dN r (sV r i):Int),(sG s (sV r i)).basis⟩:=by rw[←S1.size];rfl
    rw[e2,e1,aB,kM 0 (by have:=R.tl;omega),aB,(R.t i hi').1,kM ⟨0,[]⟩ (by have:=(R.t i hi').2;omega),aB];have e3:(s[tV r i]?.getD ⟨0,[]⟩:Sc)=⟨(dN r (tV r i):Int),(sG s (tV r i)).basis⟩:=by rw[←S2.size];rfl
    rw[e3,UV R.hp (by omega) (HZ R.hp (by omega) (Ab R.hp _ _ _ _)) S2.ok,aB];show _=some (bif imB r s i then _ else _);unfold imB;cases Ux r.p _ _ _<;>rfl
   .unfold EE;rw[mG (bD _),aN]
 .unfold ED;rw[jW hk,aG,kM ⟨0,[]⟩ hk,aB,DM _ (hs.2 _ (cE _ hk)),aB,aB,kM 0 (by omega),aB];unfold spB sG;cases vL r.p _ _<;>cases decide ((s[k]?.getD ⟨0,[]⟩).size=r.dims[k]?.getD 0)<;>rfl
 .unfold ED;rw[mG (bD _),aN]
def bG(s:aI):aA:=s.map λx=>(x.basis.length:Int)
theorem BN{s:aI}(hs:s.length<=1048576):gA s=some (bG s):=by
 unfold gA;rw[cO (r:=bG s) (λk=>((s.take k).map (λx=>(x.basis.length:Int)),(k:Int))) s.length (by simp) (λk hk=>?_) (λ_=>?_),aB]
 .unfold Bl;simp only;rw[jW hk,aG,kM ⟨0,[]⟩ hk,aB,aR (by rw[dT,List.length_take];simp;omega),aG,bW hk (by omega),HD (λx:Sc=>(x.basis.length:Int)) _ hk]
 .unfold Bl;simp only;rw[mG (bD _),aN,List.take_length];rfl
theorem CC{r:Rp}(hr:bR r){s:aI}(hs:s.length<=1048576/\∀x∈s,bS x)(h:rH r s=true):mX r s=some (bG s):=by
 unfold mX;rw[cO (r:=bG s) (λk=>((s.take k).map (λx=>(x.basis.length:Int)),(k:Int))) s.length (by simp) (λk hk=>?_) (λ_=>?_),aB]
 .unfold Bq;simp only;rw[jW hk,aG,Js hr hs,aB,h,aG,kM ⟨0,[]⟩ hk,aB,aR (by rw[dT,List.length_take];simp;omega),aG,bW hk (by omega),HD (λx:Sc=>(x.basis.length:Int)) _ hk]
 .unfold Bq;simp only;rw[mG (bD _),aN,List.take_length];rfl
def CX{σ ρ:Type}:Nat->(σ->Option (σ ⊕ ρ))->σ->Option ρ
 |0,_,_=>none
 |n+1,body,s=>match body s with
  |none=>none
  |some (.inl s')=>CX n body s'
  |some (.inr r)=>some r
def Le{α:Type}(a b:Option α):Prop:=∀r,a=some r->b=some r
theorem Le.rfl{α:Type}{a:Option α}:Le a a:=λ_ h=>h
theorem Le.none{α:Type}{b:Option α}:Le Option.none b:=λ_ h=>by cases h
theorem Le.bind{α β:Type}{a b:Option α}{f g:α->Option β}(h:Le a b)(k:∀x,Le (f x) (g x)):Le (a.bind f) (b.bind g):=λr e=>by
 obtain⟨x,h1,h2⟩:=ob e;rw[h x h1];exact k x r h2
theorem Le.cond{α:Type}{c:Bool}{a b a' b':Option α}(h:Le a a')(k:Le b b'):Le (bif c then a else b) (bif c then a' else b'):=by
 cases c
 .exact k
 .exact h
theorem Le.elim{α β γ:Type}{f f':α->Option γ}{g g':β->Option γ}{x:α ⊕ β}(h:∀a,Le (f a) (f' a))(k:∀b,Le (g b) (g' b)):Le (Sum.elim f g x) (Sum.elim f' g' x):=by
 cases x with
 |inl a=>exact h a
 |inr b=>exact k b
theorem Le.lp{σ ρ:Type}{f g:σ->Option (σ ⊕ ρ)}(h:∀s,Le (f s) (g s)):∀{n:Nat}{s:σ},Le (CX n f s) (Lp g s)
 |0,s=>Le.none
 |n+1,s=>λr e=>by
  simp only[CX]at e;cases hb:f s with
  |none=>rw[hb]at e;cases e
  |some x=>
   rw[hb]at e;cases x with
   |inl s'=>rw[AH (h s _ hb)];exact Le.lp h r e
   |inr r'=>cases e;exact nA (h s _ hb)
theorem Le.fl{α σ ρ:Type}{f g:α->σ->Option (σ ⊕ ρ)}(h:∀a s,Le (f a s) (g a s)):∀(l:List α)(s:σ),Le (Fl f l s) (Fl g l s)
 | [],s=>Le.rfl
 |x::xs,s=>λr e=>by
  simp only[Fl]at e ⊢;cases hb:f x s with
  |none=>rw[hb]at e;cases e
  |some y=>
   rw[hb]at e;rw[h x s _ hb];cases y with
   |inl s'=>exact Le.fl h xs s' r e
   |inr r'=>exact e
end
noncomputable section
def CD(a0 a1:Int):Option Int:=
 Option.bind (CX 100 (qH a0 a1) 1) λy7=>
 Sum.elim (λy8=>
  some (0)
 )
 (λy9=>
  some y9
 )
  y7
theorem LV(a0 a1:Int):Le (CD a0 a1) (nC a0 a1):=by
 unfold CD nC
 repeat (with_reducible first|exact Le.rfl|refine Le.bind ?_ λ_=>?_|refine Le.lp λ_=>?_|refine Le.elim (λ_=>?_) λ_=>?_)
def EI(a0:Int)(a1:aA):Option Bool:=
 Option.bind (gR a0) λv1=>
 bif !v1 then
  (some (false))
 else
  (bif decide (64<(a1.length:Int))then
   (some (false))
  else
   (Option.bind (CX 100 (tK a0 a1) 0) λy8=>
   Sum.elim (λy9=>
    some (true)
   )
   (λy10=>
    some y10
   )
    y8))
theorem Nk(a0:Int)(a1:aA):Le (EI a0 a1) (lJ a0 a1):=by
 unfold EI lJ
 repeat (with_reducible first|exact Le.rfl|refine Le.bind ?_ λ_=>?_|refine Le.cond ?_ ?_|refine Le.lp λ_=>?_|refine Le.elim (λ_=>?_) λ_=>?_)
def Ax(a0:Int)(v1:Mt)(x1:(Int×aA×aA×Int))(x5:(aA×Int)):Option ((aA×Int) ⊕ aA):=
 bif decide (x5.2<v1.rows)then
  (Option.bind (cF x5.1 (wr ((wr (x5.2*v1.cols))+x1.1))) λv23=>
  Option.bind (CX 100 (oM a0 v1 v23 x1 x5) (x5.1,0)) λy30=>
  some (.inl (y30,wr (x5.2+1))))
 else
  (some (.inr x5.1))
theorem KJ(a0:Int)(v1:Mt)(x1:(Int×aA×aA×Int))(x5:(aA×Int)):Le (Ax a0 v1 x1 x5) (oN a0 v1 x1 x5):=by
 unfold Ax oN
 repeat (with_reducible first|exact Le.rfl|refine Le.bind ?_ λ_=>?_|refine Le.cond ?_ ?_|refine Le.lp λ_=>?_)
def Ay(a0:Int)(v1:Mt)(x1:(Int×aA×aA×Int)):Option ((Int×aA×aA×Int) ⊕ (aA×aA)):=
 bif decide (x1.1<v1.cols)then
  (bif decide (x1.2.2.2<v1.rows)then
   (Option.bind (CX 100 (oL v1 x1) ((-1),wr (v1.rows-1))) λy7=>
   bif decide (y7<0)then
    (some (.inl (wr (x1.1+1),x1.2.1,x1.2.2.1,x1.2.2.2)))
   else
    (Option.bind (CX 100 (tM v1 x1 y7) (x1.2.1,0)) λy14=>
    Option.bind (cF y14 (wr ((wr (x1.2.2.2*v1.cols))+x1.1))) λv15=>
    Option.bind (CD a0 v15) λv16=>
    Option.bind (CX 100 (tN a0 v1 v16 x1) (y14,0)) λy21=>
    Option.bind (CX 100 (Ax a0 v1 x1) (y21,0)) λy31=>
    bif decide (x1.2.2.1.length+[x1.1].length <=4294967296)then
     (some (.inl (wr (x1.1+1),y31,(x1.2.2.1++[x1.1]),wr (x1.2.2.2+1))))
    else none))
  else
   (some (.inr (x1.2.1,x1.2.2.1))))
 else
  (some (.inr (x1.2.1,x1.2.2.1)))
theorem KK(a0:Int)(v1:Mt)(x1:(Int×aA×aA×Int)):Le (Ay a0 v1 x1) (iC a0 v1 x1):=by
 unfold Ay iC
 repeat (with_reducible first|exact Le.rfl|refine LV _ _|refine KJ _ _ _ _|refine Le.bind ?_ λ_=>?_|refine Le.cond ?_ ?_|refine Le.lp λ_=>?_)
def EJ(a0:Int)(a1:Mt):Option (Mt×aA):=
 Option.bind (DJ a1) λv1=>
 Option.bind (CX 100 (Ay a0 v1) (0,v1.cells,([]:aA),0)) λy33=>
 some (((⟨v1.rows,v1.cols,y33.1⟩:Mt),y33.2))
theorem Nl(a0:Int)(a1:Mt):Le (EJ a0 a1) (pT a0 a1):=by
 unfold EJ pT
 repeat (with_reducible first|exact Le.rfl|refine KK _ _ _|refine Le.bind ?_ λ_=>?_|refine Le.lp λ_=>?_)
def sU(a0:aA)(a1:Int):Option Int:=
 Option.bind (CX 100 (kU a0 a1) 0) λy4=>
 Sum.elim (λy5=>
  some ((-1))
 )
 (λy6=>
  some y6
 )
  y4
theorem GY(a0:aA)(a1:Int):Le (sU a0 a1) (kE a0 a1):=by
 unfold sU kE
 repeat (with_reducible first|exact Le.rfl|refine Le.bind ?_ λ_=>?_|refine Le.lp λ_=>?_|refine Le.elim (λ_=>?_) λ_=>?_)
def oX(a0:aA)(a1:Int):Option Bool:=
 Option.bind (sU a0 a1) λv1=>
 some (decide (0<=v1))
theorem Ep(a0:aA)(a1:Int):Le (oX a0 a1) (fY a0 a1):=by
 unfold oX fY
 repeat (with_reducible first|exact Le.rfl|refine GY _ _|refine Le.bind ?_ λ_=>?_)
def wA(a0:Int)(a1:aA)(x1:(aA×Int)):Option ((aA×Int) ⊕ aA):=
 bif decide (x1.2<a0)then
  (Option.bind (oX a1 x1.2) λv2=>
  bif !v2 then
   (bif decide (x1.1.length+[x1.2].length <=4294967296)then
    (some (.inl ((x1.1++[x1.2]),wr (x1.2+1))))
   else none)
  else
   (some (.inl (x1.1,wr (x1.2+1)))))
 else
  (some (.inr x1.1))
theorem Hm(a0:Int)(a1:aA)(x1:(aA×Int)):Le (wA a0 a1 x1) (lQ a0 a1 x1):=by
 unfold wA lQ
 repeat (with_reducible first|exact Le.rfl|refine Ep _ _|refine Le.bind ?_ λ_=>?_|refine Le.cond ?_ ?_)
def mD(a0:Int)(a1:aA):Option aA:=
 Option.bind (CX 100 (wA a0 a1) ([],0)) λy5=>
 some (y5)
theorem zK(a0:Int)(a1:aA):Le (mD a0 a1) (fI a0 a1):=by
 unfold mD fI
 repeat (with_reducible first|exact Le.rfl|refine Hm _ _ _|refine Le.bind ?_ λ_=>?_|refine Le.lp λ_=>?_)
def GZ(a0:Int)(a1:aV):Option Mt:=
 Option.bind (CX 100 (yR a1) ([],0)) λy4=>
 some ((⟨(a1.length:Int),a0,y4⟩:Mt))
theorem RI(a0:Int)(a1:aV):Le (GZ a0 a1) (oA a0 a1):=by
 unfold GZ oA
 repeat (with_reducible first|exact Le.rfl|refine Le.bind ?_ λ_=>?_|refine Le.lp λ_=>?_)
def Fb(a0:Int)(a1:Mt):Option aV:=
 Option.bind (EJ a0 a1) λv1=>
 Option.bind (CX 100 (wM v1) (([]:aV),0)) λy6=>
 some (y6)
theorem PG(a0:Int)(a1:Mt):Le (Fb a0 a1) (oP a0 a1):=by
 unfold Fb oP
 repeat (with_reducible first|exact Le.rfl|refine Nl _ _|refine Le.bind ?_ λ_=>?_|refine Le.lp λ_=>?_)
def Cy(a0 a1:Int)(a2:aV)(x1:Int):Option (Int ⊕ (Unit ⊕ Bool)):=
 bif decide (x1<(a2.length:Int))then
  (Option.bind (cF a2 x1) λv2=>
  bif !decide ((v2.length:Int)=a1)then
   (some (.inr (.inr (false))))
  else
   (Option.bind (cF a2 x1) λv4=>
   Option.bind (EI a0 v4) λv5=>
   bif !v5 then
    (some (.inr (.inr (false))))
   else
    (some (.inl (wr (x1+1))))))
 else
  (some (.inr (.inl ())))
theorem Mi(a0 a1:Int)(a2:aV)(x1:Int):Le (Cy a0 a1 a2 x1) (sC a0 a1 a2 x1):=by
 unfold Cy sC
 repeat (with_reducible first|exact Le.rfl|refine Nk _ _|refine Le.bind ?_ λ_=>?_|refine Le.cond ?_ ?_)
def Ga(a0 a1:Int)(a2:aV):Option Bool:=
 Option.bind (CX 100 (Cy a0 a1 a2) 0) λy7=>
 Sum.elim (λy8=>
  Option.bind (gR a0) λv9=>
  bif v9 then
   (Option.bind (eH a1 0 8) λv11=>
   bif v11 then
    (some (decide ((a2.length:Int)<=16)))
   else
    (some (false)))
  else
   (some (false))
 )
 (λy13=>
  some y13
 )
  y7
theorem RJ(a0 a1:Int)(a2:aV):Le (Ga a0 a1 a2) (vF a0 a1 a2):=by
 unfold Ga vF
 repeat (with_reducible first|exact Le.rfl|refine Mi _ _ _ _|refine Le.bind ?_ λ_=>?_|refine Le.cond ?_ ?_|refine Le.lp λ_=>?_|refine Le.elim (λ_=>?_) λ_=>?_)
def Cz(a0 a1:aV)(x1:Int):Option (Int ⊕ (Unit ⊕ Bool)):=
 bif decide (x1<(a0.length:Int))then
  (Option.bind (cF a0 x1) λv3=>
  Option.bind (cF a1 x1) λv4=>
  bif !decide ((v3.length:Int)=(v4.length:Int))then
   (some (.inr (.inr (false))))
  else
   (Option.bind (CX 100 (oG a0 a1 x1) 0) λy13=>
   Sum.elim (λy14=>
    some (.inl (wr (x1+1)))
   )
   (λy15=>
    some (.inr (.inr y15))
   )
    y13))
 else
  (some (.inr (.inl ())))
theorem Mj(a0 a1:aV)(x1:Int):Le (Cz a0 a1 x1) (sD a0 a1 x1):=by
 unfold Cz sD
 repeat (with_reducible first|exact Le.rfl|refine Le.bind ?_ λ_=>?_|refine Le.cond ?_ ?_|refine Le.lp λ_=>?_|refine Le.elim (λ_=>?_) λ_=>?_)
def Gb(a0 a1:aV):Option Bool:=
 bif !decide ((a0.length:Int)=(a1.length:Int))then
  (some (false))
 else
  (Option.bind (CX 100 (Cz a0 a1) 0) λy16=>
  Sum.elim (λy17=>
   some (true)
  )
  (λy18=>
   some y18
  )
   y16)
theorem RK(a0 a1:aV):Le (Gb a0 a1) (qY a0 a1):=by
 unfold Gb qY
 repeat (with_reducible first|exact Le.rfl|refine Mj _ _ _|refine Le.bind ?_ λ_=>?_|refine Le.cond ?_ ?_|refine Le.lp λ_=>?_|refine Le.elim (λ_=>?_) λ_=>?_)
def Fc(a0:Int)(a1:Sc):Option Bool:=
 Option.bind (Ga a0 a1.size a1.basis) λv1=>
 bif !v1 then
  (some (false))
 else
  (Option.bind (GZ a1.size a1.basis) λv3=>
  Option.bind (Fb a0 v3) λv4=>
  Option.bind (Gb v4 a1.basis) λv5=>
  some (v5))
theorem PH(a0:Int)(a1:Sc):Le (Fc a0 a1) (iX a0 a1):=by
 unfold Fc iX
 repeat (with_reducible first|exact Le.rfl|refine RJ _ _ _|refine RI _ _|refine PG _ _|refine RK _ _|refine Le.bind ?_ λ_=>?_|refine Le.cond ?_ ?_)
def pP(a0 a1:aA):Option Int:=
 Option.bind (CX 100 (uV a0 a1) 0) λy7=>
 Sum.elim (λy8=>
  bif decide ((a0.length:Int)<(a1.length:Int))then
   (some ((-1)))
  else
   (some (0))
 )
 (λy10=>
  some y10
 )
  y7
theorem Fd(a0 a1:aA):Le (pP a0 a1) (lM a0 a1):=by
 unfold pP lM
 repeat (with_reducible first|exact Le.rfl|refine Le.bind ?_ λ_=>?_|refine Le.cond ?_ ?_|refine Le.lp λ_=>?_|refine Le.elim (λ_=>?_) λ_=>?_)
def zL(a0 a1:aA):Option Int:=
 Option.bind (pP a0 a1) λv1=>
 some (v1)
theorem JG(a0 a1:aA):Le (zL a0 a1) (nM a0 a1):=by
 unfold zL nM
 repeat (with_reducible first|exact Le.rfl|refine Fd _ _|refine Le.bind ?_ λ_=>?_)
def fT(a0 a1:aV)(a2:(aA->aA->Option Int))(x1:Int):Option (Int ⊕ (Unit ⊕ Int)):=
 bif decide (x1<(a0.length:Int))then
  (Option.bind (cF a0 x1) λv2=>
  bif decide ((a1.length:Int)<=x1)then
   (some (.inr (.inr (1))))
  else
   (Option.bind (cF a1 x1) λv4=>
   Option.bind (a2 v2 v4) λv5=>
   bif !decide (v5=0)then
    (some (.inr (.inr (v5))))
   else
    (some (.inl (wr (x1+1))))))
 else
  (some (.inr (.inl ())))
theorem qZ{a2 a2':(aA->aA->Option Int)}(ha2:∀z0 z1,Le (a2 z0 z1) (a2' z0 z1))(a0 a1:aV)(x1:Int):Le (fT a0 a1 a2 x1) (fR a0 a1 a2' x1):=by
 unfold fT fR
 repeat (with_reducible first|exact Le.rfl|exact ha2 _ _|refine Le.bind ?_ λ_=>?_|refine Le.cond ?_ ?_)
def gO(a0 a1:aV)(a2:(aA->aA->Option Int)):Option Int:=
 Option.bind (CX 100 (fT a0 a1 a2) 0) λy7=>
 Sum.elim (λy8=>
  bif decide ((a0.length:Int)<(a1.length:Int))then
   (some ((-1)))
  else
   (some (0))
 )
 (λy10=>
  some y10
 )
  y7
theorem tC{a2 a2':(aA->aA->Option Int)}(ha2:∀z0 z1,Le (a2 z0 z1) (a2' z0 z1))(a0 a1:aV):Le (gO a0 a1 a2) (eE a0 a1 a2'):=by
 unfold gO eE
 repeat (with_reducible first|exact Le.rfl|exact ha2 _ _|refine qZ (λ_ _=>?_) _ _ _|refine Le.bind ?_ λ_=>?_|refine Le.cond ?_ ?_|refine Le.lp λ_=>?_|refine Le.elim (λ_=>?_) λ_=>?_)
def CE(a0 a1:Sc):Option Int:=
 Option.bind (gO a0.basis a1.basis (λb0 b1=>zL b0 b1)) λv1=>
 some (v1)
theorem LW(a0 a1:Sc):Le (CE a0 a1) (wO a0 a1):=by
 unfold CE wO
 repeat (with_reducible first|exact Le.rfl|refine tC (λ_ _=>?_) _ _|refine JG _ _|refine Le.bind ?_ λ_=>?_)
def gH(a1:Int)(x2:(aI×Int)):Option ((aI×Int) ⊕ aI):=
 bif decide (a1<x2.2)then
  (Option.bind (cF x2.1 x2.2) λv3=>
  Option.bind (cF x2.1 (wr (x2.2-1))) λv4=>
  Option.bind (CE v3 v4) λv5=>
  bif decide (v5<0)then
   (Option.bind (cF x2.1 (wr (x2.2-1))) λv7=>
   Option.bind (cF x2.1 x2.2) λv8=>
   Option.bind (cF x2.1 x2.2) λv9=>
   Option.bind (cF (x2.1.set x2.2.toNat v7) (wr (x2.2-1))) λv10=>
   some (.inl (((x2.1.set x2.2.toNat v7).set ((wr (x2.2-1)).toNat) v8),wr (x2.2-1))))
  else
   (some (.inr x2.1)))
 else
  (some (.inr x2.1))
theorem sW(a1:Int)(x2:(aI×Int)):Le (gH a1 x2) (gF a1 x2):=by
 unfold gH gF
 repeat (with_reducible first|exact Le.rfl|refine LW _ _|refine Le.bind ?_ λ_=>?_|refine Le.cond ?_ ?_)
def gI(a1 a2:Int)(x1:(aI×Int)):Option ((aI×Int) ⊕ aI):=
 bif decide (x1.2<a2)then
  (Option.bind (CX 100 (gH a1) (x1.1,x1.2)) λy11=>
  some (.inl (y11,wr (x1.2+1))))
 else
  (some (.inr x1.1))
theorem sX(a1 a2:Int)(x1:(aI×Int)):Le (gI a1 a2 x1) (eB a1 a2 x1):=by
 unfold gI eB
 repeat (with_reducible first|exact Le.rfl|refine sW _ _|refine Le.bind ?_ λ_=>?_|refine Le.cond ?_ ?_|refine Le.lp λ_=>?_)
def gV(a0:aI)(a1 a2:Int):Option aI:=
 Option.bind (CX 100 (gI a1 a2) (a0,wr (a1+1))) λy12=>
 some y12
theorem uX(a0:aI)(a1 a2:Int):Le (gV a0 a1 a2) (eZ a0 a1 a2):=by
 unfold gV eZ
 repeat (with_reducible first|exact Le.rfl|refine sX _ _ _|refine Le.bind ?_ λ_=>?_|refine Le.lp λ_=>?_)
def iO(a0:aI)(a1 a2 a3:Int)(x1:Unit):Option (Unit ⊕ aI):=
 bif decide (wr (a2-a1)<=12)then
  (Option.bind (gV a0 a1 a2) λv2=>
  bif decide (v2.length=a0.length)then
   (some (.inr v2))
  else none)
 else
  (bif decide (a3=0)then
   (none)
  else
   (none))
theorem xZ(a0:aI)(a1 a2 a3:Int)(x1:Unit):Le (iO a0 a1 a2 a3 x1) (fL a0 a1 a2 a3 x1):=by
 unfold iO fL
 repeat (with_reducible first|exact Le.rfl|refine uX _ _ _|refine Le.bind ?_ λ_=>?_|refine Le.cond ?_ ?_)
def jR(a0:aI)(a1 a2 a3:Int):Option aI:=
 Option.bind (CX 100 (iO a0 a1 a2 a3) ()) λy5=>
 some y5
theorem zY(a0:aI)(a1 a2 a3:Int):Le (jR a0 a1 a2 a3) (gN a0 a1 a2 a3):=by
 unfold jR gN
 repeat (with_reducible first|exact Le.rfl|refine xZ _ _ _ _ _|refine Le.bind ?_ λ_=>?_|refine Le.lp λ_=>?_)
def gW(a0:aI):Option aI:=
 Option.bind (EA (IntKind.u64.wrap ((a0.length:Nat):Int))) λv1=>
 Option.bind (jR a0 0 ((a0.length:Nat):Int) v1) λv2=>
 bif decide (v2.length=a0.length)then
  (some v2)
 else none
theorem uY(a0:aI):Le (gW a0) (fA a0):=by
 unfold gW fA
 repeat (with_reducible first|exact Le.rfl|refine zY _ _ _ _|refine Le.bind ?_ λ_=>?_|refine Le.cond ?_ ?_)
def uK(a0:Mt):Option aV:=
 Option.bind (CX 100 (CV a0) ([],0)) λy5=>
 some (y5)
theorem EX(a0:Mt):Le (uK a0) (oQ a0):=by
 unfold uK oQ
 repeat (with_reducible first|exact Le.rfl|refine Le.bind ?_ λ_=>?_|refine Le.lp λ_=>?_)
def Az(a1:Int)(y6:aA)(x3:((List Pr)×Int)):Option (((List Pr)×Int) ⊕ (List Pr)):=
 bif decide (x3.2<((y6.length:Nat):Int))then
  (Option.bind (cF y6 x3.2) λv9=>
  Option.bind (mD a1 y6) λv10=>
  Option.bind (CX 100 (FP v9 v10 x3) (x3.1,0)) λy15=>
  some (.inl (y15,wr (x3.2+1))))
 else
  (some (.inr x3.1))
theorem KL(a1:Int)(y6:aA)(x3:((List Pr)×Int)):Le (Az a1 y6 x3) (Al a1 y6 x3):=by
 unfold Az Al
 repeat (with_reducible first|exact Le.rfl|refine zK _ _|refine Le.bind ?_ λ_=>?_|refine Le.cond ?_ ?_|refine Le.lp λ_=>?_)
def BA(a1 a2:Int)(y6:aA)(y16:(List Pr))(v18:aA)(x5:aI):Option (aI ⊕ Unit):=
 Option.bind (kD a2 a1) λv19=>
 Option.bind (CX 100 (FQ v19 y6) (v19.cells,0)) λy25=>
 Option.bind (CX 100 (FR v18 v19 y16) (y25,0)) λy32=>
 Option.bind (uK (⟨v19.rows,v19.cols,y32⟩:Mt)) λv33=>
 bif decide (x5.length+1<=4294967296)then
  (some (.inl (x5++[(⟨a1,v33⟩:Sc)])))
 else none
theorem KM(a1 a2:Int)(y6:aA)(y16:(List Pr))(v18:aA)(x5:aI):Le (BA a1 a2 y6 y16 v18 x5) (tW a1 a2 y6 y16 v18 x5):=by
 unfold BA tW
 repeat (with_reducible first|exact Le.rfl|refine EX _|refine Le.bind ?_ λ_=>?_|refine Le.cond ?_ ?_|refine Le.lp λ_=>?_)
def BB(a0 a1 a2:Int)(x1:(Int×aI)):Option ((Int×aI) ⊕ aI):=
 bif decide (x1.1<IR 1 a1)then
  (Option.bind (CX 100 (FO a1 x1) ([],0)) λy6=>
  bif !decide (((y6.length:Nat):Int)=a2)then
   (some (.inl (wr (x1.1+1),x1.2)))
  else
   (Option.bind (CX 100 (Az a1 y6) ([],0)) λy16=>
   bif(decide (0<=((y16.length:Nat):Int))&&decide (((y16.length:Nat):Int)<=1048576))then
    (bif KX (List.replicate ((y16.length:Nat):Int).toNat (wr (a0-1)))then
     (Option.bind (Fl (BA a1 a2 y6 y16) (dG (List.replicate ((y16.length:Nat):Int).toNat (wr (a0-1)))) x1.2) λy35=>
      Sum.elim (λy35=>
       some (.inl (wr (x1.1+1),y35))
      ) (λ_=>none) y35)
    else none)
   else none))
 else
  (some (.inr x1.2))
theorem KN(a0 a1 a2:Int)(x1:(Int×aI)):Le (BB a0 a1 a2 x1) (Am a0 a1 a2 x1):=by
 unfold BB Am
 repeat (with_reducible first|exact Le.rfl|refine KL _ _ _|refine KM _ _ _ _ _ _|refine Le.bind ?_ λ_=>?_|refine Le.cond ?_ ?_|refine Le.lp λ_=>?_|refine Le.fl (λ_ _=>?_) _ _|refine Le.elim (λ_=>?_) λ_=>?_)
def Ac(a0 a1 a2:Int):Option aI:=
 bif !decide (a1<0)then
  (Option.bind (CX 100 (BB a0 a1 a2) (0,[])) λy37=>
  Option.bind (gW y37) λv38=>
  bif decide (v38.length=y37.length)then
   (some v38)
  else none)
 else none
theorem Nm(a0 a1 a2:Int):Le (Ac a0 a1 a2) (pV a0 a1 a2):=by
 unfold Ac pV
 repeat (with_reducible first|exact Le.rfl|refine KN _ _ _ _|refine uY _|refine Le.bind ?_ λ_=>?_|refine Le.cond ?_ ?_|refine Le.lp λ_=>?_)
def CF(a0 a1:Int):Option Int:=
 Option.bind (CX 100 (GJ a0 a1) (1,0)) λy2=>
 some (y2)
theorem PI(a0 a1:Int):Le (CF a0 a1) (xU a0 a1):=by
 unfold CF xU
 repeat (with_reducible first|exact Le.rfl|refine Le.bind ?_ λ_=>?_|refine Le.lp λ_=>?_)
def wB(a0 a1 a2:Int)(x1:(Int×Int×Int)):Option ((Int×Int×Int) ⊕ (Int×Int)):=
 bif decide (x1.2.2<a2)then
  (Option.bind (CF a0 (wr (a1-x1.2.2))) λv8=>
  Option.bind (CF a0 (wr (x1.2.2+1))) λv9=>
  some (.inl (wr (x1.1*(wr (v8-1))),wr (x1.2.1*(wr (v9-1))),wr (x1.2.2+1))))
 else
  (some (.inr (x1.1,x1.2.1)))
theorem Hn(a0 a1 a2:Int)(x1:(Int×Int×Int)):Le (wB a0 a1 a2 x1) (vU a0 a1 a2 x1):=by
 unfold wB vU
 repeat (with_reducible first|exact Le.rfl|refine PI _ _|refine Le.bind ?_ λ_=>?_|refine Le.cond ?_ ?_)
def BC(a0 a1 a2:Int):Option Int:=
 Option.bind (gR a0) λv1=>
 bif !v1 then
  (some ((-1)))
 else
  (Option.bind (eH a1 0 4) λv3=>
  bif !v3 then
   (some ((-1)))
  else
   (Option.bind (eH a2 0 a1) λv5=>
   bif !v5 then
    (some ((-1)))
   else
    (Option.bind (CX 100 (wB a0 a1 a2) (1,1,0)) λy10=>
    bif !decide (y10.2=0)then
     (some (wr (y10.1.tdiv y10.2)))
    else none)))
theorem KO(a0 a1 a2:Int):Le (BC a0 a1 a2) (oT a0 a1 a2):=by
 unfold BC oT
 repeat (with_reducible first|exact Le.rfl|refine Hn _ _ _ _|refine Le.bind ?_ λ_=>?_|refine Le.cond ?_ ?_|refine Le.lp λ_=>?_)
def EK(a0 a1 a2:Int):Option (aA×Bool):=
 Option.bind (gR a0) λv1=>
 bif !v1 then
  (some ((([]:aA),false)))
 else
  (Option.bind (eH a1 0 8) λv3=>
  bif !v3 then
   (some ((([]:aA),false)))
  else
   (bif decide (a2<0)then
    (some ((([]:aA),false)))
   else
    (bif(decide (0<=a1)&&decide (a1<=1048576))then
     (Option.bind (CX 100 (FT a0) (a2,(List.replicate a1.toNat (0:Int)),wr (a1-1))) λy10=>
     bif decide (0<y10.1)then
      (some ((([]:aA),false)))
     else
      (some ((y10.2,true))))
    else none)))
theorem Nn(a0 a1 a2:Int):Le (EK a0 a1 a2) (AS a0 a1 a2):=by
 unfold EK AS
 repeat (with_reducible first|exact Le.rfl|refine Le.bind ?_ λ_=>?_|refine Le.cond ?_ ?_|refine Le.lp λ_=>?_)
def DA(a0 a1:Int)(v2:aI)(v6:(aA×Bool))(x3:(aI×Int)):Option ((aI×Int) ⊕ aI):=
 bif decide (x3.2<((v2.length:Nat):Int))then
  (Option.bind (cF v2 x3.2) λv8=>
  bif decide ([v6.1].length +v8.basis.length<=4294967296)then
   (Option.bind (Fc a0 (⟨a1,([v6.1]++v8.basis)⟩:Sc)) λv10=>
   bif v10 then
    (bif decide (x3.1.length+1<=4294967296)then
     (some (.inl ((x3.1++[(⟨a1,([v6.1]++v8.basis)⟩:Sc)]),wr (x3.2+1))))
    else none)
   else
    (some (.inl (x3.1,wr (x3.2+1)))))
  else none)
 else
  (some (.inr x3.1))
theorem Mk(a0 a1:Int)(v2:aI)(v6:(aA×Bool))(x3:(aI×Int)):Le (DA a0 a1 v2 v6 x3) (Cn a0 a1 v2 v6 x3):=by
 unfold DA Cn
 repeat (with_reducible first|exact Le.rfl|refine PH _ _|refine Le.bind ?_ λ_=>?_|refine Le.cond ?_ ?_)
def DB(a0 a1:Int)(v2:aI)(y4:Int)(x2:(aI×Int)):Option ((aI×Int) ⊕ aI):=
 bif decide (x2.2<y4)then
  (Option.bind (EK a0 a1 x2.2) λv6=>
  Option.bind (CX 100 (DA a0 a1 v2 v6) (x2.1,0)) λy13=>
  some (.inl (y13,wr (x2.2+1))))
 else
  (some (.inr x2.1))
theorem Ml(a0 a1:Int)(v2:aI)(y4:Int)(x2:(aI×Int)):Le (DB a0 a1 v2 y4 x2) (Co a0 a1 v2 y4 x2):=by
 unfold DB Co
 repeat (with_reducible first|exact Le.rfl|refine Nn _ _ _|refine Mk _ _ _ _ _|refine Le.bind ?_ λ_=>?_|refine Le.cond ?_ ?_|refine Le.lp λ_=>?_)
def EL(self:Int->Int->Int->Option aI)(a0 a1 a2:Int):Option aI:=
 bif decide (a2=0)then
  (some [(⟨a1,([]:aV)⟩:Sc)])
 else
  (Option.bind (self a0 a1 (wr (a2-1))) λv2=>
  Option.bind (CX 100 (HA a0 a1) (1,0)) λy4=>
  Option.bind (CX 100 (DB a0 a1 v2 y4) (([]:aI),0)) λy14=>
  some y14)
theorem Np{self self':Int->Int->Int->Option aI}(hself:∀z0 z1 z2,Le (self z0 z1 z2) (self' z0 z1 z2))(a0 a1 a2:Int):Le (EL self a0 a1 a2) (AT self' a0 a1 a2):=by
 unfold EL AT
 repeat (with_reducible first|exact Le.rfl|exact hself _ _ _|refine Ml _ _ _ _ _|refine Le.bind ?_ λ_=>?_|refine Le.cond ?_ ?_|refine Le.lp λ_=>?_)
def Gc:Nat->Int->Int->Int->Option aI
 |0,_,_,_=>none
 |n+1,a0,a1,a2=>EL (Gc n) a0 a1 a2
theorem JH:∀(n:Nat) a0 a1 a2,Le (Gc n a0 a1 a2) (zW n a0 a1 a2)
 |0,a0,a1,a2=>Le.none
 |n+1,a0,a1,a2=>Np (λa0 a1 a2=>JH n a0 a1 a2) a0 a1 a2
def Ad(a0 a1 a2:Int):Option (aI×Bool):=
 Option.bind (BC a0 a1 a2) λv1=>
 bif decide (v1<0)then
  (some (([]:aI),false))
 else
  (bif decide (200<v1)then
   (some (([]:aI),false))
  else
   (Option.bind (Gc 8 a0 a1 a2) λv4=>
   some (v4,true)))
theorem Nq(a0 a1 a2:Int):Le (Ad a0 a1 a2) (pW a0 a1 a2):=by
 unfold Ad pW
 repeat (with_reducible first|exact Le.rfl|refine KO _ _ _|refine JH _ _ _ _|refine Le.bind ?_ λ_=>?_|refine Le.cond ?_ ?_)
end
section
def cK(r:Rp):Bool:=xN r&&(decide (r.p<=3)&&((r.dims.all λx=>pL x 0 2)&&decide (r.dims.sum<=5)))
theorem JI{r:Rp}(h:xN r=true):(∀x∈r.dims,0<=x/\x<=4)/\r.dims.length<=5:=by
 have R:=Mh h;refine⟨λx hx=>?_,R.n5⟩;obtain⟨k,hk,rfl⟩:=List.mem_iff_getElem.1 hx;have:=R.d k hk;simp only[dL hk,dI]at this;omega
theorem TI{r:Rp}(hr:bR r):xS r=some (cK r):=by
 unfold xS cK;rw[Gz hr,aB];refine iA λhR=>iA λhp=>?_;obtain⟨h1,h2⟩:=JI hR;rw[xK (by unfold bI;omega),aB];refine iA λhd=>?_;rw[GE h1 (by omega),aB]
theorem JJ{d:aA}(h:∀x∈d,0<=x/\x<=100)(hl:d.length<=1048576):∀k,k<=d.length->0<=(d.take k).sum/\(d.take k).sum <=100*k
 |0,_=>by simp
 |k+1,hk=>by
  have ih:=JJ h hl k (by omega);have:=h _ (cE 0 (show k<d.length by omega));rw[xM (by omega)];omega
theorem vH{r:Rp}(hr:bR r):kY r=some (bif xN r then r.dims.sum else -1):=by
 unfold kY;rw[Sw hr,aB];cases hR:xN r with
 |false=>rfl
 |true=>
  obtain⟨h1,h2⟩:=JI hR;have hs:=JJ (d:=r.dims) (λx hx=>by have:=h1 x hx;omega) (by omega);simp only[dR,aN,aG];rw[cO (r:=r.dims.sum) (λk=>((r.dims.take k).sum,(k:Int))) r.dims.length (by simp) (λk hk=>?_) (λ_=>?_),aB]
  .unfold Bj;simp only;have:=hs k (by omega);have:=hs (k+1) (by omega);rw[xM hk]at this;rw[jW hk,aG,kM 0 hk,aB,dM (by omega),bW hk (by omega),xM hk]
  .unfold Bj;simp only;rw[mG (bD _),aN,List.take_length]
theorem TJ{r:Rp}(hr:bR r):xT r=some (cK r):=by
 unfold xT cK;rw[vH hr,aB,Ai,aB];cases hR:xN r with
 |false=>rfl
 |true=>
  obtain⟨h1,h2⟩:=JI hR;have hs:=NX h1;simp only[aG,Bool.true_and]
  have e1:pL r.dims.sum 0 5=decide (r.dims.sum<=5):=by
   by_cases h:r.dims.sum<=5
   .rw[aR h];exact Dl (by omega) h
   .rw[bP h];unfold pL;exact bP (by omega)
  rw[e1]
  have e2:decide (3<r.p)= !decide (r.p<=3):=by
   by_cases h:r.p<=3
   .rw[aR h,bP (by omega)];rfl
   .rw[bP h,aR (by omega)];rfl
  rw[e2];rw[Ag (λk=>decide (r.dims[k]?.getD 0<=2)) false (n:=r.dims.length) (by omega) (λk hk=>?_) (λ_=>?_),aB]
  .have e3:(List.range r.dims.length).all (λk=>decide (r.dims[k]?.getD 0<=2))=r.dims.all λx=>pL x 0 2:=by
    rw[vB 0 r.dims (λx=>decide (x<=2))]
    exact aEm λx hx=>by
     have:=h1 x hx;by_cases h:x<=2
     .rw[aR h];exact(Dl (by omega) h).symm
     .rw[bP h];unfold pL;exact(bP (by omega)).symm
   rw[e3];cases decide (r.dims.sum<=5)<;>cases decide (r.p<=3)<;>cases (r.dims.all λx=>pL x 0 2)<;>rfl
  .unfold Bk;rw[jW hk,aG,kM 0 hk,aB];by_cases h:r.dims[k]?.getD 0<=2
   .rw[aR h,bP (by omega)];rfl
   .rw[bP h,aR (by omega)];rfl
  .unfold Bk;rw[mG (bD _),aN]
structure Sm(r:Rp):Prop where
 R:Rv r
 p:r.p=2∨r.p=3
 d:∀v,v<r.dims.length->dN r v<=2
 s:r.dims.sum<=5
theorem iL{r:Rp}(h:cK r=true):Sm r:=by
 unfold cK at h;simp only[bX,eD]at h;obtain⟨h1,h2,h3,h4⟩:=h;have R:=Mh h1;refine⟨R,by have:=FD R.hp;omega,λv hv=>?_,h4⟩;have:=jY (List.all_eq_true.1 h3 _ (cE 0 hv));rw[(R.d v hv).1]at this;omega
def Rs:Nat->Nat->Nat->aI
 |_,n,0=>[⟨n,[]⟩]
 |_,1,1=>[⟨1,[[1]]⟩]
 |2,2,1=>[⟨2,[[0,1]]⟩,⟨2,[[1,0]]⟩,⟨2,[[1,1]]⟩]
 |3,2,1=>[⟨2,[[0,1]]⟩,⟨2,[[1,0]]⟩,⟨2,[[1,1]]⟩,⟨2,[[1,2]]⟩]
 |_,2,2=>[⟨2,[[1,0],[0,1]]⟩]
 |_,_,_=>[]
theorem aAa:∀p,p<2->∀n,n<3->∀k,k<n+1->Ac ((p+2:Nat):Int) (n:Nat) (k:Nat)=some (Rs (p+2) n k):=by decide+kernel
theorem aCi(p:Nat)(h1:p<4)(h2:2<=p):∀n,n<3->∀k,k<n+1->Ac (p:Nat) (n:Nat) (k:Nat)=some (Rs p n k):=by
 have:=aAa (p-2) (by omega)
 rwa [show p-2+2=p by omega]at this
instance:DecidableEq (Option (aI×Bool)):=inferInstance
theorem aAb:∀p,p<2->∀n,n<3->∀k,k<n+1->Ad ((p+2:Nat):Int) (n:Nat) (k:Nat)=some (Rs (p+2) n k,true):=by decide+kernel
theorem aCj(p:Nat)(h1:p<4)(h2:2<=p):∀n,n<3->∀k,k<n+1->Ad (p:Nat) (n:Nat) (k:Nat)=some (Rs p n k,true):=by
 have:=aAb (p-2) (by omega)
 rwa [show p-2+2=p by omega]at this
def Rt(p n:Nat)(k:Int):aI:=bif pL k 0 n then Rs p n k.toNat else []
theorem Xu{p n:Nat}{k:Int}(hp:p=2∨p=3)(hn:n<=2)(hk:pL k 0 n=true):pV p n k=some (Rt p n k):=by
 have h:=jY hk;have e:=Nm _ _ _ _ (aCi p (by omega) (by omega) n (by omega) k.toNat (by omega));rw[show((k.toNat:Nat):Int)=k by omega]at e;rw[e];unfold Rt;rw[hk];rfl
theorem Xv{p n:Nat}{k:Int}(hp:p=2∨p=3)(hn:n<=2):∃b,pW p n k=some (Rt p n k,b):=by
 cases hk:pL k 0 n with
 |true=>
  have h:=jY hk;have e:=Nq _ _ _ _ (aCj p (by omega) (by omega) n (by omega) k.toNat (by omega));rw[show((k.toNat:Nat):Int)=k by omega]at e;refine⟨true,?_⟩;rw[e];unfold Rt;rw[hk];rfl
 |false=>
  refine⟨false,?_⟩;unfold pW oT Rt;rw[MS,aB,aBe (by omega)];simp only[dR,aN];rw[Ai,aB,Dl (by omega) (by omega)];simp only[dR,aN];rw[Ai,aB,hk];rfl
def Xw(p n:Nat)(x:Sc):Bool:=decide (x.basis.length<=2)&&(x.basis.all λv=>decide (v.length<=2))&&vL p n x.basis&&decide (x.size=n)
theorem aAc:∀p,p<2->∀n,n<3->∀k,k<n+1->((Rs (p+2) n k).all (λx=>decide (x.basis.length=k)&&Xw (p+2) n x)&&decide (1<=(Rs (p+2) n k).length)&&decide ((Rs (p+2) n k).length <=4))=true:=by decide+kernel
theorem WR(p:Nat)(h1:p<4)(h2:2<=p):∀n,n<3->∀k,k<n+1->((Rs p n k).all (λx=>decide (x.basis.length=k)&&Xw p n x)&&decide (1<=(Rs p n k).length)&&decide ((Rs p n k).length <=4))=true:=by
 have:=aAc (p-2) (by omega)
 rwa [show p-2+2=p by omega]at this
theorem UW{p n:Nat}{k:Int}(hp:p=2∨p=3)(hn:n<=2){x:Sc}(hx:x∈Rt p n k):bS x/\(x.basis.length:Int)=k/\vL p n x.basis=true/\x.size=n:=by
 unfold Rt at hx;cases hk:pL k 0 n with
 |false=>rw[hk]at hx;simp at hx
 |true=>
  rw[hk]at hx;have h:=jY hk;have:=WR p (by omega) (by omega) n (by omega) k.toNat (by omega);simp only[bX,List.all_eq_true,eD]at this;have h2:=this.1.1 x hx;unfold Xw at h2;simp only[bX,List.all_eq_true,eD]at h2;obtain⟨a,⟨⟨b,c⟩,d⟩,e⟩:=h2;refine⟨⟨⟨by omega,λv hv=>?_⟩,trivial⟩,by omega,d,e⟩;have:=c v hv;unfold bI;omega
theorem UX{p n:Nat}{k:Int}(hp:p=2∨p=3)(hn:n<=2):(Rt p n k).length <=4/\(pL k 0 n=true->1<=(Rt p n k).length):=by
 unfold Rt;cases hk:pL k 0 n with
 |false=>simp
 |true=>
  have h:=jY hk;have:=WR p (by omega) (by omega) n (by omega) k.toNat (by omega);simp only[bX,List.all_eq_true,eD]at this;exact⟨this.2,λ_=>this.1.2⟩
def lU{α:Type}:List (List α)->List (List α)
 | []=>[[]]
 |c::cs=>c.flatMap λx=>(lU cs).map (x:: ·)
theorem TK{α:Type}(c:List α):∀cs:List (List α),lU (cs++[c])=(lU cs).flatMap λs=>c.map λx=>s++[x]
 | []=>by
  simp only[List.nil_append,lU,List.flatMap_cons,List.flatMap_nil,List.append_nil,List.map_cons,List.map_nil];induction c with
  |nil=>rfl
  |cons x c ih=>rw[List.flatMap_cons,ih];rfl
 |d::cs=>by
  simp only[List.cons_append,lU];rw[TK c cs,List.flatMap_assoc];congr 1;funext x;rw[List.map_flatMap,List.flatMap_map];congr 1;funext s;simp
theorem RL{α:Type}{b:Nat}:∀{cs:List (List α)},(∀c∈cs,c.length<=b)->(lU cs).length <=b ^ cs.length
 | [],_=>by simp[lU]
 |c::cs,h=>by
  simp only[lU,List.length_cons,Nat.pow_succ];have ih:=RL (cs:=cs) λd hd=>h d (by simp[hd])
  have key:∀c:List α,(c.flatMap λx=>(lU cs).map (x:: ·)).length=c.length*(lU cs).length:=by
   intro c;induction c with
   |nil=>simp
   |cons x c ih=>rw[List.flatMap_cons,List.length_append,ih,dT,List.length_cons,Nat.succ_mul,Nat.add_comm]
  rw[key,Nat.mul_comm];exact Nat.mul_le_mul ih (h c (by simp))
theorem RM{α β γ:Type}(h:α->β->γ)(l:List β):∀xs:List α,(xs.flatMap λs=>l.map (h s)).length=xs.length*l.length
 | []=>by simp
 |x::xs=>by rw[List.flatMap_cons,List.length_append,RM h l xs,dT,List.length_cons,Nat.succ_mul,Nat.add_comm]
theorem Mm{α:Type}:∀{cs:List (List α)}{s:List α},s∈lU cs->s.length=cs.length/\∀v (d:α),v<cs.length->s[v]?.getD d∈cs[v]?.getD []
 | [],s,h=>by simp[lU]at h;subst h;simp
 |c::cs,s,h=>by
  simp only[lU,List.mem_flatMap,List.mem_map]at h;obtain⟨x,hx,t,ht,rfl⟩:=h;obtain⟨h1,h2⟩:=Mm ht;refine⟨by simp[h1],λv d hv=>?_⟩;cases v with
  |zero=>simpa using hx
  |succ v=>simpa using h2 v d (by simpa using hv)
theorem WS{α:Type}:∀{cs:List (List α)},[]∈cs->lU cs=[]
 |c::cs,h=>by
  rcases eO.1 h with h|h
  .subst h;rfl
  .simp[lU,WS h]
def Fe(cs:List aI)(x:aA):aI:=(List.range cs.length).map λv=>((cs[v]?.getD [])[(x[v]?.getD 0).toNat]?).getD ⟨0,[]⟩
theorem aAd(c:aI)(cs:List aI)(i:Int)(x:aA):Fe (c::cs) (i::x)=(c[i.toNat]?).getD ⟨0,[]⟩::Fe cs x:=by
 unfold Fe;rw[List.length_cons,List.range_succ_eq_map,List.map_cons,List.map_map];rfl
theorem Xx{α:Type}(d:α)(l:List α):(List.range l.length).map (λi=>l[i]?.getD d)=l:=by
 refine List.ext_getElem (by simp) λi h1 h2=>?_;simp[h2]
theorem RN:∀{cs:List aI},(∀c∈cs,1<=c.length)->(dG (cs.map λc=>(c.length:Int)-1)).map (Fe cs)=lU cs
 | [],_=>rfl
 |c::cs,h=>by
  have ih:=RN (cs:=cs) λd hd=>h d (by simp[hd]);have hc:=h c (by simp);simp only[List.map_cons,dG,lU];rw[show((c.length:Int)-1).toNat +1=c.length by omega,List.map_flatMap,←ih]
  have e:∀i:Nat,((dG (cs.map λc=>(c.length:Int)-1)).map λx=>(i:Int)::x).map (Fe (c::cs))=(λy:Sc=>((dG (cs.map λc=>(c.length:Int)-1)).map (Fe cs)).map (y:: ·)) (c[i]?.getD ⟨0,[]⟩):=by
   intro i;simp only[List.map_map];refine rQ λx _=>?_;simp only[Function.comp_apply];rw[aAd];rfl
  simp only[e]
  conv=>rhs;rw[←Xx ⟨0,[]⟩ c,List.flatMap_map]
def Ew(r:Rp)(d:aA):List aI:=(List.range r.dims.length).map λv=>Rt r.p.toNat (dN r v) (d[v]?.getD 0)
def HF(r:Rp)(d:aA):List aI:=(lU (Ew r d)).filter (rH r)
theorem RO{r:Rp}{d:aA}{v:Nat}(hv:v<r.dims.length):(Ew r d)[v]?.getD []=Rt r.p.toNat (dN r v) (d[v]?.getD 0):=by simp[Ew,hv]
theorem rA(r:Rp)(d:aA):(Ew r d).length=r.dims.length:=by simp[Ew]
theorem RP{r:Rp}(S:Sm r):r.p.toNat=2∨r.p.toNat=3:=by have:=S.p;omega
theorem Mn{r:Rp}(S:Sm r){d:aA}:∀c∈Ew r d,c.length<=4:=by
 intro c hc;obtain⟨v,hv,rfl⟩:=List.mem_map.1 hc;exact(UX (RP S) (S.d v (List.mem_range.1 hv))).1
theorem TL{r:Rp}(S:Sm r)(n:Nat)(h:n<=r.dims.length):4 ^ n<=1024:=by
 have:=S.R.n5;exact Nat.le_trans (Nat.pow_le_pow_right (by omega) (show n<=5 by omega)) (by decide)
theorem LX{r:Rp}(S:Sm r){d:aA}:(lU (Ew r d)).length <=1024:=by
 have:=RL (Mn S (d:=d));rw[rA]at this;exact Nat.le_trans this (TL S _ (bD _))
theorem PZ{r:Rp}(S:Sm r){d:aA}{s:aI}(hs:s∈lU (Ew r d)):s.length=r.dims.length/\(∀x∈s,bS x)/\∀v,v<r.dims.length->(sG s v).basis.length=d[v]?.getD 0/\vL r.p (dN r v) (sG s v).basis=true/\(sG s v).size=(dN r v:Int):=by
 obtain⟨h1,h2⟩:=Mm hs;rw[rA]at h1 h2;have h3:∀v,v<r.dims.length->sG s v∈Rt r.p.toNat (dN r v) (d[v]?.getD 0):=λv hv=>by have:=h2 v ⟨0,[]⟩ hv;rwa [RO hv]at this
 refine⟨h1,λx hx=>?_,λv hv=>?_⟩
 .obtain⟨v,hv,rfl⟩:=List.mem_iff_getElem.1 hx;have:=h3 v (by omega);unfold sG at this;rw[dL hv,dI]at this;exact(UW (RP S) (S.d v (by omega)) this).1
 .obtain⟨_,e1,e2,e3⟩:=UW (RP S) (S.d v hv) (h3 v hv);have:=S.p;rw[show((r.p.toNat:Nat):Int)=r.p by omega]at e2;exact⟨e1,e2,e3⟩
theorem TM{n:Nat}(P:Nat->Bool):(∀k,k<n->P k=true)∨∃k,k<n/\P k=false/\∀j,j<k->P j=true:=by
 induction n with
 |zero=>exact .inl λk hk=>absurd hk (Nat.not_lt_zero _)
 |succ n ih=>
  rcases ih with h|⟨k,h1,h2,h3⟩
  .cases hp:P n with
   |true=>
    refine .inl λk hk=>?_;rcases Nat.lt_or_eq_of_le (Nat.lt_succ_iff.1 hk)with h'|h'
    .exact h k h'
    .rw[h'];exact hp
   |false=>exact .inr ⟨n,Nat.lt_succ_self _,hp,h⟩
  .exact .inr ⟨k,by omega,h2,h3⟩
theorem ZJ{α β ρ:Type}{f:α->List β->Option (List β ⊕ ρ)}(p:β->Bool)(g:α->β):∀(l:List α)(acc:List β),acc.length+l.length<=4000000->(∀x∈l,∀acc:List β,acc.length<=4000000->f x acc=some (.inl (if p (g x)=true then acc++[g x]else acc)))->Fl f l acc=some (.inl (acc++(l.map g).filter p))
 | [],acc,_,_=>by simp[Fl]
 |x::l,acc,hl,h=>by
  rw[List.length_cons]at hl;have h1:=h x (by simp) acc (by omega);simp only[Fl,h1];rw[ZJ p g l _ (by split<;>(try simp only[List.length_append,List.length_cons,List.length_nil])<;>omega) λy hy=>h y (by simp[hy]),List.map_cons,List.filter_cons];cases p (g x)<;>simp
theorem aCk{x:Sc}(h:bS x):tX x=some x:=by
 obtain⟨⟨h1,h2⟩,_⟩:=h;unfold tX;rw[cO (r:=x.basis) (λk=>(x.basis.take k,(k:Int))) x.basis.length (by simp) (λk hk=>?_) (λ_=>?_),aB]
 .unfold vT nQ;simp only;have:=h2 _ (cE [] hk);unfold bI at this;rw[jW hk,aG,kM [] hk,aB,aR this,aG,aB,aR (by rw[List.length_take];omega),aG,bW hk (by omega),dL hk,dI,wX hk]
 .unfold vT;simp only;rw[mG (bD _),aN,List.take_length]
theorem Xy{r:Rp}(hr:bR r)(S:Sm r){d:aA}(hd:d.length=r.dims.length):AQ r d=some (HF r d):=by
 have h5:=S.R.n5
 have hsp:∀k,k<r.dims.length->pL (d[k]?.getD 0) 0 (r.dims[k]?.getD 0)=true->pV r.p (r.dims[k]?.getD 0) (d[k]?.getD 0)=some ((Ew r d)[k]?.getD []):=by
  intro k hk hin;rw[(S.R.d k hk).1]at hin ⊢;have:=Xu (RP S) (S.d k hk) hin;have hp:=S.p;rw[show((r.p.toNat:Nat):Int)=r.p by omega]at this;rw[this,RO hk]
 let most:aA:=(Ew r d).map λc=>(c.length:Int)-1
 have step:∀k,k<r.dims.length->pL (d[k]?.getD 0) 0 (r.dims[k]?.getD 0)=true->oS r d ((Ew r d).take k,most.take k,(k:Int))=some (.inl ((Ew r d).take (k+1),most.take (k+1),((k+1:Nat):Int))):=by
  intro k hk hin;have hk2:k<(Ew r d).length:=by rw[rA];exact hk
  have hk3:k<most.length:=by simp[most,rA,hk]
  have hsm:=Mn S (d:=d) _ (cE [] hk2);unfold oS;simp only;rw[jW hk,aG,kM 0 hk,aB,kM 0 (show k<d.length by omega),aB,Bd,aB,hin];simp only[dR,aN,aB];rw[hsp k hk hin,aB,aR (by rw[List.length_take];omega),aG,aR (by rw[List.length_take];simp;omega),aG,bW hk (by omega)];rw[dM (by omega)];have e1:(Ew r d).take k++[(Ew r d)[k]?.getD []]=(Ew r d).take (k+1):=by rw[dL hk2,dI,wX hk2]
  have e2:most.take k++[(((Ew r d)[k]?.getD []).length:Int)-1]=most.take (k+1):=by
   rw[wX hk3];simp[most,hk2]
  rw[e1,e2]
 unfold AQ;rcases TM (n:=r.dims.length) (λk=>pL (d[k]?.getD 0) 0 (r.dims[k]?.getD 0))with hall|⟨k0,hk0,hbad,hgood⟩
 .rw[cO (r:=.inl (Ew r d,most)) (λk=>((Ew r d).take k,most.take k,(k:Int))) r.dims.length (by simp) (λk hk=>step k hk (hall k hk)) (λ_=>?_),aB]
  .simp only[Sum.elim_inl]
   have h1:∀c∈Ew r d,1<=c.length:=by
    intro c hc;obtain⟨v,hv,rfl⟩:=List.mem_map.1 hc;have hv:=List.mem_range.1 hv;have:=hall v hv;rw[(S.R.d v hv).1]at this;exact(UX (RP S) (S.d v hv)).2 this
   have hmost:KX most=true:=by
    unfold KX;rw[aR (by simp[most,rA];omega),Bool.and_true,List.all_eq_true];intro m hm;obtain⟨c,hc,rfl⟩:=List.mem_map.1 hm;have:=h1 c hc;have:=Mn S c hc;rw[aR (by omega),aR (by omega)];rfl
   rw[hmost,aG];have hbx:(dG most).map (Fe (Ew r d))=lU (Ew r d):=RN h1
   have hlen:(dG most).length <=1024:=by
    have:=congrArg List.length hbx;rw[dT]at this;rw[this];exact LX S
   rw[ZJ (rH r) (Fe (Ew r d)) _ _ (by simp;omega) (λx hx acc hacc=>?_),aB]
   .simp only[Sum.elim_inl,List.nil_append];rw[hbx];rfl
   .have hxl:=tG hx;have hml:most.length=r.dims.length:=by simp[most,rA]
    have hs:Fe (Ew r d) x∈lU (Ew r d):=by rw[←hbx];exact List.mem_map.2 ⟨x,hx,rfl⟩
    obtain⟨p1,p2,p3⟩:=PZ S hs
    have hg:∀k,k<r.dims.length->(((Ew r d)[k]?.getD [])[(x[k]?.getD 0).toNat]?).getD ⟨0,[]⟩=(Fe (Ew r d) x)[k]?.getD ⟨0,[]⟩:=by
     intro k hk;simp[Fe,rA,hk]
    unfold Ao;rw[cO (r:=Fe (Ew r d) x) (λk=>((Fe (Ew r d) x).take k,(k:Int))) r.dims.length (by simp) (λk hk=>?_) (λ_=>?_),aB]
    .rw[aAZ hr ⟨by omega,p2⟩,aB];cases rH r (Fe (Ew r d) x)with
     |false=>simp
     |true=>simp only[aG,if_true];rw[aR (by omega),aG]
    .have hxk:k<x.length:=by omega
     have hb:=LF hx k (x[k]?.getD 0) (most[k]?.getD 0) (by rw[dL hxk];rfl) (by rw[dL (by omega)];rfl);have hck:(Ew r d)[k]?.getD []∈Ew r d:=cE [] (by rw[rA];exact hk);have hmk:most[k]?.getD 0=(((Ew r d)[k]?.getD []).length:Int)-1:=by simp[most,rA,hk]
     have hc1:=h1 _ hck
     have hin:(x[k]?.getD 0).toNat <((Ew r d)[k]?.getD []).length:=by
      have:=hb.2 (by omega);omega
     unfold An;simp only;rw[show((most.length:Nat):Int)=(r.dims.length:Int) by rw[hml],jW hk,aG,kM 0 hxk,aB,kM [] (by rw[rA];exact hk),aB,Tk ⟨0,[]⟩ hb.1 (by omega),aB,hg k hk];have hpk:k<(Fe (Ew r d) x).length:=by omega
     rw[aCk (p2 _ (cE _ hpk)),aB,aR (by rw[List.length_take];omega),aG,bW hk (by omega),dL hpk,dI,wX hpk]
    .unfold An;simp only;rw[show((most.length:Nat):Int)=(r.dims.length:Int) by rw[hml],mG (bD _),aN,List.take_of_length_le (by omega)]
  .unfold oS;simp only;rw[mG (bD _),aN,List.take_of_length_le (by rw[rA];omega),List.take_of_length_le (by simp[most,rA])]
 .rw[cO (r:=.inr []) (λk=>((Ew r d).take k,most.take k,(k:Int))) k0 (by simp) (λk hk=>step k (by omega) (hgood k hk)) (λ_=>?_),aB]
  .simp only[Sum.elim_inr];unfold HF;rw[WS]
   .rfl
   .refine List.mem_map.2 ⟨k0,List.mem_range.2 hk0,?_⟩;unfold Rt;rw[←(S.R.d k0 hk0).1,hbad];rfl
  .unfold oS;simp only;rw[jW hk0,aG,kM 0 hk0,aB,kM 0 (show k0<d.length by omega),aB,Bd,aB,hbad];rfl
def aCl(r:Rp)(d:aA):List aI×Bool:=bif cK r&&decide (d.length=r.dims.length)then(HF r d,true)else([],false)
theorem Xz{α β:Type}(f:α->List β){l:List α}{k:Nat}(d:α)(h:k<l.length):(l.take k).flatMap f++f (l[k]?.getD d)=(l.take (k+1)).flatMap f:=by
 rw[wX h,List.flatMap_append,dL h];simp
theorem WT{α:Type}(p:α->Bool){l:List α}{k:Nat}(d:α)(h:k<l.length):(if p (l[k]?.getD d)=true then(l.take k).filter p++[l[k]?.getD d]else(l.take k).filter p)=(l.take (k+1)).filter p:=by
 rw[wX h,List.filter_append,dL h,dI];cases hp:p l[k]<;>simp[hp]
theorem aEq{l:aI}{b:Bool}{x:List aI}{z:Int}(hl:l.length<=4)(hx:x.length<=1024)(hs:∀s∈x,s.length<=5):Lp (uB (l,b) (x,z)) ([],0)=some (x.flatMap λs=>l.map λy=>s++[y]):=by
 have hfl:∀k,k<=x.length->((x.take k).flatMap λs=>l.map λy=>s++[y]).length <=4096:=λk hk=>by
  rw[RM (λs y=>s++[y]),List.length_take];have:=Nat.mul_le_mul (show min k x.length<=1024 by omega) hl;omega
 rw[cO (r:=x.flatMap λs=>l.map λy=>s++[y]) (λk=>((x.take k).flatMap (λs=>l.map λy=>s++[y]),(k:Int))) x.length (by simp) (λk hk=>?_) (λ_=>?_)]
 .have hsk:=hs _ (cE [] hk);have hf:=hfl k (by omega);unfold uB;simp only;rw[jW hk,aG];rw[cO (r:=((x.take k).flatMap λs=>l.map λy=>s++[y])++l.map λy=>x[k]?.getD []++[y]) (λj=>(((x.take k).flatMap λs=>l.map λy=>s++[y])++(l.take j).map (λy=>x[k]?.getD []++[y]),(j:Int))) l.length (by simp) (λj hj=>?_) (λ_=>?_),aB]
  .rw[bW hk (by omega),Xz (λs=>l.map λy=>s++[y]) [] hk]
  .unfold Ap;simp only[List.nil_append,List.length_nil,Nat.zero_add];rw[jW hj,aG,kM [] hk,aB,aR (by omega),aG,kM ⟨0,[]⟩ hj,aB,aR (by omega),aG,aR (by rw[List.length_append,dT,List.length_take];omega),aG,bW hj (by omega),List.append_assoc,HD (λy=>x[k]?.getD []++[y]) ⟨0,[]⟩ hj]
  .unfold Ap;simp only;rw[mG (bD _),aN,List.take_length]
 .unfold uB;simp only;rw[mG (bD _),aN,List.take_length]
theorem WU{r:Rp}(hr:bR r){d:aA}:AU r d=some (aCl r d):=by
 unfold AU aCl;rw[TJ hr,aB];cases hS:cK r with
 |false=>rfl
 |true=>
  have S:=iL hS;have h5:=S.R.n5;simp only[dR,aN,Bool.true_and];by_cases hd:d.length=r.dims.length
  .rw[aR (by omega),aR hd];simp only[dR,aN,aG]
   have htk:∀k,k<=r.dims.length->(lU ((Ew r d).take k)).length <=1024/\∀s∈lU ((Ew r d).take k),s.length<=5:=by
    intro k hk;have h1:=RL (b:=4) (cs:=(Ew r d).take k) λc hc=>Mn S c (List.mem_of_mem_take hc);rw[List.length_take,rA]at h1;refine⟨Nat.le_trans h1 (TL S _ (by omega)),λs hs=>?_⟩;have:=(Mm hs).1;rw[List.length_take,rA]at this;omega
   rw[cO (r:=lU (Ew r d)) (λk=>(lU ((Ew r d).take k),(k:Int))) r.dims.length (by simp[lU]) (λk hk=>?_) (λ_=>?_),aB]
   .have hps:=LX S (d:=d);rw[cO (r:=HF r d) (λk=>(((lU (Ew r d)).take k).filter (rH r),(k:Int))) (lU (Ew r d)).length (by simp) (λk hk=>?_) (λ_=>?_),aB]
    .obtain⟨p1,p2, -⟩:=PZ S (cE [] hk);have hfl:=List.length_filter_le (rH r) ((lU (Ew r d)).take k);rw[List.length_take]at hfl;have e:=WT (rH r) [] hk;unfold Aq;simp only;rw[jW hk,aG,kM [] hk,aB,Js hr ⟨by omega,p2⟩,aB,bW hk (by omega),←e];cases rH r ((lU (Ew r d))[k]?.getD [])with
     |false=>simp
     |true=>simp only[aG,if_true,aB];rw[aR (by omega),aG]
    .unfold Aq;simp only;rw[mG (bD _),aN,List.take_length];rfl
   .obtain⟨t1,t2⟩:=htk k (by omega);have hkc:k<(Ew r d).length:=by rw[rA];exact hk
    have hp:=S.p;obtain⟨b,hb⟩:=Xv (k:=d[k]?.getD 0) (RP S) (S.d k hk);rw[show((r.p.toNat:Nat):Int)=r.p by omega,←(S.R.d k hk).1]at hb;unfold uC;simp only;rw[jW (show k<d.length by omega),aG,kM 0 hk,aB,kM 0 (show k<d.length by omega),aB,hb,aB,aEq (UX (RP S) (S.d k hk)).1 t1 t2,aB,bW hk (by omega),←TK];congr 4;rw[wX hkc];congr 2;simp[Ew]
   .unfold uC;simp only;rw[show(d.length:Int)=(r.dims.length:Int) by rw[hd],mG (bD _),aN,List.take_of_length_le (by rw[rA];omega)]
  .rw[bP (by omega),bP hd];rfl
set_option maxHeartbeats 4000000
end
section
def cN:aA->Nat
 | []=>1
 |m::ms=>(m.toNat+1)*cN ms
def KP:aA->Nat->aA
 | [],_=>[]
 |m::ms,c=>((c/cN ms%(m.toNat+1):Nat):Int)::KP ms c
theorem YA:∀ms,0<cN ms
 | []=>by simp[cN]
 |m::ms=>Nat.mul_pos (Nat.succ_pos _) (YA ms)
theorem WV:∀ms c,(KP ms c).length=ms.length
 | [],_=>rfl
 |m::ms,c=>by simp[KP,WV ms c]
theorem WW:∀(ms:aA)(i c:Nat),KP ms (i*cN ms+c)=KP ms c
 | [],_,_=>rfl
 |m::ms,i,c=>by
  simp only[KP,cN];have h:=YA ms;rw[show i*((m.toNat+1)*cN ms)+c=i*(m.toNat+1)*cN ms+c by rw[Nat.mul_assoc],WW ms,Nat.add_comm (i*(m.toNat+1)*cN ms) c,Nat.add_mul_div_right _ _ h,Nat.add_mul_mod_self_right]
theorem TN{α:Type}(f:Nat->α)(b:Nat):∀a,(List.range (a*b)).map f=(List.range a).flatMap λi=>(List.range b).map λc=>f (i*b+c)
 |0=>by simp
 |a+1=>by
  rw[Nat.succ_mul,List.range_add,List.map_append,TN f b a,List.range_succ,List.flatMap_append,List.flatMap_singleton,List.map_map];rfl
theorem Mo{α β:Type}{f g:α->List β}:∀{l:List α},(∀x∈l,f x=g x)->l.flatMap f=l.flatMap g
 | [],_=>rfl
 |x::l,h=>by rw[List.flatMap_cons,List.flatMap_cons,h x (by simp),Mo λy hy=>h y (by simp[hy])]
theorem WX{α:Type}(p q:α->Bool):∀l:List α,(l.all λx=>p x&&q x)=(l.all p&&l.all q)
 | []=>rfl
 |x::l=>by
  simp only[List.all_cons,WX p q l];cases p x<;>cases q x<;>simp
theorem Nr:∀ms:aA,(List.range (cN ms)).map (KP ms)=dG ms
 | []=>rfl
 |m::ms=>by
  simp only[cN,dG];rw[TN,←Nr ms];refine Mo λi hi=>?_;rw[List.map_map];refine rQ λc hc=>?_;have hc:=List.mem_range.1 hc;have hi:=List.mem_range.1 hi;simp only[KP,Function.comp_apply];rw[WW,Nat.add_comm (i*cN ms) c,Nat.add_mul_div_right _ _ (YA ms),Nat.div_eq_of_lt hc,Nat.zero_add,Nat.mod_eq_of_lt hi]
theorem aCm{b:Nat}:∀{ms:aA},(∀m∈ms,m.toNat<=b)->cN ms<=(b+1) ^ ms.length
 | [],_=>by simp[cN]
 |m::ms,h=>by
  have ih:=aCm (ms:=ms) λx hx=>h x (by simp[hx]);have:=h m (by simp);simp only[cN,List.length_cons,Nat.pow_succ];rw[Nat.mul_comm];exact Nat.mul_le_mul ih (by omega)
theorem Sm.mem{r:Rp}(S:Sm r):∀x∈r.dims,0<=x/\x<=2:=by
 intro x hx;obtain⟨k,hk,rfl⟩:=List.mem_iff_getElem.1 hx;have h1:=(S.R.d k hk).1;have h2:=S.d k hk;rw[dL hk,dI]at h1;omega
theorem RQ{r:Rp}(S:Sm r)(n:Nat):cN (r.dims.drop n)<=243:=by
 have h5:=S.R.n5;have h:=aCm (b:=2) (ms:=r.dims.drop n) λm hm=>by have:=S.mem m (List.mem_of_mem_drop hm);omega
 exact Nat.le_trans h (Nat.le_trans (Nat.pow_le_pow_right (by omega) (show(r.dims.drop n).length <=5 by rw[List.length_drop];omega)) (by decide))
theorem OY{r:Rp}(S:Sm r):(dG r.dims).length <=243:=by
 rw[←Nr,dT,List.length_range];exact RQ S 0
def iI(r:Rp):List aI:=(dG r.dims).flatMap (HF r)
theorem Ff{r:Rp}(S:Sm r)(d:aA):(HF r d).length <=1024:=Nat.le_trans (List.length_filter_le _ _) (LX S)
theorem ZK{α β ρ:Type}{f:α->List β->Option (List β ⊕ ρ)}(g:α->List β)(b:Nat):∀(l:List α)(acc:List β),acc.length+b*l.length<=4000000->(∀x∈l,(g x).length <=b/\∀acc:List β,acc.length+b<=4000000->f x acc=some (.inl (acc++g x)))->Fl f l acc=some (.inl (acc++l.flatMap g))
 | [],acc,_,_=>by simp[Fl]
 |x::l,acc,hl,h=>by
  rw[List.length_cons,Nat.mul_succ]at hl;obtain⟨h0,h1⟩:=h x (by simp);have h1:=h1 acc (by omega);simp only[Fl,h1];rw[ZK g b l _ (by rw[List.length_append];omega) λy hy=>h y (by simp[hy]),List.flatMap_cons,List.append_assoc]
theorem YB{r:Rp}(S:Sm r):KX r.dims=true:=by
 have h5:=S.R.n5;unfold KX;rw[aR (by omega),Bool.and_true,List.all_eq_true];intro m hm;have:=S.mem m hm;rw[aR (by omega),aR (by omega)];rfl
theorem Jt{r:Rp}(hr:bR r)(S:Sm r):sK r=some (iI r):=by
 have hb:=OY S;unfold sK;rw[YB S,aG,ZK (HF r) 1024 _ _ (by simp;omega) (λx hx=>⟨Ff S x,λacc hacc=>?_⟩),aB]
 .rfl
 .have hsm:=Ff S x;unfold Bn;rw[Xy hr S (tG hx),aB,aR (by omega),aG]
theorem aCn{r:Rp}(S:Sm r){c:Nat}(hc:c<cN r.dims):Lp (wR r) (List.replicate ((r.dims.length:Int).toNat) (0:Int),(c:Int),wr ((((List.replicate ((r.dims.length:Int).toNat) (0:Int)).length:Nat):Int)-1))=some (KP r.dims c):=by
 have h5:=S.R.n5;have hc243:c<=243:=by have:=RQ S 0;rw[List.drop_zero]at this;omega
 rw[fM,List.length_replicate];refine cO (λj=>(List.replicate (r.dims.length-j) 0++KP (r.dims.drop (r.dims.length-j)) c,((c/cN (r.dims.drop (r.dims.length-j)):Nat):Int),(r.dims.length:Int)-j-1)) r.dims.length ?_ (λj hj=>?_) (λ_=>?_)
 .rw[Nat.sub_zero,List.drop_length,dM (by omega)];simp[KP,cN]
 .obtain⟨v,hv⟩:∃v,v+1=r.dims.length-j:=⟨r.dims.length-j-1,by omega⟩;have hvl:v<r.dims.length:=by omega
  have hm:=S.mem _ (cE 0 hvl);have e1:r.dims.length-(j+1)=v:=by omega
  have e2:(r.dims.length:Int)-(j:Int)-1=(v:Int):=by omega
  have e3:r.dims.drop v=r.dims[v]?.getD 0::r.dims.drop (v+1):=by rw[List.drop_eq_getElem_cons hvl,dL hvl,dI]
  have hq:c/cN (r.dims.drop (v+1))<=c:=Nat.div_le_self _ _;unfold wR;simp only;rw[←hv,e1,e2,aR (by omega),aG,kM 0 hvl,aB,dM (x:=r.dims[v]?.getD 0+1) (by omega),bP (by omega)];simp only[Bool.not_false,aG];rw[kM 0 (by simp;omega),aB,aB,dM (x:=r.dims[v]?.getD 0+1) (by omega),bP (by omega)];simp only[Bool.not_false,aG];have e4:r.dims[v]?.getD 0+1=(((r.dims[v]?.getD 0).toNat +1:Nat):Int):=by omega
  rw[e4,fM,Int.tmod_eq_emod_of_nonneg (Int.natCast_nonneg _),Int.tdiv_eq_ediv_of_nonneg (Int.natCast_nonneg _)]
  have e5:(((c/cN (r.dims.drop (v+1)):Nat):Int)/(((r.dims[v]?.getD 0).toNat +1:Nat):Int))=((c/cN (r.dims.drop v):Nat):Int):=by
   rw[e3,cN,Nat.mul_comm,←Nat.div_div_eq_div_mul];rfl
  have hq2:c/cN (r.dims.drop v)<=c:=Nat.div_le_self _ _;rw[e5,dM ⟨Int.le_trans (by decide) (Int.natCast_nonneg _),Int.le_trans (Int.ofNat_le.2 (Nat.le_trans hq2 hc243)) (by decide)⟩,dM (by omega)];congr 3
  .rw[e3,KP,List.replicate_succ',List.append_assoc,List.set_append_right _ _ (by simp)];rw[List.length_replicate,Nat.sub_self];rfl
  .congr 1;omega
 .unfold wR;simp only;rw[bP (by omega),aN,Nat.sub_self,List.drop_zero];rfl
def aCo(r:Rp):List aI×Bool:=bif cK r then(iI r,true)else([],false)
theorem Ns{r:Rp}(hr:bR r):sO r=some (aCo r):=by
 unfold sO aCo;rw[TJ hr,aB];cases hS:cK r with
 |false=>rfl
 |true=>
  have S:=iL hS;have h5:=S.R.n5;have h243:=RQ S 0;rw[List.drop_zero]at h243;simp only[dR,aN,aG]
  have hpre:∀k,k<=r.dims.length->cN (r.dims.take k)<=243:=by
   intro k hk;have h:=aCm (b:=2) (ms:=r.dims.take k) λm hm=>by have:=S.mem m (List.mem_of_mem_take hm);omega
   exact Nat.le_trans h (Nat.le_trans (Nat.pow_le_pow_right (by omega) (show(r.dims.take k).length <=5 by rw[List.length_take];omega)) (by decide))
  have hsnoc:∀(l:aA)(m:Int),cN (l++[m])=cN l*(m.toNat+1):=by
   intro l m;induction l with
   |nil=>simp[cN]
   |cons x l ih=>simp only[List.cons_append,cN];rw[ih,Nat.mul_assoc]
  rw[cO (r:=(cN r.dims:Int)) (λk=>((cN (r.dims.take k):Int),(k:Int))) r.dims.length (by simp[cN]) (λk hk=>?_) (λ_=>?_),aB]
  .rw[cO (r:=iI r) (λk=>(((List.range k).map (KP r.dims)).flatMap (HF r),(k:Int))) (cN r.dims) (by simp) (λk hk=>?_) (λ_=>?_),aB]
   .have hlen:(((List.range k).map (KP r.dims)).flatMap (HF r)).length <=1024*k:=by
     have:∀l:aV,(l.flatMap (HF r)).length <=1024*l.length:=by
      intro l;induction l with
      |nil=>simp
      |cons x l ih=>rw[List.flatMap_cons,List.length_append,List.length_cons,Nat.mul_succ];have:=Ff S x;omega
     have:=this ((List.range k).map (KP r.dims))
     rwa [dT,List.length_range]at this
    have hsm:=Ff S (KP r.dims k);unfold Bp;simp only;rw[jW hk,aG,aR (by omega),aR (by omega)];simp only[Bool.and_self,aG];rw[aCn S hk,aB,WU hr,aB];unfold aCl;rw[hS,aR (WV _ _)];simp only[Bool.and_self,aG];rw[aR (by omega),aG,bW hk (by omega),List.range_succ,List.map_append,List.flatMap_append];simp
   .unfold Bp;simp only;rw[mG (bD _),aN,Nr];rfl
  .have h1:=hpre k (by omega);have h2:=hpre (k+1) (by omega);have hm:=S.mem _ (cE 0 hk);have e:cN (r.dims.take (k+1))=cN (r.dims.take k)*((r.dims[k]?.getD 0).toNat +1):=by rw[wX hk,hsnoc,dL hk,dI]
   unfold Bo;simp only;rw[jW hk,aG,kM 0 hk,aB,dM (x:=r.dims[k]?.getD 0+1) (by omega),show r.dims[k]?.getD 0+1=(((r.dims[k]?.getD 0).toNat +1:Nat):Int) by omega,Tl (by omega),←e,bW hk (by omega)]
  .unfold Bo;simp only;rw[mG (bD _),aN,List.take_length]
structure Part(r:Rp)(s:aI):Prop where
 len:s.length=r.dims.length
 b:∀x∈s,bS x
 sub:rH r s=true
 dim:∀v,v<r.dims.length->0<=(bG s)[v]?.getD 0/\(bG s)[v]?.getD 0<=r.dims[v]?.getD 0
theorem ZL{r:Rp}(S:Sm r){d:aA}{s:aI}(h:s∈HF r d):Part r s:=by
 obtain⟨h1,h2⟩:=List.mem_filter.1 h;obtain⟨p1,p2,p3⟩:=PZ S h1;obtain⟨R,e1,e2⟩:=eG h2;refine⟨p1,p2,h2,λv hv=>?_⟩;have:=(e2 v hv).len
 have h3:(bG s)[v]?.getD 0=((sG s v).basis.length:Int):=by
  unfold bG sG;rw[List.getElem?_map];have:v<s.length:=by omega
  simp[this]
 rw[h3,(R.d v hv).1];omega
theorem Dh{r:Rp}(S:Sm r){s:aI}(h:s∈iI r):Part r s:=by
 obtain⟨d,_,hd⟩:=List.mem_flatMap.1 h;exact ZL S hd
theorem Ju{r:Rp}(S:Sm r):(iI r).length <=300000:=by
 have h:=OY S
 have:∀l:aV,(l.flatMap (HF r)).length <=1024*l.length:=by
  intro l;induction l with
  |nil=>simp
  |cons x l ih=>rw[List.flatMap_cons,List.length_append,List.length_cons,Nat.mul_succ];have:=Ff S x;omega
 have:=this (dG r.dims);unfold iI;omega
def zB(t d:aA):Bool:=decide (t.length=d.length)&&(decide (t.length<=100)&&((t.all λx=>pL x (-20) 20)&&d.all λx=>pL x 0 100))
structure Th(t d:aA):Prop where
 l:t.length=d.length
 l100:t.length<=100
 t:∀k,k<t.length-> -20<=t[k]?.getD 0/\t[k]?.getD 0<=20
 d:∀x∈d,0<=x/\x<=100
theorem zZ{t d:aA}(h:zB t d=true):Th t d:=by
 unfold zB at h;simp only[bX,eD,List.all_eq_true]at h;obtain⟨h1,h2,h3,h4⟩:=h;exact⟨h1,h2,λk hk=>jY (h3 _ (cE 0 hk)),λx hx=>jY (h4 x hx)⟩
theorem Di{t d:aA}(ht:bI t)(hd:bI d):kF t d=some (zB t d):=by
 unfold kF zB;by_cases h1:t.length=d.length
 .rw[aR (by omega),aR h1,aG,Bool.true_and];by_cases h2:t.length<=100
  .rw[aR (by omega),aR h2,aG,Bool.true_and,xK ht,aB];refine iA λ_=>?_;rw[xK hd,aB]
  .rw[bP (by omega),bP h2];rfl
 .rw[bP (by omega),bP h1];rfl
theorem pY{t d:aA}(ht:bI t)(hd:bI d):jF t d=some (zB t d):=by
 unfold bI at ht hd;unfold jF;rw[Ag (λk=>pL (t[k]?.getD 0) (-20) 20&&(!decide (k<d.length)||pL (d[k]?.getD 0) 0 100)) false (n:=t.length) (by omega) (λk hk=>?_) (λ_=>?_),aB]
 .unfold zB;by_cases h1:t.length=d.length
  .rw[aR h1,aR (by omega),Bool.true_and]
   have e:(List.range t.length).all (λk=>pL (t[k]?.getD 0) (-20) 20&&(!decide (k<d.length)||pL (d[k]?.getD 0) 0 100))=((t.all λx=>pL x (-20) 20)&&d.all λx=>pL x 0 100):=by
    rw[←vB 0 t (λx=>pL x (-20) 20),←vB 0 d (λx=>pL x 0 100),←h1,←WX];refine VS λk hk=>?_;rw[aR hk];rfl
   rw[e];cases ((t.all λx=>pL x (-20) 20)&&d.all λx=>pL x 0 100)with
   |false=>simp
   |true=>
    simp only[aG,Sum.elim_inl,Bool.and_true];congr 1;exact decide_eq_decide.2 (by omega)
  .rw[bP h1,bP (by omega)];cases (List.range t.length).all _<;>rfl
 .unfold Br;rw[jW hk,aG,kM 0 hk,aB,Ai,aB];cases pL (t[k]?.getD 0) (-20) 20 with
  |false=>rfl
  |true=>
   simp only[dR,aN,Bool.true_and];by_cases hk2:k<d.length
   .rw[jW hk2,aR hk2,aG,kM 0 hk2,aB,Ai,aB];cases pL (d[k]?.getD 0) 0 100<;>rfl
   .rw[mG (by omega),bP hk2];rfl
 .unfold Br;rw[mG (bD _),aN]
def Kj(t d:aA):Nat->Int
 |0=>0
 |k+1=>Kj t d k+t[k]?.getD 0*d[k]?.getD 0
theorem YC{a b:Int}(ha: -20<=a/\a<=20)(hb:0<=b/\b<=100): -2000<=a*b/\a*b<=2000:=by
 have h1:=Int.mul_le_mul_of_nonneg_right ha.2 hb.1;have h2:=Int.mul_le_mul_of_nonneg_right ha.1 hb.1;omega
theorem LY{t d:aA}(T:Th t d):∀k,k<=t.length-> -2000*k<=Kj t d k/\Kj t d k<=2000*k
 |0,_=>by simp[Kj]
 |k+1,hk=>by
  have ih:=LY T k (by omega);have h1:=T.t k (by omega);have h2:=T.d _ (cE 0 (show k<d.length by have:=T.l;omega));have:=YC h1 h2;simp only[Kj];omega
theorem Nt{t d:aA}(T:Th t d):sJ t d=some (Kj t d t.length):=by
 have h100:=T.l100;unfold sJ;rw[cO (r:=Kj t d t.length) (λk=>(Kj t d k,(k:Int))) t.length (by rfl) (λk hk=>?_) (λ_=>?_),aB]
 .have h1:=T.t k hk;have h2:=T.d _ (cE 0 (show k<d.length by have:=T.l;omega));have h3:=YC h1 h2;have h4:=LY T k (by omega);unfold Bm;simp only;rw[jW hk,aG,kM 0 hk,aB,kM 0 (show k<d.length by have:=T.l;omega),aB,dM (x:=t[k]?.getD 0*d[k]?.getD 0) (by omega),dM (by omega),bW hk (by omega)];rfl
 .unfold Bm;simp only;rw[mG (bD _),aN]
theorem Nv{t d:aA}(ht:bI t)(hd:bI d)(h:zB t d=true):mY t d=some (Kj t d t.length):=by
 have T:=zZ h;have h100:=T.l100;unfold mY;rw[cO (r:=Kj t d t.length) (λk=>(Kj t d k,(k:Int))) t.length (by rfl) (λk hk=>?_) (λ_=>?_),aB]
 .have h1:=T.t k hk;have h2:=T.d _ (cE 0 (show k<d.length by have:=T.l;omega));have h3:=YC h1 h2;have h4:=LY T k (by omega);unfold wS;simp only;rw[jW hk,aG,pY ht hd,aB,h,aG,kM 0 hk,aB,kM 0 (show k<d.length by have:=T.l;omega),aB,dM (x:=t[k]?.getD 0*d[k]?.getD 0) (by omega),dM (by omega),bW hk (by omega)];rfl
 .unfold wS;simp only;rw[mG (bD _),aN]
theorem oY{d:aA}(h:∀x∈d,0<=x/\x<=100)(hl:d.length<=1048576):cI d=some d.sum/\jJ d=some d.sum:=by
 have hs:=JJ h hl;constructor
 .unfold cI;rw[cO (r:=d.sum) (λk=>((d.take k).sum,(k:Int))) d.length (by simp) (λk hk=>?_) (λ_=>?_)];rfl
  .unfold uQ;simp only;have:=hs k (by omega);have:=hs (k+1) (by omega);rw[xM hk]at this;rw[jW hk,aG,kM 0 hk,aB,dM (by omega),bW hk (by omega),xM hk]
  .unfold uQ;simp only;rw[mG (bD _),aN,List.take_length]
 .unfold jJ;rw[cO (r:=d.sum) (λk=>((d.take k).sum,(k:Int))) d.length (by simp) (λk hk=>?_) (λ_=>?_)];rfl
  .unfold Cp;simp only;have:=hs k (by omega);have:=hs (k+1) (by omega);rw[xM hk]at this;rw[jW hk,aG,kM 0 hk,aB,dM (by omega),bW hk (by omega),xM hk]
  .unfold Cp;simp only;rw[mG (bD _),aN,List.take_length]
def sgn(x:Int):Int:=if x<0 then -1 else if 0<x then 1 else 0
def Nw(t a b:aA):Int:=sgn (Kj t a t.length*b.sum-Kj t b t.length*a.sum)
theorem Pa{x y:Int}(hx: -200000<=x/\x<=200000)(hy:0<=y/\y<=10000): -2000000000<=x*y/\x*y<=2000000000:=by
 have h1:=Int.mul_le_mul_of_nonneg_right hx.2 hy.1;have h2:=Int.mul_le_mul_of_nonneg_right hx.1 hy.1;omega
theorem Th.sum{t d:aA}(T:Th t d):0<=d.sum/\d.sum<=10000:=by
 have:=JJ T.d (by have:=T.l;have:=T.l100;omega) d.length (bD _);have h1:=T.l;have h2:=T.l100;rw[List.take_length]at this;omega
theorem Jv{t a b:aA}(A:Th t a)(B:Th t b):iE t a b=some (Nw t a b):=by
 have ha:=A.sum;have hb:=B.sum;have h100:=A.l100;have hl1:=A.l;have hl2:=B.l;have h1:=LY A t.length (bD _);have h2:=LY B t.length (bD _);have h3:=Pa (x:=Kj t a t.length) (y:=b.sum) (by omega) hb;have h4:=Pa (x:=Kj t b t.length) (y:=a.sum) (by omega) ha;unfold iE;rw[Nt A,aB,(oY B.d (by omega)).1,aB,Nt B,aB,(oY A.d (by omega)).1,aB,dM (by omega),dM (by omega)];unfold kW uT Nw sgn;simp only[decide_true,dR,aB,aN];by_cases e1:Kj t a t.length*b.sum<Kj t b t.length*a.sum
 .rw[aR e1,aP (by omega)];rfl
 .rw[bP e1,aQ (by omega)];by_cases e2:Kj t b t.length*a.sum<Kj t a t.length*b.sum
  .rw[aR e2,aP (by omega)];rfl
  .rw[bP e2,aQ (by omega)];rfl
theorem Jw{t a b:aA}(ht:bI t)(ha':bI a)(hb':bI b)(hA:zB t a=true)(hB:zB t b=true):eJ t a b=some (if a.sum=0 then 0 else if b.sum=0 then 0 else Nw t a b):=by
 have A:=zZ hA;have B:=zZ hB;have ha:=A.sum;have hb:=B.sum;have h100:=A.l100;have hl1:=A.l;have hl2:=B.l;have h1:=LY A t.length (bD _);have h2:=LY B t.length (bD _);have h3:=Pa (x:=Kj t a t.length) (y:=b.sum) (by omega) hb;have h4:=Pa (x:=Kj t b t.length) (y:=a.sum) (by omega) ha;unfold eJ;rw[pY ht ha',aB,hA];simp only[dR,aN];rw[pY ht hb',aB,hB];simp only[dR,aN];rw[(oY A.d (by omega)).2,aB];by_cases e1:a.sum=0
 .rw[aR e1,aP e1];rfl
 .rw[bP e1,aQ e1,aN,(oY B.d (by omega)).2,aB];by_cases e2:b.sum=0
  .rw[aR e2,aP e2];rfl
  .rw[bP e2,aQ e2,aN,Nv ht ha' hA,aB,aB,Nv ht hb' hB,aB,aB,dM (x:=Kj t a t.length*b.sum) (by omega),dM (x:=Kj t b t.length*a.sum) (by omega),dM (by omega)];unfold Nw sgn;by_cases e3:Kj t a t.length*b.sum-Kj t b t.length*a.sum<0
   .rw[aR e3,aP e3];rfl
   .rw[bP e3,aQ e3];by_cases e4:0<Kj t a t.length*b.sum-Kj t b t.length*a.sum
    .rw[aR e4,aP e4];rfl
    .rw[bP e4,aQ e4];rfl
theorem rB(s:aI):(bG s).length=s.length:=by simp[bG]
theorem Part.th{r:Rp}{s:aI}(p:Part r s){t:aA}(h:zB t r.dims=true):zB t (bG s)=true:=by
 have T:=zZ h;unfold zB at h ⊢;simp only[bX,eD,List.all_eq_true]at h ⊢;refine⟨by rw[rB,p.len];exact h.1,h.2.1,h.2.2.1,λx hx=>?_⟩;obtain⟨v,hv,rfl⟩:=List.mem_iff_getElem.1 hx;have hv2:v<r.dims.length:=by rw[rB,p.len]at hv;exact hv
 have h1:=p.dim v hv2;have h2:=T.d _ (cE 0 hv2);rw[dL hv,dI]at h1;exact Dl h1.1 (by omega)
theorem aCp:∀{a b:aA},a.length=b.length->(∀v,v<b.length->a[v]?.getD 0<=b[v]?.getD 0)->a.sum<=b.sum/\(a.sum=b.sum->a=b)
 | [],[],_,_=>by simp
 | [],y::b,h,_=>by simp at h
 |x::a,[],h,_=>by simp at h
 |x::a,y::b,hl,h=>by
  have h0:=h 0 (by simp);obtain⟨h1,h2⟩:=aCp (a:=a) (b:=b) (by simpa using hl) (λv hv=>by have:=h (v+1) (by simpa using hv);simpa using this);simp only[List.getElem?_cons_zero,dI]at h0;simp only[List.sum_cons];refine⟨by omega,λe=>?_⟩;have e1:x=y:=by omega
  have e2:a.sum=b.sum:=by omega
  rw[e1,h2 e2]
theorem Part.sum{r:Rp}{s:aI}(p:Part r s):(bG s).sum <=r.dims.sum/\((bG s).sum=r.dims.sum->bG s=r.dims):=
 aCp (by rw[rB,p.len]) λv hv=>(p.dim v hv).2
theorem OZ{l:List aI}{f:aI->Option Bool}(P:aI->Bool)(hf:∀x∈l,f x=some (P x))(h:l.length<=1048576):cW l f=some (l.any P):=by
 unfold cW gG;rcases TM (n:=l.length) (λk=> !P (l[k]?.getD []))with hall|⟨k0,hk0,hbad,hgood⟩
 .have e:l.any P=false:=by
   rw[List.any_eq_false];intro x hx;obtain⟨k,hk,rfl⟩:=List.mem_iff_getElem.1 hx;have:=hall k hk;rw[dL hk,dI]at this;cases hp:P l[k]with
   |false=>simp
   |true=>rw[hp]at this;cases this
  rw[cO (r:=.inl ()) (λj=>(j:Int)) l.length (by rfl) (λj hj=>?_) (λ_=>?_),e];rfl
  .unfold cV;have hp:=hall j hj;rw[jW hj,aG,kM [] hj,aB,hf _ (cE [] hj),aB];cases hq:P (l[j]?.getD [])with
   |true=>rw[hq]at hp;cases hp
   |false=>rw[aN,bW hj (by omega)]
  .unfold cV;rw[mG (bD _),aN]
 .have hp0:P (l[k0]?.getD [])=true:=by
   cases hq:P (l[k0]?.getD [])with
   |true=>rfl
   |false=>rw[hq]at hbad;cases hbad
  have e:l.any P=true:=List.any_eq_true.2 ⟨_,cE [] hk0,hp0⟩;rw[cO (r:=.inr (k0:Int)) (λj=>(j:Int)) k0 (by rfl) (λj hj=>?_) (λ_=>?_),e]
  .simp only[aB,Sum.elim_inr];rw[aR (by omega)]
  .unfold cV;have hp:=hgood j hj;have hjl:j<l.length:=by omega
   rw[jW hjl,aG,kM [] hjl,aB,hf _ (cE [] hjl),aB];cases hq:P (l[j]?.getD [])with
   |true=>rw[hq]at hp;cases hp
   |false=>rw[aN,bW hjl (by omega)]
  .unfold cV;rw[jW hk0,aG,kM [] hk0,aB,hf _ (cE [] hk0),aB,hp0];rfl
theorem LZ{r:Rp}(hr:bR r){t:aA}(ht:bI t):pX r t=some (cK r&&(decide (0<r.dims.sum)&&zB t r.dims)):=by
 unfold pX;rw[TI hr,aB];refine iA λhS=>?_;have S:=iL hS;rw[(oY (λx hx=>by have:=S.mem x hx;omega) (by have:=S.R.n5;omega)).1,aB];refine iA λh0=>?_;rw[Di ht (by unfold bI;have:=S.R.n5;omega),aB]
theorem lK{r:Rp}(h:cK r=true):xN r=true:=by
 unfold cK at h;simp only[bX]at h;exact h.1
def Ru(r:Rp)(t:aA)(s:aI):Bool:=decide (0<(bG s).sum)&&decide (0<Nw t (bG s) r.dims)
def Mp(r:Rp)(t:aA):Bool:=(cK r&&(decide (0<r.dims.sum)&&zB t r.dims))&& !(iI r).any (Ru r t)
theorem Nx{r:Rp}(hr:bR r){t:aA}(ht:bI t):lH r t=some (Mp r t):=by
 unfold lH Mp;rw[LZ hr ht,aB];refine iA λhA=>?_;simp only[bX]at hA;obtain⟨hS,h0,hT⟩:=hA;have S:=iL hS;have T:=zZ hT;rw[Jt hr S,aB,OZ (Ru r t) (λs hs=>?_) (by have:=Ju S;omega),aB];have p:=Dh S hs;have h5:=S.R.n5;have hl:=p.len;have TA:=zZ (p.th hT);unfold pG Ru;rw[BN (by omega),aB,(oY TA.d (by rw[rB];omega)).1,aB];refine iA λ_=>?_;rw[aB,Jv TA T,aB]
theorem aAe{r:Rp}(hr:bR r){t:aA}(ht:bI t):rM r t=some (Mp r t):=by
 unfold rM Mp;rw[Ns hr,aB];unfold aCo;cases hS:cK r with
 |false=>rfl
 |true=>
  have S:=iL hS;have h5:=S.R.n5;have hbd:bI r.dims:=by unfold bI;omega
  simp only[aG,dR,aN,Bool.true_and];rw[pY ht hbd,aB];cases hT:zB t r.dims with
  |false=>simp
  |true=>
   have T:=zZ hT;simp only[dR,aN,Bool.and_true];rw[vH hr,aB,lK hS,aG];have hsum:=T.sum;by_cases h0:r.dims.sum=0
   .rw[aR h0,bP (by omega)];rfl
   .rw[bP h0,aR (by omega),aN,Bool.true_and];have hal:=Ju S;rw[Ag (λk=> !Ru r t ((iI r)[k]?.getD [])) false (n:=(iI r).length) (by omega) (λk hk=>?_) (λ_=>?_),aB]
    .have e:=vB [] (iI r) (λs=> !Ru r t s);rw[e,←List.not_any_eq_all_not];cases (iI r).any (Ru r t)<;>rfl
    .have p:=Dh S (cE [] hk);have hl:=p.len;have TA:=zZ (p.th hT);unfold uD;simp only;rw[jW hk,aG,kM [] hk,aB,CC hr ⟨by omega,p.b⟩ p.sub,aB,Jw ht (by unfold bI;rw[rB];omega) hbd (p.th hT) hT,aB];have hsA:=TA.sum;unfold Ru;by_cases h1:(bG ((iI r)[k]?.getD [])).sum=0
     .rw[aP h1,bP (show ¬ 0<(bG ((iI r)[k]?.getD [])).sum by omega)];rfl
     .rw[aQ h1,aQ h0,aR (show 0<(bG ((iI r)[k]?.getD [])).sum by omega),Bool.true_and];cases decide (0<Nw t (bG ((iI r)[k]?.getD [])) r.dims)<;>rfl
    .unfold uD;simp only;rw[mG (bD _),aN]
def WY(r:Rp)(t:aA)(s:aI):Bool:=pL (bG s).sum 1 (r.dims.sum-1)&&decide (0<=Nw t (bG s) r.dims)
def Ny(r:Rp)(t:aA):Bool:=(cK r&&(decide (0<r.dims.sum)&&zB t r.dims))&& !(iI r).any (WY r t)
theorem aAf{r:Rp}(hr:bR r){t:aA}(ht:bI t):AW r t=some (Ny r t):=by
 unfold AW Ny;rw[LZ hr ht,aB];refine iA λhA=>?_;simp only[bX]at hA;obtain⟨hS,h0,hT⟩:=hA;have S:=iL hS;have T:=zZ hT;have hsum:=T.sum;rw[Jt hr S,aB,OZ (WY r t) (λs hs=>?_) (by have:=Ju S;omega),aB];have p:=Dh S hs;have h5:=S.R.n5;have hl:=p.len;have TA:=zZ (p.th hT);unfold wQ WY;rw[BN (by omega),aB,(oY TA.d (by rw[rB];omega)).1,aB,(oY T.d (by omega)).1,aB,Bd,aB,dM (x:=r.dims.sum-1) (by omega)];refine iA λ_=>?_;rw[aB,Jv TA T,aB]
theorem aAg{r:Rp}(hr:bR r){t:aA}(ht:bI t):AX r t=some (Ny r t):=by
 unfold AX Ny;rw[Ns hr,aB];unfold aCo;cases hS:cK r with
 |false=>rfl
 |true=>
  have S:=iL hS;have h5:=S.R.n5;have hbd:bI r.dims:=by unfold bI;omega
  simp only[aG,dR,aN,Bool.true_and];rw[pY ht hbd,aB];cases hT:zB t r.dims with
  |false=>simp
  |true=>
   have T:=zZ hT;simp only[dR,aN,Bool.and_true];rw[vH hr,aB,lK hS,aG];have hsum:=T.sum;by_cases h0:r.dims.sum=0
   .rw[aR h0,bP (by omega)];rfl
   .rw[bP h0,aR (by omega),aN,Bool.true_and];have hal:=Ju S;rw[Ag (λk=> !WY r t ((iI r)[k]?.getD [])) false (n:=(iI r).length) (by omega) (λk hk=>?_) (λ_=>?_),aB]
    .have e:=vB [] (iI r) (λs=> !WY r t s);rw[e,←List.not_any_eq_all_not];cases (iI r).any (WY r t)<;>rfl
    .have p:=Dh S (cE [] hk);have hl:=p.len;have TA:=zZ (p.th hT);have hbA:bI (bG ((iI r)[k]?.getD [])):=by unfold bI;rw[rB];omega
     unfold Ar;simp only;rw[jW hk,aG,kM [] hk,aB,CC hr ⟨by omega,p.b⟩ p.sub,aB,(oY TA.d hbA).2,aB,aCL hbA,aB,Jw ht hbA hbd (p.th hT) hT,aB];have hsA:=TA.sum;obtain⟨q1,q2⟩:=p.sum;unfold WY;by_cases h1:(bG ((iI r)[k]?.getD [])).sum=0
     .rw[bP (show ¬ 0<(bG ((iI r)[k]?.getD [])).sum by omega),aN];have:pL (bG ((iI r)[k]?.getD [])).sum 1 (r.dims.sum-1)=false:=by unfold pL;exact bP (by omega)
      rw[this];rfl
     .rw[aR (show 0<(bG ((iI r)[k]?.getD [])).sum by omega),aG,aQ h1,aQ h0];by_cases h2:bG ((iI r)[k]?.getD [])=r.dims
      .have:pL (bG ((iI r)[k]?.getD [])).sum 1 (r.dims.sum-1)=false:=by unfold pL;rw[h2];exact bP (by omega)
       rw[aR h2,this];rfl
      .have:pL (bG ((iI r)[k]?.getD [])).sum 1 (r.dims.sum-1)=true:=Dl (by omega) (by
        rcases Int.lt_or_eq_of_le q1 with h|h
        .omega
        .exact absurd (q2 h) h2)
       rw[bP h2,this,Bool.true_and];cases decide (0<=Nw t (bG ((iI r)[k]?.getD [])) r.dims)<;>rfl
    .unfold Ar;simp only;rw[mG (bD _),aN]
def idR:Nat->aV
 |1=>[[1]]
 |2=>[[1,0],[0,1]]
 |_=>[]
theorem aHo{p n:Nat}(hp:p=2∨p=3)(hn:n<=2):(⟨n,idR n⟩:Sc)∈Rt p n (n:Int):=by
 have h:n=0∨n=1∨n=2:=by omega
 rcases hp with rfl|rfl<;>rcases h with rfl|rfl|rfl<;>decide
theorem WZ{p:Int}(hp:lL p=true){n:Nat}(hn:n<=2){a:aV}(ha:VecsP p n a)(hb:VecsP p n (idR n))(hs:dW p n (idR n)=idR n):Ux p n a (idR n)=true:=by
 unfold Ux;refine aR ((uI hp ha hb hs).2 λx hx=>?_)
 have hz:∀i,i<n->Z0 p (x i):=by
  have h:n=0∨n=1∨n=2:=by omega
  rcases h with rfl|rfl|rfl
  .intro i hi;omega
  .intro i hi;have:=hx 0 (by decide);have e:i=0:=by omega
   subst e;simpa [dt,sN,bN,idR]using this
  .intro i hi;have h0:=hx 0 (by decide);have h1:=hx 1 (by decide);have e:i=0∨i=1:=by omega
   rcases e with rfl|rfl
   .simpa [dt,sN,bN,idR]using h0
   .simpa [dt,sN,bN,idR]using h1
 intro k hk;exact RB λi hi=>Dm _ (hz i hi)
def HG(r:Rp):aI:=(List.range r.dims.length).map λv=>(⟨(dN r v:Nat),idR (dN r v)⟩:Sc)
theorem Wa{r:Rp}{v:Nat}(hv:v<r.dims.length):sG (HG r) v=⟨(dN r v:Nat),idR (dN r v)⟩:=by simp[sG,HG,hv]
theorem Pb{α:Type}:∀{cs:List (List α)}{s:List α}(d:α),s.length=cs.length->(∀v,v<cs.length->s[v]?.getD d∈cs[v]?.getD [])->s∈lU cs
 | [],[],_,_,_=>by simp[lU]
 | [],y::s,_,h,_=>by simp at h
 |c::cs,[],_,h,_=>by simp at h
 |c::cs,y::s,d,hl,h=>by
  have h0:=h 0 (by simp);have h1:=Pb (cs:=cs) (s:=s) d (by simpa using hl) (λv hv=>by have:=h (v+1) (by simpa using hv);simpa using this);simp only[List.getElem?_cons_zero,dI]at h0;simp only[lU,List.mem_flatMap,List.mem_map];exact⟨y,h0,s,h1,rfl⟩
theorem ZM:∀{ms:aA},(∀x∈ms,0<=x)->ms∈dG ms
 | [],_=>by simp[dG]
 |m::ms,h=>by
  simp only[dG,List.mem_flatMap,List.mem_map];exact⟨m.toNat,List.mem_range.2 (by omega),ms,ZM λx hx=>h x (by simp[hx]),by rw[Int.toNat_of_nonneg (h m (by simp))]⟩
theorem ZN{r:Rp}(hS:cK r=true):HG r∈iI r:=by
 have S:=iL hS;have hR:=lK hS;have R:=S.R;have hl:(HG r).length=r.dims.length:=by simp[HG]
 have hm:HG r∈lU (Ew r r.dims):=by
  refine Pb ⟨0,[]⟩ (by rw[hl,rA]) λv hv=>?_;rw[rA]at hv;rw[RO hv,(R.d v hv).1,show(HG r)[v]?.getD ⟨0,[]⟩=_ from Wa hv];exact aHo (RP S) (S.d v hv)
 obtain⟨_,_,p3⟩:=PZ S hm
 have sv:∀v,v<r.dims.length->SpV r (HG r) v:=λv hv=>by
  obtain⟨g1,g2,g3⟩:=p3 v hv;obtain⟨_,n,e,_,h3,h4,h5⟩:=Ec g2;have e:dN r v=n:=by omega
  subst e;exact⟨g3,g2,h3,h4,h5⟩
 have hsub:rH r (HG r)=true:=by
  unfold rH;simp only[bX,List.all_eq_true,eD];refine⟨hR,by rw[hl],λv hv=>?_,λi hi=>?_⟩
  .have hv:v<r.dims.length:=by rw[←hl];exact List.mem_range.1 hv
   obtain⟨g1,g2,g3⟩:=p3 v hv;unfold spB;rw[g3,g2,(R.d v hv).1];simp
  .have hi:i<r.q.src.length:=by rw[←R.ml];exact List.mem_range.1 hi
   have hs:=(R.s i hi).2;have ht:=(R.t i hi).2;have S1:=sv _ hs;have S2:=sv _ ht;have hv1:=rU R.hp (Ab R.hp (dN r (tV r i)) (dN r (sV r i)) (aF r i) (sG (HG r) (sV r i)).basis).inP;have h4:=S2.vecs;have h5:=S2.span;unfold imB;rw[Wa ht]at h4 h5 ⊢;exact WZ R.hp (S.d _ ht) hv1 h4 h5
 unfold iI;exact List.mem_flatMap.2 ⟨r.dims,ZM λx hx=>(S.mem x hx).1,List.mem_filter.2 ⟨hm,hsub⟩⟩
theorem aEr{n:Nat}(hn:n<=2):(idR n).length=n:=by
 have h:n=0∨n=1∨n=2:=by omega
 rcases h with rfl|rfl|rfl<;>rfl
theorem Nz{r:Rp}(S:Sm r):bG (HG r)=r.dims:=by
 refine List.ext_getElem (by simp[bG,HG]) λi h1 h2=>?_;have:=(S.R.d i h2).1;rw[dL h2,dI]at this;simp only[bG,HG,List.getElem_map,List.getElem_range];rw[aEr (S.d i h2),this]
def dA(r:Rp)(k:Nat):aA:=bG ((iI r)[k]?.getD [])
def bet(r:Rp)(t:aA)(k b:Nat):Bool:=decide (0<Nw t (dA r k) (dA r b))||(decide (Nw t (dA r k) (dA r b)=0)&&decide ((dA r b).sum <(dA r k).sum))
def Mq(r:Rp)(t:aA):Nat->Int
 |0=> -1
 |k+1=>if(dA r k).sum=0 then Mq r t k else if Mq r t k<0 then k else if bet r t k (Mq r t k).toNat=true then k else Mq r t k
theorem UY(r:Rp)(t:aA)(k:Nat):Mq r t (k+1)=if(dA r k).sum=0 then Mq r t k else if Mq r t k<0 then(k:Int)else if bet r t k (Mq r t k).toNat=true then(k:Int)else Mq r t k:=rfl
theorem Ho(r:Rp)(t:aA):∀k,(Mq r t k= -1/\∀j,j<k->(dA r j).sum=0)∨∃b:Nat,Mq r t k=b/\b<k/\(dA r b).sum ≠0
 |0=>.inl ⟨rfl,λj hj=>by omega⟩
 |k+1=>by
  have ih:=Ho r t k;unfold Mq;by_cases h1:(dA r k).sum=0
  .rw[aP h1];rcases ih with ⟨e,h⟩|⟨b,e,h,h2⟩
   .refine .inl ⟨e,λj hj=>?_⟩;rcases dX j k with h'|h'
    .exact h j h'
    .rw[show j=k by omega];exact h1
   .exact .inr ⟨b,e,by omega,h2⟩
  .rw[aQ h1];by_cases h3:Mq r t k<0
   .rw[aP h3];exact .inr ⟨k,rfl,by omega,h1⟩
   .rw[aQ h3];by_cases h4:bet r t k (Mq r t k).toNat=true
    .rw[aP h4];exact .inr ⟨k,rfl,by omega,h1⟩
    .rw[aQ h4];rcases ih with ⟨e,h⟩|⟨b,e,h,h2⟩
     .omega
     .exact .inr ⟨b,e,by omega,h2⟩
theorem aIX(x y:Int):Ek [x,y]=some (if x=0 then y else x):=by
 have b0:pU [x,y] 0=if x=0 then some (.inl 1)else some (.inr (.inr x)):=by
  unfold pU;rw[show decide ((0:Int)<(([x,y]:aA).length:Int))=true from rfl,aG,show cF [x,y] 0=some x from rfl,aB];by_cases h:x=0
  .rw[aP h,aR h];rfl
  .rw[aQ h,bP h];rfl
 have b1:pU [x,y] 1=if y=0 then some (.inl 2)else some (.inr (.inr y)):=by
  unfold pU;rw[show decide ((1:Int)<(([x,y]:aA).length:Int))=true from rfl,aG,show cF [x,y] 1=some y from rfl,aB];by_cases h:y=0
  .rw[aP h,aR h];rfl
  .rw[aQ h,bP h];rfl
 have b2:pU [x,y] 2=some (.inr (.inl ())):=rfl;unfold Ek;by_cases hx:x=0
 .rw[aP hx]at b0 ⊢;rw[AH b0];by_cases hy:y=0
  .rw[aP hy]at b1;rw[AH b1,nA b2,hy];rfl
  .rw[aQ hy]at b1;rw[nA b1];rfl
 .rw[aQ hx]at b0 ⊢;rw[nA b0];rfl
theorem aGd(a b:Int):kW a b=some (if a<b then -1 else if b<a then 1 else 0):=by
 unfold kW uT;simp only[decide_true,dR,aB,aN];by_cases e1:a<b
 .rw[aR e1,aP e1];rfl
 .rw[bP e1,aQ e1];by_cases e2:b<a
  .rw[aR e2,aP e2];rfl
  .rw[bP e2,aQ e2];rfl
theorem Mr{r:Rp}{t:aA}(hS:cK r=true)(hT:zB t r.dims=true){k:Nat}(hk:k<(iI r).length):Part r ((iI r)[k]?.getD [])/\zB t (dA r k)=true/\Th t (dA r k)/\(dA r k).length <=5/\((iI r)[k]?.getD []).length <=5:=by
 have S:=iL hS;have p:=Dh S (cE [] hk);have h5:=S.R.n5;have hl:=p.len;exact⟨p,p.th hT,zZ (p.th hT),by unfold dA;rw[rB];omega,by omega⟩
theorem TO{r:Rp}{t:aA}(hS:cK r=true)(hT:zB t r.dims=true):Lp (qQ t (iI r)) (0,(-1))=some (Mq r t (iI r).length):=by
 have hal:=Ju (iL hS);rw[cO (r:=Mq r t (iI r).length) (λk=>((k:Int),Mq r t k)) (iI r).length (by rfl) (λk hk=>?_) (λ_=>?_)]
 .obtain⟨p,th,TA,l5,s5⟩:=Mr hS hT hk;unfold qQ;simp only;rw[jW hk,aG,kM [] hk,aB,aB,BN (by omega),aB,show bG ((iI r)[k]?.getD [])=dA r k from rfl,(oY TA.d (by omega)).1,aB,bW hk (by omega)];show _=some (Sum.inl (((k+1:Nat):Int),Mq r t (k+1)));rw[UY];by_cases h1:(dA r k).sum=0
  .rw[aR h1,aG,aP h1]
  .rw[bP h1,aN,aQ h1];rcases Ho r t k with ⟨e,_⟩|⟨b,e,hb,hs⟩
   .rw[e,aP (by decide)];rfl
   .have hbl:b<(iI r).length:=by omega
    obtain⟨pB,thB,TB,lB,sB⟩:=Mr hS hT hbl
    have hne:0<((iI r)[b]?.getD []).length:=by
     rcases Nat.eq_zero_or_pos ((iI r)[b]?.getD []).length with h|h
     .have e0:=List.eq_nil_of_length_eq_zero h;exact absurd (by unfold dA;rw[e0];rfl) hs
     .exact h
    have hnil:aAN (iI r) (b:Int)=some false:=by
     unfold aAN;rw[bP (by omega),aN,kM [] hbl,aB,aR hne];rfl
    rw[e,aQ (by omega),hnil,aB,aN,kM [] hbl,aB,BN (by omega),aB,show bG ((iI r)[b]?.getD [])=dA r b from rfl,Jv TA TB,aB,aB,(oY TB.d (by omega)).1,aB,aGd,aB,aIX,aB];rw[fM]
    have hd:decide (0<if Nw t (dA r k) (dA r b)=0 then(if(dA r k).sum <(dA r b).sum then(-1:Int)else if(dA r b).sum <(dA r k).sum then 1 else 0)else Nw t (dA r k) (dA r b))=bet r t k b:=by
     unfold bet;by_cases g1:Nw t (dA r k) (dA r b)=0
     .rw[aP g1,g1];by_cases g2:(dA r k).sum <(dA r b).sum
      .rw[aP g2,bP (show ¬ (dA r b).sum <(dA r k).sum by omega)];rfl
      .rw[aQ g2];by_cases g3:(dA r b).sum <(dA r k).sum
       .rw[aP g3,aR g3];rfl
       .rw[aQ g3,bP g3];rfl
     .rw[aQ g1,bP g1,Bool.false_and,Bool.or_false]
    rw[hd];cases hq:bet r t k b with
    |true=>rw[aP rfl];rfl
    |false=>rw[aQ (by simp)];rfl
 .unfold qQ;simp only;rw[mG (bD _),aN]
section
variable {r:Rp}{t:aA}(hr:bR r)(ht:bI t)(hS:cK r=true)(hT:zB t r.dims=true)
include hr ht hS hT
theorem aAh:Lp (qR r t (iI r,true)) (0,(-1))=some (Mq r t (iI r).length):=by
 have hal:=Ju (iL hS);rw[cO (r:=Mq r t (iI r).length) (λk=>((k:Int),Mq r t k)) (iI r).length (by rfl) (λk hk=>?_) (λ_=>?_)]
 .obtain⟨p,th,TA,l5,s5⟩:=Mr hS hT hk;unfold qR;simp only;rw[jW hk,aG,kM [] hk,aB,CC hr ⟨by omega,p.b⟩ p.sub,aB,show bG ((iI r)[k]?.getD [])=dA r k from rfl,(oY TA.d (by omega)).2,aB,bW hk (by omega)];show _=some (Sum.inl (((k+1:Nat):Int),Mq r t (k+1)));rw[UY];by_cases h1:(dA r k).sum=0
  .rw[aR h1,aG,aP h1]
  .rw[bP h1,aN,aQ h1];rcases Ho r t k with ⟨e,_⟩|⟨b,e,hb,hs⟩
   .rw[e,aP (by decide)];rfl
   .have hbl:b<(iI r).length:=by omega
    obtain⟨pB,thB,TB,lB,sB⟩:=Mr hS hT hbl;rw[e,aQ (by omega),bP (by omega),aN,kM [] hbl,aB,CC hr ⟨by omega,pB.b⟩ pB.sub,aB,show bG ((iI r)[b]?.getD [])=dA r b from rfl,Jw ht (by unfold bI;omega) (by unfold bI;omega) th thB,aQ h1,aQ hs,aB];rw[fM];unfold bet;by_cases g0:0<Nw t (dA r k) (dA r b)
    .rw[aR g0,aG,Bool.true_or,aP rfl]
    .rw[bP g0,aN,Bool.false_or];by_cases g1:Nw t (dA r k) (dA r b)=0
     .rw[aR g1,aG,Bool.true_and,aB,(oY TB.d (by omega)).2,aB];by_cases g3:(dA r b).sum <(dA r k).sum
      .rw[aR g3,aP rfl];rfl
      .rw[bP g3,aQ (by simp)];rfl
     .rw[bP g1,aN,Bool.false_and,aQ (by simp)]
 .unfold qR;simp only;rw[mG (bD _),aN]
end
theorem Ms{r:Rp}{t:aA}(hS:cK r=true)(h0:0<r.dims.sum):∃b:Nat,Mq r t (iI r).length=b/\b<(iI r).length:=by
 rcases Ho r t (iI r).length with ⟨_,h⟩|⟨b,e,hb,_⟩
 .obtain⟨k,hk,e⟩:=List.mem_iff_getElem.1 (ZN hS);have:=h k hk;unfold dA at this;rw[dL hk,dI,e,Nz (iL hS)]at this;omega
 .exact⟨b,e,hb⟩
def HH(r:Rp)(t:aA):aI×Bool:=bif cK r&&(decide (0<r.dims.sum)&&zB t r.dims)then((iI r)[(Mq r t (iI r).length).toNat]?.getD [],true)else([],false)
theorem aAi{r:Rp}(hr:bR r){t:aA}(ht:bI t):wT r t=some (HH r t):=by
 unfold wT HH;rw[LZ hr ht,aB];cases hA:cK r&&(decide (0<r.dims.sum)&&zB t r.dims)with
 |false=>rfl
 |true=>
  simp only[bX,eD]at hA;obtain⟨hS,h0,hT⟩:=hA;obtain⟨b,e,hb⟩:=Ms hS h0;simp only[dR,aN,aG];unfold kZ;rw[Jt hr (iL hS),aB,TO hS hT,aB,e];unfold aAM;rw[bP (by omega),aN,kM [] hb,aB,fM]
theorem Jx{r:Rp}(hr:bR r){t:aA}(ht:bI t):lD r t=some (HH r t):=by
 unfold lD HH;rw[Ns hr,aB];unfold aCo;cases hS:cK r with
 |false=>rfl
 |true=>
  have S:=iL hS;have h5:=S.R.n5;have hbd:bI r.dims:=by unfold bI;omega
  simp only[aG,dR,aN,Bool.true_and];rw[pY ht hbd,aB];cases hT:zB t r.dims with
  |false=>simp
  |true=>
   have T:=zZ hT;have hsum:=T.sum;simp only[dR,aN,Bool.and_true];rw[vH hr,aB,lK hS,aG];by_cases h0:r.dims.sum=0
   .rw[aR h0,bP (by omega)];rfl
   .obtain⟨b,e,hb⟩:=Ms hS (by omega);rw[bP h0,aR (by omega),aN,aG,aAh hr ht hS hT,aB,e,kM [] hb,aB,fM]
theorem aCr(r:Rp)(t:aA):(HH r t).1.length <=1048576/\∀x∈(HH r t).1,bS x:=by
 unfold HH;cases hA:cK r&&(decide (0<r.dims.sum)&&zB t r.dims)with
 |false=>simp
 |true=>
  simp only[bX,eD]at hA;have S:=iL hA.1;have h5:=S.R.n5;rw[aG];cases hk:(iI r)[(Mq r t (iI r).length).toNat]? with
  |none=>simp
  |some s=>
   have p:=Dh S (List.mem_of_getElem? hk);have:=p.len;exact⟨by simp only[dI];omega,p.b⟩
end
noncomputable section
def Hq(a0:aA)(a1:Int):Option Bool:=
 Option.bind (CX 100 (IE a0 a1) 0) λy4=>
 Sum.elim (λy5=>
  some (false)
 )
 (λy6=>
  some y6
 )
  y4
theorem Rw(a0:aA)(a1:Int):Le (Hq a0 a1) (Eh a0 a1):=by
 unfold Hq Eh
 repeat (with_reducible first|exact Le.rfl|refine Le.bind ?_ λ_=>?_|refine Le.lp λ_=>?_|refine Le.elim (λ_=>?_) λ_=>?_)
def EM(a0:Int):Option Mt:=
 Option.bind (kD a0 a0) λv1=>
 Option.bind (CX 100 (tI a0) (v1.cells,0)) λy4=>
 some ((⟨v1.rows,v1.cols,y4⟩:Mt))
theorem OA(a0:Int):Le (EM a0) (nI a0):=by
 unfold EM nI
 repeat (with_reducible first|exact Le.rfl|refine Le.bind ?_ λ_=>?_|refine Le.lp λ_=>?_)
def BD(a0:Int)(c0:aA)(s1 n1:Nat)(a2:Int)(a3:aA):Option aA:=
 Option.bind (CX 100 (pD a0 a2 a3 n1 s1) (c0,0)) λy8=>
 some y8
theorem KQ(a0:Int)(c0:aA)(s1 n1:Nat)(a2:Int)(a3:aA):Le (BD a0 c0 s1 n1 a2 a3) (eX a0 c0 s1 n1 a2 a3):=by
 unfold BD eX
 repeat (with_reducible first|exact Le.rfl|refine Le.bind ?_ λ_=>?_|refine Le.lp λ_=>?_)
def mF(a0:aA)(a1:(Int->Option Bool))(x1:Int):Option (Int ⊕ (Unit ⊕ Int)):=
 bif decide (x1<(a0.length:Int))then
  (Option.bind (cF a0 x1) λv2=>
  Option.bind (a1 v2) λv3=>
  bif v3 then
   (some (.inr (.inr (x1))))
  else
   (some (.inl (wr (x1+1)))))
 else
  (some (.inr (.inl ())))
theorem CS{a1 a1':(Int->Option Bool)}(ha1:∀z0,Le (a1 z0) (a1' z0))(a0:aA)(x1:Int):Le (mF a0 a1 x1) (cJ a0 a1' x1):=by
 unfold mF cJ
 repeat (with_reducible first|exact Le.rfl|exact ha1 _|refine Le.bind ?_ λ_=>?_|refine Le.cond ?_ ?_)
def nX(a0:aA)(a1:(Int->Option Bool)):Option Int:=
 Option.bind (CX 100 (mF a0 a1) 0) λy5=>
 Sum.elim (λy6=>
  some ((-1))
 )
 (λy7=>
  some y7
 )
  y5
theorem EN{a1 a1':(Int->Option Bool)}(ha1:∀z0,Le (a1 z0) (a1' z0))(a0:aA):Le (nX a0 a1) (dE a0 a1'):=by
 unfold nX dE
 repeat (with_reducible first|exact Le.rfl|exact ha1 _|refine CS (λ_=>?_) _ _|refine Le.bind ?_ λ_=>?_|refine Le.lp λ_=>?_|refine Le.elim (λ_=>?_) λ_=>?_)
def wC(a1:aV)(v1:Mt)(x1:(aA×Int)):Option ((aA×Int) ⊕ aA):=
 bif decide (x1.2<(a1.length:Int))then
  (Option.bind (cF a1 x1.2) λv3=>
  Option.bind (CX 100 (pE v1 v3 x1) (x1.1,0)) λy7=>
  some (.inl (y7,wr (x1.2+1))))
 else
  (some (.inr x1.1))
theorem Hr(a1:aV)(v1:Mt)(x1:(aA×Int)):Le (wC a1 v1 x1) (lS a1 v1 x1):=by
 unfold wC lS
 repeat (with_reducible first|exact Le.rfl|refine Le.bind ?_ λ_=>?_|refine Le.cond ?_ ?_|refine Le.lp λ_=>?_)
def BE(a0:Int)(a1:aV):Option Mt:=
 Option.bind (kD a0 (a1.length:Int)) λv1=>
 Option.bind (CX 100 (wC a1 v1) (v1.cells,0)) λy8=>
 some ((⟨v1.rows,v1.cols,y8⟩:Mt))
theorem KR(a0:Int)(a1:aV):Le (BE a0 a1) (fJ a0 a1):=by
 unfold BE fJ
 repeat (with_reducible first|exact Le.rfl|refine Hr _ _ _|refine Le.bind ?_ λ_=>?_|refine Le.lp λ_=>?_)
def CG(a0:aA):Option Int:=
 Option.bind (nX a0 (λb0=>mB b0)) λv1=>
 some (v1)
theorem IJ(a0:aA):Le (CG a0) (iD a0):=by
 unfold CG iD
 repeat (with_reducible first|exact Le.rfl|refine EN (λ_=>?_) _|refine Le.bind ?_ λ_=>?_)
def yA(a0:Sc)(a1:Int)(x1:(aA×Int)):Option ((aA×Int) ⊕ aA):=
 bif decide (x1.2<(a0.basis.length:Int))then
  (Option.bind (cF a0.basis x1.2) λv3=>
  Option.bind (CG v3) λv4=>
  Option.bind (cF x1.1 v4) λv5=>
  Option.bind (BD a1 x1.1 0 x1.1.length (wr (a1-v5)) v3) λv6=>
  bif decide (v6.length=x1.1.length)then
   (some (.inl (v6,wr (x1.2+1))))
  else none)
 else
  (some (.inr x1.1))
theorem IU(a0:Sc)(a1:Int)(x1:(aA×Int)):Le (yA a0 a1 x1) (mW a0 a1 x1):=by
 unfold yA mW
 repeat (with_reducible first|exact Le.rfl|refine IJ _|refine KQ _ _ _ _ _ _|refine Le.bind ?_ λ_=>?_|refine Le.cond ?_ ?_)
def CH(a0:Sc)(a1:Int)(a2:aA):Option aA:=
 Option.bind (nQ a2) λv1=>
 Option.bind (CX 100 (yA a0 a1) (v1,0)) λy8=>
 some (y8)
theorem La(a0:Sc)(a1:Int)(a2:aA):Le (CH a0 a1 a2) (kX a0 a1 a2):=by
 unfold CH kX
 repeat (with_reducible first|exact Le.rfl|refine IU _ _ _|refine Le.bind ?_ λ_=>?_|refine Le.lp λ_=>?_)
def rC(a0:Sc)(x1:(aA×Int)):Option ((aA×Int) ⊕ aA):=
 bif decide (x1.2<(a0.basis.length:Int))then
  (Option.bind (cF a0.basis x1.2) λv2=>
  Option.bind (CG v2) λv3=>
  bif decide (x1.1.length+[v3].length <=4294967296)then
   (some (.inl ((x1.1++[v3]),wr (x1.2+1))))
  else none)
 else
  (some (.inr x1.1))
theorem Fp(a0:Sc)(x1:(aA×Int)):Le (rC a0 x1) (jK a0 x1):=by
 unfold rC jK
 repeat (with_reducible first|exact Le.rfl|refine IJ _|refine Le.bind ?_ λ_=>?_|refine Le.cond ?_ ?_)
def lW(a0:Sc):Option aA:=
 Option.bind (CX 100 (rC a0) ([],0)) λy5=>
 some (y5)
theorem CI(a0:Sc):Le (lW a0) (fU a0):=by
 unfold lW fU
 repeat (with_reducible first|exact Le.rfl|refine Fp _ _|refine Le.bind ?_ λ_=>?_|refine Le.lp λ_=>?_)
def uL(a0:Int)(a1:Sc)(v2:aA)(v4:aV)(x1:(aV×Int)):Option ((aV×Int) ⊕ aV):=
 bif decide (x1.2<((v4.length:Nat):Int))then
  (Option.bind (cF v4 x1.2) λv6=>
  Option.bind (CH a1 a0 v6) λv7=>
  Option.bind (CX 100 (Bv v2 v7) ([],0)) λy12=>
  bif decide (x1.1.length+1<=4294967296)then
   (some (.inl ((x1.1++[y12]),wr (x1.2+1))))
  else none)
 else
  (some (.inr x1.1))
theorem HI(a0:Int)(a1:Sc)(v2:aA)(v4:aV)(x1:(aV×Int)):Le (uL a0 a1 v2 v4 x1) (uE a0 a1 v2 v4 x1):=by
 unfold uL uE
 repeat (with_reducible first|exact Le.rfl|refine La _ _ _|refine Le.bind ?_ λ_=>?_|refine Le.cond ?_ ?_|refine Le.lp λ_=>?_)
def rO(a0:Int)(a1:Sc):Option Mt:=
 Option.bind (lW a1) λv1=>
 Option.bind (mD a1.size v1) λv2=>
 Option.bind (EM a1.size) λv3=>
 Option.bind (uK v3) λv4=>
 Option.bind (CX 100 (uL a0 a1 v2 v4) ([],0)) λy14=>
 Option.bind (BE ((v2.length:Nat):Int) y14) λv15=>
 some (v15)
theorem JK(a0:Int)(a1:Sc):Le (rO a0 a1) (nN a0 a1):=by
 unfold rO nN
 repeat (with_reducible first|exact Le.rfl|refine CI _|refine zK _ _|refine OA _|refine EX _|refine HI _ _ _ _ _|refine KR _ _|refine Le.bind ?_ λ_=>?_|refine Le.lp λ_=>?_)
def CJ(a0:Sc)(x1:(aA×Int)):Option ((aA×Int) ⊕ aA):=
 bif decide (x1.2<(a0.basis.length:Int))then
  (Option.bind (CX 100 (GL a0 x1) 0) λy5=>
  bif decide (x1.1.length+[y5].length <=4294967296)then
   (some (.inl ((x1.1++[y5]),wr (x1.2+1))))
  else none)
 else
  (some (.inr x1.1))
theorem Lb(a0:Sc)(x1:(aA×Int)):Le (CJ a0 x1) (Bw a0 x1):=by
 unfold CJ Bw
 repeat (with_reducible first|exact Le.rfl|refine Le.bind ?_ λ_=>?_|refine Le.cond ?_ ?_|refine Le.lp λ_=>?_)
def CK(a0:Sc):Option aA:=
 Option.bind (CX 100 (CJ a0) (([]:aA),0)) λy7=>
 some (y7)
theorem IK(a0:Sc):Le (CK a0) (sP a0):=by
 unfold CK sP
 repeat (with_reducible first|exact Le.rfl|refine Lb _ _|refine Le.bind ?_ λ_=>?_|refine Le.lp λ_=>?_)
def yB(a1:Sc)(v1:aA)(x1:(aA×Int)):Option ((aA×Int) ⊕ aA):=
 bif decide (x1.2<a1.size)then
  (Option.bind (Hq v1 x1.2) λv3=>
  bif !v3 then
   (bif decide (x1.1.length+[x1.2].length <=4294967296)then
    (some (.inl ((x1.1++[x1.2]),wr (x1.2+1))))
   else none)
  else
   (some (.inl (x1.1,wr (x1.2+1)))))
 else
  (some (.inr x1.1))
theorem IW(a1:Sc)(v1:aA)(x1:(aA×Int)):Le (yB a1 v1 x1) (xW a1 v1 x1):=by
 unfold yB xW
 repeat (with_reducible first|exact Le.rfl|refine Rw _ _|refine Le.bind ?_ λ_=>?_|refine Le.cond ?_ ?_)
def yC(a0:Int)(a1:Sc)(v1 y6:aA)(x2:(aA×aA×Int)):Option ((aA×aA×Int) ⊕ (aA×aA)):=
 bif decide (x2.2.2<((y6.length:Nat):Int))then
  (Option.bind (cF y6 x2.2.2) λv10=>
  Option.bind (cF x2.1 (wr ((wr (x2.2.2*a1.size))+v10))) λv11=>
  Option.bind (cF y6 x2.2.2) λv12=>
  Option.bind (cF x2.2.1 (wr ((wr (v12*((y6.length:Nat):Int)))+x2.2.2))) λv13=>
  Option.bind (CX 100 (Df a0 a1 v1 x2 y6) ((x2.1.set ((wr ((wr (x2.2.2*a1.size))+v10)).toNat) 1),0)) λy21=>
  some (.inl (y21,(x2.2.1.set ((wr ((wr (v12*((y6.length:Nat):Int)))+x2.2.2)).toNat) 1),wr (x2.2.2+1))))
 else
  (some (.inr (x2.1,x2.2.1)))
theorem IX(a0:Int)(a1:Sc)(v1 y6:aA)(x2:(aA×aA×Int)):Le (yC a0 a1 v1 y6 x2) (xX a0 a1 v1 y6 x2):=by
 unfold yC xX
 repeat (with_reducible first|exact Le.rfl|refine Le.bind ?_ λ_=>?_|refine Le.cond ?_ ?_|refine Le.lp λ_=>?_)
def wV(a0:Int)(a1:Sc):Option (Mt×Mt):=
 Option.bind (CK a1) λv1=>
 Option.bind (CX 100 (yB a1 v1) (([]:aA),0)) λy6=>
 Option.bind (iW ((y6.length:Nat):Int) a1.size) λv7=>
 Option.bind (iW a1.size ((y6.length:Nat):Int)) λv8=>
 Option.bind (CX 100 (yC a0 a1 v1 y6) (v7.cells,v8.cells,0)) λy22=>
 some (((⟨v7.rows,v7.cols,y22.1⟩:Mt),(⟨v8.rows,v8.cols,y22.2⟩:Mt)))
theorem Lc(a0:Int)(a1:Sc):Le (wV a0 a1) (qS a0 a1):=by
 unfold wV qS
 repeat (with_reducible first|exact Le.rfl|refine IK _|refine IW _ _ _|refine IX _ _ _ _ _|refine Le.bind ?_ λ_=>?_|refine Le.lp λ_=>?_)
def My(p:Int)(x:Sc):Mt:=(rO p x).getD ⟨0,0,[]⟩
def Wb(p:Int)(x:Sc):Mt:=((wV p x).getD (⟨0,0,[]⟩,⟨0,0,[]⟩)).2
def YD(x:Sc):aA:=(lW x).getD []
def YE(x:Sc):aA:=(mD x.size (YD x)).getD []
def qOk(p:Int)(n k:Nat)(x:Sc):Bool:=
 decide (rO p x=some (My p x))&&(decide (wV p x=some (My p x,Wb p x))&&(decide (lW x=some (YD x))&&(decide (CK x=some (YD x))&&(decide (mD x.size (YD x)=some (YE x))&&
 (GU p (My p x)&&(GU p (Wb p x)&&(decide ((My p x).rows=(n-k:Nat))&&(decide ((My p x).cols=(n:Nat))&&(decide ((Wb p x).rows=(n:Nat))&&(decide ((Wb p x).cols=(n-k:Nat))&&(decide ((YE x).length=n-k)&&
 (decide ((YD x).length=k)&&((List.range k).all (λj=>decide (0<=(YD x)[j]?.getD 0)&&decide ((YD x)[j]?.getD 0<(n:Nat)))&&
 (List.range (n-k)).all λj=>decide (0<=(YE x)[j]?.getD 0)&&(decide ((YE x)[j]?.getD 0<(n:Nat))&&(List.range n).all λt=>decide ((Wb p x).cells[t*(n-k)+j]?.getD 0=if(t:Int)=(YE x)[j]?.getD 0 then 1 else 0)))))))))))))))
theorem qT2:∀p,p<2->∀n,n<3->∀k,k<n+1->((Rs (p+2) n k).all (qOk ((p+2:Nat):Int) n k))=true:=by decide+kernel
theorem qT(p:Nat)(h1:p<4)(h2:2<=p):∀n,n<3->∀k,k<n+1->((Rs p n k).all (qOk (p:Nat) n k))=true:=by
 have:=qT2 (p-2) (by omega);rw[show p-2+2=p by omega]at this;exact this
structure Qx(p:Int)(n k:Nat)(x:Sc):Prop where
 pr:nN p x=some (My p x)
 pj:qS p x=some (My p x,Wb p x)
 ld:fU x=some (YD x)
 l12:sP x=some (YD x)
 fr:fI x.size (YD x)=some (YE x)
 pv:GU p (My p x)=true
 bv:GU p (Wb p x)=true
 pR:(My p x).rows=(n-k:Nat)
 pC:(My p x).cols=(n:Nat)
 bR:(Wb p x).rows=(n:Nat)
 bC:(Wb p x).cols=(n-k:Nat)
 fl:(YE x).length=n-k
 ll:(YD x).length=k
 l1:∀j,j<k->0<=(YD x)[j]?.getD 0/\(YD x)[j]?.getD 0<(n:Nat)
 f1:∀j,j<n-k->0<=(YE x)[j]?.getD 0/\(YE x)[j]?.getD 0<(n:Nat)
 f2:∀j,j<n-k->∀t,t<n->(Wb p x).cells[t*(n-k)+j]?.getD 0=if(t:Int)=(YE x)[j]?.getD 0 then 1 else 0
theorem aHp{p:Int}{n k:Nat}{x:Sc}(h:qOk p n k x=true):Qx p n k x:=by
 unfold qOk at h;simp only[bX,eD,List.all_eq_true,List.mem_range]at h;obtain⟨a1,a2,a3,a4,a5,a6,a7,a8,a9,a10,a11,a12,b1,b2,a13⟩:=h;exact⟨JK _ _ _ a1,Lc _ _ _ a2,CI _ _ a3,IK _ _ a4,zK _ _ _ a5,a6,a7,a8,a9,a10,a11,a12,b1,b2,λj hj=>⟨(a13 j hj).1,(a13 j hj).2.1⟩,λj hj t ht=>(a13 j hj).2.2 t ht⟩
theorem aGe{p n:Nat}{k:Int}(hp:p=2∨p=3)(hn:n<=2){x:Sc}(hx:x∈Rt p n k):Qx (p:Nat) n x.basis.length x:=by
 obtain⟨_,h1,_⟩:=UW hp hn hx;unfold Rt at hx;cases hk:pL k 0 n with
 |false=>rw[hk]at hx;simp at hx
 |true=>
  rw[hk,aG]at hx;have:=jY hk;have e:x.basis.length=k.toNat:=by omega
  rw[e];exact aHp (List.all_eq_true.1 (qT p (by omega) (by omega) n (by omega) k.toNat (by omega)) x hx)
structure PartT(r:Rp)(s:aI):Prop where
 P:Part r s
 q:∀v,v<r.dims.length->Qx r.p (dN r v) (sG s v).basis.length (sG s v)
theorem aCs{r:Rp}(S:Sm r){d:aA}{s:aI}(h:s∈HF r d):PartT r s:=by
 refine⟨ZL S h,λv hv=>?_⟩;obtain⟨h1,h2⟩:=List.mem_filter.1 h;have h3:=(Mm h1).2 v ⟨0,[]⟩ (by rw[rA];exact hv);rw[RO hv]at h3;have:=aGe (RP S) (S.d v hv) h3;have e:((r.p.toNat:Nat):Int)=r.p:=by have:=S.p;omega
 rw[e]at this;exact this
theorem aAj{r:Rp}(S:Sm r){s:aI}(h:s∈iI r):PartT r s:=by
 obtain⟨d,_,hd⟩:=List.mem_flatMap.1 h;exact aCs S hd
def kN(s:aI)(v:Nat):Nat:=(sG s v).basis.length
def prF(r:Rp)(s:aI)(v:Nat):Nat->Nat->Int:=λi j=>(My r.p (sG s v)).cells[i*dN r v+j]?.getD 0
def bkF(r:Rp)(s:aI)(v:Nat):Nat->Nat->Int:=λi j=>(Wb r.p (sG s v)).cells[i*(dN r v-kN s v)+j]?.getD 0
def frN(s:aI)(v j:Nat):Nat:=((YE (sG s v))[j]?.getD 0).toNat
theorem ZO{p:Int}{m:Mt}{r c:Nat}(h:GU p m=true)(hr:m.rows=r)(hc:m.cols=c):m=⟨r,c,bY r c λi j=>m.cells[i*c+j]?.getD 0⟩/\wF p r c (λi j=>m.cells[i*c+j]?.getD 0):=by
 obtain⟨_,a,b,F,_,_,e,hF⟩:=Qk h;have ea:a=r:=by rw[e]at hr;simp only at hr;omega
 have eb:b=c:=by rw[e]at hc;simp only at hc;omega
 subst ea;subst eb;have key:∀i j,i<a->j<b->m.cells[i*b+j]?.getD 0=F i j:=λi j hi hj=>by rw[e];simp only;rw[mR F hi hj];rfl
 refine⟨?_,λi j hi hj=>by show 0<=m.cells[i*b+j]?.getD 0/\m.cells[i*b+j]?.getD 0<p;rw[key i j hi hj];exact hF i j hi hj⟩;rw[cC key];exact e
theorem aCt{r:Rp}{s:aI}(T:PartT r s){v:Nat}(hv:v<r.dims.length):My r.p (sG s v)=⟨(dN r v-kN s v:Nat),(dN r v:Nat),bY (dN r v-kN s v) (dN r v) (prF r s v)⟩/\wF r.p (dN r v-kN s v) (dN r v) (prF r s v):=ZO (T.q v hv).pv (T.q v hv).pR (T.q v hv).pC
theorem aGg{r:Rp}{s:aI}(T:PartT r s){v:Nat}(hv:v<r.dims.length):Wb r.p (sG s v)=⟨(dN r v:Nat),(dN r v-kN s v:Nat),bY (dN r v) (dN r v-kN s v) (bkF r s v)⟩/\wF r.p (dN r v) (dN r v-kN s v) (bkF r s v):=ZO (T.q v hv).bv (T.q v hv).bR (T.q v hv).bC
theorem ZP{r:Rp}{s:aI}(T:PartT r s){v j:Nat}(hv:v<r.dims.length)(hj:j<dN r v-kN s v):(YE (sG s v))[j]?.getD 0=(frN s v j:Int)/\frN s v j<dN r v:=by
 have:=(T.q v hv).f1 j hj;unfold frN;omega
theorem UZ{r:Rp}{s:aI}(T:PartT r s){v j:Nat}(hv:v<r.dims.length)(hj:j<dN r v-kN s v){t:Nat}(ht:t<dN r v):bkF r s v t j=if t=frN s v j then 1 else 0:=by
 have h1:=(T.q v hv).f2 j hj t ht;obtain⟨h2,h3⟩:=ZP T hv hj;rw[h2]at h1;unfold bkF kN;rw[h1];by_cases e:t=frN s v j
 .rw[aP e,aP (by omega)]
 .rw[aQ e,aQ (by omega)]
theorem TP{F U:Nat->Nat->Int}{i j f:Nat}:∀{n:Nat},(∀t,t<n->U t j=if t=f then 1 else 0)->Dy F U i j n=if f<n then F i f else 0
 |0,_=>by simp[Dy]
 |n+1,h=>by
  have ih:=TP (F:=F) (i:=i) (n:=n) λt ht=>h t (by omega);simp only[Dy];rw[ih,h n (by omega)];by_cases e:n=f
  .subst e;rw[aQ (by omega),aP rfl,aP (by omega)];omega
  .rw[aQ e];by_cases e2:f<n
   .rw[aP e2,aP (by omega)];omega
   .rw[aQ e2,aQ (by omega)];omega
def aCu(r:Rp)(s:aI)(i:Nat):Nat->Nat->Int:=λa b=>nL r.p (dN r (tV r i)) (prF r s (tV r i)) (aF r i) a (frN s (sV r i) b)
def Rx(r:Rp)(s:aI)(i:Nat):Mt:=⟨(dN r (tV r i)-kN s (tV r i):Nat),(dN r (sV r i)-kN s (sV r i):Nat),bY (dN r (tV r i)-kN s (tV r i)) (dN r (sV r i)-kN s (sV r i)) (aCu r s i)⟩
def wW(s:aI):aA:=s.map λx=>x.size-(x.basis.length:Int)
def wD(r:Rp)(s:aI):Rp:=⟨r.p,r.q,wW s,(List.range r.maps.length).map (Rx r s)⟩
theorem DO{α:Type}(n k:Nat)(f:Nat->α)(v:α):((List.range n).map f).set k v=(List.range n).map λi=>if i=k then v else f i:=by
 refine List.ext_getElem (by simp) λt h1 h2=>?_;rw[List.getElem_set,List.getElem_map,List.getElem_map,List.getElem_range];by_cases e:k=t
 .rw[aP e,aP e.symm]
 .rw[aQ e,aQ λh=>e h.symm]
theorem JL{α:Type}(k:Nat)(f:Nat->α):(List.range k).map f++[f k]=(List.range (k+1)).map f:=by rw[List.range_succ,List.map_append];rfl
theorem aCv{q:Qv}(h:bQ q):rN q=some q:=by
 unfold rN nQ;have h1:q.src.length<=1048576:=h.1;have h2:q.tgt.length<=1048576:=h.2.1;rw[aR h1,aR h2];rfl
def zeM(r:Rp)(f:Nat->Nat)(i:Nat):Mt:=⟨(f (tV r i):Nat),(f (sV r i):Nat),bY (f (tV r i)) (f (sV r i)) λ_ _=>0⟩
section
variable {r:Rp}(R:Rv r)(hb:bR r){d:aA}(hl:d.length=r.dims.length){f:Nat->Nat}(hd:∀v,v<r.dims.length->d[v]?.getD 0=(f v:Int)/\f v<=8)
include R hb hl hd
theorem aAl(p:Int):Bu p r.q d=some ⟨p,r.q,d,(List.range r.maps.length).map (zeM r f)⟩:=by
 unfold Bu;have h5:=R.n5;have h6:=R.e6;rw[aCv hb.1,aB];unfold nQ;rw[aR (by omega),aG,aB];rw[cO (r:=(List.range r.maps.length).map (zeM r f)) (λk=>((List.range k).map (zeM r f),(k:Int))) r.q.src.length (by rfl) (λi hi=>?_) (λ_=>?_),aB]
 .have s1:=hd _ (R.s i hi).2;have t1:=hd _ (R.t i hi).2;unfold Bt;simp only;rw[jW hi,aG,kM 0 hi,aB,kM 0 (by have:=R.tl;omega),aB,(R.t i hi).1,kM 0 (by have:=(R.t i hi).2;omega),aB,(R.s i hi).1,kM 0 (by have:=(R.s i hi).2;omega),aB,s1.1,t1.1,NY (by have:=Nat.mul_le_mul t1.2 s1.2;omega),aB,aR (by simp;omega),aG,bW hi (by omega),←JL];rfl
 .unfold Bt;simp only;rw[mG (bD _),aN,R.ml]
theorem Wc(p:Int):oC p r.q d=some ⟨p,r.q,d,(List.range r.maps.length).map (zeM r f)⟩:=by
 unfold oC;have h5:=R.n5;have h6:=R.e6;rw[WN hb.1,aB,aR (by simp;omega),aG,List.nil_append];rw[cO (r:=(List.range r.maps.length).map (zeM r f)) (λk=>((List.range k).map (zeM r f),(k:Int))) r.q.src.length (by rfl) (λi hi=>?_) (λ_=>?_),aB]
 .have s1:=hd _ (R.s i hi).2;have t1:=hd _ (R.t i hi).2;unfold sE;simp only;rw[jW hi,aG,kM 0 (by have:=R.tl;omega),aB,(R.t i hi).1,kM 0 (by have:=(R.t i hi).2;omega),aB,kM 0 hi,aB,(R.s i hi).1,kM 0 (by have:=(R.s i hi).2;omega),aB,s1.1,t1.1,Iw (by have:=Nat.mul_le_mul t1.2 s1.2;omega),aB,aR (by simp;omega),aG,bW hi (by omega),←JL];rfl
 .unfold sE;simp only;rw[mG (bD _),aN,R.ml]
end
theorem CL{s:aI}{v:Nat}(h:v<s.length):s[v]=sG s v:=by unfold sG;rw[dL h,dI]
theorem Fg{r:Rp}{s:aI}(S:Sm r)(T:PartT r s){v:Nat}(hv:v<r.dims.length):(wW s)[v]?.getD 0=((dN r v-kN s v:Nat):Int)/\kN s v<=dN r v:=by
 have h1:=T.P.len;have h2:=(eG T.P.sub).2.2 v hv;unfold wW;rw[List.getElem?_map,dL (by omega),Option.map_some,dI,CL,h2.size];have:=h2.len;unfold kN;omega
theorem aAm{r:Rp}{s:aI}(S:Sm r)(T:PartT r s):s.map (λx=>(My r.p x).rows)=wW s:=by
 refine List.ext_getElem (by simp[wW]) λv h1 h2=>?_;have hv:v<s.length:=by simpa using h1
 have hv':v<r.dims.length:=by have:=T.P.len;omega
 have e:=Fg S T hv'
 have e2:(wW s)[v]? =some ((dN r v-kN s v:Nat):Int):=by
  rw[dL h2]at e ⊢;simpa using e.1
 have e3:(wW s)[v]=((dN r v-kN s v:Nat):Int):=by rw[dL h2]at e2;simpa using e2
 rw[List.getElem_map,e3,CL hv,(T.q v hv').pR];rfl
theorem Pc{r:Rp}{s:aI}(S:Sm r)(T:PartT r s):(wW s).sum=r.dims.sum-(bG s).sum:=by
 have key:∀l:aI,(wW l).sum=(l.map Sc.size).sum - (bG l).sum:=by
  intro l;induction l with
  |nil=>rfl
  |cons x l ih=>
   unfold wW bG at ih ⊢;simp only[List.map_cons,List.sum_cons];omega
 have e:s.map Sc.size=r.dims:=by
  refine List.ext_getElem (by simp[T.P.len]) λv h1 h2=>?_;have hv:v<s.length:=by simpa using h1
  have h3:=((eG T.P.sub).2.2 v h2).size;rw[List.getElem_map,CL hv,h3,←(S.R.d v h2).1,dL h2,dI]
 rw[key,e]
theorem Kk{r:Rp}{s:aI}(S:Sm r)(T:PartT r s)(hS:cK r=true):cK (wD r s)=true:=by
 have h5:=S.R.n5;have hml:=S.R.ml;have hsl:=T.P.len;have hlen:(wW s).length=r.dims.length:=by simp[wW,hsl]
 have hrep:=lK hS;obtain⟨hp,hD,_,_⟩:=Fa hrep;obtain⟨hQ,hd1,_,_⟩:=qM hD
 have hmem:∀x∈wW s,0<=x/\x<=2:=by
  intro x hx;obtain⟨v,hv,e⟩:=List.mem_iff_getElem.1 hx;have hv':v<r.dims.length:=by omega
  have h1:=Fg S T hv';rw[dL hv,dI,e]at h1;have:=S.d v hv';omega
 have hsum:=Pc S T
 have hs0:0<=(bG s).sum:=by
  have key:∀l:aI,0<=(bG l).sum:=by
   intro l;induction l with
   |nil=>exact Int.le_refl 0
   |cons x l ih=>
    unfold bG at ih ⊢;simp only[List.map_cons,List.sum_cons];omega
  exact key s
 have h55:=S.s
 have hdv:IH r.q (wW s)=true:=by
  unfold IH;simp only[bX,eD,List.all_eq_true];refine⟨hQ,by omega,λx hx=>?_,by omega⟩;have:=hmem x hx;unfold pL;simp only[bX,eD];omega
 unfold cK;simp only[bX,eD,List.all_eq_true];refine⟨?_,by show r.p<=3;have:=S.p;omega,λx hx=>?_,by show(wW s).sum <=5;omega⟩
 .unfold xN;simp only[bX,eD,rT];refine⟨hp,hdv,by simp[wD];omega,λk hk=>?_⟩;have hk':k<r.maps.length:=by simpa [wD]using hk
  have hi':k<r.q.src.length:=by omega
  have hs:=(S.R.s k hi').2;have ht:=(S.R.t k hi').2
  have e:((wD r s).maps[k]?.getD ⟨0,0,[]⟩:Mt)=Rx r s k:=by
   show((List.range r.maps.length).map (Rx r s))[k]?.getD _=_;simp[hk']
  rw[e];have q1:=Fg S T hs;have q2:=Fg S T ht;have d1:=S.d _ hs;have d2:=S.d _ ht;refine⟨RH hp (by omega) (by omega) (λa b ha hb=>?_),?_,?_⟩
  .exact Hf hp _ _ _ (dN r (tV r k)-kN s (tV r k)) (frN s (sV r k) b+1) a (frN s (sV r k) b) ha (by omega)
  .show((dN r (sV r k)-kN s (sV r k):Nat):Int)=(wW s)[sV r k]?.getD 0;rw[q1.1]
  .show((dN r (tV r k)-kN s (tV r k):Nat):Int)=(wW s)[tV r k]?.getD 0;rw[q2.1]
 .have:=hmem x hx;unfold pL;simp only[bX,eD];omega
section
variable {r:Rp}{s:aI}(hr:bR r)(S:Sm r)(T:PartT r s)
include hr S T
theorem aCw:oW r s=some (wD r s,s.map (My r.p)):=by
 have h5:=S.R.n5;have h6:=S.R.e6;have hml:=S.R.ml;have hsl:=T.P.len;unfold oW;rw[cO (r:=(wW s,s.map (My r.p))) (λk=>(wW (s.take k),(s.take k).map (My r.p),(k:Int))) s.length (by rfl) (λv hv=>?_) (λ_=>?_),aB]
 .simp only;rw[aAl S.R hr (d:=wW s) (by simp[wW,hsl]) (f:=λv=>dN r v-kN s v) (λv hv=>⟨(Fg S T hv).1,by have:=S.d v hv;omega⟩),aB];simp only;rw[cO (r:=(List.range r.maps.length).map (Rx r s)) (λk=>((List.range r.maps.length).map λi=>if i<k then Rx r s i else zeM r (λv=>dN r v-kN s v) i,(k:Int))) r.maps.length (by simp) (λi hi=>?_) (λ_=>?_),aB]
  .rfl
  .have hi':i<r.q.src.length:=by omega
   have hs:=(S.R.s i hi').2;have ht:=(S.R.t i hi').2;have d1:=S.d _ hs;have d2:=S.d _ ht;obtain⟨hM,hMi⟩:=S.R.m i hi';obtain⟨hP,hPi⟩:=aCt T ht;have hq:=T.q _ hs;unfold vX;simp only;rw[jW hi,aG,kM ⟨0,0,[]⟩ hi,aB,hM,kM 0 hi',aB,(S.R.s i hi').1,kM ⟨0,[]⟩ (by omega),aB,kM 0 (by have:=S.R.tl;omega),aB,(S.R.t i hi').1,kM ⟨0,0,[]⟩ (by simp;omega),aB]
   have e1:((s.map (My r.p))[tV r i]?.getD ⟨0,0,[]⟩:Mt)=My r.p (sG s (tV r i)):=by
    rw[List.getElem?_map,dL (by omega),Option.map_some,dI,CL]
   have m1:=Nat.mul_le_mul (show dN r (tV r i)-kN s (tV r i)<=2 by omega) d2;have m2:=Nat.mul_le_mul d2 d1;have m3:=Nat.mul_le_mul (show dN r (tV r i)-kN s (tV r i)<=2 by omega) d1;rw[e1,hP,MV S.R.hp (by omega) (by omega) (by omega) (by omega) (by omega) (by omega) hPi hMi,aB];have e2:(s[sV r i]?.getD ⟨0,[]⟩:Sc)=sG s (sV r i):=rfl;rw[e2,hq.ld,aB,hq.fr,aB];have hfl:=hq.fl;rw[cO (r:=(List.range (dN r (sV r i)-kN s (sV r i))).map λk=>fQ (dN r (tV r i)-kN s (tV r i)) λa=>aCu r s i a k) (λk=>((List.range k).map λk=>fQ (dN r (tV r i)-kN s (tV r i)) λa=>aCu r s i a k,(k:Int))) (dN r (sV r i)-kN s (sV r i)) (by rfl) (λk hk=>?_) (λ_=>?_),aB]
   .simp only;rw[GX (by have:=Nat.mul_le_mul (show dN r (tV r i)-kN s (tV r i)<=2 by omega) (show dN r (sV r i)-kN s (sV r i)<=2 by omega);omega) (by omega) (by omega),aB,kM ⟨0,0,[]⟩ (by simpa using hi),aB,bW hi (by omega),fM,DO];congr 3;refine rQ λj hj=>?_;by_cases e:j=i
    .rw[aP e,aP (by omega),e];rfl
    .rw[aQ e];by_cases e2:j<i
     .rw[aP e2,aP (by omega)]
     .rw[aQ e2,aQ (by omega)]
   .obtain⟨f1,f2⟩:=ZP T hs hk;unfold vW;simp only;rw[show(YE (sG s (sV r i))).length=dN r (sV r i)-kN s (sV r i) from hfl,jW hk,aG,kM 0 (by rw[show(YE (sG s (sV r i))).length=dN r (sV r i)-kN s (sV r i) from hfl];exact hk),aB,f1,WI (by omega) (by omega) f2,aB,aR (by simp;omega),aG,bW hk (by omega),←JL];rfl
   .unfold vW;simp only;rw[show(YE (sG s (sV r i))).length=dN r (sV r i)-kN s (sV r i) from hfl,mG (bD _),aN]
  .unfold vX;simp only;rw[mG (bD _),aN];congr 2;exact rQ λj hj=>by rw[aP (List.mem_range.1 hj)]
 .have hv':v<r.dims.length:=by omega
  have h2:=(eG T.P.sub).2.2 v hv';have e:=CL hv;unfold vV;simp only;rw[jW hv,aG,gS hv,aB,aR (by simp[wW];omega),aG];rw[e,(T.q v hv').pr,aB,aR (by simp;omega),aG,bW hv (by omega),h2.size,dM (by have:=h2.len;have:=S.d v hv';omega)]
  have e3:wW (s.take v)++[(dN r v:Int)-((sG s v).basis.length:Int)]=wW (s.take (v+1)):=by
   unfold wW;rw[wX hv,List.map_append,e];simp[h2.size]
  have e4:(s.take v).map (My r.p)++[My r.p (sG s v)]=(s.take (v+1)).map (My r.p):=by
   rw[wX hv,List.map_append,e];rfl
  rw[e3,e4]
 .unfold vV;simp only;rw[mG (bD _),aN,List.take_length]
theorem aGh:uF r s=some (wD r s,s.map (My r.p),true):=by
 have h5:=S.R.n5;have h6:=S.R.e6;have hml:=S.R.ml;have hsl:=T.P.len;unfold uF;rw[Js hr ⟨by omega,T.P.b⟩,aB,T.P.sub,dR,aN];rw[cO (r:=(wW s,s.map (My r.p),s.map (Wb r.p))) (λk=>((s.take k).map (λx=>(My r.p x).rows),(s.take k).map (My r.p),(s.take k).map (Wb r.p),(k:Int))) s.length (by rfl) (λv hv=>?_) (λ_=>?_),aB]
 .simp only;rw[Wc S.R hr (d:=wW s) (by simp[wW,hsl]) (f:=λv=>dN r v-kN s v) (λv hv=>⟨(Fg S T hv).1,by have:=S.d v hv;omega⟩),aB];simp only;rw[cO (r:=(List.range r.maps.length).map (Rx r s)) (λk=>((List.range r.maps.length).map λi=>if i<k then Rx r s i else zeM r (λv=>dN r v-kN s v) i,(k:Int))) r.maps.length (by simp) (λi hi=>?_) (λ_=>?_),aB]
  .rfl
  .have hi':i<r.q.src.length:=by omega
   have hs:=(S.R.s i hi').2;have ht:=(S.R.t i hi').2;have d1:=S.d _ hs;have d2:=S.d _ ht;obtain⟨hM,hMi⟩:=S.R.m i hi';obtain⟨hP,hPi⟩:=aCt T ht;obtain⟨hB,hBi⟩:=aGg T hs;unfold vZ;simp only;rw[jW hi,aG,kM 0 (by have:=S.R.tl;omega),aB,(S.R.t i hi').1,kM ⟨0,0,[]⟩ (by simp;omega),aB,kM ⟨0,0,[]⟩ hi,aB,hM]
   have e1:((s.map (My r.p))[tV r i]?.getD ⟨0,0,[]⟩:Mt)=My r.p (sG s (tV r i)):=by
    rw[List.getElem?_map,dL (by omega),Option.map_some,dI,CL]
   have e2:((s.map (Wb r.p))[sV r i]?.getD ⟨0,0,[]⟩:Mt)=Wb r.p (sG s (sV r i)):=by
    rw[List.getElem?_map,dL (by omega),Option.map_some,dI,CL]
   have m1:=Nat.mul_le_mul (show dN r (tV r i)-kN s (tV r i)<=2 by omega) d2;have m2:=Nat.mul_le_mul d2 d1;have m3:=Nat.mul_le_mul (show dN r (tV r i)-kN s (tV r i)<=2 by omega) d1;have m4:=Nat.mul_le_mul d1 (show dN r (sV r i)-kN s (sV r i)<=2 by omega);have m5:=Nat.mul_le_mul (show dN r (tV r i)-kN s (tV r i)<=2 by omega) (show dN r (sV r i)-kN s (sV r i)<=2 by omega);have hW:=Hf S.R.hp (dN r (tV r i)) (prF r s (tV r i)) (aF r i) (dN r (tV r i)-kN s (tV r i)) (dN r (sV r i));rw[e1,hP,Ei S.R.hp (by omega) (by omega) (by omega) (by omega) (by omega) (by omega) hPi hMi,aB,kM 0 hi',aB,(S.R.s i hi').1,kM ⟨0,0,[]⟩ (by simp;omega),aB,e2,hB,Ei S.R.hp (by omega) (by omega) (by omega) (by omega) (by omega) (by omega) hW hBi,aB,kM ⟨0,0,[]⟩ (by simpa using hi),aB,bW hi (by omega),fM,DO];congr 3;refine rQ λj hj=>?_;by_cases e:j=i
   .rw[aP e,aP (by omega),e];unfold Rx;congr 1;refine cC λa b ha hb=>?_;obtain⟨f1,f2⟩:=ZP T hs hb;have hw:=hW a (frN s (sV r i) b) ha f2;show Dy _ _ _ _ _%_=_;rw[TP (λt ht=>UZ T hs hb ht),aP f2];exact Int.emod_eq_of_lt hw.1 hw.2
   .rw[aQ e];by_cases e2:j<i
    .rw[aP e2,aP (by omega)]
    .rw[aQ e2,aQ (by omega)]
  .unfold vZ;simp only;rw[mG (bD _),aN];congr 2;exact rQ λj hj=>by rw[aP (List.mem_range.1 hj)]
 .have hv':v<r.dims.length:=by omega
  have e:=CL hv;unfold vY;simp only;rw[jW hv,aG,gS hv,aB,e,(T.q v hv').pj,aB,aR (by simp;omega),aG,aR (by simp;omega),aG,aR (by simp;omega),aG,bW hv (by omega)];rw[wX hv,List.map_append,List.map_append,List.map_append,e];rfl
 .unfold vY;simp only;rw[mG (bD _),aN,List.take_length,aAm S T]
theorem RR:bR (wD r s):=by
 have h5:=S.R.n5;have h6:=S.R.e6;have hml:=S.R.ml;have hsl:=T.P.len;refine⟨hr.1,by simp[bI,wD,wW];omega,⟨by simp[wD];omega,λm hm=>?_⟩,trivial⟩;obtain⟨i,hi,rfl⟩:=List.mem_map.1 hm;have hi':i<r.q.src.length:=by have:=List.mem_range.1 hi;omega
 have d1:=S.d _ (S.R.s i hi').2;have d2:=S.d _ (S.R.t i hi').2;have m5:=Nat.mul_le_mul (show dN r (tV r i)-kN s (tV r i)<=2 by omega) (show dN r (sV r i)-kN s (sV r i)<=2 by omega);refine⟨?_,trivial⟩;unfold bI Rx;simp only;rw[gJ];omega
end
def Dj(r:Rp)(t:aA):aI:=(HH r t).1
structure Mx(r:Rp)(t:aA):Prop where
 T:PartT r (Dj r t)
 e:HH r t=(Dj r t,true)
 n:kZ r t=some (Dj r t)
 p:1<=(bG (Dj r t)).sum
theorem IL{r:Rp}(hr:bR r){t:aA}(hS:cK r=true)(hT:zB t r.dims=true)(h0:0<r.dims.sum):Mx r t:=by
 have S:=iL hS;have hA:(cK r&&(decide (0<r.dims.sum)&&zB t r.dims))=true:=by rw[hS,aR h0,hT];rfl
 have e:HH r t=(Dj r t,true):=by unfold Dj HH;rw[hA];rfl
 have e2:Dj r t=(iI r)[(Mq r t (iI r).length).toNat]?.getD []:=by unfold Dj HH;rw[hA];rfl
 obtain⟨b,eb,hb⟩:=Ms hS h0;have e3:Dj r t=(iI r)[b]:=by rw[e2,eb,fM,dL hb,dI]
 have hm:Dj r t∈iI r:=by rw[e3];exact List.getElem_mem hb
 refine⟨aAj S hm,e,?_,?_⟩
 .unfold kZ;rw[Jt hr S,aB,TO hS hT,aB,eb];unfold aAM;rw[bP (by omega),aN,kM [] hb,e3,dL hb,dI]
 .have hd:(bG (Dj r t)).sum ≠0:=by
   rcases Ho r t (iI r).length with ⟨h,_⟩|⟨b',e',h',h2⟩
   .omega
   .have:b'=b:=by omega
    subst this;unfold dA at h2;rw[dL hb,dI,←e3]at h2;exact h2
  have key:∀l:aI,0<=(bG l).sum:=by
   intro l;induction l with
   |nil=>exact Int.le_refl 0
   |cons x l ih=>
    unfold bG at ih ⊢;simp only[List.map_cons,List.sum_cons];omega
  have:=key (Dj r t);omega
def Ex(t:aA):Nat->Rp->aV
 |0,_=>[]
 |n+1,r=>if r.dims.sum=0 then []else bG (Dj r t)::Ex t n (wD r (Dj r t))
theorem Ld{r:Rp}{t:aA}(hr:bR r)(hS:cK r=true)(hT:zB t r.dims=true){s:aI}(T:PartT r s):zB t (wD r s).dims=true:=by
 have hq:=Kk (iL hS) T hS;have hT':=zZ hT;unfold zB at hT ⊢;simp only[bX,eD,List.all_eq_true]at hT ⊢;refine⟨?_,hT.2.1,hT.2.2.1,λx hx=>?_⟩
 .show t.length=(wW s).length;rw[hT.1];simp[wW,T.P.len]
 .have:=(iL hq).mem x hx;unfold pL;simp only[bX,eD];omega
theorem EO{r:Rp}(hS:cK r=true):0<=r.dims.sum:=by
 have h:=(iL hS).mem;have:=(NX (d:=r.dims) (λx hx=>by have:=h x hx;omega)).1;exact this
theorem Ua(t:aA):∀n r,(Ex t n r).length <=n
 |0,_=>by simp[Ex]
 |n+1,r=>by
  unfold Ex;split
  .simp
  .have:=Ua t n (wD r (Dj r t));simp only[List.length_cons];omega
def PJ(r:Rp)(out:aV):Int×Int×aA×aA×aA×bJ×aV:=(r.p,r.q.n,r.q.src,r.q.tgt,r.dims,r.maps,out)
theorem aCx{t:aA}:∀(n:Nat)(r:Rp)(out:aV),bR r->cK r=true->zB t r.dims=true->r.dims.sum<=n->out.length+n<=100->
  Lp (iQ t) (PJ r out)=some (out++Ex t n r)/\Lp (fD t) (PJ r out)=some (out++Ex t n r):=by
 have hsum:∀r:Rp,cK r=true->cI r.dims=some r.dims.sum:=λr hS=>by
  have h:=(iL hS).mem;have h5:=(iL hS).R.n5;exact GE (λx hx=>by have:=h x hx;omega) (by omega)
 have stop:∀(r:Rp)(out:aV),cK r=true->r.dims.sum=0->Lp (iQ t) (PJ r out)=some out/\Lp (fD t) (PJ r out)=some out:=by
  intro r out hS h0;constructor
  .refine nA ?_;unfold iQ PJ;simp only;rw[hsum r hS,aB,bP (by omega),aN]
  .refine nA ?_;unfold fD PJ;simp only;rw[hsum r hS,aB,bP (by omega),aN]
 intro n;induction n with
 |zero=>
  intro r out hr hS hT hn hl;have h0:r.dims.sum=0:=by have:=EO hS;omega
  have:=stop r out hS h0;simpa [Ex]using this
 |succ n ih=>
  intro r out hr hS hT hn hl;by_cases h0:r.dims.sum=0
  .have:=stop r out hS h0;simpa [Ex,h0]using this
  .have hp:0<r.dims.sum:=by have:=EO hS;omega
   have M:=IL hr hS hT hp;have S:=iL hS;have hq:=Kk S M.T hS;have hs:=Pc S M.T;have h:=ih (wD r (Dj r t)) (out++[bG (Dj r t)]) (RR hr S M.T) hq (Ld hr hS hT M.T) (by show(wW (Dj r t)).sum <=n;have:=M.p;omega) (by simp;omega)
   have e:out++Ex t (n+1) r=(out++[bG (Dj r t)])++Ex t n (wD r (Dj r t)):=by
    rw[Ex,aQ h0,List.append_assoc];rfl
   have hl5:(Dj r t).length <=1048576:=by have:=M.T.P.len;have:=S.R.n5;omega
   constructor
   .rw[e,←h.1];refine AH ?_;unfold iQ PJ;simp only;rw[hsum r hS,aB,aR hp,aG,M.n,aB,BN hl5,aB,aR (by omega),aG,aCw hr S M.T,aB]
   .rw[e,←h.2];refine AH ?_;unfold fD PJ;simp only;rw[hsum r hS,aB,aR hp,aG,M.n,aB,BN hl5,aB,aR (by omega),aG,aCw hr S M.T,aB]
def slR(r:Rp)(t:aA):aV×Bool:=bif xN r&&(zB t r.dims&&(decide (r.dims.sum=0)||cK r))then(Ex t 5 r,true)else([],false)
theorem aCy{r:Rp}(hr:bR r){t:aA}(ht:bI t):nU r t=some (slR r t):=by
 have hbd:bI r.dims:=hr.2.1;unfold nU slR;rw[Gz hr,aB];cases hR:xN r with
 |false=>rfl
 |true=>
  have hd:=(JI hR).1;have h5:=(Mh hR).n5;rw[dR,aN,Di ht hbd,aB,Bool.true_and];cases hT:zB t r.dims with
  |false=>rfl
  |true=>
   rw[dR,aN,GE hd (by omega),aB,Bool.true_and];have hnn:=(NX hd).1;by_cases h0:r.dims.sum=0
   .rw[bP (by omega),aN,aR h0,Bool.true_or,aG]
    have hz:Lp (fD t) (PJ r [])=some []:=by
     refine nA ?_;unfold fD PJ;simp only;rw[GE hd (by omega),aB,bP (by omega),aN]
    unfold PJ at hz;rw[hz,aB];simp[Ex,h0]
   .rw[aR (by omega),aG,bP h0,Bool.false_or,TI hr,aB];cases hS:cK r with
    |false=>rfl
    |true=>
     have h:=(aCx (t:=t) 5 r [] hr hS hT (iL hS).s (by simp)).1;unfold PJ at h;rw[dR,aN,aG,h,aB,List.nil_append]
def OB(r:Rp)(out:aV)(k:Int):aV×Int×Int×aA×aA×aA×bJ×Int:=(out,r.p,r.q.n,r.q.src,r.q.tgt,r.dims,r.maps,k)
theorem aCz{t:aA}(ht:bI t){a0:Rp}(hb0:bI a0.dims)(hT0:zB t a0.dims=true):∀(n:Nat)(r:Rp)(out:aV)(k:Nat),bR r->cK r=true->zB t r.dims=true->r.dims.sum<=n->out.length+n<=100->k+n<=5->
  Lp (dB a0 t) (OB r out k)=some (.inr (out++Ex t n r,true)):=by
 have stop:∀(r:Rp)(out:aV)(k:Nat),bR r->cK r=true->r.dims.sum=0->k<=5->Lp (dB a0 t) (OB r out k)=some (.inr (out,true)):=by
  intro r out k hr hS h0 hk;refine nA ?_;unfold dB OB;simp only;rw[aR (by omega),aG,vH hr,aB,lK hS,aG,h0,aR rfl,aG,pY ht hb0,aB,hT0]
 intro n;induction n with
 |zero=>
  intro r out k hr hS hT hn hl hk;have h0:r.dims.sum=0:=by have:=EO hS;omega
  have:=stop r out k hr hS h0 (by omega);simpa [Ex]using this
 |succ n ih=>
  intro r out k hr hS hT hn hl hk;by_cases h0:r.dims.sum=0
  .have:=stop r out k hr hS h0 (by omega);simpa [Ex,h0]using this
  .have hp:0<r.dims.sum:=by have:=EO hS;omega
   have M:=IL hr hS hT hp;have S:=iL hS;have hq:=Kk S M.T hS;have hs:=Pc S M.T;have h:=ih (wD r (Dj r t)) (out++[bG (Dj r t)]) (k+1) (RR hr S M.T) hq (Ld hr hS hT M.T) (by show(wW (Dj r t)).sum <=n;have:=M.p;omega) (by simp;omega) (by omega)
   have e:out++Ex t (n+1) r=(out++[bG (Dj r t)])++Ex t n (wD r (Dj r t)):=by
    rw[Ex,aQ h0,List.append_assoc];rfl
   rw[e,←h];refine AH ?_;have hl5:(Dj r t).length <=1048576:=by have:=M.T.P.len;have:=S.R.n5;omega
   unfold dB OB;simp only;rw[aR (by omega),aG,vH hr,aB,lK hS,aG,bP h0,aN,Jx hr ht,aB,M.e];simp only;rw[dR,aN,CC hr ⟨hl5,M.T.P.b⟩ M.T.P.sub,aB,aR (by omega),aG,aGh hr S M.T,aB,bW (show k<6 by omega) (by omega)]
theorem aDA{r:Rp}(hr:bR r){t:aA}(ht:bI t):nW r t=some (slR r t):=by
 have hbd:bI r.dims:=hr.2.1;unfold nW slR;have first:∀v,dB r t (OB r [] 0)=some (.inr v)->Lp (dB r t) (OB r [] 0)=some v:=λv h=>nA h
 cases hR:xN r with
 |false=>
  have hm:lD r t=some ([],false):=by
   rw[Jx hr ht];unfold HH;have:cK r=false:=by unfold cK;rw[hR];rfl
   rw[this];rfl
  have h:=first (.inr ([],false)) (by
   unfold dB OB;simp only;rw[aR (by omega),aG,vH hr,aB,hR,aN,bP (by omega),aN];rw[show(⟨r.p,⟨r.q.n,r.q.src,r.q.tgt⟩,r.dims,r.maps⟩:Rp)=r from rfl,hm]
   rfl)
  unfold OB at h;rw[h];rfl
 |true=>
  have hd:=(JI hR).1;have hnn:=(NX hd).1;rw[Bool.true_and];by_cases h0:r.dims.sum=0
  .have h:=first (.inr ([],zB t r.dims)) (by
    unfold dB OB;simp only
    rw[aR (by omega),aG,vH hr,aB,hR,aG,h0,aR rfl,aG,pY ht hbd,aB])
   unfold OB at h;rw[h,aR h0,Bool.true_or,Bool.and_true,aB];cases hT:zB t r.dims<;>simp[Ex,h0]
  .rw[bP h0,Bool.false_or];cases hB:zB t r.dims&&cK r with
   |true=>
    simp only[bX]at hB;have h:=aCz ht hbd hB.1 5 r [] 0 hr hB.2 hB.1 (iL hB.2).s (by simp) (by omega);unfold OB at h;rw[show((0:Nat):Int)=0 from rfl]at h;rw[h,aB,List.nil_append];rfl
   |false=>
    have hm:lD r t=some ([],false):=by
     rw[Jx hr ht];unfold HH
     have:(cK r&&(decide (0<r.dims.sum)&&zB t r.dims))=false:=by
      cases h1:cK r<;>cases h2:zB t r.dims<;>simp_all
     rw[this];rfl
    have h:=first (.inr ([],false)) (by
     unfold dB OB;simp only;rw[aR (by omega),aG,vH hr,aB,hR,aG,bP h0,aN];rw[show(⟨r.p,⟨r.q.n,r.q.src,r.q.tgt⟩,r.dims,r.maps⟩:Rp)=r from rfl,hm]
     rfl)
    unfold OB at h;rw[h];rfl
theorem aFw(t:aA):∀(n:Nat)(r:Rp),bR r->cK r=true->zB t r.dims=true->∀v∈Ex t n r,bI v
 |0,_,_,_,_=>by simp[Ex]
 |n+1,r,hr,hS,hT=>by
  unfold Ex;split
  .simp
  .rename_i h0;have hp:0<r.dims.sum:=by have:=EO hS;omega
   have M:=IL hr hS hT hp;have S:=iL hS;intro v hv;rcases eO.1 hv with rfl|hv
   .have:=M.T.P.len;have:=S.R.n5;unfold bI;rw[rB];omega
   .exact aFw t n _ (RR hr S M.T) (Kk S M.T hS) (Ld hr hS hT M.T) v hv
theorem aHq{r:Rp}(hr:bR r)(t:aA):(slR r t).1.length <=1048576/\∀v∈(slR r t).1,bI v:=by
 unfold slR;cases hA:xN r&&(zB t r.dims&&(decide (r.dims.sum=0)||cK r))with
 |false=>simp
 |true=>
  simp only[bX,Bool.or_eq_true,eD]at hA;rw[aG];refine⟨by have:=Ua t 5 r;simp only;omega,?_⟩;by_cases h0:r.dims.sum=0
  .simp[Ex,h0]
  .exact aFw t 5 r hr (hA.2.2.resolve_left h0) hA.2.1
end
section
theorem Wd{L:List Nat}{i:Nat}(h:i<L.length):cF (jN L) (i:Int)=some ((L[i]?.getD 0:Nat):Int):=by
 rw[gS (by rw[iN];exact h)];simp[jN,h]
theorem aAo{p:Int}{m:Nat}{F:Nat->Nat->Int}{t i:Nat}(h:i<(bK p m F t).2.length):(bK p m F t).2[i]?.getD 0<t:=In t _ (cE 0 h)
theorem RS{p:Int}(hp:lL p=true){m n:Nat}{F:Nat->Nat->Int}(hi:wF p m n F):(GP p n (bK p m F n).1 (bK p m F n).2).length=n-rkF p m n F:=by
 have h:=Cd hp hi n (bD _);have:=aCd h.inc (In n);unfold GP rkF;rw[dT];omega
theorem Fit.lA{a b:Rp}(h:Fit a b){v:Nat}(hv:v<a.dims.length):wr ((dN a v:Int)*(dN b v:Int))=((Proofs.YtppgeohlmkgpbaaGreat.lV a b v:Nat):Int):=by
 have:=h.lV hv;unfold Proofs.YtppgeohlmkgpbaaGreat.lV at*;rw[Nat.mul_comm]at this ⊢;exact Tl (by omega)
theorem Pd{a b:Rp}(h:Fit a b):Fo a b<=80:=by
 have bV:=h.offV (bD _);unfold Fo nV;omega
theorem aDB{α β:Type}{f:α->β}{l:List α}{k:Nat}(hk:k<l.length):(l.take k).map f++[f l[k]]=(l.take (k+1)).map f:=by rw[wX hk,List.map_append];rfl
theorem YF{L:List Nat}(hL:L.length<=1048576)(k:Nat):fY (jN L) (k:Int)=some (L.contains k):=by
 have hl:=iN L;unfold fY kE;rw[Gk (s0:=0) (s:=0) (n:=L.length) (λi=>bif decide ((k:Int)=(jN L)[i]?.getD 0)then some (i:Int)else none) rfl (by omega) (Nat.zero_le _) (λi _ hi=>?_) (λ_=>?_)]
 .rw[aB];cases e:(List.range' 0 (L.length-0)).findSome? (λi:Nat=>bif decide ((k:Int)=(jN L)[i]?.getD 0)then some (i:Int)else none)with
  |none=>
   rw[List.findSome?_eq_none_iff]at e
   have:L.contains k=false:=by
    rw[Bool.eq_false_iff];intro hc;have hm:k∈L:=by simpa using hc
    obtain⟨j,hj,e2⟩:=List.mem_iff_getElem.1 hm;have:=e j (by simp;omega);have hg:(jN L)[j]?.getD 0=(k:Int):=by simp[jN,hj,e2]
    rw[hg,aR rfl]at this;cases this
   rw[this];rfl
  |some i=>
   obtain⟨j,hj,he⟩:=List.exists_of_findSome?_eq_some e;simp at hj;have hjl:j<L.length:=by omega
   have hg:(jN L)[j]?.getD 0=((L[j]:Nat):Int):=by simp[jN,hjl]
   rw[hg]at he;by_cases c:(k:Int)=((L[j]:Nat):Int)
   .rw[aR c]at he;cases he
    have:L.contains k=true:=by
     have:k=L[j]:=by omega
     rw[this];simp
    rw[this];show(Option.bind (some ((j:Nat):Int)) λv1=>some (decide (0<=v1)))=some true;rw[aB,aR (by omega)]
   .rw[bP c]at he;cases he
 .unfold kU;rw[hl,jW hi,aG,kM 0 (by omega),aB];cases decide ((k:Int)=(jN L)[i]?.getD 0)<;>rfl
 .unfold kU;rw[hl,mG (bD _),aN]
theorem aAp(L:List Nat)(k:Nat):lP (k+1) L=lP k L++if L.contains k=true then []else [k]:=by
 unfold lP;rw[List.range_succ,List.filter_append];congr 1;cases h:L.contains k<;>simp at h<;>simp[h]
theorem We(n:Nat)(L:List Nat):(lP n L).length <=n:=by
 have:=List.length_filter_le (λk=> !L.contains k) (List.range n);simpa [lP]using this
theorem Wf{n k:Nat}{L:List Nat}(h:k∈lP n L):k<n:=List.mem_range.1 (List.mem_filter.1 h).1
theorem YG{n:Nat}{L:List Nat}(hn:n<=1048576)(hL:L.length<=1048576):fI (n:Int) (jN L)=some (jN (lP n L)):=by
 unfold fI;rw[cO (s:=(([]:aA),(0:Int))) (r:=jN (lP n L)) (λk=>(jN (lP k L),(k:Int))) n rfl (λk hk=>?_) (λ_=>?_),aB]
 .have h1:=We k L;unfold lQ;simp only;rw[jW hk,aG,YF hL,aB,aAp,bW hk (by omega)];cases hc:L.contains k
  .rw[Bool.not_false,aG,aR (by rw[iN];simp;omega),aG];simp[jN]
  .rw[dR,aN];simp
 .unfold lQ;simp only;rw[mG (bD _),aN]
theorem aDC{p x:Int}(hp:lL p=true)(hx:0<=x/\x<p):(wr (p-x)).tmod p=(-x)%p:=by
 have hb:=fN hp;rw[dM (by omega),Int.tmod_eq_emod_of_nonneg (by omega),show p-x= -x+p*1 by omega,Int.add_mul_emod_self_left]
theorem Mu{p:Int}{m n:Nat}{F:Nat->Nat->Int}(T:Tb p m n F):zX p ⟨m,n,bY m n F⟩=some (GP p n (bK p m F n).1 (bK p m F n).2):=by
 have hn:=T.hn;have hN:=T.hN;have hm:=T.hm;have hin:=xB (by have:=fN T.hp;omega:0<p) T.hi n;have hlen:=@yH p m F n;have hlen2:=@HW p m F n;have hget:=@aAo p m F n;unfold zX;rw[MW T,aB];simp only;generalize (bK p m F n).1=R at*;generalize (bK p m F n).2=L at*;rw[YG hn (by omega),aB];have hfl:=We n L;rw[cO (s:=(([]:aV),(0:Int))) (r:=GP p n R L) (λk=>(((lP n L).take k).map λk=>HY p n R L k L.length,(k:Int))) (lP n L).length (by rfl) (λk hk=>?_) (λ_=>?_),aB]
 .have hf:=Wf (List.getElem_mem hk);have ef:(lP n L)[k]?.getD 0=(lP n L)[k]:=by rw[dL hk];rfl
  unfold Cr;simp only;rw[iN,jW hk,aG,Wd hk,aB,ef,aR (by omega),aR (by omega:(n:Int)<=1048576),Bool.and_self,aG,fM,fM,gS (by simp;exact hf),aB];rw[cO (r:=HY p n R L (lP n L)[k] L.length) (λi=>(HY p n R L (lP n L)[k] i,(i:Int))) L.length (by rfl) (λi hi=>?_) (λ_=>?_),aB]
  .rw[aR (by simp only[dT,List.length_take];omega),aG,bW hk (by omega),aDB (f:=λk=>HY p n R L k L.length) hk]
  .have him:i<m:=by omega
   have b1:=hin i _ him hf;have hv:=hget hi;unfold Cq;simp only;rw[iN,jW hi,aG,Wd hi,aB,OX hN hm him,aB,zF hN him,Be hN hm him];simp only[fM,Nat.add_sub_cancel_left];rw[aR (by omega),aR (by omega),Bool.and_self,aG,Nat.zero_add,mR R him hf,aB,aCN T.hp,aG,gS (by rw[FG];exact hv),aB,aDC T.hp b1,bW hi (by omega)];rfl
  .unfold Cq;simp only;rw[iN,mG (bD _),aN]
 .unfold Cr;simp only;rw[iN,mG (bD _),aN,List.take_length];rfl
def dgN(P n c i:Nat):Nat:=c/P ^ (n-1-i)%P
theorem Pe{p:Int}(hp:lL p=true):((p.toNat:Nat):Int)=p/\2<=p.toNat/\p.toNat<=5:=by have:=fN hp;omega
theorem aHr{p:Int}(hp:lL p=true)(n c i:Nat):0<=(dgN p.toNat n c i:Int)/\(dgN p.toNat n c i:Int)<p:=by
 have:=Pe hp;have h:=Nat.mod_lt (c/p.toNat ^ (n-1-i)) (show p.toNat>0 by omega);unfold dgN;omega
theorem YH{p:Int}(hp:lL p=true){n c:Nat}(hn:n<=100)(hc:c<=1000000):AZ p (n:Int) (c:Int)=some (fQ n λi=>(dgN p.toNat n c i:Int)):=by
 obtain⟨e,e2,e5⟩:=Pe hp;unfold AZ;rw[aR (by omega),aR (by omega:(n:Int)<=1048576),Bool.and_self,aG,fM];rw[cO (r:=fQ n λi=>(dgN p.toNat n c i:Int)) (λt=>(((c/p.toNat ^ t:Nat):Int),fQ n (λi=>if n-t<=i then(dgN p.toNat n c i:Int)else 0),(n:Int)-1-t)) n ?_ (λt ht=>?_) (λ_=>?_),aB]
 .rw[dM (by omega),TE];simp only[Nat.pow_zero,Nat.div_one,Nat.sub_zero];congr 2
  .exact Cx λj hj=>by rw[aQ (by omega)]
  .omega
 .have ei:(n:Int)-1-(t:Int)=((n-1-t:Nat):Int):=by omega
  have hq:c/p.toNat ^ t<=c:=Nat.div_le_self _ _;have hq2:c/p.toNat ^ (t+1)<=c:=Nat.div_le_self _ _;unfold As;simp only;rw[ei,aR (by omega),aG,aCN hp,aG,He _ (by omega),aB,aG,fM,Int.tmod_eq_emod_of_nonneg (Int.natCast_nonneg _),Int.tdiv_eq_ediv_of_nonneg (Int.natCast_nonneg _),WC (by omega)]
  have e3:((c/p.toNat ^ t:Nat):Int)/p=((c/p.toNat ^ (t+1):Nat):Int):=by
   rw[Nat.pow_succ,←Nat.div_div_eq_div_mul];generalize c/p.toNat ^ t=q;rw[Int.natCast_ediv,e]
  have e4:((c/p.toNat ^ t:Nat):Int)%p=(dgN p.toNat n c (n-1-t):Int):=by
   unfold dgN;rw[show n-1-(n-1-t)=t by omega,Int.natCast_emod,e]
  rw[e3,e4,dM ⟨Int.le_trans (by decide) (Int.natCast_nonneg _),Int.le_trans (Int.ofNat_le.2 (Nat.le_trans hq2 hc)) (by decide)⟩,dM (by omega)];congr 4
  .refine Cx λj hj=>?_;by_cases e6:j=n-1-t
   .rw[aP e6,aP (by omega),e6]
   .rw[aQ e6];by_cases e7:n-t<=j
    .rw[aP e7,aP (by omega)]
    .rw[aQ e7,aQ (by omega)]
  .omega
 .unfold As;simp only;rw[bP (by omega),aN];congr 2;exact Cx λj hj=>by rw[aP (by omega)]
def CM(a b:Rp)(g:Nat->Int):bJ:=(List.range a.dims.length).map λv=>(⟨dN b v,dN a v,fQ (lV a b v) λy=>g (jL (lV a b) v+y)⟩:Mt)
def HJ(x:aA):Nat->Int:=λk=>x[k]?.getD 0
theorem aGi{l:Nat->Nat}{x:aA}{k:Nat}(h:x.length=jL l k):x=RC l (λv y=>HJ x (jL l v+y)) k:=
 PY h λi y hi hy=>by
  have:=EH hi hy;unfold HJ;rw[dL (by omega),dI]
theorem ZQ{n:Nat}{g:Nat->Int}{k:Nat}(h:k<n):HJ (fQ n g) k=g k:=by simp[HJ,fQ,h]
theorem aDD{a b:Rp}(h:Fit a b){x:aA}(hx:x.length=nV a b):vE ((List.range a.dims.length).map λv=>(⟨dN b v,dN a v,bY (dN b v) (dN a v) λ_ _=>0⟩:Mt)) x=some (CM a b (HJ x)):=by
 have n5:=h.ra.n5;have bV:=h.offV (bD _);have:=WK (k:=a.dims.length) (l:=lV a b) (r:=λv=>(dN b v:Int)) (c:=λv=>(dN a v:Int)) (z:=λv=>bY (dN b v) (dN a v) λ_ _=>0) (f:=λv y=>HJ x (jL (lV a b) v+y)) (by omega) (by omega) (λv _=>gJ _ _ _);rw[←aGi hx]at this;exact this
theorem aHs{α β:Type}{l:List α}{f:α->β}{body:List β×Int->Option ((List β×Int) ⊕ List β)}(hl:l.length<=4611686018427387904)
  (hs:∀(k:Nat)(hk:k<l.length)(o:List β),o.length=k->body (o,k)=some (.inl (o++[f l[k]],wr (k+1)))) (he:∀o,body (o,l.length)=some (.inr o)):Lp body ([],0)=some (l.map f):=by
 rw[cO (r:=l.map f) (λk=>((l.take k).map f,(k:Int))) l.length (by simp) (λk hk=>?_) (λ_=>?_)]
 .rw[hs k hk _ (by simp;omega),bW hk hl,wX hk,List.map_append];rfl
 .rw[he,List.take_length]
def Ry(a b:Rp):aV:=GP a.p (nV a b) (bK a.p (nE a b) (mE a b) (nV a b)).1 (bK a.p (nE a b) (mE a b) (nV a b)).2
def hmB(a b:Rp):List bJ:=(Ry a b).map λx=>CM a b (HJ x)
theorem Hs{a b:Rp}(h:Fit a b):(Ry a b).length=Fo a b:=RS h.ra.hp (WL h)
theorem ZR{a b:Rp}(h:Fit a b){x:aA}(hx:x∈Ry a b):x.length=nV a b/\∀z∈x,0<=z/\z<a.p:=by
 unfold Ry GP at hx;obtain⟨k,_,rfl⟩:=List.mem_map.1 hx;exact⟨FG _ _ _ _ _ _,PQ h.ra.hp _ _ _ _ _⟩
theorem Wg{a b:Rp}(h:Fit a b):AY a b=some (hmB a b):=by
 have hl:=Hs h;have hd:=Pd h;unfold AY;rw[US h,aB,Mu (aHk h),aB];show(Lp (uG a b (Ry a b)) ([],0)).bind _=_;rw[aHs (l:=Ry a b) (f:=λx=>CM a b (HJ x)) (by omega) (λk hk o ho=>?_) (λo=>?_)]
 .rfl
 .unfold uG;simp only;rw[jW hk,aG,gS hk,aB,UP h,aB,aDD h (ZR h (List.getElem_mem hk)).1,aB,aR (by omega),aG]
 .unfold uG;simp only;rw[mG (bD _),aN]
def Wz(a b:Rp)(c:Nat):Nat->Int:=λk=>sN (λi=>(dgN a.p.toNat (Fo a b) c i:Int)*bN (Ry a b) i k) (Fo a b)%a.p
theorem aEs{a b:Rp}(h:Fit a b){i k:Nat}(hi:i<Fo a b)(hk:k<nV a b):0<=bN (Ry a b) i k/\bN (Ry a b) i k<a.p:=by
 have hl:=Hs h;have hm:=ZR h (List.getElem_mem (show i<(Ry a b).length by omega));have e:(Ry a b)[i]?.getD []=(Ry a b)[i]'(by omega):=by rw[dL (by omega),dI]
 unfold bN;rw[e,dL (by omega),dI];exact hm.2 _ (List.getElem_mem _)
theorem Mv{l:aV}{i:Nat}(hi:i<l.length):HJ l[i]=bN l i:=by
 funext k;unfold HJ bN;rw[dL hi,dI]
theorem aEt{a b:Rp}(h:Fit a b){i:Nat}(hi:i<Fo a b):cF (hmB a b) (i:Int)=some (CM a b (bN (Ry a b) i)):=by
 have hl:=Hs h;unfold hmB;rw[gS (by rw[dT];omega),List.getElem_map,Mv (by omega)]
def paF(a b:Rp)(c t:Nat):Nat->Int:=λk=>sN (λi=>(dgN a.p.toNat (Fo a b) c i:Int)*bN (Ry a b) i k) t%a.p
theorem RT{α:Type}(n k:Nat)(f:Nat->α)(v:α):((List.range n).map f).set k v=(List.range n).map λi=>if i=k then v else f i:=by
 refine List.ext_getElem (by simp) λt h1 h2=>?_;rw[List.getElem_set,List.getElem_map,List.getElem_map,List.getElem_range];by_cases e:k=t
 .rw[aP e,aP e.symm]
 .rw[aQ e,aQ λh=>e h.symm]
theorem TQ(n:Nat)(f:Nat->Int):bY 1 n (λ_=>f)=fQ n f:=by
 unfold bY fQ;rw[Nat.one_mul];refine rQ λy hy=>?_;rw[Nat.mod_eq_of_lt (List.mem_range.1 hy)]
theorem aAr{p:Int}(hp:lL p=true){n:Nat}(hn:n<=1048576){f g:Nat->Int}{k:Int}(hk:0<=k/\k<=5)(hf:∀b,b<n->0<=f b/\f b<p)(hg:∀b,b<n->0<=g b/\g b<p):
  eX p (fQ n f) 0 n k (fQ n g)=some (fQ n λb=>(f b+k*g b)%p):=by
 have:=MU (r:=1) (i:=0) hp hn (by omega) (F:=λ_=>f) hk hf hg;rw[Nat.zero_mul,TQ]at this;rw[this];congr 1;rw[←TQ];exact cC λi j hi hj=>by simp only[Ol];rw[aP (by omega)]
theorem YI{a b:Rp}(h:Fit a b){c:Nat}(hc:c<=1000000):Aa a b (hmB a b) (c:Int)=some (CM a b (Wz a b c)):=by
 have hl:=Hs h;have hd:=Pd h;have hp:=fN h.ra.hp;have n5:=h.ra.n5;have bV:=h.offV (bD _);have hV:nV a b<=80:=bV;unfold Aa;have el:((hmB a b).length:Int)=(Fo a b:Int):=by unfold hmB;rw[dT,hl]
 rw[el,YH h.ra.hp (by omega) hc,aB];unfold EG;rw[UP h,aB];rw[cO (r:=CM a b (Wz a b c)) (λi=>(CM a b (paF a b c i),(i:Int))) (Fo a b) ?_ (λi hi=>?_) (λ_=>?_),aB,aB]
 .unfold CM paF;congr 1
 .have hdg:=aHr h.ra.hp (Fo a b) c i;unfold Av;simp only;rw[show decide ((i:Int)<((hmB a b).length:Int))=true from aR (by rw[el];omega),aG,aEt h hi,aB];rw[cO (r:=CM a b (paF a b c (i+1))) (λv=>((List.range a.dims.length).map λw=>(⟨dN b w,dN a w,fQ (lV a b w) λy=>paF a b c (if w<v then i+1 else i) (jL (lV a b) w+y)⟩:Mt),(v:Int))) a.dims.length ?_ (λv hv=>?_) (λ_=>?_),aB,bW hi (by omega)]
  .congr 1
  .have hlv:=h.lV hv;have hov:∀y,y<lV a b v->jL (lV a b) v+y<nV a b:=λy hy=>EH hv hy;unfold Au;simp only;rw[show decide ((v:Int)<((CM a b (bN (Ry a b) i)).length:Int))=true from aR (by unfold CM;simp;exact hv),aG];rw[show cF (CM a b (bN (Ry a b) i)) (v:Int)=some (⟨dN b v,dN a v,fQ (lV a b v) λy=>bN (Ry a b) i (jL (lV a b) v+y)⟩:Mt) from Eo hv,aB,Eo hv,aB,He _ hi,aB];simp only;rw[fZ,aQ (Nat.lt_irrefl _),aAr (f:=λy=>paF a b c i (jL (lV a b) v+y)) h.ra.hp (by omega) (by omega) (λy hy=>yP h.ra.hp) (λy hy=>aEs h hi (hov y hy)),aB,fZ,aR rfl,aG,fM,RT,bW hv (by omega)];congr 3;refine rQ λw hw=>?_;by_cases e:w=v
   .subst e;rw[aP rfl,aP (by omega)];congr 1;refine Cx λy hy=>?_;unfold paF;rw[sN,Int.emod_add_emod]
   .rw[aQ e];by_cases e2:w<v
    .rw[aP e2,aP (by omega)]
    .rw[aQ e2,aQ (by omega)]
  .unfold Au;simp only;rw[show decide ((a.dims.length:Int)<((CM a b (bN (Ry a b) i)).length:Int))=false from bP (by unfold CM;simp),aN];congr 2;unfold CM;refine rQ λw hw=>?_;rw[aP (List.mem_range.1 hw)]
 .unfold Av;simp only;rw[show decide ((Fo a b:Int)<((hmB a b).length:Int))=false from bP (by rw[el];omega),aN];rfl
theorem aEu(g:Nat->Int):∀n,sN g (n+1)=g 0+sN (λs=>g (s+1)) n
 |0=>by simp[sN]
 |n+1=>by rw[sN,aEu g n,sN];omega
def gM(a b:Rp)(g:Nat->Int)(v:Nat):Nat->Nat->Int:=λr k=>g (jL (lV a b) v+(r*dN a v+k))
theorem aAs(a b:Rp)(g:Nat->Int):CM a b g=(List.range a.dims.length).map λv=>(⟨dN b v,dN a v,bY (dN b v) (dN a v) (gM a b g v)⟩:Mt):=by
 unfold CM;refine rQ λv hv=>?_;congr 1;exact aCc λy hy=>by unfold gM;rw[JF]
def InG(a b:Rp)(g:Nat->Int):Prop:=∀k,k<nV a b->0<=g k/\g k<a.p
theorem InG.inP{a b:Rp}{g:Nat->Int}(hg:InG a b g){v:Nat}(hv:v<a.dims.length):wF a.p (dN b v) (dN a v) (gM a b g v):=λr k hr hk=>hg _ (EH hv (Ik hr hk))
theorem aFx{a b:Rp}(h:Fit a b)(c:Nat):InG a b (Wz a b c):=λk _=>yP h.ra.hp
theorem CN(c x:Nat->Int)(u:Nat->Nat->Int)(N:Nat):∀n,sN (λt=>c t*sN (λq=>x q*u q t) N) n=sN (λq=>x q*sN (λt=>c t*u q t) n) N
 |0=>by
  rw[cD (f:=λq=>x q*sN (λt=>c t*u q t) 0) (g:=λ_=>0) (n:=N) λq _=>by simp[sN],wG];rfl
 |n+1=>by
  rw[sN,CN c x u N n,←QK,←QJ];refine cD λq _=>?_;rw[sN,Int.mul_add,Int.mul_left_comm (c n)]
theorem GM{p:Int}{n:Nat}{f x y:Nat->Int}(h:∀k,k<n->x k%p=y k%p):dt n f x%p=dt n f y%p:=by
 unfold dt;refine KV λk hk=>?_;rw[Int.mul_emod,h k hk,←Int.mul_emod]
theorem aDE{p:Int}{f:Nat->Int}:∀{n:Nat},(∀k,k<n->Z0 p (f k))->Z0 p (sN f n)
 |0,_=>by unfold Z0;simp[sN]
 |n+1,h=>QL (aDE λk hk=>h k (by omega)) (h n (by omega))
theorem Ub{p:Int}{m n:Nat}{F:Nat->Nat->Int}{L:List Nat}(h:Red m n F L){k:Nat}(hk:k<n)(hL:∀i,i<L.length->L[i]?.getD 0≠k):∀t,t<=L.length->∀c,c<n->HJ (HY p n F L k t) c%p=(if c=k then 1 else -(sN (λi=>if L[i]?.getD 0=c then F i k else 0) t))%p
 |0,_,c,hc=>by
  unfold HY HJ;rw[List.getElem?_set,List.length_replicate];by_cases e:c=k
  .rw[aP e.symm,aP hk,aP e];rfl
  .rw[aQ λh=>e h.symm,aQ e];simp[hc,sN]
 |t+1,ht,c,hc=>by
  have ih:=Ub (p:=p) h hk hL t (by omega) c hc;have hlt:=h.lt t (by omega);have hne:=hL t (by omega);unfold HY HJ;rw[List.getElem?_set,FG];by_cases e:L[t]?.getD 0=c
  .rw[aP e,aP (by omega),dI,Int.emod_emod_of_dvd _ (Int.dvd_refl p),aQ (by omega),sN,aP e];rw[cD (g:=λ_=>0) λi hi=>?_,wG,Int.zero_add];rw[aQ];intro e2;have:=h.inc i t hi (by omega);omega
  .rw[aQ e];refine ih.trans ?_;rw[sN,aQ e,Int.add_zero]
theorem aDF{p:Int}(hp:lL p=true){m n:Nat}{F:Nat->Nat->Int}(hi:wF p m n F){x:aA}(hx:x∈GP p n (bK p m F n).1 (bK p m F n).2):Kr p m n F (HJ x):=by
 have hR:=Cd hp hi n (bD _);unfold GP at hx;obtain⟨k,hk,rfl⟩:=List.mem_map.1 hx;have hk1:=Wf hk
 have hL:∀i,i<(bK p m F n).2.length->(bK p m F n).2[i]?.getD 0≠k:=by
  intro i hi e;have h2:=(List.mem_filter.1 hk).2;have h3:k∈(bK p m F n).2:=by rw[←e];exact cE 0 hi
  simp[h3]at h2
 refine(DH hp hi _ n (bD _)).1 λi him=>?_;have h1:=Iq (p:=p) hR hk1 hL i him;refine xC (GM λc hc=>?_) h1;exact(Ub hR hk1 hL _ (bD _) c hc).symm
theorem aHt{a b:Rp}(h:Fit a b)(c:Nat):Kr a.p (nE a b) (nV a b) (mE a b) (Wz a b c):=by
 intro i hi
 have e1:dt (nV a b) (mE a b i) (Wz a b c)%a.p=dt (nV a b) (mE a b i) (λk=>sN (λj=>(dgN a.p.toNat (Fo a b) c j:Int)*bN (Ry a b) j k) (Fo a b))%a.p:=
  GM λk hk=>by unfold Wz;exact Int.emod_emod_of_dvd _ (Int.dvd_refl _)
 refine xC e1.symm ?_;unfold dt;rw[CN (mE a b i) (λj=>(dgN a.p.toNat (Fo a b) c j:Int)) (bN (Ry a b)) (Fo a b) (nV a b)];refine aDE λj hj=>Dm _ ?_;have hl:=Hs h;have hm:=aDF h.ra.hp (WL h) (List.getElem_mem (show j<(Ry a b).length by omega)) i hi;rw[Mv (by omega)]at hm;exact hm
def uU(a b:Rp)(q:Nat):Nat->Nat->Nat->Int:=λv j l=>if jL (lV a b) v+(j*dN a v+l)=q then 1 else 0
def dP(a b:Rp)(P:Nat->Nat->Nat->Int)(i r k:Nat):Int:=Dy (aF b i) (P (sV a i)) r k (dN b (sV a i))-Dy (P (tV a i)) (aF a i) r k (dN a (tV a i))
theorem aGj{a b:Rp}(P:Nat->Nat->Nat->Int)(i r k:Nat):RE a b P i r k=dP a b P i r k%a.p:=by
 unfold RE dP nL;generalize Dy (aF b i) (P (sV a i)) r k (dN b (sV a i))=x;generalize Dy (P (tV a i)) (aF a i) r k (dN a (tV a i))=y;rw[show x%a.p+(a.p-1)*(y%a.p)=(x%a.p-y%a.p)+a.p*(y%a.p) by rw[Int.sub_mul];omega,Int.add_mul_emod_self_left];exact(Int.sub_emod x y a.p).symm
theorem aDG{a b:Rp}(x:Nat->Int){v j l:Nat}(hv:v<a.dims.length)(hj:j<dN b v)(hl:l<dN a v):gM a b x v j l=sN (λq=>x q*uU a b q v j l) (nV a b):=by
 rw[BT (n:=nV a b) (j:=jL (lV a b) v+(j*dN a v+l)) (EH hv (Ik hj hl))]
 .unfold uU gM;rw[aP rfl,Int.mul_one]
 .intro q _ hq;unfold uU;rw[aQ λe=>hq e.symm,Int.mul_zero]
section
variable {a b:Rp}(h:Fit a b){i r k:Nat}(hi:i<a.q.src.length)(hr:r<dN b (tV a i))(hk:k<dN a (sV a i))
include h hi hr hk
theorem aGk(x:Nat->Int):dP a b (gM a b x) i r k=sN (λq=>x q*dP a b (uU a b q) i r k) (nV a b):=by
 have hs:=(h.ra.s i hi).2;have ht:=(h.ra.t i hi).2;unfold dP;simp only[Hl]
 have e1:sN (λt=>aF b i r t*gM a b x (sV a i) t k) (dN b (sV a i))=sN (λq=>x q*sN (λt=>aF b i r t*uU a b q (sV a i) t k) (dN b (sV a i))) (nV a b):=by
  rw[←CN (aF b i r) x (λq t=>uU a b q (sV a i) t k)];exact cD λt ht2=>by rw[aDG x hs ht2 hk]
 have e2:sN (λt=>gM a b x (tV a i) r t*aF a i t k) (dN a (tV a i))=sN (λq=>x q*sN (λt=>uU a b q (tV a i) r t*aF a i t k) (dN a (tV a i))) (nV a b):=by
  have:=CN (λt=>aF a i t k) x (λq t=>uU a b q (tV a i) r t) (nV a b) (dN a (tV a i));rw[cD (f:=λt=>gM a b x (tV a i) r t*aF a i t k) (g:=λt=>aF a i t k*sN (λq=>x q*uU a b q (tV a i) r t) (nV a b)) λt ht2=>by rw[aDG x ht hr ht2,Int.mul_comm],this];exact cD λq _=>by rw[cD λt _=>Int.mul_comm _ _]
 rw[e1,e2];have e3:∀f g:Nat->Int,sN f (nV a b)-sN g (nV a b)=sN (λq=>f q+(-1)*g q) (nV a b):=λf g=>by rw[QJ,QK];omega
 rw[e3];exact cD λq _=>by rw[Int.mul_sub];omega
theorem aEv{q:Nat}(hq:q<nV a b):dP a b (uU a b q) i r k%a.p=mE a b (jL (lE a b) i+(r*dN a (sV a i)+k)) q:=by
 obtain⟨v0,z0,hv0,hz0,ek⟩:=Jr hq;have hs:=(h.ra.s i hi).2;have ht:=(h.ra.t i hi).2;have hc:=WM h hv0 hz0 hi hr hk;have hy:r*dN a (sV a i)+k<lE a b i:=Ik hr hk
 have e:∀v j l,v<a.dims.length->j<dN b v->l<dN a v->uU a b q v j l=UR a v0 z0 v j l:=by
  intro v j l hv hj hl;unfold uU UR;rw[ek];by_cases e1:jL (lV a b) v+(j*dN a v+l)=jL (lV a b) v0+z0
  .rw[aP e1];have:=ZH (l:=lV a b) (Ik hj hl) hz0 e1;rw[aP this]
  .rw[aQ e1,aQ];rintro⟨rfl,rfl⟩;exact e1 rfl
 have e2:dP a b (uU a b q) i r k=dP a b (UR a v0 z0) i r k:=by
  unfold dP;simp only[Hl];rw[cD λt ht2=>by rw[e _ t k hs ht2 hk],cD (f:=λt=>uU a b q (tV a i) r t*aF a i t k) λt ht2=>by rw[e _ r t ht hr ht2]]
 rw[e2,←aGj,hc];unfold mE;rw[DN _ hi hy,dI,ek,DN _ hv0 hz0,dI];unfold Proofs.YtppgeohlmkgpbaaGreat.e2;rw[Kw hk,Kx hk]
theorem aHu(c:Nat):nL a.p (dN b (sV a i)) (aF b i) (gM a b (Wz a b c) (sV a i)) r k=nL a.p (dN a (tV a i)) (gM a b (Wz a b c) (tV a i)) (aF a i) r k:=by
 have h1:=aGk h hi hr hk (Wz a b c);have h2:=aHt h c (jL (lE a b) i+(r*dN a (sV a i)+k)) (EH hi (Ik hr hk))
 have h3:dP a b (gM a b (Wz a b c)) i r k%a.p=0:=by
  rw[h1];refine(KV (g:=λq=>mE a b (jL (lE a b) i+(r*dN a (sV a i)+k)) q*Wz a b c q) λq hq=>?_).trans h2;rw[Int.mul_emod,aEv h hi hr hk hq,Int.mul_comm (mE _ _ _ _),Int.mul_emod (Wz a b c q) (mE a b _ q)];congr 2;exact(Int.emod_eq_of_lt (WL h _ _ (EH hi (Ik hr hk)) hq).1 (WL h _ _ (EH hi (Ik hr hk)) hq).2).symm
 unfold nL;exact Int.emod_eq_emod_iff_emod_sub_eq_zero.2 h3
end
def Lk(P:Nat):Nat->Nat
 |0=>1
 |k+1=>if Lk P k<=100000 then Lk P k*P else Lk P k
theorem YJ{P:Nat}(h5:P<=5):∀k,Lk P k<=500000
 |0=>by simp[Lk]
 |k+1=>by
  unfold Lk;split
  .rename_i h;exact Nat.le_trans (Nat.mul_le_mul h h5) (by decide)
  .exact YJ h5 k
theorem Wh{P:Nat}:∀{k n:Nat},k<=n->100000<Lk P k->Lk P n=Lk P k
 |k,0,h,_=>by rw[show k=0 by omega]
 |k,n+1,h,g=>by
  rcases dX n k with h'|h'
  .rw[show k=n+1 by omega]
  .have ih:=Wh h' g;show(if Lk P n<=100000 then Lk P n*P else Lk P n)=_;rw[aQ (by omega),ih]
theorem JM{p:Int}(hp:lL p=true){n:Nat}(hn:n<=1000):sT p (n:Int)=some (Lk p.toNat n:Int):=by
 obtain⟨e,e2,e5⟩:=Pe hp
 have key:∀d k,k+d=n->Lp (nO p (n:Int)) ((Lk p.toNat k:Int),(k:Int))=some (Lk p.toNat n:Int):=by
  intro d;induction d with
  |zero=>
   intro k hk;rw[Nat.add_zero]at hk;subst hk;refine nA ?_;unfold nO;simp only;rw[mG (bD _),aN]
  |succ d ih=>
   intro k hk;have hb:=YJ e5 k;by_cases h:Lk p.toNat k<=100000
   .rw[←ih (k+1) (by omega)];refine AH ?_;unfold nO;simp only;rw[jW (by omega),aG,aR (by omega),aG]
    have e3:wr ((Lk p.toNat k:Int)*p)=(Lk p.toNat (k+1):Int):=by
     rw[show Lk p.toNat (k+1)=Lk p.toNat k*p.toNat from aP h,Int.natCast_mul,e];have:=YJ e5 (k+1);rw[show Lk p.toNat (k+1)=Lk p.toNat k*p.toNat from aP h]at this;have h2:((Lk p.toNat k*p.toNat:Nat):Int)=(Lk p.toNat k:Int)*p:=by rw[Int.natCast_mul,e]
     rw[dM (by rw[←h2];omega)]
    rw[e3,bW (show k<n by omega) (by omega)]
   .rw[Wh (show k<=n by omega) (by omega)];refine nA ?_;unfold nO;simp only;rw[jW (by omega),aG,bP (by omega),aN]
 unfold sT;have h0:=key n 0 (by omega);rw[show((Lk p.toNat 0:Nat):Int)=1 from rfl,show((0:Nat):Int)=0 from rfl]at h0;rw[h0,aB]
def Oa(a b:Rp):Nat:=min (Lk a.p.toNat (Fo a b)) 3000
end
noncomputable section
def ldN(s:aI)(v j:Nat):Nat:=((YD (sG s v))[j]?.getD 0).toNat
theorem aHv{r:Rp}{s:aI}(T:PartT r s){v j:Nat}(hv:v<r.dims.length)(hj:j<kN s v):(YD (sG s v))[j]?.getD 0=(ldN s v j:Int)/\ldN s v j<dN r v:=by
 have:=(T.q v hv).l1 j hj;unfold ldN;omega
def bcF(s:aI)(v:Nat):Nat->Nat->Int:=λt b=>bN (sG s v).basis b t
def suW(r:Rp)(s:aI)(i:Nat):Nat->Nat->Int:=nL r.p (dN r (sV r i)) (aF r i) (bcF s (sV r i))
def aEz(r:Rp)(s:aI)(i:Nat):Nat->Nat->Int:=λa b=>suW r s i (ldN s (tV r i) a) b
def Wi(r:Rp)(s:aI)(i:Nat):Mt:=⟨(kN s (tV r i):Nat),(kN s (sV r i):Nat),bY (kN s (tV r i)) (kN s (sV r i)) (aEz r s i)⟩
def Fq(r:Rp)(s:aI):Rp:=⟨r.p,r.q,bG s,(List.range r.maps.length).map (Wi r s)⟩
def inM(x:Sc):Mt:=aAT x.size.toNat x.basis
theorem aGl{r:Rp}{s:aI}{i b k:Nat}(hk:k<dN r (tV r i)):(RG r.p (dN r (tV r i)) (dN r (sV r i)) (aF r i) ((sG s (sV r i)).basis[b]?.getD []))[k]?.getD 0=suW r s i k b:=by
 unfold RG suW nL;rw[Hl];unfold fQ;rw[List.getElem?_map,List.getElem?_range hk];show Dy _ _ _ _ _%_=_;rw[Hl];rfl
theorem CO{r:Rp}{s:aI}(T:PartT r s){v:Nat}(hv:v<r.dims.length):(bG s)[v]?.getD 0=(kN s v:Int)/\kN s v<=dN r v:=by
 have h1:=T.P.len;have h2:=(eG T.P.sub).2.2 v hv;unfold bG;rw[List.getElem?_map,dL (by omega),Option.map_some,dI,CL];exact⟨rfl,h2.len⟩
section
variable {r:Rp}{s:aI}(hr:bR r)(S:Sm r)(T:PartT r s)
include hr S T
def suB(r:Rp)(s:aI)(i:Nat):bJ:=(List.range r.maps.length).map λk=>if k<i then Wi r s k else zeM r (kN s) k
def suI(r:Rp)(s:aI)(i a b:Nat):Mt:=⟨(kN s (tV r i):Nat),(kN s (sV r i):Nat),bY (kN s (tV r i)) (kN s (sV r i)) λx y=>if x<a∨(x=a/\y<b)then aEz r s i x y else 0⟩
theorem aDI:DL r s=some (Fq r s,s.map inM,true):=by
 have h5:=S.R.n5;have h6:=S.R.e6;have hml:=S.R.ml;have hsl:=T.P.len;unfold DL;rw[Js hr ⟨by omega,T.P.b⟩,aB,T.P.sub,dR,aN];rw[cO (r:=(bG s,s.map inM)) (λk=>(bG (s.take k),(s.take k).map inM,(k:Int))) s.length (by rfl) (λv hv=>?_) (λ_=>?_),aB]
 .simp only;rw[Wc S.R hr (d:=bG s) (by rw[rB];exact hsl) (f:=kN s) (λv hv=>⟨(CO T hv).1,by have:=(CO T hv).2;have:=S.d v hv;omega⟩),aB];simp only;rw[cO (r:=(List.range r.maps.length).map (Wi r s)) (λk=>(suB r s k,(k:Int))) r.maps.length (by simp[suB]) (λi hi=>?_) (λ_=>?_),aB]
  .rfl
  .have hi':i<r.q.src.length:=by omega
   have hs:=(S.R.s i hi').2;have ht:=(S.R.t i hi').2;have d1:=S.d _ hs;have d2:=S.d _ ht;have k1:=(CO T hs).2;have k2:=(CO T ht).2;obtain⟨hM,hMi⟩:=S.R.m i hi';have P:=(eG T.P.sub).2.2 _ hs;have hq:Qx r.p (dN r (tV r i)) (kN s (tV r i)) (sG s (tV r i)):=T.q _ ht;have m2:=Nat.mul_le_mul d2 d1;have m4:=Nat.mul_le_mul d1 (show kN s (sV r i)<=2 by omega);have m5:=Nat.mul_le_mul (show kN s (tV r i)<=2 by omega) (show kN s (sV r i)<=2 by omega);have m6:=Nat.mul_le_mul d2 (show kN s (sV r i)<=2 by omega);have hbl:(suB r s i).length=r.maps.length:=by simp[suB]
   have e2:((s.map inM)[sV r i]?.getD ⟨0,0,[]⟩:Mt)=⟨(dN r (sV r i):Nat),(kN s (sV r i):Nat),bY (dN r (sV r i)) (kN s (sV r i)) (bcF s (sV r i))⟩:=by
    rw[List.getElem?_map,dL (by omega),Option.map_some,dI,CL];unfold inM aAT;rw[P.size,fM];rfl
   have at_i:∀M:Mt,cF ((suB r s i).set i M) (i:Int)=some M:=λM=>by
    rw[gS (by simp;omega)];simp
   unfold Cw;simp only;rw[jW hi,aG,kM ⟨0,0,[]⟩ hi,aB,hM,kM 0 hi',aB,(S.R.s i hi').1,kM ⟨0,0,[]⟩ (by simp;omega),aB,e2,Ei S.R.hp (by omega) (by omega) (by omega) (by omega) (by omega) (by omega) hMi (show wF r.p (dN r (sV r i)) (kN s (sV r i)) (bcF s (sV r i)) from ZI P.vecs),aB,kM 0 (by have:=S.R.tl;omega),aB,(S.R.t i hi').1,kM ⟨0,[]⟩ (by omega),aB];rw[show(s[tV r i]?.getD ⟨0,[]⟩:Sc)=sG s (tV r i) from rfl,hq.l12,aB];rw[cO (r:=(suB r s i).set i (suI r s i (kN s (tV r i)) 0)) (λa=>((suB r s i).set i (suI r s i a 0),(a:Int))) (kN s (tV r i)) ?_ (λa ha=>?_) (λ_=>?_),aB]
   .rw[bW hi (by omega)];congr 3;unfold suB;rw[DO];refine rQ λj hj=>?_;by_cases e:j=i
    .rw[aP e,aP (by omega),e];unfold suI Wi;congr 1;exact cC λx y hx hy=>by rw[aP (by omega)]
    .rw[aQ e];by_cases e2:j<i
     .rw[aP e2,aP (by omega)]
     .rw[aQ e2,aQ (by omega)]
   .congr 1;unfold suB;rw[DO];refine rQ λj hj=>?_;by_cases e:j=i
    .rw[aP e,aQ (by omega),e];unfold suI zeM;congr 1;exact cC λx y hx hy=>by rw[aQ (by omega)]
    .rw[aQ e]
   .obtain⟨f1,f2⟩:=aHv T ht ha;unfold Cv;simp only;rw[at_i,aB,show(suI r s i a 0).rows=(kN s (tV r i):Nat) from rfl,jW ha,aG,fM,List.set_set];rw[cO (r:=(suB r s i).set i (suI r s i (a+1) 0)) (λb=>((suB r s i).set i (suI r s i a b),(b:Int))) (kN s (sV r i)) (by rfl) (λb hb=>?_) (λ_=>?_),aB,bW ha (by omega)]
    .unfold Ct;simp only;rw[at_i,aB,show(suI r s i a b).cols=(kN s (sV r i):Nat) from rfl,jW hb,aG,fM,List.set_set,at_i,aB,kM 0 (by rw[hq.ll];exact ha),aB,f1,UD (by omega) f2 hb,aB];unfold suI;simp only;rw[UD (by omega) ha hb,aB,UE (by omega) ha hb,List.set_set,bW hb (by omega)];congr 5;refine cC λx y hx hy=>?_;simp only[Il];by_cases e:x=a/\y=b
     .rw[aP e,aP (by omega),e.1,e.2];rfl
     .rw[aQ e];by_cases e2:x<a∨x=a/\y<b
      .rw[aP e2,aP (by omega)]
      .rw[aQ e2,aQ (by omega)]
    .unfold Ct;simp only;rw[at_i,aB,show(suI r s i a (kN s (sV r i))).cols=(kN s (sV r i):Nat) from rfl,mG (bD _),aN,fM,List.set_set];congr 3;unfold suI;congr 1;refine cC λx y hx hy=>?_;by_cases e2:x<a+1
     .rw[aP (by omega),aP (by omega)]
     .rw[aQ (by omega),aQ (by omega)]
   .unfold Cv;simp only;rw[at_i,aB,show(suI r s i (kN s (tV r i)) 0).rows=(kN s (tV r i):Nat) from rfl,mG (bD _),aN,fM,List.set_set]
  .unfold Cw;simp only;rw[mG (bD _),aN];congr 2;exact rQ λj hj=>by rw[aP (List.mem_range.1 hj)]
 .have hv':v<r.dims.length:=by omega
  have P:=(eG T.P.sub).2.2 v hv';have d1:=S.d _ hv';have l1:=P.len;have e:=CL hv;have m1:=Nat.mul_le_mul d1 (show(sG s v).basis.length <=2 by omega);unfold Cs;simp only;rw[jW hv,aG,gS hv,aB,e,aR (by simp[bG];omega),aG,aB,aB,P.size,RA (by omega) (by omega) (λx hx=>(P.vecs x hx).1),aB,Rr (by omega) (by omega) (by omega),aB,aR (by simp;omega),aG,bW hv (by omega)]
  have e3:bG (s.take v)++[((sG s v).basis.length:Int)]=bG (s.take (v+1)):=by
   unfold bG;rw[wX hv,List.map_append,e];rfl
  have e4:(s.take v).map inM++[(⟨(dN r v:Nat),((sG s v).basis.length:Nat),bY (dN r v) (sG s v).basis.length λi k=>bN (sG s v).basis k i⟩:Mt)]=(s.take (v+1)).map inM:=by
   rw[wX hv,List.map_append,e];unfold inM aAT;simp only[List.map_cons,List.map_nil,P.size,fM]
  rw[e3,e4]
 .unfold Cs;simp only;rw[mG (bD _),aN,List.take_length]
theorem aHw:bR (Fq r s):=by
 have h5:=S.R.n5;have h6:=S.R.e6;have hml:=S.R.ml;have hsl:=T.P.len;refine⟨hr.1,by simp[bI,Fq,bG];omega,⟨by simp[Fq];omega,λm hm=>?_⟩,trivial⟩;obtain⟨i,hi,rfl⟩:=List.mem_map.1 hm;have hi':i<r.q.src.length:=by have:=List.mem_range.1 hi;omega
 have d1:=S.d _ (S.R.s i hi').2;have d2:=S.d _ (S.R.t i hi').2;have k1:=(CO T (S.R.s i hi').2).2;have k2:=(CO T (S.R.t i hi').2).2;have m5:=Nat.mul_le_mul (show kN s (tV r i)<=2 by omega) (show kN s (sV r i)<=2 by omega);refine⟨?_,trivial⟩;unfold bI Wi;simp only;rw[gJ];omega
end
end
section
theorem Wj(F G:Nat->Nat->Int)(i j:Nat):∀n,Dy F G i j n=sN (λt=>F i t*G t j) n
 |0=>rfl
 |n+1=>by simp only[Dy,sN,Wj F G i j n]
theorem qV(p:Int)(n:Nat)(F G:Nat->Nat->Int)(i j:Nat):nL p n F G i j=sN (λt=>F i t*G t j) n%p:=by unfold nL;rw[Wj]
theorem aDJ(p x y:Int):(x%p*y)%p=(x*y)%p:=by rw[Int.mul_emod,Int.emod_emod_of_dvd _ (Int.dvd_refl p),←Int.mul_emod]
theorem Wl(p x y:Int):(x*(y%p))%p=(x*y)%p:=by rw[Int.mul_emod,Int.emod_emod_of_dvd _ (Int.dvd_refl p),←Int.mul_emod]
theorem Wm{p:Int}{n:Nat}{F F' G:Nat->Nat->Int}{i j:Nat}(h:∀t,t<n->F i t=F' i t):nL p n F G i j=nL p n F' G i j:=by
 rw[qV,qV];rw[cD λt ht=>by rw[h t ht]]
theorem Wn{p:Int}{n:Nat}{F G G':Nat->Nat->Int}{i j:Nat}(h:∀t,t<n->G t j=G' t j):nL p n F G i j=nL p n F G' i j:=by
 rw[qV,qV];rw[cD λt ht=>by rw[h t ht]]
theorem Lf(p:Int)(m n:Nat)(F G H:Nat->Nat->Int)(i j:Nat):nL p m (nL p n F G) H i j=nL p n F (nL p m G H) i j:=by
 rw[qV,qV]
 have h1:sN (λt=>nL p n F G i t*H t j) m%p=sN (λt=>H t j*sN (λq=>F i q*G q t) n) m%p:=KV λt _=>by
  rw[qV,aDJ,Int.mul_comm]
 have h2:sN (λq=>F i q*nL p m G H q j) n%p=sN (λq=>F i q*sN (λt=>H t j*G q t) m) n%p:=KV λq _=>by
  rw[qV,Wl];congr 2;exact cD λt _=>Int.mul_comm _ _
 rw[h1,h2];exact congrArg (· % p) (CN (λt=>H t j) (F i) G n m)
theorem YK{p:Int}{n:Nat}{F:Nat->Nat->Int}{i j:Nat}(hj:j<n)(h:0<=F i j/\F i j<p):nL p n F EW i j=F i j:=by
 rw[qV,BT hj λt _ ht=>by simp only[EW];rw[aQ ht,Int.mul_zero]];rw[show EW j j=1 from aP rfl,Int.mul_one];exact Int.emod_eq_of_lt h.1 h.2
theorem YL{p:Int}{n:Nat}{F:Nat->Nat->Int}{i j:Nat}(hi:i<n)(h:0<=F i j/\F i j<p):nL p n EW F i j=F i j:=by
 rw[qV,BT hi λt _ ht=>by simp only[EW];rw[aQ (λe=>ht e.symm),Int.zero_mul]];rw[show EW i i=1 from aP rfl,Int.one_mul];exact Int.emod_eq_of_lt h.1 h.2
theorem aDK{p:Int}(hp:lL p=true)(r c:Nat):wF p r c EW:=λi j _ _=>by
 have:=fN hp;unfold EW;split<;>omega
def YM(a b:Rp)(P:Nat->Nat->Nat->Int):bJ:=(List.range a.dims.length).map λv=>(⟨dN b v,dN a v,bY (dN b v) (dN a v) (P v)⟩:Mt)
structure Mor(a b:Rp)(P:Nat->Nat->Nat->Int):Prop where
 inp:∀v,v<a.dims.length->wF a.p (dN b v) (dN a v) (P v)
 eq:∀i,i<a.q.src.length->∀r k,r<dN b (tV a i)->k<dN a (sV a i)->nL a.p (dN b (sV a i)) (aF b i) (P (sV a i)) r k=nL a.p (dN a (tV a i)) (P (tV a i)) (aF a i) r k
theorem aGm{a:Rp}(h:Rv a):Mor a a (λ_=>EW):=by
 refine⟨λv _=>aDK h.hp _ _,λi hi r k hr hk=>?_⟩;have hm:=(h.m i hi).2 r k hr hk;rw[YK hk hm,YL hr hm]
theorem aDL{a b c:Rp}(h1:Fit a b){P Q:Nat->Nat->Nat->Int}(f:Mor a b P)(g:Mor b c Q):Mor a c (λv=>nL a.p (dN b v) (Q v) (P v)):=by
 refine⟨λv _=>Hf h1.ra.hp _ _ _ _ _,λi hi r k hr hk=>?_⟩;have hib:i<b.q.src.length:=by rw[h1.qe];exact hi
 have ge:=g.eq i hib;rw[h1.sV,h1.tV,h1.pe]at ge;rw[←Lf,Wm λt ht=>ge r t hr ht,Lf,Wn λt ht=>f.eq i hi t k ht hk,←Lf]
theorem aGn{a:Rp}(h:Fit a a)(c:Nat):Mor a a (gM a a (Wz a a c)):=⟨λv hv=>(aFx h c).inP hv,λi hi r k hr hk=>aHu h hi hr hk c⟩
theorem ZS(n:Nat)(f x:Nat->Int):dt n f x=dt n x f:=cD λk _=>Int.mul_comm _ _
theorem AA{p:Int}(hp:lL p=true){n:Nat}{l:aV}(hl:wF p l.length n (bN l))(x:Nat->Int):Kr p (dW p n l).length n (bN (dW p n l)) x↔Kr p l.length n (bN l) x:=by
 have hr:=Cd hp hl n (bD _);have hk:=DH hp hl x n (bD _);have hm:=hr.len;rw[←hk];unfold dW;rw[qF];have e:∀i,i<(bK p l.length (bN l) n).2.length->dt n (bN (iP (bK p l.length (bN l) n).1 (bK p l.length (bN l) n).2.length n) i) x=dt n ((bK p l.length (bN l) n).1 i) x:=λi hi=>cD λj hj=>by rw[Ky _ _ _ _ _ hi hj]
 constructor
 .intro h i hi;rcases dX i (bK p l.length (bN l) n).2.length with h'|h'
  .rw[←e i h'];exact h i h'
  .have e0:dt n ((bK p l.length (bN l) n).1 i) x=0:=by
    unfold dt;rw[cD (g:=λ_=>0) (λk hk=>by rw[hr.low i k h' hi hk];simp),wG]
   rw[e0];unfold Z0;simp
 .intro h i hi;rw[e i hi];exact h i (by omega)
theorem ZT{p:Int}{m n:Nat}{R:Nat->Nat->Int}{L:List Nat}(h:Red m n R L){x:Nat->Int}(hx:∀k,k<n->(∀i,i<L.length->L[i]?.getD 0≠k)->Z0 p (dt n x (kx R L k))):∀k,k<n->x k%p=sN (λi=>x (L[i]?.getD 0)*R i k) L.length%p:=by
 intro k hk;by_cases hf:∀i,i<L.length->L[i]?.getD 0≠k
 .have h1:=hx k hk hf;rw[QM h hk hf x]at h1;exact Int.emod_eq_emod_iff_emod_sub_eq_zero.2 h1
 .obtain⟨j,hj,e⟩:∃j,j<L.length/\L[j]?.getD 0=k:=Classical.byContradiction λhn=>hf λi hi e=>hn ⟨i,hi,e⟩;have hm:=h.len
  rw[BT (j:=j) hj λi hi hne=>by
   have:=h.col j i hj (by omega) hne;rw[e]at this
   rw[this,Int.mul_zero]]
  have:=h.one j hj;rw[e]at this;rw[this,e,Int.mul_one]
theorem aAt{p:Int}{n:Nat}{F:Nat->Nat->Int}{L:List Nat}{k:Nat}(hk:k<n)(hL:∀i,i<L.length->L[i]?.getD 0≠k):HY p n F L k L.length∈GP p n F L:=by
 unfold GP;refine List.mem_map.2 ⟨k,List.mem_filter.2 ⟨List.mem_range.2 hk,?_⟩,rfl⟩
 have:k ∉ L:=λh=>by
  obtain⟨i,hi,e⟩:=List.getElem_of_mem h;exact hL i hi (by rw[dL hi];exact e)
 simpa using this
theorem JN{p:Int}{n:Nat}{l:aV}{x:Nat->Int}(h:Kr p l.length n (bN l) x){w:aA}(hw:w∈l):Z0 p (dt n (HJ w) x):=by
 obtain⟨i,hi,rfl⟩:=List.getElem_of_mem hw;rw[Mv hi];exact h i hi
theorem YN{p:Int}{n:Nat}{l:aV}{x:Nat->Int}(h:∀w∈l,Z0 p (dt n (HJ w) x)):Kr p l.length n (bN l) x:=λi hi=>by
 rw[←Mv hi];exact h _ (List.getElem_mem hi)
theorem aDM{p:Int}(hp:lL p=true){m n:Nat}{F:Nat->Nat->Int}(hi:wF p m n F){x:Nat->Int}(hx:∀w∈GP p n (bK p m F n).1 (bK p m F n).2,Z0 p (dt n (HJ w) x)){y:Nat->Int}(hy:Kr p m n F y):Z0 p (dt n y x):=by
 have hR:=Cd hp hi n (bD _);have hm:=hR.len;have hyR:=(DH hp hi y n (bD _)).2 hy;generalize (bK p m F n).1=R at hR hx hyR;generalize (bK p m F n).2=L at hR hx hm
 have hrow:=ZT (p:=p) hR (x:=x) λk hk hL=>by
  have h1:=hx _ (aAt (p:=p) (F:=R) hk hL);rw[ZS]at h1;refine xC (GM λc hc=>?_) h1;exact(Ub hR hk hL _ (bD _) c hc)
 have e1:dt n y x%p=dt n y (λk=>sN (λi=>x (L[i]?.getD 0)*R i k) L.length)%p:=GM hrow
 have e2:dt n y (λk=>sN (λi=>x (L[i]?.getD 0)*R i k) L.length)=sN (λi=>x (L[i]?.getD 0)*dt n (R i) y) L.length:=by
  unfold dt;rw[CN y (λi=>x (L[i]?.getD 0)) (λi k=>R i k) L.length n];refine cD λi _=>?_;congr 1;exact cD λk _=>Int.mul_comm _ _
 unfold Z0;rw[e1,e2];exact RB λi hi'=>Dm _ (hyR i (by omega))
def Kl(r:Nat)(F:Nat->Nat->Int)(x:Nat->Int):Nat->Int:=λk=>sN (λi=>x i*F i k) r
theorem Uc{p:Int}(r c:Nat)(F:Nat->Nat->Int)(w:aA)(x:Nat->Int):dt r (HJ (RG p r c F w)) x%p=dt c (HJ w) (Kl r F x)%p:=by
 have e1:dt r (HJ (RG p r c F w)) x%p=dt r (λi=>sN (λt=>F i t*HJ w t) c) x%p:=NG λi hi=>by
  unfold RG;rw[ZQ hi,qV,Int.emod_emod_of_dvd _ (Int.dvd_refl p)];rfl
 rw[e1];congr 1;unfold dt Kl;rw[CN (HJ w) x (λi k=>F i k) r c];refine cD λi _=>?_;rw[Int.mul_comm];congr 1;exact cD λk _=>Int.mul_comm _ _
theorem JO{p:Int}{r c:Nat}{F:Nat->Nat->Int}{l:aV}{x:Nat->Int}:Kr p (Rc p r c F l).length r (bN (Rc p r c F l)) x↔Kr p l.length c (bN l) (Kl r F x):=by
 constructor
 .intro h;refine YN λw hw=>?_;have:=JN h (List.mem_map.2 ⟨w,hw,rfl⟩);exact xC (Uc r c F w x) this
 .intro h;refine YN λu hu=>?_;obtain⟨w,hw,rfl⟩:=List.mem_map.1 hu;exact xC (Uc r c F w x).symm (JN h hw)
def Wo(p n:Nat):aV:=dG (List.replicate n ((p:Int)-1))
def aIY(p n k:Nat):Bool:=(lU (List.replicate k (Wo p n))).all λl=> !decide (dW (p:Nat) n l=l)||decide ((⟨(n:Nat),l⟩:Sc)∈Rs p n k)
theorem aHx:∀p,p<2->∀n,n<3->∀k,k<n+1->aIY (p+2) n k=true:=by decide+kernel
theorem Ud:∀{ms x:aA},x.length=ms.length->(∀v,v<ms.length->0<=x[v]?.getD 0/\x[v]?.getD 0<=ms[v]?.getD 0)->x∈dG ms
 | [],[],_,_=>by simp[dG]
 | [],_::_,h,_=>by simp at h
 |_::_,[],h,_=>by simp at h
 |m::ms,a::x,h,hx=>by
  have h0:=hx 0 (by simp);simp only[List.getElem?_cons_zero,dI]at h0;simp only[dG,List.mem_flatMap,List.mem_map];exact⟨a.toNat,List.mem_range.2 (by omega),x,Ud (by simpa using h) (λv hv=>by have:=hx (v+1) (by simpa using hv);simpa using this),by rw[Int.toNat_of_nonneg h0.1]⟩
theorem aDN{p n:Nat}{x:aA}(h:x.length=n)(hx:∀a∈x,0<=a/\a<(p:Int)):x∈Wo p n:=by
 refine Ud (by rw[h,List.length_replicate]) λv hv=>?_;rw[List.length_replicate]at hv;have:=hx _ (cE (l:=x) (k:=v) 0 (by omega));rw[List.getElem?_replicate,aP hv,dI];omega
theorem aDO{p n:Nat}(hp:p=2∨p=3)(hn:n<=2){l:aV}(hv:VecsP (p:Nat) n l)(hs:dW (p:Nat) n l=l):(⟨(n:Nat),l⟩:Sc)∈Rt p n (l.length:Int):=by
 have hl:l.length<=n:=by have:=(@DX (p:Nat) n l).1;rw[hs]at this;exact this
 have hc:=aHx (p-2) (by omega) n (by omega) l.length (by omega);rw[show p-2+2=p by omega]at hc
 have hm:l∈lU (List.replicate l.length (Wo p n)):=by
  refine Pb [] (by rw[List.length_replicate]) λv hv'=>?_;rw[List.length_replicate]at hv';rw[List.getElem?_replicate,aP hv',dI];have:=hv _ (cE (l:=l) [] hv');exact aDN this.1 this.2
 have:=List.all_eq_true.1 hc l hm;rw[hs,aR rfl,dR,Bool.false_or]at this;unfold Rt;rw[show pL (l.length:Int) 0 (n:Nat)=true by unfold pL;simp;omega,aG];exact of_decide_eq_true this
theorem Pf{r:Rp}(hS:cK r=true){s:aI}(h:rH r s=true):s∈iI r:=by
 have S:=iL hS;obtain⟨R,hl,V⟩:=eG h;have hdl:(bG s).length=r.dims.length:=by unfold bG;rw[dT,hl]
 have hdg:∀v,v<r.dims.length->(bG s)[v]?.getD 0=((sG s v).basis.length:Int):=λv hv=>by
  unfold bG;rw[List.getElem?_map,dL (by omega),Option.map_some,dI,CL]
 have ep:((r.p.toNat:Nat):Int)=r.p:=by have:=S.p;omega
 refine List.mem_flatMap.2 ⟨bG s,Ud hdl λv hv=>?_,List.mem_filter.2 ⟨Pb ⟨0,[]⟩ (by rw[rA,hl]) λv hv=>?_,h⟩⟩
 .rw[hdg v hv,(R.d v hv).1];have:=(V v hv).len;omega
 .rw[rA]at hv;rw[RO hv,hdg v hv];have Vv:=V v hv;have:=aDO (RP S) (S.d v hv) (l:=(sG s v).basis) (by rw[ep];exact Vv.vecs) (by rw[ep];exact Vv.span);rw[←Vv.size]at this;exact this
theorem aDP{p:Int}{n:Nat}{x:Sc}{L:List Nat}(hn:n<=1024)(hl:x.basis.length<=1024)(hv:VecsP p n x.basis)(hL:L.length=x.basis.length)(hR:Red x.basis.length n (bN x.basis) L):fU x=some (jN L):=by
 have ct:∀k,k<L.length->jN (L.take k)++[((L[k]?.getD 0:Nat):Int)]=jN (L.take (k+1)):=λk h=>by
  unfold jN;rw[wX h,List.map_append,dL h];rfl
 unfold fU;rw[cO (r:=jN L) (λk=>(jN (L.take k),(k:Int))) x.basis.length (by rfl) (λk hk=>?_) (λ_=>?_)];rfl
 .have hkL:k<L.length:=by omega
  have hlt:=hR.lt k hkL;have hlen:=(hv _ (cE (l:=x.basis) [] hk)).1;unfold jK;simp only;rw[jW hk,aG,kM [] hk,aB,RF (k:=L[k]?.getD 0) (by unfold bI;omega) (by omega) (λj hj=>hR.left k j hkL hj) (by have:=hR.one k hkL;unfold bN at this;omega),aB,aR (by rw[iN,List.length_take];simp;omega),aG,bW hk (by omega),ct k hkL]
 .unfold jK;simp only;rw[mG (bD _),aN,←hL,List.take_length]
theorem aFA{r:Rp}{s:aI}(T:PartT r s){v:Nat}(hv:v<r.dims.length):∃L:List Nat,L.length=kN s v/\Red (kN s v) (dN r v) (bN (sG s v).basis) L/\∀j,j<kN s v->ldN s v j=L[j]?.getD 0:=by
 obtain⟨R,hl,V⟩:=eG T.P.sub;have Vv:=V v hv;have d:=(R.d v hv).2;have hk:=Vv.len;obtain⟨L,h1,h2⟩:=Nh R.hp Vv.vecs Vv.span;refine⟨L,h1,h2,λj hj=>?_⟩;have e:=(T.q v hv).ld;rw[aDP (by omega) (by omega) Vv.vecs h1 h2]at e;have e:=Option.some.inj e;unfold ldN;rw[←e];have:j<L.length:=by rw[h1];exact hj
 simp[jN,this]
theorem Lg{r:Rp}{s:aI}(T:PartT r s){v:Nat}(hv:v<r.dims.length):dN (Fq r s) v=kN s v:=by
 unfold dN;show((bG s)[v]?.getD 0).toNat=_;rw[(CO T hv).1];rfl
theorem HK{r:Rp}{s:aI}(T:PartT r s):(bG s).length=r.dims.length:=by unfold bG;rw[dT,T.P.len]
theorem aFB{a b:aA}(hl:a.length=b.length)(h:∀k,k<a.length->a[k]?.getD 0<=b[k]?.getD 0):a.sum<=b.sum:=by
 induction b generalizing a with
 |nil=>
  cases a with
  |nil=>exact Int.le_refl _
  |cons y a=>simp at hl
 |cons y b ih=>
  cases a with
  |nil=>simp at hl
  |cons x a=>
   have h0:=h 0 (by simp);have h1:=ih (a:=a) (by simpa using hl) λk hk=>by have:=h (k+1) (by simpa using hk);simpa using this
   simp only[List.getElem?_cons_zero,dI]at h0;simp only[List.sum_cons];omega
theorem aDQ{r:Rp}{s:aI}(hS:cK r=true)(T:PartT r s):cK (Fq r s)=true:=by
 have S:=iL hS;have R:=S.R;have hml:=R.ml;have hlen:=HK T;have hrep:=lK hS;obtain⟨hp,hD,_,_⟩:=Fa hrep;obtain⟨hQ,hd1,_,hd3⟩:=qM hD
 have hmem:∀x∈bG s,0<=x/\x<=2:=by
  intro x hx;obtain⟨v,hv,e⟩:=List.mem_iff_getElem.1 hx;have hv':v<r.dims.length:=by omega
  have h1:=CO T hv';rw[dL hv,dI,e]at h1;have:=S.d v hv';omega
 have hsum:(bG s).sum <=r.dims.sum:=aFB hlen λv hv=>by
  have h1:=CO T (show v<r.dims.length by omega);have h2:=R.d v (by omega);omega
 have h55:=S.s
 have hdv:IH r.q (bG s)=true:=by
  unfold IH;simp only[bX,eD,List.all_eq_true];refine⟨hQ,by omega,λx hx=>?_,by omega⟩;have:=hmem x hx;unfold pL;simp only[bX,eD];omega
 unfold cK;simp only[bX,eD,List.all_eq_true];refine⟨?_,by show r.p<=3;have:=S.p;omega,λx hx=>?_,by show(bG s).sum <=5;omega⟩
 .unfold xN;simp only[bX,eD,rT];refine⟨hp,hdv,by simp[Fq];omega,λk hk=>?_⟩;have hk':k<r.maps.length:=by simpa [Fq]using hk
  have hi':k<r.q.src.length:=by omega
  have hs:=(R.s k hi').2;have ht:=(R.t k hi').2
  have e:((Fq r s).maps[k]?.getD ⟨0,0,[]⟩:Mt)=Wi r s k:=by
   show((List.range r.maps.length).map (Wi r s))[k]?.getD _=_;simp[hk']
  rw[e];have q1:=CO T hs;have q2:=CO T ht;have d1:=S.d _ hs;have d2:=S.d _ ht;refine⟨RH hp (by omega) (by omega) (λa b ha hb=>?_),?_,?_⟩
  .exact Hf hp _ _ _ (ldN s (tV r k) a+1) (b+1) (ldN s (tV r k) a) b (by omega) (by omega)
  .show((kN s (sV r k):Nat):Int)=(bG s)[sV r k]?.getD 0;rw[q1.1]
  .show((kN s (tV r k):Nat):Int)=(bG s)[tV r k]?.getD 0;rw[q2.1]
 .have:=hmem x hx;unfold pL;simp only[bX,eD];omega
theorem Jy{r:Rp}{s:aI}(h:rH r s=true){i:Nat}(hi:i<r.q.src.length){x:Nat->Int}(hx:Kr r.p (sG s (tV r i)).basis.length (dN r (tV r i)) (bN (sG s (tV r i)).basis) x):Kr r.p (sG s (sV r i)).basis.length (dN r (sV r i)) (bN (sG s (sV r i)).basis) (Kl (dN r (tV r i)) (aF r i) x):=by
 obtain⟨R,hl,V⟩:=eG h;have ht:=(R.t i hi).2;have hml:=R.ml;have Vt:=V _ ht
 have hw:Ux r.p (dN r (tV r i)) (dW r.p (dN r (tV r i)) (Rc r.p (dN r (tV r i)) (dN r (sV r i)) (aF r i) (sG s (sV r i)).basis)) (sG s (tV r i)).basis=true:=by
  unfold rH at h;simp only[bX]at h;exact List.all_eq_true.1 h.2.2.2 i (List.mem_range.2 (by omega))
 have hv1:VecsP r.p (dN r (tV r i)) (Rc r.p (dN r (tV r i)) (dN r (sV r i)) (aF r i) (sG s (sV r i)).basis):=Ab R.hp _ _ _ _;have:=(uI R.hp (rU R.hp hv1.inP) Vt.vecs Vt.span).1 (of_decide_eq_true hw) x hx;rw[AA R.hp hv1.inP,JO]at this;exact this
theorem aDR{r:Rp}(hrep:xN r=true)(l:Nat->aV)(hv:∀v,v<r.dims.length->VecsP r.p (dN r v) (l v))(h:∀i,i<r.q.src.length->∀x,Kr r.p (l (tV r i)).length (dN r (tV r i)) (bN (l (tV r i))) x->Kr r.p (l (sV r i)).length (dN r (sV r i)) (bN (l (sV r i))) (Kl (dN r (tV r i)) (aF r i) x)):
  rH r ((List.range r.dims.length).map λv=>(⟨dN r v,dW r.p (dN r v) (l v)⟩:Sc))=true:=by
 have R:=Mh hrep;have get:∀v,v<r.dims.length->sG ((List.range r.dims.length).map λv=>(⟨dN r v,dW r.p (dN r v) (l v)⟩:Sc)) v=⟨dN r v,dW r.p (dN r v) (l v)⟩:=λv hv'=>by simp[sG,hv']
 unfold rH;rw[hrep,aR (by simp)];simp only[Bool.true_and,bX];constructor
 .refine List.all_eq_true.2 λv hv'=>?_;have hv':v<r.dims.length:=by have:=List.mem_range.1 hv';simpa using this
  have d:=R.d v hv';unfold spB;rw[get v hv',d.1];simp only;rw[HZ R.hp (by omega) (hv v hv')];simp
 .refine List.all_eq_true.2 λi hi=>?_;have hi:i<r.q.src.length:=by have:=List.mem_range.1 hi;have:=R.ml;omega
  have hs:=(R.s i hi).2;have ht:=(R.t i hi).2;unfold imB Ux;rw[get _ hs,get _ ht];simp only;have hv1:VecsP r.p (dN r (tV r i)) (Rc r.p (dN r (tV r i)) (dN r (sV r i)) (aF r i) (dW r.p (dN r (sV r i)) (l (sV r i)))):=Ab R.hp _ _ _ _;have h1:=(hv _ ht).inP;have h2:=(hv _ hs).inP;refine aR ((uI R.hp (rU R.hp hv1.inP) (rU R.hp h1) (Jc R.hp h1)).2 λx hx=>?_);rw[AA R.hp hv1.inP,JO,AA R.hp h2];exact h i hi x ((AA R.hp h1 x).1 hx)
theorem Ue{p:Int}(n m:Nat)(F G:Nat->Nat->Int)(x:Nat->Int)(k:Nat):Kl m G (Kl n F x) k%p=Kl n (nL p m F G) x k%p:=by
 unfold Kl;rw[cD (g:=λt=>G t k*sN (λq=>x q*F q t) n) λt _=>Int.mul_comm _ _,CN (λt=>G t k) x (λq t=>F q t) n m];refine KV λi _=>?_;rw[qV,Wl];congr 2;exact cD λt _=>Int.mul_comm _ _
theorem aDS{p:Int}{m n:Nat}{F:Nat->Nat->Int}{x y:Nat->Int}(h:∀k,k<n->x k%p=y k%p)(hx:Kr p m n F x):Kr p m n F y:=λi hi=>xC (GM h) (hx i hi)
theorem Uf{p:Int}{n:Nat}{F:Nat->Nat->Int}{x y:Nat->Int}(h:∀k,k<n->x k%p=y k%p)(j:Nat):Kl n F x j%p=Kl n F y j%p:=by
 unfold Kl;refine KV λi hi=>?_;rw[Int.mul_emod,h i hi,←Int.mul_emod]
def upS(a b:Rp)(P:Nat->Nat->Nat->Int)(y:aI):aI:=(List.range b.dims.length).map λv=>(⟨dN b v,dW b.p (dN b v) (Rc b.p (dN b v) (dN a v) (P v) (sG y v).basis)⟩:Sc)
theorem aGo{a b:Rp}(h:Fit a b){P:Nat->Nat->Nat->Int}(m:Mor a b P)(hb:xN b=true){y:aI}(hy:rH a y=true):rH b (upS a b P y)=true:=by
 have hp:=h.ra.hp;have hpb:=h.rb.hp;have e:a.p=b.p:=h.pe.symm;refine aDR hb _ (λv hv=>Ab hpb _ _ _ _) λi hi x hx=>?_;rw[JO]at hx ⊢;have hia:i<a.q.src.length:=by rw[←h.qe];exact hi
 rw[h.pe,h.tV]at hx;rw[h.pe,h.sV,h.tV];refine aDS (λk hk=>?_) (Jy hy hia hx);rw[Ue,Ue];refine KV λr hr=>?_;rw[m.eq i hia r k hr hk]
theorem aDT{r:Rp}{s:aI}(S:Sm r)(T:PartT r s):Mor (Fq r s) r (bcF s):=by
 have R:=S.R;have hml:=R.ml;have hn:(Fq r s).dims.length=r.dims.length:=HK T;refine⟨λv hv=>?_,λi hi x k hx hk=>?_⟩
 .have hv':v<r.dims.length:=by omega
  rw[Lg T hv'];exact ZI ((eG T.P.sub).2.2 v hv').vecs
 .have hi':i<r.q.src.length:=hi;have hs:=(R.s i hi').2;have ht:=(R.t i hi').2;have hk':k<kN s (sV r i):=by rw[←Lg T hs];exact hk
  have Vt:=(eG T.P.sub).2.2 _ ht;obtain⟨L,L1,L2,L3⟩:=aFA T ht;have hv1:VecsP r.p (dN r (tV r i)) (Rc r.p (dN r (tV r i)) (dN r (sV r i)) (aF r i) (sG s (sV r i)).basis):=Ab R.hp _ _ _ _;have hk2:k<(sG s (sV r i)).basis.length:=hk'
  have key:=ZT (p:=r.p) L2 (x:=λt=>suW r s i t k) λc hc hcL=>by
   have h1:=JO.2 (Jy T.P.sub hi' (Iq (p:=r.p) L2 hc hcL));have h2:=JN h1 (List.mem_map.2 ⟨(sG s (sV r i)).basis[k],List.getElem_mem hk2,rfl⟩);refine xC (NG λt ht'=>?_) h2;have:=aGl (s:=s) (r:=r) (i:=i) (b:=k) ht';rw[dL hk2,dI]at this;unfold HJ;rw[this]
  have h3:=key x hx;have hsu:suW r s i x k%r.p=suW r s i x k:=by unfold suW nL;exact Int.emod_emod_of_dvd _ (Int.dvd_refl _)
  show nL r.p (dN r (sV r i)) (aF r i) (bcF s (sV r i)) x k=nL r.p (dN (Fq r s) (tV r i)) (bcF s (tV r i)) (aF (Fq r s) i) x k;rw[Lg T ht,qV r.p (kN s (tV r i))];have e1:nL r.p (dN r (sV r i)) (aF r i) (bcF s (sV r i)) x k=suW r s i x k:=rfl;rw[e1,←hsu];rw[h3,L1];congr 1;refine cD λa ha=>?_
  have e2:aF (Fq r s) i a k=aEz r s i a k:=by
   unfold aF;show(((List.range r.maps.length).map (Wi r s))[i]?.getD ⟨0,0,[]⟩).cells[a*dN (Fq r s) (sV r i)+k]?.getD 0=_;rw[Lg T hs,List.getElem?_map,List.getElem?_range (by omega)];show(bY (kN s (tV r i)) (kN s (sV r i)) (aEz r s i))[a*kN s (sV r i)+k]?.getD 0=_;rw[mR _ ha hk'];rfl
  rw[e2,Int.mul_comm];show _=bN _ a x*suW r s i (ldN s (tV r i) a) k;rw[L3 a ha]
theorem aFC{r:Rp}{s y:aI}(hS:cK r=true)(T:PartT r s)(hy:rH (Fq r s) y=true):rH r (upS (Fq r s) r (bcF s) y)=true:=
 aGo (aCe (lK (aDQ hS T)) (lK hS) rfl rfl) (aDT (iL hS) T) (lK hS) hy
def bcC(x:Sc):Nat->Nat->Int:=λt b=>bN x.basis b t
def upC(p n k:Nat):Bool:=(Rs p n k).all λx=>(List.range (k+1)).all λj=>(Rs p k j).all λy=>decide ((dW (p:Nat) n (Rc (p:Nat) n k (bcC x) y.basis)).length=j)
theorem aIZ:∀p,p<2->∀n,n<3->∀k,k<n+1->upC (p+2) n k=true:=by decide+kernel
theorem aGp{p n:Nat}{k:Int}{x:Sc}(h:x∈Rt p n k):0<=k/\k<=n/\x∈Rs p n k.toNat:=by
 unfold Rt at h;cases hk:pL k 0 n with
 |false=>rw[hk]at h;simp at h
 |true=>
  rw[hk,aG]at h;have:=jY hk;exact⟨this.1,this.2,h⟩
theorem Pg{r:Rp}{s:aI}(S:Sm r)(h:rH r s=true){v:Nat}(hv:v<r.dims.length):sG s v∈Rs r.p.toNat (dN r v) (sG s v).basis.length:=by
 obtain⟨R,hl,V⟩:=eG h;have ep:((r.p.toNat:Nat):Int)=r.p:=by have:=S.p;omega
 have Vv:=V v hv;have:=aDO (RP S) (S.d v hv) (l:=(sG s v).basis) (by rw[ep];exact Vv.vecs) (by rw[ep];exact Vv.span);rw[←Vv.size]at this;exact(aGp this).2.2
theorem aFD{r:Rp}{s y:aI}(hS:cK r=true)(T:PartT r s)(hy:rH (Fq r s) y=true):bG (upS (Fq r s) r (bcF s) y)=bG y:=by
 have S:=iL hS;have S':=iL (aDQ hS T);have hl:=(eG hy).2.1;have hn:(Fq r s).dims.length=r.dims.length:=HK T;refine List.ext_getElem (by simp[bG,upS];omega) λv h1 h2=>?_;have hv:v<r.dims.length:=by simpa [bG,upS]using h1
 have hv':v<y.length:=by omega
 have k1:=CO T hv;have d2:=S.d v hv;have a1:=Pg S T.P.sub hv;have a2:=Pg S' hy (v:=v) (by omega);rw[Lg T hv]at a2;have l2:=((eG hy).2.2 v (by omega)).len;rw[Lg T hv]at l2;have ep:((r.p.toNat:Nat):Int)=r.p:=by have:=S.p;omega
 have hc:=aIZ (r.p.toNat-2) (by have:=S.p;omega) (dN r v) (by omega) (kN s v) (by omega);rw[show r.p.toNat-2+2=r.p.toNat by have:=S.p;omega]at hc;have:=of_decide_eq_true (List.all_eq_true.1 (List.all_eq_true.1 (List.all_eq_true.1 hc _ a1) (sG y v).basis.length (List.mem_range.2 (by omega))) _ a2);rw[ep]at this;simp only[bG,upS,List.getElem_map,List.getElem_range];rw[Lg T hv,CL hv'];exact congrArg Nat.cast this
end
noncomputable section
def prG(p:Int)(n:Nat)(x:Sc):Nat->Nat->Int:=λi j=>(My p x).cells[i*n+j]?.getD 0
def bkG(p:Int)(n k:Nat)(x:Sc):Nat->Nat->Int:=λi j=>(Wb p x).cells[i*(n-k)+j]?.getD 0
def qdC(p n k:Nat):Bool:=(Rs p n k).all λx=>
 ((Wo p n).all λz=> !(x.basis.all λw=>decide (dt n (HJ w) (HJ z)%(p:Int)=0))||(List.range n).all λt=>decide (Kl (n-k) (prG p n x) (Kl n (bkG p n k x) (HJ z)) t%(p:Int)=HJ z t%(p:Int)))&&
 (List.range (n-k+1)).all λj=>(Rs p (n-k) j).all λy=>decide ((dW (p:Nat) n (x.basis++Rc (p:Nat) n (n-k) (bkG p n k x) y.basis)).length=k+j)
theorem aIa:∀p,p<2->∀n,n<3->∀k,k<n+1->qdC (p+2) n k=true:=by decide+kernel
section
variable {r:Rp}{s:aI}(S:Sm r)(T:PartT r s)
include S T
theorem aFz{v:Nat}(hv:v<r.dims.length):
  (∀z∈Wo r.p.toNat (dN r v),(∀w∈(sG s v).basis,Z0 r.p (dt (dN r v) (HJ w) (HJ z)))->∀t,t<dN r v->Kl (dN r v-kN s v) (prF r s v) (Kl (dN r v) (bkF r s v) (HJ z)) t%r.p=HJ z t%r.p)/\
  (∀j,j<dN r v-kN s v+1->∀y∈Rs r.p.toNat (dN r v-kN s v) j,(dW r.p (dN r v) ((sG s v).basis++Rc r.p (dN r v) (dN r v-kN s v) (bkF r s v) y.basis)).length=kN s v+j):=by
 have ep:((r.p.toNat:Nat):Int)=r.p:=by have:=S.p;omega
 have d2:=S.d v hv;have k1:=(CO T hv).2;have hc:=aIa (r.p.toNat-2) (by have:=S.p;omega) (dN r v) (by omega) (kN s v) (by omega);rw[show r.p.toNat-2+2=r.p.toNat by have:=S.p;omega]at hc;have hx:=List.all_eq_true.1 hc _ (Pg S T.P.sub hv);rw[ep,bX]at hx;constructor
 .intro z hz hw t ht;have h1:=List.all_eq_true.1 hx.1 z hz;rw[show((sG s v).basis.all λw=>decide (dt (dN r v) (HJ w) (HJ z)%r.p=0))=true from List.all_eq_true.2 λw hw'=>aR (hw w hw'),dR,Bool.false_or]at h1;exact of_decide_eq_true (List.all_eq_true.1 h1 t (List.mem_range.2 ht))
 .intro j hj y hy;exact of_decide_eq_true (List.all_eq_true.1 (List.all_eq_true.1 hx.2 j (List.mem_range.2 hj)) y hy)
theorem aFE{v:Nat}(hv:v<r.dims.length){x:Nat->Int}(hx:Kr r.p (kN s v) (dN r v) (bN (sG s v).basis) x){t:Nat}(ht:t<dN r v):Kl (dN r v-kN s v) (prF r s v) (Kl (dN r v) (bkF r s v) x) t%r.p=x t%r.p:=by
 have ep:((r.p.toNat:Nat):Int)=r.p:=by have:=S.p;omega
 have hz:∀k,k<dN r v->HJ (fQ (dN r v) λt=>x t%r.p) k%r.p=x k%r.p:=λk hk=>by
  rw[ZQ hk,Int.emod_emod_of_dvd _ (Int.dvd_refl _)]
 have h:=(aFz S T hv).1 (fQ (dN r v) λt=>x t%r.p) (aDN (by simp[fQ]) λa ha=>?_) (λw hw=>?_) t ht
 .rw[←hz t ht,←h];exact(Uf (λk hk=>Uf hz k) t).symm
 .obtain⟨k,_,rfl⟩:=List.mem_map.1 ha;rw[ep];exact yP S.R.hp
 .exact xC (GM hz).symm (JN hx hw)
theorem RU{v:Nat}(hv:v<r.dims.length):dN (wD r s) v=dN r v-kN s v:=by
 unfold dN;show((wW s)[v]?.getD 0).toNat=_;rw[(Fg S T hv).1];rfl
theorem aGq{i a b:Nat}(hi:i<r.q.src.length)(ha:a<dN r (tV r i)-kN s (tV r i))(hb:b<dN r (sV r i)-kN s (sV r i)):aF (wD r s) i a b=aCu r s i a b:=by
 have hml:=S.R.ml;have hs:=(S.R.s i hi).2;unfold aF;show(((List.range r.maps.length).map (Rx r s))[i]?.getD ⟨0,0,[]⟩).cells[a*dN (wD r s) (sV r i)+b]?.getD 0=_;rw[RU S T hs,List.getElem?_map,List.getElem?_range (by omega)];show(bY (dN r (tV r i)-kN s (tV r i)) (dN r (sV r i)-kN s (sV r i)) (aCu r s i))[a*(dN r (sV r i)-kN s (sV r i))+b]?.getD 0=_;rw[mR _ ha hb];rfl
omit S T in
def aGr(r:Rp)(s y:aI)(v:Nat):aV:=(sG s v).basis++Rc r.p (dN r v) (dN r v-kN s v) (bkF r s v) (sG y v).basis
omit S T in
def aDU(r:Rp)(s y:aI):aI:=(List.range r.dims.length).map λv=>(⟨dN r v,dW r.p (dN r v) (aGr r s y v)⟩:Sc)
omit S in
theorem ZU:(wD r s).dims.length=r.dims.length:=by show(wW s).length=_;unfold wW;rw[dT,T.P.len]
theorem aFF(hS:cK r=true){y:aI}(hy:rH (wD r s) y=true):rH r (aDU r s y)=true:=by
 have R:=S.R;have hp:=R.hp;have V:=(eG T.P.sub).2.2;refine aDR (lK hS) _ (λv hv=>(V v hv).vecs.append (Ab hp _ _ _ _)) λi hi x hx=>?_;have hs:=(R.s i hi).2;have ht:=(R.t i hi).2;obtain⟨h1,h2⟩:=Ev.1 hx;refine Ev.2 ⟨Jy T.P.sub hi h1,JO.2 ?_⟩;have h3:=JO.1 h2;have e1:=RU S T hs;have e2:=RU S T ht
 have h4:Kr r.p (sG y (sV r i)).basis.length (dN (wD r s) (sV r i)) (bN (sG y (sV r i)).basis) (Kl (dN (wD r s) (tV r i)) (aF (wD r s) i) (Kl (dN r (tV r i)) (bkF r s (tV r i)) x)):=
  Jy (r:=wD r s) hy (i:=i) hi (by show Kr r.p (sG y (tV r i)).basis.length (dN (wD r s) (tV r i)) (bN (sG y (tV r i)).basis) _;rw[e2];exact h3)
 rw[e1,e2]at h4;refine aDS (λk hk=>?_) h4;have f1:frN s (sV r i) k<dN r (sV r i):=(ZP T hs hk).2
 have g1:Kl (dN r (sV r i)) (bkF r s (sV r i)) (Kl (dN r (tV r i)) (aF r i) x) k=Kl (dN r (tV r i)) (aF r i) x (frN s (sV r i) k):=by
  show sN (λt=>Kl (dN r (tV r i)) (aF r i) x t*bkF r s (sV r i) t k) (dN r (sV r i))=_;rw[BT f1 λt ht' hne=>by rw[UZ T hs hk ht',aQ hne,Int.mul_zero],UZ T hs hk f1,aP rfl,Int.mul_one]
 have g2:Kl (dN r (tV r i)-kN s (tV r i)) (aF (wD r s) i) (Kl (dN r (tV r i)) (bkF r s (tV r i)) x) k=Kl (dN r (tV r i)-kN s (tV r i)) (nL r.p (dN r (tV r i)) (prF r s (tV r i)) (aF r i)) (Kl (dN r (tV r i)) (bkF r s (tV r i)) x) (frN s (sV r i) k):=
  cD λa ha=>by rw[aGq S T hi ha hk];rfl
 rw[g1,g2,←Ue];exact Uf (λt ht'=>aFE S T ht h1 ht') _
theorem aDV(hS:cK r=true){y:aI}(hy:rH (wD r s) y=true):∀v,v<r.dims.length->(bG (aDU r s y))[v]?.getD 0=(bG s)[v]?.getD 0+(bG y)[v]?.getD 0:=by
 intro v hv;have Q:=iL (Kk S T hS);have hl:=(eG hy).2.1;have hq:=ZU T;have a2:=Pg Q hy (v:=v) (by omega);rw[RU S T hv]at a2;have l2:=((eG hy).2.2 v (by omega)).len;rw[RU S T hv]at l2;have h:=(aFz S T hv).2 (sG y v).basis.length (by omega) _ a2;rw[(CO T hv).1];unfold bG aDU;rw[List.getElem?_map,List.getElem?_map,List.getElem?_range hv,List.getElem?_map,dL (show v<y.length by omega),CL];show((dW r.p (dN r v) (aGr r s y v)).length:Int)=_+((sG y v).basis.length:Int);unfold aGr;rw[h];omega
omit S T in
theorem aFG{y:aI}:(bG (aDU r s y)).length=r.dims.length:=by simp[bG,aDU]
end
end
section
theorem RV{x1 s1 x2 s2 x3 s3:Int}(h1:0<s1)(h2:0<s2)(h3:0<s3)(a:x1*s2<=x2*s1)(b:x2*s3<=x3*s2):x1*s3<=x3*s1:=by
 refine Int.le_of_mul_le_mul_right (?_:x1*s3*s2<=x3*s1*s2) h2;have e1:=Int.mul_le_mul_of_nonneg_right a (Int.le_of_lt h3);have e2:=Int.mul_le_mul_of_nonneg_right b (Int.le_of_lt h1);rw[show x1*s3*s2=x1*s2*s3 by rw[Int.mul_assoc,Int.mul_assoc,Int.mul_comm s3],show x3*s1*s2=x3*s2*s1 by rw[Int.mul_assoc,Int.mul_assoc,Int.mul_comm s1]];rw[show x2*s1*s3=x2*s3*s1 by rw[Int.mul_assoc,Int.mul_assoc,Int.mul_comm s1]]at e1;exact Int.le_trans e1 e2
theorem aFH{x:Int}:0<sgn x↔0<x:=by unfold sgn;split<;>(try split)<;>omega
theorem aFI{x:Int}:sgn x<0↔x<0:=by unfold sgn;split<;>(try split)<;>omega
theorem aDW(x:Int):sgn (-x)= -sgn x:=by unfold sgn;split<;>split<;>(try split)<;>omega
def Ug(t d:aA):Int:=Kj t d t.length
theorem RW(t a b:aA):Nw t a b=sgn (Ug t a*b.sum-Ug t b*a.sum):=rfl
theorem aDX(t a b:aA):Nw t b a= -Nw t a b:=by
 rw[RW,RW,←aDW];congr 1;omega
theorem Jz{t a b:aA}:0<Nw t a b↔Ug t b*a.sum<Ug t a*b.sum:=by rw[RW,aFH];omega
theorem Uh{t a b:aA}:Nw t a b<0↔Ug t a*b.sum<Ug t b*a.sum:=by rw[RW,aFI];omega
def Wk(t a b:aA):Prop:=Ug t a*b.sum<=Ug t b*a.sum/\(Ug t a*b.sum=Ug t b*a.sum->a.sum<=b.sum)
theorem Wk.trans{t a b c:aA}(ha:0<a.sum)(hb:0<b.sum)(hc:0<c.sum)(h1:Wk t a b)(h2:Wk t b c):Wk t a c:=by
 refine⟨RV ha hb hc h1.1 h2.1,λe=>?_⟩;have e1:=RV hb hc ha h2.1 (Int.le_of_eq e.symm);have e2:=RV hc ha hb (Int.le_of_eq e.symm) h1.1;have f1:=h1.2 (Int.le_antisymm h1.1 e1);have f2:=h2.2 (Int.le_antisymm h2.1 e2);omega
theorem Wk.refl(t a:aA):Wk t a a:=⟨Int.le_refl _,λ_=>Int.le_refl _⟩
theorem aGs{r:Rp}{t:aA}{k b:Nat}(h:¬bet r t k b=true):Wk t (dA r k) (dA r b):=by
 unfold bet at h;simp only[Bool.or_eq_true,bX,eD]at h;have h1:=@Jz t (dA r k) (dA r b);have h2:=@Uh t (dA r k) (dA r b);refine⟨by omega,λe=>?_⟩;omega
theorem aFJ{r:Rp}{t:aA}{k b:Nat}(h:bet r t k b=true):Wk t (dA r b) (dA r k):=by
 unfold bet at h;simp only[Bool.or_eq_true,bX,eD]at h;have h1:=@Jz t (dA r k) (dA r b);have h2:=@Uh t (dA r k) (dA r b);refine⟨by omega,λe=>?_⟩;omega
theorem aDY(r:Rp)(k:Nat):0<=(dA r k).sum:=by
 have key:∀l:aI,0<=(bG l).sum:=by
  intro l;induction l with
  |nil=>exact Int.le_refl 0
  |cons x l ih=>
   unfold bG at ih ⊢;simp only[List.map_cons,List.sum_cons];omega
 exact key _
theorem ZV(r:Rp)(t:aA):∀(n b:Nat),Mq r t n=b->∀j,j<n->(dA r j).sum ≠0->Wk t (dA r j) (dA r b)
 |0,b,e,j,hj,_=>by omega
 |n+1,b,e,j,hj,h0=>by
  have ih:=ZV r t n;rw[UY]at e;by_cases h1:(dA r n).sum=0
  .rw[aP h1]at e;have:j≠n:=λe=>h0 (by rw[e];exact h1);exact ih b e j (by omega) h0
  .rw[aQ h1]at e;by_cases h3:Mq r t n<0
   .rw[aP h3]at e;have e:b=n:=by omega
    subst e;rcases Ho r t b with ⟨_,h⟩|⟨c,ec,_⟩
    .rcases dX j b with hj'|hj'
     .exact absurd (h j hj') h0
     .rw[show j=b by omega];exact Wk.refl _ _
    .omega
   .rw[aQ h3]at e;rcases Ho r t n with ⟨ec,_⟩|⟨c,ec,hc,hc0⟩
    .omega
    .rw[ec,fM]at e;have n1:=aDY r n;have n2:=aDY r c;have n3:=aDY r j;by_cases h4:bet r t n c=true
     .rw[aP h4]at e;have e:b=n:=by omega
      subst e;rcases dX j b with hj'|hj'
      .exact Wk.trans (by omega) (by omega) (by omega) (ih c ec j hj' h0) (aFJ h4)
      .rw[show j=b by omega];exact Wk.refl _ _
     .rw[aQ h4]at e;have e:b=c:=by omega
      subst e;rcases dX j n with hj'|hj'
      .exact ih b ec j hj' h0
      .rw[show j=n by omega];exact aGs h4
theorem Ui{r:Rp}{t:aA}(hS:cK r=true)(hT:zB t r.dims=true)(h0:0<r.dims.sum){s:aI}(hs:s∈iI r)(hp:0<(bG s).sum):Wk t (bG s) (bG (Dj r t)):=by
 have hA:(cK r&&(decide (0<r.dims.sum)&&zB t r.dims))=true:=by rw[hS,aR h0,hT];rfl
 have e2:Dj r t=(iI r)[(Mq r t (iI r).length).toNat]?.getD []:=by unfold Dj HH;rw[hA];rfl
 obtain⟨b,eb,hb⟩:=Ms hS h0;obtain⟨j,hj,rfl⟩:=List.getElem_of_mem hs;have:=ZV r t _ b eb j hj (by unfold dA;rw[dL hj,dI];omega);unfold dA at this;rw[dL hj,dI]at this;rw[e2,eb,fM];exact this
theorem Uj{t a b c:aA}:∀n,(∀v,v<n->c[v]?.getD 0=a[v]?.getD 0+b[v]?.getD 0)->Kj t c n=Kj t a n+Kj t b n
 |0,_=>rfl
 |n+1,h=>by
  have ih:=Uj (t:=t) n λv hv=>h v (by omega);simp only[Kj];rw[ih,h n (by omega),Int.mul_add];omega
theorem Uk:∀{a b c:aA},a.length=c.length->b.length=c.length->(∀v,v<c.length->c[v]?.getD 0=a[v]?.getD 0+b[v]?.getD 0)->c.sum=a.sum+b.sum
 | [],[],[],_,_,_=>rfl
 |_::_,_,[],h,_,_=>by simp at h
 |_,_::_,[],_,h,_=>by simp at h
 | [],_,_::_,h,_,_=>by simp at h
 |_,[],_::_,_,h,_=>by simp at h
 |x::a,y::b,z::c,h1,h2,h=>by
  have h0:=h 0 (by simp);have ih:=Uk (a:=a) (b:=b) (c:=c) (by simpa using h1) (by simpa using h2) λv hv=>by have:=h (v+1) (by simpa using hv);simpa using this
  simp only[List.getElem?_cons_zero,dI]at h0;simp only[List.sum_cons];omega
theorem aFK{r:Rp}(hr:bR r){t:aA}(hS:cK r=true)(hT:zB t r.dims=true)(h0:0<r.dims.sum):Mp (Fq r (Dj r t)) t=true:=by
 have M:=IL hr hS hT h0;have hV:=aDQ hS M.T;have hd:(Fq r (Dj r t)).dims=bG (Dj r t):=rfl;have hp:=M.p;unfold Mp;rw[hV,hd,aR (by omega),M.T.P.th hT];simp only[Bool.true_and,Bool.not_eq_true'];refine List.any_eq_false.2 λy hy hb=>?_;unfold Ru at hb;rw[hd]at hb;simp only[bX,eD]at hb;have hy':=(Dh (iL hV) hy).sub;have h1:=Pf hS (aFC hS M.T hy');have h2:=aFD hS M.T hy';have h3:=Ui hS hT h0 h1 (by rw[h2];exact hb.1);rw[h2]at h3;have:=Jz.1 hb.2;have:=h3.1;omega
theorem aHy{r:Rp}(hr:bR r){t:aA}(hS:cK r=true)(hT:zB t r.dims=true)(h0:0<r.dims.sum)(hq:0<(wD r (Dj r t)).dims.sum):0<Nw t (bG (Dj r t)) (bG (Dj (wD r (Dj r t)) t)):=by
 have S:=iL hS;have M:=IL hr hS hT h0;have Q:=IL (RR hr S M.T) (Kk S M.T hS) (Ld hr hS hT M.T) hq;have hy:=Q.T.P.sub;have h1:=Pf hS (aFF S M.T hS hy);have h2:=aDV S M.T hS hy;have hl:=(zZ hT).l;have l1:=HK M.T;have l2:=HK Q.T;rw[ZU M.T]at l2;have l3:=aFG (r:=r) (s:=Dj r t) (y:=Dj (wD r (Dj r t)) t);have a1:=Uj (t:=t) t.length λv hv=>h2 v (by omega);have a2:=Uk (a:=bG (Dj r t)) (b:=bG (Dj (wD r (Dj r t)) t)) (by omega) (by omega) λv hv=>h2 v (by omega);have p1:=M.p;have p2:=Q.p;have h3:=Ui hS hT h0 h1 (by omega);refine Jz.2 ?_;unfold Wk Ug at h3;unfold Ug;rw[a1,a2,Int.add_mul,Int.mul_add]at h3;omega
theorem aDZ{r:Rp}(hr:bR r){t:aA}(hS:cK r=true)(hT:zB t r.dims=true)(h0:0<r.dims.sum):(wD r (Dj r t)).dims.sum=r.dims.sum-(bG (Dj r t)).sum:=Pc (iL hS) (IL hr hS hT h0).T
theorem ZW(t:aA):∀(n:Nat)(r:Rp),bR r->cK r=true->zB t r.dims=true->r.dims.sum<=n->((Ex t n r).map List.sum).sum=r.dims.sum
 |0,r,hr,hS,hT,hn=>by
  have:=EO hS;simp only[Ex,List.map_nil,List.sum_nil];omega
 |n+1,r,hr,hS,hT,hn=>by
  unfold Ex;by_cases h0:r.dims.sum=0
  .rw[aP h0];simp only[List.map_nil,List.sum_nil];omega
  .have:=EO hS;have M:=IL hr hS hT (by omega);have hp:=M.p;have hq:=aDZ hr hS hT (by omega);rw[aQ h0,List.map_cons,List.sum_cons,ZW t n _ (RR hr (iL hS) M.T) (Kk (iL hS) M.T hS) (Ld hr hS hT M.T) (by omega)];omega
theorem TR(t:aA):∀(n:Nat)(r:Rp),bR r->cK r=true->zB t r.dims=true->∀i,i+1<(Ex t n r).length->0<Nw t ((Ex t n r)[i]?.getD []) ((Ex t n r)[i+1]?.getD [])
 |0,r,_,_,_,i,hi=>by simp[Ex]at hi
 |n+1,r,hr,hS,hT,i,hi=>by
  have h0:r.dims.sum≠0:=λh0=>by unfold Ex at hi;rw[aP h0]at hi;simp at hi
  have:=EO hS;have M:=IL hr hS hT (by omega);have hqb:=RR hr (iL hS) M.T;have hqV:=Kk (iL hS) M.T hS;have hqT:=Ld hr hS hT M.T;unfold Ex at hi ⊢;rw[aQ h0]at hi ⊢;cases i with
  |zero=>
   cases n with
   |zero=>simp[Ex]at hi
   |succ n=>
    have h1:(wD r (Dj r t)).dims.sum ≠0:=λh1=>by unfold Ex at hi;rw[aP h1]at hi;simp at hi
    have:=EO hqV;unfold Ex;rw[aQ h1];exact aHy hr hS hT (by omega) (by omega)
  |succ i=>
   have:=TR t n _ hqb hqV hqT i (by simpa using hi);simpa using this
theorem aDa(t:aA):∀(n:Nat)(r:Rp),bR r->cK r=true->zB t r.dims=true->∀d∈Ex t n r,zB t d=true/\0<d.sum
 |0,r,_,_,_,d,hd=>by simp[Ex]at hd
 |n+1,r,hr,hS,hT,d,hd=>by
  have h0:r.dims.sum≠0:=λh0=>by unfold Ex at hd;rw[aP h0]at hd;simp at hd
  have:=EO hS;have M:=IL hr hS hT (by omega);unfold Ex at hd;rw[aQ h0]at hd;rcases eO.1 hd with rfl|hd
  .exact⟨M.T.P.th hT,by have:=M.p;omega⟩
  .exact aDa t n _ (RR hr (iL hS) M.T) (Kk (iL hS) M.T hS) (Ld hr hS hT M.T) d hd
theorem aDb{r:Rp}{t:aA}(h:Mp r t=true){s:aI}(hs:s∈iI r)(hp:0<(bG s).sum):Ug t (bG s)*r.dims.sum<=Ug t r.dims*(bG s).sum:=by
 unfold Mp at h;simp only[bX,Bool.not_eq_true']at h;have h1:=List.any_eq_false.1 h.2 s hs;unfold Ru at h1;rw[aR hp,Bool.true_and,eD]at h1;have:=@Jz t (bG s) r.dims;omega
theorem aDc{r:Rp}{t:aA}(hS:cK r=true)(hT:zB t r.dims=true)(h0:0<r.dims.sum)(h:∀s∈iI r,0<(bG s).sum->Ug t (bG s)*r.dims.sum<=Ug t r.dims*(bG s).sum):Mp r t=true:=by
 unfold Mp;rw[hS,hT,aR h0];simp only[Bool.true_and,Bool.not_eq_true'];refine List.any_eq_false.2 λs hs hb=>?_;unfold Ru at hb;simp only[bX,eD]at hb;have h1:=h s hs hb.1;have:=Jz.1 hb.2;omega
theorem aFL{r:Rp}(hr:bR r){t:aA}(hS:cK r=true)(hT:zB t r.dims=true)(h0:0<r.dims.sum){n:Nat}(hn:r.dims.sum<=n):(Ex t n r).length=1↔Mp r t=true:=by
 have S:=iL hS;have M:=IL hr hS hT h0;have hq:=aDZ hr hS hT h0;have hp:=M.p;have hqV:=Kk S M.T hS;have hq0:=EO hqV;have hPs:=M.T.P.sum;cases n with
 |zero=>omega
 |succ n=>
  unfold Ex;rw[aQ (by omega),List.length_cons]
  have hz:(Ex t n (wD r (Dj r t))).length=0↔(bG (Dj r t)).sum=r.dims.sum:=by
   cases n with
   |zero=>simp only[Ex,List.length_nil,true_iff];omega
   |succ n=>
    unfold Ex;by_cases e:(wD r (Dj r t)).dims.sum=0
    .rw[aP e];simp only[List.length_nil,true_iff];omega
    .rw[aQ e];simp only[List.length_cons];omega
  rw[show((Ex t n (wD r (Dj r t))).length +1=1)↔((bG (Dj r t)).sum=r.dims.sum) by rw[←hz];omega];constructor
  .intro e;have ed:=hPs.2 e;refine aDc hS hT h0 λs hs hp'=>?_;have:=(Ui hS hT h0 hs hp').1
   rwa [ed]at this
  .intro h
   have h1:=aDb h (s:=Dj r t) (by
    have:=M.T.P.sub
    exact Pf hS this) (by omega)
   have h2:=Ui hS hT h0 (ZN hS) (by rw[Nz S];exact h0);rw[Nz S]at h2;have:=h2.2 (Int.le_antisymm h2.1 h1);omega
theorem Ul{r:Rp}{t:aA}(h:Ny r t=true){s:aI}(hs:rH r s=true)(h1:1<=(bG s).sum)(h2:(bG s).sum <=r.dims.sum-1):Ug t (bG s)*r.dims.sum<Ug t r.dims*(bG s).sum:=by
 unfold Ny at h;simp only[bX,Bool.not_eq_true']at h;have h3:=List.any_eq_false.1 h.2 s (Pf h.1.1 hs);unfold WY at h3;rw[show pL (bG s).sum 1 (r.dims.sum-1)=true by unfold pL;simp;omega,Bool.true_and,eD]at h3;exact Uh.1 (by omega)
theorem aFM{r:Rp}{t:aA}(h:Ny r t=true):Mp r t=true:=by
 have h':=h;unfold Ny at h';simp only[bX,eD]at h';obtain⟨⟨hS,h0,hT⟩,_⟩:=h';refine aDc hS hT h0 λs hs hp=>?_;have P:=Dh (iL hS) hs;have:=P.sum;rcases Int.lt_or_le (bG s).sum r.dims.sum with h1|h1
 .exact Int.le_of_lt (Ul h P.sub (by omega) (by omega))
 .rw[this.2 (by omega)];exact Int.le_refl _
theorem aFN{r:Rp}{t:aA}(h:Ny r t=true){k i:aI}(hk:rH r k=true)(hi:rH r i=true)(k0:(bG k).sum ≠0)(i0:(bG i).sum ≠0)(hd:∀v,v<r.dims.length->r.dims[v]?.getD 0=(bG k)[v]?.getD 0+(bG i)[v]?.getD 0):False:=by
 have h':=h;unfold Ny at h';simp only[bX,eD]at h';obtain⟨⟨hS,h0,hT⟩,_⟩:=h'
 have key:∀l:aI,0<=(bG l).sum:=by
  intro l;induction l with
  |nil=>exact Int.le_refl 0
  |cons x l ih=>
   unfold bG at ih ⊢;simp only[List.map_cons,List.sum_cons];omega
 have k1:=key k;have i1:=key i;have l1:(bG k).length=r.dims.length:=by unfold bG;rw[dT];exact(eG hk).2.1
 have l2:(bG i).length=r.dims.length:=by unfold bG;rw[dT];exact(eG hi).2.1
 have hl:=(zZ hT).l;have a1:=Uj (t:=t) (a:=bG k) (b:=bG i) (c:=r.dims) t.length λv hv=>hd v (by omega);have a2:=Uk l1 l2 hd;have s1:=Ul h hk (by omega) (by omega);have s2:=Ul h hi (by omega) (by omega);unfold Ug at s1 s2;rw[a1,a2,Int.mul_add,Int.add_mul]at s1 s2;omega
theorem Wp{a b:Rp}{P:Nat->Nat->Nat->Int}{v:Nat}(h:v<a.dims.length):cF (YM a b P) (v:Int)=some ⟨dN b v,dN a v,bY (dN b v) (dN a v) (P v)⟩:=Eo h
theorem Mw(a b:Rp)(P:Nat->Nat->Nat->Int):(YM a b P).length=a.dims.length:=by simp[YM]
def aAu(p:Int)(d:Nat)(F:Nat->Nat->Int):Nat->Nat->Nat->Int
 |0=>EW
 |k+1=>nL p d (aAu p d F k) F
theorem aFO{p:Int}(hp:lL p=true)(d:Nat)(F:Nat->Nat->Int):∀k,wF p d d (aAu p d F k)
 |0=>aEl hp d d
 |k+1=>Hf hp _ _ _ _ _
theorem aAv{p:Int}(hp:lL p=true){d:Nat}(hd:d<=4){F:Nat->Nat->Int}(hF:wF p d d F){n:Nat}(hn:n<=100):xY p ⟨d,d,bY d d F⟩ (n:Int)=some ⟨d,d,bY d d (aAu p d F n)⟩:=by
 unfold xY;rw[Xf (sq hd hd) (by omega),aB];rw[cO (s:=((d:Int),(d:Int),bY d d EW,(0:Int))) (r:=((d:Int),(d:Int),bY d d (aAu p d F n))) (λk=>((d:Int),(d:Int),bY d d (aAu p d F k),(k:Int))) n rfl (λk hk=>?_) (λ_=>?_),aB]
 .unfold Bx;simp only;rw[jW hk,aG,MV hp (sq hd hd) (sq hd hd) (sq hd hd) (by omega) (by omega) (by omega) (aFO hp d F k) hF,aB,bW hk (by omega)];rfl
 .unfold Bx;simp only;rw[mG (bD _),aN]
def aHz(a:Rp)(P:Nat->Nat->Nat->Int)(n:Nat):Nat->Nat->Nat->Int:=λv=>aAu a.p (dN a v) (P v) n
theorem ZX{a:Rp}(h:Fit a a){P:Nat->Nat->Nat->Int}(m:Mor a a P):∀n,Mor a a (aHz a P n)
 |0=>aGm h.ra
 |n+1=>aDL h m (ZX h m n)
theorem Wq{p:Int}(hp:lL p=true)(n:Nat)(F:Nat->Nat->Int)(L:List Nat):VecsP p n (GP p n F L):=λv hv=>by
 obtain⟨k,_,rfl⟩:=List.mem_map.1 hv;exact⟨FG p n F L k _,PQ hp n F L k _⟩
def krL(a:Rp)(P:Nat->Nat->Nat->Int)(v:Nat):aV:=GP a.p (dN a v) (bK a.p (dN a v) (P v) (dN a v)).1 (bK a.p (dN a v) (P v) (dN a v)).2
def krS(a:Rp)(P:Nat->Nat->Nat->Int)(v:Nat):Sc:=⟨dN a v,dW a.p (dN a v) (krL a P v)⟩
def iSc(a:Rp)(P:Nat->Nat->Nat->Int)(v:Nat):Sc:=⟨dN a v,dW a.p (dN a v) (uW (dN a v) (dN a v) (P v))⟩
def Ht(a:Rp)(P:Nat->Nat->Nat->Int):aI:=(List.range a.dims.length).map (krS a P)
def Hu(a:Rp)(P:Nat->Nat->Nat->Int):aI:=(List.range a.dims.length).map (iSc a P)
theorem RX{a:Rp}(hp:lL a.p=true)(P:Nat->Nat->Nat->Int)(v:Nat):VecsP a.p (dN a v) (krL a P v):=Wq hp _ _ _
theorem Hv{a:Rp}{P:Nat->Nat->Nat->Int}{v:Nat}(hv:v<a.dims.length):sG (Ht a P) v=krS a P v:=by
 unfold sG Ht;simp[hv]
theorem Hw{a:Rp}{P:Nat->Nat->Nat->Int}{v:Nat}(hv:v<a.dims.length):sG (Hu a P) v=iSc a P v:=by
 unfold sG Hu;simp[hv]
section
variable {a:Rp}(h:Fit a a){P:Nat->Nat->Nat->Int}(m:Mor a a P)
include h m
theorem aFP{v:Nat}(hv:v<a.dims.length):(krL a P v).length=dN a v-rkF a.p (dN a v) (dN a v) (P v):=RS h.ra.hp (m.inp v hv)
theorem tbP{v:Nat}(hv:v<a.dims.length):Tb a.p (dN a v) (dN a v) (P v):=by
 have d:=(h.ra.d v hv).2;exact⟨h.ra.hp,sq d d,by omega,by omega,m.inp v hv⟩
theorem Wr:yT a.p (YM a a P)=some (Ht a P):=by
 have n5:=h.ra.n5;unfold yT;rw[cO (s:=(([]:aI),(0:Int))) (r:=Ht a P) (λk=>((List.range k).map (krS a P),(k:Int))) a.dims.length rfl (λv hv=>?_) (λ_=>?_),aB]
 .have d:=(h.ra.d v hv).2;have hk:=aFP h m hv;unfold zH;simp only;rw[Mw,jW hv,aG,Wp hv,aB,Mu (tbP h m hv),aB,Hk h.ra.hp (by omega) (by unfold krL at hk;omega) (Wq h.ra.hp _ _ _),aB,aR (by simp;omega),aG,bW hv (by omega)];congr 3;exact Dg (f:=krS a P)
 .unfold zH;simp only;rw[Mw,mG (bD _),aN];rfl
theorem YO:AO a.p (YM a a P)=some (Hu a P):=by
 have n5:=h.ra.n5;unfold AO;rw[cO (s:=(([]:aI),(0:Int))) (r:=Hu a P) (λk=>((List.range k).map (iSc a P),(k:Int))) a.dims.length rfl (λv hv=>?_) (λ_=>?_),aB]
 .have d:=(h.ra.d v hv).2;unfold Aj;simp only;rw[Mw,jW hv,aG,Wp hv,aB,aAQ (sq d d) (by omega) (by omega),aB,Hk h.ra.hp (by omega) (by simp[uW];omega) (Jq (m.inp v hv)),aB,aR (by simp;omega),aG,bW hv (by omega)];congr 3;exact Dg (f:=iSc a P)
 .unfold Aj;simp only;rw[Mw,mG (bD _),aN];rfl
theorem aFQ(hr:xN a=true):rH a (Ht a P)=true:=by
 have hp:=h.ra.hp;unfold rH;rw[hr,aR (by simp[Ht])];simp only[Bool.true_and,bX];constructor
 .refine List.all_eq_true.2 λv hv=>?_;have hv:v<a.dims.length:=by have:=List.mem_range.1 hv;simpa [Ht]using this
  have d:=h.ra.d v hv;unfold spB;rw[Hv hv,d.1];unfold krS;simp only;rw[HZ hp (by omega) (RX hp P v)];simp
 .refine List.all_eq_true.2 λi hi=>?_;have hi:i<a.q.src.length:=by have:=List.mem_range.1 hi;have:=h.ra.ml;omega
  obtain⟨_,s2⟩:=h.ra.s i hi;obtain⟨_,t2⟩:=h.ra.t i hi;have ds:=(h.ra.d _ s2).2;have dt':=(h.ra.d _ t2).2;unfold imB Ux;rw[Hv s2,Hv t2];unfold krS;simp only;have hv1:VecsP a.p (dN a (tV a i)) (Rc a.p (dN a (tV a i)) (dN a (sV a i)) (aF a i) (dW a.p (dN a (sV a i)) (krL a P (sV a i)))):=Ab hp _ _ _ _;have hk:=RX hp P (tV a i);have hks:=RX hp P (sV a i);refine aR ((uI hp (rU hp hv1.inP) (rU hp hk.inP) (Jc hp hk.inP)).2 λx hx=>?_);rw[AA hp hv1.inP,JO,AA hp hks.inP];have hx':=(AA hp hk.inP x).1 hx;refine YN λw hw=>?_;refine xC (Uc (dN a (tV a i)) (dN a (sV a i)) (aF a i) w x) ?_;refine aDM hp (m.inp _ t2) (λu hu=>JN hx' hu) ?_;have hw2:=aDF hp (m.inp _ s2) hw;intro r hr
  have e1:dt (dN a (tV a i)) (P (tV a i) r) (HJ (RG a.p (dN a (tV a i)) (dN a (sV a i)) (aF a i) w))%a.p=dt (dN a (sV a i)) (HJ w) (Kl (dN a (tV a i)) (aF a i) (P (tV a i) r))%a.p:=by
   rw[ZS];exact Uc _ _ _ _ _
  have e2:dt (dN a (sV a i)) (HJ w) (Kl (dN a (tV a i)) (aF a i) (P (tV a i) r))%a.p=dt (dN a (sV a i)) (HJ w) (λk=>sN (λj=>aF a i r j*P (sV a i) j k) (dN a (sV a i)))%a.p:=by
   refine GM λk hk'=>?_;have:=m.eq i hi r k hr hk';rw[qV,qV]at this;exact this.symm
  have e3:dt (dN a (sV a i)) (HJ w) (λk=>sN (λj=>aF a i r j*P (sV a i) j k) (dN a (sV a i)))=sN (λj=>aF a i r j*dt (dN a (sV a i)) (P (sV a i) j) (HJ w)) (dN a (sV a i)):=by
   unfold dt;rw[CN (HJ w) (aF a i r) (λj k=>P (sV a i) j k) (dN a (sV a i)) (dN a (sV a i))];refine cD λj _=>?_;congr 1;exact cD λk _=>Int.mul_comm _ _
  unfold Z0;rw[e1,e2,e3];exact RB λj hj=>Dm _ (hw2 j hj)
theorem aFR(hr:xN a=true):rH a (Hu a P)=true:=by
 have hp:=h.ra.hp;unfold rH;rw[hr,aR (by simp[Hu])];simp only[Bool.true_and,bX];constructor
 .refine List.all_eq_true.2 λv hv=>?_;have hv:v<a.dims.length:=by have:=List.mem_range.1 hv;simpa [Hu]using this
  have d:=h.ra.d v hv;unfold spB;rw[Hw hv,d.1];unfold iSc;simp only;rw[HZ hp (by omega) (Jq (m.inp v hv))];simp
 .refine List.all_eq_true.2 λi hi=>?_;have hi:i<a.q.src.length:=by have:=List.mem_range.1 hi;have:=h.ra.ml;omega
  obtain⟨_,s2⟩:=h.ra.s i hi;obtain⟨_,t2⟩:=h.ra.t i hi;have ds:=(h.ra.d _ s2).2;have dt':=(h.ra.d _ t2).2;unfold imB Ux;rw[Hw s2,Hw t2];unfold iSc;simp only;have hct:=Jq (m.inp _ t2);have hcs:=Jq (m.inp _ s2);have hv1:VecsP a.p (dN a (tV a i)) (Rc a.p (dN a (tV a i)) (dN a (sV a i)) (aF a i) (dW a.p (dN a (sV a i)) (uW (dN a (sV a i)) (dN a (sV a i)) (P (sV a i))))):=Ab hp _ _ _ _;refine aR ((uI hp (rU hp hv1.inP) (rU hp hct.inP) (Jc hp hct.inP)).2 λx hx=>?_);rw[AA hp hv1.inP,JO,AA hp hcs.inP,UN];have hx':=UN.1 ((AA hp hct.inP x).1 hx);intro k hk
  have e1:dt (dN a (sV a i)) (λj=>P (sV a i) j k) (Kl (dN a (tV a i)) (aF a i) x)=dt (dN a (tV a i)) x (λr=>sN (λj=>aF a i r j*P (sV a i) j k) (dN a (sV a i))):=by
   unfold dt Kl;rw[CN (λj=>P (sV a i) j k) x (λr j=>aF a i r j) (dN a (tV a i)) (dN a (sV a i))];refine cD λr _=>?_;congr 1;exact cD λj _=>Int.mul_comm _ _
  have e2:dt (dN a (tV a i)) x (λr=>sN (λj=>aF a i r j*P (sV a i) j k) (dN a (sV a i)))%a.p=dt (dN a (tV a i)) x (λr=>sN (λj=>P (tV a i) r j*aF a i j k) (dN a (tV a i)))%a.p:=by
   refine GM λr hr'=>?_;have:=m.eq i hi r k hr' hk;rw[qV,qV]at this;exact this
  have e3:dt (dN a (tV a i)) x (λr=>sN (λj=>P (tV a i) r j*aF a i j k) (dN a (tV a i)))=sN (λj=>aF a i j k*dt (dN a (tV a i)) (λr=>P (tV a i) r j) x) (dN a (tV a i)):=by
   unfold dt;rw[cD (g:=λr=>x r*sN (λj=>aF a i j k*P (tV a i) r j) (dN a (tV a i))) λr _=>by rw[cD λj _=>Int.mul_comm _ _],CN x (λj=>aF a i j k) (λj r=>P (tV a i) r j) (dN a (tV a i)) (dN a (tV a i))];refine cD λj _=>?_;congr 1;exact cD λr _=>Int.mul_comm _ _
  unfold Z0;rw[e1,e2,e3];exact RB λj hj=>Dm _ (hx' j hj)
end
theorem pig:∀(n:Nat)(L:List Nat),L.length<n->∃k,k<n/\k ∉ L
 |0,L,h=>absurd h (Nat.not_lt_zero _)
 |n+1,L,h=>by
  by_cases hm:n∈L
  .obtain⟨k,hk,hkL⟩:=pig n (L.filter λx=>decide (x≠n)) (by
    have h1:(L.filter λx=>decide (x≠n)).length +1<=L.length:=by
     clear h;induction L with
     |nil=>cases hm
     |cons a L ih=>
      by_cases ha:a=n
      .rw[List.filter_cons_of_neg (by simp[ha])];have:=List.length_filter_le (λx=>decide (x≠n)) L;simp only[List.length_cons];omega
      .rcases eO.1 hm with h|h
       .exact absurd h.symm ha
       .rw[List.filter_cons_of_pos (by simp[ha])];have:=ih h;simp only[List.length_cons];omega
    omega)
   refine⟨k,by omega,λhkm=>hkL ?_⟩;rw[List.mem_filter];exact⟨hkm,by simp;omega⟩
  .exact⟨n,by omega,hm⟩
theorem YP{p:Int}(hp:lL p=true){m n:Nat}{F:Nat->Nat->Int}(hin:wF p m n F)(h:(bK p m F n).2.length <n):∃x,Kr p m n F x/\∃k,k<n/\x k=1:=by
 obtain⟨k,hk,hL⟩:=pig n _ h;have R:=Cd hp hin n (bD _);refine⟨kx (bK p m F n).1 (bK p m F n).2 k,(DH hp hin _ n (bD _)).1 (Iq R hk λi hi e=>hL ?_),k,hk,Yo⟩;rw[←e,dL hi,dI];exact List.getElem_mem hi
def cmb(c:Nat->Int)(l:Nat->Nat->Int)(s:Nat):Nat->Int:=λk=>sN (λi=>c i*l i k) s
def Ind(p:Int)(n s:Nat)(l:Nat->Nat->Int):Prop:=∀c,(∀k,k<n->Z0 p (cmb c l s k))->∀i,i<s->Z0 p (c i)
theorem aGv{n k:Nat}{L:List Nat}:k∈lP n L↔k<n/\k ∉ L:=by
 unfold lP;rw[List.mem_filter,List.mem_range];simp
def bas(p:Int)(m n:Nat)(F:Nat->Nat->Int)(i:Nat):Nat->Int:=kx (bK p m F n).1 (bK p m F n).2 ((lP n (bK p m F n).2)[i]?.getD 0)
def nul(p:Int)(m n:Nat)(F:Nat->Nat->Int):Nat:=(lP n (bK p m F n).2).length
theorem Ws{n:Nat}{L:List Nat}{i:Nat}(hi:i<(lP n L).length):(lP n L)[i]?.getD 0<n/\(lP n L)[i]?.getD 0 ∉ L:=by
 rw[dL hi,dI];exact aGv.1 (List.getElem_mem hi)
theorem aDd{L:List Nat}{k:Nat}(h:k ∉ L):∀i,i<L.length->L[i]?.getD 0≠k:=λi hi e=>h (by rw[←e,dL hi,dI];exact List.getElem_mem hi)
theorem aGw{n:Nat}{L:List Nat}{i j:Nat}(hi:i<(lP n L).length)(hj:j<(lP n L).length)(e:(lP n L)[i]?.getD 0=(lP n L)[j]?.getD 0):i=j:=by
 rw[dL hi,dL hj,dI,dI]at e
 have hnd:(lP n L).Nodup:=by
  unfold lP;exact List.Pairwise.filter _ List.nodup_range
 exact(List.getElem_inj hnd).1 e
theorem aDe{p:Int}{m n:Nat}{F:Nat->Nat->Int}{i j:Nat}(hi:i<nul p m n F)(hj:j<nul p m n F):bas p m n F i ((lP n (bK p m F n).2)[j]?.getD 0)=if i=j then 1 else 0:=by
 unfold bas;by_cases h:i=j
 .subst h;rw[aP rfl,Yo]
 .rw[aQ h];exact aGF (λe=>h (aGw hj hi e).symm) (aDd (Ws hj).2)
theorem aFS{p:Int}{m n:Nat}{F:Nat->Nat->Int}(c:Nat->Int){j:Nat}(hj:j<nul p m n F):cmb c (bas p m n F) (nul p m n F) ((lP n (bK p m F n).2)[j]?.getD 0)=c j:=by
 unfold cmb;rw[BT hj λi hi hij=>by rw[aDe hi hj,aQ hij,Int.mul_zero],aDe hj hj,aP rfl,Int.mul_one]
def vM(x:aA):Nat->Int:=λk=>x[k]?.getD 0
theorem Wt{p:Int}{m n:Nat}{F:Nat->Nat->Int}{L:List Nat}(h:Red m n F L){k:Nat}(hk:k<n)(hL:∀i,i<L.length->L[i]?.getD 0≠k):∀t,t<=L.length->∀c,c<n->vM (HY p n F L k t) c%p=(if c=k then 1 else -(sN (λi=>if L[i]?.getD 0=c then F i k else 0) t))%p
 |0,_,c,hc=>by
  unfold HY vM;rw[List.getElem?_set,List.length_replicate];by_cases e:c=k
  .rw[aP e.symm,aP hk,aP e];rfl
  .rw[aQ λh=>e h.symm,aQ e];simp[hc,sN]
 |t+1,ht,c,hc=>by
  have ih:=Wt (p:=p) h hk hL t (by omega) c hc;have hlt:=h.lt t (by omega);have hne:=hL t (by omega);unfold HY vM;rw[List.getElem?_set,FG];by_cases e:L[t]?.getD 0=c
  .rw[aP e,aP (by omega),dI,Int.emod_emod_of_dvd _ (Int.dvd_refl p),aQ (by omega),sN,aP e];rw[cD (g:=λ_=>0) λi hi=>?_,wG,Int.zero_add];rw[aQ];intro e2;have:=h.inc i t hi (by omega);omega
  .rw[aQ e];refine ih.trans ?_;rw[sN,aQ e,Int.add_zero]
theorem aDf{p:Int}{m n:Nat}{F:Nat->Nat->Int}{L:List Nat}(h:Red m n F L){k:Nat}(hk:k<n)(hL:∀i,i<L.length->L[i]?.getD 0≠k){c:Nat}(hc:c<n):vM (HY p n F L k L.length) c%p=kx F L k c%p:=Wt h hk hL _ (bD _) c hc
theorem aFT{p:Int}{n:Nat}{F:Nat->Nat->Int}{L:List Nat}{k:Nat}(hk:k<(lP n L).length):bN (GP p n F L) k=vM (HY p n F L ((lP n L)[k]?.getD 0) L.length):=by
 funext c;unfold bN GP vM;rw[List.getElem?_map,dL hk];rfl
theorem aAw{p:Int}{n:Nat}{F:Nat->Nat->Int}{L:List Nat}:(GP p n F L).length=(lP n L).length:=by unfold GP;rw[dT]
theorem aFU{p:Int}{m n:Nat}{F:Nat->Nat->Int}{L:List Nat}(h:Red m n F L){k c:Nat}(hk:k<(lP n L).length)(hc:c<n):bN (GP p n F L) k c%p=kx F L ((lP n L)[k]?.getD 0) c%p:=by
 rw[aFT hk];exact aDf h (Ws hk).1 (aDd (Ws hk).2) hc
theorem aFV{p:Int}{c d:Nat->Int}{l l':Nat->Nat->Int}{k:Nat}:∀s,(∀i,i<s->c i*l i k%p=d i*l' i k%p)->cmb c l s k%p=cmb d l' s k%p:=λs h=>KV h
theorem aFW{l:aV}(w:Nat->Int)(m x:Nat):dt m (Ym l x) w=cmb w (bN l) m x:=cD λq _=>Int.mul_comm _ _
theorem Um{p:Int}{n:Nat}{l:aV}:(dW p n l).length=(bK p l.length (bN l) n).2.length:=qF _ _ _
theorem Ph{p:Int}(hp:lL p=true){m n:Nat}{F:Nat->Nat->Int}(hF:wF p m n F):(bK p n (λk i=>F i k) m).2.length <=(bK p m F n).2.length:=by
 have h1:=congrArg List.length (aAS hp hF);have h2:(dW p m (Aw m F (bK p m F n).2)).length <=(Aw m F (bK p m F n).2).length:=DX.2;rw[show(Aw m F (bK p m F n).2).length=(bK p m F n).2.length from dT _]at h2;rw[Um]at h1;have hl:(uW m n F).length=n:=by simp[uW]
 have he:∀k i,k<n->i<m->bN (uW m n F) k i=F i k:=λk i hk hi=>by simp[bN,uW,fQ,hk,hi]
 have i1:wF p n m (bN (uW m n F)):=λk i hk hi=>by rw[he k i hk hi];exact hF i k hi hk
 have i2:wF p n m (λk i=>F i k):=λk i hk hi=>hF i k hi hk
 have h3:=(Ha hp i2 i1 λx=>⟨λh i hi=>by
  have:=h i hi
  rwa [show dt m (bN (uW m n F) i) x=dt m (λq=>F q i) x from cD λq hq=>by rw[he i q hi hq]],λh i hi=>by
  have:=h i hi
  rwa [show dt m (bN (uW m n F) i) x=dt m (λq=>F q i) x from cD λq hq=>by rw[he i q hi hq]]at this⟩).1
 rw[h3];rw[hl]at h1;omega
theorem aAx{p:Int}(hp:lL p=true){n:Nat}{l:aV}(hl:VecsP p n l):(bK p n (Ym l) l.length).2.length=(dW p n l).length:=by
 have i1:=hl.inP;have i2:wF p n l.length (Ym l):=λi j hi hj=>i1 j i hj hi;have h1:=Ph hp i1;have h2:=Ph hp i2;rw[Um];exact Nat.le_antisymm h1 h2
theorem aGx{p:Int}(hp:lL p=true){n:Nat}{l:aV}(hl:VecsP p n l)(hI:Ind p n l.length (bN l)):(dW p n l).length=l.length:=by
 have h1:=(DX (p:=p) (n:=n) (l:=l)).2;refine Classical.byContradiction λhne=>?_;have h2:=aAx hp hl;have hb:=fN hp;obtain⟨c,hc,k,hk,e⟩:=YP hp (m:=n) (n:=l.length) (F:=Ym l) (λi j hi hj=>hl.inP j i hj hi) (by omega)
 have h3:=hI c (λx hx=>by
  have:=hc x hx
  rwa [aFW]at this) k hk
 unfold Z0 at h3;rw[e,Int.emod_eq_of_lt (by omega) (by omega)]at h3;omega
theorem aFX{p:Int}(hp:lL p=true){m n:Nat}{F:Nat->Nat->Int}(hF:wF p m n F):(dW p m (uW m n F)).length=rkF p m n F:=by
 have h2:=Ph hp hF;have i2:wF p n m (λk i=>F i k):=λk i hk hi=>hF i k hi hk;have h4:=Ph hp i2;have hl:(uW m n F).length=n:=by simp[uW]
 have he:∀k i,k<n->i<m->bN (uW m n F) k i=F i k:=λk i hk hi=>by simp[bN,uW,fQ,hk,hi]
 have i1:wF p n m (bN (uW m n F)):=λk i hk hi=>by rw[he k i hk hi];exact hF i k hi hk
 have h3:=(Ha hp i2 i1 λx=>⟨λh i hi=>by
  have:=h i hi
  rwa [show dt m (bN (uW m n F) i) x=dt m (λq=>F q i) x from cD λq hq=>by rw[he i q hi hq]],λh i hi=>by
  have:=h i hi
  rwa [show dt m (bN (uW m n F) i) x=dt m (λq=>F q i) x from cD λq hq=>by rw[he i q hi hq]]at this⟩).1
 rw[Um,hl,←h3];exact Nat.le_antisymm h2 h4
theorem aFY{p:Int}(hp:lL p=true){m n:Nat}{F:Nat->Nat->Int}(hF:wF p m n F):Ind p n (GP p n (bK p m F n).1 (bK p m F n).2).length (bN (GP p n (bK p m F n).1 (bK p m F n).2)):=by
 have hR:=Cd hp hF n (bD _);have hfl:=aAw (p:=p) (n:=n) (F:=(bK p m F n).1) (L:=(bK p m F n).2);intro c hc k hk;rw[hfl]at hk hc;have hb:=aFS (p:=p) (m:=m) (n:=n) (F:=F) c hk;unfold nul bas at hb;refine xC ?_ (hc _ (Ws hk).1);rw[←hb];exact aFV _ λi hi=>by rw[Int.mul_emod,aFU hR hi (Ws hk).1,←Int.mul_emod]
theorem aFZ{p:Int}(hp:lL p=true){m n:Nat}{F:Nat->Nat->Int}(hF:wF p m n F):(dW p n (GP p n (bK p m F n).1 (bK p m F n).2)).length=n-rkF p m n F:=by
 rw[aGx hp (λv hv=>?_) (aFY hp hF)]
 .exact RS hp hF
 .obtain⟨k,_,rfl⟩:=List.mem_map.1 hv;exact⟨FG p n _ _ k _,PQ hp n _ _ k _⟩
end
noncomputable section
theorem OC{r:Rp}{s:aI}(h:rH r s=true){v:Nat}(hv:v<r.dims.length):(bG s)[v]?.getD 0=((sG s v).basis.length:Int):=by
 have hl:=(eG h).2.1;unfold bG;rw[List.getElem?_map,dL (by omega),Option.map_some,dI];unfold sG;rw[dL (by omega),dI]
theorem TS{r:Rp}{s:aI}(h:rH r s=true):cI (bG s)=some (bG s).sum:=by
 obtain⟨R,hl,V⟩:=eG h;have h5:=R.n5;have hdl:(bG s).length=s.length:=by unfold bG;rw[dT]
 refine GE (λx hx=>?_) (by omega);obtain⟨v,hv,e⟩:=List.mem_iff_getElem.1 hx;rw[hdl]at hv;have h1:=OC h (show v<r.dims.length by omega);rw[dL (by omega),dI,e]at h1;have:=(V v (by omega)).len;have:=(R.d v (by omega)).2;omega
def pw8(a:Rp)(c:Nat):Nat->Nat->Nat->Int:=aHz a (gM a a (Wz a a c)) 8
def kS(a:Rp)(c:Nat):aI:=Ht a (pw8 a c)
def iS(a:Rp)(c:Nat):aI:=Hu a (pw8 a c)
def spl(a:Rp)(c:Nat):Bool:= !decide ((bG (kS a c)).sum=0)&& !decide ((bG (iS a c)).sum=0)
section
variable {a:Rp}(hv:xN a=true)
include hv
theorem AB:Fit a a:=aCe hv hv rfl rfl
theorem Un(c:Nat):Mor a a (pw8 a c):=ZX (AB hv) (aGn (AB hv) c) 8
theorem YQ(c:Nat):rH a (kS a c)=true:=aFQ (AB hv) (Un hv c) hv
theorem YR(c:Nat):rH a (iS a c)=true:=aFR (AB hv) (Un hv c) hv
theorem aDg(c:Nat):Lp (wU a (CM a a (Wz a a c))) ([],0)=some (YM a a (pw8 a c)):=by
 have h:=AB hv;have n5:=h.ra.n5;rw[aAs];rw[cO (s:=(([]:bJ),(0:Int))) (r:=YM a a (pw8 a c)) (λk=>((List.range k).map λv=>(⟨dN a v,dN a v,bY (dN a v) (dN a v) (pw8 a c v)⟩:Mt),(k:Int))) a.dims.length rfl (λv hv=>?_) (λ_=>?_)]
 .have d:=(h.ra.d v hv).2;have p8:xY a.p _ 8=_:=aAv h.ra.hp d ((aFx h c).inP hv) (n:=8) (by omega);unfold wU;simp only;rw[dT,List.length_range,jW hv,aG,Eo hv,aB,p8,aB,aR (by simp;omega),aG,bW hv (by omega)];congr 3;exact Dg (f:=λv=>(⟨dN a v,dN a v,bY (dN a v) (dN a v) (pw8 a c v)⟩:Mt))
 .unfold wU;simp only;rw[dT,List.length_range,mG (bD _),aN];rfl
theorem aAy(c:Nat):Bz a (CM a a (Wz a a c))=some (bif spl a c then(kS a c,iS a c,true)else([],[],false)):=by
 have h:=AB hv;have hm:=Un hv c;have K:=YQ hv c;have I:=YR hv c;have l5:=h.ra.n5;have lk:=(eG K).2.1;have li:=(eG I).2.1;unfold Bz;rw[aDg hv c,aB,Wr h hm,aB,YO h hm,aB];rw[show Ht a (pw8 a c)=kS a c from rfl,show Hu a (pw8 a c)=iS a c from rfl,BN (by omega),aB,TS K,aB];unfold spl;cases decide ((bG (kS a c)).sum=0)with
 |true=>rfl
 |false=>
  rw[aN,BN (by omega),aB,TS I,aB];cases decide ((bG (iS a c)).sum=0)<;>rfl
theorem aDh(c:Nat):∀v,v<a.dims.length->a.dims[v]?.getD 0=(bG (kS a c))[v]?.getD 0+(bG (iS a c))[v]?.getD 0:=by
 intro v hv';have h:=AB hv;have hm:=Un hv c;rw[OC (YQ hv c) hv',OC (YR hv c) hv',(h.ra.d v hv').1];have h2:=@aHl a.p (dN a v) (dN a v) (pw8 a c v);have e1:=aFZ h.ra.hp (hm.inp v hv');have e2:=aFX h.ra.hp (hm.inp v hv');unfold kS iS;rw[Hv hv',Hw hv'];unfold krS iSc krL;simp only;omega
end
def fS(a:Rp)(c:Nat):Option (aI×aI):=bif spl a c then some (kS a c,iS a c)else none
def Wu(a:Rp):Option (aI×aI):=(List.range' 1 (Oa a a-1)).findSome? (fS a)
theorem aDi{β γ:Type}(f:Nat->Option β)(g:β->γ)(l:List Nat):l.findSome? (λc=>(f c).map g)=(l.findSome? f).map g:=by
 induction l with
 |nil=>rfl
 |cons c l ih=>
  rw[List.findSome?_cons,List.findSome?_cons];cases f c with
  |none=>exact ih
  |some b=>rfl
theorem aAz{a:Rp}{k i:aI}(h:Wu a=some (k,i)):∃c,spl a c=true/\k=kS a c/\i=iS a c:=by
 unfold Wu at h;obtain⟨c,_,hc⟩:=List.exists_of_findSome?_eq_some h;unfold fS at hc;cases e:spl a c with
 |false=>rw[e]at hc;simp at hc
 |true=>
  rw[e,aG]at hc;have:=Option.some.inj hc;exact⟨c,e,(congrArg Prod.fst this).symm,(congrArg Prod.snd this).symm⟩
theorem ZY{P:Nat}(h:1<=P):∀n,1<=Lk P n
 |0=>bD _
 |n+1=>by
  have ih:=ZY h n;unfold Lk;split
  .exact Nat.le_trans ih (Nat.le_mul_of_pos_right _ h)
  .exact ih
section
variable {a:Rp}(hv:xN a=true)
include hv
theorem aBA:1<=Oa a a:=by
 have hp:=(Pe (AB hv).ra.hp).2.1;have:=ZY (P:=a.p.toNat) (by omega) (Fo a a);unfold Oa;omega
theorem Wv:yU a (hmB a a)=some (match Wu a with|some x=>(x.1,x.2,true)|none=>([],[],false)):=by
 have h:=AB hv;have hl:=Hs h;have hd:=Pd h;have el:((hmB a a).length:Int)=(Fo a a:Int):=by unfold hmB;rw[dT,hl]
 have em:min ((Lk a.p.toNat (Fo a a):Nat):Int) 3000=((Oa a a:Nat):Int):=by unfold Oa;omega
 have ht:Oa a a<=3000:=Nat.min_le_right _ _;unfold yU;rw[Gk (s0:=1) (s:=1) (n:=Oa a a) (λc=>(fS a c).map λx=>(x.1,x.2,true)) rfl (by omega) (aBA hv) (λc _ hc=>?_) (λ_=>?_),aB,aDi]
 .unfold Wu;cases (List.range' 1 (Oa a a-1)).findSome? (fS a)<;>rfl
 .unfold zI;rw[el,JM h.ra.hp (by omega),aB,em,jW hc,aG,YI h (by omega),aB,aAy hv c,aB];unfold fS;cases spl a c<;>rfl
 .unfold zI;rw[el,JM h.ra.hp (by omega),aB,em,mG (bD _),aN]
theorem aFa(ha:bR a):∃z,nD a=some z/\(z=0->a.dims.sum=0∨∃x,Wu a=some x):=by
 have h:=AB hv;have hl:=Hs h;have hd:=Pd h;have el:((hmB a a).length:Int)=(Fo a a:Int):=by unfold hmB;rw[dT,hl]
 obtain⟨hp,hD,_,_⟩:=Fa hv;obtain⟨_,_,hd4,_⟩:=qM hD;unfold nD;rw[Wg h,aB,Wv hv,aB,GE hd4 ha.2.1,aB];by_cases c:a.dims.sum=0
 .rw[aR c,aG];exact⟨_,rfl,λ_=>.inl c⟩
 .rw[bP c,aN];cases e:Wu a with
  |some x=>exact⟨_,rfl,λ_=>.inr ⟨x,rfl⟩⟩
  |none=>
   simp only[aN];rw[el,JM h.ra.hp (by omega),aB];cases decide (((Lk a.p.toNat (Fo a a):Nat):Int)<=3000)with
   |true=>exact⟨_,rfl,λh=>absurd h (by decide)⟩
   |false=>exact⟨_,rfl,λh=>absurd h (by decide)⟩
end
theorem aFb{a:Rp}(ha:bR a):∃z,kG a=some z/\(z=0->xN a=true/\(a.dims.sum=0∨∃x,Wu a=some x)):=by
 unfold kG;rw[Gz ha,aB];cases hv:xN a with
 |false=>exact⟨_,rfl,λh=>absurd h (by decide)⟩
 |true=>
  obtain⟨z,e,k⟩:=aFa hv ha;rw[dR,aN,e,aB];exact⟨z,rfl,λh=>⟨rfl,k h⟩⟩
end
section
structure Cu where
 b:aA
 i:Int
 h:Int
section
variable {P:Program}{dst:Option Tmp}{ty:TypeId}{pos:String}{aft:Array Edge}{g:Option (Nat×Bool)}{s:AState}
theorem aDj{t t':TypeId}{x y:Operand}{a b:Int}{k:IntKind}(hx:s.ev x=some (.int a))(hy:s.ev y=some (.sc (.int k b)))(h:(!decide (b<0))=true):AEff P ⟨dst,.binOp .shr t x y t',ty,pos,aft,g⟩ s.ev s.heap s.kp ⟨.int (NP a b),[],[],[]⟩:=
 rI hx hy rfl λw=>by
  have hb:¬ b<0:=by simpa using h
  simp[eqGuard,binOp,Op.shift,hb,NP,IntKind.bits]
end
section
variable {P:Program}{dst:Option Tmp}{ty:TypeId}{pos:String}{aft:Array Edge}{g:Option (Nat×Bool)}{ins:Operand->Option AV}{hp:Hp}{κ:Kp}
theorem aGz(b:Nat)(t:List Nat){fo:Operand}{xs:Array Operand}{ats:Array TypeId}{f:FuncId}{caps avs ds:aH}{e:List aH}{i h I H:Int}{r:AV}{ed:List (Nat×Option Blk)}
  (hc:HasE P f ds [(0,⟨3,[[.list 1 e,.int i,.int h]]⟩)] 1 r [(0,⟨3,[[.list 1 e,.int I,.int H]]⟩)]) (hf:ins fo=some (.fn f caps)) (hx:Ia ins xs.toList=some avs)
  (hav:All2 (Vp (sg [(0,b)]) 1 hp (b::t) [(0,⟨3,[[.list 1 e,.int i,.int h]]⟩)]) (avs++caps) ds) (hb:hp b=some ⟨3,[[.list 1 e,.int i,.int h]]⟩) (hlive:((b::t).all λb=>(hp b).isSome)=true)
  (hr:NT (sg [(b,0)]) (b+1) r r) (htr:Sp (b::t) r=true) (he:zD (b::t) [(b,⟨3,[[.list 1 e,.int I,.int H]]⟩)]=ed):
  AEff P ⟨dst,.call ⟨.value fo,xs,ats⟩,ty,pos,aft,g⟩ ins hp κ ⟨r,b::t,ed,[]⟩:=by
 have hs:sg [(b,0)] b=some 0:=by
  unfold sg;simp
 have hct:(b::t).contains b=true:=by simp
 have hlt:Nat.blt b (b+1)=true:=by simp[Nat.blt]
 refine Qh (σ:=sg [(0,b)]) (σ':=sg [(b,0)]) (touch:=b::t) (news:=[]) (hl2:=[(b,⟨3,[[.list 1 e,.int I,.int H]]⟩)]) (n':=b+1) (r2:=r) hc hf hx hav ?_ rfl ?_ hlive ?_ rfl hr ?_ ?_ ?_ ?_
 .exact⟨⟨_,hb,rfl,.inr ⟨_,_,rfl,⟨_,_,rfl,⟨rfl,rfl⟩,⟨_,_,rfl,rfl,⟨_,_,rfl,rfl,rfl⟩⟩⟩,rfl⟩⟩,rfl,trivial⟩
 .show(((b::t).contains b)&&true)=true;rw[hct];rfl
 .refine⟨?_,hlt,trivial⟩;rw[hs];exact⟨_,rfl,rfl,.inr ⟨_,_,rfl,⟨_,_,rfl,⟨rfl,rfl⟩,⟨_,_,rfl,rfl,⟨_,_,rfl,rfl,rfl⟩⟩⟩,rfl⟩⟩
 .unfold Gp;simp[hs,sg];rfl
 .rw[List.append_nil];exact⟨hct,Qg rfl,trivial⟩
 .rw[List.append_nil];exact htr
 .rw[List.append_nil];exact he
end
section
variable {dst:Option Tmp}{ty:TypeId}{pos:String}{aft:Array Edge}{g:Option (Nat×Bool)}
theorem jU(b:Nat)(t:List Nat){ins:Operand->Option AV}{hp:Hp}{κ:Kp}{fo:Operand}{xs:Array Operand}{ats:Array TypeId}{f:FuncId}{caps avs ds:aH}{e:List aH}{i h I H:Int}{r:AV}
  (hc:HasE Tryz.prog f ds [(0,⟨3,[[.list 1 e,.int i,.int h]]⟩)] 1 r [(0,⟨3,[[.list 1 e,.int I,.int H]]⟩)]) (hf:ins fo=some (.fn f caps):=by exact k) (hx:Ia ins xs.toList=some avs:=by exact k)
  (hav:All2 (Vp (sg [(0,b)]) 1 hp (b::t) [(0,⟨3,[[.list 1 e,.int i,.int h]]⟩)]) (avs++caps) ds:=by exact jM) (hb:hp b=some ⟨3,[[.list 1 e,.int i,.int h]]⟩/\((b::t).all λb=>(hp b).isSome)=true:=by exact k2)
  (hr:NT (sg [(b,0)]) (b+1) r r:=by exact jM) (htr:Sp (b::t) r=true:=by exact k):
  AEff Tryz.prog ⟨dst,.call ⟨.value fo,xs,ats⟩,ty,pos,aft,g⟩ ins hp κ ⟨r,b::t,zD (b::t) [(b,⟨3,[[.list 1 e,.int I,.int H]]⟩)],[]⟩:=aGz b t hc hf hx hav hb.1 hb.2 hr htr rfl
end
end
end Go.Proofs.YtppgeohlmkgpbaaGreat

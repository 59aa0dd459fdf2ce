/-
  Several texts of the claim in one.
-/
import Derived.Lib.Join
import Derived.Test.YtilpfdokmlanjaaGreatDoorH15
set_option linter.unusedVariables false
set_option linter.unusedSimpArgs false
namespace Go.Proofs.YtilpfdokmlanjaaGreatDoor
open Go.RowKit
noncomputable section
def lB (l:List UInt8):ByteArray:=⟨l.toArray⟩
theorem cA (a b:List UInt8):lB a++lB b=lB (a++b):=by
 have h:(lB a++lB b).data=(lB (a++b)).data:=by
  rw [ByteArray.data_append];simp [lB]
 cases hx:lB a++lB b with
 |mk d=>rw [hx] at h;simp only at h;rw [h]
theorem vI (l:List UInt8):(lB l).size=l.length:=by simp [lB,ByteArray.size]
theorem aDI (l:List UInt8):(lB l).data.toList=l:=by simp [lB]
theorem vP (a b:List UInt8):eqS (lB a) (lB b)=decide (a=b):=by
 unfold eqS;rw [ByteArray.toList_eq,ByteArray.toList_eq,aDI,aDI,Bool.eq_iff_iff,beq_iff_eq,iR]
def f8 (z:Int):UInt8:=UInt8.ofNat z.toNat
theorem aDJ (l:List Int):aCj l=lB (l.map f8):=by
 have key: ∀ (l:List Int) (a:List UInt8),l.foldl (λr n=>ByteArray.push r (UInt8.ofNat n.toNat)) (lB a)=lB (a++l.map f8):=by
  intro l;induction l with
  |nil=>intro a;simp
  |cons z l ih=>
   intro a;have e:(lB a).push (UInt8.ofNat z.toNat)=lB (a++[f8 z]):=by simp [lB,ByteArray.push,f8]
   rw [List.foldl_cons,e,ih,List.append_assoc];rfl
 exact key l []
def Dg (x:List Int):Prop:= ∀ a∈x,0≤a∧a≤4
def uE (x:List Int):List UInt8:=x.map λa=>f8 (48+a)
theorem wr8 {a:Int} (h:0≤a∧a≤4):IntKind.u8.wrap (wr (48+a))=48+a:=by
 rw [fX (by omega)];have:a=0∨a=1∨a=2∨a=3∨a=4:=by omega
 rcases this with rfl|rfl|rfl|rfl|rfl <;> decide
theorem yX {x:List Int} (hx:Dg x) (hl:x.length≤1000):dM x=some (lB (uE x)):=by
 unfold dM
 rw [bB (by omega),bB (by omega),Bool.and_self,aL,eA,
  dQ (s:=(List.replicate x.length (0:Int),(0:Int))) (r:=x.map λa=>48+a) (λk=>((x.take k).map (λa=>48+a)++List.replicate (x.length - k) 0,(k:Int))) x.length (by simp) (λk hk=>?_) (λ_=>?_),aA,aDJ]
 ·unfold uE;rw [List.map_map];rfl
 ·have ha:=hx x[k] (List.getElem_mem hk);unfold fW;simp only;have hlen:((x.take k).map (λa=>48+a)).length=k:=by rw [eD,List.length_take];omega
  rw [iL hk,aL,bP hk,aA,bP (by rw [List.length_append,hlen,List.length_replicate];omega),aA,Int.max_eq_left ha.1,Int.min_eq_left (by omega),wr8 ha,eA,bW hk (by omega)];rw [List.set_append_right _ _ (by omega),hlen,Nat.sub_self,show x.length - k=(x.length - (k+1))+1 by omega,List.replicate_succ,List.set_cons_zero,uV hk,List.map_append,List.append_assoc];rfl
 ·unfold fW;simp only;rw [kR (bG _),aP];simp
theorem aEa {a:Int} (h:0≤a∧a≤4):bJ a=some (lB [f8 (48+a)]):=by
 unfold bJ;by_cases h0:a=0
 ·subst h0;rfl
 ·have e1:dO (a,(⟨#[]⟩:ByteArray))=some (.inl (0,lB [f8 (48+a)])):=by
   unfold dO;simp only;have e2:a.tmod 10=a:=Int.tmod_eq_of_lt (by omega) (by omega);have e3:a.tdiv 10=0:=Int.tdiv_eq_zero_of_lt (by omega) (by omega);rw [bU h0,Bool.not_false,aL,e2,e3,bU (by omega),aP,wr8 h,aDJ,show (⟨#[]⟩:ByteArray)=lB [] from rfl,cA,vI,vI,bB (by simp),aL,fX (by omega)];rfl
  have e4:dO (0,lB [f8 (48+a)])=some (.inr (lB [f8 (48+a)])):=rfl;rw [bU h0,aP,pC e1,fY e4,aA,bU (by omega),aP]
theorem aNC {x:List Int} (hx:Dg x) (hl:x.length≤1000):kM x=some (lB (uE x)):=by
 unfold kM;rw [dQ (s:=((⟨#[]⟩:ByteArray),(0:Int))) (r:=lB (uE x)) (λk=>(lB (uE (x.take k)),(k:Int))) x.length rfl (λk hk=>?_) (λ_=>?_),aA]
 ·unfold jU;simp only
  have e:uE (x.take (k+1))=uE (x.take k)++[f8 (48+x[k])]:=by
   unfold uE;rw [uV hk,List.map_append];rfl
  have hd:(uE (x.take k)).length ≤1000:=by unfold uE;rw [eD,List.length_take];omega
  rw [iL hk,aL,bP hk,aA,aEa (hx _ (List.getElem_mem hk)),aA,vI,vI,bB (by simp only [List.length_cons,List.length_nil];omega),aL,cA,e,bW hk (by omega)]
 ·unfold jU;simp only;rw [kR (bG _),aP,List.take_length]
def aLy:List UInt8:=[110,111,110,101]
end
noncomputable section
theorem aEb {a:Nat} (h:a<10):Lib.decDigits a=[UInt8.ofNat (48+a)]:=by rw [Lib.decDigits,dif_pos h]
theorem aLz {a:Nat} (h:10≤a) (h2:a<100):Lib.decDigits a=[UInt8.ofNat (48+a / 10),UInt8.ofNat (48+a % 10)]:=by
 rw [Lib.decDigits,dif_neg (by omega),aEb (by omega)];rfl
theorem rI {a:Nat} (h:a<100):(Lib.decDigits a).length ≤2:=by
 rcases eN a 10 with h1|h1
 ·rw [aEb h1];simp
 ·rw [aLz h1 h];simp
theorem aOW {a:Int} (h:0≤a∧a≤9):IntKind.u8.wrap (wr (48+a))=48+a:=by
 rw [fX (by omega)];have:a=0∨a=1∨a=2∨a=3∨a=4∨a=5∨a=6∨a=7∨a=8∨a=9:=by omega
 rcases this with rfl|rfl|rfl|rfl|rfl|rfl|rfl|rfl|rfl|rfl <;> decide
theorem aEc {a:Nat} (h0:0<a) (h:a<100) {out:List UInt8} (ho:out.length≤10):dO ((a:Int),lB out)=some (.inl (((a / 10:Nat):Int),lB (UInt8.ofNat (48+a % 10)::out))):=by
 unfold dO;simp only;have e2:(a:Int).tmod 10=((a % 10:Nat):Int):=by rw [Int.tmod_eq_emod_of_nonneg (by omega)];omega
 have e3:(a:Int).tdiv 10=((a / 10:Nat):Int):=by rw [Int.tdiv_eq_ediv_of_nonneg (by omega)];omega
 have e4:f8 (48+((a % 10:Nat):Int))=UInt8.ofNat (48+a % 10):=by
  unfold f8;congr 1
 rw [bU (by omega),Bool.not_false,aL,e2,e3,bU (by omega),aP,aOW (by omega),aDJ,cA,vI,vI,bB (by simp;omega),aL,fX (by omega)];rw [List.map_cons,List.map_nil,e4];rfl
theorem aHs {out:List UInt8} :dO (0,lB out)=some (.inr (lB out)):=rfl
theorem aGi {a:Int} (h0:0≤a) (h:a<100):bJ a=some (lB (Lib.decDigits a.toNat)):=by
 obtain ⟨a,rfl⟩: ∃ k:Nat,a=k:=⟨a.toNat,by omega⟩;rw [eA];unfold bJ;by_cases hz:a=0
 ·subst hz;rw [aEb (by omega)];rfl
 ·rw [bU (by omega),aP,show (⟨#[]⟩:ByteArray)=lB [] from rfl];rcases eN a 10 with h1|h1
  ·rw [pC (aEc (by omega) (by omega) (by simp)),Nat.div_eq_of_lt h1,show ((0:Nat):Int)=0 from rfl,fY aHs,aA,bU (by omega),aP,aEb h1,Nat.mod_eq_of_lt h1]
  ·rw [pC (aEc (by omega) (by omega) (by simp)),pC (aEc (a:=a / 10) (by omega) (by omega) (by simp)),Nat.div_eq_of_lt (show a / 10<10 by omega),show ((0:Nat):Int)=0 from rfl,fY aHs,aA,bU (by omega),aP,aLz h1 (by omega),Nat.mod_eq_of_lt (show a / 10<10 by omega)]
theorem aIt {a:Int} (h0:0≤a) (h:a<100):hZ a=some (lB (Lib.decDigits a.toNat)):=by
 unfold hZ aIs;rw [bB h0,bB h];rfl
theorem yY {l:List (List UInt8)} {sep:List UInt8} (h:(Lib.join l sep).length ≤1000000) (hl:l.length≤1000000):uP (l.map lB) (lB sep)=some (lB (Lib.join l sep)):=by
 have e:(l.map lB).map (λx=>x.data.toList)=l:=by
  rw [List.map_map];exact (aAn λx _=>aDI x).trans (List.map_id l)
 unfold uP aNB;rw [e,aDI,bB (by omega),bB (by rw [eD];omega)];rfl
theorem fG {α:Type} {a b:List UInt8} {k:Option α} (h:a.length+b.length≤1000000):(bif decide ((lB a).size +(lB b).size ≤9223372036854775807) then k else none)=k:=by
 rw [vI,vI,bB (by omega),aL]
end
noncomputable section
theorem aFr (sep:List UInt8) (A:List (List UInt8)) (x:List UInt8):Lib.join (A++[x]) sep=Lib.join A sep++(if A.length=0 then [] else sep)++x:=by
 cases A with
 |nil=>simp [Lib.join_one,Lib.join_nil]
 |cons a r=>
  rw [List.cons_append,Lib.join_cons,Lib.join_cons];simp [Lib.joinTail]
theorem aDK {sep:List UInt8} {c:Nat} : ∀ {l:List (List UInt8)},(∀ x∈l,x.length≤c)→(Lib.joinTail sep l).length ≤(c+sep.length)*l.length
 | [],_=>by simp [Lib.joinTail]
 |x::l,h=>by
  have h1:=aDK (sep:=sep) (l:=l) λy hy=>h y (by simp [hy]);have h2:=h x (by simp);unfold Lib.joinTail at h1 ⊢;simp only [List.map_cons,List.flatten_cons,List.length_append,List.length_cons] at h1 ⊢;rw [Nat.mul_succ];omega
theorem aEd {sep:List UInt8} {c:Nat} {l:List (List UInt8)} (h: ∀ x∈l,x.length≤c):(Lib.join l sep).length ≤(c+sep.length)*l.length:=by
 cases l with
 |nil=>simp [Lib.join_nil]
 |cons x l=>
  have h1:=aDK (sep:=sep) (l:=l) λy hy=>h y (by simp [hy]);have h2:=h x (by simp);rw [Lib.join_cons,List.length_append,List.length_cons,Nat.mul_succ];omega
theorem aFs {sep:List UInt8} {l:List (List UInt8)} {k:Nat} (hk:k<l.length):Lib.join (l.take (k+1)) sep=Lib.join (l.take k) sep++(if k=0 then [] else sep)++l[k]:=by
 rw [uV hk,aFr,List.length_take,Nat.min_eq_left (by omega)]
theorem aMn {r c:Nat} (hN:r*c≤1048576) (hr:r≤1048576) (hc:c≤1048576) (F:Nat→Nat→Int):lI ⟨r,c,bT r c F⟩=some ((List.range r).map λi=>fL c (F i)):=by
 unfold lI;rw [dQ (s:=(([]:List (List Int)),(0:Int))) (r:=(List.range r).map λi=>fL c (F i)) (λk=>((List.range k).map λi=>fL c (F i),(k:Int))) r rfl (λk hk=>?_) (λ_=>?_),aA]
 ·unfold iQ;simp only;rw [iL hk,aL,aIj hN hr hk,aA];unfold tT;rw [bB (by simp [fL];omega),aL,aA,bB (by simp;omega),aL,bW hk (by omega),aLo (f:=λi=>fL c (F i))]
 ·unfold iQ;simp only;rw [kR (bG _),aP]
def ctx (c:Nat) (l:List Int):Nat→List UInt8
 |0=>[]
 |t+1=>ctx c l t++(if 0<t∧t % c=0 then [47] else [])++[f8 (48+l[t]?.getD 0)]
theorem aHt (c:Nat) (l:List Int) (t:Nat):ctx c l (t+1)=ctx c l t++(if 0<t∧t % c=0 then [47] else [])++[f8 (48+l[t]?.getD 0)]:=rfl
theorem aDL (c:Nat) (l:List Int): ∀ t,(ctx c l t).length ≤2*t
 |0=>Nat.zero_le _
 |t+1=>by
  have:=aDL c l t;have e:(if 0<t∧t % c=0 then [47] else []:List UInt8).length ≤1:=by split <;> simp
  simp only [ctx,List.length_append,List.length_cons,List.length_nil];omega
theorem aKb (c:Nat) (f:Nat→Int):fL (c+1) f=fL c f++[f c]:=by unfold fL;rw [List.range_succ,List.map_append];rfl
theorem aJe {r c:Nat} (F:Nat→Nat→Int) {i:Nat} (hi:i<r): ∀ j,j+1≤c→ctx c (bT r c F) (i*c+(j+1))=ctx c (bT r c F) (i*c)++(if 0<i then [47] else [])++uE (fL (j+1) (F i))
 |0,hj=>by
  rw [show i*c+(0+1)=i*c+1 from rfl,aHt,show (bT r c F)[i*c]? =(bT r c F)[i*c+0]? from rfl,iA F hi (show 0<c by omega),Nat.mul_mod_left];congr 1;congr 1;by_cases h:0<i
  ·rw [aV h,aV ⟨Nat.mul_pos h (by omega),rfl⟩]
  ·rw [aS h,aS];rintro ⟨h1,_⟩;rw [show i=0 by omega] at h1;simp at h1
 |j+1,hj=>by
  have ih:=aJe (r:=r) (c:=c) F hi j (by omega);rw [show i*c+(j+1+1)=(i*c+(j+1))+1 from rfl,aHt,ih,iA F hi (show j+1<c by omega),Nat.mul_add_mod_self_right,Nat.mod_eq_of_lt (show j+1<c by omega),aS (show ¬ (0<i*c+(j+1)∧j+1=0) by omega),List.append_nil,aKb (j+1),List.append_assoc];unfold uE;rw [List.map_append];rfl
theorem aJf {r c:Nat} (hc:0<c) (F:Nat→Nat→Int): ∀ i,i≤r→ctx c (bT r c F) (i*c)=Lib.join ((List.range i).map λa=>uE (fL c (F a))) [47]
 |0,_=>by rw [Nat.zero_mul];rfl
 |i+1,hi=>by
  have ih:=aJf (r:=r) hc F i (by omega);obtain ⟨k,rfl⟩: ∃ k,c=k+1:=⟨c - 1,by omega⟩;rw [Nat.succ_mul,aJe F (show i<r by omega) k (bG _),ih,List.range_succ,List.map_append,List.map_cons,List.map_nil,aFr];congr 2;rw [eD,List.length_range];by_cases h:i=0
  ·rw [aS (show ¬ 0<i by omega),aV h]
  ·rw [aV (show 0<i by omega),aS h]
def fmT (p:Int) (m:Mt):List UInt8:=bif wM p m then Lib.decDigits m.rows.toNat++[120]++Lib.decDigits m.cols.toNat++[58]++ctx m.cols.toNat m.cells m.cells.length else []
theorem aBW (p:Int) (m:Mt):(fmT p m).length ≤150:=by
 unfold fmT;cases hv:wM p m with
 |false=>simp
 |true=>
  obtain ⟨hp,r,c,F,hr,hc,rfl,hF⟩:=xN hv;have h1:=rI (a:=r) (by omega);have h2:=rI (a:=c) (by omega);have h3:=aDL c (bT r c F) (bT r c F).length;rw [dX] at h3;have h4:r*c≤8*8:=Nat.mul_le_mul hr hc;simp only [aL,eA,List.length_append,List.length_cons,List.length_nil,dX];omega
theorem aNi {p:Int} (hp:jO p=true) {r c:Nat} {F:Nat→Nat→Int} (hF: ∀ i j,i<r→j<c→0≤F i j∧F i j<p) {i:Nat} (hi:i<r):Dg (fL c (F i)):=by
 intro a ha;obtain ⟨j,hj,rfl⟩:=List.mem_map.1 ha;have:=hF i j hi (List.mem_range.1 hj);have:=eP hp;omega
theorem aMA:(⟨#[120]⟩:ByteArray)=lB [120]:=rfl
theorem l58:(⟨#[58]⟩:ByteArray)=lB [58]:=rfl
theorem l47:(⟨#[47]⟩:ByteArray)=lB [47]:=rfl
theorem l45:(⟨#[45]⟩:ByteArray)=lB [45]:=rfl
theorem l32:(⟨#[32]⟩:ByteArray)=lB [32]:=rfl
theorem l0:(⟨#[]⟩:ByteArray)=lB []:=rfl
theorem aND (p:Int) {m:Mt} (hm:bM m):gQ p m=some (lB (fmT p m)):=by
 unfold gQ fmT;rw [aFi p hm,aA];cases hv:wM p m with
 |false=>rfl
 |true=>
  obtain ⟨hp,r,c,F,hr,hc,rfl,hF⟩:=xN hv;have h1:=rI (a:=r) (by omega);have h2:=rI (a:=c) (by omega);have h4:r*c≤8*8:=Nat.mul_le_mul hr hc;have h3:=aDL c (bT r c F) (r*c);have hrow: ∀ i,i<r→(uE (fL c (F i))).length ≤8:=λi _=>by unfold uE;rw [eD,dT];exact hc
  simp only [dP,aP,aL,eA];rw [aMn (by omega) (by omega) (by omega),aA];rw [dQ (s:=(([]:List ByteArray),(0:Int))) (r:=((List.range r).map λi=>uE (fL c (F i))).map lB) (λk=>(((List.range k).map λi=>uE (fL c (F i))).map lB,(k:Int))) r rfl (λk hk=>?_) (λ_=>?_),aA]
  ·rw [aIt (by omega) (by omega),aA,eA,aMA,fG (by simp;omega),aIt (by omega) (by omega),aA,eA,cA,fG (by simp;omega),cA,l58,fG (by simp;omega),cA];by_cases h0:c=0
   ·subst h0;rw [bU (by omega),aP,dX,Nat.mul_zero];simp [ctx]
   ·have hj:=aEd (sep:=[47]) (c:=8) (l:=(List.range r).map λi=>uE (fL c (F i))) (λx hx=>by
     obtain ⟨i,hi,rfl⟩:=List.mem_map.1 hx
     exact hrow i (List.mem_range.1 hi))
    simp only [eD,List.length_range,List.length_cons,List.length_nil] at hj;rw [bB (by omega),aL,l47,yY (by omega) (by simp;omega),aA,fG (by simp only [List.length_append,List.length_cons,List.length_nil];omega),cA,dX,aJf (by omega) F r (bG _)]
  ·unfold gV;simp only [eD,List.length_range];rw [iL hk,aL,aJb hk,aA,yX (aNi hp hF hk) (by rw [dT];omega),aA,bB (by simp;omega),aL,bW hk (by omega)];congr 3;rw [List.range_succ,List.map_append,List.map_append];rfl
  ·unfold gV;simp only [eD,List.length_range];rw [kR (bG _),aP]
theorem aMB (p:Int) {m:Mt} (hm:bM m):fF p m=some (lB (fmT p m)):=by
 unfold fF fmT;rw [zT p hm,aA];cases hv:wM p m with
 |false=>rfl
 |true=>
  obtain ⟨hp,r,c,F,hr,hc,rfl,hF⟩:=xN hv;have hb:=eP hp;have h1:=rI (a:=r) (by omega);have h2:=rI (a:=c) (by omega);have h4:r*c≤8*8:=Nat.mul_le_mul hr hc;simp only [dP,aP,aL,eA];rw [aGi (by omega) (by omega),aA,eA,aMA,fG (by simp;omega),aGi (by omega) (by omega),aA,eA,cA,fG (by simp;omega),cA,l58,fG (by simp;omega),cA];generalize hA:Lib.decDigits r++[120]++Lib.decDigits c++[58]=A;have hAl:A.length≤6:=by rw [←hA];simp only [List.length_append,List.length_cons,List.length_nil];omega
  rw [dQ (s:=(lB A,(0:Int))) (r:=lB (A++ctx c (bT r c F) (bT r c F).length)) (λt=>(lB (A++ctx c (bT r c F) t),(t:Int))) (bT r c F).length (by simp [ctx]) (λt ht=>?_) (λ_=>?_),aA]
  ·have ht':t<r*c:=by rw [dX] at ht;exact ht
   have hc0:0<c:=by rcases Nat.eq_zero_or_pos c with rfl|h;simp at ht';exact h
   have hi:t / c<r:=Nat.div_lt_of_lt_mul (by rw [Nat.mul_comm];exact ht')
   have hv2:0≤(bT r c F)[t]?.getD 0∧(bT r c F)[t]?.getD 0≤4:=by
    have e:(bT r c F)[t]? =some (F (t / c) (t % c)):=by simp [bT,ht']
    rw [e];have:=hF (t / c) (t % c) hi (Nat.mod_lt _ hc0);simp only [sO];omega
   have hl:=aDL c (bT r c F) t;have hTl:(bT r c F).length ≤64:=by rw [dX];omega
   unfold gW;simp only;rw [iL ht,aL];by_cases h0:0<t
   ·rw [bB (show (0:Int)<(t:Int) by omega),aL,bU (show ¬ ((c:Int)=0) by omega),Bool.not_false,aL,show ((t:Int).tmod (c:Int))=((t % c:Nat):Int) from rfl];by_cases h5:t % c=0
    ·rw [bB (show ((t % c:Nat):Int)=0 by omega),aL,l47,fG (by simp only [List.length_append,List.length_cons,List.length_nil];omega),tS 0 ht,aA,aEa hv2,aA,cA,fG (by simp only [List.length_append,List.length_cons,List.length_nil];omega),cA,bW ht (by omega)];simp only [ctx];rw [aV ⟨h0,h5⟩];simp only [List.append_assoc]
    ·rw [bU (show ¬ ((t % c:Nat):Int)=0 by omega),aP,tS 0 ht,aA,aEa hv2,aA,fG (by simp only [List.length_append,List.length_cons,List.length_nil];omega),cA,bW ht (by omega)];simp only [ctx];rw [aS (λh=>h5 h.2),List.append_nil];simp only [List.append_assoc]
   ·rw [bU (show ¬ (0:Int)<(t:Int) by omega),aP,tS 0 ht,aA,aEa hv2,aA,fG (by simp only [List.length_append,List.length_cons,List.length_nil];omega),cA,bW ht (by omega)];simp only [ctx];rw [aS (λh=>h0 h.1),List.append_nil];simp only [List.append_assoc]
  ·unfold gW;simp only;rw [kR (bG _),aP]
def aCn (p:Int) (l:List Mt):Nat→List UInt8
 |0=>[]
 |k+1=>aCn p l k++[32]++fmT p (l[k]?.getD ⟨0,0,[]⟩)
theorem aBX (p:Int) (l:List Mt): ∀ k,(aCn p l k).length ≤151*k
 |0=>Nat.zero_le _
 |k+1=>by
  have:=aBX p l k;have:=aBW p (l[k]?.getD ⟨0,0,[]⟩);simp only [aCn,List.length_append,List.length_cons,List.length_nil];omega
def frT (r:Rp):List UInt8:=bif mB r then uE r.dims++aCn r.p r.maps r.maps.length else []
theorem oG {r:Rp} (h:mB r=true):Dg r.dims∧1≤r.dims.length∧r.dims.length≤5∧r.maps.length≤6:=by
 obtain ⟨hp,hD,hm,_⟩:=yQ h;obtain ⟨hQ,hd1,hd2,_⟩:=nG hD;obtain ⟨n,hn,hn1,hn5,hq1,hq2,_,_⟩:=nF hQ;exact ⟨λa ha=>hd2 a ha,by omega,by omega,by omega⟩
theorem rJ (x:List Int):(uE x).length=x.length:=by unfold uE;rw [eD]
theorem aBY (r:Rp):(frT r).length ≤1000:=by
 unfold frT;cases hv:mB r with
 |false=>simp
 |true=>
  obtain ⟨_,_,h1,h2⟩:=oG hv;have:=aBX r.p r.maps r.maps.length;rw [aL,List.length_append,rJ];omega
theorem aMC {r:Rp} (h:mB r=true):frT r≠[]:=by
 intro he;obtain ⟨_,h1,_,_⟩:=oG h;unfold frT at he;rw [h,aL] at he;have:=congrArg List.length he;rw [List.length_append,rJ,List.length_nil] at this;omega
theorem aNE {r:Rp} (hr:bR r):kN r=some (lB (frT r)):=by
 unfold kN frT;rw [wO hr,aA];cases hv:mB r with
 |false=>rfl
 |true=>
  obtain ⟨hD,_,h1,h2⟩:=oG hv;rw [dP,aP,aL,yX hD (by omega),aA];rw [dQ (s:=(lB (uE r.dims),(0:Int))) (r:=lB (uE r.dims++aCn r.p r.maps r.maps.length)) (λk=>(lB (uE r.dims++aCn r.p r.maps k),(k:Int))) r.maps.length (by simp [aCn]) (λk hk=>?_) (λ_=>?_),aA]
  ·have hl:=aBX r.p r.maps k;have hf:=aBW r.p (r.maps[k]?.getD ⟨0,0,[]⟩);have hd:=rJ r.dims;unfold jX;simp only;rw [iL hk,aL,tS ⟨0,0,[]⟩ hk,aA,aND r.p (hr.2.2.1.2 _ (dW _ hk)),aA,l32,fG (by simp only [List.length_cons,List.length_nil];omega),cA,fG (by simp only [List.length_append,List.length_cons,List.length_nil];omega),cA,bW hk (by omega)];simp only [aCn,List.append_assoc]
  ·unfold jX;simp only;rw [kR (bG _),aP]
theorem aNF {r:Rp} (hr:bR r):kO r=some (lB (frT r)):=by
 unfold kO frT;rw [wN hr,aA];cases hv:mB r with
 |false=>rfl
 |true=>
  obtain ⟨hD,_,h1,h2⟩:=oG hv;rw [dP,aP,aL];rw [dQ (s:=((⟨#[]⟩:ByteArray),(0:Int))) (r:=lB (uE r.dims)) (λk=>(lB (uE (r.dims.take k)),(k:Int))) r.dims.length rfl (λk hk=>?_) (λ_=>?_),aA]
  ·rw [dQ (s:=(lB (uE r.dims),(0:Int))) (r:=lB (uE r.dims++aCn r.p r.maps r.maps.length)) (λk=>(lB (uE r.dims++aCn r.p r.maps k),(k:Int))) r.maps.length (by simp [aCn]) (λk hk=>?_) (λ_=>?_),aA]
   ·have hl:=aBX r.p r.maps k;have hf:=aBW r.p (r.maps[k]?.getD ⟨0,0,[]⟩);have hd:=rJ r.dims;unfold jZ;simp only;rw [iL hk,aL,l32,fG (by simp only [List.length_append,List.length_cons,List.length_nil];omega),tS ⟨0,0,[]⟩ hk,aA,aMB r.p (hr.2.2.1.2 _ (dW _ hk)),aA,cA,fG (by simp only [List.length_append,List.length_cons,List.length_nil];omega),cA,bW hk (by omega)];simp only [aCn,List.append_assoc]
   ·unfold jZ;simp only;rw [kR (bG _),aP]
  ·have e:uE (r.dims.take (k+1))=uE (r.dims.take k)++[f8 (48+r.dims[k])]:=by
    unfold uE;rw [uV hk,List.map_append];rfl
   have hd:=rJ (r.dims.take k);rw [List.length_take] at hd;unfold jY;simp only;rw [iL hk,aL,bP hk,aA,aEa (hD _ (List.getElem_mem hk)),aA,fG (by simp only [List.length_cons,List.length_nil];omega),cA,e,bW hk (by omega)]
  ·unfold jY;simp only;rw [kR (bG _),aP,List.take_length]
def aqT (q:Qv):Nat→List UInt8
 |0=>[]
 |k+1=>aqT q k++([32]++uE [q.src[k]?.getD 0,q.tgt[k]?.getD 0])
theorem aDM (q:Qv): ∀ k,(aqT q k).length=3*k
 |0=>rfl
 |k+1=>by simp only [aqT,List.length_append,aDM q k,rJ,List.length_cons,List.length_nil];omega
def fqX (q:Qv):List UInt8:=Lib.decDigits q.n.toNat++[58]++aqT q q.src.length
theorem aGj {q:Qv} (hv:vG q=true):(fqX q).length ≤30:=by
 obtain ⟨n,hn,hn1,hn5,hq1,hq2,hq3,hq4⟩:=nF hv;have h1:=rI (a:=n) (by omega);unfold fqX;rw [hn,eA,List.length_append,List.length_append,aDM];simp only [List.length_cons,List.length_nil];omega
theorem aNj {q:Qv} (hb:bQ q) (hv:vG q=true):jV q=some (lB (fqX q)):=by
 obtain ⟨n,hn,hn1,hn5,hq1,hq2,hq3,hq4⟩:=nF hv;have hd:=rI (a:=n) (by omega);unfold jV fqX
 rw [aJX hb,hv,aA,dP,aP,hn,aIt (by omega) (by omega),aA,eA,l58,fG (by simp;omega),cA,
  dQ (s:=(lB (Lib.decDigits n++[58]),(0:Int))) (r:=lB (Lib.decDigits n++[58]++aqT q q.src.length)) (λk=>(lB (Lib.decDigits n++[58]++aqT q k),(k:Int))) q.src.length (by simp [aqT]) (λk hk=>?_) (λ_=>?_),aA]
 ·have hkt:k<q.tgt.length:=by omega
  have hs:=hq3 _ (dW 0 hk);have ht:=hq4 _ (dW 0 hkt)
  have hD:Dg [q.src[k]?.getD 0,q.tgt[k]?.getD 0]:=λa ha=>by
   rcases dU.1 ha with rfl|ha
   ·omega
   ·have:=List.mem_singleton.1 ha;omega
  have e2:(uE [q.src[k]?.getD 0,q.tgt[k]?.getD 0]).length=2:=rfl;have e3:=aDM q k;unfold gT;simp only;rw [iL hk,aL,tS 0 hk,aA,tS 0 hkt,aA,yX hD (by simp),aA,l32,fG (by rw [e2];simp),cA,fG (by simp only [List.length_append,e2,e3,List.length_cons,List.length_nil];omega),cA,bW hk (by omega)];simp only [aqT,List.append_assoc]
 ·unfold gT;simp only;rw [kR (bG _),aP]
theorem aNk {q:Qv} (hb:bQ q) (hv:vG q=true):jW q=some (lB (fqX q)):=by
 obtain ⟨n,hn,hn1,hn5,hq1,hq2,hq3,hq4⟩:=nF hv;have hd:=rI (a:=n) (by omega);unfold jW fqX
 rw [aJY hb,hv,aA,dP,aP,hn,aGi (by omega) (by omega),aA,eA,l58,fG (by simp;omega),cA,
  dQ (s:=(lB (Lib.decDigits n++[58]),(0:Int))) (r:=lB (Lib.decDigits n++[58]++aqT q q.src.length)) (λk=>(lB (Lib.decDigits n++[58]++aqT q k),(k:Int))) q.src.length (by simp [aqT]) (λk hk=>?_) (λ_=>?_),aA]
 ·have hkt:k<q.tgt.length:=by omega
  have hs:=hq3 _ (dW 0 hk);have ht:=hq4 _ (dW 0 hkt);have e3:=aDM q k;unfold gU;simp only;rw [iL hk,aL,l32,fG (by simp only [List.length_append,e3,List.length_cons,List.length_nil];omega),tS 0 hk,aA,aEa (by omega),aA,cA,fG (by simp only [List.length_append,e3,List.length_cons,List.length_nil];omega),tS 0 hkt,aA,aEa (by omega),aA,cA,fG (by simp only [List.length_append,e3,List.length_cons,List.length_nil];omega),cA,bW hk (by omega)];simp only [aqT,uE,List.map_cons,List.map_nil,List.append_assoc,List.cons_append,List.nil_append]
 ·unfold gU;simp only;rw [kR (bG _),aP]
end
noncomputable section
set_option maxRecDepth 10000
set_option maxHeartbeats 4000000
def xQ (a0:Br) (a1:Br):Option Bool:=
 bif !decide (a0.first=a1.first) then
 (some (false))
 else
 (bif !decide (a0.last=a1.last) then
 (some (false))
 else
 (bif !decide (a0.count=a1.count) then
 (some (false))
 else
 (some (true))))
theorem aGk (a0:Br) (a1:Br) (r:Bool) (h:xQ a0 a1=some r):HasC Tryz.prog 133 [.agg (eB a0),.agg (eB a1)] (.bl r):=by
 exact hM [.tmp 4] Tryz.func133 Tryz.ntmps133 k<|sR<|ae (wb k) k<|ae (wb k) k<|aT k2<|sQ<|sR<|fp k8<|lp k8<|fp k8<|lp k8<|cm k4<|an<|tn<|cJ k h (λ_ h=>sR<|aT k2<|aD<|aB<|eJ h k2) λ_ h=>aG<|tn<|sQ<|sR<|fp k8<|lp k8<|fp k8<|lp k8<|cm k4<|an<|tn<|cJ k h (λ_ h=>sR<|aT k2<|aD<|aB<|eJ h k2) λ_ h=>aG<|tn<|sQ<|sR<|fp k8<|lp k8<|fp k8<|lp k8<|cm k4<|an<|tn<|cJ k h (λ_ h=>sR<|aT k2<|aD<|aB<|eJ h k2) λ_ h=>aG<|tn<|sR<|aT k2<|aD<|eJ h k2
def oH (a0:(List Br)) (a1:(List Br)) (x1:Int):Option (Int ⊕ (Unit ⊕ Bool)):=
 bif decide (x1<(a0.length:Int)) then
 ((dL a0 x1).bind λv3=>
 (dL a1 x1).bind λv4=>
 (xQ v3 v4).bind λv5=>
 bif !v5 then
 (some (.inr (.inr (false))))
 else
 (some (.inl (wr (x1+1)))))
 else
 (some (.inr (.inl ())))
def sI (a0:(List Br)) (a1:(List Br)):Option Bool:=
 bif !decide ((a0.length:Int)=(a1.length:Int)) then
 (some (false))
 else
 ((Lp (oH a0 a1) 0).bind λy7=>
 Sum.elim (λy8=>
 some (true)
 )
 (λy9=>
 some y9
 )
 y7)
theorem aEw (a0:(List Br)) (a1:(List Br)) (r:Bool) (h:sI a0 a1=some r):HasC Tryz.prog 68 [.list 3 (a0.map eB),.list 3 (a1.map eB)] (.bl r):=by
 refine hM [.tmp 4] Tryz.func68 Tryz.ntmps68 k<|sR<|aT k2<|sQ<|sR<|am k k<|ln k4<|am k k<|ln k4<|cm k4<|an<|tn<|cJ k h (λ_ h=>sR<|aT k2<|aD<|aB<|eJ h k2) λ_ h=>?_;refine aG<|tn<|sQ<|sR<|aT k2<|aH<|oB h λy7 hy7 h=>bX (body:=(oH a0 a1)) hy7 (λ(x1:Int)=>mN [(0,.list 3 (a0.map eB)),(1,.list 3 (a1.map eB)),(5,.int x1)] [] 0) (λr e t=>Sum.elim (λa=>(λr e t=>e= .exit 0∧Ent t (mN [] [] 0)) a e t) (λb=>(λr e t=>e= .ret∧nJ TT [.tmp 4] (.bl r) .ret t) b e t) r) (bL (bK k2) bA k4) ?_ ?_
 ·intro x1 o h;exact sQ<|sR<|am k k<|am k k<|ln k4<|cm k4<|an<|tn<|cJ k h (λ_ h=>aG<|tn<|sQ<|aH<|sQ<|aW jN<|am k k<|am k k<|oB h λv3 hv3 h=>ae (xl hv3 k) k<|lr k7<|am k k<|am k k<|oB h λv4 hv4 h=>ae (xl hv4 k) k<|lr k7<|oB h λv5 hv5 h=>ae (aE (aGk v3 v4 v5 hv5) k (aN (iV k) (aN (iV k) aI))) k<|ae (cK k) k<|an<|tU (by kernel_rfl)<|tn<|cJ k h (λ_ h=>sR<|aT k2<|aD<|aU<|aB<|aB<|sp h ⟨_,k,k,aR k k k (iY k)⟩) λ_ h=>aG<|aX<|tn<|rg<|am k k<|ae (bH k k) k<|aT k2<|sp h ⟨_,k,(bL (bK k2) bA k4)⟩) λ_ h=>aY<|aC<|aC<|sp h ⟨_,k,k,(bL bA bA k4)⟩
 ·intro e t hX;rcases y7 with y8|y9
  ·obtain ⟨rfl,hent⟩:=hX;exact aM<|tn<|aO hent<|sR<|aT k2<|aD<|eJ h k2
  ·obtain ⟨rfl,hent⟩:=hX;exact aU<|aB<|sp h hent
def rK (a0:Cl) (a1:Cl):Option Bool:=
 bif !decide (a0.kind=a1.kind) then
 (some (false))
 else
 ((nX a0.rep a1.rep).bind λv2=>
 bif !v2 then
 (some (false))
 else
 ((nX a0.other a1.other).bind λv4=>
 bif !v4 then
 (some (false))
 else
 ((sC a0.parts a1.parts).bind λv6=>
 bif !v6 then
 (some (false))
 else
 ((kI a0.maps a1.maps).bind λv8=>
 bif !v8 then
 (some (false))
 else
 ((sI a0.bars a1.bars).bind λv10=>
 bif !v10 then
 (some (false))
 else
 ((hO a0.theta a1.theta).bind λv12=>
 bif !v12 then
 (some (false))
 else
 ((pS a0.subs a1.subs).bind λv14=>
 bif !v14 then
 (some (false))
 else
 (some (true)))))))))
theorem aEe (a0:Cl) (a1:Cl) (r:Bool) (h:rK a0 a1=some r):HasC Tryz.prog 16 [.agg (eC a0),.agg (eC a1)] (.bl r):=by
 refine hM [.tmp 4] Tryz.func16 Tryz.ntmps16 k<|sR<|ae (wb k) k<|ae (wb k) k<|aT k2<|sQ<|sR<|fp k8<|lp k8<|fp k8<|lp k8<|cm k4<|an<|tn<|cJ k h (λ_ h=>sR<|aT k2<|aD<|aB<|eJ h k2) λ_ h=>?_;refine aG<|tn<|sQ<|sR<|fp k8<|lp k8<|fp k8<|lp k8<|oB h λv2 hv2 h=>ae (aE (xJ a0.rep a1.rep v2 hv2) k (aN (iV k) (aN (iV k) aI))) k<|ae (cK k) k<|an<|tn<|cJ k h (λ_ h=>sR<|aT k2<|aD<|aB<|eJ h k2) λ_ h=>?_;refine aG<|tn<|sQ<|sR<|fp k8<|lp k8<|fp k8<|lp k8<|oB h λv4 hv4 h=>ae (aE (xJ a0.other a1.other v4 hv4) k (aN (iV k) (aN (iV k) aI))) k<|ae (cK k) k<|an<|tn<|cJ k h (λ_ h=>sR<|aT k2<|aD<|aB<|eJ h k2) λ_ h=>?_;exact aG<|tn<|sQ<|sR<|fp k8<|lp k8<|fp k8<|lp k8<|oB h λv6 hv6 h=>ae (aE (aEp a0.parts a1.parts v6 hv6) k (bN k (bN k aI))) k<|ae (cK k) k<|an<|tn<|aO (t:=mN [(2,.ptr 0 0 0),(3,.ptr 1 0 0),(27,.bl (!v6))] [(0,⟨18,[eC a0]⟩),(1,⟨18,[eC a1]⟩)] 2) (bL (bK k2) (cP k<|cP k<|bA) k4)<|cJ k h (λ_ h=>sR<|aT k2<|aD<|aB<|eJ h k2) λ_ h=>aG<|tn<|sQ<|sR<|fp k8<|lp k8<|fp k8<|lp k8<|oB h λv8 hv8 h=>ae (aE (wK a0.maps a1.maps v8 hv8) k (bN k (bN k aI))) k<|ae (cK k) k<|an<|tn<|cJ k h (λ_ h=>sR<|aT k2<|aD<|aB<|eJ h k2) λ_ h=>aG<|tn<|sQ<|sR<|fp k8<|lp k8<|fp k8<|lp k8<|oB h λv10 hv10 h=>ae (aE (aEw a0.bars a1.bars v10 hv10) k (bN k (bN k aI))) k<|ae (cK k) k<|an<|tn<|cJ k h (λ_ h=>sR<|aT k2<|aD<|aB<|eJ h k2) λ_ h=>aG<|tn<|sQ<|sR<|fp k8<|lp k8<|fp k8<|lp k8<|oB h λv12 hv12 h=>ae (aE (lX a0.theta a1.theta v12 hv12) k (bN k (bN k aI))) k<|ae (cK k) k<|an<|tn<|cJ k h (λ_ h=>sR<|aT k2<|aD<|aB<|eJ h k2) λ_ h=>aG<|tn<|sQ<|sR<|fp k8<|lp k8<|fp k8<|lp k8<|oB h λv14 hv14 h=>ae (aE (aCh a0.subs a1.subs v14 hv14) k (bN k (bN k aI))) k<|ae (cK k) k<|an<|tn<|aO (t:=mN [(51,.bl (!v14))] [] 2) (bL (bK k2) bA k4)<|cJ k h (λ_ h=>sR<|aT k2<|aD<|aB<|eJ h k2) λ_ h=>aG<|tn<|sR<|aT k2<|aD<|eJ h k2
end
noncomputable section
section
variable {P:Program} {T:List (Nat×Ty)} {dst:Option Tmp} {ty:TypeId} {pos:String} {aft:Array Edge} {g:Option (Nat×Bool)} {s:AState}
theorem aHu (hT:TyOk P T) {t e:TypeId} {x i:Operand} {n:Nat} {y ye:Ty} {l:List ByteArray} {z:Int} {u:ByteArray} (hv:dL l z=some u) (hy:dB T t=some y) (hd:y.desc= .array n e) (hl:Nat.beq l.length n=true) (hx:s.ev x=some (.agg (l.map λb=> .str b))) (hi:s.ev i=some (.int z)) (hye:dB T e=some ye) (hag:ye.desc.isAgg=false) (hk:ye.size=1):
  AEff P ⟨dst,.index t x i,ty,pos,aft,g⟩ s.ev s.heap s.kp ⟨.str u,[],[],[]⟩:=
 AEff.pure λC s' ν ac w hi' _ hs=>by
  have e1:=hs.ev ((hi' x (by simp [Op.operands])).trans hx);have e2:=hs.ev ((hi' i (by simp [Op.operands])).trans hi);simp only [RepA,RepB,Rep1] at e1 e2;obtain ⟨vs,h2,h3⟩:=e1;obtain ⟨i1,z1,d1,y1⟩:=hT.is hy;have hu:=y1.array hd;obtain ⟨i2,z2,d2,y2⟩:=hT.is hye;have h0:=aGG hv;have hlt:=vJ hv;have hl:=Nat.eq_of_beq_eq_true hl;obtain ⟨v,g1,g2⟩:=h3.get (i:=z.toNat) (x:= .str u) (by rw [List.getElem?_map,iK hv];rfl);have g3:v= .string u:=g2.1;refine ⟨.string u,?_,rV rfl⟩;have hin:0≤z∧z<(n:Int):=by omega
  simp only [execOp,Instr.index,h2,e2.1,asIntOf,Sem.run_bind,run_underlying hu,Result.andThen_ok,Sem.run_pure,aV hin,iX y2.info,y2.size,hk,part,aBa y2,hag];simp [g1,g3]
end
end
noncomputable section
set_option maxRecDepth 10000
set_option maxHeartbeats 4000000
def kP (a0:Int):Option ByteArray:=
 (fA a0 1 6).bind λv1=>
 bif !v1 then
 (some ((⟨#[]⟩:ByteArray)))
 else
 ((dL [(⟨#[112,97,114,116,115]⟩:ByteArray),(⟨#[115,97,109,101]⟩:ByteArray),(⟨#[100,105,102,102,101,114,101,110,116]⟩:ByteArray),(⟨#[101,120,116,101,110,115,105,111,110]⟩:ByteArray),(⟨#[98,97,114,115]⟩:ByteArray),(⟨#[115,108,111,112,101]⟩:ByteArray)] (wr (a0 - 1))).bind λv3=>
 some (v3))
theorem wS (a0:Int) (r:ByteArray) (h:kP a0=some r):HasC Tryz.prog 57 [.int a0] (.str r):=by
 exact hM [.tmp 2] Tryz.func57 Tryz.ntmps57 k<|sR<|aT k2<|sQ<|sR<|am k k<|oB h λv1 hv1 h=>ae (aE (hJ a0 1 6 v1 hv1) k (bN k (bN k (bN k aI)))) k<|ae (cK k) k<|an<|tn<|cJ k h (λ_ h=>sR<|aT k2<|aD<|aB<|sp h (aR k k k (dF k))) λ_ h=>aG<|tn<|sR<|ae (aLs aQ k k k k k k) k<|am k k<|ae (oY k k) k<|oB h λv3 hv3 h=>ae (aHu aQ hv3 k k k k k k k k) k<|aT k2<|aD<|sp h (aR k k k (dF k))
def oJ (a0:Int):Option ByteArray:=
 (gC a0 1 6).bind λv1=>
 bif !v1 then
 (some ((⟨#[]⟩:ByteArray)))
 else
 ((dL ([(⟨#[112,97,114,116,115]⟩:ByteArray),(⟨#[115,97,109,101]⟩:ByteArray),(⟨#[100,105,102,102,101,114,101,110,116]⟩:ByteArray),(⟨#[101,120,116,101,110,115,105,111,110]⟩:ByteArray),(⟨#[98,97,114,115]⟩:ByteArray),(⟨#[115,108,111,112,101]⟩:ByteArray)]:List ByteArray) (wr (a0 - 1))).bind λv3=>
 some (v3))
theorem aBy (a0:Int) (r:ByteArray) (h:oJ a0=some r):HasC Tryz.prog 46 [.int a0] (.str r):=by
 exact hM [.tmp 2] Tryz.func46 Tryz.ntmps46 k<|sR<|aT k2<|sQ<|sR<|am k k<|oB h λv1 hv1 h=>ae (aE (jB a0 1 6 v1 hv1) k (bN k (bN k (bN k aI)))) k<|ae (cK k) k<|an<|tn<|cJ k h (λ_ h=>sR<|aT k2<|aD<|aB<|sp h (aR k k k (dF k))) λ_ h=>aG<|tn<|sR<|ae (wl k) k<|am k k<|ae (oY k k) k<|oB h λv3 hv3 h=>ae (aHN aQ (n:=6) (aGG hv3) (vJ hv3) k k k k k k k) k<|ae (eO aQ k k k k (qD (f:=(ow yN)) (iK hv3)) k k) k<|aT k2<|aD<|sp h (aR k k k (dF k))
def gX (a0:Int) (a1:(List Mt)) (x1:((List ByteArray)×Int)):Option (((List ByteArray)×Int) ⊕ (List ByteArray)):=
 bif decide (x1.2<(a1.length:Int)) then
 ((dL a1 x1.2).bind λv3=>
 (gQ a0 v3).bind λv4=>
 bif decide (x1.1.length+[v4].length ≤4294967296) then
 (some (.inl ((x1.1++[v4]),wr (x1.2+1))))
 else none)
 else
 (some (.inr x1.1))
def gR (a0:Int) (a1:(List Mt)):Option ByteArray:=
 bif decide (20<(a1.length:Int)) then
 (some ((⟨#[110,111,110,101]⟩:ByteArray)))
 else
 ((Lp (gX a0 a1) ([],0)).bind λy6=>
 (uP y6 (⟨#[32]⟩:ByteArray)).bind λv7=>
 bif eqS v7 (⟨#[]⟩:ByteArray) then
 (some ((⟨#[110,111,110,101]⟩:ByteArray)))
 else
 (some (v7)))
theorem tN (a0:Int) (a1:(List Mt)) (r:ByteArray) (h:gR a0 a1=some r):HasC Tryz.prog 63 [.int a0,.list 3 (a1.map eM)] (.str r):=by
 refine hM [.tmp 4] Tryz.func63 Tryz.ntmps63 k<|sR<|aT k2<|sQ<|sR<|am k k<|ln k4<|cm k4<|an<|tn<|cJ k h (λ_ h=>sR<|aT k2<|aD<|aB<|sp h (aR k k k (dF k))) λ_ h=>?_;refine aG<|tn<|sR<|aT k2<|sQ<|sR<|am k k<|ln k4<|am k k<|an<|tn<|aH<|oB h λy6 hy6 h=>bX (body:=(gX a0 a1)) hy6 (λ(x1:((List ByteArray)×Int))=>mN [(0,.int a0),(5,.own 0 0 x1.1.length),(12,.list 3 (a1.map eM)),(13,.int (a1.length:Int)),(14,.int x1.2)] [(0,⟨1,x1.1.map (ow yN)⟩)] 1) (λr e t=>e= .exit 0∧Ent t (mN [(5,.own 0 0 r.length)] [(0,⟨1,r.map (ow yN)⟩)] 1)) (uH (σ:=sg []) (xU 1 k2 (vE ⟨_,k,⟨k,k,k,k⟩⟩ (bK k2))) (hX k k<|bA) k) ?_ ?_
 ·intro x1 o h;exact sR<|cm k4<|an<|tn<|sQ<|cJ k h (λ_ h=>aG<|tn<|sQ<|aH<|sR<|oB h λv3 hv3 h=>ae (xl hv3 k) k<|lr k7<|ae (cH aQ k k) k<|ae (ws k) k<|an<|tn<|rg<|am k k<|am k k<|lp k8<|oB h λv4 hv4 h=>ae (aE (tM a0 v3 v4 hv4) k (bN k (aN (iV k) aI))) k<|ae (wl k) k<|cG h λq5 h=>ae (oZ aQ (l:=x1.1) (m:=[v4]) vM q5 k k k k k k k k k k k k) k<|aa k k<|an<|aX<|tn<|rg<|ae (bH k k) k<|am k k<|an<|tn<|sp h ⟨_,k,(ntZ [3] (bK k2) (sU (qK.plainO _) k<|bA) k4)⟩) λ_ h=>aY<|aC<|aC<|sp h ⟨_,k,k,(bL (bK k2) (sU (qK.plainO _) k<|bA) k4)⟩
 ·rintro e t ⟨rfl,hent⟩;exact aM<|tn<|aO hent<|sR<|am k k<|oB h λv7 hv7 h=>ae (aE (yW y6 (⟨#[32]⟩:ByteArray) v7 hv7) k (aN (aCU qK k k) (bN k aI))) k<|aT k2<|sQ<|sR<|am k k<|ae (aEU k k) k<|an<|tn<|cJ k h (λ_ h=>sR<|aT k2<|aD<|aB<|sp h (aR k k k (dF k))) λ_ h=>aG<|tn<|sR<|am k k<|aT k2<|aD<|sp h (aR k k k (dF k))
def fN (a0:Int) (a1:(List Mt)) (x1:(ByteArray×Int)):Option ((ByteArray×Int) ⊕ ByteArray):=
 bif decide (x1.2<(a1.length:Int)) then
 (bif decide ((a1.length:Int)≤20) then
 (bif decide (0<x1.2) then
 (bif decide (x1.1.size+(⟨#[32]⟩:ByteArray).size ≤9223372036854775807) then
 ((dL a1 x1.2).bind λv4=>
 (fF a0 v4).bind λv5=>
 bif decide ((x1.1++(⟨#[32]⟩:ByteArray)).size +v5.size≤9223372036854775807) then
 (some (.inl (((x1.1++(⟨#[32]⟩:ByteArray))++v5),wr (x1.2+1))))
 else none)
 else none)
 else
 ((dL a1 x1.2).bind λv8=>
 (fF a0 v8).bind λv9=>
 bif decide (x1.1.size+v9.size≤9223372036854775807) then
 (some (.inl ((x1.1++v9),wr (x1.2+1))))
 else none))
 else
 (some (.inr x1.1)))
 else
 (some (.inr x1.1))
def iJ (a0:Int) (a1:(List Mt)):Option ByteArray:=
 (Lp (fN a0 a1) ((⟨#[]⟩:ByteArray),0)).bind λy11=>
 bif eqS y11 (⟨#[]⟩:ByteArray) then
 (some ((⟨#[110,111,110,101]⟩:ByteArray)))
 else
 (some (y11))
theorem uQ (a0:Int) (a1:(List Mt)) (r:ByteArray) (h:iJ a0 a1=some r):HasC Tryz.prog 51 [.int a0,.list 3 (a1.map eM)] (.str r):=by
 refine hM [.tmp 4] Tryz.func51 Tryz.ntmps51 k<|sR<|aT k2<|sR<|aT k2<|sQ<|sR<|aT k2<|aH<|oB h λy11 hy11 h=>bX (body:=(fN a0 a1)) hy11 (λ(x1:(ByteArray×Int))=>mN [(0,.int a0),(1,.list 3 (a1.map eM)),(5,.str x1.1),(6,.int x1.2)] [] 0) (λr e t=>e= .exit 0∧Ent t (mN [(5,.str r)] [] 0)) (bL (bK k2) bA k4) ?_ ?_
 ·intro x1 o h;exact sQ<|sR<|am k k<|am k k<|ln k4<|cm k4<|am k k<|oP h (λq1 h=>aJ 11 k q1<|am k k<|ln k4<|cm k4<|pk k3<|an<|tn<|cJ k h (λ_ h=>aG<|tn<|sQ<|aH<|sQ<|sR<|am k k<|cm k4<|an<|tn<|cJ k h (λ_ h=>rg<|am k k<|cG h λq7 h=>ae (dA k k q7) k<|aT k2<|rg<|am k k<|am k k<|am k k<|am k k<|oB h λv4 hv4 h=>ae (xl hv4 k) k<|lr k7<|oB h λv5 hv5 h=>ae (aE (oU a0 v4 v5 hv5) k (bN k (aN (iV k) aI))) k<|cG h λq6 h=>ae (dA k k q6) k<|aa k k<|an<|aX<|tn<|rg<|am k k<|ae (bH k k) k<|aT k2<|sp h ⟨_,k,(bL (bK k2) bA k4)⟩) λ_ h=>aG<|tn<|rg<|am k k<|am k k<|am k k<|am k k<|oB h λv8 hv8 h=>ae (xl hv8 k) k<|lr k7<|oB h λv9 hv9 h=>ae (aE (oU a0 v8 v9 hv9) k (bN k (aN (iV k) aI))) k<|cG h λq10 h=>ae (dA k k q10) k<|aa k k<|an<|aX<|tn<|rg<|am k k<|ae (bH k k) k<|aT k2<|sp h ⟨_,k,(bL (bK k2) bA k4)⟩) λ_ h=>aY<|aC<|aC<|sp h ⟨_,k,k,(bL (bK k2) bA k4)⟩) λq1 h=>aJ 11 k q1<|aK k4<|ak k k<|pk k3<|an<|tn<|oV k k<|aY<|aC<|aC<|sp h ⟨_,k,k,(bL (bK k2) bA k4)⟩
 ·rintro e t ⟨rfl,hent⟩;exact aM<|tn<|aO hent<|sQ<|sR<|am k k<|ae (aEU k k) k<|an<|tn<|cJ k h (λ_ h=>sR<|aT k2<|aD<|aB<|sp h (aR k k k (dF k))) λ_ h=>aG<|tn<|sR<|am k k<|aT k2<|aD<|sp h (aR k k k (dF k))
def dY (a0:Rp):Option Bool:=
 (jI a0).bind λv1=>
 some (!v1)
theorem yZ (a0:Rp) (r:Bool) (h:dY a0=some r):HasC Tryz.prog 62 [.agg (eR a0)] (.bl r):=by
 exact hM [.tmp 2] Tryz.func62 Tryz.ntmps62 k<|sR<|ae (wb k) k<|aT k2<|sR<|lp k8<|oB h λv1 hv1 h=>ae (aE (qW a0 v1 hv1) k (aN (iV k) aI)) k<|ae (cK k) k<|aT k2<|aD<|eJ h k2
def bV (a0:(List Rp)) (a1:(Rp→Option Bool)) (x1:Int):Option (Int ⊕ (Unit ⊕ Int)):=
 bif decide (x1<(a0.length:Int)) then
 ((dL a0 x1).bind λv2=>
 (a1 v2).bind λv3=>
 bif v3 then
 (some (.inr (.inr (x1))))
 else
 (some (.inl (wr (x1+1)))))
 else
 (some (.inr (.inl ())))
def dZ (a0:(List Rp)) (a1:(Rp→Option Bool)):Option Int:=
 (Lp (bV a0 a1) 0).bind λy5=>
 Sum.elim (λy6=>
 some ((-1))
 )
 (λy7=>
 some y7
 )
 y5
theorem oK (a0:(List Rp)) (a1:(Rp→Option Bool)) {f1:FuncId} {c1:List AV} (hc1:c1.all dI=true) (hf1: ∀ b0 r,a1 b0=some r→HasC Tryz.prog f1 ([.agg (eR b0)]++c1) (.bl r)) (r:Int) (h:dZ a0 a1=some r):HasC Tryz.prog 128 [.list 6 (a0.map eR),.fn f1 c1] (.int r):=by
 refine tR aQ (rvs:=[.tmp 4]) (ns:=nmA) Tryz.func128 k k Tryz.ntmps128 k k (kU k (kU hc1 aAc))<|sR<|aT k2<|sQ<|sR<|am k k<|ln k4<|am k k<|an<|tn<|aH<|oB h λy5 hy5 h=>bX (body:=(bV a0 a1)) hy5 (λ(x1:Int)=>mN [(0,.list 6 (a0.map eR)),(1,.fn f1 c1),(7,.int (a0.length:Int)),(8,.int x1)] [] 0) (λr e t=>Sum.elim (λa=>(λr e t=>e= .exit 0∧Ent t (mN [] [] 0)) a e t) (λb=>(λr e t=>e= .ret∧nJ TT [.tmp 4] (.int r) .ret t) b e t) r) (bL (xU 1 k2 (vE ⟨_,k,⟨k,qL _ hc1⟩⟩ (bK k2))) bA k4) ?_ ?_
 ·intro x1 o h;exact sR<|cm k4<|an<|tn<|sQ<|cJ k h (λ_ h=>aG<|tn<|sQ<|aH<|sR<|am k k<|aT k2<|sR<|am k k<|am k k<|am k k<|oB h λv2 hv2 h=>ae (xl hv2 k) k<|lr k7<|oB h λv3 hv3 h=>ae (aCz hc1 (hf1 v2 v3 hv3) k k (aN (iV k) aI)) k<|an<|tn<|cJ k h (λ_ h=>sR<|am k k<|aT k2<|aD<|aU<|aB<|aB<|sp h ⟨_,k,k,aR k k k (xC k)⟩) λ_ h=>aG<|aX<|tn<|rg<|ae (bH k k) k<|am k k<|an<|tn<|sp h ⟨_,k,(bL (xU 1 k2 (vE ⟨_,k,⟨k,qL _ hc1⟩⟩ (bK k2))) bA k4)⟩) λ_ h=>aY<|aC<|aC<|sp h ⟨_,k,k,(bL bA bA k4)⟩
 ·intro e t hX;rcases y5 with y6|y7
  ·obtain ⟨rfl,hent⟩:=hX;exact aM<|tn<|aO hent<|sR<|aT k2<|aD<|uT h k2
  ·obtain ⟨rfl,hent⟩:=hX;exact aU<|aB<|sp h hent
def cY (a0:(List Rp)) (a1:(Rp→Option Bool)):Option Bool:=
 (dZ a0 a1).bind λv1=>
 some (decide (0≤v1))
theorem mE (a0:(List Rp)) (a1:(Rp→Option Bool)) {f1:FuncId} {c1:List AV} (hc1:c1.all dI=true) (hf1: ∀ b0 r,a1 b0=some r→HasC Tryz.prog f1 ([.agg (eR b0)]++c1) (.bl r)) (r:Bool) (h:cY a0 a1=some r):HasC Tryz.prog 61 [.list 6 (a0.map eR),.fn f1 c1] (.bl r):=by
 exact tR aQ (rvs:=[.tmp 4]) (ns:=nmA) Tryz.func61 k k Tryz.ntmps61 k k (kU k (kU hc1 aAc))<|sR<|aT k2<|sR<|am k k<|am k k<|oB h λv1 hv1 h=>ae (aE (oK a0 a1 hc1 hf1 v1 hv1) k (bN k (aN (aIW hc1) aI))) k<|cm k4<|aT k2<|aD<|eJ h k2
def fP (a0:Cl) (x1:((List ByteArray)×Int)):Option (((List ByteArray)×Int) ⊕ (List ByteArray)):=
 bif decide (x1.2<(a0.parts.length:Int)) then
 ((dL a0.parts x1.2).bind λv14=>
 (dM v14.dims).bind λv15=>
 bif decide (x1.1.length+[v15].length ≤4294967296) then
 (some (.inl ((x1.1++[v15]),wr (x1.2+1))))
 else none)
 else
 (some (.inr x1.1))
def lK (a0:Cl):Option ByteArray:=
 (kP a0.kind).bind λv1=>
 bif eqS v1 (⟨#[]⟩:ByteArray) then
 (some ((⟨#[]⟩:ByteArray)))
 else
 ((jI a0.rep).bind λv3=>
 bif !v3 then
 (some ((⟨#[]⟩:ByteArray)))
 else
 ((kP a0.kind).bind λv5=>
 (jV a0.rep.q).bind λv6=>
 (kN a0.rep).bind λv7=>
 bif decide (a0.kind=1) then
 (bif decide (8<(a0.parts.length:Int)) then
 (some ((⟨#[]⟩:ByteArray)))
 else
 ((cY a0.parts (λb0=>dY b0)).bind λv10=>
 bif v10 then
 (some ((⟨#[]⟩:ByteArray)))
 else
 (bif decide ([v5,v6,(⟨#[124]⟩:ByteArray),v7].length +[(⟨#[105,110,116,111]⟩:ByteArray)].length ≤4294967296) then
 ((Lp (fP a0) (([v5,v6,(⟨#[124]⟩:ByteArray),v7]++[(⟨#[105,110,116,111]⟩:ByteArray)]),0)).bind λy17=>
 (gR a0.rep.p a0.maps).bind λv18=>
 bif decide (y17.length+[(⟨#[98,121]⟩:ByteArray),v18].length ≤4294967296) then
 ((uP (y17++[(⟨#[98,121]⟩:ByteArray),v18]) (⟨#[32]⟩:ByteArray)).bind λv20=>
 some (v20))
 else none)
 else none)))
 else
 (bif decide (a0.kind=5) then
 ((mZ a0.bars).bind λv22=>
 bif decide ([v5,v6,(⟨#[124]⟩:ByteArray),v7].length +[(⟨#[104,97,115]⟩:ByteArray),v22].length ≤4294967296) then
 ((uP ([v5,v6,(⟨#[124]⟩:ByteArray),v7]++[(⟨#[104,97,115]⟩:ByteArray),v22]) (⟨#[32]⟩:ByteArray)).bind λv24=>
 some (v24))
 else none)
 else
 (bif decide (a0.kind=6) then
 ((uA a0.rep a0.subs).bind λv26=>
 bif !v26 then
 (some ((⟨#[]⟩:ByteArray)))
 else
 ((rH a0.subs).bind λv28=>
 (dM v28).bind λv29=>
 bif decide ([v5,v6,(⟨#[124]⟩:ByteArray),v7].length +[(⟨#[98,121]⟩:ByteArray),v29].length ≤4294967296) then
 ((uP ([v5,v6,(⟨#[124]⟩:ByteArray),v7]++[(⟨#[98,121]⟩:ByteArray),v29]) (⟨#[32]⟩:ByteArray)).bind λv31=>
 some (v31))
 else none))
 else
 ((jI a0.other).bind λv32=>
 bif !v32 then
 (some ((⟨#[]⟩:ByteArray)))
 else
 ((kN a0.other).bind λv34=>
 bif decide ([v5,v6,(⟨#[124]⟩:ByteArray),v7].length +[(⟨#[97,110,100]⟩:ByteArray),v34].length ≤4294967296) then
 (bif !decide (a0.kind=3) then
 ((gR a0.rep.p a0.maps).bind λv37=>
 bif decide (([v5,v6,(⟨#[124]⟩:ByteArray),v7]++[(⟨#[97,110,100]⟩:ByteArray),v34]).length +[(⟨#[98,121]⟩:ByteArray),v37].length ≤4294967296) then
 ((uP (([v5,v6,(⟨#[124]⟩:ByteArray),v7]++[(⟨#[97,110,100]⟩:ByteArray),v34])++[(⟨#[98,121]⟩:ByteArray),v37]) (⟨#[32]⟩:ByteArray)).bind λv39=>
 some (v39))
 else none)
 else
 ((uP ([v5,v6,(⟨#[124]⟩:ByteArray),v7]++[(⟨#[97,110,100]⟩:ByteArray),v34]) (⟨#[32]⟩:ByteArray)).bind λv40=>
 some (v40)))
 else none))))))
theorem aAi (a0:Cl) (r:ByteArray) (h:lK a0=some r):HasC Tryz.prog 15 [.agg (eC a0)] (.str r):=by
 refine hM [.tmp 2] Tryz.func15 Tryz.ntmps15 k<|sR<|ae (wb k) k<|aT k2<|sQ<|sR<|fp k8<|lp k8<|oB h λv1 hv1 h=>ae (aE (wS a0.kind v1 hv1) k (bN k aI)) k<|ae (aEU k k) k<|am k k<|oP h (λq2 h=>aJ 10 k q2<|aK k4<|aK k4<|pk k3<|an<|tn<|dC k k<|sR<|aT k2<|aD<|aB<|sp h (aR k k k (dF k))) λq2 h=>?_;refine aJ 10 k q2<|fp k8<|lp k8<|oB h λv3 hv3 h=>ae (aE (qW a0.rep v3 hv3) k (aN (iV k) aI)) k<|ae (cK k) k<|pk k3<|an<|tn<|cJ k h (λ_ h=>sR<|aT k2<|aD<|aB<|sp h (aR k k k (dF k))) λ_ h=>?_;refine aG<|tn<|sQ<|aW jN<|fp k8<|lp k8<|oB h λv5 hv5 h=>ae (aE (wS a0.kind v5 hv5) k (bN k aI)) k<|fp k8<|fp k8<|lp k8<|oB h λv6 hv6 h=>ae (aE (aAC a0.rep.q v6 hv6) k (aN (iV k) aI)) k<|fp k8<|lp k8<|oB h λv7 hv7 h=>ae (aE (wQ a0.rep v7 hv7) k (aN (iV k) aI)) k<|ae (wl k) k<|aa k k<|an<|tU (by kernel_rfl)<|tn<|aO (t:=mN [(1,.ptr 0 0 0),(3,.own 1 0 ([v5,v6,(⟨#[124]⟩:ByteArray),v7].length))] [(0,⟨18,[eC a0]⟩),(1,⟨1,List.map (ow yN) [v5,v6,(⟨#[124]⟩:ByteArray),v7]⟩)] 2) (bL (xU 1 k2 (vE ⟨_,k,⟨k,k,(by simp only [bF,lA,lT,lR,lC,lN]),k⟩⟩ bA)) (cP k<|sU (qK.plainO _) k<|bA) k4)<|sQ<|sR<|fp k8<|lp k8<|an<|tn<|aH<|sQ ?_;refine rg<|cm k4<|aT k2<|cJ k h (λ_ h=>?_) λ_ h=>?_
 ·refine sQ<|sR<|fp k8<|lp k8<|ln k4<|cm k4<|am k k<|oP h (λq9 h=>aJ 57 k q9<|aK k4<|ak k k<|pk k3<|an<|tn<|dC k k<|sR<|aT k2<|aD<|aB<|aU<|aB<|sp h (aR k k k (dF k))) λq9 h=>?_;refine aJ 57 k q9<|fp k8<|lp k8<|oB h λv10 hv10 h=>ae (aE (mE a0.parts (λb0=>dY b0) k (λb0 r h=>yZ b0 r h) v10 hv10) k (bN k (aN (aFU zL) aI))) k<|pk k3<|an<|tn<|cJ k h (λ_ h=>sR<|aT k2<|aD<|aB<|aU<|aB<|sp h (aR k k k (dF k))) λ_ h=>?_;refine aG<|tn<|sR<|am k k<|ae (wl k) k<|cG h λq12 h=>ae (oZ aQ (l:=[v5,v6,(⟨#[124]⟩:ByteArray),v7]) (m:=[(⟨#[105,110,116,111]⟩:ByteArray)]) vM q12 k k k k k k k k k k k k) k<|aT k2<|sQ<|sR<|fp k8<|lp k8<|ln k4<|am k k<|an<|tn<|aH<|oB h λy17 hy17 h=>bX (body:=(fP a0)) hy17 (λ(x1:((List ByteArray)×Int))=>mN [(1,.ptr 0 0 0),(3,.own 1 0 x1.1.length),(66,.list 6 (a0.parts.map eR)),(67,.int (a0.parts.length:Int)),(68,.int x1.2)] [(0,⟨18,[eC a0]⟩),(1,⟨1,x1.1.map (ow yN)⟩)] 2) (λr e t=>e= .exit 1∧Ent t (mN [(1,.ptr 0 0 0),(3,.own 1 0 r.length)] [(0,⟨18,[eC a0]⟩),(1,⟨1,r.map (ow yN)⟩)] 2)) (ntZ [0,3] (bK k2) (cP k<|sU (qK.plainO _) k<|bA) k4) ?_ ?_
  ·intro x1 o h;exact sR<|cm k4<|an<|tn<|sQ<|cJ k h (λ_ h=>aG<|tn<|sQ<|aH<|sR<|oB h λv14 hv14 h=>ae (xl hv14 k) k<|lr k7<|ae (cH aQ k k) k<|ae (ws k) k<|an<|tn<|rg<|am k k<|fp k8<|lp k8<|oB h λv15 hv15 h=>ae (aE (hU v14.dims v15 hv15) k (bN k aI)) k<|ae (wl k) k<|cG h λq16 h=>ae (oZ aQ (l:=x1.1) (m:=[v15]) vM q16 k k k k k k k k k k k k) k<|aa k k<|an<|aX<|tn<|rg<|ae (bH k k) k<|am k k<|an<|tn<|sp h ⟨_,k,(ntZ [0,4] (bK k2) (cP k<|sU (qK.plainO _) k<|bA) k4)⟩) λ_ h=>aY<|aC<|aC<|sp h ⟨_,k,k,(bL (bK k2) (cP k<|sU (qK.plainO _) k<|bA) k4)⟩
  ·rintro e t ⟨rfl,hent⟩;exact aM<|tn<|aO hent<|rg<|am k k<|fp k8<|fp k8<|lp k8<|fp k8<|lp k8<|oB h λv18 hv18 h=>ae (aE (tN a0.rep.p a0.maps v18 hv18) k (bN k (bN k aI))) k<|ae (wl k) k<|cG h λq19 h=>ae (oZ aQ (l:=y17) (m:=[(⟨#[98,121]⟩:ByteArray),v18]) vM q19 k k k k k k k k k k k k) k<|aa k k<|an<|aX<|tn<|sR<|am k k<|oB h λv20 hv20 h=>ae (aE (yW (y17++[(⟨#[98,121]⟩:ByteArray),v18]) (⟨#[32]⟩:ByteArray) v20 hv20) k (aN (aCU qK k k) (bN k aI))) k<|aT k2<|aD<|sp h (aR k k k (dF k))
 ·refine sR<|cm k4<|aT k2<|cJ k h (λ_ h=>rg<|am k k<|fp k8<|lp k8<|oB h λv22 hv22 h=>ae (aE (aBU a0.bars v22 hv22) k (bN k aI)) k<|ae (wl k) k<|cG h λq23 h=>ae (oZ aQ (l:=[v5,v6,(⟨#[124]⟩:ByteArray),v7]) (m:=[(⟨#[104,97,115]⟩:ByteArray),v22]) vM q23 k k k k k k k k k k k k) k<|aa k k<|an<|aX<|tn<|sR<|am k k<|oB h λv24 hv24 h=>ae (aE (yW ([v5,v6,(⟨#[124]⟩:ByteArray),v7]++[(⟨#[104,97,115]⟩:ByteArray),v22]) (⟨#[32]⟩:ByteArray) v24 hv24) k (aN (aCU qK k k) (bN k aI))) k<|aT k2<|aD<|sp h (aR k k k (dF k))) λ_ h=>?_;refine sR<|cm k4<|aT k2<|cJ k h (λ_ h=>sQ<|sR<|fp k8<|lp k8<|fp k8<|lp k8<|oB h λv26 hv26 h=>ae (aE (aGc a0.rep a0.subs v26 hv26) k (aN (iV k) (bN k aI))) k<|ae (cK k) k<|an<|tn<|cJ k h (λ_ h=>sR<|aT k2<|aD<|aB<|aU<|aB<|sp h (aR k k k (dF k))) λ_ h=>aG<|tn<|rg<|am k k<|fp k8<|lp k8<|oB h λv28 hv28 h=>ae (cL dH (aEW a0.subs v28 hv28) k3 (bN k aI)) k<|oB h λv29 hv29 h=>ae (aE (hU v28 v29 hv29) k (vcT k k aI)) k<|ae (wl k) k<|cG h λq30 h=>ae (oZ aQ (l:=[v5,v6,(⟨#[124]⟩:ByteArray),v7]) (m:=[(⟨#[98,121]⟩:ByteArray),v29]) vM q30 k k k k k k k k k k k k) k<|aa k k<|an<|aX<|tn<|sR<|am k k<|oB h λv31 hv31 h=>ae (aE (yW ([v5,v6,(⟨#[124]⟩:ByteArray),v7]++[(⟨#[98,121]⟩:ByteArray),v29]) (⟨#[32]⟩:ByteArray) v31 hv31) k (aN (aCU qK k k) (bN k aI))) k<|aT k2<|aO (t:=mN [(2,.str v31)] [] 5) (bL (bK k2) bA k4)<|aD<|sp h (aR k k k (dF k))) λ_ h=>?_;refine sQ<|sR<|fp k8<|lp k8<|oB h λv32 hv32 h=>ae (aE (qW a0.other v32 hv32) k (aN (iV k) aI)) k<|ae (cK k) k<|an<|tn<|cJ k h (λ_ h=>sR<|aT k2<|aD<|aB<|aU<|aB<|sp h (aR k k k (dF k))) λ_ h=>?_;exact aG<|tn<|sR<|am k k<|fp k8<|lp k8<|oB h λv34 hv34 h=>ae (aE (wQ a0.other v34 hv34) k (aN (iV k) aI)) k<|ae (wl k) k<|cG h λq35 h=>ae (oZ aQ (l:=[v5,v6,(⟨#[124]⟩:ByteArray),v7]) (m:=[(⟨#[97,110,100]⟩:ByteArray),v34]) vM q35 k k k k k k k k k k k k) k<|aT k2<|sR<|fp k8<|lp k8<|cm k4<|an<|tn<|cJ k h (λ_ h=>rg<|am k k<|fp k8<|fp k8<|lp k8<|fp k8<|lp k8<|oB h λv37 hv37 h=>ae (aE (tN a0.rep.p a0.maps v37 hv37) k (bN k (bN k aI))) k<|ae (wl k) k<|cG h λq38 h=>ae (oZ aQ (l:=([v5,v6,(⟨#[124]⟩:ByteArray),v7]++[(⟨#[97,110,100]⟩:ByteArray),v34])) (m:=[(⟨#[98,121]⟩:ByteArray),v37]) vM q38 k k k k k k k k k k k k) k<|aa k k<|an<|aX<|tn<|aO (t:=mN [(3,.own 5 0 ((([v5,v6,(⟨#[124]⟩:ByteArray),v7]++[(⟨#[97,110,100]⟩:ByteArray),v34])++[(⟨#[98,121]⟩:ByteArray),v37]).length))] [(5,⟨1,List.map (ow yN) (([v5,v6,(⟨#[124]⟩:ByteArray),v7]++[(⟨#[97,110,100]⟩:ByteArray),v34])++[(⟨#[98,121]⟩:ByteArray),v37])⟩)] 6) (bL (bK k2) (sU (qK.plainO _) k<|bA) k4)<|sR<|am k k<|oB h λv39 hv39 h=>ae (aE (yW (([v5,v6,(⟨#[124]⟩:ByteArray),v7]++[(⟨#[97,110,100]⟩:ByteArray),v34])++[(⟨#[98,121]⟩:ByteArray),v37]) (⟨#[32]⟩:ByteArray) v39 hv39) k (aN (aCU qK k k) (bN k aI))) k<|aT k2<|aD<|sp h (aR k k k (dF k))) λ_ h=>aG<|aX<|tn<|sR<|am k k<|oB h λv40 hv40 h=>ae (aE (yW ([v5,v6,(⟨#[124]⟩:ByteArray),v7]++[(⟨#[97,110,100]⟩:ByteArray),v34]) (⟨#[32]⟩:ByteArray) v40 hv40) k (aN (aCU qK k k) (bN k aI))) k<|aT k2<|aO (t:=mN [(2,.str v40)] [] 4) (bL (bK k2) bA k4)<|aD<|sp h (aR k k k (dF k))
def cZ (a0:Cl) (x1:(ByteArray×Int)):Option ((ByteArray×Int) ⊕ (ByteArray ⊕ ByteArray)):=
 bif decide (x1.2<(a0.parts.length:Int)) then
 ((dL a0.parts x1.2).bind λv9=>
 (nQ v9).bind λv10=>
 bif !v10 then
 (some (.inr (.inr ((⟨#[]⟩:ByteArray)))))
 else
 (bif decide (8<(a0.parts.length:Int)) then
 (some (.inr (.inr ((⟨#[]⟩:ByteArray)))))
 else
 (bif decide (x1.1.size+(⟨#[32]⟩:ByteArray).size ≤9223372036854775807) then
 ((dL a0.parts x1.2).bind λv13=>
 (kM v13.dims).bind λv14=>
 bif decide ((x1.1++(⟨#[32]⟩:ByteArray)).size +v14.size≤9223372036854775807) then
 (some (.inl (((x1.1++(⟨#[32]⟩:ByteArray))++v14),wr (x1.2+1))))
 else none)
 else none)))
 else
 (some (.inr (.inl x1.1)))
def lL (a0:Cl):Option ByteArray:=
 (oJ a0.kind).bind λv1=>
 (kO a0.rep).bind λv2=>
 bif eqS v1 (⟨#[]⟩:ByteArray) then
 (some ((⟨#[]⟩:ByteArray)))
 else
 (bif eqS v2 (⟨#[]⟩:ByteArray) then
 (some ((⟨#[]⟩:ByteArray)))
 else
 (bif decide (v1.size+(⟨#[32]⟩:ByteArray).size ≤9223372036854775807) then
 ((jW a0.rep.q).bind λv5=>
 bif decide ((v1++(⟨#[32]⟩:ByteArray)).size +v5.size≤9223372036854775807) then
 (bif decide (((v1++(⟨#[32]⟩:ByteArray))++v5).size +(⟨#[32,124,32]⟩:ByteArray).size ≤9223372036854775807) then
 (bif decide ((((v1++(⟨#[32]⟩:ByteArray))++v5)++(⟨#[32,124,32]⟩:ByteArray)).size +v2.size≤9223372036854775807) then
 ((kO a0.other).bind λv6=>
 bif decide (a0.kind=1) then
 (bif decide (((((v1++(⟨#[32]⟩:ByteArray))++v5)++(⟨#[32,124,32]⟩:ByteArray))++v2).size +(⟨#[32,105,110,116,111]⟩:ByteArray).size ≤9223372036854775807) then
 ((Lp (cZ a0) ((((((v1++(⟨#[32]⟩:ByteArray))++v5)++(⟨#[32,124,32]⟩:ByteArray))++v2)++(⟨#[32,105,110,116,111]⟩:ByteArray)),0)).bind λy17=>
 Sum.elim (λy18=>
 bif decide (y18.size+(⟨#[32,98,121,32]⟩:ByteArray).size ≤9223372036854775807) then
 ((iJ a0.rep.p a0.maps).bind λv19=>
 bif decide ((y18++(⟨#[32,98,121,32]⟩:ByteArray)).size +v19.size≤9223372036854775807) then
 (some (((y18++(⟨#[32,98,121,32]⟩:ByteArray))++v19)))
 else none)
 else none
 )
 (λy22=>
 some y22
 )
 y17)
 else none)
 else
 (bif decide (a0.kind=5) then
 (bif decide (((((v1++(⟨#[32]⟩:ByteArray))++v5)++(⟨#[32,124,32]⟩:ByteArray))++v2).size +(⟨#[32,104,97,115,32]⟩:ByteArray).size ≤9223372036854775807) then
 ((nA a0.bars).bind λv25=>
 bif decide ((((((v1++(⟨#[32]⟩:ByteArray))++v5)++(⟨#[32,124,32]⟩:ByteArray))++v2)++(⟨#[32,104,97,115,32]⟩:ByteArray)).size +v25.size≤9223372036854775807) then
 (some (((((((v1++(⟨#[32]⟩:ByteArray))++v5)++(⟨#[32,124,32]⟩:ByteArray))++v2)++(⟨#[32,104,97,115,32]⟩:ByteArray))++v25)))
 else none)
 else none)
 else
 (bif decide (a0.kind=6) then
 ((kL a0.rep a0.subs).bind λv29=>
 bif decide (((v29.length:Nat):Int)=0) then
 (some ((⟨#[]⟩:ByteArray)))
 else
 (bif decide (((((v1++(⟨#[32]⟩:ByteArray))++v5)++(⟨#[32,124,32]⟩:ByteArray))++v2).size +(⟨#[32,98,121,32]⟩:ByteArray).size ≤9223372036854775807) then
 ((kM v29).bind λv31=>
 bif decide ((((((v1++(⟨#[32]⟩:ByteArray))++v5)++(⟨#[32,124,32]⟩:ByteArray))++v2)++(⟨#[32,98,121,32]⟩:ByteArray)).size +v31.size≤9223372036854775807) then
 (some (((((((v1++(⟨#[32]⟩:ByteArray))++v5)++(⟨#[32,124,32]⟩:ByteArray))++v2)++(⟨#[32,98,121,32]⟩:ByteArray))++v31)))
 else none)
 else none))
 else
 (bif eqS v6 (⟨#[]⟩:ByteArray) then
 (some ((⟨#[]⟩:ByteArray)))
 else
 (bif decide (((((v1++(⟨#[32]⟩:ByteArray))++v5)++(⟨#[32,124,32]⟩:ByteArray))++v2).size +(⟨#[32,97,110,100,32]⟩:ByteArray).size ≤9223372036854775807) then
 (bif decide ((((((v1++(⟨#[32]⟩:ByteArray))++v5)++(⟨#[32,124,32]⟩:ByteArray))++v2)++(⟨#[32,97,110,100,32]⟩:ByteArray)).size +v6.size≤9223372036854775807) then
 (bif decide (a0.kind=3) then
 (some (((((((v1++(⟨#[32]⟩:ByteArray))++v5)++(⟨#[32,124,32]⟩:ByteArray))++v2)++(⟨#[32,97,110,100,32]⟩:ByteArray))++v6)))
 else
 (bif decide (((((((v1++(⟨#[32]⟩:ByteArray))++v5)++(⟨#[32,124,32]⟩:ByteArray))++v2)++(⟨#[32,97,110,100,32]⟩:ByteArray))++v6).size +(⟨#[32,98,121,32]⟩:ByteArray).size ≤9223372036854775807) then
 ((iJ a0.rep.p a0.maps).bind λv36=>
 bif decide ((((((((v1++(⟨#[32]⟩:ByteArray))++v5)++(⟨#[32,124,32]⟩:ByteArray))++v2)++(⟨#[32,97,110,100,32]⟩:ByteArray))++v6)++(⟨#[32,98,121,32]⟩:ByteArray)).size +v36.size≤9223372036854775807) then
 (some (((((((((v1++(⟨#[32]⟩:ByteArray))++v5)++(⟨#[32,124,32]⟩:ByteArray))++v2)++(⟨#[32,97,110,100,32]⟩:ByteArray))++v6)++(⟨#[32,98,121,32]⟩:ByteArray))++v36)))
 else none)
 else none))
 else none)
 else none)))))
 else none)
 else none)
 else none)
 else none))
theorem aAj (a0:Cl) (r:ByteArray) (h:lL a0=some r):HasC Tryz.prog 13 [.agg (eC a0)] (.str r):=by
 refine hM [.tmp 2] Tryz.func13 Tryz.ntmps13 k<|sR<|ae (wb k) k<|aT k2<|sR<|fp k8<|lp k8<|oB h λv1 hv1 h=>ae (aE (aBy a0.kind v1 hv1) k (bN k aI)) k<|aT k2<|sR<|fp k8<|lp k8<|oB h λv2 hv2 h=>ae (aE (wR a0.rep v2 hv2) k (aN (iV k) aI)) k<|aT k2<|sQ<|sR<|am k k<|ae (aEU k k) k<|am k k<|oP h (λq3 h=>aJ 17 k q3<|aK k4<|pk k3<|an<|tn<|dC k k<|sR<|aT k2<|aD<|aB<|sp h (aR k k k (dF k))) λq3 h=>?_;refine aJ 17 k q3<|am k k<|ae (aEU k k) k<|pk k3<|an<|tn<|cJ k h (λ_ h=>sR<|aT k2<|aD<|aB<|sp h (aR k k k (dF k))) λ_ h=>?_;refine aG<|tn<|sR<|am k k<|cG h λq44 h=>ae (dA k k q44) k<|fp k8<|fp k8<|lp k8<|oB h λv5 hv5 h=>ae (aE (aAD a0.rep.q v5 hv5) k (aN (iV k) aI)) k<|cG h λq43 h=>ae (dA k k q43) k<|cG h λq42 h=>ae (dA k k q42) k<|am k k<|cG h λq41 h=>ae (dA k k q41) k<|aT k2<|aO (t:=mN [(1,.ptr 0 0 0),(5,.str ((((v1++(⟨#[32]⟩:ByteArray))++v5)++(⟨#[32,124,32]⟩:ByteArray))++v2))] [(0,⟨18,[eC a0]⟩)] 1) (bL (bK k2) (cP k<|bA) k4)<|sR<|fp k8<|lp k8<|oB h λv6 hv6 h=>ae (aE (wR a0.other v6 hv6) k (aN (iV k) aI)) k<|aT k2<|sQ<|sR ?_;refine fp k8<|lp k8<|an<|tn<|aH<|sR<|cm k4<|aT k2<|cJ k h (λ_ h=>?_) λ_ h=>?_
 ·refine sR<|am k k<|cG h λq23 h=>ae (dA k k q23) k<|aT k2<|sQ<|sR<|aT k2<|aH<|oB h λy17 hy17 h=>bX (body:=(cZ a0)) hy17 (λ(x1:(ByteArray×Int))=>mN [(1,.ptr 0 0 0),(5,.str x1.1),(7,.int x1.2)] [(0,⟨18,[eC a0]⟩)] 1) (λr e t=>Sum.elim (λa=>(λr e t=>e= .exit 1∧Ent t (mN [(1,.ptr 0 0 0),(5,.str r)] [(0,⟨18,[eC a0]⟩)] 1)) a e t) (λb=>(λr e t=>e= .ret∧nJ TT [.tmp 2] (.str r) .ret t) b e t) r) (bL (bK k2) (cP k<|bA) k4) ?_ ?_
  ·intro x1 o h;exact sQ<|sR<|am k k<|fp k8<|lp k8<|ln k4<|cm k4<|an<|tn<|cJ k h (λ_ h=>aG<|tn<|sQ<|aH<|sQ<|sR<|fp k8<|lp k8<|am k k<|oB h λv9 hv9 h=>ae (xl hv9 k) k<|lr k7<|oB h λv10 hv10 h=>ae (aE (xG v9 v10 hv10) k (aN (iV k) aI)) k<|ae (cK k) k<|am k k<|oP h (λq11 h=>aJ 54 k q11<|aK k4<|aK k4<|pk k3<|an<|tn<|dC k k<|sR<|aT k2<|aD<|aB<|aU<|aB<|aB<|sp h ⟨_,k,k,aR k k k (dF k)⟩) λq11 h=>aJ 54 k q11<|fp k8<|lp k8<|ln k4<|cm k4<|pk k3<|an<|tn<|cJ k h (λ_ h=>sR<|aT k2<|aD<|aB<|aU<|aB<|aB<|sp h ⟨_,k,k,aR k k k (dF k)⟩) λ_ h=>aG<|tn<|rg<|am k k<|cG h λq16 h=>ae (dA k k q16) k<|fp k8<|lp k8<|am k k<|oB h λv13 hv13 h=>ae (xl hv13 k) k<|ae (gB aQ k k k k k k) k<|lr k7<|oB h λv14 hv14 h=>ae (aE (wP v13.dims v14 hv14) k (bN k aI)) k<|cG h λq15 h=>ae (dA k k q15) k<|aa k k<|an<|aX<|tn<|aO (t:=mN [(1,.ptr 0 0 0),(5,.str ((x1.1++(⟨#[32]⟩:ByteArray))++v14)),(7,.int x1.2)] [(0,⟨18,[eC a0]⟩)] 1) (bL (bK k2) (cP k<|bA) k4)<|rg<|am k k<|ae (bH k k) k<|aT k2<|sp h ⟨_,k,(bL (bK k2) (cP k<|bA) k4)⟩) λ_ h=>aY<|aC<|aC<|sp h ⟨_,k,k,(bL (bK k2) (cP k<|bA) k4)⟩
  ·intro e t hX;rcases y17 with y18|y22
   ·obtain ⟨rfl,hent⟩:=hX;exact aM<|tn<|aO hent<|sR<|am k k<|cG h λq21 h=>ae (dA k k q21) k<|fp k8<|fp k8<|lp k8<|fp k8<|lp k8<|oB h λv19 hv19 h=>ae (aE (uQ a0.rep.p a0.maps v19 hv19) k (bN k (bN k aI))) k<|cG h λq20 h=>ae (dA k k q20) k<|aT k2<|aD<|aU<|aB<|sp h (aR k k k (dF k))
   ·obtain ⟨rfl,hent⟩:=hX;exact aU<|aB<|aU<|aB<|sp h hent
 ·refine sR<|cm k4<|aT k2<|cJ k h (λ_ h=>sR<|am k k<|cG h λq27 h=>ae (dA k k q27) k<|fp k8<|lp k8<|oB h λv25 hv25 h=>ae (aE (aBV a0.bars v25 hv25) k (bN k aI)) k<|cG h λq26 h=>ae (dA k k q26) k<|aT k2<|aD<|aU<|aB<|sp h (aR k k k (dF k))) λ_ h=>?_;exact sR<|cm k4<|aT k2<|cJ k h (λ_ h=>sR<|fp k8<|lp k8<|fp k8<|lp k8<|oB h λv29 hv29 h=>ae (cL dH (aEX a0.rep a0.subs v29 hv29) k3 (aN (iV k) (bN k aI))) k<|aT k2<|sQ<|sR<|am k k<|ae (lU aQ k k k k) k<|cm k4<|an<|tn<|cJ k h (λ_ h=>sR<|aT k2<|aD<|aB<|aU<|aB<|sp h (aR k k k (dF k))) λ_ h=>aG<|tn<|sR<|am k k<|cG h λq33 h=>ae (dA k k q33) k<|am k k<|oB h λv31 hv31 h=>ae (aE (wP v29 v31 hv31) k (vcT k k aI)) k<|cG h λq32 h=>ae (dA k k q32) k<|aT k2<|aO (t:=mN [(2,.str ((((((v1++(⟨#[32]⟩:ByteArray))++v5)++(⟨#[32,124,32]⟩:ByteArray))++v2)++(⟨#[32,98,121,32]⟩:ByteArray))++v31))] [] 2) (bL (bK k2) bA k4)<|aD<|aU<|aB<|sp h (aR k k k (dF k))) λ_ h=>aG<|aX<|tn<|sQ<|sR<|am k k<|ae (aEU k k) k<|an<|tn<|cJ k h (λ_ h=>sR<|aT k2<|aD<|aB<|sp h (aR k k k (dF k))) λ_ h=>aG<|tn<|sR<|am k k<|cG h λq40 h=>ae (dA k k q40) k<|am k k<|cG h λq39 h=>ae (dA k k q39) k<|aT k2<|sQ<|sR<|fp k8<|lp k8<|cm k4<|an<|tn<|cJ k h (λ_ h=>sR<|am k k<|aT k2<|aO (t:=mN [(2,.str ((((((v1++(⟨#[32]⟩:ByteArray))++v5)++(⟨#[32,124,32]⟩:ByteArray))++v2)++(⟨#[32,97,110,100,32]⟩:ByteArray))++v6))] [] 1) (bL (bK k2) bA k4)<|aD<|aB<|sp h (aR k k k (dF k))) λ_ h=>aG<|tn<|sR<|am k k<|cG h λq38 h=>ae (dA k k q38) k<|fp k8<|fp k8<|lp k8<|fp k8<|lp k8<|oB h λv36 hv36 h=>ae (aE (uQ a0.rep.p a0.maps v36 hv36) k (bN k (bN k aI))) k<|cG h λq37 h=>ae (dA k k q37) k<|aT k2<|aO (t:=mN [(2,.str ((((((((v1++(⟨#[32]⟩:ByteArray))++v5)++(⟨#[32,124,32]⟩:ByteArray))++v2)++(⟨#[32,97,110,100,32]⟩:ByteArray))++v6)++(⟨#[32,98,121,32]⟩:ByteArray))++v36))] [] 1) (bL (bK k2) bA k4)<|aD<|sp h (aR k k k (dF k))
end
noncomputable section
def cl9 (a:Int):Int:=max 0 (min 9 a)
theorem aME (a:Int):0≤cl9 a∧cl9 a≤9:=by unfold cl9;omega
def dg9 (a:Int):List UInt8:=[f8 (48+cl9 a)]
theorem aIv (a:Int):dM [a]=some (lB (dg9 a)):=by
 have e0:min (max a 0) 9=cl9 a:=by unfold cl9;omega
 have e1:fW [a] ([0],0)=some (.inl ([48+cl9 a],1)):=by
  show some (Sum.inl ([0].set (Int.toNat 0) (IntKind.u8.wrap (wr (48+min (max a 0) 9))),wr (0+1)))=_;rw [e0,aOW (aME a)];rfl
 have e2:fW [a] ([48+cl9 a],1)=some (.inr [48+cl9 a]):=rfl;have e3:Lp (fW [a]) (List.replicate ((([a]:List Int).length:Int)).toNat 0,0)=some [48+cl9 a]:=(pC e1).trans (fY e2);unfold dM;rw [e3,aA,aDJ];rfl
theorem aBz (a:Int):bJ (max 0 (min 9 a))=some (lB (dg9 a)):=by
 have h:=aME a;rw [show max 0 (min 9 a)=cl9 a from rfl,aGi h.1 (by omega),aEb (by omega)];unfold dg9 f8;rw [show (48+cl9 a).toNat=48+(cl9 a).toNat by omega]
def brT (b:Br):List UInt8:=dg9 b.first++[45]++dg9 b.last++[120]++dg9 b.count
theorem aJh (b:Br):(brT b).length=5:=rfl
def fbT (l:List Br):List UInt8:=if 1≤l.length∧l.length≤20 then Lib.join (l.map brT) [32] else aLy
theorem aMo {sep:List UInt8} {x:List UInt8} {l:List (List UInt8)} (h:x≠[]):Lib.join (x::l) sep≠[]:=by
 rw [Lib.join_cons];intro e;exact h (List.append_eq_nil_iff.1 e).1
theorem aGl {l:List Br} (k:Nat) (hl:l.length≤20):(Lib.join ((l.map brT).take k) [32]).length ≤120:=by
 have:=aEd (sep:=[32]) (c:=5) (l:=(l.map brT).take k) (λx hx=>by
  obtain ⟨b,_,rfl⟩:=List.mem_map.1 (List.mem_of_mem_take hx)
  exact Nat.le_of_eq (aJh b))
 simp only [List.length_take,eD,List.length_cons,List.length_nil] at this;omega
theorem aJi (l:List Br):(fbT l).length ≤120:=by
 unfold fbT;split
 ·rename_i h;have:=aGl (l:=l) l.length h.2
  rwa [List.take_of_length_le (by simp)] at this
 ·decide
theorem aOX {l:List Br} (hl:l.length≤1048576):mZ l=some (lB (fbT l)):=by
 unfold mZ fbT;rw [sZ,aA];cases hi:sS (l.length:Int) 1 20 with
 |false=>
  have:=aFR hi;rw [aS (by omega)];rfl
 |true=>
  have hb:=kA hi;have hbl:=aGl (l:=l) l.length (by omega);rw [List.take_of_length_le (by simp)] at hbl;rw [aV (by omega),dP,aP];rw [dQ (s:=(([]:List ByteArray),(0:Int))) (r:=(l.map brT).map lB) (λk=>(((l.take k).map brT).map lB,(k:Int))) l.length rfl (λk hk=>?_) (λ_=>?_),aA,l32,yY (by omega) (by simp;omega),aA]
  ·have d1: ∀ a,(dg9 a).length=1:=λ_=>rfl;unfold jL;simp only;rw [iL hk,aL,bP hk,aA,aIv,aA,l45,fG (by simp [d1]),aIv,aA,cA,fG (by simp [d1]),cA,aMA,fG (by simp [d1]),aIv,aA,cA,fG (by simp [d1]),cA,bB (by simp;omega),aL,bW hk (by omega),uV hk,List.map_append,List.map_append];rfl
  ·unfold jL;simp only;rw [kR (bG _),aP,List.take_length]
theorem aOY {l:List Br} (hl:l.length≤1048576):nA l=some (lB (fbT l)):=by
 unfold nA fbT;by_cases h20:l.length≤20
 ·have d1: ∀ a,(dg9 a).length=1:=λ_=>rfl;rw [dQ (s:=((⟨#[]⟩:ByteArray),(0:Int))) (r:=lB (Lib.join (l.map brT) [32])) (λk=>(lB (Lib.join ((l.map brT).take k) [32]),(k:Int))) l.length rfl (λk hk=>?_) (λ_=>?_),aA,l0,vP]
  ·cases l with
   |nil=>rfl
   |cons b r=>
    have hne:Lib.join ((b::r).map brT) [32]≠[]:=aMo (by intro e;have:=congrArg List.length e;rw [aJh] at this;cases this);rw [bU hne,aP,aV ⟨by simp,h20⟩]
  ·have hbl:=aGl (l:=l) k h20;have hkm:k<(l.map brT).length:=by rw [eD];exact hk
   have e1:(l.map brT)[k]=brT l[k]:=by simp
   unfold gH;simp only;rw [iL hk,aL,bB (by omega),aL,aFs hkm,e1];by_cases h0:k=0
   ·subst h0;rw [bU (by omega),aP,bP hk,aA,aBz,aA,fG (by simp only [d1];omega),cA,l45,fG (by simp only [List.length_append,d1,List.length_cons,List.length_nil];omega),aA,aBz,aA,cA,fG (by simp only [List.length_append,d1,List.length_cons,List.length_nil];omega),cA,aMA,fG (by simp only [List.length_append,d1,List.length_cons,List.length_nil];omega),aA,aBz,aA,cA,fG (by simp only [List.length_append,d1,List.length_cons,List.length_nil];omega),cA,bW hk (by omega),aV rfl];simp only [brT,List.append_assoc,List.nil_append]
   ·rw [bB (show (0:Int)<(k:Int) by omega),aL,l32,fG (by simp only [List.length_cons,List.length_nil];omega),bP hk,aA,aBz,aA,cA,fG (by simp only [List.length_append,d1,List.length_cons,List.length_nil];omega),cA,l45,fG (by simp only [List.length_append,d1,List.length_cons,List.length_nil];omega),aA,aBz,aA,cA,fG (by simp only [List.length_append,d1,List.length_cons,List.length_nil];omega),cA,aMA,fG (by simp only [List.length_append,d1,List.length_cons,List.length_nil];omega),aA,aBz,aA,cA,fG (by simp only [List.length_append,d1,List.length_cons,List.length_nil];omega),cA,bW hk (by omega),aS h0];simp only [brT,List.append_assoc]
  ·unfold gH;simp only;rw [kR (bG _),aP,List.take_of_length_le (by simp)]
 ·rw [fY (r:=lB []) ?_,aA,l0,vP,aS (λh=>h20 h.2)]
  ·rfl
  ·unfold gH;simp only;rw [bB (show (0:Int)<(l.length:Int) by omega),aL,bU (by omega),aP];rfl
def mxT (p:Int) (l:List Mt):List UInt8:=if 20<l.length then aLy else if Lib.join (l.map (fmT p)) [32]=[] then aLy else Lib.join (l.map (fmT p)) [32]
theorem aGm {p:Int} {l:List Mt} (k:Nat) (hl:l.length≤20):(Lib.join ((l.map (fmT p)).take k) [32]).length ≤3020:=by
 have:=aEd (sep:=[32]) (c:=150) (l:=(l.map (fmT p)).take k) (λx hx=>by
  obtain ⟨b,_,rfl⟩:=List.mem_map.1 (List.mem_of_mem_take hx)
  exact aBW p b)
 simp only [List.length_take,eD,List.length_cons,List.length_nil] at this;omega
theorem aJk (p:Int) (l:List Mt):(mxT p l).length ≤3020:=by
 unfold mxT;split
 ·decide
 ·split
  ·decide
  ·have:=aGm (p:=p) (l:=l) l.length (by omega)
   rwa [List.take_of_length_le (by simp)] at this
theorem aNH (p:Int) {l:List Mt} (hb: ∀ m∈l,bM m):gR p l=some (lB (mxT p l)):=by
 unfold gR mxT;by_cases h20:20<l.length
 ·rw [bB (by omega),aV h20];rfl
 ·have hbl:=aGm (p:=p) (l:=l) l.length (by omega);rw [List.take_of_length_le (by simp)] at hbl;rw [bU (by omega),aS h20,aP];rw [dQ (s:=(([]:List ByteArray),(0:Int))) (r:=(l.map (fmT p)).map lB) (λk=>(((l.take k).map (fmT p)).map lB,(k:Int))) l.length rfl (λk hk=>?_) (λ_=>?_),aA,l32,yY (by omega) (by simp;omega),aA,l0,vP]
  ·by_cases he:Lib.join (l.map (fmT p)) [32]=[]
   ·rw [bB he,aV he];rfl
   ·rw [bU he,aS he];rfl
  ·unfold gX;simp only;rw [iL hk,aL,bP hk,aA,aND p (hb _ (List.getElem_mem hk)),aA,bB (by simp;omega),aL,bW hk (by omega),uV hk,List.map_append,List.map_append];rfl
  ·unfold gX;simp only;rw [kR (bG _),aP,List.take_length]
theorem aNI (p:Int) {l:List Mt} (hb: ∀ m∈l,bM m):iJ p l=some (lB (mxT p l)):=by
 unfold iJ mxT;by_cases h20:20<l.length
 ·rw [fY (r:=lB []) ?_,aA,l0,vP,aV h20]
  ·rfl
  ·unfold fN;simp only;rw [bB (show (0:Int)<(l.length:Int) by omega),aL,bU (by omega),aP];rfl
 ·rw [aS h20];rw [dQ (s:=((⟨#[]⟩:ByteArray),(0:Int))) (r:=lB (Lib.join (l.map (fmT p)) [32])) (λk=>(lB (Lib.join ((l.map (fmT p)).take k) [32]),(k:Int))) l.length rfl (λk hk=>?_) (λ_=>?_),aA,l0,vP]
  ·by_cases he:Lib.join (l.map (fmT p)) [32]=[]
   ·rw [bB he,aV he];rfl
   ·rw [bU he,aS he];rfl
  ·have hbl:=aGm (p:=p) (l:=l) k (by omega);have hkm:k<(l.map (fmT p)).length:=by rw [eD];exact hk
   have e1:(l.map (fmT p))[k]=fmT p l[k]:=by simp
   have hf:=aBW p l[k];unfold fN;simp only;rw [iL hk,aL,bB (by omega),aL,aFs hkm,e1];by_cases h0:k=0
   ·subst h0;rw [bU (by omega),aP,bP hk,aA,aMB p (hb _ (List.getElem_mem hk)),aA,fG (by omega),cA,bW hk (by omega),aV rfl,List.append_nil]
   ·rw [bB (show (0:Int)<(k:Int) by omega),aL,l32,fG (by simp only [List.length_cons,List.length_nil];omega),bP hk,aA,aMB p (hb _ (List.getElem_mem hk)),aA,cA,fG (by simp only [List.length_append,List.length_cons,List.length_nil];omega),cA,bW hk (by omega),aS h0]
  ·unfold fN;simp only;rw [kR (bG _),aP,List.take_of_length_le (by simp)]
def kwT (k:Int):List UInt8:=if k=1 then [112,97,114,116,115] else if k=2 then [115,97,109,101] else if k=3 then [100,105,102,102,101,114,101,110,116] else if k=4 then [101,120,116,101,110,115,105,111,110] else if k=5 then [98,97,114,115] else if k=6 then [115,108,111,112,101] else []
theorem aNl (k:Int):kP k=some (lB (kwT k))∧oJ k=some (lB (kwT k))∧(kwT k).length ≤9∧(kwT k=[]↔sS k 1 6=false):=by
 unfold kP oJ;rw [sZ,uN];cases hi:sS k 1 6 with
 |false=>
  have:=aFR hi
  have e:kwT k=[]:=by
   unfold kwT;rw [aS (by omega),aS (by omega),aS (by omega),aS (by omega),aS (by omega),aS (by omega)]
  rw [e];exact ⟨rfl,rfl,by simp,by simp⟩
 |true=>
  have:=kA hi;have h:k=1∨k=2∨k=3∨k=4∨k=5∨k=6:=by omega
  rcases h with rfl|rfl|rfl|rfl|rfl|rfl <;> exact ⟨rfl,rfl,by decide,by decide⟩
end
noncomputable section
set_option maxRecDepth 10000
set_option maxHeartbeats 4000000
def sJ (a0:(List Br)) (a1:Int):Option Int:=
 bif decide (wr (a1 - (a0.length:Int))<0) then
 (some ((-1)))
 else
 (some (wr (a1 - (a0.length:Int))))
theorem aEx (a0:(List Br)) (a1:Int) (r:Int) (h:sJ a0 a1=some r):HasC Tryz.prog 44 [.list 3 (a0.map eB),.int a1] (.int r):=by
 exact hM [.tmp 4] Tryz.func44 Tryz.ntmps44 k<|sR<|aT k2<|sR<|am k k<|am k k<|ln k4<|ae (oY k k) k<|aT k2<|sQ<|sR<|am k k<|cm k4<|an<|tn<|cJ k h (λ_ h=>sR<|aT k2<|aD<|aB<|uT h k2) λ_ h=>aG<|tn<|sR<|am k k<|aT k2<|aD<|uT h k2
def uR (a0:Cl) (a1:Int):Option Int:=
 (qX a0.rep a1).bind λv1=>
 bif decide (v1<0) then
 (some ((-1)))
 else
 ((qX a0.other v1).bind λv3=>
 bif decide (v3<0) then
 (some ((-1)))
 else
 ((sA a0.parts v3).bind λv5=>
 bif decide (v5<0) then
 (some ((-1)))
 else
 ((kG a0.maps v5).bind λv7=>
 bif decide (v7<0) then
 (some ((-1)))
 else
 ((sJ a0.bars v7).bind λv9=>
 bif decide (v9<0) then
 (some ((-1)))
 else
 ((fB a0.theta v9).bind λv11=>
 bif decide (v11<0) then
 (some ((-1)))
 else
 ((pQ a0.subs v11).bind λv13=>
 bif decide (v13<0) then
 (some ((-1)))
 else
 (some (v13))))))))
theorem aEf (a0:Cl) (a1:Int) (r:Int) (h:uR a0 a1=some r):HasC Tryz.prog 12 [.agg (eC a0),.int a1] (.int r):=by
 refine hM [.tmp 4] Tryz.func12 Tryz.ntmps12 k<|sR<|ae (wb k) k<|aT k2<|sR<|fp k8<|lp k8<|am k k<|oB h λv1 hv1 h=>ae (aE (xH a0.rep a1 v1 hv1) k (aN (iV k) (bN k aI))) k<|aT k2<|sQ<|sR<|am k k<|cm k4<|an<|tn<|cJ k h (λ_ h=>sR<|aT k2<|aD<|aB<|uT h k2) λ_ h=>?_;refine aG<|tn<|sR<|fp k8<|lp k8<|am k k<|oB h λv3 hv3 h=>ae (aE (xH a0.other v1 v3 hv3) k (aN (iV k) (bN k aI))) k<|aT k2<|sQ<|sR<|am k k<|cm k4<|an<|tn<|cJ k h (λ_ h=>sR<|aT k2<|aD<|aB<|uT h k2) λ_ h=>?_;exact aG<|tn<|sR<|fp k8<|lp k8<|am k k<|oB h λv5 hv5 h=>ae (aE (aEn a0.parts v3 v5 hv5) k (bN k (bN k aI))) k<|aT k2<|sQ<|sR<|am k k<|cm k4<|an<|tn<|cJ k h (λ_ h=>sR<|aT k2<|aO (t:=mN [(4,.int (-1))] [] 1) (bL (bK k2) bA k4)<|aD<|aB<|uT h k2) λ_ h=>aG<|tn<|sR<|fp k8<|lp k8<|am k k<|oB h λv7 hv7 h=>ae (aE (wI a0.maps v5 v7 hv7) k (bN k (bN k aI))) k<|aT k2<|aO (t:=mN [(1,.int v7),(2,.ptr 0 0 0)] [(0,⟨18,[eC a0]⟩)] 1) (bL (bK k2) (cP k<|bA) k4)<|sQ<|sR<|am k k<|cm k4<|an<|tn<|cJ k h (λ_ h=>sR<|aT k2<|aD<|aB<|uT h k2) λ_ h=>aG<|tn<|sR<|fp k8<|lp k8<|am k k<|oB h λv9 hv9 h=>ae (aE (aEx a0.bars v7 v9 hv9) k (bN k (bN k aI))) k<|aT k2<|sQ<|sR<|am k k<|cm k4<|an<|tn<|cJ k h (λ_ h=>sR<|aT k2<|aD<|aB<|uT h k2) λ_ h=>aG<|tn<|sR<|fp k8<|lp k8<|am k k<|oB h λv11 hv11 h=>ae (aE (lV a0.theta v9 v11 hv11) k (bN k (bN k aI))) k<|aT k2<|sQ<|sR<|am k k<|cm k4<|an<|tn<|cJ k h (λ_ h=>sR<|aT k2<|aD<|aB<|uT h k2) λ_ h=>aG<|tn<|sR<|fp k8<|lp k8<|am k k<|oB h λv13 hv13 h=>ae (aE (aCf a0.subs v11 v13 hv13) k (bN k (bN k aI))) k<|aT k2<|sQ<|sR<|am k k<|cm k4<|an<|tn<|cJ k h (λ_ h=>sR<|aT k2<|aO (t:=mN [(4,.int (-1))] [] 1) (bL (bK k2) bA k4)<|aD<|aB<|uT h k2) λ_ h=>aG<|tn<|sR<|am k k<|aT k2<|aD<|uT h k2
def xR (a0:Br):Option Br:=
 some (a0)
theorem aGn (a0:Br) (r:Br) (h:xR a0=some r):HasC Tryz.prog 121 [.agg (eB a0)] (.agg (eB r)):=by
 refine hM [.cell 2 106] Tryz.func121 Tryz.ntmps121 k<|sR<|ae (wb k) k<|ae (cH aQ k k) k<|an<|tn<|sR<|ae (cH aQ k k) k<|an<|tn<|sR<|fp k8<|lp k8<|fp k8<|ae (ws k) k<|an<|tn<|sR<|fp k8<|lp k8<|fp k8<|ae (ws k) k<|an<|tn<|sR ?_;exact fp k8<|lp k8<|fp k8<|ae (ws k) k<|an<|tn<|sR<|lp k8<|ae (ws k) k<|an<|tn<|aD<|sp h (aR k k k (mA (aZ (k) (aZ (k) (aZ (k) fH)))))
def oN (a0:(List Br)) (x1:((List Br)×Int)):Option (((List Br)×Int) ⊕ (List Br)):=
 bif decide (x1.2<(a0.length:Int)) then
 ((dL a0 x1.2).bind λv2=>
 (xR v2).bind λv3=>
 (dL x1.1 x1.2).bind λv4=>
 some (.inl ((x1.1.set x1.2.toNat v3),wr (x1.2+1))))
 else
 (some (.inr x1.1))
def sK (a0:(List Br)):Option (List Br):=
 bif (decide (0≤(a0.length:Int))&&decide ((a0.length:Int)≤1048576)) then
 ((Lp (oN a0) ((List.replicate ((a0.length:Int).toNat) ((⟨0,0,0⟩:Br):Br)),0)).bind λy5=>
 some (y5))
 else none
theorem aEy (a0:(List Br)) (r:(List Br)) (h:sK a0=some r):HasC Tryz.prog 55 [.list 3 (a0.map eB)] (.list 3 (r.map eB)):=by
 refine hM [.tmp 2] Tryz.func55 Tryz.ntmps55 k<|sR<|aT k2<|sR<|am k k<|ln k4<|cG h λq6 h=>ae (xF aQ q6 k k k k k k k k) k<|aT k2<|aO (t:=mN [(0,.list 3 (a0.map eB)),(3,.own 0 0 ((List.replicate ((a0.length:Int).toNat) ((⟨0,0,0⟩:Br):Br)).length))] [(0,⟨3,List.map (ow eB) (List.replicate ((a0.length:Int).toNat) ((⟨0,0,0⟩:Br):Br))⟩)] 1) (bL (xU 1 k2 (vE ⟨_,k,⟨k,k,(by simp only [bF,lA,lT,lR,lC,lN]),k⟩⟩ bA)) (hX ⟨_,k,k,.inl ⟨aDo (e:=eB) (z:=(⟨0,0,0⟩:Br)) _,aAX.plainO _⟩⟩ k<|bA) k4)<|sQ<|sR<|aT k2<|aH<|oB h λy5 hy5 h=>bX (body:=(oN a0)) hy5 (λ(x1:((List Br)×Int))=>mN [(0,.list 3 (a0.map eB)),(3,.own 0 0 x1.1.length),(4,.int x1.2)] [(0,⟨3,x1.1.map (ow eB)⟩)] 1) (λr e t=>e= .exit 0∧Ent t (mN [(3,.own 0 0 r.length)] [(0,⟨3,r.map (ow eB)⟩)] 1)) (bL (bK k2) (sU (aAX.plainO _) k<|bA) k4) ?_ ?_
 ·intro x1 o h;exact sQ<|sR<|am k k<|am k k<|ln k4<|cm k4<|an<|tn<|cJ k h (λ_ h=>aG<|tn<|sQ<|aH<|rg<|am k k<|am k k<|am k k<|am k k<|oB h λv2 hv2 h=>ae (xl hv2 k) k<|lr k7<|oB h λv3 hv3 h=>ae (AEff.conv (mH (x:= .agg [.int v3.first,.int v3.last,.int v3.count]) (nb:=[]) (aGn v2 v3 hv3) k (by rfl) k k (bE bA (bE bA (bE bA tH))) (aN (iV k) aI)) (v':= .agg (eB v3)) (ed':=[]) k (vD (nb':=[]) k)) k<|oB h λv4 hv4 h=>ae (xo hv4 k) k<|ae (mI aQ (aAX.own λ_=>k) (u:=v3) (iK hv4) k k k k k k) k<|an<|aX<|tn<|rg<|am k k<|ae (bH k k) k<|aT k2<|sp h ⟨_,k,(bL (xU 1 k2 (vE ⟨_,k,⟨k,k,(by simp only [bF,lA,lT,lR,lC,lN]),k⟩⟩ (bK k2))) (sU (aAX.plainO _) k<|bA) k4)⟩) λ_ h=>aY<|aC<|aC<|sp h ⟨_,k,k,(bL (bK k2) (sU (aAX.plainO _) k<|bA) k4)⟩
 ·rintro e t ⟨rfl,hent⟩;exact aM<|tn<|aO hent<|sR<|am k k<|aT k2<|aD<|sp h (aR k k k (nM (fK aAX k k)))
def kQ (a0:Cl):Option Cl:=
 (nW a0.rep).bind λv1=>
 (nW a0.other).bind λv2=>
 (sB a0.parts).bind λv3=>
 (kH a0.maps).bind λv4=>
 (sK a0.bars).bind λv5=>
 (gA a0.theta).bind λv6=>
 (pR a0.subs).bind λv7=>
 some ((⟨a0.kind,v1,v2,v3,v4,v5,v6,v7⟩:Cl))
theorem uS (a0:Cl) (r:Cl) (h:kQ a0=some r):HasC Tryz.prog 14 [.agg (eC a0)] (.agg (eC r)):=by
 refine hM [.cell 2 52] Tryz.func14 Tryz.ntmps14 k<|sR<|ae (wb k) k<|ae (cH aQ k k) k<|an<|tn<|sR<|ae (cH aQ k k) k<|an<|tn<|sR<|fp k8<|lp k8<|fp k8<|ae (ws k) k<|an<|tn<|sR<|fp k8<|lp k8<|oB h λv1 hv1 h=>ae (cR (xI a0.rep v1 hv1) k3 (aN (iV k) aI)) k<|fp k8<|ae (ws k) k<|an<|tn<|sQ ?_;refine rg<|fp k8<|lp k8<|oB h λv2 hv2 h=>ae (cR (xI a0.other v2 hv2) k3 (aN (iV k) aI)) k<|fp k8<|ae (ws k) k<|an<|tn<|sR<|fp k8<|lp k8<|oB h λv3 hv3 h=>ae (cL aAW (aEo a0.parts v3 hv3) k3 (bN k aI)) k<|fp k8<|ae (ws k) k<|an<|tn<|sR<|fp k8<|lp k8<|oB h λv4 hv4 h=>ae (cL lM (wJ a0.maps v4 hv4) k3 (bN k aI)) k<|fp k8<|ae (ws k) k<|an<|tn<|aO (t:=mN [(1,.ptr 0 0 0),(2,.ptr 1 0 0),(3,.ptr 2 0 0)] [(0,⟨18,[eC a0]⟩),(1,⟨18,[[.int 0,.int 0,.int 0,.nil 1,.nil 1,.nil 1,.nil 3,.int 0,.int 0,.nil 1,.nil 1,.nil 1,.nil 3,.nil 6,.nil 3,.nil 3,.nil 1,.nil 2]]⟩),(2,⟨18,[[.int a0.kind,.int v1.p,.int v1.q.n,.own 3 0 v1.q.src.length,.own 4 0 v1.q.tgt.length,.own 5 0 v1.dims.length,.own 6 0 v1.maps.length,.int v2.p,.int v2.q.n,.own 7 0 v2.q.src.length,.own 8 0 v2.q.tgt.length,.own 9 0 v2.dims.length,.own 10 0 v2.maps.length,.own 11 0 v3.length,.own 12 0 v4.length,.nil 3,.nil 1,.nil 2]]⟩),(3,⟨1,v1.q.src.map (ow eI)⟩),(4,⟨1,v1.q.tgt.map (ow eI)⟩),(5,⟨1,v1.dims.map (ow eI)⟩),(6,⟨3,v1.maps.map (ow eM)⟩),(7,⟨1,v2.q.src.map (ow eI)⟩),(8,⟨1,v2.q.tgt.map (ow eI)⟩),(9,⟨1,v2.dims.map (ow eI)⟩),(10,⟨3,v2.maps.map (ow eM)⟩),(11,⟨6,v3.map (ow eR)⟩),(12,⟨3,v4.map (ow eM)⟩)] 13) (bL (bK k2) (cP k<|cP k<|nO k<|dJ k<|dJ k<|dJ k<|sU (lM.plainO _) k<|dJ k<|dJ k<|dJ k<|sU (lM.plainO _) k<|sU (aAW.plainO _) k<|sU (lM.plainO _) k<|bA) k4)<|sR<|fp k8 ?_;refine lp k8<|oB h λv5 hv5 h=>ae (cL aAX (aEy a0.bars v5 hv5) k3 (bN k aI)) k<|fp k8<|ae (ws k) k<|an<|tn<|sR<|fp k8<|lp k8<|oB h λv6 hv6 h=>ae (cL dH (lW a0.theta v6 hv6) k3 (bN k aI)) k<|fp k8<|ae (ws k) k<|an<|tn<|sR<|fp k8<|lp k8<|oB h λv7 hv7 h=>ae (cL aBG (aCg a0.subs v7 hv7) k3 (bN k aI)) k<|fp k8<|ae (ws k) k<|an<|tn<|sR<|lp k8<|ae (ws k) k<|an<|tn ?_;exact aD<|sp h (aR k k k (mA (aZ (k) (aZ (k) (aZ (k) (aZ (fK dH k k) (aZ (fK dH k k) (aZ (fK dH k k) (aZ (fK lM k k) (aZ (k) (aZ (k) (aZ (fK dH k k) (aZ (fK dH k k) (aZ (fK dH k k) (aZ (fK lM k k) (aZ (fK aAW k k) (aZ (fK lM k k) (aZ (fK aAX k k) (aZ (fK dH k k) (aZ (fK aBG k k) fH))))))))))))))))))))
def iU (a0:Cl):Option Bool:=
 (uR a0 1048576).bind λv1=>
 bif decide (v1<0) then
 (some (true))
 else
 ((kQ a0).bind λv3=>
 (lL v3).bind λv4=>
 (kQ a0).bind λv5=>
 (lK v5).bind λv6=>
 bif !eqS v6 v4 then
 (some (false))
 else
 ((kQ a0).bind λv8=>
 (rK v5 v8).bind λv9=>
 bif !v9 then
 (some (false))
 else
 (some (true))))
theorem uU (a0:Cl) (r:Bool) (h:iU a0=some r):HasC Tryz.prog 4 [.agg (eC a0)] (.bl r):=by
 refine hM [.tmp 2] Tryz.func4 Tryz.ntmps4 k<|sR<|ae (wb k) k<|aT k2<|sR<|aT k2<|sR<|lp k8<|am k k<|oB h λv1 hv1 h=>ae (aE (aEf a0 1048576 v1 hv1) k (aN (iV k) (bN k aI))) k<|aT k2<|sQ<|sR<|am k k<|cm k4<|an<|tn<|cJ k h (λ_ h=>sR<|aT k2<|aD<|aB<|eJ h k2) λ_ h=>?_;refine aG<|tn<|sR<|lp k8<|oB h λv3 hv3 h=>ae (AEff.conv (mH (x:= .agg [.int v3.kind,.int v3.rep.p,.int v3.rep.q.n,.own 1 0 (v3.rep.q.src.map eI).length,.own 2 0 (v3.rep.q.tgt.map eI).length,.own 3 0 (v3.rep.dims.map eI).length,.own 4 0 (v3.rep.maps.map eM).length,.int v3.other.p,.int v3.other.q.n,.own 5 0 (v3.other.q.src.map eI).length,.own 6 0 (v3.other.q.tgt.map eI).length,.own 7 0 (v3.other.dims.map eI).length,.own 8 0 (v3.other.maps.map eM).length,.own 9 0 (v3.parts.map eR).length,.own 10 0 (v3.maps.map eM).length,.own 11 0 (v3.bars.map eB).length,.own 12 0 (v3.theta.map eI).length,.own 13 0 (v3.subs.map eS).length]) (nb:=[(1,⟨1,cN (v3.rep.q.src.map eI)⟩),(2,⟨1,cN (v3.rep.q.tgt.map eI)⟩),(3,⟨1,cN (v3.rep.dims.map eI)⟩),(4,⟨3,cN (v3.rep.maps.map eM)⟩),(5,⟨1,cN (v3.other.q.src.map eI)⟩),(6,⟨1,cN (v3.other.q.tgt.map eI)⟩),(7,⟨1,cN (v3.other.dims.map eI)⟩),(8,⟨3,cN (v3.other.maps.map eM)⟩),(9,⟨6,cN (v3.parts.map eR)⟩),(10,⟨3,cN (v3.maps.map eM)⟩),(11,⟨3,cN (v3.bars.map eB)⟩),(12,⟨1,cN (v3.theta.map eI)⟩),(13,⟨2,cN (v3.subs.map eS)⟩)]) (uS a0 v3 hv3) k (by rfl) k k (bE bA (bE bA (bE bA (bE (dH.good _) (bE (dH.good _) (bE (dH.good _) (bE (lM.good _) (bE bA (bE bA (bE (dH.good _) (bE (dH.good _) (bE (dH.good _) (bE (lM.good _) (bE (aAW.good _) (bE (lM.good _) (bE (aAX.good _) (bE (dH.good _) (bE (aBG.good _) tH)))))))))))))))))) (aN (iV k) aI)) (v':= .agg [.int v3.kind,.int v3.rep.p,.int v3.rep.q.n,.own 1 0 v3.rep.q.src.length,.own 2 0 v3.rep.q.tgt.length,.own 3 0 v3.rep.dims.length,.own 4 0 v3.rep.maps.length,.int v3.other.p,.int v3.other.q.n,.own 5 0 v3.other.q.src.length,.own 6 0 v3.other.q.tgt.length,.own 7 0 v3.other.dims.length,.own 8 0 v3.other.maps.length,.own 9 0 v3.parts.length,.own 10 0 v3.maps.length,.own 11 0 v3.bars.length,.own 12 0 v3.theta.length,.own 13 0 v3.subs.length]) (ed':=[(1,some ⟨1,v3.rep.q.src.map (ow eI)⟩),(2,some ⟨1,v3.rep.q.tgt.map (ow eI)⟩),(3,some ⟨1,v3.rep.dims.map (ow eI)⟩),(4,some ⟨3,v3.rep.maps.map (ow eM)⟩),(5,some ⟨1,v3.other.q.src.map (ow eI)⟩),(6,some ⟨1,v3.other.q.tgt.map (ow eI)⟩),(7,some ⟨1,v3.other.dims.map (ow eI)⟩),(8,some ⟨3,v3.other.maps.map (ow eM)⟩),(9,some ⟨6,v3.parts.map (ow eR)⟩),(10,some ⟨3,v3.maps.map (ow eM)⟩),(11,some ⟨3,v3.bars.map (ow eB)⟩),(12,some ⟨1,v3.theta.map (ow eI)⟩),(13,some ⟨2,v3.subs.map (ow eS)⟩)]) (by simp only [bF]) (vD (nb':=[(1,⟨1,v3.rep.q.src.map (ow eI)⟩),(2,⟨1,v3.rep.q.tgt.map (ow eI)⟩),(3,⟨1,v3.rep.dims.map (ow eI)⟩),(4,⟨3,v3.rep.maps.map (ow eM)⟩),(5,⟨1,v3.other.q.src.map (ow eI)⟩),(6,⟨1,v3.other.q.tgt.map (ow eI)⟩),(7,⟨1,v3.other.dims.map (ow eI)⟩),(8,⟨3,v3.other.maps.map (ow eM)⟩),(9,⟨6,v3.parts.map (ow eR)⟩),(10,⟨3,v3.maps.map (ow eM)⟩),(11,⟨3,v3.bars.map (ow eB)⟩),(12,⟨1,v3.theta.map (ow eI)⟩),(13,⟨2,v3.subs.map (ow eS)⟩)]) (by simp only [nK]))) k<|oB h λv4 hv4 h=>ae (aE (aAj v3 v4 hv4) k (aN (xB (bD (dK k) (bD (dK k) (bD (dK k) (bD (fJ dH k k) (bD (fJ dH k k) (bD (fJ dH k k) (bD (fJ lM k k) (bD (dK k) (bD (dK k) (bD (fJ dH k k) (bD (fJ dH k k) (bD (fJ dH k k) (bD (fJ lM k k) (bD (fJ aAW k k) (bD (fJ lM k k) (bD (fJ aAX k k) (bD (fJ dH k k) (bD (fJ aBG k k) tF))))))))))))))))))) aI)) k<|aT k2<|sR<|lp k8<|oB h λv5 hv5 h=>ae (AEff.conv (mH (x:= .agg [.int v5.kind,.int v5.rep.p,.int v5.rep.q.n,.own 14 0 (v5.rep.q.src.map eI).length,.own 15 0 (v5.rep.q.tgt.map eI).length,.own 16 0 (v5.rep.dims.map eI).length,.own 17 0 (v5.rep.maps.map eM).length,.int v5.other.p,.int v5.other.q.n,.own 18 0 (v5.other.q.src.map eI).length,.own 19 0 (v5.other.q.tgt.map eI).length,.own 20 0 (v5.other.dims.map eI).length,.own 21 0 (v5.other.maps.map eM).length,.own 22 0 (v5.parts.map eR).length,.own 23 0 (v5.maps.map eM).length,.own 24 0 (v5.bars.map eB).length,.own 25 0 (v5.theta.map eI).length,.own 26 0 (v5.subs.map eS).length]) (nb:=[(14,⟨1,cN (v5.rep.q.src.map eI)⟩),(15,⟨1,cN (v5.rep.q.tgt.map eI)⟩),(16,⟨1,cN (v5.rep.dims.map eI)⟩),(17,⟨3,cN (v5.rep.maps.map eM)⟩),(18,⟨1,cN (v5.other.q.src.map eI)⟩),(19,⟨1,cN (v5.other.q.tgt.map eI)⟩),(20,⟨1,cN (v5.other.dims.map eI)⟩),(21,⟨3,cN (v5.other.maps.map eM)⟩),(22,⟨6,cN (v5.parts.map eR)⟩),(23,⟨3,cN (v5.maps.map eM)⟩),(24,⟨3,cN (v5.bars.map eB)⟩),(25,⟨1,cN (v5.theta.map eI)⟩),(26,⟨2,cN (v5.subs.map eS)⟩)]) (uS a0 v5 hv5) k (by rfl) k k (bE bA (bE bA (bE bA (bE (dH.good _) (bE (dH.good _) (bE (dH.good _) (bE (lM.good _) (bE bA (bE bA (bE (dH.good _) (bE (dH.good _) (bE (dH.good _) (bE (lM.good _) (bE (aAW.good _) (bE (lM.good _) (bE (aAX.good _) (bE (dH.good _) (bE (aBG.good _) tH)))))))))))))))))) (aN (iV k) aI)) (v':= .agg [.int v5.kind,.int v5.rep.p,.int v5.rep.q.n,.own 14 0 v5.rep.q.src.length,.own 15 0 v5.rep.q.tgt.length,.own 16 0 v5.rep.dims.length,.own 17 0 v5.rep.maps.length,.int v5.other.p,.int v5.other.q.n,.own 18 0 v5.other.q.src.length,.own 19 0 v5.other.q.tgt.length,.own 20 0 v5.other.dims.length,.own 21 0 v5.other.maps.length,.own 22 0 v5.parts.length,.own 23 0 v5.maps.length,.own 24 0 v5.bars.length,.own 25 0 v5.theta.length,.own 26 0 v5.subs.length]) (ed':=[(14,some ⟨1,v5.rep.q.src.map (ow eI)⟩),(15,some ⟨1,v5.rep.q.tgt.map (ow eI)⟩),(16,some ⟨1,v5.rep.dims.map (ow eI)⟩),(17,some ⟨3,v5.rep.maps.map (ow eM)⟩),(18,some ⟨1,v5.other.q.src.map (ow eI)⟩),(19,some ⟨1,v5.other.q.tgt.map (ow eI)⟩),(20,some ⟨1,v5.other.dims.map (ow eI)⟩),(21,some ⟨3,v5.other.maps.map (ow eM)⟩),(22,some ⟨6,v5.parts.map (ow eR)⟩),(23,some ⟨3,v5.maps.map (ow eM)⟩),(24,some ⟨3,v5.bars.map (ow eB)⟩),(25,some ⟨1,v5.theta.map (ow eI)⟩),(26,some ⟨2,v5.subs.map (ow eS)⟩)]) (by simp only [bF]) (vD (nb':=[(14,⟨1,v5.rep.q.src.map (ow eI)⟩),(15,⟨1,v5.rep.q.tgt.map (ow eI)⟩),(16,⟨1,v5.rep.dims.map (ow eI)⟩),(17,⟨3,v5.rep.maps.map (ow eM)⟩),(18,⟨1,v5.other.q.src.map (ow eI)⟩),(19,⟨1,v5.other.q.tgt.map (ow eI)⟩),(20,⟨1,v5.other.dims.map (ow eI)⟩),(21,⟨3,v5.other.maps.map (ow eM)⟩),(22,⟨6,v5.parts.map (ow eR)⟩),(23,⟨3,v5.maps.map (ow eM)⟩),(24,⟨3,v5.bars.map (ow eB)⟩),(25,⟨1,v5.theta.map (ow eI)⟩),(26,⟨2,v5.subs.map (ow eS)⟩)]) (by simp only [nK]))) k ?_;refine ae (cH aQ k k) k<|ae (ws k) k<|an<|tn<|sR<|lp k8<|oB h λv6 hv6 h=>ae (aE (aAi v5 v6 hv6) k (aN (xB (bD (dK k) (bD (dK k) (bD (dK k) (bD (fJ dH k k) (bD (fJ dH k k) (bD (fJ dH k k) (bD (fJ lM k k) (bD (dK k) (bD (dK k) (bD (fJ dH k k) (bD (fJ dH k k) (bD (fJ dH k k) (bD (fJ lM k k) (bD (fJ aAW k k) (bD (fJ lM k k) (bD (fJ aAX k k) (bD (fJ dH k k) (bD (fJ aBG k k) tF))))))))))))))))))) aI)) k<|aT k2<|sQ<|sR<|am k k<|am k k<|ae (aOU k k) k<|an<|tn<|cJ k h (λ_ h=>sR<|aT k2<|aO (t:=mN [(2,.bl false)] [] 28) (bL (bK k2) bA k4)<|aD<|aB<|eJ h k2) λ_ h=>?_;exact aG<|tn<|sQ<|sQ<|aW jN<|lp k8<|lp k8<|oB h λv8 hv8 h=>ae (AEff.conv (mH (x:= .agg [.int v8.kind,.int v8.rep.p,.int v8.rep.q.n,.own 28 0 (v8.rep.q.src.map eI).length,.own 29 0 (v8.rep.q.tgt.map eI).length,.own 30 0 (v8.rep.dims.map eI).length,.own 31 0 (v8.rep.maps.map eM).length,.int v8.other.p,.int v8.other.q.n,.own 32 0 (v8.other.q.src.map eI).length,.own 33 0 (v8.other.q.tgt.map eI).length,.own 34 0 (v8.other.dims.map eI).length,.own 35 0 (v8.other.maps.map eM).length,.own 36 0 (v8.parts.map eR).length,.own 37 0 (v8.maps.map eM).length,.own 38 0 (v8.bars.map eB).length,.own 39 0 (v8.theta.map eI).length,.own 40 0 (v8.subs.map eS).length]) (nb:=[(28,⟨1,cN (v8.rep.q.src.map eI)⟩),(29,⟨1,cN (v8.rep.q.tgt.map eI)⟩),(30,⟨1,cN (v8.rep.dims.map eI)⟩),(31,⟨3,cN (v8.rep.maps.map eM)⟩),(32,⟨1,cN (v8.other.q.src.map eI)⟩),(33,⟨1,cN (v8.other.q.tgt.map eI)⟩),(34,⟨1,cN (v8.other.dims.map eI)⟩),(35,⟨3,cN (v8.other.maps.map eM)⟩),(36,⟨6,cN (v8.parts.map eR)⟩),(37,⟨3,cN (v8.maps.map eM)⟩),(38,⟨3,cN (v8.bars.map eB)⟩),(39,⟨1,cN (v8.theta.map eI)⟩),(40,⟨2,cN (v8.subs.map eS)⟩)]) (uS a0 v8 hv8) k (by rfl) k k (bE bA (bE bA (bE bA (bE (dH.good _) (bE (dH.good _) (bE (dH.good _) (bE (lM.good _) (bE bA (bE bA (bE (dH.good _) (bE (dH.good _) (bE (dH.good _) (bE (lM.good _) (bE (aAW.good _) (bE (lM.good _) (bE (aAX.good _) (bE (dH.good _) (bE (aBG.good _) tH)))))))))))))))))) (aN (iV k) aI)) (v':= .agg [.int v8.kind,.int v8.rep.p,.int v8.rep.q.n,.own 28 0 v8.rep.q.src.length,.own 29 0 v8.rep.q.tgt.length,.own 30 0 v8.rep.dims.length,.own 31 0 v8.rep.maps.length,.int v8.other.p,.int v8.other.q.n,.own 32 0 v8.other.q.src.length,.own 33 0 v8.other.q.tgt.length,.own 34 0 v8.other.dims.length,.own 35 0 v8.other.maps.length,.own 36 0 v8.parts.length,.own 37 0 v8.maps.length,.own 38 0 v8.bars.length,.own 39 0 v8.theta.length,.own 40 0 v8.subs.length]) (ed':=[(28,some ⟨1,v8.rep.q.src.map (ow eI)⟩),(29,some ⟨1,v8.rep.q.tgt.map (ow eI)⟩),(30,some ⟨1,v8.rep.dims.map (ow eI)⟩),(31,some ⟨3,v8.rep.maps.map (ow eM)⟩),(32,some ⟨1,v8.other.q.src.map (ow eI)⟩),(33,some ⟨1,v8.other.q.tgt.map (ow eI)⟩),(34,some ⟨1,v8.other.dims.map (ow eI)⟩),(35,some ⟨3,v8.other.maps.map (ow eM)⟩),(36,some ⟨6,v8.parts.map (ow eR)⟩),(37,some ⟨3,v8.maps.map (ow eM)⟩),(38,some ⟨3,v8.bars.map (ow eB)⟩),(39,some ⟨1,v8.theta.map (ow eI)⟩),(40,some ⟨2,v8.subs.map (ow eS)⟩)]) (by simp only [bF]) (vD (nb':=[(28,⟨1,v8.rep.q.src.map (ow eI)⟩),(29,⟨1,v8.rep.q.tgt.map (ow eI)⟩),(30,⟨1,v8.rep.dims.map (ow eI)⟩),(31,⟨3,v8.rep.maps.map (ow eM)⟩),(32,⟨1,v8.other.q.src.map (ow eI)⟩),(33,⟨1,v8.other.q.tgt.map (ow eI)⟩),(34,⟨1,v8.other.dims.map (ow eI)⟩),(35,⟨3,v8.other.maps.map (ow eM)⟩),(36,⟨6,v8.parts.map (ow eR)⟩),(37,⟨3,v8.maps.map (ow eM)⟩),(38,⟨3,v8.bars.map (ow eB)⟩),(39,⟨1,v8.theta.map (ow eI)⟩),(40,⟨2,v8.subs.map (ow eS)⟩)]) (by simp only [nK]))) k<|oB h λv9 hv9 h=>ae (aE (aEe v5 v8 v9 hv9) k (aN (xB (bD (dK k) (bD (dK k) (bD (dK k) (bD (fJ dH k k) (bD (fJ dH k k) (bD (fJ dH k k) (bD (fJ lM k k) (bD (dK k) (bD (dK k) (bD (fJ dH k k) (bD (fJ dH k k) (bD (fJ dH k k) (bD (fJ lM k k) (bD (fJ aAW k k) (bD (fJ lM k k) (bD (fJ aAX k k) (bD (fJ dH k k) (bD (fJ aBG k k) tF))))))))))))))))))) (aN (xB (bD (dK k) (bD (dK k) (bD (dK k) (bD (fJ dH k k) (bD (fJ dH k k) (bD (fJ dH k k) (bD (fJ lM k k) (bD (dK k) (bD (dK k) (bD (fJ dH k k) (bD (fJ dH k k) (bD (fJ dH k k) (bD (fJ lM k k) (bD (fJ aAW k k) (bD (fJ lM k k) (bD (fJ aAX k k) (bD (fJ dH k k) (bD (fJ aBG k k) tF))))))))))))))))))) aI))) k<|ae (cK k) k<|an<|tU (by kernel_rfl)<|tn<|aO (t:=mN [(26,.bl (!v9))] [] 41) (bL (bK k2) bA k4)<|cJ k h (λ_ h=>sR<|aT k2<|aD<|aB<|eJ h k2) λ_ h=>aG<|tn<|sR<|aT k2<|aD<|eJ h k2
end
noncomputable section
theorem aGo (sep:List UInt8) (a b:List (List UInt8)):Lib.joinTail sep (a++b)=Lib.joinTail sep a++Lib.joinTail sep b:=by simp [Lib.joinTail]
def fcB (c:Cl):List UInt8:=kwT c.kind++[32]++fqX c.rep.q++[32,124,32]++frT c.rep
def pT (l:List Rp):List UInt8:=Lib.joinTail [32] (l.map λr=>uE r.dims)
def fcT (c:Cl):List UInt8:=
 if sS c.kind 1 6=false then [] else if mB c.rep=false then [] else
 if c.kind=1 then (if 8<c.parts.length then [] else if c.parts.all mB=true then fcB c++[32,105,110,116,111]++pT c.parts++[32,98,121,32]++mxT c.rep.p c.maps else [])
 else if c.kind=5 then fcB c++[32,104,97,115,32]++fbT c.bars
 else if c.kind=6 then (if aBx c.rep c.subs=true then fcB c++[32,98,121,32]++uE (qG c.subs) else [])
 else if mB c.other=false then [] else if c.kind=3 then fcB c++[32,97,110,100,32]++frT c.other else fcB c++[32,97,110,100,32]++frT c.other++[32,98,121,32]++mxT c.rep.p c.maps
theorem aOZ {l:List Rp} (hl:l.length≤1048576) (hb: ∀ r∈l,bR r):cY l (λb0=>dY b0)=some (!(l.all mB)):=by
 have key: ∀ (d i:Nat),i+d=l.length→ ∃ z:Unit ⊕ Int,Lp (bV l (λb0=>dY b0)) (i:Int)=some z∧(((l.drop i).all mB=true∧z= .inl ())∨((l.drop i).all mB=false∧ ∃ k:Nat,z= .inr (k:Int))):=by
  intro d;induction d with
  |zero=>
   intro i hi;refine ⟨.inl (),fY ?_,.inl ⟨by rw [List.drop_of_length_le (by omega)];rfl,rfl⟩⟩;unfold bV;rw [kR (by omega),aP]
  |succ d ih=>
   intro i hi;have hil:i<l.length:=by omega
   have hr:=wO (hb _ (List.getElem_mem hil))
   have hbody:bV l (λb0=>dY b0) (i:Int)=some (bif !(mB l[i]) then .inr (.inr (i:Int)) else .inl ((i+1:Nat):Int)):=by
    unfold bV dY;rw [iL hil,aL,bP hil,aA];simp only [hr,aA];rw [bW hil (by omega)];cases mB l[i] <;> rfl
   rw [List.drop_eq_getElem_cons hil,List.all_cons];cases hv:mB l[i] with
   |false=>
    rw [hv] at hbody;exact ⟨.inr (i:Int),fY hbody,.inr ⟨rfl,i,rfl⟩⟩
   |true=>
    rw [hv] at hbody;obtain ⟨z,h1,h2⟩:=ih (i+1) (by omega);exact ⟨z,(pC hbody).trans h1,by rwa [Bool.true_and]⟩
 obtain ⟨z,h1,h2⟩:=key l.length 0 (by omega);rw [List.drop_zero] at h2;unfold cY dZ;rw [show (0:Int)=((0:Nat):Int) from rfl,h1,aA];rcases h2 with ⟨h2,rfl⟩|⟨h2,k,rfl⟩
 ·rw [h2];rfl
 ·rw [h2];show some (decide (((0:Nat):Int)≤(k:Int)))=_;rw [bB (by omega)];rfl
theorem aMp {l:List Rp} {k:Nat} (hk:k<l.length):pT (l.take (k+1))=pT (l.take k)++[32]++uE l[k].dims:=by
 unfold pT;rw [uV hk,List.map_append,aGo];simp [Lib.joinTail]
theorem aNm {c:Cl} (hl:c.parts.length≤1048576) (hb: ∀ r∈c.parts,bR r) {X:List UInt8} (hX:X.length≤2000):
  Lp (cZ c) (lB X,0)=some (if 8<c.parts.length then .inr (lB []) else if c.parts.all mB=true then .inl (lB (X++pT c.parts)) else .inr (lB [])):=by
 by_cases h8:8<c.parts.length
 ·rw [aV h8];refine fY ?_;have h0:0<c.parts.length:=by omega
  unfold cZ;simp only;rw [bB (show (0:Int)<(c.parts.length:Int) by omega),aL,show (0:Int)=((0:Nat):Int) from rfl,bP h0,aA,wN (hb _ (List.getElem_mem h0)),aA,bB (show ((8:Int)<(c.parts.length:Int)) by omega)];cases mB c.parts[0] <;> rfl
 ·rw [aS h8]
  have key: ∀ (d i:Nat),i+d=c.parts.length→(pT (c.parts.take i)).length ≤6*i→Lp (cZ c) (lB (X++pT (c.parts.take i)),(i:Int))=some (if (c.parts.drop i).all mB=true then .inl (lB (X++pT c.parts)) else .inr (lB [])):=by
   intro d;induction d with
   |zero=>
    intro i hi _;rw [List.drop_of_length_le (by omega),List.take_of_length_le (by omega),aV (show ([]:List Rp).all mB=true from rfl)];refine fY ?_;unfold cZ;simp only;rw [kR (by omega),aP]
   |succ d ih=>
    intro i hi hp;have hil:i<c.parts.length:=by omega
    rw [List.drop_eq_getElem_cons hil,List.all_cons];cases hv:mB c.parts[i] with
    |false=>
     rw [Bool.false_and,aS (by simp)];refine fY ?_;unfold cZ;simp only;rw [iL hil,aL,bP hil,aA,wN (hb _ (List.getElem_mem hil)),aA,hv];rfl
    |true=>
     obtain ⟨hD,_,h5,_⟩:=oG hv;have hd:=rJ c.parts[i].dims;have hs:=aMp hil
     have hbody:cZ c (lB (X++pT (c.parts.take i)),(i:Int))=some (.inl (lB (X++pT (c.parts.take (i+1))),((i+1:Nat):Int))):=by
      unfold cZ;simp only;rw [iL hil,aL,bP hil,aA,wN (hb _ (List.getElem_mem hil)),aA,hv,dP,aP,bU (by omega),aP,l32,fG (by simp only [List.length_append,List.length_cons,List.length_nil];omega),aA,aNC hD (by omega),aA,cA,fG (by simp only [List.length_append,List.length_cons,List.length_nil];omega),cA,bW hil (by omega),hs];simp only [List.append_assoc]
     rw [pC hbody,Bool.true_and];exact ih (i+1) (by omega) (by rw [hs];simp only [List.length_append,List.length_cons,List.length_nil];omega)
  have:=key c.parts.length 0 (by omega) (Nat.zero_le _);rw [List.take_zero,List.drop_zero,show X++pT []=X from by simp [pT,Lib.joinTail]] at this;exact this
theorem aNn {c:Cl} (hl:c.parts.length≤8) (hv:c.parts.all mB=true) (W:List (List UInt8)) (hW:W.length≤100):
  Lp (fP c) (W.map lB,0)=some ((W++c.parts.map λr=>uE r.dims).map lB):=by
 refine dQ (λk=>((W++(c.parts.take k).map λr=>uE r.dims).map lB,(k:Int))) c.parts.length (by simp) (λk hk=>?_) (λ_=>?_)
 ·obtain ⟨hD,_,h5,_⟩:=oG (List.all_eq_true.1 hv _ (List.getElem_mem hk));unfold fP;simp only;rw [iL hk,aL,bP hk,aA,yX hD (by omega),aA,bB (by simp;omega),aL,bW hk (by omega),uV hk,List.map_append,List.map_append,List.map_append,List.map_append,List.append_assoc];rfl
 ·unfold fP;simp only;rw [kR (bG _),aP,List.take_length]
theorem aJl {r:Rp} {s:List Sc} (h:aBx r s=true):Dg (qG s)∧1≤(qG s).length∧(qG s).length ≤5:=by
 obtain ⟨R,e1,e2⟩:=aIq h;have hv:mB r=true:=by unfold aBx at h;simp only [cV] at h;exact h.1
 obtain ⟨_,h1,h5,_⟩:=oG hv;refine ⟨λa ha=>?_,by simp [qG];omega,by simp [qG];omega⟩;obtain ⟨x,hx,rfl⟩:=List.mem_map.1 ha;obtain ⟨v,hvl,rfl⟩:=List.getElem_of_mem hx;have hvd:v<r.dims.length:=by omega
 have:=(e2 v hvd).len;have hd:=(R.d v hvd).2;have eg:sG s v=s[v]:=by unfold sG;rw [xS hvl];rfl
 rw [eg] at this;omega
theorem aHv {r:Rp} (hr:bR r) {s:List Sc} (hs:s.length≤1048576∧ ∀ x∈s,bS x) (h:aBx r s=false):kL r s=some []:=by
 unfold kL;rw [fY (r:=[]) ?_,aA];unfold jK;simp only;rw [aFq hr hs,aA,h];cases decide ((0:Int)<(s.length:Int)) <;> rfl
theorem aMq {c:Cl} (hv:mB c.rep=true):(fcB c).length ≤1050:=by
 have hQ:vG c.rep.q=true:=(nG (yQ hv).2.1).1;have f1:=aGj hQ;have f2:=aBY c.rep;have f3:=(aNl c.kind).2.2.1;unfold fcB;simp only [List.length_append,List.length_cons,List.length_nil];omega
section
variable {c:Cl} (hc:bC c)
include hc
theorem aOa:lL c=some (lB (fcT c)):=by
 have hB0:=aMq (c:=c);obtain ⟨hrep,hoth,hparts,hmaps,hbars,hth,hsubs,_⟩:=hc;obtain ⟨_,w2,wl,wn⟩:=aNl c.kind;unfold lL fcT;rw [w2,aA,aNF hrep,aA,l0,vP,vP];cases hk:sS c.kind 1 6 with
 |false=>
  rw [bB (wn.2 hk),aV rfl];rfl
 |true=>
  have hw:kwT c.kind≠[]:=λe=>by rw [wn.1 e] at hk;cases hk
  rw [bU hw,aP,aS (by simp)];cases hv:mB c.rep with
  |false=>
   have:frT c.rep=[]:=by unfold frT;rw [hv];rfl
   rw [bB this,aV rfl];rfl
  |true=>
   have hQ:vG c.rep.q=true:=(nG (yQ hv).2.1).1;have f1:=aGj hQ;have f2:=aBY c.rep;have f3:=aBY c.other;have f4:=aJk c.rep.p c.maps;have f5:=aJi c.bars;have hB:=hB0 hv;rw [bU (aMC hv),aP,aS (by simp)];rw [l32,fG (by simp only [List.length_cons,List.length_nil];omega),aNk hrep.1 hQ,aA,cA,fG (by simp only [List.length_append,List.length_cons,List.length_nil];omega),cA,show (⟨#[32,124,32]⟩:ByteArray)=lB [32,124,32] from rfl,fG (by simp only [List.length_append,List.length_cons,List.length_nil];omega),cA,fG (by simp only [List.length_append,List.length_cons,List.length_nil];omega),cA,aNF hoth,aA];rw [show kwT c.kind++[32]++fqX c.rep.q++[32,124,32]++frT c.rep=fcB c from rfl];generalize fcB c=B at hB ⊢;by_cases k1:c.kind=1
   ·rw [bB k1,aV k1,aL,show (⟨#[32,105,110,116,111]⟩:ByteArray)=lB [32,105,110,116,111] from rfl,fG (by simp only [List.length_cons,List.length_nil];omega),cA,aNm hparts.1 hparts.2 (by simp only [List.length_append,List.length_cons,List.length_nil];omega),aA];by_cases h8:8<c.parts.length
    ·rw [aV h8,aV h8];rfl
    ·rw [aS h8,aS h8];by_cases ha:c.parts.all mB=true
     ·have hp:(pT c.parts).length ≤48:=by
       have:=aDK (sep:=[32]) (c:=5) (l:=c.parts.map λr=>uE r.dims) (λx hx=>by
        obtain ⟨r,hr,rfl⟩:=List.mem_map.1 hx;rw [rJ]
        exact (oG (List.all_eq_true.1 ha r hr)).2.2.1)
       simp only [eD,List.length_cons,List.length_nil] at this;unfold pT;omega
      rw [aV ha,aV ha,Sum.elim_inl,show (⟨#[32,98,121,32]⟩:ByteArray)=lB [32,98,121,32] from rfl,fG (by simp only [List.length_append,List.length_cons,List.length_nil];omega),aNI c.rep.p hmaps.2,aA,cA,fG (by simp only [List.length_append,List.length_cons,List.length_nil];omega),cA]
     ·rw [aS ha,aS ha];rfl
   ·rw [bU k1,aS k1,aP];by_cases k5:c.kind=5
    ·rw [bB k5,aV k5,aL,show (⟨#[32,104,97,115,32]⟩:ByteArray)=lB [32,104,97,115,32] from rfl,fG (by simp only [List.length_cons,List.length_nil];omega),aOY hbars,aA,cA,fG (by simp only [List.length_append,List.length_cons,List.length_nil];omega),cA]
    ·rw [bU k5,aS k5,aP];by_cases k6:c.kind=6
     ·rw [bB k6,aV k6,aL];cases hs:aBx c.rep c.subs with
      |false=>
       rw [aHv hrep hsubs hs,aA,aS (by simp)];rfl
      |true=>
       obtain ⟨g1,g2,g3⟩:=aJl hs;have g4:=rJ (qG c.subs);rw [aGh hrep hsubs hs,aA,bU (by omega),aP,aV rfl,show (⟨#[32,98,121,32]⟩:ByteArray)=lB [32,98,121,32] from rfl,fG (by simp only [List.length_append,List.length_cons,List.length_nil];omega),aNC g1 (by omega),aA,cA,fG (by simp only [List.length_append,List.length_cons,List.length_nil];omega),cA]
     ·rw [bU k6,aS k6,aP,vP];cases ho:mB c.other with
      |false=>
       have:frT c.other=[]:=by unfold frT;rw [ho];rfl
       rw [bB this,aV rfl];rfl
      |true=>
       rw [bU (aMC ho),aP,aS (by simp),show (⟨#[32,97,110,100,32]⟩:ByteArray)=lB [32,97,110,100,32] from rfl,fG (by simp only [List.length_cons,List.length_nil];omega),cA,fG (by simp only [List.length_append,List.length_cons,List.length_nil];omega),cA];by_cases k3:c.kind=3
       ·rw [bB k3,aV k3,aL]
       ·rw [bU k3,aS k3,aP,show (⟨#[32,98,121,32]⟩:ByteArray)=lB [32,98,121,32] from rfl,fG (by simp only [List.length_append,List.length_cons,List.length_nil];omega),aNI c.rep.p hmaps.2,aA,cA,fG (by simp only [List.length_append,List.length_cons,List.length_nil];omega),cA]
theorem aOb:lK c=some (lB (fcT c)):=by
 obtain ⟨hrep,hoth,hparts,hmaps,hbars,hth,hsubs,_⟩:=hc;obtain ⟨w1,_,wl,wn⟩:=aNl c.kind;unfold lK fcT;rw [w1,aA,l0,vP];cases hk:sS c.kind 1 6 with
 |false=>
  rw [bB (wn.2 hk),aV rfl];rfl
 |true=>
  have hw:kwT c.kind≠[]:=λe=>by rw [wn.1 e] at hk;cases hk
  rw [bU hw,aP,aS (by simp),wO hrep,aA];cases hv:mB c.rep with
  |false=>
   rw [aV rfl];rfl
  |true=>
   have hQ:vG c.rep.q=true:=(nG (yQ hv).2.1).1;have f1:=aGj hQ;have f2:=aBY c.rep;have f3:=aBY c.other;have f4:=aJk c.rep.p c.maps;have f5:=aJi c.bars;rw [dP,aP,aS (by simp),aA,aNj hrep.1 hQ,aA,aNE hrep,aA];have eW:([lB (kwT c.kind),lB (fqX c.rep.q),(⟨#[124]⟩:ByteArray),lB (frT c.rep)]:List ByteArray)=[kwT c.kind,fqX c.rep.q,[124],frT c.rep].map lB:=rfl;rw [eW];unfold fcB;generalize kwT c.kind=A1 at wl ⊢;generalize fqX c.rep.q=A2 at f1 ⊢;generalize frT c.rep=A3 at f2 ⊢;by_cases k1:c.kind=1
   ·rw [bB k1,aV k1,aL];by_cases h8:8<c.parts.length
    ·rw [bB (by omega),aV h8];rfl
    ·rw [bU (by omega),aS h8,aP,aOZ hparts.1 hparts.2,aA];by_cases ha:c.parts.all mB=true
     ·have hp:(pT c.parts).length ≤48:=by
       have:=aDK (sep:=[32]) (c:=5) (l:=c.parts.map λr=>uE r.dims) (λx hx=>by
        obtain ⟨r,hr,rfl⟩:=List.mem_map.1 hx;rw [rJ]
        exact (oG (List.all_eq_true.1 ha r hr)).2.2.1)
       simp only [eD,List.length_cons,List.length_nil] at this;unfold pT;omega
      have ei:([(⟨#[105,110,116,111]⟩:ByteArray)]:List ByteArray)=[[105,110,116,111]].map lB:=rfl;rw [ha,dP,aP,aV rfl,bB (by simp),aL,ei,←List.map_append,aNn (by omega) ha _ (by simp),aA,aNH c.rep.p hmaps.2,aA];have eb:([(⟨#[98,121]⟩:ByteArray),lB (mxT c.rep.p c.maps)]:List ByteArray)=[[98,121],mxT c.rep.p c.maps].map lB:=rfl;generalize mxT c.rep.p c.maps=M at f4 eb ⊢
      have ej:Lib.join ([A1,A2,[124],A3]++[[105,110,116,111]]++(c.parts.map λr=>uE r.dims)++[[98,121],M]) [32]=A1++[32]++A2++[32,124,32]++A3++[32,105,110,116,111]++pT c.parts++[32,98,121,32]++M:=by
       show Lib.join (A1::([A2,[124],A3,[105,110,116,111]]++(c.parts.map λr=>uE r.dims)++[[98,121],M])) [32]=_;rw [Lib.join_cons,aGo,aGo,show Lib.joinTail [32] (c.parts.map λr=>uE r.dims)=pT c.parts from rfl];simp [Lib.joinTail]
      rw [bB (by simp;omega),aL,eb,←List.map_append,l32,yY (by rw [ej];simp only [List.length_append,List.length_cons,List.length_nil];omega) (by simp;omega),aA,ej]
     ·rw [aS ha,Bool.eq_false_iff.2 ha];rfl
   ·rw [bU k1,aS k1,aP];by_cases k5:c.kind=5
    ·rw [bB k5,aV k5,aL,aOX hbars,aA];have eb:([(⟨#[104,97,115]⟩:ByteArray),lB (fbT c.bars)]:List ByteArray)=[[104,97,115],fbT c.bars].map lB:=rfl;generalize fbT c.bars=M at f5 eb ⊢
     have ej:Lib.join ([A1,A2,[124],A3]++[[104,97,115],M]) [32]=A1++[32]++A2++[32,124,32]++A3++[32,104,97,115,32]++M:=by
      show Lib.join (A1::[A2,[124],A3,[104,97,115],M]) [32]=_;rw [Lib.join_cons];simp [Lib.joinTail]
     rw [bB (by simp),aL,eb,←List.map_append,l32,yY (by rw [ej];simp only [List.length_append,List.length_cons,List.length_nil];omega) (by simp),aA,ej]
    ·rw [bU k5,aS k5,aP];by_cases k6:c.kind=6
     ·rw [bB k6,aV k6,aL,aKZ hrep hsubs,aA];cases hs:aBx c.rep c.subs with
      |false=>
       rw [aS (by simp)];rfl
      |true=>
       obtain ⟨g1,g2,g3⟩:=aJl hs;have g4:=rJ (qG c.subs);rw [dP,aP,aV rfl,aKa hsubs.1,aA,yX g1 (by omega),aA];have eb:([(⟨#[98,121]⟩:ByteArray),lB (uE (qG c.subs))]:List ByteArray)=[[98,121],uE (qG c.subs)].map lB:=rfl;generalize uE (qG c.subs)=M at g4 eb ⊢
       have ej:Lib.join ([A1,A2,[124],A3]++[[98,121],M]) [32]=A1++[32]++A2++[32,124,32]++A3++[32,98,121,32]++M:=by
        show Lib.join (A1::[A2,[124],A3,[98,121],M]) [32]=_;rw [Lib.join_cons];simp [Lib.joinTail]
       rw [bB (by simp),aL,eb,←List.map_append,l32,yY (by rw [ej];simp only [List.length_append,List.length_cons,List.length_nil];omega) (by simp),aA,ej]
     ·rw [bU k6,aS k6,aP,wO hoth,aA];cases ho:mB c.other with
      |false=>
       rw [aV rfl];rfl
      |true=>
       rw [dP,aP,aS (by simp),aNE hoth,aA];have ea:([(⟨#[97,110,100]⟩:ByteArray),lB (frT c.other)]:List ByteArray)=[[97,110,100],frT c.other].map lB:=rfl;generalize frT c.other=O at f3 ea ⊢;rw [bB (by simp),aL,ea,←List.map_append];by_cases k3:c.kind=3
       ·have ej:Lib.join ([A1,A2,[124],A3]++[[97,110,100],O]) [32]=A1++[32]++A2++[32,124,32]++A3++[32,97,110,100,32]++O:=by
         show Lib.join (A1::[A2,[124],A3,[97,110,100],O]) [32]=_;rw [Lib.join_cons];simp [Lib.joinTail]
        rw [bB k3,aV k3,dP,aP,l32,yY (by rw [ej];simp only [List.length_append,List.length_cons,List.length_nil];omega) (by simp),aA,ej]
       ·rw [bU k3,aS k3,Bool.not_false,aL,aNH c.rep.p hmaps.2,aA];have eb:([(⟨#[98,121]⟩:ByteArray),lB (mxT c.rep.p c.maps)]:List ByteArray)=[[98,121],mxT c.rep.p c.maps].map lB:=rfl;generalize mxT c.rep.p c.maps=M at f4 eb ⊢
        have ej:Lib.join ([A1,A2,[124],A3]++[[97,110,100],O]++[[98,121],M]) [32]=A1++[32]++A2++[32,124,32]++A3++[32,97,110,100,32]++O++[32,98,121,32]++M:=by
         show Lib.join (A1::[A2,[124],A3,[97,110,100],O,[98,121],M]) [32]=_;rw [Lib.join_cons];simp [Lib.joinTail]
        rw [bB (by simp),aL,eb,←List.map_append,l32,yY (by rw [ej];simp only [List.length_append,List.length_cons,List.length_nil];omega) (by simp),aA,ej]
end
def fC (c:Cl):Prop:=fR c.rep∧fR c.other∧fRs c.parts∧fMs c.maps∧fI c.bars∧fI c.theta∧fSs c.subs
theorem aOc {w:World} {c:Cl} (h: ∀ d∈eC c,∃ v S',RepD w d v S'):fC c:=by
 refine ⟨aLU λd hd=>h d ?_,aLU λd hd=>h d ?_,aNV h (by simp [eC]),aLT h (by simp [eC]),(yP (k:=3) (e:=eB) (l:=c.bars) h (by simp [eC])).1,aED h (by simp [eC]),aNb h (by simp [eC])⟩
 ·simp only [eR,dU,List.not_mem_nil,or_false] at hd;simp only [eC,dU,List.not_mem_nil,or_false];rcases hd with h|h|h|h|h|h <;> simp [h]
 ·simp only [eR,dU,List.not_mem_nil,or_false] at hd;simp only [eC,dU,List.not_mem_nil,or_false];rcases hd with h|h|h|h|h|h <;> simp [h]
theorem aOd {l:List Br} {left:Int} (hl:fI l) (h0:0≤left) (h1:left≤1048576):sJ l left=some (zB l left):=by
 unfold fI at hl;unfold sJ zB zI;rw [aDg (by omega)];by_cases h:left - l.length<0
 ·rw [bB h,aV h];rfl
 ·rw [bU h,aS h];rfl
theorem aOe {c:Cl} {left:Int} (hl:fC c) (h0:0≤left) (h1:left≤1048576):uR c left=some (zCl c left):=
 mP (aNS hl.1 h0 h1) (xK _) h0 h1 λv g0 g1=>mP (aNS hl.2.1 g0 g1) (xK _) g0 g1 λv g0 g1=>mP (aOG hl.2.2.1 g0 g1) (sD xK _) g0 g1 λv g0 g1=>mP (aMw hl.2.2.2.1 g0 g1) (sD aBN _) g0 g1 λv g0 g1=>mP (aOd hl.2.2.2.2.1 g0 g1) (aJP _) g0 g1 λv g0 g1=>mP (aKL hl.2.2.2.2.2.1 g0 g1) (pP _) g0 g1 λv g0 g1=>mP (aOM hl.2.2.2.2.2.2 g0 g1) (sD aEC _) g0 g1 λv _ _=>rfl
theorem aOf {l:List Br} (h:l.length≤1048576):sK l=some l:=by
 unfold sK;rw [bB (by omega),bB (by omega:(l.length:Int)≤1048576),Bool.and_self,aL];rw [uC _ (by omega) (λk hk r hr=>?_) (λr=>?_)];rfl
 ·unfold oN xR;simp only;rw [iL hk,aL,bP hk,aA,aA,bP (hr▸hk),aA,eA]
 ·unfold oN;simp only;rw [kR (bG _),aP]
theorem aOg {c:Cl} (h:bC c):kQ c=some c:=by
 obtain ⟨h1,h2,h3,h4,h5,h6,h7,_⟩:=h;unfold kQ;rw [aNT h1,aA,aNT h2,aA,aOH h3,aA,aMx h4,aA,aOf h5,aA,aKM h6,aA,aOO h7,aA]
theorem aNo {l:List Br} (hl:l.length≤1048576):sI l l=some true:=by
 unfold sI;rw [bB rfl,dP,aP,tG (n:=l.length) (λ_=>true) false (by omega) (λi hi=>?_) (λ_=>?_),aA]
 ·rw [List.all_eq_true.2 λ_ _=>rfl];rfl
 ·unfold oH;rw [iL hi,aL,bP hi,aA,aA];unfold xQ;simp only [decide_true,dP,aP,aA,aL]
 ·unfold oH;rw [kR (bG _),aP]
theorem aNp {c:Cl} (h:bC c):rK c c=some true:=by
 obtain ⟨h1,h2,h3,h4,h5,h6,h7,_⟩:=h;unfold rK;simp only [decide_true,dP,aP,aNU h1,aNU h2,aOI h3,aMy h4,aNo h5,aKN h6,aOQ h7,aA]
theorem aBZ {c:Cl} (fc:fC c):iU c=some true:=by
 unfold iU;rw [aOe fc (by decide) (by decide),aA];rcases aLS c 1048576 (by decide) (by decide) with e|⟨e1,e2,hc⟩
 ·rw [e];rfl
 ·rw [bU (by omega),aP];simp only [aOg hc,aA,aOa hc,aOb hc,vP,decide_true,dP,aP,aNp hc]
end
end Go.Proofs.YtilpfdokmlanjaaGreatDoor

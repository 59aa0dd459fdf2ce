/-
  Several texts of the claim in one.
-/
import Derived.Lib.Join
import Derived.Test.YtdoejgaomlmgeaaGreatDoorH15
set_option linter.unusedVariables false
set_option linter.unusedSimpArgs false
namespace Go.Proofs.YtdoejgaomlmgeaaGreatDoor
open Go.RowKit
noncomputable section
def lB (l:List UInt8):ByteArray:=⟨l.toArray⟩
theorem nZ (a b:List UInt8):lB a++lB b=lB (a++b):=by
 have h:(lB a++lB b).data=(lB (a++b)).data:=by
  rw [ByteArray.data_append];simp [lB]
 cases hx:lB a++lB b with
 |mk d=>rw [hx] at h;simp only at h;rw [h]
theorem aAk (l:List UInt8):(lB l).size=l.length:=by simp [lB,ByteArray.size]
theorem aPK (l:List UInt8):(lB l).data.toList=l:=by simp [lB]
def f8 (z:Int):UInt8:=UInt8.ofNat z.toNat
theorem aLI (l:List Int):aGO l=lB (l.map f8):=by
 have key: ∀ (l:List Int) (a:List UInt8),l.foldl (λr n=>ByteArray.push r (UInt8.ofNat n.toNat)) (lB a)=lB (a++l.map f8):=by
  intro l;induction l with
  |nil=>intro a;simp
  |cons z l ih=>
   intro a;have e:(lB a).push (UInt8.ofNat z.toNat)=lB (a++[f8 z]):=by simp [lB,ByteArray.push,f8]
   rw [List.foldl_cons,e,ih,List.append_assoc];rfl
 exact key l []
def Dg (x:List Int):Prop:= ∀ a∈x,0≤a∧a≤4
def dgs (x:List Int):List UInt8:=x.map λa=>f8 (48+a)
theorem wr8 {a:Int} (h:0≤a∧a≤4):IntKind.u8.wrap (wr (48+a))=48+a:=by
 rw [cZ (by omega)];have:a=0∨a=1∨a=2∨a=3∨a=4:=by omega
 rcases this with rfl|rfl|rfl|rfl|rfl <;> decide
theorem aIT {x:List Int} (hx:Dg x) (hl:x.length≤1000):pZ x=some (lB (dgs x)):=by
 unfold pZ
 rw [bC (by omega),bC (by omega),Bool.and_self,aN,dJ,
  cF (s:=(List.replicate x.length (0:Int),(0:Int))) (r:=x.map λa=>48+a) (λk=>((x.take k).map (λa=>48+a)++List.replicate (x.length - k) 0,(k:Int))) x.length (by simp) (λk hk=>?_) (λ_=>?_),aA,aLI]
 ·unfold dgs;rw [List.map_map];rfl
 ·have ha:=hx x[k] (List.getElem_mem hk);unfold tD;simp only;have hlen:((x.take k).map (λa=>48+a)).length=k:=by rw [cK,List.length_take];omega
  rw [gC hk,aN,dR hk,aA,dR (by rw [List.length_append,hlen,List.length_replicate];omega),aA,Int.max_eq_left ha.1,Int.min_eq_left (by omega),wr8 ha,dJ,bK hk (by omega)];rw [List.set_append_right _ _ (by omega),hlen,Nat.sub_self,show x.length - k=(x.length - (k+1))+1 by omega,List.replicate_succ,List.set_cons_zero,aCM hk,List.map_append,List.append_assoc];rfl
 ·unfold tD;simp only;rw [gS (bA _),aS];simp
theorem aMm {a:Int} (h:0≤a∧a≤4):cX a=some (lB [f8 (48+a)]):=by
 unfold cX;by_cases h0:a=0
 ·subst h0;rfl
 ·have e1:fC (a,(⟨#[]⟩:ByteArray))=some (.inl (0,lB [f8 (48+a)])):=by
   unfold fC;simp only;have e2:a.tmod 10=a:=Int.tmod_eq_of_lt (by omega) (by omega);have e3:a.tdiv 10=0:=Int.tdiv_eq_zero_of_lt (by omega) (by omega);rw [dM h0,Bool.not_false,aN,e2,e3,dM (by omega),aS,wr8 h,aLI,show (⟨#[]⟩:ByteArray)=lB [] from rfl,nZ,aAk,aAk,bC (by simp),aN,cZ (by omega)];rfl
  have e4:fC (0,lB [f8 (48+a)])=some (.inr (lB [f8 (48+a)])):=rfl;rw [dM h0,aS,mS e1,iQ e4,aA,dM (by omega),aS]
theorem aVY {x:List Int} (hx:Dg x) (hl:x.length≤1000):tC x=some (lB (dgs x)):=by
 unfold tC;rw [cF (s:=((⟨#[]⟩:ByteArray),(0:Int))) (r:=lB (dgs x)) (λk=>(lB (dgs (x.take k)),(k:Int))) x.length rfl (λk hk=>?_) (λ_=>?_),aA]
 ·unfold nG;simp only
  have e:dgs (x.take (k+1))=dgs (x.take k)++[f8 (48+x[k])]:=by
   unfold dgs;rw [aCM hk,List.map_append];rfl
  have hd:(dgs (x.take k)).length ≤1000:=by unfold dgs;rw [cK,List.length_take];omega
  rw [gC hk,aN,dR hk,aA,aMm (hx _ (List.getElem_mem hk)),aA,aAk,aAk,bC (by simp only [List.length_cons,List.length_nil];omega),aN,nZ,e,bK hk (by omega)]
 ·unfold nG;simp only;rw [gS (bA _),aS,List.take_length]
end
noncomputable section
theorem aLJ {a:Nat} (h:a<10):Lib.decDigits a=[UInt8.ofNat (48+a)]:=by rw [Lib.decDigits,dif_pos h]
theorem aSU {a:Nat} (h:10≤a) (h2:a<100):Lib.decDigits a=[UInt8.ofNat (48+a / 10),UInt8.ofNat (48+a % 10)]:=by
 rw [Lib.decDigits,dif_neg (by omega),aLJ (by omega)];rfl
theorem wS {a:Nat} (h:a<100):(Lib.decDigits a).length ≤2:=by
 rcases dV a 10 with h1|h1
 ·rw [aLJ h1];simp
 ·rw [aSU h1 h];simp
theorem aWM {a:Int} (h:0≤a∧a≤9):IntKind.u8.wrap (wr (48+a))=48+a:=by
 rw [cZ (by omega)];have:a=0∨a=1∨a=2∨a=3∨a=4∨a=5∨a=6∨a=7∨a=8∨a=9:=by omega
 rcases this with rfl|rfl|rfl|rfl|rfl|rfl|rfl|rfl|rfl|rfl <;> decide
theorem aIU {a:Nat} (h0:0<a) (h:a<100) {out:List UInt8} (ho:out.length≤10):fC ((a:Int),lB out)=some (.inl (((a / 10:Nat):Int),lB (UInt8.ofNat (48+a % 10)::out))):=by
 unfold fC;simp only;have e2:(a:Int).tmod 10=((a % 10:Nat):Int):=by rw [Int.tmod_eq_emod_of_nonneg (by omega)];omega
 have e3:(a:Int).tdiv 10=((a / 10:Nat):Int):=by rw [Int.tdiv_eq_ediv_of_nonneg (by omega)];omega
 have e4:f8 (48+((a % 10:Nat):Int))=UInt8.ofNat (48+a % 10):=by
  unfold f8;congr 1
 rw [dM (by omega),Bool.not_false,aN,e2,e3,dM (by omega),aS,aWM (by omega),aLI,nZ,aAk,aAk,bC (by simp;omega),aN,cZ (by omega)];rw [List.map_cons,List.map_nil,e4];rfl
theorem aMn {out:List UInt8} :fC (0,lB out)=some (.inr (lB out)):=rfl
theorem aIV {a:Int} (h0:0≤a) (h:a<100):cX a=some (lB (Lib.decDigits a.toNat)):=by
 obtain ⟨a,rfl⟩: ∃ k:Nat,a=k:=⟨a.toNat,by omega⟩;rw [dJ];unfold cX;by_cases hz:a=0
 ·subst hz;rw [aLJ (by omega)];rfl
 ·rw [dM (by omega),aS,show (⟨#[]⟩:ByteArray)=lB [] from rfl];rcases dV a 10 with h1|h1
  ·rw [mS (aIU (by omega) (by omega) (by simp)),Nat.div_eq_of_lt h1,show ((0:Nat):Int)=0 from rfl,iQ aMn,aA,dM (by omega),aS,aLJ h1,Nat.mod_eq_of_lt h1]
  ·rw [mS (aIU (by omega) (by omega) (by simp)),mS (aIU (a:=a / 10) (by omega) (by omega) (by simp)),Nat.div_eq_of_lt (show a / 10<10 by omega),show ((0:Nat):Int)=0 from rfl,iQ aMn,aA,dM (by omega),aS,aSU h1 (by omega),Nat.mod_eq_of_lt (show a / 10<10 by omega)]
theorem aIW {a:Int} (h0:0≤a) (h:a<100):gH a=some (lB (Lib.decDigits a.toNat)):=by
 unfold gH aOR;rw [bC h0,bC h];rfl
theorem aIX {l:List (List UInt8)} {sep:List UInt8} (h:(Lib.join l sep).length ≤1000000) (hl:l.length≤1000000):aCe (l.map lB) (lB sep)=some (lB (Lib.join l sep)):=by
 have e:(l.map lB).map (λx=>x.data.toList)=l:=by
  rw [List.map_map];exact (yR λx _=>aPK x).trans (List.map_id l)
 unfold aCe aUH;rw [e,aPK,bC (by omega),bC (by rw [cK];omega)];rfl
theorem aCf {α:Type} {a b:List UInt8} {k:Option α} (h:a.length+b.length≤1000000):(bif decide ((lB a).size +(lB b).size ≤9223372036854775807) then k else none)=k:=by
 rw [aAk,aAk,bC (by omega),aN]
theorem aOS {a b:List Int} (h:bI b):eK a b=some (decide (a=b)):=by
 by_cases e:a.length=b.length
 ·exact aFE (b:=b) (a:=a) (by unfold bI at h ⊢;omega)
 ·unfold eK;rw [dM (by omega: ¬ ((a.length:Int)=(b.length:Int))),Bool.not_false,aN,dM (λh=>e (by rw [h]))]
end
noncomputable section
theorem aQY (sep:List UInt8) (A:List (List UInt8)) (x:List UInt8):Lib.join (A++[x]) sep=Lib.join A sep++(if A.length=0 then [] else sep)++x:=by
 cases A with
 |nil=>simp [Lib.join_one,Lib.join_nil]
 |cons a r=>
  rw [List.cons_append,Lib.join_cons,Lib.join_cons];simp [Lib.joinTail]
theorem aPL {sep:List UInt8} {c:Nat} : ∀ {l:List (List UInt8)},(∀ x∈l,x.length≤c)→(Lib.joinTail sep l).length ≤(c+sep.length)*l.length
 | [],_=>by simp [Lib.joinTail]
 |x::l,h=>by
  have h1:=aPL (sep:=sep) (l:=l) λy hy=>h y (by simp [hy]);have h2:=h x (by simp);unfold Lib.joinTail at h1 ⊢;simp only [List.map_cons,List.flatten_cons,List.length_append,List.length_cons] at h1 ⊢;rw [Nat.mul_succ];omega
theorem aSV {sep:List UInt8} {c:Nat} {l:List (List UInt8)} (h: ∀ x∈l,x.length≤c):(Lib.join l sep).length ≤(c+sep.length)*l.length:=by
 cases l with
 |nil=>simp [Lib.join_nil]
 |cons x l=>
  have h1:=aPL (sep:=sep) (l:=l) λy hy=>h y (by simp [hy]);have h2:=h x (by simp);rw [Lib.join_cons,List.length_append,List.length_cons,Nat.mul_succ];omega
theorem aPM {r c:Nat} (hN:r*c≤1048576) (hr:r≤1048576) (hc:c≤1048576) (F:Nat→Nat→Int):kI ⟨r,c,bT r c F⟩=some ((List.range r).map λi=>dZ c (F i)):=by
 unfold kI;rw [cF (s:=(([]:List (List Int)),(0:Int))) (r:=(List.range r).map λi=>dZ c (F i)) (λk=>((List.range k).map λi=>dZ c (F i),(k:Int))) r rfl (λk hk=>?_) (λ_=>?_),aA]
 ·unfold kU;simp only;rw [gC hk,aN,aOA hN hr hk,aA];unfold xQ;rw [bC (by simp [dZ];omega),aN,aA,bC (by simp;omega),aN,bK hk (by omega),pR (f:=λi=>dZ c (F i))]
 ·unfold kU;simp only;rw [gS (bA _),aS]
def ctx (c:Nat) (l:List Int):Nat→List UInt8
 |0=>[]
 |t+1=>ctx c l t++(if 0<t∧t % c=0 then [47] else [])++[f8 (48+l[t]?.getD 0)]
theorem aMo (c:Nat) (l:List Int) (t:Nat):ctx c l (t+1)=ctx c l t++(if 0<t∧t % c=0 then [47] else [])++[f8 (48+l[t]?.getD 0)]:=rfl
theorem aGi (c:Nat) (l:List Int): ∀ t,(ctx c l t).length ≤2*t
 |0=>Nat.zero_le _
 |t+1=>by
  have:=aGi c l t;have e:(if 0<t∧t % c=0 then [47] else []:List UInt8).length ≤1:=by split <;> simp
  simp only [ctx,List.length_append,List.length_cons,List.length_nil];omega
theorem aQZ (c:Nat) (f:Nat→Int):dZ (c+1) f=dZ c f++[f c]:=by unfold dZ;rw [List.range_succ,List.map_append];rfl
theorem aPN {r c:Nat} (F:Nat→Nat→Int) {i:Nat} (hi:i<r): ∀ j,j+1≤c→ctx c (bT r c F) (i*c+(j+1))=ctx c (bT r c F) (i*c)++(if 0<i then [47] else [])++dgs (dZ (j+1) (F i))
 |0,hj=>by
  rw [show i*c+(0+1)=i*c+1 from rfl,aMo,show (bT r c F)[i*c]? =(bT r c F)[i*c+0]? from rfl,iK F hi (show 0<c by omega),Nat.mul_mod_left];congr 1;congr 1;by_cases h:0<i
  ·rw [aU h,aU ⟨Nat.mul_pos h (by omega),rfl⟩]
  ·rw [aV h,aV];rintro ⟨h1,_⟩;rw [show i=0 by omega] at h1;simp at h1
 |j+1,hj=>by
  have ih:=aPN (r:=r) (c:=c) F hi j (by omega);rw [show i*c+(j+1+1)=(i*c+(j+1))+1 from rfl,aMo,ih,iK F hi (show j+1<c by omega),Nat.mul_add_mod_self_right,Nat.mod_eq_of_lt (show j+1<c by omega),aV (show ¬ (0<i*c+(j+1)∧j+1=0) by omega),List.append_nil,aQZ (j+1),List.append_assoc];unfold dgs;rw [List.map_append];rfl
theorem aPO {r c:Nat} (hc:0<c) (F:Nat→Nat→Int): ∀ i,i≤r→ctx c (bT r c F) (i*c)=Lib.join ((List.range i).map λa=>dgs (dZ c (F a))) [47]
 |0,_=>by rw [Nat.zero_mul];rfl
 |i+1,hi=>by
  have ih:=aPO (r:=r) hc F i (by omega);obtain ⟨k,rfl⟩: ∃ k,c=k+1:=⟨c - 1,by omega⟩;rw [Nat.succ_mul,aPN F (show i<r by omega) k (bA _),ih,List.range_succ,List.map_append,List.map_cons,List.map_nil,aQY];congr 2;rw [cK,List.length_range];by_cases h:i=0
  ·rw [aV (show ¬ 0<i by omega),aU h]
  ·rw [aU (show 0<i by omega),aV h]
def fmT (p:Int) (m:Mt):List UInt8:=bif aAP p m then Lib.decDigits m.rows.toNat++[120]++Lib.decDigits m.cols.toNat++[58]++ctx m.cols.toNat m.cells m.cells.length else []
theorem aLK (p:Int) (m:Mt):(fmT p m).length ≤150:=by
 unfold fmT;cases hv:aAP p m with
 |false=>simp
 |true=>
  obtain ⟨hp,r,c,F,hr,hc,rfl,hF⟩:=aBq hv;have h1:=wS (a:=r) (by omega);have h2:=wS (a:=c) (by omega);have h3:=aGi c (bT r c F) (bT r c F).length;rw [dO] at h3;have h4:r*c≤8*8:=Nat.mul_le_mul hr hc;simp only [aN,dJ,List.length_append,List.length_cons,List.length_nil,dO];omega
theorem aUk {p:Int} (hp:iR p=true) {r c:Nat} {F:Nat→Nat→Int} (hF: ∀ i j,i<r→j<c→0≤F i j∧F i j<p) {i:Nat} (hi:i<r):Dg (dZ c (F i)):=by
 intro a ha;obtain ⟨j,hj,rfl⟩:=List.mem_map.1 ha;have:=hF i j hi (List.mem_range.1 hj);have:=dF hp;omega
theorem aVZ:(⟨#[120]⟩:ByteArray)=lB [120]:=rfl
theorem l58:(⟨#[58]⟩:ByteArray)=lB [58]:=rfl
theorem l47:(⟨#[47]⟩:ByteArray)=lB [47]:=rfl
theorem l32:(⟨#[32]⟩:ByteArray)=lB [32]:=rfl
theorem aVa (p:Int) {m:Mt} (hm:bM m):nH p m=some (lB (fmT p m)):=by
 unfold nH fmT;rw [aJe p hm,aA];cases hv:aAP p m with
 |false=>rfl
 |true=>
  obtain ⟨hp,r,c,F,hr,hc,rfl,hF⟩:=aBq hv;have h1:=wS (a:=r) (by omega);have h2:=wS (a:=c) (by omega);have h4:r*c≤8*8:=Nat.mul_le_mul hr hc;have h3:=aGi c (bT r c F) (r*c);have hrow: ∀ i,i<r→(dgs (dZ c (F i))).length ≤8:=λi _=>by unfold dgs;rw [cK,eN];exact hc
  simp only [eC,aS,aN,dJ];rw [aPM (by omega) (by omega) (by omega),aA];rw [cF (s:=(([]:List ByteArray),(0:Int))) (r:=((List.range r).map λi=>dgs (dZ c (F i))).map lB) (λk=>(((List.range k).map λi=>dgs (dZ c (F i))).map lB,(k:Int))) r rfl (λk hk=>?_) (λ_=>?_),aA]
  ·rw [aIW (by omega) (by omega),aA,dJ,aVZ,aCf (by simp;omega),aIW (by omega) (by omega),aA,dJ,nZ,aCf (by simp;omega),nZ,l58,aCf (by simp;omega),nZ];by_cases h0:c=0
   ·subst h0;rw [dM (by omega),aS,dO,Nat.mul_zero];simp [ctx]
   ·have hj:=aSV (sep:=[47]) (c:=8) (l:=(List.range r).map λi=>dgs (dZ c (F i))) (λx hx=>by
     obtain ⟨i,hi,rfl⟩:=List.mem_map.1 hx
     exact hrow i (List.mem_range.1 hi))
    simp only [cK,List.length_range,List.length_cons,List.length_nil] at hj;rw [bC (by omega),aN,l47,aIX (by omega) (by simp;omega),aA,aCf (by simp only [List.length_append,List.length_cons,List.length_nil];omega),nZ,dO,aPO (by omega) F r (bA _)]
  ·unfold jR;simp only [cK,List.length_range];rw [gC hk,aN,aBv hk,aA,aIT (aUk hp hF hk) (by rw [eN];omega),aA,bC (by simp;omega),aN,bK hk (by omega)];congr 3;rw [List.range_succ,List.map_append,List.map_append];rfl
  ·unfold jR;simp only [cK,List.length_range];rw [gS (bA _),aS]
theorem aVb (p:Int) {m:Mt} (hm:bM m):nI p m=some (lB (fmT p m)):=by
 unfold nI fmT;rw [aBR p hm,aA];cases hv:aAP p m with
 |false=>rfl
 |true=>
  obtain ⟨hp,r,c,F,hr,hc,rfl,hF⟩:=aBq hv;have hb:=dF hp;have h1:=wS (a:=r) (by omega);have h2:=wS (a:=c) (by omega);have h4:r*c≤8*8:=Nat.mul_le_mul hr hc;simp only [eC,aS,aN,dJ];rw [aIV (by omega) (by omega),aA,dJ,aVZ,aCf (by simp;omega),aIV (by omega) (by omega),aA,dJ,nZ,aCf (by simp;omega),nZ,l58,aCf (by simp;omega),nZ];generalize hA:Lib.decDigits r++[120]++Lib.decDigits c++[58]=A;have hAl:A.length≤6:=by rw [←hA];simp only [List.length_append,List.length_cons,List.length_nil];omega
  rw [cF (s:=(lB A,(0:Int))) (r:=lB (A++ctx c (bT r c F) (bT r c F).length)) (λt=>(lB (A++ctx c (bT r c F) t),(t:Int))) (bT r c F).length (by simp [ctx]) (λt ht=>?_) (λ_=>?_),aA]
  ·have ht':t<r*c:=by rw [dO] at ht;exact ht
   have hc0:0<c:=by rcases Nat.eq_zero_or_pos c with rfl|h;simp at ht';exact h
   have hi:t / c<r:=Nat.div_lt_of_lt_mul (by rw [Nat.mul_comm];exact ht')
   have hv2:0≤(bT r c F)[t]?.getD 0∧(bT r c F)[t]?.getD 0≤4:=by
    have e:(bT r c F)[t]? =some (F (t / c) (t % c)):=by simp [bT,ht']
    rw [e];have:=hF (t / c) (t % c) hi (Nat.mod_lt _ hc0);simp only [lF];omega
   have hl:=aGi c (bT r c F) t;have hTl:(bT r c F).length ≤64:=by rw [dO];omega
   unfold jS;simp only;rw [gC ht,aN];by_cases h0:0<t
   ·rw [bC (show (0:Int)<(t:Int) by omega),aN,dM (show ¬ ((c:Int)=0) by omega),Bool.not_false,aN,show ((t:Int).tmod (c:Int))=((t % c:Nat):Int) from rfl];by_cases h5:t % c=0
    ·rw [bC (show ((t % c:Nat):Int)=0 by omega),aN,l47,aCf (by simp only [List.length_append,List.length_cons,List.length_nil];omega),iJ 0 ht,aA,aMm hv2,aA,nZ,aCf (by simp only [List.length_append,List.length_cons,List.length_nil];omega),nZ,bK ht (by omega)];simp only [ctx];rw [aU ⟨h0,h5⟩];simp only [List.append_assoc]
    ·rw [dM (show ¬ ((t % c:Nat):Int)=0 by omega),aS,iJ 0 ht,aA,aMm hv2,aA,aCf (by simp only [List.length_append,List.length_cons,List.length_nil];omega),nZ,bK ht (by omega)];simp only [ctx];rw [aV (λh=>h5 h.2),List.append_nil];simp only [List.append_assoc]
   ·rw [dM (show ¬ (0:Int)<(t:Int) by omega),aS,iJ 0 ht,aA,aMm hv2,aA,aCf (by simp only [List.length_append,List.length_cons,List.length_nil];omega),nZ,bK ht (by omega)];simp only [ctx];rw [aV (λh=>h0 h.1),List.append_nil];simp only [List.append_assoc]
  ·unfold jS;simp only;rw [gS (bA _),aS]
def aGX (p:Int) (l:List Mt):Nat→List UInt8
 |0=>[]
 |k+1=>aGX p l k++[32]++fmT p (l[k]?.getD ⟨0,0,[]⟩)
theorem aEb (p:Int) (l:List Mt): ∀ k,(aGX p l k).length ≤151*k
 |0=>Nat.zero_le _
 |k+1=>by
  have:=aEb p l k;have:=aLK p (l[k]?.getD ⟨0,0,[]⟩);simp only [aGX,List.length_append,List.length_cons,List.length_nil];omega
def frT (r:Rp):List UInt8:=bif kV r then dgs r.dims++aGX r.p r.maps r.maps.length else []
theorem aFT {r:Rp} (h:kV r=true):Dg r.dims∧1≤r.dims.length∧r.dims.length≤5∧r.maps.length≤6:=by
 obtain ⟨hp,hD,hm,_⟩:=yH h;obtain ⟨hQ,hd1,hd2,_⟩:=jV hD;obtain ⟨n,hn,hn1,hn5,hq1,hq2,_,_⟩:=aAg hQ;exact ⟨λa ha=>hd2 a ha,by omega,by omega,by omega⟩
theorem aGj (x:List Int):(dgs x).length=x.length:=by unfold dgs;rw [cK]
theorem aTh (r:Rp):(frT r).length ≤1000:=by
 unfold frT;cases hv:kV r with
 |false=>simp
 |true=>
  obtain ⟨_,_,h1,h2⟩:=aFT hv;have:=aEb r.p r.maps r.maps.length;rw [aN,List.length_append,aGj];omega
theorem aVc {r:Rp} (hr:bR r):tE r=some (lB (frT r)):=by
 unfold tE frT;rw [nT hr,aA];cases hv:kV r with
 |false=>rfl
 |true=>
  obtain ⟨hD,_,h1,h2⟩:=aFT hv;rw [eC,aS,aN,aIT hD (by omega),aA];rw [cF (s:=(lB (dgs r.dims),(0:Int))) (r:=lB (dgs r.dims++aGX r.p r.maps r.maps.length)) (λk=>(lB (dgs r.dims++aGX r.p r.maps k),(k:Int))) r.maps.length (by simp [aGX]) (λk hk=>?_) (λ_=>?_),aA]
  ·have hl:=aEb r.p r.maps k;have hf:=aLK r.p (r.maps[k]?.getD ⟨0,0,[]⟩);have hd:=aGj r.dims;unfold nJ;simp only;rw [gC hk,aN,iJ ⟨0,0,[]⟩ hk,aA,aVa r.p (hr.2.2.1.2 _ (fT _ hk)),aA,l32,aCf (by simp only [List.length_cons,List.length_nil];omega),nZ,aCf (by simp only [List.length_append,List.length_cons,List.length_nil];omega),nZ,bK hk (by omega)];simp only [aGX,List.append_assoc]
  ·unfold nJ;simp only;rw [gS (bA _),aS]
theorem aVd {r:Rp} (hr:bR r):tF r=some (lB (frT r)):=by
 unfold tF frT;rw [hZ hr,aA];cases hv:kV r with
 |false=>rfl
 |true=>
  obtain ⟨hD,_,h1,h2⟩:=aFT hv;rw [eC,aS,aN];rw [cF (s:=((⟨#[]⟩:ByteArray),(0:Int))) (r:=lB (dgs r.dims)) (λk=>(lB (dgs (r.dims.take k)),(k:Int))) r.dims.length rfl (λk hk=>?_) (λ_=>?_),aA]
  ·rw [cF (s:=(lB (dgs r.dims),(0:Int))) (r:=lB (dgs r.dims++aGX r.p r.maps r.maps.length)) (λk=>(lB (dgs r.dims++aGX r.p r.maps k),(k:Int))) r.maps.length (by simp [aGX]) (λk hk=>?_) (λ_=>?_),aA]
   ·have hl:=aEb r.p r.maps k;have hf:=aLK r.p (r.maps[k]?.getD ⟨0,0,[]⟩);have hd:=aGj r.dims;unfold nL;simp only;rw [gC hk,aN,l32,aCf (by simp only [List.length_append,List.length_cons,List.length_nil];omega),iJ ⟨0,0,[]⟩ hk,aA,aVb r.p (hr.2.2.1.2 _ (fT _ hk)),aA,nZ,aCf (by simp only [List.length_append,List.length_cons,List.length_nil];omega),nZ,bK hk (by omega)];simp only [aGX,List.append_assoc]
   ·unfold nL;simp only;rw [gS (bA _),aS]
  ·have e:dgs (r.dims.take (k+1))=dgs (r.dims.take k)++[f8 (48+r.dims[k])]:=by
    unfold dgs;rw [aCM hk,List.map_append];rfl
   have hd:=aGj (r.dims.take k);rw [List.length_take] at hd;unfold nK;simp only;rw [gC hk,aN,dR hk,aA,aMm (hD _ (List.getElem_mem hk)),aA,aCf (by simp only [List.length_cons,List.length_nil];omega),nZ,e,bK hk (by omega)]
  ·unfold nK;simp only;rw [gS (bA _),aS,List.take_length]
end
noncomputable section
def idB (d:Nat):List (List Int):=(List.range d).map λi=>dZ d (aBS i)
theorem aQa: ∀ p,p<6→2≤p→ ∀ d,d<5→eZ (bF ((p:Nat):Int) d aBS d).1 (bF ((p:Nat):Int) d aBS d).2.length d=idB d:=by decide+kernel
theorem aSX {p:Int} (hp:iR p=true) {d:Nat} (hd:d≤4):eZ (bF p d aBS d).1 (bF p d aBS d).2.length d=idB d:=by
 have hb:=dF hp;have:=aQa p.toNat (by omega) (by omega) d (by omega)
 rwa [show ((p.toNat:Nat):Int)=p by omega] at this
theorem aQb: ∀ p,p<6→iR ((p:Nat):Int)=true→ ∀ d:Nat,d<5→jY ((p:Nat):Int) (d:Int) (idB d)=true:=by decide+kernel
theorem aSY {p:Int} (hp:iR p=true) {d:Nat} (hd:d≤4):jY p d (idB d)=true:=by
 have hb:=dF hp;have e:((p.toNat:Nat):Int)=p:=by omega
 have:=aQb p.toNat (by omega) (by rw [e];exact hp) d (by omega)
 rwa [e] at this
def whS (r:Rp):List Sc:=(List.range r.dims.length).map λv=>⟨(dN r v:Int),idB (dN r v)⟩
theorem aUl {r:Rp} (R:Rv r):Sps r (whS r):=by
 have key: ∀ v,v<r.dims.length→sG (whS r) v=⟨(dN r v:Int),idB (dN r v)⟩:=by
  intro v hv;unfold sG whS;rw [List.getElem?_map,List.getElem?_range hv];rfl
 exact ⟨by simp [whS],λv hv=>by rw [key v hv],λv hv=>by rw [key v hv];exact aSY R.hp (R.d v hv).2⟩
def kmL (r:Rp) (i:Nat):List (List Int):=aAp r.p (dN r (sV r i)) (bF r.p (dN r (tV r i)) (aF r i) (dN r (sV r i))).1 (bF r.p (dN r (tV r i)) (aF r i) (dN r (sV r i))).2
theorem aSZ (r:Rp) (i:Nat):(kmL r i).length ≤dN r (sV r i):=by
 unfold kmL aAp;rw [cK];exact aEq _ _
def aCg (r:Rp):Nat→List Sc
 |0=>whS r
 |i+1=>(aCg r i).set (sV r i) ⟨(dN r (sV r i):Int),aJP r.p (dN r (sV r i)) (sG (aCg r i) (sV r i)).basis (eD r.p (dN r (sV r i)) (kmL r i))⟩
theorem aCz {r:Rp} (R:Rv r): ∀ i,i≤r.q.src.length→Sps r (aCg r i)
 |0,_=>aUl R
 |i+1,hi=>by
  have ih:=aCz R i (by omega);have hs:=(R.s i (by omega)).2;have hd:=(R.d _ hs).2;exact ih.set hs (aNe R.hp (by omega))
section
variable {r:Rp} (hr:bR r) (h:kV r=true)
theorem aMp {d:Nat} (hd:d≤4):sX (d:Int)=some ⟨(d:Int),idB d⟩:=by
 unfold sX;rw [aOB (sq hd hd) (by omega),aA,aPM (sq hd hd) (by omega) (by omega),aA];rfl
include h in
theorem aTk:zP r=some (aCg r r.q.src.length):=by
 have R:=kH h;have h5:=R.n5;have h6:=R.e6;have hml:=R.ml;unfold zP;rw [cF (s:=(([]:List Sc),(0:Int))) (r:=whS r) (λk=>((List.range k).map λv=>(⟨(dN r v:Int),idB (dN r v)⟩:Sc),(k:Int))) r.dims.length rfl (λv hv=>?_) (λ_=>?_),aA]
 ·rw [cF (s:=(whS r,(0:Int))) (r:=aCg r r.q.src.length) (λk=>(aCg r k,(k:Int))) r.q.src.length rfl (λi hi=>?_) (λ_=>?_),aA]
  ·have hs:=R.s i hi;have ht:=(R.t i hi).2;have d1:=(R.d _ hs.2).2;have d2:=(R.d _ ht).2;obtain ⟨hM,hMi⟩:=R.m i hi;have S:=aCz R i (by omega);obtain ⟨_,n,e,_,hbl,hv,_⟩:=dS (S.ok _ hs.2);have e:dN r (sV r i)=n:=by omega
   have hkl:=aSZ r i;have hkv:VecsP r.p (dN r (sV r i)) (kmL r i):=aCx R.hp _ _ _;have hsl:= @yE r.p (dN r (sV r i)) (kmL r i);unfold vD;simp only;rw [hml,gC hi,aN,iJ ⟨0,0,[]⟩ (by omega),aA,hM,iJ 0 hi,aA,hs.1,S.at hs.2,aA,aEa ⟨R.hp,sq d2 d1,by omega,by omega,hMi⟩,aA];rw [show aAp r.p (dN r (sV r i)) (bF r.p (dN r (tV r i)) (aF r i) (dN r (sV r i))).1 (bF r.p (dN r (tV r i)) (aF r i) (dN r (sV r i))).2=kmL r i from rfl,xF R.hp (by omega) (by omega) hkv,aA,aMl R.hp (by omega) (by rw [e];exact hv) (by omega) (rT R.hp hkv.inP) (by omega),aA,bK hi (by omega),dJ];rfl
  ·unfold vD;simp only;rw [hml,gS (bA _),aS]
 ·have hd:=R.d v hv;unfold vC;simp only;rw [gC hv,aN,iJ 0 hv,aA,hd.1,aMp hd.2,aA,bC (by simp;omega),aN,bK hv (by omega)];congr 3;exact pR (f:=λv=>(⟨(dN r v:Int),idB (dN r v)⟩:Sc))
 ·unfold vC;simp only;rw [gS (bA _),aS];rfl
include hr h in
theorem aQc:wP r=some (aCg r r.q.src.length,true):=by
 have R:=kH h;have h5:=R.n5;have h6:=R.e6;have hml:=R.ml;unfold wP yQ;rw [cF (s:=(([]:List Sc),(0:Int))) (r:=whS r) (λk=>((List.range k).map λv=>(⟨(dN r v:Int),idB (dN r v)⟩:Sc),(k:Int))) r.dims.length rfl (λv hv=>?_) (λ_=>?_),aA,hZ hr,h,aA,aA]
 ·rw [cF (s:=(whS r,(0:Int))) (r:=aCg r r.q.src.length) (λk=>(aCg r k,(k:Int))) r.q.src.length rfl (λi hi=>?_) (λ_=>?_),aA]
  ·have hs:=R.s i hi;have ht:=(R.t i hi).2;have d1:=(R.d _ hs.2).2;have d2:=(R.d _ ht).2;obtain ⟨hM,hMi⟩:=R.m i hi;have S:=aCz R i (by omega);obtain ⟨_,n,e,_,hbl,hv,_⟩:=dS (S.ok _ hs.2);have e:dN r (sV r i)=n:=by omega
   have hkl:=aSZ r i;have hkv:VecsP r.p (dN r (sV r i)) (kmL r i):=aCx R.hp _ _ _;have hsl:= @yE r.p (dN r (sV r i)) (kmL r i);unfold rB;simp only;rw [hml,gC hi,aN,aN,iJ 0 hi,aA,hs.1,S.at hs.2,aA,iJ 0 hs.2,aA,(R.d _ hs.2).1,iJ ⟨0,0,[]⟩ (by omega),aA,hM,aDq ⟨R.hp,sq d2 d1,by omega,by omega,hMi⟩,aA];rw [show aAp r.p (dN r (sV r i)) (bF r.p (dN r (tV r i)) (aF r i) (dN r (sV r i))).1 (bF r.p (dN r (tV r i)) (aF r i) (dN r (sV r i))).2=kmL r i from rfl,aAK R.hp (by omega) (by omega) hkv,aA,aLH R.hp (by omega) (by rw [e];exact hv) (by omega) (rT R.hp hkv.inP) (by omega) (S.ok _ hs.2) (rI R.hp (by omega) hkv),aA,aA,bK hi (by omega),dJ];rfl
  ·unfold rB;simp only;rw [hml,gS (bA _),aS]
 ·have hd:=R.d v hv;unfold pI;simp only;rw [gC hv,aN,hZ hr,aA,h,aN,iJ 0 hv,aA,aA,hd.1,aKk (sq hd.2 hd.2) (by omega),aA,aFG ⟨R.hp,sq hd.2 hd.2,by omega,by omega,aTT R.hp _ _⟩,aA,aSX R.hp hd.2,bC (by simp;omega),aN,bK hv (by omega)];congr 3;exact pR (f:=λv=>(⟨(dN r v:Int),idB (dN r v)⟩:Sc))
 ·unfold pI;simp only;rw [gS (bA _),aS];rfl
end
end
noncomputable section
section
variable {r:Rp} (hr:bR r) (h:kV r=true)
include hr h
theorem aQd:tA r=some (dC (aCg r r.q.src.length)):=by
 have R:=kH h;have h5:=R.n5;have S:=aCz R r.q.src.length (bA _);have hl:=S.len;unfold tA;rw [nT hr,aA,h,eC,aS,aTk h,aA,xJ (by omega),aA]
theorem aQe:tB r=some (dC (aCg r r.q.src.length)):=by
 have R:=kH h;have h5:=R.n5;have S:=aCz R r.q.src.length (bA _);unfold tB;rw [aQc hr h,aA];generalize aCg r r.q.src.length=s at S ⊢;have hl:=S.len;rw [cF (r:=dC s) (λk=>((s.take k).map (λx=>(x.basis.length:Int)),(k:Int))) s.length (by simp) (λk hk=>?_) (λ_=>?_),aA]
 ·unfold nF;simp only;rw [gC hk,aN,aN,iJ ⟨0,[]⟩ hk,aA,bC (by rw [cK,List.length_take];simp;omega),aN,bK hk (by omega),sP (λx:Sc=>(x.basis.length:Int)) _ hk]
 ·unfold nF;simp only;rw [gS (bA _),aS,List.take_length];rfl
end
end
noncomputable section
theorem aIY {P k:Nat} (hP:P≤5) (hk:k≤4):P ^ k≤625:=by
 have h1:P ^ k≤5 ^ k:=Nat.pow_le_pow_left hP k;have h2:5 ^ k≤5 ^ 4:=Nat.pow_le_pow_right (by omega) hk;omega
section
variable {p:Int} (hp:iR p=true) {d:Nat} (hd:d≤4)
include hp hd
theorem aPP:zO p (d:Int)=some ((p.toNat ^ d:Nat):Int):=by
 obtain ⟨e,e2,e5⟩:=zT hp;unfold zO;rw [cF (s:=((1:Int),(0:Int))) (r:=((p.toNat ^ d:Nat):Int)) (λk=>(((p.toNat ^ k:Nat):Int),(k:Int))) d rfl (λk hk=>?_) (λ_=>?_),aA]
 ·have hb:=aIY (P:=p.toNat) (k:=k+1) e5 (by omega);have em:((p.toNat ^ k:Nat):Int)*p=((p.toNat ^ (k+1):Nat):Int):=by rw [Nat.pow_succ,Int.natCast_mul,e]
  unfold vA;simp only;rw [gC hk,aN,em,cZ (by omega),bK hk (by omega)]
 ·unfold vA;simp only;rw [gS (bA _),aS]
theorem aQf:wK p (d:Int)=some ((p.toNat ^ d:Nat):Int):=by
 obtain ⟨e,e2,e5⟩:=zT hp;unfold wK;rw [cF (s:=((1:Int),(0:Int))) (r:=((p.toNat ^ d:Nat):Int)) (λk=>(((p.toNat ^ k:Nat):Int),(k:Int))) d rfl (λk hk=>?_) (λ_=>?_),aA]
 ·have hb:=aIY (P:=p.toNat) (k:=k+1) e5 (by omega);have em:((p.toNat ^ k:Nat):Int)*p=((p.toNat ^ (k+1):Nat):Int):=by rw [Nat.pow_succ,Int.natCast_mul,e]
  unfold qS;simp only;rw [gC hk,aN,em,cZ (by omega),bK hk (by omega)]
 ·unfold qS;simp only;rw [gS (bA _),aS]
theorem aOT {c:Nat} (hc:c<p.toNat ^ d):uY p (d:Int) (c:Int)=some (dZ d λi=>(dgN p.toNat d c i:Int),true):=by
 obtain ⟨e,e2,e5⟩:=zT hp;have hb:=aIY (P:=p.toNat) (k:=d) e5 hd;have hc2:c≤1000000:=by omega
 unfold uY;rw [aEN,hp,aA,eC,aS,yN,aA,wX (by omega) (by omega),eC,aS,dM (by omega),aS];rw [bC (by omega),bC (by omega:(d:Int)≤1048576),Bool.and_self,aN,dJ];rw [cF (r:=(((c / p.toNat ^ d:Nat):Int),dZ d λi=>(dgN p.toNat d c i:Int))) (λt=>(((c / p.toNat ^ t:Nat):Int),dZ d (λi=>if d - t≤i then (dgN p.toNat d c i:Int) else 0),(d:Int) - 1 - t)) d ?_ (λt ht=>?_) (λ_=>?_),aA]
 ·simp only;rw [Nat.div_eq_of_lt hc];rfl
 ·rw [cZ (by omega),aFF];simp only [Nat.pow_zero,Nat.div_one,Nat.sub_zero];congr 2
  ·exact kG λj hj=>by rw [aV (by omega)]
  ·omega
 ·have ei:(d:Int) - 1 - (t:Int)=((d - 1 - t:Nat):Int):=by omega
  have hq:c / p.toNat ^ t≤c:=Nat.div_le_self _ _;have hq2:c / p.toNat ^ (t+1)≤c:=Nat.div_le_self _ _;unfold pG;simp only;rw [ei,bC (by omega),aN,aPy hp,aN,aBr _ (by omega),aA,aN,dJ,Int.tmod_eq_emod_of_nonneg (Int.natCast_nonneg _),Int.tdiv_eq_ediv_of_nonneg (Int.natCast_nonneg _),aES (by omega)]
  have e3:((c / p.toNat ^ t:Nat):Int) / p=((c / p.toNat ^ (t+1):Nat):Int):=by
   rw [Nat.pow_succ,←Nat.div_div_eq_div_mul];generalize c / p.toNat ^ t=q;rw [Int.natCast_ediv,e]
  have e4:((c / p.toNat ^ t:Nat):Int) % p=(dgN p.toNat d c (d - 1 - t):Int):=by
   unfold dgN;rw [show d - 1 - (d - 1 - t)=t by omega,Int.natCast_emod,e]
  rw [e3,e4,cZ ⟨Int.le_trans (by decide) (Int.natCast_nonneg _),Int.le_trans (Int.ofNat_le.2 (Nat.le_trans hq2 hc2)) (by decide)⟩,cZ (by omega)];congr 4
  ·refine kG λj hj=>?_;by_cases e6:j=d - 1 - t
   ·rw [aU e6,aU (by omega),e6]
   ·rw [aV e6];by_cases e7:d - t≤j
    ·rw [aU e7,aU (by omega)]
    ·rw [aV e7,aV (by omega)]
  ·omega
 ·unfold pG;simp only;rw [dM (by omega),aS];congr 3;exact kG λj hj=>by rw [aU (by omega)]
end
end
noncomputable section
theorem aTl {L M:List Nat} (hL: ∀ i k,i<k→k<L.length→L[i]?.getD 0<L[k]?.getD 0) (hM: ∀ i k,i<k→k<M.length→M[i]?.getD 0<M[k]?.getD 0) (hs: ∀ t,t<M.length→ ∃ i,i<L.length∧L[i]?.getD 0=M[t]?.getD 0):M.length≤L.length:=by
 have key: ∀ t,t<M.length→ ∀ i,i<L.length→L[i]?.getD 0=M[t]?.getD 0→t≤i:=by
  intro t;induction t with
  |zero=>intro _ i _ _;exact Nat.zero_le _
  |succ t ih=>
   intro ht i hi e;obtain ⟨j,hj,ej⟩:=hs t (by omega);have h1:=ih (by omega) j hj ej;have h2:=hM t (t+1) (by omega) ht;rcases dV j i with h|h
   ·omega
   ·rcases dV i j with h3|h3
    ·have:=hL i j h3 hj;omega
    ·have:i=j:=by omega
     subst this;omega
 rcases Nat.eq_zero_or_pos M.length with h0|h0
 ·omega
 ·obtain ⟨i,hi,e⟩:=hs (M.length - 1) (by omega);have:=key (M.length - 1) (by omega) i hi e;omega
section
variable {p:Int} (hp:iR p=true) {n:Nat} {a b:List (List Int)} (ha:VecsP p n a) (hb:VecsP p n b)
include hp ha hb
theorem aPQ (x:Nat→Int) (h:Kr p (vU p n a b).length n (cD (vU p n a b)) x):Kr p a.length n (cD a) x:=by
 have hk:=xV hp (ha.append hb).inP x n (bA _);have hr:=aAD hp (ha.append hb).inP n (bA _);refine (zW.1 (hk.1 λi hi=>?_)).1;rcases dV i (bF p (a++b).length (cD (a++b)) n).2.length with h'|h'
 ·have h2:=h i (by unfold vU eD;rw [lL];exact h');unfold vU eD at h2;have e:dt n (cD (eZ (bF p (a++b).length (cD (a++b)) n).1 (bF p (a++b).length (cD (a++b)) n).2.length n) i) x=dt n ((bF p (a++b).length (cD (a++b)) n).1 i) x:=gZ λj hj=>by rw [aBf _ _ _ _ _ h' hj]
  rw [←e];exact h2
 ·have e0:dt n ((bF p (a++b).length (cD (a++b)) n).1 i) x=0:=by
   unfold dt;rw [gZ (g:=λ_=>0) (λk hk=>by rw [hr.low i k h' hi hk];simp),zF]
  rw [e0];unfold Z0;simp
variable (hs:eD p n a=a)
include hs
theorem aTm:a.length≤(vU p n a b).length:=by
 have hv:=rT hp (ha.append hb).inP;obtain ⟨L,l1,R1⟩:=aBT hp hv (aEo hp (ha.append hb).inP);obtain ⟨M,m1,R2⟩:=aBT hp ha hs;have:=aTl R1.inc R2.inc λt ht=>aGg hp R1 R2 (aPQ hp ha hb) ht;unfold vU;omega
theorem aMq (h:(vU p n a b).length=a.length):vU p n a b=a:=by
 have hv:=rT hp (ha.append hb).inP;obtain ⟨L,l1,R1⟩:=aBT hp hv (aEo hp (ha.append hb).inP);obtain ⟨M,m1,R2⟩:=aBT hp ha hs;have hl:L.length=M.length:=by unfold vU at h;omega
 obtain ⟨_,e⟩:=aMV hp R1 R2 hv.inP ha.inP (aPQ hp ha hb) hl;have q1:=aEU (l:=vU p n a b) (λv hv'=>(hv v hv').1);have q2:=aEU (l:=a) (λv hv'=>(ha v hv').1);refine q1.trans (Eq.trans ?_ q2.symm);rw [h];refine yR λi hi=>kG λj hj=>?_;have hi:=List.mem_range.1 hi;exact e i j (by unfold vU at h;omega) hj
end
end
noncomputable section
def gnB (r:Rp) (s:List Sc) (i:Nat):List (List Int):=eD r.p (dN r (tV r i)) (imL r.p (dN r (tV r i)) (dN r (sV r i)) (aF r i) (sG s (sV r i)).basis)
def gnR (r:Rp) (s:List Sc):Nat→List Sc
 |0=>s
 |i+1=>(gnR r s i).set (tV r i) ⟨(dN r (tV r i):Int),vU r.p (dN r (tV r i)) (sG (gnR r s i) (tV r i)).basis (gnB r (gnR r s i) i)⟩
theorem aIZ {r:Rp} (R:Rv r) (s:List Sc) (i:Nat):VecsP r.p (dN r (tV r i)) (gnB r s i):=rT R.hp (aEY R.hp (dN r (tV r i)) (dN r (sV r i)) (aF r i) (sG s (sV r i)).basis).inP
theorem aCh {r:Rp} (R:Rv r) {s:List Sc} (S:Sps r s): ∀ i,i≤r.q.src.length→Sps r (gnR r s i)
 |0,_=>S
 |i+1,hi=>by
  have ih:=aCh R S i (by omega);have ht:=(R.t i (by omega)).2;have hd:=(R.d _ ht).2;obtain ⟨_,n,e,_,_,hv,_⟩:=dS (ih.ok _ ht);have e:dN r (tV r i)=n:=by omega
  exact ih.set ht (aJQ R.hp (by omega) (by rw [e];exact hv) (aIZ R _ i))
section
variable {r:Rp} (R:Rv r) {s:List Sc} (S:Sps r s)
include R S
theorem aPR:Lp (jG r) (s,0)=some (gnR r s r.q.src.length):=by
 have h6:=R.e6;have hml:=R.ml;rw [cF (s:=(s,(0:Int))) (r:=gnR r s r.q.src.length) (λk=>(gnR r s k,(k:Int))) r.q.src.length rfl (λi hi=>?_) (λ_=>?_)]
 ·have hs:=R.s i hi;have ht:=R.t i hi;have d1:=(R.d _ hs.2).2;have d2:=(R.d _ ht.2).2;obtain ⟨hM,hMi⟩:=R.m i hi;have G:=aCh R S i (by omega);obtain ⟨_,n,e,_,hbl,hv,_⟩:=dS (G.ok _ ht.2);have e:dN r (tV r i)=n:=by omega
  obtain ⟨_,n2,e2,_,hbl2,hv2,_⟩:=dS (G.ok _ hs.2);have e2:dN r (sV r i)=n2:=by omega
  have hsl:(gnB r (gnR r s i) i).length ≤dN r (tV r i):=yE.1;unfold jG;simp only;rw [hml,gC hi,aN,iJ ⟨0,0,[]⟩ (by omega),aA,hM,iJ 0 (by have:=R.tl;omega),aA,ht.1,G.at ht.2,aA,iJ 0 hi,aA,hs.1,G.at hs.2,aA,aQJ R.hp (by omega) (by omega) hMi (by omega) (by rw [e2];exact hv2),aA];rw [show eD r.p (dN r (tV r i)) (imL r.p (dN r (tV r i)) (dN r (sV r i)) (aF r i) (sG (gnR r s i) (sV r i)).basis)=gnB r (gnR r s i) i from rfl,aIK R.hp (by omega) (by rw [e];exact hv) (aIZ R _ i) (by omega),aA,aA,bK hi (by omega),dJ];rfl
 ·unfold jG;simp only;rw [hml,gS (bA _),aS]
theorem aQg:Lp (kJ r) (s,0)=some (gnR r s r.q.src.length):=by
 have h6:=R.e6;have hml:=R.ml;rw [cF (s:=(s,(0:Int))) (r:=gnR r s r.q.src.length) (λk=>(gnR r s k,(k:Int))) r.q.src.length rfl (λi hi=>?_) (λ_=>?_)]
 ·have hs:=R.s i hi;have ht:=R.t i hi;have d1:=(R.d _ hs.2).2;have d2:=(R.d _ ht.2).2;obtain ⟨hM,hMi⟩:=R.m i hi;have G:=aCh R S i (by omega);obtain ⟨_,n2,e2,_,hbl2,hv2,_⟩:=dS (G.ok _ hs.2);have e2:dN r (sV r i)=n2:=by omega
  unfold kJ;simp only;rw [hml,gC hi,aN,iJ 0 (by have:=R.tl;omega),aA,ht.1,iJ ⟨0,0,[]⟩ (by omega),aA,hM,iJ 0 hi,aA,hs.1,G.at hs.2,aA,aFq R.hp (by omega) (by omega) (aMc R.hp (by omega) (by omega) hMi) hMi (G.ok _ hs.2) (by rw [e2];exact hv2) (by omega),aA,G.at ht.2,aA];rw [show eD r.p (dN r (tV r i)) (imL r.p (dN r (tV r i)) (dN r (sV r i)) (aF r i) (sG (gnR r s i) (sV r i)).basis)=gnB r (gnR r s i) i from rfl,aFr (by omega) (G.ok _ ht.2) (show jY r.p (dN r (tV r i)) (gnB r (gnR r s i) i)=true from rI R.hp (by omega) (aEY R.hp (dN r (tV r i)) (dN r (sV r i)) (aF r i) _)),aA,aA,bK hi (by omega),dJ];rfl
 ·unfold kJ;simp only;rw [hml,gS (bA _),aS]
end
end
noncomputable section
theorem aOU {s:List Sc} {v:Nat} (hv:v<s.length) (z:Int) (b:List (List Int)) (u:Nat):bN (s.set v ⟨z,b⟩) u=if u=v then b.length else bN s u:=by
 unfold bN sG;rw [List.getElem?_set];by_cases e:v=u
 ·subst e;rw [aU rfl,aU hv,aU rfl];rfl
 ·rw [aV e,aV (λe2=>e e2.symm)]
section
variable {r:Rp} (R:Rv r) {s:List Sc} (S:Sps r s)
include R S
theorem aPS {i:Nat} (hi:i<r.q.src.length) (u:Nat):bN (gnR r s i) u≤bN (gnR r s (i+1)) u:=by
 have G:=aCh R S i (by omega);have ht:=(R.t i hi).2;obtain ⟨_,n,e,_,_,hv,hsp⟩:=dS (G.ok _ ht);have e:dN r (tV r i)=n:=by omega
 subst e;show _≤bN ((gnR r s i).set (tV r i) _) u;rw [aOU (by rw [G.len];exact ht)];by_cases e2:u=tV r i
 ·rw [aU e2,e2];exact aTm R.hp hv (aIZ R _ i) hsp
 ·rw [aV e2];exact bA _
theorem aGk (u:Nat): ∀ d i,i+d≤r.q.src.length→bN (gnR r s i) u≤bN (gnR r s (i+d)) u
 |0,i,_=>bA _
 |d+1,i,h=>Nat.le_trans (aGk u d i (by omega)) (aPS R S (i:=i+d) (by omega) u)
theorem aLL (h: ∀ u,u<r.dims.length→bN (gnR r s r.q.src.length) u=bN s u): ∀ i,i≤r.q.src.length→gnR r s i=s
 |0,_=>rfl
 |i+1,hi=>by
  have ih:=aLL h i (by omega);have ht:=(R.t i (by omega)).2;have G:=aCh R S i (by omega);obtain ⟨_,n,e,_,_,hv,hsp⟩:=dS (G.ok _ ht);have e:dN r (tV r i)=n:=by omega
  subst e;have m1:=aGk R S (tV r i) (r.q.src.length - (i+1)) (i+1) (by omega);rw [show i+1+(r.q.src.length - (i+1))=r.q.src.length by omega,h _ ht] at m1;have m2:=aPS R S (i:=i) (by omega) (tV r i);have e3:bN (gnR r s (i+1)) (tV r i)=bN (gnR r s i) (tV r i):=by rw [ih] at m2 ⊢;omega
  have e4:bN (gnR r s (i+1)) (tV r i)=(vU r.p (dN r (tV r i)) (sG (gnR r s i) (tV r i)).basis (gnB r (gnR r s i) i)).length:=by
   show bN ((gnR r s i).set (tV r i) _) (tV r i)=_;rw [aOU (by rw [G.len];exact ht),aU rfl]
  have e5:=aMq R.hp hv (aIZ R (gnR r s i) i) hsp (by rw [←e4,e3];rfl);show (gnR r s i).set (tV r i) _=s;rw [e5,ih];have hl:tV r i<s.length:=by rw [S.len];exact ht
  refine List.ext_getElem (by simp) λt h1 h2=>?_;rw [List.getElem_set];by_cases e6:tV r i=t
  ·subst e6;rw [aU rfl];have h7:sG s (tV r i)=s[tV r i]:=by unfold sG;rw [iY hl];rfl
   rw [←S.sz _ ht,h7]
  ·rw [aV e6]
end
end
noncomputable section
theorem aLM: ∀ {s t:List Sc},s.length=t.length→(∀ u,bN s u≤bN t u)→(dC s).sum ≤(dC t).sum∧((dC t).sum=(dC s).sum→ ∀ u,u<s.length→bN t u=bN s u)
 | [],[],_,_=>⟨Int.le_refl _,λ_ u hu=>absurd hu (by simp)⟩
 |x::s,y::t,hl,h=>by
  obtain ⟨i1,i2⟩:=aLM (s:=s) (t:=t) (by simpa using hl) λu=>h (u+1);have h0:x.basis.length≤y.basis.length:=h 0;have e1:(dC (x::s)).sum=(x.basis.length:Int)+(dC s).sum:=rfl;have e2:(dC (y::t)).sum=(y.basis.length:Int)+(dC t).sum:=rfl;rw [e1,e2];refine ⟨by omega,λhe u hu=>?_⟩;cases u with
  |zero=>show y.basis.length=x.basis.length;omega
  |succ u=>exact i2 (by omega) u (by simpa using hu)
 | [],_::_,hl,_=>by simp at hl
 |_::_,[],hl,_=>by simp at hl
def rnd (r:Rp) (s:List Sc):List Sc:=gnR r s r.q.src.length
def itR (r:Rp) (s:List Sc):Nat→List Sc
 |0=>s
 |m+1=>rnd r (itR r s m)
theorem aJy (r:Rp): ∀ (m:Nat) (s:List Sc),itR r s (m+1)=itR r (rnd r s) m
 |0,s=>rfl
 |m+1,s=>by show rnd r (itR r s (m+1))=rnd r (itR r (rnd r s) m);rw [aJy r m s]
theorem aLN {r:Rp} {s:List Sc} (h:rnd r s=s): ∀ m,itR r s m=s
 |0=>rfl
 |m+1=>by show rnd r (itR r s m)=s;rw [aLN h m,h]
theorem Sps.sum {r:Rp} (R:Rv r) {s:List Sc} (S:Sps r s):lM (dC s)=some (dC s).sum∧(dC s).sum ≤4*r.dims.length:=by
 have h5:=R.n5;have hl:=S.len
 have hb: ∀ x∈dC s,0≤x∧x≤4:=by
  intro x hx;rw [aBx hl] at hx;obtain ⟨v,hv,rfl⟩:=List.mem_map.1 hx;have:=S.bd R (List.mem_range.1 hv);have:=(R.d v (List.mem_range.1 hv)).2;omega
 have hn:(dC s).length=r.dims.length:=by unfold dC;rw [cK];exact hl
 refine ⟨aKh hb (by omega),?_⟩;have:=(aHf hb).2;omega
end
noncomputable section
theorem aTn {r:Rp} (R:Rv r) {B:Int} (hB: ∀ s,Sps r s→(dC s).sum ≤B): ∀ (d:Nat) (s:List Sc),Sps r s→B - (dC s).sum ≤d→ ∃ t,Lp (fV r) s=some t∧(∀ m,d+1≤m→itR r s m=t)∧Sps r t∧rnd r t=t:=by
 intro d;induction d with
 |zero=>
  intro s S hd;have hT:=aCh R S r.q.src.length (bA _);have hle:=aLM (s:=s) (t:=rnd r s) (by rw [S.len];exact hT.len.symm) λu=>by have:=aGk R S u r.q.src.length 0 (by omega);rwa [Nat.zero_add] at this
  have h1:=(S.sum R);have h2:=(hT.sum R);have h5:=R.n5;have hl:=S.len;have hl2:=hT.len
  have he:(dC (rnd r s)).sum=(dC s).sum:=by
   have:=hle.1;have:=hB _ hT;show (dC (gnR r s r.q.src.length)).sum=_;unfold rnd at*;omega
  have hf:rnd r s=s:=aLL R S (λu hu=>hle.2 he u (by omega)) _ (bA _);refine ⟨s,iQ ?_,λm _=>aLN hf m,S,hf⟩;unfold fV;rw [xJ (by omega),aA,h1.1,aA,aPR R S,aA,xJ (by omega),aA,h2.1,aA,bC (show (dC (gnR r s r.q.src.length)).sum=(dC s).sum from he),aN];show some (Sum.inr (rnd r s))=_;rw [hf]
 |succ d ih=>
  intro s S hd;have hT:=aCh R S r.q.src.length (bA _);have hle:=aLM (s:=s) (t:=rnd r s) (by rw [S.len];exact hT.len.symm) λu=>by have:=aGk R S u r.q.src.length 0 (by omega);rwa [Nat.zero_add] at this
  have h1:=(S.sum R);have h2:=(hT.sum R);have h5:=R.n5;have hl:=S.len;have hl2:=hT.len
  have hbody:fV r s=some (bif decide ((dC (rnd r s)).sum=(dC s).sum) then .inr (rnd r s) else .inl (rnd r s)):=by
   unfold fV;rw [xJ (by omega),aA,h1.1,aA,aPR R S,aA,xJ (by omega),aA,h2.1,aA];show _=some (bif decide ((dC (gnR r s r.q.src.length)).sum=(dC s).sum) then _ else _);cases decide ((dC (gnR r s r.q.src.length)).sum=(dC s).sum) <;> rfl
  by_cases he:(dC (rnd r s)).sum=(dC s).sum
  ·have hf:rnd r s=s:=aLL R S (λu hu=>hle.2 he u (by omega)) _ (bA _);rw [bC he,aN] at hbody;refine ⟨s,?_,λm _=>aLN hf m,S,hf⟩;rw [iQ hbody,hf]
  ·rw [dM he,aS] at hbody;obtain ⟨t,t1,t2,t3,t4⟩:=ih (rnd r s) hT (by have:=hle.1;omega);refine ⟨t,(mS hbody).trans t1,λm hm=>?_,t3,t4⟩;obtain ⟨m',rfl⟩: ∃ m',m=m'+1:=⟨m - 1,by omega⟩;rw [aJy];exact t2 m' (by omega)
end
noncomputable section
theorem aSb {r:Rp} (R:Rv r) {s:List Sc} (S:Sps r s): ∀ m,Sps r (itR r s m)
 |0=>S
 |m+1=>aCh R (aSb R S m) _ (bA _)
theorem aQh {r:Rp} (R:Rv r) {s:List Sc} (S:Sps r s):Lp (kK r) (s,0)=some (itR r s 9):=by
 rw [cF (s:=(s,(0:Int))) (r:=itR r s 9) (λk=>(itR r s k,(k:Int))) 9 rfl (λk hk=>?_) (λ_=>?_)]
 ·unfold kK;simp only;rw [bC (by omega),aN,aQg R (aSb R S k),aA,bK hk (by omega)];rfl
 ·unfold kK;simp only;rw [dM (by omega),aS]
theorem aTo {r:Rp} (R:Rv r) {s:List Sc} (S:Sps r s):vB r s=some (itR r s 9):=by
 have h5:=R.n5;have hl:=S.len;unfold vB;rw [bC (by simp;omega),aN,List.nil_append,aQh R S,aA]
theorem aTp {a b:List Int} (hl:a.length=b.length) (h: ∀ k,k<a.length→a[k]?.getD 0≤b[k]?.getD 0):a.sum≤b.sum:=by
 induction a generalizing b with
 |nil=>cases b with
  |nil=>exact Int.le_refl _
  |cons y b=>simp at hl
 |cons x a ih=>cases b with
  |nil=>simp at hl
  |cons y b=>
   have h0:=h 0 (by simp);have h1:=ih (b:=b) (by simpa using hl) λk hk=>by have:=h (k+1) (by simpa using hk);simpa using this
   simp only [List.sum_cons];simp at h0;omega
theorem aUm {r:Rp} (R:Rv r) {s:List Sc} (S:Sps r s):(dC s).sum ≤r.dims.sum:=by
 have hl:=S.len;refine aTp (by unfold dC;rw [cK];exact hl) λk hk=>?_;have hk':k<r.dims.length:=by unfold dC at hk;rw [cK] at hk;omega
 rw [aBx hl,(R.d k hk').1,List.getElem?_map,List.getElem?_range hk'];have:=S.bd R hk';simp only [Option.map_some,lF];omega
end
noncomputable section
def stS (r:Rp) (v:Nat) (x:List Int):List Sc:=(zeS r).set v ⟨(dN r v:Int),eD r.p (dN r v) [x]⟩
theorem aOV {r:Rp} {v:Nat} {x:List Int} (hx:x.length=dN r v) (hx2: ∀ z∈x,0≤z∧z<r.p):VecsP r.p (dN r v) [x]:=λw hw=>by rw [List.mem_singleton.1 hw];exact ⟨hx,hx2⟩
section
variable {r:Rp} (h:kV r=true) {v:Nat} (hv:v<r.dims.length) {x:List Int} (hx:x.length=dN r v) (hx2: ∀ z∈x,0≤z∧z<r.p)
include h hv hx hx2
theorem aSc:Sps r (stS r v x):=by
 have R:=kH h;have hd:=(R.d v hv).2;exact (aLE R).set hv (rI R.hp (by omega) (aOV hx hx2))
theorem aFs: ∃ t,sY r (v:Int) x=some t∧t=itR r (stS r v x) 9∧Sps r t∧rnd r t=t:=by
 have R:=kH h;have hd:=R.d v hv;have S:=aSc h hv hx hx2;have hB:=(jV (yH h).2.1).2.2.2
 have h0:0≤(dC (stS r v x)).sum:=by
  have key: ∀ s:List Sc,0≤(dC s).sum:=by
   intro s;induction s with
   |nil=>exact Int.le_refl 0
   |cons y s ih=>unfold dC at ih ⊢;simp only [List.map_cons,List.sum_cons];omega
  exact key _
 obtain ⟨t,t1,t2,t3,t4⟩:=aTn R (B:=r.dims.sum) (λs S'=>aUm R S') 8 (stS r v x) S (by omega);refine ⟨t,?_,(t2 9 (by omega)).symm,t3,t4⟩;unfold sY;rw [aJu R,aA,iJ 0 hv,aA,hd.1,xF R.hp (by omega) (by simp) (aOV hx hx2),aA,(aLE R).at hv,aA,dJ];show (Option.bind (Lp (fV r) (stS r v x)) λy=>some y)=_;rw [t1,aA]
end
end
noncomputable section
section
variable {r:Rp} (hr:bR r) (h:kV r=true) {v:Nat} (hv:v<r.dims.length) {x:List Int} (hx:x.length=dN r v) (hx2: ∀ z∈x,0≤z∧z<r.p)
include hr h hv hx hx2
theorem aSd:nC r (v:Int) x=some (itR r (stS r v x) 9,true):=by
 have R:=kH h;have h5:=R.n5;have hd:=R.d v hv;have hb:=dF R.hp;have S:=aSc h hv hx hx2;unfold nC;rw [hZ hr,aA,h,eC,aS,cZ (by omega),yN,aA,wX (by omega) (by omega),eC,aS,aCu r.p (by unfold bI;omega),aA,aOD]
 have hvec:aDZ r.p x=true:=by
  unfold aDZ;rw [R.hp,bC (by omega)];simp only [Bool.true_and,List.all_eq_true];intro z hz;have:=hx2 z hz;exact wX (by omega) (by omega)
 rw [hvec,eC,aS,iJ 0 hv,aA,hd.1,bC (by omega),eC,aS,aIL R,aA,aA,aAK R.hp (by omega) (by simp) (aOV hx hx2),aA,(aLE R).at hv,aA,dJ];rw [show (zeS r).set v ⟨(dN r v:Int),eD r.p (dN r v) [x]⟩=stS r v x from rfl,aTo R S,aA]
end
end
noncomputable section
section
variable {p:Int} (hp:iR p=true) {n:Nat} {a b:List (List Int)} (ha:VecsP p n a) (hb:VecsP p n b)
include hp ha hb
theorem aSe (x:Nat→Int) (h:Kr p (vU p n a b).length n (cD (vU p n a b)) x):Kr p b.length n (cD b) x:=by
 have hk:=xV hp (ha.append hb).inP x n (bA _);have hr:=aAD hp (ha.append hb).inP n (bA _);refine (zW.1 (hk.1 λi hi=>?_)).2;rcases dV i (bF p (a++b).length (cD (a++b)) n).2.length with h'|h'
 ·have h2:=h i (by unfold vU eD;rw [lL];exact h');unfold vU eD at h2;have e:dt n (cD (eZ (bF p (a++b).length (cD (a++b)) n).1 (bF p (a++b).length (cD (a++b)) n).2.length n) i) x=dt n ((bF p (a++b).length (cD (a++b)) n).1 i) x:=gZ λj hj=>by rw [aBf _ _ _ _ _ h' hj]
  rw [←e];exact h2
 ·have e0:dt n ((bF p (a++b).length (cD (a++b)) n).1 i) x=0:=by
   unfold dt;rw [gZ (g:=λ_=>0) (λk hk=>by rw [hr.low i k h' hi hk];simp),zF]
  rw [e0];unfold Z0;simp
end
theorem aQi {r:Rp} (h:kV r=true) {t:List Sc} (S:Sps r t) (hf:rnd r t=t):aOJ r t=true:=by
 have R:=kH h;have hl:=S.len
 have hg: ∀ i,i≤r.q.src.length→gnR r t i=t:=aLL R S λu _=>by
  show bN (rnd r t) u=_;rw [hf]
 unfold aOJ;rw [h,bC (by omega)];simp only [Bool.true_and,cW];constructor
 ·refine List.all_eq_true.2 λv hv=>?_;have hv':v<r.dims.length:=by have:=List.mem_range.1 hv;omega
  unfold spB;rw [S.sz v hv',S.ok v hv',(R.d v hv').1];simp
 ·refine List.all_eq_true.2 λi hi=>?_;have hi':i<r.q.src.length:=by have:=List.mem_range.1 hi;have:=R.ml;omega
  have ht:=(R.t i hi').2;obtain ⟨_,n,e,_,_,hv,hsp⟩:=dS (S.ok _ ht);have e:dN r (tV r i)=n:=by omega
  subst e;have h1:=hg (i+1) (by omega)
  have h2:gnR r t (i+1)=t.set (tV r i) ⟨(dN r (tV r i):Int),vU r.p (dN r (tV r i)) (sG t (tV r i)).basis (gnB r t i)⟩:=by
   show (gnR r t i).set _ _=_;rw [hg i (by omega)]
  rw [h2] at h1;have h3:=congrArg (λs=>bN s (tV r i)) h1;replace h3:bN (t.set (tV r i) ⟨(dN r (tV r i):Int),vU r.p (dN r (tV r i)) (sG t (tV r i)).basis (gnB r t i)⟩) (tV r i)=bN t (tV r i):=h3;rw [aOU (by rw [hl];exact ht),aU rfl] at h3;have h4:=aMq R.hp hv (aIZ R t i) hsp h3;unfold imB inV;refine bC ((aOF R.hp (aIZ R t i) hv hsp).2 λx hx=>?_);have h5:Kr r.p (vU r.p (dN r (tV r i)) (sG t (tV r i)).basis (gnB r t i)).length (dN r (tV r i)) (cD (vU r.p (dN r (tV r i)) (sG t (tV r i)).basis (gnB r t i))) x:=by rw [h4];exact hx
  exact aSe R.hp hv (aIZ R t i) x h5
end
noncomputable section
def vcL (r:Rp) (v c:Nat):List Int:=dZ (dN r v) λi=>(dgN r.p.toNat (dN r v) c i:Int)
def aUn (r:Rp) (v c:Nat):Bool:=decide (dC (itR r (stS r v (vcL r v c)) 9)=r.dims)
def aIb (r:Rp) (v c:Nat):Option Bool:=bif aUn r v c then none else some false
theorem aUJ {r:Rp} (R:Rv r) (v c:Nat):(vcL r v c).length=dN r v∧ ∀ z∈vcL r v c,0≤z∧z<r.p:=by
 refine ⟨eN _ _,λz hz=>?_⟩;obtain ⟨i,_,rfl⟩:=List.mem_map.1 hz;exact aVX R.hp _ _ _
section
variable {r:Rp} (h:kV r=true) {v:Nat} (hv:v<r.dims.length)
include h hv
theorem aTq:Lp (kL r (dN r v:Int) (v:Int)) 1=some (match (List.range' 1 (r.p.toNat ^ dN r v - 1)).findSome? (aIb r v) with|none=> .inl ()|some b=> .inr b):=by
 have R:=kH h;have hd:=(R.d v hv).2;have h5:=R.n5;have hb:=aIY (P:=r.p.toNat) (k:=dN r v) (zT R.hp).2.2 hd;rw [wY (s0:=1) (s:=1) (n:=r.p.toNat ^ dN r v) (aIb r v) rfl (by omega) (Nat.one_le_pow _ _ (by have:=(zT R.hp).2.1;omega)) (λc _ hc=>?_) (λ_=>?_)]
 ·cases (List.range' 1 (r.p.toNat ^ dN r v - 1)).findSome? (aIb r v) <;> rfl
 ·obtain ⟨q1,q2⟩:=aUJ R v c;obtain ⟨t,t1,t2,t3,_⟩:=aFs h hv q1 q2;have hl:=t3.len;unfold kL;rw [aPP R.hp hd,aA,gC hc,aN,aOP R.hp (by omega) (by omega),aA,show (dZ (dN r v) λi=>(dgN r.p.toNat (dN r v) c i:Int))=vcL r v c from rfl,t1,aA,xJ (by omega),aA,aOS (by unfold bI;omega),aA];unfold aIb aUn;rw [←t2];cases decide (dC t=r.dims) <;> rfl
 ·unfold kL;rw [aPP R.hp hd,aA,gS (bA _),aS]
end
end
noncomputable section
theorem aVf {r:Rp} (h:kV r=true) {t:List Sc} (S:Sps r t):t.length≤1048576∧ ∀ x∈t,bS x:=by
 have R:=kH h;have h5:=R.n5;have hl:=S.len;refine ⟨by omega,λx hx=>?_⟩;obtain ⟨v,hv,rfl⟩:=List.getElem_of_mem hx;have hv':v<r.dims.length:=by omega
 have e:t[v]=sG t v:=by unfold sG;rw [iY hv];rfl
 obtain ⟨_,n,e1,hn,hbl,hvv,_⟩:=dS (S.ok v hv');rw [e];exact ⟨⟨by omega,λw hw=>by unfold bI;rw [(hvv w hw).1];omega⟩,trivial⟩
section
variable {r:Rp} (hr:bR r) (h:kV r=true) {v:Nat} (hv:v<r.dims.length)
include hr h hv
theorem aTr:Lp (kM r ((r.p.toNat ^ dN r v:Nat):Int) (v:Int)) 1=some (match (List.range' 1 (r.p.toNat ^ dN r v - 1)).findSome? (aIb r v) with|none=> .inl ()|some b=> .inr b):=by
 have R:=kH h;have hd:=R.d v hv;have h5:=R.n5;have hb:=aIY (P:=r.p.toNat) (k:=dN r v) (zT R.hp).2.2 hd.2;rw [wY (s0:=1) (s:=1) (n:=r.p.toNat ^ dN r v) (aIb r v) rfl (by omega) (Nat.one_le_pow _ _ (by have:=(zT R.hp).2.1;omega)) (λc _ hc=>?_) (λ_=>?_)]
 ·cases (List.range' 1 (r.p.toNat ^ dN r v - 1)).findSome? (aIb r v) <;> rfl
 ·obtain ⟨q1,q2⟩:=aUJ R v c;obtain ⟨t,t1,t2,t3,t4⟩:=aFs h hv q1 q2;have hl:=t3.len;unfold kM;rw [gC hc,aN,iJ 0 hv,aA,hd.1,aOT R.hp hd.2 hc,aA,show (dZ (dN r v) λi=>(dgN r.p.toNat (dN r v) c i:Int))=vcL r v c from rfl,aSd hr h hv q1 q2,aA];simp only;rw [←t2,aLB hr (aVf h t3) (aQi h t3 t4),aA,aHe (by unfold bI dC;rw [cK];omega),aA];unfold aIb aUn;rw [←t2];cases decide (dC t=r.dims) <;> rfl
 ·unfold kM;rw [gS (bA _),aS]
end
end
noncomputable section
def aOW (r:Rp) (v:Nat):Option Bool:=(List.range' 1 (r.p.toNat ^ dN r v - 1)).findSome? (aIb r v)
def aMr (r:Rp):Bool:=if r.dims.sum=0 then false else match (List.range' 0 (r.dims.length - 0)).findSome? (aOW r) with|none=>true|some b=>b
section
variable {r:Rp} (hr:bR r) (h:kV r=true)
include hr h
theorem aLO:vE r=some (aMr r):=by
 have R:=kH h;have h5:=R.n5;obtain ⟨_,_,h2,h3⟩:=jV (yH h).2.1;unfold vE aMr;rw [nT hr,aA,h,eC,aS,aKh h2 (by omega),aA];by_cases hz:r.dims.sum=0
 ·rw [bC hz,aN,aU hz]
 ·rw [dM hz,aS,aV hz];rw [wY (s0:=0) (s:=0) (n:=r.dims.length) (aOW r) rfl (by omega) (Nat.zero_le _) (λv _ hv=>?_) (λ_=>?_),aA]
  ·cases (List.range' 0 (r.dims.length - 0)).findSome? (aOW r) <;> rfl
  ·unfold pJ;rw [gC hv,aN,iJ 0 hv,aA,(R.d v hv).1,aTq h hv,aA];unfold aOW;cases (List.range' 1 (r.p.toNat ^ dN r v - 1)).findSome? (aIb r v) <;> rfl
  ·unfold pJ;rw [gS (bA _),aS]
end
end
noncomputable section
theorem aSf {r:Rp} (hr:bR r) (h:kV r=true):wJ r=some r.dims.sum:=by
 have h5:=(kH h).n5;obtain ⟨_,_,h2,h3⟩:=jV (yH h).2.1;unfold wJ;rw [hZ hr,aA,h,eC,aS];rw [cF (r:=r.dims.sum) (λk=>((r.dims.take k).sum,(k:Int))) r.dims.length (by simp) (λk hk=>?_) (λ_=>?_),aA]
 ·unfold qR;simp only;have h1:=aHf (d:=r.dims.take (k+1)) λx hx=>h2 x (List.mem_of_mem_take hx);rw [gC hk,aN,iJ 0 hk,aA,←aHg hk,cZ (by simp at h1;omega),bK hk (by omega)]
 ·unfold qR;simp only;rw [gS (bA _),aS,List.take_length]
section
variable {r:Rp} (hr:bR r) (h:kV r=true)
include hr h
theorem aLP:vF r=some (aMr r):=by
 have R:=kH h;have h5:=R.n5;obtain ⟨_,_,h2,h3⟩:=jV (yH h).2.1;have h0:=(aHf h2).1;unfold vF aMr;rw [aSf hr h,aA];by_cases hz:r.dims.sum=0
 ·rw [bC (by omega),aN,aU hz]
 ·rw [dM (by omega),aS,aV hz];rw [wY (s0:=0) (s:=0) (n:=r.dims.length) (aOW r) rfl (by omega) (Nat.zero_le _) (λv _ hv=>?_) (λ_=>?_),aA]
  ·cases (List.range' 0 (r.dims.length - 0)).findSome? (aOW r) <;> rfl
  ·unfold pK;rw [gC hv,aN,iJ 0 hv,aA,(R.d v hv).1,aQf R.hp (R.d v hv).2,aA,aTr hr h hv,aA];unfold aOW;cases (List.range' 1 (r.p.toNat ^ dN r v - 1)).findSome? (aIb r v) <;> rfl
  ·unfold pK;rw [gS (bA _),aS]
end
end
noncomputable section
set_option maxRecDepth 10000
set_option maxHeartbeats 4000000
def aAy (a0:Rp) (a1:Rp):Option Int:=
 (lZ a0 a1).bind λv1=>
 (vS a0.p v1).bind λv2=>
 some (wr (v1.rows - v2))
theorem aIt (a0:Rp) (a1:Rp) (r:Int) (h:aAy a0 a1=some r):HasC Tryz.prog 108 [.agg (eR a0),.agg (eR a1)] (.int r):=by
 refine hM [.tmp 4] Tryz.func108 Tryz.ntmps108 k<|sR<|ae (wb k) k<|ae (wb k) k<|aT k2<|sR<|lp k8<|lp k8<|oB h λv1 hv1 h=>ae (cM (aAi a0 a1 v1 hv1) k3 (aG (eG k) (aG (eG k) aE))) k<|ae (bX aP k k) k<|ae (ws k) k<|an<|tn<|sQ<|aQ fA<|fp k8<|lp k8<|fp k8<|lp k8<|lp k8<|oB h λv2 hv2 h=>ae (aH (aCR a0.p v1 v2 hv2) k (bZ k (aG (vaM k2) aE))) k<|ae (mP k k) k<|aa k k<|an<|oA (by kernel_rfl)<|tn ?_;exact aD<|yT h k2
def yB (a0:Rp) (a1:Rp):Option Int:=
 (xD a0 a1).bind λv1=>
 bif !v1 then
 (some ((-1)))
 else
 ((aAy a0 a1).bind λv3=>
 some (v3))
theorem aIu (a0:Rp) (a1:Rp) (r:Int) (h:yB a0 a1=some r):HasC Tryz.prog 56 [.agg (eR a0),.agg (eR a1)] (.int r):=by
 exact hM [.tmp 4] Tryz.func56 Tryz.ntmps56 k<|sR<|ae (wb k) k<|ae (wb k) k<|aT k2<|sQ<|sR<|lp k8<|lp k8<|oB h λv1 hv1 h=>ae (aH (aHc a0 a1 v1 hv1) k (aG (eG k) (aG (eG k) aE))) k<|ae (dB k) k<|an<|tn<|cV k h (λ_ h=>sR<|aT k2<|aD<|aJ<|yT h k2) λ_ h=>aI<|tn<|sR<|lp k8<|lp k8<|oB h λv3 hv3 h=>ae (aH (aIt a0 a1 v3 hv3) k (aG (eG k) (aG (eG k) aE))) k<|aT k2<|aD<|yT h k2
def yC (a0:Rp) (a1:Rp):Option Int:=
 (rV a0 a1).bind λv1=>
 bif !v1 then
 (some ((-1)))
 else
 ((jD a0 a1).bind λv3=>
 (gV a0.p v3).bind λv4=>
 some (wr (v3.rows - ((v4.2.length:Nat):Int))))
theorem aIv (a0:Rp) (a1:Rp) (r:Int) (h:yC a0 a1=some r):HasC Tryz.prog 42 [.agg (eR a0),.agg (eR a1)] (.int r):=by
 refine hM [.tmp 4] Tryz.func42 Tryz.ntmps42 k<|sR<|ae (wb k) k<|ae (wb k) k<|aT k2<|sQ<|sR<|lp k8<|lp k8<|oB h λv1 hv1 h=>ae (aH (aEL a0 a1 v1 hv1) k (aG (eG k) (aG (eG k) aE))) k<|ae (dB k) k<|an<|tn<|cV k h (λ_ h=>sR<|aT k2<|aD<|aJ<|yT h k2) λ_ h=>?_;refine aI<|tn<|sR<|lp k8<|lp k8<|oB h λv3 hv3 h=>ae (cM (yV a0 a1 v3 hv3) k3 (aG (eG k) (aG (eG k) aE))) k<|ae (bX aP k k) k<|ae (ws k) k<|an<|tn<|sR<|fp k8<|lp k8<|lp k8<|oB h λv4 hv4 h=>ae (AEff.conv (iB (x:= .tuple [.agg [.int v4.1.rows,.int v4.1.cols,.own 4 0 (v4.1.cells.map eI).length],.own 5 0 (v4.2.map eI).length]) (nb:=[(4,⟨1,dA (v4.1.cells.map eI)⟩),(5,⟨1,dA (v4.2.map eI)⟩)]) (pP a0.p v3 v4 hv4) k (by rfl) k k (eJ (cH aX (cH aX (cH (dT.good _) nM))) (eJ (dT.good _) tK)) (bZ k (aG (vaM k2) aE))) (v':= .tuple [.agg [.int v4.1.rows,.int v4.1.cols,.own 4 0 v4.1.cells.length],.own 5 0 v4.2.length]) (ed':=[(4,some ⟨1,v4.1.cells.map (ow eI)⟩),(5,some ⟨1,v4.2.map (ow eI)⟩)]) (by simp only [aR]) (rJ (nb':=[(4,⟨1,v4.1.cells.map (ow eI)⟩),(5,⟨1,v4.2.map (ow eI)⟩)]) (by simp only [fW]))) k<|am k k<|ae (bP k k (by intro _ h;cases h)) k<|ae (bP k k (by intro _ h;cases h)) k<|ae (bX aP k k) k<|ae (ws k) k<|aT k2<|sR<|fp k8<|lp k8 ?_;exact am k k<|ae (dW aP k k k k) k<|ae (mP k k) k<|aT k2<|aD<|yT h k2
end
noncomputable section
def aTs (a b:Rp):Nat:=nE a b - rkF a.p (nE a b) (nV a b) (mE a b)
def edI (a b:Rp):Int:=if aAN a b=true then (aTs a b:Int) else -1
theorem aSh {a b:Rp} (h:Fit a b):rkF a.p (nE a b) (nV a b) (mE a b)≤nE a b:=kZ (nV a b)
theorem aQj {a b:Rp} (ha:bR a) (hb:bR b):yB a b=some (edI a b):=by
 unfold yB edI;rw [show xD a b=some (aAN a b) from aUD ha hb,aA];cases hf:aAN a b with
 |false=>rfl
 |true=>
  have h:=aAO hf;have bE:=h.offE (bA _);have:=aSh h;rw [eC,aS];unfold aAy;rw [aEX h,aA,aDi (aPF h),aA];have e:((bF a.p (nE a b) (mE a b) (nV a b)).2.length)=rkF a.p (nE a b) (nV a b) (mE a b):=rfl;simp only;rw [e,cZ (by unfold nE at*;omega),aA,aU trivial];unfold aTs;congr 1;omega
theorem aQk {a b:Rp} (ha:bR a) (hb:bR b):yC a b=some (edI a b):=by
 unfold yC edI;rw [show rV a b=some (aAN a b) from aPC ha hb,aA];cases hf:aAN a b with
 |false=>rfl
 |true=>
  have h:=aAO hf;have bE:=h.offE (bA _);have:=aSh h;rw [eC,aS,aCb h,aA,wB (aPF h),aA];have e:(gB (bF a.p (nE a b) (mE a b) (nV a b)).2).length=rkF a.p (nE a b) (nV a b) (mE a b):=by unfold gB;rw [cK];rfl
  simp only;rw [e,cZ (by unfold nE at*;omega),aU trivial];unfold aTs;congr 1;omega
end
noncomputable section
def diT (x:List Int):List UInt8:=if x.length=0 then [45] else dgs x
theorem aLQ {x:List Int} (h:x.length≤100):(diT x).length ≤100:=by
 unfold diT;split
 ·simp
 ·unfold dgs;rw [cK];exact h
theorem aSi {x:List Int} (hx:Dg x) (hl:x.length≤100):jX x=some (lB (diT x)):=by
 unfold jX diT;by_cases e:x.length=0
 ·rw [bC (by omega),aU e];rfl
 ·rw [dM (by omega),aV e,aS,aIT hx (by omega),aA]
theorem aSj {x:List Int} (hx:Dg x) (hl:x.length≤100):tG x=some (lB (diT x)):=by
 unfold tG diT;by_cases e:x.length=0
 ·rw [bC (by omega),aU e];rfl
 ·rw [dM (by omega),aV e,aS,aVY hx (by omega),aA]
theorem aUo (b:Bool) (s:List UInt8):yA b (lB s)=some (lB (bif b then s else [])):=by cases b <;> rfl
section
variable {r:Rp} (h:kV r=true)
include h
theorem aUp:Dg (aIM r (aCI r r.q.src.length))∧(aIM r (aCI r r.q.src.length)).length ≤100:=by
 have R:=kH h;have h5:=R.n5;have S:=aCw R r.q.src.length (bA _);refine ⟨λz hz=>?_,by unfold aIM;rw [cK,List.length_range];omega⟩;obtain ⟨v,hv,rfl⟩:=List.mem_map.1 hz;have hv:=List.mem_range.1 hv;have:=S.bd R hv;have:=(R.d v hv).2;omega
theorem aUq:Dg (dC (aCg r r.q.src.length))∧(dC (aCg r r.q.src.length)).length ≤100:=by
 have R:=kH h;have h5:=R.n5;have S:=aCz R r.q.src.length (bA _);rw [aBx S.len];refine ⟨λz hz=>?_,by rw [cK,List.length_range];omega⟩;obtain ⟨v,hv,rfl⟩:=List.mem_map.1 hz;have hv:=List.mem_range.1 hv;have:=S.bd R hv;have:=(R.d v hv).2;omega
theorem aVg:Dg (rkD r)∧(rkD r).length ≤100:=by
 have R:=kH h;have h6:=R.e6;refine ⟨λz hz=>?_,by unfold rkD;rw [cK,List.length_range];omega⟩;obtain ⟨i,hi,rfl⟩:=List.mem_map.1 hz;have hi:=List.mem_range.1 hi;have d1:=(R.d _ (R.s i hi).2).2;have:= @aUF r.p (dN r (tV r i)) (dN r (sV r i)) (aF r i);omega
theorem aVh:0≤hdI r r∧hdI r r<100:=by
 have R:=kH h;have hf:aAN r r=true:=by unfold aAN;rw [h,bC rfl,bC rfl];rfl
 have:=aLG (aAO hf);unfold hdI;rw [aU hf];omega
theorem aVi:0≤edI r r∧edI r r<100:=by
 have R:=kH h;have hf:aAN r r=true:=by unfold aAN;rw [h,bC rfl,bC rfl];rfl
 have F:=aAO hf;have g2:nE r r≤96:=F.offE (bA _);unfold edI aTs;rw [aU hf];omega
theorem aUr:0≤aIP r∧aIP r<100:=by
 have R:=kH h;have hf:aAN r r=true:=by unfold aAN;rw [h,bC rfl,bC rfl];rfl
 have F:=aAO hf;have g1:nV r r≤80:=F.offV (bA _);have g2:aHv r r≤nV r r:=by unfold aHv;omega
 unfold aIP;rw [aU h];unfold nV at g1 g2;omega
end
end
noncomputable section
def aPT (place:Nat→Option (Nat×Nat)):List AV→List (Nat×List AV)→Option (List AV)
 |cells,[]=>some cells
 |cells,(i,ds)::rest=>
  match place i with
  |none=>none
  |some (off,size)=>bif Nat.beq ds.length size&&Nat.ble (off+ds.length) cells.length then aPT place (aAm cells off ds) rest else none
theorem aMs (place:Nat→Option (Nat×Nat)): ∀ (ps:List (Nat×List AV)) (cells:List AV),aAS place cells ps=aPT place cells ps
 | [],cells=>rfl
 |(i,ds)::rest,cells=>by
  unfold aAS aPT;cases hp:place i with
  |none=>rfl
  |some os=>
   obtain ⟨off,size⟩:=os;simp only;cases hc:Nat.beq ds.length size&&Nat.ble (off+ds.length) cells.length with
   |false=>rfl
   |true=>
    simp only [cW] at hc;rw [aN,aN,aBe (Nat.le_of_ble_eq_true hc.2)];exact aMs place rest _
section
variable {dst:Option Tmp} {ty:TypeId} {pos:String} {aft:Array Edge} {g:Option (Nat×Bool)} {s:AState}
theorem wlR {t e:TypeId} {n:Nat} {parts:Array (Nat×Operand)} {y ye:Ty} {ps:List (Nat×List AV)} {cs:List AV} {b:Nat}
  (h:(s.ns.head?,dH TT t,y.desc,dH TT e,ye.zero.length,Nat.ble (n*ye.size) 16777216,Nat.ble n 16777216,xN s.ev parts.toList,aPT (λi=>some (i*ye.size,ye.size)) (List.replicate n ye.zero).flatten ps,(ps.all λp=>p.2.all (okCell s.heap)),cs.all (okCell s.heap),(ps.flatMap (λp=>cO p.2)++cO cs).contains b)=(some b,some y,.slice e,some ye,ye.size,true,true,some ps,some cs,true,true,false)):
  AEff Tryz.prog ⟨dst,.buildSlice t n parts,ty,pos,aft,g⟩ s.ev s.heap s.kp ⟨.own b 0 n,ps.flatMap (λp=>cO p.2)++cO cs,[(b,some ⟨ye.size,aCA ye.size n cs⟩)],[b]⟩:=by
 rw [←aMs] at h;exact wl h
end
end
noncomputable section
set_option maxRecDepth 10000
set_option maxHeartbeats 4000000
def rQ (a0:Rp):Option ByteArray:=
 (fS a0).bind λv1=>
 bif !v1 then
 (some ((⟨#[]⟩:ByteArray)))
 else
 ((tE a0).bind λv3=>
 (wM a0).bind λv4=>
 (jX v4).bind λv5=>
 (wQ a0).bind λv6=>
 (jX v6).bind λv7=>
 (tA a0).bind λv8=>
 (jX v8).bind λv9=>
 (xX a0 a0).bind λv10=>
 (gH v10).bind λv11=>
 (yB a0 a0).bind λv12=>
 (gH v12).bind λv13=>
 (uP a0).bind λv14=>
 (gH v14).bind λv15=>
 (vE a0).bind λv16=>
 bif v16 then
 (bif decide ([(⟨#[114,101,112]⟩:ByteArray),v3,(⟨#[114,97,110,107,115]⟩:ByteArray),v5,(⟨#[116,111,112]⟩:ByteArray),v7,(⟨#[115,111,99,108,101]⟩:ByteArray),v9,(⟨#[101,110,100,111,109,111,114,112,104,105,115,109,115]⟩:ByteArray),v11,(⟨#[115,101,108,102,45,101,120,116,101,110,115,105,111,110,115]⟩:ByteArray),v13,(⟨#[111,114,98,105,116]⟩:ByteArray),v15].length +[(⟨#[115,105,109,112,108,101]⟩:ByteArray)].length ≤4294967296) then
 ((jF a0).bind λv19=>
 bif v19 then
 (bif decide (([(⟨#[114,101,112]⟩:ByteArray),v3,(⟨#[114,97,110,107,115]⟩:ByteArray),v5,(⟨#[116,111,112]⟩:ByteArray),v7,(⟨#[115,111,99,108,101]⟩:ByteArray),v9,(⟨#[101,110,100,111,109,111,114,112,104,105,115,109,115]⟩:ByteArray),v11,(⟨#[115,101,108,102,45,101,120,116,101,110,115,105,111,110,115]⟩:ByteArray),v13,(⟨#[111,114,98,105,116]⟩:ByteArray),v15]++[(⟨#[115,105,109,112,108,101]⟩:ByteArray)]).length +[(⟨#[115,101,109,105,115,105,109,112,108,101]⟩:ByteArray)].length ≤4294967296) then
 ((aCe (([(⟨#[114,101,112]⟩:ByteArray),v3,(⟨#[114,97,110,107,115]⟩:ByteArray),v5,(⟨#[116,111,112]⟩:ByteArray),v7,(⟨#[115,111,99,108,101]⟩:ByteArray),v9,(⟨#[101,110,100,111,109,111,114,112,104,105,115,109,115]⟩:ByteArray),v11,(⟨#[115,101,108,102,45,101,120,116,101,110,115,105,111,110,115]⟩:ByteArray),v13,(⟨#[111,114,98,105,116]⟩:ByteArray),v15]++[(⟨#[115,105,109,112,108,101]⟩:ByteArray)])++[(⟨#[115,101,109,105,115,105,109,112,108,101]⟩:ByteArray)]) (⟨#[32]⟩:ByteArray)).bind λv22=>
 some (v22))
 else none)
 else
 ((aCe ([(⟨#[114,101,112]⟩:ByteArray),v3,(⟨#[114,97,110,107,115]⟩:ByteArray),v5,(⟨#[116,111,112]⟩:ByteArray),v7,(⟨#[115,111,99,108,101]⟩:ByteArray),v9,(⟨#[101,110,100,111,109,111,114,112,104,105,115,109,115]⟩:ByteArray),v11,(⟨#[115,101,108,102,45,101,120,116,101,110,115,105,111,110,115]⟩:ByteArray),v13,(⟨#[111,114,98,105,116]⟩:ByteArray),v15]++[(⟨#[115,105,109,112,108,101]⟩:ByteArray)]) (⟨#[32]⟩:ByteArray)).bind λv23=>
 some (v23)))
 else none)
 else
 ((jF a0).bind λv24=>
 bif v24 then
 (bif decide ([(⟨#[114,101,112]⟩:ByteArray),v3,(⟨#[114,97,110,107,115]⟩:ByteArray),v5,(⟨#[116,111,112]⟩:ByteArray),v7,(⟨#[115,111,99,108,101]⟩:ByteArray),v9,(⟨#[101,110,100,111,109,111,114,112,104,105,115,109,115]⟩:ByteArray),v11,(⟨#[115,101,108,102,45,101,120,116,101,110,115,105,111,110,115]⟩:ByteArray),v13,(⟨#[111,114,98,105,116]⟩:ByteArray),v15].length +[(⟨#[115,101,109,105,115,105,109,112,108,101]⟩:ByteArray)].length ≤4294967296) then
 ((aCe ([(⟨#[114,101,112]⟩:ByteArray),v3,(⟨#[114,97,110,107,115]⟩:ByteArray),v5,(⟨#[116,111,112]⟩:ByteArray),v7,(⟨#[115,111,99,108,101]⟩:ByteArray),v9,(⟨#[101,110,100,111,109,111,114,112,104,105,115,109,115]⟩:ByteArray),v11,(⟨#[115,101,108,102,45,101,120,116,101,110,115,105,111,110,115]⟩:ByteArray),v13,(⟨#[111,114,98,105,116]⟩:ByteArray),v15]++[(⟨#[115,101,109,105,115,105,109,112,108,101]⟩:ByteArray)]) (⟨#[32]⟩:ByteArray)).bind λv27=>
 some (v27))
 else none)
 else
 ((aCe [(⟨#[114,101,112]⟩:ByteArray),v3,(⟨#[114,97,110,107,115]⟩:ByteArray),v5,(⟨#[116,111,112]⟩:ByteArray),v7,(⟨#[115,111,99,108,101]⟩:ByteArray),v9,(⟨#[101,110,100,111,109,111,114,112,104,105,115,109,115]⟩:ByteArray),v11,(⟨#[115,101,108,102,45,101,120,116,101,110,115,105,111,110,115]⟩:ByteArray),v13,(⟨#[111,114,98,105,116]⟩:ByteArray),v15] (⟨#[32]⟩:ByteArray)).bind λv28=>
 some (v28))))
theorem aIc (a0:Rp) (r:ByteArray) (h:rQ a0=some r):HasC Tryz.prog 13 [.agg (eR a0)] (.str r):=by
 refine hM [.tmp 2] Tryz.func13 Tryz.ntmps13 k<|sR<|ae (wb k) k<|aT k2<|sQ<|sR<|lp k8<|oB h λv1 hv1 h=>ae (aH (iD a0 v1 hv1) k (aG (eG k) aE)) k<|ae (dB k) k<|an<|tn<|cV k h (λ_ h=>sR<|aT k2<|aD<|aJ<|sp h (aZ k k k (lJ k))) λ_ h=>?_;refine aI<|tn<|sQ<|aQ fA<|lp k8<|oB h λv3 hv3 h=>ae (aH (aFR a0 v3 hv3) k (aG (eG k) aE)) k<|lp k8<|oB h λv4 hv4 h=>ae (cL dT (aIE a0 v4 hv4) k3 (aG (eG k) aE)) k<|oB h λv5 hv5 h=>ae (aH (xK v4 v5 hv5) k (vcT k k aE)) k<|lp k8<|oB h λv6 hv6 h=>ae (cL dT (aII a0 v6 hv6) k3 (aG (eG k) aE)) k<|oB h λv7 hv7 h=>ae (aH (xK v6 v7 hv7) k (vcT k k aE)) k<|lp k8<|oB h λv8 hv8 h=>ae (cL dT (aFO a0 v8 hv8) k3 (aG (eG k) aE)) k<|oB h λv9 hv9 h=>ae (aH (xK v8 v9 hv9) k (vcT k k aE)) k<|lp k8<|lp k8<|oB h λv10 hv10 h=>ae (aH (aIn a0 a0 v10 hv10) k (aG (eG k) (aG (eG k) aE))) k<|oB h λv11 hv11 h=>ae (aH (nY v10 v11 hv11) k (bZ k aE)) k<|lp k8<|lp k8<|oB h λv12 hv12 h=>ae (aH (aIu a0 a0 v12 hv12) k (aG (eG k) (aG (eG k) aE))) k<|oB h λv13 hv13 h=>ae (aH (nY v12 v13 hv13) k (bZ k aE)) k<|lp k8<|oB h λv14 hv14 h=>ae (aH (aGJ a0 v14 hv14) k (aG (eG k) aE)) k<|oB h λv15 hv15 h=>ae (aH (nY v14 v15 hv15) k (bZ k aE)) k<|ae (wlR k) k<|aa k k<|an ?_;refine oA (by kernel_rfl)<|tn<|aL (t:=mN [(1,.ptr 0 0 0),(3,.own 4 0 ([(⟨#[114,101,112]⟩:ByteArray),v3,(⟨#[114,97,110,107,115]⟩:ByteArray),v5,(⟨#[116,111,112]⟩:ByteArray),v7,(⟨#[115,111,99,108,101]⟩:ByteArray),v9,(⟨#[101,110,100,111,109,111,114,112,104,105,115,109,115]⟩:ByteArray),v11,(⟨#[115,101,108,102,45,101,120,116,101,110,115,105,111,110,115]⟩:ByteArray),v13,(⟨#[111,114,98,105,116]⟩:ByteArray),v15].length))] [(0,⟨6,[eR a0]⟩),(4,⟨1,List.map (ow aLt) [(⟨#[114,101,112]⟩:ByteArray),v3,(⟨#[114,97,110,107,115]⟩:ByteArray),v5,(⟨#[116,111,112]⟩:ByteArray),v7,(⟨#[115,111,99,108,101]⟩:ByteArray),v9,(⟨#[101,110,100,111,109,111,114,112,104,105,115,109,115]⟩:ByteArray),v11,(⟨#[115,101,108,102,45,101,120,116,101,110,115,105,111,110,115]⟩:ByteArray),v13,(⟨#[111,114,98,105,116]⟩:ByteArray),v15]⟩)] 5) (bO (kW 1 k2 (iC ⟨_,k,⟨k,k,(by simp only [aR,lA,lT,lR,lC,lN]),k⟩⟩ aX)) (bH k<|dY (aFh.plainO _) k<|aX) k4)<|sQ<|sR<|lp k8<|oB h λv16 hv16 h=>ae (aH (aGU a0 v16 hv16) k (aG (eG k) aE)) k<|an<|tn<|cV k h (λ_ h=>?_) λ_ h=>?_
 ·exact rg<|am k k<|ae (wl k) k<|cG h λq18 h=>ae (mQ aP (l:=[(⟨#[114,101,112]⟩:ByteArray),v3,(⟨#[114,97,110,107,115]⟩:ByteArray),v5,(⟨#[116,111,112]⟩:ByteArray),v7,(⟨#[115,111,99,108,101]⟩:ByteArray),v9,(⟨#[101,110,100,111,109,111,114,112,104,105,115,109,115]⟩:ByteArray),v11,(⟨#[115,101,108,102,45,101,120,116,101,110,115,105,111,110,115]⟩:ByteArray),v13,(⟨#[111,114,98,105,116]⟩:ByteArray),v15]) (m:=[(⟨#[115,105,109,112,108,101]⟩:ByteArray)]) aKP q18 k k k k k k k k k k k k) k<|aT k2<|sQ<|sR<|lp k8<|oB h λv19 hv19 h=>ae (aH (yX a0 v19 hv19) k (aG (eG k) aE)) k<|an<|tn<|cV k h (λ_ h=>rg<|am k k<|ae (wl k) k<|cG h λq21 h=>ae (mQ aP (l:=([(⟨#[114,101,112]⟩:ByteArray),v3,(⟨#[114,97,110,107,115]⟩:ByteArray),v5,(⟨#[116,111,112]⟩:ByteArray),v7,(⟨#[115,111,99,108,101]⟩:ByteArray),v9,(⟨#[101,110,100,111,109,111,114,112,104,105,115,109,115]⟩:ByteArray),v11,(⟨#[115,101,108,102,45,101,120,116,101,110,115,105,111,110,115]⟩:ByteArray),v13,(⟨#[111,114,98,105,116]⟩:ByteArray),v15]++[(⟨#[115,105,109,112,108,101]⟩:ByteArray)])) (m:=[(⟨#[115,101,109,105,115,105,109,112,108,101]⟩:ByteArray)]) aKP q21 k k k k k k k k k k k k) k<|aT k2<|sR<|am k k<|oB h λv22 hv22 h=>ae (aH (aIS (([(⟨#[114,101,112]⟩:ByteArray),v3,(⟨#[114,97,110,107,115]⟩:ByteArray),v5,(⟨#[116,111,112]⟩:ByteArray),v7,(⟨#[115,111,99,108,101]⟩:ByteArray),v9,(⟨#[101,110,100,111,109,111,114,112,104,105,115,109,115]⟩:ByteArray),v11,(⟨#[115,101,108,102,45,101,120,116,101,110,115,105,111,110,115]⟩:ByteArray),v13,(⟨#[111,114,98,105,116]⟩:ByteArray),v15]++[(⟨#[115,105,109,112,108,101]⟩:ByteArray)])++[(⟨#[115,101,109,105,115,105,109,112,108,101]⟩:ByteArray)]) (⟨#[32]⟩:ByteArray) v22 hv22) k (aG (yZ aFh k k) (bZ k aE))) k<|aT k2<|aD<|sp h (aZ k k k (lJ k))) λ_ h=>aI<|tn<|sR<|am k k<|oB h λv23 hv23 h=>ae (aH (aIS ([(⟨#[114,101,112]⟩:ByteArray),v3,(⟨#[114,97,110,107,115]⟩:ByteArray),v5,(⟨#[116,111,112]⟩:ByteArray),v7,(⟨#[115,111,99,108,101]⟩:ByteArray),v9,(⟨#[101,110,100,111,109,111,114,112,104,105,115,109,115]⟩:ByteArray),v11,(⟨#[115,101,108,102,45,101,120,116,101,110,115,105,111,110,115]⟩:ByteArray),v13,(⟨#[111,114,98,105,116]⟩:ByteArray),v15]++[(⟨#[115,105,109,112,108,101]⟩:ByteArray)]) (⟨#[32]⟩:ByteArray) v23 hv23) k (aG (yZ aFh k k) (bZ k aE))) k<|aT k2<|aD<|sp h (aZ k k k (lJ k))
 ·exact aI<|tn<|sQ<|sR<|lp k8<|oB h λv24 hv24 h=>ae (aH (yX a0 v24 hv24) k (aG (eG k) aE)) k<|an<|tn<|cV k h (λ_ h=>rg<|am k k<|ae (wl k) k<|cG h λq26 h=>ae (mQ aP (l:=[(⟨#[114,101,112]⟩:ByteArray),v3,(⟨#[114,97,110,107,115]⟩:ByteArray),v5,(⟨#[116,111,112]⟩:ByteArray),v7,(⟨#[115,111,99,108,101]⟩:ByteArray),v9,(⟨#[101,110,100,111,109,111,114,112,104,105,115,109,115]⟩:ByteArray),v11,(⟨#[115,101,108,102,45,101,120,116,101,110,115,105,111,110,115]⟩:ByteArray),v13,(⟨#[111,114,98,105,116]⟩:ByteArray),v15]) (m:=[(⟨#[115,101,109,105,115,105,109,112,108,101]⟩:ByteArray)]) aKP q26 k k k k k k k k k k k k) k<|aT k2<|sR<|am k k<|oB h λv27 hv27 h=>ae (aH (aIS ([(⟨#[114,101,112]⟩:ByteArray),v3,(⟨#[114,97,110,107,115]⟩:ByteArray),v5,(⟨#[116,111,112]⟩:ByteArray),v7,(⟨#[115,111,99,108,101]⟩:ByteArray),v9,(⟨#[101,110,100,111,109,111,114,112,104,105,115,109,115]⟩:ByteArray),v11,(⟨#[115,101,108,102,45,101,120,116,101,110,115,105,111,110,115]⟩:ByteArray),v13,(⟨#[111,114,98,105,116]⟩:ByteArray),v15]++[(⟨#[115,101,109,105,115,105,109,112,108,101]⟩:ByteArray)]) (⟨#[32]⟩:ByteArray) v27 hv27) k (aG (yZ aFh k k) (bZ k aE))) k<|aT k2<|aD<|sp h (aZ k k k (lJ k))) λ_ h=>aI<|tn<|sR<|am k k<|oB h λv28 hv28 h=>ae (aH (aIS [(⟨#[114,101,112]⟩:ByteArray),v3,(⟨#[114,97,110,107,115]⟩:ByteArray),v5,(⟨#[116,111,112]⟩:ByteArray),v7,(⟨#[115,111,99,108,101]⟩:ByteArray),v9,(⟨#[101,110,100,111,109,111,114,112,104,105,115,109,115]⟩:ByteArray),v11,(⟨#[115,101,108,102,45,101,120,116,101,110,115,105,111,110,115]⟩:ByteArray),v13,(⟨#[111,114,98,105,116]⟩:ByteArray),v15] (⟨#[32]⟩:ByteArray) v28 hv28) k (aG (yZ aFh k k) (bZ k aE))) k<|aT k2<|aD<|sp h (aZ k k k (lJ k))
def rR (a0:Rp):Option ByteArray:=
 (dU a0).bind λv1=>
 bif !v1 then
 (some ((⟨#[]⟩:ByteArray)))
 else
 ((tF a0).bind λv3=>
 bif decide ((⟨#[114,101,112,32]⟩:ByteArray).size +v3.size≤9223372036854775807) then
 (bif decide (((⟨#[114,101,112,32]⟩:ByteArray)++v3).size +(⟨#[32,114,97,110,107,115,32]⟩:ByteArray).size ≤9223372036854775807) then
 ((wN a0).bind λv4=>
 (tG v4).bind λv5=>
 bif decide ((((⟨#[114,101,112,32]⟩:ByteArray)++v3)++(⟨#[32,114,97,110,107,115,32]⟩:ByteArray)).size +v5.size≤9223372036854775807) then
 (bif decide (((((⟨#[114,101,112,32]⟩:ByteArray)++v3)++(⟨#[32,114,97,110,107,115,32]⟩:ByteArray))++v5).size +(⟨#[32,116,111,112,32]⟩:ByteArray).size ≤9223372036854775807) then
 ((wR a0).bind λv6=>
 (tG v6).bind λv7=>
 bif decide ((((((⟨#[114,101,112,32]⟩:ByteArray)++v3)++(⟨#[32,114,97,110,107,115,32]⟩:ByteArray))++v5)++(⟨#[32,116,111,112,32]⟩:ByteArray)).size +v7.size≤9223372036854775807) then
 (bif decide (((((((⟨#[114,101,112,32]⟩:ByteArray)++v3)++(⟨#[32,114,97,110,107,115,32]⟩:ByteArray))++v5)++(⟨#[32,116,111,112,32]⟩:ByteArray))++v7).size +(⟨#[32,115,111,99,108,101,32]⟩:ByteArray).size ≤9223372036854775807) then
 ((tB a0).bind λv8=>
 (tG v8).bind λv9=>
 bif decide ((((((((⟨#[114,101,112,32]⟩:ByteArray)++v3)++(⟨#[32,114,97,110,107,115,32]⟩:ByteArray))++v5)++(⟨#[32,116,111,112,32]⟩:ByteArray))++v7)++(⟨#[32,115,111,99,108,101,32]⟩:ByteArray)).size +v9.size≤9223372036854775807) then
 (bif decide (((((((((⟨#[114,101,112,32]⟩:ByteArray)++v3)++(⟨#[32,114,97,110,107,115,32]⟩:ByteArray))++v5)++(⟨#[32,116,111,112,32]⟩:ByteArray))++v7)++(⟨#[32,115,111,99,108,101,32]⟩:ByteArray))++v9).size +(⟨#[32,101,110,100,111,109,111,114,112,104,105,115,109,115,32]⟩:ByteArray).size ≤9223372036854775807) then
 ((tU a0 a0).bind λv10=>
 (cX v10).bind λv11=>
 bif decide ((((((((((⟨#[114,101,112,32]⟩:ByteArray)++v3)++(⟨#[32,114,97,110,107,115,32]⟩:ByteArray))++v5)++(⟨#[32,116,111,112,32]⟩:ByteArray))++v7)++(⟨#[32,115,111,99,108,101,32]⟩:ByteArray))++v9)++(⟨#[32,101,110,100,111,109,111,114,112,104,105,115,109,115,32]⟩:ByteArray)).size +v11.size≤9223372036854775807) then
 (bif decide (((((((((((⟨#[114,101,112,32]⟩:ByteArray)++v3)++(⟨#[32,114,97,110,107,115,32]⟩:ByteArray))++v5)++(⟨#[32,116,111,112,32]⟩:ByteArray))++v7)++(⟨#[32,115,111,99,108,101,32]⟩:ByteArray))++v9)++(⟨#[32,101,110,100,111,109,111,114,112,104,105,115,109,115,32]⟩:ByteArray))++v11).size +(⟨#[32,115,101,108,102,45,101,120,116,101,110,115,105,111,110,115,32]⟩:ByteArray).size ≤9223372036854775807) then
 ((yC a0 a0).bind λv12=>
 (cX v12).bind λv13=>
 bif decide ((((((((((((⟨#[114,101,112,32]⟩:ByteArray)++v3)++(⟨#[32,114,97,110,107,115,32]⟩:ByteArray))++v5)++(⟨#[32,116,111,112,32]⟩:ByteArray))++v7)++(⟨#[32,115,111,99,108,101,32]⟩:ByteArray))++v9)++(⟨#[32,101,110,100,111,109,111,114,112,104,105,115,109,115,32]⟩:ByteArray))++v11)++(⟨#[32,115,101,108,102,45,101,120,116,101,110,115,105,111,110,115,32]⟩:ByteArray)).size +v13.size≤9223372036854775807) then
 (bif decide (((((((((((((⟨#[114,101,112,32]⟩:ByteArray)++v3)++(⟨#[32,114,97,110,107,115,32]⟩:ByteArray))++v5)++(⟨#[32,116,111,112,32]⟩:ByteArray))++v7)++(⟨#[32,115,111,99,108,101,32]⟩:ByteArray))++v9)++(⟨#[32,101,110,100,111,109,111,114,112,104,105,115,109,115,32]⟩:ByteArray))++v11)++(⟨#[32,115,101,108,102,45,101,120,116,101,110,115,105,111,110,115,32]⟩:ByteArray))++v13).size +(⟨#[32,111,114,98,105,116,32]⟩:ByteArray).size ≤9223372036854775807) then
 ((uT a0).bind λv14=>
 (cX v14).bind λv15=>
 bif decide ((((((((((((((⟨#[114,101,112,32]⟩:ByteArray)++v3)++(⟨#[32,114,97,110,107,115,32]⟩:ByteArray))++v5)++(⟨#[32,116,111,112,32]⟩:ByteArray))++v7)++(⟨#[32,115,111,99,108,101,32]⟩:ByteArray))++v9)++(⟨#[32,101,110,100,111,109,111,114,112,104,105,115,109,115,32]⟩:ByteArray))++v11)++(⟨#[32,115,101,108,102,45,101,120,116,101,110,115,105,111,110,115,32]⟩:ByteArray))++v13)++(⟨#[32,111,114,98,105,116,32]⟩:ByteArray)).size +v15.size≤9223372036854775807) then
 ((vF a0).bind λv16=>
 (yA v16 (⟨#[32,115,105,109,112,108,101]⟩:ByteArray)).bind λv17=>
 bif decide (((((((((((((((⟨#[114,101,112,32]⟩:ByteArray)++v3)++(⟨#[32,114,97,110,107,115,32]⟩:ByteArray))++v5)++(⟨#[32,116,111,112,32]⟩:ByteArray))++v7)++(⟨#[32,115,111,99,108,101,32]⟩:ByteArray))++v9)++(⟨#[32,101,110,100,111,109,111,114,112,104,105,115,109,115,32]⟩:ByteArray))++v11)++(⟨#[32,115,101,108,102,45,101,120,116,101,110,115,105,111,110,115,32]⟩:ByteArray))++v13)++(⟨#[32,111,114,98,105,116,32]⟩:ByteArray))++v15).size +v17.size≤9223372036854775807) then
 ((mZ a0).bind λv18=>
 (yA v18 (⟨#[32,115,101,109,105,115,105,109,112,108,101]⟩:ByteArray)).bind λv19=>
 bif decide ((((((((((((((((⟨#[114,101,112,32]⟩:ByteArray)++v3)++(⟨#[32,114,97,110,107,115,32]⟩:ByteArray))++v5)++(⟨#[32,116,111,112,32]⟩:ByteArray))++v7)++(⟨#[32,115,111,99,108,101,32]⟩:ByteArray))++v9)++(⟨#[32,101,110,100,111,109,111,114,112,104,105,115,109,115,32]⟩:ByteArray))++v11)++(⟨#[32,115,101,108,102,45,101,120,116,101,110,115,105,111,110,115,32]⟩:ByteArray))++v13)++(⟨#[32,111,114,98,105,116,32]⟩:ByteArray))++v15)++v17).size +v19.size≤9223372036854775807) then
 (some (((((((((((((((((⟨#[114,101,112,32]⟩:ByteArray)++v3)++(⟨#[32,114,97,110,107,115,32]⟩:ByteArray))++v5)++(⟨#[32,116,111,112,32]⟩:ByteArray))++v7)++(⟨#[32,115,111,99,108,101,32]⟩:ByteArray))++v9)++(⟨#[32,101,110,100,111,109,111,114,112,104,105,115,109,115,32]⟩:ByteArray))++v11)++(⟨#[32,115,101,108,102,45,101,120,116,101,110,115,105,111,110,115,32]⟩:ByteArray))++v13)++(⟨#[32,111,114,98,105,116,32]⟩:ByteArray))++v15)++v17)++v19)))
 else none)
 else none)
 else none)
 else none)
 else none)
 else none)
 else none)
 else none)
 else none)
 else none)
 else none)
 else none)
 else none)
 else none)
 else none)
theorem aId (a0:Rp) (r:ByteArray) (h:rR a0=some r):HasC Tryz.prog 11 [.agg (eR a0)] (.str r):=by
 refine hM [.tmp 2] Tryz.func11 Tryz.ntmps11 k<|sR<|ae (wb k) k<|aT k2<|sQ<|sR<|lp k8<|oB h λv1 hv1 h=>ae (aH (fH a0 v1 hv1) k (aG (eG k) aE)) k<|ae (dB k) k<|an<|tn<|cV k h (λ_ h=>sR<|aT k2<|aD<|aJ<|sp h (aZ k k k (lJ k))) λ_ h=>?_;refine aI<|tn<|sQ<|aQ fA<|lp k8<|oB h λv3 hv3 h=>ae (aH (aFS a0 v3 hv3) k (aG (eG k) aE)) k<|cG h λq34 h=>ae (iM k k q34) k<|cG h λq33 h=>ae (iM k k q33) k<|lp k8<|oB h λv4 hv4 h=>ae (cL dT (aIF a0 v4 hv4) k3 (aG (eG k) aE)) k<|oB h λv5 hv5 h=>ae (aH (aBy v4 v5 hv5) k (vcT k k aE)) k<|cG h λq32 h=>ae (iM k k q32) k<|cG h λq31 h=>ae (iM k k q31) k<|lp k8<|oB h λv6 hv6 h=>ae (cL dT (aIJ a0 v6 hv6) k3 (aG (eG k) aE)) k<|oB h λv7 hv7 h=>ae (aH (aBy v6 v7 hv7) k (vcT k k aE)) k<|cG h λq30 h=>ae (iM k k q30) k<|cG h λq29 h=>ae (iM k k q29) k<|lp k8<|oB h λv8 hv8 h=>ae (cL dT (aFP a0 v8 hv8) k3 (aG (eG k) aE)) k<|oB h λv9 hv9 h=>ae (aH (aBy v8 v9 hv9) k (vcT k k aE)) k<|cG h λq28 h=>ae (iM k k q28) k<|cG h λq27 h=>ae (iM k k q27) k<|lp k8<|lp k8<|oB h λv10 hv10 h=>ae (aH (aDL a0 a0 v10 hv10) k (aG (eG k) (aG (eG k) aE))) k<|oB h λv11 hv11 h=>ae (aH (fB v10 v11 hv11) k (bZ k aE)) k<|cG h λq26 h=>ae (iM k k q26) k<|cG h λq25 h=>ae (iM k k q25) k ?_;exact lp k8<|lp k8<|oB h λv12 hv12 h=>ae (aH (aIv a0 a0 v12 hv12) k (aG (eG k) (aG (eG k) aE))) k<|oB h λv13 hv13 h=>ae (aH (fB v12 v13 hv13) k (bZ k aE)) k<|cG h λq24 h=>ae (iM k k q24) k<|cG h λq23 h=>ae (iM k k q23) k<|lp k8<|oB h λv14 hv14 h=>ae (aH (aGM a0 v14 hv14) k (aG (eG k) aE)) k<|oB h λv15 hv15 h=>ae (aH (fB v14 v15 hv15) k (bZ k aE)) k<|cG h λq22 h=>ae (iM k k q22) k<|lp k8<|oB h λv16 hv16 h=>ae (aH (aGV a0 v16 hv16) k (aG (eG k) aE)) k<|oB h λv17 hv17 h=>ae (aH (aDQ v16 (⟨#[32,115,105,109,112,108,101]⟩:ByteArray) v17 hv17) k (bZ k (bZ k aE))) k<|cG h λq21 h=>ae (iM k k q21) k<|lp k8<|oB h λv18 hv18 h=>ae (aH (aDF a0 v18 hv18) k (aG (eG k) aE)) k<|oB h λv19 hv19 h=>ae (aH (aDQ v18 (⟨#[32,115,101,109,105,115,105,109,112,108,101]⟩:ByteArray) v19 hv19) k (bZ k (bZ k aE))) k<|cG h λq20 h=>ae (iM k k q20) k<|aa k k<|an<|oA (by kernel_rfl)<|tn<|aL (t:=mN [(2,.str ((((((((((((((((⟨#[114,101,112,32]⟩:ByteArray)++v3)++(⟨#[32,114,97,110,107,115,32]⟩:ByteArray))++v5)++(⟨#[32,116,111,112,32]⟩:ByteArray))++v7)++(⟨#[32,115,111,99,108,101,32]⟩:ByteArray))++v9)++(⟨#[32,101,110,100,111,109,111,114,112,104,105,115,109,115,32]⟩:ByteArray))++v11)++(⟨#[32,115,101,108,102,45,101,120,116,101,110,115,105,111,110,115,32]⟩:ByteArray))++v13)++(⟨#[32,111,114,98,105,116,32]⟩:ByteArray))++v15)++v17)++v19))] [] 4) (bO (bG k2) aX k4)<|aD<|sp h (aZ k k k (lJ k))
end
noncomputable section
set_option maxRecDepth 10000
set_option maxHeartbeats 4000000
def qE (a0:Rp):Option Bool:=
 (aBn a0 1048576).bind λv1=>
 bif decide (v1<0) then
 (some (true))
 else
 ((sE a0).bind λv3=>
 (rR v3).bind λv4=>
 (sE a0).bind λv5=>
 (rQ v5).bind λv6=>
 bif !eqS v6 v4 then
 (some (false))
 else
 ((sE a0).bind λv8=>
 (zE v5 v8).bind λv9=>
 bif !v9 then
 (some (false))
 else
 (some (true))))
theorem aCK (a0:Rp) (r:Bool) (h:qE a0=some r):HasC Tryz.prog 4 [.agg (eR a0)] (.bl r):=by
 refine hM [.tmp 2] Tryz.func4 Tryz.ntmps4 k<|sR<|ae (wb k) k<|aT k2<|sR<|aT k2<|sR<|lp k8<|am k k<|oB h λv1 hv1 h=>ae (aH (aKY a0 1048576 v1 hv1) k (aG (eG k) (bZ k aE))) k<|aT k2<|sQ<|sR<|am k k<|cm k4<|an<|tn<|cV k h (λ_ h=>sR<|aT k2<|aD<|aJ<|gW h k2) λ_ h=>?_;refine aI<|tn<|sR<|lp k8<|oB h λv3 hv3 h=>ae (cR (aBo a0 v3 hv3) k3 (aG (eG k) aE)) k<|oB h λv4 hv4 h=>ae (aH (aId v3 v4 hv4) k (aG (vaR k8) aE)) k<|aT k2<|sR<|lp k8<|oB h λv5 hv5 h=>ae (cR (aBo a0 v5 hv5) k3 (aG (eG k) aE)) k<|ae (bX aP k k) k<|ae (ws k) k<|an<|tn<|sR<|lp k8<|oB h λv6 hv6 h=>ae (aH (aIc v5 v6 hv6) k (aG (vaR k8) aE)) k<|aT k2<|sQ<|sR<|am k k ?_;exact am k k<|ae (aVV k k) k<|an<|tn<|cV k h (λ_ h=>sR<|aT k2<|aL (t:=mN [(2,.bl false)] [] 10) (bO (bG k2) aX k4)<|aD<|aJ<|gW h k2) λ_ h=>aI<|tn<|sQ<|sQ<|aQ fA<|lp k8<|lp k8<|oB h λv8 hv8 h=>ae (cR (aBo a0 v8 hv8) k3 (aG (eG k) aE)) k<|oB h λv9 hv9 h=>ae (aH (aKZ v5 v8 v9 hv9) k (aG (vaR k8) (aG (vaR k8) aE))) k<|ae (dB k) k<|an<|oA (by kernel_rfl)<|tn<|aL (t:=mN [(26,.bl (!v9))] [] 14) (bO (bG k2) aX k4)<|cV k h (λ_ h=>sR<|aT k2<|aD<|aJ<|gW h k2) λ_ h=>aI<|tn<|sR<|aT k2<|aD<|gW h k2
end
noncomputable section
def aUs:List UInt8:=[115,105,109,112,108,101]
def aUt:List UInt8:=[115,101,109,105,115,105,109,112,108,101]
def wds (A B C D E F G:List UInt8):List (List UInt8):=[[114,101,112],A,[114,97,110,107,115],B,[116,111,112],C,[115,111,99,108,101],D,[101,110,100,111,109,111,114,112,104,105,115,109,115],E,[115,101,108,102,45,101,120,116,101,110,115,105,111,110,115],F,[111,114,98,105,116],G]
def lnT (A B C D E F G:List UInt8) (a b:Bool):List UInt8:=[114,101,112,32]++A++[32,114,97,110,107,115,32]++B++[32,116,111,112,32]++C++[32,115,111,99,108,101,32]++D++[32,101,110,100,111,109,111,114,112,104,105,115,109,115,32]++E++[32,115,101,108,102,45,101,120,116,101,110,115,105,111,110,115,32]++F++[32,111,114,98,105,116,32]++G++(bif a then [32,115,105,109,112,108,101] else [])++(bif b then [32,115,101,109,105,115,105,109,112,108,101] else [])
theorem aEc (A B C D E F G:List UInt8) (a b:Bool):Lib.join (wds A B C D E F G++(bif a then [aUs] else [])++(bif b then [aUt] else [])) [32]=lnT A B C D E F G a b:=by
 unfold wds lnT aUs aUt;cases a <;> cases b <;> simp [Lib.join_cons,Lib.joinTail]
theorem aQl {r:Rp} (hr:bR r): ∃ t,rQ r=some t∧rR r=some t:=by
 cases h:kV r with
 |false=>
  refine ⟨⟨#[]⟩,?_,?_⟩
  ·unfold rQ;rw [nT hr,h];rfl
  ·unfold rR;rw [hZ hr,h];rfl
 |true=>
  obtain ⟨g1,g2⟩:=aVg h;obtain ⟨g3,g4⟩:=aUp h;obtain ⟨g5,g6⟩:=aUq h;obtain ⟨b1,b2⟩:=aVh h;obtain ⟨b3,b4⟩:=aVi h;obtain ⟨b5,b6⟩:=aUr h;have l0:=aTh r;have l1:=aLQ g2;have l2:=aLQ g4;have l3:=aLQ g6;have l4:=wS (a:=(hdI r r).toNat) (by omega);have l5:=wS (a:=(edI r r).toNat) (by omega);have l6:=wS (a:=(aIP r).toNat) (by omega);refine ⟨lB (lnT (frT r) (diT (rkD r)) (diT (aIM r (aCI r r.q.src.length))) (diT (dC (aCg r r.q.src.length))) (Lib.decDigits (hdI r r).toNat) (Lib.decDigits (edI r r).toNat) (Lib.decDigits (aIP r).toNat) (aMr r) (aLF r)),?_,?_⟩
  ·unfold rQ;rw [nT hr,h,aA,eC,aS,aVc hr,aA,aMf hr h,aA,aSi g1 g2,aA,aQO hr h,aA,aSi g3 g4,aA,aQd hr h,aA,aSi g5 g6,aA,aQT hr hr,aA,aIW b1 b2,aA,aQj hr hr,aA,aIW b3 b4,aA,aQU hr,aA,aIW b5 b6,aA,aLO hr h,aA];generalize frT r=A at l0 ⊢;generalize diT (rkD r)=B at l1 ⊢;generalize diT (aIM r (aCI r r.q.src.length))=C at l2 ⊢;generalize diT (dC (aCg r r.q.src.length))=D at l3 ⊢;generalize Lib.decDigits (hdI r r).toNat=E at l4 ⊢;generalize Lib.decDigits (edI r r).toNat=F at l5 ⊢;generalize Lib.decDigits (aIP r).toNat=G at l6 ⊢;have e0:([(⟨#[114,101,112]⟩:ByteArray),lB A,(⟨#[114,97,110,107,115]⟩:ByteArray),lB B,(⟨#[116,111,112]⟩:ByteArray),lB C,(⟨#[115,111,99,108,101]⟩:ByteArray),lB D,(⟨#[101,110,100,111,109,111,114,112,104,105,115,109,115]⟩:ByteArray),lB E,(⟨#[115,101,108,102,45,101,120,116,101,110,115,105,111,110,115]⟩:ByteArray),lB F,(⟨#[111,114,98,105,116]⟩:ByteArray),lB G]:List ByteArray)=(wds A B C D E F G).map lB:=rfl;have e1:([(⟨#[115,105,109,112,108,101]⟩:ByteArray)]:List ByteArray)=[aUs].map lB:=rfl;have e2:([(⟨#[115,101,109,105,115,105,109,112,108,101]⟩:ByteArray)]:List ByteArray)=[aUt].map lB:=rfl;have es:(⟨#[32]⟩:ByteArray)=lB [32]:=rfl;have hw:(wds A B C D E F G).length=14:=rfl
   have hj: ∀ a b:Bool,(lnT A B C D E F G a b).length ≤2000:=by
    intro a b;unfold lnT;cases a <;> cases b <;> simp <;> omega
   rw [e0,e1,e2,es];cases aMr r with
   |true=>
    rw [aN,bC (by rw [cK,hw];simp),aN,aIN hr h,aA];cases aLF r with
    |true=>
     rw [aN,bC (by rw [List.length_append,cK,hw];simp),aN,←List.map_append,←List.map_append];have j0:=aEc A B C D E F G true true;simp only [aN,aS,List.append_nil] at j0;rw [aIX (by rw [j0];have:=hj true true;omega) (by simp [hw]),aA,j0]
    |false=>
     rw [aS,←List.map_append];have j0:=aEc A B C D E F G true false;simp only [aN,aS,List.append_nil] at j0;rw [aIX (by rw [j0];have:=hj true false;omega) (by simp [hw]),aA,j0]
   |false=>
    rw [aS,aIN hr h,aA];cases aLF r with
    |true=>
     rw [aN,bC (by rw [cK,hw];simp),aN,←List.map_append];have j0:=aEc A B C D E F G false true;simp only [aN,aS,List.append_nil] at j0;rw [aIX (by rw [j0];have:=hj false true;omega) (by simp [hw]),aA,j0]
    |false=>
     rw [aS];have j0:=aEc A B C D E F G false false;simp only [aS,List.append_nil] at j0;rw [aIX (by rw [j0];have:=hj false false;omega) (by simp [hw]),aA,j0]
  ·unfold rR;rw [hZ hr,h,aA,eC,aS,aVd hr,aMg hr h,aQP hr h,aQe hr h,aJw hr hr,aQk hr hr,aQV hr,aLP hr h,aOK hr h];simp only [aA];rw [aSj g1 g2,aSj g3 g4,aSj g5 g6,aIV b1 b2,aIV b3 b4,aIV b5 b6];simp only [aA];generalize frT r=A at l0 ⊢;generalize diT (rkD r)=B at l1 ⊢;generalize diT (aIM r (aCI r r.q.src.length))=C at l2 ⊢;generalize diT (dC (aCg r r.q.src.length))=D at l3 ⊢;generalize Lib.decDigits (hdI r r).toNat=E at l4 ⊢;generalize Lib.decDigits (edI r r).toNat=F at l5 ⊢;generalize Lib.decDigits (aIP r).toNat=G at l6 ⊢;rw [show (⟨#[114,101,112,32]⟩:ByteArray)=lB [114,101,112,32] from rfl,show (⟨#[32,114,97,110,107,115,32]⟩:ByteArray)=lB [32,114,97,110,107,115,32] from rfl,show (⟨#[32,116,111,112,32]⟩:ByteArray)=lB [32,116,111,112,32] from rfl,show (⟨#[32,115,111,99,108,101,32]⟩:ByteArray)=lB [32,115,111,99,108,101,32] from rfl,show (⟨#[32,101,110,100,111,109,111,114,112,104,105,115,109,115,32]⟩:ByteArray)=lB [32,101,110,100,111,109,111,114,112,104,105,115,109,115,32] from rfl,show (⟨#[32,115,101,108,102,45,101,120,116,101,110,115,105,111,110,115,32]⟩:ByteArray)=lB [32,115,101,108,102,45,101,120,116,101,110,115,105,111,110,115,32] from rfl,show (⟨#[32,111,114,98,105,116,32]⟩:ByteArray)=lB [32,111,114,98,105,116,32] from rfl,show (⟨#[32,115,105,109,112,108,101]⟩:ByteArray)=lB [32,115,105,109,112,108,101] from rfl,show (⟨#[32,115,101,109,105,115,105,109,112,108,101]⟩:ByteArray)=lB [32,115,101,109,105,115,105,109,112,108,101] from rfl];have y1:(bif aMr r then [32,115,105,109,112,108,101] else ([]:List UInt8)).length ≤7:=by cases aMr r <;> simp
   have y2:(bif aLF r then [32,115,101,109,105,115,105,109,112,108,101] else ([]:List UInt8)).length ≤11:=by cases aLF r <;> simp
   repeat (first|rw [aCf (by simp only [List.length_append,List.length_cons,List.length_nil];omega)]|rw [nZ]|rw [aUo,aA])
   rfl
theorem aIw {a:Rp} (fa:fR a):qE a=some true:=by
 unfold qE;rw [aWC fa (by decide) (by decide),aA];rcases aTJ a 1048576 (by decide) (by decide) with e|⟨e1,e2,ha⟩
 ·rw [e];rfl
 ·rw [dM (by omega),aS];obtain ⟨t,h1,h2⟩:=aQl ha;have ht:eqS t t=true:=by unfold eqS;exact beq_self_eq_true _
  simp only [aWF ha,aA,h1,h2,ht,aWI ha,decide_true,eC,aS]
end
end Go.Proofs.YtdoejgaomlmgeaaGreatDoor

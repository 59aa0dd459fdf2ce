/- Several texts. -/
import Derived.Lib.Join
import Derived.Test.YtckihlpjfmnccaaGreatDoorM16
set_option linter.unusedVariables false
set_option linter.unusedSimpArgs false
set_option maxRecDepth 10000
set_option maxHeartbeats 4000000
namespace Go.Proofs.YtckihlpjfmnccaaGreatDoor
open Go.RowKit
section
def lB (l:List UInt8):ByteArray:=⟨l.toArray⟩
theorem fN (a b:List UInt8):lB a++lB b=lB (a++b):=by
 have h:(lB a++lB b).data=(lB (a++b)).data:=by
  rw [ByteArray.data_append];simp [lB]
 cases hx:lB a++lB b with
 |mk d=>rw [hx] at h;simp only at h;rw [h]
theorem wZ (l:List UInt8):(lB l).size=l.length:=by simp [lB,ByteArray.size]
theorem xA (l:List UInt8):(lB l).data.toList=l:=by simp [lB]
theorem aHk (a b:List UInt8):eqS (lB a) (lB b)=decide (a=b):=by
 unfold eqS;rw [ByteArray.toList_eq,ByteArray.toList_eq,xA,xA,Bool.eq_iff_iff,beq_iff_eq,fW]
def f8 (z:Int):UInt8:=UInt8.ofNat z.toNat
theorem aDh (l:aA):wL l=lB (l.map f8):=by
 have key: ∀ (l:aA) (a:List UInt8),l.foldl (λr n=>ByteArray.push r (UInt8.ofNat n.toNat)) (lB a)=lB (a++l.map f8):=by
  intro l;induction l with
  |nil=>intro a;simp
  |cons z l ih=>
   intro a;have e:(lB a).push (UInt8.ofNat z.toNat)=lB (a++[f8 z]):=by simp [lB,ByteArray.push,f8]
   rw [List.foldl_cons,e,ih,List.append_assoc];rfl
 exact key l []
theorem aBL {a:Nat} (h:a<10):Lib.decDigits a=[UInt8.ofNat (48+a)]:=by rw [Lib.decDigits,dif_pos h]
theorem aHl {a:Nat} (h:10<=a) (h2:a<100):Lib.decDigits a=[UInt8.ofNat (48+a / 10),UInt8.ofNat (48+a % 10)]:=by
 rw [Lib.decDigits,dif_neg (by omega),aBL (by omega)];rfl
theorem aIR {a:Int} (h:0<=a/\a<=9):IntKind.u8.wrap (wr (48+a))=48+a:=by
 rw [iJ (by omega)];have:a=0∨a=1∨a=2∨a=3∨a=4∨a=5∨a=6∨a=7∨a=8∨a=9:=by omega
 rcases this with rfl|rfl|rfl|rfl|rfl|rfl|rfl|rfl|rfl|rfl <;> decide
theorem yY {a:Nat} (h0:0<a) (h:a<100) {out:List UInt8} (ho:out.length<=10):fB ((a:Int),lB out)=some (.inl (((a / 10:Nat):Int),lB (UInt8.ofNat (48+a % 10)::out))):=by
 unfold fB;simp only;have e2:(a:Int).tmod 10=((a % 10:Nat):Int):=by rw [Int.tmod_eq_emod_of_nonneg (by omega)];omega
 have e3:(a:Int).tdiv 10=((a / 10:Nat):Int):=by rw [Int.tdiv_eq_ediv_of_nonneg (by omega)];omega
 have e4:f8 (48+((a % 10:Nat):Int))=UInt8.ofNat (48+a % 10):=by
  unfold f8;congr 1
 rw [bH (by omega),Bool.not_false,aH,e2,e3,bH (by omega),aL,aIR (by omega),aDh,fN,wZ,wZ,aW (by simp;omega),aH,iJ (by omega)];rw [List.map_cons,List.map_nil,e4];rfl
theorem aCP {out:List UInt8} :fB (0,lB out)=some (.inr (lB out)):=rfl
theorem aGJ {a:Int} (h0:0<=a) (h:a<100):bK a=some (lB (Lib.decDigits a.toNat)):=by
 obtain ⟨a,rfl⟩: ∃ k:Nat,a=k:=⟨a.toNat,by omega⟩;rw [kC];unfold bK;by_cases hz:a=0
 ·subst hz;rw [aBL (by omega)];rfl
 ·rw [bH (by omega),aL,show (⟨#[]⟩:ByteArray)=lB [] from rfl];rcases dR a 10 with h1|h1
  ·rw [kH (yY (by omega) (by omega) (by simp)),Nat.div_eq_of_lt h1,show ((0:Nat):Int)=0 from rfl,gI aCP,aC,bH (by omega),aL,aBL h1,Nat.mod_eq_of_lt h1]
  ·rw [kH (yY (by omega) (by omega) (by simp)),kH (yY (a:=a / 10) (by omega) (by omega) (by simp)),Nat.div_eq_of_lt (show a / 10<10 by omega),show ((0:Nat):Int)=0 from rfl,gI aCP,aC,bH (by omega),aL,aHl h1 (by omega),Nat.mod_eq_of_lt (show a / 10<10 by omega)]
theorem aHm {a:Int} (h0:0<=a) (h:a<100):gU a=some (lB (Lib.decDigits a.toNat)):=by
 unfold gU aCx;rw [aW h0,aW h];rfl
theorem aGK {l:List (List UInt8)} {sep:List UInt8} (h:(Lib.join l sep).length <=1000000) (hl:l.length<=1000000):vT (l.map lB) (lB sep)=some (lB (Lib.join l sep)):=by
 have e:(l.map lB).map (λx=>x.data.toList)=l:=by
  rw [List.map_map];exact (aGy λx _=>xA x).trans (List.map_id l)
 unfold vT aHK;rw [e,xA,aW (by omega),aW (by rw [dD];omega)];rfl
theorem nI {α:Type} {a b:List UInt8} {k:Option α} (h:a.length+b.length<=1000000):(bif decide ((lB a).size +(lB b).size <=9223372036854775807) then k else none)=k:=by
 rw [wZ,wZ,aW (by omega),aH]
def d1 (a:Int):UInt8:=f8 (48+max 0 (min 9 a))
theorem yZ {x:aA} (hl:x.length<=1000):fQ x=some (lB (x.map d1)):=by
 unfold fQ
 rw [aW (by omega),aW (by omega),Bool.and_self,aH,kC,
  gY (s:=(List.replicate x.length (0:Int),(0:Int))) (r:=x.map λa=>48+max 0 (min 9 a)) (λk=>((x.take k).map (λa=>48+max 0 (min 9 a))++List.replicate (x.length - k) 0,(k:Int))) x.length (by simp) (λk hk=>?_) (λ_=>?_),aC,aDh]
 ·rw [List.map_map];rfl
 ·unfold jM;simp only;have hlen:((x.take k).map (λa=>48+max 0 (min 9 a))).length=k:=by rw [dD,List.length_take];omega
  rw [pP hk,aH,cM hk,aC,cM (by rw [List.length_append,hlen,List.length_replicate];omega),aC,show min (max x[k] 0) 9=max 0 (min 9 x[k]) by omega,aIR (by omega),kC,dJ hk (by omega)];rw [List.set_append_right _ _ (by omega),hlen,Nat.sub_self,show x.length - k=(x.length - (k+1))+1 by omega,List.replicate_succ,List.set_cons_zero,rM hk,List.map_append,List.append_assoc];rfl
 ·unfold jM;simp only;rw [pQ (bQ _),aL];simp
theorem aBM (a:Int):bK (max 0 (min 9 a))=some (lB [d1 a]):=by
 rw [aGJ (by omega) (by omega),aBL (by omega)];unfold d1 f8;congr 4;omega
def wdB (b:Br):List UInt8:=[d1 b.first,45,d1 b.last,120,d1 b.count]
def jnB (l:List Br):List UInt8:=Lib.join (l.map wdB) [32]
theorem aGL: ∀ (l:List Br) (b:Br),jnB (l++[b])=(if l=[] then [] else jnB l++[32])++wdB b
 | [],b=>by simp [jnB,Lib.join_one]
 |x::l,b=>by
  unfold jnB;rw [bM (by simp),List.cons_append,List.map_cons,List.map_cons,Lib.join_cons,Lib.join_cons,List.map_append];simp [Lib.joinTail]
theorem aBN: ∀ (l:List Br),(jnB l).length <=6*l.length
 | []=>bQ _
 |x::l=>by
  unfold jnB;rw [List.map_cons,Lib.join_cons,List.length_append]
  have: ∀ l:List Br,(Lib.joinTail [32] (l.map wdB)).length=6*l.length:=by
   intro l;induction l with
   |nil=>rfl
   |cons y l ih=>
    have e:Lib.joinTail [32] ((y::l).map wdB)=([32]++wdB y)++Lib.joinTail [32] (l.map wdB):=by simp [Lib.joinTail]
    rw [e,List.length_append,ih,List.length_cons];have:([32]++wdB y).length=6:=rfl;omega
  rw [this,List.length_cons];have:(wdB x).length=5:=rfl;omega
def brT (l:List Br):List UInt8:=if l=[] then [110,111,110,101] else jnB l
theorem aCy {l:List Br} (h:l.length<=20):iX l=some (lB (brT l)):=by
 unfold iX brT;rw [oN,aC];by_cases hl:l=[]
 ·subst hl;rfl
 ·have h1:1<=l.length:=by
   cases l with
   |nil=>exact absurd rfl hl
   |cons x l=>simp
  rw [aCg (by omega) (by omega),iH,aL,bM hl,
   gY (s:=(([]:List ByteArray),(0:Int))) (r:=(l.map wdB).map lB) (λk=>(((l.take k).map wdB).map lB,(k:Int))) l.length rfl (λk hk=>?_) (λ_=>?_),aC]
  ·have:=aBN l;rw [show (⟨#[32]⟩:ByteArray)=lB [32] from rfl,aGK (by show (jnB l).length <=_;omega) (by rw [dD];omega),aC];rfl
  ·unfold gD;simp only;rw [pP hk,aH,cM hk,aC,yZ (by simp),aC,yZ (by simp),aC,yZ (by simp),aC,show (⟨#[45]⟩:ByteArray)=lB [45] from rfl,show (⟨#[120]⟩:ByteArray)=lB [120] from rfl];simp only [List.map_cons,List.map_nil];rw [nI (by simp),fN,nI (by simp),fN,nI (by simp),fN,nI (by simp),fN,aW (by rw [dD,dD,List.length_take,List.length_singleton];omega),aH,dJ hk (by omega),rM hk,List.map_append,List.map_append];rfl
  ·unfold gD;simp only;rw [pQ (bQ _),aL,List.take_length]
theorem aCz {l:List Br} (h:l.length<=20):iY l=some (lB (brT l)):=by
 unfold iY brT;rw [gY (s:=((⟨#[]⟩:ByteArray),(0:Int))) (r:=lB (jnB l)) (λk=>(lB (jnB (l.take k)),(k:Int))) l.length rfl (λk hk=>?_) (λ_=>?_),aC,show (⟨#[]⟩:ByteArray)=lB [] from rfl,aHk]
 ·by_cases hl:l=[]
  ·subst hl;rfl
  ·rw [bM hl]
   have:jnB l≠[]:=by
    cases l with
    |nil=>exact absurd rfl hl
    |cons x l=>
     unfold jnB;rw [List.map_cons,Lib.join_cons];unfold wdB;simp
   rw [bH this,aL]
 ·unfold gE;simp only;have hj:=aBN (l.take k);rw [List.length_take] at hj;rw [pP hk,aH,aW (show (l.length:Int)<=20 by omega),aH,rM hk,aGL,dJ hk (by omega),cM hk];simp only [aC,aBM];rw [show (⟨#[45]⟩:ByteArray)=lB [45] from rfl,show (⟨#[120]⟩:ByteArray)=lB [120] from rfl,show (⟨#[32]⟩:ByteArray)=lB [32] from rfl];by_cases h0:k=0
  ·subst h0;rw [bT (by simp),bH (by omega),aL,show jnB (List.take 0 l)=[] from rfl,nI (by simp),fN,nI (by simp),fN,nI (by simp),fN,nI (by simp),fN,nI (by simp),fN];rfl
  ·rw [bM (λe=>by
    have:=congrArg List.length e;rw [List.length_take,List.length_nil] at this
    omega),aW (by omega),aH]
   generalize jnB (l.take k)=J at hj;rw [nI (by simp;omega),fN,nI (by simp;omega),fN,nI (by simp;omega),fN,nI (by simp;omega),fN,nI (by simp;omega),fN,nI (by simp;omega),fN];unfold wdB;simp only [List.append_assoc];rfl
 ·unfold gE;simp only;rw [pQ (bQ _),aL,List.take_length]
end
noncomputable section
def iZ (a0:bG) (x1:(Int×Int)):Option ((Int×Int) ⊕ (Int ⊕ Int)):=
 bif decide (x1.2<(a0.length:Int)) then
 ((bO a0 x1.2).bind λv3=>
 (iO v3 x1.1).bind λv4=>
 bif decide (v4<0) then
 (some (.inr (.inr ((-1)))))
 else
 (some (.inl (v4,wr (x1.2+1)))))
 else
 (some (.inr (.inl x1.1)))
def lI (a0:bG) (a1:Int):Option Int:=
 bif decide (wr (a1 - (a0.length:Int))<0) then
 (some ((-1)))
 else
 ((Lp (iZ a0) (wr (a1 - (a0.length:Int)),0)).bind λy6=>
 Sum.elim (λy7=>
 some (y7)
 )
 (λy8=>
 some y8
 )
 y6)
theorem zA (a0:bG) (a1:Int) (r:Int) (h:lI a0 a1=some r):HasC Tryz.prog 10 [.list 1 (a0.map (fT 1 eI)),.int a1] (.int r):=by
 refine hM [.tmp 4] Tryz.func10 Tryz.ntmps10 k<|sR<|aT k2<|sR<|am k k<|am k k<|ln k4<|ae (dX k k) k<|aT k2<|sQ<|sR<|am k k<|cm k4<|an<|tn<|cY k h (λ_ h=>sR<|aT k2<|aJ<|aG<|sJ h k2) λ_ h=>?_;refine aD<|tn<|sQ<|sR<|aT k2<|aE<|oB h λy6 hy6 h=>cC (body:=(iZ a0)) hy6 (λ(x1:(Int×Int))=>mN [(0,.list 1 (a0.map (fT 1 eI))),(1,.int x1.1),(5,.int x1.2)] [] 0) (λr e t=>Sum.elim (λa=>(λr e t=>e= .exit 0/\Ent t (mN [(1,.int r)] [] 0)) a e t) (λb=>(λr e t=>e= .ret/\uZ TT [.tmp 4] (.int r) .ret t) b e t) r) (bE (bB k2) aU k4) ?_ ?_
 ·intro x1 o h;exact sQ<|sR<|am k k<|am k k<|ln k4<|cm k4<|an<|tn<|cY k h (λ_ h=>aD<|tn<|sQ<|aE<|sR<|am k k<|am k k<|oB h λv3 hv3 h=>ae (xl hv3 k) k<|lr k7<|am k k<|oB h λv4 hv4 h=>ae (aO (rP v3 x1.1 v4 hv4) k (eO k (eO k aS))) k<|aT k2<|sR<|am k k<|cm k4<|an<|tn<|cY k h (λ_ h=>sR<|aT k2<|aJ<|bV<|aG<|aG<|sp h ⟨_,k,k,cB k k k (aAm k)⟩) λ_ h=>aD<|aI<|tn<|rg<|am k k<|ae (aR k k) k<|aT k2<|sp h ⟨_,k,(bE (bB k2) aU k4)⟩) λ_ h=>aV<|aB<|aB<|sp h ⟨_,k,k,(bE (bB k2) aU k4)⟩
 ·intro e t hX;rcases y6 with y7|y8
  ·obtain ⟨rfl,hent⟩:=hX;exact aF<|tn<|aM hent<|sR<|am k k<|aT k2<|aJ<|sJ h k2
  ·obtain ⟨rfl,hent⟩:=hX;exact bV<|aG<|sp h hent
def jA (a0:bG) (x1:(bG×Int)):Option ((bG×Int) ⊕ bG):=
 bif decide (x1.2<(a0.length:Int)) then
 ((bO a0 x1.2).bind λv2=>
 (kD v2).bind λv3=>
 (bO x1.1 x1.2).bind λv4=>
 some (.inl ((x1.1.set x1.2.toNat v3),wr (x1.2+1))))
 else
 (some (.inr x1.1))
def lJ (a0:bG):Option bG:=
 bif (decide (0<=(a0.length:Int))&&decide ((a0.length:Int)<=1048576)) then
 ((Lp (jA a0) ((List.replicate ((a0.length:Int).toNat) ([]:aA)),0)).bind λy5=>
 some (y5))
 else none
theorem zB (a0:bG) (r:bG) (h:lJ a0=some r):HasC Tryz.prog 17 [.list 1 (a0.map (fT 1 eI))] (.list 1 (r.map (fT 1 eI))):=by
 refine hM [.tmp 2] Tryz.func17 Tryz.ntmps17 k<|sR<|aT k2<|sR<|am k k<|ln k4<|cG h λq6 h=>ae (xZ aP q6 k k k k k k k k) k<|aT k2<|aM (t:=mN [(0,.list 1 (a0.map (fT 1 eI))),(3,.own 0 0 ((List.replicate ((a0.length:Int).toNat) ([]:aA)).length))] [(0,⟨1,List.map (ow (fT 1 eI)) (List.replicate ((a0.length:Int).toNat) ([]:aA))⟩)] 1) (bE (kB 1 k2 (gZ ⟨_,k,⟨k,k,(by simp only [aY,lA,lT,lR,lC,lN]),k⟩⟩ aU)) (hX ⟨_,k,k,.inr (aED _)⟩ k<|aU) k4)<|sQ<|sR<|aT k2<|aE<|oB h λy5 hy5 h=>cC (body:=(jA a0)) hy5 (λ(x1:(bG×Int))=>mN [(0,.list 1 (a0.map (fT 1 eI))),(3,.own 0 0 x1.1.length),(4,.int x1.2)] [(0,⟨1,x1.1.map (ow (fT 1 eI))⟩)] 1) (λr e t=>e= .exit 0/\Ent t (mN [(3,.own 0 0 r.length)] [(0,⟨1,r.map (ow (fT 1 eI))⟩)] 1)) (bE (bB k2) (cS (bR.plainO _) k<|aU) k4) ?_ ?_
 ·intro x1 o h;exact sQ<|sR<|am k k<|am k k<|ln k4<|cm k4<|an<|tn<|cY k h (λ_ h=>aD<|tn<|sQ<|aE<|rg<|am k k<|am k k<|am k k<|am k k<|oB h λv2 hv2 h=>ae (xl hv2 k) k<|lr k7<|oB h λv3 hv3 h=>ae (cL nJ (rQ v2 v3 hv3) k3 (eO k aS)) k<|oB h λv4 hv4 h=>ae (xo hv4 k) k<|ae (tW aP k k k k k k (sC (cA hv4)) k) k<|an<|aI<|tn<|rg<|am k k<|ae (aR k k) k<|aT k2<|sp h ⟨_,k,(Ent.trans (show Ent _ (mN [(0,.list 1 (a0.map (fT 1 eI))),(3,.own 0 0 ((x1.1.set x1.2.toNat v3).length)),(4,.int (wr (x1.2+1)))] [(0,⟨1,List.map (ow (fT 1 eI)) (x1.1.set x1.2.toNat v3)⟩)] 2) from (Ent.trans (aFJ (b:=0) (b':=1) (j:=0) (es':=v3.map eI) (by rw [dD];exact sE hv4) k k k k (aY _ _) (nJ.frzs _)) (bE (kB 1 k2 (gZ ⟨_,k,⟨k,k,(by simp only [aY,lA,lT,lR,lC,lN]),k⟩⟩ (bB k2))) (hX ⟨_,k,k,.inl ⟨aCj v3 k,bR.plainO _⟩⟩ k<|aU) k4))) (bE (bB k2) (cS (bR.plainO _) k<|aU) k4))⟩) λ_ h=>aV<|aB<|aB<|sp h ⟨_,k,k,(bE (bB k2) (cS (bR.plainO _) k<|aU) k4)⟩
 ·rintro e t ⟨rfl,hent⟩;exact aF<|tn<|aM hent<|sR<|am k k<|aT k2<|aJ<|sp h (cB k k k (mT (vE bR k k)))
def jB (a0:bG) (a1:bG) (x1:Int):Option (Int ⊕ (Unit ⊕ Bool)):=
 bif decide (x1<(a0.length:Int)) then
 ((bO a0 x1).bind λv3=>
 (bO a1 x1).bind λv4=>
 (lU v3 v4).bind λv5=>
 bif !v5 then
 (some (.inr (.inr (false))))
 else
 (some (.inl (wr (x1+1)))))
 else
 (some (.inr (.inl ())))
def lK (a0:bG) (a1:bG):Option Bool:=
 bif !decide ((a0.length:Int)=(a1.length:Int)) then
 (some (false))
 else
 ((Lp (jB a0 a1) 0).bind λy7=>
 Sum.elim (λy8=>
 some (true)
 )
 (λy9=>
 some y9
 )
 y7)
theorem zD (a0:bG) (a1:bG) (r:Bool) (h:lK a0 a1=some r):HasC Tryz.prog 26 [.list 1 (a0.map (fT 1 eI)),.list 1 (a1.map (fT 1 eI))] (.bl r):=by
 refine hM [.tmp 4] Tryz.func26 Tryz.ntmps26 k<|sR<|aT k2<|sQ<|sR<|am k k<|ln k4<|am k k<|ln k4<|cm k4<|an<|tn<|cY k h (λ_ h=>sR<|aT k2<|aJ<|aG<|qJ h k2) λ_ h=>?_;refine aD<|tn<|sQ<|sR<|aT k2<|aE<|oB h λy7 hy7 h=>cC (body:=(jB a0 a1)) hy7 (λ(x1:Int)=>mN [(0,.list 1 (a0.map (fT 1 eI))),(1,.list 1 (a1.map (fT 1 eI))),(5,.int x1)] [] 0) (λr e t=>Sum.elim (λa=>(λr e t=>e= .exit 0/\Ent t (mN [] [] 0)) a e t) (λb=>(λr e t=>e= .ret/\uZ TT [.tmp 4] (.bl r) .ret t) b e t) r) (bE (bB k2) aU k4) ?_ ?_
 ·intro x1 o h;exact sQ<|sR<|am k k<|am k k<|ln k4<|cm k4<|an<|tn<|cY k h (λ_ h=>aD<|tn<|sQ<|aE<|sQ<|aN iR<|am k k<|am k k<|oB h λv3 hv3 h=>ae (xl hv3 k) k<|lr k7<|am k k<|am k k<|oB h λv4 hv4 h=>ae (xl hv4 k) k<|lr k7<|oB h λv5 hv5 h=>ae (aO (rR v3 v4 v5 hv5) k (eO k (eO k aS))) k<|ae (gG k) k<|an<|nA (by kernel_rfl)<|tn<|cY k h (λ_ h=>sR<|aT k2<|aJ<|bV<|aG<|aG<|sp h ⟨_,k,k,cB k k k (oF k)⟩) λ_ h=>aD<|aI<|tn<|rg<|am k k<|ae (aR k k) k<|aT k2<|sp h ⟨_,k,(bE (bB k2) aU k4)⟩) λ_ h=>aV<|aB<|aB<|sp h ⟨_,k,k,(bE aU aU k4)⟩
 ·intro e t hX;rcases y7 with y8|y9
  ·obtain ⟨rfl,hent⟩:=hX;exact aF<|tn<|aM hent<|sR<|aT k2<|aJ<|qJ h k2
  ·obtain ⟨rfl,hent⟩:=hX;exact bV<|aG<|sp h hent
end
section
theorem aHo {l:aA} {left:Int} (hl:fI l) (h0:0<=left) (h1:left<=1048576):iO l left=some (aEK l left):=aIE hl h0 h1
def fLs (l:bG):Prop:=fI l/\ ∀ m∈l,fI m
theorem aIS {l:bG} {left:Int} (hl:fLs l) (h0:0<=left) (h1:left<=1048576):lI l left=some (zS aEK l left):=by
 obtain ⟨ha,hb⟩:=hl;unfold fI at ha;unfold lI zS;rw [aFG (by omega)];by_cases h:left - l.length<0
 ·rw [aW h,bT h];rfl
 ·rw [bH h,bM h,aL];refine aGg (f:=aEK) vK (by omega) (λv k hk g0 g1=>?_) (λv=>?_) _ (by omega) (by omega)
  ·unfold iZ;simp only;rw [pP hk,aH,cM hk,aC,aHo (hb _ (List.getElem_mem hk)) g0 g1,aC];cases decide ((aEK) l[k] v<0) <;> rfl
  ·unfold iZ;simp only;rw [pQ (bQ _),aL]
theorem aIT {l:bG} (h:l.length<=1048576/\ ∀ m∈l,bI m):lJ l=some l:=by
 obtain ⟨h,hb⟩:=h;unfold lJ;rw [aW (by omega),aW (by omega:(l.length:Int)<=1048576),Bool.and_self,aH];rw [aAM [] (by omega) (λk hk r hr=>?_) (λr=>?_)];rfl
 ·unfold jA;simp only;rw [pP hk,aH,cM hk,aC,aIF (hb _ (List.getElem_mem hk)),aC,cM (hr▸hk),aC,kC]
 ·unfold jA;simp only;rw [pQ (bQ _),aL]
theorem aIU {a b:bG} (h:a.length<=1048576/\ ∀ m∈a,bI m):lK a b=some (decide (a=b)):=by
 obtain ⟨h,hb⟩:=h;unfold lK;rw [aBv];by_cases e:a.length=b.length
 ·rw [aW e,iH,aL];refine aBu (by omega) e (λk h1 h2=>?_) ?_
  ·unfold jB;rw [pP h1,aH,cM h1,aC,cM h2,aC,aIG (hb _ (List.getElem_mem h1)),aC];cases decide (a[k]=b[k]) <;> rfl
  ·unfold jB;rw [pQ (bQ _),aL]
 ·rw [bH e,Bool.not_false,aH,bH (by rintro rfl;exact e rfl)]
theorem aHp {w:World} {l:bG} {ds:List AV} (h: ∀ d∈ds,∃ v S',RepD w d v S') (hl:AV.list 1 (l.map eL)∈ds):fLs l:=by
 obtain ⟨h1,h2⟩:=aFT h hl;refine ⟨h1,λv hv=>?_⟩;obtain ⟨v',S',h3⟩:=h2 v hv (aFD v) (by simp);exact aHD h3
end
noncomputable section
def jZ (a0:Fa) (a1:Int):Option Int:=
 (iO a0.birth a1).bind λv1=>
 bif decide (v1<0) then
 (some ((-1)))
 else
 ((lI a0.ends v1).bind λv3=>
 bif decide (v3<0) then
 (some ((-1)))
 else
 (some (v3)))
theorem rI (a0:Fa) (a1:Int) (r:Int) (h:jZ a0 a1=some r):HasC Tryz.prog 4 [.agg (dW a0),.int a1] (.int r):=by
 exact hM [.tmp 4] Tryz.func4 Tryz.ntmps4 k<|sR<|ae (wb k) k<|aT k2<|sR<|fp k8<|lp k8<|am k k<|oB h λv1 hv1 h=>ae (aO (rP a0.birth a1 v1 hv1) k (eO k (eO k aS))) k<|aT k2<|sQ<|sR<|am k k<|cm k4<|an<|tn<|cY k h (λ_ h=>sR<|aT k2<|aJ<|aG<|sJ h k2) λ_ h=>aD<|tn<|sR<|fp k8<|lp k8<|am k k<|oB h λv3 hv3 h=>ae (aO (zA a0.ends v1 v3 hv3) k (eO k (eO k aS))) k<|aT k2<|sQ<|sR<|am k k<|cm k4<|an<|tn<|cY k h (λ_ h=>sR<|aT k2<|aJ<|aG<|sJ h k2) λ_ h=>aD<|tn<|sR<|am k k<|aT k2<|aJ<|sJ h k2
def eA (a0:Fa):Option Fa:=
 (kD a0.birth).bind λv1=>
 (lJ a0.ends).bind λv2=>
 some ((⟨a0.stages,v1,v2⟩:Fa))
theorem kA (a0:Fa) (r:Fa) (h:eA a0=some r):HasC Tryz.prog 6 [.agg (dW a0)] (.agg (dW r)):=by
 refine hM [.cell 2 28] Tryz.func6 Tryz.ntmps6 k<|sR<|ae (wb k) k<|ae (tV aP k k) k<|an<|tn<|sR<|ae (tV aP k k) k<|an<|tn<|sR<|fp k8<|lp k8<|fp k8<|ae (ws k) k<|an<|tn<|sR<|fp k8<|lp k8<|oB h λv1 hv1 h=>ae (cL nJ (rQ a0.birth v1 hv1) k3 (eO k aS)) k<|fp k8<|ae (ws k) k<|an<|tn<|sQ ?_;exact rg<|fp k8<|lp k8<|oB h λv2 hv2 h=>ae (cL bR (zB a0.ends v2 hv2) k3 (eO k aS)) k<|fp k8<|ae (ws k) k<|an<|tn<|sR<|lp k8<|ae (ws k) k<|an<|tn<|aJ<|sp h (cB k k k (aHQ (aAo (k) (aAo (vE nJ k k) (aAo (vE bR k k) aHP)))))
def gO (a0:Fa) (a1:Fa):Option Bool:=
 bif !decide (a0.stages=a1.stages) then
 (some (false))
 else
 ((lU a0.birth a1.birth).bind λv2=>
 bif !v2 then
 (some (false))
 else
 ((lK a0.ends a1.ends).bind λv4=>
 bif !v4 then
 (some (false))
 else
 (some (true))))
theorem rJ (a0:Fa) (a1:Fa) (r:Bool) (h:gO a0 a1=some r):HasC Tryz.prog 8 [.agg (dW a0),.agg (dW a1)] (.bl r):=by
 exact hM [.tmp 4] Tryz.func8 Tryz.ntmps8 k<|sR<|ae (wb k) k<|ae (wb k) k<|aT k2<|sQ<|sR<|fp k8<|lp k8<|fp k8<|lp k8<|cm k4<|an<|tn<|cY k h (λ_ h=>sR<|aT k2<|aJ<|aG<|qJ h k2) λ_ h=>aD<|tn<|sQ<|sR<|fp k8<|lp k8<|fp k8<|lp k8<|oB h λv2 hv2 h=>ae (aO (rR a0.birth a1.birth v2 hv2) k (eO k (eO k aS))) k<|ae (gG k) k<|an<|tn<|cY k h (λ_ h=>sR<|aT k2<|aJ<|aG<|qJ h k2) λ_ h=>aD<|tn<|sQ<|sR<|fp k8<|lp k8<|fp k8<|lp k8<|oB h λv4 hv4 h=>ae (aO (zD a0.ends a1.ends v4 hv4) k (eO k (eO k aS))) k<|ae (gG k) k<|an<|tn<|cY k h (λ_ h=>sR<|aT k2<|aJ<|aG<|qJ h k2) λ_ h=>aD<|tn<|sR<|aT k2<|aJ<|qJ h k2
def eS (a0:Fa):Option Bool:=
 (jZ a0 1048576).bind λv1=>
 bif decide (v1<0) then
 (some (true))
 else
 ((eA a0).bind λv3=>
 (cX v3).bind λv4=>
 (eA a0).bind λv5=>
 (cW v5).bind λv6=>
 bif !eqS v6 v4 then
 (some (false))
 else
 ((eA a0).bind λv8=>
 (gO v5 v8).bind λv9=>
 bif !v9 then
 (some (false))
 else
 (some (true))))
theorem mK (a0:Fa) (r:Bool) (h:eS a0=some r):HasC Tryz.prog 3 [.agg (dW a0)] (.bl r):=by
 refine hM [.tmp 2] Tryz.func3 Tryz.ntmps3 k<|sR<|ae (wb k) k<|aT k2<|sR<|aT k2<|sR<|lp k8<|am k k<|oB h λv1 hv1 h=>ae (aO (rI a0 1048576 v1 hv1) k (bL (wC k) (eO k aS))) k<|aT k2<|sQ<|sR<|am k k<|cm k4<|an<|tn<|cY k h (λ_ h=>sR<|aT k2<|aJ<|aG<|qJ h k2) λ_ h=>?_;refine aD<|tn<|sR<|lp k8<|oB h λv3 hv3 h=>ae (AEff.conv (qZ (x:= .agg [.int v3.stages,.own 1 0 (v3.birth.map eI).length,.own 2 0 (v3.ends.map (fT 1 eI)).length]) (nb:=[(1,⟨1,iU (v3.birth.map eI)⟩),(2,⟨1,iU (v3.ends.map (fT 1 eI))⟩)]) (kA a0 v3 hv3) k (by rfl) k k (mU aU (mU (nJ.good _) (mU (bR.good _) aCi))) (bL (wC k) aS)) (v':= .agg [.int v3.stages,.own 1 0 v3.birth.length,.own 2 0 v3.ends.length]) (ed':=[(1,some ⟨1,v3.birth.map (ow eI)⟩),(2,some ⟨1,v3.ends.map (ow (fT 1 eI))⟩)]) (by simp only [aY]) (aAC (nb':=[(1,⟨1,v3.birth.map (ow eI)⟩),(2,⟨1,v3.ends.map (ow (fT 1 eI))⟩)]) (by simp only [tY]))) k<|oB h λv4 hv4 h=>ae (aO (pZ v3 v4 hv4) k (bL (tX (iV (oZ k) (iV (zG nJ k k) (iV (zG bR k k) vB)))) aS)) k<|aT k2<|sR<|lp k8<|oB h λv5 hv5 h=>ae (AEff.conv (qZ (x:= .agg [.int v5.stages,.own 3 0 (v5.birth.map eI).length,.own 4 0 (v5.ends.map (fT 1 eI)).length]) (nb:=[(3,⟨1,iU (v5.birth.map eI)⟩),(4,⟨1,iU (v5.ends.map (fT 1 eI))⟩)]) (kA a0 v5 hv5) k (by rfl) k k (mU aU (mU (nJ.good _) (mU (bR.good _) aCi))) (bL (wC k) aS)) (v':= .agg [.int v5.stages,.own 3 0 v5.birth.length,.own 4 0 v5.ends.length]) (ed':=[(3,some ⟨1,v5.birth.map (ow eI)⟩),(4,some ⟨1,v5.ends.map (ow (fT 1 eI))⟩)]) (by simp only [aY]) (aAC (nb':=[(3,⟨1,v5.birth.map (ow eI)⟩),(4,⟨1,v5.ends.map (ow (fT 1 eI))⟩)]) (by simp only [tY]))) k<|ae (tV aP k k) k<|ae (ws k) k<|an<|tn<|sR<|lp k8<|oB h λv6 hv6 h=>ae (aO (pY v5 v6 hv6) k (bL (tX (iV (oZ k) (iV (zG nJ k k) (iV (zG bR k k) vB)))) aS)) k<|aT k2<|sQ<|sR<|am k k ?_;exact am k k<|ae (aIO k k) k<|an<|tn<|cY k h (λ_ h=>sR<|aT k2<|aM (t:=mN [(2,.bl false)] [] 6) (bE (bB k2) aU k4)<|aJ<|aG<|qJ h k2) λ_ h=>aD<|tn<|sQ<|sQ<|aN iR<|lp k8<|lp k8<|oB h λv8 hv8 h=>ae (AEff.conv (qZ (x:= .agg [.int v8.stages,.own 6 0 (v8.birth.map eI).length,.own 7 0 (v8.ends.map (fT 1 eI)).length]) (nb:=[(6,⟨1,iU (v8.birth.map eI)⟩),(7,⟨1,iU (v8.ends.map (fT 1 eI))⟩)]) (kA a0 v8 hv8) k (by rfl) k k (mU aU (mU (nJ.good _) (mU (bR.good _) aCi))) (bL (wC k) aS)) (v':= .agg [.int v8.stages,.own 6 0 v8.birth.length,.own 7 0 v8.ends.length]) (ed':=[(6,some ⟨1,v8.birth.map (ow eI)⟩),(7,some ⟨1,v8.ends.map (ow (fT 1 eI))⟩)]) (by simp only [aY]) (aAC (nb':=[(6,⟨1,v8.birth.map (ow eI)⟩),(7,⟨1,v8.ends.map (ow (fT 1 eI))⟩)]) (by simp only [tY]))) k<|oB h λv9 hv9 h=>ae (aO (rJ v5 v8 v9 hv9) k (bL (tX (iV (oZ k) (iV (zG nJ k k) (iV (zG bR k k) vB)))) (bL (tX (iV (oZ k) (iV (zG nJ k k) (iV (zG bR k k) vB)))) aS))) k<|ae (gG k) k<|an<|nA (by kernel_rfl)<|tn<|aM (t:=mN [(26,.bl (!v9))] [] 8) (bE (bB k2) aU k4)<|cY k h (λ_ h=>sR<|aT k2<|aJ<|aG<|qJ h k2) λ_ h=>aD<|tn<|sR<|aT k2<|aJ<|qJ h k2
end
section
open Go.ChangeShapes Go.WideShapes Go.ChangeAt Go.RowKit
section
variable {f:Fa} (H:FOk f)
include H
theorem aDA (h:rF f=true): ∃ t,cW f=some t/\cX f=some t:=by
 have hs:=H.s;obtain ⟨L,e1,e2,hL⟩:=aGx H h;obtain ⟨S,hS⟩: ∃ S:Nat,f.stages=S:=⟨f.stages.toNat,by omega⟩
 have hT:(brT L).length <=100:=by
  unfold brT;have:=aBN L;split
  ·simp
  ·omega
 have hP: ∀ k,((List.range k).map λt:Nat=>gV f (t:Int)).length=k:=λk=>by rw [dD,List.length_range]
 have hC: ∀ k,((List.range k).map λt:Nat=>nW f (t:Int)).length=k:=λk=>by rw [dD,List.length_range]
 unfold cW cX;rw [e1,e2,aC,aC];simp only [iH,aL]
 have hF:bK f.stages=some (lB [d1 f.stages]):=by
  have:=aBM f.stages
  rwa [show max 0 (min 9 f.stages)=f.stages by omega] at this
 have hFI:gU f.stages=some (lB [d1 f.stages]):=by
  rw [aHm (by omega) (by omega),←aGJ (by omega) (by omega),hF]
 rw [gY (s:=(([]:aA),([]:aA),(0:Int))) (r:=((List.range S).map λt:Nat=>gV f (t:Int),(List.range S).map λt:Nat=>nW f (t:Int))) (λk=>((List.range k).map λt:Nat=>gV f (t:Int),(List.range k).map λt:Nat=>nW f (t:Int),(k:Int))) S rfl (λk hk=>?_) (λ_=>?_),aC,hF,hFI,aC,aC]
 ·simp only;rw [yZ (by rw [hP];omega),aC,yZ (by rw [hC];omega),aC,aCy (by omega),aCz (by omega),aC];have j1:(⟨#[115,116,97,103,101,115]⟩:ByteArray)=lB [115,116,97,103,101,115]:=rfl;have j2:(⟨#[112,97,114,116,115]⟩:ByteArray)=lB [112,97,114,116,115]:=rfl;have j3:(⟨#[99,121,99,108,101,115]⟩:ByteArray)=lB [99,121,99,108,101,115]:=rfl;have j4:(⟨#[98,97,114,115]⟩:ByteArray)=lB [98,97,114,115]:=rfl;have j5:(⟨#[32]⟩:ByteArray)=lB [32]:=rfl;have i1:(⟨#[115,116,97,103,101,115,32]⟩:ByteArray)=lB [115,116,97,103,101,115,32]:=rfl;have i2:(⟨#[32,112,97,114,116,115,32]⟩:ByteArray)=lB [32,112,97,114,116,115,32]:=rfl;have i3:(⟨#[32,99,121,99,108,101,115,32]⟩:ByteArray)=lB [32,99,121,99,108,101,115,32]:=rfl;have i4:(⟨#[32,98,97,114,115,32]⟩:ByteArray)=lB [32,98,97,114,115,32]:=rfl;have i5:(⟨#[]⟩:ByteArray)=lB []:=rfl;have l1: ∀ k,(((List.range k).map λt:Nat=>gV f (t:Int)).map d1).length=k:=λk=>by rw [dD,hP]
  have l2: ∀ k,(((List.range k).map λt:Nat=>nW f (t:Int)).map d1).length=k:=λk=>by rw [dD,hC]
  have l1S:=l1 S;have l2S:=l2 S
  rw [j1,j2,j3,j4,j5,i1,i2,i3,i4,i5,nI (by simp),fN,nI (by simp),fN,
   gY (s:=(lB ([115,116,97,103,101,115,32]++[d1 f.stages]++[32,112,97,114,116,115,32]),lB [],(0:Int))) (r:=(lB ([115,116,97,103,101,115,32]++[d1 f.stages]++[32,112,97,114,116,115,32]++((List.range S).map λt:Nat=>gV f (t:Int)).map d1),lB (((List.range S).map λt:Nat=>nW f (t:Int)).map d1)))
    (λk=>(lB ([115,116,97,103,101,115,32]++[d1 f.stages]++[32,112,97,114,116,115,32]++((List.range k).map λt:Nat=>gV f (t:Int)).map d1),lB (((List.range k).map λt:Nat=>nW f (t:Int)).map d1),(k:Int))) S rfl (λk hk=>?_) (λ_=>?_),aC]
  ·simp only;generalize ((List.range S).map λt:Nat=>gV f (t:Int)).map d1=A at l1S ⊢;generalize ((List.range S).map λt:Nat=>nW f (t:Int)).map d1=B at l2S ⊢;generalize brT L=T at hT ⊢;rw [nI (by simp;omega),fN,nI (by simp;omega),fN,nI (by simp;omega),fN,aC,nI (by simp;omega),fN]
   have hj:vT [lB [115,116,97,103,101,115],lB [d1 f.stages],lB [112,97,114,116,115],lB A,lB [99,121,99,108,101,115],lB B,lB [98,97,114,115],lB T] (lB [32])=some (lB (Lib.join [[115,116,97,103,101,115],[d1 f.stages],[112,97,114,116,115],A,[99,121,99,108,101,115],B,[98,97,114,115],T] [32])):=
    aGK (l:=[[115,116,97,103,101,115],[d1 f.stages],[112,97,114,116,115],A,[99,121,99,108,101,115],B,[98,97,114,115],T]) (by rw [Lib.join_cons];simp [Lib.joinTail];omega) (by simp)
   rw [hj,aC];refine ⟨_,rfl,?_⟩;congr 2;rw [Lib.join_cons];simp [Lib.joinTail]
  ·unfold eM;simp only;have hcc:=aFt H (k:Int) h (by omega);have hcy:=aFv H (k:Int) h (by omega);have hp:=aFs H (k:Int);have hc:=aIP H (k:Int);have l1k:=l1 k;have l2k:=l2 k
   have f1:bK (gV f (k:Int))=some (lB [d1 (gV f (k:Int))]):=by
    have:=aBM (gV f (k:Int))
    rwa [show max 0 (min 9 (gV f (k:Int)))=gV f (k:Int) by omega] at this
   have f2:bK (nW f (k:Int))=some (lB [d1 (nW f (k:Int))]):=by
    have:=aBM (nW f (k:Int))
    rwa [show max 0 (min 9 (nW f (k:Int)))=nW f (k:Int) by omega] at this
   rw [hS,pP hk,aH,hcc,aC,f1,aC,List.range_succ,List.map_append,List.map_append,List.map_append,List.map_append];generalize ((List.range k).map λt:Nat=>gV f (t:Int)).map d1=A at l1k ⊢;generalize ((List.range k).map λt:Nat=>nW f (t:Int)).map d1=B at l2k ⊢;rw [nI (by simp;omega),fN,hcy,aC,f2,aC,nI (by simp;omega),fN,dJ hk (by omega)];simp only [List.append_assoc];rfl
  ·unfold eM;simp only;rw [hS,pQ (bQ _),aL]
 ·unfold eK;simp only;rw [hS,pP hk,aH,aCH H (k:Int) h (by omega),aC,hP,aW (by rw [List.length_singleton];omega),aH,aFu H (k:Int) h (by omega),aC,hC,aW (by rw [List.length_singleton];omega),aH,dJ hk (by omega),List.range_succ,List.map_append,List.map_append];rfl
 ·unfold eK;simp only;rw [hS,pQ (bQ _),aL]
end
theorem aCQ {f:Fa} (h:rF f=false):cW f=some ⟨#[]⟩/\cX f=some ⟨#[]⟩:=by
 unfold cW cX gS gT;rw [vN,vM,h];exact ⟨rfl,rfl⟩
theorem aHq (f:Fa): ∃ t,cW f=some t/\cX f=some t:=by
 cases h:rF f with
 |false=>exact ⟨_,aCQ h⟩
 |true=>exact aDA (aGo h) h
theorem oFa:oJ Tryz.prog 25 (pV 3 dW):=by
 intro H enc w fuel cs d ps h hf;obtain ⟨x0,T0,u0⟩:=vJ Tryz.underlying25 h hf aFP (i:=0) (ft:=3) rfl (k:=1) (by kernel_rfl) oI;obtain ⟨x1,T1,u1⟩:=vJ Tryz.underlying25 h hf u0 (i:=1) (ft:=22) rfl (k:=1) (by kernel_rfl) oL;obtain ⟨x2,T2,u2⟩:=vJ Tryz.underlying25 h hf u1 (i:=2) (ft:=23) rfl (k:=1) (by kernel_rfl) aIH;exact ⟨⟨x0,x1,x2⟩,_,aFQ Tryz.underlying25 h hf u2 (by kernel_rfl) _ rfl⟩
def fFa (f:Fa):Prop:=fI f.birth/\fLs f.ends
theorem aHr {w:World} {f:Fa} (h: ∀ d∈dW f,∃ v S',RepD w d v S'):fFa f:=⟨aHW h (by simp [dW]),aHp h (by simp [dW])⟩
def zFa (f:Fa):Int->Int:=zC [zI f.birth.length,zS aEK f.ends]
theorem aIV {f:Fa} {left:Int} (hl:fFa f) (h0:0<=left) (h1:left<=1048576):jZ f left=some (zFa f left):=
 aDS (aIE hl.1 h0 h1) (aAu _) h0 h1 λv g0 g1=>aDS (aIS hl.2 g0 g1) (aDR vK _) g0 g1 λv _ _=>rfl
theorem aGM (f:Fa):oM (zFa f) (f.birth.length<=1048576/\((f.ends.length<=1048576/\ ∀ x∈f.ends,bI x)/\True)):=sL (aAu _) (sL (aDR vK _) aEL)
theorem qT {a:Fa} (fa:fFa a):eS a=some true:=by
 unfold eS;rw [aIV fa (by decide) (by decide),aC];rcases aGM a 1048576 (by decide) (by decide) with e|⟨e1,e2,ha⟩
 ·rw [e];rfl
 ·rw [bH (by omega),aL];obtain ⟨t,h1,h2⟩:=aHq a;have ht:eqS t t=true:=by unfold eqS;exact beq_self_eq_true _
  have mt:eA a=some a:=by
   unfold eA;rw [aIF ha.1,aC,aIT ha.2.1,aC]
  have me:gO a a=some true:=by
   unfold gO;rw [aW rfl,aIG ha.1,aIU ha.2.1];simp
  simp only [mt,aC,h1,h2,ht,me,iH,aL]
end
end Go.Proofs.YtckihlpjfmnccaaGreatDoor

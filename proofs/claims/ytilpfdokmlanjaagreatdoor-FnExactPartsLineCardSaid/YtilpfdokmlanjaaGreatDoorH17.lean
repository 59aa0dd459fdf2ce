/-
  Several texts of the claim in one.
-/
import Derived.Lib.Join
import Derived.Test.YtilpfdokmlanjaaGreatDoorH16
set_option linter.unusedVariables false
set_option linter.unusedSimpArgs false
namespace Go.Proofs.YtilpfdokmlanjaaGreatDoor
open Go.RowKit
noncomputable section
def lB (l:List UInt8):ByteArray:=⟨l.toArray⟩
theorem aCb (a b:List UInt8):lB a++lB b=lB (a++b):=by
 have h:(lB a++lB b).data=(lB (a++b)).data:=by
  rw [ByteArray.data_append];simp [lB]
 cases hx:lB a++lB b with
 |mk d=>rw [hx] at h;simp only at h;rw [h]
theorem aBQ (l:List UInt8):(lB l).size=l.length:=by simp [lB,ByteArray.size]
theorem aUn (l:List UInt8):(lB l).data.toList=l:=by simp [lB]
def f8 (z:Int):UInt8:=UInt8.ofNat z.toNat
theorem aMX (l:List Int):aHM l=lB (l.map f8):=by
 have key: ∀ (l:List Int) (a:List UInt8),l.foldl (λr n=>ByteArray.push r (UInt8.ofNat n.toNat)) (lB a)=lB (a++l.map f8):=by
  intro l;induction l with
  |nil=>intro a;simp
  |cons z l ih=>
   intro a;have e:(lB a).push (UInt8.ofNat z.toNat)=lB (a++[f8 z]):=by simp [lB,ByteArray.push,f8]
   rw [List.foldl_cons,e,ih,List.append_assoc];rfl
 exact key l []
def Dg (x:List Int):Prop:= ∀ a∈x,0≤a∧a≤4
def dgs (x:List Int):List UInt8:=x.map λa=>f8 (48+a)
theorem wr8 {a:Int} (h:0≤a∧a≤4):IntKind.u8.wrap (wr (48+a))=48+a:=by
 rw [dV (by omega)];have:a=0∨a=1∨a=2∨a=3∨a=4:=by omega
 rcases this with rfl|rfl|rfl|rfl|rfl <;> decide
theorem aTg {x:List Int} (hx:Dg x) (hl:x.length≤1000):zJ x=some (lB (dgs x)):=by
 unfold zJ
 rw [bB (by omega),bB (by omega),Bool.and_self,aL,dU,
  cF (s:=(List.replicate x.length (0:Int),(0:Int))) (r:=x.map λa=>48+a) (λk=>((x.take k).map (λa=>48+a)++List.replicate (x.length - k) 0,(k:Int))) x.length (by simp) (λk hk=>?_) (λ_=>?_),aA,aMX]
 ·unfold dgs;rw [List.map_map];rfl
 ·have ha:=hx x[k] (List.getElem_mem hk);unfold uD;simp only;have hlen:((x.take k).map (λa=>48+a)).length=k:=by rw [dD,List.length_take];omega
  rw [fX hk,aL,cZ hk,aA,cZ (by rw [List.length_append,hlen,List.length_replicate];omega),aA,Int.max_eq_left ha.1,Int.min_eq_left (by omega),wr8 ha,dU,bP hk (by omega)];rw [List.set_append_right _ _ (by omega),hlen,Nat.sub_self,show x.length - k=(x.length - (k+1))+1 by omega,List.replicate_succ,List.set_cons_zero,uH hk,List.map_append,List.append_assoc];rfl
 ·unfold uD;simp only;rw [gI (bH _),aR];simp
theorem aOP {x:List Int} (hx:Dg x) (hl:x.length≤1000) (h1:1≤x.length):uE x=some (lB (dgs x)):=by
 unfold uE;rw [dM (by omega),aR,aTg hx hl,aA]
theorem aWa {a:Int} (h:0≤a∧a≤4):iR a=some (lB [f8 (48+a)]):=by
 unfold iR;by_cases h0:a=0
 ·subst h0;rfl
 ·have e1:fG (a,(⟨#[]⟩:ByteArray))=some (.inl (0,lB [f8 (48+a)])):=by
   unfold fG;simp only;have e2:a.tmod 10=a:=Int.tmod_eq_of_lt (by omega) (by omega);have e3:a.tdiv 10=0:=Int.tdiv_eq_zero_of_lt (by omega) (by omega);rw [dM h0,Bool.not_false,aL,e2,e3,dM (by omega),aR,wr8 h,aMX,show (⟨#[]⟩:ByteArray)=lB [] from rfl,aCb,aBQ,aBQ,bB (by simp),aL,dV (by omega)];rfl
  have e4:fG (0,lB [f8 (48+a)])=some (.inr (lB [f8 (48+a)])):=rfl;rw [dM h0,aR,jW e1,gE e4,aA,dM (by omega),aR]
theorem aWb {x:List Int} (hx:Dg x) (hl:x.length≤1000):uC x=some (lB (dgs x)):=by
 unfold uC;rw [cF (s:=((⟨#[]⟩:ByteArray),(0:Int))) (r:=lB (dgs x)) (λk=>(lB (dgs (x.take k)),(k:Int))) x.length rfl (λk hk=>?_) (λ_=>?_),aA]
 ·unfold oA;simp only
  have e:dgs (x.take (k+1))=dgs (x.take k)++[f8 (48+x[k])]:=by
   unfold dgs;rw [uH hk,List.map_append];rfl
  have hd:(dgs (x.take k)).length ≤1000:=by unfold dgs;rw [dD,List.length_take];omega
  rw [fX hk,aL,cZ hk,aA,aWa (hx _ (List.getElem_mem hk)),aA,aBQ,aBQ,bB (by simp only [List.length_cons,List.length_nil];omega),aL,aCb,e,bP hk (by omega)]
 ·unfold oA;simp only;rw [gI (bH _),aR,List.take_length]
structure Rws (R:List (List Int)):Prop where
 len:R.length≤100
 row: ∀ x∈R,Dg x∧1≤x.length∧x.length≤5
def jn (R:List (List Int)):List UInt8:=Lib.join (R.map dgs) [32]
theorem aPf: ∀ {r:List (List Int)},(∀ x∈r,x.length≤5)→(Lib.joinTail [32] (r.map dgs)).length ≤6*r.length
 | [],_=>by simp [Lib.joinTail]
 |x::r,h=>by
  have h1:=aPf (r:=r) λy hy=>h y (by simp [hy]);have h2:=h x (by simp);have h3:(dgs x).length=x.length:=by unfold dgs;rw [dD]
  unfold Lib.joinTail at h1 ⊢;simp only [List.map_cons,List.flatten_cons,List.length_append,List.length_cons,List.length_nil] at h1 ⊢;omega
theorem aTh {R:List (List Int)} (h: ∀ x∈R,x.length≤5):(jn R).length ≤6*R.length:=by
 cases R with
 |nil=>exact Nat.zero_le _
 |cons x r=>
  have h1:=aPf (r:=r) λy hy=>h y (by simp [hy]);have h2:=h x (by simp);have h3:(dgs x).length=x.length:=by unfold dgs;rw [dD]
  unfold jn;rw [List.map_cons,Lib.join_cons,List.length_append,List.length_cons];omega
def aWc:List UInt8:=[110,111,110,101]
def dl (R:List (List Int)):List UInt8:=if R=[] then aWc else jn R
theorem aVt {R:List (List Int)} (h:Rws R):(dl R).length ≤700:=by
 unfold dl;split
 ·decide
 ·have:=aTh (R:=R) λx hx=>(h.row x hx).2.2;have:=h.len;omega
theorem aUo {R:List (List Int)} (h:Rws R):wI R=some (lB (dl R)):=by
 have hl:=h.len;unfold wI dl;by_cases h0:R=[]
 ·subst h0;rfl
 ·have h1:1≤R.length:=List.length_pos_iff.2 h0
  rw [dM (by omega),aR,aW h0,
   cF (s:=(([]:List ByteArray),(0:Int))) (r:=R.map λx=>lB (dgs x)) (λk=>((R.take k).map λx=>lB (dgs x),(k:Int))) R.length rfl (λk hk=>?_) (λ_=>?_),aA]
  ·have hb:=aTh (R:=R) λx hx=>(h.row x hx).2.2
   have e:(R.map λx=>lB (dgs x)).map (λx=>x.data.toList)=R.map dgs:=by
    rw [List.map_map];exact qU λx _=>aUn _
   unfold aPd aVJ;rw [e];show (Option.bind (bif decide ((jn R).length ≤140737488355328)&&_ then _ else _) _)=_;rw [bB (by omega),bB (by rw [dD];omega),Bool.and_self,aL,aA];rfl
  ·obtain ⟨g1,g2,g3⟩:=h.row _ (List.getElem_mem hk);unfold qC;simp only;rw [fX hk,aL,cZ hk,aA,aOP g1 (by omega) g2,aA,bB (by simp;omega),aL,bP hk (by omega),uH hk,List.map_append];rfl
  ·unfold qC;simp only;rw [gI (bH _),aR,List.take_length]
end
noncomputable section
theorem aMY {a:Nat} (h:a<10):Lib.decDigits a=[UInt8.ofNat (48+a)]:=by rw [Lib.decDigits,dif_pos h]
theorem aTi {a:Nat} (h:10≤a) (h2:a<100):Lib.decDigits a=[UInt8.ofNat (48+a / 10),UInt8.ofNat (48+a % 10)]:=by
 rw [Lib.decDigits,dif_neg (by omega),aMY (by omega)];rfl
theorem aTj {a:Nat} (h:a<100):(Lib.decDigits a).length ≤2:=by
 rcases dX a 10 with h1|h1
 ·rw [aMY h1];simp
 ·rw [aTi h1 h];simp
theorem aXF {a:Int} (h:0≤a∧a≤9):IntKind.u8.wrap (wr (48+a))=48+a:=by
 rw [dV (by omega)];have:a=0∨a=1∨a=2∨a=3∨a=4∨a=5∨a=6∨a=7∨a=8∨a=9:=by omega
 rcases this with rfl|rfl|rfl|rfl|rfl|rfl|rfl|rfl|rfl|rfl <;> decide
theorem aJe {a:Nat} (h0:0<a) (h:a<100) {out:List UInt8} (ho:out.length≤10):fG ((a:Int),lB out)=some (.inl (((a / 10:Nat):Int),lB (UInt8.ofNat (48+a % 10)::out))):=by
 unfold fG;simp only;have e2:(a:Int).tmod 10=((a % 10:Nat):Int):=by rw [Int.tmod_eq_emod_of_nonneg (by omega)];omega
 have e3:(a:Int).tdiv 10=((a / 10:Nat):Int):=by rw [Int.tdiv_eq_ediv_of_nonneg (by omega)];omega
 have e4:f8 (48+((a % 10:Nat):Int))=UInt8.ofNat (48+a % 10):=by
  unfold f8;congr 1
 rw [dM (by omega),Bool.not_false,aL,e2,e3,dM (by omega),aR,aXF (by omega),aMX,aCb,aBQ,aBQ,bB (by simp;omega),aL,dV (by omega)];rw [List.map_cons,List.map_nil,e4];rfl
theorem aOQ {out:List UInt8} :fG (0,lB out)=some (.inr (lB out)):=rfl
theorem aVu {a:Int} (h0:0≤a) (h:a<100):iR a=some (lB (Lib.decDigits a.toNat)):=by
 obtain ⟨a,rfl⟩: ∃ k:Nat,a=k:=⟨a.toNat,by omega⟩;rw [dU];unfold iR;by_cases hz:a=0
 ·subst hz;rw [aMY (by omega)];rfl
 ·rw [dM (by omega),aR,show (⟨#[]⟩:ByteArray)=lB [] from rfl];rcases dX a 10 with h1|h1
  ·rw [jW (aJe (by omega) (by omega) (by simp)),Nat.div_eq_of_lt h1,show ((0:Nat):Int)=0 from rfl,gE aOQ,aA,dM (by omega),aR,aMY h1,Nat.mod_eq_of_lt h1]
  ·rw [jW (aJe (by omega) (by omega) (by simp)),jW (aJe (a:=a / 10) (by omega) (by omega) (by simp)),Nat.div_eq_of_lt (show a / 10<10 by omega),show ((0:Nat):Int)=0 from rfl,gE aOQ,aA,dM (by omega),aR,aTi h1 (by omega),Nat.mod_eq_of_lt (show a / 10<10 by omega)]
theorem aVv {a:Int} (h0:0≤a) (h:a<100):uB a=some (lB (Lib.decDigits a.toNat)):=by
 unfold uB aPe;rw [bB h0,bB h];rfl
theorem aPg {α:Type} {a b:List UInt8} {k:Option α} (h:a.length+b.length≤1000000):(bif decide ((lB a).size +(lB b).size ≤9223372036854775807) then k else none)=k:=by
 rw [aBQ,aBQ,bB (by omega),aL]
end
noncomputable section
set_option maxRecDepth 10000
set_option maxHeartbeats 4000000
def oC (v1:((List Rp)×(List Mt)×Bool)) (x1:((List (List Int))×Int)):Option (((List (List Int))×Int) ⊕ (List (List Int))):=
 bif decide (x1.2<((v1.1.length:Nat):Int)) then
 ((cP v1.1 x1.2).bind λv4=>
 bif decide (x1.1.length+1≤4294967296) then
 (some (.inl ((x1.1++[v4.dims]),wr (x1.2+1))))
 else none)
 else
 (some (.inr x1.1))
def uF (a0:Rp):Option ByteArray:=
 (xQ a0).bind λv1=>
 bif !v1.2.2 then
 (some ((⟨#[]⟩:ByteArray)))
 else
 ((Lp (oC v1) ([],0)).bind λy6=>
 (uB ((v1.1.length:Nat):Int)).bind λv7=>
 bif decide ((⟨#[112,97,114,116,115,32]⟩:ByteArray).size +v7.size≤9223372036854775807) then
 (bif decide (((⟨#[112,97,114,116,115,32]⟩:ByteArray)++v7).size +(⟨#[32,58,32]⟩:ByteArray).size ≤9223372036854775807) then
 ((wI y6).bind λv8=>
 bif decide ((((⟨#[112,97,114,116,115,32]⟩:ByteArray)++v7)++(⟨#[32,58,32]⟩:ByteArray)).size +v8.size≤9223372036854775807) then
 (some (((((⟨#[112,97,114,116,115,32]⟩:ByteArray)++v7)++(⟨#[32,58,32]⟩:ByteArray))++v8)))
 else none)
 else none)
 else none)
theorem aGY (a0:Rp) (r:ByteArray) (h:uF a0=some r):HasC Tryz.prog 23 [.agg (eR a0)] (.str r):=by
 refine hM [.tmp 2] Tryz.func23 Tryz.ntmps23 k<|sR<|ae (wb k) k<|aT k2<|sR<|lp k8<|oB h λv1 hv1 h=>ae (AEff.conv (gZ (x:= .tuple [.own 1 0 (v1.1.map eR).length,.own 2 0 (v1.2.1.map eM).length,.bl v1.2.2]) (nb:=[(1,⟨6,cK (v1.1.map eR)⟩),(2,⟨3,cK (v1.2.1.map eM)⟩)]) (aJR a0 v1 hv1) k (by rfl) k k (dA (dY.good _) (dA (bK.good _) (dA aU qQ))) (aI (eD k) aN)) (v':= .tuple [.own 1 0 v1.1.length,.own 2 0 v1.2.1.length,.bl v1.2.2]) (ed':=[(1,some ⟨6,v1.1.map (ow eR)⟩),(2,some ⟨3,v1.2.1.map (ow eM)⟩)]) (by simp only [aG]) (pB (nb':=[(1,⟨6,v1.1.map (ow eR)⟩),(2,⟨3,v1.2.1.map (ow eM)⟩)]) (by simp only [fB]))) k<|am k k<|ae (bA k k (by intro _ h;cases h)) k<|ae (bA k k (by intro _ h;cases h)) k<|ae (bA k k (by intro _ h;cases h)) k<|aa k k<|aa k k<|aT k2<|sQ<|sR<|am k k<|ae (dS k) k<|an<|tn<|cW k h (λ_ h=>sR<|aT k2<|aE<|aJ<|sp h (bC k k k (aAi k))) λ_ h=>?_;refine aH<|tn<|sR<|aT k2<|sQ<|sR<|am k k<|ae (dI aO k k k k) k<|am k k<|an<|tn<|aC<|oB h λy6 hy6 h=>bZ (body:=(oC v1)) hy6 (λ(x1:((List (List Int))×Int))=>mN [(3,.own 0 0 v1.1.length),(6,.own 1 0 x1.1.length),(17,.own 0 0 v1.1.length),(18,.int ((v1.1.length:Nat):Int)),(19,.int x1.2)] [(0,⟨6,v1.1.map (ow eR)⟩),(1,⟨1,x1.1.map (dH 1 eI)⟩)] 2) (λr e t=>e= .exit 0∧Ent t (mN [(3,.own 0 0 v1.1.length),(6,.own 1 0 r.length)] [(0,⟨6,v1.1.map (ow eR)⟩),(1,⟨1,r.map (dH 1 eI)⟩)] 2)) (fP (σ:=sg [(0,1)]) (jU 1 k2 (fU ⟨_,k,⟨k,k,k,k⟩⟩ (bJ k2))) (cA (dY.plainO _) k<|hX k k<|aU) k) ?_ ?_
 ·intro x1 o h;exact sR<|cm k4<|an<|tn<|sQ<|cW k h (λ_ h=>aH<|tn<|sQ<|aC<|sR<|oB h λv4 hv4 h=>ae (xo hv4 k) k<|ae (wp hv4 k) k<|ae (bX aO k k) k<|ae (ws k) k<|an<|tn<|rg<|am k k<|fp k8<|lp k8<|ae (wl k) k<|cG h λq5 h=>ae (AEff.conv (eW aO (e:=(dH 1 eI)) (l:=x1.1) (c:=[.list 1 (v4.dims.map eI)]) q5 k k k k k k k k k k k k k k) (v':= .own 4 0 (x1.1++[v4.dims]).length) (ed':=[(1,none),(4,some ⟨1,List.map (dH 1 eI) (x1.1++[v4.dims])⟩)]) (by simp only [List.length_append,List.length_cons,List.length_nil]) (by rw [show List.map (dH 1 eI) (x1.1++[v4.dims])=List.map (dH 1 eI) x1.1++[[.list 1 (v4.dims.map eI)]] from List.map_append])) k<|aa k k<|an<|aY<|tn<|rg<|ae (bG k k) k<|am k k<|an<|tn<|sp h ⟨_,k,(gA [0,4] (bJ k2) (cA (dY.plainO _) k<|cA (bY.plainE _) k<|aU) k4)⟩) λ_ h=>aX<|aB<|aB<|sp h ⟨_,k,k,(bU (bJ k2) (cA (dY.plainO _) k<|cA (bY.plainE _) k<|aU) k4)⟩
 ·rintro e t ⟨rfl,hent⟩;exact aM<|tn<|aD hent<|sR<|am k k<|ae (dI aO k k k k) k<|oB h λv7 hv7 h=>ae (aS (aGV ((v1.1.length:Nat):Int) v7 hv7) k (cI k aN)) k<|cG h λq11 h=>ae (aDN k k q11) k<|cG h λq10 h=>ae (aDN k k q10) k<|am k k<|oB h λv8 hv8 h=>ae (aS (aHX y6 v8 hv8) k (aI (aUs bY k k) aN)) k<|cG h λq9 h=>ae (aDN k k q9) k<|aT k2<|aE<|sp h (bC k k k (aAi k))
def oD (v1:((List Rp)×(List Mt)×Bool)) (x1:(ByteArray×Int)):Option ((ByteArray×Int) ⊕ ByteArray):=
 bif decide (x1.2<((v1.1.length:Nat):Int)) then
 (bif decide (x1.1.size+(⟨#[32]⟩:ByteArray).size ≤9223372036854775807) then
 ((cP v1.1 x1.2).bind λv5=>
 (uC v5.dims).bind λv6=>
 bif decide ((x1.1++(⟨#[32]⟩:ByteArray)).size +v6.size≤9223372036854775807) then
 (some (.inl (((x1.1++(⟨#[32]⟩:ByteArray))++v6),wr (x1.2+1))))
 else none)
 else none)
 else
 (some (.inr x1.1))
def uG (a0:Rp):Option ByteArray:=
 (xT a0).bind λv1=>
 bif !v1.2.2 then
 (some ((⟨#[]⟩:ByteArray)))
 else
 ((iR ((v1.1.length:Nat):Int)).bind λv3=>
 bif decide ((⟨#[112,97,114,116,115,32]⟩:ByteArray).size +v3.size≤9223372036854775807) then
 (bif decide (((⟨#[112,97,114,116,115,32]⟩:ByteArray)++v3).size +(⟨#[32,58]⟩:ByteArray).size ≤9223372036854775807) then
 ((Lp (oD v1) ((((⟨#[112,97,114,116,115,32]⟩:ByteArray)++v3)++(⟨#[32,58]⟩:ByteArray)),0)).bind λy9=>
 some (y9))
 else none)
 else none)
theorem aGZ (a0:Rp) (r:ByteArray) (h:uG a0=some r):HasC Tryz.prog 22 [.agg (eR a0)] (.str r):=by
 refine hM [.tmp 2] Tryz.func22 Tryz.ntmps22 k<|sR<|ae (wb k) k<|aT k2<|sR<|lp k8<|oB h λv1 hv1 h=>ae (aBw (σ:=sg []) (σ':=sg [(1,0),(2,1)]) (touch:=[]) (news:=[1,2]) (hl2:=[(1,⟨6,v1.1.map eR⟩),(2,⟨3,v1.2.1.map (ow eM)⟩)]) (n':=3) (r2:= .tuple [.own 1 0 v1.1.length,.own 2 0 v1.2.1.length,.bl v1.2.2]) (aJU a0 v1 hv1) k k ⟨_,_,k,(.inl ⟨_,_,k,k,⟨_,_,k,k,⟨_,_,k,⟨k,k⟩,⟨_,_,k,⟨k,k⟩,⟨_,_,k,⟨k,k⟩,⟨_,_,k,⟨k,k⟩,k⟩⟩⟩⟩⟩⟩),k⟩ aU k k k ⟨⟨_,k,k,.inl ⟨k,dY.plainE _⟩⟩,k,⟨_,k,k,.inl ⟨k,bK.plainO _⟩⟩,k,aU⟩ k (.inr ⟨_,_,k,k,⟨_,_,k,⟨k,k,(by simp only [aG,lA,lT,lR,lC,lN]),k⟩,⟨_,_,k,⟨k,k,(by simp only [aG,lA,lT,lR,lC,lN]),k⟩,⟨_,_,k,k,k⟩⟩⟩⟩) k ⟨k,dY.tamdE _ _,⟨k,bK.tamd _ _,aU⟩⟩ k k) k<|am k k<|ae (bA k k (by intro _ h;cases h)) k<|ae (bA k k (by intro _ h;cases h)) k<|ae (bA k k (by intro _ h;cases h)) k<|aa k k<|aa k k<|aT k2<|sQ<|sR<|am k k<|ae (dS k) k<|an<|tn<|cW k h (λ_ h=>sR<|aT k2<|aE<|aJ<|sp h (bC k k k (aAi k))) λ_ h=>?_;refine aH<|tn<|sR<|am k k<|ae (dI aO k k k k) k<|oB h λv3 hv3 h=>ae (aS (aCB ((v1.1.length:Nat):Int) v3 hv3) k (cI k aN)) k<|cG h λq11 h=>ae (aDN k k q11) k<|cG h λq10 h=>ae (aDN k k q10) k<|aT k2<|sQ<|sR<|aT k2<|aC<|oB h λy9 hy9 h=>bZ (body:=(oD v1)) hy9 (λ(x1:(ByteArray×Int))=>mN [(3,.own 0 0 v1.1.length),(6,.str x1.1),(7,.int x1.2)] [(0,⟨6,v1.1.map eR⟩)] 1) (λr e t=>e= .exit 0∧Ent t (mN [(6,.str r)] [] 0)) (gA [1] (bJ k2) (cA (dY.plainE _) k<|aU) k4) ?_ ?_
 ·intro x1 o h;exact sQ<|sR<|am k k<|am k k<|ae (dI aO k k k k) k<|cm k4<|an<|tn<|cW k h (λ_ h=>aH<|tn<|sQ<|aC<|rg<|am k k<|cG h λq8 h=>ae (aDN k k q8) k<|am k k<|am k k<|oB h λv5 hv5 h=>ae (xo hv5 k) k<|fp k8<|ae (wp hv5 k) k<|oB h λv6 hv6 h=>ae (aS (aGW v5.dims v6 hv6) k (cI k aN)) k<|cG h λq7 h=>ae (aDN k k q7) k<|aa k k<|an<|aY<|tn<|rg<|am k k<|ae (bG k k) k<|aT k2<|sp h ⟨_,k,(bU (bJ k2) (cA (dY.plainE _) k<|aU) k4)⟩) λ_ h=>aX<|aB<|aB<|sp h ⟨_,k,k,(bU (bJ k2) aU k4)⟩
 ·rintro e t ⟨rfl,hent⟩;exact aM<|tn<|aD hent<|sR<|am k k<|aT k2<|aE<|sp h (bC k k k (aAi k))
end
noncomputable section
set_option maxRecDepth 10000
set_option maxHeartbeats 4000000
def pA (a0:Rp):Option Bool:=
 (aCP a0 1048576).bind λv1=>
 bif decide (v1<0) then
 (some (true))
 else
 ((tA a0).bind λv3=>
 (uG v3).bind λv4=>
 (tA a0).bind λv5=>
 (uF v5).bind λv6=>
 bif !eqS v6 v4 then
 (some (false))
 else
 ((tA a0).bind λv8=>
 (aAV v5 v8).bind λv9=>
 bif !v9 then
 (some (false))
 else
 (some (true))))
theorem aCC (a0:Rp) (r:Bool) (h:pA a0=some r):HasC Tryz.prog 6 [.agg (eR a0)] (.bl r):=by
 refine hM [.tmp 2] Tryz.func6 Tryz.ntmps6 k<|sR<|ae (wb k) k<|aT k2<|sR<|aT k2<|sR<|lp k8<|am k k<|oB h λv1 hv1 h=>ae (aS (aLm a0 1048576 v1 hv1) k (aI (eD k) (cI k aN))) k<|aT k2<|sQ<|sR<|am k k<|cm k4<|an<|tn<|cW k h (λ_ h=>sR<|aT k2<|aE<|aJ<|iZ h k2) λ_ h=>?_;refine aH<|tn<|sR<|lp k8<|oB h λv3 hv3 h=>ae (cR (aCQ a0 v3 hv3) k3 (aI (eD k) aN)) k<|oB h λv4 hv4 h=>ae (aS (aGZ v3 v4 hv4) k (aI (vaR k8) aN)) k<|aT k2<|sR<|lp k8<|oB h λv5 hv5 h=>ae (cR (aCQ a0 v5 hv5) k3 (aI (eD k) aN)) k<|ae (bX aO k k) k<|ae (ws k) k<|an<|tn<|sR<|lp k8<|oB h λv6 hv6 h=>ae (aS (aGY v5 v6 hv6) k (aI (vaR k8) aN)) k<|aT k2<|sQ<|sR<|am k k ?_;exact am k k<|ae (aWV k k) k<|an<|tn<|cW k h (λ_ h=>sR<|aT k2<|aD (t:=mN [(2,.bl false)] [] 10) (bU (bJ k2) aU k4)<|aE<|aJ<|iZ h k2) λ_ h=>aH<|tn<|sQ<|sQ<|aP eP<|lp k8<|lp k8<|oB h λv8 hv8 h=>ae (cR (aCQ a0 v8 hv8) k3 (aI (eD k) aN)) k<|oB h λv9 hv9 h=>ae (aS (aLn v5 v8 v9 hv9) k (aI (vaR k8) (aI (vaR k8) aN))) k<|ae (dS k) k<|an<|lL (by kernel_rfl)<|tn<|aD (t:=mN [(26,.bl (!v9))] [] 14) (bU (bJ k2) aU k4)<|cW k h (λ_ h=>sR<|aT k2<|aE<|aJ<|iZ h k2) λ_ h=>aH<|tn<|sR<|aT k2<|aE<|iZ h k2
end
noncomputable section
theorem aPh {r:Rp} (h:rZ r=true):Dg r.dims∧1≤r.dims.length∧r.dims.length≤5:=by
 obtain ⟨hp,hD,hm,_⟩:=zV h;obtain ⟨hQ,hd1,hd2,_⟩:=kI hD;obtain ⟨n,hn,hn1,hn5,hq1,hq2,_,_⟩:=aBM hQ;exact ⟨λa ha=>hd2 a ha,by omega,by omega⟩
def jtP (R:List (List Int)):List UInt8:=Lib.joinTail [32] (R.map dgs)
theorem aTk (A:List (List Int)) (x:List Int):jtP (A++[x])=jtP A++[32]++dgs x:=by
 unfold jtP;rw [List.map_append];simp [Lib.joinTail]
theorem aVw {R:List (List Int)} (h:R≠[]):jtP R=[32]++jn R:=by
 cases R with
 |nil=>exact absurd rfl h
 |cons x R=>
  unfold jtP jn;rw [List.map_cons,Lib.join_cons];simp [Lib.joinTail]
theorem aOR {a:Rp} (ha:bR a): ∃ t,uF a=some t∧uG a=some t:=by
 obtain ⟨rs,L,f,h1,h2,h3,_,_,_,h7,h8⟩:=aRe ha;unfold uF uG;rw [h1,h2,aA,aA];cases f with
 |false=>exact ⟨_,rfl,rfl⟩
 |true=>
  have hne:=h8 rfl
  have hR:Rws (rs.map Rp.dims):=⟨by rw [dD];omega,λx hx=>by
   obtain ⟨r,hr,rfl⟩:=List.mem_map.1 hx
   exact aPh (h7 r hr)⟩
  have hRne:rs.map Rp.dims≠[]:=λe=>hne (List.map_eq_nil_iff.1 e);have hdl:=aVt hR;have e1:dl (rs.map Rp.dims)=jn (rs.map Rp.dims):=by unfold dl;rw [aW hRne]
  have hj:=aVw hRne;have l1:=aTj (a:=rs.length) (by omega);simp only [eN,aR];rw [cF (s:=(([]:List (List Int)),(0:Int))) (r:=rs.map Rp.dims) (λk=>((rs.take k).map Rp.dims,(k:Int))) rs.length rfl (λk hk=>?_) (λ_=>?_),aA]
  ·rw [aVv (a:=((rs.length:Nat):Int)) (by omega) (by omega),aVu (a:=((rs.length:Nat):Int)) (by omega) (by omega),aA,aA,dU];generalize hD:Lib.decDigits rs.length=D at l1 ⊢;rw [show (⟨#[112,97,114,116,115,32]⟩:ByteArray)=lB [112,97,114,116,115,32] from rfl,show (⟨#[32,58,32]⟩:ByteArray)=lB [32,58,32] from rfl,show (⟨#[32,58]⟩:ByteArray)=lB [32,58] from rfl];rw [aPg (by simp only [List.length_cons,List.length_nil];omega),aCb,aPg (by simp only [List.length_append,List.length_cons,List.length_nil];omega),aPg (by simp only [List.length_append,List.length_cons,List.length_nil];omega),aCb,aCb,aUo hR,aA,aPg (by simp only [List.length_append,List.length_cons,List.length_nil];omega),aCb,e1];refine ⟨_,rfl,?_⟩
   have hjl: ∀ k,(jtP ((rs.take k).map Rp.dims)).length ≤700:=λk=>by
    have:=aPf (r:=(rs.take k).map Rp.dims) λx hx=>by
     obtain ⟨r,hr,rfl⟩:=List.mem_map.1 hx;exact (aPh (h7 r (List.mem_of_mem_take hr))).2.2
    rw [dD,List.length_take] at this;unfold jtP;omega
   rw [cF (r:=lB ([112,97,114,116,115,32]++D++[32,58]++jtP (rs.map Rp.dims))) (λk=>(lB ([112,97,114,116,115,32]++D++[32,58]++jtP ((rs.take k).map Rp.dims)),(k:Int))) rs.length (by simp [jtP,Lib.joinTail]) (λk hk=>?_) (λ_=>?_),aA,hj]
   ·rw [aPg (by simp only [List.length_append,List.length_cons,List.length_nil];omega)];simp only [List.append_assoc];rfl
   ·have hd:=aPh (h7 _ (List.getElem_mem hk));have hjk:=hjl k;have hgl:(dgs rs[k].dims).length ≤5:=by unfold dgs;rw [dD];exact hd.2.2
    have es:jtP ((rs.take (k+1)).map Rp.dims)=jtP ((rs.take k).map Rp.dims)++[32]++dgs rs[k].dims:=by
     rw [uH hk,List.map_append];exact aTk _ _
    unfold oD;simp only;rw [fX hk,aL,show (⟨#[32]⟩:ByteArray)=lB [32] from rfl,aPg (by simp only [List.length_append,List.length_cons,List.length_nil];omega),cZ hk,aA,aWb hd.1 (by omega),aA,aCb,aPg (by simp only [List.length_append,List.length_cons,List.length_nil];omega),aCb,bP hk (by omega),es];simp only [List.append_assoc]
   ·unfold oD;simp only;rw [gI (bH _),aR,List.take_length]
  ·unfold oC;simp only;rw [fX hk,aL,cZ hk,aA,bB (by rw [dD,List.length_take];omega),aL,bP hk (by omega),uH hk,List.map_append];rfl
  ·unfold oC;simp only;rw [gI (bH _),aR,List.take_length]
theorem aHY {a:Rp} (fa:fR a):pA a=some true:=by
 unfold pA;rw [aWt fa (by decide) (by decide),aA];rcases aUN a 1048576 (by decide) (by decide) with e|⟨e1,e2,ha⟩
 ·rw [e];rfl
 ·rw [dM (by omega),aR];obtain ⟨t,h1,h2⟩:=aOR ha;have ht:eqS t t=true:=by unfold eqS;exact beq_self_eq_true _
  simp only [aWw ha,aA,h1,h2,ht,aWz ha,decide_true,eN,aR]
end
end Go.Proofs.YtilpfdokmlanjaaGreatDoor

/-
  Several texts of the claim in one.
-/
import Derived.Lib.Join
import Derived.Test.YtpppcfhgaehcjaaGreatDoorH14
set_option linter.unusedVariables false
set_option linter.unusedSimpArgs false
namespace Go.Proofs.YtpppcfhgaehcjaaGreatDoor
open Go.RowKit
noncomputable section
def lB (l:List UInt8):ByteArray:=⟨l.toArray⟩
theorem qP (a b:List UInt8):lB a++lB b=lB (a++b):=by
 have h:(lB a++lB b).data=(lB (a++b)).data:=by
  rw [ByteArray.data_append];simp [lB]
 cases hx:lB a++lB b with
 |mk d=>rw [hx] at h;simp only at h;rw [h]
theorem kT (l:List UInt8):(lB l).size=l.length:=by simp [lB,ByteArray.size]
theorem xU (l:List UInt8):(lB l).data.toList=l:=by simp [lB]
theorem aMb (a b:List UInt8):eqS (lB a) (lB b)=decide (a=b):=by
 unfold eqS;rw [ByteArray.toList_eq,ByteArray.toList_eq,xU,xU,Bool.eq_iff_iff,beq_iff_eq,fT]
def f8 (z:Int):UInt8:=UInt8.ofNat z.toNat
theorem aDv (l:List Int):aAL l=lB (l.map f8):=by
 have key: ∀ (l:List Int) (a:List UInt8),l.foldl (λr n=>ByteArray.push r (UInt8.ofNat n.toNat)) (lB a)=lB (a++l.map f8):=by
  intro l;induction l with
  |nil=>intro a;simp
  |cons z l ih=>
   intro a;have e:(lB a).push (UInt8.ofNat z.toNat)=lB (a++[f8 z]):=by simp [lB,ByteArray.push,f8]
   rw [List.foldl_cons,e,ih,List.append_assoc];rfl
 exact key l []
def Dg (x:List Int):Prop:= ∀ a∈x,0≤a∧a≤4
def dgs (x:List Int):List UInt8:=x.map λa=>f8 (48+a)
theorem wr8 {a:Int} (h:0≤a∧a≤4):IntKind.u8.wrap (wr (48+a))=48+a:=by
 rw [cW (by omega)];have:a=0∨a=1∨a=2∨a=3∨a=4:=by omega
 rcases this with rfl|rfl|rfl|rfl|rfl <;> decide
theorem aKK {x:List Int} (hx:Dg x) (hl:x.length≤1000):oM x=some (lB (dgs x)):=by
 unfold oM
 rw [aX (by omega),aX (by omega),Bool.and_self,aH,dC,
  iF (s:=(List.replicate x.length (0:Int),(0:Int))) (r:=x.map λa=>48+a) (λk=>((x.take k).map (λa=>48+a)++List.replicate (x.length - k) 0,(k:Int))) x.length (by simp) (λk hk=>?_) (λ_=>?_),aB,aDv]
 ·unfold dgs;rw [List.map_map];rfl
 ·have ha:=hx x[k] (List.getElem_mem hk);unfold lI;simp only;have hlen:((x.take k).map (λa=>48+a)).length=k:=by rw [eS,List.length_take];omega
  rw [nU hk,aH,eV hk,aB,eV (by rw [List.length_append,hlen,List.length_replicate];omega),aB,Int.max_eq_left ha.1,Int.min_eq_left (by omega),wr8 ha,dC,cR hk (by omega)];rw [List.set_append_right _ _ (by omega),hlen,Nat.sub_self,show x.length - k=(x.length - (k+1))+1 by omega,List.replicate_succ,List.set_cons_zero,rR hk,List.map_append,List.append_assoc];rfl
 ·unfold lI;simp only;rw [oF (bM _),aP];simp
theorem aFW {x:List Int} (hx:Dg x) (hl:x.length≤1000) (h1:1≤x.length):lJ x=some (lB (dgs x)):=by
 unfold lJ;rw [cD (by omega),aP,aKK hx hl,aB]
theorem aNU {a:Int} (h:0≤a∧a≤4):eJ a=some (lB [f8 (48+a)]):=by
 unfold eJ;by_cases h0:a=0
 ·subst h0;rfl
 ·have e1:dG (a,(⟨#[]⟩:ByteArray))=some (.inl (0,lB [f8 (48+a)])):=by
   unfold dG;simp only;have e2:a.tmod 10=a:=Int.tmod_eq_of_lt (by omega) (by omega);have e3:a.tdiv 10=0:=Int.tdiv_eq_zero_of_lt (by omega) (by omega);rw [cD h0,Bool.not_false,aH,e2,e3,cD (by omega),aP,wr8 h,aDv,show (⟨#[]⟩:ByteArray)=lB [] from rfl,qP,kT,kT,aX (by simp),aH,cW (by omega)];rfl
  have e4:dG (0,lB [f8 (48+a)])=some (.inr (lB [f8 (48+a)])):=rfl;rw [cD h0,aP,eW e1,cU e4,aB,cD (by omega),aP]
theorem aLn {x:List Int} (hx:Dg x) (hl:x.length≤1000):jL x=some (lB (dgs x)):=by
 unfold jL;rw [iF (s:=((⟨#[]⟩:ByteArray),(0:Int))) (r:=lB (dgs x)) (λk=>(lB (dgs (x.take k)),(k:Int))) x.length rfl (λk hk=>?_) (λ_=>?_),aB]
 ·unfold jD;simp only
  have e:dgs (x.take (k+1))=dgs (x.take k)++[f8 (48+x[k])]:=by
   unfold dgs;rw [rR hk,List.map_append];rfl
  have hd:(dgs (x.take k)).length ≤1000:=by unfold dgs;rw [eS,List.length_take];omega
  rw [nU hk,aH,eV hk,aB,aNU (hx _ (List.getElem_mem hk)),aB,kT,kT,aX (by simp only [List.length_cons,List.length_nil];omega),aH,qP,e,cR hk (by omega)]
 ·unfold jD;simp only;rw [oF (bM _),aP,List.take_length]
structure Rws (R:List (List Int)):Prop where
 len:R.length≤100
 row: ∀ x∈R,Dg x∧1≤x.length∧x.length≤5
def jn (R:List (List Int)):List UInt8:=Lib.join (R.map dgs) [32]
theorem aLQ {A:List (List Int)} {x:List Int} (h:A≠[]):jn (A++[x])=jn A++[32]++dgs x:=by
 cases A with
 |nil=>exact absurd rfl h
 |cons a r=>
  unfold jn;rw [List.cons_append,List.map_cons,List.map_cons,Lib.join_cons,Lib.join_cons,List.map_append];simp [Lib.joinTail]
theorem aKL: ∀ {r:List (List Int)},(∀ x∈r,x.length≤5)→(Lib.joinTail [32] (r.map dgs)).length ≤6*r.length
 | [],_=>by simp [Lib.joinTail]
 |x::r,h=>by
  have h1:=aKL (r:=r) λy hy=>h y (by simp [hy]);have h2:=h x (by simp);have h3:(dgs x).length=x.length:=by unfold dgs;rw [eS]
  unfold Lib.joinTail at h1 ⊢;simp only [List.map_cons,List.flatten_cons,List.length_append,List.length_cons,List.length_nil] at h1 ⊢;omega
theorem aGa {R:List (List Int)} (h: ∀ x∈R,x.length≤5):(jn R).length ≤6*R.length:=by
 cases R with
 |nil=>exact Nat.zero_le _
 |cons x r=>
  have h1:=aKL (r:=r) λy hy=>h y (by simp [hy]);have h2:=h x (by simp);have h3:(dgs x).length=x.length:=by unfold dgs;rw [eS]
  unfold jn;rw [List.map_cons,Lib.join_cons,List.length_append,List.length_cons];omega
def aNV:List UInt8:=[110,111,110,101]
def dl (R:List (List Int)):List UInt8:=if R=[] then aNV else jn R
theorem aMc {R:List (List Int)} (h:Rws R):(dl R).length ≤700:=by
 unfold dl;split
 ·decide
 ·have:=aGa (R:=R) λx hx=>(h.row x hx).2.2;have:=h.len;omega
theorem aLR {R:List (List Int)} (h:Rws R):mQ R=some (lB (dl R)):=by
 have hl:=h.len;unfold mQ dl;by_cases h0:R=[]
 ·subst h0;rfl
 ·have h1:1≤R.length:=List.length_pos_iff.2 h0
  rw [cD (by omega),aP,aZ h0,
   iF (s:=(([]:List ByteArray),(0:Int))) (r:=R.map λx=>lB (dgs x)) (λk=>((R.take k).map λx=>lB (dgs x),(k:Int))) R.length rfl (λk hk=>?_) (λ_=>?_),aB]
  ·have hb:=aGa (R:=R) λx hx=>(h.row x hx).2.2
   have e:(R.map λx=>lB (dgs x)).map (λx=>x.data.toList)=R.map dgs:=by
    rw [List.map_map];exact tJ λx _=>xU _
   unfold zE aKI;rw [e];show (Option.bind (bif decide ((jn R).length ≤140737488355328)&&_ then _ else _) _)=_;rw [aX (by omega),aX (by rw [eS];omega),Bool.and_self,aH,aB];rfl
  ·obtain ⟨g1,g2,g3⟩:=h.row _ (List.getElem_mem hk);unfold jU;simp only;rw [nU hk,aH,eV hk,aB,aFW g1 (by omega) g2,aB,aX (by simp;omega),aH,cR hk (by omega),rR hk,List.map_append];rfl
  ·unfold jU;simp only;rw [oF (bM _),aP,List.take_length]
theorem aLS {R:List (List Int)} (h:Rws R):nR R=some (lB (dl R)):=by
 have hl:=h.len
 have hb: ∀ k,(jn (R.take k)).length ≤600:=λk=>by
  have:=aGa (R:=R.take k) λx hx=>(h.row x (List.mem_of_mem_take hx)).2.2;rw [List.length_take] at this;omega
 unfold nR dl;rw [iF (s:=((⟨#[]⟩:ByteArray),(0:Int))) (r:=lB (jn R)) (λk=>(lB (jn (R.take k)),(k:Int))) R.length rfl (λk hk=>?_) (λ_=>?_),aB]
 ·rw [show (⟨#[]⟩:ByteArray)=lB [] from rfl,aMb];by_cases h0:R=[]
  ·subst h0;rfl
  ·have hne:jn R≠[]:=by
    cases R with
    |nil=>exact absurd rfl h0
    |cons x r=>
     have:=(h.row x (by simp)).2.1;unfold jn;rw [List.map_cons,Lib.join_cons];intro he;have h2:=congrArg List.length he;simp only [List.length_append,List.length_nil] at h2;have h3:(dgs x).length=x.length:=by unfold dgs;rw [eS]
     omega
   rw [cD hne,aP,aZ h0]
 ·obtain ⟨g1,g2,g3⟩:=h.row _ (List.getElem_mem hk);have hd:(dgs R[k]).length ≤5:=by unfold dgs;rw [eS];exact g3
  have hbk:=hb k;unfold kS;simp only;rw [nU hk,aH];cases k with
  |zero=>
   rw [cD (by omega),aP,eV hk,aB,aLn g1 (by omega),aB,kT,kT,aX (by omega),aH,qP,cR hk (by omega),rR hk];simp [jn,Lib.join_one,Lib.join_nil]
  |succ k=>
   have hne:R.take (k+1)≠[]:=by
    intro he;have:=congrArg List.length he;rw [List.length_take,List.length_nil] at this;omega
   rw [aX (by omega),aH,show (⟨#[32]⟩:ByteArray)=lB [32] from rfl,kT,kT,aX (by simp only [List.length_cons,List.length_nil];omega),aH,eV hk,aB,aLn g1 (by omega),aB,qP,kT,kT,aX (by simp only [List.length_append,List.length_cons,List.length_nil];omega),aH,qP,cR hk (by omega),rR hk,aLQ hne]
 ·unfold kS;simp only;rw [oF (bM _),aP,List.take_length]
end
noncomputable section
def aGb (n:Int):Option ByteArray:=bif decide (0≤n)&&decide (n<100) then some ⟨(Lib.decDigits n.toNat).toArray⟩ else none
theorem aMd (n:Int) (r:ByteArray) (h:aGb n=some r):HasC Tryz.prog 73 [.int n] (.str r):=by
 obtain ⟨hn,h⟩:=cg h;obtain rfl:=so h;simp only [cA,fT] at hn;refine ⟨Enters.mk Tryz.func73 (by kernel_rfl) (by kernel_rfl),λw args S hargs=>?_⟩;obtain ⟨args⟩:=args;simp only [RepVs] at hargs;obtain ⟨v,r,S1,S2,h1,rfl,h3,rfl,rfl⟩:=hargs;subst h1;simp only [RepD] at h3;obtain ⟨rfl,_,rfl⟩:=h3;obtain ⟨i,rfl⟩: ∃ i:Nat,n=i:=⟨n.toNat,by omega⟩;refine (tU i (by omega) w).mono λe w' ⟨he,hw⟩=>?_;subst hw;exact ⟨_,[],he,Below.refl _ _,⟨rfl,rfl,rfl⟩,New.nil _⟩
end
noncomputable section
set_option maxRecDepth 10000
set_option maxHeartbeats 4000000
def uO (a0:Int) (a1:Int):Option Mt:=
 bif (decide (0≤wr (a0*a1))&&decide (wr (a0*a1)≤1048576)) then
 (some ((⟨a0,a1,(List.replicate ((wr (a0*a1)).toNat) (0:Int))⟩:Mt)))
 else none
theorem aFX (a0:Int) (a1:Int) (r:Mt) (h:uO a0 a1=some r):HasC Tryz.prog 128 [.int a0,.int a1] (.agg (eM r)):=by
 exact hM [.cell 4 93] Tryz.func128 Tryz.ntmps128 k<|sR<|ae (sV aQ k k) k<|an<|tn<|sR<|am k k<|am k k<|am k k<|am k k<|ae (pH k k) k<|cG h λq1 h=>ae (qH aQ q1 k k k k k k k k) k<|ae (aKc aQ k k k k k k) k<|ae (ws k) k<|an<|tn<|aL (t:=mN [(4,.ptr 0 0 0)] [(0,⟨3,[[.int a0,.int a1,.own 1 0 ((List.replicate ((wr (a0*a1)).toNat) (0:Int)).length)]]⟩),(1,⟨1,List.map (ow eI) (List.replicate ((wr (a0*a1)).toNat) (0:Int))⟩)] 2) (bN (bH k2) (hX ⟨_,k,k,.inr ⟨_,_,k,⟨_,_,k,k,⟨_,_,k,k,⟨_,_,k,⟨k,k,(by simp only [aV,lA,lT,lR,lC,lN]),k⟩,k⟩⟩⟩,k⟩⟩ k<|hX ⟨_,k,k,.inl ⟨rL (e:=eI) (z:=0) _,gP.plainO _⟩⟩ k<|bA) k4)<|aI<|sp h (bF k k k (aFp (pP (k) (pP (k) (pP (kL gP k k) aFo)))))
def jV (a0:Int) (x1:((List Int)×Int)):Option (((List Int)×Int) ⊕ (List Int)):=
 bif decide (x1.2<a0) then
 ((cX x1.1 (wr ((wr (x1.2*a0))+x1.2))).bind λv3=>
 some (.inl ((x1.1.set ((wr ((wr (x1.2*a0))+x1.2)).toNat) 1),wr (x1.2+1))))
 else
 (some (.inr x1.1))
def mR (a0:Int):Option Mt:=
 (uO a0 a0).bind λv1=>
 (Lp (jV a0) (v1.cells,0)).bind λy4=>
 some ((⟨v1.rows,v1.cols,y4⟩:Mt))
theorem aAO (a0:Int) (r:Mt) (h:mR a0=some r):HasC Tryz.prog 74 [.int a0] (.agg (eM r)):=by
 refine hM [.cell 2 93] Tryz.func74 Tryz.ntmps74 k<|sR<|ae (sV aQ k k) k<|an<|tn<|sR<|am k k<|am k k<|oB h λv1 hv1 h=>ae (cM (aFX a0 a0 v1 hv1) k3 (fF k (fF k aN))) k<|ae (sV aQ k k) k<|ae (ws k) k<|an<|tn<|sQ<|sR<|am k k<|am k k<|an<|tn<|aC<|oB h λy4 hy4 h=>bY (body:=(jV a0)) hy4 (λ(x1:((List Int)×Int))=>mN [(0,.int a0),(2,.ptr 0 0 0),(3,.ptr 1 0 0),(8,.int a0),(9,.int x1.2)] [(0,⟨3,[aNC]⟩),(1,⟨3,[[.int v1.rows,.int v1.cols,.own 2 0 x1.1.length]]⟩),(2,⟨1,x1.1.map (ow eI)⟩)] 3) (λr e t=>e= .exit 0∧Ent t (mN [(2,.ptr 0 0 0),(3,.ptr 1 0 0)] [(0,⟨3,[aNC]⟩),(1,⟨3,[[.int v1.rows,.int v1.cols,.own 2 0 r.length]]⟩),(2,⟨1,r.map (ow eI)⟩)] 3)) (pS [0,2,1] (bH k2) (dB k<|htL k<|eO k<|bA) k4) ?_ ?_
 ·intro x1 o h;exact sR<|cm k4<|an<|tn<|sQ<|dK k h (λ_ h=>aD<|tn<|sQ<|aC<|sR<|am k k<|aT k2<|rg<|fp k8<|lp k8<|am k k<|am k k<|ae (pH k k) k<|am k k<|ae (bG k k) k<|oB h λv3 hv3 h=>ae (xo hv3 k) k<|ae (fV aQ nB (u:=1) (dL hv3) k k k k k k) k<|an<|aM<|tn<|rg<|ae (bG k k) k<|am k k<|an<|tn<|sp h ⟨_,k,(bN (bH k2) (dB k<|hX ⟨_,k,k,.inr ⟨_,_,k,⟨_,_,k,k,⟨_,_,k,k,⟨_,_,k,⟨k,k,(by simp only [aV,lA,lT,lR,lC,lN]),k⟩,k⟩⟩⟩,k⟩⟩ k<|eO k<|bA) k4)⟩) λ_ h=>aY<|aA<|aA<|sp h ⟨_,k,k,(bN (bH k2) (dB k<|htL k<|eO k<|bA) k4)⟩
 ·rintro e t ⟨rfl,hent⟩;exact aJ<|tn<|aL hent<|sR<|lp k8<|ae (ws k) k<|an<|tn<|aI<|sp h (bF k k k (aFp (pP (k) (pP (k) (pP (kL gP k k) aFo)))))
def iE (a0:Mt) (x1:((List (List Int))×Int)):Option (((List (List Int))×Int) ⊕ (List (List Int))):=
 bif decide (x1.2<a0.rows) then
 ((aDa a0 x1.2).bind λv2=>
 (lE v2).bind λv3=>
 bif decide (x1.1.length+1≤4294967296) then
 (some (.inl ((x1.1++[v3]),wr (x1.2+1))))
 else none)
 else
 (some (.inr x1.1))
def jW (a0:Mt):Option (List (List Int)):=
 (Lp (iE a0) ([],0)).bind λy5=>
 some (y5)
theorem wQ (a0:Mt) (r:(List (List Int))) (h:jW a0=some r):HasC Tryz.prog 75 [.agg (eM a0)] (.list 1 (r.map (cI 1 eI))):=by
 refine hM [.tmp 2] Tryz.func75 Tryz.ntmps75 k<|sR<|ae (wb k) k<|aT k2<|sR<|aT k2<|sQ<|sR<|fp k8<|lp k8<|am k k<|an<|tn<|aC<|oB h λy5 hy5 h=>bY (body:=(iE a0)) hy5 (λ(x1:((List (List Int))×Int))=>mN [(1,.ptr 0 0 0),(3,.own 1 0 x1.1.length),(6,.int a0.rows),(7,.int x1.2)] [(0,⟨3,[eM a0]⟩),(1,⟨1,x1.1.map (ow (cI 1 eI))⟩)] 2) (λr e t=>e= .exit 0∧Ent t (mN [(3,.own 0 0 r.length)] [(0,⟨1,r.map (ow (cI 1 eI))⟩)] 1)) (iR (σ:=sg [(0,0)]) (nH 1 k2 (jN ⟨_,k,⟨k,k,k,k⟩⟩ (bH k2))) (dB k<|hX k k<|bA) k) ?_ ?_
 ·intro x1 o h;exact sR<|cm k4<|an<|tn<|sQ<|dK k h (λ_ h=>aD<|tn<|sQ<|aC<|sR<|am k k<|aT k2<|rg<|am k k<|lp k8<|am k k<|oB h λv2 hv2 h=>ae (aJD (aLz a0 x1.2 v2 hv2) k k k) k<|oB h λv3 hv3 h=>ae (cL gP (vE v2 v3 hv3) k3 (fF k aN)) k<|ae (wl k) k<|cG h λq4 h=>ae (rN aQ (l:=x1.1) (c:=[.own 2 0 v3.length]) q4 k k k k k k k k k k k k k k) k<|aa k k<|an<|aM<|tn<|aL (t:=mN [(1,.ptr 0 0 0),(3,.own 4 0 ((x1.1++[v3]).length)),(6,.int a0.rows),(7,.int x1.2)] [(0,⟨3,[eM a0]⟩),(4,⟨1,List.map (ow (cI 1 eI)) (x1.1++[v3])⟩)] 5) (Ent.trans (nE (b:=4) (b':=2) (j:=0) (es':=v3.map eI) k k k k (aV _ _) (gP.frzs _)) (bN (nH 1 k2 (jN ⟨_,k,⟨k,k,(by simp only [aV,lA,lT,lR,lC,lN]),k⟩⟩ (bH k2))) (dB k<|hX ⟨_,k,k,.inl ⟨tB v3 k,aS.plainO _⟩⟩ k<|bA) k4))<|rg<|ae (bG k k) k<|am k k<|an<|tn<|sp h ⟨_,k,(pS [0,4] (bH k2) (dB k<|cY (aS.plainO _) k<|bA) k4)⟩) λ_ h=>aY<|aA<|aA<|sp h ⟨_,k,k,(pS [1] (bH k2) (cY (aS.plainO _) k<|bA) k4)⟩
 ·rintro e t ⟨rfl,hent⟩;exact aJ<|tn<|aL hent<|sR<|am k k<|aT k2<|aI<|sp h (bF k k k (pQ (kL aS k k)))
def eK (a0:Qv) (v5:(List (List Int))) (x1:Int) (x2:(Bool×Int)):Option ((Bool×Int) ⊕ Bool):=
 bif decide (x2.2<((v5.length:Nat):Int)) then
 ((cX v5 x2.2).bind λv7=>
 (jC a0 v7 x1).bind λv8=>
 bif x2.1 then
 (bif v8.2 then
 ((eD v8.1 v7).bind λv11=>
 some (.inl (v11,wr (x2.2+1))))
 else
 (some (.inl (false,wr (x2.2+1)))))
 else
 (some (.inl (false,wr (x2.2+1)))))
 else
 (some (.inr x2.1))
def gB (a0:Qv) (x1:Int):Option (Int ⊕ (Unit ⊕ Int)):=
 bif decide (x1≤40) then
 ((mR a0.n).bind λv4=>
 (jW v4).bind λv5=>
 (Lp (eK a0 v5 x1) (true,0)).bind λy12=>
 bif y12 then
 (some (.inr (.inr (x1))))
 else
 (some (.inl (wr (x1+1)))))
 else
 (some (.inr (.inl ())))
def iP (a0:Qv):Option Int:=
 (cF a0).bind λv1=>
 bif !decide (v1=1) then
 (some (0))
 else
 ((Lp (gB a0) 1).bind λy14=>
 Sum.elim (λy15=>
 some (0)
 )
 (λy16=>
 some y16
 )
 y14)
theorem uP (a0:Qv) (r:Int) (h:iP a0=some r):HasC Tryz.prog 30 [.agg (eQ a0)] (.int r):=by
 refine hM [.tmp 2] Tryz.func30 Tryz.ntmps30 k<|sR<|ae (wb k) k<|aT k2<|sQ<|sR<|lp k8<|oB h λv1 hv1 h=>ae (aO (pL a0 v1 hv1) k (aW (pJ k) aN)) k<|cm k4<|an<|tn<|dK k h (λ_ h=>sR<|aT k2<|aI<|aE<|zW h k2) λ_ h=>?_;refine aD<|tn<|sQ<|sR<|aT k2<|aC<|oB h λy14 hy14 h=>bY (body:=(gB a0)) hy14 (λ(x1:Int)=>mN [(1,.ptr 0 0 0),(3,.int x1)] [(0,⟨3,[eQ a0]⟩)] 1) (λr e t=>Sum.elim (λa=>(λr e t=>e= .exit 0∧Ent t (mN [] [] 0)) a e t) (λb=>(λr e t=>e= .ret∧nA TT [.tmp 2] (.int r) .ret t) b e t) r) (bN (bH k2) (dB k<|bA) k4) ?_ ?_
 ·intro x1 o h;refine sQ<|sR<|am k k<|cm k4<|an<|tn<|dK k h (λ_ h=>?_) λ_ h=>aY<|aA<|aA<|sp h ⟨_,k,k,(bN bA bA k4)⟩;refine aD<|tn<|sQ<|aC<|sR<|aT k2<|sQ<|sR<|fp k8<|lp k8<|oB h λv4 hv4 h=>ae (cM (aAO a0.n v4 hv4) k3 (fF k aN)) k<|oB h λv5 hv5 h=>ae (cL aS (wQ v4 v5 hv5) k3 (aW (vaM k2) aN)) k<|ae (eC aQ k k k k) k<|am k k<|an<|tn<|aC<|oB h λy12 hy12 h=>bY (body:=(eK a0 v5 x1)) hy12 (λ(x2:(Bool×Int))=>mN [(1,.ptr 0 0 0),(3,.int x1),(4,.bl x2.1),(19,.own 1 0 v5.length),(20,.int ((v5.length:Nat):Int)),(21,.int x2.2)] [(0,⟨3,[eQ a0]⟩),(1,⟨1,v5.map (ow (cI 1 eI))⟩)] 2) (λr e t=>e= .exit 2∧Ent t (mN [(1,.ptr 0 0 0),(3,.int x1),(4,.bl r)] [(0,⟨3,[eQ a0]⟩)] 1)) (pS [0,2] (bH k2) (dB k<|cY (aS.plainO _) k<|bA) k4) ?_ ?_
  ·intro x2 o h;exact sR<|cm k4<|an<|tn<|sQ<|dK k h (λ_ h=>aD<|tn<|sQ<|aC<|sR<|oB h λv7 hv7 h=>ae (xo hv7 k) k<|ae (wp hv7 k) k<|aT k2<|sR<|lp k8<|am k k<|am k k<|oB h λv8 hv8 h=>ae (cT gP (vP a0 v7 x1 v8 hv8) k3 (aW (pJ k) (fF k (fF k aN)))) k<|am k k<|ae (bK k k (by intro _ h;cases h)) k<|ae (bK k k (by intro _ h;cases h)) k<|aa k k<|aT k2<|rg<|am k k<|am k k<|sK h (λq9 h=>aR 33 k q9<|am k k<|pk k3<|am k k<|sK h (λq10 h=>aR 36 k q10<|am k k<|am k k<|oB h λv11 hv11 h=>ae (aO (sB v8.1 v7 v11 hv11) k (vcT k k (fF k aN))) k<|pk k3<|aa k k<|an<|aM<|tn<|rg<|ae (bG k k) k<|am k k<|an<|tn<|sp h ⟨_,k,(bN (bH k2) (dB k<|cY (aS.plainO _) k<|bA) k4)⟩) λq10 h=>aR 36 k q10<|aK k4<|ak k k<|pk k3<|aa k k<|an<|aM<|tn<|rg<|ae (bG k k) k<|am k k<|an<|tn<|sp h ⟨_,k,(bN (bH k2) (dB k<|cY (aS.plainO _) k<|bA) k4)⟩) λq9 h=>aR 33 k q9<|ak k k<|pk k3<|am k k<|aK k4<|ak k k<|pk k3<|aa k k<|an<|aM<|tn<|rg<|ae (bG k k) k<|am k k<|an<|tn<|sp h ⟨_,k,(bN (bH k2) (dB k<|cY (aS.plainO _) k<|bA) k4)⟩) λ_ h=>aY<|aA<|aA<|sp h ⟨_,k,k,(bN (bH k2) (dB k<|bA) k4)⟩
  ·rintro e t ⟨rfl,hent⟩;exact aJ<|tn<|aL hent<|sR<|am k k<|an<|tn<|dK k h (λ_ h=>sR<|am k k<|aT k2<|aI<|bE<|aE<|aE<|sp h ⟨_,k,k,bF k k k (wA k)⟩) λ_ h=>aD<|aM<|tn<|rg<|am k k<|ae (bG k k) k<|aT k2<|sp h ⟨_,k,(bN (bH k2) (dB k<|bA) k4)⟩
 ·intro e t hX;rcases y14 with y15|y16
  ·obtain ⟨rfl,hent⟩:=hX;exact aJ<|tn<|aL hent<|sR<|aT k2<|aI<|zW h k2
  ·obtain ⟨rfl,hent⟩:=hX;exact bE<|aE<|sp h hent
def eN (a0:Qv) (x1:Int) (x2:(Bool×Int)):Option ((Bool×Int) ⊕ Bool):=
 bif decide (x2.2<a0.n) then
 (bif (decide (0≤a0.n)&&decide (a0.n≤1048576)) then
 ((cX (List.replicate a0.n.toNat (0:Int)) x2.2).bind λv5=>
 (jB a0 ((List.replicate a0.n.toNat (0:Int)).set x2.2.toNat 1) x1).bind λv6=>
 bif x2.1 then
 (bif v6.2 then
 ((oH ((List.replicate a0.n.toNat (0:Int)).set x2.2.toNat 1) v6.1).bind λv9=>
 some (.inl (v9,wr (x2.2+1))))
 else
 (some (.inl (false,wr (x2.2+1)))))
 else
 (some (.inl (false,wr (x2.2+1)))))
 else none)
 else
 (some (.inr x2.1))
def gC (a0:Qv) (x1:Int):Option (Int ⊕ (Unit ⊕ Int)):=
 bif decide (x1≤40) then
 ((Lp (eN a0 x1) (true,0)).bind λy11=>
 bif y11 then
 (some (.inr (.inr (x1))))
 else
 (some (.inl (wr (x1+1)))))
 else
 (some (.inr (.inl ())))
def iQ (a0:Qv):Option Int:=
 (cE a0).bind λv1=>
 bif !decide (v1=1) then
 (some (0))
 else
 ((Lp (gC a0) 1).bind λy13=>
 Sum.elim (λy14=>
 some (0)
 )
 (λy15=>
 some y15
 )
 y13)
theorem uQ (a0:Qv) (r:Int) (h:iQ a0=some r):HasC Tryz.prog 24 [.agg (eQ a0)] (.int r):=by
 refine hM [.tmp 2] Tryz.func24 Tryz.ntmps24 k<|sR<|ae (wb k) k<|aT k2<|sQ<|sR<|lp k8<|oB h λv1 hv1 h=>ae (aO (pK a0 v1 hv1) k (aW (pJ k) aN)) k<|cm k4<|an<|tn<|dK k h (λ_ h=>sR<|aT k2<|aI<|aE<|zW h k2) λ_ h=>?_;refine aD<|tn<|sQ<|sR<|aT k2<|aC<|oB h λy13 hy13 h=>bY (body:=(gC a0)) hy13 (λ(x1:Int)=>mN [(1,.ptr 0 0 0),(3,.int x1)] [(0,⟨3,[eQ a0]⟩)] 1) (λr e t=>Sum.elim (λa=>(λr e t=>e= .exit 0∧Ent t (mN [] [] 0)) a e t) (λb=>(λr e t=>e= .ret∧nA TT [.tmp 2] (.int r) .ret t) b e t) r) (bN (bH k2) (dB k<|bA) k4) ?_ ?_
 ·intro x1 o h;refine sQ<|sR<|am k k<|cm k4<|an<|tn<|dK k h (λ_ h=>?_) λ_ h=>aY<|aA<|aA<|sp h ⟨_,k,k,(bN bA bA k4)⟩;refine aD<|tn<|sQ<|aC<|sR<|aT k2<|sQ<|sR<|aT k2<|aC<|oB h λy11 hy11 h=>bY (body:=(eN a0 x1)) hy11 (λ(x2:(Bool×Int))=>mN [(1,.ptr 0 0 0),(3,.int x1),(4,.bl x2.1),(5,.int x2.2)] [(0,⟨3,[eQ a0]⟩)] 1) (λr e t=>e= .exit 2∧Ent t (mN [(1,.ptr 0 0 0),(3,.int x1),(4,.bl r)] [(0,⟨3,[eQ a0]⟩)] 1)) (bN (bH k2) (dB k<|bA) k4) ?_ ?_
  ·intro x2 o h;refine sQ<|sR<|am k k<|fp k8<|lp k8<|cm k4<|an<|tn<|dK k h (λ_ h=>?_) λ_ h=>aY<|aA<|aA<|sp h ⟨_,k,k,(bN (bH k2) (dB k<|bA) k4)⟩;refine aD<|tn<|sQ<|aC<|sR<|fp k8<|lp k8<|cG h λq10 h=>ae (qH aQ q10 k k k k k k k k) k<|aT k2<|aL (t:=mN [(1,.ptr 0 0 0),(3,.int x1),(4,.bl x2.1),(5,.int x2.2),(6,.own 1 0 ((List.replicate a0.n.toNat (0:Int)).length))] [(0,⟨3,[eQ a0]⟩),(1,⟨1,List.map (ow eI) (List.replicate a0.n.toNat (0:Int))⟩)] 2) (bN (nH 4 k2 (jN ⟨_,k,⟨k,k,(by simp only [aV,lA,lT,lR,lC,lN]),k⟩⟩ bA)) (dB k<|hX ⟨_,k,k,.inl ⟨rL (e:=eI) (z:=0) _,gP.plainO _⟩⟩ k<|bA) k4)<|sR<|am k k<|am k k<|oB h λv5 hv5 h=>ae (xo hv5 k) k<|ae (fV aQ nB (u:=1) (dL hv5) k k k k k k) k<|an<|tn<|sR<|lp k8<|am k k<|am k k<|oB h λv6 hv6 h=>ae (cT gP (vN a0 ((List.replicate a0.n.toNat (0:Int)).set x2.2.toNat 1) x1 v6 hv6) k3 (aW (pJ k) (aW (vK gP k (by first|rfl|simp only [List.length_set])) (fF k aN)))) k<|am k k<|ae (bK k k (by intro _ h;cases h)) k ?_;exact ae (bK k k (by intro _ h;cases h)) k<|aa k k<|aT k2<|rg<|am k k<|am k k<|sK h (λq7 h=>aR 36 k q7<|am k k<|pk k3<|am k k<|sK h (λq8 h=>aR 39 k q8<|am k k<|am k k<|oB h λv9 hv9 h=>ae (aO (vR ((List.replicate a0.n.toNat (0:Int)).set x2.2.toNat 1) v6.1 v9 hv9) k (aW (vK gP k (by first|rfl|simp only [List.length_set])) (vcT k k aN))) k<|pk k3<|aa k k<|an<|aM<|tn<|rg<|am k k<|ae (bG k k) k<|aT k2<|sp h ⟨_,k,(bN (bH k2) (dB k<|bA) k4)⟩) λq8 h=>aR 39 k q8<|aK k4<|ak k k<|pk k3<|aa k k<|an<|aM<|tn<|rg<|am k k<|ae (bG k k) k<|aT k2<|sp h ⟨_,k,(bN (bH k2) (dB k<|bA) k4)⟩) λq7 h=>aR 36 k q7<|ak k k<|pk k3<|am k k<|aK k4<|ak k k<|pk k3<|aa k k<|an<|aM<|tn<|rg<|am k k<|ae (bG k k) k<|aT k2<|sp h ⟨_,k,(bN (bH k2) (dB k<|bA) k4)⟩
  ·rintro e t ⟨rfl,hent⟩;exact aJ<|tn<|aL hent<|sR<|am k k<|an<|tn<|dK k h (λ_ h=>sR<|am k k<|aT k2<|aI<|bE<|aE<|aE<|sp h ⟨_,k,k,bF k k k (wA k)⟩) λ_ h=>aD<|aM<|tn<|rg<|am k k<|ae (bG k k) k<|aT k2<|sp h ⟨_,k,(bN (bH k2) (dB k<|bA) k4)⟩
 ·intro e t hX;rcases y13 with y14|y15
  ·obtain ⟨rfl,hent⟩:=hX;exact aJ<|tn<|aL hent<|sR<|aT k2<|aI<|zW h k2
  ·obtain ⟨rfl,hent⟩:=hX;exact bE<|aE<|sp h hent
def jM (a0:Int):Option ByteArray:=
 (aGb a0).bind λv1=>
 some (v1)
theorem sJ (a0:Int) (r:ByteArray) (h:jM a0=some r):HasC Tryz.prog 29 [.int a0] (.str r):=by
 exact hM [.tmp 2] Tryz.func29 Tryz.ntmps29 k<|sR<|aT k2<|sR<|am k k<|oB h λv1 hv1 h=>ae (aO (aMd a0 v1 hv1) k (fF k aN)) k<|aT k2<|aI<|sp h (bF k k k (oP k))
def kF (a0:Qv):Option ByteArray:=
 (eH a0).bind λv1=>
 bif !v1.2 then
 (some ((⟨#[]⟩:ByteArray)))
 else
 ((eJ ((v1.1.length:Nat):Int)).bind λv3=>
 bif decide ((⟨#[114,111,111,116,115,32]⟩:ByteArray).size +v3.size≤9223372036854775807) then
 (bif decide (((⟨#[114,111,111,116,115,32]⟩:ByteArray)++v3).size +(⟨#[32,99,111,120,101,116,101,114,32]⟩:ByteArray).size ≤9223372036854775807) then
 ((iQ a0).bind λv4=>
 (eJ v4).bind λv5=>
 bif decide ((((⟨#[114,111,111,116,115,32]⟩:ByteArray)++v3)++(⟨#[32,99,111,120,101,116,101,114,32]⟩:ByteArray)).size +v5.size≤9223372036854775807) then
 (bif decide (((((⟨#[114,111,111,116,115,32]⟩:ByteArray)++v3)++(⟨#[32,99,111,120,101,116,101,114,32]⟩:ByteArray))++v5).size +(⟨#[32,58,32]⟩:ByteArray).size ≤9223372036854775807) then
 ((nR v1.1).bind λv6=>
 bif decide ((((((⟨#[114,111,111,116,115,32]⟩:ByteArray)++v3)++(⟨#[32,99,111,120,101,116,101,114,32]⟩:ByteArray))++v5)++(⟨#[32,58,32]⟩:ByteArray)).size +v6.size≤9223372036854775807) then
 (some (((((((⟨#[114,111,111,116,115,32]⟩:ByteArray)++v3)++(⟨#[32,99,111,120,101,116,101,114,32]⟩:ByteArray))++v5)++(⟨#[32,58,32]⟩:ByteArray))++v6)))
 else none)
 else none)
 else none)
 else none)
 else none)
theorem aAP (a0:Qv) (r:ByteArray) (h:kF a0=some r):HasC Tryz.prog 7 [.agg (eQ a0)] (.str r):=by
 exact hM [.tmp 2] Tryz.func7 Tryz.ntmps7 k<|sR<|ae (wb k) k<|aT k2<|sR<|lp k8<|oB h λv1 hv1 h=>ae (nK (σ:=sg []) (σ':=sg [(1,0)]) (touch:=[]) (news:=[1]) (hl2:=[(1,⟨1,v1.1.map (cI 1 eI)⟩)]) (n':=2) (r2:= .tuple [.own 1 0 v1.1.length,.bl v1.2]) (uH a0 v1 hv1) k k ⟨_,_,k,(.inl ⟨_,_,k,k,⟨_,_,k,⟨k,k⟩,⟨_,_,k,⟨k,k⟩,k⟩⟩⟩),k⟩ bA k k k ⟨⟨_,k,k,.inl ⟨k,aS.plainE _⟩⟩,k,bA⟩ k (.inr ⟨_,_,k,k,⟨_,_,k,⟨k,k,(by simp only [aV,lA,lT,lR,lC,lN]),k⟩,⟨_,_,k,k,k⟩⟩⟩) k ⟨k,aS.tamdE _ _,bA⟩ k k) k<|am k k<|ae (bK k k (by intro _ h;cases h)) k<|ae (bK k k (by intro _ h;cases h)) k<|aa k k<|aT k2<|sQ<|sR<|am k k<|ae (fG k) k<|an<|tn<|dK k h (λ_ h=>sR<|aT k2<|aI<|aE<|sp h (bF k k k (oP k))) λ_ h=>aD<|tn<|sQ<|bC nF<|am k k<|ae (eC aQ k k k k) k<|oB h λv3 hv3 h=>ae (aO (oC ((v1.1.length:Nat):Int) v3 hv3) k (fF k aN)) k<|cG h λq11 h=>ae (tR k k q11) k<|cG h λq10 h=>ae (tR k k q10) k<|lp k8<|oB h λv4 hv4 h=>ae (aO (uQ a0 v4 hv4) k (aW (pJ k) aN)) k<|oB h λv5 hv5 h=>ae (aO (oC v4 v5 hv5) k (fF k aN)) k<|cG h λq9 h=>ae (tR k k q9) k<|cG h λq8 h=>ae (tR k k q8) k<|am k k<|oB h λv6 hv6 h=>ae (aO (aBu v1.1 v6 hv6) k (aW (aLX aS k k) aN)) k<|cG h λq7 h=>ae (tR k k q7) k<|aa k k<|an<|wG (by kernel_rfl)<|tn<|aL (t:=mN [(2,.str ((((((⟨#[114,111,111,116,115,32]⟩:ByteArray)++v3)++(⟨#[32,99,111,120,101,116,101,114,32]⟩:ByteArray))++v5)++(⟨#[32,58,32]⟩:ByteArray))++v6))] [] 2) (bN (bH k2) bA k4)<|aI<|sp h (bF k k k (oP k))
def kG (a0:Qv):Option ByteArray:=
 (dA a0).bind λv1=>
 bif !v1.2 then
 (some ((⟨#[]⟩:ByteArray)))
 else
 ((jM ((v1.1.length:Nat):Int)).bind λv3=>
 (iP a0).bind λv4=>
 (jM v4).bind λv5=>
 (mQ v1.1).bind λv6=>
 (zE [(⟨#[114,111,111,116,115]⟩:ByteArray),v3,(⟨#[99,111,120,101,116,101,114]⟩:ByteArray),v5,(⟨#[58]⟩:ByteArray),v6] (⟨#[32]⟩:ByteArray)).bind λv7=>
 some (v7))
theorem aAQ (a0:Qv) (r:ByteArray) (h:kG a0=some r):HasC Tryz.prog 9 [.agg (eQ a0)] (.str r):=by
 exact hM [.tmp 2] Tryz.func9 Tryz.ntmps9 k<|sR<|ae (wb k) k<|aT k2<|sR<|lp k8<|oB h λv1 hv1 h=>ae (nK (σ:=sg []) (σ':=sg [(1,0)]) (touch:=[]) (news:=[1]) (hl2:=[(1,⟨1,v1.1.map (cI 1 eI)⟩)]) (n':=2) (r2:= .tuple [.own 1 0 v1.1.length,.bl v1.2]) (uI a0 v1 hv1) k k ⟨_,_,k,(.inl ⟨_,_,k,k,⟨_,_,k,⟨k,k⟩,⟨_,_,k,⟨k,k⟩,k⟩⟩⟩),k⟩ bA k k k ⟨⟨_,k,k,.inl ⟨k,aS.plainE _⟩⟩,k,bA⟩ k (.inr ⟨_,_,k,k,⟨_,_,k,⟨k,k,(by simp only [aV,lA,lT,lR,lC,lN]),k⟩,⟨_,_,k,k,k⟩⟩⟩) k ⟨k,aS.tamdE _ _,bA⟩ k k) k<|am k k<|ae (bK k k (by intro _ h;cases h)) k<|ae (bK k k (by intro _ h;cases h)) k<|aa k k<|aT k2<|sQ<|sR<|am k k<|ae (fG k) k<|an<|tn<|dK k h (λ_ h=>sR<|aT k2<|aI<|aE<|sp h (bF k k k (oP k))) λ_ h=>aD<|tn<|sQ<|bC nF<|am k k<|ae (eC aQ k k k k) k<|oB h λv3 hv3 h=>ae (aO (sJ ((v1.1.length:Nat):Int) v3 hv3) k (fF k aN)) k<|lp k8<|oB h λv4 hv4 h=>ae (aO (uP a0 v4 hv4) k (aW (pJ k) aN)) k<|oB h λv5 hv5 h=>ae (aO (sJ v4 v5 hv5) k (fF k aN)) k<|am k k<|oB h λv6 hv6 h=>ae (aO (aAN v1.1 v6 hv6) k (aW (aLX aS k k) aN)) k<|ae (wl k) k<|oB h λv7 hv7 h=>ae (aO (aKJ [(⟨#[114,111,111,116,115]⟩:ByteArray),v3,(⟨#[99,111,120,101,116,101,114]⟩:ByteArray),v5,(⟨#[58]⟩:ByteArray),v6] (⟨#[32]⟩:ByteArray) v7 hv7) k (aW (aFs k k ⟨_,_,k,⟨_,_,k,k,k⟩,⟨_,_,k,⟨_,_,k,k,k⟩,⟨_,_,k,⟨_,_,k,k,k⟩,⟨_,_,k,⟨_,_,k,k,k⟩,⟨_,_,k,⟨_,_,k,k,k⟩,⟨_,_,k,⟨_,_,k,k,k⟩,k⟩⟩⟩⟩⟩⟩) (fF k aN))) k<|aa k k<|an<|wG (by kernel_rfl)<|tn<|aI<|sp h (bF k k k (oP k))
end
noncomputable section
theorem aDw {a:Nat} (h:a<10):Lib.decDigits a=[UInt8.ofNat (48+a)]:=by rw [Lib.decDigits,dif_pos h]
theorem aKM {a:Nat} (h:10≤a) (h2:a<100):Lib.decDigits a=[UInt8.ofNat (48+a / 10),UInt8.ofNat (48+a % 10)]:=by
 rw [Lib.decDigits,dif_neg (by omega),aDw (by omega)];rfl
theorem aFY {a:Nat} (h:a<100):(Lib.decDigits a).length ≤2:=by
 rcases cZ a 10 with h1|h1
 ·rw [aDw h1];simp
 ·rw [aKM h1 h];simp
theorem aNv {a:Int} (h:0≤a∧a≤9):IntKind.u8.wrap (wr (48+a))=48+a:=by
 rw [cW (by omega)];have:a=0∨a=1∨a=2∨a=3∨a=4∨a=5∨a=6∨a=7∨a=8∨a=9:=by omega
 rcases this with rfl|rfl|rfl|rfl|rfl|rfl|rfl|rfl|rfl|rfl <;> decide
theorem aBv {a:Nat} (h0:0<a) (h:a<100) {out:List UInt8} (ho:out.length≤10):dG ((a:Int),lB out)=some (.inl (((a / 10:Nat):Int),lB (UInt8.ofNat (48+a % 10)::out))):=by
 unfold dG;simp only;have e2:(a:Int).tmod 10=((a % 10:Nat):Int):=by rw [Int.tmod_eq_emod_of_nonneg (by omega)];omega
 have e3:(a:Int).tdiv 10=((a / 10:Nat):Int):=by rw [Int.tdiv_eq_ediv_of_nonneg (by omega)];omega
 have e4:f8 (48+((a % 10:Nat):Int))=UInt8.ofNat (48+a % 10):=by
  unfold f8;congr 1
 rw [cD (by omega),Bool.not_false,aH,e2,e3,cD (by omega),aP,aNv (by omega),aDv,qP,kT,kT,aX (by simp;omega),aH,cW (by omega)];rw [List.map_cons,List.map_nil,e4];rfl
theorem aFZ {out:List UInt8} :dG (0,lB out)=some (.inr (lB out)):=rfl
theorem aKN {a:Int} (h0:0≤a) (h:a<100):eJ a=some (lB (Lib.decDigits a.toNat)):=by
 obtain ⟨a,rfl⟩: ∃ k:Nat,a=k:=⟨a.toNat,by omega⟩;rw [dC];unfold eJ;by_cases hz:a=0
 ·subst hz;rw [aDw (by omega)];rfl
 ·rw [cD (by omega),aP,show (⟨#[]⟩:ByteArray)=lB [] from rfl];rcases cZ a 10 with h1|h1
  ·rw [eW (aBv (by omega) (by omega) (by simp)),Nat.div_eq_of_lt h1,show ((0:Nat):Int)=0 from rfl,cU aFZ,aB,cD (by omega),aP,aDw h1,Nat.mod_eq_of_lt h1]
  ·rw [eW (aBv (by omega) (by omega) (by simp)),eW (aBv (a:=a / 10) (by omega) (by omega) (by simp)),Nat.div_eq_of_lt (show a / 10<10 by omega),show ((0:Nat):Int)=0 from rfl,cU aFZ,aB,cD (by omega),aP,aKM h1 (by omega),Nat.mod_eq_of_lt (show a / 10<10 by omega)]
theorem aKO {a:Int} (h0:0≤a) (h:a<100):jM a=some (lB (Lib.decDigits a.toNat)):=by
 unfold jM aGb;rw [aX h0,aX h];rfl
theorem aMe {l:List (List UInt8)} {sep:List UInt8} (h:(Lib.join l sep).length ≤1000000) (hl:l.length≤1000000):zE (l.map lB) (lB sep)=some (lB (Lib.join l sep)):=by
 have e:(l.map lB).map (λx=>x.data.toList)=l:=by
  rw [List.map_map];exact (tJ λx _=>xU x).trans (List.map_id l)
 unfold zE aKI;rw [e,xU,aX (by omega),aX (by rw [eS];omega)];rfl
theorem aKP {α:Type} {a b:List UInt8} {k:Option α} (h:a.length+b.length≤1000000):(bif decide ((lB a).size +(lB b).size ≤9223372036854775807) then k else none)=k:=by
 rw [kT,kT,aX (by omega),aH]
theorem aGc {a b:List Int} (h:bI b):eD a b=some (decide (a=b)):=by
 by_cases e:a.length=b.length
 ·exact aHu (b:=b) (a:=a) (by unfold bI at h ⊢;omega)
 ·unfold eD;rw [cD (by omega: ¬ ((a.length:Int)=(b.length:Int))),Bool.not_false,aH,cD (λh=>e (by rw [h]))]
end
noncomputable section
set_option maxRecDepth 10000
set_option maxHeartbeats 4000000
end
noncomputable section
set_option maxRecDepth 10000
set_option maxHeartbeats 4000000
def jX (a0:Qv):Option Bool:=
 (pB a0 1048576).bind λv1=>
 bif decide (v1<0) then
 (some (true))
 else
 ((iI a0).bind λv3=>
 (kF v3).bind λv4=>
 (iI a0).bind λv5=>
 (kG v5).bind λv6=>
 bif !eqS v6 v4 then
 (some (false))
 else
 ((iI a0).bind λv8=>
 (mO v5 v8).bind λv9=>
 bif !v9 then
 (some (false))
 else
 (some (true))))
theorem tI (a0:Qv) (r:Bool) (h:jX a0=some r):HasC Tryz.prog 3 [.agg (eQ a0)] (.bl r):=by
 refine hM [.tmp 2] Tryz.func3 Tryz.ntmps3 k<|sR<|ae (wb k) k<|aT k2<|sR<|aT k2<|sR<|lp k8<|am k k<|oB h λv1 hv1 h=>ae (aO (aAJ a0 1048576 v1 hv1) k (aW (pJ k) (fF k aN))) k<|aT k2<|sQ<|sR<|am k k<|cm k4<|an<|tn<|dK k h (λ_ h=>sR<|aT k2<|aI<|aE<|rQ h k2) λ_ h=>?_;refine aD<|tn<|sR<|lp k8<|oB h λv3 hv3 h=>ae (cQ (pC a0 v3 hv3) k3 (aW (pJ k) aN)) k<|oB h λv4 hv4 h=>ae (aO (aAP v3 v4 hv4) k (aW (vaQ k4) aN)) k<|aT k2<|sR<|lp k8<|oB h λv5 hv5 h=>ae (cQ (pC a0 v5 hv5) k3 (aW (pJ k) aN)) k<|ae (sV aQ k k) k<|ae (ws k) k<|an<|tn<|sR<|lp k8<|oB h λv6 hv6 h=>ae (aO (aAQ v5 v6 hv6) k (aW (vaQ k4) aN)) k<|aT k2<|sQ<|sR<|am k k ?_;exact am k k<|ae (aNT k k) k<|an<|tn<|dK k h (λ_ h=>sR<|aT k2<|aL (t:=mN [(2,.bl false)] [] 6) (bN (bH k2) bA k4)<|aI<|aE<|rQ h k2) λ_ h=>aD<|tn<|sQ<|sQ<|bC nF<|lp k8<|lp k8<|oB h λv8 hv8 h=>ae (cQ (pC a0 v8 hv8) k3 (aW (pJ k) aN)) k<|oB h λv9 hv9 h=>ae (aO (aAK v5 v8 v9 hv9) k (aW (vaQ k4) (aW (vaQ k4) aN))) k<|ae (fG k) k<|an<|wG (by kernel_rfl)<|tn<|aL (t:=mN [(26,.bl (!v9))] [] 8) (bN (bH k2) bA k4)<|dK k h (λ_ h=>sR<|aT k2<|aI<|aE<|rQ h k2) λ_ h=>aD<|tn<|sR<|aT k2<|aI<|rQ h k2
end
noncomputable section
theorem aLT {r c i:Nat} (hi:i<r):(i+1)*c≤r*c:=Nat.mul_le_mul_right c hi
theorem aNW {n i j:Nat} (hn:n≤5) (hi:i<n) (hj:j<n):wr (wr ((i:Int)*(n:Int))+(j:Int))=((i*n+j:Nat):Int):=by
 have h1:i*n≤5*5:=Nat.mul_le_mul (by omega) hn;rw [aIs (by omega),cW (by omega)];omega
theorem aGd {n:Nat} (hn:n≤5):mR n=some ⟨n,n,pO n n λa b=>if a=b then 1 else 0⟩:=by
 have hN:n*n≤5*5:=Nat.mul_le_mul hn hn;unfold mR uO;rw [aIs (by omega),aX (by omega),aX (by omega),Bool.and_self,aH,aB,dC,aHg];simp only;rw [iF (r:=pO n n λa b=>if a=b then 1 else 0) (λk=>(pO n n (λa b=>if a=b∧a<k then 1 else 0),(k:Int))) n (by simp) (λk hk=>?_) (λ_=>?_),aB]
 ·unfold jV;simp only;rw [nU hk,aH,aNW hn hk hk,aKf _ hk hk,aB,dC,aIr _ _ hk hk,cR hk (by omega)];congr 3;refine aBB λa b ha hb=>?_;simp only [aLs];by_cases e:a=k∧b=k
  ·rw [bD e,bD (by omega)]
  ·rw [aZ e];by_cases e2:a=b∧a<k
   ·rw [bD e2,bD (by omega)]
   ·rw [aZ e2,aZ (by omega)]
 ·unfold jV;simp only;rw [oF (bM _),aP];congr 2;refine aBB λa b ha hb=>?_;by_cases e:a=b
  ·rw [bD ⟨e,ha⟩,bD e]
  ·rw [aZ (by omega),aZ e]
theorem aMf {n i:Nat} (hn:n≤5) (hi:i<n) (F:Nat→Nat→Int):aDa ⟨n,n,pO n n F⟩ i=some (kM n (F i)):=by
 have hN:n*n≤5*5:=Nat.mul_le_mul hn hn;have h:= @aLT n n i hi;have h2:i*n≤5*5:=Nat.mul_le_mul (by omega) hn;have e1:wr ((i:Int)*(n:Int))=((i*n:Nat):Int):=aIs (by omega)
 have e2:wr (wr ((i:Int)+1)*(n:Int))=((i*n+n:Nat):Int):=by
  rw [cR hi (by omega),aIs (by omega),Nat.succ_mul]
 rw [Nat.succ_mul] at h;unfold aDa oS uB;simp only;rw [e1,e2,tZ,aX (by omega),aX (by omega:((i*n:Nat):Int)≤((i*n+n:Nat):Int)),aX (by omega:((i*n+n:Nat):Int)≤((n*n:Nat):Int))];simp only [Bool.and_self,aH,dC];congr 1;refine List.ext_getElem (by simp [tZ,kC];omega) λt h1 h2=>?_;rw [kC] at h2;rw [List.getElem_take,List.getElem_drop];simp [pO,kM,aFl h2,aFm h2]
theorem aMg {n v:Nat} :kM n (λb=>if v=b then (1:Int) else 0)=dW n v:=by
 unfold dW;rw [qM,kD];refine dY λi _=>?_;by_cases e:v=i
 ·rw [bD e,bD e.symm]
 ·rw [aZ e,aZ λh=>e h.symm]
theorem aMh {n:Nat} (hn:n≤5):jW ⟨n,n,pO n n λa b=>if a=b then 1 else 0⟩=some ((List.range n).map (dW n)):=by
 unfold jW;rw [iF (s:=(([]:List (List Int)),(0:Int))) (r:=(List.range n).map (dW n)) (λk=>((List.range k).map (dW n),(k:Int))) n rfl (λk hk=>?_) (λ_=>?_),aB]
 ·unfold iE;simp only;rw [nU hk,aH,aMf hn hk,aB];unfold lE;rw [aX (by simp [kM];omega),aH,aB,aX (by simp;omega),aH,cR hk (by omega),aMg,List.range_succ,List.map_append];rfl
 ·unfold iE;simp only;rw [oF (bM _),aP]
def cxB (q:Qv) (n:Nat) (k:Int) (v:Nat):Bool:=match aDu q n (dW n v) k with
 |some y=>decide (y=dW n v)
 |none=>false
theorem zG (n v:Nat):(dW n v).length=n:=by simp [dW]
theorem vI {b c:Bool} {k:Nat} {P:Nat→Bool} (hb:b=(List.range k).all P) (hc:c=(b&&P k)):c=(List.range (k+1)).all P:=by
 subst hc;subst hb;rw [List.range_succ,List.all_append];simp
theorem aHS {n v:Nat} (hn:n≤5):bI (dW n v):=by unfold bI;rw [zG];omega
theorem aNX {q:Qv} {n:Nat} (Q:QOk q n) (k:Int):Lp (eK q ((List.range n).map (dW n)) k) (true,0)=some ((List.range n).all (cxB q n k)):=by
 have n5:=Q.n5;rw [iF (s:=((true:Bool),(0:Int))) (r:=(List.range n).all (cxB q n k)) (λj=>((List.range j).all (cxB q n k),(j:Int))) n rfl (λj hj=>?_) (λ_=>?_)]
 ·unfold eK;simp only;rw [show ((((List.range n).map (dW n)).length:Nat):Int)=(n:Int) by simp,nU hj,aH,eV (by simpa using hj),aB];simp only [List.getElem_map,List.getElem_range];rw [aMZ Q (by rw [zG];omega),aB,cR hj (by omega)];have hc:cxB q n k j=(match aDu q n (dW n j) k with|some y=>decide (y=dW n j)|none=>false):=rfl;cases h1:(List.range j).all (cxB q n k) with
  |false=>rw [aP,←vI (c:=false) h1.symm rfl]
  |true=>
   rw [aH];cases h2:aDu q n (dW n j) k with
   |none=>
    rw [h2] at hc;simp only [aCE];rw [aP,←vI (c:=false) h1.symm (by rw [hc];rfl)]
   |some y=>
    rw [h2] at hc;simp only [aCE];have hy:decide (y=dW n j)=decide (dW n j=y):=by rw [Bool.eq_iff_iff,fT,fT];exact eq_comm
    rw [aH,aGc (aHS n5),aB,←vI (c:=decide (y=dW n j)) h1.symm (by rw [hc];rfl)]
 ·unfold eK;simp only;rw [show ((((List.range n).map (dW n)).length:Nat):Int)=(n:Int) by simp,oF (bM _),aP]
theorem aNY {q:Qv} {n:Nat} (Q:QOk q n) (k:Int):Lp (eN q k) (true,0)=some ((List.range n).all (cxB q n k)):=by
 have n5:=Q.n5;rw [iF (s:=((true:Bool),(0:Int))) (r:=(List.range n).all (cxB q n k)) (λj=>((List.range j).all (cxB q n k),(j:Int))) n rfl (λj hj=>?_) (λ_=>?_)]
 ·unfold eN;simp only;rw [Q.n0,nU hj,aH,aX (by omega),aX (by omega),Bool.and_self,aH,dC,dC,eV (by simpa using hj),aB];rw [show (List.replicate n (0:Int)).set j 1=dW n j from rfl,aMa Q (by rw [zG];omega),aB,cR hj (by omega)];have hc:cxB q n k j=(match aDu q n (dW n j) k with|some y=>decide (y=dW n j)|none=>false):=rfl;cases h1:(List.range j).all (cxB q n k) with
  |false=>rw [aP,←vI (c:=false) h1.symm rfl]
  |true=>
   rw [aH];cases h2:aDu q n (dW n j) k with
   |none=>
    rw [h2] at hc;simp only [aCE];rw [aP,←vI (c:=false) h1.symm (by rw [hc];rfl)]
   |some y=>
    rw [h2] at hc;simp only [aCE];have hy:decide (dW n j=y)=decide (y=dW n j):=by rw [Bool.eq_iff_iff,fT,fT];exact eq_comm
    rw [aH,aEu (aHS n5),aB,hy,←vI (c:=decide (y=dW n j)) h1.symm (by rw [hc];rfl)]
 ·unfold eN;simp only;rw [Q.n0,oF (bM _),aP]
def cxF (q:Qv) (n:Nat) (k:Nat):Option Int:=if (List.range n).all (cxB q n k) then some (k:Int) else none
def cxN (q:Qv) (n:Nat):Int:=match (List.range' 1 40).findSome? (cxF q n) with
 |none=>0
 |some b=>b
theorem aMi (q:Qv) (n:Nat):0≤cxN q n∧cxN q n<100:=by
 unfold cxN;cases h:(List.range' 1 40).findSome? (cxF q n) with
 |none=>simp
 |some b=>
  obtain ⟨k,hk,hb⟩:=List.exists_of_findSome?_eq_some h;have hk:=List.mem_range'_1.1 hk;unfold cxF at hb;split at hb
  ·simp only [Option.some.injEq] at hb;subst hb;simp only;omega
  ·cases hb
theorem aMj {q:Qv} {n:Nat} (Q:QOk q n) (hi:cF q=some 1) (hs:cE q=some 1):iP q=some (cxN q n)∧iQ q=some (cxN q n):=by
 have n5:=Q.n5;constructor
 ·unfold iP
  rw [hi,aB,aX rfl,jE,aP,
   vB (s0:=1) (s:=1) (n:=41) (cxF q n) rfl (by omega) (by omega) (λk h1 h2=>?_) (λ_=>?_),aB]
  ·unfold cxN;rw [show 41 - 1=40 from rfl];cases (List.range' 1 40).findSome? (cxF q n) <;> rfl
  ·unfold gB;rw [aX (by omega),aH,Q.n0,aGd n5,aB,aMh n5,aB,aNX Q,aB];unfold cxF;cases (List.range n).all (cxB q n k) <;> rfl
  ·unfold gB;rw [cD (by omega),aP]
 ·unfold iQ
  rw [hs,aB,aX rfl,jE,aP,
   vB (s0:=1) (s:=1) (n:=41) (cxF q n) rfl (by omega) (by omega) (λk h1 h2=>?_) (λ_=>?_),aB]
  ·unfold cxN;rw [show 41 - 1=40 from rfl];cases (List.range' 1 40).findSome? (cxF q n) <;> rfl
  ·unfold gC;rw [aX (by omega),aH,aNY Q,aB];unfold cxF;cases (List.range n).all (cxB q n k) <;> rfl
  ·unfold gC;rw [cD (by omega),aP]
def aHT (q:Qv) (n:Nat):List UInt8:=[114,111,111,116,115,32]++Lib.decDigits (mW q n).length++[32,99,111,120,101,116,101,114,32]++Lib.decDigits (cxN q n).toNat++[32,58,32]++dl (mW q n)
theorem aIQ {q:Qv} {n:Nat} (H:Fin1 q n):Rws (mW q n):=by
 have h:=aBk H;refine ⟨by omega,λx hx=>?_⟩;obtain ⟨h1,h2⟩:=H.vec ((aBj H x).1 hx);have n1:=H.Q.n1;have n5:=H.Q.n5;exact ⟨h1.2,by omega,by omega⟩
theorem aGe {q:Qv} (hb:bQ q): ∃ t,kG q=some t∧kF q=some t:=by
 obtain ⟨L,b,h1,h2,h3⟩:=aNP hb;rcases h3 with ⟨rfl,rfl⟩|⟨rfl,n,H,rfl⟩
 ·refine ⟨⟨#[]⟩,?_,?_⟩
  ·unfold kG;rw [h1];rfl
  ·unfold kF;rw [h2];rfl
 ·have hR:=aIQ H;have hd:=aMc hR;have hlen:=aBk H;obtain ⟨c0,c1⟩:=aMi q n
  have hk: ∃ n',Fin1 q n'∧cF q=some 1∧cE q=some 1:=by
   rcases aMY hb with h|⟨k,hk,hi,hs⟩
   ·exact h
   ·exfalso
    have:dA q=some ([],false):=by
     unfold dA;rw [hi,aB,cD hk,Bool.not_false,aH]
    rw [h1] at this;simp at this
  obtain ⟨_,_,hi,hs⟩:=hk;obtain ⟨g1,g2⟩:=aMj H.Q hi hs;have d1:=aFY (a:=(mW q n).length) (by omega);have d2:=aFY (a:=(cxN q n).toNat) (by omega);refine ⟨lB (aHT q n),?_,?_⟩
  ·unfold kG;rw [h1,aB,jE,aP];simp only;rw [aKO (by omega) (by omega),aB,g1,aB,aKO c0 c1,aB,aLR hR,aB,dC]
   rw [show [(⟨#[114,111,111,116,115]⟩:ByteArray),lB (Lib.decDigits (mW q n).length),(⟨#[99,111,120,101,116,101,114]⟩:ByteArray),lB (Lib.decDigits (cxN q n).toNat),(⟨#[58]⟩:ByteArray),lB (dl (mW q n))]
     =[[114,111,111,116,115],Lib.decDigits (mW q n).length,[99,111,120,101,116,101,114],Lib.decDigits (cxN q n).toNat,[58],dl (mW q n)].map lB from rfl,show (⟨#[32]⟩:ByteArray)=lB [32] from rfl,
    aMe (by rw [Lib.join_cons];simp [Lib.joinTail];omega) (by simp),aB,Lib.join_cons]
   simp [Lib.joinTail,aHT]
  ·unfold kF;rw [h2,aB,jE,aP];simp only;rw [aKN (by omega) (by omega),aB,g2,aB,aKN c0 c1,aB,aLS hR,aB,dC];rw [show (⟨#[114,111,111,116,115,32]⟩:ByteArray)=lB [114,111,111,116,115,32] from rfl,show (⟨#[32,99,111,120,101,116,101,114,32]⟩:ByteArray)=lB [32,99,111,120,101,116,101,114,32] from rfl,show (⟨#[32,58,32]⟩:ByteArray)=lB [32,58,32] from rfl];rw [aKP (by simp;omega),qP,aKP (by simp;omega),qP,aKP (by simp;omega),qP,aKP (by simp;omega),qP,aKP (by simp;omega),qP];rfl
theorem aBw {q:Qv} (fq:fQ q):jX q=some true:=by
 unfold jX;rw [aNk fq (by decide) (by decide),aB];rcases aKs q 1048576 (by decide) (by decide) with e|⟨e1,e2,hb⟩
 ·rw [e];rfl
 ·rw [cD (by omega),aP];obtain ⟨t,h1,h2⟩:=aGe hb;have ht:eqS t t=true:=by unfold eqS;exact beq_self_eq_true _
  simp only [aNl hb,aB,h1,h2,ht,aNm hb,decide_true,jE,aP]
end
end Go.Proofs.YtpppcfhgaehcjaaGreatDoor

/-
  Several texts of the claim in one.
-/
import Derived.Lib.Join
import Derived.Test.YtpppcfhgaehcjaaGreatDoorH17
set_option linter.unusedVariables false
set_option linter.unusedSimpArgs false
namespace Go.Proofs.YtpppcfhgaehcjaaGreatDoor
open Go.RowKit
noncomputable section
def lB (l:List UInt8):ByteArray:=⟨l.toArray⟩
theorem aCC (a b:List UInt8):lB a++lB b=lB (a++b):=by
 have h:(lB a++lB b).data=(lB (a++b)).data:=by
  rw [ByteArray.data_append];simp [lB]
 cases hx:lB a++lB b with
 |mk d=>rw [hx] at h;simp only at h;rw [h]
theorem pU (l:List UInt8):(lB l).size=l.length:=by simp [lB,ByteArray.size]
theorem aKA (l:List UInt8):(lB l).data.toList=l:=by simp [lB]
def f8 (z:Int):UInt8:=UInt8.ofNat z.toNat
theorem aGe (l:List Int):aDw l=lB (l.map f8):=by
 have key: ∀ (l:List Int) (a:List UInt8),l.foldl (λr n=>ByteArray.push r (UInt8.ofNat n.toNat)) (lB a)=lB (a++l.map f8):=by
  intro l;induction l with
  |nil=>intro a;simp
  |cons z l ih=>
   intro a;have e:(lB a).push (UInt8.ofNat z.toNat)=lB (a++[f8 z]):=by simp [lB,ByteArray.push,f8]
   rw [List.foldl_cons,e,ih,List.append_assoc];rfl
 exact key l []
theorem aEH {a:Nat} (h:a<10):Lib.decDigits a=[UInt8.ofNat (48+a)]:=by rw [Lib.decDigits,dif_pos h]
theorem aJF {a:Nat} (h:10≤a) (h2:a<100):Lib.decDigits a=[UInt8.ofNat (48+a / 10),UInt8.ofNat (48+a % 10)]:=by
 rw [Lib.decDigits,dif_neg (by omega),aEH (by omega)];rfl
theorem aIF {a:Nat} (h:a<100):(Lib.decDigits a).length ≤2:=by
 rcases cX a 10 with h1|h1
 ·rw [aEH h1];simp
 ·rw [aJF h1 h];simp
theorem aON {a:Int} (h:0≤a∧a≤9):IntKind.u8.wrap (wr (48+a))=48+a:=by
 rw [cC (by omega)];have:a=0∨a=1∨a=2∨a=3∨a=4∨a=5∨a=6∨a=7∨a=8∨a=9:=by omega
 rcases this with rfl|rfl|rfl|rfl|rfl|rfl|rfl|rfl|rfl|rfl <;> decide
theorem aJG {k:Nat} :f8 (48+(k:Int))=UInt8.ofNat (48+k):=by
 unfold f8;congr 1
theorem aEI {a:Nat} (h0:0<a) (h:a<100) {out:List UInt8} (ho:out.length≤10):dR ((a:Int),lB out)=some (.inl (((a / 10:Nat):Int),lB (UInt8.ofNat (48+a % 10)::out))):=by
 unfold dR;simp only;have e2:(a:Int).tmod 10=((a % 10:Nat):Int):=by rw [Int.tmod_eq_emod_of_nonneg (by omega)];omega
 have e3:(a:Int).tdiv 10=((a / 10:Nat):Int):=by rw [Int.tdiv_eq_ediv_of_nonneg (by omega)];omega
 rw [cS (by omega),Bool.not_false,aM,e2,e3,cS (by omega),aU,aON (by omega),aGe,aCC,pU,pU,aZ (by simp;omega),aM,cC (by omega)];rw [List.map_cons,List.map_nil,aJG];rfl
theorem aCD {a:Nat} (h0:0<a) (h:a<100) {out:List UInt8} (ho:out.length≤10):dR (-(a:Int),lB out)=some (.inl (-((a / 10:Nat):Int),lB (UInt8.ofNat (48+a % 10)::out))):=by
 unfold dR;simp only;have e2:(-(a:Int)).tmod 10= -((a % 10:Nat):Int):=by rw [Int.neg_tmod,Int.tmod_eq_emod_of_nonneg (by omega)];omega
 have e3:(-(a:Int)).tdiv 10= -((a / 10:Nat):Int):=by rw [Int.neg_tdiv,Int.tdiv_eq_ediv_of_nonneg (by omega)];omega
 rw [cS (by omega),Bool.not_false,aM,e2,e3];by_cases hz:a % 10=0
 ·rw [hz];rw [cS (by decide),aU,show (48:Int)+ -((0:Nat):Int)=48+((0:Nat):Int) by decide,aON (by omega),aGe,aCC,pU,pU,aZ (by simp;omega),aM,cC (by omega)];rw [List.map_cons,List.map_nil,aJG];rfl
 ·rw [aZ (by omega),aM,Int.neg_neg,cC (x:=((a % 10:Nat):Int)) (by omega),aON (by omega),aGe,aCC,pU,pU,aZ (by simp;omega),aM,cC (by omega)];rw [List.map_cons,List.map_nil,aJG];rfl
theorem aBY {out:List UInt8} :dR (0,lB out)=some (.inr (lB out)):=rfl
theorem zF {a:Int} (h0: -100<a) (h:a<100):(Lib.itoa a).length ≤3:=by
 unfold Lib.itoa;split
 ·have:=aIF (a:=a.natAbs) (by omega);simp;omega
 ·have:=aIF (a:=a.toNat) (by omega);omega
theorem aEJ {a:Int} (h0: -100<a) (h:a<100):eN a=some (lB (Lib.itoa a)):=by
 unfold eN Lib.itoa;by_cases hz:a=0
 ·subst hz;rw [aR (by decide),show (0:Int).toNat=0 from rfl,aEH (by omega)];rfl
 ·rw [cS hz,aU,show (⟨#[]⟩:ByteArray)=lB [] from rfl];by_cases hn:a<0
  ·obtain ⟨k,rfl⟩: ∃ k:Nat,a= -(k:Int):=⟨a.natAbs,by omega⟩;rw [aQ hn,aZ hn,show (-(k:Int)).natAbs=k by omega];rcases cX k 10 with h1|h1
   ·rw [nF (aCD (by omega) (by omega) (by simp)),Nat.div_eq_of_lt h1,show -((0:Nat):Int)=0 from rfl,iV aBY,aA,aM,aEH h1,Nat.mod_eq_of_lt h1,show (⟨#[45]⟩:ByteArray)=lB [45] from rfl,pU,pU,aZ (by simp),aM,aCC];rfl
   ·rw [nF (aCD (by omega) (by omega) (by simp)),nF (aCD (a:=k / 10) (by omega) (by omega) (by simp)),Nat.div_eq_of_lt (show k / 10<10 by omega),show -((0:Nat):Int)=0 from rfl,iV aBY,aA,aM,aJF h1 (by omega),Nat.mod_eq_of_lt (show k / 10<10 by omega),show (⟨#[45]⟩:ByteArray)=lB [45] from rfl,pU,pU,aZ (by simp),aM,aCC];rfl
  ·obtain ⟨k,rfl⟩: ∃ k:Nat,a=k:=⟨a.toNat,by omega⟩;rw [aR hn,cS hn,dK];rcases cX k 10 with h1|h1
   ·rw [nF (aEI (by omega) (by omega) (by simp)),Nat.div_eq_of_lt h1,show ((0:Nat):Int)=0 from rfl,iV aBY,aA,aU,aEH h1,Nat.mod_eq_of_lt h1]
   ·rw [nF (aEI (by omega) (by omega) (by simp)),nF (aEI (a:=k / 10) (by omega) (by omega) (by simp)),Nat.div_eq_of_lt (show k / 10<10 by omega),show ((0:Nat):Int)=0 from rfl,iV aBY,aA,aU,aJF h1 (by omega),Nat.mod_eq_of_lt (show k / 10<10 by omega)]
theorem aEK {a:Int} (h0: -100<a) (h:a<100):eK a=some (lB (Lib.itoa a)):=by
 unfold eK aGc;rw [aZ (by omega),aZ (by omega)];rfl
theorem aMa {l:List (List UInt8)} {sep:List UInt8} (h:(Lib.join l sep).length ≤1000000) (hl:l.length≤1000000):aEF (l.map lB) (lB sep)=some (lB (Lib.join l sep)):=by
 have e:(l.map lB).map (λx=>x.data.toList)=l:=by
  rw [List.map_map];exact (uL λx _=>aKA x).trans (List.map_id l)
 unfold aEF aNl;rw [e,aKA,aZ (by omega),aZ (by rw [dM];omega)];rfl
theorem aPP {α:Type} {a b:List UInt8} {k:Option α} (h:a.length+b.length≤1000000):(bif decide ((lB a).size +(lB b).size ≤9223372036854775807) then k else none)=k:=by
 rw [pU,pU,aZ (by omega),aM]
end
noncomputable section
set_option maxRecDepth 10000
set_option maxHeartbeats 4000000
def lQ (a0:Rp) (a1:Rp):Option Bool:=
 (tS a0 1048576).bind λv1=>
 bif decide (v1<0) then
 (some (true))
 else
 ((tS a1 v1).bind λv3=>
 bif decide (v3<0) then
 (some (true))
 else
 ((gT a0).bind λv5=>
 (gT a1).bind λv6=>
 (lW v5 v6).bind λv7=>
 (gT a0).bind λv8=>
 (gT a1).bind λv9=>
 (lU v8 v9).bind λv10=>
 bif !eqS v10 v7 then
 (some (false))
 else
 ((gT a0).bind λv12=>
 (qY v8 v12).bind λv13=>
 bif !v13 then
 (some (false))
 else
 ((gT a1).bind λv15=>
 (qY v9 v15).bind λv16=>
 bif !v16 then
 (some (false))
 else
 (some (true))))))
theorem xT (a0:Rp) (a1:Rp) (r:Bool) (h:lQ a0 a1=some r):HasCt (Tab Tryz.prog) Tryz.prog 4 [.agg (eR a0),.agg (eR a1)] (.bl r):=by
 refine aEG aS (rvs:=[.tmp 4]) (ns:=nmA) Tryz.func4 k k Tryz.ntmps4 k k k (λW hTab=>?_);refine wC<|mF<|mF<|gA (λw0_2 S0_2 r0_2=>?_);refine gA (λw0_3 S0_3 r0_3=>?_);refine gA (λw0_4 S0_4 r0_4=>?_);refine gA (λw0_5 S0_5 r0_5=>?_);refine sU<|wC<|mF<|mF<|gA (λw1_2 S1_2 r1_2=>?_);refine gA (λw1_3 S1_3 r1_3=>?_);refine gA (λw1_4 S1_4 r1_4=>?_);refine gA (λw1_5 S1_5 r1_5=>?_);refine sU<|aBI<|sS<|se (wb k) k<|se (wb k) k<|saS k2<|sn<|tn<|sS<|saS k2<|sn<|tn<|sS<|lpS k8<|smS k2<|oB h λv1 hv1 h=>se (gD (aBO a0 1048576 v1 hv1) k (cH (vrR k r0_2 r0_3 r0_4 r0_5) (wkS k fS))) k<|saS k2<|sn<|tn<|sQ<|sS<|smS k2<|cmS k4<|sn<|tn<|cO k h (λ_ h=>sS<|saS k2<|sn<|tn<|aC<|aG<|fB h k2) λ_ h=>?_;refine aI<|tn<|sS<|lpS k8<|smS k2<|oB h λv3 hv3 h=>se (gD (aBO a1 v1 v3 hv3) k (cH (vrR k r1_2 r1_3 r1_4 r1_5) (wkS k fS))) k<|saS k2<|sn<|tn<|sQ<|sS<|smS k2<|cmS k4<|sn<|tn<|cO k h (λ_ h=>sS<|saS k2<|sn<|tn<|aC<|aG<|fB h k2) λ_ h=>?_;refine aI<|tn<|sQ<|aO fZ<|lp k8<|oB h λv5 hv5 h=>ae (cRK (nN a0 v5 hv5) k3 (cH (vrR k r0_2 r0_3 r0_4 r0_5) fS)) k<|lp k8<|oB h λv6 hv6 h=>ae (cRK (nN a1 v6 hv6) k3 (cH (vrR k r1_2 r1_3 r1_4 r1_5) fS)) k<|oB h λv7 hv7 h=>ae (gD (aCl v5 v6 v7 hv7) k (cH (.inl (vaR k8)) (cH (.inl (vaR k8)) fS))) k<|aa k k<|an<|oW (by kernel_rfl)<|tn<|sS<|lpS k8<|oB h λv8 hv8 h=>se (cRK (nN a0 v8 hv8) k3 (cH (vrR k r0_2 r0_3 r0_4 r0_5) fS)) k<|se (bY aS k k) k<|se (ws k) k<|sn<|tn<|aP (t:=mN [(2,.ptr 0 0 0),(3,.ptr 1 0 0),(6,.str v7),(7,.ptr 14 0 0)] [(0,⟨6,[[.int a0.p,.int a0.q.n,.sc w0_2,.sc w0_3,.sc w0_4,.sc w0_5]]⟩),(1,⟨6,[[.int a1.p,.int a1.q.n,.sc w1_2,.sc w1_3,.sc w1_4,.sc w1_5]]⟩),(10,⟨1,v8.q.src.map (ow eI)⟩),(11,⟨1,v8.q.tgt.map (ow eI)⟩),(12,⟨1,v8.dims.map (ow eI)⟩),(13,⟨3,v8.maps.map (ow eM)⟩),(14,⟨6,[oRp v8 10 11 12 13]⟩)] 15 ⟨0,true,fxW W,true⟩) (bK (bH k2) (bF k<|bF k<|bT k<|bT k<|bT k<|mW (cJ.plainO _) k<|iF k<|aY) k4)<|sS<|lpS k8<|oB h λv9 hv9 h=>se (cRK (nN a1 v9 hv9) k3 (cH (vrR k r1_2 r1_3 r1_4 r1_5) fS)) k ?_;exact se (bY aS k k) k<|se (ws k) k<|sn<|tn<|sS<|lpS k8<|lpS k8<|oB h λv10 hv10 h=>se (xR (aJE _) hTab (aCk v8 v9 v10 hv10) k k (cH (.inl (vaR k8)) (cH (.inl (vaR k8)) fS))) k<|saS k2<|sn<|tn<|sQ<|sS<|smS k2<|smS k2<|se (aOr k k) k<|sn<|tn<|cO k h (λ_ h=>sS<|saS k2<|sn<|tn<|aC<|aG<|fB h k2) λ_ h=>aI<|tn<|sQ<|sQ<|aO fZ<|lp k8<|lp k8<|oB h λv12 hv12 h=>ae (cRK (nN a0 v12 hv12) k3 (cH (vrR k r0_2 r0_3 r0_4 r0_5) fS)) k<|oB h λv13 hv13 h=>ae (gD (aBP v8 v12 v13 hv13) k (cH (.inl (vaR k8)) (cH (.inl (vaR k8)) fS))) k<|ae (dC k) k<|an<|oW (by kernel_rfl)<|tn<|cO k h (λ_ h=>sS<|saS k2<|sn<|tn<|aC<|aG<|fB h k2) λ_ h=>aI<|tn<|sQ<|sQ<|aO fZ<|lp k8<|lp k8<|oB h λv15 hv15 h=>ae (cRK (nN a1 v15 hv15) k3 (cH (vrR k r1_2 r1_3 r1_4 r1_5) fS)) k<|oB h λv16 hv16 h=>ae (gD (aBP v9 v15 v16 hv16) k (cH (.inl (vaR k8)) (cH (.inl (vaR k8)) fS))) k<|ae (dC k) k<|an<|oW (by kernel_rfl)<|tn<|cO k h (λ_ h=>sS<|saS k2<|sn<|tn<|aC<|aG<|fB h k2) λ_ h=>aI<|tn<|sS<|saS k2<|sn<|tn<|aC<|fB h k2
end
noncomputable section
def aNV (a b:Rp):Nat:=nE a b - rkF a.p (nE a b) (nV a b) (mE a b)
def edI (a b:Rp):Int:=if iO a b=true then (aNV a b:Int) else -1
theorem aMb {a b:Rp} (h:Fit a b):rkF a.p (nE a b) (nV a b) (mE a b)≤nE a b:=rQ (nV a b)
theorem aFc {a b:Rp} (ha:bR a) (hb:bR b):oN a b=some (edI a b):=by
 unfold oN edI;rw [show jP a b=some (iO a b) from aHk ha hb,aA];cases hf:iO a b with
 |false=>rfl
 |true=>
  have h:=dO hf;have bE:=h.offE (bC _);have:=aMb h;rw [dX,aU];unfold vR;rw [xO h,aA,aAf (aFS h),aA];have e:((bW a.p (nE a b) (mE a b) (nV a b)).2.length)=rkF a.p (nE a b) (nV a b) (mE a b):=rfl;simp only;rw [e,cC (by unfold nE at*;omega),aA,aQ trivial];unfold aNV;congr 1;omega
theorem aFd {a b:Rp} (ha:bR a) (hb:bR b):oO a b=some (edI a b):=by
 unfold oO edI;rw [show fF a b=some (iO a b) from xF ha hb,aA];cases hf:iO a b with
 |false=>rfl
 |true=>
  have h:=dO hf;have bE:=h.offE (bC _);have:=aMb h;rw [dX,aU,uJ h,aA,xI (aFS h),aA];have e:(eW (bW a.p (nE a b) (mE a b) (nV a b)).2).length=rkF a.p (nE a b) (nV a b) (mE a b):=by unfold eW;rw [dM];rfl
  simp only;rw [e,cC (by unfold nE at*;omega),aQ trivial];unfold aNV;congr 1;omega
section
variable {a b:Rp} (h:Fit a b)
include h
theorem aIG {v:Nat} (hv:v<a.dims.length):cP a.dims (v:Int)=some (dN a v:Int)∧cP b.dims (v:Int)=some (dN b v:Int):=by
 refine ⟨by rw [qM 0 hv,(h.ra.d v hv).1],by rw [qM 0 (by rw [h.ne];exact hv),(h.rb.d v (by rw [h.ne];exact hv)).1]⟩
theorem aMc {v:Nat} (hv:v<a.dims.length):wr (((off (lV a b) v:Nat):Int)+wr ((dN a v:Int)*(dN b v:Int)))=((off (lV a b) (v+1):Nat):Int):=by
 have h1:=h.offV (v:=v) (by omega);have h2:=h.lV hv;have e:((dN a v:Int)*(dN b v:Int))=((lV a b v:Nat):Int):=by unfold lV;rw [Nat.mul_comm];simp
 rw [e,cC (x:=((lV a b v:Nat):Int)) (by omega),cC (by omega)];show _=((off (lV a b) v+lV a b v:Nat):Int);omega
theorem aMd {i:Nat} (hi:i<a.q.src.length):wr (((nV a b:Nat):Int) - ((off (lE a b) i:Nat):Int) - wr ((dN a (sV a i):Int)*(dN b (tV a i):Int)))=((nV a b:Nat):Int) - ((off (lE a b) (i+1):Nat):Int):=by
 have h0:nV a b≤80:=h.offV (bC _);have h1:=h.offE (i:=i) (by omega);have h2:=h.lE hi;have e:((dN a (sV a i):Int)*(dN b (tV a i):Int))=((lE a b i:Nat):Int):=by unfold lE;rw [Nat.mul_comm];simp
 rw [e,cC (x:=((lE a b i:Nat):Int)) (by omega),cC (by omega)];show _=_ - ((off (lE a b) i+lE a b i:Nat):Int);omega
theorem aGf {i:Nat} (hi:i<a.q.src.length):cP a.q.src (i:Int)=some (sV a i:Int)∧cP a.q.tgt (i:Int)=some (tV a i:Int):=by
 have h2:=h.ra.tl;refine ⟨by rw [qM 0 hi,(h.ra.s i hi).1],by rw [qM 0 (by omega),(h.ra.t i hi).1]⟩
end
theorem aKB {a b:Rp} (hr:rW a=true∧rW b=true) (hq:a.q=b.q):aAM a.q=true∧(a.dims.length:Int)=a.q.n∧(b.dims.length:Int)=a.q.n∧(a.dims.all λx=>vG x (-100) 100)=true∧(b.dims.all λx=>vG x (-100) 100)=true:=by
 obtain ⟨q1,q2,q3,_⟩:=nA (yX hr.1).2.1;obtain ⟨p1,p2,p3,_⟩:=nA (yX hr.2).2.1;refine ⟨q1,q2,by rw [hq];exact p2,?_,?_⟩
 ·rw [List.all_eq_true];intro x hx;have:=q3 x hx;exact wY (by omega) (by omega)
 ·rw [List.all_eq_true];intro x hx;have:=p3 x hx;exact wY (by omega) (by omega)
def aEa (a b:Rp):Int:=((nV a b:Nat):Int) - ((nE a b:Nat):Int)
theorem aOO {a b:Rp} (h:Fit a b): -100<aEa a b∧aEa a b<100:=by
 have h0:nV a b≤80:=h.offV (bC _);have h1:nE a b≤96:=h.offE (bC _);unfold aEa;omega
theorem aFe {a b:Rp} (hf:iO a b=true):(rW a=true∧rW b=true)∧a.q=b.q:=by
 unfold iO at hf;simp only [cD,mS] at hf;exact ⟨⟨hf.1,hf.2.1⟩,hf.2.2.2⟩
theorem aIH {a b:Rp} (ha:bR a) (hb:bR b) (hf:iO a b=true):nU a.q a.dims b.dims=some (aEa a b):=by
 have h:=dO hf;obtain ⟨fr,fq⟩:=aFe hf;obtain ⟨g1,g2,g3,g4,g5⟩:=aKB fr fq;have n5:=h.ra.n5;have e6:=h.ra.e6
 have hn1:fN a.q a.dims=some true:=by
  unfold fN;rw [aGM ha.1,g1,aA,aM,aZ g2,aM,qD ha.2.1,g4];rfl
 have hn2:fN a.q b.dims=some true:=by
  unfold fN;rw [aGM ha.1,g1,aA,aM,aZ g3,aM,qD hb.2.1,g5];rfl
 unfold nU;rw [hn1,aA,dX,aU,hn2,aA,dX,aU];unfold xS
 rw [cU (s:=((0:Int),(0:Int))) (r:=((nV a b:Nat):Int)) (λk=>(((off (lV a b) k:Nat):Int),(k:Int))) a.dims.length rfl (λv hv=>?_) (λ_=>?_),aA,
  cU (s:=(((nV a b:Nat):Int),(0:Int))) (r:=aEa a b) (λk=>(((nV a b:Nat):Int) - ((off (lE a b) k:Nat):Int),(k:Int))) a.q.src.length (by simp [off]) (λi hi=>?_) (λ_=>?_),aA]
 ·rfl
 ·unfold pT;simp only;rw [jT hi,aM,(aGf h hi).1,aA,(aIG h (h.ra.s i hi).2).1,aA,(aGf h hi).2,aA,(aIG h (h.ra.t i hi).2).2,aA,aMd h hi,bN hi (by omega)]
 ·unfold pT;simp only;rw [mD (bC _),aU];rfl
 ·unfold pS;simp only;rw [jT hv,aM,(aIG h hv).1,aA,(aIG h hv).2,aA,aMc h hv,bN hv (by omega)]
 ·unfold pS;simp only;rw [mD (bC _),aU];rfl
theorem aKC {q:Qv} (hq:bQ q) {x:List Int} (hx:x.length≤1048576) (h1:aAM q=true) (h2:(x.length:Int)=q.n) (h3:(x.all λa=>vG a (-100) 100)=true):kQ q x=some true:=by
 unfold kQ;rw [vH (n:=x.length) (λk=>vG (x[k]?.getD 0) (-100) 100) false (by omega) (λk hk=>?_) (λ_=>?_)]
 ·rw [vX 0 x (λa=>vG a (-100) 100),h3,aM,aA];show (Option.bind (iP q) _)=_;rw [aJk hq,h1,aA,aM,aZ h2]
 ·unfold kD;rw [jT hk,aM,qM 0 hk,aA,vP,aA];cases vG (x[k]?.getD 0) (-100) 100 <;> rfl
 ·unfold kD;rw [mD (bC _),aU]
theorem aII {a b:Rp} (ha:bR a) (hb:bR b) (hf:iO a b=true):nW a.q a.dims b.dims=some (aEa a b):=by
 have h:=dO hf;obtain ⟨fr,fq⟩:=aFe hf;obtain ⟨g1,g2,g3,g4,g5⟩:=aKB fr fq;have n5:=h.ra.n5;have e6:=h.ra.e6;unfold nW;rw [aKC ha.1 ha.2.1 g1 g2 g4,aA,dX,aU,aKC ha.1 hb.2.1 g1 g3 g5,aA,dX,aU]
 rw [cU (s:=((0:Int),(0:Int))) (r:=((nV a b:Nat):Int)) (λk=>(((off (lV a b) k:Nat):Int),(k:Int))) a.dims.length rfl (λv hv=>?_) (λ_=>?_),aA,
  cU (s:=(((nV a b:Nat):Int),(0:Int))) (r:=aEa a b) (λk=>(((nV a b:Nat):Int) - ((off (lE a b) k:Nat):Int),(k:Int))) a.q.src.length (by simp [off]) (λi hi=>?_) (λ_=>?_),aA]
 ·unfold kF;simp only;rw [jT hi,aM,(aGf h hi).1,aA,(aIG h (h.ra.s i hi).2).1,aA,(aGf h hi).2,aA,(aIG h (h.ra.t i hi).2).2,aA,aMd h hi,bN hi (by omega)]
 ·unfold kF;simp only;rw [mD (bC _),aU];rfl
 ·unfold kE;simp only;rw [←g2,jT hv,aM,(aIG h hv).1,aA,(aIG h hv).2,aA,aMc h hv,bN hv (by omega)]
 ·unfold kE;simp only;rw [←g2,mD (bC _),aU];rfl
theorem aOv (b:Bool) (s:List UInt8):vQ b (lB s)=some (lB (bif b then s else [])):=by cases b <;> rfl
def aOP (A B C D E:List UInt8) (b:Bool):List UInt8:=[104,111,109,32]++A++[32]++B++[32,101,120,116,32]++C++[32]++D++[32,101,117,108,101,114,32]++E++(bif b then [32,105,115,111,109,111,114,112,104,105,99] else [])
theorem aJH {a b:Rp} (ha:bR a) (hb:bR b): ∃ t,lU a b=some t∧lW a b=some t:=by
 cases hf:iO a b with
 |false=>
  refine ⟨⟨#[]⟩,?_,?_⟩
  ·unfold lU;rw [show jP a b=some (iO a b) from aHk ha hb,hf];rfl
  ·unfold lW;rw [show fF a b=some (iO a b) from xF ha hb,hf];rfl
 |true=>
  obtain ⟨f1,f2,f3⟩:=aGb hf;have h:=dO hf;have h':=dO f1
  have bd: ∀ {x y:Rp},iO x y=true→(-100<hdI x y∧hdI x y<100)∧(-100<edI x y∧edI x y<100):=by
   intro x y hxy;have g:=dO hxy;have g1:=vB g;have g2:nE x y≤96:=g.offE (bC _);unfold hdI edI aNV;rw [aQ hxy,aQ hxy];omega
  obtain ⟨⟨b1,b2⟩,b3,b4⟩:=bd hf;obtain ⟨⟨c1,c2⟩,c3,c4⟩:=bd f1;obtain ⟨e1,e2⟩:=aOO h;have l1:=zF b1 b2;have l2:=zF c1 c2;have l3:=zF b3 b4;have l4:=zF c3 c4;have l5:=zF e1 e2;refine ⟨lB (aOP (Lib.itoa (hdI a b)) (Lib.itoa (hdI b a)) (Lib.itoa (edI a b)) (Lib.itoa (edI b a)) (Lib.itoa (aEa a b)) (decide (isI a b=1))),?_,?_⟩
  ·unfold lU;rw [show jP a b=some (iO a b) from aHk ha hb,hf,aA,dX,aU,aFV ha hb,aA,aEK b1 b2,aA,aFV hb ha,aA,aEK c1 c2,aA,aFc ha hb,aA,aEK b3 b4,aA,aFc hb ha,aA,aEK c3 c4,aA,aIH ha hb hf,aA,aEK e1 e2,aA,aLA ha hb,aA];generalize Lib.itoa (hdI a b)=A at l1 ⊢;generalize Lib.itoa (hdI b a)=B at l2 ⊢;generalize Lib.itoa (edI a b)=C at l3 ⊢;generalize Lib.itoa (edI b a)=D at l4 ⊢;generalize Lib.itoa (aEa a b)=E at l5 ⊢
   have e8:([(⟨#[104,111,109]⟩:ByteArray),lB A,lB B,(⟨#[101,120,116]⟩:ByteArray),lB C,lB D,(⟨#[101,117,108,101,114]⟩:ByteArray),lB E]:List ByteArray)
     =[[104,111,109],A,B,[101,120,116],C,D,[101,117,108,101,114],E].map lB:=rfl
   have ei:([(⟨#[105,115,111,109,111,114,112,104,105,99]⟩:ByteArray)]:List ByteArray)=[[105,115,111,109,111,114,112,104,105,99]].map lB:=rfl;have es:(⟨#[32]⟩:ByteArray)=lB [32]:=rfl;rw [e8,ei,es];cases decide (isI a b=1)
   ·rw [aU,aMa (by rw [Lib.join_cons];simp [Lib.joinTail];omega) (by simp),aA,Lib.join_cons];simp [Lib.joinTail,aOP]
   ·rw [aM,aZ (by simp),aM,←List.map_append,aMa (by rw [List.cons_append,Lib.join_cons];simp [Lib.joinTail];omega) (by simp),aA,List.cons_append,Lib.join_cons];simp [Lib.joinTail,aOP]
  ·unfold lW;rw [show fF a b=some (iO a b) from xF ha hb,hf,aA,dX,aU,rZ ha hb,rZ hb ha,aFd ha hb,aFd hb ha,aII ha hb hf,aLB ha hb];simp only [aA];rw [aEJ b1 b2,aEJ c1 c2,aEJ b3 b4,aEJ c3 c4,aEJ e1 e2];simp only [aA];generalize Lib.itoa (hdI a b)=A at l1 ⊢;generalize Lib.itoa (hdI b a)=B at l2 ⊢;generalize Lib.itoa (edI a b)=C at l3 ⊢;generalize Lib.itoa (edI b a)=D at l4 ⊢;generalize Lib.itoa (aEa a b)=E at l5 ⊢;rw [show (⟨#[104,111,109,32]⟩:ByteArray)=lB [104,111,109,32] from rfl,show (⟨#[32]⟩:ByteArray)=lB [32] from rfl,show (⟨#[32,101,120,116,32]⟩:ByteArray)=lB [32,101,120,116,32] from rfl,show (⟨#[32,101,117,108,101,114,32]⟩:ByteArray)=lB [32,101,117,108,101,114,32] from rfl,show (⟨#[32,105,115,111,109,111,114,112,104,105,99]⟩:ByteArray)=lB [32,105,115,111,109,111,114,112,104,105,99] from rfl];have yb:(bif decide (isI a b=1) then [32,105,115,111,109,111,114,112,104,105,99] else ([]:List UInt8)).length ≤11:=by cases decide (isI a b=1) <;> simp
   repeat (first|rw [aPP (by simp only [List.length_append,List.length_cons,List.length_nil];omega)]|rw [aCC]|rw [aOv,aA])
   rfl
theorem aEL {a b:Rp} (fa:fR a) (fb:fR b):lQ a b=some true:=by
 unfold lQ;rw [aOh fa (by decide) (by decide),aA];rcases aJf a 1048576 (by decide) (by decide) with e|⟨e1,e2,ha⟩
 ·rw [aZ (by omega)];rfl
 ·rw [cS (by omega),aU,aOh fb e1 e2,aA];rcases aJf b _ e1 e2 with e|⟨e3,e4,hb⟩
  ·rw [aZ (by omega)];rfl
  ·rw [cS (by omega),aU];obtain ⟨t,h1,h2⟩:=aJH ha hb;have ht:eqS t t=true:=by unfold eqS;exact beq_self_eq_true _
   simp only [aOj ha,aOj hb,aA,h1,h2,ht,aOl ha,aOl hb,decide_true,dX,aU]
end
end Go.Proofs.YtpppcfhgaehcjaaGreatDoor

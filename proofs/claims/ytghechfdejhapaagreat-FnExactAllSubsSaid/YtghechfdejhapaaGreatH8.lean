/-
  Several texts of the claim in one.
-/
import Derived.Test.YtghechfdejhapaaGreatProg
import Derived.Test.YtghechfdejhapaaGreatH7
set_option linter.unusedVariables false
set_option linter.unusedSimpArgs false
namespace Go.Proofs.YtghechfdejhapaaGreat
open Go.RowKit
noncomputable section
def zI (n:Nat) (left:Int):Int:=if left - n<0 then -1 else left - n
def zC:List (Int→Int)→Int→Int
 | [],left=>left
 |f::fs,left=>if f left<0 then -1 else zC fs (f left)
def zS {α:Type} (f:α→Int→Int) (l:List α) (left:Int):Int:=if left - l.length<0 then -1 else zC (l.map f) (left - l.length)
def zQ (q:Qv):Int→Int:=zC [zI q.src.length,zI q.tgt.length]
def zM (m:Mt):Int→Int:=zC [zI m.cells.length]
def zR (r:Rp):Int→Int:=zC [zQ r.q,zI r.dims.length,zS zM r.maps]
def zK (f:Int→Int) (b:Prop):Prop:= ∀ left,0≤left→left≤1048576→f left= -1∨(0≤f left∧f left≤left∧b)
theorem zL (n:Nat):zK (zI n) (n≤1048576):=by
 intro left h0 h1
 unfold zI
 by_cases h:left - n<0
 ·rw [if_pos h];exact .inl rfl
 ·rw [if_neg h];exact .inr ⟨by omega,by omega,by omega⟩
theorem aEu:zK (zC []) True:=fun left h0 _=> .inr ⟨h0,Int.le_refl _,trivial⟩
theorem sT {f:Int→Int} {fs:List (Int→Int)} {b bs:Prop} (h:zK f b) (k:zK (zC fs) bs):zK (zC (f::fs)) (b∧bs):=by
 intro left h0 h1
 unfold zC
 rcases h left h0 h1 with e|⟨e1,e2,e3⟩
 ·rw [e,if_pos (by decide)];exact .inl rfl
 ·rw [if_neg (by omega)]
  rcases k (f left) e1 (by omega) with g|⟨g1,g2,g3⟩
  ·exact .inl g
  ·exact .inr ⟨g1,by omega,e3,g3⟩
theorem aJE {α:Type} {f:α→Int→Int} {b:α→Prop} (h: ∀ x,zK (f x) (b x)): ∀ l:List α,zK (zC (l.map f)) (∀ x∈l,b x)
 | []=>fun left h0 _=> .inr ⟨h0,Int.le_refl _,by simp⟩
 |x::l=>fun left h0 h1=>by
  rcases sT (h x) (aJE h l) left h0 h1 with e|⟨e1,e2,e3,e4⟩
  ·exact .inl e
  ·exact .inr ⟨e1,e2,fun y hy=>by rcases List.mem_cons.1 hy with rfl|h';exact e3;exact e4 y h'⟩
theorem aNT {α:Type} {f:α→Int→Int} {b:α→Prop} (h: ∀ x,zK (f x) (b x)) (l:List α):zK (zS f l) (l.length≤1048576∧ ∀ x∈l,b x):=by
 intro left h0 h1
 unfold zS
 by_cases e:left - l.length<0
 ·rw [if_pos e];exact .inl rfl
 ·rw [if_neg e]
  rcases aJE h l (left - l.length) (by omega) (by omega) with g|⟨g1,g2,g3⟩
  ·exact .inl g
  ·exact .inr ⟨g1,by omega,by omega,g3⟩
def bI (l:List Int):Prop:=l.length≤1048576
def bQ (q:Qv):Prop:=bI q.src∧bI q.tgt∧True
def bM (m:Mt):Prop:=bI m.cells∧True
def bR (r:Rp):Prop:=bQ r.q∧bI r.dims∧(r.maps.length≤1048576∧ ∀ m∈r.maps,bM m)∧True
def bS (s:Sc):Prop:=(s.basis.length≤1048576∧ ∀ v∈s.basis,bI v)∧True
theorem aNU (q:Qv):zK (zQ q) (bQ q):=sT (zL _) (sT (zL _) aEu)
theorem aJz (m:Mt):zK (zM m) (bM m):=sT (zL _) aEu
theorem aRD (r:Rp):zK (zR r) (bR r):=sT (aNU _) (sT (zL _) (sT (aNT aJz _) aEu))
def fI {α:Type} (l:List α):Prop:=l.length≤9223372036854775807
theorem aBz {o:Option Int} {z:Int→Int} {zs:List (Int→Int)} {b:Prop} {left:Int} {k:Int→Option Int} (ho:o=some (z left)) (hf:zK z b) (h0:0≤left) (h1:left≤1048576) (hk: ∀ v,0≤v→v≤1048576→k v=some (zC zs v)):
  Option.bind o (fun v=>bif decide (v<0) then some (-1) else k v)=some (zC (z::zs) left):=by
 rw [ho,Option.bind_some]
 unfold zC
 rcases hf left h0 h1 with e|⟨e1,e2,_⟩
 ·rw [e];rfl
 ·rw [if_neg (by omega),decide_eq_false (by omega: ¬ z left<0),cond_false];exact hk _ e1 (by omega)
theorem aRE {α:Type} {body:Int×Int→Option ((Int×Int) ⊕ (Int ⊕ Int))} {f:α→Int→Int} {b:α→Prop} {l:List α} (hf: ∀ x,zK (f x) (b x)) (hl:l.length≤1048576)
  (hs: ∀ (v:Int) (k:Nat) (hk:k<l.length),0≤v→v≤1048576→body (v,k)=some (bif decide (f l[k] v<0) then .inr (.inr (-1)) else .inl (f l[k] v,wr (k+1)))) (he: ∀ v,body (v,l.length)=some (.inr (.inl v))) (v:Int) (h0:0≤v) (h1:v≤1048576):
  Option.bind (Lp body (v,0)) (fun y=>Sum.elim (fun y=>some y) (fun y=>some y) y)=some (zC (l.map f) v):=by
 have key: ∀ d k:Nat,k+d=l.length→ ∀ v:Int,0≤v→v≤1048576→Option.bind (Lp body (v,(k:Int))) (fun y=>Sum.elim (fun y=>some y) (fun y=>some y) y)=some (zC ((l.drop k).map f) v):=by
  intro d
  induction d with
  |zero=>
   intro k hk v _ _
   rw [Nat.add_zero] at hk;subst hk
   rw [vT (he v)]
   simp [zC]
  |succ d ih=>
   intro k hk v h0 h1
   have h:=hs v k (by omega) h0 h1
   rw [List.drop_eq_getElem_cons (by omega:k<l.length),List.map_cons]
   unfold zC
   rcases hf l[k] v h0 h1 with e|⟨e1,e2,_⟩
   ·rw [e] at h ⊢
    rw [vT (r:= .inr (-1)) (by rw [h];rfl)];rfl
   ·rw [if_neg (by omega)]
    rw [decide_eq_false (by omega: ¬ f l[k] v<0),cond_false,dO (n:=l.length) (by omega) (by omega)] at h
    rw [aBr h]
    exact ih (k+1) (by omega) _ e1 (by omega)
 have:=key l.length 0 (by omega) v h0 h1
 simpa using this
theorem aRF {l:List Int} {left:Int} (hl:fI l) (h0:0≤left) (h1:left≤1048576):kW l left=some (zI l.length left):=by
 unfold fI at hl
 unfold kW zI
 rw [aGz (by omega)]
 by_cases h:left - l.length<0
 ·rw [decide_eq_true h,if_pos h];rfl
 ·rw [decide_eq_false h,if_neg h];rfl
def fQ (q:Qv):Prop:=fI q.src∧fI q.tgt
theorem aTQ {q:Qv} {left:Int} (hl:fQ q) (h0:0≤left) (h1:left≤1048576):wS q left=some (zQ q left):=
 aBz (aRF hl.1 h0 h1) (zL _) h0 h1 fun v g0 g1=>aBz (aRF hl.2 g0 g1) (zL _) g0 g1 fun v _ _=>rfl
def fM (m:Mt):Prop:=fI m.cells
theorem aTR {m:Mt} {left:Int} (hl:fM m) (h0:0≤left) (h1:left≤1048576):wT m left=some (zM m left):=
 aBz (aRF hl h0 h1) (zL _) h0 h1 fun v _ _=>rfl
def fMs (l:List Mt):Prop:=fI l∧ ∀ m∈l,fM m
theorem aSh {l:List Mt} {left:Int} (hl:fMs l) (h0:0≤left) (h1:left≤1048576):qK l left=some (zS zM l left):=by
 obtain ⟨ha,hb⟩:=hl
 unfold fI at ha
 unfold qK zS
 rw [aGz (by omega)]
 by_cases h:left - l.length<0
 ·rw [decide_eq_true h,if_pos h];rfl
 ·rw [decide_eq_false h,if_neg h,cond_false]
  refine aRE (f:=zM) aJz (by omega) (fun v k hk g0 g1=>?_) (fun v=>?_) _ (by omega) (by omega)
  ·unfold lG
   simp only
   rw [kT hk,cond_true,eA hk,Option.bind_some,aTR (hb _ (List.getElem_mem hk)) g0 g1,Option.bind_some]
   cases decide (zM l[k] v<0) <;> rfl
  ·unfold lG
   simp only
   rw [oF (Nat.le_refl _),cond_false]
def fR (r:Rp):Prop:=fQ r.q∧fI r.dims∧fMs r.maps
theorem aTT {r:Rp} {left:Int} (hl:fR r) (h0:0≤left) (h1:left≤1048576):aAr r left=some (zR r left):=
 aBz (aTQ hl.1 h0 h1) (aNU _) h0 h1 fun v g0 g1=>aBz (aRF hl.2.1 g0 g1) (zL _) g0 g1 fun v g2 g3=>aBz (aSh hl.2.2 g2 g3) (aNT aJz _) g2 g3 fun v _ _=>rfl
theorem aJF {α:Type} {body:List α×Int→Option ((List α×Int) ⊕ List α)} {l:List α} (z:α) (hl:l.length≤4611686018427387904)
  (hs: ∀ (k:Nat) (hk:k<l.length) (r:List α),r.length=l.length→body (r,k)=some (.inl (r.set k l[k],wr (k+1)))) (he: ∀ r,body (r,l.length)=some (.inr r)):Lp body (List.replicate ((l.length:Int).toNat) z,0)=some l:=by
 refine aPD (fun k=>(l.take k++List.replicate (l.length - k) z,(k:Int))) l.length (by simp) (fun k hk=>?_) ?_
 ·rw [hs k hk _ (by simp;omega),dO hk hl]
  congr 3
  rw [show l.length - k=(l.length - (k+1))+1 by omega,List.replicate_succ,List.set_append_right _ _ (by simp;omega)]
  rw [List.take_succ_eq_append_getElem hk,List.length_take,Nat.min_eq_left (Nat.le_of_lt hk),Nat.sub_self,List.set_cons_zero,List.append_assoc];rfl
 ·rw [he];simp
theorem aRG {l:List Int} (h:bI l):kX l=some l:=by
 unfold bI at h
 unfold kX
 rw [decide_eq_true (by omega),decide_eq_true (by omega:(l.length:Int)≤1048576),Bool.and_self,cond_true]
 rw [aJF 0 (by omega) (fun k hk r hr=>?_) (fun r=>?_)];rfl
 ·unfold qL
  simp only
  rw [kT hk,cond_true,eA hk,Option.bind_some,eA (hr▸hk),Option.bind_some,Int.toNat_natCast]
 ·unfold qL
  simp only
  rw [oF (Nat.le_refl _),cond_false]
theorem aTU {q:Qv} (h:bQ q):rQ q=some q:=by
 unfold rQ
 rw [aRG h.1,Option.bind_some,aRG h.2.1,Option.bind_some]
theorem aTV {m:Mt} (h:bM m):rR m=some m:=by
 unfold rR
 rw [aRG h.1,Option.bind_some]
theorem aSi {l:List Mt} (h:l.length≤1048576∧ ∀ m∈l,bM m):qM l=some l:=by
 obtain ⟨h,hb⟩:=h
 unfold qM
 rw [decide_eq_true (by omega),decide_eq_true (by omega:(l.length:Int)≤1048576),Bool.and_self,cond_true]
 rw [aJF _ (by omega) (fun k hk r hr=>?_) (fun r=>?_)];rfl
 ·unfold lH
  simp only
  rw [kT hk,cond_true,eA hk,Option.bind_some,aTV (hb _ (List.getElem_mem hk)),Option.bind_some,eA (hr▸hk),Option.bind_some,Int.toNat_natCast]
 ·unfold lH
  simp only
  rw [oF (Nat.le_refl _),cond_false]
theorem aTW {r:Rp} (h:bR r):mU r=some r:=by
 unfold mU
 rw [aTU h.1,Option.bind_some,aRG h.2.1,Option.bind_some,aSi h.2.2.1,Option.bind_some]
theorem yE {α:Type} [DecidableEq α] {body:Int→Option (Int ⊕ (Unit ⊕ Bool))} {a b:List α} (hl:a.length≤4611686018427387904) (hab:a.length=b.length)
  (hs: ∀ (k:Nat) (h1:k<a.length) (h2:k<b.length),body k=some (bif decide (a[k]=b[k]) then .inl (wr (k+1)) else .inr (.inr false))) (he:body a.length=some (.inr (.inl ()))):
  Option.bind (Lp body 0) (fun y=>Sum.elim (fun _=>some true) (fun y=>some y) y)=some (decide (a=b)):=by
 have key: ∀ (P:Nat→Bool),(∀ (k:Nat) (h1:k<a.length) (h2:k<b.length),P k=decide (a[k]=b[k]))→Lp body 0=some (bif (List.range a.length).all P then .inl () else .inr false)→Option.bind (Lp body 0) (fun y=>Sum.elim (fun _=>some true) (fun y=>some y) y)=some (decide (a=b)):=by
  intro P hP e
  rw [e,Option.bind_some]
  have:(List.range a.length).all P=decide (a=b):=by
   rw [Bool.eq_iff_iff,vB,decide_eq_true_eq]
   constructor
   ·intro h
    refine List.ext_getElem hab fun k h1 h2=>?_
    have:=h k h1
    rw [hP k h1 h2] at this
    exact of_decide_eq_true this
   ·rintro rfl k hk;rw [hP k hk hk];simp
  rw [this]
  cases decide (a=b) <;> rfl
 refine key (fun k=>if h:k<a.length then if h2:k<b.length then decide (a[k]=b[k]) else false else false) (fun k h1 h2=>by rw [dif_pos h1,dif_pos h2]) (wN _ _ hl (fun k hk=>?_) (fun _=>he))
 rw [dif_pos hk,dif_pos (hab▸hk)]
 exact hs k hk (hab▸hk)
theorem wH {α β:Type} {a:List α} {b:List β} :decide ((a.length:Int)=(b.length:Int))=decide (a.length=b.length):=by
 rw [Bool.eq_iff_iff,decide_eq_true_eq,decide_eq_true_eq];omega
theorem aKA {body:Int→Option (Int ⊕ (Unit ⊕ Bool))} {a b:List Int} (hl:a.length≤4611686018427387904)
  (hb:body=fun x=>bif decide (x<(a.length:Int)) then (Option.bind (dY a x) fun v3=>Option.bind (dY b x) fun v4=>bif !decide (v3=v4) then (some (.inr (.inr (false)))) else (some (.inl (wr (x+1))))) else (some (.inr (.inl ())))):
  (bif !decide ((a.length:Int)=(b.length:Int)) then some false else Option.bind (Lp body 0) (fun y=>Sum.elim (fun _=>some true) (fun y=>some y) y))=some (decide (a=b)):=by
 rw [wH]
 by_cases h:a.length=b.length
 ·rw [decide_eq_true h,Bool.not_true,cond_false]
  refine yE hl h (fun k h1 h2=>?_) ?_
  ·rw [hb]
   simp only
   rw [kT h1,cond_true,eA h1,Option.bind_some,eA h2,Option.bind_some]
   cases decide (a[k]=b[k]) <;> rfl
  ·rw [hb]
   simp only
   rw [oF (Nat.le_refl _),cond_false]
 ·rw [decide_eq_false h,Bool.not_false,cond_true,decide_eq_false (by rintro rfl;exact h rfl)]
theorem gE {c d:Bool} {o:Option Bool} (h:c=true→o=some d):(bif !c then some false else o)=some (c&&d):=by cases c with|false=>rfl|true=>exact h rfl
theorem aPf {a b:List Int} (h:bI a):kY a b=some (decide (a=b)):=by
 unfold bI at h
 exact aKA (body:=vH a b) (by omega) rfl
theorem aGa {d:Bool} :(bif !d then some false else some true)=some d:=by cases d <;> rfl
theorem aTX {a b:Qv} (h:bQ a):rS a b=some (decide (a=b)):=by
 unfold rS
 rw [gE (d:=decide (a.src=b.src)&&decide (a.tgt=b.tgt)) (fun _=>?_)]
 ·cases a;cases b;simp [Bool.and_assoc]
 ·rw [aPf h.1,Option.bind_some]
  refine gE fun _=>?_
  rw [aPf h.2.1,Option.bind_some,aGa]
theorem aTY {a b:Mt} (h:bM a):rT a b=some (decide (a=b)):=by
 unfold rT
 rw [gE (d:=decide (a.cols=b.cols)&&decide (a.cells=b.cells)) (fun _=>?_)]
 ·cases a;cases b;simp [Bool.and_assoc]
 ·refine gE fun _=>?_
  rw [aPf h.1,Option.bind_some,aGa]
theorem aSj {a b:List Mt} (h:a.length≤1048576∧ ∀ m∈a,bM m):qN a b=some (decide (a=b)):=by
 obtain ⟨h,hb⟩:=h
 unfold qN
 rw [wH]
 by_cases e:a.length=b.length
 ·rw [decide_eq_true e,Bool.not_true,cond_false]
  refine yE (by omega) e (fun k h1 h2=>?_) ?_
  ·unfold lI
   rw [kT h1,cond_true,eA h1,Option.bind_some,eA h2,Option.bind_some,aTY (hb _ (List.getElem_mem h1)),Option.bind_some]
   cases decide (a[k]=b[k]) <;> rfl
  ·unfold lI
   rw [oF (Nat.le_refl _),cond_false]
 ·rw [decide_eq_false e,Bool.not_false,cond_true,decide_eq_false (by rintro rfl;exact e rfl)]
theorem aTZ {a b:Rp} (h:bR a):xJ a b=some (decide (a=b)):=by
 unfold xJ
 rw [gE (d:=decide (a.q=b.q)&&(decide (a.dims=b.dims)&&decide (a.maps=b.maps))) (fun _=>?_)]
 ·cases a;cases b;simp [Bool.and_assoc]
 ·rw [aTX h.1,Option.bind_some]
  refine gE fun _=>?_
  rw [aPf h.2.1,Option.bind_some]
  refine gE fun _=>?_
  rw [aSj h.2.2.1,Option.bind_some,aGa]
end
noncomputable section
theorem iA {c d:Bool} {o:Option Bool} (h:c=true→o=some d):(bif c then o else some false)=some (c&&d):=by cases c with|false=>rfl|true=>exact h rfl
theorem yF {c d:Bool} :(bif c then some d else some false)=some (c&&d):=by cases c <;> rfl
theorem aNV {x a b:Int} :(bif decide (a≤x) then some (decide (x≤b)) else some false)=some (tN x a b):=by
 rw [yF]
 unfold tN
 by_cases h1:a≤x <;> by_cases h2:x≤b <;> simp [h1,h2]
theorem wI (x a b:Int):hO x a b=some (tN x a b):=aNV
theorem vI (x a b:Int):fU x a b=some (tN x a b):=aNV
theorem aLK (p:Int):(bif decide (p=2) then some true else bif decide (p=3) then some true else some (decide (p=5)))=some (lE p):=by
 unfold lE
 by_cases h2:p=2 <;> by_cases h3:p=3 <;> by_cases h5:p=5 <;> simp [h2,h3,h5]
theorem aDs (p:Int):iE p=some (lE p):=aLK p
theorem aCA (p:Int):iH p=some (lE p):=aLK p
theorem aSk {a b:List Int} (h:bI a):aIO a b=some (decide (a=b)):=by
 unfold bI at h
 exact aKA (body:=aAX a b) (by omega) rfl
theorem aOG {a b:List Int} (h:bI a):lU a b=some (decide (a=b)):=by
 unfold bI at h
 exact aKA (body:=jG a b) (by omega) rfl
theorem aEv (p:Int) {v:List Int} (h:bI v):gQ p v=some (lE p&&decide (v.length≤64)&&v.all fun x=>tN x 0 (wr (p - 1))):=by
 unfold bI at h
 unfold gQ
 rw [aDs,Option.bind_some]
 cases lE p with
 |false=>rfl
 |true=>
  rw [Bool.not_true,cond_false,Bool.true_and]
  by_cases h64:v.length≤64
  ·rw [decide_eq_false (by omega),cond_false,decide_eq_true h64,Bool.true_and]
   rw [wN (fun k=>tN (v[k]?.getD 0) 0 (wr (p - 1))) false (n:=v.length) (by omega) (fun k hk=>?_) (fun _=>?_),xU 0 v (fun x=>tN x 0 (wr (p - 1))),Option.bind_some]
   ·cases v.all _ <;> rfl
   ·unfold mP
    rw [kT hk,cond_true,vA 0 hk,Option.bind_some,vI,Option.bind_some]
    cases tN _ 0 _ <;> rfl
   ·unfold mP
    rw [oF (Nat.le_refl _),cond_false]
  ·rw [decide_eq_true (by omega),cond_true,decide_eq_false h64,Bool.false_and]
theorem aLL {v:List Int} {f:Int→Option Bool} (P:Int→Bool) (hf: ∀ x,f x=some (P x)) (h:bI v): ∃ i:Int,dV v f=some i∧decide (0≤i)=v.any P:=by
 unfold bI at h
 unfold dV
 rw [aEf (s0:=0) (s:=0) (n:=v.length) (fun k=>bif P (v[k]?.getD 0) then some (k:Int) else none) rfl (by omega) (Nat.zero_le _) (fun k _ hk=>?_) (fun _=>?_)]
 ·rw [Option.bind_some]
  cases e:(List.range' 0 (v.length - 0)).findSome? (fun k:Nat=>bif P (v[k]?.getD 0) then some (k:Int) else none) with
  |none=>
   refine ⟨-1,rfl,?_⟩
   rw [List.findSome?_eq_none_iff] at e
   have:v.any P=false:=by
    rw [List.any_eq_false]
    intro x hx
    obtain ⟨k,hk,rfl⟩:=List.mem_iff_getElem.1 hx
    have:=e k (by simp;omega)
    simp only [List.getElem?_eq_getElem hk,Option.getD_some] at this
    cases hp:P v[k] with
    |false=>simp
    |true=>rw [hp] at this;cases this
   rw [this];rfl
  |some i=>
   refine ⟨i,rfl,?_⟩
   obtain ⟨k,hk,he⟩:=List.exists_of_findSome?_eq_some e
   simp at hk
   have hkl:k<v.length:=by omega
   rw [List.getElem?_eq_getElem hkl] at he
   simp only [Option.getD_some] at he
   cases hp:P v[k] with
   |false=>rw [hp] at he;cases he
   |true=>
    rw [hp] at he
    cases he
    rw [decide_eq_true (by omega),eq_comm,List.any_eq_true]
    exact ⟨_,List.getElem_mem hkl,hp⟩
 ·unfold dC
  rw [kT hk,cond_true,vA 0 hk,Option.bind_some,hf,Option.bind_some]
  cases P _ <;> rfl
 ·unfold dC
  rw [oF (Nat.le_refl _),cond_false]
theorem wJ {v:List Int} (h:bI v) (a b:Int):gD v a b=some (v.all fun x=>tN x a b):=by
 unfold gD gY
 obtain ⟨i,h1,h2⟩:=aLL (f:=fun b0=>jJ b0 a b) (fun x=> !tN x a b) (fun x=>by simp only [jJ];rw [wI,Option.bind_some]) h
 rw [h1,Option.bind_some,Option.bind_some,h2,List.not_any_eq_all_not]
 simp
theorem aJG (p:Int) {v:List Int} (h:bI v):nP p v=some (lE p&&decide (v.length≤64)&&v.all fun x=>tN x 0 (wr (p - 1))):=by
 unfold nP
 rw [aCA,Option.bind_some,wJ h,Option.bind_some,yF,yF,Bool.and_assoc]
 congr 3
 rw [Bool.eq_iff_iff,decide_eq_true_eq,decide_eq_true_eq];omega
def aCH (p:Int) (m:Mt):Bool:=tN m.rows 0 8&&(tN m.cols 0 8&&(decide ((m.cells.length:Int)=wr (m.rows*m.cols))&&(lE p&&decide (m.cells.length≤64)&&m.cells.all fun x=>tN x 0 (wr (p - 1)))))
theorem aEw (p:Int) {m:Mt} (h:bM m):kE p m=some (aCH p m):=by
 unfold kE aCH
 rw [vI,Option.bind_some]
 refine iA fun _=>?_
 rw [vI,Option.bind_some]
 refine iA fun _=>?_
 refine iA fun _=>?_
 rw [aEv p h.1,Option.bind_some]
theorem aOH (p:Int) {m:Mt} (h:bM m):rL p m=some (aCH p m):=by
 unfold rL aCH
 rw [wI,Option.bind_some]
 refine iA fun _=>?_
 rw [wI,Option.bind_some]
 refine iA fun _=>?_
 refine iA fun _=>?_
 rw [aJG p h.1,Option.bind_some]
theorem aMc {p:Int} {m:Mt} (h:aCH p m=true):lE p=true∧ ∃ (r c:Nat) (F:Nat→Nat→Int),r≤8∧c≤8∧m=⟨r,c,dI r c F⟩∧ ∀ i j,i<r→j<c→0≤F i j∧F i j<p:=by
 unfold aCH at h
 simp only [Bool.and_eq_true,decide_eq_true_eq,List.all_eq_true] at h
 obtain ⟨h1,h2,h3,⟨h4,h5⟩,h6⟩:=h
 have h1:=iS h1
 have h2:=iS h2
 refine ⟨h4,m.rows.toNat,m.cols.toNat,fun i j=>m.cells[i*m.cols.toNat+j]?.getD 0,by omega,by omega,?_,?_⟩
 ·obtain ⟨a,b,l⟩:=m
  simp only at*
  obtain ⟨r,rfl⟩:=Int.eq_ofNat_of_zero_le h1.1
  obtain ⟨c,rfl⟩:=Int.eq_ofNat_of_zero_le h2.1
  have hb:r*c≤64:=Nat.mul_le_mul (by omega:r≤8) (by omega:c≤8)
  rw [aKy (by omega)] at h3
  simp only [Int.toNat_natCast]
  rw [←aQr (by omega)]
 ·intro i j hi hj
  show 0≤m.cells[i*m.cols.toNat+j]?.getD 0∧m.cells[i*m.cols.toNat+j]?.getD 0<p
  have hx:=aNO hi hj
  have e:((m.rows.toNat*m.cols.toNat:Nat):Int)=m.rows*m.cols:=by
   rw [Int.natCast_mul,Int.toNat_of_nonneg h1.1,Int.toNat_of_nonneg h2.1]
  have hb:m.rows.toNat*m.cols.toNat≤64:=Nat.mul_le_mul (by omega:m.rows.toNat≤8) (by omega:m.cols.toNat≤8)
  rw [fJ (by omega)] at h3
  have hl:i*m.cols.toNat+j<m.cells.length:=by omega
  have:=iS (h6 _ (List.getElem_mem hl))
  rw [List.getElem?_eq_getElem hl,Option.getD_some]
  have hp:=gH h4
  rw [fJ (by omega)] at this
  omega
def aFe (q:Qv):Bool:=tN q.n 1 5&&(decide ((q.src.length:Int)=(q.tgt.length:Int))&&(decide ((q.src.length:Int)≤6)&&((q.src.all fun x=>tN x 0 (wr (q.n - 1)))&&(q.tgt.all fun x=>tN x 0 (wr (q.n - 1))))))
theorem aRH {q:Qv} (h:bQ q):rM q=some (aFe q):=by
 unfold rM aFe
 rw [wI,Option.bind_some]
 refine iA fun _=>iA fun _=>iA fun _=>?_
 rw [wJ h.1,Option.bind_some]
 refine iA fun _=>?_
 rw [wJ h.2.1,Option.bind_some]
theorem aRI {q:Qv} (h:bQ q):rI q=some (aFe q):=by
 obtain ⟨h1,h2,_⟩:=h
 unfold bI at h1 h2
 unfold rI
 rw [wN (n:=min q.src.length q.tgt.length) (fun k=>tN (q.src[k]?.getD 0) 0 (wr (q.n - 1))&&tN (q.tgt[k]?.getD 0) 0 (wr (q.n - 1))) false (by omega) (fun k hk=>?_) (fun _=>?_)]
 ·rw [Option.bind_some]
  unfold aFe
  by_cases e:q.src.length=q.tgt.length
  ·have e2:min q.src.length q.tgt.length=q.src.length:=by omega
   have hall:(List.range q.src.length).all (fun k=>tN (q.src[k]?.getD 0) 0 (wr (q.n - 1))&&tN (q.tgt[k]?.getD 0) 0 (wr (q.n - 1)))=((q.src.all fun x=>tN x 0 (wr (q.n - 1)))&&(q.tgt.all fun x=>tN x 0 (wr (q.n - 1)))):=by
    rw [←xU 0 q.src,←xU 0 q.tgt,←e]
    rw [Bool.eq_iff_iff,Bool.and_eq_true,vB,vB,vB]
    simp only [Bool.and_eq_true]
    exact ⟨fun h=>⟨fun k hk=>(h k hk).1,fun k hk=>(h k hk).2⟩,fun h k hk=>⟨h.1 k hk,h.2 k hk⟩⟩
   rw [e2,hall,decide_eq_true (by omega:(q.src.length:Int)=(q.tgt.length:Int))]
   cases (q.src.all fun x=>tN x 0 (wr (q.n - 1)))&&(q.tgt.all fun x=>tN x 0 (wr (q.n - 1))) with
   |false=>simp
   |true=>
    simp only [cond_true,Sum.elim_inl]
    rw [vI,Option.bind_some,decide_eq_true (by omega:(q.tgt.length:Int)=(q.src.length:Int)),yF,yF]
    simp
  ·rw [decide_eq_false (by omega: ¬ (q.src.length:Int)=(q.tgt.length:Int))]
   simp only [Bool.false_and,Bool.and_false]
   cases (List.range (min q.src.length q.tgt.length)).all _ with
   |false=>rfl
   |true=>
    simp only [cond_true,Sum.elim_inl]
    rw [vI,Option.bind_some,decide_eq_false (by omega: ¬ (q.tgt.length:Int)=(q.src.length:Int)),yF,yF]
    simp
 ·unfold mO
  rw [kT (by omega),cond_true,kT (by omega),cond_true,vA 0 (by omega),Option.bind_some,vI,Option.bind_some,vA 0 (by omega),Option.bind_some,vI,Option.bind_some]
  cases tN (q.src[k]?.getD 0) 0 (wr (q.n - 1)) <;> cases tN (q.tgt[k]?.getD 0) 0 (wr (q.n - 1)) <;> rfl
 ·unfold mO
  by_cases e:q.src.length≤q.tgt.length
  ·rw [oF (by omega),cond_false]
  ·rw [kT (by omega),cond_true,oF (by omega),cond_false]
theorem aBV {q:Qv} (h:aFe q=true): ∃ n:Nat,q.n=n∧1≤n∧n≤5∧q.src.length=q.tgt.length∧q.src.length≤6∧(∀ x∈q.src,0≤x∧x<n)∧ ∀ x∈q.tgt,0≤x∧x<n:=by
 unfold aFe at h
 simp only [Bool.and_eq_true,decide_eq_true_eq,List.all_eq_true] at h
 obtain ⟨h1,h2,h3,h4,h5⟩:=h
 have h1:=iS h1
 rw [fJ (by omega)] at h4 h5
 refine ⟨q.n.toNat,by omega,by omega,by omega,by omega,by omega,fun x hx=>?_,fun x hx=>?_⟩
 ·have:=iS (h4 x hx);omega
 ·have:=iS (h5 x hx);omega
def aFf (q:Qv) (d:List Int):Bool:=aFe q&&(decide ((d.length:Int)=q.n)&&((d.all fun x=>tN x 0 4)&&decide (d.sum≤8)))
theorem aMd {d:List Int} (h: ∀ x∈d,0≤x∧x≤4):0≤d.sum∧d.sum≤4*d.length:=by
 induction d with
 |nil=>simp
 |cons x d ih=>
  have h1:=h x (by simp)
  have h2:=ih fun y hy=>h y (by simp [hy])
  simp only [List.sum_cons,List.length_cons]
  omega
theorem aBW {d:List Int} {k:Nat} (hk:k<d.length):(d.take (k+1)).sum=(d.take k).sum +d[k]?.getD 0:=by
 rw [List.take_succ_eq_append_getElem hk,List.sum_append]
 simp [hk]
theorem aNW {d:List Int} (h: ∀ x∈d,0≤x∧x≤4) (hl:d.length≤1048576):tW d=some d.sum:=by
 unfold tW
 rw [fK (r:=d.sum) (fun k=>((d.take k).sum,(k:Int))) d.length (by simp) (fun k hk=>?_) (fun _=>?_)];rfl
 ·unfold rH
  simp only
  rw [kT hk,cond_true,vA 0 hk,Option.bind_some,dO hk (by omega)]
  have h1:=aMd (d:=d.take (k+1)) fun x hx=>h x (List.mem_of_mem_take hx)
  rw [←aBW hk,fJ (by simp at h1;omega)]
 ·unfold rH
  simp only
  rw [oF (Nat.le_refl _),cond_false,List.take_length]
theorem aMe {q:Qv} {d:List Int} (hq:bQ q) (hd:bI d):uA q d=some (aFf q d):=by
 unfold uA aFf
 rw [aRH hq,Option.bind_some]
 refine iA fun _=>iA fun _=>?_
 rw [wJ hd,Option.bind_some]
 refine iA fun h=>?_
 rw [aNW (fun x hx=>iS (List.all_eq_true.1 h x hx)) hd,Option.bind_some]
theorem aMf {q:Qv} {d:List Int} (hq:bQ q) (hd:bI d):tY q d=some (aFf q d):=by
 unfold bI at hd
 unfold tY aFf
 rw [aRI hq,Option.bind_some]
 refine gE fun _=>gE fun _=>?_
 cases hall:d.all (fun x=>tN x 0 4) with
 |true=>
  have hb: ∀ x∈d,0≤x∧x≤4:=fun x hx=>iS (List.all_eq_true.1 hall x hx)
  rw [fK (r:= .inl d.sum) (fun k=>((d.take k).sum,(k:Int))) d.length (by simp) (fun k hk=>?_) (fun _=>?_)];rfl
  ·unfold iQ
   simp only
   rw [kT hk,cond_true,vA 0 hk,Option.bind_some,vI,Option.bind_some]
   have hin:tN (d[k]?.getD 0) 0 4=true:=by rw [List.getElem?_eq_getElem hk];exact List.all_eq_true.1 hall _ (List.getElem_mem hk)
   rw [hin,Bool.not_true,cond_false,Option.bind_some,dO hk (by omega)]
   have h1:=aMd (d:=d.take (k+1)) fun x hx=>hb x (List.mem_of_mem_take hx)
   rw [←aBW hk,fJ (by simp at h1;omega)]
  ·unfold iQ
   simp only
   rw [oF (Nat.le_refl _),cond_false,List.take_length]
 |false=>
  have key:=aNM (body:=iQ d) (s:=(0,0)) (fun s=> ∃ k:Nat,s.2=k∧k≤d.length∧ ∀ j,j<k→tN (d[j]?.getD 0) 0 4=true) (fun s=>d.length - s.2.toNat) (fun r=>r= .inr false)
   ⟨0,rfl,Nat.zero_le _,fun j hj=>absurd hj (Nat.not_lt_zero _)⟩ (fun s ⟨k,hs,hk,hj⟩=>?_)
  ·obtain ⟨r,h1,h2⟩:=key
   rw [h1,h2];rfl
  ·obtain ⟨t,s2⟩:=s
   simp only at hs
   subst hs
   rcases Nat.lt_or_ge k d.length with hlt|hge
   ·unfold iQ
    simp only
    rw [kT hlt,cond_true,vA 0 hlt,Option.bind_some,vI,Option.bind_some]
    cases hin:tN (d[k]?.getD 0) 0 4 with
    |false=>exact .inr ⟨_,rfl,rfl⟩
    |true=>
     rw [Bool.not_true,cond_false,Option.bind_some,dO hlt (by omega)]
     refine .inl ⟨_,rfl,⟨k+1,rfl,hlt,fun j hj2=>?_⟩,by simp;omega⟩
     by_cases e:j=k
     ·subst e;exact hin
     ·exact hj j (by omega)
   ·exfalso
    have:d.all (fun x=>tN x 0 4)=true:=by
     rw [←xU 0 d,vB];exact fun j hj'=>hj j (by omega)
    rw [hall] at this;cases this
theorem aBX {q:Qv} {d:List Int} (h:aFf q d=true):aFe q=true∧(d.length:Int)=q.n∧(∀ x∈d,0≤x∧x≤4)∧d.sum≤8:=by
 unfold aFf at h
 simp only [Bool.and_eq_true,decide_eq_true_eq,List.all_eq_true] at h
 exact ⟨h.1,h.2.1,fun x hx=>iS (h.2.2.1 x hx),h.2.2.2⟩
def aEx (r:Rp):Bool:=lE r.p&&(aFf r.q r.dims&&(decide ((r.maps.length:Int)=(r.q.src.length:Int))&&(List.range r.maps.length).all fun k=>
 aCH r.p (r.maps[k]?.getD ⟨0,0,[]⟩)&&(decide ((r.maps[k]?.getD ⟨0,0,[]⟩).cols=r.dims[(r.q.src[k]?.getD 0).toNat]?.getD 0)&&decide ((r.maps[k]?.getD ⟨0,0,[]⟩).rows=r.dims[(r.q.tgt[k]?.getD 0).toNat]?.getD 0))))
theorem eV {α:Type} {l:List α} {k:Nat} (d:α) (h:k<l.length):l[k]?.getD d∈l:=by rw [List.getElem?_eq_getElem h];exact List.getElem_mem h
theorem aJH {r:Rp} (h:bR r):tZ r=some (aEx r):=by
 obtain ⟨h1,h2,⟨h3,h4⟩,_⟩:=h
 unfold tZ aEx
 rw [aDs,Option.bind_some]
 refine gE fun hF=>?_
 rw [aMf h1 h2,Option.bind_some]
 refine gE fun hD=>?_
 obtain ⟨hQ,hd1,hd2,_⟩:=aBX hD
 obtain ⟨n,hn,_,_,hq1,hq2,hq3,hq4⟩:=aBV hQ
 refine gE fun hL=>?_
 have hL:=of_decide_eq_true hL
 rw [wN (fun k=>aCH r.p (r.maps[k]?.getD ⟨0,0,[]⟩)&&(decide ((r.maps[k]?.getD ⟨0,0,[]⟩).cols=r.dims[(r.q.src[k]?.getD 0).toNat]?.getD 0)&&decide ((r.maps[k]?.getD ⟨0,0,[]⟩).rows=r.dims[(r.q.tgt[k]?.getD 0).toNat]?.getD 0))) false (n:=r.maps.length) (by omega) (fun k hk=>?_) (fun _=>?_),Option.bind_some]
 ·cases (List.range r.maps.length).all _ <;> rfl
 ·have hs:=hq3 _ (eV 0 (show k<r.q.src.length by omega))
  have ht:=hq4 _ (eV 0 (show k<r.q.tgt.length by omega))
  unfold rK
  rw [kT hk,cond_true,vA ⟨0,0,[]⟩ hk,Option.bind_some,aEw _ (h4 _ (eV _ hk)),Option.bind_some,Option.bind_some,vA 0 (by omega),Option.bind_some,atI 0 hs.1 (by omega),Option.bind_some,Option.bind_some,vA 0 (by omega),Option.bind_some,atI 0 ht.1 (by omega),Option.bind_some]
  cases aCH r.p _ <;> cases decide ((r.maps[k]?.getD _).cols=_) <;> cases decide ((r.maps[k]?.getD _).rows=_) <;> rfl
 ·unfold rK
  rw [oF (Nat.le_refl _),cond_false]
theorem aJI {r:Rp} (h:bR r):uB r=some (aEx r):=by
 obtain ⟨h1,h2,⟨h3,h4⟩,_⟩:=h
 unfold uB aEx
 rw [aCA,Option.bind_some]
 refine gE fun hF=>?_
 rw [aMe h1 h2,Option.bind_some]
 refine gE fun hD=>?_
 obtain ⟨hQ,hd1,hd2,_⟩:=aBX hD
 obtain ⟨n,hn,_,_,hq1,hq2,hq3,hq4⟩:=aBV hQ
 refine gE fun hL=>?_
 have hL:=of_decide_eq_true hL
 rw [wN (fun k=>aCH r.p (r.maps[k]?.getD ⟨0,0,[]⟩)&&(decide ((r.maps[k]?.getD ⟨0,0,[]⟩).cols=r.dims[(r.q.src[k]?.getD 0).toNat]?.getD 0)&&decide ((r.maps[k]?.getD ⟨0,0,[]⟩).rows=r.dims[(r.q.tgt[k]?.getD 0).toNat]?.getD 0))) false (n:=r.maps.length) (by omega) (fun k hk=>?_) (fun _=>?_),Option.bind_some]
 ·cases (List.range r.maps.length).all _ <;> rfl
 ·have hs:=hq3 _ (eV 0 (show k<r.q.src.length by omega))
  have ht:=hq4 _ (eV 0 (show k<r.q.tgt.length by omega))
  unfold rN
  rw [kT hk,cond_true,vA ⟨0,0,[]⟩ hk,Option.bind_some,aOH _ (h4 _ (eV _ hk)),Option.bind_some,vA 0 (by omega),Option.bind_some,atI 0 hs.1 (by omega),Option.bind_some,vA 0 (by omega),Option.bind_some,atI 0 ht.1 (by omega),Option.bind_some]
  cases aCH r.p _ <;> cases decide ((r.maps[k]?.getD _).cols=_) <;> cases decide ((r.maps[k]?.getD _).rows=_) <;> rfl
 ·unfold rN
  rw [oF (Nat.le_refl _),cond_false]
end
noncomputable section
theorem aKB {a b:Int} (ha:0≤a∧a≤5) (hb:0≤b∧b≤5):0≤a*b∧a*b≤25:=by
 refine ⟨Int.mul_nonneg ha.1 hb.1,?_⟩
 have:=Int.mul_le_mul ha.2 hb.2 hb.1 (by decide:(0:Int)≤5)
 omega
theorem zN {x p:Int} (hp:lE p=true):0≤x % p∧x % p<p:=by
 have:=gH hp
 exact ⟨Int.emod_nonneg _ (by omega),Int.emod_lt_of_pos _ (by omega)⟩
theorem aDt {p x:Int} (hp:lE p=true) (hx: -4611686018427387904≤x∧x≤4611686018427387904):kJ p x=some (x % p):=by
 have hb:=gH hp
 have hr:=aHB x p (by omega)
 unfold kJ
 rw [decide_eq_false (by omega),Bool.not_false,cond_true]
 rcases aHC x p (by omega) with ⟨h,e⟩|⟨h,e⟩
 ·rw [decide_eq_false (by omega),cond_false,e]
 ·rw [decide_eq_true h,cond_true,fJ (by omega),e]
  congr 1
  omega
theorem aLM {p x:Int} (hp:lE p=true):qG p x=some (x % p):=by
 have hb:=gH hp
 have hr:=aHB x p (by omega)
 unfold qG
 rw [aCA,hp,Option.bind_some,Bool.not_true,cond_false,decide_eq_false (by omega),Bool.not_false,cond_true,cond_true,fJ (by omega),aNz _ _ (by omega)]
theorem aMg {p x:Int} (hp:lE p=true) {k:Nat} (hk:k≤1000):rJ p x k=some (aJl p (x % p) k):=by
 have hb:=gH hp
 unfold rJ
 rw [aCA,hp,Option.bind_some,Bool.not_true,cond_false,wI,zX (by omega) (by omega),Option.bind_some,Bool.not_true,cond_false]
 rw [fK (r:=aJl p (x % p) k) (fun t=>(aJl p (x % p) t,(t:Int))) k (by rfl) (fun t ht=>?_) (fun _=>?_),Option.bind_some]
 ·unfold mS
  simp only
  have h1:=aNN hp (zN (x:=x) hp) t
  have h2:=zN (x:=x) hp
  have h3:=aKB (a:=aJl p (x % p) t) (b:=x % p) (by omega) (by omega)
  rw [kT ht,cond_true,aLM hp,Option.bind_some,decide_eq_false (by omega),Bool.not_false,cond_true,dO ht (by omega),fJ (by omega),Int.tmod_eq_emod_of_nonneg h3.1]
  rfl
 ·unfold mS
  simp only
  rw [oF (Nat.le_refl _),cond_false]
theorem aOI {p x:Int} (hp:lE p=true):oV p x=some (aAQ p (x % p)):=by
 have hb:=gH hp
 unfold oV aAQ
 rw [aCA,hp,Option.bind_some,Bool.not_true,cond_false,fJ (by omega)]
 have e:max (p - 2) 1=(((max (p - 2) 1).toNat:Nat):Int):=by omega
 rw [e,aMg hp (by omega),Option.bind_some,Int.toNat_natCast]
theorem aOJ {p x:Int} (hp:lE p=true) (hx: -4611686018427387904≤x∧x≤4611686018427387904):iO p x=some (aAQ p (x % p)):=by
 have hb:=gH hp
 have h2:=zN (x:=x) hp
 obtain ⟨n,hn⟩: ∃ n:Nat,p=n:=⟨p.toNat,by omega⟩
 unfold iO
 rw [aEf (s0:=1) (s:=1) (n:=n) (fun k:Nat=>bif decide ((x % p*k) % p=1) then some (k:Int) else none) rfl (by omega) (by omega) (fun k h1 hk=>?_) (fun _=>?_),Option.bind_some]
 ·cases e:(List.range' 1 (n - 1)).findSome? (fun k:Nat=>bif decide ((x % p*k) % p=1) then some (k:Int) else none) with
  |none=>
   rw [List.findSome?_eq_none_iff] at e
   rw [aPE hp h2 fun y h3 h4 h5=>?_];rfl
   have:=e y (by simp;omega)
   rw [decide_eq_true h5] at this
   cases this
  |some i=>
   obtain ⟨k,hk,he⟩:=List.exists_of_findSome?_eq_some e
   simp at hk
   cases hd:decide ((x % p*k) % p=1) with
   |false=>rw [hd] at he;cases he
   |true=>
    rw [hd] at he
    cases he
    rw [aQp hp h2 (y:=k) (by omega) (of_decide_eq_true hd)];rfl
 ·unfold kN
  have h3:=aKB (a:=x % p) (b:=k) (by omega) (by omega)
  rw [decide_eq_true (by omega),cond_true,aDs,hp,Option.bind_some,cond_true,aDt hp hx,Option.bind_some,fJ (by omega),aDt hp (by omega),Option.bind_some]
  cases decide (x % p*k % p=1) <;> rfl
 ·unfold kN
  rw [decide_eq_false (by omega),cond_false]
theorem aHY {r c i:Nat} (hi:i<r):(i+1)*c≤r*c:=Nat.mul_le_mul_right c hi
theorem ixw {r c i j:Nat} (hN:r*c≤1048576) (hi:i<r) (hj:j<c):wr (wr ((i:Int)*(c:Int))+(j:Int))=((i*c+j:Nat):Int):=wix (by have:=aNO hi hj;omega)
theorem atT {r c i j:Nat} (hN:r*c≤1048576) (hi:i<r) (hj:j<c) (F:Nat→Nat→Int):dY (dI r c F) (wr (wr ((i:Int)*(c:Int))+(j:Int)))=some (F i j):=by rw [ixw hN hi hj,aQq F hi hj]
theorem aOL {r c i j:Nat} (hN:r*c≤1048576) (hi:i<r) (hj:j<c) (F:Nat→Nat→Int) (v:Int):(dI r c F).set (wr (wr ((i:Int)*(c:Int))+(j:Int))).toNat v=dI r c (aEg F i j v):=by rw [ixw hN hi hj,Int.toNat_natCast,aAR F v hi hj]
theorem sU {r c i:Nat} (hN:r*c≤1048576) (hi:i<r):wr ((i:Int)*(c:Int))=((i*c:Nat):Int):=aKy (by have:= @aHY r c i hi;rw [Nat.succ_mul] at this;omega)
theorem vJ {r c i:Nat} (hN:r*c≤1048576) (hr:r≤1048576) (hi:i<r):wr (wr ((i:Int)+1)*(c:Int))=((i*c+c:Nat):Int):=by
 have:= @aHY r c i hi
 rw [dO hi (by omega),aKy (by omega),Nat.succ_mul]
def mB (c:Nat) (f:Nat→Int):List Int:=(List.range c).map f
theorem fN (c:Nat) (f:Nat→Int):(mB c f).length=c:=by simp [mB]
theorem aGb {c:Nat} (f:Nat→Int) {j:Nat} (h:j<c):dY (mB c f) (j:Int)=some (f j):=by rw [eA (by rw [fN];exact h)];simp [mB]
theorem aHZ {r c i:Nat} (hN:r*c≤1048576) (hr:r≤1048576) (hi:i<r) (F:Nat→Nat→Int):dQ ⟨r,c,dI r c F⟩ i=some ():=by
 have:= @aHY r c i hi
 rw [Nat.succ_mul] at this
 unfold dQ
 simp only
 rw [sU hN hi,vJ hN hr hi,iC,decide_eq_true (by omega),decide_eq_true (by omega:((i*c:Nat):Int)≤((i*c+c:Nat):Int)),decide_eq_true (by omega:((i*c+c:Nat):Int)≤((r*c:Nat):Int))]
 rfl
theorem aPg {r c i:Nat} (hN:r*c≤1048576) (hr:r≤1048576) (hi:i<r) (F:Nat→Nat→Int):aCm ⟨r,c,dI r c F⟩ i=some (mB c (F i)):=by
 have h:= @aHY r c i hi
 rw [Nat.succ_mul] at h
 unfold aCm wD aBT
 simp only
 rw [sU hN hi,vJ hN hr hi,iC,decide_eq_true (by omega),decide_eq_true (by omega:((i*c:Nat):Int)≤((i*c+c:Nat):Int)),decide_eq_true (by omega:((i*c+c:Nat):Int)≤((r*c:Nat):Int))]
 simp only [Bool.and_self,cond_true,Int.toNat_natCast]
 congr 1
 refine List.ext_getElem (by simp [iC,fN];omega) fun t h1 h2=>?_
 rw [fN] at h2
 rw [List.getElem_take,List.getElem_drop]
 simp [dI,mB,aHD h2,aHE h2]
def aIS (p:Int) (F:Nat→Nat→Int) (i:Nat) (k:Int) (g:Nat→Int):Nat→Nat→Int:=fun a b=>if a=i then (F i b+k*g b) % p else F a b
theorem gd (x:Nat):(decide (0≤(x:Int))&&true)=true:=by rw [decide_eq_true (by omega)];rfl
theorem aSB {p:Int} (hp:lE p=true):(!decide (p=0))=true:=by have:=gH hp;rw [decide_eq_false (by omega)];rfl
theorem aLN {p:Int} (hp:lE p=true) {r c i:Nat} (hc:c≤1048576) (hi:i<r) {F:Nat→Nat→Int} {g:Nat→Int} {k:Int} (hk:0≤k∧k≤5) (hF: ∀ b,b<c→0≤F i b∧F i b<p) (hg: ∀ b,b<c→0≤g b∧g b<p):
  gW p (dI r c F) (i*c) c k (mB c g)=some (dI r c (aIS p F i k g)):=by
 have hb:=gH hp
 unfold gW
 rw [fK (r:=dI r c (aIS p F i k g)) (fun x=>(dI r c (fun a b=>if a=i∧b<x then (F i b+k*g b) % p else F a b),(x:Int))) c (by simp) (fun x hx=>?_) (fun _=>?_)];rfl
 ·have h1:=hF x hx
  have h2:=hg x hx
  have h3:=aKB hk (show 0≤g x∧g x≤5 by omega)
  unfold jR
  simp only
  rw [fN,kT hx,cond_true,aGb _ hx,Option.bind_some,gd x,cond_true,Int.toNat_natCast,lP _ hi hx,Option.bind_some,aSB hp,cond_true,cond_true,Option.bind_some,aAR _ _ hi hx,dO hx (by omega)]
  rw [if_neg (by omega),fJ (x:=k*g x) (by omega),fJ (by omega),Int.tmod_eq_emod_of_nonneg (by omega)]
  congr 3
  refine dG fun a b ha hb=>?_
  simp only [aEg]
  by_cases e1:a=i∧b=x
  ·obtain ⟨rfl,rfl⟩:=e1
   rw [if_pos ⟨rfl,rfl⟩,if_pos ⟨rfl,by omega⟩]
  ·rw [if_neg e1]
   by_cases e2:a=i∧b<x
   ·rw [if_pos e2,if_pos ⟨e2.1,by omega⟩]
   ·rw [if_neg e2,if_neg (by omega)]
 ·unfold jR
  simp only
  rw [fN,oF (Nat.le_refl _),cond_false]
  congr 2
  refine dG fun a b ha hb=>?_
  simp only [aIS]
  by_cases e:a=i
  ·rw [if_pos ⟨e,hb⟩,if_pos e]
  ·rw [if_neg (by omega),if_neg e]
theorem aOM {p:Int} (hp:lE p=true) {r c i j:Nat} (hc:c≤1048576) (hi:i<r) (hj:j<r) (hij:i≠j) {F:Nat→Nat→Int} {k:Int} (hk:0≤k∧k≤5) (hF: ∀ b,b<c→0≤F i b∧F i b<p) (hg: ∀ b,b<c→0≤F j b∧F j b<p):
  iN p (dI r c F) (i*c) c k (j*c) c=some (dI r c (aIS p F i k (F j))):=by
 have hb:=gH hp
 unfold iN
 rw [fK (r:=dI r c (aIS p F i k (F j))) (fun x=>(dI r c (fun a b=>if a=i∧b<x then (F i b+k*F j b) % p else F a b),(x:Int))) c (by simp) (fun x hx=>?_) (fun _=>?_)];rfl
 ·have h1:=hF x hx
  have h2:=hg x hx
  have h3:=aKB hk (show 0≤F j x∧F j x≤5 by omega)
  unfold gL
  simp only
  rw [kT hx,cond_true,gd x,cond_true,Int.toNat_natCast,lP _ hj hx,Option.bind_some,cond_true,lP _ hi hx,Option.bind_some,aSB hp,cond_true,cond_true,Option.bind_some,aAR _ _ hi hx,dO hx (by omega)]
  rw [if_neg (by omega),if_neg (by omega),fJ (x:=k*F j x) (by omega),fJ (by omega),Int.tmod_eq_emod_of_nonneg (by omega)]
  congr 3
  refine dG fun a b ha hb=>?_
  simp only [aEg]
  by_cases e1:a=i∧b=x
  ·obtain ⟨rfl,rfl⟩:=e1
   rw [if_pos ⟨rfl,rfl⟩,if_pos ⟨rfl,by omega⟩]
  ·rw [if_neg e1]
   by_cases e2:a=i∧b<x
   ·rw [if_pos e2,if_pos ⟨e2.1,by omega⟩]
   ·rw [if_neg e2,if_neg (by omega)]
 ·unfold gL
  simp only
  rw [oF (Nat.le_refl _),cond_false]
  congr 2
  refine dG fun a b ha hb=>?_
  simp only [aIS]
  by_cases e:a=i
  ·rw [if_pos ⟨e,hb⟩,if_pos e]
  ·rw [if_neg (by omega),if_neg e]
theorem aPh {r c:Nat} (hN:r*c≤1048576):(decide (0≤wr ((r:Int)*(c:Int)))&&decide (wr ((r:Int)*(c:Int))≤1048576))=true:=by
 rw [aKy (by omega),decide_eq_true (by omega),decide_eq_true (by omega)];rfl
theorem aPi {r c:Nat} (hN:r*c≤1048576):tK r c=some ⟨r,c,dI r c fun _ _=>0⟩:=by
 unfold tK
 rw [aPh hN,cond_true,aKy (by omega),Int.toNat_natCast,aIp]
theorem aPj {r c:Nat} (hN:r*c≤1048576):vV r c=some ⟨r,c,dI r c fun _ _=>0⟩:=by
 unfold vV
 rw [aPh hN,cond_true,aKy (by omega),Int.toNat_natCast,aIp]
def aGD (F G:Nat→Nat→Int) (i j:Nat):Nat→Int
 |0=>0
 |k+1=>aGD F G i j k+F i k*G k j
def aLO (p:Int) (F G:Nat→Nat→Int) (i j:Nat):Nat→Int
 |0=>0
 |k+1=>(aLO p F G i j k+F i k*G k j) % p
theorem aKC {p:Int} (hp:lE p=true) (F G:Nat→Nat→Int) (i j:Nat): ∀ k,aLO p F G i j k=aGD F G i j k % p
 |0=>by simp [aLO,aGD]
 |k+1=>by rw [aLO,aGD,aKC hp F G i j k];simp [Int.add_emod]
theorem aKD {p:Int} (hp:lE p=true) {F G:Nat→Nat→Int} {i j:Nat} : ∀ {k:Nat},(∀ t,t<k→0≤F i t∧F i t<p)→(∀ t,t<k→0≤G t j∧G t j<p)→0≤aGD F G i j k∧aGD F G i j k≤25*k
 |0,_,_=>by simp [aGD]
 |k+1,hF,hG=>by
  have hb:=gH hp
  have h:=aKD hp (k:=k) (fun t ht=>hF t (by omega)) (fun t ht=>hG t (by omega))
  have h1:=hF k (by omega)
  have h2:=hG k (by omega)
  have h3:=aKB (a:=F i k) (b:=G k j) (by omega) (by omega)
  rw [aGD]
  omega
def aGE (p:Int) (n:Nat) (F G:Nat→Nat→Int):Nat→Nat→Int:=fun i j=>aGD F G i j n % p
theorem aKE {p:Int} (hp:lE p=true) {r n c:Nat} (h1:r*n≤1048576) (h2:n*c≤1048576) (h3:r*c≤1048576) (hr:r≤1048576) (hn:n≤1048576) (hc:c≤1048576) {F G:Nat→Nat→Int} (hF:InP p r n F) (hG:InP p n c G):
  oU p ⟨r,n,dI r n F⟩ ⟨n,c,dI n c G⟩=some ⟨r,c,dI r c (aGE p n F G)⟩:=by
 have hb:=gH hp
 unfold oU
 simp only
 rw [aPj h3,Option.bind_some]
 simp only
 rw [fK (r:=dI r c (aGE p n F G)) (fun i=>(dI r c (fun a b=>if a<i then aGE p n F G a b else 0),(i:Int))) r (by simp) (fun i hi=>?_) (fun _=>?_),Option.bind_some]
 ·unfold kM
  simp only
  rw [kT hi,cond_true]
  rw [fK (r:=dI r c (fun a b=>if a<i+1 then aGE p n F G a b else 0)) (fun j=>(dI r c (fun a b=>if a<i∨(a=i∧b<j) then aGE p n F G a b else 0),(j:Int))) c (by simp) (fun j hj=>?_) (fun _=>?_),Option.bind_some,dO hi (by omega)]
  ·unfold kL
   simp only
   rw [kT hj,cond_true]
   have hbd:=aKD hp (F:=F) (G:=G) (i:=i) (j:=j) (k:=n) (fun t ht=>hF i t hi ht) (fun t ht=>hG t j ht hj)
   rw [fK (r:=aGD F G i j n) (fun k=>(aGD F G i j k,(k:Int))) n (by simp [aGD]) (fun k hk=>?_) (fun _=>?_),Option.bind_some,aDt hp (by omega),Option.bind_some,atT h3 hi hj,Option.bind_some,aOL h3 hi hj,dO hj (by omega)]
   ·congr 3
    refine dG fun a b ha hb=>?_
    simp only [aEg]
    by_cases e:a=i∧b=j
    ·rw [if_pos e,if_pos (by omega),e.1,e.2];rfl
    ·rw [if_neg e]
     by_cases e2:a<i∨a=i∧b<j
     ·rw [if_pos e2,if_pos (by omega)]
     ·rw [if_neg e2,if_neg (by omega)]
   ·unfold kK
    simp only
    have g1:=hF i k hi hk
    have g2:=hG k j hk hj
    have g3:=aKB (a:=F i k) (b:=G k j) (by omega) (by omega)
    have g4:=aKD hp (F:=F) (G:=G) (i:=i) (j:=j) (k:=k) (fun t ht=>hF i t hi (by omega)) (fun t ht=>hG t j (by omega) hj)
    rw [kT hk,cond_true,atT h1 hi hk,Option.bind_some,atT h2 hk hj,Option.bind_some,dO hk (by omega),fJ (x:=F i k*G k j) (by omega),fJ (by omega)]
    rfl
   ·unfold kK
    simp only
    rw [oF (Nat.le_refl _),cond_false]
  ·unfold kL
   simp only
   rw [oF (Nat.le_refl _),cond_false]
   congr 2
   refine dG fun a b ha hb=>?_
   by_cases e:a<i+1
   ·rw [if_pos e,if_pos (by omega)]
   ·rw [if_neg e,if_neg (by omega)]
 ·unfold kM
  simp only
  rw [oF (Nat.le_refl _),cond_false]
  congr 2
  exact dG fun a b ha hb=>by rw [if_pos ha]
theorem aRJ {p:Int} (hp:lE p=true) {r n c:Nat} (h1:r*n≤1048576) (h2:n*c≤1048576) (h3:r*c≤1048576) (hr:r≤1048576) (hn:n≤1048576) (hc:c≤1048576) {F G:Nat→Nat→Int} (hF:InP p r n F) (hG:InP p n c G):
  xH p ⟨r,n,dI r n F⟩ ⟨n,c,dI n c G⟩=some ⟨r,c,dI r c (aGE p n F G)⟩:=by
 have hb:=gH hp
 have hD: ∀ i j,aLO p F G i j n=aGE p n F G i j:=fun i j=>aKC hp F G i j n
 unfold xH
 simp only
 rw [aPi h3,Option.bind_some]
 simp only
 rw [fK (r:=dI r c (aGE p n F G)) (fun i=>(dI r c (fun a b=>if a<i then aGE p n F G a b else 0),(i:Int))) r (by simp) (fun i hi=>?_) (fun _=>?_),Option.bind_some]
 ·unfold rP
  simp only
  rw [kT hi,cond_true,aPg h1 hr hi,Option.bind_some]
  rw [fK (r:=dI r c (fun a b=>if a<i+1 then aGE p n F G a b else 0)) (fun k=>(dI r c (fun a b=>if a<i then aGE p n F G a b else if a=i then aLO p F G i b k else 0),(k:Int))) n ?_ (fun k hk=>?_) (fun _=>?_),Option.bind_some,dO hi (by omega)]
  ·congr 1
   exact dG fun a b ha hb=>by
    by_cases e:a<i
    ·rw [if_pos e,if_pos e]
    ·rw [if_neg e,if_neg e];simp [aLO]
  ·unfold rO
   simp only
   have g1:=hF i k hi hk
   rw [fN,kT hk,cond_true,aGb _ hk,Option.bind_some,aHZ h3 hr hi,Option.bind_some,aPg h2 hn hk,Option.bind_some,Nat.zero_add,sU h3 hi,vJ h3 hr hi,Int.toNat_natCast,Int.toNat_natCast,show i*c+c - i*c=c by omega]
   rw [aLN hp hc hi (by omega) (fun b hb=>?_) (fun b hb=>hG k b hk hb),Option.bind_some,iC,iC,decide_eq_true rfl,cond_true,dO hk (by omega)]
   ·congr 3
    refine dG fun a b ha hb=>?_
    simp only [aIS]
    by_cases e:a=i
    ·subst e
     simp [aLO]
    ·rw [if_neg e,if_neg e,if_neg e]
   ·rw [if_neg (by omega),if_pos rfl,aKC hp]
    exact zN hp
  ·unfold rO
   simp only
   rw [fN,oF (Nat.le_refl _),cond_false]
   congr 2
   refine dG fun a b ha hb=>?_
   by_cases e:a<i
   ·rw [if_pos e,if_pos (by omega)]
   ·by_cases e2:a=i
    ·subst e2
     rw [if_neg (by omega),if_pos rfl,if_pos (by omega),hD]
    ·rw [if_neg e,if_neg e2,if_neg (by omega)]
 ·unfold rP
  simp only
  rw [oF (Nat.le_refl _),cond_false]
  congr 2
  exact dG fun a b ha hb=>by rw [if_pos ha]
end
noncomputable section
def tL (L:List Nat):List Int:=L.map fun t:Nat=>(t:Int)
theorem mD (L:List Nat):(tL L).length=L.length:=by simp [tL]
theorem aHa {p:Int} {m:Nat} {F:Nat→Nat→Int} {j:Nat} (h:(dD p m F j).2.length=m): ∀ d,dD p m F (j+d)=dD p m F j
 |0=>rfl
 |d+1=>by
  show gI p m (dD p m F (j+d)) (j+d)=_
  rw [aHa h d]
  unfold gI
  rw [if_pos]
  rw [h,Nat.sub_self]
  rfl
def aAs (F:Nat→Nat→Int) (a b x:Nat):Nat→Nat→Int:=fun i y=>if y<x then tI F a b i y else F i y
def xK (p:Int) (F:Nat→Nat→Int) (a:Nat) (s:Int) (x:Nat):Nat→Nat→Int:=fun i y=>if y<x then pP p F a s i y else F i y
def iR (p:Int) (F:Nat→Nat→Int) (a j x:Nat):Nat→Nat→Int:=fun i c=>if i<x then uR p F a j i c else F i c
theorem aJJ {r c a b x:Nat} (F:Nat→Nat→Int):dI r c (aEg (aEg (aAs F a b x) a x (F b x)) b x (F a x))=dI r c (aAs F a b (x+1)):=by
 refine dG fun i y hi hy=>?_
 simp only [aEg,aAs,tI]
 by_cases e:y=x
 ·subst e
  simp only [and_true,Nat.lt_irrefl,if_false,Nat.lt_succ_self,if_true]
  by_cases e1:i=b
  ·rw [if_pos e1]
   by_cases e2:i=a
   ·rw [if_pos e2]
    subst e1;rw [e2]
   ·rw [if_neg e2,if_pos e1]
  ·rw [if_neg e1]
   by_cases e2:i=a
   ·rw [if_pos e2,if_pos e2]
   ·rw [if_neg e2,if_neg e2,if_neg e1]
 ·rw [if_neg (by omega),if_neg (by omega)]
  by_cases e1:y<x
  ·rw [if_pos e1,if_pos (show y<x+1 by omega)]
  ·rw [if_neg e1,if_neg (show ¬ y<x+1 by omega)]
theorem aCB {F:Nat→Nat→Int} {a b x i:Nat} :aAs F a b x i x=F i x:=by simp [aAs]
theorem aHb {p:Int} {F:Nat→Nat→Int} {a x i:Nat} {s:Int} :xK p F a s x i x=F i x:=by simp [xK]
theorem aHc {p:Int} {r c a x:Nat} {s:Int} (F:Nat→Nat→Int):dI r c (aEg (xK p F a s x) a x ((F a x*s) % p))=dI r c (xK p F a s (x+1)):=by
 refine dG fun i y hi hy=>?_
 simp only [aEg,xK,pP]
 by_cases e:y=x
 ·subst e
  simp only [and_true,Nat.lt_irrefl,if_false,Nat.lt_succ_self,if_true]
 ·rw [if_neg (by omega)]
  by_cases e1:y<x
  ·rw [if_pos e1,if_pos (show y<x+1 by omega)]
  ·rw [if_neg e1,if_neg (show ¬ y<x+1 by omega)]
theorem aNX {p r:Int} (hp:lE p=true) (hr:0≤r∧r<p):0≤aAQ p r∧aAQ p r<p:=aNN hp hr _
theorem aLP {p:Int} {m n k r:Nat} {F:Nat→Nat→Int} (h:InP p m n F) (hk:k<m) (hr:r<m):InP p m n (tI F k r):=by
 intro i c hi hc
 unfold tI
 split
 ·exact h r c hr hc
 ·split
  ·exact h k c hk hc
  ·exact h i c hi hc
theorem aJK {p:Int} (hp:lE p=true) {m n k:Nat} {s:Int} {F:Nat→Nat→Int} (h:InP p m n F):InP p m n (pP p F k s):=by
 intro i c hi hc
 unfold pP
 split
 ·exact zN hp
 ·exact h i c hi hc
theorem aON {p:Int} (hp:lE p=true) {m n k j x:Nat} {F:Nat→Nat→Int} (h:InP p m n F):InP p m n (iR p F k j x):=by
 intro i c hi hc
 unfold iR uR
 split
 ·split
  ·rename_i h1 h2;subst h2;exact h _ c hi hc
  ·exact zN hp
 ·exact h i c hi hc
theorem aPk {p:Int} (hp:lE p=true) {m n k j x:Nat} {F:Nat→Nat→Int} (hx:x≠k):dI m n (aIS p (iR p F k j x) x (p - F x j) (iR p F k j x k))=dI m n (iR p F k j (x+1)):=by
 refine dG fun i c hi hc=>?_
 simp only [aIS,iR,uR]
 by_cases e:i=x
 ·subst e
  rw [if_pos rfl,if_neg (Nat.lt_irrefl _),if_pos (Nat.lt_succ_self _),if_neg hx]
  simp only [if_true,ite_self]
  rw [show F i c+(p - F i j)*F k c=(F i c - F i j*F k c)+p*F k c by rw [Int.sub_mul];omega,Int.add_mul_emod_self_left]
 ·rw [if_neg e]
  by_cases e1:i<x
  ·rw [if_pos e1,if_pos (show i<x+1 by omega)]
  ·rw [if_neg e1,if_neg (show ¬ i<x+1 by omega)]
theorem aJL {p:Int} {m n k j:Nat} {F:Nat→Nat→Int} :dI m n (iR p F k j k)=dI m n (iR p F k j (k+1)):=by
 refine dG fun i c hi hc=>?_
 simp only [iR,uR]
 by_cases e:i<k
 ·rw [if_pos e,if_pos (show i<k+1 by omega)]
 ·rw [if_neg e]
  by_cases e1:i=k
  ·subst e1;simp
  ·rw [if_neg (show ¬ i<k+1 by omega)]
theorem aHd {p:Int} {F:Nat→Nat→Int} {k r j:Nat} :fG p F k r j=uR p (pP p (tI F k r) k (aAQ p (F r j))) k j:=rfl
structure Tb (p:Int) (m n:Nat) (F:Nat→Nat→Int):Prop where
 hp:lE p=true
 hN:m*n≤1048576
 hm:m≤1048576
 hn:n≤1048576
 hi:InP p m n F
theorem aSC {p:Int} {m n:Nat} {F:Nat→Nat→Int} (T:Tb p m n F) {j:Nat} (hj:j<n) (L:List Nat) (hL:L.length≤m) (l:List Int):
  Lp (lZ ⟨m,n,l⟩ ((j:Int),dI m n F,tL L)) (((tL L).length:Nat):Int)=some ((iW F j (m - L.length) L.length:Nat):Int):=by
 obtain ⟨hp,hN,hm,hn,hi⟩:=T
 have hle:= @yA F j (m - L.length) L.length
 have hz:= @aCi F j (m - L.length) L.length
 have hh:= @aBs F j (m - L.length) L.length
 generalize iW F j (m - L.length) L.length=r at*
 rw [mD]
 refine fK (fun t=>((L.length+t:Nat):Int)) (r - L.length) (by simp) (fun t ht=>?_) (fun _=>?_)
 ·unfold lZ
  simp only
  rw [kT (by omega),cond_true,aHZ hN hm (by omega),Option.bind_some,sU hN (by omega),vJ hN hm (by omega),Int.toNat_natCast,Int.toNat_natCast,Nat.add_sub_cancel_left,kT hj,gd,cond_true,Nat.zero_add,Int.toNat_natCast,lP _ (by omega) hj,Option.bind_some,
   hz _ (by omega) (by omega),decide_eq_true rfl,cond_true,dO (n:=m) (by omega) (by omega),Nat.add_assoc]
 ·rw [show L.length+(r - L.length)=r by omega]
  unfold lZ
  simp only
  rcases Nat.lt_or_ge r m with h|h
  ·rw [kT h,cond_true,aHZ hN hm h,Option.bind_some,sU hN h,vJ hN hm h,Int.toNat_natCast,Int.toNat_natCast,Nat.add_sub_cancel_left,kT hj,gd,cond_true,Nat.zero_add,Int.toNat_natCast,lP _ h hj,Option.bind_some,
    decide_eq_false (hh (by omega)),cond_false]
  ·rw [oF h,cond_false]
theorem aRK {p:Int} {m n:Nat} {F:Nat→Nat→Int} (T:Tb p m n F) {j:Nat} (hj:j<n) (L:List Nat) (hL:L.length≤m) (l:List Int):
  mA p ⟨m,n,l⟩ ((j:Int),dI m n F,tL L)=some (.inl (((j+1:Nat):Int),dI m n (gI p m (F,L) j).1,tL (gI p m (F,L) j).2)):=by
 have hpv:=aSC T hj L hL l
 obtain ⟨hp,hN,hm,hn,hi⟩:=T
 have hb:=gH hp
 have hle:= @yA F j (m - L.length) L.length
 unfold mA gI
 simp only
 rw [kT hj,cond_true,hpv,Option.bind_some,dO hj (by omega)]
 clear hpv
 generalize iW F j (m - L.length) L.length=r at*
 by_cases hr:r=m
 ·rw [decide_eq_true (by omega),cond_true,if_pos hr]
 ·rw [decide_eq_false (by omega),cond_false,if_neg hr]
  have hk:L.length<m:=by omega
  have hrm:r<m:=by omega
  simp only [mD]
  rw [aHZ hN hm hk,Option.bind_some,sU hN hk,vJ hN hm hk]
  simp only [Int.toNat_natCast,Nat.add_sub_cancel_left,Nat.zero_add]
  rw [fK (r:=dI m n (tI F L.length r)) (fun x=>(dI m n (aAs F L.length r x),(x:Int))) n ?_ (fun x hx=>?_) (fun _=>?_),Option.bind_some,kT hj,gd,cond_true,lP _ hk hj,Option.bind_some]
  ·have e1:tI F L.length r L.length j=F r j:=by simp [tI]
   have hrj:=hi r j hrm hj
   rw [e1,aOI hp,Option.bind_some,Int.emod_eq_of_lt hrj.1 hrj.2]
   have hs:=aNX hp hrj
   rw [aHd]
   generalize aAQ p (F r j)=s at*
   have h1:=aLP hi hk hrm
   generalize tI F L.length r=F1 at*
   rw [fK (r:=dI m n (pP p F1 L.length s)) (fun x=>(dI m n (xK p F1 L.length s x),(x:Int))) n ?_ (fun x hx=>?_) (fun _=>?_),Option.bind_some]
   ·have h2:=aJK hp (k:=L.length) (s:=s) h1
    generalize pP p F1 L.length s=F2 at*
    rw [fK (r:=dI m n (uR p F2 L.length j)) (fun x=>(dI m n (iR p F2 L.length j x),(x:Int))) m ?_ (fun x hx=>?_) (fun _=>?_),Option.bind_some]
    ·rw [decide_eq_true (by simp;omega),cond_true]
     simp [tL]
    ·congr 1
    ·unfold qJ
     simp only [mD]
     rw [kT hx,cond_true]
     by_cases hxk:x=L.length
     ·rw [decide_eq_true (by omega),Bool.not_true,cond_false,dO hx (by omega),hxk,aJL]
     ·rw [decide_eq_false (by omega),Bool.not_false,cond_true,aHZ hN hm hx,Option.bind_some,Option.bind_some,sU hN hx,vJ hN hm hx,sU hN hk,vJ hN hm hk]
      simp only [Int.toNat_natCast,Nat.add_sub_cancel_left,Nat.zero_add]
      rw [kT hj,gd,cond_true,lP _ hx hj,Option.bind_some]
      have e2:iR p F2 L.length j x x j=F2 x j:=by simp [iR]
      have h3:=h2 x j hx hj
      have h4:=aON hp (k:=L.length) (j:=j) (x:=x) h2
      rw [e2,fJ (by omega),aOM hp hn hx hk hxk (by omega) (fun b hb=>h4 _ b hx hb) (fun b hb=>h4 _ b hk hb),Option.bind_some,iC,iC,decide_eq_true rfl,cond_true,dO hx (by omega),aPk hp hxk]
    ·unfold qJ
     simp only
     rw [oF (Nat.le_refl _),cond_false]
     congr 2
     exact dG fun a b ha hb=>by simp only [iR];rw [if_pos ha]
   ·congr 1
   ·unfold qI
    simp only [mD]
    rw [sU hN hk,vJ hN hm hk]
    simp only [Int.toNat_natCast,Nat.add_sub_cancel_left,Nat.zero_add]
    have g1:=h1 _ x hk hx
    have g2:=aKB (a:=F1 L.length x) (b:=s) (by omega) (by omega)
    rw [kT hx,cond_true,gd,cond_true,lP _ hk hx,Option.bind_some,aSB hp,cond_true,cond_true,Option.bind_some,aHb,fJ (by omega),Int.tmod_eq_emod_of_nonneg g2.1,aAR _ _ hk hx,dO hx (by omega),aHc]
   ·unfold qI
    simp only [mD]
    rw [sU hN hk,vJ hN hm hk]
    simp only [Int.toNat_natCast,Nat.add_sub_cancel_left,Nat.zero_add]
    rw [oF (Nat.le_refl _),cond_false]
    congr 2
    exact dG fun a b ha hb=>by simp only [xK];rw [if_pos hb]
  ·congr 1
  ·unfold qH
   simp only [mD]
   rw [kT hx,cond_true,aHZ hN hm hrm,Option.bind_some,Option.bind_some,sU hN hk,vJ hN hm hk,sU hN hrm,vJ hN hm hrm]
   simp only [Int.toNat_natCast,Nat.add_sub_cancel_left,Nat.zero_add]
   rw [kT hx,gd,cond_true,lP _ hrm hx,Option.bind_some,cond_true,lP _ hk hx,Option.bind_some,cond_true,Option.bind_some,cond_true,aAR _ _ hk hx,lP _ hrm hx,Option.bind_some,aAR _ _ hrm hx,aCB,aCB,dO hx (by omega),aJJ]
  ·unfold qH
   simp only
   rw [oF (Nat.le_refl _),cond_false]
   congr 2
   exact dG fun a b ha hb=>by simp only [aAs];rw [if_pos hb]
theorem aKF {p:Int} {m n:Nat} {F:Nat→Nat→Int} (T:Tb p m n F):vW p ⟨m,n,dI m n F⟩=some (⟨m,n,dI m n (dD p m F n).1⟩,tL (dD p m F n).2):=by
 have hN:=T.hN
 have hn:=T.hn
 unfold vW qW tU
 simp only
 rw [iC,decide_eq_true hN,cond_true,Option.bind_some,Option.bind_some]
 simp only
 rw [fK (r:=(dI m n (dD p m F n).1,tL (dD p m F n).2)) (fun j=>((j:Int),dI m n (dD p m F j).1,tL (dD p m F j).2)) n (by simp [dD,tL]) (fun j hj=>?_) (fun _=>?_),Option.bind_some]
 ·show _=some (Sum.inl (((j+1:Nat):Int),dI m n (gI p m (dD p m F j) j).1,tL (gI p m (dD p m F j) j).2):(Int×List Int×List Int) ⊕ (List Int×List Int))
  exact aRK ⟨T.hp,T.hN,T.hm,T.hn,rB (by have:=gH T.hp;omega) T.hi j⟩ hj _ (tJ j) _
 ·unfold mA
  simp only
  rw [oF (Nat.le_refl _),cond_false]
theorem aSD {p:Int} {m n:Nat} {F:Nat→Nat→Int} (T:Tb p m n F) {j:Nat} (hj:j<n) (L:List Nat) (hL:L.length<m) (l:List Int):
  Lp (jH ⟨m,n,l⟩ ((j:Int),dI m n F,tL L,(L.length:Int))) (-1,wr ((m:Int) - 1))=some (if iW F j (m - L.length) L.length=m then -1 else ((iW F j (m - L.length) L.length:Nat):Int)):=by
 obtain ⟨hp,hN,hm,hn,hi⟩:=T
 refine fK (fun t=>(if iW F j t (m - t)=m then -1 else ((iW F j t (m - t):Nat):Int),((m - t:Nat):Int) - 1)) (m - L.length) ?_ (fun t ht=>?_) (fun _=>?_)
 ·simp only [iW,Nat.sub_zero,if_true]
  rw [fJ (by omega)]
 ·unfold jH
  simp only
  have e:((m - t:Nat):Int) - 1=((m - (t+1):Nat):Int):=by omega
  have hi2:m - (t+1)<m:=by omega
  rw [e,decide_eq_true (by omega),cond_true,atT hN hi2 hj,Option.bind_some,fJ (x:=((m - (t+1):Nat):Int) - 1) (by omega)]
  have ep:iW F j (t+1) (m - (t+1))=if F (m - (t+1)) j=0 then iW F j t (m - t) else m - (t+1):=by
   rw [iW,show m - (t+1)+1=m - t by omega]
  rw [ep]
  by_cases h:F (m - (t+1)) j=0
  ·rw [decide_eq_true h,Bool.not_true,cond_false,if_pos h]
  ·rw [decide_eq_false h,Bool.not_false,cond_true,if_neg h,if_neg (by omega)]
 ·rw [show m - (m - L.length)=L.length by omega]
  unfold jH
  simp only
  rw [decide_eq_false (by omega),cond_false]
theorem aRL {p:Int} {m n:Nat} {F:Nat→Nat→Int} (T:Tb p m n F) {j:Nat} (hj:j<n) (L:List Nat) (hL:L.length<m) (l:List Int):
  eY p ⟨m,n,l⟩ ((j:Int),dI m n F,tL L,(L.length:Int))=some (.inl (((j+1:Nat):Int),dI m n (gI p m (F,L) j).1,tL (gI p m (F,L) j).2,((gI p m (F,L) j).2.length:Int))):=by
 have hpv:=aSD T hj L hL l
 obtain ⟨hp,hN,hm,hn,hi⟩:=T
 have hb:=gH hp
 have hle:= @yA F j (m - L.length) L.length
 unfold eY gI
 simp only
 rw [kT hj,cond_true,kT hL,cond_true,hpv,Option.bind_some,dO hj (by omega)]
 clear hpv
 generalize iW F j (m - L.length) L.length=r at*
 have hk:L.length<m:=hL
 by_cases hr:r=m
 ·rw [if_pos hr,if_pos hr,decide_eq_true (by omega),cond_true]
 ·rw [if_neg hr,if_neg hr,decide_eq_false (by omega),cond_false]
  have hrm:r<m:=by omega
  rw [fK (r:=dI m n (tI F L.length r)) (fun x=>(dI m n (aAs F L.length r x),(x:Int))) n ?_ (fun x hx=>?_) (fun _=>?_),Option.bind_some,atT hN hk hj,Option.bind_some]
  ·have e1:tI F L.length r L.length j=F r j:=by simp [tI]
   have hrj:=hi r j hrm hj
   rw [e1,aOJ hp (by omega),Option.bind_some,Int.emod_eq_of_lt hrj.1 hrj.2]
   have hs:=aNX hp hrj
   rw [aHd]
   generalize aAQ p (F r j)=s at*
   have h1:=aLP hi hk hrm
   generalize tI F L.length r=F1 at*
   rw [fK (r:=dI m n (pP p F1 L.length s)) (fun x=>(dI m n (xK p F1 L.length s x),(x:Int))) n ?_ (fun x hx=>?_) (fun _=>?_),Option.bind_some]
   ·have h2:=aJK hp (k:=L.length) (s:=s) h1
    generalize pP p F1 L.length s=F2 at*
    rw [fK (r:=dI m n (uR p F2 L.length j)) (fun x=>(dI m n (iR p F2 L.length j x),(x:Int))) m ?_ (fun x hx=>?_) (fun _=>?_),Option.bind_some]
    ·rw [mD,decide_eq_true (by simp;omega),cond_true,dO hk (by omega)]
     simp [tL]
    ·congr 1
    ·unfold gX
     simp only
     rw [kT hx,cond_true,atT hN hx hj,Option.bind_some,dO hx (by omega)]
     have e2:iR p F2 L.length j x x j=F2 x j:=by simp [iR]
     rw [e2]
     by_cases hxk:x=L.length
     ·rw [vT (r:=dI m n (iR p F2 L.length j x)) ?_,Option.bind_some,hxk,aJL]
      unfold jI
      simp only
      rcases Nat.eq_zero_or_pos n with h0|h0
      ·omega
      ·rw [decide_eq_true (by omega),cond_true,decide_eq_true (by omega),Bool.not_true,cond_false]
     ·rw [fK (r:=dI m n (iR p F2 L.length j (x+1))) (fun y=>(dI m n (fun a c=>if a=x∧c<y then uR p F2 L.length j x c else iR p F2 L.length j x a c),(y:Int))) n (by simp) (fun y hy=>?_) (fun _=>?_),Option.bind_some]
      ·unfold jI
       simp only
       rw [kT hy,cond_true,decide_eq_false (by omega),Bool.not_false,cond_true,atT hN hx hy,Option.bind_some,atT hN hk hy,Option.bind_some]
       have e3:iR p F2 L.length j x x y=F2 x y:=by simp [iR]
       have e4:iR p F2 L.length j x L.length y=F2 L.length y:=by simp [iR,uR]
       rw [if_neg (by omega),if_neg (by omega),e3,e4]
       have g1:=h2 x j hx hj
       have g2:=h2 L.length y hk hy
       have g3:=h2 x y hx hy
       have g4:=aKB (a:=F2 x j) (b:=F2 L.length y) (by omega) (by omega)
       rw [fJ (x:=F2 x j*F2 L.length y) (by omega),fJ (x:=F2 x y - F2 x j*F2 L.length y) (by omega),aDt hp (by omega),Option.bind_some,Option.bind_some,aOL hN hx hy,dO hy (by omega)]
       congr 3
       refine dG fun a c ha hc=>?_
       simp only [aEg]
       by_cases e5:a=x∧c=y
       ·rw [if_pos e5,if_pos (by omega),e5.2]
        simp only [uR]
        rw [if_neg hxk]
       ·rw [if_neg e5]
        by_cases e6:a=x∧c<y
        ·rw [if_pos e6,if_pos (by omega)]
        ·rw [if_neg e6,if_neg (by omega)]
      ·unfold jI
       simp only
       rw [oF (Nat.le_refl _),cond_false]
       congr 2
       refine dG fun a c ha hc=>?_
       simp only [iR]
       by_cases e5:a=x
       ·rw [if_pos ⟨e5,hc⟩,if_pos (by omega),e5]
       ·rw [if_neg (by omega)]
        by_cases e6:a<x
        ·rw [if_pos e6,if_pos (by omega)]
        ·rw [if_neg e6,if_neg (by omega)]
    ·unfold gX
     simp only
     rw [oF (Nat.le_refl _),cond_false]
     congr 2
     exact dG fun a b ha hb=>by simp only [iR];rw [if_pos ha]
   ·congr 1
   ·unfold mR
    simp only
    have g1:=h1 _ x hk hx
    have g2:=aKB (a:=F1 L.length x) (b:=s) (by omega) (by omega)
    rw [kT hx,cond_true,atT hN hk hx,Option.bind_some,aHb,Int.mul_comm,fJ (by omega),aDt hp (by omega),Option.bind_some,Option.bind_some,aOL hN hk hx,dO hx (by omega),aHc]
   ·unfold mR
    simp only
    rw [oF (Nat.le_refl _),cond_false]
    congr 2
    exact dG fun a b ha hb=>by simp only [xK];rw [if_pos hb]
  ·congr 1
  ·unfold mQ
   simp only
   rw [kT hx,cond_true,atT hN hk hx,Option.bind_some,atT hN hrm hx,Option.bind_some,Option.bind_some,aOL hN hk hx,atT hN hrm hx,Option.bind_some,aOL hN hrm hx,aCB,aCB,dO hx (by omega),aJJ]
  ·unfold mQ
   simp only
   rw [oF (Nat.le_refl _),cond_false]
   congr 2
   exact dG fun a b ha hb=>by simp only [aAs];rw [if_pos hb]
theorem aKG {p:Int} {m n:Nat} {F:Nat→Nat→Int} (T:Tb p m n F):kF p ⟨m,n,dI m n F⟩=some (⟨m,n,dI m n (dD p m F n).1⟩,tL (dD p m F n).2):=by
 have hN:=T.hN
 have hn:=T.hn
 unfold kF aAD
 simp only
 rw [iC,decide_eq_true (by simp;omega),cond_true,Option.bind_some]
 simp only [List.nil_append]
 obtain ⟨r,h1,h2⟩: ∃ r,Lp (eY p ⟨m,n,dI m n F⟩) (0,dI m n F,[],0)=some r∧r=(dI m n (dD p m F n).1,tL (dD p m F n).2):=by
  refine aNM (fun s=> ∃ j:Nat,j≤n∧s=((j:Int),dI m n (dD p m F j).1,tL (dD p m F j).2,((dD p m F j).2.length:Int))) (fun s=>n - s.1.toNat) _ ⟨0,Nat.zero_le _,by simp [dD,tL]⟩ ?_
  rintro s ⟨j,hj,rfl⟩
  rcases Nat.lt_or_ge j n with hlt|hge
  ·have hlen:= @tJ p m F j
   rcases Nat.lt_or_ge (dD p m F j).2.length m with hl|hl
   ·refine .inl ⟨_,aRL ⟨T.hp,T.hN,T.hm,T.hn,rB (by have:=gH T.hp;omega) T.hi j⟩ hlt _ hl _,⟨j+1,hlt,rfl⟩,?_⟩
    simp;omega
   ·refine .inr ⟨_,?_,rfl⟩
    unfold eY
    simp only
    have e:=aHa (p:=p) (F:=F) (j:=j) (by omega:(dD p m F j).2.length=m) (n - j)
    rw [show j+(n - j)=n by omega] at e
    rw [kT hlt,cond_true,oF hl,cond_false,e]
  ·have e:j=n:=by omega
   subst e
   refine .inr ⟨_,?_,rfl⟩
   unfold eY
   simp only
   rw [oF (Nat.le_refl _),cond_false]
 rw [h1,h2,Option.bind_some]
end
noncomputable section
set_option maxRecDepth 10000
set_option maxHeartbeats 4000000
def jT (v1:Mt) (v3:(List Int)) (x1:((List Int)×Int)) (x2:((List Int)×Int)):Option (((List Int)×Int) ⊕ (List Int)):=
 bif decide (x2.2<(v3.length:Int)) then
 (Option.bind (dY v3 x2.2) fun v5=>
 Option.bind (dY x2.1 (wr ((wr (x2.2*v1.cols))+x1.2))) fun v6=>
 some (.inl ((x2.1.set ((wr ((wr (x2.2*v1.cols))+x1.2)).toNat) v5),wr (x2.2+1))))
 else
 (some (.inr x2.1))
def jU (a1:(List (List Int))) (v1:Mt) (x1:((List Int)×Int)):Option (((List Int)×Int) ⊕ (List Int)):=
 bif decide (x1.2<(a1.length:Int)) then
 (Option.bind (dY a1 x1.2) fun v3=>
 Option.bind (Lp (jT v1 v3 x1) (x1.1,0)) fun y7=>
 some (.inl (y7,wr (x1.2+1))))
 else
 (some (.inr x1.1))
def jK (a0:Int) (a1:(List (List Int))):Option Mt:=
 Option.bind (tK a0 (a1.length:Int)) fun v1=>
 Option.bind (Lp (jU a1 v1) (v1.cells,0)) fun y8=>
 some ((⟨v1.rows,v1.cols,y8⟩:Mt))
theorem aCp (a0:Int) (a1:(List (List Int))) (r:Mt) (h:jK a0 a1=some r):HasC Tryz.prog 155 [.int a0,.list 1 (a1.map (cL 1 eI))] (.agg (eM r)):=by
 refine bJ aB (rvs:=[.cell 4 113]) (ns:=[0,1,2,3,4]) Tryz.func155 k k Tryz.ntmps155 k k k<|sR<|ae (bV aB k k) k<|an<|tn<|sR<|am k k<|am k k ?_
 refine ln k4 ?_
 obtain ⟨v1,hv1,h⟩:=ob h
 refine ae (AEff.conv (dF (x:= .agg [.int v1.rows,.int v1.cols,.own 1 0 (v1.cells.map eI).length]) (nb:=[(1,⟨1,cM (v1.cells.map eI)⟩)]) (aBU a0 (a1.length:Int) v1 hv1) k (by rfl) k k (bU aJ (bU aJ (bU (dR.good _) gS))) (aD (aO k) (aD (aO k) bD))) (v':= .agg [.int v1.rows,.int v1.cols,.own 1 0 v1.cells.length]) (ed':=[(1,some ⟨1,v1.cells.map (ow eI)⟩)]) (by simp only [aZ]) (fB (nb':=[(1,⟨1,v1.cells.map (ow eI)⟩)]) (by simp only [cW]))) k<|ae (bV aB k k) k<|ae (bK aB k k k k k k k k) k<|an<|tn<|sQ<|sR<|am k k<|ln k4 ?_
 refine am k k<|an<|tn<|aI ?_
 obtain ⟨y8,hy8,h⟩:=ob h
 refine cV (body:=(jU a1 v1)) hy8 (fun (x1:((List Int)×Int))=>bN [(4,.ptr 0 0 0),(5,.ptr 1 0 0),(14,.list 1 (a1.map (cL 1 eI))),(15,.int (a1.length:Int)),(16,.int x1.2)] [(0,⟨3,[[.int 0,.int 0,.nil 1]]⟩),(1,⟨3,[[.int v1.rows,.int v1.cols,.own 2 0 x1.1.length]]⟩),(2,⟨1,x1.1.map (ow eI)⟩)] 3 [3,4]) (fun r e t=>e= .exit 0∧Ent t (bN [(4,.ptr 0 0 0),(5,.ptr 1 0 0)] [(0,⟨3,[[.int 0,.int 0,.nil 1]]⟩),(1,⟨3,[[.int v1.rows,.int v1.cols,.own 2 0 r.length]]⟩),(2,⟨1,r.map (ow eI)⟩)] 3 [3,4])) (aC (σ:=sg [(0,0),(1,2),(2,1)]) ⟨(pE k k),(pE k k),⟨_,k,⟨k,k⟩⟩,(e1 k k),(e1 k k),aJ⟩ (hP k k k k<|hX ⟨_,k,k,.inr ⟨_,_,k,⟨_,_,k,k,⟨_,_,k,k,⟨_,_,k,⟨k,k,k,k⟩,k⟩⟩⟩,k⟩⟩ k<|hI k k k<|aJ) k) ?_ ?_
 ·intro x1 o h
  refine sR<|cm k4<|an<|tn<|sQ ?_
  rcases cb h with ⟨q2,h⟩|⟨q2,h⟩
  ·refine aH k q2<|aQ<|tn<|sQ<|aI<|sR<|am k k ?_
   obtain ⟨v3,hv3,h⟩:=ob h
   refine ae (bF aB hv3 k k k k k k) k<|lr k7<|aa k k<|aT k2<|sR<|am k k<|ln k4 ?_
   refine am k k<|an<|tn<|aI ?_
   obtain ⟨y7,hy7,h⟩:=ob h
   refine cV (body:=(jT v1 v3 x1)) hy7 (fun (x2:((List Int)×Int))=>bN [(4,.ptr 0 0 0),(5,.ptr 1 0 0),(6,.int x1.2),(14,.list 1 (a1.map (cL 1 eI))),(15,.int (a1.length:Int)),(16,.int x1.2),(21,.list 1 (v3.map eI)),(22,.int (v3.length:Int)),(23,.int x2.2)] [(0,⟨3,[[.int 0,.int 0,.nil 1]]⟩),(1,⟨3,[[.int v1.rows,.int v1.cols,.own 2 0 x2.1.length]]⟩),(2,⟨1,x2.1.map (ow eI)⟩)] 3 [3,4]) (fun r e t=>e= .exit 2∧Ent t (bN [(4,.ptr 0 0 0),(5,.ptr 1 0 0),(14,.list 1 (a1.map (cL 1 eI))),(15,.int (a1.length:Int)),(16,.int x1.2)] [(0,⟨3,[[.int 0,.int 0,.nil 1]]⟩),(1,⟨3,[[.int v1.rows,.int v1.cols,.own 2 0 r.length]]⟩),(2,⟨1,r.map (ow eI)⟩)] 3 [3,4])) (aC (σ:=sg [(0,0),(1,1),(2,2)]) ⟨(pE k k),(pE k k),(e1 k k),⟨_,k,⟨k,k⟩⟩,(e1 k k),(e1 k k),⟨_,k,⟨k,k⟩⟩,(e1 k k),(e1 k k),aJ⟩ (hP k k k k<|hX ⟨_,k,k,.inr ⟨_,_,k,⟨_,_,k,k,⟨_,_,k,k,⟨_,_,k,⟨k,k,k,k⟩,k⟩⟩⟩,k⟩⟩ k<|hI k k k<|aJ) k) ?_ ?_
   ·intro x2 o h
    refine sR<|cm k4<|an<|tn<|sQ ?_
    rcases cb h with ⟨q4,h⟩|⟨q4,h⟩
    ·refine aH k q4<|aQ<|tn<|sQ<|aI<|sR<|am k k ?_
     obtain ⟨v5,hv5,h⟩:=ob h
     refine ae (bF aB hv5 k k k k k k) k<|lr k7<|aa k k<|aT k2<|rg<|fp k8<|lp k8<|am k k ?_
     refine fp k8<|lp k8<|ae (gJ k k) k<|am k k<|ae (bT k k) k<|am k k ?_
     obtain ⟨v6,hv6,h⟩:=ob h
     refine ae (cU aB (eF hv6) (dE hv6) k k k k k k k) k<|ae (hJ aB tS (u:=v5) (dJ hv6) k k k k k k) k<|an<|bB<|tn<|aM (t:=bN [(4,.ptr 0 0 0),(5,.ptr 1 0 0),(6,.int x1.2),(14,.list 1 (a1.map (cL 1 eI))),(15,.int (a1.length:Int)),(16,.int x1.2),(21,.list 1 (v3.map eI)),(22,.int (v3.length:Int)),(23,.int x2.2)] [(0,⟨3,[[.int 0,.int 0,.nil 1]]⟩),(1,⟨3,[[.int v1.rows,.int v1.cols,.own 2 0 ((x2.1.set ((wr ((wr (x2.2*v1.cols))+x1.2)).toNat) v5).length)]]⟩),(2,⟨1,List.map (ow eI) (x2.1.set ((wr ((wr (x2.2*v1.cols))+x1.2)).toNat) v5)⟩)] 3 [3,4]) (aC (σ:=sg [(0,0),(1,1),(2,2)]) ⟨(pE k k),(pE k k),(e1 k k),⟨_,k,⟨k,k⟩⟩,(e1 k k),(e1 k k),⟨_,k,⟨k,k⟩⟩,(e1 k k),(e1 k k),aJ⟩ (hP k k k k<|hX ⟨_,k,k,.inr ⟨_,_,k,⟨_,_,k,k,⟨_,_,k,k,⟨_,_,k,⟨k,k,(by simp only [aZ,lA,lT,lR,lC,lN]),k⟩,k⟩⟩⟩,k⟩⟩ k<|hI k k k<|aJ) k)<|rg<|ae (bT k k) k<|am k k<|an ?_
     refine tn ?_
     obtain rfl:=so h
     exact ⟨_,k,(aC (σ:=sg [(0,0),(1,1),(2,2)]) ⟨(pE k k),(pE k k),(e1 k k),⟨_,k,⟨k,k⟩⟩,(e1 k k),(e1 k k),⟨_,k,⟨k,k⟩⟩,(e1 k k),(e1 k k),aJ⟩ (hP k k k k<|hX ⟨_,k,k,.inr ⟨_,_,k,⟨_,_,k,k,⟨_,_,k,k,⟨_,_,k,⟨k,k,k,k⟩,k⟩⟩⟩,k⟩⟩ k<|hI k k k<|aJ) k)⟩
    ·refine aN k q4<|bC<|aE<|aE ?_
     obtain rfl:=so h
     exact ⟨_,k,k,(aC (σ:=sg [(0,0),(1,1),(2,2)]) ⟨(pE k k),(pE k k),⟨_,k,⟨k,k⟩⟩,(e1 k k),(e1 k k),aJ⟩ (hP k k k k<|hX ⟨_,k,k,.inr ⟨_,_,k,⟨_,_,k,k,⟨_,_,k,k,⟨_,_,k,⟨k,k,k,k⟩,k⟩⟩⟩,k⟩⟩ k<|hI k k k<|aJ) k)⟩
   ·rintro e t ⟨rfl,hent⟩
    refine aU<|bB<|tn<|aM hent<|rg<|ae (bT k k) k<|am k k<|an<|tn ?_
    obtain rfl:=so h
    exact ⟨_,k,(aC (σ:=sg [(0,0),(1,1),(2,2)]) ⟨(pE k k),(pE k k),⟨_,k,⟨k,k⟩⟩,(e1 k k),(e1 k k),aJ⟩ (hP k k k k<|hX ⟨_,k,k,.inr ⟨_,_,k,⟨_,_,k,k,⟨_,_,k,k,⟨_,_,k,⟨k,k,k,k⟩,k⟩⟩⟩,k⟩⟩ k<|hI k k k<|aJ) k)⟩
  ·refine aN k q2<|bC<|aE<|aE ?_
   obtain rfl:=so h
   exact ⟨_,k,k,(aC (σ:=sg [(0,0),(1,1),(2,2)]) ⟨(pE k k),(pE k k),aJ⟩ (hP k k k k<|hX ⟨_,k,k,.inr ⟨_,_,k,⟨_,_,k,k,⟨_,_,k,k,⟨_,_,k,⟨k,k,k,k⟩,k⟩⟩⟩,k⟩⟩ k<|hI k k k<|aJ) k)⟩
 ·rintro e t ⟨rfl,hent⟩
  refine aU<|tn<|aM hent<|sR<|lp k8<|ae (bK aB k k k k k k k k) k<|an<|tn<|aL ?_
  obtain rfl:=so h
  exact aS k k k (qV (cF (k) (cF (k) (cF (iZ dR k k) iD))))
end
noncomputable section
set_option maxRecDepth 10000
set_option maxHeartbeats 4000000
end
noncomputable section
def dN (r:Rp) (k:Nat):Nat:=(r.dims[k]?.getD 0).toNat
theorem aPl {r:Rp} (h:aEx r=true):lE r.p=true∧aFf r.q r.dims=true∧r.maps.length=r.q.src.length∧ ∀ k,k<r.maps.length→aCH r.p (r.maps[k]?.getD ⟨0,0,[]⟩)=true∧(r.maps[k]?.getD ⟨0,0,[]⟩).cols=r.dims[(r.q.src[k]?.getD 0).toNat]?.getD 0∧(r.maps[k]?.getD ⟨0,0,[]⟩).rows=r.dims[(r.q.tgt[k]?.getD 0).toNat]?.getD 0:=by
 unfold aEx at h
 simp only [Bool.and_eq_true,decide_eq_true_eq,vB] at h
 exact ⟨h.1,h.2.1,by omega,h.2.2.2⟩
theorem aLQ (c:Nat) (f:Nat→Nat→Int): ∀ n,((List.range n).map fun i=>mB c (f i)).flatten=dI n c f
 |0=>by simp [dI]
 |n+1=>by
  rw [List.range_succ,List.map_append,List.flatten_append,aLQ c f n]
  unfold dI
  rw [Nat.succ_mul,List.range_add,List.map_append]
  congr 1
  simp only [List.map_cons,List.map_nil,List.flatten_cons,List.flatten_nil,List.append_nil,List.map_map,mB]
  refine List.map_congr_left fun j hj=>?_
  have hj:=List.mem_range.1 hj
  simp only [Function.comp]
  rw [aHD hj,aHE hj]
theorem aJM {l:List (List Int)} (h: ∀ x∈l,x.length≤1024):l.flatten.length≤1024*l.length:=by
 induction l with
 |nil=>simp
 |cons x l ih=>
  have h1:=h x (by simp)
  have h2:=ih fun y hy=>h y (by simp [hy])
  simp only [List.flatten_cons,List.length_append,List.length_cons]
  omega
theorem xV {l:List (List Int)} {k:Nat} (hk:k<l.length):(l.take (k+1)).flatten=(l.take k).flatten++l[k]:=by
 rw [List.take_succ_eq_append_getElem hk,List.flatten_append];simp
theorem aPm {l:List (List Int)} (hl:l.length≤512) (h: ∀ x∈l,x.length≤1024):hZ l=some l.flatten:=by
 have hb: ∀ k,(l.take k).flatten.length ≤1024*512:=fun k=>by
  have:=aJM (l:=l.take k) fun x hx=>h x (List.mem_of_mem_take hx)
  have h2:(l.take k).length ≤512:=by simp;omega
  omega
 unfold hZ
 rw [fK (r:=(l.flatten.length:Int)) (fun k=>(((l.take k).flatten.length:Int),(k:Int))) l.length (by simp) (fun k hk=>?_) (fun _=>?_),Option.bind_some]
 ·have e:=hb l.length
  rw [List.take_length] at e
  unfold aMY
  rw [decide_eq_true (by omega),decide_eq_true (by omega:(l.flatten.length:Int)≤1048576),Bool.and_self,cond_true,Option.bind_some]
  rw [fK (r:=l.flatten) (fun k=>((l.take k).flatten,(k:Int))) l.length (by simp) (fun k hk=>?_) (fun _=>?_),Option.bind_some]
  ·unfold gG
   simp only
   have e2:=hb (k+1)
   rw [xV hk,List.length_append] at e2
   rw [kT hk,cond_true,eA hk,Option.bind_some,decide_eq_true (by omega),cond_true,dO hk (by omega),xV hk]
  ·unfold gG
   simp only
   rw [oF (Nat.le_refl _),cond_false,List.take_length]
 ·unfold gF
  simp only
  have e2:=hb (k+1)
  rw [xV hk,List.length_append] at e2
  rw [kT hk,cond_true,eA hk,Option.bind_some,fJ (x:=_+_) (by omega),decide_eq_false (by omega),cond_false,dO hk (by omega),xV hk,List.length_append,Int.natCast_add (List.take k l).flatten.length l[k].length]
 ·unfold gF
  simp only
  rw [oF (Nat.le_refl _),cond_false,List.take_length]
end
noncomputable section
open Go.ChangeShapes Go.WideShapes Go.ChangeAt Go.RowKit
theorem oI:yB Tryz.prog 3 (aAV 1 eI):=aMV Tryz.underlying3
theorem oL:yB Tryz.prog 22 (aAV 1 eL):=aDf Tryz.underlying22 (by decide) (by kernel_rfl) oI
theorem oQ:yB Tryz.prog 24 (aAV 3 eQ):=by
 intro H enc w fuel cs d ps h hf
 obtain ⟨x0,T0,u0⟩:=nZ Tryz.underlying24 h hf aHN (i:=0) (ft:=3) rfl (k:=1) (by kernel_rfl) oI
 obtain ⟨x1,T1,u1⟩:=nZ Tryz.underlying24 h hf u0 (i:=1) (ft:=22) rfl (k:=1) (by kernel_rfl) oL
 obtain ⟨x2,T2,u2⟩:=nZ Tryz.underlying24 h hf u1 (i:=2) (ft:=22) rfl (k:=1) (by kernel_rfl) oL
 exact ⟨⟨x0,x1,x2⟩,_,aHO Tryz.underlying24 h hf u2 (by kernel_rfl) _ rfl⟩
theorem oM:yB Tryz.prog 111 (aAV 3 eM):=by
 intro H enc w fuel cs d ps h hf
 obtain ⟨x0,T0,u0⟩:=nZ Tryz.underlying111 h hf aHN (i:=0) (ft:=3) rfl (k:=1) (by kernel_rfl) oI
 obtain ⟨x1,T1,u1⟩:=nZ Tryz.underlying111 h hf u0 (i:=1) (ft:=3) rfl (k:=1) (by kernel_rfl) oI
 obtain ⟨x2,T2,u2⟩:=nZ Tryz.underlying111 h hf u1 (i:=2) (ft:=22) rfl (k:=1) (by kernel_rfl) oL
 exact ⟨⟨x0,x1,x2⟩,_,aHO Tryz.underlying111 h hf u2 (by kernel_rfl) _ rfl⟩
theorem oMs:yB Tryz.prog 25 (aAV 1 (fun l:List Mt=>[.list 3 (l.map eM)])):=aDf Tryz.underlying25 (by decide) (by kernel_rfl) oM
theorem oR:yB Tryz.prog 27 (aAV 6 eR):=by
 intro H enc w fuel cs d ps h hf
 obtain ⟨x0,T0,u0⟩:=nZ Tryz.underlying27 h hf aHN (i:=0) (ft:=3) rfl (k:=1) (by kernel_rfl) oI
 obtain ⟨x1,T1,u1⟩:=nZ Tryz.underlying27 h hf u0 (i:=1) (ft:=24) rfl (k:=3) (by kernel_rfl) oQ
 obtain ⟨x2,T2,u2⟩:=nZ Tryz.underlying27 h hf u1 (i:=2) (ft:=22) rfl (k:=1) (by kernel_rfl) oL
 obtain ⟨x3,T3,u3⟩:=nZ Tryz.underlying27 h hf u2 (i:=3) (ft:=25) rfl (k:=1) (by kernel_rfl) oMs
 exact ⟨⟨x0,x1,x2,x3⟩,_,aHO Tryz.underlying27 h hf u3 (by kernel_rfl) _ rfl⟩
end
noncomputable section
theorem aNY {w:World} : ∀ {ds:List AV} {vs:List Value} {S:List Nat},RepVs w ds vs S→ ∀ d∈ds,∃ v S',RepD w d v S'
 | [],_,_,_,d,hd=>by cases hd
 |c::cs,vs,S,h,d,hd=>by
  simp only [RepVs] at h
  obtain ⟨v,r,S1,S2,_,_,h3,h4⟩:=h
  rcases List.mem_cons.1 hd with rfl|h'
  ·exact ⟨v,S1,h3⟩
  ·exact aNY h4 d h'
theorem aNZ {w:World} {b:Nat} : ∀ {ds:List AV} {o:Nat} {S:List Nat},RepCs w b o ds S→ ∀ d∈ds,∃ v S',RepD w d v S'
 | [],_,_,_,d,hd=>by cases hd
 |c::cs,o,S,h,d,hd=>by
  simp only [RepCs] at h
  obtain ⟨v,S1,S2,_,_,_,_,h3,h4⟩:=h
  rcases List.mem_cons.1 hd with rfl|h'
  ·exact ⟨v,S1,h3⟩
  ·exact aNZ h4 d h'
theorem aNa {w:World} {k b:Nat} : ∀ {es:List (List AV)} {o:Nat} {S:List Nat},RepEs w k b o es S→ ∀ cs∈es,∀ d∈cs,∃ v S',RepD w d v S'
 | [],_,_,_,cs,hc=>by cases hc
 |c::es,o,S,h,cs,hc=>by
  simp only [RepEs] at h
  obtain ⟨S1,S2,_,_,h3,h4⟩:=h
  rcases List.mem_cons.1 hc with rfl|h'
  ·exact aNZ h3
  ·exact aNa h4 cs h'
theorem aNb {w:World} {k:Nat} {es:List (List AV)} {v:Value} {S:List Nat} (h:RepD w (.list k es) v S):es.length≤9223372036854775807∧ ∀ cs∈es,∀ d∈cs,∃ v S',RepD w d v S':=by
 unfold RepD at h
 obtain ⟨a,c,_,h2,h3,h4⟩:=h
 have hm:maxLen≤9223372036854775807:=by decide
 refine ⟨by omega,?_⟩
 rcases h4 with ⟨rfl,_⟩|⟨b,o,T,_,_,_,h5⟩
 ·intro cs hcs;cases hcs
 ·exact aNa h5
theorem aSl {w:World} {l:List Int} {v:Value} {S:List Nat} (h:RepD w (aJk l) v S):fI l:=by
 have:=(aNb (k:=1) (es:=List.map eI l) h).1
 rwa [List.length_map] at this
theorem aKH {w:World} {ds:List AV} (h: ∀ d∈ds,∃ v S',RepD w d v S') {l:List Int} (hl:aJk l∈ds):fI l:=by
 obtain ⟨v,S,h⟩:=h _ hl
 exact aSl h
theorem aPn {w:World} {ds:List AV} (h: ∀ d∈ds,∃ v S',RepD w d v S') {α:Type} {k:Nat} {e:α→List AV} {l:List α} (hl:AV.list k (l.map e)∈ds):fI l∧ ∀ x∈l,∀ d∈e x,∃ v S',RepD w d v S':=by
 obtain ⟨v,S,h⟩:=h _ hl
 have:=aNb h
 rw [List.length_map] at this
 exact ⟨this.1,fun x hx=>this.2 _ (List.mem_map.2 ⟨x,hx,rfl⟩)⟩
theorem aSm {w:World} {m:Mt} (h: ∀ d∈eM m,∃ v S',RepD w d v S'):fM m:=aKH h (by simp [eM])
theorem aSE {w:World} {l:List Mt} {ds:List AV} (h: ∀ d∈ds,∃ v S',RepD w d v S') (hl:AV.list 3 (l.map eM)∈ds):fMs l:=by
 obtain ⟨h1,h2⟩:=aPn h hl
 exact ⟨h1,fun m hm=>aSm (h2 m hm)⟩
theorem aSn {w:World} {r:Rp} (h: ∀ d∈eR r,∃ v S',RepD w d v S'):fR r:=⟨⟨aKH h (by simp [eR]),aKH h (by simp [eR])⟩,aKH h (by simp [eR]),aSE h (by simp [eR])⟩
theorem aPo {w0 w:World} {v:Value} {S:List Nat} (h:aJh w (.bl true) v S):Ending.returned v= .returned (.bool true):=by rw [h.1]
end
noncomputable section
set_option maxRecDepth 10000
set_option maxHeartbeats 4000000
def oX (a0:(List (List Int))) (a1:(List (List Int))) (x1:Int):Option (Int ⊕ (Unit ⊕ Bool)):=
 bif decide (x1<(a0.length:Int)) then
 (Option.bind (dY a0 x1) fun v3=>
 Option.bind (dY a1 x1) fun v4=>
 Option.bind (kY v3 v4) fun v5=>
 bif !v5 then
 (some (.inr (.inr (false))))
 else
 (some (.inl (wr (x1+1)))))
 else
 (some (.inr (.inl ())))
def uC (a0:(List (List Int))) (a1:(List (List Int))):Option Bool:=
 bif !decide ((a0.length:Int)=(a1.length:Int)) then
 (some (false))
 else
 (Option.bind (Lp (oX a0 a1) 0) fun y7=>
 Sum.elim (fun y8=>
 some (true)
 )
 (fun y9=>
 some y9
 )
 y7)
theorem aHe (a0:(List (List Int))) (a1:(List (List Int))) (r:Bool) (h:uC a0 a1=some r):HasC Tryz.prog 45 [.list 1 (a0.map (cL 1 eI)),.list 1 (a1.map (cL 1 eI))] (.bl r):=by
 refine bJ aB (rvs:=[.tmp 4]) (ns:=[0,1]) Tryz.func45 k k Tryz.ntmps45 k k k<|sR<|aT k2<|sQ<|sR<|am k k ?_
 refine ln k4<|am k k<|ln k4<|cm k4<|an<|tn ?_
 rcases cb h with ⟨q1,h⟩|⟨q1,h⟩
 ·refine aH k q1<|sR<|aT k2<|aL<|aG ?_
  obtain rfl:=so h
  exact aS k k k (bO k)
 ·refine aN k q1<|aQ<|tn<|sQ<|sR<|aT k2<|aI ?_
  obtain ⟨y7,hy7,h⟩:=ob h
  refine cV (body:=(oX a0 a1)) hy7 (fun (x1:Int)=>bN [(0,.list 1 (a0.map (cL 1 eI))),(1,.list 1 (a1.map (cL 1 eI))),(5,.int x1)] [] 0 [0,1]) (fun r e t=>Sum.elim (fun a=>(fun r e t=>e= .exit 0∧Ent t (bN [] [] 0 [0,1])) a e t) (fun b=>(fun r e t=>e= .ret∧oD TT [.tmp 4] (.bl r) .ret t) b e t) r) (aC (σ:=sg []) ⟨⟨_,k,⟨k,k⟩⟩,⟨_,k,⟨k,k⟩⟩,(e1 k k),aJ⟩ aJ k) ?_ ?_
  ·intro x1 o h
   refine sQ<|sR<|am k k<|am k k<|ln k4<|cm k4<|an<|tn ?_
   rcases cb h with ⟨q2,h⟩|⟨q2,h⟩
   ·refine aH k q2<|aQ<|tn<|sQ<|aI<|sQ<|aW kI<|am k k<|am k k ?_
    obtain ⟨v3,hv3,h⟩:=ob h
    refine ae (bF aB hv3 k k k k k k) k<|lr k7<|am k k<|am k k ?_
    obtain ⟨v4,hv4,h⟩:=ob h
    refine ae (bF aB hv4 k k k k k k) k<|lr k7 ?_
    obtain ⟨v5,hv5,h⟩:=ob h
    refine ae (bA (rC v3 v4 v5 hv5) k (aD (aO k) (aD (aO k) bD))) k<|ae (cJ k) k<|an ?_
    refine ⟨by kernel_rfl,?_⟩
    refine tn<|aM (t:=bN [(0,.list 1 (a0.map (cL 1 eI))),(1,.list 1 (a1.map (cL 1 eI))),(5,.int x1),(26,.bl (!v5))] [] 0 [0,1]) (aC (σ:=sg []) ⟨⟨_,k,⟨k,k⟩⟩,⟨_,k,⟨k,k⟩⟩,(e1 k k),(e1 k k),aJ⟩ aJ k) ?_
    rcases cb h with ⟨q6,h⟩|⟨q6,h⟩
    ·refine aH k q6<|sR<|aT k2<|aL<|aY<|aG<|aG ?_
     obtain rfl:=so h
     exact ⟨_,k,k,aS k k k (bO k)⟩
    ·refine aN k q6<|aQ<|bB<|tn<|rg<|am k k<|ae (bT k k) k<|aT k2 ?_
     obtain rfl:=so h
     exact ⟨_,k,(aC (σ:=sg []) ⟨⟨_,k,⟨k,k⟩⟩,⟨_,k,⟨k,k⟩⟩,(e1 k k),aJ⟩ aJ k)⟩
   ·refine aN k q2<|bC<|aE<|aE ?_
    obtain rfl:=so h
    exact ⟨_,k,k,(aC (σ:=sg []) aJ aJ k)⟩
  ·intro e t hX
   rcases y7 with y8|y9
   ·obtain ⟨rfl,hent⟩:=hX
    refine aU<|tn<|aM hent<|sR<|aT k2<|aL ?_
    obtain rfl:=so h
    exact aS k k k (bO k)
   ·obtain ⟨rfl,hent⟩:=hX
    refine aY<|aG ?_
    obtain rfl:=so h
    exact hent
def uD (a0:Sc) (a1:Sc):Option Bool:=
 bif !decide (a0.size=a1.size) then
 (some (false))
 else
 (Option.bind (uC a0.basis a1.basis) fun v2=>
 bif !v2 then
 (some (false))
 else
 (some (true)))
theorem aHf (a0:Sc) (a1:Sc) (r:Bool) (h:uD a0 a1=some r):HasC Tryz.prog 99 [.agg (eS a0),.agg (eS a1)] (.bl r):=by
 refine bJ aB (rvs:=[.tmp 4]) (ns:=[0,1,2,3]) Tryz.func99 k k Tryz.ntmps99 k k k<|sR<|ae (cE k k k k) k<|ae (cE k k k k) k<|aT k2<|sQ<|sQ ?_
 refine rg<|fp k8<|lp k8<|fp k8<|lp k8<|cm k4<|an<|tn ?_
 rcases cb h with ⟨q1,h⟩|⟨q1,h⟩
 ·refine aH k q1<|sR<|aT k2<|aL<|aG ?_
  obtain rfl:=so h
  exact aS k k k (bO k)
 ·refine aN k q1<|aQ<|tn<|sQ<|sR<|fp k8<|lp k8<|fp k8<|lp k8 ?_
  obtain ⟨v2,hv2,h⟩:=ob h
  refine ae (bA (aHe a0.basis a1.basis v2 hv2) k (aD (aO k) (aD (aO k) bD))) k<|ae (cJ k) k<|an<|tn<|aM (t:=bN [(15,.bl (!v2))] [] 2 [2,3]) (aC (σ:=sg []) ⟨(e1 k k),aJ⟩ aJ k) ?_
  rcases cb h with ⟨q3,h⟩|⟨q3,h⟩
  ·refine aH k q3<|sR<|aT k2<|aL<|aG ?_
   obtain rfl:=so h
   exact aS k k k (bO k)
  ·refine aN k q3<|aQ<|tn<|sR<|aT k2<|aL ?_
   obtain rfl:=so h
   exact aS k k k (bO k)
def mV (a0:(List Sc)) (a1:(List Sc)) (x1:Int):Option (Int ⊕ (Unit ⊕ Bool)):=
 bif decide (x1<(a0.length:Int)) then
 (Option.bind (dY a0 x1) fun v3=>
 Option.bind (dY a1 x1) fun v4=>
 Option.bind (uD v3 v4) fun v5=>
 bif !v5 then
 (some (.inr (.inr (false))))
 else
 (some (.inl (wr (x1+1)))))
 else
 (some (.inr (.inl ())))
def rU (a0:(List Sc)) (a1:(List Sc)):Option Bool:=
 bif !decide ((a0.length:Int)=(a1.length:Int)) then
 (some (false))
 else
 (Option.bind (Lp (mV a0 a1) 0) fun y7=>
 Sum.elim (fun y8=>
 some (true)
 )
 (fun y9=>
 some y9
 )
 y7)
theorem aGF (a0:(List Sc)) (a1:(List Sc)) (r:Bool) (h:rU a0 a1=some r):HasC Tryz.prog 40 [.list 2 (a0.map eS),.list 2 (a1.map eS)] (.bl r):=by
 refine bJ aB (rvs:=[.tmp 4]) (ns:=[0,1]) Tryz.func40 k k Tryz.ntmps40 k k k<|sR<|aT k2<|sQ<|sR<|am k k ?_
 refine ln k4<|am k k<|ln k4<|cm k4<|an<|tn ?_
 rcases cb h with ⟨q1,h⟩|⟨q1,h⟩
 ·refine aH k q1<|sR<|aT k2<|aL<|aG ?_
  obtain rfl:=so h
  exact aS k k k (bO k)
 ·refine aN k q1<|aQ<|tn<|sQ<|sR<|aT k2<|aI ?_
  obtain ⟨y7,hy7,h⟩:=ob h
  refine cV (body:=(mV a0 a1)) hy7 (fun (x1:Int)=>bN [(0,.list 2 (a0.map eS)),(1,.list 2 (a1.map eS)),(5,.int x1)] [] 0 [0,1]) (fun r e t=>Sum.elim (fun a=>(fun r e t=>e= .exit 0∧Ent t (bN [] [] 0 [0,1])) a e t) (fun b=>(fun r e t=>e= .ret∧oD TT [.tmp 4] (.bl r) .ret t) b e t) r) (aC (σ:=sg []) ⟨⟨_,k,⟨k,k⟩⟩,⟨_,k,⟨k,k⟩⟩,(e1 k k),aJ⟩ aJ k) ?_ ?_
  ·intro x1 o h
   refine sQ<|sR<|am k k<|am k k<|ln k4<|cm k4<|an<|tn ?_
   rcases cb h with ⟨q2,h⟩|⟨q2,h⟩
   ·refine aH k q2<|aQ<|tn<|sQ<|aI<|sQ<|aW kI<|am k k<|am k k ?_
    obtain ⟨v3,hv3,h⟩:=ob h
    refine ae (bF aB hv3 k k k k k k) k<|lr k7<|am k k<|am k k ?_
    obtain ⟨v4,hv4,h⟩:=ob h
    refine ae (bF aB hv4 k k k k k k) k<|lr k7 ?_
    obtain ⟨v5,hv5,h⟩:=ob h
    refine ae (bA (aHf v3 v4 v5 hv5) k (aD (cD (aR (aV k) (aR (aV k) cO))) (aD (cD (aR (aV k) (aR (aV k) cO))) bD))) k<|ae (cJ k) k<|an ?_
    refine ⟨by kernel_rfl,?_⟩
    refine tn<|aM (t:=bN [(0,.list 2 (a0.map eS)),(1,.list 2 (a1.map eS)),(5,.int x1),(26,.bl (!v5))] [] 0 [0,1]) (aC (σ:=sg []) ⟨⟨_,k,⟨k,k⟩⟩,⟨_,k,⟨k,k⟩⟩,(e1 k k),(e1 k k),aJ⟩ aJ k) ?_
    rcases cb h with ⟨q6,h⟩|⟨q6,h⟩
    ·refine aH k q6<|sR<|aT k2<|aL<|aY<|aG<|aG ?_
     obtain rfl:=so h
     exact ⟨_,k,k,aS k k k (bO k)⟩
    ·refine aN k q6<|aQ<|bB<|tn<|rg<|am k k<|ae (bT k k) k<|aT k2 ?_
     obtain rfl:=so h
     exact ⟨_,k,(aC (σ:=sg []) ⟨⟨_,k,⟨k,k⟩⟩,⟨_,k,⟨k,k⟩⟩,(e1 k k),aJ⟩ aJ k)⟩
   ·refine aN k q2<|bC<|aE<|aE ?_
    obtain rfl:=so h
    exact ⟨_,k,k,(aC (σ:=sg []) aJ aJ k)⟩
  ·intro e t hX
   rcases y7 with y8|y9
   ·obtain ⟨rfl,hent⟩:=hX
    refine aU<|tn<|aM hent<|sR<|aT k2<|aL ?_
    obtain rfl:=so h
    exact aS k k k (bO k)
   ·obtain ⟨rfl,hent⟩:=hX
    refine aY<|aG ?_
    obtain rfl:=so h
    exact hent
end
noncomputable section
theorem aSo {a b:List (List Int)} (h:a.length≤1048576∧ ∀ m∈a,bI m):uC a b=some (decide (a=b)):=by
 obtain ⟨h,hb⟩:=h
 unfold uC
 rw [wH]
 by_cases e:a.length=b.length
 ·rw [decide_eq_true e,Bool.not_true,cond_false]
  refine yE (by omega) e (fun k h1 h2=>?_) ?_
  ·unfold oX
   rw [kT h1,cond_true,eA h1,Option.bind_some,eA h2,Option.bind_some,aPf (hb _ (List.getElem_mem h1)),Option.bind_some]
   cases decide (a[k]=b[k]) <;> rfl
  ·unfold oX
   rw [oF (Nat.le_refl _),cond_false]
 ·rw [decide_eq_false e,Bool.not_false,cond_true,decide_eq_false (by rintro rfl;exact e rfl)]
theorem aTa {a b:Sc} (h:bS a):uD a b=some (decide (a=b)):=by
 unfold uD
 rw [gE (d:=decide (a.basis=b.basis)) (fun _=>?_)]
 ·cases a;cases b;simp
 ·rw [aSo h.1,Option.bind_some,aGa]
theorem aSp {a b:List Sc} (h:a.length≤1048576∧ ∀ m∈a,bS m):rU a b=some (decide (a=b)):=by
 obtain ⟨h,hb⟩:=h
 unfold rU
 rw [wH]
 by_cases e:a.length=b.length
 ·rw [decide_eq_true e,Bool.not_true,cond_false]
  refine yE (by omega) e (fun k h1 h2=>?_) ?_
  ·unfold mV
   rw [kT h1,cond_true,eA h1,Option.bind_some,eA h2,Option.bind_some,aTa (hb _ (List.getElem_mem h1)),Option.bind_some]
   cases decide (a[k]=b[k]) <;> rfl
  ·unfold mV
   rw [oF (Nat.le_refl _),cond_false]
 ·rw [decide_eq_false e,Bool.not_false,cond_true,decide_eq_false (by rintro rfl;exact e rfl)]
end
noncomputable section
set_option maxRecDepth 10000
set_option maxHeartbeats 4000000
def rV (a0:Int) (a1:(List (List Int))):Option Mt:=
 Option.bind (hZ a1) fun v1=>
 some ((⟨(a1.length:Int),a0,v1⟩:Mt))
theorem aGG (a0:Int) (a1:(List (List Int))) (r:Mt) (h:rV a0 a1=some r):HasC Tryz.prog 260 [.int a0,.list 1 (a1.map (cL 1 eI))] (.agg (eM r)):=by
 refine bJ aB (rvs:=[.cell 4 113]) (ns:=[0,1,2,3]) Tryz.func260 k k Tryz.ntmps260 k k k<|sR<|ae (bV aB k k) k<|an<|tn<|sR<|am k k<|ln k4 ?_
 refine am k k<|am k k ?_
 obtain ⟨v1,hv1,h⟩:=ob h
 refine ae (AEff.conv (dF (x:= .own 1 0 (v1.map eI).length) (nb:=[(1,⟨1,cM (v1.map eI)⟩)]) (aAE a1 v1 hv1) k (by rfl) k k (dR.good _) (aD (aO k) bD)) (v':= .own 1 0 v1.length) (ed':=[(1,some ⟨1,v1.map (ow eI)⟩)]) (by simp only [aZ]) (fB (nb':=[(1,⟨1,v1.map (ow eI)⟩)]) (by simp only [cW]))) k<|ae (cS aB k k k k k k) k<|ae (bK aB k k k k k k k k) k<|an<|tn<|aL ?_
 obtain rfl:=so h
 exact aS k k k (qV (cF (k) (cF (k) (cF (iZ dR k k) iD))))
def uE (v2:(Mt×(List Int))) (x1:((List (List Int))×Int)):Option (((List (List Int))×Int) ⊕ (List (List Int))):=
 bif decide (x1.2<((v2.2.length:Nat):Int)) then
 (Option.bind (dQ v2.1 x1.2) fun v4=>
 Option.bind (tU ((v2.1.cells.drop (0+(wr (x1.2*v2.1.cols)).toNat)).take ((wr ((wr (x1.2+1))*v2.1.cols)).toNat - (wr (x1.2*v2.1.cols)).toNat))) fun v5=>
 bif decide (x1.1.length+1≤4294967296) then
 (some (.inl ((x1.1++[v5]),wr (x1.2+1))))
 else none)
 else
 (some (.inr x1.1))
def wK (a0:Int) (a1:Int) (a2:(List (List Int))):Option Sc:=
 Option.bind (rV a1 a2) fun v1=>
 Option.bind (vW a0 v1) fun v2=>
 Option.bind (Lp (uE v2) ([],0)) fun y7=>
 some ((⟨a1,y7⟩:Sc))
theorem aFg (a0:Int) (a1:Int) (a2:(List (List Int))) (r:Sc) (h:wK a0 a1 a2=some r):HasC Tryz.prog 233 [.int a0,.int a1,.list 1 (a2.map (cL 1 eI))] (.agg (eS r)):=by
 refine bJ aB (rvs:=[.cell 6 99]) (ns:=[0,1,2,3,4,5,6,7,8]) Tryz.func233 k k Tryz.ntmps233 k k k<|sR<|ae (bV aB k k) k<|an<|tn<|sR<|am k k<|am k k ?_
 refine am k k ?_
 obtain ⟨v1,hv1,h⟩:=ob h
 refine ae (AEff.conv (dF (x:= .agg [.int v1.rows,.int v1.cols,.own 1 0 (v1.cells.map eI).length]) (nb:=[(1,⟨1,cM (v1.cells.map eI)⟩)]) (aGG a1 a2 v1 hv1) k (by rfl) k k (bU aJ (bU aJ (bU (dR.good _) gS))) (aD (aO k) (aD (aO k) bD))) (v':= .agg [.int v1.rows,.int v1.cols,.own 1 0 v1.cells.length]) (ed':=[(1,some ⟨1,v1.cells.map (ow eI)⟩)]) (by simp only [aZ]) (fB (nb':=[(1,⟨1,v1.cells.map (ow eI)⟩)]) (by simp only [cW]))) k ?_
 obtain ⟨v2,hv2,h⟩:=ob h
 refine ae (AEff.conv (dF (x:= .tuple [.agg [.int v2.1.rows,.int v2.1.cols,.own 2 0 (v2.1.cells.map eI).length],.own 3 0 (v2.2.map eI).length]) (nb:=[(2,⟨1,cM (v2.1.cells.map eI)⟩),(3,⟨1,cM (v2.2.map eI)⟩)]) (aIR a0 v1 v2 hv2) k (by rfl) k k (iL (bU aJ (bU aJ (bU (dR.good _) gS))) (iL (dR.good _) zZ)) (aD (aO k) (aD (cD (aR (aV k) (aR (aV k) (aR (qU dR k k) cO)))) bD))) (v':= .tuple [.agg [.int v2.1.rows,.int v2.1.cols,.own 2 0 v2.1.cells.length],.own 3 0 v2.2.length]) (ed':=[(2,some ⟨1,v2.1.cells.map (ow eI)⟩),(3,some ⟨1,v2.2.map (ow eI)⟩)]) (by simp only [aZ]) (fB (nb':=[(2,⟨1,v2.1.cells.map (ow eI)⟩),(3,⟨1,v2.2.map (ow eI)⟩)]) (by simp only [cW]))) k<|am k k<|ae (bH k k (by intro _ h;cases h)) k<|ae (bH k k (by intro _ h;cases h)) k<|ae (bV aB k k) k<|ae (bK aB k k k k k k k k) k<|aT k2<|aM (t:=bN [(1,.int a1),(6,.ptr 0 0 0),(7,.ptr 4 0 0),(8,.own 3 0 v2.2.length)] [(0,⟨2,[[.int 0,.nil 1]]⟩),(2,⟨1,v2.1.cells.map (ow eI)⟩),(3,⟨1,v2.2.map (ow eI)⟩),(4,⟨3,[[.int v2.1.rows,.int v2.1.cols,.own 2 0 v2.1.cells.length]]⟩)] 5 [5,6,7,8]) (aC (σ:=sg [(0,0),(2,2),(3,3),(4,4)]) ⟨(e1 k k),(pE k k),(pE k k),(oE k k),aJ⟩ (hP k k k k<|hI k k k<|hI k k k<|hX ⟨_,k,k,.inr ⟨_,_,k,⟨_,_,k,k,⟨_,_,k,k,⟨_,_,k,⟨k,k,k,k⟩,k⟩⟩⟩,k⟩⟩ k<|aJ) k) ?_
 refine sR<|aT k2<|sQ<|sR<|am k k<|ae (bP aB k k k k) k ?_
 refine am k k<|an<|tn<|aI ?_
 obtain ⟨y7,hy7,h⟩:=ob h
 refine cV (body:=(uE v2)) hy7 (fun (x1:((List (List Int))×Int))=>bN [(1,.int a1),(6,.ptr 0 0 0),(7,.ptr 1 0 0),(9,.own 3 0 x1.1.length),(20,.int ((v2.2.length:Nat):Int)),(21,.int x1.2)] [(0,⟨2,[[.int 0,.nil 1]]⟩),(1,⟨3,[[.int v2.1.rows,.int v2.1.cols,.own 2 0 v2.1.cells.length]]⟩),(2,⟨1,v2.1.cells.map (ow eI)⟩),(3,⟨1,x1.1.map (ow (cL 1 eI))⟩)] 4 [4,5,6,7,8]) (fun r e t=>e= .exit 0∧Ent t (bN [(1,.int a1),(6,.ptr 0 0 0),(9,.own 1 0 r.length)] [(0,⟨2,[[.int 0,.nil 1]]⟩),(1,⟨1,r.map (ow (cL 1 eI))⟩)] 2 [2,3,4,5,6,7,8])) (aC (σ:=sg [(0,0),(1,4),(2,2)]) ⟨(e1 k k),(pE k k),(pE k k),⟨_,k,⟨k,k,k,k⟩⟩,(e1 k k),(e1 k k),aJ⟩ (hP k k k k<|hX ⟨_,k,k,.inr ⟨_,_,k,⟨_,_,k,k,⟨_,_,k,k,⟨_,_,k,⟨k,k,k,k⟩,k⟩⟩⟩,k⟩⟩ k<|hI k k k<|hX k k<|aJ) k) ?_ ?_
 ·intro x1 o h
  refine sR<|cm k4<|an<|tn<|sQ ?_
  rcases cb h with ⟨q3,h⟩|⟨q3,h⟩
  ·refine aH k q3<|aQ<|tn<|sQ<|aI<|sR<|am k k<|aa k k<|an ?_
   refine tn<|rg<|am k k<|lp k8<|am k k ?_
   obtain ⟨v4,hv4,h⟩:=ob h
   refine ae (AEff.pureE (gK (σ:=sg [(0,2)]) (σ':=sg [(2,0)]) (touch:=[2]) (news:=[]) (hl2:=[(2,⟨1,v2.1.cells.map (ow eI)⟩)]) (n':=4) (r2:= .own 2 (0+(wr (x1.2*v2.1.cols)).toNat) ((wr ((wr (x1.2+1))*v2.1.cols)).toNat - (wr (x1.2*v2.1.cols)).toNat)) (eU v2.1 x1.2 v4 hv4) k k ⟨_,_,k,⟨_,_,k,k,⟨_,_,k,k,⟨_,_,k,⟨k,k,k,k⟩,k⟩⟩⟩,⟨_,_,k,k,k⟩⟩ ⟨⟨_,k,k,.inl ⟨k,dR.plainO _⟩⟩,k,aJ⟩ k k k ⟨⟨_,k,k,.inl ⟨k,dR.plainO _⟩⟩,k,aJ⟩ k ⟨k,k,(by simp only [aZ,lA,lT,lR,lC,lN]),k⟩ k ⟨k,dR.tame _ _,aJ⟩ k k) ⟨k,k,aJ⟩) k ?_
   obtain ⟨v5,hv5,h⟩:=ob h
   refine ae (AEff.conv (dF (x:= .own 4 0 (v5.map eI).length) (nb:=[(4,⟨1,cM (v5.map eI)⟩)]) (aDg ((v2.1.cells.drop (0+(wr (x1.2*v2.1.cols)).toNat)).take ((wr ((wr (x1.2+1))*v2.1.cols)).toNat - (wr (x1.2*v2.1.cols)).toNat)) v5 hv5) k (by rfl) k k (dR.good _) (aD (aQu dR k) bD)) (v':= .own 4 0 v5.length) (ed':=[(4,some ⟨1,v5.map (ow eI)⟩)]) (by simp only [aZ]) (fB (nb':=[(4,⟨1,v5.map (ow eI)⟩)]) (by simp only [cW]))) k<|ae (cY aB k k k k k k k k k k k k) k ?_
   obtain ⟨q6,h⟩:=cg h
   refine ae (tT aB (l:=x1.1) (c:=[.own 4 0 v5.length]) q6 k k k k k k k k k k k k k k) k<|aa k k<|an<|bB<|tn<|aM (t:=bN [(1,.int a1),(6,.ptr 0 0 0),(7,.ptr 1 0 0),(9,.own 6 0 ((x1.1++[v5]).length)),(20,.int ((v2.2.length:Nat):Int)),(21,.int x1.2)] [(0,⟨2,[[.int 0,.nil 1]]⟩),(1,⟨3,[[.int v2.1.rows,.int v2.1.cols,.own 2 0 v2.1.cells.length]]⟩),(2,⟨1,v2.1.cells.map (ow eI)⟩),(6,⟨1,List.map (ow (cL 1 eI)) (x1.1++[v5])⟩)] 7 [7,8]) (Ent.trans (tR (b:=6) (b':=4) (j:=0) (es':=v5.map eI) k k k k (aZ _ _) (dR.frzs _)) (aC (σ:=sg [(0,0),(1,1),(2,2),(6,6)]) ⟨(e1 k k),(pE k k),(pE k k),⟨_,k,⟨k,k,(by simp only [aZ,lA,lT,lR,lC,lN]),k⟩⟩,(e1 k k),(e1 k k),aJ⟩ (hP k k k k<|hX ⟨_,k,k,.inr ⟨_,_,k,⟨_,_,k,k,⟨_,_,k,k,⟨_,_,k,⟨k,k,k,k⟩,k⟩⟩⟩,k⟩⟩ k<|hI k k k<|hX ⟨_,k,k,.inl ⟨aAA v5 k,cA.plainO _⟩⟩ k<|aJ) k))<|rg<|ae (bT k k) k<|am k k<|an ?_
   refine tn ?_
   obtain rfl:=so h
   exact ⟨_,k,(aC (σ:=sg [(0,0),(1,1),(2,2),(3,6)]) ⟨(e1 k k),(pE k k),(pE k k),(oE k k),(e1 k k),(e1 k k),aJ⟩ (hP k k k k<|hX ⟨_,k,k,.inr ⟨_,_,k,⟨_,_,k,k,⟨_,_,k,k,⟨_,_,k,⟨k,k,k,k⟩,k⟩⟩⟩,k⟩⟩ k<|hI k k k<|hB (cA.plainO _) k k k<|aJ) k)⟩
  ·refine aN k q3<|bC<|aE<|aE ?_
   obtain rfl:=so h
   exact ⟨_,k,k,(aC (σ:=sg [(0,0),(1,3)]) ⟨(e1 k k),(pE k k),(oE k k),aJ⟩ (hP k k k k<|hB (cA.plainO _) k k k<|aJ) k)⟩
 ·rintro e t ⟨rfl,hent⟩
  refine aU<|tn<|aM hent<|sR<|am k k<|am k k<|ae (cS aB k k k k k k) k<|ae (bK aB k k k k k k k k) k<|an ?_
  refine tn<|aL ?_
  obtain rfl:=so h
  exact aS k k k (qV (cF (k) (cF (iZ cA k k) iD)))
def qO (a1:(List (List Int))) (x1:((List Int)×Int)):Option (((List Int)×Int) ⊕ (List Int)):=
 bif decide (x1.2<(a1.length:Int)) then
 (Option.bind (dY a1 x1.2) fun v2=>
 bif decide (x1.1.length+v2.length≤4294967296) then
 (some (.inl ((x1.1++v2),wr (x1.2+1))))
 else none)
 else
 (some (.inr x1.1))
def kZ (a0:Int) (a1:(List (List Int))):Option Mt:=
 Option.bind (Lp (qO a1) ([],0)) fun y4=>
 some ((⟨(a1.length:Int),a0,y4⟩:Mt))
theorem aCX (a0:Int) (a1:(List (List Int))) (r:Mt) (h:kZ a0 a1=some r):HasC Tryz.prog 157 [.int a0,.list 1 (a1.map (cL 1 eI))] (.agg (eM r)):=by
 refine bJ aB (rvs:=[.cell 4 113]) (ns:=[0,1,2,3,4,5]) Tryz.func157 k k Tryz.ntmps157 k k k<|sR<|ae (bV aB k k) k<|an<|tn<|sR<|am k k<|ln k4 ?_
 refine am k k<|ae (cS aB k k k k k k) k<|ae (bV aB k k) k<|ae (bK aB k k k k k k k k) k<|an<|tn<|sQ<|sR<|aa k k ?_
 refine an<|tn<|aI ?_
 obtain ⟨y4,hy4,h⟩:=ob h
 refine cV (body:=(qO a1)) hy4 (fun (x1:((List Int)×Int))=>bN [(1,.list 1 (a1.map (cL 1 eI))),(4,.ptr 0 0 0),(5,.ptr 1 0 0),(6,.int x1.2)] [(0,⟨3,[[.int 0,.int 0,.nil 1]]⟩),(1,⟨3,[[.int (a1.length:Int),.int a0,.own 2 0 x1.1.length]]⟩),(2,⟨1,x1.1.map (ow eI)⟩)] 3 [3,4,5]) (fun r e t=>e= .exit 0∧Ent t (bN [(4,.ptr 0 0 0),(5,.ptr 1 0 0)] [(0,⟨3,[[.int 0,.int 0,.nil 1]]⟩),(1,⟨3,[[.int (a1.length:Int),.int a0,.own 2 0 r.length]]⟩),(2,⟨1,r.map (ow eI)⟩)] 3 [3,4,5])) (aC (σ:=sg [(0,0),(1,1)]) ⟨⟨_,k,⟨k,k⟩⟩,(pE k k),(pE k k),(e1 k k),aJ⟩ (hP k k k k<|hX ⟨_,k,k,.inr ⟨_,_,k,⟨_,_,k,k,⟨_,_,k,k,⟨_,_,k,⟨k,k,k,k⟩,k⟩⟩⟩,k⟩⟩ k<|hX k k<|aJ) k) ?_ ?_
 ·intro x1 o h
  refine sQ<|sR<|am k k<|am k k<|ln k4<|cm k4<|an<|tn ?_
  rcases cb h with ⟨q1,h⟩|⟨q1,h⟩
  ·refine aH k q1<|aQ<|tn<|sQ<|aI<|aW kI<|fp k8<|lp k8<|am k k<|am k k ?_
   obtain ⟨v2,hv2,h⟩:=ob h
   refine ae (bF aB hv2 k k k k k k) k<|lr k7 ?_
   obtain ⟨q3,h⟩:=cg h
   refine ae (xB aB (l:=x1.1) (m:=v2) tS q3 k k k k k k k k k k k k) k<|fp k8<|ae (bK aB k k k k k k k k) k<|an ?_
   refine ⟨by kernel_rfl,?_⟩
   refine bB<|tn<|aM (t:=bN [(1,.list 1 (a1.map (cL 1 eI))),(4,.ptr 0 0 0),(5,.ptr 1 0 0),(6,.int x1.2)] [(0,⟨3,[[.int 0,.int 0,.nil 1]]⟩),(1,⟨3,[[.int (a1.length:Int),.int a0,.own 3 0 ((x1.1++v2).length)]]⟩),(3,⟨1,List.map (ow eI) (x1.1++v2)⟩)] 4 [4,5]) (aC (σ:=sg [(0,0),(1,1),(3,3)]) ⟨⟨_,k,⟨k,k⟩⟩,(pE k k),(pE k k),(e1 k k),aJ⟩ (hP k k k k<|hX ⟨_,k,k,.inr ⟨_,_,k,⟨_,_,k,k,⟨_,_,k,k,⟨_,_,k,⟨k,k,k,k⟩,k⟩⟩⟩,k⟩⟩ k<|hI k k k<|aJ) k)<|rg<|am k k<|ae (bT k k) k<|aT k2 ?_
   obtain rfl:=so h
   exact ⟨_,k,(aC (σ:=sg [(0,0),(1,1),(2,3)]) ⟨⟨_,k,⟨k,k⟩⟩,(pE k k),(pE k k),(e1 k k),aJ⟩ (hP k k k k<|hX ⟨_,k,k,.inr ⟨_,_,k,⟨_,_,k,k,⟨_,_,k,k,⟨_,_,k,⟨k,k,k,k⟩,k⟩⟩⟩,k⟩⟩ k<|hI k k k<|aJ) k)⟩
  ·refine aN k q1<|bC<|aE<|aE ?_
   obtain rfl:=so h
   exact ⟨_,k,k,(aC (σ:=sg [(0,0),(1,1),(2,2)]) ⟨(pE k k),(pE k k),aJ⟩ (hP k k k k<|hX ⟨_,k,k,.inr ⟨_,_,k,⟨_,_,k,k,⟨_,_,k,k,⟨_,_,k,⟨k,k,k,k⟩,k⟩⟩⟩,k⟩⟩ k<|hI k k k<|aJ) k)⟩
 ·rintro e t ⟨rfl,hent⟩
  refine aU<|tn<|aM hent<|sR<|lp k8<|ae (bK aB k k k k k k k k) k<|an<|tn<|aL ?_
  obtain rfl:=so h
  exact aS k k k (qV (cF (k) (cF (k) (cF (iZ dR k k) iD))))
def oY (v1:(Mt×(List Int))) (x1:((List (List Int))×Int)):Option (((List (List Int))×Int) ⊕ (List (List Int))):=
 bif decide (x1.2<((v1.2.length:Nat):Int)) then
 (bif (decide (0≤wr (x1.2*v1.1.cols))&&(decide (wr (x1.2*v1.1.cols)≤wr ((wr (x1.2*v1.1.cols))+v1.1.cols))&&decide (wr ((wr (x1.2*v1.1.cols))+v1.1.cols)≤((v1.1.cells.length:Nat):Int)))) then
 (bif decide (([]:(List Int)).length +((v1.1.cells.drop (0+(wr (x1.2*v1.1.cols)).toNat)).take ((wr ((wr (x1.2*v1.1.cols))+v1.1.cols)).toNat - (wr (x1.2*v1.1.cols)).toNat)).length ≤4294967296) then
 (bif decide (x1.1.length+1≤4294967296) then
 (some (.inl ((x1.1++[(([]:(List Int))++((v1.1.cells.drop (0+(wr (x1.2*v1.1.cols)).toNat)).take ((wr ((wr (x1.2*v1.1.cols))+v1.1.cols)).toNat - (wr (x1.2*v1.1.cols)).toNat)))]),wr (x1.2+1))))
 else none)
 else none)
 else none)
 else
 (some (.inr x1.1))
def jL (a0:Int) (a1:Mt):Option (List (List Int)):=
 Option.bind (kF a0 a1) fun v1=>
 Option.bind (Lp (oY v1) (([]:(List (List Int))),0)) fun y6=>
 some (y6)
theorem aBY (a0:Int) (a1:Mt) (r:(List (List Int))) (h:jL a0 a1=some r):HasC Tryz.prog 182 [.int a0,.agg (eM a1)] (.list 1 (r.map (cL 1 eI))):=by
 refine bJ aB (rvs:=[.tmp 4]) (ns:=[0,1,2,3,4,5,6,7,8,9]) Tryz.func182 k k Tryz.ntmps182 k k k<|sR<|ae (cE k k k k) k<|aT k2<|sR<|am k k ?_
 refine lp k8 ?_
 obtain ⟨v1,hv1,h⟩:=ob h
 refine ae (AEff.conv (dF (x:= .tuple [.agg [.int v1.1.rows,.int v1.1.cols,.own 1 0 (v1.1.cells.map eI).length],.own 2 0 (v1.2.map eI).length]) (nb:=[(1,⟨1,cM (v1.1.cells.map eI)⟩),(2,⟨1,cM (v1.2.map eI)⟩)]) (aFt a0 a1 v1 hv1) k (by rfl) k k (iL (bU aJ (bU aJ (bU (dR.good _) gS))) (iL (dR.good _) zZ)) (aD (aO k) (aD (cD (aR (aV k) (aR (aV k) (aR (aV k) cO)))) bD))) (v':= .tuple [.agg [.int v1.1.rows,.int v1.1.cols,.own 1 0 v1.1.cells.length],.own 2 0 v1.2.length]) (ed':=[(1,some ⟨1,v1.1.cells.map (ow eI)⟩),(2,some ⟨1,v1.2.map (ow eI)⟩)]) (by simp only [aZ]) (fB (nb':=[(1,⟨1,v1.1.cells.map (ow eI)⟩),(2,⟨1,v1.2.map (ow eI)⟩)]) (by simp only [cW]))) k<|am k k<|ae (bH k k (by intro _ h;cases h)) k<|ae (bH k k (by intro _ h;cases h)) k<|ae (bV aB k k) k<|ae (bK aB k k k k k k k k) k<|aT k2<|sQ ?_
 refine rg<|ae (cY aB k k k k k k k k k k k k) k<|aT k2<|aM (t:=bN [(5,.ptr 3 0 0),(6,.own 2 0 v1.2.length),(7,.own 4 0 (([]:(List (List Int))).length))] [(1,⟨1,v1.1.cells.map (ow eI)⟩),(2,⟨1,v1.2.map (ow eI)⟩),(3,⟨3,[[.int v1.1.rows,.int v1.1.cols,.own 1 0 v1.1.cells.length]]⟩),(4,⟨1,List.map (ow (cL 1 eI)) ([]:(List (List Int)))⟩)] 5 [5,6,7,8,9]) (aC (σ:=sg [(1,1),(2,2),(3,3),(4,4)]) ⟨(pE k k),(oE k k),⟨_,k,⟨k,k,(by simp only [aZ,lA,lT,lR,lC,lN]),k⟩⟩,aJ⟩ (hI k k k<|hI k k k<|hX ⟨_,k,k,.inr ⟨_,_,k,⟨_,_,k,k,⟨_,_,k,k,⟨_,_,k,⟨k,k,k,k⟩,k⟩⟩⟩,k⟩⟩ k<|hB (cA.plainO _) k k k<|aJ) k)<|sQ<|sR<|aa k k ?_
 refine an<|tn<|aI ?_
 obtain ⟨y6,hy6,h⟩:=ob h
 refine cV (body:=(oY v1)) hy6 (fun (x1:((List (List Int))×Int))=>bN [(5,.ptr 0 0 0),(6,.own 2 0 v1.2.length),(7,.own 3 0 x1.1.length),(8,.int x1.2)] [(0,⟨3,[[.int v1.1.rows,.int v1.1.cols,.own 1 0 v1.1.cells.length]]⟩),(1,⟨1,v1.1.cells.map (ow eI)⟩),(2,⟨1,v1.2.map (ow eI)⟩),(3,⟨1,x1.1.map (ow (cL 1 eI))⟩)] 4 [4,5,6,7,8,9]) (fun r e t=>e= .exit 0∧Ent t (bN [(7,.own 0 0 r.length)] [(0,⟨1,r.map (ow (cL 1 eI))⟩)] 1 [1,2,3,4,5,6,7,8,9])) (aC (σ:=sg [(0,3),(1,1),(2,2),(3,4)]) ⟨(pE k k),(oE k k),(oE k k),(e1 k k),aJ⟩ (hX ⟨_,k,k,.inr ⟨_,_,k,⟨_,_,k,k,⟨_,_,k,k,⟨_,_,k,⟨k,k,k,k⟩,k⟩⟩⟩,k⟩⟩ k<|hI k k k<|hI k k k<|hB (cA.plainO _) k k k<|aJ) k) ?_ ?_
 ·intro x1 o h
  refine sQ<|sR<|am k k<|am k k<|ae (bP aB k k k k) k<|cm k4<|an<|tn ?_
  rcases cb h with ⟨q2,h⟩|⟨q2,h⟩
  ·refine aH k q2<|aQ<|tn<|sQ<|aI<|rg<|am k k<|ae (cY aB k k k k k k k k k k k k) k<|fp k8<|lp k8 ?_
   refine am k k<|fp k8<|lp k8<|ae (gJ k k) k<|am k k<|fp k8<|lp k8<|ae (gJ k k) k<|fp k8<|lp k8 ?_
   refine ae (bT k k) k ?_
   obtain ⟨q3,h⟩:=cg h
   refine ae (zH aB (l:=wr (x1.2*v1.1.cols)) (h:=wr ((wr (x1.2*v1.1.cols))+v1.1.cols)) q3 k k k k k k k k) k ?_
   obtain ⟨q4,h⟩:=cg h
   refine ae (xB aB (l:=([]:(List Int))) (m:=((v1.1.cells.drop (0+(wr (x1.2*v1.1.cols)).toNat)).take ((wr ((wr (x1.2*v1.1.cols))+v1.1.cols)).toNat - (wr (x1.2*v1.1.cols)).toNat))) tS q4 k k k k k (aPe dR k) k k k k k k) k<|ae (cY aB k k k k k k k k k k k k) k ?_
   obtain ⟨q5,h⟩:=cg h
   refine ae (tT aB (l:=x1.1) (c:=[.own 5 0 ((([]:(List Int))++((v1.1.cells.drop (0+(wr (x1.2*v1.1.cols)).toNat)).take ((wr ((wr (x1.2*v1.1.cols))+v1.1.cols)).toNat - (wr (x1.2*v1.1.cols)).toNat))).length)]) q5 k k k k k k k k k k k k k k) k<|aa k k<|an<|bB<|tn<|aM (t:=bN [(5,.ptr 0 0 0),(6,.own 2 0 v1.2.length),(7,.own 7 0 ((x1.1++[(([]:(List Int))++((v1.1.cells.drop (0+(wr (x1.2*v1.1.cols)).toNat)).take ((wr ((wr (x1.2*v1.1.cols))+v1.1.cols)).toNat - (wr (x1.2*v1.1.cols)).toNat)))]).length)),(8,.int x1.2)] [(0,⟨3,[[.int v1.1.rows,.int v1.1.cols,.own 1 0 v1.1.cells.length]]⟩),(1,⟨1,v1.1.cells.map (ow eI)⟩),(2,⟨1,v1.2.map (ow eI)⟩),(7,⟨1,List.map (ow (cL 1 eI)) (x1.1++[(([]:(List Int))++((v1.1.cells.drop (0+(wr (x1.2*v1.1.cols)).toNat)).take ((wr ((wr (x1.2*v1.1.cols))+v1.1.cols)).toNat - (wr (x1.2*v1.1.cols)).toNat)))])⟩)] 8 [8,9]) (Ent.trans (tR (b:=7) (b':=5) (j:=0) (es':=List.map eI (([]:(List Int))++((v1.1.cells.drop (0+(wr (x1.2*v1.1.cols)).toNat)).take ((wr ((wr (x1.2*v1.1.cols))+v1.1.cols)).toNat - (wr (x1.2*v1.1.cols)).toNat)))) k k k k (aZ _ _) (dR.frzs _)) (aC (σ:=sg [(0,0),(1,1),(2,2),(7,7)]) ⟨(pE k k),(oE k k),⟨_,k,⟨k,k,(by simp only [aZ,lA,lT,lR,lC,lN]),k⟩⟩,(e1 k k),aJ⟩ (hX ⟨_,k,k,.inr ⟨_,_,k,⟨_,_,k,k,⟨_,_,k,k,⟨_,_,k,⟨k,k,k,k⟩,k⟩⟩⟩,k⟩⟩ k<|hI k k k<|hI k k k<|hX ⟨_,k,k,.inl ⟨aAA (([]:(List Int))++((v1.1.cells.drop (0+(wr (x1.2*v1.1.cols)).toNat)).take ((wr ((wr (x1.2*v1.1.cols))+v1.1.cols)).toNat - (wr (x1.2*v1.1.cols)).toNat))) k,cA.plainO _⟩⟩ k<|aJ) k)) ?_
   refine rg<|am k k<|ae (bT k k) k<|aT k2 ?_
   obtain rfl:=so h
   exact ⟨_,k,(aC (σ:=sg [(0,0),(1,1),(2,2),(3,7)]) ⟨(pE k k),(oE k k),(oE k k),(e1 k k),aJ⟩ (hX ⟨_,k,k,.inr ⟨_,_,k,⟨_,_,k,k,⟨_,_,k,k,⟨_,_,k,⟨k,k,k,k⟩,k⟩⟩⟩,k⟩⟩ k<|hI k k k<|hI k k k<|hB (cA.plainO _) k k k<|aJ) k)⟩
  ·refine aN k q2<|bC<|aE<|aE ?_
   obtain rfl:=so h
   exact ⟨_,k,k,(aC (σ:=sg [(0,3)]) ⟨(oE k k),aJ⟩ (hB (cA.plainO _) k k k<|aJ) k)⟩
 ·rintro e t ⟨rfl,hent⟩
  refine aU<|tn<|aM hent<|sR<|am k k<|aT k2<|aL ?_
  obtain rfl:=so h
  exact aS k k k (qE (iZ cA k k))
def rD (a0:Int) (a1:Int) (a2:(List (List Int))):Option Sc:=
 Option.bind (kZ a1 a2) fun v1=>
 Option.bind (jL a0 v1) fun v2=>
 some ((⟨a1,v2⟩:Sc))
theorem aCY (a0:Int) (a1:Int) (a2:(List (List Int))) (r:Sc) (h:rD a0 a1 a2=some r):HasC Tryz.prog 184 [.int a0,.int a1,.list 1 (a2.map (cL 1 eI))] (.agg (eS r)):=by
 refine bJ aB (rvs:=[.cell 6 99]) (ns:=[0,1,2,3,4]) Tryz.func184 k k Tryz.ntmps184 k k k<|sR<|ae (bV aB k k) k<|an<|tn<|sR<|am k k<|am k k ?_
 refine am k k<|am k k ?_
 obtain ⟨v1,hv1,h⟩:=ob h
 refine ae (AEff.conv (dF (x:= .agg [.int v1.rows,.int v1.cols,.own 1 0 (v1.cells.map eI).length]) (nb:=[(1,⟨1,cM (v1.cells.map eI)⟩)]) (aCX a1 a2 v1 hv1) k (by rfl) k k (bU aJ (bU aJ (bU (dR.good _) gS))) (aD (aO k) (aD (aO k) bD))) (v':= .agg [.int v1.rows,.int v1.cols,.own 1 0 v1.cells.length]) (ed':=[(1,some ⟨1,v1.cells.map (ow eI)⟩)]) (by simp only [aZ]) (fB (nb':=[(1,⟨1,v1.cells.map (ow eI)⟩)]) (by simp only [cW]))) k ?_
 obtain ⟨v2,hv2,h⟩:=ob h
 refine ae (AEff.conv (dF (x:= .own 2 0 (v2.map (cL 1 eI)).length) (nb:=[(2,⟨1,cM (v2.map (cL 1 eI))⟩)]) (aBY a0 v1 v2 hv2) k (by rfl) k k (cA.good _) (aD (aO k) (aD (cD (aR (aV k) (aR (aV k) (aR (qU dR k k) cO)))) bD))) (v':= .own 2 0 v2.length) (ed':=[(2,some ⟨1,v2.map (ow (cL 1 eI))⟩)]) (by simp only [aZ]) (fB (nb':=[(2,⟨1,v2.map (ow (cL 1 eI))⟩)]) (by simp only [cW]))) k<|ae (cS aB k k k k k k) k<|ae (bK aB k k k k k k k k) k<|an<|tn<|aL ?_
 obtain rfl:=so h
 exact aS k k k (qV (cF (k) (cF (iZ cA k k) iD)))
def lJ (a0:(List Int)) (a1:Int) (a2:Int):Option Bool:=
 bif !decide ((a0.length:Int)=a1) then
 (some (true))
 else
 (Option.bind (nP a2 a0) fun v2=>
 some (!v2))
theorem aCI (a0:(List Int)) (a1:Int) (a2:Int) (r:Bool) (h:lJ a0 a1 a2=some r):HasC Tryz.prog 257 [.list 1 (a0.map eI),.ref (eI a1),.ref (eI a2)] (.bl r):=by
 refine bJ aB (rvs:=[.tmp 4]) (ns:=[0,1]) Tryz.func257 k k Tryz.ntmps257 k k k<|sR<|aT k2<|sR<|am k k<|ln k4 ?_
 refine lr k7<|cm k4<|am k k ?_
 rcases cb h with ⟨q1,h⟩|⟨q1,h⟩
 ·refine aX 9 k q1<|aK k4<|aK k4<|pk k3<|aT k2<|aM (t:=bN [(4,.bl true)] [] 0 [0,1]) (aC (σ:=sg []) ⟨(e1 k k),aJ⟩ aJ k) ?_
  refine aL ?_
  obtain rfl:=so h
  exact aS k k k (bO k)
 ·refine aX 9 k q1<|lr k7<|am k k ?_
  obtain ⟨v2,hv2,h⟩:=ob h
  refine ae (bA (aBA a2 a0 v2 hv2) k (aD (aO k) (aD (aO k) bD))) k<|ae (cJ k) k<|pk k3<|aT k2<|aM (t:=bN [(4,.bl (!v2))] [] 0 [0,1]) (aC (σ:=sg []) ⟨(e1 k k),aJ⟩ aJ k)<|aL ?_
  obtain rfl:=so h
  exact aS k k k (bO k)
def oZ (a0:Int) (a1:Int) (a2:(List (List Int))):Option Bool:=
 Option.bind (hO a1 0 8) fun v1=>
 bif v1 then
 (bif decide ((a2.length:Int)≤16) then
 (Option.bind (eJ a2 (fun b0=>lJ b0 a1 a0)) fun v4=>
 some (!v4))
 else
 (some (false)))
 else
 (some (false))
theorem aDu (a0:Int) (a1:Int) (a2:(List (List Int))) (r:Bool) (h:oZ a0 a1 a2=some r):HasC Tryz.prog 231 [.int a0,.int a1,.list 1 (a2.map (cL 1 eI))] (.bl r):=by
 refine bJ aB (rvs:=[.tmp 6]) (ns:=[0,1,2,3]) Tryz.func231 k k Tryz.ntmps231 k k k<|sR<|ae (cE k k k k) k<|ae (cE k k k k) k<|aT k2<|sR ?_
 refine lp k8 ?_
 obtain ⟨v1,hv1,h⟩:=ob h
 refine ae (bA (kV a1 0 8 v1 hv1) k (aD (aO k) (aD (aO k) (aD (aO k) bD)))) k<|am k k ?_
 rcases cb h with ⟨q2,h⟩|⟨q2,h⟩
 ·refine aX 9 k q2<|am k k<|ln k4<|cm k4<|pk k3<|am k k ?_
  rcases cb h with ⟨q3,h⟩|⟨q3,h⟩
  ·refine aX 14 k q3<|am k k<|ae (aAh (vs:=[.ptr 1 0 0,.ptr 0 0 0]) k (by simp)) k ?_
   obtain ⟨v4,hv4,h⟩:=ob h
   refine ae (bA (kO a2 (fun b0=>lJ b0 a1 a0) k (fun b0 r h=>aCI b0 a1 a0 r h) v4 hv4) k (aD (aO k) (aD (aIs (aBu (aEk k k (aR (aV k) cO)) (aBu (aEk k k (aR (aV k) cO)) aBt))) bD))) k<|ae (cJ k) k<|pk k3<|aT k2<|aM (t:=bN [(6,.bl (!v4))] [] 2 [2,3]) (aC (σ:=sg []) ⟨(e1 k k),aJ⟩ aJ k)<|aL ?_
   obtain rfl:=so h
   exact aS k k k (bO k)
  ·refine aX 14 k q3<|aK k4<|aK k4<|pk k3<|aT k2<|aM (t:=bN [(6,.bl false)] [] 2 [2,3]) (aC (σ:=sg []) ⟨(e1 k k),aJ⟩ aJ k) ?_
   refine aL ?_
   obtain rfl:=so h
   exact aS k k k (bO k)
 ·refine aX 9 k q2<|aK k4<|ak k k<|pk k3<|am k k<|aK k4<|aK k4 ?_
  refine pk k3<|aT k2<|aM (t:=bN [(6,.bl false)] [] 2 [2,3]) (aC (σ:=sg []) ⟨(e1 k k),aJ⟩ aJ k)<|aL ?_
  obtain rfl:=so h
  exact aS k k k (bO k)
def iJ (a0:(List Int)) (a1:(List Int)):Option Bool:=
 Option.bind (lU a0 a1) fun v1=>
 some (v1)
theorem aBZ (a0:(List Int)) (a1:(List Int)) (r:Bool) (h:iJ a0 a1=some r):HasC Tryz.prog 259 [.list 1 (a0.map eI),.list 1 (a1.map eI)] (.bl r):=by
 refine bJ aB (rvs:=[.tmp 4]) (ns:=[0,1]) Tryz.func259 k k Tryz.ntmps259 k k k<|sR<|aT k2<|sR<|am k k<|am k k ?_
 obtain ⟨v1,hv1,h⟩:=ob h
 refine ae (bA (aAY a0 a1 v1 hv1) k (aD (aO k) (aD (aO k) bD))) k<|aT k2<|aL ?_
 obtain rfl:=so h
 exact aS k k k (bO k)
def dS (a0:(List (List Int))) (a1:(List (List Int))) (a2:((List Int)→(List Int)→Option Bool)) (x1:Int):Option (Int ⊕ (Unit ⊕ Bool)):=
 bif decide (x1<(a0.length:Int)) then
 (Option.bind (dY a0 x1) fun v3=>
 Option.bind (dY a1 x1) fun v4=>
 Option.bind (a2 v3 v4) fun v5=>
 bif !v5 then
 (some (.inr (.inr (false))))
 else
 (some (.inl (wr (x1+1)))))
 else
 (some (.inr (.inl ())))
def eC (a0:(List (List Int))) (a1:(List (List Int))) (a2:((List Int)→(List Int)→Option Bool)):Option Bool:=
 bif !decide ((a0.length:Int)=(a1.length:Int)) then
 (some (false))
 else
 (Option.bind (Lp (dS a0 a1 a2) 0) fun y7=>
 Sum.elim (fun y8=>
 some (true)
 )
 (fun y9=>
 some y9
 )
 y7)
theorem oH (a0:(List (List Int))) (a1:(List (List Int))) (a2:((List Int)→(List Int)→Option Bool)) {f2:FuncId} {c2:List AV} (hc2:c2.all eP=true) (hf2: ∀ b0 b1 r,a2 b0 b1=some r→HasC Tryz.prog f2 ([.list 1 (b0.map eI),.list 1 (b1.map eI)]++c2) (.bl r)) (r:Bool) (h:eC a0 a1 a2=some r):HasC Tryz.prog 258 [.list 1 (a0.map (cL 1 eI)),.list 1 (a1.map (cL 1 eI)),.fn f2 c2] (.bl r):=by
 refine bJ aB (rvs:=[.tmp 6]) (ns:=[0,1]) Tryz.func258 k k Tryz.ntmps258 k k (oT k (oT k (oT hc2 aEp)))<|sR<|aT k2<|sQ<|sR<|am k k ?_
 refine ln k4<|am k k<|ln k4<|cm k4<|an<|tn ?_
 rcases cb h with ⟨q1,h⟩|⟨q1,h⟩
 ·refine aH k q1<|sR<|aT k2<|aL<|aG ?_
  obtain rfl:=so h
  exact aS k k k (bO k)
 ·refine aN k q1<|aQ<|tn<|sQ<|sR<|am k k<|ln k4<|am k k<|an ?_
  refine tn<|aI ?_
  obtain ⟨y7,hy7,h⟩:=ob h
  refine cV (body:=(dS a0 a1 a2)) hy7 (fun (x1:Int)=>bN [(1,.list 1 (a1.map (cL 1 eI))),(2,.fn f2 c2),(15,.list 1 (a0.map (cL 1 eI))),(16,.int (a0.length:Int)),(17,.int x1)] [] 0 [0,1]) (fun r e t=>Sum.elim (fun a=>(fun r e t=>e= .exit 0∧Ent t (bN [] [] 0 [0,1])) a e t) (fun b=>(fun r e t=>e= .ret∧oD TT [.tmp 6] (.bl r) .ret t) b e t) r) (aC (σ:=sg []) ⟨⟨_,k,⟨k,k⟩⟩,⟨_,k,⟨k,nY _ hc2⟩⟩,⟨_,k,⟨k,k⟩⟩,(e1 k k),(e1 k k),aJ⟩ aJ k) ?_ ?_
  ·intro x1 o h
   refine sR<|cm k4<|an<|tn<|sQ ?_
   rcases cb h with ⟨q2,h⟩|⟨q2,h⟩
   ·refine aH k q2<|aQ<|tn<|sQ<|aI<|sR<|am k k ?_
    obtain ⟨v3,hv3,h⟩:=ob h
    refine ae (bF aB hv3 k k k k k k) k<|lr k7<|aa k k<|aT k2<|sR<|am k k<|am k k ?_
    obtain ⟨v4,hv4,h⟩:=ob h
    refine ae (bF aB hv4 k k k k k k) k<|lr k7<|aT k2<|sR<|am k k<|am k k<|am k k ?_
    obtain ⟨v5,hv5,h⟩:=ob h
    refine ae (aDc hc2 (hf2 v3 v4 v5 hv5) k k (aD (aO k) (aD (aO k) bD))) k<|ae (cJ k) k<|an<|tn<|aM (t:=bN [(1,.list 1 (a1.map (cL 1 eI))),(2,.fn f2 c2),(15,.list 1 (a0.map (cL 1 eI))),(16,.int (a0.length:Int)),(17,.int x1),(30,.bl (!v5))] [] 0 [0,1]) (aC (σ:=sg []) ⟨⟨_,k,⟨k,k⟩⟩,⟨_,k,⟨k,nY _ hc2⟩⟩,⟨_,k,⟨k,k⟩⟩,(e1 k k),(e1 k k),(e1 k k),aJ⟩ aJ k) ?_
    rcases cb h with ⟨q6,h⟩|⟨q6,h⟩
    ·refine aH k q6<|sR<|aT k2<|aL<|aY<|aG<|aG ?_
     obtain rfl:=so h
     exact ⟨_,k,k,aS k k k (bO k)⟩
    ·refine aN k q6<|aQ<|bB<|tn<|rg<|ae (bT k k) k<|am k k<|an<|tn ?_
     obtain rfl:=so h
     exact ⟨_,k,(aC (σ:=sg []) ⟨⟨_,k,⟨k,k⟩⟩,⟨_,k,⟨k,nY _ hc2⟩⟩,⟨_,k,⟨k,k⟩⟩,(e1 k k),(e1 k k),aJ⟩ aJ k)⟩
   ·refine aN k q2<|bC<|aE<|aE ?_
    obtain rfl:=so h
    exact ⟨_,k,k,(aC (σ:=sg []) aJ aJ k)⟩
  ·intro e t hX
   rcases y7 with y8|y9
   ·obtain ⟨rfl,hent⟩:=hX
    refine aU<|tn<|aM hent<|sR<|aT k2<|aL ?_
    obtain rfl:=so h
    exact aS k k k (bO k)
   ·obtain ⟨rfl,hent⟩:=hX
    refine aY<|aG ?_
    obtain rfl:=so h
    exact hent
def mW (a0:Sc) (a1:Sc):Option Bool:=
 bif decide (a0.size=a1.size) then
 (Option.bind (eC a0.basis a1.basis (fun b0 b1=>iJ b0 b1)) fun v2=>
 some (v2))
 else
 (some (false))
theorem aCq (a0:Sc) (a1:Sc) (r:Bool) (h:mW a0 a1=some r):HasC Tryz.prog 232 [.agg (eS a0),.agg (eS a1)] (.bl r):=by
 refine bJ aB (rvs:=[.tmp 4]) (ns:=[0,1,2,3]) Tryz.func232 k k Tryz.ntmps232 k k k<|sR<|ae (cE k k k k) k<|ae (cE k k k k) k<|aT k2<|sR ?_
 refine fp k8<|lp k8<|fp k8<|lp k8<|cm k4<|am k k ?_
 rcases cb h with ⟨q1,h⟩|⟨q1,h⟩
 ·refine aX 10 k q1<|fp k8<|lp k8<|fp k8<|lp k8 ?_
  obtain ⟨v2,hv2,h⟩:=ob h
  refine ae (bA (oH a0.basis a1.basis (fun b0 b1=>iJ b0 b1) k (fun b0 b1 r h=>aBZ b0 b1 r h) v2 hv2) k (aD (aO k) (aD (aO k) (aD (aIs aBt) bD)))) k<|pk k3<|aT k2<|aM (t:=bN [(4,.bl v2)] [] 2 [2,3]) (aC (σ:=sg []) ⟨(e1 k k),aJ⟩ aJ k)<|aL ?_
  obtain rfl:=so h
  exact aS k k k (bO k)
 ·refine aX 10 k q1<|aK k4<|aK k4<|ak k k<|pk k3<|aT k2 ?_
  refine aM (t:=bN [(4,.bl false)] [] 2 [2,3]) (aC (σ:=sg []) ⟨(e1 k k),aJ⟩ aJ k)<|aL ?_
  obtain rfl:=so h
  exact aS k k k (bO k)
def uF (a0:Int) (a1:Sc):Option Bool:=
 Option.bind (iH a0) fun v1=>
 bif !v1 then
 (some (false))
 else
 (Option.bind (oZ a0 a1.size a1.basis) fun v3=>
 bif !v3 then
 (some (false))
 else
 (Option.bind (wK a0 a1.size a1.basis) fun v5=>
 Option.bind (mW v5 a1) fun v6=>
 some (v6)))
theorem aHg (a0:Int) (a1:Sc) (r:Bool) (h:uF a0 a1=some r):HasC Tryz.prog 197 [.int a0,.agg (eS a1)] (.bl r):=by
 refine bJ aB (rvs:=[.tmp 4]) (ns:=[0,1,2,3]) Tryz.func197 k k Tryz.ntmps197 k k k<|sR<|ae (cE k k k k) k<|aT k2<|sQ<|sR ?_
 refine am k k ?_
 obtain ⟨v1,hv1,h⟩:=ob h
 refine ae (bA (lW a0 v1 hv1) k (aD (aO k) bD)) k<|ae (cJ k) k<|am k k ?_
 rcases cb h with ⟨q2,h⟩|⟨q2,h⟩
 ·refine aX 8 k q2<|aK k4<|aK k4<|aK k4<|ak k k<|pk k3<|an ?_
  refine tn<|aM (t:=bN [(0,.int a0),(3,.ptr 0 0 0),(16,.bl true)] [(0,⟨2,[[.int a1.size,.list 1 (a1.basis.map (cL 1 eI))]]⟩)] 1 [1,2,3]) (aC (σ:=sg [(0,0)]) ⟨(e1 k k),(pE k k),(e1 k k),aJ⟩ (hP k k k k<|aJ) k)<|aH k k<|sR<|aT k2<|aL<|aG ?_
  obtain rfl:=so h
  exact aS k k k (bO k)
 ·refine aX 8 k q2<|am k k<|fp k8<|lp k8<|fp k8<|lp k8 ?_
  obtain ⟨v3,hv3,h⟩:=ob h
  refine ae (bA (aDu a0 a1.size a1.basis v3 hv3) k (aD (aO k) (aD (aO k) (aD (aO k) bD)))) k<|ae (cJ k) k<|pk k3<|an<|tn<|aM (t:=bN [(0,.int a0),(3,.ptr 0 0 0),(16,.bl (!v3))] [(0,⟨2,[[.int a1.size,.list 1 (a1.basis.map (cL 1 eI))]]⟩)] 1 [1,2,3]) (aC (σ:=sg [(0,0)]) ⟨(e1 k k),(pE k k),(e1 k k),aJ⟩ (hP k k k k<|aJ) k) ?_
  rcases cb h with ⟨q4,h⟩|⟨q4,h⟩
  ·refine aH k q4<|sR<|aT k2<|aL<|aG ?_
   obtain rfl:=so h
   exact aS k k k (bO k)
  ·refine aN k q4<|aQ<|tn<|sQ<|aW kI<|am k k<|fp k8<|lp k8<|fp k8<|lp k8 ?_
   obtain ⟨v5,hv5,h⟩:=ob h
   refine ae (AEff.conv (dF (x:= .agg [.int v5.size,.own 1 0 (v5.basis.map (cL 1 eI)).length]) (nb:=[(1,⟨1,cM (v5.basis.map (cL 1 eI))⟩)]) (aFg a0 a1.size a1.basis v5 hv5) k (by rfl) k k (bU aJ (bU (cA.good _) gS)) (aD (aO k) (aD (aO k) (aD (aO k) bD)))) (v':= .agg [.int v5.size,.own 1 0 v5.basis.length]) (ed':=[(1,some ⟨1,v5.basis.map (ow (cL 1 eI))⟩)]) (by simp only [aZ]) (fB (nb':=[(1,⟨1,v5.basis.map (ow (cL 1 eI))⟩)]) (by simp only [cW]))) k<|lp k8 ?_
   obtain ⟨v6,hv6,h⟩:=ob h
   refine ae (bA (aCq v5 a1 v6 hv6) k (aD (cD (aR (aV k) (aR (qU cA k k) cO))) (aD (cD (aR (aV k) (aR (aV k) cO))) bD))) k<|aa k k<|an ?_
   refine ⟨by kernel_rfl,?_⟩
   refine tn<|aL ?_
   obtain rfl:=so h
   exact aS k k k (bO k)
def jA (a0:Int) (a1:Int) (a2:(List (List Int))) (x1:Int):Option (Int ⊕ (Unit ⊕ Bool)):=
 bif decide (x1<(a2.length:Int)) then
 (Option.bind (dY a2 x1) fun v2=>
 bif !decide ((v2.length:Int)=a1) then
 (some (.inr (.inr (false))))
 else
 (Option.bind (dY a2 x1) fun v4=>
 Option.bind (gQ a0 v4) fun v5=>
 bif !v5 then
 (some (.inr (.inr (false))))
 else
 (some (.inl (wr (x1+1))))))
 else
 (some (.inr (.inl ())))
def oA (a0:Int) (a1:Int) (a2:(List (List Int))):Option Bool:=
 Option.bind (Lp (jA a0 a1 a2) 0) fun y7=>
 Sum.elim (fun y8=>
 Option.bind (iE a0) fun v9=>
 bif v9 then
 (Option.bind (fU a1 0 8) fun v11=>
 bif v11 then
 (some (decide ((a2.length:Int)≤16)))
 else
 (some (false)))
 else
 (some (false))
 )
 (fun y13=>
 some y13
 )
 y7
theorem aIT (a0:Int) (a1:Int) (a2:(List (List Int))) (r:Bool) (h:oA a0 a1 a2=some r):HasC Tryz.prog 180 [.int a0,.int a1,.list 1 (a2.map (cL 1 eI))] (.bl r):=by
 refine bJ aB (rvs:=[.tmp 6]) (ns:=[0,1]) Tryz.func180 k k Tryz.ntmps180 k k k<|sR<|aT k2<|sQ<|sR<|aa k k ?_
 refine an<|tn<|aI ?_
 obtain ⟨y7,hy7,h⟩:=ob h
 refine cV (body:=(jA a0 a1 a2)) hy7 (fun (x1:Int)=>bN [(0,.int a0),(1,.int a1),(2,.list 1 (a2.map (cL 1 eI))),(7,.int x1)] [] 0 [0,1]) (fun r e t=>Sum.elim (fun a=>(fun r e t=>e= .exit 0∧Ent t (bN [(0,.int a0),(1,.int a1),(2,.list 1 (a2.map (cL 1 eI)))] [] 0 [0,1])) a e t) (fun b=>(fun r e t=>e= .ret∧oD TT [.tmp 6] (.bl r) .ret t) b e t) r) (aC (σ:=sg []) ⟨(e1 k k),(e1 k k),⟨_,k,⟨k,k⟩⟩,(e1 k k),aJ⟩ aJ k) ?_ ?_
 ·intro x1 o h
  refine sQ<|sR<|am k k<|am k k<|ln k4<|cm k4<|an<|tn ?_
  rcases cb h with ⟨q1,h⟩|⟨q1,h⟩
  ·refine aH k q1<|aQ<|tn<|sQ<|aI<|sR<|am k k<|am k k ?_
   obtain ⟨v2,hv2,h⟩:=ob h
   refine ae (bF aB hv2 k k k k k k) k<|lr k7<|ln k4<|am k k<|cm k4<|am k k ?_
   rcases cb h with ⟨q3,h⟩|⟨q3,h⟩
   ·refine aX 21 k q3<|aK k4<|aK k4<|aK k4<|ak k k<|pk k3<|an ?_
    refine tn<|aM (t:=bN [(0,.int a0),(1,.int a1),(2,.list 1 (a2.map (cL 1 eI))),(7,.int x1),(29,.bl true)] [] 0 [0,1]) (aC (σ:=sg []) ⟨(e1 k k),(e1 k k),⟨_,k,⟨k,k⟩⟩,(e1 k k),(e1 k k),aJ⟩ aJ k)<|aH k k<|sR<|aT k2<|aL<|aY ?_
    refine aG<|aG ?_
    obtain rfl:=so h
    exact ⟨_,k,k,aS k k k (bO k)⟩
   ·refine aX 21 k q3<|am k k<|am k k<|am k k ?_
    obtain ⟨v4,hv4,h⟩:=ob h
    refine ae (bF aB hv4 k k k k k k) k<|lr k7 ?_
    obtain ⟨v5,hv5,h⟩:=ob h
    refine ae (bA (wQ a0 v4 v5 hv5) k (aD (aO k) (aD (aO k) bD))) k<|ae (cJ k) k<|pk k3<|an<|tn<|aM (t:=bN [(0,.int a0),(1,.int a1),(2,.list 1 (a2.map (cL 1 eI))),(7,.int x1),(29,.bl (!v5))] [] 0 [0,1]) (aC (σ:=sg []) ⟨(e1 k k),(e1 k k),⟨_,k,⟨k,k⟩⟩,(e1 k k),(e1 k k),aJ⟩ aJ k) ?_
    rcases cb h with ⟨q6,h⟩|⟨q6,h⟩
    ·refine aH k q6<|sR<|aT k2<|aL<|aY<|aG<|aG ?_
     obtain rfl:=so h
     exact ⟨_,k,k,aS k k k (bO k)⟩
    ·refine aN k q6<|aQ<|bB<|tn<|rg<|am k k<|ae (bT k k) k<|aT k2 ?_
     obtain rfl:=so h
     exact ⟨_,k,(aC (σ:=sg []) ⟨(e1 k k),(e1 k k),⟨_,k,⟨k,k⟩⟩,(e1 k k),aJ⟩ aJ k)⟩
  ·refine aN k q1<|bC<|aE<|aE ?_
   obtain rfl:=so h
   exact ⟨_,k,k,(aC (σ:=sg []) ⟨(e1 k k),(e1 k k),⟨_,k,⟨k,k⟩⟩,aJ⟩ aJ k)⟩
 ·intro e t hX
  rcases y7 with y8|y13
  ·obtain ⟨rfl,hent⟩:=hX
   refine aU<|tn<|aM hent<|sR<|am k k ?_
   obtain ⟨v9,hv9,h⟩:=ob h
   refine ae (bA (lV a0 v9 hv9) k (aD (aO k) bD)) k<|am k k ?_
   rcases cb h with ⟨q10,h⟩|⟨q10,h⟩
   ·refine aX 32 k q10<|am k k ?_
    obtain ⟨v11,hv11,h⟩:=ob h
    refine ae (bA (gP a1 0 8 v11 hv11) k (aD (aO k) (aD (aO k) (aD (aO k) bD)))) k<|pk k3<|am k k ?_
    rcases cb h with ⟨q12,h⟩|⟨q12,h⟩
    ·refine aX 36 k q12<|am k k<|ln k4<|cm k4<|pk k3<|aT k2<|aM (t:=bN [(6,.bl (decide ((a2.length:Int)≤16)))] [] 0 [0,1]) (aC (σ:=sg []) ⟨(e1 k k),aJ⟩ aJ k)<|aL ?_
     obtain rfl:=so h
     exact aS k k k (bO k)
    ·refine aX 36 k q12<|aK k4<|ak k k<|pk k3<|aT k2<|aM (t:=bN [(6,.bl false)] [] 0 [0,1]) (aC (σ:=sg []) ⟨(e1 k k),aJ⟩ aJ k)<|aL ?_
     obtain rfl:=so h
     exact aS k k k (bO k)
   ·refine aX 32 k q10<|aK k4<|pk k3<|am k k<|aK k4<|ak k k<|pk k3<|aa k k ?_
    refine an<|tn<|aM (t:=bN [(6,.bl false)] [] 0 [0,1]) (aC (σ:=sg []) ⟨(e1 k k),aJ⟩ aJ k)<|aL ?_
    obtain rfl:=so h
    exact aS k k k (bO k)
  ·obtain ⟨rfl,hent⟩:=hX
   refine aY<|aG ?_
   obtain rfl:=so h
   exact hent
def mE (a0:(List (List Int))) (a1:(List (List Int))) (x1:Int) (x2:Int):Option (Int ⊕ (Unit ⊕ Bool)):=
 Option.bind (dY a0 x1) fun v6=>
 bif decide (x2<(v6.length:Int)) then
 (Option.bind (dY a0 x1) fun v8=>
 Option.bind (dY v8 x2) fun v9=>
 Option.bind (dY a1 x1) fun v10=>
 Option.bind (dY v10 x2) fun v11=>
 bif !decide (v9=v11) then
 (some (.inr (.inr (false))))
 else
 (some (.inl (wr (x2+1)))))
 else
 (some (.inr (.inl ())))
def jB (a0:(List (List Int))) (a1:(List (List Int))) (x1:Int):Option (Int ⊕ (Unit ⊕ Bool)):=
 bif decide (x1<(a0.length:Int)) then
 (Option.bind (dY a0 x1) fun v3=>
 Option.bind (dY a1 x1) fun v4=>
 bif !decide ((v3.length:Int)=(v4.length:Int)) then
 (some (.inr (.inr (false))))
 else
 (Option.bind (Lp (mE a0 a1 x1) 0) fun y13=>
 Sum.elim (fun y14=>
 some (.inl (wr (x1+1)))
 )
 (fun y15=>
 some (.inr (.inr y15))
 )
 y13))
 else
 (some (.inr (.inl ())))
def oB (a0:(List (List Int))) (a1:(List (List Int))):Option Bool:=
 bif !decide ((a0.length:Int)=(a1.length:Int)) then
 (some (false))
 else
 (Option.bind (Lp (jB a0 a1) 0) fun y16=>
 Sum.elim (fun y17=>
 some (true)
 )
 (fun y18=>
 some y18
 )
 y16)
theorem aIU (a0:(List (List Int))) (a1:(List (List Int))) (r:Bool) (h:oB a0 a1=some r):HasC Tryz.prog 181 [.list 1 (a0.map (cL 1 eI)),.list 1 (a1.map (cL 1 eI))] (.bl r):=by
 refine bJ aB (rvs:=[.tmp 4]) (ns:=[0,1]) Tryz.func181 k k Tryz.ntmps181 k k k<|sR<|aT k2<|sQ<|sR<|am k k ?_
 refine ln k4<|am k k<|ln k4<|cm k4<|an<|tn ?_
 rcases cb h with ⟨q1,h⟩|⟨q1,h⟩
 ·refine aH k q1<|sR<|aT k2<|aL<|aG ?_
  obtain rfl:=so h
  exact aS k k k (bO k)
 ·refine aN k q1<|aQ<|tn<|sQ<|sR<|aT k2<|aI ?_
  obtain ⟨y16,hy16,h⟩:=ob h
  refine cV (body:=(jB a0 a1)) hy16 (fun (x1:Int)=>bN [(0,.list 1 (a0.map (cL 1 eI))),(1,.list 1 (a1.map (cL 1 eI))),(5,.int x1)] [] 0 [0,1]) (fun r e t=>Sum.elim (fun a=>(fun r e t=>e= .exit 0∧Ent t (bN [] [] 0 [0,1])) a e t) (fun b=>(fun r e t=>e= .ret∧oD TT [.tmp 4] (.bl r) .ret t) b e t) r) (aC (σ:=sg []) ⟨⟨_,k,⟨k,k⟩⟩,⟨_,k,⟨k,k⟩⟩,(e1 k k),aJ⟩ aJ k) ?_ ?_
  ·intro x1 o h
   refine sQ<|sR<|am k k<|am k k<|ln k4<|cm k4<|an<|tn ?_
   rcases cb h with ⟨q2,h⟩|⟨q2,h⟩
   ·refine aH k q2<|aQ<|tn<|sQ<|aI<|sQ<|sQ<|aW kI<|am k k<|am k k ?_
    obtain ⟨v3,hv3,h⟩:=ob h
    refine ae (bF aB hv3 k k k k k k) k<|lr k7<|ln k4<|am k k<|am k k ?_
    obtain ⟨v4,hv4,h⟩:=ob h
    refine ae (bF aB hv4 k k k k k k) k<|lr k7<|ln k4<|cm k4<|an ?_
    refine ⟨by kernel_rfl,?_⟩
    refine tn<|aM (t:=bN [(0,.list 1 (a0.map (cL 1 eI))),(1,.list 1 (a1.map (cL 1 eI))),(5,.int x1),(28,.bl (!decide ((v3.length:Int)=(v4.length:Int))))] [] 0 [0,1]) (aC (σ:=sg []) ⟨⟨_,k,⟨k,k⟩⟩,⟨_,k,⟨k,k⟩⟩,(e1 k k),(e1 k k),aJ⟩ aJ k) ?_
    rcases cb h with ⟨q5,h⟩|⟨q5,h⟩
    ·refine aH k q5<|sR<|aT k2<|aL<|aG<|aY<|aG ?_
     refine aG ?_
     obtain rfl:=so h
     exact ⟨_,k,k,aS k k k (bO k)⟩
    ·refine aN k q5<|aQ<|tn<|sR<|aT k2<|aI ?_
     obtain ⟨y13,hy13,h⟩:=ob h
     refine cV (body:=(mE a0 a1 x1)) hy13 (fun (x2:Int)=>bN [(0,.list 1 (a0.map (cL 1 eI))),(1,.list 1 (a1.map (cL 1 eI))),(5,.int x1),(6,.int x2)] [] 0 [0,1]) (fun r e t=>Sum.elim (fun a=>(fun r e t=>e= .exit 2∧Ent t (bN [(0,.list 1 (a0.map (cL 1 eI))),(1,.list 1 (a1.map (cL 1 eI))),(5,.int x1)] [] 0 [0,1])) a e t) (fun b=>(fun r e t=>e= .ret∧oD TT [.tmp 4] (.bl r) .ret t) b e t) r) (aC (σ:=sg []) ⟨⟨_,k,⟨k,k⟩⟩,⟨_,k,⟨k,k⟩⟩,(e1 k k),(e1 k k),aJ⟩ aJ k) ?_ ?_
     ·intro x2 o h
      refine sQ<|sR<|am k k<|am k k<|am k k ?_
      obtain ⟨v6,hv6,h⟩:=ob h
      refine ae (bF aB hv6 k k k k k k) k<|lr k7<|ln k4<|cm k4<|an<|tn ?_
      rcases cb h with ⟨q7,h⟩|⟨q7,h⟩
      ·refine aH k q7<|aQ<|tn<|sQ<|aI<|sQ<|aW kI<|am k k<|am k k ?_
       obtain ⟨v8,hv8,h⟩:=ob h
       refine ae (bF aB hv8 k k k k k k) k<|lr k7<|am k k ?_
       obtain ⟨v9,hv9,h⟩:=ob h
       refine ae (bF aB hv9 k k k k k k) k<|lr k7<|am k k<|am k k ?_
       obtain ⟨v10,hv10,h⟩:=ob h
       refine ae (bF aB hv10 k k k k k k) k<|lr k7<|am k k ?_
       obtain ⟨v11,hv11,h⟩:=ob h
       refine ae (bF aB hv11 k k k k k k) k<|lr k7<|cm k4<|an ?_
       refine ⟨by kernel_rfl,?_⟩
       refine tn<|aM (t:=bN [(0,.list 1 (a0.map (cL 1 eI))),(1,.list 1 (a1.map (cL 1 eI))),(5,.int x1),(6,.int x2),(52,.bl (!decide (v9=v11)))] [] 0 [0,1]) (aC (σ:=sg []) ⟨⟨_,k,⟨k,k⟩⟩,⟨_,k,⟨k,k⟩⟩,(e1 k k),(e1 k k),(e1 k k),aJ⟩ aJ k) ?_
       rcases cb h with ⟨q12,h⟩|⟨q12,h⟩
       ·refine aH k q12<|sR<|aT k2<|aL<|aY<|aG<|aG ?_
        obtain rfl:=so h
        exact ⟨_,k,k,aS k k k (bO k)⟩
       ·refine aN k q12<|aQ<|bB<|tn<|rg<|am k k<|ae (bT k k) k<|aT k2 ?_
        obtain rfl:=so h
        exact ⟨_,k,(aC (σ:=sg []) ⟨⟨_,k,⟨k,k⟩⟩,⟨_,k,⟨k,k⟩⟩,(e1 k k),(e1 k k),aJ⟩ aJ k)⟩
      ·refine aN k q7<|bC<|aE<|aE ?_
       obtain rfl:=so h
       exact ⟨_,k,k,(aC (σ:=sg []) ⟨⟨_,k,⟨k,k⟩⟩,⟨_,k,⟨k,k⟩⟩,(e1 k k),aJ⟩ aJ k)⟩
     ·intro e t hX
      rcases y13 with y14|y15
      ·obtain ⟨rfl,hent⟩:=hX
       refine aU<|bB<|tn<|aM hent<|rg<|am k k<|ae (bT k k) k<|aT k2 ?_
       obtain rfl:=so h
       exact ⟨_,k,(aC (σ:=sg []) ⟨⟨_,k,⟨k,k⟩⟩,⟨_,k,⟨k,k⟩⟩,(e1 k k),aJ⟩ aJ k)⟩
      ·obtain ⟨rfl,hent⟩:=hX
       refine aY<|aY<|aG<|aG ?_
       obtain rfl:=so h
       exact ⟨_,k,k,hent⟩
   ·refine aN k q2<|bC<|aE<|aE ?_
    obtain rfl:=so h
    exact ⟨_,k,k,(aC (σ:=sg []) aJ aJ k)⟩
  ·intro e t hX
   rcases y16 with y17|y18
   ·obtain ⟨rfl,hent⟩:=hX
    refine aU<|tn<|aM hent<|sR<|aT k2<|aL ?_
    obtain rfl:=so h
    exact aS k k k (bO k)
   ·obtain ⟨rfl,hent⟩:=hX
    refine aY<|aG ?_
    obtain rfl:=so h
    exact hent
def fZ (a0:Int) (a1:Sc):Option Bool:=
 Option.bind (oA a0 a1.size a1.basis) fun v1=>
 bif !v1 then
 (some (false))
 else
 (Option.bind (kZ a1.size a1.basis) fun v3=>
 Option.bind (jL a0 v3) fun v4=>
 Option.bind (oB v4 a1.basis) fun v5=>
 some (v5))
theorem pS (a0:Int) (a1:Sc) (r:Bool) (h:fZ a0 a1=some r):HasC Tryz.prog 135 [.int a0,.agg (eS a1)] (.bl r):=by
 refine bJ aB (rvs:=[.tmp 4]) (ns:=[0,1,2,3,4]) Tryz.func135 k k Tryz.ntmps135 k k k<|sR<|ae (cE k k k k) k<|aT k2<|sQ<|sR ?_
 refine am k k<|fp k8<|lp k8<|fp k8<|lp k8 ?_
 obtain ⟨v1,hv1,h⟩:=ob h
 refine ae (bA (aIT a0 a1.size a1.basis v1 hv1) k (aD (aO k) (aD (aO k) (aD (aO k) bD)))) k<|ae (cJ k) k<|an<|tn ?_
 rcases cb h with ⟨q2,h⟩|⟨q2,h⟩
 ·refine aH k q2<|sR<|aT k2<|aL<|aG ?_
  obtain rfl:=so h
  exact aS k k k (bO k)
 ·refine aN k q2<|aQ<|tn<|sQ<|aW kI<|am k k<|fp k8<|lp k8<|fp k8<|lp k8 ?_
  obtain ⟨v3,hv3,h⟩:=ob h
  refine ae (AEff.conv (dF (x:= .agg [.int v3.rows,.int v3.cols,.own 1 0 (v3.cells.map eI).length]) (nb:=[(1,⟨1,cM (v3.cells.map eI)⟩)]) (aCX a1.size a1.basis v3 hv3) k (by rfl) k k (bU aJ (bU aJ (bU (dR.good _) gS))) (aD (aO k) (aD (aO k) bD))) (v':= .agg [.int v3.rows,.int v3.cols,.own 1 0 v3.cells.length]) (ed':=[(1,some ⟨1,v3.cells.map (ow eI)⟩)]) (by simp only [aZ]) (fB (nb':=[(1,⟨1,v3.cells.map (ow eI)⟩)]) (by simp only [cW]))) k ?_
  obtain ⟨v4,hv4,h⟩:=ob h
  refine ae (AEff.conv (dF (x:= .own 2 0 (v4.map (cL 1 eI)).length) (nb:=[(2,⟨1,cM (v4.map (cL 1 eI))⟩)]) (aBY a0 v3 v4 hv4) k (by rfl) k k (cA.good _) (aD (aO k) (aD (cD (aR (aV k) (aR (aV k) (aR (qU dR k k) cO)))) bD))) (v':= .own 2 0 v4.length) (ed':=[(2,some ⟨1,v4.map (ow (cL 1 eI))⟩)]) (by simp only [aZ]) (fB (nb':=[(2,⟨1,v4.map (ow (cL 1 eI))⟩)]) (by simp only [cW]))) k<|fp k8<|lp k8 ?_
  obtain ⟨v5,hv5,h⟩:=ob h
  refine ae (bA (aIU v4 a1.basis v5 hv5) k (aD (aFr cA k k) (aD (aO k) bD))) k<|aa k k<|an ?_
  refine ⟨by kernel_rfl,?_⟩
  refine tn<|aM (t:=bN [(4,.bl v5)] [] 3 [3,4]) (aC (σ:=sg []) ⟨(e1 k k),aJ⟩ aJ k)<|aL ?_
  obtain rfl:=so h
  exact aS k k k (bO k)
end
noncomputable section
theorem aNc {l:List (List Int)} {n:Nat} (h: ∀ v∈l,v.length=n):l=(List.range l.length).map fun i=>mB n (dH l i):=by
 refine List.ext_getElem (by simp) fun i h1 h2=>?_
 simp only [List.getElem_map,List.getElem_range]
 refine List.ext_getElem (by rw [fN];exact h _ (List.getElem_mem h1)) fun j h3 h4=>?_
 simp [mB,dH,h1,h3]
theorem aJN {l:List (List Int)} {n:Nat} (h: ∀ v∈l,v.length=n):l.flatten=dI l.length n (dH l):=by
 have e:l.flatten=((List.range l.length).map fun i=>mB n (dH l i)).flatten:=by rw [←aNc h]
 rw [e,aLQ]
theorem aKI {p:Int} (hp:lE p=true) {n:Nat} {l:List (List Int)} (hn:n≤1024) (hl:l.length≤512) (h:VecsP p n l):Tb p l.length n (dH l):=by
 refine ⟨hp,?_,by omega,by omega,h.inP⟩
 have:=Nat.mul_le_mul hl hn
 omega
theorem aLR {r c i:Nat} (hN:r*c≤1048576) (hr:r≤1048576) (hi:i<r) (F:Nat→Nat→Int):((dI r c F).drop (0+(i*c))).take ((i*c+c) - i*c)=mB c (F i):=by
 have h:= @aHY r c i hi
 rw [Nat.succ_mul] at h
 refine List.ext_getElem (by simp [iC,fN];omega) fun t h1 h2=>?_
 rw [fN] at h2
 rw [List.getElem_take,List.getElem_drop]
 simp [dI,mB,aHD h2,aHE h2]
theorem aCZ (F:Nat→Nat→Int) (r n:Nat):fW F r n=(List.range r).map fun i=>mB n (F i):=rfl
theorem aCa (F:Nat→Nat→Int) (r n:Nat):fW F r n++[mB n (F r)]=fW F (r+1) n:=by
 rw [aCZ,aCZ,List.range_succ,List.map_append];rfl
theorem aMh {n:Nat} {l:List (List Int)} (hn:n≤1024) (hl:l.length≤512) (h: ∀ v∈l,v.length=n):rV n l=some ⟨l.length,n,dI l.length n (dH l)⟩:=by
 unfold rV
 rw [aPm hl (fun v hv=>by rw [h v hv];exact hn),Option.bind_some,aJN h]
theorem aHh {p:Int} (hp:lE p=true) {n:Nat} {l:List (List Int)} (hn:n≤1024) (hl:l.length≤512) (h:VecsP p n l):wK p n l=some ⟨n,fT p n l⟩:=by
 have T:=aKI hp hn hl h
 have hL:= @tJ p l.length (dH l) n
 have h1:=T.hN
 unfold wK
 rw [aMh hn hl (fun v hv=>(h v hv).1),Option.bind_some,aKF T,Option.bind_some]
 rw [fK (r:=fT p n l) (fun k=>(fW (dD p l.length (dH l) n).1 k n,(k:Int))) (dD p l.length (dH l) n).2.length (by simp [fW]) (fun k hk=>?_) (fun _=>?_),Option.bind_some]
 ·have hkl:k<l.length:=by omega
  have h3:= @aHY l.length n k hkl
  rw [Nat.succ_mul] at h3
  unfold uE
  simp only
  rw [mD,kT hk,cond_true,aHZ T.hN T.hm hkl,Option.bind_some,sU T.hN hkl,vJ T.hN T.hm hkl]
  simp only [Int.toNat_natCast]
  rw [aLR T.hN T.hm hkl]
  unfold tU
  rw [fN,decide_eq_true (by omega),cond_true,Option.bind_some,qD,decide_eq_true (by omega),cond_true,aCa,dO hk (by omega)]
 ·unfold uE
  simp only
  rw [mD,oF (Nat.le_refl _),cond_false]
  rfl
theorem aLS {n:Nat} {l:List (List Int)} (hn:n≤1024) (hl:l.length≤512) (h: ∀ v∈l,v.length=n):kZ n l=some ⟨l.length,n,dI l.length n (dH l)⟩:=by
 have hb: ∀ k,(l.take k).flatten.length ≤1024*512:=fun k=>by
  have:=aJM (l:=l.take k) fun x hx=>by rw [h x (List.mem_of_mem_take hx)];exact hn
  have h2:(l.take k).length ≤512:=by simp;omega
  omega
 unfold kZ
 rw [fK (r:=l.flatten) (fun k=>((l.take k).flatten,(k:Int))) l.length (by simp) (fun k hk=>?_) (fun _=>?_),Option.bind_some,aJN h]
 ·unfold qO
  simp only
  have e2:=hb (k+1)
  rw [xV hk,List.length_append] at e2
  rw [kT hk,cond_true,eA hk,Option.bind_some,decide_eq_true (by omega),cond_true,dO hk (by omega),xV hk]
 ·unfold qO
  simp only
  rw [oF (Nat.le_refl _),cond_false,List.take_length]
theorem aJO {p:Int} {m n:Nat} {F:Nat→Nat→Int} (T:Tb p m n F):jL p ⟨m,n,dI m n F⟩=some (fW (dD p m F n).1 (dD p m F n).2.length n):=by
 have hL:= @tJ p m F n
 have hm:=T.hm
 have hn:=T.hn
 unfold jL
 rw [aKG T,Option.bind_some]
 rw [fK (r:=fW (dD p m F n).1 (dD p m F n).2.length n) (fun k=>(fW (dD p m F n).1 k n,(k:Int))) (dD p m F n).2.length (by simp [fW]) (fun k hk=>?_) (fun _=>?_),Option.bind_some]
 ·have hkl:k<m:=by omega
  have h3:= @aHY m n k hkl
  rw [Nat.succ_mul] at h3
  have h4:=T.hN
  have e:wr (wr ((k:Int)*(n:Int))+(n:Int))=((k*n+n:Nat):Int):=by rw [sU T.hN hkl,fJ (by omega)];omega
  unfold oY
  simp only
  rw [mD,kT hk,cond_true,e,sU T.hN hkl,iC,decide_eq_true (by omega),decide_eq_true (by omega:((k*n:Nat):Int)≤((k*n+n:Nat):Int)),decide_eq_true (by omega:((k*n+n:Nat):Int)≤((m*n:Nat):Int))]
  simp only [Int.toNat_natCast,Bool.and_self,cond_true,aLR T.hN T.hm hkl]
  rw [fN,decide_eq_true (by simp;omega),cond_true,qD,decide_eq_true (by omega),cond_true,List.nil_append,aCa,dO hk (by omega)]
 ·unfold oY
  simp only
  rw [mD,oF (Nat.le_refl _),cond_false]
theorem aLT {p:Int} (hp:lE p=true) {n:Nat} {l:List (List Int)} (hn:n≤1024) (hl:l.length≤512) (h:VecsP p n l):rD p n l=some ⟨n,fT p n l⟩:=by
 unfold rD
 rw [aLS hn hl (fun v hv=>(h v hv).1),Option.bind_some,aJO (aKI hp hn hl h),Option.bind_some]
 rfl
def bLs (l:List (List Int)):Prop:=l.length≤1048576∧ ∀ v∈l,bI v
theorem aMi (p:Int) (v:List Int):(lE p&&decide (v.length≤64)&&v.all fun x=>tN x 0 (wr (p - 1)))=aBM p v:=by
 unfold aBM
 cases h:lE p with
 |false=>rfl
 |true=>rw [fJ (by have:=gH h;omega)]
theorem aRM {α:Type} {l:List α} {P Q:α→Bool} (h: ∀ x∈l,P x=Q x):l.all P=l.all Q:=by
 induction l with
 |nil=>rfl
 |cons x l ih=>rw [List.all_cons,List.all_cons,h x (by simp),ih fun y hy=>h y (by simp [hy])]
theorem aGc (p size:Int) (l:List (List Int)):aDZ p size l=(lE p&&tN size 0 8&&decide (l.length≤16)&&l.all fun v=>decide ((v.length:Int)=size)&&aBM p v):=rfl
theorem aDv {l:List (List Int)} {f:List Int→Option Bool} (P:List Int→Bool) (hf: ∀ x∈l,f x=some (P x)) (h:l.length≤1048576):eJ l f=some (l.any P):=by
 unfold eJ iI
 rw [aEf (s0:=0) (s:=0) (n:=l.length) (fun k=>bif P (l[k]?.getD []) then some (k:Int) else none) rfl (by omega) (Nat.zero_le _) (fun k _ hk=>?_) (fun _=>?_)]
 ·rw [Option.bind_some]
  cases e:(List.range' 0 (l.length - 0)).findSome? (fun k:Nat=>bif P (l[k]?.getD []) then some (k:Int) else none) with
  |none=>
   rw [List.findSome?_eq_none_iff] at e
   have:l.any P=false:=by
    rw [List.any_eq_false]
    intro x hx
    obtain ⟨k,hk,rfl⟩:=List.mem_iff_getElem.1 hx
    have:=e k (by simp;omega)
    simp only [List.getElem?_eq_getElem hk,Option.getD_some] at this
    cases hp:P l[k] with
    |false=>simp
    |true=>rw [hp] at this;cases this
   rw [this];rfl
  |some i=>
   obtain ⟨k,hk,he⟩:=List.exists_of_findSome?_eq_some e
   simp at hk
   have hkl:k<l.length:=by omega
   rw [List.getElem?_eq_getElem hkl] at he
   simp only [Option.getD_some] at he
   cases hp:P l[k] with
   |false=>rw [hp] at he;cases he
   |true=>
    rw [hp] at he
    cases he
    have:l.any P=true:=List.any_eq_true.2 ⟨_,List.getElem_mem hkl,hp⟩
    rw [this]
    simp only [Sum.elim_inr,Option.bind_some]
    rw [decide_eq_true (by omega)]
 ·unfold fH
  rw [kT hk,cond_true,vA [] hk,Option.bind_some,hf _ (eV [] hk),Option.bind_some]
  cases P _ <;> rfl
 ·unfold fH
  rw [oF (Nat.le_refl _),cond_false]
theorem aKJ (p n:Int) {l:List (List Int)} (h:bLs l):oZ p n l=some (tN n 0 8&&(decide (l.length≤16)&&l.all fun v=>decide ((v.length:Int)=n)&&aBM p v)):=by
 unfold oZ
 rw [wI,Option.bind_some]
 refine iA fun _=>?_
 rw [show decide ((l.length:Int)≤16)=decide (l.length≤16) by rw [Bool.eq_iff_iff,decide_eq_true_eq,decide_eq_true_eq];omega]
 refine iA fun _=>?_
 rw [aDv (fun v=> !(decide ((v.length:Int)=n)&&aBM p v)) (fun v hv=>?_) h.1,Option.bind_some,List.not_any_eq_all_not]
 ·simp
 ·unfold lJ
  cases decide ((v.length:Int)=n) with
  |false=>rfl
  |true=>rw [Bool.not_true,cond_false,aJG p (h.2 v hv),Option.bind_some,aMi,Bool.true_and]
theorem aOO {a b:List (List Int)} (h:bLs a):eC a b (fun b0 b1=>iJ b0 b1)=some (decide (a=b)):=by
 obtain ⟨h,hb⟩:=h
 unfold eC
 rw [wH]
 by_cases e:a.length=b.length
 ·rw [decide_eq_true e,Bool.not_true,cond_false]
  refine yE (by omega) e (fun k h1 h2=>?_) ?_
  ·unfold dS iJ
   simp only
   rw [kT h1,cond_true,eA h1,Option.bind_some,eA h2,Option.bind_some,aOG (hb _ (List.getElem_mem h1)),Option.bind_some,Option.bind_some]
   cases decide (a[k]=b[k]) <;> rfl
  ·unfold dS
   rw [oF (Nat.le_refl _),cond_false]
 ·rw [decide_eq_false e,Bool.not_false,cond_true,decide_eq_false (by rintro rfl;exact e rfl)]
theorem aIV {a b:Sc} (h:bLs a.basis):mW a b=some (decide (a.size=b.size)&&decide (a.basis=b.basis)):=by
 unfold mW
 refine iA fun _=>?_
 rw [aOO h,Option.bind_some]
theorem aSG {p:Int} {n:Nat} {l:List (List Int)} (hl:l.length≤1048576) (hn:n≤1048576) (h:VecsP p n l):bLs l:=⟨hl,fun v hv=>by unfold bI;rw [(h v hv).1];exact hn⟩
theorem aLU {p:Int} (hp:lE p=true) {n:Nat} {l:List (List Int)} (hn:n≤1048576) (h:VecsP p n l):bLs (fT p n l):=aSG (by have:=(@aBO p n l).1;omega) hn (aEi hp h.inP)
theorem aIW (p:Int) {s:Sc} (h:bS s):uF p s=some (mN p s.size s.basis):=by
 unfold uF mN
 rw [aCA,Option.bind_some,aKJ p s.size h.1,Option.bind_some,aGc]
 cases hf:lE p with
 |false=>simp
 |true=>
  rw [Bool.not_true,cond_false]
  cases hv:(tN s.size 0 8&&(decide (s.basis.length≤16)&&s.basis.all fun v=>decide ((v.length:Int)=s.size)&&aBM p v)) with
  |false=>
   have hx:(true&&tN s.size 0 8&&decide (s.basis.length≤16)&&s.basis.all fun v=>decide ((v.length:Int)=s.size)&&aBM p v)=false:=by rw [Bool.true_and,Bool.and_assoc];exact hv
   rw [hx];rfl
  |true=>
   have hfine:aDZ p s.size s.basis=true:=by rw [aGc,hf];simp only [Bool.true_and,Bool.and_assoc];exact hv
   obtain ⟨_,n,e,hn,hl,hv2⟩:=zF hfine
   rw [Bool.not_true,cond_false,e,aHh hf (by omega) (by omega) hv2,Option.bind_some,aIV (aLU hf (by omega) hv2),Option.bind_some]
   rw [e] at hfine
   rw [aGc,hf] at hfine
   rw [hfine]
   simp [e]
theorem aPp (p n:Int) {l:List (List Int)} (h:bLs l):oA p n l=some (aDZ p n l):=by
 unfold oA
 have hall:=xU ([]:List Int) l (fun v=>decide ((v.length:Int)=n)&&aBM p v)
 have hb:=h.1
 rw [wN (fun k=>decide ((((l[k]?.getD []).length:Nat):Int)=n)&&aBM p (l[k]?.getD [])) false (n:=l.length) (by omega) (fun k hk=>?_) (fun _=>?_),Option.bind_some,hall,aGc]
 ·cases l.all fun v=>decide ((v.length:Int)=n)&&aBM p v with
  |false=>simp
  |true=>
   simp only [cond_true,Sum.elim_inl]
   rw [aDs,Option.bind_some,vI,Option.bind_some,Bool.and_true,Bool.and_assoc]
   refine iA fun _=>?_
   refine iA fun _=>?_
   congr 1
   rw [Bool.eq_iff_iff,decide_eq_true_eq,decide_eq_true_eq];omega
 ·unfold jA
  rw [kT hk,cond_true,vA [] hk,Option.bind_some,Option.bind_some,aEv p (h.2 _ (eV [] hk)),Option.bind_some,aMi]
  cases decide ((((l[k]?.getD []).length:Nat):Int)=n) <;> cases aBM p (l[k]?.getD []) <;> rfl
 ·unfold jA
  rw [oF (Nat.le_refl _),cond_false]
theorem aPq {a b:List (List Int)} (h:bLs a):oB a b=some (decide (a=b)):=by
 obtain ⟨h,hb⟩:=h
 unfold oB
 rw [wH]
 by_cases e:a.length=b.length
 ·rw [decide_eq_true e,Bool.not_true,cond_false]
  refine yE (by omega) e (fun k h1 h2=>?_) ?_
  ·have hbk:=hb _ (List.getElem_mem h1)
   unfold bI at hbk
   unfold jB
   rw [kT h1,cond_true,eA h1,Option.bind_some,eA h2,Option.bind_some,wH]
   by_cases e2:a[k].length=b[k].length
   ·rw [decide_eq_true e2,Bool.not_true,cond_false]
    have h3:=wN (body:=mE a b k) (fun j=>decide (a[k][j]?.getD 0=b[k][j]?.getD 0)) false (n:=a[k].length) (by omega) (fun j hj=>?_) ?_
    ·rw [h3,aKx e2,Option.bind_some]
     cases decide (a[k]=b[k]) <;> rfl
    ·unfold mE
     rw [eA h1,Option.bind_some,kT hj,cond_true,Option.bind_some,vA 0 hj,Option.bind_some,eA h2,Option.bind_some,vA 0 (e2▸hj),Option.bind_some]
     cases decide (a[k][j]?.getD 0=b[k][j]?.getD 0) <;> rfl
    ·intro _
     unfold mE
     rw [eA h1,Option.bind_some,oF (Nat.le_refl _),cond_false]
   ·rw [decide_eq_false e2,Bool.not_false,cond_true,decide_eq_false (fun e3=>e2 (by rw [e3])),cond_false]
  ·unfold jB
   rw [oF (Nat.le_refl _),cond_false]
 ·rw [decide_eq_false e,Bool.not_false,cond_true,decide_eq_false (by rintro rfl;exact e rfl)]
theorem vZ (p:Int) {s:Sc} (h:bS s):fZ p s=some (mN p s.size s.basis):=by
 unfold fZ mN
 rw [aPp p s.size h.1,Option.bind_some]
 cases hf:aDZ p s.size s.basis with
 |false=>rfl
 |true=>
  obtain ⟨hp,n,e,hn,hl,hv⟩:=zF hf
  rw [Bool.not_true,cond_false,e,aLS (by omega) (by omega) (fun v hv'=>(hv v hv').1),Option.bind_some,aJO (aKI hp (by omega) (by omega) hv),Option.bind_some,show fW (dD p s.basis.length (dH s.basis) n).1 (dD p s.basis.length (dH s.basis) n).2.length n=fT p n s.basis from rfl,aPq (aLU hp (by omega) hv),Option.bind_some]
  simp
end
noncomputable section
set_option maxRecDepth 10000
set_option maxHeartbeats 4000000
def mX (x1:((List Int)×Int×Int)):Option (((List Int)×Int×Int) ⊕ ((List Int)×Int)):=
 bif decide (x1.2.2<((x1.1.length:Nat):Int)) then
 (Option.bind (dY x1.1 x1.2.2) fun v2=>
 some (.inl ((x1.1.set x1.2.2.toNat x1.2.1),wr (x1.2.1+1),wr (x1.2.2+1))))
 else
 (some (.inr (x1.1,x1.2.1)))
def gR (a0:(List Int)) (a1:Int):Option ((List Int)×Int):=
 Option.bind (Lp mX (a0,a1,0)) fun y3=>
 some (y3.1,y3.2)
theorem nS (a0:(List Int)) (a1:Int) (r:((List Int)×Int)) (h:gR a0 a1=some r):HasE Tryz.prog 33 [.own 0 0 a0.length,.int a1] [(0,⟨1,a0.map (ow eI)⟩)] 1 (.int r.2) [(0,⟨1,r.1.map (ow eI)⟩)]:=by
 refine qF aB (rvs:=[.tmp 4]) (ns:=[1,2]) Tryz.func33 k k Tryz.ntmps33 k k<|sR<|aT k2<|sQ<|sR<|aa k k ?_
 refine an<|tn<|aI ?_
 obtain ⟨y3,hy3,h⟩:=ob h
 refine cV (body:=mX) hy3 (fun (x1:((List Int)×Int×Int))=>bN [(0,.own 0 0 x1.1.length),(1,.int x1.2.1),(5,.int x1.2.2)] [(0,⟨1,x1.1.map (ow eI)⟩)] 1 [1,2] 1) (fun r e t=>e= .exit 0∧Ent t (bN [(1,.int r.2)] [(0,⟨1,r.1.map (ow eI)⟩)] 1 [1,2] 1)) (aC (σ:=sg [(0,0)]) ⟨(oE k k),(e1 k k),(e1 k k),aJ⟩ (hI k k k<|aJ) k) ?_ ?_
 ·intro x1 o h
  refine sQ<|sR<|am k k<|am k k<|ae (bP aB k k k k) k<|cm k4<|an<|tn ?_
  rcases cb h with ⟨q1,h⟩|⟨q1,h⟩
  ·refine aH k q1<|aQ<|tn<|sQ<|aI<|sR<|am k k<|am k k<|am k k ?_
   obtain ⟨v2,hv2,h⟩:=ob h
   refine ae (cU aB (eF hv2) (dE hv2) k k k k k k k) k<|ae (hJ aB tS (u:=x1.2.1) (dJ hv2) k k k k k k) k<|an<|tn<|rg<|am k k<|ae (bT k k) k<|aa k k<|an<|bB ?_
   refine tn<|aM (t:=bN [(0,.own 0 0 ((x1.1.set x1.2.2.toNat x1.2.1).length)),(1,.int (wr (x1.2.1+1))),(5,.int x1.2.2)] [(0,⟨1,List.map (ow eI) (x1.1.set x1.2.2.toNat x1.2.1)⟩)] 1 [1,2] 1) (aC (σ:=sg [(0,0)]) ⟨⟨_,k,⟨k,k,(by simp only [aZ,lA,lT,lR,lC,lN]),k⟩⟩,(e1 k k),(e1 k k),aJ⟩ (hI k k k<|aJ) k)<|rg<|am k k<|ae (bT k k) k<|aT k2 ?_
   obtain rfl:=so h
   exact ⟨_,k,(aC (σ:=sg [(0,0)]) ⟨(oE k k),(e1 k k),(e1 k k),aJ⟩ (hI k k k<|aJ) k)⟩
  ·refine aN k q1<|bC<|aE<|aE ?_
   obtain rfl:=so h
   exact ⟨_,k,k,(aC (σ:=sg [(0,0)]) ⟨(e1 k k),aJ⟩ (hI k k k<|aJ) k)⟩
 ·rintro e t ⟨rfl,hent⟩
  refine aU<|tn<|aM hent<|sR<|am k k<|aT k2<|aL ?_
  obtain rfl:=so h
  exact ⟨bN [(4,.int y3.2)] [(0,⟨1,y3.1.map (ow eI)⟩)] 1 [1,2] 1,(aC (σ:=sg [(0,0)]) ⟨(e1 k k),aJ⟩ (hI k k k<|aJ) k),k,⟨_,k,.inl k⟩,⟨k,aJ⟩⟩
def lK (x1:((List (List Int))×Int×Int)):Option (((List (List Int))×Int×Int) ⊕ ((List (List Int))×Int)):=
 bif decide (x1.2.2<((x1.1.length:Nat):Int)) then
 (Option.bind (dY x1.1 x1.2.2) fun v2=>
 Option.bind (gR v2 x1.2.1) fun v3=>
 bif decide (v3.1.length=v2.length) then
 (some (.inl ((x1.1.set x1.2.2.toNat v3.1),v3.2,wr (x1.2.2+1))))
 else none)
 else
 (some (.inr (x1.1,x1.2.1)))
def qP (a0:(List (List Int))) (a1:Int):Option ((List (List Int))×Int):=
 Option.bind (Lp lK (a0,a1,0)) fun y5=>
 some (y5.1,y5.2)
theorem aEy (a0:(List (List Int))) (a1:Int) (r:((List (List Int))×Int)) (h:qP a0 a1=some r):HasT Tryz.prog 46 [.own 0 0 a0.length,.int a1] [(0,⟨1,a0.map (ow (cL 1 eI))⟩)] 1 (.int r.2) [(0,⟨1,r.1.map (ow (cL 1 eI))⟩)]:=by
 refine aDh aB (rvs:=[.tmp 4]) (ns:=[1,2,3]) Tryz.func46 k k Tryz.ntmps46 k k<|sS<|kC k2<|sn<|tn<|sQ<|sS<|kC k2 ?_
 refine sn<|tn<|aI ?_
 obtain ⟨y5,hy5,h⟩:=ob h
 refine cV (body:=lK) hy5 (fun (x1:((List (List Int))×Int×Int))=>bN [(0,.own 0 0 x1.1.length),(1,.int x1.2.1),(5,.int x1.2.2)] [(0,⟨1,x1.1.map (ow (cL 1 eI))⟩)] 1 [1,2,3] ⟨1,true,none,true⟩) (fun r e t=>e= .exit 0∧Ent t (bN [(1,.int r.2)] [(0,⟨1,r.1.map (ow (cL 1 eI))⟩)] 1 [1,2,3] ⟨1,true,none,true⟩)) (aC (σ:=sg [(0,0)]) ⟨(oE k k),(e1 k k),(e1 k k),aJ⟩ (hB (cA.plainO _) k k k<|aJ) k) ?_ ?_
 ·intro x1 o h
  refine sQ<|sS<|fC k2<|fC k2<|se (bP aB k k k k) k<|cmS k4<|sn<|tn ?_
  rcases cb h with ⟨q1,h⟩|⟨q1,h⟩
  ·refine aH k q1<|aQ<|tn<|sQ<|aI<|rgS<|fC k2<|fC k2 ?_
   obtain ⟨v2,hv2,h⟩:=ob h
   refine fY (t:=bN [(0,.own 0 0 x1.1.length),(1,.int x1.2.1),(5,.int x1.2.2),(6,.int x1.2.2),(7,.own 0 0 x1.1.length),(8,.int ((x1.1.length:Nat):Int)),(9,.bl (decide (x1.2.2<((x1.1.length:Nat):Int)))),(12,.own 0 0 x1.1.length),(13,.int x1.2.2)] [(0,⟨1,(x1.1.map (ow (cL 1 eI))).set x1.2.2.toNat [.abs 1 (v2.map eI)]⟩)] 1 [1,2,3] ⟨1,true,none,true⟩) (aC (σ:=sg [(0,0)]) ⟨(oE k k),(e1 k k),(e1 k k),(e1 k k),(oE k k),(e1 k k),(e1 k k),(oE k k),(e1 k k),aJ⟩ (hX ⟨_,k,k,.inl ⟨aDl (dJ hv2),aBx cA k⟩⟩ k<|aJ) k)<|fY (aBy (b:=0) (c:=1) (i:=x1.2.2.toNat) (j:=0) (n:=v2.length) (A:=x1.1.map (ow (cL 1 eI))) (fs:=v2.map (ow eI)) (by rw [List.length_map];exact dE hv2) k k k k (aZ _ _) (cW _ _) (aAB ⟨k,k,k,k,k,k,k,k,k,aJ⟩) (aAC (skip:=[]) ⟨.inr (cA.dfS _ _ _ k),aJ⟩))<|fY (t:=bN [(0,.own 0 0 x1.1.length),(1,.int x1.2.1),(5,.int x1.2.2),(6,.int x1.2.2),(7,.own 0 0 x1.1.length),(8,.int ((x1.1.length:Nat):Int)),(9,.bl (decide (x1.2.2<((x1.1.length:Nat):Int)))),(12,.own 0 0 x1.1.length),(13,.int x1.2.2)] [(0,⟨1,(x1.1.map (ow (cL 1 eI))).set x1.2.2.toNat [.own 1 0 v2.length]⟩),(1,⟨1,v2.map (ow eI)⟩)] 2 [2,3] ⟨1,true,none,true⟩) (aC (σ:=sg [(0,0),(1,1)]) ⟨(oE k k),(e1 k k),(e1 k k),(e1 k k),(oE k k),(e1 k k),(e1 k k),(oE k k),(e1 k k),aJ⟩ (hX ⟨_,k,k,.inr (zJ (σ:=sg [(0,0),(1,1)]) (m:=2) (e:=(cL 1 eI)) (l:=x1.1) (i:=x1.2.2.toNat) (c:=[.own 1 0 v2.length]) (d:=[.own 1 0 v2.length]) cA ⟨_,_,k,⟨k,k,k,k⟩,k⟩)⟩ k<|hI k k k<|aJ) k) ?_
   refine se (cU aB (eF hv2) (dE hv2) k k k k k k k) k<|se (bE aB k k k k (aJq (dE hv2)) k k) k<|fC k2 ?_
   obtain ⟨v3,hv3,h⟩:=ob h
   refine se (gK (σ:=sg [(0,1)]) (σ':=sg [(1,0)]) (touch:=[1]) (news:=[]) (hl2:=[(1,⟨1,v3.1.map (ow eI)⟩)]) (n':=2) (r2:= .int v3.2) (nS v2 x1.2.1 v3 hv3) k k ⟨_,_,k,⟨k,k,k,k⟩,⟨_,_,k,k,k⟩⟩ ⟨⟨_,k,k,.inl ⟨k,dR.plainO _⟩⟩,k,aJ⟩ k k k ⟨⟨_,k,k,.inl ⟨k,dR.plainO _⟩⟩,k,aJ⟩ k k k ⟨k,dR.tame _ _,aJ⟩ k k) k ?_
   obtain ⟨q4,h⟩:=cg h
   refine kC k2<|sn<|bB<|tn<|rgS<|fC k2<|se (bT k k) k<|kC k2<|sn<|tn ?_
   obtain rfl:=so h
   exact ⟨_,k,(Ent.trans (show Ent _ (bN [(0,.own 0 0 ((x1.1.set x1.2.2.toNat v3.1).length)),(1,.int v3.2),(5,.int (wr (x1.2.2+1)))] [(0,⟨1,List.map (ow (cL 1 eI)) (x1.1.set x1.2.2.toNat v3.1)⟩)] 2 [2,3] ⟨1,true,none,true⟩) from (Ent.trans (aBP (b:=0) (b':=1) (j:=0) (es':=v3.1.map eI) (by rw [List.length_map];exact dE hv2) k k k k (by simp only [aZ,lA,lT,lR,lC,lN,of_decide_eq_true q4]) (dR.frzs _)) (aC (σ:=sg [(0,0)]) ⟨⟨_,k,⟨k,k,(by simp only [aZ,lA,lT,lR,lC,lN,of_decide_eq_true q4]),k⟩⟩,(e1 k k),(e1 k k),aJ⟩ (hX ⟨_,k,k,.inl ⟨aHM v3.1 k,cA.plainO _⟩⟩ k<|aJ) k))) (aC (σ:=sg [(0,0)]) ⟨(oE k k),(e1 k k),(e1 k k),aJ⟩ (hB (cA.plainO _) k k k<|aJ) k))⟩
  ·refine aN k q1<|bC<|aE<|aE ?_
   obtain rfl:=so h
   exact ⟨_,k,k,(aC (σ:=sg [(0,0)]) ⟨(e1 k k),aJ⟩ (hB (cA.plainO _) k k k<|aJ) k)⟩
 ·rintro e t ⟨rfl,hent⟩
  refine aU<|tn<|aM hent<|sS<|fC k2<|kC k2<|sn<|tn<|aL ?_
  obtain rfl:=so h
  exact ⟨bN [(4,.int y5.2)] [(0,⟨1,y5.1.map (ow (cL 1 eI))⟩)] 1 [1,2,3] ⟨1,true,none,true⟩,(aC (σ:=sg [(0,0)]) ⟨(e1 k k),aJ⟩ (hB (cA.plainO _) k k k<|aJ) k),k,⟨_,k,.inl k⟩,⟨k,aJ⟩⟩
def kP (x1:((List Sc)×Int×Int)):Option (((List Sc)×Int×Int) ⊕ ((List Sc)×Int)):=
 bif decide (x1.2.2<((x1.1.length:Nat):Int)) then
 (Option.bind (dY x1.1 x1.2.2) fun v2=>
 Option.bind (qP v2.basis (wr (x1.2.1+1))) fun v3=>
 bif decide (v3.1.length=v2.basis.length) then
 (some (.inl ((x1.1.set x1.2.2.toNat (⟨x1.2.1,v3.1⟩:Sc)),v3.2,wr (x1.2.2+1))))
 else none)
 else
 (some (.inr (x1.1,x1.2.1)))
def pA (a0:(List Sc)) (a1:Int):Option ((List Sc)×Int):=
 Option.bind (Lp kP (a0,a1,0)) fun y5=>
 some (y5.1,y5.2)
theorem aDw (a0:(List Sc)) (a1:Int) (r:((List Sc)×Int)) (h:pA a0 a1=some r):HasT Tryz.prog 41 [.own 0 0 a0.length,.int a1] [(0,⟨2,a0.map (ow eS)⟩)] 1 (.int r.2) [(0,⟨2,r.1.map (ow eS)⟩)]:=by
 refine aDh aB (rvs:=[.tmp 4]) (ns:=[1,2,3]) Tryz.func41 k k Tryz.ntmps41 k k<|sS<|kC k2<|sn<|tn<|sQ<|sS<|kC k2 ?_
 refine sn<|tn<|aI ?_
 obtain ⟨y5,hy5,h⟩:=ob h
 refine cV (body:=kP) hy5 (fun (x1:((List Sc)×Int×Int))=>bN [(0,.own 0 0 x1.1.length),(1,.int x1.2.1),(5,.int x1.2.2)] [(0,⟨2,x1.1.map (ow eS)⟩)] 1 [1,2,3] ⟨1,true,none,true⟩) (fun r e t=>e= .exit 0∧Ent t (bN [(1,.int r.2)] [(0,⟨2,r.1.map (ow eS)⟩)] 1 [1,2,3] ⟨1,true,none,true⟩)) (aC (σ:=sg [(0,0)]) ⟨(oE k k),(e1 k k),(e1 k k),aJ⟩ (hB (dA.plainO _) k k k<|aJ) k) ?_ ?_
 ·intro x1 o h
  refine sQ<|sS<|fC k2<|fC k2<|se (bP aB k k k k) k<|cmS k4<|sn<|tn ?_
  rcases cb h with ⟨q1,h⟩|⟨q1,h⟩
  ·refine aH k q1<|aQ<|tn<|sQ<|aI<|sS<|fC k2<|fC k2<|fC k2 ?_
   obtain ⟨v2,hv2,h⟩:=ob h
   refine fY (t:=bN [(0,.own 0 0 x1.1.length),(1,.int x1.2.1),(5,.int x1.2.2),(6,.int x1.2.2),(7,.own 0 0 x1.1.length),(8,.int ((x1.1.length:Nat):Int)),(9,.bl (decide (x1.2.2<((x1.1.length:Nat):Int)))),(12,.own 0 0 x1.1.length),(13,.int x1.2.2),(14,.int x1.2.1)] [(0,⟨2,(x1.1.map (ow eS)).set x1.2.2.toNat [.int v2.size,.abs 1 (v2.basis.map (cL 1 eI))]⟩)] 1 [1,2,3] ⟨1,true,none,true⟩) (aC (σ:=sg [(0,0)]) ⟨(oE k k),(e1 k k),(e1 k k),(e1 k k),(oE k k),(e1 k k),(e1 k k),(oE k k),(e1 k k),(e1 k k),aJ⟩ (hX ⟨_,k,k,.inl ⟨aDl (dJ hv2),aBx dA k⟩⟩ k<|aJ) k)<|fY (aBy (b:=0) (c:=1) (i:=x1.2.2.toNat) (j:=1) (n:=v2.basis.length) (A:=x1.1.map (ow eS)) (fs:=v2.basis.map (ow (cL 1 eI))) (by rw [List.length_map];exact dE hv2) k k k k (aZ _ _) (cW _ _) (aAB ⟨k,k,k,k,k,k,k,k,k,k,aJ⟩) (aAC (skip:=[]) ⟨.inr (dA.dfS _ _ _ k),aJ⟩))<|fY (t:=bN [(0,.own 0 0 x1.1.length),(1,.int x1.2.1),(5,.int x1.2.2),(6,.int x1.2.2),(7,.own 0 0 x1.1.length),(8,.int ((x1.1.length:Nat):Int)),(9,.bl (decide (x1.2.2<((x1.1.length:Nat):Int)))),(12,.own 0 0 x1.1.length),(13,.int x1.2.2),(14,.int x1.2.1)] [(0,⟨2,(x1.1.map (ow eS)).set x1.2.2.toNat [.int v2.size,.own 1 0 v2.basis.length]⟩),(1,⟨1,v2.basis.map (ow (cL 1 eI))⟩)] 2 [2,3] ⟨1,true,none,true⟩) (aC (σ:=sg [(0,0),(1,1)]) ⟨(oE k k),(e1 k k),(e1 k k),(e1 k k),(oE k k),(e1 k k),(e1 k k),(oE k k),(e1 k k),(e1 k k),aJ⟩ (hX ⟨_,k,k,.inr (zJ (σ:=sg [(0,0),(1,1)]) (m:=2) (e:=eS) (l:=x1.1) (i:=x1.2.2.toNat) (c:=[.int v2.size,.own 1 0 v2.basis.length]) (d:=[.int v2.size,.own 1 0 v2.basis.length]) dA ⟨_,_,k,k,⟨_,_,k,⟨k,k,k,k⟩,k⟩⟩)⟩ k<|hB (cA.plainO _) k k k<|aJ) k) ?_
   refine se (cU aB (eF hv2) (dE hv2) k k k k k k k) k<|fpS k8<|se (aHV aB (A:=x1.1.map (ow eS)) (by rw [List.length_map];exact dE hv2) k k k k k k k) k<|sn<|tn<|sS<|fC k2<|se (bT k k) k<|kC k2 ?_
   refine sn<|tn<|rgS<|fC k2<|fC k2<|se (cU aB (eF hv2) (dE hv2) k k k k k k k) k<|fpS k8<|se (bE aB k k k k (aJq (dE hv2)) k k) k<|fC k2 ?_
   obtain ⟨v3,hv3,h⟩:=ob h
   refine fY (t:=bN [(0,.own 0 0 x1.1.length),(1,.int (wr (x1.2.1+1))),(5,.int x1.2.2),(6,.int x1.2.2),(7,.own 0 0 x1.1.length),(8,.int ((x1.1.length:Nat):Int)),(9,.bl (decide (x1.2.2<((x1.1.length:Nat):Int)))),(12,.own 0 0 x1.1.length),(13,.int x1.2.2),(14,.int x1.2.1),(15,.ptr 0 x1.2.2.toNat 0),(16,.ptr 0 x1.2.2.toNat 0),(17,.int x1.2.1),(18,.int (wr (x1.2.1+1))),(19,.own 0 0 x1.1.length),(20,.int x1.2.2),(21,.ptr 0 x1.2.2.toNat 0),(22,.ptr 0 x1.2.2.toNat 1),(23,.own 1 0 v2.basis.length),(24,.int (wr (x1.2.1+1)))] [(0,⟨2,(x1.1.map (ow eS)).set x1.2.2.toNat [.int x1.2.1,.own 1 0 v2.basis.length]⟩),(1,⟨1,v2.basis.map (ow (cL 1 eI))⟩)] 2 [2,3] ⟨1,true,none,true⟩) (aC (σ:=sg [(0,0),(1,1)]) ⟨(oE k k),(e1 k k),(e1 k k),(e1 k k),(oE k k),(e1 k k),(e1 k k),(oE k k),(e1 k k),(e1 k k),(pE k k),(pE k k),(e1 k k),(e1 k k),(oE k k),(e1 k k),(pE k k),(pE k k),(oE k k),(e1 k k),aJ⟩ (hX ⟨_,k,k,.inr (zJ (σ:=sg [(0,0),(1,1)]) (m:=2) (e:=eS) (l:=x1.1) (i:=x1.2.2.toNat) (c:=[.int x1.2.1,.own 1 0 v2.basis.length]) (d:=[.int x1.2.1,.own 1 0 v2.basis.length]) dA ⟨_,_,k,k,⟨_,_,k,⟨k,k,k,k⟩,k⟩⟩)⟩ k<|hB (cA.plainO _) k k k<|aJ) k)<|aHQ (σ:=sg [(0,1)]) (σ':=sg [(1,0)]) (touch:=[1]) (news:=[]) (hl2:=[(1,⟨1,v3.1.map (ow (cL 1 eI))⟩)]) (n':=2) (r2:= .int v3.2) (aEy v2.basis (wr (x1.2.1+1)) v3 hv3) k k ⟨_,_,k,⟨k,k,k,k⟩,⟨_,_,k,k,k⟩⟩ ⟨⟨_,k,k,.inl ⟨k,cA.plainO _⟩⟩,k,aJ⟩ k k k ⟨⟨_,k,k,.inl ⟨k,cA.plainO _⟩⟩,k,aJ⟩ k k k ⟨k,cA.tame _ _,aJ⟩ k k k k k (aAB ⟨k,k,k,k,k,k,k,k,k,k,k,k,k,k,k,k,k,k,k,k,aJ⟩) (aAC (skip:=[1]) ⟨.inr (dA.dfS _ _ _ k),.inl (by decide),aJ⟩) ?_
   obtain ⟨q4,h⟩:=cg h
   refine kC k2<|sn<|bB<|tn<|rgS<|fC k2<|se (bT k k) k<|kC k2<|sn<|tn ?_
   obtain rfl:=so h
   exact ⟨_,k,(Ent.trans (show Ent _ (bN [(0,.own 0 0 ((x1.1.set x1.2.2.toNat (⟨x1.2.1,v3.1⟩:Sc)).length)),(1,.int v3.2),(5,.int (wr (x1.2.2+1)))] [(0,⟨2,List.map (ow eS) (x1.1.set x1.2.2.toNat (⟨x1.2.1,v3.1⟩:Sc))⟩)] 2 [2,3] ⟨1,true,none,true⟩) from (Ent.trans (aBP (b:=0) (b':=1) (j:=1) (es':=v3.1.map (cL 1 eI)) (by rw [List.length_map];exact dE hv2) k k k k (by simp only [aZ,lA,lT,lR,lC,lN,of_decide_eq_true q4]) (cA.frzs _)) (aC (σ:=sg [(0,0)]) ⟨⟨_,k,⟨k,k,(by simp only [aZ,lA,lT,lR,lC,lN,of_decide_eq_true q4]),k⟩⟩,(e1 k k),(e1 k k),aJ⟩ (hX ⟨_,k,k,.inl ⟨aHM (⟨x1.2.1,v3.1⟩:Sc) k,dA.plainO _⟩⟩ k<|aJ) k))) (aC (σ:=sg [(0,0)]) ⟨(oE k k),(e1 k k),(e1 k k),aJ⟩ (hB (dA.plainO _) k k k<|aJ) k))⟩
  ·refine aN k q1<|bC<|aE<|aE ?_
   obtain rfl:=so h
   exact ⟨_,k,k,(aC (σ:=sg [(0,0)]) ⟨(e1 k k),aJ⟩ (hB (dA.plainO _) k k k<|aJ) k)⟩
 ·rintro e t ⟨rfl,hent⟩
  refine aU<|tn<|aM hent<|sS<|fC k2<|kC k2<|sn<|tn<|aL ?_
  obtain rfl:=so h
  exact ⟨bN [(4,.int y5.2)] [(0,⟨2,y5.1.map (ow eS)⟩)] 1 [1,2,3] ⟨1,true,none,true⟩,(aC (σ:=sg [(0,0)]) ⟨(e1 k k),aJ⟩ (hB (dA.plainO _) k k k<|aJ) k),k,⟨_,k,.inl k⟩,⟨k,aJ⟩⟩
def pB (a0:Qv) (a1:Int):Option ((List Int)×(List Int)×Int):=
 Option.bind (gR a0.src a1) fun v1=>
 bif decide (v1.1.length=a0.src.length) then
 (Option.bind (gR a0.tgt v1.2) fun v3=>
 bif decide (v3.1.length=a0.tgt.length) then
 (some (v1.1,v3.1,v3.2))
 else none)
 else none
theorem aDx (a0:Qv) (a1:Int) (r:((List Int)×(List Int)×Int)) (h:pB a0 a1=some r):HasE Tryz.prog 69 [.agg [.int a0.n,.own 0 0 a0.src.length,.own 1 0 a0.tgt.length],.int a1] [(0,⟨1,a0.src.map (ow eI)⟩),(1,⟨1,a0.tgt.map (ow eI)⟩)] 2 (.int r.2.2) [(0,⟨1,r.1.map (ow eI)⟩),(1,⟨1,r.2.1.map (ow eI)⟩)]:=by
 refine qF aB (rvs:=[.tmp 4]) (ns:=[2,3,4]) Tryz.func69 k k Tryz.ntmps69 k k<|sR<|ae (cE k k k k) k<|aT k2<|sR<|fp k8 ?_
 refine lp k8<|am k k ?_
 obtain ⟨v1,hv1,h⟩:=ob h
 refine ae (gK (σ:=sg [(0,0)]) (σ':=sg [(0,0)]) (touch:=[0]) (news:=[]) (hl2:=[(0,⟨1,v1.1.map (ow eI)⟩)]) (n':=3) (r2:= .int v1.2) (nS a0.src a1 v1 hv1) k k ⟨_,_,k,⟨k,k,k,k⟩,⟨_,_,k,k,k⟩⟩ ⟨⟨_,k,k,.inl ⟨k,dR.plainO _⟩⟩,k,aJ⟩ k k k ⟨⟨_,k,k,.inl ⟨k,dR.plainO _⟩⟩,k,aJ⟩ k k k ⟨k,dR.tame _ _,aJ⟩ k k) k ?_
 obtain ⟨q2,h⟩:=cg h
 refine aT k2<|sR<|fp k8<|lp k8<|am k k ?_
 obtain ⟨v3,hv3,h⟩:=ob h
 refine ae (gK (σ:=sg [(0,1)]) (σ':=sg [(1,0)]) (touch:=[1]) (news:=[]) (hl2:=[(1,⟨1,v3.1.map (ow eI)⟩)]) (n':=3) (r2:= .int v3.2) (nS a0.tgt v1.2 v3 hv3) k k ⟨_,_,k,⟨k,k,k,k⟩,⟨_,_,k,k,k⟩⟩ ⟨⟨_,k,k,.inl ⟨k,dR.plainO _⟩⟩,k,aJ⟩ k k k ⟨⟨_,k,k,.inl ⟨k,dR.plainO _⟩⟩,k,aJ⟩ k k k ⟨k,dR.tame _ _,aJ⟩ k k) k ?_
 obtain ⟨q4,h⟩:=cg h
 refine aT k2<|aM (t:=bN [(1,.int v3.2)] [(0,⟨1,v1.1.map (ow eI)⟩),(1,⟨1,v3.1.map (ow eI)⟩)] 3 [3,4] 2) (aC (σ:=sg [(0,0),(1,1)]) ⟨(e1 k k),aJ⟩ (hI k k k<|hI k k k<|aJ) k)<|sR<|am k k<|aT k2 ?_
 refine aL ?_
 obtain rfl:=so h
 exact ⟨bN [(4,.int v3.2)] [(0,⟨1,v1.1.map (ow eI)⟩),(1,⟨1,v3.1.map (ow eI)⟩)] 2 [2,3,4] 2,(aC (σ:=sg [(0,0),(1,1)]) ⟨(e1 k k),aJ⟩ (hI k k k<|hI k k k<|aJ) k),k,⟨_,k,.inl k⟩,⟨k,k,aJ⟩⟩
def jV (x1:((List Mt)×Int×Int)):Option (((List Mt)×Int×Int) ⊕ ((List Mt)×Int)):=
 bif decide (x1.2.2<((x1.1.length:Nat):Int)) then
 (Option.bind (dY x1.1 x1.2.2) fun v2=>
 Option.bind (gR v2.cells (wr ((wr (x1.2.1+1))+1))) fun v3=>
 bif decide (v3.1.length=v2.cells.length) then
 (some (.inl ((x1.1.set x1.2.2.toNat (⟨x1.2.1,wr (x1.2.1+1),v3.1⟩:Mt)),v3.2,wr (x1.2.2+1))))
 else none)
 else
 (some (.inr (x1.1,x1.2.1)))
def mY (a0:(List Mt)) (a1:Int):Option ((List Mt)×Int):=
 Option.bind (Lp jV (a0,a1,0)) fun y5=>
 some (y5.1,y5.2)
theorem aCr (a0:(List Mt)) (a1:Int) (r:((List Mt)×Int)) (h:mY a0 a1=some r):HasT Tryz.prog 70 [.own 0 0 a0.length,.int a1] [(0,⟨3,a0.map (ow eM)⟩)] 1 (.int r.2) [(0,⟨3,r.1.map (ow eM)⟩)]:=by
 refine aDh aB (rvs:=[.tmp 4]) (ns:=[1,2,3]) Tryz.func70 k k Tryz.ntmps70 k k<|sS<|kC k2<|sn<|tn<|sQ<|sS<|kC k2 ?_
 refine sn<|tn<|aI ?_
 obtain ⟨y5,hy5,h⟩:=ob h
 refine cV (body:=jV) hy5 (fun (x1:((List Mt)×Int×Int))=>bN [(0,.own 0 0 x1.1.length),(1,.int x1.2.1),(5,.int x1.2.2)] [(0,⟨3,x1.1.map (ow eM)⟩)] 1 [1,2,3] ⟨1,true,none,true⟩) (fun r e t=>e= .exit 0∧Ent t (bN [(1,.int r.2)] [(0,⟨3,r.1.map (ow eM)⟩)] 1 [1,2,3] ⟨1,true,none,true⟩)) (aC (σ:=sg [(0,0)]) ⟨(oE k k),(e1 k k),(e1 k k),aJ⟩ (hB (lQ.plainO _) k k k<|aJ) k) ?_ ?_
 ·intro x1 o h
  refine sQ<|sS<|fC k2<|fC k2<|se (bP aB k k k k) k<|cmS k4<|sn<|tn ?_
  rcases cb h with ⟨q1,h⟩|⟨q1,h⟩
  ·refine aH k q1<|aQ<|tn<|sQ<|aI<|sS<|fC k2<|fC k2<|fC k2 ?_
   obtain ⟨v2,hv2,h⟩:=ob h
   refine fY (t:=bN [(0,.own 0 0 x1.1.length),(1,.int x1.2.1),(5,.int x1.2.2),(6,.int x1.2.2),(7,.own 0 0 x1.1.length),(8,.int ((x1.1.length:Nat):Int)),(9,.bl (decide (x1.2.2<((x1.1.length:Nat):Int)))),(12,.own 0 0 x1.1.length),(13,.int x1.2.2),(14,.int x1.2.1)] [(0,⟨3,(x1.1.map (ow eM)).set x1.2.2.toNat [.int v2.rows,.int v2.cols,.abs 1 (v2.cells.map eI)]⟩)] 1 [1,2,3] ⟨1,true,none,true⟩) (aC (σ:=sg [(0,0)]) ⟨(oE k k),(e1 k k),(e1 k k),(e1 k k),(oE k k),(e1 k k),(e1 k k),(oE k k),(e1 k k),(e1 k k),aJ⟩ (hX ⟨_,k,k,.inl ⟨aDl (dJ hv2),aBx lQ k⟩⟩ k<|aJ) k)<|fY (aBy (b:=0) (c:=1) (i:=x1.2.2.toNat) (j:=2) (n:=v2.cells.length) (A:=x1.1.map (ow eM)) (fs:=v2.cells.map (ow eI)) (by rw [List.length_map];exact dE hv2) k k k k (aZ _ _) (cW _ _) (aAB ⟨k,k,k,k,k,k,k,k,k,k,aJ⟩) (aAC (skip:=[]) ⟨.inr (lQ.dfS _ _ _ k),aJ⟩))<|fY (t:=bN [(0,.own 0 0 x1.1.length),(1,.int x1.2.1),(5,.int x1.2.2),(6,.int x1.2.2),(7,.own 0 0 x1.1.length),(8,.int ((x1.1.length:Nat):Int)),(9,.bl (decide (x1.2.2<((x1.1.length:Nat):Int)))),(12,.own 0 0 x1.1.length),(13,.int x1.2.2),(14,.int x1.2.1)] [(0,⟨3,(x1.1.map (ow eM)).set x1.2.2.toNat [.int v2.rows,.int v2.cols,.own 1 0 v2.cells.length]⟩),(1,⟨1,v2.cells.map (ow eI)⟩)] 2 [2,3] ⟨1,true,none,true⟩) (aC (σ:=sg [(0,0),(1,1)]) ⟨(oE k k),(e1 k k),(e1 k k),(e1 k k),(oE k k),(e1 k k),(e1 k k),(oE k k),(e1 k k),(e1 k k),aJ⟩ (hX ⟨_,k,k,.inr (zJ (σ:=sg [(0,0),(1,1)]) (m:=2) (e:=eM) (l:=x1.1) (i:=x1.2.2.toNat) (c:=[.int v2.rows,.int v2.cols,.own 1 0 v2.cells.length]) (d:=[.int v2.rows,.int v2.cols,.own 1 0 v2.cells.length]) lQ ⟨_,_,k,k,⟨_,_,k,k,⟨_,_,k,⟨k,k,k,k⟩,k⟩⟩⟩)⟩ k<|hI k k k<|aJ) k) ?_
   refine se (cU aB (eF hv2) (dE hv2) k k k k k k k) k<|fpS k8<|se (aHV aB (A:=x1.1.map (ow eM)) (by rw [List.length_map];exact dE hv2) k k k k k k k) k<|sn<|tn<|sS<|fC k2<|se (bT k k) k<|kC k2 ?_
   refine sn<|tn<|sS<|fC k2<|fC k2<|fC k2<|se (cU aB (eF hv2) (dE hv2) k k k k k k k) k<|fpS k8<|se (aHV aB (A:=x1.1.map (ow eM)) (by rw [List.length_map];exact dE hv2) k k k k k k k) k ?_
   refine sn<|tn<|sS<|fC k2<|se (bT k k) k<|kC k2<|sn<|tn<|aM (t:=bN [(0,.own 0 0 x1.1.length),(1,.int (wr ((wr (x1.2.1+1))+1))),(5,.int x1.2.2)] [(0,⟨3,(x1.1.map (ow eM)).set x1.2.2.toNat [.int x1.2.1,.int (wr (x1.2.1+1)),.own 1 0 v2.cells.length]⟩),(1,⟨1,v2.cells.map (ow eI)⟩)] 2 [2,3] ⟨1,true,none,true⟩) (aC (σ:=sg [(0,0),(1,1)]) ⟨(oE k k),(e1 k k),(e1 k k),aJ⟩ (hX ⟨_,k,k,.inr (zJ (σ:=sg [(0,0),(1,1)]) (m:=2) (e:=eM) (l:=x1.1) (i:=x1.2.2.toNat) (c:=[.int x1.2.1,.int (wr (x1.2.1+1)),.own 1 0 v2.cells.length]) (d:=[.int x1.2.1,.int (wr (x1.2.1+1)),.own 1 0 v2.cells.length]) lQ ⟨_,_,k,k,⟨_,_,k,k,⟨_,_,k,⟨k,k,k,k⟩,k⟩⟩⟩)⟩ k<|hI k k k<|aJ) k) ?_
   refine rgS<|fC k2<|fC k2<|se (cU aB (eF hv2) (dE hv2) k k k k k k k) k<|fpS k8<|se (bE aB k k k k (aJq (dE hv2)) k k) k<|fC k2 ?_
   obtain ⟨v3,hv3,h⟩:=ob h
   refine se (gK (σ:=sg [(0,1)]) (σ':=sg [(1,0)]) (touch:=[1]) (news:=[]) (hl2:=[(1,⟨1,v3.1.map (ow eI)⟩)]) (n':=2) (r2:= .int v3.2) (nS v2.cells (wr ((wr (x1.2.1+1))+1)) v3 hv3) k k ⟨_,_,k,⟨k,k,k,k⟩,⟨_,_,k,k,k⟩⟩ ⟨⟨_,k,k,.inl ⟨k,dR.plainO _⟩⟩,k,aJ⟩ k k k ⟨⟨_,k,k,.inl ⟨k,dR.plainO _⟩⟩,k,aJ⟩ k k k ⟨k,dR.tame _ _,aJ⟩ k k) k ?_
   obtain ⟨q4,h⟩:=cg h
   refine kC k2<|sn<|bB<|tn<|rgS<|fC k2<|se (bT k k) k<|kC k2<|sn<|tn ?_
   obtain rfl:=so h
   exact ⟨_,k,(Ent.trans (show Ent _ (bN [(0,.own 0 0 ((x1.1.set x1.2.2.toNat (⟨x1.2.1,wr (x1.2.1+1),v3.1⟩:Mt)).length)),(1,.int v3.2),(5,.int (wr (x1.2.2+1)))] [(0,⟨3,List.map (ow eM) (x1.1.set x1.2.2.toNat (⟨x1.2.1,wr (x1.2.1+1),v3.1⟩:Mt))⟩)] 2 [2,3] ⟨1,true,none,true⟩) from (Ent.trans (aBP (b:=0) (b':=1) (j:=2) (es':=v3.1.map eI) (by rw [List.length_map];exact dE hv2) k k k k (by simp only [aZ,lA,lT,lR,lC,lN,of_decide_eq_true q4]) (dR.frzs _)) (aC (σ:=sg [(0,0)]) ⟨⟨_,k,⟨k,k,(by simp only [aZ,lA,lT,lR,lC,lN,of_decide_eq_true q4]),k⟩⟩,(e1 k k),(e1 k k),aJ⟩ (hX ⟨_,k,k,.inl ⟨aHM (⟨x1.2.1,wr (x1.2.1+1),v3.1⟩:Mt) k,lQ.plainO _⟩⟩ k<|aJ) k))) (aC (σ:=sg [(0,0)]) ⟨(oE k k),(e1 k k),(e1 k k),aJ⟩ (hB (lQ.plainO _) k k k<|aJ) k))⟩
  ·refine aN k q1<|bC<|aE<|aE ?_
   obtain rfl:=so h
   exact ⟨_,k,k,(aC (σ:=sg [(0,0)]) ⟨(e1 k k),aJ⟩ (hB (lQ.plainO _) k k k<|aJ) k)⟩
 ·rintro e t ⟨rfl,hent⟩
  refine aU<|tn<|aM hent<|sS<|fC k2<|kC k2<|sn<|tn<|aL ?_
  obtain rfl:=so h
  exact ⟨bN [(4,.int y5.2)] [(0,⟨3,y5.1.map (ow eM)⟩)] 1 [1,2,3] ⟨1,true,none,true⟩,(aC (σ:=sg [(0,0)]) ⟨(e1 k k),aJ⟩ (hB (lQ.plainO _) k k k<|aJ) k),k,⟨_,k,.inl k⟩,⟨k,aJ⟩⟩
def uG (a0:Rp) (a1:Int):Option ((List Int)×(List Int)×(List Int)×(List Mt)×Int):=
 Option.bind (pB a0.q a1) fun v1=>
 bif decide (v1.1.length=a0.q.src.length) then
 (bif decide (v1.2.1.length=a0.q.tgt.length) then
 (Option.bind (gR a0.dims v1.2.2) fun v4=>
 bif decide (v4.1.length=a0.dims.length) then
 (Option.bind (mY a0.maps v4.2) fun v6=>
 bif decide (v6.1.length=a0.maps.length) then
 (some (v1.1,v1.2.1,v4.1,v6.1,v6.2))
 else none)
 else none)
 else none)
 else none
theorem aHi (a0:Rp) (a1:Int) (r:((List Int)×(List Int)×(List Int)×(List Mt)×Int)) (h:uG a0 a1=some r):HasT Tryz.prog 19 [.agg [.int a0.p,.int a0.q.n,.own 0 0 a0.q.src.length,.own 1 0 a0.q.tgt.length,.own 2 0 a0.dims.length,.own 3 0 a0.maps.length],.int a1] [(0,⟨1,a0.q.src.map (ow eI)⟩),(1,⟨1,a0.q.tgt.map (ow eI)⟩),(2,⟨1,a0.dims.map (ow eI)⟩),(3,⟨3,a0.maps.map (ow eM)⟩)] 4 (.int r.2.2.2.2) [(0,⟨1,r.1.map (ow eI)⟩),(1,⟨1,r.2.1.map (ow eI)⟩),(2,⟨1,r.2.2.1.map (ow eI)⟩),(3,⟨3,r.2.2.2.1.map (ow eM)⟩)]:=by
 refine aDh aB (rvs:=[.tmp 4]) (ns:=[4,5,6]) Tryz.func19 k k Tryz.ntmps19 k k<|sS<|se (cE k k k k) k<|kC k2<|sn<|tn<|sS<|fpS k8 ?_
 refine lpS k8<|fC k2 ?_
 obtain ⟨v1,hv1,h⟩:=ob h
 refine se (gK (σ:=sg [(0,0),(1,1)]) (σ':=sg [(0,0),(1,1)]) (touch:=[0,1]) (news:=[]) (hl2:=[(0,⟨1,v1.1.map (ow eI)⟩),(1,⟨1,v1.2.1.map (ow eI)⟩)]) (n':=5) (r2:= .int v1.2.2) (aDx a0.q a1 v1 hv1) k k ⟨_,_,k,⟨_,_,k,k,⟨_,_,k,⟨k,k,k,k⟩,⟨_,_,k,⟨k,k,k,k⟩,k⟩⟩⟩,⟨_,_,k,k,k⟩⟩ ⟨⟨_,k,k,.inl ⟨k,dR.plainO _⟩⟩,k,⟨_,k,k,.inl ⟨k,dR.plainO _⟩⟩,k,aJ⟩ k k k ⟨⟨_,k,k,.inl ⟨k,dR.plainO _⟩⟩,k,⟨_,k,k,.inl ⟨k,dR.plainO _⟩⟩,k,aJ⟩ k k k ⟨k,dR.tame _ _,⟨k,dR.tame _ _,aJ⟩⟩ k k) k ?_
 obtain ⟨q2,h⟩:=cg h
 obtain ⟨q3,h⟩:=cg h
 refine kC k2<|sn<|tn<|sS<|fpS k8<|lpS k8<|fC k2 ?_
 obtain ⟨v4,hv4,h⟩:=ob h
 refine se (gK (σ:=sg [(0,2)]) (σ':=sg [(2,0)]) (touch:=[2]) (news:=[]) (hl2:=[(2,⟨1,v4.1.map (ow eI)⟩)]) (n':=5) (r2:= .int v4.2) (nS a0.dims v1.2.2 v4 hv4) k k ⟨_,_,k,⟨k,k,k,k⟩,⟨_,_,k,k,k⟩⟩ ⟨⟨_,k,k,.inl ⟨k,dR.plainO _⟩⟩,k,aJ⟩ k k k ⟨⟨_,k,k,.inl ⟨k,dR.plainO _⟩⟩,k,aJ⟩ k k k ⟨k,dR.tame _ _,aJ⟩ k k) k ?_
 obtain ⟨q5,h⟩:=cg h
 refine kC k2<|sn<|tn<|aM (t:=bN [(1,.int v4.2),(2,.ptr 4 0 0)] [(0,⟨1,v1.1.map (ow eI)⟩),(1,⟨1,v1.2.1.map (ow eI)⟩),(2,⟨1,v4.1.map (ow eI)⟩),(3,⟨3,a0.maps.map (ow eM)⟩),(4,⟨6,[[.int a0.p,.int a0.q.n,.own 0 0 v1.1.length,.own 1 0 v1.2.1.length,.own 2 0 v4.1.length,.own 3 0 a0.maps.length]]⟩)] 5 [5,6] ⟨4,true,none,true⟩) (aC (σ:=sg [(0,0),(1,1),(2,2),(3,3),(4,4)]) ⟨(e1 k k),(pE k k),aJ⟩ (hI k k k<|hI k k k<|hI k k k<|hB (lQ.plainO _) k k k<|hX ⟨_,k,k,.inr ⟨_,_,k,⟨_,_,k,k,⟨_,_,k,k,⟨_,_,k,⟨k,k,(by simp only [aZ,lA,lT,lR,lC,lN,of_decide_eq_true q2]),k⟩,⟨_,_,k,⟨k,k,(by simp only [aZ,lA,lT,lR,lC,lN,of_decide_eq_true q3]),k⟩,⟨_,_,k,⟨k,k,(by simp only [aZ,lA,lT,lR,lC,lN,of_decide_eq_true q5]),k⟩,⟨_,_,k,⟨k,k,k,k⟩,k⟩⟩⟩⟩⟩⟩,k⟩⟩ k<|aJ) k)<|sS<|fpS k8<|lpS k8<|fC k2 ?_
 obtain ⟨v6,hv6,h⟩:=ob h
 refine fY (t:=bN [(1,.int v4.2),(2,.ptr 4 0 0),(13,.ptr 4 0 5),(14,.own 3 0 a0.maps.length),(15,.int v4.2)] [(0,⟨1,v1.1.map (ow eI)⟩),(1,⟨1,v1.2.1.map (ow eI)⟩),(2,⟨1,v4.1.map (ow eI)⟩),(3,⟨3,a0.maps.map (ow eM)⟩),(4,⟨6,[[.int a0.p,.int a0.q.n,.own 0 0 v1.1.length,.own 1 0 v1.2.1.length,.own 2 0 v4.1.length,.own 3 0 a0.maps.length]]⟩)] 5 [5,6] ⟨4,true,none,true⟩) (aC (σ:=sg [(0,0),(1,1),(2,2),(3,3),(4,4)]) ⟨(e1 k k),(pE k k),(pE k k),(oE k k),(e1 k k),aJ⟩ (hI k k k<|hI k k k<|hI k k k<|hB (lQ.plainO _) k k k<|hX ⟨_,k,k,.inr ⟨_,_,k,⟨_,_,k,k,⟨_,_,k,k,⟨_,_,k,⟨k,k,k,k⟩,⟨_,_,k,⟨k,k,k,k⟩,⟨_,_,k,⟨k,k,k,k⟩,⟨_,_,k,⟨k,k,k,k⟩,k⟩⟩⟩⟩⟩⟩,k⟩⟩ k<|aJ) k)<|aHQ (σ:=sg [(0,3)]) (σ':=sg [(3,0)]) (touch:=[3]) (news:=[]) (hl2:=[(3,⟨3,v6.1.map (ow eM)⟩)]) (n':=5) (r2:= .int v6.2) (aCr a0.maps v4.2 v6 hv6) k k ⟨_,_,k,⟨k,k,k,k⟩,⟨_,_,k,k,k⟩⟩ ⟨⟨_,k,k,.inl ⟨k,lQ.plainO _⟩⟩,k,aJ⟩ k k k ⟨⟨_,k,k,.inl ⟨k,lQ.plainO _⟩⟩,k,aJ⟩ k k k ⟨k,lQ.tame _ _,aJ⟩ k k k k k (aAB ⟨k,k,k,k,k,aJ⟩) (aAC (skip:=[3]) ⟨.inr (dR.df _ _),.inr (dR.df _ _),.inr (dR.df _ _),.inl (by decide),.inr (aPd k),aJ⟩) ?_
 obtain ⟨q7,h⟩:=cg h
 refine kC k2<|sn<|tn<|sS<|fC k2<|kC k2<|sn<|tn<|aL ?_
 obtain rfl:=so h
 exact ⟨bN [(4,.int v6.2)] [(0,⟨1,v1.1.map (ow eI)⟩),(1,⟨1,v1.2.1.map (ow eI)⟩),(2,⟨1,v4.1.map (ow eI)⟩),(3,⟨3,v6.1.map (ow eM)⟩)] 4 [4,5,6] ⟨4,true,none,true⟩,(aC (σ:=sg [(0,0),(1,1),(2,2),(3,3)]) ⟨(e1 k k),aJ⟩ (hI k k k<|hI k k k<|hI k k k<|hB (lQ.plainO _) k k k<|aJ) k),k,⟨_,k,.inl k⟩,⟨k,k,k,k,aJ⟩⟩
def jW (x1:((List (List Sc))×Int×Int)):Option (((List (List Sc))×Int×Int) ⊕ ((List (List Sc))×Int)):=
 bif decide (x1.2.2<((x1.1.length:Nat):Int)) then
 (Option.bind (dY x1.1 x1.2.2) fun v2=>
 Option.bind (pA v2 x1.2.1) fun v3=>
 bif decide (v3.1.length=v2.length) then
 (some (.inl ((x1.1.set x1.2.2.toNat v3.1),v3.2,wr (x1.2.2+1))))
 else none)
 else
 (some (.inr (x1.1,x1.2.1)))
def mZ (a0:(List (List Sc))) (a1:Int):Option ((List (List Sc))×Int):=
 Option.bind (Lp jW (a0,a1,0)) fun y5=>
 some (y5.1,y5.2)
theorem aCs (a0:(List (List Sc))) (a1:Int) (r:((List (List Sc))×Int)) (h:mZ a0 a1=some r):HasT Tryz.prog 34 [.own 0 0 a0.length,.int a1] [(0,⟨1,a0.map (ow (cL 2 eS))⟩)] 1 (.int r.2) [(0,⟨1,r.1.map (ow (cL 2 eS))⟩)]:=by
 refine aDh aB (rvs:=[.tmp 4]) (ns:=[1,2,3]) Tryz.func34 k k Tryz.ntmps34 k k<|sS<|kC k2<|sn<|tn<|sQ<|sS<|kC k2 ?_
 refine sn<|tn<|aI ?_
 obtain ⟨y5,hy5,h⟩:=ob h
 refine cV (body:=jW) hy5 (fun (x1:((List (List Sc))×Int×Int))=>bN [(0,.own 0 0 x1.1.length),(1,.int x1.2.1),(5,.int x1.2.2)] [(0,⟨1,x1.1.map (ow (cL 2 eS))⟩)] 1 [1,2,3] ⟨1,true,none,true⟩) (fun r e t=>e= .exit 0∧Ent t (bN [(1,.int r.2)] [(0,⟨1,r.1.map (ow (cL 2 eS))⟩)] 1 [1,2,3] ⟨1,true,none,true⟩)) (aC (σ:=sg [(0,0)]) ⟨(oE k k),(e1 k k),(e1 k k),aJ⟩ (hB (cA.plainO _) k k k<|aJ) k) ?_ ?_
 ·intro x1 o h
  refine sQ<|sS<|fC k2<|fC k2<|se (bP aB k k k k) k<|cmS k4<|sn<|tn ?_
  rcases cb h with ⟨q1,h⟩|⟨q1,h⟩
  ·refine aH k q1<|aQ<|tn<|sQ<|aI<|rgS<|fC k2<|fC k2 ?_
   obtain ⟨v2,hv2,h⟩:=ob h
   refine fY (t:=bN [(0,.own 0 0 x1.1.length),(1,.int x1.2.1),(5,.int x1.2.2),(6,.int x1.2.2),(7,.own 0 0 x1.1.length),(8,.int ((x1.1.length:Nat):Int)),(9,.bl (decide (x1.2.2<((x1.1.length:Nat):Int)))),(12,.own 0 0 x1.1.length),(13,.int x1.2.2)] [(0,⟨1,(x1.1.map (ow (cL 2 eS))).set x1.2.2.toNat [.abs 2 (v2.map eS)]⟩)] 1 [1,2,3] ⟨1,true,none,true⟩) (aC (σ:=sg [(0,0)]) ⟨(oE k k),(e1 k k),(e1 k k),(e1 k k),(oE k k),(e1 k k),(e1 k k),(oE k k),(e1 k k),aJ⟩ (hX ⟨_,k,k,.inl ⟨aDl (dJ hv2),aBx cA k⟩⟩ k<|aJ) k)<|fY (aBy (b:=0) (c:=1) (i:=x1.2.2.toNat) (j:=0) (n:=v2.length) (A:=x1.1.map (ow (cL 2 eS))) (fs:=v2.map (ow eS)) (by rw [List.length_map];exact dE hv2) k k k k (aZ _ _) (cW _ _) (aAB ⟨k,k,k,k,k,k,k,k,k,aJ⟩) (aAC (skip:=[]) ⟨.inr (cA.dfS _ _ _ k),aJ⟩))<|fY (t:=bN [(0,.own 0 0 x1.1.length),(1,.int x1.2.1),(5,.int x1.2.2),(6,.int x1.2.2),(7,.own 0 0 x1.1.length),(8,.int ((x1.1.length:Nat):Int)),(9,.bl (decide (x1.2.2<((x1.1.length:Nat):Int)))),(12,.own 0 0 x1.1.length),(13,.int x1.2.2)] [(0,⟨1,(x1.1.map (ow (cL 2 eS))).set x1.2.2.toNat [.own 1 0 v2.length]⟩),(1,⟨2,v2.map (ow eS)⟩)] 2 [2,3] ⟨1,true,none,true⟩) (aC (σ:=sg [(0,0),(1,1)]) ⟨(oE k k),(e1 k k),(e1 k k),(e1 k k),(oE k k),(e1 k k),(e1 k k),(oE k k),(e1 k k),aJ⟩ (hX ⟨_,k,k,.inr (zJ (σ:=sg [(0,0),(1,1)]) (m:=2) (e:=(cL 2 eS)) (l:=x1.1) (i:=x1.2.2.toNat) (c:=[.own 1 0 v2.length]) (d:=[.own 1 0 v2.length]) cA ⟨_,_,k,⟨k,k,k,k⟩,k⟩)⟩ k<|hB (dA.plainO _) k k k<|aJ) k) ?_
   refine se (cU aB (eF hv2) (dE hv2) k k k k k k k) k<|se (bE aB k k k k (aJq (dE hv2)) k k) k<|fC k2 ?_
   obtain ⟨v3,hv3,h⟩:=ob h
   refine fY (t:=bN [(0,.own 0 0 x1.1.length),(1,.int x1.2.1),(5,.int x1.2.2),(6,.int x1.2.2),(7,.own 0 0 x1.1.length),(8,.int ((x1.1.length:Nat):Int)),(9,.bl (decide (x1.2.2<((x1.1.length:Nat):Int)))),(12,.own 0 0 x1.1.length),(13,.int x1.2.2),(14,.ptr 0 x1.2.2.toNat 0),(15,.own 1 0 v2.length),(16,.int x1.2.1)] [(0,⟨1,(x1.1.map (ow (cL 2 eS))).set x1.2.2.toNat [.own 1 0 v2.length]⟩),(1,⟨2,v2.map (ow eS)⟩)] 2 [2,3] ⟨1,true,none,true⟩) (aC (σ:=sg [(0,0),(1,1)]) ⟨(oE k k),(e1 k k),(e1 k k),(e1 k k),(oE k k),(e1 k k),(e1 k k),(oE k k),(e1 k k),(pE k k),(oE k k),(e1 k k),aJ⟩ (hX ⟨_,k,k,.inr (zJ (σ:=sg [(0,0),(1,1)]) (m:=2) (e:=(cL 2 eS)) (l:=x1.1) (i:=x1.2.2.toNat) (c:=[.own 1 0 v2.length]) (d:=[.own 1 0 v2.length]) cA ⟨_,_,k,⟨k,k,k,k⟩,k⟩)⟩ k<|hB (dA.plainO _) k k k<|aJ) k)<|aHQ (σ:=sg [(0,1)]) (σ':=sg [(1,0)]) (touch:=[1]) (news:=[]) (hl2:=[(1,⟨2,v3.1.map (ow eS)⟩)]) (n':=2) (r2:= .int v3.2) (aDw v2 x1.2.1 v3 hv3) k k ⟨_,_,k,⟨k,k,k,k⟩,⟨_,_,k,k,k⟩⟩ ⟨⟨_,k,k,.inl ⟨k,dA.plainO _⟩⟩,k,aJ⟩ k k k ⟨⟨_,k,k,.inl ⟨k,dA.plainO _⟩⟩,k,aJ⟩ k k k ⟨k,dA.tame _ _,aJ⟩ k k k k k (aAB ⟨k,k,k,k,k,k,k,k,k,k,k,k,aJ⟩) (aAC (skip:=[1]) ⟨.inr (cA.dfS _ _ _ k),.inl (by decide),aJ⟩) ?_
   obtain ⟨q4,h⟩:=cg h
   refine kC k2<|sn<|bB<|tn<|rgS<|fC k2<|se (bT k k) k<|kC k2<|sn<|tn ?_
   obtain rfl:=so h
   exact ⟨_,k,(Ent.trans (show Ent _ (bN [(0,.own 0 0 ((x1.1.set x1.2.2.toNat v3.1).length)),(1,.int v3.2),(5,.int (wr (x1.2.2+1)))] [(0,⟨1,List.map (ow (cL 2 eS)) (x1.1.set x1.2.2.toNat v3.1)⟩)] 2 [2,3] ⟨1,true,none,true⟩) from (Ent.trans (aBP (b:=0) (b':=1) (j:=0) (es':=v3.1.map eS) (by rw [List.length_map];exact dE hv2) k k k k (by simp only [aZ,lA,lT,lR,lC,lN,of_decide_eq_true q4]) (dA.frzs _)) (aC (σ:=sg [(0,0)]) ⟨⟨_,k,⟨k,k,(by simp only [aZ,lA,lT,lR,lC,lN,of_decide_eq_true q4]),k⟩⟩,(e1 k k),(e1 k k),aJ⟩ (hX ⟨_,k,k,.inl ⟨aHM v3.1 k,cA.plainO _⟩⟩ k<|aJ) k))) (aC (σ:=sg [(0,0)]) ⟨(oE k k),(e1 k k),(e1 k k),aJ⟩ (hB (cA.plainO _) k k k<|aJ) k))⟩
  ·refine aN k q1<|bC<|aE<|aE ?_
   obtain rfl:=so h
   exact ⟨_,k,k,(aC (σ:=sg [(0,0)]) ⟨(e1 k k),aJ⟩ (hB (cA.plainO _) k k k<|aJ) k)⟩
 ·rintro e t ⟨rfl,hent⟩
  refine aU<|tn<|aM hent<|sS<|fC k2<|kC k2<|sn<|tn<|aL ?_
  obtain rfl:=so h
  exact ⟨bN [(4,.int y5.2)] [(0,⟨1,y5.1.map (ow (cL 2 eS))⟩)] 1 [1,2,3] ⟨1,true,none,true⟩,(aC (σ:=sg [(0,0)]) ⟨(e1 k k),aJ⟩ (hB (cA.plainO _) k k k<|aJ) k),k,⟨_,k,.inl k⟩,⟨k,aJ⟩⟩
def nA (a0:(List Int)) (x1:(Int×Int)):Option ((Int×Int) ⊕ (Int ⊕ Int)):=
 bif decide (x1.2<(a0.length:Int)) then
 (Option.bind (dY a0 x1.2) fun v2=>
 bif !decide (v2=x1.1) then
 (some (.inr (.inr ((-1)))))
 else
 (some (.inl (wr (x1.1+1),wr (x1.2+1)))))
 else
 (some (.inr (.inl x1.1)))
def rW (a0:(List Int)) (a1:Int):Option Int:=
 Option.bind (Lp (nA a0) (a1,0)) fun y4=>
 Sum.elim (fun y5=>
 some (y5)
 )
 (fun y6=>
 some y6
 )
 y4
theorem aGH (a0:(List Int)) (a1:Int) (r:Int) (h:rW a0 a1=some r):HasC Tryz.prog 77 [.list 1 (a0.map eI),.int a1] (.int r):=by
 refine bJ aB (rvs:=[.tmp 4]) (ns:=[0,1]) Tryz.func77 k k Tryz.ntmps77 k k k<|sR<|aT k2<|sQ<|sR<|aa k k ?_
 refine an<|tn<|aI ?_
 obtain ⟨y4,hy4,h⟩:=ob h
 refine cV (body:=(nA a0)) hy4 (fun (x1:(Int×Int))=>bN [(0,.list 1 (a0.map eI)),(1,.int x1.1),(5,.int x1.2)] [] 0 [0,1]) (fun r e t=>Sum.elim (fun a=>(fun r e t=>e= .exit 0∧Ent t (bN [(1,.int r)] [] 0 [0,1])) a e t) (fun b=>(fun r e t=>e= .ret∧oD TT [.tmp 4] (.int r) .ret t) b e t) r) (aC (σ:=sg []) ⟨⟨_,k,⟨k,k⟩⟩,(e1 k k),(e1 k k),aJ⟩ aJ k) ?_ ?_
 ·intro x1 o h
  refine sQ<|sR<|am k k<|am k k<|ln k4<|cm k4<|an<|tn ?_
  rcases cb h with ⟨q1,h⟩|⟨q1,h⟩
  ·refine aH k q1<|aQ<|tn<|sQ<|aI<|sQ<|sR<|am k k<|am k k ?_
   obtain ⟨v2,hv2,h⟩:=ob h
   refine ae (bF aB hv2 k k k k k k) k<|lr k7<|am k k<|cm k4<|an<|tn ?_
   rcases cb h with ⟨q3,h⟩|⟨q3,h⟩
   ·refine aH k q3<|sR<|aT k2<|aL<|aG<|aY<|aG ?_
    refine aG ?_
    obtain rfl:=so h
    exact ⟨_,k,k,aS k k k (cT k)⟩
   ·refine aN k q3<|aQ<|tn<|rg<|am k k<|ae (bT k k) k<|aa k k<|an<|bB<|tn ?_
    refine aM (t:=bN [(0,.list 1 (a0.map eI)),(1,.int (wr (x1.1+1))),(5,.int x1.2)] [] 0 [0,1]) (aC (σ:=sg []) ⟨⟨_,k,⟨k,k⟩⟩,(e1 k k),(e1 k k),aJ⟩ aJ k)<|rg<|am k k<|ae (bT k k) k<|aT k2 ?_
    obtain rfl:=so h
    exact ⟨_,k,(aC (σ:=sg []) ⟨⟨_,k,⟨k,k⟩⟩,(e1 k k),(e1 k k),aJ⟩ aJ k)⟩
  ·refine aN k q1<|bC<|aE<|aE ?_
   obtain rfl:=so h
   exact ⟨_,k,k,(aC (σ:=sg []) ⟨(e1 k k),aJ⟩ aJ k)⟩
 ·intro e t hX
  rcases y4 with y5|y6
  ·obtain ⟨rfl,hent⟩:=hX
   refine aU<|tn<|aM hent<|sR<|am k k<|aT k2<|aL ?_
   obtain rfl:=so h
   exact aS k k k (cT k)
  ·obtain ⟨rfl,hent⟩:=hX
   refine aY<|aG ?_
   obtain rfl:=so h
   exact hent
def lL (a0:(List (List Int))) (x1:(Int×Int)):Option ((Int×Int) ⊕ (Int ⊕ Int)):=
 bif decide (x1.2<(a0.length:Int)) then
 (Option.bind (dY a0 x1.2) fun v2=>
 Option.bind (rW v2 x1.1) fun v3=>
 bif decide (v3<0) then
 (some (.inr (.inr ((-1)))))
 else
 (some (.inl (v3,wr (x1.2+1)))))
 else
 (some (.inr (.inl x1.1)))
def qQ (a0:(List (List Int))) (a1:Int):Option Int:=
 Option.bind (Lp (lL a0) (a1,0)) fun y5=>
 Sum.elim (fun y6=>
 some (y6)
 )
 (fun y7=>
 some y7
 )
 y5
theorem aEz (a0:(List (List Int))) (a1:Int) (r:Int) (h:qQ a0 a1=some r):HasC Tryz.prog 47 [.list 1 (a0.map (cL 1 eI)),.int a1] (.int r):=by
 refine bJ aB (rvs:=[.tmp 4]) (ns:=[0,1]) Tryz.func47 k k Tryz.ntmps47 k k k<|sR<|aT k2<|sQ<|sR<|aa k k ?_
 refine an<|tn<|aI ?_
 obtain ⟨y5,hy5,h⟩:=ob h
 refine cV (body:=(lL a0)) hy5 (fun (x1:(Int×Int))=>bN [(0,.list 1 (a0.map (cL 1 eI))),(1,.int x1.1),(5,.int x1.2)] [] 0 [0,1]) (fun r e t=>Sum.elim (fun a=>(fun r e t=>e= .exit 0∧Ent t (bN [(1,.int r)] [] 0 [0,1])) a e t) (fun b=>(fun r e t=>e= .ret∧oD TT [.tmp 4] (.int r) .ret t) b e t) r) (aC (σ:=sg []) ⟨⟨_,k,⟨k,k⟩⟩,(e1 k k),(e1 k k),aJ⟩ aJ k) ?_ ?_
 ·intro x1 o h
  refine sQ<|sR<|am k k<|am k k<|ln k4<|cm k4<|an<|tn ?_
  rcases cb h with ⟨q1,h⟩|⟨q1,h⟩
  ·refine aH k q1<|aQ<|tn<|sQ<|aI<|sR<|am k k<|am k k ?_
   obtain ⟨v2,hv2,h⟩:=ob h
   refine ae (bF aB hv2 k k k k k k) k<|lr k7<|am k k ?_
   obtain ⟨v3,hv3,h⟩:=ob h
   refine ae (bA (aGH v2 x1.1 v3 hv3) k (aD (aO k) (aD (aO k) bD))) k<|aT k2<|sR<|am k k<|cm k4<|an<|tn ?_
   refine aM (t:=bN [(0,.list 1 (a0.map (cL 1 eI))),(1,.int v3),(5,.int x1.2),(19,.bl (decide (v3<0)))] [] 0 [0,1]) (aC (σ:=sg []) ⟨⟨_,k,⟨k,k⟩⟩,(e1 k k),(e1 k k),(e1 k k),aJ⟩ aJ k) ?_
   rcases cb h with ⟨q4,h⟩|⟨q4,h⟩
   ·refine aH k q4<|sR<|aT k2<|aL<|aY<|aG<|aG ?_
    obtain rfl:=so h
    exact ⟨_,k,k,aS k k k (cT k)⟩
   ·refine aN k q4<|aQ<|bB<|tn<|rg<|am k k<|ae (bT k k) k<|aT k2 ?_
    obtain rfl:=so h
    exact ⟨_,k,(aC (σ:=sg []) ⟨⟨_,k,⟨k,k⟩⟩,(e1 k k),(e1 k k),aJ⟩ aJ k)⟩
  ·refine aN k q1<|bC<|aE<|aE ?_
   obtain rfl:=so h
   exact ⟨_,k,k,(aC (σ:=sg []) ⟨(e1 k k),aJ⟩ aJ k)⟩
 ·intro e t hX
  rcases y5 with y6|y7
  ·obtain ⟨rfl,hent⟩:=hX
   refine aU<|tn<|aM hent<|sR<|am k k<|aT k2<|aL ?_
   obtain rfl:=so h
   exact aS k k k (cT k)
  ·obtain ⟨rfl,hent⟩:=hX
   refine aY<|aG ?_
   obtain rfl:=so h
   exact hent
def kQ (a0:(List Sc)) (x1:(Int×Int)):Option ((Int×Int) ⊕ (Int ⊕ Int)):=
 bif decide (x1.2<(a0.length:Int)) then
 (Option.bind (dY a0 x1.2) fun v2=>
 bif !decide (v2.size=x1.1) then
 (some (.inr (.inr ((-1)))))
 else
 (Option.bind (dY a0 x1.2) fun v4=>
 Option.bind (qQ v4.basis (wr (x1.1+1))) fun v5=>
 bif decide (v5<0) then
 (some (.inr (.inr ((-1)))))
 else
 (some (.inl (v5,wr (x1.2+1))))))
 else
 (some (.inr (.inl x1.1)))
def pC (a0:(List Sc)) (a1:Int):Option Int:=
 Option.bind (Lp (kQ a0) (a1,0)) fun y7=>
 Sum.elim (fun y8=>
 some (y8)
 )
 (fun y9=>
 some y9
 )
 y7
theorem aDy (a0:(List Sc)) (a1:Int) (r:Int) (h:pC a0 a1=some r):HasC Tryz.prog 42 [.list 2 (a0.map eS),.int a1] (.int r):=by
 refine bJ aB (rvs:=[.tmp 4]) (ns:=[0,1]) Tryz.func42 k k Tryz.ntmps42 k k k<|sR<|aT k2<|sQ<|sR<|aa k k ?_
 refine an<|tn<|aI ?_
 obtain ⟨y7,hy7,h⟩:=ob h
 refine cV (body:=(kQ a0)) hy7 (fun (x1:(Int×Int))=>bN [(0,.list 2 (a0.map eS)),(1,.int x1.1),(5,.int x1.2)] [] 0 [0,1]) (fun r e t=>Sum.elim (fun a=>(fun r e t=>e= .exit 0∧Ent t (bN [(1,.int r)] [] 0 [0,1])) a e t) (fun b=>(fun r e t=>e= .ret∧oD TT [.tmp 4] (.int r) .ret t) b e t) r) (aC (σ:=sg []) ⟨⟨_,k,⟨k,k⟩⟩,(e1 k k),(e1 k k),aJ⟩ aJ k) ?_ ?_
 ·intro x1 o h
  refine sQ<|sR<|am k k<|am k k<|ln k4<|cm k4<|an<|tn ?_
  rcases cb h with ⟨q1,h⟩|⟨q1,h⟩
  ·refine aH k q1<|aQ<|tn<|sQ<|aI<|sQ<|sR<|am k k<|am k k ?_
   obtain ⟨v2,hv2,h⟩:=ob h
   refine ae (bF aB hv2 k k k k k k) k<|ae (bZ aB k k k k k k) k<|lr k7<|am k k<|cm k4<|an<|tn ?_
   rcases cb h with ⟨q3,h⟩|⟨q3,h⟩
   ·refine aH k q3<|sR<|aT k2<|aM (t:=bN [(4,.int (-1))] [] 0 [0,1]) (aC (σ:=sg []) ⟨(e1 k k),aJ⟩ aJ k)<|aL<|aG<|aY ?_
    refine aG<|aG ?_
    obtain rfl:=so h
    exact ⟨_,k,k,aS k k k (cT k)⟩
   ·refine aN k q3<|aQ<|tn<|sR<|am k k<|ae (bT k k) k<|aT k2 ?_
    refine aM (t:=bN [(0,.list 2 (a0.map eS)),(1,.int (wr (x1.1+1))),(5,.int x1.2)] [] 0 [0,1]) (aC (σ:=sg []) ⟨⟨_,k,⟨k,k⟩⟩,(e1 k k),(e1 k k),aJ⟩ aJ k)<|sR<|am k k<|am k k ?_
    obtain ⟨v4,hv4,h⟩:=ob h
    refine ae (bF aB hv4 k k k k k k) k<|ae (bZ aB k k k k k k) k<|lr k7<|am k k ?_
    obtain ⟨v5,hv5,h⟩:=ob h
    refine ae (bA (aEz v4.basis (wr (x1.1+1)) v5 hv5) k (aD (aO k) (aD (aO k) bD))) k<|aT k2<|sR<|am k k<|cm k4<|an<|tn ?_
    rcases cb h with ⟨q6,h⟩|⟨q6,h⟩
    ·refine aH k q6<|sR<|aT k2<|aL<|aY<|aG<|aG ?_
     obtain rfl:=so h
     exact ⟨_,k,k,aS k k k (cT k)⟩
    ·refine aN k q6<|aQ<|bB<|tn<|rg<|am k k<|ae (bT k k) k<|aT k2 ?_
     obtain rfl:=so h
     exact ⟨_,k,(aC (σ:=sg []) ⟨⟨_,k,⟨k,k⟩⟩,(e1 k k),(e1 k k),aJ⟩ aJ k)⟩
  ·refine aN k q1<|bC<|aE<|aE ?_
   obtain rfl:=so h
   exact ⟨_,k,k,(aC (σ:=sg []) ⟨(e1 k k),aJ⟩ aJ k)⟩
 ·intro e t hX
  rcases y7 with y8|y9
  ·obtain ⟨rfl,hent⟩:=hX
   refine aU<|tn<|aM hent<|sR<|am k k<|aT k2<|aL ?_
   obtain rfl:=so h
   exact aS k k k (cT k)
  ·obtain ⟨rfl,hent⟩:=hX
   refine aY<|aG ?_
   obtain rfl:=so h
   exact hent
def jX (a0:(List (List Sc))) (x1:(Int×Int)):Option ((Int×Int) ⊕ (Int ⊕ Int)):=
 bif decide (x1.2<(a0.length:Int)) then
 (Option.bind (dY a0 x1.2) fun v2=>
 Option.bind (pC v2 x1.1) fun v3=>
 bif decide (v3<0) then
 (some (.inr (.inr ((-1)))))
 else
 (some (.inl (v3,wr (x1.2+1)))))
 else
 (some (.inr (.inl x1.1)))
def jM (a0:(List (List Sc))) (a1:Int):Option Int:=
 Option.bind (Lp (jX a0) (a1,0)) fun y5=>
 Sum.elim (fun y6=>
 some (y6)
 )
 (fun y7=>
 some y7
 )
 y5
theorem yG (a0:(List (List Sc))) (a1:Int) (r:Int) (h:jM a0 a1=some r):HasC Tryz.prog 35 [.list 1 (a0.map (cL 2 eS)),.int a1] (.int r):=by
 refine bJ aB (rvs:=[.tmp 4]) (ns:=[0,1]) Tryz.func35 k k Tryz.ntmps35 k k k<|sR<|aT k2<|sQ<|sR<|aa k k ?_
 refine an<|tn<|aI ?_
 obtain ⟨y5,hy5,h⟩:=ob h
 refine cV (body:=(jX a0)) hy5 (fun (x1:(Int×Int))=>bN [(0,.list 1 (a0.map (cL 2 eS))),(1,.int x1.1),(5,.int x1.2)] [] 0 [0,1]) (fun r e t=>Sum.elim (fun a=>(fun r e t=>e= .exit 0∧Ent t (bN [(1,.int r)] [] 0 [0,1])) a e t) (fun b=>(fun r e t=>e= .ret∧oD TT [.tmp 4] (.int r) .ret t) b e t) r) (aC (σ:=sg []) ⟨⟨_,k,⟨k,k⟩⟩,(e1 k k),(e1 k k),aJ⟩ aJ k) ?_ ?_
 ·intro x1 o h
  refine sQ<|sR<|am k k<|am k k<|ln k4<|cm k4<|an<|tn ?_
  rcases cb h with ⟨q1,h⟩|⟨q1,h⟩
  ·refine aH k q1<|aQ<|tn<|sQ<|aI<|sR<|am k k<|am k k ?_
   obtain ⟨v2,hv2,h⟩:=ob h
   refine ae (bF aB hv2 k k k k k k) k<|lr k7<|am k k ?_
   obtain ⟨v3,hv3,h⟩:=ob h
   refine ae (bA (aDy v2 x1.1 v3 hv3) k (aD (aO k) (aD (aO k) bD))) k<|aT k2<|sR<|am k k<|cm k4<|an<|tn ?_
   refine aM (t:=bN [(0,.list 1 (a0.map (cL 2 eS))),(1,.int v3),(5,.int x1.2),(19,.bl (decide (v3<0)))] [] 0 [0,1]) (aC (σ:=sg []) ⟨⟨_,k,⟨k,k⟩⟩,(e1 k k),(e1 k k),(e1 k k),aJ⟩ aJ k) ?_
   rcases cb h with ⟨q4,h⟩|⟨q4,h⟩
   ·refine aH k q4<|sR<|aT k2<|aL<|aY<|aG<|aG ?_
    obtain rfl:=so h
    exact ⟨_,k,k,aS k k k (cT k)⟩
   ·refine aN k q4<|aQ<|bB<|tn<|rg<|am k k<|ae (bT k k) k<|aT k2 ?_
    obtain rfl:=so h
    exact ⟨_,k,(aC (σ:=sg []) ⟨⟨_,k,⟨k,k⟩⟩,(e1 k k),(e1 k k),aJ⟩ aJ k)⟩
  ·refine aN k q1<|bC<|aE<|aE ?_
   obtain rfl:=so h
   exact ⟨_,k,k,(aC (σ:=sg []) ⟨(e1 k k),aJ⟩ aJ k)⟩
 ·intro e t hX
  rcases y5 with y6|y7
  ·obtain ⟨rfl,hent⟩:=hX
   refine aU<|tn<|aM hent<|sR<|am k k<|aT k2<|aL ?_
   obtain rfl:=so h
   exact aS k k k (cT k)
  ·obtain ⟨rfl,hent⟩:=hX
   refine aY<|aG ?_
   obtain rfl:=so h
   exact hent
end
noncomputable section
def nvS {α:Type} (nv:α→Nat):List α→Nat
 | []=>0
 |x::l=>nv x+nvS nv l
def mvS {α:Type} (mv:Int→α→α) (nv:α→Nat):Int→List α→List α
 |_,[]=>[]
 |k,x::l=>mv k x::mvS mv nv (k+nv x) l
section
variable {α:Type} {mv:Int→α→α} {nv:α→Nat}
theorem nB: ∀ (l:List α) (k:Int),(mvS mv nv k l).length=l.length
 | [],_=>rfl
 |x::l,k=>by simp [mvS,nB l]
theorem aKK: ∀ (l m:List α),nvS nv (l++m)=nvS nv l+nvS nv m
 | [],m=>by simp [nvS]
 |x::l,m=>by simp [nvS,aKK l m];omega
theorem aKL: ∀ (l m:List α) (k:Int),mvS mv nv k (l++m)=mvS mv nv k l++mvS mv nv (k+nvS nv l) m
 | [],m,k=>by simp [mvS,nvS]
 |x::l,m,k=>by
  simp only [List.cons_append,mvS,nvS,aKL l m]
  rw [show k+((nv x+nvS nv l:Nat):Int)=k+(nv x:Int)+(nvS nv l:Int) by omega]
theorem aDz {l:List α} {i:Nat} (hi:i<l.length):nvS nv (l.take (i+1))=nvS nv (l.take i)+nv l[i]:=by
 rw [List.take_succ_eq_append_getElem hi,aKK];simp [nvS]
theorem aFi (l:List α) (i:Nat):nvS nv (l.take i)≤nvS nv l:=by
 have h:nvS nv (l.take i++l.drop i)=nvS nv l:=by rw [List.take_append_drop]
 rw [aKK] at h;omega
theorem aHj {c:Nat} : ∀ {l:List α},(∀ x∈l,nv x≤c)→nvS nv l≤c*l.length
 | [],_=>by simp [nvS]
 |x::l,h=>by
  have h1:=h x (by simp)
  have h2:=aHj (l:=l) fun y hy=>h y (by simp [hy])
  simp only [nvS,List.length_cons,Nat.mul_add,Nat.mul_one];omega
theorem aGd {l:List α} {k:Int} {i:Nat} (hi:i<l.length):(mvS mv nv k l)[i]? =some (mv (k+nvS nv (l.take i)) l[i]):=by
 have e:l=l.take i++l[i]::l.drop (i+1):=by rw [←List.drop_eq_getElem_cons hi,List.take_append_drop]
 have e2:mvS mv nv k l=mvS mv nv k (l.take i)++mvS mv nv (k+nvS nv (l.take i)) (l[i]::l.drop (i+1)):=by rw [←aKL,←e]
 rw [e2,List.getElem?_append_right (by rw [nB];simp;omega),nB]
 simp [mvS,Nat.min_eq_left (Nat.le_of_lt hi)]
theorem aAb {l:List α} {k0:Int} {body:List α×Int×Int→Option ((List α×Int×Int) ⊕ (List α×Int))} (h0:0≤k0) (hk:k0+nvS nv l≤4611686018427387904) (hl:l.length≤4611686018427387904)
  (hs: ∀ (r:List α) (i:Nat) (k:Int) (hi:i<r.length),r[i]∈l→0≤k→k+nv r[i]≤4611686018427387904→body (r,k,i)=some (.inl (r.set i (mv k r[i]),k+nv r[i],wr (i+1)))) (he: ∀ r k,body (r,k,(r.length:Int))=some (.inr (r,k))):
  Lp body (l,k0,0)=some (mvS mv nv k0 l,k0+nvS nv l):=by
 rw [fK (r:=(mvS mv nv k0 l,k0+nvS nv l)) (fun i=>(mvS mv nv k0 (l.take i)++l.drop i,k0+nvS nv (l.take i),(i:Int))) l.length (by simp [mvS,nvS]) (fun i hi=>?_) (fun _=>?_)]
 ·have hm:(mvS mv nv k0 (l.take i)).length=i:=by rw [nB];simp;omega
  have hg:(mvS mv nv k0 (l.take i)++l.drop i)[i]'(by simp [nB];omega)=l[i]:=by
   rw [List.getElem_append_right (by omega)]
   simp [hm]
  have hb:=aFi (nv:=nv) l (i+1)
  rw [aDz hi] at hb
  rw [hs _ i _ (by simp [nB];omega) (by rw [hg];exact List.getElem_mem hi) (by omega) (by rw [hg];omega),hg,dO hi hl]
  congr 2
  refine Prod.ext ?_ (Prod.ext ?_ rfl)
  ·simp only
   rw [List.set_append_right _ _ (by omega),hm,Nat.sub_self,List.drop_eq_getElem_cons hi,List.set_cons_zero,List.take_succ_eq_append_getElem hi,aKL]
   simp [mvS]
  ·simp only
   rw [aDz hi];omega
 ·have:=he (mvS mv nv k0 (l.take l.length)++l.drop l.length) (k0+nvS nv (l.take l.length))
  simp only [List.take_length,List.drop_length,List.append_nil,nB] at this ⊢
  exact this
theorem aCC {l:List α} {k0:Int} {body:Int×Int→Option ((Int×Int) ⊕ (Int ⊕ Int))} (h0:0≤k0) (hk:k0+nvS nv l≤4611686018427387904) (hl:l.length≤4611686018427387904)
  (hs: ∀ (i:Nat) (hi:i<l.length) (k:Int),k=k0+nvS nv (l.take i)→0≤k→k+nv l[i]≤4611686018427387904→body (k,i)=some (.inl (k+nv l[i],wr (i+1)))) (he: ∀ k,body (k,(l.length:Int))=some (.inr (.inl k))):
  Lp body (k0,0)=some (.inl (k0+nvS nv l)):=by
 rw [fK (r:=Sum.inl (k0+nvS nv l)) (fun i=>(k0+nvS nv (l.take i),(i:Int))) l.length (by simp [nvS]) (fun i hi=>?_) (fun _=>?_)]
 ·have hb:=aFi (nv:=nv) l (i+1)
  rw [aDz hi] at hb
  rw [hs i hi _ rfl (by omega) (by omega),dO hi hl,aDz hi]
  congr 3
  omega
 ·rw [he];simp
end
def nI (l:List Int):Nat:=nvS (fun _=>1) l
def mvI:Int→List Int→List Int:=mvS (fun k _=>k) (fun _=>1)
theorem aBa: ∀ l:List Int,nI l=l.length
 | []=>rfl
 |x::l=>by have:=aBa l;simp only [nI] at this;simp only [nI,nvS,List.length_cons];omega
theorem wA (k:Int) (l:List Int):(mvI k l).length=l.length:=nB l k
theorem aRN {k:Int} {n:Nat} (h:0≤k):decide (k+(n:Int)<0)=false:=decide_eq_false (by omega)
theorem aPr {l:List Int} {k:Int} (h0:0≤k) (hk:k+nI l≤4611686018427387904):gR l k=some (mvI k l,k+nI l):=by
 have hl:=aBa l
 unfold gR
 rw [aAb (mv:=fun k _=>k) (nv:=fun _=>1) h0 hk (by omega) (fun r i k hi _ g0 g1=>?_) (fun r k=>?_),Option.bind_some]
 ·rfl
 ·unfold mX
  simp only
  rw [kT hi,cond_true,eA hi,Option.bind_some,Int.toNat_natCast,fJ (x:=k+1) (by omega)]
  simp
 ·unfold mX
  simp only
  rw [oF (Nat.le_refl _),cond_false]
theorem aTb {l:List Int} {k:Int} (h0:0≤k) (hk:k+nI l≤4611686018427387904):rW (mvI k l) k=some (k+nI l):=by
 have hl:=aBa l
 have hm:=wA k l
 unfold rW
 rw [aCC (l:=l) (nv:=fun _=>1) h0 hk (by omega) (fun i hi k' e g0 g1=>?_) (fun k'=>?_),Option.bind_some]
 ·rfl
 ·unfold nA
  simp only
  have hg:(mvI k l)[i]? =some k':=by unfold mvI;rw [aGd hi,e]
  rw [hm,kT hi,cond_true,eA (by omega),Option.bind_some]
  have hg':(mvI k l)[i]'(by omega)=k':=by rw [List.getElem?_eq_getElem (by omega)] at hg;exact Option.some.inj hg
  rw [hg',decide_eq_true rfl,Bool.not_true,cond_false,fJ (x:=k'+1) (by omega)]
  simp
 ·unfold nA
  simp only
  rw [hm,oF (Nat.le_refl _),cond_false]
def nIS:List (List Int)→Nat:=nvS nI
def aOQ:Int→List (List Int)→List (List Int):=mvS mvI nI
theorem aMj {α:Type} {l:List α} {i:Nat} {v:α} (h:l[i]? =some v) (hi:i<l.length):l[i]=v:=by rw [List.getElem?_eq_getElem hi] at h;exact Option.some.inj h
theorem aSq {l:List (List Int)} {k:Int} (h0:0≤k) (hk:k+nIS l≤4611686018427387904) (hl:l.length≤4611686018427387904):qP l k=some (aOQ k l,k+nIS l):=by
 unfold qP
 rw [aAb (mv:=mvI) (nv:=nI) h0 hk hl (fun r i k hi _ g0 g1=>?_) (fun r k=>?_),Option.bind_some]
 ·rfl
 ·unfold lK
  simp only
  rw [kT hi,cond_true,eA hi,Option.bind_some,aPr g0 g1,Option.bind_some,Int.toNat_natCast,wA,decide_eq_true rfl,cond_true]
 ·unfold lK
  simp only
  rw [oF (Nat.le_refl _),cond_false]
theorem aSr {l:List (List Int)} {k:Int} (h0:0≤k) (hk:k+nIS l≤4611686018427387904) (hl:l.length≤4611686018427387904):qQ (aOQ k l) k=some (k+nIS l):=by
 have hm:(aOQ k l).length=l.length:=nB l k
 unfold qQ
 rw [aCC (l:=l) (nv:=nI) h0 hk hl (fun i hi k' e g0 g1=>?_) (fun k'=>?_),Option.bind_some]
 ·rfl
 ·unfold lL
  simp only
  rw [hm,kT hi,cond_true,eA (by omega),Option.bind_some,aMj (v:=mvI k' l[i]) (by unfold aOQ;rw [aGd hi,e]) (by omega),aTb g0 g1,Option.bind_some,aRN g0,cond_false]
 ·unfold lL
  simp only
  rw [hm,oF (Nat.le_refl _),cond_false]
def nSe (s:Sc):Nat:=1+nIS s.basis
def aPt (k:Int) (s:Sc):Sc:=⟨k,aOQ (k+1) s.basis⟩
def nSs:List Sc→Nat:=nvS nSe
def aLV:Int→List Sc→List Sc:=mvS aPt nSe
def lS (l:List Sc):Prop:=l.length≤4611686018427387904∧ ∀ s∈l,s.basis.length≤4611686018427387904
theorem aPv (k:Int) (l:List (List Int)):(aOQ k l).length=l.length:=nB l k
theorem aPw (k:Int) (l:List Sc):(aLV k l).length=l.length:=nB l k
theorem aSs {l:List Sc} {k:Int} (h0:0≤k) (hk:k+nSs l≤4611686018427387904) (hl:lS l):pA l k=some (aLV k l,k+nSs l):=by
 unfold pA
 rw [aAb (mv:=aPt) (nv:=nSe) h0 hk hl.1 (fun r i k hi hm g0 g1=>?_) (fun r k=>?_),Option.bind_some]
 ·rfl
 ·unfold nSe at g1
  unfold kP
  simp only
  rw [kT hi,cond_true,eA hi,Option.bind_some,fJ (x:=k+1) (by omega),aSq (by omega) (by omega) (hl.2 _ hm),Option.bind_some,aPv,decide_eq_true rfl,cond_true,Int.toNat_natCast]
  unfold aPt nSe
  congr 4
  omega
 ·unfold kP
  simp only
  rw [oF (Nat.le_refl _),cond_false]
theorem aSt {l:List Sc} {k:Int} (h0:0≤k) (hk:k+nSs l≤4611686018427387904) (hl:lS l):pC (aLV k l) k=some (k+nSs l):=by
 have hm:(aLV k l).length=l.length:=nB l k
 unfold pC
 rw [aCC (l:=l) (nv:=nSe) h0 hk hl.1 (fun i hi k' e g0 g1=>?_) (fun k'=>?_),Option.bind_some]
 ·rfl
 ·unfold nSe at g1
  unfold kQ
  simp only
  rw [hm,kT hi,cond_true,eA (by omega),Option.bind_some,aMj (v:=aPt k' l[i]) (by unfold aLV;rw [aGd hi,e]) (by omega)]
  unfold aPt
  simp only [decide_true,Bool.not_true,cond_false,Option.bind_some]
  rw [fJ (x:=k'+1) (by omega),aSr (by omega) (by omega) (hl.2 _ (List.getElem_mem hi)),Option.bind_some,aRN (by omega),cond_false]
  unfold nSe
  congr 3
  omega
 ·unfold kQ
  simp only
  rw [hm,oF (Nat.le_refl _),cond_false]
def nQ (q:Qv):Nat:=nI q.src+nI q.tgt
def mvQ (k:Int) (q:Qv):Qv:=⟨q.n,mvI k q.src,mvI (k+nI q.src) q.tgt⟩
theorem aTc {q:Qv} {k:Int} (h0:0≤k) (hk:k+nQ q≤4611686018427387904):pB q k=some ((mvQ k q).src,(mvQ k q).tgt,k+nQ q):=by
 unfold nQ at hk
 unfold pB
 rw [aPr h0 (by omega),Option.bind_some,wA,decide_eq_true rfl,cond_true,aPr (by omega) (by omega),Option.bind_some,wA,decide_eq_true rfl,cond_true]
 unfold mvQ nQ
 congr 3
 omega
def nMe (m:Mt):Nat:=2+nI m.cells
def aSH (k:Int) (m:Mt):Mt:=⟨k,k+1,mvI (k+2) m.cells⟩
def nMs:List Mt→Nat:=nvS nMe
def aSI:Int→List Mt→List Mt:=mvS aSH nMe
theorem aLW (k:Int) (l:List Mt):(aSI k l).length=l.length:=nB l k
theorem aSw {l:List Mt} {k:Int} (h0:0≤k) (hk:k+nMs l≤4611686018427387904) (hl:l.length≤4611686018427387904):mY l k=some (aSI k l,k+nMs l):=by
 unfold mY
 rw [aAb (mv:=aSH) (nv:=nMe) h0 hk hl (fun r i k hi hm g0 g1=>?_) (fun r k=>?_),Option.bind_some]
 ·rfl
 ·unfold nMe at g1
  unfold jV
  simp only
  rw [kT hi,cond_true,eA hi,Option.bind_some,fJ (x:=k+1) (by omega),fJ (x:=k+1+1) (by omega),show k+1+1=k+2 by omega,aPr (by omega) (by omega),Option.bind_some,wA,decide_eq_true rfl,cond_true,Int.toNat_natCast]
  unfold aSH nMe
  congr 4
  omega
 ·unfold jV
  simp only
  rw [oF (Nat.le_refl _),cond_false]
def nR (r:Rp):Nat:=nQ r.q+nI r.dims+nMs r.maps
def mvR (k:Int) (r:Rp):Rp:=⟨r.p,mvQ k r.q,mvI (k+nQ r.q) r.dims,aSI (k+nQ r.q+nI r.dims) r.maps⟩
theorem aTd {r:Rp} {k:Int} (h0:0≤k) (hk:k+nR r≤4611686018427387904) (hl:r.maps.length≤4611686018427387904):uG r k=some ((mvR k r).q.src,(mvR k r).q.tgt,(mvR k r).dims,(mvR k r).maps,k+nR r):=by
 unfold nR at hk
 unfold uG
 rw [aTc h0 (by omega),Option.bind_some]
 simp only [mvQ,wA,decide_true,cond_true]
 rw [aPr (by omega) (by omega),Option.bind_some]
 simp only [wA,decide_true,cond_true]
 rw [aSw (by omega) (by omega) hl,Option.bind_some]
 simp only [aLW,decide_true,cond_true]
 unfold mvR nR
 congr 5
 omega
theorem aRP (k:Int) (r:Rp):(mvR k r).q.src.length=r.q.src.length∧(mvR k r).q.tgt.length=r.q.tgt.length∧(mvR k r).dims.length=r.dims.length∧(mvR k r).maps.length=r.maps.length:=⟨wA _ _,wA _ _,wA _ _,aLW _ _⟩
theorem aSJ {l:List Mt} (h:l.length≤1048576∧ ∀ m∈l,bM m):nMs l≤2097152*1048576:=by
 have:=aHj (nv:=nMe) (c:=2097152) (l:=l) fun m hm=>by have:=(h.2 m hm).1;unfold bI at this;unfold nMe;rw [aBa];omega
 unfold nMs
 calc nvS nMe l≤2097152*l.length:=this
  _≤2097152*1048576:=Nat.mul_le_mul_left _ h.1
theorem aSx {r:Rp} (h:bR r):nR r≤4398046511104:=by
 obtain ⟨⟨h1,h2,_⟩,h3,h4,_⟩:=h
 have:=aSJ h4
 unfold bI at h1 h2 h3
 unfold nR nQ
 rw [aBa,aBa,aBa]
 omega
theorem aSy {l:List Sc} (h:l.length≤1048576∧ ∀ s∈l,bS s):lS l:=⟨by omega,fun s hs=>by have:=(h.2 s hs).1.1;omega⟩
end
noncomputable section
set_option maxRecDepth 10000
set_option maxHeartbeats 4000000
end
noncomputable section
theorem aPx {p:Int} (hp:lE p=true) {n:Nat} {l l':List (List Int)} (h:InP p l.length n (dH l)) (h':InP p l'.length n (dH l')) (hK: ∀ x,Kr p l.length n (dH l) x↔Kr p l'.length n (dH l') x):fT p n l=fT p n l':=by
 obtain ⟨e1,e2⟩:=aJp hp h h' hK
 unfold fT
 rw [←e1]
 exact aBN e2
end
noncomputable section
theorem aPy {k:Nat} {f:Nat→Nat} (hlt: ∀ t,t<k→f t<k) (hinc: ∀ s t,s<t→t<k→f s<f t): ∀ t,t<k→f t=t:=by
 have h1: ∀ t,t<k→t≤f t:=by
  intro t
  induction t with
  |zero=>intro _;exact Nat.zero_le _
  |succ t ih=>intro h;have:=ih (by omega);have:=hinc t (t+1) (by omega) h;omega
 have h2: ∀ d t,t+d+1=k→f t≤t:=by
  intro d
  induction d with
  |zero=>intro t h;have:=hlt t (by omega);omega
  |succ d ih=>intro t h;have:=ih (t+1) (by omega);have:=hinc t (t+1) (by omega) (by omega);omega
 intro t ht
 have:=h1 t ht
 have:=h2 (k - t - 1) t (by omega)
 omega
theorem aMk {L M:List Nat} (hL: ∀ i k,i<k→k<L.length→L[i]?.getD 0<L[k]?.getD 0) (hM: ∀ i k,i<k→k<M.length→M[i]?.getD 0<M[k]?.getD 0) (hs: ∀ t,t<M.length→ ∃ i,i<L.length∧L[i]?.getD 0=M[t]?.getD 0) (hl:L.length=M.length):L=M:=by
 have hs': ∀ t:Nat,∃ i,t<M.length→i<L.length∧L[i]?.getD 0=M[t]?.getD 0:=fun t=>by
  by_cases h:t<M.length
  ·obtain ⟨i,hi⟩:=hs t h;exact ⟨i,fun _=>hi⟩
  ·exact ⟨0,fun h'=>absurd h' h⟩
 obtain ⟨f,hf⟩:=Classical.axiomOfChoice hs'
 have e:=aPy (k:=M.length) (f:=f) (fun t ht=>hl▸(hf t ht).1) (fun s t hst ht=>by
  rcases Nat.lt_trichotomy (f s) (f t) with h|h|h
  ·exact h
  ·have a:=(hf s (by omega)).2;have b:=(hf t ht).2;have c:=hM s t hst ht;rw [h,b] at a;omega
  ·have a:=(hf s (by omega)).2;have b:=(hf t ht).2;have c:=hM s t hst ht
   have:=hL (f t) (f s) h (hf s (by omega)).1
   omega)
 refine List.ext_getElem hl fun i h1 h2=>?_
 have:=(hf i h2).2
 rw [e i h2] at this
 simpa [h1,h2] using this
theorem aPz {p:Int} (hp:lE p=true) {m m' n:Nat} {F G:Nat→Nat→Int} {L M:List Nat} (hF:Red m n F L) (hG:Red m' n G M) (iF:InP p m n F) (iG:InP p m' n G) (hK: ∀ x,Kr p m n F x→Kr p m' n G x) (hl:L.length=M.length):L=M∧ ∀ i j,i<L.length→j<n→F i j=G i j:=by
 have e:L=M:=aMk hF.inc hG.inc (fun t ht=>aJo hp hF hG hK ht) hl
 subst e
 refine ⟨rfl,fun i k hi hk=>?_⟩
 have hm:=hF.len
 have hm':=hG.len
 by_cases hL: ∃ t,t<L.length∧L[t]?.getD 0=k
 ·obtain ⟨t,ht,rfl⟩:=hL
  by_cases e:i=t
  ·subst e;rw [hF.one i hi,hG.one i hi]
  ·rw [hF.col t i ht (by omega) e,hG.col t i ht (by omega) e]
 ·have hL: ∀ t,t<L.length→L[t]?.getD 0≠k:=fun t ht e=>hL ⟨t,ht,e⟩
  have h1:=hK _ (aJn (p:=p) hF hk hL) i (by omega)
  rw [aLA hF hk hL,aEj (j:=i) hi (fun t ht hti=>by rw [hG.col t i ht (by omega) (fun e=>hti e.symm)];simp),hG.one i hi,Int.one_mul] at h1
  unfold Z0 at h1
  have b1:=iF i k (by omega) hk
  have b2:=iG i k (by omega) hk
  have e1:G i k % p=F i k % p:=by
   have:=Int.emod_emod_of_dvd
   exact Int.emod_eq_emod_iff_emod_sub_eq_zero.2 h1
  rw [Int.emod_eq_of_lt b2.1 b2.2,Int.emod_eq_of_lt b1.1 b1.2] at e1
  exact e1.symm
theorem aJP {p:Int} {n:Nat} {l:List (List Int)} (hp:lE p=true) (hv:VecsP p n l) (hs:fT p n l=l): ∃ L,L.length=l.length∧Red l.length n (dH l) L:=by
 have hi:=hv.inP
 have hr:=aEh hp hi n (Nat.le_refl _)
 have hlen:(dD p l.length (dH l) n).2.length=l.length:=by
  have:=congrArg List.length hs
  unfold fT at this
  rw [qD] at this
  exact this
 have hrow: ∀ i j,i<l.length→j<n→(dD p l.length (dH l) n).1 i j=dH l i j:=by
  intro i j hi hj
  have:=aHH (dD p l.length (dH l) n).1 (dD p l.length (dH l) n).2.length n i j (by omega) hj
  unfold fT at hs
  rw [hs] at this
  exact this.symm
 refine ⟨_,hlen,⟨hr.lt,hr.inc,by omega,fun i h=>?_,fun i k h hk hne=>?_,fun i j h h2 hj=>?_,fun i j h hj=>?_⟩⟩
 ·rw [←hrow i _ (by omega) (hr.lt i h)];exact hr.one i h
 ·rw [←hrow k _ hk (hr.lt i h)];exact hr.col i k h hk hne
 ·omega
 ·rw [←hrow i j (by omega) (by have:=hr.lt i h;omega)];exact hr.left i j h hj
def rsF (p:Int) (B:Nat→Nat→Int) (L:List Nat) (v:Nat→Int):Nat→Nat→Int
 |0=>v
 |t+1=>fun j=>(rsF p B L v t j+(p - rsF p B L v t (L[t]?.getD 0))*B t j) % p
theorem aQA {p:Int} (hp:lE p=true) {B:Nat→Nat→Int} {L:List Nat} {v:Nat→Int} {n:Nat} (hv: ∀ j,j<n→0≤v j∧v j<p): ∀ t j,j<n→0≤rsF p B L v t j∧rsF p B L v t j<p
 |0,j,h=>hv j h
 |t+1,j,_=>zN hp
theorem aKM {p:Int} (hp:lE p=true) {m n:Nat} {B:Nat→Nat→Int} {L:List Nat} (h:Red m n B L) {v:Nat→Int} : ∀ t,t≤L.length→ ∀ s,s<t→rsF p B L v t (L[s]?.getD 0)=0
 |0,_,s,hs=>absurd hs (Nat.not_lt_zero _)
 |t+1,ht,s,hs=>by
  have hm:=h.len
  simp only [rsF]
  by_cases e:s=t
  ·subst e
   rw [h.one s (by omega),Int.mul_one,show rsF p B L v s (L[s]?.getD 0)+(p - rsF p B L v s (L[s]?.getD 0))=p by omega,Int.emod_self]
  ·rw [h.col s t (by omega) (by omega) (fun e'=>e e'.symm),aKM hp h t (by omega) s (by omega)]
   simp
theorem aMl {p:Int} (hp:lE p=true) {m n:Nat} {B:Nat→Nat→Int} {L:List Nat} (hL:L.length≤m) {v x:Nat→Int} (hx:Kr p m n B x): ∀ t,t≤L.length→dt n (rsF p B L v t) x % p=dt n v x % p
 |0,_=>rfl
 |t+1,ht=>by
  have ih:=aMl hp hL (v:=v) hx t (by omega)
  have h1:=hx t (by omega)
  rw [←ih]
  simp only [rsF]
  rw [aJm (g:=fun j=>rsF p B L v t j+(p - rsF p B L v t (L[t]?.getD 0))*B t j) (fun k _=>by rw [Int.emod_emod_of_dvd _ (Int.dvd_refl p)]),aPL]
  have h2:=aHI (p - rsF p B L v t (L[t]?.getD 0)) h1
  unfold Z0 at h2
  rw [Int.add_emod,h2]
  simp
theorem aQB {p:Int} (hp:lE p=true) {m n:Nat} {B:Nat→Nat→Int} {L:List Nat} (h:Red m n B L) {v:Nat→Int} (hv: ∀ j,j<n→0≤v j∧v j<p):(∀ j,j<n→rsF p B L v L.length j=0)↔ ∀ x,Kr p m n B x→Z0 p (dt n v x):=by
 constructor
 ·intro hz x hx
  have:=aMl hp h.len (v:=v) hx L.length (Nat.le_refl _)
  unfold Z0
  rw [←this]
  have e:dt n (rsF p B L v L.length) x=0:=by
   unfold dt
   rw [pQ (g:=fun _=>0) (fun k hk=>by rw [hz k hk];simp),aAp]
  rw [e]
  simp
 ·intro hz k hk
  by_cases hL: ∃ t,t<L.length∧L[t]?.getD 0=k
  ·obtain ⟨t,ht,rfl⟩:=hL
   exact aKM hp h L.length (Nat.le_refl _) t ht
  ·have hL: ∀ t,t<L.length→L[t]?.getD 0≠k:=fun t ht e=>hL ⟨t,ht,e⟩
   have hx:=aJn (p:=p) h hk hL
   have h1:=hz _ hx
   unfold Z0 at h1
   rw [←aMl hp h.len (v:=v) hx L.length (Nat.le_refl _),aLA h hk hL,pQ (g:=fun _=>0) (fun i hi=>by rw [aKM hp h L.length (Nat.le_refl _) i hi];simp),aAp,Int.sub_zero] at h1
   have b:=aQA hp (B:=B) (L:=L) hv L.length k hk
   rw [Int.emod_eq_of_lt b.1 b.2] at h1
   exact h1
theorem aCD {p:Int} {n:Nat} {a b:List (List Int)} {x:Nat→Int} :Kr p (a++b).length n (dH (a++b)) x↔Kr p a.length n (dH a) x∧Kr p b.length n (dH b) x:=by
 have e1: ∀ i,i<a.length→dH (a++b) i=dH a i:=fun i hi=>by funext j;simp only [dH];rw [List.getElem?_append_left hi]
 have e2: ∀ i,dH (a++b) (a.length+i)=dH b i:=fun i=>by funext j;simp only [dH];rw [List.getElem?_append_right (by omega),Nat.add_sub_cancel_left]
 unfold Kr
 rw [List.length_append]
 refine ⟨fun h=>⟨fun i hi=>e1 i hi▸h i (by omega),fun i hi=>e2 i▸h (a.length+i) (by omega)⟩,fun h i hi=>?_⟩
 rcases Nat.lt_or_ge i a.length with h'|h'
 ·rw [e1 i h'];exact h.1 i h'
 ·have:=h.2 (i - a.length) (by omega)
  rw [←e2,show a.length+(i - a.length)=i by omega] at this
  exact this
theorem aAt {p:Int} (hp:lE p=true) {n:Nat} {a b:List (List Int)} (ha:VecsP p n a) (hb:VecsP p n b) (hs:fT p n b=b):(aIL p n a b).length=b.length↔ ∀ x,Kr p b.length n (dH b) x→Kr p a.length n (dH a) x:=by
 have hi:=(ha.append hb).inP
 constructor
 ·intro hl x hx
  obtain ⟨L,hLl,hR⟩:=aJP hp hb hs
  have hr:=aEh hp hi n (Nat.le_refl _)
  have hb':=gH hp
  have hlen:(dD p (a++b).length (dH (a++b)) n).2.length=L.length:=by
   unfold aIL fT at hl
   rw [qD] at hl
   omega
  obtain ⟨_,h2⟩:=aPz hp hr hR (rB (by omega) hi n) hb.inP (fun x hx=>(aCD.1 ((aDa hp hi x n (Nat.le_refl _)).1 hx)).2) hlen
  refine (aCD.1 ((aDa hp hi x n (Nat.le_refl _)).1 fun i hi'=>?_)).1
  rcases Nat.lt_or_ge i (dD p (a++b).length (dH (a++b)) n).2.length with h'|h'
  ·have e:dt n ((dD p (a++b).length (dH (a++b)) n).1 i) x=dt n (dH b i) x:=pQ fun k hk=>by rw [h2 i k h' hk]
   rw [e]
   exact hx i (by omega)
  ·have e:dt n ((dD p (a++b).length (dH (a++b)) n).1 i) x=0:=by
    unfold dt
    rw [pQ (g:=fun _=>0) (fun k hk=>by rw [hr.low i k h' hi' hk];simp),aAp]
   rw [e]
   unfold Z0
   simp
 ·intro hK
  unfold aIL
  rw [aPx hp hi hb.inP fun x=>⟨fun h=>(aCD.1 h).2,fun h=>aCD.2 ⟨hK x h,h⟩⟩,hs]
end
noncomputable section
def sV (r:Rp) (i:Nat):Nat:=(r.q.src[i]?.getD 0).toNat
def tV (r:Rp) (i:Nat):Nat:=(r.q.tgt[i]?.getD 0).toNat
def aF (r:Rp) (i:Nat):Nat→Nat→Int:=fun j k=>(r.maps[i]?.getD ⟨0,0,[]⟩).cells[j*dN r (sV r i)+k]?.getD 0
structure Rv (r:Rp):Prop where
 hp:lE r.p=true
 n5:r.dims.length≤5
 d: ∀ k,k<r.dims.length→r.dims[k]?.getD 0=(dN r k:Int)∧dN r k≤4
 e6:r.q.src.length≤6
 tl:r.q.tgt.length=r.q.src.length
 ml:r.maps.length=r.q.src.length
 s: ∀ i,i<r.q.src.length→r.q.src[i]?.getD 0=(sV r i:Int)∧sV r i<r.dims.length
 t: ∀ i,i<r.q.src.length→r.q.tgt[i]?.getD 0=(tV r i:Int)∧tV r i<r.dims.length
 m: ∀ i,i<r.q.src.length→r.maps[i]?.getD ⟨0,0,[]⟩=⟨dN r (tV r i),dN r (sV r i),dI (dN r (tV r i)) (dN r (sV r i)) (aF r i)⟩∧InP r.p (dN r (tV r i)) (dN r (sV r i)) (aF r i)
theorem aLX {r:Rp} (h:aEx r=true):Rv r:=by
 obtain ⟨hp,hD,hml,hM⟩:=aPl h
 obtain ⟨hQ,hd1,hd2,_⟩:=aBX hD
 obtain ⟨n,hn,hn1,hn5,hq1,hq2,hq3,hq4⟩:=aBV hQ
 have hdl:r.dims.length=n:=by omega
 have hd: ∀ k,k<r.dims.length→r.dims[k]?.getD 0=(dN r k:Int)∧dN r k≤4:=by
  intro k hk
  have:=hd2 _ (eV 0 hk)
  unfold dN
  omega
 have hs: ∀ i,i<r.q.src.length→r.q.src[i]?.getD 0=(sV r i:Int)∧sV r i<r.dims.length:=by
  intro i hi
  have:=hq3 _ (eV 0 hi)
  unfold sV
  omega
 have ht: ∀ i,i<r.q.src.length→r.q.tgt[i]?.getD 0=(tV r i:Int)∧tV r i<r.dims.length:=by
  intro i hi
  have:=hq4 _ (eV 0 (show i<r.q.tgt.length by omega))
  unfold tV
  omega
 refine ⟨hp,by omega,hd,hq2,by omega,hml,hs,ht,fun i hi=>?_⟩
 obtain ⟨g1,g2,g3⟩:=hM i (by omega)
 rw [show (r.q.src[i]?.getD 0).toNat=sV r i from rfl,(hd _ (hs i hi).2).1] at g2
 rw [show (r.q.tgt[i]?.getD 0).toNat=tV r i from rfl,(hd _ (ht i hi).2).1] at g3
 obtain ⟨_,a,b,F,ha,hb,he,hF⟩:=aMc g1
 have ea:a=dN r (tV r i):=by rw [he] at g3;simp only at g3;omega
 have eb:b=dN r (sV r i):=by rw [he] at g2;simp only at g2;omega
 have em: ∀ j k,j<a→k<b→aF r i j k=F j k:=by
  intro j k hj hk
  unfold aF
  rw [he,←eb]
  simp only
  rw [lP F hj hk];rfl
 subst ea;subst eb
 rw [he]
 refine ⟨?_,fun j k hj hk=>by rw [em j k hj hk];exact hF j k hj hk⟩
 rw [dG em]
theorem aRQ {α:Type} {f:Nat→α} {n k:Nat} (h:k<n):dY ((List.range n).map f) (k:Int)=some (f k):=by rw [eA (by simp;exact h)];simp
theorem aIX {R N:Nat} (hN:R*N≤1048576) (h1:R≤1048576) (h2:N≤1048576) (M:Nat→Nat→Int):jK R ((List.range N).map fun k=>mB R fun i=>M i k)=some ⟨R,N,dI R N M⟩:=by
 unfold jK
 rw [List.length_map,List.length_range,aPi hN,Option.bind_some]
 simp only
 rw [fK (r:=dI R N M) (fun k=>(dI R N (fun i j=>if j<k then M i j else 0),(k:Int))) N (by simp) (fun k hk=>?_) (fun _=>?_),Option.bind_some]
 ·unfold jU
  simp only
  rw [List.length_map,List.length_range,kT hk,cond_true,aRQ hk,Option.bind_some]
  rw [fK (r:=dI R N (fun i j=>if j<k+1 then M i j else 0)) (fun x=>(dI R N (fun i j=>if j<k∨(j=k∧i<x) then M i j else 0),(x:Int))) R (by simp) (fun x hx=>?_) (fun _=>?_),Option.bind_some,dO hk (by omega)]
  ·unfold jT
   simp only
   rw [fN,kT hx,cond_true,aGb _ hx,Option.bind_some,atT hN hx hk,Option.bind_some,aOL hN hx hk,dO hx (by omega)]
   congr 3
   refine dG fun i j hi hj=>?_
   simp only [aEg]
   by_cases e:i=x∧j=k
   ·rw [if_pos e,if_pos (by omega),e.1,e.2]
   ·rw [if_neg e]
    by_cases e2:j<k∨j=k∧i<x
    ·rw [if_pos e2,if_pos (by omega)]
    ·rw [if_neg e2,if_neg (by omega)]
  ·unfold jT
   simp only
   rw [fN,oF (Nat.le_refl _),cond_false]
   congr 2
   refine dG fun i j hi hj=>?_
   by_cases e:j<k+1
   ·rw [if_pos e,if_pos (by omega)]
   ·rw [if_neg e,if_neg (by omega)]
 ·unfold jU
  simp only
  rw [List.length_map,List.length_range,oF (Nat.le_refl _),cond_false]
  congr 2
  exact dG fun i j hi hj=>by rw [if_pos hj]
end
noncomputable section
def aSK (n:Nat) (l:List (List Int)):Mt:=⟨n,(l.length:Int),dI n l.length fun i k=>dH l k i⟩
theorem aOR {n:Nat} {l:List (List Int)} (h: ∀ v∈l,v.length=n):l=(List.range l.length).map fun k=>mB n fun i=>dH l k i:=aNc h
theorem aSL {n:Nat} {l:List (List Int)} (hn:n≤1024) (hl:l.length≤512) (h: ∀ v∈l,v.length=n):jK n l=some (aSK n l):=by
 have hN:n*l.length≤1048576:=by have:=Nat.mul_le_mul hn hl;omega
 have e:=aIX hN (by omega) (by omega) (fun i k=>dH l k i)
 rw [←aOR h] at e
 exact e
theorem aSz {α β:Type} {f:α→β} {l:List α} {k:Nat} (hk:k<l.length):(l.take k).map f++[f l[k]]=(l.take (k+1)).map f:=by rw [List.take_succ_eq_append_getElem hk,List.map_append];rfl
end
end Go.Proofs.YtghechfdejhapaaGreat

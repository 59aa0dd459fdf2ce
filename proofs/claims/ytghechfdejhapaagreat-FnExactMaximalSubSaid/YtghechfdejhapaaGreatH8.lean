/-
  Several texts of the claim in one.
-/
import Derived.Test.YtghechfdejhapaaGreatProg
import Derived.Test.YtghechfdejhapaaGreatH7
set_option linter.unusedVariables false
set_option linter.unusedSimpArgs false
namespace Go.Proofs.YtghechfdejhapaaGreat
open Go.RowKit
noncomputable section
theorem fZ {c d:Bool} {o:Option Bool} (h:c=true→o=some d):(bif c then o else some false)=some (c&&d):=by cases c with|false=>rfl|true=>exact h rfl
theorem zV {c d:Bool} :(bif c then some d else some false)=some (c&&d):=by cases c <;> rfl
theorem aPJ {x a b:Int} :(bif decide (a≤x) then some (decide (x≤b)) else some false)=some (pI x a b):=by
 rw [zV]
 unfold pI
 by_cases h1:a≤x <;> by_cases h2:x≤b <;> simp [h1,h2]
theorem xS (x a b:Int):gV x a b=some (pI x a b):=aPJ
theorem uJ (x a b:Int):eP x a b=some (pI x a b):=aPJ
theorem aMm (p:Int):(bif decide (p=2) then some true else bif decide (p=3) then some true else some (decide (p=5)))=some (lM p):=by
 unfold lM
 by_cases h2:p=2 <;> by_cases h3:p=3 <;> by_cases h5:p=5 <;> simp [h2,h3,h5]
theorem aEs (p:Int):hZ p=some (lM p):=aMm p
theorem aCy (p:Int):iA p=some (lM p):=aMm p
theorem aUv {a b:List Int} (h:bI a):aJi a b=some (decide (a=b)):=by
 unfold bI at h
 exact aLZ (body:=aBF a b) (by omega) rfl
theorem aQA {a b:List Int} (h:bI a):mE a b=some (decide (a=b)):=by
 unfold bI at h
 exact aLZ (body:=jH a b) (by omega) rfl
theorem aGF (p:Int) {v:List Int} (h:bI v):gI p v=some (lM p&&decide (v.length≤64)&&v.all λx=>pI x 0 (wr (p - 1))):=by
 unfold bI at h
 unfold gI
 rw [aEs,Option.bind_some]
 cases lM p with
 |false=>rfl
 |true=>
  rw [Bool.not_true,cond_false,Bool.true_and]
  by_cases h64:v.length≤64
  ·rw [decide_eq_false (by omega),cond_false,decide_eq_true h64,Bool.true_and]
   rw [wU (λk=>pI (v[k]?.getD 0) 0 (wr (p - 1))) false (n:=v.length) (by omega) (λk hk=>?_) (λ_=>?_),uZ 0 v (λx=>pI x 0 (wr (p - 1))),Option.bind_some]
   ·cases v.all _ <;> rfl
   ·unfold nB
    rw [jS hk,cond_true,qJ 0 hk,Option.bind_some,uJ,Option.bind_some]
    cases pI _ 0 _ <;> rfl
   ·unfold nB
    rw [mR (Nat.le_refl _),cond_false]
  ·rw [decide_eq_true (by omega),cond_true,decide_eq_false h64,Bool.false_and]
theorem aMn {v:List Int} {f:Int→Option Bool} (P:Int→Bool) (hf: ∀ x,f x=some (P x)) (h:bI v): ∃ i:Int,dG v f=some i∧decide (0≤i)=v.any P:=by
 unfold bI at h
 unfold dG
 rw [aFl (s0:=0) (s:=0) (n:=v.length) (λk=>bif P (v[k]?.getD 0) then some (k:Int) else none) rfl (by omega) (Nat.zero_le _) (λk _ hk=>?_) (λ_=>?_)]
 ·rw [Option.bind_some]
  cases e:(List.range' 0 (v.length - 0)).findSome? (λk:Nat=>bif P (v[k]?.getD 0) then some (k:Int) else none) with
  |none=>
   refine ⟨-1,rfl,?_⟩
   rw [List.findSome?_eq_none_iff] at e
   have:v.any P=false:=by
    rw [List.any_eq_false]
    intro x hx
    obtain ⟨k,hk,rfl⟩:=List.mem_iff_getElem.1 hx
    have:=e k (by simp;omega)
    simp only [List.getElem?_eq_getElem hk,Option.getD_some] at this
    cases hp:P v[k] with
    |false=>simp
    |true=>rw [hp] at this;cases this
   rw [this];rfl
  |some i=>
   refine ⟨i,rfl,?_⟩
   obtain ⟨k,hk,he⟩:=List.exists_of_findSome?_eq_some e
   simp at hk
   have hkl:k<v.length:=by omega
   rw [List.getElem?_eq_getElem hkl] at he
   simp only [Option.getD_some] at he
   cases hp:P v[k] with
   |false=>rw [hp] at he;cases he
   |true=>
    rw [hp] at he
    cases he
    rw [decide_eq_true (by omega),eq_comm,List.any_eq_true]
    exact ⟨_,List.getElem_mem hkl,hp⟩
 ·unfold bZ
  rw [jS hk,cond_true,qJ 0 hk,Option.bind_some,hf,Option.bind_some]
  cases P _ <;> rfl
 ·unfold bZ
  rw [mR (Nat.le_refl _),cond_false]
theorem qR {v:List Int} (h:bI v) (a b:Int):eO v a b=some (v.all λx=>pI x a b):=by
 unfold eO gQ
 obtain ⟨i,h1,h2⟩:=aMn (f:=λb0=>jK b0 a b) (λx=> !pI x a b) (λx=>by simp only [jK];rw [xS,Option.bind_some]) h
 rw [h1,Option.bind_some,Option.bind_some,h2,List.not_any_eq_all_not]
 simp
theorem aKZ (p:Int) {v:List Int} (h:bI v):oF p v=some (lM p&&decide (v.length≤64)&&v.all λx=>pI x 0 (wr (p - 1))):=by
 unfold oF
 rw [aCy,Option.bind_some,qR h,Option.bind_some,zV,zV,Bool.and_assoc]
 congr 3
 rw [Bool.eq_iff_iff,decide_eq_true_eq,decide_eq_true_eq];omega
def aDG (p:Int) (m:Mt):Bool:=pI m.rows 0 8&&(pI m.cols 0 8&&(decide ((m.cells.length:Int)=wr (m.rows*m.cols))&&(lM p&&decide (m.cells.length≤64)&&m.cells.all λx=>pI x 0 (wr (p - 1)))))
theorem aGG (p:Int) {m:Mt} (h:bM m):kG p m=some (aDG p m):=by
 unfold kG aDG
 rw [uJ,Option.bind_some]
 refine fZ λ_=>?_
 rw [uJ,Option.bind_some]
 refine fZ λ_=>?_
 refine fZ λ_=>?_
 rw [aGF p h.1,Option.bind_some]
theorem aQB (p:Int) {m:Mt} (h:bM m):tD p m=some (aDG p m):=by
 unfold tD aDG
 rw [xS,Option.bind_some]
 refine fZ λ_=>?_
 rw [xS,Option.bind_some]
 refine fZ λ_=>?_
 refine fZ λ_=>?_
 rw [aKZ p h.1,Option.bind_some]
theorem aOH {p:Int} {m:Mt} (h:aDG p m=true):lM p=true∧ ∃ (r c:Nat) (F:Nat→Nat→Int),r≤8∧c≤8∧m=⟨r,c,cJ r c F⟩∧ ∀ i j,i<r→j<c→0≤F i j∧F i j<p:=by
 unfold aDG at h
 simp only [Bool.and_eq_true,decide_eq_true_eq,List.all_eq_true] at h
 obtain ⟨h1,h2,h3,⟨h4,h5⟩,h6⟩:=h
 have h1:=gM h1
 have h2:=gM h2
 refine ⟨h4,m.rows.toNat,m.cols.toNat,λi j=>m.cells[i*m.cols.toNat+j]?.getD 0,by omega,by omega,?_,?_⟩
 ·obtain ⟨a,b,l⟩:=m
  simp only at*
  obtain ⟨r,rfl⟩:=Int.eq_ofNat_of_zero_le h1.1
  obtain ⟨c,rfl⟩:=Int.eq_ofNat_of_zero_le h2.1
  have hb:r*c≤64:=Nat.mul_le_mul (by omega:r≤8) (by omega:c≤8)
  rw [aMb (by omega)] at h3
  simp only [Int.toNat_natCast]
  rw [←aSs (by omega)]
 ·intro i j hi hj
  show 0≤m.cells[i*m.cols.toNat+j]?.getD 0∧m.cells[i*m.cols.toNat+j]?.getD 0<p
  have hx:=aOz hi hj
  have e:((m.rows.toNat*m.cols.toNat:Nat):Int)=m.rows*m.cols:=by
   rw [Int.natCast_mul,Int.toNat_of_nonneg h1.1,Int.toNat_of_nonneg h2.1]
  have hb:m.rows.toNat*m.cols.toNat≤64:=Nat.mul_le_mul (by omega:m.rows.toNat≤8) (by omega:m.cols.toNat≤8)
  rw [dX (by omega)] at h3
  have hl:i*m.cols.toNat+j<m.cells.length:=by omega
  have:=gM (h6 _ (List.getElem_mem hl))
  rw [List.getElem?_eq_getElem hl,Option.getD_some]
  have hp:=gB h4
  rw [dX (by omega)] at this
  omega
def aGo (q:Qv):Bool:=pI q.n 1 5&&(decide ((q.src.length:Int)=(q.tgt.length:Int))&&(decide ((q.src.length:Int)≤6)&&((q.src.all λx=>pI x 0 (wr (q.n - 1)))&&(q.tgt.all λx=>pI x 0 (wr (q.n - 1))))))
theorem aTF {q:Qv} (h:bQ q):tE q=some (aGo q):=by
 unfold tE aGo
 rw [xS,Option.bind_some]
 refine fZ λ_=>fZ λ_=>fZ λ_=>?_
 rw [qR h.1,Option.bind_some]
 refine fZ λ_=>?_
 rw [qR h.2.1,Option.bind_some]
theorem aTG {q:Qv} (h:bQ q):tA q=some (aGo q):=by
 obtain ⟨h1,h2,_⟩:=h
 unfold bI at h1 h2
 unfold tA
 rw [wU (n:=min q.src.length q.tgt.length) (λk=>pI (q.src[k]?.getD 0) 0 (wr (q.n - 1))&&pI (q.tgt[k]?.getD 0) 0 (wr (q.n - 1))) false (by omega) (λk hk=>?_) (λ_=>?_)]
 ·rw [Option.bind_some]
  unfold aGo
  by_cases e:q.src.length=q.tgt.length
  ·have e2:min q.src.length q.tgt.length=q.src.length:=by omega
   have hall:(List.range q.src.length).all (λk=>pI (q.src[k]?.getD 0) 0 (wr (q.n - 1))&&pI (q.tgt[k]?.getD 0) 0 (wr (q.n - 1)))=((q.src.all λx=>pI x 0 (wr (q.n - 1)))&&(q.tgt.all λx=>pI x 0 (wr (q.n - 1)))):=by
    rw [←uZ 0 q.src,←uZ 0 q.tgt,←e]
    rw [Bool.eq_iff_iff,Bool.and_eq_true,rH,rH,rH]
    simp only [Bool.and_eq_true]
    exact ⟨λh=>⟨λk hk=>(h k hk).1,λk hk=>(h k hk).2⟩,λh k hk=>⟨h.1 k hk,h.2 k hk⟩⟩
   rw [e2,hall,decide_eq_true (by omega:(q.src.length:Int)=(q.tgt.length:Int))]
   cases (q.src.all λx=>pI x 0 (wr (q.n - 1)))&&(q.tgt.all λx=>pI x 0 (wr (q.n - 1))) with
   |false=>simp
   |true=>
    simp only [cond_true,Sum.elim_inl]
    rw [uJ,Option.bind_some,decide_eq_true (by omega:(q.tgt.length:Int)=(q.src.length:Int)),zV,zV]
    simp
  ·rw [decide_eq_false (by omega: ¬ (q.src.length:Int)=(q.tgt.length:Int))]
   simp only [Bool.false_and,Bool.and_false]
   cases (List.range (min q.src.length q.tgt.length)).all _ with
   |false=>rfl
   |true=>
    simp only [cond_true,Sum.elim_inl]
    rw [uJ,Option.bind_some,decide_eq_false (by omega: ¬ (q.tgt.length:Int)=(q.src.length:Int)),zV,zV]
    simp
 ·unfold nA
  rw [jS (by omega),cond_true,jS (by omega),cond_true,qJ 0 (by omega),Option.bind_some,uJ,Option.bind_some,qJ 0 (by omega),Option.bind_some,uJ,Option.bind_some]
  cases pI (q.src[k]?.getD 0) 0 (wr (q.n - 1)) <;> cases pI (q.tgt[k]?.getD 0) 0 (wr (q.n - 1)) <;> rfl
 ·unfold nA
  by_cases e:q.src.length≤q.tgt.length
  ·rw [mR (by omega),cond_false]
  ·rw [jS (by omega),cond_true,mR (by omega),cond_false]
theorem aCN {q:Qv} (h:aGo q=true): ∃ n:Nat,q.n=n∧1≤n∧n≤5∧q.src.length=q.tgt.length∧q.src.length≤6∧(∀ x∈q.src,0≤x∧x<n)∧ ∀ x∈q.tgt,0≤x∧x<n:=by
 unfold aGo at h
 simp only [Bool.and_eq_true,decide_eq_true_eq,List.all_eq_true] at h
 obtain ⟨h1,h2,h3,h4,h5⟩:=h
 have h1:=gM h1
 rw [dX (by omega)] at h4 h5
 refine ⟨q.n.toNat,by omega,by omega,by omega,by omega,by omega,λx hx=>?_,λx hx=>?_⟩
 ·have:=gM (h4 x hx);omega
 ·have:=gM (h5 x hx);omega
def aGp (q:Qv) (d:List Int):Bool:=aGo q&&(decide ((d.length:Int)=q.n)&&((d.all λx=>pI x 0 4)&&decide (d.sum≤8)))
theorem aOI {d:List Int} (h: ∀ x∈d,0≤x∧x≤4):0≤d.sum∧d.sum≤4*d.length:=by
 induction d with
 |nil=>simp
 |cons x d ih=>
  have h1:=h x (by simp)
  have h2:=ih λy hy=>h y (by simp [hy])
  simp only [List.sum_cons,List.length_cons]
  omega
theorem vQ {d:List Int} {k:Nat} (hk:k<d.length):(d.take (k+1)).sum=(d.take k).sum +d[k]?.getD 0:=by
 rw [List.take_succ_eq_append_getElem hk,List.sum_append]
 simp [hk]
theorem aPK {d:List Int} (h: ∀ x∈d,0≤x∧x≤4) (hl:d.length≤1048576):fA d=some d.sum:=by
 unfold fA
 rw [eC (r:=d.sum) (λk=>((d.take k).sum,(k:Int))) d.length (by simp) (λk hk=>?_) (λ_=>?_)];rfl
 ·unfold kF
  simp only
  rw [jS hk,cond_true,qJ 0 hk,Option.bind_some,cC hk (by omega)]
  have h1:=aOI (d:=d.take (k+1)) λx hx=>h x (List.mem_of_mem_take hx)
  rw [←vQ hk,dX (by simp at h1;omega)]
 ·unfold kF
  simp only
  rw [mR (Nat.le_refl _),cond_false,List.take_length]
theorem aOJ {q:Qv} {d:List Int} (hq:bQ q) (hd:bI d):vO q d=some (aGp q d):=by
 unfold vO aGp
 rw [aTF hq,Option.bind_some]
 refine fZ λ_=>fZ λ_=>?_
 rw [qR hd,Option.bind_some]
 refine fZ λh=>?_
 rw [aPK (λx hx=>gM (List.all_eq_true.1 h x hx)) hd,Option.bind_some]
theorem aOK {q:Qv} {d:List Int} (hq:bQ q) (hd:bI d):vM q d=some (aGp q d):=by
 unfold bI at hd
 unfold vM aGp
 rw [aTG hq,Option.bind_some]
 refine fV λ_=>fV λ_=>?_
 cases hall:d.all (λx=>pI x 0 4) with
 |true=>
  have hb: ∀ x∈d,0≤x∧x≤4:=λx hx=>gM (List.all_eq_true.1 hall x hx)
  rw [eC (r:= .inl d.sum) (λk=>((d.take k).sum,(k:Int))) d.length (by simp) (λk hk=>?_) (λ_=>?_)];rfl
  ·unfold iP
   simp only
   rw [jS hk,cond_true,qJ 0 hk,Option.bind_some,uJ,Option.bind_some]
   have hin:pI (d[k]?.getD 0) 0 4=true:=by rw [List.getElem?_eq_getElem hk];exact List.all_eq_true.1 hall _ (List.getElem_mem hk)
   rw [hin,Bool.not_true,cond_false,Option.bind_some,cC hk (by omega)]
   have h1:=aOI (d:=d.take (k+1)) λx hx=>hb x (List.mem_of_mem_take hx)
   rw [←vQ hk,dX (by simp at h1;omega)]
  ·unfold iP
   simp only
   rw [mR (Nat.le_refl _),cond_false,List.take_length]
 |false=>
  have key:=aOx (body:=iP d) (s:=(0,0)) (λs=> ∃ k:Nat,s.2=k∧k≤d.length∧ ∀ j,j<k→pI (d[j]?.getD 0) 0 4=true) (λs=>d.length - s.2.toNat) (λr=>r= .inr false)
   ⟨0,rfl,Nat.zero_le _,λj hj=>absurd hj (Nat.not_lt_zero _)⟩ (λs ⟨k,hs,hk,hj⟩=>?_)
  ·obtain ⟨r,h1,h2⟩:=key
   rw [h1,h2];rfl
  ·obtain ⟨t,s2⟩:=s
   simp only at hs
   subst hs
   rcases Nat.lt_or_ge k d.length with hlt|hge
   ·unfold iP
    simp only
    rw [jS hlt,cond_true,qJ 0 hlt,Option.bind_some,uJ,Option.bind_some]
    cases hin:pI (d[k]?.getD 0) 0 4 with
    |false=>exact .inr ⟨_,rfl,rfl⟩
    |true=>
     rw [Bool.not_true,cond_false,Option.bind_some,cC hlt (by omega)]
     refine .inl ⟨_,rfl,⟨k+1,rfl,hlt,λj hj2=>?_⟩,by simp;omega⟩
     by_cases e:j=k
     ·subst e;exact hin
     ·exact hj j (by omega)
   ·exfalso
    have:d.all (λx=>pI x 0 4)=true:=by
     rw [←uZ 0 d,rH];exact λj hj'=>hj j (by omega)
    rw [hall] at this;cases this
theorem aCO {q:Qv} {d:List Int} (h:aGp q d=true):aGo q=true∧(d.length:Int)=q.n∧(∀ x∈d,0≤x∧x≤4)∧d.sum≤8:=by
 unfold aGp at h
 simp only [Bool.and_eq_true,decide_eq_true_eq,List.all_eq_true] at h
 exact ⟨h.1,h.2.1,λx hx=>gM (h.2.2.1 x hx),h.2.2.2⟩
def aEt (r:Rp):Bool:=lM r.p&&(aGp r.q r.dims&&(decide ((r.maps.length:Int)=(r.q.src.length:Int))&&(List.range r.maps.length).all λk=>
 aDG r.p (r.maps[k]?.getD ⟨0,0,[]⟩)&&(decide ((r.maps[k]?.getD ⟨0,0,[]⟩).cols=r.dims[(r.q.src[k]?.getD 0).toNat]?.getD 0)&&decide ((r.maps[k]?.getD ⟨0,0,[]⟩).rows=r.dims[(r.q.tgt[k]?.getD 0).toNat]?.getD 0))))
theorem dJ {α:Type} {l:List α} {k:Nat} (d:α) (h:k<l.length):l[k]?.getD d∈l:=by rw [List.getElem?_eq_getElem h];exact List.getElem_mem h
theorem aKa {r:Rp} (h:bR r):vN r=some (aEt r):=by
 obtain ⟨h1,h2,⟨h3,h4⟩,_⟩:=h
 unfold vN aEt
 rw [aEs,Option.bind_some]
 refine fV λhF=>?_
 rw [aOK h1 h2,Option.bind_some]
 refine fV λhD=>?_
 obtain ⟨hQ,hd1,hd2,_⟩:=aCO hD
 obtain ⟨n,hn,_,_,hq1,hq2,hq3,hq4⟩:=aCN hQ
 refine fV λhL=>?_
 have hL:=of_decide_eq_true hL
 rw [wU (λk=>aDG r.p (r.maps[k]?.getD ⟨0,0,[]⟩)&&(decide ((r.maps[k]?.getD ⟨0,0,[]⟩).cols=r.dims[(r.q.src[k]?.getD 0).toNat]?.getD 0)&&decide ((r.maps[k]?.getD ⟨0,0,[]⟩).rows=r.dims[(r.q.tgt[k]?.getD 0).toNat]?.getD 0))) false (n:=r.maps.length) (by omega) (λk hk=>?_) (λ_=>?_),Option.bind_some]
 ·cases (List.range r.maps.length).all _ <;> rfl
 ·have hs:=hq3 _ (dJ 0 (show k<r.q.src.length by omega))
  have ht:=hq4 _ (dJ 0 (show k<r.q.tgt.length by omega))
  unfold tC
  rw [jS hk,cond_true,qJ ⟨0,0,[]⟩ hk,Option.bind_some,aGG _ (h4 _ (dJ _ hk)),Option.bind_some,Option.bind_some,qJ 0 (by omega),Option.bind_some,atI 0 hs.1 (by omega),Option.bind_some,Option.bind_some,qJ 0 (by omega),Option.bind_some,atI 0 ht.1 (by omega),Option.bind_some]
  cases aDG r.p _ <;> cases decide ((r.maps[k]?.getD _).cols=_) <;> cases decide ((r.maps[k]?.getD _).rows=_) <;> rfl
 ·unfold tC
  rw [mR (Nat.le_refl _),cond_false]
theorem aKb {r:Rp} (h:bR r):vP r=some (aEt r):=by
 obtain ⟨h1,h2,⟨h3,h4⟩,_⟩:=h
 unfold vP aEt
 rw [aCy,Option.bind_some]
 refine fV λhF=>?_
 rw [aOJ h1 h2,Option.bind_some]
 refine fV λhD=>?_
 obtain ⟨hQ,hd1,hd2,_⟩:=aCO hD
 obtain ⟨n,hn,_,_,hq1,hq2,hq3,hq4⟩:=aCN hQ
 refine fV λhL=>?_
 have hL:=of_decide_eq_true hL
 rw [wU (λk=>aDG r.p (r.maps[k]?.getD ⟨0,0,[]⟩)&&(decide ((r.maps[k]?.getD ⟨0,0,[]⟩).cols=r.dims[(r.q.src[k]?.getD 0).toNat]?.getD 0)&&decide ((r.maps[k]?.getD ⟨0,0,[]⟩).rows=r.dims[(r.q.tgt[k]?.getD 0).toNat]?.getD 0))) false (n:=r.maps.length) (by omega) (λk hk=>?_) (λ_=>?_),Option.bind_some]
 ·cases (List.range r.maps.length).all _ <;> rfl
 ·have hs:=hq3 _ (dJ 0 (show k<r.q.src.length by omega))
  have ht:=hq4 _ (dJ 0 (show k<r.q.tgt.length by omega))
  unfold tF
  rw [jS hk,cond_true,qJ ⟨0,0,[]⟩ hk,Option.bind_some,aQB _ (h4 _ (dJ _ hk)),Option.bind_some,qJ 0 (by omega),Option.bind_some,atI 0 hs.1 (by omega),Option.bind_some,qJ 0 (by omega),Option.bind_some,atI 0 ht.1 (by omega),Option.bind_some]
  cases aDG r.p _ <;> cases decide ((r.maps[k]?.getD _).cols=_) <;> cases decide ((r.maps[k]?.getD _).rows=_) <;> rfl
 ·unfold tF
  rw [mR (Nat.le_refl _),cond_false]
end
noncomputable section
theorem aLa {a b:Int} (ha:0≤a∧a≤5) (hb:0≤b∧b≤5):0≤a*b∧a*b≤25:=by
 refine ⟨Int.mul_nonneg ha.1 hb.1,?_⟩
 have:=Int.mul_le_mul ha.2 hb.2 hb.1 (by decide:(0:Int)≤5)
 omega
theorem aAY {x p:Int} (hp:lM p=true):0≤x % p∧x % p<p:=by
 have:=gB hp
 exact ⟨Int.emod_nonneg _ (by omega),Int.emod_lt_of_pos _ (by omega)⟩
theorem aEu {p x:Int} (hp:lM p=true) (hx: -4611686018427387904≤x∧x≤4611686018427387904):kN p x=some (x % p):=by
 have hb:=gB hp
 have hr:=aIT x p (by omega)
 unfold kN
 rw [decide_eq_false (by omega),Bool.not_false,cond_true]
 rcases aIU x p (by omega) with ⟨h,e⟩|⟨h,e⟩
 ·rw [decide_eq_false (by omega),cond_false,e]
 ·rw [decide_eq_true h,cond_true,dX (by omega),e]
  congr 1
  omega
theorem aMo {p x:Int} (hp:lM p=true):rJ p x=some (x % p):=by
 have hb:=gB hp
 have hr:=aIT x p (by omega)
 unfold rJ
 rw [aCy,hp,Option.bind_some,Bool.not_true,cond_false,decide_eq_false (by omega),Bool.not_false,cond_true,cond_true,dX (by omega),aPr _ _ (by omega)]
theorem aOL {p x:Int} (hp:lM p=true) {k:Nat} (hk:k≤1000):tB p x k=some (aLK p (x % p) k):=by
 have hb:=gB hp
 unfold tB
 rw [aCy,hp,Option.bind_some,Bool.not_true,cond_false,xS,zK (by omega) (by omega),Option.bind_some,Bool.not_true,cond_false]
 rw [eC (r:=aLK p (x % p) k) (λt=>(aLK p (x % p) t,(t:Int))) k (by rfl) (λt ht=>?_) (λ_=>?_),Option.bind_some]
 ·unfold nE
  simp only
  have h1:=aOy hp (aAY (x:=x) hp) t
  have h2:=aAY (x:=x) hp
  have h3:=aLa (a:=aLK p (x % p) t) (b:=x % p) (by omega) (by omega)
  rw [jS ht,cond_true,aMo hp,Option.bind_some,decide_eq_false (by omega),Bool.not_false,cond_true,cC ht (by omega),dX (by omega),Int.tmod_eq_emod_of_nonneg h3.1]
  rfl
 ·unfold nE
  simp only
  rw [mR (Nat.le_refl _),cond_false]
theorem aQC {p x:Int} (hp:lM p=true):pM p x=some (aAz p (x % p)):=by
 have hb:=gB hp
 unfold pM aAz
 rw [aCy,hp,Option.bind_some,Bool.not_true,cond_false,dX (by omega)]
 have e:max (p - 2) 1=(((max (p - 2) 1).toNat:Nat):Int):=by omega
 rw [e,aOL hp (by omega),Option.bind_some,Int.toNat_natCast]
theorem aQD {p x:Int} (hp:lM p=true) (hx: -4611686018427387904≤x∧x≤4611686018427387904):iN p x=some (aAz p (x % p)):=by
 have hb:=gB hp
 have h2:=aAY (x:=x) hp
 obtain ⟨n,hn⟩: ∃ n:Nat,p=n:=⟨p.toNat,by omega⟩
 unfold iN
 rw [aFl (s0:=1) (s:=1) (n:=n) (λk:Nat=>bif decide ((x % p*k) % p=1) then some (k:Int) else none) rfl (by omega) (by omega) (λk h1 hk=>?_) (λ_=>?_),Option.bind_some]
 ·cases e:(List.range' 1 (n - 1)).findSome? (λk:Nat=>bif decide ((x % p*k) % p=1) then some (k:Int) else none) with
  |none=>
   rw [List.findSome?_eq_none_iff] at e
   rw [aRE hp h2 λy h3 h4 h5=>?_];rfl
   have:=e y (by simp;omega)
   rw [decide_eq_true h5] at this
   cases this
  |some i=>
   obtain ⟨k,hk,he⟩:=List.exists_of_findSome?_eq_some e
   simp at hk
   cases hd:decide ((x % p*k) % p=1) with
   |false=>rw [hd] at he;cases he
   |true=>
    rw [hd] at he
    cases he
    rw [aSq hp h2 (y:=k) (by omega) (of_decide_eq_true hd)];rfl
 ·unfold kR
  have h3:=aLa (a:=x % p) (b:=k) (by omega) (by omega)
  rw [decide_eq_true (by omega),cond_true,aEs,hp,Option.bind_some,cond_true,aEu hp hx,Option.bind_some,dX (by omega),aEu hp (by omega),Option.bind_some]
  cases decide (x % p*k % p=1) <;> rfl
 ·unfold kR
  rw [decide_eq_false (by omega),cond_false]
theorem aIp {r c i:Nat} (hi:i<r):(i+1)*c≤r*c:=Nat.mul_le_mul_right c hi
theorem ixw {r c i j:Nat} (hN:r*c≤1048576) (hi:i<r) (hj:j<c):wr (wr ((i:Int)*(c:Int))+(j:Int))=((i*c+j:Nat):Int):=wix (by have:=aOz hi hj;omega)
theorem atT {r c i j:Nat} (hN:r*c≤1048576) (hi:i<r) (hj:j<c) (F:Nat→Nat→Int):cR (cJ r c F) (wr (wr ((i:Int)*(c:Int))+(j:Int)))=some (F i j):=by rw [ixw hN hi hj,aSr F hi hj]
theorem aQF {r c i j:Nat} (hN:r*c≤1048576) (hi:i<r) (hj:j<c) (F:Nat→Nat→Int) (v:Int):(cJ r c F).set (wr (wr ((i:Int)*(c:Int))+(j:Int))).toNat v=cJ r c (aFm F i j v):=by rw [ixw hN hi hj,Int.toNat_natCast,aBA F v hi hj]
theorem uK {r c i:Nat} (hN:r*c≤1048576) (hi:i<r):wr ((i:Int)*(c:Int))=((i*c:Nat):Int):=aMb (by have:= @aIp r c i hi;rw [Nat.succ_mul] at this;omega)
theorem wZ {r c i:Nat} (hN:r*c≤1048576) (hr:r≤1048576) (hi:i<r):wr (wr ((i:Int)+1)*(c:Int))=((i*c+c:Nat):Int):=by
 have:= @aIp r c i hi
 rw [cC hi (by omega),aMb (by omega),Nat.succ_mul]
def mJ (c:Nat) (f:Nat→Int):List Int:=(List.range c).map f
theorem fE (c:Nat) (f:Nat→Int):(mJ c f).length=c:=by simp [mJ]
theorem aHq {c:Nat} (f:Nat→Int) {j:Nat} (h:j<c):cR (mJ c f) (j:Int)=some (f j):=by rw [dU (by rw [fE];exact h)];simp [mJ]
theorem aIq {r c i:Nat} (hN:r*c≤1048576) (hr:r≤1048576) (hi:i<r) (F:Nat→Nat→Int):cX ⟨r,c,cJ r c F⟩ i=some ():=by
 have:= @aIp r c i hi
 rw [Nat.succ_mul] at this
 unfold cX
 simp only
 rw [uK hN hi,wZ hN hr hi,gY,decide_eq_true (by omega),decide_eq_true (by omega:((i*c:Nat):Int)≤((i*c+c:Nat):Int)),decide_eq_true (by omega:((i*c+c:Nat):Int)≤((r*c:Nat):Int))]
 rfl
theorem aRb {r c i:Nat} (hN:r*c≤1048576) (hr:r≤1048576) (hi:i<r) (F:Nat→Nat→Int):aDm ⟨r,c,cJ r c F⟩ i=some (mJ c (F i)):=by
 have h:= @aIp r c i hi
 rw [Nat.succ_mul] at h
 unfold aDm xP aCG
 simp only
 rw [uK hN hi,wZ hN hr hi,gY,decide_eq_true (by omega),decide_eq_true (by omega:((i*c:Nat):Int)≤((i*c+c:Nat):Int)),decide_eq_true (by omega:((i*c+c:Nat):Int)≤((r*c:Nat):Int))]
 simp only [Bool.and_self,cond_true,Int.toNat_natCast]
 congr 1
 refine List.ext_getElem (by simp [gY,fE];omega) λt h1 h2=>?_
 rw [fE] at h2
 rw [List.getElem_take,List.getElem_drop]
 simp [cJ,mJ,aIV h2,aIW h2]
def aJm (p:Int) (F:Nat→Nat→Int) (i:Nat) (k:Int) (g:Nat→Int):Nat→Nat→Int:=λa b=>if a=i then (F i b+k*g b) % p else F a b
theorem gd (x:Nat):(decide (0≤(x:Int))&&true)=true:=by rw [decide_eq_true (by omega)];rfl
theorem aUE {p:Int} (hp:lM p=true):(!decide (p=0))=true:=by have:=gB hp;rw [decide_eq_false (by omega)];rfl
theorem aMp {p:Int} (hp:lM p=true) {r c i:Nat} (hc:c≤1048576) (hi:i<r) {F:Nat→Nat→Int} {g:Nat→Int} {k:Int} (hk:0≤k∧k≤5) (hF: ∀ b,b<c→0≤F i b∧F i b<p) (hg: ∀ b,b<c→0≤g b∧g b<p):
  gO p (cJ r c F) (i*c) c k (mJ c g)=some (cJ r c (aJm p F i k g)):=by
 have hb:=gB hp
 unfold gO
 rw [eC (r:=cJ r c (aJm p F i k g)) (λx=>(cJ r c (λa b=>if a=i∧b<x then (F i b+k*g b) % p else F a b),(x:Int))) c (by simp) (λx hx=>?_) (λ_=>?_)];rfl
 ·have h1:=hF x hx
  have h2:=hg x hx
  have h3:=aLa hk (show 0≤g x∧g x≤5 by omega)
  unfold jT
  simp only
  rw [fE,jS hx,cond_true,aHq _ hx,Option.bind_some,gd x,cond_true,Int.toNat_natCast,mB _ hi hx,Option.bind_some,aUE hp,cond_true,cond_true,Option.bind_some,aBA _ _ hi hx,cC hx (by omega)]
  rw [if_neg (by omega),dX (x:=k*g x) (by omega),dX (by omega),Int.tmod_eq_emod_of_nonneg (by omega)]
  congr 3
  refine cH λa b ha hb=>?_
  simp only [aFm]
  by_cases e1:a=i∧b=x
  ·obtain ⟨rfl,rfl⟩:=e1
   rw [if_pos ⟨rfl,rfl⟩,if_pos ⟨rfl,by omega⟩]
  ·rw [if_neg e1]
   by_cases e2:a=i∧b<x
   ·rw [if_pos e2,if_pos ⟨e2.1,by omega⟩]
   ·rw [if_neg e2,if_neg (by omega)]
 ·unfold jT
  simp only
  rw [fE,mR (Nat.le_refl _),cond_false]
  congr 2
  refine cH λa b ha hb=>?_
  simp only [aJm]
  by_cases e:a=i
  ·rw [if_pos ⟨e,hb⟩,if_pos e]
  ·rw [if_neg (by omega),if_neg e]
theorem aQG {p:Int} (hp:lM p=true) {r c i j:Nat} (hc:c≤1048576) (hi:i<r) (hj:j<r) (hij:i≠j) {F:Nat→Nat→Int} {k:Int} (hk:0≤k∧k≤5) (hF: ∀ b,b<c→0≤F i b∧F i b<p) (hg: ∀ b,b<c→0≤F j b∧F j b<p):
  iM p (cJ r c F) (i*c) c k (j*c) c=some (cJ r c (aJm p F i k (F j))):=by
 have hb:=gB hp
 unfold iM
 rw [eC (r:=cJ r c (aJm p F i k (F j))) (λx=>(cJ r c (λa b=>if a=i∧b<x then (F i b+k*F j b) % p else F a b),(x:Int))) c (by simp) (λx hx=>?_) (λ_=>?_)];rfl
 ·have h1:=hF x hx
  have h2:=hg x hx
  have h3:=aLa hk (show 0≤F j x∧F j x≤5 by omega)
  unfold gD
  simp only
  rw [jS hx,cond_true,gd x,cond_true,Int.toNat_natCast,mB _ hj hx,Option.bind_some,cond_true,mB _ hi hx,Option.bind_some,aUE hp,cond_true,cond_true,Option.bind_some,aBA _ _ hi hx,cC hx (by omega)]
  rw [if_neg (by omega),if_neg (by omega),dX (x:=k*F j x) (by omega),dX (by omega),Int.tmod_eq_emod_of_nonneg (by omega)]
  congr 3
  refine cH λa b ha hb=>?_
  simp only [aFm]
  by_cases e1:a=i∧b=x
  ·obtain ⟨rfl,rfl⟩:=e1
   rw [if_pos ⟨rfl,rfl⟩,if_pos ⟨rfl,by omega⟩]
  ·rw [if_neg e1]
   by_cases e2:a=i∧b<x
   ·rw [if_pos e2,if_pos ⟨e2.1,by omega⟩]
   ·rw [if_neg e2,if_neg (by omega)]
 ·unfold gD
  simp only
  rw [mR (Nat.le_refl _),cond_false]
  congr 2
  refine cH λa b ha hb=>?_
  simp only [aJm]
  by_cases e:a=i
  ·rw [if_pos ⟨e,hb⟩,if_pos e]
  ·rw [if_neg (by omega),if_neg e]
theorem aRc {r c:Nat} (hN:r*c≤1048576):(decide (0≤wr ((r:Int)*(c:Int)))&&decide (wr ((r:Int)*(c:Int))≤1048576))=true:=by
 rw [aMb (by omega),decide_eq_true (by omega),decide_eq_true (by omega)];rfl
theorem aRd {r c:Nat} (hN:r*c≤1048576):vD r c=some ⟨r,c,cJ r c λ_ _=>0⟩:=by
 unfold vD
 rw [aRc hN,cond_true,aMb (by omega),Int.toNat_natCast,aKJ]
theorem aRe {r c:Nat} (hN:r*c≤1048576):xG r c=some ⟨r,c,cJ r c λ_ _=>0⟩:=by
 unfold xG
 rw [aRc hN,cond_true,aMb (by omega),Int.toNat_natCast,aKJ]
def aHN (F G:Nat→Nat→Int) (i j:Nat):Nat→Int
 |0=>0
 |k+1=>aHN F G i j k+F i k*G k j
def aMq (p:Int) (F G:Nat→Nat→Int) (i j:Nat):Nat→Int
 |0=>0
 |k+1=>(aMq p F G i j k+F i k*G k j) % p
theorem aLb {p:Int} (hp:lM p=true) (F G:Nat→Nat→Int) (i j:Nat): ∀ k,aMq p F G i j k=aHN F G i j k % p
 |0=>by simp [aMq,aHN]
 |k+1=>by rw [aMq,aHN,aLb hp F G i j k];simp [Int.add_emod]
theorem aLc {p:Int} (hp:lM p=true) {F G:Nat→Nat→Int} {i j:Nat} : ∀ {k:Nat},(∀ t,t<k→0≤F i t∧F i t<p)→(∀ t,t<k→0≤G t j∧G t j<p)→0≤aHN F G i j k∧aHN F G i j k≤25*k
 |0,_,_=>by simp [aHN]
 |k+1,hF,hG=>by
  have hb:=gB hp
  have h:=aLc hp (k:=k) (λt ht=>hF t (by omega)) (λt ht=>hG t (by omega))
  have h1:=hF k (by omega)
  have h2:=hG k (by omega)
  have h3:=aLa (a:=F i k) (b:=G k j) (by omega) (by omega)
  rw [aHN]
  omega
def aHO (p:Int) (n:Nat) (F G:Nat→Nat→Int):Nat→Nat→Int:=λi j=>aHN F G i j n % p
theorem aLd {p:Int} (hp:lM p=true) {r n c:Nat} (h1:r*n≤1048576) (h2:n*c≤1048576) (h3:r*c≤1048576) (hr:r≤1048576) (hn:n≤1048576) (hc:c≤1048576) {F G:Nat→Nat→Int} (hF:InP p r n F) (hG:InP p n c G):
  pL p ⟨r,n,cJ r n F⟩ ⟨n,c,cJ n c G⟩=some ⟨r,c,cJ r c (aHO p n F G)⟩:=by
 have hb:=gB hp
 unfold pL
 simp only
 rw [aRe h3,Option.bind_some]
 simp only
 rw [eC (r:=cJ r c (aHO p n F G)) (λi=>(cJ r c (λa b=>if a<i then aHO p n F G a b else 0),(i:Int))) r (by simp) (λi hi=>?_) (λ_=>?_),Option.bind_some]
 ·unfold kQ
  simp only
  rw [jS hi,cond_true]
  rw [eC (r:=cJ r c (λa b=>if a<i+1 then aHO p n F G a b else 0)) (λj=>(cJ r c (λa b=>if a<i∨(a=i∧b<j) then aHO p n F G a b else 0),(j:Int))) c (by simp) (λj hj=>?_) (λ_=>?_),Option.bind_some,cC hi (by omega)]
  ·unfold kP
   simp only
   rw [jS hj,cond_true]
   have hbd:=aLc hp (F:=F) (G:=G) (i:=i) (j:=j) (k:=n) (λt ht=>hF i t hi ht) (λt ht=>hG t j ht hj)
   rw [eC (r:=aHN F G i j n) (λk=>(aHN F G i j k,(k:Int))) n (by simp [aHN]) (λk hk=>?_) (λ_=>?_),Option.bind_some,aEu hp (by omega),Option.bind_some,atT h3 hi hj,Option.bind_some,aQF h3 hi hj,cC hj (by omega)]
   ·congr 3
    refine cH λa b ha hb=>?_
    simp only [aFm]
    by_cases e:a=i∧b=j
    ·rw [if_pos e,if_pos (by omega),e.1,e.2];rfl
    ·rw [if_neg e]
     by_cases e2:a<i∨a=i∧b<j
     ·rw [if_pos e2,if_pos (by omega)]
     ·rw [if_neg e2,if_neg (by omega)]
   ·unfold kO
    simp only
    have g1:=hF i k hi hk
    have g2:=hG k j hk hj
    have g3:=aLa (a:=F i k) (b:=G k j) (by omega) (by omega)
    have g4:=aLc hp (F:=F) (G:=G) (i:=i) (j:=j) (k:=k) (λt ht=>hF i t hi (by omega)) (λt ht=>hG t j (by omega) hj)
    rw [jS hk,cond_true,atT h1 hi hk,Option.bind_some,atT h2 hk hj,Option.bind_some,cC hk (by omega),dX (x:=F i k*G k j) (by omega),dX (by omega)]
    rfl
   ·unfold kO
    simp only
    rw [mR (Nat.le_refl _),cond_false]
  ·unfold kP
   simp only
   rw [mR (Nat.le_refl _),cond_false]
   congr 2
   refine cH λa b ha hb=>?_
   by_cases e:a<i+1
   ·rw [if_pos e,if_pos (by omega)]
   ·rw [if_neg e,if_neg (by omega)]
 ·unfold kQ
  simp only
  rw [mR (Nat.le_refl _),cond_false]
  congr 2
  exact cH λa b ha hb=>by rw [if_pos ha]
theorem aTH {p:Int} (hp:lM p=true) {r n c:Nat} (h1:r*n≤1048576) (h2:n*c≤1048576) (h3:r*c≤1048576) (hr:r≤1048576) (hn:n≤1048576) (hc:c≤1048576) {F G:Nat→Nat→Int} (hF:InP p r n F) (hG:InP p n c G):
  yR p ⟨r,n,cJ r n F⟩ ⟨n,c,cJ n c G⟩=some ⟨r,c,cJ r c (aHO p n F G)⟩:=by
 have hb:=gB hp
 have hD: ∀ i j,aMq p F G i j n=aHO p n F G i j:=λi j=>aLb hp F G i j n
 unfold yR
 simp only
 rw [aRd h3,Option.bind_some]
 simp only
 rw [eC (r:=cJ r c (aHO p n F G)) (λi=>(cJ r c (λa b=>if a<i then aHO p n F G a b else 0),(i:Int))) r (by simp) (λi hi=>?_) (λ_=>?_),Option.bind_some]
 ·unfold tH
  simp only
  rw [jS hi,cond_true,aRb h1 hr hi,Option.bind_some]
  rw [eC (r:=cJ r c (λa b=>if a<i+1 then aHO p n F G a b else 0)) (λk=>(cJ r c (λa b=>if a<i then aHO p n F G a b else if a=i then aMq p F G i b k else 0),(k:Int))) n ?_ (λk hk=>?_) (λ_=>?_),Option.bind_some,cC hi (by omega)]
  ·congr 1
   exact cH λa b ha hb=>by
    by_cases e:a<i
    ·rw [if_pos e,if_pos e]
    ·rw [if_neg e,if_neg e];simp [aMq]
  ·unfold tG
   simp only
   have g1:=hF i k hi hk
   rw [fE,jS hk,cond_true,aHq _ hk,Option.bind_some,aIq h3 hr hi,Option.bind_some,aRb h2 hn hk,Option.bind_some,Nat.zero_add,uK h3 hi,wZ h3 hr hi,Int.toNat_natCast,Int.toNat_natCast,show i*c+c - i*c=c by omega]
   rw [aMp hp hc hi (by omega) (λb hb=>?_) (λb hb=>hG k b hk hb),Option.bind_some,gY,gY,decide_eq_true rfl,cond_true,cC hk (by omega)]
   ·congr 3
    refine cH λa b ha hb=>?_
    simp only [aJm]
    by_cases e:a=i
    ·subst e
     simp [aMq]
    ·rw [if_neg e,if_neg e,if_neg e]
   ·rw [if_neg (by omega),if_pos rfl,aLb hp]
    exact aAY hp
  ·unfold tG
   simp only
   rw [fE,mR (Nat.le_refl _),cond_false]
   congr 2
   refine cH λa b ha hb=>?_
   by_cases e:a<i
   ·rw [if_pos e,if_pos (by omega)]
   ·by_cases e2:a=i
    ·subst e2
     rw [if_neg (by omega),if_pos rfl,if_pos (by omega),hD]
    ·rw [if_neg e,if_neg e2,if_neg (by omega)]
 ·unfold tH
  simp only
  rw [mR (Nat.le_refl _),cond_false]
  congr 2
  exact cH λa b ha hb=>by rw [if_pos ha]
end
noncomputable section
def vE (L:List Nat):List Int:=L.map λt:Nat=>(t:Int)
theorem mK (L:List Nat):(vE L).length=L.length:=by simp [vE]
theorem aIr {p:Int} {m:Nat} {F:Nat→Nat→Int} {j:Nat} (h:(cA p m F j).2.length=m): ∀ d,cA p m F (j+d)=cA p m F j
 |0=>rfl
 |d+1=>by
  show gC p m (cA p m F (j+d)) (j+d)=_
  rw [aIr h d]
  unfold gC
  rw [if_pos]
  rw [h,Nat.sub_self]
  rfl
def aBZ (F:Nat→Nat→Int) (a b x:Nat):Nat→Nat→Int:=λi y=>if y<x then vA F a b i y else F i y
def yU (p:Int) (F:Nat→Nat→Int) (a:Nat) (s:Int) (x:Nat):Nat→Nat→Int:=λi y=>if y<x then qN p F a s i y else F i y
def iR (p:Int) (F:Nat→Nat→Int) (a j x:Nat):Nat→Nat→Int:=λi c=>if i<x then wL p F a j i c else F i c
theorem aKc {r c a b x:Nat} (F:Nat→Nat→Int):cJ r c (aFm (aFm (aBZ F a b x) a x (F b x)) b x (F a x))=cJ r c (aBZ F a b (x+1)):=by
 refine cH λi y hi hy=>?_
 simp only [aFm,aBZ,vA]
 by_cases e:y=x
 ·subst e
  simp only [and_true,Nat.lt_irrefl,if_false,Nat.lt_succ_self,if_true]
  by_cases e1:i=b
  ·rw [if_pos e1]
   by_cases e2:i=a
   ·rw [if_pos e2]
    subst e1;rw [e2]
   ·rw [if_neg e2,if_pos e1]
  ·rw [if_neg e1]
   by_cases e2:i=a
   ·rw [if_pos e2,if_pos e2]
   ·rw [if_neg e2,if_neg e2,if_neg e1]
 ·rw [if_neg (by omega),if_neg (by omega)]
  by_cases e1:y<x
  ·rw [if_pos e1,if_pos (show y<x+1 by omega)]
  ·rw [if_neg e1,if_neg (show ¬ y<x+1 by omega)]
theorem aCz {F:Nat→Nat→Int} {a b x i:Nat} :aBZ F a b x i x=F i x:=by simp [aBZ]
theorem aIs {p:Int} {F:Nat→Nat→Int} {a x i:Nat} {s:Int} :yU p F a s x i x=F i x:=by simp [yU]
theorem aIt {p:Int} {r c a x:Nat} {s:Int} (F:Nat→Nat→Int):cJ r c (aFm (yU p F a s x) a x ((F a x*s) % p))=cJ r c (yU p F a s (x+1)):=by
 refine cH λi y hi hy=>?_
 simp only [aFm,yU,qN]
 by_cases e:y=x
 ·subst e
  simp only [and_true,Nat.lt_irrefl,if_false,Nat.lt_succ_self,if_true]
 ·rw [if_neg (by omega)]
  by_cases e1:y<x
  ·rw [if_pos e1,if_pos (show y<x+1 by omega)]
  ·rw [if_neg e1,if_neg (show ¬ y<x+1 by omega)]
theorem aPL {p r:Int} (hp:lM p=true) (hr:0≤r∧r<p):0≤aAz p r∧aAz p r<p:=aOy hp hr _
theorem aMr {p:Int} {m n k r:Nat} {F:Nat→Nat→Int} (h:InP p m n F) (hk:k<m) (hr:r<m):InP p m n (vA F k r):=by
 intro i c hi hc
 unfold vA
 split
 ·exact h r c hr hc
 ·split
  ·exact h k c hk hc
  ·exact h i c hi hc
theorem aKd {p:Int} (hp:lM p=true) {m n k:Nat} {s:Int} {F:Nat→Nat→Int} (h:InP p m n F):InP p m n (qN p F k s):=by
 intro i c hi hc
 unfold qN
 split
 ·exact aAY hp
 ·exact h i c hi hc
theorem aQH {p:Int} (hp:lM p=true) {m n k j x:Nat} {F:Nat→Nat→Int} (h:InP p m n F):InP p m n (iR p F k j x):=by
 intro i c hi hc
 unfold iR wL
 split
 ·split
  ·rename_i h1 h2;subst h2;exact h _ c hi hc
  ·exact aAY hp
 ·exact h i c hi hc
theorem aRf {p:Int} (hp:lM p=true) {m n k j x:Nat} {F:Nat→Nat→Int} (hx:x≠k):cJ m n (aJm p (iR p F k j x) x (p - F x j) (iR p F k j x k))=cJ m n (iR p F k j (x+1)):=by
 refine cH λi c hi hc=>?_
 simp only [aJm,iR,wL]
 by_cases e:i=x
 ·subst e
  rw [if_pos rfl,if_neg (Nat.lt_irrefl _),if_pos (Nat.lt_succ_self _),if_neg hx]
  simp only [if_true,ite_self]
  rw [show F i c+(p - F i j)*F k c=(F i c - F i j*F k c)+p*F k c by rw [Int.sub_mul];omega,Int.add_mul_emod_self_left]
 ·rw [if_neg e]
  by_cases e1:i<x
  ·rw [if_pos e1,if_pos (show i<x+1 by omega)]
  ·rw [if_neg e1,if_neg (show ¬ i<x+1 by omega)]
theorem aKe {p:Int} {m n k j:Nat} {F:Nat→Nat→Int} :cJ m n (iR p F k j k)=cJ m n (iR p F k j (k+1)):=by
 refine cH λi c hi hc=>?_
 simp only [iR,wL]
 by_cases e:i<k
 ·rw [if_pos e,if_pos (show i<k+1 by omega)]
 ·rw [if_neg e]
  by_cases e1:i=k
  ·subst e1;simp
  ·rw [if_neg (show ¬ i<k+1 by omega)]
theorem aIu {p:Int} {F:Nat→Nat→Int} {k r j:Nat} :eW p F k r j=wL p (qN p (vA F k r) k (aAz p (F r j))) k j:=rfl
structure Tb (p:Int) (m n:Nat) (F:Nat→Nat→Int):Prop where
 hp:lM p=true
 hN:m*n≤1048576
 hm:m≤1048576
 hn:n≤1048576
 hi:InP p m n F
theorem aUF {p:Int} {m n:Nat} {F:Nat→Nat→Int} (T:Tb p m n F) {j:Nat} (hj:j<n) (L:List Nat) (hL:L.length≤m) (l:List Int):
  Lp (mH ⟨m,n,l⟩ ((j:Int),cJ m n F,vE L)) (((vE L).length:Nat):Int)=some ((iZ F j (m - L.length) L.length:Nat):Int):=by
 obtain ⟨hp,hN,hm,hn,hi⟩:=T
 have hle:= @zN F j (m - L.length) L.length
 have hz:= @aDi F j (m - L.length) L.length
 have hh:= @aCo F j (m - L.length) L.length
 generalize iZ F j (m - L.length) L.length=r at*
 rw [mK]
 refine eC (λt=>((L.length+t:Nat):Int)) (r - L.length) (by simp) (λt ht=>?_) (λ_=>?_)
 ·unfold mH
  simp only
  rw [jS (by omega),cond_true,aIq hN hm (by omega),Option.bind_some,uK hN (by omega),wZ hN hm (by omega),Int.toNat_natCast,Int.toNat_natCast,Nat.add_sub_cancel_left,jS hj,gd,cond_true,Nat.zero_add,Int.toNat_natCast,mB _ (by omega) hj,Option.bind_some,
   hz _ (by omega) (by omega),decide_eq_true rfl,cond_true,cC (n:=m) (by omega) (by omega),Nat.add_assoc]
 ·rw [show L.length+(r - L.length)=r by omega]
  unfold mH
  simp only
  rcases Nat.lt_or_ge r m with h|h
  ·rw [jS h,cond_true,aIq hN hm h,Option.bind_some,uK hN h,wZ hN hm h,Int.toNat_natCast,Int.toNat_natCast,Nat.add_sub_cancel_left,jS hj,gd,cond_true,Nat.zero_add,Int.toNat_natCast,mB _ h hj,Option.bind_some,
    decide_eq_false (hh (by omega)),cond_false]
  ·rw [mR h,cond_false]
theorem aTI {p:Int} {m n:Nat} {F:Nat→Nat→Int} (T:Tb p m n F) {j:Nat} (hj:j<n) (L:List Nat) (hL:L.length≤m) (l:List Int):
  mI p ⟨m,n,l⟩ ((j:Int),cJ m n F,vE L)=some (.inl (((j+1:Nat):Int),cJ m n (gC p m (F,L) j).1,vE (gC p m (F,L) j).2)):=by
 have hpv:=aUF T hj L hL l
 obtain ⟨hp,hN,hm,hn,hi⟩:=T
 have hb:=gB hp
 have hle:= @zN F j (m - L.length) L.length
 unfold mI gC
 simp only
 rw [jS hj,cond_true,hpv,Option.bind_some,cC hj (by omega)]
 clear hpv
 generalize iZ F j (m - L.length) L.length=r at*
 by_cases hr:r=m
 ·rw [decide_eq_true (by omega),cond_true,if_pos hr]
 ·rw [decide_eq_false (by omega),cond_false,if_neg hr]
  have hk:L.length<m:=by omega
  have hrm:r<m:=by omega
  simp only [mK]
  rw [aIq hN hm hk,Option.bind_some,uK hN hk,wZ hN hm hk]
  simp only [Int.toNat_natCast,Nat.add_sub_cancel_left,Nat.zero_add]
  rw [eC (r:=cJ m n (vA F L.length r)) (λx=>(cJ m n (aBZ F L.length r x),(x:Int))) n ?_ (λx hx=>?_) (λ_=>?_),Option.bind_some,jS hj,gd,cond_true,mB _ hk hj,Option.bind_some]
  ·have e1:vA F L.length r L.length j=F r j:=by simp [vA]
   have hrj:=hi r j hrm hj
   rw [e1,aQC hp,Option.bind_some,Int.emod_eq_of_lt hrj.1 hrj.2]
   have hs:=aPL hp hrj
   rw [aIu]
   generalize aAz p (F r j)=s at*
   have h1:=aMr hi hk hrm
   generalize vA F L.length r=F1 at*
   rw [eC (r:=cJ m n (qN p F1 L.length s)) (λx=>(cJ m n (yU p F1 L.length s x),(x:Int))) n ?_ (λx hx=>?_) (λ_=>?_),Option.bind_some]
   ·have h2:=aKd hp (k:=L.length) (s:=s) h1
    generalize qN p F1 L.length s=F2 at*
    rw [eC (r:=cJ m n (wL p F2 L.length j)) (λx=>(cJ m n (iR p F2 L.length j x),(x:Int))) m ?_ (λx hx=>?_) (λ_=>?_),Option.bind_some]
    ·rw [decide_eq_true (by simp;omega),cond_true]
     simp [vE]
    ·congr 1
    ·unfold rM
     simp only [mK]
     rw [jS hx,cond_true]
     by_cases hxk:x=L.length
     ·rw [decide_eq_true (by omega),Bool.not_true,cond_false,cC hx (by omega),hxk,aKe]
     ·rw [decide_eq_false (by omega),Bool.not_false,cond_true,aIq hN hm hx,Option.bind_some,Option.bind_some,uK hN hx,wZ hN hm hx,uK hN hk,wZ hN hm hk]
      simp only [Int.toNat_natCast,Nat.add_sub_cancel_left,Nat.zero_add]
      rw [jS hj,gd,cond_true,mB _ hx hj,Option.bind_some]
      have e2:iR p F2 L.length j x x j=F2 x j:=by simp [iR]
      have h3:=h2 x j hx hj
      have h4:=aQH hp (k:=L.length) (j:=j) (x:=x) h2
      rw [e2,dX (by omega),aQG hp hn hx hk hxk (by omega) (λb hb=>h4 _ b hx hb) (λb hb=>h4 _ b hk hb),Option.bind_some,gY,gY,decide_eq_true rfl,cond_true,cC hx (by omega),aRf hp hxk]
    ·unfold rM
     simp only
     rw [mR (Nat.le_refl _),cond_false]
     congr 2
     exact cH λa b ha hb=>by simp only [iR];rw [if_pos ha]
   ·congr 1
   ·unfold rL
    simp only [mK]
    rw [uK hN hk,wZ hN hm hk]
    simp only [Int.toNat_natCast,Nat.add_sub_cancel_left,Nat.zero_add]
    have g1:=h1 _ x hk hx
    have g2:=aLa (a:=F1 L.length x) (b:=s) (by omega) (by omega)
    rw [jS hx,cond_true,gd,cond_true,mB _ hk hx,Option.bind_some,aUE hp,cond_true,cond_true,Option.bind_some,aIs,dX (by omega),Int.tmod_eq_emod_of_nonneg g2.1,aBA _ _ hk hx,cC hx (by omega),aIt]
   ·unfold rL
    simp only [mK]
    rw [uK hN hk,wZ hN hm hk]
    simp only [Int.toNat_natCast,Nat.add_sub_cancel_left,Nat.zero_add]
    rw [mR (Nat.le_refl _),cond_false]
    congr 2
    exact cH λa b ha hb=>by simp only [yU];rw [if_pos hb]
  ·congr 1
  ·unfold rK
   simp only [mK]
   rw [jS hx,cond_true,aIq hN hm hrm,Option.bind_some,Option.bind_some,uK hN hk,wZ hN hm hk,uK hN hrm,wZ hN hm hrm]
   simp only [Int.toNat_natCast,Nat.add_sub_cancel_left,Nat.zero_add]
   rw [jS hx,gd,cond_true,mB _ hrm hx,Option.bind_some,cond_true,mB _ hk hx,Option.bind_some,cond_true,Option.bind_some,cond_true,aBA _ _ hk hx,mB _ hrm hx,Option.bind_some,aBA _ _ hrm hx,aCz,aCz,cC hx (by omega),aKc]
  ·unfold rK
   simp only
   rw [mR (Nat.le_refl _),cond_false]
   congr 2
   exact cH λa b ha hb=>by simp only [aBZ];rw [if_pos hb]
theorem aLe {p:Int} {m n:Nat} {F:Nat→Nat→Int} (T:Tb p m n F):xH p ⟨m,n,cJ m n F⟩=some (⟨m,n,cJ m n (cA p m F n).1⟩,vE (cA p m F n).2):=by
 have hN:=T.hN
 have hn:=T.hn
 unfold xH sE vK
 simp only
 rw [gY,decide_eq_true hN,cond_true,Option.bind_some,Option.bind_some]
 simp only
 rw [eC (r:=(cJ m n (cA p m F n).1,vE (cA p m F n).2)) (λj=>((j:Int),cJ m n (cA p m F j).1,vE (cA p m F j).2)) n (by simp [cA,vE]) (λj hj=>?_) (λ_=>?_),Option.bind_some]
 ·show _=some (Sum.inl (((j+1:Nat):Int),cJ m n (gC p m (cA p m F j) j).1,vE (gC p m (cA p m F j) j).2):(Int×List Int×List Int) ⊕ (List Int×List Int))
  exact aTI ⟨T.hp,T.hN,T.hm,T.hn,sJ (by have:=gB T.hp;omega) T.hi j⟩ hj _ (vB j) _
 ·unfold mI
  simp only
  rw [mR (Nat.le_refl _),cond_false]
theorem aUG {p:Int} {m n:Nat} {F:Nat→Nat→Int} (T:Tb p m n F) {j:Nat} (hj:j<n) (L:List Nat) (hL:L.length<m) (l:List Int):
  Lp (jI ⟨m,n,l⟩ ((j:Int),cJ m n F,vE L,(L.length:Int))) (-1,wr ((m:Int) - 1))=some (if iZ F j (m - L.length) L.length=m then -1 else ((iZ F j (m - L.length) L.length:Nat):Int)):=by
 obtain ⟨hp,hN,hm,hn,hi⟩:=T
 refine eC (λt=>(if iZ F j t (m - t)=m then -1 else ((iZ F j t (m - t):Nat):Int),((m - t:Nat):Int) - 1)) (m - L.length) ?_ (λt ht=>?_) (λ_=>?_)
 ·simp only [iZ,Nat.sub_zero,if_true]
  rw [dX (by omega)]
 ·unfold jI
  simp only
  have e:((m - t:Nat):Int) - 1=((m - (t+1):Nat):Int):=by omega
  have hi2:m - (t+1)<m:=by omega
  rw [e,decide_eq_true (by omega),cond_true,atT hN hi2 hj,Option.bind_some,dX (x:=((m - (t+1):Nat):Int) - 1) (by omega)]
  have ep:iZ F j (t+1) (m - (t+1))=if F (m - (t+1)) j=0 then iZ F j t (m - t) else m - (t+1):=by
   rw [iZ,show m - (t+1)+1=m - t by omega]
  rw [ep]
  by_cases h:F (m - (t+1)) j=0
  ·rw [decide_eq_true h,Bool.not_true,cond_false,if_pos h]
  ·rw [decide_eq_false h,Bool.not_false,cond_true,if_neg h,if_neg (by omega)]
 ·rw [show m - (m - L.length)=L.length by omega]
  unfold jI
  simp only
  rw [decide_eq_false (by omega),cond_false]
theorem aTJ {p:Int} {m n:Nat} {F:Nat→Nat→Int} (T:Tb p m n F) {j:Nat} (hj:j<n) (L:List Nat) (hL:L.length<m) (l:List Int):
  eG p ⟨m,n,l⟩ ((j:Int),cJ m n F,vE L,(L.length:Int))=some (.inl (((j+1:Nat):Int),cJ m n (gC p m (F,L) j).1,vE (gC p m (F,L) j).2,((gC p m (F,L) j).2.length:Int))):=by
 have hpv:=aUG T hj L hL l
 obtain ⟨hp,hN,hm,hn,hi⟩:=T
 have hb:=gB hp
 have hle:= @zN F j (m - L.length) L.length
 unfold eG gC
 simp only
 rw [jS hj,cond_true,jS hL,cond_true,hpv,Option.bind_some,cC hj (by omega)]
 clear hpv
 generalize iZ F j (m - L.length) L.length=r at*
 have hk:L.length<m:=hL
 by_cases hr:r=m
 ·rw [if_pos hr,if_pos hr,decide_eq_true (by omega),cond_true]
 ·rw [if_neg hr,if_neg hr,decide_eq_false (by omega),cond_false]
  have hrm:r<m:=by omega
  rw [eC (r:=cJ m n (vA F L.length r)) (λx=>(cJ m n (aBZ F L.length r x),(x:Int))) n ?_ (λx hx=>?_) (λ_=>?_),Option.bind_some,atT hN hk hj,Option.bind_some]
  ·have e1:vA F L.length r L.length j=F r j:=by simp [vA]
   have hrj:=hi r j hrm hj
   rw [e1,aQD hp (by omega),Option.bind_some,Int.emod_eq_of_lt hrj.1 hrj.2]
   have hs:=aPL hp hrj
   rw [aIu]
   generalize aAz p (F r j)=s at*
   have h1:=aMr hi hk hrm
   generalize vA F L.length r=F1 at*
   rw [eC (r:=cJ m n (qN p F1 L.length s)) (λx=>(cJ m n (yU p F1 L.length s x),(x:Int))) n ?_ (λx hx=>?_) (λ_=>?_),Option.bind_some]
   ·have h2:=aKd hp (k:=L.length) (s:=s) h1
    generalize qN p F1 L.length s=F2 at*
    rw [eC (r:=cJ m n (wL p F2 L.length j)) (λx=>(cJ m n (iR p F2 L.length j x),(x:Int))) m ?_ (λx hx=>?_) (λ_=>?_),Option.bind_some]
    ·rw [mK,decide_eq_true (by simp;omega),cond_true,cC hk (by omega)]
     simp [vE]
    ·congr 1
    ·unfold gP
     simp only
     rw [jS hx,cond_true,atT hN hx hj,Option.bind_some,cC hx (by omega)]
     have e2:iR p F2 L.length j x x j=F2 x j:=by simp [iR]
     rw [e2]
     by_cases hxk:x=L.length
     ·rw [rG (r:=cJ m n (iR p F2 L.length j x)) ?_,Option.bind_some,hxk,aKe]
      unfold jJ
      simp only
      rcases Nat.eq_zero_or_pos n with h0|h0
      ·omega
      ·rw [decide_eq_true (by omega),cond_true,decide_eq_true (by omega),Bool.not_true,cond_false]
     ·rw [eC (r:=cJ m n (iR p F2 L.length j (x+1))) (λy=>(cJ m n (λa c=>if a=x∧c<y then wL p F2 L.length j x c else iR p F2 L.length j x a c),(y:Int))) n (by simp) (λy hy=>?_) (λ_=>?_),Option.bind_some]
      ·unfold jJ
       simp only
       rw [jS hy,cond_true,decide_eq_false (by omega),Bool.not_false,cond_true,atT hN hx hy,Option.bind_some,atT hN hk hy,Option.bind_some]
       have e3:iR p F2 L.length j x x y=F2 x y:=by simp [iR]
       have e4:iR p F2 L.length j x L.length y=F2 L.length y:=by simp [iR,wL]
       rw [if_neg (by omega),if_neg (by omega),e3,e4]
       have g1:=h2 x j hx hj
       have g2:=h2 L.length y hk hy
       have g3:=h2 x y hx hy
       have g4:=aLa (a:=F2 x j) (b:=F2 L.length y) (by omega) (by omega)
       rw [dX (x:=F2 x j*F2 L.length y) (by omega),dX (x:=F2 x y - F2 x j*F2 L.length y) (by omega),aEu hp (by omega),Option.bind_some,Option.bind_some,aQF hN hx hy,cC hy (by omega)]
       congr 3
       refine cH λa c ha hc=>?_
       simp only [aFm]
       by_cases e5:a=x∧c=y
       ·rw [if_pos e5,if_pos (by omega),e5.2]
        simp only [wL]
        rw [if_neg hxk]
       ·rw [if_neg e5]
        by_cases e6:a=x∧c<y
        ·rw [if_pos e6,if_pos (by omega)]
        ·rw [if_neg e6,if_neg (by omega)]
      ·unfold jJ
       simp only
       rw [mR (Nat.le_refl _),cond_false]
       congr 2
       refine cH λa c ha hc=>?_
       simp only [iR]
       by_cases e5:a=x
       ·rw [if_pos ⟨e5,hc⟩,if_pos (by omega),e5]
       ·rw [if_neg (by omega)]
        by_cases e6:a<x
        ·rw [if_pos e6,if_pos (by omega)]
        ·rw [if_neg e6,if_neg (by omega)]
    ·unfold gP
     simp only
     rw [mR (Nat.le_refl _),cond_false]
     congr 2
     exact cH λa b ha hb=>by simp only [iR];rw [if_pos ha]
   ·congr 1
   ·unfold nD
    simp only
    have g1:=h1 _ x hk hx
    have g2:=aLa (a:=F1 L.length x) (b:=s) (by omega) (by omega)
    rw [jS hx,cond_true,atT hN hk hx,Option.bind_some,aIs,Int.mul_comm,dX (by omega),aEu hp (by omega),Option.bind_some,Option.bind_some,aQF hN hk hx,cC hx (by omega),aIt]
   ·unfold nD
    simp only
    rw [mR (Nat.le_refl _),cond_false]
    congr 2
    exact cH λa b ha hb=>by simp only [yU];rw [if_pos hb]
  ·congr 1
  ·unfold nC
   simp only
   rw [jS hx,cond_true,atT hN hk hx,Option.bind_some,atT hN hrm hx,Option.bind_some,Option.bind_some,aQF hN hk hx,atT hN hrm hx,Option.bind_some,aQF hN hrm hx,aCz,aCz,cC hx (by omega),aKc]
  ·unfold nC
   simp only
   rw [mR (Nat.le_refl _),cond_false]
   congr 2
   exact cH λa b ha hb=>by simp only [aBZ];rw [if_pos hb]
theorem aLf {p:Int} {m n:Nat} {F:Nat→Nat→Int} (T:Tb p m n F):kH p ⟨m,n,cJ m n F⟩=some (⟨m,n,cJ m n (cA p m F n).1⟩,vE (cA p m F n).2):=by
 have hN:=T.hN
 have hn:=T.hn
 unfold kH aAl
 simp only
 rw [gY,decide_eq_true (by simp;omega),cond_true,Option.bind_some]
 simp only [List.nil_append]
 obtain ⟨r,h1,h2⟩: ∃ r,Lp (eG p ⟨m,n,cJ m n F⟩) (0,cJ m n F,[],0)=some r∧r=(cJ m n (cA p m F n).1,vE (cA p m F n).2):=by
  refine aOx (λs=> ∃ j:Nat,j≤n∧s=((j:Int),cJ m n (cA p m F j).1,vE (cA p m F j).2,((cA p m F j).2.length:Int))) (λs=>n - s.1.toNat) _ ⟨0,Nat.zero_le _,by simp [cA,vE]⟩ ?_
  rintro s ⟨j,hj,rfl⟩
  rcases Nat.lt_or_ge j n with hlt|hge
  ·have hlen:= @vB p m F j
   rcases Nat.lt_or_ge (cA p m F j).2.length m with hl|hl
   ·refine .inl ⟨_,aTJ ⟨T.hp,T.hN,T.hm,T.hn,sJ (by have:=gB T.hp;omega) T.hi j⟩ hlt _ hl _,⟨j+1,hlt,rfl⟩,?_⟩
    simp;omega
   ·refine .inr ⟨_,?_,rfl⟩
    unfold eG
    simp only
    have e:=aIr (p:=p) (F:=F) (j:=j) (by omega:(cA p m F j).2.length=m) (n - j)
    rw [show j+(n - j)=n by omega] at e
    rw [jS hlt,cond_true,mR hl,cond_false,e]
  ·have e:j=n:=by omega
   subst e
   refine .inr ⟨_,?_,rfl⟩
   unfold eG
   simp only
   rw [mR (Nat.le_refl _),cond_false]
 rw [h1,h2,Option.bind_some]
end
noncomputable section
set_option maxRecDepth 10000
set_option maxHeartbeats 4000000
def jV (v1:Mt) (v3:(List Int)) (x1:((List Int)×Int)) (x2:((List Int)×Int)):Option (((List Int)×Int) ⊕ (List Int)):=
 bif decide (x2.2<(v3.length:Int)) then
 ((cR v3 x2.2).bind λv5=>
 (cR x2.1 (wr ((wr (x2.2*v1.cols))+x1.2))).bind λv6=>
 some (.inl ((x2.1.set ((wr ((wr (x2.2*v1.cols))+x1.2)).toNat) v5),wr (x2.2+1))))
 else
 (some (.inr x2.1))
def jW (a1:(List (List Int))) (v1:Mt) (x1:((List Int)×Int)):Option (((List Int)×Int) ⊕ (List Int)):=
 bif decide (x1.2<(a1.length:Int)) then
 ((cR a1 x1.2).bind λv3=>
 (Lp (jV v1 v3 x1) (x1.1,0)).bind λy7=>
 some (.inl (y7,wr (x1.2+1))))
 else
 (some (.inr x1.1))
def jL (a0:Int) (a1:(List (List Int))):Option Mt:=
 (vD a0 (a1.length:Int)).bind λv1=>
 (Lp (jW a1 v1) (v1.cells,0)).bind λy8=>
 some ((⟨v1.rows,v1.cols,y8⟩:Mt))
theorem aDp (a0:Int) (a1:(List (List Int))) (r:Mt) (h:jL a0 a1=some r):HasC Tryz.prog 155 [.int a0,.list 1 (a1.map (cI 1 eI))] (.agg (eM r)):=by
 refine aZ aB (rvs:=[.cell 4 113]) (ns:=[0,1,2,3,4]) Tryz.func155 k k Tryz.ntmps155 k k k<|sR<|ae (cF aB k k) k<|an<|tn<|sR<|am k k<|am k k ?_
 refine ln k4<|oB h λv1 hv1 h=>ae (cM (aCM a0 (a1.length:Int) v1 hv1) k3 (aC (aE k) (aC (aE k) aS))) k<|ae (cF aB k k) k<|ae (bO aB k k k k k k k k) k<|an<|tn<|sQ<|sR<|am k k ?_
 refine ln k4<|am k k<|an<|tn<|aM<|oB h λy8 hy8 h=>bV (body:=(jW a1 v1)) hy8 (λ(x1:((List Int)×Int))=>bE [(4,.ptr 0 0 0),(5,.ptr 1 0 0),(14,.list 1 (a1.map (cI 1 eI))),(15,.int (a1.length:Int)),(16,.int x1.2)] [(0,⟨3,[[.int 0,.int 0,.nil 1]]⟩),(1,⟨3,[[.int v1.rows,.int v1.cols,.own 2 0 x1.1.length]]⟩),(2,⟨1,x1.1.map (ow eI)⟩)] 3 [3,4]) (λr e t=>e= .exit 0∧Ent t (bE [(4,.ptr 0 0 0),(5,.ptr 1 0 0)] [(0,⟨3,[[.int 0,.int 0,.nil 1]]⟩),(1,⟨3,[[.int v1.rows,.int v1.cols,.own 2 0 r.length]]⟩),(2,⟨1,r.map (ow eI)⟩)] 3 [3,4])) (aA (σ:=sg [(0,0),(1,2),(2,1)]) ⟨(pE k k),(pE k k),⟨_,k,⟨k,k⟩⟩,(e1 k k),(e1 k k),aO⟩ (hP k k k k<|hX ⟨_,k,k,.inr ⟨_,_,k,⟨_,_,k,k,⟨_,_,k,k,⟨_,_,k,⟨k,k,k,k⟩,k⟩⟩⟩,k⟩⟩ k<|hI k k k<|aO) k) ?_ ?_
 ·intro x1 o h
  refine sR<|cm k4<|an<|tn<|sQ ?_
  rcases cb h with ⟨q2,h⟩|⟨q2,h⟩
  ·refine aD k q2<|aN<|tn<|sQ<|aM<|sR<|am k k<|oB h λv3 hv3 h=>ae (aU aB hv3 k k k k k k) k<|lr k7 ?_
   refine aa k k<|aT k2<|sR<|am k k<|ln k4<|am k k<|an ?_
   refine tn<|aM<|oB h λy7 hy7 h=>bV (body:=(jV v1 v3 x1)) hy7 (λ(x2:((List Int)×Int))=>bE [(4,.ptr 0 0 0),(5,.ptr 1 0 0),(6,.int x1.2),(14,.list 1 (a1.map (cI 1 eI))),(15,.int (a1.length:Int)),(16,.int x1.2),(21,.list 1 (v3.map eI)),(22,.int (v3.length:Int)),(23,.int x2.2)] [(0,⟨3,[[.int 0,.int 0,.nil 1]]⟩),(1,⟨3,[[.int v1.rows,.int v1.cols,.own 2 0 x2.1.length]]⟩),(2,⟨1,x2.1.map (ow eI)⟩)] 3 [3,4]) (λr e t=>e= .exit 2∧Ent t (bE [(4,.ptr 0 0 0),(5,.ptr 1 0 0),(14,.list 1 (a1.map (cI 1 eI))),(15,.int (a1.length:Int)),(16,.int x1.2)] [(0,⟨3,[[.int 0,.int 0,.nil 1]]⟩),(1,⟨3,[[.int v1.rows,.int v1.cols,.own 2 0 r.length]]⟩),(2,⟨1,r.map (ow eI)⟩)] 3 [3,4])) (aA (σ:=sg [(0,0),(1,1),(2,2)]) ⟨(pE k k),(pE k k),(e1 k k),⟨_,k,⟨k,k⟩⟩,(e1 k k),(e1 k k),⟨_,k,⟨k,k⟩⟩,(e1 k k),(e1 k k),aO⟩ (hP k k k k<|hX ⟨_,k,k,.inr ⟨_,_,k,⟨_,_,k,k,⟨_,_,k,k,⟨_,_,k,⟨k,k,k,k⟩,k⟩⟩⟩,k⟩⟩ k<|hI k k k<|aO) k) ?_ ?_
   ·intro x2 o h
    refine sR<|cm k4<|an<|tn<|sQ ?_
    rcases cb h with ⟨q4,h⟩|⟨q4,h⟩
    ·refine aD k q4<|aN<|tn<|sQ<|aM<|sR<|am k k<|oB h λv5 hv5 h=>ae (aU aB hv5 k k k k k k) k<|lr k7 ?_
     refine aa k k<|aT k2<|rg<|fp k8<|lp k8<|am k k<|fp k8<|lp k8 ?_
     refine ae (fD k k) k<|am k k<|ae (bD k k) k<|am k k<|oB h λv6 hv6 h=>ae (bU aB (dF hv6) (bY hv6) k k k k k k k) k<|ae (gU aB uH (u:=v5) (cG hv6) k k k k k k) k<|an<|aY<|tn<|aJ (t:=bE [(4,.ptr 0 0 0),(5,.ptr 1 0 0),(6,.int x1.2),(14,.list 1 (a1.map (cI 1 eI))),(15,.int (a1.length:Int)),(16,.int x1.2),(21,.list 1 (v3.map eI)),(22,.int (v3.length:Int)),(23,.int x2.2)] [(0,⟨3,[[.int 0,.int 0,.nil 1]]⟩),(1,⟨3,[[.int v1.rows,.int v1.cols,.own 2 0 ((x2.1.set ((wr ((wr (x2.2*v1.cols))+x1.2)).toNat) v5).length)]]⟩),(2,⟨1,List.map (ow eI) (x2.1.set ((wr ((wr (x2.2*v1.cols))+x1.2)).toNat) v5)⟩)] 3 [3,4]) (aA (σ:=sg [(0,0),(1,1),(2,2)]) ⟨(pE k k),(pE k k),(e1 k k),⟨_,k,⟨k,k⟩⟩,(e1 k k),(e1 k k),⟨_,k,⟨k,k⟩⟩,(e1 k k),(e1 k k),aO⟩ (hP k k k k<|hX ⟨_,k,k,.inr ⟨_,_,k,⟨_,_,k,k,⟨_,_,k,k,⟨_,_,k,⟨k,k,(by simp only [aX,lA,lT,lR,lC,lN]),k⟩,k⟩⟩⟩,k⟩⟩ k<|hI k k k<|aO) k) ?_
     refine rg<|ae (bD k k) k<|am k k<|an<|tn ?_
     obtain rfl:=so h
     exact ⟨_,k,(aA (σ:=sg [(0,0),(1,1),(2,2)]) ⟨(pE k k),(pE k k),(e1 k k),⟨_,k,⟨k,k⟩⟩,(e1 k k),(e1 k k),⟨_,k,⟨k,k⟩⟩,(e1 k k),(e1 k k),aO⟩ (hP k k k k<|hX ⟨_,k,k,.inr ⟨_,_,k,⟨_,_,k,k,⟨_,_,k,k,⟨_,_,k,⟨k,k,k,k⟩,k⟩⟩⟩,k⟩⟩ k<|hI k k k<|aO) k)⟩
    ·refine aH k q4<|bA<|aG<|aG ?_
     obtain rfl:=so h
     exact ⟨_,k,k,(aA (σ:=sg [(0,0),(1,1),(2,2)]) ⟨(pE k k),(pE k k),⟨_,k,⟨k,k⟩⟩,(e1 k k),(e1 k k),aO⟩ (hP k k k k<|hX ⟨_,k,k,.inr ⟨_,_,k,⟨_,_,k,k,⟨_,_,k,k,⟨_,_,k,⟨k,k,k,k⟩,k⟩⟩⟩,k⟩⟩ k<|hI k k k<|aO) k)⟩
   ·rintro e t ⟨rfl,hent⟩
    refine aR<|aY<|tn<|aJ hent<|rg<|ae (bD k k) k<|am k k<|an<|tn ?_
    obtain rfl:=so h
    exact ⟨_,k,(aA (σ:=sg [(0,0),(1,1),(2,2)]) ⟨(pE k k),(pE k k),⟨_,k,⟨k,k⟩⟩,(e1 k k),(e1 k k),aO⟩ (hP k k k k<|hX ⟨_,k,k,.inr ⟨_,_,k,⟨_,_,k,k,⟨_,_,k,k,⟨_,_,k,⟨k,k,k,k⟩,k⟩⟩⟩,k⟩⟩ k<|hI k k k<|aO) k)⟩
  ·refine aH k q2<|bA<|aG<|aG ?_
   obtain rfl:=so h
   exact ⟨_,k,k,(aA (σ:=sg [(0,0),(1,1),(2,2)]) (bP k2) (hP k k k k<|hX ⟨_,k,k,.inr ⟨_,_,k,⟨_,_,k,k,⟨_,_,k,k,⟨_,_,k,⟨k,k,k,k⟩,k⟩⟩⟩,k⟩⟩ k<|hI k k k<|aO) k)⟩
 ·rintro e t ⟨rfl,hent⟩
  refine aR<|tn<|aJ hent<|sR<|lp k8<|ae (bO aB k k k k k k k k) k<|an<|tn<|aL ?_
  obtain rfl:=so h
  exact bG k k k (sD (bN (k) (bN (k) (bN (iV cW k k) gZ))))
end
noncomputable section
set_option maxRecDepth 10000
set_option maxHeartbeats 4000000
end
noncomputable section
def dN (r:Rp) (k:Nat):Nat:=(r.dims[k]?.getD 0).toNat
theorem aRg {r:Rp} (h:aEt r=true):lM r.p=true∧aGp r.q r.dims=true∧r.maps.length=r.q.src.length∧ ∀ k,k<r.maps.length→aDG r.p (r.maps[k]?.getD ⟨0,0,[]⟩)=true∧(r.maps[k]?.getD ⟨0,0,[]⟩).cols=r.dims[(r.q.src[k]?.getD 0).toNat]?.getD 0∧(r.maps[k]?.getD ⟨0,0,[]⟩).rows=r.dims[(r.q.tgt[k]?.getD 0).toNat]?.getD 0:=by
 unfold aEt at h
 simp only [Bool.and_eq_true,decide_eq_true_eq,rH] at h
 exact ⟨h.1,h.2.1,by omega,h.2.2.2⟩
theorem aMs (c:Nat) (f:Nat→Nat→Int): ∀ n,((List.range n).map λi=>mJ c (f i)).flatten=cJ n c f
 |0=>by simp [cJ]
 |n+1=>by
  rw [List.range_succ,List.map_append,List.flatten_append,aMs c f n]
  unfold cJ
  rw [Nat.succ_mul,List.range_add,List.map_append]
  congr 1
  simp only [List.map_cons,List.map_nil,List.flatten_cons,List.flatten_nil,List.append_nil,List.map_map,mJ]
  refine List.map_congr_left λj hj=>?_
  have hj:=List.mem_range.1 hj
  simp only [Function.comp]
  rw [aIV hj,aIW hj]
theorem aKf {l:List (List Int)} (h: ∀ x∈l,x.length≤1024):l.flatten.length≤1024*l.length:=by
 induction l with
 |nil=>simp
 |cons x l ih=>
  have h1:=h x (by simp)
  have h2:=ih λy hy=>h y (by simp [hy])
  simp only [List.flatten_cons,List.length_append,List.length_cons]
  omega
theorem zD {l:List (List Int)} {k:Nat} (hk:k<l.length):(l.take (k+1)).flatten=(l.take k).flatten++l[k]:=by
 rw [List.take_succ_eq_append_getElem hk,List.flatten_append];simp
theorem aRh {l:List (List Int)} (hl:l.length≤512) (h: ∀ x∈l,x.length≤1024):gW l=some l.flatten:=by
 have hb: ∀ k,(l.take k).flatten.length ≤1024*512:=λk=>by
  have:=aKf (l:=l.take k) λx hx=>h x (List.mem_of_mem_take hx)
  have h2:(l.take k).length ≤512:=by simp;omega
  omega
 unfold gW
 rw [eC (r:=(l.flatten.length:Int)) (λk=>(((l.take k).flatten.length:Int),(k:Int))) l.length (by simp) (λk hk=>?_) (λ_=>?_),Option.bind_some]
 ·have e:=hb l.length
  rw [List.take_length] at e
  unfold aOC
  rw [decide_eq_true (by omega),decide_eq_true (by omega:(l.flatten.length:Int)≤1048576),Bool.and_self,cond_true,Option.bind_some]
  rw [eC (r:=l.flatten) (λk=>((l.take k).flatten,(k:Int))) l.length (by simp) (λk hk=>?_) (λ_=>?_),Option.bind_some]
  ·unfold fY
   simp only
   have e2:=hb (k+1)
   rw [zD hk,List.length_append] at e2
   rw [jS hk,cond_true,dU hk,Option.bind_some,decide_eq_true (by omega),cond_true,cC hk (by omega),zD hk]
  ·unfold fY
   simp only
   rw [mR (Nat.le_refl _),cond_false,List.take_length]
 ·unfold fX
  simp only
  have e2:=hb (k+1)
  rw [zD hk,List.length_append] at e2
  rw [jS hk,cond_true,dU hk,Option.bind_some,dX (x:=_+_) (by omega),decide_eq_false (by omega),cond_false,cC hk (by omega),zD hk,List.length_append,Int.natCast_add (List.take k l).flatten.length l[k].length]
 ·unfold fX
  simp only
  rw [mR (Nat.le_refl _),cond_false,List.take_length]
end
noncomputable section
open Go.ChangeShapes Go.WideShapes Go.ChangeAt Go.RowKit
theorem oI:zO Tryz.prog 3 (aAk 1 eI):=aNz Tryz.underlying3
theorem oL:zO Tryz.prog 22 (aAk 1 eL):=aEi Tryz.underlying22 (by decide) (by kernel_rfl) oI
theorem oQ:zO Tryz.prog 24 (aAk 3 eQ):=by
 intro H enc w fuel cs d ps h hf
 obtain ⟨x0,T0,u0⟩:=oP Tryz.underlying24 h hf aId (i:=0) (ft:=3) rfl (k:=1) (by kernel_rfl) oI
 obtain ⟨x1,T1,u1⟩:=oP Tryz.underlying24 h hf u0 (i:=1) (ft:=22) rfl (k:=1) (by kernel_rfl) oL
 obtain ⟨x2,T2,u2⟩:=oP Tryz.underlying24 h hf u1 (i:=2) (ft:=22) rfl (k:=1) (by kernel_rfl) oL
 exact ⟨⟨x0,x1,x2⟩,_,aIe Tryz.underlying24 h hf u2 (by kernel_rfl) _ rfl⟩
theorem oM:zO Tryz.prog 111 (aAk 3 eM):=by
 intro H enc w fuel cs d ps h hf
 obtain ⟨x0,T0,u0⟩:=oP Tryz.underlying111 h hf aId (i:=0) (ft:=3) rfl (k:=1) (by kernel_rfl) oI
 obtain ⟨x1,T1,u1⟩:=oP Tryz.underlying111 h hf u0 (i:=1) (ft:=3) rfl (k:=1) (by kernel_rfl) oI
 obtain ⟨x2,T2,u2⟩:=oP Tryz.underlying111 h hf u1 (i:=2) (ft:=22) rfl (k:=1) (by kernel_rfl) oL
 exact ⟨⟨x0,x1,x2⟩,_,aIe Tryz.underlying111 h hf u2 (by kernel_rfl) _ rfl⟩
theorem oMs:zO Tryz.prog 25 (aAk 1 (λl:List Mt=>[.list 3 (l.map eM)])):=aEi Tryz.underlying25 (by decide) (by kernel_rfl) oM
theorem oR:zO Tryz.prog 27 (aAk 6 eR):=by
 intro H enc w fuel cs d ps h hf
 obtain ⟨x0,T0,u0⟩:=oP Tryz.underlying27 h hf aId (i:=0) (ft:=3) rfl (k:=1) (by kernel_rfl) oI
 obtain ⟨x1,T1,u1⟩:=oP Tryz.underlying27 h hf u0 (i:=1) (ft:=24) rfl (k:=3) (by kernel_rfl) oQ
 obtain ⟨x2,T2,u2⟩:=oP Tryz.underlying27 h hf u1 (i:=2) (ft:=22) rfl (k:=1) (by kernel_rfl) oL
 obtain ⟨x3,T3,u3⟩:=oP Tryz.underlying27 h hf u2 (i:=3) (ft:=25) rfl (k:=1) (by kernel_rfl) oMs
 exact ⟨⟨x0,x1,x2,x3⟩,_,aIe Tryz.underlying27 h hf u3 (by kernel_rfl) _ rfl⟩
end
noncomputable section
theorem aPM {w:World} : ∀ {ds:List AV} {vs:List Value} {S:List Nat},RepVs w ds vs S→ ∀ d∈ds,∃ v S',RepD w d v S'
 | [],_,_,_,d,hd=>by cases hd
 |c::cs,vs,S,h,d,hd=>by
  simp only [RepVs] at h
  obtain ⟨v,r,S1,S2,_,_,h3,h4⟩:=h
  rcases List.mem_cons.1 hd with rfl|h'
  ·exact ⟨v,S1,h3⟩
  ·exact aPM h4 d h'
theorem aPN {w:World} {b:Nat} : ∀ {ds:List AV} {o:Nat} {S:List Nat},RepCs w b o ds S→ ∀ d∈ds,∃ v S',RepD w d v S'
 | [],_,_,_,d,hd=>by cases hd
 |c::cs,o,S,h,d,hd=>by
  simp only [RepCs] at h
  obtain ⟨v,S1,S2,_,_,_,_,h3,h4⟩:=h
  rcases List.mem_cons.1 hd with rfl|h'
  ·exact ⟨v,S1,h3⟩
  ·exact aPN h4 d h'
theorem aPO {w:World} {k b:Nat} : ∀ {es:List (List AV)} {o:Nat} {S:List Nat},RepEs w k b o es S→ ∀ cs∈es,∀ d∈cs,∃ v S',RepD w d v S'
 | [],_,_,_,cs,hc=>by cases hc
 |c::es,o,S,h,cs,hc=>by
  simp only [RepEs] at h
  obtain ⟨S1,S2,_,_,h3,h4⟩:=h
  rcases List.mem_cons.1 hc with rfl|h'
  ·exact aPN h3
  ·exact aPO h4 cs h'
theorem aPP {w:World} {k:Nat} {es:List (List AV)} {v:Value} {S:List Nat} (h:RepD w (.list k es) v S):es.length≤9223372036854775807∧ ∀ cs∈es,∀ d∈cs,∃ v S',RepD w d v S':=by
 unfold RepD at h
 obtain ⟨a,c,_,h2,h3,h4⟩:=h
 have hm:maxLen≤9223372036854775807:=by decide
 refine ⟨by omega,?_⟩
 rcases h4 with ⟨rfl,_⟩|⟨b,o,T,_,_,_,h5⟩
 ·intro cs hcs;cases hcs
 ·exact aPO h5
theorem aTk {w:World} {l:List Int} {v:Value} {S:List Nat} (h:RepD w (aLJ l) v S):fI l:=by
 have:=(aPP (k:=1) (es:=List.map eI l) h).1
 rwa [List.length_map] at this
theorem aLg {w:World} {ds:List AV} (h: ∀ d∈ds,∃ v S',RepD w d v S') {l:List Int} (hl:aLJ l∈ds):fI l:=by
 obtain ⟨v,S,h⟩:=h _ hl
 exact aTk h
theorem aRi {w:World} {ds:List AV} (h: ∀ d∈ds,∃ v S',RepD w d v S') {α:Type} {k:Nat} {e:α→List AV} {l:List α} (hl:AV.list k (l.map e)∈ds):fI l∧ ∀ x∈l,∀ d∈e x,∃ v S',RepD w d v S':=by
 obtain ⟨v,S,h⟩:=h _ hl
 have:=aPP h
 rw [List.length_map] at this
 exact ⟨this.1,λx hx=>this.2 _ (List.mem_map.2 ⟨x,hx,rfl⟩)⟩
theorem aUw {w:World} {m:Mt} (h: ∀ d∈eM m,∃ v S',RepD w d v S'):fM m:=aLg h (by simp [eM])
theorem aUH {w:World} {l:List Mt} {ds:List AV} (h: ∀ d∈ds,∃ v S',RepD w d v S') (hl:AV.list 3 (l.map eM)∈ds):fMs l:=by
 obtain ⟨h1,h2⟩:=aRi h hl
 exact ⟨h1,λm hm=>aUw (h2 m hm)⟩
theorem aUx {w:World} {r:Rp} (h: ∀ d∈eR r,∃ v S',RepD w d v S'):fR r:=⟨⟨aLg h (by simp [eR]),aLg h (by simp [eR])⟩,aLg h (by simp [eR]),aUH h (by simp [eR])⟩
theorem aRj {w0 w:World} {v:Value} {S:List Nat} (h:aLH w (.bl true) v S):Ending.returned v= .returned (.bool true):=by rw [h.1]
end
noncomputable section
set_option maxRecDepth 10000
set_option maxHeartbeats 4000000
def pO (a0:(List (List Int))) (a1:(List (List Int))) (x1:Int):Option (Int ⊕ (Unit ⊕ Bool)):=
 bif decide (x1<(a0.length:Int)) then
 ((cR a0 x1).bind λv3=>
 (cR a1 x1).bind λv4=>
 (jC v3 v4).bind λv5=>
 bif !v5 then
 (some (.inr (.inr (false))))
 else
 (some (.inl (wr (x1+1)))))
 else
 (some (.inr (.inl ())))
def vR (a0:(List (List Int))) (a1:(List (List Int))):Option Bool:=
 bif !decide ((a0.length:Int)=(a1.length:Int)) then
 (some (false))
 else
 ((Lp (pO a0 a1) 0).bind λy7=>
 Sum.elim (λy8=>
 some (true)
 )
 (λy9=>
 some y9
 )
 y7)
theorem aIv (a0:(List (List Int))) (a1:(List (List Int))) (r:Bool) (h:vR a0 a1=some r):HasC Tryz.prog 45 [.list 1 (a0.map (cI 1 eI)),.list 1 (a1.map (cI 1 eI))] (.bl r):=by
 refine aZ aB (rvs:=[.tmp 4]) (ns:=[0,1]) Tryz.func45 k k Tryz.ntmps45 k k k<|sR<|aT k2<|sQ<|sR<|am k k ?_
 refine ln k4<|am k k<|ln k4<|cm k4<|an<|tn ?_
 rcases cb h with ⟨q1,h⟩|⟨q1,h⟩
 ·exact aD k q1<|sR<|aT k2<|aL<|aI<|eZ h k2
 ·refine aH k q1<|aN<|tn<|sQ<|sR<|aT k2<|aM ?_
  refine oB h λy7 hy7 h=>bV (body:=(pO a0 a1)) hy7 (λ(x1:Int)=>bE [(0,.list 1 (a0.map (cI 1 eI))),(1,.list 1 (a1.map (cI 1 eI))),(5,.int x1)] [] 0 [0,1]) (λr e t=>Sum.elim (λa=>(λr e t=>e= .exit 0∧Ent t (bE [] [] 0 [0,1])) a e t) (λb=>(λr e t=>e= .ret∧mA TT [.tmp 4] (.bl r) .ret t) b e t) r) (aA (σ:=sg []) ⟨⟨_,k,⟨k,k⟩⟩,⟨_,k,⟨k,k⟩⟩,(e1 k k),aO⟩ aO k) ?_ ?_
  ·intro x1 o h
   refine sQ<|sR<|am k k<|am k k<|ln k4<|cm k4<|an<|tn ?_
   rcases cb h with ⟨q2,h⟩|⟨q2,h⟩
   ·refine aD k q2<|aN<|tn<|sQ<|aM<|sQ<|bC kB<|am k k<|am k k<|oB h λv3 hv3 h=>ae (aU aB hv3 k k k k k k) k ?_
    refine lr k7<|am k k<|am k k<|oB h λv4 hv4 h=>ae (aU aB hv4 k k k k k k) k<|lr k7<|oB h λv5 hv5 h=>ae (aQ (oS v3 v4 v5 hv5) k (aC (aE k) (aC (aE k) aS))) k<|ae (cO k) k<|an ?_
    refine ⟨by kernel_rfl,?_⟩
    refine tn<|aJ (t:=bE [(0,.list 1 (a0.map (cI 1 eI))),(1,.list 1 (a1.map (cI 1 eI))),(5,.int x1),(26,.bl (!v5))] [] 0 [0,1]) (aA (σ:=sg []) ⟨⟨_,k,⟨k,k⟩⟩,⟨_,k,⟨k,k⟩⟩,(e1 k k),(e1 k k),aO⟩ aO k) ?_
    rcases cb h with ⟨q6,h⟩|⟨q6,h⟩
    ·refine aD k q6<|sR<|aT k2<|aL<|bB<|aI<|aI ?_
     obtain rfl:=so h
     exact ⟨_,k,k,bG k k k (kC k)⟩
    ·refine aH k q6<|aN<|aY<|tn<|rg<|am k k<|ae (bD k k) k<|aT k2 ?_
     obtain rfl:=so h
     exact ⟨_,k,(aA (σ:=sg []) ⟨⟨_,k,⟨k,k⟩⟩,⟨_,k,⟨k,k⟩⟩,(e1 k k),aO⟩ aO k)⟩
   ·refine aH k q2<|bA<|aG<|aG ?_
    obtain rfl:=so h
    exact ⟨_,k,k,(aA (σ:=sg []) aO aO k)⟩
  ·intro e t hX
   rcases y7 with y8|y9
   ·obtain ⟨rfl,hent⟩:=hX
    exact aR<|tn<|aJ hent<|sR<|aT k2<|aL<|eZ h k2
   ·obtain ⟨rfl,hent⟩:=hX
    refine bB<|aI ?_
    obtain rfl:=so h
    exact hent
def vS (a0:Sc) (a1:Sc):Option Bool:=
 bif !decide (a0.size=a1.size) then
 (some (false))
 else
 ((vR a0.basis a1.basis).bind λv2=>
 bif !v2 then
 (some (false))
 else
 (some (true)))
theorem aIw (a0:Sc) (a1:Sc) (r:Bool) (h:vS a0 a1=some r):HasC Tryz.prog 99 [.agg (eS a0),.agg (eS a1)] (.bl r):=by
 refine aZ aB (rvs:=[.tmp 4]) (ns:=[0,1,2,3]) Tryz.func99 k k Tryz.ntmps99 k k k<|sR<|ae (cE k k k k) k<|ae (cE k k k k) k<|aT k2<|sQ<|sQ ?_
 refine rg<|fp k8<|lp k8<|fp k8<|lp k8<|cm k4<|an<|tn ?_
 rcases cb h with ⟨q1,h⟩|⟨q1,h⟩
 ·exact aD k q1<|sR<|aT k2<|aL<|aI<|eZ h k2
 ·refine aH k q1<|aN<|tn<|sQ<|sR<|fp k8<|lp k8<|fp k8<|lp k8 ?_
  refine oB h λv2 hv2 h=>ae (aQ (aIv a0.basis a1.basis v2 hv2) k (aC (aE k) (aC (aE k) aS))) k<|ae (cO k) k<|an<|tn<|aJ (t:=bE [(15,.bl (!v2))] [] 2 [2,3]) (aA (σ:=sg []) (bP k2) aO k) ?_
  rcases cb h with ⟨q3,h⟩|⟨q3,h⟩
  ·exact aD k q3<|sR<|aT k2<|aL<|aI<|eZ h k2
  ·exact aH k q3<|aN<|tn<|sR<|aT k2<|aL<|eZ h k2
def nH (a0:(List Sc)) (a1:(List Sc)) (x1:Int):Option (Int ⊕ (Unit ⊕ Bool)):=
 bif decide (x1<(a0.length:Int)) then
 ((cR a0 x1).bind λv3=>
 (cR a1 x1).bind λv4=>
 (vS v3 v4).bind λv5=>
 bif !v5 then
 (some (.inr (.inr (false))))
 else
 (some (.inl (wr (x1+1)))))
 else
 (some (.inr (.inl ())))
def kI (a0:(List Sc)) (a1:(List Sc)):Option Bool:=
 bif !decide ((a0.length:Int)=(a1.length:Int)) then
 (some (false))
 else
 ((Lp (nH a0 a1) 0).bind λy7=>
 Sum.elim (λy8=>
 some (true)
 )
 (λy9=>
 some y9
 )
 y7)
theorem yC (a0:(List Sc)) (a1:(List Sc)) (r:Bool) (h:kI a0 a1=some r):HasC Tryz.prog 40 [.list 2 (a0.map eS),.list 2 (a1.map eS)] (.bl r):=by
 refine aZ aB (rvs:=[.tmp 4]) (ns:=[0,1]) Tryz.func40 k k Tryz.ntmps40 k k k<|sR<|aT k2<|sQ<|sR<|am k k ?_
 refine ln k4<|am k k<|ln k4<|cm k4<|an<|tn ?_
 rcases cb h with ⟨q1,h⟩|⟨q1,h⟩
 ·exact aD k q1<|sR<|aT k2<|aL<|aI<|eZ h k2
 ·refine aH k q1<|aN<|tn<|sQ<|sR<|aT k2<|aM ?_
  refine oB h λy7 hy7 h=>bV (body:=(nH a0 a1)) hy7 (λ(x1:Int)=>bE [(0,.list 2 (a0.map eS)),(1,.list 2 (a1.map eS)),(5,.int x1)] [] 0 [0,1]) (λr e t=>Sum.elim (λa=>(λr e t=>e= .exit 0∧Ent t (bE [] [] 0 [0,1])) a e t) (λb=>(λr e t=>e= .ret∧mA TT [.tmp 4] (.bl r) .ret t) b e t) r) (aA (σ:=sg []) ⟨⟨_,k,⟨k,k⟩⟩,⟨_,k,⟨k,k⟩⟩,(e1 k k),aO⟩ aO k) ?_ ?_
  ·intro x1 o h
   refine sQ<|sR<|am k k<|am k k<|ln k4<|cm k4<|an<|tn ?_
   rcases cb h with ⟨q2,h⟩|⟨q2,h⟩
   ·refine aD k q2<|aN<|tn<|sQ<|aM<|sQ<|bC kB<|am k k<|am k k<|oB h λv3 hv3 h=>ae (aU aB hv3 k k k k k k) k ?_
    refine lr k7<|am k k<|am k k<|oB h λv4 hv4 h=>ae (aU aB hv4 k k k k k k) k<|lr k7<|oB h λv5 hv5 h=>ae (aQ (aIw v3 v4 v5 hv5) k (aC (vC k) (aC (vC k) aS))) k<|ae (cO k) k<|an ?_
    refine ⟨by kernel_rfl,?_⟩
    refine tn<|aJ (t:=bE [(0,.list 2 (a0.map eS)),(1,.list 2 (a1.map eS)),(5,.int x1),(26,.bl (!v5))] [] 0 [0,1]) (aA (σ:=sg []) ⟨⟨_,k,⟨k,k⟩⟩,⟨_,k,⟨k,k⟩⟩,(e1 k k),(e1 k k),aO⟩ aO k) ?_
    rcases cb h with ⟨q6,h⟩|⟨q6,h⟩
    ·refine aD k q6<|sR<|aT k2<|aL<|bB<|aI<|aI ?_
     obtain rfl:=so h
     exact ⟨_,k,k,bG k k k (kC k)⟩
    ·refine aH k q6<|aN<|aY<|tn<|rg<|am k k<|ae (bD k k) k<|aT k2 ?_
     obtain rfl:=so h
     exact ⟨_,k,(aA (σ:=sg []) ⟨⟨_,k,⟨k,k⟩⟩,⟨_,k,⟨k,k⟩⟩,(e1 k k),aO⟩ aO k)⟩
   ·refine aH k q2<|bA<|aG<|aG ?_
    obtain rfl:=so h
    exact ⟨_,k,k,(aA (σ:=sg []) aO aO k)⟩
  ·intro e t hX
   rcases y7 with y8|y9
   ·obtain ⟨rfl,hent⟩:=hX
    exact aR<|tn<|aJ hent<|sR<|aT k2<|aL<|eZ h k2
   ·obtain ⟨rfl,hent⟩:=hX
    refine bB<|aI ?_
    obtain rfl:=so h
    exact hent
end
noncomputable section
theorem aUy {a b:List (List Int)} (h:a.length≤1048576∧ ∀ m∈a,bI m):vR a b=some (decide (a=b)):=by
 obtain ⟨h,hb⟩:=h
 unfold vR
 rw [zU]
 by_cases e:a.length=b.length
 ·rw [decide_eq_true e,Bool.not_true,cond_false]
  refine aBJ (by omega) e (λk h1 h2=>?_) ?_
  ·unfold pO
   rw [jS h1,cond_true,dU h1,Option.bind_some,dU h2,Option.bind_some,aPz (hb _ (List.getElem_mem h1)),Option.bind_some]
   cases decide (a[k]=b[k]) <;> rfl
  ·unfold pO
   rw [mR (Nat.le_refl _),cond_false]
 ·rw [decide_eq_false e,Bool.not_false,cond_true,decide_eq_false (by rintro rfl;exact e rfl)]
theorem aVk {a b:Sc} (h:bS a):vS a b=some (decide (a=b)):=by
 unfold vS
 rw [fV (d:=decide (a.basis=b.basis)) (λ_=>?_)]
 ·cases a;cases b;simp
 ·rw [aUy h.1,Option.bind_some,aHp]
theorem aUz {a b:List Sc} (h:a.length≤1048576∧ ∀ m∈a,bS m):kI a b=some (decide (a=b)):=by
 obtain ⟨h,hb⟩:=h
 unfold kI
 rw [zU]
 by_cases e:a.length=b.length
 ·rw [decide_eq_true e,Bool.not_true,cond_false]
  refine aBJ (by omega) e (λk h1 h2=>?_) ?_
  ·unfold nH
   rw [jS h1,cond_true,dU h1,Option.bind_some,dU h2,Option.bind_some,aVk (hb _ (List.getElem_mem h1)),Option.bind_some]
   cases decide (a[k]=b[k]) <;> rfl
  ·unfold nH
   rw [mR (Nat.le_refl _),cond_false]
 ·rw [decide_eq_false e,Bool.not_false,cond_true,decide_eq_false (by rintro rfl;exact e rfl)]
end
noncomputable section
set_option maxRecDepth 10000
set_option maxHeartbeats 4000000
def tN (a0:Int) (a1:(List (List Int))):Option Mt:=
 (gW a1).bind λv1=>
 some ((⟨(a1.length:Int),a0,v1⟩:Mt))
theorem aHP (a0:Int) (a1:(List (List Int))) (r:Mt) (h:tN a0 a1=some r):HasC Tryz.prog 260 [.int a0,.list 1 (a1.map (cI 1 eI))] (.agg (eM r)):=by
 refine aZ aB (rvs:=[.cell 4 113]) (ns:=[0,1,2,3]) Tryz.func260 k k Tryz.ntmps260 k k k<|sR<|ae (cF aB k k) k<|an<|tn<|sR<|am k k<|ln k4 ?_
 refine am k k<|am k k<|oB h λv1 hv1 h=>ae (cL cW (aAm a1 v1 hv1) k3 (aC (aE k) aS)) k<|ae (jR aB k k k k k k) k<|ae (bO aB k k k k k k k k) k<|an<|tn<|aL ?_
 obtain rfl:=so h
 exact bG k k k (sD (bN (k) (bN (k) (bN (iV cW k k) gZ))))
def vT (v2:(Mt×(List Int))) (x1:((List (List Int))×Int)):Option (((List (List Int))×Int) ⊕ (List (List Int))):=
 bif decide (x1.2<((v2.2.length:Nat):Int)) then
 ((cX v2.1 x1.2).bind λv4=>
 (vK ((v2.1.cells.drop (0+(wr (x1.2*v2.1.cols)).toNat)).take ((wr ((wr (x1.2+1))*v2.1.cols)).toNat - (wr (x1.2*v2.1.cols)).toNat))).bind λv5=>
 bif decide (x1.1.length+1≤4294967296) then
 (some (.inl ((x1.1++[v5]),wr (x1.2+1))))
 else none)
 else
 (some (.inr x1.1))
def xT (a0:Int) (a1:Int) (a2:(List (List Int))):Option Sc:=
 (tN a1 a2).bind λv1=>
 (xH a0 v1).bind λv2=>
 (Lp (vT v2) ([],0)).bind λy7=>
 some ((⟨a1,y7⟩:Sc))
theorem aGq (a0:Int) (a1:Int) (a2:(List (List Int))) (r:Sc) (h:xT a0 a1 a2=some r):HasC Tryz.prog 233 [.int a0,.int a1,.list 1 (a2.map (cI 1 eI))] (.agg (eS r)):=by
 refine aZ aB (rvs:=[.cell 6 99]) (ns:=[0,1,2,3,4,5,6,7,8]) Tryz.func233 k k Tryz.ntmps233 k k k<|sR<|ae (cF aB k k) k<|an<|tn<|sR<|am k k<|am k k ?_
 refine am k k<|oB h λv1 hv1 h=>ae (cM (aHP a1 a2 v1 hv1) k3 (aC (aE k) (aC (aE k) aS))) k<|oB h λv2 hv2 h=>ae (AEff.conv (sY (x:= .tuple [.agg [.int v2.1.rows,.int v2.1.cols,.own 2 0 (v2.1.cells.map eI).length],.own 3 0 (v2.2.map eI).length]) (nb:=[(2,⟨1,dE (v2.1.cells.map eI)⟩),(3,⟨1,dE (v2.2.map eI)⟩)]) (aJl a0 v1 v2 hv2) k (by rfl) k k (iK (fW aO (fW aO (fW (cW.good _) aCD))) (iK (cW.good _) aAi)) (aC (aE k) (aC (pH (bX (dZ k) (bX (dZ k) (bX (oX cW k k) mY)))) aS))) (v':= .tuple [.agg [.int v2.1.rows,.int v2.1.cols,.own 2 0 v2.1.cells.length],.own 3 0 v2.2.length]) (ed':=[(2,some ⟨1,v2.1.cells.map (ow eI)⟩),(3,some ⟨1,v2.2.map (ow eI)⟩)]) (by simp only [aX]) (aAT (nb':=[(2,⟨1,v2.1.cells.map (ow eI)⟩),(3,⟨1,v2.2.map (ow eI)⟩)]) (by simp only [iX]))) k<|am k k<|ae (cD k k (by intro _ h;cases h)) k ?_
 refine ae (cD k k (by intro _ h;cases h)) k<|ae (cF aB k k) k<|ae (bO aB k k k k k k k k) k<|aT k2<|aJ (t:=bE [(1,.int a1),(6,.ptr 0 0 0),(7,.ptr 4 0 0),(8,.own 3 0 v2.2.length)] [(0,⟨2,[[.int 0,.nil 1]]⟩),(2,⟨1,v2.1.cells.map (ow eI)⟩),(3,⟨1,v2.2.map (ow eI)⟩),(4,⟨3,[[.int v2.1.rows,.int v2.1.cols,.own 2 0 v2.1.cells.length]]⟩)] 5 [5,6,7,8]) (aA (σ:=sg [(0,0),(2,2),(3,3),(4,4)]) (bP k2) (hP k k k k<|hI k k k<|hI k k k<|hX ⟨_,k,k,.inr ⟨_,_,k,⟨_,_,k,k,⟨_,_,k,k,⟨_,_,k,⟨k,k,k,k⟩,k⟩⟩⟩,k⟩⟩ k<|aO) k)<|sR<|aa k k ?_
 refine an<|tn<|sQ<|sR<|am k k<|ae (cT aB k k k k) k<|am k k<|an<|tn ?_
 refine aM<|oB h λy7 hy7 h=>bV (body:=(vT v2)) hy7 (λ(x1:((List (List Int))×Int))=>bE [(1,.int a1),(6,.ptr 0 0 0),(7,.ptr 1 0 0),(9,.own 3 0 x1.1.length),(20,.int ((v2.2.length:Nat):Int)),(21,.int x1.2)] [(0,⟨2,[[.int 0,.nil 1]]⟩),(1,⟨3,[[.int v2.1.rows,.int v2.1.cols,.own 2 0 v2.1.cells.length]]⟩),(2,⟨1,v2.1.cells.map (ow eI)⟩),(3,⟨1,x1.1.map (ow (cI 1 eI))⟩)] 4 [4,5,6,7,8]) (λr e t=>e= .exit 0∧Ent t (bE [(1,.int a1),(6,.ptr 0 0 0),(9,.own 1 0 r.length)] [(0,⟨2,[[.int 0,.nil 1]]⟩),(1,⟨1,r.map (ow (cI 1 eI))⟩)] 2 [2,3,4,5,6,7,8])) (aA (σ:=sg [(0,0),(1,4),(2,2)]) ⟨(e1 k k),(pE k k),(pE k k),⟨_,k,⟨k,k,k,k⟩⟩,(e1 k k),(e1 k k),aO⟩ (hP k k k k<|hX ⟨_,k,k,.inr ⟨_,_,k,⟨_,_,k,k,⟨_,_,k,k,⟨_,_,k,⟨k,k,k,k⟩,k⟩⟩⟩,k⟩⟩ k<|hI k k k<|hX k k<|aO) k) ?_ ?_
 ·intro x1 o h
  refine sR<|cm k4<|an<|tn<|sQ ?_
  rcases cb h with ⟨q3,h⟩|⟨q3,h⟩
  ·refine aD k q3<|aN<|tn<|sQ<|aM<|sR<|am k k<|aa k k<|an ?_
   refine tn<|rg<|am k k<|lp k8<|am k k<|oB h λv4 hv4 h=>ae (AEff.pureE (fU (σ:=sg [(0,2)]) (σ':=sg [(2,0)]) (touch:=[2]) (news:=[]) (hl2:=[(2,⟨1,v2.1.cells.map (ow eI)⟩)]) (n':=4) (r2:= .own 2 (0+(wr (x1.2*v2.1.cols)).toNat) ((wr ((wr (x1.2+1))*v2.1.cols)).toNat - (wr (x1.2*v2.1.cols)).toNat)) (eD v2.1 x1.2 v4 hv4) k k ⟨_,_,k,⟨_,_,k,k,⟨_,_,k,k,⟨_,_,k,⟨k,k,k,k⟩,k⟩⟩⟩,⟨_,_,k,k,k⟩⟩ ⟨⟨_,k,k,.inl ⟨k,cW.plainO _⟩⟩,k,aO⟩ k k k ⟨⟨_,k,k,.inl ⟨k,cW.plainO _⟩⟩,k,aO⟩ k ⟨k,k,(by simp only [aX,lA,lT,lR,lC,lN]),k⟩ k ⟨k,cW.tame _ _,aO⟩ k k) ⟨k,k,aO⟩) k<|oB h λv5 hv5 h=>ae (cL cW (aEj ((v2.1.cells.drop (0+(wr (x1.2*v2.1.cols)).toNat)).take ((wr ((wr (x1.2+1))*v2.1.cols)).toNat - (wr (x1.2*v2.1.cols)).toNat)) v5 hv5) k3 (aC (aSv cW k) aS)) k<|ae (dW aB k k k k k k k k k k k k) k ?_
   obtain ⟨q6,h⟩:=cg h
   refine ae (vJ aB (l:=x1.1) (c:=[.own 4 0 v5.length]) q6 k k k k k k k k k k k k k k) k<|aa k k<|an<|aY<|tn<|aJ (t:=bE [(1,.int a1),(6,.ptr 0 0 0),(7,.ptr 1 0 0),(9,.own 6 0 ((x1.1++[v5]).length)),(20,.int ((v2.2.length:Nat):Int)),(21,.int x1.2)] [(0,⟨2,[[.int 0,.nil 1]]⟩),(1,⟨3,[[.int v2.1.rows,.int v2.1.cols,.own 2 0 v2.1.cells.length]]⟩),(2,⟨1,v2.1.cells.map (ow eI)⟩),(6,⟨1,List.map (ow (cI 1 eI)) (x1.1++[v5])⟩)] 7 [7,8]) (Ent.trans (vI (b:=6) (b':=4) (j:=0) (es':=v5.map eI) k k k k (aX _ _) (cW.frzs _)) (aA (σ:=sg [(0,0),(1,1),(2,2),(6,6)]) ⟨(e1 k k),(pE k k),(pE k k),⟨_,k,⟨k,k,(by simp only [aX,lA,lT,lR,lC,lN]),k⟩⟩,(e1 k k),(e1 k k),aO⟩ (hP k k k k<|hX ⟨_,k,k,.inr ⟨_,_,k,⟨_,_,k,k,⟨_,_,k,k,⟨_,_,k,⟨k,k,k,k⟩,k⟩⟩⟩,k⟩⟩ k<|hI k k k<|hX ⟨_,k,k,.inl ⟨aAj v5 k,bK.plainO _⟩⟩ k<|aO) k))<|rg<|ae (bD k k) k<|am k k<|an ?_
   refine tn ?_
   obtain rfl:=so h
   exact ⟨_,k,(aA (σ:=sg [(0,0),(1,1),(2,2),(3,6)]) (bP k2) (hP k k k k<|hX ⟨_,k,k,.inr ⟨_,_,k,⟨_,_,k,k,⟨_,_,k,k,⟨_,_,k,⟨k,k,k,k⟩,k⟩⟩⟩,k⟩⟩ k<|hI k k k<|hB (bK.plainO _) k k k<|aO) k)⟩
  ·refine aH k q3<|bA<|aG<|aG ?_
   obtain rfl:=so h
   exact ⟨_,k,k,(aA (σ:=sg [(0,0),(1,3)]) (bP k2) (hP k k k k<|hB (bK.plainO _) k k k<|aO) k)⟩
 ·rintro e t ⟨rfl,hent⟩
  refine aR<|tn<|aJ hent<|sR<|am k k<|am k k<|ae (jR aB k k k k k k) k<|ae (bO aB k k k k k k k k) k<|an ?_
  refine tn<|aL ?_
  obtain rfl:=so h
  exact bG k k k (sD (bN (k) (bN (iV bK k k) gZ)))
def rR (a1:(List (List Int))) (x1:((List Int)×Int)):Option (((List Int)×Int) ⊕ (List Int)):=
 bif decide (x1.2<(a1.length:Int)) then
 ((cR a1 x1.2).bind λv2=>
 bif decide (x1.1.length+v2.length≤4294967296) then
 (some (.inl ((x1.1++v2),wr (x1.2+1))))
 else none)
 else
 (some (.inr x1.1))
def lH (a0:Int) (a1:(List (List Int))):Option Mt:=
 (Lp (rR a1) ([],0)).bind λy4=>
 some ((⟨(a1.length:Int),a0,y4⟩:Mt))
theorem aDW (a0:Int) (a1:(List (List Int))) (r:Mt) (h:lH a0 a1=some r):HasC Tryz.prog 157 [.int a0,.list 1 (a1.map (cI 1 eI))] (.agg (eM r)):=by
 refine aZ aB (rvs:=[.cell 4 113]) (ns:=[0,1,2,3,4,5]) Tryz.func157 k k Tryz.ntmps157 k k k<|sR<|ae (cF aB k k) k<|an<|tn<|sR<|am k k<|ln k4 ?_
 refine am k k<|ae (jR aB k k k k k k) k<|ae (cF aB k k) k<|ae (bO aB k k k k k k k k) k<|an<|tn<|sQ<|sR<|aa k k ?_
 refine an<|tn<|aM<|oB h λy4 hy4 h=>bV (body:=(rR a1)) hy4 (λ(x1:((List Int)×Int))=>bE [(1,.list 1 (a1.map (cI 1 eI))),(4,.ptr 0 0 0),(5,.ptr 1 0 0),(6,.int x1.2)] [(0,⟨3,[[.int 0,.int 0,.nil 1]]⟩),(1,⟨3,[[.int (a1.length:Int),.int a0,.own 2 0 x1.1.length]]⟩),(2,⟨1,x1.1.map (ow eI)⟩)] 3 [3,4,5]) (λr e t=>e= .exit 0∧Ent t (bE [(4,.ptr 0 0 0),(5,.ptr 1 0 0)] [(0,⟨3,[[.int 0,.int 0,.nil 1]]⟩),(1,⟨3,[[.int (a1.length:Int),.int a0,.own 2 0 r.length]]⟩),(2,⟨1,r.map (ow eI)⟩)] 3 [3,4,5])) (aA (σ:=sg [(0,0),(1,1)]) ⟨⟨_,k,⟨k,k⟩⟩,(pE k k),(pE k k),(e1 k k),aO⟩ (hP k k k k<|hX ⟨_,k,k,.inr ⟨_,_,k,⟨_,_,k,k,⟨_,_,k,k,⟨_,_,k,⟨k,k,k,k⟩,k⟩⟩⟩,k⟩⟩ k<|hX k k<|aO) k) ?_ ?_
 ·intro x1 o h
  refine sQ<|sR<|am k k<|am k k<|ln k4<|cm k4<|an<|tn ?_
  rcases cb h with ⟨q1,h⟩|⟨q1,h⟩
  ·refine aD k q1<|aN<|tn<|sQ<|aM<|bC kB<|fp k8<|lp k8<|am k k<|am k k ?_
   refine oB h λv2 hv2 h=>ae (aU aB hv2 k k k k k k) k<|lr k7 ?_
   obtain ⟨q3,h⟩:=cg h
   refine ae (wM aB (l:=x1.1) (m:=v2) uH q3 k k k k k k k k k k k k) k<|fp k8<|ae (bO aB k k k k k k k k) k<|an ?_
   refine ⟨by kernel_rfl,?_⟩
   refine aY<|tn<|aJ (t:=bE [(1,.list 1 (a1.map (cI 1 eI))),(4,.ptr 0 0 0),(5,.ptr 1 0 0),(6,.int x1.2)] [(0,⟨3,[[.int 0,.int 0,.nil 1]]⟩),(1,⟨3,[[.int (a1.length:Int),.int a0,.own 3 0 ((x1.1++v2).length)]]⟩),(3,⟨1,List.map (ow eI) (x1.1++v2)⟩)] 4 [4,5]) (aA (σ:=sg [(0,0),(1,1),(3,3)]) ⟨⟨_,k,⟨k,k⟩⟩,(pE k k),(pE k k),(e1 k k),aO⟩ (hP k k k k<|hX ⟨_,k,k,.inr ⟨_,_,k,⟨_,_,k,k,⟨_,_,k,k,⟨_,_,k,⟨k,k,k,k⟩,k⟩⟩⟩,k⟩⟩ k<|hI k k k<|aO) k)<|rg<|am k k<|ae (bD k k) k<|aT k2 ?_
   obtain rfl:=so h
   exact ⟨_,k,(aA (σ:=sg [(0,0),(1,1),(2,3)]) ⟨⟨_,k,⟨k,k⟩⟩,(pE k k),(pE k k),(e1 k k),aO⟩ (hP k k k k<|hX ⟨_,k,k,.inr ⟨_,_,k,⟨_,_,k,k,⟨_,_,k,k,⟨_,_,k,⟨k,k,k,k⟩,k⟩⟩⟩,k⟩⟩ k<|hI k k k<|aO) k)⟩
  ·refine aH k q1<|bA<|aG<|aG ?_
   obtain rfl:=so h
   exact ⟨_,k,k,(aA (σ:=sg [(0,0),(1,1),(2,2)]) (bP k2) (hP k k k k<|hX ⟨_,k,k,.inr ⟨_,_,k,⟨_,_,k,k,⟨_,_,k,k,⟨_,_,k,⟨k,k,k,k⟩,k⟩⟩⟩,k⟩⟩ k<|hI k k k<|aO) k)⟩
 ·rintro e t ⟨rfl,hent⟩
  refine aR<|tn<|aJ hent<|sR<|lp k8<|ae (bO aB k k k k k k k k) k<|an<|tn<|aL ?_
  obtain rfl:=so h
  exact bG k k k (sD (bN (k) (bN (k) (bN (iV cW k k) gZ))))
def pP (v1:(Mt×(List Int))) (x1:((List (List Int))×Int)):Option (((List (List Int))×Int) ⊕ (List (List Int))):=
 bif decide (x1.2<((v1.2.length:Nat):Int)) then
 (bif (decide (0≤wr (x1.2*v1.1.cols))&&(decide (wr (x1.2*v1.1.cols)≤wr ((wr (x1.2*v1.1.cols))+v1.1.cols))&&decide (wr ((wr (x1.2*v1.1.cols))+v1.1.cols)≤((v1.1.cells.length:Nat):Int)))) then
 (bif decide (([]:(List Int)).length +((v1.1.cells.drop (0+(wr (x1.2*v1.1.cols)).toNat)).take ((wr ((wr (x1.2*v1.1.cols))+v1.1.cols)).toNat - (wr (x1.2*v1.1.cols)).toNat)).length ≤4294967296) then
 (bif decide (x1.1.length+1≤4294967296) then
 (some (.inl ((x1.1++[(([]:(List Int))++((v1.1.cells.drop (0+(wr (x1.2*v1.1.cols)).toNat)).take ((wr ((wr (x1.2*v1.1.cols))+v1.1.cols)).toNat - (wr (x1.2*v1.1.cols)).toNat)))]),wr (x1.2+1))))
 else none)
 else none)
 else none)
 else
 (some (.inr x1.1))
def jM (a0:Int) (a1:Mt):Option (List (List Int)):=
 (kH a0 a1).bind λv1=>
 (Lp (pP v1) (([]:(List (List Int))),0)).bind λy6=>
 some (y6)
theorem aCP (a0:Int) (a1:Mt) (r:(List (List Int))) (h:jM a0 a1=some r):HasC Tryz.prog 182 [.int a0,.agg (eM a1)] (.list 1 (r.map (cI 1 eI))):=by
 refine aZ aB (rvs:=[.tmp 4]) (ns:=[0,1,2,3,4,5,6,7,8,9]) Tryz.func182 k k Tryz.ntmps182 k k k<|sR<|ae (cE k k k k) k<|aT k2<|sR<|am k k ?_
 refine lp k8<|oB h λv1 hv1 h=>ae (AEff.conv (sY (x:= .tuple [.agg [.int v1.1.rows,.int v1.1.cols,.own 1 0 (v1.1.cells.map eI).length],.own 2 0 (v1.2.map eI).length]) (nb:=[(1,⟨1,dE (v1.1.cells.map eI)⟩),(2,⟨1,dE (v1.2.map eI)⟩)]) (aHD a0 a1 v1 hv1) k (by rfl) k k (iK (fW aO (fW aO (fW (cW.good _) aCD))) (iK (cW.good _) aAi)) (aC (aE k) (aC (vC k) aS))) (v':= .tuple [.agg [.int v1.1.rows,.int v1.1.cols,.own 1 0 v1.1.cells.length],.own 2 0 v1.2.length]) (ed':=[(1,some ⟨1,v1.1.cells.map (ow eI)⟩),(2,some ⟨1,v1.2.map (ow eI)⟩)]) (by simp only [aX]) (aAT (nb':=[(1,⟨1,v1.1.cells.map (ow eI)⟩),(2,⟨1,v1.2.map (ow eI)⟩)]) (by simp only [iX]))) k<|am k k<|ae (cD k k (by intro _ h;cases h)) k<|ae (cD k k (by intro _ h;cases h)) k<|ae (cF aB k k) k<|ae (bO aB k k k k k k k k) k<|aT k2 ?_
 refine sR<|ae (dW aB k k k k k k k k k k k k) k<|aT k2<|aJ (t:=bE [(5,.ptr 3 0 0),(6,.own 2 0 v1.2.length),(7,.own 4 0 (([]:(List (List Int))).length))] [(1,⟨1,v1.1.cells.map (ow eI)⟩),(2,⟨1,v1.2.map (ow eI)⟩),(3,⟨3,[[.int v1.1.rows,.int v1.1.cols,.own 1 0 v1.1.cells.length]]⟩),(4,⟨1,List.map (ow (cI 1 eI)) ([]:(List (List Int)))⟩)] 5 [5,6,7,8,9]) (aA (σ:=sg [(1,1),(2,2),(3,3),(4,4)]) ⟨(pE k k),(oE k k),⟨_,k,⟨k,k,(by simp only [aX,lA,lT,lR,lC,lN]),k⟩⟩,aO⟩ (hI k k k<|hI k k k<|hX ⟨_,k,k,.inr ⟨_,_,k,⟨_,_,k,k,⟨_,_,k,k,⟨_,_,k,⟨k,k,k,k⟩,k⟩⟩⟩,k⟩⟩ k<|hB (bK.plainO _) k k k<|aO) k)<|sQ<|sR ?_
 refine aT k2<|aM<|oB h λy6 hy6 h=>bV (body:=(pP v1)) hy6 (λ(x1:((List (List Int))×Int))=>bE [(5,.ptr 0 0 0),(6,.own 2 0 v1.2.length),(7,.own 3 0 x1.1.length),(8,.int x1.2)] [(0,⟨3,[[.int v1.1.rows,.int v1.1.cols,.own 1 0 v1.1.cells.length]]⟩),(1,⟨1,v1.1.cells.map (ow eI)⟩),(2,⟨1,v1.2.map (ow eI)⟩),(3,⟨1,x1.1.map (ow (cI 1 eI))⟩)] 4 [4,5,6,7,8,9]) (λr e t=>e= .exit 0∧Ent t (bE [(7,.own 0 0 r.length)] [(0,⟨1,r.map (ow (cI 1 eI))⟩)] 1 [1,2,3,4,5,6,7,8,9])) (aA (σ:=sg [(0,3),(1,1),(2,2),(3,4)]) (bP k2) (hX ⟨_,k,k,.inr ⟨_,_,k,⟨_,_,k,k,⟨_,_,k,k,⟨_,_,k,⟨k,k,k,k⟩,k⟩⟩⟩,k⟩⟩ k<|hI k k k<|hI k k k<|hB (bK.plainO _) k k k<|aO) k) ?_ ?_
 ·intro x1 o h
  refine sQ<|sR<|am k k<|am k k<|ae (cT aB k k k k) k<|cm k4<|an<|tn ?_
  rcases cb h with ⟨q2,h⟩|⟨q2,h⟩
  ·refine aD k q2<|aN<|tn<|sQ<|aM<|rg<|am k k<|ae (dW aB k k k k k k k k k k k k) k<|fp k8<|lp k8 ?_
   refine am k k<|fp k8<|lp k8<|ae (fD k k) k<|am k k<|fp k8<|lp k8<|ae (fD k k) k<|fp k8<|lp k8 ?_
   refine ae (bD k k) k ?_
   obtain ⟨q3,h⟩:=cg h
   refine ae (aAV aB (l:=wr (x1.2*v1.1.cols)) (h:=wr ((wr (x1.2*v1.1.cols))+v1.1.cols)) q3 k k k k k k k k) k ?_
   obtain ⟨q4,h⟩:=cg h
   refine ae (wM aB (l:=([]:(List Int))) (m:=((v1.1.cells.drop (0+(wr (x1.2*v1.1.cols)).toNat)).take ((wr ((wr (x1.2*v1.1.cols))+v1.1.cols)).toNat - (wr (x1.2*v1.1.cols)).toNat))) uH q4 k k k k k (aRZ cW k) k k k k k k) k<|ae (dW aB k k k k k k k k k k k k) k ?_
   obtain ⟨q5,h⟩:=cg h
   refine ae (vJ aB (l:=x1.1) (c:=[.own 5 0 ((([]:(List Int))++((v1.1.cells.drop (0+(wr (x1.2*v1.1.cols)).toNat)).take ((wr ((wr (x1.2*v1.1.cols))+v1.1.cols)).toNat - (wr (x1.2*v1.1.cols)).toNat))).length)]) q5 k k k k k k k k k k k k k k) k<|aa k k<|an<|aY<|tn<|aJ (t:=bE [(5,.ptr 0 0 0),(6,.own 2 0 v1.2.length),(7,.own 7 0 ((x1.1++[(([]:(List Int))++((v1.1.cells.drop (0+(wr (x1.2*v1.1.cols)).toNat)).take ((wr ((wr (x1.2*v1.1.cols))+v1.1.cols)).toNat - (wr (x1.2*v1.1.cols)).toNat)))]).length)),(8,.int x1.2)] [(0,⟨3,[[.int v1.1.rows,.int v1.1.cols,.own 1 0 v1.1.cells.length]]⟩),(1,⟨1,v1.1.cells.map (ow eI)⟩),(2,⟨1,v1.2.map (ow eI)⟩),(7,⟨1,List.map (ow (cI 1 eI)) (x1.1++[(([]:(List Int))++((v1.1.cells.drop (0+(wr (x1.2*v1.1.cols)).toNat)).take ((wr ((wr (x1.2*v1.1.cols))+v1.1.cols)).toNat - (wr (x1.2*v1.1.cols)).toNat)))])⟩)] 8 [8,9]) (Ent.trans (vI (b:=7) (b':=5) (j:=0) (es':=List.map eI (([]:(List Int))++((v1.1.cells.drop (0+(wr (x1.2*v1.1.cols)).toNat)).take ((wr ((wr (x1.2*v1.1.cols))+v1.1.cols)).toNat - (wr (x1.2*v1.1.cols)).toNat)))) k k k k (aX _ _) (cW.frzs _)) (aA (σ:=sg [(0,0),(1,1),(2,2),(7,7)]) ⟨(pE k k),(oE k k),⟨_,k,⟨k,k,(by simp only [aX,lA,lT,lR,lC,lN]),k⟩⟩,(e1 k k),aO⟩ (hX ⟨_,k,k,.inr ⟨_,_,k,⟨_,_,k,k,⟨_,_,k,k,⟨_,_,k,⟨k,k,k,k⟩,k⟩⟩⟩,k⟩⟩ k<|hI k k k<|hI k k k<|hX ⟨_,k,k,.inl ⟨aAj (([]:(List Int))++((v1.1.cells.drop (0+(wr (x1.2*v1.1.cols)).toNat)).take ((wr ((wr (x1.2*v1.1.cols))+v1.1.cols)).toNat - (wr (x1.2*v1.1.cols)).toNat))) k,bK.plainO _⟩⟩ k<|aO) k)) ?_
   refine rg<|am k k<|ae (bD k k) k<|aT k2 ?_
   obtain rfl:=so h
   exact ⟨_,k,(aA (σ:=sg [(0,0),(1,1),(2,2),(3,7)]) (bP k2) (hX ⟨_,k,k,.inr ⟨_,_,k,⟨_,_,k,k,⟨_,_,k,k,⟨_,_,k,⟨k,k,k,k⟩,k⟩⟩⟩,k⟩⟩ k<|hI k k k<|hI k k k<|hB (bK.plainO _) k k k<|aO) k)⟩
  ·refine aH k q2<|bA<|aG<|aG ?_
   obtain rfl:=so h
   exact ⟨_,k,k,(aA (σ:=sg [(0,3)]) (bP k2) (hB (bK.plainO _) k k k<|aO) k)⟩
 ·rintro e t ⟨rfl,hent⟩
  refine aR<|tn<|aJ hent<|sR<|am k k<|aT k2<|aL ?_
  obtain rfl:=so h
  exact bG k k k (mZ (iV bK k k))
def sK (a0:Int) (a1:Int) (a2:(List (List Int))):Option Sc:=
 (lH a1 a2).bind λv1=>
 (jM a0 v1).bind λv2=>
 some ((⟨a1,v2⟩:Sc))
theorem aDX (a0:Int) (a1:Int) (a2:(List (List Int))) (r:Sc) (h:sK a0 a1 a2=some r):HasC Tryz.prog 184 [.int a0,.int a1,.list 1 (a2.map (cI 1 eI))] (.agg (eS r)):=by
 refine aZ aB (rvs:=[.cell 6 99]) (ns:=[0,1,2,3,4]) Tryz.func184 k k Tryz.ntmps184 k k k<|sR<|ae (cF aB k k) k<|an<|tn<|sR<|am k k<|am k k ?_
 refine am k k<|am k k<|oB h λv1 hv1 h=>ae (cM (aDW a1 a2 v1 hv1) k3 (aC (aE k) (aC (aE k) aS))) k<|oB h λv2 hv2 h=>ae (cL bK (aCP a0 v1 v2 hv2) k3 (aC (aE k) (aC (pH (bX (dZ k) (bX (dZ k) (bX (oX cW k k) mY)))) aS))) k<|ae (jR aB k k k k k k) k<|ae (bO aB k k k k k k k k) k<|an<|tn<|aL ?_
 obtain rfl:=so h
 exact bG k k k (sD (bN (k) (bN (iV bK k k) gZ)))
def lV (a0:(List Int)) (a1:Int) (a2:Int):Option Bool:=
 bif !decide ((a0.length:Int)=a1) then
 (some (true))
 else
 ((oF a2 a0).bind λv2=>
 some (!v2))
theorem aDH (a0:(List Int)) (a1:Int) (a2:Int) (r:Bool) (h:lV a0 a1 a2=some r):HasC Tryz.prog 257 [.list 1 (a0.map eI),.ref (eI a1),.ref (eI a2)] (.bl r):=by
 refine aZ aB (rvs:=[.tmp 4]) (ns:=[0,1]) Tryz.func257 k k Tryz.ntmps257 k k k<|sR<|aT k2<|sR<|am k k<|ln k4 ?_
 refine lr k7<|cm k4<|am k k ?_
 rcases cb h with ⟨q1,h⟩|⟨q1,h⟩
 ·refine aP 9 k q1<|aK k4<|aK k4<|pk k3<|aT k2<|aJ (t:=bE [(4,.bl true)] [] 0 [0,1]) (aA (σ:=sg []) (bP k2) aO k) ?_
  exact aL<|eZ h k2
 ·refine aP 9 k q1<|lr k7<|am k k<|oB h λv2 hv2 h=>ae (aQ (aBj a2 a0 v2 hv2) k (aC (aE k) (aC (aE k) aS))) k<|ae (cO k) k<|pk k3<|aT k2<|aJ (t:=bE [(4,.bl (!v2))] [] 0 [0,1]) (aA (σ:=sg []) (bP k2) aO k) ?_
  exact aL<|eZ h k2
def pQ (a0:Int) (a1:Int) (a2:(List (List Int))):Option Bool:=
 (gV a1 0 8).bind λv1=>
 bif v1 then
 (bif decide ((a2.length:Int)≤16) then
 ((dR a2 (λb0=>lV b0 a1 a0)).bind λv4=>
 some (!v4))
 else
 (some (false)))
 else
 (some (false))
theorem aEv (a0:Int) (a1:Int) (a2:(List (List Int))) (r:Bool) (h:pQ a0 a1 a2=some r):HasC Tryz.prog 231 [.int a0,.int a1,.list 1 (a2.map (cI 1 eI))] (.bl r):=by
 refine aZ aB (rvs:=[.tmp 6]) (ns:=[0,1,2,3]) Tryz.func231 k k Tryz.ntmps231 k k k<|sR<|ae (cE k k k k) k<|ae (cE k k k k) k<|aT k2<|sR ?_
 refine lp k8<|oB h λv1 hv1 h=>ae (aQ (lF a1 0 8 v1 hv1) k (aC (aE k) (aC (aE k) (aC (aE k) aS)))) k<|am k k ?_
 rcases cb h with ⟨q2,h⟩|⟨q2,h⟩
 ·refine aP 9 k q2<|am k k<|ln k4<|cm k4<|pk k3<|am k k ?_
  rcases cb h with ⟨q3,h⟩|⟨q3,h⟩
  ·refine aP 14 k q3<|am k k<|ae (aBP (vs:=[.ptr 1 0 0,.ptr 0 0 0]) k (by simp)) k<|oB h λv4 hv4 h=>ae (aQ (kS a2 (λb0=>lV b0 a1 a0) k (λb0 r h=>aDH b0 a1 a0 r h) v4 hv4) k (aC (aE k) (aC (aKM (aCr (aFq k k (bX (dZ k) mY)) (aCr (aFq k k (bX (dZ k) mY)) aCq))) aS))) k<|ae (cO k) k<|pk k3<|aT k2<|aJ (t:=bE [(6,.bl (!v4))] [] 2 [2,3]) (aA (σ:=sg []) (bP k2) aO k) ?_
   exact aL<|eZ h k2
  ·refine aP 14 k q3<|aK k4<|aK k4<|pk k3<|aT k2<|aJ (t:=bE [(6,.bl false)] [] 2 [2,3]) (aA (σ:=sg []) (bP k2) aO k) ?_
   exact aL<|eZ h k2
 ·refine aP 9 k q2<|aK k4<|ak k k<|pk k3<|am k k<|aK k4<|aK k4 ?_
  exact pk k3<|aT k2<|aL<|eZ h k2
def iC (a0:(List Int)) (a1:(List Int)):Option Bool:=
 (mE a0 a1).bind λv1=>
 some (v1)
theorem aCQ (a0:(List Int)) (a1:(List Int)) (r:Bool) (h:iC a0 a1=some r):HasC Tryz.prog 259 [.list 1 (a0.map eI),.list 1 (a1.map eI)] (.bl r):=by
 refine aZ aB (rvs:=[.tmp 4]) (ns:=[0,1]) Tryz.func259 k k Tryz.ntmps259 k k k<|sR<|aT k2<|sR<|am k k<|am k k ?_
 exact oB h λv1 hv1 h=>ae (aQ (aBG a0 a1 v1 hv1) k (aC (aE k) (aC (aE k) aS))) k<|aT k2<|aL<|eZ h k2
def dB (a0:(List (List Int))) (a1:(List (List Int))) (a2:((List Int)→(List Int)→Option Bool)) (x1:Int):Option (Int ⊕ (Unit ⊕ Bool)):=
 bif decide (x1<(a0.length:Int)) then
 ((cR a0 x1).bind λv3=>
 (cR a1 x1).bind λv4=>
 (a2 v3 v4).bind λv5=>
 bif !v5 then
 (some (.inr (.inr (false))))
 else
 (some (.inl (wr (x1+1)))))
 else
 (some (.inr (.inl ())))
def dM (a0:(List (List Int))) (a1:(List (List Int))) (a2:((List Int)→(List Int)→Option Bool)):Option Bool:=
 bif !decide ((a0.length:Int)=(a1.length:Int)) then
 (some (false))
 else
 ((Lp (dB a0 a1 a2) 0).bind λy7=>
 Sum.elim (λy8=>
 some (true)
 )
 (λy9=>
 some y9
 )
 y7)
theorem oY (a0:(List (List Int))) (a1:(List (List Int))) (a2:((List Int)→(List Int)→Option Bool)) {f2:FuncId} {c2:List AV} (hc2:c2.all dQ=true) (hf2: ∀ b0 b1 r,a2 b0 b1=some r→HasC Tryz.prog f2 ([.list 1 (b0.map eI),.list 1 (b1.map eI)]++c2) (.bl r)) (r:Bool) (h:dM a0 a1 a2=some r):HasC Tryz.prog 258 [.list 1 (a0.map (cI 1 eI)),.list 1 (a1.map (cI 1 eI)),.fn f2 c2] (.bl r):=by
 refine aZ aB (rvs:=[.tmp 6]) (ns:=[0,1]) Tryz.func258 k k Tryz.ntmps258 k k (pK k (pK k (pK hc2 aFy)))<|sR<|aT k2<|sQ<|sR<|am k k ?_
 refine ln k4<|am k k<|ln k4<|cm k4<|an<|tn ?_
 rcases cb h with ⟨q1,h⟩|⟨q1,h⟩
 ·exact aD k q1<|sR<|aT k2<|aL<|aI<|eZ h k2
 ·refine aH k q1<|aN<|tn<|sQ<|sR<|am k k<|ln k4<|am k k<|an ?_
  refine tn<|aM<|oB h λy7 hy7 h=>bV (body:=(dB a0 a1 a2)) hy7 (λ(x1:Int)=>bE [(1,.list 1 (a1.map (cI 1 eI))),(2,.fn f2 c2),(15,.list 1 (a0.map (cI 1 eI))),(16,.int (a0.length:Int)),(17,.int x1)] [] 0 [0,1]) (λr e t=>Sum.elim (λa=>(λr e t=>e= .exit 0∧Ent t (bE [] [] 0 [0,1])) a e t) (λb=>(λr e t=>e= .ret∧mA TT [.tmp 6] (.bl r) .ret t) b e t) r) (aA (σ:=sg []) ⟨⟨_,k,⟨k,k⟩⟩,⟨_,k,⟨k,oO _ hc2⟩⟩,⟨_,k,⟨k,k⟩⟩,(e1 k k),(e1 k k),aO⟩ aO k) ?_ ?_
  ·intro x1 o h
   refine sR<|cm k4<|an<|tn<|sQ ?_
   rcases cb h with ⟨q2,h⟩|⟨q2,h⟩
   ·refine aD k q2<|aN<|tn<|sQ<|aM<|sR<|am k k<|oB h λv3 hv3 h=>ae (aU aB hv3 k k k k k k) k<|lr k7 ?_
    refine aa k k<|aT k2<|sR<|am k k<|am k k<|oB h λv4 hv4 h=>ae (aU aB hv4 k k k k k k) k<|lr k7 ?_
    refine aT k2<|sR<|am k k<|am k k<|am k k<|oB h λv5 hv5 h=>ae (aEf hc2 (hf2 v3 v4 v5 hv5) k k (aC (aE k) (aC (aE k) aS))) k<|ae (cO k) k ?_
    refine an<|tn<|aJ (t:=bE [(1,.list 1 (a1.map (cI 1 eI))),(2,.fn f2 c2),(15,.list 1 (a0.map (cI 1 eI))),(16,.int (a0.length:Int)),(17,.int x1),(30,.bl (!v5))] [] 0 [0,1]) (aA (σ:=sg []) ⟨⟨_,k,⟨k,k⟩⟩,⟨_,k,⟨k,oO _ hc2⟩⟩,⟨_,k,⟨k,k⟩⟩,(e1 k k),(e1 k k),(e1 k k),aO⟩ aO k) ?_
    rcases cb h with ⟨q6,h⟩|⟨q6,h⟩
    ·refine aD k q6<|sR<|aT k2<|aL<|bB<|aI<|aI ?_
     obtain rfl:=so h
     exact ⟨_,k,k,bG k k k (kC k)⟩
    ·refine aH k q6<|aN<|aY<|tn<|rg<|ae (bD k k) k<|am k k<|an<|tn ?_
     obtain rfl:=so h
     exact ⟨_,k,(aA (σ:=sg []) ⟨⟨_,k,⟨k,k⟩⟩,⟨_,k,⟨k,oO _ hc2⟩⟩,⟨_,k,⟨k,k⟩⟩,(e1 k k),(e1 k k),aO⟩ aO k)⟩
   ·refine aH k q2<|bA<|aG<|aG ?_
    obtain rfl:=so h
    exact ⟨_,k,k,(aA (σ:=sg []) aO aO k)⟩
  ·intro e t hX
   rcases y7 with y8|y9
   ·obtain ⟨rfl,hent⟩:=hX
    exact aR<|tn<|aJ hent<|sR<|aT k2<|aL<|eZ h k2
   ·obtain ⟨rfl,hent⟩:=hX
    refine bB<|aI ?_
    obtain rfl:=so h
    exact hent
def nJ (a0:Sc) (a1:Sc):Option Bool:=
 bif decide (a0.size=a1.size) then
 ((dM a0.basis a1.basis (λb0 b1=>iC b0 b1)).bind λv2=>
 some (v2))
 else
 (some (false))
theorem aDq (a0:Sc) (a1:Sc) (r:Bool) (h:nJ a0 a1=some r):HasC Tryz.prog 232 [.agg (eS a0),.agg (eS a1)] (.bl r):=by
 refine aZ aB (rvs:=[.tmp 4]) (ns:=[0,1,2,3]) Tryz.func232 k k Tryz.ntmps232 k k k<|sR<|ae (cE k k k k) k<|ae (cE k k k k) k<|aT k2<|sR ?_
 refine fp k8<|lp k8<|fp k8<|lp k8<|cm k4<|am k k ?_
 rcases cb h with ⟨q1,h⟩|⟨q1,h⟩
 ·refine aP 10 k q1<|fp k8<|lp k8<|fp k8<|lp k8<|oB h λv2 hv2 h=>ae (aQ (oY a0.basis a1.basis (λb0 b1=>iC b0 b1) k (λb0 b1 r h=>aCQ b0 b1 r h) v2 hv2) k (aC (aE k) (aC (aE k) (aC (aKM aCq) aS)))) k<|pk k3<|aT k2 ?_
  exact aL<|eZ h k2
 ·refine aP 10 k q1<|aK k4<|aK k4<|ak k k<|pk k3<|aT k2 ?_
  exact aL<|eZ h k2
def vU (a0:Int) (a1:Sc):Option Bool:=
 (iA a0).bind λv1=>
 bif !v1 then
 (some (false))
 else
 ((pQ a0 a1.size a1.basis).bind λv3=>
 bif !v3 then
 (some (false))
 else
 ((xT a0 a1.size a1.basis).bind λv5=>
 (nJ v5 a1).bind λv6=>
 some (v6)))
theorem aIx (a0:Int) (a1:Sc) (r:Bool) (h:vU a0 a1=some r):HasC Tryz.prog 197 [.int a0,.agg (eS a1)] (.bl r):=by
 refine aZ aB (rvs:=[.tmp 4]) (ns:=[0,1,2,3]) Tryz.func197 k k Tryz.ntmps197 k k k<|sR<|ae (cE k k k k) k<|aT k2<|sQ<|sR ?_
 refine am k k<|oB h λv1 hv1 h=>ae (aQ (mG a0 v1 hv1) k (aC (aE k) aS)) k<|ae (cO k) k<|am k k ?_
 rcases cb h with ⟨q2,h⟩|⟨q2,h⟩
 ·refine aP 8 k q2<|aK k4<|aK k4<|aK k4<|ak k k<|pk k3<|an ?_
  refine tn<|aJ (t:=bE [(0,.int a0),(3,.ptr 0 0 0),(16,.bl true)] [(0,⟨2,[[.int a1.size,.list 1 (a1.basis.map (cI 1 eI))]]⟩)] 1 [1,2,3]) (aA (σ:=sg [(0,0)]) (bP k2) (hP k k k k<|aO) k)<|aD k k<|sR<|aT k2<|aL<|aI ?_
  exact eZ h k2
 ·refine aP 8 k q2<|am k k<|fp k8<|lp k8<|fp k8<|lp k8<|oB h λv3 hv3 h=>ae (aQ (aEv a0 a1.size a1.basis v3 hv3) k (aC (aE k) (aC (aE k) (aC (aE k) aS)))) k<|ae (cO k) k<|pk k3<|an ?_
  refine tn<|aJ (t:=bE [(0,.int a0),(3,.ptr 0 0 0),(16,.bl (!v3))] [(0,⟨2,[[.int a1.size,.list 1 (a1.basis.map (cI 1 eI))]]⟩)] 1 [1,2,3]) (aA (σ:=sg [(0,0)]) (bP k2) (hP k k k k<|aO) k) ?_
  rcases cb h with ⟨q4,h⟩|⟨q4,h⟩
  ·exact aD k q4<|sR<|aT k2<|aL<|aI<|eZ h k2
  ·refine aH k q4<|aN<|tn<|sQ<|bC kB<|am k k<|fp k8<|lp k8<|fp k8<|lp k8 ?_
   refine oB h λv5 hv5 h=>ae (cS (aGq a0 a1.size a1.basis v5 hv5) k3 (aC (aE k) (aC (aE k) (aC (aE k) aS)))) k<|lp k8<|oB h λv6 hv6 h=>ae (aQ (aDq v5 a1 v6 hv6) k (aC (pH (bX (dZ k) (bX (oX bK k k) mY))) (aC (vC k) aS))) k<|aa k k<|an ?_
   refine ⟨by kernel_rfl,?_⟩
   exact tn<|aL<|eZ h k2
def jD (a0:Int) (a1:Int) (a2:(List (List Int))) (x1:Int):Option (Int ⊕ (Unit ⊕ Bool)):=
 bif decide (x1<(a2.length:Int)) then
 ((cR a2 x1).bind λv2=>
 bif !decide ((v2.length:Int)=a1) then
 (some (.inr (.inr (false))))
 else
 ((cR a2 x1).bind λv4=>
 (gI a0 v4).bind λv5=>
 bif !v5 then
 (some (.inr (.inr (false))))
 else
 (some (.inl (wr (x1+1))))))
 else
 (some (.inr (.inl ())))
def oT (a0:Int) (a1:Int) (a2:(List (List Int))):Option Bool:=
 (Lp (jD a0 a1 a2) 0).bind λy7=>
 Sum.elim (λy8=>
 (hZ a0).bind λv9=>
 bif v9 then
 ((eP a1 0 8).bind λv11=>
 bif v11 then
 (some (decide ((a2.length:Int)≤16)))
 else
 (some (false)))
 else
 (some (false))
 )
 (λy13=>
 some y13
 )
 y7
theorem aJn (a0:Int) (a1:Int) (a2:(List (List Int))) (r:Bool) (h:oT a0 a1 a2=some r):HasC Tryz.prog 180 [.int a0,.int a1,.list 1 (a2.map (cI 1 eI))] (.bl r):=by
 refine aZ aB (rvs:=[.tmp 6]) (ns:=[0,1]) Tryz.func180 k k Tryz.ntmps180 k k k<|sR<|aT k2<|sQ<|sR<|aa k k ?_
 refine an<|tn<|aM<|oB h λy7 hy7 h=>bV (body:=(jD a0 a1 a2)) hy7 (λ(x1:Int)=>bE [(0,.int a0),(1,.int a1),(2,.list 1 (a2.map (cI 1 eI))),(7,.int x1)] [] 0 [0,1]) (λr e t=>Sum.elim (λa=>(λr e t=>e= .exit 0∧Ent t (bE [(0,.int a0),(1,.int a1),(2,.list 1 (a2.map (cI 1 eI)))] [] 0 [0,1])) a e t) (λb=>(λr e t=>e= .ret∧mA TT [.tmp 6] (.bl r) .ret t) b e t) r) (aA (σ:=sg []) ⟨(e1 k k),(e1 k k),⟨_,k,⟨k,k⟩⟩,(e1 k k),aO⟩ aO k) ?_ ?_
 ·intro x1 o h
  refine sQ<|sR<|am k k<|am k k<|ln k4<|cm k4<|an<|tn ?_
  rcases cb h with ⟨q1,h⟩|⟨q1,h⟩
  ·refine aD k q1<|aN<|tn<|sQ<|aM<|sR<|am k k<|am k k<|oB h λv2 hv2 h=>ae (aU aB hv2 k k k k k k) k ?_
   refine lr k7<|ln k4<|am k k<|cm k4<|am k k ?_
   rcases cb h with ⟨q3,h⟩|⟨q3,h⟩
   ·refine aP 21 k q3<|aK k4<|aK k4<|aK k4<|ak k k<|pk k3<|an ?_
    refine tn<|aJ (t:=bE [(0,.int a0),(1,.int a1),(2,.list 1 (a2.map (cI 1 eI))),(7,.int x1),(29,.bl true)] [] 0 [0,1]) (aA (σ:=sg []) ⟨(e1 k k),(e1 k k),⟨_,k,⟨k,k⟩⟩,(e1 k k),(e1 k k),aO⟩ aO k)<|aD k k<|sR<|aT k2<|aL<|bB ?_
    refine aI<|aI ?_
    obtain rfl:=so h
    exact ⟨_,k,k,bG k k k (kC k)⟩
   ·refine aP 21 k q3<|am k k<|am k k<|am k k<|oB h λv4 hv4 h=>ae (aU aB hv4 k k k k k k) k<|lr k7<|oB h λv5 hv5 h=>ae (aQ (xY a0 v4 v5 hv5) k (aC (aE k) (aC (aE k) aS))) k<|ae (cO k) k<|pk k3<|an ?_
    refine tn<|aJ (t:=bE [(0,.int a0),(1,.int a1),(2,.list 1 (a2.map (cI 1 eI))),(7,.int x1),(29,.bl (!v5))] [] 0 [0,1]) (aA (σ:=sg []) ⟨(e1 k k),(e1 k k),⟨_,k,⟨k,k⟩⟩,(e1 k k),(e1 k k),aO⟩ aO k) ?_
    rcases cb h with ⟨q6,h⟩|⟨q6,h⟩
    ·refine aD k q6<|sR<|aT k2<|aL<|bB<|aI<|aI ?_
     obtain rfl:=so h
     exact ⟨_,k,k,bG k k k (kC k)⟩
    ·refine aH k q6<|aN<|aY<|tn<|rg<|am k k<|ae (bD k k) k<|aT k2 ?_
     obtain rfl:=so h
     exact ⟨_,k,(aA (σ:=sg []) ⟨(e1 k k),(e1 k k),⟨_,k,⟨k,k⟩⟩,(e1 k k),aO⟩ aO k)⟩
  ·refine aH k q1<|bA<|aG<|aG ?_
   obtain rfl:=so h
   exact ⟨_,k,k,(aA (σ:=sg []) ⟨(e1 k k),(e1 k k),⟨_,k,⟨k,k⟩⟩,aO⟩ aO k)⟩
 ·intro e t hX
  rcases y7 with y8|y13
  ·obtain ⟨rfl,hent⟩:=hX
   refine aR<|tn<|aJ hent<|sR<|am k k<|oB h λv9 hv9 h=>ae (aQ (mF a0 v9 hv9) k (aC (aE k) aS)) k<|am k k ?_
   rcases cb h with ⟨q10,h⟩|⟨q10,h⟩
   ·refine aP 32 k q10<|am k k<|oB h λv11 hv11 h=>ae (aQ (fG a1 0 8 v11 hv11) k (aC (aE k) (aC (aE k) (aC (aE k) aS)))) k<|pk k3<|am k k ?_
    rcases cb h with ⟨q12,h⟩|⟨q12,h⟩
    ·refine aP 36 k q12<|am k k<|ln k4<|cm k4<|pk k3<|aT k2<|aJ (t:=bE [(6,.bl (decide ((a2.length:Int)≤16)))] [] 0 [0,1]) (aA (σ:=sg []) (bP k2) aO k)<|aL ?_
     exact eZ h k2
    ·refine aP 36 k q12<|aK k4<|ak k k<|pk k3<|aT k2<|aJ (t:=bE [(6,.bl false)] [] 0 [0,1]) (aA (σ:=sg []) (bP k2) aO k)<|aL ?_
     exact eZ h k2
   ·refine aP 32 k q10<|aK k4<|pk k3<|am k k<|aK k4<|ak k k<|pk k3<|aa k k ?_
    exact an<|tn<|aL<|eZ h k2
  ·obtain ⟨rfl,hent⟩:=hX
   refine bB<|aI ?_
   obtain rfl:=so h
   exact hent
def mM (a0:(List (List Int))) (a1:(List (List Int))) (x1:Int) (x2:Int):Option (Int ⊕ (Unit ⊕ Bool)):=
 (cR a0 x1).bind λv6=>
 bif decide (x2<(v6.length:Int)) then
 ((cR a0 x1).bind λv8=>
 (cR v8 x2).bind λv9=>
 (cR a1 x1).bind λv10=>
 (cR v10 x2).bind λv11=>
 bif !decide (v9=v11) then
 (some (.inr (.inr (false))))
 else
 (some (.inl (wr (x2+1)))))
 else
 (some (.inr (.inl ())))
def jE (a0:(List (List Int))) (a1:(List (List Int))) (x1:Int):Option (Int ⊕ (Unit ⊕ Bool)):=
 bif decide (x1<(a0.length:Int)) then
 ((cR a0 x1).bind λv3=>
 (cR a1 x1).bind λv4=>
 bif !decide ((v3.length:Int)=(v4.length:Int)) then
 (some (.inr (.inr (false))))
 else
 ((Lp (mM a0 a1 x1) 0).bind λy13=>
 Sum.elim (λy14=>
 some (.inl (wr (x1+1)))
 )
 (λy15=>
 some (.inr (.inr y15))
 )
 y13))
 else
 (some (.inr (.inl ())))
def oU (a0:(List (List Int))) (a1:(List (List Int))):Option Bool:=
 bif !decide ((a0.length:Int)=(a1.length:Int)) then
 (some (false))
 else
 ((Lp (jE a0 a1) 0).bind λy16=>
 Sum.elim (λy17=>
 some (true)
 )
 (λy18=>
 some y18
 )
 y16)
theorem aJo (a0:(List (List Int))) (a1:(List (List Int))) (r:Bool) (h:oU a0 a1=some r):HasC Tryz.prog 181 [.list 1 (a0.map (cI 1 eI)),.list 1 (a1.map (cI 1 eI))] (.bl r):=by
 refine aZ aB (rvs:=[.tmp 4]) (ns:=[0,1]) Tryz.func181 k k Tryz.ntmps181 k k k<|sR<|aT k2<|sQ<|sR<|am k k ?_
 refine ln k4<|am k k<|ln k4<|cm k4<|an<|tn ?_
 rcases cb h with ⟨q1,h⟩|⟨q1,h⟩
 ·exact aD k q1<|sR<|aT k2<|aL<|aI<|eZ h k2
 ·refine aH k q1<|aN<|tn<|sQ<|sR<|aT k2<|aM ?_
  refine oB h λy16 hy16 h=>bV (body:=(jE a0 a1)) hy16 (λ(x1:Int)=>bE [(0,.list 1 (a0.map (cI 1 eI))),(1,.list 1 (a1.map (cI 1 eI))),(5,.int x1)] [] 0 [0,1]) (λr e t=>Sum.elim (λa=>(λr e t=>e= .exit 0∧Ent t (bE [] [] 0 [0,1])) a e t) (λb=>(λr e t=>e= .ret∧mA TT [.tmp 4] (.bl r) .ret t) b e t) r) (aA (σ:=sg []) ⟨⟨_,k,⟨k,k⟩⟩,⟨_,k,⟨k,k⟩⟩,(e1 k k),aO⟩ aO k) ?_ ?_
  ·intro x1 o h
   refine sQ<|sR<|am k k<|am k k<|ln k4<|cm k4<|an<|tn ?_
   rcases cb h with ⟨q2,h⟩|⟨q2,h⟩
   ·refine aD k q2<|aN<|tn<|sQ<|aM<|sQ<|sQ<|bC kB<|am k k<|am k k ?_
    refine oB h λv3 hv3 h=>ae (aU aB hv3 k k k k k k) k<|lr k7<|ln k4<|am k k<|am k k<|oB h λv4 hv4 h=>ae (aU aB hv4 k k k k k k) k<|lr k7<|ln k4<|cm k4<|an ?_
    refine ⟨by kernel_rfl,?_⟩
    refine tn<|aJ (t:=bE [(0,.list 1 (a0.map (cI 1 eI))),(1,.list 1 (a1.map (cI 1 eI))),(5,.int x1),(28,.bl (!decide ((v3.length:Int)=(v4.length:Int))))] [] 0 [0,1]) (aA (σ:=sg []) ⟨⟨_,k,⟨k,k⟩⟩,⟨_,k,⟨k,k⟩⟩,(e1 k k),(e1 k k),aO⟩ aO k) ?_
    rcases cb h with ⟨q5,h⟩|⟨q5,h⟩
    ·refine aD k q5<|sR<|aT k2<|aL<|aI<|bB<|aI ?_
     refine aI ?_
     obtain rfl:=so h
     exact ⟨_,k,k,bG k k k (kC k)⟩
    ·refine aH k q5<|aN<|tn<|sR<|aT k2<|aM<|oB h λy13 hy13 h=>bV (body:=(mM a0 a1 x1)) hy13 (λ(x2:Int)=>bE [(0,.list 1 (a0.map (cI 1 eI))),(1,.list 1 (a1.map (cI 1 eI))),(5,.int x1),(6,.int x2)] [] 0 [0,1]) (λr e t=>Sum.elim (λa=>(λr e t=>e= .exit 2∧Ent t (bE [(0,.list 1 (a0.map (cI 1 eI))),(1,.list 1 (a1.map (cI 1 eI))),(5,.int x1)] [] 0 [0,1])) a e t) (λb=>(λr e t=>e= .ret∧mA TT [.tmp 4] (.bl r) .ret t) b e t) r) (aA (σ:=sg []) ⟨⟨_,k,⟨k,k⟩⟩,⟨_,k,⟨k,k⟩⟩,(e1 k k),(e1 k k),aO⟩ aO k) ?_ ?_
     ·intro x2 o h
      refine sQ<|sR<|am k k<|am k k<|am k k<|oB h λv6 hv6 h=>ae (aU aB hv6 k k k k k k) k<|lr k7<|ln k4<|cm k4 ?_
      refine an<|tn ?_
      rcases cb h with ⟨q7,h⟩|⟨q7,h⟩
      ·refine aD k q7<|aN<|tn<|sQ<|aM<|sQ<|bC kB<|am k k<|am k k<|oB h λv8 hv8 h=>ae (aU aB hv8 k k k k k k) k ?_
       refine lr k7<|am k k<|oB h λv9 hv9 h=>ae (aU aB hv9 k k k k k k) k<|lr k7<|am k k<|am k k<|oB h λv10 hv10 h=>ae (aU aB hv10 k k k k k k) k<|lr k7<|am k k<|oB h λv11 hv11 h=>ae (aU aB hv11 k k k k k k) k ?_
       refine lr k7<|cm k4<|an ?_
       refine ⟨by kernel_rfl,?_⟩
       refine tn<|aJ (t:=bE [(0,.list 1 (a0.map (cI 1 eI))),(1,.list 1 (a1.map (cI 1 eI))),(5,.int x1),(6,.int x2),(52,.bl (!decide (v9=v11)))] [] 0 [0,1]) (aA (σ:=sg []) ⟨⟨_,k,⟨k,k⟩⟩,⟨_,k,⟨k,k⟩⟩,(e1 k k),(e1 k k),(e1 k k),aO⟩ aO k) ?_
       rcases cb h with ⟨q12,h⟩|⟨q12,h⟩
       ·refine aD k q12<|sR<|aT k2<|aL<|bB<|aI<|aI ?_
        obtain rfl:=so h
        exact ⟨_,k,k,bG k k k (kC k)⟩
       ·refine aH k q12<|aN<|aY<|tn<|rg<|am k k<|ae (bD k k) k<|aT k2 ?_
        obtain rfl:=so h
        exact ⟨_,k,(aA (σ:=sg []) ⟨⟨_,k,⟨k,k⟩⟩,⟨_,k,⟨k,k⟩⟩,(e1 k k),(e1 k k),aO⟩ aO k)⟩
      ·refine aH k q7<|bA<|aG<|aG ?_
       obtain rfl:=so h
       exact ⟨_,k,k,(aA (σ:=sg []) ⟨⟨_,k,⟨k,k⟩⟩,⟨_,k,⟨k,k⟩⟩,(e1 k k),aO⟩ aO k)⟩
     ·intro e t hX
      rcases y13 with y14|y15
      ·obtain ⟨rfl,hent⟩:=hX
       refine aR<|aY<|tn<|aJ hent<|rg<|am k k<|ae (bD k k) k<|aT k2 ?_
       obtain rfl:=so h
       exact ⟨_,k,(aA (σ:=sg []) ⟨⟨_,k,⟨k,k⟩⟩,⟨_,k,⟨k,k⟩⟩,(e1 k k),aO⟩ aO k)⟩
      ·obtain ⟨rfl,hent⟩:=hX
       refine bB<|bB<|aI<|aI ?_
       obtain rfl:=so h
       exact ⟨_,k,k,hent⟩
   ·refine aH k q2<|bA<|aG<|aG ?_
    obtain rfl:=so h
    exact ⟨_,k,k,(aA (σ:=sg []) aO aO k)⟩
  ·intro e t hX
   rcases y16 with y17|y18
   ·obtain ⟨rfl,hent⟩:=hX
    exact aR<|tn<|aJ hent<|sR<|aT k2<|aL<|eZ h k2
   ·obtain ⟨rfl,hent⟩:=hX
    refine bB<|aI ?_
    obtain rfl:=so h
    exact hent
def fL (a0:Int) (a1:Sc):Option Bool:=
 (oT a0 a1.size a1.basis).bind λv1=>
 bif !v1 then
 (some (false))
 else
 ((lH a1.size a1.basis).bind λv3=>
 (jM a0 v3).bind λv4=>
 (oU v4 a1.basis).bind λv5=>
 some (v5))
theorem qS (a0:Int) (a1:Sc) (r:Bool) (h:fL a0 a1=some r):HasC Tryz.prog 135 [.int a0,.agg (eS a1)] (.bl r):=by
 refine aZ aB (rvs:=[.tmp 4]) (ns:=[0,1,2,3,4]) Tryz.func135 k k Tryz.ntmps135 k k k<|sR<|ae (cE k k k k) k<|aT k2<|sQ<|sR ?_
 refine am k k<|fp k8<|lp k8<|fp k8<|lp k8<|oB h λv1 hv1 h=>ae (aQ (aJn a0 a1.size a1.basis v1 hv1) k (aC (aE k) (aC (aE k) (aC (aE k) aS)))) k<|ae (cO k) k<|an<|tn ?_
 rcases cb h with ⟨q2,h⟩|⟨q2,h⟩
 ·exact aD k q2<|sR<|aT k2<|aL<|aI<|eZ h k2
 ·refine aH k q2<|aN<|tn<|sQ<|bC kB<|am k k<|fp k8<|lp k8<|fp k8<|lp k8 ?_
  refine oB h λv3 hv3 h=>ae (cM (aDW a1.size a1.basis v3 hv3) k3 (aC (aE k) (aC (aE k) aS))) k<|oB h λv4 hv4 h=>ae (cL bK (aCP a0 v3 v4 hv4) k3 (aC (aE k) (aC (pH (bX (dZ k) (bX (dZ k) (bX (oX cW k k) mY)))) aS))) k<|fp k8<|lp k8<|oB h λv5 hv5 h=>ae (aQ (aJo v4 a1.basis v5 hv5) k (aC (xO bK k k) (aC (aE k) aS))) k<|aa k k<|an ?_
  refine ⟨by kernel_rfl,?_⟩
  exact tn<|aL<|eZ h k2
end
noncomputable section
theorem aPQ {l:List (List Int)} {n:Nat} (h: ∀ v∈l,v.length=n):l=(List.range l.length).map λi=>mJ n (cB l i):=by
 refine List.ext_getElem (by simp) λi h1 h2=>?_
 simp only [List.getElem_map,List.getElem_range]
 refine List.ext_getElem (by rw [fE];exact h _ (List.getElem_mem h1)) λj h3 h4=>?_
 simp [mJ,cB,h1,h3]
theorem aKg {l:List (List Int)} {n:Nat} (h: ∀ v∈l,v.length=n):l.flatten=cJ l.length n (cB l):=by
 have e:l.flatten=((List.range l.length).map λi=>mJ n (cB l i)).flatten:=by rw [←aPQ h]
 rw [e,aMs]
theorem aLh {p:Int} (hp:lM p=true) {n:Nat} {l:List (List Int)} (hn:n≤1024) (hl:l.length≤512) (h:VecsP p n l):Tb p l.length n (cB l):=by
 refine ⟨hp,?_,by omega,by omega,h.inP⟩
 have:=Nat.mul_le_mul hl hn
 omega
theorem aMt {r c i:Nat} (hN:r*c≤1048576) (hr:r≤1048576) (hi:i<r) (F:Nat→Nat→Int):((cJ r c F).drop (0+(i*c))).take ((i*c+c) - i*c)=mJ c (F i):=by
 have h:= @aIp r c i hi
 rw [Nat.succ_mul] at h
 refine List.ext_getElem (by simp [gY,fE];omega) λt h1 h2=>?_
 rw [fE] at h2
 rw [List.getElem_take,List.getElem_drop]
 simp [cJ,mJ,aIV h2,aIW h2]
theorem aDY (F:Nat→Nat→Int) (r n:Nat):fH F r n=(List.range r).map λi=>mJ n (F i):=rfl
theorem aDZ (F:Nat→Nat→Int) (r n:Nat):fH F r n++[mJ n (F r)]=fH F (r+1) n:=by
 rw [aDY,aDY,List.range_succ,List.map_append];rfl
theorem aOM {n:Nat} {l:List (List Int)} (hn:n≤1024) (hl:l.length≤512) (h: ∀ v∈l,v.length=n):tN n l=some ⟨l.length,n,cJ l.length n (cB l)⟩:=by
 unfold tN
 rw [aRh hl (λv hv=>by rw [h v hv];exact hn),Option.bind_some,aKg h]
theorem aIy {p:Int} (hp:lM p=true) {n:Nat} {l:List (List Int)} (hn:n≤1024) (hl:l.length≤512) (h:VecsP p n l):xT p n l=some ⟨n,fC p n l⟩:=by
 have T:=aLh hp hn hl h
 have hL:= @vB p l.length (cB l) n
 have h1:=T.hN
 unfold xT
 rw [aOM hn hl (λv hv=>(h v hv).1),Option.bind_some,aLe T,Option.bind_some]
 rw [eC (r:=fC p n l) (λk=>(fH (cA p l.length (cB l) n).1 k n,(k:Int))) (cA p l.length (cB l) n).2.length (by simp [fH]) (λk hk=>?_) (λ_=>?_),Option.bind_some]
 ·have hkl:k<l.length:=by omega
  have h3:= @aIp l.length n k hkl
  rw [Nat.succ_mul] at h3
  unfold vT
  simp only
  rw [mK,jS hk,cond_true,aIq T.hN T.hm hkl,Option.bind_some,uK T.hN hkl,wZ T.hN T.hm hkl]
  simp only [Int.toNat_natCast]
  rw [aMt T.hN T.hm hkl]
  unfold vK
  rw [fE,decide_eq_true (by omega),cond_true,Option.bind_some,rI,decide_eq_true (by omega),cond_true,aDZ,cC hk (by omega)]
 ·unfold vT
  simp only
  rw [mK,mR (Nat.le_refl _),cond_false]
  rfl
theorem aMu {n:Nat} {l:List (List Int)} (hn:n≤1024) (hl:l.length≤512) (h: ∀ v∈l,v.length=n):lH n l=some ⟨l.length,n,cJ l.length n (cB l)⟩:=by
 have hb: ∀ k,(l.take k).flatten.length ≤1024*512:=λk=>by
  have:=aKf (l:=l.take k) λx hx=>by rw [h x (List.mem_of_mem_take hx)];exact hn
  have h2:(l.take k).length ≤512:=by simp;omega
  omega
 unfold lH
 rw [eC (r:=l.flatten) (λk=>((l.take k).flatten,(k:Int))) l.length (by simp) (λk hk=>?_) (λ_=>?_),Option.bind_some,aKg h]
 ·unfold rR
  simp only
  have e2:=hb (k+1)
  rw [zD hk,List.length_append] at e2
  rw [jS hk,cond_true,dU hk,Option.bind_some,decide_eq_true (by omega),cond_true,cC hk (by omega),zD hk]
 ·unfold rR
  simp only
  rw [mR (Nat.le_refl _),cond_false,List.take_length]
theorem aKh {p:Int} {m n:Nat} {F:Nat→Nat→Int} (T:Tb p m n F):jM p ⟨m,n,cJ m n F⟩=some (fH (cA p m F n).1 (cA p m F n).2.length n):=by
 have hL:= @vB p m F n
 have hm:=T.hm
 have hn:=T.hn
 unfold jM
 rw [aLf T,Option.bind_some]
 rw [eC (r:=fH (cA p m F n).1 (cA p m F n).2.length n) (λk=>(fH (cA p m F n).1 k n,(k:Int))) (cA p m F n).2.length (by simp [fH]) (λk hk=>?_) (λ_=>?_),Option.bind_some]
 ·have hkl:k<m:=by omega
  have h3:= @aIp m n k hkl
  rw [Nat.succ_mul] at h3
  have h4:=T.hN
  have e:wr (wr ((k:Int)*(n:Int))+(n:Int))=((k*n+n:Nat):Int):=by rw [uK T.hN hkl,dX (by omega)];omega
  unfold pP
  simp only
  rw [mK,jS hk,cond_true,e,uK T.hN hkl,gY,decide_eq_true (by omega),decide_eq_true (by omega:((k*n:Nat):Int)≤((k*n+n:Nat):Int)),decide_eq_true (by omega:((k*n+n:Nat):Int)≤((m*n:Nat):Int))]
  simp only [Int.toNat_natCast,Bool.and_self,cond_true,aMt T.hN T.hm hkl]
  rw [fE,decide_eq_true (by simp;omega),cond_true,rI,decide_eq_true (by omega),cond_true,List.nil_append,aDZ,cC hk (by omega)]
 ·unfold pP
  simp only
  rw [mK,mR (Nat.le_refl _),cond_false]
theorem aMv {p:Int} (hp:lM p=true) {n:Nat} {l:List (List Int)} (hn:n≤1024) (hl:l.length≤512) (h:VecsP p n l):sK p n l=some ⟨n,fC p n l⟩:=by
 unfold sK
 rw [aMu hn hl (λv hv=>(h v hv).1),Option.bind_some,aKh (aLh hp hn hl h),Option.bind_some]
 rfl
def bLs (l:List (List Int)):Prop:=l.length≤1048576∧ ∀ v∈l,bI v
theorem aON (p:Int) (v:List Int):(lM p&&decide (v.length≤64)&&v.all λx=>pI x 0 (wr (p - 1)))=aBy p v:=by
 unfold aBy
 cases h:lM p with
 |false=>rfl
 |true=>rw [dX (by have:=gB h;omega)]
theorem aTK {α:Type} {l:List α} {P Q:α→Bool} (h: ∀ x∈l,P x=Q x):l.all P=l.all Q:=by
 induction l with
 |nil=>rfl
 |cons x l ih=>rw [List.all_cons,List.all_cons,h x (by simp),ih λy hy=>h y (by simp [hy])]
theorem aHr (p size:Int) (l:List (List Int)):aEb p size l=(lM p&&pI size 0 8&&decide (l.length≤16)&&l.all λv=>decide ((v.length:Int)=size)&&aBy p v):=rfl
theorem aEw {l:List (List Int)} {f:List Int→Option Bool} (P:List Int→Bool) (hf: ∀ x∈l,f x=some (P x)) (h:l.length≤1048576):dR l f=some (l.any P):=by
 unfold dR iB
 rw [aFl (s0:=0) (s:=0) (n:=l.length) (λk=>bif P (l[k]?.getD []) then some (k:Int) else none) rfl (by omega) (Nat.zero_le _) (λk _ hk=>?_) (λ_=>?_)]
 ·rw [Option.bind_some]
  cases e:(List.range' 0 (l.length - 0)).findSome? (λk:Nat=>bif P (l[k]?.getD []) then some (k:Int) else none) with
  |none=>
   rw [List.findSome?_eq_none_iff] at e
   have:l.any P=false:=by
    rw [List.any_eq_false]
    intro x hx
    obtain ⟨k,hk,rfl⟩:=List.mem_iff_getElem.1 hx
    have:=e k (by simp;omega)
    simp only [List.getElem?_eq_getElem hk,Option.getD_some] at this
    cases hp:P l[k] with
    |false=>simp
    |true=>rw [hp] at this;cases this
   rw [this];rfl
  |some i=>
   obtain ⟨k,hk,he⟩:=List.exists_of_findSome?_eq_some e
   simp at hk
   have hkl:k<l.length:=by omega
   rw [List.getElem?_eq_getElem hkl] at he
   simp only [Option.getD_some] at he
   cases hp:P l[k] with
   |false=>rw [hp] at he;cases he
   |true=>
    rw [hp] at he
    cases he
    have:l.any P=true:=List.any_eq_true.2 ⟨_,List.getElem_mem hkl,hp⟩
    rw [this]
    simp only [Sum.elim_inr,Option.bind_some]
    rw [decide_eq_true (by omega)]
 ·unfold eX
  rw [jS hk,cond_true,qJ [] hk,Option.bind_some,hf _ (dJ [] hk),Option.bind_some]
  cases P _ <;> rfl
 ·unfold eX
  rw [mR (Nat.le_refl _),cond_false]
theorem aLi (p n:Int) {l:List (List Int)} (h:bLs l):pQ p n l=some (pI n 0 8&&(decide (l.length≤16)&&l.all λv=>decide ((v.length:Int)=n)&&aBy p v)):=by
 unfold pQ
 rw [xS,Option.bind_some]
 refine fZ λ_=>?_
 rw [show decide ((l.length:Int)≤16)=decide (l.length≤16) by rw [Bool.eq_iff_iff,decide_eq_true_eq,decide_eq_true_eq];omega]
 refine fZ λ_=>?_
 rw [aEw (λv=> !(decide ((v.length:Int)=n)&&aBy p v)) (λv hv=>?_) h.1,Option.bind_some,List.not_any_eq_all_not]
 ·simp
 ·unfold lV
  cases decide ((v.length:Int)=n) with
  |false=>rfl
  |true=>rw [Bool.not_true,cond_false,aKZ p (h.2 v hv),Option.bind_some,aON,Bool.true_and]
theorem aQI {a b:List (List Int)} (h:bLs a):dM a b (λb0 b1=>iC b0 b1)=some (decide (a=b)):=by
 obtain ⟨h,hb⟩:=h
 unfold dM
 rw [zU]
 by_cases e:a.length=b.length
 ·rw [decide_eq_true e,Bool.not_true,cond_false]
  refine aBJ (by omega) e (λk h1 h2=>?_) ?_
  ·unfold dB iC
   simp only
   rw [jS h1,cond_true,dU h1,Option.bind_some,dU h2,Option.bind_some,aQA (hb _ (List.getElem_mem h1)),Option.bind_some,Option.bind_some]
   cases decide (a[k]=b[k]) <;> rfl
  ·unfold dB
   rw [mR (Nat.le_refl _),cond_false]
 ·rw [decide_eq_false e,Bool.not_false,cond_true,decide_eq_false (by rintro rfl;exact e rfl)]
theorem aJp {a b:Sc} (h:bLs a.basis):nJ a b=some (decide (a.size=b.size)&&decide (a.basis=b.basis)):=by
 unfold nJ
 refine fZ λ_=>?_
 rw [aQI h,Option.bind_some]
theorem aUJ {p:Int} {n:Nat} {l:List (List Int)} (hl:l.length≤1048576) (hn:n≤1048576) (h:VecsP p n l):bLs l:=⟨hl,λv hv=>by unfold bI;rw [(h v hv).1];exact hn⟩
theorem aMw {p:Int} (hp:lM p=true) {n:Nat} {l:List (List Int)} (hn:n≤1048576) (h:VecsP p n l):bLs (fC p n l):=aUJ (by have:=(@aCA p n l).1;omega) hn (aCp hp h.inP)
theorem aJq (p:Int) {s:Sc} (h:bS s):vU p s=some (oW p s.size s.basis):=by
 unfold vU oW
 rw [aCy,Option.bind_some,aLi p s.size h.1,Option.bind_some,aHr]
 cases hf:lM p with
 |false=>simp
 |true=>
  rw [Bool.not_true,cond_false]
  cases hv:(pI s.size 0 8&&(decide (s.basis.length≤16)&&s.basis.all λv=>decide ((v.length:Int)=s.size)&&aBy p v)) with
  |false=>
   have hx:(true&&pI s.size 0 8&&decide (s.basis.length≤16)&&s.basis.all λv=>decide ((v.length:Int)=s.size)&&aBy p v)=false:=by rw [Bool.true_and,Bool.and_assoc];exact hv
   rw [hx];rfl
  |true=>
   have hfine:aEb p s.size s.basis=true:=by rw [aHr,hf];simp only [Bool.true_and,Bool.and_assoc];exact hv
   obtain ⟨_,n,e,hn,hl,hv2⟩:=aCB hfine
   rw [Bool.not_true,cond_false,e,aIy hf (by omega) (by omega) hv2,Option.bind_some,aJp (aMw hf (by omega) hv2),Option.bind_some]
   rw [e] at hfine
   rw [aHr,hf] at hfine
   rw [hfine]
   simp [e]
theorem aRk (p n:Int) {l:List (List Int)} (h:bLs l):oT p n l=some (aEb p n l):=by
 unfold oT
 have hall:=uZ ([]:List Int) l (λv=>decide ((v.length:Int)=n)&&aBy p v)
 have hb:=h.1
 rw [wU (λk=>decide ((((l[k]?.getD []).length:Nat):Int)=n)&&aBy p (l[k]?.getD [])) false (n:=l.length) (by omega) (λk hk=>?_) (λ_=>?_),Option.bind_some,hall,aHr]
 ·cases l.all λv=>decide ((v.length:Int)=n)&&aBy p v with
  |false=>simp
  |true=>
   simp only [cond_true,Sum.elim_inl]
   rw [aEs,Option.bind_some,uJ,Option.bind_some,Bool.and_true,Bool.and_assoc]
   refine fZ λ_=>?_
   refine fZ λ_=>?_
   congr 1
   rw [Bool.eq_iff_iff,decide_eq_true_eq,decide_eq_true_eq];omega
 ·unfold jD
  rw [jS hk,cond_true,qJ [] hk,Option.bind_some,Option.bind_some,aGF p (h.2 _ (dJ [] hk)),Option.bind_some,aON]
  cases decide ((((l[k]?.getD []).length:Nat):Int)=n) <;> cases aBy p (l[k]?.getD []) <;> rfl
 ·unfold jD
  rw [mR (Nat.le_refl _),cond_false]
theorem aRl {a b:List (List Int)} (h:bLs a):oU a b=some (decide (a=b)):=by
 obtain ⟨h,hb⟩:=h
 unfold oU
 rw [zU]
 by_cases e:a.length=b.length
 ·rw [decide_eq_true e,Bool.not_true,cond_false]
  refine aBJ (by omega) e (λk h1 h2=>?_) ?_
  ·have hbk:=hb _ (List.getElem_mem h1)
   unfold bI at hbk
   unfold jE
   rw [jS h1,cond_true,dU h1,Option.bind_some,dU h2,Option.bind_some,zU]
   by_cases e2:a[k].length=b[k].length
   ·rw [decide_eq_true e2,Bool.not_true,cond_false]
    have h3:=wU (body:=mM a b k) (λj=>decide (a[k][j]?.getD 0=b[k][j]?.getD 0)) false (n:=a[k].length) (by omega) (λj hj=>?_) ?_
    ·rw [h3,aMa e2,Option.bind_some]
     cases decide (a[k]=b[k]) <;> rfl
    ·unfold mM
     rw [dU h1,Option.bind_some,jS hj,cond_true,Option.bind_some,qJ 0 hj,Option.bind_some,dU h2,Option.bind_some,qJ 0 (e2▸hj),Option.bind_some]
     cases decide (a[k][j]?.getD 0=b[k][j]?.getD 0) <;> rfl
    ·intro _
     unfold mM
     rw [dU h1,Option.bind_some,mR (Nat.le_refl _),cond_false]
   ·rw [decide_eq_false e2,Bool.not_false,cond_true,decide_eq_false (λe3=>e2 (by rw [e3])),cond_false]
  ·unfold jE
   rw [mR (Nat.le_refl _),cond_false]
 ·rw [decide_eq_false e,Bool.not_false,cond_true,decide_eq_false (by rintro rfl;exact e rfl)]
theorem xJ (p:Int) {s:Sc} (h:bS s):fL p s=some (oW p s.size s.basis):=by
 unfold fL oW
 rw [aRk p s.size h.1,Option.bind_some]
 cases hf:aEb p s.size s.basis with
 |false=>rfl
 |true=>
  obtain ⟨hp,n,e,hn,hl,hv⟩:=aCB hf
  rw [Bool.not_true,cond_false,e,aMu (by omega) (by omega) (λv hv'=>(hv v hv').1),Option.bind_some,aKh (aLh hp (by omega) (by omega) hv),Option.bind_some,show fH (cA p s.basis.length (cB s.basis) n).1 (cA p s.basis.length (cB s.basis) n).2.length n=fC p n s.basis from rfl,aRl (aMw hp (by omega) hv),Option.bind_some]
  simp
end
noncomputable section
set_option maxRecDepth 10000
set_option maxHeartbeats 4000000
def nK (x1:((List Int)×Int×Int)):Option (((List Int)×Int×Int) ⊕ ((List Int)×Int)):=
 bif decide (x1.2.2<((x1.1.length:Nat):Int)) then
 ((cR x1.1 x1.2.2).bind λv2=>
 some (.inl ((x1.1.set x1.2.2.toNat x1.2.1),wr (x1.2.1+1),wr (x1.2.2+1))))
 else
 (some (.inr (x1.1,x1.2.1)))
def fN (a0:(List Int)) (a1:Int):Option ((List Int)×Int):=
 (Lp nK (a0,a1,0)).bind λy3=>
 some (y3.1,y3.2)
theorem kJ (a0:(List Int)) (a1:Int) (r:((List Int)×Int)) (h:fN a0 a1=some r):HasE Tryz.prog 33 [.own 0 0 a0.length,.int a1] [(0,⟨1,a0.map (ow eI)⟩)] 1 (.int r.2) [(0,⟨1,r.1.map (ow eI)⟩)]:=by
 refine pJ aB (rvs:=[.tmp 4]) (ns:=[1,2]) Tryz.func33 k k Tryz.ntmps33 k k<|sR<|aT k2<|sQ<|sR<|aa k k ?_
 refine an<|tn<|aM<|oB h λy3 hy3 h=>bV (body:=nK) hy3 (λ(x1:((List Int)×Int×Int))=>bE [(0,.own 0 0 x1.1.length),(1,.int x1.2.1),(5,.int x1.2.2)] [(0,⟨1,x1.1.map (ow eI)⟩)] 1 [1,2] 1) (λr e t=>e= .exit 0∧Ent t (bE [(1,.int r.2)] [(0,⟨1,r.1.map (ow eI)⟩)] 1 [1,2] 1)) (aA (σ:=sg [(0,0)]) (bP k2) (hI k k k<|aO) k) ?_ ?_
 ·intro x1 o h
  refine sQ<|sR<|am k k<|am k k<|ae (cT aB k k k k) k<|cm k4<|an<|tn ?_
  rcases cb h with ⟨q1,h⟩|⟨q1,h⟩
  ·refine aD k q1<|aN<|tn<|sQ<|aM<|sR<|am k k<|am k k<|am k k ?_
   refine oB h λv2 hv2 h=>ae (bU aB (dF hv2) (bY hv2) k k k k k k k) k<|ae (gU aB uH (u:=x1.2.1) (cG hv2) k k k k k k) k<|an<|tn<|rg<|am k k<|ae (bD k k) k<|aa k k<|an<|aY ?_
   refine tn<|aJ (t:=bE [(0,.own 0 0 ((x1.1.set x1.2.2.toNat x1.2.1).length)),(1,.int (wr (x1.2.1+1))),(5,.int x1.2.2)] [(0,⟨1,List.map (ow eI) (x1.1.set x1.2.2.toNat x1.2.1)⟩)] 1 [1,2] 1) (aA (σ:=sg [(0,0)]) ⟨⟨_,k,⟨k,k,(by simp only [aX,lA,lT,lR,lC,lN]),k⟩⟩,(e1 k k),(e1 k k),aO⟩ (hI k k k<|aO) k)<|rg<|am k k<|ae (bD k k) k<|aT k2 ?_
   obtain rfl:=so h
   exact ⟨_,k,(aA (σ:=sg [(0,0)]) (bP k2) (hI k k k<|aO) k)⟩
  ·refine aH k q1<|bA<|aG<|aG ?_
   obtain rfl:=so h
   exact ⟨_,k,k,(aA (σ:=sg [(0,0)]) (bP k2) (hI k k k<|aO) k)⟩
 ·rintro e t ⟨rfl,hent⟩
  refine aR<|tn<|aJ hent<|sR<|am k k<|aT k2<|aL ?_
  obtain rfl:=so h
  exact ⟨bE [(4,.int y3.2)] [(0,⟨1,y3.1.map (ow eI)⟩)] 1 [1,2] 1,(aA (σ:=sg [(0,0)]) (bP k2) (hI k k k<|aO) k),k,⟨_,k,.inl k⟩,⟨k,aO⟩⟩
def lW (x1:((List (List Int))×Int×Int)):Option (((List (List Int))×Int×Int) ⊕ ((List (List Int))×Int)):=
 bif decide (x1.2.2<((x1.1.length:Nat):Int)) then
 ((cR x1.1 x1.2.2).bind λv2=>
 (fN v2 x1.2.1).bind λv3=>
 bif decide (v3.1.length=v2.length) then
 (some (.inl ((x1.1.set x1.2.2.toNat v3.1),v3.2,wr (x1.2.2+1))))
 else none)
 else
 (some (.inr (x1.1,x1.2.1)))
def rS (a0:(List (List Int))) (a1:Int):Option ((List (List Int))×Int):=
 (Lp lW (a0,a1,0)).bind λy5=>
 some (y5.1,y5.2)
theorem aGH (a0:(List (List Int))) (a1:Int) (r:((List (List Int))×Int)) (h:rS a0 a1=some r):HasT Tryz.prog 46 [.own 0 0 a0.length,.int a1] [(0,⟨1,a0.map (ow (cI 1 eI))⟩)] 1 (.int r.2) [(0,⟨1,r.1.map (ow (cI 1 eI))⟩)]:=by
 refine aHn aB (rvs:=[.tmp 4]) (ns:=[1,2,3]) Tryz.func46 k k Tryz.ntmps46 k k<|sS<|jA k2<|sn<|tn<|sQ<|sS<|jA k2 ?_
 refine sn<|tn<|aM<|oB h λy5 hy5 h=>bV (body:=lW) hy5 (λ(x1:((List (List Int))×Int×Int))=>bE [(0,.own 0 0 x1.1.length),(1,.int x1.2.1),(5,.int x1.2.2)] [(0,⟨1,x1.1.map (ow (cI 1 eI))⟩)] 1 [1,2,3] ⟨1,true,none,true⟩) (λr e t=>e= .exit 0∧Ent t (bE [(1,.int r.2)] [(0,⟨1,r.1.map (ow (cI 1 eI))⟩)] 1 [1,2,3] ⟨1,true,none,true⟩)) (aA (σ:=sg [(0,0)]) (bP k2) (hB (bK.plainO _) k k k<|aO) k) ?_ ?_
 ·intro x1 o h
  refine sQ<|sS<|dS k2<|dS k2<|se (cT aB k k k k) k<|cmS k4<|sn<|tn ?_
  rcases cb h with ⟨q1,h⟩|⟨q1,h⟩
  ·refine aD k q1<|aN<|tn<|sQ<|aM<|rgS<|dS k2<|dS k2<|oB h λv2 hv2 h=>hJ (t:=bE [(0,.own 0 0 x1.1.length),(1,.int x1.2.1),(5,.int x1.2.2),(6,.int x1.2.2),(7,.own 0 0 x1.1.length),(8,.int ((x1.1.length:Nat):Int)),(9,.bl (decide (x1.2.2<((x1.1.length:Nat):Int)))),(12,.own 0 0 x1.1.length),(13,.int x1.2.2)] [(0,⟨1,(x1.1.map (ow (cI 1 eI))).set x1.2.2.toNat [.abs 1 (v2.map eI)]⟩)] 1 [1,2,3] ⟨1,true,none,true⟩) (aA (σ:=sg [(0,0)]) (bP k2) (hX ⟨_,k,k,.inl ⟨aIk (cG hv2),aFv bK k⟩⟩ k<|aO) k)<|hJ (aFw (b:=0) (c:=1) (i:=x1.2.2.toNat) (j:=0) (n:=v2.length) (A:=x1.1.map (ow (cI 1 eI))) (fs:=v2.map (ow eI)) (by rw [List.length_map];exact bY hv2) k k k k (aX _ _) (iX _ _) (aCJ ⟨k,k,k,k,k,k,k,k,k,aO⟩) (aCK (skip:=[]) ⟨.inr (bK.dfS _ _ _ k),aO⟩)) ?_
   refine hJ (t:=bE [(0,.own 0 0 x1.1.length),(1,.int x1.2.1),(5,.int x1.2.2),(6,.int x1.2.2),(7,.own 0 0 x1.1.length),(8,.int ((x1.1.length:Nat):Int)),(9,.bl (decide (x1.2.2<((x1.1.length:Nat):Int)))),(12,.own 0 0 x1.1.length),(13,.int x1.2.2)] [(0,⟨1,(x1.1.map (ow (cI 1 eI))).set x1.2.2.toNat [.own 1 0 v2.length]⟩),(1,⟨1,v2.map (ow eI)⟩)] 2 [2,3] ⟨1,true,none,true⟩) (aA (σ:=sg [(0,0),(1,1)]) (bP k2) (hX ⟨_,k,k,.inr (aCt (σ:=sg [(0,0),(1,1)]) (m:=2) (e:=(cI 1 eI)) (l:=x1.1) (i:=x1.2.2.toNat) (c:=[.own 1 0 v2.length]) (d:=[.own 1 0 v2.length]) bK ⟨_,_,k,⟨k,k,k,k⟩,k⟩)⟩ k<|hI k k k<|aO) k)<|se (bU aB (dF hv2) (bY hv2) k k k k k k k) k<|se (bH aB k k k k (aNx (bY hv2)) k k) k<|dS k2<|oB h λv3 hv3 h=>se (fU (σ:=sg [(0,1)]) (σ':=sg [(1,0)]) (touch:=[1]) (news:=[]) (hl2:=[(1,⟨1,v3.1.map (ow eI)⟩)]) (n':=2) (r2:= .int v3.2) (kJ v2 x1.2.1 v3 hv3) k k ⟨_,_,k,⟨k,k,k,k⟩,⟨_,_,k,k,k⟩⟩ ⟨⟨_,k,k,.inl ⟨k,cW.plainO _⟩⟩,k,aO⟩ k k k ⟨⟨_,k,k,.inl ⟨k,cW.plainO _⟩⟩,k,aO⟩ k k k ⟨k,cW.tame _ _,aO⟩ k k) k ?_
   obtain ⟨q4,h⟩:=cg h
   refine jA k2<|sn<|aY<|tn<|rgS<|dS k2<|se (bD k k) k<|jA k2<|sn<|tn ?_
   obtain rfl:=so h
   exact ⟨_,k,(Ent.trans (show Ent _ (bE [(0,.own 0 0 ((x1.1.set x1.2.2.toNat v3.1).length)),(1,.int v3.2),(5,.int (wr (x1.2.2+1)))] [(0,⟨1,List.map (ow (cI 1 eI)) (x1.1.set x1.2.2.toNat v3.1)⟩)] 2 [2,3] ⟨1,true,none,true⟩) from (Ent.trans (aEe (b:=0) (b':=1) (j:=0) (es':=v3.1.map eI) (by rw [List.length_map];exact bY hv2) k k k k (by simp only [aX,lA,lT,lR,lC,lN,of_decide_eq_true q4]) (cW.frzs _)) (aA (σ:=sg [(0,0)]) ⟨⟨_,k,⟨k,k,(by simp only [aX,lA,lT,lR,lC,lN,of_decide_eq_true q4]),k⟩⟩,(e1 k k),(e1 k k),aO⟩ (hX ⟨_,k,k,.inl ⟨aLP v3.1 k,bK.plainO _⟩⟩ k<|aO) k))) (aA (σ:=sg [(0,0)]) (bP k2) (hB (bK.plainO _) k k k<|aO) k))⟩
  ·refine aH k q1<|bA<|aG<|aG ?_
   obtain rfl:=so h
   exact ⟨_,k,k,(aA (σ:=sg [(0,0)]) (bP k2) (hB (bK.plainO _) k k k<|aO) k)⟩
 ·rintro e t ⟨rfl,hent⟩
  refine aR<|tn<|aJ hent<|sS<|dS k2<|jA k2<|sn<|tn<|aL ?_
  obtain rfl:=so h
  exact ⟨bE [(4,.int y5.2)] [(0,⟨1,y5.1.map (ow (cI 1 eI))⟩)] 1 [1,2,3] ⟨1,true,none,true⟩,(aA (σ:=sg [(0,0)]) (bP k2) (hB (bK.plainO _) k k k<|aO) k),k,⟨_,k,.inl k⟩,⟨k,aO⟩⟩
def kT (x1:((List Sc)×Int×Int)):Option (((List Sc)×Int×Int) ⊕ ((List Sc)×Int)):=
 bif decide (x1.2.2<((x1.1.length:Nat):Int)) then
 ((cR x1.1 x1.2.2).bind λv2=>
 (rS v2.basis (wr (x1.2.1+1))).bind λv3=>
 bif decide (v3.1.length=v2.basis.length) then
 (some (.inl ((x1.1.set x1.2.2.toNat (⟨x1.2.1,v3.1⟩:Sc)),v3.2,wr (x1.2.2+1))))
 else none)
 else
 (some (.inr (x1.1,x1.2.1)))
def pR (a0:(List Sc)) (a1:Int):Option ((List Sc)×Int):=
 (Lp kT (a0,a1,0)).bind λy5=>
 some (y5.1,y5.2)
theorem aEx (a0:(List Sc)) (a1:Int) (r:((List Sc)×Int)) (h:pR a0 a1=some r):HasT Tryz.prog 41 [.own 0 0 a0.length,.int a1] [(0,⟨2,a0.map (ow eS)⟩)] 1 (.int r.2) [(0,⟨2,r.1.map (ow eS)⟩)]:=by
 refine aHn aB (rvs:=[.tmp 4]) (ns:=[1,2,3]) Tryz.func41 k k Tryz.ntmps41 k k<|sS<|jA k2<|sn<|tn<|sQ<|sS<|jA k2 ?_
 refine sn<|tn<|aM<|oB h λy5 hy5 h=>bV (body:=kT) hy5 (λ(x1:((List Sc)×Int×Int))=>bE [(0,.own 0 0 x1.1.length),(1,.int x1.2.1),(5,.int x1.2.2)] [(0,⟨2,x1.1.map (ow eS)⟩)] 1 [1,2,3] ⟨1,true,none,true⟩) (λr e t=>e= .exit 0∧Ent t (bE [(1,.int r.2)] [(0,⟨2,r.1.map (ow eS)⟩)] 1 [1,2,3] ⟨1,true,none,true⟩)) (aA (σ:=sg [(0,0)]) (bP k2) (hB (bT.plainO _) k k k<|aO) k) ?_ ?_
 ·intro x1 o h
  refine sQ<|sS<|dS k2<|dS k2<|se (cT aB k k k k) k<|cmS k4<|sn<|tn ?_
  rcases cb h with ⟨q1,h⟩|⟨q1,h⟩
  ·refine aD k q1<|aN<|tn<|sQ<|aM<|sS<|dS k2<|dS k2<|dS k2 ?_
   refine oB h λv2 hv2 h=>hJ (t:=bE [(0,.own 0 0 x1.1.length),(1,.int x1.2.1),(5,.int x1.2.2),(6,.int x1.2.2),(7,.own 0 0 x1.1.length),(8,.int ((x1.1.length:Nat):Int)),(9,.bl (decide (x1.2.2<((x1.1.length:Nat):Int)))),(12,.own 0 0 x1.1.length),(13,.int x1.2.2),(14,.int x1.2.1)] [(0,⟨2,(x1.1.map (ow eS)).set x1.2.2.toNat [.int v2.size,.abs 1 (v2.basis.map (cI 1 eI))]⟩)] 1 [1,2,3] ⟨1,true,none,true⟩) (aA (σ:=sg [(0,0)]) (bP k2) (hX ⟨_,k,k,.inl ⟨aIk (cG hv2),aFv bT k⟩⟩ k<|aO) k)<|hJ (aFw (b:=0) (c:=1) (i:=x1.2.2.toNat) (j:=1) (n:=v2.basis.length) (A:=x1.1.map (ow eS)) (fs:=v2.basis.map (ow (cI 1 eI))) (by rw [List.length_map];exact bY hv2) k k k k (aX _ _) (iX _ _) (aCJ ⟨k,k,k,k,k,k,k,k,k,k,aO⟩) (aCK (skip:=[]) ⟨.inr (bT.dfS _ _ _ k),aO⟩))<|hJ (t:=bE [(0,.own 0 0 x1.1.length),(1,.int x1.2.1),(5,.int x1.2.2),(6,.int x1.2.2),(7,.own 0 0 x1.1.length),(8,.int ((x1.1.length:Nat):Int)),(9,.bl (decide (x1.2.2<((x1.1.length:Nat):Int)))),(12,.own 0 0 x1.1.length),(13,.int x1.2.2),(14,.int x1.2.1)] [(0,⟨2,(x1.1.map (ow eS)).set x1.2.2.toNat [.int v2.size,.own 1 0 v2.basis.length]⟩),(1,⟨1,v2.basis.map (ow (cI 1 eI))⟩)] 2 [2,3] ⟨1,true,none,true⟩) (aA (σ:=sg [(0,0),(1,1)]) (bP k2) (hX ⟨_,k,k,.inr (aCt (σ:=sg [(0,0),(1,1)]) (m:=2) (e:=eS) (l:=x1.1) (i:=x1.2.2.toNat) (c:=[.int v2.size,.own 1 0 v2.basis.length]) (d:=[.int v2.size,.own 1 0 v2.basis.length]) bT ⟨_,_,k,k,⟨_,_,k,⟨k,k,k,k⟩,k⟩⟩)⟩ k<|hB (bK.plainO _) k k k<|aO) k) ?_
   refine se (bU aB (dF hv2) (bY hv2) k k k k k k k) k<|fpS k8<|se (aIl aB (A:=x1.1.map (ow eS)) (by rw [List.length_map];exact bY hv2) k k k k k k k) k<|sn<|tn<|sS<|dS k2<|se (bD k k) k<|jA k2 ?_
   refine sn<|tn<|rgS<|dS k2<|dS k2<|se (bU aB (dF hv2) (bY hv2) k k k k k k k) k<|fpS k8<|se (bH aB k k k k (aNx (bY hv2)) k k) k<|dS k2<|oB h λv3 hv3 h=>hJ (t:=bE [(0,.own 0 0 x1.1.length),(1,.int (wr (x1.2.1+1))),(5,.int x1.2.2),(6,.int x1.2.2),(7,.own 0 0 x1.1.length),(8,.int ((x1.1.length:Nat):Int)),(9,.bl (decide (x1.2.2<((x1.1.length:Nat):Int)))),(12,.own 0 0 x1.1.length),(13,.int x1.2.2),(14,.int x1.2.1),(15,.ptr 0 x1.2.2.toNat 0),(16,.ptr 0 x1.2.2.toNat 0),(17,.int x1.2.1),(18,.int (wr (x1.2.1+1))),(19,.own 0 0 x1.1.length),(20,.int x1.2.2),(21,.ptr 0 x1.2.2.toNat 0),(22,.ptr 0 x1.2.2.toNat 1),(23,.own 1 0 v2.basis.length),(24,.int (wr (x1.2.1+1)))] [(0,⟨2,(x1.1.map (ow eS)).set x1.2.2.toNat [.int x1.2.1,.own 1 0 v2.basis.length]⟩),(1,⟨1,v2.basis.map (ow (cI 1 eI))⟩)] 2 [2,3] ⟨1,true,none,true⟩) (aA (σ:=sg [(0,0),(1,1)]) (bP k2) (hX ⟨_,k,k,.inr (aCt (σ:=sg [(0,0),(1,1)]) (m:=2) (e:=eS) (l:=x1.1) (i:=x1.2.2.toNat) (c:=[.int x1.2.1,.own 1 0 v2.basis.length]) (d:=[.int x1.2.1,.own 1 0 v2.basis.length]) bT ⟨_,_,k,k,⟨_,_,k,⟨k,k,k,k⟩,k⟩⟩)⟩ k<|hB (bK.plainO _) k k k<|aO) k) ?_
   refine aLS (σ:=sg [(0,1)]) (σ':=sg [(1,0)]) (touch:=[1]) (news:=[]) (hl2:=[(1,⟨1,v3.1.map (ow (cI 1 eI))⟩)]) (n':=2) (r2:= .int v3.2) (aGH v2.basis (wr (x1.2.1+1)) v3 hv3) k k ⟨_,_,k,⟨k,k,k,k⟩,⟨_,_,k,k,k⟩⟩ ⟨⟨_,k,k,.inl ⟨k,bK.plainO _⟩⟩,k,aO⟩ k k k ⟨⟨_,k,k,.inl ⟨k,bK.plainO _⟩⟩,k,aO⟩ k k k ⟨k,bK.tame _ _,aO⟩ k k k k k (aCJ ⟨k,k,k,k,k,k,k,k,k,k,k,k,k,k,k,k,k,k,k,k,aO⟩) (aCK (skip:=[1]) ⟨.inr (bT.dfS _ _ _ k),.inl (by decide),aO⟩) ?_
   obtain ⟨q4,h⟩:=cg h
   refine jA k2<|sn<|aY<|tn<|rgS<|dS k2<|se (bD k k) k<|jA k2<|sn<|tn ?_
   obtain rfl:=so h
   exact ⟨_,k,(Ent.trans (show Ent _ (bE [(0,.own 0 0 ((x1.1.set x1.2.2.toNat (⟨x1.2.1,v3.1⟩:Sc)).length)),(1,.int v3.2),(5,.int (wr (x1.2.2+1)))] [(0,⟨2,List.map (ow eS) (x1.1.set x1.2.2.toNat (⟨x1.2.1,v3.1⟩:Sc))⟩)] 2 [2,3] ⟨1,true,none,true⟩) from (Ent.trans (aEe (b:=0) (b':=1) (j:=1) (es':=v3.1.map (cI 1 eI)) (by rw [List.length_map];exact bY hv2) k k k k (by simp only [aX,lA,lT,lR,lC,lN,of_decide_eq_true q4]) (bK.frzs _)) (aA (σ:=sg [(0,0)]) ⟨⟨_,k,⟨k,k,(by simp only [aX,lA,lT,lR,lC,lN,of_decide_eq_true q4]),k⟩⟩,(e1 k k),(e1 k k),aO⟩ (hX ⟨_,k,k,.inl ⟨aLP (⟨x1.2.1,v3.1⟩:Sc) k,bT.plainO _⟩⟩ k<|aO) k))) (aA (σ:=sg [(0,0)]) (bP k2) (hB (bT.plainO _) k k k<|aO) k))⟩
  ·refine aH k q1<|bA<|aG<|aG ?_
   obtain rfl:=so h
   exact ⟨_,k,k,(aA (σ:=sg [(0,0)]) (bP k2) (hB (bT.plainO _) k k k<|aO) k)⟩
 ·rintro e t ⟨rfl,hent⟩
  refine aR<|tn<|aJ hent<|sS<|dS k2<|jA k2<|sn<|tn<|aL ?_
  obtain rfl:=so h
  exact ⟨bE [(4,.int y5.2)] [(0,⟨2,y5.1.map (ow eS)⟩)] 1 [1,2,3] ⟨1,true,none,true⟩,(aA (σ:=sg [(0,0)]) (bP k2) (hB (bT.plainO _) k k k<|aO) k),k,⟨_,k,.inl k⟩,⟨k,aO⟩⟩
def pS (a0:Qv) (a1:Int):Option ((List Int)×(List Int)×Int):=
 (fN a0.src a1).bind λv1=>
 bif decide (v1.1.length=a0.src.length) then
 ((fN a0.tgt v1.2).bind λv3=>
 bif decide (v3.1.length=a0.tgt.length) then
 (some (v1.1,v3.1,v3.2))
 else none)
 else none
theorem aEy (a0:Qv) (a1:Int) (r:((List Int)×(List Int)×Int)) (h:pS a0 a1=some r):HasE Tryz.prog 69 [.agg [.int a0.n,.own 0 0 a0.src.length,.own 1 0 a0.tgt.length],.int a1] [(0,⟨1,a0.src.map (ow eI)⟩),(1,⟨1,a0.tgt.map (ow eI)⟩)] 2 (.int r.2.2) [(0,⟨1,r.1.map (ow eI)⟩),(1,⟨1,r.2.1.map (ow eI)⟩)]:=by
 refine pJ aB (rvs:=[.tmp 4]) (ns:=[2,3,4]) Tryz.func69 k k Tryz.ntmps69 k k<|sR<|ae (cE k k k k) k<|aT k2<|sR<|fp k8 ?_
 refine lp k8<|am k k<|oB h λv1 hv1 h=>ae (fU (σ:=sg [(0,0)]) (σ':=sg [(0,0)]) (touch:=[0]) (news:=[]) (hl2:=[(0,⟨1,v1.1.map (ow eI)⟩)]) (n':=3) (r2:= .int v1.2) (kJ a0.src a1 v1 hv1) k k ⟨_,_,k,⟨k,k,k,k⟩,⟨_,_,k,k,k⟩⟩ ⟨⟨_,k,k,.inl ⟨k,cW.plainO _⟩⟩,k,aO⟩ k k k ⟨⟨_,k,k,.inl ⟨k,cW.plainO _⟩⟩,k,aO⟩ k k k ⟨k,cW.tame _ _,aO⟩ k k) k ?_
 obtain ⟨q2,h⟩:=cg h
 refine aT k2<|sR<|fp k8<|lp k8<|am k k<|oB h λv3 hv3 h=>ae (fU (σ:=sg [(0,1)]) (σ':=sg [(1,0)]) (touch:=[1]) (news:=[]) (hl2:=[(1,⟨1,v3.1.map (ow eI)⟩)]) (n':=3) (r2:= .int v3.2) (kJ a0.tgt v1.2 v3 hv3) k k ⟨_,_,k,⟨k,k,k,k⟩,⟨_,_,k,k,k⟩⟩ ⟨⟨_,k,k,.inl ⟨k,cW.plainO _⟩⟩,k,aO⟩ k k k ⟨⟨_,k,k,.inl ⟨k,cW.plainO _⟩⟩,k,aO⟩ k k k ⟨k,cW.tame _ _,aO⟩ k k) k ?_
 obtain ⟨q4,h⟩:=cg h
 refine aT k2<|aJ (t:=bE [(1,.int v3.2)] [(0,⟨1,v1.1.map (ow eI)⟩),(1,⟨1,v3.1.map (ow eI)⟩)] 3 [3,4] 2) (aA (σ:=sg [(0,0),(1,1)]) (bP k2) (hI k k k<|hI k k k<|aO) k)<|sR<|am k k<|aT k2 ?_
 refine aL ?_
 obtain rfl:=so h
 exact ⟨bE [(4,.int v3.2)] [(0,⟨1,v1.1.map (ow eI)⟩),(1,⟨1,v3.1.map (ow eI)⟩)] 2 [2,3,4] 2,(aA (σ:=sg [(0,0),(1,1)]) (bP k2) (hI k k k<|hI k k k<|aO) k),k,⟨_,k,.inl k⟩,⟨k,k,aO⟩⟩
def jX (x1:((List Mt)×Int×Int)):Option (((List Mt)×Int×Int) ⊕ ((List Mt)×Int)):=
 bif decide (x1.2.2<((x1.1.length:Nat):Int)) then
 ((cR x1.1 x1.2.2).bind λv2=>
 (fN v2.cells (wr ((wr (x1.2.1+1))+1))).bind λv3=>
 bif decide (v3.1.length=v2.cells.length) then
 (some (.inl ((x1.1.set x1.2.2.toNat (⟨x1.2.1,wr (x1.2.1+1),v3.1⟩:Mt)),v3.2,wr (x1.2.2+1))))
 else none)
 else
 (some (.inr (x1.1,x1.2.1)))
def nL (a0:(List Mt)) (a1:Int):Option ((List Mt)×Int):=
 (Lp jX (a0,a1,0)).bind λy5=>
 some (y5.1,y5.2)
theorem aDr (a0:(List Mt)) (a1:Int) (r:((List Mt)×Int)) (h:nL a0 a1=some r):HasT Tryz.prog 70 [.own 0 0 a0.length,.int a1] [(0,⟨3,a0.map (ow eM)⟩)] 1 (.int r.2) [(0,⟨3,r.1.map (ow eM)⟩)]:=by
 refine aHn aB (rvs:=[.tmp 4]) (ns:=[1,2,3]) Tryz.func70 k k Tryz.ntmps70 k k<|sS<|jA k2<|sn<|tn<|sQ<|sS<|jA k2 ?_
 refine sn<|tn<|aM<|oB h λy5 hy5 h=>bV (body:=jX) hy5 (λ(x1:((List Mt)×Int×Int))=>bE [(0,.own 0 0 x1.1.length),(1,.int x1.2.1),(5,.int x1.2.2)] [(0,⟨3,x1.1.map (ow eM)⟩)] 1 [1,2,3] ⟨1,true,none,true⟩) (λr e t=>e= .exit 0∧Ent t (bE [(1,.int r.2)] [(0,⟨3,r.1.map (ow eM)⟩)] 1 [1,2,3] ⟨1,true,none,true⟩)) (aA (σ:=sg [(0,0)]) (bP k2) (hB (qH.plainO _) k k k<|aO) k) ?_ ?_
 ·intro x1 o h
  refine sQ<|sS<|dS k2<|dS k2<|se (cT aB k k k k) k<|cmS k4<|sn<|tn ?_
  rcases cb h with ⟨q1,h⟩|⟨q1,h⟩
  ·refine aD k q1<|aN<|tn<|sQ<|aM<|sS<|dS k2<|dS k2<|dS k2 ?_
   refine oB h λv2 hv2 h=>hJ (t:=bE [(0,.own 0 0 x1.1.length),(1,.int x1.2.1),(5,.int x1.2.2),(6,.int x1.2.2),(7,.own 0 0 x1.1.length),(8,.int ((x1.1.length:Nat):Int)),(9,.bl (decide (x1.2.2<((x1.1.length:Nat):Int)))),(12,.own 0 0 x1.1.length),(13,.int x1.2.2),(14,.int x1.2.1)] [(0,⟨3,(x1.1.map (ow eM)).set x1.2.2.toNat [.int v2.rows,.int v2.cols,.abs 1 (v2.cells.map eI)]⟩)] 1 [1,2,3] ⟨1,true,none,true⟩) (aA (σ:=sg [(0,0)]) (bP k2) (hX ⟨_,k,k,.inl ⟨aIk (cG hv2),aFv qH k⟩⟩ k<|aO) k)<|hJ (aFw (b:=0) (c:=1) (i:=x1.2.2.toNat) (j:=2) (n:=v2.cells.length) (A:=x1.1.map (ow eM)) (fs:=v2.cells.map (ow eI)) (by rw [List.length_map];exact bY hv2) k k k k (aX _ _) (iX _ _) (aCJ ⟨k,k,k,k,k,k,k,k,k,k,aO⟩) (aCK (skip:=[]) ⟨.inr (qH.dfS _ _ _ k),aO⟩))<|hJ (t:=bE [(0,.own 0 0 x1.1.length),(1,.int x1.2.1),(5,.int x1.2.2),(6,.int x1.2.2),(7,.own 0 0 x1.1.length),(8,.int ((x1.1.length:Nat):Int)),(9,.bl (decide (x1.2.2<((x1.1.length:Nat):Int)))),(12,.own 0 0 x1.1.length),(13,.int x1.2.2),(14,.int x1.2.1)] [(0,⟨3,(x1.1.map (ow eM)).set x1.2.2.toNat [.int v2.rows,.int v2.cols,.own 1 0 v2.cells.length]⟩),(1,⟨1,v2.cells.map (ow eI)⟩)] 2 [2,3] ⟨1,true,none,true⟩) (aA (σ:=sg [(0,0),(1,1)]) (bP k2) (hX ⟨_,k,k,.inr (aCt (σ:=sg [(0,0),(1,1)]) (m:=2) (e:=eM) (l:=x1.1) (i:=x1.2.2.toNat) (c:=[.int v2.rows,.int v2.cols,.own 1 0 v2.cells.length]) (d:=[.int v2.rows,.int v2.cols,.own 1 0 v2.cells.length]) qH ⟨_,_,k,k,⟨_,_,k,k,⟨_,_,k,⟨k,k,k,k⟩,k⟩⟩⟩)⟩ k<|hI k k k<|aO) k) ?_
   refine se (bU aB (dF hv2) (bY hv2) k k k k k k k) k<|fpS k8<|se (aIl aB (A:=x1.1.map (ow eM)) (by rw [List.length_map];exact bY hv2) k k k k k k k) k<|sn<|tn<|sS<|dS k2<|se (bD k k) k<|jA k2 ?_
   refine sn<|tn<|sS<|dS k2<|dS k2<|dS k2<|se (bU aB (dF hv2) (bY hv2) k k k k k k k) k<|fpS k8<|se (aIl aB (A:=x1.1.map (ow eM)) (by rw [List.length_map];exact bY hv2) k k k k k k k) k ?_
   refine sn<|tn<|sS<|dS k2<|se (bD k k) k<|jA k2<|sn<|tn<|aJ (t:=bE [(0,.own 0 0 x1.1.length),(1,.int (wr ((wr (x1.2.1+1))+1))),(5,.int x1.2.2)] [(0,⟨3,(x1.1.map (ow eM)).set x1.2.2.toNat [.int x1.2.1,.int (wr (x1.2.1+1)),.own 1 0 v2.cells.length]⟩),(1,⟨1,v2.cells.map (ow eI)⟩)] 2 [2,3] ⟨1,true,none,true⟩) (aA (σ:=sg [(0,0),(1,1)]) (bP k2) (hX ⟨_,k,k,.inr (aCt (σ:=sg [(0,0),(1,1)]) (m:=2) (e:=eM) (l:=x1.1) (i:=x1.2.2.toNat) (c:=[.int x1.2.1,.int (wr (x1.2.1+1)),.own 1 0 v2.cells.length]) (d:=[.int x1.2.1,.int (wr (x1.2.1+1)),.own 1 0 v2.cells.length]) qH ⟨_,_,k,k,⟨_,_,k,k,⟨_,_,k,⟨k,k,k,k⟩,k⟩⟩⟩)⟩ k<|hI k k k<|aO) k) ?_
   refine rgS<|dS k2<|dS k2<|se (bU aB (dF hv2) (bY hv2) k k k k k k k) k<|fpS k8<|se (bH aB k k k k (aNx (bY hv2)) k k) k<|dS k2<|oB h λv3 hv3 h=>se (fU (σ:=sg [(0,1)]) (σ':=sg [(1,0)]) (touch:=[1]) (news:=[]) (hl2:=[(1,⟨1,v3.1.map (ow eI)⟩)]) (n':=2) (r2:= .int v3.2) (kJ v2.cells (wr ((wr (x1.2.1+1))+1)) v3 hv3) k k ⟨_,_,k,⟨k,k,k,k⟩,⟨_,_,k,k,k⟩⟩ ⟨⟨_,k,k,.inl ⟨k,cW.plainO _⟩⟩,k,aO⟩ k k k ⟨⟨_,k,k,.inl ⟨k,cW.plainO _⟩⟩,k,aO⟩ k k k ⟨k,cW.tame _ _,aO⟩ k k) k ?_
   obtain ⟨q4,h⟩:=cg h
   refine jA k2<|sn<|aY<|tn<|rgS<|dS k2<|se (bD k k) k<|jA k2<|sn<|tn ?_
   obtain rfl:=so h
   exact ⟨_,k,(Ent.trans (show Ent _ (bE [(0,.own 0 0 ((x1.1.set x1.2.2.toNat (⟨x1.2.1,wr (x1.2.1+1),v3.1⟩:Mt)).length)),(1,.int v3.2),(5,.int (wr (x1.2.2+1)))] [(0,⟨3,List.map (ow eM) (x1.1.set x1.2.2.toNat (⟨x1.2.1,wr (x1.2.1+1),v3.1⟩:Mt))⟩)] 2 [2,3] ⟨1,true,none,true⟩) from (Ent.trans (aEe (b:=0) (b':=1) (j:=2) (es':=v3.1.map eI) (by rw [List.length_map];exact bY hv2) k k k k (by simp only [aX,lA,lT,lR,lC,lN,of_decide_eq_true q4]) (cW.frzs _)) (aA (σ:=sg [(0,0)]) ⟨⟨_,k,⟨k,k,(by simp only [aX,lA,lT,lR,lC,lN,of_decide_eq_true q4]),k⟩⟩,(e1 k k),(e1 k k),aO⟩ (hX ⟨_,k,k,.inl ⟨aLP (⟨x1.2.1,wr (x1.2.1+1),v3.1⟩:Mt) k,qH.plainO _⟩⟩ k<|aO) k))) (aA (σ:=sg [(0,0)]) (bP k2) (hB (qH.plainO _) k k k<|aO) k))⟩
  ·refine aH k q1<|bA<|aG<|aG ?_
   obtain rfl:=so h
   exact ⟨_,k,k,(aA (σ:=sg [(0,0)]) (bP k2) (hB (qH.plainO _) k k k<|aO) k)⟩
 ·rintro e t ⟨rfl,hent⟩
  refine aR<|tn<|aJ hent<|sS<|dS k2<|jA k2<|sn<|tn<|aL ?_
  obtain rfl:=so h
  exact ⟨bE [(4,.int y5.2)] [(0,⟨3,y5.1.map (ow eM)⟩)] 1 [1,2,3] ⟨1,true,none,true⟩,(aA (σ:=sg [(0,0)]) (bP k2) (hB (qH.plainO _) k k k<|aO) k),k,⟨_,k,.inl k⟩,⟨k,aO⟩⟩
def vV (a0:Rp) (a1:Int):Option ((List Int)×(List Int)×(List Int)×(List Mt)×Int):=
 (pS a0.q a1).bind λv1=>
 bif decide (v1.1.length=a0.q.src.length) then
 (bif decide (v1.2.1.length=a0.q.tgt.length) then
 ((fN a0.dims v1.2.2).bind λv4=>
 bif decide (v4.1.length=a0.dims.length) then
 ((nL a0.maps v4.2).bind λv6=>
 bif decide (v6.1.length=a0.maps.length) then
 (some (v1.1,v1.2.1,v4.1,v6.1,v6.2))
 else none)
 else none)
 else none)
 else none
theorem aIz (a0:Rp) (a1:Int) (r:((List Int)×(List Int)×(List Int)×(List Mt)×Int)) (h:vV a0 a1=some r):HasT Tryz.prog 19 [.agg [.int a0.p,.int a0.q.n,.own 0 0 a0.q.src.length,.own 1 0 a0.q.tgt.length,.own 2 0 a0.dims.length,.own 3 0 a0.maps.length],.int a1] [(0,⟨1,a0.q.src.map (ow eI)⟩),(1,⟨1,a0.q.tgt.map (ow eI)⟩),(2,⟨1,a0.dims.map (ow eI)⟩),(3,⟨3,a0.maps.map (ow eM)⟩)] 4 (.int r.2.2.2.2) [(0,⟨1,r.1.map (ow eI)⟩),(1,⟨1,r.2.1.map (ow eI)⟩),(2,⟨1,r.2.2.1.map (ow eI)⟩),(3,⟨3,r.2.2.2.1.map (ow eM)⟩)]:=by
 refine aHn aB (rvs:=[.tmp 4]) (ns:=[4,5,6]) Tryz.func19 k k Tryz.ntmps19 k k<|sS<|se (cE k k k k) k<|jA k2<|sn<|tn<|sS<|fpS k8 ?_
 refine lpS k8<|dS k2<|oB h λv1 hv1 h=>se (fU (σ:=sg [(0,0),(1,1)]) (σ':=sg [(0,0),(1,1)]) (touch:=[0,1]) (news:=[]) (hl2:=[(0,⟨1,v1.1.map (ow eI)⟩),(1,⟨1,v1.2.1.map (ow eI)⟩)]) (n':=5) (r2:= .int v1.2.2) (aEy a0.q a1 v1 hv1) k k ⟨_,_,k,⟨_,_,k,k,⟨_,_,k,⟨k,k,k,k⟩,⟨_,_,k,⟨k,k,k,k⟩,k⟩⟩⟩,⟨_,_,k,k,k⟩⟩ ⟨⟨_,k,k,.inl ⟨k,cW.plainO _⟩⟩,k,⟨_,k,k,.inl ⟨k,cW.plainO _⟩⟩,k,aO⟩ k k k ⟨⟨_,k,k,.inl ⟨k,cW.plainO _⟩⟩,k,⟨_,k,k,.inl ⟨k,cW.plainO _⟩⟩,k,aO⟩ k k k ⟨k,cW.tame _ _,⟨k,cW.tame _ _,aO⟩⟩ k k) k ?_
 obtain ⟨q2,h⟩:=cg h
 obtain ⟨q3,h⟩:=cg h
 refine jA k2<|sn<|tn<|sS<|fpS k8<|lpS k8<|dS k2<|oB h λv4 hv4 h=>se (fU (σ:=sg [(0,2)]) (σ':=sg [(2,0)]) (touch:=[2]) (news:=[]) (hl2:=[(2,⟨1,v4.1.map (ow eI)⟩)]) (n':=5) (r2:= .int v4.2) (kJ a0.dims v1.2.2 v4 hv4) k k ⟨_,_,k,⟨k,k,k,k⟩,⟨_,_,k,k,k⟩⟩ ⟨⟨_,k,k,.inl ⟨k,cW.plainO _⟩⟩,k,aO⟩ k k k ⟨⟨_,k,k,.inl ⟨k,cW.plainO _⟩⟩,k,aO⟩ k k k ⟨k,cW.tame _ _,aO⟩ k k) k ?_
 obtain ⟨q5,h⟩:=cg h
 refine jA k2<|sn<|tn<|aJ (t:=bE [(1,.int v4.2),(2,.ptr 4 0 0)] [(0,⟨1,v1.1.map (ow eI)⟩),(1,⟨1,v1.2.1.map (ow eI)⟩),(2,⟨1,v4.1.map (ow eI)⟩),(3,⟨3,a0.maps.map (ow eM)⟩),(4,⟨6,[[.int a0.p,.int a0.q.n,.own 0 0 v1.1.length,.own 1 0 v1.2.1.length,.own 2 0 v4.1.length,.own 3 0 a0.maps.length]]⟩)] 5 [5,6] ⟨4,true,none,true⟩) (aA (σ:=sg [(0,0),(1,1),(2,2),(3,3),(4,4)]) (bP k2) (hI k k k<|hI k k k<|hI k k k<|hB (qH.plainO _) k k k<|hX ⟨_,k,k,.inr ⟨_,_,k,⟨_,_,k,k,⟨_,_,k,k,⟨_,_,k,⟨k,k,(by simp only [aX,lA,lT,lR,lC,lN,of_decide_eq_true q2]),k⟩,⟨_,_,k,⟨k,k,(by simp only [aX,lA,lT,lR,lC,lN,of_decide_eq_true q3]),k⟩,⟨_,_,k,⟨k,k,(by simp only [aX,lA,lT,lR,lC,lN,of_decide_eq_true q5]),k⟩,⟨_,_,k,⟨k,k,k,k⟩,k⟩⟩⟩⟩⟩⟩,k⟩⟩ k<|aO) k)<|sS<|fpS k8<|lpS k8<|dS k2<|oB h λv6 hv6 h=>hJ (t:=bE [(1,.int v4.2),(2,.ptr 4 0 0),(13,.ptr 4 0 5),(14,.own 3 0 a0.maps.length),(15,.int v4.2)] [(0,⟨1,v1.1.map (ow eI)⟩),(1,⟨1,v1.2.1.map (ow eI)⟩),(2,⟨1,v4.1.map (ow eI)⟩),(3,⟨3,a0.maps.map (ow eM)⟩),(4,⟨6,[[.int a0.p,.int a0.q.n,.own 0 0 v1.1.length,.own 1 0 v1.2.1.length,.own 2 0 v4.1.length,.own 3 0 a0.maps.length]]⟩)] 5 [5,6] ⟨4,true,none,true⟩) (aA (σ:=sg [(0,0),(1,1),(2,2),(3,3),(4,4)]) (bP k2) (hI k k k<|hI k k k<|hI k k k<|hB (qH.plainO _) k k k<|hX ⟨_,k,k,.inr ⟨_,_,k,⟨_,_,k,k,⟨_,_,k,k,⟨_,_,k,⟨k,k,k,k⟩,⟨_,_,k,⟨k,k,k,k⟩,⟨_,_,k,⟨k,k,k,k⟩,⟨_,_,k,⟨k,k,k,k⟩,k⟩⟩⟩⟩⟩⟩,k⟩⟩ k<|aO) k) ?_
 refine aLS (σ:=sg [(0,3)]) (σ':=sg [(3,0)]) (touch:=[3]) (news:=[]) (hl2:=[(3,⟨3,v6.1.map (ow eM)⟩)]) (n':=5) (r2:= .int v6.2) (aDr a0.maps v4.2 v6 hv6) k k ⟨_,_,k,⟨k,k,k,k⟩,⟨_,_,k,k,k⟩⟩ ⟨⟨_,k,k,.inl ⟨k,qH.plainO _⟩⟩,k,aO⟩ k k k ⟨⟨_,k,k,.inl ⟨k,qH.plainO _⟩⟩,k,aO⟩ k k k ⟨k,qH.tame _ _,aO⟩ k k k k k (aCJ ⟨k,k,k,k,k,aO⟩) (aCK (skip:=[3]) ⟨.inr (cW.df _ _),.inr (cW.df _ _),.inr (cW.df _ _),.inl (by decide),.inr (aRY k),aO⟩) ?_
 obtain ⟨q7,h⟩:=cg h
 refine jA k2<|sn<|tn<|sS<|dS k2<|jA k2<|sn<|tn<|aL ?_
 obtain rfl:=so h
 exact ⟨bE [(4,.int v6.2)] [(0,⟨1,v1.1.map (ow eI)⟩),(1,⟨1,v1.2.1.map (ow eI)⟩),(2,⟨1,v4.1.map (ow eI)⟩),(3,⟨3,v6.1.map (ow eM)⟩)] 4 [4,5,6] ⟨4,true,none,true⟩,(aA (σ:=sg [(0,0),(1,1),(2,2),(3,3)]) (bP k2) (hI k k k<|hI k k k<|hI k k k<|hB (qH.plainO _) k k k<|aO) k),k,⟨_,k,.inl k⟩,⟨k,k,k,k,aO⟩⟩
def nM (a0:(List Int)) (x1:(Int×Int)):Option ((Int×Int) ⊕ (Int ⊕ Int)):=
 bif decide (x1.2<(a0.length:Int)) then
 ((cR a0 x1.2).bind λv2=>
 bif !decide (v2=x1.1) then
 (some (.inr (.inr ((-1)))))
 else
 (some (.inl (wr (x1.1+1),wr (x1.2+1)))))
 else
 (some (.inr (.inl x1.1)))
def tP (a0:(List Int)) (a1:Int):Option Int:=
 (Lp (nM a0) (a1,0)).bind λy4=>
 Sum.elim (λy5=>
 some (y5)
 )
 (λy6=>
 some y6
 )
 y4
theorem aHQ (a0:(List Int)) (a1:Int) (r:Int) (h:tP a0 a1=some r):HasC Tryz.prog 77 [.list 1 (a0.map eI),.int a1] (.int r):=by
 refine aZ aB (rvs:=[.tmp 4]) (ns:=[0,1]) Tryz.func77 k k Tryz.ntmps77 k k k<|sR<|aT k2<|sQ<|sR<|aa k k ?_
 refine an<|tn<|aM<|oB h λy4 hy4 h=>bV (body:=(nM a0)) hy4 (λ(x1:(Int×Int))=>bE [(0,.list 1 (a0.map eI)),(1,.int x1.1),(5,.int x1.2)] [] 0 [0,1]) (λr e t=>Sum.elim (λa=>(λr e t=>e= .exit 0∧Ent t (bE [(1,.int r)] [] 0 [0,1])) a e t) (λb=>(λr e t=>e= .ret∧mA TT [.tmp 4] (.int r) .ret t) b e t) r) (aA (σ:=sg []) ⟨⟨_,k,⟨k,k⟩⟩,(e1 k k),(e1 k k),aO⟩ aO k) ?_ ?_
 ·intro x1 o h
  refine sQ<|sR<|am k k<|am k k<|ln k4<|cm k4<|an<|tn ?_
  rcases cb h with ⟨q1,h⟩|⟨q1,h⟩
  ·refine aD k q1<|aN<|tn<|sQ<|aM<|sQ<|sR<|am k k<|am k k ?_
   refine oB h λv2 hv2 h=>ae (aU aB hv2 k k k k k k) k<|lr k7<|am k k<|cm k4<|an<|tn ?_
   rcases cb h with ⟨q3,h⟩|⟨q3,h⟩
   ·refine aD k q3<|sR<|aT k2<|aL<|aI<|bB<|aI ?_
    refine aI ?_
    obtain rfl:=so h
    exact ⟨_,k,k,bG k k k (uG k)⟩
   ·refine aH k q3<|aN<|tn<|rg<|am k k<|ae (bD k k) k<|aa k k<|an<|aY<|tn ?_
    refine aJ (t:=bE [(0,.list 1 (a0.map eI)),(1,.int (wr (x1.1+1))),(5,.int x1.2)] [] 0 [0,1]) (aA (σ:=sg []) ⟨⟨_,k,⟨k,k⟩⟩,(e1 k k),(e1 k k),aO⟩ aO k)<|rg<|am k k<|ae (bD k k) k<|aT k2 ?_
    obtain rfl:=so h
    exact ⟨_,k,(aA (σ:=sg []) ⟨⟨_,k,⟨k,k⟩⟩,(e1 k k),(e1 k k),aO⟩ aO k)⟩
  ·refine aH k q1<|bA<|aG<|aG ?_
   obtain rfl:=so h
   exact ⟨_,k,k,(aA (σ:=sg []) (bP k2) aO k)⟩
 ·intro e t hX
  rcases y4 with y5|y6
  ·obtain ⟨rfl,hent⟩:=hX
   refine aR<|tn<|aJ hent<|sR<|am k k<|aT k2<|aL ?_
   exact qP h k2
  ·obtain ⟨rfl,hent⟩:=hX
   refine bB<|aI ?_
   obtain rfl:=so h
   exact hent
def lX (a0:(List (List Int))) (x1:(Int×Int)):Option ((Int×Int) ⊕ (Int ⊕ Int)):=
 bif decide (x1.2<(a0.length:Int)) then
 ((cR a0 x1.2).bind λv2=>
 (tP v2 x1.1).bind λv3=>
 bif decide (v3<0) then
 (some (.inr (.inr ((-1)))))
 else
 (some (.inl (v3,wr (x1.2+1)))))
 else
 (some (.inr (.inl x1.1)))
def rT (a0:(List (List Int))) (a1:Int):Option Int:=
 (Lp (lX a0) (a1,0)).bind λy5=>
 Sum.elim (λy6=>
 some (y6)
 )
 (λy7=>
 some y7
 )
 y5
theorem aGI (a0:(List (List Int))) (a1:Int) (r:Int) (h:rT a0 a1=some r):HasC Tryz.prog 47 [.list 1 (a0.map (cI 1 eI)),.int a1] (.int r):=by
 refine aZ aB (rvs:=[.tmp 4]) (ns:=[0,1]) Tryz.func47 k k Tryz.ntmps47 k k k<|sR<|aT k2<|sQ<|sR<|aa k k ?_
 refine an<|tn<|aM<|oB h λy5 hy5 h=>bV (body:=(lX a0)) hy5 (λ(x1:(Int×Int))=>bE [(0,.list 1 (a0.map (cI 1 eI))),(1,.int x1.1),(5,.int x1.2)] [] 0 [0,1]) (λr e t=>Sum.elim (λa=>(λr e t=>e= .exit 0∧Ent t (bE [(1,.int r)] [] 0 [0,1])) a e t) (λb=>(λr e t=>e= .ret∧mA TT [.tmp 4] (.int r) .ret t) b e t) r) (aA (σ:=sg []) ⟨⟨_,k,⟨k,k⟩⟩,(e1 k k),(e1 k k),aO⟩ aO k) ?_ ?_
 ·intro x1 o h
  refine sQ<|sR<|am k k<|am k k<|ln k4<|cm k4<|an<|tn ?_
  rcases cb h with ⟨q1,h⟩|⟨q1,h⟩
  ·refine aD k q1<|aN<|tn<|sQ<|aM<|sR<|am k k<|am k k<|oB h λv2 hv2 h=>ae (aU aB hv2 k k k k k k) k ?_
   refine lr k7<|am k k<|oB h λv3 hv3 h=>ae (aQ (aHQ v2 x1.1 v3 hv3) k (aC (aE k) (aC (aE k) aS))) k<|aT k2<|sR<|am k k<|cm k4 ?_
   refine an<|tn<|aJ (t:=bE [(0,.list 1 (a0.map (cI 1 eI))),(1,.int v3),(5,.int x1.2),(19,.bl (decide (v3<0)))] [] 0 [0,1]) (aA (σ:=sg []) ⟨⟨_,k,⟨k,k⟩⟩,(e1 k k),(e1 k k),(e1 k k),aO⟩ aO k) ?_
   rcases cb h with ⟨q4,h⟩|⟨q4,h⟩
   ·refine aD k q4<|sR<|aT k2<|aL<|bB<|aI<|aI ?_
    obtain rfl:=so h
    exact ⟨_,k,k,bG k k k (uG k)⟩
   ·refine aH k q4<|aN<|aY<|tn<|rg<|am k k<|ae (bD k k) k<|aT k2 ?_
    obtain rfl:=so h
    exact ⟨_,k,(aA (σ:=sg []) ⟨⟨_,k,⟨k,k⟩⟩,(e1 k k),(e1 k k),aO⟩ aO k)⟩
  ·refine aH k q1<|bA<|aG<|aG ?_
   obtain rfl:=so h
   exact ⟨_,k,k,(aA (σ:=sg []) (bP k2) aO k)⟩
 ·intro e t hX
  rcases y5 with y6|y7
  ·obtain ⟨rfl,hent⟩:=hX
   refine aR<|tn<|aJ hent<|sR<|am k k<|aT k2<|aL ?_
   exact qP h k2
  ·obtain ⟨rfl,hent⟩:=hX
   refine bB<|aI ?_
   obtain rfl:=so h
   exact hent
def kU (a0:(List Sc)) (x1:(Int×Int)):Option ((Int×Int) ⊕ (Int ⊕ Int)):=
 bif decide (x1.2<(a0.length:Int)) then
 ((cR a0 x1.2).bind λv2=>
 bif !decide (v2.size=x1.1) then
 (some (.inr (.inr ((-1)))))
 else
 ((cR a0 x1.2).bind λv4=>
 (rT v4.basis (wr (x1.1+1))).bind λv5=>
 bif decide (v5<0) then
 (some (.inr (.inr ((-1)))))
 else
 (some (.inl (v5,wr (x1.2+1))))))
 else
 (some (.inr (.inl x1.1)))
def kV (a0:(List Sc)) (a1:Int):Option Int:=
 (Lp (kU a0) (a1,0)).bind λy7=>
 Sum.elim (λy8=>
 some (y8)
 )
 (λy9=>
 some y9
 )
 y7
theorem aAZ (a0:(List Sc)) (a1:Int) (r:Int) (h:kV a0 a1=some r):HasC Tryz.prog 42 [.list 2 (a0.map eS),.int a1] (.int r):=by
 refine aZ aB (rvs:=[.tmp 4]) (ns:=[0,1]) Tryz.func42 k k Tryz.ntmps42 k k k<|sR<|aT k2<|sQ<|sR<|aa k k ?_
 refine an<|tn<|aM<|oB h λy7 hy7 h=>bV (body:=(kU a0)) hy7 (λ(x1:(Int×Int))=>bE [(0,.list 2 (a0.map eS)),(1,.int x1.1),(5,.int x1.2)] [] 0 [0,1]) (λr e t=>Sum.elim (λa=>(λr e t=>e= .exit 0∧Ent t (bE [(1,.int r)] [] 0 [0,1])) a e t) (λb=>(λr e t=>e= .ret∧mA TT [.tmp 4] (.int r) .ret t) b e t) r) (aA (σ:=sg []) ⟨⟨_,k,⟨k,k⟩⟩,(e1 k k),(e1 k k),aO⟩ aO k) ?_ ?_
 ·intro x1 o h
  refine sQ<|sR<|am k k<|am k k<|ln k4<|cm k4<|an<|tn ?_
  rcases cb h with ⟨q1,h⟩|⟨q1,h⟩
  ·refine aD k q1<|aN<|tn<|sQ<|aM<|sQ<|sR<|am k k<|am k k ?_
   refine oB h λv2 hv2 h=>ae (aU aB hv2 k k k k k k) k<|ae (uY aB k k k k k k) k<|lr k7<|am k k<|cm k4<|an<|tn ?_
   rcases cb h with ⟨q3,h⟩|⟨q3,h⟩
   ·refine aD k q3<|sR<|aT k2<|aJ (t:=bE [(4,.int (-1))] [] 0 [0,1]) (aA (σ:=sg []) (bP k2) aO k)<|aL<|aI<|bB ?_
    refine aI<|aI ?_
    obtain rfl:=so h
    exact ⟨_,k,k,bG k k k (uG k)⟩
   ·refine aH k q3<|aN<|tn<|sR<|am k k<|ae (bD k k) k<|aT k2 ?_
    refine aJ (t:=bE [(0,.list 2 (a0.map eS)),(1,.int (wr (x1.1+1))),(5,.int x1.2)] [] 0 [0,1]) (aA (σ:=sg []) ⟨⟨_,k,⟨k,k⟩⟩,(e1 k k),(e1 k k),aO⟩ aO k)<|sR<|am k k<|am k k<|oB h λv4 hv4 h=>ae (aU aB hv4 k k k k k k) k<|ae (uY aB k k k k k k) k<|lr k7<|am k k<|oB h λv5 hv5 h=>ae (aQ (aGI v4.basis (wr (x1.1+1)) v5 hv5) k (aC (aE k) (aC (aE k) aS))) k ?_
    refine aT k2<|sR<|am k k<|cm k4<|an<|tn ?_
    rcases cb h with ⟨q6,h⟩|⟨q6,h⟩
    ·refine aD k q6<|sR<|aT k2<|aL<|bB<|aI<|aI ?_
     obtain rfl:=so h
     exact ⟨_,k,k,bG k k k (uG k)⟩
    ·refine aH k q6<|aN<|aY<|tn<|rg<|am k k<|ae (bD k k) k<|aT k2 ?_
     obtain rfl:=so h
     exact ⟨_,k,(aA (σ:=sg []) ⟨⟨_,k,⟨k,k⟩⟩,(e1 k k),(e1 k k),aO⟩ aO k)⟩
  ·refine aH k q1<|bA<|aG<|aG ?_
   obtain rfl:=so h
   exact ⟨_,k,k,(aA (σ:=sg []) (bP k2) aO k)⟩
 ·intro e t hX
  rcases y7 with y8|y9
  ·obtain ⟨rfl,hent⟩:=hX
   refine aR<|tn<|aJ hent<|sR<|am k k<|aT k2<|aL ?_
   exact qP h k2
  ·obtain ⟨rfl,hent⟩:=hX
   refine bB<|aI ?_
   obtain rfl:=so h
   exact hent
end
noncomputable section
def nvS {α:Type} (nv:α→Nat):List α→Nat
 | []=>0
 |x::l=>nv x+nvS nv l
def mvS {α:Type} (mv:Int→α→α) (nv:α→Nat):Int→List α→List α
 |_,[]=>[]
 |k,x::l=>mv k x::mvS mv nv (k+nv x) l
section
variable {α:Type} {mv:Int→α→α} {nv:α→Nat}
theorem rU: ∀ (l:List α) (k:Int),(mvS mv nv k l).length=l.length
 | [],_=>rfl
 |x::l,k=>by simp [mvS,rU l]
theorem aLj: ∀ (l m:List α),nvS nv (l++m)=nvS nv l+nvS nv m
 | [],m=>by simp [nvS]
 |x::l,m=>by simp [nvS,aLj l m];omega
theorem aLk: ∀ (l m:List α) (k:Int),mvS mv nv k (l++m)=mvS mv nv k l++mvS mv nv (k+nvS nv l) m
 | [],m,k=>by simp [mvS,nvS]
 |x::l,m,k=>by
  simp only [List.cons_append,mvS,nvS,aLk l m]
  rw [show k+((nv x+nvS nv l:Nat):Int)=k+(nv x:Int)+(nvS nv l:Int) by omega]
theorem aEz {l:List α} {i:Nat} (hi:i<l.length):nvS nv (l.take (i+1))=nvS nv (l.take i)+nv l[i]:=by
 rw [List.take_succ_eq_append_getElem hi,aLj];simp [nvS]
theorem aGr (l:List α) (i:Nat):nvS nv (l.take i)≤nvS nv l:=by
 have h:nvS nv (l.take i++l.drop i)=nvS nv l:=by rw [List.take_append_drop]
 rw [aLj] at h;omega
theorem aLl {c:Nat} : ∀ {l:List α},(∀ x∈l,nv x≤c)→nvS nv l≤c*l.length
 | [],_=>by simp [nvS]
 |x::l,h=>by
  have h1:=h x (by simp)
  have h2:=aLl (l:=l) λy hy=>h y (by simp [hy])
  simp only [nvS,List.length_cons,Nat.mul_add,Nat.mul_one];omega
theorem aLm {l:List α} {k:Int} {i:Nat} (hi:i<l.length):(mvS mv nv k l)[i]? =some (mv (k+nvS nv (l.take i)) l[i]):=by
 have e:l=l.take i++l[i]::l.drop (i+1):=by rw [←List.drop_eq_getElem_cons hi,List.take_append_drop]
 have e2:mvS mv nv k l=mvS mv nv k (l.take i)++mvS mv nv (k+nvS nv (l.take i)) (l[i]::l.drop (i+1)):=by rw [←aLk,←e]
 rw [e2,List.getElem?_append_right (by rw [rU];simp;omega),rU]
 simp [mvS,Nat.min_eq_left (Nat.le_of_lt hi)]
theorem aDA {l:List α} {k0:Int} {body:List α×Int×Int→Option ((List α×Int×Int) ⊕ (List α×Int))} (h0:0≤k0) (hk:k0+nvS nv l≤4611686018427387904) (hl:l.length≤4611686018427387904)
  (hs: ∀ (r:List α) (i:Nat) (k:Int) (hi:i<r.length),r[i]∈l→0≤k→k+nv r[i]≤4611686018427387904→body (r,k,i)=some (.inl (r.set i (mv k r[i]),k+nv r[i],wr (i+1)))) (he: ∀ r k,body (r,k,(r.length:Int))=some (.inr (r,k))):
  Lp body (l,k0,0)=some (mvS mv nv k0 l,k0+nvS nv l):=by
 rw [eC (r:=(mvS mv nv k0 l,k0+nvS nv l)) (λi=>(mvS mv nv k0 (l.take i)++l.drop i,k0+nvS nv (l.take i),(i:Int))) l.length (by simp [mvS,nvS]) (λi hi=>?_) (λ_=>?_)]
 ·have hm:(mvS mv nv k0 (l.take i)).length=i:=by rw [rU];simp;omega
  have hg:(mvS mv nv k0 (l.take i)++l.drop i)[i]'(by simp [rU];omega)=l[i]:=by
   rw [List.getElem_append_right (by omega)]
   simp [hm]
  have hb:=aGr (nv:=nv) l (i+1)
  rw [aEz hi] at hb
  rw [hs _ i _ (by simp [rU];omega) (by rw [hg];exact List.getElem_mem hi) (by omega) (by rw [hg];omega),hg,cC hi hl]
  congr 2
  refine Prod.ext ?_ (Prod.ext ?_ rfl)
  ·simp only
   rw [List.set_append_right _ _ (by omega),hm,Nat.sub_self,List.drop_eq_getElem_cons hi,List.set_cons_zero,List.take_succ_eq_append_getElem hi,aLk]
   simp [mvS]
  ·simp only
   rw [aEz hi];omega
 ·have:=he (mvS mv nv k0 (l.take l.length)++l.drop l.length) (k0+nvS nv (l.take l.length))
  simp only [List.take_length,List.drop_length,List.append_nil,rU] at this ⊢
  exact this
theorem aGJ {l:List α} {k0:Int} {body:Int×Int→Option ((Int×Int) ⊕ (Int ⊕ Int))} (h0:0≤k0) (hk:k0+nvS nv l≤4611686018427387904) (hl:l.length≤4611686018427387904)
  (hs: ∀ (i:Nat) (hi:i<l.length) (k:Int),k=k0+nvS nv (l.take i)→0≤k→k+nv l[i]≤4611686018427387904→body (k,i)=some (.inl (k+nv l[i],wr (i+1)))) (he: ∀ k,body (k,(l.length:Int))=some (.inr (.inl k))):
  Lp body (k0,0)=some (.inl (k0+nvS nv l)):=by
 rw [eC (r:=Sum.inl (k0+nvS nv l)) (λi=>(k0+nvS nv (l.take i),(i:Int))) l.length (by simp [nvS]) (λi hi=>?_) (λ_=>?_)]
 ·have hb:=aGr (nv:=nv) l (i+1)
  rw [aEz hi] at hb
  rw [hs i hi _ rfl (by omega) (by omega),cC hi hl,aEz hi]
  congr 3
  omega
 ·rw [he];simp
end
def nI (l:List Int):Nat:=nvS (λ_=>1) l
def mvI:Int→List Int→List Int:=mvS (λk _=>k) (λ_=>1)
theorem aBa: ∀ l:List Int,nI l=l.length
 | []=>rfl
 |x::l=>by have:=aBa l;simp only [nI] at this;simp only [nI,nvS,List.length_cons];omega
theorem vW (k:Int) (l:List Int):(mvI k l).length=l.length:=rU l k
theorem aUK {k:Int} {n:Nat} (h:0≤k):decide (k+(n:Int)<0)=false:=decide_eq_false (by omega)
theorem aQK {l:List Int} {k:Int} (h0:0≤k) (hk:k+nI l≤4611686018427387904):fN l k=some (mvI k l,k+nI l):=by
 have hl:=aBa l
 unfold fN
 rw [aDA (mv:=λk _=>k) (nv:=λ_=>1) h0 hk (by omega) (λr i k hi _ g0 g1=>?_) (λr k=>?_),Option.bind_some]
 ·rfl
 ·unfold nK
  simp only
  rw [jS hi,cond_true,dU hi,Option.bind_some,Int.toNat_natCast,dX (x:=k+1) (by omega)]
  simp
 ·unfold nK
  simp only
  rw [mR (Nat.le_refl _),cond_false]
theorem aVl {l:List Int} {k:Int} (h0:0≤k) (hk:k+nI l≤4611686018427387904):tP (mvI k l) k=some (k+nI l):=by
 have hl:=aBa l
 have hm:=vW k l
 unfold tP
 rw [aGJ (l:=l) (nv:=λ_=>1) h0 hk (by omega) (λi hi k' e g0 g1=>?_) (λk'=>?_),Option.bind_some]
 ·rfl
 ·unfold nM
  simp only
  have hg:(mvI k l)[i]? =some k':=by unfold mvI;rw [aLm hi,e]
  rw [hm,jS hi,cond_true,dU (by omega),Option.bind_some]
  have hg':(mvI k l)[i]'(by omega)=k':=by rw [List.getElem?_eq_getElem (by omega)] at hg;exact Option.some.inj hg
  rw [hg',decide_eq_true rfl,Bool.not_true,cond_false,dX (x:=k'+1) (by omega)]
  simp
 ·unfold nM
  simp only
  rw [hm,mR (Nat.le_refl _),cond_false]
def nIS:List (List Int)→Nat:=nvS nI
def aQL:Int→List (List Int)→List (List Int):=mvS mvI nI
theorem aRm {α:Type} {l:List α} {i:Nat} {v:α} (h:l[i]? =some v) (hi:i<l.length):l[i]=v:=by rw [List.getElem?_eq_getElem hi] at h;exact Option.some.inj h
theorem aVA {l:List (List Int)} {k:Int} (h0:0≤k) (hk:k+nIS l≤4611686018427387904) (hl:l.length≤4611686018427387904):rS l k=some (aQL k l,k+nIS l):=by
 unfold rS
 rw [aDA (mv:=mvI) (nv:=nI) h0 hk hl (λr i k hi _ g0 g1=>?_) (λr k=>?_),Option.bind_some]
 ·rfl
 ·unfold lW
  simp only
  rw [jS hi,cond_true,dU hi,Option.bind_some,aQK g0 g1,Option.bind_some,Int.toNat_natCast,vW,decide_eq_true rfl,cond_true]
 ·unfold lW
  simp only
  rw [mR (Nat.le_refl _),cond_false]
theorem aVB {l:List (List Int)} {k:Int} (h0:0≤k) (hk:k+nIS l≤4611686018427387904) (hl:l.length≤4611686018427387904):rT (aQL k l) k=some (k+nIS l):=by
 have hm:(aQL k l).length=l.length:=rU l k
 unfold rT
 rw [aGJ (l:=l) (nv:=nI) h0 hk hl (λi hi k' e g0 g1=>?_) (λk'=>?_),Option.bind_some]
 ·rfl
 ·unfold lX
  simp only
  rw [hm,jS hi,cond_true,dU (by omega),Option.bind_some,aRm (v:=mvI k' l[i]) (by unfold aQL;rw [aLm hi,e]) (by omega),aVl g0 g1,Option.bind_some,aUK g0,cond_false]
 ·unfold lX
  simp only
  rw [hm,mR (Nat.le_refl _),cond_false]
def nSe (s:Sc):Nat:=1+nIS s.basis
def aRo (k:Int) (s:Sc):Sc:=⟨k,aQL (k+1) s.basis⟩
def nSs:List Sc→Nat:=nvS nSe
def aRp:Int→List Sc→List Sc:=mvS aRo nSe
def lS (l:List Sc):Prop:=l.length≤4611686018427387904∧ ∀ s∈l,s.basis.length≤4611686018427387904
theorem aRq (k:Int) (l:List (List Int)):(aQL k l).length=l.length:=rU l k
theorem aRr (k:Int) (l:List Sc):(aRp k l).length=l.length:=rU l k
theorem aVC {l:List Sc} {k:Int} (h0:0≤k) (hk:k+nSs l≤4611686018427387904) (hl:lS l):pR l k=some (aRp k l,k+nSs l):=by
 unfold pR
 rw [aDA (mv:=aRo) (nv:=nSe) h0 hk hl.1 (λr i k hi hm g0 g1=>?_) (λr k=>?_),Option.bind_some]
 ·rfl
 ·unfold nSe at g1
  unfold kT
  simp only
  rw [jS hi,cond_true,dU hi,Option.bind_some,dX (x:=k+1) (by omega),aVA (by omega) (by omega) (hl.2 _ hm),Option.bind_some,aRq,decide_eq_true rfl,cond_true,Int.toNat_natCast]
  unfold aRo nSe
  congr 4
  omega
 ·unfold kT
  simp only
  rw [mR (Nat.le_refl _),cond_false]
theorem aVD {l:List Sc} {k:Int} (h0:0≤k) (hk:k+nSs l≤4611686018427387904) (hl:lS l):kV (aRp k l) k=some (k+nSs l):=by
 have hm:(aRp k l).length=l.length:=rU l k
 unfold kV
 rw [aGJ (l:=l) (nv:=nSe) h0 hk hl.1 (λi hi k' e g0 g1=>?_) (λk'=>?_),Option.bind_some]
 ·rfl
 ·unfold nSe at g1
  unfold kU
  simp only
  rw [hm,jS hi,cond_true,dU (by omega),Option.bind_some,aRm (v:=aRo k' l[i]) (by unfold aRp;rw [aLm hi,e]) (by omega)]
  unfold aRo
  simp only [decide_true,Bool.not_true,cond_false,Option.bind_some]
  rw [dX (x:=k'+1) (by omega),aVB (by omega) (by omega) (hl.2 _ (List.getElem_mem hi)),Option.bind_some,aUK (by omega),cond_false]
  unfold nSe
  congr 3
  omega
 ·unfold kU
  simp only
  rw [hm,mR (Nat.le_refl _),cond_false]
def nQ (q:Qv):Nat:=nI q.src+nI q.tgt
def mvQ (k:Int) (q:Qv):Qv:=⟨q.n,mvI k q.src,mvI (k+nI q.src) q.tgt⟩
theorem aVm {q:Qv} {k:Int} (h0:0≤k) (hk:k+nQ q≤4611686018427387904):pS q k=some ((mvQ k q).src,(mvQ k q).tgt,k+nQ q):=by
 unfold nQ at hk
 unfold pS
 rw [aQK h0 (by omega),Option.bind_some,vW,decide_eq_true rfl,cond_true,aQK (by omega) (by omega),Option.bind_some,vW,decide_eq_true rfl,cond_true]
 unfold mvQ nQ
 congr 3
 omega
def nMe (m:Mt):Nat:=2+nI m.cells
def aUM (k:Int) (m:Mt):Mt:=⟨k,k+1,mvI (k+2) m.cells⟩
def nMs:List Mt→Nat:=nvS nMe
def aUN:Int→List Mt→List Mt:=mvS aUM nMe
theorem aMx (k:Int) (l:List Mt):(aUN k l).length=l.length:=rU l k
theorem aVG {l:List Mt} {k:Int} (h0:0≤k) (hk:k+nMs l≤4611686018427387904) (hl:l.length≤4611686018427387904):nL l k=some (aUN k l,k+nMs l):=by
 unfold nL
 rw [aDA (mv:=aUM) (nv:=nMe) h0 hk hl (λr i k hi hm g0 g1=>?_) (λr k=>?_),Option.bind_some]
 ·rfl
 ·unfold nMe at g1
  unfold jX
  simp only
  rw [jS hi,cond_true,dU hi,Option.bind_some,dX (x:=k+1) (by omega),dX (x:=k+1+1) (by omega),show k+1+1=k+2 by omega,aQK (by omega) (by omega),Option.bind_some,vW,decide_eq_true rfl,cond_true,Int.toNat_natCast]
  unfold aUM nMe
  congr 4
  omega
 ·unfold jX
  simp only
  rw [mR (Nat.le_refl _),cond_false]
def nR (r:Rp):Nat:=nQ r.q+nI r.dims+nMs r.maps
def mvR (k:Int) (r:Rp):Rp:=⟨r.p,mvQ k r.q,mvI (k+nQ r.q) r.dims,aUN (k+nQ r.q+nI r.dims) r.maps⟩
theorem aVn {r:Rp} {k:Int} (h0:0≤k) (hk:k+nR r≤4611686018427387904) (hl:r.maps.length≤4611686018427387904):vV r k=some ((mvR k r).q.src,(mvR k r).q.tgt,(mvR k r).dims,(mvR k r).maps,k+nR r):=by
 unfold nR at hk
 unfold vV
 rw [aVm h0 (by omega),Option.bind_some]
 simp only [mvQ,vW,decide_true,cond_true]
 rw [aQK (by omega) (by omega),Option.bind_some]
 simp only [vW,decide_true,cond_true]
 rw [aVG (by omega) (by omega) hl,Option.bind_some]
 simp only [aMx,decide_true,cond_true]
 unfold mvR nR
 congr 5
 omega
theorem aTM (k:Int) (r:Rp):(mvR k r).q.src.length=r.q.src.length∧(mvR k r).q.tgt.length=r.q.tgt.length∧(mvR k r).dims.length=r.dims.length∧(mvR k r).maps.length=r.maps.length:=⟨vW _ _,vW _ _,vW _ _,aMx _ _⟩
theorem aUO {l:List Mt} (h:l.length≤1048576∧ ∀ m∈l,bM m):nMs l≤2097152*1048576:=by
 have:=aLl (nv:=nMe) (c:=2097152) (l:=l) λm hm=>by have:=(h.2 m hm).1;unfold bI at this;unfold nMe;rw [aBa];omega
 unfold nMs
 calc nvS nMe l≤2097152*l.length:=this
  _≤2097152*1048576:=Nat.mul_le_mul_left _ h.1
theorem aVH {r:Rp} (h:bR r):nR r≤4398046511104:=by
 obtain ⟨⟨h1,h2,_⟩,h3,h4,_⟩:=h
 have:=aUO h4
 unfold bI at h1 h2 h3
 unfold nR nQ
 rw [aBa,aBa,aBa]
 omega
theorem aUP {l:List (List Int)} (h:l.length≤1048576∧ ∀ v∈l,bI v):nIS l≤1048576*1048576:=by
 have:=aLl (nv:=nI) (c:=1048576) (l:=l) λm hm=>by have:=h.2 m hm;unfold bI at this;rw [aBa];exact this
 unfold nIS
 calc nvS nI l≤1048576*l.length:=this
  _≤1048576*1048576:=Nat.mul_le_mul_left _ h.1
theorem aUQ {l:List Sc} (h:l.length≤1048576∧ ∀ s∈l,bS s):nSs l≤2305843009213693952:=by
 have:=aLl (nv:=nSe) (c:=2097152*1048576) (l:=l) λm hm=>by have:=aUP (h.2 m hm).1;unfold nSe;omega
 unfold nSs
 calc nvS nSe l≤2097152*1048576*l.length:=this
  _≤2097152*1048576*1048576:=Nat.mul_le_mul_left _ h.1
  _≤2305843009213693952:=by decide
theorem aTm {l:List Sc} (h:l.length≤1048576∧ ∀ s∈l,bS s):lS l:=⟨by omega,λs hs=>by have:=(h.2 s hs).1.1;omega⟩
end
noncomputable section
set_option maxRecDepth 10000
set_option maxHeartbeats 4000000
end
noncomputable section
theorem aRs {p:Int} (hp:lM p=true) {n:Nat} {l l':List (List Int)} (h:InP p l.length n (cB l)) (h':InP p l'.length n (cB l')) (hK: ∀ x,Kr p l.length n (cB l) x↔Kr p l'.length n (cB l') x):fC p n l=fC p n l':=by
 obtain ⟨e1,e2⟩:=aLO hp h h' hK
 unfold fC
 rw [←e1]
 exact aBz e2
theorem aTn {p:Int} {f:Nat→Int} : ∀ {n:Nat},(∀ k,k<n→Z0 p (f k))→Z0 p (sN f n)
 |0,_=>by unfold Z0;simp [sN]
 |n+1,h=>aNt (aTn λk hk=>h k (by omega)) (h n (by omega))
end
noncomputable section
theorem aRt {k:Nat} {f:Nat→Nat} (hlt: ∀ t,t<k→f t<k) (hinc: ∀ s t,s<t→t<k→f s<f t): ∀ t,t<k→f t=t:=by
 have h1: ∀ t,t<k→t≤f t:=by
  intro t
  induction t with
  |zero=>intro _;exact Nat.zero_le _
  |succ t ih=>intro h;have:=ih (by omega);have:=hinc t (t+1) (by omega) h;omega
 have h2: ∀ d t,t+d+1=k→f t≤t:=by
  intro d
  induction d with
  |zero=>intro t h;have:=hlt t (by omega);omega
  |succ d ih=>intro t h;have:=ih (t+1) (by omega);have:=hinc t (t+1) (by omega) (by omega);omega
 intro t ht
 have:=h1 t ht
 have:=h2 (k - t - 1) t (by omega)
 omega
theorem aOO {L M:List Nat} (hL: ∀ i k,i<k→k<L.length→L[i]?.getD 0<L[k]?.getD 0) (hM: ∀ i k,i<k→k<M.length→M[i]?.getD 0<M[k]?.getD 0) (hs: ∀ t,t<M.length→ ∃ i,i<L.length∧L[i]?.getD 0=M[t]?.getD 0) (hl:L.length=M.length):L=M:=by
 have hs': ∀ t:Nat,∃ i,t<M.length→i<L.length∧L[i]?.getD 0=M[t]?.getD 0:=λt=>by
  by_cases h:t<M.length
  ·obtain ⟨i,hi⟩:=hs t h;exact ⟨i,λ_=>hi⟩
  ·exact ⟨0,λh'=>absurd h' h⟩
 obtain ⟨f,hf⟩:=Classical.axiomOfChoice hs'
 have e:=aRt (k:=M.length) (f:=f) (λt ht=>hl▸(hf t ht).1) (λs t hst ht=>by
  rcases Nat.lt_trichotomy (f s) (f t) with h|h|h
  ·exact h
  ·have a:=(hf s (by omega)).2;have b:=(hf t ht).2;have c:=hM s t hst ht;rw [h,b] at a;omega
  ·have a:=(hf s (by omega)).2;have b:=(hf t ht).2;have c:=hM s t hst ht
   have:=hL (f t) (f s) h (hf s (by omega)).1
   omega)
 refine List.ext_getElem hl λi h1 h2=>?_
 have:=(hf i h2).2
 rw [e i h2] at this
 simpa [h1,h2] using this
theorem aRu {p:Int} (hp:lM p=true) {m m' n:Nat} {F G:Nat→Nat→Int} {L M:List Nat} (hF:Red m n F L) (hG:Red m' n G M) (iF:InP p m n F) (iG:InP p m' n G) (hK: ∀ x,Kr p m n F x→Kr p m' n G x) (hl:L.length=M.length):L=M∧ ∀ i j,i<L.length→j<n→F i j=G i j:=by
 have e:L=M:=aOO hF.inc hG.inc (λt ht=>aLN hp hF hG hK ht) hl
 subst e
 refine ⟨rfl,λi k hi hk=>?_⟩
 have hm:=hF.len
 have hm':=hG.len
 by_cases hL: ∃ t,t<L.length∧L[t]?.getD 0=k
 ·obtain ⟨t,ht,rfl⟩:=hL
  by_cases e:i=t
  ·subst e;rw [hF.one i hi,hG.one i hi]
  ·rw [hF.col t i ht (by omega) e,hG.col t i ht (by omega) e]
 ·have hL: ∀ t,t<L.length→L[t]?.getD 0≠k:=λt ht e=>hL ⟨t,ht,e⟩
  have h1:=hK _ (aLM (p:=p) hF hk hL) i (by omega)
  rw [aMd hF hk hL,aFo (j:=i) hi (λt ht hti=>by rw [hG.col t i ht (by omega) (λe=>hti e.symm)];simp),hG.one i hi,Int.one_mul] at h1
  unfold Z0 at h1
  have b1:=iF i k (by omega) hk
  have b2:=iG i k (by omega) hk
  have e1:G i k % p=F i k % p:=by
   have:=Int.emod_emod_of_dvd
   exact Int.emod_eq_emod_iff_emod_sub_eq_zero.2 h1
  rw [Int.emod_eq_of_lt b2.1 b2.2,Int.emod_eq_of_lt b1.1 b1.2] at e1
  exact e1.symm
theorem aKi {p:Int} {n:Nat} {l:List (List Int)} (hp:lM p=true) (hv:VecsP p n l) (hs:fC p n l=l): ∃ L,L.length=l.length∧Red l.length n (cB l) L:=by
 have hi:=hv.inP
 have hr:=aFn hp hi n (Nat.le_refl _)
 have hlen:(cA p l.length (cB l) n).2.length=l.length:=by
  have:=congrArg List.length hs
  unfold fC at this
  rw [rI] at this
  exact this
 have hrow: ∀ i j,i<l.length→j<n→(cA p l.length (cB l) n).1 i j=cB l i j:=by
  intro i j hi hj
  have:=aIZ (cA p l.length (cB l) n).1 (cA p l.length (cB l) n).2.length n i j (by omega) hj
  unfold fC at hs
  rw [hs] at this
  exact this.symm
 refine ⟨_,hlen,⟨hr.lt,hr.inc,by omega,λi h=>?_,λi k h hk hne=>?_,λi j h h2 hj=>?_,λi j h hj=>?_⟩⟩
 ·rw [←hrow i _ (by omega) (hr.lt i h)];exact hr.one i h
 ·rw [←hrow k _ hk (hr.lt i h)];exact hr.col i k h hk hne
 ·omega
 ·rw [←hrow i j (by omega) (by have:=hr.lt i h;omega)];exact hr.left i j h hj
def rsF (p:Int) (B:Nat→Nat→Int) (L:List Nat) (v:Nat→Int):Nat→Nat→Int
 |0=>v
 |t+1=>λj=>(rsF p B L v t j+(p - rsF p B L v t (L[t]?.getD 0))*B t j) % p
theorem aRv {p:Int} (hp:lM p=true) {B:Nat→Nat→Int} {L:List Nat} {v:Nat→Int} {n:Nat} (hv: ∀ j,j<n→0≤v j∧v j<p): ∀ t j,j<n→0≤rsF p B L v t j∧rsF p B L v t j<p
 |0,j,h=>hv j h
 |t+1,j,_=>aAY hp
theorem aLn {p:Int} (hp:lM p=true) {m n:Nat} {B:Nat→Nat→Int} {L:List Nat} (h:Red m n B L) {v:Nat→Int} : ∀ t,t≤L.length→ ∀ s,s<t→rsF p B L v t (L[s]?.getD 0)=0
 |0,_,s,hs=>absurd hs (Nat.not_lt_zero _)
 |t+1,ht,s,hs=>by
  have hm:=h.len
  simp only [rsF]
  by_cases e:s=t
  ·subst e
   rw [h.one s (by omega),Int.mul_one,show rsF p B L v s (L[s]?.getD 0)+(p - rsF p B L v s (L[s]?.getD 0))=p by omega,Int.emod_self]
  ·rw [h.col s t (by omega) (by omega) (λe'=>e e'.symm),aLn hp h t (by omega) s (by omega)]
   simp
theorem aOP {p:Int} (hp:lM p=true) {m n:Nat} {B:Nat→Nat→Int} {L:List Nat} (hL:L.length≤m) {v x:Nat→Int} (hx:Kr p m n B x): ∀ t,t≤L.length→dt n (rsF p B L v t) x % p=dt n v x % p
 |0,_=>rfl
 |t+1,ht=>by
  have ih:=aOP hp hL (v:=v) hx t (by omega)
  have h1:=hx t (by omega)
  rw [←ih]
  simp only [rsF]
  rw [aLL (g:=λj=>rsF p B L v t j+(p - rsF p B L v t (L[t]?.getD 0))*B t j) (λk _=>by rw [Int.emod_emod_of_dvd _ (Int.dvd_refl p)]),aRK]
  have h2:=aFp (p - rsF p B L v t (L[t]?.getD 0)) h1
  unfold Z0 at h2
  rw [Int.add_emod,h2]
  simp
theorem aRw {p:Int} (hp:lM p=true) {m n:Nat} {B:Nat→Nat→Int} {L:List Nat} (h:Red m n B L) {v:Nat→Int} (hv: ∀ j,j<n→0≤v j∧v j<p):(∀ j,j<n→rsF p B L v L.length j=0)↔ ∀ x,Kr p m n B x→Z0 p (dt n v x):=by
 constructor
 ·intro hz x hx
  have:=aOP hp h.len (v:=v) hx L.length (Nat.le_refl _)
  unfold Z0
  rw [←this]
  have e:dt n (rsF p B L v L.length) x=0:=by
   unfold dt
   rw [qO (g:=λ_=>0) (λk hk=>by rw [hz k hk];simp),aBW]
  rw [e]
  simp
 ·intro hz k hk
  by_cases hL: ∃ t,t<L.length∧L[t]?.getD 0=k
  ·obtain ⟨t,ht,rfl⟩:=hL
   exact aLn hp h L.length (Nat.le_refl _) t ht
  ·have hL: ∀ t,t<L.length→L[t]?.getD 0≠k:=λt ht e=>hL ⟨t,ht,e⟩
   have hx:=aLM (p:=p) h hk hL
   have h1:=hz _ hx
   unfold Z0 at h1
   rw [←aOP hp h.len (v:=v) hx L.length (Nat.le_refl _),aMd h hk hL,qO (g:=λ_=>0) (λi hi=>by rw [aLn hp h L.length (Nat.le_refl _) i hi];simp),aBW,Int.sub_zero] at h1
   have b:=aRv hp (B:=B) (L:=L) hv L.length k hk
   rw [Int.emod_eq_of_lt b.1 b.2] at h1
   exact h1
theorem aDB {p:Int} {n:Nat} {a b:List (List Int)} {x:Nat→Int} :Kr p (a++b).length n (cB (a++b)) x↔Kr p a.length n (cB a) x∧Kr p b.length n (cB b) x:=by
 have e1: ∀ i,i<a.length→cB (a++b) i=cB a i:=λi hi=>by funext j;simp only [cB];rw [List.getElem?_append_left hi]
 have e2: ∀ i,cB (a++b) (a.length+i)=cB b i:=λi=>by funext j;simp only [cB];rw [List.getElem?_append_right (by omega),Nat.add_sub_cancel_left]
 unfold Kr
 rw [List.length_append]
 refine ⟨λh=>⟨λi hi=>e1 i hi▸h i (by omega),λi hi=>e2 i▸h (a.length+i) (by omega)⟩,λh i hi=>?_⟩
 rcases Nat.lt_or_ge i a.length with h'|h'
 ·rw [e1 i h'];exact h.1 i h'
 ·have:=h.2 (i - a.length) (by omega)
  rw [←e2,show a.length+(i - a.length)=i by omega] at this
  exact this
theorem zW {p:Int} (hp:lM p=true) {n:Nat} {a b:List (List Int)} (ha:VecsP p n a) (hb:VecsP p n b) (hs:fC p n b=b):(aJg p n a b).length=b.length↔ ∀ x,Kr p b.length n (cB b) x→Kr p a.length n (cB a) x:=by
 have hi:=(ha.append hb).inP
 constructor
 ·intro hl x hx
  obtain ⟨L,hLl,hR⟩:=aKi hp hb hs
  have hr:=aFn hp hi n (Nat.le_refl _)
  have hb':=gB hp
  have hlen:(cA p (a++b).length (cB (a++b)) n).2.length=L.length:=by
   unfold aJg fC at hl
   rw [rI] at hl
   omega
  obtain ⟨_,h2⟩:=aRu hp hr hR (sJ (by omega) hi n) hb.inP (λx hx=>(aDB.1 ((aEc hp hi x n (Nat.le_refl _)).1 hx)).2) hlen
  refine (aDB.1 ((aEc hp hi x n (Nat.le_refl _)).1 λi hi'=>?_)).1
  rcases Nat.lt_or_ge i (cA p (a++b).length (cB (a++b)) n).2.length with h'|h'
  ·have e:dt n ((cA p (a++b).length (cB (a++b)) n).1 i) x=dt n (cB b i) x:=qO λk hk=>by rw [h2 i k h' hk]
   rw [e]
   exact hx i (by omega)
  ·have e:dt n ((cA p (a++b).length (cB (a++b)) n).1 i) x=0:=by
    unfold dt
    rw [qO (g:=λ_=>0) (λk hk=>by rw [hr.low i k h' hi' hk];simp),aBW]
   rw [e]
   unfold Z0
   simp
 ·intro hK
  unfold aJg
  rw [aRs hp hi hb.inP λx=>⟨λh=>(aDB.1 h).2,λh=>aDB.2 ⟨hK x h,h⟩⟩,hs]
end
noncomputable section
def sV (r:Rp) (i:Nat):Nat:=(r.q.src[i]?.getD 0).toNat
def tV (r:Rp) (i:Nat):Nat:=(r.q.tgt[i]?.getD 0).toNat
def aF (r:Rp) (i:Nat):Nat→Nat→Int:=λj k=>(r.maps[i]?.getD ⟨0,0,[]⟩).cells[j*dN r (sV r i)+k]?.getD 0
structure Rv (r:Rp):Prop where
 hp:lM r.p=true
 n5:r.dims.length≤5
 d: ∀ k,k<r.dims.length→r.dims[k]?.getD 0=(dN r k:Int)∧dN r k≤4
 e6:r.q.src.length≤6
 tl:r.q.tgt.length=r.q.src.length
 ml:r.maps.length=r.q.src.length
 s: ∀ i,i<r.q.src.length→r.q.src[i]?.getD 0=(sV r i:Int)∧sV r i<r.dims.length
 t: ∀ i,i<r.q.src.length→r.q.tgt[i]?.getD 0=(tV r i:Int)∧tV r i<r.dims.length
 m: ∀ i,i<r.q.src.length→r.maps[i]?.getD ⟨0,0,[]⟩=⟨dN r (tV r i),dN r (sV r i),cJ (dN r (tV r i)) (dN r (sV r i)) (aF r i)⟩∧InP r.p (dN r (tV r i)) (dN r (sV r i)) (aF r i)
theorem aMy {r:Rp} (h:aEt r=true):Rv r:=by
 obtain ⟨hp,hD,hml,hM⟩:=aRg h
 obtain ⟨hQ,hd1,hd2,_⟩:=aCO hD
 obtain ⟨n,hn,hn1,hn5,hq1,hq2,hq3,hq4⟩:=aCN hQ
 have hdl:r.dims.length=n:=by omega
 have hd: ∀ k,k<r.dims.length→r.dims[k]?.getD 0=(dN r k:Int)∧dN r k≤4:=by
  intro k hk
  have:=hd2 _ (dJ 0 hk)
  unfold dN
  omega
 have hs: ∀ i,i<r.q.src.length→r.q.src[i]?.getD 0=(sV r i:Int)∧sV r i<r.dims.length:=by
  intro i hi
  have:=hq3 _ (dJ 0 hi)
  unfold sV
  omega
 have ht: ∀ i,i<r.q.src.length→r.q.tgt[i]?.getD 0=(tV r i:Int)∧tV r i<r.dims.length:=by
  intro i hi
  have:=hq4 _ (dJ 0 (show i<r.q.tgt.length by omega))
  unfold tV
  omega
 refine ⟨hp,by omega,hd,hq2,by omega,hml,hs,ht,λi hi=>?_⟩
 obtain ⟨g1,g2,g3⟩:=hM i (by omega)
 rw [show (r.q.src[i]?.getD 0).toNat=sV r i from rfl,(hd _ (hs i hi).2).1] at g2
 rw [show (r.q.tgt[i]?.getD 0).toNat=tV r i from rfl,(hd _ (ht i hi).2).1] at g3
 obtain ⟨_,a,b,F,ha,hb,he,hF⟩:=aOH g1
 have ea:a=dN r (tV r i):=by rw [he] at g3;simp only at g3;omega
 have eb:b=dN r (sV r i):=by rw [he] at g2;simp only at g2;omega
 have em: ∀ j k,j<a→k<b→aF r i j k=F j k:=by
  intro j k hj hk
  unfold aF
  rw [he,←eb]
  simp only
  rw [mB F hj hk];rfl
 subst ea;subst eb
 rw [he]
 refine ⟨?_,λj k hj hk=>by rw [em j k hj hk];exact hF j k hj hk⟩
 rw [cH em]
theorem aTN {α:Type} {f:Nat→α} {n k:Nat} (h:k<n):cR ((List.range n).map f) (k:Int)=some (f k):=by rw [dU (by simp;exact h)];simp
theorem aJr {R N:Nat} (hN:R*N≤1048576) (h1:R≤1048576) (h2:N≤1048576) (M:Nat→Nat→Int):jL R ((List.range N).map λk=>mJ R λi=>M i k)=some ⟨R,N,cJ R N M⟩:=by
 unfold jL
 rw [List.length_map,List.length_range,aRd hN,Option.bind_some]
 simp only
 rw [eC (r:=cJ R N M) (λk=>(cJ R N (λi j=>if j<k then M i j else 0),(k:Int))) N (by simp) (λk hk=>?_) (λ_=>?_),Option.bind_some]
 ·unfold jW
  simp only
  rw [List.length_map,List.length_range,jS hk,cond_true,aTN hk,Option.bind_some]
  rw [eC (r:=cJ R N (λi j=>if j<k+1 then M i j else 0)) (λx=>(cJ R N (λi j=>if j<k∨(j=k∧i<x) then M i j else 0),(x:Int))) R (by simp) (λx hx=>?_) (λ_=>?_),Option.bind_some,cC hk (by omega)]
  ·unfold jV
   simp only
   rw [fE,jS hx,cond_true,aHq _ hx,Option.bind_some,atT hN hx hk,Option.bind_some,aQF hN hx hk,cC hx (by omega)]
   congr 3
   refine cH λi j hi hj=>?_
   simp only [aFm]
   by_cases e:i=x∧j=k
   ·rw [if_pos e,if_pos (by omega),e.1,e.2]
   ·rw [if_neg e]
    by_cases e2:j<k∨j=k∧i<x
    ·rw [if_pos e2,if_pos (by omega)]
    ·rw [if_neg e2,if_neg (by omega)]
  ·unfold jV
   simp only
   rw [fE,mR (Nat.le_refl _),cond_false]
   congr 2
   refine cH λi j hi hj=>?_
   by_cases e:j<k+1
   ·rw [if_pos e,if_pos (by omega)]
   ·rw [if_neg e,if_neg (by omega)]
 ·unfold jW
  simp only
  rw [List.length_map,List.length_range,mR (Nat.le_refl _),cond_false]
  congr 2
  exact cH λi j hi hj=>by rw [if_pos hj]
end
noncomputable section
def aUR (n:Nat) (l:List (List Int)):Mt:=⟨n,(l.length:Int),cJ n l.length λi k=>cB l k i⟩
theorem aQM {n:Nat} {l:List (List Int)} (h: ∀ v∈l,v.length=n):l=(List.range l.length).map λk=>mJ n λi=>cB l k i:=aPQ h
theorem aUS {n:Nat} {l:List (List Int)} (hn:n≤1024) (hl:l.length≤512) (h: ∀ v∈l,v.length=n):jL n l=some (aUR n l):=by
 have hN:n*l.length≤1048576:=by have:=Nat.mul_le_mul hn hl;omega
 have e:=aJr hN (by omega) (by omega) (λi k=>cB l k i)
 rw [←aQM h] at e
 exact e
theorem aVI {α β:Type} {f:α→β} {l:List α} {k:Nat} (hk:k<l.length):(l.take k).map f++[f l[k]]=(l.take (k+1)).map f:=by rw [List.take_succ_eq_append_getElem hk,List.map_append];rfl
end
end Go.Proofs.YtghechfdejhapaaGreat

/-
  Several texts of the claim in one.
-/
import Derived.Test.YtghechfdejhapaaGreatProg
import Derived.Test.YtghechfdejhapaaGreatH7
set_option linter.unusedVariables false
set_option linter.unusedSimpArgs false
namespace Go.Proofs.YtghechfdejhapaaGreat
open Go.RowKit
noncomputable section
theorem gF {c d:Bool} {o:Option Bool} (h:c=true→o=some d):(bif c then o else some false)=some (c&&d):=by cases c with|false=>rfl|true=>exact h rfl
theorem aAg {c d:Bool} :(bif c then some d else some false)=some (c&&d):=by cases c <;> rfl
theorem aPm {x a b:Int} :(bif decide (a≤x) then some (decide (x≤b)) else some false)=some (pX x a b):=by
 rw [aAg]
 unfold pX
 by_cases h1:a≤x <;> by_cases h2:x≤b <;> simp [h1,h2]
theorem zG (x a b:Int):iC x a b=some (pX x a b):=aPm
theorem vE (x a b:Int):dZ x a b=some (pX x a b):=aPm
theorem aNQ (p:Int):(bif decide (p=2) then some true else bif decide (p=3) then some true else some (decide (p=5)))=some (mG p):=by
 unfold mG
 by_cases h2:p=2 <;> by_cases h3:p=3 <;> by_cases h5:p=5 <;> simp [h2,h3,h5]
theorem aFY (p:Int):fL p=some (mG p):=aNQ p
theorem aDc (p:Int):iM p=some (mG p):=aNQ p
theorem aVZ {a b:List Int} (h:bI a):aKN a b=some (decide (a=b)):=by
 unfold bI at h
 exact aME (body:=aBj a b) (by omega) rfl
theorem aQe {a b:List Int} (h:bI a):mT a b=some (decide (a=b)):=by
 unfold bI at h
 exact aME (body:=jV a b) (by omega) rfl
theorem aGk (p:Int) {v:List Int} (h:bI v):gO p v=some (mG p&&decide (v.length≤64)&&v.all λx=>pX x 0 (wr (p - 1))):=by
 unfold bI at h
 unfold gO
 rw [aFY,Option.bind_some]
 cases mG p with
 |false=>rfl
 |true=>
  rw [Bool.not_true,cond_false,Bool.true_and]
  by_cases h64:v.length≤64
  ·rw [decide_eq_false (by omega),cond_false,decide_eq_true h64,Bool.true_and]
   rw [yC (λk=>pX (v[k]?.getD 0) 0 (wr (p - 1))) false (n:=v.length) (by omega) (λk hk=>?_) (λ_=>?_),wF 0 v (λx=>pX x 0 (wr (p - 1))),Option.bind_some]
   ·cases v.all _ <;> rfl
   ·unfold gV
    rw [kI hk,cond_true,rA 0 hk,Option.bind_some,vE,Option.bind_some]
    cases pX _ 0 _ <;> rfl
   ·unfold gV
    rw [nD (Nat.le_refl _),cond_false]
  ·rw [decide_eq_true (by omega),cond_true,decide_eq_false h64,Bool.false_and]
theorem aNR {v:List Int} {f:Int→Option Bool} (P:Int→Bool) (hf: ∀ x,f x=some (P x)) (h:bI v): ∃ i:Int,dG v f=some i∧decide (0≤i)=v.any P:=by
 unfold bI at h
 unfold dG
 rw [aGQ (s0:=0) (s:=0) (n:=v.length) (λk=>bif P (v[k]?.getD 0) then some (k:Int) else none) rfl (by omega) (Nat.zero_le _) (λk _ hk=>?_) (λ_=>?_)]
 ·rw [Option.bind_some]
  cases e:(List.range' 0 (v.length - 0)).findSome? (λk:Nat=>bif P (v[k]?.getD 0) then some (k:Int) else none) with
  |none=>
   refine ⟨-1,rfl,?_⟩
   rw [List.findSome?_eq_none_iff] at e
   have:v.any P=false:=by
    rw [List.any_eq_false]
    intro x hx
    obtain ⟨k,hk,rfl⟩:=List.mem_iff_getElem.1 hx
    have:=e k (by simp;omega)
    simp only [List.getElem?_eq_getElem hk,Option.getD_some] at this
    cases hp:P v[k] with
    |false=>simp
    |true=>rw [hp] at this;cases this
   rw [this];rfl
  |some i=>
   refine ⟨i,rfl,?_⟩
   obtain ⟨k,hk,he⟩:=List.exists_of_findSome?_eq_some e
   simp at hk
   have hkl:k<v.length:=by omega
   rw [List.getElem?_eq_getElem hkl] at he
   simp only [Option.getD_some] at he
   cases hp:P v[k] with
   |false=>rw [hp] at he;cases he
   |true=>
    rw [hp] at he
    cases he
    rw [decide_eq_true (by omega),eq_comm,List.any_eq_true]
    exact ⟨_,List.getElem_mem hkl,hp⟩
 ·unfold bZ
  rw [kI hk,cond_true,rA 0 hk,Option.bind_some,hf,Option.bind_some]
  cases P _ <;> rfl
 ·unfold bZ
  rw [nD (Nat.le_refl _),cond_false]
theorem rH {v:List Int} (h:bI v) (a b:Int):eP v a b=some (v.all λx=>pX x a b):=by
 unfold eP gZ
 obtain ⟨i,h1,h2⟩:=aNR (f:=λb0=>jW b0 a b) (λx=> !pX x a b) (λx=>by simp only [jW];rw [zG,Option.bind_some]) h
 rw [h1,Option.bind_some,Option.bind_some,h2,List.not_any_eq_all_not]
 simp
theorem aLE (p:Int) {v:List Int} (h:bI v):oZ p v=some (mG p&&decide (v.length≤64)&&v.all λx=>pX x 0 (wr (p - 1))):=by
 unfold oZ
 rw [aDc,Option.bind_some,rH h,Option.bind_some,aAg,aAg,Bool.and_assoc]
 congr 3
 rw [Bool.eq_iff_iff,decide_eq_true_eq,decide_eq_true_eq];omega
def aDk (p:Int) (m:Mt):Bool:=pX m.rows 0 8&&(pX m.cols 0 8&&(decide ((m.cells.length:Int)=wr (m.rows*m.cols))&&(mG p&&decide (m.cells.length≤64)&&m.cells.all λx=>pX x 0 (wr (p - 1)))))
theorem aGl (p:Int) {m:Mt} (h:bM m):kX p m=some (aDk p m):=by
 unfold kX aDk
 rw [vE,Option.bind_some]
 refine gF λ_=>?_
 rw [vE,Option.bind_some]
 refine gF λ_=>?_
 refine gF λ_=>?_
 rw [aGk p h.1,Option.bind_some]
theorem aQf (p:Int) {m:Mt} (h:bM m):uA p m=some (aDk p m):=by
 unfold uA aDk
 rw [zG,Option.bind_some]
 refine gF λ_=>?_
 rw [zG,Option.bind_some]
 refine gF λ_=>?_
 refine gF λ_=>?_
 rw [aLE p h.1,Option.bind_some]
theorem aOk {p:Int} {m:Mt} (h:aDk p m=true):mG p=true∧ ∃ (r c:Nat) (F:Nat→Nat→Int),r≤8∧c≤8∧m=⟨r,c,cK r c F⟩∧ ∀ i j,i<r→j<c→0≤F i j∧F i j<p:=by
 unfold aDk at h
 simp only [Bool.and_eq_true,decide_eq_true_eq,List.all_eq_true] at h
 obtain ⟨h1,h2,h3,⟨h4,h5⟩,h6⟩:=h
 have h1:=gS h1
 have h2:=gS h2
 refine ⟨h4,m.rows.toNat,m.cols.toNat,λi j=>m.cells[i*m.cols.toNat+j]?.getD 0,by omega,by omega,?_,?_⟩
 ·obtain ⟨a,b,l⟩:=m
  simp only at*
  obtain ⟨r,rfl⟩:=Int.eq_ofNat_of_zero_le h1.1
  obtain ⟨c,rfl⟩:=Int.eq_ofNat_of_zero_le h2.1
  have hb:r*c≤64:=Nat.mul_le_mul (by omega:r≤8) (by omega:c≤8)
  rw [aNG (by omega)] at h3
  simp only [Int.toNat_natCast]
  rw [←aTW (by omega)]
 ·intro i j hi hj
  show 0≤m.cells[i*m.cols.toNat+j]?.getD 0∧m.cells[i*m.cols.toNat+j]?.getD 0<p
  have hx:=aPc hi hj
  have e:((m.rows.toNat*m.cols.toNat:Nat):Int)=m.rows*m.cols:=by
   rw [Int.natCast_mul,Int.toNat_of_nonneg h1.1,Int.toNat_of_nonneg h2.1]
  have hb:m.rows.toNat*m.cols.toNat≤64:=Nat.mul_le_mul (by omega:m.rows.toNat≤8) (by omega:m.cols.toNat≤8)
  rw [dX (by omega)] at h3
  have hl:i*m.cols.toNat+j<m.cells.length:=by omega
  have:=gS (h6 _ (List.getElem_mem hl))
  rw [List.getElem?_eq_getElem hl,Option.getD_some]
  have hp:=gH h4
  rw [dX (by omega)] at this
  omega
def aHS (q:Qv):Bool:=pX q.n 1 5&&(decide ((q.src.length:Int)=(q.tgt.length:Int))&&(decide ((q.src.length:Int)≤6)&&((q.src.all λx=>pX x 0 (wr (q.n - 1)))&&(q.tgt.all λx=>pX x 0 (wr (q.n - 1))))))
theorem aTj {q:Qv} (h:bQ q):uB q=some (aHS q):=by
 unfold uB aHS
 rw [zG,Option.bind_some]
 refine gF λ_=>gF λ_=>gF λ_=>?_
 rw [rH h.1,Option.bind_some]
 refine gF λ_=>?_
 rw [rH h.2.1,Option.bind_some]
theorem aTk {q:Qv} (h:bQ q):tX q=some (aHS q):=by
 obtain ⟨h1,h2,_⟩:=h
 unfold bI at h1 h2
 unfold tX
 rw [yC (n:=min q.src.length q.tgt.length) (λk=>pX (q.src[k]?.getD 0) 0 (wr (q.n - 1))&&pX (q.tgt[k]?.getD 0) 0 (wr (q.n - 1))) false (by omega) (λk hk=>?_) (λ_=>?_)]
 ·rw [Option.bind_some]
  unfold aHS
  by_cases e:q.src.length=q.tgt.length
  ·have e2:min q.src.length q.tgt.length=q.src.length:=by omega
   have hall:(List.range q.src.length).all (λk=>pX (q.src[k]?.getD 0) 0 (wr (q.n - 1))&&pX (q.tgt[k]?.getD 0) 0 (wr (q.n - 1)))=((q.src.all λx=>pX x 0 (wr (q.n - 1)))&&(q.tgt.all λx=>pX x 0 (wr (q.n - 1)))):=by
    rw [←wF 0 q.src,←wF 0 q.tgt,←e]
    rw [Bool.eq_iff_iff,Bool.and_eq_true,rY,rY,rY]
    simp only [Bool.and_eq_true]
    exact ⟨λh=>⟨λk hk=>(h k hk).1,λk hk=>(h k hk).2⟩,λh k hk=>⟨h.1 k hk,h.2 k hk⟩⟩
   rw [e2,hall,decide_eq_true (by omega:(q.src.length:Int)=(q.tgt.length:Int))]
   cases (q.src.all λx=>pX x 0 (wr (q.n - 1)))&&(q.tgt.all λx=>pX x 0 (wr (q.n - 1))) with
   |false=>simp
   |true=>
    simp only [cond_true,Sum.elim_inl]
    rw [vE,Option.bind_some,decide_eq_true (by omega:(q.tgt.length:Int)=(q.src.length:Int)),aAg,aAg]
    simp
  ·rw [decide_eq_false (by omega: ¬ (q.src.length:Int)=(q.tgt.length:Int))]
   simp only [Bool.false_and,Bool.and_false]
   cases (List.range (min q.src.length q.tgt.length)).all _ with
   |false=>rfl
   |true=>
    simp only [cond_true,Sum.elim_inl]
    rw [vE,Option.bind_some,decide_eq_false (by omega: ¬ (q.tgt.length:Int)=(q.src.length:Int)),aAg,aAg]
    simp
 ·unfold nO
  rw [kI (by omega),cond_true,kI (by omega),cond_true,rA 0 (by omega),Option.bind_some,vE,Option.bind_some,rA 0 (by omega),Option.bind_some,vE,Option.bind_some]
  cases pX (q.src[k]?.getD 0) 0 (wr (q.n - 1)) <;> cases pX (q.tgt[k]?.getD 0) 0 (wr (q.n - 1)) <;> rfl
 ·unfold nO
  by_cases e:q.src.length≤q.tgt.length
  ·rw [nD (by omega),cond_false]
  ·rw [kI (by omega),cond_true,nD (by omega),cond_false]
theorem aCr {q:Qv} (h:aHS q=true): ∃ n:Nat,q.n=n∧1≤n∧n≤5∧q.src.length=q.tgt.length∧q.src.length≤6∧(∀ x∈q.src,0≤x∧x<n)∧ ∀ x∈q.tgt,0≤x∧x<n:=by
 unfold aHS at h
 simp only [Bool.and_eq_true,decide_eq_true_eq,List.all_eq_true] at h
 obtain ⟨h1,h2,h3,h4,h5⟩:=h
 have h1:=gS h1
 rw [dX (by omega)] at h4 h5
 refine ⟨q.n.toNat,by omega,by omega,by omega,by omega,by omega,λx hx=>?_,λx hx=>?_⟩
 ·have:=gS (h4 x hx);omega
 ·have:=gS (h5 x hx);omega
def aHT (q:Qv) (d:List Int):Bool:=aHS q&&(decide ((d.length:Int)=q.n)&&((d.all λx=>pX x 0 4)&&decide (d.sum≤8)))
theorem aOl {d:List Int} (h: ∀ x∈d,0≤x∧x≤4):0≤d.sum∧d.sum≤4*d.length:=by
 induction d with
 |nil=>simp
 |cons x d ih=>
  have h1:=h x (by simp)
  have h2:=ih λy hy=>h y (by simp [hy])
  simp only [List.sum_cons,List.length_cons]
  omega
theorem wV {d:List Int} {k:Nat} (hk:k<d.length):(d.take (k+1)).sum=(d.take k).sum +d[k]?.getD 0:=by
 rw [List.take_succ_eq_append_getElem hk,List.sum_append]
 simp [hk]
theorem aPn {d:List Int} (h: ∀ x∈d,0≤x∧x≤4) (hl:d.length≤1048576):fB d=some d.sum:=by
 unfold fB
 rw [eD (r:=d.sum) (λk=>((d.take k).sum,(k:Int))) d.length (by simp) (λk hk=>?_) (λ_=>?_)];rfl
 ·unfold kW
  simp only
  rw [kI hk,cond_true,rA 0 hk,Option.bind_some,cC hk (by omega)]
  have h1:=aOl (d:=d.take (k+1)) λx hx=>h x (List.mem_of_mem_take hx)
  rw [←wV hk,dX (by simp at h1;omega)]
 ·unfold kW
  simp only
  rw [nD (Nat.le_refl _),cond_false,List.take_length]
theorem aOm {q:Qv} {d:List Int} (hq:bQ q) (hd:bI d):wT q d=some (aHT q d):=by
 unfold wT aHT
 rw [aTj hq,Option.bind_some]
 refine gF λ_=>gF λ_=>?_
 rw [rH hd,Option.bind_some]
 refine gF λh=>?_
 rw [aPn (λx hx=>gS (List.all_eq_true.1 h x hx)) hd,Option.bind_some]
theorem aOn {q:Qv} {d:List Int} (hq:bQ q) (hd:bI d):wR q d=some (aHT q d):=by
 unfold bI at hd
 unfold wR aHT
 rw [aTk hq,Option.bind_some]
 refine gB λ_=>gB λ_=>?_
 cases hall:d.all (λx=>pX x 0 4) with
 |true=>
  have hb: ∀ x∈d,0≤x∧x≤4:=λx hx=>gS (List.all_eq_true.1 hall x hx)
  rw [eD (r:= .inl d.sum) (λk=>((d.take k).sum,(k:Int))) d.length (by simp) (λk hk=>?_) (λ_=>?_)];rfl
  ·unfold iZ
   simp only
   rw [kI hk,cond_true,rA 0 hk,Option.bind_some,vE,Option.bind_some]
   have hin:pX (d[k]?.getD 0) 0 4=true:=by rw [List.getElem?_eq_getElem hk];exact List.all_eq_true.1 hall _ (List.getElem_mem hk)
   rw [hin,Bool.not_true,cond_false,Option.bind_some,cC hk (by omega)]
   have h1:=aOl (d:=d.take (k+1)) λx hx=>hb x (List.mem_of_mem_take hx)
   rw [←wV hk,dX (by simp at h1;omega)]
  ·unfold iZ
   simp only
   rw [nD (Nat.le_refl _),cond_false,List.take_length]
 |false=>
  have key:=aPa (body:=iZ d) (s:=(0,0)) (λs=> ∃ k:Nat,s.2=k∧k≤d.length∧ ∀ j,j<k→pX (d[j]?.getD 0) 0 4=true) (λs=>d.length - s.2.toNat) (λr=>r= .inr false)
   ⟨0,rfl,Nat.zero_le _,λj hj=>absurd hj (Nat.not_lt_zero _)⟩ (λs ⟨k,hs,hk,hj⟩=>?_)
  ·obtain ⟨r,h1,h2⟩:=key
   rw [h1,h2];rfl
  ·obtain ⟨t,s2⟩:=s
   simp only at hs
   subst hs
   rcases Nat.lt_or_ge k d.length with hlt|hge
   ·unfold iZ
    simp only
    rw [kI hlt,cond_true,rA 0 hlt,Option.bind_some,vE,Option.bind_some]
    cases hin:pX (d[k]?.getD 0) 0 4 with
    |false=>exact .inr ⟨_,rfl,rfl⟩
    |true=>
     rw [Bool.not_true,cond_false,Option.bind_some,cC hlt (by omega)]
     refine .inl ⟨_,rfl,⟨k+1,rfl,hlt,λj hj2=>?_⟩,by simp;omega⟩
     by_cases e:j=k
     ·subst e;exact hin
     ·exact hj j (by omega)
   ·exfalso
    have:d.all (λx=>pX x 0 4)=true:=by
     rw [←wF 0 d,rY];exact λj hj'=>hj j (by omega)
    rw [hall] at this;cases this
theorem aCs {q:Qv} {d:List Int} (h:aHT q d=true):aHS q=true∧(d.length:Int)=q.n∧(∀ x∈d,0≤x∧x≤4)∧d.sum≤8:=by
 unfold aHT at h
 simp only [Bool.and_eq_true,decide_eq_true_eq,List.all_eq_true] at h
 exact ⟨h.1,h.2.1,λx hx=>gS (h.2.2.1 x hx),h.2.2.2⟩
def aFZ (r:Rp):Bool:=mG r.p&&(aHT r.q r.dims&&(decide ((r.maps.length:Int)=(r.q.src.length:Int))&&(List.range r.maps.length).all λk=>
 aDk r.p (r.maps[k]?.getD ⟨0,0,[]⟩)&&(decide ((r.maps[k]?.getD ⟨0,0,[]⟩).cols=r.dims[(r.q.src[k]?.getD 0).toNat]?.getD 0)&&decide ((r.maps[k]?.getD ⟨0,0,[]⟩).rows=r.dims[(r.q.tgt[k]?.getD 0).toNat]?.getD 0))))
theorem dJ {α:Type} {l:List α} {k:Nat} (d:α) (h:k<l.length):l[k]?.getD d∈l:=by rw [List.getElem?_eq_getElem h];exact List.getElem_mem h
theorem aLF {r:Rp} (h:bR r):wS r=some (aFZ r):=by
 obtain ⟨h1,h2,⟨h3,h4⟩,_⟩:=h
 unfold wS aFZ
 rw [aFY,Option.bind_some]
 refine gB λhF=>?_
 rw [aOn h1 h2,Option.bind_some]
 refine gB λhD=>?_
 obtain ⟨hQ,hd1,hd2,_⟩:=aCs hD
 obtain ⟨n,hn,_,_,hq1,hq2,hq3,hq4⟩:=aCr hQ
 refine gB λhL=>?_
 have hL:=of_decide_eq_true hL
 rw [yC (λk=>aDk r.p (r.maps[k]?.getD ⟨0,0,[]⟩)&&(decide ((r.maps[k]?.getD ⟨0,0,[]⟩).cols=r.dims[(r.q.src[k]?.getD 0).toNat]?.getD 0)&&decide ((r.maps[k]?.getD ⟨0,0,[]⟩).rows=r.dims[(r.q.tgt[k]?.getD 0).toNat]?.getD 0))) false (n:=r.maps.length) (by omega) (λk hk=>?_) (λ_=>?_),Option.bind_some]
 ·cases (List.range r.maps.length).all _ <;> rfl
 ·have hs:=hq3 _ (dJ 0 (show k<r.q.src.length by omega))
  have ht:=hq4 _ (dJ 0 (show k<r.q.tgt.length by omega))
  unfold tZ
  rw [kI hk,cond_true,rA ⟨0,0,[]⟩ hk,Option.bind_some,aGl _ (h4 _ (dJ _ hk)),Option.bind_some,Option.bind_some,rA 0 (by omega),Option.bind_some,atI 0 hs.1 (by omega),Option.bind_some,Option.bind_some,rA 0 (by omega),Option.bind_some,atI 0 ht.1 (by omega),Option.bind_some]
  cases aDk r.p _ <;> cases decide ((r.maps[k]?.getD _).cols=_) <;> cases decide ((r.maps[k]?.getD _).rows=_) <;> rfl
 ·unfold tZ
  rw [nD (Nat.le_refl _),cond_false]
theorem aLG {r:Rp} (h:bR r):wU r=some (aFZ r):=by
 obtain ⟨h1,h2,⟨h3,h4⟩,_⟩:=h
 unfold wU aFZ
 rw [aDc,Option.bind_some]
 refine gB λhF=>?_
 rw [aOm h1 h2,Option.bind_some]
 refine gB λhD=>?_
 obtain ⟨hQ,hd1,hd2,_⟩:=aCs hD
 obtain ⟨n,hn,_,_,hq1,hq2,hq3,hq4⟩:=aCr hQ
 refine gB λhL=>?_
 have hL:=of_decide_eq_true hL
 rw [yC (λk=>aDk r.p (r.maps[k]?.getD ⟨0,0,[]⟩)&&(decide ((r.maps[k]?.getD ⟨0,0,[]⟩).cols=r.dims[(r.q.src[k]?.getD 0).toNat]?.getD 0)&&decide ((r.maps[k]?.getD ⟨0,0,[]⟩).rows=r.dims[(r.q.tgt[k]?.getD 0).toNat]?.getD 0))) false (n:=r.maps.length) (by omega) (λk hk=>?_) (λ_=>?_),Option.bind_some]
 ·cases (List.range r.maps.length).all _ <;> rfl
 ·have hs:=hq3 _ (dJ 0 (show k<r.q.src.length by omega))
  have ht:=hq4 _ (dJ 0 (show k<r.q.tgt.length by omega))
  unfold uC
  rw [kI hk,cond_true,rA ⟨0,0,[]⟩ hk,Option.bind_some,aQf _ (h4 _ (dJ _ hk)),Option.bind_some,rA 0 (by omega),Option.bind_some,atI 0 hs.1 (by omega),Option.bind_some,rA 0 (by omega),Option.bind_some,atI 0 ht.1 (by omega),Option.bind_some]
  cases aDk r.p _ <;> cases decide ((r.maps[k]?.getD _).cols=_) <;> cases decide ((r.maps[k]?.getD _).rows=_) <;> rfl
 ·unfold uC
  rw [nD (Nat.le_refl _),cond_false]
end
noncomputable section
theorem aMF {a b:Int} (ha:0≤a∧a≤5) (hb:0≤b∧b≤5):0≤a*b∧a*b≤25:=by
 refine ⟨Int.mul_nonneg ha.1 hb.1,?_⟩
 have:=Int.mul_le_mul ha.2 hb.2 hb.1 (by decide:(0:Int)≤5)
 omega
theorem aBE {x p:Int} (hp:mG p=true):0≤x % p∧x % p<p:=by
 have:=gH hp
 exact ⟨Int.emod_nonneg _ (by omega),Int.emod_lt_of_pos _ (by omega)⟩
theorem aFa {p x:Int} (hp:mG p=true) (hx: -4611686018427387904≤x∧x≤4611686018427387904):iD p x=some (x % p):=by
 have hb:=gH hp
 have hr:=aIw x p (by omega)
 unfold iD
 rw [decide_eq_false (by omega),Bool.not_false,cond_true]
 rcases aIx x p (by omega) with ⟨h,e⟩|⟨h,e⟩
 ·rw [decide_eq_false (by omega),cond_false,e]
 ·rw [decide_eq_true h,cond_true,dX (by omega),e]
  congr 1
  omega
theorem aNS {p x:Int} (hp:mG p=true):sA p x=some (x % p):=by
 have hb:=gH hp
 have hr:=aIw x p (by omega)
 unfold sA
 rw [aDc,hp,Option.bind_some,Bool.not_true,cond_false,decide_eq_false (by omega),Bool.not_false,cond_true,cond_true,dX (by omega),aQU _ _ (by omega)]
theorem aOo {p x:Int} (hp:mG p=true) {k:Nat} (hk:k≤1000):tY p x k=some (aLp p (x % p) k):=by
 have hb:=gH hp
 unfold tY
 rw [aDc,hp,Option.bind_some,Bool.not_true,cond_false,zG,aAZ (by omega) (by omega),Option.bind_some,Bool.not_true,cond_false]
 rw [eD (r:=aLp p (x % p) k) (λt=>(aLp p (x % p) t,(t:Int))) k (by rfl) (λt ht=>?_) (λ_=>?_),Option.bind_some]
 ·unfold nP
  simp only
  have h1:=aPb hp (aBE (x:=x) hp) t
  have h2:=aBE (x:=x) hp
  have h3:=aMF (a:=aLp p (x % p) t) (b:=x % p) (by omega) (by omega)
  rw [kI ht,cond_true,aNS hp,Option.bind_some,decide_eq_false (by omega),Bool.not_false,cond_true,cC ht (by omega),dX (by omega),Int.tmod_eq_emod_of_nonneg h3.1]
  rfl
 ·unfold nP
  simp only
  rw [nD (Nat.le_refl _),cond_false]
theorem aQg {p x:Int} (hp:mG p=true):qB p x=some (aBd p (x % p)):=by
 have hb:=gH hp
 unfold qB aBd
 rw [aDc,hp,Option.bind_some,Bool.not_true,cond_false,dX (by omega)]
 have e:max (p - 2) 1=(((max (p - 2) 1).toNat:Nat):Int):=by omega
 rw [e,aOo hp (by omega),Option.bind_some,Int.toNat_natCast]
theorem aQh {p x:Int} (hp:mG p=true) (hx: -4611686018427387904≤x∧x≤4611686018427387904):iX p x=some (aBd p (x % p)):=by
 have hb:=gH hp
 have h2:=aBE (x:=x) hp
 obtain ⟨n,hn⟩: ∃ n:Nat,p=n:=⟨p.toNat,by omega⟩
 unfold iX
 rw [aGQ (s0:=1) (s:=1) (n:=n) (λk:Nat=>bif decide ((x % p*k) % p=1) then some (k:Int) else none) rfl (by omega) (by omega) (λk h1 hk=>?_) (λ_=>?_),Option.bind_some]
 ·cases e:(List.range' 1 (n - 1)).findSome? (λk:Nat=>bif decide ((x % p*k) % p=1) then some (k:Int) else none) with
  |none=>
   rw [List.findSome?_eq_none_iff] at e
   rw [aRi hp h2 λy h3 h4 h5=>?_];rfl
   have:=e y (by simp;omega)
   rw [decide_eq_true h5] at this
   cases this
  |some i=>
   obtain ⟨k,hk,he⟩:=List.exists_of_findSome?_eq_some e
   simp at hk
   cases hd:decide ((x % p*k) % p=1) with
   |false=>rw [hd] at he;cases he
   |true=>
    rw [hd] at he
    cases he
    rw [aTU hp h2 (y:=k) (by omega) (of_decide_eq_true hd)];rfl
 ·unfold gA
  have h3:=aMF (a:=x % p) (b:=k) (by omega) (by omega)
  rw [decide_eq_true (by omega),cond_true,aFY,hp,Option.bind_some,cond_true,aFa hp hx,Option.bind_some,dX (by omega),aFa hp (by omega),Option.bind_some]
  cases decide (x % p*k % p=1) <;> rfl
 ·unfold gA
  rw [decide_eq_false (by omega),cond_false]
theorem aJT {r c i:Nat} (hi:i<r):(i+1)*c≤r*c:=Nat.mul_le_mul_right c hi
theorem ixw {r c i j:Nat} (hN:r*c≤1048576) (hi:i<r) (hj:j<c):wr (wr ((i:Int)*(c:Int))+(j:Int))=((i*c+j:Nat):Int):=wix (by have:=aPc hi hj;omega)
theorem atT {r c i j:Nat} (hN:r*c≤1048576) (hi:i<r) (hj:j<c) (F:Nat→Nat→Int):cT (cK r c F) (wr (wr ((i:Int)*(c:Int))+(j:Int)))=some (F i j):=by rw [ixw hN hi hj,aTV F hi hj]
theorem aQj {r c i j:Nat} (hN:r*c≤1048576) (hi:i<r) (hj:j<c) (F:Nat→Nat→Int) (v:Int):(cK r c F).set (wr (wr ((i:Int)*(c:Int))+(j:Int))).toNat v=cK r c (aGR F i j v):=by rw [ixw hN hi hj,Int.toNat_natCast,aBe F v hi hj]
theorem vF {r c i:Nat} (hN:r*c≤1048576) (hi:i<r):wr ((i:Int)*(c:Int))=((i*c:Nat):Int):=aNG (by have:= @aJT r c i hi;rw [Nat.succ_mul] at this;omega)
theorem yI {r c i:Nat} (hN:r*c≤1048576) (hr:r≤1048576) (hi:i<r):wr (wr ((i:Int)+1)*(c:Int))=((i*c+c:Nat):Int):=by
 have:= @aJT r c i hi
 rw [cC hi (by omega),aNG (by omega),Nat.succ_mul]
def mY (c:Nat) (f:Nat→Int):List Int:=(List.range c).map f
theorem fF (c:Nat) (f:Nat→Int):(mY c f).length=c:=by simp [mY]
theorem aIT {c:Nat} (f:Nat→Int) {j:Nat} (h:j<c):cT (mY c f) (j:Int)=some (f j):=by rw [dU (by rw [fF];exact h)];simp [mY]
theorem aJU {r c i:Nat} (hN:r*c≤1048576) (hr:r≤1048576) (hi:i<r) (F:Nat→Nat→Int):cI ⟨r,c,cK r c F⟩ i=some ():=by
 have:= @aJT r c i hi
 rw [Nat.succ_mul] at this
 unfold cI
 simp only
 rw [vF hN hi,yI hN hr hi,iI,decide_eq_true (by omega),decide_eq_true (by omega:((i*c:Nat):Int)≤((i*c+c:Nat):Int)),decide_eq_true (by omega:((i*c+c:Nat):Int)≤((r*c:Nat):Int))]
 rfl
theorem aSF {r c i:Nat} (hN:r*c≤1048576) (hr:r≤1048576) (hi:i<r) (F:Nat→Nat→Int):aEY ⟨r,c,cK r c F⟩ i=some (mY c (F i)):=by
 have h:= @aJT r c i hi
 rw [Nat.succ_mul] at h
 unfold aEY zD aCk
 simp only
 rw [vF hN hi,yI hN hr hi,iI,decide_eq_true (by omega),decide_eq_true (by omega:((i*c:Nat):Int)≤((i*c+c:Nat):Int)),decide_eq_true (by omega:((i*c+c:Nat):Int)≤((r*c:Nat):Int))]
 simp only [Bool.and_self,cond_true,Int.toNat_natCast]
 congr 1
 refine List.ext_getElem (by simp [iI,fF];omega) λt h1 h2=>?_
 rw [fF] at h2
 rw [List.getElem_take,List.getElem_drop]
 simp [cK,mY,aIy h2,aIz h2]
def aKR (p:Int) (F:Nat→Nat→Int) (i:Nat) (k:Int) (g:Nat→Int):Nat→Nat→Int:=λa b=>if a=i then (F i b+k*g b) % p else F a b
theorem gd (x:Nat):(decide (0≤(x:Int))&&true)=true:=by rw [decide_eq_true (by omega)];rfl
theorem aUi {p:Int} (hp:mG p=true):(!decide (p=0))=true:=by have:=gH hp;rw [decide_eq_false (by omega)];rfl
theorem aNT {p:Int} (hp:mG p=true) {r c i:Nat} (hc:c≤1048576) (hi:i<r) {F:Nat→Nat→Int} {g:Nat→Int} {k:Int} (hk:0≤k∧k≤5) (hF: ∀ b,b<c→0≤F i b∧F i b<p) (hg: ∀ b,b<c→0≤g b∧g b<p):
  gU p (cK r c F) (i*c) c k (mY c g)=some (cK r c (aKR p F i k g)):=by
 have hb:=gH hp
 unfold gU
 rw [eD (r:=cK r c (aKR p F i k g)) (λx=>(cK r c (λa b=>if a=i∧b<x then (F i b+k*g b) % p else F a b),(x:Int))) c (by simp) (λx hx=>?_) (λ_=>?_)];rfl
 ·have h1:=hF x hx
  have h2:=hg x hx
  have h3:=aMF hk (show 0≤g x∧g x≤5 by omega)
  unfold kJ
  simp only
  rw [fF,kI hx,cond_true,aIT _ hx,Option.bind_some,gd x,cond_true,Int.toNat_natCast,mR _ hi hx,Option.bind_some,aUi hp,cond_true,cond_true,Option.bind_some,aBe _ _ hi hx,cC hx (by omega)]
  rw [if_neg (by omega),dX (x:=k*g x) (by omega),dX (by omega),Int.tmod_eq_emod_of_nonneg (by omega)]
  congr 3
  refine cH λa b ha hb=>?_
  simp only [aGR]
  by_cases e1:a=i∧b=x
  ·obtain ⟨rfl,rfl⟩:=e1
   rw [if_pos ⟨rfl,rfl⟩,if_pos ⟨rfl,by omega⟩]
  ·rw [if_neg e1]
   by_cases e2:a=i∧b<x
   ·rw [if_pos e2,if_pos ⟨e2.1,by omega⟩]
   ·rw [if_neg e2,if_neg (by omega)]
 ·unfold kJ
  simp only
  rw [fF,nD (Nat.le_refl _),cond_false]
  congr 2
  refine cH λa b ha hb=>?_
  simp only [aKR]
  by_cases e:a=i
  ·rw [if_pos ⟨e,hb⟩,if_pos e]
  ·rw [if_neg (by omega),if_neg e]
theorem aQk {p:Int} (hp:mG p=true) {r c i j:Nat} (hc:c≤1048576) (hi:i<r) (hj:j<r) (hij:i≠j) {F:Nat→Nat→Int} {k:Int} (hk:0≤k∧k≤5) (hF: ∀ b,b<c→0≤F i b∧F i b<p) (hg: ∀ b,b<c→0≤F j b∧F j b<p):
  iW p (cK r c F) (i*c) c k (j*c) c=some (cK r c (aKR p F i k (F j))):=by
 have hb:=gH hp
 unfold iW
 rw [eD (r:=cK r c (aKR p F i k (F j))) (λx=>(cK r c (λa b=>if a=i∧b<x then (F i b+k*F j b) % p else F a b),(x:Int))) c (by simp) (λx hx=>?_) (λ_=>?_)];rfl
 ·have h1:=hF x hx
  have h2:=hg x hx
  have h3:=aMF hk (show 0≤F j x∧F j x≤5 by omega)
  unfold gJ
  simp only
  rw [kI hx,cond_true,gd x,cond_true,Int.toNat_natCast,mR _ hj hx,Option.bind_some,cond_true,mR _ hi hx,Option.bind_some,aUi hp,cond_true,cond_true,Option.bind_some,aBe _ _ hi hx,cC hx (by omega)]
  rw [if_neg (by omega),if_neg (by omega),dX (x:=k*F j x) (by omega),dX (by omega),Int.tmod_eq_emod_of_nonneg (by omega)]
  congr 3
  refine cH λa b ha hb=>?_
  simp only [aGR]
  by_cases e1:a=i∧b=x
  ·obtain ⟨rfl,rfl⟩:=e1
   rw [if_pos ⟨rfl,rfl⟩,if_pos ⟨rfl,by omega⟩]
  ·rw [if_neg e1]
   by_cases e2:a=i∧b<x
   ·rw [if_pos e2,if_pos ⟨e2.1,by omega⟩]
   ·rw [if_neg e2,if_neg (by omega)]
 ·unfold gJ
  simp only
  rw [nD (Nat.le_refl _),cond_false]
  congr 2
  refine cH λa b ha hb=>?_
  simp only [aKR]
  by_cases e:a=i
  ·rw [if_pos ⟨e,hb⟩,if_pos e]
  ·rw [if_neg (by omega),if_neg e]
theorem aSG {r c:Nat} (hN:r*c≤1048576):(decide (0≤wr ((r:Int)*(c:Int)))&&decide (wr ((r:Int)*(c:Int))≤1048576))=true:=by
 rw [aNG (by omega),decide_eq_true (by omega),decide_eq_true (by omega)];rfl
theorem aSH {r c:Nat} (hN:r*c≤1048576):nG r c=some ⟨r,c,cK r c λ_ _=>0⟩:=by
 unfold nG
 rw [aSG hN,cond_true,aNG (by omega),Int.toNat_natCast,aKo]
theorem aSI {r c:Nat} (hN:r*c≤1048576):yU r c=some ⟨r,c,cK r c λ_ _=>0⟩:=by
 unfold yU
 rw [aSG hN,cond_true,aNG (by omega),Int.toNat_natCast,aKo]
def aHs (F G:Nat→Nat→Int) (i j:Nat):Nat→Int
 |0=>0
 |k+1=>aHs F G i j k+F i k*G k j
def aNU (p:Int) (F G:Nat→Nat→Int) (i j:Nat):Nat→Int
 |0=>0
 |k+1=>(aNU p F G i j k+F i k*G k j) % p
theorem aMG {p:Int} (hp:mG p=true) (F G:Nat→Nat→Int) (i j:Nat): ∀ k,aNU p F G i j k=aHs F G i j k % p
 |0=>by simp [aNU,aHs]
 |k+1=>by rw [aNU,aHs,aMG hp F G i j k];simp [Int.add_emod]
theorem aMH {p:Int} (hp:mG p=true) {F G:Nat→Nat→Int} {i j:Nat} : ∀ {k:Nat},(∀ t,t<k→0≤F i t∧F i t<p)→(∀ t,t<k→0≤G t j∧G t j<p)→0≤aHs F G i j k∧aHs F G i j k≤25*k
 |0,_,_=>by simp [aHs]
 |k+1,hF,hG=>by
  have hb:=gH hp
  have h:=aMH hp (k:=k) (λt ht=>hF t (by omega)) (λt ht=>hG t (by omega))
  have h1:=hF k (by omega)
  have h2:=hG k (by omega)
  have h3:=aMF (a:=F i k) (b:=G k j) (by omega) (by omega)
  rw [aHs]
  omega
def aHt (p:Int) (n:Nat) (F G:Nat→Nat→Int):Nat→Nat→Int:=λi j=>aHs F G i j n % p
theorem aMI {p:Int} (hp:mG p=true) {r n c:Nat} (h1:r*n≤1048576) (h2:n*c≤1048576) (h3:r*c≤1048576) (hr:r≤1048576) (hn:n≤1048576) (hc:c≤1048576) {F G:Nat→Nat→Int} (hF:InP p r n F) (hG:InP p n c G):
  qA p ⟨r,n,cK r n F⟩ ⟨n,c,cK n c G⟩=some ⟨r,c,cK r c (aHt p n F G)⟩:=by
 have hb:=gH hp
 unfold qA
 simp only
 rw [aSI h3,Option.bind_some]
 simp only
 rw [eD (r:=cK r c (aHt p n F G)) (λi=>(cK r c (λa b=>if a<i then aHt p n F G a b else 0),(i:Int))) r (by simp) (λi hi=>?_) (λ_=>?_),Option.bind_some]
 ·unfold lJ
  simp only
  rw [kI hi,cond_true]
  rw [eD (r:=cK r c (λa b=>if a<i+1 then aHt p n F G a b else 0)) (λj=>(cK r c (λa b=>if a<i∨(a=i∧b<j) then aHt p n F G a b else 0),(j:Int))) c (by simp) (λj hj=>?_) (λ_=>?_),Option.bind_some,cC hi (by omega)]
  ·unfold lI
   simp only
   rw [kI hj,cond_true]
   have hbd:=aMH hp (F:=F) (G:=G) (i:=i) (j:=j) (k:=n) (λt ht=>hF i t hi ht) (λt ht=>hG t j ht hj)
   rw [eD (r:=aHs F G i j n) (λk=>(aHs F G i j k,(k:Int))) n (by simp [aHs]) (λk hk=>?_) (λ_=>?_),Option.bind_some,aFa hp (by omega),Option.bind_some,atT h3 hi hj,Option.bind_some,aQj h3 hi hj,cC hj (by omega)]
   ·congr 3
    refine cH λa b ha hb=>?_
    simp only [aGR]
    by_cases e:a=i∧b=j
    ·rw [if_pos e,if_pos (by omega),e.1,e.2];rfl
    ·rw [if_neg e]
     by_cases e2:a<i∨a=i∧b<j
     ·rw [if_pos e2,if_pos (by omega)]
     ·rw [if_neg e2,if_neg (by omega)]
   ·unfold lH
    simp only
    have g1:=hF i k hi hk
    have g2:=hG k j hk hj
    have g3:=aMF (a:=F i k) (b:=G k j) (by omega) (by omega)
    have g4:=aMH hp (F:=F) (G:=G) (i:=i) (j:=j) (k:=k) (λt ht=>hF i t hi (by omega)) (λt ht=>hG t j (by omega) hj)
    rw [kI hk,cond_true,atT h1 hi hk,Option.bind_some,atT h2 hk hj,Option.bind_some,cC hk (by omega),dX (x:=F i k*G k j) (by omega),dX (by omega)]
    rfl
   ·unfold lH
    simp only
    rw [nD (Nat.le_refl _),cond_false]
  ·unfold lI
   simp only
   rw [nD (Nat.le_refl _),cond_false]
   congr 2
   refine cH λa b ha hb=>?_
   by_cases e:a<i+1
   ·rw [if_pos e,if_pos (by omega)]
   ·rw [if_neg e,if_neg (by omega)]
 ·unfold lJ
  simp only
  rw [nD (Nat.le_refl _),cond_false]
  congr 2
  exact cH λa b ha hb=>by rw [if_pos ha]
theorem aTl {p:Int} (hp:mG p=true) {r n c:Nat} (h1:r*n≤1048576) (h2:n*c≤1048576) (h3:r*c≤1048576) (hr:r≤1048576) (hn:n≤1048576) (hc:c≤1048576) {F G:Nat→Nat→Int} (hF:InP p r n F) (hG:InP p n c G):
  aAH p ⟨r,n,cK r n F⟩ ⟨n,c,cK n c G⟩=some ⟨r,c,cK r c (aHt p n F G)⟩:=by
 have hb:=gH hp
 have hD: ∀ i j,aNU p F G i j n=aHt p n F G i j:=λi j=>aMG hp F G i j n
 unfold aAH
 simp only
 rw [aSH h3,Option.bind_some]
 simp only
 rw [eD (r:=cK r c (aHt p n F G)) (λi=>(cK r c (λa b=>if a<i then aHt p n F G a b else 0),(i:Int))) r (by simp) (λi hi=>?_) (λ_=>?_),Option.bind_some]
 ·unfold uE
  simp only
  rw [kI hi,cond_true,aSF h1 hr hi,Option.bind_some]
  rw [eD (r:=cK r c (λa b=>if a<i+1 then aHt p n F G a b else 0)) (λk=>(cK r c (λa b=>if a<i then aHt p n F G a b else if a=i then aNU p F G i b k else 0),(k:Int))) n ?_ (λk hk=>?_) (λ_=>?_),Option.bind_some,cC hi (by omega)]
  ·congr 1
   exact cH λa b ha hb=>by
    by_cases e:a<i
    ·rw [if_pos e,if_pos e]
    ·rw [if_neg e,if_neg e];simp [aNU]
  ·unfold uD
   simp only
   have g1:=hF i k hi hk
   rw [fF,kI hk,cond_true,aIT _ hk,Option.bind_some,aJU h3 hr hi,Option.bind_some,aSF h2 hn hk,Option.bind_some,Nat.zero_add,vF h3 hi,yI h3 hr hi,Int.toNat_natCast,Int.toNat_natCast,show i*c+c - i*c=c by omega]
   rw [aNT hp hc hi (by omega) (λb hb=>?_) (λb hb=>hG k b hk hb),Option.bind_some,iI,iI,decide_eq_true rfl,cond_true,cC hk (by omega)]
   ·congr 3
    refine cH λa b ha hb=>?_
    simp only [aKR]
    by_cases e:a=i
    ·subst e
     simp [aNU]
    ·rw [if_neg e,if_neg e,if_neg e]
   ·rw [if_neg (by omega),if_pos rfl,aMG hp]
    exact aBE hp
  ·unfold uD
   simp only
   rw [fF,nD (Nat.le_refl _),cond_false]
   congr 2
   refine cH λa b ha hb=>?_
   by_cases e:a<i
   ·rw [if_pos e,if_pos (by omega)]
   ·by_cases e2:a=i
    ·subst e2
     rw [if_neg (by omega),if_pos rfl,if_pos (by omega),hD]
    ·rw [if_neg e,if_neg e2,if_neg (by omega)]
 ·unfold uE
  simp only
  rw [nD (Nat.le_refl _),cond_false]
  congr 2
  exact cH λa b ha hb=>by rw [if_pos ha]
end
noncomputable section
def wJ (L:List Nat):List Int:=L.map λt:Nat=>(t:Int)
theorem mZ (L:List Nat):(wJ L).length=L.length:=by simp [wJ]
theorem aJV {p:Int} {m:Nat} {F:Nat→Nat→Int} {j:Nat} (h:(cA p m F j).2.length=m): ∀ d,cA p m F (j+d)=cA p m F j
 |0=>rfl
 |d+1=>by
  show gI p m (cA p m F (j+d)) (j+d)=_
  rw [aJV h d]
  unfold gI
  rw [if_pos]
  rw [h,Nat.sub_self]
  rfl
def aCC (F:Nat→Nat→Int) (a b x:Nat):Nat→Nat→Int:=λi y=>if y<x then wG F a b i y else F i y
def aAK (p:Int) (F:Nat→Nat→Int) (a:Nat) (s:Int) (x:Nat):Nat→Nat→Int:=λi y=>if y<x then rE p F a s i y else F i y
def jC (p:Int) (F:Nat→Nat→Int) (a j x:Nat):Nat→Nat→Int:=λi c=>if i<x then xU p F a j i c else F i c
theorem aLH {r c a b x:Nat} (F:Nat→Nat→Int):cK r c (aGR (aGR (aCC F a b x) a x (F b x)) b x (F a x))=cK r c (aCC F a b (x+1)):=by
 refine cH λi y hi hy=>?_
 simp only [aGR,aCC,wG]
 by_cases e:y=x
 ·subst e
  simp only [and_true,Nat.lt_irrefl,if_false,Nat.lt_succ_self,if_true]
  by_cases e1:i=b
  ·rw [if_pos e1]
   by_cases e2:i=a
   ·rw [if_pos e2]
    subst e1;rw [e2]
   ·rw [if_neg e2,if_pos e1]
  ·rw [if_neg e1]
   by_cases e2:i=a
   ·rw [if_pos e2,if_pos e2]
   ·rw [if_neg e2,if_neg e2,if_neg e1]
 ·rw [if_neg (by omega),if_neg (by omega)]
  by_cases e1:y<x
  ·rw [if_pos e1,if_pos (show y<x+1 by omega)]
  ·rw [if_neg e1,if_neg (show ¬ y<x+1 by omega)]
theorem aDd {F:Nat→Nat→Int} {a b x i:Nat} :aCC F a b x i x=F i x:=by simp [aCC]
theorem aJW {p:Int} {F:Nat→Nat→Int} {a x i:Nat} {s:Int} :aAK p F a s x i x=F i x:=by simp [aAK]
theorem aJX {p:Int} {r c a x:Nat} {s:Int} (F:Nat→Nat→Int):cK r c (aGR (aAK p F a s x) a x ((F a x*s) % p))=cK r c (aAK p F a s (x+1)):=by
 refine cH λi y hi hy=>?_
 simp only [aGR,aAK,rE]
 by_cases e:y=x
 ·subst e
  simp only [and_true,Nat.lt_irrefl,if_false,Nat.lt_succ_self,if_true]
 ·rw [if_neg (by omega)]
  by_cases e1:y<x
  ·rw [if_pos e1,if_pos (show y<x+1 by omega)]
  ·rw [if_neg e1,if_neg (show ¬ y<x+1 by omega)]
theorem aPo {p r:Int} (hp:mG p=true) (hr:0≤r∧r<p):0≤aBd p r∧aBd p r<p:=aPb hp hr _
theorem aNV {p:Int} {m n k r:Nat} {F:Nat→Nat→Int} (h:InP p m n F) (hk:k<m) (hr:r<m):InP p m n (wG F k r):=by
 intro i c hi hc
 unfold wG
 split
 ·exact h r c hr hc
 ·split
  ·exact h k c hk hc
  ·exact h i c hi hc
theorem aLI {p:Int} (hp:mG p=true) {m n k:Nat} {s:Int} {F:Nat→Nat→Int} (h:InP p m n F):InP p m n (rE p F k s):=by
 intro i c hi hc
 unfold rE
 split
 ·exact aBE hp
 ·exact h i c hi hc
theorem aQl {p:Int} (hp:mG p=true) {m n k j x:Nat} {F:Nat→Nat→Int} (h:InP p m n F):InP p m n (jC p F k j x):=by
 intro i c hi hc
 unfold jC xU
 split
 ·split
  ·rename_i h1 h2;subst h2;exact h _ c hi hc
  ·exact aBE hp
 ·exact h i c hi hc
theorem aSJ {p:Int} (hp:mG p=true) {m n k j x:Nat} {F:Nat→Nat→Int} (hx:x≠k):cK m n (aKR p (jC p F k j x) x (p - F x j) (jC p F k j x k))=cK m n (jC p F k j (x+1)):=by
 refine cH λi c hi hc=>?_
 simp only [aKR,jC,xU]
 by_cases e:i=x
 ·subst e
  rw [if_pos rfl,if_neg (Nat.lt_irrefl _),if_pos (Nat.lt_succ_self _),if_neg hx]
  simp only [if_true,ite_self]
  rw [show F i c+(p - F i j)*F k c=(F i c - F i j*F k c)+p*F k c by rw [Int.sub_mul];omega,Int.add_mul_emod_self_left]
 ·rw [if_neg e]
  by_cases e1:i<x
  ·rw [if_pos e1,if_pos (show i<x+1 by omega)]
  ·rw [if_neg e1,if_neg (show ¬ i<x+1 by omega)]
theorem aLJ {p:Int} {m n k j:Nat} {F:Nat→Nat→Int} :cK m n (jC p F k j k)=cK m n (jC p F k j (k+1)):=by
 refine cH λi c hi hc=>?_
 simp only [jC,xU]
 by_cases e:i<k
 ·rw [if_pos e,if_pos (show i<k+1 by omega)]
 ·rw [if_neg e]
  by_cases e1:i=k
  ·subst e1;simp
  ·rw [if_neg (show ¬ i<k+1 by omega)]
theorem aJY {p:Int} {F:Nat→Nat→Int} {k r j:Nat} :eW p F k r j=xU p (rE p (wG F k r) k (aBd p (F r j))) k j:=rfl
structure Tb (p:Int) (m n:Nat) (F:Nat→Nat→Int):Prop where
 hp:mG p=true
 hN:m*n≤1048576
 hm:m≤1048576
 hn:n≤1048576
 hi:InP p m n F
theorem aUj {p:Int} {m n:Nat} {F:Nat→Nat→Int} (T:Tb p m n F) {j:Nat} (hj:j<n) (L:List Nat) (hL:L.length≤m) (l:List Int):
  Lp (mW ⟨m,n,l⟩ ((j:Int),cK m n F,wJ L)) (((wJ L).length:Nat):Int)=some ((jM F j (m - L.length) L.length:Nat):Int):=by
 obtain ⟨hp,hN,hm,hn,hi⟩:=T
 have hle:= @aAb F j (m - L.length) L.length
 have hz:= @aEU F j (m - L.length) L.length
 have hh:= @aDS F j (m - L.length) L.length
 generalize jM F j (m - L.length) L.length=r at*
 rw [mZ]
 refine eD (λt=>((L.length+t:Nat):Int)) (r - L.length) (by simp) (λt ht=>?_) (λ_=>?_)
 ·unfold mW
  simp only
  rw [kI (by omega),cond_true,aJU hN hm (by omega),Option.bind_some,vF hN (by omega),yI hN hm (by omega),Int.toNat_natCast,Int.toNat_natCast,Nat.add_sub_cancel_left,kI hj,gd,cond_true,Nat.zero_add,Int.toNat_natCast,mR _ (by omega) hj,Option.bind_some,
   hz _ (by omega) (by omega),decide_eq_true rfl,cond_true,cC (n:=m) (by omega) (by omega),Nat.add_assoc]
 ·rw [show L.length+(r - L.length)=r by omega]
  unfold mW
  simp only
  rcases Nat.lt_or_ge r m with h|h
  ·rw [kI h,cond_true,aJU hN hm h,Option.bind_some,vF hN h,yI hN hm h,Int.toNat_natCast,Int.toNat_natCast,Nat.add_sub_cancel_left,kI hj,gd,cond_true,Nat.zero_add,Int.toNat_natCast,mR _ h hj,Option.bind_some,
    decide_eq_false (hh (by omega)),cond_false]
  ·rw [nD h,cond_false]
theorem aTm {p:Int} {m n:Nat} {F:Nat→Nat→Int} (T:Tb p m n F) {j:Nat} (hj:j<n) (L:List Nat) (hL:L.length≤m) (l:List Int):
  mX p ⟨m,n,l⟩ ((j:Int),cK m n F,wJ L)=some (.inl (((j+1:Nat):Int),cK m n (gI p m (F,L) j).1,wJ (gI p m (F,L) j).2)):=by
 have hpv:=aUj T hj L hL l
 obtain ⟨hp,hN,hm,hn,hi⟩:=T
 have hb:=gH hp
 have hle:= @aAb F j (m - L.length) L.length
 unfold mX gI
 simp only
 rw [kI hj,cond_true,hpv,Option.bind_some,cC hj (by omega)]
 clear hpv
 generalize jM F j (m - L.length) L.length=r at*
 by_cases hr:r=m
 ·rw [decide_eq_true (by omega),cond_true,if_pos hr]
 ·rw [decide_eq_false (by omega),cond_false,if_neg hr]
  have hk:L.length<m:=by omega
  have hrm:r<m:=by omega
  simp only [mZ]
  rw [aJU hN hm hk,Option.bind_some,vF hN hk,yI hN hm hk]
  simp only [Int.toNat_natCast,Nat.add_sub_cancel_left,Nat.zero_add]
  rw [eD (r:=cK m n (wG F L.length r)) (λx=>(cK m n (aCC F L.length r x),(x:Int))) n ?_ (λx hx=>?_) (λ_=>?_),Option.bind_some,kI hj,gd,cond_true,mR _ hk hj,Option.bind_some]
  ·have e1:wG F L.length r L.length j=F r j:=by simp [wG]
   have hrj:=hi r j hrm hj
   rw [e1,aQg hp,Option.bind_some,Int.emod_eq_of_lt hrj.1 hrj.2]
   have hs:=aPo hp hrj
   rw [aJY]
   generalize aBd p (F r j)=s at*
   have h1:=aNV hi hk hrm
   generalize wG F L.length r=F1 at*
   rw [eD (r:=cK m n (rE p F1 L.length s)) (λx=>(cK m n (aAK p F1 L.length s x),(x:Int))) n ?_ (λx hx=>?_) (λ_=>?_),Option.bind_some]
   ·have h2:=aLI hp (k:=L.length) (s:=s) h1
    generalize rE p F1 L.length s=F2 at*
    rw [eD (r:=cK m n (xU p F2 L.length j)) (λx=>(cK m n (jC p F2 L.length j x),(x:Int))) m ?_ (λx hx=>?_) (λ_=>?_),Option.bind_some]
    ·rw [decide_eq_true (by simp;omega),cond_true]
     simp [wJ]
    ·congr 1
    ·unfold sE
     simp only [mZ]
     rw [kI hx,cond_true]
     by_cases hxk:x=L.length
     ·rw [decide_eq_true (by omega),Bool.not_true,cond_false,cC hx (by omega),hxk,aLJ]
     ·rw [decide_eq_false (by omega),Bool.not_false,cond_true,aJU hN hm hx,Option.bind_some,Option.bind_some,vF hN hx,yI hN hm hx,vF hN hk,yI hN hm hk]
      simp only [Int.toNat_natCast,Nat.add_sub_cancel_left,Nat.zero_add]
      rw [kI hj,gd,cond_true,mR _ hx hj,Option.bind_some]
      have e2:jC p F2 L.length j x x j=F2 x j:=by simp [jC]
      have h3:=h2 x j hx hj
      have h4:=aQl hp (k:=L.length) (j:=j) (x:=x) h2
      rw [e2,dX (by omega),aQk hp hn hx hk hxk (by omega) (λb hb=>h4 _ b hx hb) (λb hb=>h4 _ b hk hb),Option.bind_some,iI,iI,decide_eq_true rfl,cond_true,cC hx (by omega),aSJ hp hxk]
    ·unfold sE
     simp only
     rw [nD (Nat.le_refl _),cond_false]
     congr 2
     exact cH λa b ha hb=>by simp only [jC];rw [if_pos ha]
   ·congr 1
   ·unfold sD
    simp only [mZ]
    rw [vF hN hk,yI hN hm hk]
    simp only [Int.toNat_natCast,Nat.add_sub_cancel_left,Nat.zero_add]
    have g1:=h1 _ x hk hx
    have g2:=aMF (a:=F1 L.length x) (b:=s) (by omega) (by omega)
    rw [kI hx,cond_true,gd,cond_true,mR _ hk hx,Option.bind_some,aUi hp,cond_true,cond_true,Option.bind_some,aJW,dX (by omega),Int.tmod_eq_emod_of_nonneg g2.1,aBe _ _ hk hx,cC hx (by omega),aJX]
   ·unfold sD
    simp only [mZ]
    rw [vF hN hk,yI hN hm hk]
    simp only [Int.toNat_natCast,Nat.add_sub_cancel_left,Nat.zero_add]
    rw [nD (Nat.le_refl _),cond_false]
    congr 2
    exact cH λa b ha hb=>by simp only [aAK];rw [if_pos hb]
  ·congr 1
  ·unfold sC
   simp only [mZ]
   rw [kI hx,cond_true,aJU hN hm hrm,Option.bind_some,Option.bind_some,vF hN hk,yI hN hm hk,vF hN hrm,yI hN hm hrm]
   simp only [Int.toNat_natCast,Nat.add_sub_cancel_left,Nat.zero_add]
   rw [kI hx,gd,cond_true,mR _ hrm hx,Option.bind_some,cond_true,mR _ hk hx,Option.bind_some,cond_true,Option.bind_some,cond_true,aBe _ _ hk hx,mR _ hrm hx,Option.bind_some,aBe _ _ hrm hx,aDd,aDd,cC hx (by omega),aLH]
  ·unfold sC
   simp only
   rw [nD (Nat.le_refl _),cond_false]
   congr 2
   exact cH λa b ha hb=>by simp only [aCC];rw [if_pos hb]
theorem aMJ {p:Int} {m n:Nat} {F:Nat→Nat→Int} (T:Tb p m n F):yV p ⟨m,n,cK m n F⟩=some (⟨m,n,cK m n (cA p m F n).1⟩,wJ (cA p m F n).2):=by
 have hN:=T.hN
 have hn:=T.hn
 unfold yV tG wP
 simp only
 rw [iI,decide_eq_true hN,cond_true,Option.bind_some,Option.bind_some]
 simp only
 rw [eD (r:=(cK m n (cA p m F n).1,wJ (cA p m F n).2)) (λj=>((j:Int),cK m n (cA p m F j).1,wJ (cA p m F j).2)) n (by simp [cA,wJ]) (λj hj=>?_) (λ_=>?_),Option.bind_some]
 ·show _=some (Sum.inl (((j+1:Nat):Int),cK m n (gI p m (cA p m F j) j).1,wJ (gI p m (cA p m F j) j).2):(Int×List Int×List Int) ⊕ (List Int×List Int))
  exact aTm ⟨T.hp,T.hN,T.hm,T.hn,tJ (by have:=gH T.hp;omega) T.hi j⟩ hj _ (wH j) _
 ·unfold mX
  simp only
  rw [nD (Nat.le_refl _),cond_false]
theorem aUk {p:Int} {m n:Nat} {F:Nat→Nat→Int} (T:Tb p m n F) {j:Nat} (hj:j<n) (L:List Nat) (hL:L.length<m) (l:List Int):
  Lp (fW ⟨m,n,l⟩ ((j:Int),cK m n F,wJ L,(L.length:Int))) (-1,wr ((m:Int) - 1))=some (if jM F j (m - L.length) L.length=m then -1 else ((jM F j (m - L.length) L.length:Nat):Int)):=by
 obtain ⟨hp,hN,hm,hn,hi⟩:=T
 refine eD (λt=>(if jM F j t (m - t)=m then -1 else ((jM F j t (m - t):Nat):Int),((m - t:Nat):Int) - 1)) (m - L.length) ?_ (λt ht=>?_) (λ_=>?_)
 ·simp only [jM,Nat.sub_zero,if_true]
  rw [dX (by omega)]
 ·unfold fW
  simp only
  have e:((m - t:Nat):Int) - 1=((m - (t+1):Nat):Int):=by omega
  have hi2:m - (t+1)<m:=by omega
  rw [e,decide_eq_true (by omega),cond_true,atT hN hi2 hj,Option.bind_some,dX (x:=((m - (t+1):Nat):Int) - 1) (by omega)]
  have ep:jM F j (t+1) (m - (t+1))=if F (m - (t+1)) j=0 then jM F j t (m - t) else m - (t+1):=by
   rw [jM,show m - (t+1)+1=m - t by omega]
  rw [ep]
  by_cases h:F (m - (t+1)) j=0
  ·rw [decide_eq_true h,Bool.not_true,cond_false,if_pos h]
  ·rw [decide_eq_false h,Bool.not_false,cond_true,if_neg h,if_neg (by omega)]
 ·rw [show m - (m - L.length)=L.length by omega]
  unfold fW
  simp only
  rw [decide_eq_false (by omega),cond_false]
theorem aTn {p:Int} {m n:Nat} {F:Nat→Nat→Int} (T:Tb p m n F) {j:Nat} (hj:j<n) (L:List Nat) (hL:L.length<m) (l:List Int):
  eH p ⟨m,n,l⟩ ((j:Int),cK m n F,wJ L,(L.length:Int))=some (.inl (((j+1:Nat):Int),cK m n (gI p m (F,L) j).1,wJ (gI p m (F,L) j).2,((gI p m (F,L) j).2.length:Int))):=by
 have hpv:=aUk T hj L hL l
 obtain ⟨hp,hN,hm,hn,hi⟩:=T
 have hb:=gH hp
 have hle:= @aAb F j (m - L.length) L.length
 unfold eH gI
 simp only
 rw [kI hj,cond_true,kI hL,cond_true,hpv,Option.bind_some,cC hj (by omega)]
 clear hpv
 generalize jM F j (m - L.length) L.length=r at*
 have hk:L.length<m:=hL
 by_cases hr:r=m
 ·rw [if_pos hr,if_pos hr,decide_eq_true (by omega),cond_true]
 ·rw [if_neg hr,if_neg hr,decide_eq_false (by omega),cond_false]
  have hrm:r<m:=by omega
  rw [eD (r:=cK m n (wG F L.length r)) (λx=>(cK m n (aCC F L.length r x),(x:Int))) n ?_ (λx hx=>?_) (λ_=>?_),Option.bind_some,atT hN hk hj,Option.bind_some]
  ·have e1:wG F L.length r L.length j=F r j:=by simp [wG]
   have hrj:=hi r j hrm hj
   rw [e1,aQh hp (by omega),Option.bind_some,Int.emod_eq_of_lt hrj.1 hrj.2]
   have hs:=aPo hp hrj
   rw [aJY]
   generalize aBd p (F r j)=s at*
   have h1:=aNV hi hk hrm
   generalize wG F L.length r=F1 at*
   rw [eD (r:=cK m n (rE p F1 L.length s)) (λx=>(cK m n (aAK p F1 L.length s x),(x:Int))) n ?_ (λx hx=>?_) (λ_=>?_),Option.bind_some]
   ·have h2:=aLI hp (k:=L.length) (s:=s) h1
    generalize rE p F1 L.length s=F2 at*
    rw [eD (r:=cK m n (xU p F2 L.length j)) (λx=>(cK m n (jC p F2 L.length j x),(x:Int))) m ?_ (λx hx=>?_) (λ_=>?_),Option.bind_some]
    ·rw [mZ,decide_eq_true (by simp;omega),cond_true,cC hk (by omega)]
     simp [wJ]
    ·congr 1
    ·unfold gY
     simp only
     rw [kI hx,cond_true,atT hN hx hj,Option.bind_some,cC hx (by omega)]
     have e2:jC p F2 L.length j x x j=F2 x j:=by simp [jC]
     rw [e2]
     by_cases hxk:x=L.length
     ·rw [rX (r:=cK m n (jC p F2 L.length j x)) ?_,Option.bind_some,hxk,aLJ]
      unfold fX
      simp only
      rcases Nat.eq_zero_or_pos n with h0|h0
      ·omega
      ·rw [decide_eq_true (by omega),cond_true,decide_eq_true (by omega),Bool.not_true,cond_false]
     ·rw [eD (r:=cK m n (jC p F2 L.length j (x+1))) (λy=>(cK m n (λa c=>if a=x∧c<y then xU p F2 L.length j x c else jC p F2 L.length j x a c),(y:Int))) n (by simp) (λy hy=>?_) (λ_=>?_),Option.bind_some]
      ·unfold fX
       simp only
       rw [kI hy,cond_true,decide_eq_false (by omega),Bool.not_false,cond_true,atT hN hx hy,Option.bind_some,atT hN hk hy,Option.bind_some]
       have e3:jC p F2 L.length j x x y=F2 x y:=by simp [jC]
       have e4:jC p F2 L.length j x L.length y=F2 L.length y:=by simp [jC,xU]
       rw [if_neg (by omega),if_neg (by omega),e3,e4]
       have g1:=h2 x j hx hj
       have g2:=h2 L.length y hk hy
       have g3:=h2 x y hx hy
       have g4:=aMF (a:=F2 x j) (b:=F2 L.length y) (by omega) (by omega)
       rw [dX (x:=F2 x j*F2 L.length y) (by omega),dX (x:=F2 x y - F2 x j*F2 L.length y) (by omega),aFa hp (by omega),Option.bind_some,Option.bind_some,aQj hN hx hy,cC hy (by omega)]
       congr 3
       refine cH λa c ha hc=>?_
       simp only [aGR]
       by_cases e5:a=x∧c=y
       ·rw [if_pos e5,if_pos (by omega),e5.2]
        simp only [xU]
        rw [if_neg hxk]
       ·rw [if_neg e5]
        by_cases e6:a=x∧c<y
        ·rw [if_pos e6,if_pos (by omega)]
        ·rw [if_neg e6,if_neg (by omega)]
      ·unfold fX
       simp only
       rw [nD (Nat.le_refl _),cond_false]
       congr 2
       refine cH λa c ha hc=>?_
       simp only [jC]
       by_cases e5:a=x
       ·rw [if_pos ⟨e5,hc⟩,if_pos (by omega),e5]
       ·rw [if_neg (by omega)]
        by_cases e6:a<x
        ·rw [if_pos e6,if_pos (by omega)]
        ·rw [if_neg e6,if_neg (by omega)]
    ·unfold gY
     simp only
     rw [nD (Nat.le_refl _),cond_false]
     congr 2
     exact cH λa b ha hb=>by simp only [jC];rw [if_pos ha]
   ·congr 1
   ·unfold gX
    simp only
    have g1:=h1 _ x hk hx
    have g2:=aMF (a:=F1 L.length x) (b:=s) (by omega) (by omega)
    rw [kI hx,cond_true,atT hN hk hx,Option.bind_some,aJW,Int.mul_comm,dX (by omega),aFa hp (by omega),Option.bind_some,Option.bind_some,aQj hN hk hx,cC hx (by omega),aJX]
   ·unfold gX
    simp only
    rw [nD (Nat.le_refl _),cond_false]
    congr 2
    exact cH λa b ha hb=>by simp only [aAK];rw [if_pos hb]
  ·congr 1
  ·unfold gW
   simp only
   rw [kI hx,cond_true,atT hN hk hx,Option.bind_some,atT hN hrm hx,Option.bind_some,Option.bind_some,aQj hN hk hx,atT hN hrm hx,Option.bind_some,aQj hN hrm hx,aDd,aDd,cC hx (by omega),aLH]
  ·unfold gW
   simp only
   rw [nD (Nat.le_refl _),cond_false]
   congr 2
   exact cH λa b ha hb=>by simp only [aCC];rw [if_pos hb]
theorem aMK {p:Int} {m n:Nat} {F:Nat→Nat→Int} (T:Tb p m n F):kY p ⟨m,n,cK m n F⟩=some (⟨m,n,cK m n (cA p m F n).1⟩,wJ (cA p m F n).2):=by
 have hN:=T.hN
 have hn:=T.hn
 unfold kY tK
 simp only
 rw [iI,decide_eq_true (by simp;omega),cond_true,Option.bind_some]
 simp only [List.nil_append]
 obtain ⟨r,h1,h2⟩: ∃ r,Lp (eH p ⟨m,n,cK m n F⟩) (0,cK m n F,[],0)=some r∧r=(cK m n (cA p m F n).1,wJ (cA p m F n).2):=by
  refine aPa (λs=> ∃ j:Nat,j≤n∧s=((j:Int),cK m n (cA p m F j).1,wJ (cA p m F j).2,((cA p m F j).2.length:Int))) (λs=>n - s.1.toNat) _ ⟨0,Nat.zero_le _,by simp [cA,wJ]⟩ ?_
  rintro s ⟨j,hj,rfl⟩
  rcases Nat.lt_or_ge j n with hlt|hge
  ·have hlen:= @wH p m F j
   rcases Nat.lt_or_ge (cA p m F j).2.length m with hl|hl
   ·refine .inl ⟨_,aTn ⟨T.hp,T.hN,T.hm,T.hn,tJ (by have:=gH T.hp;omega) T.hi j⟩ hlt _ hl _,⟨j+1,hlt,rfl⟩,?_⟩
    simp;omega
   ·refine .inr ⟨_,?_,rfl⟩
    unfold eH
    simp only
    have e:=aJV (p:=p) (F:=F) (j:=j) (by omega:(cA p m F j).2.length=m) (n - j)
    rw [show j+(n - j)=n by omega] at e
    rw [kI hlt,cond_true,nD hl,cond_false,e]
  ·have e:j=n:=by omega
   subst e
   refine .inr ⟨_,?_,rfl⟩
   unfold eH
   simp only
   rw [nD (Nat.le_refl _),cond_false]
 rw [h1,h2,Option.bind_some]
end
noncomputable section
set_option maxRecDepth 10000
set_option maxHeartbeats 4000000
def kL (v1:Mt) (v3:(List Int)) (x1:((List Int)×Int)) (x2:((List Int)×Int)):Option (((List Int)×Int) ⊕ (List Int)):=
 bif decide (x2.2<(v3.length:Int)) then
 ((cT v3 x2.2).bind λv5=>
 (cT x2.1 (wr ((wr (x2.2*v1.cols))+x1.2))).bind λv6=>
 some (.inl ((x2.1.set ((wr ((wr (x2.2*v1.cols))+x1.2)).toNat) v5),wr (x2.2+1))))
 else
 (some (.inr x2.1))
def kM (a1:(List (List Int))) (v1:Mt) (x1:((List Int)×Int)):Option (((List Int)×Int) ⊕ (List Int)):=
 bif decide (x1.2<(a1.length:Int)) then
 ((cT a1 x1.2).bind λv3=>
 (Lp (kL v1 v3 x1) (x1.1,0)).bind λy7=>
 some (.inl (y7,wr (x1.2+1))))
 else
 (some (.inr x1.1))
def jX (a0:Int) (a1:(List (List Int))):Option Mt:=
 (nG a0 (a1.length:Int)).bind λv1=>
 (Lp (kM a1 v1) (v1.cells,0)).bind λy8=>
 some ((⟨v1.rows,v1.cols,y8⟩:Mt))
theorem aEb (a0:Int) (a1:(List (List Int))) (r:Mt) (h:jX a0 a1=some r):HasC Tryz.prog 155 [.int a0,.list 1 (a1.map (cJ 1 eI))] (.agg (eM r)):=by
 refine aZ aB (rvs:=[.cell 4 113]) (ns:=[0,1,2,3,4]) Tryz.func155 k k Tryz.ntmps155 k k k<|sR<|ae (cF aB k k) k<|an<|tn<|sR<|am k k<|am k k ?_
 refine ln k4<|oB h λv1 hv1 h=>ae (cM (aCq a0 (a1.length:Int) v1 hv1) k3 (aC (aE k) (aC (aE k) aS))) k<|ae (cF aB k k) k<|ae (bO aB k k k k k k k k) k<|an<|tn<|sQ<|sR<|am k k ?_
 refine ln k4<|am k k<|an<|tn<|aM<|oB h λy8 hy8 h=>bV (body:=(kM a1 v1)) hy8 (λ(x1:((List Int)×Int))=>bE [(4,.ptr 0 0 0),(5,.ptr 1 0 0),(14,.list 1 (a1.map (cJ 1 eI))),(15,.int (a1.length:Int)),(16,.int x1.2)] [(0,⟨3,[[.int 0,.int 0,.nil 1]]⟩),(1,⟨3,[[.int v1.rows,.int v1.cols,.own 2 0 x1.1.length]]⟩),(2,⟨1,x1.1.map (ow eI)⟩)] 3 [3,4]) (λr e t=>e= .exit 0∧Ent t (bE [(4,.ptr 0 0 0),(5,.ptr 1 0 0)] [(0,⟨3,[[.int 0,.int 0,.nil 1]]⟩),(1,⟨3,[[.int v1.rows,.int v1.cols,.own 2 0 r.length]]⟩),(2,⟨1,r.map (ow eI)⟩)] 3 [3,4])) (aA (σ:=sg [(0,0),(1,2),(2,1)]) ⟨(pE k k),(pE k k),⟨_,k,⟨k,k⟩⟩,(e1 k k),(e1 k k),aO⟩ (hP k k k k<|hX ⟨_,k,k,.inr ⟨_,_,k,⟨_,_,k,k,⟨_,_,k,k,⟨_,_,k,⟨k,k,k,k⟩,k⟩⟩⟩,k⟩⟩ k<|hI k k k<|aO) k) ?_ ?_
 ·intro x1 o h
  refine sR<|cm k4<|an<|tn<|sQ ?_
  rcases cb h with ⟨q2,h⟩|⟨q2,h⟩
  ·refine aD k q2<|aN<|tn<|sQ<|aM<|sR<|am k k<|oB h λv3 hv3 h=>ae (aU aB hv3 k k k k k k) k<|lr k7 ?_
   refine aa k k<|aT k2<|sR<|am k k<|ln k4<|am k k<|an ?_
   refine tn<|aM<|oB h λy7 hy7 h=>bV (body:=(kL v1 v3 x1)) hy7 (λ(x2:((List Int)×Int))=>bE [(4,.ptr 0 0 0),(5,.ptr 1 0 0),(6,.int x1.2),(14,.list 1 (a1.map (cJ 1 eI))),(15,.int (a1.length:Int)),(16,.int x1.2),(21,.list 1 (v3.map eI)),(22,.int (v3.length:Int)),(23,.int x2.2)] [(0,⟨3,[[.int 0,.int 0,.nil 1]]⟩),(1,⟨3,[[.int v1.rows,.int v1.cols,.own 2 0 x2.1.length]]⟩),(2,⟨1,x2.1.map (ow eI)⟩)] 3 [3,4]) (λr e t=>e= .exit 2∧Ent t (bE [(4,.ptr 0 0 0),(5,.ptr 1 0 0),(14,.list 1 (a1.map (cJ 1 eI))),(15,.int (a1.length:Int)),(16,.int x1.2)] [(0,⟨3,[[.int 0,.int 0,.nil 1]]⟩),(1,⟨3,[[.int v1.rows,.int v1.cols,.own 2 0 r.length]]⟩),(2,⟨1,r.map (ow eI)⟩)] 3 [3,4])) (aA (σ:=sg [(0,0),(1,1),(2,2)]) ⟨(pE k k),(pE k k),(e1 k k),⟨_,k,⟨k,k⟩⟩,(e1 k k),(e1 k k),⟨_,k,⟨k,k⟩⟩,(e1 k k),(e1 k k),aO⟩ (hP k k k k<|hX ⟨_,k,k,.inr ⟨_,_,k,⟨_,_,k,k,⟨_,_,k,k,⟨_,_,k,⟨k,k,k,k⟩,k⟩⟩⟩,k⟩⟩ k<|hI k k k<|aO) k) ?_ ?_
   ·intro x2 o h
    refine sR<|cm k4<|an<|tn<|sQ ?_
    rcases cb h with ⟨q4,h⟩|⟨q4,h⟩
    ·refine aD k q4<|aN<|tn<|sQ<|aM<|sR<|am k k<|oB h λv5 hv5 h=>ae (aU aB hv5 k k k k k k) k<|lr k7 ?_
     refine aa k k<|aT k2<|rg<|fp k8<|lp k8<|am k k<|fp k8<|lp k8 ?_
     refine ae (fE k k) k<|am k k<|ae (bD k k) k<|am k k<|oB h λv6 hv6 h=>ae (bU aB (dF hv6) (bY hv6) k k k k k k k) k<|ae (iB aB vC (u:=v5) (cG hv6) k k k k k k) k<|an<|aY<|tn<|aJ (t:=bE [(4,.ptr 0 0 0),(5,.ptr 1 0 0),(6,.int x1.2),(14,.list 1 (a1.map (cJ 1 eI))),(15,.int (a1.length:Int)),(16,.int x1.2),(21,.list 1 (v3.map eI)),(22,.int (v3.length:Int)),(23,.int x2.2)] [(0,⟨3,[[.int 0,.int 0,.nil 1]]⟩),(1,⟨3,[[.int v1.rows,.int v1.cols,.own 2 0 ((x2.1.set ((wr ((wr (x2.2*v1.cols))+x1.2)).toNat) v5).length)]]⟩),(2,⟨1,List.map (ow eI) (x2.1.set ((wr ((wr (x2.2*v1.cols))+x1.2)).toNat) v5)⟩)] 3 [3,4]) (aA (σ:=sg [(0,0),(1,1),(2,2)]) ⟨(pE k k),(pE k k),(e1 k k),⟨_,k,⟨k,k⟩⟩,(e1 k k),(e1 k k),⟨_,k,⟨k,k⟩⟩,(e1 k k),(e1 k k),aO⟩ (hP k k k k<|hX ⟨_,k,k,.inr ⟨_,_,k,⟨_,_,k,k,⟨_,_,k,k,⟨_,_,k,⟨k,k,(by simp only [aX,lA,lT,lR,lC,lN]),k⟩,k⟩⟩⟩,k⟩⟩ k<|hI k k k<|aO) k) ?_
     refine rg<|ae (bD k k) k<|am k k<|an<|tn ?_
     obtain rfl:=so h
     exact ⟨_,k,(aA (σ:=sg [(0,0),(1,1),(2,2)]) ⟨(pE k k),(pE k k),(e1 k k),⟨_,k,⟨k,k⟩⟩,(e1 k k),(e1 k k),⟨_,k,⟨k,k⟩⟩,(e1 k k),(e1 k k),aO⟩ (hP k k k k<|hX ⟨_,k,k,.inr ⟨_,_,k,⟨_,_,k,k,⟨_,_,k,k,⟨_,_,k,⟨k,k,k,k⟩,k⟩⟩⟩,k⟩⟩ k<|hI k k k<|aO) k)⟩
    ·refine aH k q4<|bA<|aG<|aG ?_
     obtain rfl:=so h
     exact ⟨_,k,k,(aA (σ:=sg [(0,0),(1,1),(2,2)]) ⟨(pE k k),(pE k k),⟨_,k,⟨k,k⟩⟩,(e1 k k),(e1 k k),aO⟩ (hP k k k k<|hX ⟨_,k,k,.inr ⟨_,_,k,⟨_,_,k,k,⟨_,_,k,k,⟨_,_,k,⟨k,k,k,k⟩,k⟩⟩⟩,k⟩⟩ k<|hI k k k<|aO) k)⟩
   ·rintro e t ⟨rfl,hent⟩
    refine aR<|aY<|tn<|aJ hent<|rg<|ae (bD k k) k<|am k k<|an<|tn ?_
    obtain rfl:=so h
    exact ⟨_,k,(aA (σ:=sg [(0,0),(1,1),(2,2)]) ⟨(pE k k),(pE k k),⟨_,k,⟨k,k⟩⟩,(e1 k k),(e1 k k),aO⟩ (hP k k k k<|hX ⟨_,k,k,.inr ⟨_,_,k,⟨_,_,k,k,⟨_,_,k,k,⟨_,_,k,⟨k,k,k,k⟩,k⟩⟩⟩,k⟩⟩ k<|hI k k k<|aO) k)⟩
  ·refine aH k q2<|bA<|aG<|aG ?_
   obtain rfl:=so h
   exact ⟨_,k,k,(aA (σ:=sg [(0,0),(1,1),(2,2)]) (bP k2) (hP k k k k<|hX ⟨_,k,k,.inr ⟨_,_,k,⟨_,_,k,k,⟨_,_,k,k,⟨_,_,k,⟨k,k,k,k⟩,k⟩⟩⟩,k⟩⟩ k<|hI k k k<|aO) k)⟩
 ·rintro e t ⟨rfl,hent⟩
  refine aR<|tn<|aJ hent<|sR<|lp k8<|ae (bO aB k k k k k k k k) k<|an<|tn<|aL ?_
  obtain rfl:=so h
  exact bG k k k (tF (bN (k) (bN (k) (bN (jI cX k k) iJ))))
end
noncomputable section
set_option maxRecDepth 10000
set_option maxHeartbeats 4000000
end
noncomputable section
def dN (r:Rp) (k:Nat):Nat:=(r.dims[k]?.getD 0).toNat
theorem aSK {r:Rp} (h:aFZ r=true):mG r.p=true∧aHT r.q r.dims=true∧r.maps.length=r.q.src.length∧ ∀ k,k<r.maps.length→aDk r.p (r.maps[k]?.getD ⟨0,0,[]⟩)=true∧(r.maps[k]?.getD ⟨0,0,[]⟩).cols=r.dims[(r.q.src[k]?.getD 0).toNat]?.getD 0∧(r.maps[k]?.getD ⟨0,0,[]⟩).rows=r.dims[(r.q.tgt[k]?.getD 0).toNat]?.getD 0:=by
 unfold aFZ at h
 simp only [Bool.and_eq_true,decide_eq_true_eq,rY] at h
 exact ⟨h.1,h.2.1,by omega,h.2.2.2⟩
theorem aNW (c:Nat) (f:Nat→Nat→Int): ∀ n,((List.range n).map λi=>mY c (f i)).flatten=cK n c f
 |0=>by simp [cK]
 |n+1=>by
  rw [List.range_succ,List.map_append,List.flatten_append,aNW c f n]
  unfold cK
  rw [Nat.succ_mul,List.range_add,List.map_append]
  congr 1
  simp only [List.map_cons,List.map_nil,List.flatten_cons,List.flatten_nil,List.append_nil,List.map_map,mY]
  refine List.map_congr_left λj hj=>?_
  have hj:=List.mem_range.1 hj
  simp only [Function.comp]
  rw [aIy hj,aIz hj]
theorem aLK {l:List (List Int)} (h: ∀ x∈l,x.length≤1024):l.flatten.length≤1024*l.length:=by
 induction l with
 |nil=>simp
 |cons x l ih=>
  have h1:=h x (by simp)
  have h2:=ih λy hy=>h y (by simp [hy])
  simp only [List.flatten_cons,List.length_append,List.length_cons]
  omega
theorem aAT {l:List (List Int)} {k:Nat} (hk:k<l.length):(l.take (k+1)).flatten=(l.take k).flatten++l[k]:=by
 rw [List.take_succ_eq_append_getElem hk,List.flatten_append];simp
theorem aSL {l:List (List Int)} (hl:l.length≤512) (h: ∀ x∈l,x.length≤1024):iE l=some l.flatten:=by
 have hb: ∀ k,(l.take k).flatten.length ≤1024*512:=λk=>by
  have:=aLK (l:=l.take k) λx hx=>h x (List.mem_of_mem_take hx)
  have h2:(l.take k).length ≤512:=by simp;omega
  omega
 unfold iE
 rw [eD (r:=(l.flatten.length:Int)) (λk=>(((l.take k).flatten.length:Int),(k:Int))) l.length (by simp) (λk hk=>?_) (λ_=>?_),Option.bind_some]
 ·have e:=hb l.length
  rw [List.take_length] at e
  unfold aOf
  rw [decide_eq_true (by omega),decide_eq_true (by omega:(l.flatten.length:Int)≤1048576),Bool.and_self,cond_true,Option.bind_some]
  rw [eD (r:=l.flatten) (λk=>((l.take k).flatten,(k:Int))) l.length (by simp) (λk hk=>?_) (λ_=>?_),Option.bind_some]
  ·unfold gE
   simp only
   have e2:=hb (k+1)
   rw [aAT hk,List.length_append] at e2
   rw [kI hk,cond_true,dU hk,Option.bind_some,decide_eq_true (by omega),cond_true,cC hk (by omega),aAT hk]
  ·unfold gE
   simp only
   rw [nD (Nat.le_refl _),cond_false,List.take_length]
 ·unfold gD
  simp only
  have e2:=hb (k+1)
  rw [aAT hk,List.length_append] at e2
  rw [kI hk,cond_true,dU hk,Option.bind_some,dX (x:=_+_) (by omega),decide_eq_false (by omega),cond_false,cC hk (by omega),aAT hk,List.length_append,Int.natCast_add (List.take k l).flatten.length l[k].length]
 ·unfold gD
  simp only
  rw [nD (Nat.le_refl _),cond_false,List.take_length]
end
noncomputable section
open Go.ChangeShapes Go.WideShapes Go.ChangeAt Go.RowKit
theorem oI:aAc Tryz.prog 3 (aBN 1 eI):=aOc Tryz.underlying3
theorem oL:aAc Tryz.prog 22 (aBN 1 eL):=aFO Tryz.underlying22 (by decide) (by kernel_rfl) oI
theorem oQ:aAc Tryz.prog 24 (aBN 3 eQ):=by
 intro H enc w fuel cs d ps h hf
 obtain ⟨x0,T0,u0⟩:=pH Tryz.underlying24 h hf aJH (i:=0) (ft:=3) rfl (k:=1) (by kernel_rfl) oI
 obtain ⟨x1,T1,u1⟩:=pH Tryz.underlying24 h hf u0 (i:=1) (ft:=22) rfl (k:=1) (by kernel_rfl) oL
 obtain ⟨x2,T2,u2⟩:=pH Tryz.underlying24 h hf u1 (i:=2) (ft:=22) rfl (k:=1) (by kernel_rfl) oL
 exact ⟨⟨x0,x1,x2⟩,_,aJI Tryz.underlying24 h hf u2 (by kernel_rfl) _ rfl⟩
theorem oM:aAc Tryz.prog 111 (aBN 3 eM):=by
 intro H enc w fuel cs d ps h hf
 obtain ⟨x0,T0,u0⟩:=pH Tryz.underlying111 h hf aJH (i:=0) (ft:=3) rfl (k:=1) (by kernel_rfl) oI
 obtain ⟨x1,T1,u1⟩:=pH Tryz.underlying111 h hf u0 (i:=1) (ft:=3) rfl (k:=1) (by kernel_rfl) oI
 obtain ⟨x2,T2,u2⟩:=pH Tryz.underlying111 h hf u1 (i:=2) (ft:=22) rfl (k:=1) (by kernel_rfl) oL
 exact ⟨⟨x0,x1,x2⟩,_,aJI Tryz.underlying111 h hf u2 (by kernel_rfl) _ rfl⟩
theorem oMs:aAc Tryz.prog 25 (aBN 1 (λl:List Mt=>[.list 3 (l.map eM)])):=aFO Tryz.underlying25 (by decide) (by kernel_rfl) oM
theorem oR:aAc Tryz.prog 27 (aBN 6 eR):=by
 intro H enc w fuel cs d ps h hf
 obtain ⟨x0,T0,u0⟩:=pH Tryz.underlying27 h hf aJH (i:=0) (ft:=3) rfl (k:=1) (by kernel_rfl) oI
 obtain ⟨x1,T1,u1⟩:=pH Tryz.underlying27 h hf u0 (i:=1) (ft:=24) rfl (k:=3) (by kernel_rfl) oQ
 obtain ⟨x2,T2,u2⟩:=pH Tryz.underlying27 h hf u1 (i:=2) (ft:=22) rfl (k:=1) (by kernel_rfl) oL
 obtain ⟨x3,T3,u3⟩:=pH Tryz.underlying27 h hf u2 (i:=3) (ft:=25) rfl (k:=1) (by kernel_rfl) oMs
 exact ⟨⟨x0,x1,x2,x3⟩,_,aJI Tryz.underlying27 h hf u3 (by kernel_rfl) _ rfl⟩
end
noncomputable section
theorem aPp {w:World} : ∀ {ds:List AV} {vs:List Value} {S:List Nat},RepVs w ds vs S→ ∀ d∈ds,∃ v S',RepD w d v S'
 | [],_,_,_,d,hd=>by cases hd
 |c::cs,vs,S,h,d,hd=>by
  simp only [RepVs] at h
  obtain ⟨v,r,S1,S2,_,_,h3,h4⟩:=h
  rcases List.mem_cons.1 hd with rfl|h'
  ·exact ⟨v,S1,h3⟩
  ·exact aPp h4 d h'
theorem aPq {w:World} {b:Nat} : ∀ {ds:List AV} {o:Nat} {S:List Nat},RepCs w b o ds S→ ∀ d∈ds,∃ v S',RepD w d v S'
 | [],_,_,_,d,hd=>by cases hd
 |c::cs,o,S,h,d,hd=>by
  simp only [RepCs] at h
  obtain ⟨v,S1,S2,_,_,_,_,h3,h4⟩:=h
  rcases List.mem_cons.1 hd with rfl|h'
  ·exact ⟨v,S1,h3⟩
  ·exact aPq h4 d h'
theorem aPr {w:World} {k b:Nat} : ∀ {es:List (List AV)} {o:Nat} {S:List Nat},RepEs w k b o es S→ ∀ cs∈es,∀ d∈cs,∃ v S',RepD w d v S'
 | [],_,_,_,cs,hc=>by cases hc
 |c::es,o,S,h,cs,hc=>by
  simp only [RepEs] at h
  obtain ⟨S1,S2,_,_,h3,h4⟩:=h
  rcases List.mem_cons.1 hc with rfl|h'
  ·exact aPq h3
  ·exact aPr h4 cs h'
theorem aPs {w:World} {k:Nat} {es:List (List AV)} {v:Value} {S:List Nat} (h:RepD w (.list k es) v S):es.length≤9223372036854775807∧ ∀ cs∈es,∀ d∈cs,∃ v S',RepD w d v S':=by
 unfold RepD at h
 obtain ⟨a,c,_,h2,h3,h4⟩:=h
 have hm:maxLen≤9223372036854775807:=by decide
 refine ⟨by omega,?_⟩
 rcases h4 with ⟨rfl,_⟩|⟨b,o,T,_,_,_,h5⟩
 ·intro cs hcs;cases hcs
 ·exact aPr h5
theorem aUO {w:World} {l:List Int} {v:Value} {S:List Nat} (h:RepD w (aLo l) v S):fI l:=by
 have:=(aPs (k:=1) (es:=List.map eI l) h).1
 rwa [List.length_map] at this
theorem aML {w:World} {ds:List AV} (h: ∀ d∈ds,∃ v S',RepD w d v S') {l:List Int} (hl:aLo l∈ds):fI l:=by
 obtain ⟨v,S,h⟩:=h _ hl
 exact aUO h
theorem aSM {w:World} {ds:List AV} (h: ∀ d∈ds,∃ v S',RepD w d v S') {α:Type} {k:Nat} {e:α→List AV} {l:List α} (hl:AV.list k (l.map e)∈ds):fI l∧ ∀ x∈l,∀ d∈e x,∃ v S',RepD w d v S':=by
 obtain ⟨v,S,h⟩:=h _ hl
 have:=aPs h
 rw [List.length_map] at this
 exact ⟨this.1,λx hx=>this.2 _ (List.mem_map.2 ⟨x,hx,rfl⟩)⟩
theorem aVa {w:World} {m:Mt} (h: ∀ d∈eM m,∃ v S',RepD w d v S'):fM m:=aML h (by simp [eM])
theorem aUl {w:World} {l:List Mt} {ds:List AV} (h: ∀ d∈ds,∃ v S',RepD w d v S') (hl:AV.list 3 (l.map eM)∈ds):fMs l:=by
 obtain ⟨h1,h2⟩:=aSM h hl
 exact ⟨h1,λm hm=>aVa (h2 m hm)⟩
theorem aVb {w:World} {r:Rp} (h: ∀ d∈eR r,∃ v S',RepD w d v S'):fR r:=⟨⟨aML h (by simp [eR]),aML h (by simp [eR])⟩,aML h (by simp [eR]),aUl h (by simp [eR])⟩
theorem aSN {w0 w:World} {v:Value} {S:List Nat} (h:aLm w (.bl true) v S):Ending.returned v= .returned (.bool true):=by rw [h.1]
end
noncomputable section
set_option maxRecDepth 10000
set_option maxHeartbeats 4000000
def qD (a0:(List (List Int))) (a1:(List (List Int))) (x1:Int):Option (Int ⊕ (Unit ⊕ Bool)):=
 bif decide (x1<(a0.length:Int)) then
 ((cT a0 x1).bind λv3=>
 (cT a1 x1).bind λv4=>
 (jP v3 v4).bind λv5=>
 bif !v5 then
 (some (.inr (.inr (false))))
 else
 (some (.inl (wr (x1+1)))))
 else
 (some (.inr (.inl ())))
def wW (a0:(List (List Int))) (a1:(List (List Int))):Option Bool:=
 bif !decide ((a0.length:Int)=(a1.length:Int)) then
 (some (false))
 else
 ((Lp (qD a0 a1) 0).bind λy7=>
 Sum.elim (λy8=>
 some (true)
 )
 (λy9=>
 some y9
 )
 y7)
theorem aJZ (a0:(List (List Int))) (a1:(List (List Int))) (r:Bool) (h:wW a0 a1=some r):HasC Tryz.prog 45 [.list 1 (a0.map (cJ 1 eI)),.list 1 (a1.map (cJ 1 eI))] (.bl r):=by
 refine aZ aB (rvs:=[.tmp 4]) (ns:=[0,1]) Tryz.func45 k k Tryz.ntmps45 k k k<|sR<|aT k2<|sQ<|sR<|am k k ?_
 refine ln k4<|am k k<|ln k4<|cm k4<|an<|tn ?_
 rcases cb h with ⟨q1,h⟩|⟨q1,h⟩
 ·exact aD k q1<|sR<|aT k2<|aL<|aI<|fA h k2
 ·refine aH k q1<|aN<|tn<|sQ<|sR<|aT k2<|aM ?_
  refine oB h λy7 hy7 h=>bV (body:=(qD a0 a1)) hy7 (λ(x1:Int)=>bE [(0,.list 1 (a0.map (cJ 1 eI))),(1,.list 1 (a1.map (cJ 1 eI))),(5,.int x1)] [] 0 [0,1]) (λr e t=>Sum.elim (λa=>(λr e t=>e= .exit 0∧Ent t (bE [] [] 0 [0,1])) a e t) (λb=>(λr e t=>e= .ret∧mQ TT [.tmp 4] (.bl r) .ret t) b e t) r) (aA (σ:=sg []) ⟨⟨_,k,⟨k,k⟩⟩,⟨_,k,⟨k,k⟩⟩,(e1 k k),aO⟩ aO k) ?_ ?_
  ·intro x1 o h
   refine sQ<|sR<|am k k<|am k k<|ln k4<|cm k4<|an<|tn ?_
   rcases cb h with ⟨q2,h⟩|⟨q2,h⟩
   ·refine aD k q2<|aN<|tn<|sQ<|aM<|sQ<|bC kR<|am k k<|am k k<|oB h λv3 hv3 h=>ae (aU aB hv3 k k k k k k) k ?_
    refine lr k7<|am k k<|am k k<|oB h λv4 hv4 h=>ae (aU aB hv4 k k k k k k) k<|lr k7<|oB h λv5 hv5 h=>ae (aQ (pI v3 v4 v5 hv5) k (aC (aE k) (aC (aE k) aS))) k<|ae (cP k) k<|an ?_
    refine ⟨by kernel_rfl,?_⟩
    refine tn<|aJ (t:=bE [(0,.list 1 (a0.map (cJ 1 eI))),(1,.list 1 (a1.map (cJ 1 eI))),(5,.int x1),(26,.bl (!v5))] [] 0 [0,1]) (aA (σ:=sg []) ⟨⟨_,k,⟨k,k⟩⟩,⟨_,k,⟨k,k⟩⟩,(e1 k k),(e1 k k),aO⟩ aO k) ?_
    rcases cb h with ⟨q6,h⟩|⟨q6,h⟩
    ·refine aD k q6<|sR<|aT k2<|aL<|bB<|aI<|aI ?_
     obtain rfl:=so h
     exact ⟨_,k,k,bG k k k (kS k)⟩
    ·refine aH k q6<|aN<|aY<|tn<|rg<|am k k<|ae (bD k k) k<|aT k2 ?_
     obtain rfl:=so h
     exact ⟨_,k,(aA (σ:=sg []) ⟨⟨_,k,⟨k,k⟩⟩,⟨_,k,⟨k,k⟩⟩,(e1 k k),aO⟩ aO k)⟩
   ·refine aH k q2<|bA<|aG<|aG ?_
    obtain rfl:=so h
    exact ⟨_,k,k,(aA (σ:=sg []) aO aO k)⟩
  ·intro e t hX
   rcases y7 with y8|y9
   ·obtain ⟨rfl,hent⟩:=hX
    exact aR<|tn<|aJ hent<|sR<|aT k2<|aL<|fA h k2
   ·obtain ⟨rfl,hent⟩:=hX
    refine bB<|aI ?_
    obtain rfl:=so h
    exact hent
def wX (a0:Sc) (a1:Sc):Option Bool:=
 bif !decide (a0.size=a1.size) then
 (some (false))
 else
 ((wW a0.basis a1.basis).bind λv2=>
 bif !v2 then
 (some (false))
 else
 (some (true)))
theorem aJa (a0:Sc) (a1:Sc) (r:Bool) (h:wX a0 a1=some r):HasC Tryz.prog 99 [.agg (eS a0),.agg (eS a1)] (.bl r):=by
 refine aZ aB (rvs:=[.tmp 4]) (ns:=[0,1,2,3]) Tryz.func99 k k Tryz.ntmps99 k k k<|sR<|ae (cE k k k k) k<|ae (cE k k k k) k<|aT k2<|sQ<|sQ ?_
 refine rg<|fp k8<|lp k8<|fp k8<|lp k8<|cm k4<|an<|tn ?_
 rcases cb h with ⟨q1,h⟩|⟨q1,h⟩
 ·exact aD k q1<|sR<|aT k2<|aL<|aI<|fA h k2
 ·refine aH k q1<|aN<|tn<|sQ<|sR<|fp k8<|lp k8<|fp k8<|lp k8 ?_
  refine oB h λv2 hv2 h=>ae (aQ (aJZ a0.basis a1.basis v2 hv2) k (aC (aE k) (aC (aE k) aS))) k<|ae (cP k) k<|an<|tn<|aJ (t:=bE [(15,.bl (!v2))] [] 2 [2,3]) (aA (σ:=sg []) (bP k2) aO k) ?_
  rcases cb h with ⟨q3,h⟩|⟨q3,h⟩
  ·exact aD k q3<|sR<|aT k2<|aL<|aI<|fA h k2
  ·exact aH k q3<|aN<|tn<|sR<|aT k2<|aL<|fA h k2
def nU (a0:(List Sc)) (a1:(List Sc)) (x1:Int):Option (Int ⊕ (Unit ⊕ Bool)):=
 bif decide (x1<(a0.length:Int)) then
 ((cT a0 x1).bind λv3=>
 (cT a1 x1).bind λv4=>
 (wX v3 v4).bind λv5=>
 bif !v5 then
 (some (.inr (.inr (false))))
 else
 (some (.inl (wr (x1+1)))))
 else
 (some (.inr (.inl ())))
def kZ (a0:(List Sc)) (a1:(List Sc)):Option Bool:=
 bif !decide ((a0.length:Int)=(a1.length:Int)) then
 (some (false))
 else
 ((Lp (nU a0 a1) 0).bind λy7=>
 Sum.elim (λy8=>
 some (true)
 )
 (λy9=>
 some y9
 )
 y7)
theorem zU (a0:(List Sc)) (a1:(List Sc)) (r:Bool) (h:kZ a0 a1=some r):HasC Tryz.prog 40 [.list 2 (a0.map eS),.list 2 (a1.map eS)] (.bl r):=by
 refine aZ aB (rvs:=[.tmp 4]) (ns:=[0,1]) Tryz.func40 k k Tryz.ntmps40 k k k<|sR<|aT k2<|sQ<|sR<|am k k ?_
 refine ln k4<|am k k<|ln k4<|cm k4<|an<|tn ?_
 rcases cb h with ⟨q1,h⟩|⟨q1,h⟩
 ·exact aD k q1<|sR<|aT k2<|aL<|aI<|fA h k2
 ·refine aH k q1<|aN<|tn<|sQ<|sR<|aT k2<|aM ?_
  refine oB h λy7 hy7 h=>bV (body:=(nU a0 a1)) hy7 (λ(x1:Int)=>bE [(0,.list 2 (a0.map eS)),(1,.list 2 (a1.map eS)),(5,.int x1)] [] 0 [0,1]) (λr e t=>Sum.elim (λa=>(λr e t=>e= .exit 0∧Ent t (bE [] [] 0 [0,1])) a e t) (λb=>(λr e t=>e= .ret∧mQ TT [.tmp 4] (.bl r) .ret t) b e t) r) (aA (σ:=sg []) ⟨⟨_,k,⟨k,k⟩⟩,⟨_,k,⟨k,k⟩⟩,(e1 k k),aO⟩ aO k) ?_ ?_
  ·intro x1 o h
   refine sQ<|sR<|am k k<|am k k<|ln k4<|cm k4<|an<|tn ?_
   rcases cb h with ⟨q2,h⟩|⟨q2,h⟩
   ·refine aD k q2<|aN<|tn<|sQ<|aM<|sQ<|bC kR<|am k k<|am k k<|oB h λv3 hv3 h=>ae (aU aB hv3 k k k k k k) k ?_
    refine lr k7<|am k k<|am k k<|oB h λv4 hv4 h=>ae (aU aB hv4 k k k k k k) k<|lr k7<|oB h λv5 hv5 h=>ae (aQ (aJa v3 v4 v5 hv5) k (aC (wI k) (aC (wI k) aS))) k<|ae (cP k) k<|an ?_
    refine ⟨by kernel_rfl,?_⟩
    refine tn<|aJ (t:=bE [(0,.list 2 (a0.map eS)),(1,.list 2 (a1.map eS)),(5,.int x1),(26,.bl (!v5))] [] 0 [0,1]) (aA (σ:=sg []) ⟨⟨_,k,⟨k,k⟩⟩,⟨_,k,⟨k,k⟩⟩,(e1 k k),(e1 k k),aO⟩ aO k) ?_
    rcases cb h with ⟨q6,h⟩|⟨q6,h⟩
    ·refine aD k q6<|sR<|aT k2<|aL<|bB<|aI<|aI ?_
     obtain rfl:=so h
     exact ⟨_,k,k,bG k k k (kS k)⟩
    ·refine aH k q6<|aN<|aY<|tn<|rg<|am k k<|ae (bD k k) k<|aT k2 ?_
     obtain rfl:=so h
     exact ⟨_,k,(aA (σ:=sg []) ⟨⟨_,k,⟨k,k⟩⟩,⟨_,k,⟨k,k⟩⟩,(e1 k k),aO⟩ aO k)⟩
   ·refine aH k q2<|bA<|aG<|aG ?_
    obtain rfl:=so h
    exact ⟨_,k,k,(aA (σ:=sg []) aO aO k)⟩
  ·intro e t hX
   rcases y7 with y8|y9
   ·obtain ⟨rfl,hent⟩:=hX
    exact aR<|tn<|aJ hent<|sR<|aT k2<|aL<|fA h k2
   ·obtain ⟨rfl,hent⟩:=hX
    refine bB<|aI ?_
    obtain rfl:=so h
    exact hent
end
noncomputable section
theorem aVc {a b:List (List Int)} (h:a.length≤1048576∧ ∀ m∈a,bI m):wW a b=some (decide (a=b)):=by
 obtain ⟨h,hb⟩:=h
 unfold wW
 rw [aAf]
 by_cases e:a.length=b.length
 ·rw [decide_eq_true e,Bool.not_true,cond_false]
  refine aBn (by omega) e (λk h1 h2=>?_) ?_
  ·unfold qD
   rw [kI h1,cond_true,dU h1,Option.bind_some,dU h2,Option.bind_some,aQd (hb _ (List.getElem_mem h1)),Option.bind_some]
   cases decide (a[k]=b[k]) <;> rfl
  ·unfold qD
   rw [nD (Nat.le_refl _),cond_false]
 ·rw [decide_eq_false e,Bool.not_false,cond_true,decide_eq_false (by rintro rfl;exact e rfl)]
theorem aWO {a b:Sc} (h:bS a):wX a b=some (decide (a=b)):=by
 unfold wX
 rw [gB (d:=decide (a.basis=b.basis)) (λ_=>?_)]
 ·cases a;cases b;simp
 ·rw [aVc h.1,Option.bind_some,aIS]
theorem aVd {a b:List Sc} (h:a.length≤1048576∧ ∀ m∈a,bS m):kZ a b=some (decide (a=b)):=by
 obtain ⟨h,hb⟩:=h
 unfold kZ
 rw [aAf]
 by_cases e:a.length=b.length
 ·rw [decide_eq_true e,Bool.not_true,cond_false]
  refine aBn (by omega) e (λk h1 h2=>?_) ?_
  ·unfold nU
   rw [kI h1,cond_true,dU h1,Option.bind_some,dU h2,Option.bind_some,aWO (hb _ (List.getElem_mem h1)),Option.bind_some]
   cases decide (a[k]=b[k]) <;> rfl
  ·unfold nU
   rw [nD (Nat.le_refl _),cond_false]
 ·rw [decide_eq_false e,Bool.not_false,cond_true,decide_eq_false (by rintro rfl;exact e rfl)]
end
noncomputable section
set_option maxRecDepth 10000
set_option maxHeartbeats 4000000
def uJ (a0:Int) (a1:(List (List Int))):Option Mt:=
 (iE a1).bind λv1=>
 some ((⟨(a1.length:Int),a0,v1⟩:Mt))
theorem aHu (a0:Int) (a1:(List (List Int))) (r:Mt) (h:uJ a0 a1=some r):HasC Tryz.prog 260 [.int a0,.list 1 (a1.map (cJ 1 eI))] (.agg (eM r)):=by
 refine aZ aB (rvs:=[.cell 4 113]) (ns:=[0,1,2,3]) Tryz.func260 k k Tryz.ntmps260 k k k<|sR<|ae (cF aB k k) k<|an<|tn<|sR<|am k k<|ln k4 ?_
 refine am k k<|am k k<|oB h λv1 hv1 h=>ae (cL cX (aBO a1 v1 hv1) k3 (aC (aE k) aS)) k<|ae (kH aB k k k k k k) k<|ae (bO aB k k k k k k k k) k<|an<|tn<|aL ?_
 obtain rfl:=so h
 exact bG k k k (tF (bN (k) (bN (k) (bN (jI cX k k) iJ))))
def wY (v2:(Mt×(List Int))) (x1:((List (List Int))×Int)):Option (((List (List Int))×Int) ⊕ (List (List Int))):=
 bif decide (x1.2<((v2.2.length:Nat):Int)) then
 ((cI v2.1 x1.2).bind λv4=>
 (wP ((v2.1.cells.drop (0+(wr (x1.2*v2.1.cols)).toNat)).take ((wr ((wr (x1.2+1))*v2.1.cols)).toNat - (wr (x1.2*v2.1.cols)).toNat))).bind λv5=>
 bif decide (x1.1.length+1≤4294967296) then
 (some (.inl ((x1.1++[v5]),wr (x1.2+1))))
 else none)
 else
 (some (.inr x1.1))
def zH (a0:Int) (a1:Int) (a2:(List (List Int))):Option Sc:=
 (uJ a1 a2).bind λv1=>
 (yV a0 v1).bind λv2=>
 (Lp (wY v2) ([],0)).bind λy7=>
 some ((⟨a1,y7⟩:Sc))
theorem aHU (a0:Int) (a1:Int) (a2:(List (List Int))) (r:Sc) (h:zH a0 a1 a2=some r):HasC Tryz.prog 233 [.int a0,.int a1,.list 1 (a2.map (cJ 1 eI))] (.agg (eS r)):=by
 refine aZ aB (rvs:=[.cell 6 99]) (ns:=[0,1,2,3,4,5,6,7,8]) Tryz.func233 k k Tryz.ntmps233 k k k<|sR<|ae (cF aB k k) k<|an<|tn<|sR<|am k k<|am k k ?_
 refine am k k<|oB h λv1 hv1 h=>ae (cM (aHu a1 a2 v1 hv1) k3 (aC (aE k) (aC (aE k) aS))) k<|oB h λv2 hv2 h=>ae (AEff.conv (tU (x:= .tuple [.agg [.int v2.1.rows,.int v2.1.cols,.own 2 0 (v2.1.cells.map eI).length],.own 3 0 (v2.2.map eI).length]) (nb:=[(2,⟨1,dE (v2.1.cells.map eI)⟩),(3,⟨1,dE (v2.2.map eI)⟩)]) (aKQ a0 v1 v2 hv2) k (by rfl) k k (iU (gC aO (gC aO (gC (cX.good _) aCg))) (iU (cX.good _) aBL)) (aC (aE k) (aC (pW (bX (eB k) (bX (eB k) (bX (pN cX k k) nM)))) aS))) (v':= .tuple [.agg [.int v2.1.rows,.int v2.1.cols,.own 2 0 v2.1.cells.length],.own 3 0 v2.2.length]) (ed':=[(2,some ⟨1,v2.1.cells.map (ow eI)⟩),(3,some ⟨1,v2.2.map (ow eI)⟩)]) (by simp only [aX]) (aAz (nb':=[(2,⟨1,v2.1.cells.map (ow eI)⟩),(3,⟨1,v2.2.map (ow eI)⟩)]) (by simp only [jK]))) k<|am k k<|ae (cD k k (by intro _ h;cases h)) k ?_
 refine ae (cD k k (by intro _ h;cases h)) k<|ae (cF aB k k) k<|ae (bO aB k k k k k k k k) k<|aT k2<|aJ (t:=bE [(1,.int a1),(6,.ptr 0 0 0),(7,.ptr 4 0 0),(8,.own 3 0 v2.2.length)] [(0,⟨2,[[.int 0,.nil 1]]⟩),(2,⟨1,v2.1.cells.map (ow eI)⟩),(3,⟨1,v2.2.map (ow eI)⟩),(4,⟨3,[[.int v2.1.rows,.int v2.1.cols,.own 2 0 v2.1.cells.length]]⟩)] 5 [5,6,7,8]) (aA (σ:=sg [(0,0),(2,2),(3,3),(4,4)]) (bP k2) (hP k k k k<|hI k k k<|hI k k k<|hX ⟨_,k,k,.inr ⟨_,_,k,⟨_,_,k,k,⟨_,_,k,k,⟨_,_,k,⟨k,k,k,k⟩,k⟩⟩⟩,k⟩⟩ k<|aO) k)<|sR<|aa k k ?_
 refine an<|tn<|sQ<|sR<|am k k<|ae (cU aB k k k k) k<|am k k<|an<|tn ?_
 refine aM<|oB h λy7 hy7 h=>bV (body:=(wY v2)) hy7 (λ(x1:((List (List Int))×Int))=>bE [(1,.int a1),(6,.ptr 0 0 0),(7,.ptr 1 0 0),(9,.own 3 0 x1.1.length),(20,.int ((v2.2.length:Nat):Int)),(21,.int x1.2)] [(0,⟨2,[[.int 0,.nil 1]]⟩),(1,⟨3,[[.int v2.1.rows,.int v2.1.cols,.own 2 0 v2.1.cells.length]]⟩),(2,⟨1,v2.1.cells.map (ow eI)⟩),(3,⟨1,x1.1.map (ow (cJ 1 eI))⟩)] 4 [4,5,6,7,8]) (λr e t=>e= .exit 0∧Ent t (bE [(1,.int a1),(6,.ptr 0 0 0),(9,.own 1 0 r.length)] [(0,⟨2,[[.int 0,.nil 1]]⟩),(1,⟨1,r.map (ow (cJ 1 eI))⟩)] 2 [2,3,4,5,6,7,8])) (aA (σ:=sg [(0,0),(1,4),(2,2)]) ⟨(e1 k k),(pE k k),(pE k k),⟨_,k,⟨k,k,k,k⟩⟩,(e1 k k),(e1 k k),aO⟩ (hP k k k k<|hX ⟨_,k,k,.inr ⟨_,_,k,⟨_,_,k,k,⟨_,_,k,k,⟨_,_,k,⟨k,k,k,k⟩,k⟩⟩⟩,k⟩⟩ k<|hI k k k<|hX k k<|aO) k) ?_ ?_
 ·intro x1 o h
  refine sR<|cm k4<|an<|tn<|sQ ?_
  rcases cb h with ⟨q3,h⟩|⟨q3,h⟩
  ·refine aD k q3<|aN<|tn<|sQ<|aM<|sR<|am k k<|aa k k<|an ?_
   refine tn<|rg<|am k k<|lp k8<|am k k<|oB h λv4 hv4 h=>ae (AEff.pureE (fZ (σ:=sg [(0,2)]) (σ':=sg [(2,0)]) (touch:=[2]) (news:=[]) (hl2:=[(2,⟨1,v2.1.cells.map (ow eI)⟩)]) (n':=4) (r2:= .own 2 (0+(wr (x1.2*v2.1.cols)).toNat) ((wr ((wr (x1.2+1))*v2.1.cols)).toNat - (wr (x1.2*v2.1.cols)).toNat)) (eE v2.1 x1.2 v4 hv4) k k ⟨_,_,k,⟨_,_,k,k,⟨_,_,k,k,⟨_,_,k,⟨k,k,k,k⟩,k⟩⟩⟩,⟨_,_,k,k,k⟩⟩ ⟨⟨_,k,k,.inl ⟨k,cX.plainO _⟩⟩,k,aO⟩ k k k ⟨⟨_,k,k,.inl ⟨k,cX.plainO _⟩⟩,k,aO⟩ k ⟨k,k,(by simp only [aX,lA,lT,lR,lC,lN]),k⟩ k ⟨k,cX.tame _ _,aO⟩ k k) ⟨k,k,aO⟩) k<|oB h λv5 hv5 h=>ae (cL cX (aFP ((v2.1.cells.drop (0+(wr (x1.2*v2.1.cols)).toNat)).take ((wr ((wr (x1.2+1))*v2.1.cols)).toNat - (wr (x1.2*v2.1.cols)).toNat)) v5 hv5) k3 (aC (aTZ cX k) aS)) k<|ae (dW aB k k k k k k k k k k k k) k ?_
   obtain ⟨q6,h⟩:=cg h
   refine ae (wO aB (l:=x1.1) (c:=[.own 4 0 v5.length]) q6 k k k k k k k k k k k k k k) k<|aa k k<|an<|aY<|tn<|aJ (t:=bE [(1,.int a1),(6,.ptr 0 0 0),(7,.ptr 1 0 0),(9,.own 6 0 ((x1.1++[v5]).length)),(20,.int ((v2.2.length:Nat):Int)),(21,.int x1.2)] [(0,⟨2,[[.int 0,.nil 1]]⟩),(1,⟨3,[[.int v2.1.rows,.int v2.1.cols,.own 2 0 v2.1.cells.length]]⟩),(2,⟨1,v2.1.cells.map (ow eI)⟩),(6,⟨1,List.map (ow (cJ 1 eI)) (x1.1++[v5])⟩)] 7 [7,8]) (Ent.trans (wN (b:=6) (b':=4) (j:=0) (es':=v5.map eI) k k k k (aX _ _) (cX.frzs _)) (aA (σ:=sg [(0,0),(1,1),(2,2),(6,6)]) ⟨(e1 k k),(pE k k),(pE k k),⟨_,k,⟨k,k,(by simp only [aX,lA,lT,lR,lC,lN]),k⟩⟩,(e1 k k),(e1 k k),aO⟩ (hP k k k k<|hX ⟨_,k,k,.inr ⟨_,_,k,⟨_,_,k,k,⟨_,_,k,k,⟨_,_,k,⟨k,k,k,k⟩,k⟩⟩⟩,k⟩⟩ k<|hI k k k<|hX ⟨_,k,k,.inl ⟨aBM v5 k,bK.plainO _⟩⟩ k<|aO) k))<|rg<|ae (bD k k) k<|am k k<|an ?_
   refine tn ?_
   obtain rfl:=so h
   exact ⟨_,k,(aA (σ:=sg [(0,0),(1,1),(2,2),(3,6)]) (bP k2) (hP k k k k<|hX ⟨_,k,k,.inr ⟨_,_,k,⟨_,_,k,k,⟨_,_,k,k,⟨_,_,k,⟨k,k,k,k⟩,k⟩⟩⟩,k⟩⟩ k<|hI k k k<|hB (bK.plainO _) k k k<|aO) k)⟩
  ·refine aH k q3<|bA<|aG<|aG ?_
   obtain rfl:=so h
   exact ⟨_,k,k,(aA (σ:=sg [(0,0),(1,3)]) (bP k2) (hP k k k k<|hB (bK.plainO _) k k k<|aO) k)⟩
 ·rintro e t ⟨rfl,hent⟩
  refine aR<|tn<|aJ hent<|sR<|am k k<|am k k<|ae (kH aB k k k k k k) k<|ae (bO aB k k k k k k k k) k<|an ?_
  refine tn<|aL ?_
  obtain rfl:=so h
  exact bG k k k (tF (bN (k) (bN (jI bK k k) iJ)))
def jQ (a1:(List (List Int))) (x1:((List Int)×Int)):Option (((List Int)×Int) ⊕ (List Int)):=
 bif decide (x1.2<(a1.length:Int)) then
 ((cT a1 x1.2).bind λv2=>
 bif decide (x1.1.length+v2.length≤4294967296) then
 (some (.inl ((x1.1++v2),wr (x1.2+1))))
 else none)
 else
 (some (.inr x1.1))
def mA (a0:Int) (a1:(List (List Int))):Option Mt:=
 (Lp (jQ a1) ([],0)).bind λy4=>
 some ((⟨(a1.length:Int),a0,y4⟩:Mt))
theorem aEJ (a0:Int) (a1:(List (List Int))) (r:Mt) (h:mA a0 a1=some r):HasC Tryz.prog 157 [.int a0,.list 1 (a1.map (cJ 1 eI))] (.agg (eM r)):=by
 refine aZ aB (rvs:=[.cell 4 113]) (ns:=[0,1,2,3,4,5]) Tryz.func157 k k Tryz.ntmps157 k k k<|sR<|ae (cF aB k k) k<|an<|tn<|sR<|am k k<|ln k4 ?_
 refine am k k<|ae (kH aB k k k k k k) k<|ae (cF aB k k) k<|ae (bO aB k k k k k k k k) k<|an<|tn<|sQ<|sR<|aa k k ?_
 refine an<|tn<|aM<|oB h λy4 hy4 h=>bV (body:=(jQ a1)) hy4 (λ(x1:((List Int)×Int))=>bE [(1,.list 1 (a1.map (cJ 1 eI))),(4,.ptr 0 0 0),(5,.ptr 1 0 0),(6,.int x1.2)] [(0,⟨3,[[.int 0,.int 0,.nil 1]]⟩),(1,⟨3,[[.int (a1.length:Int),.int a0,.own 2 0 x1.1.length]]⟩),(2,⟨1,x1.1.map (ow eI)⟩)] 3 [3,4,5]) (λr e t=>e= .exit 0∧Ent t (bE [(4,.ptr 0 0 0),(5,.ptr 1 0 0)] [(0,⟨3,[[.int 0,.int 0,.nil 1]]⟩),(1,⟨3,[[.int (a1.length:Int),.int a0,.own 2 0 r.length]]⟩),(2,⟨1,r.map (ow eI)⟩)] 3 [3,4,5])) (aA (σ:=sg [(0,0),(1,1)]) ⟨⟨_,k,⟨k,k⟩⟩,(pE k k),(pE k k),(e1 k k),aO⟩ (hP k k k k<|hX ⟨_,k,k,.inr ⟨_,_,k,⟨_,_,k,k,⟨_,_,k,k,⟨_,_,k,⟨k,k,k,k⟩,k⟩⟩⟩,k⟩⟩ k<|hX k k<|aO) k) ?_ ?_
 ·intro x1 o h
  refine sQ<|sR<|am k k<|am k k<|ln k4<|cm k4<|an<|tn ?_
  rcases cb h with ⟨q1,h⟩|⟨q1,h⟩
  ·refine aD k q1<|aN<|tn<|sQ<|aM<|bC kR<|fp k8<|lp k8<|am k k<|am k k ?_
   refine oB h λv2 hv2 h=>ae (aU aB hv2 k k k k k k) k<|lr k7 ?_
   obtain ⟨q3,h⟩:=cg h
   refine ae (xV aB (l:=x1.1) (m:=v2) vC q3 k k k k k k k k k k k k) k<|fp k8<|ae (bO aB k k k k k k k k) k<|an ?_
   refine ⟨by kernel_rfl,?_⟩
   refine aY<|tn<|aJ (t:=bE [(1,.list 1 (a1.map (cJ 1 eI))),(4,.ptr 0 0 0),(5,.ptr 1 0 0),(6,.int x1.2)] [(0,⟨3,[[.int 0,.int 0,.nil 1]]⟩),(1,⟨3,[[.int (a1.length:Int),.int a0,.own 3 0 ((x1.1++v2).length)]]⟩),(3,⟨1,List.map (ow eI) (x1.1++v2)⟩)] 4 [4,5]) (aA (σ:=sg [(0,0),(1,1),(3,3)]) ⟨⟨_,k,⟨k,k⟩⟩,(pE k k),(pE k k),(e1 k k),aO⟩ (hP k k k k<|hX ⟨_,k,k,.inr ⟨_,_,k,⟨_,_,k,k,⟨_,_,k,k,⟨_,_,k,⟨k,k,k,k⟩,k⟩⟩⟩,k⟩⟩ k<|hI k k k<|aO) k)<|rg<|am k k<|ae (bD k k) k<|aT k2 ?_
   obtain rfl:=so h
   exact ⟨_,k,(aA (σ:=sg [(0,0),(1,1),(2,3)]) ⟨⟨_,k,⟨k,k⟩⟩,(pE k k),(pE k k),(e1 k k),aO⟩ (hP k k k k<|hX ⟨_,k,k,.inr ⟨_,_,k,⟨_,_,k,k,⟨_,_,k,k,⟨_,_,k,⟨k,k,k,k⟩,k⟩⟩⟩,k⟩⟩ k<|hI k k k<|aO) k)⟩
  ·refine aH k q1<|bA<|aG<|aG ?_
   obtain rfl:=so h
   exact ⟨_,k,k,(aA (σ:=sg [(0,0),(1,1),(2,2)]) (bP k2) (hP k k k k<|hX ⟨_,k,k,.inr ⟨_,_,k,⟨_,_,k,k,⟨_,_,k,k,⟨_,_,k,⟨k,k,k,k⟩,k⟩⟩⟩,k⟩⟩ k<|hI k k k<|aO) k)⟩
 ·rintro e t ⟨rfl,hent⟩
  refine aR<|tn<|aJ hent<|sR<|lp k8<|ae (bO aB k k k k k k k k) k<|an<|tn<|aL ?_
  obtain rfl:=so h
  exact bG k k k (tF (bN (k) (bN (k) (bN (jI cX k k) iJ))))
def jA (v1:(Mt×(List Int))) (x1:((List (List Int))×Int)):Option (((List (List Int))×Int) ⊕ (List (List Int))):=
 bif decide (x1.2<((v1.2.length:Nat):Int)) then
 (bif (decide (0≤wr (x1.2*v1.1.cols))&&(decide (wr (x1.2*v1.1.cols)≤wr ((wr (x1.2*v1.1.cols))+v1.1.cols))&&decide (wr ((wr (x1.2*v1.1.cols))+v1.1.cols)≤((v1.1.cells.length:Nat):Int)))) then
 (bif decide (([]:(List Int)).length +((v1.1.cells.drop (0+(wr (x1.2*v1.1.cols)).toNat)).take ((wr ((wr (x1.2*v1.1.cols))+v1.1.cols)).toNat - (wr (x1.2*v1.1.cols)).toNat)).length ≤4294967296) then
 (bif decide (x1.1.length+1≤4294967296) then
 (some (.inl ((x1.1++[(([]:(List Int))++((v1.1.cells.drop (0+(wr (x1.2*v1.1.cols)).toNat)).take ((wr ((wr (x1.2*v1.1.cols))+v1.1.cols)).toNat - (wr (x1.2*v1.1.cols)).toNat)))]),wr (x1.2+1))))
 else none)
 else none)
 else none)
 else
 (some (.inr x1.1))
def jY (a0:Int) (a1:Mt):Option (List (List Int)):=
 (kY a0 a1).bind λv1=>
 (Lp (jA v1) (([]:(List (List Int))),0)).bind λy6=>
 some (y6)
theorem aCt (a0:Int) (a1:Mt) (r:(List (List Int))) (h:jY a0 a1=some r):HasC Tryz.prog 182 [.int a0,.agg (eM a1)] (.list 1 (r.map (cJ 1 eI))):=by
 refine aZ aB (rvs:=[.tmp 4]) (ns:=[0,1,2,3,4,5,6,7,8,9]) Tryz.func182 k k Tryz.ntmps182 k k k<|sR<|ae (cE k k k k) k<|aT k2<|sR<|am k k ?_
 refine lp k8<|oB h λv1 hv1 h=>ae (AEff.conv (tU (x:= .tuple [.agg [.int v1.1.rows,.int v1.1.cols,.own 1 0 (v1.1.cells.map eI).length],.own 2 0 (v1.2.map eI).length]) (nb:=[(1,⟨1,dE (v1.1.cells.map eI)⟩),(2,⟨1,dE (v1.2.map eI)⟩)]) (aHi a0 a1 v1 hv1) k (by rfl) k k (iU (gC aO (gC aO (gC (cX.good _) aCg))) (iU (cX.good _) aBL)) (aC (aE k) (aC (wI k) aS))) (v':= .tuple [.agg [.int v1.1.rows,.int v1.1.cols,.own 1 0 v1.1.cells.length],.own 2 0 v1.2.length]) (ed':=[(1,some ⟨1,v1.1.cells.map (ow eI)⟩),(2,some ⟨1,v1.2.map (ow eI)⟩)]) (by simp only [aX]) (aAz (nb':=[(1,⟨1,v1.1.cells.map (ow eI)⟩),(2,⟨1,v1.2.map (ow eI)⟩)]) (by simp only [jK]))) k<|am k k<|ae (cD k k (by intro _ h;cases h)) k<|ae (cD k k (by intro _ h;cases h)) k<|ae (cF aB k k) k<|ae (bO aB k k k k k k k k) k<|aT k2 ?_
 refine sR<|ae (dW aB k k k k k k k k k k k k) k<|aT k2<|aJ (t:=bE [(5,.ptr 3 0 0),(6,.own 2 0 v1.2.length),(7,.own 4 0 (([]:(List (List Int))).length))] [(1,⟨1,v1.1.cells.map (ow eI)⟩),(2,⟨1,v1.2.map (ow eI)⟩),(3,⟨3,[[.int v1.1.rows,.int v1.1.cols,.own 1 0 v1.1.cells.length]]⟩),(4,⟨1,List.map (ow (cJ 1 eI)) ([]:(List (List Int)))⟩)] 5 [5,6,7,8,9]) (aA (σ:=sg [(1,1),(2,2),(3,3),(4,4)]) ⟨(pE k k),(oE k k),⟨_,k,⟨k,k,(by simp only [aX,lA,lT,lR,lC,lN]),k⟩⟩,aO⟩ (hI k k k<|hI k k k<|hX ⟨_,k,k,.inr ⟨_,_,k,⟨_,_,k,k,⟨_,_,k,k,⟨_,_,k,⟨k,k,k,k⟩,k⟩⟩⟩,k⟩⟩ k<|hB (bK.plainO _) k k k<|aO) k)<|sQ<|sR ?_
 refine aT k2<|aM<|oB h λy6 hy6 h=>bV (body:=(jA v1)) hy6 (λ(x1:((List (List Int))×Int))=>bE [(5,.ptr 0 0 0),(6,.own 2 0 v1.2.length),(7,.own 3 0 x1.1.length),(8,.int x1.2)] [(0,⟨3,[[.int v1.1.rows,.int v1.1.cols,.own 1 0 v1.1.cells.length]]⟩),(1,⟨1,v1.1.cells.map (ow eI)⟩),(2,⟨1,v1.2.map (ow eI)⟩),(3,⟨1,x1.1.map (ow (cJ 1 eI))⟩)] 4 [4,5,6,7,8,9]) (λr e t=>e= .exit 0∧Ent t (bE [(7,.own 0 0 r.length)] [(0,⟨1,r.map (ow (cJ 1 eI))⟩)] 1 [1,2,3,4,5,6,7,8,9])) (aA (σ:=sg [(0,3),(1,1),(2,2),(3,4)]) (bP k2) (hX ⟨_,k,k,.inr ⟨_,_,k,⟨_,_,k,k,⟨_,_,k,k,⟨_,_,k,⟨k,k,k,k⟩,k⟩⟩⟩,k⟩⟩ k<|hI k k k<|hI k k k<|hB (bK.plainO _) k k k<|aO) k) ?_ ?_
 ·intro x1 o h
  refine sQ<|sR<|am k k<|am k k<|ae (cU aB k k k k) k<|cm k4<|an<|tn ?_
  rcases cb h with ⟨q2,h⟩|⟨q2,h⟩
  ·refine aD k q2<|aN<|tn<|sQ<|aM<|rg<|am k k<|ae (dW aB k k k k k k k k k k k k) k<|fp k8<|lp k8 ?_
   refine am k k<|fp k8<|lp k8<|ae (fE k k) k<|am k k<|fp k8<|lp k8<|ae (fE k k) k<|fp k8<|lp k8 ?_
   refine ae (bD k k) k ?_
   obtain ⟨q3,h⟩:=cg h
   refine ae (aBB aB (l:=wr (x1.2*v1.1.cols)) (h:=wr ((wr (x1.2*v1.1.cols))+v1.1.cols)) q3 k k k k k k k k) k ?_
   obtain ⟨q4,h⟩:=cg h
   refine ae (xV aB (l:=([]:(List Int))) (m:=((v1.1.cells.drop (0+(wr (x1.2*v1.1.cols)).toNat)).take ((wr ((wr (x1.2*v1.1.cols))+v1.1.cols)).toNat - (wr (x1.2*v1.1.cols)).toNat))) vC q4 k k k k k (aSD cX k) k k k k k k) k<|ae (dW aB k k k k k k k k k k k k) k ?_
   obtain ⟨q5,h⟩:=cg h
   refine ae (wO aB (l:=x1.1) (c:=[.own 5 0 ((([]:(List Int))++((v1.1.cells.drop (0+(wr (x1.2*v1.1.cols)).toNat)).take ((wr ((wr (x1.2*v1.1.cols))+v1.1.cols)).toNat - (wr (x1.2*v1.1.cols)).toNat))).length)]) q5 k k k k k k k k k k k k k k) k<|aa k k<|an<|aY<|tn<|aJ (t:=bE [(5,.ptr 0 0 0),(6,.own 2 0 v1.2.length),(7,.own 7 0 ((x1.1++[(([]:(List Int))++((v1.1.cells.drop (0+(wr (x1.2*v1.1.cols)).toNat)).take ((wr ((wr (x1.2*v1.1.cols))+v1.1.cols)).toNat - (wr (x1.2*v1.1.cols)).toNat)))]).length)),(8,.int x1.2)] [(0,⟨3,[[.int v1.1.rows,.int v1.1.cols,.own 1 0 v1.1.cells.length]]⟩),(1,⟨1,v1.1.cells.map (ow eI)⟩),(2,⟨1,v1.2.map (ow eI)⟩),(7,⟨1,List.map (ow (cJ 1 eI)) (x1.1++[(([]:(List Int))++((v1.1.cells.drop (0+(wr (x1.2*v1.1.cols)).toNat)).take ((wr ((wr (x1.2*v1.1.cols))+v1.1.cols)).toNat - (wr (x1.2*v1.1.cols)).toNat)))])⟩)] 8 [8,9]) (Ent.trans (wN (b:=7) (b':=5) (j:=0) (es':=List.map eI (([]:(List Int))++((v1.1.cells.drop (0+(wr (x1.2*v1.1.cols)).toNat)).take ((wr ((wr (x1.2*v1.1.cols))+v1.1.cols)).toNat - (wr (x1.2*v1.1.cols)).toNat)))) k k k k (aX _ _) (cX.frzs _)) (aA (σ:=sg [(0,0),(1,1),(2,2),(7,7)]) ⟨(pE k k),(oE k k),⟨_,k,⟨k,k,(by simp only [aX,lA,lT,lR,lC,lN]),k⟩⟩,(e1 k k),aO⟩ (hX ⟨_,k,k,.inr ⟨_,_,k,⟨_,_,k,k,⟨_,_,k,k,⟨_,_,k,⟨k,k,k,k⟩,k⟩⟩⟩,k⟩⟩ k<|hI k k k<|hI k k k<|hX ⟨_,k,k,.inl ⟨aBM (([]:(List Int))++((v1.1.cells.drop (0+(wr (x1.2*v1.1.cols)).toNat)).take ((wr ((wr (x1.2*v1.1.cols))+v1.1.cols)).toNat - (wr (x1.2*v1.1.cols)).toNat))) k,bK.plainO _⟩⟩ k<|aO) k)) ?_
   refine rg<|am k k<|ae (bD k k) k<|aT k2 ?_
   obtain rfl:=so h
   exact ⟨_,k,(aA (σ:=sg [(0,0),(1,1),(2,2),(3,7)]) (bP k2) (hX ⟨_,k,k,.inr ⟨_,_,k,⟨_,_,k,k,⟨_,_,k,k,⟨_,_,k,⟨k,k,k,k⟩,k⟩⟩⟩,k⟩⟩ k<|hI k k k<|hI k k k<|hB (bK.plainO _) k k k<|aO) k)⟩
  ·refine aH k q2<|bA<|aG<|aG ?_
   obtain rfl:=so h
   exact ⟨_,k,k,(aA (σ:=sg [(0,3)]) (bP k2) (hB (bK.plainO _) k k k<|aO) k)⟩
 ·rintro e t ⟨rfl,hent⟩
  refine aR<|tn<|aJ hent<|sR<|am k k<|aT k2<|aL ?_
  obtain rfl:=so h
  exact bG k k k (nN (jI bK k k))
def tM (a0:Int) (a1:Int) (a2:(List (List Int))):Option Sc:=
 (mA a1 a2).bind λv1=>
 (jY a0 v1).bind λv2=>
 some ((⟨a1,v2⟩:Sc))
theorem aEK (a0:Int) (a1:Int) (a2:(List (List Int))) (r:Sc) (h:tM a0 a1 a2=some r):HasC Tryz.prog 184 [.int a0,.int a1,.list 1 (a2.map (cJ 1 eI))] (.agg (eS r)):=by
 refine aZ aB (rvs:=[.cell 6 99]) (ns:=[0,1,2,3,4]) Tryz.func184 k k Tryz.ntmps184 k k k<|sR<|ae (cF aB k k) k<|an<|tn<|sR<|am k k<|am k k ?_
 refine am k k<|am k k<|oB h λv1 hv1 h=>ae (cM (aEJ a1 a2 v1 hv1) k3 (aC (aE k) (aC (aE k) aS))) k<|oB h λv2 hv2 h=>ae (cL bK (aCt a0 v1 v2 hv2) k3 (aC (aE k) (aC (pW (bX (eB k) (bX (eB k) (bX (pN cX k k) nM)))) aS))) k<|ae (kH aB k k k k k k) k<|ae (bO aB k k k k k k k k) k<|an<|tn<|aL ?_
 obtain rfl:=so h
 exact bG k k k (tF (bN (k) (bN (jI bK k k) iJ)))
def mM (a0:(List Int)) (a1:Int) (a2:Int):Option Bool:=
 bif !decide ((a0.length:Int)=a1) then
 (some (true))
 else
 ((oZ a2 a0).bind λv2=>
 some (!v2))
theorem aDl (a0:(List Int)) (a1:Int) (a2:Int) (r:Bool) (h:mM a0 a1 a2=some r):HasC Tryz.prog 257 [.list 1 (a0.map eI),.ref (eI a1),.ref (eI a2)] (.bl r):=by
 refine aZ aB (rvs:=[.tmp 4]) (ns:=[0,1]) Tryz.func257 k k Tryz.ntmps257 k k k<|sR<|aT k2<|sR<|am k k<|ln k4 ?_
 refine lr k7<|cm k4<|am k k ?_
 rcases cb h with ⟨q1,h⟩|⟨q1,h⟩
 ·refine aP 9 k q1<|aK k4<|aK k4<|pk k3<|aT k2<|aJ (t:=bE [(4,.bl true)] [] 0 [0,1]) (aA (σ:=sg []) (bP k2) aO k) ?_
  exact aL<|fA h k2
 ·refine aP 9 k q1<|lr k7<|am k k<|oB h λv2 hv2 h=>ae (aQ (aCN a2 a0 v2 hv2) k (aC (aE k) (aC (aE k) aS))) k<|ae (cP k) k<|pk k3<|aT k2<|aJ (t:=bE [(4,.bl (!v2))] [] 0 [0,1]) (aA (σ:=sg []) (bP k2) aO k) ?_
  exact aL<|fA h k2
def qE (a0:Int) (a1:Int) (a2:(List (List Int))):Option Bool:=
 (iC a1 0 8).bind λv1=>
 bif v1 then
 (bif decide ((a2.length:Int)≤16) then
 ((dR a2 (λb0=>mM b0 a1 a0)).bind λv4=>
 some (!v4))
 else
 (some (false)))
 else
 (some (false))
theorem aFb (a0:Int) (a1:Int) (a2:(List (List Int))) (r:Bool) (h:qE a0 a1 a2=some r):HasC Tryz.prog 231 [.int a0,.int a1,.list 1 (a2.map (cJ 1 eI))] (.bl r):=by
 refine aZ aB (rvs:=[.tmp 6]) (ns:=[0,1,2,3]) Tryz.func231 k k Tryz.ntmps231 k k k<|sR<|ae (cE k k k k) k<|ae (cE k k k k) k<|aT k2<|sR ?_
 refine lp k8<|oB h λv1 hv1 h=>ae (aQ (lY a1 0 8 v1 hv1) k (aC (aE k) (aC (aE k) (aC (aE k) aS)))) k<|am k k ?_
 rcases cb h with ⟨q2,h⟩|⟨q2,h⟩
 ·refine aP 9 k q2<|am k k<|ln k4<|cm k4<|pk k3<|am k k ?_
  rcases cb h with ⟨q3,h⟩|⟨q3,h⟩
  ·refine aP 14 k q3<|am k k<|ae (aBs (vs:=[.ptr 1 0 0,.ptr 0 0 0]) k (by simp)) k<|oB h λv4 hv4 h=>ae (aQ (lK a2 (λb0=>mM b0 a1 a0) k (λb0 r h=>aDl b0 a1 a0 r h) v4 hv4) k (aC (aE k) (aC (aKr (aDV (aGV k k (bX (eB k) nM)) (aDV (aGV k k (bX (eB k) nM)) aDU))) aS))) k<|ae (cP k) k<|pk k3<|aT k2<|aJ (t:=bE [(6,.bl (!v4))] [] 2 [2,3]) (aA (σ:=sg []) (bP k2) aO k) ?_
   exact aL<|fA h k2
  ·refine aP 14 k q3<|aK k4<|aK k4<|pk k3<|aT k2<|aJ (t:=bE [(6,.bl false)] [] 2 [2,3]) (aA (σ:=sg []) (bP k2) aO k) ?_
   exact aL<|fA h k2
 ·refine aP 9 k q2<|aK k4<|ak k k<|pk k3<|am k k<|aK k4<|aK k4 ?_
  exact pk k3<|aT k2<|aL<|fA h k2
def iO (a0:(List Int)) (a1:(List Int)):Option Bool:=
 (mT a0 a1).bind λv1=>
 some (v1)
theorem aCu (a0:(List Int)) (a1:(List Int)) (r:Bool) (h:iO a0 a1=some r):HasC Tryz.prog 259 [.list 1 (a0.map eI),.list 1 (a1.map eI)] (.bl r):=by
 refine aZ aB (rvs:=[.tmp 4]) (ns:=[0,1]) Tryz.func259 k k Tryz.ntmps259 k k k<|sR<|aT k2<|sR<|am k k<|am k k ?_
 exact oB h λv1 hv1 h=>ae (aQ (aBk a0 a1 v1 hv1) k (aC (aE k) (aC (aE k) aS))) k<|aT k2<|aL<|fA h k2
def dB (a0:(List (List Int))) (a1:(List (List Int))) (a2:((List Int)→(List Int)→Option Bool)) (x1:Int):Option (Int ⊕ (Unit ⊕ Bool)):=
 bif decide (x1<(a0.length:Int)) then
 ((cT a0 x1).bind λv3=>
 (cT a1 x1).bind λv4=>
 (a2 v3 v4).bind λv5=>
 bif !v5 then
 (some (.inr (.inr (false))))
 else
 (some (.inl (wr (x1+1)))))
 else
 (some (.inr (.inl ())))
def dM (a0:(List (List Int))) (a1:(List (List Int))) (a2:((List Int)→(List Int)→Option Bool)):Option Bool:=
 bif !decide ((a0.length:Int)=(a1.length:Int)) then
 (some (false))
 else
 ((Lp (dB a0 a1 a2) 0).bind λy7=>
 Sum.elim (λy8=>
 some (true)
 )
 (λy9=>
 some y9
 )
 y7)
theorem pO (a0:(List (List Int))) (a1:(List (List Int))) (a2:((List Int)→(List Int)→Option Bool)) {f2:FuncId} {c2:List AV} (hc2:c2.all dQ=true) (hf2: ∀ b0 b1 r,a2 b0 b1=some r→HasC Tryz.prog f2 ([.list 1 (b0.map eI),.list 1 (b1.map eI)]++c2) (.bl r)) (r:Bool) (h:dM a0 a1 a2=some r):HasC Tryz.prog 258 [.list 1 (a0.map (cJ 1 eI)),.list 1 (a1.map (cJ 1 eI)),.fn f2 c2] (.bl r):=by
 refine aZ aB (rvs:=[.tmp 6]) (ns:=[0,1]) Tryz.func258 k k Tryz.ntmps258 k k (pZ k (pZ k (pZ hc2 aGd)))<|sR<|aT k2<|sQ<|sR<|am k k ?_
 refine ln k4<|am k k<|ln k4<|cm k4<|an<|tn ?_
 rcases cb h with ⟨q1,h⟩|⟨q1,h⟩
 ·exact aD k q1<|sR<|aT k2<|aL<|aI<|fA h k2
 ·refine aH k q1<|aN<|tn<|sQ<|sR<|am k k<|ln k4<|am k k<|an ?_
  refine tn<|aM<|oB h λy7 hy7 h=>bV (body:=(dB a0 a1 a2)) hy7 (λ(x1:Int)=>bE [(1,.list 1 (a1.map (cJ 1 eI))),(2,.fn f2 c2),(15,.list 1 (a0.map (cJ 1 eI))),(16,.int (a0.length:Int)),(17,.int x1)] [] 0 [0,1]) (λr e t=>Sum.elim (λa=>(λr e t=>e= .exit 0∧Ent t (bE [] [] 0 [0,1])) a e t) (λb=>(λr e t=>e= .ret∧mQ TT [.tmp 6] (.bl r) .ret t) b e t) r) (aA (σ:=sg []) ⟨⟨_,k,⟨k,k⟩⟩,⟨_,k,⟨k,pG _ hc2⟩⟩,⟨_,k,⟨k,k⟩⟩,(e1 k k),(e1 k k),aO⟩ aO k) ?_ ?_
  ·intro x1 o h
   refine sR<|cm k4<|an<|tn<|sQ ?_
   rcases cb h with ⟨q2,h⟩|⟨q2,h⟩
   ·refine aD k q2<|aN<|tn<|sQ<|aM<|sR<|am k k<|oB h λv3 hv3 h=>ae (aU aB hv3 k k k k k k) k<|lr k7 ?_
    refine aa k k<|aT k2<|sR<|am k k<|am k k<|oB h λv4 hv4 h=>ae (aU aB hv4 k k k k k k) k<|lr k7 ?_
    refine aT k2<|sR<|am k k<|am k k<|am k k<|oB h λv5 hv5 h=>ae (aFL hc2 (hf2 v3 v4 v5 hv5) k k (aC (aE k) (aC (aE k) aS))) k<|ae (cP k) k ?_
    refine an<|tn<|aJ (t:=bE [(1,.list 1 (a1.map (cJ 1 eI))),(2,.fn f2 c2),(15,.list 1 (a0.map (cJ 1 eI))),(16,.int (a0.length:Int)),(17,.int x1),(30,.bl (!v5))] [] 0 [0,1]) (aA (σ:=sg []) ⟨⟨_,k,⟨k,k⟩⟩,⟨_,k,⟨k,pG _ hc2⟩⟩,⟨_,k,⟨k,k⟩⟩,(e1 k k),(e1 k k),(e1 k k),aO⟩ aO k) ?_
    rcases cb h with ⟨q6,h⟩|⟨q6,h⟩
    ·refine aD k q6<|sR<|aT k2<|aL<|bB<|aI<|aI ?_
     obtain rfl:=so h
     exact ⟨_,k,k,bG k k k (kS k)⟩
    ·refine aH k q6<|aN<|aY<|tn<|rg<|ae (bD k k) k<|am k k<|an<|tn ?_
     obtain rfl:=so h
     exact ⟨_,k,(aA (σ:=sg []) ⟨⟨_,k,⟨k,k⟩⟩,⟨_,k,⟨k,pG _ hc2⟩⟩,⟨_,k,⟨k,k⟩⟩,(e1 k k),(e1 k k),aO⟩ aO k)⟩
   ·refine aH k q2<|bA<|aG<|aG ?_
    obtain rfl:=so h
    exact ⟨_,k,k,(aA (σ:=sg []) aO aO k)⟩
  ·intro e t hX
   rcases y7 with y8|y9
   ·obtain ⟨rfl,hent⟩:=hX
    exact aR<|tn<|aJ hent<|sR<|aT k2<|aL<|fA h k2
   ·obtain ⟨rfl,hent⟩:=hX
    refine bB<|aI ?_
    obtain rfl:=so h
    exact hent
def nV (a0:Sc) (a1:Sc):Option Bool:=
 bif decide (a0.size=a1.size) then
 ((dM a0.basis a1.basis (λb0 b1=>iO b0 b1)).bind λv2=>
 some (v2))
 else
 (some (false))
theorem aEc (a0:Sc) (a1:Sc) (r:Bool) (h:nV a0 a1=some r):HasC Tryz.prog 232 [.agg (eS a0),.agg (eS a1)] (.bl r):=by
 refine aZ aB (rvs:=[.tmp 4]) (ns:=[0,1,2,3]) Tryz.func232 k k Tryz.ntmps232 k k k<|sR<|ae (cE k k k k) k<|ae (cE k k k k) k<|aT k2<|sR ?_
 refine fp k8<|lp k8<|fp k8<|lp k8<|cm k4<|am k k ?_
 rcases cb h with ⟨q1,h⟩|⟨q1,h⟩
 ·refine aP 10 k q1<|fp k8<|lp k8<|fp k8<|lp k8<|oB h λv2 hv2 h=>ae (aQ (pO a0.basis a1.basis (λb0 b1=>iO b0 b1) k (λb0 b1 r h=>aCu b0 b1 r h) v2 hv2) k (aC (aE k) (aC (aE k) (aC (aKr aDU) aS)))) k<|pk k3<|aT k2 ?_
  exact aL<|fA h k2
 ·refine aP 10 k q1<|aK k4<|aK k4<|ak k k<|pk k3<|aT k2 ?_
  exact aL<|fA h k2
def wZ (a0:Int) (a1:Sc):Option Bool:=
 (iM a0).bind λv1=>
 bif !v1 then
 (some (false))
 else
 ((qE a0 a1.size a1.basis).bind λv3=>
 bif !v3 then
 (some (false))
 else
 ((zH a0 a1.size a1.basis).bind λv5=>
 (nV v5 a1).bind λv6=>
 some (v6)))
theorem aJb (a0:Int) (a1:Sc) (r:Bool) (h:wZ a0 a1=some r):HasC Tryz.prog 197 [.int a0,.agg (eS a1)] (.bl r):=by
 refine aZ aB (rvs:=[.tmp 4]) (ns:=[0,1,2,3]) Tryz.func197 k k Tryz.ntmps197 k k k<|sR<|ae (cE k k k k) k<|aT k2<|sQ<|sR ?_
 refine am k k<|oB h λv1 hv1 h=>ae (aQ (mV a0 v1 hv1) k (aC (aE k) aS)) k<|ae (cP k) k<|am k k ?_
 rcases cb h with ⟨q2,h⟩|⟨q2,h⟩
 ·refine aP 8 k q2<|aK k4<|aK k4<|aK k4<|ak k k<|pk k3<|an ?_
  refine tn<|aJ (t:=bE [(0,.int a0),(3,.ptr 0 0 0),(16,.bl true)] [(0,⟨2,[[.int a1.size,.list 1 (a1.basis.map (cJ 1 eI))]]⟩)] 1 [1,2,3]) (aA (σ:=sg [(0,0)]) (bP k2) (hP k k k k<|aO) k)<|aD k k<|sR<|aT k2<|aL<|aI ?_
  exact fA h k2
 ·refine aP 8 k q2<|am k k<|fp k8<|lp k8<|fp k8<|lp k8<|oB h λv3 hv3 h=>ae (aQ (aFb a0 a1.size a1.basis v3 hv3) k (aC (aE k) (aC (aE k) (aC (aE k) aS)))) k<|ae (cP k) k<|pk k3<|an ?_
  refine tn<|aJ (t:=bE [(0,.int a0),(3,.ptr 0 0 0),(16,.bl (!v3))] [(0,⟨2,[[.int a1.size,.list 1 (a1.basis.map (cJ 1 eI))]]⟩)] 1 [1,2,3]) (aA (σ:=sg [(0,0)]) (bP k2) (hP k k k k<|aO) k) ?_
  rcases cb h with ⟨q4,h⟩|⟨q4,h⟩
  ·exact aD k q4<|sR<|aT k2<|aL<|aI<|fA h k2
  ·refine aH k q4<|aN<|tn<|sQ<|bC kR<|am k k<|fp k8<|lp k8<|fp k8<|lp k8 ?_
   refine oB h λv5 hv5 h=>ae (cS (aHU a0 a1.size a1.basis v5 hv5) k3 (aC (aE k) (aC (aE k) (aC (aE k) aS)))) k<|lp k8<|oB h λv6 hv6 h=>ae (aQ (aEc v5 a1 v6 hv6) k (aC (pW (bX (eB k) (bX (pN bK k k) nM))) (aC (wI k) aS))) k<|aa k k<|an ?_
   refine ⟨by kernel_rfl,?_⟩
   exact tn<|aL<|fA h k2
def jR (a0:Int) (a1:Int) (a2:(List (List Int))) (x1:Int):Option (Int ⊕ (Unit ⊕ Bool)):=
 bif decide (x1<(a2.length:Int)) then
 ((cT a2 x1).bind λv2=>
 bif !decide ((v2.length:Int)=a1) then
 (some (.inr (.inr (false))))
 else
 ((cT a2 x1).bind λv4=>
 (gO a0 v4).bind λv5=>
 bif !v5 then
 (some (.inr (.inr (false))))
 else
 (some (.inl (wr (x1+1))))))
 else
 (some (.inr (.inl ())))
def pJ (a0:Int) (a1:Int) (a2:(List (List Int))):Option Bool:=
 (Lp (jR a0 a1 a2) 0).bind λy7=>
 Sum.elim (λy8=>
 (fL a0).bind λv9=>
 bif v9 then
 ((dZ a1 0 8).bind λv11=>
 bif v11 then
 (some (decide ((a2.length:Int)≤16)))
 else
 (some (false)))
 else
 (some (false))
 )
 (λy13=>
 some y13
 )
 y7
theorem aKS (a0:Int) (a1:Int) (a2:(List (List Int))) (r:Bool) (h:pJ a0 a1 a2=some r):HasC Tryz.prog 180 [.int a0,.int a1,.list 1 (a2.map (cJ 1 eI))] (.bl r):=by
 refine aZ aB (rvs:=[.tmp 6]) (ns:=[0,1]) Tryz.func180 k k Tryz.ntmps180 k k k<|sR<|aT k2<|sQ<|sR<|aa k k ?_
 refine an<|tn<|aM<|oB h λy7 hy7 h=>bV (body:=(jR a0 a1 a2)) hy7 (λ(x1:Int)=>bE [(0,.int a0),(1,.int a1),(2,.list 1 (a2.map (cJ 1 eI))),(7,.int x1)] [] 0 [0,1]) (λr e t=>Sum.elim (λa=>(λr e t=>e= .exit 0∧Ent t (bE [(0,.int a0),(1,.int a1),(2,.list 1 (a2.map (cJ 1 eI)))] [] 0 [0,1])) a e t) (λb=>(λr e t=>e= .ret∧mQ TT [.tmp 6] (.bl r) .ret t) b e t) r) (aA (σ:=sg []) ⟨(e1 k k),(e1 k k),⟨_,k,⟨k,k⟩⟩,(e1 k k),aO⟩ aO k) ?_ ?_
 ·intro x1 o h
  refine sQ<|sR<|am k k<|am k k<|ln k4<|cm k4<|an<|tn ?_
  rcases cb h with ⟨q1,h⟩|⟨q1,h⟩
  ·refine aD k q1<|aN<|tn<|sQ<|aM<|sR<|am k k<|am k k<|oB h λv2 hv2 h=>ae (aU aB hv2 k k k k k k) k ?_
   refine lr k7<|ln k4<|am k k<|cm k4<|am k k ?_
   rcases cb h with ⟨q3,h⟩|⟨q3,h⟩
   ·refine aP 21 k q3<|aK k4<|aK k4<|aK k4<|ak k k<|pk k3<|an ?_
    refine tn<|aJ (t:=bE [(0,.int a0),(1,.int a1),(2,.list 1 (a2.map (cJ 1 eI))),(7,.int x1),(29,.bl true)] [] 0 [0,1]) (aA (σ:=sg []) ⟨(e1 k k),(e1 k k),⟨_,k,⟨k,k⟩⟩,(e1 k k),(e1 k k),aO⟩ aO k)<|aD k k<|sR<|aT k2<|aL<|bB ?_
    refine aI<|aI ?_
    obtain rfl:=so h
    exact ⟨_,k,k,bG k k k (kS k)⟩
   ·refine aP 21 k q3<|am k k<|am k k<|am k k<|oB h λv4 hv4 h=>ae (aU aB hv4 k k k k k k) k<|lr k7<|oB h λv5 hv5 h=>ae (aQ (zN a0 v4 v5 hv5) k (aC (aE k) (aC (aE k) aS))) k<|ae (cP k) k<|pk k3<|an ?_
    refine tn<|aJ (t:=bE [(0,.int a0),(1,.int a1),(2,.list 1 (a2.map (cJ 1 eI))),(7,.int x1),(29,.bl (!v5))] [] 0 [0,1]) (aA (σ:=sg []) ⟨(e1 k k),(e1 k k),⟨_,k,⟨k,k⟩⟩,(e1 k k),(e1 k k),aO⟩ aO k) ?_
    rcases cb h with ⟨q6,h⟩|⟨q6,h⟩
    ·refine aD k q6<|sR<|aT k2<|aL<|bB<|aI<|aI ?_
     obtain rfl:=so h
     exact ⟨_,k,k,bG k k k (kS k)⟩
    ·refine aH k q6<|aN<|aY<|tn<|rg<|am k k<|ae (bD k k) k<|aT k2 ?_
     obtain rfl:=so h
     exact ⟨_,k,(aA (σ:=sg []) ⟨(e1 k k),(e1 k k),⟨_,k,⟨k,k⟩⟩,(e1 k k),aO⟩ aO k)⟩
  ·refine aH k q1<|bA<|aG<|aG ?_
   obtain rfl:=so h
   exact ⟨_,k,k,(aA (σ:=sg []) ⟨(e1 k k),(e1 k k),⟨_,k,⟨k,k⟩⟩,aO⟩ aO k)⟩
 ·intro e t hX
  rcases y7 with y8|y13
  ·obtain ⟨rfl,hent⟩:=hX
   refine aR<|tn<|aJ hent<|sR<|am k k<|oB h λv9 hv9 h=>ae (aQ (mU a0 v9 hv9) k (aC (aE k) aS)) k<|am k k ?_
   rcases cb h with ⟨q10,h⟩|⟨q10,h⟩
   ·refine aP 32 k q10<|am k k<|oB h λv11 hv11 h=>ae (aQ (fH a1 0 8 v11 hv11) k (aC (aE k) (aC (aE k) (aC (aE k) aS)))) k<|pk k3<|am k k ?_
    rcases cb h with ⟨q12,h⟩|⟨q12,h⟩
    ·refine aP 36 k q12<|am k k<|ln k4<|cm k4<|pk k3<|aT k2<|aJ (t:=bE [(6,.bl (decide ((a2.length:Int)≤16)))] [] 0 [0,1]) (aA (σ:=sg []) (bP k2) aO k)<|aL ?_
     exact fA h k2
    ·refine aP 36 k q12<|aK k4<|ak k k<|pk k3<|aT k2<|aJ (t:=bE [(6,.bl false)] [] 0 [0,1]) (aA (σ:=sg []) (bP k2) aO k)<|aL ?_
     exact fA h k2
   ·refine aP 32 k q10<|aK k4<|pk k3<|am k k<|aK k4<|ak k k<|pk k3<|aa k k ?_
    exact an<|tn<|aL<|fA h k2
  ·obtain ⟨rfl,hent⟩:=hX
   refine bB<|aI ?_
   obtain rfl:=so h
   exact hent
def hO (a0:(List (List Int))) (a1:(List (List Int))) (x1:Int) (x2:Int):Option (Int ⊕ (Unit ⊕ Bool)):=
 (cT a0 x1).bind λv6=>
 bif decide (x2<(v6.length:Int)) then
 ((cT a0 x1).bind λv8=>
 (cT v8 x2).bind λv9=>
 (cT a1 x1).bind λv10=>
 (cT v10 x2).bind λv11=>
 bif !decide (v9=v11) then
 (some (.inr (.inr (false))))
 else
 (some (.inl (wr (x2+1)))))
 else
 (some (.inr (.inl ())))
def jS (a0:(List (List Int))) (a1:(List (List Int))) (x1:Int):Option (Int ⊕ (Unit ⊕ Bool)):=
 bif decide (x1<(a0.length:Int)) then
 ((cT a0 x1).bind λv3=>
 (cT a1 x1).bind λv4=>
 bif !decide ((v3.length:Int)=(v4.length:Int)) then
 (some (.inr (.inr (false))))
 else
 ((Lp (hO a0 a1 x1) 0).bind λy13=>
 Sum.elim (λy14=>
 some (.inl (wr (x1+1)))
 )
 (λy15=>
 some (.inr (.inr y15))
 )
 y13))
 else
 (some (.inr (.inl ())))
def pK (a0:(List (List Int))) (a1:(List (List Int))):Option Bool:=
 bif !decide ((a0.length:Int)=(a1.length:Int)) then
 (some (false))
 else
 ((Lp (jS a0 a1) 0).bind λy16=>
 Sum.elim (λy17=>
 some (true)
 )
 (λy18=>
 some y18
 )
 y16)
theorem aKT (a0:(List (List Int))) (a1:(List (List Int))) (r:Bool) (h:pK a0 a1=some r):HasC Tryz.prog 181 [.list 1 (a0.map (cJ 1 eI)),.list 1 (a1.map (cJ 1 eI))] (.bl r):=by
 refine aZ aB (rvs:=[.tmp 4]) (ns:=[0,1]) Tryz.func181 k k Tryz.ntmps181 k k k<|sR<|aT k2<|sQ<|sR<|am k k ?_
 refine ln k4<|am k k<|ln k4<|cm k4<|an<|tn ?_
 rcases cb h with ⟨q1,h⟩|⟨q1,h⟩
 ·exact aD k q1<|sR<|aT k2<|aL<|aI<|fA h k2
 ·refine aH k q1<|aN<|tn<|sQ<|sR<|aT k2<|aM ?_
  refine oB h λy16 hy16 h=>bV (body:=(jS a0 a1)) hy16 (λ(x1:Int)=>bE [(0,.list 1 (a0.map (cJ 1 eI))),(1,.list 1 (a1.map (cJ 1 eI))),(5,.int x1)] [] 0 [0,1]) (λr e t=>Sum.elim (λa=>(λr e t=>e= .exit 0∧Ent t (bE [] [] 0 [0,1])) a e t) (λb=>(λr e t=>e= .ret∧mQ TT [.tmp 4] (.bl r) .ret t) b e t) r) (aA (σ:=sg []) ⟨⟨_,k,⟨k,k⟩⟩,⟨_,k,⟨k,k⟩⟩,(e1 k k),aO⟩ aO k) ?_ ?_
  ·intro x1 o h
   refine sQ<|sR<|am k k<|am k k<|ln k4<|cm k4<|an<|tn ?_
   rcases cb h with ⟨q2,h⟩|⟨q2,h⟩
   ·refine aD k q2<|aN<|tn<|sQ<|aM<|sQ<|sQ<|bC kR<|am k k<|am k k ?_
    refine oB h λv3 hv3 h=>ae (aU aB hv3 k k k k k k) k<|lr k7<|ln k4<|am k k<|am k k<|oB h λv4 hv4 h=>ae (aU aB hv4 k k k k k k) k<|lr k7<|ln k4<|cm k4<|an ?_
    refine ⟨by kernel_rfl,?_⟩
    refine tn<|aJ (t:=bE [(0,.list 1 (a0.map (cJ 1 eI))),(1,.list 1 (a1.map (cJ 1 eI))),(5,.int x1),(28,.bl (!decide ((v3.length:Int)=(v4.length:Int))))] [] 0 [0,1]) (aA (σ:=sg []) ⟨⟨_,k,⟨k,k⟩⟩,⟨_,k,⟨k,k⟩⟩,(e1 k k),(e1 k k),aO⟩ aO k) ?_
    rcases cb h with ⟨q5,h⟩|⟨q5,h⟩
    ·refine aD k q5<|sR<|aT k2<|aL<|aI<|bB<|aI ?_
     refine aI ?_
     obtain rfl:=so h
     exact ⟨_,k,k,bG k k k (kS k)⟩
    ·refine aH k q5<|aN<|tn<|sR<|aT k2<|aM<|oB h λy13 hy13 h=>bV (body:=(hO a0 a1 x1)) hy13 (λ(x2:Int)=>bE [(0,.list 1 (a0.map (cJ 1 eI))),(1,.list 1 (a1.map (cJ 1 eI))),(5,.int x1),(6,.int x2)] [] 0 [0,1]) (λr e t=>Sum.elim (λa=>(λr e t=>e= .exit 2∧Ent t (bE [(0,.list 1 (a0.map (cJ 1 eI))),(1,.list 1 (a1.map (cJ 1 eI))),(5,.int x1)] [] 0 [0,1])) a e t) (λb=>(λr e t=>e= .ret∧mQ TT [.tmp 4] (.bl r) .ret t) b e t) r) (aA (σ:=sg []) ⟨⟨_,k,⟨k,k⟩⟩,⟨_,k,⟨k,k⟩⟩,(e1 k k),(e1 k k),aO⟩ aO k) ?_ ?_
     ·intro x2 o h
      refine sQ<|sR<|am k k<|am k k<|am k k<|oB h λv6 hv6 h=>ae (aU aB hv6 k k k k k k) k<|lr k7<|ln k4<|cm k4 ?_
      refine an<|tn ?_
      rcases cb h with ⟨q7,h⟩|⟨q7,h⟩
      ·refine aD k q7<|aN<|tn<|sQ<|aM<|sQ<|bC kR<|am k k<|am k k<|oB h λv8 hv8 h=>ae (aU aB hv8 k k k k k k) k ?_
       refine lr k7<|am k k<|oB h λv9 hv9 h=>ae (aU aB hv9 k k k k k k) k<|lr k7<|am k k<|am k k<|oB h λv10 hv10 h=>ae (aU aB hv10 k k k k k k) k<|lr k7<|am k k<|oB h λv11 hv11 h=>ae (aU aB hv11 k k k k k k) k ?_
       refine lr k7<|cm k4<|an ?_
       refine ⟨by kernel_rfl,?_⟩
       refine tn<|aJ (t:=bE [(0,.list 1 (a0.map (cJ 1 eI))),(1,.list 1 (a1.map (cJ 1 eI))),(5,.int x1),(6,.int x2),(52,.bl (!decide (v9=v11)))] [] 0 [0,1]) (aA (σ:=sg []) ⟨⟨_,k,⟨k,k⟩⟩,⟨_,k,⟨k,k⟩⟩,(e1 k k),(e1 k k),(e1 k k),aO⟩ aO k) ?_
       rcases cb h with ⟨q12,h⟩|⟨q12,h⟩
       ·refine aD k q12<|sR<|aT k2<|aL<|bB<|aI<|aI ?_
        obtain rfl:=so h
        exact ⟨_,k,k,bG k k k (kS k)⟩
       ·refine aH k q12<|aN<|aY<|tn<|rg<|am k k<|ae (bD k k) k<|aT k2 ?_
        obtain rfl:=so h
        exact ⟨_,k,(aA (σ:=sg []) ⟨⟨_,k,⟨k,k⟩⟩,⟨_,k,⟨k,k⟩⟩,(e1 k k),(e1 k k),aO⟩ aO k)⟩
      ·refine aH k q7<|bA<|aG<|aG ?_
       obtain rfl:=so h
       exact ⟨_,k,k,(aA (σ:=sg []) ⟨⟨_,k,⟨k,k⟩⟩,⟨_,k,⟨k,k⟩⟩,(e1 k k),aO⟩ aO k)⟩
     ·intro e t hX
      rcases y13 with y14|y15
      ·obtain ⟨rfl,hent⟩:=hX
       refine aR<|aY<|tn<|aJ hent<|rg<|am k k<|ae (bD k k) k<|aT k2 ?_
       obtain rfl:=so h
       exact ⟨_,k,(aA (σ:=sg []) ⟨⟨_,k,⟨k,k⟩⟩,⟨_,k,⟨k,k⟩⟩,(e1 k k),aO⟩ aO k)⟩
      ·obtain ⟨rfl,hent⟩:=hX
       refine bB<|bB<|aI<|aI ?_
       obtain rfl:=so h
       exact ⟨_,k,k,hent⟩
   ·refine aH k q2<|bA<|aG<|aG ?_
    obtain rfl:=so h
    exact ⟨_,k,k,(aA (σ:=sg []) aO aO k)⟩
  ·intro e t hX
   rcases y16 with y17|y18
   ·obtain ⟨rfl,hent⟩:=hX
    exact aR<|tn<|aJ hent<|sR<|aT k2<|aL<|fA h k2
   ·obtain ⟨rfl,hent⟩:=hX
    refine bB<|aI ?_
    obtain rfl:=so h
    exact hent
def fP (a0:Int) (a1:Sc):Option Bool:=
 (pJ a0 a1.size a1.basis).bind λv1=>
 bif !v1 then
 (some (false))
 else
 ((mA a1.size a1.basis).bind λv3=>
 (jY a0 v3).bind λv4=>
 (pK v4 a1.basis).bind λv5=>
 some (v5))
theorem rI (a0:Int) (a1:Sc) (r:Bool) (h:fP a0 a1=some r):HasC Tryz.prog 135 [.int a0,.agg (eS a1)] (.bl r):=by
 refine aZ aB (rvs:=[.tmp 4]) (ns:=[0,1,2,3,4]) Tryz.func135 k k Tryz.ntmps135 k k k<|sR<|ae (cE k k k k) k<|aT k2<|sQ<|sR ?_
 refine am k k<|fp k8<|lp k8<|fp k8<|lp k8<|oB h λv1 hv1 h=>ae (aQ (aKS a0 a1.size a1.basis v1 hv1) k (aC (aE k) (aC (aE k) (aC (aE k) aS)))) k<|ae (cP k) k<|an<|tn ?_
 rcases cb h with ⟨q2,h⟩|⟨q2,h⟩
 ·exact aD k q2<|sR<|aT k2<|aL<|aI<|fA h k2
 ·refine aH k q2<|aN<|tn<|sQ<|bC kR<|am k k<|fp k8<|lp k8<|fp k8<|lp k8 ?_
  refine oB h λv3 hv3 h=>ae (cM (aEJ a1.size a1.basis v3 hv3) k3 (aC (aE k) (aC (aE k) aS))) k<|oB h λv4 hv4 h=>ae (cL bK (aCt a0 v3 v4 hv4) k3 (aC (aE k) (aC (pW (bX (eB k) (bX (eB k) (bX (pN cX k k) nM)))) aS))) k<|fp k8<|lp k8<|oB h λv5 hv5 h=>ae (aQ (aKT v4 a1.basis v5 hv5) k (aC (zB bK k k) (aC (aE k) aS))) k<|aa k k<|an ?_
  refine ⟨by kernel_rfl,?_⟩
  exact tn<|aL<|fA h k2
end
noncomputable section
theorem aPt {l:List (List Int)} {n:Nat} (h: ∀ v∈l,v.length=n):l=(List.range l.length).map λi=>mY n (cB l i):=by
 refine List.ext_getElem (by simp) λi h1 h2=>?_
 simp only [List.getElem_map,List.getElem_range]
 refine List.ext_getElem (by rw [fF];exact h _ (List.getElem_mem h1)) λj h3 h4=>?_
 simp [mY,cB,h1,h3]
theorem aLL {l:List (List Int)} {n:Nat} (h: ∀ v∈l,v.length=n):l.flatten=cK l.length n (cB l):=by
 have e:l.flatten=((List.range l.length).map λi=>mY n (cB l i)).flatten:=by rw [←aPt h]
 rw [e,aNW]
theorem aMM {p:Int} (hp:mG p=true) {n:Nat} {l:List (List Int)} (hn:n≤1024) (hl:l.length≤512) (h:VecsP p n l):Tb p l.length n (cB l):=by
 refine ⟨hp,?_,by omega,by omega,h.inP⟩
 have:=Nat.mul_le_mul hl hn
 omega
theorem aNX {r c i:Nat} (hN:r*c≤1048576) (hr:r≤1048576) (hi:i<r) (F:Nat→Nat→Int):((cK r c F).drop (0+(i*c))).take ((i*c+c) - i*c)=mY c (F i):=by
 have h:= @aJT r c i hi
 rw [Nat.succ_mul] at h
 refine List.ext_getElem (by simp [iI,fF];omega) λt h1 h2=>?_
 rw [fF] at h2
 rw [List.getElem_take,List.getElem_drop]
 simp [cK,mY,aIy h2,aIz h2]
theorem aEL (F:Nat→Nat→Int) (r n:Nat):fJ F r n=(List.range r).map λi=>mY n (F i):=rfl
theorem aEM (F:Nat→Nat→Int) (r n:Nat):fJ F r n++[mY n (F r)]=fJ F (r+1) n:=by
 rw [aEL,aEL,List.range_succ,List.map_append];rfl
theorem aOp {n:Nat} {l:List (List Int)} (hn:n≤1024) (hl:l.length≤512) (h: ∀ v∈l,v.length=n):uJ n l=some ⟨l.length,n,cK l.length n (cB l)⟩:=by
 unfold uJ
 rw [aSL hl (λv hv=>by rw [h v hv];exact hn),Option.bind_some,aLL h]
theorem aJc {p:Int} (hp:mG p=true) {n:Nat} {l:List (List Int)} (hn:n≤1024) (hl:l.length≤512) (h:VecsP p n l):zH p n l=some ⟨n,fD p n l⟩:=by
 have T:=aMM hp hn hl h
 have hL:= @wH p l.length (cB l) n
 have h1:=T.hN
 unfold zH
 rw [aOp hn hl (λv hv=>(h v hv).1),Option.bind_some,aMJ T,Option.bind_some]
 rw [eD (r:=fD p n l) (λk=>(fJ (cA p l.length (cB l) n).1 k n,(k:Int))) (cA p l.length (cB l) n).2.length (by simp [fJ]) (λk hk=>?_) (λ_=>?_),Option.bind_some]
 ·have hkl:k<l.length:=by omega
  have h3:= @aJT l.length n k hkl
  rw [Nat.succ_mul] at h3
  unfold wY
  simp only
  rw [mZ,kI hk,cond_true,aJU T.hN T.hm hkl,Option.bind_some,vF T.hN hkl,yI T.hN T.hm hkl]
  simp only [Int.toNat_natCast]
  rw [aNX T.hN T.hm hkl]
  unfold wP
  rw [fF,decide_eq_true (by omega),cond_true,Option.bind_some,rZ,decide_eq_true (by omega),cond_true,aEM,cC hk (by omega)]
 ·unfold wY
  simp only
  rw [mZ,nD (Nat.le_refl _),cond_false]
  rfl
theorem aNY {n:Nat} {l:List (List Int)} (hn:n≤1024) (hl:l.length≤512) (h: ∀ v∈l,v.length=n):mA n l=some ⟨l.length,n,cK l.length n (cB l)⟩:=by
 have hb: ∀ k,(l.take k).flatten.length ≤1024*512:=λk=>by
  have:=aLK (l:=l.take k) λx hx=>by rw [h x (List.mem_of_mem_take hx)];exact hn
  have h2:(l.take k).length ≤512:=by simp;omega
  omega
 unfold mA
 rw [eD (r:=l.flatten) (λk=>((l.take k).flatten,(k:Int))) l.length (by simp) (λk hk=>?_) (λ_=>?_),Option.bind_some,aLL h]
 ·unfold jQ
  simp only
  have e2:=hb (k+1)
  rw [aAT hk,List.length_append] at e2
  rw [kI hk,cond_true,dU hk,Option.bind_some,decide_eq_true (by omega),cond_true,cC hk (by omega),aAT hk]
 ·unfold jQ
  simp only
  rw [nD (Nat.le_refl _),cond_false,List.take_length]
theorem aLM {p:Int} {m n:Nat} {F:Nat→Nat→Int} (T:Tb p m n F):jY p ⟨m,n,cK m n F⟩=some (fJ (cA p m F n).1 (cA p m F n).2.length n):=by
 have hL:= @wH p m F n
 have hm:=T.hm
 have hn:=T.hn
 unfold jY
 rw [aMK T,Option.bind_some]
 rw [eD (r:=fJ (cA p m F n).1 (cA p m F n).2.length n) (λk=>(fJ (cA p m F n).1 k n,(k:Int))) (cA p m F n).2.length (by simp [fJ]) (λk hk=>?_) (λ_=>?_),Option.bind_some]
 ·have hkl:k<m:=by omega
  have h3:= @aJT m n k hkl
  rw [Nat.succ_mul] at h3
  have h4:=T.hN
  have e:wr (wr ((k:Int)*(n:Int))+(n:Int))=((k*n+n:Nat):Int):=by rw [vF T.hN hkl,dX (by omega)];omega
  unfold jA
  simp only
  rw [mZ,kI hk,cond_true,e,vF T.hN hkl,iI,decide_eq_true (by omega),decide_eq_true (by omega:((k*n:Nat):Int)≤((k*n+n:Nat):Int)),decide_eq_true (by omega:((k*n+n:Nat):Int)≤((m*n:Nat):Int))]
  simp only [Int.toNat_natCast,Bool.and_self,cond_true,aNX T.hN T.hm hkl]
  rw [fF,decide_eq_true (by simp;omega),cond_true,rZ,decide_eq_true (by omega),cond_true,List.nil_append,aEM,cC hk (by omega)]
 ·unfold jA
  simp only
  rw [mZ,nD (Nat.le_refl _),cond_false]
theorem aNZ {p:Int} (hp:mG p=true) {n:Nat} {l:List (List Int)} (hn:n≤1024) (hl:l.length≤512) (h:VecsP p n l):tM p n l=some ⟨n,fD p n l⟩:=by
 unfold tM
 rw [aNY hn hl (λv hv=>(h v hv).1),Option.bind_some,aLM (aMM hp hn hl h),Option.bind_some]
 rfl
def bLs (l:List (List Int)):Prop:=l.length≤1048576∧ ∀ v∈l,bI v
theorem aOq (p:Int) (v:List Int):(mG p&&decide (v.length≤64)&&v.all λx=>pX x 0 (wr (p - 1)))=aCb p v:=by
 unfold aCb
 cases h:mG p with
 |false=>rfl
 |true=>rw [dX (by have:=gH h;omega)]
theorem aTo {α:Type} {l:List α} {P Q:α→Bool} (h: ∀ x∈l,P x=Q x):l.all P=l.all Q:=by
 induction l with
 |nil=>rfl
 |cons x l ih=>rw [List.all_cons,List.all_cons,h x (by simp),ih λy hy=>h y (by simp [hy])]
theorem aIU (p size:Int) (l:List (List Int)):aFH p size l=(mG p&&pX size 0 8&&decide (l.length≤16)&&l.all λv=>decide ((v.length:Int)=size)&&aCb p v):=rfl
theorem aFc {l:List (List Int)} {f:List Int→Option Bool} (P:List Int→Bool) (hf: ∀ x∈l,f x=some (P x)) (h:l.length≤1048576):dR l f=some (l.any P):=by
 unfold dR iN
 rw [aGQ (s0:=0) (s:=0) (n:=l.length) (λk=>bif P (l[k]?.getD []) then some (k:Int) else none) rfl (by omega) (Nat.zero_le _) (λk _ hk=>?_) (λ_=>?_)]
 ·rw [Option.bind_some]
  cases e:(List.range' 0 (l.length - 0)).findSome? (λk:Nat=>bif P (l[k]?.getD []) then some (k:Int) else none) with
  |none=>
   rw [List.findSome?_eq_none_iff] at e
   have:l.any P=false:=by
    rw [List.any_eq_false]
    intro x hx
    obtain ⟨k,hk,rfl⟩:=List.mem_iff_getElem.1 hx
    have:=e k (by simp;omega)
    simp only [List.getElem?_eq_getElem hk,Option.getD_some] at this
    cases hp:P l[k] with
    |false=>simp
    |true=>rw [hp] at this;cases this
   rw [this];rfl
  |some i=>
   obtain ⟨k,hk,he⟩:=List.exists_of_findSome?_eq_some e
   simp at hk
   have hkl:k<l.length:=by omega
   rw [List.getElem?_eq_getElem hkl] at he
   simp only [Option.getD_some] at he
   cases hp:P l[k] with
   |false=>rw [hp] at he;cases he
   |true=>
    rw [hp] at he
    cases he
    have:l.any P=true:=List.any_eq_true.2 ⟨_,List.getElem_mem hkl,hp⟩
    rw [this]
    simp only [Sum.elim_inr,Option.bind_some]
    rw [decide_eq_true (by omega)]
 ·unfold eX
  rw [kI hk,cond_true,rA [] hk,Option.bind_some,hf _ (dJ [] hk),Option.bind_some]
  cases P _ <;> rfl
 ·unfold eX
  rw [nD (Nat.le_refl _),cond_false]
theorem aMN (p n:Int) {l:List (List Int)} (h:bLs l):qE p n l=some (pX n 0 8&&(decide (l.length≤16)&&l.all λv=>decide ((v.length:Int)=n)&&aCb p v)):=by
 unfold qE
 rw [zG,Option.bind_some]
 refine gF λ_=>?_
 rw [show decide ((l.length:Int)≤16)=decide (l.length≤16) by rw [Bool.eq_iff_iff,decide_eq_true_eq,decide_eq_true_eq];omega]
 refine gF λ_=>?_
 rw [aFc (λv=> !(decide ((v.length:Int)=n)&&aCb p v)) (λv hv=>?_) h.1,Option.bind_some,List.not_any_eq_all_not]
 ·simp
 ·unfold mM
  cases decide ((v.length:Int)=n) with
  |false=>rfl
  |true=>rw [Bool.not_true,cond_false,aLE p (h.2 v hv),Option.bind_some,aOq,Bool.true_and]
theorem aQm {a b:List (List Int)} (h:bLs a):dM a b (λb0 b1=>iO b0 b1)=some (decide (a=b)):=by
 obtain ⟨h,hb⟩:=h
 unfold dM
 rw [aAf]
 by_cases e:a.length=b.length
 ·rw [decide_eq_true e,Bool.not_true,cond_false]
  refine aBn (by omega) e (λk h1 h2=>?_) ?_
  ·unfold dB iO
   simp only
   rw [kI h1,cond_true,dU h1,Option.bind_some,dU h2,Option.bind_some,aQe (hb _ (List.getElem_mem h1)),Option.bind_some,Option.bind_some]
   cases decide (a[k]=b[k]) <;> rfl
  ·unfold dB
   rw [nD (Nat.le_refl _),cond_false]
 ·rw [decide_eq_false e,Bool.not_false,cond_true,decide_eq_false (by rintro rfl;exact e rfl)]
theorem aKU {a b:Sc} (h:bLs a.basis):nV a b=some (decide (a.size=b.size)&&decide (a.basis=b.basis)):=by
 unfold nV
 refine gF λ_=>?_
 rw [aQm h,Option.bind_some]
theorem aUn {p:Int} {n:Nat} {l:List (List Int)} (hl:l.length≤1048576) (hn:n≤1048576) (h:VecsP p n l):bLs l:=⟨hl,λv hv=>by unfold bI;rw [(h v hv).1];exact hn⟩
theorem aNa {p:Int} (hp:mG p=true) {n:Nat} {l:List (List Int)} (hn:n≤1048576) (h:VecsP p n l):bLs (fD p n l):=aUn (by have:=(@aCd p n l).1;omega) hn (aDT hp h.inP)
theorem aKV (p:Int) {s:Sc} (h:bS s):wZ p s=some (pM p s.size s.basis):=by
 unfold wZ pM
 rw [aDc,Option.bind_some,aMN p s.size h.1,Option.bind_some,aIU]
 cases hf:mG p with
 |false=>simp
 |true=>
  rw [Bool.not_true,cond_false]
  cases hv:(pX s.size 0 8&&(decide (s.basis.length≤16)&&s.basis.all λv=>decide ((v.length:Int)=s.size)&&aCb p v)) with
  |false=>
   have hx:(true&&pX s.size 0 8&&decide (s.basis.length≤16)&&s.basis.all λv=>decide ((v.length:Int)=s.size)&&aCb p v)=false:=by rw [Bool.true_and,Bool.and_assoc];exact hv
   rw [hx];rfl
  |true=>
   have hfine:aFH p s.size s.basis=true:=by rw [aIU,hf];simp only [Bool.true_and,Bool.and_assoc];exact hv
   obtain ⟨_,n,e,hn,hl,hv2⟩:=aCe hfine
   rw [Bool.not_true,cond_false,e,aJc hf (by omega) (by omega) hv2,Option.bind_some,aKU (aNa hf (by omega) hv2),Option.bind_some]
   rw [e] at hfine
   rw [aIU,hf] at hfine
   rw [hfine]
   simp [e]
theorem aSO (p n:Int) {l:List (List Int)} (h:bLs l):pJ p n l=some (aFH p n l):=by
 unfold pJ
 have hall:=wF ([]:List Int) l (λv=>decide ((v.length:Int)=n)&&aCb p v)
 have hb:=h.1
 rw [yC (λk=>decide ((((l[k]?.getD []).length:Nat):Int)=n)&&aCb p (l[k]?.getD [])) false (n:=l.length) (by omega) (λk hk=>?_) (λ_=>?_),Option.bind_some,hall,aIU]
 ·cases l.all λv=>decide ((v.length:Int)=n)&&aCb p v with
  |false=>simp
  |true=>
   simp only [cond_true,Sum.elim_inl]
   rw [aFY,Option.bind_some,vE,Option.bind_some,Bool.and_true,Bool.and_assoc]
   refine gF λ_=>?_
   refine gF λ_=>?_
   congr 1
   rw [Bool.eq_iff_iff,decide_eq_true_eq,decide_eq_true_eq];omega
 ·unfold jR
  rw [kI hk,cond_true,rA [] hk,Option.bind_some,Option.bind_some,aGk p (h.2 _ (dJ [] hk)),Option.bind_some,aOq]
  cases decide ((((l[k]?.getD []).length:Nat):Int)=n) <;> cases aCb p (l[k]?.getD []) <;> rfl
 ·unfold jR
  rw [nD (Nat.le_refl _),cond_false]
theorem aSP {a b:List (List Int)} (h:bLs a):pK a b=some (decide (a=b)):=by
 obtain ⟨h,hb⟩:=h
 unfold pK
 rw [aAf]
 by_cases e:a.length=b.length
 ·rw [decide_eq_true e,Bool.not_true,cond_false]
  refine aBn (by omega) e (λk h1 h2=>?_) ?_
  ·have hbk:=hb _ (List.getElem_mem h1)
   unfold bI at hbk
   unfold jS
   rw [kI h1,cond_true,dU h1,Option.bind_some,dU h2,Option.bind_some,aAf]
   by_cases e2:a[k].length=b[k].length
   ·rw [decide_eq_true e2,Bool.not_true,cond_false]
    have h3:=yC (body:=hO a b k) (λj=>decide (a[k][j]?.getD 0=b[k][j]?.getD 0)) false (n:=a[k].length) (by omega) (λj hj=>?_) ?_
    ·rw [h3,aNF e2,Option.bind_some]
     cases decide (a[k]=b[k]) <;> rfl
    ·unfold hO
     rw [dU h1,Option.bind_some,kI hj,cond_true,Option.bind_some,rA 0 hj,Option.bind_some,dU h2,Option.bind_some,rA 0 (e2▸hj),Option.bind_some]
     cases decide (a[k][j]?.getD 0=b[k][j]?.getD 0) <;> rfl
    ·intro _
     unfold hO
     rw [dU h1,Option.bind_some,nD (Nat.le_refl _),cond_false]
   ·rw [decide_eq_false e2,Bool.not_false,cond_true,decide_eq_false (λe3=>e2 (by rw [e3])),cond_false]
  ·unfold jS
   rw [nD (Nat.le_refl _),cond_false]
 ·rw [decide_eq_false e,Bool.not_false,cond_true,decide_eq_false (by rintro rfl;exact e rfl)]
theorem yX (p:Int) {s:Sc} (h:bS s):fP p s=some (pM p s.size s.basis):=by
 unfold fP pM
 rw [aSO p s.size h.1,Option.bind_some]
 cases hf:aFH p s.size s.basis with
 |false=>rfl
 |true=>
  obtain ⟨hp,n,e,hn,hl,hv⟩:=aCe hf
  rw [Bool.not_true,cond_false,e,aNY (by omega) (by omega) (λv hv'=>(hv v hv').1),Option.bind_some,aLM (aMM hp (by omega) (by omega) hv),Option.bind_some,show fJ (cA p s.basis.length (cB s.basis) n).1 (cA p s.basis.length (cB s.basis) n).2.length n=fD p n s.basis from rfl,aSP (aNa hp (by omega) hv),Option.bind_some]
  simp
end
noncomputable section
set_option maxRecDepth 10000
set_option maxHeartbeats 4000000
def nW (x1:((List Int)×Int×Int)):Option (((List Int)×Int×Int) ⊕ ((List Int)×Int)):=
 bif decide (x1.2.2<((x1.1.length:Nat):Int)) then
 ((cT x1.1 x1.2.2).bind λv2=>
 some (.inl ((x1.1.set x1.2.2.toNat x1.2.1),wr (x1.2.1+1),wr (x1.2.2+1))))
 else
 (some (.inr (x1.1,x1.2.1)))
def fS (a0:(List Int)) (a1:Int):Option ((List Int)×Int):=
 (Lp nW (a0,a1,0)).bind λy3=>
 some (y3.1,y3.2)
theorem lD (a0:(List Int)) (a1:Int) (r:((List Int)×Int)) (h:fS a0 a1=some r):HasE Tryz.prog 33 [.own 0 0 a0.length,.int a1] [(0,⟨1,a0.map (ow eI)⟩)] 1 (.int r.2) [(0,⟨1,r.1.map (ow eI)⟩)]:=by
 refine pY aB (rvs:=[.tmp 4]) (ns:=[1,2]) Tryz.func33 k k Tryz.ntmps33 k k<|sR<|aT k2<|sQ<|sR<|aa k k ?_
 refine an<|tn<|aM<|oB h λy3 hy3 h=>bV (body:=nW) hy3 (λ(x1:((List Int)×Int×Int))=>bE [(0,.own 0 0 x1.1.length),(1,.int x1.2.1),(5,.int x1.2.2)] [(0,⟨1,x1.1.map (ow eI)⟩)] 1 [1,2] 1) (λr e t=>e= .exit 0∧Ent t (bE [(1,.int r.2)] [(0,⟨1,r.1.map (ow eI)⟩)] 1 [1,2] 1)) (aA (σ:=sg [(0,0)]) (bP k2) (hI k k k<|aO) k) ?_ ?_
 ·intro x1 o h
  refine sQ<|sR<|am k k<|am k k<|ae (cU aB k k k k) k<|cm k4<|an<|tn ?_
  rcases cb h with ⟨q1,h⟩|⟨q1,h⟩
  ·refine aD k q1<|aN<|tn<|sQ<|aM<|sR<|am k k<|am k k<|am k k ?_
   refine oB h λv2 hv2 h=>ae (bU aB (dF hv2) (bY hv2) k k k k k k k) k<|ae (iB aB vC (u:=x1.2.1) (cG hv2) k k k k k k) k<|an<|tn<|rg<|am k k<|ae (bD k k) k<|aa k k<|an<|aY ?_
   refine tn<|aJ (t:=bE [(0,.own 0 0 ((x1.1.set x1.2.2.toNat x1.2.1).length)),(1,.int (wr (x1.2.1+1))),(5,.int x1.2.2)] [(0,⟨1,List.map (ow eI) (x1.1.set x1.2.2.toNat x1.2.1)⟩)] 1 [1,2] 1) (aA (σ:=sg [(0,0)]) ⟨⟨_,k,⟨k,k,(by simp only [aX,lA,lT,lR,lC,lN]),k⟩⟩,(e1 k k),(e1 k k),aO⟩ (hI k k k<|aO) k)<|rg<|am k k<|ae (bD k k) k<|aT k2 ?_
   obtain rfl:=so h
   exact ⟨_,k,(aA (σ:=sg [(0,0)]) (bP k2) (hI k k k<|aO) k)⟩
  ·refine aH k q1<|bA<|aG<|aG ?_
   obtain rfl:=so h
   exact ⟨_,k,k,(aA (σ:=sg [(0,0)]) (bP k2) (hI k k k<|aO) k)⟩
 ·rintro e t ⟨rfl,hent⟩
  refine aR<|tn<|aJ hent<|sR<|am k k<|aT k2<|aL ?_
  obtain rfl:=so h
  exact ⟨bE [(4,.int y3.2)] [(0,⟨1,y3.1.map (ow eI)⟩)] 1 [1,2] 1,(aA (σ:=sg [(0,0)]) (bP k2) (hI k k k<|aO) k),k,⟨_,k,.inl k⟩,⟨k,aO⟩⟩
def mN (x1:((List (List Int))×Int×Int)):Option (((List (List Int))×Int×Int) ⊕ ((List (List Int))×Int)):=
 bif decide (x1.2.2<((x1.1.length:Nat):Int)) then
 ((cT x1.1 x1.2.2).bind λv2=>
 (fS v2 x1.2.1).bind λv3=>
 bif decide (v3.1.length=v2.length) then
 (some (.inl ((x1.1.set x1.2.2.toNat v3.1),v3.2,wr (x1.2.2+1))))
 else none)
 else
 (some (.inr (x1.1,x1.2.1)))
def sO (a0:(List (List Int))) (a1:Int):Option ((List (List Int))×Int):=
 (Lp mN (a0,a1,0)).bind λy5=>
 some (y5.1,y5.2)
theorem aGm (a0:(List (List Int))) (a1:Int) (r:((List (List Int))×Int)) (h:sO a0 a1=some r):HasT Tryz.prog 46 [.own 0 0 a0.length,.int a1] [(0,⟨1,a0.map (ow (cJ 1 eI))⟩)] 1 (.int r.2) [(0,⟨1,r.1.map (ow (cJ 1 eI))⟩)]:=by
 refine aIQ aB (rvs:=[.tmp 4]) (ns:=[1,2,3]) Tryz.func46 k k Tryz.ntmps46 k k<|sS<|jN k2<|sn<|tn<|sQ<|sS<|jN k2 ?_
 refine sn<|tn<|aM<|oB h λy5 hy5 h=>bV (body:=mN) hy5 (λ(x1:((List (List Int))×Int×Int))=>bE [(0,.own 0 0 x1.1.length),(1,.int x1.2.1),(5,.int x1.2.2)] [(0,⟨1,x1.1.map (ow (cJ 1 eI))⟩)] 1 [1,2,3] ⟨1,true,none,true⟩) (λr e t=>e= .exit 0∧Ent t (bE [(1,.int r.2)] [(0,⟨1,r.1.map (ow (cJ 1 eI))⟩)] 1 [1,2,3] ⟨1,true,none,true⟩)) (aA (σ:=sg [(0,0)]) (bP k2) (hB (bK.plainO _) k k k<|aO) k) ?_ ?_
 ·intro x1 o h
  refine sQ<|sS<|dS k2<|dS k2<|se (cU aB k k k k) k<|cmS k4<|sn<|tn ?_
  rcases cb h with ⟨q1,h⟩|⟨q1,h⟩
  ·refine aD k q1<|aN<|tn<|sQ<|aM<|rgS<|dS k2<|dS k2<|oB h λv2 hv2 h=>iK (t:=bE [(0,.own 0 0 x1.1.length),(1,.int x1.2.1),(5,.int x1.2.2),(6,.int x1.2.2),(7,.own 0 0 x1.1.length),(8,.int ((x1.1.length:Nat):Int)),(9,.bl (decide (x1.2.2<((x1.1.length:Nat):Int)))),(12,.own 0 0 x1.1.length),(13,.int x1.2.2)] [(0,⟨1,(x1.1.map (ow (cJ 1 eI))).set x1.2.2.toNat [.abs 1 (v2.map eI)]⟩)] 1 [1,2,3] ⟨1,true,none,true⟩) (aA (σ:=sg [(0,0)]) (bP k2) (hX ⟨_,k,k,.inl ⟨aJO (cG hv2),aGa bK k⟩⟩ k<|aO) k)<|iK (aGb (b:=0) (c:=1) (i:=x1.2.2.toNat) (j:=0) (n:=v2.length) (A:=x1.1.map (ow (cJ 1 eI))) (fs:=v2.map (ow eI)) (by rw [List.length_map];exact bY hv2) k k k k (aX _ _) (jK _ _) (aCn ⟨k,k,k,k,k,k,k,k,k,aO⟩) (aCo (skip:=[]) ⟨.inr (bK.dfS _ _ _ k),aO⟩)) ?_
   refine iK (t:=bE [(0,.own 0 0 x1.1.length),(1,.int x1.2.1),(5,.int x1.2.2),(6,.int x1.2.2),(7,.own 0 0 x1.1.length),(8,.int ((x1.1.length:Nat):Int)),(9,.bl (decide (x1.2.2<((x1.1.length:Nat):Int)))),(12,.own 0 0 x1.1.length),(13,.int x1.2.2)] [(0,⟨1,(x1.1.map (ow (cJ 1 eI))).set x1.2.2.toNat [.own 1 0 v2.length]⟩),(1,⟨1,v2.map (ow eI)⟩)] 2 [2,3] ⟨1,true,none,true⟩) (aA (σ:=sg [(0,0),(1,1)]) (bP k2) (hX ⟨_,k,k,.inr (aDX (σ:=sg [(0,0),(1,1)]) (m:=2) (e:=(cJ 1 eI)) (l:=x1.1) (i:=x1.2.2.toNat) (c:=[.own 1 0 v2.length]) (d:=[.own 1 0 v2.length]) bK ⟨_,_,k,⟨k,k,k,k⟩,k⟩)⟩ k<|hI k k k<|aO) k)<|se (bU aB (dF hv2) (bY hv2) k k k k k k k) k<|se (bH aB k k k k (aOa (bY hv2)) k k) k<|dS k2<|oB h λv3 hv3 h=>se (fZ (σ:=sg [(0,1)]) (σ':=sg [(1,0)]) (touch:=[1]) (news:=[]) (hl2:=[(1,⟨1,v3.1.map (ow eI)⟩)]) (n':=2) (r2:= .int v3.2) (lD v2 x1.2.1 v3 hv3) k k ⟨_,_,k,⟨k,k,k,k⟩,⟨_,_,k,k,k⟩⟩ ⟨⟨_,k,k,.inl ⟨k,cX.plainO _⟩⟩,k,aO⟩ k k k ⟨⟨_,k,k,.inl ⟨k,cX.plainO _⟩⟩,k,aO⟩ k k k ⟨k,cX.tame _ _,aO⟩ k k) k ?_
   obtain ⟨q4,h⟩:=cg h
   refine jN k2<|sn<|aY<|tn<|rgS<|dS k2<|se (bD k k) k<|jN k2<|sn<|tn ?_
   obtain rfl:=so h
   exact ⟨_,k,(Ent.trans (show Ent _ (bE [(0,.own 0 0 ((x1.1.set x1.2.2.toNat v3.1).length)),(1,.int v3.2),(5,.int (wr (x1.2.2+1)))] [(0,⟨1,List.map (ow (cJ 1 eI)) (x1.1.set x1.2.2.toNat v3.1)⟩)] 2 [2,3] ⟨1,true,none,true⟩) from (Ent.trans (aFK (b:=0) (b':=1) (j:=0) (es':=v3.1.map eI) (by rw [List.length_map];exact bY hv2) k k k k (by simp only [aX,lA,lT,lR,lC,lN,of_decide_eq_true q4]) (cX.frzs _)) (aA (σ:=sg [(0,0)]) ⟨⟨_,k,⟨k,k,(by simp only [aX,lA,lT,lR,lC,lN,of_decide_eq_true q4]),k⟩⟩,(e1 k k),(e1 k k),aO⟩ (hX ⟨_,k,k,.inl ⟨aLu v3.1 k,bK.plainO _⟩⟩ k<|aO) k))) (aA (σ:=sg [(0,0)]) (bP k2) (hB (bK.plainO _) k k k<|aO) k))⟩
  ·refine aH k q1<|bA<|aG<|aG ?_
   obtain rfl:=so h
   exact ⟨_,k,k,(aA (σ:=sg [(0,0)]) (bP k2) (hB (bK.plainO _) k k k<|aO) k)⟩
 ·rintro e t ⟨rfl,hent⟩
  refine aR<|tn<|aJ hent<|sS<|dS k2<|jN k2<|sn<|tn<|aL ?_
  obtain rfl:=so h
  exact ⟨bE [(4,.int y5.2)] [(0,⟨1,y5.1.map (ow (cJ 1 eI))⟩)] 1 [1,2,3] ⟨1,true,none,true⟩,(aA (σ:=sg [(0,0)]) (bP k2) (hB (bK.plainO _) k k k<|aO) k),k,⟨_,k,.inl k⟩,⟨k,aO⟩⟩
def lL (x1:((List Sc)×Int×Int)):Option (((List Sc)×Int×Int) ⊕ ((List Sc)×Int)):=
 bif decide (x1.2.2<((x1.1.length:Nat):Int)) then
 ((cT x1.1 x1.2.2).bind λv2=>
 (sO v2.basis (wr (x1.2.1+1))).bind λv3=>
 bif decide (v3.1.length=v2.basis.length) then
 (some (.inl ((x1.1.set x1.2.2.toNat (⟨x1.2.1,v3.1⟩:Sc)),v3.2,wr (x1.2.2+1))))
 else none)
 else
 (some (.inr (x1.1,x1.2.1)))
def qF (a0:(List Sc)) (a1:Int):Option ((List Sc)×Int):=
 (Lp lL (a0,a1,0)).bind λy5=>
 some (y5.1,y5.2)
theorem aFd (a0:(List Sc)) (a1:Int) (r:((List Sc)×Int)) (h:qF a0 a1=some r):HasT Tryz.prog 41 [.own 0 0 a0.length,.int a1] [(0,⟨2,a0.map (ow eS)⟩)] 1 (.int r.2) [(0,⟨2,r.1.map (ow eS)⟩)]:=by
 refine aIQ aB (rvs:=[.tmp 4]) (ns:=[1,2,3]) Tryz.func41 k k Tryz.ntmps41 k k<|sS<|jN k2<|sn<|tn<|sQ<|sS<|jN k2 ?_
 refine sn<|tn<|aM<|oB h λy5 hy5 h=>bV (body:=lL) hy5 (λ(x1:((List Sc)×Int×Int))=>bE [(0,.own 0 0 x1.1.length),(1,.int x1.2.1),(5,.int x1.2.2)] [(0,⟨2,x1.1.map (ow eS)⟩)] 1 [1,2,3] ⟨1,true,none,true⟩) (λr e t=>e= .exit 0∧Ent t (bE [(1,.int r.2)] [(0,⟨2,r.1.map (ow eS)⟩)] 1 [1,2,3] ⟨1,true,none,true⟩)) (aA (σ:=sg [(0,0)]) (bP k2) (hB (bT.plainO _) k k k<|aO) k) ?_ ?_
 ·intro x1 o h
  refine sQ<|sS<|dS k2<|dS k2<|se (cU aB k k k k) k<|cmS k4<|sn<|tn ?_
  rcases cb h with ⟨q1,h⟩|⟨q1,h⟩
  ·refine aD k q1<|aN<|tn<|sQ<|aM<|sS<|dS k2<|dS k2<|dS k2 ?_
   refine oB h λv2 hv2 h=>iK (t:=bE [(0,.own 0 0 x1.1.length),(1,.int x1.2.1),(5,.int x1.2.2),(6,.int x1.2.2),(7,.own 0 0 x1.1.length),(8,.int ((x1.1.length:Nat):Int)),(9,.bl (decide (x1.2.2<((x1.1.length:Nat):Int)))),(12,.own 0 0 x1.1.length),(13,.int x1.2.2),(14,.int x1.2.1)] [(0,⟨2,(x1.1.map (ow eS)).set x1.2.2.toNat [.int v2.size,.abs 1 (v2.basis.map (cJ 1 eI))]⟩)] 1 [1,2,3] ⟨1,true,none,true⟩) (aA (σ:=sg [(0,0)]) (bP k2) (hX ⟨_,k,k,.inl ⟨aJO (cG hv2),aGa bT k⟩⟩ k<|aO) k)<|iK (aGb (b:=0) (c:=1) (i:=x1.2.2.toNat) (j:=1) (n:=v2.basis.length) (A:=x1.1.map (ow eS)) (fs:=v2.basis.map (ow (cJ 1 eI))) (by rw [List.length_map];exact bY hv2) k k k k (aX _ _) (jK _ _) (aCn ⟨k,k,k,k,k,k,k,k,k,k,aO⟩) (aCo (skip:=[]) ⟨.inr (bT.dfS _ _ _ k),aO⟩))<|iK (t:=bE [(0,.own 0 0 x1.1.length),(1,.int x1.2.1),(5,.int x1.2.2),(6,.int x1.2.2),(7,.own 0 0 x1.1.length),(8,.int ((x1.1.length:Nat):Int)),(9,.bl (decide (x1.2.2<((x1.1.length:Nat):Int)))),(12,.own 0 0 x1.1.length),(13,.int x1.2.2),(14,.int x1.2.1)] [(0,⟨2,(x1.1.map (ow eS)).set x1.2.2.toNat [.int v2.size,.own 1 0 v2.basis.length]⟩),(1,⟨1,v2.basis.map (ow (cJ 1 eI))⟩)] 2 [2,3] ⟨1,true,none,true⟩) (aA (σ:=sg [(0,0),(1,1)]) (bP k2) (hX ⟨_,k,k,.inr (aDX (σ:=sg [(0,0),(1,1)]) (m:=2) (e:=eS) (l:=x1.1) (i:=x1.2.2.toNat) (c:=[.int v2.size,.own 1 0 v2.basis.length]) (d:=[.int v2.size,.own 1 0 v2.basis.length]) bT ⟨_,_,k,k,⟨_,_,k,⟨k,k,k,k⟩,k⟩⟩)⟩ k<|hB (bK.plainO _) k k k<|aO) k) ?_
   refine se (bU aB (dF hv2) (bY hv2) k k k k k k k) k<|fpS k8<|se (aJP aB (A:=x1.1.map (ow eS)) (by rw [List.length_map];exact bY hv2) k k k k k k k) k<|sn<|tn<|sS<|dS k2<|se (bD k k) k<|jN k2 ?_
   refine sn<|tn<|rgS<|dS k2<|dS k2<|se (bU aB (dF hv2) (bY hv2) k k k k k k k) k<|fpS k8<|se (bH aB k k k k (aOa (bY hv2)) k k) k<|dS k2<|oB h λv3 hv3 h=>iK (t:=bE [(0,.own 0 0 x1.1.length),(1,.int (wr (x1.2.1+1))),(5,.int x1.2.2),(6,.int x1.2.2),(7,.own 0 0 x1.1.length),(8,.int ((x1.1.length:Nat):Int)),(9,.bl (decide (x1.2.2<((x1.1.length:Nat):Int)))),(12,.own 0 0 x1.1.length),(13,.int x1.2.2),(14,.int x1.2.1),(15,.ptr 0 x1.2.2.toNat 0),(16,.ptr 0 x1.2.2.toNat 0),(17,.int x1.2.1),(18,.int (wr (x1.2.1+1))),(19,.own 0 0 x1.1.length),(20,.int x1.2.2),(21,.ptr 0 x1.2.2.toNat 0),(22,.ptr 0 x1.2.2.toNat 1),(23,.own 1 0 v2.basis.length),(24,.int (wr (x1.2.1+1)))] [(0,⟨2,(x1.1.map (ow eS)).set x1.2.2.toNat [.int x1.2.1,.own 1 0 v2.basis.length]⟩),(1,⟨1,v2.basis.map (ow (cJ 1 eI))⟩)] 2 [2,3] ⟨1,true,none,true⟩) (aA (σ:=sg [(0,0),(1,1)]) (bP k2) (hX ⟨_,k,k,.inr (aDX (σ:=sg [(0,0),(1,1)]) (m:=2) (e:=eS) (l:=x1.1) (i:=x1.2.2.toNat) (c:=[.int x1.2.1,.own 1 0 v2.basis.length]) (d:=[.int x1.2.1,.own 1 0 v2.basis.length]) bT ⟨_,_,k,k,⟨_,_,k,⟨k,k,k,k⟩,k⟩⟩)⟩ k<|hB (bK.plainO _) k k k<|aO) k) ?_
   refine aLx (σ:=sg [(0,1)]) (σ':=sg [(1,0)]) (touch:=[1]) (news:=[]) (hl2:=[(1,⟨1,v3.1.map (ow (cJ 1 eI))⟩)]) (n':=2) (r2:= .int v3.2) (aGm v2.basis (wr (x1.2.1+1)) v3 hv3) k k ⟨_,_,k,⟨k,k,k,k⟩,⟨_,_,k,k,k⟩⟩ ⟨⟨_,k,k,.inl ⟨k,bK.plainO _⟩⟩,k,aO⟩ k k k ⟨⟨_,k,k,.inl ⟨k,bK.plainO _⟩⟩,k,aO⟩ k k k ⟨k,bK.tame _ _,aO⟩ k k k k k (aCn ⟨k,k,k,k,k,k,k,k,k,k,k,k,k,k,k,k,k,k,k,k,aO⟩) (aCo (skip:=[1]) ⟨.inr (bT.dfS _ _ _ k),.inl (by decide),aO⟩) ?_
   obtain ⟨q4,h⟩:=cg h
   refine jN k2<|sn<|aY<|tn<|rgS<|dS k2<|se (bD k k) k<|jN k2<|sn<|tn ?_
   obtain rfl:=so h
   exact ⟨_,k,(Ent.trans (show Ent _ (bE [(0,.own 0 0 ((x1.1.set x1.2.2.toNat (⟨x1.2.1,v3.1⟩:Sc)).length)),(1,.int v3.2),(5,.int (wr (x1.2.2+1)))] [(0,⟨2,List.map (ow eS) (x1.1.set x1.2.2.toNat (⟨x1.2.1,v3.1⟩:Sc))⟩)] 2 [2,3] ⟨1,true,none,true⟩) from (Ent.trans (aFK (b:=0) (b':=1) (j:=1) (es':=v3.1.map (cJ 1 eI)) (by rw [List.length_map];exact bY hv2) k k k k (by simp only [aX,lA,lT,lR,lC,lN,of_decide_eq_true q4]) (bK.frzs _)) (aA (σ:=sg [(0,0)]) ⟨⟨_,k,⟨k,k,(by simp only [aX,lA,lT,lR,lC,lN,of_decide_eq_true q4]),k⟩⟩,(e1 k k),(e1 k k),aO⟩ (hX ⟨_,k,k,.inl ⟨aLu (⟨x1.2.1,v3.1⟩:Sc) k,bT.plainO _⟩⟩ k<|aO) k))) (aA (σ:=sg [(0,0)]) (bP k2) (hB (bT.plainO _) k k k<|aO) k))⟩
  ·refine aH k q1<|bA<|aG<|aG ?_
   obtain rfl:=so h
   exact ⟨_,k,k,(aA (σ:=sg [(0,0)]) (bP k2) (hB (bT.plainO _) k k k<|aO) k)⟩
 ·rintro e t ⟨rfl,hent⟩
  refine aR<|tn<|aJ hent<|sS<|dS k2<|jN k2<|sn<|tn<|aL ?_
  obtain rfl:=so h
  exact ⟨bE [(4,.int y5.2)] [(0,⟨2,y5.1.map (ow eS)⟩)] 1 [1,2,3] ⟨1,true,none,true⟩,(aA (σ:=sg [(0,0)]) (bP k2) (hB (bT.plainO _) k k k<|aO) k),k,⟨_,k,.inl k⟩,⟨k,aO⟩⟩
def qG (a0:Qv) (a1:Int):Option ((List Int)×(List Int)×Int):=
 (fS a0.src a1).bind λv1=>
 bif decide (v1.1.length=a0.src.length) then
 ((fS a0.tgt v1.2).bind λv3=>
 bif decide (v3.1.length=a0.tgt.length) then
 (some (v1.1,v3.1,v3.2))
 else none)
 else none
theorem aFe (a0:Qv) (a1:Int) (r:((List Int)×(List Int)×Int)) (h:qG a0 a1=some r):HasE Tryz.prog 69 [.agg [.int a0.n,.own 0 0 a0.src.length,.own 1 0 a0.tgt.length],.int a1] [(0,⟨1,a0.src.map (ow eI)⟩),(1,⟨1,a0.tgt.map (ow eI)⟩)] 2 (.int r.2.2) [(0,⟨1,r.1.map (ow eI)⟩),(1,⟨1,r.2.1.map (ow eI)⟩)]:=by
 refine pY aB (rvs:=[.tmp 4]) (ns:=[2,3,4]) Tryz.func69 k k Tryz.ntmps69 k k<|sR<|ae (cE k k k k) k<|aT k2<|sR<|fp k8 ?_
 refine lp k8<|am k k<|oB h λv1 hv1 h=>ae (fZ (σ:=sg [(0,0)]) (σ':=sg [(0,0)]) (touch:=[0]) (news:=[]) (hl2:=[(0,⟨1,v1.1.map (ow eI)⟩)]) (n':=3) (r2:= .int v1.2) (lD a0.src a1 v1 hv1) k k ⟨_,_,k,⟨k,k,k,k⟩,⟨_,_,k,k,k⟩⟩ ⟨⟨_,k,k,.inl ⟨k,cX.plainO _⟩⟩,k,aO⟩ k k k ⟨⟨_,k,k,.inl ⟨k,cX.plainO _⟩⟩,k,aO⟩ k k k ⟨k,cX.tame _ _,aO⟩ k k) k ?_
 obtain ⟨q2,h⟩:=cg h
 refine aT k2<|sR<|fp k8<|lp k8<|am k k<|oB h λv3 hv3 h=>ae (fZ (σ:=sg [(0,1)]) (σ':=sg [(1,0)]) (touch:=[1]) (news:=[]) (hl2:=[(1,⟨1,v3.1.map (ow eI)⟩)]) (n':=3) (r2:= .int v3.2) (lD a0.tgt v1.2 v3 hv3) k k ⟨_,_,k,⟨k,k,k,k⟩,⟨_,_,k,k,k⟩⟩ ⟨⟨_,k,k,.inl ⟨k,cX.plainO _⟩⟩,k,aO⟩ k k k ⟨⟨_,k,k,.inl ⟨k,cX.plainO _⟩⟩,k,aO⟩ k k k ⟨k,cX.tame _ _,aO⟩ k k) k ?_
 obtain ⟨q4,h⟩:=cg h
 refine aT k2<|aJ (t:=bE [(1,.int v3.2)] [(0,⟨1,v1.1.map (ow eI)⟩),(1,⟨1,v3.1.map (ow eI)⟩)] 3 [3,4] 2) (aA (σ:=sg [(0,0),(1,1)]) (bP k2) (hI k k k<|hI k k k<|aO) k)<|sR<|am k k<|aT k2 ?_
 refine aL ?_
 obtain rfl:=so h
 exact ⟨bE [(4,.int v3.2)] [(0,⟨1,v1.1.map (ow eI)⟩),(1,⟨1,v3.1.map (ow eI)⟩)] 2 [2,3,4] 2,(aA (σ:=sg [(0,0),(1,1)]) (bP k2) (hI k k k<|hI k k k<|aO) k),k,⟨_,k,.inl k⟩,⟨k,k,aO⟩⟩
def kN (x1:((List Mt)×Int×Int)):Option (((List Mt)×Int×Int) ⊕ ((List Mt)×Int)):=
 bif decide (x1.2.2<((x1.1.length:Nat):Int)) then
 ((cT x1.1 x1.2.2).bind λv2=>
 (fS v2.cells (wr ((wr (x1.2.1+1))+1))).bind λv3=>
 bif decide (v3.1.length=v2.cells.length) then
 (some (.inl ((x1.1.set x1.2.2.toNat (⟨x1.2.1,wr (x1.2.1+1),v3.1⟩:Mt)),v3.2,wr (x1.2.2+1))))
 else none)
 else
 (some (.inr (x1.1,x1.2.1)))
def nX (a0:(List Mt)) (a1:Int):Option ((List Mt)×Int):=
 (Lp kN (a0,a1,0)).bind λy5=>
 some (y5.1,y5.2)
theorem aEd (a0:(List Mt)) (a1:Int) (r:((List Mt)×Int)) (h:nX a0 a1=some r):HasT Tryz.prog 70 [.own 0 0 a0.length,.int a1] [(0,⟨3,a0.map (ow eM)⟩)] 1 (.int r.2) [(0,⟨3,r.1.map (ow eM)⟩)]:=by
 refine aIQ aB (rvs:=[.tmp 4]) (ns:=[1,2,3]) Tryz.func70 k k Tryz.ntmps70 k k<|sS<|jN k2<|sn<|tn<|sQ<|sS<|jN k2 ?_
 refine sn<|tn<|aM<|oB h λy5 hy5 h=>bV (body:=kN) hy5 (λ(x1:((List Mt)×Int×Int))=>bE [(0,.own 0 0 x1.1.length),(1,.int x1.2.1),(5,.int x1.2.2)] [(0,⟨3,x1.1.map (ow eM)⟩)] 1 [1,2,3] ⟨1,true,none,true⟩) (λr e t=>e= .exit 0∧Ent t (bE [(1,.int r.2)] [(0,⟨3,r.1.map (ow eM)⟩)] 1 [1,2,3] ⟨1,true,none,true⟩)) (aA (σ:=sg [(0,0)]) (bP k2) (hB (qY.plainO _) k k k<|aO) k) ?_ ?_
 ·intro x1 o h
  refine sQ<|sS<|dS k2<|dS k2<|se (cU aB k k k k) k<|cmS k4<|sn<|tn ?_
  rcases cb h with ⟨q1,h⟩|⟨q1,h⟩
  ·refine aD k q1<|aN<|tn<|sQ<|aM<|sS<|dS k2<|dS k2<|dS k2 ?_
   refine oB h λv2 hv2 h=>iK (t:=bE [(0,.own 0 0 x1.1.length),(1,.int x1.2.1),(5,.int x1.2.2),(6,.int x1.2.2),(7,.own 0 0 x1.1.length),(8,.int ((x1.1.length:Nat):Int)),(9,.bl (decide (x1.2.2<((x1.1.length:Nat):Int)))),(12,.own 0 0 x1.1.length),(13,.int x1.2.2),(14,.int x1.2.1)] [(0,⟨3,(x1.1.map (ow eM)).set x1.2.2.toNat [.int v2.rows,.int v2.cols,.abs 1 (v2.cells.map eI)]⟩)] 1 [1,2,3] ⟨1,true,none,true⟩) (aA (σ:=sg [(0,0)]) (bP k2) (hX ⟨_,k,k,.inl ⟨aJO (cG hv2),aGa qY k⟩⟩ k<|aO) k)<|iK (aGb (b:=0) (c:=1) (i:=x1.2.2.toNat) (j:=2) (n:=v2.cells.length) (A:=x1.1.map (ow eM)) (fs:=v2.cells.map (ow eI)) (by rw [List.length_map];exact bY hv2) k k k k (aX _ _) (jK _ _) (aCn ⟨k,k,k,k,k,k,k,k,k,k,aO⟩) (aCo (skip:=[]) ⟨.inr (qY.dfS _ _ _ k),aO⟩))<|iK (t:=bE [(0,.own 0 0 x1.1.length),(1,.int x1.2.1),(5,.int x1.2.2),(6,.int x1.2.2),(7,.own 0 0 x1.1.length),(8,.int ((x1.1.length:Nat):Int)),(9,.bl (decide (x1.2.2<((x1.1.length:Nat):Int)))),(12,.own 0 0 x1.1.length),(13,.int x1.2.2),(14,.int x1.2.1)] [(0,⟨3,(x1.1.map (ow eM)).set x1.2.2.toNat [.int v2.rows,.int v2.cols,.own 1 0 v2.cells.length]⟩),(1,⟨1,v2.cells.map (ow eI)⟩)] 2 [2,3] ⟨1,true,none,true⟩) (aA (σ:=sg [(0,0),(1,1)]) (bP k2) (hX ⟨_,k,k,.inr (aDX (σ:=sg [(0,0),(1,1)]) (m:=2) (e:=eM) (l:=x1.1) (i:=x1.2.2.toNat) (c:=[.int v2.rows,.int v2.cols,.own 1 0 v2.cells.length]) (d:=[.int v2.rows,.int v2.cols,.own 1 0 v2.cells.length]) qY ⟨_,_,k,k,⟨_,_,k,k,⟨_,_,k,⟨k,k,k,k⟩,k⟩⟩⟩)⟩ k<|hI k k k<|aO) k) ?_
   refine se (bU aB (dF hv2) (bY hv2) k k k k k k k) k<|fpS k8<|se (aJP aB (A:=x1.1.map (ow eM)) (by rw [List.length_map];exact bY hv2) k k k k k k k) k<|sn<|tn<|sS<|dS k2<|se (bD k k) k<|jN k2 ?_
   refine sn<|tn<|sS<|dS k2<|dS k2<|dS k2<|se (bU aB (dF hv2) (bY hv2) k k k k k k k) k<|fpS k8<|se (aJP aB (A:=x1.1.map (ow eM)) (by rw [List.length_map];exact bY hv2) k k k k k k k) k ?_
   refine sn<|tn<|sS<|dS k2<|se (bD k k) k<|jN k2<|sn<|tn<|aJ (t:=bE [(0,.own 0 0 x1.1.length),(1,.int (wr ((wr (x1.2.1+1))+1))),(5,.int x1.2.2)] [(0,⟨3,(x1.1.map (ow eM)).set x1.2.2.toNat [.int x1.2.1,.int (wr (x1.2.1+1)),.own 1 0 v2.cells.length]⟩),(1,⟨1,v2.cells.map (ow eI)⟩)] 2 [2,3] ⟨1,true,none,true⟩) (aA (σ:=sg [(0,0),(1,1)]) (bP k2) (hX ⟨_,k,k,.inr (aDX (σ:=sg [(0,0),(1,1)]) (m:=2) (e:=eM) (l:=x1.1) (i:=x1.2.2.toNat) (c:=[.int x1.2.1,.int (wr (x1.2.1+1)),.own 1 0 v2.cells.length]) (d:=[.int x1.2.1,.int (wr (x1.2.1+1)),.own 1 0 v2.cells.length]) qY ⟨_,_,k,k,⟨_,_,k,k,⟨_,_,k,⟨k,k,k,k⟩,k⟩⟩⟩)⟩ k<|hI k k k<|aO) k) ?_
   refine rgS<|dS k2<|dS k2<|se (bU aB (dF hv2) (bY hv2) k k k k k k k) k<|fpS k8<|se (bH aB k k k k (aOa (bY hv2)) k k) k<|dS k2<|oB h λv3 hv3 h=>se (fZ (σ:=sg [(0,1)]) (σ':=sg [(1,0)]) (touch:=[1]) (news:=[]) (hl2:=[(1,⟨1,v3.1.map (ow eI)⟩)]) (n':=2) (r2:= .int v3.2) (lD v2.cells (wr ((wr (x1.2.1+1))+1)) v3 hv3) k k ⟨_,_,k,⟨k,k,k,k⟩,⟨_,_,k,k,k⟩⟩ ⟨⟨_,k,k,.inl ⟨k,cX.plainO _⟩⟩,k,aO⟩ k k k ⟨⟨_,k,k,.inl ⟨k,cX.plainO _⟩⟩,k,aO⟩ k k k ⟨k,cX.tame _ _,aO⟩ k k) k ?_
   obtain ⟨q4,h⟩:=cg h
   refine jN k2<|sn<|aY<|tn<|rgS<|dS k2<|se (bD k k) k<|jN k2<|sn<|tn ?_
   obtain rfl:=so h
   exact ⟨_,k,(Ent.trans (show Ent _ (bE [(0,.own 0 0 ((x1.1.set x1.2.2.toNat (⟨x1.2.1,wr (x1.2.1+1),v3.1⟩:Mt)).length)),(1,.int v3.2),(5,.int (wr (x1.2.2+1)))] [(0,⟨3,List.map (ow eM) (x1.1.set x1.2.2.toNat (⟨x1.2.1,wr (x1.2.1+1),v3.1⟩:Mt))⟩)] 2 [2,3] ⟨1,true,none,true⟩) from (Ent.trans (aFK (b:=0) (b':=1) (j:=2) (es':=v3.1.map eI) (by rw [List.length_map];exact bY hv2) k k k k (by simp only [aX,lA,lT,lR,lC,lN,of_decide_eq_true q4]) (cX.frzs _)) (aA (σ:=sg [(0,0)]) ⟨⟨_,k,⟨k,k,(by simp only [aX,lA,lT,lR,lC,lN,of_decide_eq_true q4]),k⟩⟩,(e1 k k),(e1 k k),aO⟩ (hX ⟨_,k,k,.inl ⟨aLu (⟨x1.2.1,wr (x1.2.1+1),v3.1⟩:Mt) k,qY.plainO _⟩⟩ k<|aO) k))) (aA (σ:=sg [(0,0)]) (bP k2) (hB (qY.plainO _) k k k<|aO) k))⟩
  ·refine aH k q1<|bA<|aG<|aG ?_
   obtain rfl:=so h
   exact ⟨_,k,k,(aA (σ:=sg [(0,0)]) (bP k2) (hB (qY.plainO _) k k k<|aO) k)⟩
 ·rintro e t ⟨rfl,hent⟩
  refine aR<|tn<|aJ hent<|sS<|dS k2<|jN k2<|sn<|tn<|aL ?_
  obtain rfl:=so h
  exact ⟨bE [(4,.int y5.2)] [(0,⟨3,y5.1.map (ow eM)⟩)] 1 [1,2,3] ⟨1,true,none,true⟩,(aA (σ:=sg [(0,0)]) (bP k2) (hB (qY.plainO _) k k k<|aO) k),k,⟨_,k,.inl k⟩,⟨k,aO⟩⟩
def xA (a0:Rp) (a1:Int):Option ((List Int)×(List Int)×(List Int)×(List Mt)×Int):=
 (qG a0.q a1).bind λv1=>
 bif decide (v1.1.length=a0.q.src.length) then
 (bif decide (v1.2.1.length=a0.q.tgt.length) then
 ((fS a0.dims v1.2.2).bind λv4=>
 bif decide (v4.1.length=a0.dims.length) then
 ((nX a0.maps v4.2).bind λv6=>
 bif decide (v6.1.length=a0.maps.length) then
 (some (v1.1,v1.2.1,v4.1,v6.1,v6.2))
 else none)
 else none)
 else none)
 else none
theorem aJd (a0:Rp) (a1:Int) (r:((List Int)×(List Int)×(List Int)×(List Mt)×Int)) (h:xA a0 a1=some r):HasT Tryz.prog 19 [.agg [.int a0.p,.int a0.q.n,.own 0 0 a0.q.src.length,.own 1 0 a0.q.tgt.length,.own 2 0 a0.dims.length,.own 3 0 a0.maps.length],.int a1] [(0,⟨1,a0.q.src.map (ow eI)⟩),(1,⟨1,a0.q.tgt.map (ow eI)⟩),(2,⟨1,a0.dims.map (ow eI)⟩),(3,⟨3,a0.maps.map (ow eM)⟩)] 4 (.int r.2.2.2.2) [(0,⟨1,r.1.map (ow eI)⟩),(1,⟨1,r.2.1.map (ow eI)⟩),(2,⟨1,r.2.2.1.map (ow eI)⟩),(3,⟨3,r.2.2.2.1.map (ow eM)⟩)]:=by
 refine aIQ aB (rvs:=[.tmp 4]) (ns:=[4,5,6]) Tryz.func19 k k Tryz.ntmps19 k k<|sS<|se (cE k k k k) k<|jN k2<|sn<|tn<|sS<|fpS k8 ?_
 refine lpS k8<|dS k2<|oB h λv1 hv1 h=>se (fZ (σ:=sg [(0,0),(1,1)]) (σ':=sg [(0,0),(1,1)]) (touch:=[0,1]) (news:=[]) (hl2:=[(0,⟨1,v1.1.map (ow eI)⟩),(1,⟨1,v1.2.1.map (ow eI)⟩)]) (n':=5) (r2:= .int v1.2.2) (aFe a0.q a1 v1 hv1) k k ⟨_,_,k,⟨_,_,k,k,⟨_,_,k,⟨k,k,k,k⟩,⟨_,_,k,⟨k,k,k,k⟩,k⟩⟩⟩,⟨_,_,k,k,k⟩⟩ ⟨⟨_,k,k,.inl ⟨k,cX.plainO _⟩⟩,k,⟨_,k,k,.inl ⟨k,cX.plainO _⟩⟩,k,aO⟩ k k k ⟨⟨_,k,k,.inl ⟨k,cX.plainO _⟩⟩,k,⟨_,k,k,.inl ⟨k,cX.plainO _⟩⟩,k,aO⟩ k k k ⟨k,cX.tame _ _,⟨k,cX.tame _ _,aO⟩⟩ k k) k ?_
 obtain ⟨q2,h⟩:=cg h
 obtain ⟨q3,h⟩:=cg h
 refine jN k2<|sn<|tn<|sS<|fpS k8<|lpS k8<|dS k2<|oB h λv4 hv4 h=>se (fZ (σ:=sg [(0,2)]) (σ':=sg [(2,0)]) (touch:=[2]) (news:=[]) (hl2:=[(2,⟨1,v4.1.map (ow eI)⟩)]) (n':=5) (r2:= .int v4.2) (lD a0.dims v1.2.2 v4 hv4) k k ⟨_,_,k,⟨k,k,k,k⟩,⟨_,_,k,k,k⟩⟩ ⟨⟨_,k,k,.inl ⟨k,cX.plainO _⟩⟩,k,aO⟩ k k k ⟨⟨_,k,k,.inl ⟨k,cX.plainO _⟩⟩,k,aO⟩ k k k ⟨k,cX.tame _ _,aO⟩ k k) k ?_
 obtain ⟨q5,h⟩:=cg h
 refine jN k2<|sn<|tn<|aJ (t:=bE [(1,.int v4.2),(2,.ptr 4 0 0)] [(0,⟨1,v1.1.map (ow eI)⟩),(1,⟨1,v1.2.1.map (ow eI)⟩),(2,⟨1,v4.1.map (ow eI)⟩),(3,⟨3,a0.maps.map (ow eM)⟩),(4,⟨6,[[.int a0.p,.int a0.q.n,.own 0 0 v1.1.length,.own 1 0 v1.2.1.length,.own 2 0 v4.1.length,.own 3 0 a0.maps.length]]⟩)] 5 [5,6] ⟨4,true,none,true⟩) (aA (σ:=sg [(0,0),(1,1),(2,2),(3,3),(4,4)]) (bP k2) (hI k k k<|hI k k k<|hI k k k<|hB (qY.plainO _) k k k<|hX ⟨_,k,k,.inr ⟨_,_,k,⟨_,_,k,k,⟨_,_,k,k,⟨_,_,k,⟨k,k,(by simp only [aX,lA,lT,lR,lC,lN,of_decide_eq_true q2]),k⟩,⟨_,_,k,⟨k,k,(by simp only [aX,lA,lT,lR,lC,lN,of_decide_eq_true q3]),k⟩,⟨_,_,k,⟨k,k,(by simp only [aX,lA,lT,lR,lC,lN,of_decide_eq_true q5]),k⟩,⟨_,_,k,⟨k,k,k,k⟩,k⟩⟩⟩⟩⟩⟩,k⟩⟩ k<|aO) k)<|sS<|fpS k8<|lpS k8<|dS k2<|oB h λv6 hv6 h=>iK (t:=bE [(1,.int v4.2),(2,.ptr 4 0 0),(13,.ptr 4 0 5),(14,.own 3 0 a0.maps.length),(15,.int v4.2)] [(0,⟨1,v1.1.map (ow eI)⟩),(1,⟨1,v1.2.1.map (ow eI)⟩),(2,⟨1,v4.1.map (ow eI)⟩),(3,⟨3,a0.maps.map (ow eM)⟩),(4,⟨6,[[.int a0.p,.int a0.q.n,.own 0 0 v1.1.length,.own 1 0 v1.2.1.length,.own 2 0 v4.1.length,.own 3 0 a0.maps.length]]⟩)] 5 [5,6] ⟨4,true,none,true⟩) (aA (σ:=sg [(0,0),(1,1),(2,2),(3,3),(4,4)]) (bP k2) (hI k k k<|hI k k k<|hI k k k<|hB (qY.plainO _) k k k<|hX ⟨_,k,k,.inr ⟨_,_,k,⟨_,_,k,k,⟨_,_,k,k,⟨_,_,k,⟨k,k,k,k⟩,⟨_,_,k,⟨k,k,k,k⟩,⟨_,_,k,⟨k,k,k,k⟩,⟨_,_,k,⟨k,k,k,k⟩,k⟩⟩⟩⟩⟩⟩,k⟩⟩ k<|aO) k) ?_
 refine aLx (σ:=sg [(0,3)]) (σ':=sg [(3,0)]) (touch:=[3]) (news:=[]) (hl2:=[(3,⟨3,v6.1.map (ow eM)⟩)]) (n':=5) (r2:= .int v6.2) (aEd a0.maps v4.2 v6 hv6) k k ⟨_,_,k,⟨k,k,k,k⟩,⟨_,_,k,k,k⟩⟩ ⟨⟨_,k,k,.inl ⟨k,qY.plainO _⟩⟩,k,aO⟩ k k k ⟨⟨_,k,k,.inl ⟨k,qY.plainO _⟩⟩,k,aO⟩ k k k ⟨k,qY.tame _ _,aO⟩ k k k k k (aCn ⟨k,k,k,k,k,aO⟩) (aCo (skip:=[3]) ⟨.inr (cX.df _ _),.inr (cX.df _ _),.inr (cX.df _ _),.inl (by decide),.inr (aSC k),aO⟩) ?_
 obtain ⟨q7,h⟩:=cg h
 refine jN k2<|sn<|tn<|sS<|dS k2<|jN k2<|sn<|tn<|aL ?_
 obtain rfl:=so h
 exact ⟨bE [(4,.int v6.2)] [(0,⟨1,v1.1.map (ow eI)⟩),(1,⟨1,v1.2.1.map (ow eI)⟩),(2,⟨1,v4.1.map (ow eI)⟩),(3,⟨3,v6.1.map (ow eM)⟩)] 4 [4,5,6] ⟨4,true,none,true⟩,(aA (σ:=sg [(0,0),(1,1),(2,2),(3,3)]) (bP k2) (hI k k k<|hI k k k<|hI k k k<|hB (qY.plainO _) k k k<|aO) k),k,⟨_,k,.inl k⟩,⟨k,k,k,k,aO⟩⟩
def nY (a0:(List Int)) (x1:(Int×Int)):Option ((Int×Int) ⊕ (Int ⊕ Int)):=
 bif decide (x1.2<(a0.length:Int)) then
 ((cT a0 x1.2).bind λv2=>
 bif !decide (v2=x1.1) then
 (some (.inr (.inr ((-1)))))
 else
 (some (.inl (wr (x1.1+1),wr (x1.2+1)))))
 else
 (some (.inr (.inl x1.1)))
def uK (a0:(List Int)) (a1:Int):Option Int:=
 (Lp (nY a0) (a1,0)).bind λy4=>
 Sum.elim (λy5=>
 some (y5)
 )
 (λy6=>
 some y6
 )
 y4
theorem aHv (a0:(List Int)) (a1:Int) (r:Int) (h:uK a0 a1=some r):HasC Tryz.prog 77 [.list 1 (a0.map eI),.int a1] (.int r):=by
 refine aZ aB (rvs:=[.tmp 4]) (ns:=[0,1]) Tryz.func77 k k Tryz.ntmps77 k k k<|sR<|aT k2<|sQ<|sR<|aa k k ?_
 refine an<|tn<|aM<|oB h λy4 hy4 h=>bV (body:=(nY a0)) hy4 (λ(x1:(Int×Int))=>bE [(0,.list 1 (a0.map eI)),(1,.int x1.1),(5,.int x1.2)] [] 0 [0,1]) (λr e t=>Sum.elim (λa=>(λr e t=>e= .exit 0∧Ent t (bE [(1,.int r)] [] 0 [0,1])) a e t) (λb=>(λr e t=>e= .ret∧mQ TT [.tmp 4] (.int r) .ret t) b e t) r) (aA (σ:=sg []) ⟨⟨_,k,⟨k,k⟩⟩,(e1 k k),(e1 k k),aO⟩ aO k) ?_ ?_
 ·intro x1 o h
  refine sQ<|sR<|am k k<|am k k<|ln k4<|cm k4<|an<|tn ?_
  rcases cb h with ⟨q1,h⟩|⟨q1,h⟩
  ·refine aD k q1<|aN<|tn<|sQ<|aM<|sQ<|sR<|am k k<|am k k ?_
   refine oB h λv2 hv2 h=>ae (aU aB hv2 k k k k k k) k<|lr k7<|am k k<|cm k4<|an<|tn ?_
   rcases cb h with ⟨q3,h⟩|⟨q3,h⟩
   ·refine aD k q3<|sR<|aT k2<|aL<|aI<|bB<|aI ?_
    refine aI ?_
    obtain rfl:=so h
    exact ⟨_,k,k,bG k k k (vB k)⟩
   ·refine aH k q3<|aN<|tn<|rg<|am k k<|ae (bD k k) k<|aa k k<|an<|aY<|tn ?_
    refine aJ (t:=bE [(0,.list 1 (a0.map eI)),(1,.int (wr (x1.1+1))),(5,.int x1.2)] [] 0 [0,1]) (aA (σ:=sg []) ⟨⟨_,k,⟨k,k⟩⟩,(e1 k k),(e1 k k),aO⟩ aO k)<|rg<|am k k<|ae (bD k k) k<|aT k2 ?_
    obtain rfl:=so h
    exact ⟨_,k,(aA (σ:=sg []) ⟨⟨_,k,⟨k,k⟩⟩,(e1 k k),(e1 k k),aO⟩ aO k)⟩
  ·refine aH k q1<|bA<|aG<|aG ?_
   obtain rfl:=so h
   exact ⟨_,k,k,(aA (σ:=sg []) (bP k2) aO k)⟩
 ·intro e t hX
  rcases y4 with y5|y6
  ·obtain ⟨rfl,hent⟩:=hX
   refine aR<|tn<|aJ hent<|sR<|am k k<|aT k2<|aL ?_
   exact rG h k2
  ·obtain ⟨rfl,hent⟩:=hX
   refine bB<|aI ?_
   obtain rfl:=so h
   exact hent
def mO (a0:(List (List Int))) (x1:(Int×Int)):Option ((Int×Int) ⊕ (Int ⊕ Int)):=
 bif decide (x1.2<(a0.length:Int)) then
 ((cT a0 x1.2).bind λv2=>
 (uK v2 x1.1).bind λv3=>
 bif decide (v3<0) then
 (some (.inr (.inr ((-1)))))
 else
 (some (.inl (v3,wr (x1.2+1)))))
 else
 (some (.inr (.inl x1.1)))
def sP (a0:(List (List Int))) (a1:Int):Option Int:=
 (Lp (mO a0) (a1,0)).bind λy5=>
 Sum.elim (λy6=>
 some (y6)
 )
 (λy7=>
 some y7
 )
 y5
theorem aGn (a0:(List (List Int))) (a1:Int) (r:Int) (h:sP a0 a1=some r):HasC Tryz.prog 47 [.list 1 (a0.map (cJ 1 eI)),.int a1] (.int r):=by
 refine aZ aB (rvs:=[.tmp 4]) (ns:=[0,1]) Tryz.func47 k k Tryz.ntmps47 k k k<|sR<|aT k2<|sQ<|sR<|aa k k ?_
 refine an<|tn<|aM<|oB h λy5 hy5 h=>bV (body:=(mO a0)) hy5 (λ(x1:(Int×Int))=>bE [(0,.list 1 (a0.map (cJ 1 eI))),(1,.int x1.1),(5,.int x1.2)] [] 0 [0,1]) (λr e t=>Sum.elim (λa=>(λr e t=>e= .exit 0∧Ent t (bE [(1,.int r)] [] 0 [0,1])) a e t) (λb=>(λr e t=>e= .ret∧mQ TT [.tmp 4] (.int r) .ret t) b e t) r) (aA (σ:=sg []) ⟨⟨_,k,⟨k,k⟩⟩,(e1 k k),(e1 k k),aO⟩ aO k) ?_ ?_
 ·intro x1 o h
  refine sQ<|sR<|am k k<|am k k<|ln k4<|cm k4<|an<|tn ?_
  rcases cb h with ⟨q1,h⟩|⟨q1,h⟩
  ·refine aD k q1<|aN<|tn<|sQ<|aM<|sR<|am k k<|am k k<|oB h λv2 hv2 h=>ae (aU aB hv2 k k k k k k) k ?_
   refine lr k7<|am k k<|oB h λv3 hv3 h=>ae (aQ (aHv v2 x1.1 v3 hv3) k (aC (aE k) (aC (aE k) aS))) k<|aT k2<|sR<|am k k<|cm k4 ?_
   refine an<|tn<|aJ (t:=bE [(0,.list 1 (a0.map (cJ 1 eI))),(1,.int v3),(5,.int x1.2),(19,.bl (decide (v3<0)))] [] 0 [0,1]) (aA (σ:=sg []) ⟨⟨_,k,⟨k,k⟩⟩,(e1 k k),(e1 k k),(e1 k k),aO⟩ aO k) ?_
   rcases cb h with ⟨q4,h⟩|⟨q4,h⟩
   ·refine aD k q4<|sR<|aT k2<|aL<|bB<|aI<|aI ?_
    obtain rfl:=so h
    exact ⟨_,k,k,bG k k k (vB k)⟩
   ·refine aH k q4<|aN<|aY<|tn<|rg<|am k k<|ae (bD k k) k<|aT k2 ?_
    obtain rfl:=so h
    exact ⟨_,k,(aA (σ:=sg []) ⟨⟨_,k,⟨k,k⟩⟩,(e1 k k),(e1 k k),aO⟩ aO k)⟩
  ·refine aH k q1<|bA<|aG<|aG ?_
   obtain rfl:=so h
   exact ⟨_,k,k,(aA (σ:=sg []) (bP k2) aO k)⟩
 ·intro e t hX
  rcases y5 with y6|y7
  ·obtain ⟨rfl,hent⟩:=hX
   refine aR<|tn<|aJ hent<|sR<|am k k<|aT k2<|aL ?_
   exact rG h k2
  ·obtain ⟨rfl,hent⟩:=hX
   refine bB<|aI ?_
   obtain rfl:=so h
   exact hent
def lM (a0:(List Sc)) (x1:(Int×Int)):Option ((Int×Int) ⊕ (Int ⊕ Int)):=
 bif decide (x1.2<(a0.length:Int)) then
 ((cT a0 x1.2).bind λv2=>
 bif !decide (v2.size=x1.1) then
 (some (.inr (.inr ((-1)))))
 else
 ((cT a0 x1.2).bind λv4=>
 (sP v4.basis (wr (x1.1+1))).bind λv5=>
 bif decide (v5<0) then
 (some (.inr (.inr ((-1)))))
 else
 (some (.inl (v5,wr (x1.2+1))))))
 else
 (some (.inr (.inl x1.1)))
def lO (a0:(List Sc)) (a1:Int):Option Int:=
 (Lp (lM a0) (a1,0)).bind λy7=>
 Sum.elim (λy8=>
 some (y8)
 )
 (λy9=>
 some y9
 )
 y7
theorem aBF (a0:(List Sc)) (a1:Int) (r:Int) (h:lO a0 a1=some r):HasC Tryz.prog 42 [.list 2 (a0.map eS),.int a1] (.int r):=by
 refine aZ aB (rvs:=[.tmp 4]) (ns:=[0,1]) Tryz.func42 k k Tryz.ntmps42 k k k<|sR<|aT k2<|sQ<|sR<|aa k k ?_
 refine an<|tn<|aM<|oB h λy7 hy7 h=>bV (body:=(lM a0)) hy7 (λ(x1:(Int×Int))=>bE [(0,.list 2 (a0.map eS)),(1,.int x1.1),(5,.int x1.2)] [] 0 [0,1]) (λr e t=>Sum.elim (λa=>(λr e t=>e= .exit 0∧Ent t (bE [(1,.int r)] [] 0 [0,1])) a e t) (λb=>(λr e t=>e= .ret∧mQ TT [.tmp 4] (.int r) .ret t) b e t) r) (aA (σ:=sg []) ⟨⟨_,k,⟨k,k⟩⟩,(e1 k k),(e1 k k),aO⟩ aO k) ?_ ?_
 ·intro x1 o h
  refine sQ<|sR<|am k k<|am k k<|ln k4<|cm k4<|an<|tn ?_
  rcases cb h with ⟨q1,h⟩|⟨q1,h⟩
  ·refine aD k q1<|aN<|tn<|sQ<|aM<|sQ<|sR<|am k k<|am k k ?_
   refine oB h λv2 hv2 h=>ae (aU aB hv2 k k k k k k) k<|ae (wD aB k k k k k k) k<|lr k7<|am k k<|cm k4<|an<|tn ?_
   rcases cb h with ⟨q3,h⟩|⟨q3,h⟩
   ·refine aD k q3<|sR<|aT k2<|aJ (t:=bE [(4,.int (-1))] [] 0 [0,1]) (aA (σ:=sg []) (bP k2) aO k)<|aL<|aI<|bB ?_
    refine aI<|aI ?_
    obtain rfl:=so h
    exact ⟨_,k,k,bG k k k (vB k)⟩
   ·refine aH k q3<|aN<|tn<|sR<|am k k<|ae (bD k k) k<|aT k2 ?_
    refine aJ (t:=bE [(0,.list 2 (a0.map eS)),(1,.int (wr (x1.1+1))),(5,.int x1.2)] [] 0 [0,1]) (aA (σ:=sg []) ⟨⟨_,k,⟨k,k⟩⟩,(e1 k k),(e1 k k),aO⟩ aO k)<|sR<|am k k<|am k k<|oB h λv4 hv4 h=>ae (aU aB hv4 k k k k k k) k<|ae (wD aB k k k k k k) k<|lr k7<|am k k<|oB h λv5 hv5 h=>ae (aQ (aGn v4.basis (wr (x1.1+1)) v5 hv5) k (aC (aE k) (aC (aE k) aS))) k ?_
    refine aT k2<|sR<|am k k<|cm k4<|an<|tn ?_
    rcases cb h with ⟨q6,h⟩|⟨q6,h⟩
    ·refine aD k q6<|sR<|aT k2<|aL<|bB<|aI<|aI ?_
     obtain rfl:=so h
     exact ⟨_,k,k,bG k k k (vB k)⟩
    ·refine aH k q6<|aN<|aY<|tn<|rg<|am k k<|ae (bD k k) k<|aT k2 ?_
     obtain rfl:=so h
     exact ⟨_,k,(aA (σ:=sg []) ⟨⟨_,k,⟨k,k⟩⟩,(e1 k k),(e1 k k),aO⟩ aO k)⟩
  ·refine aH k q1<|bA<|aG<|aG ?_
   obtain rfl:=so h
   exact ⟨_,k,k,(aA (σ:=sg []) (bP k2) aO k)⟩
 ·intro e t hX
  rcases y7 with y8|y9
  ·obtain ⟨rfl,hent⟩:=hX
   refine aR<|tn<|aJ hent<|sR<|am k k<|aT k2<|aL ?_
   exact rG h k2
  ·obtain ⟨rfl,hent⟩:=hX
   refine bB<|aI ?_
   obtain rfl:=so h
   exact hent
end
noncomputable section
def nvS {α:Type} (nv:α→Nat):List α→Nat
 | []=>0
 |x::l=>nv x+nvS nv l
def mvS {α:Type} (mv:Int→α→α) (nv:α→Nat):Int→List α→List α
 |_,[]=>[]
 |k,x::l=>mv k x::mvS mv nv (k+nv x) l
section
variable {α:Type} {mv:Int→α→α} {nv:α→Nat}
theorem sT: ∀ (l:List α) (k:Int),(mvS mv nv k l).length=l.length
 | [],_=>rfl
 |x::l,k=>by simp [mvS,sT l]
theorem aMO: ∀ (l m:List α),nvS nv (l++m)=nvS nv l+nvS nv m
 | [],m=>by simp [nvS]
 |x::l,m=>by simp [nvS,aMO l m];omega
theorem aMP: ∀ (l m:List α) (k:Int),mvS mv nv k (l++m)=mvS mv nv k l++mvS mv nv (k+nvS nv l) m
 | [],m,k=>by simp [mvS,nvS]
 |x::l,m,k=>by
  simp only [List.cons_append,mvS,nvS,aMP l m]
  rw [show k+((nv x+nvS nv l:Nat):Int)=k+(nv x:Int)+(nvS nv l:Int) by omega]
theorem aFf {l:List α} {i:Nat} (hi:i<l.length):nvS nv (l.take (i+1))=nvS nv (l.take i)+nv l[i]:=by
 rw [List.take_succ_eq_append_getElem hi,aMO];simp [nvS]
theorem aHV (l:List α) (i:Nat):nvS nv (l.take i)≤nvS nv l:=by
 have h:nvS nv (l.take i++l.drop i)=nvS nv l:=by rw [List.take_append_drop]
 rw [aMO] at h;omega
theorem aMQ {c:Nat} : ∀ {l:List α},(∀ x∈l,nv x≤c)→nvS nv l≤c*l.length
 | [],_=>by simp [nvS]
 |x::l,h=>by
  have h1:=h x (by simp)
  have h2:=aMQ (l:=l) λy hy=>h y (by simp [hy])
  simp only [nvS,List.length_cons,Nat.mul_add,Nat.mul_one];omega
theorem aMR {l:List α} {k:Int} {i:Nat} (hi:i<l.length):(mvS mv nv k l)[i]? =some (mv (k+nvS nv (l.take i)) l[i]):=by
 have e:l=l.take i++l[i]::l.drop (i+1):=by rw [←List.drop_eq_getElem_cons hi,List.take_append_drop]
 have e2:mvS mv nv k l=mvS mv nv k (l.take i)++mvS mv nv (k+nvS nv (l.take i)) (l[i]::l.drop (i+1)):=by rw [←aMP,←e]
 rw [e2,List.getElem?_append_right (by rw [sT];simp;omega),sT]
 simp [mvS,Nat.min_eq_left (Nat.le_of_lt hi)]
theorem aDe {l:List α} {k0:Int} {body:List α×Int×Int→Option ((List α×Int×Int) ⊕ (List α×Int))} (h0:0≤k0) (hk:k0+nvS nv l≤4611686018427387904) (hl:l.length≤4611686018427387904)
  (hs: ∀ (r:List α) (i:Nat) (k:Int) (hi:i<r.length),r[i]∈l→0≤k→k+nv r[i]≤4611686018427387904→body (r,k,i)=some (.inl (r.set i (mv k r[i]),k+nv r[i],wr (i+1)))) (he: ∀ r k,body (r,k,(r.length:Int))=some (.inr (r,k))):
  Lp body (l,k0,0)=some (mvS mv nv k0 l,k0+nvS nv l):=by
 rw [eD (r:=(mvS mv nv k0 l,k0+nvS nv l)) (λi=>(mvS mv nv k0 (l.take i)++l.drop i,k0+nvS nv (l.take i),(i:Int))) l.length (by simp [mvS,nvS]) (λi hi=>?_) (λ_=>?_)]
 ·have hm:(mvS mv nv k0 (l.take i)).length=i:=by rw [sT];simp;omega
  have hg:(mvS mv nv k0 (l.take i)++l.drop i)[i]'(by simp [sT];omega)=l[i]:=by
   rw [List.getElem_append_right (by omega)]
   simp [hm]
  have hb:=aHV (nv:=nv) l (i+1)
  rw [aFf hi] at hb
  rw [hs _ i _ (by simp [sT];omega) (by rw [hg];exact List.getElem_mem hi) (by omega) (by rw [hg];omega),hg,cC hi hl]
  congr 2
  refine Prod.ext ?_ (Prod.ext ?_ rfl)
  ·simp only
   rw [List.set_append_right _ _ (by omega),hm,Nat.sub_self,List.drop_eq_getElem_cons hi,List.set_cons_zero,List.take_succ_eq_append_getElem hi,aMP]
   simp [mvS]
  ·simp only
   rw [aFf hi];omega
 ·have:=he (mvS mv nv k0 (l.take l.length)++l.drop l.length) (k0+nvS nv (l.take l.length))
  simp only [List.take_length,List.drop_length,List.append_nil,sT] at this ⊢
  exact this
theorem aGo {l:List α} {k0:Int} {body:Int×Int→Option ((Int×Int) ⊕ (Int ⊕ Int))} (h0:0≤k0) (hk:k0+nvS nv l≤4611686018427387904) (hl:l.length≤4611686018427387904)
  (hs: ∀ (i:Nat) (hi:i<l.length) (k:Int),k=k0+nvS nv (l.take i)→0≤k→k+nv l[i]≤4611686018427387904→body (k,i)=some (.inl (k+nv l[i],wr (i+1)))) (he: ∀ k,body (k,(l.length:Int))=some (.inr (.inl k))):
  Lp body (k0,0)=some (.inl (k0+nvS nv l)):=by
 rw [eD (r:=Sum.inl (k0+nvS nv l)) (λi=>(k0+nvS nv (l.take i),(i:Int))) l.length (by simp [nvS]) (λi hi=>?_) (λ_=>?_)]
 ·have hb:=aHV (nv:=nv) l (i+1)
  rw [aFf hi] at hb
  rw [hs i hi _ rfl (by omega) (by omega),cC hi hl,aFf hi]
  congr 3
  omega
 ·rw [he];simp
end
def nI (l:List Int):Nat:=nvS (λ_=>1) l
def mvI:Int→List Int→List Int:=mvS (λk _=>k) (λ_=>1)
theorem aCD: ∀ l:List Int,nI l=l.length
 | []=>rfl
 |x::l=>by have:=aCD l;simp only [nI] at this;simp only [nI,nvS,List.length_cons];omega
theorem xB (k:Int) (l:List Int):(mvI k l).length=l.length:=sT l k
theorem aUo {k:Int} {n:Nat} (h:0≤k):decide (k+(n:Int)<0)=false:=decide_eq_false (by omega)
theorem aQo {l:List Int} {k:Int} (h0:0≤k) (hk:k+nI l≤4611686018427387904):fS l k=some (mvI k l,k+nI l):=by
 have hl:=aCD l
 unfold fS
 rw [aDe (mv:=λk _=>k) (nv:=λ_=>1) h0 hk (by omega) (λr i k hi _ g0 g1=>?_) (λr k=>?_),Option.bind_some]
 ·rfl
 ·unfold nW
  simp only
  rw [kI hi,cond_true,dU hi,Option.bind_some,Int.toNat_natCast,dX (x:=k+1) (by omega)]
  simp
 ·unfold nW
  simp only
  rw [nD (Nat.le_refl _),cond_false]
theorem aWP {l:List Int} {k:Int} (h0:0≤k) (hk:k+nI l≤4611686018427387904):uK (mvI k l) k=some (k+nI l):=by
 have hl:=aCD l
 have hm:=xB k l
 unfold uK
 rw [aGo (l:=l) (nv:=λ_=>1) h0 hk (by omega) (λi hi k' e g0 g1=>?_) (λk'=>?_),Option.bind_some]
 ·rfl
 ·unfold nY
  simp only
  have hg:(mvI k l)[i]? =some k':=by unfold mvI;rw [aMR hi,e]
  rw [hm,kI hi,cond_true,dU (by omega),Option.bind_some]
  have hg':(mvI k l)[i]'(by omega)=k':=by rw [List.getElem?_eq_getElem (by omega)] at hg;exact Option.some.inj hg
  rw [hg',decide_eq_true rfl,Bool.not_true,cond_false,dX (x:=k'+1) (by omega)]
  simp
 ·unfold nY
  simp only
  rw [hm,nD (Nat.le_refl _),cond_false]
def nIS:List (List Int)→Nat:=nvS nI
def aQp:Int→List (List Int)→List (List Int):=mvS mvI nI
theorem aSQ {α:Type} {l:List α} {i:Nat} {v:α} (h:l[i]? =some v) (hi:i<l.length):l[i]=v:=by rw [List.getElem?_eq_getElem hi] at h;exact Option.some.inj h
theorem aVe {l:List (List Int)} {k:Int} (h0:0≤k) (hk:k+nIS l≤4611686018427387904) (hl:l.length≤4611686018427387904):sO l k=some (aQp k l,k+nIS l):=by
 unfold sO
 rw [aDe (mv:=mvI) (nv:=nI) h0 hk hl (λr i k hi _ g0 g1=>?_) (λr k=>?_),Option.bind_some]
 ·rfl
 ·unfold mN
  simp only
  rw [kI hi,cond_true,dU hi,Option.bind_some,aQo g0 g1,Option.bind_some,Int.toNat_natCast,xB,decide_eq_true rfl,cond_true]
 ·unfold mN
  simp only
  rw [nD (Nat.le_refl _),cond_false]
theorem aVf {l:List (List Int)} {k:Int} (h0:0≤k) (hk:k+nIS l≤4611686018427387904) (hl:l.length≤4611686018427387904):sP (aQp k l) k=some (k+nIS l):=by
 have hm:(aQp k l).length=l.length:=sT l k
 unfold sP
 rw [aGo (l:=l) (nv:=nI) h0 hk hl (λi hi k' e g0 g1=>?_) (λk'=>?_),Option.bind_some]
 ·rfl
 ·unfold mO
  simp only
  rw [hm,kI hi,cond_true,dU (by omega),Option.bind_some,aSQ (v:=mvI k' l[i]) (by unfold aQp;rw [aMR hi,e]) (by omega),aWP g0 g1,Option.bind_some,aUo g0,cond_false]
 ·unfold mO
  simp only
  rw [hm,nD (Nat.le_refl _),cond_false]
def nSe (s:Sc):Nat:=1+nIS s.basis
def aSS (k:Int) (s:Sc):Sc:=⟨k,aQp (k+1) s.basis⟩
def nSs:List Sc→Nat:=nvS nSe
def aST:Int→List Sc→List Sc:=mvS aSS nSe
def lS (l:List Sc):Prop:=l.length≤4611686018427387904∧ ∀ s∈l,s.basis.length≤4611686018427387904
theorem aSU (k:Int) (l:List (List Int)):(aQp k l).length=l.length:=sT l k
theorem aSV (k:Int) (l:List Sc):(aST k l).length=l.length:=sT l k
theorem aVg {l:List Sc} {k:Int} (h0:0≤k) (hk:k+nSs l≤4611686018427387904) (hl:lS l):qF l k=some (aST k l,k+nSs l):=by
 unfold qF
 rw [aDe (mv:=aSS) (nv:=nSe) h0 hk hl.1 (λr i k hi hm g0 g1=>?_) (λr k=>?_),Option.bind_some]
 ·rfl
 ·unfold nSe at g1
  unfold lL
  simp only
  rw [kI hi,cond_true,dU hi,Option.bind_some,dX (x:=k+1) (by omega),aVe (by omega) (by omega) (hl.2 _ hm),Option.bind_some,aSU,decide_eq_true rfl,cond_true,Int.toNat_natCast]
  unfold aSS nSe
  congr 4
  omega
 ·unfold lL
  simp only
  rw [nD (Nat.le_refl _),cond_false]
theorem aVh {l:List Sc} {k:Int} (h0:0≤k) (hk:k+nSs l≤4611686018427387904) (hl:lS l):lO (aST k l) k=some (k+nSs l):=by
 have hm:(aST k l).length=l.length:=sT l k
 unfold lO
 rw [aGo (l:=l) (nv:=nSe) h0 hk hl.1 (λi hi k' e g0 g1=>?_) (λk'=>?_),Option.bind_some]
 ·rfl
 ·unfold nSe at g1
  unfold lM
  simp only
  rw [hm,kI hi,cond_true,dU (by omega),Option.bind_some,aSQ (v:=aSS k' l[i]) (by unfold aST;rw [aMR hi,e]) (by omega)]
  unfold aSS
  simp only [decide_true,Bool.not_true,cond_false,Option.bind_some]
  rw [dX (x:=k'+1) (by omega),aVf (by omega) (by omega) (hl.2 _ (List.getElem_mem hi)),Option.bind_some,aUo (by omega),cond_false]
  unfold nSe
  congr 3
  omega
 ·unfold lM
  simp only
  rw [hm,nD (Nat.le_refl _),cond_false]
def nQ (q:Qv):Nat:=nI q.src+nI q.tgt
def mvQ (k:Int) (q:Qv):Qv:=⟨q.n,mvI k q.src,mvI (k+nI q.src) q.tgt⟩
theorem aWQ {q:Qv} {k:Int} (h0:0≤k) (hk:k+nQ q≤4611686018427387904):qG q k=some ((mvQ k q).src,(mvQ k q).tgt,k+nQ q):=by
 unfold nQ at hk
 unfold qG
 rw [aQo h0 (by omega),Option.bind_some,xB,decide_eq_true rfl,cond_true,aQo (by omega) (by omega),Option.bind_some,xB,decide_eq_true rfl,cond_true]
 unfold mvQ nQ
 congr 3
 omega
def nMe (m:Mt):Nat:=2+nI m.cells
def aUq (k:Int) (m:Mt):Mt:=⟨k,k+1,mvI (k+2) m.cells⟩
def nMs:List Mt→Nat:=nvS nMe
def aUr:Int→List Mt→List Mt:=mvS aUq nMe
theorem aNb (k:Int) (l:List Mt):(aUr k l).length=l.length:=sT l k
theorem aVk {l:List Mt} {k:Int} (h0:0≤k) (hk:k+nMs l≤4611686018427387904) (hl:l.length≤4611686018427387904):nX l k=some (aUr k l,k+nMs l):=by
 unfold nX
 rw [aDe (mv:=aUq) (nv:=nMe) h0 hk hl (λr i k hi hm g0 g1=>?_) (λr k=>?_),Option.bind_some]
 ·rfl
 ·unfold nMe at g1
  unfold kN
  simp only
  rw [kI hi,cond_true,dU hi,Option.bind_some,dX (x:=k+1) (by omega),dX (x:=k+1+1) (by omega),show k+1+1=k+2 by omega,aQo (by omega) (by omega),Option.bind_some,xB,decide_eq_true rfl,cond_true,Int.toNat_natCast]
  unfold aUq nMe
  congr 4
  omega
 ·unfold kN
  simp only
  rw [nD (Nat.le_refl _),cond_false]
def nR (r:Rp):Nat:=nQ r.q+nI r.dims+nMs r.maps
def mvR (k:Int) (r:Rp):Rp:=⟨r.p,mvQ k r.q,mvI (k+nQ r.q) r.dims,aUr (k+nQ r.q+nI r.dims) r.maps⟩
theorem aWR {r:Rp} {k:Int} (h0:0≤k) (hk:k+nR r≤4611686018427387904) (hl:r.maps.length≤4611686018427387904):xA r k=some ((mvR k r).q.src,(mvR k r).q.tgt,(mvR k r).dims,(mvR k r).maps,k+nR r):=by
 unfold nR at hk
 unfold xA
 rw [aWQ h0 (by omega),Option.bind_some]
 simp only [mvQ,xB,decide_true,cond_true]
 rw [aQo (by omega) (by omega),Option.bind_some]
 simp only [xB,decide_true,cond_true]
 rw [aVk (by omega) (by omega) hl,Option.bind_some]
 simp only [aNb,decide_true,cond_true]
 unfold mvR nR
 congr 5
 omega
theorem aTq (k:Int) (r:Rp):(mvR k r).q.src.length=r.q.src.length∧(mvR k r).q.tgt.length=r.q.tgt.length∧(mvR k r).dims.length=r.dims.length∧(mvR k r).maps.length=r.maps.length:=⟨xB _ _,xB _ _,xB _ _,aNb _ _⟩
theorem aUs {l:List Mt} (h:l.length≤1048576∧ ∀ m∈l,bM m):nMs l≤2097152*1048576:=by
 have:=aMQ (nv:=nMe) (c:=2097152) (l:=l) λm hm=>by have:=(h.2 m hm).1;unfold bI at this;unfold nMe;rw [aCD];omega
 unfold nMs
 calc nvS nMe l≤2097152*l.length:=this
  _≤2097152*1048576:=Nat.mul_le_mul_left _ h.1
theorem aVl {r:Rp} (h:bR r):nR r≤4398046511104:=by
 obtain ⟨⟨h1,h2,_⟩,h3,h4,_⟩:=h
 have:=aUs h4
 unfold bI at h1 h2 h3
 unfold nR nQ
 rw [aCD,aCD,aCD]
 omega
theorem aUt {l:List (List Int)} (h:l.length≤1048576∧ ∀ v∈l,bI v):nIS l≤1048576*1048576:=by
 have:=aMQ (nv:=nI) (c:=1048576) (l:=l) λm hm=>by have:=h.2 m hm;unfold bI at this;rw [aCD];exact this
 unfold nIS
 calc nvS nI l≤1048576*l.length:=this
  _≤1048576*1048576:=Nat.mul_le_mul_left _ h.1
theorem aUu {l:List Sc} (h:l.length≤1048576∧ ∀ s∈l,bS s):nSs l≤2305843009213693952:=by
 have:=aMQ (nv:=nSe) (c:=2097152*1048576) (l:=l) λm hm=>by have:=aUt (h.2 m hm).1;unfold nSe;omega
 unfold nSs
 calc nvS nSe l≤2097152*1048576*l.length:=this
  _≤2097152*1048576*1048576:=Nat.mul_le_mul_left _ h.1
  _≤2305843009213693952:=by decide
theorem aUQ {l:List Sc} (h:l.length≤1048576∧ ∀ s∈l,bS s):lS l:=⟨by omega,λs hs=>by have:=(h.2 s hs).1.1;omega⟩
end
noncomputable section
set_option maxRecDepth 10000
set_option maxHeartbeats 4000000
end
noncomputable section
theorem aSW {p:Int} (hp:mG p=true) {n:Nat} {l l':List (List Int)} (h:InP p l.length n (cB l)) (h':InP p l'.length n (cB l')) (hK: ∀ x,Kr p l.length n (cB l) x↔Kr p l'.length n (cB l') x):fD p n l=fD p n l':=by
 obtain ⟨e1,e2⟩:=aLt hp h h' hK
 unfold fD
 rw [←e1]
 exact aCc e2
theorem aUR {p:Int} {f:Nat→Int} : ∀ {n:Nat},(∀ k,k<n→Z0 p (f k))→Z0 p (sN f n)
 |0,_=>by unfold Z0;simp [sN]
 |n+1,h=>aOW (aUR λk hk=>h k (by omega)) (h n (by omega))
end
noncomputable section
theorem aSX {k:Nat} {f:Nat→Nat} (hlt: ∀ t,t<k→f t<k) (hinc: ∀ s t,s<t→t<k→f s<f t): ∀ t,t<k→f t=t:=by
 have h1: ∀ t,t<k→t≤f t:=by
  intro t
  induction t with
  |zero=>intro _;exact Nat.zero_le _
  |succ t ih=>intro h;have:=ih (by omega);have:=hinc t (t+1) (by omega) h;omega
 have h2: ∀ d t,t+d+1=k→f t≤t:=by
  intro d
  induction d with
  |zero=>intro t h;have:=hlt t (by omega);omega
  |succ d ih=>intro t h;have:=ih (t+1) (by omega);have:=hinc t (t+1) (by omega) (by omega);omega
 intro t ht
 have:=h1 t ht
 have:=h2 (k - t - 1) t (by omega)
 omega
theorem aOr {L M:List Nat} (hL: ∀ i k,i<k→k<L.length→L[i]?.getD 0<L[k]?.getD 0) (hM: ∀ i k,i<k→k<M.length→M[i]?.getD 0<M[k]?.getD 0) (hs: ∀ t,t<M.length→ ∃ i,i<L.length∧L[i]?.getD 0=M[t]?.getD 0) (hl:L.length=M.length):L=M:=by
 have hs': ∀ t:Nat,∃ i,t<M.length→i<L.length∧L[i]?.getD 0=M[t]?.getD 0:=λt=>by
  by_cases h:t<M.length
  ·obtain ⟨i,hi⟩:=hs t h;exact ⟨i,λ_=>hi⟩
  ·exact ⟨0,λh'=>absurd h' h⟩
 obtain ⟨f,hf⟩:=Classical.axiomOfChoice hs'
 have e:=aSX (k:=M.length) (f:=f) (λt ht=>hl▸(hf t ht).1) (λs t hst ht=>by
  rcases Nat.lt_trichotomy (f s) (f t) with h|h|h
  ·exact h
  ·have a:=(hf s (by omega)).2;have b:=(hf t ht).2;have c:=hM s t hst ht;rw [h,b] at a;omega
  ·have a:=(hf s (by omega)).2;have b:=(hf t ht).2;have c:=hM s t hst ht
   have:=hL (f t) (f s) h (hf s (by omega)).1
   omega)
 refine List.ext_getElem hl λi h1 h2=>?_
 have:=(hf i h2).2
 rw [e i h2] at this
 simpa [h1,h2] using this
theorem aSY {p:Int} (hp:mG p=true) {m m' n:Nat} {F G:Nat→Nat→Int} {L M:List Nat} (hF:Red m n F L) (hG:Red m' n G M) (iF:InP p m n F) (iG:InP p m' n G) (hK: ∀ x,Kr p m n F x→Kr p m' n G x) (hl:L.length=M.length):L=M∧ ∀ i j,i<L.length→j<n→F i j=G i j:=by
 have e:L=M:=aOr hF.inc hG.inc (λt ht=>aLs hp hF hG hK ht) hl
 subst e
 refine ⟨rfl,λi k hi hk=>?_⟩
 have hm:=hF.len
 have hm':=hG.len
 by_cases hL: ∃ t,t<L.length∧L[t]?.getD 0=k
 ·obtain ⟨t,ht,rfl⟩:=hL
  by_cases e:i=t
  ·subst e;rw [hF.one i hi,hG.one i hi]
  ·rw [hF.col t i ht (by omega) e,hG.col t i ht (by omega) e]
 ·have hL: ∀ t,t<L.length→L[t]?.getD 0≠k:=λt ht e=>hL ⟨t,ht,e⟩
  have h1:=hK _ (aLr (p:=p) hF hk hL) i (by omega)
  rw [aNI hF hk hL,aGT (j:=i) hi (λt ht hti=>by rw [hG.col t i ht (by omega) (λe=>hti e.symm)];simp),hG.one i hi,Int.one_mul] at h1
  unfold Z0 at h1
  have b1:=iF i k (by omega) hk
  have b2:=iG i k (by omega) hk
  have e1:G i k % p=F i k % p:=by
   have:=Int.emod_emod_of_dvd
   exact Int.emod_eq_emod_iff_emod_sub_eq_zero.2 h1
  rw [Int.emod_eq_of_lt b2.1 b2.2,Int.emod_eq_of_lt b1.1 b1.2] at e1
  exact e1.symm
theorem aLN {p:Int} {n:Nat} {l:List (List Int)} (hp:mG p=true) (hv:VecsP p n l) (hs:fD p n l=l): ∃ L,L.length=l.length∧Red l.length n (cB l) L:=by
 have hi:=hv.inP
 have hr:=aGS hp hi n (Nat.le_refl _)
 have hlen:(cA p l.length (cB l) n).2.length=l.length:=by
  have:=congrArg List.length hs
  unfold fD at this
  rw [rZ] at this
  exact this
 have hrow: ∀ i j,i<l.length→j<n→(cA p l.length (cB l) n).1 i j=cB l i j:=by
  intro i j hi hj
  have:=aJC (cA p l.length (cB l) n).1 (cA p l.length (cB l) n).2.length n i j (by omega) hj
  unfold fD at hs
  rw [hs] at this
  exact this.symm
 refine ⟨_,hlen,⟨hr.lt,hr.inc,by omega,λi h=>?_,λi k h hk hne=>?_,λi j h h2 hj=>?_,λi j h hj=>?_⟩⟩
 ·rw [←hrow i _ (by omega) (hr.lt i h)];exact hr.one i h
 ·rw [←hrow k _ hk (hr.lt i h)];exact hr.col i k h hk hne
 ·omega
 ·rw [←hrow i j (by omega) (by have:=hr.lt i h;omega)];exact hr.left i j h hj
def rsF (p:Int) (B:Nat→Nat→Int) (L:List Nat) (v:Nat→Int):Nat→Nat→Int
 |0=>v
 |t+1=>λj=>(rsF p B L v t j+(p - rsF p B L v t (L[t]?.getD 0))*B t j) % p
theorem aSZ {p:Int} (hp:mG p=true) {B:Nat→Nat→Int} {L:List Nat} {v:Nat→Int} {n:Nat} (hv: ∀ j,j<n→0≤v j∧v j<p): ∀ t j,j<n→0≤rsF p B L v t j∧rsF p B L v t j<p
 |0,j,h=>hv j h
 |t+1,j,_=>aBE hp
theorem aMS {p:Int} (hp:mG p=true) {m n:Nat} {B:Nat→Nat→Int} {L:List Nat} (h:Red m n B L) {v:Nat→Int} : ∀ t,t≤L.length→ ∀ s,s<t→rsF p B L v t (L[s]?.getD 0)=0
 |0,_,s,hs=>absurd hs (Nat.not_lt_zero _)
 |t+1,ht,s,hs=>by
  have hm:=h.len
  simp only [rsF]
  by_cases e:s=t
  ·subst e
   rw [h.one s (by omega),Int.mul_one,show rsF p B L v s (L[s]?.getD 0)+(p - rsF p B L v s (L[s]?.getD 0))=p by omega,Int.emod_self]
  ·rw [h.col s t (by omega) (by omega) (λe'=>e e'.symm),aMS hp h t (by omega) s (by omega)]
   simp
theorem aOs {p:Int} (hp:mG p=true) {m n:Nat} {B:Nat→Nat→Int} {L:List Nat} (hL:L.length≤m) {v x:Nat→Int} (hx:Kr p m n B x): ∀ t,t≤L.length→dt n (rsF p B L v t) x % p=dt n v x % p
 |0,_=>rfl
 |t+1,ht=>by
  have ih:=aOs hp hL (v:=v) hx t (by omega)
  have h1:=hx t (by omega)
  rw [←ih]
  simp only [rsF]
  rw [aLq (g:=λj=>rsF p B L v t j+(p - rsF p B L v t (L[t]?.getD 0))*B t j) (λk _=>by rw [Int.emod_emod_of_dvd _ (Int.dvd_refl p)]),aRo]
  have h2:=aGU (p - rsF p B L v t (L[t]?.getD 0)) h1
  unfold Z0 at h2
  rw [Int.add_emod,h2]
  simp
theorem aSa {p:Int} (hp:mG p=true) {m n:Nat} {B:Nat→Nat→Int} {L:List Nat} (h:Red m n B L) {v:Nat→Int} (hv: ∀ j,j<n→0≤v j∧v j<p):(∀ j,j<n→rsF p B L v L.length j=0)↔ ∀ x,Kr p m n B x→Z0 p (dt n v x):=by
 constructor
 ·intro hz x hx
  have:=aOs hp h.len (v:=v) hx L.length (Nat.le_refl _)
  unfold Z0
  rw [←this]
  have e:dt n (rsF p B L v L.length) x=0:=by
   unfold dt
   rw [rF (g:=λ_=>0) (λk hk=>by rw [hz k hk];simp),aBz]
  rw [e]
  simp
 ·intro hz k hk
  by_cases hL: ∃ t,t<L.length∧L[t]?.getD 0=k
  ·obtain ⟨t,ht,rfl⟩:=hL
   exact aMS hp h L.length (Nat.le_refl _) t ht
  ·have hL: ∀ t,t<L.length→L[t]?.getD 0≠k:=λt ht e=>hL ⟨t,ht,e⟩
   have hx:=aLr (p:=p) h hk hL
   have h1:=hz _ hx
   unfold Z0 at h1
   rw [←aOs hp h.len (v:=v) hx L.length (Nat.le_refl _),aNI h hk hL,rF (g:=λ_=>0) (λi hi=>by rw [aMS hp h L.length (Nat.le_refl _) i hi];simp),aBz,Int.sub_zero] at h1
   have b:=aSZ hp (B:=B) (L:=L) hv L.length k hk
   rw [Int.emod_eq_of_lt b.1 b.2] at h1
   exact h1
theorem aDf {p:Int} {n:Nat} {a b:List (List Int)} {x:Nat→Int} :Kr p (a++b).length n (cB (a++b)) x↔Kr p a.length n (cB a) x∧Kr p b.length n (cB b) x:=by
 have e1: ∀ i,i<a.length→cB (a++b) i=cB a i:=λi hi=>by funext j;simp only [cB];rw [List.getElem?_append_left hi]
 have e2: ∀ i,cB (a++b) (a.length+i)=cB b i:=λi=>by funext j;simp only [cB];rw [List.getElem?_append_right (by omega),Nat.add_sub_cancel_left]
 unfold Kr
 rw [List.length_append]
 refine ⟨λh=>⟨λi hi=>e1 i hi▸h i (by omega),λi hi=>e2 i▸h (a.length+i) (by omega)⟩,λh i hi=>?_⟩
 rcases Nat.lt_or_ge i a.length with h'|h'
 ·rw [e1 i h'];exact h.1 i h'
 ·have:=h.2 (i - a.length) (by omega)
  rw [←e2,show a.length+(i - a.length)=i by omega] at this
  exact this
theorem aAh {p:Int} (hp:mG p=true) {n:Nat} {a b:List (List Int)} (ha:VecsP p n a) (hb:VecsP p n b) (hs:fD p n b=b):(aKL p n a b).length=b.length↔ ∀ x,Kr p b.length n (cB b) x→Kr p a.length n (cB a) x:=by
 have hi:=(ha.append hb).inP
 constructor
 ·intro hl x hx
  obtain ⟨L,hLl,hR⟩:=aLN hp hb hs
  have hr:=aGS hp hi n (Nat.le_refl _)
  have hb':=gH hp
  have hlen:(cA p (a++b).length (cB (a++b)) n).2.length=L.length:=by
   unfold aKL fD at hl
   rw [rZ] at hl
   omega
  obtain ⟨_,h2⟩:=aSY hp hr hR (tJ (by omega) hi n) hb.inP (λx hx=>(aDf.1 ((aFI hp hi x n (Nat.le_refl _)).1 hx)).2) hlen
  refine (aDf.1 ((aFI hp hi x n (Nat.le_refl _)).1 λi hi'=>?_)).1
  rcases Nat.lt_or_ge i (cA p (a++b).length (cB (a++b)) n).2.length with h'|h'
  ·have e:dt n ((cA p (a++b).length (cB (a++b)) n).1 i) x=dt n (cB b i) x:=rF λk hk=>by rw [h2 i k h' hk]
   rw [e]
   exact hx i (by omega)
  ·have e:dt n ((cA p (a++b).length (cB (a++b)) n).1 i) x=0:=by
    unfold dt
    rw [rF (g:=λ_=>0) (λk hk=>by rw [hr.low i k h' hi' hk];simp),aBz]
   rw [e]
   unfold Z0
   simp
 ·intro hK
  unfold aKL
  rw [aSW hp hi hb.inP λx=>⟨λh=>(aDf.1 h).2,λh=>aDf.2 ⟨hK x h,h⟩⟩,hs]
end
noncomputable section
def sV (r:Rp) (i:Nat):Nat:=(r.q.src[i]?.getD 0).toNat
def tV (r:Rp) (i:Nat):Nat:=(r.q.tgt[i]?.getD 0).toNat
def aF (r:Rp) (i:Nat):Nat→Nat→Int:=λj k=>(r.maps[i]?.getD ⟨0,0,[]⟩).cells[j*dN r (sV r i)+k]?.getD 0
structure Rv (r:Rp):Prop where
 hp:mG r.p=true
 n5:r.dims.length≤5
 d: ∀ k,k<r.dims.length→r.dims[k]?.getD 0=(dN r k:Int)∧dN r k≤4
 e6:r.q.src.length≤6
 tl:r.q.tgt.length=r.q.src.length
 ml:r.maps.length=r.q.src.length
 s: ∀ i,i<r.q.src.length→r.q.src[i]?.getD 0=(sV r i:Int)∧sV r i<r.dims.length
 t: ∀ i,i<r.q.src.length→r.q.tgt[i]?.getD 0=(tV r i:Int)∧tV r i<r.dims.length
 m: ∀ i,i<r.q.src.length→r.maps[i]?.getD ⟨0,0,[]⟩=⟨dN r (tV r i),dN r (sV r i),cK (dN r (tV r i)) (dN r (sV r i)) (aF r i)⟩∧InP r.p (dN r (tV r i)) (dN r (sV r i)) (aF r i)
theorem aNc {r:Rp} (h:aFZ r=true):Rv r:=by
 obtain ⟨hp,hD,hml,hM⟩:=aSK h
 obtain ⟨hQ,hd1,hd2,_⟩:=aCs hD
 obtain ⟨n,hn,hn1,hn5,hq1,hq2,hq3,hq4⟩:=aCr hQ
 have hdl:r.dims.length=n:=by omega
 have hd: ∀ k,k<r.dims.length→r.dims[k]?.getD 0=(dN r k:Int)∧dN r k≤4:=by
  intro k hk
  have:=hd2 _ (dJ 0 hk)
  unfold dN
  omega
 have hs: ∀ i,i<r.q.src.length→r.q.src[i]?.getD 0=(sV r i:Int)∧sV r i<r.dims.length:=by
  intro i hi
  have:=hq3 _ (dJ 0 hi)
  unfold sV
  omega
 have ht: ∀ i,i<r.q.src.length→r.q.tgt[i]?.getD 0=(tV r i:Int)∧tV r i<r.dims.length:=by
  intro i hi
  have:=hq4 _ (dJ 0 (show i<r.q.tgt.length by omega))
  unfold tV
  omega
 refine ⟨hp,by omega,hd,hq2,by omega,hml,hs,ht,λi hi=>?_⟩
 obtain ⟨g1,g2,g3⟩:=hM i (by omega)
 rw [show (r.q.src[i]?.getD 0).toNat=sV r i from rfl,(hd _ (hs i hi).2).1] at g2
 rw [show (r.q.tgt[i]?.getD 0).toNat=tV r i from rfl,(hd _ (ht i hi).2).1] at g3
 obtain ⟨_,a,b,F,ha,hb,he,hF⟩:=aOk g1
 have ea:a=dN r (tV r i):=by rw [he] at g3;simp only at g3;omega
 have eb:b=dN r (sV r i):=by rw [he] at g2;simp only at g2;omega
 have em: ∀ j k,j<a→k<b→aF r i j k=F j k:=by
  intro j k hj hk
  unfold aF
  rw [he,←eb]
  simp only
  rw [mR F hj hk];rfl
 subst ea;subst eb
 rw [he]
 refine ⟨?_,λj k hj hk=>by rw [em j k hj hk];exact hF j k hj hk⟩
 rw [cH em]
theorem aTr {α:Type} {f:Nat→α} {n k:Nat} (h:k<n):cT ((List.range n).map f) (k:Int)=some (f k):=by rw [dU (by simp;exact h)];simp
theorem aKW {R N:Nat} (hN:R*N≤1048576) (h1:R≤1048576) (h2:N≤1048576) (M:Nat→Nat→Int):jX R ((List.range N).map λk=>mY R λi=>M i k)=some ⟨R,N,cK R N M⟩:=by
 unfold jX
 rw [List.length_map,List.length_range,aSH hN,Option.bind_some]
 simp only
 rw [eD (r:=cK R N M) (λk=>(cK R N (λi j=>if j<k then M i j else 0),(k:Int))) N (by simp) (λk hk=>?_) (λ_=>?_),Option.bind_some]
 ·unfold kM
  simp only
  rw [List.length_map,List.length_range,kI hk,cond_true,aTr hk,Option.bind_some]
  rw [eD (r:=cK R N (λi j=>if j<k+1 then M i j else 0)) (λx=>(cK R N (λi j=>if j<k∨(j=k∧i<x) then M i j else 0),(x:Int))) R (by simp) (λx hx=>?_) (λ_=>?_),Option.bind_some,cC hk (by omega)]
  ·unfold kL
   simp only
   rw [fF,kI hx,cond_true,aIT _ hx,Option.bind_some,atT hN hx hk,Option.bind_some,aQj hN hx hk,cC hx (by omega)]
   congr 3
   refine cH λi j hi hj=>?_
   simp only [aGR]
   by_cases e:i=x∧j=k
   ·rw [if_pos e,if_pos (by omega),e.1,e.2]
   ·rw [if_neg e]
    by_cases e2:j<k∨j=k∧i<x
    ·rw [if_pos e2,if_pos (by omega)]
    ·rw [if_neg e2,if_neg (by omega)]
  ·unfold kL
   simp only
   rw [fF,nD (Nat.le_refl _),cond_false]
   congr 2
   refine cH λi j hi hj=>?_
   by_cases e:j<k+1
   ·rw [if_pos e,if_pos (by omega)]
   ·rw [if_neg e,if_neg (by omega)]
 ·unfold kM
  simp only
  rw [List.length_map,List.length_range,nD (Nat.le_refl _),cond_false]
  congr 2
  exact cH λi j hi hj=>by rw [if_pos hj]
end
noncomputable section
def aUv (n:Nat) (l:List (List Int)):Mt:=⟨n,(l.length:Int),cK n l.length λi k=>cB l k i⟩
theorem aQq {n:Nat} {l:List (List Int)} (h: ∀ v∈l,v.length=n):l=(List.range l.length).map λk=>mY n λi=>cB l k i:=aPt h
theorem aUw {n:Nat} {l:List (List Int)} (hn:n≤1024) (hl:l.length≤512) (h: ∀ v∈l,v.length=n):jX n l=some (aUv n l):=by
 have hN:n*l.length≤1048576:=by have:=Nat.mul_le_mul hn hl;omega
 have e:=aKW hN (by omega) (by omega) (λi k=>cB l k i)
 rw [←aQq h] at e
 exact e
theorem aVm {α β:Type} {f:α→β} {l:List α} {k:Nat} (hk:k<l.length):(l.take k).map f++[f l[k]]=(l.take (k+1)).map f:=by rw [List.take_succ_eq_append_getElem hk,List.map_append];rfl
end
end Go.Proofs.YtghechfdejhapaaGreat

/-
  Several texts of the claim in one.
-/
import Derived.Test.YtghechfdejhapaaGreatH14
set_option linter.unusedVariables false
set_option linter.unusedSimpArgs false
namespace Go.Proofs.YtghechfdejhapaaGreat
open Go.RowKit
noncomputable section
def cN:List Int→Nat
 | []=>1
 |m::ms=>(m.toNat+1)*cN ms
def aGP:List Int→Nat→List Int
 | [],_=>[]
 |m::ms,c=>((c / cN ms % (m.toNat+1):Nat):Int)::aGP ms c
theorem aRg: ∀ ms,0<cN ms
 | []=>by simp [cN]
 |m::ms=>Nat.mul_pos (Nat.succ_pos _) (aRg ms)
theorem aQa: ∀ ms c,(aGP ms c).length=ms.length
 | [],_=>rfl
 |m::ms,c=>by simp [aGP,aQa ms c]
theorem aQb: ∀ (ms:List Int) (i c:Nat),aGP ms (i*cN ms+c)=aGP ms c
 | [],_,_=>rfl
 |m::ms,i,c=>by
  simp only [aGP,cN]
  have h:=aRg ms
  rw [show i*((m.toNat+1)*cN ms)+c=i*(m.toNat+1)*cN ms+c by rw [Nat.mul_assoc],aQb ms,Nat.add_comm (i*(m.toNat+1)*cN ms) c,Nat.add_mul_div_right _ _ h,Nat.add_mul_mod_self_right]
theorem aNy {α:Type} (f:Nat→α) (b:Nat): ∀ a,(List.range (a*b)).map f=(List.range a).flatMap λi=>(List.range b).map λc=>f (i*b+c)
 |0=>by simp
 |a+1=>by
  rw [Nat.succ_mul,List.range_add,List.map_append,aNy f b a,List.range_succ,List.flatMap_append,List.flatMap_singleton,List.map_map]
  rfl
theorem aIX {α β:Type} {f g:α→List β} : ∀ {l:List α},(∀ x∈l,f x=g x)→l.flatMap f=l.flatMap g
 | [],_=>rfl
 |x::l,h=>by rw [List.flatMap_cons,List.flatMap_cons,h x (by simp),aIX λy hy=>h y (by simp [hy])]
theorem aQc {α:Type} (p q:α→Bool): ∀ l:List α,(l.all λx=>p x&&q x)=(l.all p&&l.all q)
 | []=>rfl
 |x::l=>by
  simp only [List.all_cons,aQc p q l]
  cases p x <;> cases q x <;> simp
theorem aJe: ∀ ms:List Int,(List.range (cN ms)).map (aGP ms)=dF ms
 | []=>rfl
 |m::ms=>by
  simp only [cN,dF]
  rw [aNy,←aJe ms]
  refine aIX λi hi=>?_
  rw [List.map_map]
  refine List.map_congr_left λc hc=>?_
  have hc:=List.mem_range.1 hc
  have hi:=List.mem_range.1 hi
  simp only [aGP,Function.comp_apply]
  rw [aQb,Nat.add_comm (i*cN ms) c,Nat.add_mul_div_right _ _ (aRg ms),Nat.div_eq_of_lt hc,Nat.zero_add,Nat.mod_eq_of_lt hi]
theorem aVg {b:Nat} : ∀ {ms:List Int},(∀ m∈ms,m.toNat≤b)→cN ms≤(b+1) ^ ms.length
 | [],_=>by simp [cN]
 |m::ms,h=>by
  have ih:=aVg (ms:=ms) λx hx=>h x (by simp [hx])
  have:=h m (by simp)
  simp only [cN,List.length_cons,Nat.pow_succ]
  rw [Nat.mul_comm]
  exact Nat.mul_le_mul ih (by omega)
theorem Sm.mem {r:Rp} (S:Sm r): ∀ x∈r.dims,0≤x∧x≤2:=by
 intro x hx
 obtain ⟨k,hk,rfl⟩:=List.mem_iff_getElem.1 hx
 have h1:=(S.R.d k hk).1
 have h2:=S.d k hk
 rw [List.getElem?_eq_getElem hk,Option.getD_some] at h1
 omega
theorem aMa {r:Rp} (S:Sm r) (n:Nat):cN (r.dims.drop n)≤243:=by
 have h5:=S.R.n5
 have h:=aVg (b:=2) (ms:=r.dims.drop n) λm hm=>by have:=S.mem m (List.mem_of_mem_drop hm);omega
 exact Nat.le_trans h (Nat.le_trans (Nat.pow_le_pow_right (by omega) (show (r.dims.drop n).length ≤5 by rw [List.length_drop];omega)) (by decide))
theorem aKG {r:Rp} (S:Sm r):(dF r.dims).length ≤243:=by
 rw [←aJe,List.length_map,List.length_range]
 exact aMa S 0
def qC (r:Rp):List (List Sc):=(dF r.dims).flatMap (aDn r)
theorem aCh {r:Rp} (S:Sm r) (d:List Int):(aDn r d).length ≤1024:=Nat.le_trans (List.length_filter_le _ _) (aHN S)
theorem aSd {α β ρ:Type} {f:α→List β→Option (List β ⊕ ρ)} (g:α→List β) (b:Nat): ∀ (l:List α) (acc:List β),acc.length+b*l.length≤4000000→(∀ x∈l,(g x).length ≤b∧ ∀ acc:List β,acc.length+b≤4000000→f x acc=some (.inl (acc++g x)))→Fl f l acc=some (.inl (acc++l.flatMap g))
 | [],acc,_,_=>by simp [Fl]
 |x::l,acc,hl,h=>by
  rw [List.length_cons,Nat.mul_succ] at hl
  obtain ⟨h0,h1⟩:=h x (by simp)
  have h1:=h1 acc (by omega)
  simp only [Fl,h1]
  rw [aSd g b l _ (by rw [List.length_append];omega) λy hy=>h y (by simp [hy]),List.flatMap_cons,List.append_assoc]
theorem aRh {r:Rp} (S:Sm r):aGk r.dims=true:=by
 have h5:=S.R.n5
 unfold aGk
 rw [decide_eq_true (by omega),Bool.and_true,List.all_eq_true]
 intro m hm
 have:=S.mem m hm
 rw [decide_eq_true (by omega),decide_eq_true (by omega)]
 rfl
theorem aTq {r:Rp} (hr:bR r) (S:Sm r):aAG r=some (qC r):=by
 have hb:=aKG S
 unfold aAG
 rw [aRh S,cond_true,aSd (aDn r) 1024 _ _ (by simp;omega) (λx hx=>⟨aCh S x,λacc hacc=>?_⟩),Option.bind_some]
 ·rfl
 ·have hsm:=aCh S x
  unfold aAF
  rw [aMZ hr S (qQ hx),Option.bind_some,decide_eq_true (by omega),cond_true]
theorem aVh {r:Rp} (S:Sm r) {c:Nat} (hc:c<cN r.dims):Lp (nX r) (List.replicate ((r.dims.length:Int).toNat) (0:Int),(c:Int),wr ((((List.replicate ((r.dims.length:Int).toNat) (0:Int)).length:Nat):Int) - 1))=some (aGP r.dims c):=by
 have h5:=S.R.n5
 have hc243:c≤243:=by have:=aMa S 0;rw [List.drop_zero] at this;omega
 rw [Int.toNat_natCast,List.length_replicate]
 refine eB (λj=>(List.replicate (r.dims.length - j) 0++aGP (r.dims.drop (r.dims.length - j)) c,((c / cN (r.dims.drop (r.dims.length - j)):Nat):Int),(r.dims.length:Int) - j - 1)) r.dims.length ?_ (λj hj=>?_) (λ_=>?_)
 ·rw [Nat.sub_zero,List.drop_length,eH (by omega)]
  simp [aGP,cN]
 ·obtain ⟨v,hv⟩: ∃ v,v+1=r.dims.length - j:=⟨r.dims.length - j - 1,by omega⟩
  have hvl:v<r.dims.length:=by omega
  have hm:=S.mem _ (dU 0 hvl)
  have e1:r.dims.length - (j+1)=v:=by omega
  have e2:(r.dims.length:Int) - (j:Int) - 1=(v:Int):=by omega
  have e3:r.dims.drop v=r.dims[v]?.getD 0::r.dims.drop (v+1):=by rw [List.drop_eq_getElem_cons hvl,List.getElem?_eq_getElem hvl,Option.getD_some]
  have hq:c / cN (r.dims.drop (v+1))≤c:=Nat.div_le_self _ _
  unfold nX
  simp only
  rw [←hv,e1,e2,decide_eq_true (by omega),cond_true,mW 0 hvl,Option.bind_some,eH (x:=r.dims[v]?.getD 0+1) (by omega),decide_eq_false (by omega)]
  simp only [Bool.not_false,cond_true]
  rw [mW 0 (by simp;omega),Option.bind_some,Option.bind_some,eH (x:=r.dims[v]?.getD 0+1) (by omega),decide_eq_false (by omega)]
  simp only [Bool.not_false,cond_true]
  have e4:r.dims[v]?.getD 0+1=(((r.dims[v]?.getD 0).toNat +1:Nat):Int):=by omega
  rw [e4,Int.toNat_natCast,Int.tmod_eq_emod_of_nonneg (Int.natCast_nonneg _),Int.tdiv_eq_ediv_of_nonneg (Int.natCast_nonneg _)]
  have e5:(((c / cN (r.dims.drop (v+1)):Nat):Int) / (((r.dims[v]?.getD 0).toNat +1:Nat):Int))=((c / cN (r.dims.drop v):Nat):Int):=by
   rw [e3,cN,Nat.mul_comm,←Nat.div_div_eq_div_mul]
   rfl
  have hq2:c / cN (r.dims.drop v)≤c:=Nat.div_le_self _ _
  rw [e5,eH ⟨Int.le_trans (by decide) (Int.natCast_nonneg _),Int.le_trans (Int.ofNat_le.2 (Nat.le_trans hq2 hc243)) (by decide)⟩,eH (by omega)]
  congr 3
  ·rw [e3,aGP,List.replicate_succ',List.append_assoc,List.set_append_right _ _ (by simp)]
   rw [List.length_replicate,Nat.sub_self]
   rfl
  ·congr 1
   omega
 ·unfold nX
  simp only
  rw [decide_eq_false (by omega),cond_false,Nat.sub_self,List.drop_zero]
  rfl
def aYB (r:Rp):List (List Sc)×Bool:=bif eP r then (qC r,true) else ([],false)
theorem aTr {r:Rp} (hr:bR r):aAH r=some (aYB r):=by
 unfold aAH aYB
 rw [aNv hr,Option.bind_some]
 cases hS:eP r with
 |false=>rfl
 |true=>
  have S:=zE hS
  have h5:=S.R.n5
  have h243:=aMa S 0
  rw [List.drop_zero] at h243
  simp only [Bool.not_true,cond_false,cond_true]
  have hpre: ∀ k,k≤r.dims.length→cN (r.dims.take k)≤243:=by
   intro k hk
   have h:=aVg (b:=2) (ms:=r.dims.take k) λm hm=>by have:=S.mem m (List.mem_of_mem_take hm);omega
   exact Nat.le_trans h (Nat.le_trans (Nat.pow_le_pow_right (by omega) (show (r.dims.take k).length ≤5 by rw [List.length_take];omega)) (by decide))
  have hsnoc: ∀ (l:List Int) (m:Int),cN (l++[m])=cN l*(m.toNat+1):=by
   intro l m
   induction l with
   |nil=>simp [cN]
   |cons x l ih=>simp only [List.cons_append,cN];rw [ih,Nat.mul_assoc]
  rw [eB (r:=(cN r.dims:Int)) (λk=>((cN (r.dims.take k):Int),(k:Int))) r.dims.length (by simp [cN]) (λk hk=>?_) (λ_=>?_),Option.bind_some]
  ·rw [eB (r:=qC r) (λk=>(((List.range k).map (aGP r.dims)).flatMap (aDn r),(k:Int))) (cN r.dims) (by simp) (λk hk=>?_) (λ_=>?_),Option.bind_some]
   ·have hlen:(((List.range k).map (aGP r.dims)).flatMap (aDn r)).length ≤1024*k:=by
     have: ∀ l:List (List Int),(l.flatMap (aDn r)).length ≤1024*l.length:=by
      intro l
      induction l with
      |nil=>simp
      |cons x l ih=>rw [List.flatMap_cons,List.length_append,List.length_cons,Nat.mul_succ];have:=aCh S x;omega
     have:=this ((List.range k).map (aGP r.dims))
     rwa [List.length_map,List.length_range] at this
    have hsm:=aCh S (aGP r.dims k)
    unfold tR
    simp only
    rw [lE hk,cond_true,decide_eq_true (by omega),decide_eq_true (by omega)]
    simp only [Bool.and_self,cond_true]
    rw [aVh S hk,Option.bind_some,aQZ hr,Option.bind_some]
    unfold aQX
    rw [hS,decide_eq_true (aQa _ _)]
    simp only [Bool.and_self,cond_true]
    rw [decide_eq_true (by omega),cond_true,cH hk (by omega),List.range_succ,List.map_append,List.flatMap_append]
    simp
   ·unfold tR
    simp only
    rw [oG (Nat.le_refl _),cond_false,aJe]
    rfl
  ·have h1:=hpre k (by omega)
   have h2:=hpre (k+1) (by omega)
   have hm:=S.mem _ (dU 0 hk)
   have e:cN (r.dims.take (k+1))=cN (r.dims.take k)*((r.dims[k]?.getD 0).toNat +1):=by rw [List.take_succ_eq_append_getElem hk,hsnoc,List.getElem?_eq_getElem hk,Option.getD_some]
   unfold tQ
   simp only
   rw [lE hk,cond_true,mW 0 hk,Option.bind_some,eH (x:=r.dims[k]?.getD 0+1) (by omega),show r.dims[k]?.getD 0+1=(((r.dims[k]?.getD 0).toNat +1:Nat):Int) by omega,aPf (by omega),←e,cH hk (by omega)]
  ·unfold tQ
   simp only
   rw [oG (Nat.le_refl _),cond_false,List.take_length]
def gA (s:List Sc):List Int:=s.map λx=>(x.basis.length:Int)
theorem aFs {s:List Sc} (hs:s.length≤1048576):mB s=some (gA s):=by
 unfold mB
 rw [eB (r:=gA s) (λk=>((s.take k).map (λx=>(x.basis.length:Int)),(k:Int))) s.length (by simp) (λk hk=>?_) (λ_=>?_),Option.bind_some]
 ·unfold tN
  simp only
  rw [lE hk,cond_true,mW ⟨0,[]⟩ hk,Option.bind_some,decide_eq_true (by rw [List.length_map,List.length_take];simp;omega),cond_true,cH hk (by omega),aDm (λx:Sc=>(x.basis.length:Int)) _ hk]
 ·unfold tN
  simp only
  rw [oG (Nat.le_refl _),cond_false,List.take_length]
  rfl
theorem aEP {r:Rp} (hr:bR r) {s:List Sc} (hs:s.length≤1048576∧ ∀ x∈s,bS x) (h:aFT r s=true):pU r s=some (gA s):=by
 unfold pU
 rw [eB (r:=gA s) (λk=>((s.take k).map (λx=>(x.basis.length:Int)),(k:Int))) s.length (by simp) (λk hk=>?_) (λ_=>?_),Option.bind_some]
 ·unfold tS
  simp only
  rw [lE hk,cond_true,aJd hr hs,Option.bind_some,h,cond_true,mW ⟨0,[]⟩ hk,Option.bind_some,decide_eq_true (by rw [List.length_map,List.length_take];simp;omega),cond_true,cH hk (by omega),aDm (λx:Sc=>(x.basis.length:Int)) _ hk]
 ·unfold tS
  simp only
  rw [oG (Nat.le_refl _),cond_false,List.take_length]
  rfl
structure Part (r:Rp) (s:List Sc):Prop where
 len:s.length=r.dims.length
 b: ∀ x∈s,bS x
 sub:aFT r s=true
 dim: ∀ v,v<r.dims.length→0≤(gA s)[v]?.getD 0∧(gA s)[v]?.getD 0≤r.dims[v]?.getD 0
theorem aSe {r:Rp} (S:Sm r) {d:List Int} {s:List Sc} (h:s∈aDn r d):Part r s:=by
 obtain ⟨h1,h2⟩:=List.mem_filter.1 h
 obtain ⟨p1,p2,p3⟩:=aKx S h1
 obtain ⟨R,e1,e2⟩:=aEO h2
 refine ⟨p1,p2,h2,λv hv=>?_⟩
 have:=(e2 v hv).len
 have h3:(gA s)[v]?.getD 0=((sG s v).basis.length:Int):=by
  unfold gA sG
  rw [List.getElem?_map]
  have:v<s.length:=by omega
  simp [this]
 rw [h3,(R.d v hv).1]
 omega
theorem aVi {r:Rp} (S:Sm r) {s:List Sc} (h:s∈qC r):Part r s:=by
 obtain ⟨d,_,hd⟩:=List.mem_flatMap.1 h
 exact aSe S hd
theorem aSf {r:Rp} (S:Sm r):(qC r).length ≤300000:=by
 have h:=aKG S
 have: ∀ l:List (List Int),(l.flatMap (aDn r)).length ≤1024*l.length:=by
  intro l
  induction l with
  |nil=>simp
  |cons x l ih=>rw [List.flatMap_cons,List.length_append,List.length_cons,Nat.mul_succ];have:=aCh S x;omega
 have:=this (dF r.dims)
 unfold qC
 omega
def thV (t d:List Int):Bool:=decide (t.length=d.length)&&(decide (t.length≤100)&&((t.all λx=>rN x (-20) 20)&&d.all λx=>rN x 0 100))
structure Th (t d:List Int):Prop where
 l:t.length=d.length
 l100:t.length≤100
 t: ∀ k,k<t.length→ -20≤t[k]?.getD 0∧t[k]?.getD 0≤20
 d: ∀ x∈d,0≤x∧x≤100
theorem aMb {t d:List Int} (h:thV t d=true):Th t d:=by
 unfold thV at h
 simp only [Bool.and_eq_true,decide_eq_true_eq,List.all_eq_true] at h
 obtain ⟨h1,h2,h3,h4⟩:=h
 exact ⟨h1,h2,λk hk=>iH (h3 _ (dU 0 hk)),λx hx=>iH (h4 x hx)⟩
theorem aQd {t d:List Int} (ht:bI t) (hd:bI d):vT t d=some (thV t d):=by
 unfold vT thV
 by_cases h1:t.length=d.length
 ·rw [decide_eq_true (by omega),decide_eq_true h1,cond_true,Bool.true_and]
  by_cases h2:t.length≤100
  ·rw [decide_eq_true (by omega),decide_eq_true h2,cond_true,Bool.true_and,uG ht,Option.bind_some]
   refine iZ λ_=>?_
   rw [uG hd,Option.bind_some]
  ·rw [decide_eq_false (by omega),decide_eq_false h2];rfl
 ·rw [decide_eq_false (by omega),decide_eq_false h1];rfl
theorem aCK {t d:List Int} (ht:bI t) (hd:bI d):kB t d=some (thV t d):=by
 unfold bI at ht hd
 unfold kB
 rw [aAi (λk=>rN (t[k]?.getD 0) (-20) 20&&(!decide (k<d.length)||rN (d[k]?.getD 0) 0 100)) false (n:=t.length) (by omega) (λk hk=>?_) (λ_=>?_),Option.bind_some]
 ·unfold thV
  by_cases h1:t.length=d.length
  ·rw [decide_eq_true h1,decide_eq_true (by omega),Bool.true_and]
   have e:(List.range t.length).all (λk=>rN (t[k]?.getD 0) (-20) 20&&(!decide (k<d.length)||rN (d[k]?.getD 0) 0 100))=((t.all λx=>rN x (-20) 20)&&d.all λx=>rN x 0 100):=by
    rw [←yX 0 t (λx=>rN x (-20) 20),←yX 0 d (λx=>rN x 0 100),←h1,←aQc]
    refine aPd λk hk=>?_
    rw [decide_eq_true hk]
    rfl
   rw [e]
   cases ((t.all λx=>rN x (-20) 20)&&d.all λx=>rN x 0 100) with
   |false=>simp
   |true=>
    simp only [cond_true,Sum.elim_inl,Bool.and_true]
    congr 1
    exact decide_eq_decide.2 (by omega)
  ·rw [decide_eq_false h1,decide_eq_false (by omega)]
   cases (List.range t.length).all _ <;> rfl
 ·unfold tT
  rw [lE hk,cond_true,mW 0 hk,Option.bind_some,xU,Option.bind_some]
  cases rN (t[k]?.getD 0) (-20) 20 with
  |false=>rfl
  |true=>
   simp only [Bool.not_true,cond_false,Bool.true_and]
   by_cases hk2:k<d.length
   ·rw [lE hk2,decide_eq_true hk2,cond_true,mW 0 hk2,Option.bind_some,xU,Option.bind_some]
    cases rN (d[k]?.getD 0) 0 100 <;> rfl
   ·rw [oG (by omega),decide_eq_false hk2]
    rfl
 ·unfold tT
  rw [oG (Nat.le_refl _),cond_false]
def thS (t d:List Int):Nat→Int
 |0=>0
 |k+1=>thS t d k+t[k]?.getD 0*d[k]?.getD 0
theorem aRi {a b:Int} (ha: -20≤a∧a≤20) (hb:0≤b∧b≤100): -2000≤a*b∧a*b≤2000:=by
 have h1:=Int.mul_le_mul_of_nonneg_right ha.2 hb.1
 have h2:=Int.mul_le_mul_of_nonneg_right ha.1 hb.1
 omega
theorem aHO {t d:List Int} (T:Th t d): ∀ k,k≤t.length→ -2000*k≤thS t d k∧thS t d k≤2000*k
 |0,_=>by simp [thS]
 |k+1,hk=>by
  have ih:=aHO T k (by omega)
  have h1:=T.t k (by omega)
  have h2:=T.d _ (dU 0 (show k<d.length by have:=T.l;omega))
  have:=aRi h1 h2
  simp only [thS]
  omega
theorem aNz {t d:List Int} (T:Th t d):uN t d=some (thS t d t.length):=by
 have h100:=T.l100
 unfold uN
 rw [eB (r:=thS t d t.length) (λk=>(thS t d k,(k:Int))) t.length (by rfl) (λk hk=>?_) (λ_=>?_),Option.bind_some]
 ·have h1:=T.t k hk
  have h2:=T.d _ (dU 0 (show k<d.length by have:=T.l;omega))
  have h3:=aRi h1 h2
  have h4:=aHO T k (by omega)
  unfold tP
  simp only
  rw [lE hk,cond_true,mW 0 hk,Option.bind_some,mW 0 (show k<d.length by have:=T.l;omega),Option.bind_some,eH (x:=t[k]?.getD 0*d[k]?.getD 0) (by omega),eH (by omega),cH hk (by omega)]
  rfl
 ·unfold tP
  simp only
  rw [oG (Nat.le_refl _),cond_false]
theorem aOA {t d:List Int} (ht:bI t) (hd:bI d) (h:thV t d=true):uP t d=some (thS t d t.length):=by
 have T:=aMb h
 have h100:=T.l100
 unfold uP
 rw [eB (r:=thS t d t.length) (λk=>(thS t d k,(k:Int))) t.length (by rfl) (λk hk=>?_) (λ_=>?_),Option.bind_some]
 ·have h1:=T.t k hk
  have h2:=T.d _ (dU 0 (show k<d.length by have:=T.l;omega))
  have h3:=aRi h1 h2
  have h4:=aHO T k (by omega)
  unfold tU
  simp only
  rw [lE hk,cond_true,aCK ht hd,Option.bind_some,h,cond_true,mW 0 hk,Option.bind_some,mW 0 (show k<d.length by have:=T.l;omega),Option.bind_some,eH (x:=t[k]?.getD 0*d[k]?.getD 0) (by omega),eH (by omega),cH hk (by omega)]
  rfl
 ·unfold tU
  simp only
  rw [oG (Nat.le_refl _),cond_false]
theorem aBV {d:List Int} (h: ∀ x∈d,0≤x∧x≤100) (hl:d.length≤1048576):eN d=some d.sum∧iC d=some d.sum:=by
 have hs:=aIU h hl
 constructor
 ·unfold eN
  rw [eB (r:=d.sum) (λk=>((d.take k).sum,(k:Int))) d.length (by simp) (λk hk=>?_) (λ_=>?_)];rfl
  ·unfold nF
   simp only
   have:=hs k (by omega)
   have:=hs (k+1) (by omega)
   rw [zW hk] at this
   rw [lE hk,cond_true,mW 0 hk,Option.bind_some,eH (by omega),cH hk (by omega),zW hk]
  ·unfold nF
   simp only
   rw [oG (Nat.le_refl _),cond_false,List.take_length]
 ·unfold iC
  rw [eB (r:=d.sum) (λk=>((d.take k).sum,(k:Int))) d.length (by simp) (λk hk=>?_) (λ_=>?_)];rfl
  ·unfold vU
   simp only
   have:=hs k (by omega)
   have:=hs (k+1) (by omega)
   rw [zW hk] at this
   rw [lE hk,cond_true,mW 0 hk,Option.bind_some,eH (by omega),cH hk (by omega),zW hk]
  ·unfold vU
   simp only
   rw [oG (Nat.le_refl _),cond_false,List.take_length]
def sgn (x:Int):Int:=if x<0 then -1 else if 0<x then 1 else 0
def slV (t a b:List Int):Int:=sgn (thS t a t.length*b.sum - thS t b t.length*a.sum)
theorem aKy {x y:Int} (hx: -200000≤x∧x≤200000) (hy:0≤y∧y≤10000): -2000000000≤x*y∧x*y≤2000000000:=by
 have h1:=Int.mul_le_mul_of_nonneg_right hx.2 hy.1
 have h2:=Int.mul_le_mul_of_nonneg_right hx.1 hy.1
 omega
theorem Th.sum {t d:List Int} (T:Th t d):0≤d.sum∧d.sum≤10000:=by
 have:=aIU T.d (by have:=T.l;have:=T.l100;omega) d.length (Nat.le_refl _)
 have h1:=T.l
 have h2:=T.l100
 rw [List.take_length] at this
 omega
theorem aTs {t a b:List Int} (A:Th t a) (B:Th t b):nW t a b=some (slV t a b):=by
 have ha:=A.sum
 have hb:=B.sum
 have h100:=A.l100
 have hl1:=A.l
 have hl2:=B.l
 have h1:=aHO A t.length (Nat.le_refl _)
 have h2:=aHO B t.length (Nat.le_refl _)
 have h3:=aKy (x:=thS t a t.length) (y:=b.sum) (by omega) hb
 have h4:=aKy (x:=thS t b t.length) (y:=a.sum) (by omega) ha
 unfold nW
 rw [aNz A,Option.bind_some,(aBV B.d (by omega)).1,Option.bind_some,aNz B,Option.bind_some,(aBV A.d (by omega)).1,Option.bind_some,eH (by omega),eH (by omega)]
 unfold fT kU slV sgn
 simp only [decide_true,Bool.not_true,Option.bind_some,cond_false]
 by_cases e1:thS t a t.length*b.sum<thS t b t.length*a.sum
 ·rw [decide_eq_true e1,if_pos (by omega)];rfl
 ·rw [decide_eq_false e1,if_neg (by omega)]
  by_cases e2:thS t b t.length*a.sum<thS t a t.length*b.sum
  ·rw [decide_eq_true e2,if_pos (by omega)];rfl
  ·rw [decide_eq_false e2,if_neg (by omega)];rfl
theorem aTt {t a b:List Int} (ht:bI t) (ha':bI a) (hb':bI b) (hA:thV t a=true) (hB:thV t b=true):nY t a b=some (if a.sum=0 then 0 else if b.sum=0 then 0 else slV t a b):=by
 have A:=aMb hA
 have B:=aMb hB
 have ha:=A.sum
 have hb:=B.sum
 have h100:=A.l100
 have hl1:=A.l
 have hl2:=B.l
 have h1:=aHO A t.length (Nat.le_refl _)
 have h2:=aHO B t.length (Nat.le_refl _)
 have h3:=aKy (x:=thS t a t.length) (y:=b.sum) (by omega) hb
 have h4:=aKy (x:=thS t b t.length) (y:=a.sum) (by omega) ha
 unfold nY
 rw [aCK ht ha',Option.bind_some,hA]
 simp only [Bool.not_true,cond_false]
 rw [aCK ht hb',Option.bind_some,hB]
 simp only [Bool.not_true,cond_false]
 rw [(aBV A.d (by omega)).2,Option.bind_some]
 by_cases e1:a.sum=0
 ·rw [decide_eq_true e1,if_pos e1];rfl
 ·rw [decide_eq_false e1,if_neg e1,cond_false,(aBV B.d (by omega)).2,Option.bind_some]
  by_cases e2:b.sum=0
  ·rw [decide_eq_true e2,if_pos e2];rfl
  ·rw [decide_eq_false e2,if_neg e2,cond_false,aOA ht ha' hA,Option.bind_some,Option.bind_some,aOA ht hb' hB,Option.bind_some,Option.bind_some,eH (x:=thS t a t.length*b.sum) (by omega),eH (x:=thS t b t.length*a.sum) (by omega),eH (by omega)]
   unfold slV sgn
   by_cases e3:thS t a t.length*b.sum - thS t b t.length*a.sum<0
   ·rw [decide_eq_true e3,if_pos e3];rfl
   ·rw [decide_eq_false e3,if_neg e3]
    by_cases e4:0<thS t a t.length*b.sum - thS t b t.length*a.sum
    ·rw [decide_eq_true e4,if_pos e4];rfl
    ·rw [decide_eq_false e4,if_neg e4];rfl
end
noncomputable section
theorem aEQ (s:List Sc):(gA s).length=s.length:=by simp [gA]
theorem Part.th {r:Rp} {s:List Sc} (p:Part r s) {t:List Int} (h:thV t r.dims=true):thV t (gA s)=true:=by
 have T:=aMb h
 unfold thV at h ⊢
 simp only [Bool.and_eq_true,decide_eq_true_eq,List.all_eq_true] at h ⊢
 refine ⟨by rw [aEQ,p.len];exact h.1,h.2.1,h.2.2.1,λx hx=>?_⟩
 obtain ⟨v,hv,rfl⟩:=List.mem_iff_getElem.1 hx
 have hv2:v<r.dims.length:=by rw [aEQ,p.len] at hv;exact hv
 have h1:=p.dim v hv2
 have h2:=T.d _ (dU 0 hv2)
 rw [List.getElem?_eq_getElem hv,Option.getD_some] at h1
 exact aCP h1.1 (by omega)
theorem aBW {r:Rp} (h:eP r=true):aEE r=true:=by
 unfold eP at h
 simp only [Bool.and_eq_true] at h
 exact h.1
end
noncomputable section
theorem aVk {P:Program} {T:List (Nat×Ty)} (hT:TyOk P T) {f:FuncId} {fn:Func} {c:Code} {nt:Nat} {ds:List AV} {r:AV} {rvs:List ResultVar} {ns:List Nat} (hf:P.funcs[f]? =some fn) (hb:fn.body=some c) (hname:(fn.name== "runtime.NumGoroutine")=false) (hnt:fn.ntmps=nt) (hres:fn.results.toList=rvs)
  (hlen:Nat.ble ds.length nt=true) (hok:ds.all aSI=true) (h: ∀ W:World,sD W ds λxs=>AC P nt c ⟨aDx xs,eO [],qD 0,ns,⟨0,true,fxW W,false⟩⟩ (qA T rvs r)):HasC P f ds r:=by
 refine ⟨Enters.mk hf (by rw [hb];rfl) hname,λw args S hargs=>?_⟩
 refine (callsIn_wide (n:=0)).1 (callsIn_of_wp_marks (F:=fw none) hf hb trivial ?_)
 have hlen':=Nat.le_of_ble_eq_true hlen
 have hal:args.size=ds.length:=by have:=hargs.len;simpa using this
 obtain ⟨xs,hac,hxl,hxr⟩:=aIx hargs hok (h w)
 let C:Ctx:=⟨w.heap.size,w,nt,λx=>w.heap.size≤x,λ_ h=>h,⟨0,true,fxW w,false⟩,w,eO [],Nu.none,λx=>x<w.heap.size,λ_ x hx hm=>absurd hx (Nat.not_lt.2 hm),(λp h=>by cases h;exact ⟨rfl,λx hx=>⟨hx,hx⟩⟩),none,λ_=>rfl⟩
 have hfr: ∀ x,rO (eO []) Nu.none x:=λx b blk β c hb=>by cases hb
 have hsim:Sim C ⟨aDx xs,eO [],qD 0,ns,⟨0,true,fxW w,false⟩⟩ Nu.none ⟨args++Array.replicate (fn.ntmps - args.size) undef,[]⟩ w:=by
  refine ⟨Below.refl _ _,Nat.le_refl _,λ_ hx=>hx,sW,by show (args++Array.replicate (fn.ntmps - args.size) undef).size=nt;simp [hnt];omega,?_,⟨λ_=>[],λb blk hb=>(by cases hb),λb c x hb=>absurd rfl hb⟩,rfl,ExtF.refl λx _ _=>hfr x,Nat.le_refl _,λ_ _=>trivial,λ_ _ _ _=>trivial⟩
  intro t x hx
  have hx':xs[t]? =some x:=by rw [←aEy];exact hx
  obtain ⟨v,h1,h2⟩:=(hxr (eO []) (qD 0) Nu.none).get hx'
  refine ⟨v,?_,h2⟩
  have hlt:t<args.size:=by
   rcases Nat.lt_or_ge t args.size with h'|h'
   ·exact h'
   ·rw [List.getElem?_eq_none (by simpa using h')] at h1;cases h1
  show (args++Array.replicate (fn.ntmps - args.size) undef)[t]? =some v
  rw [Array.getElem?_append_left hlt]
  simpa using h1
 refine wpIn_mono (hac.out C rfl _ _ w hsim 0) λe a' w0 ⟨s',ν',hq,hs0⟩=>?_
 obtain ⟨Ds,d1,d2,d3⟩:=hs0.defers
 obtain ⟨w',hs',hleave⟩:=hs0.leave (P:=P) (n:=0) d1 d2 d3
 obtain ⟨he,avs,hv,hn,hfz⟩:=hq
 obtain ⟨us,h1,h2⟩:=yV hT hs' hv
 obtain ⟨φ,hh⟩:=hs'.heap
 have hn':=aAg hn
 have hrun:(results fn a'.tmps).run P w'= .ok (if hh:us.toArray.size=1 then us.toArray[0] else .tuple us.toArray) w':=by
  unfold results
  rw [Sem.run_bind,Array.mapM_eq_mapM_toList,Sem.run_map,hres]
  have h1':=h1
  generalize hq:(List.mapM _ rvs:Sem (List Value))=m
  rw [show Sem.run P m w'= .ok us w' by rw [←hq];exact h1']
  simp
 have hres2: ∃ S',aLP w' r (if hh:us.toArray.size=1 then us.toArray[0] else .tuple us.toArray) S'∧New w.heap.size S':=by
  have hul:us.length=avs.length:=h2.len
  unfold aLS at hfz
  split at hfz
  ·rename_i v r'
   obtain ⟨u,q,rfl,g1,g2⟩:=h2
   simp only [All2] at g2
   subst g2
   simp only [List.flatMap_cons,List.flatMap_nil,List.append_nil] at hn'
   obtain ⟨S',a1,a2,a3,a4⟩:=aHj hh g1 hfz.1 hn'
   refine ⟨S',?_,a2,a3⟩
   simp only [List.size_toArray,List.length_cons,List.length_nil,Nat.zero_add,dite_true]
   have hnt:=hfz.2
   cases r <;> first|exact a1|exact absurd rfl (hnt _)
  ·rename_i vs rs _
   obtain ⟨S',a1,a2,a3,a4⟩:=aFf hh h2 hfz.2 hn'
   refine ⟨S',?_,a2,a3⟩
   rw [dif_neg (by simp;rw [hul];exact hfz.1)]
   exact ⟨us,rfl,a1⟩
  ·exact hfz.elim
 obtain ⟨S',hr1,hr2⟩:=hres2
 have hend:=hleave fn (λe w'=> ∃ v S',e= .returned v∧Below w.heap.size w w'∧aLP w' r v S'∧New w.heap.size S') ⟨_,hrun,_,S',rfl,hs'.below,hr1,hr2⟩
 cases e <;> simp only [aEb,Bool.false_eq_true] at he <;> exact hend
theorem aSg {w:World} {h:Hp} {u:Us} {ν:Nu} {a:Act} : ∀ {ts:List Nat} {ds:List AV},ts.length=ds.length→ts.Nodup→(∀ t x,pZ (List.zip ts ds) t=some x→ ∃ v,a.tmps[t]? =some v∧RepA w h u ν x v)→
  ∃ vs,All2 (RepA w h u ν) ds vs∧All2 (λt v=>a.tmps[t]? =some v) ts vs
 | [],[],_,_,_=>⟨[],rfl,rfl⟩
 | [],d::ds,hl,_,_=>by simp at hl
 |k::ts,[],hl,_,_=>by simp at hl
 |k::ts,d::ds,hl,hn,h0=>by
  obtain ⟨n1,n2⟩:=List.nodup_cons.1 hn
  obtain ⟨v,h1,h2⟩:=h0 k d (by simp only [List.zip_cons_cons,pZ,bT,cond_true])
  obtain ⟨vs,h3,h4⟩:=aSg (w:=w) (h:=h) (u:=u) (ν:=ν) (a:=a) (ts:=ts) (ds:=ds) (by simpa using hl) n2 λt x hx=>by
   have hne:t≠k:=by
    rintro rfl
    have:=aEq hx
    exact n1 (List.of_mem_zip this).1
   refine h0 t x ?_
   simp only [List.zip_cons_cons,pZ,bV hne,cond_false]
   exact hx
  exact ⟨v::vs,⟨v,vs,rfl,h2,h3⟩,⟨v,vs,rfl,h1,h4⟩⟩
theorem aSh {R:AV→Value→Prop} {a:Act} : ∀ {ts:List Nat} {xs:List AV} {vs:List Value},All2 R xs vs→All2 (λt v=>a.tmps[t]? =some v) ts vs→ ∀ t x,pZ (List.zip ts xs) t=some x→ ∃ v,a.tmps[t]? =some v∧R x v
 | [],xs,vs,_,_,t,x,h=>by cases h
 |k::ts,[],vs,_,_,t,x,h=>by cases h
 |k::ts,y::xs,vs,h1,h2,t,x,h=>by
  simp only [All2] at h1 h2
  obtain ⟨v,r,rfl,g1,g2⟩:=h1
  obtain ⟨v',r',e,g3,g4⟩:=h2
  cases e
  simp only [List.zip_cons_cons,pZ] at h
  by_cases e:t=k
  ·subst e;rw [bT] at h;simp only [cond_true,Option.some.injEq] at h;subst h;exact ⟨v,g3,g1⟩
  ·rw [bV e] at h;exact aSh g2 g4 t x h
def aHP:AV→Bool
 | .sc _=>true
 | .agg cs=>cs.all jW
 | .list _ _=>true
 | .ref _=>true
 |_=>false
theorem aTu {w:World} {d:AV} {v:Value} {S:List Nat} (r:RepD w d v S) (ok: ∃ cs,d= .ref cs):v.oneCell'=true:=by
 obtain ⟨cs,rfl⟩:=ok
 simp only [RepD] at r
 obtain ⟨b,o,T,rfl,_⟩:=r
 rfl
theorem aMc {w:World} : ∀ {ds:List AV} {vs:List Value} {S:List Nat} {K:List AV→Prop},RepVs w ds vs S→ds.all aHP=true→sD w ds K→ ∃ xs,K xs∧xs.length=ds.length∧ ∀ (h:Hp) (u:Us) (ν:Nu),All2 (RepA w h u ν) xs vs
 | [],vs,S,K,r,_,k=>by simp only [RepVs] at r;obtain ⟨rfl,_⟩:=r;exact ⟨[],k,rfl,λ_ _ _=>rfl⟩
 |d::ds,vs,S,K,r,ok,k=>by
  simp only [RepVs] at r
  obtain ⟨v,q,S1,S2,rfl,rfl,h3,h4⟩:=r
  simp only [List.all_cons,Bool.and_eq_true] at ok
  have key: ∀ x,sD w ds (λxs=>K (x::xs))→(∀ (h:Hp) (u:Us) (ν:Nu),RepA w h u ν x v)→ ∃ xs,K xs∧xs.length=(d::ds).length∧ ∀ (h:Hp) (u:Us) (ν:Nu),All2 (RepA w h u ν) xs (v::q):=by
   intro x k1 hx
   obtain ⟨xs,g1,g2,g3⟩:=aMc h4 ok.2 k1
   exact ⟨x::xs,g1,by simp [g2],λh u ν=>⟨v,q,rfl,hx h u ν,g3 h u ν⟩⟩
  cases d <;> simp only [aHP,Bool.false_eq_true,false_and] at ok
  ·simp only [RepD] at h3
   exact key _ k λh u ν=>by simp only [RepA,RepB,Rep1];exact ⟨h3.1,h3.2.1⟩
  ·exact key _ (k v S1 h3) λh u ν=>(show Rep1 w h u ν (.sc v) v from ⟨rfl,aLr h3 rfl⟩)
  ·exact key _ (k v S1 h3) λh u ν=>(show Rep1 w h u ν (.sc v) v from ⟨rfl,aTu h3 ⟨_,rfl⟩⟩)
  ·have h3':=h3
   simp only [RepD] at h3'
   obtain ⟨us,rfl,h5⟩:=h3'
   obtain ⟨xs,g1,g2⟩:=aOX h5 ok.1 k
   exact key _ g1 λh u ν=>by simp only [RepA,RepB];exact ⟨us,rfl,g2 w h u ν⟩
theorem aYC {w:World} {h:Hp} {u:Us} {ν:Nu} {d:AV} {v:Value} (r:RepA w h u ν d v) (ok:aHP d=true): ∃ S,RepD w d v S:=by
 cases d <;> simp only [aHP,Bool.false_eq_true] at ok <;> simp only [RepA,RepB,Rep1] at r
 ·exact ⟨[],by simp only [RepD];exact ⟨r.1,r.2,trivial⟩⟩
 ·obtain ⟨S,r,_⟩:=r;exact ⟨S,r⟩
 ·obtain ⟨S,r,_⟩:=r;exact ⟨S,r⟩
 ·obtain ⟨vs,rfl,r⟩:=r
  rename_i cs
  have key: ∀ {cs:List AV} {vs:List Value},All2 (Rep1 w h u ν) cs vs→cs.all jW=true→ ∃ S,RepVs w cs vs S:=by
   intro cs
   induction cs with
   |nil=>intro vs r _;simp only [All2] at r;subst r;exact ⟨[],by simp [RepVs]⟩
   |cons c cs ih=>
    intro vs r ok
    obtain ⟨v,q,rfl,r1,r2⟩:=r
    simp only [List.all_cons,Bool.and_eq_true] at ok
    obtain ⟨S2,h2⟩:=ih r2 ok.2
    have: ∃ S1,RepD w c v S1:=by
     have ok1:=ok.1
     cases c <;> simp only [jW,Bool.false_eq_true] at ok1 <;> simp only [Rep1] at r1
     ·exact ⟨[],by simp only [RepD];exact ⟨r1.1,r1.2,trivial⟩⟩
     ·obtain ⟨S,r,_⟩:=r1;exact ⟨S,r⟩
    obtain ⟨S1,h1⟩:=this
    exact ⟨S1++S2,by simp only [RepVs];exact ⟨v,q,S1,S2,rfl,rfl,h1,h2⟩⟩
  obtain ⟨S,hS⟩:=key r ok
  exact ⟨S,by simp only [RepD];exact ⟨vs,rfl,hS⟩⟩
theorem aSi {w:World} {h:Hp} {u:Us} {ν:Nu} : ∀ {ds:List AV} {vs:List Value},All2 (RepA w h u ν) ds vs→ds.all aHP=true→ ∃ S,RepVs w ds vs S
 | [],vs,r,_=>by simp only [All2] at r;subst r;exact ⟨[],by simp [RepVs]⟩
 |d::ds,vs,r,ok=>by
  obtain ⟨v,q,rfl,r1,r2⟩:=r
  simp only [List.all_cons,Bool.and_eq_true] at ok
  obtain ⟨S1,h1⟩:=aYC r1 ok.1
  obtain ⟨S2,h2⟩:=aSi r2 ok.2
  exact ⟨S1++S2,by simp only [RepVs];exact ⟨v,q,S1,S2,rfl,rfl,h1,h2⟩⟩
end
noncomputable section
set_option maxRecDepth 10000
set_option maxHeartbeats 4000000
end
noncomputable section
def aWz (k:Nat) (Φ:Value→Prop) (e:Exit) (s:AState):Prop:=aEb e=true∧ ∃ u,s.env k=some (.sc u)∧Φ u
theorem aQe: ∀ {cs:List AV},(∀ c∈cs,eC c=true∧ ∀ ds,c≠ .ref ds)→All2 aEr (cs.map vV) cs
 | [],_=>rfl
 |c::cs,h=>by
  refine ⟨c,cs,rfl,?_,aQe λc hc=>h c (by simp [hc])⟩
  obtain ⟨h1,h2⟩:=h c (by simp)
  cases c <;> simp only [eC,Bool.false_eq_true] at h1
  ·rfl
  ·exact ⟨rfl,rfl⟩
  ·exact absurd rfl (h2 _)
theorem aHQ: ∀ {es:List (List AV)},aIj es→All2 (All2 aEr) (cU es) es
 | [],_=>rfl
 |cs::es,h=>⟨cs,es,rfl,aQe (h cs (by simp)),aHQ λcs hcs=>h cs (by simp [hcs])⟩
theorem aZB {w:World} {k:Nat} {es:List (List AV)} {v:Value} {S:List Nat} :aBs w (.list k es) v S↔RepO w (.list k es) v S:=by simp only [aBs,RepO,aCL]
theorem aVl {T:List (Nat×Ty)} {nt:Nat} {W:World} {tL kk:Nat} {es es':List (List AV)} {ts:List Nat} {ds:List AV} {n:Nat} {ns:List Nat} {k k2 m:Nat} {res:List (List AV)} {K:World→Value→List Nat→List AV→Prop}
  (hm:es.length=m) (hl:ts.length=ds.length) (hn:rZ (tL::ts)=true) (ok:ds.all aHP=true) (hz:All2 (All2 aEr) es es') (hg:aIj res)
  (h: ∀ (W2:World) (lv:Value) (S:List Nat),(∀ b,b<W.heap.size→W2.heap[b]? =W.heap[b]?)→RepO W2 (.list kk es') lv S→S.Nodup→sD W2 ds (K W2 lv S))
  {C:Ctx} (hC:C.nt=nt) {ν:Nu} {a:Act} {w:World} (hs:Sim C (mkS ((tL,.own 0 0 m)::List.zip ts ds) [(0,⟨kk,es⟩)] n ns ⟨0,true,fxW W,false⟩) ν a w):
  ∃ lv S xs C' ν2,K w lv S xs∧C'.nt=nt∧C'.rd=C.rd∧Sim C' ⟨pZ ((tL,.sc lv)::List.zip ts xs),eO [],qD n,ns,⟨0,true,fxW w,false⟩⟩ ν2 a w∧
   ∀ e a' w' s' ν',aWz k (λu=> ∃ S',RepO w (.list k2 res) u S'∧(∀ x∈S',x∈S)∧S'.Nodup) e s'→Sim C' s' ν' a' w'→ ∃ s'' ν'',qA T [.tmp k] (.list k2 res) e s''∧Sim C s'' ν'' a' w':=by
 subst hm
 have hkp:C.kp=⟨0,true,fxW W,false⟩:=hs.kp.symm
 obtain ⟨hW,hF⟩:=C.fxp (W,λx=>x<W.heap.size) (by rw [hkp];rfl)
 have hold: ∀ b,b<W.heap.size→w.heap[b]? =W.heap[b]? :=λb hb=>by
  obtain ⟨g1,g2⟩:=hF b hb
  have:=(hs.ext.free b g1 g2).1
  rwa [hW] at this
 obtain ⟨hn1,hn2⟩:=List.nodup_cons.1 (aAg hn)
 obtain ⟨φ,hh⟩:=hs.heap
 obtain ⟨lv,l1,l2⟩:=hs.env tL (.own 0 0 es.length) (by show pZ _ _=_;simp only [pZ,bT,cond_true])
 obtain ⟨S,r1,r2,r3,r4⟩:=aLT hh (x:= .own 0 0 es.length) (d:= .list kk es') l2 ⟨rfl,⟨kk,es⟩,rfl,rfl,rfl,hz⟩
 have r1':RepO w (.list kk es') lv S:=aZB.1 r1
 have hone:lv.oneCell'=true:=by
  simp only [RepO] at r1'
  rcases r1' with ⟨_,rfl,_⟩|⟨β,c,arr,ty,T,vs,rfl,_⟩ <;> rfl
 have henv: ∀ t x,pZ (List.zip ts ds) t=some x→ ∃ v,a.tmps[t]? =some v∧RepA w (eO [(0,⟨kk,es⟩)]) (qD n) ν x v:=λt x hx=>by
  have hne:t≠tL:=by
   rintro rfl
   exact hn1 (List.of_mem_zip (aEq hx)).1
  refine hs.env t x ?_
  show pZ _ _=_
  simp only [pZ,bV hne,cond_false]
  exact hx
 obtain ⟨vs,e1,e2⟩:=aSg hl hn2 henv
 obtain ⟨SV,hSV⟩:=aSi e1 ok
 obtain ⟨xs,hK,hxl,hxr⟩:=aMc hSV ok (h w lv S hold r1' r2)
 have hdef:a.defers=[]:=by
  obtain ⟨Ds,d1,d2,_⟩:=hs.defers
  rw [d1,d2.2 (by rw [hkp])]
  rfl
 let C':Ctx:=⟨w.heap.size,w,nt,λx=>w.heap.size≤x,λ_ h=>h,⟨0,true,fxW w,false⟩,w,eO [],⟨λ_=>none,λ_=>True⟩,λx=>x<w.heap.size,λ_ x hx hm=>absurd hx (Nat.not_lt.2 hm),(λp h=>by cases h;exact ⟨rfl,λx hx=>⟨hx,hx⟩⟩),C.rd,λh=>by cases h⟩
 have hfr: ∀ (ν:Nu) x,rO (eO []) ν x:=λν x b blk β c hb=>by cases hb
 have hsim:Sim C' ⟨pZ ((tL,.sc lv)::List.zip ts xs),eO [],qD n,ns,⟨0,true,fxW w,false⟩⟩ ⟨λ_=>none,λ_=>True⟩ a w:=by
  refine ⟨Below.refl _ _,Nat.le_refl _,λ_ hx=>hx,?_,hs.size.trans hC,?_,⟨λ_=>[],λb blk hb=>(by cases hb),λb c x hb=>absurd rfl hb⟩,rfl,⟨λb hb=>absurd hb (by simp [C']),λb blk' hb=>absurd hb (by simp [C']),λx _ _=>⟨rfl,hfr _ x⟩,rfl⟩,Nat.le_refl _,λ_ _=>trivial,λ_ _ _ _=>trivial⟩
  ·rw [hdef];exact sW
  ·intro t x hx
   have hx':pZ ((tL,.sc lv)::List.zip ts xs) t=some x:=hx
   simp only [pZ] at hx'
   by_cases e:t=tL
   ·subst e
    rw [bT] at hx'
    simp only [cond_true,Option.some.injEq] at hx'
    subst hx'
    exact ⟨lv,l1,(show Rep1 w (eO []) (qD n) ⟨λ_=>none,λ_=>True⟩ (.sc lv) lv from ⟨rfl,hone⟩)⟩
   ·rw [bV e] at hx'
    exact aSh (hxr (eO []) (qD n) ⟨λ_=>none,λ_=>True⟩) e2 t x hx'
 refine ⟨lv,S,xs,C',_,hK,rfl,rfl,hsim,λe a' w' s' ν' hq hs'=>?_⟩
 obtain ⟨he,u,hu,S',ro,hsub,hnd⟩:=hq
 obtain ⟨v,g1,g2⟩:=hs'.env k _ hu
 have hvu:v=u:=by simp only [RepA,RepB,Rep1] at g2;exact g2.1
 subst hvu
 have hstill: ∀ y,y<w.heap.size→w'.heap[y]? =w.heap[y]? :=λy hy=>(hs'.ext.free y hy hy).1
 have ro':RepO w' (.list k2 res) v S':=ro.keep λb hb=>hstill b (ro.lt b hb)
 obtain ⟨_,X,Sf,nb,iv⟩:=aKm (w:=w) (w':=w') (ns:=[0]) (x:= .list k2 res) rfl rfl (aZB.2 ro') hg hnd
 have hdef':a'.defers=[]:=by
  obtain ⟨Ds,d1,d2,_⟩:=hs'.defers
  rw [d1,d2.2 rfl]
  rfl
 have hm0:(0,(⟨k2,cU res⟩:Blk))∈[(0,(⟨k2,cU res⟩:Blk))]:=by simp
 have hp0: ∀ {b:Nat} {blk:Blk},eO [(0,(⟨k2,cU res⟩:Blk))] b=some blk→b=0∧blk=⟨k2,cU res⟩:=λ{b blk} hb=>by
  have:=kG hb
  simpa using this
 have hle:(cU res).length=res.length:=by simp [cU]
 have hM: ∀ x∈Sf 0,C.M x:=λx hx=>r3 x (hsub x (nb.sub 0 _ hm0 x hx))
 refine ⟨⟨pZ [(k,.own 0 0 res.length)],eO [(0,⟨k2,cU res⟩)],qD 1,[],C.kp⟩,⟨X,ν.ok⟩,⟨he,[.own 0 0 res.length],?_,rfl,⟨⟨rfl,⟨k2,cU res⟩,rfl,hle,rfl,aHQ hg⟩,λcs h=>by cases h⟩⟩,?_⟩
 ·simp [aAz,aOL,pZ]
 ·have hb':Below C.B C.w0 w':=hs.below.trans (hs'.below.mono hs.base)
  refine ⟨hb',Nat.le_trans hs.base hs'.szE,λy hy=>hs.fresh y (Nat.le_trans hs'.szE hy),by rw [hdef'];exact sW,hs'.size.trans hC.symm,?_,⟨Sf,λb blk hb=>?_,λb c x hb hc hne=>?_⟩,rfl,⟨λb hb=>?_,λb blk' hb=>?_,λy hy hF=>⟨?_,λb blk β c hb hβ hβy=>?_⟩,hs.ext.okE⟩,Nat.le_trans hs.szE hs'.szE,hs.okM,hs.okF⟩
  ·intro t y hy
   have hy':pZ [(k,.own 0 0 res.length)] t=some y:=hy
   simp only [pZ] at hy'
   by_cases e:t=k
   ·subst e
    rw [bT] at hy'
    simp only [cond_true,Option.some.injEq] at hy'
    subst hy'
    refine ⟨v,g1,(show Rep1 w' (eO [(0,⟨k2,cU res⟩)]) (qD 1) ⟨X,ν.ok⟩ (.own 0 0 res.length) v from ⟨rfl,λblk hb=>?_⟩)⟩
    obtain ⟨_,rfl⟩:=hp0 hb
    obtain ⟨_,blk',hb',i2,i3,i4⟩:=iv
    refine ⟨by rw [hle];omega,i3,λβ c hX=>⟨0,?_,.inl (by simp)⟩⟩
    rw [i4 β c hX]
    rfl
   ·rw [bV e] at hy';cases hy'
  ·obtain ⟨rfl,rfl⟩:=hp0 hb
   exact ⟨rfl,nb.ok 0 _ hm0 _ _ _ rfl,nb.nd 0 _ hm0,hM⟩
  ·have h1:b=0:=by
    cases hb1:eO [(0,(⟨k2,cU res⟩:Blk))] b with
    |none=>exact absurd hb1 hb
    |some blk=>exact (hp0 hb1).1
   have h2:c=0:=by
    cases hb1:eO [(0,(⟨k2,cU res⟩:Blk))] c with
    |none=>exact absurd hb1 hc
    |some blk=>exact (hp0 hb1).1
   exact absurd (h1.trans h2.symm) hne
  ·rw [hkp] at hb;simp at hb
  ·rw [hkp] at hb;simp at hb
  ·have q1:=(hs.ext.free y hy hF).1
   exact (hstill y (Nat.lt_of_lt_of_le hy hs.szE)).trans q1
  ·obtain ⟨rfl,rfl⟩:=hp0 hb
   subst hβy
   exact C.tm (by rw [hkp]) _ hy (hM _ (nb.inS 0 _ hm0 _ _ hβ)) hF
theorem aRj {P:Program} {T:List (Nat×Ty)} {nt:Nat} {x y d:Code} {s:AState} {W:World} {tL kk:Nat} {es es':List (List AV)} {ts:List Nat} {ds:List AV} {n:Nat} {ns:List Nat} {k k2 m:Nat} {res:List (List AV)}
  (hx:AC P nt x s (aAY (λs1=>Ent s1 (mkS ((tL,.own 0 0 m)::List.zip ts ds) [(0,⟨kk,es⟩)] n ns ⟨0,true,fxW W,false⟩)) λ_ _=>False))
  (hm:es.length=m) (hl:ts.length=ds.length) (hn:rZ (tL::ts)=true) (ok:ds.all aHP=true) (hz:All2 (All2 aEr) es es') (hg:aIj res)
  (h: ∀ (W2:World) (lv:Value) (S:List Nat),(∀ b,b<W.heap.size→W2.heap[b]? =W.heap[b]?)→RepO W2 (.list kk es') lv S→S.Nodup→sD W2 ds λxs=>
   AC P nt y ⟨pZ ((tL,.sc lv)::List.zip ts xs),eO [],qD n,ns,⟨0,true,fxW W2,false⟩⟩ (aAY (λs'=>AC P nt d s' (aWz k λu=> ∃ S',RepO W2 (.list k2 res) u S'∧(∀ x∈S',x∈S)∧S'.Nodup)) (aWz k λu=> ∃ S',RepO W2 (.list k2 res) u S'∧(∀ x∈S',x∈S)∧S'.Nodup))):
  AC P nt (.seq (.seq x y) d) s (qA T [.tmp k] (.list k2 res)):=by
 refine ⟨λC hC ν a w hs n0=>wpIn_seq (wpIn_seq (wpIn_mono (hx.out C hC ν a w hs n0) λe a1 w1 ⟨s1,ν1,hq,hs1⟩=>?_))⟩
 cases e <;> simp only [aAY,Exit.then] at hq ⊢
 obtain ⟨ν2,hs2⟩:=hq C ν1 a1 w1 hs1
 obtain ⟨lv,S,xs,C',ν3,hK,hC',hrd,hs3,back⟩:=aVl (T:=T) (k:=k) (k2:=k2) (res:=res) hm hl hn ok hz hg h hC hs2
 rw [←hrd]
 refine wpIn_mono (hK.out C' hC' ν3 a1 w1 hs3 n0) λe a2 w2 ⟨s2,ν4,hq2,hs4⟩=>?_
 cases e <;> simp only [aAY,Exit.then] at hq2 ⊢
 ·refine wpIn_mono (hq2.out C' hC' ν4 a2 w2 hs4 n0) λe a3 w3 ⟨s5,ν5,hq5,hs5⟩=>back e a3 w3 s5 ν5 hq5 hs5
 all_goals exact back _ _ _ _ _ hq2 hs4
end
noncomputable section
def aCi (W:World) (lv:Value) (i:Int):Value:=if i<0 then .slice none 0 0 else match aKF lv 1 i.toNat with
 | .pointer (some a)=>(W.cell? a).getD (.slice none 0 0)
 |_=> .slice none 0 0
def aVm {α:Type} (l:List (List α)) (i:Int):Option (List α):=bif decide (i<0) then some [] else cI l i
def aTv {α:Type} (l:List (List α)) (i:Int):Option Bool:=bif decide (i<0) then some true else Option.bind (cI l i) λv=>bif decide (0<v.length) then some false else none
theorem aSj {α:Type} {w:World} {k m:Nat} {enc:α→List AV} : ∀ {l:List (List α)} {i:Nat} {s:List α} {vs:List Value} {T:List Nat},RepOE w (l.map λs=>[AV.list k (s.map enc)]) vs T→l[i]? =some s→ ∃ v S,vs[i]? =some v∧v.oneCell'=true∧RepO w (.list k (s.map enc)) v S∧S.Sublist T
 | [],i,s,vs,T,r,h=>by simp at h
 |x::l,0,s,vs,T,r,h=>by
  simp only [List.getElem?_cons_zero,Option.some.injEq] at h
  subst h
  simp only [List.map_cons,RepOE,RepOV] at r
  obtain ⟨v1,v2,S1,S2,rfl,rfl,⟨v,q,T1,T2,rfl,rfl,h3,h4,rfl,rfl⟩,h6⟩:=r
  exact ⟨v,T1,rfl,h3,h4,by rw [List.append_nil];exact List.sublist_append_left _ _⟩
 |x::l,i+1,s,vs,T,r,h=>by
  simp only [List.map_cons,RepOE,RepOV] at r
  obtain ⟨v1,v2,S1,S2,rfl,rfl,⟨v,q,T1,T2,rfl,rfl,h3,h4,rfl,rfl⟩,h6⟩:=r
  obtain ⟨v',S,g1,g2,g3,g4⟩:=aSj (m:=m) (i:=i) h6 (by simpa using h)
  exact ⟨v',S,by simpa using g1,g2,g3,g4.trans (List.sublist_append_right _ _)⟩
section
variable {α:Type} {W:World} {k:Nat} {enc:α→List AV} {l:List (List α)} {lv:Value} {S:List Nat} {i:Int} {s:List α}
theorem aKz (r:RepO W (.list 1 (l.map λs=>[AV.list k (s.map enc)])) lv S) (h:cI l i=some s):
  ∃ a,aKF lv 1 i.toNat= .pointer (some ⟨a,i.toNat,none⟩)∧W.cell? ⟨a,i.toNat,none⟩=some (aCi W lv i)∧W.frozen? ⟨a,i.toNat,none⟩=false∧a<W.heap.size∧(aCi W lv i).oneCell'=true∧ ∃ S',RepO W (.list k (s.map enc)) (aCi W lv i) S'∧S'.Sublist S:=by
 have h0:=cO h
 have hlt:=cB h
 have hg:l[i.toNat]? =some s:=by
  have:=bZ h
  exact this
 simp only [RepO] at r
 rcases r with ⟨h6,_,_⟩|⟨β,c,arr,ty,T,vs,rfl,h2,h3,h4,h5,h6,rfl,h8,h9⟩
 ·have:l=[]:=by simpa using h6
  rw [this] at hg;simp at hg
 ·obtain ⟨v,S',g1,g2,g3,g4⟩:=aSj (m:=0) h9 hg
  have hb:β<W.heap.size:=by
   rcases Nat.lt_or_ge β W.heap.size with h'|h'
   ·exact h'
   ·rw [Array.getElem?_eq_none h'] at h2;cases h2
  have e1:aKF (.slice (some ⟨β,0,none⟩) (l.map λs=>[AV.list k (s.map enc)]).length c) 1 i.toNat= .pointer (some ⟨β,i.toNat,none⟩):=by
   simp [aKF]
  have e2:W.cell? ⟨β,i.toNat,none⟩=some v:=by
   simp only [World.cell?,h2]
   rw [←h8] at g1
   have hj:i.toNat<(l.map λs=>[AV.list k (s.map enc)]).length *1:=by
    rcases Nat.lt_or_ge i.toNat ((l.map λs=>[AV.list k (s.map enc)]).length *1) with h'|h'
    ·exact h'
    ·rw [List.getElem?_eq_none (by simp at h' ⊢;omega)] at g1;cases g1
   rw [List.getElem?_take_of_lt hj] at g1
   simpa using g1
  have e3:aCi W (.slice (some ⟨β,0,none⟩) (l.map λs=>[AV.list k (s.map enc)]).length c) i=v:=by
   unfold aCi
   rw [if_neg (by omega),e1]
   simp only [e2,Option.getD_some]
  exact ⟨β,e1,by rw [e3];exact e2,by simp [World.frozen?,h2],hb,by rw [e3];exact g2,S',by rw [e3];exact g3,List.Sublist.cons _ g4⟩
theorem aSk (r:RepO W (.list 1 (l.map λs=>[AV.list k (s.map enc)])) lv S) (h:cI l i=some s): ∃ S',RepD W (.list k (s.map enc)) (aCi W lv i) S':=by
 obtain ⟨_,_,_,_,_,_,S',r',_⟩:=aKz r h
 exact ⟨S',r'.repD⟩
theorem aXA {s:List α} (r:RepO W (.list 1 (l.map λs=>[AV.list k (s.map enc)])) lv S) (hn:S.Nodup) (h:aVm l i=some s): ∃ S',RepO W (.list k (s.map enc)) (aCi W lv i) S'∧(∀ x∈S',x∈S)∧S'.Nodup:=by
 unfold aVm at h
 by_cases h0:i<0
 ·rw [decide_eq_true h0] at h
  cases h
  refine ⟨[],?_,by simp,by simp⟩
  unfold aCi
  rw [if_pos h0]
  unfold RepO
  exact .inl ⟨rfl,rfl,rfl⟩
 ·rw [decide_eq_false h0] at h
  obtain ⟨_,_,_,_,_,_,S',r',h2⟩:=aKz r h
  exact ⟨S',r',λx hx=>h2.subset hx,h2.nodup hn⟩
theorem aXB {b:Bool} (r:RepO W (.list 1 (l.map λs=>[AV.list k (s.map enc)])) lv S) (h:aTv l i=some b):(b=true→aCi W lv i= .slice none 0 0)∧(b=false→ ∃ a n c,aCi W lv i= .slice (some a) n c):=by
 unfold aTv at h
 by_cases h0:i<0
 ·rw [decide_eq_true h0] at h
  cases h
  refine ⟨λ_=>(by unfold aCi;rw [if_pos h0]),λh=>(by cases h)⟩
 ·rw [decide_eq_false h0,cond_false] at h
  obtain ⟨v,h1,h2⟩:=ob h
  by_cases h3:0<v.length
  ·rw [decide_eq_true h3] at h2
   cases h2
   refine ⟨λh=>(by cases h),λ_=>?_⟩
   obtain ⟨_,_,_,_,_,_,S',r',_⟩:=aKz r h1
   simp only [RepO] at r'
   rcases r' with ⟨h6,_,_⟩|⟨β,c,arr,ty,T,vs,h7,_⟩
   ·have:v=[]:=by simpa using h6
    rw [this] at h3;simp at h3
   ·exact ⟨_,_,_,h7⟩
  ·rw [decide_eq_false h3] at h2;cases h2
end
section
variable {P:Program} {T:List (Nat×Ty)} (hT:TyOk P T) {dst:Option Tmp} {ty:TypeId} {pos:String} {aft:Array Edge} {g:Option (Nat×Bool)} {s:AState} {α:Type} {k:Nat} {enc:α→List AV}
include hT
theorem aRk {x:Operand} {t:Nat} {y:Ty} {l:List (List α)} {i:Int} {u:List α} {W:World} {lv:Value} {S:List Nat} (r:RepO W (.list 1 (l.map λs=>[AV.list k (s.map enc)])) lv S) (hm:cI l i=some u) (hfx:s.kp.fx=fxW W) (hx:s.ev x=some (.sc (aKF lv 1 i.toNat))) (hy:dR T t=some y) (h1:(y.desc.isAgg||Nat.beq y.size 1)=true) (hn:Nat.ble y.size 1=true) (hpl:(([AV.sc (aCi W lv i)]).take y.size).all eC=true) (hv:aDS y.desc.isAgg (([AV.sc (aCi W lv i)]).take y.size)= .sc (aCi W lv i)):
  AEff P ⟨dst,.load t x,ty,pos,aft,g⟩ s.ev s.heap s.kp ⟨.sc (aCi W lv i),[],[],[]⟩:=by
 obtain ⟨a,e1,e2,e3,e4,e5,_⟩:=aKz r hm
 have hr:RepD W (.ref [.sc (aCi W lv i)]) (aKF lv 1 i.toNat) (a::[]):=by
  simp only [RepD,RepCs]
  exact ⟨a,i.toNat,[],e1,e4,rfl,_,[],[],e2,e3,e5,rfl,⟨rfl,e5,rfl⟩,rfl⟩
 exact hv▸aIE hT hfx hr hr.lt hx hy h1 (Nat.le_of_ble_eq_true hn) hpl
end
section
variable {P:Program} {dst:Option Tmp} {ty:TypeId} {pos:String} {aft:Array Edge} {g:Option (Nat×Bool)} {s:AState} {α:Type} {k:Nat} {enc:α→List AV}
theorem aOB {t et:TypeId} (hu:P.underlying t=some (.slice et)) (ad:Option Addr) (n c:Nat) (w:World):(Op.equal t (.slice ad n c) (.slice none 0 0)).run P w= .ok ad.isNone w:=by
 have key: ∀ d,(Op.equalIn (d+1) t (.slice ad n c) (.slice none 0 0)).run P w= .ok ad.isNone w:=λd=>by cases ad <;> simp [Op.equalIn,jO hu]
 exact key 9999
theorem aTw {x:Operand} {ta tb et:TypeId} {l:List (List α)} {i:Int} {b:Bool} {W:World} {lv:Value} {S:List Nat} (r:RepO W (.list 1 (l.map λs=>[AV.list k (s.map enc)])) lv S) (hm:aTv l i=some b) (hu:P.underlying ta=some (.slice et)) (hx:s.ev x=some (.sc (aCi W lv i))):
  AEff P ⟨dst,.binOp .eql ta x (.const (.slice none 0 0)) tb,ty,pos,aft,g⟩ s.ev s.heap s.kp ⟨.bl b,[],[],[]⟩:=by
 refine AEff.pure λC s ν a w hi ht hs=>?_
 have h1:=hs.ev ((hi x (by simp [Op.operands])).trans hx)
 simp only [RepA,RepB,Rep1] at h1
 obtain ⟨n1,n2⟩:=aXB r hm
 refine ⟨.bool b,?_,wJ rfl⟩
 have h2:a.eval (.const (.slice none 0 0))= .slice none 0 0:=rfl
 cases b with
 |true=>rw [n1 rfl] at h1;simp [execOp,h1.1,h2,eqGuard,binOp,aOB hu]
 |false=>obtain ⟨ad,n,c,e⟩:=n2 rfl;rw [e] at h1;simp [execOp,h1.1,h2,eqGuard,binOp,aOB hu]
end
theorem aRl {tl:List (Nat×AV)} {hl:List (Nat×Blk)} {n k t:Nat} {ns:List Nat} {kp:Kp} (h:pZ tl t=some (.nil k)):Ent (mkS tl hl n ns kp) (mkS ((t,.sc (.slice none 0 0))::tl) hl n ns kp):=by
 refine λC ν a w hs=>⟨ν,hs.below,hs.base,hs.fresh,hs.defers,hs.size,λt' x hx=>?_,hs.heap,hs.kp,hs.ext,hs.szE,hs.okM,hs.okF⟩
 have hx':pZ ((t,.sc (.slice none 0 0))::tl) t'=some x:=hx
 simp only [pZ] at hx'
 by_cases e:t'=t
 ·subst e
  rw [bT] at hx'
  simp only [cond_true,Option.some.injEq] at hx'
  subst hx'
  obtain ⟨v,g1,g2⟩:=hs.env t' (.nil k) h
  refine ⟨v,g1,?_⟩
  simp only [RepA,RepB,Rep1] at g2 ⊢
  exact ⟨g2,rfl⟩
 ·rw [bV e] at hx'
  exact hs.env t' x hx'
theorem aZC {α:Type} {e:α→List AV} {l:List α} (g:aIj (l.map e)):All2 (All2 aEr) (l.map (ow e)) (l.map e):=by rw [←jP];exact aHQ g
theorem aVn {α:Type} {k:Nat} {enc:α→List AV} {l:List (List α)} {q:Nat} {i:Int} {u:List α} {W:World} {lv:Value} {S:List Nat} {e:Exit} {s:AState} (r:RepO W (.list 1 (l.map λs=>[AV.list k (s.map enc)])) lv S) (hn:S.Nodup) (hm:aVm l i=some u) (he:aEb e=true) (hq:s.env q=some (.sc (aCi W lv i))):
  aWz q (λv=> ∃ S',RepO W (.list k (u.map enc)) v S'∧(∀ x∈S',x∈S)∧S'.Nodup) e s:=⟨he,_,hq,aXA r hn hm⟩
end
noncomputable section
set_option maxRecDepth 10000
set_option maxHeartbeats 4000000
def kD (a1:(List Int)) (v1:(List (List Sc))) (x1:(Int×Int)):Option ((Int×Int) ⊕ Int):=
 bif decide (x1.1<((v1.length:Nat):Int)) then
 ((cI v1 x1.1).bind λv3=>
 (cI v1 x1.1).bind λv4=>
 (mB v4).bind λv5=>
 (eN v5).bind λv6=>
 bif decide (v6=0) then
 (some (.inl (wr (x1.1+1),x1.2)))
 else
 ((aTv v1 x1.2).bind λv8=>
 bif v8 then
 (some (.inl (wr (x1.1+1),x1.1)))
 else
 ((cI v1 x1.2).bind λv10=>
 (mB v10).bind λv11=>
 (nW a1 v5 v11).bind λv12=>
 (eN v5).bind λv13=>
 (eN v11).bind λv14=>
 (fT v13 v14).bind λv15=>
 (aCC [v12,v15]).bind λv16=>
 bif decide (0<v16) then
 (some (.inl (wr (x1.1+1),x1.1)))
 else
 (some (.inl (wr (x1.1+1),x1.2))))))
 else
 (some (.inr x1.2))
def nZ (a0:Rp) (a1:(List Int)):Option (List Sc):=
 (aAG a0).bind λv1=>
 (Lp (kD a1 v1) (0,(-1))).bind λy18=>
 aVm v1 y18
theorem aDC (a0:Rp) (a1:(List Int)) (r:(List Sc)) (h:nZ a0 a1=some r):HasC Tryz.prog 98 [.agg (eR a0),.list 1 (a1.map eI)] (.list 2 (r.map eS)):=by
 refine aVk aA (rvs:=[.tmp 4]) (ns:=fE) Tryz.func98 k k Tryz.ntmps98 k k k (λW=>?_)
 refine aPo<|aKq<|aKq<|aFD (λw0_2 S0_2 r0_2=>?_)
 refine aFD (λw0_3 S0_3 r0_3=>?_)
 refine aFD (λw0_4 S0_4 r0_4=>?_)
 refine aFD (λw0_5 S0_5 r0_5=>?_)
 refine aPn<|aUm (λw1_0 S1_0 r1_0=>?_)
 refine aLq<|sS<|se (cP k k k k) k<|mY k2<|sn<|tn<|sS<|mY k2<|sn<|tn<|oB h λv1 hv1 h=>aRj (W:=W) (tL:=11) (es:=v1.map (ow (dH 2 eS))) (es':=v1.map (dH 2 eS)) (ts:=[1,5,12,13]) (ds:=[.sc w1_0,.sc (.slice none 0 0),.int ((v1.length:Nat):Int),.int 0]) (kk:=1) (n:=2) (ns:=fE.drop 2) (k2:=2) (k:=4) (m:=v1.length) (res:=r.map eS) ?_ (by simp only [aQ]) k k k (aZC (bN.good _)) (cY.good _) (λW' lv1 SL1 hb1 rL1 nL1=>?_)
 ·exact rgS<|lpS k8<|se (cLK bN (aMQ a0 v1 hv1) k3 (iM (vrR k r0_2 r0_3 r0_4 r0_5) iY)) k<|se (cF aA k k k k) k<|eT k2<|sn<|tn<|Ent.trans (t:=mN [(1,.sc w1_0),(5,.nil 0),(11,.own 1 0 v1.length),(12,.int ((v1.length:Nat):Int)),(13,.int 0)] [(1,⟨1,v1.map (ow (dH 2 eS))⟩)] 2 ⟨0,true,fxW W,false⟩) (bJ (bE k2) (cE (bN.plainO _) k<|aR) k4)<|Ent.trans (t:=mN [(1,.sc w1_0),(5,.nil 0),(11,.own 0 0 v1.length),(12,.int ((v1.length:Nat):Int)),(13,.int 0)] [(0,⟨1,v1.map (ow (dH 2 eS))⟩)] 2 ⟨0,true,fxW W,false⟩) (pI [1] (bE k2) (cE (bN.plainO _) k<|aR) k4)<|Ent.trans (aRl (t:=5) (k:=0) k)<|(bJ (bE k2) (cE (bN.plainO _) k<|aR) k4)
 have rD1:=rL1.repD
 have r1_0:=r1_0.keep (λb hb=>hb1 b (r1_0.lt b hb))
 refine aKr<|aKr<|aKr<|aKr<|aLq ?_
 change AC Tryz.prog _ _ (mN [(11,.sc lv1),(1,.sc w1_0),(5,.sc (aCi W' lv1 (-1))),(12,.int ((v1.length:Nat):Int)),(13,.int 0)] [] 2 ⟨0,true,fxW W',false⟩) _
 refine aE<|oB h λy18 hy18 h=>bU (body:=(kD a1 v1)) hy18 (λ(x1:(Int×Int))=>mN [(1,.sc w1_0),(5,.sc (aCi W' lv1 x1.2)),(11,.sc lv1),(12,.int ((v1.length:Nat):Int)),(13,.int x1.1)] [] 0 ⟨0,true,fxW W',false⟩) (λr e t=>e= .exit 0∧Ent t (mN [(5,.sc (aCi W' lv1 r))] [] 0 ⟨0,true,fxW W',false⟩)) (bJ (bE k2) aR k4) ?_ ?_
 ·intro x1 o h
  refine sS<|cmS k4<|sn<|tn<|sQ ?_
  rcases cb h with ⟨q2,h⟩|⟨q2,h⟩
  ·refine aC k q2<|aI<|tn<|sQ<|aE<|sS<|oB h λv3 hv3 h=>se (aVV aA rD1 hv3 k k k k k k) k<|se (aRk aA rL1 hv3 k k k k k k k) k<|mY k2<|sn<|tn<|sS<|eT k2 ?_
   obtain ⟨v4,hv4,h⟩:=ob h
   obtain ⟨Sv4,rv4⟩:=aSk rL1 hv4
   refine oB h λv5 hv5 h=>se (cLK cX (aAE v4 v5 hv5) k3 (wkD k rv4 iY)) k<|mY k2<|sn<|tn<|sQ<|sS<|eT k2<|oB h λv6 hv6 h=>se (kI (jR v5 v6 hv6) k (wkT k k iY)) k<|cmS k4<|sn<|tn ?_
   rcases cb h with ⟨q7,h⟩|⟨q7,h⟩
   ·refine aC k q7<|aV<|aB<|aL<|tn<|rgS<|se (bB k k) k<|eT k2<|sn<|tn ?_
    obtain rfl:=so h
    exact ⟨_,k,(bJ (bE k2) aR k4)⟩
   ·refine aD k q7<|aI<|tn<|sQ<|sS<|eT k2<|oB h λv8 hv8 h=>se (aTw (et:=99) rL1 hv8 (by kernel_rfl) k) k<|sn<|tn ?_
    rcases cb h with ⟨q9,h⟩|⟨q9,h⟩
    ·refine aC k q9<|sS<|eT k2<|mY k2<|sn<|tn<|aV<|aB<|aL<|tn<|rgS<|se (bB k k) k<|eT k2<|sn<|tn ?_
     obtain rfl:=so h
     exact ⟨_,k,(bJ (bE k2) aR k4)⟩
    ·refine aD k q9<|aI<|tn<|sS<|eT k2 ?_
     obtain ⟨v10,hv10,h⟩:=ob h
     obtain ⟨Sv10,rv10⟩:=aSk rL1 hv10
     refine oB h λv11 hv11 h=>se (cLK cX (aAE v10 v11 hv11) k3 (wkD k rv10 iY)) k<|mY k2<|sn<|tn<|sS<|eT k2<|eT k2<|eT k2<|oB h λv12 hv12 h=>se (kI (aFO a1 v5 v11 v12 hv12) k (wkD k r1_0 (wkT k k (wkT k k iY)))) k<|eT k2<|oB h λv13 hv13 h=>se (kI (jR v5 v13 hv13) k (wkT k k iY)) k<|eT k2<|oB h λv14 hv14 h=>se (kI (jR v11 v14 hv14) k (wkT k k iY)) k<|oB h λv15 hv15 h=>se (kI (aAC v13 v14 v15 hv15) k (wkS k (wkS k iY))) k<|se (cV aA k k k k k k k k k k k k) k<|oB h λv16 hv16 h=>se (kI (aOv [v12,v15] v16 hv16) k (iM (.inl (aRD k k ⟨_,_,k,⟨_,_,k,k,k⟩,⟨_,_,k,⟨_,_,k,k,k⟩,k⟩⟩)) iY)) k<|cmS k4<|sn<|tn<|aN (t:=mN [(1,.sc w1_0),(5,.sc (aCi W' lv1 x1.2)),(7,.sc (aCi W' lv1 x1.1)),(11,.sc lv1),(12,.int ((v1.length:Nat):Int)),(13,.int x1.1),(38,.bl (decide (0<v16)))] [] 3 ⟨0,true,fxW W',false⟩) (bJ (bE k2) aR k4) ?_
     rcases cb h with ⟨q17,h⟩|⟨q17,h⟩
     ·refine aC k q17<|rgS<|eT k2<|mY k2<|sn<|aU<|tn<|rgS<|se (bB k k) k<|eT k2<|sn<|tn ?_
      obtain rfl:=so h
      exact ⟨_,k,(bJ (bE k2) aR k4)⟩
     ·refine aD k q17<|aI<|aU<|tn<|rgS<|se (bB k k) k<|eT k2<|sn<|tn ?_
      obtain rfl:=so h
      exact ⟨_,k,(bJ (bE k2) aR k4)⟩
  ·refine aD k q2<|aV<|aB<|aB ?_
   obtain rfl:=so h
   exact ⟨_,k,k,(bJ (bE k2) aR k4)⟩
 ·rintro e t ⟨rfl,hent⟩
  exact aL<|tn<|aN hent<|sS<|eT k2<|mY k2<|sn<|tn<|aH<|aVn rL1 nL1 h k k
def kE (a0:Rp) (a1:(List Int)) (v1:((List (List Sc))×Bool)) (x1:(Int×Int)):Option ((Int×Int) ⊕ Int):=
 bif decide (x1.1<((v1.1.length:Nat):Int)) then
 ((cI v1.1 x1.1).bind λv8=>
 (pU a0 v8).bind λv9=>
 (iC v9).bind λv10=>
 bif decide (v10=0) then
 (some (.inl (wr (x1.1+1),x1.2)))
 else
 (bif decide (x1.2<0) then
 (some (.inl (wr (x1.1+1),x1.1)))
 else
 ((cI v1.1 x1.2).bind λv13=>
 (pU a0 v13).bind λv14=>
 (nY a1 v9 v14).bind λv15=>
 bif decide (0<v15) then
 (some (.inl (wr (x1.1+1),x1.1)))
 else
 (bif decide (v15=0) then
 ((iC v9).bind λv18=>
 (iC v14).bind λv19=>
 bif decide (v19<v18) then
 (some (.inl (wr (x1.1+1),x1.1)))
 else
 (some (.inl (wr (x1.1+1),x1.2))))
 else
 (some (.inl (wr (x1.1+1),x1.2)))))))
 else
 (some (.inr x1.2))
def kR (a0:Rp) (a1:(List Int)):Option ((List Sc)×Bool):=
 (aAH a0).bind λv1=>
 bif !v1.2 then
 (some (([]:(List Sc)),false))
 else
 ((kB a1 a0.dims).bind λv3=>
 bif !v3 then
 (some (([]:(List Sc)),false))
 else
 ((pT a0).bind λv5=>
 bif decide (v5=0) then
 (some (([]:(List Sc)),false))
 else
 ((Lp (kE a0 a1 v1) (0,(-1))).bind λy21=>
 (cI v1.1 y21).bind λv22=>
 some (v22,true))))
theorem aIY (a0:Rp) (a1:(List Int)) (r:((List Sc)×Bool)) (h:kR a0 a1=some r):HasE Tryz.prog 38 [.agg (eR a0),.list 1 (a1.map eI)] [] 0 (.tuple [.list 2 (r.1.map eS),.bl r.2]) []:=by
 refine sY aA (rvs:=[.tmp 4,.tmp 5]) (ns:=fE.drop 0) Tryz.func38 k k Tryz.ntmps38 k k<|sR<|ae (cP k k k k) k<|aa k k<|aT k2<|sR<|lp k8<|oB h λv1 hv1 h=>ae (wG (σ:=sg []) (σ':=sg [(1,0)]) (touch:=[]) (news:=[1]) (hl2:=[(1,⟨1,v1.1.map (dH 2 eS)⟩)]) (n':=2) (r2:= .tuple [.own 1 0 v1.1.length,.bl v1.2]) (aMR a0 v1 hv1) k k ⟨_,_,k,(.inl ⟨_,_,k,k,⟨_,_,k,k,⟨_,_,k,⟨k,k⟩,⟨_,_,k,⟨k,k⟩,⟨_,_,k,⟨k,k⟩,⟨_,_,k,⟨k,k⟩,k⟩⟩⟩⟩⟩⟩),k⟩ aR k k k ⟨⟨_,k,k,.inl ⟨k,bN.plainE _⟩⟩,k,aR⟩ k (.inr ⟨_,_,k,k,⟨_,_,k,⟨k,k,(by simp only [aQ,lA,lT,lR,lC,lN]),k⟩,⟨_,_,k,k,k⟩⟩⟩) k ⟨k,bN.tamdE _ _,aR⟩ k k) k<|am k k<|ae (bY k k (by intro _ h;cases h)) k<|ae (bY k k (by intro _ h;cases h)) k<|aa k k<|aT k2<|sQ<|sR<|am k k<|ae (dG k) k<|am k k ?_
 rcases cb h with ⟨q2,h⟩|⟨q2,h⟩
 ·refine aJ 20 k q2<|aK k4<|aK k4<|ak k k<|pk k3<|am k k<|aK k4<|ak k k<|pk k3<|an<|tn<|aN (t:=mN [(1,.list 1 (a1.map eI)),(2,.ptr 0 0 0),(6,.own 1 0 v1.1.length),(31,.bl true)] [(0,⟨6,[eR a0]⟩),(1,⟨1,v1.1.map (dH 2 eS)⟩)] 2 ⟨0,false,none,true⟩) (bJ (bE k2) (bK k<|cE (bN.plainE _) k<|aR) k4)<|aC k k<|sR<|ae (cV aA k k k k k k k k k k k k) k<|aa k k<|aT k2<|aN (t:=mN [(4,.own 2 0 (([]:(List Sc)).length)),(5,.bl false)] [(2,⟨2,List.map (ow eS) ([]:(List Sc))⟩)] 3 ⟨0,false,none,true⟩) (bJ (gU ⟨_,k,⟨k,k,(by simp only [aQ,lA,lT,lR,lC,lN]),k⟩⟩ (bE k2)) (cE (cY.plainO _) k<|aR) k4)<|aH<|aG ?_
  obtain rfl:=so h
  exact ⟨mN [(4,.list 2 (List.map eS ([]:(List Sc)))),(5,.bl false)] [] 0 ⟨0,false,none,true⟩,(Ent.trans (xX (t:=4) (d:= .list 2 (List.map eS ([]:(List Sc)))) [2] k (aBY cY k k) k k) (bJ (bE k2) aR k4)),k,⟨_,k,.inr ⟨(by simp),k,k⟩⟩,aR⟩
 ·refine aJ 20 k q2<|am k k<|fp k8<|lp k8<|oB h λv3 hv3 h=>ae (aO (uO a1 a0.dims v3 hv3) k (bX k (bX k aM))) k<|ae (dG k) k<|pk k3<|am k k ?_
  rcases cb h with ⟨q4,h⟩|⟨q4,h⟩
  ·refine aJ 27 k q4<|aK k4<|ak k k<|pk k3<|an<|tn<|aN (t:=mN [(1,.list 1 (a1.map eI)),(2,.ptr 0 0 0),(6,.own 1 0 v1.1.length),(31,.bl true)] [(0,⟨6,[eR a0]⟩),(1,⟨1,v1.1.map (dH 2 eS)⟩)] 2 ⟨0,false,none,true⟩) (bJ (bE k2) (bK k<|cE (bN.plainE _) k<|aR) k4)<|aC k k<|sR<|ae (cV aA k k k k k k k k k k k k) k<|aa k k<|aT k2<|aN (t:=mN [(4,.own 2 0 (([]:(List Sc)).length)),(5,.bl false)] [(2,⟨2,List.map (ow eS) ([]:(List Sc))⟩)] 3 ⟨0,false,none,true⟩) (bJ (gU ⟨_,k,⟨k,k,(by simp only [aQ,lA,lT,lR,lC,lN]),k⟩⟩ (bE k2)) (cE (cY.plainO _) k<|aR) k4)<|aH<|aG ?_
   obtain rfl:=so h
   exact ⟨mN [(4,.list 2 (List.map eS ([]:(List Sc)))),(5,.bl false)] [] 0 ⟨0,false,none,true⟩,(Ent.trans (xX (t:=4) (d:= .list 2 (List.map eS ([]:(List Sc)))) [2] k (aBY cY k k) k k) (bJ (bE k2) aR k4)),k,⟨_,k,.inr ⟨(by simp),k,k⟩⟩,aR⟩
  ·refine aJ 27 k q4<|lp k8<|oB h λv5 hv5 h=>ae (aO (aCa a0 v5 hv5) k (aZ (pY k) aM)) k<|cm k4<|pk k3<|an<|tn<|aN (t:=mN [(1,.list 1 (a1.map eI)),(2,.ptr 0 0 0),(6,.own 1 0 v1.1.length),(31,.bl (decide (v5=0)))] [(0,⟨6,[eR a0]⟩),(1,⟨1,v1.1.map (dH 2 eS)⟩)] 2 ⟨0,false,none,true⟩) (bJ (bE k2) (bK k<|cE (bN.plainE _) k<|aR) k4) ?_
   rcases cb h with ⟨q6,h⟩|⟨q6,h⟩
   ·refine aC k q6<|sR<|ae (cV aA k k k k k k k k k k k k) k<|aa k k<|aT k2<|aN (t:=mN [(4,.own 2 0 (([]:(List Sc)).length)),(5,.bl false)] [(2,⟨2,List.map (ow eS) ([]:(List Sc))⟩)] 3 ⟨0,false,none,true⟩) (bJ (gU ⟨_,k,⟨k,k,(by simp only [aQ,lA,lT,lR,lC,lN]),k⟩⟩ (bE k2)) (cE (cY.plainO _) k<|aR) k4)<|aH<|aG ?_
    obtain rfl:=so h
    exact ⟨mN [(4,.list 2 (List.map eS ([]:(List Sc)))),(5,.bl false)] [] 0 ⟨0,false,none,true⟩,(Ent.trans (xX (t:=4) (d:= .list 2 (List.map eS ([]:(List Sc)))) [2] k (aBY cY k k) k k) (bJ (bE k2) aR k4)),k,⟨_,k,.inr ⟨(by simp),k,k⟩⟩,aR⟩
   ·refine aD k q6<|aI<|tn<|sR<|aT k2<|sQ<|sR<|aT k2<|aE<|oB h λy21 hy21 h=>bU (body:=(kE a0 a1 v1)) hy21 (λ(x1:(Int×Int))=>mN [(1,.list 1 (a1.map eI)),(2,.ptr 0 0 0),(6,.own 1 0 v1.1.length),(8,.int x1.2),(9,.int x1.1)] [(0,⟨6,[eR a0]⟩),(1,⟨1,v1.1.map (dH 2 eS)⟩)] 2 ⟨0,false,none,true⟩) (λr e t=>e= .exit 0∧Ent t (mN [(6,.own 0 0 v1.1.length),(8,.int r)] [(0,⟨1,v1.1.map (dH 2 eS)⟩)] 1 ⟨0,false,none,true⟩)) (bJ (bE k2) (bK k<|cE (bN.plainE _) k<|aR) k4) ?_ ?_
    ·intro x1 o h
     refine sQ<|sR<|am k k<|am k k<|ae (cF aA k k k k) k<|cm k4<|an<|tn ?_
     rcases cb h with ⟨q7,h⟩|⟨q7,h⟩
     ·refine aC k q7<|aI<|tn<|sQ<|aE<|sQ<|aS iL<|lp k8<|am k k<|am k k<|oB h λv8 hv8 h=>ae (bP aA (cO hv8) (cB hv8) k k k k k k k) k<|ae (bG aA k k k k (dL (bZ hv8)) k k) k<|oB h λv9 hv9 h=>ae (cL cX (aCb a0 v8 v9 hv9) k3 (aZ (pY k) (bX k aM))) k<|aa k k<|an<|wA (by kernel_rfl)<|tn<|sQ<|sR<|am k k<|oB h λv10 hv10 h=>ae (aO (oN v9 v10 hv10) k (vcT k k aM)) k<|cm k4<|an<|tn ?_
      rcases cb h with ⟨q11,h⟩|⟨q11,h⟩
      ·refine aC k q11<|aV<|aB<|aL<|tn<|rg<|am k k<|ae (bB k k) k<|aT k2 ?_
       obtain rfl:=so h
       exact ⟨_,k,(bJ (bE k2) (bK k<|cE (bN.plainE _) k<|aR) k4)⟩
      ·refine aD k q11<|aI<|tn<|sQ<|sR<|am k k<|cm k4<|an<|tn ?_
       rcases cb h with ⟨q12,h⟩|⟨q12,h⟩
       ·refine aC k q12<|sR<|am k k<|aT k2<|aV<|aB<|aL<|tn<|rg<|am k k<|ae (bB k k) k<|aT k2 ?_
        obtain rfl:=so h
        exact ⟨_,k,(bJ (bE k2) (bK k<|cE (bN.plainE _) k<|aR) k4)⟩
       ·refine aD k q12<|aI<|tn<|sQ<|aS iL<|lp k8<|am k k<|am k k<|oB h λv13 hv13 h=>ae (bP aA (cO hv13) (cB hv13) k k k k k k k) k<|ae (bG aA k k k k (dL (bZ hv13)) k k) k<|oB h λv14 hv14 h=>ae (cL cX (aCb a0 v13 v14 hv14) k3 (aZ (pY k) (bX k aM))) k<|aa k k<|an<|wA (by kernel_rfl)<|tn<|sR<|am k k<|am k k<|am k k<|oB h λv15 hv15 h=>ae (aO (aFQ a1 v9 v14 v15 hv15) k (bX k (vcT k k (vcT k k aM)))) k<|aT k2<|aN (t:=mN [(1,.list 1 (a1.map eI)),(2,.ptr 0 0 0),(6,.own 1 0 v1.1.length),(8,.int x1.2),(9,.int x1.1),(10,.own 2 0 v9.length),(11,.own 3 0 v14.length),(12,.int v15)] [(0,⟨6,[eR a0]⟩),(1,⟨1,v1.1.map (dH 2 eS)⟩),(2,⟨1,v9.map (ow eI)⟩),(3,⟨1,v14.map (ow eI)⟩)] 4 ⟨0,false,none,true⟩) (bJ (bE k2) (bK k<|cE (bN.plainE _) k<|bO k<|bO k<|aR) k4)<|sR<|am k k<|cm k4<|am k k ?_
        rcases cb h with ⟨q16,h⟩|⟨q16,h⟩
        ·refine aJ 63 k q16<|aK k4<|aK k4<|aK k4<|aK k4<|ak k k<|pk k3<|an<|tn<|aC k k<|rg<|am k k<|aa k k<|an<|aU<|tn<|rg<|am k k<|ae (bB k k) k<|aT k2 ?_
         obtain rfl:=so h
         exact ⟨_,k,(bJ (bE k2) (bK k<|cE (bN.plainE _) k<|aR) k4)⟩
        ·refine aJ 63 k q16<|am k k<|cm k4<|am k k ?_
         rcases cb h with ⟨q17,h⟩|⟨q17,h⟩
         ·refine aJ 66 k q17<|am k k<|oB h λv18 hv18 h=>ae (aO (oN v9 v18 hv18) k (vcT k k aM)) k<|am k k<|oB h λv19 hv19 h=>ae (aO (oN v14 v19 hv19) k (vcT k k aM)) k<|cm k4<|pk k3<|pk k3<|an<|tn ?_
          rcases cb h with ⟨q20,h⟩|⟨q20,h⟩
          ·refine aC k q20<|rg<|am k k<|aa k k<|an<|aU<|tn<|rg<|am k k<|ae (bB k k) k<|aT k2 ?_
           obtain rfl:=so h
           exact ⟨_,k,(bJ (bE k2) (bK k<|cE (bN.plainE _) k<|aR) k4)⟩
          ·refine aD k q20<|aI<|aU<|tn<|rg<|am k k<|ae (bB k k) k<|aT k2 ?_
           obtain rfl:=so h
           exact ⟨_,k,(bJ (bE k2) (bK k<|cE (bN.plainE _) k<|aR) k4)⟩
         ·refine aJ 66 k q17<|aK k4<|aK k4<|ak k k<|pk k3<|pk k3<|an<|tn<|aD k k<|aI<|aU<|tn<|rg<|am k k<|ae (bB k k) k<|aT k2 ?_
          obtain rfl:=so h
          exact ⟨_,k,(bJ (bE k2) (bK k<|cE (bN.plainE _) k<|aR) k4)⟩
     ·refine aD k q7<|aV<|aB<|aB ?_
      obtain rfl:=so h
      exact ⟨_,k,k,(pI [1] (bE k2) (cE (bN.plainE _) k<|aR) k4)⟩
    ·rintro e t ⟨rfl,hent⟩
     refine aL<|tn<|aN hent<|sR<|am k k<|am k k<|oB h λv22 hv22 h=>ae (bP aA (cO hv22) (cB hv22) k k k k k k k) k<|ae (bG aA k k k k (dL (bZ hv22)) k k) k<|aa k k<|aT k2<|aH ?_
     obtain rfl:=so h
     exact ⟨mN [(4,.list 2 (v22.map eS)),(5,.bl true)] [] 0 ⟨0,false,none,true⟩,(bJ (bE k2) aR k4),k,⟨_,k,.inr ⟨(by simp),k,k⟩⟩,aR⟩
end
noncomputable section
def idR:Nat→List (List Int)
 |1=>[[1]]
 |2=>[[1,0],[0,1]]
 |_=>[]
theorem aZD {p n:Nat} (hp:p=2∨p=3) (hn:n≤2):(⟨n,idR n⟩:Sc)∈spI p n (n:Int):=by
 have h:n=0∨n=1∨n=2:=by omega
 rcases hp with rfl|rfl <;> rcases h with rfl|rfl|rfl <;> decide
theorem aQf {p:Int} (hp:oF p=true) {n:Nat} (hn:n≤2) {a:List (List Int)} (ha:VecsP p n a) (hb:VecsP p n (idR n)) (hs:gB p n (idR n)=idR n):inV p n a (idR n)=true:=by
 unfold inV
 refine decide_eq_true ((aCX hp ha hb hs).2 λx hx=>?_)
 have hz: ∀ i,i<n→Z0 p (x i):=by
  have h:n=0∨n=1∨n=2:=by omega
  rcases h with rfl|rfl|rfl
  ·intro i hi;omega
  ·intro i hi
   have:=hx 0 (by decide)
   have e:i=0:=by omega
   subst e
   simpa [dt,sN,dD,idR] using this
  ·intro i hi
   have h0:=hx 0 (by decide)
   have h1:=hx 1 (by decide)
   have e:i=0∨i=1:=by omega
   rcases e with rfl|rfl
   ·simpa [dt,sN,dD,idR] using h0
   ·simpa [dt,sN,dD,idR] using h1
 intro k hk
 exact aXO λi hi=>aIq _ (hz i hi)
def aDo (r:Rp):List Sc:=(List.range r.dims.length).map λv=>(⟨(dN r v:Nat),idR (dN r v)⟩:Sc)
theorem aQg {r:Rp} {v:Nat} (hv:v<r.dims.length):sG (aDo r) v=⟨(dN r v:Nat),idR (dN r v)⟩:=by simp [sG,aDo,hv]
theorem aSl {α:Type} : ∀ {cs:List (List α)} {s:List α} (d:α),s.length=cs.length→(∀ v,v<cs.length→s[v]?.getD d∈cs[v]?.getD [])→s∈kC cs
 | [],[],_,_,_=>by simp [kC]
 | [],y::s,_,h,_=>by simp at h
 |c::cs,[],_,h,_=>by simp at h
 |c::cs,y::s,d,hl,h=>by
  have h0:=h 0 (by simp)
  have h1:=aSl (cs:=cs) (s:=s) d (by simpa using hl) (λv hv=>by have:=h (v+1) (by simpa using hv);simpa using this)
  simp only [List.getElem?_cons_zero,Option.getD_some] at h0
  simp only [kC,List.mem_flatMap,List.mem_map]
  exact ⟨y,h0,s,h1,rfl⟩
theorem aSm: ∀ {ms:List Int},(∀ x∈ms,0≤x)→ms∈dF ms
 | [],_=>by simp [dF]
 |m::ms,h=>by
  simp only [dF,List.mem_flatMap,List.mem_map]
  exact ⟨m.toNat,List.mem_range.2 (by omega),ms,aSm λx hx=>h x (by simp [hx]),by rw [Int.toNat_of_nonneg (h m (by simp))]⟩
theorem aXC {r:Rp} (hS:eP r=true):aDo r∈qC r:=by
 have S:=zE hS
 have hR:=aBW hS
 have R:=S.R
 have hl:(aDo r).length=r.dims.length:=by simp [aDo]
 have hm:aDo r∈kC (chL r r.dims):=by
  refine aSl ⟨0,[]⟩ (by rw [hl,rJ]) λv hv=>?_
  rw [rJ] at hv
  rw [aPD hv,(R.d v hv).1,show (aDo r)[v]?.getD ⟨0,[]⟩=_ from aQg hv]
  exact aZD (aPE S) (S.d v hv)
 obtain ⟨_,_,p3⟩:=aKx S hm
 have sv: ∀ v,v<r.dims.length→SpV r (aDo r) v:=λv hv=>by
  obtain ⟨g1,g2,g3⟩:=p3 v hv
  obtain ⟨_,n,e,_,h3,h4,h5⟩:=aBu g2
  have e:dN r v=n:=by omega
  subst e
  exact ⟨g3,g2,h3,h4,h5⟩
 have hsub:aFT r (aDo r)=true:=by
  unfold aFT
  simp only [Bool.and_eq_true,List.all_eq_true,decide_eq_true_eq]
  refine ⟨hR,by rw [hl],λv hv=>?_,λi hi=>?_⟩
  ·have hv:v<r.dims.length:=by rw [←hl];exact List.mem_range.1 hv
   obtain ⟨g1,g2,g3⟩:=p3 v hv
   unfold spB
   rw [g3,g2,(R.d v hv).1]
   simp
  ·have hi:i<r.q.src.length:=by rw [←R.ml];exact List.mem_range.1 hi
   have hs:=(R.s i hi).2
   have ht:=(R.t i hi).2
   have S1:=sv _ hs
   have S2:=sv _ ht
   have hv1:=aFj R.hp (aIM R.hp (dN r (tV r i)) (dN r (sV r i)) (aF r i) (sG (aDo r) (sV r i)).basis).inP
   have h4:=S2.vecs
   have h5:=S2.span
   unfold imB
   rw [aQg ht] at h4 h5 ⊢
   exact aQf R.hp (S.d _ ht) hv1 h4 h5
 unfold qC
 exact List.mem_flatMap.2 ⟨r.dims,aSm λx hx=>(S.mem x hx).1,List.mem_filter.2 ⟨hm,hsub⟩⟩
theorem aXD {n:Nat} (hn:n≤2):(idR n).length=n:=by
 have h:n=0∨n=1∨n=2:=by omega
 rcases h with rfl|rfl|rfl <;> rfl
theorem aTx {r:Rp} (S:Sm r):gA (aDo r)=r.dims:=by
 refine List.ext_getElem (by simp [gA,aDo]) λi h1 h2=>?_
 have:=(S.R.d i h2).1
 rw [List.getElem?_eq_getElem h2,Option.getD_some] at this
 simp only [gA,aDo,List.getElem_map,List.getElem_range]
 rw [aXD (S.d i h2),this]
def dA (r:Rp) (k:Nat):List Int:=gA ((qC r)[k]?.getD [])
def bet (r:Rp) (t:List Int) (k b:Nat):Bool:=decide (0<slV t (dA r k) (dA r b))||(decide (slV t (dA r k) (dA r b)=0)&&decide ((dA r b).sum <(dA r k).sum))
def bst (r:Rp) (t:List Int):Nat→Int
 |0=> -1
 |k+1=>if (dA r k).sum=0 then bst r t k else if bst r t k<0 then k else if bet r t k (bst r t k).toNat=true then k else bst r t k
theorem aSn (r:Rp) (t:List Int) (k:Nat):bst r t (k+1)=if (dA r k).sum=0 then bst r t k else if bst r t k<0 then (k:Int) else if bet r t k (bst r t k).toNat=true then (k:Int) else bst r t k:=rfl
theorem aIZ (r:Rp) (t:List Int): ∀ k,(bst r t k= -1∧ ∀ j,j<k→(dA r j).sum=0)∨ ∃ b:Nat,bst r t k=b∧b<k∧(dA r b).sum ≠0
 |0=> .inl ⟨rfl,λj hj=>by omega⟩
 |k+1=>by
  have ih:=aIZ r t k
  unfold bst
  by_cases h1:(dA r k).sum=0
  ·rw [if_pos h1]
   rcases ih with ⟨e,h⟩|⟨b,e,h,h2⟩
   ·refine .inl ⟨e,λj hj=>?_⟩
    rcases Nat.lt_or_ge j k with h'|h'
    ·exact h j h'
    ·rw [show j=k by omega];exact h1
   ·exact .inr ⟨b,e,by omega,h2⟩
  ·rw [if_neg h1]
   by_cases h3:bst r t k<0
   ·rw [if_pos h3];exact .inr ⟨k,rfl,by omega,h1⟩
   ·rw [if_neg h3]
    by_cases h4:bet r t k (bst r t k).toNat=true
    ·rw [if_pos h4];exact .inr ⟨k,rfl,by omega,h1⟩
    ·rw [if_neg h4]
     rcases ih with ⟨e,h⟩|⟨b,e,h,h2⟩
     ·omega
     ·exact .inr ⟨b,e,by omega,h2⟩
theorem aZi (x y:Int):aCC [x,y]=some (if x=0 then y else x):=by
 have b0:kV [x,y] 0=if x=0 then some (.inl 1) else some (.inr (.inr x)):=by
  unfold kV
  rw [show decide ((0:Int)<(([x,y]:List Int).length:Int))=true from rfl,cond_true,show cI [x,y] 0=some x from rfl,Option.bind_some]
  by_cases h:x=0
  ·rw [if_pos h,decide_eq_true h];rfl
  ·rw [if_neg h,decide_eq_false h];rfl
 have b1:kV [x,y] 1=if y=0 then some (.inl 2) else some (.inr (.inr y)):=by
  unfold kV
  rw [show decide ((1:Int)<(([x,y]:List Int).length:Int))=true from rfl,cond_true,show cI [x,y] 1=some y from rfl,Option.bind_some]
  by_cases h:y=0
  ·rw [if_pos h,decide_eq_true h];rfl
  ·rw [if_neg h,decide_eq_false h];rfl
 have b2:kV [x,y] 2=some (.inr (.inl ())):=rfl
 unfold aCC
 by_cases hx:x=0
 ·rw [if_pos hx] at b0 ⊢
  rw [zK b0]
  by_cases hy:y=0
  ·rw [if_pos hy] at b1
   rw [zK b1,mI b2,hy];rfl
  ·rw [if_neg hy] at b1
   rw [mI b1];rfl
 ·rw [if_neg hx] at b0 ⊢
  rw [mI b0];rfl
theorem aYE (a b:Int):fT a b=some (if a<b then -1 else if b<a then 1 else 0):=by
 unfold fT kU
 simp only [decide_true,Bool.not_true,Option.bind_some,cond_false]
 by_cases e1:a<b
 ·rw [decide_eq_true e1,if_pos e1];rfl
 ·rw [decide_eq_false e1,if_neg e1]
  by_cases e2:b<a
  ·rw [decide_eq_true e2,if_pos e2];rfl
  ·rw [decide_eq_false e2,if_neg e2];rfl
theorem aIa {r:Rp} {t:List Int} (hS:eP r=true) (hT:thV t r.dims=true) {k:Nat} (hk:k<(qC r).length):Part r ((qC r)[k]?.getD [])∧thV t (dA r k)=true∧Th t (dA r k)∧(dA r k).length ≤5∧((qC r)[k]?.getD []).length ≤5:=by
 have S:=zE hS
 have p:=aVi S (dU [] hk)
 have h5:=S.R.n5
 have hl:=p.len
 exact ⟨p,p.th hT,aMb (p.th hT),by unfold dA;rw [aEQ];omega,by omega⟩
theorem aTy {r:Rp} {t:List Int} (hS:eP r=true) (hT:thV t r.dims=true):Lp (kD t (qC r)) (0,(-1))=some (bst r t (qC r).length):=by
 have hal:=aSf (zE hS)
 rw [eB (r:=bst r t (qC r).length) (λk=>((k:Int),bst r t k)) (qC r).length (by rfl) (λk hk=>?_) (λ_=>?_)]
 ·obtain ⟨p,th,TA,l5,s5⟩:=aIa hS hT hk
  unfold kD
  simp only
  rw [lE hk,cond_true,mW [] hk,Option.bind_some,Option.bind_some,aFs (by omega),Option.bind_some,show gA ((qC r)[k]?.getD [])=dA r k from rfl,(aBV TA.d (by omega)).1,Option.bind_some,cH hk (by omega)]
  show _=some (Sum.inl (((k+1:Nat):Int),bst r t (k+1)))
  rw [aSn]
  by_cases h1:(dA r k).sum=0
  ·rw [decide_eq_true h1,cond_true,if_pos h1]
  ·rw [decide_eq_false h1,cond_false,if_neg h1]
   rcases aIZ r t k with ⟨e,_⟩|⟨b,e,hb,hs⟩
   ·rw [e,if_pos (by decide)];rfl
   ·have hbl:b<(qC r).length:=by omega
    obtain ⟨pB,thB,TB,lB,sB⟩:=aIa hS hT hbl
    have hne:0<((qC r)[b]?.getD []).length:=by
     rcases Nat.eq_zero_or_pos ((qC r)[b]?.getD []).length with h|h
     ·have e0:=List.eq_nil_of_length_eq_zero h
      exact absurd (by unfold dA;rw [e0];rfl) hs
     ·exact h
    have hnil:aTv (qC r) (b:Int)=some false:=by
     unfold aTv
     rw [decide_eq_false (by omega),cond_false,mW [] hbl,Option.bind_some,decide_eq_true hne];rfl
    rw [e,if_neg (by omega),hnil,Option.bind_some,cond_false,mW [] hbl,Option.bind_some,aFs (by omega),Option.bind_some,show gA ((qC r)[b]?.getD [])=dA r b from rfl,aTs TA TB,Option.bind_some,Option.bind_some,(aBV TB.d (by omega)).1,Option.bind_some,aYE,Option.bind_some,aZi,Option.bind_some]
    rw [Int.toNat_natCast]
    have hd:decide (0<if slV t (dA r k) (dA r b)=0 then (if (dA r k).sum <(dA r b).sum then (-1:Int) else if (dA r b).sum <(dA r k).sum then 1 else 0) else slV t (dA r k) (dA r b))=bet r t k b:=by
     unfold bet
     by_cases g1:slV t (dA r k) (dA r b)=0
     ·rw [if_pos g1,g1]
      by_cases g2:(dA r k).sum <(dA r b).sum
      ·rw [if_pos g2,decide_eq_false (show ¬ (dA r b).sum <(dA r k).sum by omega)];rfl
      ·rw [if_neg g2]
       by_cases g3:(dA r b).sum <(dA r k).sum
       ·rw [if_pos g3,decide_eq_true g3];rfl
       ·rw [if_neg g3,decide_eq_false g3];rfl
     ·rw [if_neg g1,decide_eq_false g1,Bool.false_and,Bool.or_false]
    rw [hd]
    cases hq:bet r t k b with
    |true=>rw [if_pos rfl];rfl
    |false=>rw [if_neg (by simp)];rfl
 ·unfold kD
  simp only
  rw [oG (Nat.le_refl _),cond_false]
section
variable {r:Rp} {t:List Int} (hr:bR r) (ht:bI t) (hS:eP r=true) (hT:thV t r.dims=true)
include hr ht hS hT
theorem aTz:Lp (kE r t (qC r,true)) (0,(-1))=some (bst r t (qC r).length):=by
 have hal:=aSf (zE hS)
 rw [eB (r:=bst r t (qC r).length) (λk=>((k:Int),bst r t k)) (qC r).length (by rfl) (λk hk=>?_) (λ_=>?_)]
 ·obtain ⟨p,th,TA,l5,s5⟩:=aIa hS hT hk
  unfold kE
  simp only
  rw [lE hk,cond_true,mW [] hk,Option.bind_some,aEP hr ⟨by omega,p.b⟩ p.sub,Option.bind_some,show gA ((qC r)[k]?.getD [])=dA r k from rfl,(aBV TA.d (by omega)).2,Option.bind_some,cH hk (by omega)]
  show _=some (Sum.inl (((k+1:Nat):Int),bst r t (k+1)))
  rw [aSn]
  by_cases h1:(dA r k).sum=0
  ·rw [decide_eq_true h1,cond_true,if_pos h1]
  ·rw [decide_eq_false h1,cond_false,if_neg h1]
   rcases aIZ r t k with ⟨e,_⟩|⟨b,e,hb,hs⟩
   ·rw [e,if_pos (by decide)];rfl
   ·have hbl:b<(qC r).length:=by omega
    obtain ⟨pB,thB,TB,lB,sB⟩:=aIa hS hT hbl
    rw [e,if_neg (by omega),decide_eq_false (by omega),cond_false,mW [] hbl,Option.bind_some,aEP hr ⟨by omega,pB.b⟩ pB.sub,Option.bind_some,show gA ((qC r)[b]?.getD [])=dA r b from rfl,aTt ht (by unfold bI;omega) (by unfold bI;omega) th thB,if_neg h1,if_neg hs,Option.bind_some]
    rw [Int.toNat_natCast]
    unfold bet
    by_cases g0:0<slV t (dA r k) (dA r b)
    ·rw [decide_eq_true g0,cond_true,Bool.true_or,if_pos rfl]
    ·rw [decide_eq_false g0,cond_false,Bool.false_or]
     by_cases g1:slV t (dA r k) (dA r b)=0
     ·rw [decide_eq_true g1,cond_true,Bool.true_and,Option.bind_some,(aBV TB.d (by omega)).2,Option.bind_some]
      by_cases g3:(dA r b).sum <(dA r k).sum
      ·rw [decide_eq_true g3,if_pos rfl];rfl
      ·rw [decide_eq_false g3,if_neg (by simp)];rfl
     ·rw [decide_eq_false g1,cond_false,Bool.false_and,if_neg (by simp)]
 ·unfold kE
  simp only
  rw [oG (Nat.le_refl _),cond_false]
end
theorem aQh {r:Rp} {t:List Int} (hS:eP r=true) (h0:0<r.dims.sum): ∃ b:Nat,bst r t (qC r).length=b∧b<(qC r).length:=by
 rcases aIZ r t (qC r).length with ⟨_,h⟩|⟨b,e,hb,_⟩
 ·obtain ⟨k,hk,e⟩:=List.mem_iff_getElem.1 (aXC hS)
  have:=h k hk
  unfold dA at this
  rw [List.getElem?_eq_getElem hk,Option.getD_some,e,aTx (zE hS)] at this
  omega
 ·exact ⟨b,e,hb⟩
def aPF (r:Rp) (t:List Int):List Sc×Bool:=bif eP r&&(decide (0<r.dims.sum)&&thV t r.dims) then ((qC r)[(bst r t (qC r).length).toNat]?.getD [],true) else ([],false)
theorem aJg {r:Rp} (hr:bR r) {t:List Int} (ht:bI t):kR r t=some (aPF r t):=by
 unfold kR aPF
 rw [aTr hr,Option.bind_some]
 unfold aYB
 cases hS:eP r with
 |false=>rfl
 |true=>
  have S:=zE hS
  have h5:=S.R.n5
  have hbd:bI r.dims:=by unfold bI;omega
  simp only [cond_true,Bool.not_true,cond_false,Bool.true_and]
  rw [aCK ht hbd,Option.bind_some]
  cases hT:thV t r.dims with
  |false=>simp
  |true=>
   have T:=aMb hT
   have hsum:=T.sum
   simp only [Bool.not_true,cond_false,Bool.and_true]
   rw [aAw hr,Option.bind_some,aBW hS,cond_true]
   by_cases h0:r.dims.sum=0
   ·rw [decide_eq_true h0,decide_eq_false (by omega)];rfl
   ·obtain ⟨b,e,hb⟩:=aQh hS (by omega)
    rw [decide_eq_false h0,decide_eq_true (by omega),cond_false,cond_true,aTz hr ht hS hT,Option.bind_some,e,mW [] hb,Option.bind_some,Int.toNat_natCast]
end
noncomputable section
set_option maxRecDepth 10000
set_option maxHeartbeats 4000000
def pD (a0:Qv):Option Qv:=
 (nO a0.src).bind λv1=>
 (nO a0.tgt).bind λv2=>
 some ((⟨a0.n,v1,v2⟩:Qv))
theorem aGQ (a0:Qv) (r:Qv) (h:pD a0=some r):HasC Tryz.prog 120 [.agg (eQ a0)] (.agg (eQ r)):=by
 refine aW aA (rvs:=[.cell 2 29]) (ns:=fE) Tryz.func120 k k Tryz.ntmps120 k k k<|sR<|ae (cP k k k k) k<|ae (bW aA k k) k<|an<|tn<|sQ<|aS iL<|fp k8<|lp k8<|fp k8<|lp k8<|oB h λv1 hv1 h=>ae (cL cX (aCx a0.src v1 hv1) k3 (bX k aM)) k<|fp k8<|lp k8<|oB h λv2 hv2 h=>ae (cL cX (aCx a0.tgt v2 hv2) k3 (bX k aM)) k<|ae (iE aA k k k k k k) k<|ae (bF aA k k k k k k k k) k<|an<|wA (by kernel_rfl)<|tn<|aH ?_
 obtain rfl:=so h
 exact bH k k k (nB (bA (k) (bA (eK cX k k) (bA (eK cX k k) fK))))
def tX (a1:Qv) (a2:(List Int)) (x1:((List Mt)×Int)):Option (((List Mt)×Int) ⊕ (List Mt)):=
 bif decide (x1.2<(a1.src.length:Int)) then
 ((cI a1.src x1.2).bind λv4=>
 (cI a1.tgt x1.2).bind λv5=>
 (cI a2 v5).bind λv6=>
 (cI a2 v4).bind λv7=>
 (lM v6 v7).bind λv8=>
 bif decide (x1.1.length+1≤4294967296) then
 (some (.inl ((x1.1++[v8]),wr (x1.2+1))))
 else none)
 else
 (some (.inr x1.1))
def aAP (a0:Int) (a1:Qv) (a2:(List Int)):Option Rp:=
 (pD a1).bind λv1=>
 (nO a2).bind λv2=>
 (Lp (tX a1 a2) ([],0)).bind λy10=>
 some ((⟨a0,v1,v2,y10⟩:Rp))
theorem aMd (a0:Int) (a1:Qv) (a2:(List Int)) (r:Rp) (h:aAP a0 a1 a2=some r):HasC Tryz.prog 150 [.int a0,.agg (eQ a1),.list 1 (a2.map eI)] (.agg (eR r)):=by
 refine aW aA (rvs:=[.cell 6 32]) (ns:=fE) Tryz.func150 k k Tryz.ntmps150 k k k<|sR<|ae (cP k k k k) k<|ae (bW aA k k) k<|an<|tn<|sR<|am k k<|lp k8<|oB h λv1 hv1 h=>ae (cQ (aGQ a1 v1 hv1) k3 (aZ (pY k) aM)) k<|am k k<|oB h λv2 hv2 h=>ae (cL cX (aCx a2 v2 hv2) k3 (bX k aM)) k<|ae (iE aA k k k k k k) k<|ae (bW aA k k) k<|ae (bF aA k k k k k k k k) k<|an<|tn<|sQ<|sR<|fp k8<|lp k8<|ln k4<|am k k<|an<|tn<|aE<|oB h λy10 hy10 h=>bU (body:=(tX a1 a2)) hy10 (λ(x1:((List Mt)×Int))=>mN [(2,.list 1 (a2.map eI)),(4,.ptr 0 0 0),(6,.ptr 1 0 0),(7,.ptr 2 0 0),(17,.list 1 (a1.src.map eI)),(18,.int (a1.src.length:Int)),(19,.int x1.2)] [(0,⟨3,[eQ a1]⟩),(1,⟨6,[zG]⟩),(2,⟨6,[[.int a0,.int v1.n,.own 3 0 v1.src.length,.own 4 0 v1.tgt.length,.own 5 0 v2.length,.own 6 0 x1.1.length]]⟩),(3,⟨1,v1.src.map (ow eI)⟩),(4,⟨1,v1.tgt.map (ow eI)⟩),(5,⟨1,v2.map (ow eI)⟩),(6,⟨3,x1.1.map (ow eM)⟩)] 7) (λr e t=>e= .exit 0∧Ent t (mN [(6,.ptr 0 0 0),(7,.ptr 1 0 0)] [(0,⟨6,[zG]⟩),(1,⟨6,[[.int a0,.int v1.n,.own 2 0 v1.src.length,.own 3 0 v1.tgt.length,.own 4 0 v2.length,.own 5 0 r.length]]⟩),(2,⟨1,v1.src.map (ow eI)⟩),(3,⟨1,v1.tgt.map (ow eI)⟩),(4,⟨1,v2.map (ow eI)⟩),(5,⟨3,r.map (ow eM)⟩)] 6)) (fU (σ:=sg [(0,0),(1,1),(2,5),(3,2),(4,3),(5,4)]) (bE k2) (bK k<|bK k<|hX ⟨_,k,k,.inr ⟨_,_,k,⟨_,_,k,k,⟨_,_,k,k,⟨_,_,k,⟨k,k,k,k⟩,⟨_,_,k,⟨k,k,k,k⟩,⟨_,_,k,⟨k,k,k,k⟩,⟨_,_,k,⟨k,k,k,k⟩,k⟩⟩⟩⟩⟩⟩,k⟩⟩ k<|bO k<|bO k<|bO k<|hX k k<|aR) k) ?_ ?_
 ·intro x1 o h
  refine sR<|cm k4<|an<|tn<|sQ ?_
  rcases cb h with ⟨q3,h⟩|⟨q3,h⟩
  ·refine aC k q3<|aI<|tn<|sQ<|aE<|sR<|am k k<|oB h λv4 hv4 h=>ae (aP aA hv4 k k k k k k) k<|lr k7<|aa k k<|aT k2<|aS iL<|fp k8<|lp k8<|am k k<|fp k8<|lp k8<|am k k<|oB h λv5 hv5 h=>ae (aP aA hv5 k k k k k k) k<|lr k7<|oB h λv6 hv6 h=>ae (aP aA hv6 k k k k k k) k<|lr k7<|am k k<|am k k<|oB h λv7 hv7 h=>ae (aP aA hv7 k k k k k k) k<|lr k7<|oB h λv8 hv8 h=>ae (cM (aBO v6 v7 v8 hv8) k3 (bX k (bX k aM))) k ?_
   refine ae (cV aA k k k k k k k k k k k k) k<|cG h λq9 h=>ae (lF aA (l:=x1.1) (c:=[.int v8.rows,.int v8.cols,.own 7 0 v8.cells.length]) q9 k k k k k k k k k k k k k k) k<|fp k8<|ae (bF aA k k k k k k k k) k<|an<|wA (by kernel_rfl)<|aU<|tn<|aN (t:=mN [(2,.list 1 (a2.map eI)),(4,.ptr 0 0 0),(6,.ptr 1 0 0),(7,.ptr 2 0 0),(17,.list 1 (a1.src.map eI)),(18,.int (a1.src.length:Int)),(19,.int x1.2)] [(0,⟨3,[eQ a1]⟩),(1,⟨6,[zG]⟩),(2,⟨6,[[.int a0,.int v1.n,.own 3 0 v1.src.length,.own 4 0 v1.tgt.length,.own 5 0 v2.length,.own 9 0 ((x1.1++[v8]).length)]]⟩),(3,⟨1,v1.src.map (ow eI)⟩),(4,⟨1,v1.tgt.map (ow eI)⟩),(5,⟨1,v2.map (ow eI)⟩),(9,⟨3,List.map (ow eM) (x1.1++[v8])⟩)] 10) (Ent.trans (iK (b:=9) (b':=7) (j:=2) (es':=v8.cells.map eI) k k k k (aQ _ _) (cX.frzs _)) (bJ (bE k2) (bK k<|bK k<|hX ⟨_,k,k,.inr ⟨_,_,k,⟨_,_,k,k,⟨_,_,k,k,⟨_,_,k,⟨k,k,k,k⟩,⟨_,_,k,⟨k,k,k,k⟩,⟨_,_,k,⟨k,k,k,k⟩,⟨_,_,k,⟨k,k,(by simp only [aQ,lA,lT,lR,lC,lN]),k⟩,k⟩⟩⟩⟩⟩⟩,k⟩⟩ k<|bO k<|bO k<|bO k<|hX ⟨_,k,k,.inl ⟨pG v8 k,dI.plainO _⟩⟩ k<|aR) k4))<|rg<|ae (bB k k) k<|am k k<|an<|tn ?_
   obtain rfl:=so h
   exact ⟨_,k,(pI [0,1,2,3,4,5,9] (bE k2) (bK k<|bK k<|dK k<|bO k<|bO k<|bO k<|cE (dI.plainO _) k<|aR) k4)⟩
  ·refine aD k q3<|aV<|aB<|aB ?_
   obtain rfl:=so h
   exact ⟨_,k,k,(pI [1,2,3,4,5,6] (bE k2) (bK k<|dK k<|bO k<|bO k<|bO k<|cE (dI.plainO _) k<|aR) k4)⟩
 ·rintro e t ⟨rfl,hent⟩
  refine aL<|tn<|aN hent<|sR<|lp k8<|ae (bF aA k k k k k k k k) k<|an<|tn<|aH ?_
  obtain rfl:=so h
  exact bH k k k (nB (bA (k) (bA (k) (bA (eK cX k k) (bA (eK cX k k) (bA (eK cX k k) (bA (eK dI k k) fK)))))))
def jU (a0:Sc) (x1:((List Int)×Int)):Option (((List Int)×Int) ⊕ (List Int)):=
 bif decide (x1.2<(a0.basis.length:Int)) then
 ((cI a0.basis x1.2).bind λv2=>
 (fY v2).bind λv3=>
 bif decide (x1.1.length+[v3].length ≤4294967296) then
 (some (.inl ((x1.1++[v3]),wr (x1.2+1))))
 else none)
 else
 (some (.inr x1.1))
def gK (a0:Sc):Option (List Int):=
 (Lp (jU a0) ([],0)).bind λy5=>
 some (y5)
theorem aAb (a0:Sc) (r:(List Int)) (h:gK a0=some r):HasC Tryz.prog 153 [.agg (eS a0)] (.list 1 (r.map eI)):=by
 refine aW aA (rvs:=[.tmp 2]) (ns:=fE) Tryz.func153 k k Tryz.ntmps153 k k k<|sR<|ae (cP k k k k) k<|aT k2<|sR<|aT k2<|sQ<|sR<|fp k8<|lp k8<|ln k4<|am k k<|an<|tn<|aE<|oB h λy5 hy5 h=>bU (body:=(jU a0)) hy5 (λ(x1:((List Int)×Int))=>mN [(3,.own 0 0 x1.1.length),(7,.list 1 (a0.basis.map (dH 1 eI))),(8,.int (a0.basis.length:Int)),(9,.int x1.2)] [(0,⟨1,x1.1.map (ow eI)⟩)] 1) (λr e t=>e= .exit 0∧Ent t (mN [(3,.own 0 0 r.length)] [(0,⟨1,r.map (ow eI)⟩)] 1)) (fU (σ:=sg []) (gU ⟨_,k,⟨k,k,k,k⟩⟩ (bE k2)) (hX k k<|aR) k) ?_ ?_
 ·intro x1 o h
  refine sR<|cm k4<|an<|tn<|sQ ?_
  rcases cb h with ⟨q1,h⟩|⟨q1,h⟩
  ·refine aC k q1<|aI<|tn<|sQ<|aE<|sR<|oB h λv2 hv2 h=>ae (aP aA hv2 k k k k k k) k<|lr k7<|aT k2<|rg<|am k k<|am k k<|oB h λv3 hv3 h=>ae (aO (aCZ v2 v3 hv3) k (bX k aM)) k<|ae (cV aA k k k k k k k k k k k k) k<|cG h λq4 h=>ae (pF aA (l:=x1.1) (m:=[v3]) nD q4 k k k k k k k k k k k k) k<|aa k k<|an<|aU<|tn<|rg<|ae (bB k k) k<|am k k<|an<|tn ?_
   obtain rfl:=so h
   exact ⟨_,k,(pI [2] (bE k2) (bO k<|aR) k4)⟩
  ·refine aD k q1<|aV<|aB<|aB ?_
   obtain rfl:=so h
   exact ⟨_,k,k,(bJ (bE k2) (bO k<|aR) k4)⟩
 ·rintro e t ⟨rfl,hent⟩
  refine aL<|tn<|aN hent<|sR<|am k k<|aT k2<|aH ?_
  obtain rfl:=so h
  exact bH k k k (mJ (eK cX k k))
def lH (v2:(List Int)) (v7:(List Int)) (x2:((List Int)×Int)):Option (((List Int)×Int) ⊕ (List Int)):=
 bif decide (x2.2<((v2.length:Nat):Int)) then
 ((cI v2 x2.2).bind λv9=>
 (cI v7 v9).bind λv10=>
 bif decide (x2.1.length+[v10].length ≤4294967296) then
 (some (.inl ((x2.1++[v10]),wr (x2.2+1))))
 else none)
 else
 (some (.inr x2.1))
def lI (a0:Int) (a1:Sc) (v2:(List Int)) (v4:(List (List Int))) (x1:((List (List Int))×Int)):Option (((List (List Int))×Int) ⊕ (List (List Int))):=
 bif decide (x1.2<((v4.length:Nat):Int)) then
 ((cI v4 x1.2).bind λv6=>
 (iS a1 a0 v6).bind λv7=>
 (Lp (lH v2 v7) ([],0)).bind λy12=>
 bif decide (x1.1.length+1≤4294967296) then
 (some (.inl ((x1.1++[y12]),wr (x1.2+1))))
 else none)
 else
 (some (.inr x1.1))
def kZ (a0:Int) (a1:Sc):Option Mt:=
 (gK a1).bind λv1=>
 (gX a1.size v1).bind λv2=>
 (wN a1.size).bind λv3=>
 (lY v3).bind λv4=>
 (Lp (lI a0 a1 v2 v4) ([],0)).bind λy14=>
 (fB ((v2.length:Nat):Int) y14).bind λv15=>
 some (v15)
theorem aGR (a0:Int) (a1:Sc) (r:Mt) (h:kZ a0 a1=some r):HasC Tryz.prog 149 [.int a0,.agg (eS a1)] (.agg (eM r)):=by
 refine aW aA (rvs:=[.cell 4 113]) (ns:=fE) Tryz.func149 k k Tryz.ntmps149 k k k<|sR<|ae (cP k k k k) k<|ae (bW aA k k) k<|an<|tn<|sQ<|aS iL<|fp k8<|lp k8<|lp k8<|oB h λv1 hv1 h=>ae (cL cX (aAb a1 v1 hv1) k3 (aZ (pY k) aM)) k<|oB h λv2 hv2 h=>ae (cL cX (xS a1.size v1 v2 hv2) k3 (bX k (vcT k k aM))) k<|aa k k<|an<|wA (by kernel_rfl)<|tn<|sR<|aT k2<|sQ<|sR<|fp k8<|lp k8<|oB h λv3 hv3 h=>ae (cM (aKK a1.size v3 hv3) k3 (bX k aM)) k<|oB h λv4 hv4 h=>ae (cL bN (aCY v3 v4 hv4) k3 (aZ (vaM k2) aM)) k ?_
 refine ae (cF aA k k k k) k<|am k k<|an<|tn<|aE<|oB h λy14 hy14 h=>bU (body:=(lI a0 a1 v2 v4)) hy14 (λ(x1:((List (List Int))×Int))=>mN [(0,.int a0),(3,.ptr 0 0 0),(4,.ptr 1 0 0),(5,.own 2 0 v2.length),(6,.own 3 0 x1.1.length),(21,.own 4 0 v4.length),(22,.int ((v4.length:Nat):Int)),(23,.int x1.2)] [(0,⟨2,[eS a1]⟩),(1,⟨3,[gC]⟩),(2,⟨1,v2.map (ow eI)⟩),(3,⟨1,x1.1.map (ow (dH 1 eI))⟩),(4,⟨1,v4.map (ow (dH 1 eI))⟩)] 5) (λr e t=>e= .exit 0∧Ent t (mN [(4,.ptr 0 0 0),(5,.own 1 0 v2.length),(6,.own 2 0 r.length)] [(0,⟨3,[gC]⟩),(1,⟨1,v2.map (ow eI)⟩),(2,⟨1,r.map (ow (dH 1 eI))⟩)] 3)) (fU (σ:=sg [(0,0),(1,1),(2,3),(4,5)]) (mZ 4 k2 (gU ⟨_,k,⟨k,k,k,k⟩⟩ (bE k2))) (bK k<|bK k<|bO k<|hX k k<|cE (bN.plainO _) k<|aR) k) ?_ ?_
 ·intro x1 o h
  refine sR<|cm k4<|an<|tn<|sQ ?_
  rcases cb h with ⟨q5,h⟩|⟨q5,h⟩
  ·refine aC k q5<|aI<|tn<|sQ<|aE<|sR<|oB h λv6 hv6 h=>ae (bP aA (cO hv6) (cB hv6) k k k k k k k) k<|ae (bG aA k k k k (dL (bZ hv6)) k k) k<|aT k2<|sR<|lp k8<|am k k<|am k k<|oB h λv7 hv7 h=>ae (cL cX (aDB a1 a0 v6 v7 hv7) k3 (aZ (pY k) (bX k (bX k aM)))) k<|aT k2<|sR<|aT k2<|sQ<|sR<|am k k ?_
   refine ae (cF aA k k k k) k<|am k k<|an<|tn<|aE<|oB h λy12 hy12 h=>bU (body:=(lH v2 v7)) hy12 (λ(x2:((List Int)×Int))=>mN [(0,.int a0),(3,.ptr 0 0 0),(4,.ptr 1 0 0),(5,.own 2 0 v2.length),(6,.own 3 0 x1.1.length),(9,.own 4 0 v7.length),(10,.own 5 0 x2.1.length),(21,.own 6 0 v4.length),(22,.int ((v4.length:Nat):Int)),(23,.int x1.2),(31,.own 2 0 v2.length),(32,.int ((v2.length:Nat):Int)),(33,.int x2.2)] [(0,⟨2,[eS a1]⟩),(1,⟨3,[gC]⟩),(2,⟨1,v2.map (ow eI)⟩),(3,⟨1,x1.1.map (ow (dH 1 eI))⟩),(4,⟨1,v7.map (ow eI)⟩),(5,⟨1,x2.1.map (ow eI)⟩),(6,⟨1,v4.map (ow (dH 1 eI))⟩)] 7) (λr e t=>e= .exit 2∧Ent t (mN [(0,.int a0),(3,.ptr 0 0 0),(4,.ptr 1 0 0),(5,.own 2 0 v2.length),(6,.own 3 0 x1.1.length),(10,.own 4 0 r.length),(21,.own 5 0 v4.length),(22,.int ((v4.length:Nat):Int)),(23,.int x1.2)] [(0,⟨2,[eS a1]⟩),(1,⟨3,[gC]⟩),(2,⟨1,v2.map (ow eI)⟩),(3,⟨1,x1.1.map (ow (dH 1 eI))⟩),(4,⟨1,r.map (ow eI)⟩),(5,⟨1,v4.map (ow (dH 1 eI))⟩)] 6)) (fU (σ:=sg [(0,0),(1,1),(2,2),(3,3),(4,5),(6,4)]) (mZ 6 k2 (gU ⟨_,k,⟨k,k,k,k⟩⟩ (bE k2))) (bK k<|bK k<|bO k<|cE (bN.plainO _) k<|bO k<|hX k k<|cE (bN.plainO _) k<|aR) k) ?_ ?_
   ·intro x2 o h
    refine sR<|cm k4<|an<|tn<|sQ ?_
    rcases cb h with ⟨q8,h⟩|⟨q8,h⟩
    ·refine aC k q8<|aI<|tn<|sQ<|aE<|sR<|oB h λv9 hv9 h=>ae (bP aA (cO hv9) (cB hv9) k k k k k k k) k<|ae (bG aA k k k k (dL (bZ hv9)) k k) k<|aT k2<|rg<|am k k<|am k k<|am k k<|oB h λv10 hv10 h=>ae (bP aA (cO hv10) (cB hv10) k k k k k k k) k<|ae (bG aA k k k k (dL (bZ hv10)) k k) k<|ae (cV aA k k k k k k k k k k k k) k<|cG h λq11 h=>ae (pF aA (l:=x2.1) (m:=[v10]) nD q11 k k k k k k k k k k k k) k<|aa k k<|an<|aU<|tn<|rg<|ae (bB k k) k<|am k k<|an<|tn ?_
     obtain rfl:=so h
     exact ⟨_,k,(pI [0,1,2,3,4,8,6] (bE k2) (bK k<|bK k<|bO k<|cE (bN.plainO _) k<|bO k<|bO k<|cE (bN.plainO _) k<|aR) k4)⟩
    ·refine aD k q8<|aV<|aB<|aB ?_
     obtain rfl:=so h
     exact ⟨_,k,k,(pI [0,1,2,3,5,6] (bE k2) (bK k<|bK k<|bO k<|cE (bN.plainO _) k<|bO k<|cE (bN.plainO _) k<|aR) k4)⟩
   ·rintro e t ⟨rfl,hent⟩
    refine aL<|tn<|aN hent<|rg<|am k k<|am k k<|ae (cV aA k k k k k k k k k k k k) k<|cG h λq13 h=>ae (lF aA (l:=x1.1) (c:=[.own 4 0 y12.length]) q13 k k k k k k k k k k k k k k) k<|aa k k<|an<|aU<|tn<|aN (t:=mN [(0,.int a0),(3,.ptr 0 0 0),(4,.ptr 1 0 0),(5,.own 2 0 v2.length),(6,.own 7 0 ((x1.1++[y12]).length)),(21,.own 5 0 v4.length),(22,.int ((v4.length:Nat):Int)),(23,.int x1.2)] [(0,⟨2,[eS a1]⟩),(1,⟨3,[gC]⟩),(2,⟨1,v2.map (ow eI)⟩),(5,⟨1,v4.map (ow (dH 1 eI))⟩),(7,⟨1,List.map (ow (dH 1 eI)) (x1.1++[y12])⟩)] 8) (Ent.trans (iK (b:=7) (b':=4) (j:=0) (es':=y12.map eI) k k k k (aQ _ _) (cX.frzs _)) (bJ (mZ 4 k2 (gU ⟨_,k,⟨k,k,(by simp only [aQ,lA,lT,lR,lC,lN]),k⟩⟩ (bE k2))) (bK k<|bK k<|bO k<|cE (bN.plainO _) k<|hX ⟨_,k,k,.inl ⟨pG y12 k,bN.plainO _⟩⟩ k<|aR) k4))<|rg<|ae (bB k k) k<|am k k<|an<|tn ?_
    obtain rfl:=so h
    exact ⟨_,k,(pI [0,1,2,7,5] (bE k2) (bK k<|bK k<|bO k<|cE (bN.plainO _) k<|cE (bN.plainO _) k<|aR) k4)⟩
  ·refine aD k q5<|aV<|aB<|aB ?_
   obtain rfl:=so h
   exact ⟨_,k,k,(pI [1,2,3] (bE k2) (bK k<|bO k<|cE (bN.plainO _) k<|aR) k4)⟩
 ·rintro e t ⟨rfl,hent⟩
  refine aL<|tn<|aN hent<|sR<|am k k<|ae (cF aA k k k k) k<|am k k<|oB h λv15 hv15 h=>ae (cM (xW ((v2.length:Nat):Int) y14 v15 hv15) k3 (bX k (aZ (aDG bN k k) aM))) k<|ae (bF aA k k k k k k k k) k<|an<|tn<|aH ?_
  obtain rfl:=so h
  exact bH k k k (nB (bA (k) (bA (k) (bA (eK cX k k) fK))))
def mR (a0:Rp) (a1:(List Sc)) (x1:((List Int)×(List Mt)×Int)):Option (((List Int)×(List Mt)×Int) ⊕ ((List Int)×(List Mt))):=
 bif decide (x1.2.2<(a1.length:Int)) then
 ((cI a1 x1.2.2).bind λv2=>
 bif decide (x1.1.length+[wr (v2.size - (v2.basis.length:Int))].length ≤4294967296) then
 ((kZ a0.p v2).bind λv4=>
 bif decide (x1.2.1.length+1≤4294967296) then
 (some (.inl ((x1.1++[wr (v2.size - (v2.basis.length:Int))]),(x1.2.1++[v4]),wr (x1.2.2+1))))
 else none)
 else none)
 else
 (some (.inr (x1.1,x1.2.1)))
def mS (v14:Mt) (v16:(List Int)) (x3:((List (List Int))×Int)):Option (((List (List Int))×Int) ⊕ (List (List Int))):=
 bif decide (x3.2<((v16.length:Nat):Int)) then
 ((cI v16 x3.2).bind λv18=>
 (nV v14 v18).bind λv19=>
 bif decide (x3.1.length+1≤4294967296) then
 (some (.inl ((x3.1++[v19]),wr (x3.2+1))))
 else none)
 else
 (some (.inr x3.1))
def mT (a0:Rp) (a1:(List Sc)) (y6:((List Int)×(List Mt))) (x2:((List Mt)×Int)):Option (((List Mt)×Int) ⊕ (List Mt)):=
 bif decide (x2.2<(a0.maps.length:Int)) then
 ((cI a0.maps x2.2).bind λv9=>
 (cI a0.q.src x2.2).bind λv10=>
 (cI a1 v10).bind λv11=>
 (cI a0.q.tgt x2.2).bind λv12=>
 (cI y6.2 v12).bind λv13=>
 (zV a0.p v13 v9).bind λv14=>
 (gK v11).bind λv15=>
 (gX v11.size v15).bind λv16=>
 (Lp (mS v14 v16) ([],0)).bind λy21=>
 (fB v14.rows y21).bind λv22=>
 (cI x2.1 x2.2).bind λv23=>
 some (.inl ((x2.1.set x2.2.toNat v22),wr (x2.2+1))))
 else
 (some (.inr x2.1))
def mG (a0:Rp) (a1:(List Sc)):Option (Rp×(List Mt)):=
 (Lp (mR a0 a1) ([],[],0)).bind λy6=>
 (aAP a0.p a0.q y6.1).bind λv7=>
 (Lp (mT a0 a1 y6) (v7.maps,0)).bind λy24=>
 some (((⟨v7.p,v7.q,v7.dims,y24⟩:Rp),y6.2))
theorem aCj (a0:Rp) (a1:(List Sc)) (r:(Rp×(List Mt))) (h:mG a0 a1=some r):HasC Tryz.prog 103 [.agg (eR a0),.list 2 (a1.map eS)] (.tuple [.agg (eR r.1),.list 3 (r.2.map eM)]):=by
 refine aW aA (rvs:=[.cell 4 32,.tmp 5]) (ns:=fE) Tryz.func103 k k Tryz.ntmps103 k k k<|sR<|ae (cP k k k k) k<|ae (bW aA k k) k<|aT k2<|sR<|aT k2<|sR<|aT k2<|sQ<|sR<|am k k<|ln k4<|am k k<|an<|tn<|aE<|oB h λy6 hy6 h=>bU (body:=(mR a0 a1)) hy6 (λ(x1:((List Int)×(List Mt)×Int))=>mN [(1,.list 2 (a1.map eS)),(2,.ptr 0 0 0),(4,.ptr 1 0 0),(6,.own 2 0 x1.1.length),(7,.own 3 0 x1.2.1.length),(18,.list 2 (a1.map eS)),(19,.int (a1.length:Int)),(20,.int x1.2.2)] [(0,⟨6,[eR a0]⟩),(1,⟨6,[zG]⟩),(2,⟨1,x1.1.map (ow eI)⟩),(3,⟨3,x1.2.1.map (ow eM)⟩)] 4) (λr e t=>e= .exit 0∧Ent t (mN [(1,.list 2 (a1.map eS)),(2,.ptr 0 0 0),(4,.ptr 1 0 0),(6,.own 2 0 r.1.length),(7,.own 3 0 r.2.length)] [(0,⟨6,[eR a0]⟩),(1,⟨6,[zG]⟩),(2,⟨1,r.1.map (ow eI)⟩),(3,⟨3,r.2.map (ow eM)⟩)] 4)) (fU (σ:=sg [(0,0),(1,1)]) (mZ 3 k2 (gU ⟨_,k,⟨k,k,k,k⟩⟩ (gU ⟨_,k,⟨k,k,k,k⟩⟩ (bE k2)))) (bK k<|bK k<|hX k k<|hX k k<|aR) k) ?_ ?_
 ·intro x1 o h
  refine sR<|cm k4<|an<|tn<|sQ ?_
  rcases cb h with ⟨q1,h⟩|⟨q1,h⟩
  ·refine aC k q1<|aI<|tn<|sQ<|aE<|sR<|oB h λv2 hv2 h=>ae (aP aA hv2 k k k k k k) k<|lr k7<|ae (bW aA k k) k<|ae (bF aA k k k k k k k k) k<|an<|tn<|sR<|am k k<|fp k8<|lp k8<|fp k8<|lp k8<|ln k4<|ae (kH k k) k<|ae (cV aA k k k k k k k k k k k k) k<|cG h λq3 h=>ae (pF aA (l:=x1.1) (m:=[wr (v2.size - (v2.basis.length:Int))]) nD q3 k k k k k k k k k k k k) k<|aT k2<|rg<|am k k<|fp k8 ?_
   refine lp k8<|lp k8<|oB h λv4 hv4 h=>ae (cM (aGR a0.p v2 v4 hv4) k3 (bX k (aZ (pY k) aM))) k<|ae (cV aA k k k k k k k k k k k k) k<|cG h λq5 h=>ae (lF aA (l:=x1.2.1) (c:=[.int v4.rows,.int v4.cols,.own 7 0 v4.cells.length]) q5 k k k k k k k k k k k k k k) k<|aa k k<|an<|aU<|tn<|aN (t:=mN [(1,.list 2 (a1.map eS)),(2,.ptr 0 0 0),(4,.ptr 1 0 0),(6,.own 6 0 ((x1.1++[wr (v2.size - (v2.basis.length:Int))]).length)),(7,.own 9 0 ((x1.2.1++[v4]).length)),(18,.list 2 (a1.map eS)),(19,.int (a1.length:Int)),(20,.int x1.2.2)] [(0,⟨6,[eR a0]⟩),(1,⟨6,[zG]⟩),(6,⟨1,List.map (ow eI) (x1.1++[wr (v2.size - (v2.basis.length:Int))])⟩),(9,⟨3,List.map (ow eM) (x1.2.1++[v4])⟩)] 10) (Ent.trans (iK (b:=9) (b':=7) (j:=2) (es':=v4.cells.map eI) k k k k (aQ _ _) (cX.frzs _)) (bJ (mZ 4 k2 (gU ⟨_,k,⟨k,k,(by simp only [aQ,lA,lT,lR,lC,lN]),k⟩⟩ (bE k2))) (bK k<|bK k<|bO k<|hX ⟨_,k,k,.inl ⟨pG v4 k,dI.plainO _⟩⟩ k<|aR) k4))<|rg<|ae (bB k k) k<|am k k<|an<|tn ?_
   obtain rfl:=so h
   exact ⟨_,k,(pI [0,1,6,9] (bE k2) (bK k<|bK k<|bO k<|cE (dI.plainO _) k<|aR) k4)⟩
  ·refine aD k q1<|aV<|aB<|aB ?_
   obtain rfl:=so h
   exact ⟨_,k,k,(bJ (bE k2) (bK k<|bK k<|bO k<|cE (dI.plainO _) k<|aR) k4)⟩
 ·rintro e t ⟨rfl,hent⟩
  refine aL<|tn<|aN hent<|sR<|fp k8<|lp k8<|fp k8<|lp k8<|am k k<|oB h λv7 hv7 h=>ae (cR (aMd a0.p a0.q y6.1 v7 hv7) k3 (bX k (aZ (pY k) (vcT k k aM)))) k<|ae (bW aA k k) k<|ae (bF aA k k k k k k k k) k<|an<|tn<|sQ<|sR<|fp k8<|lp k8<|ln k4<|am k k<|an<|tn<|aE<|oB h λy24 hy24 h=>bU (body:=(mT a0 a1 y6)) hy24 (λ(x2:((List Mt)×Int))=>mN [(1,.list 2 (a1.map eS)),(2,.ptr 0 0 0),(4,.ptr 1 0 0),(7,.own 2 0 y6.2.length),(10,.ptr 3 0 0),(48,.list 3 (a0.maps.map eM)),(49,.int (a0.maps.length:Int)),(50,.int x2.2)] [(0,⟨6,[eR a0]⟩),(1,⟨6,[zG]⟩),(2,⟨3,y6.2.map (ow eM)⟩),(3,⟨6,[[.int v7.p,.int v7.q.n,.own 4 0 v7.q.src.length,.own 5 0 v7.q.tgt.length,.own 6 0 v7.dims.length,.own 7 0 x2.1.length]]⟩),(4,⟨1,v7.q.src.map (ow eI)⟩),(5,⟨1,v7.q.tgt.map (ow eI)⟩),(6,⟨1,v7.dims.map (ow eI)⟩),(7,⟨3,x2.1.map (ow eM)⟩)] 8) (λr e t=>e= .exit 2∧Ent t (mN [(4,.ptr 0 0 0),(7,.own 1 0 y6.2.length),(10,.ptr 2 0 0)] [(0,⟨6,[zG]⟩),(1,⟨3,y6.2.map (ow eM)⟩),(2,⟨6,[[.int v7.p,.int v7.q.n,.own 3 0 v7.q.src.length,.own 4 0 v7.q.tgt.length,.own 5 0 v7.dims.length,.own 6 0 r.length]]⟩),(3,⟨1,v7.q.src.map (ow eI)⟩),(4,⟨1,v7.q.tgt.map (ow eI)⟩),(5,⟨1,v7.dims.map (ow eI)⟩),(6,⟨3,r.map (ow eM)⟩)] 7)) (pI [0,1,3,8,4,5,6,7] (bE k2) (bK k<|bK k<|cE (dI.plainO _) k<|dK k<|bO k<|bO k<|bO k<|cE (dI.plainO _) k<|aR) k4) ?_ ?_
  ·intro x2 o h
   refine sR<|cm k4<|an<|tn<|sQ ?_
   rcases cb h with ⟨q8,h⟩|⟨q8,h⟩
   ·refine aC k q8<|aI<|tn<|sQ<|aE<|sR<|am k k<|oB h λv9 hv9 h=>ae (aP aA hv9 k k k k k k) k<|lr k7<|ae (bW aA k k) k<|aa k k<|ae (bF aA k k k k k k k k) k<|an<|tn<|sR<|am k k<|fp k8<|fp k8<|lp k8<|am k k<|oB h λv10 hv10 h=>ae (aP aA hv10 k k k k k k) k<|lr k7<|oB h λv11 hv11 h=>ae (aP aA hv11 k k k k k k) k<|lr k7<|ae (bW aA k k) k<|ae (bF aA k k k k k k k k) k<|an<|tn ?_
    refine sQ<|aS iL<|fp k8<|lp k8<|am k k<|fp k8<|fp k8<|lp k8<|am k k<|oB h λv12 hv12 h=>ae (aP aA hv12 k k k k k k) k<|lr k7<|oB h λv13 hv13 h=>ae (bP aA (cO hv13) (cB hv13) k k k k k k k) k<|ae (bG aA k k k k (dL (bZ hv13)) k k) k<|lp k8<|oB h λv14 hv14 h=>ae (cM (aHu a0.p v13 v9 v14 hv14) k3 (bX k (aZ (pY k) (aZ (pY k) aM)))) k<|ae (bW aA k k) k<|ae (bF aA k k k k k k k k) k<|an<|wA (by kernel_rfl)<|tn<|aN (t:=mN [(1,.list 2 (a1.map eS)),(2,.ptr 0 0 0),(4,.ptr 1 0 0),(7,.own 2 0 y6.2.length),(10,.ptr 3 0 0),(11,.int x2.2),(13,.ptr 9 0 0),(14,.ptr 11 0 0),(48,.list 3 (a0.maps.map eM)),(49,.int (a0.maps.length:Int)),(50,.int x2.2)] [(0,⟨6,[eR a0]⟩),(1,⟨6,[zG]⟩),(2,⟨3,y6.2.map (ow eM)⟩),(3,⟨6,[[.int v7.p,.int v7.q.n,.own 4 0 v7.q.src.length,.own 5 0 v7.q.tgt.length,.own 6 0 v7.dims.length,.own 7 0 x2.1.length]]⟩),(4,⟨1,v7.q.src.map (ow eI)⟩),(5,⟨1,v7.q.tgt.map (ow eI)⟩),(6,⟨1,v7.dims.map (ow eI)⟩),(7,⟨3,x2.1.map (ow eM)⟩),(9,⟨2,[eS v11]⟩),(10,⟨1,v14.cells.map (ow eI)⟩),(11,⟨3,[oMt v14 10]⟩)] 12) (bJ (bE k2) (bK k<|bK k<|cE (dI.plainO _) k<|dK k<|bO k<|bO k<|bO k<|cE (dI.plainO _) k<|bK k<|bO k<|dK k<|aR) k4)<|sR<|aT k2<|sQ<|sQ<|aS iL<|fp k8 ?_
    refine lp k8<|lp k8<|oB h λv15 hv15 h=>ae (cL cX (aAb v11 v15 hv15) k3 (aZ (pY k) aM)) k<|oB h λv16 hv16 h=>ae (cL cX (xS v11.size v15 v16 hv16) k3 (bX k (vcT k k aM))) k<|ae (cF aA k k k k) k<|am k k<|an<|wA (by kernel_rfl)<|tn<|aE<|oB h λy21 hy21 h=>bU (body:=(mS v14 v16)) hy21 (λ(x3:((List (List Int))×Int))=>mN [(1,.list 2 (a1.map eS)),(2,.ptr 0 0 0),(4,.ptr 1 0 0),(7,.own 2 0 y6.2.length),(10,.ptr 3 0 0),(11,.int x2.2),(14,.ptr 8 0 0),(15,.own 10 0 x3.1.length),(48,.list 3 (a0.maps.map eM)),(49,.int (a0.maps.length:Int)),(50,.int x2.2),(81,.own 11 0 v16.length),(82,.int ((v16.length:Nat):Int)),(83,.int x3.2)] [(0,⟨6,[eR a0]⟩),(1,⟨6,[zG]⟩),(2,⟨3,y6.2.map (ow eM)⟩),(3,⟨6,[[.int v7.p,.int v7.q.n,.own 4 0 v7.q.src.length,.own 5 0 v7.q.tgt.length,.own 6 0 v7.dims.length,.own 7 0 x2.1.length]]⟩),(4,⟨1,v7.q.src.map (ow eI)⟩),(5,⟨1,v7.q.tgt.map (ow eI)⟩),(6,⟨1,v7.dims.map (ow eI)⟩),(7,⟨3,x2.1.map (ow eM)⟩),(8,⟨3,[oMt v14 9]⟩),(9,⟨1,v14.cells.map (ow eI)⟩),(10,⟨1,x3.1.map (ow (dH 1 eI))⟩),(11,⟨1,v16.map (ow eI)⟩)] 12) (λr e t=>e= .exit 4∧Ent t (mN [(1,.list 2 (a1.map eS)),(2,.ptr 0 0 0),(4,.ptr 1 0 0),(7,.own 2 0 y6.2.length),(10,.ptr 3 0 0),(11,.int x2.2),(14,.ptr 8 0 0),(15,.own 10 0 r.length),(48,.list 3 (a0.maps.map eM)),(49,.int (a0.maps.length:Int)),(50,.int x2.2)] [(0,⟨6,[eR a0]⟩),(1,⟨6,[zG]⟩),(2,⟨3,y6.2.map (ow eM)⟩),(3,⟨6,[[.int v7.p,.int v7.q.n,.own 4 0 v7.q.src.length,.own 5 0 v7.q.tgt.length,.own 6 0 v7.dims.length,.own 7 0 x2.1.length]]⟩),(4,⟨1,v7.q.src.map (ow eI)⟩),(5,⟨1,v7.q.tgt.map (ow eI)⟩),(6,⟨1,v7.dims.map (ow eI)⟩),(7,⟨3,x2.1.map (ow eM)⟩),(8,⟨3,[oMt v14 9]⟩),(9,⟨1,v14.cells.map (ow eI)⟩),(10,⟨1,r.map (ow (dH 1 eI))⟩)] 11)) (fU (σ:=sg [(0,0),(1,1),(2,2),(3,3),(4,4),(5,5),(6,6),(7,7),(8,11),(9,10),(11,13)]) (mZ 7 k2 (gU ⟨_,k,⟨k,k,k,k⟩⟩ (bE k2))) (bK k<|bK k<|cE (dI.plainO _) k<|dK k<|bO k<|bO k<|bO k<|cE (dI.plainO _) k<|dK k<|bO k<|hX k k<|bO k<|aR) k) ?_ ?_
    ·intro x3 o h
     refine sR<|cm k4<|an<|tn<|sQ ?_
     rcases cb h with ⟨q17,h⟩|⟨q17,h⟩
     ·refine aC k q17<|aI<|tn<|sQ<|aE<|sR<|oB h λv18 hv18 h=>ae (bP aA (cO hv18) (cB hv18) k k k k k k k) k<|ae (bG aA k k k k (dL (bZ hv18)) k k) k<|aT k2<|rg<|am k k<|lp k8<|am k k<|oB h λv19 hv19 h=>ae (cL cX (aFG v14 v18 v19 hv19) k3 (aZ (vaM k2) (bX k aM))) k<|ae (cV aA k k k k k k k k k k k k) k<|cG h λq20 h=>ae (lF aA (l:=x3.1) (c:=[.own 12 0 v19.length]) q20 k k k k k k k k k k k k k k) k<|aa k k<|an<|aU<|tn<|aN (t:=mN [(1,.list 2 (a1.map eS)),(2,.ptr 0 0 0),(4,.ptr 1 0 0),(7,.own 2 0 y6.2.length),(10,.ptr 3 0 0),(11,.int x2.2),(14,.ptr 8 0 0),(15,.own 14 0 ((x3.1++[v19]).length)),(48,.list 3 (a0.maps.map eM)),(49,.int (a0.maps.length:Int)),(50,.int x2.2),(81,.own 11 0 v16.length),(82,.int ((v16.length:Nat):Int)),(83,.int x3.2)] [(0,⟨6,[eR a0]⟩),(1,⟨6,[zG]⟩),(2,⟨3,y6.2.map (ow eM)⟩),(3,⟨6,[[.int v7.p,.int v7.q.n,.own 4 0 v7.q.src.length,.own 5 0 v7.q.tgt.length,.own 6 0 v7.dims.length,.own 7 0 x2.1.length]]⟩),(4,⟨1,v7.q.src.map (ow eI)⟩),(5,⟨1,v7.q.tgt.map (ow eI)⟩),(6,⟨1,v7.dims.map (ow eI)⟩),(7,⟨3,x2.1.map (ow eM)⟩),(8,⟨3,[oMt v14 9]⟩),(9,⟨1,v14.cells.map (ow eI)⟩),(11,⟨1,v16.map (ow eI)⟩),(14,⟨1,List.map (ow (dH 1 eI)) (x3.1++[v19])⟩)] 15) (Ent.trans (iK (b:=14) (b':=12) (j:=0) (es':=v19.map eI) k k k k (aQ _ _) (cX.frzs _)) (bJ (mZ 7 k2 (gU ⟨_,k,⟨k,k,(by simp only [aQ,lA,lT,lR,lC,lN]),k⟩⟩ (bE k2))) (bK k<|bK k<|cE (dI.plainO _) k<|dK k<|bO k<|bO k<|bO k<|cE (dI.plainO _) k<|dK k<|bO k<|bO k<|hX ⟨_,k,k,.inl ⟨pG v19 k,bN.plainO _⟩⟩ k<|aR) k4))<|rg<|ae (bB k k) k<|am k k<|an<|tn ?_
      obtain rfl:=so h
      exact ⟨_,k,(pI [0,1,2,3,4,5,6,7,8,9,14,11] (bE k2) (bK k<|bK k<|cE (dI.plainO _) k<|dK k<|bO k<|bO k<|bO k<|cE (dI.plainO _) k<|dK k<|bO k<|cE (bN.plainO _) k<|bO k<|aR) k4)⟩
     ·refine aD k q17<|aV<|aB<|aB ?_
      obtain rfl:=so h
      exact ⟨_,k,k,(bJ (bE k2) (bK k<|bK k<|cE (dI.plainO _) k<|dK k<|bO k<|bO k<|bO k<|cE (dI.plainO _) k<|dK k<|bO k<|cE (bN.plainO _) k<|aR) k4)⟩
    ·rintro e t ⟨rfl,hent⟩
     refine aL<|tn<|aN hent<|aS iL<|fp k8<|lp k8<|am k k<|fp k8<|lp k8<|am k k<|oB h λv22 hv22 h=>ae (cM (xW v14.rows y21 v22 hv22) k3 (bX k (aZ (aDG bN k k) aM))) k<|oB h λv23 hv23 h=>ae (bP aA (cO hv23) (cB hv23) k k k k k k k) k<|ae (bF aA k k k k k k (dL (bZ hv23)) k) k<|an<|wA (by kernel_rfl)<|aU<|tn<|rg<|ae (bB k k) k<|am k k<|an<|tn ?_
     obtain rfl:=so h
     exact ⟨_,k,(Ent.trans (show Ent _ (mN [(1,.list 2 (a1.map eS)),(2,.ptr 0 0 0),(4,.ptr 1 0 0),(7,.own 2 0 y6.2.length),(10,.ptr 3 0 0),(48,.list 3 (a0.maps.map eM)),(49,.int (a0.maps.length:Int)),(50,.int (wr (x2.2+1)))] [(0,⟨6,[eR a0]⟩),(1,⟨6,[zG]⟩),(2,⟨3,y6.2.map (ow eM)⟩),(3,⟨6,[[.int v7.p,.int v7.q.n,.own 4 0 v7.q.src.length,.own 5 0 v7.q.tgt.length,.own 6 0 v7.dims.length,.own 7 0 ((x2.1.set x2.2.toNat v22).length)]]⟩),(4,⟨1,v7.q.src.map (ow eI)⟩),(5,⟨1,v7.q.tgt.map (ow eI)⟩),(6,⟨1,v7.dims.map (ow eI)⟩),(7,⟨3,List.map (ow eM) (x2.1.set x2.2.toNat v22)⟩)] 12) from (Ent.trans (aEx (b:=7) (b':=11) (j:=2) (es':=v22.cells.map eI) (by rw [List.length_map];exact cB hv23) k k k k (aQ _ _) (cX.frzs _)) (bJ (bE k2) (bK k<|bK k<|cE (dI.plainO _) k<|hX ⟨_,k,k,.inr ⟨_,_,k,⟨_,_,k,k,⟨_,_,k,k,⟨_,_,k,⟨k,k,k,k⟩,⟨_,_,k,⟨k,k,k,k⟩,⟨_,_,k,⟨k,k,k,k⟩,⟨_,_,k,⟨k,k,(by simp only [aQ,lA,lT,lR,lC,lN]),k⟩,k⟩⟩⟩⟩⟩⟩,k⟩⟩ k<|bO k<|bO k<|bO k<|hX ⟨_,k,k,.inl ⟨aLi v22 k,dI.plainO _⟩⟩ k<|aR) k4))) (bJ (bE k2) (bK k<|bK k<|cE (dI.plainO _) k<|dK k<|bO k<|bO k<|bO k<|cE (dI.plainO _) k<|aR) k4))⟩
   ·refine aD k q8<|aV<|aB<|aB ?_
    obtain rfl:=so h
    exact ⟨_,k,k,(pI [1,2,3,4,5,6,7] (bE k2) (bK k<|cE (dI.plainO _) k<|dK k<|bO k<|bO k<|bO k<|cE (dI.plainO _) k<|aR) k4)⟩
  ·rintro e t ⟨rfl,hent⟩
   refine aL<|tn<|aN hent<|sR<|lp k8<|am k k<|ae (bF aA k k k k k k k k) k<|aT k2<|aH ?_
   obtain rfl:=so h
   exact bH k k k (dW k (cA (xR (bA (k) (bA (k) (bA (eK cX k k) (bA (eK cX k k) (bA (eK cX k k) (bA (eK dI k k) fK))))))) (cA (nC (eK dI k k)) gT)))
def eZ (a1:(List Int)) (x1:(Int×Int×(List Int)×(List Int)×(List Int)×(List Mt)×(List (List Int)))):Option ((Int×Int×(List Int)×(List Int)×(List Int)×(List Mt)×(List (List Int))) ⊕ (List (List Int))):=
 (eN x1.2.2.2.2.1).bind λv9=>
 bif decide (0<v9) then
 ((nZ (⟨x1.1,(⟨x1.2.1,x1.2.2.1,x1.2.2.2.1⟩:Qv),x1.2.2.2.2.1,x1.2.2.2.2.2.1⟩:Rp) a1).bind λv11=>
 (mB v11).bind λv12=>
 bif decide (x1.2.2.2.2.2.2.length+1≤4294967296) then
 ((mG (⟨x1.1,(⟨x1.2.1,x1.2.2.1,x1.2.2.2.1⟩:Qv),x1.2.2.2.2.1,x1.2.2.2.2.2.1⟩:Rp) v11).bind λv14=>
 some (.inl (v14.1.p,v14.1.q.n,v14.1.q.src,v14.1.q.tgt,v14.1.dims,v14.1.maps,(x1.2.2.2.2.2.2++[v12]))))
 else none)
 else
 (some (.inr x1.2.2.2.2.2.2))
def dM (a1:(List Int)) (x2:(Int×Int×(List Int)×(List Int)×(List Int)×(List Mt)×(List (List Int)))):Option ((Int×Int×(List Int)×(List Int)×(List Int)×(List Mt)×(List (List Int))) ⊕ (List (List Int))):=
 (eN x2.2.2.2.2.1).bind λv16=>
 bif decide (0<v16) then
 ((nZ (⟨x2.1,(⟨x2.2.1,x2.2.2.1,x2.2.2.2.1⟩:Qv),x2.2.2.2.2.1,x2.2.2.2.2.2.1⟩:Rp) a1).bind λv18=>
 (mB v18).bind λv19=>
 bif decide (x2.2.2.2.2.2.2.length+1≤4294967296) then
 ((mG (⟨x2.1,(⟨x2.2.1,x2.2.2.1,x2.2.2.2.1⟩:Qv),x2.2.2.2.2.1,x2.2.2.2.2.2.1⟩:Rp) v18).bind λv21=>
 some (.inl (v21.1.p,v21.1.q.n,v21.1.q.src,v21.1.q.tgt,v21.1.dims,v21.1.maps,(x2.2.2.2.2.2.2++[v19]))))
 else none)
 else
 (some (.inr x2.2.2.2.2.2.2))
def iT (a0:Rp) (a1:(List Int)):Option ((List (List Int))×Bool):=
 (vE a0).bind λv1=>
 bif !v1 then
 (some (([],false)))
 else
 ((vT a1 a0.dims).bind λv3=>
 bif !v3 then
 (some (([],false)))
 else
 ((eN a0.dims).bind λv5=>
 bif decide (0<v5) then
 ((uK a0).bind λv7=>
 bif !v7 then
 (some (([],false)))
 else
 ((Lp (eZ a1) (a0.p,a0.q.n,a0.q.src,a0.q.tgt,a0.dims,a0.maps,[])).bind λy15=>
 some ((y15,true))))
 else
 ((Lp (dM a1) (a0.p,a0.q.n,a0.q.src,a0.q.tgt,a0.dims,a0.maps,[])).bind λy22=>
 some ((y22,true)))))
theorem aAQ (a0:Rp) (a1:(List Int)) (r:((List (List Int))×Bool)) (h:iT a0 a1=some r):HasC Tryz.prog 44 [.agg (eR a0),.list 1 (a1.map eI)] (.tuple [.list 1 (r.1.map (dH 1 eI)),.bl r.2]):=by
 refine aW aA (rvs:=[.tmp 4,.tmp 5]) (ns:=fE) Tryz.func44 k k Tryz.ntmps44 k k k<|sR<|ae (cP k k k k) k<|aa k k<|aT k2<|sQ<|sR<|lp k8<|oB h λv1 hv1 h=>ae (aO (aEC a0 v1 hv1) k (aZ (pY k) aM)) k<|ae (dG k) k<|am k k ?_
 rcases cb h with ⟨q2,h⟩|⟨q2,h⟩
 ·refine aJ 11 k q2<|aK k4<|aK k4<|ak k k<|pk k3<|am k k<|aK k4<|aK k4<|aK k4<|aK k4<|ak k k<|pk k3<|an<|tn<|aN (t:=mN [(1,.list 1 (a1.map eI)),(2,.ptr 0 0 0),(28,.bl true)] [(0,⟨6,[eR a0]⟩)] 1) (bJ (bE k2) (bK k<|aR) k4)<|aC k k<|sR<|aa k k<|aT k2<|aH<|aG ?_
  obtain rfl:=so h
  exact bH k k k (dW k (cA (nC (k)) (cA (k) gT)))
 ·refine aJ 11 k q2<|am k k<|fp k8<|lp k8<|oB h λv3 hv3 h=>ae (aO (aJU a1 a0.dims v3 hv3) k (bX k (bX k aM))) k<|ae (dG k) k<|pk k3<|am k k ?_
  rcases cb h with ⟨q4,h⟩|⟨q4,h⟩
  ·refine aJ 18 k q4<|aK k4<|aK k4<|aK k4<|aK k4<|ak k k<|pk k3<|an<|tn<|aN (t:=mN [(1,.list 1 (a1.map eI)),(2,.ptr 0 0 0),(28,.bl true)] [(0,⟨6,[eR a0]⟩)] 1) (bJ (bE k2) (bK k<|aR) k4)<|aC k k<|sR<|aa k k<|aT k2<|aH<|aG ?_
   obtain rfl:=so h
   exact bH k k k (dW k (cA (nC (k)) (cA (k) gT)))
  ·refine aJ 18 k q4<|fp k8<|lp k8<|oB h λv5 hv5 h=>ae (aO (jR a0.dims v5 hv5) k (bX k aM)) k<|cm k4<|am k k ?_
   rcases cb h with ⟨q6,h⟩|⟨q6,h⟩
   ·refine aJ 23 k q6<|lp k8<|oB h λv7 hv7 h=>ae (aO (aMP a0 v7 hv7) k (aZ (pY k) aM)) k<|ae (dG k) k<|pk k3<|pk k3<|an<|tn<|aN (t:=mN [(1,.list 1 (a1.map eI)),(2,.ptr 0 0 0),(28,.bl (!v7))] [(0,⟨6,[eR a0]⟩)] 1) (bJ (bE k2) (bK k<|aR) k4) ?_
    rcases cb h with ⟨q8,h⟩|⟨q8,h⟩
    ·refine aC k q8<|sR<|aa k k<|aT k2<|aH<|aG ?_
     obtain rfl:=so h
     exact bH k k k (dW k (cA (nC (k)) (cA (k) gT)))
    ·refine aD k q8<|aI<|tn<|sR<|aT k2<|sQ<|aE<|oB h λy15 hy15 h=>bU (body:=(eZ a1)) hy15 (λ(x1:(Int×Int×(List Int)×(List Int)×(List Int)×(List Mt)×(List (List Int))))=>mN [(1,.list 1 (a1.map eI)),(2,.ptr 0 0 0),(6,.own 1 0 x1.2.2.2.2.2.2.length)] [(0,⟨6,[[.int x1.1,.int x1.2.1,.list 1 (x1.2.2.1.map eI),.list 1 (x1.2.2.2.1.map eI),.list 1 (x1.2.2.2.2.1.map eI),.list 3 (x1.2.2.2.2.2.1.map eM)]]⟩),(1,⟨1,x1.2.2.2.2.2.2.map (ow (dH 1 eI))⟩)] 2) (λr e t=>e= .exit 0∧Ent t (mN [(6,.own 0 0 r.length)] [(0,⟨1,r.map (ow (dH 1 eI))⟩)] 1)) (fU (σ:=sg [(0,0)]) (mZ 2 k2 (gU ⟨_,k,⟨k,k,k,k⟩⟩ aR)) (bK k<|hX k k<|aR) k) ?_ ?_
     ·intro x1 o h
      refine sQ<|sR<|fp k8<|lp k8<|oB h λv9 hv9 h=>ae (aO (jR x1.2.2.2.2.1 v9 hv9) k (bX k aM)) k<|cm k4<|an<|tn ?_
      rcases cb h with ⟨q10,h⟩|⟨q10,h⟩
      ·refine aC k q10<|aI<|tn<|aE<|sR<|lp k8<|am k k<|oB h λv11 hv11 h=>ae (cL cY (aDC (⟨x1.1,(⟨x1.2.1,x1.2.2.1,x1.2.2.2.1⟩:Qv),x1.2.2.2.2.1,x1.2.2.2.2.2.1⟩:Rp) a1 v11 hv11) k3 (aZ (pY k) (bX k aM))) k<|aT k2<|sR<|am k k<|am k k<|oB h λv12 hv12 h=>ae (cL cX (aAE v11 v12 hv12) k3 (aZ (aDG cY k k) aM)) k<|ae (cV aA k k k k k k k k k k k k) k<|cG h λq13 h=>ae (lF aA (l:=x1.2.2.2.2.2.2) (c:=[.own 3 0 v12.length]) q13 k k k k k k k k k k k k k k) k<|aT k2<|aN (t:=mN [(1,.list 1 (a1.map eI)),(2,.ptr 0 0 0),(6,.own 5 0 ((x1.2.2.2.2.2.2++[v12]).length)),(7,.own 2 0 v11.length)] [(0,⟨6,[[.int x1.1,.int x1.2.1,.list 1 (x1.2.2.1.map eI),.list 1 (x1.2.2.2.1.map eI),.list 1 (x1.2.2.2.2.1.map eI),.list 3 (x1.2.2.2.2.2.1.map eM)]]⟩),(2,⟨2,v11.map (ow eS)⟩),(5,⟨1,List.map (ow (dH 1 eI)) (x1.2.2.2.2.2.2++[v12])⟩)] 6) (Ent.trans (iK (b:=5) (b':=3) (j:=0) (es':=v12.map eI) k k k k (aQ _ _) (cX.frzs _)) (bJ (mZ 2 k2 (gU ⟨_,k,⟨k,k,(by simp only [aQ,lA,lT,lR,lC,lN]),k⟩⟩ (bE k2))) (bK k<|cE (cY.plainO _) k<|hX ⟨_,k,k,.inl ⟨pG v12 k,bN.plainO _⟩⟩ k<|aR) k4))<|rg<|lp k8<|am k k<|oB h λv14 hv14 h=>ae (AEff.conv (oT (x:= .tuple [.agg [.int v14.1.p,.int v14.1.q.n,.own 6 0 (v14.1.q.src.map eI).length,.own 7 0 (v14.1.q.tgt.map eI).length,.own 8 0 (v14.1.dims.map eI).length,.own 9 0 (v14.1.maps.map eM).length],.own 10 0 (v14.2.map eM).length]) (nb:=[(6,⟨1,cU (v14.1.q.src.map eI)⟩),(7,⟨1,cU (v14.1.q.tgt.map eI)⟩),(8,⟨1,cU (v14.1.dims.map eI)⟩),(9,⟨3,cU (v14.1.maps.map eM)⟩),(10,⟨3,cU (v14.2.map eM)⟩)]) (aCj (⟨x1.1,(⟨x1.2.1,x1.2.2.1,x1.2.2.2.1⟩:Qv),x1.2.2.2.2.1,x1.2.2.2.2.2.1⟩:Rp) v11 v14 hv14) k (by rfl) k k (gP (cK aR (cK aR (cK (cX.good _) (cK (cX.good _) (cK (cX.good _) (cK (dI.good _) zL)))))) (gP (dI.good _) aBZ)) (aZ (pY k) (aZ (aDG cY k k) aM))) (v':= .tuple [.agg [.int v14.1.p,.int v14.1.q.n,.own 6 0 v14.1.q.src.length,.own 7 0 v14.1.q.tgt.length,.own 8 0 v14.1.dims.length,.own 9 0 v14.1.maps.length],.own 10 0 v14.2.length]) (ed':=[(6,some ⟨1,v14.1.q.src.map (ow eI)⟩),(7,some ⟨1,v14.1.q.tgt.map (ow eI)⟩),(8,some ⟨1,v14.1.dims.map (ow eI)⟩),(9,some ⟨3,v14.1.maps.map (ow eM)⟩),(10,some ⟨3,v14.2.map (ow eM)⟩)]) (by simp only [aQ]) (aBL (nb':=[(6,⟨1,v14.1.q.src.map (ow eI)⟩),(7,⟨1,v14.1.q.tgt.map (ow eI)⟩),(8,⟨1,v14.1.dims.map (ow eI)⟩),(9,⟨3,v14.1.maps.map (ow eM)⟩),(10,⟨3,v14.2.map (ow eM)⟩)]) (by simp only [jP]))) k<|am k k<|ae (bY k k (by intro _ h;cases h)) k<|ae (bY k k (by intro _ h;cases h)) k ?_
       refine ae (bF aA k k k k k k k k) k<|an<|aU<|tn ?_
       obtain rfl:=so h
       exact ⟨_,k,(Ent.trans (Ent.trans (Ent.trans (Ent.trans (pS (b:=0) (b':=6) (i:=0) (j:=2) (es':=v14.1.q.src.map eI) k k k k (aBY cX k k)) (pS (b:=0) (b':=7) (i:=0) (j:=3) (es':=v14.1.q.tgt.map eI) k k k k (aBY cX k k))) (pS (b:=0) (b':=8) (i:=0) (j:=4) (es':=v14.1.dims.map eI) k k k k (aBY cX k k))) (pS (b:=0) (b':=9) (i:=0) (j:=5) (es':=v14.1.maps.map eM) k k k k (aBY dI k k))) (pI [0,5] (bE k2) (bK k<|cE (bN.plainO _) k<|aR) k4))⟩
      ·refine aD k q10<|aV<|aB<|aB ?_
       obtain rfl:=so h
       exact ⟨_,k,k,(pI [1] (bE k2) (cE (bN.plainO _) k<|aR) k4)⟩
     ·rintro e t ⟨rfl,hent⟩
      refine aL<|tn<|aN hent<|sR<|am k k<|aa k k<|aT k2<|aH ?_
      obtain rfl:=so h
      exact bH k k k (dW k (cA (nC (eK bN k k)) (cA (k) gT)))
   ·refine aJ 23 k q6<|aK k4<|ak k k<|pk k3<|pk k3<|an<|tn<|aN (t:=mN [(1,.list 1 (a1.map eI)),(2,.ptr 0 0 0),(28,.bl false)] [(0,⟨6,[eR a0]⟩)] 1) (bJ (bE k2) (bK k<|aR) k4)<|aD k k<|aI<|tn<|sR<|aT k2<|sQ<|aE<|oB h λy22 hy22 h=>bU (body:=(dM a1)) hy22 (λ(x2:(Int×Int×(List Int)×(List Int)×(List Int)×(List Mt)×(List (List Int))))=>mN [(1,.list 1 (a1.map eI)),(2,.ptr 0 0 0),(6,.own 1 0 x2.2.2.2.2.2.2.length)] [(0,⟨6,[[.int x2.1,.int x2.2.1,.list 1 (x2.2.2.1.map eI),.list 1 (x2.2.2.2.1.map eI),.list 1 (x2.2.2.2.2.1.map eI),.list 3 (x2.2.2.2.2.2.1.map eM)]]⟩),(1,⟨1,x2.2.2.2.2.2.2.map (ow (dH 1 eI))⟩)] 2) (λr e t=>e= .exit 0∧Ent t (mN [(6,.own 0 0 r.length)] [(0,⟨1,r.map (ow (dH 1 eI))⟩)] 1)) (fU (σ:=sg [(0,0)]) (mZ 2 k2 (gU ⟨_,k,⟨k,k,k,k⟩⟩ aR)) (bK k<|hX k k<|aR) k) ?_ ?_
    ·intro x2 o h
     refine sQ<|sR<|fp k8<|lp k8<|oB h λv16 hv16 h=>ae (aO (jR x2.2.2.2.2.1 v16 hv16) k (bX k aM)) k<|cm k4<|an<|tn ?_
     rcases cb h with ⟨q17,h⟩|⟨q17,h⟩
     ·refine aC k q17<|aI<|tn<|aE<|sR<|lp k8<|am k k<|oB h λv18 hv18 h=>ae (cL cY (aDC (⟨x2.1,(⟨x2.2.1,x2.2.2.1,x2.2.2.2.1⟩:Qv),x2.2.2.2.2.1,x2.2.2.2.2.2.1⟩:Rp) a1 v18 hv18) k3 (aZ (pY k) (bX k aM))) k<|aT k2<|sR<|am k k<|am k k<|oB h λv19 hv19 h=>ae (cL cX (aAE v18 v19 hv19) k3 (aZ (aDG cY k k) aM)) k<|ae (cV aA k k k k k k k k k k k k) k<|cG h λq20 h=>ae (lF aA (l:=x2.2.2.2.2.2.2) (c:=[.own 3 0 v19.length]) q20 k k k k k k k k k k k k k k) k<|aT k2<|aN (t:=mN [(1,.list 1 (a1.map eI)),(2,.ptr 0 0 0),(6,.own 5 0 ((x2.2.2.2.2.2.2++[v19]).length)),(7,.own 2 0 v18.length)] [(0,⟨6,[[.int x2.1,.int x2.2.1,.list 1 (x2.2.2.1.map eI),.list 1 (x2.2.2.2.1.map eI),.list 1 (x2.2.2.2.2.1.map eI),.list 3 (x2.2.2.2.2.2.1.map eM)]]⟩),(2,⟨2,v18.map (ow eS)⟩),(5,⟨1,List.map (ow (dH 1 eI)) (x2.2.2.2.2.2.2++[v19])⟩)] 6) (Ent.trans (iK (b:=5) (b':=3) (j:=0) (es':=v19.map eI) k k k k (aQ _ _) (cX.frzs _)) (bJ (mZ 2 k2 (gU ⟨_,k,⟨k,k,(by simp only [aQ,lA,lT,lR,lC,lN]),k⟩⟩ (bE k2))) (bK k<|cE (cY.plainO _) k<|hX ⟨_,k,k,.inl ⟨pG v19 k,bN.plainO _⟩⟩ k<|aR) k4))<|rg<|lp k8<|am k k<|oB h λv21 hv21 h=>ae (AEff.conv (oT (x:= .tuple [.agg [.int v21.1.p,.int v21.1.q.n,.own 6 0 (v21.1.q.src.map eI).length,.own 7 0 (v21.1.q.tgt.map eI).length,.own 8 0 (v21.1.dims.map eI).length,.own 9 0 (v21.1.maps.map eM).length],.own 10 0 (v21.2.map eM).length]) (nb:=[(6,⟨1,cU (v21.1.q.src.map eI)⟩),(7,⟨1,cU (v21.1.q.tgt.map eI)⟩),(8,⟨1,cU (v21.1.dims.map eI)⟩),(9,⟨3,cU (v21.1.maps.map eM)⟩),(10,⟨3,cU (v21.2.map eM)⟩)]) (aCj (⟨x2.1,(⟨x2.2.1,x2.2.2.1,x2.2.2.2.1⟩:Qv),x2.2.2.2.2.1,x2.2.2.2.2.2.1⟩:Rp) v18 v21 hv21) k (by rfl) k k (gP (cK aR (cK aR (cK (cX.good _) (cK (cX.good _) (cK (cX.good _) (cK (dI.good _) zL)))))) (gP (dI.good _) aBZ)) (aZ (pY k) (aZ (aDG cY k k) aM))) (v':= .tuple [.agg [.int v21.1.p,.int v21.1.q.n,.own 6 0 v21.1.q.src.length,.own 7 0 v21.1.q.tgt.length,.own 8 0 v21.1.dims.length,.own 9 0 v21.1.maps.length],.own 10 0 v21.2.length]) (ed':=[(6,some ⟨1,v21.1.q.src.map (ow eI)⟩),(7,some ⟨1,v21.1.q.tgt.map (ow eI)⟩),(8,some ⟨1,v21.1.dims.map (ow eI)⟩),(9,some ⟨3,v21.1.maps.map (ow eM)⟩),(10,some ⟨3,v21.2.map (ow eM)⟩)]) (by simp only [aQ]) (aBL (nb':=[(6,⟨1,v21.1.q.src.map (ow eI)⟩),(7,⟨1,v21.1.q.tgt.map (ow eI)⟩),(8,⟨1,v21.1.dims.map (ow eI)⟩),(9,⟨3,v21.1.maps.map (ow eM)⟩),(10,⟨3,v21.2.map (ow eM)⟩)]) (by simp only [jP]))) k<|am k k<|ae (bY k k (by intro _ h;cases h)) k<|ae (bY k k (by intro _ h;cases h)) k ?_
      refine ae (bF aA k k k k k k k k) k<|an<|aU<|tn ?_
      obtain rfl:=so h
      exact ⟨_,k,(Ent.trans (Ent.trans (Ent.trans (Ent.trans (pS (b:=0) (b':=6) (i:=0) (j:=2) (es':=v21.1.q.src.map eI) k k k k (aBY cX k k)) (pS (b:=0) (b':=7) (i:=0) (j:=3) (es':=v21.1.q.tgt.map eI) k k k k (aBY cX k k))) (pS (b:=0) (b':=8) (i:=0) (j:=4) (es':=v21.1.dims.map eI) k k k k (aBY cX k k))) (pS (b:=0) (b':=9) (i:=0) (j:=5) (es':=v21.1.maps.map eM) k k k k (aBY dI k k))) (pI [0,5] (bE k2) (bK k<|cE (bN.plainO _) k<|aR) k4))⟩
     ·refine aD k q17<|aV<|aB<|aB ?_
      obtain rfl:=so h
      exact ⟨_,k,k,(pI [1] (bE k2) (cE (bN.plainO _) k<|aR) k4)⟩
    ·rintro e t ⟨rfl,hent⟩
     refine aL<|tn<|aN hent<|sR<|am k k<|aa k k<|aT k2<|aH ?_
     obtain rfl:=so h
     exact bH k k k (dW k (cA (nC (eK bN k k)) (cA (k) gT)))
def tY (a0:Sc) (x1:((List Int)×Int)) (x2:Int):Option (Int ⊕ Int):=
 (cI a0.basis x1.2).bind λv2=>
 (cI v2 x2).bind λv3=>
 bif decide (v3=0) then
 (some (.inl (wr (x2+1))))
 else
 (some (.inr x2))
def tZ (a0:Sc) (x1:((List Int)×Int)):Option (((List Int)×Int) ⊕ (List Int)):=
 bif decide (x1.2<(a0.basis.length:Int)) then
 ((Lp (tY a0 x1) 0).bind λy5=>
 bif decide (x1.1.length+[y5].length ≤4294967296) then
 (some (.inl ((x1.1++[y5]),wr (x1.2+1))))
 else none)
 else
 (some (.inr x1.1))
def uT (a0:Sc):Option (List Int):=
 (Lp (tZ a0) (([]:(List Int)),0)).bind λy7=>
 some (y7)
theorem aMe (a0:Sc) (r:(List Int)) (h:uT a0=some r):HasC Tryz.prog 158 [.agg (eS a0)] (.list 1 (r.map eI)):=by
 refine aW aA (rvs:=[.tmp 2]) (ns:=fE) Tryz.func158 k k Tryz.ntmps158 k k k<|sR<|ae (cP k k k k) k<|aT k2<|sR<|ae (cV aA k k k k k k k k k k k k) k<|aT k2<|aN (t:=mN [(1,.ptr 0 0 0),(3,.own 1 0 (([]:(List Int)).length))] [(0,⟨2,[eS a0]⟩),(1,⟨1,List.map (ow eI) ([]:(List Int))⟩)] 2) (bJ (mZ 1 k2 (gU ⟨_,k,⟨k,k,(by simp only [aQ,lA,lT,lR,lC,lN]),k⟩⟩ aR)) (bK k<|bO k<|aR) k4)<|sQ<|sR<|aT k2<|aE<|oB h λy7 hy7 h=>bU (body:=(tZ a0)) hy7 (λ(x1:((List Int)×Int))=>mN [(1,.ptr 0 0 0),(3,.own 1 0 x1.1.length),(4,.int x1.2)] [(0,⟨2,[eS a0]⟩),(1,⟨1,x1.1.map (ow eI)⟩)] 2) (λr e t=>e= .exit 0∧Ent t (mN [(3,.own 0 0 r.length)] [(0,⟨1,r.map (ow eI)⟩)] 1)) (bJ (bE k2) (bK k<|bO k<|aR) k4) ?_ ?_
 ·intro x1 o h
  refine sQ<|sR<|am k k<|fp k8<|lp k8<|ln k4<|cm k4<|an<|tn ?_
  rcases cb h with ⟨q1,h⟩|⟨q1,h⟩
  ·refine aC k q1<|aI<|tn<|sQ<|aE<|sR<|aT k2<|sQ<|aE<|oB h λy5 hy5 h=>bU (body:=(tY a0 x1)) hy5 (λ(x2:Int)=>mN [(1,.ptr 0 0 0),(3,.own 1 0 x1.1.length),(4,.int x1.2),(5,.int x2)] [(0,⟨2,[eS a0]⟩),(1,⟨1,x1.1.map (ow eI)⟩)] 2) (λr e t=>e= .exit 2∧Ent t (mN [(1,.ptr 0 0 0),(3,.own 1 0 x1.1.length),(4,.int x1.2),(5,.int r)] [(0,⟨2,[eS a0]⟩),(1,⟨1,x1.1.map (ow eI)⟩)] 2)) (bJ (bE k2) (bK k<|bO k<|aR) k4) ?_ ?_
   ·intro x2 o h
    refine sQ<|sR<|fp k8<|lp k8<|am k k<|oB h λv2 hv2 h=>ae (aP aA hv2 k k k k k k) k<|lr k7<|am k k<|oB h λv3 hv3 h=>ae (aP aA hv3 k k k k k k) k<|lr k7<|cm k4<|an<|tn ?_
    rcases cb h with ⟨q4,h⟩|⟨q4,h⟩
    ·refine aC k q4<|aI<|tn<|aE<|rg<|am k k<|ae (bB k k) k<|aa k k<|an<|aU<|tn ?_
     obtain rfl:=so h
     exact ⟨_,k,(bJ (bE k2) (bK k<|bO k<|aR) k4)⟩
    ·refine aD k q4<|aV<|aB<|aB ?_
     obtain rfl:=so h
     exact ⟨_,k,k,(bJ (bE k2) (bK k<|bO k<|aR) k4)⟩
   ·rintro e t ⟨rfl,hent⟩
    refine aL<|tn<|aN hent<|rg<|am k k<|am k k<|ae (cV aA k k k k k k k k k k k k) k<|cG h λq6 h=>ae (pF aA (l:=x1.1) (m:=[y5]) nD q6 k k k k k k k k k k k k) k<|aa k k<|an<|aU<|tn<|rg<|am k k<|ae (bB k k) k<|aT k2 ?_
    obtain rfl:=so h
    exact ⟨_,k,(pI [0,3] (bE k2) (bK k<|bO k<|aR) k4)⟩
  ·refine aD k q1<|aV<|aB<|aB ?_
   obtain rfl:=so h
   exact ⟨_,k,k,(pI [1] (bE k2) (bO k<|aR) k4)⟩
 ·rintro e t ⟨rfl,hent⟩
  refine aL<|tn<|aN hent<|sR<|am k k<|aT k2<|aH ?_
  obtain rfl:=so h
  exact bH k k k (mJ (eK cX k k))
def oA (a1:Sc) (v1:(List Int)) (x1:((List Int)×Int)):Option (((List Int)×Int) ⊕ (List Int)):=
 bif decide (x1.2<a1.size) then
 ((aBv v1 x1.2).bind λv3=>
 bif !v3 then
 (bif decide (x1.1.length+[x1.2].length ≤4294967296) then
 (some (.inl ((x1.1++[x1.2]),wr (x1.2+1))))
 else none)
 else
 (some (.inl (x1.1,wr (x1.2+1)))))
 else
 (some (.inr x1.1))
def oC (a0:Int) (a1:Sc) (v1:(List Int)) (x2:((List Int)×(List Int)×Int)) (y6:(List Int)) (x3:((List Int)×Int)):Option (((List Int)×Int) ⊕ (List Int)):=
 bif decide (x3.2<((v1.length:Nat):Int)) then
 ((cI v1 x3.2).bind λv15=>
 (cI a1.basis x3.2).bind λv16=>
 (cI y6 x2.2.2).bind λv17=>
 (cI v16 v17).bind λv18=>
 (iO a0 (wr (-v18))).bind λv19=>
 (cI x3.1 (wr ((wr (x2.2.2*a1.size))+v15))).bind λv20=>
 some (.inl ((x3.1.set ((wr ((wr (x2.2.2*a1.size))+v15)).toNat) v19),wr (x3.2+1))))
 else
 (some (.inr x3.1))
def oD (a0:Int) (a1:Sc) (v1:(List Int)) (y6:(List Int)) (x2:((List Int)×(List Int)×Int)):Option (((List Int)×(List Int)×Int) ⊕ ((List Int)×(List Int))):=
 bif decide (x2.2.2<((y6.length:Nat):Int)) then
 ((cI y6 x2.2.2).bind λv10=>
 (cI x2.1 (wr ((wr (x2.2.2*a1.size))+v10))).bind λv11=>
 (cI y6 x2.2.2).bind λv12=>
 (cI x2.2.1 (wr ((wr (v12*((y6.length:Nat):Int)))+x2.2.2))).bind λv13=>
 (Lp (oC a0 a1 v1 x2 y6) ((x2.1.set ((wr ((wr (x2.2.2*a1.size))+v10)).toNat) 1),0)).bind λy21=>
 some (.inl (y21,(x2.2.1.set ((wr ((wr (v12*((y6.length:Nat):Int)))+x2.2.2)).toNat) 1),wr (x2.2.2+1))))
 else
 (some (.inr (x2.1,x2.2.1)))
def oE (a0:Int) (a1:Sc):Option (Mt×Mt):=
 (uT a1).bind λv1=>
 (Lp (oA a1 v1) (([]:(List Int)),0)).bind λy6=>
 (jS ((y6.length:Nat):Int) a1.size).bind λv7=>
 (jS a1.size ((y6.length:Nat):Int)).bind λv8=>
 (Lp (oD a0 a1 v1 y6) (v7.cells,v8.cells,0)).bind λy22=>
 some (((⟨v7.rows,v7.cols,y22.1⟩:Mt),(⟨v8.rows,v8.cols,y22.2⟩:Mt)))
theorem aIb (a0:Int) (a1:Sc) (r:(Mt×Mt)) (h:oE a0 a1=some r):HasC Tryz.prog 143 [.int a0,.agg (eS a1)] (.tuple [.agg (eM r.1),.agg (eM r.2)]):=by
 refine aW aA (rvs:=[.cell 4 113,.cell 5 113]) (ns:=fE) Tryz.func143 k k Tryz.ntmps143 k k k<|sR<|ae (cP k k k k) k<|ae (bW aA k k) k<|ae (bW aA k k) k<|an<|tn<|sR<|lp k8<|oB h λv1 hv1 h=>ae (cL cX (aMe a1 v1 hv1) k3 (aZ (pY k) aM)) k<|aT k2<|sR<|ae (cV aA k k k k k k k k k k k k) k<|aT k2<|aN (t:=mN [(0,.int a0),(3,.ptr 0 0 0),(4,.ptr 1 0 0),(5,.ptr 2 0 0),(6,.own 3 0 v1.length),(7,.own 4 0 (([]:(List Int)).length))] [(0,⟨2,[eS a1]⟩),(1,⟨3,[gC]⟩),(2,⟨3,[gC]⟩),(3,⟨1,v1.map (ow eI)⟩),(4,⟨1,List.map (ow eI) ([]:(List Int))⟩)] 5) (bJ (mZ 5 k2 (gU ⟨_,k,⟨k,k,(by simp only [aQ,lA,lT,lR,lC,lN]),k⟩⟩ aR)) (bK k<|bK k<|bK k<|bO k<|bO k<|aR) k4)<|sQ<|sR<|aT k2<|aE<|oB h λy6 hy6 h=>bU (body:=(oA a1 v1)) hy6 (λ(x1:((List Int)×Int))=>mN [(0,.int a0),(3,.ptr 0 0 0),(4,.ptr 1 0 0),(5,.ptr 2 0 0),(6,.own 3 0 v1.length),(7,.own 4 0 x1.1.length),(8,.int x1.2)] [(0,⟨2,[eS a1]⟩),(1,⟨3,[gC]⟩),(2,⟨3,[gC]⟩),(3,⟨1,v1.map (ow eI)⟩),(4,⟨1,x1.1.map (ow eI)⟩)] 5) (λr e t=>e= .exit 0∧Ent t (mN [(0,.int a0),(3,.ptr 0 0 0),(4,.ptr 1 0 0),(5,.ptr 2 0 0),(6,.own 3 0 v1.length),(7,.own 4 0 r.length)] [(0,⟨2,[eS a1]⟩),(1,⟨3,[gC]⟩),(2,⟨3,[gC]⟩),(3,⟨1,v1.map (ow eI)⟩),(4,⟨1,r.map (ow eI)⟩)] 5)) (bJ (bE k2) (bK k<|bK k<|bK k<|bO k<|bO k<|aR) k4) ?_ ?_
 ·intro x1 o h
  refine sQ<|sR<|am k k<|fp k8<|lp k8<|cm k4<|an<|tn ?_
  rcases cb h with ⟨q2,h⟩|⟨q2,h⟩
  ·refine aC k q2<|aI<|tn<|sQ<|aE<|sR<|am k k<|am k k<|oB h λv3 hv3 h=>ae (aO (aOZ v1 x1.2 v3 hv3) k (vcT k k (bX k aM))) k<|ae (dG k) k<|an<|tn ?_
   rcases cb h with ⟨q4,h⟩|⟨q4,h⟩
   ·refine aC k q4<|rg<|am k k<|am k k<|ae (cV aA k k k k k k k k k k k k) k<|cG h λq5 h=>ae (pF aA (l:=x1.1) (m:=[x1.2]) nD q5 k k k k k k k k k k k k) k<|aa k k<|an<|aU<|tn<|rg<|am k k<|ae (bB k k) k<|aT k2 ?_
    obtain rfl:=so h
    exact ⟨_,k,(pI [0,1,2,3,6] (bE k2) (bK k<|bK k<|bK k<|bO k<|bO k<|aR) k4)⟩
   ·refine aD k q4<|aI<|aU<|tn<|rg<|am k k<|ae (bB k k) k<|aT k2 ?_
    obtain rfl:=so h
    exact ⟨_,k,(bJ (bE k2) (bK k<|bK k<|bK k<|bO k<|bO k<|aR) k4)⟩
  ·refine aD k q2<|aV<|aB<|aB ?_
   obtain rfl:=so h
   exact ⟨_,k,k,(bJ (bE k2) (bK k<|bK k<|bK k<|bO k<|bO k<|aR) k4)⟩
 ·rintro e t ⟨rfl,hent⟩
  refine aL<|tn<|aN hent<|sR<|am k k<|ae (cF aA k k k k) k<|fp k8<|lp k8<|oB h λv7 hv7 h=>ae (cM (aBB ((y6.length:Nat):Int) a1.size v7 hv7) k3 (bX k (bX k aM))) k<|ae (bW aA k k) k<|ae (bF aA k k k k k k k k) k<|an<|tn<|sR<|fp k8<|lp k8<|am k k<|ae (cF aA k k k k) k<|oB h λv8 hv8 h=>ae (cM (aBB a1.size ((y6.length:Nat):Int) v8 hv8) k3 (bX k (bX k aM))) k<|ae (bW aA k k) k<|ae (bF aA k k k k k k k k) k<|an<|tn<|sQ<|sR<|aa k k<|an ?_
  refine tn<|aE<|oB h λy22 hy22 h=>bU (body:=(oD a0 a1 v1 y6)) hy22 (λ(x2:((List Int)×(List Int)×Int))=>mN [(0,.int a0),(3,.ptr 0 0 0),(4,.ptr 1 0 0),(5,.ptr 2 0 0),(6,.own 3 0 v1.length),(7,.own 4 0 y6.length),(9,.ptr 5 0 0),(10,.ptr 7 0 0),(11,.int x2.2.2)] [(0,⟨2,[eS a1]⟩),(1,⟨3,[gC]⟩),(2,⟨3,[gC]⟩),(3,⟨1,v1.map (ow eI)⟩),(4,⟨1,y6.map (ow eI)⟩),(5,⟨3,[[.int v7.rows,.int v7.cols,.own 6 0 x2.1.length]]⟩),(6,⟨1,x2.1.map (ow eI)⟩),(7,⟨3,[[.int v8.rows,.int v8.cols,.own 8 0 x2.2.1.length]]⟩),(8,⟨1,x2.2.1.map (ow eI)⟩)] 9) (λr e t=>e= .exit 2∧Ent t (mN [(4,.ptr 0 0 0),(5,.ptr 1 0 0),(9,.ptr 2 0 0),(10,.ptr 4 0 0)] [(0,⟨3,[gC]⟩),(1,⟨3,[gC]⟩),(2,⟨3,[[.int v7.rows,.int v7.cols,.own 3 0 r.1.length]]⟩),(3,⟨1,r.1.map (ow eI)⟩),(4,⟨3,[[.int v8.rows,.int v8.cols,.own 5 0 r.2.length]]⟩),(5,⟨1,r.2.map (ow eI)⟩)] 6)) (pI [0,1,2,3,4,6,5,8,7] (bE k2) (bK k<|bK k<|bK k<|bO k<|bO k<|dK k<|bO k<|dK k<|bO k<|aR) k4) ?_ ?_
  ·intro x2 o h
   refine sQ<|sR<|am k k<|am k k<|ae (cF aA k k k k) k<|cm k4<|an<|tn ?_
   rcases cb h with ⟨q9,h⟩|⟨q9,h⟩
   ·refine aC k q9<|aI<|tn<|sQ<|aE<|sQ<|aS iL<|fp k8<|lp k8<|am k k<|fp k8<|lp k8<|ae (fH k k) k<|am k k<|am k k<|oB h λv10 hv10 h=>ae (bP aA (cO hv10) (cB hv10) k k k k k k k) k<|ae (bG aA k k k k (dL (bZ hv10)) k k) k<|ae (bB k k) k<|oB h λv11 hv11 h=>ae (bP aA (cO hv11) (cB hv11) k k k k k k k) k<|ae (gF aA nD (u:=1) (bZ hv11) k k k k k k) k<|an<|wA (by kernel_rfl)<|tn<|sQ<|aS iL<|fp k8<|lp k8<|am k k<|am k k<|oB h λv12 hv12 h=>ae (bP aA (cO hv12) (cB hv12) k k k k k k k) k ?_
    refine ae (bG aA k k k k (dL (bZ hv12)) k k) k<|am k k<|ae (cF aA k k k k) k<|ae (fH k k) k<|am k k<|ae (bB k k) k<|oB h λv13 hv13 h=>ae (bP aA (cO hv13) (cB hv13) k k k k k k k) k<|ae (gF aA nD (u:=1) (bZ hv13) k k k k k k) k<|an<|wA (by kernel_rfl)<|tn<|aN (t:=mN [(0,.int a0),(3,.ptr 0 0 0),(4,.ptr 1 0 0),(5,.ptr 2 0 0),(6,.own 3 0 v1.length),(7,.own 4 0 y6.length),(9,.ptr 5 0 0),(10,.ptr 7 0 0),(11,.int x2.2.2)] [(0,⟨2,[eS a1]⟩),(1,⟨3,[gC]⟩),(2,⟨3,[gC]⟩),(3,⟨1,v1.map (ow eI)⟩),(4,⟨1,y6.map (ow eI)⟩),(5,⟨3,[[.int v7.rows,.int v7.cols,.own 6 0 ((x2.1.set ((wr ((wr (x2.2.2*a1.size))+v10)).toNat) 1).length)]]⟩),(6,⟨1,List.map (ow eI) (x2.1.set ((wr ((wr (x2.2.2*a1.size))+v10)).toNat) 1)⟩),(7,⟨3,[[.int v8.rows,.int v8.cols,.own 8 0 ((x2.2.1.set ((wr ((wr (v12*((y6.length:Nat):Int)))+x2.2.2)).toNat) 1).length)]]⟩),(8,⟨1,List.map (ow eI) (x2.2.1.set ((wr ((wr (v12*((y6.length:Nat):Int)))+x2.2.2)).toNat) 1)⟩)] 9) (bJ (bE k2) (bK k<|bK k<|bK k<|bO k<|bO k<|hX ⟨_,k,k,.inr ⟨_,_,k,⟨_,_,k,k,⟨_,_,k,k,⟨_,_,k,⟨k,k,(by simp only [aQ,lA,lT,lR,lC,lN]),k⟩,k⟩⟩⟩,k⟩⟩ k<|bO k<|hX ⟨_,k,k,.inr ⟨_,_,k,⟨_,_,k,k,⟨_,_,k,k,⟨_,_,k,⟨k,k,(by simp only [aQ,lA,lT,lR,lC,lN]),k⟩,k⟩⟩⟩,k⟩⟩ k<|bO k<|aR) k4)<|sR<|aT k2<|aE<|oB h λy21 hy21 h=>bU (body:=(oC a0 a1 v1 x2 y6)) hy21 (λ(x3:((List Int)×Int))=>mN [(0,.int a0),(3,.ptr 0 0 0),(4,.ptr 1 0 0),(5,.ptr 2 0 0),(6,.own 3 0 v1.length),(7,.own 4 0 y6.length),(9,.ptr 5 0 0),(10,.ptr 7 0 0),(11,.int x2.2.2),(12,.int x3.2)] [(0,⟨2,[eS a1]⟩),(1,⟨3,[gC]⟩),(2,⟨3,[gC]⟩),(3,⟨1,v1.map (ow eI)⟩),(4,⟨1,y6.map (ow eI)⟩),(5,⟨3,[[.int v7.rows,.int v7.cols,.own 6 0 x3.1.length]]⟩),(6,⟨1,x3.1.map (ow eI)⟩),(7,⟨3,[[.int v8.rows,.int v8.cols,.own 8 0 ((x2.2.1.set ((wr ((wr (v12*((y6.length:Nat):Int)))+x2.2.2)).toNat) 1).length)]]⟩),(8,⟨1,List.map (ow eI) (x2.2.1.set ((wr ((wr (v12*((y6.length:Nat):Int)))+x2.2.2)).toNat) 1)⟩)] 9) (λr e t=>e= .exit 4∧Ent t (mN [(0,.int a0),(3,.ptr 0 0 0),(4,.ptr 1 0 0),(5,.ptr 2 0 0),(6,.own 3 0 v1.length),(7,.own 4 0 y6.length),(9,.ptr 5 0 0),(10,.ptr 7 0 0),(11,.int x2.2.2)] [(0,⟨2,[eS a1]⟩),(1,⟨3,[gC]⟩),(2,⟨3,[gC]⟩),(3,⟨1,v1.map (ow eI)⟩),(4,⟨1,y6.map (ow eI)⟩),(5,⟨3,[[.int v7.rows,.int v7.cols,.own 6 0 r.length]]⟩),(6,⟨1,r.map (ow eI)⟩),(7,⟨3,[[.int v8.rows,.int v8.cols,.own 8 0 ((x2.2.1.set ((wr ((wr (v12*((y6.length:Nat):Int)))+x2.2.2)).toNat) 1).length)]]⟩),(8,⟨1,List.map (ow eI) (x2.2.1.set ((wr ((wr (v12*((y6.length:Nat):Int)))+x2.2.2)).toNat) 1)⟩)] 9)) (bJ (bE k2) (bK k<|bK k<|bK k<|bO k<|bO k<|dK k<|bO k<|dK k<|bO k<|aR) k4) ?_ ?_
    ·intro x3 o h
     refine sQ<|sR<|am k k<|am k k<|ae (cF aA k k k k) k<|cm k4<|an<|tn ?_
     rcases cb h with ⟨q14,h⟩|⟨q14,h⟩
     ·refine aC k q14<|aI<|tn<|sQ<|aE<|aS iL<|fp k8<|lp k8<|am k k<|fp k8<|lp k8<|ae (fH k k) k<|am k k<|am k k<|oB h λv15 hv15 h=>ae (bP aA (cO hv15) (cB hv15) k k k k k k k) k<|ae (bG aA k k k k (dL (bZ hv15)) k k) k<|ae (bB k k) k<|am k k<|fp k8<|lp k8<|am k k<|oB h λv16 hv16 h=>ae (aP aA hv16 k k k k k k) k<|lr k7<|am k k<|am k k<|oB h λv17 hv17 h=>ae (bP aA (cO hv17) (cB hv17) k k k k k k k) k<|ae (bG aA k k k k (dL (bZ hv17)) k k) k<|oB h λv18 hv18 h=>ae (aP aA hv18 k k k k k k) k<|lr k7<|ae (aYR k) k ?_
      refine oB h λv19 hv19 h=>ae (aO (vC a0 (wr (-v18)) v19 hv19) k (bX k (bX k aM))) k<|oB h λv20 hv20 h=>ae (bP aA (cO hv20) (cB hv20) k k k k k k k) k<|ae (gF aA nD (u:=v19) (bZ hv20) k k k k k k) k<|an<|wA (by kernel_rfl)<|aU<|tn<|aN (t:=mN [(0,.int a0),(3,.ptr 0 0 0),(4,.ptr 1 0 0),(5,.ptr 2 0 0),(6,.own 3 0 v1.length),(7,.own 4 0 y6.length),(9,.ptr 5 0 0),(10,.ptr 7 0 0),(11,.int x2.2.2),(12,.int x3.2)] [(0,⟨2,[eS a1]⟩),(1,⟨3,[gC]⟩),(2,⟨3,[gC]⟩),(3,⟨1,v1.map (ow eI)⟩),(4,⟨1,y6.map (ow eI)⟩),(5,⟨3,[[.int v7.rows,.int v7.cols,.own 6 0 ((x3.1.set ((wr ((wr (x2.2.2*a1.size))+v15)).toNat) v19).length)]]⟩),(6,⟨1,List.map (ow eI) (x3.1.set ((wr ((wr (x2.2.2*a1.size))+v15)).toNat) v19)⟩),(7,⟨3,[[.int v8.rows,.int v8.cols,.own 8 0 ((x2.2.1.set ((wr ((wr (v12*((y6.length:Nat):Int)))+x2.2.2)).toNat) 1).length)]]⟩),(8,⟨1,List.map (ow eI) (x2.2.1.set ((wr ((wr (v12*((y6.length:Nat):Int)))+x2.2.2)).toNat) 1)⟩)] 9) (bJ (bE k2) (bK k<|bK k<|bK k<|bO k<|bO k<|hX ⟨_,k,k,.inr ⟨_,_,k,⟨_,_,k,k,⟨_,_,k,k,⟨_,_,k,⟨k,k,(by simp only [aQ,lA,lT,lR,lC,lN]),k⟩,k⟩⟩⟩,k⟩⟩ k<|bO k<|dK k<|bO k<|aR) k4)<|rg<|am k k<|ae (bB k k) k<|aT k2 ?_
      obtain rfl:=so h
      exact ⟨_,k,(bJ (bE k2) (bK k<|bK k<|bK k<|bO k<|bO k<|dK k<|bO k<|dK k<|bO k<|aR) k4)⟩
     ·refine aD k q14<|aV<|aB<|aB ?_
      obtain rfl:=so h
      exact ⟨_,k,k,(bJ (bE k2) (bK k<|bK k<|bK k<|bO k<|bO k<|dK k<|bO k<|dK k<|bO k<|aR) k4)⟩
    ·rintro e t ⟨rfl,hent⟩
     refine aL<|aU<|tn<|aN hent<|rg<|am k k<|ae (bB k k) k<|aT k2 ?_
     obtain rfl:=so h
     exact ⟨_,k,(bJ (bE k2) (bK k<|bK k<|bK k<|bO k<|bO k<|dK k<|bO k<|dK k<|bO k<|aR) k4)⟩
   ·refine aD k q9<|aV<|aB<|aB ?_
    obtain rfl:=so h
    exact ⟨_,k,k,(pI [1,2,5,6,7,8] (bE k2) (bK k<|bK k<|dK k<|bO k<|dK k<|bO k<|aR) k4)⟩
  ·rintro e t ⟨rfl,hent⟩
   refine aL<|tn<|aN hent<|sQ<|aS iL<|lp k8<|lp k8<|ae (bF aA k k k k k k k k) k<|ae (bF aA k k k k k k k k) k<|an<|wA (by kernel_rfl)<|tn<|aH ?_
   obtain rfl:=so h
   exact bH k k k (dW k (cA (xR (bA (k) (bA (k) (bA (eK cX k k) fK)))) (cA (xR (bA (k) (bA (k) (bA (eK cX k k) fK)))) gT)))
def mU (a0:Rp) (a1:(List Sc)) (x1:((List Int)×(List Mt)×(List Mt)×Int)):Option (((List Int)×(List Mt)×(List Mt)×Int) ⊕ ((List Int)×(List Mt)×(List Mt))):=
 bif decide (x1.2.2.2<(a1.length:Int)) then
 ((cI a1 x1.2.2.2).bind λv4=>
 (oE a0.p v4).bind λv5=>
 bif decide (x1.1.length+[v5.1.rows].length ≤4294967296) then
 (bif decide (x1.2.1.length+1≤4294967296) then
 (bif decide (x1.2.2.1.length+1≤4294967296) then
 (some (.inl ((x1.1++[v5.1.rows]),(x1.2.1++[v5.1]),(x1.2.2.1++[v5.2]),wr (x1.2.2.2+1))))
 else none)
 else none)
 else none)
 else
 (some (.inr (x1.1,x1.2.1,x1.2.2.1)))
def mV (a0:Rp) (y9:((List Int)×(List Mt)×(List Mt))) (x2:((List Mt)×Int)):Option (((List Mt)×Int) ⊕ (List Mt)):=
 bif decide (x2.2<(a0.maps.length:Int)) then
 ((cI a0.q.tgt x2.2).bind λv12=>
 (cI y9.2.1 v12).bind λv13=>
 (cI a0.maps x2.2).bind λv14=>
 (kK a0.p v13 v14).bind λv15=>
 (cI a0.q.src x2.2).bind λv16=>
 (cI y9.2.2 v16).bind λv17=>
 (kK a0.p v15 v17).bind λv18=>
 (cI x2.1 x2.2).bind λv19=>
 some (.inl ((x2.1.set x2.2.toNat v18),wr (x2.2+1))))
 else
 (some (.inr x2.1))
def rK (a0:Rp) (a1:(List Sc)):Option (Rp×(List Mt)×Bool):=
 (vP a0 a1).bind λv1=>
 bif !v1 then
 (some (((⟨0,(⟨0,[],[]⟩:Qv),[],[]⟩:Rp),([]:(List Mt)),false)))
 else
 ((Lp (mU a0 a1) (([]:(List Int)),([]:(List Mt)),([]:(List Mt)),0)).bind λy9=>
 (aBF a0.p a0.q y9.1).bind λv10=>
 (Lp (mV a0 y9) (v10.maps,0)).bind λy20=>
 some (((⟨v10.p,v10.q,v10.dims,y20⟩:Rp),y9.2.1,true)))
theorem aHR (a0:Rp) (a1:(List Sc)) (r:(Rp×(List Mt)×Bool)) (h:rK a0 a1=some r):HasC Tryz.prog 100 [.agg (eR a0),.list 2 (a1.map eS)] (.tuple [.agg (eR r.1),.list 3 (r.2.1.map eM),.bl r.2.2]):=by
 refine aW aA (rvs:=[.cell 4 32,.tmp 5,.tmp 6]) (ns:=fE) Tryz.func100 k k Tryz.ntmps100 k k k<|sR<|ae (cP k k k k) k<|ae (bW aA k k) k<|aa k k<|aT k2<|sQ<|sR<|lp k8<|am k k<|oB h λv1 hv1 h=>ae (aO (aEJ a0 a1 v1 hv1) k (aZ (pY k) (bX k aM))) k<|ae (dG k) k<|an<|tn ?_
 rcases cb h with ⟨q2,h⟩|⟨q2,h⟩
 ·refine aC k q2<|sR<|ae (iE aA k k k k k k) k<|ae (cV aA k k k k k k k k k k k k) k<|ae (bF aA k k k k k k k k) k<|aa k k<|aT k2<|aN (t:=mN [(4,.ptr 1 0 0),(5,.own 2 0 (([]:(List Mt)).length)),(6,.bl false)] [(1,⟨6,[zG]⟩),(2,⟨3,List.map (ow eM) ([]:(List Mt))⟩)] 3) (bJ (mZ 1 k2 (gU ⟨_,k,⟨k,k,(by simp only [aQ,lA,lT,lR,lC,lN]),k⟩⟩ (bE k2))) (bK k<|cE (dI.plainO _) k<|aR) k4)<|aH<|aG ?_
  obtain rfl:=so h
  exact bH k k k (dW k (cA (xR (bA (k) (bA (k) (bA (k) (bA (k) (bA (k) (bA (k) fK))))))) (cA (nC (eK dI k k)) (cA (k) gT))))
 ·refine aD k q2<|aI<|tn<|sR<|ae (cV aA k k k k k k k k k k k k) k<|aT k2<|aN (t:=mN [(1,.list 2 (a1.map eS)),(2,.ptr 0 0 0),(4,.ptr 1 0 0),(7,.own 2 0 (([]:(List Int)).length))] [(0,⟨6,[eR a0]⟩),(1,⟨6,[zG]⟩),(2,⟨1,List.map (ow eI) ([]:(List Int))⟩)] 3) (bJ (mZ 3 k2 (gU ⟨_,k,⟨k,k,(by simp only [aQ,lA,lT,lR,lC,lN]),k⟩⟩ aR)) (bK k<|bK k<|bO k<|aR) k4)<|sR<|ae (cV aA k k k k k k k k k k k k) k<|aT k2<|aN (t:=mN [(1,.list 2 (a1.map eS)),(2,.ptr 0 0 0),(4,.ptr 1 0 0),(7,.own 2 0 (([]:(List Int)).length)),(8,.own 3 0 (([]:(List Mt)).length))] [(0,⟨6,[eR a0]⟩),(1,⟨6,[zG]⟩),(2,⟨1,List.map (ow eI) ([]:(List Int))⟩),(3,⟨3,List.map (ow eM) ([]:(List Mt))⟩)] 4) (bJ (mZ 4 k2 (gU ⟨_,k,⟨k,k,(by simp only [aQ,lA,lT,lR,lC,lN]),k⟩⟩ aR)) (bK k<|bK k<|bO k<|cE (dI.plainO _) k<|aR) k4)<|sR<|ae (cV aA k k k k k k k k k k k k) k<|aT k2<|aN (t:=mN [(1,.list 2 (a1.map eS)),(2,.ptr 0 0 0),(4,.ptr 1 0 0),(7,.own 2 0 (([]:(List Int)).length)),(8,.own 3 0 (([]:(List Mt)).length)),(9,.own 4 0 (([]:(List Mt)).length))] [(0,⟨6,[eR a0]⟩),(1,⟨6,[zG]⟩),(2,⟨1,List.map (ow eI) ([]:(List Int))⟩),(3,⟨3,List.map (ow eM) ([]:(List Mt))⟩),(4,⟨3,List.map (ow eM) ([]:(List Mt))⟩)] 5) (bJ (mZ 5 k2 (gU ⟨_,k,⟨k,k,(by simp only [aQ,lA,lT,lR,lC,lN]),k⟩⟩ aR)) (bK k<|bK k<|bO k<|cE (dI.plainO _) k<|cE (dI.plainO _) k<|aR) k4)<|sQ<|sR<|aT k2 ?_
  refine aE<|oB h λy9 hy9 h=>bU (body:=(mU a0 a1)) hy9 (λ(x1:((List Int)×(List Mt)×(List Mt)×Int))=>mN [(1,.list 2 (a1.map eS)),(2,.ptr 0 0 0),(4,.ptr 1 0 0),(7,.own 2 0 x1.1.length),(8,.own 3 0 x1.2.1.length),(9,.own 4 0 x1.2.2.1.length),(10,.int x1.2.2.2)] [(0,⟨6,[eR a0]⟩),(1,⟨6,[zG]⟩),(2,⟨1,x1.1.map (ow eI)⟩),(3,⟨3,x1.2.1.map (ow eM)⟩),(4,⟨3,x1.2.2.1.map (ow eM)⟩)] 5) (λr e t=>e= .exit 0∧Ent t (mN [(2,.ptr 0 0 0),(4,.ptr 1 0 0),(7,.own 2 0 r.1.length),(8,.own 3 0 r.2.1.length),(9,.own 4 0 r.2.2.length)] [(0,⟨6,[eR a0]⟩),(1,⟨6,[zG]⟩),(2,⟨1,r.1.map (ow eI)⟩),(3,⟨3,r.2.1.map (ow eM)⟩),(4,⟨3,r.2.2.map (ow eM)⟩)] 5)) (bJ (bE k2) (bK k<|bK k<|bO k<|cE (dI.plainO _) k<|cE (dI.plainO _) k<|aR) k4) ?_ ?_
  ·intro x1 o h
   refine sQ<|sR<|am k k<|am k k<|ln k4<|cm k4<|an<|tn ?_
   rcases cb h with ⟨q3,h⟩|⟨q3,h⟩
   ·refine aC k q3<|aI<|tn<|sQ<|aE<|sQ<|aS iL<|fp k8<|lp k8<|am k k<|am k k<|oB h λv4 hv4 h=>ae (aP aA hv4 k k k k k k) k<|lr k7<|oB h λv5 hv5 h=>ae (AEff.conv (oT (x:= .tuple [.agg [.int v5.1.rows,.int v5.1.cols,.own 5 0 (v5.1.cells.map eI).length],.agg [.int v5.2.rows,.int v5.2.cols,.own 6 0 (v5.2.cells.map eI).length]]) (nb:=[(5,⟨1,cU (v5.1.cells.map eI)⟩),(6,⟨1,cU (v5.2.cells.map eI)⟩)]) (aIb a0.p v4 v5 hv5) k (by rfl) k k (gP (cK aR (cK aR (cK (cX.good _) zL))) (gP (cK aR (cK aR (cK (cX.good _) zL))) aBZ)) (bX k (aZ (pY k) aM))) (v':= .tuple [.agg [.int v5.1.rows,.int v5.1.cols,.own 5 0 v5.1.cells.length],.agg [.int v5.2.rows,.int v5.2.cols,.own 6 0 v5.2.cells.length]]) (ed':=[(5,some ⟨1,v5.1.cells.map (ow eI)⟩),(6,some ⟨1,v5.2.cells.map (ow eI)⟩)]) (by simp only [aQ]) (aBL (nb':=[(5,⟨1,v5.1.cells.map (ow eI)⟩),(6,⟨1,v5.2.cells.map (ow eI)⟩)]) (by simp only [jP]))) k<|am k k<|ae (bY k k (by intro _ h;cases h)) k<|ae (bY k k (by intro _ h;cases h)) k<|ae (bW aA k k) k<|ae (bW aA k k) k<|ae (bF aA k k k k k k k k) k<|ae (bF aA k k k k k k k k) k<|an<|wA (by kernel_rfl)<|tn<|sR<|am k k<|fp k8<|lp k8<|ae (cV aA k k k k k k k k k k k k) k ?_
    refine cG h λq6 h=>ae (pF aA (l:=x1.1) (m:=[v5.1.rows]) nD q6 k k k k k k k k k k k k) k<|aT k2<|aN (t:=mN [(1,.list 2 (a1.map eS)),(2,.ptr 0 0 0),(4,.ptr 1 0 0),(7,.own 10 0 ((x1.1++[v5.1.rows]).length)),(8,.own 3 0 x1.2.1.length),(9,.own 4 0 x1.2.2.1.length),(10,.int x1.2.2.2),(11,.ptr 7 0 0),(12,.ptr 8 0 0)] [(0,⟨6,[eR a0]⟩),(1,⟨6,[zG]⟩),(3,⟨3,x1.2.1.map (ow eM)⟩),(4,⟨3,x1.2.2.1.map (ow eM)⟩),(5,⟨1,v5.1.cells.map (ow eI)⟩),(6,⟨1,v5.2.cells.map (ow eI)⟩),(7,⟨3,[oMt v5.1 5]⟩),(8,⟨3,[oMt v5.2 6]⟩),(10,⟨1,List.map (ow eI) (x1.1++[v5.1.rows])⟩)] 11) (bJ (bE k2) (bK k<|bK k<|cE (dI.plainO _) k<|cE (dI.plainO _) k<|bO k<|bO k<|dK k<|dK k<|bO k<|aR) k4)<|sR<|am k k<|lp k8<|ae (cV aA k k k k k k k k k k k k) k<|cG h λq7 h=>ae (lF aA (l:=x1.2.1) (c:=[.int v5.1.rows,.int v5.1.cols,.own 5 0 v5.1.cells.length]) q7 k k k k k k k k k k k k k k) k<|aT k2<|aN (t:=mN [(1,.list 2 (a1.map eS)),(2,.ptr 0 0 0),(4,.ptr 1 0 0),(7,.own 10 0 ((x1.1++[v5.1.rows]).length)),(8,.own 12 0 ((x1.2.1++[v5.1]).length)),(9,.own 4 0 x1.2.2.1.length),(10,.int x1.2.2.2),(12,.ptr 8 0 0)] [(0,⟨6,[eR a0]⟩),(1,⟨6,[zG]⟩),(4,⟨3,x1.2.2.1.map (ow eM)⟩),(6,⟨1,v5.2.cells.map (ow eI)⟩),(8,⟨3,[oMt v5.2 6]⟩),(10,⟨1,List.map (ow eI) (x1.1++[v5.1.rows])⟩),(12,⟨3,List.map (ow eM) (x1.2.1++[v5.1])⟩)] 13) (Ent.trans (iK (b:=12) (b':=5) (j:=2) (es':=v5.1.cells.map eI) k k k k (aQ _ _) (cX.frzs _)) (bJ (mZ 4 k2 (gU ⟨_,k,⟨k,k,(by simp only [aQ,lA,lT,lR,lC,lN]),k⟩⟩ (bE k2))) (bK k<|bK k<|cE (dI.plainO _) k<|bO k<|dK k<|bO k<|hX ⟨_,k,k,.inl ⟨pG v5.1 k,dI.plainO _⟩⟩ k<|aR) k4))<|rg<|am k k<|lp k8<|ae (cV aA k k k k k k k k k k k k) k<|cG h λq8 h=>ae (lF aA (l:=x1.2.2.1) (c:=[.int v5.2.rows,.int v5.2.cols,.own 6 0 v5.2.cells.length]) q8 k k k k k k k k k k k k k k) k<|aa k k<|an<|aU<|tn<|aN (t:=mN [(1,.list 2 (a1.map eS)),(2,.ptr 0 0 0),(4,.ptr 1 0 0),(7,.own 10 0 ((x1.1++[v5.1.rows]).length)),(8,.own 12 0 ((x1.2.1++[v5.1]).length)),(9,.own 14 0 ((x1.2.2.1++[v5.2]).length)),(10,.int x1.2.2.2)] [(0,⟨6,[eR a0]⟩),(1,⟨6,[zG]⟩),(10,⟨1,List.map (ow eI) (x1.1++[v5.1.rows])⟩),(12,⟨3,List.map (ow eM) (x1.2.1++[v5.1])⟩),(14,⟨3,List.map (ow eM) (x1.2.2.1++[v5.2])⟩)] 15) (Ent.trans (iK (b:=14) (b':=6) (j:=2) (es':=v5.2.cells.map eI) k k k k (aQ _ _) (cX.frzs _)) (bJ (mZ 5 k2 (gU ⟨_,k,⟨k,k,(by simp only [aQ,lA,lT,lR,lC,lN]),k⟩⟩ (bE k2))) (bK k<|bK k<|bO k<|cE (dI.plainO _) k<|hX ⟨_,k,k,.inl ⟨pG v5.2 k,dI.plainO _⟩⟩ k<|aR) k4))<|rg<|am k k<|ae (bB k k) k<|aa k k<|an ?_
    refine tn ?_
    obtain rfl:=so h
    exact ⟨_,k,(pI [0,1,10,12,14] (bE k2) (bK k<|bK k<|bO k<|cE (dI.plainO _) k<|cE (dI.plainO _) k<|aR) k4)⟩
   ·refine aD k q3<|aV<|aB<|aB ?_
    obtain rfl:=so h
    exact ⟨_,k,k,(bJ (bE k2) (bK k<|bK k<|bO k<|cE (dI.plainO _) k<|cE (dI.plainO _) k<|aR) k4)⟩
  ·rintro e t ⟨rfl,hent⟩
   refine aL<|tn<|aN hent<|sR<|fp k8<|lp k8<|fp k8<|lp k8<|am k k<|oB h λv10 hv10 h=>ae (cR (aMt a0.p a0.q y9.1 v10 hv10) k3 (bX k (aZ (pY k) (vcT k k aM)))) k<|ae (bW aA k k) k<|ae (bF aA k k k k k k k k) k<|an<|tn<|sQ<|sR<|aT k2<|aE<|oB h λy20 hy20 h=>bU (body:=(mV a0 y9)) hy20 (λ(x2:((List Mt)×Int))=>mN [(2,.ptr 0 0 0),(4,.ptr 1 0 0),(8,.own 2 0 y9.2.1.length),(9,.own 3 0 y9.2.2.length),(13,.ptr 4 0 0),(14,.int x2.2)] [(0,⟨6,[eR a0]⟩),(1,⟨6,[zG]⟩),(2,⟨3,y9.2.1.map (ow eM)⟩),(3,⟨3,y9.2.2.map (ow eM)⟩),(4,⟨6,[[.int v10.p,.int v10.q.n,.own 5 0 v10.q.src.length,.own 6 0 v10.q.tgt.length,.own 7 0 v10.dims.length,.own 8 0 x2.1.length]]⟩),(5,⟨1,v10.q.src.map (ow eI)⟩),(6,⟨1,v10.q.tgt.map (ow eI)⟩),(7,⟨1,v10.dims.map (ow eI)⟩),(8,⟨3,x2.1.map (ow eM)⟩)] 9) (λr e t=>e= .exit 2∧Ent t (mN [(4,.ptr 0 0 0),(8,.own 1 0 y9.2.1.length),(13,.ptr 2 0 0)] [(0,⟨6,[zG]⟩),(1,⟨3,y9.2.1.map (ow eM)⟩),(2,⟨6,[[.int v10.p,.int v10.q.n,.own 3 0 v10.q.src.length,.own 4 0 v10.q.tgt.length,.own 5 0 v10.dims.length,.own 6 0 r.length]]⟩),(3,⟨1,v10.q.src.map (ow eI)⟩),(4,⟨1,v10.q.tgt.map (ow eI)⟩),(5,⟨1,v10.dims.map (ow eI)⟩),(6,⟨3,r.map (ow eM)⟩)] 7)) (pI [0,1,3,4,9,5,6,7,8] (bE k2) (bK k<|bK k<|cE (dI.plainO _) k<|cE (dI.plainO _) k<|dK k<|bO k<|bO k<|bO k<|cE (dI.plainO _) k<|aR) k4) ?_ ?_
   ·intro x2 o h
    refine sQ<|sR<|am k k<|fp k8<|lp k8<|ln k4<|cm k4<|an<|tn ?_
    rcases cb h with ⟨q11,h⟩|⟨q11,h⟩
    ·refine aC k q11<|aI<|tn<|sQ<|aE<|aS iL<|fp k8<|lp k8<|am k k<|fp k8<|lp k8<|fp k8<|lp k8<|am k k<|fp k8<|fp k8<|lp k8<|am k k<|oB h λv12 hv12 h=>ae (aP aA hv12 k k k k k k) k<|lr k7<|oB h λv13 hv13 h=>ae (bP aA (cO hv13) (cB hv13) k k k k k k k) k<|ae (bG aA k k k k (dL (bZ hv13)) k k) k<|fp k8<|lp k8<|am k k<|oB h λv14 hv14 h=>ae (aP aA hv14 k k k k k k) k<|lr k7<|oB h λv15 hv15 h=>ae (cM (zO a0.p v13 v14 v15 hv15) k3 (bX k (aZ (pY k) (aZ (pY k) aM)))) k<|am k k<|fp k8 ?_
     refine fp k8<|lp k8<|am k k<|oB h λv16 hv16 h=>ae (aP aA hv16 k k k k k k) k<|lr k7<|oB h λv17 hv17 h=>ae (bP aA (cO hv17) (cB hv17) k k k k k k k) k<|ae (bG aA k k k k (dL (bZ hv17)) k k) k<|oB h λv18 hv18 h=>ae (cM (zO a0.p v15 v17 v18 hv18) k3 (bX k (aZ (vaM k2) (aZ (pY k) aM)))) k<|oB h λv19 hv19 h=>ae (bP aA (cO hv19) (cB hv19) k k k k k k k) k<|ae (bF aA k k k k k k (dL (bZ hv19)) k) k<|an<|wA (by kernel_rfl)<|aU<|tn<|aN (t:=mN [(2,.ptr 0 0 0),(4,.ptr 1 0 0),(8,.own 2 0 y9.2.1.length),(9,.own 3 0 y9.2.2.length),(13,.ptr 4 0 0),(14,.int x2.2)] [(0,⟨6,[eR a0]⟩),(1,⟨6,[zG]⟩),(2,⟨3,y9.2.1.map (ow eM)⟩),(3,⟨3,y9.2.2.map (ow eM)⟩),(4,⟨6,[[.int v10.p,.int v10.q.n,.own 5 0 v10.q.src.length,.own 6 0 v10.q.tgt.length,.own 7 0 v10.dims.length,.own 8 0 x2.1.length]]⟩),(5,⟨1,v10.q.src.map (ow eI)⟩),(6,⟨1,v10.q.tgt.map (ow eI)⟩),(7,⟨1,v10.dims.map (ow eI)⟩),(8,⟨3,(x2.1.map (ow eM)).set x2.2.toNat [.int v18.rows,.int v18.cols,.own 10 0 v18.cells.length]⟩),(10,⟨1,v18.cells.map (ow eI)⟩)] 11) (fU (σ:=sg [(0,0),(1,1),(2,2),(3,3),(4,4),(5,5),(6,6),(7,7),(8,8),(10,10)]) (bE k2) (bK k<|bK k<|cE (dI.plainO _) k<|cE (dI.plainO _) k<|dK k<|bO k<|bO k<|bO k<|hX ⟨_,k,k,.inr (aOT (σ:=sg [(0,0),(1,1),(2,2),(3,3),(4,4),(5,5),(6,6),(7,7),(8,8),(10,10)]) (m:=11) (e:=eM) (l:=x2.1) (i:=x2.2.toNat) (c:=[.int v18.rows,.int v18.cols,.own 10 0 v18.cells.length]) (d:=[.int v18.rows,.int v18.cols,.own 10 0 v18.cells.length]) dI ⟨_,_,k,k,⟨_,_,k,k,⟨_,_,k,⟨k,k,k,k⟩,k⟩⟩⟩)⟩ k<|bO k<|aR) k)<|rg<|am k k<|ae (bB k k) k<|aT k2 ?_
     obtain rfl:=so h
     exact ⟨_,k,(Ent.trans (show Ent _ (mN [(2,.ptr 0 0 0),(4,.ptr 1 0 0),(8,.own 2 0 y9.2.1.length),(9,.own 3 0 y9.2.2.length),(13,.ptr 4 0 0),(14,.int (wr (x2.2+1)))] [(0,⟨6,[eR a0]⟩),(1,⟨6,[zG]⟩),(2,⟨3,y9.2.1.map (ow eM)⟩),(3,⟨3,y9.2.2.map (ow eM)⟩),(4,⟨6,[[.int v10.p,.int v10.q.n,.own 5 0 v10.q.src.length,.own 6 0 v10.q.tgt.length,.own 7 0 v10.dims.length,.own 8 0 ((x2.1.set x2.2.toNat v18).length)]]⟩),(5,⟨1,v10.q.src.map (ow eI)⟩),(6,⟨1,v10.q.tgt.map (ow eI)⟩),(7,⟨1,v10.dims.map (ow eI)⟩),(8,⟨3,List.map (ow eM) (x2.1.set x2.2.toNat v18)⟩)] 11) from (Ent.trans (aEx (b:=8) (b':=10) (j:=2) (es':=v18.cells.map eI) (by rw [List.length_map];exact cB hv19) k k k k (aQ _ _) (cX.frzs _)) (bJ (bE k2) (bK k<|bK k<|cE (dI.plainO _) k<|cE (dI.plainO _) k<|hX ⟨_,k,k,.inr ⟨_,_,k,⟨_,_,k,k,⟨_,_,k,k,⟨_,_,k,⟨k,k,k,k⟩,⟨_,_,k,⟨k,k,k,k⟩,⟨_,_,k,⟨k,k,k,k⟩,⟨_,_,k,⟨k,k,(by simp only [aQ,lA,lT,lR,lC,lN]),k⟩,k⟩⟩⟩⟩⟩⟩,k⟩⟩ k<|bO k<|bO k<|bO k<|hX ⟨_,k,k,.inl ⟨aLi v18 k,dI.plainO _⟩⟩ k<|aR) k4))) (bJ (bE k2) (bK k<|bK k<|cE (dI.plainO _) k<|cE (dI.plainO _) k<|dK k<|bO k<|bO k<|bO k<|cE (dI.plainO _) k<|aR) k4))⟩
    ·refine aD k q11<|aV<|aB<|aB ?_
     obtain rfl:=so h
     exact ⟨_,k,k,(pI [1,2,4,5,6,7,8] (bE k2) (bK k<|cE (dI.plainO _) k<|dK k<|bO k<|bO k<|bO k<|cE (dI.plainO _) k<|aR) k4)⟩
   ·rintro e t ⟨rfl,hent⟩
    refine aL<|tn<|aN hent<|sR<|lp k8<|am k k<|ae (bF aA k k k k k k k k) k<|aa k k<|aT k2<|aH ?_
    obtain rfl:=so h
    exact bH k k k (dW k (cA (xR (bA (k) (bA (k) (bA (eK cX k k) (bA (eK cX k k) (bA (eK cX k k) (bA (eK dI k k) fK))))))) (cA (nC (eK dI k k)) (cA (k) gT))))
def cJ (a0:Rp) (a1:(List Int)) (x1:((List (List Int))×Int×Int×(List Int)×(List Int)×(List Int)×(List Mt)×Int)):Option (((List (List Int))×Int×Int×(List Int)×(List Int)×(List Int)×(List Mt)×Int) ⊕ (Unit ⊕ ((List (List Int))×Bool))):=
 bif decide (x1.2.2.2.2.2.2.2≤5) then
 ((pT (⟨x1.2.1,(⟨x1.2.2.1,x1.2.2.2.1,x1.2.2.2.2.1⟩:Qv),x1.2.2.2.2.2.1,x1.2.2.2.2.2.2.1⟩:Rp)).bind λv2=>
 bif decide (v2=0) then
 ((kB a1 a0.dims).bind λv4=>
 some (.inr (.inr ((x1.1,v4)))))
 else
 ((kR (⟨x1.2.1,(⟨x1.2.2.1,x1.2.2.2.1,x1.2.2.2.2.1⟩:Qv),x1.2.2.2.2.2.1,x1.2.2.2.2.2.2.1⟩:Rp) a1).bind λv5=>
 bif !v5.2 then
 (some (.inr (.inr ((([]:(List (List Int))),false)))))
 else
 ((pU (⟨x1.2.1,(⟨x1.2.2.1,x1.2.2.2.1,x1.2.2.2.2.1⟩:Qv),x1.2.2.2.2.2.1,x1.2.2.2.2.2.2.1⟩:Rp) v5.1).bind λv7=>
 bif decide (x1.1.length+1≤4294967296) then
 ((rK (⟨x1.2.1,(⟨x1.2.2.1,x1.2.2.2.1,x1.2.2.2.2.1⟩:Qv),x1.2.2.2.2.2.1,x1.2.2.2.2.2.2.1⟩:Rp) v5.1).bind λv9=>
 some (.inl ((x1.1++[v7]),v9.1.p,v9.1.q.n,v9.1.q.src,v9.1.q.tgt,v9.1.dims,v9.1.maps,wr (x1.2.2.2.2.2.2.2+1))))
 else none)))
 else
 (some (.inr (.inl ())))
def lJ (a0:Rp) (a1:(List Int)):Option ((List (List Int))×Bool):=
 (Lp (cJ a0 a1) (([]:(List (List Int))),a0.p,a0.q.n,a0.q.src,a0.q.tgt,a0.dims,a0.maps,0)).bind λy10=>
 Sum.elim (λy11=>
 some ((([]:(List (List Int))),false))
 )
 (λy12=>
 some y12
 )
 y10
theorem aER (a0:Rp) (a1:(List Int)) (r:((List (List Int))×Bool)) (h:lJ a0 a1=some r):HasC Tryz.prog 43 [.agg (eR a0),.list 1 (a1.map eI)] (.tuple [.list 1 (r.1.map (dH 1 eI)),.bl r.2]):=by
 refine aW aA (rvs:=[.tmp 4,.tmp 5]) (ns:=fE) Tryz.func43 k k Tryz.ntmps43 k k k<|sR<|ae (cP k k k k) k<|aa k k<|aT k2<|sR<|ae (cV aA k k k k k k k k k k k k) k<|aT k2<|aN (t:=mN [(1,.list 1 (a1.map eI)),(2,.ptr 0 0 0),(6,.own 1 0 (([]:(List (List Int))).length))] [(0,⟨6,[eR a0]⟩),(1,⟨1,List.map (ow (dH 1 eI)) ([]:(List (List Int)))⟩)] 2) (bJ (mZ 2 k2 (gU ⟨_,k,⟨k,k,(by simp only [aQ,lA,lT,lR,lC,lN]),k⟩⟩ aR)) (bK k<|cE (bN.plainO _) k<|aR) k4)<|sR<|lp k8<|ae (bW aA k k) k<|ae (bF aA k k k k k k k k) k<|an<|tn<|sQ<|sR<|aT k2<|aE<|oB h λy10 hy10 h=>bU (body:=(cJ a0 a1)) hy10 (λ(x1:((List (List Int))×Int×Int×(List Int)×(List Int)×(List Int)×(List Mt)×Int))=>mN [(1,.list 1 (a1.map eI)),(2,.ptr 0 0 0),(6,.own 1 0 x1.1.length),(7,.ptr 2 0 0),(8,.int x1.2.2.2.2.2.2.2)] [(0,⟨6,[eR a0]⟩),(1,⟨1,x1.1.map (ow (dH 1 eI))⟩),(2,⟨6,[[.int x1.2.1,.int x1.2.2.1,.list 1 (x1.2.2.2.1.map eI),.list 1 (x1.2.2.2.2.1.map eI),.list 1 (x1.2.2.2.2.2.1.map eI),.list 3 (x1.2.2.2.2.2.2.1.map eM)]]⟩)] 3) (λr e t=>Sum.elim (λa=>(λr e t=>e= .exit 0∧Ent t (mN [] [] 0)) a e t) (λb=>(λr e t=>e= .ret∧qA TT [.tmp 4,.tmp 5] (.tuple [.list 1 (r.1.map (dH 1 eI)),.bl r.2]) .ret t) b e t) r) (bJ (bE k2) (bK k<|cE (bN.plainO _) k<|bK k<|aR) k4) ?_ ?_
 ·intro x1 o h
  refine sQ<|sR<|am k k<|cm k4<|an<|tn ?_
  rcases cb h with ⟨q1,h⟩|⟨q1,h⟩
  ·refine aC k q1<|aI<|tn<|sQ<|aE<|sQ<|sR<|lp k8<|oB h λv2 hv2 h=>ae (aO (aCa (⟨x1.2.1,(⟨x1.2.2.1,x1.2.2.2.1,x1.2.2.2.2.1⟩:Qv),x1.2.2.2.2.2.1,x1.2.2.2.2.2.2.1⟩:Rp) v2 hv2) k (aZ (pY k) aM)) k<|cm k4<|an<|tn ?_
   rcases cb h with ⟨q3,h⟩|⟨q3,h⟩
   ·refine aC k q3<|sR<|am k k<|am k k<|fp k8<|lp k8<|oB h λv4 hv4 h=>ae (aO (uO a1 a0.dims v4 hv4) k (bX k (bX k aM))) k<|aa k k<|aT k2<|aH<|aG<|bD<|aG<|aG ?_
    obtain rfl:=so h
    exact ⟨_,k,k,bH k k k (dW k (cA (nC (eK bN k k)) (cA (k) gT)))⟩
   ·refine aD k q3<|aI<|tn<|sR<|lp k8<|am k k<|oB h λv5 hv5 h=>ae (wG (σ:=sg []) (σ':=sg []) (touch:=[]) (news:=[]) (hl2:=[]) (n':=3) (r2:= .tuple [.list 2 (v5.1.map eS),.bl v5.2]) (aIY (⟨x1.2.1,(⟨x1.2.2.1,x1.2.2.2.1,x1.2.2.2.2.1⟩:Qv),x1.2.2.2.2.2.1,x1.2.2.2.2.2.2.1⟩:Rp) a1 v5 hv5) k k ⟨_,_,k,(.inl ⟨_,_,k,k,⟨_,_,k,k,⟨_,_,k,⟨k,k⟩,⟨_,_,k,⟨k,k⟩,⟨_,_,k,⟨k,k⟩,⟨_,_,k,⟨k,k⟩,k⟩⟩⟩⟩⟩⟩),⟨_,_,k,(.inl ⟨k,k⟩),k⟩⟩ aR k k k aR k (.inr ⟨_,_,k,k,⟨_,_,k,⟨k,k⟩,⟨_,_,k,k,k⟩⟩⟩) k aR k k) k<|am k k<|ae (bY k k (by intro _ h;cases h)) k<|ae (bY k k (by intro _ h;cases h)) k<|aa k k<|aT k2<|sQ<|sR<|am k k<|ae (dG k) k<|an<|tn ?_
    rcases cb h with ⟨q6,h⟩|⟨q6,h⟩
    ·refine aC k q6<|sR<|ae (cV aA k k k k k k k k k k k k) k<|aa k k<|aT k2<|aN (t:=mN [(4,.own 3 0 (([]:(List (List Int))).length)),(5,.bl false)] [(3,⟨1,List.map (ow (dH 1 eI)) ([]:(List (List Int)))⟩)] 4) (bJ (gU ⟨_,k,⟨k,k,(by simp only [aQ,lA,lT,lR,lC,lN]),k⟩⟩ (bE k2)) (cE (bN.plainO _) k<|aR) k4)<|aH<|aG<|bD<|aG<|aG ?_
     obtain rfl:=so h
     exact ⟨_,k,k,bH k k k (dW k (cA (nC (eK bN k k)) (cA (k) gT)))⟩
    ·refine aD k q6<|aI<|tn<|sR<|am k k<|lp k8<|am k k<|oB h λv7 hv7 h=>ae (cL cX (aCb (⟨x1.2.1,(⟨x1.2.2.1,x1.2.2.2.1,x1.2.2.2.2.1⟩:Qv),x1.2.2.2.2.2.1,x1.2.2.2.2.2.2.1⟩:Rp) v5.1 v7 hv7) k3 (aZ (pY k) (bX k aM))) k<|ae (cV aA k k k k k k k k k k k k) k<|cG h λq8 h=>ae (lF aA (l:=x1.1) (c:=[.own 3 0 v7.length]) q8 k k k k k k k k k k k k k k) k<|aT k2<|aN (t:=mN [(1,.list 1 (a1.map eI)),(2,.ptr 0 0 0),(6,.own 5 0 ((x1.1++[v7]).length)),(7,.ptr 2 0 0),(8,.int x1.2.2.2.2.2.2.2),(9,.list 2 (v5.1.map eS))] [(0,⟨6,[eR a0]⟩),(2,⟨6,[[.int x1.2.1,.int x1.2.2.1,.list 1 (x1.2.2.2.1.map eI),.list 1 (x1.2.2.2.2.1.map eI),.list 1 (x1.2.2.2.2.2.1.map eI),.list 3 (x1.2.2.2.2.2.2.1.map eM)]]⟩),(5,⟨1,List.map (ow (dH 1 eI)) (x1.1++[v7])⟩)] 6) (Ent.trans (iK (b:=5) (b':=3) (j:=0) (es':=v7.map eI) k k k k (aQ _ _) (cX.frzs _)) (bJ (mZ 2 k2 (gU ⟨_,k,⟨k,k,(by simp only [aQ,lA,lT,lR,lC,lN]),k⟩⟩ (bE k2))) (bK k<|bK k<|hX ⟨_,k,k,.inl ⟨pG v7 k,bN.plainO _⟩⟩ k<|aR) k4))<|rg<|lp k8<|am k k<|oB h λv9 hv9 h=>ae (AEff.conv (oT (x:= .tuple [.agg [.int v9.1.p,.int v9.1.q.n,.own 6 0 (v9.1.q.src.map eI).length,.own 7 0 (v9.1.q.tgt.map eI).length,.own 8 0 (v9.1.dims.map eI).length,.own 9 0 (v9.1.maps.map eM).length],.own 10 0 (v9.2.1.map eM).length,.bl v9.2.2]) (nb:=[(6,⟨1,cU (v9.1.q.src.map eI)⟩),(7,⟨1,cU (v9.1.q.tgt.map eI)⟩),(8,⟨1,cU (v9.1.dims.map eI)⟩),(9,⟨3,cU (v9.1.maps.map eM)⟩),(10,⟨3,cU (v9.2.1.map eM)⟩)]) (aHR (⟨x1.2.1,(⟨x1.2.2.1,x1.2.2.2.1,x1.2.2.2.2.1⟩:Qv),x1.2.2.2.2.2.1,x1.2.2.2.2.2.2.1⟩:Rp) v5.1 v9 hv9) k (by rfl) k k (gP (cK aR (cK aR (cK (cX.good _) (cK (cX.good _) (cK (cX.good _) (cK (dI.good _) zL)))))) (gP (dI.good _) (gP aR aBZ))) (aZ (pY k) (bX k aM))) (v':= .tuple [.agg [.int v9.1.p,.int v9.1.q.n,.own 6 0 v9.1.q.src.length,.own 7 0 v9.1.q.tgt.length,.own 8 0 v9.1.dims.length,.own 9 0 v9.1.maps.length],.own 10 0 v9.2.1.length,.bl v9.2.2]) (ed':=[(6,some ⟨1,v9.1.q.src.map (ow eI)⟩),(7,some ⟨1,v9.1.q.tgt.map (ow eI)⟩),(8,some ⟨1,v9.1.dims.map (ow eI)⟩),(9,some ⟨3,v9.1.maps.map (ow eM)⟩),(10,some ⟨3,v9.2.1.map (ow eM)⟩)]) (by simp only [aQ]) (aBL (nb':=[(6,⟨1,v9.1.q.src.map (ow eI)⟩),(7,⟨1,v9.1.q.tgt.map (ow eI)⟩),(8,⟨1,v9.1.dims.map (ow eI)⟩),(9,⟨3,v9.1.maps.map (ow eM)⟩),(10,⟨3,v9.2.1.map (ow eM)⟩)]) (by simp only [jP]))) k<|am k k<|ae (bY k k (by intro _ h;cases h)) k<|ae (bY k k (by intro _ h;cases h)) k<|ae (bY k k (by intro _ h;cases h)) k<|ae (bF aA k k k k k k k k) k<|an<|aU<|tn<|rg<|am k k<|ae (bB k k) k ?_
     refine aT k2 ?_
     obtain rfl:=so h
     exact ⟨_,k,(Ent.trans (Ent.trans (Ent.trans (Ent.trans (pS (b:=2) (b':=6) (i:=0) (j:=2) (es':=v9.1.q.src.map eI) k k k k (aBY cX k k)) (pS (b:=2) (b':=7) (i:=0) (j:=3) (es':=v9.1.q.tgt.map eI) k k k k (aBY cX k k))) (pS (b:=2) (b':=8) (i:=0) (j:=4) (es':=v9.1.dims.map eI) k k k k (aBY cX k k))) (pS (b:=2) (b':=9) (i:=0) (j:=5) (es':=v9.1.maps.map eM) k k k k (aBY dI k k))) (pI [0,5,2] (bE k2) (bK k<|cE (bN.plainO _) k<|bK k<|aR) k4))⟩
  ·refine aD k q1<|aV<|aB<|aB ?_
   obtain rfl:=so h
   exact ⟨_,k,k,(bJ aR aR k4)⟩
 ·intro e t hX
  rcases y10 with y11|y12
  ·obtain ⟨rfl,hent⟩:=hX
   refine aL<|tn<|aN hent<|sR<|ae (cV aA k k k k k k k k k k k k) k<|aa k k<|aT k2<|aN (t:=mN [(4,.own 0 0 (([]:(List (List Int))).length)),(5,.bl false)] [(0,⟨1,List.map (ow (dH 1 eI)) ([]:(List (List Int)))⟩)] 1) (bJ (gU ⟨_,k,⟨k,k,(by simp only [aQ,lA,lT,lR,lC,lN]),k⟩⟩ (bE k2)) (cE (bN.plainO _) k<|aR) k4)<|aH ?_
   obtain rfl:=so h
   exact bH k k k (dW k (cA (nC (eK bN k k)) (cA (k) gT)))
  ·obtain ⟨rfl,hent⟩:=hX
   refine bD<|aG ?_
   obtain rfl:=so h
   exact hent
def kF (a0:Rp) (a1:(List Int)):Option Bool:=
 bif decide (1048576<(a1.length:Int)) then
 (some (true))
 else
 ((aED a0 1048576).bind λv2=>
 bif decide (v2<0) then
 (some (true))
 else
 ((qL a0).bind λv4=>
 (gN a1).bind λv5=>
 (lJ v4 v5).bind λv6=>
 (qL a0).bind λv7=>
 (gN a1).bind λv8=>
 (iT v7 v8).bind λv9=>
 (pP v9.1 v6.1).bind λv10=>
 bif !v10 then
 (some (false))
 else
 (bif !(v9.2==v6.2) then
 (some (false))
 else
 ((qL a0).bind λv13=>
 (aBx v7 v13).bind λv14=>
 bif !v14 then
 (some (false))
 else
 ((gN a1).bind λv16=>
 (lP v8 v16).bind λv17=>
 bif !v17 then
 (some (false))
 else
 ((zZ v7 1).bind λv19=>
 bif decide (v19.1.length=v7.q.src.length) then
 (bif decide (v19.2.1.length=v7.q.tgt.length) then
 (bif decide (v19.2.2.1.length=v7.dims.length) then
 (bif decide (v19.2.2.2.1.length=v7.maps.length) then
 ((gQ v8 v19.2.2.2.2).bind λv24=>
 bif decide (v24.1.length=v8.length) then
 (bif decide (v24.2<0) then
 (some (false))
 else
 ((pP v9.1 v6.1).bind λv27=>
 bif !v27 then
 (some (false))
 else
 (bif !(v9.2==v6.2) then
 (some (false))
 else
 ((vN v9.1 1).bind λv30=>
 bif decide (v30.1.length=v9.1.length) then
 ((pQ v30.1 1).bind λv32=>
 bif decide (v32<0) then
 (some (false))
 else
 (bif !decide (v32=v30.2) then
 (some (false))
 else
 ((qL a0).bind λv35=>
 (gN a1).bind λv36=>
 (iT v35 v36).bind λv37=>
 (pP v37.1 v6.1).bind λv38=>
 bif !v38 then
 (some (false))
 else
 (bif !(v37.2==v6.2) then
 (some (false))
 else
 ((pQ v30.1 1).bind λv41=>
 bif decide (v41<0) then
 (some (false))
 else
 (bif !decide (v41=v30.2) then
 (some (false))
 else
 (some (true))))))))
 else none))))
 else none)
 else none)
 else none)
 else none)
 else none))))))
theorem aBX (a0:Rp) (a1:(List Int)) (r:Bool) (h:kF a0 a1=some r):HasC Tryz.prog 10 [.agg (eR a0),.list 1 (a1.map eI)] (.bl r):=by
 refine aUn aA (rvs:=[.tmp 4]) (ns:=fE) Tryz.func10 k k Tryz.ntmps10 k k k (λW=>?_)
 refine aPo<|aKq<|aKq<|aFD (λw0_2 S0_2 r0_2=>?_)
 refine aFD (λw0_3 S0_3 r0_3=>?_)
 refine aFD (λw0_4 S0_4 r0_4=>?_)
 refine aFD (λw0_5 S0_5 r0_5=>?_)
 refine aPn<|aUm (λw1_0 S1_0 r1_0=>?_)
 refine aLq<|sS<|se (cP k k k k) k<|mY k2<|sn<|tn<|sQ<|sS<|eT k2<|se (aTb aA r1_0 k k k) k<|cmS k4<|sn<|tn ?_
 rcases cb h with ⟨q1,h⟩|⟨q1,h⟩
 ·exact aC k q1<|sS<|mY k2<|sn<|tn<|aH<|aG<|gD h k2
 ·refine aD k q1<|aI<|tn<|sS<|mY k2<|sn<|tn<|sS<|lpS k8<|eT k2<|oB h λv2 hv2 h=>se (kI (aOa a0 1048576 v2 hv2) k (iM (vrR k r0_2 r0_3 r0_4 r0_5) (wkS k iY))) k<|mY k2<|sn<|tn<|sQ<|sS<|eT k2<|cmS k4<|sn<|tn ?_
  rcases cb h with ⟨q3,h⟩|⟨q3,h⟩
  ·exact aC k q3<|sS<|mY k2<|sn<|tn<|aH<|aG<|gD h k2
  ·refine aD k q3<|aI<|tn<|sS<|lpS k8<|oB h λv4 hv4 h=>se (cRK (aBw a0 v4 hv4) k3 (iM (vrR k r0_2 r0_3 r0_4 r0_5) iY)) k<|eT k2<|oB h λv5 hv5 h=>se (cLK cX (lO a1 v5 hv5) k3 (wkD k r1_0 iY)) k<|oB h λv6 hv6 h=>se (cTK bN (aER v4 v5 v6 hv6) k3 (iM (.inl (vaR k8)) (wkT k k iY))) k<|eT k2<|se (bY k k (by intro _ h;cases h)) k<|se (bY k k (by intro _ h;cases h)) k<|mY k2<|mY k2<|sn<|tn<|sS<|lpS k8<|oB h λv7 hv7 h=>se (cRK (aBw a0 v7 hv7) k3 (iM (vrR k r0_2 r0_3 r0_4 r0_5) iY)) k<|se (bW aA k k) k<|se (bF aA k k k k k k k k) k<|sn<|tn<|aN (t:=mN [(1,.sc w1_0),(2,.ptr 0 0 0),(6,.own 6 0 v6.1.length),(7,.bl v6.2),(8,.ptr 11 0 0)] [(0,⟨6,[[.int a0.p,.int a0.q.n,.sc w0_2,.sc w0_3,.sc w0_4,.sc w0_5]]⟩),(6,⟨1,v6.1.map (ow (dH 1 eI))⟩),(7,⟨1,v7.q.src.map (ow eI)⟩),(8,⟨1,v7.q.tgt.map (ow eI)⟩),(9,⟨1,v7.dims.map (ow eI)⟩),(10,⟨3,v7.maps.map (ow eM)⟩),(11,⟨6,[oRp v7 7 8 9 10]⟩)] 12 ⟨0,true,fxW W,true⟩) (bJ (bE k2) (bK k<|cE (bN.plainO _) k<|bO k<|bO k<|bO k<|cE (dI.plainO _) k<|dK k<|aR) k4)<|sS<|eT k2<|oB h λv8 hv8 h=>se (cLK cX (lO a1 v8 hv8) k3 (wkD k r1_0 iY)) k ?_
   refine mY k2<|sn<|tn<|sS<|lpS k8<|eT k2<|oB h λv9 hv9 h=>se (cTK bN (aAQ v7 v8 v9 hv9) k3 (iM (.inl (vaR k8)) (wkT k k iY))) k<|eT k2<|se (bY k k (by intro _ h;cases h)) k<|se (bY k k (by intro _ h;cases h)) k<|mY k2<|mY k2<|sn<|tn<|sQ<|sS<|eT k2<|eT k2<|oB h λv10 hv10 h=>se (kI (aCW v9.1 v6.1 v10 hv10) k (iM (.inl (aDG bN k k)) (iM (.inl (aDG bN k k)) iY))) k<|se (dG k) k<|eT k2 ?_
   rcases cb h with ⟨q11,h⟩|⟨q11,h⟩
   ·exact aBN 47 k q11<|iV k k<|iV k k<|iV k k<|pkS k3<|sn<|tn<|aC k k<|sS<|mY k2<|sn<|tn<|aH<|aG<|gD h k2
   ·refine aBN 47 k q11<|eT k2<|eT k2<|se (aQr (by kernel_rfl) k k) k<|pkS k3<|sn<|tn ?_
    rcases cb h with ⟨q12,h⟩|⟨q12,h⟩
    ·exact aC k q12<|sS<|mY k2<|sn<|tn<|aH<|aG<|gD h k2
    ·refine aD k q12<|aI<|tn<|sQ<|sQ<|aS iL<|lp k8<|lp k8<|oB h λv13 hv13 h=>ae (cRK (aBw a0 v13 hv13) k3 (iM (vrR k r0_2 r0_3 r0_4 r0_5) iY)) k<|oB h λv14 hv14 h=>ae (kI (aOb v7 v13 v14 hv14) k (iM (.inl (vaR k8)) (iM (.inl (vaR k8)) iY))) k<|ae (dG k) k<|an<|wA (by kernel_rfl)<|tn<|aN (t:=mN [(1,.sc w1_0),(2,.ptr 0 0 0),(6,.own 6 0 v6.1.length),(7,.bl v6.2),(8,.ptr 11 0 0),(9,.own 12 0 v8.length),(10,.own 13 0 v9.1.length),(11,.bl v9.2),(56,.bl (!v14))] [(0,⟨6,[[.int a0.p,.int a0.q.n,.sc w0_2,.sc w0_3,.sc w0_4,.sc w0_5]]⟩),(6,⟨1,v6.1.map (ow (dH 1 eI))⟩),(7,⟨1,v7.q.src.map (ow eI)⟩),(8,⟨1,v7.q.tgt.map (ow eI)⟩),(9,⟨1,v7.dims.map (ow eI)⟩),(10,⟨3,v7.maps.map (ow eM)⟩),(11,⟨6,[oRp v7 7 8 9 10]⟩),(12,⟨1,v8.map (ow eI)⟩),(13,⟨1,v9.1.map (ow (dH 1 eI))⟩)] 18 ⟨0,true,fxW W,true⟩) (bJ (bE k2) (bK k<|cE (bN.plainO _) k<|bO k<|bO k<|bO k<|cE (dI.plainO _) k<|dK k<|bO k<|cE (bN.plainO _) k<|aR) k4) ?_
     rcases cb h with ⟨q15,h⟩|⟨q15,h⟩
     ·exact aC k q15<|sS<|mY k2<|sn<|tn<|aH<|aG<|gD h k2
     ·refine aD k q15<|aI<|tn<|sQ<|sS<|eT k2<|eT k2<|oB h λv16 hv16 h=>se (cLK cX (lO a1 v16 hv16) k3 (wkD k r1_0 iY)) k<|oB h λv17 hv17 h=>se (kI (rW v8 v16 v17 hv17) k (wkT k k (wkT k k iY))) k<|se (dG k) k<|sn<|tn ?_
      rcases cb h with ⟨q18,h⟩|⟨q18,h⟩
      ·exact aC k q18<|sS<|mY k2<|sn<|tn<|aH<|aG<|gD h k2
      ·refine aD k q18<|aI<|tn<|sS<|mY k2<|sn<|tn<|sS<|lpS k8<|eT k2<|oB h λv19 hv19 h=>pH (t:=mN [(1,.sc w1_0),(2,.ptr 0 0 0),(6,.own 6 0 v6.1.length),(7,.bl v6.2),(8,.ptr 11 0 0),(9,.own 12 0 v8.length),(10,.own 13 0 v9.1.length),(11,.bl v9.2),(12,.int 1),(56,.bl (!v14)),(57,.own 12 0 v8.length),(58,.sc w1_0),(59,.own 18 0 v16.length),(60,.bl v17),(61,.bl (!v17)),(62,.agg (oRp v7 7 8 9 10)),(63,.int 1)] [(0,⟨6,[[.int a0.p,.int a0.q.n,.sc w0_2,.sc w0_3,.sc w0_4,.sc w0_5]]⟩),(6,⟨1,v6.1.map (ow (dH 1 eI))⟩),(7,⟨1,v7.q.src.map (ow eI)⟩),(8,⟨1,v7.q.tgt.map (ow eI)⟩),(9,⟨1,v7.dims.map (ow eI)⟩),(10,⟨3,v7.maps.map (ow eM)⟩),(11,⟨6,[oRp v7 7 8 9 10]⟩),(12,⟨1,v8.map (ow eI)⟩),(13,⟨1,v9.1.map (ow (dH 1 eI))⟩),(18,⟨1,v16.map (ow eI)⟩)] 19 ⟨0,true,fxW W,true⟩) (bJ (bE k2) (bK k<|cE (bN.plainO _) k<|bO k<|bO k<|bO k<|cE (dI.plainO _) k<|dK k<|bO k<|cE (bN.plainO _) k<|bO k<|aR) k4)<|aRL (σ:=sg [(0,7),(1,8),(2,9),(3,10)]) (σ':=sg [(7,0),(8,1),(9,2),(10,3)]) (touch:=[7,8,9,10]) (news:=[]) (hl2:=[(7,⟨1,v19.1.map (ow eI)⟩),(8,⟨1,v19.2.1.map (ow eI)⟩),(9,⟨1,v19.2.2.1.map (ow eI)⟩),(10,⟨3,v19.2.2.2.1.map (ow eM)⟩)]) (n':=19) (r2:= .int v19.2.2.2.2) (aMF v7 1 v19 hv19) k k ⟨_,_,k,⟨_,_,k,k,⟨_,_,k,k,⟨_,_,k,⟨k,k,k,k⟩,⟨_,_,k,⟨k,k,k,k⟩,⟨_,_,k,⟨k,k,k,k⟩,⟨_,_,k,⟨k,k,k,k⟩,k⟩⟩⟩⟩⟩⟩,⟨_,_,k,k,k⟩⟩ ⟨⟨_,k,k,.inl ⟨k,cX.plainO _⟩⟩,k,⟨_,k,k,.inl ⟨k,cX.plainO _⟩⟩,k,⟨_,k,k,.inl ⟨k,cX.plainO _⟩⟩,k,⟨_,k,k,.inl ⟨k,dI.plainO _⟩⟩,k,aR⟩ k k k ⟨⟨_,k,k,.inl ⟨k,cX.plainO _⟩⟩,k,⟨_,k,k,.inl ⟨k,cX.plainO _⟩⟩,k,⟨_,k,k,.inl ⟨k,cX.plainO _⟩⟩,k,⟨_,k,k,.inl ⟨k,dI.plainO _⟩⟩,k,aR⟩ k k k ⟨k,cX.tame _ _,⟨k,cX.tame _ _,⟨k,cX.tame _ _,⟨k,dI.tame _ _,aR⟩⟩⟩⟩ k k k k k (aIy ⟨k,k,k,k,k,k,k,k,k,k,k,k,k,k,k,k,k,aR⟩) (aIz (skip:=[7,8,9,10]) ⟨.inr (aLs k),.inr (bN.df _ _),.inl (by decide),.inl (by decide),.inl (by decide),.inl (by decide),.inr (aLs k),.inr (cX.df _ _),.inr (bN.df _ _),.inr (cX.df _ _),aR⟩)<|cG h λq20 h=>cG h λq21 h=>cG h λq22 h=>cG h λq23 h=>mY k2<|sn<|tn<|sS<|eT k2<|eT k2<|oB h λv24 hv24 h=>se (gZ (σ:=sg [(0,12)]) (σ':=sg [(12,0)]) (touch:=[12]) (news:=[]) (hl2:=[(12,⟨1,v24.1.map (ow eI)⟩)]) (n':=19) (r2:= .int v24.2) (nJ v8 v19.2.2.2.2 v24 hv24) k k ⟨_,_,k,⟨k,k,k,k⟩,⟨_,_,k,k,k⟩⟩ ⟨⟨_,k,k,.inl ⟨k,cX.plainO _⟩⟩,k,aR⟩ k k k ⟨⟨_,k,k,.inl ⟨k,cX.plainO _⟩⟩,k,aR⟩ k k k ⟨k,cX.tame _ _,aR⟩ k k) k<|cG h λq25 h=>mY k2<|sn<|tn<|sQ<|sS<|eT k2<|cmS k4 ?_
       refine eT k2 ?_
       rcases cb h with ⟨q26,h⟩|⟨q26,h⟩
       ·exact aBN 70 k q26<|iV k k<|iV k k<|iV k k<|iV k k<|pkS k3<|eT k2<|iV k k<|iV k k<|iV k k<|pkS k3<|sn<|tn<|aC k k<|sS<|mY k2<|sn<|tn<|aH<|aG<|gD h k2
       ·refine aBN 70 k q26<|eT k2<|eT k2<|oB h λv27 hv27 h=>se (kI (aCW v9.1 v6.1 v27 hv27) k (iM (.inl (aDG bN k k)) (iM (.inl (aDG bN k k)) iY))) k<|se (dG k) k<|pkS k3<|eT k2 ?_
        rcases cb h with ⟨q28,h⟩|⟨q28,h⟩
        ·exact aBN 76 k q28<|iV k k<|iV k k<|iV k k<|pkS k3<|sn<|tn<|aC k k<|sS<|mY k2<|sn<|tn<|aH<|aG<|gD h k2
        ·refine aBN 76 k q28<|eT k2<|eT k2<|se (aQr (by kernel_rfl) k k) k<|pkS k3<|sn<|tn ?_
         rcases cb h with ⟨q29,h⟩|⟨q29,h⟩
         ·exact aC k q29<|sS<|mY k2<|sn<|tn<|aH<|aG<|gD h k2
         ·refine aD k q29<|aI<|tn<|sS<|mY k2<|sn<|tn<|sS<|eT k2<|eT k2<|oB h λv30 hv30 h=>pH (t:=mN ((1,.sc w1_0)::(2,.ptr 0 0 0)::(6,.own 6 0 v6.1.length)::(7,.bl v6.2)::(8,.ptr 11 0 0)::(9,.own 12 0 v8.length)::(10,.own 13 0 v9.1.length)::(11,.bl v9.2)::(12,.int v24.2)::(13,.int 1)::(56,.bl (!v14))::(57,.own 12 0 v8.length)::(58,.sc w1_0)::(59,.own 18 0 v16.length)::(60,.bl v17)::(61,.bl (!v17))::(62,.agg (oRp v7 7 8 9 10))::(63,.int 1)::(64,.int v19.2.2.2.2)::(65,.own 12 0 v8.length)::(66,.int v19.2.2.2.2)::(67,.int v24.2)::(68,.int v24.2)::(69,.bl (decide (v24.2<0)))::(70,.bl false)::(71,.own 13 0 v9.1.length)::(72,.own 6 0 v6.1.length)::(73,.bl v27)::(74,.bl (!v27))::(75,.bl (!v27))::(76,.bl false)::(77,.bl v9.2)::(78,.bl v6.2)::(79,.bl (!(v9.2==v6.2)))::(80,.bl (!(v9.2==v6.2)))::(81,.own 13 0 v9.1.length)::(82,.int 1)::[]) [(0,⟨6,[[.int a0.p,.int a0.q.n,.sc w0_2,.sc w0_3,.sc w0_4,.sc w0_5]]⟩),(6,⟨1,v6.1.map (ow (dH 1 eI))⟩),(7,⟨1,v19.1.map (ow eI)⟩),(8,⟨1,v19.2.1.map (ow eI)⟩),(9,⟨1,v19.2.2.1.map (ow eI)⟩),(10,⟨3,v19.2.2.2.1.map (ow eM)⟩),(11,⟨6,[oRp v7 7 8 9 10]⟩),(12,⟨1,v24.1.map (ow eI)⟩),(13,⟨1,v9.1.map (ow (dH 1 eI))⟩),(18,⟨1,v16.map (ow eI)⟩)] 19 ⟨0,true,fxW W,true⟩) (bJ (bE k2) (bK k<|cE (bN.plainO _) k<|bO k<|bO k<|bO k<|cE (dI.plainO _) k<|dK k<|bO k<|cE (bN.plainO _) k<|bO k<|aR) k4)<|aRL (σ:=sg [(0,13)]) (σ':=sg [(13,0)]) (touch:=[13]) (news:=[]) (hl2:=[(13,⟨1,v30.1.map (ow (dH 1 eI))⟩)]) (n':=19) (r2:= .int v30.2) (aJL v9.1 1 v30 hv30) k k ⟨_,_,k,⟨k,k,k,k⟩,⟨_,_,k,k,k⟩⟩ ⟨⟨_,k,k,.inl ⟨k,bN.plainO _⟩⟩,k,aR⟩ k k k ⟨⟨_,k,k,.inl ⟨k,bN.plainO _⟩⟩,k,aR⟩ k k k ⟨k,bN.tame _ _,aR⟩ k k k k k (aIy ⟨k,k,k,k,k,k,k,k,k,k,k,k,k,k,k,k,k,k,k,k,k,k,k,k,k,k,k,k,k,k,k,k,k,k,k,k,k,aR⟩) (aIz (skip:=[13]) ⟨.inr (aLs k),.inr (bN.df _ _),.inr (cX.df _ _),.inr (cX.df _ _),.inr (cX.df _ _),.inr (dI.df _ _),.inr (aLs k),.inr (cX.df _ _),.inl (by decide),.inr (cX.df _ _),aR⟩)<|cG h λq31 h=>mY k2<|sn<|tn<|sS<|mY k2<|sn<|tn<|sS<|eT k2<|eT k2<|oB h λv32 hv32 h=>se (kI (aDj v30.1 1 v32 hv32) k (iM (.inl (aDG bN k (by first|rfl|simp only [List.length_set,of_decide_eq_true q31]))) (wkS k iY))) k<|mY k2<|sn<|tn ?_
          refine sQ<|sS<|eT k2<|cmS k4<|sn<|tn ?_
          rcases cb h with ⟨q33,h⟩|⟨q33,h⟩
          ·exact aC k q33<|sS<|mY k2<|sn<|tn<|aH<|aG<|gD h k2
          ·refine aD k q33<|aI<|tn<|sQ<|sS<|eT k2<|eT k2<|cmS k4<|sn<|tn ?_
           rcases cb h with ⟨q34,h⟩|⟨q34,h⟩
           ·exact aC k q34<|sS<|mY k2<|sn<|tn<|aH<|aG<|gD h k2
           ·refine aD k q34<|aI<|tn<|sS<|lpS k8<|oB h λv35 hv35 h=>se (cRK (aBw a0 v35 hv35) k3 (iM (vrR k r0_2 r0_3 r0_4 r0_5) iY)) k<|eT k2<|oB h λv36 hv36 h=>se (cLK cX (lO a1 v36 hv36) k3 (wkD k r1_0 iY)) k<|oB h λv37 hv37 h=>se (cTK bN (aAQ v35 v36 v37 hv37) k3 (iM (.inl (vaR k8)) (wkT k k iY))) k<|eT k2<|se (bY k k (by intro _ h;cases h)) k<|se (bY k k (by intro _ h;cases h)) k<|mY k2<|mY k2<|sn<|tn<|sQ<|sS<|eT k2<|eT k2<|oB h λv38 hv38 h=>se (kI (aCW v37.1 v6.1 v38 hv38) k (iM (.inl (aDG bN k k)) (iM (.inl (aDG bN k k)) iY))) k<|se (dG k) k<|eT k2 ?_
            rcases cb h with ⟨q39,h⟩|⟨q39,h⟩
            ·exact aBN 104 k q39<|iV k k<|iV k k<|iV k k<|pkS k3<|sn<|tn<|aN (t:=mN [(10,.own 13 0 v30.1.length),(13,.int v30.2),(108,.bl true)] [(13,⟨1,v30.1.map (ow (dH 1 eI))⟩)] 25 ⟨0,true,fxW W,true⟩) (bJ (gU ⟨_,k,⟨k,k,(by simp only [aQ,lA,lT,lR,lC,lN,of_decide_eq_true q31]),k⟩⟩ (bE k2)) (cE (bN.plainO _) k<|aR) k4)<|aC k k<|sS<|mY k2<|sn<|tn<|aH<|aG<|gD h k2
            ·refine aBN 104 k q39<|eT k2<|eT k2<|se (aQr (by kernel_rfl) k k) k<|pkS k3<|sn<|tn<|aN (t:=mN [(10,.own 13 0 v30.1.length),(13,.int v30.2),(108,.bl (!(v37.2==v6.2)))] [(13,⟨1,v30.1.map (ow (dH 1 eI))⟩)] 25 ⟨0,true,fxW W,true⟩) (bJ (gU ⟨_,k,⟨k,k,(by simp only [aQ,lA,lT,lR,lC,lN,of_decide_eq_true q31]),k⟩⟩ (bE k2)) (cE (bN.plainO _) k<|aR) k4) ?_
             rcases cb h with ⟨q40,h⟩|⟨q40,h⟩
             ·exact aC k q40<|sS<|mY k2<|sn<|tn<|aH<|aG<|gD h k2
             ·refine aD k q40<|aI<|tn<|sS<|mY k2<|sn<|tn<|sS<|eT k2<|eT k2<|oB h λv41 hv41 h=>se (kI (aDj v30.1 1 v41 hv41) k (iM (.inl (aDG bN k (by first|rfl|simp only [List.length_set,of_decide_eq_true q31]))) (wkS k iY))) k<|mY k2<|sn<|tn<|sQ<|sS<|eT k2<|cmS k4<|sn<|tn ?_
              rcases cb h with ⟨q42,h⟩|⟨q42,h⟩
              ·exact aC k q42<|sS<|mY k2<|sn<|tn<|aH<|aG<|gD h k2
              ·refine aD k q42<|aI<|tn<|sQ<|sS<|eT k2<|eT k2<|cmS k4<|sn<|tn ?_
               rcases cb h with ⟨q43,h⟩|⟨q43,h⟩
               ·exact aC k q43<|sS<|mY k2<|sn<|tn<|aH<|aG<|gD h k2
               ·exact aD k q43<|aI<|tn<|sS<|mY k2<|sn<|tn<|aH<|gD h k2
end
noncomputable section
set_option maxRecDepth 10000
def aBm (a0:(List Int)) (a1:Int) (x1:Int):Option (Int ⊕ (Unit ⊕ Bool)):=
 bif decide (x1<(a0.length:Int)) then
  (Option.bind (cI a0 x1) λv2=>
  bif decide (v2=a1) then
   (some (.inr (.inr (true))))
  else
   (some (.inl (wr (x1+1)))))
 else
  (some (.inr (.inl ())))
theorem aJh (a0:(List Int)) (a1:Int) (x1:Int):Le (aBm a0 a1 x1) (wL a0 a1 x1):=by
 unfold aBm wL
 repeat (with_reducible first|exact Le.rfl|refine Le.bind ?_ λ_=>?_|refine Le.cond ?_ ?_|refine Le.lp λ_=>?_|refine Le.fl (λ_ _=>?_) _ _|refine Le.elim (λ_=>?_) λ_=>?_)
def aES (a0:(List Int)) (a1:Int):Option Bool:=
 Option.bind (LpF 100 (aBm a0 a1) 0) λy4=>
 Sum.elim (λy5=>
  some (false)
 )
 (λy6=>
  some y6
 )
  y4
theorem aMw (a0:(List Int)) (a1:Int):Le (aES a0 a1) (aBv a0 a1):=by
 unfold aES aBv
 repeat (with_reducible first|exact Le.rfl|refine aJh _ _ _|refine Le.bind ?_ λ_=>?_|refine Le.cond ?_ ?_|refine Le.lp λ_=>?_|refine Le.fl (λ_ _=>?_) _ _|refine Le.elim (λ_=>?_) λ_=>?_)
def yR (a0:Int) (x1:((List Int)×Int)):Option (((List Int)×Int) ⊕ (List Int)):=
 bif decide (x1.2<a0) then
  (Option.bind (cI x1.1 (wr ((wr (x1.2*a0))+x1.2))) λv3=>
  some (.inl ((x1.1.set ((wr ((wr (x1.2*a0))+x1.2)).toNat) 1),wr (x1.2+1))))
 else
  (some (.inr x1.1))
theorem aGS (a0:Int) (x1:((List Int)×Int)):Le (yR a0 x1) (qJ a0 x1):=by
 unfold yR qJ
 repeat (with_reducible first|exact Le.rfl|refine Le.bind ?_ λ_=>?_|refine Le.cond ?_ ?_|refine Le.lp λ_=>?_|refine Le.fl (λ_ _=>?_) _ _|refine Le.elim (λ_=>?_) λ_=>?_)
def aBn (a0:Int):Option Mt:=
 Option.bind (aBT a0 a0) λv1=>
 Option.bind (LpF 100 (yR a0) (v1.cells,0)) λy4=>
 some ((⟨v1.rows,v1.cols,y4⟩:Mt))
theorem aJi (a0:Int):Le (aBn a0) (wN a0):=by
 unfold aBn wN
 repeat (with_reducible first|exact Le.rfl|refine aEK _ _|refine aGS _ _|refine Le.bind ?_ λ_=>?_|refine Le.cond ?_ ?_|refine Le.lp λ_=>?_|refine Le.fl (λ_ _=>?_) _ _|refine Le.elim (λ_=>?_) λ_=>?_)
def aBI (a0:Int) (a1:Int):Option Mt:=
 bif (decide (0≤wr (a0*a1))&&decide (wr (a0*a1)≤1048576)) then
  (some ((⟨a0,a1,(List.replicate ((wr (a0*a1)).toNat) (0:Int))⟩:Mt)))
 else none
theorem aMf (a0:Int) (a1:Int):Le (aBI a0 a1) (jS a0 a1):=by
 unfold aBI jS
 repeat (with_reducible first|exact Le.rfl|refine Le.bind ?_ λ_=>?_|refine Le.cond ?_ ?_|refine Le.lp λ_=>?_|refine Le.fl (λ_ _=>?_) _ _|refine Le.elim (λ_=>?_) λ_=>?_)
def sP (a0:Int) (a2:Int) (a3:(List Int)) (n1:Nat) (s1:Nat) (x1:((List Int)×Int)):Option (((List Int)×Int) ⊕ (List Int)):=
 bif decide (x1.2<(a3.length:Int)) then
  (Option.bind (cI a3 x1.2) λv2=>
  bif (decide (0≤x1.2)&&decide (x1.2<((n1:Nat):Int))) then
   (Option.bind (x1.1[(s1+x1.2.toNat)]?) λv3=>
   bif !decide (a0=0) then
    (bif (decide (0≤x1.2)&&decide (x1.2<((n1:Nat):Int))) then
     (Option.bind (x1.1[(s1+x1.2.toNat)]?) λv5=>
     some (.inl ((x1.1.set (s1+x1.2.toNat) ((wr (v3+(wr (a2*v2)))).tmod a0)),wr (x1.2+1)))
     )
    else none)
   else none
   )
  else none)
 else
  (some (.inr x1.1))
theorem aET (a0:Int) (a2:Int) (a3:(List Int)) (n1:Nat) (s1:Nat) (x1:((List Int)×Int)):Le (sP a0 a2 a3 n1 s1 x1) (gH a0 a2 a3 n1 s1 x1):=by
 unfold sP gH
 repeat (with_reducible first|exact Le.rfl|refine Le.bind ?_ λ_=>?_|refine Le.cond ?_ ?_|refine Le.lp λ_=>?_|refine Le.fl (λ_ _=>?_) _ _|refine Le.elim (λ_=>?_) λ_=>?_)
def yS (a0:Int) (c0:(List Int)) (s1:Nat) (n1:Nat) (a2:Int) (a3:(List Int)):Option (List Int):=
 Option.bind (LpF 100 (sP a0 a2 a3 n1 s1) (c0,0)) λy8=>
 some y8
theorem aGT (a0:Int) (c0:(List Int)) (s1:Nat) (n1:Nat) (a2:Int) (a3:(List Int)):Le (yS a0 c0 s1 n1 a2 a3) (fW a0 c0 s1 n1 a2 a3):=by
 unfold yS fW
 repeat (with_reducible first|exact Le.rfl|refine aET _ _ _ _ _ _|refine Le.bind ?_ λ_=>?_|refine Le.cond ?_ ?_|refine Le.lp λ_=>?_|refine Le.fl (λ_ _=>?_) _ _|refine Le.elim (λ_=>?_) λ_=>?_)
def jN (a0:(List Int)) (a1:(Int→Option Bool)) (x1:Int):Option (Int ⊕ (Unit ⊕ Int)):=
 bif decide (x1<(a0.length:Int)) then
  (Option.bind (cI a0 x1) λv2=>
  Option.bind (a1 v2) λv3=>
  bif v3 then
   (some (.inr (.inr (x1))))
  else
   (some (.inl (wr (x1+1)))))
 else
  (some (.inr (.inl ())))
theorem aAX {a1 a1':(Int→Option Bool)} (ha1: ∀ z0,Le (a1 z0) (a1' z0)) (a0:(List Int)) (x1:Int):Le (jN a0 a1 x1) (cC a0 a1' x1):=by
 unfold jN cC
 repeat (with_reducible first|exact Le.rfl|exact ha1 _|refine Le.bind ?_ λ_=>?_|refine Le.cond ?_ ?_|refine Le.lp λ_=>?_|refine Le.fl (λ_ _=>?_) _ _|refine Le.elim (λ_=>?_) λ_=>?_)
def lK (a0:(List Int)) (a1:(Int→Option Bool)):Option Int:=
 Option.bind (LpF 100 (jN a0 a1) 0) λy5=>
 Sum.elim (λy6=>
  some ((-1))
 )
 (λy7=>
  some y7
 )
  y5
theorem aBo {a1 a1':(Int→Option Bool)} (ha1: ∀ z0,Le (a1 z0) (a1' z0)) (a0:(List Int)):Le (lK a0 a1) (cZ a0 a1'):=by
 unfold lK cZ
 repeat (with_reducible first|exact Le.rfl|exact ha1 _|refine aAX (λ_=>?_) _ _|refine Le.bind ?_ λ_=>?_|refine Le.cond ?_ ?_|refine Le.lp λ_=>?_|refine Le.fl (λ_ _=>?_) _ _|refine Le.elim (λ_=>?_) λ_=>?_)
def sT (v1:Mt) (v3:(List Int)) (x1:((List Int)×Int)) (x2:((List Int)×Int)):Option (((List Int)×Int) ⊕ (List Int)):=
 bif decide (x2.2<(v3.length:Int)) then
  (Option.bind (cI v3 x2.2) λv5=>
  Option.bind (cI x2.1 (wr ((wr (x2.2*v1.cols))+x1.2))) λv6=>
  some (.inl ((x2.1.set ((wr ((wr (x2.2*v1.cols))+x1.2)).toNat) v5),wr (x2.2+1))))
 else
  (some (.inr x2.1))
theorem aEU (v1:Mt) (v3:(List Int)) (x1:((List Int)×Int)) (x2:((List Int)×Int)):Le (sT v1 v3 x1 x2) (gI v1 v3 x1 x2):=by
 unfold sT gI
 repeat (with_reducible first|exact Le.rfl|refine Le.bind ?_ λ_=>?_|refine Le.cond ?_ ?_|refine Le.lp λ_=>?_|refine Le.fl (λ_ _=>?_) _ _|refine Le.elim (λ_=>?_) λ_=>?_)
def sU (a1:(List (List Int))) (v1:Mt) (x1:((List Int)×Int)):Option (((List Int)×Int) ⊕ (List Int)):=
 bif decide (x1.2<(a1.length:Int)) then
  (Option.bind (cI a1 x1.2) λv3=>
  Option.bind (LpF 100 (sT v1 v3 x1) (x1.1,0)) λy7=>
  some (.inl (y7,wr (x1.2+1))))
 else
  (some (.inr x1.1))
theorem aEV (a1:(List (List Int))) (v1:Mt) (x1:((List Int)×Int)):Le (sU a1 v1 x1) (gJ a1 v1 x1):=by
 unfold sU gJ
 repeat (with_reducible first|exact Le.rfl|refine aEU _ _ _ _|refine Le.bind ?_ λ_=>?_|refine Le.cond ?_ ?_|refine Le.lp λ_=>?_|refine Le.fl (λ_ _=>?_) _ _|refine Le.elim (λ_=>?_) λ_=>?_)
def yT (a0:Int) (a1:(List (List Int))):Option Mt:=
 Option.bind (aBT a0 (a1.length:Int)) λv1=>
 Option.bind (LpF 100 (sU a1 v1) (v1.cells,0)) λy8=>
 some ((⟨v1.rows,v1.cols,y8⟩:Mt))
theorem aGU (a0:Int) (a1:(List (List Int))):Le (yT a0 a1) (fB a0 a1):=by
 unfold yT fB
 repeat (with_reducible first|exact Le.rfl|refine aEK _ _|refine aEV _ _ _|refine Le.bind ?_ λ_=>?_|refine Le.cond ?_ ?_|refine Le.lp λ_=>?_|refine Le.fl (λ_ _=>?_) _ _|refine Le.elim (λ_=>?_) λ_=>?_)
def aAx (a0:Int):Option Bool:=
 some (!decide (a0=0))
theorem aIc (a0:Int):Le (aAx a0) (hO a0):=by
 unfold aAx hO
 repeat (with_reducible first|exact Le.rfl|refine Le.bind ?_ λ_=>?_|refine Le.cond ?_ ?_|refine Le.lp λ_=>?_|refine Le.fl (λ_ _=>?_) _ _|refine Le.elim (λ_=>?_) λ_=>?_)
def aAR (a0:(List Int)):Option Int:=
 Option.bind (lK a0 (λb0=>aAx b0)) λv1=>
 some (v1)
theorem aEg (a0:(List Int)):Le (aAR a0) (fY a0):=by
 unfold aAR fY
 repeat (with_reducible first|exact Le.rfl|refine aBo (λ_=>?_) _|refine aIc _|refine Le.bind ?_ λ_=>?_|refine Le.cond ?_ ?_|refine Le.lp λ_=>?_|refine Le.fl (λ_ _=>?_) _ _|refine Le.elim (λ_=>?_) λ_=>?_)
def uU (a0:Sc) (a1:Int) (x1:((List Int)×Int)):Option (((List Int)×Int) ⊕ (List Int)):=
 bif decide (x1.2<(a0.basis.length:Int)) then
  (Option.bind (cI a0.basis x1.2) λv3=>
  Option.bind (aAR v3) λv4=>
  Option.bind (cI x1.1 v4) λv5=>
  Option.bind (yS a1 x1.1 0 x1.1.length (wr (a1 - v5)) v3) λv6=>
  bif decide (v6.length=x1.1.length) then
   (some (.inl (v6,wr (x1.2+1))))
  else none)
 else
  (some (.inr x1.1))
theorem aEk (a0:Sc) (a1:Int) (x1:((List Int)×Int)):Le (uU a0 a1 x1) (hZ a0 a1 x1):=by
 unfold uU hZ
 repeat (with_reducible first|exact Le.rfl|refine aEg _|refine aGT _ _ _ _ _ _|refine Le.bind ?_ λ_=>?_|refine Le.cond ?_ ?_|refine Le.lp λ_=>?_|refine Le.fl (λ_ _=>?_) _ _|refine Le.elim (λ_=>?_) λ_=>?_)
def aAS (a0:Sc) (a1:Int) (a2:(List Int)):Option (List Int):=
 Option.bind (nO a2) λv1=>
 Option.bind (LpF 100 (uU a0 a1) (v1,0)) λy8=>
 some (y8)
theorem aHS (a0:Sc) (a1:Int) (a2:(List Int)):Le (aAS a0 a1 a2) (iS a0 a1 a2):=by
 unfold aAS iS
 repeat (with_reducible first|exact Le.rfl|refine aEk _ _ _|refine Le.bind ?_ λ_=>?_|refine Le.cond ?_ ?_|refine Le.lp λ_=>?_|refine Le.fl (λ_ _=>?_) _ _|refine Le.elim (λ_=>?_) λ_=>?_)
def oP (a0:Sc) (x1:((List Int)×Int)):Option (((List Int)×Int) ⊕ (List Int)):=
 bif decide (x1.2<(a0.basis.length:Int)) then
  (Option.bind (cI a0.basis x1.2) λv2=>
  Option.bind (aAR v2) λv3=>
  bif decide (x1.1.length+[v3].length ≤4294967296) then
   (some (.inl ((x1.1++[v3]),wr (x1.2+1))))
  else none)
 else
  (some (.inr x1.1))
theorem aCl (a0:Sc) (x1:((List Int)×Int)):Le (oP a0 x1) (jU a0 x1):=by
 unfold oP jU
 repeat (with_reducible first|exact Le.rfl|refine aEg _|refine Le.bind ?_ λ_=>?_|refine Le.cond ?_ ?_|refine Le.lp λ_=>?_|refine Le.fl (λ_ _=>?_) _ _|refine Le.elim (λ_=>?_) λ_=>?_)
def jC (a0:Sc):Option (List Int):=
 Option.bind (LpF 100 (oP a0) ([],0)) λy5=>
 some (y5)
theorem aAT (a0:Sc):Le (jC a0) (gK a0):=by
 unfold jC gK
 repeat (with_reducible first|exact Le.rfl|refine aCl _ _|refine Le.bind ?_ λ_=>?_|refine Le.cond ?_ ?_|refine Le.lp λ_=>?_|refine Le.fl (λ_ _=>?_) _ _|refine Le.elim (λ_=>?_) λ_=>?_)
def rL (v2:(List Int)) (v7:(List Int)) (x2:((List Int)×Int)):Option (((List Int)×Int) ⊕ (List Int)):=
 bif decide (x2.2<((v2.length:Nat):Int)) then
  (Option.bind (cI v2 x2.2) λv9=>
  Option.bind (cI v7 v9) λv10=>
  bif decide (x2.1.length+[v10].length ≤4294967296) then
   (some (.inl ((x2.1++[v10]),wr (x2.2+1))))
  else none)
 else
  (some (.inr x2.1))
theorem aDp (v2:(List Int)) (v7:(List Int)) (x2:((List Int)×Int)):Le (rL v2 v7 x2) (lH v2 v7 x2):=by
 unfold rL lH
 repeat (with_reducible first|exact Le.rfl|refine Le.bind ?_ λ_=>?_|refine Le.cond ?_ ?_|refine Le.lp λ_=>?_|refine Le.fl (λ_ _=>?_) _ _|refine Le.elim (λ_=>?_) λ_=>?_)
def rM (a0:Int) (a1:Sc) (v2:(List Int)) (v4:(List (List Int))) (x1:((List (List Int))×Int)):Option (((List (List Int))×Int) ⊕ (List (List Int))):=
 bif decide (x1.2<((v4.length:Nat):Int)) then
  (Option.bind (cI v4 x1.2) λv6=>
  Option.bind (aAS a1 a0 v6) λv7=>
  Option.bind (LpF 100 (rL v2 v7) ([],0)) λy12=>
  bif decide (x1.1.length+1≤4294967296) then
   (some (.inl ((x1.1++[y12]),wr (x1.2+1))))
  else none)
 else
  (some (.inr x1.1))
theorem aDq (a0:Int) (a1:Sc) (v2:(List Int)) (v4:(List (List Int))) (x1:((List (List Int))×Int)):Le (rM a0 a1 v2 v4 x1) (lI a0 a1 v2 v4 x1):=by
 unfold rM lI
 repeat (with_reducible first|exact Le.rfl|refine aHS _ _ _|refine aDp _ _ _|refine Le.bind ?_ λ_=>?_|refine Le.cond ?_ ?_|refine Le.lp λ_=>?_|refine Le.fl (λ_ _=>?_) _ _|refine Le.elim (λ_=>?_) λ_=>?_)
def pE (a0:Int) (a1:Sc):Option Mt:=
 Option.bind (jC a1) λv1=>
 Option.bind (jM a1.size v1) λv2=>
 Option.bind (aBn a1.size) λv3=>
 Option.bind (rI v3) λv4=>
 Option.bind (LpF 100 (rM a0 a1 v2 v4) ([],0)) λy14=>
 Option.bind (yT ((v2.length:Nat):Int) y14) λv15=>
 some (v15)
theorem aFW (a0:Int) (a1:Sc):Le (pE a0 a1) (kZ a0 a1):=by
 unfold pE kZ
 repeat (with_reducible first|exact Le.rfl|refine aAT _|refine vX _ _|refine aJi _|refine aBp _|refine aDq _ _ _ _ _|refine aGU _ _|refine Le.bind ?_ λ_=>?_|refine Le.cond ?_ ?_|refine Le.lp λ_=>?_|refine Le.fl (λ_ _=>?_) _ _|refine Le.elim (λ_=>?_) λ_=>?_)
def aAU (a0:Sc) (x1:((List Int)×Int)) (x2:Int):Option (Int ⊕ Int):=
 Option.bind (cI a0.basis x1.2) λv2=>
 Option.bind (cI v2 x2) λv3=>
 bif decide (v3=0) then
  (some (.inl (wr (x2+1))))
 else
  (some (.inr x2))
theorem aHT (a0:Sc) (x1:((List Int)×Int)) (x2:Int):Le (aAU a0 x1 x2) (tY a0 x1 x2):=by
 unfold aAU tY
 repeat (with_reducible first|exact Le.rfl|refine Le.bind ?_ λ_=>?_|refine Le.cond ?_ ?_|refine Le.lp λ_=>?_|refine Le.fl (λ_ _=>?_) _ _|refine Le.elim (λ_=>?_) λ_=>?_)
def aAV (a0:Sc) (x1:((List Int)×Int)):Option (((List Int)×Int) ⊕ (List Int)):=
 bif decide (x1.2<(a0.basis.length:Int)) then
  (Option.bind (LpF 100 (aAU a0 x1) 0) λy5=>
  bif decide (x1.1.length+[y5].length ≤4294967296) then
   (some (.inl ((x1.1++[y5]),wr (x1.2+1))))
  else none)
 else
  (some (.inr x1.1))
theorem aHU (a0:Sc) (x1:((List Int)×Int)):Le (aAV a0 x1) (tZ a0 x1):=by
 unfold aAV tZ
 repeat (with_reducible first|exact Le.rfl|refine aHT _ _ _|refine Le.bind ?_ λ_=>?_|refine Le.cond ?_ ?_|refine Le.lp λ_=>?_|refine Le.fl (λ_ _=>?_) _ _|refine Le.elim (λ_=>?_) λ_=>?_)
def aAW (a0:Sc):Option (List Int):=
 Option.bind (LpF 100 (aAV a0) (([]:(List Int)),0)) λy7=>
 some (y7)
theorem aEh (a0:Sc):Le (aAW a0) (uT a0):=by
 unfold aAW uT
 repeat (with_reducible first|exact Le.rfl|refine aHU _ _|refine Le.bind ?_ λ_=>?_|refine Le.cond ?_ ?_|refine Le.lp λ_=>?_|refine Le.fl (λ_ _=>?_) _ _|refine Le.elim (λ_=>?_) λ_=>?_)
def uV (a1:Sc) (v1:(List Int)) (x1:((List Int)×Int)):Option (((List Int)×Int) ⊕ (List Int)):=
 bif decide (x1.2<a1.size) then
  (Option.bind (aES v1 x1.2) λv3=>
  bif !v3 then
   (bif decide (x1.1.length+[x1.2].length ≤4294967296) then
    (some (.inl ((x1.1++[x1.2]),wr (x1.2+1))))
   else none)
  else
   (some (.inl (x1.1,wr (x1.2+1)))))
 else
  (some (.inr x1.1))
theorem aEl (a1:Sc) (v1:(List Int)) (x1:((List Int)×Int)):Le (uV a1 v1 x1) (oA a1 v1 x1):=by
 unfold uV oA
 repeat (with_reducible first|exact Le.rfl|refine aMw _ _|refine Le.bind ?_ λ_=>?_|refine Le.cond ?_ ?_|refine Le.lp λ_=>?_|refine Le.fl (λ_ _=>?_) _ _|refine Le.elim (λ_=>?_) λ_=>?_)
def uW (a0:Int) (a1:Sc) (v1:(List Int)) (x2:((List Int)×(List Int)×Int)) (y6:(List Int)) (x3:((List Int)×Int)):Option (((List Int)×Int) ⊕ (List Int)):=
 bif decide (x3.2<((v1.length:Nat):Int)) then
  (Option.bind (cI v1 x3.2) λv15=>
  Option.bind (cI a1.basis x3.2) λv16=>
  Option.bind (cI y6 x2.2.2) λv17=>
  Option.bind (cI v16 v17) λv18=>
  Option.bind (rH a0 (wr (-v18))) λv19=>
  Option.bind (cI x3.1 (wr ((wr (x2.2.2*a1.size))+v15))) λv20=>
  some (.inl ((x3.1.set ((wr ((wr (x2.2.2*a1.size))+v15)).toNat) v19),wr (x3.2+1))))
 else
  (some (.inr x3.1))
theorem aEm (a0:Int) (a1:Sc) (v1:(List Int)) (x2:((List Int)×(List Int)×Int)) (y6:(List Int)) (x3:((List Int)×Int)):Le (uW a0 a1 v1 x2 y6 x3) (oC a0 a1 v1 x2 y6 x3):=by
 unfold uW oC
 repeat (with_reducible first|exact Le.rfl|refine aBH _ _|refine Le.bind ?_ λ_=>?_|refine Le.cond ?_ ?_|refine Le.lp λ_=>?_|refine Le.fl (λ_ _=>?_) _ _|refine Le.elim (λ_=>?_) λ_=>?_)
def uX (a0:Int) (a1:Sc) (v1:(List Int)) (y6:(List Int)) (x2:((List Int)×(List Int)×Int)):Option (((List Int)×(List Int)×Int) ⊕ ((List Int)×(List Int))):=
 bif decide (x2.2.2<((y6.length:Nat):Int)) then
  (Option.bind (cI y6 x2.2.2) λv10=>
  Option.bind (cI x2.1 (wr ((wr (x2.2.2*a1.size))+v10))) λv11=>
  Option.bind (cI y6 x2.2.2) λv12=>
  Option.bind (cI x2.2.1 (wr ((wr (v12*((y6.length:Nat):Int)))+x2.2.2))) λv13=>
  Option.bind (LpF 100 (uW a0 a1 v1 x2 y6) ((x2.1.set ((wr ((wr (x2.2.2*a1.size))+v10)).toNat) 1),0)) λy21=>
  some (.inl (y21,(x2.2.1.set ((wr ((wr (v12*((y6.length:Nat):Int)))+x2.2.2)).toNat) 1),wr (x2.2.2+1))))
 else
  (some (.inr (x2.1,x2.2.1)))
theorem aEn (a0:Int) (a1:Sc) (v1:(List Int)) (y6:(List Int)) (x2:((List Int)×(List Int)×Int)):Le (uX a0 a1 v1 y6 x2) (oD a0 a1 v1 y6 x2):=by
 unfold uX oD
 repeat (with_reducible first|exact Le.rfl|refine aEm _ _ _ _ _ _|refine Le.bind ?_ λ_=>?_|refine Le.cond ?_ ?_|refine Le.lp λ_=>?_|refine Le.fl (λ_ _=>?_) _ _|refine Le.elim (λ_=>?_) λ_=>?_)
def uA (a0:Int) (a1:Sc):Option (Mt×Mt):=
 Option.bind (aAW a1) λv1=>
 Option.bind (LpF 100 (uV a1 v1) (([]:(List Int)),0)) λy6=>
 Option.bind (aBI ((y6.length:Nat):Int) a1.size) λv7=>
 Option.bind (aBI a1.size ((y6.length:Nat):Int)) λv8=>
 Option.bind (LpF 100 (uX a0 a1 v1 y6) (v7.cells,v8.cells,0)) λy22=>
 some (((⟨v7.rows,v7.cols,y22.1⟩:Mt),(⟨v8.rows,v8.cols,y22.2⟩:Mt)))
theorem aHV (a0:Int) (a1:Sc):Le (uA a0 a1) (oE a0 a1):=by
 unfold uA oE
 repeat (with_reducible first|exact Le.rfl|refine aEh _|refine aEl _ _ _|refine aMf _ _|refine aEn _ _ _ _ _|refine Le.bind ?_ λ_=>?_|refine Le.cond ?_ ?_|refine Le.lp λ_=>?_|refine Le.fl (λ_ _=>?_) _ _|refine Le.elim (λ_=>?_) λ_=>?_)
end
noncomputable section
def prM (p:Int) (x:Sc):Mt:=(pE p x).getD ⟨0,0,[]⟩
def bkM (p:Int) (x:Sc):Mt:=((uA p x).getD (⟨0,0,[]⟩,⟨0,0,[]⟩)).2
def ldL (x:Sc):List Int:=(jC x).getD []
def frL (x:Sc):List Int:=(jM x.size (ldL x)).getD []
def qOk (p:Int) (n k:Nat) (x:Sc):Bool:=
 decide (pE p x=some (prM p x))&&(decide (uA p x=some (prM p x,bkM p x))&&(decide (jC x=some (ldL x))&&(decide (aAW x=some (ldL x))&&(decide (jM x.size (ldL x)=some (frL x))&&
 (aDK p (prM p x)&&(aDK p (bkM p x)&&(decide ((prM p x).rows=(n - k:Nat))&&(decide ((prM p x).cols=(n:Nat))&&(decide ((bkM p x).rows=(n:Nat))&&(decide ((bkM p x).cols=(n - k:Nat))&&(decide ((frL x).length=n - k)&&
 (List.range (n - k)).all λj=>decide (0≤(frL x)[j]?.getD 0)&&(decide ((frL x)[j]?.getD 0<(n:Nat))&&(List.range n).all λt=>decide ((bkM p x).cells[t*(n - k)+j]?.getD 0=if (t:Int)=(frL x)[j]?.getD 0 then 1 else 0)))))))))))))
theorem qT2: ∀ p,p<2→ ∀ n,n<3→ ∀ k,k<n+1→((spT (p+2) n k).all (qOk ((p+2:Nat):Int) n k))=true:=by decide+kernel
theorem qT (p:Nat) (h1:p<4) (h2:2≤p): ∀ n,n<3→ ∀ k,k<n+1→((spT p n k).all (qOk (p:Nat) n k))=true:=by
 have:=qT2 (p - 2) (by omega)
 rw [show p - 2+2=p by omega] at this
 exact this
structure Qx (p:Int) (n k:Nat) (x:Sc):Prop where
 pr:kZ p x=some (prM p x)
 pj:oE p x=some (prM p x,bkM p x)
 ld:gK x=some (ldL x)
 l12:uT x=some (ldL x)
 fr:gX x.size (ldL x)=some (frL x)
 pv:aDK p (prM p x)=true
 bv:aDK p (bkM p x)=true
 pR:(prM p x).rows=(n - k:Nat)
 pC:(prM p x).cols=(n:Nat)
 bR:(bkM p x).rows=(n:Nat)
 bC:(bkM p x).cols=(n - k:Nat)
 fl:(frL x).length=n - k
 f1: ∀ j,j<n - k→0≤(frL x)[j]?.getD 0∧(frL x)[j]?.getD 0<(n:Nat)
 f2: ∀ j,j<n - k→ ∀ t,t<n→(bkM p x).cells[t*(n - k)+j]?.getD 0=if (t:Int)=(frL x)[j]?.getD 0 then 1 else 0
theorem aZE {p:Int} {n k:Nat} {x:Sc} (h:qOk p n k x=true):Qx p n k x:=by
 unfold qOk at h
 simp only [Bool.and_eq_true,decide_eq_true_eq,List.all_eq_true,List.mem_range] at h
 obtain ⟨a1,a2,a3,a4,a5,a6,a7,a8,a9,a10,a11,a12,a13⟩:=h
 exact ⟨aFW _ _ _ a1,aHV _ _ _ a2,aAT _ _ a3,aEh _ _ a4,vX _ _ _ a5,a6,a7,a8,a9,a10,a11,a12,λj hj=>⟨(a13 j hj).1,(a13 j hj).2.1⟩,λj hj t ht=>(a13 j hj).2.2 t ht⟩
theorem aYG {p n:Nat} {k:Int} (hp:p=2∨p=3) (hn:n≤2) {x:Sc} (hx:x∈spI p n k):Qx (p:Nat) n x.basis.length x:=by
 obtain ⟨_,h1,_⟩:=aPB hp hn hx
 unfold spI at hx
 cases hk:rN k 0 n with
 |false=>rw [hk] at hx;simp at hx
 |true=>
  rw [hk,cond_true] at hx
  have:=iH hk
  have e:x.basis.length=k.toNat:=by omega
  rw [e]
  exact aZE (List.all_eq_true.1 (qT p (by omega) (by omega) n (by omega) k.toNat (by omega)) x hx)
structure PartT (r:Rp) (s:List Sc):Prop where
 P:Part r s
 q: ∀ v,v<r.dims.length→Qx r.p (dN r v) (sG s v).basis.length (sG s v)
theorem aVp {r:Rp} (S:Sm r) {d:List Int} {s:List Sc} (h:s∈aDn r d):PartT r s:=by
 refine ⟨aSe S h,λv hv=>?_⟩
 obtain ⟨h1,h2⟩:=List.mem_filter.1 h
 have h3:=(aIV h1).2 v ⟨0,[]⟩ (by rw [rJ];exact hv)
 rw [aPD hv] at h3
 have:=aYG (aPE S) (S.d v hv) h3
 have e:((r.p.toNat:Nat):Int)=r.p:=by have:=S.p;omega
 rw [e] at this
 exact this
theorem aUA {r:Rp} (S:Sm r) {s:List Sc} (h:s∈qC r):PartT r s:=by
 obtain ⟨d,_,hd⟩:=List.mem_flatMap.1 h
 exact aVp S hd
def kN (s:List Sc) (v:Nat):Nat:=(sG s v).basis.length
def prF (r:Rp) (s:List Sc) (v:Nat):Nat→Nat→Int:=λi j=>(prM r.p (sG s v)).cells[i*dN r v+j]?.getD 0
def bkF (r:Rp) (s:List Sc) (v:Nat):Nat→Nat→Int:=λi j=>(bkM r.p (sG s v)).cells[i*(dN r v - kN s v)+j]?.getD 0
def frN (s:List Sc) (v j:Nat):Nat:=((frL (sG s v))[j]?.getD 0).toNat
theorem aSo {p:Int} {m:Mt} {r c:Nat} (h:aDK p m=true) (hr:m.rows=r) (hc:m.cols=c):m=⟨r,c,dC r c λi j=>m.cells[i*c+j]?.getD 0⟩∧InP p r c (λi j=>m.cells[i*c+j]?.getD 0):=by
 obtain ⟨_,a,b,F,_,_,e,hF⟩:=aLv h
 have ea:a=r:=by rw [e] at hr;simp only at hr;omega
 have eb:b=c:=by rw [e] at hc;simp only at hc;omega
 subst ea;subst eb
 have key: ∀ i j,i<a→j<b→m.cells[i*b+j]?.getD 0=F i j:=λi j hi hj=>by rw [e];simp only;rw [nM F hi hj];rfl
 refine ⟨?_,λi j hi hj=>by show 0≤m.cells[i*b+j]?.getD 0∧m.cells[i*b+j]?.getD 0<p;rw [key i j hi hj];exact hF i j hi hj⟩
 rw [cW key]
 exact e
theorem aVq {r:Rp} {s:List Sc} (T:PartT r s) {v:Nat} (hv:v<r.dims.length):prM r.p (sG s v)=⟨(dN r v - kN s v:Nat),(dN r v:Nat),dC (dN r v - kN s v) (dN r v) (prF r s v)⟩∧InP r.p (dN r v - kN s v) (dN r v) (prF r s v):=aSo (T.q v hv).pv (T.q v hv).pR (T.q v hv).pC
theorem aYH {r:Rp} {s:List Sc} (T:PartT r s) {v:Nat} (hv:v<r.dims.length):bkM r.p (sG s v)=⟨(dN r v:Nat),(dN r v - kN s v:Nat),dC (dN r v) (dN r v - kN s v) (bkF r s v)⟩∧InP r.p (dN r v) (dN r v - kN s v) (bkF r s v):=aSo (T.q v hv).bv (T.q v hv).bR (T.q v hv).bC
theorem aVr {r:Rp} {s:List Sc} (T:PartT r s) {v j:Nat} (hv:v<r.dims.length) (hj:j<dN r v - kN s v):(frL (sG s v))[j]?.getD 0=(frN s v j:Int)∧frN s v j<dN r v:=by
 have:=(T.q v hv).f1 j hj
 unfold frN
 omega
theorem aXF {r:Rp} {s:List Sc} (T:PartT r s) {v j:Nat} (hv:v<r.dims.length) (hj:j<dN r v - kN s v) {t:Nat} (ht:t<dN r v):bkF r s v t j=if t=frN s v j then 1 else 0:=by
 have h1:=(T.q v hv).f2 j hj t ht
 obtain ⟨h2,h3⟩:=aVr T hv hj
 rw [h2] at h1
 unfold bkF kN
 rw [h1]
 by_cases e:t=frN s v j
 ·rw [if_pos e,if_pos (by omega)]
 ·rw [if_neg e,if_neg (by omega)]
theorem aOC {F U:Nat→Nat→Int} {i j f:Nat} : ∀ {n:Nat},(∀ t,t<n→U t j=if t=f then 1 else 0)→aFv F U i j n=if f<n then F i f else 0
 |0,_=>by simp [aFv]
 |n+1,h=>by
  have ih:=aOC (F:=F) (i:=i) (n:=n) λt ht=>h t (by omega)
  simp only [aFv]
  rw [ih,h n (by omega)]
  by_cases e:n=f
  ·subst e;rw [if_neg (by omega),if_pos rfl,if_pos (by omega)];omega
  ·rw [if_neg e]
   by_cases e2:f<n
   ·rw [if_pos e2,if_pos (by omega)];omega
   ·rw [if_neg e2,if_neg (by omega)];omega
def aYI (r:Rp) (s:List Sc) (i:Nat):Nat→Nat→Int:=λa b=>aHz r.p (dN r (tV r i)) (prF r s (tV r i)) (aF r i) a (frN s (sV r i) b)
def aPG (r:Rp) (s:List Sc) (i:Nat):Mt:=⟨(dN r (tV r i) - kN s (tV r i):Nat),(dN r (sV r i) - kN s (sV r i):Nat),dC (dN r (tV r i) - kN s (tV r i)) (dN r (sV r i) - kN s (sV r i)) (aYI r s i)⟩
def vZ (s:List Sc):List Int:=s.map λx=>x.size - (x.basis.length:Int)
def aGV (r:Rp) (s:List Sc):Rp:=⟨r.p,r.q,vZ s,(List.range r.maps.length).map (aPG r s)⟩
theorem aGm {α:Type} (n k:Nat) (f:Nat→α) (v:α):((List.range n).map f).set k v=(List.range n).map λi=>if i=k then v else f i:=by
 refine List.ext_getElem (by simp) λt h1 h2=>?_
 rw [List.getElem_set,List.getElem_map,List.getElem_map,List.getElem_range]
 by_cases e:k=t
 ·rw [if_pos e,if_pos e.symm]
 ·rw [if_neg e,if_neg λh=>e h.symm]
theorem aFX {α:Type} (k:Nat) (f:Nat→α):(List.range k).map f++[f k]=(List.range (k+1)).map f:=by rw [List.range_succ,List.map_append];rfl
theorem aVs {q:Qv} (h:bQ q):pD q=some q:=by
 unfold pD nO
 have h1:q.src.length≤1048576:=h.1
 have h2:q.tgt.length≤1048576:=h.2.1
 rw [decide_eq_true h1,decide_eq_true h2]
 rfl
def zeM (r:Rp) (f:Nat→Nat) (i:Nat):Mt:=⟨(f (tV r i):Nat),(f (sV r i):Nat),dC (f (tV r i)) (f (sV r i)) λ_ _=>0⟩
section
variable {r:Rp} (R:Rv r) (hb:bR r) {d:List Int} (hl:d.length=r.dims.length) {f:Nat→Nat} (hd: ∀ v,v<r.dims.length→d[v]?.getD 0=(f v:Int)∧f v≤8)
include R hb hl hd
theorem aUB (p:Int):aAP p r.q d=some ⟨p,r.q,d,(List.range r.maps.length).map (zeM r f)⟩:=by
 unfold aAP
 have h5:=R.n5
 have h6:=R.e6
 rw [aVs hb.1,Option.bind_some]
 unfold nO
 rw [decide_eq_true (by omega),cond_true,Option.bind_some]
 rw [eB (r:=(List.range r.maps.length).map (zeM r f)) (λk=>((List.range k).map (zeM r f),(k:Int))) r.q.src.length (by rfl) (λi hi=>?_) (λ_=>?_),Option.bind_some]
 ·have s1:=hd _ (R.s i hi).2
  have t1:=hd _ (R.t i hi).2
  unfold tX
  simp only
  rw [lE hi,cond_true,mW 0 hi,Option.bind_some,mW 0 (by have:=R.tl;omega),Option.bind_some,(R.t i hi).1,mW 0 (by have:=(R.t i hi).2;omega),Option.bind_some,(R.s i hi).1,mW 0 (by have:=(R.s i hi).2;omega),Option.bind_some,s1.1,t1.1,aRQ (by have:=Nat.mul_le_mul t1.2 s1.2;omega),Option.bind_some,decide_eq_true (by simp;omega),cond_true,cH hi (by omega),←aFX]
  rfl
 ·unfold tX
  simp only
  rw [oG (Nat.le_refl _),cond_false,R.ml]
theorem aVt (p:Int):aBF p r.q d=some ⟨p,r.q,d,(List.range r.maps.length).map (zeM r f)⟩:=by
 unfold aBF
 have h5:=R.n5
 have h6:=R.e6
 rw [aVK hb.1,Option.bind_some,decide_eq_true (by simp;omega),cond_true,List.nil_append]
 rw [eB (r:=(List.range r.maps.length).map (zeM r f)) (λk=>((List.range k).map (zeM r f),(k:Int))) r.q.src.length (by rfl) (λi hi=>?_) (λ_=>?_),Option.bind_some]
 ·have s1:=hd _ (R.s i hi).2
  have t1:=hd _ (R.t i hi).2
  unfold vM
  simp only
  rw [lE hi,cond_true,mW 0 (by have:=R.tl;omega),Option.bind_some,(R.t i hi).1,mW 0 (by have:=(R.t i hi).2;omega),Option.bind_some,mW 0 hi,Option.bind_some,(R.s i hi).1,mW 0 (by have:=(R.s i hi).2;omega),Option.bind_some,s1.1,t1.1,aPy (by have:=Nat.mul_le_mul t1.2 s1.2;omega),Option.bind_some,decide_eq_true (by simp;omega),cond_true,cH hi (by omega),←aFX]
  rfl
 ·unfold vM
  simp only
  rw [oG (Nat.le_refl _),cond_false,R.ml]
end
theorem aFY {s:List Sc} {v:Nat} (h:v<s.length):s[v]=sG s v:=by unfold sG;rw [List.getElem?_eq_getElem h,Option.getD_some]
theorem aDr {r:Rp} {s:List Sc} (S:Sm r) (T:PartT r s) {v:Nat} (hv:v<r.dims.length):(vZ s)[v]?.getD 0=((dN r v - kN s v:Nat):Int)∧kN s v≤dN r v:=by
 have h1:=T.P.len
 have h2:=(aEO T.P.sub).2.2 v hv
 unfold vZ
 rw [List.getElem?_map,List.getElem?_eq_getElem (by omega),Option.map_some,Option.getD_some,aFY,h2.size]
 have:=h2.len
 unfold kN
 omega
theorem aUC {r:Rp} {s:List Sc} (S:Sm r) (T:PartT r s):s.map (λx=>(prM r.p x).rows)=vZ s:=by
 refine List.ext_getElem (by simp [vZ]) λv h1 h2=>?_
 have hv:v<s.length:=by simpa using h1
 have hv':v<r.dims.length:=by have:=T.P.len;omega
 have e:=aDr S T hv'
 have e2:(vZ s)[v]? =some ((dN r v - kN s v:Nat):Int):=by
  rw [List.getElem?_eq_getElem h2] at e ⊢
  simpa using e.1
 have e3:(vZ s)[v]=((dN r v - kN s v:Nat):Int):=by rw [List.getElem?_eq_getElem h2] at e2;simpa using e2
 rw [List.getElem_map,e3,aFY hv,(T.q v hv').pR]
 rfl
theorem aPH {r:Rp} {s:List Sc} (S:Sm r) (T:PartT r s):(vZ s).sum=r.dims.sum - (gA s).sum:=by
 have key: ∀ l:List Sc,(vZ l).sum=(l.map Sc.size).sum - (gA l).sum:=by
  intro l
  induction l with
  |nil=>rfl
  |cons x l ih=>
   unfold vZ gA at ih ⊢
   simp only [List.map_cons,List.sum_cons]
   omega
 have e:s.map Sc.size=r.dims:=by
  refine List.ext_getElem (by simp [T.P.len]) λv h1 h2=>?_
  have hv:v<s.length:=by simpa using h1
  have h3:=((aEO T.P.sub).2.2 v h2).size
  rw [List.getElem_map,aFY hv,h3,←(S.R.d v h2).1,List.getElem?_eq_getElem h2,Option.getD_some]
 rw [key,e]
theorem aSp {r:Rp} {s:List Sc} (S:Sm r) (T:PartT r s) (hS:eP r=true):eP (aGV r s)=true:=by
 have h5:=S.R.n5
 have hml:=S.R.ml
 have hsl:=T.P.len
 have hlen:(vZ s).length=r.dims.length:=by simp [vZ,hsl]
 have hrep:=aBW hS
 obtain ⟨hp,hD,_,_⟩:=aQB hrep
 obtain ⟨hQ,hd1,_,_⟩:=aDA hD
 have hmem: ∀ x∈vZ s,0≤x∧x≤2:=by
  intro x hx
  obtain ⟨v,hv,e⟩:=List.mem_iff_getElem.1 hx
  have hv':v<r.dims.length:=by omega
  have h1:=aDr S T hv'
  rw [List.getElem?_eq_getElem hv,Option.getD_some,e] at h1
  have:=S.d v hv'
  omega
 have hsum:=aPH S T
 have hs0:0≤(gA s).sum:=by
  have key: ∀ l:List Sc,0≤(gA l).sum:=by
   intro l
   induction l with
   |nil=>exact Int.le_refl 0
   |cons x l ih=>
    unfold gA at ih ⊢
    simp only [List.map_cons,List.sum_cons]
    omega
  exact key s
 have h55:=S.s
 have hdv:aGe r.q (vZ s)=true:=by
  unfold aGe
  simp only [Bool.and_eq_true,decide_eq_true_eq,List.all_eq_true]
  refine ⟨hQ,by omega,λx hx=>?_,by omega⟩
  have:=hmem x hx
  unfold rN
  simp only [Bool.and_eq_true,decide_eq_true_eq]
  omega
 unfold eP
 simp only [Bool.and_eq_true,decide_eq_true_eq,List.all_eq_true]
 refine ⟨?_,by show r.p≤3;have:=S.p;omega,λx hx=>?_,by show (vZ s).sum ≤5;omega⟩
 ·unfold aEE
  simp only [Bool.and_eq_true,decide_eq_true_eq,rU]
  refine ⟨hp,hdv,by simp [aGV];omega,λk hk=>?_⟩
  have hk':k<r.maps.length:=by simpa [aGV] using hk
  have hi':k<r.q.src.length:=by omega
  have hs:=(S.R.s k hi').2
  have ht:=(S.R.t k hi').2
  have e:((aGV r s).maps[k]?.getD ⟨0,0,[]⟩:Mt)=aPG r s k:=by
   show ((List.range r.maps.length).map (aPG r s))[k]?.getD _=_
   simp [hk']
  rw [e]
  have q1:=aDr S T hs
  have q2:=aDr S T ht
  have d1:=S.d _ hs
  have d2:=S.d _ ht
  refine ⟨aQT hp (by omega) (by omega) (λa b ha hb=>?_),?_,?_⟩
  ·exact aSN hp _ _ _ (dN r (tV r k) - kN s (tV r k)) (frN s (sV r k) b+1) a (frN s (sV r k) b) ha (by omega)
  ·show ((dN r (sV r k) - kN s (sV r k):Nat):Int)=(vZ s)[sV r k]?.getD 0
   rw [q1.1]
  ·show ((dN r (tV r k) - kN s (tV r k):Nat):Int)=(vZ s)[tV r k]?.getD 0
   rw [q2.1]
 ·have:=hmem x hx
  unfold rN
  simp only [Bool.and_eq_true,decide_eq_true_eq]
  omega
section
variable {r:Rp} {s:List Sc} (hr:bR r) (S:Sm r) (T:PartT r s)
include hr S T
theorem aVu:mG r s=some (aGV r s,s.map (prM r.p)):=by
 have h5:=S.R.n5
 have h6:=S.R.e6
 have hml:=S.R.ml
 have hsl:=T.P.len
 unfold mG
 rw [eB (r:=(vZ s,s.map (prM r.p))) (λk=>(vZ (s.take k),(s.take k).map (prM r.p),(k:Int))) s.length (by rfl) (λv hv=>?_) (λ_=>?_),Option.bind_some]
 ·simp only
  rw [aUB S.R hr (d:=vZ s) (by simp [vZ,hsl]) (f:=λv=>dN r v - kN s v) (λv hv=>⟨(aDr S T hv).1,by have:=S.d v hv;omega⟩),Option.bind_some]
  simp only
  rw [eB (r:=(List.range r.maps.length).map (aPG r s)) (λk=>((List.range r.maps.length).map λi=>if i<k then aPG r s i else zeM r (λv=>dN r v - kN s v) i,(k:Int))) r.maps.length (by simp) (λi hi=>?_) (λ_=>?_),Option.bind_some]
  ·rfl
  ·have hi':i<r.q.src.length:=by omega
   have hs:=(S.R.s i hi').2
   have ht:=(S.R.t i hi').2
   have d1:=S.d _ hs
   have d2:=S.d _ ht
   obtain ⟨hM,hMi⟩:=S.R.m i hi'
   obtain ⟨hP,hPi⟩:=aVq T ht
   have hq:=T.q _ hs
   unfold mT
   simp only
   rw [lE hi,cond_true,mW ⟨0,0,[]⟩ hi,Option.bind_some,hM,mW 0 hi',Option.bind_some,(S.R.s i hi').1,mW ⟨0,[]⟩ (by omega),Option.bind_some,mW 0 (by have:=S.R.tl;omega),Option.bind_some,(S.R.t i hi').1,mW ⟨0,0,[]⟩ (by simp;omega),Option.bind_some]
   have e1:((s.map (prM r.p))[tV r i]?.getD ⟨0,0,[]⟩:Mt)=prM r.p (sG s (tV r i)):=by
    rw [List.getElem?_map,List.getElem?_eq_getElem (by omega),Option.map_some,Option.getD_some,aFY]
   have m1:=Nat.mul_le_mul (show dN r (tV r i) - kN s (tV r i)≤2 by omega) d2
   have m2:=Nat.mul_le_mul d2 d1
   have m3:=Nat.mul_le_mul (show dN r (tV r i) - kN s (tV r i)≤2 by omega) d1
   rw [e1,hP,aSO S.R.hp (by omega) (by omega) (by omega) (by omega) (by omega) (by omega) hPi hMi,Option.bind_some]
   have e2:(s[sV r i]?.getD ⟨0,[]⟩:Sc)=sG s (sV r i):=rfl
   rw [e2,hq.ld,Option.bind_some,hq.fr,Option.bind_some]
   have hfl:=hq.fl
   rw [eB (r:=(List.range (dN r (sV r i) - kN s (sV r i))).map λk=>jJ (dN r (tV r i) - kN s (tV r i)) λa=>aYI r s i a k) (λk=>((List.range k).map λk=>jJ (dN r (tV r i) - kN s (tV r i)) λa=>aYI r s i a k,(k:Int))) (dN r (sV r i) - kN s (sV r i)) (by rfl) (λk hk=>?_) (λ_=>?_),Option.bind_some]
   ·simp only
    rw [aGj (by have:=Nat.mul_le_mul (show dN r (tV r i) - kN s (tV r i)≤2 by omega) (show dN r (sV r i) - kN s (sV r i)≤2 by omega);omega) (by omega) (by omega),Option.bind_some,mW ⟨0,0,[]⟩ (by simpa using hi),Option.bind_some,cH hi (by omega),Int.toNat_natCast,aGm]
    congr 3
    refine List.map_congr_left λj hj=>?_
    by_cases e:j=i
    ·rw [if_pos e,if_pos (by omega),e];rfl
    ·rw [if_neg e]
     by_cases e2:j<i
     ·rw [if_pos e2,if_pos (by omega)]
     ·rw [if_neg e2,if_neg (by omega)]
   ·obtain ⟨f1,f2⟩:=aVr T hs hk
    unfold mS
    simp only
    rw [show (frL (sG s (sV r i))).length=dN r (sV r i) - kN s (sV r i) from hfl,lE hk,cond_true,mW 0 (by rw [show (frL (sG s (sV r i))).length=dN r (sV r i) - kN s (sV r i) from hfl];exact hk),Option.bind_some,f1,aVE (by omega) (by omega) f2,Option.bind_some,decide_eq_true (by simp;omega),cond_true,cH hk (by omega),←aFX]
    rfl
   ·unfold mS
    simp only
    rw [show (frL (sG s (sV r i))).length=dN r (sV r i) - kN s (sV r i) from hfl,oG (Nat.le_refl _),cond_false]
  ·unfold mT
   simp only
   rw [oG (Nat.le_refl _),cond_false]
   congr 2
   exact List.map_congr_left λj hj=>by rw [if_pos (List.mem_range.1 hj)]
 ·have hv':v<r.dims.length:=by omega
  have h2:=(aEO T.P.sub).2.2 v hv'
  have e:=aFY hv
  unfold mR
  simp only
  rw [lE hv,cond_true,eV hv,Option.bind_some,decide_eq_true (by simp [vZ];omega),cond_true]
  rw [e,(T.q v hv').pr,Option.bind_some,decide_eq_true (by simp;omega),cond_true,cH hv (by omega),h2.size,eH (by have:=h2.len;have:=S.d v hv';omega)]
  have e3:vZ (s.take v)++[(dN r v:Int) - ((sG s v).basis.length:Int)]=vZ (s.take (v+1)):=by
   unfold vZ
   rw [List.take_succ_eq_append_getElem hv,List.map_append,e]
   simp [h2.size]
  have e4:(s.take v).map (prM r.p)++[prM r.p (sG s v)]=(s.take (v+1)).map (prM r.p):=by
   rw [List.take_succ_eq_append_getElem hv,List.map_append,e];rfl
  rw [e3,e4]
 ·unfold mR
  simp only
  rw [oG (Nat.le_refl _),cond_false,List.take_length]
theorem aYJ:rK r s=some (aGV r s,s.map (prM r.p),true):=by
 have h5:=S.R.n5
 have h6:=S.R.e6
 have hml:=S.R.ml
 have hsl:=T.P.len
 unfold rK
 rw [aJd hr ⟨by omega,T.P.b⟩,Option.bind_some,T.P.sub,Bool.not_true,cond_false]
 rw [eB (r:=(vZ s,s.map (prM r.p),s.map (bkM r.p))) (λk=>((s.take k).map (λx=>(prM r.p x).rows),(s.take k).map (prM r.p),(s.take k).map (bkM r.p),(k:Int))) s.length (by rfl) (λv hv=>?_) (λ_=>?_),Option.bind_some]
 ·simp only
  rw [aVt S.R hr (d:=vZ s) (by simp [vZ,hsl]) (f:=λv=>dN r v - kN s v) (λv hv=>⟨(aDr S T hv).1,by have:=S.d v hv;omega⟩),Option.bind_some]
  simp only
  rw [eB (r:=(List.range r.maps.length).map (aPG r s)) (λk=>((List.range r.maps.length).map λi=>if i<k then aPG r s i else zeM r (λv=>dN r v - kN s v) i,(k:Int))) r.maps.length (by simp) (λi hi=>?_) (λ_=>?_),Option.bind_some]
  ·rfl
  ·have hi':i<r.q.src.length:=by omega
   have hs:=(S.R.s i hi').2
   have ht:=(S.R.t i hi').2
   have d1:=S.d _ hs
   have d2:=S.d _ ht
   obtain ⟨hM,hMi⟩:=S.R.m i hi'
   obtain ⟨hP,hPi⟩:=aVq T ht
   obtain ⟨hB,hBi⟩:=aYH T hs
   unfold mV
   simp only
   rw [lE hi,cond_true,mW 0 (by have:=S.R.tl;omega),Option.bind_some,(S.R.t i hi').1,mW ⟨0,0,[]⟩ (by simp;omega),Option.bind_some,mW ⟨0,0,[]⟩ hi,Option.bind_some,hM]
   have e1:((s.map (prM r.p))[tV r i]?.getD ⟨0,0,[]⟩:Mt)=prM r.p (sG s (tV r i)):=by
    rw [List.getElem?_map,List.getElem?_eq_getElem (by omega),Option.map_some,Option.getD_some,aFY]
   have e2:((s.map (bkM r.p))[sV r i]?.getD ⟨0,0,[]⟩:Mt)=bkM r.p (sG s (sV r i)):=by
    rw [List.getElem?_map,List.getElem?_eq_getElem (by omega),Option.map_some,Option.getD_some,aFY]
   have m1:=Nat.mul_le_mul (show dN r (tV r i) - kN s (tV r i)≤2 by omega) d2
   have m2:=Nat.mul_le_mul d2 d1
   have m3:=Nat.mul_le_mul (show dN r (tV r i) - kN s (tV r i)≤2 by omega) d1
   have m4:=Nat.mul_le_mul d1 (show dN r (sV r i) - kN s (sV r i)≤2 by omega)
   have m5:=Nat.mul_le_mul (show dN r (tV r i) - kN s (tV r i)≤2 by omega) (show dN r (sV r i) - kN s (sV r i)≤2 by omega)
   have hW:=aSN S.R.hp (dN r (tV r i)) (prF r s (tV r i)) (aF r i) (dN r (tV r i) - kN s (tV r i)) (dN r (sV r i))
   rw [e1,hP,aEF S.R.hp (by omega) (by omega) (by omega) (by omega) (by omega) (by omega) hPi hMi,Option.bind_some,mW 0 hi',Option.bind_some,(S.R.s i hi').1,mW ⟨0,0,[]⟩ (by simp;omega),Option.bind_some,e2,hB,aEF S.R.hp (by omega) (by omega) (by omega) (by omega) (by omega) (by omega) hW hBi,Option.bind_some,mW ⟨0,0,[]⟩ (by simpa using hi),Option.bind_some,cH hi (by omega),Int.toNat_natCast,aGm]
   congr 3
   refine List.map_congr_left λj hj=>?_
   by_cases e:j=i
   ·rw [if_pos e,if_pos (by omega),e]
    unfold aPG
    congr 1
    refine cW λa b ha hb=>?_
    obtain ⟨f1,f2⟩:=aVr T hs hb
    have hw:=hW a (frN s (sV r i) b) ha f2
    show aFv _ _ _ _ _ % _=_
    rw [aOC (λt ht=>aXF T hs hb ht),if_pos f2]
    exact Int.emod_eq_of_lt hw.1 hw.2
   ·rw [if_neg e]
    by_cases e2:j<i
    ·rw [if_pos e2,if_pos (by omega)]
    ·rw [if_neg e2,if_neg (by omega)]
  ·unfold mV
   simp only
   rw [oG (Nat.le_refl _),cond_false]
   congr 2
   exact List.map_congr_left λj hj=>by rw [if_pos (List.mem_range.1 hj)]
 ·have hv':v<r.dims.length:=by omega
  have e:=aFY hv
  unfold mU
  simp only
  rw [lE hv,cond_true,eV hv,Option.bind_some,e,(T.q v hv').pj,Option.bind_some,decide_eq_true (by simp;omega),cond_true,decide_eq_true (by simp;omega),cond_true,decide_eq_true (by simp;omega),cond_true,cH hv (by omega)]
  rw [List.take_succ_eq_append_getElem hv,List.map_append,List.map_append,List.map_append,e]
  rfl
 ·unfold mU
  simp only
  rw [oG (Nat.le_refl _),cond_false,List.take_length,aUC S T]
theorem aVv:bR (aGV r s):=by
 have h5:=S.R.n5
 have h6:=S.R.e6
 have hml:=S.R.ml
 have hsl:=T.P.len
 refine ⟨hr.1,by simp [bI,aGV,vZ];omega,⟨by simp [aGV];omega,λm hm=>?_⟩,trivial⟩
 obtain ⟨i,hi,rfl⟩:=List.mem_map.1 hm
 have hi':i<r.q.src.length:=by have:=List.mem_range.1 hi;omega
 have d1:=S.d _ (S.R.s i hi').2
 have d2:=S.d _ (S.R.t i hi').2
 have m5:=Nat.mul_le_mul (show dN r (tV r i) - kN s (tV r i)≤2 by omega) (show dN r (sV r i) - kN s (sV r i)≤2 by omega)
 refine ⟨?_,trivial⟩
 unfold bI aPG
 simp only
 rw [jB]
 omega
end
end
noncomputable section
def mxS (r:Rp) (t:List Int):List Sc:=(aPF r t).1
structure Mx (r:Rp) (t:List Int):Prop where
 T:PartT r (mxS r t)
 e:aPF r t=(mxS r t,true)
 n:nZ r t=some (mxS r t)
 p:1≤(gA (mxS r t)).sum
theorem aVw {r:Rp} (hr:bR r) {t:List Int} (hS:eP r=true) (hT:thV t r.dims=true) (h0:0<r.dims.sum):Mx r t:=by
 have S:=zE hS
 have hA:(eP r&&(decide (0<r.dims.sum)&&thV t r.dims))=true:=by rw [hS,decide_eq_true h0,hT];rfl
 have e:aPF r t=(mxS r t,true):=by unfold mxS aPF;rw [hA];rfl
 have e2:mxS r t=(qC r)[(bst r t (qC r).length).toNat]?.getD []:=by unfold mxS aPF;rw [hA];rfl
 obtain ⟨b,eb,hb⟩:=aQh hS h0
 have e3:mxS r t=(qC r)[b]:=by rw [e2,eb,Int.toNat_natCast,List.getElem?_eq_getElem hb,Option.getD_some]
 have hm:mxS r t∈qC r:=by rw [e3];exact List.getElem_mem hb
 refine ⟨aUA S hm,e,?_,?_⟩
 ·unfold nZ
  rw [aTq hr S,Option.bind_some,aTy hS hT,Option.bind_some,eb]
  unfold aVm
  rw [decide_eq_false (by omega),cond_false,mW [] hb,e3,List.getElem?_eq_getElem hb,Option.getD_some]
 ·have hd:(gA (mxS r t)).sum ≠0:=by
   rcases aIZ r t (qC r).length with ⟨h,_⟩|⟨b',e',h',h2⟩
   ·omega
   ·have:b'=b:=by omega
    subst this
    unfold dA at h2
    rw [List.getElem?_eq_getElem hb,Option.getD_some,←e3] at h2
    exact h2
  have key: ∀ l:List Sc,0≤(gA l).sum:=by
   intro l
   induction l with
   |nil=>exact Int.le_refl 0
   |cons x l ih=>
    unfold gA at ih ⊢
    simp only [List.map_cons,List.sum_cons]
    omega
  have:=key (mxS r t)
  omega
def slL (t:List Int):Nat→Rp→List (List Int)
 |0,_=>[]
 |n+1,r=>if r.dims.sum=0 then [] else gA (mxS r t)::slL t n (aGV r (mxS r t))
theorem aRn {r:Rp} {t:List Int} (hr:bR r) (hS:eP r=true) (hT:thV t r.dims=true) {s:List Sc} (T:PartT r s):thV t (aGV r s).dims=true:=by
 have hq:=aSp (zE hS) T hS
 have hT':=aMb hT
 unfold thV at hT ⊢
 simp only [Bool.and_eq_true,decide_eq_true_eq,List.all_eq_true] at hT ⊢
 refine ⟨?_,hT.2.1,hT.2.2.1,λx hx=>?_⟩
 ·show t.length=(vZ s).length
  rw [hT.1];simp [vZ,T.P.len]
 ·have:=(zE hq).mem x hx
  unfold rN
  simp only [Bool.and_eq_true,decide_eq_true_eq]
  omega
theorem aMg {r:Rp} (hS:eP r=true):0≤r.dims.sum:=by
 have h:=(zE hS).mem
 have:=(aJJ (d:=r.dims) (λx hx=>by have:=h x hx;omega)).1
 exact this
theorem aSq (t:List Int): ∀ n r,(slL t n r).length ≤n
 |0,_=>by simp [slL]
 |n+1,r=>by
  unfold slL
  split
  ·simp
  ·have:=aSq t n (aGV r (mxS r t))
   simp only [List.length_cons];omega
def aKk (r:Rp) (out:List (List Int)):Int×Int×List Int×List Int×List Int×List Mt×List (List Int):=(r.p,r.q.n,r.q.src,r.q.tgt,r.dims,r.maps,out)
theorem aVx {t:List Int} : ∀ (n:Nat) (r:Rp) (out:List (List Int)),bR r→eP r=true→thV t r.dims=true→r.dims.sum≤n→out.length+n≤100→
  Lp (eZ t) (aKk r out)=some (out++slL t n r)∧Lp (dM t) (aKk r out)=some (out++slL t n r):=by
 have hsum: ∀ r:Rp,eP r=true→eN r.dims=some r.dims.sum:=λr hS=>by
  have h:=(zE hS).mem
  have h5:=(zE hS).R.n5
  exact aHw (λx hx=>by have:=h x hx;omega) (by omega)
 have stop: ∀ (r:Rp) (out:List (List Int)),eP r=true→r.dims.sum=0→Lp (eZ t) (aKk r out)=some out∧Lp (dM t) (aKk r out)=some out:=by
  intro r out hS h0
  constructor
  ·refine mI ?_
   unfold eZ aKk
   simp only
   rw [hsum r hS,Option.bind_some,decide_eq_false (by omega),cond_false]
  ·refine mI ?_
   unfold dM aKk
   simp only
   rw [hsum r hS,Option.bind_some,decide_eq_false (by omega),cond_false]
 intro n
 induction n with
 |zero=>
  intro r out hr hS hT hn hl
  have h0:r.dims.sum=0:=by have:=aMg hS;omega
  have:=stop r out hS h0
  simpa [slL] using this
 |succ n ih=>
  intro r out hr hS hT hn hl
  by_cases h0:r.dims.sum=0
  ·have:=stop r out hS h0
   simpa [slL,h0] using this
  ·have hp:0<r.dims.sum:=by have:=aMg hS;omega
   have M:=aVw hr hS hT hp
   have S:=zE hS
   have hq:=aSp S M.T hS
   have hs:=aPH S M.T
   have h:=ih (aGV r (mxS r t)) (out++[gA (mxS r t)]) (aVv hr S M.T) hq (aRn hr hS hT M.T) (by show (vZ (mxS r t)).sum ≤n;have:=M.p;omega) (by simp;omega)
   have e:out++slL t (n+1) r=(out++[gA (mxS r t)])++slL t n (aGV r (mxS r t)):=by
    rw [slL,if_neg h0,List.append_assoc];rfl
   have hl5:(mxS r t).length ≤1048576:=by have:=M.T.P.len;have:=S.R.n5;omega
   constructor
   ·rw [e,←h.1]
    refine zK ?_
    unfold eZ aKk
    simp only
    rw [hsum r hS,Option.bind_some,decide_eq_true hp,cond_true,M.n,Option.bind_some,aFs hl5,Option.bind_some,decide_eq_true (by omega),cond_true,aVu hr S M.T,Option.bind_some]
   ·rw [e,←h.2]
    refine zK ?_
    unfold dM aKk
    simp only
    rw [hsum r hS,Option.bind_some,decide_eq_true hp,cond_true,M.n,Option.bind_some,aFs hl5,Option.bind_some,decide_eq_true (by omega),cond_true,aVu hr S M.T,Option.bind_some]
def slR (r:Rp) (t:List Int):List (List Int)×Bool:=bif aEE r&&(thV t r.dims&&(decide (r.dims.sum=0)||eP r)) then (slL t 5 r,true) else ([],false)
theorem aVy {r:Rp} (hr:bR r) {t:List Int} (ht:bI t):iT r t=some (slR r t):=by
 have hbd:bI r.dims:=hr.2.1
 unfold iT slR
 rw [aJK hr,Option.bind_some]
 cases hR:aEE r with
 |false=>rfl
 |true=>
  have hd:=(aFU hR).1
  have h5:=(aNp hR).n5
  rw [Bool.not_true,cond_false,aQd ht hbd,Option.bind_some,Bool.true_and]
  cases hT:thV t r.dims with
  |false=>rfl
  |true=>
   rw [Bool.not_true,cond_false,aHw hd (by omega),Option.bind_some,Bool.true_and]
   have hnn:=(aJJ hd).1
   by_cases h0:r.dims.sum=0
   ·rw [decide_eq_false (by omega),cond_false,decide_eq_true h0,Bool.true_or,cond_true]
    have hz:Lp (dM t) (aKk r [])=some []:=by
     refine mI ?_
     unfold dM aKk
     simp only
     rw [aHw hd (by omega),Option.bind_some,decide_eq_false (by omega),cond_false]
    unfold aKk at hz
    rw [hz,Option.bind_some]
    simp [slL,h0]
   ·rw [decide_eq_true (by omega),cond_true,decide_eq_false h0,Bool.false_or,aNu hr,Option.bind_some]
    cases hS:eP r with
    |false=>rfl
    |true=>
     have h:=(aVx (t:=t) 5 r [] hr hS hT (zE hS).s (by simp)).1
     unfold aKk at h
     rw [Bool.not_true,cond_false,cond_true,h,Option.bind_some,List.nil_append]
def aJl (r:Rp) (out:List (List Int)) (k:Int):List (List Int)×Int×Int×List Int×List Int×List Int×List Mt×Int:=(out,r.p,r.q.n,r.q.src,r.q.tgt,r.dims,r.maps,k)
theorem aVz {t:List Int} (ht:bI t) {a0:Rp} (hb0:bI a0.dims) (hT0:thV t a0.dims=true): ∀ (n:Nat) (r:Rp) (out:List (List Int)) (k:Nat),bR r→eP r=true→thV t r.dims=true→r.dims.sum≤n→out.length+n≤100→k+n≤5→
  Lp (cJ a0 t) (aJl r out k)=some (.inr (out++slL t n r,true)):=by
 have stop: ∀ (r:Rp) (out:List (List Int)) (k:Nat),bR r→eP r=true→r.dims.sum=0→k≤5→Lp (cJ a0 t) (aJl r out k)=some (.inr (out,true)):=by
  intro r out k hr hS h0 hk
  refine mI ?_
  unfold cJ aJl
  simp only
  rw [decide_eq_true (by omega),cond_true,aAw hr,Option.bind_some,aBW hS,cond_true,h0,decide_eq_true rfl,cond_true,aCK ht hb0,Option.bind_some,hT0]
 intro n
 induction n with
 |zero=>
  intro r out k hr hS hT hn hl hk
  have h0:r.dims.sum=0:=by have:=aMg hS;omega
  have:=stop r out k hr hS h0 (by omega)
  simpa [slL] using this
 |succ n ih=>
  intro r out k hr hS hT hn hl hk
  by_cases h0:r.dims.sum=0
  ·have:=stop r out k hr hS h0 (by omega)
   simpa [slL,h0] using this
  ·have hp:0<r.dims.sum:=by have:=aMg hS;omega
   have M:=aVw hr hS hT hp
   have S:=zE hS
   have hq:=aSp S M.T hS
   have hs:=aPH S M.T
   have h:=ih (aGV r (mxS r t)) (out++[gA (mxS r t)]) (k+1) (aVv hr S M.T) hq (aRn hr hS hT M.T) (by show (vZ (mxS r t)).sum ≤n;have:=M.p;omega) (by simp;omega) (by omega)
   have e:out++slL t (n+1) r=(out++[gA (mxS r t)])++slL t n (aGV r (mxS r t)):=by
    rw [slL,if_neg h0,List.append_assoc];rfl
   rw [e,←h]
   refine zK ?_
   have hl5:(mxS r t).length ≤1048576:=by have:=M.T.P.len;have:=S.R.n5;omega
   unfold cJ aJl
   simp only
   rw [decide_eq_true (by omega),cond_true,aAw hr,Option.bind_some,aBW hS,cond_true,decide_eq_false h0,cond_false,aJg hr ht,Option.bind_some,M.e]
   simp only
   rw [Bool.not_true,cond_false,aEP hr ⟨hl5,M.T.P.b⟩ M.T.P.sub,Option.bind_some,decide_eq_true (by omega),cond_true,aYJ hr S M.T,Option.bind_some,cH (show k<6 by omega) (by omega)]
theorem aWA {r:Rp} (hr:bR r) {t:List Int} (ht:bI t):lJ r t=some (slR r t):=by
 have hbd:bI r.dims:=hr.2.1
 unfold lJ slR
 have first: ∀ v,cJ r t (aJl r [] 0)=some (.inr v)→Lp (cJ r t) (aJl r [] 0)=some v:=λv h=>mI h
 cases hR:aEE r with
 |false=>
  have hm:kR r t=some ([],false):=by
   rw [aJg hr ht]
   unfold aPF
   have:eP r=false:=by unfold eP;rw [hR];rfl
   rw [this];rfl
  have h:=first (.inr ([],false)) (by
   unfold cJ aJl
   simp only
   rw [decide_eq_true (by omega),cond_true,aAw hr,Option.bind_some,hR,cond_false,decide_eq_false (by omega),cond_false]
   rw [show (⟨r.p,⟨r.q.n,r.q.src,r.q.tgt⟩,r.dims,r.maps⟩:Rp)=r from rfl,hm]
   rfl)
  unfold aJl at h
  rw [h]
  rfl
 |true=>
  have hd:=(aFU hR).1
  have hnn:=(aJJ hd).1
  rw [Bool.true_and]
  by_cases h0:r.dims.sum=0
  ·have h:=first (.inr ([],thV t r.dims)) (by
    unfold cJ aJl
    simp only
    rw [decide_eq_true (by omega),cond_true,aAw hr,Option.bind_some,hR,cond_true,h0,decide_eq_true rfl,cond_true,aCK ht hbd,Option.bind_some])
   unfold aJl at h
   rw [h,decide_eq_true h0,Bool.true_or,Bool.and_true,Option.bind_some]
   cases hT:thV t r.dims <;> simp [slL,h0]
  ·rw [decide_eq_false h0,Bool.false_or]
   cases hB:thV t r.dims&&eP r with
   |true=>
    simp only [Bool.and_eq_true] at hB
    have h:=aVz ht hbd hB.1 5 r [] 0 hr hB.2 hB.1 (zE hB.2).s (by simp) (by omega)
    unfold aJl at h
    rw [show ((0:Nat):Int)=0 from rfl] at h
    rw [h,Option.bind_some,List.nil_append]
    rfl
   |false=>
    have hm:kR r t=some ([],false):=by
     rw [aJg hr ht]
     unfold aPF
     have:(eP r&&(decide (0<r.dims.sum)&&thV t r.dims))=false:=by
      cases h1:eP r <;> cases h2:thV t r.dims <;> simp_all
     rw [this];rfl
    have h:=first (.inr ([],false)) (by
     unfold cJ aJl
     simp only
     rw [decide_eq_true (by omega),cond_true,aAw hr,Option.bind_some,hR,cond_true,decide_eq_false h0,cond_false]
     rw [show (⟨r.p,⟨r.q.n,r.q.src,r.q.tgt⟩,r.dims,r.maps⟩:Rp)=r from rfl,hm]
     rfl)
    unfold aJl at h
    rw [h]
    rfl
theorem aXT (t:List Int): ∀ (n:Nat) (r:Rp),bR r→eP r=true→thV t r.dims=true→ ∀ v∈slL t n r,bI v
 |0,_,_,_,_=>by simp [slL]
 |n+1,r,hr,hS,hT=>by
  unfold slL
  split
  ·simp
  ·rename_i h0
   have hp:0<r.dims.sum:=by have:=aMg hS;omega
   have M:=aVw hr hS hT hp
   have S:=zE hS
   intro v hv
   rcases List.mem_cons.1 hv with rfl|hv
   ·have:=M.T.P.len
    have:=S.R.n5
    unfold bI
    rw [aEQ]
    omega
   ·exact aXT t n _ (aVv hr S M.T) (aSp S M.T hS) (aRn hr hS hT M.T) v hv
theorem aZF {r:Rp} (hr:bR r) (t:List Int):(slR r t).1.length ≤1048576∧ ∀ v∈(slR r t).1,bI v:=by
 unfold slR
 cases hA:aEE r&&(thV t r.dims&&(decide (r.dims.sum=0)||eP r)) with
 |false=>simp
 |true=>
  simp only [Bool.and_eq_true,Bool.or_eq_true,decide_eq_true_eq] at hA
  rw [cond_true]
  refine ⟨by have:=aSq t 5 r;simp only;omega,?_⟩
  by_cases h0:r.dims.sum=0
  ·simp [slL,h0]
  ·exact aXT t 5 r hr (hA.2.2.resolve_left h0) hA.2.1
theorem aEo {a:Rp} {d:List Int} (fa:fR a) (fd:fI d):kF a d=some true:=by
 unfold kF
 by_cases c1:d.length≤1048576
 ·rw [decide_eq_false (by omega),cond_false,aZW fa (by decide) (by decide),Option.bind_some]
  rcases aWb a 1048576 (by decide) (by decide) with e|⟨e1,e2,ha⟩
  ·rw [e];rfl
  ·rw [decide_eq_false (by omega),cond_false]
   have hd:bI d:=c1
   have hs:=aZF ha d
   have hn:=aYs ha
   have hn2:=aXq hs
   obtain ⟨l1,l2,l3,l4⟩:=aWk 1 a
   simp only [aZZ ha,aUs hd,Option.bind_some,aWA ha hd,aVy ha hd,aYl hs,aZc ha,aTL hd,decide_true,Bool.not_true,cond_false,beq_self_eq_true]
   rw [aZf (by decide) (by omega) (by have:=ha.2.2.1.1;omega),Option.bind_some]
   simp only [l1,l2,l3,l4,decide_true,cond_true]
   rw [aTW (by omega) (by rw [aEH];omega),Option.bind_some]
   simp only [aAB,decide_true,cond_true]
   rw [decide_eq_false (show ¬ (1+(nR a:Int)+(nI d:Int)<0) by omega),cond_false,aYn (by decide) (by omega) (by omega),Option.bind_some]
   simp only [aVD,decide_true,cond_true]
   rw [aYo (by decide) (by omega) (by omega),Option.bind_some,Option.bind_some]
   simp only [aYm (show (0:Int)≤1 by decide),decide_true,Bool.not_true,cond_false]
 ·rw [decide_eq_true (by omega),cond_true]
end
end Go.Proofs.YtghechfdejhapaaGreat

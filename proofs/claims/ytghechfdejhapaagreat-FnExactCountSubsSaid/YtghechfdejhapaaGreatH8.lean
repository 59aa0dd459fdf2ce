/-
  Several texts of the claim in one.
-/
import Derived.Test.YtghechfdejhapaaGreatProg
import Derived.Test.YtghechfdejhapaaGreatH7
set_option linter.unusedVariables false
set_option linter.unusedSimpArgs false
namespace Go.Proofs.YtghechfdejhapaaGreat
open Go.RowKit
noncomputable section
theorem aHZ {a b:Int} (ha:0≤a∧a≤5) (hb:0≤b∧b≤5):0≤a*b∧a*b≤25:=by
 refine ⟨Int.mul_nonneg ha.1 hb.1,?_⟩
 have:=Int.mul_le_mul ha.2 hb.2 hb.1 (by decide:(0:Int)≤5)
 omega
theorem wB {x p:Int} (hp:kB p=true):0≤x % p∧x % p<p:=by
 have:=fT hp
 exact ⟨Int.emod_nonneg _ (by omega),Int.emod_lt_of_pos _ (by omega)⟩
theorem aBz {p x:Int} (hp:kB p=true) (hx: -4611686018427387904≤x∧x≤4611686018427387904):jM p x=some (x % p):=by
 have hb:=fT hp
 have hr:=aEp x p (by omega)
 unfold jM
 rw [decide_eq_false (by omega),Bool.not_false,cond_true]
 rcases aEq x p (by omega) with ⟨h,e⟩|⟨h,e⟩
 ·rw [decide_eq_false (by omega),cond_false,e]
 ·rw [decide_eq_true h,cond_true,gV (by omega),e]
  congr 1
  omega
theorem aIc {p x:Int} (hp:kB p=true):nS p x=some (x % p):=by
 have hb:=fT hp
 have hr:=aEp x p (by omega)
 unfold nS
 rw [aAN,hp,Option.bind_some,Bool.not_true,cond_false,decide_eq_false (by omega),Bool.not_false,cond_true,cond_true,gV (by omega),aLF _ _ (by omega)]
theorem aJq {p x:Int} (hp:kB p=true) {k:Nat} (hk:k≤1000):pB p x k=some (aHN p (x % p) k):=by
 have hb:=fT hp
 unfold pB
 rw [aAN,hp,Option.bind_some,Bool.not_true,cond_false,tH,wK (by omega) (by omega),Option.bind_some,Bool.not_true,cond_false]
 rw [fJ (r:=aHN p (x % p) k) (fun t=>(aHN p (x % p) t,(t:Int))) k (by rfl) (fun t ht=>?_) (fun _=>?_),Option.bind_some]
 ·unfold lH
  simp only
  have h1:=aKV hp (wB (x:=x) hp) t
  have h2:=wB (x:=x) hp
  have h3:=aHZ (a:=aHN p (x % p) t) (b:=x % p) (by omega) (by omega)
  rw [nD ht,cond_true,aIc hp,Option.bind_some,decide_eq_false (by omega),Bool.not_false,cond_true,dO ht (by omega),gV (by omega),Int.tmod_eq_emod_of_nonneg h3.1]
  rfl
 ·unfold lH
  simp only
  rw [qZ (Nat.le_refl _),cond_false]
theorem aLO {p x:Int} (hp:kB p=true):mT p x=some (wY p (x % p)):=by
 have hb:=fT hp
 unfold mT wY
 rw [aAN,hp,Option.bind_some,Bool.not_true,cond_false,gV (by omega)]
 have e:max (p - 2) 1=(((max (p - 2) 1).toNat:Nat):Int):=by omega
 rw [e,aJq hp (by omega),Option.bind_some,Int.toNat_natCast]
theorem aLP {p x:Int} (hp:kB p=true) (hx: -4611686018427387904≤x∧x≤4611686018427387904):gX p x=some (wY p (x % p)):=by
 have hb:=fT hp
 have h2:=wB (x:=x) hp
 obtain ⟨n,hn⟩: ∃ n:Nat,p=n:=⟨p.toNat,by omega⟩
 unfold gX
 rw [aCd (s0:=1) (s:=1) (n:=n) (fun k:Nat=>bif decide ((x % p*k) % p=1) then some (k:Int) else none) rfl (by omega) (by omega) (fun k h1 hk=>?_) (fun _=>?_),Option.bind_some]
 ·cases e:(List.range' 1 (n - 1)).findSome? (fun k:Nat=>bif decide ((x % p*k) % p=1) then some (k:Int) else none) with
  |none=>
   rw [List.findSome?_eq_none_iff] at e
   rw [aMJ hp h2 fun y h3 h4 h5=>?_];rfl
   have:=e y (by simp;omega)
   rw [decide_eq_true h5] at this
   cases this
  |some i=>
   obtain ⟨k,hk,he⟩:=List.exists_of_findSome?_eq_some e
   simp at hk
   cases hd:decide ((x % p*k) % p=1) with
   |false=>rw [hd] at he;cases he
   |true=>
    rw [hd] at he
    cases he
    rw [aNY hp h2 (y:=k) (by omega) (of_decide_eq_true hd)];rfl
 ·unfold jQ
  have h3:=aHZ (a:=x % p) (b:=k) (by omega) (by omega)
  rw [decide_eq_true (by omega),cond_true,aBy,hp,Option.bind_some,cond_true,aBz hp hx,Option.bind_some,gV (by omega),aBz hp (by omega),Option.bind_some]
  cases decide (x % p*k % p=1) <;> rfl
 ·unfold jQ
  rw [decide_eq_false (by omega),cond_false]
theorem aFF {r c i:Nat} (hi:i<r):(i+1)*c≤r*c:=Nat.mul_le_mul_right c hi
theorem ixw {r c i j:Nat} (hN:r*c≤1048576) (hi:i<r) (hj:j<c):wr (wr ((i:Int)*(c:Int))+(j:Int))=((i*c+j:Nat):Int):=wix (by have:=aKW hi hj;omega)
theorem atT {r c i j:Nat} (hN:r*c≤1048576) (hi:i<r) (hj:j<c) (F:Nat→Nat→Int):dX (dB r c F) (wr (wr ((i:Int)*(c:Int))+(j:Int)))=some (F i j):=by rw [ixw hN hi hj,aNZ F hi hj]
theorem aLR {r c i j:Nat} (hN:r*c≤1048576) (hi:i<r) (hj:j<c) (F:Nat→Nat→Int) (v:Int):(dB r c F).set (wr (wr ((i:Int)*(c:Int))+(j:Int))).toNat v=dB r c (aCe F i j v):=by rw [ixw hN hi hj,Int.toNat_natCast,wZ F v hi hj]
theorem qE {r c i:Nat} (hN:r*c≤1048576) (hi:i<r):wr ((i:Int)*(c:Int))=((i*c:Nat):Int):=aJU (by have:= @aFF r c i hi;rw [Nat.succ_mul] at this;omega)
theorem sP {r c i:Nat} (hN:r*c≤1048576) (hr:r≤1048576) (hi:i<r):wr (wr ((i:Int)+1)*(c:Int))=((i*c+c:Nat):Int):=by
 have:= @aFF r c i hi
 rw [dO hi (by omega),aJU (by omega),Nat.succ_mul]
def kR (c:Nat) (f:Nat→Int):List Int:=(List.range c).map f
theorem fB (c:Nat) (f:Nat→Int):(kR c f).length=c:=by simp [kR]
theorem aEU {c:Nat} (f:Nat→Int) {j:Nat} (h:j<c):dX (kR c f) (j:Int)=some (f j):=by rw [fS (by rw [fB];exact h)];simp [kR]
theorem aFG {r c i:Nat} (hN:r*c≤1048576) (hr:r≤1048576) (hi:i<r) (F:Nat→Nat→Int):dG ⟨r,c,dB r c F⟩ i=some ():=by
 have:= @aFF r c i hi
 rw [Nat.succ_mul] at this
 unfold dG
 simp only
 rw [qE hN hi,sP hN hr hi,gO,decide_eq_true (by omega),decide_eq_true (by omega:((i*c:Nat):Int)≤((i*c+c:Nat):Int)),decide_eq_true (by omega:((i*c+c:Nat):Int)≤((r*c:Nat):Int))]
 rfl
theorem aMe {r c i:Nat} (hN:r*c≤1048576) (hr:r≤1048576) (hi:i<r) (F:Nat→Nat→Int):aAy ⟨r,c,dB r c F⟩ i=some (kR c (F i)):=by
 have h:= @aFF r c i hi
 rw [Nat.succ_mul] at h
 unfold aAy tF zE
 simp only
 rw [qE hN hi,sP hN hr hi,gO,decide_eq_true (by omega),decide_eq_true (by omega:((i*c:Nat):Int)≤((i*c+c:Nat):Int)),decide_eq_true (by omega:((i*c+c:Nat):Int)≤((r*c:Nat):Int))]
 simp only [Bool.and_self,cond_true,Int.toNat_natCast]
 congr 1
 refine List.ext_getElem (by simp [gO,fB];omega) fun t h1 h2=>?_
 rw [fB] at h2
 rw [List.getElem_take,List.getElem_drop]
 simp [dB,kR,aEr h2,aEs h2]
def aFr (p:Int) (F:Nat→Nat→Int) (i:Nat) (k:Int) (g:Nat→Int):Nat→Nat→Int:=fun a b=>if a=i then (F i b+k*g b) % p else F a b
theorem gd (x:Nat):(decide (0≤(x:Int))&&true)=true:=by rw [decide_eq_true (by omega)];rfl
theorem aOY {p:Int} (hp:kB p=true):(!decide (p=0))=true:=by have:=fT hp;rw [decide_eq_false (by omega)];rfl
theorem aId {p:Int} (hp:kB p=true) {r c i:Nat} (hc:c≤1048576) (hi:i<r) {F:Nat→Nat→Int} {g:Nat→Int} {k:Int} (hk:0≤k∧k≤5) (hF: ∀ b,b<c→0≤F i b∧F i b<p) (hg: ∀ b,b<c→0≤g b∧g b<p):
  gG p (dB r c F) (i*c) c k (kR c g)=some (dB r c (aFr p F i k g)):=by
 have hb:=fT hp
 unfold gG
 rw [fJ (r:=dB r c (aFr p F i k g)) (fun x=>(dB r c (fun a b=>if a=i∧b<x then (F i b+k*g b) % p else F a b),(x:Int))) c (by simp) (fun x hx=>?_) (fun _=>?_)];rfl
 ·have h1:=hF x hx
  have h2:=hg x hx
  have h3:=aHZ hk (show 0≤g x∧g x≤5 by omega)
  unfold iY
  simp only
  rw [fB,nD hx,cond_true,aEU _ hx,Option.bind_some,gd x,cond_true,Int.toNat_natCast,kI _ hi hx,Option.bind_some,aOY hp,cond_true,cond_true,Option.bind_some,wZ _ _ hi hx,dO hx (by omega)]
  rw [if_neg (by omega),gV (x:=k*g x) (by omega),gV (by omega),Int.tmod_eq_emod_of_nonneg (by omega)]
  congr 3
  refine cY fun a b ha hb=>?_
  simp only [aCe]
  by_cases e1:a=i∧b=x
  ·obtain ⟨rfl,rfl⟩:=e1
   rw [if_pos ⟨rfl,rfl⟩,if_pos ⟨rfl,by omega⟩]
  ·rw [if_neg e1]
   by_cases e2:a=i∧b<x
   ·rw [if_pos e2,if_pos ⟨e2.1,by omega⟩]
   ·rw [if_neg e2,if_neg (by omega)]
 ·unfold iY
  simp only
  rw [fB,qZ (Nat.le_refl _),cond_false]
  congr 2
  refine cY fun a b ha hb=>?_
  simp only [aFr]
  by_cases e:a=i
  ·rw [if_pos ⟨e,hb⟩,if_pos e]
  ·rw [if_neg (by omega),if_neg e]
theorem aLS {p:Int} (hp:kB p=true) {r c i j:Nat} (hc:c≤1048576) (hi:i<r) (hj:j<r) (hij:i≠j) {F:Nat→Nat→Int} {k:Int} (hk:0≤k∧k≤5) (hF: ∀ b,b<c→0≤F i b∧F i b<p) (hg: ∀ b,b<c→0≤F j b∧F j b<p):
  gW p (dB r c F) (i*c) c k (j*c) c=some (dB r c (aFr p F i k (F j))):=by
 have hb:=fT hp
 unfold gW
 rw [fJ (r:=dB r c (aFr p F i k (F j))) (fun x=>(dB r c (fun a b=>if a=i∧b<x then (F i b+k*F j b) % p else F a b),(x:Int))) c (by simp) (fun x hx=>?_) (fun _=>?_)];rfl
 ·have h1:=hF x hx
  have h2:=hg x hx
  have h3:=aHZ hk (show 0≤F j x∧F j x≤5 by omega)
  unfold fV
  simp only
  rw [nD hx,cond_true,gd x,cond_true,Int.toNat_natCast,kI _ hj hx,Option.bind_some,cond_true,kI _ hi hx,Option.bind_some,aOY hp,cond_true,cond_true,Option.bind_some,wZ _ _ hi hx,dO hx (by omega)]
  rw [if_neg (by omega),if_neg (by omega),gV (x:=k*F j x) (by omega),gV (by omega),Int.tmod_eq_emod_of_nonneg (by omega)]
  congr 3
  refine cY fun a b ha hb=>?_
  simp only [aCe]
  by_cases e1:a=i∧b=x
  ·obtain ⟨rfl,rfl⟩:=e1
   rw [if_pos ⟨rfl,rfl⟩,if_pos ⟨rfl,by omega⟩]
  ·rw [if_neg e1]
   by_cases e2:a=i∧b<x
   ·rw [if_pos e2,if_pos ⟨e2.1,by omega⟩]
   ·rw [if_neg e2,if_neg (by omega)]
 ·unfold fV
  simp only
  rw [qZ (Nat.le_refl _),cond_false]
  congr 2
  refine cY fun a b ha hb=>?_
  simp only [aFr]
  by_cases e:a=i
  ·rw [if_pos ⟨e,hb⟩,if_pos e]
  ·rw [if_neg (by omega),if_neg e]
theorem aMf {r c:Nat} (hN:r*c≤1048576):(decide (0≤wr ((r:Int)*(c:Int)))&&decide (wr ((r:Int)*(c:Int))≤1048576))=true:=by
 rw [aJU (by omega),decide_eq_true (by omega),decide_eq_true (by omega)];rfl
theorem aMg {r c:Nat} (hN:r*c≤1048576):qW r c=some ⟨r,c,dB r c fun _ _=>0⟩:=by
 unfold qW
 rw [aMf hN,cond_true,aJU (by omega),Int.toNat_natCast,aGY]
theorem aMh {r c:Nat} (hN:r*c≤1048576):tB r c=some ⟨r,c,dB r c fun _ _=>0⟩:=by
 unfold tB
 rw [aMf hN,cond_true,aJU (by omega),Int.toNat_natCast,aGY]
def aDz (F G:Nat→Nat→Int) (i j:Nat):Nat→Int
 |0=>0
 |k+1=>aDz F G i j k+F i k*G k j
def aIe (p:Int) (F G:Nat→Nat→Int) (i j:Nat):Nat→Int
 |0=>0
 |k+1=>(aIe p F G i j k+F i k*G k j) % p
theorem aHa {p:Int} (hp:kB p=true) (F G:Nat→Nat→Int) (i j:Nat): ∀ k,aIe p F G i j k=aDz F G i j k % p
 |0=>by simp [aIe,aDz]
 |k+1=>by rw [aIe,aDz,aHa hp F G i j k];simp [Int.add_emod]
theorem aHb {p:Int} (hp:kB p=true) {F G:Nat→Nat→Int} {i j:Nat} : ∀ {k:Nat},(∀ t,t<k→0≤F i t∧F i t<p)→(∀ t,t<k→0≤G t j∧G t j<p)→0≤aDz F G i j k∧aDz F G i j k≤25*k
 |0,_,_=>by simp [aDz]
 |k+1,hF,hG=>by
  have hb:=fT hp
  have h:=aHb hp (k:=k) (fun t ht=>hF t (by omega)) (fun t ht=>hG t (by omega))
  have h1:=hF k (by omega)
  have h2:=hG k (by omega)
  have h3:=aHZ (a:=F i k) (b:=G k j) (by omega) (by omega)
  rw [aDz]
  omega
def aEA (p:Int) (n:Nat) (F G:Nat→Nat→Int):Nat→Nat→Int:=fun i j=>aDz F G i j n % p
theorem aHc {p:Int} (hp:kB p=true) {r n c:Nat} (h1:r*n≤1048576) (h2:n*c≤1048576) (h3:r*c≤1048576) (hr:r≤1048576) (hn:n≤1048576) (hc:c≤1048576) {F G:Nat→Nat→Int} (hF:xW p r n F) (hG:xW p n c G):
  mS p ⟨r,n,dB r n F⟩ ⟨n,c,dB n c G⟩=some ⟨r,c,dB r c (aEA p n F G)⟩:=by
 have hb:=fT hp
 unfold mS
 simp only
 rw [aMh h3,Option.bind_some]
 simp only
 rw [fJ (r:=dB r c (aEA p n F G)) (fun i=>(dB r c (fun a b=>if a<i then aEA p n F G a b else 0),(i:Int))) r (by simp) (fun i hi=>?_) (fun _=>?_),Option.bind_some]
 ·unfold jP
  simp only
  rw [nD hi,cond_true]
  rw [fJ (r:=dB r c (fun a b=>if a<i+1 then aEA p n F G a b else 0)) (fun j=>(dB r c (fun a b=>if a<i∨(a=i∧b<j) then aEA p n F G a b else 0),(j:Int))) c (by simp) (fun j hj=>?_) (fun _=>?_),Option.bind_some,dO hi (by omega)]
  ·unfold jO
   simp only
   rw [nD hj,cond_true]
   have hbd:=aHb hp (F:=F) (G:=G) (i:=i) (j:=j) (k:=n) (fun t ht=>hF i t hi ht) (fun t ht=>hG t j ht hj)
   rw [fJ (r:=aDz F G i j n) (fun k=>(aDz F G i j k,(k:Int))) n (by simp [aDz]) (fun k hk=>?_) (fun _=>?_),Option.bind_some,aBz hp (by omega),Option.bind_some,atT h3 hi hj,Option.bind_some,aLR h3 hi hj,dO hj (by omega)]
   ·congr 3
    refine cY fun a b ha hb=>?_
    simp only [aCe]
    by_cases e:a=i∧b=j
    ·rw [if_pos e,if_pos (by omega),e.1,e.2];rfl
    ·rw [if_neg e]
     by_cases e2:a<i∨a=i∧b<j
     ·rw [if_pos e2,if_pos (by omega)]
     ·rw [if_neg e2,if_neg (by omega)]
   ·unfold jN
    simp only
    have g1:=hF i k hi hk
    have g2:=hG k j hk hj
    have g3:=aHZ (a:=F i k) (b:=G k j) (by omega) (by omega)
    have g4:=aHb hp (F:=F) (G:=G) (i:=i) (j:=j) (k:=k) (fun t ht=>hF i t hi (by omega)) (fun t ht=>hG t j (by omega) hj)
    rw [nD hk,cond_true,atT h1 hi hk,Option.bind_some,atT h2 hk hj,Option.bind_some,dO hk (by omega),gV (x:=F i k*G k j) (by omega),gV (by omega)]
    rfl
   ·unfold jN
    simp only
    rw [qZ (Nat.le_refl _),cond_false]
  ·unfold jO
   simp only
   rw [qZ (Nat.le_refl _),cond_false]
   congr 2
   refine cY fun a b ha hb=>?_
   by_cases e:a<i+1
   ·rw [if_pos e,if_pos (by omega)]
   ·rw [if_neg e,if_neg (by omega)]
 ·unfold jP
  simp only
  rw [qZ (Nat.le_refl _),cond_false]
  congr 2
  exact cY fun a b ha hb=>by rw [if_pos ha]
theorem aNm {p:Int} (hp:kB p=true) {r n c:Nat} (h1:r*n≤1048576) (h2:n*c≤1048576) (h3:r*c≤1048576) (hr:r≤1048576) (hn:n≤1048576) (hc:c≤1048576) {F G:Nat→Nat→Int} (hF:xW p r n F) (hG:xW p n c G):
  uF p ⟨r,n,dB r n F⟩ ⟨n,c,dB n c G⟩=some ⟨r,c,dB r c (aEA p n F G)⟩:=by
 have hb:=fT hp
 have hD: ∀ i j,aIe p F G i j n=aEA p n F G i j:=fun i j=>aHa hp F G i j n
 unfold uF
 simp only
 rw [aMg h3,Option.bind_some]
 simp only
 rw [fJ (r:=dB r c (aEA p n F G)) (fun i=>(dB r c (fun a b=>if a<i then aEA p n F G a b else 0),(i:Int))) r (by simp) (fun i hi=>?_) (fun _=>?_),Option.bind_some]
 ·unfold pI
  simp only
  rw [nD hi,cond_true,aMe h1 hr hi,Option.bind_some]
  rw [fJ (r:=dB r c (fun a b=>if a<i+1 then aEA p n F G a b else 0)) (fun k=>(dB r c (fun a b=>if a<i then aEA p n F G a b else if a=i then aIe p F G i b k else 0),(k:Int))) n ?_ (fun k hk=>?_) (fun _=>?_),Option.bind_some,dO hi (by omega)]
  ·congr 1
   exact cY fun a b ha hb=>by
    by_cases e:a<i
    ·rw [if_pos e,if_pos e]
    ·rw [if_neg e,if_neg e];simp [aIe]
  ·unfold pH
   simp only
   have g1:=hF i k hi hk
   rw [fB,nD hk,cond_true,aEU _ hk,Option.bind_some,aFG h3 hr hi,Option.bind_some,aMe h2 hn hk,Option.bind_some,Nat.zero_add,qE h3 hi,sP h3 hr hi,Int.toNat_natCast,Int.toNat_natCast,show i*c+c - i*c=c by omega]
   rw [aId hp hc hi (by omega) (fun b hb=>?_) (fun b hb=>hG k b hk hb),Option.bind_some,gO,gO,decide_eq_true rfl,cond_true,dO hk (by omega)]
   ·congr 3
    refine cY fun a b ha hb=>?_
    simp only [aFr]
    by_cases e:a=i
    ·subst e
     simp [aIe]
    ·rw [if_neg e,if_neg e,if_neg e]
   ·rw [if_neg (by omega),if_pos rfl,aHa hp]
    exact wB hp
  ·unfold pH
   simp only
   rw [fB,qZ (Nat.le_refl _),cond_false]
   congr 2
   refine cY fun a b ha hb=>?_
   by_cases e:a<i
   ·rw [if_pos e,if_pos (by omega)]
   ·by_cases e2:a=i
    ·subst e2
     rw [if_neg (by omega),if_pos rfl,if_pos (by omega),hD]
    ·rw [if_neg e,if_neg e2,if_neg (by omega)]
 ·unfold pI
  simp only
  rw [qZ (Nat.le_refl _),cond_false]
  congr 2
  exact cY fun a b ha hb=>by rw [if_pos ha]
end
noncomputable section
def qX (L:List Nat):List Int:=L.map fun t:Nat=>(t:Int)
theorem kS (L:List Nat):(qX L).length=L.length:=by simp [qX]
theorem aFH {p:Int} {m:Nat} {F:Nat→Nat→Int} {j:Nat} (h:(cV p m F j).2.length=m): ∀ d,cV p m F (j+d)=cV p m F j
 |0=>rfl
 |d+1=>by
  show fU p m (cV p m F (j+d)) (j+d)=_
  rw [aFH h d]
  unfold fU
  rw [if_pos]
  rw [h,Nat.sub_self]
  rfl
def yC (F:Nat→Nat→Int) (a b x:Nat):Nat→Nat→Int:=fun i y=>if y<x then qU F a b i y else F i y
def uH (p:Int) (F:Nat→Nat→Int) (a:Nat) (s:Int) (x:Nat):Nat→Nat→Int:=fun i y=>if y<x then nF p F a s i y else F i y
def hO (p:Int) (F:Nat→Nat→Int) (a j x:Nat):Nat→Nat→Int:=fun i c=>if i<x then rZ p F a j i c else F i c
theorem aGp {r c a b x:Nat} (F:Nat→Nat→Int):dB r c (aCe (aCe (yC F a b x) a x (F b x)) b x (F a x))=dB r c (yC F a b (x+1)):=by
 refine cY fun i y hi hy=>?_
 simp only [aCe,yC,qU]
 by_cases e:y=x
 ·subst e
  simp only [and_true,Nat.lt_irrefl,if_false,Nat.lt_succ_self,if_true]
  by_cases e1:i=b
  ·rw [if_pos e1]
   by_cases e2:i=a
   ·rw [if_pos e2]
    subst e1;rw [e2]
   ·rw [if_neg e2,if_pos e1]
  ·rw [if_neg e1]
   by_cases e2:i=a
   ·rw [if_pos e2,if_pos e2]
   ·rw [if_neg e2,if_neg e2,if_neg e1]
 ·rw [if_neg (by omega),if_neg (by omega)]
  by_cases e1:y<x
  ·rw [if_pos e1,if_pos (show y<x+1 by omega)]
  ·rw [if_neg e1,if_neg (show ¬ y<x+1 by omega)]
theorem aAO {F:Nat→Nat→Int} {a b x i:Nat} :yC F a b x i x=F i x:=by simp [yC]
theorem aFI {p:Int} {F:Nat→Nat→Int} {a x i:Nat} {s:Int} :uH p F a s x i x=F i x:=by simp [uH]
theorem aFJ {p:Int} {r c a x:Nat} {s:Int} (F:Nat→Nat→Int):dB r c (aCe (uH p F a s x) a x ((F a x*s) % p))=dB r c (uH p F a s (x+1)):=by
 refine cY fun i y hi hy=>?_
 simp only [aCe,uH,nF]
 by_cases e:y=x
 ·subst e
  simp only [and_true,Nat.lt_irrefl,if_false,Nat.lt_succ_self,if_true]
 ·rw [if_neg (by omega)]
  by_cases e1:y<x
  ·rw [if_pos e1,if_pos (show y<x+1 by omega)]
  ·rw [if_neg e1,if_neg (show ¬ y<x+1 by omega)]
theorem aKf {p r:Int} (hp:kB p=true) (hr:0≤r∧r<p):0≤wY p r∧wY p r<p:=aKV hp hr _
theorem aIf {p:Int} {m n k r:Nat} {F:Nat→Nat→Int} (h:xW p m n F) (hk:k<m) (hr:r<m):xW p m n (qU F k r):=by
 intro i c hi hc
 unfold qU
 split
 ·exact h r c hr hc
 ·split
  ·exact h k c hk hc
  ·exact h i c hi hc
theorem aGq {p:Int} (hp:kB p=true) {m n k:Nat} {s:Int} {F:Nat→Nat→Int} (h:xW p m n F):xW p m n (nF p F k s):=by
 intro i c hi hc
 unfold nF
 split
 ·exact wB hp
 ·exact h i c hi hc
theorem aLT {p:Int} (hp:kB p=true) {m n k j x:Nat} {F:Nat→Nat→Int} (h:xW p m n F):xW p m n (hO p F k j x):=by
 intro i c hi hc
 unfold hO rZ
 split
 ·split
  ·rename_i h1 h2;subst h2;exact h _ c hi hc
  ·exact wB hp
 ·exact h i c hi hc
theorem aMi {p:Int} (hp:kB p=true) {m n k j x:Nat} {F:Nat→Nat→Int} (hx:x≠k):dB m n (aFr p (hO p F k j x) x (p - F x j) (hO p F k j x k))=dB m n (hO p F k j (x+1)):=by
 refine cY fun i c hi hc=>?_
 simp only [aFr,hO,rZ]
 by_cases e:i=x
 ·subst e
  rw [if_pos rfl,if_neg (Nat.lt_irrefl _),if_pos (Nat.lt_succ_self _),if_neg hx]
  simp only [if_true,ite_self]
  rw [show F i c+(p - F i j)*F k c=(F i c - F i j*F k c)+p*F k c by rw [Int.sub_mul];omega,Int.add_mul_emod_self_left]
 ·rw [if_neg e]
  by_cases e1:i<x
  ·rw [if_pos e1,if_pos (show i<x+1 by omega)]
  ·rw [if_neg e1,if_neg (show ¬ i<x+1 by omega)]
theorem aGr {p:Int} {m n k j:Nat} {F:Nat→Nat→Int} :dB m n (hO p F k j k)=dB m n (hO p F k j (k+1)):=by
 refine cY fun i c hi hc=>?_
 simp only [hO,rZ]
 by_cases e:i<k
 ·rw [if_pos e,if_pos (show i<k+1 by omega)]
 ·rw [if_neg e]
  by_cases e1:i=k
  ·subst e1;simp
  ·rw [if_neg (show ¬ i<k+1 by omega)]
theorem aFK {p:Int} {F:Nat→Nat→Int} {k r j:Nat} :eX p F k r j=rZ p (nF p (qU F k r) k (wY p (F r j))) k j:=rfl
structure Tb (p:Int) (m n:Nat) (F:Nat→Nat→Int):Prop where
 hp:kB p=true
 hN:m*n≤1048576
 hm:m≤1048576
 hn:n≤1048576
 hi:xW p m n F
theorem aOZ {p:Int} {m n:Nat} {F:Nat→Nat→Int} (T:Tb p m n F) {j:Nat} (hj:j<n) (L:List Nat) (hL:L.length≤m) (l:List Int):
  Lp (kP ⟨m,n,l⟩ ((j:Int),dB m n F,qX L)) (((qX L).length:Nat):Int)=some ((iD F j (m - L.length) L.length:Nat):Int):=by
 obtain ⟨hp,hN,hm,hn,hi⟩:=T
 have hle:= @uW F j (m - L.length) L.length
 have hz:= @aAt F j (m - L.length) L.length
 have hh:= @aAF F j (m - L.length) L.length
 generalize iD F j (m - L.length) L.length=r at*
 rw [kS]
 refine fJ (fun t=>((L.length+t:Nat):Int)) (r - L.length) (by simp) (fun t ht=>?_) (fun _=>?_)
 ·unfold kP
  simp only
  rw [nD (by omega),cond_true,aFG hN hm (by omega),Option.bind_some,qE hN (by omega),sP hN hm (by omega),Int.toNat_natCast,Int.toNat_natCast,Nat.add_sub_cancel_left,nD hj,gd,cond_true,Nat.zero_add,Int.toNat_natCast,kI _ (by omega) hj,Option.bind_some,
   hz _ (by omega) (by omega),decide_eq_true rfl,cond_true,dO (n:=m) (by omega) (by omega),Nat.add_assoc]
 ·rw [show L.length+(r - L.length)=r by omega]
  unfold kP
  simp only
  rcases Nat.lt_or_ge r m with h|h
  ·rw [nD h,cond_true,aFG hN hm h,Option.bind_some,qE hN h,sP hN hm h,Int.toNat_natCast,Int.toNat_natCast,Nat.add_sub_cancel_left,nD hj,gd,cond_true,Nat.zero_add,Int.toNat_natCast,kI _ h hj,Option.bind_some,
    decide_eq_false (hh (by omega)),cond_false]
  ·rw [qZ h,cond_false]
theorem aNn {p:Int} {m n:Nat} {F:Nat→Nat→Int} (T:Tb p m n F) {j:Nat} (hj:j<n) (L:List Nat) (hL:L.length≤m) (l:List Int):
  kQ p ⟨m,n,l⟩ ((j:Int),dB m n F,qX L)=some (.inl (((j+1:Nat):Int),dB m n (fU p m (F,L) j).1,qX (fU p m (F,L) j).2)):=by
 have hpv:=aOZ T hj L hL l
 obtain ⟨hp,hN,hm,hn,hi⟩:=T
 have hb:=fT hp
 have hle:= @uW F j (m - L.length) L.length
 unfold kQ fU
 simp only
 rw [nD hj,cond_true,hpv,Option.bind_some,dO hj (by omega)]
 clear hpv
 generalize iD F j (m - L.length) L.length=r at*
 by_cases hr:r=m
 ·rw [decide_eq_true (by omega),cond_true,if_pos hr]
 ·rw [decide_eq_false (by omega),cond_false,if_neg hr]
  have hk:L.length<m:=by omega
  have hrm:r<m:=by omega
  simp only [kS]
  rw [aFG hN hm hk,Option.bind_some,qE hN hk,sP hN hm hk]
  simp only [Int.toNat_natCast,Nat.add_sub_cancel_left,Nat.zero_add]
  rw [fJ (r:=dB m n (qU F L.length r)) (fun x=>(dB m n (yC F L.length r x),(x:Int))) n ?_ (fun x hx=>?_) (fun _=>?_),Option.bind_some,nD hj,gd,cond_true,kI _ hk hj,Option.bind_some]
  ·have e1:qU F L.length r L.length j=F r j:=by simp [qU]
   have hrj:=hi r j hrm hj
   rw [e1,aLO hp,Option.bind_some,Int.emod_eq_of_lt hrj.1 hrj.2]
   have hs:=aKf hp hrj
   rw [aFK]
   generalize wY p (F r j)=s at*
   have h1:=aIf hi hk hrm
   generalize qU F L.length r=F1 at*
   rw [fJ (r:=dB m n (nF p F1 L.length s)) (fun x=>(dB m n (uH p F1 L.length s x),(x:Int))) n ?_ (fun x hx=>?_) (fun _=>?_),Option.bind_some]
   ·have h2:=aGq hp (k:=L.length) (s:=s) h1
    generalize nF p F1 L.length s=F2 at*
    rw [fJ (r:=dB m n (rZ p F2 L.length j)) (fun x=>(dB m n (hO p F2 L.length j x),(x:Int))) m ?_ (fun x hx=>?_) (fun _=>?_),Option.bind_some]
    ·rw [decide_eq_true (by simp;omega),cond_true]
     simp [qX]
    ·congr 1
    ·unfold nV
     simp only [kS]
     rw [nD hx,cond_true]
     by_cases hxk:x=L.length
     ·rw [decide_eq_true (by omega),Bool.not_true,cond_false,dO hx (by omega),hxk,aGr]
     ·rw [decide_eq_false (by omega),Bool.not_false,cond_true,aFG hN hm hx,Option.bind_some,Option.bind_some,qE hN hx,sP hN hm hx,qE hN hk,sP hN hm hk]
      simp only [Int.toNat_natCast,Nat.add_sub_cancel_left,Nat.zero_add]
      rw [nD hj,gd,cond_true,kI _ hx hj,Option.bind_some]
      have e2:hO p F2 L.length j x x j=F2 x j:=by simp [hO]
      have h3:=h2 x j hx hj
      have h4:=aLT hp (k:=L.length) (j:=j) (x:=x) h2
      rw [e2,gV (by omega),aLS hp hn hx hk hxk (by omega) (fun b hb=>h4 _ b hx hb) (fun b hb=>h4 _ b hk hb),Option.bind_some,gO,gO,decide_eq_true rfl,cond_true,dO hx (by omega),aMi hp hxk]
    ·unfold nV
     simp only
     rw [qZ (Nat.le_refl _),cond_false]
     congr 2
     exact cY fun a b ha hb=>by simp only [hO];rw [if_pos ha]
   ·congr 1
   ·unfold nU
    simp only [kS]
    rw [qE hN hk,sP hN hm hk]
    simp only [Int.toNat_natCast,Nat.add_sub_cancel_left,Nat.zero_add]
    have g1:=h1 _ x hk hx
    have g2:=aHZ (a:=F1 L.length x) (b:=s) (by omega) (by omega)
    rw [nD hx,cond_true,gd,cond_true,kI _ hk hx,Option.bind_some,aOY hp,cond_true,cond_true,Option.bind_some,aFI,gV (by omega),Int.tmod_eq_emod_of_nonneg g2.1,wZ _ _ hk hx,dO hx (by omega),aFJ]
   ·unfold nU
    simp only [kS]
    rw [qE hN hk,sP hN hm hk]
    simp only [Int.toNat_natCast,Nat.add_sub_cancel_left,Nat.zero_add]
    rw [qZ (Nat.le_refl _),cond_false]
    congr 2
    exact cY fun a b ha hb=>by simp only [uH];rw [if_pos hb]
  ·congr 1
  ·unfold nT
   simp only [kS]
   rw [nD hx,cond_true,aFG hN hm hrm,Option.bind_some,Option.bind_some,qE hN hk,sP hN hm hk,qE hN hrm,sP hN hm hrm]
   simp only [Int.toNat_natCast,Nat.add_sub_cancel_left,Nat.zero_add]
   rw [nD hx,gd,cond_true,kI _ hrm hx,Option.bind_some,cond_true,kI _ hk hx,Option.bind_some,cond_true,Option.bind_some,cond_true,wZ _ _ hk hx,kI _ hrm hx,Option.bind_some,wZ _ _ hrm hx,aAO,aAO,dO hx (by omega),aGp]
  ·unfold nT
   simp only
   rw [qZ (Nat.le_refl _),cond_false]
   congr 2
   exact cY fun a b ha hb=>by simp only [yC];rw [if_pos hb]
theorem aHd {p:Int} {m n:Nat} {F:Nat→Nat→Int} (T:Tb p m n F):tC p ⟨m,n,dB m n F⟩=some (⟨m,n,dB m n (cV p m F n).1⟩,qX (cV p m F n).2):=by
 have hN:=T.hN
 have hn:=T.hn
 unfold tC oN rH
 simp only
 rw [gO,decide_eq_true hN,cond_true,Option.bind_some,Option.bind_some]
 simp only
 rw [fJ (r:=(dB m n (cV p m F n).1,qX (cV p m F n).2)) (fun j=>((j:Int),dB m n (cV p m F j).1,qX (cV p m F j).2)) n (by simp [cV,qX]) (fun j hj=>?_) (fun _=>?_),Option.bind_some]
 ·show _=some (Sum.inl (((j+1:Nat):Int),dB m n (fU p m (cV p m F j) j).1,qX (fU p m (cV p m F j) j).2):(Int×List Int×List Int) ⊕ (List Int×List Int))
  exact aNn ⟨T.hp,T.hN,T.hm,T.hn,oS (by have:=fT T.hp;omega) T.hi j⟩ hj _ (qV j) _
 ·unfold kQ
  simp only
  rw [qZ (Nat.le_refl _),cond_false]
theorem aOa {p:Int} {m n:Nat} {F:Nat→Nat→Int} (T:Tb p m n F) {j:Nat} (hj:j<n) (L:List Nat) (hL:L.length<m) (l:List Int):
  Lp (iO ⟨m,n,l⟩ ((j:Int),dB m n F,qX L,(L.length:Int))) (-1,wr ((m:Int) - 1))=some (if iD F j (m - L.length) L.length=m then -1 else ((iD F j (m - L.length) L.length:Nat):Int)):=by
 obtain ⟨hp,hN,hm,hn,hi⟩:=T
 refine fJ (fun t=>(if iD F j t (m - t)=m then -1 else ((iD F j t (m - t):Nat):Int),((m - t:Nat):Int) - 1)) (m - L.length) ?_ (fun t ht=>?_) (fun _=>?_)
 ·simp only [iD,Nat.sub_zero,if_true]
  rw [gV (by omega)]
 ·unfold iO
  simp only
  have e:((m - t:Nat):Int) - 1=((m - (t+1):Nat):Int):=by omega
  have hi2:m - (t+1)<m:=by omega
  rw [e,decide_eq_true (by omega),cond_true,atT hN hi2 hj,Option.bind_some,gV (x:=((m - (t+1):Nat):Int) - 1) (by omega)]
  have ep:iD F j (t+1) (m - (t+1))=if F (m - (t+1)) j=0 then iD F j t (m - t) else m - (t+1):=by
   rw [iD,show m - (t+1)+1=m - t by omega]
  rw [ep]
  by_cases h:F (m - (t+1)) j=0
  ·rw [decide_eq_true h,Bool.not_true,cond_false,if_pos h]
  ·rw [decide_eq_false h,Bool.not_false,cond_true,if_neg h,if_neg (by omega)]
 ·rw [show m - (m - L.length)=L.length by omega]
  unfold iO
  simp only
  rw [decide_eq_false (by omega),cond_false]
theorem aNo {p:Int} {m n:Nat} {F:Nat→Nat→Int} (T:Tb p m n F) {j:Nat} (hj:j<n) (L:List Nat) (hL:L.length<m) (l:List Int):
  eH p ⟨m,n,l⟩ ((j:Int),dB m n F,qX L,(L.length:Int))=some (.inl (((j+1:Nat):Int),dB m n (fU p m (F,L) j).1,qX (fU p m (F,L) j).2,((fU p m (F,L) j).2.length:Int))):=by
 have hpv:=aOa T hj L hL l
 obtain ⟨hp,hN,hm,hn,hi⟩:=T
 have hb:=fT hp
 have hle:= @uW F j (m - L.length) L.length
 unfold eH fU
 simp only
 rw [nD hj,cond_true,nD hL,cond_true,hpv,Option.bind_some,dO hj (by omega)]
 clear hpv
 generalize iD F j (m - L.length) L.length=r at*
 have hk:L.length<m:=hL
 by_cases hr:r=m
 ·rw [if_pos hr,if_pos hr,decide_eq_true (by omega),cond_true]
 ·rw [if_neg hr,if_neg hr,decide_eq_false (by omega),cond_false]
  have hrm:r<m:=by omega
  rw [fJ (r:=dB m n (qU F L.length r)) (fun x=>(dB m n (yC F L.length r x),(x:Int))) n ?_ (fun x hx=>?_) (fun _=>?_),Option.bind_some,atT hN hk hj,Option.bind_some]
  ·have e1:qU F L.length r L.length j=F r j:=by simp [qU]
   have hrj:=hi r j hrm hj
   rw [e1,aLP hp (by omega),Option.bind_some,Int.emod_eq_of_lt hrj.1 hrj.2]
   have hs:=aKf hp hrj
   rw [aFK]
   generalize wY p (F r j)=s at*
   have h1:=aIf hi hk hrm
   generalize qU F L.length r=F1 at*
   rw [fJ (r:=dB m n (nF p F1 L.length s)) (fun x=>(dB m n (uH p F1 L.length s x),(x:Int))) n ?_ (fun x hx=>?_) (fun _=>?_),Option.bind_some]
   ·have h2:=aGq hp (k:=L.length) (s:=s) h1
    generalize nF p F1 L.length s=F2 at*
    rw [fJ (r:=dB m n (rZ p F2 L.length j)) (fun x=>(dB m n (hO p F2 L.length j x),(x:Int))) m ?_ (fun x hx=>?_) (fun _=>?_),Option.bind_some]
    ·rw [kS,decide_eq_true (by simp;omega),cond_true,dO hk (by omega)]
     simp [qX]
    ·congr 1
    ·unfold gH
     simp only
     rw [nD hx,cond_true,atT hN hx hj,Option.bind_some,dO hx (by omega)]
     have e2:hO p F2 L.length j x x j=F2 x j:=by simp [hO]
     rw [e2]
     by_cases hxk:x=L.length
     ·rw [sZ (r:=dB m n (hO p F2 L.length j x)) ?_,Option.bind_some,hxk,aGr]
      unfold iP
      simp only
      rcases Nat.eq_zero_or_pos n with h0|h0
      ·omega
      ·rw [decide_eq_true (by omega),cond_true,decide_eq_true (by omega),Bool.not_true,cond_false]
     ·rw [fJ (r:=dB m n (hO p F2 L.length j (x+1))) (fun y=>(dB m n (fun a c=>if a=x∧c<y then rZ p F2 L.length j x c else hO p F2 L.length j x a c),(y:Int))) n (by simp) (fun y hy=>?_) (fun _=>?_),Option.bind_some]
      ·unfold iP
       simp only
       rw [nD hy,cond_true,decide_eq_false (by omega),Bool.not_false,cond_true,atT hN hx hy,Option.bind_some,atT hN hk hy,Option.bind_some]
       have e3:hO p F2 L.length j x x y=F2 x y:=by simp [hO]
       have e4:hO p F2 L.length j x L.length y=F2 L.length y:=by simp [hO,rZ]
       rw [if_neg (by omega),if_neg (by omega),e3,e4]
       have g1:=h2 x j hx hj
       have g2:=h2 L.length y hk hy
       have g3:=h2 x y hx hy
       have g4:=aHZ (a:=F2 x j) (b:=F2 L.length y) (by omega) (by omega)
       rw [gV (x:=F2 x j*F2 L.length y) (by omega),gV (x:=F2 x y - F2 x j*F2 L.length y) (by omega),aBz hp (by omega),Option.bind_some,Option.bind_some,aLR hN hx hy,dO hy (by omega)]
       congr 3
       refine cY fun a c ha hc=>?_
       simp only [aCe]
       by_cases e5:a=x∧c=y
       ·rw [if_pos e5,if_pos (by omega),e5.2]
        simp only [rZ]
        rw [if_neg hxk]
       ·rw [if_neg e5]
        by_cases e6:a=x∧c<y
        ·rw [if_pos e6,if_pos (by omega)]
        ·rw [if_neg e6,if_neg (by omega)]
      ·unfold iP
       simp only
       rw [qZ (Nat.le_refl _),cond_false]
       congr 2
       refine cY fun a c ha hc=>?_
       simp only [hO]
       by_cases e5:a=x
       ·rw [if_pos ⟨e5,hc⟩,if_pos (by omega),e5]
       ·rw [if_neg (by omega)]
        by_cases e6:a<x
        ·rw [if_pos e6,if_pos (by omega)]
        ·rw [if_neg e6,if_neg (by omega)]
    ·unfold gH
     simp only
     rw [qZ (Nat.le_refl _),cond_false]
     congr 2
     exact cY fun a b ha hb=>by simp only [hO];rw [if_pos ha]
   ·congr 1
   ·unfold lG
    simp only
    have g1:=h1 _ x hk hx
    have g2:=aHZ (a:=F1 L.length x) (b:=s) (by omega) (by omega)
    rw [nD hx,cond_true,atT hN hk hx,Option.bind_some,aFI,Int.mul_comm,gV (by omega),aBz hp (by omega),Option.bind_some,Option.bind_some,aLR hN hk hx,dO hx (by omega),aFJ]
   ·unfold lG
    simp only
    rw [qZ (Nat.le_refl _),cond_false]
    congr 2
    exact cY fun a b ha hb=>by simp only [uH];rw [if_pos hb]
  ·congr 1
  ·unfold lF
   simp only
   rw [nD hx,cond_true,atT hN hk hx,Option.bind_some,atT hN hrm hx,Option.bind_some,Option.bind_some,aLR hN hk hx,atT hN hrm hx,Option.bind_some,aLR hN hrm hx,aAO,aAO,dO hx (by omega),aGp]
  ·unfold lF
   simp only
   rw [qZ (Nat.le_refl _),cond_false]
   congr 2
   exact cY fun a b ha hb=>by simp only [yC];rw [if_pos hb]
theorem aHe {p:Int} {m n:Nat} {F:Nat→Nat→Int} (T:Tb p m n F):jI p ⟨m,n,dB m n F⟩=some (⟨m,n,dB m n (cV p m F n).1⟩,qX (cV p m F n).2):=by
 have hN:=T.hN
 have hn:=T.hn
 unfold jI wO
 simp only
 rw [gO,decide_eq_true (by simp;omega),cond_true,Option.bind_some]
 simp only [List.nil_append]
 obtain ⟨r,h1,h2⟩: ∃ r,Lp (eH p ⟨m,n,dB m n F⟩) (0,dB m n F,[],0)=some r∧r=(dB m n (cV p m F n).1,qX (cV p m F n).2):=by
  refine aKU (fun s=> ∃ j:Nat,j≤n∧s=((j:Int),dB m n (cV p m F j).1,qX (cV p m F j).2,((cV p m F j).2.length:Int))) (fun s=>n - s.1.toNat) _ ⟨0,Nat.zero_le _,by simp [cV,qX]⟩ ?_
  rintro s ⟨j,hj,rfl⟩
  rcases Nat.lt_or_ge j n with hlt|hge
  ·have hlen:= @qV p m F j
   rcases Nat.lt_or_ge (cV p m F j).2.length m with hl|hl
   ·refine .inl ⟨_,aNo ⟨T.hp,T.hN,T.hm,T.hn,oS (by have:=fT T.hp;omega) T.hi j⟩ hlt _ hl _,⟨j+1,hlt,rfl⟩,?_⟩
    simp;omega
   ·refine .inr ⟨_,?_,rfl⟩
    unfold eH
    simp only
    have e:=aFH (p:=p) (F:=F) (j:=j) (by omega:(cV p m F j).2.length=m) (n - j)
    rw [show j+(n - j)=n by omega] at e
    rw [nD hlt,cond_true,qZ hl,cond_false,e]
  ·have e:j=n:=by omega
   subst e
   refine .inr ⟨_,?_,rfl⟩
   unfold eH
   simp only
   rw [qZ (Nat.le_refl _),cond_false]
 rw [h1,h2,Option.bind_some]
end
noncomputable section
set_option maxRecDepth 10000
set_option maxHeartbeats 4000000
def jA (v1:Mt) (v3:(List Int)) (x1:((List Int)×Int)) (x2:((List Int)×Int)):Option (((List Int)×Int) ⊕ (List Int)):=
 bif decide (x2.2<(v3.length:Int)) then
 (Option.bind (dX v3 x2.2) fun v5=>
 Option.bind (dX x2.1 (wr ((wr (x2.2*v1.cols))+x1.2))) fun v6=>
 some (.inl ((x2.1.set ((wr ((wr (x2.2*v1.cols))+x1.2)).toNat) v5),wr (x2.2+1))))
 else
 (some (.inr x2.1))
def jB (a1:(List (List Int))) (v1:Mt) (x1:((List Int)×Int)):Option (((List Int)×Int) ⊕ (List Int)):=
 bif decide (x1.2<(a1.length:Int)) then
 (Option.bind (dX a1 x1.2) fun v3=>
 Option.bind (Lp (jA v1 v3 x1) (x1.1,0)) fun y7=>
 some (.inl (y7,wr (x1.2+1))))
 else
 (some (.inr x1.1))
def iR (a0:Int) (a1:(List (List Int))):Option Mt:=
 Option.bind (qW a0 (a1.length:Int)) fun v1=>
 Option.bind (Lp (jB a1 v1) (v1.cells,0)) fun y8=>
 some ((⟨v1.rows,v1.cols,y8⟩:Mt))
theorem aBB (a0:Int) (a1:(List (List Int))) (r:Mt) (h:iR a0 a1=some r):HasC Tryz.prog 155 [.int a0,.list 1 (List.map (dD 1 eI) a1)] (.agg (eM r)):=by
 refine bN aA (rvs:=[.cell 4 113]) (ns:=[0,1,2,3,4]) Tryz.func155 k k Tryz.ntmps155 k k k<|sQ<|rg<|ae (bU aA k k) k<|an<|tn<|sQ<|rg<|am k k<|am k k ?_
 refine ae (dK aA k k k) k ?_
 obtain ⟨v1,hv1,h⟩:=ob h
 refine ae (AEff.conv (cO (x:= .agg [.int v1.rows,.int v1.cols,.own 1 0 (List.map eI v1.cells).length]) (nb:=[(1,⟨1,cU (List.map eI v1.cells)⟩)]) (zF a0 (a1.length:Int) v1 hv1) k (by rfl) k k (bX trivial (bX trivial (bX (eD.good _) gF))) (aG (aL k) (aG (aL k) bB))) (v':= .agg [.int v1.rows,.int v1.cols,.own 1 0 v1.cells.length]) (ed':=[(1,some ⟨1,List.map (ow eI) v1.cells⟩)]) (by simp only [bD]) (eN (nb':=[(1,⟨1,List.map (ow eI) v1.cells⟩)]) (by simp only [cR]))) k<|ae (bU aA k k) k<|ae (bO aA k k k k k k k k) k<|an<|tn<|sQ<|sQ<|rg<|am k k<|ae (dK aA k k k) k ?_
 refine am k k<|an<|tn<|aP ?_
 obtain ⟨y8,hy8,h⟩:=ob h
 refine cW (body:=(jB a1 v1)) hy8 (fun (x1:((List Int)×Int))=>bW [(4,.ptr 0 0 0),(5,.ptr 1 0 0),(14,.list 1 (List.map (dD 1 eI) a1)),(15,.int (a1.length:Int)),(16,.int x1.2)] [(0,⟨3,[[.int 0,.int 0,.nil 1]]⟩),(1,⟨3,[[.int v1.rows,.int v1.cols,.own 2 0 x1.1.length]]⟩),(2,⟨1,List.map (ow eI) x1.1⟩)] 3 [3,4]) (fun r e t=>e= .exit 0∧Ent t (bW [(4,.ptr 0 0 0),(5,.ptr 1 0 0)] [(0,⟨3,[[.int 0,.int 0,.nil 1]]⟩),(1,⟨3,[[.int v1.rows,.int v1.cols,.own 2 0 r.length]]⟩),(2,⟨1,List.map (ow eI) r⟩)] 3 [3,4])) (aE (σ:=sg [(0,0),(1,2),(2,1)]) ⟨(pE k k),(pE k k),⟨_,k,⟨k,k⟩⟩,(e1 k k),(e1 k k),trivial⟩ (hP k k k k<|hX ⟨_,k,k,.inr ⟨_,_,k,⟨_,_,k,k,⟨_,_,k,k,⟨_,_,k,⟨k,k,k,k⟩,k⟩⟩⟩,k⟩⟩ k<|hI k k k<|trivial) k) ?_ ?_
 ·intro x1 o h
  refine sQ<|rg<|ae (bE k k k) k<|an<|tn<|sQ ?_
  rcases cb h with ⟨q2,h⟩|⟨q2,h⟩
  ·refine aK k q2<|aS<|tn<|sQ<|aP<|sQ<|rg<|am k k ?_
   obtain ⟨v3,hv3,h⟩:=ob h
   refine ae (bJ aA hv3 k k k k k k) k<|ae (aV aA k k k k k k) k<|aa k k<|aa k k<|an<|tn<|sQ<|rg<|am k k<|ae (dK aA k k k) k ?_
   refine am k k<|an<|tn<|aP ?_
   obtain ⟨y7,hy7,h⟩:=ob h
   refine cW (body:=(jA v1 v3 x1)) hy7 (fun (x2:((List Int)×Int))=>bW [(4,.ptr 0 0 0),(5,.ptr 1 0 0),(6,.int x1.2),(14,.list 1 (List.map (dD 1 eI) a1)),(15,.int (a1.length:Int)),(16,.int x1.2),(21,.list 1 (List.map eI v3)),(22,.int (v3.length:Int)),(23,.int x2.2)] [(0,⟨3,[[.int 0,.int 0,.nil 1]]⟩),(1,⟨3,[[.int v1.rows,.int v1.cols,.own 2 0 x2.1.length]]⟩),(2,⟨1,List.map (ow eI) x2.1⟩)] 3 [3,4]) (fun r e t=>e= .exit 2∧Ent t (bW [(4,.ptr 0 0 0),(5,.ptr 1 0 0),(14,.list 1 (List.map (dD 1 eI) a1)),(15,.int (a1.length:Int)),(16,.int x1.2)] [(0,⟨3,[[.int 0,.int 0,.nil 1]]⟩),(1,⟨3,[[.int v1.rows,.int v1.cols,.own 2 0 r.length]]⟩),(2,⟨1,List.map (ow eI) r⟩)] 3 [3,4])) (aE (σ:=sg [(0,0),(1,1),(2,2)]) ⟨(pE k k),(pE k k),(e1 k k),⟨_,k,⟨k,k⟩⟩,(e1 k k),(e1 k k),⟨_,k,⟨k,k⟩⟩,(e1 k k),(e1 k k),trivial⟩ (hP k k k k<|hX ⟨_,k,k,.inr ⟨_,_,k,⟨_,_,k,k,⟨_,_,k,k,⟨_,_,k,⟨k,k,k,k⟩,k⟩⟩⟩,k⟩⟩ k<|hI k k k<|trivial) k) ?_ ?_
   ·intro x2 o h
    refine sQ<|rg<|ae (bE k k k) k<|an<|tn<|sQ ?_
    rcases cb h with ⟨q4,h⟩|⟨q4,h⟩
    ·refine aK k q4<|aS<|tn<|sQ<|aP<|sQ<|rg<|am k k ?_
     obtain ⟨v5,hv5,h⟩:=ob h
     refine ae (bJ aA hv5 k k k k k k) k<|ae (aV aA k k k k k k) k<|aa k k<|aa k k<|an<|tn<|rg<|ae (aD aA k k k k k k k) k<|ae (aC aA k k k k k k k) k<|am k k ?_
     refine ae (aD aA k k k k k k k) k<|ae (aC aA k k k k k k k) k<|ae (gB k k) k<|am k k<|ae (bZ k k) k<|am k k ?_
     obtain ⟨v6,hv6,h⟩:=ob h
     refine ae (cX aA (eT hv6) (eU hv6) k k k k k k k) k<|ae (iB aA sI (u:=v5) (dQ hv6) k k k k k k) k<|an<|bF<|tn<|aQ (t:=bW [(4,.ptr 0 0 0),(5,.ptr 1 0 0),(6,.int x1.2),(14,.list 1 (List.map (dD 1 eI) a1)),(15,.int (a1.length:Int)),(16,.int x1.2),(21,.list 1 (List.map eI v3)),(22,.int (v3.length:Int)),(23,.int x2.2)] [(0,⟨3,[[.int 0,.int 0,.nil 1]]⟩),(1,⟨3,[[.int v1.rows,.int v1.cols,.own 2 0 ((x2.1.set ((wr ((wr (x2.2*v1.cols))+x1.2)).toNat) v5).length)]]⟩),(2,⟨1,List.map (ow eI) (x2.1.set ((wr ((wr (x2.2*v1.cols))+x1.2)).toNat) v5)⟩)] 3 [3,4]) (aE (σ:=sg [(0,0),(1,1),(2,2)]) ⟨(pE k k),(pE k k),(e1 k k),⟨_,k,⟨k,k⟩⟩,(e1 k k),(e1 k k),⟨_,k,⟨k,k⟩⟩,(e1 k k),(e1 k k),trivial⟩ (hP k k k k<|hX ⟨_,k,k,.inr ⟨_,_,k,⟨_,_,k,k,⟨_,_,k,k,⟨_,_,k,⟨k,k,(by simp only [bD,lA,lT,lR,lC,lN]),k⟩,k⟩⟩⟩,k⟩⟩ k<|hI k k k<|trivial) k)<|rg<|ae (bZ k k) k<|am k k<|an ?_
     refine tn ?_
     obtain rfl:=so h
     exact ⟨_,k,(aE (σ:=sg [(0,0),(1,1),(2,2)]) ⟨(pE k k),(pE k k),(e1 k k),⟨_,k,⟨k,k⟩⟩,(e1 k k),(e1 k k),⟨_,k,⟨k,k⟩⟩,(e1 k k),(e1 k k),trivial⟩ (hP k k k k<|hX ⟨_,k,k,.inr ⟨_,_,k,⟨_,_,k,k,⟨_,_,k,k,⟨_,_,k,⟨k,k,k,k⟩,k⟩⟩⟩,k⟩⟩ k<|hI k k k<|trivial) k)⟩
    ·refine aR k q4<|bG<|aH<|aH ?_
     obtain rfl:=so h
     exact ⟨_,k,k,(aE (σ:=sg [(0,0),(1,1),(2,2)]) ⟨(pE k k),(pE k k),⟨_,k,⟨k,k⟩⟩,(e1 k k),(e1 k k),trivial⟩ (hP k k k k<|hX ⟨_,k,k,.inr ⟨_,_,k,⟨_,_,k,k,⟨_,_,k,k,⟨_,_,k,⟨k,k,k,k⟩,k⟩⟩⟩,k⟩⟩ k<|hI k k k<|trivial) k)⟩
   ·rintro e t ⟨rfl,hent⟩
    refine aW<|bF<|tn<|aQ hent<|rg<|ae (bZ k k) k<|am k k<|an<|tn ?_
    obtain rfl:=so h
    exact ⟨_,k,(aE (σ:=sg [(0,0),(1,1),(2,2)]) ⟨(pE k k),(pE k k),⟨_,k,⟨k,k⟩⟩,(e1 k k),(e1 k k),trivial⟩ (hP k k k k<|hX ⟨_,k,k,.inr ⟨_,_,k,⟨_,_,k,k,⟨_,_,k,k,⟨_,_,k,⟨k,k,k,k⟩,k⟩⟩⟩,k⟩⟩ k<|hI k k k<|trivial) k)⟩
  ·refine aR k q2<|bG<|aH<|aH ?_
   obtain rfl:=so h
   exact ⟨_,k,k,(aE (σ:=sg [(0,0),(1,1),(2,2)]) ⟨(pE k k),(pE k k),trivial⟩ (hP k k k k<|hX ⟨_,k,k,.inr ⟨_,_,k,⟨_,_,k,k,⟨_,_,k,k,⟨_,_,k,⟨k,k,k,k⟩,k⟩⟩⟩,k⟩⟩ k<|hI k k k<|trivial) k)⟩
 ·rintro e t ⟨rfl,hent⟩
  refine aW<|tn<|aQ hent<|sQ<|rg<|ae (aC aA k k k k k k k) k<|ae (bO aA k k k k k k k k) k<|an<|tn<|aO ?_
  obtain rfl:=so h
  exact aU k k k (oK (cB (k) (cB (k) (cB (iM eD k k) gP))))
end
noncomputable section
set_option maxRecDepth 10000
set_option maxHeartbeats 4000000
end
noncomputable section
def dN (r:Rp) (k:Nat):Nat:=(r.dims[k]?.getD 0).toNat
theorem aMj {r:Rp} (h:aCv r=true):kB r.p=true∧aDe r.q r.dims=true∧r.maps.length=r.q.src.length∧ ∀ k,k<r.maps.length→aAU r.p (r.maps[k]?.getD ⟨0,0,[]⟩)=true∧(r.maps[k]?.getD ⟨0,0,[]⟩).cols=r.dims[(r.q.src[k]?.getD 0).toNat]?.getD 0∧(r.maps[k]?.getD ⟨0,0,[]⟩).rows=r.dims[(r.q.tgt[k]?.getD 0).toNat]?.getD 0:=by
 unfold aCv at h
 simp only [Bool.and_eq_true,decide_eq_true_eq,sH] at h
 exact ⟨h.1,h.2.1,by omega,h.2.2.2⟩
theorem aIg (c:Nat) (f:Nat→Nat→Int): ∀ n,((List.range n).map fun i=>kR c (f i)).flatten=dB n c f
 |0=>by simp [dB]
 |n+1=>by
  rw [List.range_succ,List.map_append,List.flatten_append,aIg c f n]
  unfold dB
  rw [Nat.succ_mul,List.range_add,List.map_append]
  congr 1
  simp only [List.map_cons,List.map_nil,List.flatten_cons,List.flatten_nil,List.append_nil,List.map_map,kR]
  refine List.map_congr_left fun j hj=>?_
  have hj:=List.mem_range.1 hj
  simp only [Function.comp]
  rw [aEr hj,aEs hj]
theorem aGs {l:List (List Int)} (h: ∀ x∈l,x.length≤1024):l.flatten.length≤1024*l.length:=by
 induction l with
 |nil=>simp
 |cons x l ih=>
  have h1:=h x (by simp)
  have h2:=ih fun y hy=>h y (by simp [hy])
  simp only [List.flatten_cons,List.length_append,List.length_cons]
  omega
theorem uR {l:List (List Int)} {k:Nat} (hk:k<l.length):(l.take (k+1)).flatten=(l.take k).flatten++l[k]:=by
 rw [List.take_succ_eq_append_getElem hk,List.flatten_append];simp
theorem aMk {l:List (List Int)} (hl:l.length≤512) (h: ∀ x∈l,x.length≤1024):gL l=some l.flatten:=by
 have hb: ∀ k,(l.take k).flatten.length ≤1024*512:=fun k=>by
  have:=aGs (l:=l.take k) fun x hx=>h x (List.mem_of_mem_take hx)
  have h2:(l.take k).length ≤512:=by simp;omega
  omega
 unfold gL
 rw [fJ (r:=(l.flatten.length:Int)) (fun k=>(((l.take k).flatten.length:Int),(k:Int))) l.length (by simp) (fun k hk=>?_) (fun _=>?_),Option.bind_some]
 ·have e:=hb l.length
  rw [List.take_length] at e
  unfold aJh
  rw [decide_eq_true (by omega),decide_eq_true (by omega:(l.flatten.length:Int)≤1048576),Bool.and_self,cond_true,Option.bind_some]
  rw [fJ (r:=l.flatten) (fun k=>((l.take k).flatten,(k:Int))) l.length (by simp) (fun k hk=>?_) (fun _=>?_),Option.bind_some]
  ·unfold fN
   simp only
   have e2:=hb (k+1)
   rw [uR hk,List.length_append] at e2
   rw [nD hk,cond_true,fS hk,Option.bind_some,decide_eq_true (by omega),cond_true,dO hk (by omega),uR hk]
  ·unfold fN
   simp only
   rw [qZ (Nat.le_refl _),cond_false,List.take_length]
 ·unfold fL
  simp only
  have e2:=hb (k+1)
  rw [uR hk,List.length_append] at e2
  rw [nD hk,cond_true,fS hk,Option.bind_some,gV (x:=_+_) (by omega),decide_eq_false (by omega),cond_false,dO hk (by omega),uR hk,List.length_append,Int.natCast_add (List.take k l).flatten.length l[k].length]
 ·unfold fL
  simp only
  rw [qZ (Nat.le_refl _),cond_false,List.take_length]
end
noncomputable section
open Go.ChangeShapes Go.WideShapes Go.ChangeAt Go.RowKit
theorem oI:vA Tryz.prog 3 (wN 1 eI):=aJe Tryz.underlying3
theorem oL:vA Tryz.prog 22 (wN 1 eL):=aBo Tryz.underlying22 (by decide) (by kernel_rfl) oI
theorem oQ:vA Tryz.prog 24 (wN 3 eQ):=by
 intro H enc w fuel cs d ps h hf
 obtain ⟨x0,T0,u0⟩:=mE Tryz.underlying24 h hf aFA (i:=0) (ft:=3) rfl (k:=1) (by kernel_rfl) oI
 obtain ⟨x1,T1,u1⟩:=mE Tryz.underlying24 h hf u0 (i:=1) (ft:=22) rfl (k:=1) (by kernel_rfl) oL
 obtain ⟨x2,T2,u2⟩:=mE Tryz.underlying24 h hf u1 (i:=2) (ft:=22) rfl (k:=1) (by kernel_rfl) oL
 exact ⟨⟨x0,x1,x2⟩,_,aFB Tryz.underlying24 h hf u2 (by kernel_rfl) _ rfl⟩
theorem oM:vA Tryz.prog 111 (wN 3 eM):=by
 intro H enc w fuel cs d ps h hf
 obtain ⟨x0,T0,u0⟩:=mE Tryz.underlying111 h hf aFA (i:=0) (ft:=3) rfl (k:=1) (by kernel_rfl) oI
 obtain ⟨x1,T1,u1⟩:=mE Tryz.underlying111 h hf u0 (i:=1) (ft:=3) rfl (k:=1) (by kernel_rfl) oI
 obtain ⟨x2,T2,u2⟩:=mE Tryz.underlying111 h hf u1 (i:=2) (ft:=22) rfl (k:=1) (by kernel_rfl) oL
 exact ⟨⟨x0,x1,x2⟩,_,aFB Tryz.underlying111 h hf u2 (by kernel_rfl) _ rfl⟩
theorem oMs:vA Tryz.prog 25 (wN 1 (fun l:List Mt=>[.list 3 (l.map eM)])):=aBo Tryz.underlying25 (by decide) (by kernel_rfl) oM
theorem oR:vA Tryz.prog 27 (wN 6 eR):=by
 intro H enc w fuel cs d ps h hf
 obtain ⟨x0,T0,u0⟩:=mE Tryz.underlying27 h hf aFA (i:=0) (ft:=3) rfl (k:=1) (by kernel_rfl) oI
 obtain ⟨x1,T1,u1⟩:=mE Tryz.underlying27 h hf u0 (i:=1) (ft:=24) rfl (k:=3) (by kernel_rfl) oQ
 obtain ⟨x2,T2,u2⟩:=mE Tryz.underlying27 h hf u1 (i:=2) (ft:=22) rfl (k:=1) (by kernel_rfl) oL
 obtain ⟨x3,T3,u3⟩:=mE Tryz.underlying27 h hf u2 (i:=3) (ft:=25) rfl (k:=1) (by kernel_rfl) oMs
 exact ⟨⟨x0,x1,x2,x3⟩,_,aFB Tryz.underlying27 h hf u3 (by kernel_rfl) _ rfl⟩
end
noncomputable section
theorem aKg {w:World} : ∀ {ds:List AV} {vs:List Value} {S:List Nat},RepVs w ds vs S→ ∀ d∈ds,∃ v S',RepD w d v S'
 | [],_,_,_,d,hd=>by cases hd
 |c::cs,vs,S,h,d,hd=>by
  simp only [RepVs] at h
  obtain ⟨v,r,S1,S2,_,_,h3,h4⟩:=h
  rcases List.mem_cons.1 hd with rfl|h'
  ·exact ⟨v,S1,h3⟩
  ·exact aKg h4 d h'
theorem aKh {w:World} {b:Nat} : ∀ {ds:List AV} {o:Nat} {S:List Nat},RepCs w b o ds S→ ∀ d∈ds,∃ v S',RepD w d v S'
 | [],_,_,_,d,hd=>by cases hd
 |c::cs,o,S,h,d,hd=>by
  simp only [RepCs] at h
  obtain ⟨v,S1,S2,_,_,_,_,h3,h4⟩:=h
  rcases List.mem_cons.1 hd with rfl|h'
  ·exact ⟨v,S1,h3⟩
  ·exact aKh h4 d h'
theorem aKi {w:World} {k b:Nat} : ∀ {es:List (List AV)} {o:Nat} {S:List Nat},RepEs w k b o es S→ ∀ cs∈es,∀ d∈cs,∃ v S',RepD w d v S'
 | [],_,_,_,cs,hc=>by cases hc
 |c::es,o,S,h,cs,hc=>by
  simp only [RepEs] at h
  obtain ⟨S1,S2,_,_,h3,h4⟩:=h
  rcases List.mem_cons.1 hc with rfl|h'
  ·exact aKh h3
  ·exact aKi h4 cs h'
theorem aKj {w:World} {k:Nat} {es:List (List AV)} {v:Value} {S:List Nat} (h:RepD w (.list k es) v S):es.length≤9223372036854775807∧ ∀ cs∈es,∀ d∈cs,∃ v S',RepD w d v S':=by
 unfold RepD at h
 obtain ⟨a,c,_,h2,h3,h4⟩:=h
 have hm:maxLen≤9223372036854775807:=by decide
 refine ⟨by omega,?_⟩
 rcases h4 with ⟨rfl,_⟩|⟨b,o,T,_,_,_,h5⟩
 ·intro cs hcs;cases hcs
 ·exact aKi h5
theorem aOG {w:World} {l:List Int} {v:Value} {S:List Nat} (h:RepD w (aHM l) v S):fI l:=by
 have:=(aKj (k:=1) (es:=List.map eI l) h).1
 rwa [List.length_map] at this
theorem aHf {w:World} {ds:List AV} (h: ∀ d∈ds,∃ v S',RepD w d v S') {l:List Int} (hl:aHM l∈ds):fI l:=by
 obtain ⟨v,S,h⟩:=h _ hl
 exact aOG h
theorem aMl {w:World} {ds:List AV} (h: ∀ d∈ds,∃ v S',RepD w d v S') {α:Type} {k:Nat} {e:α→List AV} {l:List α} (hl:AV.list k (l.map e)∈ds):fI l∧ ∀ x∈l,∀ d∈e x,∃ v S',RepD w d v S':=by
 obtain ⟨v,S,h⟩:=h _ hl
 have:=aKj h
 rw [List.length_map] at this
 exact ⟨this.1,fun x hx=>this.2 _ (List.mem_map.2 ⟨x,hx,rfl⟩)⟩
theorem aOz {w:World} {m:Mt} (h: ∀ d∈eM m,∃ v S',RepD w d v S'):fM m:=aHf h (by simp [eM])
theorem aOb {w:World} {l:List Mt} {ds:List AV} (h: ∀ d∈ds,∃ v S',RepD w d v S') (hl:AV.list 3 (l.map eM)∈ds):fMs l:=by
 obtain ⟨h1,h2⟩:=aMl h hl
 exact ⟨h1,fun m hm=>aOz (h2 m hm)⟩
theorem aPA {w:World} {r:Rp} (h: ∀ d∈eR r,∃ v S',RepD w d v S'):fR r:=⟨⟨aHf h (by simp [eR]),aHf h (by simp [eR])⟩,aHf h (by simp [eR]),aOb h (by simp [eR])⟩
theorem aMm {w0 w:World} {v:Value} {S:List Nat} (h:aJN w (.bl true) v S):Ending.returned v= .returned (.bool true):=by rw [h.1]
end
noncomputable section
set_option maxRecDepth 10000
set_option maxHeartbeats 4000000
end
noncomputable section
set_option maxRecDepth 10000
set_option maxHeartbeats 4000000
def pN (a0:Int) (a1:(List (List Int))):Option Mt:=
 Option.bind (gL a1) fun v1=>
 some ((⟨(a1.length:Int),a0,v1⟩:Mt))
theorem aEB (a0:Int) (a1:(List (List Int))) (r:Mt) (h:pN a0 a1=some r):HasC Tryz.prog 260 [.int a0,.list 1 (List.map (dD 1 eI) a1)] (.agg (eM r)):=by
 refine bN aA (rvs:=[.cell 4 113]) (ns:=[0,1,2,3]) Tryz.func260 k k Tryz.ntmps260 k k k<|sQ<|rg<|ae (bU aA k k) k<|an<|tn<|sQ<|rg<|am k k<|ae (dK aA k k k) k ?_
 refine am k k<|am k k ?_
 obtain ⟨v1,hv1,h⟩:=ob h
 refine ae (AEff.conv (cO (x:= .own 1 0 (List.map eI v1).length) (nb:=[(1,⟨1,cU (List.map eI v1)⟩)]) (wP a1 v1 hv1) k (by rfl) k k (eD.good _) (aG (aL k) bB)) (v':= .own 1 0 v1.length) (ed':=[(1,some ⟨1,List.map (ow eI) v1⟩)]) (by simp only [bD]) (eN (nb':=[(1,⟨1,List.map (ow eI) v1⟩)]) (by simp only [cR]))) k<|ae (cK aA k k k k k k) k<|ae (bO aA k k k k k k k k) k<|an<|tn<|aO ?_
 obtain rfl:=so h
 exact aU k k k (oK (cB (k) (cB (k) (cB (iM eD k k) gP))))
def rO (v2:(Mt×(List Int))) (x1:((List (List Int))×Int)):Option (((List (List Int))×Int) ⊕ (List (List Int))):=
 bif decide (x1.2<((v2.2.length:Nat):Int)) then
 (Option.bind (dG v2.1 x1.2) fun v4=>
 Option.bind (rH ((v2.1.cells.drop (0+(wr (x1.2*v2.1.cols)).toNat)).take ((wr ((wr (x1.2+1))*v2.1.cols)).toNat - (wr (x1.2*v2.1.cols)).toNat))) fun v5=>
 bif decide (x1.1.length+1≤4294967296) then
 (some (.inl ((x1.1++[v5]),wr (x1.2+1))))
 else none)
 else
 (some (.inr x1.1))
def tJ (a0:Int) (a1:Int) (a2:(List (List Int))):Option Sc:=
 Option.bind (pN a1 a2) fun v1=>
 Option.bind (tC a0 v1) fun v2=>
 Option.bind (Lp (rO v2) ([],0)) fun y7=>
 some ((⟨a1,y7⟩:Sc))
theorem aDf (a0:Int) (a1:Int) (a2:(List (List Int))) (r:Sc) (h:tJ a0 a1 a2=some r):HasC Tryz.prog 233 [.int a0,.int a1,.list 1 (List.map (dD 1 eI) a2)] (.agg (eS r)):=by
 refine bN aA (rvs:=[.cell 6 99]) (ns:=[0,1,2,3,4,5,6,7,8]) Tryz.func233 k k Tryz.ntmps233 k k k<|sQ<|rg<|ae (bU aA k k) k<|an<|tn<|sQ<|rg<|am k k<|am k k ?_
 refine am k k ?_
 obtain ⟨v1,hv1,h⟩:=ob h
 refine ae (AEff.conv (cO (x:= .agg [.int v1.rows,.int v1.cols,.own 1 0 (List.map eI v1.cells).length]) (nb:=[(1,⟨1,cU (List.map eI v1.cells)⟩)]) (aEB a1 a2 v1 hv1) k (by rfl) k k (bX trivial (bX trivial (bX (eD.good _) gF))) (aG (aL k) (aG (aL k) bB))) (v':= .agg [.int v1.rows,.int v1.cols,.own 1 0 v1.cells.length]) (ed':=[(1,some ⟨1,List.map (ow eI) v1.cells⟩)]) (by simp only [bD]) (eN (nb':=[(1,⟨1,List.map (ow eI) v1.cells⟩)]) (by simp only [cR]))) k ?_
 obtain ⟨v2,hv2,h⟩:=ob h
 refine ae (AEff.conv (cO (x:= .tuple [.agg [.int v2.1.rows,.int v2.1.cols,.own 2 0 (List.map eI v2.1.cells).length],.own 3 0 (List.map eI v2.2).length]) (nb:=[(2,⟨1,cU (List.map eI v2.1.cells)⟩),(3,⟨1,cU (List.map eI v2.2)⟩)]) (aFq a0 v1 v2 hv2) k (by rfl) k k (iX (bX trivial (bX trivial (bX (eD.good _) gF))) (iX (eD.good _) xZ)) (aG (aL k) (aG (cA (aN (aT k) (aN (aT k) (aN (rY eD k k) cG)))) bB))) (v':= .tuple [.agg [.int v2.1.rows,.int v2.1.cols,.own 2 0 v2.1.cells.length],.own 3 0 v2.2.length]) (ed':=[(2,some ⟨1,List.map (ow eI) v2.1.cells⟩),(3,some ⟨1,List.map (ow eI) v2.2⟩)]) (by simp only [bD]) (eN (nb':=[(2,⟨1,List.map (ow eI) v2.1.cells⟩),(3,⟨1,List.map (ow eI) v2.2⟩)]) (by simp only [cR]))) k<|am k k<|ae (bK k k (by intro _ h;cases h)) k<|ae (bK k k (by intro _ h;cases h)) k<|ae (bU aA k k) k<|ae (bO aA k k k k k k k k) k<|aa k k<|an<|tn<|aQ (t:=bW [(1,.int a1),(6,.ptr 0 0 0),(7,.ptr 4 0 0),(8,.own 3 0 v2.2.length)] [(0,⟨2,[[.int 0,.nil 1]]⟩),(2,⟨1,List.map (ow eI) v2.1.cells⟩),(3,⟨1,List.map (ow eI) v2.2⟩),(4,⟨3,[[.int v2.1.rows,.int v2.1.cols,.own 2 0 v2.1.cells.length]]⟩)] 5 [5,6,7,8]) (aE (σ:=sg [(0,0),(2,2),(3,3),(4,4)]) ⟨(e1 k k),(pE k k),(pE k k),(oE k k),trivial⟩ (hP k k k k<|hI k k k<|hI k k k<|hX ⟨_,k,k,.inr ⟨_,_,k,⟨_,_,k,k,⟨_,_,k,k,⟨_,_,k,⟨k,k,k,k⟩,k⟩⟩⟩,k⟩⟩ k<|trivial) k) ?_
 refine sQ<|rg<|aa k k<|an<|tn<|sQ<|sQ<|rg<|am k k<|ae (bT aA k k k k) k ?_
 refine am k k<|an<|tn<|aP ?_
 obtain ⟨y7,hy7,h⟩:=ob h
 refine cW (body:=(rO v2)) hy7 (fun (x1:((List (List Int))×Int))=>bW [(1,.int a1),(6,.ptr 0 0 0),(7,.ptr 1 0 0),(9,.own 3 0 x1.1.length),(20,.int ((v2.2.length:Nat):Int)),(21,.int x1.2)] [(0,⟨2,[[.int 0,.nil 1]]⟩),(1,⟨3,[[.int v2.1.rows,.int v2.1.cols,.own 2 0 v2.1.cells.length]]⟩),(2,⟨1,List.map (ow eI) v2.1.cells⟩),(3,⟨1,List.map (ow (dD 1 eI)) x1.1⟩)] 4 [4,5,6,7,8]) (fun r e t=>e= .exit 0∧Ent t (bW [(1,.int a1),(6,.ptr 0 0 0),(9,.own 1 0 r.length)] [(0,⟨2,[[.int 0,.nil 1]]⟩),(1,⟨1,List.map (ow (dD 1 eI)) r⟩)] 2 [2,3,4,5,6,7,8])) (aE (σ:=sg [(0,0),(1,4),(2,2)]) ⟨(e1 k k),(pE k k),(pE k k),⟨_,k,⟨k,k,k,k⟩⟩,(e1 k k),(e1 k k),trivial⟩ (hP k k k k<|hX ⟨_,k,k,.inr ⟨_,_,k,⟨_,_,k,k,⟨_,_,k,k,⟨_,_,k,⟨k,k,k,k⟩,k⟩⟩⟩,k⟩⟩ k<|hI k k k<|hX k k<|trivial) k) ?_ ?_
 ·intro x1 o h
  refine sQ<|rg<|ae (bE k k k) k<|an<|tn<|sQ ?_
  rcases cb h with ⟨q3,h⟩|⟨q3,h⟩
  ·refine aK k q3<|aS<|tn<|sQ<|aP<|sQ<|rg<|am k k<|aa k k<|an ?_
   refine tn<|rg<|am k k<|ae (aC aA k k k k k k k) k<|am k k ?_
   obtain ⟨v4,hv4,h⟩:=ob h
   refine ae (AEff.pureE (kK (σ:=sg [(0,2)]) (σ':=sg [(2,0)]) (touch:=[2]) (news:=[]) (hl2:=[(2,⟨1,List.map (ow eI) v2.1.cells⟩)]) (n':=4) (r2:= .own 2 (0+(wr (x1.2*v2.1.cols)).toNat) ((wr ((wr (x1.2+1))*v2.1.cols)).toNat - (wr (x1.2*v2.1.cols)).toNat)) (eE v2.1 x1.2 v4 hv4) k k ⟨_,_,k,⟨_,_,k,k,⟨_,_,k,k,⟨_,_,k,⟨k,k,k,k⟩,k⟩⟩⟩,⟨_,_,k,k,k⟩⟩ ⟨⟨_,k,k,.inl ⟨k,eD.plainO _⟩⟩,k,trivial⟩ k k k ⟨⟨_,k,k,.inl ⟨k,eD.plainO _⟩⟩,k,trivial⟩ k ⟨k,k,(by simp only [bD,lA,lT,lR,lC,lN]),k⟩ k ⟨k,eD.tame _ _,trivial⟩ k k) ⟨k,k,trivial⟩) k ?_
   obtain ⟨v5,hv5,h⟩:=ob h
   refine ae (AEff.conv (cO (x:= .own 4 0 (List.map eI v5).length) (nb:=[(4,⟨1,cU (List.map eI v5)⟩)]) (aBp ((v2.1.cells.drop (0+(wr (x1.2*v2.1.cols)).toNat)).take ((wr ((wr (x1.2+1))*v2.1.cols)).toNat - (wr (x1.2*v2.1.cols)).toNat)) v5 hv5) k (by rfl) k k (eD.good _) (aG (aNd eD k) bB)) (v':= .own 4 0 v5.length) (ed':=[(4,some ⟨1,List.map (ow eI) v5⟩)]) (by simp only [bD]) (eN (nb':=[(4,⟨1,List.map (ow eI) v5⟩)]) (by simp only [cR]))) k<|ae (cP aA k k k k k k k k k k k k) k ?_
   obtain ⟨q6,h⟩:=cg h
   refine ae (rG aA (l:=x1.1) (c:=[.own 4 0 v5.length]) q6 k k k k k k k k k k k k k k) k<|aa k k<|an<|bF<|tn<|aQ (t:=bW [(1,.int a1),(6,.ptr 0 0 0),(7,.ptr 1 0 0),(9,.own 6 0 ((x1.1++[v5]).length)),(20,.int ((v2.2.length:Nat):Int)),(21,.int x1.2)] [(0,⟨2,[[.int 0,.nil 1]]⟩),(1,⟨3,[[.int v2.1.rows,.int v2.1.cols,.own 2 0 v2.1.cells.length]]⟩),(2,⟨1,List.map (ow eI) v2.1.cells⟩),(6,⟨1,List.map (ow (dD 1 eI)) (x1.1++[v5])⟩)] 7 [7,8]) (Ent.trans (rF (b:=6) (b':=4) (j:=0) (es':=List.map eI v5) k k k k (bD _ _) (eD.frzs _)) (aE (σ:=sg [(0,0),(1,1),(2,2),(6,6)]) ⟨(e1 k k),(pE k k),(pE k k),⟨_,k,⟨k,k,(by simp only [bD,lA,lT,lR,lC,lN]),k⟩⟩,(e1 k k),(e1 k k),trivial⟩ (hP k k k k<|hX ⟨_,k,k,.inr ⟨_,_,k,⟨_,_,k,k,⟨_,_,k,k,⟨_,_,k,⟨k,k,k,k⟩,k⟩⟩⟩,k⟩⟩ k<|hI k k k<|hX ⟨_,k,k,.inl ⟨wM v5 k,cS.plainO _⟩⟩ k<|trivial) k))<|rg<|ae (bZ k k) k<|am k k<|an ?_
   refine tn ?_
   obtain rfl:=so h
   exact ⟨_,k,(aE (σ:=sg [(0,0),(1,1),(2,2),(3,6)]) ⟨(e1 k k),(pE k k),(pE k k),(oE k k),(e1 k k),(e1 k k),trivial⟩ (hP k k k k<|hX ⟨_,k,k,.inr ⟨_,_,k,⟨_,_,k,k,⟨_,_,k,k,⟨_,_,k,⟨k,k,k,k⟩,k⟩⟩⟩,k⟩⟩ k<|hI k k k<|hB (cS.plainO _) k k k<|trivial) k)⟩
  ·refine aR k q3<|bG<|aH<|aH ?_
   obtain rfl:=so h
   exact ⟨_,k,k,(aE (σ:=sg [(0,0),(1,3)]) ⟨(e1 k k),(pE k k),(oE k k),trivial⟩ (hP k k k k<|hB (cS.plainO _) k k k<|trivial) k)⟩
 ·rintro e t ⟨rfl,hent⟩
  refine aW<|tn<|aQ hent<|sQ<|rg<|am k k<|am k k<|ae (cK aA k k k k k k) k<|ae (bO aA k k k k k k k k) k<|an ?_
  refine tn<|aO ?_
  obtain rfl:=so h
  exact aU k k k (oK (cB (k) (cB (iM cS k k) gP)))
def oB (a1:(List (List Int))) (x1:((List Int)×Int)):Option (((List Int)×Int) ⊕ (List Int)):=
 bif decide (x1.2<(a1.length:Int)) then
 (Option.bind (dX a1 x1.2) fun v2=>
 bif decide (x1.1.length+v2.length≤4294967296) then
 (some (.inl ((x1.1++v2),wr (x1.2+1))))
 else none)
 else
 (some (.inr x1.1))
def jX (a0:Int) (a1:(List (List Int))):Option Mt:=
 Option.bind (Lp (oB a1) ([],0)) fun y4=>
 some ((⟨(a1.length:Int),a0,y4⟩:Mt))
theorem aAh (a0:Int) (a1:(List (List Int))) (r:Mt) (h:jX a0 a1=some r):HasC Tryz.prog 157 [.int a0,.list 1 (List.map (dD 1 eI) a1)] (.agg (eM r)):=by
 refine bN aA (rvs:=[.cell 4 113]) (ns:=[0,1,2,3,4,5]) Tryz.func157 k k Tryz.ntmps157 k k k<|sQ<|rg<|ae (bU aA k k) k<|an<|tn<|sQ<|rg<|am k k<|ae (dK aA k k k) k ?_
 refine am k k<|ae (cK aA k k k k k k) k<|ae (bU aA k k) k<|ae (bO aA k k k k k k k k) k<|an<|tn<|sQ<|sQ<|rg<|aa k k ?_
 refine an<|tn<|aP ?_
 obtain ⟨y4,hy4,h⟩:=ob h
 refine cW (body:=(oB a1)) hy4 (fun (x1:((List Int)×Int))=>bW [(1,.list 1 (List.map (dD 1 eI) a1)),(4,.ptr 0 0 0),(5,.ptr 1 0 0),(6,.int x1.2)] [(0,⟨3,[[.int 0,.int 0,.nil 1]]⟩),(1,⟨3,[[.int (a1.length:Int),.int a0,.own 2 0 x1.1.length]]⟩),(2,⟨1,List.map (ow eI) x1.1⟩)] 3 [3,4,5]) (fun r e t=>e= .exit 0∧Ent t (bW [(4,.ptr 0 0 0),(5,.ptr 1 0 0)] [(0,⟨3,[[.int 0,.int 0,.nil 1]]⟩),(1,⟨3,[[.int (a1.length:Int),.int a0,.own 2 0 r.length]]⟩),(2,⟨1,List.map (ow eI) r⟩)] 3 [3,4,5])) (aE (σ:=sg [(0,0),(1,1)]) ⟨⟨_,k,⟨k,k⟩⟩,(pE k k),(pE k k),(e1 k k),trivial⟩ (hP k k k k<|hX ⟨_,k,k,.inr ⟨_,_,k,⟨_,_,k,k,⟨_,_,k,k,⟨_,_,k,⟨k,k,k,k⟩,k⟩⟩⟩,k⟩⟩ k<|hX k k<|trivial) k) ?_ ?_
 ·intro x1 o h
  refine sQ<|sQ<|rg<|am k k<|am k k<|ae (dK aA k k k) k<|ae (bE k k k) k<|an<|tn ?_
  rcases cb h with ⟨q1,h⟩|⟨q1,h⟩
  ·refine aK k q1<|aS<|tn<|sQ<|aP<|aX kY<|ae (aD aA k k k k k k k) k<|ae (aC aA k k k k k k k) k<|am k k<|am k k ?_
   obtain ⟨v2,hv2,h⟩:=ob h
   refine ae (bJ aA hv2 k k k k k k) k<|ae (aV aA k k k k k k) k ?_
   obtain ⟨q3,h⟩:=cg h
   refine ae (uX aA (l:=x1.1) (m:=v2) sI q3 k k k k k k k k k k k k) k<|ae (aD aA k k k k k k k) k<|ae (bO aA k k k k k k k k) k<|an ?_
   refine ⟨by kernel_rfl,?_⟩
   refine bF<|tn<|aQ (t:=bW [(1,.list 1 (List.map (dD 1 eI) a1)),(4,.ptr 0 0 0),(5,.ptr 1 0 0),(6,.int x1.2)] [(0,⟨3,[[.int 0,.int 0,.nil 1]]⟩),(1,⟨3,[[.int (a1.length:Int),.int a0,.own 3 0 ((x1.1++v2).length)]]⟩),(3,⟨1,List.map (ow eI) (x1.1++v2)⟩)] 4 [4,5]) (aE (σ:=sg [(0,0),(1,1),(3,3)]) ⟨⟨_,k,⟨k,k⟩⟩,(pE k k),(pE k k),(e1 k k),trivial⟩ (hP k k k k<|hX ⟨_,k,k,.inr ⟨_,_,k,⟨_,_,k,k,⟨_,_,k,k,⟨_,_,k,⟨k,k,k,k⟩,k⟩⟩⟩,k⟩⟩ k<|hI k k k<|trivial) k)<|rg<|am k k<|ae (bZ k k) k<|aa k k<|an<|tn ?_
   obtain rfl:=so h
   exact ⟨_,k,(aE (σ:=sg [(0,0),(1,1),(2,3)]) ⟨⟨_,k,⟨k,k⟩⟩,(pE k k),(pE k k),(e1 k k),trivial⟩ (hP k k k k<|hX ⟨_,k,k,.inr ⟨_,_,k,⟨_,_,k,k,⟨_,_,k,k,⟨_,_,k,⟨k,k,k,k⟩,k⟩⟩⟩,k⟩⟩ k<|hI k k k<|trivial) k)⟩
  ·refine aR k q1<|bG<|aH<|aH ?_
   obtain rfl:=so h
   exact ⟨_,k,k,(aE (σ:=sg [(0,0),(1,1),(2,2)]) ⟨(pE k k),(pE k k),trivial⟩ (hP k k k k<|hX ⟨_,k,k,.inr ⟨_,_,k,⟨_,_,k,k,⟨_,_,k,k,⟨_,_,k,⟨k,k,k,k⟩,k⟩⟩⟩,k⟩⟩ k<|hI k k k<|trivial) k)⟩
 ·rintro e t ⟨rfl,hent⟩
  refine aW<|tn<|aQ hent<|sQ<|rg<|ae (aC aA k k k k k k k) k<|ae (bO aA k k k k k k k k) k<|an<|tn<|aO ?_
  obtain rfl:=so h
  exact aU k k k (oK (cB (k) (cB (k) (cB (iM eD k k) gP))))
def mV (v1:(Mt×(List Int))) (x1:((List (List Int))×Int)):Option (((List (List Int))×Int) ⊕ (List (List Int))):=
 bif decide (x1.2<((v1.2.length:Nat):Int)) then
 (bif (decide (0≤wr (x1.2*v1.1.cols))&&(decide (wr (x1.2*v1.1.cols)≤wr ((wr (x1.2*v1.1.cols))+v1.1.cols))&&decide (wr ((wr (x1.2*v1.1.cols))+v1.1.cols)≤((v1.1.cells.length:Nat):Int)))) then
 (bif decide (([]:(List Int)).length +((v1.1.cells.drop (0+(wr (x1.2*v1.1.cols)).toNat)).take ((wr ((wr (x1.2*v1.1.cols))+v1.1.cols)).toNat - (wr (x1.2*v1.1.cols)).toNat)).length ≤4294967296) then
 (bif decide (x1.1.length+1≤4294967296) then
 (some (.inl ((x1.1++[(([]:(List Int))++((v1.1.cells.drop (0+(wr (x1.2*v1.1.cols)).toNat)).take ((wr ((wr (x1.2*v1.1.cols))+v1.1.cols)).toNat - (wr (x1.2*v1.1.cols)).toNat)))]),wr (x1.2+1))))
 else none)
 else none)
 else none)
 else
 (some (.inr x1.1))
def iS (a0:Int) (a1:Mt):Option (List (List Int)):=
 Option.bind (jI a0 a1) fun v1=>
 Option.bind (Lp (mV v1) (([]:(List (List Int))),0)) fun y6=>
 some (y6)
theorem zL (a0:Int) (a1:Mt) (r:(List (List Int))) (h:iS a0 a1=some r):HasC Tryz.prog 182 [.int a0,.agg (eM a1)] (.list 1 (List.map (dD 1 eI) r)):=by
 refine bN aA (rvs:=[.tmp 4]) (ns:=[0,1,2,3,4,5,6,7,8,9]) Tryz.func182 k k Tryz.ntmps182 k k k<|sQ<|rg<|ae (cD k k k k) k<|aa k k<|an<|tn<|sQ<|rg<|am k k ?_
 refine ae (aC aA k k k k k k k) k ?_
 obtain ⟨v1,hv1,h⟩:=ob h
 refine ae (AEff.conv (cO (x:= .tuple [.agg [.int v1.1.rows,.int v1.1.cols,.own 1 0 (List.map eI v1.1.cells).length],.own 2 0 (List.map eI v1.2).length]) (nb:=[(1,⟨1,cU (List.map eI v1.1.cells)⟩),(2,⟨1,cU (List.map eI v1.2)⟩)]) (aDp a0 a1 v1 hv1) k (by rfl) k k (iX (bX trivial (bX trivial (bX (eD.good _) gF))) (iX (eD.good _) xZ)) (aG (aL k) (aG (cA (aN (aT k) (aN (aT k) (aN (aT k) cG)))) bB))) (v':= .tuple [.agg [.int v1.1.rows,.int v1.1.cols,.own 1 0 v1.1.cells.length],.own 2 0 v1.2.length]) (ed':=[(1,some ⟨1,List.map (ow eI) v1.1.cells⟩),(2,some ⟨1,List.map (ow eI) v1.2⟩)]) (by simp only [bD]) (eN (nb':=[(1,⟨1,List.map (ow eI) v1.1.cells⟩),(2,⟨1,List.map (ow eI) v1.2⟩)]) (by simp only [cR]))) k<|am k k<|ae (bK k k (by intro _ h;cases h)) k<|ae (bK k k (by intro _ h;cases h)) k<|ae (bU aA k k) k<|ae (bO aA k k k k k k k k) k<|aa k k<|an<|tn<|sQ ?_
 refine rg<|ae (cP aA k k k k k k k k k k k k) k<|aa k k<|an<|tn<|aQ (t:=bW [(5,.ptr 3 0 0),(6,.own 2 0 v1.2.length),(7,.own 4 0 (([]:(List (List Int))).length))] [(1,⟨1,List.map (ow eI) v1.1.cells⟩),(2,⟨1,List.map (ow eI) v1.2⟩),(3,⟨3,[[.int v1.1.rows,.int v1.1.cols,.own 1 0 v1.1.cells.length]]⟩),(4,⟨1,List.map (ow (dD 1 eI)) ([]:(List (List Int)))⟩)] 5 [5,6,7,8,9]) (aE (σ:=sg [(1,1),(2,2),(3,3),(4,4)]) ⟨(pE k k),(oE k k),⟨_,k,⟨k,k,(by simp only [bD,lA,lT,lR,lC,lN]),k⟩⟩,trivial⟩ (hI k k k<|hI k k k<|hX ⟨_,k,k,.inr ⟨_,_,k,⟨_,_,k,k,⟨_,_,k,k,⟨_,_,k,⟨k,k,k,k⟩,k⟩⟩⟩,k⟩⟩ k<|hB (cS.plainO _) k k k<|trivial) k)<|sQ<|sQ<|rg<|aa k k ?_
 refine an<|tn<|aP ?_
 obtain ⟨y6,hy6,h⟩:=ob h
 refine cW (body:=(mV v1)) hy6 (fun (x1:((List (List Int))×Int))=>bW [(5,.ptr 0 0 0),(6,.own 2 0 v1.2.length),(7,.own 3 0 x1.1.length),(8,.int x1.2)] [(0,⟨3,[[.int v1.1.rows,.int v1.1.cols,.own 1 0 v1.1.cells.length]]⟩),(1,⟨1,List.map (ow eI) v1.1.cells⟩),(2,⟨1,List.map (ow eI) v1.2⟩),(3,⟨1,List.map (ow (dD 1 eI)) x1.1⟩)] 4 [4,5,6,7,8,9]) (fun r e t=>e= .exit 0∧Ent t (bW [(7,.own 0 0 r.length)] [(0,⟨1,List.map (ow (dD 1 eI)) r⟩)] 1 [1,2,3,4,5,6,7,8,9])) (aE (σ:=sg [(0,3),(1,1),(2,2),(3,4)]) ⟨(pE k k),(oE k k),(oE k k),(e1 k k),trivial⟩ (hX ⟨_,k,k,.inr ⟨_,_,k,⟨_,_,k,k,⟨_,_,k,k,⟨_,_,k,⟨k,k,k,k⟩,k⟩⟩⟩,k⟩⟩ k<|hI k k k<|hI k k k<|hB (cS.plainO _) k k k<|trivial) k) ?_ ?_
 ·intro x1 o h
  refine sQ<|sQ<|rg<|am k k<|am k k<|ae (bT aA k k k k) k<|ae (bE k k k) k<|an<|tn ?_
  rcases cb h with ⟨q2,h⟩|⟨q2,h⟩
  ·refine aK k q2<|aS<|tn<|sQ<|aP<|rg<|am k k<|ae (cP aA k k k k k k k k k k k k) k<|ae (aD aA k k k k k k k) k<|ae (aC aA k k k k k k k) k ?_
   refine am k k<|ae (aD aA k k k k k k k) k<|ae (aC aA k k k k k k k) k<|ae (gB k k) k<|am k k<|ae (aD aA k k k k k k k) k<|ae (aC aA k k k k k k k) k<|ae (gB k k) k<|ae (aD aA k k k k k k k) k<|ae (aC aA k k k k k k k) k ?_
   refine ae (bZ k k) k ?_
   obtain ⟨q3,h⟩:=cg h
   refine ae (vY aA (l:=wr (x1.2*v1.1.cols)) (h:=wr ((wr (x1.2*v1.1.cols))+v1.1.cols)) q3 k k k k k k k k) k ?_
   obtain ⟨q4,h⟩:=cg h
   refine ae (uX aA (l:=([]:(List Int))) (m:=((v1.1.cells.drop (0+(wr (x1.2*v1.1.cols)).toNat)).take ((wr ((wr (x1.2*v1.1.cols))+v1.1.cols)).toNat - (wr (x1.2*v1.1.cols)).toNat))) sI q4 k k k k k (aMb eD k) k k k k k k) k<|ae (cP aA k k k k k k k k k k k k) k ?_
   obtain ⟨q5,h⟩:=cg h
   refine ae (rG aA (l:=x1.1) (c:=[.own 5 0 ((([]:(List Int))++((v1.1.cells.drop (0+(wr (x1.2*v1.1.cols)).toNat)).take ((wr ((wr (x1.2*v1.1.cols))+v1.1.cols)).toNat - (wr (x1.2*v1.1.cols)).toNat))).length)]) q5 k k k k k k k k k k k k k k) k<|aa k k<|an<|bF<|tn<|aQ (t:=bW [(5,.ptr 0 0 0),(6,.own 2 0 v1.2.length),(7,.own 7 0 ((x1.1++[(([]:(List Int))++((v1.1.cells.drop (0+(wr (x1.2*v1.1.cols)).toNat)).take ((wr ((wr (x1.2*v1.1.cols))+v1.1.cols)).toNat - (wr (x1.2*v1.1.cols)).toNat)))]).length)),(8,.int x1.2)] [(0,⟨3,[[.int v1.1.rows,.int v1.1.cols,.own 1 0 v1.1.cells.length]]⟩),(1,⟨1,List.map (ow eI) v1.1.cells⟩),(2,⟨1,List.map (ow eI) v1.2⟩),(7,⟨1,List.map (ow (dD 1 eI)) (x1.1++[(([]:(List Int))++((v1.1.cells.drop (0+(wr (x1.2*v1.1.cols)).toNat)).take ((wr ((wr (x1.2*v1.1.cols))+v1.1.cols)).toNat - (wr (x1.2*v1.1.cols)).toNat)))])⟩)] 8 [8,9]) (Ent.trans (rF (b:=7) (b':=5) (j:=0) (es':=List.map eI (([]:(List Int))++((v1.1.cells.drop (0+(wr (x1.2*v1.1.cols)).toNat)).take ((wr ((wr (x1.2*v1.1.cols))+v1.1.cols)).toNat - (wr (x1.2*v1.1.cols)).toNat)))) k k k k (bD _ _) (eD.frzs _)) (aE (σ:=sg [(0,0),(1,1),(2,2),(7,7)]) ⟨(pE k k),(oE k k),⟨_,k,⟨k,k,(by simp only [bD,lA,lT,lR,lC,lN]),k⟩⟩,(e1 k k),trivial⟩ (hX ⟨_,k,k,.inr ⟨_,_,k,⟨_,_,k,k,⟨_,_,k,k,⟨_,_,k,⟨k,k,k,k⟩,k⟩⟩⟩,k⟩⟩ k<|hI k k k<|hI k k k<|hX ⟨_,k,k,.inl ⟨wM (([]:(List Int))++((v1.1.cells.drop (0+(wr (x1.2*v1.1.cols)).toNat)).take ((wr ((wr (x1.2*v1.1.cols))+v1.1.cols)).toNat - (wr (x1.2*v1.1.cols)).toNat))) k,cS.plainO _⟩⟩ k<|trivial) k)) ?_
   refine rg<|am k k<|ae (bZ k k) k<|aa k k<|an<|tn ?_
   obtain rfl:=so h
   exact ⟨_,k,(aE (σ:=sg [(0,0),(1,1),(2,2),(3,7)]) ⟨(pE k k),(oE k k),(oE k k),(e1 k k),trivial⟩ (hX ⟨_,k,k,.inr ⟨_,_,k,⟨_,_,k,k,⟨_,_,k,k,⟨_,_,k,⟨k,k,k,k⟩,k⟩⟩⟩,k⟩⟩ k<|hI k k k<|hI k k k<|hB (cS.plainO _) k k k<|trivial) k)⟩
  ·refine aR k q2<|bG<|aH<|aH ?_
   obtain rfl:=so h
   exact ⟨_,k,k,(aE (σ:=sg [(0,3)]) ⟨(oE k k),trivial⟩ (hB (cS.plainO _) k k k<|trivial) k)⟩
 ·rintro e t ⟨rfl,hent⟩
  refine aW<|tn<|aQ hent<|sQ<|rg<|am k k<|aa k k<|an<|tn<|aO ?_
  obtain rfl:=so h
  exact aU k k k (oY (iM cS k k))
def oU (a0:Int) (a1:Int) (a2:(List (List Int))):Option Sc:=
 Option.bind (jX a1 a2) fun v1=>
 Option.bind (iS a0 v1) fun v2=>
 some ((⟨a1,v2⟩:Sc))
theorem aAi (a0:Int) (a1:Int) (a2:(List (List Int))) (r:Sc) (h:oU a0 a1 a2=some r):HasC Tryz.prog 184 [.int a0,.int a1,.list 1 (List.map (dD 1 eI) a2)] (.agg (eS r)):=by
 refine bN aA (rvs:=[.cell 6 99]) (ns:=[0,1,2,3,4]) Tryz.func184 k k Tryz.ntmps184 k k k<|sQ<|rg<|ae (bU aA k k) k<|an<|tn<|sQ<|rg<|am k k<|am k k ?_
 refine am k k<|am k k ?_
 obtain ⟨v1,hv1,h⟩:=ob h
 refine ae (AEff.conv (cO (x:= .agg [.int v1.rows,.int v1.cols,.own 1 0 (List.map eI v1.cells).length]) (nb:=[(1,⟨1,cU (List.map eI v1.cells)⟩)]) (aAh a1 a2 v1 hv1) k (by rfl) k k (bX trivial (bX trivial (bX (eD.good _) gF))) (aG (aL k) (aG (aL k) bB))) (v':= .agg [.int v1.rows,.int v1.cols,.own 1 0 v1.cells.length]) (ed':=[(1,some ⟨1,List.map (ow eI) v1.cells⟩)]) (by simp only [bD]) (eN (nb':=[(1,⟨1,List.map (ow eI) v1.cells⟩)]) (by simp only [cR]))) k ?_
 obtain ⟨v2,hv2,h⟩:=ob h
 refine ae (AEff.conv (cO (x:= .own 2 0 (List.map (dD 1 eI) v2).length) (nb:=[(2,⟨1,cU (List.map (dD 1 eI) v2)⟩)]) (zL a0 v1 v2 hv2) k (by rfl) k k (cS.good _) (aG (aL k) (aG (cA (aN (aT k) (aN (aT k) (aN (rY eD k k) cG)))) bB))) (v':= .own 2 0 v2.length) (ed':=[(2,some ⟨1,List.map (ow (dD 1 eI)) v2⟩)]) (by simp only [bD]) (eN (nb':=[(2,⟨1,List.map (ow (dD 1 eI)) v2⟩)]) (by simp only [cR]))) k<|ae (cK aA k k k k k k) k<|ae (bO aA k k k k k k k k) k<|an<|tn<|aO ?_
 obtain rfl:=so h
 exact aU k k k (oK (cB (k) (cB (iM cS k k) gP)))
def kG (a0:(List Int)) (a1:Int) (a2:Int):Option Bool:=
 bif !decide ((a0.length:Int)=a1) then
 (some (true))
 else
 (Option.bind (lY a2 a0) fun v2=>
 some (!v2))
theorem aAV (a0:(List Int)) (a1:Int) (a2:Int) (r:Bool) (h:kG a0 a1 a2=some r):HasC Tryz.prog 257 [.list 1 (List.map eI a0),.ref (eI a1),.ref (eI a2)] (.bl r):=by
 refine bN aA (rvs:=[.tmp 4]) (ns:=[0,1]) Tryz.func257 k k Tryz.ntmps257 k k k<|sQ<|rg<|aa k k<|an<|tn<|sQ<|rg<|am k k<|ae (dK aA k k k) k ?_
 refine ae (aV aA k k k k k k) k<|ae (bE k k k) k<|am k k ?_
 rcases cb h with ⟨q1,h⟩|⟨q1,h⟩
 ·refine aY 9 k q1<|ak k k<|ak k k<|ak k k<|ak k k<|ae (aM k k) k<|aa k k<|an<|tn<|aQ (t:=bW [(4,.bl true)] [] 0 [0,1]) (aE (σ:=sg []) ⟨(e1 k k),trivial⟩ trivial k) ?_
  refine aO ?_
  obtain rfl:=so h
  exact aU k k k (bV k)
 ·refine aY 9 k q1<|ae (aV aA k k k k k k) k<|am k k ?_
  obtain ⟨v2,hv2,h⟩:=ob h
  refine ae (aZ (yL a2 a0 v2 hv2) k (aG (aL k) (aG (aL k) bB))) k<|ae (cF k) k<|ae (aM k k) k<|aa k k<|an<|tn<|aQ (t:=bW [(4,.bl (!v2))] [] 0 [0,1]) (aE (σ:=sg []) ⟨(e1 k k),trivial⟩ trivial k)<|aO ?_
  obtain rfl:=so h
  exact aU k k k (bV k)
def mW (a0:Int) (a1:Int) (a2:(List (List Int))):Option Bool:=
 Option.bind (gK a1 0 8) fun v1=>
 bif v1 then
 (bif decide ((a2.length:Int)≤16) then
 (Option.bind (dW a2 (fun b0=>kG b0 a1 a0)) fun v4=>
 some (!v4))
 else
 (some (false)))
 else
 (some (false))
theorem aCA (a0:Int) (a1:Int) (a2:(List (List Int))) (r:Bool) (h:mW a0 a1 a2=some r):HasC Tryz.prog 231 [.int a0,.int a1,.list 1 (List.map (dD 1 eI) a2)] (.bl r):=by
 refine bN aA (rvs:=[.tmp 6]) (ns:=[0,1,2,3]) Tryz.func231 k k Tryz.ntmps231 k k k<|sQ<|rg<|ae (cD k k k k) k<|ae (cD k k k k) k<|aa k k<|an<|tn<|sQ<|rg ?_
 refine ae (aC aA k k k k k k k) k ?_
 obtain ⟨v1,hv1,h⟩:=ob h
 refine ae (aZ (jT a1 0 8 v1 hv1) k (aG (aL k) (aG (aL k) (aG (aL k) bB)))) k<|am k k ?_
 rcases cb h with ⟨q2,h⟩|⟨q2,h⟩
 ·refine aY 9 k q2<|am k k<|ae (dK aA k k k) k<|ae (bE k k k) k<|ae (aM k k) k<|am k k ?_
  rcases cb h with ⟨q3,h⟩|⟨q3,h⟩
  ·refine aY 14 k q3<|am k k<|ae (xK (vs:=[.ptr 1 0 0,.ptr 0 0 0]) k (by simp)) k ?_
   obtain ⟨v4,hv4,h⟩:=ob h
   refine ae (aZ (jR a2 (fun b0=>kG b0 a1 a0) k (fun b0 r h=>aAV b0 a1 a0 r h) v4 hv4) k (aG (aL k) (aG (aGb (aAH (aCi k k (aN (aT k) cG)) (aAH (aCi k k (aN (aT k) cG)) aAG))) bB))) k<|ae (cF k) k<|ae (aM k k) k<|aa k k<|an<|tn<|aQ (t:=bW [(6,.bl (!v4))] [] 2 [2,3]) (aE (σ:=sg []) ⟨(e1 k k),trivial⟩ trivial k)<|aO ?_
   obtain rfl:=so h
   exact aU k k k (bV k)
  ·refine aY 14 k q3<|ak k k<|ak k k<|ak k k<|ak k k<|ae (aM k k) k<|aa k k<|an<|tn<|aQ (t:=bW [(6,.bl false)] [] 2 [2,3]) (aE (σ:=sg []) ⟨(e1 k k),trivial⟩ trivial k) ?_
   refine aO ?_
   obtain rfl:=so h
   exact aU k k k (bV k)
 ·refine aY 9 k q2<|ak k k<|ak k k<|ak k k<|ae (aM k k) k<|am k k<|ak k k<|ak k k<|ak k k<|ak k k ?_
  refine ae (aM k k) k<|aa k k<|an<|tn<|aQ (t:=bW [(6,.bl false)] [] 2 [2,3]) (aE (σ:=sg []) ⟨(e1 k k),trivial⟩ trivial k)<|aO ?_
  obtain rfl:=so h
  exact aU k k k (bV k)
def gT (a0:(List Int)) (a1:(List Int)):Option Bool:=
 Option.bind (kL a0 a1) fun v1=>
 some (v1)
theorem zN (a0:(List Int)) (a1:(List Int)) (r:Bool) (h:gT a0 a1=some r):HasC Tryz.prog 259 [.list 1 (List.map eI a0),.list 1 (List.map eI a1)] (.bl r):=by
 refine bN aA (rvs:=[.tmp 4]) (ns:=[0,1]) Tryz.func259 k k Tryz.ntmps259 k k k<|sQ<|rg<|aa k k<|an<|tn<|sQ<|rg<|am k k<|am k k ?_
 obtain ⟨v1,hv1,h⟩:=ob h
 refine ae (aZ (xC a0 a1 v1 hv1) k (aG (aL k) (aG (aL k) bB))) k<|aa k k<|an<|tn<|aO ?_
 obtain rfl:=so h
 exact aU k k k (bV k)
def dH (a0:(List (List Int))) (a1:(List (List Int))) (a2:((List Int)→(List Int)→Option Bool)) (x1:Int):Option (Int ⊕ (Unit ⊕ Bool)):=
 bif decide (x1<(a0.length:Int)) then
 (Option.bind (dX a0 x1) fun v3=>
 Option.bind (dX a1 x1) fun v4=>
 Option.bind (a2 v3 v4) fun v5=>
 bif !v5 then
 (some (.inr (.inr (false))))
 else
 (some (.inl (wr (x1+1)))))
 else
 (some (.inr (.inl ())))
def dS (a0:(List (List Int))) (a1:(List (List Int))) (a2:((List Int)→(List Int)→Option Bool)):Option Bool:=
 bif !decide ((a0.length:Int)=(a1.length:Int)) then
 (some (false))
 else
 (Option.bind (Lp (dH a0 a1 a2) 0) fun y7=>
 Sum.elim (fun y8=>
 some (true)
 )
 (fun y9=>
 some y9
 )
 y7)
theorem mJ (a0:(List (List Int))) (a1:(List (List Int))) (a2:((List Int)→(List Int)→Option Bool)) {f2:FuncId} {c2:List AV} (hc2:c2.all eP=true) (hf2: ∀ b0 b1 r,a2 b0 b1=some r→HasC Tryz.prog f2 ([.list 1 (List.map eI b0),.list 1 (List.map eI b1)]++c2) (.bl r)) (r:Bool) (h:dS a0 a1 a2=some r):HasC Tryz.prog 258 [.list 1 (List.map (dD 1 eI) a0),.list 1 (List.map (dD 1 eI) a1),.fn f2 c2] (.bl r):=by
 refine bN aA (rvs:=[.tmp 6]) (ns:=[0,1]) Tryz.func258 k k Tryz.ntmps258 k k (mR k (mR k (mR hc2 aCn)))<|sQ<|rg<|aa k k<|an<|tn<|sQ<|sQ<|rg<|am k k ?_
 refine ae (dK aA k k k) k<|am k k<|ae (dK aA k k k) k<|ae (bE k k k) k<|an<|tn ?_
 rcases cb h with ⟨q1,h⟩|⟨q1,h⟩
 ·refine aK k q1<|sQ<|rg<|aa k k<|an<|tn<|aO<|aI ?_
  obtain rfl:=so h
  exact aU k k k (bV k)
 ·refine aR k q1<|aS<|tn<|sQ<|sQ<|rg<|am k k<|ae (dK aA k k k) k<|am k k<|an ?_
  refine tn<|aP ?_
  obtain ⟨y7,hy7,h⟩:=ob h
  refine cW (body:=(dH a0 a1 a2)) hy7 (fun (x1:Int)=>bW [(1,.list 1 (List.map (dD 1 eI) a1)),(2,.fn f2 c2),(15,.list 1 (List.map (dD 1 eI) a0)),(16,.int (a0.length:Int)),(17,.int x1)] [] 0 [0,1]) (fun r e t=>Sum.elim (fun a=>(fun r e t=>e= .exit 0∧Ent t (bW [] [] 0 [0,1])) a e t) (fun b=>(fun r e t=>e= .ret∧sE TT [.tmp 6] (.bl r) .ret t) b e t) r) (aE (σ:=sg []) ⟨⟨_,k,⟨k,k⟩⟩,⟨_,k,⟨k,mD _ hc2⟩⟩,⟨_,k,⟨k,k⟩⟩,(e1 k k),(e1 k k),trivial⟩ trivial k) ?_ ?_
  ·intro x1 o h
   refine sQ<|rg<|ae (bE k k k) k<|an<|tn<|sQ ?_
   rcases cb h with ⟨q2,h⟩|⟨q2,h⟩
   ·refine aK k q2<|aS<|tn<|sQ<|aP<|sQ<|rg<|am k k ?_
    obtain ⟨v3,hv3,h⟩:=ob h
    refine ae (bJ aA hv3 k k k k k k) k<|ae (aV aA k k k k k k) k<|aa k k<|aa k k<|an<|tn<|sQ<|rg<|am k k<|am k k ?_
    obtain ⟨v4,hv4,h⟩:=ob h
    refine ae (bJ aA hv4 k k k k k k) k<|ae (aV aA k k k k k k) k<|aa k k<|an<|tn<|sQ<|rg<|am k k<|am k k<|am k k ?_
    obtain ⟨v5,hv5,h⟩:=ob h
    refine ae (aBk hc2 (hf2 v3 v4 v5 hv5) k k (aG (aL k) (aG (aL k) bB))) k<|ae (cF k) k<|an<|tn<|aQ (t:=bW [(1,.list 1 (List.map (dD 1 eI) a1)),(2,.fn f2 c2),(15,.list 1 (List.map (dD 1 eI) a0)),(16,.int (a0.length:Int)),(17,.int x1),(30,.bl (!v5))] [] 0 [0,1]) (aE (σ:=sg []) ⟨⟨_,k,⟨k,k⟩⟩,⟨_,k,⟨k,mD _ hc2⟩⟩,⟨_,k,⟨k,k⟩⟩,(e1 k k),(e1 k k),(e1 k k),trivial⟩ trivial k) ?_
    rcases cb h with ⟨q6,h⟩|⟨q6,h⟩
    ·refine aK k q6<|sQ<|rg<|aa k k<|an<|tn<|aO<|bC<|aI<|aI ?_
     obtain rfl:=so h
     exact ⟨_,k,k,aU k k k (bV k)⟩
    ·refine aR k q6<|aS<|bF<|tn<|rg<|ae (bZ k k) k<|am k k<|an<|tn ?_
     obtain rfl:=so h
     exact ⟨_,k,(aE (σ:=sg []) ⟨⟨_,k,⟨k,k⟩⟩,⟨_,k,⟨k,mD _ hc2⟩⟩,⟨_,k,⟨k,k⟩⟩,(e1 k k),(e1 k k),trivial⟩ trivial k)⟩
   ·refine aR k q2<|bG<|aH<|aH ?_
    obtain rfl:=so h
    exact ⟨_,k,k,(aE (σ:=sg []) trivial trivial k)⟩
  ·intro e t hX
   rcases y7 with y8|y9
   ·obtain ⟨rfl,hent⟩:=hX
    refine aW<|tn<|aQ hent<|sQ<|rg<|aa k k<|an<|tn<|aO ?_
    obtain rfl:=so h
    exact aU k k k (bV k)
   ·obtain ⟨rfl,hent⟩:=hX
    refine bC<|aI ?_
    obtain rfl:=so h
    exact hent
def lJ (a0:Sc) (a1:Sc):Option Bool:=
 bif decide (a0.size=a1.size) then
 (Option.bind (dS a0.basis a1.basis (fun b0 b1=>gT b0 b1)) fun v2=>
 some (v2))
 else
 (some (false))
theorem aBC (a0:Sc) (a1:Sc) (r:Bool) (h:lJ a0 a1=some r):HasC Tryz.prog 232 [.agg (eS a0),.agg (eS a1)] (.bl r):=by
 refine bN aA (rvs:=[.tmp 4]) (ns:=[0,1,2,3]) Tryz.func232 k k Tryz.ntmps232 k k k<|sQ<|rg<|ae (cD k k k k) k<|ae (cD k k k k) k<|aa k k<|an<|tn<|sQ<|rg ?_
 refine ae (aD aA k k k k k k k) k<|ae (aC aA k k k k k k k) k<|ae (aD aA k k k k k k k) k<|ae (aC aA k k k k k k k) k<|ae (bE k k k) k<|am k k ?_
 rcases cb h with ⟨q1,h⟩|⟨q1,h⟩
 ·refine aY 10 k q1<|ae (aD aA k k k k k k k) k<|ae (aC aA k k k k k k k) k<|ae (aD aA k k k k k k k) k<|ae (aC aA k k k k k k k) k ?_
  obtain ⟨v2,hv2,h⟩:=ob h
  refine ae (aZ (mJ a0.basis a1.basis (fun b0 b1=>gT b0 b1) k (fun b0 b1 r h=>zN b0 b1 r h) v2 hv2) k (aG (aL k) (aG (aL k) (aG (aGb aAG) bB)))) k<|ae (aM k k) k<|aa k k<|an<|tn<|aQ (t:=bW [(4,.bl v2)] [] 2 [2,3]) (aE (σ:=sg []) ⟨(e1 k k),trivial⟩ trivial k)<|aO ?_
  obtain rfl:=so h
  exact aU k k k (bV k)
 ·refine aY 10 k q1<|ak k k<|ak k k<|ak k k<|ak k k<|ak k k<|ae (aM k k) k<|aa k k<|an<|tn ?_
  refine aQ (t:=bW [(4,.bl false)] [] 2 [2,3]) (aE (σ:=sg []) ⟨(e1 k k),trivial⟩ trivial k)<|aO ?_
  obtain rfl:=so h
  exact aU k k k (bV k)
def rP (a0:Int) (a1:Sc):Option Bool:=
 Option.bind (gR a0) fun v1=>
 bif !v1 then
 (some (false))
 else
 (Option.bind (mW a0 a1.size a1.basis) fun v3=>
 bif !v3 then
 (some (false))
 else
 (Option.bind (tJ a0 a1.size a1.basis) fun v5=>
 Option.bind (lJ v5 a1) fun v6=>
 some (v6)))
theorem aFL (a0:Int) (a1:Sc) (r:Bool) (h:rP a0 a1=some r):HasC Tryz.prog 197 [.int a0,.agg (eS a1)] (.bl r):=by
 refine bN aA (rvs:=[.tmp 4]) (ns:=[0,1,2,3]) Tryz.func197 k k Tryz.ntmps197 k k k<|sQ<|rg<|ae (cD k k k k) k<|aa k k<|an<|tn<|sQ<|sQ<|rg ?_
 refine am k k ?_
 obtain ⟨v1,hv1,h⟩:=ob h
 refine ae (aZ (kN a0 v1 hv1) k (aG (aL k) bB)) k<|ae (cF k) k<|am k k ?_
 rcases cb h with ⟨q2,h⟩|⟨q2,h⟩
 ·refine aY 8 k q2<|ak k k<|ak k k<|ak k k<|ak k k<|ak k k<|ak k k<|ak k k<|ae (aM k k) k<|an ?_
  refine tn<|aQ (t:=bW [(0,.int a0),(3,.ptr 0 0 0),(16,.bl true)] [(0,⟨2,[[.int a1.size,.list 1 (List.map (dD 1 eI) a1.basis)]]⟩)] 1 [1,2,3]) (aE (σ:=sg [(0,0)]) ⟨(e1 k k),(pE k k),(e1 k k),trivial⟩ (hP k k k k<|trivial) k)<|aK k k<|sQ<|rg<|aa k k<|an<|tn<|aO<|aI ?_
  obtain rfl:=so h
  exact aU k k k (bV k)
 ·refine aY 8 k q2<|am k k<|ae (aD aA k k k k k k k) k<|ae (aC aA k k k k k k k) k<|ae (aD aA k k k k k k k) k<|ae (aC aA k k k k k k k) k ?_
  obtain ⟨v3,hv3,h⟩:=ob h
  refine ae (aZ (aCA a0 a1.size a1.basis v3 hv3) k (aG (aL k) (aG (aL k) (aG (aL k) bB)))) k<|ae (cF k) k<|ae (aM k k) k<|an<|tn<|aQ (t:=bW [(0,.int a0),(3,.ptr 0 0 0),(16,.bl (!v3))] [(0,⟨2,[[.int a1.size,.list 1 (List.map (dD 1 eI) a1.basis)]]⟩)] 1 [1,2,3]) (aE (σ:=sg [(0,0)]) ⟨(e1 k k),(pE k k),(e1 k k),trivial⟩ (hP k k k k<|trivial) k) ?_
  rcases cb h with ⟨q4,h⟩|⟨q4,h⟩
  ·refine aK k q4<|sQ<|rg<|aa k k<|an<|tn<|aO<|aI ?_
   obtain rfl:=so h
   exact aU k k k (bV k)
  ·refine aR k q4<|aS<|tn<|sQ<|aX kY<|am k k<|ae (aD aA k k k k k k k) k<|ae (aC aA k k k k k k k) k<|ae (aD aA k k k k k k k) k<|ae (aC aA k k k k k k k) k ?_
   obtain ⟨v5,hv5,h⟩:=ob h
   refine ae (AEff.conv (cO (x:= .agg [.int v5.size,.own 1 0 (List.map (dD 1 eI) v5.basis).length]) (nb:=[(1,⟨1,cU (List.map (dD 1 eI) v5.basis)⟩)]) (aDf a0 a1.size a1.basis v5 hv5) k (by rfl) k k (bX trivial (bX (cS.good _) gF)) (aG (aL k) (aG (aL k) (aG (aL k) bB)))) (v':= .agg [.int v5.size,.own 1 0 v5.basis.length]) (ed':=[(1,some ⟨1,List.map (ow (dD 1 eI)) v5.basis⟩)]) (by simp only [bD]) (eN (nb':=[(1,⟨1,List.map (ow (dD 1 eI)) v5.basis⟩)]) (by simp only [cR]))) k<|ae (aC aA k k k k k k k) k ?_
   obtain ⟨v6,hv6,h⟩:=ob h
   refine ae (aZ (aBC v5 a1 v6 hv6) k (aG (cA (aN (aT k) (aN (rY cS k k) cG))) (aG (cA (aN (aT k) (aN (aT k) cG))) bB))) k<|aa k k<|an ?_
   refine ⟨by kernel_rfl,?_⟩
   refine tn<|aO ?_
   obtain rfl:=so h
   exact aU k k k (bV k)
def iH (a0:Int) (a1:Int) (a2:(List (List Int))) (x1:Int):Option (Int ⊕ (Unit ⊕ Bool)):=
 bif decide (x1<(a2.length:Int)) then
 (Option.bind (dX a2 x1) fun v2=>
 bif !decide ((v2.length:Int)=a1) then
 (some (.inr (.inr (false))))
 else
 (Option.bind (dX a2 x1) fun v4=>
 Option.bind (gD a0 v4) fun v5=>
 bif !v5 then
 (some (.inr (.inr (false))))
 else
 (some (.inl (wr (x1+1))))))
 else
 (some (.inr (.inl ())))
def mF (a0:Int) (a1:Int) (a2:(List (List Int))):Option Bool:=
 Option.bind (Lp (iH a0 a1 a2) 0) fun y7=>
 Sum.elim (fun y8=>
 Option.bind (gQ a0) fun v9=>
 bif v9 then
 (Option.bind (fE a1 0 8) fun v11=>
 bif v11 then
 (some (decide ((a2.length:Int)≤16)))
 else
 (some (false)))
 else
 (some (false))
 )
 (fun y13=>
 some y13
 )
 y7
theorem aFs (a0:Int) (a1:Int) (a2:(List (List Int))) (r:Bool) (h:mF a0 a1 a2=some r):HasC Tryz.prog 180 [.int a0,.int a1,.list 1 (List.map (dD 1 eI) a2)] (.bl r):=by
 refine bN aA (rvs:=[.tmp 6]) (ns:=[0,1]) Tryz.func180 k k Tryz.ntmps180 k k k<|sQ<|rg<|aa k k<|an<|tn<|sQ<|sQ<|rg<|aa k k ?_
 refine an<|tn<|aP ?_
 obtain ⟨y7,hy7,h⟩:=ob h
 refine cW (body:=(iH a0 a1 a2)) hy7 (fun (x1:Int)=>bW [(0,.int a0),(1,.int a1),(2,.list 1 (List.map (dD 1 eI) a2)),(7,.int x1)] [] 0 [0,1]) (fun r e t=>Sum.elim (fun a=>(fun r e t=>e= .exit 0∧Ent t (bW [(0,.int a0),(1,.int a1),(2,.list 1 (List.map (dD 1 eI) a2))] [] 0 [0,1])) a e t) (fun b=>(fun r e t=>e= .ret∧sE TT [.tmp 6] (.bl r) .ret t) b e t) r) (aE (σ:=sg []) ⟨(e1 k k),(e1 k k),⟨_,k,⟨k,k⟩⟩,(e1 k k),trivial⟩ trivial k) ?_ ?_
 ·intro x1 o h
  refine sQ<|sQ<|rg<|am k k<|am k k<|ae (dK aA k k k) k<|ae (bE k k k) k<|an<|tn ?_
  rcases cb h with ⟨q1,h⟩|⟨q1,h⟩
  ·refine aK k q1<|aS<|tn<|sQ<|aP<|sQ<|rg<|am k k<|am k k ?_
   obtain ⟨v2,hv2,h⟩:=ob h
   refine ae (bJ aA hv2 k k k k k k) k<|ae (aV aA k k k k k k) k<|ae (dK aA k k k) k<|am k k<|ae (bE k k k) k<|am k k ?_
   rcases cb h with ⟨q3,h⟩|⟨q3,h⟩
   ·refine aY 21 k q3<|ak k k<|ak k k<|ak k k<|ak k k<|ak k k<|ak k k<|ak k k<|ae (aM k k) k<|an ?_
    refine tn<|aQ (t:=bW [(0,.int a0),(1,.int a1),(2,.list 1 (List.map (dD 1 eI) a2)),(7,.int x1),(29,.bl true)] [] 0 [0,1]) (aE (σ:=sg []) ⟨(e1 k k),(e1 k k),⟨_,k,⟨k,k⟩⟩,(e1 k k),(e1 k k),trivial⟩ trivial k)<|aK k k<|sQ<|rg<|aa k k<|an<|tn<|aO<|bC ?_
    refine aI<|aI ?_
    obtain rfl:=so h
    exact ⟨_,k,k,aU k k k (bV k)⟩
   ·refine aY 21 k q3<|am k k<|am k k<|am k k ?_
    obtain ⟨v4,hv4,h⟩:=ob h
    refine ae (bJ aA hv4 k k k k k k) k<|ae (aV aA k k k k k k) k ?_
    obtain ⟨v5,hv5,h⟩:=ob h
    refine ae (aZ (tR a0 v4 v5 hv5) k (aG (aL k) (aG (aL k) bB))) k<|ae (cF k) k<|ae (aM k k) k<|an<|tn<|aQ (t:=bW [(0,.int a0),(1,.int a1),(2,.list 1 (List.map (dD 1 eI) a2)),(7,.int x1),(29,.bl (!v5))] [] 0 [0,1]) (aE (σ:=sg []) ⟨(e1 k k),(e1 k k),⟨_,k,⟨k,k⟩⟩,(e1 k k),(e1 k k),trivial⟩ trivial k) ?_
    rcases cb h with ⟨q6,h⟩|⟨q6,h⟩
    ·refine aK k q6<|sQ<|rg<|aa k k<|an<|tn<|aO<|bC<|aI<|aI ?_
     obtain rfl:=so h
     exact ⟨_,k,k,aU k k k (bV k)⟩
    ·refine aR k q6<|aS<|bF<|tn<|rg<|am k k<|ae (bZ k k) k<|aa k k<|an<|tn ?_
     obtain rfl:=so h
     exact ⟨_,k,(aE (σ:=sg []) ⟨(e1 k k),(e1 k k),⟨_,k,⟨k,k⟩⟩,(e1 k k),trivial⟩ trivial k)⟩
  ·refine aR k q1<|bG<|aH<|aH ?_
   obtain rfl:=so h
   exact ⟨_,k,k,(aE (σ:=sg []) ⟨(e1 k k),(e1 k k),⟨_,k,⟨k,k⟩⟩,trivial⟩ trivial k)⟩
 ·intro e t hX
  rcases y7 with y8|y13
  ·obtain ⟨rfl,hent⟩:=hX
   refine aW<|tn<|aQ hent<|sQ<|rg<|am k k ?_
   obtain ⟨v9,hv9,h⟩:=ob h
   refine ae (aZ (kM a0 v9 hv9) k (aG (aL k) bB)) k<|am k k ?_
   rcases cb h with ⟨q10,h⟩|⟨q10,h⟩
   ·refine aY 32 k q10<|am k k ?_
    obtain ⟨v11,hv11,h⟩:=ob h
    refine ae (aZ (gC a1 0 8 v11 hv11) k (aG (aL k) (aG (aL k) (aG (aL k) bB)))) k<|ae (aM k k) k<|am k k ?_
    rcases cb h with ⟨q12,h⟩|⟨q12,h⟩
    ·refine aY 36 k q12<|am k k<|ae (dK aA k k k) k<|ae (bE k k k) k<|ae (aM k k) k<|aa k k<|an<|tn<|aQ (t:=bW [(6,.bl (decide ((a2.length:Int)≤16)))] [] 0 [0,1]) (aE (σ:=sg []) ⟨(e1 k k),trivial⟩ trivial k)<|aO ?_
     obtain rfl:=so h
     exact aU k k k (bV k)
    ·refine aY 36 k q12<|ak k k<|ak k k<|ak k k<|ae (aM k k) k<|aa k k<|an<|tn<|aQ (t:=bW [(6,.bl false)] [] 0 [0,1]) (aE (σ:=sg []) ⟨(e1 k k),trivial⟩ trivial k)<|aO ?_
     obtain rfl:=so h
     exact aU k k k (bV k)
   ·refine aY 32 k q10<|ak k k<|ak k k<|ae (aM k k) k<|am k k<|ak k k<|ak k k<|ak k k<|ae (aM k k) k<|aa k k ?_
    refine an<|tn<|aQ (t:=bW [(6,.bl false)] [] 0 [0,1]) (aE (σ:=sg []) ⟨(e1 k k),trivial⟩ trivial k)<|aO ?_
    obtain rfl:=so h
    exact aU k k k (bV k)
  ·obtain ⟨rfl,hent⟩:=hX
   refine bC<|aI ?_
   obtain rfl:=so h
   exact hent
def kT (a0:(List (List Int))) (a1:(List (List Int))) (x1:Int) (x2:Int):Option (Int ⊕ (Unit ⊕ Bool)):=
 Option.bind (dX a0 x1) fun v6=>
 bif decide (x2<(v6.length:Int)) then
 (Option.bind (dX a0 x1) fun v8=>
 Option.bind (dX v8 x2) fun v9=>
 Option.bind (dX a1 x1) fun v10=>
 Option.bind (dX v10 x2) fun v11=>
 bif !decide (v9=v11) then
 (some (.inr (.inr (false))))
 else
 (some (.inl (wr (x2+1)))))
 else
 (some (.inr (.inl ())))
def iI (a0:(List (List Int))) (a1:(List (List Int))) (x1:Int):Option (Int ⊕ (Unit ⊕ Bool)):=
 bif decide (x1<(a0.length:Int)) then
 (Option.bind (dX a0 x1) fun v3=>
 Option.bind (dX a1 x1) fun v4=>
 bif !decide ((v3.length:Int)=(v4.length:Int)) then
 (some (.inr (.inr (false))))
 else
 (Option.bind (Lp (kT a0 a1 x1) 0) fun y13=>
 Sum.elim (fun y14=>
 some (.inl (wr (x1+1)))
 )
 (fun y15=>
 some (.inr (.inr y15))
 )
 y13))
 else
 (some (.inr (.inl ())))
def mG (a0:(List (List Int))) (a1:(List (List Int))):Option Bool:=
 bif !decide ((a0.length:Int)=(a1.length:Int)) then
 (some (false))
 else
 (Option.bind (Lp (iI a0 a1) 0) fun y16=>
 Sum.elim (fun y17=>
 some (true)
 )
 (fun y18=>
 some y18
 )
 y16)
theorem aFt (a0:(List (List Int))) (a1:(List (List Int))) (r:Bool) (h:mG a0 a1=some r):HasC Tryz.prog 181 [.list 1 (List.map (dD 1 eI) a0),.list 1 (List.map (dD 1 eI) a1)] (.bl r):=by
 refine bN aA (rvs:=[.tmp 4]) (ns:=[0,1]) Tryz.func181 k k Tryz.ntmps181 k k k<|sQ<|rg<|aa k k<|an<|tn<|sQ<|sQ<|rg<|am k k ?_
 refine ae (dK aA k k k) k<|am k k<|ae (dK aA k k k) k<|ae (bE k k k) k<|an<|tn ?_
 rcases cb h with ⟨q1,h⟩|⟨q1,h⟩
 ·refine aK k q1<|sQ<|rg<|aa k k<|an<|tn<|aO<|aI ?_
  obtain rfl:=so h
  exact aU k k k (bV k)
 ·refine aR k q1<|aS<|tn<|sQ<|sQ<|rg<|aa k k<|an<|tn<|aP ?_
  obtain ⟨y16,hy16,h⟩:=ob h
  refine cW (body:=(iI a0 a1)) hy16 (fun (x1:Int)=>bW [(0,.list 1 (List.map (dD 1 eI) a0)),(1,.list 1 (List.map (dD 1 eI) a1)),(5,.int x1)] [] 0 [0,1]) (fun r e t=>Sum.elim (fun a=>(fun r e t=>e= .exit 0∧Ent t (bW [] [] 0 [0,1])) a e t) (fun b=>(fun r e t=>e= .ret∧sE TT [.tmp 4] (.bl r) .ret t) b e t) r) (aE (σ:=sg []) ⟨⟨_,k,⟨k,k⟩⟩,⟨_,k,⟨k,k⟩⟩,(e1 k k),trivial⟩ trivial k) ?_ ?_
  ·intro x1 o h
   refine sQ<|sQ<|rg<|am k k<|am k k<|ae (dK aA k k k) k<|ae (bE k k k) k<|an<|tn ?_
   rcases cb h with ⟨q2,h⟩|⟨q2,h⟩
   ·refine aK k q2<|aS<|tn<|sQ<|aP<|sQ<|sQ<|aX kY<|am k k<|am k k ?_
    obtain ⟨v3,hv3,h⟩:=ob h
    refine ae (bJ aA hv3 k k k k k k) k<|ae (aV aA k k k k k k) k<|ae (dK aA k k k) k<|am k k<|am k k ?_
    obtain ⟨v4,hv4,h⟩:=ob h
    refine ae (bJ aA hv4 k k k k k k) k<|ae (aV aA k k k k k k) k<|ae (dK aA k k k) k<|ae (bE k k k) k<|an ?_
    refine ⟨by kernel_rfl,?_⟩
    refine tn<|aQ (t:=bW [(0,.list 1 (List.map (dD 1 eI) a0)),(1,.list 1 (List.map (dD 1 eI) a1)),(5,.int x1),(28,.bl (!decide ((v3.length:Int)=(v4.length:Int))))] [] 0 [0,1]) (aE (σ:=sg []) ⟨⟨_,k,⟨k,k⟩⟩,⟨_,k,⟨k,k⟩⟩,(e1 k k),(e1 k k),trivial⟩ trivial k) ?_
    rcases cb h with ⟨q5,h⟩|⟨q5,h⟩
    ·refine aK k q5<|sQ<|rg<|aa k k<|an<|tn<|aO<|aI<|bC<|aI ?_
     refine aI ?_
     obtain rfl:=so h
     exact ⟨_,k,k,aU k k k (bV k)⟩
    ·refine aR k q5<|aS<|tn<|sQ<|rg<|aa k k<|an<|tn<|aP ?_
     obtain ⟨y13,hy13,h⟩:=ob h
     refine cW (body:=(kT a0 a1 x1)) hy13 (fun (x2:Int)=>bW [(0,.list 1 (List.map (dD 1 eI) a0)),(1,.list 1 (List.map (dD 1 eI) a1)),(5,.int x1),(6,.int x2)] [] 0 [0,1]) (fun r e t=>Sum.elim (fun a=>(fun r e t=>e= .exit 2∧Ent t (bW [(0,.list 1 (List.map (dD 1 eI) a0)),(1,.list 1 (List.map (dD 1 eI) a1)),(5,.int x1)] [] 0 [0,1])) a e t) (fun b=>(fun r e t=>e= .ret∧sE TT [.tmp 4] (.bl r) .ret t) b e t) r) (aE (σ:=sg []) ⟨⟨_,k,⟨k,k⟩⟩,⟨_,k,⟨k,k⟩⟩,(e1 k k),(e1 k k),trivial⟩ trivial k) ?_ ?_
     ·intro x2 o h
      refine sQ<|sQ<|rg<|am k k<|am k k<|am k k ?_
      obtain ⟨v6,hv6,h⟩:=ob h
      refine ae (bJ aA hv6 k k k k k k) k<|ae (aV aA k k k k k k) k<|ae (dK aA k k k) k<|ae (bE k k k) k<|an<|tn ?_
      rcases cb h with ⟨q7,h⟩|⟨q7,h⟩
      ·refine aK k q7<|aS<|tn<|sQ<|aP<|sQ<|aX kY<|am k k<|am k k ?_
       obtain ⟨v8,hv8,h⟩:=ob h
       refine ae (bJ aA hv8 k k k k k k) k<|ae (aV aA k k k k k k) k<|am k k ?_
       obtain ⟨v9,hv9,h⟩:=ob h
       refine ae (bJ aA hv9 k k k k k k) k<|ae (aV aA k k k k k k) k<|am k k<|am k k ?_
       obtain ⟨v10,hv10,h⟩:=ob h
       refine ae (bJ aA hv10 k k k k k k) k<|ae (aV aA k k k k k k) k<|am k k ?_
       obtain ⟨v11,hv11,h⟩:=ob h
       refine ae (bJ aA hv11 k k k k k k) k<|ae (aV aA k k k k k k) k<|ae (bE k k k) k<|an ?_
       refine ⟨by kernel_rfl,?_⟩
       refine tn<|aQ (t:=bW [(0,.list 1 (List.map (dD 1 eI) a0)),(1,.list 1 (List.map (dD 1 eI) a1)),(5,.int x1),(6,.int x2),(52,.bl (!decide (v9=v11)))] [] 0 [0,1]) (aE (σ:=sg []) ⟨⟨_,k,⟨k,k⟩⟩,⟨_,k,⟨k,k⟩⟩,(e1 k k),(e1 k k),(e1 k k),trivial⟩ trivial k) ?_
       rcases cb h with ⟨q12,h⟩|⟨q12,h⟩
       ·refine aK k q12<|sQ<|rg<|aa k k<|an<|tn<|aO<|bC<|aI<|aI ?_
        obtain rfl:=so h
        exact ⟨_,k,k,aU k k k (bV k)⟩
       ·refine aR k q12<|aS<|bF<|tn<|rg<|am k k<|ae (bZ k k) k<|aa k k<|an<|tn ?_
        obtain rfl:=so h
        exact ⟨_,k,(aE (σ:=sg []) ⟨⟨_,k,⟨k,k⟩⟩,⟨_,k,⟨k,k⟩⟩,(e1 k k),(e1 k k),trivial⟩ trivial k)⟩
      ·refine aR k q7<|bG<|aH<|aH ?_
       obtain rfl:=so h
       exact ⟨_,k,k,(aE (σ:=sg []) ⟨⟨_,k,⟨k,k⟩⟩,⟨_,k,⟨k,k⟩⟩,(e1 k k),trivial⟩ trivial k)⟩
     ·intro e t hX
      rcases y13 with y14|y15
      ·obtain ⟨rfl,hent⟩:=hX
       refine aW<|bF<|tn<|aQ hent<|rg<|am k k<|ae (bZ k k) k<|aa k k<|an<|tn ?_
       obtain rfl:=so h
       exact ⟨_,k,(aE (σ:=sg []) ⟨⟨_,k,⟨k,k⟩⟩,⟨_,k,⟨k,k⟩⟩,(e1 k k),trivial⟩ trivial k)⟩
      ·obtain ⟨rfl,hent⟩:=hX
       refine bC<|bC<|aI<|aI ?_
       obtain rfl:=so h
       exact ⟨_,k,k,hent⟩
   ·refine aR k q2<|bG<|aH<|aH ?_
    obtain rfl:=so h
    exact ⟨_,k,k,(aE (σ:=sg []) trivial trivial k)⟩
  ·intro e t hX
   rcases y16 with y17|y18
   ·obtain ⟨rfl,hent⟩:=hX
    refine aW<|tn<|aQ hent<|sQ<|rg<|aa k k<|an<|tn<|aO ?_
    obtain rfl:=so h
    exact aU k k k (bV k)
   ·obtain ⟨rfl,hent⟩:=hX
    refine bC<|aI ?_
    obtain rfl:=so h
    exact hent
def fG (a0:Int) (a1:Sc):Option Bool:=
 Option.bind (mF a0 a1.size a1.basis) fun v1=>
 bif !v1 then
 (some (false))
 else
 (Option.bind (jX a1.size a1.basis) fun v3=>
 Option.bind (iS a0 v3) fun v4=>
 Option.bind (mG v4 a1.basis) fun v5=>
 some (v5))
theorem nI (a0:Int) (a1:Sc) (r:Bool) (h:fG a0 a1=some r):HasC Tryz.prog 135 [.int a0,.agg (eS a1)] (.bl r):=by
 refine bN aA (rvs:=[.tmp 4]) (ns:=[0,1,2,3,4]) Tryz.func135 k k Tryz.ntmps135 k k k<|sQ<|rg<|ae (cD k k k k) k<|aa k k<|an<|tn<|sQ<|sQ<|rg ?_
 refine am k k<|ae (aD aA k k k k k k k) k<|ae (aC aA k k k k k k k) k<|ae (aD aA k k k k k k k) k<|ae (aC aA k k k k k k k) k ?_
 obtain ⟨v1,hv1,h⟩:=ob h
 refine ae (aZ (aFs a0 a1.size a1.basis v1 hv1) k (aG (aL k) (aG (aL k) (aG (aL k) bB)))) k<|ae (cF k) k<|an<|tn ?_
 rcases cb h with ⟨q2,h⟩|⟨q2,h⟩
 ·refine aK k q2<|sQ<|rg<|aa k k<|an<|tn<|aO<|aI ?_
  obtain rfl:=so h
  exact aU k k k (bV k)
 ·refine aR k q2<|aS<|tn<|sQ<|aX kY<|am k k<|ae (aD aA k k k k k k k) k<|ae (aC aA k k k k k k k) k<|ae (aD aA k k k k k k k) k<|ae (aC aA k k k k k k k) k ?_
  obtain ⟨v3,hv3,h⟩:=ob h
  refine ae (AEff.conv (cO (x:= .agg [.int v3.rows,.int v3.cols,.own 1 0 (List.map eI v3.cells).length]) (nb:=[(1,⟨1,cU (List.map eI v3.cells)⟩)]) (aAh a1.size a1.basis v3 hv3) k (by rfl) k k (bX trivial (bX trivial (bX (eD.good _) gF))) (aG (aL k) (aG (aL k) bB))) (v':= .agg [.int v3.rows,.int v3.cols,.own 1 0 v3.cells.length]) (ed':=[(1,some ⟨1,List.map (ow eI) v3.cells⟩)]) (by simp only [bD]) (eN (nb':=[(1,⟨1,List.map (ow eI) v3.cells⟩)]) (by simp only [cR]))) k ?_
  obtain ⟨v4,hv4,h⟩:=ob h
  refine ae (AEff.conv (cO (x:= .own 2 0 (List.map (dD 1 eI) v4).length) (nb:=[(2,⟨1,cU (List.map (dD 1 eI) v4)⟩)]) (zL a0 v3 v4 hv4) k (by rfl) k k (cS.good _) (aG (aL k) (aG (cA (aN (aT k) (aN (aT k) (aN (rY eD k k) cG)))) bB))) (v':= .own 2 0 v4.length) (ed':=[(2,some ⟨1,List.map (ow (dD 1 eI)) v4⟩)]) (by simp only [bD]) (eN (nb':=[(2,⟨1,List.map (ow (dD 1 eI)) v4⟩)]) (by simp only [cR]))) k<|ae (aD aA k k k k k k k) k<|ae (aC aA k k k k k k k) k ?_
  obtain ⟨v5,hv5,h⟩:=ob h
  refine ae (aZ (aFt v4 a1.basis v5 hv5) k (aG (aFl cS k k) (aG (aL k) bB))) k<|aa k k<|an ?_
  refine ⟨by kernel_rfl,?_⟩
  refine tn<|aQ (t:=bW [(4,.bl v5)] [] 3 [3,4]) (aE (σ:=sg []) ⟨(e1 k k),trivial⟩ trivial k)<|aO ?_
  obtain rfl:=so h
  exact aU k k k (bV k)
end
noncomputable section
theorem aKk {l:List (List Int)} {n:Nat} (h: ∀ v∈l,v.length=n):l=(List.range l.length).map fun i=>kR n (dA l i):=by
 refine List.ext_getElem (by simp) fun i h1 h2=>?_
 simp only [List.getElem_map,List.getElem_range]
 refine List.ext_getElem (by rw [fB];exact h _ (List.getElem_mem h1)) fun j h3 h4=>?_
 simp [kR,dA,h1,h3]
theorem aGt {l:List (List Int)} {n:Nat} (h: ∀ v∈l,v.length=n):l.flatten=dB l.length n (dA l):=by
 have e:l.flatten=((List.range l.length).map fun i=>kR n (dA l i)).flatten:=by rw [←aKk h]
 rw [e,aIg]
theorem aHg {p:Int} (hp:kB p=true) {n:Nat} {l:List (List Int)} (hn:n≤1024) (hl:l.length≤512) (h:VecsP p n l):Tb p l.length n (dA l):=by
 refine ⟨hp,?_,by omega,by omega,h.inP⟩
 have:=Nat.mul_le_mul hl hn
 omega
theorem aIh {r c i:Nat} (hN:r*c≤1048576) (hr:r≤1048576) (hi:i<r) (F:Nat→Nat→Int):((dB r c F).drop (0+(i*c))).take ((i*c+c) - i*c)=kR c (F i):=by
 have h:= @aFF r c i hi
 rw [Nat.succ_mul] at h
 refine List.ext_getElem (by simp [gO,fB];omega) fun t h1 h2=>?_
 rw [fB] at h2
 rw [List.getElem_take,List.getElem_drop]
 simp [dB,kR,aEr h2,aEs h2]
theorem aAj (F:Nat→Nat→Int) (r n:Nat):fF F r n=(List.range r).map fun i=>kR n (F i):=rfl
theorem aAk (F:Nat→Nat→Int) (r n:Nat):fF F r n++[kR n (F r)]=fF F (r+1) n:=by
 rw [aAj,aAj,List.range_succ,List.map_append];rfl
theorem aJr {n:Nat} {l:List (List Int)} (hn:n≤1024) (hl:l.length≤512) (h: ∀ v∈l,v.length=n):pN n l=some ⟨l.length,n,dB l.length n (dA l)⟩:=by
 unfold pN
 rw [aMk hl (fun v hv=>by rw [h v hv];exact hn),Option.bind_some,aGt h]
theorem aFM {p:Int} (hp:kB p=true) {n:Nat} {l:List (List Int)} (hn:n≤1024) (hl:l.length≤512) (h:VecsP p n l):tJ p n l=some ⟨n,fD p n l⟩:=by
 have T:=aHg hp hn hl h
 have hL:= @qV p l.length (dA l) n
 have h1:=T.hN
 unfold tJ
 rw [aJr hn hl (fun v hv=>(h v hv).1),Option.bind_some,aHd T,Option.bind_some]
 rw [fJ (r:=fD p n l) (fun k=>(fF (cV p l.length (dA l) n).1 k n,(k:Int))) (cV p l.length (dA l) n).2.length (by simp [fF]) (fun k hk=>?_) (fun _=>?_),Option.bind_some]
 ·have hkl:k<l.length:=by omega
  have h3:= @aFF l.length n k hkl
  rw [Nat.succ_mul] at h3
  unfold rO
  simp only
  rw [kS,nD hk,cond_true,aFG T.hN T.hm hkl,Option.bind_some,qE T.hN hkl,sP T.hN T.hm hkl]
  simp only [Int.toNat_natCast]
  rw [aIh T.hN T.hm hkl]
  unfold rH
  rw [fB,decide_eq_true (by omega),cond_true,Option.bind_some,nQ,decide_eq_true (by omega),cond_true,aAk,dO hk (by omega)]
 ·unfold rO
  simp only
  rw [kS,qZ (Nat.le_refl _),cond_false]
  rfl
theorem aIi {n:Nat} {l:List (List Int)} (hn:n≤1024) (hl:l.length≤512) (h: ∀ v∈l,v.length=n):jX n l=some ⟨l.length,n,dB l.length n (dA l)⟩:=by
 have hb: ∀ k,(l.take k).flatten.length ≤1024*512:=fun k=>by
  have:=aGs (l:=l.take k) fun x hx=>by rw [h x (List.mem_of_mem_take hx)];exact hn
  have h2:(l.take k).length ≤512:=by simp;omega
  omega
 unfold jX
 rw [fJ (r:=l.flatten) (fun k=>((l.take k).flatten,(k:Int))) l.length (by simp) (fun k hk=>?_) (fun _=>?_),Option.bind_some,aGt h]
 ·unfold oB
  simp only
  have e2:=hb (k+1)
  rw [uR hk,List.length_append] at e2
  rw [nD hk,cond_true,fS hk,Option.bind_some,decide_eq_true (by omega),cond_true,dO hk (by omega),uR hk]
 ·unfold oB
  simp only
  rw [qZ (Nat.le_refl _),cond_false,List.take_length]
theorem aGu {p:Int} {m n:Nat} {F:Nat→Nat→Int} (T:Tb p m n F):iS p ⟨m,n,dB m n F⟩=some (fF (cV p m F n).1 (cV p m F n).2.length n):=by
 have hL:= @qV p m F n
 have hm:=T.hm
 have hn:=T.hn
 unfold iS
 rw [aHe T,Option.bind_some]
 rw [fJ (r:=fF (cV p m F n).1 (cV p m F n).2.length n) (fun k=>(fF (cV p m F n).1 k n,(k:Int))) (cV p m F n).2.length (by simp [fF]) (fun k hk=>?_) (fun _=>?_),Option.bind_some]
 ·have hkl:k<m:=by omega
  have h3:= @aFF m n k hkl
  rw [Nat.succ_mul] at h3
  have h4:=T.hN
  have e:wr (wr ((k:Int)*(n:Int))+(n:Int))=((k*n+n:Nat):Int):=by rw [qE T.hN hkl,gV (by omega)];omega
  unfold mV
  simp only
  rw [kS,nD hk,cond_true,e,qE T.hN hkl,gO,decide_eq_true (by omega),decide_eq_true (by omega:((k*n:Nat):Int)≤((k*n+n:Nat):Int)),decide_eq_true (by omega:((k*n+n:Nat):Int)≤((m*n:Nat):Int))]
  simp only [Int.toNat_natCast,Bool.and_self,cond_true,aIh T.hN T.hm hkl]
  rw [fB,decide_eq_true (by simp;omega),cond_true,nQ,decide_eq_true (by omega),cond_true,List.nil_append,aAk,dO hk (by omega)]
 ·unfold mV
  simp only
  rw [kS,qZ (Nat.le_refl _),cond_false]
theorem aIj {p:Int} (hp:kB p=true) {n:Nat} {l:List (List Int)} (hn:n≤1024) (hl:l.length≤512) (h:VecsP p n l):oU p n l=some ⟨n,fD p n l⟩:=by
 unfold oU
 rw [aIi hn hl (fun v hv=>(h v hv).1),Option.bind_some,aGu (aHg hp hn hl h),Option.bind_some]
 rfl
def bLs (l:List (List Int)):Prop:=l.length≤1048576∧ ∀ v∈l,bI v
theorem aJs (p:Int) (v:List Int):(kB p&&decide (v.length≤64)&&v.all fun x=>rA x 0 (wr (p - 1)))=yX p v:=by
 unfold yX
 cases h:kB p with
 |false=>rfl
 |true=>rw [gV (by have:=fT h;omega)]
theorem aNp {α:Type} {l:List α} {P Q:α→Bool} (h: ∀ x∈l,P x=Q x):l.all P=l.all Q:=by
 induction l with
 |nil=>rfl
 |cons x l ih=>rw [List.all_cons,List.all_cons,h x (by simp),ih fun y hy=>h y (by simp [hy])]
theorem aEV (p size:Int) (l:List (List Int)):aBi p size l=(kB p&&rA size 0 8&&decide (l.length≤16)&&l.all fun v=>decide ((v.length:Int)=size)&&yX p v):=rfl
theorem aCB {l:List (List Int)} {f:List Int→Option Bool} (P:List Int→Bool) (hf: ∀ x∈l,f x=some (P x)) (h:l.length≤1048576):dW l f=some (l.any P):=by
 unfold dW gS
 rw [aCd (s0:=0) (s:=0) (n:=l.length) (fun k=>bif P (l[k]?.getD []) then some (k:Int) else none) rfl (by omega) (Nat.zero_le _) (fun k _ hk=>?_) (fun _=>?_)]
 ·rw [Option.bind_some]
  cases e:(List.range' 0 (l.length - 0)).findSome? (fun k:Nat=>bif P (l[k]?.getD []) then some (k:Int) else none) with
  |none=>
   rw [List.findSome?_eq_none_iff] at e
   have:l.any P=false:=by
    rw [List.any_eq_false]
    intro x hx
    obtain ⟨k,hk,rfl⟩:=List.mem_iff_getElem.1 hx
    have:=e k (by simp;omega)
    simp only [List.getElem?_eq_getElem hk,Option.getD_some] at this
    cases hp:P l[k] with
    |false=>simp
    |true=>rw [hp] at this;cases this
   rw [this];rfl
  |some i=>
   obtain ⟨k,hk,he⟩:=List.exists_of_findSome?_eq_some e
   simp at hk
   have hkl:k<l.length:=by omega
   rw [List.getElem?_eq_getElem hkl] at he
   simp only [Option.getD_some] at he
   cases hp:P l[k] with
   |false=>rw [hp] at he;cases he
   |true=>
    rw [hp] at he
    cases he
    have:l.any P=true:=List.any_eq_true.2 ⟨_,List.getElem_mem hkl,hp⟩
    rw [this]
    simp only [Sum.elim_inr,Option.bind_some]
    rw [decide_eq_true (by omega)]
 ·unfold eY
  rw [nD hk,cond_true,tN [] hk,Option.bind_some,hf _ (eO [] hk),Option.bind_some]
  cases P _ <;> rfl
 ·unfold eY
  rw [qZ (Nat.le_refl _),cond_false]
theorem aHh (p n:Int) {l:List (List Int)} (h:bLs l):mW p n l=some (rA n 0 8&&(decide (l.length≤16)&&l.all fun v=>decide ((v.length:Int)=n)&&yX p v)):=by
 unfold mW
 rw [tH,Option.bind_some]
 refine gM fun _=>?_
 rw [show decide ((l.length:Int)≤16)=decide (l.length≤16) by rw [Bool.eq_iff_iff,decide_eq_true_eq,decide_eq_true_eq];omega]
 refine gM fun _=>?_
 rw [aCB (fun v=> !(decide ((v.length:Int)=n)&&yX p v)) (fun v hv=>?_) h.1,Option.bind_some,List.not_any_eq_all_not]
 ·simp
 ·unfold kG
  cases decide ((v.length:Int)=n) with
  |false=>rfl
  |true=>rw [Bool.not_true,cond_false,aGm p (h.2 v hv),Option.bind_some,aJs,Bool.true_and]
theorem aLU {a b:List (List Int)} (h:bLs a):dS a b (fun b0 b1=>gT b0 b1)=some (decide (a=b)):=by
 obtain ⟨h,hb⟩:=h
 unfold dS
 rw [zG]
 by_cases e:a.length=b.length
 ·rw [decide_eq_true e,Bool.not_true,cond_false]
  refine aBx (by omega) e (fun k h1 h2=>?_) ?_
  ·unfold dH gT
   simp only
   rw [nD h1,cond_true,fS h1,Option.bind_some,fS h2,Option.bind_some,aLM (hb _ (List.getElem_mem h1)),Option.bind_some,Option.bind_some]
   cases decide (a[k]=b[k]) <;> rfl
  ·unfold dH
   rw [qZ (Nat.le_refl _),cond_false]
 ·rw [decide_eq_false e,Bool.not_false,cond_true,decide_eq_false (by rintro rfl;exact e rfl)]
theorem aFu {a b:Sc} (h:bLs a.basis):lJ a b=some (decide (a.size=b.size)&&decide (a.basis=b.basis)):=by
 unfold lJ
 refine gM fun _=>?_
 rw [aLU h,Option.bind_some]
theorem aOd {p:Int} {n:Nat} {l:List (List Int)} (hl:l.length≤1048576) (hn:n≤1048576) (h:VecsP p n l):bLs l:=⟨hl,fun v hv=>by unfold bI;rw [(h v hv).1];exact hn⟩
theorem aIk {p:Int} (hp:kB p=true) {n:Nat} {l:List (List Int)} (hn:n≤1048576) (h:VecsP p n l):bLs (fD p n l):=aOd (by have:=(@yZ p n l).1;omega) hn (aCg hp h.inP)
theorem aFv (p:Int) {s:Sc} (h:bS s):rP p s=some (mI p s.size s.basis):=by
 unfold rP mI
 rw [aAN,Option.bind_some,aHh p s.size h.1,Option.bind_some,aEV]
 cases hf:kB p with
 |false=>simp
 |true=>
  rw [Bool.not_true,cond_false]
  cases hv:(rA s.size 0 8&&(decide (s.basis.length≤16)&&s.basis.all fun v=>decide ((v.length:Int)=s.size)&&yX p v)) with
  |false=>
   have hx:(true&&rA s.size 0 8&&decide (s.basis.length≤16)&&s.basis.all fun v=>decide ((v.length:Int)=s.size)&&yX p v)=false:=by rw [Bool.true_and,Bool.and_assoc];exact hv
   rw [hx];rfl
  |true=>
   have hfine:aBi p s.size s.basis=true:=by rw [aEV,hf];simp only [Bool.true_and,Bool.and_assoc];exact hv
   obtain ⟨_,n,e,hn,hl,hv2⟩:=zA hfine
   rw [Bool.not_true,cond_false,e,aFM hf (by omega) (by omega) hv2,Option.bind_some,aFu (aIk hf (by omega) hv2),Option.bind_some]
   rw [e] at hfine
   rw [aEV,hf] at hfine
   rw [hfine]
   simp [e]
theorem aMn (p n:Int) {l:List (List Int)} (h:bLs l):mF p n l=some (aBi p n l):=by
 unfold mF
 have hall:=uQ ([]:List Int) l (fun v=>decide ((v.length:Int)=n)&&yX p v)
 have hb:=h.1
 rw [tP (fun k=>decide ((((l[k]?.getD []).length:Nat):Int)=n)&&yX p (l[k]?.getD [])) false (n:=l.length) (by omega) (fun k hk=>?_) (fun _=>?_),Option.bind_some,hall,aEV]
 ·cases l.all fun v=>decide ((v.length:Int)=n)&&yX p v with
  |false=>simp
  |true=>
   simp only [cond_true,Sum.elim_inl]
   rw [aBy,Option.bind_some,sO,Option.bind_some,Bool.and_true,Bool.and_assoc]
   refine gM fun _=>?_
   refine gM fun _=>?_
   congr 1
   rw [Bool.eq_iff_iff,decide_eq_true_eq,decide_eq_true_eq];omega
 ·unfold iH
  rw [nD hk,cond_true,tN [] hk,Option.bind_some,Option.bind_some,aCt p (h.2 _ (eO [] hk)),Option.bind_some,aJs]
  cases decide ((((l[k]?.getD []).length:Nat):Int)=n) <;> cases yX p (l[k]?.getD []) <;> rfl
 ·unfold iH
  rw [qZ (Nat.le_refl _),cond_false]
theorem aMo {a b:List (List Int)} (h:bLs a):mG a b=some (decide (a=b)):=by
 obtain ⟨h,hb⟩:=h
 unfold mG
 rw [zG]
 by_cases e:a.length=b.length
 ·rw [decide_eq_true e,Bool.not_true,cond_false]
  refine aBx (by omega) e (fun k h1 h2=>?_) ?_
  ·have hbk:=hb _ (List.getElem_mem h1)
   unfold bI at hbk
   unfold iI
   rw [nD h1,cond_true,fS h1,Option.bind_some,fS h2,Option.bind_some,zG]
   by_cases e2:a[k].length=b[k].length
   ·rw [decide_eq_true e2,Bool.not_true,cond_false]
    have h3:=tP (body:=kT a b k) (fun j=>decide (a[k][j]?.getD 0=b[k][j]?.getD 0)) false (n:=a[k].length) (by omega) (fun j hj=>?_) ?_
    ·rw [h3,aIS e2,Option.bind_some]
     cases decide (a[k]=b[k]) <;> rfl
    ·unfold kT
     rw [fS h1,Option.bind_some,nD hj,cond_true,Option.bind_some,tN 0 hj,Option.bind_some,fS h2,Option.bind_some,tN 0 (e2▸hj),Option.bind_some]
     cases decide (a[k][j]?.getD 0=b[k][j]?.getD 0) <;> rfl
    ·intro _
     unfold kT
     rw [fS h1,Option.bind_some,qZ (Nat.le_refl _),cond_false]
   ·rw [decide_eq_false e2,Bool.not_false,cond_true,decide_eq_false (fun e3=>e2 (by rw [e3])),cond_false]
  ·unfold iI
   rw [qZ (Nat.le_refl _),cond_false]
 ·rw [decide_eq_false e,Bool.not_false,cond_true,decide_eq_false (by rintro rfl;exact e rfl)]
theorem tE (p:Int) {s:Sc} (h:bS s):fG p s=some (mI p s.size s.basis):=by
 unfold fG mI
 rw [aMn p s.size h.1,Option.bind_some]
 cases hf:aBi p s.size s.basis with
 |false=>rfl
 |true=>
  obtain ⟨hp,n,e,hn,hl,hv⟩:=zA hf
  rw [Bool.not_true,cond_false,e,aIi (by omega) (by omega) (fun v hv'=>(hv v hv').1),Option.bind_some,aGu (aHg hp (by omega) (by omega) hv),Option.bind_some,show fF (cV p s.basis.length (dA s.basis) n).1 (cV p s.basis.length (dA s.basis) n).2.length n=fD p n s.basis from rfl,aMo (aIk hp (by omega) hv),Option.bind_some]
  simp
end
noncomputable section
set_option maxRecDepth 10000
set_option maxHeartbeats 4000000
end
noncomputable section
section
variable {α:Type} {mv:Int→α→α} {nv:α→Nat}
end
end
noncomputable section
set_option maxRecDepth 10000
set_option maxHeartbeats 4000000
end
noncomputable section
theorem aMp {p:Int} (hp:kB p=true) {n:Nat} {l l':List (List Int)} (h:xW p l.length n (dA l)) (h':xW p l'.length n (dA l')) (hK: ∀ x,Kr p l.length n (dA l) x↔Kr p l'.length n (dA l') x):fD p n l=fD p n l':=by
 obtain ⟨e1,e2⟩:=aHR hp h h' hK
 unfold fD
 rw [←e1]
 exact yY e2
end
noncomputable section
theorem aMq {k:Nat} {f:Nat→Nat} (hlt: ∀ t,t<k→f t<k) (hinc: ∀ s t,s<t→t<k→f s<f t): ∀ t,t<k→f t=t:=by
 have h1: ∀ t,t<k→t≤f t:=by
  intro t
  induction t with
  |zero=>intro _;exact Nat.zero_le _
  |succ t ih=>intro h;have:=ih (by omega);have:=hinc t (t+1) (by omega) h;omega
 have h2: ∀ d t,t+d+1=k→f t≤t:=by
  intro d
  induction d with
  |zero=>intro t h;have:=hlt t (by omega);omega
  |succ d ih=>intro t h;have:=ih (t+1) (by omega);have:=hinc t (t+1) (by omega) (by omega);omega
 intro t ht
 have:=h1 t ht
 have:=h2 (k - t - 1) t (by omega)
 omega
theorem aJt {L M:List Nat} (hL: ∀ i k,i<k→k<L.length→L[i]?.getD 0<L[k]?.getD 0) (hM: ∀ i k,i<k→k<M.length→M[i]?.getD 0<M[k]?.getD 0) (hs: ∀ t,t<M.length→ ∃ i,i<L.length∧L[i]?.getD 0=M[t]?.getD 0) (hl:L.length=M.length):L=M:=by
 have hs': ∀ t:Nat,∃ i,t<M.length→i<L.length∧L[i]?.getD 0=M[t]?.getD 0:=fun t=>by
  by_cases h:t<M.length
  ·obtain ⟨i,hi⟩:=hs t h;exact ⟨i,fun _=>hi⟩
  ·exact ⟨0,fun h'=>absurd h' h⟩
 obtain ⟨f,hf⟩:=Classical.axiomOfChoice hs'
 have e:=aMq (k:=M.length) (f:=f) (fun t ht=>hl▸(hf t ht).1) (fun s t hst ht=>by
  rcases Nat.lt_trichotomy (f s) (f t) with h|h|h
  ·exact h
  ·have a:=(hf s (by omega)).2;have b:=(hf t ht).2;have c:=hM s t hst ht;rw [h,b] at a;omega
  ·have a:=(hf s (by omega)).2;have b:=(hf t ht).2;have c:=hM s t hst ht
   have:=hL (f t) (f s) h (hf s (by omega)).1
   omega)
 refine List.ext_getElem hl fun i h1 h2=>?_
 have:=(hf i h2).2
 rw [e i h2] at this
 simpa [h1,h2] using this
theorem aMr {p:Int} (hp:kB p=true) {m m' n:Nat} {F G:Nat→Nat→Int} {L M:List Nat} (hF:Red m n F L) (hG:Red m' n G M) (iF:xW p m n F) (iG:xW p m' n G) (hK: ∀ x,Kr p m n F x→Kr p m' n G x) (hl:L.length=M.length):L=M∧ ∀ i j,i<L.length→j<n→F i j=G i j:=by
 have e:L=M:=aJt hF.inc hG.inc (fun t ht=>aHQ hp hF hG hK ht) hl
 subst e
 refine ⟨rfl,fun i k hi hk=>?_⟩
 have hm:=hF.len
 have hm':=hG.len
 by_cases hL: ∃ t,t<L.length∧L[t]?.getD 0=k
 ·obtain ⟨t,ht,rfl⟩:=hL
  by_cases e:i=t
  ·subst e;rw [hF.one i hi,hG.one i hi]
  ·rw [hF.col t i ht (by omega) e,hG.col t i ht (by omega) e]
 ·have hL: ∀ t,t<L.length→L[t]?.getD 0≠k:=fun t ht e=>hL ⟨t,ht,e⟩
  have h1:=hK _ (aHP (p:=p) hF hk hL) i (by omega)
  rw [aIU hF hk hL,aCh (j:=i) hi (fun t ht hti=>by rw [hG.col t i ht (by omega) (fun e=>hti e.symm)];simp),hG.one i hi,Int.one_mul] at h1
  unfold Z0 at h1
  have b1:=iF i k (by omega) hk
  have b2:=iG i k (by omega) hk
  have e1:G i k % p=F i k % p:=by
   have:=Int.emod_emod_of_dvd
   exact Int.emod_eq_emod_iff_emod_sub_eq_zero.2 h1
  rw [Int.emod_eq_of_lt b2.1 b2.2,Int.emod_eq_of_lt b1.1 b1.2] at e1
  exact e1.symm
theorem aGv {p:Int} {n:Nat} {l:List (List Int)} (hp:kB p=true) (hv:VecsP p n l) (hs:fD p n l=l): ∃ L,L.length=l.length∧Red l.length n (dA l) L:=by
 have hi:=hv.inP
 have hr:=aCf hp hi n (Nat.le_refl _)
 have hlen:(cV p l.length (dA l) n).2.length=l.length:=by
  have:=congrArg List.length hs
  unfold fD at this
  rw [nQ] at this
  exact this
 have hrow: ∀ i j,i<l.length→j<n→(cV p l.length (dA l) n).1 i j=dA l i j:=by
  intro i j hi hj
  have:=aEv (cV p l.length (dA l) n).1 (cV p l.length (dA l) n).2.length n i j (by omega) hj
  unfold fD at hs
  rw [hs] at this
  exact this.symm
 refine ⟨_,hlen,⟨hr.lt,hr.inc,by omega,fun i h=>?_,fun i k h hk hne=>?_,fun i j h h2 hj=>?_,fun i j h hj=>?_⟩⟩
 ·rw [←hrow i _ (by omega) (hr.lt i h)];exact hr.one i h
 ·rw [←hrow k _ hk (hr.lt i h)];exact hr.col i k h hk hne
 ·omega
 ·rw [←hrow i j (by omega) (by have:=hr.lt i h;omega)];exact hr.left i j h hj
def rsF (p:Int) (B:Nat→Nat→Int) (L:List Nat) (v:Nat→Int):Nat→Nat→Int
 |0=>v
 |t+1=>fun j=>(rsF p B L v t j+(p - rsF p B L v t (L[t]?.getD 0))*B t j) % p
theorem aMs {p:Int} (hp:kB p=true) {B:Nat→Nat→Int} {L:List Nat} {v:Nat→Int} {n:Nat} (hv: ∀ j,j<n→0≤v j∧v j<p): ∀ t j,j<n→0≤rsF p B L v t j∧rsF p B L v t j<p
 |0,j,h=>hv j h
 |t+1,j,_=>wB hp
theorem aHi {p:Int} (hp:kB p=true) {m n:Nat} {B:Nat→Nat→Int} {L:List Nat} (h:Red m n B L) {v:Nat→Int} : ∀ t,t≤L.length→ ∀ s,s<t→rsF p B L v t (L[s]?.getD 0)=0
 |0,_,s,hs=>absurd hs (Nat.not_lt_zero _)
 |t+1,ht,s,hs=>by
  have hm:=h.len
  simp only [rsF]
  by_cases e:s=t
  ·subst e
   rw [h.one s (by omega),Int.mul_one,show rsF p B L v s (L[s]?.getD 0)+(p - rsF p B L v s (L[s]?.getD 0))=p by omega,Int.emod_self]
  ·rw [h.col s t (by omega) (by omega) (fun e'=>e e'.symm),aHi hp h t (by omega) s (by omega)]
   simp
theorem aJu {p:Int} (hp:kB p=true) {m n:Nat} {B:Nat→Nat→Int} {L:List Nat} (hL:L.length≤m) {v x:Nat→Int} (hx:Kr p m n B x): ∀ t,t≤L.length→dt n (rsF p B L v t) x % p=dt n v x % p
 |0,_=>rfl
 |t+1,ht=>by
  have ih:=aJu hp hL (v:=v) hx t (by omega)
  have h1:=hx t (by omega)
  rw [←ih]
  simp only [rsF]
  rw [aHO (g:=fun j=>rsF p B L v t j+(p - rsF p B L v t (L[t]?.getD 0))*B t j) (fun k _=>by rw [Int.emod_emod_of_dvd _ (Int.dvd_refl p)]),aMQ]
  have h2:=aEw (p - rsF p B L v t (L[t]?.getD 0)) h1
  unfold Z0 at h2
  rw [Int.add_emod,h2]
  simp
theorem aMt {p:Int} (hp:kB p=true) {m n:Nat} {B:Nat→Nat→Int} {L:List Nat} (h:Red m n B L) {v:Nat→Int} (hv: ∀ j,j<n→0≤v j∧v j<p):(∀ j,j<n→rsF p B L v L.length j=0)↔ ∀ x,Kr p m n B x→Z0 p (dt n v x):=by
 constructor
 ·intro hz x hx
  have:=aJu hp h.len (v:=v) hx L.length (Nat.le_refl _)
  unfold Z0
  rw [←this]
  have e:dt n (rsF p B L v L.length) x=0:=by
   unfold dt
   rw [nG (g:=fun _=>0) (fun k hk=>by rw [hz k hk];simp),xY]
  rw [e]
  simp
 ·intro hz k hk
  by_cases hL: ∃ t,t<L.length∧L[t]?.getD 0=k
  ·obtain ⟨t,ht,rfl⟩:=hL
   exact aHi hp h L.length (Nat.le_refl _) t ht
  ·have hL: ∀ t,t<L.length→L[t]?.getD 0≠k:=fun t ht e=>hL ⟨t,ht,e⟩
   have hx:=aHP (p:=p) h hk hL
   have h1:=hz _ hx
   unfold Z0 at h1
   rw [←aJu hp h.len (v:=v) hx L.length (Nat.le_refl _),aIU h hk hL,nG (g:=fun _=>0) (fun i hi=>by rw [aHi hp h L.length (Nat.le_refl _) i hi];simp),xY,Int.sub_zero] at h1
   have b:=aMs hp (B:=B) (L:=L) hv L.length k hk
   rw [Int.emod_eq_of_lt b.1 b.2] at h1
   exact h1
theorem aAP {p:Int} {n:Nat} {a b:List (List Int)} {x:Nat→Int} :Kr p (a++b).length n (dA (a++b)) x↔Kr p a.length n (dA a) x∧Kr p b.length n (dA b) x:=by
 have e1: ∀ i,i<a.length→dA (a++b) i=dA a i:=fun i hi=>by funext j;simp only [dA];rw [List.getElem?_append_left hi]
 have e2: ∀ i,dA (a++b) (a.length+i)=dA b i:=fun i=>by funext j;simp only [dA];rw [List.getElem?_append_right (by omega),Nat.add_sub_cancel_left]
 unfold Kr
 rw [List.length_append]
 refine ⟨fun h=>⟨fun i hi=>e1 i hi▸h i (by omega),fun i hi=>e2 i▸h (a.length+i) (by omega)⟩,fun h i hi=>?_⟩
 rcases Nat.lt_or_ge i a.length with h'|h'
 ·rw [e1 i h'];exact h.1 i h'
 ·have:=h.2 (i - a.length) (by omega)
  rw [←e2,show a.length+(i - a.length)=i by omega] at this
  exact this
theorem yD {p:Int} (hp:kB p=true) {n:Nat} {a b:List (List Int)} (ha:VecsP p n a) (hb:VecsP p n b) (hs:fD p n b=b):(aFk p n a b).length=b.length↔ ∀ x,Kr p b.length n (dA b) x→Kr p a.length n (dA a) x:=by
 have hi:=(ha.append hb).inP
 constructor
 ·intro hl x hx
  obtain ⟨L,hLl,hR⟩:=aGv hp hb hs
  have hr:=aCf hp hi n (Nat.le_refl _)
  have hb':=fT hp
  have hlen:(cV p (a++b).length (dA (a++b)) n).2.length=L.length:=by
   unfold aFk fD at hl
   rw [nQ] at hl
   omega
  obtain ⟨_,h2⟩:=aMr hp hr hR (oS (by omega) hi n) hb.inP (fun x hx=>(aAP.1 ((aBj hp hi x n (Nat.le_refl _)).1 hx)).2) hlen
  refine (aAP.1 ((aBj hp hi x n (Nat.le_refl _)).1 fun i hi'=>?_)).1
  rcases Nat.lt_or_ge i (cV p (a++b).length (dA (a++b)) n).2.length with h'|h'
  ·have e:dt n ((cV p (a++b).length (dA (a++b)) n).1 i) x=dt n (dA b i) x:=nG fun k hk=>by rw [h2 i k h' hk]
   rw [e]
   exact hx i (by omega)
  ·have e:dt n ((cV p (a++b).length (dA (a++b)) n).1 i) x=0:=by
    unfold dt
    rw [nG (g:=fun _=>0) (fun k hk=>by rw [hr.low i k h' hi' hk];simp),xY]
   rw [e]
   unfold Z0
   simp
 ·intro hK
  unfold aFk
  rw [aMp hp hi hb.inP fun x=>⟨fun h=>(aAP.1 h).2,fun h=>aAP.2 ⟨hK x h,h⟩⟩,hs]
end
noncomputable section
def sV (r:Rp) (i:Nat):Nat:=(r.q.src[i]?.getD 0).toNat
def tV (r:Rp) (i:Nat):Nat:=(r.q.tgt[i]?.getD 0).toNat
def aF (r:Rp) (i:Nat):Nat→Nat→Int:=fun j k=>(r.maps[i]?.getD ⟨0,0,[]⟩).cells[j*dN r (sV r i)+k]?.getD 0
structure Rv (r:Rp):Prop where
 hp:kB r.p=true
 n5:r.dims.length≤5
 d: ∀ k,k<r.dims.length→r.dims[k]?.getD 0=(dN r k:Int)∧dN r k≤4
 e6:r.q.src.length≤6
 tl:r.q.tgt.length=r.q.src.length
 ml:r.maps.length=r.q.src.length
 s: ∀ i,i<r.q.src.length→r.q.src[i]?.getD 0=(sV r i:Int)∧sV r i<r.dims.length
 t: ∀ i,i<r.q.src.length→r.q.tgt[i]?.getD 0=(tV r i:Int)∧tV r i<r.dims.length
 m: ∀ i,i<r.q.src.length→r.maps[i]?.getD ⟨0,0,[]⟩=⟨dN r (tV r i),dN r (sV r i),dB (dN r (tV r i)) (dN r (sV r i)) (aF r i)⟩∧xW r.p (dN r (tV r i)) (dN r (sV r i)) (aF r i)
theorem aIl {r:Rp} (h:aCv r=true):Rv r:=by
 obtain ⟨hp,hD,hml,hM⟩:=aMj h
 obtain ⟨hQ,hd1,hd2,_⟩:=zK hD
 obtain ⟨n,hn,hn1,hn5,hq1,hq2,hq3,hq4⟩:=zH hQ
 have hdl:r.dims.length=n:=by omega
 have hd: ∀ k,k<r.dims.length→r.dims[k]?.getD 0=(dN r k:Int)∧dN r k≤4:=by
  intro k hk
  have:=hd2 _ (eO 0 hk)
  unfold dN
  omega
 have hs: ∀ i,i<r.q.src.length→r.q.src[i]?.getD 0=(sV r i:Int)∧sV r i<r.dims.length:=by
  intro i hi
  have:=hq3 _ (eO 0 hi)
  unfold sV
  omega
 have ht: ∀ i,i<r.q.src.length→r.q.tgt[i]?.getD 0=(tV r i:Int)∧tV r i<r.dims.length:=by
  intro i hi
  have:=hq4 _ (eO 0 (show i<r.q.tgt.length by omega))
  unfold tV
  omega
 refine ⟨hp,by omega,hd,hq2,by omega,hml,hs,ht,fun i hi=>?_⟩
 obtain ⟨g1,g2,g3⟩:=hM i (by omega)
 rw [show (r.q.src[i]?.getD 0).toNat=sV r i from rfl,(hd _ (hs i hi).2).1] at g2
 rw [show (r.q.tgt[i]?.getD 0).toNat=tV r i from rfl,(hd _ (ht i hi).2).1] at g3
 obtain ⟨_,a,b,F,ha,hb,he,hF⟩:=aJm g1
 have ea:a=dN r (tV r i):=by rw [he] at g3;simp only at g3;omega
 have eb:b=dN r (sV r i):=by rw [he] at g2;simp only at g2;omega
 have em: ∀ j k,j<a→k<b→aF r i j k=F j k:=by
  intro j k hj hk
  unfold aF
  rw [he,←eb]
  simp only
  rw [kI F hj hk];rfl
 subst ea;subst eb
 rw [he]
 refine ⟨?_,fun j k hj hk=>by rw [em j k hj hk];exact hF j k hj hk⟩
 rw [cY em]
theorem aNq {α:Type} {f:Nat→α} {n k:Nat} (h:k<n):dX ((List.range n).map f) (k:Int)=some (f k):=by rw [fS (by simp;exact h)];simp
theorem aFw {R N:Nat} (hN:R*N≤1048576) (h1:R≤1048576) (h2:N≤1048576) (M:Nat→Nat→Int):iR R ((List.range N).map fun k=>kR R fun i=>M i k)=some ⟨R,N,dB R N M⟩:=by
 unfold iR
 rw [List.length_map,List.length_range,aMg hN,Option.bind_some]
 simp only
 rw [fJ (r:=dB R N M) (fun k=>(dB R N (fun i j=>if j<k then M i j else 0),(k:Int))) N (by simp) (fun k hk=>?_) (fun _=>?_),Option.bind_some]
 ·unfold jB
  simp only
  rw [List.length_map,List.length_range,nD hk,cond_true,aNq hk,Option.bind_some]
  rw [fJ (r:=dB R N (fun i j=>if j<k+1 then M i j else 0)) (fun x=>(dB R N (fun i j=>if j<k∨(j=k∧i<x) then M i j else 0),(x:Int))) R (by simp) (fun x hx=>?_) (fun _=>?_),Option.bind_some,dO hk (by omega)]
  ·unfold jA
   simp only
   rw [fB,nD hx,cond_true,aEU _ hx,Option.bind_some,atT hN hx hk,Option.bind_some,aLR hN hx hk,dO hx (by omega)]
   congr 3
   refine cY fun i j hi hj=>?_
   simp only [aCe]
   by_cases e:i=x∧j=k
   ·rw [if_pos e,if_pos (by omega),e.1,e.2]
   ·rw [if_neg e]
    by_cases e2:j<k∨j=k∧i<x
    ·rw [if_pos e2,if_pos (by omega)]
    ·rw [if_neg e2,if_neg (by omega)]
  ·unfold jA
   simp only
   rw [fB,qZ (Nat.le_refl _),cond_false]
   congr 2
   refine cY fun i j hi hj=>?_
   by_cases e:j<k+1
   ·rw [if_pos e,if_pos (by omega)]
   ·rw [if_neg e,if_neg (by omega)]
 ·unfold jB
  simp only
  rw [List.length_map,List.length_range,qZ (Nat.le_refl _),cond_false]
  congr 2
  exact cY fun i j hi hj=>by rw [if_pos hj]
end
noncomputable section
def aOe (n:Nat) (l:List (List Int)):Mt:=⟨n,(l.length:Int),dB n l.length fun i k=>dA l k i⟩
theorem aLV {n:Nat} {l:List (List Int)} (h: ∀ v∈l,v.length=n):l=(List.range l.length).map fun k=>kR n fun i=>dA l k i:=aKk h
theorem aOf {n:Nat} {l:List (List Int)} (hn:n≤1024) (hl:l.length≤512) (h: ∀ v∈l,v.length=n):iR n l=some (aOe n l):=by
 have hN:n*l.length≤1048576:=by have:=Nat.mul_le_mul hn hl;omega
 have e:=aFw hN (by omega) (by omega) (fun i k=>dA l k i)
 rw [←aLV h] at e
 exact e
theorem aPB {α β:Type} {f:α→β} {l:List α} {k:Nat} (hk:k<l.length):(l.take k).map f++[f l[k]]=(l.take (k+1)).map f:=by rw [List.take_succ_eq_append_getElem hk,List.map_append];rfl
end
end Go.Proofs.YtghechfdejhapaaGreat

/-
  Several texts of the claim in one.
-/
import Derived.Test.YtghechfdejhapaaGreatProg
import Derived.Test.YtghechfdejhapaaGreatH7
set_option linter.unusedVariables false
set_option linter.unusedSimpArgs false
namespace Go.Proofs.YtghechfdejhapaaGreat
open Go.RowKit
noncomputable section
theorem aJA {a b:Int} (ha:0≤a∧a≤5) (hb:0≤b∧b≤5):0≤a*b∧a*b≤25:=by
 refine ⟨Int.mul_nonneg ha.1 hb.1,?_⟩
 have:=Int.mul_le_mul ha.2 hb.2 hb.1 (by decide:(0:Int)≤5)
 omega
theorem yC {x p:Int} (hp:kV p=true):0≤x % p∧x % p<p:=by
 have:=gC hp
 exact ⟨Int.emod_nonneg _ (by omega),Int.emod_lt_of_pos _ (by omega)⟩
theorem aDQ {p x:Int} (hp:kV p=true) (hx: -4611686018427387904≤x∧x≤4611686018427387904):kC p x=some (x % p):=by
 have hb:=gC hp
 have hr:=aGM x p (by omega)
 unfold kC
 rw [decide_eq_false (by omega),Bool.not_false,cond_true]
 rcases aGN x p (by omega) with ⟨h,e⟩|⟨h,e⟩
 ·rw [decide_eq_false (by omega),cond_false,e]
 ·rw [decide_eq_true h,cond_true,fA (by omega),e]
  congr 1
  omega
theorem aKG {p x:Int} (hp:kV p=true):pU p x=some (x % p):=by
 have hb:=gC hp
 have hr:=aGM x p (by omega)
 unfold pU
 rw [aBS,hp,Option.bind_some,Bool.not_true,cond_false,decide_eq_false (by omega),Bool.not_false,cond_true,cond_true,fA (by omega),aMr _ _ (by omega)]
theorem aLW {p x:Int} (hp:kV p=true) {k:Nat} (hk:k≤1000):qV p x k=some (aIo p (x % p) k):=by
 have hb:=gC hp
 unfold qV
 rw [aBS,hp,Option.bind_some,Bool.not_true,cond_false,vH,wS (by omega) (by omega),Option.bind_some,Bool.not_true,cond_false]
 rw [eZ (r:=aIo p (x % p) k) (fun t=>(aIo p (x % p) t,(t:Int))) k (by rfl) (fun t ht=>?_) (fun _=>?_),Option.bind_some]
 ·unfold mJ
  simp only
  have h1:=aMH hp (yC (x:=x) hp) t
  have h2:=yC (x:=x) hp
  have h3:=aJA (a:=aIo p (x % p) t) (b:=x % p) (by omega) (by omega)
  rw [kM ht,cond_true,aKG hp,Option.bind_some,decide_eq_false (by omega),Bool.not_false,cond_true,dE ht (by omega),fA (by omega),Int.tmod_eq_emod_of_nonneg h3.1]
  rfl
 ·unfold mJ
  simp only
  rw [oN (Nat.le_refl _),cond_false]
theorem aNC {p x:Int} (hp:kV p=true):nR p x=some (yW p (x % p)):=by
 have hb:=gC hp
 unfold nR yW
 rw [aBS,hp,Option.bind_some,Bool.not_true,cond_false,fA (by omega)]
 have e:max (p - 2) 1=(((max (p - 2) 1).toNat:Nat):Int):=by omega
 rw [e,aLW hp (by omega),Option.bind_some,Int.toNat_natCast]
theorem aND {p x:Int} (hp:kV p=true) (hx: -4611686018427387904≤x∧x≤4611686018427387904):iD p x=some (yW p (x % p)):=by
 have hb:=gC hp
 have h2:=yC (x:=x) hp
 obtain ⟨n,hn⟩: ∃ n:Nat,p=n:=⟨p.toNat,by omega⟩
 unfold iD
 rw [aDx (s0:=1) (s:=1) (n:=n) (fun k:Nat=>bif decide ((x % p*k) % p=1) then some (k:Int) else none) rfl (by omega) (by omega) (fun k h1 hk=>?_) (fun _=>?_),Option.bind_some]
 ·cases e:(List.range' 1 (n - 1)).findSome? (fun k:Nat=>bif decide ((x % p*k) % p=1) then some (k:Int) else none) with
  |none=>
   rw [List.findSome?_eq_none_iff] at e
   rw [aOA hp h2 fun y h3 h4 h5=>?_];rfl
   have:=e y (by simp;omega)
   rw [decide_eq_true h5] at this
   cases this
  |some i=>
   obtain ⟨k,hk,he⟩:=List.exists_of_findSome?_eq_some e
   simp at hk
   cases hd:decide ((x % p*k) % p=1) with
   |false=>rw [hd] at he;cases he
   |true=>
    rw [hd] at he
    cases he
    rw [aPT hp h2 (y:=k) (by omega) (of_decide_eq_true hd)];rfl
 ·unfold kG
  have h3:=aJA (a:=x % p) (b:=k) (by omega) (by omega)
  rw [decide_eq_true (by omega),cond_true,aDO,hp,Option.bind_some,cond_true,aDQ hp hx,Option.bind_some,fA (by omega),aDQ hp (by omega),Option.bind_some]
  cases decide (x % p*k % p=1) <;> rfl
 ·unfold kG
  rw [decide_eq_false (by omega),cond_false]
theorem aGd {r c i:Nat} (hi:i<r):(i+1)*c≤r*c:=Nat.mul_le_mul_right c hi
theorem ixw {r c i j:Nat} (hN:r*c≤1048576) (hi:i<r) (hj:j<c):wr (wr ((i:Int)*(c:Int))+(j:Int))=((i*c+j:Nat):Int):=wix (by have:=aMI hi hj;omega)
theorem atT {r c i j:Nat} (hN:r*c≤1048576) (hi:i<r) (hj:j<c) (F:Nat→Nat→Int):dV (dF r c F) (wr (wr ((i:Int)*(c:Int))+(j:Int)))=some (F i j):=by rw [ixw hN hi hj,aPU F hi hj]
theorem aNF {r c i j:Nat} (hN:r*c≤1048576) (hi:i<r) (hj:j<c) (F:Nat→Nat→Int) (v:Int):(dF r c F).set (wr (wr ((i:Int)*(c:Int))+(j:Int))).toNat v=dF r c (aDy F i j v):=by rw [ixw hN hi hj,Int.toNat_natCast,yX F v hi hj]
theorem rX {r c i:Nat} (hN:r*c≤1048576) (hi:i<r):wr ((i:Int)*(c:Int))=((i*c:Nat):Int):=aJw (by have:= @aGd r c i hi;rw [Nat.succ_mul] at this;omega)
theorem uP {r c i:Nat} (hN:r*c≤1048576) (hr:r≤1048576) (hi:i<r):wr (wr ((i:Int)+1)*(c:Int))=((i*c+c:Nat):Int):=by
 have:= @aGd r c i hi
 rw [dE hi (by omega),aJw (by omega),Nat.succ_mul]
def lQ (c:Nat) (f:Nat→Int):List Int:=(List.range c).map f
theorem fN (c:Nat) (f:Nat→Int):(lQ c f).length=c:=by simp [lQ]
theorem aFp {c:Nat} (f:Nat→Int) {j:Nat} (h:j<c):dV (lQ c f) (j:Int)=some (f j):=by rw [gB (by rw [fN];exact h)];simp [lQ]
theorem aGe {r c i:Nat} (hN:r*c≤1048576) (hr:r≤1048576) (hi:i<r) (F:Nat→Nat→Int):dM ⟨r,c,dF r c F⟩ i=some ():=by
 have:= @aGd r c i hi
 rw [Nat.succ_mul] at this
 unfold dM
 simp only
 rw [rX hN hi,uP hN hr hi,gX,decide_eq_true (by omega),decide_eq_true (by omega:((i*c:Nat):Int)≤((i*c+c:Nat):Int)),decide_eq_true (by omega:((i*c+c:Nat):Int)≤((r*c:Nat):Int))]
 rfl
theorem aOT {r c i:Nat} (hN:r*c≤1048576) (hr:r≤1048576) (hi:i<r) (F:Nat→Nat→Int):aCK ⟨r,c,dF r c F⟩ i=some (lQ c (F i)):=by
 have h:= @aGd r c i hi
 rw [Nat.succ_mul] at h
 unfold aCK vF aAi
 simp only
 rw [rX hN hi,uP hN hr hi,gX,decide_eq_true (by omega),decide_eq_true (by omega:((i*c:Nat):Int)≤((i*c+c:Nat):Int)),decide_eq_true (by omega:((i*c+c:Nat):Int)≤((r*c:Nat):Int))]
 simp only [Bool.and_self,cond_true,Int.toNat_natCast]
 congr 1
 refine List.ext_getElem (by simp [gX,fN];omega) fun t h1 h2=>?_
 rw [fN] at h2
 rw [List.getElem_take,List.getElem_drop]
 simp [dF,lQ,aGO h2,aGP h2]
def aHQ (p:Int) (F:Nat→Nat→Int) (i:Nat) (k:Int) (g:Nat→Int):Nat→Nat→Int:=fun a b=>if a=i then (F i b+k*g b) % p else F a b
theorem gd (x:Nat):(decide (0≤(x:Int))&&true)=true:=by rw [decide_eq_true (by omega)];rfl
theorem aQU {p:Int} (hp:kV p=true):(!decide (p=0))=true:=by have:=gC hp;rw [decide_eq_false (by omega)];rfl
theorem aKH {p:Int} (hp:kV p=true) {r c i:Nat} (hc:c≤1048576) (hi:i<r) {F:Nat→Nat→Int} {g:Nat→Int} {k:Int} (hk:0≤k∧k≤5) (hF: ∀ b,b<c→0≤F i b∧F i b<p) (hg: ∀ b,b<c→0≤g b∧g b<p):
  gP p (dF r c F) (i*c) c k (lQ c g)=some (dF r c (aHQ p F i k g)):=by
 have hb:=gC hp
 unfold gP
 rw [eZ (r:=dF r c (aHQ p F i k g)) (fun x=>(dF r c (fun a b=>if a=i∧b<x then (F i b+k*g b) % p else F a b),(x:Int))) c (by simp) (fun x hx=>?_) (fun _=>?_)];rfl
 ·have h1:=hF x hx
  have h2:=hg x hx
  have h3:=aJA hk (show 0≤g x∧g x≤5 by omega)
  unfold jM
  simp only
  rw [fN,kM hx,cond_true,aFp _ hx,Option.bind_some,gd x,cond_true,Int.toNat_natCast,lH _ hi hx,Option.bind_some,aQU hp,cond_true,cond_true,Option.bind_some,yX _ _ hi hx,dE hx (by omega)]
  rw [if_neg (by omega),fA (x:=k*g x) (by omega),fA (by omega),Int.tmod_eq_emod_of_nonneg (by omega)]
  congr 3
  refine dB fun a b ha hb=>?_
  simp only [aDy]
  by_cases e1:a=i∧b=x
  ·obtain ⟨rfl,rfl⟩:=e1
   rw [if_pos ⟨rfl,rfl⟩,if_pos ⟨rfl,by omega⟩]
  ·rw [if_neg e1]
   by_cases e2:a=i∧b<x
   ·rw [if_pos e2,if_pos ⟨e2.1,by omega⟩]
   ·rw [if_neg e2,if_neg (by omega)]
 ·unfold jM
  simp only
  rw [fN,oN (Nat.le_refl _),cond_false]
  congr 2
  refine dB fun a b ha hb=>?_
  simp only [aHQ]
  by_cases e:a=i
  ·rw [if_pos ⟨e,hb⟩,if_pos e]
  ·rw [if_neg (by omega),if_neg e]
theorem aNG {p:Int} (hp:kV p=true) {r c i j:Nat} (hc:c≤1048576) (hi:i<r) (hj:j<r) (hij:i≠j) {F:Nat→Nat→Int} {k:Int} (hk:0≤k∧k≤5) (hF: ∀ b,b<c→0≤F i b∧F i b<p) (hg: ∀ b,b<c→0≤F j b∧F j b<p):
  iC p (dF r c F) (i*c) c k (j*c) c=some (dF r c (aHQ p F i k (F j))):=by
 have hb:=gC hp
 unfold iC
 rw [eZ (r:=dF r c (aHQ p F i k (F j))) (fun x=>(dF r c (fun a b=>if a=i∧b<x then (F i b+k*F j b) % p else F a b),(x:Int))) c (by simp) (fun x hx=>?_) (fun _=>?_)];rfl
 ·have h1:=hF x hx
  have h2:=hg x hx
  have h3:=aJA hk (show 0≤F j x∧F j x≤5 by omega)
  unfold gG
  simp only
  rw [kM hx,cond_true,gd x,cond_true,Int.toNat_natCast,lH _ hj hx,Option.bind_some,cond_true,lH _ hi hx,Option.bind_some,aQU hp,cond_true,cond_true,Option.bind_some,yX _ _ hi hx,dE hx (by omega)]
  rw [if_neg (by omega),if_neg (by omega),fA (x:=k*F j x) (by omega),fA (by omega),Int.tmod_eq_emod_of_nonneg (by omega)]
  congr 3
  refine dB fun a b ha hb=>?_
  simp only [aDy]
  by_cases e1:a=i∧b=x
  ·obtain ⟨rfl,rfl⟩:=e1
   rw [if_pos ⟨rfl,rfl⟩,if_pos ⟨rfl,by omega⟩]
  ·rw [if_neg e1]
   by_cases e2:a=i∧b<x
   ·rw [if_pos e2,if_pos ⟨e2.1,by omega⟩]
   ·rw [if_neg e2,if_neg (by omega)]
 ·unfold gG
  simp only
  rw [oN (Nat.le_refl _),cond_false]
  congr 2
  refine dB fun a b ha hb=>?_
  simp only [aHQ]
  by_cases e:a=i
  ·rw [if_pos ⟨e,hb⟩,if_pos e]
  ·rw [if_neg (by omega),if_neg e]
theorem aOU {r c:Nat} (hN:r*c≤1048576):(decide (0≤wr ((r:Int)*(c:Int)))&&decide (wr ((r:Int)*(c:Int))≤1048576))=true:=by
 rw [aJw (by omega),decide_eq_true (by omega),decide_eq_true (by omega)];rfl
theorem aOV {r c:Nat} (hN:r*c≤1048576):sT r c=some ⟨r,c,dF r c fun _ _=>0⟩:=by
 unfold sT
 rw [aOU hN,cond_true,aJw (by omega),Int.toNat_natCast,aHq]
theorem aOW {r c:Nat} (hN:r*c≤1048576):uZ r c=some ⟨r,c,dF r c fun _ _=>0⟩:=by
 unfold uZ
 rw [aOU hN,cond_true,aJw (by omega),Int.toNat_natCast,aHq]
def aFV (F G:Nat→Nat→Int) (i j:Nat):Nat→Int
 |0=>0
 |k+1=>aFV F G i j k+F i k*G k j
def aKI (p:Int) (F G:Nat→Nat→Int) (i j:Nat):Nat→Int
 |0=>0
 |k+1=>(aKI p F G i j k+F i k*G k j) % p
theorem aJB {p:Int} (hp:kV p=true) (F G:Nat→Nat→Int) (i j:Nat): ∀ k,aKI p F G i j k=aFV F G i j k % p
 |0=>by simp [aKI,aFV]
 |k+1=>by rw [aKI,aFV,aJB hp F G i j k];simp [Int.add_emod]
theorem aJC {p:Int} (hp:kV p=true) {F G:Nat→Nat→Int} {i j:Nat} : ∀ {k:Nat},(∀ t,t<k→0≤F i t∧F i t<p)→(∀ t,t<k→0≤G t j∧G t j<p)→0≤aFV F G i j k∧aFV F G i j k≤25*k
 |0,_,_=>by simp [aFV]
 |k+1,hF,hG=>by
  have hb:=gC hp
  have h:=aJC hp (k:=k) (fun t ht=>hF t (by omega)) (fun t ht=>hG t (by omega))
  have h1:=hF k (by omega)
  have h2:=hG k (by omega)
  have h3:=aJA (a:=F i k) (b:=G k j) (by omega) (by omega)
  rw [aFV]
  omega
def aFW (p:Int) (n:Nat) (F G:Nat→Nat→Int):Nat→Nat→Int:=fun i j=>aFV F G i j n % p
theorem aJD {p:Int} (hp:kV p=true) {r n c:Nat} (h1:r*n≤1048576) (h2:n*c≤1048576) (h3:r*c≤1048576) (hr:r≤1048576) (hn:n≤1048576) (hc:c≤1048576) {F G:Nat→Nat→Int} (hF:zY p r n F) (hG:zY p n c G):
  nQ p ⟨r,n,dF r n F⟩ ⟨n,c,dF n c G⟩=some ⟨r,c,dF r c (aFW p n F G)⟩:=by
 have hb:=gC hp
 unfold nQ
 simp only
 rw [aOW h3,Option.bind_some]
 simp only
 rw [eZ (r:=dF r c (aFW p n F G)) (fun i=>(dF r c (fun a b=>if a<i then aFW p n F G a b else 0),(i:Int))) r (by simp) (fun i hi=>?_) (fun _=>?_),Option.bind_some]
 ·unfold kF
  simp only
  rw [kM hi,cond_true]
  rw [eZ (r:=dF r c (fun a b=>if a<i+1 then aFW p n F G a b else 0)) (fun j=>(dF r c (fun a b=>if a<i∨(a=i∧b<j) then aFW p n F G a b else 0),(j:Int))) c (by simp) (fun j hj=>?_) (fun _=>?_),Option.bind_some,dE hi (by omega)]
  ·unfold kE
   simp only
   rw [kM hj,cond_true]
   have hbd:=aJC hp (F:=F) (G:=G) (i:=i) (j:=j) (k:=n) (fun t ht=>hF i t hi ht) (fun t ht=>hG t j ht hj)
   rw [eZ (r:=aFV F G i j n) (fun k=>(aFV F G i j k,(k:Int))) n (by simp [aFV]) (fun k hk=>?_) (fun _=>?_),Option.bind_some,aDQ hp (by omega),Option.bind_some,atT h3 hi hj,Option.bind_some,aNF h3 hi hj,dE hj (by omega)]
   ·congr 3
    refine dB fun a b ha hb=>?_
    simp only [aDy]
    by_cases e:a=i∧b=j
    ·rw [if_pos e,if_pos (by omega),e.1,e.2];rfl
    ·rw [if_neg e]
     by_cases e2:a<i∨a=i∧b<j
     ·rw [if_pos e2,if_pos (by omega)]
     ·rw [if_neg e2,if_neg (by omega)]
   ·unfold kD
    simp only
    have g1:=hF i k hi hk
    have g2:=hG k j hk hj
    have g3:=aJA (a:=F i k) (b:=G k j) (by omega) (by omega)
    have g4:=aJC hp (F:=F) (G:=G) (i:=i) (j:=j) (k:=k) (fun t ht=>hF i t hi (by omega)) (fun t ht=>hG t j (by omega) hj)
    rw [kM hk,cond_true,atT h1 hi hk,Option.bind_some,atT h2 hk hj,Option.bind_some,dE hk (by omega),fA (x:=F i k*G k j) (by omega),fA (by omega)]
    rfl
   ·unfold kD
    simp only
    rw [oN (Nat.le_refl _),cond_false]
  ·unfold kE
   simp only
   rw [oN (Nat.le_refl _),cond_false]
   congr 2
   refine dB fun a b ha hb=>?_
   by_cases e:a<i+1
   ·rw [if_pos e,if_pos (by omega)]
   ·rw [if_neg e,if_neg (by omega)]
 ·unfold kF
  simp only
  rw [oN (Nat.le_refl _),cond_false]
  congr 2
  exact dB fun a b ha hb=>by rw [if_pos ha]
theorem aPg {p:Int} (hp:kV p=true) {r n c:Nat} (h1:r*n≤1048576) (h2:n*c≤1048576) (h3:r*c≤1048576) (hr:r≤1048576) (hn:n≤1048576) (hc:c≤1048576) {F G:Nat→Nat→Int} (hF:zY p r n F) (hG:zY p n c G):
  wC p ⟨r,n,dF r n F⟩ ⟨n,c,dF n c G⟩=some ⟨r,c,dF r c (aFW p n F G)⟩:=by
 have hb:=gC hp
 have hD: ∀ i j,aKI p F G i j n=aFW p n F G i j:=fun i j=>aJB hp F G i j n
 unfold wC
 simp only
 rw [aOV h3,Option.bind_some]
 simp only
 rw [eZ (r:=dF r c (aFW p n F G)) (fun i=>(dF r c (fun a b=>if a<i then aFW p n F G a b else 0),(i:Int))) r (by simp) (fun i hi=>?_) (fun _=>?_),Option.bind_some]
 ·unfold rB
  simp only
  rw [kM hi,cond_true,aOT h1 hr hi,Option.bind_some]
  rw [eZ (r:=dF r c (fun a b=>if a<i+1 then aFW p n F G a b else 0)) (fun k=>(dF r c (fun a b=>if a<i then aFW p n F G a b else if a=i then aKI p F G i b k else 0),(k:Int))) n ?_ (fun k hk=>?_) (fun _=>?_),Option.bind_some,dE hi (by omega)]
  ·congr 1
   exact dB fun a b ha hb=>by
    by_cases e:a<i
    ·rw [if_pos e,if_pos e]
    ·rw [if_neg e,if_neg e];simp [aKI]
  ·unfold rA
   simp only
   have g1:=hF i k hi hk
   rw [fN,kM hk,cond_true,aFp _ hk,Option.bind_some,aGe h3 hr hi,Option.bind_some,aOT h2 hn hk,Option.bind_some,Nat.zero_add,rX h3 hi,uP h3 hr hi,Int.toNat_natCast,Int.toNat_natCast,show i*c+c - i*c=c by omega]
   rw [aKH hp hc hi (by omega) (fun b hb=>?_) (fun b hb=>hG k b hk hb),Option.bind_some,gX,gX,decide_eq_true rfl,cond_true,dE hk (by omega)]
   ·congr 3
    refine dB fun a b ha hb=>?_
    simp only [aHQ]
    by_cases e:a=i
    ·subst e
     simp [aKI]
    ·rw [if_neg e,if_neg e,if_neg e]
   ·rw [if_neg (by omega),if_pos rfl,aJB hp]
    exact yC hp
  ·unfold rA
   simp only
   rw [fN,oN (Nat.le_refl _),cond_false]
   congr 2
   refine dB fun a b ha hb=>?_
   by_cases e:a<i
   ·rw [if_pos e,if_pos (by omega)]
   ·by_cases e2:a=i
    ·subst e2
     rw [if_neg (by omega),if_pos rfl,if_pos (by omega),hD]
    ·rw [if_neg e,if_neg e2,if_neg (by omega)]
 ·unfold rB
  simp only
  rw [oN (Nat.le_refl _),cond_false]
  congr 2
  exact dB fun a b ha hb=>by rw [if_pos ha]
end
noncomputable section
def sU (L:List Nat):List Int:=L.map fun t:Nat=>(t:Int)
theorem lS (L:List Nat):(sU L).length=L.length:=by simp [sU]
theorem aGf {p:Int} {m:Nat} {F:Nat→Nat→Int} {j:Nat} (h:(cZ p m F j).2.length=m): ∀ d,cZ p m F (j+d)=cZ p m F j
 |0=>rfl
 |d+1=>by
  show gD p m (cZ p m F (j+d)) (j+d)=_
  rw [aGf h d]
  unfold gD
  rw [if_pos]
  rw [h,Nat.sub_self]
  rfl
def aAE (F:Nat→Nat→Int) (a b x:Nat):Nat→Nat→Int:=fun i y=>if y<x then sR F a b i y else F i y
def wF (p:Int) (F:Nat→Nat→Int) (a:Nat) (s:Int) (x:Nat):Nat→Nat→Int:=fun i y=>if y<x then oS p F a s i y else F i y
def iJ (p:Int) (F:Nat→Nat→Int) (a j x:Nat):Nat→Nat→Int:=fun i c=>if i<x then uG p F a j i c else F i c
theorem aIG {r c a b x:Nat} (F:Nat→Nat→Int):dF r c (aDy (aDy (aAE F a b x) a x (F b x)) b x (F a x))=dF r c (aAE F a b (x+1)):=by
 refine dB fun i y hi hy=>?_
 simp only [aDy,aAE,sR]
 by_cases e:y=x
 ·subst e
  simp only [and_true,Nat.lt_irrefl,if_false,Nat.lt_succ_self,if_true]
  by_cases e1:i=b
  ·rw [if_pos e1]
   by_cases e2:i=a
   ·rw [if_pos e2]
    subst e1;rw [e2]
   ·rw [if_neg e2,if_pos e1]
  ·rw [if_neg e1]
   by_cases e2:i=a
   ·rw [if_pos e2,if_pos e2]
   ·rw [if_neg e2,if_neg e2,if_neg e1]
 ·rw [if_neg (by omega),if_neg (by omega)]
  by_cases e1:y<x
  ·rw [if_pos e1,if_pos (show y<x+1 by omega)]
  ·rw [if_neg e1,if_neg (show ¬ y<x+1 by omega)]
theorem aBT {F:Nat→Nat→Int} {a b x i:Nat} :aAE F a b x i x=F i x:=by simp [aAE]
theorem aGg {p:Int} {F:Nat→Nat→Int} {a x i:Nat} {s:Int} :wF p F a s x i x=F i x:=by simp [wF]
theorem aGh {p:Int} {r c a x:Nat} {s:Int} (F:Nat→Nat→Int):dF r c (aDy (wF p F a s x) a x ((F a x*s) % p))=dF r c (wF p F a s (x+1)):=by
 refine dB fun i y hi hy=>?_
 simp only [aDy,wF,oS]
 by_cases e:y=x
 ·subst e
  simp only [and_true,Nat.lt_irrefl,if_false,Nat.lt_succ_self,if_true]
 ·rw [if_neg (by omega)]
  by_cases e1:y<x
  ·rw [if_pos e1,if_pos (show y<x+1 by omega)]
  ·rw [if_neg e1,if_neg (show ¬ y<x+1 by omega)]
theorem aMS {p r:Int} (hp:kV p=true) (hr:0≤r∧r<p):0≤yW p r∧yW p r<p:=aMH hp hr _
theorem aKJ {p:Int} {m n k r:Nat} {F:Nat→Nat→Int} (h:zY p m n F) (hk:k<m) (hr:r<m):zY p m n (sR F k r):=by
 intro i c hi hc
 unfold sR
 split
 ·exact h r c hr hc
 ·split
  ·exact h k c hk hc
  ·exact h i c hi hc
theorem aIH {p:Int} (hp:kV p=true) {m n k:Nat} {s:Int} {F:Nat→Nat→Int} (h:zY p m n F):zY p m n (oS p F k s):=by
 intro i c hi hc
 unfold oS
 split
 ·exact yC hp
 ·exact h i c hi hc
theorem aNH {p:Int} (hp:kV p=true) {m n k j x:Nat} {F:Nat→Nat→Int} (h:zY p m n F):zY p m n (iJ p F k j x):=by
 intro i c hi hc
 unfold iJ uG
 split
 ·split
  ·rename_i h1 h2;subst h2;exact h _ c hi hc
  ·exact yC hp
 ·exact h i c hi hc
theorem aOX {p:Int} (hp:kV p=true) {m n k j x:Nat} {F:Nat→Nat→Int} (hx:x≠k):dF m n (aHQ p (iJ p F k j x) x (p - F x j) (iJ p F k j x k))=dF m n (iJ p F k j (x+1)):=by
 refine dB fun i c hi hc=>?_
 simp only [aHQ,iJ,uG]
 by_cases e:i=x
 ·subst e
  rw [if_pos rfl,if_neg (Nat.lt_irrefl _),if_pos (Nat.lt_succ_self _),if_neg hx]
  simp only [if_true,ite_self]
  rw [show F i c+(p - F i j)*F k c=(F i c - F i j*F k c)+p*F k c by rw [Int.sub_mul];omega,Int.add_mul_emod_self_left]
 ·rw [if_neg e]
  by_cases e1:i<x
  ·rw [if_pos e1,if_pos (show i<x+1 by omega)]
  ·rw [if_neg e1,if_neg (show ¬ i<x+1 by omega)]
theorem aII {p:Int} {m n k j:Nat} {F:Nat→Nat→Int} :dF m n (iJ p F k j k)=dF m n (iJ p F k j (k+1)):=by
 refine dB fun i c hi hc=>?_
 simp only [iJ,uG]
 by_cases e:i<k
 ·rw [if_pos e,if_pos (show i<k+1 by omega)]
 ·rw [if_neg e]
  by_cases e1:i=k
  ·subst e1;simp
  ·rw [if_neg (show ¬ i<k+1 by omega)]
theorem aGi {p:Int} {F:Nat→Nat→Int} {k r j:Nat} :fG p F k r j=uG p (oS p (sR F k r) k (yW p (F r j))) k j:=rfl
structure Tb (p:Int) (m n:Nat) (F:Nat→Nat→Int):Prop where
 hp:kV p=true
 hN:m*n≤1048576
 hm:m≤1048576
 hn:n≤1048576
 hi:zY p m n F
theorem aQV {p:Int} {m n:Nat} {F:Nat→Nat→Int} (T:Tb p m n F) {j:Nat} (hj:j<n) (L:List Nat) (hL:L.length≤m) (l:List Int):
  Lp (lO ⟨m,n,l⟩ ((j:Int),dF m n F,sU L)) (((sU L).length:Nat):Int)=some ((iQ F j (m - L.length) L.length:Nat):Int):=by
 obtain ⟨hp,hN,hm,hn,hi⟩:=T
 have hle:= @wU F j (m - L.length) L.length
 have hz:= @aCF F j (m - L.length) L.length
 have hh:= @aBL F j (m - L.length) L.length
 generalize iQ F j (m - L.length) L.length=r at*
 rw [lS]
 refine eZ (fun t=>((L.length+t:Nat):Int)) (r - L.length) (by simp) (fun t ht=>?_) (fun _=>?_)
 ·unfold lO
  simp only
  rw [kM (by omega),cond_true,aGe hN hm (by omega),Option.bind_some,rX hN (by omega),uP hN hm (by omega),Int.toNat_natCast,Int.toNat_natCast,Nat.add_sub_cancel_left,kM hj,gd,cond_true,Nat.zero_add,Int.toNat_natCast,lH _ (by omega) hj,Option.bind_some,
   hz _ (by omega) (by omega),decide_eq_true rfl,cond_true,dE (n:=m) (by omega) (by omega),Nat.add_assoc]
 ·rw [show L.length+(r - L.length)=r by omega]
  unfold lO
  simp only
  rcases Nat.lt_or_ge r m with h|h
  ·rw [kM h,cond_true,aGe hN hm h,Option.bind_some,rX hN h,uP hN hm h,Int.toNat_natCast,Int.toNat_natCast,Nat.add_sub_cancel_left,kM hj,gd,cond_true,Nat.zero_add,Int.toNat_natCast,lH _ h hj,Option.bind_some,
    decide_eq_false (hh (by omega)),cond_false]
  ·rw [oN h,cond_false]
theorem aPh {p:Int} {m n:Nat} {F:Nat→Nat→Int} (T:Tb p m n F) {j:Nat} (hj:j<n) (L:List Nat) (hL:L.length≤m) (l:List Int):
  lP p ⟨m,n,l⟩ ((j:Int),dF m n F,sU L)=some (.inl (((j+1:Nat):Int),dF m n (gD p m (F,L) j).1,sU (gD p m (F,L) j).2)):=by
 have hpv:=aQV T hj L hL l
 obtain ⟨hp,hN,hm,hn,hi⟩:=T
 have hb:=gC hp
 have hle:= @wU F j (m - L.length) L.length
 unfold lP gD
 simp only
 rw [kM hj,cond_true,hpv,Option.bind_some,dE hj (by omega)]
 clear hpv
 generalize iQ F j (m - L.length) L.length=r at*
 by_cases hr:r=m
 ·rw [decide_eq_true (by omega),cond_true,if_pos hr]
 ·rw [decide_eq_false (by omega),cond_false,if_neg hr]
  have hk:L.length<m:=by omega
  have hrm:r<m:=by omega
  simp only [lS]
  rw [aGe hN hm hk,Option.bind_some,rX hN hk,uP hN hm hk]
  simp only [Int.toNat_natCast,Nat.add_sub_cancel_left,Nat.zero_add]
  rw [eZ (r:=dF m n (sR F L.length r)) (fun x=>(dF m n (aAE F L.length r x),(x:Int))) n ?_ (fun x hx=>?_) (fun _=>?_),Option.bind_some,kM hj,gd,cond_true,lH _ hk hj,Option.bind_some]
  ·have e1:sR F L.length r L.length j=F r j:=by simp [sR]
   have hrj:=hi r j hrm hj
   rw [e1,aNC hp,Option.bind_some,Int.emod_eq_of_lt hrj.1 hrj.2]
   have hs:=aMS hp hrj
   rw [aGi]
   generalize yW p (F r j)=s at*
   have h1:=aKJ hi hk hrm
   generalize sR F L.length r=F1 at*
   rw [eZ (r:=dF m n (oS p F1 L.length s)) (fun x=>(dF m n (wF p F1 L.length s x),(x:Int))) n ?_ (fun x hx=>?_) (fun _=>?_),Option.bind_some]
   ·have h2:=aIH hp (k:=L.length) (s:=s) h1
    generalize oS p F1 L.length s=F2 at*
    rw [eZ (r:=dF m n (uG p F2 L.length j)) (fun x=>(dF m n (iJ p F2 L.length j x),(x:Int))) m ?_ (fun x hx=>?_) (fun _=>?_),Option.bind_some]
    ·rw [decide_eq_true (by simp;omega),cond_true]
     simp [sU]
    ·congr 1
    ·unfold pX
     simp only [lS]
     rw [kM hx,cond_true]
     by_cases hxk:x=L.length
     ·rw [decide_eq_true (by omega),Bool.not_true,cond_false,dE hx (by omega),hxk,aII]
     ·rw [decide_eq_false (by omega),Bool.not_false,cond_true,aGe hN hm hx,Option.bind_some,Option.bind_some,rX hN hx,uP hN hm hx,rX hN hk,uP hN hm hk]
      simp only [Int.toNat_natCast,Nat.add_sub_cancel_left,Nat.zero_add]
      rw [kM hj,gd,cond_true,lH _ hx hj,Option.bind_some]
      have e2:iJ p F2 L.length j x x j=F2 x j:=by simp [iJ]
      have h3:=h2 x j hx hj
      have h4:=aNH hp (k:=L.length) (j:=j) (x:=x) h2
      rw [e2,fA (by omega),aNG hp hn hx hk hxk (by omega) (fun b hb=>h4 _ b hx hb) (fun b hb=>h4 _ b hk hb),Option.bind_some,gX,gX,decide_eq_true rfl,cond_true,dE hx (by omega),aOX hp hxk]
    ·unfold pX
     simp only
     rw [oN (Nat.le_refl _),cond_false]
     congr 2
     exact dB fun a b ha hb=>by simp only [iJ];rw [if_pos ha]
   ·congr 1
   ·unfold pW
    simp only [lS]
    rw [rX hN hk,uP hN hm hk]
    simp only [Int.toNat_natCast,Nat.add_sub_cancel_left,Nat.zero_add]
    have g1:=h1 _ x hk hx
    have g2:=aJA (a:=F1 L.length x) (b:=s) (by omega) (by omega)
    rw [kM hx,cond_true,gd,cond_true,lH _ hk hx,Option.bind_some,aQU hp,cond_true,cond_true,Option.bind_some,aGg,fA (by omega),Int.tmod_eq_emod_of_nonneg g2.1,yX _ _ hk hx,dE hx (by omega),aGh]
   ·unfold pW
    simp only [lS]
    rw [rX hN hk,uP hN hm hk]
    simp only [Int.toNat_natCast,Nat.add_sub_cancel_left,Nat.zero_add]
    rw [oN (Nat.le_refl _),cond_false]
    congr 2
    exact dB fun a b ha hb=>by simp only [wF];rw [if_pos hb]
  ·congr 1
  ·unfold pV
   simp only [lS]
   rw [kM hx,cond_true,aGe hN hm hrm,Option.bind_some,Option.bind_some,rX hN hk,uP hN hm hk,rX hN hrm,uP hN hm hrm]
   simp only [Int.toNat_natCast,Nat.add_sub_cancel_left,Nat.zero_add]
   rw [kM hx,gd,cond_true,lH _ hrm hx,Option.bind_some,cond_true,lH _ hk hx,Option.bind_some,cond_true,Option.bind_some,cond_true,yX _ _ hk hx,lH _ hrm hx,Option.bind_some,yX _ _ hrm hx,aBT,aBT,dE hx (by omega),aIG]
  ·unfold pV
   simp only
   rw [oN (Nat.le_refl _),cond_false]
   congr 2
   exact dB fun a b ha hb=>by simp only [aAE];rw [if_pos hb]
theorem aJE {p:Int} {m n:Nat} {F:Nat→Nat→Int} (T:Tb p m n F):vA p ⟨m,n,dF m n F⟩=some (⟨m,n,dF m n (cZ p m F n).1⟩,sU (cZ p m F n).2):=by
 have hN:=T.hN
 have hn:=T.hn
 unfold vA qK tI
 simp only
 rw [gX,decide_eq_true hN,cond_true,Option.bind_some,Option.bind_some]
 simp only
 rw [eZ (r:=(dF m n (cZ p m F n).1,sU (cZ p m F n).2)) (fun j=>((j:Int),dF m n (cZ p m F j).1,sU (cZ p m F j).2)) n (by simp [cZ,sU]) (fun j hj=>?_) (fun _=>?_),Option.bind_some]
 ·show _=some (Sum.inl (((j+1:Nat):Int),dF m n (gD p m (cZ p m F j) j).1,sU (gD p m (cZ p m F j) j).2):(Int×List Int×List Int) ⊕ (List Int×List Int))
  exact aPh ⟨T.hp,T.hN,T.hm,T.hn,qO (by have:=gC T.hp;omega) T.hi j⟩ hj _ (sS j) _
 ·unfold lP
  simp only
  rw [oN (Nat.le_refl _),cond_false]
theorem aQW {p:Int} {m n:Nat} {F:Nat→Nat→Int} (T:Tb p m n F) {j:Nat} (hj:j<n) (L:List Nat) (hL:L.length<m) (l:List Int):
  Lp (iZ ⟨m,n,l⟩ ((j:Int),dF m n F,sU L,(L.length:Int))) (-1,wr ((m:Int) - 1))=some (if iQ F j (m - L.length) L.length=m then -1 else ((iQ F j (m - L.length) L.length:Nat):Int)):=by
 obtain ⟨hp,hN,hm,hn,hi⟩:=T
 refine eZ (fun t=>(if iQ F j t (m - t)=m then -1 else ((iQ F j t (m - t):Nat):Int),((m - t:Nat):Int) - 1)) (m - L.length) ?_ (fun t ht=>?_) (fun _=>?_)
 ·simp only [iQ,Nat.sub_zero,if_true]
  rw [fA (by omega)]
 ·unfold iZ
  simp only
  have e:((m - t:Nat):Int) - 1=((m - (t+1):Nat):Int):=by omega
  have hi2:m - (t+1)<m:=by omega
  rw [e,decide_eq_true (by omega),cond_true,atT hN hi2 hj,Option.bind_some,fA (x:=((m - (t+1):Nat):Int) - 1) (by omega)]
  have ep:iQ F j (t+1) (m - (t+1))=if F (m - (t+1)) j=0 then iQ F j t (m - t) else m - (t+1):=by
   rw [iQ,show m - (t+1)+1=m - t by omega]
  rw [ep]
  by_cases h:F (m - (t+1)) j=0
  ·rw [decide_eq_true h,Bool.not_true,cond_false,if_pos h]
  ·rw [decide_eq_false h,Bool.not_false,cond_true,if_neg h,if_neg (by omega)]
 ·rw [show m - (m - L.length)=L.length by omega]
  unfold iZ
  simp only
  rw [decide_eq_false (by omega),cond_false]
theorem aPi {p:Int} {m n:Nat} {F:Nat→Nat→Int} (T:Tb p m n F) {j:Nat} (hj:j<n) (L:List Nat) (hL:L.length<m) (l:List Int):
  eW p ⟨m,n,l⟩ ((j:Int),dF m n F,sU L,(L.length:Int))=some (.inl (((j+1:Nat):Int),dF m n (gD p m (F,L) j).1,sU (gD p m (F,L) j).2,((gD p m (F,L) j).2.length:Int))):=by
 have hpv:=aQW T hj L hL l
 obtain ⟨hp,hN,hm,hn,hi⟩:=T
 have hb:=gC hp
 have hle:= @wU F j (m - L.length) L.length
 unfold eW gD
 simp only
 rw [kM hj,cond_true,kM hL,cond_true,hpv,Option.bind_some,dE hj (by omega)]
 clear hpv
 generalize iQ F j (m - L.length) L.length=r at*
 have hk:L.length<m:=hL
 by_cases hr:r=m
 ·rw [if_pos hr,if_pos hr,decide_eq_true (by omega),cond_true]
 ·rw [if_neg hr,if_neg hr,decide_eq_false (by omega),cond_false]
  have hrm:r<m:=by omega
  rw [eZ (r:=dF m n (sR F L.length r)) (fun x=>(dF m n (aAE F L.length r x),(x:Int))) n ?_ (fun x hx=>?_) (fun _=>?_),Option.bind_some,atT hN hk hj,Option.bind_some]
  ·have e1:sR F L.length r L.length j=F r j:=by simp [sR]
   have hrj:=hi r j hrm hj
   rw [e1,aND hp (by omega),Option.bind_some,Int.emod_eq_of_lt hrj.1 hrj.2]
   have hs:=aMS hp hrj
   rw [aGi]
   generalize yW p (F r j)=s at*
   have h1:=aKJ hi hk hrm
   generalize sR F L.length r=F1 at*
   rw [eZ (r:=dF m n (oS p F1 L.length s)) (fun x=>(dF m n (wF p F1 L.length s x),(x:Int))) n ?_ (fun x hx=>?_) (fun _=>?_),Option.bind_some]
   ·have h2:=aIH hp (k:=L.length) (s:=s) h1
    generalize oS p F1 L.length s=F2 at*
    rw [eZ (r:=dF m n (uG p F2 L.length j)) (fun x=>(dF m n (iJ p F2 L.length j x),(x:Int))) m ?_ (fun x hx=>?_) (fun _=>?_),Option.bind_some]
    ·rw [lS,decide_eq_true (by simp;omega),cond_true,dE hk (by omega)]
     simp [sU]
    ·congr 1
    ·unfold gQ
     simp only
     rw [kM hx,cond_true,atT hN hx hj,Option.bind_some,dE hx (by omega)]
     have e2:iJ p F2 L.length j x x j=F2 x j:=by simp [iJ]
     rw [e2]
     by_cases hxk:x=L.length
     ·rw [uY (r:=dF m n (iJ p F2 L.length j x)) ?_,Option.bind_some,hxk,aII]
      unfold jA
      simp only
      rcases Nat.eq_zero_or_pos n with h0|h0
      ·omega
      ·rw [decide_eq_true (by omega),cond_true,decide_eq_true (by omega),Bool.not_true,cond_false]
     ·rw [eZ (r:=dF m n (iJ p F2 L.length j (x+1))) (fun y=>(dF m n (fun a c=>if a=x∧c<y then uG p F2 L.length j x c else iJ p F2 L.length j x a c),(y:Int))) n (by simp) (fun y hy=>?_) (fun _=>?_),Option.bind_some]
      ·unfold jA
       simp only
       rw [kM hy,cond_true,decide_eq_false (by omega),Bool.not_false,cond_true,atT hN hx hy,Option.bind_some,atT hN hk hy,Option.bind_some]
       have e3:iJ p F2 L.length j x x y=F2 x y:=by simp [iJ]
       have e4:iJ p F2 L.length j x L.length y=F2 L.length y:=by simp [iJ,uG]
       rw [if_neg (by omega),if_neg (by omega),e3,e4]
       have g1:=h2 x j hx hj
       have g2:=h2 L.length y hk hy
       have g3:=h2 x y hx hy
       have g4:=aJA (a:=F2 x j) (b:=F2 L.length y) (by omega) (by omega)
       rw [fA (x:=F2 x j*F2 L.length y) (by omega),fA (x:=F2 x y - F2 x j*F2 L.length y) (by omega),aDQ hp (by omega),Option.bind_some,Option.bind_some,aNF hN hx hy,dE hy (by omega)]
       congr 3
       refine dB fun a c ha hc=>?_
       simp only [aDy]
       by_cases e5:a=x∧c=y
       ·rw [if_pos e5,if_pos (by omega),e5.2]
        simp only [uG]
        rw [if_neg hxk]
       ·rw [if_neg e5]
        by_cases e6:a=x∧c<y
        ·rw [if_pos e6,if_pos (by omega)]
        ·rw [if_neg e6,if_neg (by omega)]
      ·unfold jA
       simp only
       rw [oN (Nat.le_refl _),cond_false]
       congr 2
       refine dB fun a c ha hc=>?_
       simp only [iJ]
       by_cases e5:a=x
       ·rw [if_pos ⟨e5,hc⟩,if_pos (by omega),e5]
       ·rw [if_neg (by omega)]
        by_cases e6:a<x
        ·rw [if_pos e6,if_pos (by omega)]
        ·rw [if_neg e6,if_neg (by omega)]
    ·unfold gQ
     simp only
     rw [oN (Nat.le_refl _),cond_false]
     congr 2
     exact dB fun a b ha hb=>by simp only [iJ];rw [if_pos ha]
   ·congr 1
   ·unfold mI
    simp only
    have g1:=h1 _ x hk hx
    have g2:=aJA (a:=F1 L.length x) (b:=s) (by omega) (by omega)
    rw [kM hx,cond_true,atT hN hk hx,Option.bind_some,aGg,Int.mul_comm,fA (by omega),aDQ hp (by omega),Option.bind_some,Option.bind_some,aNF hN hk hx,dE hx (by omega),aGh]
   ·unfold mI
    simp only
    rw [oN (Nat.le_refl _),cond_false]
    congr 2
    exact dB fun a b ha hb=>by simp only [wF];rw [if_pos hb]
  ·congr 1
  ·unfold mH
   simp only
   rw [kM hx,cond_true,atT hN hk hx,Option.bind_some,atT hN hrm hx,Option.bind_some,Option.bind_some,aNF hN hk hx,atT hN hrm hx,Option.bind_some,aNF hN hrm hx,aBT,aBT,dE hx (by omega),aIG]
  ·unfold mH
   simp only
   rw [oN (Nat.le_refl _),cond_false]
   congr 2
   exact dB fun a b ha hb=>by simp only [aAE];rw [if_pos hb]
theorem aJF {p:Int} {m n:Nat} {F:Nat→Nat→Int} (T:Tb p m n F):jX p ⟨m,n,dF m n F⟩=some (⟨m,n,dF m n (cZ p m F n).1⟩,sU (cZ p m F n).2):=by
 have hN:=T.hN
 have hn:=T.hn
 unfold jX yL
 simp only
 rw [gX,decide_eq_true (by simp;omega),cond_true,Option.bind_some]
 simp only [List.nil_append]
 obtain ⟨r,h1,h2⟩: ∃ r,Lp (eW p ⟨m,n,dF m n F⟩) (0,dF m n F,[],0)=some r∧r=(dF m n (cZ p m F n).1,sU (cZ p m F n).2):=by
  refine aMG (fun s=> ∃ j:Nat,j≤n∧s=((j:Int),dF m n (cZ p m F j).1,sU (cZ p m F j).2,((cZ p m F j).2.length:Int))) (fun s=>n - s.1.toNat) _ ⟨0,Nat.zero_le _,by simp [cZ,sU]⟩ ?_
  rintro s ⟨j,hj,rfl⟩
  rcases Nat.lt_or_ge j n with hlt|hge
  ·have hlen:= @sS p m F j
   rcases Nat.lt_or_ge (cZ p m F j).2.length m with hl|hl
   ·refine .inl ⟨_,aPi ⟨T.hp,T.hN,T.hm,T.hn,qO (by have:=gC T.hp;omega) T.hi j⟩ hlt _ hl _,⟨j+1,hlt,rfl⟩,?_⟩
    simp;omega
   ·refine .inr ⟨_,?_,rfl⟩
    unfold eW
    simp only
    have e:=aGf (p:=p) (F:=F) (j:=j) (by omega:(cZ p m F j).2.length=m) (n - j)
    rw [show j+(n - j)=n by omega] at e
    rw [kM hlt,cond_true,oN hl,cond_false,e]
  ·have e:j=n:=by omega
   subst e
   refine .inr ⟨_,?_,rfl⟩
   unfold eW
   simp only
   rw [oN (Nat.le_refl _),cond_false]
 rw [h1,h2,Option.bind_some]
end
noncomputable section
set_option maxRecDepth 10000
set_option maxHeartbeats 4000000
def jO (v1:Mt) (v3:(List Int)) (x1:((List Int)×Int)) (x2:((List Int)×Int)):Option (((List Int)×Int) ⊕ (List Int)):=
 bif decide (x2.2<(v3.length:Int)) then
 (Option.bind (dV v3 x2.2) fun v5=>
 Option.bind (dV x2.1 (wr ((wr (x2.2*v1.cols))+x1.2))) fun v6=>
 some (.inl ((x2.1.set ((wr ((wr (x2.2*v1.cols))+x1.2)).toNat) v5),wr (x2.2+1))))
 else
 (some (.inr x2.1))
def jP (a1:(List (List Int))) (v1:Mt) (x1:((List Int)×Int)):Option (((List Int)×Int) ⊕ (List Int)):=
 bif decide (x1.2<(a1.length:Int)) then
 (Option.bind (dV a1 x1.2) fun v3=>
 Option.bind (Lp (jO v1 v3 x1) (x1.1,0)) fun y7=>
 some (.inl (y7,wr (x1.2+1))))
 else
 (some (.inr x1.1))
def jC (a0:Int) (a1:(List (List Int))):Option Mt:=
 Option.bind (sT a0 (a1.length:Int)) fun v1=>
 Option.bind (Lp (jP a1 v1) (v1.cells,0)) fun y8=>
 some ((⟨v1.rows,v1.cols,y8⟩:Mt))
theorem aCN (a0:Int) (a1:(List (List Int))) (r:Mt) (h:jC a0 a1=some r):HasC Tryz.prog 155 [.int a0,.list 1 (List.map (dA 1 eI) a1)] (.agg (eM r)):=by
 refine bK aA (rvs:=[.cell 4 113]) (ns:=[0,1,2,3,4]) Tryz.func155 k k Tryz.ntmps155 k k k<|sQ<|rg<|ae (bX aA k k) k<|an<|tn<|sQ<|rg<|am k k<|am k k ?_
 refine ae (dG aA k k k) k ?_
 obtain ⟨v1,hv1,h⟩:=ob h
 refine ae (AEff.conv (cR (x:= .agg [.int v1.rows,.int v1.cols,.own 1 0 (List.map eI v1.cells).length]) (nb:=[(1,⟨1,cW (List.map eI v1.cells)⟩)]) (aAk a0 (a1.length:Int) v1 hv1) k (by rfl) k k (bZ trivial (bZ trivial (bZ (eE.good _) gO))) (aG (aI k) (aG (aI k) bA))) (v':= .agg [.int v1.rows,.int v1.cols,.own 1 0 v1.cells.length]) (ed':=[(1,some ⟨1,List.map (ow eI) v1.cells⟩)]) (by simp only [bD]) (eJ (nb':=[(1,⟨1,List.map (ow eI) v1.cells⟩)]) (by simp only [cT]))) k<|ae (bX aA k k) k<|ae (bP aA k k k k k k k k) k<|an<|tn<|sQ<|sQ<|rg<|am k k<|ae (dG aA k k k) k ?_
 refine am k k<|an<|tn<|aN ?_
 obtain ⟨y8,hy8,h⟩:=ob h
 refine cU (body:=(jP a1 v1)) hy8 (fun (x1:((List Int)×Int))=>bU [(4,.ptr 0 0 0),(5,.ptr 1 0 0),(14,.list 1 (List.map (dA 1 eI) a1)),(15,.int (a1.length:Int)),(16,.int x1.2)] [(0,⟨3,[[.int 0,.int 0,.nil 1]]⟩),(1,⟨3,[[.int v1.rows,.int v1.cols,.own 2 0 x1.1.length]]⟩),(2,⟨1,List.map (ow eI) x1.1⟩)] 3 [3,4]) (fun r e t=>e= .exit 0∧Ent t (bU [(4,.ptr 0 0 0),(5,.ptr 1 0 0)] [(0,⟨3,[[.int 0,.int 0,.nil 1]]⟩),(1,⟨3,[[.int v1.rows,.int v1.cols,.own 2 0 r.length]]⟩),(2,⟨1,List.map (ow eI) r⟩)] 3 [3,4])) (aE (σ:=sg [(0,0),(1,2),(2,1)]) ⟨(pE k k),(pE k k),⟨_,k,⟨k,k⟩⟩,(e1 k k),(e1 k k),trivial⟩ (hP k k k k<|hX ⟨_,k,k,.inr ⟨_,_,k,⟨_,_,k,k,⟨_,_,k,k,⟨_,_,k,⟨k,k,k,k⟩,k⟩⟩⟩,k⟩⟩ k<|hI k k k<|trivial) k) ?_ ?_
 ·intro x1 o h
  refine sQ<|rg<|ae (bC k k k) k<|an<|tn<|sQ ?_
  rcases cb h with ⟨q2,h⟩|⟨q2,h⟩
  ·refine aM k q2<|aT<|tn<|sQ<|aN<|sQ<|rg<|am k k ?_
   obtain ⟨v3,hv3,h⟩:=ob h
   refine ae (bH aA hv3 k k k k k k) k<|ae (aV aA k k k k k k) k<|aa k k<|aa k k<|an<|tn<|sQ<|rg<|am k k<|ae (dG aA k k k) k ?_
   refine am k k<|an<|tn<|aN ?_
   obtain ⟨y7,hy7,h⟩:=ob h
   refine cU (body:=(jO v1 v3 x1)) hy7 (fun (x2:((List Int)×Int))=>bU [(4,.ptr 0 0 0),(5,.ptr 1 0 0),(6,.int x1.2),(14,.list 1 (List.map (dA 1 eI) a1)),(15,.int (a1.length:Int)),(16,.int x1.2),(21,.list 1 (List.map eI v3)),(22,.int (v3.length:Int)),(23,.int x2.2)] [(0,⟨3,[[.int 0,.int 0,.nil 1]]⟩),(1,⟨3,[[.int v1.rows,.int v1.cols,.own 2 0 x2.1.length]]⟩),(2,⟨1,List.map (ow eI) x2.1⟩)] 3 [3,4]) (fun r e t=>e= .exit 2∧Ent t (bU [(4,.ptr 0 0 0),(5,.ptr 1 0 0),(14,.list 1 (List.map (dA 1 eI) a1)),(15,.int (a1.length:Int)),(16,.int x1.2)] [(0,⟨3,[[.int 0,.int 0,.nil 1]]⟩),(1,⟨3,[[.int v1.rows,.int v1.cols,.own 2 0 r.length]]⟩),(2,⟨1,List.map (ow eI) r⟩)] 3 [3,4])) (aE (σ:=sg [(0,0),(1,1),(2,2)]) ⟨(pE k k),(pE k k),(e1 k k),⟨_,k,⟨k,k⟩⟩,(e1 k k),(e1 k k),⟨_,k,⟨k,k⟩⟩,(e1 k k),(e1 k k),trivial⟩ (hP k k k k<|hX ⟨_,k,k,.inr ⟨_,_,k,⟨_,_,k,k,⟨_,_,k,k,⟨_,_,k,⟨k,k,k,k⟩,k⟩⟩⟩,k⟩⟩ k<|hI k k k<|trivial) k) ?_ ?_
   ·intro x2 o h
    refine sQ<|rg<|ae (bC k k k) k<|an<|tn<|sQ ?_
    rcases cb h with ⟨q4,h⟩|⟨q4,h⟩
    ·refine aM k q4<|aT<|tn<|sQ<|aN<|sQ<|rg<|am k k ?_
     obtain ⟨v5,hv5,h⟩:=ob h
     refine ae (bH aA hv5 k k k k k k) k<|ae (aV aA k k k k k k) k<|aa k k<|aa k k<|an<|tn<|rg<|ae (aD aA k k k k k k k) k<|ae (aC aA k k k k k k k) k<|am k k ?_
     refine ae (aD aA k k k k k k k) k<|ae (aC aA k k k k k k k) k<|ae (fL k k) k<|am k k<|ae (bV k k) k<|am k k ?_
     obtain ⟨v6,hv6,h⟩:=ob h
     refine ae (cX aA (eU hv6) (eV hv6) k k k k k k k) k<|ae (iB aA sZ (u:=v5) (dO hv6) k k k k k k) k<|an<|bE<|tn<|aO (t:=bU [(4,.ptr 0 0 0),(5,.ptr 1 0 0),(6,.int x1.2),(14,.list 1 (List.map (dA 1 eI) a1)),(15,.int (a1.length:Int)),(16,.int x1.2),(21,.list 1 (List.map eI v3)),(22,.int (v3.length:Int)),(23,.int x2.2)] [(0,⟨3,[[.int 0,.int 0,.nil 1]]⟩),(1,⟨3,[[.int v1.rows,.int v1.cols,.own 2 0 ((x2.1.set ((wr ((wr (x2.2*v1.cols))+x1.2)).toNat) v5).length)]]⟩),(2,⟨1,List.map (ow eI) (x2.1.set ((wr ((wr (x2.2*v1.cols))+x1.2)).toNat) v5)⟩)] 3 [3,4]) (aE (σ:=sg [(0,0),(1,1),(2,2)]) ⟨(pE k k),(pE k k),(e1 k k),⟨_,k,⟨k,k⟩⟩,(e1 k k),(e1 k k),⟨_,k,⟨k,k⟩⟩,(e1 k k),(e1 k k),trivial⟩ (hP k k k k<|hX ⟨_,k,k,.inr ⟨_,_,k,⟨_,_,k,k,⟨_,_,k,k,⟨_,_,k,⟨k,k,(by simp only [bD,lA,lT,lR,lC,lN]),k⟩,k⟩⟩⟩,k⟩⟩ k<|hI k k k<|trivial) k)<|rg<|ae (bV k k) k<|am k k<|an ?_
     refine tn ?_
     obtain rfl:=so h
     exact ⟨_,k,(aE (σ:=sg [(0,0),(1,1),(2,2)]) ⟨(pE k k),(pE k k),(e1 k k),⟨_,k,⟨k,k⟩⟩,(e1 k k),(e1 k k),⟨_,k,⟨k,k⟩⟩,(e1 k k),(e1 k k),trivial⟩ (hP k k k k<|hX ⟨_,k,k,.inr ⟨_,_,k,⟨_,_,k,k,⟨_,_,k,k,⟨_,_,k,⟨k,k,k,k⟩,k⟩⟩⟩,k⟩⟩ k<|hI k k k<|trivial) k)⟩
    ·refine aS k q4<|bG<|aH<|aH ?_
     obtain rfl:=so h
     exact ⟨_,k,k,(aE (σ:=sg [(0,0),(1,1),(2,2)]) ⟨(pE k k),(pE k k),⟨_,k,⟨k,k⟩⟩,(e1 k k),(e1 k k),trivial⟩ (hP k k k k<|hX ⟨_,k,k,.inr ⟨_,_,k,⟨_,_,k,k,⟨_,_,k,k,⟨_,_,k,⟨k,k,k,k⟩,k⟩⟩⟩,k⟩⟩ k<|hI k k k<|trivial) k)⟩
   ·rintro e t ⟨rfl,hent⟩
    refine aW<|bE<|tn<|aO hent<|rg<|ae (bV k k) k<|am k k<|an<|tn ?_
    obtain rfl:=so h
    exact ⟨_,k,(aE (σ:=sg [(0,0),(1,1),(2,2)]) ⟨(pE k k),(pE k k),⟨_,k,⟨k,k⟩⟩,(e1 k k),(e1 k k),trivial⟩ (hP k k k k<|hX ⟨_,k,k,.inr ⟨_,_,k,⟨_,_,k,k,⟨_,_,k,k,⟨_,_,k,⟨k,k,k,k⟩,k⟩⟩⟩,k⟩⟩ k<|hI k k k<|trivial) k)⟩
  ·refine aS k q2<|bG<|aH<|aH ?_
   obtain rfl:=so h
   exact ⟨_,k,k,(aE (σ:=sg [(0,0),(1,1),(2,2)]) ⟨(pE k k),(pE k k),trivial⟩ (hP k k k k<|hX ⟨_,k,k,.inr ⟨_,_,k,⟨_,_,k,k,⟨_,_,k,k,⟨_,_,k,⟨k,k,k,k⟩,k⟩⟩⟩,k⟩⟩ k<|hI k k k<|trivial) k)⟩
 ·rintro e t ⟨rfl,hent⟩
  refine aW<|tn<|aO hent<|sQ<|rg<|ae (aC aA k k k k k k k) k<|ae (bP aA k k k k k k k k) k<|an<|tn<|aP ?_
  obtain rfl:=so h
  exact aU k k k (qJ (cD (k) (cD (k) (cD (iM eE k k) gY))))
end
noncomputable section
set_option maxRecDepth 10000
set_option maxHeartbeats 4000000
end
noncomputable section
def dN (r:Rp) (k:Nat):Nat:=(r.dims[k]?.getD 0).toNat
theorem aOY {r:Rp} (h:aDP r=true):kV r.p=true∧aEy r.q r.dims=true∧r.maps.length=r.q.src.length∧ ∀ k,k<r.maps.length→aBa r.p (r.maps[k]?.getD ⟨0,0,[]⟩)=true∧(r.maps[k]?.getD ⟨0,0,[]⟩).cols=r.dims[(r.q.src[k]?.getD 0).toNat]?.getD 0∧(r.maps[k]?.getD ⟨0,0,[]⟩).rows=r.dims[(r.q.tgt[k]?.getD 0).toNat]?.getD 0:=by
 unfold aDP at h
 simp only [Bool.and_eq_true,decide_eq_true_eq,pQ] at h
 exact ⟨h.1,h.2.1,by omega,h.2.2.2⟩
theorem aKK (c:Nat) (f:Nat→Nat→Int): ∀ n,((List.range n).map fun i=>lQ c (f i)).flatten=dF n c f
 |0=>by simp [dF]
 |n+1=>by
  rw [List.range_succ,List.map_append,List.flatten_append,aKK c f n]
  unfold dF
  rw [Nat.succ_mul,List.range_add,List.map_append]
  congr 1
  simp only [List.map_cons,List.map_nil,List.flatten_cons,List.flatten_nil,List.append_nil,List.map_map,lQ]
  refine List.map_congr_left fun j hj=>?_
  have hj:=List.mem_range.1 hj
  simp only [Function.comp]
  rw [aGO hj,aGP hj]
theorem aIJ {l:List (List Int)} (h: ∀ x∈l,x.length≤1024):l.flatten.length≤1024*l.length:=by
 induction l with
 |nil=>simp
 |cons x l ih=>
  have h1:=h x (by simp)
  have h2:=ih fun y hy=>h y (by simp [hy])
  simp only [List.flatten_cons,List.length_append,List.length_cons]
  omega
theorem wN {l:List (List Int)} {k:Nat} (hk:k<l.length):(l.take (k+1)).flatten=(l.take k).flatten++l[k]:=by
 rw [List.take_succ_eq_append_getElem hk,List.flatten_append];simp
theorem aOZ {l:List (List Int)} (hl:l.length≤512) (h: ∀ x∈l,x.length≤1024):gV l=some l.flatten:=by
 have hb: ∀ k,(l.take k).flatten.length ≤1024*512:=fun k=>by
  have:=aIJ (l:=l.take k) fun x hx=>h x (List.mem_of_mem_take hx)
  have h2:(l.take k).length ≤512:=by simp;omega
  omega
 unfold gV
 rw [eZ (r:=(l.flatten.length:Int)) (fun k=>(((l.take k).flatten.length:Int),(k:Int))) l.length (by simp) (fun k hk=>?_) (fun _=>?_),Option.bind_some]
 ·have e:=hb l.length
  rw [List.take_length] at e
  unfold aLN
  rw [decide_eq_true (by omega),decide_eq_true (by omega:(l.flatten.length:Int)≤1048576),Bool.and_self,cond_true,Option.bind_some]
  rw [eZ (r:=l.flatten) (fun k=>((l.take k).flatten,(k:Int))) l.length (by simp) (fun k hk=>?_) (fun _=>?_),Option.bind_some]
  ·unfold gA
   simp only
   have e2:=hb (k+1)
   rw [wN hk,List.length_append] at e2
   rw [kM hk,cond_true,gB hk,Option.bind_some,decide_eq_true (by omega),cond_true,dE hk (by omega),wN hk]
  ·unfold gA
   simp only
   rw [oN (Nat.le_refl _),cond_false,List.take_length]
 ·unfold fZ
  simp only
  have e2:=hb (k+1)
  rw [wN hk,List.length_append] at e2
  rw [kM hk,cond_true,gB hk,Option.bind_some,fA (x:=_+_) (by omega),decide_eq_false (by omega),cond_false,dE hk (by omega),wN hk,List.length_append,Int.natCast_add (List.take k l).flatten.length l[k].length]
 ·unfold fZ
  simp only
  rw [oN (Nat.le_refl _),cond_false,List.take_length]
end
noncomputable section
open Go.ChangeShapes Go.WideShapes Go.ChangeAt Go.RowKit
theorem oI:wY Tryz.prog 3 (yK 1 eI):=aLK Tryz.underlying3
theorem oL:wY Tryz.prog 22 (yK 1 eL):=aDF Tryz.underlying22 (by decide) (by kernel_rfl) oI
theorem oQ:wY Tryz.prog 24 (yK 3 eQ):=by
 intro H enc w fuel cs d ps h hf
 obtain ⟨x0,T0,u0⟩:=nF Tryz.underlying24 h hf aGY (i:=0) (ft:=3) rfl (k:=1) (by kernel_rfl) oI
 obtain ⟨x1,T1,u1⟩:=nF Tryz.underlying24 h hf u0 (i:=1) (ft:=22) rfl (k:=1) (by kernel_rfl) oL
 obtain ⟨x2,T2,u2⟩:=nF Tryz.underlying24 h hf u1 (i:=2) (ft:=22) rfl (k:=1) (by kernel_rfl) oL
 exact ⟨⟨x0,x1,x2⟩,_,aGZ Tryz.underlying24 h hf u2 (by kernel_rfl) _ rfl⟩
theorem oM:wY Tryz.prog 111 (yK 3 eM):=by
 intro H enc w fuel cs d ps h hf
 obtain ⟨x0,T0,u0⟩:=nF Tryz.underlying111 h hf aGY (i:=0) (ft:=3) rfl (k:=1) (by kernel_rfl) oI
 obtain ⟨x1,T1,u1⟩:=nF Tryz.underlying111 h hf u0 (i:=1) (ft:=3) rfl (k:=1) (by kernel_rfl) oI
 obtain ⟨x2,T2,u2⟩:=nF Tryz.underlying111 h hf u1 (i:=2) (ft:=22) rfl (k:=1) (by kernel_rfl) oL
 exact ⟨⟨x0,x1,x2⟩,_,aGZ Tryz.underlying111 h hf u2 (by kernel_rfl) _ rfl⟩
theorem oMs:wY Tryz.prog 25 (yK 1 (fun l:List Mt=>[.list 3 (l.map eM)])):=aDF Tryz.underlying25 (by decide) (by kernel_rfl) oM
theorem oR:wY Tryz.prog 27 (yK 6 eR):=by
 intro H enc w fuel cs d ps h hf
 obtain ⟨x0,T0,u0⟩:=nF Tryz.underlying27 h hf aGY (i:=0) (ft:=3) rfl (k:=1) (by kernel_rfl) oI
 obtain ⟨x1,T1,u1⟩:=nF Tryz.underlying27 h hf u0 (i:=1) (ft:=24) rfl (k:=3) (by kernel_rfl) oQ
 obtain ⟨x2,T2,u2⟩:=nF Tryz.underlying27 h hf u1 (i:=2) (ft:=22) rfl (k:=1) (by kernel_rfl) oL
 obtain ⟨x3,T3,u3⟩:=nF Tryz.underlying27 h hf u2 (i:=3) (ft:=25) rfl (k:=1) (by kernel_rfl) oMs
 exact ⟨⟨x0,x1,x2,x3⟩,_,aGZ Tryz.underlying27 h hf u3 (by kernel_rfl) _ rfl⟩
end
noncomputable section
theorem aMT {w:World} : ∀ {ds:List AV} {vs:List Value} {S:List Nat},RepVs w ds vs S→ ∀ d∈ds,∃ v S',RepD w d v S'
 | [],_,_,_,d,hd=>by cases hd
 |c::cs,vs,S,h,d,hd=>by
  simp only [RepVs] at h
  obtain ⟨v,r,S1,S2,_,_,h3,h4⟩:=h
  rcases List.mem_cons.1 hd with rfl|h'
  ·exact ⟨v,S1,h3⟩
  ·exact aMT h4 d h'
theorem aMU {w:World} {b:Nat} : ∀ {ds:List AV} {o:Nat} {S:List Nat},RepCs w b o ds S→ ∀ d∈ds,∃ v S',RepD w d v S'
 | [],_,_,_,d,hd=>by cases hd
 |c::cs,o,S,h,d,hd=>by
  simp only [RepCs] at h
  obtain ⟨v,S1,S2,_,_,_,_,h3,h4⟩:=h
  rcases List.mem_cons.1 hd with rfl|h'
  ·exact ⟨v,S1,h3⟩
  ·exact aMU h4 d h'
theorem aMV {w:World} {k b:Nat} : ∀ {es:List (List AV)} {o:Nat} {S:List Nat},RepEs w k b o es S→ ∀ cs∈es,∀ d∈cs,∃ v S',RepD w d v S'
 | [],_,_,_,cs,hc=>by cases hc
 |c::es,o,S,h,cs,hc=>by
  simp only [RepEs] at h
  obtain ⟨S1,S2,_,_,h3,h4⟩:=h
  rcases List.mem_cons.1 hc with rfl|h'
  ·exact aMU h3
  ·exact aMV h4 cs h'
theorem aMW {w:World} {k:Nat} {es:List (List AV)} {v:Value} {S:List Nat} (h:RepD w (.list k es) v S):es.length≤9223372036854775807∧ ∀ cs∈es,∀ d∈cs,∃ v S',RepD w d v S':=by
 unfold RepD at h
 obtain ⟨a,c,_,h2,h3,h4⟩:=h
 have hm:maxLen≤9223372036854775807:=by decide
 refine ⟨by omega,?_⟩
 rcases h4 with ⟨rfl,_⟩|⟨b,o,T,_,_,_,h5⟩
 ·intro cs hcs;cases hcs
 ·exact aMV h5
theorem aQD {w:World} {l:List Int} {v:Value} {S:List Nat} (h:RepD w (aIn l) v S):fI l:=by
 have:=(aMW (k:=1) (es:=List.map eI l) h).1
 rwa [List.length_map] at this
theorem aJG {w:World} {ds:List AV} (h: ∀ d∈ds,∃ v S',RepD w d v S') {l:List Int} (hl:aIn l∈ds):fI l:=by
 obtain ⟨v,S,h⟩:=h _ hl
 exact aQD h
theorem aOa {w:World} {ds:List AV} (h: ∀ d∈ds,∃ v S',RepD w d v S') {α:Type} {k:Nat} {e:α→List AV} {l:List α} (hl:AV.list k (l.map e)∈ds):fI l∧ ∀ x∈l,∀ d∈e x,∃ v S',RepD w d v S':=by
 obtain ⟨v,S,h⟩:=h _ hl
 have:=aMW h
 rw [List.length_map] at this
 exact ⟨this.1,fun x hx=>this.2 _ (List.mem_map.2 ⟨x,hx,rfl⟩)⟩
theorem aRB {w:World} {m:Mt} (h: ∀ d∈eM m,∃ v S',RepD w d v S'):fM m:=aJG h (by simp [eM])
theorem aQX {w:World} {l:List Mt} {ds:List AV} (h: ∀ d∈ds,∃ v S',RepD w d v S') (hl:AV.list 3 (l.map eM)∈ds):fMs l:=by
 obtain ⟨h1,h2⟩:=aOa h hl
 exact ⟨h1,fun m hm=>aRB (h2 m hm)⟩
theorem aRC {w:World} {r:Rp} (h: ∀ d∈eR r,∃ v S',RepD w d v S'):fR r:=⟨⟨aJG h (by simp [eR]),aJG h (by simp [eR])⟩,aJG h (by simp [eR]),aQX h (by simp [eR])⟩
theorem aOb {w0 w:World} {v:Value} {S:List Nat} (h:aKt w (.bl true) v S):Ending.returned v= .returned (.bool true):=by rw [h.1]
end
noncomputable section
set_option maxRecDepth 10000
set_option maxHeartbeats 4000000
end
noncomputable section
set_option maxRecDepth 10000
set_option maxHeartbeats 4000000
def rG (a0:Int) (a1:(List (List Int))):Option Mt:=
 Option.bind (gV a1) fun v1=>
 some ((⟨(a1.length:Int),a0,v1⟩:Mt))
theorem aFX (a0:Int) (a1:(List (List Int))) (r:Mt) (h:rG a0 a1=some r):HasC Tryz.prog 260 [.int a0,.list 1 (List.map (dA 1 eI) a1)] (.agg (eM r)):=by
 refine bK aA (rvs:=[.cell 4 113]) (ns:=[0,1,2,3]) Tryz.func260 k k Tryz.ntmps260 k k k<|sQ<|rg<|ae (bX aA k k) k<|an<|tn<|sQ<|rg<|am k k<|ae (dG aA k k k) k ?_
 refine am k k<|am k k ?_
 obtain ⟨v1,hv1,h⟩:=ob h
 refine ae (AEff.conv (cR (x:= .own 1 0 (List.map eI v1).length) (nb:=[(1,⟨1,cW (List.map eI v1)⟩)]) (yN a1 v1 hv1) k (by rfl) k k (eE.good _) (aG (aI k) bA)) (v':= .own 1 0 v1.length) (ed':=[(1,some ⟨1,List.map (ow eI) v1⟩)]) (by simp only [bD]) (eJ (nb':=[(1,⟨1,List.map (ow eI) v1⟩)]) (by simp only [cT]))) k<|ae (cQ aA k k k k k k) k<|ae (bP aA k k k k k k k k) k<|an<|tn<|aP ?_
 obtain rfl:=so h
 exact aU k k k (qJ (cD (k) (cD (k) (cD (iM eE k k) gY))))
def tR (v2:(Mt×(List Int))) (x1:((List (List Int))×Int)):Option (((List (List Int))×Int) ⊕ (List (List Int))):=
 bif decide (x1.2<((v2.2.length:Nat):Int)) then
 (Option.bind (dM v2.1 x1.2) fun v4=>
 Option.bind (tI ((v2.1.cells.drop (0+(wr (x1.2*v2.1.cols)).toNat)).take ((wr ((wr (x1.2+1))*v2.1.cols)).toNat - (wr (x1.2*v2.1.cols)).toNat))) fun v5=>
 bif decide (x1.1.length+1≤4294967296) then
 (some (.inl ((x1.1++[v5]),wr (x1.2+1))))
 else none)
 else
 (some (.inr x1.1))
def vI (a0:Int) (a1:Int) (a2:(List (List Int))):Option Sc:=
 Option.bind (rG a1 a2) fun v1=>
 Option.bind (vA a0 v1) fun v2=>
 Option.bind (Lp (tR v2) ([],0)) fun y7=>
 some ((⟨a1,y7⟩:Sc))
theorem aEz (a0:Int) (a1:Int) (a2:(List (List Int))) (r:Sc) (h:vI a0 a1 a2=some r):HasC Tryz.prog 233 [.int a0,.int a1,.list 1 (List.map (dA 1 eI) a2)] (.agg (eS r)):=by
 refine bK aA (rvs:=[.cell 6 99]) (ns:=[0,1,2,3,4,5,6,7,8]) Tryz.func233 k k Tryz.ntmps233 k k k<|sQ<|rg<|ae (bX aA k k) k<|an<|tn<|sQ<|rg<|am k k<|am k k ?_
 refine am k k ?_
 obtain ⟨v1,hv1,h⟩:=ob h
 refine ae (AEff.conv (cR (x:= .agg [.int v1.rows,.int v1.cols,.own 1 0 (List.map eI v1.cells).length]) (nb:=[(1,⟨1,cW (List.map eI v1.cells)⟩)]) (aFX a1 a2 v1 hv1) k (by rfl) k k (bZ trivial (bZ trivial (bZ (eE.good _) gO))) (aG (aI k) (aG (aI k) bA))) (v':= .agg [.int v1.rows,.int v1.cols,.own 1 0 v1.cells.length]) (ed':=[(1,some ⟨1,List.map (ow eI) v1.cells⟩)]) (by simp only [bD]) (eJ (nb':=[(1,⟨1,List.map (ow eI) v1.cells⟩)]) (by simp only [cT]))) k ?_
 obtain ⟨v2,hv2,h⟩:=ob h
 refine ae (AEff.conv (cR (x:= .tuple [.agg [.int v2.1.rows,.int v2.1.cols,.own 2 0 (List.map eI v2.1.cells).length],.own 3 0 (List.map eI v2.2).length]) (nb:=[(2,⟨1,cW (List.map eI v2.1.cells)⟩),(3,⟨1,cW (List.map eI v2.2)⟩)]) (aHP a0 v1 v2 hv2) k (by rfl) k k (kX (bZ trivial (bZ trivial (bZ (eE.good _) gO))) (kX (eE.good _) aAh)) (aG (aI k) (aG (cA (aL (aQ k) (aL (aQ k) (aL (tE eE k k) cF)))) bA))) (v':= .tuple [.agg [.int v2.1.rows,.int v2.1.cols,.own 2 0 v2.1.cells.length],.own 3 0 v2.2.length]) (ed':=[(2,some ⟨1,List.map (ow eI) v2.1.cells⟩),(3,some ⟨1,List.map (ow eI) v2.2⟩)]) (by simp only [bD]) (eJ (nb':=[(2,⟨1,List.map (ow eI) v2.1.cells⟩),(3,⟨1,List.map (ow eI) v2.2⟩)]) (by simp only [cT]))) k<|am k k<|ae (bO k k (by intro _ h;cases h)) k<|ae (bO k k (by intro _ h;cases h)) k<|ae (bX aA k k) k<|ae (bP aA k k k k k k k k) k<|aa k k<|an<|tn<|aO (t:=bU [(1,.int a1),(6,.ptr 0 0 0),(7,.ptr 4 0 0),(8,.own 3 0 v2.2.length)] [(0,⟨2,[[.int 0,.nil 1]]⟩),(2,⟨1,List.map (ow eI) v2.1.cells⟩),(3,⟨1,List.map (ow eI) v2.2⟩),(4,⟨3,[[.int v2.1.rows,.int v2.1.cols,.own 2 0 v2.1.cells.length]]⟩)] 5 [5,6,7,8]) (aE (σ:=sg [(0,0),(2,2),(3,3),(4,4)]) ⟨(e1 k k),(pE k k),(pE k k),(oE k k),trivial⟩ (hP k k k k<|hI k k k<|hI k k k<|hX ⟨_,k,k,.inr ⟨_,_,k,⟨_,_,k,k,⟨_,_,k,k,⟨_,_,k,⟨k,k,k,k⟩,k⟩⟩⟩,k⟩⟩ k<|trivial) k) ?_
 refine sQ<|rg<|aa k k<|an<|tn<|sQ<|sQ<|rg<|am k k<|ae (bW aA k k k k) k ?_
 refine am k k<|an<|tn<|aN ?_
 obtain ⟨y7,hy7,h⟩:=ob h
 refine cU (body:=(tR v2)) hy7 (fun (x1:((List (List Int))×Int))=>bU [(1,.int a1),(6,.ptr 0 0 0),(7,.ptr 1 0 0),(9,.own 3 0 x1.1.length),(20,.int ((v2.2.length:Nat):Int)),(21,.int x1.2)] [(0,⟨2,[[.int 0,.nil 1]]⟩),(1,⟨3,[[.int v2.1.rows,.int v2.1.cols,.own 2 0 v2.1.cells.length]]⟩),(2,⟨1,List.map (ow eI) v2.1.cells⟩),(3,⟨1,List.map (ow (dA 1 eI)) x1.1⟩)] 4 [4,5,6,7,8]) (fun r e t=>e= .exit 0∧Ent t (bU [(1,.int a1),(6,.ptr 0 0 0),(9,.own 1 0 r.length)] [(0,⟨2,[[.int 0,.nil 1]]⟩),(1,⟨1,List.map (ow (dA 1 eI)) r⟩)] 2 [2,3,4,5,6,7,8])) (aE (σ:=sg [(0,0),(1,4),(2,2)]) ⟨(e1 k k),(pE k k),(pE k k),⟨_,k,⟨k,k,k,k⟩⟩,(e1 k k),(e1 k k),trivial⟩ (hP k k k k<|hX ⟨_,k,k,.inr ⟨_,_,k,⟨_,_,k,k,⟨_,_,k,k,⟨_,_,k,⟨k,k,k,k⟩,k⟩⟩⟩,k⟩⟩ k<|hI k k k<|hX k k<|trivial) k) ?_ ?_
 ·intro x1 o h
  refine sQ<|rg<|ae (bC k k k) k<|an<|tn<|sQ ?_
  rcases cb h with ⟨q3,h⟩|⟨q3,h⟩
  ·refine aM k q3<|aT<|tn<|sQ<|aN<|sQ<|rg<|am k k<|aa k k<|an ?_
   refine tn<|rg<|am k k<|ae (aC aA k k k k k k k) k<|am k k ?_
   obtain ⟨v4,hv4,h⟩:=ob h
   refine ae (AEff.pureE (lJ (σ:=sg [(0,2)]) (σ':=sg [(2,0)]) (touch:=[2]) (news:=[]) (hl2:=[(2,⟨1,List.map (ow eI) v2.1.cells⟩)]) (n':=4) (r2:= .own 2 (0+(wr (x1.2*v2.1.cols)).toNat) ((wr ((wr (x1.2+1))*v2.1.cols)).toNat - (wr (x1.2*v2.1.cols)).toNat)) (eK v2.1 x1.2 v4 hv4) k k ⟨_,_,k,⟨_,_,k,k,⟨_,_,k,k,⟨_,_,k,⟨k,k,k,k⟩,k⟩⟩⟩,⟨_,_,k,k,k⟩⟩ ⟨⟨_,k,k,.inl ⟨k,eE.plainO _⟩⟩,k,trivial⟩ k k k ⟨⟨_,k,k,.inl ⟨k,eE.plainO _⟩⟩,k,trivial⟩ k ⟨k,k,(by simp only [bD,lA,lT,lR,lC,lN]),k⟩ k ⟨k,eE.tame _ _,trivial⟩ k k) ⟨k,k,trivial⟩) k ?_
   obtain ⟨v5,hv5,h⟩:=ob h
   refine ae (AEff.conv (cR (x:= .own 4 0 (List.map eI v5).length) (nb:=[(4,⟨1,cW (List.map eI v5)⟩)]) (aDG ((v2.1.cells.drop (0+(wr (x1.2*v2.1.cols)).toNat)).take ((wr ((wr (x1.2+1))*v2.1.cols)).toNat - (wr (x1.2*v2.1.cols)).toNat)) v5 hv5) k (by rfl) k k (eE.good _) (aG (aPY eE k) bA)) (v':= .own 4 0 v5.length) (ed':=[(4,some ⟨1,List.map (ow eI) v5⟩)]) (by simp only [bD]) (eJ (nb':=[(4,⟨1,List.map (ow eI) v5⟩)]) (by simp only [cT]))) k<|ae (cS aA k k k k k k k k k k k k) k ?_
   obtain ⟨q6,h⟩:=cg h
   refine ae (tH aA (l:=x1.1) (c:=[.own 4 0 v5.length]) q6 k k k k k k k k k k k k k k) k<|aa k k<|an<|bE<|tn<|aO (t:=bU [(1,.int a1),(6,.ptr 0 0 0),(7,.ptr 1 0 0),(9,.own 6 0 ((x1.1++[v5]).length)),(20,.int ((v2.2.length:Nat):Int)),(21,.int x1.2)] [(0,⟨2,[[.int 0,.nil 1]]⟩),(1,⟨3,[[.int v2.1.rows,.int v2.1.cols,.own 2 0 v2.1.cells.length]]⟩),(2,⟨1,List.map (ow eI) v2.1.cells⟩),(6,⟨1,List.map (ow (dA 1 eI)) (x1.1++[v5])⟩)] 7 [7,8]) (Ent.trans (tF (b:=6) (b':=4) (j:=0) (es':=List.map eI v5) k k k k (bD _ _) (eE.frzs _)) (aE (σ:=sg [(0,0),(1,1),(2,2),(6,6)]) ⟨(e1 k k),(pE k k),(pE k k),⟨_,k,⟨k,k,(by simp only [bD,lA,lT,lR,lC,lN]),k⟩⟩,(e1 k k),(e1 k k),trivial⟩ (hP k k k k<|hX ⟨_,k,k,.inr ⟨_,_,k,⟨_,_,k,k,⟨_,_,k,k,⟨_,_,k,⟨k,k,k,k⟩,k⟩⟩⟩,k⟩⟩ k<|hI k k k<|hX ⟨_,k,k,.inl ⟨yJ v5 k,cL.plainO _⟩⟩ k<|trivial) k))<|rg<|ae (bV k k) k<|am k k<|an ?_
   refine tn ?_
   obtain rfl:=so h
   exact ⟨_,k,(aE (σ:=sg [(0,0),(1,1),(2,2),(3,6)]) ⟨(e1 k k),(pE k k),(pE k k),(oE k k),(e1 k k),(e1 k k),trivial⟩ (hP k k k k<|hX ⟨_,k,k,.inr ⟨_,_,k,⟨_,_,k,k,⟨_,_,k,k,⟨_,_,k,⟨k,k,k,k⟩,k⟩⟩⟩,k⟩⟩ k<|hI k k k<|hB (cL.plainO _) k k k<|trivial) k)⟩
  ·refine aS k q3<|bG<|aH<|aH ?_
   obtain rfl:=so h
   exact ⟨_,k,k,(aE (σ:=sg [(0,0),(1,3)]) ⟨(e1 k k),(pE k k),(oE k k),trivial⟩ (hP k k k k<|hB (cL.plainO _) k k k<|trivial) k)⟩
 ·rintro e t ⟨rfl,hent⟩
  refine aW<|tn<|aO hent<|sQ<|rg<|am k k<|am k k<|ae (cQ aA k k k k k k) k<|ae (bP aA k k k k k k k k) k<|an ?_
  refine tn<|aP ?_
  obtain rfl:=so h
  exact aU k k k (qJ (cD (k) (cD (iM cL k k) gY)))
def qC (a1:(List (List Int))) (x1:((List Int)×Int)):Option (((List Int)×Int) ⊕ (List Int)):=
 bif decide (x1.2<(a1.length:Int)) then
 (Option.bind (dV a1 x1.2) fun v2=>
 bif decide (x1.1.length+v2.length≤4294967296) then
 (some (.inl ((x1.1++v2),wr (x1.2+1))))
 else none)
 else
 (some (.inr x1.1))
def kQ (a0:Int) (a1:(List (List Int))):Option Mt:=
 Option.bind (Lp (qC a1) ([],0)) fun y4=>
 some ((⟨(a1.length:Int),a0,y4⟩:Mt))
theorem aBs (a0:Int) (a1:(List (List Int))) (r:Mt) (h:kQ a0 a1=some r):HasC Tryz.prog 157 [.int a0,.list 1 (List.map (dA 1 eI) a1)] (.agg (eM r)):=by
 refine bK aA (rvs:=[.cell 4 113]) (ns:=[0,1,2,3,4,5]) Tryz.func157 k k Tryz.ntmps157 k k k<|sQ<|rg<|ae (bX aA k k) k<|an<|tn<|sQ<|rg<|am k k<|ae (dG aA k k k) k ?_
 refine am k k<|ae (cQ aA k k k k k k) k<|ae (bX aA k k) k<|ae (bP aA k k k k k k k k) k<|an<|tn<|sQ<|sQ<|rg<|aa k k ?_
 refine an<|tn<|aN ?_
 obtain ⟨y4,hy4,h⟩:=ob h
 refine cU (body:=(qC a1)) hy4 (fun (x1:((List Int)×Int))=>bU [(1,.list 1 (List.map (dA 1 eI) a1)),(4,.ptr 0 0 0),(5,.ptr 1 0 0),(6,.int x1.2)] [(0,⟨3,[[.int 0,.int 0,.nil 1]]⟩),(1,⟨3,[[.int (a1.length:Int),.int a0,.own 2 0 x1.1.length]]⟩),(2,⟨1,List.map (ow eI) x1.1⟩)] 3 [3,4,5]) (fun r e t=>e= .exit 0∧Ent t (bU [(4,.ptr 0 0 0),(5,.ptr 1 0 0)] [(0,⟨3,[[.int 0,.int 0,.nil 1]]⟩),(1,⟨3,[[.int (a1.length:Int),.int a0,.own 2 0 r.length]]⟩),(2,⟨1,List.map (ow eI) r⟩)] 3 [3,4,5])) (aE (σ:=sg [(0,0),(1,1)]) ⟨⟨_,k,⟨k,k⟩⟩,(pE k k),(pE k k),(e1 k k),trivial⟩ (hP k k k k<|hX ⟨_,k,k,.inr ⟨_,_,k,⟨_,_,k,k,⟨_,_,k,k,⟨_,_,k,⟨k,k,k,k⟩,k⟩⟩⟩,k⟩⟩ k<|hX k k<|trivial) k) ?_ ?_
 ·intro x1 o h
  refine sQ<|sQ<|rg<|am k k<|am k k<|ae (dG aA k k k) k<|ae (bC k k k) k<|an<|tn ?_
  rcases cb h with ⟨q1,h⟩|⟨q1,h⟩
  ·refine aM k q1<|aT<|tn<|sQ<|aN<|aY kB<|ae (aD aA k k k k k k k) k<|ae (aC aA k k k k k k k) k<|am k k<|am k k ?_
   obtain ⟨v2,hv2,h⟩:=ob h
   refine ae (bH aA hv2 k k k k k k) k<|ae (aV aA k k k k k k) k ?_
   obtain ⟨q3,h⟩:=cg h
   refine ae (uH aA (l:=x1.1) (m:=v2) sZ q3 k k k k k k k k k k k k) k<|ae (aD aA k k k k k k k) k<|ae (bP aA k k k k k k k k) k<|an ?_
   refine ⟨by kernel_rfl,?_⟩
   refine bE<|tn<|aO (t:=bU [(1,.list 1 (List.map (dA 1 eI) a1)),(4,.ptr 0 0 0),(5,.ptr 1 0 0),(6,.int x1.2)] [(0,⟨3,[[.int 0,.int 0,.nil 1]]⟩),(1,⟨3,[[.int (a1.length:Int),.int a0,.own 3 0 ((x1.1++v2).length)]]⟩),(3,⟨1,List.map (ow eI) (x1.1++v2)⟩)] 4 [4,5]) (aE (σ:=sg [(0,0),(1,1),(3,3)]) ⟨⟨_,k,⟨k,k⟩⟩,(pE k k),(pE k k),(e1 k k),trivial⟩ (hP k k k k<|hX ⟨_,k,k,.inr ⟨_,_,k,⟨_,_,k,k,⟨_,_,k,k,⟨_,_,k,⟨k,k,k,k⟩,k⟩⟩⟩,k⟩⟩ k<|hI k k k<|trivial) k)<|rg<|am k k<|ae (bV k k) k<|aa k k<|an<|tn ?_
   obtain rfl:=so h
   exact ⟨_,k,(aE (σ:=sg [(0,0),(1,1),(2,3)]) ⟨⟨_,k,⟨k,k⟩⟩,(pE k k),(pE k k),(e1 k k),trivial⟩ (hP k k k k<|hX ⟨_,k,k,.inr ⟨_,_,k,⟨_,_,k,k,⟨_,_,k,k,⟨_,_,k,⟨k,k,k,k⟩,k⟩⟩⟩,k⟩⟩ k<|hI k k k<|trivial) k)⟩
  ·refine aS k q1<|bG<|aH<|aH ?_
   obtain rfl:=so h
   exact ⟨_,k,k,(aE (σ:=sg [(0,0),(1,1),(2,2)]) ⟨(pE k k),(pE k k),trivial⟩ (hP k k k k<|hX ⟨_,k,k,.inr ⟨_,_,k,⟨_,_,k,k,⟨_,_,k,k,⟨_,_,k,⟨k,k,k,k⟩,k⟩⟩⟩,k⟩⟩ k<|hI k k k<|trivial) k)⟩
 ·rintro e t ⟨rfl,hent⟩
  refine aW<|tn<|aO hent<|sQ<|rg<|ae (aC aA k k k k k k k) k<|ae (bP aA k k k k k k k k) k<|an<|tn<|aP ?_
  obtain rfl:=so h
  exact aU k k k (qJ (cD (k) (cD (k) (cD (iM eE k k) gY))))
def nT (v1:(Mt×(List Int))) (x1:((List (List Int))×Int)):Option (((List (List Int))×Int) ⊕ (List (List Int))):=
 bif decide (x1.2<((v1.2.length:Nat):Int)) then
 (bif (decide (0≤wr (x1.2*v1.1.cols))&&(decide (wr (x1.2*v1.1.cols)≤wr ((wr (x1.2*v1.1.cols))+v1.1.cols))&&decide (wr ((wr (x1.2*v1.1.cols))+v1.1.cols)≤((v1.1.cells.length:Nat):Int)))) then
 (bif decide (([]:(List Int)).length +((v1.1.cells.drop (0+(wr (x1.2*v1.1.cols)).toNat)).take ((wr ((wr (x1.2*v1.1.cols))+v1.1.cols)).toNat - (wr (x1.2*v1.1.cols)).toNat)).length ≤4294967296) then
 (bif decide (x1.1.length+1≤4294967296) then
 (some (.inl ((x1.1++[(([]:(List Int))++((v1.1.cells.drop (0+(wr (x1.2*v1.1.cols)).toNat)).take ((wr ((wr (x1.2*v1.1.cols))+v1.1.cols)).toNat - (wr (x1.2*v1.1.cols)).toNat)))]),wr (x1.2+1))))
 else none)
 else none)
 else none)
 else
 (some (.inr x1.1))
def jD (a0:Int) (a1:Mt):Option (List (List Int)):=
 Option.bind (jX a0 a1) fun v1=>
 Option.bind (Lp (nT v1) (([]:(List (List Int))),0)) fun y6=>
 some (y6)
theorem aAo (a0:Int) (a1:Mt) (r:(List (List Int))) (h:jD a0 a1=some r):HasC Tryz.prog 182 [.int a0,.agg (eM a1)] (.list 1 (List.map (dA 1 eI) r)):=by
 refine bK aA (rvs:=[.tmp 4]) (ns:=[0,1,2,3,4,5,6,7,8,9]) Tryz.func182 k k Tryz.ntmps182 k k k<|sQ<|rg<|ae (cC k k k k) k<|aa k k<|an<|tn<|sQ<|rg<|am k k ?_
 refine ae (aC aA k k k k k k k) k ?_
 obtain ⟨v1,hv1,h⟩:=ob h
 refine ae (AEff.conv (cR (x:= .tuple [.agg [.int v1.1.rows,.int v1.1.cols,.own 1 0 (List.map eI v1.1.cells).length],.own 2 0 (List.map eI v1.2).length]) (nb:=[(1,⟨1,cW (List.map eI v1.1.cells)⟩),(2,⟨1,cW (List.map eI v1.2)⟩)]) (aFL a0 a1 v1 hv1) k (by rfl) k k (kX (bZ trivial (bZ trivial (bZ (eE.good _) gO))) (kX (eE.good _) aAh)) (aG (aI k) (aG (cA (aL (aQ k) (aL (aQ k) (aL (aQ k) cF)))) bA))) (v':= .tuple [.agg [.int v1.1.rows,.int v1.1.cols,.own 1 0 v1.1.cells.length],.own 2 0 v1.2.length]) (ed':=[(1,some ⟨1,List.map (ow eI) v1.1.cells⟩),(2,some ⟨1,List.map (ow eI) v1.2⟩)]) (by simp only [bD]) (eJ (nb':=[(1,⟨1,List.map (ow eI) v1.1.cells⟩),(2,⟨1,List.map (ow eI) v1.2⟩)]) (by simp only [cT]))) k<|am k k<|ae (bO k k (by intro _ h;cases h)) k<|ae (bO k k (by intro _ h;cases h)) k<|ae (bX aA k k) k<|ae (bP aA k k k k k k k k) k<|aa k k<|an<|tn<|sQ ?_
 refine rg<|ae (cS aA k k k k k k k k k k k k) k<|aa k k<|an<|tn<|aO (t:=bU [(5,.ptr 3 0 0),(6,.own 2 0 v1.2.length),(7,.own 4 0 (([]:(List (List Int))).length))] [(1,⟨1,List.map (ow eI) v1.1.cells⟩),(2,⟨1,List.map (ow eI) v1.2⟩),(3,⟨3,[[.int v1.1.rows,.int v1.1.cols,.own 1 0 v1.1.cells.length]]⟩),(4,⟨1,List.map (ow (dA 1 eI)) ([]:(List (List Int)))⟩)] 5 [5,6,7,8,9]) (aE (σ:=sg [(1,1),(2,2),(3,3),(4,4)]) ⟨(pE k k),(oE k k),⟨_,k,⟨k,k,(by simp only [bD,lA,lT,lR,lC,lN]),k⟩⟩,trivial⟩ (hI k k k<|hI k k k<|hX ⟨_,k,k,.inr ⟨_,_,k,⟨_,_,k,k,⟨_,_,k,k,⟨_,_,k,⟨k,k,k,k⟩,k⟩⟩⟩,k⟩⟩ k<|hB (cL.plainO _) k k k<|trivial) k)<|sQ<|sQ<|rg<|aa k k ?_
 refine an<|tn<|aN ?_
 obtain ⟨y6,hy6,h⟩:=ob h
 refine cU (body:=(nT v1)) hy6 (fun (x1:((List (List Int))×Int))=>bU [(5,.ptr 0 0 0),(6,.own 2 0 v1.2.length),(7,.own 3 0 x1.1.length),(8,.int x1.2)] [(0,⟨3,[[.int v1.1.rows,.int v1.1.cols,.own 1 0 v1.1.cells.length]]⟩),(1,⟨1,List.map (ow eI) v1.1.cells⟩),(2,⟨1,List.map (ow eI) v1.2⟩),(3,⟨1,List.map (ow (dA 1 eI)) x1.1⟩)] 4 [4,5,6,7,8,9]) (fun r e t=>e= .exit 0∧Ent t (bU [(7,.own 0 0 r.length)] [(0,⟨1,List.map (ow (dA 1 eI)) r⟩)] 1 [1,2,3,4,5,6,7,8,9])) (aE (σ:=sg [(0,3),(1,1),(2,2),(3,4)]) ⟨(pE k k),(oE k k),(oE k k),(e1 k k),trivial⟩ (hX ⟨_,k,k,.inr ⟨_,_,k,⟨_,_,k,k,⟨_,_,k,k,⟨_,_,k,⟨k,k,k,k⟩,k⟩⟩⟩,k⟩⟩ k<|hI k k k<|hI k k k<|hB (cL.plainO _) k k k<|trivial) k) ?_ ?_
 ·intro x1 o h
  refine sQ<|sQ<|rg<|am k k<|am k k<|ae (bW aA k k k k) k<|ae (bC k k k) k<|an<|tn ?_
  rcases cb h with ⟨q2,h⟩|⟨q2,h⟩
  ·refine aM k q2<|aT<|tn<|sQ<|aN<|rg<|am k k<|ae (cS aA k k k k k k k k k k k k) k<|ae (aD aA k k k k k k k) k<|ae (aC aA k k k k k k k) k ?_
   refine am k k<|ae (aD aA k k k k k k k) k<|ae (aC aA k k k k k k k) k<|ae (fL k k) k<|am k k<|ae (aD aA k k k k k k k) k<|ae (aC aA k k k k k k k) k<|ae (fL k k) k<|ae (aD aA k k k k k k k) k<|ae (aC aA k k k k k k k) k ?_
   refine ae (bV k k) k ?_
   obtain ⟨q3,h⟩:=cg h
   refine ae (xZ aA (l:=wr (x1.2*v1.1.cols)) (h:=wr ((wr (x1.2*v1.1.cols))+v1.1.cols)) q3 k k k k k k k k) k ?_
   obtain ⟨q4,h⟩:=cg h
   refine ae (uH aA (l:=([]:(List Int))) (m:=((v1.1.cells.drop (0+(wr (x1.2*v1.1.cols)).toNat)).take ((wr ((wr (x1.2*v1.1.cols))+v1.1.cols)).toNat - (wr (x1.2*v1.1.cols)).toNat))) sZ q4 k k k k k (aOS eE k) k k k k k k) k<|ae (cS aA k k k k k k k k k k k k) k ?_
   obtain ⟨q5,h⟩:=cg h
   refine ae (tH aA (l:=x1.1) (c:=[.own 5 0 ((([]:(List Int))++((v1.1.cells.drop (0+(wr (x1.2*v1.1.cols)).toNat)).take ((wr ((wr (x1.2*v1.1.cols))+v1.1.cols)).toNat - (wr (x1.2*v1.1.cols)).toNat))).length)]) q5 k k k k k k k k k k k k k k) k<|aa k k<|an<|bE<|tn<|aO (t:=bU [(5,.ptr 0 0 0),(6,.own 2 0 v1.2.length),(7,.own 7 0 ((x1.1++[(([]:(List Int))++((v1.1.cells.drop (0+(wr (x1.2*v1.1.cols)).toNat)).take ((wr ((wr (x1.2*v1.1.cols))+v1.1.cols)).toNat - (wr (x1.2*v1.1.cols)).toNat)))]).length)),(8,.int x1.2)] [(0,⟨3,[[.int v1.1.rows,.int v1.1.cols,.own 1 0 v1.1.cells.length]]⟩),(1,⟨1,List.map (ow eI) v1.1.cells⟩),(2,⟨1,List.map (ow eI) v1.2⟩),(7,⟨1,List.map (ow (dA 1 eI)) (x1.1++[(([]:(List Int))++((v1.1.cells.drop (0+(wr (x1.2*v1.1.cols)).toNat)).take ((wr ((wr (x1.2*v1.1.cols))+v1.1.cols)).toNat - (wr (x1.2*v1.1.cols)).toNat)))])⟩)] 8 [8,9]) (Ent.trans (tF (b:=7) (b':=5) (j:=0) (es':=List.map eI (([]:(List Int))++((v1.1.cells.drop (0+(wr (x1.2*v1.1.cols)).toNat)).take ((wr ((wr (x1.2*v1.1.cols))+v1.1.cols)).toNat - (wr (x1.2*v1.1.cols)).toNat)))) k k k k (bD _ _) (eE.frzs _)) (aE (σ:=sg [(0,0),(1,1),(2,2),(7,7)]) ⟨(pE k k),(oE k k),⟨_,k,⟨k,k,(by simp only [bD,lA,lT,lR,lC,lN]),k⟩⟩,(e1 k k),trivial⟩ (hX ⟨_,k,k,.inr ⟨_,_,k,⟨_,_,k,k,⟨_,_,k,k,⟨_,_,k,⟨k,k,k,k⟩,k⟩⟩⟩,k⟩⟩ k<|hI k k k<|hI k k k<|hX ⟨_,k,k,.inl ⟨yJ (([]:(List Int))++((v1.1.cells.drop (0+(wr (x1.2*v1.1.cols)).toNat)).take ((wr ((wr (x1.2*v1.1.cols))+v1.1.cols)).toNat - (wr (x1.2*v1.1.cols)).toNat))) k,cL.plainO _⟩⟩ k<|trivial) k)) ?_
   refine rg<|am k k<|ae (bV k k) k<|aa k k<|an<|tn ?_
   obtain rfl:=so h
   exact ⟨_,k,(aE (σ:=sg [(0,0),(1,1),(2,2),(3,7)]) ⟨(pE k k),(oE k k),(oE k k),(e1 k k),trivial⟩ (hX ⟨_,k,k,.inr ⟨_,_,k,⟨_,_,k,k,⟨_,_,k,k,⟨_,_,k,⟨k,k,k,k⟩,k⟩⟩⟩,k⟩⟩ k<|hI k k k<|hI k k k<|hB (cL.plainO _) k k k<|trivial) k)⟩
  ·refine aS k q2<|bG<|aH<|aH ?_
   obtain rfl:=so h
   exact ⟨_,k,k,(aE (σ:=sg [(0,3)]) ⟨(oE k k),trivial⟩ (hB (cL.plainO _) k k k<|trivial) k)⟩
 ·rintro e t ⟨rfl,hent⟩
  refine aW<|tn<|aO hent<|sQ<|rg<|am k k<|aa k k<|an<|tn<|aP ?_
  obtain rfl:=so h
  exact aU k k k (mD (iM cL k k))
def qQ (a0:Int) (a1:Int) (a2:(List (List Int))):Option Sc:=
 Option.bind (kQ a1 a2) fun v1=>
 Option.bind (jD a0 v1) fun v2=>
 some ((⟨a1,v2⟩:Sc))
theorem aBt (a0:Int) (a1:Int) (a2:(List (List Int))) (r:Sc) (h:qQ a0 a1 a2=some r):HasC Tryz.prog 184 [.int a0,.int a1,.list 1 (List.map (dA 1 eI) a2)] (.agg (eS r)):=by
 refine bK aA (rvs:=[.cell 6 99]) (ns:=[0,1,2,3,4]) Tryz.func184 k k Tryz.ntmps184 k k k<|sQ<|rg<|ae (bX aA k k) k<|an<|tn<|sQ<|rg<|am k k<|am k k ?_
 refine am k k<|am k k ?_
 obtain ⟨v1,hv1,h⟩:=ob h
 refine ae (AEff.conv (cR (x:= .agg [.int v1.rows,.int v1.cols,.own 1 0 (List.map eI v1.cells).length]) (nb:=[(1,⟨1,cW (List.map eI v1.cells)⟩)]) (aBs a1 a2 v1 hv1) k (by rfl) k k (bZ trivial (bZ trivial (bZ (eE.good _) gO))) (aG (aI k) (aG (aI k) bA))) (v':= .agg [.int v1.rows,.int v1.cols,.own 1 0 v1.cells.length]) (ed':=[(1,some ⟨1,List.map (ow eI) v1.cells⟩)]) (by simp only [bD]) (eJ (nb':=[(1,⟨1,List.map (ow eI) v1.cells⟩)]) (by simp only [cT]))) k ?_
 obtain ⟨v2,hv2,h⟩:=ob h
 refine ae (AEff.conv (cR (x:= .own 2 0 (List.map (dA 1 eI) v2).length) (nb:=[(2,⟨1,cW (List.map (dA 1 eI) v2)⟩)]) (aAo a0 v1 v2 hv2) k (by rfl) k k (cL.good _) (aG (aI k) (aG (cA (aL (aQ k) (aL (aQ k) (aL (tE eE k k) cF)))) bA))) (v':= .own 2 0 v2.length) (ed':=[(2,some ⟨1,List.map (ow (dA 1 eI)) v2⟩)]) (by simp only [bD]) (eJ (nb':=[(2,⟨1,List.map (ow (dA 1 eI)) v2⟩)]) (by simp only [cT]))) k<|ae (cQ aA k k k k k k) k<|ae (bP aA k k k k k k k k) k<|an<|tn<|aP ?_
 obtain rfl:=so h
 exact aU k k k (qJ (cD (k) (cD (iM cL k k) gY)))
def lD (a0:(List Int)) (a1:Int) (a2:Int):Option Bool:=
 bif !decide ((a0.length:Int)=a1) then
 (some (true))
 else
 (Option.bind (mZ a2 a0) fun v2=>
 some (!v2))
theorem aBb (a0:(List Int)) (a1:Int) (a2:Int) (r:Bool) (h:lD a0 a1 a2=some r):HasC Tryz.prog 257 [.list 1 (List.map eI a0),.ref (eI a1),.ref (eI a2)] (.bl r):=by
 refine bK aA (rvs:=[.tmp 4]) (ns:=[0,1]) Tryz.func257 k k Tryz.ntmps257 k k k<|sQ<|rg<|aa k k<|an<|tn<|sQ<|rg<|am k k<|ae (dG aA k k k) k ?_
 refine ae (aV aA k k k k k k) k<|ae (bC k k k) k<|am k k ?_
 rcases cb h with ⟨q1,h⟩|⟨q1,h⟩
 ·refine aX 9 k q1<|ak k k<|ak k k<|ak k k<|ak k k<|ae (aJ k k) k<|aa k k<|an<|tn<|aO (t:=bU [(4,.bl true)] [] 0 [0,1]) (aE (σ:=sg []) ⟨(e1 k k),trivial⟩ trivial k) ?_
  refine aP ?_
  obtain rfl:=so h
  exact aU k k k (bT k)
 ·refine aX 9 k q1<|ae (aV aA k k k k k k) k<|am k k ?_
  obtain ⟨v2,hv2,h⟩:=ob h
  refine ae (aZ (aAO a2 a0 v2 hv2) k (aG (aI k) (aG (aI k) bA))) k<|ae (cG k) k<|ae (aJ k k) k<|aa k k<|an<|tn<|aO (t:=bU [(4,.bl (!v2))] [] 0 [0,1]) (aE (σ:=sg []) ⟨(e1 k k),trivial⟩ trivial k)<|aP ?_
  obtain rfl:=so h
  exact aU k k k (bT k)
def nU (a0:Int) (a1:Int) (a2:(List (List Int))):Option Bool:=
 Option.bind (gU a1 0 8) fun v1=>
 bif v1 then
 (bif decide ((a2.length:Int)≤16) then
 (Option.bind (eB a2 (fun b0=>lD b0 a1 a0)) fun v4=>
 some (!v4))
 else
 (some (false)))
 else
 (some (false))
theorem aDR (a0:Int) (a1:Int) (a2:(List (List Int))) (r:Bool) (h:nU a0 a1 a2=some r):HasC Tryz.prog 231 [.int a0,.int a1,.list 1 (List.map (dA 1 eI) a2)] (.bl r):=by
 refine bK aA (rvs:=[.tmp 6]) (ns:=[0,1,2,3]) Tryz.func231 k k Tryz.ntmps231 k k k<|sQ<|rg<|ae (cC k k k k) k<|ae (cC k k k k) k<|aa k k<|an<|tn<|sQ<|rg ?_
 refine ae (aC aA k k k k k k k) k ?_
 obtain ⟨v1,hv1,h⟩:=ob h
 refine ae (aZ (kN a1 0 8 v1 hv1) k (aG (aI k) (aG (aI k) (aG (aI k) bA)))) k<|am k k ?_
 rcases cb h with ⟨q2,h⟩|⟨q2,h⟩
 ·refine aX 9 k q2<|am k k<|ae (dG aA k k k) k<|ae (bC k k k) k<|ae (aJ k k) k<|am k k ?_
  rcases cb h with ⟨q3,h⟩|⟨q3,h⟩
  ·refine aX 14 k q3<|am k k<|ae (vZ (vs:=[.ptr 1 0 0,.ptr 0 0 0]) k (by simp)) k ?_
   obtain ⟨v4,hv4,h⟩:=ob h
   refine ae (aZ (kH a2 (fun b0=>lD b0 a1 a0) k (fun b0 r h=>aBb b0 a1 a0 r h) v4 hv4) k (aG (aI k) (aG (aGU (xX (aAg k k (aL (aQ k) cF)) (xX (aAg k k (aL (aQ k) cF)) aAB))) bA))) k<|ae (cG k) k<|ae (aJ k k) k<|aa k k<|an<|tn<|aO (t:=bU [(6,.bl (!v4))] [] 2 [2,3]) (aE (σ:=sg []) ⟨(e1 k k),trivial⟩ trivial k)<|aP ?_
   obtain rfl:=so h
   exact aU k k k (bT k)
  ·refine aX 14 k q3<|ak k k<|ak k k<|ak k k<|ak k k<|ae (aJ k k) k<|aa k k<|an<|tn<|aO (t:=bU [(6,.bl false)] [] 2 [2,3]) (aE (σ:=sg []) ⟨(e1 k k),trivial⟩ trivial k) ?_
   refine aP ?_
   obtain rfl:=so h
   exact aU k k k (bT k)
 ·refine aX 9 k q2<|ak k k<|ak k k<|ak k k<|ae (aJ k k) k<|am k k<|ak k k<|ak k k<|ak k k<|ak k k ?_
  refine ae (aJ k k) k<|aa k k<|an<|tn<|aO (t:=bU [(6,.bl false)] [] 2 [2,3]) (aE (σ:=sg []) ⟨(e1 k k),trivial⟩ trivial k)<|aP ?_
  obtain rfl:=so h
  exact aU k k k (bT k)
def hZ (a0:(List Int)) (a1:(List Int)):Option Bool:=
 Option.bind (lK a0 a1) fun v1=>
 some (v1)
theorem aAp (a0:(List Int)) (a1:(List Int)) (r:Bool) (h:hZ a0 a1=some r):HasC Tryz.prog 259 [.list 1 (List.map eI a0),.list 1 (List.map eI a1)] (.bl r):=by
 refine bK aA (rvs:=[.tmp 4]) (ns:=[0,1]) Tryz.func259 k k Tryz.ntmps259 k k k<|sQ<|rg<|aa k k<|an<|tn<|sQ<|rg<|am k k<|am k k ?_
 obtain ⟨v1,hv1,h⟩:=ob h
 refine ae (aZ (zA a0 a1 v1 hv1) k (aG (aI k) (aG (aI k) bA))) k<|aa k k<|an<|tn<|aP ?_
 obtain rfl:=so h
 exact aU k k k (bT k)
def dP (a0:(List (List Int))) (a1:(List (List Int))) (a2:((List Int)→(List Int)→Option Bool)) (x1:Int):Option (Int ⊕ (Unit ⊕ Bool)):=
 bif decide (x1<(a0.length:Int)) then
 (Option.bind (dV a0 x1) fun v3=>
 Option.bind (dV a1 x1) fun v4=>
 Option.bind (a2 v3 v4) fun v5=>
 bif !v5 then
 (some (.inr (.inr (false))))
 else
 (some (.inl (wr (x1+1)))))
 else
 (some (.inr (.inl ())))
def dX (a0:(List (List Int))) (a1:(List (List Int))) (a2:((List Int)→(List Int)→Option Bool)):Option Bool:=
 bif !decide ((a0.length:Int)=(a1.length:Int)) then
 (some (false))
 else
 (Option.bind (Lp (dP a0 a1 a2) 0) fun y7=>
 Sum.elim (fun y8=>
 some (true)
 )
 (fun y9=>
 some y9
 )
 y7)
theorem nJ (a0:(List (List Int))) (a1:(List (List Int))) (a2:((List Int)→(List Int)→Option Bool)) {f2:FuncId} {c2:List AV} (hc2:c2.all eT=true) (hf2: ∀ b0 b1 r,a2 b0 b1=some r→HasC Tryz.prog f2 ([.list 1 (List.map eI b0),.list 1 (List.map eI b1)]++c2) (.bl r)) (r:Bool) (h:dX a0 a1 a2=some r):HasC Tryz.prog 258 [.list 1 (List.map (dA 1 eI) a0),.list 1 (List.map (dA 1 eI) a1),.fn f2 c2] (.bl r):=by
 refine bK aA (rvs:=[.tmp 6]) (ns:=[0,1]) Tryz.func258 k k Tryz.ntmps258 k k (jL k (jL k (jL hc2 aAj)))<|sQ<|rg<|aa k k<|an<|tn<|sQ<|sQ<|rg<|am k k ?_
 refine ae (dG aA k k k) k<|am k k<|ae (dG aA k k k) k<|ae (bC k k k) k<|an<|tn ?_
 rcases cb h with ⟨q1,h⟩|⟨q1,h⟩
 ·refine aM k q1<|sQ<|rg<|aa k k<|an<|tn<|aP<|aK ?_
  obtain rfl:=so h
  exact aU k k k (bT k)
 ·refine aS k q1<|aT<|tn<|sQ<|sQ<|rg<|am k k<|ae (dG aA k k k) k<|am k k<|an ?_
  refine tn<|aN ?_
  obtain ⟨y7,hy7,h⟩:=ob h
  refine cU (body:=(dP a0 a1 a2)) hy7 (fun (x1:Int)=>bU [(1,.list 1 (List.map (dA 1 eI) a1)),(2,.fn f2 c2),(15,.list 1 (List.map (dA 1 eI) a0)),(16,.int (a0.length:Int)),(17,.int x1)] [] 0 [0,1]) (fun r e t=>Sum.elim (fun a=>(fun r e t=>e= .exit 0∧Ent t (bU [] [] 0 [0,1])) a e t) (fun b=>(fun r e t=>e= .ret∧sY TT [.tmp 6] (.bl r) .ret t) b e t) r) (aE (σ:=sg []) ⟨⟨_,k,⟨k,k⟩⟩,⟨_,k,⟨k,jU _ hc2⟩⟩,⟨_,k,⟨k,k⟩⟩,(e1 k k),(e1 k k),trivial⟩ trivial k) ?_ ?_
  ·intro x1 o h
   refine sQ<|rg<|ae (bC k k k) k<|an<|tn<|sQ ?_
   rcases cb h with ⟨q2,h⟩|⟨q2,h⟩
   ·refine aM k q2<|aT<|tn<|sQ<|aN<|sQ<|rg<|am k k ?_
    obtain ⟨v3,hv3,h⟩:=ob h
    refine ae (bH aA hv3 k k k k k k) k<|ae (aV aA k k k k k k) k<|aa k k<|aa k k<|an<|tn<|sQ<|rg<|am k k<|am k k ?_
    obtain ⟨v4,hv4,h⟩:=ob h
    refine ae (bH aA hv4 k k k k k k) k<|ae (aV aA k k k k k k) k<|aa k k<|an<|tn<|sQ<|rg<|am k k<|am k k<|am k k ?_
    obtain ⟨v5,hv5,h⟩:=ob h
    refine ae (aBM hc2 (hf2 v3 v4 v5 hv5) k k (aG (aI k) (aG (aI k) bA))) k<|ae (cG k) k<|an<|tn<|aO (t:=bU [(1,.list 1 (List.map (dA 1 eI) a1)),(2,.fn f2 c2),(15,.list 1 (List.map (dA 1 eI) a0)),(16,.int (a0.length:Int)),(17,.int x1),(30,.bl (!v5))] [] 0 [0,1]) (aE (σ:=sg []) ⟨⟨_,k,⟨k,k⟩⟩,⟨_,k,⟨k,jU _ hc2⟩⟩,⟨_,k,⟨k,k⟩⟩,(e1 k k),(e1 k k),(e1 k k),trivial⟩ trivial k) ?_
    rcases cb h with ⟨q6,h⟩|⟨q6,h⟩
    ·refine aM k q6<|sQ<|rg<|aa k k<|an<|tn<|aP<|bB<|aK<|aK ?_
     obtain rfl:=so h
     exact ⟨_,k,k,aU k k k (bT k)⟩
    ·refine aS k q6<|aT<|bE<|tn<|rg<|ae (bV k k) k<|am k k<|an<|tn ?_
     obtain rfl:=so h
     exact ⟨_,k,(aE (σ:=sg []) ⟨⟨_,k,⟨k,k⟩⟩,⟨_,k,⟨k,jU _ hc2⟩⟩,⟨_,k,⟨k,k⟩⟩,(e1 k k),(e1 k k),trivial⟩ trivial k)⟩
   ·refine aS k q2<|bG<|aH<|aH ?_
    obtain rfl:=so h
    exact ⟨_,k,k,(aE (σ:=sg []) trivial trivial k)⟩
  ·intro e t hX
   rcases y7 with y8|y9
   ·obtain ⟨rfl,hent⟩:=hX
    refine aW<|tn<|aO hent<|sQ<|rg<|aa k k<|an<|tn<|aP ?_
    obtain rfl:=so h
    exact aU k k k (bT k)
   ·obtain ⟨rfl,hent⟩:=hX
    refine bB<|aK ?_
    obtain rfl:=so h
    exact hent
def mM (a0:Sc) (a1:Sc):Option Bool:=
 bif decide (a0.size=a1.size) then
 (Option.bind (dX a0.basis a1.basis (fun b0 b1=>hZ b0 b1)) fun v2=>
 some (v2))
 else
 (some (false))
theorem aCO (a0:Sc) (a1:Sc) (r:Bool) (h:mM a0 a1=some r):HasC Tryz.prog 232 [.agg (eS a0),.agg (eS a1)] (.bl r):=by
 refine bK aA (rvs:=[.tmp 4]) (ns:=[0,1,2,3]) Tryz.func232 k k Tryz.ntmps232 k k k<|sQ<|rg<|ae (cC k k k k) k<|ae (cC k k k k) k<|aa k k<|an<|tn<|sQ<|rg ?_
 refine ae (aD aA k k k k k k k) k<|ae (aC aA k k k k k k k) k<|ae (aD aA k k k k k k k) k<|ae (aC aA k k k k k k k) k<|ae (bC k k k) k<|am k k ?_
 rcases cb h with ⟨q1,h⟩|⟨q1,h⟩
 ·refine aX 10 k q1<|ae (aD aA k k k k k k k) k<|ae (aC aA k k k k k k k) k<|ae (aD aA k k k k k k k) k<|ae (aC aA k k k k k k k) k ?_
  obtain ⟨v2,hv2,h⟩:=ob h
  refine ae (aZ (nJ a0.basis a1.basis (fun b0 b1=>hZ b0 b1) k (fun b0 b1 r h=>aAp b0 b1 r h) v2 hv2) k (aG (aI k) (aG (aI k) (aG (aGU aAB) bA)))) k<|ae (aJ k k) k<|aa k k<|an<|tn<|aO (t:=bU [(4,.bl v2)] [] 2 [2,3]) (aE (σ:=sg []) ⟨(e1 k k),trivial⟩ trivial k)<|aP ?_
  obtain rfl:=so h
  exact aU k k k (bT k)
 ·refine aX 10 k q1<|ak k k<|ak k k<|ak k k<|ak k k<|ak k k<|ae (aJ k k) k<|aa k k<|an<|tn ?_
  refine aO (t:=bU [(4,.bl false)] [] 2 [2,3]) (aE (σ:=sg []) ⟨(e1 k k),trivial⟩ trivial k)<|aP ?_
  obtain rfl:=so h
  exact aU k k k (bT k)
def tS (a0:Int) (a1:Sc):Option Bool:=
 Option.bind (hJ a0) fun v1=>
 bif !v1 then
 (some (false))
 else
 (Option.bind (nU a0 a1.size a1.basis) fun v3=>
 bif !v3 then
 (some (false))
 else
 (Option.bind (vI a0 a1.size a1.basis) fun v5=>
 Option.bind (mM v5 a1) fun v6=>
 some (v6)))
theorem aGj (a0:Int) (a1:Sc) (r:Bool) (h:tS a0 a1=some r):HasC Tryz.prog 197 [.int a0,.agg (eS a1)] (.bl r):=by
 refine bK aA (rvs:=[.tmp 4]) (ns:=[0,1,2,3]) Tryz.func197 k k Tryz.ntmps197 k k k<|sQ<|rg<|ae (cC k k k k) k<|aa k k<|an<|tn<|sQ<|sQ<|rg ?_
 refine am k k ?_
 obtain ⟨v1,hv1,h⟩:=ob h
 refine ae (aZ (lM a0 v1 hv1) k (aG (aI k) bA)) k<|ae (cG k) k<|am k k ?_
 rcases cb h with ⟨q2,h⟩|⟨q2,h⟩
 ·refine aX 8 k q2<|ak k k<|ak k k<|ak k k<|ak k k<|ak k k<|ak k k<|ak k k<|ae (aJ k k) k<|an ?_
  refine tn<|aO (t:=bU [(0,.int a0),(3,.ptr 0 0 0),(16,.bl true)] [(0,⟨2,[[.int a1.size,.list 1 (List.map (dA 1 eI) a1.basis)]]⟩)] 1 [1,2,3]) (aE (σ:=sg [(0,0)]) ⟨(e1 k k),(pE k k),(e1 k k),trivial⟩ (hP k k k k<|trivial) k)<|aM k k<|sQ<|rg<|aa k k<|an<|tn<|aP<|aK ?_
  obtain rfl:=so h
  exact aU k k k (bT k)
 ·refine aX 8 k q2<|am k k<|ae (aD aA k k k k k k k) k<|ae (aC aA k k k k k k k) k<|ae (aD aA k k k k k k k) k<|ae (aC aA k k k k k k k) k ?_
  obtain ⟨v3,hv3,h⟩:=ob h
  refine ae (aZ (aDR a0 a1.size a1.basis v3 hv3) k (aG (aI k) (aG (aI k) (aG (aI k) bA)))) k<|ae (cG k) k<|ae (aJ k k) k<|an<|tn<|aO (t:=bU [(0,.int a0),(3,.ptr 0 0 0),(16,.bl (!v3))] [(0,⟨2,[[.int a1.size,.list 1 (List.map (dA 1 eI) a1.basis)]]⟩)] 1 [1,2,3]) (aE (σ:=sg [(0,0)]) ⟨(e1 k k),(pE k k),(e1 k k),trivial⟩ (hP k k k k<|trivial) k) ?_
  rcases cb h with ⟨q4,h⟩|⟨q4,h⟩
  ·refine aM k q4<|sQ<|rg<|aa k k<|an<|tn<|aP<|aK ?_
   obtain rfl:=so h
   exact aU k k k (bT k)
  ·refine aS k q4<|aT<|tn<|sQ<|aY kB<|am k k<|ae (aD aA k k k k k k k) k<|ae (aC aA k k k k k k k) k<|ae (aD aA k k k k k k k) k<|ae (aC aA k k k k k k k) k ?_
   obtain ⟨v5,hv5,h⟩:=ob h
   refine ae (AEff.conv (cR (x:= .agg [.int v5.size,.own 1 0 (List.map (dA 1 eI) v5.basis).length]) (nb:=[(1,⟨1,cW (List.map (dA 1 eI) v5.basis)⟩)]) (aEz a0 a1.size a1.basis v5 hv5) k (by rfl) k k (bZ trivial (bZ (cL.good _) gO)) (aG (aI k) (aG (aI k) (aG (aI k) bA)))) (v':= .agg [.int v5.size,.own 1 0 v5.basis.length]) (ed':=[(1,some ⟨1,List.map (ow (dA 1 eI)) v5.basis⟩)]) (by simp only [bD]) (eJ (nb':=[(1,⟨1,List.map (ow (dA 1 eI)) v5.basis⟩)]) (by simp only [cT]))) k<|ae (aC aA k k k k k k k) k ?_
   obtain ⟨v6,hv6,h⟩:=ob h
   refine ae (aZ (aCO v5 a1 v6 hv6) k (aG (cA (aL (aQ k) (aL (tE cL k k) cF))) (aG (cA (aL (aQ k) (aL (aQ k) cF))) bA))) k<|aa k k<|an ?_
   refine ⟨by kernel_rfl,?_⟩
   refine tn<|aP ?_
   obtain rfl:=so h
   exact aU k k k (bT k)
def iT (a0:Int) (a1:Int) (a2:(List (List Int))) (x1:Int):Option (Int ⊕ (Unit ⊕ Bool)):=
 bif decide (x1<(a2.length:Int)) then
 (Option.bind (dV a2 x1) fun v2=>
 bif !decide ((v2.length:Int)=a1) then
 (some (.inr (.inr (false))))
 else
 (Option.bind (dV a2 x1) fun v4=>
 Option.bind (gL a0 v4) fun v5=>
 bif !v5 then
 (some (.inr (.inr (false))))
 else
 (some (.inl (wr (x1+1))))))
 else
 (some (.inr (.inl ())))
def nG (a0:Int) (a1:Int) (a2:(List (List Int))):Option Bool:=
 Option.bind (Lp (iT a0 a1 a2) 0) fun y7=>
 Sum.elim (fun y8=>
 Option.bind (gZ a0) fun v9=>
 bif v9 then
 (Option.bind (fD a1 0 8) fun v11=>
 bif v11 then
 (some (decide ((a2.length:Int)≤16)))
 else
 (some (false)))
 else
 (some (false))
 )
 (fun y13=>
 some y13
 )
 y7
theorem aHR (a0:Int) (a1:Int) (a2:(List (List Int))) (r:Bool) (h:nG a0 a1 a2=some r):HasC Tryz.prog 180 [.int a0,.int a1,.list 1 (List.map (dA 1 eI) a2)] (.bl r):=by
 refine bK aA (rvs:=[.tmp 6]) (ns:=[0,1]) Tryz.func180 k k Tryz.ntmps180 k k k<|sQ<|rg<|aa k k<|an<|tn<|sQ<|sQ<|rg<|aa k k ?_
 refine an<|tn<|aN ?_
 obtain ⟨y7,hy7,h⟩:=ob h
 refine cU (body:=(iT a0 a1 a2)) hy7 (fun (x1:Int)=>bU [(0,.int a0),(1,.int a1),(2,.list 1 (List.map (dA 1 eI) a2)),(7,.int x1)] [] 0 [0,1]) (fun r e t=>Sum.elim (fun a=>(fun r e t=>e= .exit 0∧Ent t (bU [(0,.int a0),(1,.int a1),(2,.list 1 (List.map (dA 1 eI) a2))] [] 0 [0,1])) a e t) (fun b=>(fun r e t=>e= .ret∧sY TT [.tmp 6] (.bl r) .ret t) b e t) r) (aE (σ:=sg []) ⟨(e1 k k),(e1 k k),⟨_,k,⟨k,k⟩⟩,(e1 k k),trivial⟩ trivial k) ?_ ?_
 ·intro x1 o h
  refine sQ<|sQ<|rg<|am k k<|am k k<|ae (dG aA k k k) k<|ae (bC k k k) k<|an<|tn ?_
  rcases cb h with ⟨q1,h⟩|⟨q1,h⟩
  ·refine aM k q1<|aT<|tn<|sQ<|aN<|sQ<|rg<|am k k<|am k k ?_
   obtain ⟨v2,hv2,h⟩:=ob h
   refine ae (bH aA hv2 k k k k k k) k<|ae (aV aA k k k k k k) k<|ae (dG aA k k k) k<|am k k<|ae (bC k k k) k<|am k k ?_
   rcases cb h with ⟨q3,h⟩|⟨q3,h⟩
   ·refine aX 21 k q3<|ak k k<|ak k k<|ak k k<|ak k k<|ak k k<|ak k k<|ak k k<|ae (aJ k k) k<|an ?_
    refine tn<|aO (t:=bU [(0,.int a0),(1,.int a1),(2,.list 1 (List.map (dA 1 eI) a2)),(7,.int x1),(29,.bl true)] [] 0 [0,1]) (aE (σ:=sg []) ⟨(e1 k k),(e1 k k),⟨_,k,⟨k,k⟩⟩,(e1 k k),(e1 k k),trivial⟩ trivial k)<|aM k k<|sQ<|rg<|aa k k<|an<|tn<|aP<|bB ?_
    refine aK<|aK ?_
    obtain rfl:=so h
    exact ⟨_,k,k,aU k k k (bT k)⟩
   ·refine aX 21 k q3<|am k k<|am k k<|am k k ?_
    obtain ⟨v4,hv4,h⟩:=ob h
    refine ae (bH aA hv4 k k k k k k) k<|ae (aV aA k k k k k k) k ?_
    obtain ⟨v5,hv5,h⟩:=ob h
    refine ae (aZ (vN a0 v4 v5 hv5) k (aG (aI k) (aG (aI k) bA))) k<|ae (cG k) k<|ae (aJ k k) k<|an<|tn<|aO (t:=bU [(0,.int a0),(1,.int a1),(2,.list 1 (List.map (dA 1 eI) a2)),(7,.int x1),(29,.bl (!v5))] [] 0 [0,1]) (aE (σ:=sg []) ⟨(e1 k k),(e1 k k),⟨_,k,⟨k,k⟩⟩,(e1 k k),(e1 k k),trivial⟩ trivial k) ?_
    rcases cb h with ⟨q6,h⟩|⟨q6,h⟩
    ·refine aM k q6<|sQ<|rg<|aa k k<|an<|tn<|aP<|bB<|aK<|aK ?_
     obtain rfl:=so h
     exact ⟨_,k,k,aU k k k (bT k)⟩
    ·refine aS k q6<|aT<|bE<|tn<|rg<|am k k<|ae (bV k k) k<|aa k k<|an<|tn ?_
     obtain rfl:=so h
     exact ⟨_,k,(aE (σ:=sg []) ⟨(e1 k k),(e1 k k),⟨_,k,⟨k,k⟩⟩,(e1 k k),trivial⟩ trivial k)⟩
  ·refine aS k q1<|bG<|aH<|aH ?_
   obtain rfl:=so h
   exact ⟨_,k,k,(aE (σ:=sg []) ⟨(e1 k k),(e1 k k),⟨_,k,⟨k,k⟩⟩,trivial⟩ trivial k)⟩
 ·intro e t hX
  rcases y7 with y8|y13
  ·obtain ⟨rfl,hent⟩:=hX
   refine aW<|tn<|aO hent<|sQ<|rg<|am k k ?_
   obtain ⟨v9,hv9,h⟩:=ob h
   refine ae (aZ (lL a0 v9 hv9) k (aG (aI k) bA)) k<|am k k ?_
   rcases cb h with ⟨q10,h⟩|⟨q10,h⟩
   ·refine aX 32 k q10<|am k k ?_
    obtain ⟨v11,hv11,h⟩:=ob h
    refine ae (aZ (fT a1 0 8 v11 hv11) k (aG (aI k) (aG (aI k) (aG (aI k) bA)))) k<|ae (aJ k k) k<|am k k ?_
    rcases cb h with ⟨q12,h⟩|⟨q12,h⟩
    ·refine aX 36 k q12<|am k k<|ae (dG aA k k k) k<|ae (bC k k k) k<|ae (aJ k k) k<|aa k k<|an<|tn<|aO (t:=bU [(6,.bl (decide ((a2.length:Int)≤16)))] [] 0 [0,1]) (aE (σ:=sg []) ⟨(e1 k k),trivial⟩ trivial k)<|aP ?_
     obtain rfl:=so h
     exact aU k k k (bT k)
    ·refine aX 36 k q12<|ak k k<|ak k k<|ak k k<|ae (aJ k k) k<|aa k k<|an<|tn<|aO (t:=bU [(6,.bl false)] [] 0 [0,1]) (aE (σ:=sg []) ⟨(e1 k k),trivial⟩ trivial k)<|aP ?_
     obtain rfl:=so h
     exact aU k k k (bT k)
   ·refine aX 32 k q10<|ak k k<|ak k k<|ae (aJ k k) k<|am k k<|ak k k<|ak k k<|ak k k<|ae (aJ k k) k<|aa k k ?_
    refine an<|tn<|aO (t:=bU [(6,.bl false)] [] 0 [0,1]) (aE (σ:=sg []) ⟨(e1 k k),trivial⟩ trivial k)<|aP ?_
    obtain rfl:=so h
    exact aU k k k (bT k)
  ·obtain ⟨rfl,hent⟩:=hX
   refine bB<|aK ?_
   obtain rfl:=so h
   exact hent
def lU (a0:(List (List Int))) (a1:(List (List Int))) (x1:Int) (x2:Int):Option (Int ⊕ (Unit ⊕ Bool)):=
 Option.bind (dV a0 x1) fun v6=>
 bif decide (x2<(v6.length:Int)) then
 (Option.bind (dV a0 x1) fun v8=>
 Option.bind (dV v8 x2) fun v9=>
 Option.bind (dV a1 x1) fun v10=>
 Option.bind (dV v10 x2) fun v11=>
 bif !decide (v9=v11) then
 (some (.inr (.inr (false))))
 else
 (some (.inl (wr (x2+1)))))
 else
 (some (.inr (.inl ())))
def iU (a0:(List (List Int))) (a1:(List (List Int))) (x1:Int):Option (Int ⊕ (Unit ⊕ Bool)):=
 bif decide (x1<(a0.length:Int)) then
 (Option.bind (dV a0 x1) fun v3=>
 Option.bind (dV a1 x1) fun v4=>
 bif !decide ((v3.length:Int)=(v4.length:Int)) then
 (some (.inr (.inr (false))))
 else
 (Option.bind (Lp (lU a0 a1 x1) 0) fun y13=>
 Sum.elim (fun y14=>
 some (.inl (wr (x1+1)))
 )
 (fun y15=>
 some (.inr (.inr y15))
 )
 y13))
 else
 (some (.inr (.inl ())))
def nH (a0:(List (List Int))) (a1:(List (List Int))):Option Bool:=
 bif !decide ((a0.length:Int)=(a1.length:Int)) then
 (some (false))
 else
 (Option.bind (Lp (iU a0 a1) 0) fun y16=>
 Sum.elim (fun y17=>
 some (true)
 )
 (fun y18=>
 some y18
 )
 y16)
theorem aHS (a0:(List (List Int))) (a1:(List (List Int))) (r:Bool) (h:nH a0 a1=some r):HasC Tryz.prog 181 [.list 1 (List.map (dA 1 eI) a0),.list 1 (List.map (dA 1 eI) a1)] (.bl r):=by
 refine bK aA (rvs:=[.tmp 4]) (ns:=[0,1]) Tryz.func181 k k Tryz.ntmps181 k k k<|sQ<|rg<|aa k k<|an<|tn<|sQ<|sQ<|rg<|am k k ?_
 refine ae (dG aA k k k) k<|am k k<|ae (dG aA k k k) k<|ae (bC k k k) k<|an<|tn ?_
 rcases cb h with ⟨q1,h⟩|⟨q1,h⟩
 ·refine aM k q1<|sQ<|rg<|aa k k<|an<|tn<|aP<|aK ?_
  obtain rfl:=so h
  exact aU k k k (bT k)
 ·refine aS k q1<|aT<|tn<|sQ<|sQ<|rg<|aa k k<|an<|tn<|aN ?_
  obtain ⟨y16,hy16,h⟩:=ob h
  refine cU (body:=(iU a0 a1)) hy16 (fun (x1:Int)=>bU [(0,.list 1 (List.map (dA 1 eI) a0)),(1,.list 1 (List.map (dA 1 eI) a1)),(5,.int x1)] [] 0 [0,1]) (fun r e t=>Sum.elim (fun a=>(fun r e t=>e= .exit 0∧Ent t (bU [] [] 0 [0,1])) a e t) (fun b=>(fun r e t=>e= .ret∧sY TT [.tmp 4] (.bl r) .ret t) b e t) r) (aE (σ:=sg []) ⟨⟨_,k,⟨k,k⟩⟩,⟨_,k,⟨k,k⟩⟩,(e1 k k),trivial⟩ trivial k) ?_ ?_
  ·intro x1 o h
   refine sQ<|sQ<|rg<|am k k<|am k k<|ae (dG aA k k k) k<|ae (bC k k k) k<|an<|tn ?_
   rcases cb h with ⟨q2,h⟩|⟨q2,h⟩
   ·refine aM k q2<|aT<|tn<|sQ<|aN<|sQ<|sQ<|aY kB<|am k k<|am k k ?_
    obtain ⟨v3,hv3,h⟩:=ob h
    refine ae (bH aA hv3 k k k k k k) k<|ae (aV aA k k k k k k) k<|ae (dG aA k k k) k<|am k k<|am k k ?_
    obtain ⟨v4,hv4,h⟩:=ob h
    refine ae (bH aA hv4 k k k k k k) k<|ae (aV aA k k k k k k) k<|ae (dG aA k k k) k<|ae (bC k k k) k<|an ?_
    refine ⟨by kernel_rfl,?_⟩
    refine tn<|aO (t:=bU [(0,.list 1 (List.map (dA 1 eI) a0)),(1,.list 1 (List.map (dA 1 eI) a1)),(5,.int x1),(28,.bl (!decide ((v3.length:Int)=(v4.length:Int))))] [] 0 [0,1]) (aE (σ:=sg []) ⟨⟨_,k,⟨k,k⟩⟩,⟨_,k,⟨k,k⟩⟩,(e1 k k),(e1 k k),trivial⟩ trivial k) ?_
    rcases cb h with ⟨q5,h⟩|⟨q5,h⟩
    ·refine aM k q5<|sQ<|rg<|aa k k<|an<|tn<|aP<|aK<|bB<|aK ?_
     refine aK ?_
     obtain rfl:=so h
     exact ⟨_,k,k,aU k k k (bT k)⟩
    ·refine aS k q5<|aT<|tn<|sQ<|rg<|aa k k<|an<|tn<|aN ?_
     obtain ⟨y13,hy13,h⟩:=ob h
     refine cU (body:=(lU a0 a1 x1)) hy13 (fun (x2:Int)=>bU [(0,.list 1 (List.map (dA 1 eI) a0)),(1,.list 1 (List.map (dA 1 eI) a1)),(5,.int x1),(6,.int x2)] [] 0 [0,1]) (fun r e t=>Sum.elim (fun a=>(fun r e t=>e= .exit 2∧Ent t (bU [(0,.list 1 (List.map (dA 1 eI) a0)),(1,.list 1 (List.map (dA 1 eI) a1)),(5,.int x1)] [] 0 [0,1])) a e t) (fun b=>(fun r e t=>e= .ret∧sY TT [.tmp 4] (.bl r) .ret t) b e t) r) (aE (σ:=sg []) ⟨⟨_,k,⟨k,k⟩⟩,⟨_,k,⟨k,k⟩⟩,(e1 k k),(e1 k k),trivial⟩ trivial k) ?_ ?_
     ·intro x2 o h
      refine sQ<|sQ<|rg<|am k k<|am k k<|am k k ?_
      obtain ⟨v6,hv6,h⟩:=ob h
      refine ae (bH aA hv6 k k k k k k) k<|ae (aV aA k k k k k k) k<|ae (dG aA k k k) k<|ae (bC k k k) k<|an<|tn ?_
      rcases cb h with ⟨q7,h⟩|⟨q7,h⟩
      ·refine aM k q7<|aT<|tn<|sQ<|aN<|sQ<|aY kB<|am k k<|am k k ?_
       obtain ⟨v8,hv8,h⟩:=ob h
       refine ae (bH aA hv8 k k k k k k) k<|ae (aV aA k k k k k k) k<|am k k ?_
       obtain ⟨v9,hv9,h⟩:=ob h
       refine ae (bH aA hv9 k k k k k k) k<|ae (aV aA k k k k k k) k<|am k k<|am k k ?_
       obtain ⟨v10,hv10,h⟩:=ob h
       refine ae (bH aA hv10 k k k k k k) k<|ae (aV aA k k k k k k) k<|am k k ?_
       obtain ⟨v11,hv11,h⟩:=ob h
       refine ae (bH aA hv11 k k k k k k) k<|ae (aV aA k k k k k k) k<|ae (bC k k k) k<|an ?_
       refine ⟨by kernel_rfl,?_⟩
       refine tn<|aO (t:=bU [(0,.list 1 (List.map (dA 1 eI) a0)),(1,.list 1 (List.map (dA 1 eI) a1)),(5,.int x1),(6,.int x2),(52,.bl (!decide (v9=v11)))] [] 0 [0,1]) (aE (σ:=sg []) ⟨⟨_,k,⟨k,k⟩⟩,⟨_,k,⟨k,k⟩⟩,(e1 k k),(e1 k k),(e1 k k),trivial⟩ trivial k) ?_
       rcases cb h with ⟨q12,h⟩|⟨q12,h⟩
       ·refine aM k q12<|sQ<|rg<|aa k k<|an<|tn<|aP<|bB<|aK<|aK ?_
        obtain rfl:=so h
        exact ⟨_,k,k,aU k k k (bT k)⟩
       ·refine aS k q12<|aT<|bE<|tn<|rg<|am k k<|ae (bV k k) k<|aa k k<|an<|tn ?_
        obtain rfl:=so h
        exact ⟨_,k,(aE (σ:=sg []) ⟨⟨_,k,⟨k,k⟩⟩,⟨_,k,⟨k,k⟩⟩,(e1 k k),(e1 k k),trivial⟩ trivial k)⟩
      ·refine aS k q7<|bG<|aH<|aH ?_
       obtain rfl:=so h
       exact ⟨_,k,k,(aE (σ:=sg []) ⟨⟨_,k,⟨k,k⟩⟩,⟨_,k,⟨k,k⟩⟩,(e1 k k),trivial⟩ trivial k)⟩
     ·intro e t hX
      rcases y13 with y14|y15
      ·obtain ⟨rfl,hent⟩:=hX
       refine aW<|bE<|tn<|aO hent<|rg<|am k k<|ae (bV k k) k<|aa k k<|an<|tn ?_
       obtain rfl:=so h
       exact ⟨_,k,(aE (σ:=sg []) ⟨⟨_,k,⟨k,k⟩⟩,⟨_,k,⟨k,k⟩⟩,(e1 k k),trivial⟩ trivial k)⟩
      ·obtain ⟨rfl,hent⟩:=hX
       refine bB<|bB<|aK<|aK ?_
       obtain rfl:=so h
       exact ⟨_,k,k,hent⟩
   ·refine aS k q2<|bG<|aH<|aH ?_
    obtain rfl:=so h
    exact ⟨_,k,k,(aE (σ:=sg []) trivial trivial k)⟩
  ·intro e t hX
   rcases y16 with y17|y18
   ·obtain ⟨rfl,hent⟩:=hX
    refine aW<|tn<|aO hent<|sQ<|rg<|aa k k<|an<|tn<|aP ?_
    obtain rfl:=so h
    exact aU k k k (bT k)
   ·obtain ⟨rfl,hent⟩:=hX
    refine bB<|aK ?_
    obtain rfl:=so h
    exact hent
def fW (a0:Int) (a1:Sc):Option Bool:=
 Option.bind (nG a0 a1.size a1.basis) fun v1=>
 bif !v1 then
 (some (false))
 else
 (Option.bind (kQ a1.size a1.basis) fun v3=>
 Option.bind (jD a0 v3) fun v4=>
 Option.bind (nH v4 a1.basis) fun v5=>
 some (v5))
theorem oW (a0:Int) (a1:Sc) (r:Bool) (h:fW a0 a1=some r):HasC Tryz.prog 135 [.int a0,.agg (eS a1)] (.bl r):=by
 refine bK aA (rvs:=[.tmp 4]) (ns:=[0,1,2,3,4]) Tryz.func135 k k Tryz.ntmps135 k k k<|sQ<|rg<|ae (cC k k k k) k<|aa k k<|an<|tn<|sQ<|sQ<|rg ?_
 refine am k k<|ae (aD aA k k k k k k k) k<|ae (aC aA k k k k k k k) k<|ae (aD aA k k k k k k k) k<|ae (aC aA k k k k k k k) k ?_
 obtain ⟨v1,hv1,h⟩:=ob h
 refine ae (aZ (aHR a0 a1.size a1.basis v1 hv1) k (aG (aI k) (aG (aI k) (aG (aI k) bA)))) k<|ae (cG k) k<|an<|tn ?_
 rcases cb h with ⟨q2,h⟩|⟨q2,h⟩
 ·refine aM k q2<|sQ<|rg<|aa k k<|an<|tn<|aP<|aK ?_
  obtain rfl:=so h
  exact aU k k k (bT k)
 ·refine aS k q2<|aT<|tn<|sQ<|aY kB<|am k k<|ae (aD aA k k k k k k k) k<|ae (aC aA k k k k k k k) k<|ae (aD aA k k k k k k k) k<|ae (aC aA k k k k k k k) k ?_
  obtain ⟨v3,hv3,h⟩:=ob h
  refine ae (AEff.conv (cR (x:= .agg [.int v3.rows,.int v3.cols,.own 1 0 (List.map eI v3.cells).length]) (nb:=[(1,⟨1,cW (List.map eI v3.cells)⟩)]) (aBs a1.size a1.basis v3 hv3) k (by rfl) k k (bZ trivial (bZ trivial (bZ (eE.good _) gO))) (aG (aI k) (aG (aI k) bA))) (v':= .agg [.int v3.rows,.int v3.cols,.own 1 0 v3.cells.length]) (ed':=[(1,some ⟨1,List.map (ow eI) v3.cells⟩)]) (by simp only [bD]) (eJ (nb':=[(1,⟨1,List.map (ow eI) v3.cells⟩)]) (by simp only [cT]))) k ?_
  obtain ⟨v4,hv4,h⟩:=ob h
  refine ae (AEff.conv (cR (x:= .own 2 0 (List.map (dA 1 eI) v4).length) (nb:=[(2,⟨1,cW (List.map (dA 1 eI) v4)⟩)]) (aAo a0 v3 v4 hv4) k (by rfl) k k (cL.good _) (aG (aI k) (aG (cA (aL (aQ k) (aL (aQ k) (aL (tE eE k k) cF)))) bA))) (v':= .own 2 0 v4.length) (ed':=[(2,some ⟨1,List.map (ow (dA 1 eI)) v4⟩)]) (by simp only [bD]) (eJ (nb':=[(2,⟨1,List.map (ow (dA 1 eI)) v4⟩)]) (by simp only [cT]))) k<|ae (aD aA k k k k k k k) k<|ae (aC aA k k k k k k k) k ?_
  obtain ⟨v5,hv5,h⟩:=ob h
  refine ae (aZ (aHS v4 a1.basis v5 hv5) k (aG (aCG cL k k) (aG (aI k) bA))) k<|aa k k<|an ?_
  refine ⟨by kernel_rfl,?_⟩
  refine tn<|aO (t:=bU [(4,.bl v5)] [] 3 [3,4]) (aE (σ:=sg []) ⟨(e1 k k),trivial⟩ trivial k)<|aP ?_
  obtain rfl:=so h
  exact aU k k k (bT k)
end
noncomputable section
theorem aMX {l:List (List Int)} {n:Nat} (h: ∀ v∈l,v.length=n):l=(List.range l.length).map fun i=>lQ n (dD l i):=by
 refine List.ext_getElem (by simp) fun i h1 h2=>?_
 simp only [List.getElem_map,List.getElem_range]
 refine List.ext_getElem (by rw [fN];exact h _ (List.getElem_mem h1)) fun j h3 h4=>?_
 simp [lQ,dD,h1,h3]
theorem aIK {l:List (List Int)} {n:Nat} (h: ∀ v∈l,v.length=n):l.flatten=dF l.length n (dD l):=by
 have e:l.flatten=((List.range l.length).map fun i=>lQ n (dD l i)).flatten:=by rw [←aMX h]
 rw [e,aKK]
theorem aJH {p:Int} (hp:kV p=true) {n:Nat} {l:List (List Int)} (hn:n≤1024) (hl:l.length≤512) (h:VecsP p n l):Tb p l.length n (dD l):=by
 refine ⟨hp,?_,by omega,by omega,h.inP⟩
 have:=Nat.mul_le_mul hl hn
 omega
theorem aKL {r c i:Nat} (hN:r*c≤1048576) (hr:r≤1048576) (hi:i<r) (F:Nat→Nat→Int):((dF r c F).drop (0+(i*c))).take ((i*c+c) - i*c)=lQ c (F i):=by
 have h:= @aGd r c i hi
 rw [Nat.succ_mul] at h
 refine List.ext_getElem (by simp [gX,fN];omega) fun t h1 h2=>?_
 rw [fN] at h2
 rw [List.getElem_take,List.getElem_drop]
 simp [dF,lQ,aGO h2,aGP h2]
theorem aBu (F:Nat→Nat→Int) (r n:Nat):fV F r n=(List.range r).map fun i=>lQ n (F i):=rfl
theorem aBv (F:Nat→Nat→Int) (r n:Nat):fV F r n++[lQ n (F r)]=fV F (r+1) n:=by
 rw [aBu,aBu,List.range_succ,List.map_append];rfl
theorem aLX {n:Nat} {l:List (List Int)} (hn:n≤1024) (hl:l.length≤512) (h: ∀ v∈l,v.length=n):rG n l=some ⟨l.length,n,dF l.length n (dD l)⟩:=by
 unfold rG
 rw [aOZ hl (fun v hv=>by rw [h v hv];exact hn),Option.bind_some,aIK h]
theorem aGk {p:Int} (hp:kV p=true) {n:Nat} {l:List (List Int)} (hn:n≤1024) (hl:l.length≤512) (h:VecsP p n l):vI p n l=some ⟨n,fS p n l⟩:=by
 have T:=aJH hp hn hl h
 have hL:= @sS p l.length (dD l) n
 have h1:=T.hN
 unfold vI
 rw [aLX hn hl (fun v hv=>(h v hv).1),Option.bind_some,aJE T,Option.bind_some]
 rw [eZ (r:=fS p n l) (fun k=>(fV (cZ p l.length (dD l) n).1 k n,(k:Int))) (cZ p l.length (dD l) n).2.length (by simp [fV]) (fun k hk=>?_) (fun _=>?_),Option.bind_some]
 ·have hkl:k<l.length:=by omega
  have h3:= @aGd l.length n k hkl
  rw [Nat.succ_mul] at h3
  unfold tR
  simp only
  rw [lS,kM hk,cond_true,aGe T.hN T.hm hkl,Option.bind_some,rX T.hN hkl,uP T.hN T.hm hkl]
  simp only [Int.toNat_natCast]
  rw [aKL T.hN T.hm hkl]
  unfold tI
  rw [fN,decide_eq_true (by omega),cond_true,Option.bind_some,pR,decide_eq_true (by omega),cond_true,aBv,dE hk (by omega)]
 ·unfold tR
  simp only
  rw [lS,oN (Nat.le_refl _),cond_false]
  rfl
theorem aKM {n:Nat} {l:List (List Int)} (hn:n≤1024) (hl:l.length≤512) (h: ∀ v∈l,v.length=n):kQ n l=some ⟨l.length,n,dF l.length n (dD l)⟩:=by
 have hb: ∀ k,(l.take k).flatten.length ≤1024*512:=fun k=>by
  have:=aIJ (l:=l.take k) fun x hx=>by rw [h x (List.mem_of_mem_take hx)];exact hn
  have h2:(l.take k).length ≤512:=by simp;omega
  omega
 unfold kQ
 rw [eZ (r:=l.flatten) (fun k=>((l.take k).flatten,(k:Int))) l.length (by simp) (fun k hk=>?_) (fun _=>?_),Option.bind_some,aIK h]
 ·unfold qC
  simp only
  have e2:=hb (k+1)
  rw [wN hk,List.length_append] at e2
  rw [kM hk,cond_true,gB hk,Option.bind_some,decide_eq_true (by omega),cond_true,dE hk (by omega),wN hk]
 ·unfold qC
  simp only
  rw [oN (Nat.le_refl _),cond_false,List.take_length]
theorem aIL {p:Int} {m n:Nat} {F:Nat→Nat→Int} (T:Tb p m n F):jD p ⟨m,n,dF m n F⟩=some (fV (cZ p m F n).1 (cZ p m F n).2.length n):=by
 have hL:= @sS p m F n
 have hm:=T.hm
 have hn:=T.hn
 unfold jD
 rw [aJF T,Option.bind_some]
 rw [eZ (r:=fV (cZ p m F n).1 (cZ p m F n).2.length n) (fun k=>(fV (cZ p m F n).1 k n,(k:Int))) (cZ p m F n).2.length (by simp [fV]) (fun k hk=>?_) (fun _=>?_),Option.bind_some]
 ·have hkl:k<m:=by omega
  have h3:= @aGd m n k hkl
  rw [Nat.succ_mul] at h3
  have h4:=T.hN
  have e:wr (wr ((k:Int)*(n:Int))+(n:Int))=((k*n+n:Nat):Int):=by rw [rX T.hN hkl,fA (by omega)];omega
  unfold nT
  simp only
  rw [lS,kM hk,cond_true,e,rX T.hN hkl,gX,decide_eq_true (by omega),decide_eq_true (by omega:((k*n:Nat):Int)≤((k*n+n:Nat):Int)),decide_eq_true (by omega:((k*n+n:Nat):Int)≤((m*n:Nat):Int))]
  simp only [Int.toNat_natCast,Bool.and_self,cond_true,aKL T.hN T.hm hkl]
  rw [fN,decide_eq_true (by simp;omega),cond_true,pR,decide_eq_true (by omega),cond_true,List.nil_append,aBv,dE hk (by omega)]
 ·unfold nT
  simp only
  rw [lS,oN (Nat.le_refl _),cond_false]
theorem aKN {p:Int} (hp:kV p=true) {n:Nat} {l:List (List Int)} (hn:n≤1024) (hl:l.length≤512) (h:VecsP p n l):qQ p n l=some ⟨n,fS p n l⟩:=by
 unfold qQ
 rw [aKM hn hl (fun v hv=>(h v hv).1),Option.bind_some,aIL (aJH hp hn hl h),Option.bind_some]
 rfl
def bLs (l:List (List Int)):Prop:=l.length≤1048576∧ ∀ v∈l,bI v
theorem aLY (p:Int) (v:List Int):(kV p&&decide (v.length≤64)&&v.all fun x=>nP x 0 (wr (p - 1)))=aAa p v:=by
 unfold aAa
 cases h:kV p with
 |false=>rfl
 |true=>rw [fA (by have:=gC h;omega)]
theorem aPj {α:Type} {l:List α} {P Q:α→Bool} (h: ∀ x∈l,P x=Q x):l.all P=l.all Q:=by
 induction l with
 |nil=>rfl
 |cons x l ih=>rw [List.all_cons,List.all_cons,h x (by simp),ih fun y hy=>h y (by simp [hy])]
theorem aFq (p size:Int) (l:List (List Int)):aCz p size l=(kV p&&nP size 0 8&&decide (l.length≤16)&&l.all fun v=>decide ((v.length:Int)=size)&&aAa p v):=rfl
theorem aDS {l:List (List Int)} {f:List Int→Option Bool} (P:List Int→Bool) (hf: ∀ x∈l,f x=some (P x)) (h:l.length≤1048576):eB l f=some (l.any P):=by
 unfold eB hO
 rw [aDx (s0:=0) (s:=0) (n:=l.length) (fun k=>bif P (l[k]?.getD []) then some (k:Int) else none) rfl (by omega) (Nat.zero_le _) (fun k _ hk=>?_) (fun _=>?_)]
 ·rw [Option.bind_some]
  cases e:(List.range' 0 (l.length - 0)).findSome? (fun k:Nat=>bif P (l[k]?.getD []) then some (k:Int) else none) with
  |none=>
   rw [List.findSome?_eq_none_iff] at e
   have:l.any P=false:=by
    rw [List.any_eq_false]
    intro x hx
    obtain ⟨k,hk,rfl⟩:=List.mem_iff_getElem.1 hx
    have:=e k (by simp;omega)
    simp only [List.getElem?_eq_getElem hk,Option.getD_some] at this
    cases hp:P l[k] with
    |false=>simp
    |true=>rw [hp] at this;cases this
   rw [this];rfl
  |some i=>
   obtain ⟨k,hk,he⟩:=List.exists_of_findSome?_eq_some e
   simp at hk
   have hkl:k<l.length:=by omega
   rw [List.getElem?_eq_getElem hkl] at he
   simp only [Option.getD_some] at he
   cases hp:P l[k] with
   |false=>rw [hp] at he;cases he
   |true=>
    rw [hp] at he
    cases he
    have:l.any P=true:=List.any_eq_true.2 ⟨_,List.getElem_mem hkl,hp⟩
    rw [this]
    simp only [Sum.elim_inr,Option.bind_some]
    rw [decide_eq_true (by omega)]
 ·unfold fH
  rw [kM hk,cond_true,pO [] hk,Option.bind_some,hf _ (dJ [] hk),Option.bind_some]
  cases P _ <;> rfl
 ·unfold fH
  rw [oN (Nat.le_refl _),cond_false]
theorem aJI (p n:Int) {l:List (List Int)} (h:bLs l):nU p n l=some (nP n 0 8&&(decide (l.length≤16)&&l.all fun v=>decide ((v.length:Int)=n)&&aAa p v)):=by
 unfold nU
 rw [vH,Option.bind_some]
 refine fU fun _=>?_
 rw [show decide ((l.length:Int)≤16)=decide (l.length≤16) by rw [Bool.eq_iff_iff,decide_eq_true_eq,decide_eq_true_eq];omega]
 refine fU fun _=>?_
 rw [aDS (fun v=> !(decide ((v.length:Int)=n)&&aAa p v)) (fun v hv=>?_) h.1,Option.bind_some,List.not_any_eq_all_not]
 ·simp
 ·unfold lD
  cases decide ((v.length:Int)=n) with
  |false=>rfl
  |true=>rw [Bool.not_true,cond_false,aID p (h.2 v hv),Option.bind_some,aLY,Bool.true_and]
theorem aNI {a b:List (List Int)} (h:bLs a):dX a b (fun b0 b1=>hZ b0 b1)=some (decide (a=b)):=by
 obtain ⟨h,hb⟩:=h
 unfold dX
 rw [aAl]
 by_cases e:a.length=b.length
 ·rw [decide_eq_true e,Bool.not_true,cond_false]
  refine aDN (by omega) e (fun k h1 h2=>?_) ?_
  ·unfold dP hZ
   simp only
   rw [kM h1,cond_true,gB h1,Option.bind_some,gB h2,Option.bind_some,aNA (hb _ (List.getElem_mem h1)),Option.bind_some,Option.bind_some]
   cases decide (a[k]=b[k]) <;> rfl
  ·unfold dP
   rw [oN (Nat.le_refl _),cond_false]
 ·rw [decide_eq_false e,Bool.not_false,cond_true,decide_eq_false (by rintro rfl;exact e rfl)]
theorem aHT {a b:Sc} (h:bLs a.basis):mM a b=some (decide (a.size=b.size)&&decide (a.basis=b.basis)):=by
 unfold mM
 refine fU fun _=>?_
 rw [aNI h,Option.bind_some]
theorem aQZ {p:Int} {n:Nat} {l:List (List Int)} (hl:l.length≤1048576) (hn:n≤1048576) (h:VecsP p n l):bLs l:=⟨hl,fun v hv=>by unfold bI;rw [(h v hv).1];exact hn⟩
theorem aKO {p:Int} (hp:kV p=true) {n:Nat} {l:List (List Int)} (hn:n≤1048576) (h:VecsP p n l):bLs (fS p n l):=aQZ (by have:=(@aAc p n l).1;omega) hn (aEA hp h.inP)
theorem aHU (p:Int) {s:Sc} (h:bS s):tS p s=some (nI p s.size s.basis):=by
 unfold tS nI
 rw [aBS,Option.bind_some,aJI p s.size h.1,Option.bind_some,aFq]
 cases hf:kV p with
 |false=>simp
 |true=>
  rw [Bool.not_true,cond_false]
  cases hv:(nP s.size 0 8&&(decide (s.basis.length≤16)&&s.basis.all fun v=>decide ((v.length:Int)=s.size)&&aAa p v)) with
  |false=>
   have hx:(true&&nP s.size 0 8&&decide (s.basis.length≤16)&&s.basis.all fun v=>decide ((v.length:Int)=s.size)&&aAa p v)=false:=by rw [Bool.true_and,Bool.and_assoc];exact hv
   rw [hx];rfl
  |true=>
   have hfine:aCz p s.size s.basis=true:=by rw [aFq,hf];simp only [Bool.true_and,Bool.and_assoc];exact hv
   obtain ⟨_,n,e,hn,hl,hv2⟩:=aAd hfine
   rw [Bool.not_true,cond_false,e,aGk hf (by omega) (by omega) hv2,Option.bind_some,aHT (aKO hf (by omega) hv2),Option.bind_some]
   rw [e] at hfine
   rw [aFq,hf] at hfine
   rw [hfine]
   simp [e]
theorem aOc (p n:Int) {l:List (List Int)} (h:bLs l):nG p n l=some (aCz p n l):=by
 unfold nG
 have hall:=pP ([]:List Int) l (fun v=>decide ((v.length:Int)=n)&&aAa p v)
 have hb:=h.1
 rw [tD (fun k=>decide ((((l[k]?.getD []).length:Nat):Int)=n)&&aAa p (l[k]?.getD [])) false (n:=l.length) (by omega) (fun k hk=>?_) (fun _=>?_),Option.bind_some,hall,aFq]
 ·cases l.all fun v=>decide ((v.length:Int)=n)&&aAa p v with
  |false=>simp
  |true=>
   simp only [cond_true,Sum.elim_inl]
   rw [aDO,Option.bind_some,rW,Option.bind_some,Bool.and_true,Bool.and_assoc]
   refine fU fun _=>?_
   refine fU fun _=>?_
   congr 1
   rw [Bool.eq_iff_iff,decide_eq_true_eq,decide_eq_true_eq];omega
 ·unfold iT
  rw [kM hk,cond_true,pO [] hk,Option.bind_some,Option.bind_some,aEL p (h.2 _ (dJ [] hk)),Option.bind_some,aLY]
  cases decide ((((l[k]?.getD []).length:Nat):Int)=n) <;> cases aAa p (l[k]?.getD []) <;> rfl
 ·unfold iT
  rw [oN (Nat.le_refl _),cond_false]
theorem aOd {a b:List (List Int)} (h:bLs a):nH a b=some (decide (a=b)):=by
 obtain ⟨h,hb⟩:=h
 unfold nH
 rw [aAl]
 by_cases e:a.length=b.length
 ·rw [decide_eq_true e,Bool.not_true,cond_false]
  refine aDN (by omega) e (fun k h1 h2=>?_) ?_
  ·have hbk:=hb _ (List.getElem_mem h1)
   unfold bI at hbk
   unfold iU
   rw [kM h1,cond_true,gB h1,Option.bind_some,gB h2,Option.bind_some,aAl]
   by_cases e2:a[k].length=b[k].length
   ·rw [decide_eq_true e2,Bool.not_true,cond_false]
    have h3:=tD (body:=lU a b k) (fun j=>decide (a[k][j]?.getD 0=b[k][j]?.getD 0)) false (n:=a[k].length) (by omega) (fun j hj=>?_) ?_
    ·rw [h3,aJv e2,Option.bind_some]
     cases decide (a[k]=b[k]) <;> rfl
    ·unfold lU
     rw [gB h1,Option.bind_some,kM hj,cond_true,Option.bind_some,pO 0 hj,Option.bind_some,gB h2,Option.bind_some,pO 0 (e2▸hj),Option.bind_some]
     cases decide (a[k][j]?.getD 0=b[k][j]?.getD 0) <;> rfl
    ·intro _
     unfold lU
     rw [gB h1,Option.bind_some,oN (Nat.le_refl _),cond_false]
   ·rw [decide_eq_false e2,Bool.not_false,cond_true,decide_eq_false (fun e3=>e2 (by rw [e3])),cond_false]
  ·unfold iU
   rw [oN (Nat.le_refl _),cond_false]
 ·rw [decide_eq_false e,Bool.not_false,cond_true,decide_eq_false (by rintro rfl;exact e rfl)]
theorem vC (p:Int) {s:Sc} (h:bS s):fW p s=some (nI p s.size s.basis):=by
 unfold fW nI
 rw [aOc p s.size h.1,Option.bind_some]
 cases hf:aCz p s.size s.basis with
 |false=>rfl
 |true=>
  obtain ⟨hp,n,e,hn,hl,hv⟩:=aAd hf
  rw [Bool.not_true,cond_false,e,aKM (by omega) (by omega) (fun v hv'=>(hv v hv').1),Option.bind_some,aIL (aJH hp (by omega) (by omega) hv),Option.bind_some,show fV (cZ p s.basis.length (dD s.basis) n).1 (cZ p s.basis.length (dD s.basis) n).2.length n=fS p n s.basis from rfl,aOd (aKO hp (by omega) hv),Option.bind_some]
  simp
end
noncomputable section
set_option maxRecDepth 10000
set_option maxHeartbeats 4000000
end
noncomputable section
section
variable {α:Type} {mv:Int→α→α} {nv:α→Nat}
end
end
noncomputable section
set_option maxRecDepth 10000
set_option maxHeartbeats 4000000
end
noncomputable section
theorem aOe {p:Int} (hp:kV p=true) {n:Nat} {l l':List (List Int)} (h:zY p l.length n (dD l)) (h':zY p l'.length n (dD l')) (hK: ∀ x,Kr p l.length n (dD l) x↔Kr p l'.length n (dD l') x):fS p n l=fS p n l':=by
 obtain ⟨e1,e2⟩:=aIs hp h h' hK
 unfold fS
 rw [←e1]
 exact aAb e2
end
noncomputable section
theorem aOf {k:Nat} {f:Nat→Nat} (hlt: ∀ t,t<k→f t<k) (hinc: ∀ s t,s<t→t<k→f s<f t): ∀ t,t<k→f t=t:=by
 have h1: ∀ t,t<k→t≤f t:=by
  intro t
  induction t with
  |zero=>intro _;exact Nat.zero_le _
  |succ t ih=>intro h;have:=ih (by omega);have:=hinc t (t+1) (by omega) h;omega
 have h2: ∀ d t,t+d+1=k→f t≤t:=by
  intro d
  induction d with
  |zero=>intro t h;have:=hlt t (by omega);omega
  |succ d ih=>intro t h;have:=ih (t+1) (by omega);have:=hinc t (t+1) (by omega) (by omega);omega
 intro t ht
 have:=h1 t ht
 have:=h2 (k - t - 1) t (by omega)
 omega
theorem aLZ {L M:List Nat} (hL: ∀ i k,i<k→k<L.length→L[i]?.getD 0<L[k]?.getD 0) (hM: ∀ i k,i<k→k<M.length→M[i]?.getD 0<M[k]?.getD 0) (hs: ∀ t,t<M.length→ ∃ i,i<L.length∧L[i]?.getD 0=M[t]?.getD 0) (hl:L.length=M.length):L=M:=by
 have hs': ∀ t:Nat,∃ i,t<M.length→i<L.length∧L[i]?.getD 0=M[t]?.getD 0:=fun t=>by
  by_cases h:t<M.length
  ·obtain ⟨i,hi⟩:=hs t h;exact ⟨i,fun _=>hi⟩
  ·exact ⟨0,fun h'=>absurd h' h⟩
 obtain ⟨f,hf⟩:=Classical.axiomOfChoice hs'
 have e:=aOf (k:=M.length) (f:=f) (fun t ht=>hl▸(hf t ht).1) (fun s t hst ht=>by
  rcases Nat.lt_trichotomy (f s) (f t) with h|h|h
  ·exact h
  ·have a:=(hf s (by omega)).2;have b:=(hf t ht).2;have c:=hM s t hst ht;rw [h,b] at a;omega
  ·have a:=(hf s (by omega)).2;have b:=(hf t ht).2;have c:=hM s t hst ht
   have:=hL (f t) (f s) h (hf s (by omega)).1
   omega)
 refine List.ext_getElem hl fun i h1 h2=>?_
 have:=(hf i h2).2
 rw [e i h2] at this
 simpa [h1,h2] using this
theorem aOg {p:Int} (hp:kV p=true) {m m' n:Nat} {F G:Nat→Nat→Int} {L M:List Nat} (hF:Red m n F L) (hG:Red m' n G M) (iF:zY p m n F) (iG:zY p m' n G) (hK: ∀ x,Kr p m n F x→Kr p m' n G x) (hl:L.length=M.length):L=M∧ ∀ i j,i<L.length→j<n→F i j=G i j:=by
 have e:L=M:=aLZ hF.inc hG.inc (fun t ht=>aIr hp hF hG hK ht) hl
 subst e
 refine ⟨rfl,fun i k hi hk=>?_⟩
 have hm:=hF.len
 have hm':=hG.len
 by_cases hL: ∃ t,t<L.length∧L[t]?.getD 0=k
 ·obtain ⟨t,ht,rfl⟩:=hL
  by_cases e:i=t
  ·subst e;rw [hF.one i hi,hG.one i hi]
  ·rw [hF.col t i ht (by omega) e,hG.col t i ht (by omega) e]
 ·have hL: ∀ t,t<L.length→L[t]?.getD 0≠k:=fun t ht e=>hL ⟨t,ht,e⟩
  have h1:=hK _ (aIq (p:=p) hF hk hL) i (by omega)
  rw [aJy hF hk hL,aEB (j:=i) hi (fun t ht hti=>by rw [hG.col t i ht (by omega) (fun e=>hti e.symm)];simp),hG.one i hi,Int.one_mul] at h1
  unfold Z0 at h1
  have b1:=iF i k (by omega) hk
  have b2:=iG i k (by omega) hk
  have e1:G i k % p=F i k % p:=by
   have:=Int.emod_emod_of_dvd
   exact Int.emod_eq_emod_iff_emod_sub_eq_zero.2 h1
  rw [Int.emod_eq_of_lt b2.1 b2.2,Int.emod_eq_of_lt b1.1 b1.2] at e1
  exact e1.symm
theorem aIM {p:Int} {n:Nat} {l:List (List Int)} (hp:kV p=true) (hv:VecsP p n l) (hs:fS p n l=l): ∃ L,L.length=l.length∧Red l.length n (dD l) L:=by
 have hi:=hv.inP
 have hr:=aDz hp hi n (Nat.le_refl _)
 have hlen:(cZ p l.length (dD l) n).2.length=l.length:=by
  have:=congrArg List.length hs
  unfold fS at this
  rw [pR] at this
  exact this
 have hrow: ∀ i j,i<l.length→j<n→(cZ p l.length (dD l) n).1 i j=dD l i j:=by
  intro i j hi hj
  have:=aGS (cZ p l.length (dD l) n).1 (cZ p l.length (dD l) n).2.length n i j (by omega) hj
  unfold fS at hs
  rw [hs] at this
  exact this.symm
 refine ⟨_,hlen,⟨hr.lt,hr.inc,by omega,fun i h=>?_,fun i k h hk hne=>?_,fun i j h h2 hj=>?_,fun i j h hj=>?_⟩⟩
 ·rw [←hrow i _ (by omega) (hr.lt i h)];exact hr.one i h
 ·rw [←hrow k _ hk (hr.lt i h)];exact hr.col i k h hk hne
 ·omega
 ·rw [←hrow i j (by omega) (by have:=hr.lt i h;omega)];exact hr.left i j h hj
def rsF (p:Int) (B:Nat→Nat→Int) (L:List Nat) (v:Nat→Int):Nat→Nat→Int
 |0=>v
 |t+1=>fun j=>(rsF p B L v t j+(p - rsF p B L v t (L[t]?.getD 0))*B t j) % p
theorem aOh {p:Int} (hp:kV p=true) {B:Nat→Nat→Int} {L:List Nat} {v:Nat→Int} {n:Nat} (hv: ∀ j,j<n→0≤v j∧v j<p): ∀ t j,j<n→0≤rsF p B L v t j∧rsF p B L v t j<p
 |0,j,h=>hv j h
 |t+1,j,_=>yC hp
theorem aJJ {p:Int} (hp:kV p=true) {m n:Nat} {B:Nat→Nat→Int} {L:List Nat} (h:Red m n B L) {v:Nat→Int} : ∀ t,t≤L.length→ ∀ s,s<t→rsF p B L v t (L[s]?.getD 0)=0
 |0,_,s,hs=>absurd hs (Nat.not_lt_zero _)
 |t+1,ht,s,hs=>by
  have hm:=h.len
  simp only [rsF]
  by_cases e:s=t
  ·subst e
   rw [h.one s (by omega),Int.mul_one,show rsF p B L v s (L[s]?.getD 0)+(p - rsF p B L v s (L[s]?.getD 0))=p by omega,Int.emod_self]
  ·rw [h.col s t (by omega) (by omega) (fun e'=>e e'.symm),aJJ hp h t (by omega) s (by omega)]
   simp
theorem aLa {p:Int} (hp:kV p=true) {m n:Nat} {B:Nat→Nat→Int} {L:List Nat} (hL:L.length≤m) {v x:Nat→Int} (hx:Kr p m n B x): ∀ t,t≤L.length→dt n (rsF p B L v t) x % p=dt n v x % p
 |0,_=>rfl
 |t+1,ht=>by
  have ih:=aLa hp hL (v:=v) hx t (by omega)
  have h1:=hx t (by omega)
  rw [←ih]
  simp only [rsF]
  rw [aIp (g:=fun j=>rsF p B L v t j+(p - rsF p B L v t (L[t]?.getD 0))*B t j) (fun k _=>by rw [Int.emod_emod_of_dvd _ (Int.dvd_refl p)]),aOH]
  have h2:=aGT (p - rsF p B L v t (L[t]?.getD 0)) h1
  unfold Z0 at h2
  rw [Int.add_emod,h2]
  simp
theorem aOi {p:Int} (hp:kV p=true) {m n:Nat} {B:Nat→Nat→Int} {L:List Nat} (h:Red m n B L) {v:Nat→Int} (hv: ∀ j,j<n→0≤v j∧v j<p):(∀ j,j<n→rsF p B L v L.length j=0)↔ ∀ x,Kr p m n B x→Z0 p (dt n v x):=by
 constructor
 ·intro hz x hx
  have:=aLa hp h.len (v:=v) hx L.length (Nat.le_refl _)
  unfold Z0
  rw [←this]
  have e:dt n (rsF p B L v L.length) x=0:=by
   unfold dt
   rw [oT (g:=fun _=>0) (fun k hk=>by rw [hz k hk];simp),aAA]
  rw [e]
  simp
 ·intro hz k hk
  by_cases hL: ∃ t,t<L.length∧L[t]?.getD 0=k
  ·obtain ⟨t,ht,rfl⟩:=hL
   exact aJJ hp h L.length (Nat.le_refl _) t ht
  ·have hL: ∀ t,t<L.length→L[t]?.getD 0≠k:=fun t ht e=>hL ⟨t,ht,e⟩
   have hx:=aIq (p:=p) h hk hL
   have h1:=hz _ hx
   unfold Z0 at h1
   rw [←aLa hp h.len (v:=v) hx L.length (Nat.le_refl _),aJy h hk hL,oT (g:=fun _=>0) (fun i hi=>by rw [aJJ hp h L.length (Nat.le_refl _) i hi];simp),aAA,Int.sub_zero] at h1
   have b:=aOh hp (B:=B) (L:=L) hv L.length k hk
   rw [Int.emod_eq_of_lt b.1 b.2] at h1
   exact h1
theorem aBU {p:Int} {n:Nat} {a b:List (List Int)} {x:Nat→Int} :Kr p (a++b).length n (dD (a++b)) x↔Kr p a.length n (dD a) x∧Kr p b.length n (dD b) x:=by
 have e1: ∀ i,i<a.length→dD (a++b) i=dD a i:=fun i hi=>by funext j;simp only [dD];rw [List.getElem?_append_left hi]
 have e2: ∀ i,dD (a++b) (a.length+i)=dD b i:=fun i=>by funext j;simp only [dD];rw [List.getElem?_append_right (by omega),Nat.add_sub_cancel_left]
 unfold Kr
 rw [List.length_append]
 refine ⟨fun h=>⟨fun i hi=>e1 i hi▸h i (by omega),fun i hi=>e2 i▸h (a.length+i) (by omega)⟩,fun h i hi=>?_⟩
 rcases Nat.lt_or_ge i a.length with h'|h'
 ·rw [e1 i h'];exact h.1 i h'
 ·have:=h.2 (i - a.length) (by omega)
  rw [←e2,show a.length+(i - a.length)=i by omega] at this
  exact this
theorem aAF {p:Int} (hp:kV p=true) {n:Nat} {a b:List (List Int)} (ha:VecsP p n a) (hb:VecsP p n b) (hs:fS p n b=b):(aHK p n a b).length=b.length↔ ∀ x,Kr p b.length n (dD b) x→Kr p a.length n (dD a) x:=by
 have hi:=(ha.append hb).inP
 constructor
 ·intro hl x hx
  obtain ⟨L,hLl,hR⟩:=aIM hp hb hs
  have hr:=aDz hp hi n (Nat.le_refl _)
  have hb':=gC hp
  have hlen:(cZ p (a++b).length (dD (a++b)) n).2.length=L.length:=by
   unfold aHK fS at hl
   rw [pR] at hl
   omega
  obtain ⟨_,h2⟩:=aOg hp hr hR (qO (by omega) hi n) hb.inP (fun x hx=>(aBU.1 ((aDA hp hi x n (Nat.le_refl _)).1 hx)).2) hlen
  refine (aBU.1 ((aDA hp hi x n (Nat.le_refl _)).1 fun i hi'=>?_)).1
  rcases Nat.lt_or_ge i (cZ p (a++b).length (dD (a++b)) n).2.length with h'|h'
  ·have e:dt n ((cZ p (a++b).length (dD (a++b)) n).1 i) x=dt n (dD b i) x:=oT fun k hk=>by rw [h2 i k h' hk]
   rw [e]
   exact hx i (by omega)
  ·have e:dt n ((cZ p (a++b).length (dD (a++b)) n).1 i) x=0:=by
    unfold dt
    rw [oT (g:=fun _=>0) (fun k hk=>by rw [hr.low i k h' hi' hk];simp),aAA]
   rw [e]
   unfold Z0
   simp
 ·intro hK
  unfold aHK
  rw [aOe hp hi hb.inP fun x=>⟨fun h=>(aBU.1 h).2,fun h=>aBU.2 ⟨hK x h,h⟩⟩,hs]
end
noncomputable section
def sV (r:Rp) (i:Nat):Nat:=(r.q.src[i]?.getD 0).toNat
def tV (r:Rp) (i:Nat):Nat:=(r.q.tgt[i]?.getD 0).toNat
def aF (r:Rp) (i:Nat):Nat→Nat→Int:=fun j k=>(r.maps[i]?.getD ⟨0,0,[]⟩).cells[j*dN r (sV r i)+k]?.getD 0
structure Rv (r:Rp):Prop where
 hp:kV r.p=true
 n5:r.dims.length≤5
 d: ∀ k,k<r.dims.length→r.dims[k]?.getD 0=(dN r k:Int)∧dN r k≤4
 e6:r.q.src.length≤6
 tl:r.q.tgt.length=r.q.src.length
 ml:r.maps.length=r.q.src.length
 s: ∀ i,i<r.q.src.length→r.q.src[i]?.getD 0=(sV r i:Int)∧sV r i<r.dims.length
 t: ∀ i,i<r.q.src.length→r.q.tgt[i]?.getD 0=(tV r i:Int)∧tV r i<r.dims.length
 m: ∀ i,i<r.q.src.length→r.maps[i]?.getD ⟨0,0,[]⟩=⟨dN r (tV r i),dN r (sV r i),dF (dN r (tV r i)) (dN r (sV r i)) (aF r i)⟩∧zY r.p (dN r (tV r i)) (dN r (sV r i)) (aF r i)
theorem aKP {r:Rp} (h:aDP r=true):Rv r:=by
 obtain ⟨hp,hD,hml,hM⟩:=aOY h
 obtain ⟨hQ,hd1,hd2,_⟩:=aAn hD
 obtain ⟨n,hn,hn1,hn5,hq1,hq2,hq3,hq4⟩:=aAm hQ
 have hdl:r.dims.length=n:=by omega
 have hd: ∀ k,k<r.dims.length→r.dims[k]?.getD 0=(dN r k:Int)∧dN r k≤4:=by
  intro k hk
  have:=hd2 _ (dJ 0 hk)
  unfold dN
  omega
 have hs: ∀ i,i<r.q.src.length→r.q.src[i]?.getD 0=(sV r i:Int)∧sV r i<r.dims.length:=by
  intro i hi
  have:=hq3 _ (dJ 0 hi)
  unfold sV
  omega
 have ht: ∀ i,i<r.q.src.length→r.q.tgt[i]?.getD 0=(tV r i:Int)∧tV r i<r.dims.length:=by
  intro i hi
  have:=hq4 _ (dJ 0 (show i<r.q.tgt.length by omega))
  unfold tV
  omega
 refine ⟨hp,by omega,hd,hq2,by omega,hml,hs,ht,fun i hi=>?_⟩
 obtain ⟨g1,g2,g3⟩:=hM i (by omega)
 rw [show (r.q.src[i]?.getD 0).toNat=sV r i from rfl,(hd _ (hs i hi).2).1] at g2
 rw [show (r.q.tgt[i]?.getD 0).toNat=tV r i from rfl,(hd _ (ht i hi).2).1] at g3
 obtain ⟨_,a,b,F,ha,hb,he,hF⟩:=aLS g1
 have ea:a=dN r (tV r i):=by rw [he] at g3;simp only at g3;omega
 have eb:b=dN r (sV r i):=by rw [he] at g2;simp only at g2;omega
 have em: ∀ j k,j<a→k<b→aF r i j k=F j k:=by
  intro j k hj hk
  unfold aF
  rw [he,←eb]
  simp only
  rw [lH F hj hk];rfl
 subst ea;subst eb
 rw [he]
 refine ⟨?_,fun j k hj hk=>by rw [em j k hj hk];exact hF j k hj hk⟩
 rw [dB em]
theorem aPk {α:Type} {f:Nat→α} {n k:Nat} (h:k<n):dV ((List.range n).map f) (k:Int)=some (f k):=by rw [gB (by simp;exact h)];simp
theorem aHV {R N:Nat} (hN:R*N≤1048576) (h1:R≤1048576) (h2:N≤1048576) (M:Nat→Nat→Int):jC R ((List.range N).map fun k=>lQ R fun i=>M i k)=some ⟨R,N,dF R N M⟩:=by
 unfold jC
 rw [List.length_map,List.length_range,aOV hN,Option.bind_some]
 simp only
 rw [eZ (r:=dF R N M) (fun k=>(dF R N (fun i j=>if j<k then M i j else 0),(k:Int))) N (by simp) (fun k hk=>?_) (fun _=>?_),Option.bind_some]
 ·unfold jP
  simp only
  rw [List.length_map,List.length_range,kM hk,cond_true,aPk hk,Option.bind_some]
  rw [eZ (r:=dF R N (fun i j=>if j<k+1 then M i j else 0)) (fun x=>(dF R N (fun i j=>if j<k∨(j=k∧i<x) then M i j else 0),(x:Int))) R (by simp) (fun x hx=>?_) (fun _=>?_),Option.bind_some,dE hk (by omega)]
  ·unfold jO
   simp only
   rw [fN,kM hx,cond_true,aFp _ hx,Option.bind_some,atT hN hx hk,Option.bind_some,aNF hN hx hk,dE hx (by omega)]
   congr 3
   refine dB fun i j hi hj=>?_
   simp only [aDy]
   by_cases e:i=x∧j=k
   ·rw [if_pos e,if_pos (by omega),e.1,e.2]
   ·rw [if_neg e]
    by_cases e2:j<k∨j=k∧i<x
    ·rw [if_pos e2,if_pos (by omega)]
    ·rw [if_neg e2,if_neg (by omega)]
  ·unfold jO
   simp only
   rw [fN,oN (Nat.le_refl _),cond_false]
   congr 2
   refine dB fun i j hi hj=>?_
   by_cases e:j<k+1
   ·rw [if_pos e,if_pos (by omega)]
   ·rw [if_neg e,if_neg (by omega)]
 ·unfold jP
  simp only
  rw [List.length_map,List.length_range,oN (Nat.le_refl _),cond_false]
  congr 2
  exact dB fun i j hi hj=>by rw [if_pos hj]
end
noncomputable section
def aQa (n:Nat) (l:List (List Int)):Mt:=⟨n,(l.length:Int),dF n l.length fun i k=>dD l k i⟩
theorem aNJ {n:Nat} {l:List (List Int)} (h: ∀ v∈l,v.length=n):l=(List.range l.length).map fun k=>lQ n fun i=>dD l k i:=aMX h
theorem aQb {n:Nat} {l:List (List Int)} (hn:n≤1024) (hl:l.length≤512) (h: ∀ v∈l,v.length=n):jC n l=some (aQa n l):=by
 have hN:n*l.length≤1048576:=by have:=Nat.mul_le_mul hn hl;omega
 have e:=aHV hN (by omega) (by omega) (fun i k=>dD l k i)
 rw [←aNJ h] at e
 exact e
theorem aRD {α β:Type} {f:α→β} {l:List α} {k:Nat} (hk:k<l.length):(l.take k).map f++[f l[k]]=(l.take (k+1)).map f:=by rw [List.take_succ_eq_append_getElem hk,List.map_append];rfl
end
end Go.Proofs.YtghechfdejhapaaGreat

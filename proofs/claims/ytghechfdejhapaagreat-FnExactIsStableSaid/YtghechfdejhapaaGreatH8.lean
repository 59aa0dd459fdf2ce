/-
  Several texts of the claim in one.
-/
import Derived.Test.YtghechfdejhapaaGreatProg
import Derived.Test.YtghechfdejhapaaGreatH7
set_option linter.unusedVariables false
set_option linter.unusedSimpArgs false
namespace Go.Proofs.YtghechfdejhapaaGreat
open Go.RowKit
noncomputable section
theorem aJJ {a b:Int} (ha:0≤a∧a≤5) (hb:0≤b∧b≤5):0≤a*b∧a*b≤25:=by
 refine ⟨Int.mul_nonneg ha.1 hb.1,?_⟩
 have:=Int.mul_le_mul ha.2 hb.2 hb.1 (by decide:(0:Int)≤5)
 omega
theorem yI {x p:Int} (hp:kU p=true):0≤x % p∧x % p<p:=by
 have:=gF hp
 exact ⟨Int.emod_nonneg _ (by omega),Int.emod_lt_of_pos _ (by omega)⟩
theorem aDQ {p x:Int} (hp:kU p=true) (hx: -4611686018427387904≤x∧x≤4611686018427387904):kF p x=some (x % p):=by
 have hb:=gF hp
 have hr:=aGP x p (by omega)
 unfold kF
 rw [decide_eq_false (by omega),Bool.not_false,cond_true]
 rcases aGQ x p (by omega) with ⟨h,e⟩|⟨h,e⟩
 ·rw [decide_eq_false (by omega),cond_false,e]
 ·rw [decide_eq_true h,cond_true,eZ (by omega),e]
  congr 1
  omega
theorem aKV {p x:Int} (hp:kU p=true):pY p x=some (x % p):=by
 have hb:=gF hp
 have hr:=aGP x p (by omega)
 unfold pY
 rw [aBa,hp,Option.bind_some,Bool.not_true,cond_false,decide_eq_false (by omega),Bool.not_false,cond_true,cond_true,eZ (by omega),aNC _ _ (by omega)]
theorem aLj {p x:Int} (hp:kU p=true) {k:Nat} (hk:k≤1000):qZ p x k=some (aIx p (x % p) k):=by
 have hb:=gF hp
 unfold qZ
 rw [aBa,hp,Option.bind_some,Bool.not_true,cond_false,tX,vR (by omega) (by omega),Option.bind_some,Bool.not_true,cond_false]
 rw [fA (r:=aIx p (x % p) k) (fun t=>(aIx p (x % p) t,(t:Int))) k (by rfl) (fun t ht=>?_) (fun _=>?_),Option.bind_some]
 ·unfold mJ
  simp only
  have h1:=aMT hp (yI (x:=x) hp) t
  have h2:=yI (x:=x) hp
  have h3:=aJJ (a:=aIx p (x % p) t) (b:=x % p) (by omega) (by omega)
  rw [kN ht,cond_true,aKV hp,Option.bind_some,decide_eq_false (by omega),Bool.not_false,cond_true,dG ht (by omega),eZ (by omega),Int.tmod_eq_emod_of_nonneg h3.1]
  rfl
 ·unfold mJ
  simp only
  rw [nV (Nat.le_refl _),cond_false]
theorem aNN {p x:Int} (hp:kU p=true):nX p x=some (zE p (x % p)):=by
 have hb:=gF hp
 unfold nX zE
 rw [aBa,hp,Option.bind_some,Bool.not_true,cond_false,eZ (by omega)]
 have e:max (p - 2) 1=(((max (p - 2) 1).toNat:Nat):Int):=by omega
 rw [e,aLj hp (by omega),Option.bind_some,Int.toNat_natCast]
theorem aNO {p x:Int} (hp:kU p=true) (hx: -4611686018427387904≤x∧x≤4611686018427387904):iK p x=some (zE p (x % p)):=by
 have hb:=gF hp
 have h2:=yI (x:=x) hp
 obtain ⟨n,hn⟩: ∃ n:Nat,p=n:=⟨p.toNat,by omega⟩
 unfold iK
 rw [aDz (s0:=1) (s:=1) (n:=n) (fun k:Nat=>bif decide ((x % p*k) % p=1) then some (k:Int) else none) rfl (by omega) (by omega) (fun k h1 hk=>?_) (fun _=>?_),Option.bind_some]
 ·cases e:(List.range' 1 (n - 1)).findSome? (fun k:Nat=>bif decide ((x % p*k) % p=1) then some (k:Int) else none) with
  |none=>
   rw [List.findSome?_eq_none_iff] at e
   rw [aOG hp h2 fun y h3 h4 h5=>?_];rfl
   have:=e y (by simp;omega)
   rw [decide_eq_true h5] at this
   cases this
  |some i=>
   obtain ⟨k,hk,he⟩:=List.exists_of_findSome?_eq_some e
   simp at hk
   cases hd:decide ((x % p*k) % p=1) with
   |false=>rw [hd] at he;cases he
   |true=>
    rw [hd] at he
    cases he
    rw [aPb hp h2 (y:=k) (by omega) (of_decide_eq_true hd)];rfl
 ·unfold kJ
  have h3:=aJJ (a:=x % p) (b:=k) (by omega) (by omega)
  rw [decide_eq_true (by omega),cond_true,aDO,hp,Option.bind_some,cond_true,aDQ hp hx,Option.bind_some,eZ (by omega),aDQ hp (by omega),Option.bind_some]
  cases decide (x % p*k % p=1) <;> rfl
 ·unfold kJ
  rw [decide_eq_false (by omega),cond_false]
theorem aGg {r c i:Nat} (hi:i<r):(i+1)*c≤r*c:=Nat.mul_le_mul_right c hi
theorem ixw {r c i j:Nat} (hN:r*c≤1048576) (hi:i<r) (hj:j<c):wr (wr ((i:Int)*(c:Int))+(j:Int))=((i*c+j:Nat):Int):=wix (by have:=aMU hi hj;omega)
theorem atT {r c i j:Nat} (hN:r*c≤1048576) (hi:i<r) (hj:j<c) (F:Nat→Nat→Int):dV (dH r c F) (wr (wr ((i:Int)*(c:Int))+(j:Int)))=some (F i j):=by rw [ixw hN hi hj,aPc F hi hj]
theorem aNQ {r c i j:Nat} (hN:r*c≤1048576) (hi:i<r) (hj:j<c) (F:Nat→Nat→Int) (v:Int):(dH r c F).set (wr (wr ((i:Int)*(c:Int))+(j:Int))).toNat v=dH r c (aEA F i j v):=by rw [ixw hN hi hj,Int.toNat_natCast,zF F v hi hj]
theorem sE {r c i:Nat} (hN:r*c≤1048576) (hi:i<r):wr ((i:Int)*(c:Int))=((i*c:Nat):Int):=aKL (by have:= @aGg r c i hi;rw [Nat.succ_mul] at this;omega)
theorem uX {r c i:Nat} (hN:r*c≤1048576) (hr:r≤1048576) (hi:i<r):wr (wr ((i:Int)+1)*(c:Int))=((i*c+c:Nat):Int):=by
 have:= @aGg r c i hi
 rw [dG hi (by omega),aKL (by omega),Nat.succ_mul]
def lM (c:Nat) (f:Nat→Int):List Int:=(List.range c).map f
theorem fS (c:Nat) (f:Nat→Int):(lM c f).length=c:=by simp [lM]
theorem aFr {c:Nat} (f:Nat→Int) {j:Nat} (h:j<c):dV (lM c f) (j:Int)=some (f j):=by rw [gE (by rw [fS];exact h)];simp [lM]
theorem aGh {r c i:Nat} (hN:r*c≤1048576) (hr:r≤1048576) (hi:i<r) (F:Nat→Nat→Int):dM ⟨r,c,dH r c F⟩ i=some ():=by
 have:= @aGg r c i hi
 rw [Nat.succ_mul] at this
 unfold dM
 simp only
 rw [sE hN hi,uX hN hr hi,gY,decide_eq_true (by omega),decide_eq_true (by omega:((i*c:Nat):Int)≤((i*c+c:Nat):Int)),decide_eq_true (by omega:((i*c+c:Nat):Int)≤((r*c:Nat):Int))]
 rfl
theorem aOa {r c i:Nat} (hN:r*c≤1048576) (hr:r≤1048576) (hi:i<r) (F:Nat→Nat→Int):aCM ⟨r,c,dH r c F⟩ i=some (lM c (F i)):=by
 have h:= @aGg r c i hi
 rw [Nat.succ_mul] at h
 unfold aCM vM aAq
 simp only
 rw [sE hN hi,uX hN hr hi,gY,decide_eq_true (by omega),decide_eq_true (by omega:((i*c:Nat):Int)≤((i*c+c:Nat):Int)),decide_eq_true (by omega:((i*c+c:Nat):Int)≤((r*c:Nat):Int))]
 simp only [Bool.and_self,cond_true,Int.toNat_natCast]
 congr 1
 refine List.ext_getElem (by simp [gY,fS];omega) fun t h1 h2=>?_
 rw [fS] at h2
 rw [List.getElem_take,List.getElem_drop]
 simp [dH,lM,aGR h2,aGS h2]
def aHV (p:Int) (F:Nat→Nat→Int) (i:Nat) (k:Int) (g:Nat→Int):Nat→Nat→Int:=fun a b=>if a=i then (F i b+k*g b) % p else F a b
theorem gd (x:Nat):(decide (0≤(x:Int))&&true)=true:=by rw [decide_eq_true (by omega)];rfl
theorem aQf {p:Int} (hp:kU p=true):(!decide (p=0))=true:=by have:=gF hp;rw [decide_eq_false (by omega)];rfl
theorem aKW {p:Int} (hp:kU p=true) {r c i:Nat} (hc:c≤1048576) (hi:i<r) {F:Nat→Nat→Int} {g:Nat→Int} {k:Int} (hk:0≤k∧k≤5) (hF: ∀ b,b<c→0≤F i b∧F i b<p) (hg: ∀ b,b<c→0≤g b∧g b<p):
  gR p (dH r c F) (i*c) c k (lM c g)=some (dH r c (aHV p F i k g)):=by
 have hb:=gF hp
 unfold gR
 rw [fA (r:=dH r c (aHV p F i k g)) (fun x=>(dH r c (fun a b=>if a=i∧b<x then (F i b+k*g b) % p else F a b),(x:Int))) c (by simp) (fun x hx=>?_) (fun _=>?_)];rfl
 ·have h1:=hF x hx
  have h2:=hg x hx
  have h3:=aJJ hk (show 0≤g x∧g x≤5 by omega)
  unfold jQ
  simp only
  rw [fS,kN hx,cond_true,aFr _ hx,Option.bind_some,gd x,cond_true,Int.toNat_natCast,lE _ hi hx,Option.bind_some,aQf hp,cond_true,cond_true,Option.bind_some,zF _ _ hi hx,dG hx (by omega)]
  rw [if_neg (by omega),eZ (x:=k*g x) (by omega),eZ (by omega),Int.tmod_eq_emod_of_nonneg (by omega)]
  congr 3
  refine dC fun a b ha hb=>?_
  simp only [aEA]
  by_cases e1:a=i∧b=x
  ·obtain ⟨rfl,rfl⟩:=e1
   rw [if_pos ⟨rfl,rfl⟩,if_pos ⟨rfl,by omega⟩]
  ·rw [if_neg e1]
   by_cases e2:a=i∧b<x
   ·rw [if_pos e2,if_pos ⟨e2.1,by omega⟩]
   ·rw [if_neg e2,if_neg (by omega)]
 ·unfold jQ
  simp only
  rw [fS,nV (Nat.le_refl _),cond_false]
  congr 2
  refine dC fun a b ha hb=>?_
  simp only [aHV]
  by_cases e:a=i
  ·rw [if_pos ⟨e,hb⟩,if_pos e]
  ·rw [if_neg (by omega),if_neg e]
theorem aNR {p:Int} (hp:kU p=true) {r c i j:Nat} (hc:c≤1048576) (hi:i<r) (hj:j<r) (hij:i≠j) {F:Nat→Nat→Int} {k:Int} (hk:0≤k∧k≤5) (hF: ∀ b,b<c→0≤F i b∧F i b<p) (hg: ∀ b,b<c→0≤F j b∧F j b<p):
  iJ p (dH r c F) (i*c) c k (j*c) c=some (dH r c (aHV p F i k (F j))):=by
 have hb:=gF hp
 unfold iJ
 rw [fA (r:=dH r c (aHV p F i k (F j))) (fun x=>(dH r c (fun a b=>if a=i∧b<x then (F i b+k*F j b) % p else F a b),(x:Int))) c (by simp) (fun x hx=>?_) (fun _=>?_)];rfl
 ·have h1:=hF x hx
  have h2:=hg x hx
  have h3:=aJJ hk (show 0≤F j x∧F j x≤5 by omega)
  unfold gI
  simp only
  rw [kN hx,cond_true,gd x,cond_true,Int.toNat_natCast,lE _ hj hx,Option.bind_some,cond_true,lE _ hi hx,Option.bind_some,aQf hp,cond_true,cond_true,Option.bind_some,zF _ _ hi hx,dG hx (by omega)]
  rw [if_neg (by omega),if_neg (by omega),eZ (x:=k*F j x) (by omega),eZ (by omega),Int.tmod_eq_emod_of_nonneg (by omega)]
  congr 3
  refine dC fun a b ha hb=>?_
  simp only [aEA]
  by_cases e1:a=i∧b=x
  ·obtain ⟨rfl,rfl⟩:=e1
   rw [if_pos ⟨rfl,rfl⟩,if_pos ⟨rfl,by omega⟩]
  ·rw [if_neg e1]
   by_cases e2:a=i∧b<x
   ·rw [if_pos e2,if_pos ⟨e2.1,by omega⟩]
   ·rw [if_neg e2,if_neg (by omega)]
 ·unfold gI
  simp only
  rw [nV (Nat.le_refl _),cond_false]
  congr 2
  refine dC fun a b ha hb=>?_
  simp only [aHV]
  by_cases e:a=i
  ·rw [if_pos ⟨e,hb⟩,if_pos e]
  ·rw [if_neg (by omega),if_neg e]
theorem aOb {r c:Nat} (hN:r*c≤1048576):(decide (0≤wr ((r:Int)*(c:Int)))&&decide (wr ((r:Int)*(c:Int))≤1048576))=true:=by
 rw [aKL (by omega),decide_eq_true (by omega),decide_eq_true (by omega)];rfl
theorem aOc {r c:Nat} (hN:r*c≤1048576):tC r c=some ⟨r,c,dH r c fun _ _=>0⟩:=by
 unfold tC
 rw [aOb hN,cond_true,aKL (by omega),Int.toNat_natCast,aHw]
theorem aOd {r c:Nat} (hN:r*c≤1048576):vH r c=some ⟨r,c,dH r c fun _ _=>0⟩:=by
 unfold vH
 rw [aOb hN,cond_true,aKL (by omega),Int.toNat_natCast,aHw]
def aFT (F G:Nat→Nat→Int) (i j:Nat):Nat→Int
 |0=>0
 |k+1=>aFT F G i j k+F i k*G k j
def aKX (p:Int) (F G:Nat→Nat→Int) (i j:Nat):Nat→Int
 |0=>0
 |k+1=>(aKX p F G i j k+F i k*G k j) % p
theorem aJK {p:Int} (hp:kU p=true) (F G:Nat→Nat→Int) (i j:Nat): ∀ k,aKX p F G i j k=aFT F G i j k % p
 |0=>by simp [aKX,aFT]
 |k+1=>by rw [aKX,aFT,aJK hp F G i j k];simp [Int.add_emod]
theorem aJL {p:Int} (hp:kU p=true) {F G:Nat→Nat→Int} {i j:Nat} : ∀ {k:Nat},(∀ t,t<k→0≤F i t∧F i t<p)→(∀ t,t<k→0≤G t j∧G t j<p)→0≤aFT F G i j k∧aFT F G i j k≤25*k
 |0,_,_=>by simp [aFT]
 |k+1,hF,hG=>by
  have hb:=gF hp
  have h:=aJL hp (k:=k) (fun t ht=>hF t (by omega)) (fun t ht=>hG t (by omega))
  have h1:=hF k (by omega)
  have h2:=hG k (by omega)
  have h3:=aJJ (a:=F i k) (b:=G k j) (by omega) (by omega)
  rw [aFT]
  omega
def aFU (p:Int) (n:Nat) (F G:Nat→Nat→Int):Nat→Nat→Int:=fun i j=>aFT F G i j n % p
theorem aJM {p:Int} (hp:kU p=true) {r n c:Nat} (h1:r*n≤1048576) (h2:n*c≤1048576) (h3:r*c≤1048576) (hr:r≤1048576) (hn:n≤1048576) (hc:c≤1048576) {F G:Nat→Nat→Int} (hF:InP p r n F) (hG:InP p n c G):
  nW p ⟨r,n,dH r n F⟩ ⟨n,c,dH n c G⟩=some ⟨r,c,dH r c (aFU p n F G)⟩:=by
 have hb:=gF hp
 unfold nW
 simp only
 rw [aOd h3,Option.bind_some]
 simp only
 rw [fA (r:=dH r c (aFU p n F G)) (fun i=>(dH r c (fun a b=>if a<i then aFU p n F G a b else 0),(i:Int))) r (by simp) (fun i hi=>?_) (fun _=>?_),Option.bind_some]
 ·unfold kI
  simp only
  rw [kN hi,cond_true]
  rw [fA (r:=dH r c (fun a b=>if a<i+1 then aFU p n F G a b else 0)) (fun j=>(dH r c (fun a b=>if a<i∨(a=i∧b<j) then aFU p n F G a b else 0),(j:Int))) c (by simp) (fun j hj=>?_) (fun _=>?_),Option.bind_some,dG hi (by omega)]
  ·unfold kH
   simp only
   rw [kN hj,cond_true]
   have hbd:=aJL hp (F:=F) (G:=G) (i:=i) (j:=j) (k:=n) (fun t ht=>hF i t hi ht) (fun t ht=>hG t j ht hj)
   rw [fA (r:=aFT F G i j n) (fun k=>(aFT F G i j k,(k:Int))) n (by simp [aFT]) (fun k hk=>?_) (fun _=>?_),Option.bind_some,aDQ hp (by omega),Option.bind_some,atT h3 hi hj,Option.bind_some,aNQ h3 hi hj,dG hj (by omega)]
   ·congr 3
    refine dC fun a b ha hb=>?_
    simp only [aEA]
    by_cases e:a=i∧b=j
    ·rw [if_pos e,if_pos (by omega),e.1,e.2];rfl
    ·rw [if_neg e]
     by_cases e2:a<i∨a=i∧b<j
     ·rw [if_pos e2,if_pos (by omega)]
     ·rw [if_neg e2,if_neg (by omega)]
   ·unfold kG
    simp only
    have g1:=hF i k hi hk
    have g2:=hG k j hk hj
    have g3:=aJJ (a:=F i k) (b:=G k j) (by omega) (by omega)
    have g4:=aJL hp (F:=F) (G:=G) (i:=i) (j:=j) (k:=k) (fun t ht=>hF i t hi (by omega)) (fun t ht=>hG t j (by omega) hj)
    rw [kN hk,cond_true,atT h1 hi hk,Option.bind_some,atT h2 hk hj,Option.bind_some,dG hk (by omega),eZ (x:=F i k*G k j) (by omega),eZ (by omega)]
    rfl
   ·unfold kG
    simp only
    rw [nV (Nat.le_refl _),cond_false]
  ·unfold kH
   simp only
   rw [nV (Nat.le_refl _),cond_false]
   congr 2
   refine dC fun a b ha hb=>?_
   by_cases e:a<i+1
   ·rw [if_pos e,if_pos (by omega)]
   ·rw [if_neg e,if_neg (by omega)]
 ·unfold kI
  simp only
  rw [nV (Nat.le_refl _),cond_false]
  congr 2
  exact dC fun a b ha hb=>by rw [if_pos ha]
theorem aPo {p:Int} (hp:kU p=true) {r n c:Nat} (h1:r*n≤1048576) (h2:n*c≤1048576) (h3:r*c≤1048576) (hr:r≤1048576) (hn:n≤1048576) (hc:c≤1048576) {F G:Nat→Nat→Int} (hF:InP p r n F) (hG:InP p n c G):
  wL p ⟨r,n,dH r n F⟩ ⟨n,c,dH n c G⟩=some ⟨r,c,dH r c (aFU p n F G)⟩:=by
 have hb:=gF hp
 have hD: ∀ i j,aKX p F G i j n=aFU p n F G i j:=fun i j=>aJK hp F G i j n
 unfold wL
 simp only
 rw [aOc h3,Option.bind_some]
 simp only
 rw [fA (r:=dH r c (aFU p n F G)) (fun i=>(dH r c (fun a b=>if a<i then aFU p n F G a b else 0),(i:Int))) r (by simp) (fun i hi=>?_) (fun _=>?_),Option.bind_some]
 ·unfold rF
  simp only
  rw [kN hi,cond_true,aOa h1 hr hi,Option.bind_some]
  rw [fA (r:=dH r c (fun a b=>if a<i+1 then aFU p n F G a b else 0)) (fun k=>(dH r c (fun a b=>if a<i then aFU p n F G a b else if a=i then aKX p F G i b k else 0),(k:Int))) n ?_ (fun k hk=>?_) (fun _=>?_),Option.bind_some,dG hi (by omega)]
  ·congr 1
   exact dC fun a b ha hb=>by
    by_cases e:a<i
    ·rw [if_pos e,if_pos e]
    ·rw [if_neg e,if_neg e];simp [aKX]
  ·unfold rE
   simp only
   have g1:=hF i k hi hk
   rw [fS,kN hk,cond_true,aFr _ hk,Option.bind_some,aGh h3 hr hi,Option.bind_some,aOa h2 hn hk,Option.bind_some,Nat.zero_add,sE h3 hi,uX h3 hr hi,Int.toNat_natCast,Int.toNat_natCast,show i*c+c - i*c=c by omega]
   rw [aKW hp hc hi (by omega) (fun b hb=>?_) (fun b hb=>hG k b hk hb),Option.bind_some,gY,gY,decide_eq_true rfl,cond_true,dG hk (by omega)]
   ·congr 3
    refine dC fun a b ha hb=>?_
    simp only [aHV]
    by_cases e:a=i
    ·subst e
     simp [aKX]
    ·rw [if_neg e,if_neg e,if_neg e]
   ·rw [if_neg (by omega),if_pos rfl,aJK hp]
    exact yI hp
  ·unfold rE
   simp only
   rw [fS,nV (Nat.le_refl _),cond_false]
   congr 2
   refine dC fun a b ha hb=>?_
   by_cases e:a<i
   ·rw [if_pos e,if_pos (by omega)]
   ·by_cases e2:a=i
    ·subst e2
     rw [if_neg (by omega),if_pos rfl,if_pos (by omega),hD]
    ·rw [if_neg e,if_neg e2,if_neg (by omega)]
 ·unfold rF
  simp only
  rw [nV (Nat.le_refl _),cond_false]
  congr 2
  exact dC fun a b ha hb=>by rw [if_pos ha]
end
noncomputable section
def tD (L:List Nat):List Int:=L.map fun t:Nat=>(t:Int)
theorem lO (L:List Nat):(tD L).length=L.length:=by simp [tD]
theorem aGi {p:Int} {m:Nat} {F:Nat→Nat→Int} {j:Nat} (h:(dB p m F j).2.length=m): ∀ d,dB p m F (j+d)=dB p m F j
 |0=>rfl
 |d+1=>by
  show gG p m (dB p m F (j+d)) (j+d)=_
  rw [aGi h d]
  unfold gG
  rw [if_pos]
  rw [h,Nat.sub_self]
  rfl
def aAL (F:Nat→Nat→Int) (a b x:Nat):Nat→Nat→Int:=fun i y=>if y<x then tA F a b i y else F i y
def wN (p:Int) (F:Nat→Nat→Int) (a:Nat) (s:Int) (x:Nat):Nat→Nat→Int:=fun i y=>if y<x then oY p F a s i y else F i y
def iO (p:Int) (F:Nat→Nat→Int) (a j x:Nat):Nat→Nat→Int:=fun i c=>if i<x then uM p F a j i c else F i c
theorem aIM {r c a b x:Nat} (F:Nat→Nat→Int):dH r c (aEA (aEA (aAL F a b x) a x (F b x)) b x (F a x))=dH r c (aAL F a b (x+1)):=by
 refine dC fun i y hi hy=>?_
 simp only [aEA,aAL,tA]
 by_cases e:y=x
 ·subst e
  simp only [and_true,Nat.lt_irrefl,if_false,Nat.lt_succ_self,if_true]
  by_cases e1:i=b
  ·rw [if_pos e1]
   by_cases e2:i=a
   ·rw [if_pos e2]
    subst e1;rw [e2]
   ·rw [if_neg e2,if_pos e1]
  ·rw [if_neg e1]
   by_cases e2:i=a
   ·rw [if_pos e2,if_pos e2]
   ·rw [if_neg e2,if_neg e2,if_neg e1]
 ·rw [if_neg (by omega),if_neg (by omega)]
  by_cases e1:y<x
  ·rw [if_pos e1,if_pos (show y<x+1 by omega)]
  ·rw [if_neg e1,if_neg (show ¬ y<x+1 by omega)]
theorem aBb {F:Nat→Nat→Int} {a b x i:Nat} :aAL F a b x i x=F i x:=by simp [aAL]
theorem aGj {p:Int} {F:Nat→Nat→Int} {a x i:Nat} {s:Int} :wN p F a s x i x=F i x:=by simp [wN]
theorem aGk {p:Int} {r c a x:Nat} {s:Int} (F:Nat→Nat→Int):dH r c (aEA (wN p F a s x) a x ((F a x*s) % p))=dH r c (wN p F a s (x+1)):=by
 refine dC fun i y hi hy=>?_
 simp only [aEA,wN,oY]
 by_cases e:y=x
 ·subst e
  simp only [and_true,Nat.lt_irrefl,if_false,Nat.lt_succ_self,if_true]
 ·rw [if_neg (by omega)]
  by_cases e1:y<x
  ·rw [if_pos e1,if_pos (show y<x+1 by omega)]
  ·rw [if_neg e1,if_neg (show ¬ y<x+1 by omega)]
theorem aMe {p r:Int} (hp:kU p=true) (hr:0≤r∧r<p):0≤zE p r∧zE p r<p:=aMT hp hr _
theorem aKY {p:Int} {m n k r:Nat} {F:Nat→Nat→Int} (h:InP p m n F) (hk:k<m) (hr:r<m):InP p m n (tA F k r):=by
 intro i c hi hc
 unfold tA
 split
 ·exact h r c hr hc
 ·split
  ·exact h k c hk hc
  ·exact h i c hi hc
theorem aIN {p:Int} (hp:kU p=true) {m n k:Nat} {s:Int} {F:Nat→Nat→Int} (h:InP p m n F):InP p m n (oY p F k s):=by
 intro i c hi hc
 unfold oY
 split
 ·exact yI hp
 ·exact h i c hi hc
theorem aNS {p:Int} (hp:kU p=true) {m n k j x:Nat} {F:Nat→Nat→Int} (h:InP p m n F):InP p m n (iO p F k j x):=by
 intro i c hi hc
 unfold iO uM
 split
 ·split
  ·rename_i h1 h2;subst h2;exact h _ c hi hc
  ·exact yI hp
 ·exact h i c hi hc
theorem aOe {p:Int} (hp:kU p=true) {m n k j x:Nat} {F:Nat→Nat→Int} (hx:x≠k):dH m n (aHV p (iO p F k j x) x (p - F x j) (iO p F k j x k))=dH m n (iO p F k j (x+1)):=by
 refine dC fun i c hi hc=>?_
 simp only [aHV,iO,uM]
 by_cases e:i=x
 ·subst e
  rw [if_pos rfl,if_neg (Nat.lt_irrefl _),if_pos (Nat.lt_succ_self _),if_neg hx]
  simp only [if_true,ite_self]
  rw [show F i c+(p - F i j)*F k c=(F i c - F i j*F k c)+p*F k c by rw [Int.sub_mul];omega,Int.add_mul_emod_self_left]
 ·rw [if_neg e]
  by_cases e1:i<x
  ·rw [if_pos e1,if_pos (show i<x+1 by omega)]
  ·rw [if_neg e1,if_neg (show ¬ i<x+1 by omega)]
theorem aIO {p:Int} {m n k j:Nat} {F:Nat→Nat→Int} :dH m n (iO p F k j k)=dH m n (iO p F k j (k+1)):=by
 refine dC fun i c hi hc=>?_
 simp only [iO,uM]
 by_cases e:i<k
 ·rw [if_pos e,if_pos (show i<k+1 by omega)]
 ·rw [if_neg e]
  by_cases e1:i=k
  ·subst e1;simp
  ·rw [if_neg (show ¬ i<k+1 by omega)]
theorem aGl {p:Int} {F:Nat→Nat→Int} {k r j:Nat} :fG p F k r j=uM p (oY p (tA F k r) k (zE p (F r j))) k j:=rfl
structure Tb (p:Int) (m n:Nat) (F:Nat→Nat→Int):Prop where
 hp:kU p=true
 hN:m*n≤1048576
 hm:m≤1048576
 hn:n≤1048576
 hi:InP p m n F
theorem aQg {p:Int} {m n:Nat} {F:Nat→Nat→Int} (T:Tb p m n F) {j:Nat} (hj:j<n) (L:List Nat) (hL:L.length≤m) (l:List Int):
  Lp (lK ⟨m,n,l⟩ ((j:Int),dH m n F,tD L)) (((tD L).length:Nat):Int)=some ((iT F j (m - L.length) L.length:Nat):Int):=by
 obtain ⟨hp,hN,hm,hn,hi⟩:=T
 have hle:= @xB F j (m - L.length) L.length
 have hz:= @aCI F j (m - L.length) L.length
 have hh:= @aBT F j (m - L.length) L.length
 generalize iT F j (m - L.length) L.length=r at*
 rw [lO]
 refine fA (fun t=>((L.length+t:Nat):Int)) (r - L.length) (by simp) (fun t ht=>?_) (fun _=>?_)
 ·unfold lK
  simp only
  rw [kN (by omega),cond_true,aGh hN hm (by omega),Option.bind_some,sE hN (by omega),uX hN hm (by omega),Int.toNat_natCast,Int.toNat_natCast,Nat.add_sub_cancel_left,kN hj,gd,cond_true,Nat.zero_add,Int.toNat_natCast,lE _ (by omega) hj,Option.bind_some,
   hz _ (by omega) (by omega),decide_eq_true rfl,cond_true,dG (n:=m) (by omega) (by omega),Nat.add_assoc]
 ·rw [show L.length+(r - L.length)=r by omega]
  unfold lK
  simp only
  rcases Nat.lt_or_ge r m with h|h
  ·rw [kN h,cond_true,aGh hN hm h,Option.bind_some,sE hN h,uX hN hm h,Int.toNat_natCast,Int.toNat_natCast,Nat.add_sub_cancel_left,kN hj,gd,cond_true,Nat.zero_add,Int.toNat_natCast,lE _ h hj,Option.bind_some,
    decide_eq_false (hh (by omega)),cond_false]
  ·rw [nV h,cond_false]
theorem aPp {p:Int} {m n:Nat} {F:Nat→Nat→Int} (T:Tb p m n F) {j:Nat} (hj:j<n) (L:List Nat) (hL:L.length≤m) (l:List Int):
  lL p ⟨m,n,l⟩ ((j:Int),dH m n F,tD L)=some (.inl (((j+1:Nat):Int),dH m n (gG p m (F,L) j).1,tD (gG p m (F,L) j).2)):=by
 have hpv:=aQg T hj L hL l
 obtain ⟨hp,hN,hm,hn,hi⟩:=T
 have hb:=gF hp
 have hle:= @xB F j (m - L.length) L.length
 unfold lL gG
 simp only
 rw [kN hj,cond_true,hpv,Option.bind_some,dG hj (by omega)]
 clear hpv
 generalize iT F j (m - L.length) L.length=r at*
 by_cases hr:r=m
 ·rw [decide_eq_true (by omega),cond_true,if_pos hr]
 ·rw [decide_eq_false (by omega),cond_false,if_neg hr]
  have hk:L.length<m:=by omega
  have hrm:r<m:=by omega
  simp only [lO]
  rw [aGh hN hm hk,Option.bind_some,sE hN hk,uX hN hm hk]
  simp only [Int.toNat_natCast,Nat.add_sub_cancel_left,Nat.zero_add]
  rw [fA (r:=dH m n (tA F L.length r)) (fun x=>(dH m n (aAL F L.length r x),(x:Int))) n ?_ (fun x hx=>?_) (fun _=>?_),Option.bind_some,kN hj,gd,cond_true,lE _ hk hj,Option.bind_some]
  ·have e1:tA F L.length r L.length j=F r j:=by simp [tA]
   have hrj:=hi r j hrm hj
   rw [e1,aNN hp,Option.bind_some,Int.emod_eq_of_lt hrj.1 hrj.2]
   have hs:=aMe hp hrj
   rw [aGl]
   generalize zE p (F r j)=s at*
   have h1:=aKY hi hk hrm
   generalize tA F L.length r=F1 at*
   rw [fA (r:=dH m n (oY p F1 L.length s)) (fun x=>(dH m n (wN p F1 L.length s x),(x:Int))) n ?_ (fun x hx=>?_) (fun _=>?_),Option.bind_some]
   ·have h2:=aIN hp (k:=L.length) (s:=s) h1
    generalize oY p F1 L.length s=F2 at*
    rw [fA (r:=dH m n (uM p F2 L.length j)) (fun x=>(dH m n (iO p F2 L.length j x),(x:Int))) m ?_ (fun x hx=>?_) (fun _=>?_),Option.bind_some]
    ·rw [decide_eq_true (by simp;omega),cond_true]
     simp [tD]
    ·congr 1
    ·unfold qB
     simp only [lO]
     rw [kN hx,cond_true]
     by_cases hxk:x=L.length
     ·rw [decide_eq_true (by omega),Bool.not_true,cond_false,dG hx (by omega),hxk,aIO]
     ·rw [decide_eq_false (by omega),Bool.not_false,cond_true,aGh hN hm hx,Option.bind_some,Option.bind_some,sE hN hx,uX hN hm hx,sE hN hk,uX hN hm hk]
      simp only [Int.toNat_natCast,Nat.add_sub_cancel_left,Nat.zero_add]
      rw [kN hj,gd,cond_true,lE _ hx hj,Option.bind_some]
      have e2:iO p F2 L.length j x x j=F2 x j:=by simp [iO]
      have h3:=h2 x j hx hj
      have h4:=aNS hp (k:=L.length) (j:=j) (x:=x) h2
      rw [e2,eZ (by omega),aNR hp hn hx hk hxk (by omega) (fun b hb=>h4 _ b hx hb) (fun b hb=>h4 _ b hk hb),Option.bind_some,gY,gY,decide_eq_true rfl,cond_true,dG hx (by omega),aOe hp hxk]
    ·unfold qB
     simp only
     rw [nV (Nat.le_refl _),cond_false]
     congr 2
     exact dC fun a b ha hb=>by simp only [iO];rw [if_pos ha]
   ·congr 1
   ·unfold qA
    simp only [lO]
    rw [sE hN hk,uX hN hm hk]
    simp only [Int.toNat_natCast,Nat.add_sub_cancel_left,Nat.zero_add]
    have g1:=h1 _ x hk hx
    have g2:=aJJ (a:=F1 L.length x) (b:=s) (by omega) (by omega)
    rw [kN hx,cond_true,gd,cond_true,lE _ hk hx,Option.bind_some,aQf hp,cond_true,cond_true,Option.bind_some,aGj,eZ (by omega),Int.tmod_eq_emod_of_nonneg g2.1,zF _ _ hk hx,dG hx (by omega),aGk]
   ·unfold qA
    simp only [lO]
    rw [sE hN hk,uX hN hm hk]
    simp only [Int.toNat_natCast,Nat.add_sub_cancel_left,Nat.zero_add]
    rw [nV (Nat.le_refl _),cond_false]
    congr 2
    exact dC fun a b ha hb=>by simp only [wN];rw [if_pos hb]
  ·congr 1
  ·unfold pZ
   simp only [lO]
   rw [kN hx,cond_true,aGh hN hm hrm,Option.bind_some,Option.bind_some,sE hN hk,uX hN hm hk,sE hN hrm,uX hN hm hrm]
   simp only [Int.toNat_natCast,Nat.add_sub_cancel_left,Nat.zero_add]
   rw [kN hx,gd,cond_true,lE _ hrm hx,Option.bind_some,cond_true,lE _ hk hx,Option.bind_some,cond_true,Option.bind_some,cond_true,zF _ _ hk hx,lE _ hrm hx,Option.bind_some,zF _ _ hrm hx,aBb,aBb,dG hx (by omega),aIM]
  ·unfold pZ
   simp only
   rw [nV (Nat.le_refl _),cond_false]
   congr 2
   exact dC fun a b ha hb=>by simp only [aAL];rw [if_pos hb]
theorem aJN {p:Int} {m n:Nat} {F:Nat→Nat→Int} (T:Tb p m n F):vI p ⟨m,n,dH m n F⟩=some (⟨m,n,dH m n (dB p m F n).1⟩,tD (dB p m F n).2):=by
 have hN:=T.hN
 have hn:=T.hn
 unfold vI qO tP
 simp only
 rw [gY,decide_eq_true hN,cond_true,Option.bind_some,Option.bind_some]
 simp only
 rw [fA (r:=(dH m n (dB p m F n).1,tD (dB p m F n).2)) (fun j=>((j:Int),dH m n (dB p m F j).1,tD (dB p m F j).2)) n (by simp [dB,tD]) (fun j hj=>?_) (fun _=>?_),Option.bind_some]
 ·show _=some (Sum.inl (((j+1:Nat):Int),dH m n (gG p m (dB p m F j) j).1,tD (gG p m (dB p m F j) j).2):(Int×List Int×List Int) ⊕ (List Int×List Int))
  exact aPp ⟨T.hp,T.hN,T.hm,T.hn,qR (by have:=gF T.hp;omega) T.hi j⟩ hj _ (tB j) _
 ·unfold lL
  simp only
  rw [nV (Nat.le_refl _),cond_false]
theorem aQh {p:Int} {m n:Nat} {F:Nat→Nat→Int} (T:Tb p m n F) {j:Nat} (hj:j<n) (L:List Nat) (hL:L.length<m) (l:List Int):
  Lp (jE ⟨m,n,l⟩ ((j:Int),dH m n F,tD L,(L.length:Int))) (-1,wr ((m:Int) - 1))=some (if iT F j (m - L.length) L.length=m then -1 else ((iT F j (m - L.length) L.length:Nat):Int)):=by
 obtain ⟨hp,hN,hm,hn,hi⟩:=T
 refine fA (fun t=>(if iT F j t (m - t)=m then -1 else ((iT F j t (m - t):Nat):Int),((m - t:Nat):Int) - 1)) (m - L.length) ?_ (fun t ht=>?_) (fun _=>?_)
 ·simp only [iT,Nat.sub_zero,if_true]
  rw [eZ (by omega)]
 ·unfold jE
  simp only
  have e:((m - t:Nat):Int) - 1=((m - (t+1):Nat):Int):=by omega
  have hi2:m - (t+1)<m:=by omega
  rw [e,decide_eq_true (by omega),cond_true,atT hN hi2 hj,Option.bind_some,eZ (x:=((m - (t+1):Nat):Int) - 1) (by omega)]
  have ep:iT F j (t+1) (m - (t+1))=if F (m - (t+1)) j=0 then iT F j t (m - t) else m - (t+1):=by
   rw [iT,show m - (t+1)+1=m - t by omega]
  rw [ep]
  by_cases h:F (m - (t+1)) j=0
  ·rw [decide_eq_true h,Bool.not_true,cond_false,if_pos h]
  ·rw [decide_eq_false h,Bool.not_false,cond_true,if_neg h,if_neg (by omega)]
 ·rw [show m - (m - L.length)=L.length by omega]
  unfold jE
  simp only
  rw [decide_eq_false (by omega),cond_false]
theorem aPq {p:Int} {m n:Nat} {F:Nat→Nat→Int} (T:Tb p m n F) {j:Nat} (hj:j<n) (L:List Nat) (hL:L.length<m) (l:List Int):
  eW p ⟨m,n,l⟩ ((j:Int),dH m n F,tD L,(L.length:Int))=some (.inl (((j+1:Nat):Int),dH m n (gG p m (F,L) j).1,tD (gG p m (F,L) j).2,((gG p m (F,L) j).2.length:Int))):=by
 have hpv:=aQh T hj L hL l
 obtain ⟨hp,hN,hm,hn,hi⟩:=T
 have hb:=gF hp
 have hle:= @xB F j (m - L.length) L.length
 unfold eW gG
 simp only
 rw [kN hj,cond_true,kN hL,cond_true,hpv,Option.bind_some,dG hj (by omega)]
 clear hpv
 generalize iT F j (m - L.length) L.length=r at*
 have hk:L.length<m:=hL
 by_cases hr:r=m
 ·rw [if_pos hr,if_pos hr,decide_eq_true (by omega),cond_true]
 ·rw [if_neg hr,if_neg hr,decide_eq_false (by omega),cond_false]
  have hrm:r<m:=by omega
  rw [fA (r:=dH m n (tA F L.length r)) (fun x=>(dH m n (aAL F L.length r x),(x:Int))) n ?_ (fun x hx=>?_) (fun _=>?_),Option.bind_some,atT hN hk hj,Option.bind_some]
  ·have e1:tA F L.length r L.length j=F r j:=by simp [tA]
   have hrj:=hi r j hrm hj
   rw [e1,aNO hp (by omega),Option.bind_some,Int.emod_eq_of_lt hrj.1 hrj.2]
   have hs:=aMe hp hrj
   rw [aGl]
   generalize zE p (F r j)=s at*
   have h1:=aKY hi hk hrm
   generalize tA F L.length r=F1 at*
   rw [fA (r:=dH m n (oY p F1 L.length s)) (fun x=>(dH m n (wN p F1 L.length s x),(x:Int))) n ?_ (fun x hx=>?_) (fun _=>?_),Option.bind_some]
   ·have h2:=aIN hp (k:=L.length) (s:=s) h1
    generalize oY p F1 L.length s=F2 at*
    rw [fA (r:=dH m n (uM p F2 L.length j)) (fun x=>(dH m n (iO p F2 L.length j x),(x:Int))) m ?_ (fun x hx=>?_) (fun _=>?_),Option.bind_some]
    ·rw [lO,decide_eq_true (by simp;omega),cond_true,dG hk (by omega)]
     simp [tD]
    ·congr 1
    ·unfold gS
     simp only
     rw [kN hx,cond_true,atT hN hx hj,Option.bind_some,dG hx (by omega)]
     have e2:iO p F2 L.length j x x j=F2 x j:=by simp [iO]
     rw [e2]
     by_cases hxk:x=L.length
     ·rw [vG (r:=dH m n (iO p F2 L.length j x)) ?_,Option.bind_some,hxk,aIO]
      unfold jF
      simp only
      rcases Nat.eq_zero_or_pos n with h0|h0
      ·omega
      ·rw [decide_eq_true (by omega),cond_true,decide_eq_true (by omega),Bool.not_true,cond_false]
     ·rw [fA (r:=dH m n (iO p F2 L.length j (x+1))) (fun y=>(dH m n (fun a c=>if a=x∧c<y then uM p F2 L.length j x c else iO p F2 L.length j x a c),(y:Int))) n (by simp) (fun y hy=>?_) (fun _=>?_),Option.bind_some]
      ·unfold jF
       simp only
       rw [kN hy,cond_true,decide_eq_false (by omega),Bool.not_false,cond_true,atT hN hx hy,Option.bind_some,atT hN hk hy,Option.bind_some]
       have e3:iO p F2 L.length j x x y=F2 x y:=by simp [iO]
       have e4:iO p F2 L.length j x L.length y=F2 L.length y:=by simp [iO,uM]
       rw [if_neg (by omega),if_neg (by omega),e3,e4]
       have g1:=h2 x j hx hj
       have g2:=h2 L.length y hk hy
       have g3:=h2 x y hx hy
       have g4:=aJJ (a:=F2 x j) (b:=F2 L.length y) (by omega) (by omega)
       rw [eZ (x:=F2 x j*F2 L.length y) (by omega),eZ (x:=F2 x y - F2 x j*F2 L.length y) (by omega),aDQ hp (by omega),Option.bind_some,Option.bind_some,aNQ hN hx hy,dG hy (by omega)]
       congr 3
       refine dC fun a c ha hc=>?_
       simp only [aEA]
       by_cases e5:a=x∧c=y
       ·rw [if_pos e5,if_pos (by omega),e5.2]
        simp only [uM]
        rw [if_neg hxk]
       ·rw [if_neg e5]
        by_cases e6:a=x∧c<y
        ·rw [if_pos e6,if_pos (by omega)]
        ·rw [if_neg e6,if_neg (by omega)]
      ·unfold jF
       simp only
       rw [nV (Nat.le_refl _),cond_false]
       congr 2
       refine dC fun a c ha hc=>?_
       simp only [iO]
       by_cases e5:a=x
       ·rw [if_pos ⟨e5,hc⟩,if_pos (by omega),e5]
       ·rw [if_neg (by omega)]
        by_cases e6:a<x
        ·rw [if_pos e6,if_pos (by omega)]
        ·rw [if_neg e6,if_neg (by omega)]
    ·unfold gS
     simp only
     rw [nV (Nat.le_refl _),cond_false]
     congr 2
     exact dC fun a b ha hb=>by simp only [iO];rw [if_pos ha]
   ·congr 1
   ·unfold mI
    simp only
    have g1:=h1 _ x hk hx
    have g2:=aJJ (a:=F1 L.length x) (b:=s) (by omega) (by omega)
    rw [kN hx,cond_true,atT hN hk hx,Option.bind_some,aGj,Int.mul_comm,eZ (by omega),aDQ hp (by omega),Option.bind_some,Option.bind_some,aNQ hN hk hx,dG hx (by omega),aGk]
   ·unfold mI
    simp only
    rw [nV (Nat.le_refl _),cond_false]
    congr 2
    exact dC fun a b ha hb=>by simp only [wN];rw [if_pos hb]
  ·congr 1
  ·unfold mH
   simp only
   rw [kN hx,cond_true,atT hN hk hx,Option.bind_some,atT hN hrm hx,Option.bind_some,Option.bind_some,aNQ hN hk hx,atT hN hrm hx,Option.bind_some,aNQ hN hrm hx,aBb,aBb,dG hx (by omega),aIM]
  ·unfold mH
   simp only
   rw [nV (Nat.le_refl _),cond_false]
   congr 2
   exact dC fun a b ha hb=>by simp only [aAL];rw [if_pos hb]
theorem aJO {p:Int} {m n:Nat} {F:Nat→Nat→Int} (T:Tb p m n F):kC p ⟨m,n,dH m n F⟩=some (⟨m,n,dH m n (dB p m F n).1⟩,tD (dB p m F n).2):=by
 have hN:=T.hN
 have hn:=T.hn
 unfold kC yT
 simp only
 rw [gY,decide_eq_true (by simp;omega),cond_true,Option.bind_some]
 simp only [List.nil_append]
 obtain ⟨r,h1,h2⟩: ∃ r,Lp (eW p ⟨m,n,dH m n F⟩) (0,dH m n F,[],0)=some r∧r=(dH m n (dB p m F n).1,tD (dB p m F n).2):=by
  refine aMS (fun s=> ∃ j:Nat,j≤n∧s=((j:Int),dH m n (dB p m F j).1,tD (dB p m F j).2,((dB p m F j).2.length:Int))) (fun s=>n - s.1.toNat) _ ⟨0,Nat.zero_le _,by simp [dB,tD]⟩ ?_
  rintro s ⟨j,hj,rfl⟩
  rcases Nat.lt_or_ge j n with hlt|hge
  ·have hlen:= @tB p m F j
   rcases Nat.lt_or_ge (dB p m F j).2.length m with hl|hl
   ·refine .inl ⟨_,aPq ⟨T.hp,T.hN,T.hm,T.hn,qR (by have:=gF T.hp;omega) T.hi j⟩ hlt _ hl _,⟨j+1,hlt,rfl⟩,?_⟩
    simp;omega
   ·refine .inr ⟨_,?_,rfl⟩
    unfold eW
    simp only
    have e:=aGi (p:=p) (F:=F) (j:=j) (by omega:(dB p m F j).2.length=m) (n - j)
    rw [show j+(n - j)=n by omega] at e
    rw [kN hlt,cond_true,nV hl,cond_false,e]
  ·have e:j=n:=by omega
   subst e
   refine .inr ⟨_,?_,rfl⟩
   unfold eW
   simp only
   rw [nV (Nat.le_refl _),cond_false]
 rw [h1,h2,Option.bind_some]
end
noncomputable section
set_option maxRecDepth 10000
set_option maxHeartbeats 4000000
def jS (v1:Mt) (v3:(List Int)) (x1:((List Int)×Int)) (x2:((List Int)×Int)):Option (((List Int)×Int) ⊕ (List Int)):=
 bif decide (x2.2<(v3.length:Int)) then
 (Option.bind (dV v3 x2.2) fun v5=>
 Option.bind (dV x2.1 (wr ((wr (x2.2*v1.cols))+x1.2))) fun v6=>
 some (.inl ((x2.1.set ((wr ((wr (x2.2*v1.cols))+x1.2)).toNat) v5),wr (x2.2+1))))
 else
 (some (.inr x2.1))
def jT (a1:(List (List Int))) (v1:Mt) (x1:((List Int)×Int)):Option (((List Int)×Int) ⊕ (List Int)):=
 bif decide (x1.2<(a1.length:Int)) then
 (Option.bind (dV a1 x1.2) fun v3=>
 Option.bind (Lp (jS v1 v3 x1) (x1.1,0)) fun y7=>
 some (.inl (y7,wr (x1.2+1))))
 else
 (some (.inr x1.1))
def jH (a0:Int) (a1:(List (List Int))):Option Mt:=
 Option.bind (tC a0 (a1.length:Int)) fun v1=>
 Option.bind (Lp (jT a1 v1) (v1.cells,0)) fun y8=>
 some ((⟨v1.rows,v1.cols,y8⟩:Mt))
theorem aCP (a0:Int) (a1:(List (List Int))) (r:Mt) (h:jH a0 a1=some r):HasC Tryz.prog 155 [.int a0,.list 1 (List.map (dA 1 eI) a1)] (.agg (eM r)):=by
 refine bK aA (rvs:=[.cell 4 113]) (ns:=[0,1,2,3,4]) Tryz.func155 k k Tryz.ntmps155 k k k<|sQ<|rg<|ae (bX aA k k) k<|an<|tn<|sQ<|rg<|am k k<|am k k ?_
 refine ae (dD aA k k k) k ?_
 obtain ⟨v1,hv1,h⟩:=ob h
 refine ae (AEff.conv (cR (x:= .agg [.int v1.rows,.int v1.cols,.own 1 0 (List.map eI v1.cells).length]) (nb:=[(1,⟨1,cX (List.map eI v1.cells)⟩)]) (aAs a0 (a1.length:Int) v1 hv1) k (by rfl) k k (bZ trivial (bZ trivial (bZ (eD.good _) gQ))) (aG (aI k) (aG (aI k) bA))) (v':= .agg [.int v1.rows,.int v1.cols,.own 1 0 v1.cells.length]) (ed':=[(1,some ⟨1,List.map (ow eI) v1.cells⟩)]) (by simp only [bD]) (eJ (nb':=[(1,⟨1,List.map (ow eI) v1.cells⟩)]) (by simp only [cT]))) k<|ae (bX aA k k) k<|ae (bP aA k k k k k k k k) k<|an<|tn<|sQ<|sQ<|rg<|am k k<|ae (dD aA k k k) k ?_
 refine am k k<|an<|tn<|aN ?_
 obtain ⟨y8,hy8,h⟩:=ob h
 refine cU (body:=(jT a1 v1)) hy8 (fun (x1:((List Int)×Int))=>bU [(4,.ptr 0 0 0),(5,.ptr 1 0 0),(14,.list 1 (List.map (dA 1 eI) a1)),(15,.int (a1.length:Int)),(16,.int x1.2)] [(0,⟨3,[[.int 0,.int 0,.nil 1]]⟩),(1,⟨3,[[.int v1.rows,.int v1.cols,.own 2 0 x1.1.length]]⟩),(2,⟨1,List.map (ow eI) x1.1⟩)] 3 [3,4]) (fun r e t=>e= .exit 0∧Ent t (bU [(4,.ptr 0 0 0),(5,.ptr 1 0 0)] [(0,⟨3,[[.int 0,.int 0,.nil 1]]⟩),(1,⟨3,[[.int v1.rows,.int v1.cols,.own 2 0 r.length]]⟩),(2,⟨1,List.map (ow eI) r⟩)] 3 [3,4])) (aE (σ:=sg [(0,0),(1,2),(2,1)]) ⟨(pE k k),(pE k k),⟨_,k,⟨k,k⟩⟩,(e1 k k),(e1 k k),trivial⟩ (hP k k k k<|hX ⟨_,k,k,.inr ⟨_,_,k,⟨_,_,k,k,⟨_,_,k,k,⟨_,_,k,⟨k,k,k,k⟩,k⟩⟩⟩,k⟩⟩ k<|hI k k k<|trivial) k) ?_ ?_
 ·intro x1 o h
  refine sQ<|rg<|ae (bC k k k) k<|an<|tn<|sQ ?_
  rcases cb h with ⟨q2,h⟩|⟨q2,h⟩
  ·refine aL k q2<|aT<|tn<|sQ<|aN<|sQ<|rg<|am k k ?_
   obtain ⟨v3,hv3,h⟩:=ob h
   refine ae (bH aA hv3 k k k k k k) k<|ae (aV aA k k k k k k) k<|aa k k<|aa k k<|an<|tn<|sQ<|rg<|am k k<|ae (dD aA k k k) k ?_
   refine am k k<|an<|tn<|aN ?_
   obtain ⟨y7,hy7,h⟩:=ob h
   refine cU (body:=(jS v1 v3 x1)) hy7 (fun (x2:((List Int)×Int))=>bU [(4,.ptr 0 0 0),(5,.ptr 1 0 0),(6,.int x1.2),(14,.list 1 (List.map (dA 1 eI) a1)),(15,.int (a1.length:Int)),(16,.int x1.2),(21,.list 1 (List.map eI v3)),(22,.int (v3.length:Int)),(23,.int x2.2)] [(0,⟨3,[[.int 0,.int 0,.nil 1]]⟩),(1,⟨3,[[.int v1.rows,.int v1.cols,.own 2 0 x2.1.length]]⟩),(2,⟨1,List.map (ow eI) x2.1⟩)] 3 [3,4]) (fun r e t=>e= .exit 2∧Ent t (bU [(4,.ptr 0 0 0),(5,.ptr 1 0 0),(14,.list 1 (List.map (dA 1 eI) a1)),(15,.int (a1.length:Int)),(16,.int x1.2)] [(0,⟨3,[[.int 0,.int 0,.nil 1]]⟩),(1,⟨3,[[.int v1.rows,.int v1.cols,.own 2 0 r.length]]⟩),(2,⟨1,List.map (ow eI) r⟩)] 3 [3,4])) (aE (σ:=sg [(0,0),(1,1),(2,2)]) ⟨(pE k k),(pE k k),(e1 k k),⟨_,k,⟨k,k⟩⟩,(e1 k k),(e1 k k),⟨_,k,⟨k,k⟩⟩,(e1 k k),(e1 k k),trivial⟩ (hP k k k k<|hX ⟨_,k,k,.inr ⟨_,_,k,⟨_,_,k,k,⟨_,_,k,k,⟨_,_,k,⟨k,k,k,k⟩,k⟩⟩⟩,k⟩⟩ k<|hI k k k<|trivial) k) ?_ ?_
   ·intro x2 o h
    refine sQ<|rg<|ae (bC k k k) k<|an<|tn<|sQ ?_
    rcases cb h with ⟨q4,h⟩|⟨q4,h⟩
    ·refine aL k q4<|aT<|tn<|sQ<|aN<|sQ<|rg<|am k k ?_
     obtain ⟨v5,hv5,h⟩:=ob h
     refine ae (bH aA hv5 k k k k k k) k<|ae (aV aA k k k k k k) k<|aa k k<|aa k k<|an<|tn<|rg<|ae (aD aA k k k k k k k) k<|ae (aC aA k k k k k k k) k<|am k k ?_
     refine ae (aD aA k k k k k k k) k<|ae (aC aA k k k k k k k) k<|ae (fP k k) k<|am k k<|ae (bV k k) k<|am k k ?_
     obtain ⟨v6,hv6,h⟩:=ob h
     refine ae (cY aA (eU hv6) (eV hv6) k k k k k k k) k<|ae (iI aA tG (u:=v5) (dO hv6) k k k k k k) k<|an<|bE<|tn<|aO (t:=bU [(4,.ptr 0 0 0),(5,.ptr 1 0 0),(6,.int x1.2),(14,.list 1 (List.map (dA 1 eI) a1)),(15,.int (a1.length:Int)),(16,.int x1.2),(21,.list 1 (List.map eI v3)),(22,.int (v3.length:Int)),(23,.int x2.2)] [(0,⟨3,[[.int 0,.int 0,.nil 1]]⟩),(1,⟨3,[[.int v1.rows,.int v1.cols,.own 2 0 ((x2.1.set ((wr ((wr (x2.2*v1.cols))+x1.2)).toNat) v5).length)]]⟩),(2,⟨1,List.map (ow eI) (x2.1.set ((wr ((wr (x2.2*v1.cols))+x1.2)).toNat) v5)⟩)] 3 [3,4]) (aE (σ:=sg [(0,0),(1,1),(2,2)]) ⟨(pE k k),(pE k k),(e1 k k),⟨_,k,⟨k,k⟩⟩,(e1 k k),(e1 k k),⟨_,k,⟨k,k⟩⟩,(e1 k k),(e1 k k),trivial⟩ (hP k k k k<|hX ⟨_,k,k,.inr ⟨_,_,k,⟨_,_,k,k,⟨_,_,k,k,⟨_,_,k,⟨k,k,(by simp only [bD,lA,lT,lR,lC,lN]),k⟩,k⟩⟩⟩,k⟩⟩ k<|hI k k k<|trivial) k)<|rg<|ae (bV k k) k<|am k k<|an ?_
     refine tn ?_
     obtain rfl:=so h
     exact ⟨_,k,(aE (σ:=sg [(0,0),(1,1),(2,2)]) ⟨(pE k k),(pE k k),(e1 k k),⟨_,k,⟨k,k⟩⟩,(e1 k k),(e1 k k),⟨_,k,⟨k,k⟩⟩,(e1 k k),(e1 k k),trivial⟩ (hP k k k k<|hX ⟨_,k,k,.inr ⟨_,_,k,⟨_,_,k,k,⟨_,_,k,k,⟨_,_,k,⟨k,k,k,k⟩,k⟩⟩⟩,k⟩⟩ k<|hI k k k<|trivial) k)⟩
    ·refine aS k q4<|bG<|aH<|aH ?_
     obtain rfl:=so h
     exact ⟨_,k,k,(aE (σ:=sg [(0,0),(1,1),(2,2)]) ⟨(pE k k),(pE k k),⟨_,k,⟨k,k⟩⟩,(e1 k k),(e1 k k),trivial⟩ (hP k k k k<|hX ⟨_,k,k,.inr ⟨_,_,k,⟨_,_,k,k,⟨_,_,k,k,⟨_,_,k,⟨k,k,k,k⟩,k⟩⟩⟩,k⟩⟩ k<|hI k k k<|trivial) k)⟩
   ·rintro e t ⟨rfl,hent⟩
    refine aW<|bE<|tn<|aO hent<|rg<|ae (bV k k) k<|am k k<|an<|tn ?_
    obtain rfl:=so h
    exact ⟨_,k,(aE (σ:=sg [(0,0),(1,1),(2,2)]) ⟨(pE k k),(pE k k),⟨_,k,⟨k,k⟩⟩,(e1 k k),(e1 k k),trivial⟩ (hP k k k k<|hX ⟨_,k,k,.inr ⟨_,_,k,⟨_,_,k,k,⟨_,_,k,k,⟨_,_,k,⟨k,k,k,k⟩,k⟩⟩⟩,k⟩⟩ k<|hI k k k<|trivial) k)⟩
  ·refine aS k q2<|bG<|aH<|aH ?_
   obtain rfl:=so h
   exact ⟨_,k,k,(aE (σ:=sg [(0,0),(1,1),(2,2)]) ⟨(pE k k),(pE k k),trivial⟩ (hP k k k k<|hX ⟨_,k,k,.inr ⟨_,_,k,⟨_,_,k,k,⟨_,_,k,k,⟨_,_,k,⟨k,k,k,k⟩,k⟩⟩⟩,k⟩⟩ k<|hI k k k<|trivial) k)⟩
 ·rintro e t ⟨rfl,hent⟩
  refine aW<|tn<|aO hent<|sQ<|rg<|ae (aC aA k k k k k k k) k<|ae (bP aA k k k k k k k k) k<|an<|tn<|aP ?_
  obtain rfl:=so h
  exact aU k k k (qN (cD (k) (cD (k) (cD (iQ eD k k) gZ))))
end
noncomputable section
set_option maxRecDepth 10000
set_option maxHeartbeats 4000000
end
noncomputable section
def dN (r:Rp) (k:Nat):Nat:=(r.dims[k]?.getD 0).toNat
theorem aOf {r:Rp} (h:aDP r=true):kU r.p=true∧aEu r.q r.dims=true∧r.maps.length=r.q.src.length∧ ∀ k,k<r.maps.length→aBh r.p (r.maps[k]?.getD ⟨0,0,[]⟩)=true∧(r.maps[k]?.getD ⟨0,0,[]⟩).cols=r.dims[(r.q.src[k]?.getD 0).toNat]?.getD 0∧(r.maps[k]?.getD ⟨0,0,[]⟩).rows=r.dims[(r.q.tgt[k]?.getD 0).toNat]?.getD 0:=by
 unfold aDP at h
 simp only [Bool.and_eq_true,decide_eq_true_eq,pV] at h
 exact ⟨h.1,h.2.1,by omega,h.2.2.2⟩
theorem aKZ (c:Nat) (f:Nat→Nat→Int): ∀ n,((List.range n).map fun i=>lM c (f i)).flatten=dH n c f
 |0=>by simp [dH]
 |n+1=>by
  rw [List.range_succ,List.map_append,List.flatten_append,aKZ c f n]
  unfold dH
  rw [Nat.succ_mul,List.range_add,List.map_append]
  congr 1
  simp only [List.map_cons,List.map_nil,List.flatten_cons,List.flatten_nil,List.append_nil,List.map_map,lM]
  refine List.map_congr_left fun j hj=>?_
  have hj:=List.mem_range.1 hj
  simp only [Function.comp]
  rw [aGR hj,aGS hj]
theorem aIP {l:List (List Int)} (h: ∀ x∈l,x.length≤1024):l.flatten.length≤1024*l.length:=by
 induction l with
 |nil=>simp
 |cons x l ih=>
  have h1:=h x (by simp)
  have h2:=ih fun y hy=>h y (by simp [hy])
  simp only [List.flatten_cons,List.length_append,List.length_cons]
  omega
theorem wV {l:List (List Int)} {k:Nat} (hk:k<l.length):(l.take (k+1)).flatten=(l.take k).flatten++l[k]:=by
 rw [List.take_succ_eq_append_getElem hk,List.flatten_append];simp
theorem aOg {l:List (List Int)} (hl:l.length≤512) (h: ∀ x∈l,x.length≤1024):gW l=some l.flatten:=by
 have hb: ∀ k,(l.take k).flatten.length ≤1024*512:=fun k=>by
  have:=aIP (l:=l.take k) fun x hx=>h x (List.mem_of_mem_take hx)
  have h2:(l.take k).length ≤512:=by simp;omega
  omega
 unfold gW
 rw [fA (r:=(l.flatten.length:Int)) (fun k=>(((l.take k).flatten.length:Int),(k:Int))) l.length (by simp) (fun k hk=>?_) (fun _=>?_),Option.bind_some]
 ·have e:=hb l.length
  rw [List.take_length] at e
  unfold aLa
  rw [decide_eq_true (by omega),decide_eq_true (by omega:(l.flatten.length:Int)≤1048576),Bool.and_self,cond_true,Option.bind_some]
  rw [fA (r:=l.flatten) (fun k=>((l.take k).flatten,(k:Int))) l.length (by simp) (fun k hk=>?_) (fun _=>?_),Option.bind_some]
  ·unfold gC
   simp only
   have e2:=hb (k+1)
   rw [wV hk,List.length_append] at e2
   rw [kN hk,cond_true,gE hk,Option.bind_some,decide_eq_true (by omega),cond_true,dG hk (by omega),wV hk]
  ·unfold gC
   simp only
   rw [nV (Nat.le_refl _),cond_false,List.take_length]
 ·unfold gB
  simp only
  have e2:=hb (k+1)
  rw [wV hk,List.length_append] at e2
  rw [kN hk,cond_true,gE hk,Option.bind_some,eZ (x:=_+_) (by omega),decide_eq_false (by omega),cond_false,dG hk (by omega),wV hk,List.length_append,Int.natCast_add (List.take k l).flatten.length l[k].length]
 ·unfold gB
  simp only
  rw [nV (Nat.le_refl _),cond_false,List.take_length]
end
noncomputable section
open Go.ChangeShapes Go.WideShapes Go.ChangeAt Go.RowKit
theorem oI:xF Tryz.prog 3 (yR 1 eI):=aLX Tryz.underlying3
theorem oL:xF Tryz.prog 22 (yR 1 eL):=aDF Tryz.underlying22 (by decide) (by kernel_rfl) oI
theorem oQ:xF Tryz.prog 24 (yR 3 eQ):=by
 intro H enc w fuel cs d ps h hf
 obtain ⟨x0,T0,u0⟩:=nK Tryz.underlying24 h hf aGb (i:=0) (ft:=3) rfl (k:=1) (by kernel_rfl) oI
 obtain ⟨x1,T1,u1⟩:=nK Tryz.underlying24 h hf u0 (i:=1) (ft:=22) rfl (k:=1) (by kernel_rfl) oL
 obtain ⟨x2,T2,u2⟩:=nK Tryz.underlying24 h hf u1 (i:=2) (ft:=22) rfl (k:=1) (by kernel_rfl) oL
 exact ⟨⟨x0,x1,x2⟩,_,aGc Tryz.underlying24 h hf u2 (by kernel_rfl) _ rfl⟩
theorem oM:xF Tryz.prog 111 (yR 3 eM):=by
 intro H enc w fuel cs d ps h hf
 obtain ⟨x0,T0,u0⟩:=nK Tryz.underlying111 h hf aGb (i:=0) (ft:=3) rfl (k:=1) (by kernel_rfl) oI
 obtain ⟨x1,T1,u1⟩:=nK Tryz.underlying111 h hf u0 (i:=1) (ft:=3) rfl (k:=1) (by kernel_rfl) oI
 obtain ⟨x2,T2,u2⟩:=nK Tryz.underlying111 h hf u1 (i:=2) (ft:=22) rfl (k:=1) (by kernel_rfl) oL
 exact ⟨⟨x0,x1,x2⟩,_,aGc Tryz.underlying111 h hf u2 (by kernel_rfl) _ rfl⟩
theorem oMs:xF Tryz.prog 25 (yR 1 (fun l:List Mt=>[.list 3 (l.map eM)])):=aDF Tryz.underlying25 (by decide) (by kernel_rfl) oM
theorem oR:xF Tryz.prog 27 (yR 6 eR):=by
 intro H enc w fuel cs d ps h hf
 obtain ⟨x0,T0,u0⟩:=nK Tryz.underlying27 h hf aGb (i:=0) (ft:=3) rfl (k:=1) (by kernel_rfl) oI
 obtain ⟨x1,T1,u1⟩:=nK Tryz.underlying27 h hf u0 (i:=1) (ft:=24) rfl (k:=3) (by kernel_rfl) oQ
 obtain ⟨x2,T2,u2⟩:=nK Tryz.underlying27 h hf u1 (i:=2) (ft:=22) rfl (k:=1) (by kernel_rfl) oL
 obtain ⟨x3,T3,u3⟩:=nK Tryz.underlying27 h hf u2 (i:=3) (ft:=25) rfl (k:=1) (by kernel_rfl) oMs
 exact ⟨⟨x0,x1,x2,x3⟩,_,aGc Tryz.underlying27 h hf u3 (by kernel_rfl) _ rfl⟩
end
noncomputable section
theorem aMf {w:World} : ∀ {ds:List AV} {vs:List Value} {S:List Nat},RepVs w ds vs S→ ∀ d∈ds,∃ v S',RepD w d v S'
 | [],_,_,_,d,hd=>by cases hd
 |c::cs,vs,S,h,d,hd=>by
  simp only [RepVs] at h
  obtain ⟨v,r,S1,S2,_,_,h3,h4⟩:=h
  rcases List.mem_cons.1 hd with rfl|h'
  ·exact ⟨v,S1,h3⟩
  ·exact aMf h4 d h'
theorem aMg {w:World} {b:Nat} : ∀ {ds:List AV} {o:Nat} {S:List Nat},RepCs w b o ds S→ ∀ d∈ds,∃ v S',RepD w d v S'
 | [],_,_,_,d,hd=>by cases hd
 |c::cs,o,S,h,d,hd=>by
  simp only [RepCs] at h
  obtain ⟨v,S1,S2,_,_,_,_,h3,h4⟩:=h
  rcases List.mem_cons.1 hd with rfl|h'
  ·exact ⟨v,S1,h3⟩
  ·exact aMg h4 d h'
theorem aMh {w:World} {k b:Nat} : ∀ {es:List (List AV)} {o:Nat} {S:List Nat},RepEs w k b o es S→ ∀ cs∈es,∀ d∈cs,∃ v S',RepD w d v S'
 | [],_,_,_,cs,hc=>by cases hc
 |c::es,o,S,h,cs,hc=>by
  simp only [RepEs] at h
  obtain ⟨S1,S2,_,_,h3,h4⟩:=h
  rcases List.mem_cons.1 hc with rfl|h'
  ·exact aMg h3
  ·exact aMh h4 cs h'
theorem aMi {w:World} {k:Nat} {es:List (List AV)} {v:Value} {S:List Nat} (h:RepD w (.list k es) v S):es.length≤9223372036854775807∧ ∀ cs∈es,∀ d∈cs,∃ v S',RepD w d v S':=by
 unfold RepD at h
 obtain ⟨a,c,_,h2,h3,h4⟩:=h
 have hm:maxLen≤9223372036854775807:=by decide
 refine ⟨by omega,?_⟩
 rcases h4 with ⟨rfl,_⟩|⟨b,o,T,_,_,_,h5⟩
 ·intro cs hcs;cases hcs
 ·exact aMh h5
theorem aQN {w:World} {l:List Int} {v:Value} {S:List Nat} (h:RepD w (aIw l) v S):fI l:=by
 have:=(aMi (k:=1) (es:=List.map eI l) h).1
 rwa [List.length_map] at this
theorem aJP {w:World} {ds:List AV} (h: ∀ d∈ds,∃ v S',RepD w d v S') {l:List Int} (hl:aIw l∈ds):fI l:=by
 obtain ⟨v,S,h⟩:=h _ hl
 exact aQN h
theorem aOh {w:World} {ds:List AV} (h: ∀ d∈ds,∃ v S',RepD w d v S') {α:Type} {k:Nat} {e:α→List AV} {l:List α} (hl:AV.list k (l.map e)∈ds):fI l∧ ∀ x∈l,∀ d∈e x,∃ v S',RepD w d v S':=by
 obtain ⟨v,S,h⟩:=h _ hl
 have:=aMi h
 rw [List.length_map] at this
 exact ⟨this.1,fun x hx=>this.2 _ (List.mem_map.2 ⟨x,hx,rfl⟩)⟩
theorem aRL {w:World} {m:Mt} (h: ∀ d∈eM m,∃ v S',RepD w d v S'):fM m:=aJP h (by simp [eM])
theorem aQi {w:World} {l:List Mt} {ds:List AV} (h: ∀ d∈ds,∃ v S',RepD w d v S') (hl:AV.list 3 (l.map eM)∈ds):fMs l:=by
 obtain ⟨h1,h2⟩:=aOh h hl
 exact ⟨h1,fun m hm=>aRL (h2 m hm)⟩
theorem aRM {w:World} {r:Rp} (h: ∀ d∈eR r,∃ v S',RepD w d v S'):fR r:=⟨⟨aJP h (by simp [eR]),aJP h (by simp [eR])⟩,aJP h (by simp [eR]),aQi h (by simp [eR])⟩
theorem aOi {w0 w:World} {v:Value} {S:List Nat} (h:aLG w (.bl true) v S):Ending.returned v= .returned (.bool true):=by rw [h.1]
end
noncomputable section
set_option maxRecDepth 10000
set_option maxHeartbeats 4000000
end
noncomputable section
set_option maxRecDepth 10000
set_option maxHeartbeats 4000000
def rK (a0:Int) (a1:(List (List Int))):Option Mt:=
 Option.bind (gW a1) fun v1=>
 some ((⟨(a1.length:Int),a0,v1⟩:Mt))
theorem aFV (a0:Int) (a1:(List (List Int))) (r:Mt) (h:rK a0 a1=some r):HasC Tryz.prog 260 [.int a0,.list 1 (List.map (dA 1 eI) a1)] (.agg (eM r)):=by
 refine bK aA (rvs:=[.cell 4 113]) (ns:=[0,1,2,3]) Tryz.func260 k k Tryz.ntmps260 k k k<|sQ<|rg<|ae (bX aA k k) k<|an<|tn<|sQ<|rg<|am k k<|ae (dD aA k k k) k ?_
 refine am k k<|am k k ?_
 obtain ⟨v1,hv1,h⟩:=ob h
 refine ae (AEff.conv (cR (x:= .own 1 0 (List.map eI v1).length) (nb:=[(1,⟨1,cX (List.map eI v1)⟩)]) (yU a1 v1 hv1) k (by rfl) k k (eD.good _) (aG (aI k) bA)) (v':= .own 1 0 v1.length) (ed':=[(1,some ⟨1,List.map (ow eI) v1⟩)]) (by simp only [bD]) (eJ (nb':=[(1,⟨1,List.map (ow eI) v1⟩)]) (by simp only [cT]))) k<|ae (cQ aA k k k k k k) k<|ae (bP aA k k k k k k k k) k<|an<|tn<|aP ?_
 obtain rfl:=so h
 exact aU k k k (qN (cD (k) (cD (k) (cD (iQ eD k k) gZ))))
def tZ (v2:(Mt×(List Int))) (x1:((List (List Int))×Int)):Option (((List (List Int))×Int) ⊕ (List (List Int))):=
 bif decide (x1.2<((v2.2.length:Nat):Int)) then
 (Option.bind (dM v2.1 x1.2) fun v4=>
 Option.bind (tP ((v2.1.cells.drop (0+(wr (x1.2*v2.1.cols)).toNat)).take ((wr ((wr (x1.2+1))*v2.1.cols)).toNat - (wr (x1.2*v2.1.cols)).toNat))) fun v5=>
 bif decide (x1.1.length+1≤4294967296) then
 (some (.inl ((x1.1++[v5]),wr (x1.2+1))))
 else none)
 else
 (some (.inr x1.1))
def vO (a0:Int) (a1:Int) (a2:(List (List Int))):Option Sc:=
 Option.bind (rK a1 a2) fun v1=>
 Option.bind (vI a0 v1) fun v2=>
 Option.bind (Lp (tZ v2) ([],0)) fun y7=>
 some ((⟨a1,y7⟩:Sc))
theorem aEv (a0:Int) (a1:Int) (a2:(List (List Int))) (r:Sc) (h:vO a0 a1 a2=some r):HasC Tryz.prog 233 [.int a0,.int a1,.list 1 (List.map (dA 1 eI) a2)] (.agg (eS r)):=by
 refine bK aA (rvs:=[.cell 6 99]) (ns:=[0,1,2,3,4,5,6,7,8]) Tryz.func233 k k Tryz.ntmps233 k k k<|sQ<|rg<|ae (bX aA k k) k<|an<|tn<|sQ<|rg<|am k k<|am k k ?_
 refine am k k ?_
 obtain ⟨v1,hv1,h⟩:=ob h
 refine ae (AEff.conv (cR (x:= .agg [.int v1.rows,.int v1.cols,.own 1 0 (List.map eI v1.cells).length]) (nb:=[(1,⟨1,cX (List.map eI v1.cells)⟩)]) (aFV a1 a2 v1 hv1) k (by rfl) k k (bZ trivial (bZ trivial (bZ (eD.good _) gQ))) (aG (aI k) (aG (aI k) bA))) (v':= .agg [.int v1.rows,.int v1.cols,.own 1 0 v1.cells.length]) (ed':=[(1,some ⟨1,List.map (ow eI) v1.cells⟩)]) (by simp only [bD]) (eJ (nb':=[(1,⟨1,List.map (ow eI) v1.cells⟩)]) (by simp only [cT]))) k ?_
 obtain ⟨v2,hv2,h⟩:=ob h
 refine ae (AEff.conv (cR (x:= .tuple [.agg [.int v2.1.rows,.int v2.1.cols,.own 2 0 (List.map eI v2.1.cells).length],.own 3 0 (List.map eI v2.2).length]) (nb:=[(2,⟨1,cX (List.map eI v2.1.cells)⟩),(3,⟨1,cX (List.map eI v2.2)⟩)]) (aHU a0 v1 v2 hv2) k (by rfl) k k (kW (bZ trivial (bZ trivial (bZ (eD.good _) gQ))) (kW (eD.good _) aAp)) (aG (aI k) (aG (cA (aM (aQ k) (aM (aQ k) (aM (tK eD k k) cF)))) bA))) (v':= .tuple [.agg [.int v2.1.rows,.int v2.1.cols,.own 2 0 v2.1.cells.length],.own 3 0 v2.2.length]) (ed':=[(2,some ⟨1,List.map (ow eI) v2.1.cells⟩),(3,some ⟨1,List.map (ow eI) v2.2⟩)]) (by simp only [bD]) (eJ (nb':=[(2,⟨1,List.map (ow eI) v2.1.cells⟩),(3,⟨1,List.map (ow eI) v2.2⟩)]) (by simp only [cT]))) k<|am k k<|ae (bO k k (by intro _ h;cases h)) k<|ae (bO k k (by intro _ h;cases h)) k<|ae (bX aA k k) k<|ae (bP aA k k k k k k k k) k<|aa k k<|an<|tn<|aO (t:=bU [(1,.int a1),(6,.ptr 0 0 0),(7,.ptr 4 0 0),(8,.own 3 0 v2.2.length)] [(0,⟨2,[[.int 0,.nil 1]]⟩),(2,⟨1,List.map (ow eI) v2.1.cells⟩),(3,⟨1,List.map (ow eI) v2.2⟩),(4,⟨3,[[.int v2.1.rows,.int v2.1.cols,.own 2 0 v2.1.cells.length]]⟩)] 5 [5,6,7,8]) (aE (σ:=sg [(0,0),(2,2),(3,3),(4,4)]) ⟨(e1 k k),(pE k k),(pE k k),(oE k k),trivial⟩ (hP k k k k<|hI k k k<|hI k k k<|hX ⟨_,k,k,.inr ⟨_,_,k,⟨_,_,k,k,⟨_,_,k,k,⟨_,_,k,⟨k,k,k,k⟩,k⟩⟩⟩,k⟩⟩ k<|trivial) k) ?_
 refine sQ<|rg<|aa k k<|an<|tn<|sQ<|sQ<|rg<|am k k<|ae (bW aA k k k k) k ?_
 refine am k k<|an<|tn<|aN ?_
 obtain ⟨y7,hy7,h⟩:=ob h
 refine cU (body:=(tZ v2)) hy7 (fun (x1:((List (List Int))×Int))=>bU [(1,.int a1),(6,.ptr 0 0 0),(7,.ptr 1 0 0),(9,.own 3 0 x1.1.length),(20,.int ((v2.2.length:Nat):Int)),(21,.int x1.2)] [(0,⟨2,[[.int 0,.nil 1]]⟩),(1,⟨3,[[.int v2.1.rows,.int v2.1.cols,.own 2 0 v2.1.cells.length]]⟩),(2,⟨1,List.map (ow eI) v2.1.cells⟩),(3,⟨1,List.map (ow (dA 1 eI)) x1.1⟩)] 4 [4,5,6,7,8]) (fun r e t=>e= .exit 0∧Ent t (bU [(1,.int a1),(6,.ptr 0 0 0),(9,.own 1 0 r.length)] [(0,⟨2,[[.int 0,.nil 1]]⟩),(1,⟨1,List.map (ow (dA 1 eI)) r⟩)] 2 [2,3,4,5,6,7,8])) (aE (σ:=sg [(0,0),(1,4),(2,2)]) ⟨(e1 k k),(pE k k),(pE k k),⟨_,k,⟨k,k,k,k⟩⟩,(e1 k k),(e1 k k),trivial⟩ (hP k k k k<|hX ⟨_,k,k,.inr ⟨_,_,k,⟨_,_,k,k,⟨_,_,k,k,⟨_,_,k,⟨k,k,k,k⟩,k⟩⟩⟩,k⟩⟩ k<|hI k k k<|hX k k<|trivial) k) ?_ ?_
 ·intro x1 o h
  refine sQ<|rg<|ae (bC k k k) k<|an<|tn<|sQ ?_
  rcases cb h with ⟨q3,h⟩|⟨q3,h⟩
  ·refine aL k q3<|aT<|tn<|sQ<|aN<|sQ<|rg<|am k k<|aa k k<|an ?_
   refine tn<|rg<|am k k<|ae (aC aA k k k k k k k) k<|am k k ?_
   obtain ⟨v4,hv4,h⟩:=ob h
   refine ae (AEff.pureE (lG (σ:=sg [(0,2)]) (σ':=sg [(2,0)]) (touch:=[2]) (news:=[]) (hl2:=[(2,⟨1,List.map (ow eI) v2.1.cells⟩)]) (n':=4) (r2:= .own 2 (0+(wr (x1.2*v2.1.cols)).toNat) ((wr ((wr (x1.2+1))*v2.1.cols)).toNat - (wr (x1.2*v2.1.cols)).toNat)) (eK v2.1 x1.2 v4 hv4) k k ⟨_,_,k,⟨_,_,k,k,⟨_,_,k,k,⟨_,_,k,⟨k,k,k,k⟩,k⟩⟩⟩,⟨_,_,k,k,k⟩⟩ ⟨⟨_,k,k,.inl ⟨k,eD.plainO _⟩⟩,k,trivial⟩ k k k ⟨⟨_,k,k,.inl ⟨k,eD.plainO _⟩⟩,k,trivial⟩ k ⟨k,k,(by simp only [bD,lA,lT,lR,lC,lN]),k⟩ k ⟨k,eD.tame _ _,trivial⟩ k k) ⟨k,k,trivial⟩) k ?_
   obtain ⟨v5,hv5,h⟩:=ob h
   refine ae (AEff.conv (cR (x:= .own 4 0 (List.map eI v5).length) (nb:=[(4,⟨1,cX (List.map eI v5)⟩)]) (aDG ((v2.1.cells.drop (0+(wr (x1.2*v2.1.cols)).toNat)).take ((wr ((wr (x1.2+1))*v2.1.cols)).toNat - (wr (x1.2*v2.1.cols)).toNat)) v5 hv5) k (by rfl) k k (eD.good _) (aG (aPg eD k) bA)) (v':= .own 4 0 v5.length) (ed':=[(4,some ⟨1,List.map (ow eI) v5⟩)]) (by simp only [bD]) (eJ (nb':=[(4,⟨1,List.map (ow eI) v5⟩)]) (by simp only [cT]))) k<|ae (cS aA k k k k k k k k k k k k) k ?_
   obtain ⟨q6,h⟩:=cg h
   refine ae (tN aA (l:=x1.1) (c:=[.own 4 0 v5.length]) q6 k k k k k k k k k k k k k k) k<|aa k k<|an<|bE<|tn<|aO (t:=bU [(1,.int a1),(6,.ptr 0 0 0),(7,.ptr 1 0 0),(9,.own 6 0 ((x1.1++[v5]).length)),(20,.int ((v2.2.length:Nat):Int)),(21,.int x1.2)] [(0,⟨2,[[.int 0,.nil 1]]⟩),(1,⟨3,[[.int v2.1.rows,.int v2.1.cols,.own 2 0 v2.1.cells.length]]⟩),(2,⟨1,List.map (ow eI) v2.1.cells⟩),(6,⟨1,List.map (ow (dA 1 eI)) (x1.1++[v5])⟩)] 7 [7,8]) (Ent.trans (tL (b:=6) (b':=4) (j:=0) (es':=List.map eI v5) k k k k (bD _ _) (eD.frzs _)) (aE (σ:=sg [(0,0),(1,1),(2,2),(6,6)]) ⟨(e1 k k),(pE k k),(pE k k),⟨_,k,⟨k,k,(by simp only [bD,lA,lT,lR,lC,lN]),k⟩⟩,(e1 k k),(e1 k k),trivial⟩ (hP k k k k<|hX ⟨_,k,k,.inr ⟨_,_,k,⟨_,_,k,k,⟨_,_,k,k,⟨_,_,k,⟨k,k,k,k⟩,k⟩⟩⟩,k⟩⟩ k<|hI k k k<|hX ⟨_,k,k,.inl ⟨yQ v5 k,cI.plainO _⟩⟩ k<|trivial) k))<|rg<|ae (bV k k) k<|am k k<|an ?_
   refine tn ?_
   obtain rfl:=so h
   exact ⟨_,k,(aE (σ:=sg [(0,0),(1,1),(2,2),(3,6)]) ⟨(e1 k k),(pE k k),(pE k k),(oE k k),(e1 k k),(e1 k k),trivial⟩ (hP k k k k<|hX ⟨_,k,k,.inr ⟨_,_,k,⟨_,_,k,k,⟨_,_,k,k,⟨_,_,k,⟨k,k,k,k⟩,k⟩⟩⟩,k⟩⟩ k<|hI k k k<|hB (cI.plainO _) k k k<|trivial) k)⟩
  ·refine aS k q3<|bG<|aH<|aH ?_
   obtain rfl:=so h
   exact ⟨_,k,k,(aE (σ:=sg [(0,0),(1,3)]) ⟨(e1 k k),(pE k k),(oE k k),trivial⟩ (hP k k k k<|hB (cI.plainO _) k k k<|trivial) k)⟩
 ·rintro e t ⟨rfl,hent⟩
  refine aW<|tn<|aO hent<|sQ<|rg<|am k k<|am k k<|ae (cQ aA k k k k k k) k<|ae (bP aA k k k k k k k k) k<|an ?_
  refine tn<|aP ?_
  obtain rfl:=so h
  exact aU k k k (qN (cD (k) (cD (iQ cI k k) gZ)))
def qG (a1:(List (List Int))) (x1:((List Int)×Int)):Option (((List Int)×Int) ⊕ (List Int)):=
 bif decide (x1.2<(a1.length:Int)) then
 (Option.bind (dV a1 x1.2) fun v2=>
 bif decide (x1.1.length+v2.length≤4294967296) then
 (some (.inl ((x1.1++v2),wr (x1.2+1))))
 else none)
 else
 (some (.inr x1.1))
def kQ (a0:Int) (a1:(List (List Int))):Option Mt:=
 Option.bind (Lp (qG a1) ([],0)) fun y4=>
 some ((⟨(a1.length:Int),a0,y4⟩:Mt))
theorem aBv (a0:Int) (a1:(List (List Int))) (r:Mt) (h:kQ a0 a1=some r):HasC Tryz.prog 157 [.int a0,.list 1 (List.map (dA 1 eI) a1)] (.agg (eM r)):=by
 refine bK aA (rvs:=[.cell 4 113]) (ns:=[0,1,2,3,4,5]) Tryz.func157 k k Tryz.ntmps157 k k k<|sQ<|rg<|ae (bX aA k k) k<|an<|tn<|sQ<|rg<|am k k<|ae (dD aA k k k) k ?_
 refine am k k<|ae (cQ aA k k k k k k) k<|ae (bX aA k k) k<|ae (bP aA k k k k k k k k) k<|an<|tn<|sQ<|sQ<|rg<|aa k k ?_
 refine an<|tn<|aN ?_
 obtain ⟨y4,hy4,h⟩:=ob h
 refine cU (body:=(qG a1)) hy4 (fun (x1:((List Int)×Int))=>bU [(1,.list 1 (List.map (dA 1 eI) a1)),(4,.ptr 0 0 0),(5,.ptr 1 0 0),(6,.int x1.2)] [(0,⟨3,[[.int 0,.int 0,.nil 1]]⟩),(1,⟨3,[[.int (a1.length:Int),.int a0,.own 2 0 x1.1.length]]⟩),(2,⟨1,List.map (ow eI) x1.1⟩)] 3 [3,4,5]) (fun r e t=>e= .exit 0∧Ent t (bU [(4,.ptr 0 0 0),(5,.ptr 1 0 0)] [(0,⟨3,[[.int 0,.int 0,.nil 1]]⟩),(1,⟨3,[[.int (a1.length:Int),.int a0,.own 2 0 r.length]]⟩),(2,⟨1,List.map (ow eI) r⟩)] 3 [3,4,5])) (aE (σ:=sg [(0,0),(1,1)]) ⟨⟨_,k,⟨k,k⟩⟩,(pE k k),(pE k k),(e1 k k),trivial⟩ (hP k k k k<|hX ⟨_,k,k,.inr ⟨_,_,k,⟨_,_,k,k,⟨_,_,k,k,⟨_,_,k,⟨k,k,k,k⟩,k⟩⟩⟩,k⟩⟩ k<|hX k k<|trivial) k) ?_ ?_
 ·intro x1 o h
  refine sQ<|sQ<|rg<|am k k<|am k k<|ae (dD aA k k k) k<|ae (bC k k k) k<|an<|tn ?_
  rcases cb h with ⟨q1,h⟩|⟨q1,h⟩
  ·refine aL k q1<|aT<|tn<|sQ<|aN<|aY jW<|ae (aD aA k k k k k k k) k<|ae (aC aA k k k k k k k) k<|am k k<|am k k ?_
   obtain ⟨v2,hv2,h⟩:=ob h
   refine ae (bH aA hv2 k k k k k k) k<|ae (aV aA k k k k k k) k ?_
   obtain ⟨q3,h⟩:=cg h
   refine ae (uN aA (l:=x1.1) (m:=v2) tG q3 k k k k k k k k k k k k) k<|ae (aD aA k k k k k k k) k<|ae (bP aA k k k k k k k k) k<|an ?_
   refine ⟨by kernel_rfl,?_⟩
   refine bE<|tn<|aO (t:=bU [(1,.list 1 (List.map (dA 1 eI) a1)),(4,.ptr 0 0 0),(5,.ptr 1 0 0),(6,.int x1.2)] [(0,⟨3,[[.int 0,.int 0,.nil 1]]⟩),(1,⟨3,[[.int (a1.length:Int),.int a0,.own 3 0 ((x1.1++v2).length)]]⟩),(3,⟨1,List.map (ow eI) (x1.1++v2)⟩)] 4 [4,5]) (aE (σ:=sg [(0,0),(1,1),(3,3)]) ⟨⟨_,k,⟨k,k⟩⟩,(pE k k),(pE k k),(e1 k k),trivial⟩ (hP k k k k<|hX ⟨_,k,k,.inr ⟨_,_,k,⟨_,_,k,k,⟨_,_,k,k,⟨_,_,k,⟨k,k,k,k⟩,k⟩⟩⟩,k⟩⟩ k<|hI k k k<|trivial) k)<|rg<|am k k<|ae (bV k k) k<|aa k k<|an<|tn ?_
   obtain rfl:=so h
   exact ⟨_,k,(aE (σ:=sg [(0,0),(1,1),(2,3)]) ⟨⟨_,k,⟨k,k⟩⟩,(pE k k),(pE k k),(e1 k k),trivial⟩ (hP k k k k<|hX ⟨_,k,k,.inr ⟨_,_,k,⟨_,_,k,k,⟨_,_,k,k,⟨_,_,k,⟨k,k,k,k⟩,k⟩⟩⟩,k⟩⟩ k<|hI k k k<|trivial) k)⟩
  ·refine aS k q1<|bG<|aH<|aH ?_
   obtain rfl:=so h
   exact ⟨_,k,k,(aE (σ:=sg [(0,0),(1,1),(2,2)]) ⟨(pE k k),(pE k k),trivial⟩ (hP k k k k<|hX ⟨_,k,k,.inr ⟨_,_,k,⟨_,_,k,k,⟨_,_,k,k,⟨_,_,k,⟨k,k,k,k⟩,k⟩⟩⟩,k⟩⟩ k<|hI k k k<|trivial) k)⟩
 ·rintro e t ⟨rfl,hent⟩
  refine aW<|tn<|aO hent<|sQ<|rg<|ae (aC aA k k k k k k k) k<|ae (bP aA k k k k k k k k) k<|an<|tn<|aP ?_
  obtain rfl:=so h
  exact aU k k k (qN (cD (k) (cD (k) (cD (iQ eD k k) gZ))))
def nZ (v1:(Mt×(List Int))) (x1:((List (List Int))×Int)):Option (((List (List Int))×Int) ⊕ (List (List Int))):=
 bif decide (x1.2<((v1.2.length:Nat):Int)) then
 (bif (decide (0≤wr (x1.2*v1.1.cols))&&(decide (wr (x1.2*v1.1.cols)≤wr ((wr (x1.2*v1.1.cols))+v1.1.cols))&&decide (wr ((wr (x1.2*v1.1.cols))+v1.1.cols)≤((v1.1.cells.length:Nat):Int)))) then
 (bif decide (([]:(List Int)).length +((v1.1.cells.drop (0+(wr (x1.2*v1.1.cols)).toNat)).take ((wr ((wr (x1.2*v1.1.cols))+v1.1.cols)).toNat - (wr (x1.2*v1.1.cols)).toNat)).length ≤4294967296) then
 (bif decide (x1.1.length+1≤4294967296) then
 (some (.inl ((x1.1++[(([]:(List Int))++((v1.1.cells.drop (0+(wr (x1.2*v1.1.cols)).toNat)).take ((wr ((wr (x1.2*v1.1.cols))+v1.1.cols)).toNat - (wr (x1.2*v1.1.cols)).toNat)))]),wr (x1.2+1))))
 else none)
 else none)
 else none)
 else
 (some (.inr x1.1))
def jI (a0:Int) (a1:Mt):Option (List (List Int)):=
 Option.bind (kC a0 a1) fun v1=>
 Option.bind (Lp (nZ v1) (([]:(List (List Int))),0)) fun y6=>
 some (y6)
theorem aAw (a0:Int) (a1:Mt) (r:(List (List Int))) (h:jI a0 a1=some r):HasC Tryz.prog 182 [.int a0,.agg (eM a1)] (.list 1 (List.map (dA 1 eI) r)):=by
 refine bK aA (rvs:=[.tmp 4]) (ns:=[0,1,2,3,4,5,6,7,8,9]) Tryz.func182 k k Tryz.ntmps182 k k k<|sQ<|rg<|ae (cC k k k k) k<|aa k k<|an<|tn<|sQ<|rg<|am k k ?_
 refine ae (aC aA k k k k k k k) k ?_
 obtain ⟨v1,hv1,h⟩:=ob h
 refine ae (AEff.conv (cR (x:= .tuple [.agg [.int v1.1.rows,.int v1.1.cols,.own 1 0 (List.map eI v1.1.cells).length],.own 2 0 (List.map eI v1.2).length]) (nb:=[(1,⟨1,cX (List.map eI v1.1.cells)⟩),(2,⟨1,cX (List.map eI v1.2)⟩)]) (aFJ a0 a1 v1 hv1) k (by rfl) k k (kW (bZ trivial (bZ trivial (bZ (eD.good _) gQ))) (kW (eD.good _) aAp)) (aG (aI k) (aG (cA (aM (aQ k) (aM (aQ k) (aM (aQ k) cF)))) bA))) (v':= .tuple [.agg [.int v1.1.rows,.int v1.1.cols,.own 1 0 v1.1.cells.length],.own 2 0 v1.2.length]) (ed':=[(1,some ⟨1,List.map (ow eI) v1.1.cells⟩),(2,some ⟨1,List.map (ow eI) v1.2⟩)]) (by simp only [bD]) (eJ (nb':=[(1,⟨1,List.map (ow eI) v1.1.cells⟩),(2,⟨1,List.map (ow eI) v1.2⟩)]) (by simp only [cT]))) k<|am k k<|ae (bO k k (by intro _ h;cases h)) k<|ae (bO k k (by intro _ h;cases h)) k<|ae (bX aA k k) k<|ae (bP aA k k k k k k k k) k<|aa k k<|an<|tn<|sQ ?_
 refine rg<|ae (cS aA k k k k k k k k k k k k) k<|aa k k<|an<|tn<|aO (t:=bU [(5,.ptr 3 0 0),(6,.own 2 0 v1.2.length),(7,.own 4 0 (([]:(List (List Int))).length))] [(1,⟨1,List.map (ow eI) v1.1.cells⟩),(2,⟨1,List.map (ow eI) v1.2⟩),(3,⟨3,[[.int v1.1.rows,.int v1.1.cols,.own 1 0 v1.1.cells.length]]⟩),(4,⟨1,List.map (ow (dA 1 eI)) ([]:(List (List Int)))⟩)] 5 [5,6,7,8,9]) (aE (σ:=sg [(1,1),(2,2),(3,3),(4,4)]) ⟨(pE k k),(oE k k),⟨_,k,⟨k,k,(by simp only [bD,lA,lT,lR,lC,lN]),k⟩⟩,trivial⟩ (hI k k k<|hI k k k<|hX ⟨_,k,k,.inr ⟨_,_,k,⟨_,_,k,k,⟨_,_,k,k,⟨_,_,k,⟨k,k,k,k⟩,k⟩⟩⟩,k⟩⟩ k<|hB (cI.plainO _) k k k<|trivial) k)<|sQ<|sQ<|rg<|aa k k ?_
 refine an<|tn<|aN ?_
 obtain ⟨y6,hy6,h⟩:=ob h
 refine cU (body:=(nZ v1)) hy6 (fun (x1:((List (List Int))×Int))=>bU [(5,.ptr 0 0 0),(6,.own 2 0 v1.2.length),(7,.own 3 0 x1.1.length),(8,.int x1.2)] [(0,⟨3,[[.int v1.1.rows,.int v1.1.cols,.own 1 0 v1.1.cells.length]]⟩),(1,⟨1,List.map (ow eI) v1.1.cells⟩),(2,⟨1,List.map (ow eI) v1.2⟩),(3,⟨1,List.map (ow (dA 1 eI)) x1.1⟩)] 4 [4,5,6,7,8,9]) (fun r e t=>e= .exit 0∧Ent t (bU [(7,.own 0 0 r.length)] [(0,⟨1,List.map (ow (dA 1 eI)) r⟩)] 1 [1,2,3,4,5,6,7,8,9])) (aE (σ:=sg [(0,3),(1,1),(2,2),(3,4)]) ⟨(pE k k),(oE k k),(oE k k),(e1 k k),trivial⟩ (hX ⟨_,k,k,.inr ⟨_,_,k,⟨_,_,k,k,⟨_,_,k,k,⟨_,_,k,⟨k,k,k,k⟩,k⟩⟩⟩,k⟩⟩ k<|hI k k k<|hI k k k<|hB (cI.plainO _) k k k<|trivial) k) ?_ ?_
 ·intro x1 o h
  refine sQ<|sQ<|rg<|am k k<|am k k<|ae (bW aA k k k k) k<|ae (bC k k k) k<|an<|tn ?_
  rcases cb h with ⟨q2,h⟩|⟨q2,h⟩
  ·refine aL k q2<|aT<|tn<|sQ<|aN<|rg<|am k k<|ae (cS aA k k k k k k k k k k k k) k<|ae (aD aA k k k k k k k) k<|ae (aC aA k k k k k k k) k ?_
   refine am k k<|ae (aD aA k k k k k k k) k<|ae (aC aA k k k k k k k) k<|ae (fP k k) k<|am k k<|ae (aD aA k k k k k k k) k<|ae (aC aA k k k k k k k) k<|ae (fP k k) k<|ae (aD aA k k k k k k k) k<|ae (aC aA k k k k k k k) k ?_
   refine ae (bV k k) k ?_
   obtain ⟨q3,h⟩:=cg h
   refine ae (yF aA (l:=wr (x1.2*v1.1.cols)) (h:=wr ((wr (x1.2*v1.1.cols))+v1.1.cols)) q3 k k k k k k k k) k ?_
   obtain ⟨q4,h⟩:=cg h
   refine ae (uN aA (l:=([]:(List Int))) (m:=((v1.1.cells.drop (0+(wr (x1.2*v1.1.cols)).toNat)).take ((wr ((wr (x1.2*v1.1.cols))+v1.1.cols)).toNat - (wr (x1.2*v1.1.cols)).toNat))) tG q4 k k k k k (aOY eD k) k k k k k k) k<|ae (cS aA k k k k k k k k k k k k) k ?_
   obtain ⟨q5,h⟩:=cg h
   refine ae (tN aA (l:=x1.1) (c:=[.own 5 0 ((([]:(List Int))++((v1.1.cells.drop (0+(wr (x1.2*v1.1.cols)).toNat)).take ((wr ((wr (x1.2*v1.1.cols))+v1.1.cols)).toNat - (wr (x1.2*v1.1.cols)).toNat))).length)]) q5 k k k k k k k k k k k k k k) k<|aa k k<|an<|bE<|tn<|aO (t:=bU [(5,.ptr 0 0 0),(6,.own 2 0 v1.2.length),(7,.own 7 0 ((x1.1++[(([]:(List Int))++((v1.1.cells.drop (0+(wr (x1.2*v1.1.cols)).toNat)).take ((wr ((wr (x1.2*v1.1.cols))+v1.1.cols)).toNat - (wr (x1.2*v1.1.cols)).toNat)))]).length)),(8,.int x1.2)] [(0,⟨3,[[.int v1.1.rows,.int v1.1.cols,.own 1 0 v1.1.cells.length]]⟩),(1,⟨1,List.map (ow eI) v1.1.cells⟩),(2,⟨1,List.map (ow eI) v1.2⟩),(7,⟨1,List.map (ow (dA 1 eI)) (x1.1++[(([]:(List Int))++((v1.1.cells.drop (0+(wr (x1.2*v1.1.cols)).toNat)).take ((wr ((wr (x1.2*v1.1.cols))+v1.1.cols)).toNat - (wr (x1.2*v1.1.cols)).toNat)))])⟩)] 8 [8,9]) (Ent.trans (tL (b:=7) (b':=5) (j:=0) (es':=List.map eI (([]:(List Int))++((v1.1.cells.drop (0+(wr (x1.2*v1.1.cols)).toNat)).take ((wr ((wr (x1.2*v1.1.cols))+v1.1.cols)).toNat - (wr (x1.2*v1.1.cols)).toNat)))) k k k k (bD _ _) (eD.frzs _)) (aE (σ:=sg [(0,0),(1,1),(2,2),(7,7)]) ⟨(pE k k),(oE k k),⟨_,k,⟨k,k,(by simp only [bD,lA,lT,lR,lC,lN]),k⟩⟩,(e1 k k),trivial⟩ (hX ⟨_,k,k,.inr ⟨_,_,k,⟨_,_,k,k,⟨_,_,k,k,⟨_,_,k,⟨k,k,k,k⟩,k⟩⟩⟩,k⟩⟩ k<|hI k k k<|hI k k k<|hX ⟨_,k,k,.inl ⟨yQ (([]:(List Int))++((v1.1.cells.drop (0+(wr (x1.2*v1.1.cols)).toNat)).take ((wr ((wr (x1.2*v1.1.cols))+v1.1.cols)).toNat - (wr (x1.2*v1.1.cols)).toNat))) k,cI.plainO _⟩⟩ k<|trivial) k)) ?_
   refine rg<|am k k<|ae (bV k k) k<|aa k k<|an<|tn ?_
   obtain rfl:=so h
   exact ⟨_,k,(aE (σ:=sg [(0,0),(1,1),(2,2),(3,7)]) ⟨(pE k k),(oE k k),(oE k k),(e1 k k),trivial⟩ (hX ⟨_,k,k,.inr ⟨_,_,k,⟨_,_,k,k,⟨_,_,k,k,⟨_,_,k,⟨k,k,k,k⟩,k⟩⟩⟩,k⟩⟩ k<|hI k k k<|hI k k k<|hB (cI.plainO _) k k k<|trivial) k)⟩
  ·refine aS k q2<|bG<|aH<|aH ?_
   obtain rfl:=so h
   exact ⟨_,k,k,(aE (σ:=sg [(0,3)]) ⟨(oE k k),trivial⟩ (hB (cI.plainO _) k k k<|trivial) k)⟩
 ·rintro e t ⟨rfl,hent⟩
  refine aW<|tn<|aO hent<|sQ<|rg<|am k k<|aa k k<|an<|tn<|aP ?_
  obtain rfl:=so h
  exact aU k k k (mB (iQ cI k k))
def qT (a0:Int) (a1:Int) (a2:(List (List Int))):Option Sc:=
 Option.bind (kQ a1 a2) fun v1=>
 Option.bind (jI a0 v1) fun v2=>
 some ((⟨a1,v2⟩:Sc))
theorem aBw (a0:Int) (a1:Int) (a2:(List (List Int))) (r:Sc) (h:qT a0 a1 a2=some r):HasC Tryz.prog 184 [.int a0,.int a1,.list 1 (List.map (dA 1 eI) a2)] (.agg (eS r)):=by
 refine bK aA (rvs:=[.cell 6 99]) (ns:=[0,1,2,3,4]) Tryz.func184 k k Tryz.ntmps184 k k k<|sQ<|rg<|ae (bX aA k k) k<|an<|tn<|sQ<|rg<|am k k<|am k k ?_
 refine am k k<|am k k ?_
 obtain ⟨v1,hv1,h⟩:=ob h
 refine ae (AEff.conv (cR (x:= .agg [.int v1.rows,.int v1.cols,.own 1 0 (List.map eI v1.cells).length]) (nb:=[(1,⟨1,cX (List.map eI v1.cells)⟩)]) (aBv a1 a2 v1 hv1) k (by rfl) k k (bZ trivial (bZ trivial (bZ (eD.good _) gQ))) (aG (aI k) (aG (aI k) bA))) (v':= .agg [.int v1.rows,.int v1.cols,.own 1 0 v1.cells.length]) (ed':=[(1,some ⟨1,List.map (ow eI) v1.cells⟩)]) (by simp only [bD]) (eJ (nb':=[(1,⟨1,List.map (ow eI) v1.cells⟩)]) (by simp only [cT]))) k ?_
 obtain ⟨v2,hv2,h⟩:=ob h
 refine ae (AEff.conv (cR (x:= .own 2 0 (List.map (dA 1 eI) v2).length) (nb:=[(2,⟨1,cX (List.map (dA 1 eI) v2)⟩)]) (aAw a0 v1 v2 hv2) k (by rfl) k k (cI.good _) (aG (aI k) (aG (cA (aM (aQ k) (aM (aQ k) (aM (tK eD k k) cF)))) bA))) (v':= .own 2 0 v2.length) (ed':=[(2,some ⟨1,List.map (ow (dA 1 eI)) v2⟩)]) (by simp only [bD]) (eJ (nb':=[(2,⟨1,List.map (ow (dA 1 eI)) v2⟩)]) (by simp only [cT]))) k<|ae (cQ aA k k k k k k) k<|ae (bP aA k k k k k k k k) k<|an<|tn<|aP ?_
 obtain rfl:=so h
 exact aU k k k (qN (cD (k) (cD (iQ cI k k) gZ)))
def lB (a0:(List Int)) (a1:Int) (a2:Int):Option Bool:=
 bif !decide ((a0.length:Int)=a1) then
 (some (true))
 else
 (Option.bind (nC a2 a0) fun v2=>
 some (!v2))
theorem aBi (a0:(List Int)) (a1:Int) (a2:Int) (r:Bool) (h:lB a0 a1 a2=some r):HasC Tryz.prog 257 [.list 1 (List.map eI a0),.ref (eI a1),.ref (eI a2)] (.bl r):=by
 refine bK aA (rvs:=[.tmp 4]) (ns:=[0,1]) Tryz.func257 k k Tryz.ntmps257 k k k<|sQ<|rg<|aa k k<|an<|tn<|sQ<|rg<|am k k<|ae (dD aA k k k) k ?_
 refine ae (aV aA k k k k k k) k<|ae (bC k k k) k<|am k k ?_
 rcases cb h with ⟨q1,h⟩|⟨q1,h⟩
 ·refine aX 9 k q1<|ak k k<|ak k k<|ak k k<|ak k k<|ae (aJ k k) k<|aa k k<|an<|tn<|aO (t:=bU [(4,.bl true)] [] 0 [0,1]) (aE (σ:=sg []) ⟨(e1 k k),trivial⟩ trivial k) ?_
  refine aP ?_
  obtain rfl:=so h
  exact aU k k k (bT k)
 ·refine aX 9 k q1<|ae (aV aA k k k k k k) k<|am k k ?_
  obtain ⟨v2,hv2,h⟩:=ob h
  refine ae (aZ (aAV a2 a0 v2 hv2) k (aG (aI k) (aG (aI k) bA))) k<|ae (cG k) k<|ae (aJ k k) k<|aa k k<|an<|tn<|aO (t:=bU [(4,.bl (!v2))] [] 0 [0,1]) (aE (σ:=sg []) ⟨(e1 k k),trivial⟩ trivial k)<|aP ?_
  obtain rfl:=so h
  exact aU k k k (bT k)
def oA (a0:Int) (a1:Int) (a2:(List (List Int))):Option Bool:=
 Option.bind (gD a1 0 8) fun v1=>
 bif v1 then
 (bif decide ((a2.length:Int)≤16) then
 (Option.bind (eB a2 (fun b0=>lB b0 a1 a0)) fun v4=>
 some (!v4))
 else
 (some (false)))
 else
 (some (false))
theorem aDR (a0:Int) (a1:Int) (a2:(List (List Int))) (r:Bool) (h:oA a0 a1 a2=some r):HasC Tryz.prog 231 [.int a0,.int a1,.list 1 (List.map (dA 1 eI) a2)] (.bl r):=by
 refine bK aA (rvs:=[.tmp 6]) (ns:=[0,1,2,3]) Tryz.func231 k k Tryz.ntmps231 k k k<|sQ<|rg<|ae (cC k k k k) k<|ae (cC k k k k) k<|aa k k<|an<|tn<|sQ<|rg ?_
 refine ae (aC aA k k k k k k k) k ?_
 obtain ⟨v1,hv1,h⟩:=ob h
 refine ae (aZ (iU a1 0 8 v1 hv1) k (aG (aI k) (aG (aI k) (aG (aI k) bA)))) k<|am k k ?_
 rcases cb h with ⟨q2,h⟩|⟨q2,h⟩
 ·refine aX 9 k q2<|am k k<|ae (dD aA k k k) k<|ae (bC k k k) k<|ae (aJ k k) k<|am k k ?_
  rcases cb h with ⟨q3,h⟩|⟨q3,h⟩
  ·refine aX 14 k q3<|am k k<|ae (wI (vs:=[.ptr 1 0 0,.ptr 0 0 0]) k (by simp)) k ?_
   obtain ⟨v4,hv4,h⟩:=ob h
   refine ae (aZ (kK a2 (fun b0=>lB b0 a1 a0) k (fun b0 r h=>aBi b0 a1 a0 r h) v4 hv4) k (aG (aI k) (aG (aGX (yD (aAo k k (aM (aQ k) cF)) (yD (aAo k k (aM (aQ k) cF)) aAI))) bA))) k<|ae (cG k) k<|ae (aJ k k) k<|aa k k<|an<|tn<|aO (t:=bU [(6,.bl (!v4))] [] 2 [2,3]) (aE (σ:=sg []) ⟨(e1 k k),trivial⟩ trivial k)<|aP ?_
   obtain rfl:=so h
   exact aU k k k (bT k)
  ·refine aX 14 k q3<|ak k k<|ak k k<|ak k k<|ak k k<|ae (aJ k k) k<|aa k k<|an<|tn<|aO (t:=bU [(6,.bl false)] [] 2 [2,3]) (aE (σ:=sg []) ⟨(e1 k k),trivial⟩ trivial k) ?_
   refine aP ?_
   obtain rfl:=so h
   exact aU k k k (bT k)
 ·refine aX 9 k q2<|ak k k<|ak k k<|ak k k<|ae (aJ k k) k<|am k k<|ak k k<|ak k k<|ak k k<|ak k k ?_
  refine ae (aJ k k) k<|aa k k<|an<|tn<|aO (t:=bU [(6,.bl false)] [] 2 [2,3]) (aE (σ:=sg []) ⟨(e1 k k),trivial⟩ trivial k)<|aP ?_
  obtain rfl:=so h
  exact aU k k k (bT k)
def iA (a0:(List Int)) (a1:(List Int)):Option Bool:=
 Option.bind (lH a0 a1) fun v1=>
 some (v1)
theorem aAx (a0:(List Int)) (a1:(List Int)) (r:Bool) (h:iA a0 a1=some r):HasC Tryz.prog 259 [.list 1 (List.map eI a0),.list 1 (List.map eI a1)] (.bl r):=by
 refine bK aA (rvs:=[.tmp 4]) (ns:=[0,1]) Tryz.func259 k k Tryz.ntmps259 k k k<|sQ<|rg<|aa k k<|an<|tn<|sQ<|rg<|am k k<|am k k ?_
 obtain ⟨v1,hv1,h⟩:=ob h
 refine ae (aZ (zH a0 a1 v1 hv1) k (aG (aI k) (aG (aI k) bA))) k<|aa k k<|an<|tn<|aP ?_
 obtain rfl:=so h
 exact aU k k k (bT k)
def dP (a0:(List (List Int))) (a1:(List (List Int))) (a2:((List Int)→(List Int)→Option Bool)) (x1:Int):Option (Int ⊕ (Unit ⊕ Bool)):=
 bif decide (x1<(a0.length:Int)) then
 (Option.bind (dV a0 x1) fun v3=>
 Option.bind (dV a1 x1) fun v4=>
 Option.bind (a2 v3 v4) fun v5=>
 bif !v5 then
 (some (.inr (.inr (false))))
 else
 (some (.inl (wr (x1+1)))))
 else
 (some (.inr (.inl ())))
def dX (a0:(List (List Int))) (a1:(List (List Int))) (a2:((List Int)→(List Int)→Option Bool)):Option Bool:=
 bif !decide ((a0.length:Int)=(a1.length:Int)) then
 (some (false))
 else
 (Option.bind (Lp (dP a0 a1 a2) 0) fun y7=>
 Sum.elim (fun y8=>
 some (true)
 )
 (fun y9=>
 some y9
 )
 y7)
theorem nO (a0:(List (List Int))) (a1:(List (List Int))) (a2:((List Int)→(List Int)→Option Bool)) {f2:FuncId} {c2:List AV} (hc2:c2.all eT=true) (hf2: ∀ b0 b1 r,a2 b0 b1=some r→HasC Tryz.prog f2 ([.list 1 (List.map eI b0),.list 1 (List.map eI b1)]++c2) (.bl r)) (r:Bool) (h:dX a0 a1 a2=some r):HasC Tryz.prog 258 [.list 1 (List.map (dA 1 eI) a0),.list 1 (List.map (dA 1 eI) a1),.fn f2 c2] (.bl r):=by
 refine bK aA (rvs:=[.tmp 6]) (ns:=[0,1]) Tryz.func258 k k Tryz.ntmps258 k k (jP k (jP k (jP hc2 aAr)))<|sQ<|rg<|aa k k<|an<|tn<|sQ<|sQ<|rg<|am k k ?_
 refine ae (dD aA k k k) k<|am k k<|ae (dD aA k k k) k<|ae (bC k k k) k<|an<|tn ?_
 rcases cb h with ⟨q1,h⟩|⟨q1,h⟩
 ·refine aL k q1<|sQ<|rg<|aa k k<|an<|tn<|aP<|aK ?_
  obtain rfl:=so h
  exact aU k k k (bT k)
 ·refine aS k q1<|aT<|tn<|sQ<|sQ<|rg<|am k k<|ae (dD aA k k k) k<|am k k<|an ?_
  refine tn<|aN ?_
  obtain ⟨y7,hy7,h⟩:=ob h
  refine cU (body:=(dP a0 a1 a2)) hy7 (fun (x1:Int)=>bU [(1,.list 1 (List.map (dA 1 eI) a1)),(2,.fn f2 c2),(15,.list 1 (List.map (dA 1 eI) a0)),(16,.int (a0.length:Int)),(17,.int x1)] [] 0 [0,1]) (fun r e t=>Sum.elim (fun a=>(fun r e t=>e= .exit 0∧Ent t (bU [] [] 0 [0,1])) a e t) (fun b=>(fun r e t=>e= .ret∧sA TT [.tmp 6] (.bl r) .ret t) b e t) r) (aE (σ:=sg []) ⟨⟨_,k,⟨k,k⟩⟩,⟨_,k,⟨k,jY _ hc2⟩⟩,⟨_,k,⟨k,k⟩⟩,(e1 k k),(e1 k k),trivial⟩ trivial k) ?_ ?_
  ·intro x1 o h
   refine sQ<|rg<|ae (bC k k k) k<|an<|tn<|sQ ?_
   rcases cb h with ⟨q2,h⟩|⟨q2,h⟩
   ·refine aL k q2<|aT<|tn<|sQ<|aN<|sQ<|rg<|am k k ?_
    obtain ⟨v3,hv3,h⟩:=ob h
    refine ae (bH aA hv3 k k k k k k) k<|ae (aV aA k k k k k k) k<|aa k k<|aa k k<|an<|tn<|sQ<|rg<|am k k<|am k k ?_
    obtain ⟨v4,hv4,h⟩:=ob h
    refine ae (bH aA hv4 k k k k k k) k<|ae (aV aA k k k k k k) k<|aa k k<|an<|tn<|sQ<|rg<|am k k<|am k k<|am k k ?_
    obtain ⟨v5,hv5,h⟩:=ob h
    refine ae (aBU hc2 (hf2 v3 v4 v5 hv5) k k (aG (aI k) (aG (aI k) bA))) k<|ae (cG k) k<|an<|tn<|aO (t:=bU [(1,.list 1 (List.map (dA 1 eI) a1)),(2,.fn f2 c2),(15,.list 1 (List.map (dA 1 eI) a0)),(16,.int (a0.length:Int)),(17,.int x1),(30,.bl (!v5))] [] 0 [0,1]) (aE (σ:=sg []) ⟨⟨_,k,⟨k,k⟩⟩,⟨_,k,⟨k,jY _ hc2⟩⟩,⟨_,k,⟨k,k⟩⟩,(e1 k k),(e1 k k),(e1 k k),trivial⟩ trivial k) ?_
    rcases cb h with ⟨q6,h⟩|⟨q6,h⟩
    ·refine aL k q6<|sQ<|rg<|aa k k<|an<|tn<|aP<|bB<|aK<|aK ?_
     obtain rfl:=so h
     exact ⟨_,k,k,aU k k k (bT k)⟩
    ·refine aS k q6<|aT<|bE<|tn<|rg<|ae (bV k k) k<|am k k<|an<|tn ?_
     obtain rfl:=so h
     exact ⟨_,k,(aE (σ:=sg []) ⟨⟨_,k,⟨k,k⟩⟩,⟨_,k,⟨k,jY _ hc2⟩⟩,⟨_,k,⟨k,k⟩⟩,(e1 k k),(e1 k k),trivial⟩ trivial k)⟩
   ·refine aS k q2<|bG<|aH<|aH ?_
    obtain rfl:=so h
    exact ⟨_,k,k,(aE (σ:=sg []) trivial trivial k)⟩
  ·intro e t hX
   rcases y7 with y8|y9
   ·obtain ⟨rfl,hent⟩:=hX
    refine aW<|tn<|aO hent<|sQ<|rg<|aa k k<|an<|tn<|aP ?_
    obtain rfl:=so h
    exact aU k k k (bT k)
   ·obtain ⟨rfl,hent⟩:=hX
    refine bB<|aK ?_
    obtain rfl:=so h
    exact hent
def mM (a0:Sc) (a1:Sc):Option Bool:=
 bif decide (a0.size=a1.size) then
 (Option.bind (dX a0.basis a1.basis (fun b0 b1=>iA b0 b1)) fun v2=>
 some (v2))
 else
 (some (false))
theorem aCQ (a0:Sc) (a1:Sc) (r:Bool) (h:mM a0 a1=some r):HasC Tryz.prog 232 [.agg (eS a0),.agg (eS a1)] (.bl r):=by
 refine bK aA (rvs:=[.tmp 4]) (ns:=[0,1,2,3]) Tryz.func232 k k Tryz.ntmps232 k k k<|sQ<|rg<|ae (cC k k k k) k<|ae (cC k k k k) k<|aa k k<|an<|tn<|sQ<|rg ?_
 refine ae (aD aA k k k k k k k) k<|ae (aC aA k k k k k k k) k<|ae (aD aA k k k k k k k) k<|ae (aC aA k k k k k k k) k<|ae (bC k k k) k<|am k k ?_
 rcases cb h with ⟨q1,h⟩|⟨q1,h⟩
 ·refine aX 10 k q1<|ae (aD aA k k k k k k k) k<|ae (aC aA k k k k k k k) k<|ae (aD aA k k k k k k k) k<|ae (aC aA k k k k k k k) k ?_
  obtain ⟨v2,hv2,h⟩:=ob h
  refine ae (aZ (nO a0.basis a1.basis (fun b0 b1=>iA b0 b1) k (fun b0 b1 r h=>aAx b0 b1 r h) v2 hv2) k (aG (aI k) (aG (aI k) (aG (aGX aAI) bA)))) k<|ae (aJ k k) k<|aa k k<|an<|tn<|aO (t:=bU [(4,.bl v2)] [] 2 [2,3]) (aE (σ:=sg []) ⟨(e1 k k),trivial⟩ trivial k)<|aP ?_
  obtain rfl:=so h
  exact aU k k k (bT k)
 ·refine aX 10 k q1<|ak k k<|ak k k<|ak k k<|ak k k<|ak k k<|ae (aJ k k) k<|aa k k<|an<|tn ?_
  refine aO (t:=bU [(4,.bl false)] [] 2 [2,3]) (aE (σ:=sg []) ⟨(e1 k k),trivial⟩ trivial k)<|aP ?_
  obtain rfl:=so h
  exact aU k k k (bT k)
def uA (a0:Int) (a1:Sc):Option Bool:=
 Option.bind (hO a0) fun v1=>
 bif !v1 then
 (some (false))
 else
 (Option.bind (oA a0 a1.size a1.basis) fun v3=>
 bif !v3 then
 (some (false))
 else
 (Option.bind (vO a0 a1.size a1.basis) fun v5=>
 Option.bind (mM v5 a1) fun v6=>
 some (v6)))
theorem aGm (a0:Int) (a1:Sc) (r:Bool) (h:uA a0 a1=some r):HasC Tryz.prog 197 [.int a0,.agg (eS a1)] (.bl r):=by
 refine bK aA (rvs:=[.tmp 4]) (ns:=[0,1,2,3]) Tryz.func197 k k Tryz.ntmps197 k k k<|sQ<|rg<|ae (cC k k k k) k<|aa k k<|an<|tn<|sQ<|sQ<|rg ?_
 refine am k k ?_
 obtain ⟨v1,hv1,h⟩:=ob h
 refine ae (aZ (lJ a0 v1 hv1) k (aG (aI k) bA)) k<|ae (cG k) k<|am k k ?_
 rcases cb h with ⟨q2,h⟩|⟨q2,h⟩
 ·refine aX 8 k q2<|ak k k<|ak k k<|ak k k<|ak k k<|ak k k<|ak k k<|ak k k<|ae (aJ k k) k<|an ?_
  refine tn<|aO (t:=bU [(0,.int a0),(3,.ptr 0 0 0),(16,.bl true)] [(0,⟨2,[[.int a1.size,.list 1 (List.map (dA 1 eI) a1.basis)]]⟩)] 1 [1,2,3]) (aE (σ:=sg [(0,0)]) ⟨(e1 k k),(pE k k),(e1 k k),trivial⟩ (hP k k k k<|trivial) k)<|aL k k<|sQ<|rg<|aa k k<|an<|tn<|aP<|aK ?_
  obtain rfl:=so h
  exact aU k k k (bT k)
 ·refine aX 8 k q2<|am k k<|ae (aD aA k k k k k k k) k<|ae (aC aA k k k k k k k) k<|ae (aD aA k k k k k k k) k<|ae (aC aA k k k k k k k) k ?_
  obtain ⟨v3,hv3,h⟩:=ob h
  refine ae (aZ (aDR a0 a1.size a1.basis v3 hv3) k (aG (aI k) (aG (aI k) (aG (aI k) bA)))) k<|ae (cG k) k<|ae (aJ k k) k<|an<|tn<|aO (t:=bU [(0,.int a0),(3,.ptr 0 0 0),(16,.bl (!v3))] [(0,⟨2,[[.int a1.size,.list 1 (List.map (dA 1 eI) a1.basis)]]⟩)] 1 [1,2,3]) (aE (σ:=sg [(0,0)]) ⟨(e1 k k),(pE k k),(e1 k k),trivial⟩ (hP k k k k<|trivial) k) ?_
  rcases cb h with ⟨q4,h⟩|⟨q4,h⟩
  ·refine aL k q4<|sQ<|rg<|aa k k<|an<|tn<|aP<|aK ?_
   obtain rfl:=so h
   exact aU k k k (bT k)
  ·refine aS k q4<|aT<|tn<|sQ<|aY jW<|am k k<|ae (aD aA k k k k k k k) k<|ae (aC aA k k k k k k k) k<|ae (aD aA k k k k k k k) k<|ae (aC aA k k k k k k k) k ?_
   obtain ⟨v5,hv5,h⟩:=ob h
   refine ae (AEff.conv (cR (x:= .agg [.int v5.size,.own 1 0 (List.map (dA 1 eI) v5.basis).length]) (nb:=[(1,⟨1,cX (List.map (dA 1 eI) v5.basis)⟩)]) (aEv a0 a1.size a1.basis v5 hv5) k (by rfl) k k (bZ trivial (bZ (cI.good _) gQ)) (aG (aI k) (aG (aI k) (aG (aI k) bA)))) (v':= .agg [.int v5.size,.own 1 0 v5.basis.length]) (ed':=[(1,some ⟨1,List.map (ow (dA 1 eI)) v5.basis⟩)]) (by simp only [bD]) (eJ (nb':=[(1,⟨1,List.map (ow (dA 1 eI)) v5.basis⟩)]) (by simp only [cT]))) k<|ae (aC aA k k k k k k k) k ?_
   obtain ⟨v6,hv6,h⟩:=ob h
   refine ae (aZ (aCQ v5 a1 v6 hv6) k (aG (cA (aM (aQ k) (aM (tK cI k k) cF))) (aG (cA (aM (aQ k) (aM (aQ k) cF))) bA))) k<|aa k k<|an ?_
   refine ⟨by kernel_rfl,?_⟩
   refine tn<|aP ?_
   obtain rfl:=so h
   exact aU k k k (bT k)
def iY (a0:Int) (a1:Int) (a2:(List (List Int))) (x1:Int):Option (Int ⊕ (Unit ⊕ Bool)):=
 bif decide (x1<(a2.length:Int)) then
 (Option.bind (dV a2 x1) fun v2=>
 bif !decide ((v2.length:Int)=a1) then
 (some (.inr (.inr (false))))
 else
 (Option.bind (dV a2 x1) fun v4=>
 Option.bind (gN a0 v4) fun v5=>
 bif !v5 then
 (some (.inr (.inr (false))))
 else
 (some (.inl (wr (x1+1))))))
 else
 (some (.inr (.inl ())))
def nL (a0:Int) (a1:Int) (a2:(List (List Int))):Option Bool:=
 Option.bind (Lp (iY a0 a1 a2) 0) fun y7=>
 Sum.elim (fun y8=>
 Option.bind (hJ a0) fun v9=>
 bif v9 then
 (Option.bind (fD a1 0 8) fun v11=>
 bif v11 then
 (some (decide ((a2.length:Int)≤16)))
 else
 (some (false)))
 else
 (some (false))
 )
 (fun y13=>
 some y13
 )
 y7
theorem aHW (a0:Int) (a1:Int) (a2:(List (List Int))) (r:Bool) (h:nL a0 a1 a2=some r):HasC Tryz.prog 180 [.int a0,.int a1,.list 1 (List.map (dA 1 eI) a2)] (.bl r):=by
 refine bK aA (rvs:=[.tmp 6]) (ns:=[0,1]) Tryz.func180 k k Tryz.ntmps180 k k k<|sQ<|rg<|aa k k<|an<|tn<|sQ<|sQ<|rg<|aa k k ?_
 refine an<|tn<|aN ?_
 obtain ⟨y7,hy7,h⟩:=ob h
 refine cU (body:=(iY a0 a1 a2)) hy7 (fun (x1:Int)=>bU [(0,.int a0),(1,.int a1),(2,.list 1 (List.map (dA 1 eI) a2)),(7,.int x1)] [] 0 [0,1]) (fun r e t=>Sum.elim (fun a=>(fun r e t=>e= .exit 0∧Ent t (bU [(0,.int a0),(1,.int a1),(2,.list 1 (List.map (dA 1 eI) a2))] [] 0 [0,1])) a e t) (fun b=>(fun r e t=>e= .ret∧sA TT [.tmp 6] (.bl r) .ret t) b e t) r) (aE (σ:=sg []) ⟨(e1 k k),(e1 k k),⟨_,k,⟨k,k⟩⟩,(e1 k k),trivial⟩ trivial k) ?_ ?_
 ·intro x1 o h
  refine sQ<|sQ<|rg<|am k k<|am k k<|ae (dD aA k k k) k<|ae (bC k k k) k<|an<|tn ?_
  rcases cb h with ⟨q1,h⟩|⟨q1,h⟩
  ·refine aL k q1<|aT<|tn<|sQ<|aN<|sQ<|rg<|am k k<|am k k ?_
   obtain ⟨v2,hv2,h⟩:=ob h
   refine ae (bH aA hv2 k k k k k k) k<|ae (aV aA k k k k k k) k<|ae (dD aA k k k) k<|am k k<|ae (bC k k k) k<|am k k ?_
   rcases cb h with ⟨q3,h⟩|⟨q3,h⟩
   ·refine aX 21 k q3<|ak k k<|ak k k<|ak k k<|ak k k<|ak k k<|ak k k<|ak k k<|ae (aJ k k) k<|an ?_
    refine tn<|aO (t:=bU [(0,.int a0),(1,.int a1),(2,.list 1 (List.map (dA 1 eI) a2)),(7,.int x1),(29,.bl true)] [] 0 [0,1]) (aE (σ:=sg []) ⟨(e1 k k),(e1 k k),⟨_,k,⟨k,k⟩⟩,(e1 k k),(e1 k k),trivial⟩ trivial k)<|aL k k<|sQ<|rg<|aa k k<|an<|tn<|aP<|bB ?_
    refine aK<|aK ?_
    obtain rfl:=so h
    exact ⟨_,k,k,aU k k k (bT k)⟩
   ·refine aX 21 k q3<|am k k<|am k k<|am k k ?_
    obtain ⟨v4,hv4,h⟩:=ob h
    refine ae (bH aA hv4 k k k k k k) k<|ae (aV aA k k k k k k) k ?_
    obtain ⟨v5,hv5,h⟩:=ob h
    refine ae (aZ (vT a0 v4 v5 hv5) k (aG (aI k) (aG (aI k) bA))) k<|ae (cG k) k<|ae (aJ k k) k<|an<|tn<|aO (t:=bU [(0,.int a0),(1,.int a1),(2,.list 1 (List.map (dA 1 eI) a2)),(7,.int x1),(29,.bl (!v5))] [] 0 [0,1]) (aE (σ:=sg []) ⟨(e1 k k),(e1 k k),⟨_,k,⟨k,k⟩⟩,(e1 k k),(e1 k k),trivial⟩ trivial k) ?_
    rcases cb h with ⟨q6,h⟩|⟨q6,h⟩
    ·refine aL k q6<|sQ<|rg<|aa k k<|an<|tn<|aP<|bB<|aK<|aK ?_
     obtain rfl:=so h
     exact ⟨_,k,k,aU k k k (bT k)⟩
    ·refine aS k q6<|aT<|bE<|tn<|rg<|am k k<|ae (bV k k) k<|aa k k<|an<|tn ?_
     obtain rfl:=so h
     exact ⟨_,k,(aE (σ:=sg []) ⟨(e1 k k),(e1 k k),⟨_,k,⟨k,k⟩⟩,(e1 k k),trivial⟩ trivial k)⟩
  ·refine aS k q1<|bG<|aH<|aH ?_
   obtain rfl:=so h
   exact ⟨_,k,k,(aE (σ:=sg []) ⟨(e1 k k),(e1 k k),⟨_,k,⟨k,k⟩⟩,trivial⟩ trivial k)⟩
 ·intro e t hX
  rcases y7 with y8|y13
  ·obtain ⟨rfl,hent⟩:=hX
   refine aW<|tn<|aO hent<|sQ<|rg<|am k k ?_
   obtain ⟨v9,hv9,h⟩:=ob h
   refine ae (aZ (lI a0 v9 hv9) k (aG (aI k) bA)) k<|am k k ?_
   rcases cb h with ⟨q10,h⟩|⟨q10,h⟩
   ·refine aX 32 k q10<|am k k ?_
    obtain ⟨v11,hv11,h⟩:=ob h
    refine ae (aZ (fV a1 0 8 v11 hv11) k (aG (aI k) (aG (aI k) (aG (aI k) bA)))) k<|ae (aJ k k) k<|am k k ?_
    rcases cb h with ⟨q12,h⟩|⟨q12,h⟩
    ·refine aX 36 k q12<|am k k<|ae (dD aA k k k) k<|ae (bC k k k) k<|ae (aJ k k) k<|aa k k<|an<|tn<|aO (t:=bU [(6,.bl (decide ((a2.length:Int)≤16)))] [] 0 [0,1]) (aE (σ:=sg []) ⟨(e1 k k),trivial⟩ trivial k)<|aP ?_
     obtain rfl:=so h
     exact aU k k k (bT k)
    ·refine aX 36 k q12<|ak k k<|ak k k<|ak k k<|ae (aJ k k) k<|aa k k<|an<|tn<|aO (t:=bU [(6,.bl false)] [] 0 [0,1]) (aE (σ:=sg []) ⟨(e1 k k),trivial⟩ trivial k)<|aP ?_
     obtain rfl:=so h
     exact aU k k k (bT k)
   ·refine aX 32 k q10<|ak k k<|ak k k<|ae (aJ k k) k<|am k k<|ak k k<|ak k k<|ak k k<|ae (aJ k k) k<|aa k k ?_
    refine an<|tn<|aO (t:=bU [(6,.bl false)] [] 0 [0,1]) (aE (σ:=sg []) ⟨(e1 k k),trivial⟩ trivial k)<|aP ?_
    obtain rfl:=so h
    exact aU k k k (bT k)
  ·obtain ⟨rfl,hent⟩:=hX
   refine bB<|aK ?_
   obtain rfl:=so h
   exact hent
def lP (a0:(List (List Int))) (a1:(List (List Int))) (x1:Int) (x2:Int):Option (Int ⊕ (Unit ⊕ Bool)):=
 Option.bind (dV a0 x1) fun v6=>
 bif decide (x2<(v6.length:Int)) then
 (Option.bind (dV a0 x1) fun v8=>
 Option.bind (dV v8 x2) fun v9=>
 Option.bind (dV a1 x1) fun v10=>
 Option.bind (dV v10 x2) fun v11=>
 bif !decide (v9=v11) then
 (some (.inr (.inr (false))))
 else
 (some (.inl (wr (x2+1)))))
 else
 (some (.inr (.inl ())))
def iZ (a0:(List (List Int))) (a1:(List (List Int))) (x1:Int):Option (Int ⊕ (Unit ⊕ Bool)):=
 bif decide (x1<(a0.length:Int)) then
 (Option.bind (dV a0 x1) fun v3=>
 Option.bind (dV a1 x1) fun v4=>
 bif !decide ((v3.length:Int)=(v4.length:Int)) then
 (some (.inr (.inr (false))))
 else
 (Option.bind (Lp (lP a0 a1 x1) 0) fun y13=>
 Sum.elim (fun y14=>
 some (.inl (wr (x1+1)))
 )
 (fun y15=>
 some (.inr (.inr y15))
 )
 y13))
 else
 (some (.inr (.inl ())))
def nM (a0:(List (List Int))) (a1:(List (List Int))):Option Bool:=
 bif !decide ((a0.length:Int)=(a1.length:Int)) then
 (some (false))
 else
 (Option.bind (Lp (iZ a0 a1) 0) fun y16=>
 Sum.elim (fun y17=>
 some (true)
 )
 (fun y18=>
 some y18
 )
 y16)
theorem aHX (a0:(List (List Int))) (a1:(List (List Int))) (r:Bool) (h:nM a0 a1=some r):HasC Tryz.prog 181 [.list 1 (List.map (dA 1 eI) a0),.list 1 (List.map (dA 1 eI) a1)] (.bl r):=by
 refine bK aA (rvs:=[.tmp 4]) (ns:=[0,1]) Tryz.func181 k k Tryz.ntmps181 k k k<|sQ<|rg<|aa k k<|an<|tn<|sQ<|sQ<|rg<|am k k ?_
 refine ae (dD aA k k k) k<|am k k<|ae (dD aA k k k) k<|ae (bC k k k) k<|an<|tn ?_
 rcases cb h with ⟨q1,h⟩|⟨q1,h⟩
 ·refine aL k q1<|sQ<|rg<|aa k k<|an<|tn<|aP<|aK ?_
  obtain rfl:=so h
  exact aU k k k (bT k)
 ·refine aS k q1<|aT<|tn<|sQ<|sQ<|rg<|aa k k<|an<|tn<|aN ?_
  obtain ⟨y16,hy16,h⟩:=ob h
  refine cU (body:=(iZ a0 a1)) hy16 (fun (x1:Int)=>bU [(0,.list 1 (List.map (dA 1 eI) a0)),(1,.list 1 (List.map (dA 1 eI) a1)),(5,.int x1)] [] 0 [0,1]) (fun r e t=>Sum.elim (fun a=>(fun r e t=>e= .exit 0∧Ent t (bU [] [] 0 [0,1])) a e t) (fun b=>(fun r e t=>e= .ret∧sA TT [.tmp 4] (.bl r) .ret t) b e t) r) (aE (σ:=sg []) ⟨⟨_,k,⟨k,k⟩⟩,⟨_,k,⟨k,k⟩⟩,(e1 k k),trivial⟩ trivial k) ?_ ?_
  ·intro x1 o h
   refine sQ<|sQ<|rg<|am k k<|am k k<|ae (dD aA k k k) k<|ae (bC k k k) k<|an<|tn ?_
   rcases cb h with ⟨q2,h⟩|⟨q2,h⟩
   ·refine aL k q2<|aT<|tn<|sQ<|aN<|sQ<|sQ<|aY jW<|am k k<|am k k ?_
    obtain ⟨v3,hv3,h⟩:=ob h
    refine ae (bH aA hv3 k k k k k k) k<|ae (aV aA k k k k k k) k<|ae (dD aA k k k) k<|am k k<|am k k ?_
    obtain ⟨v4,hv4,h⟩:=ob h
    refine ae (bH aA hv4 k k k k k k) k<|ae (aV aA k k k k k k) k<|ae (dD aA k k k) k<|ae (bC k k k) k<|an ?_
    refine ⟨by kernel_rfl,?_⟩
    refine tn<|aO (t:=bU [(0,.list 1 (List.map (dA 1 eI) a0)),(1,.list 1 (List.map (dA 1 eI) a1)),(5,.int x1),(28,.bl (!decide ((v3.length:Int)=(v4.length:Int))))] [] 0 [0,1]) (aE (σ:=sg []) ⟨⟨_,k,⟨k,k⟩⟩,⟨_,k,⟨k,k⟩⟩,(e1 k k),(e1 k k),trivial⟩ trivial k) ?_
    rcases cb h with ⟨q5,h⟩|⟨q5,h⟩
    ·refine aL k q5<|sQ<|rg<|aa k k<|an<|tn<|aP<|aK<|bB<|aK ?_
     refine aK ?_
     obtain rfl:=so h
     exact ⟨_,k,k,aU k k k (bT k)⟩
    ·refine aS k q5<|aT<|tn<|sQ<|rg<|aa k k<|an<|tn<|aN ?_
     obtain ⟨y13,hy13,h⟩:=ob h
     refine cU (body:=(lP a0 a1 x1)) hy13 (fun (x2:Int)=>bU [(0,.list 1 (List.map (dA 1 eI) a0)),(1,.list 1 (List.map (dA 1 eI) a1)),(5,.int x1),(6,.int x2)] [] 0 [0,1]) (fun r e t=>Sum.elim (fun a=>(fun r e t=>e= .exit 2∧Ent t (bU [(0,.list 1 (List.map (dA 1 eI) a0)),(1,.list 1 (List.map (dA 1 eI) a1)),(5,.int x1)] [] 0 [0,1])) a e t) (fun b=>(fun r e t=>e= .ret∧sA TT [.tmp 4] (.bl r) .ret t) b e t) r) (aE (σ:=sg []) ⟨⟨_,k,⟨k,k⟩⟩,⟨_,k,⟨k,k⟩⟩,(e1 k k),(e1 k k),trivial⟩ trivial k) ?_ ?_
     ·intro x2 o h
      refine sQ<|sQ<|rg<|am k k<|am k k<|am k k ?_
      obtain ⟨v6,hv6,h⟩:=ob h
      refine ae (bH aA hv6 k k k k k k) k<|ae (aV aA k k k k k k) k<|ae (dD aA k k k) k<|ae (bC k k k) k<|an<|tn ?_
      rcases cb h with ⟨q7,h⟩|⟨q7,h⟩
      ·refine aL k q7<|aT<|tn<|sQ<|aN<|sQ<|aY jW<|am k k<|am k k ?_
       obtain ⟨v8,hv8,h⟩:=ob h
       refine ae (bH aA hv8 k k k k k k) k<|ae (aV aA k k k k k k) k<|am k k ?_
       obtain ⟨v9,hv9,h⟩:=ob h
       refine ae (bH aA hv9 k k k k k k) k<|ae (aV aA k k k k k k) k<|am k k<|am k k ?_
       obtain ⟨v10,hv10,h⟩:=ob h
       refine ae (bH aA hv10 k k k k k k) k<|ae (aV aA k k k k k k) k<|am k k ?_
       obtain ⟨v11,hv11,h⟩:=ob h
       refine ae (bH aA hv11 k k k k k k) k<|ae (aV aA k k k k k k) k<|ae (bC k k k) k<|an ?_
       refine ⟨by kernel_rfl,?_⟩
       refine tn<|aO (t:=bU [(0,.list 1 (List.map (dA 1 eI) a0)),(1,.list 1 (List.map (dA 1 eI) a1)),(5,.int x1),(6,.int x2),(52,.bl (!decide (v9=v11)))] [] 0 [0,1]) (aE (σ:=sg []) ⟨⟨_,k,⟨k,k⟩⟩,⟨_,k,⟨k,k⟩⟩,(e1 k k),(e1 k k),(e1 k k),trivial⟩ trivial k) ?_
       rcases cb h with ⟨q12,h⟩|⟨q12,h⟩
       ·refine aL k q12<|sQ<|rg<|aa k k<|an<|tn<|aP<|bB<|aK<|aK ?_
        obtain rfl:=so h
        exact ⟨_,k,k,aU k k k (bT k)⟩
       ·refine aS k q12<|aT<|bE<|tn<|rg<|am k k<|ae (bV k k) k<|aa k k<|an<|tn ?_
        obtain rfl:=so h
        exact ⟨_,k,(aE (σ:=sg []) ⟨⟨_,k,⟨k,k⟩⟩,⟨_,k,⟨k,k⟩⟩,(e1 k k),(e1 k k),trivial⟩ trivial k)⟩
      ·refine aS k q7<|bG<|aH<|aH ?_
       obtain rfl:=so h
       exact ⟨_,k,k,(aE (σ:=sg []) ⟨⟨_,k,⟨k,k⟩⟩,⟨_,k,⟨k,k⟩⟩,(e1 k k),trivial⟩ trivial k)⟩
     ·intro e t hX
      rcases y13 with y14|y15
      ·obtain ⟨rfl,hent⟩:=hX
       refine aW<|bE<|tn<|aO hent<|rg<|am k k<|ae (bV k k) k<|aa k k<|an<|tn ?_
       obtain rfl:=so h
       exact ⟨_,k,(aE (σ:=sg []) ⟨⟨_,k,⟨k,k⟩⟩,⟨_,k,⟨k,k⟩⟩,(e1 k k),trivial⟩ trivial k)⟩
      ·obtain ⟨rfl,hent⟩:=hX
       refine bB<|bB<|aK<|aK ?_
       obtain rfl:=so h
       exact ⟨_,k,k,hent⟩
   ·refine aS k q2<|bG<|aH<|aH ?_
    obtain rfl:=so h
    exact ⟨_,k,k,(aE (σ:=sg []) trivial trivial k)⟩
  ·intro e t hX
   rcases y16 with y17|y18
   ·obtain ⟨rfl,hent⟩:=hX
    refine aW<|tn<|aO hent<|sQ<|rg<|aa k k<|an<|tn<|aP ?_
    obtain rfl:=so h
    exact aU k k k (bT k)
   ·obtain ⟨rfl,hent⟩:=hX
    refine bB<|aK ?_
    obtain rfl:=so h
    exact hent
def fX (a0:Int) (a1:Sc):Option Bool:=
 Option.bind (nL a0 a1.size a1.basis) fun v1=>
 bif !v1 then
 (some (false))
 else
 (Option.bind (kQ a1.size a1.basis) fun v3=>
 Option.bind (jI a0 v3) fun v4=>
 Option.bind (nM v4 a1.basis) fun v5=>
 some (v5))
theorem pC (a0:Int) (a1:Sc) (r:Bool) (h:fX a0 a1=some r):HasC Tryz.prog 135 [.int a0,.agg (eS a1)] (.bl r):=by
 refine bK aA (rvs:=[.tmp 4]) (ns:=[0,1,2,3,4]) Tryz.func135 k k Tryz.ntmps135 k k k<|sQ<|rg<|ae (cC k k k k) k<|aa k k<|an<|tn<|sQ<|sQ<|rg ?_
 refine am k k<|ae (aD aA k k k k k k k) k<|ae (aC aA k k k k k k k) k<|ae (aD aA k k k k k k k) k<|ae (aC aA k k k k k k k) k ?_
 obtain ⟨v1,hv1,h⟩:=ob h
 refine ae (aZ (aHW a0 a1.size a1.basis v1 hv1) k (aG (aI k) (aG (aI k) (aG (aI k) bA)))) k<|ae (cG k) k<|an<|tn ?_
 rcases cb h with ⟨q2,h⟩|⟨q2,h⟩
 ·refine aL k q2<|sQ<|rg<|aa k k<|an<|tn<|aP<|aK ?_
  obtain rfl:=so h
  exact aU k k k (bT k)
 ·refine aS k q2<|aT<|tn<|sQ<|aY jW<|am k k<|ae (aD aA k k k k k k k) k<|ae (aC aA k k k k k k k) k<|ae (aD aA k k k k k k k) k<|ae (aC aA k k k k k k k) k ?_
  obtain ⟨v3,hv3,h⟩:=ob h
  refine ae (AEff.conv (cR (x:= .agg [.int v3.rows,.int v3.cols,.own 1 0 (List.map eI v3.cells).length]) (nb:=[(1,⟨1,cX (List.map eI v3.cells)⟩)]) (aBv a1.size a1.basis v3 hv3) k (by rfl) k k (bZ trivial (bZ trivial (bZ (eD.good _) gQ))) (aG (aI k) (aG (aI k) bA))) (v':= .agg [.int v3.rows,.int v3.cols,.own 1 0 v3.cells.length]) (ed':=[(1,some ⟨1,List.map (ow eI) v3.cells⟩)]) (by simp only [bD]) (eJ (nb':=[(1,⟨1,List.map (ow eI) v3.cells⟩)]) (by simp only [cT]))) k ?_
  obtain ⟨v4,hv4,h⟩:=ob h
  refine ae (AEff.conv (cR (x:= .own 2 0 (List.map (dA 1 eI) v4).length) (nb:=[(2,⟨1,cX (List.map (dA 1 eI) v4)⟩)]) (aAw a0 v3 v4 hv4) k (by rfl) k k (cI.good _) (aG (aI k) (aG (cA (aM (aQ k) (aM (aQ k) (aM (tK eD k k) cF)))) bA))) (v':= .own 2 0 v4.length) (ed':=[(2,some ⟨1,List.map (ow (dA 1 eI)) v4⟩)]) (by simp only [bD]) (eJ (nb':=[(2,⟨1,List.map (ow (dA 1 eI)) v4⟩)]) (by simp only [cT]))) k<|ae (aD aA k k k k k k k) k<|ae (aC aA k k k k k k k) k ?_
  obtain ⟨v5,hv5,h⟩:=ob h
  refine ae (aZ (aHX v4 a1.basis v5 hv5) k (aG (aAl cI k k) (aG (aI k) bA))) k<|aa k k<|an ?_
  refine ⟨by kernel_rfl,?_⟩
  refine tn<|aO (t:=bU [(4,.bl v5)] [] 3 [3,4]) (aE (σ:=sg []) ⟨(e1 k k),trivial⟩ trivial k)<|aP ?_
  obtain rfl:=so h
  exact aU k k k (bT k)
end
noncomputable section
theorem aMj {l:List (List Int)} {n:Nat} (h: ∀ v∈l,v.length=n):l=(List.range l.length).map fun i=>lM n (dF l i):=by
 refine List.ext_getElem (by simp) fun i h1 h2=>?_
 simp only [List.getElem_map,List.getElem_range]
 refine List.ext_getElem (by rw [fS];exact h _ (List.getElem_mem h1)) fun j h3 h4=>?_
 simp [lM,dF,h1,h3]
theorem aIQ {l:List (List Int)} {n:Nat} (h: ∀ v∈l,v.length=n):l.flatten=dH l.length n (dF l):=by
 have e:l.flatten=((List.range l.length).map fun i=>lM n (dF l i)).flatten:=by rw [←aMj h]
 rw [e,aKZ]
theorem aJQ {p:Int} (hp:kU p=true) {n:Nat} {l:List (List Int)} (hn:n≤1024) (hl:l.length≤512) (h:VecsP p n l):Tb p l.length n (dF l):=by
 refine ⟨hp,?_,by omega,by omega,h.inP⟩
 have:=Nat.mul_le_mul hl hn
 omega
theorem aKa {r c i:Nat} (hN:r*c≤1048576) (hr:r≤1048576) (hi:i<r) (F:Nat→Nat→Int):((dH r c F).drop (0+(i*c))).take ((i*c+c) - i*c)=lM c (F i):=by
 have h:= @aGg r c i hi
 rw [Nat.succ_mul] at h
 refine List.ext_getElem (by simp [gY,fS];omega) fun t h1 h2=>?_
 rw [fS] at h2
 rw [List.getElem_take,List.getElem_drop]
 simp [dH,lM,aGR h2,aGS h2]
theorem aBx (F:Nat→Nat→Int) (r n:Nat):fW F r n=(List.range r).map fun i=>lM n (F i):=rfl
theorem aBy (F:Nat→Nat→Int) (r n:Nat):fW F r n++[lM n (F r)]=fW F (r+1) n:=by
 rw [aBx,aBx,List.range_succ,List.map_append];rfl
theorem aLk {n:Nat} {l:List (List Int)} (hn:n≤1024) (hl:l.length≤512) (h: ∀ v∈l,v.length=n):rK n l=some ⟨l.length,n,dH l.length n (dF l)⟩:=by
 unfold rK
 rw [aOg hl (fun v hv=>by rw [h v hv];exact hn),Option.bind_some,aIQ h]
theorem aGn {p:Int} (hp:kU p=true) {n:Nat} {l:List (List Int)} (hn:n≤1024) (hl:l.length≤512) (h:VecsP p n l):vO p n l=some ⟨n,fU p n l⟩:=by
 have T:=aJQ hp hn hl h
 have hL:= @tB p l.length (dF l) n
 have h1:=T.hN
 unfold vO
 rw [aLk hn hl (fun v hv=>(h v hv).1),Option.bind_some,aJN T,Option.bind_some]
 rw [fA (r:=fU p n l) (fun k=>(fW (dB p l.length (dF l) n).1 k n,(k:Int))) (dB p l.length (dF l) n).2.length (by simp [fW]) (fun k hk=>?_) (fun _=>?_),Option.bind_some]
 ·have hkl:k<l.length:=by omega
  have h3:= @aGg l.length n k hkl
  rw [Nat.succ_mul] at h3
  unfold tZ
  simp only
  rw [lO,kN hk,cond_true,aGh T.hN T.hm hkl,Option.bind_some,sE T.hN hkl,uX T.hN T.hm hkl]
  simp only [Int.toNat_natCast]
  rw [aKa T.hN T.hm hkl]
  unfold tP
  rw [fS,decide_eq_true (by omega),cond_true,Option.bind_some,pW,decide_eq_true (by omega),cond_true,aBy,dG hk (by omega)]
 ·unfold tZ
  simp only
  rw [lO,nV (Nat.le_refl _),cond_false]
  rfl
theorem aKb {n:Nat} {l:List (List Int)} (hn:n≤1024) (hl:l.length≤512) (h: ∀ v∈l,v.length=n):kQ n l=some ⟨l.length,n,dH l.length n (dF l)⟩:=by
 have hb: ∀ k,(l.take k).flatten.length ≤1024*512:=fun k=>by
  have:=aIP (l:=l.take k) fun x hx=>by rw [h x (List.mem_of_mem_take hx)];exact hn
  have h2:(l.take k).length ≤512:=by simp;omega
  omega
 unfold kQ
 rw [fA (r:=l.flatten) (fun k=>((l.take k).flatten,(k:Int))) l.length (by simp) (fun k hk=>?_) (fun _=>?_),Option.bind_some,aIQ h]
 ·unfold qG
  simp only
  have e2:=hb (k+1)
  rw [wV hk,List.length_append] at e2
  rw [kN hk,cond_true,gE hk,Option.bind_some,decide_eq_true (by omega),cond_true,dG hk (by omega),wV hk]
 ·unfold qG
  simp only
  rw [nV (Nat.le_refl _),cond_false,List.take_length]
theorem aIR {p:Int} {m n:Nat} {F:Nat→Nat→Int} (T:Tb p m n F):jI p ⟨m,n,dH m n F⟩=some (fW (dB p m F n).1 (dB p m F n).2.length n):=by
 have hL:= @tB p m F n
 have hm:=T.hm
 have hn:=T.hn
 unfold jI
 rw [aJO T,Option.bind_some]
 rw [fA (r:=fW (dB p m F n).1 (dB p m F n).2.length n) (fun k=>(fW (dB p m F n).1 k n,(k:Int))) (dB p m F n).2.length (by simp [fW]) (fun k hk=>?_) (fun _=>?_),Option.bind_some]
 ·have hkl:k<m:=by omega
  have h3:= @aGg m n k hkl
  rw [Nat.succ_mul] at h3
  have h4:=T.hN
  have e:wr (wr ((k:Int)*(n:Int))+(n:Int))=((k*n+n:Nat):Int):=by rw [sE T.hN hkl,eZ (by omega)];omega
  unfold nZ
  simp only
  rw [lO,kN hk,cond_true,e,sE T.hN hkl,gY,decide_eq_true (by omega),decide_eq_true (by omega:((k*n:Nat):Int)≤((k*n+n:Nat):Int)),decide_eq_true (by omega:((k*n+n:Nat):Int)≤((m*n:Nat):Int))]
  simp only [Int.toNat_natCast,Bool.and_self,cond_true,aKa T.hN T.hm hkl]
  rw [fS,decide_eq_true (by simp;omega),cond_true,pW,decide_eq_true (by omega),cond_true,List.nil_append,aBy,dG hk (by omega)]
 ·unfold nZ
  simp only
  rw [lO,nV (Nat.le_refl _),cond_false]
theorem aKc {p:Int} (hp:kU p=true) {n:Nat} {l:List (List Int)} (hn:n≤1024) (hl:l.length≤512) (h:VecsP p n l):qT p n l=some ⟨n,fU p n l⟩:=by
 unfold qT
 rw [aKb hn hl (fun v hv=>(h v hv).1),Option.bind_some,aIR (aJQ hp hn hl h),Option.bind_some]
 rfl
def bLs (l:List (List Int)):Prop:=l.length≤1048576∧ ∀ v∈l,bI v
theorem aLl (p:Int) (v:List Int):(kU p&&decide (v.length≤64)&&v.all fun x=>lZ x 0 (wr (p - 1)))=aAh p v:=by
 unfold aAh
 cases h:kU p with
 |false=>rfl
 |true=>rw [eZ (by have:=gF h;omega)]
theorem aPr {α:Type} {l:List α} {P Q:α→Bool} (h: ∀ x∈l,P x=Q x):l.all P=l.all Q:=by
 induction l with
 |nil=>rfl
 |cons x l ih=>rw [List.all_cons,List.all_cons,h x (by simp),ih fun y hy=>h y (by simp [hy])]
theorem aFs (p size:Int) (l:List (List Int)):aCz p size l=(kU p&&lZ size 0 8&&decide (l.length≤16)&&l.all fun v=>decide ((v.length:Int)=size)&&aAh p v):=rfl
theorem aDS {l:List (List Int)} {f:List Int→Option Bool} (P:List Int→Bool) (hf: ∀ x∈l,f x=some (P x)) (h:l.length≤1048576):eB l f=some (l.any P):=by
 unfold eB hZ
 rw [aDz (s0:=0) (s:=0) (n:=l.length) (fun k=>bif P (l[k]?.getD []) then some (k:Int) else none) rfl (by omega) (Nat.zero_le _) (fun k _ hk=>?_) (fun _=>?_)]
 ·rw [Option.bind_some]
  cases e:(List.range' 0 (l.length - 0)).findSome? (fun k:Nat=>bif P (l[k]?.getD []) then some (k:Int) else none) with
  |none=>
   rw [List.findSome?_eq_none_iff] at e
   have:l.any P=false:=by
    rw [List.any_eq_false]
    intro x hx
    obtain ⟨k,hk,rfl⟩:=List.mem_iff_getElem.1 hx
    have:=e k (by simp;omega)
    simp only [List.getElem?_eq_getElem hk,Option.getD_some] at this
    cases hp:P l[k] with
    |false=>simp
    |true=>rw [hp] at this;cases this
   rw [this];rfl
  |some i=>
   obtain ⟨k,hk,he⟩:=List.exists_of_findSome?_eq_some e
   simp at hk
   have hkl:k<l.length:=by omega
   rw [List.getElem?_eq_getElem hkl] at he
   simp only [Option.getD_some] at he
   cases hp:P l[k] with
   |false=>rw [hp] at he;cases he
   |true=>
    rw [hp] at he
    cases he
    have:l.any P=true:=List.any_eq_true.2 ⟨_,List.getElem_mem hkl,hp⟩
    rw [this]
    simp only [Sum.elim_inr,Option.bind_some]
    rw [decide_eq_true (by omega)]
 ·unfold fH
  rw [kN hk,cond_true,pQ [] hk,Option.bind_some,hf _ (dI [] hk),Option.bind_some]
  cases P _ <;> rfl
 ·unfold fH
  rw [nV (Nat.le_refl _),cond_false]
theorem aJR (p n:Int) {l:List (List Int)} (h:bLs l):oA p n l=some (lZ n 0 8&&(decide (l.length≤16)&&l.all fun v=>decide ((v.length:Int)=n)&&aAh p v)):=by
 unfold oA
 rw [tX,Option.bind_some]
 refine fJ fun _=>?_
 rw [show decide ((l.length:Int)≤16)=decide (l.length≤16) by rw [Bool.eq_iff_iff,decide_eq_true_eq,decide_eq_true_eq];omega]
 refine fJ fun _=>?_
 rw [aDS (fun v=> !(decide ((v.length:Int)=n)&&aAh p v)) (fun v hv=>?_) h.1,Option.bind_some,List.not_any_eq_all_not]
 ·simp
 ·unfold lB
  cases decide ((v.length:Int)=n) with
  |false=>rfl
  |true=>rw [Bool.not_true,cond_false,aIJ p (h.2 v hv),Option.bind_some,aLl,Bool.true_and]
theorem aNT {a b:List (List Int)} (h:bLs a):dX a b (fun b0 b1=>iA b0 b1)=some (decide (a=b)):=by
 obtain ⟨h,hb⟩:=h
 unfold dX
 rw [aAt]
 by_cases e:a.length=b.length
 ·rw [decide_eq_true e,Bool.not_true,cond_false]
  refine aDN (by omega) e (fun k h1 h2=>?_) ?_
  ·unfold dP iA
   simp only
   rw [kN h1,cond_true,gE h1,Option.bind_some,gE h2,Option.bind_some,aNL (hb _ (List.getElem_mem h1)),Option.bind_some,Option.bind_some]
   cases decide (a[k]=b[k]) <;> rfl
  ·unfold dP
   rw [nV (Nat.le_refl _),cond_false]
 ·rw [decide_eq_false e,Bool.not_false,cond_true,decide_eq_false (by rintro rfl;exact e rfl)]
theorem aHY {a b:Sc} (h:bLs a.basis):mM a b=some (decide (a.size=b.size)&&decide (a.basis=b.basis)):=by
 unfold mM
 refine fJ fun _=>?_
 rw [aNT h,Option.bind_some]
theorem aQk {p:Int} {n:Nat} {l:List (List Int)} (hl:l.length≤1048576) (hn:n≤1048576) (h:VecsP p n l):bLs l:=⟨hl,fun v hv=>by unfold bI;rw [(h v hv).1];exact hn⟩
theorem aKd {p:Int} (hp:kU p=true) {n:Nat} {l:List (List Int)} (hn:n≤1048576) (h:VecsP p n l):bLs (fU p n l):=aQk (by have:=(@aAj p n l).1;omega) hn (aEC hp h.inP)
theorem aHZ (p:Int) {s:Sc} (h:bS s):uA p s=some (nN p s.size s.basis):=by
 unfold uA nN
 rw [aBa,Option.bind_some,aJR p s.size h.1,Option.bind_some,aFs]
 cases hf:kU p with
 |false=>simp
 |true=>
  rw [Bool.not_true,cond_false]
  cases hv:(lZ s.size 0 8&&(decide (s.basis.length≤16)&&s.basis.all fun v=>decide ((v.length:Int)=s.size)&&aAh p v)) with
  |false=>
   have hx:(true&&lZ s.size 0 8&&decide (s.basis.length≤16)&&s.basis.all fun v=>decide ((v.length:Int)=s.size)&&aAh p v)=false:=by rw [Bool.true_and,Bool.and_assoc];exact hv
   rw [hx];rfl
  |true=>
   have hfine:aCz p s.size s.basis=true:=by rw [aFs,hf];simp only [Bool.true_and,Bool.and_assoc];exact hv
   obtain ⟨_,n,e,hn,hl,hv2⟩:=aAk hfine
   rw [Bool.not_true,cond_false,e,aGn hf (by omega) (by omega) hv2,Option.bind_some,aHY (aKd hf (by omega) hv2),Option.bind_some]
   rw [e] at hfine
   rw [aFs,hf] at hfine
   rw [hfine]
   simp [e]
theorem aOj (p n:Int) {l:List (List Int)} (h:bLs l):nL p n l=some (aCz p n l):=by
 unfold nL
 have hall:=nJ ([]:List Int) l (fun v=>decide ((v.length:Int)=n)&&aAh p v)
 have hb:=h.1
 rw [sB (fun k=>decide ((((l[k]?.getD []).length:Nat):Int)=n)&&aAh p (l[k]?.getD [])) false (n:=l.length) (by omega) (fun k hk=>?_) (fun _=>?_),Option.bind_some,hall,aFs]
 ·cases l.all fun v=>decide ((v.length:Int)=n)&&aAh p v with
  |false=>simp
  |true=>
   simp only [cond_true,Sum.elim_inl]
   rw [aDO,Option.bind_some,sD,Option.bind_some,Bool.and_true,Bool.and_assoc]
   refine fJ fun _=>?_
   refine fJ fun _=>?_
   congr 1
   rw [Bool.eq_iff_iff,decide_eq_true_eq,decide_eq_true_eq];omega
 ·unfold iY
  rw [kN hk,cond_true,pQ [] hk,Option.bind_some,Option.bind_some,aEN p (h.2 _ (dI [] hk)),Option.bind_some,aLl]
  cases decide ((((l[k]?.getD []).length:Nat):Int)=n) <;> cases aAh p (l[k]?.getD []) <;> rfl
 ·unfold iY
  rw [nV (Nat.le_refl _),cond_false]
theorem aOk {a b:List (List Int)} (h:bLs a):nM a b=some (decide (a=b)):=by
 obtain ⟨h,hb⟩:=h
 unfold nM
 rw [aAt]
 by_cases e:a.length=b.length
 ·rw [decide_eq_true e,Bool.not_true,cond_false]
  refine aDN (by omega) e (fun k h1 h2=>?_) ?_
  ·have hbk:=hb _ (List.getElem_mem h1)
   unfold bI at hbk
   unfold iZ
   rw [kN h1,cond_true,gE h1,Option.bind_some,gE h2,Option.bind_some,aAt]
   by_cases e2:a[k].length=b[k].length
   ·rw [decide_eq_true e2,Bool.not_true,cond_false]
    have h3:=sB (body:=lP a b k) (fun j=>decide (a[k][j]?.getD 0=b[k][j]?.getD 0)) false (n:=a[k].length) (by omega) (fun j hj=>?_) ?_
    ·rw [h3,aKK e2,Option.bind_some]
     cases decide (a[k]=b[k]) <;> rfl
    ·unfold lP
     rw [gE h1,Option.bind_some,kN hj,cond_true,Option.bind_some,pQ 0 hj,Option.bind_some,gE h2,Option.bind_some,pQ 0 (e2▸hj),Option.bind_some]
     cases decide (a[k][j]?.getD 0=b[k][j]?.getD 0) <;> rfl
    ·intro _
     unfold lP
     rw [gE h1,Option.bind_some,nV (Nat.le_refl _),cond_false]
   ·rw [decide_eq_false e2,Bool.not_false,cond_true,decide_eq_false (fun e3=>e2 (by rw [e3])),cond_false]
  ·unfold iZ
   rw [nV (Nat.le_refl _),cond_false]
 ·rw [decide_eq_false e,Bool.not_false,cond_true,decide_eq_false (by rintro rfl;exact e rfl)]
theorem vK (p:Int) {s:Sc} (h:bS s):fX p s=some (nN p s.size s.basis):=by
 unfold fX nN
 rw [aOj p s.size h.1,Option.bind_some]
 cases hf:aCz p s.size s.basis with
 |false=>rfl
 |true=>
  obtain ⟨hp,n,e,hn,hl,hv⟩:=aAk hf
  rw [Bool.not_true,cond_false,e,aKb (by omega) (by omega) (fun v hv'=>(hv v hv').1),Option.bind_some,aIR (aJQ hp (by omega) (by omega) hv),Option.bind_some,show fW (dB p s.basis.length (dF s.basis) n).1 (dB p s.basis.length (dF s.basis) n).2.length n=fU p n s.basis from rfl,aOk (aKd hp (by omega) hv),Option.bind_some]
  simp
end
noncomputable section
set_option maxRecDepth 10000
set_option maxHeartbeats 4000000
end
noncomputable section
section
variable {α:Type} {mv:Int→α→α} {nv:α→Nat}
end
end
noncomputable section
set_option maxRecDepth 10000
set_option maxHeartbeats 4000000
end
noncomputable section
theorem aOl {p:Int} (hp:kU p=true) {n:Nat} {l l':List (List Int)} (h:InP p l.length n (dF l)) (h':InP p l'.length n (dF l')) (hK: ∀ x,Kr p l.length n (dF l) x↔Kr p l'.length n (dF l') x):fU p n l=fU p n l':=by
 obtain ⟨e1,e2⟩:=aJB hp h h' hK
 unfold fU
 rw [←e1]
 exact aAi e2
end
noncomputable section
theorem aOm {k:Nat} {f:Nat→Nat} (hlt: ∀ t,t<k→f t<k) (hinc: ∀ s t,s<t→t<k→f s<f t): ∀ t,t<k→f t=t:=by
 have h1: ∀ t,t<k→t≤f t:=by
  intro t
  induction t with
  |zero=>intro _;exact Nat.zero_le _
  |succ t ih=>intro h;have:=ih (by omega);have:=hinc t (t+1) (by omega) h;omega
 have h2: ∀ d t,t+d+1=k→f t≤t:=by
  intro d
  induction d with
  |zero=>intro t h;have:=hlt t (by omega);omega
  |succ d ih=>intro t h;have:=ih (t+1) (by omega);have:=hinc t (t+1) (by omega) (by omega);omega
 intro t ht
 have:=h1 t ht
 have:=h2 (k - t - 1) t (by omega)
 omega
theorem aLm {L M:List Nat} (hL: ∀ i k,i<k→k<L.length→L[i]?.getD 0<L[k]?.getD 0) (hM: ∀ i k,i<k→k<M.length→M[i]?.getD 0<M[k]?.getD 0) (hs: ∀ t,t<M.length→ ∃ i,i<L.length∧L[i]?.getD 0=M[t]?.getD 0) (hl:L.length=M.length):L=M:=by
 have hs': ∀ t:Nat,∃ i,t<M.length→i<L.length∧L[i]?.getD 0=M[t]?.getD 0:=fun t=>by
  by_cases h:t<M.length
  ·obtain ⟨i,hi⟩:=hs t h;exact ⟨i,fun _=>hi⟩
  ·exact ⟨0,fun h'=>absurd h' h⟩
 obtain ⟨f,hf⟩:=Classical.axiomOfChoice hs'
 have e:=aOm (k:=M.length) (f:=f) (fun t ht=>hl▸(hf t ht).1) (fun s t hst ht=>by
  rcases Nat.lt_trichotomy (f s) (f t) with h|h|h
  ·exact h
  ·have a:=(hf s (by omega)).2;have b:=(hf t ht).2;have c:=hM s t hst ht;rw [h,b] at a;omega
  ·have a:=(hf s (by omega)).2;have b:=(hf t ht).2;have c:=hM s t hst ht
   have:=hL (f t) (f s) h (hf s (by omega)).1
   omega)
 refine List.ext_getElem hl fun i h1 h2=>?_
 have:=(hf i h2).2
 rw [e i h2] at this
 simpa [h1,h2] using this
theorem aOn {p:Int} (hp:kU p=true) {m m' n:Nat} {F G:Nat→Nat→Int} {L M:List Nat} (hF:Red m n F L) (hG:Red m' n G M) (iF:InP p m n F) (iG:InP p m' n G) (hK: ∀ x,Kr p m n F x→Kr p m' n G x) (hl:L.length=M.length):L=M∧ ∀ i j,i<L.length→j<n→F i j=G i j:=by
 have e:L=M:=aLm hF.inc hG.inc (fun t ht=>aJA hp hF hG hK ht) hl
 subst e
 refine ⟨rfl,fun i k hi hk=>?_⟩
 have hm:=hF.len
 have hm':=hG.len
 by_cases hL: ∃ t,t<L.length∧L[t]?.getD 0=k
 ·obtain ⟨t,ht,rfl⟩:=hL
  by_cases e:i=t
  ·subst e;rw [hF.one i hi,hG.one i hi]
  ·rw [hF.col t i ht (by omega) e,hG.col t i ht (by omega) e]
 ·have hL: ∀ t,t<L.length→L[t]?.getD 0≠k:=fun t ht e=>hL ⟨t,ht,e⟩
  have h1:=hK _ (aIz (p:=p) hF hk hL) i (by omega)
  rw [aKN hF hk hL,aED (j:=i) hi (fun t ht hti=>by rw [hG.col t i ht (by omega) (fun e=>hti e.symm)];simp),hG.one i hi,Int.one_mul] at h1
  unfold Z0 at h1
  have b1:=iF i k (by omega) hk
  have b2:=iG i k (by omega) hk
  have e1:G i k % p=F i k % p:=by
   have:=Int.emod_emod_of_dvd
   exact Int.emod_eq_emod_iff_emod_sub_eq_zero.2 h1
  rw [Int.emod_eq_of_lt b2.1 b2.2,Int.emod_eq_of_lt b1.1 b1.2] at e1
  exact e1.symm
theorem aIS {p:Int} {n:Nat} {l:List (List Int)} (hp:kU p=true) (hv:VecsP p n l) (hs:fU p n l=l): ∃ L,L.length=l.length∧Red l.length n (dF l) L:=by
 have hi:=hv.inP
 have hr:=aEB hp hi n (Nat.le_refl _)
 have hlen:(dB p l.length (dF l) n).2.length=l.length:=by
  have:=congrArg List.length hs
  unfold fU at this
  rw [pW] at this
  exact this
 have hrow: ∀ i j,i<l.length→j<n→(dB p l.length (dF l) n).1 i j=dF l i j:=by
  intro i j hi hj
  have:=aGV (dB p l.length (dF l) n).1 (dB p l.length (dF l) n).2.length n i j (by omega) hj
  unfold fU at hs
  rw [hs] at this
  exact this.symm
 refine ⟨_,hlen,⟨hr.lt,hr.inc,by omega,fun i h=>?_,fun i k h hk hne=>?_,fun i j h h2 hj=>?_,fun i j h hj=>?_⟩⟩
 ·rw [←hrow i _ (by omega) (hr.lt i h)];exact hr.one i h
 ·rw [←hrow k _ hk (hr.lt i h)];exact hr.col i k h hk hne
 ·omega
 ·rw [←hrow i j (by omega) (by have:=hr.lt i h;omega)];exact hr.left i j h hj
def rsF (p:Int) (B:Nat→Nat→Int) (L:List Nat) (v:Nat→Int):Nat→Nat→Int
 |0=>v
 |t+1=>fun j=>(rsF p B L v t j+(p - rsF p B L v t (L[t]?.getD 0))*B t j) % p
theorem aOo {p:Int} (hp:kU p=true) {B:Nat→Nat→Int} {L:List Nat} {v:Nat→Int} {n:Nat} (hv: ∀ j,j<n→0≤v j∧v j<p): ∀ t j,j<n→0≤rsF p B L v t j∧rsF p B L v t j<p
 |0,j,h=>hv j h
 |t+1,j,_=>yI hp
theorem aJS {p:Int} (hp:kU p=true) {m n:Nat} {B:Nat→Nat→Int} {L:List Nat} (h:Red m n B L) {v:Nat→Int} : ∀ t,t≤L.length→ ∀ s,s<t→rsF p B L v t (L[s]?.getD 0)=0
 |0,_,s,hs=>absurd hs (Nat.not_lt_zero _)
 |t+1,ht,s,hs=>by
  have hm:=h.len
  simp only [rsF]
  by_cases e:s=t
  ·subst e
   rw [h.one s (by omega),Int.mul_one,show rsF p B L v s (L[s]?.getD 0)+(p - rsF p B L v s (L[s]?.getD 0))=p by omega,Int.emod_self]
  ·rw [h.col s t (by omega) (by omega) (fun e'=>e e'.symm),aJS hp h t (by omega) s (by omega)]
   simp
theorem aLn {p:Int} (hp:kU p=true) {m n:Nat} {B:Nat→Nat→Int} {L:List Nat} (hL:L.length≤m) {v x:Nat→Int} (hx:Kr p m n B x): ∀ t,t≤L.length→dt n (rsF p B L v t) x % p=dt n v x % p
 |0,_=>rfl
 |t+1,ht=>by
  have ih:=aLn hp hL (v:=v) hx t (by omega)
  have h1:=hx t (by omega)
  rw [←ih]
  simp only [rsF]
  rw [aIy (g:=fun j=>rsF p B L v t j+(p - rsF p B L v t (L[t]?.getD 0))*B t j) (fun k _=>by rw [Int.emod_emod_of_dvd _ (Int.dvd_refl p)]),aON]
  have h2:=aGW (p - rsF p B L v t (L[t]?.getD 0)) h1
  unfold Z0 at h2
  rw [Int.add_emod,h2]
  simp
theorem aOp {p:Int} (hp:kU p=true) {m n:Nat} {B:Nat→Nat→Int} {L:List Nat} (h:Red m n B L) {v:Nat→Int} (hv: ∀ j,j<n→0≤v j∧v j<p):(∀ j,j<n→rsF p B L v L.length j=0)↔ ∀ x,Kr p m n B x→Z0 p (dt n v x):=by
 constructor
 ·intro hz x hx
  have:=aLn hp h.len (v:=v) hx L.length (Nat.le_refl _)
  unfold Z0
  rw [←this]
  have e:dt n (rsF p B L v L.length) x=0:=by
   unfold dt
   rw [oZ (g:=fun _=>0) (fun k hk=>by rw [hz k hk];simp),aAH]
  rw [e]
  simp
 ·intro hz k hk
  by_cases hL: ∃ t,t<L.length∧L[t]?.getD 0=k
  ·obtain ⟨t,ht,rfl⟩:=hL
   exact aJS hp h L.length (Nat.le_refl _) t ht
  ·have hL: ∀ t,t<L.length→L[t]?.getD 0≠k:=fun t ht e=>hL ⟨t,ht,e⟩
   have hx:=aIz (p:=p) h hk hL
   have h1:=hz _ hx
   unfold Z0 at h1
   rw [←aLn hp h.len (v:=v) hx L.length (Nat.le_refl _),aKN h hk hL,oZ (g:=fun _=>0) (fun i hi=>by rw [aJS hp h L.length (Nat.le_refl _) i hi];simp),aAH,Int.sub_zero] at h1
   have b:=aOo hp (B:=B) (L:=L) hv L.length k hk
   rw [Int.emod_eq_of_lt b.1 b.2] at h1
   exact h1
theorem aBc {p:Int} {n:Nat} {a b:List (List Int)} {x:Nat→Int} :Kr p (a++b).length n (dF (a++b)) x↔Kr p a.length n (dF a) x∧Kr p b.length n (dF b) x:=by
 have e1: ∀ i,i<a.length→dF (a++b) i=dF a i:=fun i hi=>by funext j;simp only [dF];rw [List.getElem?_append_left hi]
 have e2: ∀ i,dF (a++b) (a.length+i)=dF b i:=fun i=>by funext j;simp only [dF];rw [List.getElem?_append_right (by omega),Nat.add_sub_cancel_left]
 unfold Kr
 rw [List.length_append]
 refine ⟨fun h=>⟨fun i hi=>e1 i hi▸h i (by omega),fun i hi=>e2 i▸h (a.length+i) (by omega)⟩,fun h i hi=>?_⟩
 rcases Nat.lt_or_ge i a.length with h'|h'
 ·rw [e1 i h'];exact h.1 i h'
 ·have:=h.2 (i - a.length) (by omega)
  rw [←e2,show a.length+(i - a.length)=i by omega] at this
  exact this
theorem aAM {p:Int} (hp:kU p=true) {n:Nat} {a b:List (List Int)} (ha:VecsP p n a) (hb:VecsP p n b) (hs:fU p n b=b):(aHP p n a b).length=b.length↔ ∀ x,Kr p b.length n (dF b) x→Kr p a.length n (dF a) x:=by
 have hi:=(ha.append hb).inP
 constructor
 ·intro hl x hx
  obtain ⟨L,hLl,hR⟩:=aIS hp hb hs
  have hr:=aEB hp hi n (Nat.le_refl _)
  have hb':=gF hp
  have hlen:(dB p (a++b).length (dF (a++b)) n).2.length=L.length:=by
   unfold aHP fU at hl
   rw [pW] at hl
   omega
  obtain ⟨_,h2⟩:=aOn hp hr hR (qR (by omega) hi n) hb.inP (fun x hx=>(aBc.1 ((aDA hp hi x n (Nat.le_refl _)).1 hx)).2) hlen
  refine (aBc.1 ((aDA hp hi x n (Nat.le_refl _)).1 fun i hi'=>?_)).1
  rcases Nat.lt_or_ge i (dB p (a++b).length (dF (a++b)) n).2.length with h'|h'
  ·have e:dt n ((dB p (a++b).length (dF (a++b)) n).1 i) x=dt n (dF b i) x:=oZ fun k hk=>by rw [h2 i k h' hk]
   rw [e]
   exact hx i (by omega)
  ·have e:dt n ((dB p (a++b).length (dF (a++b)) n).1 i) x=0:=by
    unfold dt
    rw [oZ (g:=fun _=>0) (fun k hk=>by rw [hr.low i k h' hi' hk];simp),aAH]
   rw [e]
   unfold Z0
   simp
 ·intro hK
  unfold aHP
  rw [aOl hp hi hb.inP fun x=>⟨fun h=>(aBc.1 h).2,fun h=>aBc.2 ⟨hK x h,h⟩⟩,hs]
end
noncomputable section
def sV (r:Rp) (i:Nat):Nat:=(r.q.src[i]?.getD 0).toNat
def tV (r:Rp) (i:Nat):Nat:=(r.q.tgt[i]?.getD 0).toNat
def aF (r:Rp) (i:Nat):Nat→Nat→Int:=fun j k=>(r.maps[i]?.getD ⟨0,0,[]⟩).cells[j*dN r (sV r i)+k]?.getD 0
structure Rv (r:Rp):Prop where
 hp:kU r.p=true
 n5:r.dims.length≤5
 d: ∀ k,k<r.dims.length→r.dims[k]?.getD 0=(dN r k:Int)∧dN r k≤4
 e6:r.q.src.length≤6
 tl:r.q.tgt.length=r.q.src.length
 ml:r.maps.length=r.q.src.length
 s: ∀ i,i<r.q.src.length→r.q.src[i]?.getD 0=(sV r i:Int)∧sV r i<r.dims.length
 t: ∀ i,i<r.q.src.length→r.q.tgt[i]?.getD 0=(tV r i:Int)∧tV r i<r.dims.length
 m: ∀ i,i<r.q.src.length→r.maps[i]?.getD ⟨0,0,[]⟩=⟨dN r (tV r i),dN r (sV r i),dH (dN r (tV r i)) (dN r (sV r i)) (aF r i)⟩∧InP r.p (dN r (tV r i)) (dN r (sV r i)) (aF r i)
theorem aKe {r:Rp} (h:aDP r=true):Rv r:=by
 obtain ⟨hp,hD,hml,hM⟩:=aOf h
 obtain ⟨hQ,hd1,hd2,_⟩:=aAv hD
 obtain ⟨n,hn,hn1,hn5,hq1,hq2,hq3,hq4⟩:=aAu hQ
 have hdl:r.dims.length=n:=by omega
 have hd: ∀ k,k<r.dims.length→r.dims[k]?.getD 0=(dN r k:Int)∧dN r k≤4:=by
  intro k hk
  have:=hd2 _ (dI 0 hk)
  unfold dN
  omega
 have hs: ∀ i,i<r.q.src.length→r.q.src[i]?.getD 0=(sV r i:Int)∧sV r i<r.dims.length:=by
  intro i hi
  have:=hq3 _ (dI 0 hi)
  unfold sV
  omega
 have ht: ∀ i,i<r.q.src.length→r.q.tgt[i]?.getD 0=(tV r i:Int)∧tV r i<r.dims.length:=by
  intro i hi
  have:=hq4 _ (dI 0 (show i<r.q.tgt.length by omega))
  unfold tV
  omega
 refine ⟨hp,by omega,hd,hq2,by omega,hml,hs,ht,fun i hi=>?_⟩
 obtain ⟨g1,g2,g3⟩:=hM i (by omega)
 rw [show (r.q.src[i]?.getD 0).toNat=sV r i from rfl,(hd _ (hs i hi).2).1] at g2
 rw [show (r.q.tgt[i]?.getD 0).toNat=tV r i from rfl,(hd _ (ht i hi).2).1] at g3
 obtain ⟨_,a,b,F,ha,hb,he,hF⟩:=aLf g1
 have ea:a=dN r (tV r i):=by rw [he] at g3;simp only at g3;omega
 have eb:b=dN r (sV r i):=by rw [he] at g2;simp only at g2;omega
 have em: ∀ j k,j<a→k<b→aF r i j k=F j k:=by
  intro j k hj hk
  unfold aF
  rw [he,←eb]
  simp only
  rw [lE F hj hk];rfl
 subst ea;subst eb
 rw [he]
 refine ⟨?_,fun j k hj hk=>by rw [em j k hj hk];exact hF j k hj hk⟩
 rw [dC em]
theorem aPs {α:Type} {f:Nat→α} {n k:Nat} (h:k<n):dV ((List.range n).map f) (k:Int)=some (f k):=by rw [gE (by simp;exact h)];simp
theorem aHa {R N:Nat} (hN:R*N≤1048576) (h1:R≤1048576) (h2:N≤1048576) (M:Nat→Nat→Int):jH R ((List.range N).map fun k=>lM R fun i=>M i k)=some ⟨R,N,dH R N M⟩:=by
 unfold jH
 rw [List.length_map,List.length_range,aOc hN,Option.bind_some]
 simp only
 rw [fA (r:=dH R N M) (fun k=>(dH R N (fun i j=>if j<k then M i j else 0),(k:Int))) N (by simp) (fun k hk=>?_) (fun _=>?_),Option.bind_some]
 ·unfold jT
  simp only
  rw [List.length_map,List.length_range,kN hk,cond_true,aPs hk,Option.bind_some]
  rw [fA (r:=dH R N (fun i j=>if j<k+1 then M i j else 0)) (fun x=>(dH R N (fun i j=>if j<k∨(j=k∧i<x) then M i j else 0),(x:Int))) R (by simp) (fun x hx=>?_) (fun _=>?_),Option.bind_some,dG hk (by omega)]
  ·unfold jS
   simp only
   rw [fS,kN hx,cond_true,aFr _ hx,Option.bind_some,atT hN hx hk,Option.bind_some,aNQ hN hx hk,dG hx (by omega)]
   congr 3
   refine dC fun i j hi hj=>?_
   simp only [aEA]
   by_cases e:i=x∧j=k
   ·rw [if_pos e,if_pos (by omega),e.1,e.2]
   ·rw [if_neg e]
    by_cases e2:j<k∨j=k∧i<x
    ·rw [if_pos e2,if_pos (by omega)]
    ·rw [if_neg e2,if_neg (by omega)]
  ·unfold jS
   simp only
   rw [fS,nV (Nat.le_refl _),cond_false]
   congr 2
   refine dC fun i j hi hj=>?_
   by_cases e:j<k+1
   ·rw [if_pos e,if_pos (by omega)]
   ·rw [if_neg e,if_neg (by omega)]
 ·unfold jT
  simp only
  rw [List.length_map,List.length_range,nV (Nat.le_refl _),cond_false]
  congr 2
  exact dC fun i j hi hj=>by rw [if_pos hj]
end
noncomputable section
def aQl (n:Nat) (l:List (List Int)):Mt:=⟨n,(l.length:Int),dH n l.length fun i k=>dF l k i⟩
theorem aNU {n:Nat} {l:List (List Int)} (h: ∀ v∈l,v.length=n):l=(List.range l.length).map fun k=>lM n fun i=>dF l k i:=aMj h
theorem aQm {n:Nat} {l:List (List Int)} (hn:n≤1024) (hl:l.length≤512) (h: ∀ v∈l,v.length=n):jH n l=some (aQl n l):=by
 have hN:n*l.length≤1048576:=by have:=Nat.mul_le_mul hn hl;omega
 have e:=aHa hN (by omega) (by omega) (fun i k=>dF l k i)
 rw [←aNU h] at e
 exact e
theorem aRN {α β:Type} {f:α→β} {l:List α} {k:Nat} (hk:k<l.length):(l.take k).map f++[f l[k]]=(l.take (k+1)).map f:=by rw [List.take_succ_eq_append_getElem hk,List.map_append];rfl
end
end Go.Proofs.YtghechfdejhapaaGreat

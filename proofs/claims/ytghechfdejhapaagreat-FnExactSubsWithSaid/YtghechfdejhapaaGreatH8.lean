/-
  Several texts of the claim in one.
-/
import Derived.Test.YtghechfdejhapaaGreatProg
import Derived.Test.YtghechfdejhapaaGreatH7
set_option linter.unusedVariables false
set_option linter.unusedSimpArgs false
namespace Go.Proofs.YtghechfdejhapaaGreat
open Go.RowKit
noncomputable section
set_option maxRecDepth 10000
set_option maxHeartbeats 4000000
def kT (a0:(List Int)) (a1:Int):Option Int:=
 bif decide (wr (a1 - (a0.length:Int))<0) then
 (some ((-1)))
 else
 (some (wr (a1 - (a0.length:Int))))
theorem vJ (a0:(List Int)) (a1:Int) (r:Int) (h:kT a0 a1=some r):HasC Tryz.prog 53 [.list 1 (List.map eI a0),.int a1] (.int r):=by
 refine bN aA (rvs:=[.tmp 4]) (ns:=[0,1]) Tryz.func53 k k Tryz.ntmps53 k k k<|sQ<|rg<|aa k k<|an<|tn<|sQ<|rg<|am k k<|am k k ?_
 refine ae (dG aA k k k) k<|ae (jY k k) k<|aa k k<|an<|tn<|sQ<|sQ<|rg<|am k k<|ae (bD k k k) k ?_
 refine an<|tn ?_
 rcases cb h with ⟨q1,h⟩|⟨q1,h⟩
 ·refine aJ k q1<|sQ<|rg<|aa k k<|an<|tn<|aK<|aI ?_
  obtain rfl:=so h
  exact aT k k k (cS k)
 ·refine aN k q1<|aR<|tn<|sQ<|rg<|am k k<|aa k k<|an<|tn<|aK ?_
  obtain rfl:=so h
  exact aT k k k (cS k)
def wC (a0:Qv) (a1:Int):Option Int:=
 Option.bind (kT a0.src a1) fun v1=>
 bif decide (v1<0) then
 (some ((-1)))
 else
 (Option.bind (kT a0.tgt v1) fun v3=>
 bif decide (v3<0) then
 (some ((-1)))
 else
 (some (v3)))
theorem aFb (a0:Qv) (a1:Int) (r:Int) (h:wC a0 a1=some r):HasC Tryz.prog 52 [.agg (eQ a0),.int a1] (.int r):=by
 refine bN aA (rvs:=[.tmp 4]) (ns:=[0,1,2]) Tryz.func52 k k Tryz.ntmps52 k k k<|sQ<|rg<|ae (cD k k k k) k<|aa k k<|an<|tn<|sQ<|rg<|ae (aD aA k k k k k k k) k ?_
 refine ae (aC aA k k k k k k k) k<|am k k ?_
 obtain ⟨v1,hv1,h⟩:=ob h
 refine ae (bE (vJ a0.src a1 v1 hv1) k (aG (aM k) (aG (aM k) bG))) k<|aa k k<|an<|tn<|sQ<|sQ<|rg<|am k k<|ae (bD k k k) k<|an ?_
 refine tn ?_
 rcases cb h with ⟨q2,h⟩|⟨q2,h⟩
 ·refine aJ k q2<|sQ<|rg<|aa k k<|an<|tn<|aK<|aI ?_
  obtain rfl:=so h
  exact aT k k k (cS k)
 ·refine aN k q2<|aR<|tn<|sQ<|rg<|ae (aD aA k k k k k k k) k<|ae (aC aA k k k k k k k) k<|am k k ?_
  obtain ⟨v3,hv3,h⟩:=ob h
  refine ae (bE (vJ a0.tgt v1 v3 hv3) k (aG (aM k) (aG (aM k) bG))) k<|aa k k<|an<|tn<|aO (t:=bU [(1,.int v3)] [] 1 [1,2]) (aE (σ:=sg []) ⟨(e1 k k),trivial⟩ trivial k)<|sQ<|sQ<|rg<|am k k<|ae (bD k k k) k ?_
  refine an<|tn ?_
  rcases cb h with ⟨q4,h⟩|⟨q4,h⟩
  ·refine aJ k q4<|sQ<|rg<|aa k k<|an<|tn<|aK<|aI ?_
   obtain rfl:=so h
   exact aT k k k (cS k)
  ·refine aN k q4<|aR<|tn<|sQ<|rg<|am k k<|aa k k<|an<|tn<|aK ?_
   obtain rfl:=so h
   exact aT k k k (cS k)
def wD (a0:Mt) (a1:Int):Option Int:=
 Option.bind (kT a0.cells a1) fun v1=>
 bif decide (v1<0) then
 (some ((-1)))
 else
 (some (v1))
theorem aFc (a0:Mt) (a1:Int) (r:Int) (h:wD a0 a1=some r):HasC Tryz.prog 109 [.agg (eM a0),.int a1] (.int r):=by
 refine bN aA (rvs:=[.tmp 4]) (ns:=[0,1,2]) Tryz.func109 k k Tryz.ntmps109 k k k<|sQ<|rg<|ae (cD k k k k) k<|aa k k<|an<|tn<|sQ<|rg<|ae (aD aA k k k k k k k) k ?_
 refine ae (aC aA k k k k k k k) k<|am k k ?_
 obtain ⟨v1,hv1,h⟩:=ob h
 refine ae (bE (vJ a0.cells a1 v1 hv1) k (aG (aM k) (aG (aM k) bG))) k<|aa k k<|an<|tn<|sQ<|sQ<|rg<|am k k<|ae (bD k k k) k<|an ?_
 refine tn ?_
 rcases cb h with ⟨q2,h⟩|⟨q2,h⟩
 ·refine aJ k q2<|sQ<|rg<|aa k k<|an<|tn<|aK<|aI ?_
  obtain rfl:=so h
  exact aT k k k (cS k)
 ·refine aN k q2<|aR<|tn<|sQ<|rg<|am k k<|aa k k<|an<|tn<|aK ?_
  obtain rfl:=so h
  exact aT k k k (cS k)
def kZ (a0:(List Mt)) (x1:(Int×Int)):Option ((Int×Int) ⊕ (Int ⊕ Int)):=
 bif decide (x1.2<(a0.length:Int)) then
 (Option.bind (dX a0 x1.2) fun v3=>
 Option.bind (wD v3 x1.1) fun v4=>
 bif decide (v4<0) then
 (some (.inr (.inr ((-1)))))
 else
 (some (.inl (v4,wr (x1.2+1)))))
 else
 (some (.inr (.inl x1.1)))
def pX (a0:(List Mt)) (a1:Int):Option Int:=
 bif decide (wr (a1 - (a0.length:Int))<0) then
 (some ((-1)))
 else
 (Option.bind (Lp (kZ a0) (wr (a1 - (a0.length:Int)),0)) fun y6=>
 Sum.elim (fun y7=>
 some (y7)
 )
 (fun y8=>
 some y8
 )
 y6)
theorem aEX (a0:(List Mt)) (a1:Int) (r:Int) (h:pX a0 a1=some r):HasC Tryz.prog 54 [.list 3 (List.map eM a0),.int a1] (.int r):=by
 refine bN aA (rvs:=[.tmp 4]) (ns:=[0,1]) Tryz.func54 k k Tryz.ntmps54 k k k<|sQ<|rg<|aa k k<|an<|tn<|sQ<|rg<|am k k<|am k k ?_
 refine ae (dG aA k k k) k<|ae (jY k k) k<|aa k k<|an<|tn<|sQ<|sQ<|rg<|am k k<|ae (bD k k k) k ?_
 refine an<|tn ?_
 rcases cb h with ⟨q1,h⟩|⟨q1,h⟩
 ·refine aJ k q1<|sQ<|rg<|aa k k<|an<|tn<|aK<|aI ?_
  obtain rfl:=so h
  exact aT k k k (cS k)
 ·refine aN k q1<|aR<|tn<|sQ<|sQ<|rg<|aa k k<|an<|tn<|aL ?_
  obtain ⟨y6,hy6,h⟩:=ob h
  refine cV (body:=(kZ a0)) hy6 (fun (x1:(Int×Int))=>bU [(0,.list 3 (List.map eM a0)),(1,.int x1.1),(5,.int x1.2)] [] 0 [0,1]) (fun r e t=>Sum.elim (fun a=>(fun r e t=>e= .exit 0∧Ent t (bU [(1,.int r)] [] 0 [0,1])) a e t) (fun b=>(fun r e t=>e= .ret∧nZ TT [.tmp 4] (.int r) .ret t) b e t) r) (aE (σ:=sg []) ⟨⟨_,k,⟨k,k⟩⟩,(e1 k k),(e1 k k),trivial⟩ trivial k) ?_ ?_
  ·intro x1 o h
   refine sQ<|sQ<|rg<|am k k<|am k k<|ae (dG aA k k k) k<|ae (bD k k k) k<|an<|tn ?_
   rcases cb h with ⟨q2,h⟩|⟨q2,h⟩
   ·refine aJ k q2<|aR<|tn<|sQ<|aL<|sQ<|rg<|am k k<|am k k ?_
    obtain ⟨v3,hv3,h⟩:=ob h
    refine ae (bJ aA hv3 k k k k k k) k<|ae (aW aA k k k k k k) k<|am k k ?_
    obtain ⟨v4,hv4,h⟩:=ob h
    refine ae (bE (aFc v3 x1.1 v4 hv4) k (aG (cE (aU (aY k) (aU (aY k) (aU (aY k) cR)))) (aG (aM k) bG))) k<|aa k k<|an<|tn<|sQ<|rg<|am k k<|ae (bD k k k) k<|an<|tn ?_
    refine aO (t:=bU [(0,.list 3 (List.map eM a0)),(1,.int v4),(5,.int x1.2),(25,.bl (decide (v4<0)))] [] 0 [0,1]) (aE (σ:=sg []) ⟨⟨_,k,⟨k,k⟩⟩,(e1 k k),(e1 k k),(e1 k k),trivial⟩ trivial k) ?_
    rcases cb h with ⟨q5,h⟩|⟨q5,h⟩
    ·refine aJ k q5<|sQ<|rg<|aa k k<|an<|tn<|aK<|bB<|aI<|aI ?_
     obtain rfl:=so h
     exact ⟨_,k,k,aT k k k (cS k)⟩
    ·refine aN k q5<|aR<|bF<|tn<|rg<|am k k<|ae (bW k k) k<|aa k k<|an<|tn ?_
     obtain rfl:=so h
     exact ⟨_,k,(aE (σ:=sg []) ⟨⟨_,k,⟨k,k⟩⟩,(e1 k k),(e1 k k),trivial⟩ trivial k)⟩
   ·refine aN k q2<|bH<|aH<|aH ?_
    obtain rfl:=so h
    exact ⟨_,k,k,(aE (σ:=sg []) ⟨(e1 k k),trivial⟩ trivial k)⟩
  ·intro e t hX
   rcases y6 with y7|y8
   ·obtain ⟨rfl,hent⟩:=hX
    refine aX<|tn<|aO hent<|sQ<|rg<|am k k<|aa k k<|an<|tn<|aK ?_
    obtain rfl:=so h
    exact aT k k k (cS k)
   ·obtain ⟨rfl,hent⟩:=hX
    refine bB<|aI ?_
    obtain rfl:=so h
    exact hent
def aAZ (a0:Rp) (a1:Int):Option Int:=
 Option.bind (wC a0.q a1) fun v1=>
 bif decide (v1<0) then
 (some ((-1)))
 else
 (Option.bind (kT a0.dims v1) fun v3=>
 bif decide (v3<0) then
 (some ((-1)))
 else
 (Option.bind (pX a0.maps v3) fun v5=>
 bif decide (v5<0) then
 (some ((-1)))
 else
 (some (v5))))
theorem aJU (a0:Rp) (a1:Int) (r:Int) (h:aAZ a0 a1=some r):HasC Tryz.prog 13 [.agg (eR a0),.int a1] (.int r):=by
 refine bN aA (rvs:=[.tmp 4]) (ns:=[0,1,2]) Tryz.func13 k k Tryz.ntmps13 k k k<|sQ<|rg<|ae (cD k k k k) k<|aa k k<|an<|tn<|sQ<|rg<|ae (aD aA k k k k k k k) k ?_
 refine ae (aC aA k k k k k k k) k<|am k k ?_
 obtain ⟨v1,hv1,h⟩:=ob h
 refine ae (bE (aFb a0.q a1 v1 hv1) k (aG (cE (aU (aY k) (aU (aY k) (aU (aY k) cR)))) (aG (aM k) bG))) k<|aa k k<|an<|tn<|sQ<|sQ<|rg<|am k k<|ae (bD k k k) k<|an ?_
 refine tn ?_
 rcases cb h with ⟨q2,h⟩|⟨q2,h⟩
 ·refine aJ k q2<|sQ<|rg<|aa k k<|an<|tn<|aK<|aI ?_
  obtain rfl:=so h
  exact aT k k k (cS k)
 ·refine aN k q2<|aR<|tn<|sQ<|rg<|ae (aD aA k k k k k k k) k<|ae (aC aA k k k k k k k) k<|am k k ?_
  obtain ⟨v3,hv3,h⟩:=ob h
  refine ae (bE (vJ a0.dims v1 v3 hv3) k (aG (aM k) (aG (aM k) bG))) k<|aa k k<|an<|tn<|aO (t:=bU [(1,.int v3),(2,.ptr 0 0 0)] [(0,⟨6,[[.int a0.p,.int a0.q.n,.list 1 (List.map eI a0.q.src),.list 1 (List.map eI a0.q.tgt),.list 1 (List.map eI a0.dims),.list 3 (List.map eM a0.maps)]]⟩)] 1 [1,2]) (aE (σ:=sg [(0,0)]) ⟨(e1 k k),(pE k k),trivial⟩ (hP k k k k<|trivial) k)<|sQ<|sQ<|rg<|am k k<|ae (bD k k k) k ?_
  refine an<|tn ?_
  rcases cb h with ⟨q4,h⟩|⟨q4,h⟩
  ·refine aJ k q4<|sQ<|rg<|aa k k<|an<|tn<|aK<|aI ?_
   obtain rfl:=so h
   exact aT k k k (cS k)
  ·refine aN k q4<|aR<|tn<|sQ<|rg<|ae (aD aA k k k k k k k) k<|ae (aC aA k k k k k k k) k<|am k k ?_
   obtain ⟨v5,hv5,h⟩:=ob h
   refine ae (bE (aEX a0.maps v3 v5 hv5) k (aG (aM k) (aG (aM k) bG))) k<|aa k k<|an<|tn<|sQ<|sQ<|rg<|am k k<|ae (bD k k k) k<|an ?_
   refine tn ?_
   rcases cb h with ⟨q6,h⟩|⟨q6,h⟩
   ·refine aJ k q6<|sQ<|rg<|aa k k<|an<|tn<|aK<|aI ?_
    obtain rfl:=so h
    exact aT k k k (cS k)
   ·refine aN k q6<|aR<|tn<|sQ<|rg<|am k k<|aa k k<|an<|tn<|aK ?_
    obtain rfl:=so h
    exact aT k k k (cS k)
def pY (a0:(List Int)) (x1:((List Int)×Int)):Option (((List Int)×Int) ⊕ (List Int)):=
 bif decide (x1.2<(a0.length:Int)) then
 (Option.bind (dX a0 x1.2) fun v2=>
 Option.bind (dX x1.1 x1.2) fun v3=>
 some (.inl ((x1.1.set x1.2.toNat v2),wr (x1.2+1))))
 else
 (some (.inr x1.1))
def fW (a0:(List Int)):Option (List Int):=
 bif (decide (0≤(a0.length:Int))&&decide ((a0.length:Int)≤1048576)) then
 (Option.bind (Lp (pY a0) ((List.replicate ((a0.length:Int).toNat) (0:Int)),0)) fun y4=>
 some (y4))
 else none
theorem iV (a0:(List Int)) (r:(List Int)) (h:fW a0=some r):HasC Tryz.prog 23 [.list 1 (List.map eI a0)] (.list 1 (List.map eI r)):=by
 refine bN aA (rvs:=[.tmp 2]) (ns:=[0,1,2]) Tryz.func23 k k Tryz.ntmps23 k k k<|sQ<|rg<|aa k k<|an<|tn<|sQ<|rg<|am k k<|ae (dG aA k k k) k ?_
 obtain ⟨q5,h⟩:=cg h
 refine ae (aBB aA q5 k k k k k k k k) k<|aa k k<|an<|tn<|aO (t:=bU [(0,.list 1 (List.map eI a0)),(3,.own 0 0 ((List.replicate ((a0.length:Int).toNat) (0:Int)).length))] [(0,⟨1,List.map (ow eI) (List.replicate ((a0.length:Int).toNat) (0:Int))⟩)] 1 [1,2]) (aE (σ:=sg [(0,0)]) ⟨⟨_,k,⟨k,k⟩⟩,⟨_,k,⟨k,k,(by simp only [bC,lA,lT,lR,lC,lN]),k⟩⟩,trivial⟩ (hX ⟨_,k,k,.inl ⟨aCO (e:=eI) (z:=0) _,dK.plainO _⟩⟩ k<|trivial) k)<|sQ<|sQ<|rg<|aa k k<|an ?_
 refine tn<|aL ?_
 obtain ⟨y4,hy4,h⟩:=ob h
 refine cV (body:=(pY a0)) hy4 (fun (x1:((List Int)×Int))=>bU [(0,.list 1 (List.map eI a0)),(3,.own 0 0 x1.1.length),(4,.int x1.2)] [(0,⟨1,List.map (ow eI) x1.1⟩)] 1 [1,2]) (fun r e t=>e= .exit 0∧Ent t (bU [(3,.own 0 0 r.length)] [(0,⟨1,List.map (ow eI) r⟩)] 1 [1,2])) (aE (σ:=sg [(0,0)]) ⟨⟨_,k,⟨k,k⟩⟩,(oE k k),(e1 k k),trivial⟩ (hI k k k<|trivial) k) ?_ ?_
 ·intro x1 o h
  refine sQ<|sQ<|rg<|am k k<|am k k<|ae (dG aA k k k) k<|ae (bD k k k) k<|an<|tn ?_
  rcases cb h with ⟨q1,h⟩|⟨q1,h⟩
  ·refine aJ k q1<|aR<|tn<|sQ<|aL<|rg<|am k k<|am k k<|am k k<|am k k ?_
   obtain ⟨v2,hv2,h⟩:=ob h
   refine ae (bJ aA hv2 k k k k k k) k<|ae (aW aA k k k k k k) k ?_
   obtain ⟨v3,hv3,h⟩:=ob h
   refine ae (cT aA (eD hv3) (dB hv3) k k k k k k k) k<|ae (iH aA uJ (u:=v2) (dI hv3) k k k k k k) k<|an<|bF<|tn<|aO (t:=bU [(0,.list 1 (List.map eI a0)),(3,.own 0 0 ((x1.1.set x1.2.toNat v2).length)),(4,.int x1.2)] [(0,⟨1,List.map (ow eI) (x1.1.set x1.2.toNat v2)⟩)] 1 [1,2]) (aE (σ:=sg [(0,0)]) ⟨⟨_,k,⟨k,k⟩⟩,⟨_,k,⟨k,k,(by simp only [bC,lA,lT,lR,lC,lN]),k⟩⟩,(e1 k k),trivial⟩ (hI k k k<|trivial) k)<|rg<|am k k<|ae (bW k k) k<|aa k k ?_
   refine an<|tn ?_
   obtain rfl:=so h
   exact ⟨_,k,(aE (σ:=sg [(0,0)]) ⟨⟨_,k,⟨k,k⟩⟩,(oE k k),(e1 k k),trivial⟩ (hI k k k<|trivial) k)⟩
  ·refine aN k q1<|bH<|aH<|aH ?_
   obtain rfl:=so h
   exact ⟨_,k,k,(aE (σ:=sg [(0,0)]) ⟨(oE k k),trivial⟩ (hI k k k<|trivial) k)⟩
 ·rintro e t ⟨rfl,hent⟩
  refine aX<|tn<|aO hent<|sQ<|rg<|am k k<|aa k k<|an<|tn<|aK ?_
  obtain rfl:=so h
  exact aT k k k (qU (jD dK k k))
def rF (a0:Qv):Option Qv:=
 Option.bind (fW a0.src) fun v1=>
 Option.bind (fW a0.tgt) fun v2=>
 some ((⟨a0.n,v1,v2⟩:Qv))
theorem aFd (a0:Qv) (r:Qv) (h:rF a0=some r):HasC Tryz.prog 59 [.agg (eQ a0)] (.agg (eQ r)):=by
 refine bN aA (rvs:=[.cell 2 29]) (ns:=[0,1,2,3,4,5,6]) Tryz.func59 k k Tryz.ntmps59 k k k<|sQ<|rg<|ae (cD k k k k) k<|ae (cA aA k k) k<|an<|tn<|sQ<|rg<|ae (cA aA k k) k ?_
 refine an<|tn<|sQ<|rg<|ae (aD aA k k k k k k k) k<|ae (aC aA k k k k k k k) k<|ae (aD aA k k k k k k k) k<|ae (bP aA k k k k k k k k) k<|an<|tn ?_
 refine sQ<|rg<|ae (aD aA k k k k k k k) k<|ae (aC aA k k k k k k k) k ?_
 obtain ⟨v1,hv1,h⟩:=ob h
 refine ae (AEff.conv (dC (x:= .own 3 0 (List.map eI v1).length) (nb:=[(3,⟨1,cJ (List.map eI v1)⟩)]) (iV a0.src v1 hv1) k (by rfl) k k (dK.good _) (aG (aM k) bG)) (v':= .own 3 0 v1.length) (ed':=[(3,some ⟨1,List.map (ow eI) v1⟩)]) (by simp only [bC]) (eN (nb':=[(3,⟨1,List.map (ow eI) v1⟩)]) (by simp only [cO]))) k<|ae (aD aA k k k k k k k) k<|ae (bP aA k k k k k k k k) k<|an<|tn<|aO (t:=bU [(1,.ptr 0 0 0),(2,.ptr 1 0 0),(3,.ptr 2 0 0)] [(0,⟨3,[[.int a0.n,.list 1 (List.map eI a0.src),.list 1 (List.map eI a0.tgt)]]⟩),(1,⟨3,[[.int 0,.nil 1,.nil 1]]⟩),(2,⟨3,[[.int a0.n,.own 3 0 v1.length,.nil 1]]⟩),(3,⟨1,List.map (ow eI) v1⟩)] 4 [4,5,6]) (aE (σ:=sg [(0,0),(1,1),(2,2),(3,3)]) ⟨(pE k k),(pE k k),(pE k k),trivial⟩ (hP k k k k<|hP k k k k<|hX ⟨_,k,k,.inr ⟨_,_,k,⟨_,_,k,k,⟨_,_,k,⟨k,k,k,k⟩,⟨_,_,k,trivial,k⟩⟩⟩,k⟩⟩ k<|hI k k k<|trivial) k)<|sQ<|rg<|ae (aD aA k k k k k k k) k<|ae (aC aA k k k k k k k) k ?_
 obtain ⟨v2,hv2,h⟩:=ob h
 refine ae (AEff.conv (dC (x:= .own 4 0 (List.map eI v2).length) (nb:=[(4,⟨1,cJ (List.map eI v2)⟩)]) (iV a0.tgt v2 hv2) k (by rfl) k k (dK.good _) (aG (aM k) bG)) (v':= .own 4 0 v2.length) (ed':=[(4,some ⟨1,List.map (ow eI) v2⟩)]) (by simp only [bC]) (eN (nb':=[(4,⟨1,List.map (ow eI) v2⟩)]) (by simp only [cO]))) k<|ae (aD aA k k k k k k k) k<|ae (bP aA k k k k k k k k) k<|an<|tn<|sQ<|rg<|ae (aC aA k k k k k k k) k<|ae (bP aA k k k k k k k k) k<|an ?_
 refine tn<|aK ?_
 obtain rfl:=so h
 exact aT k k k (qI (cC (k) (cC (jD dK k k) (cC (jD dK k k) hZ))))
def rG (a0:Mt):Option Mt:=
 Option.bind (fW a0.cells) fun v1=>
 some ((⟨a0.rows,a0.cols,v1⟩:Mt))
theorem aFe (a0:Mt) (r:Mt) (h:rG a0=some r):HasC Tryz.prog 116 [.agg (eM a0)] (.agg (eM r)):=by
 refine bN aA (rvs:=[.cell 2 113]) (ns:=[0,1,2,3,4,5]) Tryz.func116 k k Tryz.ntmps116 k k k<|sQ<|rg<|ae (cD k k k k) k<|ae (cA aA k k) k<|an<|tn<|sQ<|rg<|ae (cA aA k k) k ?_
 refine an<|tn<|sQ<|rg<|ae (aD aA k k k k k k k) k<|ae (aC aA k k k k k k k) k<|ae (aD aA k k k k k k k) k<|ae (bP aA k k k k k k k k) k<|an<|tn ?_
 refine sQ<|rg<|ae (aD aA k k k k k k k) k<|ae (aC aA k k k k k k k) k<|ae (aD aA k k k k k k k) k<|ae (bP aA k k k k k k k k) k<|an<|tn<|sQ<|rg ?_
 refine ae (aD aA k k k k k k k) k<|ae (aC aA k k k k k k k) k ?_
 obtain ⟨v1,hv1,h⟩:=ob h
 refine ae (AEff.conv (dC (x:= .own 3 0 (List.map eI v1).length) (nb:=[(3,⟨1,cJ (List.map eI v1)⟩)]) (iV a0.cells v1 hv1) k (by rfl) k k (dK.good _) (aG (aM k) bG)) (v':= .own 3 0 v1.length) (ed':=[(3,some ⟨1,List.map (ow eI) v1⟩)]) (by simp only [bC]) (eN (nb':=[(3,⟨1,List.map (ow eI) v1⟩)]) (by simp only [cO]))) k<|ae (aD aA k k k k k k k) k<|ae (bP aA k k k k k k k k) k<|an<|tn<|aO (t:=bU [(2,.ptr 1 0 0),(3,.ptr 2 0 0)] [(1,⟨3,[[.int 0,.int 0,.nil 1]]⟩),(2,⟨3,[[.int a0.rows,.int a0.cols,.own 3 0 v1.length]]⟩),(3,⟨1,List.map (ow eI) v1⟩)] 4 [4,5]) (aE (σ:=sg [(1,1),(2,2),(3,3)]) ⟨(pE k k),(pE k k),trivial⟩ (hP k k k k<|hX ⟨_,k,k,.inr ⟨_,_,k,⟨_,_,k,k,⟨_,_,k,k,⟨_,_,k,⟨k,k,k,k⟩,k⟩⟩⟩,k⟩⟩ k<|hI k k k<|trivial) k)<|sQ<|rg<|ae (aC aA k k k k k k k) k<|ae (bP aA k k k k k k k k) k ?_
 refine an<|tn<|aK ?_
 obtain rfl:=so h
 exact aT k k k (qI (cC (k) (cC (k) (cC (jD dK k k) hZ))))
def lB (a0:(List Mt)) (x1:((List Mt)×Int)):Option (((List Mt)×Int) ⊕ (List Mt)):=
 bif decide (x1.2<(a0.length:Int)) then
 (Option.bind (dX a0 x1.2) fun v2=>
 Option.bind (rG v2) fun v3=>
 Option.bind (dX x1.1 x1.2) fun v4=>
 some (.inl ((x1.1.set x1.2.toNat v3),wr (x1.2+1))))
 else
 (some (.inr x1.1))
def pZ (a0:(List Mt)):Option (List Mt):=
 bif (decide (0≤(a0.length:Int))&&decide ((a0.length:Int)≤1048576)) then
 (Option.bind (Lp (lB a0) ((List.replicate ((a0.length:Int).toNat) ((⟨0,0,[]⟩:Mt):Mt)),0)) fun y5=>
 some (y5))
 else none
theorem aEY (a0:(List Mt)) (r:(List Mt)) (h:pZ a0=some r):HasC Tryz.prog 60 [.list 3 (List.map eM a0)] (.list 3 (List.map eM r)):=by
 refine bN aA (rvs:=[.tmp 2]) (ns:=[0,1,2,3]) Tryz.func60 k k Tryz.ntmps60 k k k<|sQ<|rg<|aa k k<|an<|tn<|sQ<|rg<|am k k<|ae (dG aA k k k) k ?_
 obtain ⟨q6,h⟩:=cg h
 refine ae (aBB aA q6 k k k k k k k k) k<|aa k k<|an<|tn<|aO (t:=bU [(0,.list 3 (List.map eM a0)),(3,.own 0 0 ((List.replicate ((a0.length:Int).toNat) ((⟨0,0,[]⟩:Mt):Mt)).length))] [(0,⟨3,List.map (ow eM) (List.replicate ((a0.length:Int).toNat) ((⟨0,0,[]⟩:Mt):Mt))⟩)] 1 [1,2,3]) (aE (σ:=sg [(0,0)]) ⟨⟨_,k,⟨k,k⟩⟩,⟨_,k,⟨k,k,(by simp only [bC,lA,lT,lR,lC,lN]),k⟩⟩,trivial⟩ (hX ⟨_,k,k,.inr (aLt (e:=eM) (z:=(⟨0,0,[]⟩:Mt)) (zc:=[.int 0,.int 0,.nil 1]) ⟨_,_,k,k,⟨_,_,k,k,⟨_,_,k,k,k⟩⟩⟩ _)⟩ k<|trivial) k)<|sQ<|sQ<|rg<|aa k k<|an ?_
 refine tn<|aL ?_
 obtain ⟨y5,hy5,h⟩:=ob h
 refine cV (body:=(lB a0)) hy5 (fun (x1:((List Mt)×Int))=>bU [(0,.list 3 (List.map eM a0)),(3,.own 0 0 x1.1.length),(4,.int x1.2)] [(0,⟨3,List.map (ow eM) x1.1⟩)] 1 [1,2,3]) (fun r e t=>e= .exit 0∧Ent t (bU [(3,.own 0 0 r.length)] [(0,⟨3,List.map (ow eM) r⟩)] 1 [1,2,3])) (aE (σ:=sg [(0,0)]) ⟨⟨_,k,⟨k,k⟩⟩,(oE k k),(e1 k k),trivial⟩ (hB (mH.plainO _) k k k<|trivial) k) ?_ ?_
 ·intro x1 o h
  refine sQ<|sQ<|rg<|am k k<|am k k<|ae (dG aA k k k) k<|ae (bD k k k) k<|an<|tn ?_
  rcases cb h with ⟨q1,h⟩|⟨q1,h⟩
  ·refine aJ k q1<|aR<|tn<|sQ<|aL<|rg<|am k k<|am k k<|am k k<|am k k ?_
   obtain ⟨v2,hv2,h⟩:=ob h
   refine ae (bJ aA hv2 k k k k k k) k<|ae (aW aA k k k k k k) k ?_
   obtain ⟨v3,hv3,h⟩:=ob h
   refine ae (AEff.conv (dC (x:= .agg [.int v3.rows,.int v3.cols,.own 1 0 (List.map eI v3.cells).length]) (nb:=[(1,⟨1,cJ (List.map eI v3.cells)⟩)]) (aFe v2 v3 hv3) k (by rfl) k k (bZ trivial (bZ trivial (bZ (dK.good _) gQ))) (aG (cE (aU (aY k) (aU (aY k) (aU (aY k) cR)))) bG)) (v':= .agg [.int v3.rows,.int v3.cols,.own 1 0 v3.cells.length]) (ed':=[(1,some ⟨1,List.map (ow eI) v3.cells⟩)]) (by simp only [bC]) (eN (nb':=[(1,⟨1,List.map (ow eI) v3.cells⟩)]) (by simp only [cO]))) k ?_
   obtain ⟨v4,hv4,h⟩:=ob h
   refine ae (cT aA (eD hv4) (dB hv4) k k k k k k k) k<|ae (bP aA k k k k k k (cM (dI hv4)) k) k<|an<|bF<|tn<|aO (t:=bU [(0,.list 3 (List.map eM a0)),(3,.own 0 0 x1.1.length),(4,.int x1.2)] [(0,⟨3,(List.map (ow eM) x1.1).set x1.2.toNat [.int v3.rows,.int v3.cols,.own 1 0 v3.cells.length]⟩),(1,⟨1,List.map (ow eI) v3.cells⟩)] 2 [2,3]) (aE (σ:=sg [(0,0),(1,1)]) ⟨⟨_,k,⟨k,k⟩⟩,(oE k k),(e1 k k),trivial⟩ (hX ⟨_,k,k,.inr (yP (σ:=sg [(0,0),(1,1)]) (m:=2) (e:=eM) (l:=x1.1) (i:=x1.2.toNat) (c:=[.int v3.rows,.int v3.cols,.own 1 0 v3.cells.length]) (d:=[.int v3.rows,.int v3.cols,.own 1 0 v3.cells.length]) mH ⟨_,_,k,k,⟨_,_,k,k,⟨_,_,k,⟨k,k,k,k⟩,k⟩⟩⟩)⟩ k<|hI k k k<|trivial) k)<|rg<|am k k<|ae (bW k k) k<|aa k k ?_
   refine an<|tn ?_
   obtain rfl:=so h
   exact ⟨_,k,(Ent.trans (show Ent _ (bU [(0,.list 3 (List.map eM a0)),(3,.own 0 0 ((x1.1.set x1.2.toNat v3).length)),(4,.int (wr (x1.2+1)))] [(0,⟨3,List.map (ow eM) (x1.1.set x1.2.toNat v3)⟩)] 2 [2,3]) from (Ent.trans (aBA (b:=0) (b':=1) (j:=2) (es':=List.map eI v3.cells) (by rw [List.length_map];exact dB hv4) k k k k (bC _ _) (dK.frzs _)) (aE (σ:=sg [(0,0)]) ⟨⟨_,k,⟨k,k⟩⟩,⟨_,k,⟨k,k,(by simp only [bC,lA,lT,lR,lC,lN]),k⟩⟩,(e1 k k),trivial⟩ (hX ⟨_,k,k,.inl ⟨aGp v3 k,mH.plainO _⟩⟩ k<|trivial) k))) (aE (σ:=sg [(0,0)]) ⟨⟨_,k,⟨k,k⟩⟩,(oE k k),(e1 k k),trivial⟩ (hB (mH.plainO _) k k k<|trivial) k))⟩
  ·refine aN k q1<|bH<|aH<|aH ?_
   obtain rfl:=so h
   exact ⟨_,k,k,(aE (σ:=sg [(0,0)]) ⟨(oE k k),trivial⟩ (hB (mH.plainO _) k k k<|trivial) k)⟩
 ·rintro e t ⟨rfl,hent⟩
  refine aX<|tn<|aO hent<|sQ<|rg<|am k k<|aa k k<|an<|tn<|aK ?_
  obtain rfl:=so h
  exact aT k k k (qU (jD mH k k))
def mP (a0:Rp):Option Rp:=
 Option.bind (rF a0.q) fun v1=>
 Option.bind (fW a0.dims) fun v2=>
 Option.bind (pZ a0.maps) fun v3=>
 some ((⟨a0.p,v1,v2,v3⟩:Rp))
theorem wR (a0:Rp) (r:Rp) (h:mP a0=some r):HasC Tryz.prog 15 [.agg (eR a0)] (.agg (eR r)):=by
 refine bN aA (rvs:=[.cell 2 32]) (ns:=[0,1,2,3,4,5,6,7,8]) Tryz.func15 k k Tryz.ntmps15 k k k<|sQ<|rg<|ae (cD k k k k) k<|ae (cA aA k k) k<|an<|tn<|sQ<|rg<|ae (cA aA k k) k ?_
 refine an<|tn<|sQ<|rg<|ae (aD aA k k k k k k k) k<|ae (aC aA k k k k k k k) k<|ae (aD aA k k k k k k k) k<|ae (bP aA k k k k k k k k) k<|an<|tn ?_
 refine sQ<|rg<|ae (aD aA k k k k k k k) k<|ae (aC aA k k k k k k k) k ?_
 obtain ⟨v1,hv1,h⟩:=ob h
 refine ae (AEff.conv (dC (x:= .agg [.int v1.n,.own 3 0 (List.map eI v1.src).length,.own 4 0 (List.map eI v1.tgt).length]) (nb:=[(3,⟨1,cJ (List.map eI v1.src)⟩),(4,⟨1,cJ (List.map eI v1.tgt)⟩)]) (aFd a0.q v1 hv1) k (by rfl) k k (bZ trivial (bZ (dK.good _) (bZ (dK.good _) gQ))) (aG (cE (aU (aY k) (aU (aY k) (aU (aY k) cR)))) bG)) (v':= .agg [.int v1.n,.own 3 0 v1.src.length,.own 4 0 v1.tgt.length]) (ed':=[(3,some ⟨1,List.map (ow eI) v1.src⟩),(4,some ⟨1,List.map (ow eI) v1.tgt⟩)]) (by simp only [bC]) (eN (nb':=[(3,⟨1,List.map (ow eI) v1.src⟩),(4,⟨1,List.map (ow eI) v1.tgt⟩)]) (by simp only [cO]))) k<|ae (aD aA k k k k k k k) k<|ae (bP aA k k k k k k k k) k<|an<|tn<|aO (t:=bU [(1,.ptr 0 0 0),(2,.ptr 1 0 0),(3,.ptr 2 0 0)] [(0,⟨6,[[.int a0.p,.int a0.q.n,.list 1 (List.map eI a0.q.src),.list 1 (List.map eI a0.q.tgt),.list 1 (List.map eI a0.dims),.list 3 (List.map eM a0.maps)]]⟩),(1,⟨6,[[.int 0,.int 0,.nil 1,.nil 1,.nil 1,.nil 3]]⟩),(2,⟨6,[[.int a0.p,.int v1.n,.own 3 0 v1.src.length,.own 4 0 v1.tgt.length,.nil 1,.nil 3]]⟩),(3,⟨1,List.map (ow eI) v1.src⟩),(4,⟨1,List.map (ow eI) v1.tgt⟩)] 5 [5,6,7,8]) (aE (σ:=sg [(0,0),(1,1),(2,2),(3,3),(4,4)]) ⟨(pE k k),(pE k k),(pE k k),trivial⟩ (hP k k k k<|hP k k k k<|hX ⟨_,k,k,.inr ⟨_,_,k,⟨_,_,k,k,⟨_,_,k,k,⟨_,_,k,⟨k,k,k,k⟩,⟨_,_,k,⟨k,k,k,k⟩,⟨_,_,k,trivial,⟨_,_,k,trivial,k⟩⟩⟩⟩⟩⟩,k⟩⟩ k<|hI k k k<|hI k k k<|trivial) k) ?_
 refine sQ<|rg<|ae (aD aA k k k k k k k) k<|ae (aC aA k k k k k k k) k ?_
 obtain ⟨v2,hv2,h⟩:=ob h
 refine ae (AEff.conv (dC (x:= .own 5 0 (List.map eI v2).length) (nb:=[(5,⟨1,cJ (List.map eI v2)⟩)]) (iV a0.dims v2 hv2) k (by rfl) k k (dK.good _) (aG (aM k) bG)) (v':= .own 5 0 v2.length) (ed':=[(5,some ⟨1,List.map (ow eI) v2⟩)]) (by simp only [bC]) (eN (nb':=[(5,⟨1,List.map (ow eI) v2⟩)]) (by simp only [cO]))) k<|ae (aD aA k k k k k k k) k<|ae (bP aA k k k k k k k k) k<|an<|tn<|sQ<|rg<|ae (aD aA k k k k k k k) k<|ae (aC aA k k k k k k k) k ?_
 obtain ⟨v3,hv3,h⟩:=ob h
 refine ae (AEff.conv (dC (x:= .own 6 0 (List.map eM v3).length) (nb:=[(6,⟨3,cJ (List.map eM v3)⟩)]) (aEY a0.maps v3 hv3) k (by rfl) k k (mH.good _) (aG (aM k) bG)) (v':= .own 6 0 v3.length) (ed':=[(6,some ⟨3,List.map (ow eM) v3⟩)]) (by simp only [bC]) (eN (nb':=[(6,⟨3,List.map (ow eM) v3⟩)]) (by simp only [cO]))) k<|ae (aD aA k k k k k k k) k<|ae (bP aA k k k k k k k k) k<|an<|tn<|sQ<|rg<|ae (aC aA k k k k k k k) k<|ae (bP aA k k k k k k k k) k<|an ?_
 refine tn<|aO (t:=bU [(2,.ptr 1 0 0)] [(1,⟨6,[[.int a0.p,.int v1.n,.own 3 0 v1.src.length,.own 4 0 v1.tgt.length,.own 5 0 v2.length,.own 6 0 v3.length]]⟩),(3,⟨1,List.map (ow eI) v1.src⟩),(4,⟨1,List.map (ow eI) v1.tgt⟩),(5,⟨1,List.map (ow eI) v2⟩),(6,⟨3,List.map (ow eM) v3⟩)] 7 [7,8]) (aE (σ:=sg [(1,1),(3,3),(4,4),(5,5),(6,6)]) ⟨(pE k k),trivial⟩ (hX ⟨_,k,k,.inr ⟨_,_,k,⟨_,_,k,k,⟨_,_,k,k,⟨_,_,k,⟨k,k,k,k⟩,⟨_,_,k,⟨k,k,k,k⟩,⟨_,_,k,⟨k,k,k,k⟩,⟨_,_,k,⟨k,k,k,k⟩,k⟩⟩⟩⟩⟩⟩,k⟩⟩ k<|hI k k k<|hI k k k<|hI k k k<|hB (mH.plainO _) k k k<|trivial) k)<|aK ?_
 obtain rfl:=so h
 exact aT k k k (qI (cC (k) (cC (k) (cC (jD dK k k) (cC (jD dK k k) (cC (jD dK k k) (cC (jD mH k k) hZ)))))))
def uV (a0:(List Int)) (a1:(List Int)) (x1:Int):Option (Int ⊕ (Unit ⊕ Bool)):=
 bif decide (x1<(a0.length:Int)) then
 (Option.bind (dX a0 x1) fun v3=>
 Option.bind (dX a1 x1) fun v4=>
 bif !decide (v3=v4) then
 (some (.inr (.inr (false))))
 else
 (some (.inl (wr (x1+1)))))
 else
 (some (.inr (.inl ())))
def iW (a0:(List Int)) (a1:(List Int)):Option Bool:=
 bif !decide ((a0.length:Int)=(a1.length:Int)) then
 (some (false))
 else
 (Option.bind (Lp (uV a0 a1) 0) fun y6=>
 Sum.elim (fun y7=>
 some (true)
 )
 (fun y8=>
 some y8
 )
 y6)
theorem nT (a0:(List Int)) (a1:(List Int)) (r:Bool) (h:iW a0 a1=some r):HasC Tryz.prog 25 [.list 1 (List.map eI a0),.list 1 (List.map eI a1)] (.bl r):=by
 refine bN aA (rvs:=[.tmp 4]) (ns:=[0,1]) Tryz.func25 k k Tryz.ntmps25 k k k<|sQ<|rg<|aa k k<|an<|tn<|sQ<|sQ<|rg<|am k k ?_
 refine ae (dG aA k k k) k<|am k k<|ae (dG aA k k k) k<|ae (bD k k k) k<|an<|tn ?_
 rcases cb h with ⟨q1,h⟩|⟨q1,h⟩
 ·refine aJ k q1<|sQ<|rg<|aa k k<|an<|tn<|aK<|aI ?_
  obtain rfl:=so h
  exact aT k k k (bT k)
 ·refine aN k q1<|aR<|tn<|sQ<|sQ<|rg<|aa k k<|an<|tn<|aL ?_
  obtain ⟨y6,hy6,h⟩:=ob h
  refine cV (body:=(uV a0 a1)) hy6 (fun (x1:Int)=>bU [(0,.list 1 (List.map eI a0)),(1,.list 1 (List.map eI a1)),(5,.int x1)] [] 0 [0,1]) (fun r e t=>Sum.elim (fun a=>(fun r e t=>e= .exit 0∧Ent t (bU [] [] 0 [0,1])) a e t) (fun b=>(fun r e t=>e= .ret∧nZ TT [.tmp 4] (.bl r) .ret t) b e t) r) (aE (σ:=sg []) ⟨⟨_,k,⟨k,k⟩⟩,⟨_,k,⟨k,k⟩⟩,(e1 k k),trivial⟩ trivial k) ?_ ?_
  ·intro x1 o h
   refine sQ<|sQ<|rg<|am k k<|am k k<|ae (dG aA k k k) k<|ae (bD k k k) k<|an<|tn ?_
   rcases cb h with ⟨q2,h⟩|⟨q2,h⟩
   ·refine aJ k q2<|aR<|tn<|sQ<|aL<|sQ<|aZ kR<|am k k<|am k k ?_
    obtain ⟨v3,hv3,h⟩:=ob h
    refine ae (bJ aA hv3 k k k k k k) k<|ae (aW aA k k k k k k) k<|am k k<|am k k ?_
    obtain ⟨v4,hv4,h⟩:=ob h
    refine ae (bJ aA hv4 k k k k k k) k<|ae (aW aA k k k k k k) k<|ae (bD k k k) k<|an ?_
    refine ⟨by kernel_rfl,?_⟩
    refine tn<|aO (t:=bU [(0,.list 1 (List.map eI a0)),(1,.list 1 (List.map eI a1)),(5,.int x1),(25,.bl (!decide (v3=v4)))] [] 0 [0,1]) (aE (σ:=sg []) ⟨⟨_,k,⟨k,k⟩⟩,⟨_,k,⟨k,k⟩⟩,(e1 k k),(e1 k k),trivial⟩ trivial k) ?_
    rcases cb h with ⟨q5,h⟩|⟨q5,h⟩
    ·refine aJ k q5<|sQ<|rg<|aa k k<|an<|tn<|aK<|bB<|aI<|aI ?_
     obtain rfl:=so h
     exact ⟨_,k,k,aT k k k (bT k)⟩
    ·refine aN k q5<|aR<|bF<|tn<|rg<|am k k<|ae (bW k k) k<|aa k k<|an<|tn ?_
     obtain rfl:=so h
     exact ⟨_,k,(aE (σ:=sg []) ⟨⟨_,k,⟨k,k⟩⟩,⟨_,k,⟨k,k⟩⟩,(e1 k k),trivial⟩ trivial k)⟩
   ·refine aN k q2<|bH<|aH<|aH ?_
    obtain rfl:=so h
    exact ⟨_,k,k,(aE (σ:=sg []) trivial trivial k)⟩
  ·intro e t hX
   rcases y6 with y7|y8
   ·obtain ⟨rfl,hent⟩:=hX
    refine aX<|tn<|aO hent<|sQ<|rg<|aa k k<|an<|tn<|aK ?_
    obtain rfl:=so h
    exact aT k k k (bT k)
   ·obtain ⟨rfl,hent⟩:=hX
    refine bB<|aI ?_
    obtain rfl:=so h
    exact hent
def rH (a0:Qv) (a1:Qv):Option Bool:=
 bif !decide (a0.n=a1.n) then
 (some (false))
 else
 (Option.bind (iW a0.src a1.src) fun v2=>
 bif !v2 then
 (some (false))
 else
 (Option.bind (iW a0.tgt a1.tgt) fun v4=>
 bif !v4 then
 (some (false))
 else
 (some (true))))
theorem aFf (a0:Qv) (a1:Qv) (r:Bool) (h:rH a0 a1=some r):HasC Tryz.prog 68 [.agg (eQ a0),.agg (eQ a1)] (.bl r):=by
 refine bN aA (rvs:=[.tmp 4]) (ns:=[0,1,2,3]) Tryz.func68 k k Tryz.ntmps68 k k k<|sQ<|rg<|ae (cD k k k k) k<|ae (cD k k k k) k<|aa k k<|an<|tn<|sQ<|sQ ?_
 refine rg<|ae (aD aA k k k k k k k) k<|ae (aC aA k k k k k k k) k<|ae (aD aA k k k k k k k) k<|ae (aC aA k k k k k k k) k<|ae (bD k k k) k<|an<|tn ?_
 rcases cb h with ⟨q1,h⟩|⟨q1,h⟩
 ·refine aJ k q1<|sQ<|rg<|aa k k<|an<|tn<|aK<|aI ?_
  obtain rfl:=so h
  exact aT k k k (bT k)
 ·refine aN k q1<|aR<|tn<|sQ<|sQ<|rg<|ae (aD aA k k k k k k k) k<|ae (aC aA k k k k k k k) k<|ae (aD aA k k k k k k k) k<|ae (aC aA k k k k k k k) k ?_
  obtain ⟨v2,hv2,h⟩:=ob h
  refine ae (bE (nT a0.src a1.src v2 hv2) k (aG (aM k) (aG (aM k) bG))) k<|ae (cH k) k<|an<|tn<|aO (t:=bU [(2,.ptr 0 0 0),(3,.ptr 1 0 0),(15,.bl (!v2))] [(0,⟨3,[[.int a0.n,.list 1 (List.map eI a0.src),.list 1 (List.map eI a0.tgt)]]⟩),(1,⟨3,[[.int a1.n,.list 1 (List.map eI a1.src),.list 1 (List.map eI a1.tgt)]]⟩)] 2 [2,3]) (aE (σ:=sg [(0,0),(1,1)]) ⟨(pE k k),(pE k k),(e1 k k),trivial⟩ (hP k k k k<|hP k k k k<|trivial) k) ?_
  rcases cb h with ⟨q3,h⟩|⟨q3,h⟩
  ·refine aJ k q3<|sQ<|rg<|aa k k<|an<|tn<|aK<|aI ?_
   obtain rfl:=so h
   exact aT k k k (bT k)
  ·refine aN k q3<|aR<|tn<|sQ<|sQ<|rg<|ae (aD aA k k k k k k k) k<|ae (aC aA k k k k k k k) k<|ae (aD aA k k k k k k k) k<|ae (aC aA k k k k k k k) k ?_
   obtain ⟨v4,hv4,h⟩:=ob h
   refine ae (bE (nT a0.tgt a1.tgt v4 hv4) k (aG (aM k) (aG (aM k) bG))) k<|ae (cH k) k<|an<|tn ?_
   rcases cb h with ⟨q5,h⟩|⟨q5,h⟩
   ·refine aJ k q5<|sQ<|rg<|aa k k<|an<|tn<|aK<|aI ?_
    obtain rfl:=so h
    exact aT k k k (bT k)
   ·refine aN k q5<|aR<|tn<|sQ<|rg<|aa k k<|an<|tn<|aK ?_
    obtain rfl:=so h
    exact aT k k k (bT k)
def rI (a0:Mt) (a1:Mt):Option Bool:=
 bif !decide (a0.rows=a1.rows) then
 (some (false))
 else
 (bif !decide (a0.cols=a1.cols) then
 (some (false))
 else
 (Option.bind (iW a0.cells a1.cells) fun v3=>
 bif !v3 then
 (some (false))
 else
 (some (true))))
theorem aFg (a0:Mt) (a1:Mt) (r:Bool) (h:rI a0 a1=some r):HasC Tryz.prog 124 [.agg (eM a0),.agg (eM a1)] (.bl r):=by
 refine bN aA (rvs:=[.tmp 4]) (ns:=[0,1,2,3]) Tryz.func124 k k Tryz.ntmps124 k k k<|sQ<|rg<|ae (cD k k k k) k<|ae (cD k k k k) k<|aa k k<|an<|tn<|sQ<|sQ ?_
 refine rg<|ae (aD aA k k k k k k k) k<|ae (aC aA k k k k k k k) k<|ae (aD aA k k k k k k k) k<|ae (aC aA k k k k k k k) k<|ae (bD k k k) k<|an<|tn ?_
 rcases cb h with ⟨q1,h⟩|⟨q1,h⟩
 ·refine aJ k q1<|sQ<|rg<|aa k k<|an<|tn<|aK<|aI ?_
  obtain rfl:=so h
  exact aT k k k (bT k)
 ·refine aN k q1<|aR<|tn<|sQ<|sQ<|rg<|ae (aD aA k k k k k k k) k<|ae (aC aA k k k k k k k) k<|ae (aD aA k k k k k k k) k<|ae (aC aA k k k k k k k) k ?_
  refine ae (bD k k k) k<|an<|tn<|aO (t:=bU [(2,.ptr 0 0 0),(3,.ptr 1 0 0),(14,.bl (!decide (a0.cols=a1.cols)))] [(0,⟨3,[[.int a0.rows,.int a0.cols,.list 1 (List.map eI a0.cells)]]⟩),(1,⟨3,[[.int a1.rows,.int a1.cols,.list 1 (List.map eI a1.cells)]]⟩)] 2 [2,3]) (aE (σ:=sg [(0,0),(1,1)]) ⟨(pE k k),(pE k k),(e1 k k),trivial⟩ (hP k k k k<|hP k k k k<|trivial) k) ?_
  rcases cb h with ⟨q2,h⟩|⟨q2,h⟩
  ·refine aJ k q2<|sQ<|rg<|aa k k<|an<|tn<|aK<|aI ?_
   obtain rfl:=so h
   exact aT k k k (bT k)
  ·refine aN k q2<|aR<|tn<|sQ<|sQ<|rg<|ae (aD aA k k k k k k k) k<|ae (aC aA k k k k k k k) k<|ae (aD aA k k k k k k k) k<|ae (aC aA k k k k k k k) k ?_
   obtain ⟨v3,hv3,h⟩:=ob h
   refine ae (bE (nT a0.cells a1.cells v3 hv3) k (aG (aM k) (aG (aM k) bG))) k<|ae (cH k) k<|an<|tn ?_
   rcases cb h with ⟨q4,h⟩|⟨q4,h⟩
   ·refine aJ k q4<|sQ<|rg<|aa k k<|an<|tn<|aK<|aI ?_
    obtain rfl:=so h
    exact aT k k k (bT k)
   ·refine aN k q4<|aR<|tn<|sQ<|rg<|aa k k<|an<|tn<|aK ?_
    obtain rfl:=so h
    exact aT k k k (bT k)
def lD (a0:(List Mt)) (a1:(List Mt)) (x1:Int):Option (Int ⊕ (Unit ⊕ Bool)):=
 bif decide (x1<(a0.length:Int)) then
 (Option.bind (dX a0 x1) fun v3=>
 Option.bind (dX a1 x1) fun v4=>
 Option.bind (rI v3 v4) fun v5=>
 bif !v5 then
 (some (.inr (.inr (false))))
 else
 (some (.inl (wr (x1+1)))))
 else
 (some (.inr (.inl ())))
def qA (a0:(List Mt)) (a1:(List Mt)):Option Bool:=
 bif !decide ((a0.length:Int)=(a1.length:Int)) then
 (some (false))
 else
 (Option.bind (Lp (lD a0 a1) 0) fun y7=>
 Sum.elim (fun y8=>
 some (true)
 )
 (fun y9=>
 some y9
 )
 y7)
theorem aEZ (a0:(List Mt)) (a1:(List Mt)) (r:Bool) (h:qA a0 a1=some r):HasC Tryz.prog 66 [.list 3 (List.map eM a0),.list 3 (List.map eM a1)] (.bl r):=by
 refine bN aA (rvs:=[.tmp 4]) (ns:=[0,1]) Tryz.func66 k k Tryz.ntmps66 k k k<|sQ<|rg<|aa k k<|an<|tn<|sQ<|sQ<|rg<|am k k ?_
 refine ae (dG aA k k k) k<|am k k<|ae (dG aA k k k) k<|ae (bD k k k) k<|an<|tn ?_
 rcases cb h with ⟨q1,h⟩|⟨q1,h⟩
 ·refine aJ k q1<|sQ<|rg<|aa k k<|an<|tn<|aK<|aI ?_
  obtain rfl:=so h
  exact aT k k k (bT k)
 ·refine aN k q1<|aR<|tn<|sQ<|sQ<|rg<|aa k k<|an<|tn<|aL ?_
  obtain ⟨y7,hy7,h⟩:=ob h
  refine cV (body:=(lD a0 a1)) hy7 (fun (x1:Int)=>bU [(0,.list 3 (List.map eM a0)),(1,.list 3 (List.map eM a1)),(5,.int x1)] [] 0 [0,1]) (fun r e t=>Sum.elim (fun a=>(fun r e t=>e= .exit 0∧Ent t (bU [] [] 0 [0,1])) a e t) (fun b=>(fun r e t=>e= .ret∧nZ TT [.tmp 4] (.bl r) .ret t) b e t) r) (aE (σ:=sg []) ⟨⟨_,k,⟨k,k⟩⟩,⟨_,k,⟨k,k⟩⟩,(e1 k k),trivial⟩ trivial k) ?_ ?_
  ·intro x1 o h
   refine sQ<|sQ<|rg<|am k k<|am k k<|ae (dG aA k k k) k<|ae (bD k k k) k<|an<|tn ?_
   rcases cb h with ⟨q2,h⟩|⟨q2,h⟩
   ·refine aJ k q2<|aR<|tn<|sQ<|aL<|sQ<|aZ kR<|am k k<|am k k ?_
    obtain ⟨v3,hv3,h⟩:=ob h
    refine ae (bJ aA hv3 k k k k k k) k<|ae (aW aA k k k k k k) k<|am k k<|am k k ?_
    obtain ⟨v4,hv4,h⟩:=ob h
    refine ae (bJ aA hv4 k k k k k k) k<|ae (aW aA k k k k k k) k ?_
    obtain ⟨v5,hv5,h⟩:=ob h
    refine ae (bE (aFg v3 v4 v5 hv5) k (aG (cE (aU (aY k) (aU (aY k) (aU (aY k) cR)))) (aG (cE (aU (aY k) (aU (aY k) (aU (aY k) cR)))) bG))) k<|ae (cH k) k<|an ?_
    refine ⟨by kernel_rfl,?_⟩
    refine tn<|aO (t:=bU [(0,.list 3 (List.map eM a0)),(1,.list 3 (List.map eM a1)),(5,.int x1),(26,.bl (!v5))] [] 0 [0,1]) (aE (σ:=sg []) ⟨⟨_,k,⟨k,k⟩⟩,⟨_,k,⟨k,k⟩⟩,(e1 k k),(e1 k k),trivial⟩ trivial k) ?_
    rcases cb h with ⟨q6,h⟩|⟨q6,h⟩
    ·refine aJ k q6<|sQ<|rg<|aa k k<|an<|tn<|aK<|bB<|aI<|aI ?_
     obtain rfl:=so h
     exact ⟨_,k,k,aT k k k (bT k)⟩
    ·refine aN k q6<|aR<|bF<|tn<|rg<|am k k<|ae (bW k k) k<|aa k k<|an<|tn ?_
     obtain rfl:=so h
     exact ⟨_,k,(aE (σ:=sg []) ⟨⟨_,k,⟨k,k⟩⟩,⟨_,k,⟨k,k⟩⟩,(e1 k k),trivial⟩ trivial k)⟩
   ·refine aN k q2<|bH<|aH<|aH ?_
    obtain rfl:=so h
    exact ⟨_,k,k,(aE (σ:=sg []) trivial trivial k)⟩
  ·intro e t hX
   rcases y7 with y8|y9
   ·obtain ⟨rfl,hent⟩:=hX
    refine aX<|tn<|aO hent<|sQ<|rg<|aa k k<|an<|tn<|aK ?_
    obtain rfl:=so h
    exact aT k k k (bT k)
   ·obtain ⟨rfl,hent⟩:=hX
    refine bB<|aI ?_
    obtain rfl:=so h
    exact hent
def wS (a0:Rp) (a1:Rp):Option Bool:=
 bif !decide (a0.p=a1.p) then
 (some (false))
 else
 (Option.bind (rH a0.q a1.q) fun v2=>
 bif !v2 then
 (some (false))
 else
 (Option.bind (iW a0.dims a1.dims) fun v4=>
 bif !v4 then
 (some (false))
 else
 (Option.bind (qA a0.maps a1.maps) fun v6=>
 bif !v6 then
 (some (false))
 else
 (some (true)))))
theorem aJV (a0:Rp) (a1:Rp) (r:Bool) (h:wS a0 a1=some r):HasC Tryz.prog 18 [.agg (eR a0),.agg (eR a1)] (.bl r):=by
 refine bN aA (rvs:=[.tmp 4]) (ns:=[0,1,2,3]) Tryz.func18 k k Tryz.ntmps18 k k k<|sQ<|rg<|ae (cD k k k k) k<|ae (cD k k k k) k<|aa k k<|an<|tn<|sQ<|sQ ?_
 refine rg<|ae (aD aA k k k k k k k) k<|ae (aC aA k k k k k k k) k<|ae (aD aA k k k k k k k) k<|ae (aC aA k k k k k k k) k<|ae (bD k k k) k<|an<|tn ?_
 rcases cb h with ⟨q1,h⟩|⟨q1,h⟩
 ·refine aJ k q1<|sQ<|rg<|aa k k<|an<|tn<|aK<|aI ?_
  obtain rfl:=so h
  exact aT k k k (bT k)
 ·refine aN k q1<|aR<|tn<|sQ<|sQ<|rg<|ae (aD aA k k k k k k k) k<|ae (aC aA k k k k k k k) k<|ae (aD aA k k k k k k k) k<|ae (aC aA k k k k k k k) k ?_
  obtain ⟨v2,hv2,h⟩:=ob h
  refine ae (bE (aFf a0.q a1.q v2 hv2) k (aG (cE (aU (aY k) (aU (aY k) (aU (aY k) cR)))) (aG (cE (aU (aY k) (aU (aY k) (aU (aY k) cR)))) bG))) k<|ae (cH k) k<|an<|tn<|aO (t:=bU [(2,.ptr 0 0 0),(3,.ptr 1 0 0),(15,.bl (!v2))] [(0,⟨6,[[.int a0.p,.int a0.q.n,.list 1 (List.map eI a0.q.src),.list 1 (List.map eI a0.q.tgt),.list 1 (List.map eI a0.dims),.list 3 (List.map eM a0.maps)]]⟩),(1,⟨6,[[.int a1.p,.int a1.q.n,.list 1 (List.map eI a1.q.src),.list 1 (List.map eI a1.q.tgt),.list 1 (List.map eI a1.dims),.list 3 (List.map eM a1.maps)]]⟩)] 2 [2,3]) (aE (σ:=sg [(0,0),(1,1)]) ⟨(pE k k),(pE k k),(e1 k k),trivial⟩ (hP k k k k<|hP k k k k<|trivial) k) ?_
  rcases cb h with ⟨q3,h⟩|⟨q3,h⟩
  ·refine aJ k q3<|sQ<|rg<|aa k k<|an<|tn<|aK<|aI ?_
   obtain rfl:=so h
   exact aT k k k (bT k)
  ·refine aN k q3<|aR<|tn<|sQ<|sQ<|rg<|ae (aD aA k k k k k k k) k<|ae (aC aA k k k k k k k) k<|ae (aD aA k k k k k k k) k<|ae (aC aA k k k k k k k) k ?_
   obtain ⟨v4,hv4,h⟩:=ob h
   refine ae (bE (nT a0.dims a1.dims v4 hv4) k (aG (aM k) (aG (aM k) bG))) k<|ae (cH k) k<|an<|tn ?_
   rcases cb h with ⟨q5,h⟩|⟨q5,h⟩
   ·refine aJ k q5<|sQ<|rg<|aa k k<|an<|tn<|aK<|aI ?_
    obtain rfl:=so h
    exact aT k k k (bT k)
   ·refine aN k q5<|aR<|tn<|sQ<|sQ<|rg<|ae (aD aA k k k k k k k) k<|ae (aC aA k k k k k k k) k<|ae (aD aA k k k k k k k) k<|ae (aC aA k k k k k k k) k ?_
    obtain ⟨v6,hv6,h⟩:=ob h
    refine ae (bE (aEZ a0.maps a1.maps v6 hv6) k (aG (aM k) (aG (aM k) bG))) k<|ae (cH k) k<|an<|tn<|aO (t:=bU [(27,.bl (!v6))] [] 2 [2,3]) (aE (σ:=sg []) ⟨(e1 k k),trivial⟩ trivial k) ?_
    rcases cb h with ⟨q7,h⟩|⟨q7,h⟩
    ·refine aJ k q7<|sQ<|rg<|aa k k<|an<|tn<|aK<|aI ?_
     obtain rfl:=so h
     exact aT k k k (bT k)
    ·refine aN k q7<|aR<|tn<|sQ<|rg<|aa k k<|an<|tn<|aK ?_
     obtain rfl:=so h
     exact aT k k k (bT k)
end
noncomputable section
def zI (n:Nat) (left:Int):Int:=if left - n<0 then -1 else left - n
def zC:List (Int→Int)→Int→Int
 | [],left=>left
 |f::fs,left=>if f left<0 then -1 else zC fs (f left)
def zS {α:Type} (f:α→Int→Int) (l:List α) (left:Int):Int:=if left - l.length<0 then -1 else zC (l.map f) (left - l.length)
def zQ (q:Qv):Int→Int:=zC [zI q.src.length,zI q.tgt.length]
def zM (m:Mt):Int→Int:=zC [zI m.cells.length]
def zR (r:Rp):Int→Int:=zC [zQ r.q,zI r.dims.length,zS zM r.maps]
def yQ (f:Int→Int) (b:Prop):Prop:= ∀ left,0≤left→left≤1048576→f left= -1∨(0≤f left∧f left≤left∧b)
theorem yR (n:Nat):yQ (zI n) (n≤1048576):=by
 intro left h0 h1
 unfold zI
 by_cases h:left - n<0
 ·rw [if_pos h];exact .inl rfl
 ·rw [if_neg h];exact .inr ⟨by omega,by omega,by omega⟩
theorem aEa:yQ (zC []) True:=fun left h0 _=> .inr ⟨h0,Int.le_refl _,trivial⟩
theorem sB {f:Int→Int} {fs:List (Int→Int)} {b bs:Prop} (h:yQ f b) (k:yQ (zC fs) bs):yQ (zC (f::fs)) (b∧bs):=by
 intro left h0 h1
 unfold zC
 rcases h left h0 h1 with e|⟨e1,e2,e3⟩
 ·rw [e,if_pos (by decide)];exact .inl rfl
 ·rw [if_neg (by omega)]
  rcases k (f left) e1 (by omega) with g|⟨g1,g2,g3⟩
  ·exact .inl g
  ·exact .inr ⟨g1,by omega,e3,g3⟩
theorem aIe {α:Type} {f:α→Int→Int} {b:α→Prop} (h: ∀ x,yQ (f x) (b x)): ∀ l:List α,yQ (zC (l.map f)) (∀ x∈l,b x)
 | []=>fun left h0 _=> .inr ⟨h0,Int.le_refl _,by simp⟩
 |x::l=>fun left h0 h1=>by
  rcases sB (h x) (aIe h l) left h0 h1 with e|⟨e1,e2,e3,e4⟩
  ·exact .inl e
  ·exact .inr ⟨e1,e2,fun y hy=>by rcases List.mem_cons.1 hy with rfl|h';exact e3;exact e4 y h'⟩
theorem aMp {α:Type} {f:α→Int→Int} {b:α→Prop} (h: ∀ x,yQ (f x) (b x)) (l:List α):yQ (zS f l) (l.length≤1048576∧ ∀ x∈l,b x):=by
 intro left h0 h1
 unfold zS
 by_cases e:left - l.length<0
 ·rw [if_pos e];exact .inl rfl
 ·rw [if_neg e]
  rcases aIe h l (left - l.length) (by omega) (by omega) with g|⟨g1,g2,g3⟩
  ·exact .inl g
  ·exact .inr ⟨g1,by omega,by omega,g3⟩
def bI (l:List Int):Prop:=l.length≤1048576
def bQ (q:Qv):Prop:=bI q.src∧bI q.tgt∧True
def bM (m:Mt):Prop:=bI m.cells∧True
def bR (r:Rp):Prop:=bQ r.q∧bI r.dims∧(r.maps.length≤1048576∧ ∀ m∈r.maps,bM m)∧True
def bS (s:Sc):Prop:=(s.basis.length≤1048576∧ ∀ v∈s.basis,bI v)∧True
theorem aMq (q:Qv):yQ (zQ q) (bQ q):=sB (yR _) (sB (yR _) aEa)
theorem aJW (m:Mt):yQ (zM m) (bM m):=sB (yR _) aEa
theorem aQO (r:Rp):yQ (zR r) (bR r):=sB (aMq _) (sB (yR _) (sB (aMp aJW _) aEa))
def fI {α:Type} (l:List α):Prop:=l.length≤9223372036854775807
theorem aBg {o:Option Int} {z:Int→Int} {zs:List (Int→Int)} {b:Prop} {left:Int} {k:Int→Option Int} (ho:o=some (z left)) (hf:yQ z b) (h0:0≤left) (h1:left≤1048576) (hk: ∀ v,0≤v→v≤1048576→k v=some (zC zs v)):
  Option.bind o (fun v=>bif decide (v<0) then some (-1) else k v)=some (zC (z::zs) left):=by
 rw [ho,Option.bind_some]
 unfold zC
 rcases hf left h0 h1 with e|⟨e1,e2,_⟩
 ·rw [e];rfl
 ·rw [if_neg (by omega),decide_eq_false (by omega: ¬ z left<0),cond_false];exact hk _ e1 (by omega)
theorem aQP {α:Type} {body:Int×Int→Option ((Int×Int) ⊕ (Int ⊕ Int))} {f:α→Int→Int} {b:α→Prop} {l:List α} (hf: ∀ x,yQ (f x) (b x)) (hl:l.length≤1048576)
  (hs: ∀ (v:Int) (k:Nat) (hk:k<l.length),0≤v→v≤1048576→body (v,k)=some (bif decide (f l[k] v<0) then .inr (.inr (-1)) else .inl (f l[k] v,wr (k+1)))) (he: ∀ v,body (v,l.length)=some (.inr (.inl v))) (v:Int) (h0:0≤v) (h1:v≤1048576):
  Option.bind (Lp body (v,0)) (fun y=>Sum.elim (fun y=>some y) (fun y=>some y) y)=some (zC (l.map f) v):=by
 have key: ∀ d k:Nat,k+d=l.length→ ∀ v:Int,0≤v→v≤1048576→Option.bind (Lp body (v,(k:Int))) (fun y=>Sum.elim (fun y=>some y) (fun y=>some y) y)=some (zC ((l.drop k).map f) v):=by
  intro d
  induction d with
  |zero=>
   intro k hk v _ _
   rw [Nat.add_zero] at hk;subst hk
   rw [vF (he v)]
   simp [zC]
  |succ d ih=>
   intro k hk v h0 h1
   have h:=hs v k (by omega) h0 h1
   rw [List.drop_eq_getElem_cons (by omega:k<l.length),List.map_cons]
   unfold zC
   rcases hf l[k] v h0 h1 with e|⟨e1,e2,_⟩
   ·rw [e] at h ⊢
    rw [vF (r:= .inr (-1)) (by rw [h];rfl)];rfl
   ·rw [if_neg (by omega)]
    rw [decide_eq_false (by omega: ¬ f l[k] v<0),cond_false,dR (n:=l.length) (by omega) (by omega)] at h
    rw [aBY h]
    exact ih (k+1) (by omega) _ e1 (by omega)
 have:=key l.length 0 (by omega) v h0 h1
 simpa using this
theorem aQQ {l:List Int} {left:Int} (hl:fI l) (h0:0≤left) (h1:left≤1048576):kT l left=some (zI l.length left):=by
 unfold fI at hl
 unfold kT zI
 rw [aGc (by omega)]
 by_cases h:left - l.length<0
 ·rw [decide_eq_true h,if_pos h];rfl
 ·rw [decide_eq_false h,if_neg h];rfl
def fQ (q:Qv):Prop:=fI q.src∧fI q.tgt
theorem aSW {q:Qv} {left:Int} (hl:fQ q) (h0:0≤left) (h1:left≤1048576):wC q left=some (zQ q left):=
 aBg (aQQ hl.1 h0 h1) (yR _) h0 h1 fun v g0 g1=>aBg (aQQ hl.2 g0 g1) (yR _) g0 g1 fun v _ _=>rfl
def fM (m:Mt):Prop:=fI m.cells
theorem aSX {m:Mt} {left:Int} (hl:fM m) (h0:0≤left) (h1:left≤1048576):wD m left=some (zM m left):=
 aBg (aQQ hl h0 h1) (yR _) h0 h1 fun v _ _=>rfl
def fMs (l:List Mt):Prop:=fI l∧ ∀ m∈l,fM m
theorem aRp {l:List Mt} {left:Int} (hl:fMs l) (h0:0≤left) (h1:left≤1048576):pX l left=some (zS zM l left):=by
 obtain ⟨ha,hb⟩:=hl
 unfold fI at ha
 unfold pX zS
 rw [aGc (by omega)]
 by_cases h:left - l.length<0
 ·rw [decide_eq_true h,if_pos h];rfl
 ·rw [decide_eq_false h,if_neg h,cond_false]
  refine aQP (f:=zM) aJW (by omega) (fun v k hk g0 g1=>?_) (fun v=>?_) _ (by omega) (by omega)
  ·unfold kZ
   simp only
   rw [kY hk,cond_true,dW hk,Option.bind_some,aSX (hb _ (List.getElem_mem hk)) g0 g1,Option.bind_some]
   cases decide (zM l[k] v<0) <;> rfl
  ·unfold kZ
   simp only
   rw [pH (Nat.le_refl _),cond_false]
def fR (r:Rp):Prop:=fQ r.q∧fI r.dims∧fMs r.maps
theorem aSZ {r:Rp} {left:Int} (hl:fR r) (h0:0≤left) (h1:left≤1048576):aAZ r left=some (zR r left):=
 aBg (aSW hl.1 h0 h1) (aMq _) h0 h1 fun v g0 g1=>aBg (aQQ hl.2.1 g0 g1) (yR _) g0 g1 fun v g2 g3=>aBg (aRp hl.2.2 g2 g3) (aMp aJW _) g2 g3 fun v _ _=>rfl
theorem aIf {α:Type} {body:List α×Int→Option ((List α×Int) ⊕ List α)} {l:List α} (z:α) (hl:l.length≤4611686018427387904)
  (hs: ∀ (k:Nat) (hk:k<l.length) (r:List α),r.length=l.length→body (r,k)=some (.inl (r.set k l[k],wr (k+1)))) (he: ∀ r,body (r,l.length)=some (.inr r)):Lp body (List.replicate ((l.length:Int).toNat) z,0)=some l:=by
 refine aOa (fun k=>(l.take k++List.replicate (l.length - k) z,(k:Int))) l.length (by simp) (fun k hk=>?_) ?_
 ·rw [hs k hk _ (by simp;omega),dR hk hl]
  congr 3
  rw [show l.length - k=(l.length - (k+1))+1 by omega,List.replicate_succ,List.set_append_right _ _ (by simp;omega)]
  rw [List.take_succ_eq_append_getElem hk,List.length_take,Nat.min_eq_left (Nat.le_of_lt hk),Nat.sub_self,List.set_cons_zero,List.append_assoc];rfl
 ·rw [he];simp
theorem aPB {l:List Int} (h:bI l):fW l=some l:=by
 unfold bI at h
 unfold fW
 rw [decide_eq_true (by omega),decide_eq_true (by omega:(l.length:Int)≤1048576),Bool.and_self,cond_true]
 rw [aIf 0 (by omega) (fun k hk r hr=>?_) (fun r=>?_)];rfl
 ·unfold pY
  simp only
  rw [kY hk,cond_true,dW hk,Option.bind_some,dW (hr▸hk),Option.bind_some,Int.toNat_natCast]
 ·unfold pY
  simp only
  rw [pH (Nat.le_refl _),cond_false]
theorem aSa {q:Qv} (h:bQ q):rF q=some q:=by
 unfold rF
 rw [aPB h.1,Option.bind_some,aPB h.2.1,Option.bind_some]
theorem aSb {m:Mt} (h:bM m):rG m=some m:=by
 unfold rG
 rw [aPB h.1,Option.bind_some]
theorem aRq {l:List Mt} (h:l.length≤1048576∧ ∀ m∈l,bM m):pZ l=some l:=by
 obtain ⟨h,hb⟩:=h
 unfold pZ
 rw [decide_eq_true (by omega),decide_eq_true (by omega:(l.length:Int)≤1048576),Bool.and_self,cond_true]
 rw [aIf _ (by omega) (fun k hk r hr=>?_) (fun r=>?_)];rfl
 ·unfold lB
  simp only
  rw [kY hk,cond_true,dW hk,Option.bind_some,aSb (hb _ (List.getElem_mem hk)),Option.bind_some,dW (hr▸hk),Option.bind_some,Int.toNat_natCast]
 ·unfold lB
  simp only
  rw [pH (Nat.le_refl _),cond_false]
theorem aSc {r:Rp} (h:bR r):mP r=some r:=by
 unfold mP
 rw [aSa h.1,Option.bind_some,aPB h.2.1,Option.bind_some,aRq h.2.2.1,Option.bind_some]
theorem xN {α:Type} [DecidableEq α] {body:Int→Option (Int ⊕ (Unit ⊕ Bool))} {a b:List α} (hl:a.length≤4611686018427387904) (hab:a.length=b.length)
  (hs: ∀ (k:Nat) (h1:k<a.length) (h2:k<b.length),body k=some (bif decide (a[k]=b[k]) then .inl (wr (k+1)) else .inr (.inr false))) (he:body a.length=some (.inr (.inl ()))):
  Option.bind (Lp body 0) (fun y=>Sum.elim (fun _=>some true) (fun y=>some y) y)=some (decide (a=b)):=by
 have key: ∀ (P:Nat→Bool),(∀ (k:Nat) (h1:k<a.length) (h2:k<b.length),P k=decide (a[k]=b[k]))→Lp body 0=some (bif (List.range a.length).all P then .inl () else .inr false)→Option.bind (Lp body 0) (fun y=>Sum.elim (fun _=>some true) (fun y=>some y) y)=some (decide (a=b)):=by
  intro P hP e
  rw [e,Option.bind_some]
  have:(List.range a.length).all P=decide (a=b):=by
   rw [Bool.eq_iff_iff,uS,decide_eq_true_eq]
   constructor
   ·intro h
    refine List.ext_getElem hab fun k h1 h2=>?_
    have:=h k h1
    rw [hP k h1 h2] at this
    exact of_decide_eq_true this
   ·rintro rfl k hk;rw [hP k hk hk];simp
  rw [this]
  cases decide (a=b) <;> rfl
 refine key (fun k=>if h:k<a.length then if h2:k<b.length then decide (a[k]=b[k]) else false else false) (fun k h1 h2=>by rw [dif_pos h1,dif_pos h2]) (vX _ _ hl (fun k hk=>?_) (fun _=>he))
 rw [dif_pos hk,dif_pos (hab▸hk)]
 exact hs k hk (hab▸hk)
theorem vP {α β:Type} {a:List α} {b:List β} :decide ((a.length:Int)=(b.length:Int))=decide (a.length=b.length):=by
 rw [Bool.eq_iff_iff,decide_eq_true_eq,decide_eq_true_eq];omega
theorem aJX {body:Int→Option (Int ⊕ (Unit ⊕ Bool))} {a b:List Int} (hl:a.length≤4611686018427387904)
  (hb:body=fun x=>bif decide (x<(a.length:Int)) then (Option.bind (dX a x) fun v3=>Option.bind (dX b x) fun v4=>bif !decide (v3=v4) then (some (.inr (.inr (false)))) else (some (.inl (wr (x+1))))) else (some (.inr (.inl ())))):
  (bif !decide ((a.length:Int)=(b.length:Int)) then some false else Option.bind (Lp body 0) (fun y=>Sum.elim (fun _=>some true) (fun y=>some y) y))=some (decide (a=b)):=by
 rw [vP]
 by_cases h:a.length=b.length
 ·rw [decide_eq_true h,Bool.not_true,cond_false]
  refine xN hl h (fun k h1 h2=>?_) ?_
  ·rw [hb]
   simp only
   rw [kY h1,cond_true,dW h1,Option.bind_some,dW h2,Option.bind_some]
   cases decide (a[k]=b[k]) <;> rfl
  ·rw [hb]
   simp only
   rw [pH (Nat.le_refl _),cond_false]
 ·rw [decide_eq_false h,Bool.not_false,cond_true,decide_eq_false (by rintro rfl;exact h rfl)]
theorem gD {c d:Bool} {o:Option Bool} (h:c=true→o=some d):(bif !c then some false else o)=some (c&&d):=by cases c with|false=>rfl|true=>exact h rfl
theorem aNc {a b:List Int} (h:bI a):iW a b=some (decide (a=b)):=by
 unfold bI at h
 exact aJX (body:=uV a b) (by omega) rfl
theorem aGE {d:Bool} :(bif !d then some false else some true)=some d:=by cases d <;> rfl
theorem aSd {a b:Qv} (h:bQ a):rH a b=some (decide (a=b)):=by
 unfold rH
 rw [gD (d:=decide (a.src=b.src)&&decide (a.tgt=b.tgt)) (fun _=>?_)]
 ·cases a;cases b;simp [Bool.and_assoc]
 ·rw [aNc h.1,Option.bind_some]
  refine gD fun _=>?_
  rw [aNc h.2.1,Option.bind_some,aGE]
theorem aSe {a b:Mt} (h:bM a):rI a b=some (decide (a=b)):=by
 unfold rI
 rw [gD (d:=decide (a.cols=b.cols)&&decide (a.cells=b.cells)) (fun _=>?_)]
 ·cases a;cases b;simp [Bool.and_assoc]
 ·refine gD fun _=>?_
  rw [aNc h.1,Option.bind_some,aGE]
theorem aRr {a b:List Mt} (h:a.length≤1048576∧ ∀ m∈a,bM m):qA a b=some (decide (a=b)):=by
 obtain ⟨h,hb⟩:=h
 unfold qA
 rw [vP]
 by_cases e:a.length=b.length
 ·rw [decide_eq_true e,Bool.not_true,cond_false]
  refine xN (by omega) e (fun k h1 h2=>?_) ?_
  ·unfold lD
   rw [kY h1,cond_true,dW h1,Option.bind_some,dW h2,Option.bind_some,aSe (hb _ (List.getElem_mem h1)),Option.bind_some]
   cases decide (a[k]=b[k]) <;> rfl
  ·unfold lD
   rw [pH (Nat.le_refl _),cond_false]
 ·rw [decide_eq_false e,Bool.not_false,cond_true,decide_eq_false (by rintro rfl;exact e rfl)]
theorem aSf {a b:Rp} (h:bR a):wS a b=some (decide (a=b)):=by
 unfold wS
 rw [gD (d:=decide (a.q=b.q)&&(decide (a.dims=b.dims)&&decide (a.maps=b.maps))) (fun _=>?_)]
 ·cases a;cases b;simp [Bool.and_assoc]
 ·rw [aSd h.1,Option.bind_some]
  refine gD fun _=>?_
  rw [aNc h.2.1,Option.bind_some]
  refine gD fun _=>?_
  rw [aRr h.2.2.1,Option.bind_some,aGE]
end
noncomputable section
theorem hJ {c d:Bool} {o:Option Bool} (h:c=true→o=some d):(bif c then o else some false)=some (c&&d):=by cases c with|false=>rfl|true=>exact h rfl
theorem xO {c d:Bool} :(bif c then some d else some false)=some (c&&d):=by cases c <;> rfl
theorem aMr {x a b:Int} :(bif decide (a≤x) then some (decide (x≤b)) else some false)=some (tE x a b):=by
 rw [xO]
 unfold tE
 by_cases h1:a≤x <;> by_cases h2:x≤b <;> simp [h1,h2]
theorem vQ (x a b:Int):gY x a b=some (tE x a b):=aMr
theorem uW (x a b:Int):fS x a b=some (tE x a b):=aMr
theorem aKl (p:Int):(bif decide (p=2) then some true else bif decide (p=3) then some true else some (decide (p=5)))=some (kX p):=by
 unfold kX
 by_cases h2:p=2 <;> by_cases h3:p=3 <;> by_cases h5:p=5 <;> simp [h2,h3,h5]
theorem aDY (p:Int):iA p=some (kX p):=aKl p
theorem aBh (p:Int):iB p=some (kX p):=aKl p
theorem aRs {a b:List Int} (h:bI a):aHp a b=some (decide (a=b)):=by
 unfold bI at h
 exact aJX (body:=aAD a b) (by omega) rfl
theorem aNd {a b:List Int} (h:bI a):lK a b=some (decide (a=b)):=by
 unfold bI at h
 exact aJX (body:=jF a b) (by omega) rfl
theorem aEb (p:Int) {v:List Int} (h:bI v):gP p v=some (kX p&&decide (v.length≤64)&&v.all fun x=>tE x 0 (wr (p - 1))):=by
 unfold bI at h
 unfold gP
 rw [aDY,Option.bind_some]
 cases kX p with
 |false=>rfl
 |true=>
  rw [Bool.not_true,cond_false,Bool.true_and]
  by_cases h64:v.length≤64
  ·rw [decide_eq_false (by omega),cond_false,decide_eq_true h64,Bool.true_and]
   rw [vX (fun k=>tE (v[k]?.getD 0) 0 (wr (p - 1))) false (n:=v.length) (by omega) (fun k hk=>?_) (fun _=>?_),xC 0 v (fun x=>tE x 0 (wr (p - 1))),Option.bind_some]
   ·cases v.all _ <;> rfl
   ·unfold mJ
    rw [kY hk,cond_true,vW 0 hk,Option.bind_some,uW,Option.bind_some]
    cases tE _ 0 _ <;> rfl
   ·unfold mJ
    rw [pH (Nat.le_refl _),cond_false]
  ·rw [decide_eq_true (by omega),cond_true,decide_eq_false h64,Bool.false_and]
theorem aKm {v:List Int} {f:Int→Option Bool} (P:Int→Bool) (hf: ∀ x,f x=some (P x)) (h:bI v): ∃ i:Int,dS v f=some i∧decide (0≤i)=v.any P:=by
 unfold bI at h
 unfold dS
 rw [aEK (s0:=0) (s:=0) (n:=v.length) (fun k=>bif P (v[k]?.getD 0) then some (k:Int) else none) rfl (by omega) (Nat.zero_le _) (fun k _ hk=>?_) (fun _=>?_)]
 ·rw [Option.bind_some]
  cases e:(List.range' 0 (v.length - 0)).findSome? (fun k:Nat=>bif P (v[k]?.getD 0) then some (k:Int) else none) with
  |none=>
   refine ⟨-1,rfl,?_⟩
   rw [List.findSome?_eq_none_iff] at e
   have:v.any P=false:=by
    rw [List.any_eq_false]
    intro x hx
    obtain ⟨k,hk,rfl⟩:=List.mem_iff_getElem.1 hx
    have:=e k (by simp;omega)
    simp only [List.getElem?_eq_getElem hk,Option.getD_some] at this
    cases hp:P v[k] with
    |false=>simp
    |true=>rw [hp] at this;cases this
   rw [this];rfl
  |some i=>
   refine ⟨i,rfl,?_⟩
   obtain ⟨k,hk,he⟩:=List.exists_of_findSome?_eq_some e
   simp at hk
   have hkl:k<v.length:=by omega
   rw [List.getElem?_eq_getElem hkl] at he
   simp only [Option.getD_some] at he
   cases hp:P v[k] with
   |false=>rw [hp] at he;cases he
   |true=>
    rw [hp] at he
    cases he
    rw [decide_eq_true (by omega),eq_comm,List.any_eq_true]
    exact ⟨_,List.getElem_mem hkl,hp⟩
 ·unfold cZ
  rw [kY hk,cond_true,vW 0 hk,Option.bind_some,hf,Option.bind_some]
  cases P _ <;> rfl
 ·unfold cZ
  rw [pH (Nat.le_refl _),cond_false]
theorem vR {v:List Int} (h:bI v) (a b:Int):gC v a b=some (v.all fun x=>tE x a b):=by
 unfold gC gW
 obtain ⟨i,h1,h2⟩:=aKm (f:=fun b0=>jI b0 a b) (fun x=> !tE x a b) (fun x=>by simp only [jI];rw [vQ,Option.bind_some]) h
 rw [h1,Option.bind_some,Option.bind_some,h2,List.not_any_eq_all_not]
 simp
theorem aIg (p:Int) {v:List Int} (h:bI v):nK p v=some (kX p&&decide (v.length≤64)&&v.all fun x=>tE x 0 (wr (p - 1))):=by
 unfold nK
 rw [aBh,Option.bind_some,vR h,Option.bind_some,xO,xO,Bool.and_assoc]
 congr 3
 rw [Bool.eq_iff_iff,decide_eq_true_eq,decide_eq_true_eq];omega
def aBo (p:Int) (m:Mt):Bool:=tE m.rows 0 8&&(tE m.cols 0 8&&(decide ((m.cells.length:Int)=wr (m.rows*m.cols))&&(kX p&&decide (m.cells.length≤64)&&m.cells.all fun x=>tE x 0 (wr (p - 1)))))
theorem aEc (p:Int) {m:Mt} (h:bM m):kD p m=some (aBo p m):=by
 unfold kD aBo
 rw [uW,Option.bind_some]
 refine hJ fun _=>?_
 rw [uW,Option.bind_some]
 refine hJ fun _=>?_
 refine hJ fun _=>?_
 rw [aEb p h.1,Option.bind_some]
theorem aNe (p:Int) {m:Mt} (h:bM m):rA p m=some (aBo p m):=by
 unfold rA aBo
 rw [vQ,Option.bind_some]
 refine hJ fun _=>?_
 rw [vQ,Option.bind_some]
 refine hJ fun _=>?_
 refine hJ fun _=>?_
 rw [aIg p h.1,Option.bind_some]
theorem aLw {p:Int} {m:Mt} (h:aBo p m=true):kX p=true∧ ∃ (r c:Nat) (F:Nat→Nat→Int),r≤8∧c≤8∧m=⟨r,c,dF r c F⟩∧ ∀ i j,i<r→j<c→0≤F i j∧F i j<p:=by
 unfold aBo at h
 simp only [Bool.and_eq_true,decide_eq_true_eq,List.all_eq_true] at h
 obtain ⟨h1,h2,h3,⟨h4,h5⟩,h6⟩:=h
 have h1:=iP h1
 have h2:=iP h2
 refine ⟨h4,m.rows.toNat,m.cols.toNat,fun i j=>m.cells[i*m.cols.toNat+j]?.getD 0,by omega,by omega,?_,?_⟩
 ·obtain ⟨a,b,l⟩:=m
  simp only at*
  obtain ⟨r,rfl⟩:=Int.eq_ofNat_of_zero_le h1.1
  obtain ⟨c,rfl⟩:=Int.eq_ofNat_of_zero_le h2.1
  have hb:r*c≤64:=Nat.mul_le_mul (by omega:r≤8) (by omega:c≤8)
  rw [aLf (by omega)] at h3
  simp only [Int.toNat_natCast]
  rw [←aQG (by omega)]
 ·intro i j hi hj
  show 0≤m.cells[i*m.cols.toNat+j]?.getD 0∧m.cells[i*m.cols.toNat+j]?.getD 0<p
  have hx:=aMi hi hj
  have e:((m.rows.toNat*m.cols.toNat:Nat):Int)=m.rows*m.cols:=by
   rw [Int.natCast_mul,Int.toNat_of_nonneg h1.1,Int.toNat_of_nonneg h2.1]
  have hb:m.rows.toNat*m.cols.toNat≤64:=Nat.mul_le_mul (by omega:m.rows.toNat≤8) (by omega:m.cols.toNat≤8)
  rw [gG (by omega)] at h3
  have hl:i*m.cols.toNat+j<m.cells.length:=by omega
  have:=iP (h6 _ (List.getElem_mem hl))
  rw [List.getElem?_eq_getElem hl,Option.getD_some]
  have hp:=gH h4
  rw [gG (by omega)] at this
  omega
def aFL (q:Qv):Bool:=tE q.n 1 5&&(decide ((q.src.length:Int)=(q.tgt.length:Int))&&(decide ((q.src.length:Int)≤6)&&((q.src.all fun x=>tE x 0 (wr (q.n - 1)))&&(q.tgt.all fun x=>tE x 0 (wr (q.n - 1))))))
theorem aQR {q:Qv} (h:bQ q):rB q=some (aFL q):=by
 unfold rB aFL
 rw [vQ,Option.bind_some]
 refine hJ fun _=>hJ fun _=>hJ fun _=>?_
 rw [vR h.1,Option.bind_some]
 refine hJ fun _=>?_
 rw [vR h.2.1,Option.bind_some]
theorem aQS {q:Qv} (h:bQ q):qX q=some (aFL q):=by
 obtain ⟨h1,h2,_⟩:=h
 unfold bI at h1 h2
 unfold qX
 rw [vX (n:=min q.src.length q.tgt.length) (fun k=>tE (q.src[k]?.getD 0) 0 (wr (q.n - 1))&&tE (q.tgt[k]?.getD 0) 0 (wr (q.n - 1))) false (by omega) (fun k hk=>?_) (fun _=>?_)]
 ·rw [Option.bind_some]
  unfold aFL
  by_cases e:q.src.length=q.tgt.length
  ·have e2:min q.src.length q.tgt.length=q.src.length:=by omega
   have hall:(List.range q.src.length).all (fun k=>tE (q.src[k]?.getD 0) 0 (wr (q.n - 1))&&tE (q.tgt[k]?.getD 0) 0 (wr (q.n - 1)))=((q.src.all fun x=>tE x 0 (wr (q.n - 1)))&&(q.tgt.all fun x=>tE x 0 (wr (q.n - 1)))):=by
    rw [←xC 0 q.src,←xC 0 q.tgt,←e]
    rw [Bool.eq_iff_iff,Bool.and_eq_true,uS,uS,uS]
    simp only [Bool.and_eq_true]
    exact ⟨fun h=>⟨fun k hk=>(h k hk).1,fun k hk=>(h k hk).2⟩,fun h k hk=>⟨h.1 k hk,h.2 k hk⟩⟩
   rw [e2,hall,decide_eq_true (by omega:(q.src.length:Int)=(q.tgt.length:Int))]
   cases (q.src.all fun x=>tE x 0 (wr (q.n - 1)))&&(q.tgt.all fun x=>tE x 0 (wr (q.n - 1))) with
   |false=>simp
   |true=>
    simp only [cond_true,Sum.elim_inl]
    rw [uW,Option.bind_some,decide_eq_true (by omega:(q.tgt.length:Int)=(q.src.length:Int)),xO,xO]
    simp
  ·rw [decide_eq_false (by omega: ¬ (q.src.length:Int)=(q.tgt.length:Int))]
   simp only [Bool.false_and,Bool.and_false]
   cases (List.range (min q.src.length q.tgt.length)).all _ with
   |false=>rfl
   |true=>
    simp only [cond_true,Sum.elim_inl]
    rw [uW,Option.bind_some,decide_eq_false (by omega: ¬ (q.tgt.length:Int)=(q.src.length:Int)),xO,xO]
    simp
 ·unfold mI
  rw [kY (by omega),cond_true,kY (by omega),cond_true,vW 0 (by omega),Option.bind_some,uW,Option.bind_some,vW 0 (by omega),Option.bind_some,uW,Option.bind_some]
  cases tE (q.src[k]?.getD 0) 0 (wr (q.n - 1)) <;> cases tE (q.tgt[k]?.getD 0) 0 (wr (q.n - 1)) <;> rfl
 ·unfold mI
  by_cases e:q.src.length≤q.tgt.length
  ·rw [pH (by omega),cond_false]
  ·rw [kY (by omega),cond_true,pH (by omega),cond_false]
theorem aBG {q:Qv} (h:aFL q=true): ∃ n:Nat,q.n=n∧1≤n∧n≤5∧q.src.length=q.tgt.length∧q.src.length≤6∧(∀ x∈q.src,0≤x∧x<n)∧ ∀ x∈q.tgt,0≤x∧x<n:=by
 unfold aFL at h
 simp only [Bool.and_eq_true,decide_eq_true_eq,List.all_eq_true] at h
 obtain ⟨h1,h2,h3,h4,h5⟩:=h
 have h1:=iP h1
 rw [gG (by omega)] at h4 h5
 refine ⟨q.n.toNat,by omega,by omega,by omega,by omega,by omega,fun x hx=>?_,fun x hx=>?_⟩
 ·have:=iP (h4 x hx);omega
 ·have:=iP (h5 x hx);omega
def aFM (q:Qv) (d:List Int):Bool:=aFL q&&(decide ((d.length:Int)=q.n)&&((d.all fun x=>tE x 0 4)&&decide (d.sum≤8)))
theorem aLx {d:List Int} (h: ∀ x∈d,0≤x∧x≤4):0≤d.sum∧d.sum≤4*d.length:=by
 induction d with
 |nil=>simp
 |cons x d ih=>
  have h1:=h x (by simp)
  have h2:=ih fun y hy=>h y (by simp [hy])
  simp only [List.sum_cons,List.length_cons]
  omega
theorem aBH {d:List Int} {k:Nat} (hk:k<d.length):(d.take (k+1)).sum=(d.take k).sum +d[k]?.getD 0:=by
 rw [List.take_succ_eq_append_getElem hk,List.sum_append]
 simp [hk]
theorem aMs {d:List Int} (h: ∀ x∈d,0≤x∧x≤4) (hl:d.length≤1048576):tN d=some d.sum:=by
 unfold tN
 rw [fT (r:=d.sum) (fun k=>((d.take k).sum,(k:Int))) d.length (by simp) (fun k hk=>?_) (fun _=>?_)];rfl
 ·unfold qW
  simp only
  rw [kY hk,cond_true,vW 0 hk,Option.bind_some,dR hk (by omega)]
  have h1:=aLx (d:=d.take (k+1)) fun x hx=>h x (List.mem_of_mem_take hx)
  rw [←aBH hk,gG (by simp at h1;omega)]
 ·unfold qW
  simp only
  rw [pH (Nat.le_refl _),cond_false,List.take_length]
theorem aLy {q:Qv} {d:List Int} (hq:bQ q) (hd:bI d):tS q d=some (aFM q d):=by
 unfold tS aFM
 rw [aQR hq,Option.bind_some]
 refine hJ fun _=>hJ fun _=>?_
 rw [vR hd,Option.bind_some]
 refine hJ fun h=>?_
 rw [aMs (fun x hx=>iP (List.all_eq_true.1 h x hx)) hd,Option.bind_some]
theorem aLz {q:Qv} {d:List Int} (hq:bQ q) (hd:bI d):tQ q d=some (aFM q d):=by
 unfold bI at hd
 unfold tQ aFM
 rw [aQS hq,Option.bind_some]
 refine gD fun _=>gD fun _=>?_
 cases hall:d.all (fun x=>tE x 0 4) with
 |true=>
  have hb: ∀ x∈d,0≤x∧x≤4:=fun x hx=>iP (List.all_eq_true.1 hall x hx)
  rw [fT (r:= .inl d.sum) (fun k=>((d.take k).sum,(k:Int))) d.length (by simp) (fun k hk=>?_) (fun _=>?_)];rfl
  ·unfold iM
   simp only
   rw [kY hk,cond_true,vW 0 hk,Option.bind_some,uW,Option.bind_some]
   have hin:tE (d[k]?.getD 0) 0 4=true:=by rw [List.getElem?_eq_getElem hk];exact List.all_eq_true.1 hall _ (List.getElem_mem hk)
   rw [hin,Bool.not_true,cond_false,Option.bind_some,dR hk (by omega)]
   have h1:=aLx (d:=d.take (k+1)) fun x hx=>hb x (List.mem_of_mem_take hx)
   rw [←aBH hk,gG (by simp at h1;omega)]
  ·unfold iM
   simp only
   rw [pH (Nat.le_refl _),cond_false,List.take_length]
 |false=>
  have key:=aMg (body:=iM d) (s:=(0,0)) (fun s=> ∃ k:Nat,s.2=k∧k≤d.length∧ ∀ j,j<k→tE (d[j]?.getD 0) 0 4=true) (fun s=>d.length - s.2.toNat) (fun r=>r= .inr false)
   ⟨0,rfl,Nat.zero_le _,fun j hj=>absurd hj (Nat.not_lt_zero _)⟩ (fun s ⟨k,hs,hk,hj⟩=>?_)
  ·obtain ⟨r,h1,h2⟩:=key
   rw [h1,h2];rfl
  ·obtain ⟨t,s2⟩:=s
   simp only at hs
   subst hs
   rcases Nat.lt_or_ge k d.length with hlt|hge
   ·unfold iM
    simp only
    rw [kY hlt,cond_true,vW 0 hlt,Option.bind_some,uW,Option.bind_some]
    cases hin:tE (d[k]?.getD 0) 0 4 with
    |false=>exact .inr ⟨_,rfl,rfl⟩
    |true=>
     rw [Bool.not_true,cond_false,Option.bind_some,dR hlt (by omega)]
     refine .inl ⟨_,rfl,⟨k+1,rfl,hlt,fun j hj2=>?_⟩,by simp;omega⟩
     by_cases e:j=k
     ·subst e;exact hin
     ·exact hj j (by omega)
   ·exfalso
    have:d.all (fun x=>tE x 0 4)=true:=by
     rw [←xC 0 d,uS];exact fun j hj'=>hj j (by omega)
    rw [hall] at this;cases this
theorem aBI {q:Qv} {d:List Int} (h:aFM q d=true):aFL q=true∧(d.length:Int)=q.n∧(∀ x∈d,0≤x∧x≤4)∧d.sum≤8:=by
 unfold aFM at h
 simp only [Bool.and_eq_true,decide_eq_true_eq,List.all_eq_true] at h
 exact ⟨h.1,h.2.1,fun x hx=>iP (h.2.2.1 x hx),h.2.2.2⟩
def aEd (r:Rp):Bool:=kX r.p&&(aFM r.q r.dims&&(decide ((r.maps.length:Int)=(r.q.src.length:Int))&&(List.range r.maps.length).all fun k=>
 aBo r.p (r.maps[k]?.getD ⟨0,0,[]⟩)&&(decide ((r.maps[k]?.getD ⟨0,0,[]⟩).cols=r.dims[(r.q.src[k]?.getD 0).toNat]?.getD 0)&&decide ((r.maps[k]?.getD ⟨0,0,[]⟩).rows=r.dims[(r.q.tgt[k]?.getD 0).toNat]?.getD 0))))
theorem eZ {α:Type} {l:List α} {k:Nat} (d:α) (h:k<l.length):l[k]?.getD d∈l:=by rw [List.getElem?_eq_getElem h];exact List.getElem_mem h
theorem aIh {r:Rp} (h:bR r):tR r=some (aEd r):=by
 obtain ⟨h1,h2,⟨h3,h4⟩,_⟩:=h
 unfold tR aEd
 rw [aDY,Option.bind_some]
 refine gD fun hF=>?_
 rw [aLz h1 h2,Option.bind_some]
 refine gD fun hD=>?_
 obtain ⟨hQ,hd1,hd2,_⟩:=aBI hD
 obtain ⟨n,hn,_,_,hq1,hq2,hq3,hq4⟩:=aBG hQ
 refine gD fun hL=>?_
 have hL:=of_decide_eq_true hL
 rw [vX (fun k=>aBo r.p (r.maps[k]?.getD ⟨0,0,[]⟩)&&(decide ((r.maps[k]?.getD ⟨0,0,[]⟩).cols=r.dims[(r.q.src[k]?.getD 0).toNat]?.getD 0)&&decide ((r.maps[k]?.getD ⟨0,0,[]⟩).rows=r.dims[(r.q.tgt[k]?.getD 0).toNat]?.getD 0))) false (n:=r.maps.length) (by omega) (fun k hk=>?_) (fun _=>?_),Option.bind_some]
 ·cases (List.range r.maps.length).all _ <;> rfl
 ·have hs:=hq3 _ (eZ 0 (show k<r.q.src.length by omega))
  have ht:=hq4 _ (eZ 0 (show k<r.q.tgt.length by omega))
  unfold qZ
  rw [kY hk,cond_true,vW ⟨0,0,[]⟩ hk,Option.bind_some,aEc _ (h4 _ (eZ _ hk)),Option.bind_some,Option.bind_some,vW 0 (by omega),Option.bind_some,atI 0 hs.1 (by omega),Option.bind_some,Option.bind_some,vW 0 (by omega),Option.bind_some,atI 0 ht.1 (by omega),Option.bind_some]
  cases aBo r.p _ <;> cases decide ((r.maps[k]?.getD _).cols=_) <;> cases decide ((r.maps[k]?.getD _).rows=_) <;> rfl
 ·unfold qZ
  rw [pH (Nat.le_refl _),cond_false]
theorem aIi {r:Rp} (h:bR r):tT r=some (aEd r):=by
 obtain ⟨h1,h2,⟨h3,h4⟩,_⟩:=h
 unfold tT aEd
 rw [aBh,Option.bind_some]
 refine gD fun hF=>?_
 rw [aLy h1 h2,Option.bind_some]
 refine gD fun hD=>?_
 obtain ⟨hQ,hd1,hd2,_⟩:=aBI hD
 obtain ⟨n,hn,_,_,hq1,hq2,hq3,hq4⟩:=aBG hQ
 refine gD fun hL=>?_
 have hL:=of_decide_eq_true hL
 rw [vX (fun k=>aBo r.p (r.maps[k]?.getD ⟨0,0,[]⟩)&&(decide ((r.maps[k]?.getD ⟨0,0,[]⟩).cols=r.dims[(r.q.src[k]?.getD 0).toNat]?.getD 0)&&decide ((r.maps[k]?.getD ⟨0,0,[]⟩).rows=r.dims[(r.q.tgt[k]?.getD 0).toNat]?.getD 0))) false (n:=r.maps.length) (by omega) (fun k hk=>?_) (fun _=>?_),Option.bind_some]
 ·cases (List.range r.maps.length).all _ <;> rfl
 ·have hs:=hq3 _ (eZ 0 (show k<r.q.src.length by omega))
  have ht:=hq4 _ (eZ 0 (show k<r.q.tgt.length by omega))
  unfold rC
  rw [kY hk,cond_true,vW ⟨0,0,[]⟩ hk,Option.bind_some,aNe _ (h4 _ (eZ _ hk)),Option.bind_some,vW 0 (by omega),Option.bind_some,atI 0 hs.1 (by omega),Option.bind_some,vW 0 (by omega),Option.bind_some,atI 0 ht.1 (by omega),Option.bind_some]
  cases aBo r.p _ <;> cases decide ((r.maps[k]?.getD _).cols=_) <;> cases decide ((r.maps[k]?.getD _).rows=_) <;> rfl
 ·unfold rC
  rw [pH (Nat.le_refl _),cond_false]
end
noncomputable section
theorem aJY {a b:Int} (ha:0≤a∧a≤5) (hb:0≤b∧b≤5):0≤a*b∧a*b≤25:=by
 refine ⟨Int.mul_nonneg ha.1 hb.1,?_⟩
 have:=Int.mul_le_mul ha.2 hb.2 hb.1 (by decide:(0:Int)≤5)
 omega
theorem yS {x p:Int} (hp:kX p=true):0≤x % p∧x % p<p:=by
 have:=gH hp
 exact ⟨Int.emod_nonneg _ (by omega),Int.emod_lt_of_pos _ (by omega)⟩
theorem aDZ {p x:Int} (hp:kX p=true) (hx: -4611686018427387904≤x∧x≤4611686018427387904):kI p x=some (x % p):=by
 have hb:=gH hp
 have hr:=aGe x p (by omega)
 unfold kI
 rw [decide_eq_false (by omega),Bool.not_false,cond_true]
 rcases aGf x p (by omega) with ⟨h,e⟩|⟨h,e⟩
 ·rw [decide_eq_false (by omega),cond_false,e]
 ·rw [decide_eq_true h,cond_true,gG (by omega),e]
  congr 1
  omega
theorem aKn {p x:Int} (hp:kX p=true):pT p x=some (x % p):=by
 have hb:=gH hp
 have hr:=aGe x p (by omega)
 unfold pT
 rw [aBh,hp,Option.bind_some,Bool.not_true,cond_false,decide_eq_false (by omega),Bool.not_false,cond_true,cond_true,gG (by omega),aNV _ _ (by omega)]
theorem aMA {p x:Int} (hp:kX p=true) {k:Nat} (hk:k≤1000):qY p x k=some (aJJ p (x % p) k):=by
 have hb:=gH hp
 unfold qY
 rw [aBh,hp,Option.bind_some,Bool.not_true,cond_false,vQ,yZ (by omega) (by omega),Option.bind_some,Bool.not_true,cond_false]
 rw [fT (r:=aJJ p (x % p) k) (fun t=>(aJJ p (x % p) t,(t:Int))) k (by rfl) (fun t ht=>?_) (fun _=>?_),Option.bind_some]
 ·unfold mN
  simp only
  have h1:=aMh hp (yS (x:=x) hp) t
  have h2:=yS (x:=x) hp
  have h3:=aJY (a:=aJJ p (x % p) t) (b:=x % p) (by omega) (by omega)
  rw [kY ht,cond_true,aKn hp,Option.bind_some,decide_eq_false (by omega),Bool.not_false,cond_true,dR ht (by omega),gG (by omega),Int.tmod_eq_emod_of_nonneg h3.1]
  rfl
 ·unfold mN
  simp only
  rw [pH (Nat.le_refl _),cond_false]
theorem aNf {p x:Int} (hp:kX p=true):oP p x=some (zY p (x % p)):=by
 have hb:=gH hp
 unfold oP zY
 rw [aBh,hp,Option.bind_some,Bool.not_true,cond_false,gG (by omega)]
 have e:max (p - 2) 1=(((max (p - 2) 1).toNat:Nat):Int):=by omega
 rw [e,aMA hp (by omega),Option.bind_some,Int.toNat_natCast]
theorem aNg {p x:Int} (hp:kX p=true) (hx: -4611686018427387904≤x∧x≤4611686018427387904):iK p x=some (zY p (x % p)):=by
 have hb:=gH hp
 have h2:=yS (x:=x) hp
 obtain ⟨n,hn⟩: ∃ n:Nat,p=n:=⟨p.toNat,by omega⟩
 unfold iK
 rw [aEK (s0:=1) (s:=1) (n:=n) (fun k:Nat=>bif decide ((x % p*k) % p=1) then some (k:Int) else none) rfl (by omega) (by omega) (fun k h1 hk=>?_) (fun _=>?_),Option.bind_some]
 ·cases e:(List.range' 1 (n - 1)).findSome? (fun k:Nat=>bif decide ((x % p*k) % p=1) then some (k:Int) else none) with
  |none=>
   rw [List.findSome?_eq_none_iff] at e
   rw [aOb hp h2 fun y h3 h4 h5=>?_];rfl
   have:=e y (by simp;omega)
   rw [decide_eq_true h5] at this
   cases this
  |some i=>
   obtain ⟨k,hk,he⟩:=List.exists_of_findSome?_eq_some e
   simp at hk
   cases hd:decide ((x % p*k) % p=1) with
   |false=>rw [hd] at he;cases he
   |true=>
    rw [hd] at he
    cases he
    rw [aQE hp h2 (y:=k) (by omega) (of_decide_eq_true hd)];rfl
 ·unfold kM
  have h3:=aJY (a:=x % p) (b:=k) (by omega) (by omega)
  rw [decide_eq_true (by omega),cond_true,aDY,hp,Option.bind_some,cond_true,aDZ hp hx,Option.bind_some,gG (by omega),aDZ hp (by omega),Option.bind_some]
  cases decide (x % p*k % p=1) <;> rfl
 ·unfold kM
  rw [decide_eq_false (by omega),cond_false]
theorem aHC {r c i:Nat} (hi:i<r):(i+1)*c≤r*c:=Nat.mul_le_mul_right c hi
theorem ixw {r c i j:Nat} (hN:r*c≤1048576) (hi:i<r) (hj:j<c):wr (wr ((i:Int)*(c:Int))+(j:Int))=((i*c+j:Nat):Int):=wix (by have:=aMi hi hj;omega)
theorem atT {r c i j:Nat} (hN:r*c≤1048576) (hi:i<r) (hj:j<c) (F:Nat→Nat→Int):dX (dF r c F) (wr (wr ((i:Int)*(c:Int))+(j:Int)))=some (F i j):=by rw [ixw hN hi hj,aQF F hi hj]
theorem aNi {r c i j:Nat} (hN:r*c≤1048576) (hi:i<r) (hj:j<c) (F:Nat→Nat→Int) (v:Int):(dF r c F).set (wr (wr ((i:Int)*(c:Int))+(j:Int))).toNat v=dF r c (aEL F i j v):=by rw [ixw hN hi hj,Int.toNat_natCast,zZ F v hi hj]
theorem sC {r c i:Nat} (hN:r*c≤1048576) (hi:i<r):wr ((i:Int)*(c:Int))=((i*c:Nat):Int):=aLf (by have:= @aHC r c i hi;rw [Nat.succ_mul] at this;omega)
theorem uX {r c i:Nat} (hN:r*c≤1048576) (hr:r≤1048576) (hi:i<r):wr (wr ((i:Int)+1)*(c:Int))=((i*c+c:Nat):Int):=by
 have:= @aHC r c i hi
 rw [dR hi (by omega),aLf (by omega),Nat.succ_mul]
def lU (c:Nat) (f:Nat→Int):List Int:=(List.range c).map f
theorem fK (c:Nat) (f:Nat→Int):(lU c f).length=c:=by simp [lU]
theorem aGF {c:Nat} (f:Nat→Int) {j:Nat} (h:j<c):dX (lU c f) (j:Int)=some (f j):=by rw [dW (by rw [fK];exact h)];simp [lU]
theorem aHD {r c i:Nat} (hN:r*c≤1048576) (hr:r≤1048576) (hi:i<r) (F:Nat→Nat→Int):dM ⟨r,c,dF r c F⟩ i=some ():=by
 have:= @aHC r c i hi
 rw [Nat.succ_mul] at this
 unfold dM
 simp only
 rw [sC hN hi,uX hN hr hi,hO,decide_eq_true (by omega),decide_eq_true (by omega:((i*c:Nat):Int)≤((i*c+c:Nat):Int)),decide_eq_true (by omega:((i*c+c:Nat):Int)≤((r*c:Nat):Int))]
 rfl
theorem aPC {r c i:Nat} (hN:r*c≤1048576) (hr:r≤1048576) (hi:i<r) (F:Nat→Nat→Int):aCS ⟨r,c,dF r c F⟩ i=some (lU c (F i)):=by
 have h:= @aHC r c i hi
 rw [Nat.succ_mul] at h
 unfold aCS vM aBE
 simp only
 rw [sC hN hi,uX hN hr hi,hO,decide_eq_true (by omega),decide_eq_true (by omega:((i*c:Nat):Int)≤((i*c+c:Nat):Int)),decide_eq_true (by omega:((i*c+c:Nat):Int)≤((r*c:Nat):Int))]
 simp only [Bool.and_self,cond_true,Int.toNat_natCast]
 congr 1
 refine List.ext_getElem (by simp [hO,fK];omega) fun t h1 h2=>?_
 rw [fK] at h2
 rw [List.getElem_take,List.getElem_drop]
 simp [dF,lU,aGg h2,aGh h2]
def aHt (p:Int) (F:Nat→Nat→Int) (i:Nat) (k:Int) (g:Nat→Int):Nat→Nat→Int:=fun a b=>if a=i then (F i b+k*g b) % p else F a b
theorem gd (x:Nat):(decide (0≤(x:Int))&&true)=true:=by rw [decide_eq_true (by omega)];rfl
theorem aRL {p:Int} (hp:kX p=true):(!decide (p=0))=true:=by have:=gH hp;rw [decide_eq_false (by omega)];rfl
theorem aKo {p:Int} (hp:kX p=true) {r c i:Nat} (hc:c≤1048576) (hi:i<r) {F:Nat→Nat→Int} {g:Nat→Int} {k:Int} (hk:0≤k∧k≤5) (hF: ∀ b,b<c→0≤F i b∧F i b<p) (hg: ∀ b,b<c→0≤g b∧g b<p):
  gU p (dF r c F) (i*c) c k (lU c g)=some (dF r c (aHt p F i k g)):=by
 have hb:=gH hp
 unfold gU
 rw [fT (r:=dF r c (aHt p F i k g)) (fun x=>(dF r c (fun a b=>if a=i∧b<x then (F i b+k*g b) % p else F a b),(x:Int))) c (by simp) (fun x hx=>?_) (fun _=>?_)];rfl
 ·have h1:=hF x hx
  have h2:=hg x hx
  have h3:=aJY hk (show 0≤g x∧g x≤5 by omega)
  unfold jP
  simp only
  rw [fK,kY hx,cond_true,aGF _ hx,Option.bind_some,gd x,cond_true,Int.toNat_natCast,lJ _ hi hx,Option.bind_some,aRL hp,cond_true,cond_true,Option.bind_some,zZ _ _ hi hx,dR hx (by omega)]
  rw [if_neg (by omega),gG (x:=k*g x) (by omega),gG (by omega),Int.tmod_eq_emod_of_nonneg (by omega)]
  congr 3
  refine dD fun a b ha hb=>?_
  simp only [aEL]
  by_cases e1:a=i∧b=x
  ·obtain ⟨rfl,rfl⟩:=e1
   rw [if_pos ⟨rfl,rfl⟩,if_pos ⟨rfl,by omega⟩]
  ·rw [if_neg e1]
   by_cases e2:a=i∧b<x
   ·rw [if_pos e2,if_pos ⟨e2.1,by omega⟩]
   ·rw [if_neg e2,if_neg (by omega)]
 ·unfold jP
  simp only
  rw [fK,pH (Nat.le_refl _),cond_false]
  congr 2
  refine dD fun a b ha hb=>?_
  simp only [aHt]
  by_cases e:a=i
  ·rw [if_pos ⟨e,hb⟩,if_pos e]
  ·rw [if_neg (by omega),if_neg e]
theorem aNj {p:Int} (hp:kX p=true) {r c i j:Nat} (hc:c≤1048576) (hi:i<r) (hj:j<r) (hij:i≠j) {F:Nat→Nat→Int} {k:Int} (hk:0≤k∧k≤5) (hF: ∀ b,b<c→0≤F i b∧F i b<p) (hg: ∀ b,b<c→0≤F j b∧F j b<p):
  iJ p (dF r c F) (i*c) c k (j*c) c=some (dF r c (aHt p F i k (F j))):=by
 have hb:=gH hp
 unfold iJ
 rw [fT (r:=dF r c (aHt p F i k (F j))) (fun x=>(dF r c (fun a b=>if a=i∧b<x then (F i b+k*F j b) % p else F a b),(x:Int))) c (by simp) (fun x hx=>?_) (fun _=>?_)];rfl
 ·have h1:=hF x hx
  have h2:=hg x hx
  have h3:=aJY hk (show 0≤F j x∧F j x≤5 by omega)
  unfold gJ
  simp only
  rw [kY hx,cond_true,gd x,cond_true,Int.toNat_natCast,lJ _ hj hx,Option.bind_some,cond_true,lJ _ hi hx,Option.bind_some,aRL hp,cond_true,cond_true,Option.bind_some,zZ _ _ hi hx,dR hx (by omega)]
  rw [if_neg (by omega),if_neg (by omega),gG (x:=k*F j x) (by omega),gG (by omega),Int.tmod_eq_emod_of_nonneg (by omega)]
  congr 3
  refine dD fun a b ha hb=>?_
  simp only [aEL]
  by_cases e1:a=i∧b=x
  ·obtain ⟨rfl,rfl⟩:=e1
   rw [if_pos ⟨rfl,rfl⟩,if_pos ⟨rfl,by omega⟩]
  ·rw [if_neg e1]
   by_cases e2:a=i∧b<x
   ·rw [if_pos e2,if_pos ⟨e2.1,by omega⟩]
   ·rw [if_neg e2,if_neg (by omega)]
 ·unfold gJ
  simp only
  rw [pH (Nat.le_refl _),cond_false]
  congr 2
  refine dD fun a b ha hb=>?_
  simp only [aHt]
  by_cases e:a=i
  ·rw [if_pos ⟨e,hb⟩,if_pos e]
  ·rw [if_neg (by omega),if_neg e]
theorem aPD {r c:Nat} (hN:r*c≤1048576):(decide (0≤wr ((r:Int)*(c:Int)))&&decide (wr ((r:Int)*(c:Int))≤1048576))=true:=by
 rw [aLf (by omega),decide_eq_true (by omega),decide_eq_true (by omega)];rfl
theorem aPE {r c:Nat} (hN:r*c≤1048576):tB r c=some ⟨r,c,dF r c fun _ _=>0⟩:=by
 unfold tB
 rw [aPD hN,cond_true,aLf (by omega),Int.toNat_natCast,aIQ]
theorem aPF {r c:Nat} (hN:r*c≤1048576):vH r c=some ⟨r,c,dF r c fun _ _=>0⟩:=by
 unfold vH
 rw [aPD hN,cond_true,aLf (by omega),Int.toNat_natCast,aIQ]
def aFh (F G:Nat→Nat→Int) (i j:Nat):Nat→Int
 |0=>0
 |k+1=>aFh F G i j k+F i k*G k j
def aKp (p:Int) (F G:Nat→Nat→Int) (i j:Nat):Nat→Int
 |0=>0
 |k+1=>(aKp p F G i j k+F i k*G k j) % p
theorem aJZ {p:Int} (hp:kX p=true) (F G:Nat→Nat→Int) (i j:Nat): ∀ k,aKp p F G i j k=aFh F G i j k % p
 |0=>by simp [aKp,aFh]
 |k+1=>by rw [aKp,aFh,aJZ hp F G i j k];simp [Int.add_emod]
theorem aJa {p:Int} (hp:kX p=true) {F G:Nat→Nat→Int} {i j:Nat} : ∀ {k:Nat},(∀ t,t<k→0≤F i t∧F i t<p)→(∀ t,t<k→0≤G t j∧G t j<p)→0≤aFh F G i j k∧aFh F G i j k≤25*k
 |0,_,_=>by simp [aFh]
 |k+1,hF,hG=>by
  have hb:=gH hp
  have h:=aJa hp (k:=k) (fun t ht=>hF t (by omega)) (fun t ht=>hG t (by omega))
  have h1:=hF k (by omega)
  have h2:=hG k (by omega)
  have h3:=aJY (a:=F i k) (b:=G k j) (by omega) (by omega)
  rw [aFh]
  omega
def aFi (p:Int) (n:Nat) (F G:Nat→Nat→Int):Nat→Nat→Int:=fun i j=>aFh F G i j n % p
theorem aJb {p:Int} (hp:kX p=true) {r n c:Nat} (h1:r*n≤1048576) (h2:n*c≤1048576) (h3:r*c≤1048576) (hr:r≤1048576) (hn:n≤1048576) (hc:c≤1048576) {F G:Nat→Nat→Int} (hF:InP p r n F) (hG:InP p n c G):
  oO p ⟨r,n,dF r n F⟩ ⟨n,c,dF n c G⟩=some ⟨r,c,dF r c (aFi p n F G)⟩:=by
 have hb:=gH hp
 unfold oO
 simp only
 rw [aPF h3,Option.bind_some]
 simp only
 rw [fT (r:=dF r c (aFi p n F G)) (fun i=>(dF r c (fun a b=>if a<i then aFi p n F G a b else 0),(i:Int))) r (by simp) (fun i hi=>?_) (fun _=>?_),Option.bind_some]
 ·unfold kL
  simp only
  rw [kY hi,cond_true]
  rw [fT (r:=dF r c (fun a b=>if a<i+1 then aFi p n F G a b else 0)) (fun j=>(dF r c (fun a b=>if a<i∨(a=i∧b<j) then aFi p n F G a b else 0),(j:Int))) c (by simp) (fun j hj=>?_) (fun _=>?_),Option.bind_some,dR hi (by omega)]
  ·unfold kK
   simp only
   rw [kY hj,cond_true]
   have hbd:=aJa hp (F:=F) (G:=G) (i:=i) (j:=j) (k:=n) (fun t ht=>hF i t hi ht) (fun t ht=>hG t j ht hj)
   rw [fT (r:=aFh F G i j n) (fun k=>(aFh F G i j k,(k:Int))) n (by simp [aFh]) (fun k hk=>?_) (fun _=>?_),Option.bind_some,aDZ hp (by omega),Option.bind_some,atT h3 hi hj,Option.bind_some,aNi h3 hi hj,dR hj (by omega)]
   ·congr 3
    refine dD fun a b ha hb=>?_
    simp only [aEL]
    by_cases e:a=i∧b=j
    ·rw [if_pos e,if_pos (by omega),e.1,e.2];rfl
    ·rw [if_neg e]
     by_cases e2:a<i∨a=i∧b<j
     ·rw [if_pos e2,if_pos (by omega)]
     ·rw [if_neg e2,if_neg (by omega)]
   ·unfold kJ
    simp only
    have g1:=hF i k hi hk
    have g2:=hG k j hk hj
    have g3:=aJY (a:=F i k) (b:=G k j) (by omega) (by omega)
    have g4:=aJa hp (F:=F) (G:=G) (i:=i) (j:=j) (k:=k) (fun t ht=>hF i t hi (by omega)) (fun t ht=>hG t j (by omega) hj)
    rw [kY hk,cond_true,atT h1 hi hk,Option.bind_some,atT h2 hk hj,Option.bind_some,dR hk (by omega),gG (x:=F i k*G k j) (by omega),gG (by omega)]
    rfl
   ·unfold kJ
    simp only
    rw [pH (Nat.le_refl _),cond_false]
  ·unfold kK
   simp only
   rw [pH (Nat.le_refl _),cond_false]
   congr 2
   refine dD fun a b ha hb=>?_
   by_cases e:a<i+1
   ·rw [if_pos e,if_pos (by omega)]
   ·rw [if_neg e,if_neg (by omega)]
 ·unfold kL
  simp only
  rw [pH (Nat.le_refl _),cond_false]
  congr 2
  exact dD fun a b ha hb=>by rw [if_pos ha]
theorem aQT {p:Int} (hp:kX p=true) {r n c:Nat} (h1:r*n≤1048576) (h2:n*c≤1048576) (h3:r*c≤1048576) (hr:r≤1048576) (hn:n≤1048576) (hc:c≤1048576) {F G:Nat→Nat→Int} (hF:InP p r n F) (hG:InP p n c G):
  wQ p ⟨r,n,dF r n F⟩ ⟨n,c,dF n c G⟩=some ⟨r,c,dF r c (aFi p n F G)⟩:=by
 have hb:=gH hp
 have hD: ∀ i j,aKp p F G i j n=aFi p n F G i j:=fun i j=>aJZ hp F G i j n
 unfold wQ
 simp only
 rw [aPE h3,Option.bind_some]
 simp only
 rw [fT (r:=dF r c (aFi p n F G)) (fun i=>(dF r c (fun a b=>if a<i then aFi p n F G a b else 0),(i:Int))) r (by simp) (fun i hi=>?_) (fun _=>?_),Option.bind_some]
 ·unfold rE
  simp only
  rw [kY hi,cond_true,aPC h1 hr hi,Option.bind_some]
  rw [fT (r:=dF r c (fun a b=>if a<i+1 then aFi p n F G a b else 0)) (fun k=>(dF r c (fun a b=>if a<i then aFi p n F G a b else if a=i then aKp p F G i b k else 0),(k:Int))) n ?_ (fun k hk=>?_) (fun _=>?_),Option.bind_some,dR hi (by omega)]
  ·congr 1
   exact dD fun a b ha hb=>by
    by_cases e:a<i
    ·rw [if_pos e,if_pos e]
    ·rw [if_neg e,if_neg e];simp [aKp]
  ·unfold rD
   simp only
   have g1:=hF i k hi hk
   rw [fK,kY hk,cond_true,aGF _ hk,Option.bind_some,aHD h3 hr hi,Option.bind_some,aPC h2 hn hk,Option.bind_some,Nat.zero_add,sC h3 hi,uX h3 hr hi,Int.toNat_natCast,Int.toNat_natCast,show i*c+c - i*c=c by omega]
   rw [aKo hp hc hi (by omega) (fun b hb=>?_) (fun b hb=>hG k b hk hb),Option.bind_some,hO,hO,decide_eq_true rfl,cond_true,dR hk (by omega)]
   ·congr 3
    refine dD fun a b ha hb=>?_
    simp only [aHt]
    by_cases e:a=i
    ·subst e
     simp [aKp]
    ·rw [if_neg e,if_neg e,if_neg e]
   ·rw [if_neg (by omega),if_pos rfl,aJZ hp]
    exact yS hp
  ·unfold rD
   simp only
   rw [fK,pH (Nat.le_refl _),cond_false]
   congr 2
   refine dD fun a b ha hb=>?_
   by_cases e:a<i
   ·rw [if_pos e,if_pos (by omega)]
   ·by_cases e2:a=i
    ·subst e2
     rw [if_neg (by omega),if_pos rfl,if_pos (by omega),hD]
    ·rw [if_neg e,if_neg e2,if_neg (by omega)]
 ·unfold rE
  simp only
  rw [pH (Nat.le_refl _),cond_false]
  congr 2
  exact dD fun a b ha hb=>by rw [if_pos ha]
end
noncomputable section
def tC (L:List Nat):List Int:=L.map fun t:Nat=>(t:Int)
theorem lV (L:List Nat):(tC L).length=L.length:=by simp [tC]
theorem aHE {p:Int} {m:Nat} {F:Nat→Nat→Int} {j:Nat} (h:(dA p m F j).2.length=m): ∀ d,dA p m F (j+d)=dA p m F j
 |0=>rfl
 |d+1=>by
  show gI p m (dA p m F (j+d)) (j+d)=_
  rw [aHE h d]
  unfold gI
  rw [if_pos]
  rw [h,Nat.sub_self]
  rfl
def aAa (F:Nat→Nat→Int) (a b x:Nat):Nat→Nat→Int:=fun i y=>if y<x then sY F a b i y else F i y
def wT (p:Int) (F:Nat→Nat→Int) (a:Nat) (s:Int) (x:Nat):Nat→Nat→Int:=fun i y=>if y<x then pJ p F a s i y else F i y
def iN (p:Int) (F:Nat→Nat→Int) (a j x:Nat):Nat→Nat→Int:=fun i c=>if i<x then uK p F a j i c else F i c
theorem aIj {r c a b x:Nat} (F:Nat→Nat→Int):dF r c (aEL (aEL (aAa F a b x) a x (F b x)) b x (F a x))=dF r c (aAa F a b (x+1)):=by
 refine dD fun i y hi hy=>?_
 simp only [aEL,aAa,sY]
 by_cases e:y=x
 ·subst e
  simp only [and_true,Nat.lt_irrefl,if_false,Nat.lt_succ_self,if_true]
  by_cases e1:i=b
  ·rw [if_pos e1]
   by_cases e2:i=a
   ·rw [if_pos e2]
    subst e1;rw [e2]
   ·rw [if_neg e2,if_pos e1]
  ·rw [if_neg e1]
   by_cases e2:i=a
   ·rw [if_pos e2,if_pos e2]
   ·rw [if_neg e2,if_neg e2,if_neg e1]
 ·rw [if_neg (by omega),if_neg (by omega)]
  by_cases e1:y<x
  ·rw [if_pos e1,if_pos (show y<x+1 by omega)]
  ·rw [if_neg e1,if_neg (show ¬ y<x+1 by omega)]
theorem aBi {F:Nat→Nat→Int} {a b x i:Nat} :aAa F a b x i x=F i x:=by simp [aAa]
theorem aHF {p:Int} {F:Nat→Nat→Int} {a x i:Nat} {s:Int} :wT p F a s x i x=F i x:=by simp [wT]
theorem aHG {p:Int} {r c a x:Nat} {s:Int} (F:Nat→Nat→Int):dF r c (aEL (wT p F a s x) a x ((F a x*s) % p))=dF r c (wT p F a s (x+1)):=by
 refine dD fun i y hi hy=>?_
 simp only [aEL,wT,pJ]
 by_cases e:y=x
 ·subst e
  simp only [and_true,Nat.lt_irrefl,if_false,Nat.lt_succ_self,if_true]
 ·rw [if_neg (by omega)]
  by_cases e1:y<x
  ·rw [if_pos e1,if_pos (show y<x+1 by omega)]
  ·rw [if_neg e1,if_neg (show ¬ y<x+1 by omega)]
theorem aMt {p r:Int} (hp:kX p=true) (hr:0≤r∧r<p):0≤zY p r∧zY p r<p:=aMh hp hr _
theorem aKq {p:Int} {m n k r:Nat} {F:Nat→Nat→Int} (h:InP p m n F) (hk:k<m) (hr:r<m):InP p m n (sY F k r):=by
 intro i c hi hc
 unfold sY
 split
 ·exact h r c hr hc
 ·split
  ·exact h k c hk hc
  ·exact h i c hi hc
theorem aIk {p:Int} (hp:kX p=true) {m n k:Nat} {s:Int} {F:Nat→Nat→Int} (h:InP p m n F):InP p m n (pJ p F k s):=by
 intro i c hi hc
 unfold pJ
 split
 ·exact yS hp
 ·exact h i c hi hc
theorem aNk {p:Int} (hp:kX p=true) {m n k j x:Nat} {F:Nat→Nat→Int} (h:InP p m n F):InP p m n (iN p F k j x):=by
 intro i c hi hc
 unfold iN uK
 split
 ·split
  ·rename_i h1 h2;subst h2;exact h _ c hi hc
  ·exact yS hp
 ·exact h i c hi hc
theorem aPG {p:Int} (hp:kX p=true) {m n k j x:Nat} {F:Nat→Nat→Int} (hx:x≠k):dF m n (aHt p (iN p F k j x) x (p - F x j) (iN p F k j x k))=dF m n (iN p F k j (x+1)):=by
 refine dD fun i c hi hc=>?_
 simp only [aHt,iN,uK]
 by_cases e:i=x
 ·subst e
  rw [if_pos rfl,if_neg (Nat.lt_irrefl _),if_pos (Nat.lt_succ_self _),if_neg hx]
  simp only [if_true,ite_self]
  rw [show F i c+(p - F i j)*F k c=(F i c - F i j*F k c)+p*F k c by rw [Int.sub_mul];omega,Int.add_mul_emod_self_left]
 ·rw [if_neg e]
  by_cases e1:i<x
  ·rw [if_pos e1,if_pos (show i<x+1 by omega)]
  ·rw [if_neg e1,if_neg (show ¬ i<x+1 by omega)]
theorem aIl {p:Int} {m n k j:Nat} {F:Nat→Nat→Int} :dF m n (iN p F k j k)=dF m n (iN p F k j (k+1)):=by
 refine dD fun i c hi hc=>?_
 simp only [iN,uK]
 by_cases e:i<k
 ·rw [if_pos e,if_pos (show i<k+1 by omega)]
 ·rw [if_neg e]
  by_cases e1:i=k
  ·subst e1;simp
  ·rw [if_neg (show ¬ i<k+1 by omega)]
theorem aHH {p:Int} {F:Nat→Nat→Int} {k r j:Nat} :fC p F k r j=uK p (pJ p (sY F k r) k (zY p (F r j))) k j:=rfl
structure Tb (p:Int) (m n:Nat) (F:Nat→Nat→Int):Prop where
 hp:kX p=true
 hN:m*n≤1048576
 hm:m≤1048576
 hn:n≤1048576
 hi:InP p m n F
theorem aRM {p:Int} {m n:Nat} {F:Nat→Nat→Int} (T:Tb p m n F) {j:Nat} (hj:j<n) (L:List Nat) (hL:L.length≤m) (l:List Int):
  Lp (lP ⟨m,n,l⟩ ((j:Int),dF m n F,tC L)) (((tC L).length:Nat):Int)=some ((iU F j (m - L.length) L.length:Nat):Int):=by
 obtain ⟨hp,hN,hm,hn,hi⟩:=T
 have hle:= @xH F j (m - L.length) L.length
 have hz:= @aCM F j (m - L.length) L.length
 have hh:= @aBZ F j (m - L.length) L.length
 generalize iU F j (m - L.length) L.length=r at*
 rw [lV]
 refine fT (fun t=>((L.length+t:Nat):Int)) (r - L.length) (by simp) (fun t ht=>?_) (fun _=>?_)
 ·unfold lP
  simp only
  rw [kY (by omega),cond_true,aHD hN hm (by omega),Option.bind_some,sC hN (by omega),uX hN hm (by omega),Int.toNat_natCast,Int.toNat_natCast,Nat.add_sub_cancel_left,kY hj,gd,cond_true,Nat.zero_add,Int.toNat_natCast,lJ _ (by omega) hj,Option.bind_some,
   hz _ (by omega) (by omega),decide_eq_true rfl,cond_true,dR (n:=m) (by omega) (by omega),Nat.add_assoc]
 ·rw [show L.length+(r - L.length)=r by omega]
  unfold lP
  simp only
  rcases Nat.lt_or_ge r m with h|h
  ·rw [kY h,cond_true,aHD hN hm h,Option.bind_some,sC hN h,uX hN hm h,Int.toNat_natCast,Int.toNat_natCast,Nat.add_sub_cancel_left,kY hj,gd,cond_true,Nat.zero_add,Int.toNat_natCast,lJ _ h hj,Option.bind_some,
    decide_eq_false (hh (by omega)),cond_false]
  ·rw [pH h,cond_false]
theorem aQU {p:Int} {m n:Nat} {F:Nat→Nat→Int} (T:Tb p m n F) {j:Nat} (hj:j<n) (L:List Nat) (hL:L.length≤m) (l:List Int):
  lQ p ⟨m,n,l⟩ ((j:Int),dF m n F,tC L)=some (.inl (((j+1:Nat):Int),dF m n (gI p m (F,L) j).1,tC (gI p m (F,L) j).2)):=by
 have hpv:=aRM T hj L hL l
 obtain ⟨hp,hN,hm,hn,hi⟩:=T
 have hb:=gH hp
 have hle:= @xH F j (m - L.length) L.length
 unfold lQ gI
 simp only
 rw [kY hj,cond_true,hpv,Option.bind_some,dR hj (by omega)]
 clear hpv
 generalize iU F j (m - L.length) L.length=r at*
 by_cases hr:r=m
 ·rw [decide_eq_true (by omega),cond_true,if_pos hr]
 ·rw [decide_eq_false (by omega),cond_false,if_neg hr]
  have hk:L.length<m:=by omega
  have hrm:r<m:=by omega
  simp only [lV]
  rw [aHD hN hm hk,Option.bind_some,sC hN hk,uX hN hm hk]
  simp only [Int.toNat_natCast,Nat.add_sub_cancel_left,Nat.zero_add]
  rw [fT (r:=dF m n (sY F L.length r)) (fun x=>(dF m n (aAa F L.length r x),(x:Int))) n ?_ (fun x hx=>?_) (fun _=>?_),Option.bind_some,kY hj,gd,cond_true,lJ _ hk hj,Option.bind_some]
  ·have e1:sY F L.length r L.length j=F r j:=by simp [sY]
   have hrj:=hi r j hrm hj
   rw [e1,aNf hp,Option.bind_some,Int.emod_eq_of_lt hrj.1 hrj.2]
   have hs:=aMt hp hrj
   rw [aHH]
   generalize zY p (F r j)=s at*
   have h1:=aKq hi hk hrm
   generalize sY F L.length r=F1 at*
   rw [fT (r:=dF m n (pJ p F1 L.length s)) (fun x=>(dF m n (wT p F1 L.length s x),(x:Int))) n ?_ (fun x hx=>?_) (fun _=>?_),Option.bind_some]
   ·have h2:=aIk hp (k:=L.length) (s:=s) h1
    generalize pJ p F1 L.length s=F2 at*
    rw [fT (r:=dF m n (uK p F2 L.length j)) (fun x=>(dF m n (iN p F2 L.length j x),(x:Int))) m ?_ (fun x hx=>?_) (fun _=>?_),Option.bind_some]
    ·rw [decide_eq_true (by simp;omega),cond_true]
     simp [tC]
    ·congr 1
    ·unfold pW
     simp only [lV]
     rw [kY hx,cond_true]
     by_cases hxk:x=L.length
     ·rw [decide_eq_true (by omega),Bool.not_true,cond_false,dR hx (by omega),hxk,aIl]
     ·rw [decide_eq_false (by omega),Bool.not_false,cond_true,aHD hN hm hx,Option.bind_some,Option.bind_some,sC hN hx,uX hN hm hx,sC hN hk,uX hN hm hk]
      simp only [Int.toNat_natCast,Nat.add_sub_cancel_left,Nat.zero_add]
      rw [kY hj,gd,cond_true,lJ _ hx hj,Option.bind_some]
      have e2:iN p F2 L.length j x x j=F2 x j:=by simp [iN]
      have h3:=h2 x j hx hj
      have h4:=aNk hp (k:=L.length) (j:=j) (x:=x) h2
      rw [e2,gG (by omega),aNj hp hn hx hk hxk (by omega) (fun b hb=>h4 _ b hx hb) (fun b hb=>h4 _ b hk hb),Option.bind_some,hO,hO,decide_eq_true rfl,cond_true,dR hx (by omega),aPG hp hxk]
    ·unfold pW
     simp only
     rw [pH (Nat.le_refl _),cond_false]
     congr 2
     exact dD fun a b ha hb=>by simp only [iN];rw [if_pos ha]
   ·congr 1
   ·unfold pV
    simp only [lV]
    rw [sC hN hk,uX hN hm hk]
    simp only [Int.toNat_natCast,Nat.add_sub_cancel_left,Nat.zero_add]
    have g1:=h1 _ x hk hx
    have g2:=aJY (a:=F1 L.length x) (b:=s) (by omega) (by omega)
    rw [kY hx,cond_true,gd,cond_true,lJ _ hk hx,Option.bind_some,aRL hp,cond_true,cond_true,Option.bind_some,aHF,gG (by omega),Int.tmod_eq_emod_of_nonneg g2.1,zZ _ _ hk hx,dR hx (by omega),aHG]
   ·unfold pV
    simp only [lV]
    rw [sC hN hk,uX hN hm hk]
    simp only [Int.toNat_natCast,Nat.add_sub_cancel_left,Nat.zero_add]
    rw [pH (Nat.le_refl _),cond_false]
    congr 2
    exact dD fun a b ha hb=>by simp only [wT];rw [if_pos hb]
  ·congr 1
  ·unfold pU
   simp only [lV]
   rw [kY hx,cond_true,aHD hN hm hrm,Option.bind_some,Option.bind_some,sC hN hk,uX hN hm hk,sC hN hrm,uX hN hm hrm]
   simp only [Int.toNat_natCast,Nat.add_sub_cancel_left,Nat.zero_add]
   rw [kY hx,gd,cond_true,lJ _ hrm hx,Option.bind_some,cond_true,lJ _ hk hx,Option.bind_some,cond_true,Option.bind_some,cond_true,zZ _ _ hk hx,lJ _ hrm hx,Option.bind_some,zZ _ _ hrm hx,aBi,aBi,dR hx (by omega),aIj]
  ·unfold pU
   simp only
   rw [pH (Nat.le_refl _),cond_false]
   congr 2
   exact dD fun a b ha hb=>by simp only [aAa];rw [if_pos hb]
theorem aJc {p:Int} {m n:Nat} {F:Nat→Nat→Int} (T:Tb p m n F):vI p ⟨m,n,dF m n F⟩=some (⟨m,n,dF m n (dA p m F n).1⟩,tC (dA p m F n).2):=by
 have hN:=T.hN
 have hn:=T.hn
 unfold vI qJ tM
 simp only
 rw [hO,decide_eq_true hN,cond_true,Option.bind_some,Option.bind_some]
 simp only
 rw [fT (r:=(dF m n (dA p m F n).1,tC (dA p m F n).2)) (fun j=>((j:Int),dF m n (dA p m F j).1,tC (dA p m F j).2)) n (by simp [dA,tC]) (fun j hj=>?_) (fun _=>?_),Option.bind_some]
 ·show _=some (Sum.inl (((j+1:Nat):Int),dF m n (gI p m (dA p m F j) j).1,tC (gI p m (dA p m F j) j).2):(Int×List Int×List Int) ⊕ (List Int×List Int))
  exact aQU ⟨T.hp,T.hN,T.hm,T.hn,qO (by have:=gH T.hp;omega) T.hi j⟩ hj _ (sZ j) _
 ·unfold lQ
  simp only
  rw [pH (Nat.le_refl _),cond_false]
theorem aRN {p:Int} {m n:Nat} {F:Nat→Nat→Int} (T:Tb p m n F) {j:Nat} (hj:j<n) (L:List Nat) (hL:L.length<m) (l:List Int):
  Lp (jG ⟨m,n,l⟩ ((j:Int),dF m n F,tC L,(L.length:Int))) (-1,wr ((m:Int) - 1))=some (if iU F j (m - L.length) L.length=m then -1 else ((iU F j (m - L.length) L.length:Nat):Int)):=by
 obtain ⟨hp,hN,hm,hn,hi⟩:=T
 refine fT (fun t=>(if iU F j t (m - t)=m then -1 else ((iU F j t (m - t):Nat):Int),((m - t:Nat):Int) - 1)) (m - L.length) ?_ (fun t ht=>?_) (fun _=>?_)
 ·simp only [iU,Nat.sub_zero,if_true]
  rw [gG (by omega)]
 ·unfold jG
  simp only
  have e:((m - t:Nat):Int) - 1=((m - (t+1):Nat):Int):=by omega
  have hi2:m - (t+1)<m:=by omega
  rw [e,decide_eq_true (by omega),cond_true,atT hN hi2 hj,Option.bind_some,gG (x:=((m - (t+1):Nat):Int) - 1) (by omega)]
  have ep:iU F j (t+1) (m - (t+1))=if F (m - (t+1)) j=0 then iU F j t (m - t) else m - (t+1):=by
   rw [iU,show m - (t+1)+1=m - t by omega]
  rw [ep]
  by_cases h:F (m - (t+1)) j=0
  ·rw [decide_eq_true h,Bool.not_true,cond_false,if_pos h]
  ·rw [decide_eq_false h,Bool.not_false,cond_true,if_neg h,if_neg (by omega)]
 ·rw [show m - (m - L.length)=L.length by omega]
  unfold jG
  simp only
  rw [decide_eq_false (by omega),cond_false]
theorem aQV {p:Int} {m n:Nat} {F:Nat→Nat→Int} (T:Tb p m n F) {j:Nat} (hj:j<n) (L:List Nat) (hL:L.length<m) (l:List Int):
  eV p ⟨m,n,l⟩ ((j:Int),dF m n F,tC L,(L.length:Int))=some (.inl (((j+1:Nat):Int),dF m n (gI p m (F,L) j).1,tC (gI p m (F,L) j).2,((gI p m (F,L) j).2.length:Int))):=by
 have hpv:=aRN T hj L hL l
 obtain ⟨hp,hN,hm,hn,hi⟩:=T
 have hb:=gH hp
 have hle:= @xH F j (m - L.length) L.length
 unfold eV gI
 simp only
 rw [kY hj,cond_true,kY hL,cond_true,hpv,Option.bind_some,dR hj (by omega)]
 clear hpv
 generalize iU F j (m - L.length) L.length=r at*
 have hk:L.length<m:=hL
 by_cases hr:r=m
 ·rw [if_pos hr,if_pos hr,decide_eq_true (by omega),cond_true]
 ·rw [if_neg hr,if_neg hr,decide_eq_false (by omega),cond_false]
  have hrm:r<m:=by omega
  rw [fT (r:=dF m n (sY F L.length r)) (fun x=>(dF m n (aAa F L.length r x),(x:Int))) n ?_ (fun x hx=>?_) (fun _=>?_),Option.bind_some,atT hN hk hj,Option.bind_some]
  ·have e1:sY F L.length r L.length j=F r j:=by simp [sY]
   have hrj:=hi r j hrm hj
   rw [e1,aNg hp (by omega),Option.bind_some,Int.emod_eq_of_lt hrj.1 hrj.2]
   have hs:=aMt hp hrj
   rw [aHH]
   generalize zY p (F r j)=s at*
   have h1:=aKq hi hk hrm
   generalize sY F L.length r=F1 at*
   rw [fT (r:=dF m n (pJ p F1 L.length s)) (fun x=>(dF m n (wT p F1 L.length s x),(x:Int))) n ?_ (fun x hx=>?_) (fun _=>?_),Option.bind_some]
   ·have h2:=aIk hp (k:=L.length) (s:=s) h1
    generalize pJ p F1 L.length s=F2 at*
    rw [fT (r:=dF m n (uK p F2 L.length j)) (fun x=>(dF m n (iN p F2 L.length j x),(x:Int))) m ?_ (fun x hx=>?_) (fun _=>?_),Option.bind_some]
    ·rw [lV,decide_eq_true (by simp;omega),cond_true,dR hk (by omega)]
     simp [tC]
    ·congr 1
    ·unfold gV
     simp only
     rw [kY hx,cond_true,atT hN hx hj,Option.bind_some,dR hx (by omega)]
     have e2:iN p F2 L.length j x x j=F2 x j:=by simp [iN]
     rw [e2]
     by_cases hxk:x=L.length
     ·rw [vF (r:=dF m n (iN p F2 L.length j x)) ?_,Option.bind_some,hxk,aIl]
      unfold jH
      simp only
      rcases Nat.eq_zero_or_pos n with h0|h0
      ·omega
      ·rw [decide_eq_true (by omega),cond_true,decide_eq_true (by omega),Bool.not_true,cond_false]
     ·rw [fT (r:=dF m n (iN p F2 L.length j (x+1))) (fun y=>(dF m n (fun a c=>if a=x∧c<y then uK p F2 L.length j x c else iN p F2 L.length j x a c),(y:Int))) n (by simp) (fun y hy=>?_) (fun _=>?_),Option.bind_some]
      ·unfold jH
       simp only
       rw [kY hy,cond_true,decide_eq_false (by omega),Bool.not_false,cond_true,atT hN hx hy,Option.bind_some,atT hN hk hy,Option.bind_some]
       have e3:iN p F2 L.length j x x y=F2 x y:=by simp [iN]
       have e4:iN p F2 L.length j x L.length y=F2 L.length y:=by simp [iN,uK]
       rw [if_neg (by omega),if_neg (by omega),e3,e4]
       have g1:=h2 x j hx hj
       have g2:=h2 L.length y hk hy
       have g3:=h2 x y hx hy
       have g4:=aJY (a:=F2 x j) (b:=F2 L.length y) (by omega) (by omega)
       rw [gG (x:=F2 x j*F2 L.length y) (by omega),gG (x:=F2 x y - F2 x j*F2 L.length y) (by omega),aDZ hp (by omega),Option.bind_some,Option.bind_some,aNi hN hx hy,dR hy (by omega)]
       congr 3
       refine dD fun a c ha hc=>?_
       simp only [aEL]
       by_cases e5:a=x∧c=y
       ·rw [if_pos e5,if_pos (by omega),e5.2]
        simp only [uK]
        rw [if_neg hxk]
       ·rw [if_neg e5]
        by_cases e6:a=x∧c<y
        ·rw [if_pos e6,if_pos (by omega)]
        ·rw [if_neg e6,if_neg (by omega)]
      ·unfold jH
       simp only
       rw [pH (Nat.le_refl _),cond_false]
       congr 2
       refine dD fun a c ha hc=>?_
       simp only [iN]
       by_cases e5:a=x
       ·rw [if_pos ⟨e5,hc⟩,if_pos (by omega),e5]
       ·rw [if_neg (by omega)]
        by_cases e6:a<x
        ·rw [if_pos e6,if_pos (by omega)]
        ·rw [if_neg e6,if_neg (by omega)]
    ·unfold gV
     simp only
     rw [pH (Nat.le_refl _),cond_false]
     congr 2
     exact dD fun a b ha hb=>by simp only [iN];rw [if_pos ha]
   ·congr 1
   ·unfold mM
    simp only
    have g1:=h1 _ x hk hx
    have g2:=aJY (a:=F1 L.length x) (b:=s) (by omega) (by omega)
    rw [kY hx,cond_true,atT hN hk hx,Option.bind_some,aHF,Int.mul_comm,gG (by omega),aDZ hp (by omega),Option.bind_some,Option.bind_some,aNi hN hk hx,dR hx (by omega),aHG]
   ·unfold mM
    simp only
    rw [pH (Nat.le_refl _),cond_false]
    congr 2
    exact dD fun a b ha hb=>by simp only [wT];rw [if_pos hb]
  ·congr 1
  ·unfold mK
   simp only
   rw [kY hx,cond_true,atT hN hk hx,Option.bind_some,atT hN hrm hx,Option.bind_some,Option.bind_some,aNi hN hk hx,atT hN hrm hx,Option.bind_some,aNi hN hrm hx,aBi,aBi,dR hx (by omega),aIj]
  ·unfold mK
   simp only
   rw [pH (Nat.le_refl _),cond_false]
   congr 2
   exact dD fun a b ha hb=>by simp only [aAa];rw [if_pos hb]
theorem aJd {p:Int} {m n:Nat} {F:Nat→Nat→Int} (T:Tb p m n F):kE p ⟨m,n,dF m n F⟩=some (⟨m,n,dF m n (dA p m F n).1⟩,tC (dA p m F n).2):=by
 have hN:=T.hN
 have hn:=T.hn
 unfold kE zH
 simp only
 rw [hO,decide_eq_true (by simp;omega),cond_true,Option.bind_some]
 simp only [List.nil_append]
 obtain ⟨r,h1,h2⟩: ∃ r,Lp (eV p ⟨m,n,dF m n F⟩) (0,dF m n F,[],0)=some r∧r=(dF m n (dA p m F n).1,tC (dA p m F n).2):=by
  refine aMg (fun s=> ∃ j:Nat,j≤n∧s=((j:Int),dF m n (dA p m F j).1,tC (dA p m F j).2,((dA p m F j).2.length:Int))) (fun s=>n - s.1.toNat) _ ⟨0,Nat.zero_le _,by simp [dA,tC]⟩ ?_
  rintro s ⟨j,hj,rfl⟩
  rcases Nat.lt_or_ge j n with hlt|hge
  ·have hlen:= @sZ p m F j
   rcases Nat.lt_or_ge (dA p m F j).2.length m with hl|hl
   ·refine .inl ⟨_,aQV ⟨T.hp,T.hN,T.hm,T.hn,qO (by have:=gH T.hp;omega) T.hi j⟩ hlt _ hl _,⟨j+1,hlt,rfl⟩,?_⟩
    simp;omega
   ·refine .inr ⟨_,?_,rfl⟩
    unfold eV
    simp only
    have e:=aHE (p:=p) (F:=F) (j:=j) (by omega:(dA p m F j).2.length=m) (n - j)
    rw [show j+(n - j)=n by omega] at e
    rw [kY hlt,cond_true,pH hl,cond_false,e]
  ·have e:j=n:=by omega
   subst e
   refine .inr ⟨_,?_,rfl⟩
   unfold eV
   simp only
   rw [pH (Nat.le_refl _),cond_false]
 rw [h1,h2,Option.bind_some]
end
noncomputable section
set_option maxRecDepth 10000
set_option maxHeartbeats 4000000
def jR (v1:Mt) (v3:(List Int)) (x1:((List Int)×Int)) (x2:((List Int)×Int)):Option (((List Int)×Int) ⊕ (List Int)):=
 bif decide (x2.2<(v3.length:Int)) then
 (Option.bind (dX v3 x2.2) fun v5=>
 Option.bind (dX x2.1 (wr ((wr (x2.2*v1.cols))+x1.2))) fun v6=>
 some (.inl ((x2.1.set ((wr ((wr (x2.2*v1.cols))+x1.2)).toNat) v5),wr (x2.2+1))))
 else
 (some (.inr x2.1))
def jS (a1:(List (List Int))) (v1:Mt) (x1:((List Int)×Int)):Option (((List Int)×Int) ⊕ (List Int)):=
 bif decide (x1.2<(a1.length:Int)) then
 (Option.bind (dX a1 x1.2) fun v3=>
 Option.bind (Lp (jR v1 v3 x1) (x1.1,0)) fun y7=>
 some (.inl (y7,wr (x1.2+1))))
 else
 (some (.inr x1.1))
def jJ (a0:Int) (a1:(List (List Int))):Option Mt:=
 Option.bind (tB a0 (a1.length:Int)) fun v1=>
 Option.bind (Lp (jS a1 v1) (v1.cells,0)) fun y8=>
 some ((⟨v1.rows,v1.cols,y8⟩:Mt))
theorem aCV (a0:Int) (a1:(List (List Int))) (r:Mt) (h:jJ a0 a1=some r):HasC Tryz.prog 155 [.int a0,.list 1 (List.map (cU 1 eI) a1)] (.agg (eM r)):=by
 refine bN aA (rvs:=[.cell 4 113]) (ns:=[0,1,2,3,4]) Tryz.func155 k k Tryz.ntmps155 k k k<|sQ<|rg<|ae (cA aA k k) k<|an<|tn<|sQ<|rg<|am k k<|am k k ?_
 refine ae (dG aA k k k) k ?_
 obtain ⟨v1,hv1,h⟩:=ob h
 refine ae (AEff.conv (dC (x:= .agg [.int v1.rows,.int v1.cols,.own 1 0 (List.map eI v1.cells).length]) (nb:=[(1,⟨1,cJ (List.map eI v1.cells)⟩)]) (aBF a0 (a1.length:Int) v1 hv1) k (by rfl) k k (bZ trivial (bZ trivial (bZ (dK.good _) gQ))) (aG (aM k) (aG (aM k) bG))) (v':= .agg [.int v1.rows,.int v1.cols,.own 1 0 v1.cells.length]) (ed':=[(1,some ⟨1,List.map (ow eI) v1.cells⟩)]) (by simp only [bC]) (eN (nb':=[(1,⟨1,List.map (ow eI) v1.cells⟩)]) (by simp only [cO]))) k<|ae (cA aA k k) k<|ae (bP aA k k k k k k k k) k<|an<|tn<|sQ<|sQ<|rg<|am k k<|ae (dG aA k k k) k ?_
 refine am k k<|an<|tn<|aL ?_
 obtain ⟨y8,hy8,h⟩:=ob h
 refine cV (body:=(jS a1 v1)) hy8 (fun (x1:((List Int)×Int))=>bU [(4,.ptr 0 0 0),(5,.ptr 1 0 0),(14,.list 1 (List.map (cU 1 eI) a1)),(15,.int (a1.length:Int)),(16,.int x1.2)] [(0,⟨3,[[.int 0,.int 0,.nil 1]]⟩),(1,⟨3,[[.int v1.rows,.int v1.cols,.own 2 0 x1.1.length]]⟩),(2,⟨1,List.map (ow eI) x1.1⟩)] 3 [3,4]) (fun r e t=>e= .exit 0∧Ent t (bU [(4,.ptr 0 0 0),(5,.ptr 1 0 0)] [(0,⟨3,[[.int 0,.int 0,.nil 1]]⟩),(1,⟨3,[[.int v1.rows,.int v1.cols,.own 2 0 r.length]]⟩),(2,⟨1,List.map (ow eI) r⟩)] 3 [3,4])) (aE (σ:=sg [(0,0),(1,2),(2,1)]) ⟨(pE k k),(pE k k),⟨_,k,⟨k,k⟩⟩,(e1 k k),(e1 k k),trivial⟩ (hP k k k k<|hX ⟨_,k,k,.inr ⟨_,_,k,⟨_,_,k,k,⟨_,_,k,k,⟨_,_,k,⟨k,k,k,k⟩,k⟩⟩⟩,k⟩⟩ k<|hI k k k<|trivial) k) ?_ ?_
 ·intro x1 o h
  refine sQ<|rg<|ae (bD k k k) k<|an<|tn<|sQ ?_
  rcases cb h with ⟨q2,h⟩|⟨q2,h⟩
  ·refine aJ k q2<|aR<|tn<|sQ<|aL<|sQ<|rg<|am k k ?_
   obtain ⟨v3,hv3,h⟩:=ob h
   refine ae (bJ aA hv3 k k k k k k) k<|ae (aW aA k k k k k k) k<|aa k k<|aa k k<|an<|tn<|sQ<|rg<|am k k<|ae (dG aA k k k) k ?_
   refine am k k<|an<|tn<|aL ?_
   obtain ⟨y7,hy7,h⟩:=ob h
   refine cV (body:=(jR v1 v3 x1)) hy7 (fun (x2:((List Int)×Int))=>bU [(4,.ptr 0 0 0),(5,.ptr 1 0 0),(6,.int x1.2),(14,.list 1 (List.map (cU 1 eI) a1)),(15,.int (a1.length:Int)),(16,.int x1.2),(21,.list 1 (List.map eI v3)),(22,.int (v3.length:Int)),(23,.int x2.2)] [(0,⟨3,[[.int 0,.int 0,.nil 1]]⟩),(1,⟨3,[[.int v1.rows,.int v1.cols,.own 2 0 x2.1.length]]⟩),(2,⟨1,List.map (ow eI) x2.1⟩)] 3 [3,4]) (fun r e t=>e= .exit 2∧Ent t (bU [(4,.ptr 0 0 0),(5,.ptr 1 0 0),(14,.list 1 (List.map (cU 1 eI) a1)),(15,.int (a1.length:Int)),(16,.int x1.2)] [(0,⟨3,[[.int 0,.int 0,.nil 1]]⟩),(1,⟨3,[[.int v1.rows,.int v1.cols,.own 2 0 r.length]]⟩),(2,⟨1,List.map (ow eI) r⟩)] 3 [3,4])) (aE (σ:=sg [(0,0),(1,1),(2,2)]) ⟨(pE k k),(pE k k),(e1 k k),⟨_,k,⟨k,k⟩⟩,(e1 k k),(e1 k k),⟨_,k,⟨k,k⟩⟩,(e1 k k),(e1 k k),trivial⟩ (hP k k k k<|hX ⟨_,k,k,.inr ⟨_,_,k,⟨_,_,k,k,⟨_,_,k,k,⟨_,_,k,⟨k,k,k,k⟩,k⟩⟩⟩,k⟩⟩ k<|hI k k k<|trivial) k) ?_ ?_
   ·intro x2 o h
    refine sQ<|rg<|ae (bD k k k) k<|an<|tn<|sQ ?_
    rcases cb h with ⟨q4,h⟩|⟨q4,h⟩
    ·refine aJ k q4<|aR<|tn<|sQ<|aL<|sQ<|rg<|am k k ?_
     obtain ⟨v5,hv5,h⟩:=ob h
     refine ae (bJ aA hv5 k k k k k k) k<|ae (aW aA k k k k k k) k<|aa k k<|aa k k<|an<|tn<|rg<|ae (aD aA k k k k k k k) k<|ae (aC aA k k k k k k k) k<|am k k ?_
     refine ae (aD aA k k k k k k k) k<|ae (aC aA k k k k k k k) k<|ae (gN k k) k<|am k k<|ae (bW k k) k<|am k k ?_
     obtain ⟨v6,hv6,h⟩:=ob h
     refine ae (cT aA (eD hv6) (dB hv6) k k k k k k k) k<|ae (iH aA uJ (u:=v5) (dI hv6) k k k k k k) k<|an<|bF<|tn<|aO (t:=bU [(4,.ptr 0 0 0),(5,.ptr 1 0 0),(6,.int x1.2),(14,.list 1 (List.map (cU 1 eI) a1)),(15,.int (a1.length:Int)),(16,.int x1.2),(21,.list 1 (List.map eI v3)),(22,.int (v3.length:Int)),(23,.int x2.2)] [(0,⟨3,[[.int 0,.int 0,.nil 1]]⟩),(1,⟨3,[[.int v1.rows,.int v1.cols,.own 2 0 ((x2.1.set ((wr ((wr (x2.2*v1.cols))+x1.2)).toNat) v5).length)]]⟩),(2,⟨1,List.map (ow eI) (x2.1.set ((wr ((wr (x2.2*v1.cols))+x1.2)).toNat) v5)⟩)] 3 [3,4]) (aE (σ:=sg [(0,0),(1,1),(2,2)]) ⟨(pE k k),(pE k k),(e1 k k),⟨_,k,⟨k,k⟩⟩,(e1 k k),(e1 k k),⟨_,k,⟨k,k⟩⟩,(e1 k k),(e1 k k),trivial⟩ (hP k k k k<|hX ⟨_,k,k,.inr ⟨_,_,k,⟨_,_,k,k,⟨_,_,k,k,⟨_,_,k,⟨k,k,(by simp only [bC,lA,lT,lR,lC,lN]),k⟩,k⟩⟩⟩,k⟩⟩ k<|hI k k k<|trivial) k)<|rg<|ae (bW k k) k<|am k k<|an ?_
     refine tn ?_
     obtain rfl:=so h
     exact ⟨_,k,(aE (σ:=sg [(0,0),(1,1),(2,2)]) ⟨(pE k k),(pE k k),(e1 k k),⟨_,k,⟨k,k⟩⟩,(e1 k k),(e1 k k),⟨_,k,⟨k,k⟩⟩,(e1 k k),(e1 k k),trivial⟩ (hP k k k k<|hX ⟨_,k,k,.inr ⟨_,_,k,⟨_,_,k,k,⟨_,_,k,k,⟨_,_,k,⟨k,k,k,k⟩,k⟩⟩⟩,k⟩⟩ k<|hI k k k<|trivial) k)⟩
    ·refine aN k q4<|bH<|aH<|aH ?_
     obtain rfl:=so h
     exact ⟨_,k,k,(aE (σ:=sg [(0,0),(1,1),(2,2)]) ⟨(pE k k),(pE k k),⟨_,k,⟨k,k⟩⟩,(e1 k k),(e1 k k),trivial⟩ (hP k k k k<|hX ⟨_,k,k,.inr ⟨_,_,k,⟨_,_,k,k,⟨_,_,k,k,⟨_,_,k,⟨k,k,k,k⟩,k⟩⟩⟩,k⟩⟩ k<|hI k k k<|trivial) k)⟩
   ·rintro e t ⟨rfl,hent⟩
    refine aX<|bF<|tn<|aO hent<|rg<|ae (bW k k) k<|am k k<|an<|tn ?_
    obtain rfl:=so h
    exact ⟨_,k,(aE (σ:=sg [(0,0),(1,1),(2,2)]) ⟨(pE k k),(pE k k),⟨_,k,⟨k,k⟩⟩,(e1 k k),(e1 k k),trivial⟩ (hP k k k k<|hX ⟨_,k,k,.inr ⟨_,_,k,⟨_,_,k,k,⟨_,_,k,k,⟨_,_,k,⟨k,k,k,k⟩,k⟩⟩⟩,k⟩⟩ k<|hI k k k<|trivial) k)⟩
  ·refine aN k q2<|bH<|aH<|aH ?_
   obtain rfl:=so h
   exact ⟨_,k,k,(aE (σ:=sg [(0,0),(1,1),(2,2)]) ⟨(pE k k),(pE k k),trivial⟩ (hP k k k k<|hX ⟨_,k,k,.inr ⟨_,_,k,⟨_,_,k,k,⟨_,_,k,k,⟨_,_,k,⟨k,k,k,k⟩,k⟩⟩⟩,k⟩⟩ k<|hI k k k<|trivial) k)⟩
 ·rintro e t ⟨rfl,hent⟩
  refine aX<|tn<|aO hent<|sQ<|rg<|ae (aC aA k k k k k k k) k<|ae (bP aA k k k k k k k k) k<|an<|tn<|aK ?_
  obtain rfl:=so h
  exact aT k k k (qI (cC (k) (cC (k) (cC (jD dK k k) hZ))))
end
noncomputable section
set_option maxRecDepth 10000
set_option maxHeartbeats 4000000
end
noncomputable section
def dN (r:Rp) (k:Nat):Nat:=(r.dims[k]?.getD 0).toNat
theorem aPH {r:Rp} (h:aEd r=true):kX r.p=true∧aFM r.q r.dims=true∧r.maps.length=r.q.src.length∧ ∀ k,k<r.maps.length→aBo r.p (r.maps[k]?.getD ⟨0,0,[]⟩)=true∧(r.maps[k]?.getD ⟨0,0,[]⟩).cols=r.dims[(r.q.src[k]?.getD 0).toNat]?.getD 0∧(r.maps[k]?.getD ⟨0,0,[]⟩).rows=r.dims[(r.q.tgt[k]?.getD 0).toNat]?.getD 0:=by
 unfold aEd at h
 simp only [Bool.and_eq_true,decide_eq_true_eq,uS] at h
 exact ⟨h.1,h.2.1,by omega,h.2.2.2⟩
theorem aKr (c:Nat) (f:Nat→Nat→Int): ∀ n,((List.range n).map fun i=>lU c (f i)).flatten=dF n c f
 |0=>by simp [dF]
 |n+1=>by
  rw [List.range_succ,List.map_append,List.flatten_append,aKr c f n]
  unfold dF
  rw [Nat.succ_mul,List.range_add,List.map_append]
  congr 1
  simp only [List.map_cons,List.map_nil,List.flatten_cons,List.flatten_nil,List.append_nil,List.map_map,lU]
  refine List.map_congr_left fun j hj=>?_
  have hj:=List.mem_range.1 hj
  simp only [Function.comp]
  rw [aGg hj,aGh hj]
theorem aIm {l:List (List Int)} (h: ∀ x∈l,x.length≤1024):l.flatten.length≤1024*l.length:=by
 induction l with
 |nil=>simp
 |cons x l ih=>
  have h1:=h x (by simp)
  have h2:=ih fun y hy=>h y (by simp [hy])
  simp only [List.flatten_cons,List.length_append,List.length_cons]
  omega
theorem xD {l:List (List Int)} {k:Nat} (hk:k<l.length):(l.take (k+1)).flatten=(l.take k).flatten++l[k]:=by
 rw [List.take_succ_eq_append_getElem hk,List.flatten_append];simp
theorem aPI {l:List (List Int)} (hl:l.length≤512) (h: ∀ x∈l,x.length≤1024):gZ l=some l.flatten:=by
 have hb: ∀ k,(l.take k).flatten.length ≤1024*512:=fun k=>by
  have:=aIm (l:=l.take k) fun x hx=>h x (List.mem_of_mem_take hx)
  have h2:(l.take k).length ≤512:=by simp;omega
  omega
 unfold gZ
 rw [fT (r:=(l.flatten.length:Int)) (fun k=>(((l.take k).flatten.length:Int),(k:Int))) l.length (by simp) (fun k hk=>?_) (fun _=>?_),Option.bind_some]
 ·have e:=hb l.length
  rw [List.take_length] at e
  unfold aLs
  rw [decide_eq_true (by omega),decide_eq_true (by omega:(l.flatten.length:Int)≤1048576),Bool.and_self,cond_true,Option.bind_some]
  rw [fT (r:=l.flatten) (fun k=>((l.take k).flatten,(k:Int))) l.length (by simp) (fun k hk=>?_) (fun _=>?_),Option.bind_some]
  ·unfold gF
   simp only
   have e2:=hb (k+1)
   rw [xD hk,List.length_append] at e2
   rw [kY hk,cond_true,dW hk,Option.bind_some,decide_eq_true (by omega),cond_true,dR hk (by omega),xD hk]
  ·unfold gF
   simp only
   rw [pH (Nat.le_refl _),cond_false,List.take_length]
 ·unfold gE
  simp only
  have e2:=hb (k+1)
  rw [xD hk,List.length_append] at e2
  rw [kY hk,cond_true,dW hk,Option.bind_some,gG (x:=_+_) (by omega),decide_eq_false (by omega),cond_false,dR hk (by omega),xD hk,List.length_append,Int.natCast_add (List.take k l).flatten.length l[k].length]
 ·unfold gE
  simp only
  rw [pH (Nat.le_refl _),cond_false,List.take_length]
end
noncomputable section
open Go.ChangeShapes Go.WideShapes Go.ChangeAt Go.RowKit
theorem oI:xJ Tryz.prog 3 (zE 1 eI):=aLp Tryz.underlying3
theorem oL:xJ Tryz.prog 22 (zE 1 eL):=aDL Tryz.underlying22 (by decide) (by kernel_rfl) oI
theorem oQ:xJ Tryz.prog 24 (zE 3 eQ):=by
 intro H enc w fuel cs d ps h hf
 obtain ⟨x0,T0,u0⟩:=nS Tryz.underlying24 h hf aGq (i:=0) (ft:=3) rfl (k:=1) (by kernel_rfl) oI
 obtain ⟨x1,T1,u1⟩:=nS Tryz.underlying24 h hf u0 (i:=1) (ft:=22) rfl (k:=1) (by kernel_rfl) oL
 obtain ⟨x2,T2,u2⟩:=nS Tryz.underlying24 h hf u1 (i:=2) (ft:=22) rfl (k:=1) (by kernel_rfl) oL
 exact ⟨⟨x0,x1,x2⟩,_,aGr Tryz.underlying24 h hf u2 (by kernel_rfl) _ rfl⟩
theorem oM:xJ Tryz.prog 111 (zE 3 eM):=by
 intro H enc w fuel cs d ps h hf
 obtain ⟨x0,T0,u0⟩:=nS Tryz.underlying111 h hf aGq (i:=0) (ft:=3) rfl (k:=1) (by kernel_rfl) oI
 obtain ⟨x1,T1,u1⟩:=nS Tryz.underlying111 h hf u0 (i:=1) (ft:=3) rfl (k:=1) (by kernel_rfl) oI
 obtain ⟨x2,T2,u2⟩:=nS Tryz.underlying111 h hf u1 (i:=2) (ft:=22) rfl (k:=1) (by kernel_rfl) oL
 exact ⟨⟨x0,x1,x2⟩,_,aGr Tryz.underlying111 h hf u2 (by kernel_rfl) _ rfl⟩
theorem oMs:xJ Tryz.prog 25 (zE 1 (fun l:List Mt=>[.list 3 (l.map eM)])):=aDL Tryz.underlying25 (by decide) (by kernel_rfl) oM
theorem oR:xJ Tryz.prog 27 (zE 6 eR):=by
 intro H enc w fuel cs d ps h hf
 obtain ⟨x0,T0,u0⟩:=nS Tryz.underlying27 h hf aGq (i:=0) (ft:=3) rfl (k:=1) (by kernel_rfl) oI
 obtain ⟨x1,T1,u1⟩:=nS Tryz.underlying27 h hf u0 (i:=1) (ft:=24) rfl (k:=3) (by kernel_rfl) oQ
 obtain ⟨x2,T2,u2⟩:=nS Tryz.underlying27 h hf u1 (i:=2) (ft:=22) rfl (k:=1) (by kernel_rfl) oL
 obtain ⟨x3,T3,u3⟩:=nS Tryz.underlying27 h hf u2 (i:=3) (ft:=25) rfl (k:=1) (by kernel_rfl) oMs
 exact ⟨⟨x0,x1,x2,x3⟩,_,aGr Tryz.underlying27 h hf u3 (by kernel_rfl) _ rfl⟩
end
noncomputable section
theorem aMu {w:World} : ∀ {ds:List AV} {vs:List Value} {S:List Nat},RepVs w ds vs S→ ∀ d∈ds,∃ v S',RepD w d v S'
 | [],_,_,_,d,hd=>by cases hd
 |c::cs,vs,S,h,d,hd=>by
  simp only [RepVs] at h
  obtain ⟨v,r,S1,S2,_,_,h3,h4⟩:=h
  rcases List.mem_cons.1 hd with rfl|h'
  ·exact ⟨v,S1,h3⟩
  ·exact aMu h4 d h'
theorem aMv {w:World} {b:Nat} : ∀ {ds:List AV} {o:Nat} {S:List Nat},RepCs w b o ds S→ ∀ d∈ds,∃ v S',RepD w d v S'
 | [],_,_,_,d,hd=>by cases hd
 |c::cs,o,S,h,d,hd=>by
  simp only [RepCs] at h
  obtain ⟨v,S1,S2,_,_,_,_,h3,h4⟩:=h
  rcases List.mem_cons.1 hd with rfl|h'
  ·exact ⟨v,S1,h3⟩
  ·exact aMv h4 d h'
theorem aMw {w:World} {k b:Nat} : ∀ {es:List (List AV)} {o:Nat} {S:List Nat},RepEs w k b o es S→ ∀ cs∈es,∀ d∈cs,∃ v S',RepD w d v S'
 | [],_,_,_,cs,hc=>by cases hc
 |c::es,o,S,h,cs,hc=>by
  simp only [RepEs] at h
  obtain ⟨S1,S2,_,_,h3,h4⟩:=h
  rcases List.mem_cons.1 hc with rfl|h'
  ·exact aMv h3
  ·exact aMw h4 cs h'
theorem aMx {w:World} {k:Nat} {es:List (List AV)} {v:Value} {S:List Nat} (h:RepD w (.list k es) v S):es.length≤9223372036854775807∧ ∀ cs∈es,∀ d∈cs,∃ v S',RepD w d v S':=by
 unfold RepD at h
 obtain ⟨a,c,_,h2,h3,h4⟩:=h
 have hm:maxLen≤9223372036854775807:=by decide
 refine ⟨by omega,?_⟩
 rcases h4 with ⟨rfl,_⟩|⟨b,o,T,_,_,_,h5⟩
 ·intro cs hcs;cases hcs
 ·exact aMw h5
theorem aQu {w:World} {l:List Int} {v:Value} {S:List Nat} (h:RepD w (aJI l) v S):fI l:=by
 have:=(aMx (k:=1) (es:=List.map eI l) h).1
 rwa [List.length_map] at this
theorem aJe {w:World} {ds:List AV} (h: ∀ d∈ds,∃ v S',RepD w d v S') {l:List Int} (hl:aJI l∈ds):fI l:=by
 obtain ⟨v,S,h⟩:=h _ hl
 exact aQu h
theorem aPJ {w:World} {ds:List AV} (h: ∀ d∈ds,∃ v S',RepD w d v S') {α:Type} {k:Nat} {e:α→List AV} {l:List α} (hl:AV.list k (l.map e)∈ds):fI l∧ ∀ x∈l,∀ d∈e x,∃ v S',RepD w d v S':=by
 obtain ⟨v,S,h⟩:=h _ hl
 have:=aMx h
 rw [List.length_map] at this
 exact ⟨this.1,fun x hx=>this.2 _ (List.mem_map.2 ⟨x,hx,rfl⟩)⟩
theorem aRt {w:World} {m:Mt} (h: ∀ d∈eM m,∃ v S',RepD w d v S'):fM m:=aJe h (by simp [eM])
theorem aRO {w:World} {l:List Mt} {ds:List AV} (h: ∀ d∈ds,∃ v S',RepD w d v S') (hl:AV.list 3 (l.map eM)∈ds):fMs l:=by
 obtain ⟨h1,h2⟩:=aPJ h hl
 exact ⟨h1,fun m hm=>aRt (h2 m hm)⟩
theorem aRu {w:World} {r:Rp} (h: ∀ d∈eR r,∃ v S',RepD w d v S'):fR r:=⟨⟨aJe h (by simp [eR]),aJe h (by simp [eR])⟩,aJe h (by simp [eR]),aRO h (by simp [eR])⟩
theorem aPK {w0 w:World} {v:Value} {S:List Nat} (h:aJF w (.bl true) v S):Ending.returned v= .returned (.bool true):=by rw [h.1]
end
noncomputable section
set_option maxRecDepth 10000
set_option maxHeartbeats 4000000
def oT (a0:(List (List Int))) (a1:(List (List Int))) (x1:Int):Option (Int ⊕ (Unit ⊕ Bool)):=
 bif decide (x1<(a0.length:Int)) then
 (Option.bind (dX a0 x1) fun v3=>
 Option.bind (dX a1 x1) fun v4=>
 Option.bind (iW v3 v4) fun v5=>
 bif !v5 then
 (some (.inr (.inr (false))))
 else
 (some (.inl (wr (x1+1)))))
 else
 (some (.inr (.inl ())))
def tU (a0:(List (List Int))) (a1:(List (List Int))):Option Bool:=
 bif !decide ((a0.length:Int)=(a1.length:Int)) then
 (some (false))
 else
 (Option.bind (Lp (oT a0 a1) 0) fun y7=>
 Sum.elim (fun y8=>
 some (true)
 )
 (fun y9=>
 some y9
 )
 y7)
theorem aHI (a0:(List (List Int))) (a1:(List (List Int))) (r:Bool) (h:tU a0 a1=some r):HasC Tryz.prog 45 [.list 1 (List.map (cU 1 eI) a0),.list 1 (List.map (cU 1 eI) a1)] (.bl r):=by
 refine bN aA (rvs:=[.tmp 4]) (ns:=[0,1]) Tryz.func45 k k Tryz.ntmps45 k k k<|sQ<|rg<|aa k k<|an<|tn<|sQ<|sQ<|rg<|am k k ?_
 refine ae (dG aA k k k) k<|am k k<|ae (dG aA k k k) k<|ae (bD k k k) k<|an<|tn ?_
 rcases cb h with ⟨q1,h⟩|⟨q1,h⟩
 ·refine aJ k q1<|sQ<|rg<|aa k k<|an<|tn<|aK<|aI ?_
  obtain rfl:=so h
  exact aT k k k (bT k)
 ·refine aN k q1<|aR<|tn<|sQ<|sQ<|rg<|aa k k<|an<|tn<|aL ?_
  obtain ⟨y7,hy7,h⟩:=ob h
  refine cV (body:=(oT a0 a1)) hy7 (fun (x1:Int)=>bU [(0,.list 1 (List.map (cU 1 eI) a0)),(1,.list 1 (List.map (cU 1 eI) a1)),(5,.int x1)] [] 0 [0,1]) (fun r e t=>Sum.elim (fun a=>(fun r e t=>e= .exit 0∧Ent t (bU [] [] 0 [0,1])) a e t) (fun b=>(fun r e t=>e= .ret∧nZ TT [.tmp 4] (.bl r) .ret t) b e t) r) (aE (σ:=sg []) ⟨⟨_,k,⟨k,k⟩⟩,⟨_,k,⟨k,k⟩⟩,(e1 k k),trivial⟩ trivial k) ?_ ?_
  ·intro x1 o h
   refine sQ<|sQ<|rg<|am k k<|am k k<|ae (dG aA k k k) k<|ae (bD k k k) k<|an<|tn ?_
   rcases cb h with ⟨q2,h⟩|⟨q2,h⟩
   ·refine aJ k q2<|aR<|tn<|sQ<|aL<|sQ<|aZ kR<|am k k<|am k k ?_
    obtain ⟨v3,hv3,h⟩:=ob h
    refine ae (bJ aA hv3 k k k k k k) k<|ae (aW aA k k k k k k) k<|am k k<|am k k ?_
    obtain ⟨v4,hv4,h⟩:=ob h
    refine ae (bJ aA hv4 k k k k k k) k<|ae (aW aA k k k k k k) k ?_
    obtain ⟨v5,hv5,h⟩:=ob h
    refine ae (bE (nT v3 v4 v5 hv5) k (aG (aM k) (aG (aM k) bG))) k<|ae (cH k) k<|an ?_
    refine ⟨by kernel_rfl,?_⟩
    refine tn<|aO (t:=bU [(0,.list 1 (List.map (cU 1 eI) a0)),(1,.list 1 (List.map (cU 1 eI) a1)),(5,.int x1),(26,.bl (!v5))] [] 0 [0,1]) (aE (σ:=sg []) ⟨⟨_,k,⟨k,k⟩⟩,⟨_,k,⟨k,k⟩⟩,(e1 k k),(e1 k k),trivial⟩ trivial k) ?_
    rcases cb h with ⟨q6,h⟩|⟨q6,h⟩
    ·refine aJ k q6<|sQ<|rg<|aa k k<|an<|tn<|aK<|bB<|aI<|aI ?_
     obtain rfl:=so h
     exact ⟨_,k,k,aT k k k (bT k)⟩
    ·refine aN k q6<|aR<|bF<|tn<|rg<|am k k<|ae (bW k k) k<|aa k k<|an<|tn ?_
     obtain rfl:=so h
     exact ⟨_,k,(aE (σ:=sg []) ⟨⟨_,k,⟨k,k⟩⟩,⟨_,k,⟨k,k⟩⟩,(e1 k k),trivial⟩ trivial k)⟩
   ·refine aN k q2<|bH<|aH<|aH ?_
    obtain rfl:=so h
    exact ⟨_,k,k,(aE (σ:=sg []) trivial trivial k)⟩
  ·intro e t hX
   rcases y7 with y8|y9
   ·obtain ⟨rfl,hent⟩:=hX
    refine aX<|tn<|aO hent<|sQ<|rg<|aa k k<|an<|tn<|aK ?_
    obtain rfl:=so h
    exact aT k k k (bT k)
   ·obtain ⟨rfl,hent⟩:=hX
    refine bB<|aI ?_
    obtain rfl:=so h
    exact hent
def tW (a0:Sc) (a1:Sc):Option Bool:=
 bif !decide (a0.size=a1.size) then
 (some (false))
 else
 (Option.bind (tU a0.basis a1.basis) fun v2=>
 bif !v2 then
 (some (false))
 else
 (some (true)))
theorem aHJ (a0:Sc) (a1:Sc) (r:Bool) (h:tW a0 a1=some r):HasC Tryz.prog 99 [.agg (eS a0),.agg (eS a1)] (.bl r):=by
 refine bN aA (rvs:=[.tmp 4]) (ns:=[0,1,2,3]) Tryz.func99 k k Tryz.ntmps99 k k k<|sQ<|rg<|ae (cD k k k k) k<|ae (cD k k k k) k<|aa k k<|an<|tn<|sQ<|sQ ?_
 refine rg<|ae (aD aA k k k k k k k) k<|ae (aC aA k k k k k k k) k<|ae (aD aA k k k k k k k) k<|ae (aC aA k k k k k k k) k<|ae (bD k k k) k<|an<|tn ?_
 rcases cb h with ⟨q1,h⟩|⟨q1,h⟩
 ·refine aJ k q1<|sQ<|rg<|aa k k<|an<|tn<|aK<|aI ?_
  obtain rfl:=so h
  exact aT k k k (bT k)
 ·refine aN k q1<|aR<|tn<|sQ<|sQ<|rg<|ae (aD aA k k k k k k k) k<|ae (aC aA k k k k k k k) k<|ae (aD aA k k k k k k k) k<|ae (aC aA k k k k k k k) k ?_
  obtain ⟨v2,hv2,h⟩:=ob h
  refine ae (bE (aHI a0.basis a1.basis v2 hv2) k (aG (aM k) (aG (aM k) bG))) k<|ae (cH k) k<|an<|tn<|aO (t:=bU [(15,.bl (!v2))] [] 2 [2,3]) (aE (σ:=sg []) ⟨(e1 k k),trivial⟩ trivial k) ?_
  rcases cb h with ⟨q3,h⟩|⟨q3,h⟩
  ·refine aJ k q3<|sQ<|rg<|aa k k<|an<|tn<|aK<|aI ?_
   obtain rfl:=so h
   exact aT k k k (bT k)
  ·refine aN k q3<|aR<|tn<|sQ<|rg<|aa k k<|an<|tn<|aK ?_
   obtain rfl:=so h
   exact aT k k k (bT k)
def mQ (a0:(List Sc)) (a1:(List Sc)) (x1:Int):Option (Int ⊕ (Unit ⊕ Bool)):=
 bif decide (x1<(a0.length:Int)) then
 (Option.bind (dX a0 x1) fun v3=>
 Option.bind (dX a1 x1) fun v4=>
 Option.bind (tW v3 v4) fun v5=>
 bif !v5 then
 (some (.inr (.inr (false))))
 else
 (some (.inl (wr (x1+1)))))
 else
 (some (.inr (.inl ())))
def rJ (a0:(List Sc)) (a1:(List Sc)):Option Bool:=
 bif !decide ((a0.length:Int)=(a1.length:Int)) then
 (some (false))
 else
 (Option.bind (Lp (mQ a0 a1) 0) fun y7=>
 Sum.elim (fun y8=>
 some (true)
 )
 (fun y9=>
 some y9
 )
 y7)
theorem aFj (a0:(List Sc)) (a1:(List Sc)) (r:Bool) (h:rJ a0 a1=some r):HasC Tryz.prog 40 [.list 2 (List.map eS a0),.list 2 (List.map eS a1)] (.bl r):=by
 refine bN aA (rvs:=[.tmp 4]) (ns:=[0,1]) Tryz.func40 k k Tryz.ntmps40 k k k<|sQ<|rg<|aa k k<|an<|tn<|sQ<|sQ<|rg<|am k k ?_
 refine ae (dG aA k k k) k<|am k k<|ae (dG aA k k k) k<|ae (bD k k k) k<|an<|tn ?_
 rcases cb h with ⟨q1,h⟩|⟨q1,h⟩
 ·refine aJ k q1<|sQ<|rg<|aa k k<|an<|tn<|aK<|aI ?_
  obtain rfl:=so h
  exact aT k k k (bT k)
 ·refine aN k q1<|aR<|tn<|sQ<|sQ<|rg<|aa k k<|an<|tn<|aL ?_
  obtain ⟨y7,hy7,h⟩:=ob h
  refine cV (body:=(mQ a0 a1)) hy7 (fun (x1:Int)=>bU [(0,.list 2 (List.map eS a0)),(1,.list 2 (List.map eS a1)),(5,.int x1)] [] 0 [0,1]) (fun r e t=>Sum.elim (fun a=>(fun r e t=>e= .exit 0∧Ent t (bU [] [] 0 [0,1])) a e t) (fun b=>(fun r e t=>e= .ret∧nZ TT [.tmp 4] (.bl r) .ret t) b e t) r) (aE (σ:=sg []) ⟨⟨_,k,⟨k,k⟩⟩,⟨_,k,⟨k,k⟩⟩,(e1 k k),trivial⟩ trivial k) ?_ ?_
  ·intro x1 o h
   refine sQ<|sQ<|rg<|am k k<|am k k<|ae (dG aA k k k) k<|ae (bD k k k) k<|an<|tn ?_
   rcases cb h with ⟨q2,h⟩|⟨q2,h⟩
   ·refine aJ k q2<|aR<|tn<|sQ<|aL<|sQ<|aZ kR<|am k k<|am k k ?_
    obtain ⟨v3,hv3,h⟩:=ob h
    refine ae (bJ aA hv3 k k k k k k) k<|ae (aW aA k k k k k k) k<|am k k<|am k k ?_
    obtain ⟨v4,hv4,h⟩:=ob h
    refine ae (bJ aA hv4 k k k k k k) k<|ae (aW aA k k k k k k) k ?_
    obtain ⟨v5,hv5,h⟩:=ob h
    refine ae (bE (aHJ v3 v4 v5 hv5) k (aG (cE (aU (aY k) (aU (aY k) cR))) (aG (cE (aU (aY k) (aU (aY k) cR))) bG))) k<|ae (cH k) k<|an ?_
    refine ⟨by kernel_rfl,?_⟩
    refine tn<|aO (t:=bU [(0,.list 2 (List.map eS a0)),(1,.list 2 (List.map eS a1)),(5,.int x1),(26,.bl (!v5))] [] 0 [0,1]) (aE (σ:=sg []) ⟨⟨_,k,⟨k,k⟩⟩,⟨_,k,⟨k,k⟩⟩,(e1 k k),(e1 k k),trivial⟩ trivial k) ?_
    rcases cb h with ⟨q6,h⟩|⟨q6,h⟩
    ·refine aJ k q6<|sQ<|rg<|aa k k<|an<|tn<|aK<|bB<|aI<|aI ?_
     obtain rfl:=so h
     exact ⟨_,k,k,aT k k k (bT k)⟩
    ·refine aN k q6<|aR<|bF<|tn<|rg<|am k k<|ae (bW k k) k<|aa k k<|an<|tn ?_
     obtain rfl:=so h
     exact ⟨_,k,(aE (σ:=sg []) ⟨⟨_,k,⟨k,k⟩⟩,⟨_,k,⟨k,k⟩⟩,(e1 k k),trivial⟩ trivial k)⟩
   ·refine aN k q2<|bH<|aH<|aH ?_
    obtain rfl:=so h
    exact ⟨_,k,k,(aE (σ:=sg []) trivial trivial k)⟩
  ·intro e t hX
   rcases y7 with y8|y9
   ·obtain ⟨rfl,hent⟩:=hX
    refine aX<|tn<|aO hent<|sQ<|rg<|aa k k<|an<|tn<|aK ?_
    obtain rfl:=so h
    exact aT k k k (bT k)
   ·obtain ⟨rfl,hent⟩:=hX
    refine bB<|aI ?_
    obtain rfl:=so h
    exact hent
end
noncomputable section
theorem aRv {a b:List (List Int)} (h:a.length≤1048576∧ ∀ m∈a,bI m):tU a b=some (decide (a=b)):=by
 obtain ⟨h,hb⟩:=h
 unfold tU
 rw [vP]
 by_cases e:a.length=b.length
 ·rw [decide_eq_true e,Bool.not_true,cond_false]
  refine xN (by omega) e (fun k h1 h2=>?_) ?_
  ·unfold oT
   rw [kY h1,cond_true,dW h1,Option.bind_some,dW h2,Option.bind_some,aNc (hb _ (List.getElem_mem h1)),Option.bind_some]
   cases decide (a[k]=b[k]) <;> rfl
  ·unfold oT
   rw [pH (Nat.le_refl _),cond_false]
 ·rw [decide_eq_false e,Bool.not_false,cond_true,decide_eq_false (by rintro rfl;exact e rfl)]
theorem aSg {a b:Sc} (h:bS a):tW a b=some (decide (a=b)):=by
 unfold tW
 rw [gD (d:=decide (a.basis=b.basis)) (fun _=>?_)]
 ·cases a;cases b;simp
 ·rw [aRv h.1,Option.bind_some,aGE]
theorem aRw {a b:List Sc} (h:a.length≤1048576∧ ∀ m∈a,bS m):rJ a b=some (decide (a=b)):=by
 obtain ⟨h,hb⟩:=h
 unfold rJ
 rw [vP]
 by_cases e:a.length=b.length
 ·rw [decide_eq_true e,Bool.not_true,cond_false]
  refine xN (by omega) e (fun k h1 h2=>?_) ?_
  ·unfold mQ
   rw [kY h1,cond_true,dW h1,Option.bind_some,dW h2,Option.bind_some,aSg (hb _ (List.getElem_mem h1)),Option.bind_some]
   cases decide (a[k]=b[k]) <;> rfl
  ·unfold mQ
   rw [pH (Nat.le_refl _),cond_false]
 ·rw [decide_eq_false e,Bool.not_false,cond_true,decide_eq_false (by rintro rfl;exact e rfl)]
end
noncomputable section
set_option maxRecDepth 10000
set_option maxHeartbeats 4000000
def rK (a0:Int) (a1:(List (List Int))):Option Mt:=
 Option.bind (gZ a1) fun v1=>
 some ((⟨(a1.length:Int),a0,v1⟩:Mt))
theorem aFk (a0:Int) (a1:(List (List Int))) (r:Mt) (h:rK a0 a1=some r):HasC Tryz.prog 260 [.int a0,.list 1 (List.map (cU 1 eI) a1)] (.agg (eM r)):=by
 refine bN aA (rvs:=[.cell 4 113]) (ns:=[0,1,2,3]) Tryz.func260 k k Tryz.ntmps260 k k k<|sQ<|rg<|ae (cA aA k k) k<|an<|tn<|sQ<|rg<|am k k<|ae (dG aA k k k) k ?_
 refine am k k<|am k k ?_
 obtain ⟨v1,hv1,h⟩:=ob h
 refine ae (AEff.conv (dC (x:= .own 1 0 (List.map eI v1).length) (nb:=[(1,⟨1,cJ (List.map eI v1)⟩)]) (zJ a1 v1 hv1) k (by rfl) k k (dK.good _) (aG (aM k) bG)) (v':= .own 1 0 v1.length) (ed':=[(1,some ⟨1,List.map (ow eI) v1⟩)]) (by simp only [bC]) (eN (nb':=[(1,⟨1,List.map (ow eI) v1⟩)]) (by simp only [cO]))) k<|ae (cQ aA k k k k k k) k<|ae (bP aA k k k k k k k k) k<|an<|tn<|aK ?_
 obtain rfl:=so h
 exact aT k k k (qI (cC (k) (cC (k) (cC (jD dK k k) hZ))))
def tX (v2:(Mt×(List Int))) (x1:((List (List Int))×Int)):Option (((List (List Int))×Int) ⊕ (List (List Int))):=
 bif decide (x1.2<((v2.2.length:Nat):Int)) then
 (Option.bind (dM v2.1 x1.2) fun v4=>
 Option.bind (tM ((v2.1.cells.drop (0+(wr (x1.2*v2.1.cols)).toNat)).take ((wr ((wr (x1.2+1))*v2.1.cols)).toNat - (wr (x1.2*v2.1.cols)).toNat))) fun v5=>
 bif decide (x1.1.length+1≤4294967296) then
 (some (.inl ((x1.1++[v5]),wr (x1.2+1))))
 else none)
 else
 (some (.inr x1.1))
def vS (a0:Int) (a1:Int) (a2:(List (List Int))):Option Sc:=
 Option.bind (rK a1 a2) fun v1=>
 Option.bind (vI a0 v1) fun v2=>
 Option.bind (Lp (tX v2) ([],0)) fun y7=>
 some ((⟨a1,y7⟩:Sc))
theorem aFN (a0:Int) (a1:Int) (a2:(List (List Int))) (r:Sc) (h:vS a0 a1 a2=some r):HasC Tryz.prog 233 [.int a0,.int a1,.list 1 (List.map (cU 1 eI) a2)] (.agg (eS r)):=by
 refine bN aA (rvs:=[.cell 6 99]) (ns:=[0,1,2,3,4,5,6,7,8]) Tryz.func233 k k Tryz.ntmps233 k k k<|sQ<|rg<|ae (cA aA k k) k<|an<|tn<|sQ<|rg<|am k k<|am k k ?_
 refine am k k ?_
 obtain ⟨v1,hv1,h⟩:=ob h
 refine ae (AEff.conv (dC (x:= .agg [.int v1.rows,.int v1.cols,.own 1 0 (List.map eI v1.cells).length]) (nb:=[(1,⟨1,cJ (List.map eI v1.cells)⟩)]) (aFk a1 a2 v1 hv1) k (by rfl) k k (bZ trivial (bZ trivial (bZ (dK.good _) gQ))) (aG (aM k) (aG (aM k) bG))) (v':= .agg [.int v1.rows,.int v1.cols,.own 1 0 v1.cells.length]) (ed':=[(1,some ⟨1,List.map (ow eI) v1.cells⟩)]) (by simp only [bC]) (eN (nb':=[(1,⟨1,List.map (ow eI) v1.cells⟩)]) (by simp only [cO]))) k ?_
 obtain ⟨v2,hv2,h⟩:=ob h
 refine ae (AEff.conv (dC (x:= .tuple [.agg [.int v2.1.rows,.int v2.1.cols,.own 2 0 (List.map eI v2.1.cells).length],.own 3 0 (List.map eI v2.2).length]) (nb:=[(2,⟨1,cJ (List.map eI v2.1.cells)⟩),(3,⟨1,cJ (List.map eI v2.2)⟩)]) (aHs a0 v1 v2 hv2) k (by rfl) k k (iI (bZ trivial (bZ trivial (bZ (dK.good _) gQ))) (iI (dK.good _) zB)) (aG (aM k) (aG (cE (aU (aY k) (aU (aY k) (aU (qH dK k k) cR)))) bG))) (v':= .tuple [.agg [.int v2.1.rows,.int v2.1.cols,.own 2 0 v2.1.cells.length],.own 3 0 v2.2.length]) (ed':=[(2,some ⟨1,List.map (ow eI) v2.1.cells⟩),(3,some ⟨1,List.map (ow eI) v2.2⟩)]) (by simp only [bC]) (eN (nb':=[(2,⟨1,List.map (ow eI) v2.1.cells⟩),(3,⟨1,List.map (ow eI) v2.2⟩)]) (by simp only [cO]))) k<|am k k<|ae (bO k k (by intro _ h;cases h)) k<|ae (bO k k (by intro _ h;cases h)) k<|ae (cA aA k k) k<|ae (bP aA k k k k k k k k) k<|aa k k<|an<|tn<|aO (t:=bU [(1,.int a1),(6,.ptr 0 0 0),(7,.ptr 4 0 0),(8,.own 3 0 v2.2.length)] [(0,⟨2,[[.int 0,.nil 1]]⟩),(2,⟨1,List.map (ow eI) v2.1.cells⟩),(3,⟨1,List.map (ow eI) v2.2⟩),(4,⟨3,[[.int v2.1.rows,.int v2.1.cols,.own 2 0 v2.1.cells.length]]⟩)] 5 [5,6,7,8]) (aE (σ:=sg [(0,0),(2,2),(3,3),(4,4)]) ⟨(e1 k k),(pE k k),(pE k k),(oE k k),trivial⟩ (hP k k k k<|hI k k k<|hI k k k<|hX ⟨_,k,k,.inr ⟨_,_,k,⟨_,_,k,k,⟨_,_,k,k,⟨_,_,k,⟨k,k,k,k⟩,k⟩⟩⟩,k⟩⟩ k<|trivial) k) ?_
 refine sQ<|rg<|aa k k<|an<|tn<|sQ<|sQ<|rg<|am k k<|ae (bV aA k k k k) k ?_
 refine am k k<|an<|tn<|aL ?_
 obtain ⟨y7,hy7,h⟩:=ob h
 refine cV (body:=(tX v2)) hy7 (fun (x1:((List (List Int))×Int))=>bU [(1,.int a1),(6,.ptr 0 0 0),(7,.ptr 1 0 0),(9,.own 3 0 x1.1.length),(20,.int ((v2.2.length:Nat):Int)),(21,.int x1.2)] [(0,⟨2,[[.int 0,.nil 1]]⟩),(1,⟨3,[[.int v2.1.rows,.int v2.1.cols,.own 2 0 v2.1.cells.length]]⟩),(2,⟨1,List.map (ow eI) v2.1.cells⟩),(3,⟨1,List.map (ow (cU 1 eI)) x1.1⟩)] 4 [4,5,6,7,8]) (fun r e t=>e= .exit 0∧Ent t (bU [(1,.int a1),(6,.ptr 0 0 0),(9,.own 1 0 r.length)] [(0,⟨2,[[.int 0,.nil 1]]⟩),(1,⟨1,List.map (ow (cU 1 eI)) r⟩)] 2 [2,3,4,5,6,7,8])) (aE (σ:=sg [(0,0),(1,4),(2,2)]) ⟨(e1 k k),(pE k k),(pE k k),⟨_,k,⟨k,k,k,k⟩⟩,(e1 k k),(e1 k k),trivial⟩ (hP k k k k<|hX ⟨_,k,k,.inr ⟨_,_,k,⟨_,_,k,k,⟨_,_,k,k,⟨_,_,k,⟨k,k,k,k⟩,k⟩⟩⟩,k⟩⟩ k<|hI k k k<|hX k k<|trivial) k) ?_ ?_
 ·intro x1 o h
  refine sQ<|rg<|ae (bD k k k) k<|an<|tn<|sQ ?_
  rcases cb h with ⟨q3,h⟩|⟨q3,h⟩
  ·refine aJ k q3<|aR<|tn<|sQ<|aL<|sQ<|rg<|am k k<|aa k k<|an ?_
   refine tn<|rg<|am k k<|ae (aC aA k k k k k k k) k<|am k k ?_
   obtain ⟨v4,hv4,h⟩:=ob h
   refine ae (AEff.pureE (gB (σ:=sg [(0,2)]) (σ':=sg [(2,0)]) (touch:=[2]) (news:=[]) (hl2:=[(2,⟨1,List.map (ow eI) v2.1.cells⟩)]) (n':=4) (r2:= .own 2 (0+(wr (x1.2*v2.1.cols)).toNat) ((wr ((wr (x1.2+1))*v2.1.cols)).toNat - (wr (x1.2*v2.1.cols)).toNat)) (eO v2.1 x1.2 v4 hv4) k k ⟨_,_,k,⟨_,_,k,k,⟨_,_,k,k,⟨_,_,k,⟨k,k,k,k⟩,k⟩⟩⟩,⟨_,_,k,k,k⟩⟩ ⟨⟨_,k,k,.inl ⟨k,dK.plainO _⟩⟩,k,trivial⟩ k k k ⟨⟨_,k,k,.inl ⟨k,dK.plainO _⟩⟩,k,trivial⟩ k ⟨k,k,(by simp only [bC,lA,lT,lR,lC,lN]),k⟩ k ⟨k,dK.tame _ _,trivial⟩ k k) ⟨k,k,trivial⟩) k ?_
   obtain ⟨v5,hv5,h⟩:=ob h
   refine ae (AEff.conv (dC (x:= .own 4 0 (List.map eI v5).length) (nb:=[(4,⟨1,cJ (List.map eI v5)⟩)]) (aDM ((v2.1.cells.drop (0+(wr (x1.2*v2.1.cols)).toNat)).take ((wr ((wr (x1.2+1))*v2.1.cols)).toNat - (wr (x1.2*v2.1.cols)).toNat)) v5 hv5) k (by rfl) k k (dK.good _) (aG (aQJ dK k) bG)) (v':= .own 4 0 v5.length) (ed':=[(4,some ⟨1,List.map (ow eI) v5⟩)]) (by simp only [bC]) (eN (nb':=[(4,⟨1,List.map (ow eI) v5⟩)]) (by simp only [cO]))) k<|ae (cW aA k k k k k k k k k k k k) k ?_
   obtain ⟨q6,h⟩:=cg h
   refine ae (tL aA (l:=x1.1) (c:=[.own 4 0 v5.length]) q6 k k k k k k k k k k k k k k) k<|aa k k<|an<|bF<|tn<|aO (t:=bU [(1,.int a1),(6,.ptr 0 0 0),(7,.ptr 1 0 0),(9,.own 6 0 ((x1.1++[v5]).length)),(20,.int ((v2.2.length:Nat):Int)),(21,.int x1.2)] [(0,⟨2,[[.int 0,.nil 1]]⟩),(1,⟨3,[[.int v2.1.rows,.int v2.1.cols,.own 2 0 v2.1.cells.length]]⟩),(2,⟨1,List.map (ow eI) v2.1.cells⟩),(6,⟨1,List.map (ow (cU 1 eI)) (x1.1++[v5])⟩)] 7 [7,8]) (Ent.trans (tK (b:=6) (b':=4) (j:=0) (es':=List.map eI v5) k k k k (bC _ _) (dK.frzs _)) (aE (σ:=sg [(0,0),(1,1),(2,2),(6,6)]) ⟨(e1 k k),(pE k k),(pE k k),⟨_,k,⟨k,k,(by simp only [bC,lA,lT,lR,lC,lN]),k⟩⟩,(e1 k k),(e1 k k),trivial⟩ (hP k k k k<|hX ⟨_,k,k,.inr ⟨_,_,k,⟨_,_,k,k,⟨_,_,k,k,⟨_,_,k,⟨k,k,k,k⟩,k⟩⟩⟩,k⟩⟩ k<|hI k k k<|hX ⟨_,k,k,.inl ⟨zD v5 k,cG.plainO _⟩⟩ k<|trivial) k))<|rg<|ae (bW k k) k<|am k k<|an ?_
   refine tn ?_
   obtain rfl:=so h
   exact ⟨_,k,(aE (σ:=sg [(0,0),(1,1),(2,2),(3,6)]) ⟨(e1 k k),(pE k k),(pE k k),(oE k k),(e1 k k),(e1 k k),trivial⟩ (hP k k k k<|hX ⟨_,k,k,.inr ⟨_,_,k,⟨_,_,k,k,⟨_,_,k,k,⟨_,_,k,⟨k,k,k,k⟩,k⟩⟩⟩,k⟩⟩ k<|hI k k k<|hB (cG.plainO _) k k k<|trivial) k)⟩
  ·refine aN k q3<|bH<|aH<|aH ?_
   obtain rfl:=so h
   exact ⟨_,k,k,(aE (σ:=sg [(0,0),(1,3)]) ⟨(e1 k k),(pE k k),(oE k k),trivial⟩ (hP k k k k<|hB (cG.plainO _) k k k<|trivial) k)⟩
 ·rintro e t ⟨rfl,hent⟩
  refine aX<|tn<|aO hent<|sQ<|rg<|am k k<|am k k<|ae (cQ aA k k k k k k) k<|ae (bP aA k k k k k k k k) k<|an ?_
  refine tn<|aK ?_
  obtain rfl:=so h
  exact aT k k k (qI (cC (k) (cC (jD cG k k) hZ)))
def qB (a1:(List (List Int))) (x1:((List Int)×Int)):Option (((List Int)×Int) ⊕ (List Int)):=
 bif decide (x1.2<(a1.length:Int)) then
 (Option.bind (dX a1 x1.2) fun v2=>
 bif decide (x1.1.length+v2.length≤4294967296) then
 (some (.inl ((x1.1++v2),wr (x1.2+1))))
 else none)
 else
 (some (.inr x1.1))
def kU (a0:Int) (a1:(List (List Int))):Option Mt:=
 Option.bind (Lp (qB a1) ([],0)) fun y4=>
 some ((⟨(a1.length:Int),a0,y4⟩:Mt))
theorem aCC (a0:Int) (a1:(List (List Int))) (r:Mt) (h:kU a0 a1=some r):HasC Tryz.prog 157 [.int a0,.list 1 (List.map (cU 1 eI) a1)] (.agg (eM r)):=by
 refine bN aA (rvs:=[.cell 4 113]) (ns:=[0,1,2,3,4,5]) Tryz.func157 k k Tryz.ntmps157 k k k<|sQ<|rg<|ae (cA aA k k) k<|an<|tn<|sQ<|rg<|am k k<|ae (dG aA k k k) k ?_
 refine am k k<|ae (cQ aA k k k k k k) k<|ae (cA aA k k) k<|ae (bP aA k k k k k k k k) k<|an<|tn<|sQ<|sQ<|rg<|aa k k ?_
 refine an<|tn<|aL ?_
 obtain ⟨y4,hy4,h⟩:=ob h
 refine cV (body:=(qB a1)) hy4 (fun (x1:((List Int)×Int))=>bU [(1,.list 1 (List.map (cU 1 eI) a1)),(4,.ptr 0 0 0),(5,.ptr 1 0 0),(6,.int x1.2)] [(0,⟨3,[[.int 0,.int 0,.nil 1]]⟩),(1,⟨3,[[.int (a1.length:Int),.int a0,.own 2 0 x1.1.length]]⟩),(2,⟨1,List.map (ow eI) x1.1⟩)] 3 [3,4,5]) (fun r e t=>e= .exit 0∧Ent t (bU [(4,.ptr 0 0 0),(5,.ptr 1 0 0)] [(0,⟨3,[[.int 0,.int 0,.nil 1]]⟩),(1,⟨3,[[.int (a1.length:Int),.int a0,.own 2 0 r.length]]⟩),(2,⟨1,List.map (ow eI) r⟩)] 3 [3,4,5])) (aE (σ:=sg [(0,0),(1,1)]) ⟨⟨_,k,⟨k,k⟩⟩,(pE k k),(pE k k),(e1 k k),trivial⟩ (hP k k k k<|hX ⟨_,k,k,.inr ⟨_,_,k,⟨_,_,k,k,⟨_,_,k,k,⟨_,_,k,⟨k,k,k,k⟩,k⟩⟩⟩,k⟩⟩ k<|hX k k<|trivial) k) ?_ ?_
 ·intro x1 o h
  refine sQ<|sQ<|rg<|am k k<|am k k<|ae (dG aA k k k) k<|ae (bD k k k) k<|an<|tn ?_
  rcases cb h with ⟨q1,h⟩|⟨q1,h⟩
  ·refine aJ k q1<|aR<|tn<|sQ<|aL<|aZ kR<|ae (aD aA k k k k k k k) k<|ae (aC aA k k k k k k k) k<|am k k<|am k k ?_
   obtain ⟨v2,hv2,h⟩:=ob h
   refine ae (bJ aA hv2 k k k k k k) k<|ae (aW aA k k k k k k) k ?_
   obtain ⟨q3,h⟩:=cg h
   refine ae (xI aA (l:=x1.1) (m:=v2) uJ q3 k k k k k k k k k k k k) k<|ae (aD aA k k k k k k k) k<|ae (bP aA k k k k k k k k) k<|an ?_
   refine ⟨by kernel_rfl,?_⟩
   refine bF<|tn<|aO (t:=bU [(1,.list 1 (List.map (cU 1 eI) a1)),(4,.ptr 0 0 0),(5,.ptr 1 0 0),(6,.int x1.2)] [(0,⟨3,[[.int 0,.int 0,.nil 1]]⟩),(1,⟨3,[[.int (a1.length:Int),.int a0,.own 3 0 ((x1.1++v2).length)]]⟩),(3,⟨1,List.map (ow eI) (x1.1++v2)⟩)] 4 [4,5]) (aE (σ:=sg [(0,0),(1,1),(3,3)]) ⟨⟨_,k,⟨k,k⟩⟩,(pE k k),(pE k k),(e1 k k),trivial⟩ (hP k k k k<|hX ⟨_,k,k,.inr ⟨_,_,k,⟨_,_,k,k,⟨_,_,k,k,⟨_,_,k,⟨k,k,k,k⟩,k⟩⟩⟩,k⟩⟩ k<|hI k k k<|trivial) k)<|rg<|am k k<|ae (bW k k) k<|aa k k<|an<|tn ?_
   obtain rfl:=so h
   exact ⟨_,k,(aE (σ:=sg [(0,0),(1,1),(2,3)]) ⟨⟨_,k,⟨k,k⟩⟩,(pE k k),(pE k k),(e1 k k),trivial⟩ (hP k k k k<|hX ⟨_,k,k,.inr ⟨_,_,k,⟨_,_,k,k,⟨_,_,k,k,⟨_,_,k,⟨k,k,k,k⟩,k⟩⟩⟩,k⟩⟩ k<|hI k k k<|trivial) k)⟩
  ·refine aN k q1<|bH<|aH<|aH ?_
   obtain rfl:=so h
   exact ⟨_,k,k,(aE (σ:=sg [(0,0),(1,1),(2,2)]) ⟨(pE k k),(pE k k),trivial⟩ (hP k k k k<|hX ⟨_,k,k,.inr ⟨_,_,k,⟨_,_,k,k,⟨_,_,k,k,⟨_,_,k,⟨k,k,k,k⟩,k⟩⟩⟩,k⟩⟩ k<|hI k k k<|trivial) k)⟩
 ·rintro e t ⟨rfl,hent⟩
  refine aX<|tn<|aO hent<|sQ<|rg<|ae (aC aA k k k k k k k) k<|ae (bP aA k k k k k k k k) k<|an<|tn<|aK ?_
  obtain rfl:=so h
  exact aT k k k (qI (cC (k) (cC (k) (cC (jD dK k k) hZ))))
def oU (v1:(Mt×(List Int))) (x1:((List (List Int))×Int)):Option (((List (List Int))×Int) ⊕ (List (List Int))):=
 bif decide (x1.2<((v1.2.length:Nat):Int)) then
 (bif (decide (0≤wr (x1.2*v1.1.cols))&&(decide (wr (x1.2*v1.1.cols)≤wr ((wr (x1.2*v1.1.cols))+v1.1.cols))&&decide (wr ((wr (x1.2*v1.1.cols))+v1.1.cols)≤((v1.1.cells.length:Nat):Int)))) then
 (bif decide (([]:(List Int)).length +((v1.1.cells.drop (0+(wr (x1.2*v1.1.cols)).toNat)).take ((wr ((wr (x1.2*v1.1.cols))+v1.1.cols)).toNat - (wr (x1.2*v1.1.cols)).toNat)).length ≤4294967296) then
 (bif decide (x1.1.length+1≤4294967296) then
 (some (.inl ((x1.1++[(([]:(List Int))++((v1.1.cells.drop (0+(wr (x1.2*v1.1.cols)).toNat)).take ((wr ((wr (x1.2*v1.1.cols))+v1.1.cols)).toNat - (wr (x1.2*v1.1.cols)).toNat)))]),wr (x1.2+1))))
 else none)
 else none)
 else none)
 else
 (some (.inr x1.1))
def jK (a0:Int) (a1:Mt):Option (List (List Int)):=
 Option.bind (kE a0 a1) fun v1=>
 Option.bind (Lp (oU v1) (([]:(List (List Int))),0)) fun y6=>
 some (y6)
theorem aBJ (a0:Int) (a1:Mt) (r:(List (List Int))) (h:jK a0 a1=some r):HasC Tryz.prog 182 [.int a0,.agg (eM a1)] (.list 1 (List.map (cU 1 eI) r)):=by
 refine bN aA (rvs:=[.tmp 4]) (ns:=[0,1,2,3,4,5,6,7,8,9]) Tryz.func182 k k Tryz.ntmps182 k k k<|sQ<|rg<|ae (cD k k k k) k<|aa k k<|an<|tn<|sQ<|rg<|am k k ?_
 refine ae (aC aA k k k k k k k) k ?_
 obtain ⟨v1,hv1,h⟩:=ob h
 refine ae (AEff.conv (dC (x:= .tuple [.agg [.int v1.1.rows,.int v1.1.cols,.own 1 0 (List.map eI v1.1.cells).length],.own 2 0 (List.map eI v1.2).length]) (nb:=[(1,⟨1,cJ (List.map eI v1.1.cells)⟩),(2,⟨1,cJ (List.map eI v1.2)⟩)]) (aFX a0 a1 v1 hv1) k (by rfl) k k (iI (bZ trivial (bZ trivial (bZ (dK.good _) gQ))) (iI (dK.good _) zB)) (aG (aM k) (aG (cE (aU (aY k) (aU (aY k) (aU (aY k) cR)))) bG))) (v':= .tuple [.agg [.int v1.1.rows,.int v1.1.cols,.own 1 0 v1.1.cells.length],.own 2 0 v1.2.length]) (ed':=[(1,some ⟨1,List.map (ow eI) v1.1.cells⟩),(2,some ⟨1,List.map (ow eI) v1.2⟩)]) (by simp only [bC]) (eN (nb':=[(1,⟨1,List.map (ow eI) v1.1.cells⟩),(2,⟨1,List.map (ow eI) v1.2⟩)]) (by simp only [cO]))) k<|am k k<|ae (bO k k (by intro _ h;cases h)) k<|ae (bO k k (by intro _ h;cases h)) k<|ae (cA aA k k) k<|ae (bP aA k k k k k k k k) k<|aa k k<|an<|tn<|sQ ?_
 refine rg<|ae (cW aA k k k k k k k k k k k k) k<|aa k k<|an<|tn<|aO (t:=bU [(5,.ptr 3 0 0),(6,.own 2 0 v1.2.length),(7,.own 4 0 (([]:(List (List Int))).length))] [(1,⟨1,List.map (ow eI) v1.1.cells⟩),(2,⟨1,List.map (ow eI) v1.2⟩),(3,⟨3,[[.int v1.1.rows,.int v1.1.cols,.own 1 0 v1.1.cells.length]]⟩),(4,⟨1,List.map (ow (cU 1 eI)) ([]:(List (List Int)))⟩)] 5 [5,6,7,8,9]) (aE (σ:=sg [(1,1),(2,2),(3,3),(4,4)]) ⟨(pE k k),(oE k k),⟨_,k,⟨k,k,(by simp only [bC,lA,lT,lR,lC,lN]),k⟩⟩,trivial⟩ (hI k k k<|hI k k k<|hX ⟨_,k,k,.inr ⟨_,_,k,⟨_,_,k,k,⟨_,_,k,k,⟨_,_,k,⟨k,k,k,k⟩,k⟩⟩⟩,k⟩⟩ k<|hB (cG.plainO _) k k k<|trivial) k)<|sQ<|sQ<|rg<|aa k k ?_
 refine an<|tn<|aL ?_
 obtain ⟨y6,hy6,h⟩:=ob h
 refine cV (body:=(oU v1)) hy6 (fun (x1:((List (List Int))×Int))=>bU [(5,.ptr 0 0 0),(6,.own 2 0 v1.2.length),(7,.own 3 0 x1.1.length),(8,.int x1.2)] [(0,⟨3,[[.int v1.1.rows,.int v1.1.cols,.own 1 0 v1.1.cells.length]]⟩),(1,⟨1,List.map (ow eI) v1.1.cells⟩),(2,⟨1,List.map (ow eI) v1.2⟩),(3,⟨1,List.map (ow (cU 1 eI)) x1.1⟩)] 4 [4,5,6,7,8,9]) (fun r e t=>e= .exit 0∧Ent t (bU [(7,.own 0 0 r.length)] [(0,⟨1,List.map (ow (cU 1 eI)) r⟩)] 1 [1,2,3,4,5,6,7,8,9])) (aE (σ:=sg [(0,3),(1,1),(2,2),(3,4)]) ⟨(pE k k),(oE k k),(oE k k),(e1 k k),trivial⟩ (hX ⟨_,k,k,.inr ⟨_,_,k,⟨_,_,k,k,⟨_,_,k,k,⟨_,_,k,⟨k,k,k,k⟩,k⟩⟩⟩,k⟩⟩ k<|hI k k k<|hI k k k<|hB (cG.plainO _) k k k<|trivial) k) ?_ ?_
 ·intro x1 o h
  refine sQ<|sQ<|rg<|am k k<|am k k<|ae (bV aA k k k k) k<|ae (bD k k k) k<|an<|tn ?_
  rcases cb h with ⟨q2,h⟩|⟨q2,h⟩
  ·refine aJ k q2<|aR<|tn<|sQ<|aL<|rg<|am k k<|ae (cW aA k k k k k k k k k k k k) k<|ae (aD aA k k k k k k k) k<|ae (aC aA k k k k k k k) k ?_
   refine am k k<|ae (aD aA k k k k k k k) k<|ae (aC aA k k k k k k k) k<|ae (gN k k) k<|am k k<|ae (aD aA k k k k k k k) k<|ae (aC aA k k k k k k k) k<|ae (gN k k) k<|ae (aD aA k k k k k k k) k<|ae (aC aA k k k k k k k) k ?_
   refine ae (bW k k) k ?_
   obtain ⟨q3,h⟩:=cg h
   refine ae (yO aA (l:=wr (x1.2*v1.1.cols)) (h:=wr ((wr (x1.2*v1.1.cols))+v1.1.cols)) q3 k k k k k k k k) k ?_
   obtain ⟨q4,h⟩:=cg h
   refine ae (xI aA (l:=([]:(List Int))) (m:=((v1.1.cells.drop (0+(wr (x1.2*v1.1.cols)).toNat)).take ((wr ((wr (x1.2*v1.1.cols))+v1.1.cols)).toNat - (wr (x1.2*v1.1.cols)).toNat))) uJ q4 k k k k k (aPA dK k) k k k k k k) k<|ae (cW aA k k k k k k k k k k k k) k ?_
   obtain ⟨q5,h⟩:=cg h
   refine ae (tL aA (l:=x1.1) (c:=[.own 5 0 ((([]:(List Int))++((v1.1.cells.drop (0+(wr (x1.2*v1.1.cols)).toNat)).take ((wr ((wr (x1.2*v1.1.cols))+v1.1.cols)).toNat - (wr (x1.2*v1.1.cols)).toNat))).length)]) q5 k k k k k k k k k k k k k k) k<|aa k k<|an<|bF<|tn<|aO (t:=bU [(5,.ptr 0 0 0),(6,.own 2 0 v1.2.length),(7,.own 7 0 ((x1.1++[(([]:(List Int))++((v1.1.cells.drop (0+(wr (x1.2*v1.1.cols)).toNat)).take ((wr ((wr (x1.2*v1.1.cols))+v1.1.cols)).toNat - (wr (x1.2*v1.1.cols)).toNat)))]).length)),(8,.int x1.2)] [(0,⟨3,[[.int v1.1.rows,.int v1.1.cols,.own 1 0 v1.1.cells.length]]⟩),(1,⟨1,List.map (ow eI) v1.1.cells⟩),(2,⟨1,List.map (ow eI) v1.2⟩),(7,⟨1,List.map (ow (cU 1 eI)) (x1.1++[(([]:(List Int))++((v1.1.cells.drop (0+(wr (x1.2*v1.1.cols)).toNat)).take ((wr ((wr (x1.2*v1.1.cols))+v1.1.cols)).toNat - (wr (x1.2*v1.1.cols)).toNat)))])⟩)] 8 [8,9]) (Ent.trans (tK (b:=7) (b':=5) (j:=0) (es':=List.map eI (([]:(List Int))++((v1.1.cells.drop (0+(wr (x1.2*v1.1.cols)).toNat)).take ((wr ((wr (x1.2*v1.1.cols))+v1.1.cols)).toNat - (wr (x1.2*v1.1.cols)).toNat)))) k k k k (bC _ _) (dK.frzs _)) (aE (σ:=sg [(0,0),(1,1),(2,2),(7,7)]) ⟨(pE k k),(oE k k),⟨_,k,⟨k,k,(by simp only [bC,lA,lT,lR,lC,lN]),k⟩⟩,(e1 k k),trivial⟩ (hX ⟨_,k,k,.inr ⟨_,_,k,⟨_,_,k,k,⟨_,_,k,k,⟨_,_,k,⟨k,k,k,k⟩,k⟩⟩⟩,k⟩⟩ k<|hI k k k<|hI k k k<|hX ⟨_,k,k,.inl ⟨zD (([]:(List Int))++((v1.1.cells.drop (0+(wr (x1.2*v1.1.cols)).toNat)).take ((wr ((wr (x1.2*v1.1.cols))+v1.1.cols)).toNat - (wr (x1.2*v1.1.cols)).toNat))) k,cG.plainO _⟩⟩ k<|trivial) k)) ?_
   refine rg<|am k k<|ae (bW k k) k<|aa k k<|an<|tn ?_
   obtain rfl:=so h
   exact ⟨_,k,(aE (σ:=sg [(0,0),(1,1),(2,2),(3,7)]) ⟨(pE k k),(oE k k),(oE k k),(e1 k k),trivial⟩ (hX ⟨_,k,k,.inr ⟨_,_,k,⟨_,_,k,k,⟨_,_,k,k,⟨_,_,k,⟨k,k,k,k⟩,k⟩⟩⟩,k⟩⟩ k<|hI k k k<|hI k k k<|hB (cG.plainO _) k k k<|trivial) k)⟩
  ·refine aN k q2<|bH<|aH<|aH ?_
   obtain rfl:=so h
   exact ⟨_,k,k,(aE (σ:=sg [(0,3)]) ⟨(oE k k),trivial⟩ (hB (cG.plainO _) k k k<|trivial) k)⟩
 ·rintro e t ⟨rfl,hent⟩
  refine aX<|tn<|aO hent<|sQ<|rg<|am k k<|aa k k<|an<|tn<|aK ?_
  obtain rfl:=so h
  exact aT k k k (qU (jD cG k k))
def qQ (a0:Int) (a1:Int) (a2:(List (List Int))):Option Sc:=
 Option.bind (kU a1 a2) fun v1=>
 Option.bind (jK a0 v1) fun v2=>
 some ((⟨a1,v2⟩:Sc))
theorem aCD (a0:Int) (a1:Int) (a2:(List (List Int))) (r:Sc) (h:qQ a0 a1 a2=some r):HasC Tryz.prog 184 [.int a0,.int a1,.list 1 (List.map (cU 1 eI) a2)] (.agg (eS r)):=by
 refine bN aA (rvs:=[.cell 6 99]) (ns:=[0,1,2,3,4]) Tryz.func184 k k Tryz.ntmps184 k k k<|sQ<|rg<|ae (cA aA k k) k<|an<|tn<|sQ<|rg<|am k k<|am k k ?_
 refine am k k<|am k k ?_
 obtain ⟨v1,hv1,h⟩:=ob h
 refine ae (AEff.conv (dC (x:= .agg [.int v1.rows,.int v1.cols,.own 1 0 (List.map eI v1.cells).length]) (nb:=[(1,⟨1,cJ (List.map eI v1.cells)⟩)]) (aCC a1 a2 v1 hv1) k (by rfl) k k (bZ trivial (bZ trivial (bZ (dK.good _) gQ))) (aG (aM k) (aG (aM k) bG))) (v':= .agg [.int v1.rows,.int v1.cols,.own 1 0 v1.cells.length]) (ed':=[(1,some ⟨1,List.map (ow eI) v1.cells⟩)]) (by simp only [bC]) (eN (nb':=[(1,⟨1,List.map (ow eI) v1.cells⟩)]) (by simp only [cO]))) k ?_
 obtain ⟨v2,hv2,h⟩:=ob h
 refine ae (AEff.conv (dC (x:= .own 2 0 (List.map (cU 1 eI) v2).length) (nb:=[(2,⟨1,cJ (List.map (cU 1 eI) v2)⟩)]) (aBJ a0 v1 v2 hv2) k (by rfl) k k (cG.good _) (aG (aM k) (aG (cE (aU (aY k) (aU (aY k) (aU (qH dK k k) cR)))) bG))) (v':= .own 2 0 v2.length) (ed':=[(2,some ⟨1,List.map (ow (cU 1 eI)) v2⟩)]) (by simp only [bC]) (eN (nb':=[(2,⟨1,List.map (ow (cU 1 eI)) v2⟩)]) (by simp only [cO]))) k<|ae (cQ aA k k k k k k) k<|ae (bP aA k k k k k k k k) k<|an<|tn<|aK ?_
 obtain rfl:=so h
 exact aT k k k (qI (cC (k) (cC (jD cG k k) hZ)))
def lE (a0:(List Int)) (a1:Int) (a2:Int):Option Bool:=
 bif !decide ((a0.length:Int)=a1) then
 (some (true))
 else
 (Option.bind (nK a2 a0) fun v2=>
 some (!v2))
theorem aBp (a0:(List Int)) (a1:Int) (a2:Int) (r:Bool) (h:lE a0 a1 a2=some r):HasC Tryz.prog 257 [.list 1 (List.map eI a0),.ref (eI a1),.ref (eI a2)] (.bl r):=by
 refine bN aA (rvs:=[.tmp 4]) (ns:=[0,1]) Tryz.func257 k k Tryz.ntmps257 k k k<|sQ<|rg<|aa k k<|an<|tn<|sQ<|rg<|am k k<|ae (dG aA k k k) k ?_
 refine ae (aW aA k k k k k k) k<|ae (bD k k k) k<|am k k ?_
 rcases cb h with ⟨q1,h⟩|⟨q1,h⟩
 ·refine bA 9 k q1<|ak k k<|ak k k<|ak k k<|ak k k<|ae (aP k k) k<|aa k k<|an<|tn<|aO (t:=bU [(4,.bl true)] [] 0 [0,1]) (aE (σ:=sg []) ⟨(e1 k k),trivial⟩ trivial k) ?_
  refine aK ?_
  obtain rfl:=so h
  exact aT k k k (bT k)
 ·refine bA 9 k q1<|ae (aW aA k k k k k k) k<|am k k ?_
  obtain ⟨v2,hv2,h⟩:=ob h
  refine ae (bE (aAj a2 a0 v2 hv2) k (aG (aM k) (aG (aM k) bG))) k<|ae (cH k) k<|ae (aP k k) k<|aa k k<|an<|tn<|aO (t:=bU [(4,.bl (!v2))] [] 0 [0,1]) (aE (σ:=sg []) ⟨(e1 k k),trivial⟩ trivial k)<|aK ?_
  obtain rfl:=so h
  exact aT k k k (bT k)
def oV (a0:Int) (a1:Int) (a2:(List (List Int))):Option Bool:=
 Option.bind (gY a1 0 8) fun v1=>
 bif v1 then
 (bif decide ((a2.length:Int)≤16) then
 (Option.bind (eG a2 (fun b0=>lE b0 a1 a0)) fun v4=>
 some (!v4))
 else
 (some (false)))
 else
 (some (false))
theorem aDa (a0:Int) (a1:Int) (a2:(List (List Int))) (r:Bool) (h:oV a0 a1 a2=some r):HasC Tryz.prog 231 [.int a0,.int a1,.list 1 (List.map (cU 1 eI) a2)] (.bl r):=by
 refine bN aA (rvs:=[.tmp 6]) (ns:=[0,1,2,3]) Tryz.func231 k k Tryz.ntmps231 k k k<|sQ<|rg<|ae (cD k k k k) k<|ae (cD k k k k) k<|aa k k<|an<|tn<|sQ<|rg ?_
 refine ae (aC aA k k k k k k k) k ?_
 obtain ⟨v1,hv1,h⟩:=ob h
 refine ae (bE (kS a1 0 8 v1 hv1) k (aG (aM k) (aG (aM k) (aG (aM k) bG)))) k<|am k k ?_
 rcases cb h with ⟨q2,h⟩|⟨q2,h⟩
 ·refine bA 9 k q2<|am k k<|ae (dG aA k k k) k<|ae (bD k k k) k<|ae (aP k k) k<|am k k ?_
  rcases cb h with ⟨q3,h⟩|⟨q3,h⟩
  ·refine bA 14 k q3<|am k k<|ae (aAO (vs:=[.ptr 1 0 0,.ptr 0 0 0]) k (by simp)) k ?_
   obtain ⟨v4,hv4,h⟩:=ob h
   refine ae (bE (kN a2 (fun b0=>lE b0 a1 a0) k (fun b0 r h=>aBp b0 a1 a0 r h) v4 hv4) k (aG (aM k) (aG (aIT (aBb (aEP k k (aU (aY k) cR)) (aBb (aEP k k (aU (aY k) cR)) aBa))) bG))) k<|ae (cH k) k<|ae (aP k k) k<|aa k k<|an<|tn<|aO (t:=bU [(6,.bl (!v4))] [] 2 [2,3]) (aE (σ:=sg []) ⟨(e1 k k),trivial⟩ trivial k)<|aK ?_
   obtain rfl:=so h
   exact aT k k k (bT k)
  ·refine bA 14 k q3<|ak k k<|ak k k<|ak k k<|ak k k<|ae (aP k k) k<|aa k k<|an<|tn<|aO (t:=bU [(6,.bl false)] [] 2 [2,3]) (aE (σ:=sg []) ⟨(e1 k k),trivial⟩ trivial k) ?_
   refine aK ?_
   obtain rfl:=so h
   exact aT k k k (bT k)
 ·refine bA 9 k q2<|ak k k<|ak k k<|ak k k<|ae (aP k k) k<|am k k<|ak k k<|ak k k<|ak k k<|ak k k ?_
  refine ae (aP k k) k<|aa k k<|an<|tn<|aO (t:=bU [(6,.bl false)] [] 2 [2,3]) (aE (σ:=sg []) ⟨(e1 k k),trivial⟩ trivial k)<|aK ?_
  obtain rfl:=so h
  exact aT k k k (bT k)
def iD (a0:(List Int)) (a1:(List Int)):Option Bool:=
 Option.bind (lK a0 a1) fun v1=>
 some (v1)
theorem aBK (a0:(List Int)) (a1:(List Int)) (r:Bool) (h:iD a0 a1=some r):HasC Tryz.prog 259 [.list 1 (List.map eI a0),.list 1 (List.map eI a1)] (.bl r):=by
 refine bN aA (rvs:=[.tmp 4]) (ns:=[0,1]) Tryz.func259 k k Tryz.ntmps259 k k k<|sQ<|rg<|aa k k<|an<|tn<|sQ<|rg<|am k k<|am k k ?_
 obtain ⟨v1,hv1,h⟩:=ob h
 refine ae (bE (aAE a0 a1 v1 hv1) k (aG (aM k) (aG (aM k) bG))) k<|aa k k<|an<|tn<|aK ?_
 obtain rfl:=so h
 exact aT k k k (bT k)
def dO (a0:(List (List Int))) (a1:(List (List Int))) (a2:((List Int)→(List Int)→Option Bool)) (x1:Int):Option (Int ⊕ (Unit ⊕ Bool)):=
 bif decide (x1<(a0.length:Int)) then
 (Option.bind (dX a0 x1) fun v3=>
 Option.bind (dX a1 x1) fun v4=>
 Option.bind (a2 v3 v4) fun v5=>
 bif !v5 then
 (some (.inr (.inr (false))))
 else
 (some (.inl (wr (x1+1)))))
 else
 (some (.inr (.inl ())))
def dZ (a0:(List (List Int))) (a1:(List (List Int))) (a2:((List Int)→(List Int)→Option Bool)):Option Bool:=
 bif !decide ((a0.length:Int)=(a1.length:Int)) then
 (some (false))
 else
 (Option.bind (Lp (dO a0 a1 a2) 0) fun y7=>
 Sum.elim (fun y8=>
 some (true)
 )
 (fun y9=>
 some y9
 )
 y7)
theorem oC (a0:(List (List Int))) (a1:(List (List Int))) (a2:((List Int)→(List Int)→Option Bool)) {f2:FuncId} {c2:List AV} (hc2:c2.all eP=true) (hf2: ∀ b0 b1 r,a2 b0 b1=some r→HasC Tryz.prog f2 ([.list 1 (List.map eI b0),.list 1 (List.map eI b1)]++c2) (.bl r)) (r:Bool) (h:dZ a0 a1 a2=some r):HasC Tryz.prog 258 [.list 1 (List.map (cU 1 eI) a0),.list 1 (List.map (cU 1 eI) a1),.fn f2 c2] (.bl r):=by
 refine bN aA (rvs:=[.tmp 6]) (ns:=[0,1]) Tryz.func258 k k Tryz.ntmps258 k k (oN k (oN k (oN hc2 aEV)))<|sQ<|rg<|aa k k<|an<|tn<|sQ<|sQ<|rg<|am k k ?_
 refine ae (dG aA k k k) k<|am k k<|ae (dG aA k k k) k<|ae (bD k k k) k<|an<|tn ?_
 rcases cb h with ⟨q1,h⟩|⟨q1,h⟩
 ·refine aJ k q1<|sQ<|rg<|aa k k<|an<|tn<|aK<|aI ?_
  obtain rfl:=so h
  exact aT k k k (bT k)
 ·refine aN k q1<|aR<|tn<|sQ<|sQ<|rg<|am k k<|ae (dG aA k k k) k<|am k k<|an ?_
  refine tn<|aL ?_
  obtain ⟨y7,hy7,h⟩:=ob h
  refine cV (body:=(dO a0 a1 a2)) hy7 (fun (x1:Int)=>bU [(1,.list 1 (List.map (cU 1 eI) a1)),(2,.fn f2 c2),(15,.list 1 (List.map (cU 1 eI) a0)),(16,.int (a0.length:Int)),(17,.int x1)] [] 0 [0,1]) (fun r e t=>Sum.elim (fun a=>(fun r e t=>e= .exit 0∧Ent t (bU [] [] 0 [0,1])) a e t) (fun b=>(fun r e t=>e= .ret∧nZ TT [.tmp 6] (.bl r) .ret t) b e t) r) (aE (σ:=sg []) ⟨⟨_,k,⟨k,k⟩⟩,⟨_,k,⟨k,nP _ hc2⟩⟩,⟨_,k,⟨k,k⟩⟩,(e1 k k),(e1 k k),trivial⟩ trivial k) ?_ ?_
  ·intro x1 o h
   refine sQ<|rg<|ae (bD k k k) k<|an<|tn<|sQ ?_
   rcases cb h with ⟨q2,h⟩|⟨q2,h⟩
   ·refine aJ k q2<|aR<|tn<|sQ<|aL<|sQ<|rg<|am k k ?_
    obtain ⟨v3,hv3,h⟩:=ob h
    refine ae (bJ aA hv3 k k k k k k) k<|ae (aW aA k k k k k k) k<|aa k k<|aa k k<|an<|tn<|sQ<|rg<|am k k<|am k k ?_
    obtain ⟨v4,hv4,h⟩:=ob h
    refine ae (bJ aA hv4 k k k k k k) k<|ae (aW aA k k k k k k) k<|aa k k<|an<|tn<|sQ<|rg<|am k k<|am k k<|am k k ?_
    obtain ⟨v5,hv5,h⟩:=ob h
    refine ae (aDI hc2 (hf2 v3 v4 v5 hv5) k k (aG (aM k) (aG (aM k) bG))) k<|ae (cH k) k<|an<|tn<|aO (t:=bU [(1,.list 1 (List.map (cU 1 eI) a1)),(2,.fn f2 c2),(15,.list 1 (List.map (cU 1 eI) a0)),(16,.int (a0.length:Int)),(17,.int x1),(30,.bl (!v5))] [] 0 [0,1]) (aE (σ:=sg []) ⟨⟨_,k,⟨k,k⟩⟩,⟨_,k,⟨k,nP _ hc2⟩⟩,⟨_,k,⟨k,k⟩⟩,(e1 k k),(e1 k k),(e1 k k),trivial⟩ trivial k) ?_
    rcases cb h with ⟨q6,h⟩|⟨q6,h⟩
    ·refine aJ k q6<|sQ<|rg<|aa k k<|an<|tn<|aK<|bB<|aI<|aI ?_
     obtain rfl:=so h
     exact ⟨_,k,k,aT k k k (bT k)⟩
    ·refine aN k q6<|aR<|bF<|tn<|rg<|ae (bW k k) k<|am k k<|an<|tn ?_
     obtain rfl:=so h
     exact ⟨_,k,(aE (σ:=sg []) ⟨⟨_,k,⟨k,k⟩⟩,⟨_,k,⟨k,nP _ hc2⟩⟩,⟨_,k,⟨k,k⟩⟩,(e1 k k),(e1 k k),trivial⟩ trivial k)⟩
   ·refine aN k q2<|bH<|aH<|aH ?_
    obtain rfl:=so h
    exact ⟨_,k,k,(aE (σ:=sg []) trivial trivial k)⟩
  ·intro e t hX
   rcases y7 with y8|y9
   ·obtain ⟨rfl,hent⟩:=hX
    refine aX<|tn<|aO hent<|sQ<|rg<|aa k k<|an<|tn<|aK ?_
    obtain rfl:=so h
    exact aT k k k (bT k)
   ·obtain ⟨rfl,hent⟩:=hX
    refine bB<|aI ?_
    obtain rfl:=so h
    exact hent
def mR (a0:Sc) (a1:Sc):Option Bool:=
 bif decide (a0.size=a1.size) then
 (Option.bind (dZ a0.basis a1.basis (fun b0 b1=>iD b0 b1)) fun v2=>
 some (v2))
 else
 (some (false))
theorem aCW (a0:Sc) (a1:Sc) (r:Bool) (h:mR a0 a1=some r):HasC Tryz.prog 232 [.agg (eS a0),.agg (eS a1)] (.bl r):=by
 refine bN aA (rvs:=[.tmp 4]) (ns:=[0,1,2,3]) Tryz.func232 k k Tryz.ntmps232 k k k<|sQ<|rg<|ae (cD k k k k) k<|ae (cD k k k k) k<|aa k k<|an<|tn<|sQ<|rg ?_
 refine ae (aD aA k k k k k k k) k<|ae (aC aA k k k k k k k) k<|ae (aD aA k k k k k k k) k<|ae (aC aA k k k k k k k) k<|ae (bD k k k) k<|am k k ?_
 rcases cb h with ⟨q1,h⟩|⟨q1,h⟩
 ·refine bA 10 k q1<|ae (aD aA k k k k k k k) k<|ae (aC aA k k k k k k k) k<|ae (aD aA k k k k k k k) k<|ae (aC aA k k k k k k k) k ?_
  obtain ⟨v2,hv2,h⟩:=ob h
  refine ae (bE (oC a0.basis a1.basis (fun b0 b1=>iD b0 b1) k (fun b0 b1 r h=>aBK b0 b1 r h) v2 hv2) k (aG (aM k) (aG (aM k) (aG (aIT aBa) bG)))) k<|ae (aP k k) k<|aa k k<|an<|tn<|aO (t:=bU [(4,.bl v2)] [] 2 [2,3]) (aE (σ:=sg []) ⟨(e1 k k),trivial⟩ trivial k)<|aK ?_
  obtain rfl:=so h
  exact aT k k k (bT k)
 ·refine bA 10 k q1<|ak k k<|ak k k<|ak k k<|ak k k<|ak k k<|ae (aP k k) k<|aa k k<|an<|tn ?_
  refine aO (t:=bU [(4,.bl false)] [] 2 [2,3]) (aE (σ:=sg []) ⟨(e1 k k),trivial⟩ trivial k)<|aK ?_
  obtain rfl:=so h
  exact aT k k k (bT k)
def tY (a0:Int) (a1:Sc):Option Bool:=
 Option.bind (iB a0) fun v1=>
 bif !v1 then
 (some (false))
 else
 (Option.bind (oV a0 a1.size a1.basis) fun v3=>
 bif !v3 then
 (some (false))
 else
 (Option.bind (vS a0 a1.size a1.basis) fun v5=>
 Option.bind (mR v5 a1) fun v6=>
 some (v6)))
theorem aHK (a0:Int) (a1:Sc) (r:Bool) (h:tY a0 a1=some r):HasC Tryz.prog 197 [.int a0,.agg (eS a1)] (.bl r):=by
 refine bN aA (rvs:=[.tmp 4]) (ns:=[0,1,2,3]) Tryz.func197 k k Tryz.ntmps197 k k k<|sQ<|rg<|ae (cD k k k k) k<|aa k k<|an<|tn<|sQ<|sQ<|rg ?_
 refine am k k ?_
 obtain ⟨v1,hv1,h⟩:=ob h
 refine ae (bE (lM a0 v1 hv1) k (aG (aM k) bG)) k<|ae (cH k) k<|am k k ?_
 rcases cb h with ⟨q2,h⟩|⟨q2,h⟩
 ·refine bA 8 k q2<|ak k k<|ak k k<|ak k k<|ak k k<|ak k k<|ak k k<|ak k k<|ae (aP k k) k<|an ?_
  refine tn<|aO (t:=bU [(0,.int a0),(3,.ptr 0 0 0),(16,.bl true)] [(0,⟨2,[[.int a1.size,.list 1 (List.map (cU 1 eI) a1.basis)]]⟩)] 1 [1,2,3]) (aE (σ:=sg [(0,0)]) ⟨(e1 k k),(pE k k),(e1 k k),trivial⟩ (hP k k k k<|trivial) k)<|aJ k k<|sQ<|rg<|aa k k<|an<|tn<|aK<|aI ?_
  obtain rfl:=so h
  exact aT k k k (bT k)
 ·refine bA 8 k q2<|am k k<|ae (aD aA k k k k k k k) k<|ae (aC aA k k k k k k k) k<|ae (aD aA k k k k k k k) k<|ae (aC aA k k k k k k k) k ?_
  obtain ⟨v3,hv3,h⟩:=ob h
  refine ae (bE (aDa a0 a1.size a1.basis v3 hv3) k (aG (aM k) (aG (aM k) (aG (aM k) bG)))) k<|ae (cH k) k<|ae (aP k k) k<|an<|tn<|aO (t:=bU [(0,.int a0),(3,.ptr 0 0 0),(16,.bl (!v3))] [(0,⟨2,[[.int a1.size,.list 1 (List.map (cU 1 eI) a1.basis)]]⟩)] 1 [1,2,3]) (aE (σ:=sg [(0,0)]) ⟨(e1 k k),(pE k k),(e1 k k),trivial⟩ (hP k k k k<|trivial) k) ?_
  rcases cb h with ⟨q4,h⟩|⟨q4,h⟩
  ·refine aJ k q4<|sQ<|rg<|aa k k<|an<|tn<|aK<|aI ?_
   obtain rfl:=so h
   exact aT k k k (bT k)
  ·refine aN k q4<|aR<|tn<|sQ<|aZ kR<|am k k<|ae (aD aA k k k k k k k) k<|ae (aC aA k k k k k k k) k<|ae (aD aA k k k k k k k) k<|ae (aC aA k k k k k k k) k ?_
   obtain ⟨v5,hv5,h⟩:=ob h
   refine ae (AEff.conv (dC (x:= .agg [.int v5.size,.own 1 0 (List.map (cU 1 eI) v5.basis).length]) (nb:=[(1,⟨1,cJ (List.map (cU 1 eI) v5.basis)⟩)]) (aFN a0 a1.size a1.basis v5 hv5) k (by rfl) k k (bZ trivial (bZ (cG.good _) gQ)) (aG (aM k) (aG (aM k) (aG (aM k) bG)))) (v':= .agg [.int v5.size,.own 1 0 v5.basis.length]) (ed':=[(1,some ⟨1,List.map (ow (cU 1 eI)) v5.basis⟩)]) (by simp only [bC]) (eN (nb':=[(1,⟨1,List.map (ow (cU 1 eI)) v5.basis⟩)]) (by simp only [cO]))) k<|ae (aC aA k k k k k k k) k ?_
   obtain ⟨v6,hv6,h⟩:=ob h
   refine ae (bE (aCW v5 a1 v6 hv6) k (aG (cE (aU (aY k) (aU (qH cG k k) cR))) (aG (cE (aU (aY k) (aU (aY k) cR))) bG))) k<|aa k k<|an ?_
   refine ⟨by kernel_rfl,?_⟩
   refine tn<|aK ?_
   obtain rfl:=so h
   exact aT k k k (bT k)
def iY (a0:Int) (a1:Int) (a2:(List (List Int))) (x1:Int):Option (Int ⊕ (Unit ⊕ Bool)):=
 bif decide (x1<(a2.length:Int)) then
 (Option.bind (dX a2 x1) fun v2=>
 bif !decide ((v2.length:Int)=a1) then
 (some (.inr (.inr (false))))
 else
 (Option.bind (dX a2 x1) fun v4=>
 Option.bind (gP a0 v4) fun v5=>
 bif !v5 then
 (some (.inr (.inr (false))))
 else
 (some (.inl (wr (x1+1))))))
 else
 (some (.inr (.inl ())))
def nU (a0:Int) (a1:Int) (a2:(List (List Int))):Option Bool:=
 Option.bind (Lp (iY a0 a1 a2) 0) fun y7=>
 Sum.elim (fun y8=>
 Option.bind (iA a0) fun v9=>
 bif v9 then
 (Option.bind (fS a1 0 8) fun v11=>
 bif v11 then
 (some (decide ((a2.length:Int)≤16)))
 else
 (some (false)))
 else
 (some (false))
 )
 (fun y13=>
 some y13
 )
 y7
theorem aHu (a0:Int) (a1:Int) (a2:(List (List Int))) (r:Bool) (h:nU a0 a1 a2=some r):HasC Tryz.prog 180 [.int a0,.int a1,.list 1 (List.map (cU 1 eI) a2)] (.bl r):=by
 refine bN aA (rvs:=[.tmp 6]) (ns:=[0,1]) Tryz.func180 k k Tryz.ntmps180 k k k<|sQ<|rg<|aa k k<|an<|tn<|sQ<|sQ<|rg<|aa k k ?_
 refine an<|tn<|aL ?_
 obtain ⟨y7,hy7,h⟩:=ob h
 refine cV (body:=(iY a0 a1 a2)) hy7 (fun (x1:Int)=>bU [(0,.int a0),(1,.int a1),(2,.list 1 (List.map (cU 1 eI) a2)),(7,.int x1)] [] 0 [0,1]) (fun r e t=>Sum.elim (fun a=>(fun r e t=>e= .exit 0∧Ent t (bU [(0,.int a0),(1,.int a1),(2,.list 1 (List.map (cU 1 eI) a2))] [] 0 [0,1])) a e t) (fun b=>(fun r e t=>e= .ret∧nZ TT [.tmp 6] (.bl r) .ret t) b e t) r) (aE (σ:=sg []) ⟨(e1 k k),(e1 k k),⟨_,k,⟨k,k⟩⟩,(e1 k k),trivial⟩ trivial k) ?_ ?_
 ·intro x1 o h
  refine sQ<|sQ<|rg<|am k k<|am k k<|ae (dG aA k k k) k<|ae (bD k k k) k<|an<|tn ?_
  rcases cb h with ⟨q1,h⟩|⟨q1,h⟩
  ·refine aJ k q1<|aR<|tn<|sQ<|aL<|sQ<|rg<|am k k<|am k k ?_
   obtain ⟨v2,hv2,h⟩:=ob h
   refine ae (bJ aA hv2 k k k k k k) k<|ae (aW aA k k k k k k) k<|ae (dG aA k k k) k<|am k k<|ae (bD k k k) k<|am k k ?_
   rcases cb h with ⟨q3,h⟩|⟨q3,h⟩
   ·refine bA 21 k q3<|ak k k<|ak k k<|ak k k<|ak k k<|ak k k<|ak k k<|ak k k<|ae (aP k k) k<|an ?_
    refine tn<|aO (t:=bU [(0,.int a0),(1,.int a1),(2,.list 1 (List.map (cU 1 eI) a2)),(7,.int x1),(29,.bl true)] [] 0 [0,1]) (aE (σ:=sg []) ⟨(e1 k k),(e1 k k),⟨_,k,⟨k,k⟩⟩,(e1 k k),(e1 k k),trivial⟩ trivial k)<|aJ k k<|sQ<|rg<|aa k k<|an<|tn<|aK<|bB ?_
    refine aI<|aI ?_
    obtain rfl:=so h
    exact ⟨_,k,k,aT k k k (bT k)⟩
   ·refine bA 21 k q3<|am k k<|am k k<|am k k ?_
    obtain ⟨v4,hv4,h⟩:=ob h
    refine ae (bJ aA hv4 k k k k k k) k<|ae (aW aA k k k k k k) k ?_
    obtain ⟨v5,hv5,h⟩:=ob h
    refine ae (bE (wA a0 v4 v5 hv5) k (aG (aM k) (aG (aM k) bG))) k<|ae (cH k) k<|ae (aP k k) k<|an<|tn<|aO (t:=bU [(0,.int a0),(1,.int a1),(2,.list 1 (List.map (cU 1 eI) a2)),(7,.int x1),(29,.bl (!v5))] [] 0 [0,1]) (aE (σ:=sg []) ⟨(e1 k k),(e1 k k),⟨_,k,⟨k,k⟩⟩,(e1 k k),(e1 k k),trivial⟩ trivial k) ?_
    rcases cb h with ⟨q6,h⟩|⟨q6,h⟩
    ·refine aJ k q6<|sQ<|rg<|aa k k<|an<|tn<|aK<|bB<|aI<|aI ?_
     obtain rfl:=so h
     exact ⟨_,k,k,aT k k k (bT k)⟩
    ·refine aN k q6<|aR<|bF<|tn<|rg<|am k k<|ae (bW k k) k<|aa k k<|an<|tn ?_
     obtain rfl:=so h
     exact ⟨_,k,(aE (σ:=sg []) ⟨(e1 k k),(e1 k k),⟨_,k,⟨k,k⟩⟩,(e1 k k),trivial⟩ trivial k)⟩
  ·refine aN k q1<|bH<|aH<|aH ?_
   obtain rfl:=so h
   exact ⟨_,k,k,(aE (σ:=sg []) ⟨(e1 k k),(e1 k k),⟨_,k,⟨k,k⟩⟩,trivial⟩ trivial k)⟩
 ·intro e t hX
  rcases y7 with y8|y13
  ·obtain ⟨rfl,hent⟩:=hX
   refine aX<|tn<|aO hent<|sQ<|rg<|am k k ?_
   obtain ⟨v9,hv9,h⟩:=ob h
   refine ae (bE (lL a0 v9 hv9) k (aG (aM k) bG)) k<|am k k ?_
   rcases cb h with ⟨q10,h⟩|⟨q10,h⟩
   ·refine bA 32 k q10<|am k k ?_
    obtain ⟨v11,hv11,h⟩:=ob h
    refine ae (bE (gO a1 0 8 v11 hv11) k (aG (aM k) (aG (aM k) (aG (aM k) bG)))) k<|ae (aP k k) k<|am k k ?_
    rcases cb h with ⟨q12,h⟩|⟨q12,h⟩
    ·refine bA 36 k q12<|am k k<|ae (dG aA k k k) k<|ae (bD k k k) k<|ae (aP k k) k<|aa k k<|an<|tn<|aO (t:=bU [(6,.bl (decide ((a2.length:Int)≤16)))] [] 0 [0,1]) (aE (σ:=sg []) ⟨(e1 k k),trivial⟩ trivial k)<|aK ?_
     obtain rfl:=so h
     exact aT k k k (bT k)
    ·refine bA 36 k q12<|ak k k<|ak k k<|ak k k<|ae (aP k k) k<|aa k k<|an<|tn<|aO (t:=bU [(6,.bl false)] [] 0 [0,1]) (aE (σ:=sg []) ⟨(e1 k k),trivial⟩ trivial k)<|aK ?_
     obtain rfl:=so h
     exact aT k k k (bT k)
   ·refine bA 32 k q10<|ak k k<|ak k k<|ae (aP k k) k<|am k k<|ak k k<|ak k k<|ak k k<|ae (aP k k) k<|aa k k ?_
    refine an<|tn<|aO (t:=bU [(6,.bl false)] [] 0 [0,1]) (aE (σ:=sg []) ⟨(e1 k k),trivial⟩ trivial k)<|aK ?_
    obtain rfl:=so h
    exact aT k k k (bT k)
  ·obtain ⟨rfl,hent⟩:=hX
   refine bB<|aI ?_
   obtain rfl:=so h
   exact hent
def lW (a0:(List (List Int))) (a1:(List (List Int))) (x1:Int) (x2:Int):Option (Int ⊕ (Unit ⊕ Bool)):=
 Option.bind (dX a0 x1) fun v6=>
 bif decide (x2<(v6.length:Int)) then
 (Option.bind (dX a0 x1) fun v8=>
 Option.bind (dX v8 x2) fun v9=>
 Option.bind (dX a1 x1) fun v10=>
 Option.bind (dX v10 x2) fun v11=>
 bif !decide (v9=v11) then
 (some (.inr (.inr (false))))
 else
 (some (.inl (wr (x2+1)))))
 else
 (some (.inr (.inl ())))
def iZ (a0:(List (List Int))) (a1:(List (List Int))) (x1:Int):Option (Int ⊕ (Unit ⊕ Bool)):=
 bif decide (x1<(a0.length:Int)) then
 (Option.bind (dX a0 x1) fun v3=>
 Option.bind (dX a1 x1) fun v4=>
 bif !decide ((v3.length:Int)=(v4.length:Int)) then
 (some (.inr (.inr (false))))
 else
 (Option.bind (Lp (lW a0 a1 x1) 0) fun y13=>
 Sum.elim (fun y14=>
 some (.inl (wr (x1+1)))
 )
 (fun y15=>
 some (.inr (.inr y15))
 )
 y13))
 else
 (some (.inr (.inl ())))
def nV (a0:(List (List Int))) (a1:(List (List Int))):Option Bool:=
 bif !decide ((a0.length:Int)=(a1.length:Int)) then
 (some (false))
 else
 (Option.bind (Lp (iZ a0 a1) 0) fun y16=>
 Sum.elim (fun y17=>
 some (true)
 )
 (fun y18=>
 some y18
 )
 y16)
theorem aHv (a0:(List (List Int))) (a1:(List (List Int))) (r:Bool) (h:nV a0 a1=some r):HasC Tryz.prog 181 [.list 1 (List.map (cU 1 eI) a0),.list 1 (List.map (cU 1 eI) a1)] (.bl r):=by
 refine bN aA (rvs:=[.tmp 4]) (ns:=[0,1]) Tryz.func181 k k Tryz.ntmps181 k k k<|sQ<|rg<|aa k k<|an<|tn<|sQ<|sQ<|rg<|am k k ?_
 refine ae (dG aA k k k) k<|am k k<|ae (dG aA k k k) k<|ae (bD k k k) k<|an<|tn ?_
 rcases cb h with ⟨q1,h⟩|⟨q1,h⟩
 ·refine aJ k q1<|sQ<|rg<|aa k k<|an<|tn<|aK<|aI ?_
  obtain rfl:=so h
  exact aT k k k (bT k)
 ·refine aN k q1<|aR<|tn<|sQ<|sQ<|rg<|aa k k<|an<|tn<|aL ?_
  obtain ⟨y16,hy16,h⟩:=ob h
  refine cV (body:=(iZ a0 a1)) hy16 (fun (x1:Int)=>bU [(0,.list 1 (List.map (cU 1 eI) a0)),(1,.list 1 (List.map (cU 1 eI) a1)),(5,.int x1)] [] 0 [0,1]) (fun r e t=>Sum.elim (fun a=>(fun r e t=>e= .exit 0∧Ent t (bU [] [] 0 [0,1])) a e t) (fun b=>(fun r e t=>e= .ret∧nZ TT [.tmp 4] (.bl r) .ret t) b e t) r) (aE (σ:=sg []) ⟨⟨_,k,⟨k,k⟩⟩,⟨_,k,⟨k,k⟩⟩,(e1 k k),trivial⟩ trivial k) ?_ ?_
  ·intro x1 o h
   refine sQ<|sQ<|rg<|am k k<|am k k<|ae (dG aA k k k) k<|ae (bD k k k) k<|an<|tn ?_
   rcases cb h with ⟨q2,h⟩|⟨q2,h⟩
   ·refine aJ k q2<|aR<|tn<|sQ<|aL<|sQ<|sQ<|aZ kR<|am k k<|am k k ?_
    obtain ⟨v3,hv3,h⟩:=ob h
    refine ae (bJ aA hv3 k k k k k k) k<|ae (aW aA k k k k k k) k<|ae (dG aA k k k) k<|am k k<|am k k ?_
    obtain ⟨v4,hv4,h⟩:=ob h
    refine ae (bJ aA hv4 k k k k k k) k<|ae (aW aA k k k k k k) k<|ae (dG aA k k k) k<|ae (bD k k k) k<|an ?_
    refine ⟨by kernel_rfl,?_⟩
    refine tn<|aO (t:=bU [(0,.list 1 (List.map (cU 1 eI) a0)),(1,.list 1 (List.map (cU 1 eI) a1)),(5,.int x1),(28,.bl (!decide ((v3.length:Int)=(v4.length:Int))))] [] 0 [0,1]) (aE (σ:=sg []) ⟨⟨_,k,⟨k,k⟩⟩,⟨_,k,⟨k,k⟩⟩,(e1 k k),(e1 k k),trivial⟩ trivial k) ?_
    rcases cb h with ⟨q5,h⟩|⟨q5,h⟩
    ·refine aJ k q5<|sQ<|rg<|aa k k<|an<|tn<|aK<|aI<|bB<|aI ?_
     refine aI ?_
     obtain rfl:=so h
     exact ⟨_,k,k,aT k k k (bT k)⟩
    ·refine aN k q5<|aR<|tn<|sQ<|rg<|aa k k<|an<|tn<|aL ?_
     obtain ⟨y13,hy13,h⟩:=ob h
     refine cV (body:=(lW a0 a1 x1)) hy13 (fun (x2:Int)=>bU [(0,.list 1 (List.map (cU 1 eI) a0)),(1,.list 1 (List.map (cU 1 eI) a1)),(5,.int x1),(6,.int x2)] [] 0 [0,1]) (fun r e t=>Sum.elim (fun a=>(fun r e t=>e= .exit 2∧Ent t (bU [(0,.list 1 (List.map (cU 1 eI) a0)),(1,.list 1 (List.map (cU 1 eI) a1)),(5,.int x1)] [] 0 [0,1])) a e t) (fun b=>(fun r e t=>e= .ret∧nZ TT [.tmp 4] (.bl r) .ret t) b e t) r) (aE (σ:=sg []) ⟨⟨_,k,⟨k,k⟩⟩,⟨_,k,⟨k,k⟩⟩,(e1 k k),(e1 k k),trivial⟩ trivial k) ?_ ?_
     ·intro x2 o h
      refine sQ<|sQ<|rg<|am k k<|am k k<|am k k ?_
      obtain ⟨v6,hv6,h⟩:=ob h
      refine ae (bJ aA hv6 k k k k k k) k<|ae (aW aA k k k k k k) k<|ae (dG aA k k k) k<|ae (bD k k k) k<|an<|tn ?_
      rcases cb h with ⟨q7,h⟩|⟨q7,h⟩
      ·refine aJ k q7<|aR<|tn<|sQ<|aL<|sQ<|aZ kR<|am k k<|am k k ?_
       obtain ⟨v8,hv8,h⟩:=ob h
       refine ae (bJ aA hv8 k k k k k k) k<|ae (aW aA k k k k k k) k<|am k k ?_
       obtain ⟨v9,hv9,h⟩:=ob h
       refine ae (bJ aA hv9 k k k k k k) k<|ae (aW aA k k k k k k) k<|am k k<|am k k ?_
       obtain ⟨v10,hv10,h⟩:=ob h
       refine ae (bJ aA hv10 k k k k k k) k<|ae (aW aA k k k k k k) k<|am k k ?_
       obtain ⟨v11,hv11,h⟩:=ob h
       refine ae (bJ aA hv11 k k k k k k) k<|ae (aW aA k k k k k k) k<|ae (bD k k k) k<|an ?_
       refine ⟨by kernel_rfl,?_⟩
       refine tn<|aO (t:=bU [(0,.list 1 (List.map (cU 1 eI) a0)),(1,.list 1 (List.map (cU 1 eI) a1)),(5,.int x1),(6,.int x2),(52,.bl (!decide (v9=v11)))] [] 0 [0,1]) (aE (σ:=sg []) ⟨⟨_,k,⟨k,k⟩⟩,⟨_,k,⟨k,k⟩⟩,(e1 k k),(e1 k k),(e1 k k),trivial⟩ trivial k) ?_
       rcases cb h with ⟨q12,h⟩|⟨q12,h⟩
       ·refine aJ k q12<|sQ<|rg<|aa k k<|an<|tn<|aK<|bB<|aI<|aI ?_
        obtain rfl:=so h
        exact ⟨_,k,k,aT k k k (bT k)⟩
       ·refine aN k q12<|aR<|bF<|tn<|rg<|am k k<|ae (bW k k) k<|aa k k<|an<|tn ?_
        obtain rfl:=so h
        exact ⟨_,k,(aE (σ:=sg []) ⟨⟨_,k,⟨k,k⟩⟩,⟨_,k,⟨k,k⟩⟩,(e1 k k),(e1 k k),trivial⟩ trivial k)⟩
      ·refine aN k q7<|bH<|aH<|aH ?_
       obtain rfl:=so h
       exact ⟨_,k,k,(aE (σ:=sg []) ⟨⟨_,k,⟨k,k⟩⟩,⟨_,k,⟨k,k⟩⟩,(e1 k k),trivial⟩ trivial k)⟩
     ·intro e t hX
      rcases y13 with y14|y15
      ·obtain ⟨rfl,hent⟩:=hX
       refine aX<|bF<|tn<|aO hent<|rg<|am k k<|ae (bW k k) k<|aa k k<|an<|tn ?_
       obtain rfl:=so h
       exact ⟨_,k,(aE (σ:=sg []) ⟨⟨_,k,⟨k,k⟩⟩,⟨_,k,⟨k,k⟩⟩,(e1 k k),trivial⟩ trivial k)⟩
      ·obtain ⟨rfl,hent⟩:=hX
       refine bB<|bB<|aI<|aI ?_
       obtain rfl:=so h
       exact ⟨_,k,k,hent⟩
   ·refine aN k q2<|bH<|aH<|aH ?_
    obtain rfl:=so h
    exact ⟨_,k,k,(aE (σ:=sg []) trivial trivial k)⟩
  ·intro e t hX
   rcases y16 with y17|y18
   ·obtain ⟨rfl,hent⟩:=hX
    refine aX<|tn<|aO hent<|sQ<|rg<|aa k k<|an<|tn<|aK ?_
    obtain rfl:=so h
    exact aT k k k (bT k)
   ·obtain ⟨rfl,hent⟩:=hX
    refine bB<|aI ?_
    obtain rfl:=so h
    exact hent
def fX (a0:Int) (a1:Sc):Option Bool:=
 Option.bind (nU a0 a1.size a1.basis) fun v1=>
 bif !v1 then
 (some (false))
 else
 (Option.bind (kU a1.size a1.basis) fun v3=>
 Option.bind (jK a0 v3) fun v4=>
 Option.bind (nV v4 a1.basis) fun v5=>
 some (v5))
theorem pM (a0:Int) (a1:Sc) (r:Bool) (h:fX a0 a1=some r):HasC Tryz.prog 135 [.int a0,.agg (eS a1)] (.bl r):=by
 refine bN aA (rvs:=[.tmp 4]) (ns:=[0,1,2,3,4]) Tryz.func135 k k Tryz.ntmps135 k k k<|sQ<|rg<|ae (cD k k k k) k<|aa k k<|an<|tn<|sQ<|sQ<|rg ?_
 refine am k k<|ae (aD aA k k k k k k k) k<|ae (aC aA k k k k k k k) k<|ae (aD aA k k k k k k k) k<|ae (aC aA k k k k k k k) k ?_
 obtain ⟨v1,hv1,h⟩:=ob h
 refine ae (bE (aHu a0 a1.size a1.basis v1 hv1) k (aG (aM k) (aG (aM k) (aG (aM k) bG)))) k<|ae (cH k) k<|an<|tn ?_
 rcases cb h with ⟨q2,h⟩|⟨q2,h⟩
 ·refine aJ k q2<|sQ<|rg<|aa k k<|an<|tn<|aK<|aI ?_
  obtain rfl:=so h
  exact aT k k k (bT k)
 ·refine aN k q2<|aR<|tn<|sQ<|aZ kR<|am k k<|ae (aD aA k k k k k k k) k<|ae (aC aA k k k k k k k) k<|ae (aD aA k k k k k k k) k<|ae (aC aA k k k k k k k) k ?_
  obtain ⟨v3,hv3,h⟩:=ob h
  refine ae (AEff.conv (dC (x:= .agg [.int v3.rows,.int v3.cols,.own 1 0 (List.map eI v3.cells).length]) (nb:=[(1,⟨1,cJ (List.map eI v3.cells)⟩)]) (aCC a1.size a1.basis v3 hv3) k (by rfl) k k (bZ trivial (bZ trivial (bZ (dK.good _) gQ))) (aG (aM k) (aG (aM k) bG))) (v':= .agg [.int v3.rows,.int v3.cols,.own 1 0 v3.cells.length]) (ed':=[(1,some ⟨1,List.map (ow eI) v3.cells⟩)]) (by simp only [bC]) (eN (nb':=[(1,⟨1,List.map (ow eI) v3.cells⟩)]) (by simp only [cO]))) k ?_
  obtain ⟨v4,hv4,h⟩:=ob h
  refine ae (AEff.conv (dC (x:= .own 2 0 (List.map (cU 1 eI) v4).length) (nb:=[(2,⟨1,cJ (List.map (cU 1 eI) v4)⟩)]) (aBJ a0 v3 v4 hv4) k (by rfl) k k (cG.good _) (aG (aM k) (aG (cE (aU (aY k) (aU (aY k) (aU (qH dK k k) cR)))) bG))) (v':= .own 2 0 v4.length) (ed':=[(2,some ⟨1,List.map (ow (cU 1 eI)) v4⟩)]) (by simp only [bC]) (eN (nb':=[(2,⟨1,List.map (ow (cU 1 eI)) v4⟩)]) (by simp only [cO]))) k<|ae (aD aA k k k k k k k) k<|ae (aC aA k k k k k k k) k ?_
  obtain ⟨v5,hv5,h⟩:=ob h
  refine ae (bE (aHv v4 a1.basis v5 hv5) k (aG (aCN cG k k) (aG (aM k) bG))) k<|aa k k<|an ?_
  refine ⟨by kernel_rfl,?_⟩
  refine tn<|aO (t:=bU [(4,.bl v5)] [] 3 [3,4]) (aE (σ:=sg []) ⟨(e1 k k),trivial⟩ trivial k)<|aK ?_
  obtain rfl:=so h
  exact aT k k k (bT k)
end
noncomputable section
theorem aMy {l:List (List Int)} {n:Nat} (h: ∀ v∈l,v.length=n):l=(List.range l.length).map fun i=>lU n (dE l i):=by
 refine List.ext_getElem (by simp) fun i h1 h2=>?_
 simp only [List.getElem_map,List.getElem_range]
 refine List.ext_getElem (by rw [fK];exact h _ (List.getElem_mem h1)) fun j h3 h4=>?_
 simp [lU,dE,h1,h3]
theorem aIn {l:List (List Int)} {n:Nat} (h: ∀ v∈l,v.length=n):l.flatten=dF l.length n (dE l):=by
 have e:l.flatten=((List.range l.length).map fun i=>lU n (dE l i)).flatten:=by rw [←aMy h]
 rw [e,aKr]
theorem aJf {p:Int} (hp:kX p=true) {n:Nat} {l:List (List Int)} (hn:n≤1024) (hl:l.length≤512) (h:VecsP p n l):Tb p l.length n (dE l):=by
 refine ⟨hp,?_,by omega,by omega,h.inP⟩
 have:=Nat.mul_le_mul hl hn
 omega
theorem aKs {r c i:Nat} (hN:r*c≤1048576) (hr:r≤1048576) (hi:i<r) (F:Nat→Nat→Int):((dF r c F).drop (0+(i*c))).take ((i*c+c) - i*c)=lU c (F i):=by
 have h:= @aHC r c i hi
 rw [Nat.succ_mul] at h
 refine List.ext_getElem (by simp [hO,fK];omega) fun t h1 h2=>?_
 rw [fK] at h2
 rw [List.getElem_take,List.getElem_drop]
 simp [dF,lU,aGg h2,aGh h2]
theorem aCE (F:Nat→Nat→Int) (r n:Nat):fU F r n=(List.range r).map fun i=>lU n (F i):=rfl
theorem aCF (F:Nat→Nat→Int) (r n:Nat):fU F r n++[lU n (F r)]=fU F (r+1) n:=by
 rw [aCE,aCE,List.range_succ,List.map_append];rfl
theorem aMB {n:Nat} {l:List (List Int)} (hn:n≤1024) (hl:l.length≤512) (h: ∀ v∈l,v.length=n):rK n l=some ⟨l.length,n,dF l.length n (dE l)⟩:=by
 unfold rK
 rw [aPI hl (fun v hv=>by rw [h v hv];exact hn),Option.bind_some,aIn h]
theorem aHL {p:Int} (hp:kX p=true) {n:Nat} {l:List (List Int)} (hn:n≤1024) (hl:l.length≤512) (h:VecsP p n l):vS p n l=some ⟨n,fP p n l⟩:=by
 have T:=aJf hp hn hl h
 have hL:= @sZ p l.length (dE l) n
 have h1:=T.hN
 unfold vS
 rw [aMB hn hl (fun v hv=>(h v hv).1),Option.bind_some,aJc T,Option.bind_some]
 rw [fT (r:=fP p n l) (fun k=>(fU (dA p l.length (dE l) n).1 k n,(k:Int))) (dA p l.length (dE l) n).2.length (by simp [fU]) (fun k hk=>?_) (fun _=>?_),Option.bind_some]
 ·have hkl:k<l.length:=by omega
  have h3:= @aHC l.length n k hkl
  rw [Nat.succ_mul] at h3
  unfold tX
  simp only
  rw [lV,kY hk,cond_true,aHD T.hN T.hm hkl,Option.bind_some,sC T.hN hkl,uX T.hN T.hm hkl]
  simp only [Int.toNat_natCast]
  rw [aKs T.hN T.hm hkl]
  unfold tM
  rw [fK,decide_eq_true (by omega),cond_true,Option.bind_some,pS,decide_eq_true (by omega),cond_true,aCF,dR hk (by omega)]
 ·unfold tX
  simp only
  rw [lV,pH (Nat.le_refl _),cond_false]
  rfl
theorem aKt {n:Nat} {l:List (List Int)} (hn:n≤1024) (hl:l.length≤512) (h: ∀ v∈l,v.length=n):kU n l=some ⟨l.length,n,dF l.length n (dE l)⟩:=by
 have hb: ∀ k,(l.take k).flatten.length ≤1024*512:=fun k=>by
  have:=aIm (l:=l.take k) fun x hx=>by rw [h x (List.mem_of_mem_take hx)];exact hn
  have h2:(l.take k).length ≤512:=by simp;omega
  omega
 unfold kU
 rw [fT (r:=l.flatten) (fun k=>((l.take k).flatten,(k:Int))) l.length (by simp) (fun k hk=>?_) (fun _=>?_),Option.bind_some,aIn h]
 ·unfold qB
  simp only
  have e2:=hb (k+1)
  rw [xD hk,List.length_append] at e2
  rw [kY hk,cond_true,dW hk,Option.bind_some,decide_eq_true (by omega),cond_true,dR hk (by omega),xD hk]
 ·unfold qB
  simp only
  rw [pH (Nat.le_refl _),cond_false,List.take_length]
theorem aIo {p:Int} {m n:Nat} {F:Nat→Nat→Int} (T:Tb p m n F):jK p ⟨m,n,dF m n F⟩=some (fU (dA p m F n).1 (dA p m F n).2.length n):=by
 have hL:= @sZ p m F n
 have hm:=T.hm
 have hn:=T.hn
 unfold jK
 rw [aJd T,Option.bind_some]
 rw [fT (r:=fU (dA p m F n).1 (dA p m F n).2.length n) (fun k=>(fU (dA p m F n).1 k n,(k:Int))) (dA p m F n).2.length (by simp [fU]) (fun k hk=>?_) (fun _=>?_),Option.bind_some]
 ·have hkl:k<m:=by omega
  have h3:= @aHC m n k hkl
  rw [Nat.succ_mul] at h3
  have h4:=T.hN
  have e:wr (wr ((k:Int)*(n:Int))+(n:Int))=((k*n+n:Nat):Int):=by rw [sC T.hN hkl,gG (by omega)];omega
  unfold oU
  simp only
  rw [lV,kY hk,cond_true,e,sC T.hN hkl,hO,decide_eq_true (by omega),decide_eq_true (by omega:((k*n:Nat):Int)≤((k*n+n:Nat):Int)),decide_eq_true (by omega:((k*n+n:Nat):Int)≤((m*n:Nat):Int))]
  simp only [Int.toNat_natCast,Bool.and_self,cond_true,aKs T.hN T.hm hkl]
  rw [fK,decide_eq_true (by simp;omega),cond_true,pS,decide_eq_true (by omega),cond_true,List.nil_append,aCF,dR hk (by omega)]
 ·unfold oU
  simp only
  rw [lV,pH (Nat.le_refl _),cond_false]
theorem aKu {p:Int} (hp:kX p=true) {n:Nat} {l:List (List Int)} (hn:n≤1024) (hl:l.length≤512) (h:VecsP p n l):qQ p n l=some ⟨n,fP p n l⟩:=by
 unfold qQ
 rw [aKt hn hl (fun v hv=>(h v hv).1),Option.bind_some,aIo (aJf hp hn hl h),Option.bind_some]
 rfl
def bLs (l:List (List Int)):Prop:=l.length≤1048576∧ ∀ v∈l,bI v
theorem aMC (p:Int) (v:List Int):(kX p&&decide (v.length≤64)&&v.all fun x=>tE x 0 (wr (p - 1)))=aAx p v:=by
 unfold aAx
 cases h:kX p with
 |false=>rfl
 |true=>rw [gG (by have:=gH h;omega)]
theorem aQW {α:Type} {l:List α} {P Q:α→Bool} (h: ∀ x∈l,P x=Q x):l.all P=l.all Q:=by
 induction l with
 |nil=>rfl
 |cons x l ih=>rw [List.all_cons,List.all_cons,h x (by simp),ih fun y hy=>h y (by simp [hy])]
theorem aGG (p size:Int) (l:List (List Int)):aDG p size l=(kX p&&tE size 0 8&&decide (l.length≤16)&&l.all fun v=>decide ((v.length:Int)=size)&&aAx p v):=rfl
theorem aDb {l:List (List Int)} {f:List Int→Option Bool} (P:List Int→Bool) (hf: ∀ x∈l,f x=some (P x)) (h:l.length≤1048576):eG l f=some (l.any P):=by
 unfold eG iC
 rw [aEK (s0:=0) (s:=0) (n:=l.length) (fun k=>bif P (l[k]?.getD []) then some (k:Int) else none) rfl (by omega) (Nat.zero_le _) (fun k _ hk=>?_) (fun _=>?_)]
 ·rw [Option.bind_some]
  cases e:(List.range' 0 (l.length - 0)).findSome? (fun k:Nat=>bif P (l[k]?.getD []) then some (k:Int) else none) with
  |none=>
   rw [List.findSome?_eq_none_iff] at e
   have:l.any P=false:=by
    rw [List.any_eq_false]
    intro x hx
    obtain ⟨k,hk,rfl⟩:=List.mem_iff_getElem.1 hx
    have:=e k (by simp;omega)
    simp only [List.getElem?_eq_getElem hk,Option.getD_some] at this
    cases hp:P l[k] with
    |false=>simp
    |true=>rw [hp] at this;cases this
   rw [this];rfl
  |some i=>
   obtain ⟨k,hk,he⟩:=List.exists_of_findSome?_eq_some e
   simp at hk
   have hkl:k<l.length:=by omega
   rw [List.getElem?_eq_getElem hkl] at he
   simp only [Option.getD_some] at he
   cases hp:P l[k] with
   |false=>rw [hp] at he;cases he
   |true=>
    rw [hp] at he
    cases he
    have:l.any P=true:=List.any_eq_true.2 ⟨_,List.getElem_mem hkl,hp⟩
    rw [this]
    simp only [Sum.elim_inr,Option.bind_some]
    rw [decide_eq_true (by omega)]
 ·unfold fD
  rw [kY hk,cond_true,vW [] hk,Option.bind_some,hf _ (eZ [] hk),Option.bind_some]
  cases P _ <;> rfl
 ·unfold fD
  rw [pH (Nat.le_refl _),cond_false]
theorem aJg (p n:Int) {l:List (List Int)} (h:bLs l):oV p n l=some (tE n 0 8&&(decide (l.length≤16)&&l.all fun v=>decide ((v.length:Int)=n)&&aAx p v)):=by
 unfold oV
 rw [vQ,Option.bind_some]
 refine hJ fun _=>?_
 rw [show decide ((l.length:Int)≤16)=decide (l.length≤16) by rw [Bool.eq_iff_iff,decide_eq_true_eq,decide_eq_true_eq];omega]
 refine hJ fun _=>?_
 rw [aDb (fun v=> !(decide ((v.length:Int)=n)&&aAx p v)) (fun v hv=>?_) h.1,Option.bind_some,List.not_any_eq_all_not]
 ·simp
 ·unfold lE
  cases decide ((v.length:Int)=n) with
  |false=>rfl
  |true=>rw [Bool.not_true,cond_false,aIg p (h.2 v hv),Option.bind_some,aMC,Bool.true_and]
theorem aNl {a b:List (List Int)} (h:bLs a):dZ a b (fun b0 b1=>iD b0 b1)=some (decide (a=b)):=by
 obtain ⟨h,hb⟩:=h
 unfold dZ
 rw [vP]
 by_cases e:a.length=b.length
 ·rw [decide_eq_true e,Bool.not_true,cond_false]
  refine xN (by omega) e (fun k h1 h2=>?_) ?_
  ·unfold dO iD
   simp only
   rw [kY h1,cond_true,dW h1,Option.bind_some,dW h2,Option.bind_some,aNd (hb _ (List.getElem_mem h1)),Option.bind_some,Option.bind_some]
   cases decide (a[k]=b[k]) <;> rfl
  ·unfold dO
   rw [pH (Nat.le_refl _),cond_false]
 ·rw [decide_eq_false e,Bool.not_false,cond_true,decide_eq_false (by rintro rfl;exact e rfl)]
theorem aHw {a b:Sc} (h:bLs a.basis):mR a b=some (decide (a.size=b.size)&&decide (a.basis=b.basis)):=by
 unfold mR
 refine hJ fun _=>?_
 rw [aNl h,Option.bind_some]
theorem aRQ {p:Int} {n:Nat} {l:List (List Int)} (hl:l.length≤1048576) (hn:n≤1048576) (h:VecsP p n l):bLs l:=⟨hl,fun v hv=>by unfold bI;rw [(h v hv).1];exact hn⟩
theorem aKv {p:Int} (hp:kX p=true) {n:Nat} {l:List (List Int)} (hn:n≤1048576) (h:VecsP p n l):bLs (fP p n l):=aRQ (by have:=(@aAz p n l).1;omega) hn (aEN hp h.inP)
theorem aHx (p:Int) {s:Sc} (h:bS s):tY p s=some (mG p s.size s.basis):=by
 unfold tY mG
 rw [aBh,Option.bind_some,aJg p s.size h.1,Option.bind_some,aGG]
 cases hf:kX p with
 |false=>simp
 |true=>
  rw [Bool.not_true,cond_false]
  cases hv:(tE s.size 0 8&&(decide (s.basis.length≤16)&&s.basis.all fun v=>decide ((v.length:Int)=s.size)&&aAx p v)) with
  |false=>
   have hx:(true&&tE s.size 0 8&&decide (s.basis.length≤16)&&s.basis.all fun v=>decide ((v.length:Int)=s.size)&&aAx p v)=false:=by rw [Bool.true_and,Bool.and_assoc];exact hv
   rw [hx];rfl
  |true=>
   have hfine:aDG p s.size s.basis=true:=by rw [aGG,hf];simp only [Bool.true_and,Bool.and_assoc];exact hv
   obtain ⟨_,n,e,hn,hl,hv2⟩:=yL hfine
   rw [Bool.not_true,cond_false,e,aHL hf (by omega) (by omega) hv2,Option.bind_some,aHw (aKv hf (by omega) hv2),Option.bind_some]
   rw [e] at hfine
   rw [aGG,hf] at hfine
   rw [hfine]
   simp [e]
theorem aPL (p n:Int) {l:List (List Int)} (h:bLs l):nU p n l=some (aDG p n l):=by
 unfold nU
 have hall:=xC ([]:List Int) l (fun v=>decide ((v.length:Int)=n)&&aAx p v)
 have hb:=h.1
 rw [vX (fun k=>decide ((((l[k]?.getD []).length:Nat):Int)=n)&&aAx p (l[k]?.getD [])) false (n:=l.length) (by omega) (fun k hk=>?_) (fun _=>?_),Option.bind_some,hall,aGG]
 ·cases l.all fun v=>decide ((v.length:Int)=n)&&aAx p v with
  |false=>simp
  |true=>
   simp only [cond_true,Sum.elim_inl]
   rw [aDY,Option.bind_some,uW,Option.bind_some,Bool.and_true,Bool.and_assoc]
   refine hJ fun _=>?_
   refine hJ fun _=>?_
   congr 1
   rw [Bool.eq_iff_iff,decide_eq_true_eq,decide_eq_true_eq];omega
 ·unfold iY
  rw [kY hk,cond_true,vW [] hk,Option.bind_some,Option.bind_some,aEb p (h.2 _ (eZ [] hk)),Option.bind_some,aMC]
  cases decide ((((l[k]?.getD []).length:Nat):Int)=n) <;> cases aAx p (l[k]?.getD []) <;> rfl
 ·unfold iY
  rw [pH (Nat.le_refl _),cond_false]
theorem aPM {a b:List (List Int)} (h:bLs a):nV a b=some (decide (a=b)):=by
 obtain ⟨h,hb⟩:=h
 unfold nV
 rw [vP]
 by_cases e:a.length=b.length
 ·rw [decide_eq_true e,Bool.not_true,cond_false]
  refine xN (by omega) e (fun k h1 h2=>?_) ?_
  ·have hbk:=hb _ (List.getElem_mem h1)
   unfold bI at hbk
   unfold iZ
   rw [kY h1,cond_true,dW h1,Option.bind_some,dW h2,Option.bind_some,vP]
   by_cases e2:a[k].length=b[k].length
   ·rw [decide_eq_true e2,Bool.not_true,cond_false]
    have h3:=vX (body:=lW a b k) (fun j=>decide (a[k][j]?.getD 0=b[k][j]?.getD 0)) false (n:=a[k].length) (by omega) (fun j hj=>?_) ?_
    ·rw [h3,aKa e2,Option.bind_some]
     cases decide (a[k]=b[k]) <;> rfl
    ·unfold lW
     rw [dW h1,Option.bind_some,kY hj,cond_true,Option.bind_some,vW 0 hj,Option.bind_some,dW h2,Option.bind_some,vW 0 (e2▸hj),Option.bind_some]
     cases decide (a[k][j]?.getD 0=b[k][j]?.getD 0) <;> rfl
    ·intro _
     unfold lW
     rw [dW h1,Option.bind_some,pH (Nat.le_refl _),cond_false]
   ·rw [decide_eq_false e2,Bool.not_false,cond_true,decide_eq_false (fun e3=>e2 (by rw [e3])),cond_false]
  ·unfold iZ
   rw [pH (Nat.le_refl _),cond_false]
 ·rw [decide_eq_false e,Bool.not_false,cond_true,decide_eq_false (by rintro rfl;exact e rfl)]
theorem vK (p:Int) {s:Sc} (h:bS s):fX p s=some (mG p s.size s.basis):=by
 unfold fX mG
 rw [aPL p s.size h.1,Option.bind_some]
 cases hf:aDG p s.size s.basis with
 |false=>rfl
 |true=>
  obtain ⟨hp,n,e,hn,hl,hv⟩:=yL hf
  rw [Bool.not_true,cond_false,e,aKt (by omega) (by omega) (fun v hv'=>(hv v hv').1),Option.bind_some,aIo (aJf hp (by omega) (by omega) hv),Option.bind_some,show fU (dA p s.basis.length (dE s.basis) n).1 (dA p s.basis.length (dE s.basis) n).2.length n=fP p n s.basis from rfl,aPM (aKv hp (by omega) hv),Option.bind_some]
  simp
end
noncomputable section
set_option maxRecDepth 10000
set_option maxHeartbeats 4000000
def mS (x1:((List Int)×Int×Int)):Option (((List Int)×Int×Int) ⊕ ((List Int)×Int)):=
 bif decide (x1.2.2<((x1.1.length:Nat):Int)) then
 (Option.bind (dX x1.1 x1.2.2) fun v2=>
 some (.inl ((x1.1.set x1.2.2.toNat x1.2.1),wr (x1.2.1+1),wr (x1.2.2+1))))
 else
 (some (.inr (x1.1,x1.2.1)))
def fY (a0:(List Int)) (a1:Int):Option ((List Int)×Int):=
 Option.bind (Lp mS (a0,a1,0)) fun y3=>
 some (y3.1,y3.2)
theorem kF (a0:(List Int)) (a1:Int) (r:((List Int)×Int)) (h:fY a0 a1=some r):HasE Tryz.prog 33 [.own 0 0 a0.length,.int a1] [(0,⟨1,List.map (ow eI) a0⟩)] 1 (.int r.2) [(0,⟨1,List.map (ow eI) r.1⟩)]:=by
 refine qV aA (rvs:=[.tmp 4]) (ns:=[1,2]) Tryz.func33 k k Tryz.ntmps33 k k<|sQ<|rg<|aa k k<|an<|tn<|sQ<|sQ<|rg<|aa k k ?_
 refine an<|tn<|aL ?_
 obtain ⟨y3,hy3,h⟩:=ob h
 refine cV (body:=mS) hy3 (fun (x1:((List Int)×Int×Int))=>bU [(0,.own 0 0 x1.1.length),(1,.int x1.2.1),(5,.int x1.2.2)] [(0,⟨1,List.map (ow eI) x1.1⟩)] 1 [1,2] 1) (fun r e t=>e= .exit 0∧Ent t (bU [(1,.int r.2)] [(0,⟨1,List.map (ow eI) r.1⟩)] 1 [1,2] 1)) (aE (σ:=sg [(0,0)]) ⟨(oE k k),(e1 k k),(e1 k k),trivial⟩ (hI k k k<|trivial) k) ?_ ?_
 ·intro x1 o h
  refine sQ<|sQ<|rg<|am k k<|am k k<|ae (bV aA k k k k) k<|ae (bD k k k) k<|an<|tn ?_
  rcases cb h with ⟨q1,h⟩|⟨q1,h⟩
  ·refine aJ k q1<|aR<|tn<|sQ<|aL<|sQ<|rg<|am k k<|am k k<|am k k ?_
   obtain ⟨v2,hv2,h⟩:=ob h
   refine ae (cT aA (eD hv2) (dB hv2) k k k k k k k) k<|ae (iH aA uJ (u:=x1.2.1) (dI hv2) k k k k k k) k<|an<|tn<|rg<|am k k<|ae (bW k k) k<|aa k k<|an<|bF ?_
   refine tn<|aO (t:=bU [(0,.own 0 0 ((x1.1.set x1.2.2.toNat x1.2.1).length)),(1,.int (wr (x1.2.1+1))),(5,.int x1.2.2)] [(0,⟨1,List.map (ow eI) (x1.1.set x1.2.2.toNat x1.2.1)⟩)] 1 [1,2] 1) (aE (σ:=sg [(0,0)]) ⟨⟨_,k,⟨k,k,(by simp only [bC,lA,lT,lR,lC,lN]),k⟩⟩,(e1 k k),(e1 k k),trivial⟩ (hI k k k<|trivial) k)<|rg<|am k k<|ae (bW k k) k<|aa k k<|an<|tn ?_
   obtain rfl:=so h
   exact ⟨_,k,(aE (σ:=sg [(0,0)]) ⟨(oE k k),(e1 k k),(e1 k k),trivial⟩ (hI k k k<|trivial) k)⟩
  ·refine aN k q1<|bH<|aH<|aH ?_
   obtain rfl:=so h
   exact ⟨_,k,k,(aE (σ:=sg [(0,0)]) ⟨(e1 k k),trivial⟩ (hI k k k<|trivial) k)⟩
 ·rintro e t ⟨rfl,hent⟩
  refine aX<|tn<|aO hent<|sQ<|rg<|am k k<|aa k k<|an<|tn<|aK ?_
  obtain rfl:=so h
  exact ⟨bU [(4,.int y3.2)] [(0,⟨1,List.map (ow eI) y3.1⟩)] 1 [1,2] 1,(aE (σ:=sg [(0,0)]) ⟨(e1 k k),trivial⟩ (hI k k k<|trivial) k),k,⟨_,k,.inl k⟩,⟨k,trivial⟩⟩
def lF (x1:((List (List Int))×Int×Int)):Option (((List (List Int))×Int×Int) ⊕ ((List (List Int))×Int)):=
 bif decide (x1.2.2<((x1.1.length:Nat):Int)) then
 (Option.bind (dX x1.1 x1.2.2) fun v2=>
 Option.bind (fY v2 x1.2.1) fun v3=>
 bif decide (v3.1.length=v2.length) then
 (some (.inl ((x1.1.set x1.2.2.toNat v3.1),v3.2,wr (x1.2.2+1))))
 else none)
 else
 (some (.inr (x1.1,x1.2.1)))
def qC (a0:(List (List Int))) (a1:Int):Option ((List (List Int))×Int):=
 Option.bind (Lp lF (a0,a1,0)) fun y5=>
 some (y5.1,y5.2)
theorem aEe (a0:(List (List Int))) (a1:Int) (r:((List (List Int))×Int)) (h:qC a0 a1=some r):HasT Tryz.prog 46 [.own 0 0 a0.length,.int a1] [(0,⟨1,List.map (ow (cU 1 eI)) a0⟩)] 1 (.int r.2) [(0,⟨1,List.map (ow (cU 1 eI)) r.1⟩)]:=by
 refine aDN aA (rvs:=[.tmp 4]) (ns:=[1,2,3]) Tryz.func46 k k Tryz.ntmps46 k k<|sQ<|fE<|se (aV k) k<|sn<|tn<|sQ<|sQ<|fE<|se (aV k) k ?_
 refine sn<|tn<|aL ?_
 obtain ⟨y5,hy5,h⟩:=ob h
 refine cV (body:=lF) hy5 (fun (x1:((List (List Int))×Int×Int))=>bU [(0,.own 0 0 x1.1.length),(1,.int x1.2.1),(5,.int x1.2.2)] [(0,⟨1,List.map (ow (cU 1 eI)) x1.1⟩)] 1 [1,2,3] ⟨1,true,none,true⟩) (fun r e t=>e= .exit 0∧Ent t (bU [(1,.int r.2)] [(0,⟨1,List.map (ow (cU 1 eI)) r.1⟩)] 1 [1,2,3] ⟨1,true,none,true⟩)) (aE (σ:=sg [(0,0)]) ⟨(oE k k),(e1 k k),(e1 k k),trivial⟩ (hB (cG.plainO _) k k k<|trivial) k) ?_ ?_
 ·intro x1 o h
  refine sQ<|sQ<|fE<|se (aS k) k<|se (aS k) k<|se (bV aA k k k k) k<|se (bD k k k) k<|sn<|tn ?_
  rcases cb h with ⟨q1,h⟩|⟨q1,h⟩
  ·refine aJ k q1<|aR<|tn<|sQ<|aL<|fE<|se (aS k) k<|se (aS k) k ?_
   obtain ⟨v2,hv2,h⟩:=ob h
   refine fV (t:=bU [(0,.own 0 0 x1.1.length),(1,.int x1.2.1),(5,.int x1.2.2),(6,.int x1.2.2),(7,.own 0 0 x1.1.length),(8,.int ((x1.1.length:Nat):Int)),(9,.bl (decide (x1.2.2<((x1.1.length:Nat):Int)))),(12,.own 0 0 x1.1.length),(13,.int x1.2.2)] [(0,⟨1,(List.map (ow (cU 1 eI)) x1.1).set x1.2.2.toNat [.abs 1 (List.map eI v2)]⟩)] 1 [1,2,3] ⟨1,true,none,true⟩) (aE (σ:=sg [(0,0)]) ⟨(oE k k),(e1 k k),(e1 k k),(e1 k k),(oE k k),(e1 k k),(e1 k k),(oE k k),(e1 k k),trivial⟩ (hX ⟨_,k,k,.inl ⟨aDR (dI hv2),aBe cG k⟩⟩ k<|trivial) k)<|fV (aBf (b:=0) (c:=1) (i:=x1.2.2.toNat) (j:=0) (n:=v2.length) (A:=List.map (ow (cU 1 eI)) x1.1) (fs:=List.map (ow eI) v2) (by rw [List.length_map];exact dB hv2) k k k k (bC _ _) (cO _ _) (zF ⟨k,k,k,k,k,k,k,k,k,trivial⟩) (zG (skip:=[]) ⟨.inr (cG.dfS _ _ _ k),trivial⟩))<|fV (t:=bU [(0,.own 0 0 x1.1.length),(1,.int x1.2.1),(5,.int x1.2.2),(6,.int x1.2.2),(7,.own 0 0 x1.1.length),(8,.int ((x1.1.length:Nat):Int)),(9,.bl (decide (x1.2.2<((x1.1.length:Nat):Int)))),(12,.own 0 0 x1.1.length),(13,.int x1.2.2)] [(0,⟨1,(List.map (ow (cU 1 eI)) x1.1).set x1.2.2.toNat [.own 1 0 v2.length]⟩),(1,⟨1,List.map (ow eI) v2⟩)] 2 [2,3] ⟨1,true,none,true⟩) (aE (σ:=sg [(0,0),(1,1)]) ⟨(oE k k),(e1 k k),(e1 k k),(e1 k k),(oE k k),(e1 k k),(e1 k k),(oE k k),(e1 k k),trivial⟩ (hX ⟨_,k,k,.inr (yP (σ:=sg [(0,0),(1,1)]) (m:=2) (e:=(cU 1 eI)) (l:=x1.1) (i:=x1.2.2.toNat) (c:=[.own 1 0 v2.length]) (d:=[.own 1 0 v2.length]) cG ⟨_,_,k,⟨k,k,k,k⟩,k⟩)⟩ k<|hI k k k<|trivial) k) ?_
   refine se (cT aA (eD hv2) (dB hv2) k k k k k k k) k<|se (aC aA k k k k (aJO (dB hv2)) k k) k<|se (aS k) k ?_
   obtain ⟨v3,hv3,h⟩:=ob h
   refine se (gB (σ:=sg [(0,1)]) (σ':=sg [(1,0)]) (touch:=[1]) (news:=[]) (hl2:=[(1,⟨1,List.map (ow eI) v3.1⟩)]) (n':=2) (r2:= .int v3.2) (kF v2 x1.2.1 v3 hv3) k k ⟨_,_,k,⟨k,k,k,k⟩,⟨_,_,k,k,k⟩⟩ ⟨⟨_,k,k,.inl ⟨k,dK.plainO _⟩⟩,k,trivial⟩ k k k ⟨⟨_,k,k,.inl ⟨k,dK.plainO _⟩⟩,k,trivial⟩ k k k ⟨k,dK.tame _ _,trivial⟩ k k) k ?_
   obtain ⟨q4,h⟩:=cg h
   refine se (aV k) k<|sn<|bF<|tn<|fE<|se (aS k) k<|se (bW k k) k<|se (aV k) k<|sn<|tn ?_
   obtain rfl:=so h
   exact ⟨_,k,(Ent.trans (show Ent _ (bU [(0,.own 0 0 ((x1.1.set x1.2.2.toNat v3.1).length)),(1,.int v3.2),(5,.int (wr (x1.2.2+1)))] [(0,⟨1,List.map (ow (cU 1 eI)) (x1.1.set x1.2.2.toNat v3.1)⟩)] 2 [2,3] ⟨1,true,none,true⟩) from (Ent.trans (aBA (b:=0) (b':=1) (j:=0) (es':=List.map eI v3.1) (by rw [List.length_map];exact dB hv2) k k k k (by simp only [bC,lA,lT,lR,lC,lN,of_decide_eq_true q4]) (dK.frzs _)) (aE (σ:=sg [(0,0)]) ⟨⟨_,k,⟨k,k,(by simp only [bC,lA,lT,lR,lC,lN,of_decide_eq_true q4]),k⟩⟩,(e1 k k),(e1 k k),trivial⟩ (hX ⟨_,k,k,.inl ⟨aGp v3.1 k,cG.plainO _⟩⟩ k<|trivial) k))) (aE (σ:=sg [(0,0)]) ⟨(oE k k),(e1 k k),(e1 k k),trivial⟩ (hB (cG.plainO _) k k k<|trivial) k))⟩
  ·refine aN k q1<|bH<|aH<|aH ?_
   obtain rfl:=so h
   exact ⟨_,k,k,(aE (σ:=sg [(0,0)]) ⟨(e1 k k),trivial⟩ (hB (cG.plainO _) k k k<|trivial) k)⟩
 ·rintro e t ⟨rfl,hent⟩
  refine aX<|tn<|aO hent<|sQ<|fE<|se (aS k) k<|se (aV k) k<|sn<|tn<|aK ?_
  obtain rfl:=so h
  exact ⟨bU [(4,.int y5.2)] [(0,⟨1,List.map (ow (cU 1 eI)) y5.1⟩)] 1 [1,2,3] ⟨1,true,none,true⟩,(aE (σ:=sg [(0,0)]) ⟨(e1 k k),trivial⟩ (hB (cG.plainO _) k k k<|trivial) k),k,⟨_,k,.inl k⟩,⟨k,trivial⟩⟩
def kO (x1:((List Sc)×Int×Int)):Option (((List Sc)×Int×Int) ⊕ ((List Sc)×Int)):=
 bif decide (x1.2.2<((x1.1.length:Nat):Int)) then
 (Option.bind (dX x1.1 x1.2.2) fun v2=>
 Option.bind (qC v2.basis (wr (x1.2.1+1))) fun v3=>
 bif decide (v3.1.length=v2.basis.length) then
 (some (.inl ((x1.1.set x1.2.2.toNat (⟨x1.2.1,v3.1⟩:Sc)),v3.2,wr (x1.2.2+1))))
 else none)
 else
 (some (.inr (x1.1,x1.2.1)))
def oW (a0:(List Sc)) (a1:Int):Option ((List Sc)×Int):=
 Option.bind (Lp kO (a0,a1,0)) fun y5=>
 some (y5.1,y5.2)
theorem aDc (a0:(List Sc)) (a1:Int) (r:((List Sc)×Int)) (h:oW a0 a1=some r):HasT Tryz.prog 41 [.own 0 0 a0.length,.int a1] [(0,⟨2,List.map (ow eS) a0⟩)] 1 (.int r.2) [(0,⟨2,List.map (ow eS) r.1⟩)]:=by
 refine aDN aA (rvs:=[.tmp 4]) (ns:=[1,2,3]) Tryz.func41 k k Tryz.ntmps41 k k<|sQ<|fE<|se (aV k) k<|sn<|tn<|sQ<|sQ<|fE<|se (aV k) k ?_
 refine sn<|tn<|aL ?_
 obtain ⟨y5,hy5,h⟩:=ob h
 refine cV (body:=kO) hy5 (fun (x1:((List Sc)×Int×Int))=>bU [(0,.own 0 0 x1.1.length),(1,.int x1.2.1),(5,.int x1.2.2)] [(0,⟨2,List.map (ow eS) x1.1⟩)] 1 [1,2,3] ⟨1,true,none,true⟩) (fun r e t=>e= .exit 0∧Ent t (bU [(1,.int r.2)] [(0,⟨2,List.map (ow eS) r.1⟩)] 1 [1,2,3] ⟨1,true,none,true⟩)) (aE (σ:=sg [(0,0)]) ⟨(oE k k),(e1 k k),(e1 k k),trivial⟩ (hB (cY.plainO _) k k k<|trivial) k) ?_ ?_
 ·intro x1 o h
  refine sQ<|sQ<|fE<|se (aS k) k<|se (aS k) k<|se (bV aA k k k k) k<|se (bD k k k) k<|sn<|tn ?_
  rcases cb h with ⟨q1,h⟩|⟨q1,h⟩
  ·refine aJ k q1<|aR<|tn<|sQ<|aL<|sQ<|fE<|se (aS k) k<|se (aS k) k<|se (aS k) k ?_
   obtain ⟨v2,hv2,h⟩:=ob h
   refine fV (t:=bU [(0,.own 0 0 x1.1.length),(1,.int x1.2.1),(5,.int x1.2.2),(6,.int x1.2.2),(7,.own 0 0 x1.1.length),(8,.int ((x1.1.length:Nat):Int)),(9,.bl (decide (x1.2.2<((x1.1.length:Nat):Int)))),(12,.own 0 0 x1.1.length),(13,.int x1.2.2),(14,.int x1.2.1)] [(0,⟨2,(List.map (ow eS) x1.1).set x1.2.2.toNat [.int v2.size,.abs 1 (List.map (cU 1 eI) v2.basis)]⟩)] 1 [1,2,3] ⟨1,true,none,true⟩) (aE (σ:=sg [(0,0)]) ⟨(oE k k),(e1 k k),(e1 k k),(e1 k k),(oE k k),(e1 k k),(e1 k k),(oE k k),(e1 k k),(e1 k k),trivial⟩ (hX ⟨_,k,k,.inl ⟨aDR (dI hv2),aBe cY k⟩⟩ k<|trivial) k)<|fV (aBf (b:=0) (c:=1) (i:=x1.2.2.toNat) (j:=1) (n:=v2.basis.length) (A:=List.map (ow eS) x1.1) (fs:=List.map (ow (cU 1 eI)) v2.basis) (by rw [List.length_map];exact dB hv2) k k k k (bC _ _) (cO _ _) (zF ⟨k,k,k,k,k,k,k,k,k,k,trivial⟩) (zG (skip:=[]) ⟨.inr (cY.dfS _ _ _ k),trivial⟩))<|fV (t:=bU [(0,.own 0 0 x1.1.length),(1,.int x1.2.1),(5,.int x1.2.2),(6,.int x1.2.2),(7,.own 0 0 x1.1.length),(8,.int ((x1.1.length:Nat):Int)),(9,.bl (decide (x1.2.2<((x1.1.length:Nat):Int)))),(12,.own 0 0 x1.1.length),(13,.int x1.2.2),(14,.int x1.2.1)] [(0,⟨2,(List.map (ow eS) x1.1).set x1.2.2.toNat [.int v2.size,.own 1 0 v2.basis.length]⟩),(1,⟨1,List.map (ow (cU 1 eI)) v2.basis⟩)] 2 [2,3] ⟨1,true,none,true⟩) (aE (σ:=sg [(0,0),(1,1)]) ⟨(oE k k),(e1 k k),(e1 k k),(e1 k k),(oE k k),(e1 k k),(e1 k k),(oE k k),(e1 k k),(e1 k k),trivial⟩ (hX ⟨_,k,k,.inr (yP (σ:=sg [(0,0),(1,1)]) (m:=2) (e:=eS) (l:=x1.1) (i:=x1.2.2.toNat) (c:=[.int v2.size,.own 1 0 v2.basis.length]) (d:=[.int v2.size,.own 1 0 v2.basis.length]) cY ⟨_,_,k,k,⟨_,_,k,⟨k,k,k,k⟩,k⟩⟩)⟩ k<|hB (cG.plainO _) k k k<|trivial) k) ?_
   refine se (cT aA (eD hv2) (dB hv2) k k k k k k k) k<|se (aD aA k k k k k k k) k<|se (aGz aA (A:=List.map (ow eS) x1.1) (by rw [List.length_map];exact dB hv2) k k k k k k k) k<|sn<|tn<|sQ<|fE<|se (aS k) k<|se (bW k k) k<|se (aV k) k ?_
   refine sn<|tn<|fE<|se (aS k) k<|se (aS k) k<|se (cT aA (eD hv2) (dB hv2) k k k k k k k) k<|se (aD aA k k k k k k k) k<|se (aC aA k k k k (aJO (dB hv2)) k k) k<|se (aS k) k ?_
   obtain ⟨v3,hv3,h⟩:=ob h
   refine fV (t:=bU [(0,.own 0 0 x1.1.length),(1,.int (wr (x1.2.1+1))),(5,.int x1.2.2),(6,.int x1.2.2),(7,.own 0 0 x1.1.length),(8,.int ((x1.1.length:Nat):Int)),(9,.bl (decide (x1.2.2<((x1.1.length:Nat):Int)))),(12,.own 0 0 x1.1.length),(13,.int x1.2.2),(14,.int x1.2.1),(15,.ptr 0 x1.2.2.toNat 0),(16,.ptr 0 x1.2.2.toNat 0),(17,.int x1.2.1),(18,.int (wr (x1.2.1+1))),(19,.own 0 0 x1.1.length),(20,.int x1.2.2),(21,.ptr 0 x1.2.2.toNat 0),(22,.ptr 0 x1.2.2.toNat 1),(23,.own 1 0 v2.basis.length),(24,.int (wr (x1.2.1+1)))] [(0,⟨2,(List.map (ow eS) x1.1).set x1.2.2.toNat [.int x1.2.1,.own 1 0 v2.basis.length]⟩),(1,⟨1,List.map (ow (cU 1 eI)) v2.basis⟩)] 2 [2,3] ⟨1,true,none,true⟩) (aE (σ:=sg [(0,0),(1,1)]) ⟨(oE k k),(e1 k k),(e1 k k),(e1 k k),(oE k k),(e1 k k),(e1 k k),(oE k k),(e1 k k),(e1 k k),(pE k k),(pE k k),(e1 k k),(e1 k k),(oE k k),(e1 k k),(pE k k),(pE k k),(oE k k),(e1 k k),trivial⟩ (hX ⟨_,k,k,.inr (yP (σ:=sg [(0,0),(1,1)]) (m:=2) (e:=eS) (l:=x1.1) (i:=x1.2.2.toNat) (c:=[.int x1.2.1,.own 1 0 v2.basis.length]) (d:=[.int x1.2.1,.own 1 0 v2.basis.length]) cY ⟨_,_,k,k,⟨_,_,k,⟨k,k,k,k⟩,k⟩⟩)⟩ k<|hB (cG.plainO _) k k k<|trivial) k)<|aGt (σ:=sg [(0,1)]) (σ':=sg [(1,0)]) (touch:=[1]) (news:=[]) (hl2:=[(1,⟨1,List.map (ow (cU 1 eI)) v3.1⟩)]) (n':=2) (r2:= .int v3.2) (aEe v2.basis (wr (x1.2.1+1)) v3 hv3) k k ⟨_,_,k,⟨k,k,k,k⟩,⟨_,_,k,k,k⟩⟩ ⟨⟨_,k,k,.inl ⟨k,cG.plainO _⟩⟩,k,trivial⟩ k k k ⟨⟨_,k,k,.inl ⟨k,cG.plainO _⟩⟩,k,trivial⟩ k k k ⟨k,cG.tame _ _,trivial⟩ k k k k k (zF ⟨k,k,k,k,k,k,k,k,k,k,k,k,k,k,k,k,k,k,k,k,trivial⟩) (zG (skip:=[1]) ⟨.inr (cY.dfS _ _ _ k),.inl (by decide),trivial⟩) ?_
   obtain ⟨q4,h⟩:=cg h
   refine se (aV k) k<|sn<|bF<|tn<|fE<|se (aS k) k<|se (bW k k) k<|se (aV k) k<|sn<|tn ?_
   obtain rfl:=so h
   exact ⟨_,k,(Ent.trans (show Ent _ (bU [(0,.own 0 0 ((x1.1.set x1.2.2.toNat (⟨x1.2.1,v3.1⟩:Sc)).length)),(1,.int v3.2),(5,.int (wr (x1.2.2+1)))] [(0,⟨2,List.map (ow eS) (x1.1.set x1.2.2.toNat (⟨x1.2.1,v3.1⟩:Sc))⟩)] 2 [2,3] ⟨1,true,none,true⟩) from (Ent.trans (aBA (b:=0) (b':=1) (j:=1) (es':=List.map (cU 1 eI) v3.1) (by rw [List.length_map];exact dB hv2) k k k k (by simp only [bC,lA,lT,lR,lC,lN,of_decide_eq_true q4]) (cG.frzs _)) (aE (σ:=sg [(0,0)]) ⟨⟨_,k,⟨k,k,(by simp only [bC,lA,lT,lR,lC,lN,of_decide_eq_true q4]),k⟩⟩,(e1 k k),(e1 k k),trivial⟩ (hX ⟨_,k,k,.inl ⟨aGp (⟨x1.2.1,v3.1⟩:Sc) k,cY.plainO _⟩⟩ k<|trivial) k))) (aE (σ:=sg [(0,0)]) ⟨(oE k k),(e1 k k),(e1 k k),trivial⟩ (hB (cY.plainO _) k k k<|trivial) k))⟩
  ·refine aN k q1<|bH<|aH<|aH ?_
   obtain rfl:=so h
   exact ⟨_,k,k,(aE (σ:=sg [(0,0)]) ⟨(e1 k k),trivial⟩ (hB (cY.plainO _) k k k<|trivial) k)⟩
 ·rintro e t ⟨rfl,hent⟩
  refine aX<|tn<|aO hent<|sQ<|fE<|se (aS k) k<|se (aV k) k<|sn<|tn<|aK ?_
  obtain rfl:=so h
  exact ⟨bU [(4,.int y5.2)] [(0,⟨2,List.map (ow eS) y5.1⟩)] 1 [1,2,3] ⟨1,true,none,true⟩,(aE (σ:=sg [(0,0)]) ⟨(e1 k k),trivial⟩ (hB (cY.plainO _) k k k<|trivial) k),k,⟨_,k,.inl k⟩,⟨k,trivial⟩⟩
def oX (a0:Qv) (a1:Int):Option ((List Int)×(List Int)×Int):=
 Option.bind (fY a0.src a1) fun v1=>
 bif decide (v1.1.length=a0.src.length) then
 (Option.bind (fY a0.tgt v1.2) fun v3=>
 bif decide (v3.1.length=a0.tgt.length) then
 (some (v1.1,v3.1,v3.2))
 else none)
 else none
theorem aDd (a0:Qv) (a1:Int) (r:((List Int)×(List Int)×Int)) (h:oX a0 a1=some r):HasE Tryz.prog 69 [.agg [.int a0.n,.own 0 0 a0.src.length,.own 1 0 a0.tgt.length],.int a1] [(0,⟨1,List.map (ow eI) a0.src⟩),(1,⟨1,List.map (ow eI) a0.tgt⟩)] 2 (.int r.2.2) [(0,⟨1,List.map (ow eI) r.1⟩),(1,⟨1,List.map (ow eI) r.2.1⟩)]:=by
 refine qV aA (rvs:=[.tmp 4]) (ns:=[2,3,4]) Tryz.func69 k k Tryz.ntmps69 k k<|sQ<|rg<|ae (cD k k k k) k<|aa k k<|an<|tn<|sQ<|rg<|ae (aD aA k k k k k k k) k ?_
 refine ae (aC aA k k k k k k k) k<|am k k ?_
 obtain ⟨v1,hv1,h⟩:=ob h
 refine ae (gB (σ:=sg [(0,0)]) (σ':=sg [(0,0)]) (touch:=[0]) (news:=[]) (hl2:=[(0,⟨1,List.map (ow eI) v1.1⟩)]) (n':=3) (r2:= .int v1.2) (kF a0.src a1 v1 hv1) k k ⟨_,_,k,⟨k,k,k,k⟩,⟨_,_,k,k,k⟩⟩ ⟨⟨_,k,k,.inl ⟨k,dK.plainO _⟩⟩,k,trivial⟩ k k k ⟨⟨_,k,k,.inl ⟨k,dK.plainO _⟩⟩,k,trivial⟩ k k k ⟨k,dK.tame _ _,trivial⟩ k k) k ?_
 obtain ⟨q2,h⟩:=cg h
 refine aa k k<|an<|tn<|sQ<|rg<|ae (aD aA k k k k k k k) k<|ae (aC aA k k k k k k k) k<|am k k ?_
 obtain ⟨v3,hv3,h⟩:=ob h
 refine ae (gB (σ:=sg [(0,1)]) (σ':=sg [(1,0)]) (touch:=[1]) (news:=[]) (hl2:=[(1,⟨1,List.map (ow eI) v3.1⟩)]) (n':=3) (r2:= .int v3.2) (kF a0.tgt v1.2 v3 hv3) k k ⟨_,_,k,⟨k,k,k,k⟩,⟨_,_,k,k,k⟩⟩ ⟨⟨_,k,k,.inl ⟨k,dK.plainO _⟩⟩,k,trivial⟩ k k k ⟨⟨_,k,k,.inl ⟨k,dK.plainO _⟩⟩,k,trivial⟩ k k k ⟨k,dK.tame _ _,trivial⟩ k k) k ?_
 obtain ⟨q4,h⟩:=cg h
 refine aa k k<|an<|tn<|aO (t:=bU [(1,.int v3.2)] [(0,⟨1,List.map (ow eI) v1.1⟩),(1,⟨1,List.map (ow eI) v3.1⟩)] 3 [3,4] 2) (aE (σ:=sg [(0,0),(1,1)]) ⟨(e1 k k),trivial⟩ (hI k k k<|hI k k k<|trivial) k)<|sQ<|rg<|am k k<|aa k k<|an<|tn ?_
 refine aK ?_
 obtain rfl:=so h
 exact ⟨bU [(4,.int v3.2)] [(0,⟨1,List.map (ow eI) v1.1⟩),(1,⟨1,List.map (ow eI) v3.1⟩)] 2 [2,3,4] 2,(aE (σ:=sg [(0,0),(1,1)]) ⟨(e1 k k),trivial⟩ (hI k k k<|hI k k k<|trivial) k),k,⟨_,k,.inl k⟩,⟨k,k,trivial⟩⟩
def jT (x1:((List Mt)×Int×Int)):Option (((List Mt)×Int×Int) ⊕ ((List Mt)×Int)):=
 bif decide (x1.2.2<((x1.1.length:Nat):Int)) then
 (Option.bind (dX x1.1 x1.2.2) fun v2=>
 Option.bind (fY v2.cells (wr ((wr (x1.2.1+1))+1))) fun v3=>
 bif decide (v3.1.length=v2.cells.length) then
 (some (.inl ((x1.1.set x1.2.2.toNat (⟨x1.2.1,wr (x1.2.1+1),v3.1⟩:Mt)),v3.2,wr (x1.2.2+1))))
 else none)
 else
 (some (.inr (x1.1,x1.2.1)))
def mT (a0:(List Mt)) (a1:Int):Option ((List Mt)×Int):=
 Option.bind (Lp jT (a0,a1,0)) fun y5=>
 some (y5.1,y5.2)
theorem aCX (a0:(List Mt)) (a1:Int) (r:((List Mt)×Int)) (h:mT a0 a1=some r):HasT Tryz.prog 70 [.own 0 0 a0.length,.int a1] [(0,⟨3,List.map (ow eM) a0⟩)] 1 (.int r.2) [(0,⟨3,List.map (ow eM) r.1⟩)]:=by
 refine aDN aA (rvs:=[.tmp 4]) (ns:=[1,2,3]) Tryz.func70 k k Tryz.ntmps70 k k<|sQ<|fE<|se (aV k) k<|sn<|tn<|sQ<|sQ<|fE<|se (aV k) k ?_
 refine sn<|tn<|aL ?_
 obtain ⟨y5,hy5,h⟩:=ob h
 refine cV (body:=jT) hy5 (fun (x1:((List Mt)×Int×Int))=>bU [(0,.own 0 0 x1.1.length),(1,.int x1.2.1),(5,.int x1.2.2)] [(0,⟨3,List.map (ow eM) x1.1⟩)] 1 [1,2,3] ⟨1,true,none,true⟩) (fun r e t=>e= .exit 0∧Ent t (bU [(1,.int r.2)] [(0,⟨3,List.map (ow eM) r.1⟩)] 1 [1,2,3] ⟨1,true,none,true⟩)) (aE (σ:=sg [(0,0)]) ⟨(oE k k),(e1 k k),(e1 k k),trivial⟩ (hB (mH.plainO _) k k k<|trivial) k) ?_ ?_
 ·intro x1 o h
  refine sQ<|sQ<|fE<|se (aS k) k<|se (aS k) k<|se (bV aA k k k k) k<|se (bD k k k) k<|sn<|tn ?_
  rcases cb h with ⟨q1,h⟩|⟨q1,h⟩
  ·refine aJ k q1<|aR<|tn<|sQ<|aL<|sQ<|fE<|se (aS k) k<|se (aS k) k<|se (aS k) k ?_
   obtain ⟨v2,hv2,h⟩:=ob h
   refine fV (t:=bU [(0,.own 0 0 x1.1.length),(1,.int x1.2.1),(5,.int x1.2.2),(6,.int x1.2.2),(7,.own 0 0 x1.1.length),(8,.int ((x1.1.length:Nat):Int)),(9,.bl (decide (x1.2.2<((x1.1.length:Nat):Int)))),(12,.own 0 0 x1.1.length),(13,.int x1.2.2),(14,.int x1.2.1)] [(0,⟨3,(List.map (ow eM) x1.1).set x1.2.2.toNat [.int v2.rows,.int v2.cols,.abs 1 (List.map eI v2.cells)]⟩)] 1 [1,2,3] ⟨1,true,none,true⟩) (aE (σ:=sg [(0,0)]) ⟨(oE k k),(e1 k k),(e1 k k),(e1 k k),(oE k k),(e1 k k),(e1 k k),(oE k k),(e1 k k),(e1 k k),trivial⟩ (hX ⟨_,k,k,.inl ⟨aDR (dI hv2),aBe mH k⟩⟩ k<|trivial) k)<|fV (aBf (b:=0) (c:=1) (i:=x1.2.2.toNat) (j:=2) (n:=v2.cells.length) (A:=List.map (ow eM) x1.1) (fs:=List.map (ow eI) v2.cells) (by rw [List.length_map];exact dB hv2) k k k k (bC _ _) (cO _ _) (zF ⟨k,k,k,k,k,k,k,k,k,k,trivial⟩) (zG (skip:=[]) ⟨.inr (mH.dfS _ _ _ k),trivial⟩))<|fV (t:=bU [(0,.own 0 0 x1.1.length),(1,.int x1.2.1),(5,.int x1.2.2),(6,.int x1.2.2),(7,.own 0 0 x1.1.length),(8,.int ((x1.1.length:Nat):Int)),(9,.bl (decide (x1.2.2<((x1.1.length:Nat):Int)))),(12,.own 0 0 x1.1.length),(13,.int x1.2.2),(14,.int x1.2.1)] [(0,⟨3,(List.map (ow eM) x1.1).set x1.2.2.toNat [.int v2.rows,.int v2.cols,.own 1 0 v2.cells.length]⟩),(1,⟨1,List.map (ow eI) v2.cells⟩)] 2 [2,3] ⟨1,true,none,true⟩) (aE (σ:=sg [(0,0),(1,1)]) ⟨(oE k k),(e1 k k),(e1 k k),(e1 k k),(oE k k),(e1 k k),(e1 k k),(oE k k),(e1 k k),(e1 k k),trivial⟩ (hX ⟨_,k,k,.inr (yP (σ:=sg [(0,0),(1,1)]) (m:=2) (e:=eM) (l:=x1.1) (i:=x1.2.2.toNat) (c:=[.int v2.rows,.int v2.cols,.own 1 0 v2.cells.length]) (d:=[.int v2.rows,.int v2.cols,.own 1 0 v2.cells.length]) mH ⟨_,_,k,k,⟨_,_,k,k,⟨_,_,k,⟨k,k,k,k⟩,k⟩⟩⟩)⟩ k<|hI k k k<|trivial) k) ?_
   refine se (cT aA (eD hv2) (dB hv2) k k k k k k k) k<|se (aD aA k k k k k k k) k<|se (aGz aA (A:=List.map (ow eM) x1.1) (by rw [List.length_map];exact dB hv2) k k k k k k k) k<|sn<|tn<|sQ<|fE<|se (aS k) k<|se (bW k k) k<|se (aV k) k ?_
   refine sn<|tn<|sQ<|fE<|se (aS k) k<|se (aS k) k<|se (aS k) k<|se (cT aA (eD hv2) (dB hv2) k k k k k k k) k<|se (aD aA k k k k k k k) k<|se (aGz aA (A:=List.map (ow eM) x1.1) (by rw [List.length_map];exact dB hv2) k k k k k k k) k ?_
   refine sn<|tn<|sQ<|fE<|se (aS k) k<|se (bW k k) k<|se (aV k) k<|sn<|tn<|aO (t:=bU [(0,.own 0 0 x1.1.length),(1,.int (wr ((wr (x1.2.1+1))+1))),(5,.int x1.2.2)] [(0,⟨3,(List.map (ow eM) x1.1).set x1.2.2.toNat [.int x1.2.1,.int (wr (x1.2.1+1)),.own 1 0 v2.cells.length]⟩),(1,⟨1,List.map (ow eI) v2.cells⟩)] 2 [2,3] ⟨1,true,none,true⟩) (aE (σ:=sg [(0,0),(1,1)]) ⟨(oE k k),(e1 k k),(e1 k k),trivial⟩ (hX ⟨_,k,k,.inr (yP (σ:=sg [(0,0),(1,1)]) (m:=2) (e:=eM) (l:=x1.1) (i:=x1.2.2.toNat) (c:=[.int x1.2.1,.int (wr (x1.2.1+1)),.own 1 0 v2.cells.length]) (d:=[.int x1.2.1,.int (wr (x1.2.1+1)),.own 1 0 v2.cells.length]) mH ⟨_,_,k,k,⟨_,_,k,k,⟨_,_,k,⟨k,k,k,k⟩,k⟩⟩⟩)⟩ k<|hI k k k<|trivial) k) ?_
   refine fE<|se (aS k) k<|se (aS k) k<|se (cT aA (eD hv2) (dB hv2) k k k k k k k) k<|se (aD aA k k k k k k k) k<|se (aC aA k k k k (aJO (dB hv2)) k k) k<|se (aS k) k ?_
   obtain ⟨v3,hv3,h⟩:=ob h
   refine se (gB (σ:=sg [(0,1)]) (σ':=sg [(1,0)]) (touch:=[1]) (news:=[]) (hl2:=[(1,⟨1,List.map (ow eI) v3.1⟩)]) (n':=2) (r2:= .int v3.2) (kF v2.cells (wr ((wr (x1.2.1+1))+1)) v3 hv3) k k ⟨_,_,k,⟨k,k,k,k⟩,⟨_,_,k,k,k⟩⟩ ⟨⟨_,k,k,.inl ⟨k,dK.plainO _⟩⟩,k,trivial⟩ k k k ⟨⟨_,k,k,.inl ⟨k,dK.plainO _⟩⟩,k,trivial⟩ k k k ⟨k,dK.tame _ _,trivial⟩ k k) k ?_
   obtain ⟨q4,h⟩:=cg h
   refine se (aV k) k<|sn<|bF<|tn<|fE<|se (aS k) k<|se (bW k k) k<|se (aV k) k<|sn<|tn ?_
   obtain rfl:=so h
   exact ⟨_,k,(Ent.trans (show Ent _ (bU [(0,.own 0 0 ((x1.1.set x1.2.2.toNat (⟨x1.2.1,wr (x1.2.1+1),v3.1⟩:Mt)).length)),(1,.int v3.2),(5,.int (wr (x1.2.2+1)))] [(0,⟨3,List.map (ow eM) (x1.1.set x1.2.2.toNat (⟨x1.2.1,wr (x1.2.1+1),v3.1⟩:Mt))⟩)] 2 [2,3] ⟨1,true,none,true⟩) from (Ent.trans (aBA (b:=0) (b':=1) (j:=2) (es':=List.map eI v3.1) (by rw [List.length_map];exact dB hv2) k k k k (by simp only [bC,lA,lT,lR,lC,lN,of_decide_eq_true q4]) (dK.frzs _)) (aE (σ:=sg [(0,0)]) ⟨⟨_,k,⟨k,k,(by simp only [bC,lA,lT,lR,lC,lN,of_decide_eq_true q4]),k⟩⟩,(e1 k k),(e1 k k),trivial⟩ (hX ⟨_,k,k,.inl ⟨aGp (⟨x1.2.1,wr (x1.2.1+1),v3.1⟩:Mt) k,mH.plainO _⟩⟩ k<|trivial) k))) (aE (σ:=sg [(0,0)]) ⟨(oE k k),(e1 k k),(e1 k k),trivial⟩ (hB (mH.plainO _) k k k<|trivial) k))⟩
  ·refine aN k q1<|bH<|aH<|aH ?_
   obtain rfl:=so h
   exact ⟨_,k,k,(aE (σ:=sg [(0,0)]) ⟨(e1 k k),trivial⟩ (hB (mH.plainO _) k k k<|trivial) k)⟩
 ·rintro e t ⟨rfl,hent⟩
  refine aX<|tn<|aO hent<|sQ<|fE<|se (aS k) k<|se (aV k) k<|sn<|tn<|aK ?_
  obtain rfl:=so h
  exact ⟨bU [(4,.int y5.2)] [(0,⟨3,List.map (ow eM) y5.1⟩)] 1 [1,2,3] ⟨1,true,none,true⟩,(aE (σ:=sg [(0,0)]) ⟨(e1 k k),trivial⟩ (hB (mH.plainO _) k k k<|trivial) k),k,⟨_,k,.inl k⟩,⟨k,trivial⟩⟩
def tZ (a0:Rp) (a1:Int):Option ((List Int)×(List Int)×(List Int)×(List Mt)×Int):=
 Option.bind (oX a0.q a1) fun v1=>
 bif decide (v1.1.length=a0.q.src.length) then
 (bif decide (v1.2.1.length=a0.q.tgt.length) then
 (Option.bind (fY a0.dims v1.2.2) fun v4=>
 bif decide (v4.1.length=a0.dims.length) then
 (Option.bind (mT a0.maps v4.2) fun v6=>
 bif decide (v6.1.length=a0.maps.length) then
 (some (v1.1,v1.2.1,v4.1,v6.1,v6.2))
 else none)
 else none)
 else none)
 else none
theorem aHM (a0:Rp) (a1:Int) (r:((List Int)×(List Int)×(List Int)×(List Mt)×Int)) (h:tZ a0 a1=some r):HasT Tryz.prog 19 [.agg [.int a0.p,.int a0.q.n,.own 0 0 a0.q.src.length,.own 1 0 a0.q.tgt.length,.own 2 0 a0.dims.length,.own 3 0 a0.maps.length],.int a1] [(0,⟨1,List.map (ow eI) a0.q.src⟩),(1,⟨1,List.map (ow eI) a0.q.tgt⟩),(2,⟨1,List.map (ow eI) a0.dims⟩),(3,⟨3,List.map (ow eM) a0.maps⟩)] 4 (.int r.2.2.2.2) [(0,⟨1,List.map (ow eI) r.1⟩),(1,⟨1,List.map (ow eI) r.2.1⟩),(2,⟨1,List.map (ow eI) r.2.2.1⟩),(3,⟨3,List.map (ow eM) r.2.2.2.1⟩)]:=by
 refine aDN aA (rvs:=[.tmp 4]) (ns:=[4,5,6]) Tryz.func19 k k Tryz.ntmps19 k k<|sQ<|fE<|se (cD k k k k) k<|se (aV k) k<|sn<|tn<|sQ<|fE<|se (aD aA k k k k k k k) k ?_
 refine se (aC aA k k k k k k k) k<|se (aS k) k ?_
 obtain ⟨v1,hv1,h⟩:=ob h
 refine se (gB (σ:=sg [(0,0),(1,1)]) (σ':=sg [(0,0),(1,1)]) (touch:=[0,1]) (news:=[]) (hl2:=[(0,⟨1,List.map (ow eI) v1.1⟩),(1,⟨1,List.map (ow eI) v1.2.1⟩)]) (n':=5) (r2:= .int v1.2.2) (aDd a0.q a1 v1 hv1) k k ⟨_,_,k,⟨_,_,k,k,⟨_,_,k,⟨k,k,k,k⟩,⟨_,_,k,⟨k,k,k,k⟩,k⟩⟩⟩,⟨_,_,k,k,k⟩⟩ ⟨⟨_,k,k,.inl ⟨k,dK.plainO _⟩⟩,k,⟨_,k,k,.inl ⟨k,dK.plainO _⟩⟩,k,trivial⟩ k k k ⟨⟨_,k,k,.inl ⟨k,dK.plainO _⟩⟩,k,⟨_,k,k,.inl ⟨k,dK.plainO _⟩⟩,k,trivial⟩ k k k ⟨k,dK.tame _ _,⟨k,dK.tame _ _,trivial⟩⟩ k k) k ?_
 obtain ⟨q2,h⟩:=cg h
 obtain ⟨q3,h⟩:=cg h
 refine se (aV k) k<|sn<|tn<|sQ<|fE<|se (aD aA k k k k k k k) k<|se (aC aA k k k k k k k) k<|se (aS k) k ?_
 obtain ⟨v4,hv4,h⟩:=ob h
 refine se (gB (σ:=sg [(0,2)]) (σ':=sg [(2,0)]) (touch:=[2]) (news:=[]) (hl2:=[(2,⟨1,List.map (ow eI) v4.1⟩)]) (n':=5) (r2:= .int v4.2) (kF a0.dims v1.2.2 v4 hv4) k k ⟨_,_,k,⟨k,k,k,k⟩,⟨_,_,k,k,k⟩⟩ ⟨⟨_,k,k,.inl ⟨k,dK.plainO _⟩⟩,k,trivial⟩ k k k ⟨⟨_,k,k,.inl ⟨k,dK.plainO _⟩⟩,k,trivial⟩ k k k ⟨k,dK.tame _ _,trivial⟩ k k) k ?_
 obtain ⟨q5,h⟩:=cg h
 refine se (aV k) k<|sn<|tn<|aO (t:=bU [(1,.int v4.2),(2,.ptr 4 0 0)] [(0,⟨1,List.map (ow eI) v1.1⟩),(1,⟨1,List.map (ow eI) v1.2.1⟩),(2,⟨1,List.map (ow eI) v4.1⟩),(3,⟨3,List.map (ow eM) a0.maps⟩),(4,⟨6,[[.int a0.p,.int a0.q.n,.own 0 0 v1.1.length,.own 1 0 v1.2.1.length,.own 2 0 v4.1.length,.own 3 0 a0.maps.length]]⟩)] 5 [5,6] ⟨4,true,none,true⟩) (aE (σ:=sg [(0,0),(1,1),(2,2),(3,3),(4,4)]) ⟨(e1 k k),(pE k k),trivial⟩ (hI k k k<|hI k k k<|hI k k k<|hB (mH.plainO _) k k k<|hX ⟨_,k,k,.inr ⟨_,_,k,⟨_,_,k,k,⟨_,_,k,k,⟨_,_,k,⟨k,k,(by simp only [bC,lA,lT,lR,lC,lN,of_decide_eq_true q2]),k⟩,⟨_,_,k,⟨k,k,(by simp only [bC,lA,lT,lR,lC,lN,of_decide_eq_true q3]),k⟩,⟨_,_,k,⟨k,k,(by simp only [bC,lA,lT,lR,lC,lN,of_decide_eq_true q5]),k⟩,⟨_,_,k,⟨k,k,k,k⟩,k⟩⟩⟩⟩⟩⟩,k⟩⟩ k<|trivial) k)<|sQ<|fE<|se (aD aA k k k k k k k) k<|se (aC aA k k k k k k k) k<|se (aS k) k ?_
 obtain ⟨v6,hv6,h⟩:=ob h
 refine fV (t:=bU [(1,.int v4.2),(2,.ptr 4 0 0),(13,.ptr 4 0 5),(14,.own 3 0 a0.maps.length),(15,.int v4.2)] [(0,⟨1,List.map (ow eI) v1.1⟩),(1,⟨1,List.map (ow eI) v1.2.1⟩),(2,⟨1,List.map (ow eI) v4.1⟩),(3,⟨3,List.map (ow eM) a0.maps⟩),(4,⟨6,[[.int a0.p,.int a0.q.n,.own 0 0 v1.1.length,.own 1 0 v1.2.1.length,.own 2 0 v4.1.length,.own 3 0 a0.maps.length]]⟩)] 5 [5,6] ⟨4,true,none,true⟩) (aE (σ:=sg [(0,0),(1,1),(2,2),(3,3),(4,4)]) ⟨(e1 k k),(pE k k),(pE k k),(oE k k),(e1 k k),trivial⟩ (hI k k k<|hI k k k<|hI k k k<|hB (mH.plainO _) k k k<|hX ⟨_,k,k,.inr ⟨_,_,k,⟨_,_,k,k,⟨_,_,k,k,⟨_,_,k,⟨k,k,k,k⟩,⟨_,_,k,⟨k,k,k,k⟩,⟨_,_,k,⟨k,k,k,k⟩,⟨_,_,k,⟨k,k,k,k⟩,k⟩⟩⟩⟩⟩⟩,k⟩⟩ k<|trivial) k)<|aGt (σ:=sg [(0,3)]) (σ':=sg [(3,0)]) (touch:=[3]) (news:=[]) (hl2:=[(3,⟨3,List.map (ow eM) v6.1⟩)]) (n':=5) (r2:= .int v6.2) (aCX a0.maps v4.2 v6 hv6) k k ⟨_,_,k,⟨k,k,k,k⟩,⟨_,_,k,k,k⟩⟩ ⟨⟨_,k,k,.inl ⟨k,mH.plainO _⟩⟩,k,trivial⟩ k k k ⟨⟨_,k,k,.inl ⟨k,mH.plainO _⟩⟩,k,trivial⟩ k k k ⟨k,mH.tame _ _,trivial⟩ k k k k k (zF ⟨k,k,k,k,k,trivial⟩) (zG (skip:=[3]) ⟨.inr (dK.df _ _),.inr (dK.df _ _),.inr (dK.df _ _),.inl (by decide),.inr (aOz k),trivial⟩) ?_
 obtain ⟨q7,h⟩:=cg h
 refine se (aV k) k<|sn<|tn<|sQ<|fE<|se (aS k) k<|se (aV k) k<|sn<|tn<|aK ?_
 obtain rfl:=so h
 exact ⟨bU [(4,.int v6.2)] [(0,⟨1,List.map (ow eI) v1.1⟩),(1,⟨1,List.map (ow eI) v1.2.1⟩),(2,⟨1,List.map (ow eI) v4.1⟩),(3,⟨3,List.map (ow eM) v6.1⟩)] 4 [4,5,6] ⟨4,true,none,true⟩,(aE (σ:=sg [(0,0),(1,1),(2,2),(3,3)]) ⟨(e1 k k),trivial⟩ (hI k k k<|hI k k k<|hI k k k<|hB (mH.plainO _) k k k<|trivial) k),k,⟨_,k,.inl k⟩,⟨k,k,k,k,trivial⟩⟩
def jU (x1:((List (List Sc))×Int×Int)):Option (((List (List Sc))×Int×Int) ⊕ ((List (List Sc))×Int)):=
 bif decide (x1.2.2<((x1.1.length:Nat):Int)) then
 (Option.bind (dX x1.1 x1.2.2) fun v2=>
 Option.bind (oW v2 x1.2.1) fun v3=>
 bif decide (v3.1.length=v2.length) then
 (some (.inl ((x1.1.set x1.2.2.toNat v3.1),v3.2,wr (x1.2.2+1))))
 else none)
 else
 (some (.inr (x1.1,x1.2.1)))
def mU (a0:(List (List Sc))) (a1:Int):Option ((List (List Sc))×Int):=
 Option.bind (Lp jU (a0,a1,0)) fun y5=>
 some (y5.1,y5.2)
theorem aCY (a0:(List (List Sc))) (a1:Int) (r:((List (List Sc))×Int)) (h:mU a0 a1=some r):HasT Tryz.prog 34 [.own 0 0 a0.length,.int a1] [(0,⟨1,List.map (ow (cU 2 eS)) a0⟩)] 1 (.int r.2) [(0,⟨1,List.map (ow (cU 2 eS)) r.1⟩)]:=by
 refine aDN aA (rvs:=[.tmp 4]) (ns:=[1,2,3]) Tryz.func34 k k Tryz.ntmps34 k k<|sQ<|fE<|se (aV k) k<|sn<|tn<|sQ<|sQ<|fE<|se (aV k) k ?_
 refine sn<|tn<|aL ?_
 obtain ⟨y5,hy5,h⟩:=ob h
 refine cV (body:=jU) hy5 (fun (x1:((List (List Sc))×Int×Int))=>bU [(0,.own 0 0 x1.1.length),(1,.int x1.2.1),(5,.int x1.2.2)] [(0,⟨1,List.map (ow (cU 2 eS)) x1.1⟩)] 1 [1,2,3] ⟨1,true,none,true⟩) (fun r e t=>e= .exit 0∧Ent t (bU [(1,.int r.2)] [(0,⟨1,List.map (ow (cU 2 eS)) r.1⟩)] 1 [1,2,3] ⟨1,true,none,true⟩)) (aE (σ:=sg [(0,0)]) ⟨(oE k k),(e1 k k),(e1 k k),trivial⟩ (hB (cG.plainO _) k k k<|trivial) k) ?_ ?_
 ·intro x1 o h
  refine sQ<|sQ<|fE<|se (aS k) k<|se (aS k) k<|se (bV aA k k k k) k<|se (bD k k k) k<|sn<|tn ?_
  rcases cb h with ⟨q1,h⟩|⟨q1,h⟩
  ·refine aJ k q1<|aR<|tn<|sQ<|aL<|fE<|se (aS k) k<|se (aS k) k ?_
   obtain ⟨v2,hv2,h⟩:=ob h
   refine fV (t:=bU [(0,.own 0 0 x1.1.length),(1,.int x1.2.1),(5,.int x1.2.2),(6,.int x1.2.2),(7,.own 0 0 x1.1.length),(8,.int ((x1.1.length:Nat):Int)),(9,.bl (decide (x1.2.2<((x1.1.length:Nat):Int)))),(12,.own 0 0 x1.1.length),(13,.int x1.2.2)] [(0,⟨1,(List.map (ow (cU 2 eS)) x1.1).set x1.2.2.toNat [.abs 2 (List.map eS v2)]⟩)] 1 [1,2,3] ⟨1,true,none,true⟩) (aE (σ:=sg [(0,0)]) ⟨(oE k k),(e1 k k),(e1 k k),(e1 k k),(oE k k),(e1 k k),(e1 k k),(oE k k),(e1 k k),trivial⟩ (hX ⟨_,k,k,.inl ⟨aDR (dI hv2),aBe cG k⟩⟩ k<|trivial) k)<|fV (aBf (b:=0) (c:=1) (i:=x1.2.2.toNat) (j:=0) (n:=v2.length) (A:=List.map (ow (cU 2 eS)) x1.1) (fs:=List.map (ow eS) v2) (by rw [List.length_map];exact dB hv2) k k k k (bC _ _) (cO _ _) (zF ⟨k,k,k,k,k,k,k,k,k,trivial⟩) (zG (skip:=[]) ⟨.inr (cG.dfS _ _ _ k),trivial⟩))<|fV (t:=bU [(0,.own 0 0 x1.1.length),(1,.int x1.2.1),(5,.int x1.2.2),(6,.int x1.2.2),(7,.own 0 0 x1.1.length),(8,.int ((x1.1.length:Nat):Int)),(9,.bl (decide (x1.2.2<((x1.1.length:Nat):Int)))),(12,.own 0 0 x1.1.length),(13,.int x1.2.2)] [(0,⟨1,(List.map (ow (cU 2 eS)) x1.1).set x1.2.2.toNat [.own 1 0 v2.length]⟩),(1,⟨2,List.map (ow eS) v2⟩)] 2 [2,3] ⟨1,true,none,true⟩) (aE (σ:=sg [(0,0),(1,1)]) ⟨(oE k k),(e1 k k),(e1 k k),(e1 k k),(oE k k),(e1 k k),(e1 k k),(oE k k),(e1 k k),trivial⟩ (hX ⟨_,k,k,.inr (yP (σ:=sg [(0,0),(1,1)]) (m:=2) (e:=(cU 2 eS)) (l:=x1.1) (i:=x1.2.2.toNat) (c:=[.own 1 0 v2.length]) (d:=[.own 1 0 v2.length]) cG ⟨_,_,k,⟨k,k,k,k⟩,k⟩)⟩ k<|hB (cY.plainO _) k k k<|trivial) k) ?_
   refine se (cT aA (eD hv2) (dB hv2) k k k k k k k) k<|se (aC aA k k k k (aJO (dB hv2)) k k) k<|se (aS k) k ?_
   obtain ⟨v3,hv3,h⟩:=ob h
   refine fV (t:=bU [(0,.own 0 0 x1.1.length),(1,.int x1.2.1),(5,.int x1.2.2),(6,.int x1.2.2),(7,.own 0 0 x1.1.length),(8,.int ((x1.1.length:Nat):Int)),(9,.bl (decide (x1.2.2<((x1.1.length:Nat):Int)))),(12,.own 0 0 x1.1.length),(13,.int x1.2.2),(14,.ptr 0 x1.2.2.toNat 0),(15,.own 1 0 v2.length),(16,.int x1.2.1)] [(0,⟨1,(List.map (ow (cU 2 eS)) x1.1).set x1.2.2.toNat [.own 1 0 v2.length]⟩),(1,⟨2,List.map (ow eS) v2⟩)] 2 [2,3] ⟨1,true,none,true⟩) (aE (σ:=sg [(0,0),(1,1)]) ⟨(oE k k),(e1 k k),(e1 k k),(e1 k k),(oE k k),(e1 k k),(e1 k k),(oE k k),(e1 k k),(pE k k),(oE k k),(e1 k k),trivial⟩ (hX ⟨_,k,k,.inr (yP (σ:=sg [(0,0),(1,1)]) (m:=2) (e:=(cU 2 eS)) (l:=x1.1) (i:=x1.2.2.toNat) (c:=[.own 1 0 v2.length]) (d:=[.own 1 0 v2.length]) cG ⟨_,_,k,⟨k,k,k,k⟩,k⟩)⟩ k<|hB (cY.plainO _) k k k<|trivial) k)<|aGt (σ:=sg [(0,1)]) (σ':=sg [(1,0)]) (touch:=[1]) (news:=[]) (hl2:=[(1,⟨2,List.map (ow eS) v3.1⟩)]) (n':=2) (r2:= .int v3.2) (aDc v2 x1.2.1 v3 hv3) k k ⟨_,_,k,⟨k,k,k,k⟩,⟨_,_,k,k,k⟩⟩ ⟨⟨_,k,k,.inl ⟨k,cY.plainO _⟩⟩,k,trivial⟩ k k k ⟨⟨_,k,k,.inl ⟨k,cY.plainO _⟩⟩,k,trivial⟩ k k k ⟨k,cY.tame _ _,trivial⟩ k k k k k (zF ⟨k,k,k,k,k,k,k,k,k,k,k,k,trivial⟩) (zG (skip:=[1]) ⟨.inr (cG.dfS _ _ _ k),.inl (by decide),trivial⟩) ?_
   obtain ⟨q4,h⟩:=cg h
   refine se (aV k) k<|sn<|bF<|tn<|fE<|se (aS k) k<|se (bW k k) k<|se (aV k) k<|sn<|tn ?_
   obtain rfl:=so h
   exact ⟨_,k,(Ent.trans (show Ent _ (bU [(0,.own 0 0 ((x1.1.set x1.2.2.toNat v3.1).length)),(1,.int v3.2),(5,.int (wr (x1.2.2+1)))] [(0,⟨1,List.map (ow (cU 2 eS)) (x1.1.set x1.2.2.toNat v3.1)⟩)] 2 [2,3] ⟨1,true,none,true⟩) from (Ent.trans (aBA (b:=0) (b':=1) (j:=0) (es':=List.map eS v3.1) (by rw [List.length_map];exact dB hv2) k k k k (by simp only [bC,lA,lT,lR,lC,lN,of_decide_eq_true q4]) (cY.frzs _)) (aE (σ:=sg [(0,0)]) ⟨⟨_,k,⟨k,k,(by simp only [bC,lA,lT,lR,lC,lN,of_decide_eq_true q4]),k⟩⟩,(e1 k k),(e1 k k),trivial⟩ (hX ⟨_,k,k,.inl ⟨aGp v3.1 k,cG.plainO _⟩⟩ k<|trivial) k))) (aE (σ:=sg [(0,0)]) ⟨(oE k k),(e1 k k),(e1 k k),trivial⟩ (hB (cG.plainO _) k k k<|trivial) k))⟩
  ·refine aN k q1<|bH<|aH<|aH ?_
   obtain rfl:=so h
   exact ⟨_,k,k,(aE (σ:=sg [(0,0)]) ⟨(e1 k k),trivial⟩ (hB (cG.plainO _) k k k<|trivial) k)⟩
 ·rintro e t ⟨rfl,hent⟩
  refine aX<|tn<|aO hent<|sQ<|fE<|se (aS k) k<|se (aV k) k<|sn<|tn<|aK ?_
  obtain rfl:=so h
  exact ⟨bU [(4,.int y5.2)] [(0,⟨1,List.map (ow (cU 2 eS)) y5.1⟩)] 1 [1,2,3] ⟨1,true,none,true⟩,(aE (σ:=sg [(0,0)]) ⟨(e1 k k),trivial⟩ (hB (cG.plainO _) k k k<|trivial) k),k,⟨_,k,.inl k⟩,⟨k,trivial⟩⟩
def mV (a0:(List Int)) (x1:(Int×Int)):Option ((Int×Int) ⊕ (Int ⊕ Int)):=
 bif decide (x1.2<(a0.length:Int)) then
 (Option.bind (dX a0 x1.2) fun v2=>
 bif !decide (v2=x1.1) then
 (some (.inr (.inr ((-1)))))
 else
 (some (.inl (wr (x1.1+1),wr (x1.2+1)))))
 else
 (some (.inr (.inl x1.1)))
def rL (a0:(List Int)) (a1:Int):Option Int:=
 Option.bind (Lp (mV a0) (a1,0)) fun y4=>
 Sum.elim (fun y5=>
 some (y5)
 )
 (fun y6=>
 some y6
 )
 y4
theorem aFl (a0:(List Int)) (a1:Int) (r:Int) (h:rL a0 a1=some r):HasC Tryz.prog 77 [.list 1 (List.map eI a0),.int a1] (.int r):=by
 refine bN aA (rvs:=[.tmp 4]) (ns:=[0,1]) Tryz.func77 k k Tryz.ntmps77 k k k<|sQ<|rg<|aa k k<|an<|tn<|sQ<|sQ<|rg<|aa k k ?_
 refine an<|tn<|aL ?_
 obtain ⟨y4,hy4,h⟩:=ob h
 refine cV (body:=(mV a0)) hy4 (fun (x1:(Int×Int))=>bU [(0,.list 1 (List.map eI a0)),(1,.int x1.1),(5,.int x1.2)] [] 0 [0,1]) (fun r e t=>Sum.elim (fun a=>(fun r e t=>e= .exit 0∧Ent t (bU [(1,.int r)] [] 0 [0,1])) a e t) (fun b=>(fun r e t=>e= .ret∧nZ TT [.tmp 4] (.int r) .ret t) b e t) r) (aE (σ:=sg []) ⟨⟨_,k,⟨k,k⟩⟩,(e1 k k),(e1 k k),trivial⟩ trivial k) ?_ ?_
 ·intro x1 o h
  refine sQ<|sQ<|rg<|am k k<|am k k<|ae (dG aA k k k) k<|ae (bD k k k) k<|an<|tn ?_
  rcases cb h with ⟨q1,h⟩|⟨q1,h⟩
  ·refine aJ k q1<|aR<|tn<|sQ<|aL<|sQ<|sQ<|rg<|am k k<|am k k ?_
   obtain ⟨v2,hv2,h⟩:=ob h
   refine ae (bJ aA hv2 k k k k k k) k<|ae (aW aA k k k k k k) k<|am k k<|ae (bD k k k) k<|an<|tn ?_
   rcases cb h with ⟨q3,h⟩|⟨q3,h⟩
   ·refine aJ k q3<|sQ<|rg<|aa k k<|an<|tn<|aK<|aI<|bB<|aI ?_
    refine aI ?_
    obtain rfl:=so h
    exact ⟨_,k,k,aT k k k (cS k)⟩
   ·refine aN k q3<|aR<|tn<|rg<|am k k<|ae (bW k k) k<|aa k k<|an<|bF<|tn ?_
    refine aO (t:=bU [(0,.list 1 (List.map eI a0)),(1,.int (wr (x1.1+1))),(5,.int x1.2)] [] 0 [0,1]) (aE (σ:=sg []) ⟨⟨_,k,⟨k,k⟩⟩,(e1 k k),(e1 k k),trivial⟩ trivial k)<|rg<|am k k<|ae (bW k k) k<|aa k k<|an<|tn ?_
    obtain rfl:=so h
    exact ⟨_,k,(aE (σ:=sg []) ⟨⟨_,k,⟨k,k⟩⟩,(e1 k k),(e1 k k),trivial⟩ trivial k)⟩
  ·refine aN k q1<|bH<|aH<|aH ?_
   obtain rfl:=so h
   exact ⟨_,k,k,(aE (σ:=sg []) ⟨(e1 k k),trivial⟩ trivial k)⟩
 ·intro e t hX
  rcases y4 with y5|y6
  ·obtain ⟨rfl,hent⟩:=hX
   refine aX<|tn<|aO hent<|sQ<|rg<|am k k<|aa k k<|an<|tn<|aK ?_
   obtain rfl:=so h
   exact aT k k k (cS k)
  ·obtain ⟨rfl,hent⟩:=hX
   refine bB<|aI ?_
   obtain rfl:=so h
   exact hent
def lG (a0:(List (List Int))) (x1:(Int×Int)):Option ((Int×Int) ⊕ (Int ⊕ Int)):=
 bif decide (x1.2<(a0.length:Int)) then
 (Option.bind (dX a0 x1.2) fun v2=>
 Option.bind (rL v2 x1.1) fun v3=>
 bif decide (v3<0) then
 (some (.inr (.inr ((-1)))))
 else
 (some (.inl (v3,wr (x1.2+1)))))
 else
 (some (.inr (.inl x1.1)))
def qD (a0:(List (List Int))) (a1:Int):Option Int:=
 Option.bind (Lp (lG a0) (a1,0)) fun y5=>
 Sum.elim (fun y6=>
 some (y6)
 )
 (fun y7=>
 some y7
 )
 y5
theorem aEf (a0:(List (List Int))) (a1:Int) (r:Int) (h:qD a0 a1=some r):HasC Tryz.prog 47 [.list 1 (List.map (cU 1 eI) a0),.int a1] (.int r):=by
 refine bN aA (rvs:=[.tmp 4]) (ns:=[0,1]) Tryz.func47 k k Tryz.ntmps47 k k k<|sQ<|rg<|aa k k<|an<|tn<|sQ<|sQ<|rg<|aa k k ?_
 refine an<|tn<|aL ?_
 obtain ⟨y5,hy5,h⟩:=ob h
 refine cV (body:=(lG a0)) hy5 (fun (x1:(Int×Int))=>bU [(0,.list 1 (List.map (cU 1 eI) a0)),(1,.int x1.1),(5,.int x1.2)] [] 0 [0,1]) (fun r e t=>Sum.elim (fun a=>(fun r e t=>e= .exit 0∧Ent t (bU [(1,.int r)] [] 0 [0,1])) a e t) (fun b=>(fun r e t=>e= .ret∧nZ TT [.tmp 4] (.int r) .ret t) b e t) r) (aE (σ:=sg []) ⟨⟨_,k,⟨k,k⟩⟩,(e1 k k),(e1 k k),trivial⟩ trivial k) ?_ ?_
 ·intro x1 o h
  refine sQ<|sQ<|rg<|am k k<|am k k<|ae (dG aA k k k) k<|ae (bD k k k) k<|an<|tn ?_
  rcases cb h with ⟨q1,h⟩|⟨q1,h⟩
  ·refine aJ k q1<|aR<|tn<|sQ<|aL<|sQ<|rg<|am k k<|am k k ?_
   obtain ⟨v2,hv2,h⟩:=ob h
   refine ae (bJ aA hv2 k k k k k k) k<|ae (aW aA k k k k k k) k<|am k k ?_
   obtain ⟨v3,hv3,h⟩:=ob h
   refine ae (bE (aFl v2 x1.1 v3 hv3) k (aG (aM k) (aG (aM k) bG))) k<|aa k k<|an<|tn<|sQ<|rg<|am k k<|ae (bD k k k) k<|an<|tn ?_
   refine aO (t:=bU [(0,.list 1 (List.map (cU 1 eI) a0)),(1,.int v3),(5,.int x1.2),(19,.bl (decide (v3<0)))] [] 0 [0,1]) (aE (σ:=sg []) ⟨⟨_,k,⟨k,k⟩⟩,(e1 k k),(e1 k k),(e1 k k),trivial⟩ trivial k) ?_
   rcases cb h with ⟨q4,h⟩|⟨q4,h⟩
   ·refine aJ k q4<|sQ<|rg<|aa k k<|an<|tn<|aK<|bB<|aI<|aI ?_
    obtain rfl:=so h
    exact ⟨_,k,k,aT k k k (cS k)⟩
   ·refine aN k q4<|aR<|bF<|tn<|rg<|am k k<|ae (bW k k) k<|aa k k<|an<|tn ?_
    obtain rfl:=so h
    exact ⟨_,k,(aE (σ:=sg []) ⟨⟨_,k,⟨k,k⟩⟩,(e1 k k),(e1 k k),trivial⟩ trivial k)⟩
  ·refine aN k q1<|bH<|aH<|aH ?_
   obtain rfl:=so h
   exact ⟨_,k,k,(aE (σ:=sg []) ⟨(e1 k k),trivial⟩ trivial k)⟩
 ·intro e t hX
  rcases y5 with y6|y7
  ·obtain ⟨rfl,hent⟩:=hX
   refine aX<|tn<|aO hent<|sQ<|rg<|am k k<|aa k k<|an<|tn<|aK ?_
   obtain rfl:=so h
   exact aT k k k (cS k)
  ·obtain ⟨rfl,hent⟩:=hX
   refine bB<|aI ?_
   obtain rfl:=so h
   exact hent
def kP (a0:(List Sc)) (x1:(Int×Int)):Option ((Int×Int) ⊕ (Int ⊕ Int)):=
 bif decide (x1.2<(a0.length:Int)) then
 (Option.bind (dX a0 x1.2) fun v2=>
 bif !decide (v2.size=x1.1) then
 (some (.inr (.inr ((-1)))))
 else
 (Option.bind (dX a0 x1.2) fun v4=>
 Option.bind (qD v4.basis (wr (x1.1+1))) fun v5=>
 bif decide (v5<0) then
 (some (.inr (.inr ((-1)))))
 else
 (some (.inl (v5,wr (x1.2+1))))))
 else
 (some (.inr (.inl x1.1)))
def oY (a0:(List Sc)) (a1:Int):Option Int:=
 Option.bind (Lp (kP a0) (a1,0)) fun y7=>
 Sum.elim (fun y8=>
 some (y8)
 )
 (fun y9=>
 some y9
 )
 y7
theorem aDe (a0:(List Sc)) (a1:Int) (r:Int) (h:oY a0 a1=some r):HasC Tryz.prog 42 [.list 2 (List.map eS a0),.int a1] (.int r):=by
 refine bN aA (rvs:=[.tmp 4]) (ns:=[0,1]) Tryz.func42 k k Tryz.ntmps42 k k k<|sQ<|rg<|aa k k<|an<|tn<|sQ<|sQ<|rg<|aa k k ?_
 refine an<|tn<|aL ?_
 obtain ⟨y7,hy7,h⟩:=ob h
 refine cV (body:=(kP a0)) hy7 (fun (x1:(Int×Int))=>bU [(0,.list 2 (List.map eS a0)),(1,.int x1.1),(5,.int x1.2)] [] 0 [0,1]) (fun r e t=>Sum.elim (fun a=>(fun r e t=>e= .exit 0∧Ent t (bU [(1,.int r)] [] 0 [0,1])) a e t) (fun b=>(fun r e t=>e= .ret∧nZ TT [.tmp 4] (.int r) .ret t) b e t) r) (aE (σ:=sg []) ⟨⟨_,k,⟨k,k⟩⟩,(e1 k k),(e1 k k),trivial⟩ trivial k) ?_ ?_
 ·intro x1 o h
  refine sQ<|sQ<|rg<|am k k<|am k k<|ae (dG aA k k k) k<|ae (bD k k k) k<|an<|tn ?_
  rcases cb h with ⟨q1,h⟩|⟨q1,h⟩
  ·refine aJ k q1<|aR<|tn<|sQ<|aL<|sQ<|sQ<|rg<|am k k<|am k k ?_
   obtain ⟨v2,hv2,h⟩:=ob h
   refine ae (bJ aA hv2 k k k k k k) k<|ae (cB aA k k k k k k) k<|ae (aW aA k k k k k k) k<|am k k<|ae (bD k k k) k<|an<|tn ?_
   rcases cb h with ⟨q3,h⟩|⟨q3,h⟩
   ·refine aJ k q3<|sQ<|rg<|aa k k<|an<|tn<|aO (t:=bU [(4,.int (-1))] [] 0 [0,1]) (aE (σ:=sg []) ⟨(e1 k k),trivial⟩ trivial k)<|aK<|aI<|bB ?_
    refine aI<|aI ?_
    obtain rfl:=so h
    exact ⟨_,k,k,aT k k k (cS k)⟩
   ·refine aN k q3<|aR<|tn<|sQ<|rg<|am k k<|ae (bW k k) k<|aa k k<|an<|tn ?_
    refine aO (t:=bU [(0,.list 2 (List.map eS a0)),(1,.int (wr (x1.1+1))),(5,.int x1.2)] [] 0 [0,1]) (aE (σ:=sg []) ⟨⟨_,k,⟨k,k⟩⟩,(e1 k k),(e1 k k),trivial⟩ trivial k)<|sQ<|rg<|am k k<|am k k ?_
    obtain ⟨v4,hv4,h⟩:=ob h
    refine ae (bJ aA hv4 k k k k k k) k<|ae (cB aA k k k k k k) k<|ae (aW aA k k k k k k) k<|am k k ?_
    obtain ⟨v5,hv5,h⟩:=ob h
    refine ae (bE (aEf v4.basis (wr (x1.1+1)) v5 hv5) k (aG (aM k) (aG (aM k) bG))) k<|aa k k<|an<|tn<|sQ<|rg<|am k k<|ae (bD k k k) k<|an<|tn ?_
    rcases cb h with ⟨q6,h⟩|⟨q6,h⟩
    ·refine aJ k q6<|sQ<|rg<|aa k k<|an<|tn<|aK<|bB<|aI<|aI ?_
     obtain rfl:=so h
     exact ⟨_,k,k,aT k k k (cS k)⟩
    ·refine aN k q6<|aR<|bF<|tn<|rg<|am k k<|ae (bW k k) k<|aa k k<|an<|tn ?_
     obtain rfl:=so h
     exact ⟨_,k,(aE (σ:=sg []) ⟨⟨_,k,⟨k,k⟩⟩,(e1 k k),(e1 k k),trivial⟩ trivial k)⟩
  ·refine aN k q1<|bH<|aH<|aH ?_
   obtain rfl:=so h
   exact ⟨_,k,k,(aE (σ:=sg []) ⟨(e1 k k),trivial⟩ trivial k)⟩
 ·intro e t hX
  rcases y7 with y8|y9
  ·obtain ⟨rfl,hent⟩:=hX
   refine aX<|tn<|aO hent<|sQ<|rg<|am k k<|aa k k<|an<|tn<|aK ?_
   obtain rfl:=so h
   exact aT k k k (cS k)
  ·obtain ⟨rfl,hent⟩:=hX
   refine bB<|aI ?_
   obtain rfl:=so h
   exact hent
def jV (a0:(List (List Sc))) (x1:(Int×Int)):Option ((Int×Int) ⊕ (Int ⊕ Int)):=
 bif decide (x1.2<(a0.length:Int)) then
 (Option.bind (dX a0 x1.2) fun v2=>
 Option.bind (oY v2 x1.1) fun v3=>
 bif decide (v3<0) then
 (some (.inr (.inr ((-1)))))
 else
 (some (.inl (v3,wr (x1.2+1)))))
 else
 (some (.inr (.inl x1.1)))
def jL (a0:(List (List Sc))) (a1:Int):Option Int:=
 Option.bind (Lp (jV a0) (a1,0)) fun y5=>
 Sum.elim (fun y6=>
 some (y6)
 )
 (fun y7=>
 some y7
 )
 y5
theorem xP (a0:(List (List Sc))) (a1:Int) (r:Int) (h:jL a0 a1=some r):HasC Tryz.prog 35 [.list 1 (List.map (cU 2 eS) a0),.int a1] (.int r):=by
 refine bN aA (rvs:=[.tmp 4]) (ns:=[0,1]) Tryz.func35 k k Tryz.ntmps35 k k k<|sQ<|rg<|aa k k<|an<|tn<|sQ<|sQ<|rg<|aa k k ?_
 refine an<|tn<|aL ?_
 obtain ⟨y5,hy5,h⟩:=ob h
 refine cV (body:=(jV a0)) hy5 (fun (x1:(Int×Int))=>bU [(0,.list 1 (List.map (cU 2 eS) a0)),(1,.int x1.1),(5,.int x1.2)] [] 0 [0,1]) (fun r e t=>Sum.elim (fun a=>(fun r e t=>e= .exit 0∧Ent t (bU [(1,.int r)] [] 0 [0,1])) a e t) (fun b=>(fun r e t=>e= .ret∧nZ TT [.tmp 4] (.int r) .ret t) b e t) r) (aE (σ:=sg []) ⟨⟨_,k,⟨k,k⟩⟩,(e1 k k),(e1 k k),trivial⟩ trivial k) ?_ ?_
 ·intro x1 o h
  refine sQ<|sQ<|rg<|am k k<|am k k<|ae (dG aA k k k) k<|ae (bD k k k) k<|an<|tn ?_
  rcases cb h with ⟨q1,h⟩|⟨q1,h⟩
  ·refine aJ k q1<|aR<|tn<|sQ<|aL<|sQ<|rg<|am k k<|am k k ?_
   obtain ⟨v2,hv2,h⟩:=ob h
   refine ae (bJ aA hv2 k k k k k k) k<|ae (aW aA k k k k k k) k<|am k k ?_
   obtain ⟨v3,hv3,h⟩:=ob h
   refine ae (bE (aDe v2 x1.1 v3 hv3) k (aG (aM k) (aG (aM k) bG))) k<|aa k k<|an<|tn<|sQ<|rg<|am k k<|ae (bD k k k) k<|an<|tn ?_
   refine aO (t:=bU [(0,.list 1 (List.map (cU 2 eS) a0)),(1,.int v3),(5,.int x1.2),(19,.bl (decide (v3<0)))] [] 0 [0,1]) (aE (σ:=sg []) ⟨⟨_,k,⟨k,k⟩⟩,(e1 k k),(e1 k k),(e1 k k),trivial⟩ trivial k) ?_
   rcases cb h with ⟨q4,h⟩|⟨q4,h⟩
   ·refine aJ k q4<|sQ<|rg<|aa k k<|an<|tn<|aK<|bB<|aI<|aI ?_
    obtain rfl:=so h
    exact ⟨_,k,k,aT k k k (cS k)⟩
   ·refine aN k q4<|aR<|bF<|tn<|rg<|am k k<|ae (bW k k) k<|aa k k<|an<|tn ?_
    obtain rfl:=so h
    exact ⟨_,k,(aE (σ:=sg []) ⟨⟨_,k,⟨k,k⟩⟩,(e1 k k),(e1 k k),trivial⟩ trivial k)⟩
  ·refine aN k q1<|bH<|aH<|aH ?_
   obtain rfl:=so h
   exact ⟨_,k,k,(aE (σ:=sg []) ⟨(e1 k k),trivial⟩ trivial k)⟩
 ·intro e t hX
  rcases y5 with y6|y7
  ·obtain ⟨rfl,hent⟩:=hX
   refine aX<|tn<|aO hent<|sQ<|rg<|am k k<|aa k k<|an<|tn<|aK ?_
   obtain rfl:=so h
   exact aT k k k (cS k)
  ·obtain ⟨rfl,hent⟩:=hX
   refine bB<|aI ?_
   obtain rfl:=so h
   exact hent
end
noncomputable section
def zU {α:Type} (nv:α→Nat):List α→Nat
 | []=>0
 |x::l=>nv x+zU nv l
def mvS {α:Type} (mv:Int→α→α) (nv:α→Nat):Int→List α→List α
 |_,[]=>[]
 |k,x::l=>mv k x::mvS mv nv (k+nv x) l
section
variable {α:Type} {mv:Int→α→α} {nv:α→Nat}
theorem mW: ∀ (l:List α) (k:Int),(mvS mv nv k l).length=l.length
 | [],_=>rfl
 |x::l,k=>by simp [mvS,mW l]
theorem aJh: ∀ (l m:List α),zU nv (l++m)=zU nv l+zU nv m
 | [],m=>by simp [zU]
 |x::l,m=>by simp [zU,aJh l m];omega
theorem aJi: ∀ (l m:List α) (k:Int),mvS mv nv k (l++m)=mvS mv nv k l++mvS mv nv (k+zU nv l) m
 | [],m,k=>by simp [mvS,zU]
 |x::l,m,k=>by
  simp only [List.cons_append,mvS,zU,aJi l m]
  rw [show k+((nv x+zU nv l:Nat):Int)=k+(nv x:Int)+(zU nv l:Int) by omega]
theorem aDf {l:List α} {i:Nat} (hi:i<l.length):zU nv (l.take (i+1))=zU nv (l.take i)+nv l[i]:=by
 rw [List.take_succ_eq_append_getElem hi,aJh];simp [zU]
theorem aFP (l:List α) (i:Nat):zU nv (l.take i)≤zU nv l:=by
 have h:zU nv (l.take i++l.drop i)=zU nv l:=by rw [List.take_append_drop]
 rw [aJh] at h;omega
theorem aHN {c:Nat} : ∀ {l:List α},(∀ x∈l,nv x≤c)→zU nv l≤c*l.length
 | [],_=>by simp [zU]
 |x::l,h=>by
  have h1:=h x (by simp)
  have h2:=aHN (l:=l) fun y hy=>h y (by simp [hy])
  simp only [zU,List.length_cons,Nat.mul_add,Nat.mul_one];omega
theorem aGH {l:List α} {k:Int} {i:Nat} (hi:i<l.length):(mvS mv nv k l)[i]? =some (mv (k+zU nv (l.take i)) l[i]):=by
 have e:l=l.take i++l[i]::l.drop (i+1):=by rw [←List.drop_eq_getElem_cons hi,List.take_append_drop]
 have e2:mvS mv nv k l=mvS mv nv k (l.take i)++mvS mv nv (k+zU nv (l.take i)) (l[i]::l.drop (i+1)):=by rw [←aJi,←e]
 rw [e2,List.getElem?_append_right (by rw [mW];simp;omega),mW]
 simp [mvS,Nat.min_eq_left (Nat.le_of_lt hi)]
theorem aAH {l:List α} {k0:Int} {body:List α×Int×Int→Option ((List α×Int×Int) ⊕ (List α×Int))} (h0:0≤k0) (hk:k0+zU nv l≤4611686018427387904) (hl:l.length≤4611686018427387904)
  (hs: ∀ (r:List α) (i:Nat) (k:Int) (hi:i<r.length),r[i]∈l→0≤k→k+nv r[i]≤4611686018427387904→body (r,k,i)=some (.inl (r.set i (mv k r[i]),k+nv r[i],wr (i+1)))) (he: ∀ r k,body (r,k,(r.length:Int))=some (.inr (r,k))):
  Lp body (l,k0,0)=some (mvS mv nv k0 l,k0+zU nv l):=by
 rw [fT (r:=(mvS mv nv k0 l,k0+zU nv l)) (fun i=>(mvS mv nv k0 (l.take i)++l.drop i,k0+zU nv (l.take i),(i:Int))) l.length (by simp [mvS,zU]) (fun i hi=>?_) (fun _=>?_)]
 ·have hm:(mvS mv nv k0 (l.take i)).length=i:=by rw [mW];simp;omega
  have hg:(mvS mv nv k0 (l.take i)++l.drop i)[i]'(by simp [mW];omega)=l[i]:=by
   rw [List.getElem_append_right (by omega)]
   simp [hm]
  have hb:=aFP (nv:=nv) l (i+1)
  rw [aDf hi] at hb
  rw [hs _ i _ (by simp [mW];omega) (by rw [hg];exact List.getElem_mem hi) (by omega) (by rw [hg];omega),hg,dR hi hl]
  congr 2
  refine Prod.ext ?_ (Prod.ext ?_ rfl)
  ·simp only
   rw [List.set_append_right _ _ (by omega),hm,Nat.sub_self,List.drop_eq_getElem_cons hi,List.set_cons_zero,List.take_succ_eq_append_getElem hi,aJi]
   simp [mvS]
  ·simp only
   rw [aDf hi];omega
 ·have:=he (mvS mv nv k0 (l.take l.length)++l.drop l.length) (k0+zU nv (l.take l.length))
  simp only [List.take_length,List.drop_length,List.append_nil,mW] at this ⊢
  exact this
theorem aBj {l:List α} {k0:Int} {body:Int×Int→Option ((Int×Int) ⊕ (Int ⊕ Int))} (h0:0≤k0) (hk:k0+zU nv l≤4611686018427387904) (hl:l.length≤4611686018427387904)
  (hs: ∀ (i:Nat) (hi:i<l.length) (k:Int),k=k0+zU nv (l.take i)→0≤k→k+nv l[i]≤4611686018427387904→body (k,i)=some (.inl (k+nv l[i],wr (i+1)))) (he: ∀ k,body (k,(l.length:Int))=some (.inr (.inl k))):
  Lp body (k0,0)=some (.inl (k0+zU nv l)):=by
 rw [fT (r:=Sum.inl (k0+zU nv l)) (fun i=>(k0+zU nv (l.take i),(i:Int))) l.length (by simp [zU]) (fun i hi=>?_) (fun _=>?_)]
 ·have hb:=aFP (nv:=nv) l (i+1)
  rw [aDf hi] at hb
  rw [hs i hi _ rfl (by omega) (by omega),dR hi hl,aDf hi]
  congr 3
  omega
 ·rw [he];simp
end
def nI (l:List Int):Nat:=zU (fun _=>1) l
def mvI:Int→List Int→List Int:=mvS (fun k _=>k) (fun _=>1)
theorem aAb: ∀ l:List Int,nI l=l.length
 | []=>rfl
 |x::l=>by have:=aAb l;simp only [nI] at this;simp only [nI,zU,List.length_cons];omega
theorem uA (k:Int) (l:List Int):(mvI k l).length=l.length:=mW l k
theorem aQX {k:Int} {n:Nat} (h:0≤k):decide (k+(n:Int)<0)=false:=decide_eq_false (by omega)
theorem aNn {l:List Int} {k:Int} (h0:0≤k) (hk:k+nI l≤4611686018427387904):fY l k=some (mvI k l,k+nI l):=by
 have hl:=aAb l
 unfold fY
 rw [aAH (mv:=fun k _=>k) (nv:=fun _=>1) h0 hk (by omega) (fun r i k hi _ g0 g1=>?_) (fun r k=>?_),Option.bind_some]
 ·rfl
 ·unfold mS
  simp only
  rw [kY hi,cond_true,dW hi,Option.bind_some,Int.toNat_natCast,gG (x:=k+1) (by omega)]
  simp
 ·unfold mS
  simp only
  rw [pH (Nat.le_refl _),cond_false]
theorem aSh {l:List Int} {k:Int} (h0:0≤k) (hk:k+nI l≤4611686018427387904):rL (mvI k l) k=some (k+nI l):=by
 have hl:=aAb l
 have hm:=uA k l
 unfold rL
 rw [aBj (l:=l) (nv:=fun _=>1) h0 hk (by omega) (fun i hi k' e g0 g1=>?_) (fun k'=>?_),Option.bind_some]
 ·rfl
 ·unfold mV
  simp only
  have hg:(mvI k l)[i]? =some k':=by unfold mvI;rw [aGH hi,e]
  rw [hm,kY hi,cond_true,dW (by omega),Option.bind_some]
  have hg':(mvI k l)[i]'(by omega)=k':=by rw [List.getElem?_eq_getElem (by omega)] at hg;exact Option.some.inj hg
  rw [hg',decide_eq_true rfl,Bool.not_true,cond_false,gG (x:=k'+1) (by omega)]
  simp
 ·unfold mV
  simp only
  rw [hm,pH (Nat.le_refl _),cond_false]
def nIS:List (List Int)→Nat:=zU nI
def aNo:Int→List (List Int)→List (List Int):=mvS mvI nI
theorem aMD {α:Type} {l:List α} {i:Nat} {v:α} (h:l[i]? =some v) (hi:i<l.length):l[i]=v:=by rw [List.getElem?_eq_getElem hi] at h;exact Option.some.inj h
theorem aRx {l:List (List Int)} {k:Int} (h0:0≤k) (hk:k+nIS l≤4611686018427387904) (hl:l.length≤4611686018427387904):qC l k=some (aNo k l,k+nIS l):=by
 unfold qC
 rw [aAH (mv:=mvI) (nv:=nI) h0 hk hl (fun r i k hi _ g0 g1=>?_) (fun r k=>?_),Option.bind_some]
 ·rfl
 ·unfold lF
  simp only
  rw [kY hi,cond_true,dW hi,Option.bind_some,aNn g0 g1,Option.bind_some,Int.toNat_natCast,uA,decide_eq_true rfl,cond_true]
 ·unfold lF
  simp only
  rw [pH (Nat.le_refl _),cond_false]
theorem aRy {l:List (List Int)} {k:Int} (h0:0≤k) (hk:k+nIS l≤4611686018427387904) (hl:l.length≤4611686018427387904):qD (aNo k l) k=some (k+nIS l):=by
 have hm:(aNo k l).length=l.length:=mW l k
 unfold qD
 rw [aBj (l:=l) (nv:=nI) h0 hk hl (fun i hi k' e g0 g1=>?_) (fun k'=>?_),Option.bind_some]
 ·rfl
 ·unfold lG
  simp only
  rw [hm,kY hi,cond_true,dW (by omega),Option.bind_some,aMD (v:=mvI k' l[i]) (by unfold aNo;rw [aGH hi,e]) (by omega),aSh g0 g1,Option.bind_some,aQX g0,cond_false]
 ·unfold lG
  simp only
  rw [hm,pH (Nat.le_refl _),cond_false]
def nSe (s:Sc):Nat:=1+nIS s.basis
def aPO (k:Int) (s:Sc):Sc:=⟨k,aNo (k+1) s.basis⟩
def nSs:List Sc→Nat:=zU nSe
def aKw:Int→List Sc→List Sc:=mvS aPO nSe
def lS (l:List Sc):Prop:=l.length≤4611686018427387904∧ ∀ s∈l,s.basis.length≤4611686018427387904
theorem aPQ (k:Int) (l:List (List Int)):(aNo k l).length=l.length:=mW l k
theorem aPR (k:Int) (l:List Sc):(aKw k l).length=l.length:=mW l k
theorem aRz {l:List Sc} {k:Int} (h0:0≤k) (hk:k+nSs l≤4611686018427387904) (hl:lS l):oW l k=some (aKw k l,k+nSs l):=by
 unfold oW
 rw [aAH (mv:=aPO) (nv:=nSe) h0 hk hl.1 (fun r i k hi hm g0 g1=>?_) (fun r k=>?_),Option.bind_some]
 ·rfl
 ·unfold nSe at g1
  unfold kO
  simp only
  rw [kY hi,cond_true,dW hi,Option.bind_some,gG (x:=k+1) (by omega),aRx (by omega) (by omega) (hl.2 _ hm),Option.bind_some,aPQ,decide_eq_true rfl,cond_true,Int.toNat_natCast]
  unfold aPO nSe
  congr 4
  omega
 ·unfold kO
  simp only
  rw [pH (Nat.le_refl _),cond_false]
theorem aSA {l:List Sc} {k:Int} (h0:0≤k) (hk:k+nSs l≤4611686018427387904) (hl:lS l):oY (aKw k l) k=some (k+nSs l):=by
 have hm:(aKw k l).length=l.length:=mW l k
 unfold oY
 rw [aBj (l:=l) (nv:=nSe) h0 hk hl.1 (fun i hi k' e g0 g1=>?_) (fun k'=>?_),Option.bind_some]
 ·rfl
 ·unfold nSe at g1
  unfold kP
  simp only
  rw [hm,kY hi,cond_true,dW (by omega),Option.bind_some,aMD (v:=aPO k' l[i]) (by unfold aKw;rw [aGH hi,e]) (by omega)]
  unfold aPO
  simp only [decide_true,Bool.not_true,cond_false,Option.bind_some]
  rw [gG (x:=k'+1) (by omega),aRy (by omega) (by omega) (hl.2 _ (List.getElem_mem hi)),Option.bind_some,aQX (by omega),cond_false]
  unfold nSe
  congr 3
  omega
 ·unfold kP
  simp only
  rw [hm,pH (Nat.le_refl _),cond_false]
def nQ (q:Qv):Nat:=nI q.src+nI q.tgt
def mvQ (k:Int) (q:Qv):Qv:=⟨q.n,mvI k q.src,mvI (k+nI q.src) q.tgt⟩
theorem aSi {q:Qv} {k:Int} (h0:0≤k) (hk:k+nQ q≤4611686018427387904):oX q k=some ((mvQ k q).src,(mvQ k q).tgt,k+nQ q):=by
 unfold nQ at hk
 unfold oX
 rw [aNn h0 (by omega),Option.bind_some,uA,decide_eq_true rfl,cond_true,aNn (by omega) (by omega),Option.bind_some,uA,decide_eq_true rfl,cond_true]
 unfold mvQ nQ
 congr 3
 omega
def nMe (m:Mt):Nat:=2+nI m.cells
def aRR (k:Int) (m:Mt):Mt:=⟨k,k+1,mvI (k+2) m.cells⟩
def nMs:List Mt→Nat:=zU nMe
def aRS:Int→List Mt→List Mt:=mvS aRR nMe
theorem aKx (k:Int) (l:List Mt):(aRS k l).length=l.length:=mW l k
theorem aSD {l:List Mt} {k:Int} (h0:0≤k) (hk:k+nMs l≤4611686018427387904) (hl:l.length≤4611686018427387904):mT l k=some (aRS k l,k+nMs l):=by
 unfold mT
 rw [aAH (mv:=aRR) (nv:=nMe) h0 hk hl (fun r i k hi hm g0 g1=>?_) (fun r k=>?_),Option.bind_some]
 ·rfl
 ·unfold nMe at g1
  unfold jT
  simp only
  rw [kY hi,cond_true,dW hi,Option.bind_some,gG (x:=k+1) (by omega),gG (x:=k+1+1) (by omega),show k+1+1=k+2 by omega,aNn (by omega) (by omega),Option.bind_some,uA,decide_eq_true rfl,cond_true,Int.toNat_natCast]
  unfold aRR nMe
  congr 4
  omega
 ·unfold jT
  simp only
  rw [pH (Nat.le_refl _),cond_false]
def nR (r:Rp):Nat:=nQ r.q+nI r.dims+nMs r.maps
def mvR (k:Int) (r:Rp):Rp:=⟨r.p,mvQ k r.q,mvI (k+nQ r.q) r.dims,aRS (k+nQ r.q+nI r.dims) r.maps⟩
theorem aSj {r:Rp} {k:Int} (h0:0≤k) (hk:k+nR r≤4611686018427387904) (hl:r.maps.length≤4611686018427387904):tZ r k=some ((mvR k r).q.src,(mvR k r).q.tgt,(mvR k r).dims,(mvR k r).maps,k+nR r):=by
 unfold nR at hk
 unfold tZ
 rw [aSi h0 (by omega),Option.bind_some]
 simp only [mvQ,uA,decide_true,cond_true]
 rw [aNn (by omega) (by omega),Option.bind_some]
 simp only [uA,decide_true,cond_true]
 rw [aSD (by omega) (by omega) hl,Option.bind_some]
 simp only [aKx,decide_true,cond_true]
 unfold mvR nR
 congr 5
 omega
theorem aQZ (k:Int) (r:Rp):(mvR k r).q.src.length=r.q.src.length∧(mvR k r).q.tgt.length=r.q.tgt.length∧(mvR k r).dims.length=r.dims.length∧(mvR k r).maps.length=r.maps.length:=⟨uA _ _,uA _ _,uA _ _,aKx _ _⟩
theorem aRT {l:List Mt} (h:l.length≤1048576∧ ∀ m∈l,bM m):nMs l≤2097152*1048576:=by
 have:=aHN (nv:=nMe) (c:=2097152) (l:=l) fun m hm=>by have:=(h.2 m hm).1;unfold bI at this;unfold nMe;rw [aAb];omega
 unfold nMs
 calc zU nMe l≤2097152*l.length:=this
  _≤2097152*1048576:=Nat.mul_le_mul_left _ h.1
theorem aSE {r:Rp} (h:bR r):nR r≤4398046511104:=by
 obtain ⟨⟨h1,h2,_⟩,h3,h4,_⟩:=h
 have:=aRT h4
 unfold bI at h1 h2 h3
 unfold nR nQ
 rw [aAb,aAb,aAb]
 omega
theorem aSF {l:List Sc} (h:l.length≤1048576∧ ∀ s∈l,bS s):lS l:=⟨by omega,fun s hs=>by have:=(h.2 s hs).1.1;omega⟩
end
noncomputable section
set_option maxRecDepth 10000
set_option maxHeartbeats 4000000
end
noncomputable section
theorem aPS {p:Int} (hp:kX p=true) {n:Nat} {l l':List (List Int)} (h:InP p l.length n (dE l)) (h':InP p l'.length n (dE l')) (hK: ∀ x,Kr p l.length n (dE l) x↔Kr p l'.length n (dE l') x):fP p n l=fP p n l':=by
 obtain ⟨e1,e2⟩:=aJN hp h h' hK
 unfold fP
 rw [←e1]
 exact aAy e2
end
noncomputable section
theorem aPT {k:Nat} {f:Nat→Nat} (hlt: ∀ t,t<k→f t<k) (hinc: ∀ s t,s<t→t<k→f s<f t): ∀ t,t<k→f t=t:=by
 have h1: ∀ t,t<k→t≤f t:=by
  intro t
  induction t with
  |zero=>intro _;exact Nat.zero_le _
  |succ t ih=>intro h;have:=ih (by omega);have:=hinc t (t+1) (by omega) h;omega
 have h2: ∀ d t,t+d+1=k→f t≤t:=by
  intro d
  induction d with
  |zero=>intro t h;have:=hlt t (by omega);omega
  |succ d ih=>intro t h;have:=ih (t+1) (by omega);have:=hinc t (t+1) (by omega) (by omega);omega
 intro t ht
 have:=h1 t ht
 have:=h2 (k - t - 1) t (by omega)
 omega
theorem aME {L M:List Nat} (hL: ∀ i k,i<k→k<L.length→L[i]?.getD 0<L[k]?.getD 0) (hM: ∀ i k,i<k→k<M.length→M[i]?.getD 0<M[k]?.getD 0) (hs: ∀ t,t<M.length→ ∃ i,i<L.length∧L[i]?.getD 0=M[t]?.getD 0) (hl:L.length=M.length):L=M:=by
 have hs': ∀ t:Nat,∃ i,t<M.length→i<L.length∧L[i]?.getD 0=M[t]?.getD 0:=fun t=>by
  by_cases h:t<M.length
  ·obtain ⟨i,hi⟩:=hs t h;exact ⟨i,fun _=>hi⟩
  ·exact ⟨0,fun h'=>absurd h' h⟩
 obtain ⟨f,hf⟩:=Classical.axiomOfChoice hs'
 have e:=aPT (k:=M.length) (f:=f) (fun t ht=>hl▸(hf t ht).1) (fun s t hst ht=>by
  rcases Nat.lt_trichotomy (f s) (f t) with h|h|h
  ·exact h
  ·have a:=(hf s (by omega)).2;have b:=(hf t ht).2;have c:=hM s t hst ht;rw [h,b] at a;omega
  ·have a:=(hf s (by omega)).2;have b:=(hf t ht).2;have c:=hM s t hst ht
   have:=hL (f t) (f s) h (hf s (by omega)).1
   omega)
 refine List.ext_getElem hl fun i h1 h2=>?_
 have:=(hf i h2).2
 rw [e i h2] at this
 simpa [h1,h2] using this
theorem aPU {p:Int} (hp:kX p=true) {m m' n:Nat} {F G:Nat→Nat→Int} {L M:List Nat} (hF:Red m n F L) (hG:Red m' n G M) (iF:InP p m n F) (iG:InP p m' n G) (hK: ∀ x,Kr p m n F x→Kr p m' n G x) (hl:L.length=M.length):L=M∧ ∀ i j,i<L.length→j<n→F i j=G i j:=by
 have e:L=M:=aME hF.inc hG.inc (fun t ht=>aJM hp hF hG hK ht) hl
 subst e
 refine ⟨rfl,fun i k hi hk=>?_⟩
 have hm:=hF.len
 have hm':=hG.len
 by_cases hL: ∃ t,t<L.length∧L[t]?.getD 0=k
 ·obtain ⟨t,ht,rfl⟩:=hL
  by_cases e:i=t
  ·subst e;rw [hF.one i hi,hG.one i hi]
  ·rw [hF.col t i ht (by omega) e,hG.col t i ht (by omega) e]
 ·have hL: ∀ t,t<L.length→L[t]?.getD 0≠k:=fun t ht e=>hL ⟨t,ht,e⟩
  have h1:=hK _ (aJL (p:=p) hF hk hL) i (by omega)
  rw [aKc hF hk hL,aEO (j:=i) hi (fun t ht hti=>by rw [hG.col t i ht (by omega) (fun e=>hti e.symm)];simp),hG.one i hi,Int.one_mul] at h1
  unfold Z0 at h1
  have b1:=iF i k (by omega) hk
  have b2:=iG i k (by omega) hk
  have e1:G i k % p=F i k % p:=by
   have:=Int.emod_emod_of_dvd
   exact Int.emod_eq_emod_iff_emod_sub_eq_zero.2 h1
  rw [Int.emod_eq_of_lt b2.1 b2.2,Int.emod_eq_of_lt b1.1 b1.2] at e1
  exact e1.symm
theorem aIp {p:Int} {n:Nat} {l:List (List Int)} (hp:kX p=true) (hv:VecsP p n l) (hs:fP p n l=l): ∃ L,L.length=l.length∧Red l.length n (dE l) L:=by
 have hi:=hv.inP
 have hr:=aEM hp hi n (Nat.le_refl _)
 have hlen:(dA p l.length (dE l) n).2.length=l.length:=by
  have:=congrArg List.length hs
  unfold fP at this
  rw [pS] at this
  exact this
 have hrow: ∀ i j,i<l.length→j<n→(dA p l.length (dE l) n).1 i j=dE l i j:=by
  intro i j hi hj
  have:=aGk (dA p l.length (dE l) n).1 (dA p l.length (dE l) n).2.length n i j (by omega) hj
  unfold fP at hs
  rw [hs] at this
  exact this.symm
 refine ⟨_,hlen,⟨hr.lt,hr.inc,by omega,fun i h=>?_,fun i k h hk hne=>?_,fun i j h h2 hj=>?_,fun i j h hj=>?_⟩⟩
 ·rw [←hrow i _ (by omega) (hr.lt i h)];exact hr.one i h
 ·rw [←hrow k _ hk (hr.lt i h)];exact hr.col i k h hk hne
 ·omega
 ·rw [←hrow i j (by omega) (by have:=hr.lt i h;omega)];exact hr.left i j h hj
def rsF (p:Int) (B:Nat→Nat→Int) (L:List Nat) (v:Nat→Int):Nat→Nat→Int
 |0=>v
 |t+1=>fun j=>(rsF p B L v t j+(p - rsF p B L v t (L[t]?.getD 0))*B t j) % p
theorem aPV {p:Int} (hp:kX p=true) {B:Nat→Nat→Int} {L:List Nat} {v:Nat→Int} {n:Nat} (hv: ∀ j,j<n→0≤v j∧v j<p): ∀ t j,j<n→0≤rsF p B L v t j∧rsF p B L v t j<p
 |0,j,h=>hv j h
 |t+1,j,_=>yS hp
theorem aJj {p:Int} (hp:kX p=true) {m n:Nat} {B:Nat→Nat→Int} {L:List Nat} (h:Red m n B L) {v:Nat→Int} : ∀ t,t≤L.length→ ∀ s,s<t→rsF p B L v t (L[s]?.getD 0)=0
 |0,_,s,hs=>absurd hs (Nat.not_lt_zero _)
 |t+1,ht,s,hs=>by
  have hm:=h.len
  simp only [rsF]
  by_cases e:s=t
  ·subst e
   rw [h.one s (by omega),Int.mul_one,show rsF p B L v s (L[s]?.getD 0)+(p - rsF p B L v s (L[s]?.getD 0))=p by omega,Int.emod_self]
  ·rw [h.col s t (by omega) (by omega) (fun e'=>e e'.symm),aJj hp h t (by omega) s (by omega)]
   simp
theorem aMF {p:Int} (hp:kX p=true) {m n:Nat} {B:Nat→Nat→Int} {L:List Nat} (hL:L.length≤m) {v x:Nat→Int} (hx:Kr p m n B x): ∀ t,t≤L.length→dt n (rsF p B L v t) x % p=dt n v x % p
 |0,_=>rfl
 |t+1,ht=>by
  have ih:=aMF hp hL (v:=v) hx t (by omega)
  have h1:=hx t (by omega)
  rw [←ih]
  simp only [rsF]
  rw [aJK (g:=fun j=>rsF p B L v t j+(p - rsF p B L v t (L[t]?.getD 0))*B t j) (fun k _=>by rw [Int.emod_emod_of_dvd _ (Int.dvd_refl p)]),aOi]
  have h2:=aGl (p - rsF p B L v t (L[t]?.getD 0)) h1
  unfold Z0 at h2
  rw [Int.add_emod,h2]
  simp
theorem aPW {p:Int} (hp:kX p=true) {m n:Nat} {B:Nat→Nat→Int} {L:List Nat} (h:Red m n B L) {v:Nat→Int} (hv: ∀ j,j<n→0≤v j∧v j<p):(∀ j,j<n→rsF p B L v L.length j=0)↔ ∀ x,Kr p m n B x→Z0 p (dt n v x):=by
 constructor
 ·intro hz x hx
  have:=aMF hp h.len (v:=v) hx L.length (Nat.le_refl _)
  unfold Z0
  rw [←this]
  have e:dt n (rsF p B L v L.length) x=0:=by
   unfold dt
   rw [pK (g:=fun _=>0) (fun k hk=>by rw [hz k hk];simp),aAY]
  rw [e]
  simp
 ·intro hz k hk
  by_cases hL: ∃ t,t<L.length∧L[t]?.getD 0=k
  ·obtain ⟨t,ht,rfl⟩:=hL
   exact aJj hp h L.length (Nat.le_refl _) t ht
  ·have hL: ∀ t,t<L.length→L[t]?.getD 0≠k:=fun t ht e=>hL ⟨t,ht,e⟩
   have hx:=aJL (p:=p) h hk hL
   have h1:=hz _ hx
   unfold Z0 at h1
   rw [←aMF hp h.len (v:=v) hx L.length (Nat.le_refl _),aKc h hk hL,pK (g:=fun _=>0) (fun i hi=>by rw [aJj hp h L.length (Nat.le_refl _) i hi];simp),aAY,Int.sub_zero] at h1
   have b:=aPV hp (B:=B) (L:=L) hv L.length k hk
   rw [Int.emod_eq_of_lt b.1 b.2] at h1
   exact h1
theorem aBk {p:Int} {n:Nat} {a b:List (List Int)} {x:Nat→Int} :Kr p (a++b).length n (dE (a++b)) x↔Kr p a.length n (dE a) x∧Kr p b.length n (dE b) x:=by
 have e1: ∀ i,i<a.length→dE (a++b) i=dE a i:=fun i hi=>by funext j;simp only [dE];rw [List.getElem?_append_left hi]
 have e2: ∀ i,dE (a++b) (a.length+i)=dE b i:=fun i=>by funext j;simp only [dE];rw [List.getElem?_append_right (by omega),Nat.add_sub_cancel_left]
 unfold Kr
 rw [List.length_append]
 refine ⟨fun h=>⟨fun i hi=>e1 i hi▸h i (by omega),fun i hi=>e2 i▸h (a.length+i) (by omega)⟩,fun h i hi=>?_⟩
 rcases Nat.lt_or_ge i a.length with h'|h'
 ·rw [e1 i h'];exact h.1 i h'
 ·have:=h.2 (i - a.length) (by omega)
  rw [←e2,show a.length+(i - a.length)=i by omega] at this
  exact this
theorem aAc {p:Int} (hp:kX p=true) {n:Nat} {a b:List (List Int)} (ha:VecsP p n a) (hb:VecsP p n b) (hs:fP p n b=b):(aHn p n a b).length=b.length↔ ∀ x,Kr p b.length n (dE b) x→Kr p a.length n (dE a) x:=by
 have hi:=(ha.append hb).inP
 constructor
 ·intro hl x hx
  obtain ⟨L,hLl,hR⟩:=aIp hp hb hs
  have hr:=aEM hp hi n (Nat.le_refl _)
  have hb':=gH hp
  have hlen:(dA p (a++b).length (dE (a++b)) n).2.length=L.length:=by
   unfold aHn fP at hl
   rw [pS] at hl
   omega
  obtain ⟨_,h2⟩:=aPU hp hr hR (qO (by omega) hi n) hb.inP (fun x hx=>(aBk.1 ((aDH hp hi x n (Nat.le_refl _)).1 hx)).2) hlen
  refine (aBk.1 ((aDH hp hi x n (Nat.le_refl _)).1 fun i hi'=>?_)).1
  rcases Nat.lt_or_ge i (dA p (a++b).length (dE (a++b)) n).2.length with h'|h'
  ·have e:dt n ((dA p (a++b).length (dE (a++b)) n).1 i) x=dt n (dE b i) x:=pK fun k hk=>by rw [h2 i k h' hk]
   rw [e]
   exact hx i (by omega)
  ·have e:dt n ((dA p (a++b).length (dE (a++b)) n).1 i) x=0:=by
    unfold dt
    rw [pK (g:=fun _=>0) (fun k hk=>by rw [hr.low i k h' hi' hk];simp),aAY]
   rw [e]
   unfold Z0
   simp
 ·intro hK
  unfold aHn
  rw [aPS hp hi hb.inP fun x=>⟨fun h=>(aBk.1 h).2,fun h=>aBk.2 ⟨hK x h,h⟩⟩,hs]
end
noncomputable section
def sV (r:Rp) (i:Nat):Nat:=(r.q.src[i]?.getD 0).toNat
def tV (r:Rp) (i:Nat):Nat:=(r.q.tgt[i]?.getD 0).toNat
def aF (r:Rp) (i:Nat):Nat→Nat→Int:=fun j k=>(r.maps[i]?.getD ⟨0,0,[]⟩).cells[j*dN r (sV r i)+k]?.getD 0
structure Rv (r:Rp):Prop where
 hp:kX r.p=true
 n5:r.dims.length≤5
 d: ∀ k,k<r.dims.length→r.dims[k]?.getD 0=(dN r k:Int)∧dN r k≤4
 e6:r.q.src.length≤6
 tl:r.q.tgt.length=r.q.src.length
 ml:r.maps.length=r.q.src.length
 s: ∀ i,i<r.q.src.length→r.q.src[i]?.getD 0=(sV r i:Int)∧sV r i<r.dims.length
 t: ∀ i,i<r.q.src.length→r.q.tgt[i]?.getD 0=(tV r i:Int)∧tV r i<r.dims.length
 m: ∀ i,i<r.q.src.length→r.maps[i]?.getD ⟨0,0,[]⟩=⟨dN r (tV r i),dN r (sV r i),dF (dN r (tV r i)) (dN r (sV r i)) (aF r i)⟩∧InP r.p (dN r (tV r i)) (dN r (sV r i)) (aF r i)
theorem aKy {r:Rp} (h:aEd r=true):Rv r:=by
 obtain ⟨hp,hD,hml,hM⟩:=aPH h
 obtain ⟨hQ,hd1,hd2,_⟩:=aBI hD
 obtain ⟨n,hn,hn1,hn5,hq1,hq2,hq3,hq4⟩:=aBG hQ
 have hdl:r.dims.length=n:=by omega
 have hd: ∀ k,k<r.dims.length→r.dims[k]?.getD 0=(dN r k:Int)∧dN r k≤4:=by
  intro k hk
  have:=hd2 _ (eZ 0 hk)
  unfold dN
  omega
 have hs: ∀ i,i<r.q.src.length→r.q.src[i]?.getD 0=(sV r i:Int)∧sV r i<r.dims.length:=by
  intro i hi
  have:=hq3 _ (eZ 0 hi)
  unfold sV
  omega
 have ht: ∀ i,i<r.q.src.length→r.q.tgt[i]?.getD 0=(tV r i:Int)∧tV r i<r.dims.length:=by
  intro i hi
  have:=hq4 _ (eZ 0 (show i<r.q.tgt.length by omega))
  unfold tV
  omega
 refine ⟨hp,by omega,hd,hq2,by omega,hml,hs,ht,fun i hi=>?_⟩
 obtain ⟨g1,g2,g3⟩:=hM i (by omega)
 rw [show (r.q.src[i]?.getD 0).toNat=sV r i from rfl,(hd _ (hs i hi).2).1] at g2
 rw [show (r.q.tgt[i]?.getD 0).toNat=tV r i from rfl,(hd _ (ht i hi).2).1] at g3
 obtain ⟨_,a,b,F,ha,hb,he,hF⟩:=aLw g1
 have ea:a=dN r (tV r i):=by rw [he] at g3;simp only at g3;omega
 have eb:b=dN r (sV r i):=by rw [he] at g2;simp only at g2;omega
 have em: ∀ j k,j<a→k<b→aF r i j k=F j k:=by
  intro j k hj hk
  unfold aF
  rw [he,←eb]
  simp only
  rw [lJ F hj hk];rfl
 subst ea;subst eb
 rw [he]
 refine ⟨?_,fun j k hj hk=>by rw [em j k hj hk];exact hF j k hj hk⟩
 rw [dD em]
theorem aQa {α:Type} {f:Nat→α} {n k:Nat} (h:k<n):dX ((List.range n).map f) (k:Int)=some (f k):=by rw [dW (by simp;exact h)];simp
theorem aHy {R N:Nat} (hN:R*N≤1048576) (h1:R≤1048576) (h2:N≤1048576) (M:Nat→Nat→Int):jJ R ((List.range N).map fun k=>lU R fun i=>M i k)=some ⟨R,N,dF R N M⟩:=by
 unfold jJ
 rw [List.length_map,List.length_range,aPE hN,Option.bind_some]
 simp only
 rw [fT (r:=dF R N M) (fun k=>(dF R N (fun i j=>if j<k then M i j else 0),(k:Int))) N (by simp) (fun k hk=>?_) (fun _=>?_),Option.bind_some]
 ·unfold jS
  simp only
  rw [List.length_map,List.length_range,kY hk,cond_true,aQa hk,Option.bind_some]
  rw [fT (r:=dF R N (fun i j=>if j<k+1 then M i j else 0)) (fun x=>(dF R N (fun i j=>if j<k∨(j=k∧i<x) then M i j else 0),(x:Int))) R (by simp) (fun x hx=>?_) (fun _=>?_),Option.bind_some,dR hk (by omega)]
  ·unfold jR
   simp only
   rw [fK,kY hx,cond_true,aGF _ hx,Option.bind_some,atT hN hx hk,Option.bind_some,aNi hN hx hk,dR hx (by omega)]
   congr 3
   refine dD fun i j hi hj=>?_
   simp only [aEL]
   by_cases e:i=x∧j=k
   ·rw [if_pos e,if_pos (by omega),e.1,e.2]
   ·rw [if_neg e]
    by_cases e2:j<k∨j=k∧i<x
    ·rw [if_pos e2,if_pos (by omega)]
    ·rw [if_neg e2,if_neg (by omega)]
  ·unfold jR
   simp only
   rw [fK,pH (Nat.le_refl _),cond_false]
   congr 2
   refine dD fun i j hi hj=>?_
   by_cases e:j<k+1
   ·rw [if_pos e,if_pos (by omega)]
   ·rw [if_neg e,if_neg (by omega)]
 ·unfold jS
  simp only
  rw [List.length_map,List.length_range,pH (Nat.le_refl _),cond_false]
  congr 2
  exact dD fun i j hi hj=>by rw [if_pos hj]
end
noncomputable section
def aRU (n:Nat) (l:List (List Int)):Mt:=⟨n,(l.length:Int),dF n l.length fun i k=>dE l k i⟩
theorem aNp {n:Nat} {l:List (List Int)} (h: ∀ v∈l,v.length=n):l=(List.range l.length).map fun k=>lU n fun i=>dE l k i:=aMy h
theorem aRV {n:Nat} {l:List (List Int)} (hn:n≤1024) (hl:l.length≤512) (h: ∀ v∈l,v.length=n):jJ n l=some (aRU n l):=by
 have hN:n*l.length≤1048576:=by have:=Nat.mul_le_mul hn hl;omega
 have e:=aHy hN (by omega) (by omega) (fun i k=>dE l k i)
 rw [←aNp h] at e
 exact e
theorem aSG {α β:Type} {f:α→β} {l:List α} {k:Nat} (hk:k<l.length):(l.take k).map f++[f l[k]]=(l.take (k+1)).map f:=by rw [List.take_succ_eq_append_getElem hk,List.map_append];rfl
end
end Go.Proofs.YtghechfdejhapaaGreat

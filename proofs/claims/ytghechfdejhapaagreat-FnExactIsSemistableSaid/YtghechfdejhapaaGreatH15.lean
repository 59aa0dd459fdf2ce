/-
  Several texts of the claim in one.
-/
import Derived.Test.YtghechfdejhapaaGreatH14
set_option linter.unusedVariables false
set_option linter.unusedSimpArgs false
namespace Go.Proofs.YtghechfdejhapaaGreat
open Go.RowKit
noncomputable section
set_option maxRecDepth 10000
set_option maxHeartbeats 4000000
def oC (a0:(List Sc)) (x1:((List Int)×Int)):Option (((List Int)×Int) ⊕ (List Int)):=
 bif decide (x1.2<(a0.length:Int)) then
 (Option.bind (dV a0 x1.2) fun v2=>
 bif decide (x1.1.length+[(v2.basis.length:Int)].length ≤4294967296) then
 (some (.inl ((x1.1++[(v2.basis.length:Int)]),wr (x1.2+1))))
 else none)
 else
 (some (.inr x1.1))
def pD (a0:(List Sc)):Option (List Int):=
 Option.bind (Lp (oC a0) ([],0)) fun y4=>
 some (y4)
theorem aAv (a0:(List Sc)) (r:(List Int)) (h:pD a0=some r):HasC Tryz.prog 87 [.list 2 (List.map eS a0)] (.list 1 (List.map eI r)):=by
 refine bK aA (rvs:=[.tmp 2]) (ns:=[0,1,2,3,4,5]) Tryz.func87 k k Tryz.ntmps87 k k k<|sQ<|rg<|aa k k<|an<|tn<|sQ<|rg<|aa k k<|an ?_
 refine tn<|sQ<|sQ<|rg<|am k k<|ae (dG aA k k k) k<|am k k<|an<|tn<|aN ?_
 obtain ⟨y4,hy4,h⟩:=ob h
 refine cU (body:=(oC a0)) hy4 (fun (x1:((List Int)×Int))=>bU [(3,.own 0 0 x1.1.length),(6,.list 2 (List.map eS a0)),(7,.int (a0.length:Int)),(8,.int x1.2)] [(0,⟨1,List.map (ow eI) x1.1⟩)] 1 [1,2,3,4,5]) (fun r e t=>e= .exit 0∧Ent t (bU [(3,.own 0 0 r.length)] [(0,⟨1,List.map (ow eI) r⟩)] 1 [1,2,3,4,5])) (aE (σ:=sg []) ⟨⟨_,k,⟨k,k,k,k⟩⟩,⟨_,k,⟨k,k⟩⟩,(e1 k k),(e1 k k),trivial⟩ (hX k k<|trivial) k) ?_ ?_
 ·intro x1 o h
  refine sQ<|rg<|ae (bC k k k) k<|an<|tn<|sQ ?_
  rcases cb h with ⟨q1,h⟩|⟨q1,h⟩
  ·refine aM k q1<|aT<|tn<|sQ<|aN<|sQ<|rg ?_
   obtain ⟨v2,hv2,h⟩:=ob h
   refine ae (bH aA hv2 k k k k k k) k<|ae (aV aA k k k k k k) k<|ae (bX aA k k) k<|ae (bP aA k k k k k k k k) k<|an<|tn<|rg<|am k k<|ae (aD aA k k k k k k k) k<|ae (aC aA k k k k k k k) k ?_
   refine ae (dG aA k k k) k<|ae (cS aA k k k k k k k k k k k k) k ?_
   obtain ⟨q3,h⟩:=cg h
   refine ae (uH aA (l:=x1.1) (m:=[(v2.basis.length:Int)]) sZ q3 k k k k k k k k k k k k) k<|aa k k<|an<|bE<|tn<|aO (t:=bU [(3,.own 3 0 ((x1.1++[(v2.basis.length:Int)]).length)),(6,.list 2 (List.map eS a0)),(7,.int (a0.length:Int)),(8,.int x1.2)] [(3,⟨1,List.map (ow eI) (x1.1++[(v2.basis.length:Int)])⟩)] 4 [4,5]) (aE (σ:=sg [(3,3)]) ⟨(oE k k),⟨_,k,⟨k,k⟩⟩,(e1 k k),(e1 k k),trivial⟩ (hI k k k<|trivial) k)<|rg<|ae (bV k k) k<|am k k<|an ?_
   refine tn ?_
   obtain rfl:=so h
   exact ⟨_,k,(aE (σ:=sg [(0,3)]) ⟨(oE k k),⟨_,k,⟨k,k⟩⟩,(e1 k k),(e1 k k),trivial⟩ (hI k k k<|trivial) k)⟩
  ·refine aS k q1<|bG<|aH<|aH ?_
   obtain rfl:=so h
   exact ⟨_,k,k,(aE (σ:=sg [(0,0)]) ⟨(oE k k),trivial⟩ (hI k k k<|trivial) k)⟩
 ·rintro e t ⟨rfl,hent⟩
  refine aW<|tn<|aO hent<|sQ<|rg<|am k k<|aa k k<|an<|tn<|aP ?_
  obtain rfl:=so h
  exact aU k k k (mD (iM eE k k))
def qG (a0:(List Int)) (a1:(List Int)):Option Bool:=
 bif decide ((a0.length:Int)=(a1.length:Int)) then
 (bif decide ((a0.length:Int)≤100) then
 (Option.bind (fB a0 (-20) 20) fun v3=>
 bif v3 then
 (Option.bind (fB a1 0 100) fun v5=>
 some (v5))
 else
 (some (false)))
 else
 (some (false)))
 else
 (some (false))
theorem aEU (a0:(List Int)) (a1:(List Int)) (r:Bool) (h:qG a0 a1=some r):HasC Tryz.prog 102 [.list 1 (List.map eI a0),.list 1 (List.map eI a1)] (.bl r):=by
 refine bK aA (rvs:=[.tmp 4]) (ns:=[0,1]) Tryz.func102 k k Tryz.ntmps102 k k k<|sQ<|rg<|aa k k<|an<|tn<|sQ<|rg<|am k k<|ae (dG aA k k k) k ?_
 refine am k k<|ae (dG aA k k k) k<|ae (bC k k k) k<|am k k ?_
 rcases cb h with ⟨q1,h⟩|⟨q1,h⟩
 ·refine aX 10 k q1<|am k k<|ae (dG aA k k k) k<|ae (bC k k k) k<|ae (aJ k k) k<|am k k ?_
  rcases cb h with ⟨q2,h⟩|⟨q2,h⟩
  ·refine aX 15 k q2<|am k k ?_
   obtain ⟨v3,hv3,h⟩:=ob h
   refine ae (aZ (gS a0 (-20) 20 v3 hv3) k (aG (aI k) (aG (aI k) (aG (aI k) bA)))) k<|ae (aJ k k) k<|am k k ?_
   rcases cb h with ⟨q4,h⟩|⟨q4,h⟩
   ·refine aX 19 k q4<|am k k ?_
    obtain ⟨v5,hv5,h⟩:=ob h
    refine ae (aZ (gS a1 0 100 v5 hv5) k (aG (aI k) (aG (aI k) (aG (aI k) bA)))) k<|ae (aJ k k) k<|aa k k<|an<|tn<|aO (t:=bU [(4,.bl v5)] [] 0 [0,1]) (aE (σ:=sg []) ⟨(e1 k k),trivial⟩ trivial k)<|aP ?_
    obtain rfl:=so h
    exact aU k k k (bT k)
   ·refine aX 19 k q4<|ak k k<|ak k k<|ae (aJ k k) k<|aa k k<|an<|tn<|aO (t:=bU [(4,.bl false)] [] 0 [0,1]) (aE (σ:=sg []) ⟨(e1 k k),trivial⟩ trivial k)<|aP ?_
    obtain rfl:=so h
    exact aU k k k (bT k)
  ·refine aX 15 k q2<|ak k k<|ak k k<|ae (aJ k k) k<|am k k<|ak k k<|ak k k<|ae (aJ k k) k<|aa k k<|an ?_
   refine tn<|aO (t:=bU [(4,.bl false)] [] 0 [0,1]) (aE (σ:=sg []) ⟨(e1 k k),trivial⟩ trivial k)<|aP ?_
   obtain rfl:=so h
   exact aU k k k (bT k)
 ·refine aX 10 k q1<|ak k k<|ak k k<|ak k k<|ae (aJ k k) k<|am k k<|ak k k<|ak k k<|ae (aJ k k) k<|am k k ?_
  refine ak k k<|ak k k<|ae (aJ k k) k<|aa k k<|an<|tn<|aO (t:=bU [(4,.bl false)] [] 0 [0,1]) (aE (σ:=sg []) ⟨(e1 k k),trivial⟩ trivial k)<|aP ?_
  obtain rfl:=so h
  exact aU k k k (bT k)
def oD (a0:(List Int)) (a1:(List Int)) (x1:(Int×Int)):Option ((Int×Int) ⊕ Int):=
 bif decide (x1.2<(a0.length:Int)) then
 (Option.bind (dV a0 x1.2) fun v2=>
 Option.bind (dV a1 x1.2) fun v3=>
 some (.inl (wr (x1.1+(wr (v2*v3))),wr (x1.2+1))))
 else
 (some (.inr x1.1))
def pF (a0:(List Int)) (a1:(List Int)):Option Int:=
 Option.bind (Lp (oD a0 a1) (0,0)) fun y4=>
 some (y4)
theorem aAw (a0:(List Int)) (a1:(List Int)) (r:Int) (h:pF a0 a1=some r):HasC Tryz.prog 132 [.list 1 (List.map eI a0),.list 1 (List.map eI a1)] (.int r):=by
 refine bK aA (rvs:=[.tmp 4]) (ns:=[0,1]) Tryz.func132 k k Tryz.ntmps132 k k k<|sQ<|rg<|aa k k<|an<|tn<|sQ<|rg<|aa k k<|an ?_
 refine tn<|sQ<|sQ<|rg<|am k k<|ae (dG aA k k k) k<|am k k<|an<|tn<|aN ?_
 obtain ⟨y4,hy4,h⟩:=ob h
 refine cU (body:=(oD a0 a1)) hy4 (fun (x1:(Int×Int))=>bU [(1,.list 1 (List.map eI a1)),(5,.int x1.1),(8,.list 1 (List.map eI a0)),(9,.int (a0.length:Int)),(10,.int x1.2)] [] 0 [0,1]) (fun r e t=>e= .exit 0∧Ent t (bU [(5,.int r)] [] 0 [0,1])) (aE (σ:=sg []) ⟨⟨_,k,⟨k,k⟩⟩,(e1 k k),⟨_,k,⟨k,k⟩⟩,(e1 k k),(e1 k k),trivial⟩ trivial k) ?_ ?_
 ·intro x1 o h
  refine sQ<|rg<|ae (bC k k k) k<|an<|tn<|sQ ?_
  rcases cb h with ⟨q1,h⟩|⟨q1,h⟩
  ·refine aM k q1<|aT<|tn<|sQ<|aN<|sQ<|rg<|am k k ?_
   obtain ⟨v2,hv2,h⟩:=ob h
   refine ae (bH aA hv2 k k k k k k) k<|ae (aV aA k k k k k k) k<|aa k k<|aa k k<|an<|tn<|rg<|am k k<|am k k<|am k k ?_
   refine am k k ?_
   obtain ⟨v3,hv3,h⟩:=ob h
   refine ae (bH aA hv3 k k k k k k) k<|ae (aV aA k k k k k k) k<|ae (fL k k) k<|ae (bV k k) k<|aa k k<|an<|bE<|tn<|aO (t:=bU [(1,.list 1 (List.map eI a1)),(5,.int (wr (x1.1+(wr (v2*v3))))),(8,.list 1 (List.map eI a0)),(9,.int (a0.length:Int)),(10,.int x1.2)] [] 0 [0,1]) (aE (σ:=sg []) ⟨⟨_,k,⟨k,k⟩⟩,(e1 k k),⟨_,k,⟨k,k⟩⟩,(e1 k k),(e1 k k),trivial⟩ trivial k)<|rg ?_
   refine ae (bV k k) k<|am k k<|an<|tn ?_
   obtain rfl:=so h
   exact ⟨_,k,(aE (σ:=sg []) ⟨⟨_,k,⟨k,k⟩⟩,(e1 k k),⟨_,k,⟨k,k⟩⟩,(e1 k k),(e1 k k),trivial⟩ trivial k)⟩
  ·refine aS k q1<|bG<|aH<|aH ?_
   obtain rfl:=so h
   exact ⟨_,k,k,(aE (σ:=sg []) ⟨(e1 k k),trivial⟩ trivial k)⟩
 ·rintro e t ⟨rfl,hent⟩
  refine aW<|tn<|aO hent<|sQ<|rg<|am k k<|aa k k<|an<|tn<|aP ?_
  obtain rfl:=so h
  exact aU k k k (cI k)
def kJ (a0:(List Int)) (a1:(List Int)) (a2:(List Int)):Option Int:=
 Option.bind (pF a0 a1) fun v1=>
 Option.bind (gF a2) fun v2=>
 Option.bind (pF a0 a2) fun v3=>
 Option.bind (gF a1) fun v4=>
 Option.bind (nV (wr (v1*v2)) (wr (v3*v4))) fun v5=>
 some (v5)
theorem aAx (a0:(List Int)) (a1:(List Int)) (a2:(List Int)) (r:Int) (h:kJ a0 a1 a2=some r):HasC Tryz.prog 88 [.list 1 (List.map eI a0),.list 1 (List.map eI a1),.list 1 (List.map eI a2)] (.int r):=by
 refine bK aA (rvs:=[.tmp 6]) (ns:=[0,1]) Tryz.func88 k k Tryz.ntmps88 k k k<|sQ<|rg<|aa k k<|an<|tn<|sQ<|rg<|am k k<|am k k ?_
 obtain ⟨v1,hv1,h⟩:=ob h
 refine ae (aZ (aAw a0 a1 v1 hv1) k (aG (aI k) (aG (aI k) bA))) k<|am k k ?_
 obtain ⟨v2,hv2,h⟩:=ob h
 refine ae (aZ (pT a2 v2 hv2) k (aG (aI k) bA)) k<|ae (fL k k) k<|am k k<|am k k ?_
 obtain ⟨v3,hv3,h⟩:=ob h
 refine ae (aZ (aAw a0 a2 v3 hv3) k (aG (aI k) (aG (aI k) bA))) k<|am k k ?_
 obtain ⟨v4,hv4,h⟩:=ob h
 refine ae (aZ (pT a1 v4 hv4) k (aG (aI k) bA)) k<|ae (fL k k) k ?_
 obtain ⟨v5,hv5,h⟩:=ob h
 refine ae (aZ (yE (wr (v1*v2)) (wr (v3*v4)) v5 hv5) k (aG (aI k) (aG (aI k) bA))) k<|aa k k<|an<|tn<|aO (t:=bU [(6,.int v5)] [] 0 [0,1]) (aE (σ:=sg []) ⟨(e1 k k),trivial⟩ trivial k)<|aP ?_
 obtain rfl:=so h
 exact aU k k k (cI k)
def rQ (a0:Rp) (a1:(List Int)):Option Bool:=
 Option.bind (oZ a0) fun v1=>
 bif v1 then
 (Option.bind (gF a0.dims) fun v3=>
 bif decide (0<v3) then
 (Option.bind (qG a1 a0.dims) fun v5=>
 some (v5))
 else
 (some (false)))
 else
 (some (false))
theorem aFh (a0:Rp) (a1:(List Int)) (r:Bool) (h:rQ a0 a1=some r):HasC Tryz.prog 82 [.agg (eR a0),.list 1 (List.map eI a1)] (.bl r):=by
 refine bK aA (rvs:=[.tmp 4]) (ns:=[0,1,2]) Tryz.func82 k k Tryz.ntmps82 k k k<|sQ<|rg<|ae (cC k k k k) k<|aa k k<|an<|tn<|sQ<|rg<|ae (aC aA k k k k k k k) k ?_
 obtain ⟨v1,hv1,h⟩:=ob h
 refine ae (aZ (aGu a0 v1 hv1) k (aG (cA (aL (aQ k) (aL (aQ k) (aL (aQ k) (aL (aQ k) (aL (aQ k) (aL (aQ k) cF))))))) bA)) k<|am k k ?_
 rcases cb h with ⟨q2,h⟩|⟨q2,h⟩
 ·refine aX 7 k q2<|ae (aD aA k k k k k k k) k<|ae (aC aA k k k k k k k) k ?_
  obtain ⟨v3,hv3,h⟩:=ob h
  refine ae (aZ (pT a0.dims v3 hv3) k (aG (aI k) bA)) k<|ae (bC k k k) k<|ae (aJ k k) k<|am k k ?_
  rcases cb h with ⟨q4,h⟩|⟨q4,h⟩
  ·refine aX 13 k q4<|am k k<|ae (aD aA k k k k k k k) k<|ae (aC aA k k k k k k k) k ?_
   obtain ⟨v5,hv5,h⟩:=ob h
   refine ae (aZ (aEU a1 a0.dims v5 hv5) k (aG (aI k) (aG (aI k) bA))) k<|ae (aJ k k) k<|aa k k<|an<|tn<|aO (t:=bU [(4,.bl v5)] [] 1 [1,2]) (aE (σ:=sg []) ⟨(e1 k k),trivial⟩ trivial k)<|aP ?_
   obtain rfl:=so h
   exact aU k k k (bT k)
  ·refine aX 13 k q4<|ak k k<|ak k k<|ak k k<|ak k k<|ae (aJ k k) k<|aa k k<|an<|tn<|aO (t:=bU [(4,.bl false)] [] 1 [1,2]) (aE (σ:=sg []) ⟨(e1 k k),trivial⟩ trivial k) ?_
   refine aP ?_
   obtain rfl:=so h
   exact aU k k k (bT k)
 ·refine aX 7 k q2<|ak k k<|ak k k<|ak k k<|ak k k<|ae (aJ k k) k<|am k k<|ak k k<|ak k k<|ak k k ?_
  refine ak k k<|ae (aJ k k) k<|aa k k<|an<|tn<|aO (t:=bU [(4,.bl false)] [] 1 [1,2]) (aE (σ:=sg []) ⟨(e1 k k),trivial⟩ trivial k)<|aP ?_
  obtain rfl:=so h
  exact aU k k k (bT k)
def tX (a0:Rp) (v1:List Int) (x1:(List (List Sc))):Option ((List (List Sc)) ⊕ Unit):=
 Option.bind (nB a0 v1) fun v2=>
 bif decide (x1.length+v2.length≤4294967296) then
 (some (.inl (x1++v2)))
 else none
def tY (a0:Rp):Option (List (List Sc)):=
 bif aBw a0.dims then
 (Option.bind (Fl (tX a0) (dH a0.dims) []) fun y4=>
 Sum.elim (fun y4=>
 some (y4)
 ) (fun _=>none) y4)
 else none
theorem aGv (a0:Rp) (r:(List (List Sc))) (h:tY a0=some r):HasC Tryz.prog 84 [.agg (eR a0)] (.list 1 (List.map (dA 2 eS) r)):=by
 refine bK aA (rvs:=[.tmp 2]) (ns:=[0,1,2,3,4,5,6,7]) Tryz.func84 k k Tryz.ntmps84 k k k<|sQ<|rg<|ae (cC k k k k) k<|aa k k<|an<|tn<|sQ<|rg<|ae (bX aA k k) k ?_
 refine an<|tn<|sQ<|sQ<|rg<|ae (aD aA k k k k k k k) k<|ae (aC aA k k k k k k k) k<|ae (aGn (aJO a0.dims) k k k k) k<|an<|tn ?_
 refine aN ?_
 obtain ⟨q5,h⟩:=cg h
 obtain ⟨y4,hy4,h⟩:=ob h
 refine aGl (f:=(tX a0)) (σ:=(List (List Sc))) (ρ:=Unit) y4 [] [(1,.ptr 0 0 0),(3,.ptr 1 0 0),(7,.fn 176 [.ref [.list 1 (List.map eI a0.dims)]])] [(0,⟨6,[[.int a0.p,.int a0.q.n,.list 1 (List.map eI a0.q.src),.list 1 (List.map eI a0.q.tgt),.list 1 (List.map eI a0.dims),.list 3 (List.map eM a0.maps)]]⟩),(1,⟨1,[[.nil 1]]⟩)] 2 [2,3,4,5,6,7] (fun x1=>[(0,⟨6,[[.int a0.p,.int a0.q.n,.list 1 (List.map eI a0.q.src),.list 1 (List.map eI a0.q.tgt),.list 1 (List.map eI a0.dims),.list 3 (List.map eM a0.maps)]]⟩),(1,⟨1,[[.own 3 0 x1.length]]⟩),(3,⟨1,List.map (ow (dA 2 eS)) x1⟩)]) 4 [4,5,6,7] (fun _ _ _=>False) (aOt q5) hy4 k k k (fun _=>k) (aE (σ:=sg [(0,0),(1,1)]) ⟨(pE k k),(pE k k),⟨_,k,⟨k,⟨_,_,k,k,k⟩⟩⟩,trivial⟩ (hP k k k k<|hP k k k k<|trivial) k) k (aE (σ:=sg [(0,0),(1,1),(2,2)]) ⟨(oE k k),(pE k k),(pE k k),⟨_,k,⟨k,⟨_,_,k,k,k⟩⟩⟩,trivial⟩ (hI k k k<|hP k k k k<|hX ⟨_,k,k,.inr ⟨_,_,k,⟨_,_,k,⟨k,k,k,k⟩,k⟩,k⟩⟩ k<|hX k k<|trivial) k) ?_ ?_
 ·intro x1 v1 o hxv1 h
  have hlv1:=decide_eq_true (mN hxv1)
  change AC Tryz.prog _ _ (bU [(8,.own 2 0 a0.dims.length),(1,.ptr 0 0 0),(3,.ptr 1 0 0),(7,.fn 176 [.ref [.list 1 (List.map eI a0.dims)]])] [(2,⟨1,List.map (ow eI) v1⟩),(0,⟨6,[[.int a0.p,.int a0.q.n,.list 1 (List.map eI a0.q.src),.list 1 (List.map eI a0.q.tgt),.list 1 (List.map eI a0.dims),.list 3 (List.map eM a0.maps)]]⟩),(1,⟨1,[[.own 3 0 x1.length]]⟩),(3,⟨1,List.map (ow (dA 2 eS)) x1⟩)] 4 [4,5,6,7] ⟨3,false,none,false⟩) _
  refine rg<|aa k k<|an ?_
  refine ⟨k,?_⟩
  refine aN<|aY kB<|ae (aC aA k k k k k k k) k<|ae (aC aA k k k k k k k) k<|am k k ?_
  obtain ⟨v2,hv2,h⟩:=ob h
  refine ae (AEff.conv (cR (x:= .own 4 0 (List.map (dA 2 eS) v2).length) (nb:=[(4,⟨1,cW (List.map (dA 2 eS) v2)⟩)]) (aFb a0 v1 v2 hv2) k (by rfl) k k (cL.good _) (aG (cA (aL (aQ k) (aL (aQ k) (aL (aQ k) (aL (aQ k) (aL (aQ k) (aL (aQ k) cF))))))) (aG (aCG eE k (by first|rfl|simp only [List.length_set,of_decide_eq_true hlv1])) bA))) (v':= .own 4 0 v2.length) (ed':=[(4,some ⟨1,List.map (ow (dA 2 eS)) v2⟩)]) (by simp only [bD]) (eJ (nb':=[(4,⟨1,List.map (ow (dA 2 eS)) v2⟩)]) (by simp only [cT]))) k ?_
  obtain ⟨q3,h⟩:=cg h
  refine ae (aOr aA (l:=x1) (m:=v2) cL q3 k k k k k k k k k k k k k k) k<|ae (bP aA k k k k k k k k) k<|an ?_
  refine ⟨by kernel_rfl,?_⟩
  refine bE ?_
  obtain rfl:=so h
  exact ⟨k,(aE (σ:=sg [(0,0),(1,1),(2,2),(3,5)]) ⟨(oE k k),(pE k k),(pE k k),⟨_,k,⟨k,⟨_,_,k,k,k⟩⟩⟩,trivial⟩ (hI k k k<|hP k k k k<|hX ⟨_,k,k,.inr ⟨_,_,k,⟨_,_,k,⟨k,k,k,k⟩,k⟩,k⟩⟩ k<|hB (cL.plainO _) k k k<|trivial) k)⟩
 ·rcases y4 with y4|y4
  ·dsimp only
   refine bE<|tn<|sQ<|rg<|ae (aC aA k k k k k k k) k<|aa k k<|an<|tn<|aP ?_
   obtain rfl:=so h
   exact aU k k k (mD (iM cL k k))
  ·cases h
def cM (a0:(List (List Sc))) (a1:((List Sc)→Option Bool)) (x1:Int):Option (Int ⊕ (Unit ⊕ Int)):=
 bif decide (x1<(a0.length:Int)) then
 (Option.bind (dV a0 x1) fun v2=>
 Option.bind (a1 v2) fun v3=>
 bif v3 then
 (some (.inr (.inr (x1))))
 else
 (some (.inl (wr (x1+1)))))
 else
 (some (.inr (.inl ())))
def eN (a0:(List (List Sc))) (a1:((List Sc)→Option Bool)):Option Int:=
 Option.bind (Lp (cM a0 a1) 0) fun y5=>
 Sum.elim (fun y6=>
 some ((-1))
 )
 (fun y7=>
 some y7
 )
 y5
theorem lY (a0:(List (List Sc))) (a1:((List Sc)→Option Bool)) {f1:FuncId} {c1:List AV} (hc1:c1.all eT=true) (hf1: ∀ b0 r,a1 b0=some r→HasC Tryz.prog f1 ([.list 2 (List.map eS b0)]++c1) (.bl r)) (r:Int) (h:eN a0 a1=some r):HasC Tryz.prog 129 [.list 1 (List.map (dA 2 eS) a0),.fn f1 c1] (.int r):=by
 refine bK aA (rvs:=[.tmp 4]) (ns:=[0,1]) Tryz.func129 k k Tryz.ntmps129 k k (jL k (jL hc1 aAj))<|sQ<|rg<|aa k k<|an<|tn<|sQ<|sQ<|rg<|am k k ?_
 refine ae (dG aA k k k) k<|am k k<|an<|tn<|aN ?_
 obtain ⟨y5,hy5,h⟩:=ob h
 refine cU (body:=(cM a0 a1)) hy5 (fun (x1:Int)=>bU [(0,.list 1 (List.map (dA 2 eS) a0)),(1,.fn f1 c1),(7,.int (a0.length:Int)),(8,.int x1)] [] 0 [0,1]) (fun r e t=>Sum.elim (fun a=>(fun r e t=>e= .exit 0∧Ent t (bU [] [] 0 [0,1])) a e t) (fun b=>(fun r e t=>e= .ret∧sY TT [.tmp 4] (.int r) .ret t) b e t) r) (aE (σ:=sg []) ⟨⟨_,k,⟨k,k⟩⟩,⟨_,k,⟨k,jU _ hc1⟩⟩,(e1 k k),(e1 k k),trivial⟩ trivial k) ?_ ?_
 ·intro x1 o h
  refine sQ<|rg<|ae (bC k k k) k<|an<|tn<|sQ ?_
  rcases cb h with ⟨q1,h⟩|⟨q1,h⟩
  ·refine aM k q1<|aT<|tn<|sQ<|aN<|sQ<|rg<|am k k<|aa k k<|an ?_
   refine tn<|sQ<|rg<|am k k<|am k k<|am k k ?_
   obtain ⟨v2,hv2,h⟩:=ob h
   refine ae (bH aA hv2 k k k k k k) k<|ae (aV aA k k k k k k) k ?_
   obtain ⟨v3,hv3,h⟩:=ob h
   refine ae (aBM hc1 (hf1 v2 v3 hv3) k k (aG (aI k) bA)) k<|an<|tn ?_
   rcases cb h with ⟨q4,h⟩|⟨q4,h⟩
   ·refine aM k q4<|sQ<|rg<|am k k<|aa k k<|an<|tn<|aP<|bB<|aK ?_
    refine aK ?_
    obtain rfl:=so h
    exact ⟨_,k,k,aU k k k (cI k)⟩
   ·refine aS k q4<|aT<|bE<|tn<|rg<|ae (bV k k) k<|am k k<|an<|tn ?_
    obtain rfl:=so h
    exact ⟨_,k,(aE (σ:=sg []) ⟨⟨_,k,⟨k,k⟩⟩,⟨_,k,⟨k,jU _ hc1⟩⟩,(e1 k k),(e1 k k),trivial⟩ trivial k)⟩
  ·refine aS k q1<|bG<|aH<|aH ?_
   obtain rfl:=so h
   exact ⟨_,k,k,(aE (σ:=sg []) trivial trivial k)⟩
 ·intro e t hX
  rcases y5 with y6|y7
  ·obtain ⟨rfl,hent⟩:=hX
   refine aW<|tn<|aO hent<|sQ<|rg<|aa k k<|an<|tn<|aP ?_
   obtain rfl:=so h
   exact aU k k k (cI k)
  ·obtain ⟨rfl,hent⟩:=hX
   refine bB<|aK ?_
   obtain rfl:=so h
   exact hent
def dI (a0:(List (List Sc))) (a1:((List Sc)→Option Bool)):Option Bool:=
 Option.bind (eN a0 a1) fun v1=>
 some (decide (0≤v1))
theorem kS (a0:(List (List Sc))) (a1:((List Sc)→Option Bool)) {f1:FuncId} {c1:List AV} (hc1:c1.all eT=true) (hf1: ∀ b0 r,a1 b0=some r→HasC Tryz.prog f1 ([.list 2 (List.map eS b0)]++c1) (.bl r)) (r:Bool) (h:dI a0 a1=some r):HasC Tryz.prog 83 [.list 1 (List.map (dA 2 eS) a0),.fn f1 c1] (.bl r):=by
 refine bK aA (rvs:=[.tmp 4]) (ns:=[0,1]) Tryz.func83 k k Tryz.ntmps83 k k (jL k (jL hc1 aAj))<|sQ<|rg<|aa k k<|an<|tn<|sQ<|rg<|am k k<|am k k ?_
 obtain ⟨v1,hv1,h⟩:=ob h
 refine ae (aZ (lY a0 a1 hc1 hf1 v1 hv1) k (aG (aI k) (aG (aLI hc1) bA))) k<|ae (bC k k k) k<|aa k k<|an<|tn<|aP ?_
 obtain rfl:=so h
 exact aU k k k (bT k)
def jS (a0:(List Sc)) (a1:(List Int)) (a2:Rp):Option Bool:=
 Option.bind (pD a0) fun v1=>
 Option.bind (gF v1) fun v2=>
 bif decide (0<v2) then
 (Option.bind (pD a0) fun v4=>
 Option.bind (kJ a1 v4 a2.dims) fun v5=>
 some (decide (0<v5)))
 else
 (some (false))
theorem aAT (a0:(List Sc)) (a1:(List Int)) (a2:Rp) (r:Bool) (h:jS a0 a1 a2=some r):HasC Tryz.prog 85 [.list 2 (List.map eS a0),.ref ((dA 1 eI) a1),.ref (eR a2)] (.bl r):=by
 refine bK aA (rvs:=[.tmp 4]) (ns:=[0,1,2,3]) Tryz.func85 k k Tryz.ntmps85 k k k<|sQ<|rg<|aa k k<|an<|tn<|sQ<|aY kB<|am k k ?_
 obtain ⟨v1,hv1,h⟩:=ob h
 refine ae (AEff.conv (cR (x:= .own 0 0 (List.map eI v1).length) (nb:=[(0,⟨1,cW (List.map eI v1)⟩)]) (aAv a0 v1 hv1) k (by rfl) k k (eE.good _) (aG (aI k) bA)) (v':= .own 0 0 v1.length) (ed':=[(0,some ⟨1,List.map (ow eI) v1⟩)]) (by simp only [bD]) (eJ (nb':=[(0,⟨1,List.map (ow eI) v1⟩)]) (by simp only [cT]))) k ?_
 obtain ⟨v2,hv2,h⟩:=ob h
 refine ae (aZ (pT v1 v2 hv2) k (aG (aCG eE k k) bA)) k<|ae (bC k k k) k<|am k k ?_
 rcases cb h with ⟨q3,h⟩|⟨q3,h⟩
 ·refine aX 9 k q3<|ae (aV aA k k k k k k) k<|am k k ?_
  obtain ⟨v4,hv4,h⟩:=ob h
  refine ae (AEff.conv (cR (x:= .own 1 0 (List.map eI v4).length) (nb:=[(1,⟨1,cW (List.map eI v4)⟩)]) (aAv a0 v4 hv4) k (by rfl) k k (eE.good _) (aG (aI k) bA)) (v':= .own 1 0 v4.length) (ed':=[(1,some ⟨1,List.map (ow eI) v4⟩)]) (by simp only [bD]) (eJ (nb':=[(1,⟨1,List.map (ow eI) v4⟩)]) (by simp only [cT]))) k<|ae (bY aA k k k k k k) k<|ae (aV aA k k k k k k) k ?_
  obtain ⟨v5,hv5,h⟩:=ob h
  refine ae (aZ (aAx a1 v4 a2.dims v5 hv5) k (aG (aI k) (aG (aCG eE k k) (aG (aI k) bA)))) k<|ae (bC k k k) k<|ae (aJ k k) k<|aa k k<|an ?_
  refine ⟨by kernel_rfl,?_⟩
  refine tn<|aO (t:=bU [(4,.bl (decide (0<v5)))] [] 2 [2,3]) (aE (σ:=sg []) ⟨(e1 k k),trivial⟩ trivial k)<|aP ?_
  obtain rfl:=so h
  exact aU k k k (bT k)
 ·refine aX 9 k q3<|ak k k<|ak k k<|ak k k<|ak k k<|ak k k<|ak k k<|ak k k<|ae (aJ k k) k<|aa k k ?_
  refine an ?_
  refine ⟨by kernel_rfl,?_⟩
  refine tn<|aO (t:=bU [(4,.bl false)] [] 1 [1,2,3]) (aE (σ:=sg []) ⟨(e1 k k),trivial⟩ trivial k)<|aP ?_
  obtain rfl:=so h
  exact aU k k k (bT k)
def lF (a0:Rp) (a1:(List Int)):Option Bool:=
 Option.bind (rQ a0 a1) fun v1=>
 bif v1 then
 (Option.bind (tY a0) fun v3=>
 Option.bind (dI v3 (fun b0=>jS b0 a1 a0)) fun v4=>
 some (!v4))
 else
 (some (false))
theorem aBe (a0:Rp) (a1:(List Int)) (r:Bool) (h:lF a0 a1=some r):HasC Tryz.prog 27 [.agg (eR a0),.list 1 (List.map eI a1)] (.bl r):=by
 refine bK aA (rvs:=[.tmp 4]) (ns:=[0,1,2,3,4]) Tryz.func27 k k Tryz.ntmps27 k k k<|sQ<|rg<|ae (cC k k k k) k<|ae (cC k k k k) k<|aa k k<|an<|tn<|sQ<|rg ?_
 refine ae (aC aA k k k k k k k) k<|ae (aC aA k k k k k k k) k ?_
 obtain ⟨v1,hv1,h⟩:=ob h
 refine ae (aZ (aFh a0 a1 v1 hv1) k (aG (cA (aL (aQ k) (aL (aQ k) (aL (aQ k) (aL (aQ k) (aL (aQ k) (aL (aQ k) cF))))))) (aG (aI k) bA))) k<|am k k ?_
 rcases cb h with ⟨q2,h⟩|⟨q2,h⟩
 ·refine aX 8 k q2<|ae (aC aA k k k k k k k) k ?_
  obtain ⟨v3,hv3,h⟩:=ob h
  refine ae (AEff.conv (cR (x:= .own 2 0 (List.map (dA 2 eS) v3).length) (nb:=[(2,⟨1,cW (List.map (dA 2 eS) v3)⟩)]) (aGv a0 v3 hv3) k (by rfl) k k (cL.good _) (aG (cA (aL (aQ k) (aL (aQ k) (aL (aQ k) (aL (aQ k) (aL (aQ k) (aL (aQ k) cF))))))) bA)) (v':= .own 2 0 v3.length) (ed':=[(2,some ⟨1,List.map (ow (dA 2 eS)) v3⟩)]) (by simp only [bD]) (eJ (nb':=[(2,⟨1,List.map (ow (dA 2 eS)) v3⟩)]) (by simp only [cT]))) k<|ae (vZ (vs:=[.ptr 1 0 0,.ptr 0 0 0]) k (by simp)) k ?_
  obtain ⟨v4,hv4,h⟩:=ob h
  refine ae (aZ (kS v3 (fun b0=>jS b0 a1 a0) k (fun b0 r h=>aAT b0 a1 a0 r h) v4 hv4) k (aG (aCG cL k k) (aG (aGU (xX (aAg k k (aL (aQ k) cF)) (xX (aAg k k (aL (aQ k) (aL (aQ k) (aL (aQ k) (aL (aQ k) (aL (aQ k) (aL (aQ k) cF))))))) aAB))) bA))) k<|ae (cG k) k<|ae (aJ k k) k<|aa k k<|an<|tn<|aO (t:=bU [(4,.bl (!v4))] [] 3 [3,4]) (aE (σ:=sg []) ⟨(e1 k k),trivial⟩ trivial k)<|aP ?_
  obtain rfl:=so h
  exact aU k k k (bT k)
 ·refine aX 8 k q2<|ak k k<|ak k k<|ak k k<|ak k k<|ak k k<|ae (aJ k k) k<|aa k k<|an<|tn ?_
  refine aO (t:=bU [(4,.bl false)] [] 2 [2,3,4]) (aE (σ:=sg []) ⟨(e1 k k),trivial⟩ trivial k)<|aP ?_
  obtain rfl:=so h
  exact aU k k k (bT k)
def oF (a0:Rp) (x1:(Int×Int)):Option ((Int×Int) ⊕ Int):=
 bif decide (x1.2<(a0.dims.length:Int)) then
 (Option.bind (dV a0.dims x1.2) fun v4=>
 some (.inl (wr (x1.1*(wr (v4+1))),wr (x1.2+1))))
 else
 (some (.inr x1.1))
def kK (a0:Rp) (x3:((List Int)×Int×Int)):Option (((List Int)×Int×Int) ⊕ (List Int)):=
 bif decide (0≤x3.2.2) then
 (Option.bind (dV a0.dims x3.2.2) fun v8=>
 bif !decide (wr (v8+1)=0) then
 (Option.bind (dV x3.1 x3.2.2) fun v9=>
 Option.bind (dV a0.dims x3.2.2) fun v10=>
 bif !decide (wr (v10+1)=0) then
 (some (.inl ((x3.1.set x3.2.2.toNat (x3.2.1.tmod (wr (v8+1)))),wr (x3.2.1.tdiv (wr (v10+1))),wr (x3.2.2 - 1))))
 else none)
 else none)
 else
 (some (.inr x3.1))
def oG (a0:Rp) (y5:Int) (x2:((List (List Sc))×Int)):Option (((List (List Sc))×Int) ⊕ (List (List Sc))):=
 bif decide (x2.2<y5) then
 (bif (decide (0≤(a0.dims.length:Int))&&decide ((a0.dims.length:Int)≤1048576)) then
 (Option.bind (Lp (kK a0) ((List.replicate ((a0.dims.length:Int).toNat) (0:Int)),x2.2,wr ((((List.replicate ((a0.dims.length:Int).toNat) (0:Int)).length:Nat):Int) - 1))) fun y13=>
 Option.bind (nC a0 y13) fun v14=>
 bif decide (x2.1.length+v14.1.length≤4294967296) then
 (some (.inl ((x2.1++v14.1),wr (x2.2+1))))
 else none)
 else none)
 else
 (some (.inr x2.1))
def tZ (a0:Rp):Option ((List (List Sc))×Bool):=
 Option.bind (pB a0) fun v1=>
 bif !v1 then
 (some (([]:(List (List Sc))),false))
 else
 (Option.bind (Lp (oF a0) (1,0)) fun y5=>
 Option.bind (Lp (oG a0 y5) (([]:(List (List Sc))),0)) fun y17=>
 some (y17,true))
theorem aGw (a0:Rp) (r:((List (List Sc))×Bool)) (h:tZ a0=some r):HasE Tryz.prog 36 [.agg (eR a0)] [] 0 (.tuple [.own 0 0 r.1.length,.bl r.2]) [(0,⟨1,List.map (dA 2 eS) r.1⟩)]:=by
 refine tG aA (rvs:=[.tmp 2,.tmp 3]) (ns:=[0,1,2,3,4,5,6]) Tryz.func36 k k Tryz.ntmps36 k k<|sQ<|rg<|ae (cC k k k k) k<|aa k k<|aa k k<|an<|tn<|sQ<|rg ?_
 refine ae (cS aA k k k k k k k k k k k k) k<|aa k k<|an<|tn<|aO (t:=bU [(1,.ptr 0 0 0),(4,.own 1 0 (([]:(List (List Sc))).length))] [(0,⟨6,[[.int a0.p,.int a0.q.n,.list 1 (List.map eI a0.q.src),.list 1 (List.map eI a0.q.tgt),.list 1 (List.map eI a0.dims),.list 3 (List.map eM a0.maps)]]⟩),(1,⟨1,List.map (ow (dA 2 eS)) ([]:(List (List Sc)))⟩)] 2 [2,3,4,5,6] ⟨0,false,none,true⟩) (aE (σ:=sg [(0,0),(1,1)]) ⟨(pE k k),⟨_,k,⟨k,k,(by simp only [bD,lA,lT,lR,lC,lN]),k⟩⟩,trivial⟩ (hP k k k k<|hB (cL.plainO _) k k k<|trivial) k)<|sQ<|sQ<|rg<|ae (aC aA k k k k k k k) k ?_
 obtain ⟨v1,hv1,h⟩:=ob h
 refine ae (aZ (aAt a0 v1 hv1) k (aG (cA (aL (aQ k) (aL (aQ k) (aL (aQ k) (aL (aQ k) (aL (aQ k) (aL (aQ k) cF))))))) bA)) k<|ae (cG k) k<|an<|tn ?_
 rcases cb h with ⟨q2,h⟩|⟨q2,h⟩
 ·refine aM k q2<|sQ<|rg<|am k k<|aa k k<|aa k k<|an<|tn<|aP<|aK ?_
  obtain rfl:=so h
  exact ⟨bU [(2,.own 0 0 (([]:(List (List Sc))).length)),(3,.bl false)] [(0,⟨1,List.map (dA 2 eS) ([]:(List (List Sc)))⟩)] 1 [1,2,3,4,5,6] ⟨0,false,none,true⟩,(Ent.trans (oX (b:=1) cL k) (aE (σ:=sg [(0,1)]) ⟨(oE k k),(e1 k k),trivial⟩ (hB (cL.plainE _) k k k<|trivial) k)),k,⟨_,k,.inr ⟨(by simp),k,k⟩⟩,⟨k,trivial⟩⟩
 ·refine aS k q2<|aT<|tn<|sQ<|rg<|aa k k<|an<|tn<|sQ<|sQ ?_
  refine rg<|aa k k<|an<|tn<|aN ?_
  obtain ⟨y5,hy5,h⟩:=ob h
  refine cU (body:=(oF a0)) hy5 (fun (x1:(Int×Int))=>bU [(1,.ptr 0 0 0),(4,.own 1 0 (([]:(List (List Sc))).length)),(5,.int x1.1),(6,.int x1.2)] [(0,⟨6,[[.int a0.p,.int a0.q.n,.list 1 (List.map eI a0.q.src),.list 1 (List.map eI a0.q.tgt),.list 1 (List.map eI a0.dims),.list 3 (List.map eM a0.maps)]]⟩),(1,⟨1,List.map (ow (dA 2 eS)) ([]:(List (List Sc)))⟩)] 2 [2,3,4,5,6] ⟨0,false,none,true⟩) (fun r e t=>e= .exit 0∧Ent t (bU [(1,.ptr 0 0 0),(4,.own 1 0 (([]:(List (List Sc))).length)),(5,.int r)] [(0,⟨6,[[.int a0.p,.int a0.q.n,.list 1 (List.map eI a0.q.src),.list 1 (List.map eI a0.q.tgt),.list 1 (List.map eI a0.dims),.list 3 (List.map eM a0.maps)]]⟩),(1,⟨1,List.map (ow (dA 2 eS)) ([]:(List (List Sc)))⟩)] 2 [2,3,4,5,6] ⟨0,false,none,true⟩)) (aE (σ:=sg [(0,0),(1,1)]) ⟨(pE k k),(oE k k),(e1 k k),(e1 k k),trivial⟩ (hP k k k k<|hB (cL.plainO _) k k k<|trivial) k) ?_ ?_
  ·intro x1 o h
   refine sQ<|sQ<|rg<|am k k<|ae (aD aA k k k k k k k) k<|ae (aC aA k k k k k k k) k<|ae (dG aA k k k) k<|ae (bC k k k) k<|an<|tn ?_
   rcases cb h with ⟨q3,h⟩|⟨q3,h⟩
   ·refine aM k q3<|aT<|tn<|sQ<|aN<|rg<|am k k<|ae (aD aA k k k k k k k) k<|ae (aC aA k k k k k k k) k<|am k k ?_
    obtain ⟨v4,hv4,h⟩:=ob h
    refine ae (bH aA hv4 k k k k k k) k<|ae (aV aA k k k k k k) k<|ae (bV k k) k<|ae (fL k k) k<|aa k k<|an<|bE<|tn<|aO (t:=bU [(1,.ptr 0 0 0),(4,.own 1 0 (([]:(List (List Sc))).length)),(5,.int (wr (x1.1*(wr (v4+1))))),(6,.int x1.2)] [(0,⟨6,[[.int a0.p,.int a0.q.n,.list 1 (List.map eI a0.q.src),.list 1 (List.map eI a0.q.tgt),.list 1 (List.map eI a0.dims),.list 3 (List.map eM a0.maps)]]⟩),(1,⟨1,List.map (ow (dA 2 eS)) ([]:(List (List Sc)))⟩)] 2 [2,3,4,5,6] ⟨0,false,none,true⟩) (aE (σ:=sg [(0,0),(1,1)]) ⟨(pE k k),(oE k k),(e1 k k),(e1 k k),trivial⟩ (hP k k k k<|hB (cL.plainO _) k k k<|trivial) k)<|rg ?_
    refine am k k<|ae (bV k k) k<|aa k k<|an<|tn ?_
    obtain rfl:=so h
    exact ⟨_,k,(aE (σ:=sg [(0,0),(1,1)]) ⟨(pE k k),(oE k k),(e1 k k),(e1 k k),trivial⟩ (hP k k k k<|hB (cL.plainO _) k k k<|trivial) k)⟩
   ·refine aS k q3<|bG<|aH<|aH ?_
    obtain rfl:=so h
    exact ⟨_,k,k,(aE (σ:=sg [(0,0),(1,1)]) ⟨(pE k k),(oE k k),(e1 k k),trivial⟩ (hP k k k k<|hB (cL.plainO _) k k k<|trivial) k)⟩
  ·rintro e t ⟨rfl,hent⟩
   refine aW<|tn<|aO hent<|sQ<|sQ<|rg<|aa k k<|an<|tn<|aN ?_
   obtain ⟨y17,hy17,h⟩:=ob h
   refine cU (body:=(oG a0 y5)) hy17 (fun (x2:((List (List Sc))×Int))=>bU [(1,.ptr 0 0 0),(4,.own 1 0 x2.1.length),(5,.int y5),(7,.int x2.2)] [(0,⟨6,[[.int a0.p,.int a0.q.n,.list 1 (List.map eI a0.q.src),.list 1 (List.map eI a0.q.tgt),.list 1 (List.map eI a0.dims),.list 3 (List.map eM a0.maps)]]⟩),(1,⟨1,List.map (dA 2 eS) x2.1⟩)] 2 [2,3,4,5,6] ⟨0,false,none,true⟩) (fun r e t=>e= .exit 2∧Ent t (bU [(4,.own 0 0 r.length)] [(0,⟨1,List.map (dA 2 eS) r⟩)] 1 [1,2,3,4,5,6] ⟨0,false,none,true⟩)) (aE (σ:=sg [(0,0),(1,1)]) ⟨(pE k k),(oE k k),(e1 k k),(e1 k k),trivial⟩ (hP k k k k<|hB (cL.plainE _) k k k<|trivial) k) ?_ ?_
   ·intro x2 o h
    refine sQ<|sQ<|rg<|am k k<|am k k<|ae (bC k k k) k<|an<|tn ?_
    rcases cb h with ⟨q6,h⟩|⟨q6,h⟩
    ·refine aM k q6<|aT<|tn<|sQ<|aN<|sQ<|rg<|ae (aD aA k k k k k k k) k<|ae (aC aA k k k k k k k) k<|ae (dG aA k k k) k ?_
     obtain ⟨q16,h⟩:=cg h
     refine ae (aAC aA q16 k k k k k k k k) k<|aa k k<|an<|tn<|aO (t:=bU [(1,.ptr 0 0 0),(4,.own 1 0 x2.1.length),(5,.int y5),(7,.int x2.2),(8,.own 2 0 ((List.replicate ((a0.dims.length:Int).toNat) (0:Int)).length))] [(0,⟨6,[[.int a0.p,.int a0.q.n,.list 1 (List.map eI a0.q.src),.list 1 (List.map eI a0.q.tgt),.list 1 (List.map eI a0.dims),.list 3 (List.map eM a0.maps)]]⟩),(1,⟨1,List.map (dA 2 eS) x2.1⟩),(2,⟨1,List.map (ow eI) (List.replicate ((a0.dims.length:Int).toNat) (0:Int))⟩)] 3 [3,4,5,6] ⟨0,false,none,true⟩) (aE (σ:=sg [(0,0),(1,1),(2,2)]) ⟨(pE k k),(oE k k),(e1 k k),(e1 k k),⟨_,k,⟨k,k,(by simp only [bD,lA,lT,lR,lC,lN]),k⟩⟩,trivial⟩ (hP k k k k<|hB (cL.plainE _) k k k<|hX ⟨_,k,k,.inl ⟨aAf (e:=eI) (z:=0) _,eE.plainO _⟩⟩ k<|trivial) k)<|sQ<|rg<|am k k<|aa k k<|an ?_
     refine tn<|sQ<|sQ<|rg<|am k k<|ae (bW aA k k k k) k<|ae (iK k k) k<|aa k k<|an<|tn ?_
     refine aN ?_
     obtain ⟨y13,hy13,h⟩:=ob h
     refine cU (body:=(kK a0)) hy13 (fun (x3:((List Int)×Int×Int))=>bU [(1,.ptr 0 0 0),(4,.own 1 0 x2.1.length),(5,.int y5),(7,.int x2.2),(8,.own 2 0 x3.1.length),(9,.int x3.2.1),(10,.int x3.2.2)] [(0,⟨6,[[.int a0.p,.int a0.q.n,.list 1 (List.map eI a0.q.src),.list 1 (List.map eI a0.q.tgt),.list 1 (List.map eI a0.dims),.list 3 (List.map eM a0.maps)]]⟩),(1,⟨1,List.map (dA 2 eS) x2.1⟩),(2,⟨1,List.map (ow eI) x3.1⟩)] 3 [3,4,5,6] ⟨0,false,none,true⟩) (fun r e t=>e= .exit 4∧Ent t (bU [(1,.ptr 0 0 0),(4,.own 1 0 x2.1.length),(5,.int y5),(7,.int x2.2),(8,.own 2 0 r.length)] [(0,⟨6,[[.int a0.p,.int a0.q.n,.list 1 (List.map eI a0.q.src),.list 1 (List.map eI a0.q.tgt),.list 1 (List.map eI a0.dims),.list 3 (List.map eM a0.maps)]]⟩),(1,⟨1,List.map (dA 2 eS) x2.1⟩),(2,⟨1,List.map (ow eI) r⟩)] 3 [3,4,5,6] ⟨0,false,none,true⟩)) (aE (σ:=sg [(0,0),(1,1),(2,2)]) ⟨(pE k k),(oE k k),(e1 k k),(e1 k k),(oE k k),(e1 k k),(e1 k k),trivial⟩ (hP k k k k<|hB (cL.plainE _) k k k<|hI k k k<|trivial) k) ?_ ?_
     ·intro x3 o h
      refine sQ<|sQ<|rg<|am k k<|ae (bC k k k) k<|an<|tn ?_
      rcases cb h with ⟨q7,h⟩|⟨q7,h⟩
      ·refine aM k q7<|aT<|tn<|sQ<|aN<|sQ<|rg<|am k k<|am k k<|am k k ?_
       refine ae (aD aA k k k k k k k) k<|ae (aC aA k k k k k k k) k<|am k k ?_
       obtain ⟨v8,hv8,h⟩:=ob h
       refine ae (bH aA hv8 k k k k k k) k<|ae (aV aA k k k k k k) k<|ae (bV k k) k ?_
       obtain ⟨q12,h⟩:=cg h
       refine ae (aDB k k q12) k ?_
       obtain ⟨v9,hv9,h⟩:=ob h
       refine ae (cX aA (eU hv9) (eV hv9) k k k k k k k) k<|ae (iB aA sZ (u:=x3.2.1.tmod (wr (v8+1))) (dO hv9) k k k k k k) k<|an<|tn<|aO (t:=bU [(1,.ptr 0 0 0),(4,.own 1 0 x2.1.length),(5,.int y5),(7,.int x2.2),(8,.own 2 0 ((x3.1.set x3.2.2.toNat (x3.2.1.tmod (wr (v8+1)))).length)),(9,.int x3.2.1),(10,.int x3.2.2)] [(0,⟨6,[[.int a0.p,.int a0.q.n,.list 1 (List.map eI a0.q.src),.list 1 (List.map eI a0.q.tgt),.list 1 (List.map eI a0.dims),.list 3 (List.map eM a0.maps)]]⟩),(1,⟨1,List.map (dA 2 eS) x2.1⟩),(2,⟨1,List.map (ow eI) (x3.1.set x3.2.2.toNat (x3.2.1.tmod (wr (v8+1))))⟩)] 3 [3,4,5,6] ⟨0,false,none,true⟩) (aE (σ:=sg [(0,0),(1,1),(2,2)]) ⟨(pE k k),(oE k k),(e1 k k),(e1 k k),⟨_,k,⟨k,k,(by simp only [bD,lA,lT,lR,lC,lN]),k⟩⟩,(e1 k k),(e1 k k),trivial⟩ (hP k k k k<|hB (cL.plainE _) k k k<|hI k k k<|trivial) k)<|rg<|am k k<|ae (aD aA k k k k k k k) k<|ae (aC aA k k k k k k k) k<|am k k ?_
       obtain ⟨v10,hv10,h⟩:=ob h
       refine ae (bH aA hv10 k k k k k k) k<|ae (aV aA k k k k k k) k<|ae (bV k k) k ?_
       obtain ⟨q11,h⟩:=cg h
       refine ae (aOJ k k q11) k<|aa k k<|an<|bE<|tn<|rg<|am k k<|ae (iK k k) k<|aa k k<|an ?_
       refine tn ?_
       obtain rfl:=so h
       exact ⟨_,k,(aE (σ:=sg [(0,0),(1,1),(2,2)]) ⟨(pE k k),(oE k k),(e1 k k),(e1 k k),(oE k k),(e1 k k),(e1 k k),trivial⟩ (hP k k k k<|hB (cL.plainE _) k k k<|hI k k k<|trivial) k)⟩
      ·refine aS k q7<|bG<|aH<|aH ?_
       obtain rfl:=so h
       exact ⟨_,k,k,(aE (σ:=sg [(0,0),(1,1),(2,2)]) ⟨(pE k k),(oE k k),(e1 k k),(e1 k k),(oE k k),trivial⟩ (hP k k k k<|hB (cL.plainE _) k k k<|hI k k k<|trivial) k)⟩
     ·rintro e t ⟨rfl,hent⟩
      refine aW<|tn<|aO hent<|sQ<|rg<|ae (aC aA k k k k k k k) k<|am k k ?_
      obtain ⟨v14,hv14,h⟩:=ob h
      refine ae (tT (σ:=sg []) (σ':=sg [(3,0)]) (touch:=[2]) (news:=[3]) (hl2:=[(3,⟨1,List.map (dA 2 eS) v14.1⟩)]) (n':=4) (r2:= .tuple [.own 3 0 v14.1.length,.bl v14.2]) (aFg a0 y13 v14 hv14) k k ⟨_,_,k,(.inl ⟨_,_,k,k,⟨_,_,k,k,⟨_,_,k,⟨k,k⟩,⟨_,_,k,⟨k,k⟩,⟨_,_,k,⟨k,k⟩,⟨_,_,k,⟨k,k⟩,k⟩⟩⟩⟩⟩⟩),⟨_,_,k,(.inr ⟨(tE eE k k),k,k⟩),k⟩⟩ trivial k k k ⟨⟨_,k,k,.inl ⟨k,cL.plainE _⟩⟩,k,trivial⟩ k (.inr ⟨_,_,k,k,⟨_,_,k,⟨k,k,(by simp only [bD,lA,lT,lR,lC,lN]),k⟩,⟨_,_,k,k,k⟩⟩⟩) k ⟨k,cL.tamdE _ _,trivial⟩ k k) k<|am k k<|ae (bO k k (by intro _ h;cases h)) k<|ae (bO k k (by intro _ h;cases h)) k<|aa k k<|aa k k<|an<|tn<|rg<|am k k ?_
      refine am k k ?_
      obtain ⟨q15,h⟩:=cg h
      refine ae (uH aA (l:=x2.1) (m:=v14.1) cL q15 k k k k k ((aPs cL k k)) k k k k k k) k<|aa k k<|an<|bE<|tn<|aO (t:=bU [(1,.ptr 0 0 0),(4,.own 4 0 ((x2.1++v14.1).length)),(5,.int y5),(7,.int x2.2)] [(0,⟨6,[[.int a0.p,.int a0.q.n,.list 1 (List.map eI a0.q.src),.list 1 (List.map eI a0.q.tgt),.list 1 (List.map eI a0.dims),.list 3 (List.map eM a0.maps)]]⟩),(4,⟨1,List.map (dA 2 eS) (x2.1++v14.1)⟩)] 5 [5,6] ⟨0,false,none,true⟩) (aE (σ:=sg [(0,0),(4,4)]) ⟨(pE k k),(oE k k),(e1 k k),(e1 k k),trivial⟩ (hP k k k k<|hB (cL.plainE _) k k k<|trivial) k)<|rg<|am k k<|ae (bV k k) k<|aa k k ?_
      refine an<|tn ?_
      obtain rfl:=so h
      exact ⟨_,k,(aE (σ:=sg [(0,0),(1,4)]) ⟨(pE k k),(oE k k),(e1 k k),(e1 k k),trivial⟩ (hP k k k k<|hB (cL.plainE _) k k k<|trivial) k)⟩
    ·refine aS k q6<|bG<|aH<|aH ?_
     obtain rfl:=so h
     exact ⟨_,k,k,(aE (σ:=sg [(0,1)]) ⟨(oE k k),trivial⟩ (hB (cL.plainE _) k k k<|trivial) k)⟩
   ·rintro e t ⟨rfl,hent⟩
    refine aW<|tn<|aO hent<|sQ<|rg<|am k k<|aa k k<|aa k k<|an<|tn ?_
    refine aP ?_
    obtain rfl:=so h
    exact ⟨bU [(2,.own 0 0 y17.length),(3,.bl true)] [(0,⟨1,List.map (dA 2 eS) y17⟩)] 1 [1,2,3,4,5,6] ⟨0,false,none,true⟩,(aE (σ:=sg [(0,0)]) ⟨(oE k k),(e1 k k),trivial⟩ (hB (cL.plainE _) k k k<|trivial) k),k,⟨_,k,.inr ⟨(by simp),k,k⟩⟩,⟨k,trivial⟩⟩
def oH (a0:Rp) (a1:(List Sc)) (x1:((List Int)×Int)):Option (((List Int)×Int) ⊕ (List Int)):=
 bif decide (x1.2<(a1.length:Int)) then
 (Option.bind (tW a0 a1) fun v2=>
 bif v2 then
 (Option.bind (dV a1 x1.2) fun v4=>
 bif decide (x1.1.length+[(v4.basis.length:Int)].length ≤4294967296) then
 (some (.inl ((x1.1++[(v4.basis.length:Int)]),wr (x1.2+1))))
 else none)
 else
 (some (.inr x1.1)))
 else
 (some (.inr x1.1))
def uA (a0:Rp) (a1:(List Sc)):Option (List Int):=
 Option.bind (Lp (oH a0 a1) (([]:(List Int)),0)) fun y6=>
 some (y6)
theorem aGx (a0:Rp) (a1:(List Sc)) (r:(List Int)) (h:uA a0 a1=some r):HasC Tryz.prog 81 [.agg (eR a0),.list 2 (List.map eS a1)] (.list 1 (List.map eI r)):=by
 refine bK aA (rvs:=[.tmp 4]) (ns:=[0,1,2,3,4,5]) Tryz.func81 k k Tryz.ntmps81 k k k<|sQ<|rg<|ae (cC k k k k) k<|aa k k<|an<|tn<|sQ<|rg<|ae (cS aA k k k k k k k k k k k k) k ?_
 refine aa k k<|an<|tn<|aO (t:=bU [(1,.list 2 (List.map eS a1)),(2,.ptr 0 0 0),(5,.own 1 0 (([]:(List Int)).length))] [(0,⟨6,[[.int a0.p,.int a0.q.n,.list 1 (List.map eI a0.q.src),.list 1 (List.map eI a0.q.tgt),.list 1 (List.map eI a0.dims),.list 3 (List.map eM a0.maps)]]⟩),(1,⟨1,List.map (ow eI) ([]:(List Int))⟩)] 2 [2,3,4,5]) (aE (σ:=sg [(0,0),(1,1)]) ⟨⟨_,k,⟨k,k⟩⟩,(pE k k),⟨_,k,⟨k,k,(by simp only [bD,lA,lT,lR,lC,lN]),k⟩⟩,trivial⟩ (hP k k k k<|hI k k k<|trivial) k)<|sQ<|sQ<|rg<|aa k k<|an<|tn ?_
 refine aN ?_
 obtain ⟨y6,hy6,h⟩:=ob h
 refine cU (body:=(oH a0 a1)) hy6 (fun (x1:((List Int)×Int))=>bU [(1,.list 2 (List.map eS a1)),(2,.ptr 0 0 0),(5,.own 1 0 x1.1.length),(6,.int x1.2)] [(0,⟨6,[[.int a0.p,.int a0.q.n,.list 1 (List.map eI a0.q.src),.list 1 (List.map eI a0.q.tgt),.list 1 (List.map eI a0.dims),.list 3 (List.map eM a0.maps)]]⟩),(1,⟨1,List.map (ow eI) x1.1⟩)] 2 [2,3,4,5]) (fun r e t=>e= .exit 0∧Ent t (bU [(5,.own 0 0 r.length)] [(0,⟨1,List.map (ow eI) r⟩)] 1 [1,2,3,4,5])) (aE (σ:=sg [(0,0),(1,1)]) ⟨⟨_,k,⟨k,k⟩⟩,(pE k k),(oE k k),(e1 k k),trivial⟩ (hP k k k k<|hI k k k<|trivial) k) ?_ ?_
 ·intro x1 o h
  refine sQ<|sQ<|rg<|am k k<|am k k<|ae (dG aA k k k) k<|ae (bC k k k) k<|am k k ?_
  rcases cb h with ⟨q1,h⟩|⟨q1,h⟩
  ·refine aX 12 k q1<|ae (aC aA k k k k k k k) k<|am k k ?_
   obtain ⟨v2,hv2,h⟩:=ob h
   refine ae (aZ (aDb a0 a1 v2 hv2) k (aG (cA (aL (aQ k) (aL (aQ k) (aL (aQ k) (aL (aQ k) (aL (aQ k) (aL (aQ k) cF))))))) (aG (aI k) bA))) k<|ae (aJ k k) k<|an<|tn ?_
   rcases cb h with ⟨q3,h⟩|⟨q3,h⟩
   ·refine aM k q3<|aT<|tn<|sQ<|aN<|rg<|am k k<|am k k<|am k k ?_
    obtain ⟨v4,hv4,h⟩:=ob h
    refine ae (bH aA hv4 k k k k k k) k<|ae (bY aA k k k k k k) k<|ae (aV aA k k k k k k) k<|ae (dG aA k k k) k<|ae (cS aA k k k k k k k k k k k k) k ?_
    obtain ⟨q5,h⟩:=cg h
    refine ae (uH aA (l:=x1.1) (m:=[(v4.basis.length:Int)]) sZ q5 k k k k k k k k k k k k) k<|aa k k<|an<|bE<|tn<|aO (t:=bU [(1,.list 2 (List.map eS a1)),(2,.ptr 0 0 0),(5,.own 3 0 ((x1.1++[(v4.basis.length:Int)]).length)),(6,.int x1.2)] [(0,⟨6,[[.int a0.p,.int a0.q.n,.list 1 (List.map eI a0.q.src),.list 1 (List.map eI a0.q.tgt),.list 1 (List.map eI a0.dims),.list 3 (List.map eM a0.maps)]]⟩),(3,⟨1,List.map (ow eI) (x1.1++[(v4.basis.length:Int)])⟩)] 4 [4,5]) (aE (σ:=sg [(0,0),(3,3)]) ⟨⟨_,k,⟨k,k⟩⟩,(pE k k),(oE k k),(e1 k k),trivial⟩ (hP k k k k<|hI k k k<|trivial) k)<|rg<|am k k<|ae (bV k k) k<|aa k k ?_
    refine an<|tn ?_
    obtain rfl:=so h
    exact ⟨_,k,(aE (σ:=sg [(0,0),(1,3)]) ⟨⟨_,k,⟨k,k⟩⟩,(pE k k),(oE k k),(e1 k k),trivial⟩ (hP k k k k<|hI k k k<|trivial) k)⟩
   ·refine aS k q3<|bG<|aH<|aH ?_
    obtain rfl:=so h
    exact ⟨_,k,k,(aE (σ:=sg [(0,1)]) ⟨(oE k k),trivial⟩ (hI k k k<|trivial) k)⟩
  ·refine aX 12 k q1<|ak k k<|ak k k<|ak k k<|ae (aJ k k) k<|an<|tn<|aS k k<|bG<|aH ?_
   refine aH ?_
   obtain rfl:=so h
   exact ⟨_,k,k,(aE (σ:=sg [(0,1)]) ⟨(oE k k),trivial⟩ (hI k k k<|trivial) k)⟩
 ·rintro e t ⟨rfl,hent⟩
  refine aW<|tn<|aO hent<|sQ<|rg<|am k k<|aa k k<|an<|tn<|aP ?_
  obtain rfl:=so h
  exact aU k k k (mD (iM eE k k))
def oJ (a0:(List Int)) (a1:(List Int)) (x1:Int):Option (Int ⊕ (Unit ⊕ Bool)):=
 bif decide (x1<(a0.length:Int)) then
 (Option.bind (dV a0 x1) fun v2=>
 Option.bind (fD v2 (-20) 20) fun v3=>
 bif !v3 then
 (some (.inr (.inr (false))))
 else
 (bif decide (x1<(a1.length:Int)) then
 (Option.bind (dV a1 x1) fun v6=>
 Option.bind (fD v6 0 100) fun v7=>
 bif !v7 then
 (some (.inr (.inr (false))))
 else
 (some (.inl (wr (x1+1)))))
 else
 (some (.inl (wr (x1+1))))))
 else
 (some (.inr (.inl ())))
def jG (a0:(List Int)) (a1:(List Int)):Option Bool:=
 Option.bind (Lp (oJ a0 a1) 0) fun y9=>
 Sum.elim (fun y10=>
 bif decide ((a0.length:Int)=(a1.length:Int)) then
 (some (decide ((a0.length:Int)≤100)))
 else
 (some (false))
 )
 (fun y12=>
 some y12
 )
 y9
theorem uB (a0:(List Int)) (a1:(List Int)) (r:Bool) (h:jG a0 a1=some r):HasC Tryz.prog 78 [.list 1 (List.map eI a0),.list 1 (List.map eI a1)] (.bl r):=by
 refine bK aA (rvs:=[.tmp 4]) (ns:=[0,1]) Tryz.func78 k k Tryz.ntmps78 k k k<|sQ<|rg<|aa k k<|an<|tn<|sQ<|sQ<|rg<|aa k k ?_
 refine an<|tn<|aN ?_
 obtain ⟨y9,hy9,h⟩:=ob h
 refine cU (body:=(oJ a0 a1)) hy9 (fun (x1:Int)=>bU [(0,.list 1 (List.map eI a0)),(1,.list 1 (List.map eI a1)),(5,.int x1)] [] 0 [0,1]) (fun r e t=>Sum.elim (fun a=>(fun r e t=>e= .exit 0∧Ent t (bU [(0,.list 1 (List.map eI a0)),(1,.list 1 (List.map eI a1))] [] 0 [0,1])) a e t) (fun b=>(fun r e t=>e= .ret∧sY TT [.tmp 4] (.bl r) .ret t) b e t) r) (aE (σ:=sg []) ⟨⟨_,k,⟨k,k⟩⟩,⟨_,k,⟨k,k⟩⟩,(e1 k k),trivial⟩ trivial k) ?_ ?_
 ·intro x1 o h
  refine sQ<|sQ<|rg<|am k k<|am k k<|ae (dG aA k k k) k<|ae (bC k k k) k<|an<|tn ?_
  rcases cb h with ⟨q1,h⟩|⟨q1,h⟩
  ·refine aM k q1<|aT<|tn<|sQ<|aN<|sQ<|rg<|am k k<|am k k ?_
   obtain ⟨v2,hv2,h⟩:=ob h
   refine ae (bH aA hv2 k k k k k k) k<|ae (aV aA k k k k k k) k ?_
   obtain ⟨v3,hv3,h⟩:=ob h
   refine ae (aZ (fT v2 (-20) 20 v3 hv3) k (aG (aI k) (aG (aI k) (aG (aI k) bA)))) k<|ae (cG k) k<|am k k ?_
   rcases cb h with ⟨q4,h⟩|⟨q4,h⟩
   ·refine aX 18 k q4<|ak k k<|ak k k<|ak k k<|ak k k<|ak k k<|ak k k<|ak k k<|ak k k<|ak k k ?_
    refine ak k k<|ak k k<|ak k k<|ae (aJ k k) k<|an<|tn<|aO (t:=bU [(0,.list 1 (List.map eI a0)),(1,.list 1 (List.map eI a1)),(5,.int x1),(31,.bl true)] [] 0 [0,1]) (aE (σ:=sg []) ⟨⟨_,k,⟨k,k⟩⟩,⟨_,k,⟨k,k⟩⟩,(e1 k k),(e1 k k),trivial⟩ trivial k)<|aM k k<|sQ<|rg ?_
    refine aa k k<|an<|tn<|aP<|bB<|aK<|aK ?_
    obtain rfl:=so h
    exact ⟨_,k,k,aU k k k (bT k)⟩
   ·refine aX 18 k q4<|am k k<|am k k<|ae (dG aA k k k) k<|ae (bC k k k) k<|am k k ?_
    rcases cb h with ⟨q5,h⟩|⟨q5,h⟩
    ·refine aX 23 k q5<|am k k<|am k k ?_
     obtain ⟨v6,hv6,h⟩:=ob h
     refine ae (bH aA hv6 k k k k k k) k<|ae (aV aA k k k k k k) k ?_
     obtain ⟨v7,hv7,h⟩:=ob h
     refine ae (aZ (fT v6 0 100 v7 hv7) k (aG (aI k) (aG (aI k) (aG (aI k) bA)))) k<|ae (cG k) k<|ae (aJ k k) k<|ae (aJ k k) k<|an<|tn<|aO (t:=bU [(0,.list 1 (List.map eI a0)),(1,.list 1 (List.map eI a1)),(5,.int x1),(31,.bl (!v7))] [] 0 [0,1]) (aE (σ:=sg []) ⟨⟨_,k,⟨k,k⟩⟩,⟨_,k,⟨k,k⟩⟩,(e1 k k),(e1 k k),trivial⟩ trivial k) ?_
     rcases cb h with ⟨q8,h⟩|⟨q8,h⟩
     ·refine aM k q8<|sQ<|rg<|aa k k<|an<|tn<|aP<|bB<|aK<|aK ?_
      obtain rfl:=so h
      exact ⟨_,k,k,aU k k k (bT k)⟩
     ·refine aS k q8<|aT<|bE<|tn<|rg<|am k k<|ae (bV k k) k<|aa k k<|an<|tn ?_
      obtain rfl:=so h
      exact ⟨_,k,(aE (σ:=sg []) ⟨⟨_,k,⟨k,k⟩⟩,⟨_,k,⟨k,k⟩⟩,(e1 k k),trivial⟩ trivial k)⟩
    ·refine aX 23 k q5<|ak k k<|ak k k<|ak k k<|ak k k<|ak k k<|ak k k<|ae (aJ k k) k<|ae (aJ k k) k<|an ?_
     refine tn<|aO (t:=bU [(0,.list 1 (List.map eI a0)),(1,.list 1 (List.map eI a1)),(5,.int x1),(31,.bl false)] [] 0 [0,1]) (aE (σ:=sg []) ⟨⟨_,k,⟨k,k⟩⟩,⟨_,k,⟨k,k⟩⟩,(e1 k k),(e1 k k),trivial⟩ trivial k)<|aS k k<|aT<|bE<|tn<|rg<|am k k<|ae (bV k k) k<|aa k k ?_
     refine an<|tn ?_
     obtain rfl:=so h
     exact ⟨_,k,(aE (σ:=sg []) ⟨⟨_,k,⟨k,k⟩⟩,⟨_,k,⟨k,k⟩⟩,(e1 k k),trivial⟩ trivial k)⟩
  ·refine aS k q1<|bG<|aH<|aH ?_
   obtain rfl:=so h
   exact ⟨_,k,k,(aE (σ:=sg []) ⟨⟨_,k,⟨k,k⟩⟩,⟨_,k,⟨k,k⟩⟩,trivial⟩ trivial k)⟩
 ·intro e t hX
  rcases y9 with y10|y12
  ·obtain ⟨rfl,hent⟩:=hX
   refine aW<|tn<|aO hent<|sQ<|rg<|am k k<|ae (dG aA k k k) k<|am k k<|ae (dG aA k k k) k<|ae (bC k k k) k ?_
   refine am k k ?_
   rcases cb h with ⟨q11,h⟩|⟨q11,h⟩
   ·refine aX 37 k q11<|am k k<|ae (dG aA k k k) k<|ae (bC k k k) k<|ae (aJ k k) k<|aa k k<|an<|tn<|aP ?_
    obtain rfl:=so h
    exact aU k k k (bT k)
   ·refine aX 37 k q11<|ak k k<|ak k k<|ak k k<|ae (aJ k k) k<|aa k k<|an<|tn<|aP ?_
    obtain rfl:=so h
    exact aU k k k (bT k)
  ·obtain ⟨rfl,hent⟩:=hX
   refine bB<|aK ?_
   obtain rfl:=so h
   exact hent
def qH (a0:(List Int)) (x1:(Int×Int)):Option ((Int×Int) ⊕ Int):=
 bif decide (x1.2<(a0.length:Int)) then
 (Option.bind (dV a0 x1.2) fun v2=>
 some (.inl (wr (x1.1+v2),wr (x1.2+1))))
 else
 (some (.inr x1.1))
def kT (a0:(List Int)):Option Int:=
 Option.bind (Lp (qH a0) (0,0)) fun y3=>
 some (y3)
theorem vD (a0:(List Int)) (r:Int) (h:kT a0=some r):HasC Tryz.prog 89 [.list 1 (List.map eI a0)] (.int r):=by
 refine bK aA (rvs:=[.tmp 2]) (ns:=[0,1]) Tryz.func89 k k Tryz.ntmps89 k k k<|sQ<|rg<|aa k k<|an<|tn<|sQ<|rg<|aa k k<|an ?_
 refine tn<|sQ<|sQ<|rg<|aa k k<|an<|tn<|aN ?_
 obtain ⟨y3,hy3,h⟩:=ob h
 refine cU (body:=(qH a0)) hy3 (fun (x1:(Int×Int))=>bU [(0,.list 1 (List.map eI a0)),(3,.int x1.1),(4,.int x1.2)] [] 0 [0,1]) (fun r e t=>e= .exit 0∧Ent t (bU [(3,.int r)] [] 0 [0,1])) (aE (σ:=sg []) ⟨⟨_,k,⟨k,k⟩⟩,(e1 k k),(e1 k k),trivial⟩ trivial k) ?_ ?_
 ·intro x1 o h
  refine sQ<|sQ<|rg<|am k k<|am k k<|ae (dG aA k k k) k<|ae (bC k k k) k<|an<|tn ?_
  rcases cb h with ⟨q1,h⟩|⟨q1,h⟩
  ·refine aM k q1<|aT<|tn<|sQ<|aN<|rg<|am k k<|am k k<|am k k ?_
   obtain ⟨v2,hv2,h⟩:=ob h
   refine ae (bH aA hv2 k k k k k k) k<|ae (aV aA k k k k k k) k<|ae (bV k k) k<|aa k k<|an<|bE<|tn<|rg<|am k k<|ae (bV k k) k ?_
   refine aa k k<|an<|tn ?_
   obtain rfl:=so h
   exact ⟨_,k,(aE (σ:=sg []) ⟨⟨_,k,⟨k,k⟩⟩,(e1 k k),(e1 k k),trivial⟩ trivial k)⟩
  ·refine aS k q1<|bG<|aH<|aH ?_
   obtain rfl:=so h
   exact ⟨_,k,k,(aE (σ:=sg []) ⟨(e1 k k),trivial⟩ trivial k)⟩
 ·rintro e t ⟨rfl,hent⟩
  refine aW<|tn<|aO hent<|sQ<|rg<|am k k<|aa k k<|an<|tn<|aP ?_
  obtain rfl:=so h
  exact aU k k k (cI k)
def oK (a0:(List Int)) (a1:(List Int)) (x1:(Int×Int)):Option ((Int×Int) ⊕ Int):=
 bif decide (x1.2<(a0.length:Int)) then
 (Option.bind (jG a0 a1) fun v2=>
 bif v2 then
 (Option.bind (dV a0 x1.2) fun v4=>
 Option.bind (dV a1 x1.2) fun v5=>
 some (.inl (wr (x1.1+(wr (v4*v5))),wr (x1.2+1))))
 else
 (some (.inr x1.1)))
 else
 (some (.inr x1.1))
def pG (a0:(List Int)) (a1:(List Int)):Option Int:=
 Option.bind (Lp (oK a0 a1) (0,0)) fun y6=>
 some (y6)
theorem aAy (a0:(List Int)) (a1:(List Int)) (r:Int) (h:pG a0 a1=some r):HasC Tryz.prog 128 [.list 1 (List.map eI a0),.list 1 (List.map eI a1)] (.int r):=by
 refine bK aA (rvs:=[.tmp 4]) (ns:=[0,1]) Tryz.func128 k k Tryz.ntmps128 k k k<|sQ<|rg<|aa k k<|an<|tn<|sQ<|rg<|aa k k<|an ?_
 refine tn<|sQ<|sQ<|rg<|aa k k<|an<|tn<|aN ?_
 obtain ⟨y6,hy6,h⟩:=ob h
 refine cU (body:=(oK a0 a1)) hy6 (fun (x1:(Int×Int))=>bU [(0,.list 1 (List.map eI a0)),(1,.list 1 (List.map eI a1)),(5,.int x1.1),(6,.int x1.2)] [] 0 [0,1]) (fun r e t=>e= .exit 0∧Ent t (bU [(5,.int r)] [] 0 [0,1])) (aE (σ:=sg []) ⟨⟨_,k,⟨k,k⟩⟩,⟨_,k,⟨k,k⟩⟩,(e1 k k),(e1 k k),trivial⟩ trivial k) ?_ ?_
 ·intro x1 o h
  refine sQ<|sQ<|rg<|am k k<|am k k<|ae (dG aA k k k) k<|ae (bC k k k) k<|am k k ?_
  rcases cb h with ⟨q1,h⟩|⟨q1,h⟩
  ·refine aX 11 k q1<|am k k<|am k k ?_
   obtain ⟨v2,hv2,h⟩:=ob h
   refine ae (aZ (uB a0 a1 v2 hv2) k (aG (aI k) (aG (aI k) bA))) k<|ae (aJ k k) k<|an<|tn ?_
   rcases cb h with ⟨q3,h⟩|⟨q3,h⟩
   ·refine aM k q3<|aT<|tn<|sQ<|aN<|aY kB<|am k k<|am k k<|am k k ?_
    obtain ⟨v4,hv4,h⟩:=ob h
    refine ae (bH aA hv4 k k k k k k) k<|ae (aV aA k k k k k k) k<|am k k<|am k k ?_
    obtain ⟨v5,hv5,h⟩:=ob h
    refine ae (bH aA hv5 k k k k k k) k<|ae (aV aA k k k k k k) k<|ae (fL k k) k<|ae (bV k k) k<|aa k k<|an ?_
    refine ⟨by kernel_rfl,?_⟩
    refine bE<|tn<|aO (t:=bU [(0,.list 1 (List.map eI a0)),(1,.list 1 (List.map eI a1)),(5,.int (wr (x1.1+(wr (v4*v5))))),(6,.int x1.2)] [] 0 [0,1]) (aE (σ:=sg []) ⟨⟨_,k,⟨k,k⟩⟩,⟨_,k,⟨k,k⟩⟩,(e1 k k),(e1 k k),trivial⟩ trivial k)<|rg<|am k k<|ae (bV k k) k<|aa k k<|an<|tn ?_
    obtain rfl:=so h
    exact ⟨_,k,(aE (σ:=sg []) ⟨⟨_,k,⟨k,k⟩⟩,⟨_,k,⟨k,k⟩⟩,(e1 k k),(e1 k k),trivial⟩ trivial k)⟩
   ·refine aS k q3<|bG<|aH<|aH ?_
    obtain rfl:=so h
    exact ⟨_,k,k,(aE (σ:=sg []) ⟨(e1 k k),trivial⟩ trivial k)⟩
  ·refine aX 11 k q1<|ak k k<|ak k k<|ak k k<|ae (aJ k k) k<|an<|tn<|aS k k<|bG<|aH ?_
   refine aH ?_
   obtain rfl:=so h
   exact ⟨_,k,k,(aE (σ:=sg []) ⟨(e1 k k),trivial⟩ trivial k)⟩
 ·rintro e t ⟨rfl,hent⟩
  refine aW<|tn<|aO hent<|sQ<|rg<|am k k<|aa k k<|an<|tn<|aP ?_
  obtain rfl:=so h
  exact aU k k k (cI k)
def kL (a0:(List Int)) (a1:(List Int)) (a2:(List Int)):Option Int:=
 Option.bind (jG a0 a1) fun v1=>
 bif !v1 then
 (some (0))
 else
 (Option.bind (jG a0 a2) fun v3=>
 bif !v3 then
 (some (0))
 else
 (Option.bind (kT a1) fun v5=>
 bif decide (v5=0) then
 (some (0))
 else
 (Option.bind (kT a2) fun v7=>
 bif decide (v7=0) then
 (some (0))
 else
 (Option.bind (pG a0 a1) fun v9=>
 Option.bind (kT a2) fun v10=>
 Option.bind (pG a0 a2) fun v11=>
 Option.bind (kT a1) fun v12=>
 bif decide (wr ((wr (v9*v10)) - (wr (v11*v12)))<0) then
 (some ((-1)))
 else
 (bif decide (0<wr ((wr (v9*v10)) - (wr (v11*v12)))) then
 (some (1))
 else
 (some (0)))))))
theorem aAz (a0:(List Int)) (a1:(List Int)) (a2:(List Int)) (r:Int) (h:kL a0 a1 a2=some r):HasC Tryz.prog 80 [.list 1 (List.map eI a0),.list 1 (List.map eI a1),.list 1 (List.map eI a2)] (.int r):=by
 refine bK aA (rvs:=[.tmp 6]) (ns:=[0,1]) Tryz.func80 k k Tryz.ntmps80 k k k<|sQ<|rg<|aa k k<|an<|tn<|sQ<|sQ<|rg<|am k k ?_
 refine am k k ?_
 obtain ⟨v1,hv1,h⟩:=ob h
 refine ae (aZ (uB a0 a1 v1 hv1) k (aG (aI k) (aG (aI k) bA))) k<|ae (cG k) k<|am k k ?_
 rcases cb h with ⟨q2,h⟩|⟨q2,h⟩
 ·refine aX 12 k q2<|ak k k<|ak k k<|ak k k<|ak k k<|ae (aJ k k) k<|am k k<|ak k k<|ak k k<|ak k k ?_
  refine ae (aJ k k) k<|am k k<|ak k k<|ak k k<|ak k k<|ae (aJ k k) k<|an<|tn<|aO (t:=bU [(0,.list 1 (List.map eI a0)),(1,.list 1 (List.map eI a1)),(2,.list 1 (List.map eI a2)),(27,.bl true)] [] 0 [0,1]) (aE (σ:=sg []) ⟨⟨_,k,⟨k,k⟩⟩,⟨_,k,⟨k,k⟩⟩,⟨_,k,⟨k,k⟩⟩,(e1 k k),trivial⟩ trivial k)<|aM k k ?_
  refine sQ<|rg<|aa k k<|an<|tn<|aP<|aK ?_
  obtain rfl:=so h
  exact aU k k k (cI k)
 ·refine aX 12 k q2<|am k k<|am k k ?_
  obtain ⟨v3,hv3,h⟩:=ob h
  refine ae (aZ (uB a0 a2 v3 hv3) k (aG (aI k) (aG (aI k) bA))) k<|ae (cG k) k<|ae (aJ k k) k<|am k k ?_
  rcases cb h with ⟨q4,h⟩|⟨q4,h⟩
  ·refine aX 18 k q4<|ak k k<|ak k k<|ak k k<|ae (aJ k k) k<|am k k<|ak k k<|ak k k<|ak k k<|ae (aJ k k) k ?_
   refine an<|tn<|aO (t:=bU [(0,.list 1 (List.map eI a0)),(1,.list 1 (List.map eI a1)),(2,.list 1 (List.map eI a2)),(27,.bl true)] [] 0 [0,1]) (aE (σ:=sg []) ⟨⟨_,k,⟨k,k⟩⟩,⟨_,k,⟨k,k⟩⟩,⟨_,k,⟨k,k⟩⟩,(e1 k k),trivial⟩ trivial k)<|aM k k<|sQ<|rg<|aa k k<|an<|tn<|aP ?_
   refine aK ?_
   obtain rfl:=so h
   exact aU k k k (cI k)
  ·refine aX 18 k q4<|am k k ?_
   obtain ⟨v5,hv5,h⟩:=ob h
   refine ae (aZ (vD a1 v5 hv5) k (aG (aI k) bA)) k<|ae (bC k k k) k<|ae (aJ k k) k<|am k k ?_
   rcases cb h with ⟨q6,h⟩|⟨q6,h⟩
   ·refine aX 23 k q6<|ak k k<|ak k k<|ak k k<|ae (aJ k k) k<|an<|tn<|aO (t:=bU [(0,.list 1 (List.map eI a0)),(1,.list 1 (List.map eI a1)),(2,.list 1 (List.map eI a2)),(27,.bl true)] [] 0 [0,1]) (aE (σ:=sg []) ⟨⟨_,k,⟨k,k⟩⟩,⟨_,k,⟨k,k⟩⟩,⟨_,k,⟨k,k⟩⟩,(e1 k k),trivial⟩ trivial k)<|aM k k<|sQ ?_
    refine rg<|aa k k<|an<|tn<|aP<|aK ?_
    obtain rfl:=so h
    exact aU k k k (cI k)
   ·refine aX 23 k q6<|am k k ?_
    obtain ⟨v7,hv7,h⟩:=ob h
    refine ae (aZ (vD a2 v7 hv7) k (aG (aI k) bA)) k<|ae (bC k k k) k<|ae (aJ k k) k<|an<|tn<|aO (t:=bU [(0,.list 1 (List.map eI a0)),(1,.list 1 (List.map eI a1)),(2,.list 1 (List.map eI a2)),(27,.bl (decide (v7=0)))] [] 0 [0,1]) (aE (σ:=sg []) ⟨⟨_,k,⟨k,k⟩⟩,⟨_,k,⟨k,k⟩⟩,⟨_,k,⟨k,k⟩⟩,(e1 k k),trivial⟩ trivial k) ?_
    rcases cb h with ⟨q8,h⟩|⟨q8,h⟩
    ·refine aM k q8<|sQ<|rg<|aa k k<|an<|tn<|aP<|aK ?_
     obtain rfl:=so h
     exact aU k k k (cI k)
    ·refine aS k q8<|aT<|tn<|sQ<|rg<|am k k<|am k k ?_
     obtain ⟨v9,hv9,h⟩:=ob h
     refine ae (aZ (aAy a0 a1 v9 hv9) k (aG (aI k) (aG (aI k) bA))) k<|am k k ?_
     obtain ⟨v10,hv10,h⟩:=ob h
     refine ae (aZ (vD a2 v10 hv10) k (aG (aI k) bA)) k<|ae (fL k k) k<|am k k<|am k k ?_
     obtain ⟨v11,hv11,h⟩:=ob h
     refine ae (aZ (aAy a0 a2 v11 hv11) k (aG (aI k) (aG (aI k) bA))) k<|am k k ?_
     obtain ⟨v12,hv12,h⟩:=ob h
     refine ae (aZ (vD a1 v12 hv12) k (aG (aI k) bA)) k<|ae (fL k k) k<|ae (iK k k) k<|aa k k<|an<|tn<|aO (t:=bU [(7,.int (wr ((wr (v9*v10)) - (wr (v11*v12)))))] [] 0 [0,1]) (aE (σ:=sg []) ⟨(e1 k k),trivial⟩ trivial k)<|sQ<|aN<|sQ ?_
     refine rg<|am k k<|ae (bC k k k) k<|aa k k<|an<|tn ?_
     rcases cb h with ⟨q13,h⟩|⟨q13,h⟩
     ·refine aM k q13<|sQ<|rg<|aa k k<|an<|tn<|aP<|bB<|aK ?_
      obtain rfl:=so h
      exact aU k k k (cI k)
     ·refine aS k q13<|sQ<|rg<|am k k<|ae (bC k k k) k<|aa k k<|an<|tn ?_
      rcases cb h with ⟨q14,h⟩|⟨q14,h⟩
      ·refine aM k q14<|sQ<|rg<|aa k k<|an<|tn<|aP<|bB<|aK ?_
       obtain rfl:=so h
       exact aU k k k (cI k)
      ·refine aS k q14<|aT<|bE<|tn<|sQ<|rg<|aa k k<|an<|tn<|aP ?_
       obtain rfl:=so h
       exact aU k k k (cI k)
def iP (a0:Rp) (a1:(List Int)) (v1:((List (List Sc))×Bool)) (x1:Int):Option (Int ⊕ (Unit ⊕ Bool)):=
 bif decide (x1<((v1.1.length:Nat):Int)) then
 (Option.bind (dV v1.1 x1) fun v8=>
 Option.bind (uA a0 v8) fun v9=>
 Option.bind (kL a1 v9 a0.dims) fun v10=>
 bif decide (0<v10) then
 (some (.inr (.inr (false))))
 else
 (some (.inl (wr (x1+1)))))
 else
 (some (.inr (.inl ())))
def lG (a0:Rp) (a1:(List Int)):Option Bool:=
 Option.bind (tZ a0) fun v1=>
 bif !v1.2 then
 (some (false))
 else
 (Option.bind (jG a1 a0.dims) fun v3=>
 bif !v3 then
 (some (false))
 else
 (Option.bind (pA a0) fun v5=>
 bif decide (v5=0) then
 (some (false))
 else
 (Option.bind (Lp (iP a0 a1 v1) 0) fun y12=>
 Sum.elim (fun y13=>
 some (true)
 )
 (fun y14=>
 some y14
 )
 y12)))
theorem aBf (a0:Rp) (a1:(List Int)) (r:Bool) (h:lG a0 a1=some r):HasC Tryz.prog 26 [.agg (eR a0),.list 1 (List.map eI a1)] (.bl r):=by
 refine bK aA (rvs:=[.tmp 4]) (ns:=[0,1,2,3,4]) Tryz.func26 k k Tryz.ntmps26 k k k<|sQ<|rg<|ae (cC k k k k) k<|aa k k<|an<|tn<|sQ<|rg<|ae (aC aA k k k k k k k) k ?_
 obtain ⟨v1,hv1,h⟩:=ob h
 refine ae (tT (σ:=sg []) (σ':=sg [(1,0)]) (touch:=[]) (news:=[1]) (hl2:=[(1,⟨1,List.map (dA 2 eS) v1.1⟩)]) (n':=2) (r2:= .tuple [.own 1 0 v1.1.length,.bl v1.2]) (aGw a0 v1 hv1) k k ⟨_,_,k,(.inl ⟨_,_,k,k,⟨_,_,k,k,⟨_,_,k,⟨k,k⟩,⟨_,_,k,⟨k,k⟩,⟨_,_,k,⟨k,k⟩,⟨_,_,k,⟨k,k⟩,k⟩⟩⟩⟩⟩⟩),k⟩ trivial k k k ⟨⟨_,k,k,.inl ⟨k,cL.plainE _⟩⟩,k,trivial⟩ k (.inr ⟨_,_,k,k,⟨_,_,k,⟨k,k,(by simp only [bD,lA,lT,lR,lC,lN]),k⟩,⟨_,_,k,k,k⟩⟩⟩) k ⟨k,cL.tamdE _ _,trivial⟩ k k) k<|am k k<|ae (bO k k (by intro _ h;cases h)) k<|ae (bO k k (by intro _ h;cases h)) k<|aa k k<|aa k k<|an<|tn<|sQ<|sQ ?_
 refine rg<|am k k<|ae (cG k) k<|am k k ?_
 rcases cb h with ⟨q2,h⟩|⟨q2,h⟩
 ·refine aX 15 k q2<|ak k k<|ak k k<|ak k k<|ak k k<|ak k k<|ae (aJ k k) k<|am k k<|ak k k<|ak k k ?_
  refine ak k k<|ae (aJ k k) k<|an<|tn<|aO (t:=bU [(1,.list 1 (List.map eI a1)),(2,.ptr 0 0 0),(5,.own 1 0 v1.1.length),(26,.bl true)] [(0,⟨6,[[.int a0.p,.int a0.q.n,.list 1 (List.map eI a0.q.src),.list 1 (List.map eI a0.q.tgt),.list 1 (List.map eI a0.dims),.list 3 (List.map eM a0.maps)]]⟩),(1,⟨1,List.map (dA 2 eS) v1.1⟩)] 2 [2,3,4]) (aE (σ:=sg [(0,0),(1,1)]) ⟨⟨_,k,⟨k,k⟩⟩,(pE k k),(oE k k),(e1 k k),trivial⟩ (hP k k k k<|hB (cL.plainE _) k k k<|trivial) k)<|aM k k<|sQ<|rg<|aa k k<|an ?_
  refine tn<|aP<|aK ?_
  obtain rfl:=so h
  exact aU k k k (bT k)
 ·refine aX 15 k q2<|am k k<|ae (aD aA k k k k k k k) k<|ae (aC aA k k k k k k k) k ?_
  obtain ⟨v3,hv3,h⟩:=ob h
  refine ae (aZ (uB a1 a0.dims v3 hv3) k (aG (aI k) (aG (aI k) bA))) k<|ae (cG k) k<|ae (aJ k k) k<|am k k ?_
  rcases cb h with ⟨q4,h⟩|⟨q4,h⟩
  ·refine aX 22 k q4<|ak k k<|ak k k<|ak k k<|ae (aJ k k) k<|an<|tn<|aO (t:=bU [(1,.list 1 (List.map eI a1)),(2,.ptr 0 0 0),(5,.own 1 0 v1.1.length),(26,.bl true)] [(0,⟨6,[[.int a0.p,.int a0.q.n,.list 1 (List.map eI a0.q.src),.list 1 (List.map eI a0.q.tgt),.list 1 (List.map eI a0.dims),.list 3 (List.map eM a0.maps)]]⟩),(1,⟨1,List.map (dA 2 eS) v1.1⟩)] 2 [2,3,4]) (aE (σ:=sg [(0,0),(1,1)]) ⟨⟨_,k,⟨k,k⟩⟩,(pE k k),(oE k k),(e1 k k),trivial⟩ (hP k k k k<|hB (cL.plainE _) k k k<|trivial) k)<|aM k k<|sQ ?_
   refine rg<|aa k k<|an<|tn<|aP<|aK ?_
   obtain rfl:=so h
   exact aU k k k (bT k)
  ·refine aX 22 k q4<|ae (aC aA k k k k k k k) k ?_
   obtain ⟨v5,hv5,h⟩:=ob h
   refine ae (aZ (aAs a0 v5 hv5) k (aG (cA (aL (aQ k) (aL (aQ k) (aL (aQ k) (aL (aQ k) (aL (aQ k) (aL (aQ k) cF))))))) bA)) k<|ae (bC k k k) k<|ae (aJ k k) k<|an<|tn<|aO (t:=bU [(1,.list 1 (List.map eI a1)),(2,.ptr 0 0 0),(5,.own 1 0 v1.1.length),(26,.bl (decide (v5=0)))] [(0,⟨6,[[.int a0.p,.int a0.q.n,.list 1 (List.map eI a0.q.src),.list 1 (List.map eI a0.q.tgt),.list 1 (List.map eI a0.dims),.list 3 (List.map eM a0.maps)]]⟩),(1,⟨1,List.map (dA 2 eS) v1.1⟩)] 2 [2,3,4]) (aE (σ:=sg [(0,0),(1,1)]) ⟨⟨_,k,⟨k,k⟩⟩,(pE k k),(oE k k),(e1 k k),trivial⟩ (hP k k k k<|hB (cL.plainE _) k k k<|trivial) k) ?_
   rcases cb h with ⟨q6,h⟩|⟨q6,h⟩
   ·refine aM k q6<|sQ<|rg<|aa k k<|an<|tn<|aP<|aK ?_
    obtain rfl:=so h
    exact aU k k k (bT k)
   ·refine aS k q6<|aT<|tn<|sQ<|sQ<|rg<|aa k k<|an<|tn<|aN ?_
    obtain ⟨y12,hy12,h⟩:=ob h
    refine cU (body:=(iP a0 a1 v1)) hy12 (fun (x1:Int)=>bU [(1,.list 1 (List.map eI a1)),(2,.ptr 0 0 0),(5,.own 1 0 v1.1.length),(7,.int x1)] [(0,⟨6,[[.int a0.p,.int a0.q.n,.list 1 (List.map eI a0.q.src),.list 1 (List.map eI a0.q.tgt),.list 1 (List.map eI a0.dims),.list 3 (List.map eM a0.maps)]]⟩),(1,⟨1,List.map (dA 2 eS) v1.1⟩)] 2 [2,3,4]) (fun r e t=>Sum.elim (fun a=>(fun r e t=>e= .exit 0∧Ent t (bU [] [] 0 [0,1,2,3,4])) a e t) (fun b=>(fun r e t=>e= .ret∧sY TT [.tmp 4] (.bl r) .ret t) b e t) r) (aE (σ:=sg [(0,0),(1,1)]) ⟨⟨_,k,⟨k,k⟩⟩,(pE k k),(oE k k),(e1 k k),trivial⟩ (hP k k k k<|hB (cL.plainE _) k k k<|trivial) k) ?_ ?_
    ·intro x1 o h
     refine sQ<|sQ<|rg<|am k k<|am k k<|ae (bW aA k k k k) k<|ae (bC k k k) k<|an<|tn ?_
     rcases cb h with ⟨q7,h⟩|⟨q7,h⟩
     ·refine aM k q7<|aT<|tn<|sQ<|aN<|sQ<|aY kB<|am k k<|ae (aC aA k k k k k k k) k<|am k k ?_
      refine am k k ?_
      obtain ⟨v8,hv8,h⟩:=ob h
      refine ae (cX aA (eU hv8) (eV hv8) k k k k k k k) k<|ae (aC aA k k k k (cK (dO hv8)) k k) k ?_
      obtain ⟨v9,hv9,h⟩:=ob h
      refine ae (AEff.conv (cR (x:= .own 2 0 (List.map eI v9).length) (nb:=[(2,⟨1,cW (List.map eI v9)⟩)]) (aGx a0 v8 v9 hv9) k (by rfl) k k (eE.good _) (aG (cA (aL (aQ k) (aL (aQ k) (aL (aQ k) (aL (aQ k) (aL (aQ k) (aL (aQ k) cF))))))) (aG (aI k) bA))) (v':= .own 2 0 v9.length) (ed':=[(2,some ⟨1,List.map (ow eI) v9⟩)]) (by simp only [bD]) (eJ (nb':=[(2,⟨1,List.map (ow eI) v9⟩)]) (by simp only [cT]))) k<|ae (aD aA k k k k k k k) k<|ae (aC aA k k k k k k k) k ?_
      obtain ⟨v10,hv10,h⟩:=ob h
      refine ae (aZ (aAz a1 v9 a0.dims v10 hv10) k (aG (aI k) (aG (aCG eE k k) (aG (aI k) bA)))) k<|ae (bC k k k) k<|an ?_
      refine ⟨by kernel_rfl,?_⟩
      refine tn<|aO (t:=bU [(1,.list 1 (List.map eI a1)),(2,.ptr 0 0 0),(5,.own 1 0 v1.1.length),(7,.int x1),(43,.bl (decide (0<v10)))] [(0,⟨6,[[.int a0.p,.int a0.q.n,.list 1 (List.map eI a0.q.src),.list 1 (List.map eI a0.q.tgt),.list 1 (List.map eI a0.dims),.list 3 (List.map eM a0.maps)]]⟩),(1,⟨1,List.map (dA 2 eS) v1.1⟩)] 3 [3,4]) (aE (σ:=sg [(0,0),(1,1)]) ⟨⟨_,k,⟨k,k⟩⟩,(pE k k),(oE k k),(e1 k k),(e1 k k),trivial⟩ (hP k k k k<|hB (cL.plainE _) k k k<|trivial) k) ?_
      rcases cb h with ⟨q11,h⟩|⟨q11,h⟩
      ·refine aM k q11<|sQ<|rg<|aa k k<|an<|tn<|aP<|bB<|aK<|aK ?_
       obtain rfl:=so h
       exact ⟨_,k,k,aU k k k (bT k)⟩
      ·refine aS k q11<|aT<|bE<|tn<|rg<|am k k<|ae (bV k k) k<|aa k k<|an<|tn ?_
       obtain rfl:=so h
       exact ⟨_,k,(aE (σ:=sg [(0,0),(1,1)]) ⟨⟨_,k,⟨k,k⟩⟩,(pE k k),(oE k k),(e1 k k),trivial⟩ (hP k k k k<|hB (cL.plainE _) k k k<|trivial) k)⟩
     ·refine aS k q7<|bG<|aH<|aH ?_
      obtain rfl:=so h
      exact ⟨_,k,k,(aE (σ:=sg []) trivial trivial k)⟩
    ·intro e t hX
     rcases y12 with y13|y14
     ·obtain ⟨rfl,hent⟩:=hX
      refine aW<|tn<|aO hent<|sQ<|rg<|aa k k<|an<|tn<|aP ?_
      obtain rfl:=so h
      exact aU k k k (bT k)
     ·obtain ⟨rfl,hent⟩:=hX
      refine bB<|aK ?_
      obtain rfl:=so h
      exact hent
end
noncomputable section
set_option maxRecDepth 10000
def vK (a0:Int) (a1:Int) (a2:Int):Option Bool:=
 bif decide (a1≤a0) then
  (some (decide (a0≤a2)))
 else
  (some (false))
def pH (a0:Int):Option Bool:=
 bif decide (a0=2) then
  (some (true))
 else
  (bif decide (a0=3) then
   (some (true))
  else
   (some (decide (a0=5))))
def aKb (a0:Int) (a1:Int):Option Mt:=
 bif (decide (0≤wr (a0*a1))&&decide (wr (a0*a1)≤1048576)) then
  (some ((⟨a0,a1,(List.replicate ((wr (a0*a1)).toNat) (0:Int))⟩:Mt)))
 else none
def yG (a0:Mt) (a1:Int):Option Unit:=
 bif (decide (0≤wr (a1*a0.cols))&&(decide (wr (a1*a0.cols)≤wr ((wr (a1+1))*a0.cols))&&decide (wr ((wr (a1+1))*a0.cols)≤((a0.cells.length:Nat):Int)))) then
  (some ())
 else none
def wK (a0:Int) (a1:Int):Option Int:=
 bif !decide (a0=0) then
  (bif decide (a1.tmod a0<0) then
   (some (wr ((a1.tmod a0)+a0)))
  else
   (some (a1.tmod a0)))
 else none
def aBA (a0:Int) (a1:Int) (x1:Int):Option (Int ⊕ (Unit ⊕ Int)):=
 bif decide (x1<a0) then
  (Option.bind (pH a0) fun v2=>
  bif v2 then
   (Option.bind (wK a0 a1) fun v4=>
   Option.bind (wK a0 (wr (v4*x1))) fun v5=>
   bif decide (v5=1) then
    (some (.inr (.inr (x1))))
   else
    (some (.inl (wr (x1+1)))))
  else
   (some (.inr (.inl ()))))
 else
  (some (.inr (.inl ())))
def uC (a0:Int) (a1:Int):Option Int:=
 Option.bind (LpF 100 (aBA a0 a1) 1) fun y7=>
 Sum.elim (fun y8=>
  some (0)
 )
 (fun y9=>
  some y9
 )
  y7
theorem aCW (a0:Int) (a1:Int):Le (uC a0 a1) (iD a0 a1):=by
 unfold uC iD
 repeat (first|exact Le.rfl|refine le_spec_InverseMod_L1 _ _ _|refine Le.bind ?_ fun _=>?_|refine Le.cond ?_ ?_|refine Le.lp fun _=>?_|refine Le.fl (fun _ _=>?_) _ _|refine Le.elim (fun _=>?_) fun _=>?_)
def aCX (a0:Int) (a1:(List Int)) (x1:Int):Option (Int ⊕ (Unit ⊕ Bool)):=
 bif decide (x1<(a1.length:Int)) then
  (Option.bind (dV a1 x1) fun v5=>
  Option.bind (vK v5 0 (wr (a0 - 1))) fun v6=>
  bif !v6 then
   (some (.inr (.inr (false))))
  else
   (some (.inl (wr (x1+1)))))
 else
  (some (.inr (.inl ())))
def vT (a0:Int) (a1:(List Int)):Option Bool:=
 Option.bind (pH a0) fun v1=>
 bif !v1 then
  (some (false))
 else
  (bif decide (64<(a1.length:Int)) then
   (some (false))
  else
   (Option.bind (LpF 100 (aCX a0 a1) 0) fun y8=>
   Sum.elim (fun y9=>
    some (true)
   )
   (fun y10=>
    some y10
   )
    y8))
theorem aEV (a0:Int) (a1:(List Int)):Le (vT a0 a1) (gL a0 a1):=by
 unfold vT gL
 repeat (first|exact Le.rfl|refine le_spec_IsField _|refine le_spec_IsVector_L1 _ _ _|refine Le.bind ?_ fun _=>?_|refine Le.cond ?_ ?_|refine Le.lp fun _=>?_|refine Le.fl (fun _ _=>?_) _ _|refine Le.elim (fun _=>?_) fun _=>?_)
def aHW (a0:Mt):Option Mt:=
 bif decide (([]:(List Int)).length +a0.cells.length≤4294967296) then
  (some ((⟨a0.rows,a0.cols,(([]:(List Int))++a0.cells)⟩:Mt)))
 else none
def aCY (v1:Mt) (x1:(Int×(List Int)×(List Int)×Int)) (x2:(Int×Int)):Option ((Int×Int) ⊕ Int):=
 bif decide (x1.2.2.2≤x2.2) then
  (Option.bind (dV x1.2.1 (wr ((wr (x2.2*v1.cols))+x1.1))) fun v5=>
  bif !decide (v5=0) then
   (some (.inl (x2.2,wr (x2.2 - 1))))
  else
   (some (.inl (x2.1,wr (x2.2 - 1)))))
 else
  (some (.inr x2.1))
def aCZ (v1:Mt) (x1:(Int×(List Int)×(List Int)×Int)) (y7:Int) (x3:((List Int)×Int)):Option (((List Int)×Int) ⊕ (List Int)):=
 bif decide (x3.2<v1.cols) then
  (Option.bind (dV x3.1 (wr ((wr (x1.2.2.2*v1.cols))+x3.2))) fun v10=>
  Option.bind (dV x3.1 (wr ((wr (y7*v1.cols))+x3.2))) fun v11=>
  Option.bind (dV x3.1 (wr ((wr (x1.2.2.2*v1.cols))+x3.2))) fun v12=>
  Option.bind (dV (x3.1.set ((wr ((wr (x1.2.2.2*v1.cols))+x3.2)).toNat) v11) (wr ((wr (y7*v1.cols))+x3.2))) fun v13=>
  some (.inl (((x3.1.set ((wr ((wr (x1.2.2.2*v1.cols))+x3.2)).toNat) v11).set ((wr ((wr (y7*v1.cols))+x3.2)).toNat) v10),wr (x3.2+1))))
 else
  (some (.inr x3.1))
def aCa (a0:Int) (v1:Mt) (v16:Int) (x1:(Int×(List Int)×(List Int)×Int)) (x4:((List Int)×Int)):Option (((List Int)×Int) ⊕ (List Int)):=
 bif decide (x4.2<v1.cols) then
  (Option.bind (dV x4.1 (wr ((wr (x1.2.2.2*v1.cols))+x4.2))) fun v18=>
  Option.bind (wK a0 (wr (v16*v18))) fun v19=>
  Option.bind (dV x4.1 (wr ((wr (x1.2.2.2*v1.cols))+x4.2))) fun v20=>
  some (.inl ((x4.1.set ((wr ((wr (x1.2.2.2*v1.cols))+x4.2)).toNat) v19),wr (x4.2+1))))
 else
  (some (.inr x4.1))
def aCb (a0:Int) (v1:Mt) (v23:Int) (x1:(Int×(List Int)×(List Int)×Int)) (x5:((List Int)×Int)) (x6:((List Int)×Int)):Option (((List Int)×Int) ⊕ (List Int)):=
 bif decide (x6.2<v1.cols) then
  (bif !decide (x5.2=x1.2.2.2) then
   (Option.bind (dV x6.1 (wr ((wr (x5.2*v1.cols))+x6.2))) fun v26=>
   Option.bind (dV x6.1 (wr ((wr (x1.2.2.2*v1.cols))+x6.2))) fun v27=>
   Option.bind (wK a0 (wr (v26 - (wr (v23*v27))))) fun v28=>
   Option.bind (dV x6.1 (wr ((wr (x5.2*v1.cols))+x6.2))) fun v29=>
   some (.inl ((x6.1.set ((wr ((wr (x5.2*v1.cols))+x6.2)).toNat) v28),wr (x6.2+1))))
  else
   (some (.inr x6.1)))
 else
  (some (.inr x6.1))
def sA (a0:Int) (v1:Mt) (x1:(Int×(List Int)×(List Int)×Int)) (x5:((List Int)×Int)):Option (((List Int)×Int) ⊕ (List Int)):=
 bif decide (x5.2<v1.rows) then
  (Option.bind (dV x5.1 (wr ((wr (x5.2*v1.cols))+x1.1))) fun v23=>
  Option.bind (LpF 100 (aCb a0 v1 v23 x1 x5) (x5.1,0)) fun y30=>
  some (.inl (y30,wr (x5.2+1))))
 else
  (some (.inr x5.1))
theorem aBg (a0:Int) (v1:Mt) (x1:(Int×(List Int)×(List Int)×Int)) (x5:((List Int)×Int)):Le (sA a0 v1 x1 x5) (gQ a0 v1 x1 x5):=by
 unfold sA gQ
 repeat (first|exact Le.rfl|refine le_spec_l4Reduce_L6 _ _ _ _ _ _|refine Le.bind ?_ fun _=>?_|refine Le.cond ?_ ?_|refine Le.lp fun _=>?_|refine Le.fl (fun _ _=>?_) _ _|refine Le.elim (fun _=>?_) fun _=>?_)
def sB (a0:Int) (v1:Mt) (x1:(Int×(List Int)×(List Int)×Int)):Option ((Int×(List Int)×(List Int)×Int) ⊕ ((List Int)×(List Int))):=
 bif decide (x1.1<v1.cols) then
  (bif decide (x1.2.2.2<v1.rows) then
   (Option.bind (LpF 100 (aCY v1 x1) ((-1),wr (v1.rows - 1))) fun y7=>
   bif decide (y7<0) then
    (some (.inl (wr (x1.1+1),x1.2.1,x1.2.2.1,x1.2.2.2)))
   else
    (Option.bind (LpF 100 (aCZ v1 x1 y7) (x1.2.1,0)) fun y14=>
    Option.bind (dV y14 (wr ((wr (x1.2.2.2*v1.cols))+x1.1))) fun v15=>
    Option.bind (uC a0 v15) fun v16=>
    Option.bind (LpF 100 (aCa a0 v1 v16 x1) (y14,0)) fun y21=>
    Option.bind (LpF 100 (sA a0 v1 x1) (y21,0)) fun y31=>
    bif decide (x1.2.2.1.length+[x1.1].length ≤4294967296) then
     (some (.inl (wr (x1.1+1),y31,(x1.2.2.1++[x1.1]),wr (x1.2.2.2+1))))
    else none))
  else
   (some (.inr (x1.2.1,x1.2.2.1))))
 else
  (some (.inr (x1.2.1,x1.2.2.1)))
theorem aBh (a0:Int) (v1:Mt) (x1:(Int×(List Int)×(List Int)×Int)):Le (sB a0 v1 x1) (eW a0 v1 x1):=by
 unfold sB eW
 repeat (first|exact Le.rfl|refine le_spec_l4Reduce_L2 _ _ _|refine le_spec_l4Reduce_L3 _ _ _ _|refine aCW _ _|refine le_spec_l4Reduce_L4 _ _ _ _ _|refine aBg _ _ _ _|refine Le.bind ?_ fun _=>?_|refine Le.cond ?_ ?_|refine Le.lp fun _=>?_|refine Le.fl (fun _ _=>?_) _ _|refine Le.elim (fun _=>?_) fun _=>?_)
def vU (a0:Int) (a1:Mt):Option (Mt×(List Int)):=
 Option.bind (aHW a1) fun v1=>
 Option.bind (LpF 100 (sB a0 v1) (0,v1.cells,([]:(List Int)),0)) fun y33=>
 some (((⟨v1.rows,v1.cols,y33.1⟩:Mt),y33.2))
theorem aEW (a0:Int) (a1:Mt):Le (vU a0 a1) (jX a0 a1):=by
 unfold vU jX
 repeat (first|exact Le.rfl|refine le_spec_l3Copy _|refine aBh _ _ _|refine Le.bind ?_ fun _=>?_|refine Le.cond ?_ ?_|refine Le.lp fun _=>?_|refine Le.fl (fun _ _=>?_) _ _|refine Le.elim (fun _=>?_) fun _=>?_)
def xH (a0:(List Int)) (a1:Int) (x1:Int):Option (Int ⊕ (Unit ⊕ Int)):=
 bif decide (x1<(a0.length:Int)) then
  (Option.bind (dV a0 x1) fun v2=>
  bif decide (a1=v2) then
   (some (.inr (.inr (x1))))
  else
   (some (.inl (wr (x1+1)))))
 else
  (some (.inr (.inl ())))
def lV (a0:(List Int)) (a1:Int):Option Int:=
 Option.bind (LpF 100 (xH a0 a1) 0) fun y4=>
 Sum.elim (fun y5=>
  some ((-1))
 )
 (fun y6=>
  some y6
 )
  y4
theorem yO (a0:(List Int)) (a1:Int):Le (lV a0 a1) (iE a0 a1):=by
 unfold lV iE
 repeat (first|exact Le.rfl|refine le_slices_Index_Lint_int_L1 _ _ _|refine Le.bind ?_ fun _=>?_|refine Le.cond ?_ ?_|refine Le.lp fun _=>?_|refine Le.fl (fun _ _=>?_) _ _|refine Le.elim (fun _=>?_) fun _=>?_)
def jH (a0:(List Int)) (a1:Int):Option Bool:=
 Option.bind (lV a0 a1) fun v1=>
 some (decide (0≤v1))
theorem wL (a0:(List Int)) (a1:Int):Le (jH a0 a1) (gH a0 a1):=by
 unfold jH gH
 repeat (first|exact Le.rfl|refine yO _ _|refine Le.bind ?_ fun _=>?_|refine Le.cond ?_ ?_|refine Le.lp fun _=>?_|refine Le.fl (fun _ _=>?_) _ _|refine Le.elim (fun _=>?_) fun _=>?_)
def nM (a0:Int) (a1:(List Int)) (x1:((List Int)×Int)):Option (((List Int)×Int) ⊕ (List Int)):=
 bif decide (x1.2<a0) then
  (Option.bind (jH a1 x1.2) fun v2=>
  bif !v2 then
   (bif decide (x1.1.length+[x1.2].length ≤4294967296) then
    (some (.inl ((x1.1++[x1.2]),wr (x1.2+1))))
   else none)
  else
   (some (.inl (x1.1,wr (x1.2+1)))))
 else
  (some (.inr x1.1))
theorem aAI (a0:Int) (a1:(List Int)) (x1:((List Int)×Int)):Le (nM a0 a1 x1) (jN a0 a1 x1):=by
 unfold nM jN
 repeat (first|exact Le.rfl|refine wL _ _|refine Le.bind ?_ fun _=>?_|refine Le.cond ?_ ?_|refine Le.lp fun _=>?_|refine Le.fl (fun _ _=>?_) _ _|refine Le.elim (fun _=>?_) fun _=>?_)
def sC (a0:Int) (a1:(List Int)):Option (List Int):=
 Option.bind (LpF 100 (nM a0 a1) ([],0)) fun y5=>
 some (y5)
theorem aBi (a0:Int) (a1:(List Int)):Le (sC a0 a1) (mK a0 a1):=by
 unfold sC mK
 repeat (first|exact Le.rfl|refine aAI _ _ _|refine Le.bind ?_ fun _=>?_|refine Le.cond ?_ ?_|refine Le.lp fun _=>?_|refine Le.fl (fun _ _=>?_) _ _|refine Le.elim (fun _=>?_) fun _=>?_)
def aEX (a1:(List (List Int))) (x1:((List Int)×Int)):Option (((List Int)×Int) ⊕ (List Int)):=
 bif decide (x1.2<(a1.length:Int)) then
  (Option.bind (dV a1 x1.2) fun v2=>
  bif decide (x1.1.length+v2.length≤4294967296) then
   (some (.inl ((x1.1++v2),wr (x1.2+1))))
  else none)
 else
  (some (.inr x1.1))
def yP (a0:Int) (a1:(List (List Int))):Option Mt:=
 Option.bind (LpF 100 (aEX a1) ([],0)) fun y4=>
 some ((⟨(a1.length:Int),a0,y4⟩:Mt))
theorem aGy (a0:Int) (a1:(List (List Int))):Le (yP a0 a1) (kQ a0 a1):=by
 unfold yP kQ
 repeat (first|exact Le.rfl|refine le_spec_l5Rows_L1 _ _|refine Le.bind ?_ fun _=>?_|refine Le.cond ?_ ?_|refine Le.lp fun _=>?_|refine Le.fl (fun _ _=>?_) _ _|refine Le.elim (fun _=>?_) fun _=>?_)
def aDc (v1:(Mt×(List Int))) (x1:((List (List Int))×Int)):Option (((List (List Int))×Int) ⊕ (List (List Int))):=
 bif decide (x1.2<((v1.2.length:Nat):Int)) then
  (bif (decide (0≤wr (x1.2*v1.1.cols))&&(decide (wr (x1.2*v1.1.cols)≤wr ((wr (x1.2*v1.1.cols))+v1.1.cols))&&decide (wr ((wr (x1.2*v1.1.cols))+v1.1.cols)≤((v1.1.cells.length:Nat):Int)))) then
   (bif decide (([]:(List Int)).length +((v1.1.cells.drop (0+(wr (x1.2*v1.1.cols)).toNat)).take ((wr ((wr (x1.2*v1.1.cols))+v1.1.cols)).toNat - (wr (x1.2*v1.1.cols)).toNat)).length ≤4294967296) then
    (bif decide (x1.1.length+1≤4294967296) then
     (some (.inl ((x1.1++[(([]:(List Int))++((v1.1.cells.drop (0+(wr (x1.2*v1.1.cols)).toNat)).take ((wr ((wr (x1.2*v1.1.cols))+v1.1.cols)).toNat - (wr (x1.2*v1.1.cols)).toNat)))]),wr (x1.2+1))))
    else none)
   else none)
  else none)
 else
  (some (.inr x1.1))
def xI (a0:Int) (a1:Mt):Option (List (List Int)):=
 Option.bind (vU a0 a1) fun v1=>
 Option.bind (LpF 100 (aDc v1) (([]:(List (List Int))),0)) fun y6=>
 some (y6)
theorem aFi (a0:Int) (a1:Mt):Le (xI a0 a1) (jD a0 a1):=by
 unfold xI jD
 repeat (first|exact Le.rfl|refine aEW _ _|refine le_spec_l5Basis_L1 _ _|refine Le.bind ?_ fun _=>?_|refine Le.cond ?_ ?_|refine Le.lp fun _=>?_|refine Le.fl (fun _ _=>?_) _ _|refine Le.elim (fun _=>?_) fun _=>?_)
def uT (a0:Int) (a1:Int) (a2:(List (List Int))) (x1:Int):Option (Int ⊕ (Unit ⊕ Bool)):=
 bif decide (x1<(a2.length:Int)) then
  (Option.bind (dV a2 x1) fun v2=>
  bif !decide ((v2.length:Int)=a1) then
   (some (.inr (.inr (false))))
  else
   (Option.bind (dV a2 x1) fun v4=>
   Option.bind (vT a0 v4) fun v5=>
   bif !v5 then
    (some (.inr (.inr (false))))
   else
    (some (.inl (wr (x1+1))))))
 else
  (some (.inr (.inl ())))
theorem aDd (a0:Int) (a1:Int) (a2:(List (List Int))) (x1:Int):Le (uT a0 a1 a2 x1) (iT a0 a1 a2 x1):=by
 unfold uT iT
 repeat (first|exact Le.rfl|refine aEV _ _|refine Le.bind ?_ fun _=>?_|refine Le.cond ?_ ?_|refine Le.lp fun _=>?_|refine Le.fl (fun _ _=>?_) _ _|refine Le.elim (fun _=>?_) fun _=>?_)
def yQ (a0:Int) (a1:Int) (a2:(List (List Int))):Option Bool:=
 Option.bind (LpF 100 (uT a0 a1 a2) 0) fun y7=>
 Sum.elim (fun y8=>
  Option.bind (pH a0) fun v9=>
  bif v9 then
   (Option.bind (vK a1 0 8) fun v11=>
   bif v11 then
    (some (decide ((a2.length:Int)≤16)))
   else
    (some (false)))
  else
   (some (false))
 )
 (fun y13=>
  some y13
 )
  y7
theorem aGz (a0:Int) (a1:Int) (a2:(List (List Int))):Le (yQ a0 a1 a2) (nG a0 a1 a2):=by
 unfold yQ nG
 repeat (first|exact Le.rfl|refine aDd _ _ _ _|refine le_spec_IsField _|refine le_spec_l1In _ _ _|refine Le.bind ?_ fun _=>?_|refine Le.cond ?_ ?_|refine Le.lp fun _=>?_|refine Le.fl (fun _ _=>?_) _ _|refine Le.elim (fun _=>?_) fun _=>?_)
def aEY (a0:(List (List Int))) (a1:(List (List Int))) (x1:Int) (x2:Int):Option (Int ⊕ (Unit ⊕ Bool)):=
 Option.bind (dV a0 x1) fun v6=>
 bif decide (x2<(v6.length:Int)) then
  (Option.bind (dV a0 x1) fun v8=>
  Option.bind (dV v8 x2) fun v9=>
  Option.bind (dV a1 x1) fun v10=>
  Option.bind (dV v10 x2) fun v11=>
  bif !decide (v9=v11) then
   (some (.inr (.inr (false))))
  else
   (some (.inl (wr (x2+1)))))
 else
  (some (.inr (.inl ())))
def uU (a0:(List (List Int))) (a1:(List (List Int))) (x1:Int):Option (Int ⊕ (Unit ⊕ Bool)):=
 bif decide (x1<(a0.length:Int)) then
  (Option.bind (dV a0 x1) fun v3=>
  Option.bind (dV a1 x1) fun v4=>
  bif !decide ((v3.length:Int)=(v4.length:Int)) then
   (some (.inr (.inr (false))))
  else
   (Option.bind (LpF 100 (aEY a0 a1 x1) 0) fun y13=>
   Sum.elim (fun y14=>
    some (.inl (wr (x1+1)))
   )
   (fun y15=>
    some (.inr (.inr y15))
   )
    y13))
 else
  (some (.inr (.inl ())))
theorem aDe (a0:(List (List Int))) (a1:(List (List Int))) (x1:Int):Le (uU a0 a1 x1) (iU a0 a1 x1):=by
 unfold uU iU
 repeat (first|exact Le.rfl|refine le_spec_l5Same_L2 _ _ _ _|refine Le.bind ?_ fun _=>?_|refine Le.cond ?_ ?_|refine Le.lp fun _=>?_|refine Le.fl (fun _ _=>?_) _ _|refine Le.elim (fun _=>?_) fun _=>?_)
def yR (a0:(List (List Int))) (a1:(List (List Int))):Option Bool:=
 bif !decide ((a0.length:Int)=(a1.length:Int)) then
  (some (false))
 else
  (Option.bind (LpF 100 (uU a0 a1) 0) fun y16=>
  Sum.elim (fun y17=>
   some (true)
  )
  (fun y18=>
   some y18
  )
   y16)
theorem aHA (a0:(List (List Int))) (a1:(List (List Int))):Le (yR a0 a1) (nH a0 a1):=by
 unfold yR nH
 repeat (first|exact Le.rfl|refine aDe _ _ _|refine Le.bind ?_ fun _=>?_|refine Le.cond ?_ ?_|refine Le.lp fun _=>?_|refine Le.fl (fun _ _=>?_) _ _|refine Le.elim (fun _=>?_) fun _=>?_)
def xJ (a0:Int) (a1:Sc):Option Bool:=
 Option.bind (yQ a0 a1.size a1.basis) fun v1=>
 bif !v1 then
  (some (false))
 else
  (Option.bind (yP a1.size a1.basis) fun v3=>
  Option.bind (xI a0 v3) fun v4=>
  Option.bind (yR v4 a1.basis) fun v5=>
  some (v5))
theorem aFj (a0:Int) (a1:Sc):Le (xJ a0 a1) (fW a0 a1):=by
 unfold xJ fW
 repeat (first|exact Le.rfl|refine aGz _ _ _|refine aGy _ _|refine aFi _ _|refine aHA _ _|refine Le.bind ?_ fun _=>?_|refine Le.cond ?_ ?_|refine Le.lp fun _=>?_|refine Le.fl (fun _ _=>?_) _ _|refine Le.elim (fun _=>?_) fun _=>?_)
def aDf (a0:Int):Option Int:=
 bif decide (4294967296≤a0) then
  (bif decide (65536≤kR a0 32) then
   (bif decide (256≤kR (kR a0 32) 16) then
    (Option.bind (uI cO (IntKind.u8.wrap (kR (kR (kR a0 32) 16) 8))) fun v4=>
    some (wr ((wr ((wr (32+16))+8))+(IntKind.i64.wrap v4))))
   else
    (Option.bind (uI cO (IntKind.u8.wrap (kR (kR a0 32) 16))) fun v5=>
    some (wr ((wr (32+16))+(IntKind.i64.wrap v5)))))
  else
   (bif decide (256≤kR a0 32) then
    (Option.bind (uI cO (IntKind.u8.wrap (kR (kR a0 32) 8))) fun v7=>
    some (wr ((wr (32+8))+(IntKind.i64.wrap v7))))
   else
    (Option.bind (uI cO (IntKind.u8.wrap (kR a0 32))) fun v8=>
    some (wr (32+(IntKind.i64.wrap v8))))))
 else
  (bif decide (65536≤a0) then
   (bif decide (256≤kR a0 16) then
    (Option.bind (uI cO (IntKind.u8.wrap (kR (kR a0 16) 8))) fun v11=>
    some (wr ((wr ((wr (0+16))+8))+(IntKind.i64.wrap v11))))
   else
    (Option.bind (uI cO (IntKind.u8.wrap (kR a0 16))) fun v12=>
    some (wr ((wr (0+16))+(IntKind.i64.wrap v12)))))
  else
   (bif decide (256≤a0) then
    (Option.bind (uI cO (IntKind.u8.wrap (kR a0 8))) fun v14=>
    some (wr ((wr (0+8))+(IntKind.i64.wrap v14))))
   else
    (Option.bind (uI cO (IntKind.u8.wrap a0)) fun v15=>
    some (wr (0+(IntKind.i64.wrap v15))))))
def aFk (a0:Int):Option Int:=
 Option.bind (aDf a0) fun v1=>
 some (v1)
def aAR (a0:Int):Option Bool:=
 some (!decide (a0=a0))
def aDg (a0:Int) (a1:Int):Option Int:=
 Option.bind (aAR a0) fun v1=>
 Option.bind (aAR a1) fun v2=>
 bif v1 then
  (bif v2 then
   (some (0))
  else
   (some ((-1))))
 else
  (bif v2 then
   (some (1))
  else
   (bif decide (a0<a1) then
    (some ((-1)))
   else
    (bif decide (a1<a0) then
     (some (1))
    else
     (some (0)))))
def vV (a0:(List Int)) (a1:(List Int)) (x1:Int):Option (Int ⊕ (Unit ⊕ Int)):=
 bif decide (x1<(a0.length:Int)) then
  (Option.bind (dV a0 x1) fun v2=>
  bif decide ((a1.length:Int)≤x1) then
   (some (.inr (.inr (1))))
  else
   (Option.bind (dV a1 x1) fun v4=>
   Option.bind (aDg v2 v4) fun v5=>
   bif !decide (v5=0) then
    (some (.inr (.inr (v5))))
   else
    (some (.inl (wr (x1+1))))))
 else
  (some (.inr (.inl ())))
def jT (a0:(List Int)) (a1:(List Int)):Option Int:=
 Option.bind (LpF 100 (vV a0 a1) 0) fun y7=>
 Sum.elim (fun y8=>
  bif decide ((a0.length:Int)<(a1.length:Int)) then
   (some ((-1)))
  else
   (some (0))
 )
 (fun y10=>
  some y10
 )
  y7
theorem xK (a0:(List Int)) (a1:(List Int)):Le (jT a0 a1) (gM a0 a1):=by
 unfold jT gM
 repeat (first|exact Le.rfl|refine le_slices_Compare_Lint_int_L1 _ _ _|refine Le.bind ?_ fun _=>?_|refine Le.cond ?_ ?_|refine Le.lp fun _=>?_|refine Le.fl (fun _ _=>?_) _ _|refine Le.elim (fun _=>?_) fun _=>?_)
def qL (a0:(List Int)) (a1:(List Int)):Option Int:=
 Option.bind (jT a0 a1) fun v1=>
 some (v1)
theorem aBB (a0:(List Int)) (a1:(List Int)):Le (qL a0 a1) (iL a0 a1):=by
 unfold qL iL
 repeat (first|exact Le.rfl|refine xK _ _|refine Le.bind ?_ fun _=>?_|refine Le.cond ?_ ?_|refine Le.lp fun _=>?_|refine Le.fl (fun _ _=>?_) _ _|refine Le.elim (fun _=>?_) fun _=>?_)
def eG (a0:(List (List Int))) (a1:(List (List Int))) (a2:((List Int)→(List Int)→Option Int)) (x1:Int):Option (Int ⊕ (Unit ⊕ Int)):=
 bif decide (x1<(a0.length:Int)) then
  (Option.bind (dV a0 x1) fun v2=>
  bif decide ((a1.length:Int)≤x1) then
   (some (.inr (.inr (1))))
  else
   (Option.bind (dV a1 x1) fun v4=>
   Option.bind (a2 v2 v4) fun v5=>
   bif !decide (v5=0) then
    (some (.inr (.inr (v5))))
   else
    (some (.inl (wr (x1+1))))))
 else
  (some (.inr (.inl ())))
theorem kU {a2 a2':((List Int)→(List Int)→Option Int)} (ha2: ∀ z0 z1,Le (a2 z0 z1) (a2' z0 z1)) (a0:(List (List Int))) (a1:(List (List Int))) (x1:Int):Le (eG a0 a1 a2 x1) (dK a0 a1 a2' x1):=by
 unfold eG dK
 repeat (first|exact Le.rfl|exact ha2 _ _|refine Le.bind ?_ fun _=>?_|refine Le.cond ?_ ?_|refine Le.lp fun _=>?_|refine Le.fl (fun _ _=>?_) _ _|refine Le.elim (fun _=>?_) fun _=>?_)
def eY (a0:(List (List Int))) (a1:(List (List Int))) (a2:((List Int)→(List Int)→Option Int)):Option Int:=
 Option.bind (LpF 100 (eG a0 a1 a2) 0) fun y7=>
 Sum.elim (fun y8=>
  bif decide ((a0.length:Int)<(a1.length:Int)) then
   (some ((-1)))
  else
   (some (0))
 )
 (fun y10=>
  some y10
 )
  y7
theorem lZ {a2 a2':((List Int)→(List Int)→Option Int)} (ha2: ∀ z0 z1,Le (a2 z0 z1) (a2' z0 z1)) (a0:(List (List Int))) (a1:(List (List Int))):Le (eY a0 a1 a2) (dT a0 a1 a2'):=by
 unfold eY dT
 repeat (first|exact Le.rfl|exact ha2 _ _|refine kU (fun _ _=>?_) _ _ _|refine Le.bind ?_ fun _=>?_|refine Le.cond ?_ ?_|refine Le.lp fun _=>?_|refine Le.fl (fun _ _=>?_) _ _|refine Le.elim (fun _=>?_) fun _=>?_)
def uD (a0:Sc) (a1:Sc):Option Int:=
 Option.bind (eY a0.basis a1.basis (fun b0 b1=>qL b0 b1)) fun v1=>
 some (v1)
theorem aCc (a0:Sc) (a1:Sc):Le (uD a0 a1) (nW a0 a1):=by
 unfold uD nW
 repeat (first|exact Le.rfl|refine lZ (fun _ _=>?_) _ _|refine aBB _ _|refine Le.bind ?_ fun _=>?_|refine Le.cond ?_ ?_|refine Le.lp fun _=>?_|refine Le.fl (fun _ _=>?_) _ _|refine Le.elim (fun _=>?_) fun _=>?_)
def eO (a1:Int) (x2:((List Sc)×Int)):Option (((List Sc)×Int) ⊕ (List Sc)):=
 bif decide (a1<x2.2) then
  (Option.bind (dV x2.1 x2.2) fun v3=>
  Option.bind (dV x2.1 (wr (x2.2 - 1))) fun v4=>
  Option.bind (uD v3 v4) fun v5=>
  bif decide (v5<0) then
   (Option.bind (dV x2.1 (wr (x2.2 - 1))) fun v7=>
   Option.bind (dV x2.1 x2.2) fun v8=>
   Option.bind (dV x2.1 x2.2) fun v9=>
   Option.bind (dV (x2.1.set x2.2.toNat v7) (wr (x2.2 - 1))) fun v10=>
   some (.inl (((x2.1.set x2.2.toNat v7).set ((wr (x2.2 - 1)).toNat) v8),wr (x2.2 - 1))))
  else
   (some (.inr x2.1)))
 else
  (some (.inr x2.1))
theorem lW (a1:Int) (x2:((List Sc)×Int)):Le (eO a1 x2) (dQ a1 x2):=by
 unfold eO dQ
 repeat (first|exact Le.rfl|refine aCc _ _|refine Le.bind ?_ fun _=>?_|refine Le.cond ?_ ?_|refine Le.lp fun _=>?_|refine Le.fl (fun _ _=>?_) _ _|refine Le.elim (fun _=>?_) fun _=>?_)
def eP (a1:Int) (a2:Int) (x1:((List Sc)×Int)):Option (((List Sc)×Int) ⊕ (List Sc)):=
 bif decide (x1.2<a2) then
  (Option.bind (LpF 100 (eO a1) (x1.1,x1.2)) fun y11=>
  some (.inl (y11,wr (x1.2+1))))
 else
  (some (.inr x1.1))
theorem lX (a1:Int) (a2:Int) (x1:((List Sc)×Int)):Le (eP a1 a2 x1) (dR a1 a2 x1):=by
 unfold eP dR
 repeat (first|exact Le.rfl|refine lW _ _|refine Le.bind ?_ fun _=>?_|refine Le.cond ?_ ?_|refine Le.lp fun _=>?_|refine Le.fl (fun _ _=>?_) _ _|refine Le.elim (fun _=>?_) fun _=>?_)
def fE (a0:(List Sc)) (a1:Int) (a2:Int):Option (List Sc):=
 Option.bind (LpF 100 (eP a1 a2) (a0,wr (a1+1))) fun y12=>
 some y12
theorem nD (a0:(List Sc)) (a1:Int) (a2:Int):Le (fE a0 a1 a2) (dY a0 a1 a2):=by
 unfold fE dY
 repeat (first|exact Le.rfl|refine lX _ _ _|refine Le.bind ?_ fun _=>?_|refine Le.cond ?_ ?_|refine Le.lp fun _=>?_|refine Le.fl (fun _ _=>?_) _ _|refine Le.elim (fun _=>?_) fun _=>?_)
def fK (a0:(List Sc)) (a1:Int) (a2:Int) (a3:Int) (x1:Unit):Option (Unit ⊕ (List Sc)):=
 bif decide (wr (a2 - a1)≤12) then
  (Option.bind (fE a0 a1 a2) fun v2=>
  bif decide (v2.length=a0.length) then
   (some (.inr v2))
  else none)
 else
  (bif decide (a3=0) then
   (none)
  else
   (none))
theorem pI (a0:(List Sc)) (a1:Int) (a2:Int) (a3:Int) (x1:Unit):Le (fK a0 a1 a2 a3 x1) (eF a0 a1 a2 a3 x1):=by
 unfold fK eF
 repeat (first|exact Le.rfl|refine nD _ _ _|refine Le.bind ?_ fun _=>?_|refine Le.cond ?_ ?_|refine Le.lp fun _=>?_|refine Le.fl (fun _ _=>?_) _ _|refine Le.elim (fun _=>?_) fun _=>?_)
def fY (a0:(List Sc)) (a1:Int) (a2:Int) (a3:Int):Option (List Sc):=
 Option.bind (LpF 100 (fK a0 a1 a2 a3) ()) fun y5=>
 some y5
theorem qS (a0:(List Sc)) (a1:Int) (a2:Int) (a3:Int):Le (fY a0 a1 a2 a3) (eX a0 a1 a2 a3):=by
 unfold fY eX
 repeat (first|exact Le.rfl|refine pI _ _ _ _ _|refine Le.bind ?_ fun _=>?_|refine Le.cond ?_ ?_|refine Le.lp fun _=>?_|refine Le.fl (fun _ _=>?_) _ _|refine Le.elim (fun _=>?_) fun _=>?_)
def fF (a0:(List Sc)):Option (List Sc):=
 Option.bind (aFk (IntKind.u64.wrap ((a0.length:Nat):Int))) fun v1=>
 Option.bind (fY a0 0 ((a0.length:Nat):Int) v1) fun v2=>
 bif decide (v2.length=a0.length) then
  (some v2)
 else none
theorem nE (a0:(List Sc)):Le (fF a0) (dZ a0):=by
 unfold fF dZ
 repeat (first|exact Le.rfl|refine le_math_bits_Len _|refine qS _ _ _ _|refine Le.bind ?_ fun _=>?_|refine Le.cond ?_ ?_|refine Le.lp fun _=>?_|refine Le.fl (fun _ _=>?_) _ _|refine Le.elim (fun _=>?_) fun _=>?_)
def aAU (a0:Mt) (x1:((List (List Int))×Int)):Option (((List (List Int))×Int) ⊕ (List (List Int))):=
 bif decide (x1.2<a0.rows) then
  (Option.bind (aCK a0 x1.2) fun v2=>
  Option.bind (tI v2) fun v3=>
  bif decide (x1.1.length+1≤4294967296) then
   (some (.inl ((x1.1++[v3]),wr (x1.2+1))))
  else none)
 else
  (some (.inr x1.1))
def sD (a0:Mt):Option (List (List Int)):=
 Option.bind (LpF 100 (aAU a0) ([],0)) fun y5=>
 some (y5)
theorem aBj (a0:Mt):Le (sD a0) (mP a0):=by
 unfold sD mP
 repeat (first|exact Le.rfl|refine le_impl_Matrix_rows_L1 _ _|refine Le.bind ?_ fun _=>?_|refine Le.cond ?_ ?_|refine Le.lp fun _=>?_|refine Le.fl (fun _ _=>?_) _ _|refine Le.elim (fun _=>?_) fun _=>?_)
def aCd (a1:Int) (x1:(Int×(List Sc))) (x2:((List Int)×Int)):Option (((List Int)×Int) ⊕ (List Int)):=
 bif decide (x2.2<a1) then
  (bif !decide (x2.2<0) then
   (bif decide (aPq (aPp x1.1 x2.2) 1=1) then
    (bif decide (x2.1.length+[x2.2].length ≤4294967296) then
     (some (.inl ((x2.1++[x2.2]),wr (x2.2+1))))
    else none)
   else
    (some (.inl (x2.1,wr (x2.2+1)))))
  else none)
 else
  (some (.inr x2.1))
def aCe (v9:Int) (v10:(List Int)) (x3:((List Pr)×Int)) (x4:((List Pr)×Int)):Option (((List Pr)×Int) ⊕ (List Pr)):=
 bif decide (x4.2<((v10.length:Nat):Int)) then
  (Option.bind (dV v10 x4.2) fun v12=>
  bif decide (v9<v12) then
   (bif decide (x4.1.length+[(⟨x3.2,v12⟩:Pr)].length ≤4294967296) then
    (some (.inl ((x4.1++[(⟨x3.2,v12⟩:Pr)]),wr (x4.2+1))))
   else none)
  else
   (some (.inl (x4.1,wr (x4.2+1)))))
 else
  (some (.inr x4.1))
def sE (a1:Int) (y6:(List Int)) (x3:((List Pr)×Int)):Option (((List Pr)×Int) ⊕ (List Pr)):=
 bif decide (x3.2<((y6.length:Nat):Int)) then
  (Option.bind (dV y6 x3.2) fun v9=>
  Option.bind (sC a1 y6) fun v10=>
  Option.bind (LpF 100 (aCe v9 v10 x3) (x3.1,0)) fun y15=>
  some (.inl (y15,wr (x3.2+1))))
 else
  (some (.inr x3.1))
theorem aBk (a1:Int) (y6:(List Int)) (x3:((List Pr)×Int)):Le (sE a1 y6 x3) (mQ a1 y6 x3):=by
 unfold sE mQ
 repeat (first|exact Le.rfl|refine aBi _ _|refine le_impl_spacesOf_L4 _ _ _ _|refine Le.bind ?_ fun _=>?_|refine Le.cond ?_ ?_|refine Le.lp fun _=>?_|refine Le.fl (fun _ _=>?_) _ _|refine Le.elim (fun _=>?_) fun _=>?_)
def aCf (v19:Mt) (y6:(List Int)) (x6:((List Int)×Int)):Option (((List Int)×Int) ⊕ (List Int)):=
 bif decide (x6.2<((y6.length:Nat):Int)) then
  (Option.bind (dV y6 x6.2) fun v21=>
  Option.bind (yG (⟨v19.rows,v19.cols,x6.1⟩:Mt) x6.2) fun v22=>
  bif (decide (0≤v21)&&decide (v21<((((wr ((wr (x6.2+1))*v19.cols)).toNat - (wr (x6.2*v19.cols)).toNat):Nat):Int))) then
   (Option.bind (x6.1[((0+(wr (x6.2*v19.cols)).toNat)+v21.toNat)]?) fun v23=>
   some (.inl ((x6.1.set ((0+(wr (x6.2*v19.cols)).toNat)+v21.toNat) 1),wr (x6.2+1)))
   )
  else none)
 else
  (some (.inr x6.1))
def aCg (v18:(List Int)) (v19:Mt) (y16:(List Pr)) (x7:((List Int)×Int)):Option (((List Int)×Int) ⊕ (List Int)):=
 bif decide (x7.2<((y16.length:Nat):Int)) then
  (Option.bind (dV y16 x7.2) fun v27=>
  Option.bind (yG (⟨v19.rows,v19.cols,x7.1⟩:Mt) v27.a) fun v28=>
  Option.bind (dV v18 x7.2) fun v29=>
  bif (decide (0≤v27.b)&&decide (v27.b<((((wr ((wr (v27.a+1))*v19.cols)).toNat - (wr (v27.a*v19.cols)).toNat):Nat):Int))) then
   (Option.bind (x7.1[((0+(wr (v27.a*v19.cols)).toNat)+v27.b.toNat)]?) fun v30=>
   some (.inl ((x7.1.set ((0+(wr (v27.a*v19.cols)).toNat)+v27.b.toNat) v29),wr (x7.2+1)))
   )
  else none)
 else
  (some (.inr x7.1))
def sH (a1:Int) (a2:Int) (y6:(List Int)) (y16:(List Pr)) (v18:List Int) (x5:(List Sc)):Option ((List Sc) ⊕ Unit):=
 Option.bind (aKb a2 a1) fun v19=>
 Option.bind (LpF 100 (aCf v19 y6) (v19.cells,0)) fun y25=>
 Option.bind (LpF 100 (aCg v18 v19 y16) (y25,0)) fun y32=>
 Option.bind (sD (⟨v19.rows,v19.cols,y32⟩:Mt)) fun v33=>
 bif decide (x5.length+1≤4294967296) then
  (some (.inl (x5++[(⟨a1,v33⟩:Sc)])))
 else none
theorem aBl (a1:Int) (a2:Int) (y6:(List Int)) (y16:(List Pr)) (v18:List Int) (x5:(List Sc)):Le (sH a1 a2 y6 y16 v18 x5) (mR a1 a2 y6 y16 v18 x5):=by
 unfold sH mR
 repeat (first|exact Le.rfl|refine le_impl_zero _ _|refine le_impl_spacesOf_L6 _ _ _|refine le_impl_spacesOf_L7 _ _ _ _|refine aBj _|refine Le.bind ?_ fun _=>?_|refine Le.cond ?_ ?_|refine Le.lp fun _=>?_|refine Le.fl (fun _ _=>?_) _ _|refine Le.elim (fun _=>?_) fun _=>?_)
def sI (a0:Int) (a1:Int) (a2:Int) (x1:(Int×(List Sc))):Option ((Int×(List Sc)) ⊕ (List Sc)):=
 bif decide (x1.1<xQ 1 a1) then
  (Option.bind (LpF 100 (aCd a1 x1) ([],0)) fun y6=>
  bif !decide (((y6.length:Nat):Int)=a2) then
   (some (.inl (wr (x1.1+1),x1.2)))
  else
   (Option.bind (LpF 100 (sE a1 y6) ([],0)) fun y16=>
   bif (decide (0≤((y16.length:Nat):Int))&&decide (((y16.length:Nat):Int)≤1048576)) then
    (bif aBw (List.replicate ((y16.length:Nat):Int).toNat (wr (a0 - 1))) then
     (Option.bind (Fl (sH a1 a2 y6 y16) (dH (List.replicate ((y16.length:Nat):Int).toNat (wr (a0 - 1)))) x1.2) fun y35=>
      Sum.elim (fun y35=>
       some (.inl (wr (x1.1+1),y35))
      ) (fun _=>none) y35)
    else none)
   else none))
 else
  (some (.inr x1.2))
theorem aBm (a0:Int) (a1:Int) (a2:Int) (x1:(Int×(List Sc))):Le (sI a0 a1 a2 x1) (mS a0 a1 a2 x1):=by
 unfold sI mS
 repeat (first|exact Le.rfl|refine le_impl_spacesOf_L2 _ _ _|refine aBk _ _ _|refine aBl _ _ _ _ _ _|refine Le.bind ?_ fun _=>?_|refine Le.cond ?_ ?_|refine Le.lp fun _=>?_|refine Le.fl (fun _ _=>?_) _ _|refine Le.elim (fun _=>?_) fun _=>?_)
def rR (a0:Int) (a1:Int) (a2:Int):Option (List Sc):=
 bif !decide (a1<0) then
  (Option.bind (LpF 100 (sI a0 a1 a2) (0,[])) fun y37=>
  Option.bind (fF y37) fun v38=>
  bif decide (v38.length=y37.length) then
   (some v38)
  else none)
 else none
theorem aEZ (a0:Int) (a1:Int) (a2:Int):Le (rR a0 a1 a2) (jY a0 a1 a2):=by
 unfold rR jY
 repeat (first|exact Le.rfl|refine aBm _ _ _ _|refine nE _|refine Le.bind ?_ fun _=>?_|refine Le.cond ?_ ?_|refine Le.lp fun _=>?_|refine Le.fl (fun _ _=>?_) _ _|refine Le.elim (fun _=>?_) fun _=>?_)
def aDh (a0:Int) (a1:Int) (x1:(Int×Int)):Option ((Int×Int) ⊕ Int):=
 bif decide (x1.2<a1) then
  (some (.inl (wr (x1.1*a0),wr (x1.2+1))))
 else
  (some (.inr x1.1))
def uE (a0:Int) (a1:Int):Option Int:=
 Option.bind (LpF 100 (aDh a0 a1) (1,0)) fun y2=>
 some (y2)
theorem aFl (a0:Int) (a1:Int):Le (uE a0 a1) (pC a0 a1):=by
 unfold uE pC
 repeat (first|exact Le.rfl|refine le_spec_l5Power_L1 _ _ _|refine Le.bind ?_ fun _=>?_|refine Le.cond ?_ ?_|refine Le.lp fun _=>?_|refine Le.fl (fun _ _=>?_) _ _|refine Le.elim (fun _=>?_) fun _=>?_)
def nN (a0:Int) (a1:Int) (a2:Int) (x1:(Int×Int×Int)):Option ((Int×Int×Int) ⊕ (Int×Int)):=
 bif decide (x1.2.2<a2) then
  (Option.bind (uE a0 (wr (a1 - x1.2.2))) fun v8=>
  Option.bind (uE a0 (wr (x1.2.2+1))) fun v9=>
  some (.inl (wr (x1.1*(wr (v8 - 1))),wr (x1.2.1*(wr (v9 - 1))),wr (x1.2.2+1))))
 else
  (some (.inr (x1.1,x1.2.1)))
theorem aAJ (a0:Int) (a1:Int) (a2:Int) (x1:(Int×Int×Int)):Le (nN a0 a1 a2 x1) (jR a0 a1 a2 x1):=by
 unfold nN jR
 repeat (first|exact Le.rfl|refine aFl _ _|refine Le.bind ?_ fun _=>?_|refine Le.cond ?_ ?_|refine Le.lp fun _=>?_|refine Le.fl (fun _ _=>?_) _ _|refine Le.elim (fun _=>?_) fun _=>?_)
def sJ (a0:Int) (a1:Int) (a2:Int):Option Int:=
 Option.bind (pH a0) fun v1=>
 bif !v1 then
  (some ((-1)))
 else
  (Option.bind (vK a1 0 4) fun v3=>
  bif !v3 then
   (some ((-1)))
  else
   (Option.bind (vK a2 0 a1) fun v5=>
   bif !v5 then
    (some ((-1)))
   else
    (Option.bind (LpF 100 (nN a0 a1 a2) (1,1,0)) fun y10=>
    bif !decide (y10.2=0) then
     (some (wr (y10.1.tdiv y10.2)))
    else none)))
theorem aBn (a0:Int) (a1:Int) (a2:Int):Le (sJ a0 a1 a2) (jE a0 a1 a2):=by
 unfold sJ jE
 repeat (first|exact Le.rfl|refine le_spec_IsField _|refine le_spec_l1In _ _ _|refine aAJ _ _ _ _|refine Le.bind ?_ fun _=>?_|refine Le.cond ?_ ?_|refine Le.lp fun _=>?_|refine Le.fl (fun _ _=>?_) _ _|refine Le.elim (fun _=>?_) fun _=>?_)
def aCh (a0:Int) (x1:(Int×(List Int)×Int)):Option ((Int×(List Int)×Int) ⊕ (Int×(List Int))):=
 bif decide (0≤x1.2.2) then
  (bif !decide (a0=0) then
   (Option.bind (dV x1.2.1 x1.2.2) fun v7=>
   bif !decide (a0=0) then
    (some (.inl (wr (x1.1.tdiv a0),(x1.2.1.set x1.2.2.toNat (x1.1.tmod a0)),wr (x1.2.2 - 1))))
   else none)
  else none)
 else
  (some (.inr (x1.1,x1.2.1)))
def vW (a0:Int) (a1:Int) (a2:Int):Option ((List Int)×Bool):=
 Option.bind (pH a0) fun v1=>
 bif !v1 then
  (some ((([]:(List Int)),false)))
 else
  (Option.bind (vK a1 0 8) fun v3=>
  bif !v3 then
   (some ((([]:(List Int)),false)))
  else
   (bif decide (a2<0) then
    (some ((([]:(List Int)),false)))
   else
    (bif (decide (0≤a1)&&decide (a1≤1048576)) then
     (Option.bind (LpF 100 (aCh a0) (a2,(List.replicate a1.toNat (0:Int)),wr (a1 - 1))) fun y10=>
     bif decide (0<y10.1) then
      (some ((([]:(List Int)),false)))
     else
      (some ((y10.2,true))))
    else none)))
theorem aEa (a0:Int) (a1:Int) (a2:Int):Le (vW a0 a1 a2) (rO a0 a1 a2):=by
 unfold vW rO
 repeat (first|exact Le.rfl|refine le_spec_IsField _|refine le_spec_l1In _ _ _|refine le_spec_VectorOf_L1 _ _|refine Le.bind ?_ fun _=>?_|refine Le.cond ?_ ?_|refine Le.lp fun _=>?_|refine Le.fl (fun _ _=>?_) _ _|refine Le.elim (fun _=>?_) fun _=>?_)
def aEb (a0:Int) (a1:Int) (x1:(Int×Int)):Option ((Int×Int) ⊕ Int):=
 bif decide (x1.2<a1) then
  (some (.inl (wr (x1.1*a0),wr (x1.2+1))))
 else
  (some (.inr x1.1))
def uV (a0:Int) (a1:Int) (v2:(List Sc)) (v6:((List Int)×Bool)) (x3:((List Sc)×Int)):Option (((List Sc)×Int) ⊕ (List Sc)):=
 bif decide (x3.2<((v2.length:Nat):Int)) then
  (Option.bind (dV v2 x3.2) fun v8=>
  bif decide ([v6.1].length +v8.basis.length≤4294967296) then
   (Option.bind (xJ a0 (⟨a1,([v6.1]++v8.basis)⟩:Sc)) fun v10=>
   bif v10 then
    (bif decide (x3.1.length+1≤4294967296) then
     (some (.inl ((x3.1++[(⟨a1,([v6.1]++v8.basis)⟩:Sc)]),wr (x3.2+1))))
    else none)
   else
    (some (.inl (x3.1,wr (x3.2+1)))))
  else none)
 else
  (some (.inr x3.1))
theorem aDi (a0:Int) (a1:Int) (v2:(List Sc)) (v6:((List Int)×Bool)) (x3:((List Sc)×Int)):Le (uV a0 a1 v2 v6 x3) (qE a0 a1 v2 v6 x3):=by
 unfold uV qE
 repeat (first|exact Le.rfl|refine aFj _ _|refine Le.bind ?_ fun _=>?_|refine Le.cond ?_ ?_|refine Le.lp fun _=>?_|refine Le.fl (fun _ _=>?_) _ _|refine Le.elim (fun _=>?_) fun _=>?_)
def uW (a0:Int) (a1:Int) (v2:(List Sc)) (y4:Int) (x2:((List Sc)×Int)):Option (((List Sc)×Int) ⊕ (List Sc)):=
 bif decide (x2.2<y4) then
  (Option.bind (vW a0 a1 x2.2) fun v6=>
  Option.bind (LpF 100 (uV a0 a1 v2 v6) (x2.1,0)) fun y13=>
  some (.inl (y13,wr (x2.2+1))))
 else
  (some (.inr x2.1))
theorem aDj (a0:Int) (a1:Int) (v2:(List Sc)) (y4:Int) (x2:((List Sc)×Int)):Le (uW a0 a1 v2 y4 x2) (qF a0 a1 v2 y4 x2):=by
 unfold uW qF
 repeat (first|exact Le.rfl|refine aEa _ _ _|refine aDi _ _ _ _ _|refine Le.bind ?_ fun _=>?_|refine Le.cond ?_ ?_|refine Le.lp fun _=>?_|refine Le.fl (fun _ _=>?_) _ _|refine Le.elim (fun _=>?_) fun _=>?_)
def vX (self:Int→Int→Int→Option (List Sc)) (a0:Int) (a1:Int) (a2:Int):Option (List Sc):=
 bif decide (a2=0) then
  (some [(⟨a1,([]:(List (List Int)))⟩:Sc)])
 else
  (Option.bind (self a0 a1 (wr (a2 - 1))) fun v2=>
  Option.bind (LpF 100 (aEb a0 a1) (1,0)) fun y4=>
  Option.bind (LpF 100 (uW a0 a1 v2 y4) (([]:(List Sc)),0)) fun y14=>
  some y14)
theorem aEc {self self':Int→Int→Int→Option (List Sc)} (hself: ∀ z0 z1 z2,Le (self z0 z1 z2) (self' z0 z1 z2)) (a0:Int) (a1:Int) (a2:Int):Le (vX self a0 a1 a2) (rP self' a0 a1 a2):=by
 unfold vX rP
 repeat (first|exact Le.rfl|exact hself _ _ _|refine le_spec_l5List_L1 _ _ _|refine aDj _ _ _ _ _|refine Le.bind ?_ fun _=>?_|refine Le.cond ?_ ?_|refine Le.lp fun _=>?_|refine Le.fl (fun _ _=>?_) _ _|refine Le.elim (fun _=>?_) fun _=>?_)
def yS:Nat→Int→Int→Int→Option (List Sc)
 |0,_,_,_=>none
 |n+1,a0,a1,a2=>vX (yS n) a0 a1 a2
theorem aBC: ∀ (n:Nat) a0 a1 a2,Le (yS n a0 a1 a2) (qR n a0 a1 a2)
 |0,a0,a1,a2=>Le.none
 |n+1,a0,a1,a2=>aEc (fun a0 a1 a2=>aBC n a0 a1 a2) a0 a1 a2
def rS (a0:Int) (a1:Int) (a2:Int):Option ((List Sc)×Bool):=
 Option.bind (sJ a0 a1 a2) fun v1=>
 bif decide (v1<0) then
  (some (([]:(List Sc)),false))
 else
  (bif decide (200<v1) then
   (some (([]:(List Sc)),false))
  else
   (Option.bind (yS 8 a0 a1 a2) fun v4=>
   some (v4,true)))
theorem aEd (a0:Int) (a1:Int) (a2:Int):Le (rS a0 a1 a2) (jZ a0 a1 a2):=by
 unfold rS jZ
 repeat (first|exact Le.rfl|refine aBn _ _ _|refine aBC _ _ _ _|refine Le.bind ?_ fun _=>?_|refine Le.cond ?_ ?_|refine Le.lp fun _=>?_|refine Le.fl (fun _ _=>?_) _ _|refine Le.elim (fun _=>?_) fun _=>?_)
end
noncomputable section
def sG (s:List Sc) (v:Nat):Sc:=s[v]?.getD ⟨0,[]⟩
def spB (r:Rp) (s:List Sc) (v:Nat):Bool:=nI r.p (sG s v).size (sG s v).basis &&decide ((sG s v).size=r.dims[v]?.getD 0)
def imB (r:Rp) (s:List Sc) (i:Nat):Bool:=inV r.p (dN r (tV r i)) (fS r.p (dN r (tV r i)) (imL r.p (dN r (tV r i)) (dN r (sV r i)) (aF r i) (sG s (sV r i)).basis)) (sG s (tV r i)).basis
def aCi (r:Rp) (s:List Sc):Bool:=aDP r&&(decide ((s.length:Int)=(r.dims.length:Int))&&((List.range s.length).all (spB r s)&&(List.range r.maps.length).all (imB r s)))
structure SpV (r:Rp) (s:List Sc) (v:Nat):Prop where
 size:(sG s v).size=(dN r v:Int)
 ok:nI r.p (dN r v) (sG s v).basis=true
 len:(sG s v).basis.length ≤dN r v
 vecs:VecsP r.p (dN r v) (sG s v).basis
 span:fS r.p (dN r v) (sG s v).basis=(sG s v).basis
theorem aLf {r:Rp} (R:Rv r) {s:List Sc} {v:Nat} (hv:v<r.dims.length) (h:spB r s v=true):SpV r s v:=by
 unfold spB at h
 simp only [Bool.and_eq_true,decide_eq_true_eq] at h
 obtain ⟨h1,h2⟩:=h
 rw [(R.d v hv).1] at h2
 rw [h2] at h1
 obtain ⟨_,n,e,_,h3,h4,h5⟩:=zZ h1
 have e:dN r v=n:=by omega
 subst e
 exact ⟨h2,h1,h3,h4,h5⟩
theorem aLg {r:Rp} {s:List Sc} (h:aCi r s=true):Rv r∧s.length=r.dims.length∧(∀ v,v<r.dims.length→SpV r s v):=by
 unfold aCi at h
 simp only [Bool.and_eq_true,decide_eq_true_eq] at h
 obtain ⟨h1,h2,h3,_⟩:=h
 have R:=aKP h1
 refine ⟨R,by omega,fun v hv=>aLf R hv ?_⟩
 exact List.all_eq_true.1 h3 v (List.mem_range.2 (by omega))
theorem aNT {r:Rp} (hr:bR r) {s:List Sc} (hs:s.length≤1048576∧ ∀ x∈s,bS x):wJ r s=some (aCi r s):=by
 unfold wJ aCi
 rw [aIF hr,Option.bind_some]
 refine gI fun hR=>?_
 have R:=aKP hR
 refine gI fun hL=>?_
 have hL:=of_decide_eq_true hL
 have hL:s.length=r.dims.length:=by omega
 rw [tD (spB r s) false (n:=s.length) (by omega) (fun k hk=>?_) (fun _=>?_),Option.bind_some]
 ·cases hA:(List.range s.length).all (spB r s) with
  |false=>rfl
  |true=>
   have hV: ∀ v,v<r.dims.length→SpV r s v:=fun v hv=>aLf R hv (List.all_eq_true.1 hA v (List.mem_range.2 (by omega)))
   simp only [cond_true,Sum.elim_inl,Bool.true_and]
   rw [tD (imB r s) false (n:=r.maps.length) (by have:=R.e6;have:=R.ml;omega) (fun i hi=>?_) (fun _=>?_),Option.bind_some]
   ·cases (List.range r.maps.length).all (imB r s) <;> rfl
   ·have hi':i<r.q.src.length:=by have:=R.ml;omega
    have S1:=hV _ (R.s i hi').2
    have S2:=hV _ (R.t i hi').2
    have d1:=(R.d _ (R.s i hi').2).2
    have d2:=(R.d _ (R.t i hi').2).2
    have hM:=R.m i hi'
    unfold rK
    rw [kM hi,cond_true,pO ⟨0,0,[]⟩ hi,Option.bind_some,pO 0 hi',Option.bind_some,(R.s i hi').1,pO ⟨0,[]⟩ (by have:=(R.s i hi').2;omega),Option.bind_some,hM.1]
    have e1:=aNS R.hp (r:=dN r (tV r i)) (c:=dN r (sV r i)) (by omega) (by omega) hM.2 (z:=(sG s (sV r i)).size) (by have:=S1.len;omega) S1.vecs
    rw [show (s[sV r i]?.getD ⟨0,[]⟩:Sc)=⟨(sG s (sV r i)).size,(sG s (sV r i)).basis⟩ from rfl,e1,Option.bind_some,pO 0 (by have:=R.tl;omega),Option.bind_some,(R.t i hi').1,pO ⟨0,[]⟩ (by have:=(R.t i hi').2;omega),Option.bind_some]
    have hv1:=aEA R.hp (aFt R.hp (dN r (tV r i)) (dN r (sV r i)) (aF r i) (sG s (sV r i)).basis).inP
    rw [show (s[tV r i]?.getD ⟨0,[]⟩:Sc)=⟨(sG s (tV r i)).size,(sG s (tV r i)).basis⟩ from rfl,aLe R.hp (by omega) hv1 (by have:=(@aAc r.p (dN r (tV r i)) (imL r.p (dN r (tV r i)) (dN r (sV r i)) (aF r i) (sG s (sV r i)).basis)).1;omega) S2.vecs S2.span,Option.bind_some]
    show _=some (bif imB r s i then _ else _)
    unfold imB
    cases inV r.p _ _ _ <;> rfl
   ·unfold rK
    rw [oN (Nat.le_refl _),cond_false]
 ·unfold rJ
  rw [kM hk,cond_true,pO ⟨0,[]⟩ hk,Option.bind_some,aHU _ (hs.2 _ (dJ _ hk)),Option.bind_some,pO 0 (by omega),Option.bind_some]
  unfold spB sG
  cases nI r.p _ _ <;> cases decide ((s[k]?.getD ⟨0,[]⟩).size=r.dims[k]?.getD 0) <;> rfl
 ·unfold rJ
  rw [oN (Nat.le_refl _),cond_false]
theorem aPB {p:Int} (hp:kV p=true) {r c:Nat} (hr:r≤8) (hc:c≤8) {F:Nat→Nat→Int} (hF:zY p r c F):aBa p ⟨r,c,dF r c F⟩=true:=by
 have hb:=gC hp
 have h:=Nat.mul_le_mul hr hc
 unfold aBa
 simp only [gX]
 rw [wS (by omega) (by omega),wS (by omega) (by omega),aJw (by omega),decide_eq_true (by omega),hp,decide_eq_true (by omega)]
 simp only [Bool.true_and,List.all_eq_true]
 intro x hx
 obtain ⟨t,ht,rfl⟩:=List.mem_map.1 hx
 have ht:=List.mem_range.1 ht
 have hc0:0<c:=by
  rcases Nat.eq_zero_or_pos c with h0|h0
  ·subst h0;simp at ht
  ·exact h0
 have:=hF (t / c) (t % c) ((Nat.div_lt_iff_lt_mul hc0).2 ht) (Nat.mod_lt _ hc0)
 refine wS this.1 ?_
 rw [fA (by omega)]
 omega
theorem aIR {r:Rp} (hr:bR r) {s:List Sc} (hs:s.length≤1048576∧ ∀ x∈s,bS x):tW r s=some (aCi r s):=by
 unfold tW aCi
 rw [aIE hr,Option.bind_some]
 refine gI fun hR=>?_
 have R:=aKP hR
 refine gI fun hL=>?_
 have hL:=of_decide_eq_true hL
 have hL:s.length=r.dims.length:=by omega
 rw [tD (spB r s) false (n:=s.length) (by omega) (fun k hk=>?_) (fun _=>?_),Option.bind_some]
 ·cases hA:(List.range s.length).all (spB r s) with
  |false=>rfl
  |true=>
   have hV: ∀ v,v<r.dims.length→SpV r s v:=fun v hv=>aLf R hv (List.all_eq_true.1 hA v (List.mem_range.2 (by omega)))
   simp only [cond_true,Sum.elim_inl,Bool.true_and]
   rw [tD (imB r s) false (n:=r.maps.length) (by have:=R.e6;have:=R.ml;omega) (fun i hi=>?_) (fun _=>?_),Option.bind_some]
   ·cases (List.range r.maps.length).all (imB r s) <;> rfl
   ·have hi':i<r.q.src.length:=by have:=R.ml;omega
    have S1:=hV _ (R.s i hi').2
    have S2:=hV _ (R.t i hi').2
    have d1:=(R.d _ (R.s i hi').2).2
    have d2:=(R.d _ (R.t i hi').2).2
    have hM:=R.m i hi'
    unfold rN
    rw [kM hi,cond_true,pO ⟨0,0,[]⟩ hi,Option.bind_some,pO 0 hi',Option.bind_some,(R.s i hi').1,pO ⟨0,[]⟩ (by have:=(R.s i hi').2;omega),Option.bind_some,hM.1]
    have e1:=aKa R.hp (r:=dN r (tV r i)) (c:=dN r (sV r i)) (by omega) (by omega) (aPB R.hp (by omega) (by omega) hM.2) hM.2 S1.ok S1.vecs (by have:=S1.len;omega)
    have e2:(s[sV r i]?.getD ⟨0,[]⟩:Sc)=⟨(dN r (sV r i):Int),(sG s (sV r i)).basis⟩:=by rw [←S1.size];rfl
    rw [e2,e1,Option.bind_some,pO 0 (by have:=R.tl;omega),Option.bind_some,(R.t i hi').1,pO ⟨0,[]⟩ (by have:=(R.t i hi').2;omega),Option.bind_some]
    have e3:(s[tV r i]?.getD ⟨0,[]⟩:Sc)=⟨(dN r (tV r i):Int),(sG s (tV r i)).basis⟩:=by rw [←S2.size];rfl
    rw [e3,aJU R.hp (by omega) (aLD R.hp (by omega) (aFt R.hp _ _ _ _)) S2.ok,Option.bind_some]
    show _=some (bif imB r s i then _ else _)
    unfold imB
    cases inV r.p _ _ _ <;> rfl
   ·unfold rN
    rw [oN (Nat.le_refl _),cond_false]
 ·unfold rM
  rw [kM hk,cond_true,pO ⟨0,[]⟩ hk,Option.bind_some,vC _ (hs.2 _ (dJ _ hk)),Option.bind_some,Option.bind_some,pO 0 (by omega),Option.bind_some]
  unfold spB sG
  cases nI r.p _ _ <;> cases decide ((s[k]?.getD ⟨0,[]⟩).size=r.dims[k]?.getD 0) <;> rfl
 ·unfold rM
  rw [oN (Nat.le_refl _),cond_false]
def qM (r:Rp):Bool:=aDP r&&(decide (r.p≤3)&&((r.dims.all fun x=>nP x 0 2)&&decide (r.dims.sum≤5)))
theorem aHB {r:Rp} (h:aDP r=true):(∀ x∈r.dims,0≤x∧x≤4)∧r.dims.length≤5:=by
 have R:=aKP h
 refine ⟨fun x hx=>?_,R.n5⟩
 obtain ⟨k,hk,rfl⟩:=List.mem_iff_getElem.1 hx
 have:=R.d k hk
 simp only [List.getElem?_eq_getElem hk,Option.getD_some] at this
 omega
theorem aIS {r:Rp} (hr:bR r):oZ r=some (qM r):=by
 unfold oZ qM
 rw [aIF hr,Option.bind_some]
 refine fU fun hR=>fU fun hp=>?_
 obtain ⟨h1,h2⟩:=aHB hR
 rw [oV (by unfold bI;omega),Option.bind_some]
 refine fU fun hd=>?_
 rw [aMR h1 (by omega),Option.bind_some]
theorem aDk {d:List Int} (h: ∀ x∈d,0≤x∧x≤100) (hl:d.length≤1048576): ∀ k,k≤d.length→0≤(d.take k).sum∧(d.take k).sum ≤100*k
 |0,_=>by simp
 |k+1,hk=>by
  have ih:=aDk h hl k (by omega)
  have:=h _ (dJ 0 (show k<d.length by omega))
  rw [tQ (by omega)]
  omega
theorem aIT {r:Rp} (hr:bR r):pA r=some (bif aDP r then r.dims.sum else -1):=by
 unfold pA
 rw [aIE hr,Option.bind_some]
 cases hR:aDP r with
 |false=>rfl
 |true=>
  obtain ⟨h1,h2⟩:=aHB hR
  have hs:=aDk (d:=r.dims) (fun x hx=>by have:=h1 x hx;omega) (by omega)
  simp only [Bool.not_true,cond_false,cond_true]
  rw [eZ (r:=r.dims.sum) (fun k=>((r.dims.take k).sum,(k:Int))) r.dims.length (by simp) (fun k hk=>?_) (fun _=>?_),Option.bind_some]
  ·unfold oA
   simp only
   have:=hs k (by omega)
   have:=hs (k+1) (by omega)
   rw [tQ hk] at this
   rw [kM hk,cond_true,pO 0 hk,Option.bind_some,fA (by omega),dE hk (by omega),tQ hk]
  ·unfold oA
   simp only
   rw [oN (Nat.le_refl _),cond_false,List.take_length]
theorem aIU {r:Rp} (hr:bR r):pB r=some (qM r):=by
 unfold pB qM
 rw [aIT hr,Option.bind_some,rW,Option.bind_some]
 cases hR:aDP r with
 |false=>rfl
 |true=>
  obtain ⟨h1,h2⟩:=aHB hR
  have hs:=aLT h1
  simp only [cond_true,Bool.true_and]
  have e1:nP r.dims.sum 0 5=decide (r.dims.sum≤5):=by
   by_cases h:r.dims.sum≤5
   ·rw [decide_eq_true h];exact wS (by omega) h
   ·rw [decide_eq_false h];unfold nP;exact decide_eq_false (by omega)
  rw [e1]
  have e2:decide (3<r.p)= !decide (r.p≤3):=by
   by_cases h:r.p≤3
   ·rw [decide_eq_true h,decide_eq_false (by omega)];rfl
   ·rw [decide_eq_false h,decide_eq_true (by omega)];rfl
  rw [e2]
  rw [tD (fun k=>decide (r.dims[k]?.getD 0≤2)) false (n:=r.dims.length) (by omega) (fun k hk=>?_) (fun _=>?_),Option.bind_some]
  ·have e3:(List.range r.dims.length).all (fun k=>decide (r.dims[k]?.getD 0≤2))=r.dims.all fun x=>nP x 0 2:=by
    rw [pP 0 r.dims (fun x=>decide (x≤2))]
    exact aPj fun x hx=>by
     have:=h1 x hx
     by_cases h:x≤2
     ·rw [decide_eq_true h];exact (wS (by omega) h).symm
     ·rw [decide_eq_false h];unfold nP;exact (decide_eq_false (by omega)).symm
   rw [e3]
   cases decide (r.dims.sum≤5) <;> cases decide (r.p≤3) <;> cases (r.dims.all fun x=>nP x 0 2) <;> rfl
  ·unfold oB
   rw [kM hk,cond_true,pO 0 hk,Option.bind_some]
   by_cases h:r.dims[k]?.getD 0≤2
   ·rw [decide_eq_true h,decide_eq_false (by omega)];rfl
   ·rw [decide_eq_false h,decide_eq_true (by omega)];rfl
  ·unfold oB
   rw [oN (Nat.le_refl _),cond_false]
structure Sm (r:Rp):Prop where
 R:Rv r
 p:r.p=2∨r.p=3
 d: ∀ v,v<r.dims.length→dN r v≤2
 s:r.dims.sum≤5
theorem aIV {r:Rp} (h:qM r=true):Sm r:=by
 unfold qM at h
 simp only [Bool.and_eq_true,decide_eq_true_eq] at h
 obtain ⟨h1,h2,h3,h4⟩:=h
 have R:=aKP h1
 refine ⟨R,by have:=wT R.hp;omega,fun v hv=>?_,h4⟩
 have:=gN (List.all_eq_true.1 h3 _ (dJ 0 hv))
 rw [(R.d v hv).1] at this
 omega
def spT:Nat→Nat→Nat→List Sc
 |_,n,0=>[⟨n,[]⟩]
 |_,1,1=>[⟨1,[[1]]⟩]
 |2,2,1=>[⟨2,[[0,1]]⟩,⟨2,[[1,0]]⟩,⟨2,[[1,1]]⟩]
 |3,2,1=>[⟨2,[[0,1]]⟩,⟨2,[[1,0]]⟩,⟨2,[[1,1]]⟩,⟨2,[[1,2]]⟩]
 |_,2,2=>[⟨2,[[1,0],[0,1]]⟩]
 |_,_,_=>[]
theorem aNU: ∀ p,p<2→ ∀ n,n<3→ ∀ k,k<n+1→rR ((p+2:Nat):Int) (n:Nat) (k:Nat)=some (spT (p+2) n k):=by decide+kernel
theorem aPD (p:Nat) (h1:p<4) (h2:2≤p): ∀ n,n<3→ ∀ k,k<n+1→rR (p:Nat) (n:Nat) (k:Nat)=some (spT p n k):=by
 have:=aNU (p - 2) (by omega)
 rwa [show p - 2+2=p by omega] at this
instance:DecidableEq (Option (List Sc×Bool)):=inferInstance
theorem aNV: ∀ p,p<2→ ∀ n,n<3→ ∀ k,k<n+1→rS ((p+2:Nat):Int) (n:Nat) (k:Nat)=some (spT (p+2) n k,true):=by decide+kernel
theorem aPE (p:Nat) (h1:p<4) (h2:2≤p): ∀ n,n<3→ ∀ k,k<n+1→rS (p:Nat) (n:Nat) (k:Nat)=some (spT p n k,true):=by
 have:=aNV (p - 2) (by omega)
 rwa [show p - 2+2=p by omega] at this
def spI (p n:Nat) (k:Int):List Sc:=bif nP k 0 n then spT p n k.toNat else []
theorem aLh {p n:Nat} {k:Int} (hp:p=2∨p=3) (hn:n≤2) (hk:nP k 0 n=true):jY p n k=some (spI p n k):=by
 have h:=gN hk
 have e:=aEZ _ _ _ _ (aPD p (by omega) (by omega) n (by omega) k.toNat (by omega))
 rw [show ((k.toNat:Nat):Int)=k by omega] at e
 rw [e]
 unfold spI
 rw [hk]
 rfl
theorem aLi {p n:Nat} {k:Int} (hp:p=2∨p=3) (hn:n≤2): ∃ b,jZ p n k=some (spI p n k,b):=by
 cases hk:nP k 0 n with
 |true=>
  have h:=gN hk
  have e:=aEd _ _ _ _ (aPE p (by omega) (by omega) n (by omega) k.toNat (by omega))
  rw [show ((k.toNat:Nat):Int)=k by omega] at e
  refine ⟨true,?_⟩
  rw [e]
  unfold spI
  rw [hk]
  rfl
 |false=>
  refine ⟨false,?_⟩
  unfold jZ jE spI
  rw [aDO,Option.bind_some,aQM (by omega)]
  simp only [Bool.not_true,cond_false]
  rw [rW,Option.bind_some,wS (by omega) (by omega)]
  simp only [Bool.not_true,cond_false]
  rw [rW,Option.bind_some,hk]
  rfl
def aLj (p n:Nat) (x:Sc):Bool:=decide (x.basis.length≤2)&&(x.basis.all fun v=>decide (v.length≤2))&&nI p n x.basis&&decide (x.size=n)
theorem aNW: ∀ p,p<2→ ∀ n,n<3→ ∀ k,k<n+1→((spT (p+2) n k).all (fun x=>decide (x.basis.length=k)&&aLj (p+2) n x)&&decide (1≤(spT (p+2) n k).length)&&decide ((spT (p+2) n k).length ≤4))=true:=by decide+kernel
theorem aKc (p:Nat) (h1:p<4) (h2:2≤p): ∀ n,n<3→ ∀ k,k<n+1→((spT p n k).all (fun x=>decide (x.basis.length=k)&&aLj p n x)&&decide (1≤(spT p n k).length)&&decide ((spT p n k).length ≤4))=true:=by
 have:=aNW (p - 2) (by omega)
 rwa [show p - 2+2=p by omega] at this
theorem aMd {p n:Nat} {k:Int} (hp:p=2∨p=3) (hn:n≤2) {x:Sc} (hx:x∈spI p n k):bS x∧(x.basis.length:Int)=k∧nI p n x.basis=true∧x.size=n:=by
 unfold spI at hx
 cases hk:nP k 0 n with
 |false=>rw [hk] at hx;simp at hx
 |true=>
  rw [hk] at hx
  have h:=gN hk
  have:=aKc p (by omega) (by omega) n (by omega) k.toNat (by omega)
  simp only [Bool.and_eq_true,List.all_eq_true,decide_eq_true_eq] at this
  have h2:=this.1.1 x hx
  unfold aLj at h2
  simp only [Bool.and_eq_true,List.all_eq_true,decide_eq_true_eq] at h2
  obtain ⟨a,⟨⟨b,c⟩,d⟩,e⟩:=h2
  refine ⟨⟨⟨by omega,fun v hv=>?_⟩,trivial⟩,by omega,d,e⟩
  have:=c v hv
  unfold bI
  omega
theorem aJV {p n:Nat} {k:Int} (hp:p=2∨p=3) (hn:n≤2):(spI p n k).length ≤4∧(nP k 0 n=true→1≤(spI p n k).length):=by
 unfold spI
 cases hk:nP k 0 n with
 |false=>simp
 |true=>
  have h:=gN hk
  have:=aKc p (by omega) (by omega) n (by omega) k.toNat (by omega)
  simp only [Bool.and_eq_true,List.all_eq_true,decide_eq_true_eq] at this
  exact ⟨this.2,fun _=>this.1.2⟩
end
noncomputable section
def jI {α:Type} :List (List α)→List (List α)
 | []=>[[]]
 |c::cs=>c.flatMap fun x=>(jI cs).map (x:: ·)
theorem aIW {α:Type} (c:List α): ∀ cs:List (List α),jI (cs++[c])=(jI cs).flatMap fun s=>c.map fun x=>s++[x]
 | []=>by
  simp only [List.nil_append,jI,List.flatMap_cons,List.flatMap_nil,List.append_nil,List.map_cons,List.map_nil]
  induction c with
  |nil=>rfl
  |cons x c ih=>rw [List.flatMap_cons,ih];rfl
 |d::cs=>by
  simp only [List.cons_append,jI]
  rw [aIW c cs,List.flatMap_assoc]
  congr 1
  funext x
  rw [List.map_flatMap,List.flatMap_map]
  congr 1
  funext s
  simp
theorem aHC {α:Type} {b:Nat} : ∀ {cs:List (List α)},(∀ c∈cs,c.length≤b)→(jI cs).length ≤b ^ cs.length
 | [],_=>by simp [jI]
 |c::cs,h=>by
  simp only [jI,List.length_cons,Nat.pow_succ]
  have ih:=aHC (cs:=cs) fun d hd=>h d (by simp [hd])
  have key: ∀ c:List α,(c.flatMap fun x=>(jI cs).map (x:: ·)).length=c.length*(jI cs).length:=by
   intro c
   induction c with
   |nil=>simp
   |cons x c ih=>rw [List.flatMap_cons,List.length_append,ih,List.length_map,List.length_cons,Nat.succ_mul,Nat.add_comm]
  rw [key,Nat.mul_comm]
  exact Nat.mul_le_mul ih (h c (by simp))
theorem aHD {α β γ:Type} (h:α→β→γ) (l:List β): ∀ xs:List α,(xs.flatMap fun s=>l.map (h s)).length=xs.length*l.length
 | []=>by simp
 |x::xs=>by rw [List.flatMap_cons,List.length_append,aHD h l xs,List.length_map,List.length_cons,Nat.succ_mul,Nat.add_comm]
theorem aHE {α:Type} : ∀ {cs:List (List α)} {s:List α},s∈jI cs→s.length=cs.length∧ ∀ v (d:α),v<cs.length→s[v]?.getD d∈cs[v]?.getD []
 | [],s,h=>by simp [jI] at h;subst h;simp
 |c::cs,s,h=>by
  simp only [jI,List.mem_flatMap,List.mem_map] at h
  obtain ⟨x,hx,t,ht,rfl⟩:=h
  obtain ⟨h1,h2⟩:=aHE ht
  refine ⟨by simp [h1],fun v d hv=>?_⟩
  cases v with
  |zero=>simpa using hx
  |succ v=>simpa using h2 v d (by simpa using hv)
theorem aKd {α:Type} : ∀ {cs:List (List α)},[]∈cs→jI cs=[]
 |c::cs,h=>by
  rcases List.mem_cons.1 h with h|h
  ·subst h;rfl
  ·simp [jI,aKd h]
def xM (cs:List (List Sc)) (x:List Int):List Sc:=(List.range cs.length).map fun v=>((cs[v]?.getD [])[(x[v]?.getD 0).toNat]?).getD ⟨0,[]⟩
theorem aNX (c:List Sc) (cs:List (List Sc)) (i:Int) (x:List Int):xM (c::cs) (i::x)=(c[i.toNat]?).getD ⟨0,[]⟩::xM cs x:=by
 unfold xM
 rw [List.length_cons,List.range_succ_eq_map,List.map_cons,List.map_map]
 rfl
theorem aLk {α:Type} (d:α) (l:List α):(List.range l.length).map (fun i=>l[i]?.getD d)=l:=by
 refine List.ext_getElem (by simp) fun i h1 h2=>?_
 simp [h2]
theorem aHF: ∀ {cs:List (List Sc)},(∀ c∈cs,1≤c.length)→(dH (cs.map fun c=>(c.length:Int) - 1)).map (xM cs)=jI cs
 | [],_=>rfl
 |c::cs,h=>by
  have ih:=aHF (cs:=cs) fun d hd=>h d (by simp [hd])
  have hc:=h c (by simp)
  simp only [List.map_cons,dH,jI]
  rw [show ((c.length:Int) - 1).toNat +1=c.length by omega,List.map_flatMap,←ih]
  have e: ∀ i:Nat,((dH (cs.map fun c=>(c.length:Int) - 1)).map fun x=>(i:Int)::x).map (xM (c::cs))=(fun y:Sc=>((dH (cs.map fun c=>(c.length:Int) - 1)).map (xM cs)).map (y:: ·)) (c[i]?.getD ⟨0,[]⟩):=by
   intro i
   simp only [List.map_map]
   refine List.map_congr_left fun x _=>?_
   simp only [Function.comp_apply]
   rw [aNX]
   rfl
  simp only [e]
  conv=>rhs;rw [←aLk ⟨0,[]⟩ c,List.flatMap_map]
def xN (r:Rp) (d:List Int):List (List Sc):=(List.range r.dims.length).map fun v=>spI r.p.toNat (dN r v) (d[v]?.getD 0)
def aAS (r:Rp) (d:List Int):List (List Sc):=(jI (xN r d)).filter (aCi r)
theorem aPF {r:Rp} {d:List Int} {v:Nat} (hv:v<r.dims.length):(xN r d)[v]?.getD []=spI r.p.toNat (dN r v) (d[v]?.getD 0):=by simp [xN,hv]
theorem qN (r:Rp) (d:List Int):(xN r d).length=r.dims.length:=by simp [xN]
theorem aLl {r:Rp} (S:Sm r):r.p.toNat=2∨r.p.toNat=3:=by have:=S.p;omega
theorem aDl {r:Rp} (S:Sm r) {d:List Int} : ∀ c∈xN r d,c.length≤4:=by
 intro c hc
 obtain ⟨v,hv,rfl⟩:=List.mem_map.1 hc
 exact (aJV (aLl S) (S.d v (List.mem_range.1 hv))).1
theorem aIX {r:Rp} (S:Sm r) (n:Nat) (h:n≤r.dims.length):4 ^ n≤1024:=by
 have:=S.R.n5
 exact Nat.le_trans (Nat.pow_le_pow_right (by omega) (show n≤5 by omega)) (by decide)
theorem aCj {r:Rp} (S:Sm r) {d:List Int} :(jI (xN r d)).length ≤1024:=by
 have:=aHC (aDl S (d:=d))
 rw [qN] at this
 exact Nat.le_trans this (aIX S _ (Nat.le_refl _))
theorem aJW {r:Rp} (S:Sm r) {d:List Int} {s:List Sc} (hs:s∈jI (xN r d)):s.length=r.dims.length∧(∀ x∈s,bS x)∧ ∀ v,v<r.dims.length→(sG s v).basis.length=d[v]?.getD 0∧nI r.p (dN r v) (sG s v).basis=true∧(sG s v).size=(dN r v:Int):=by
 obtain ⟨h1,h2⟩:=aHE hs
 rw [qN] at h1 h2
 have h3: ∀ v,v<r.dims.length→sG s v∈spI r.p.toNat (dN r v) (d[v]?.getD 0):=fun v hv=>by have:=h2 v ⟨0,[]⟩ hv;rwa [aPF hv] at this
 refine ⟨h1,fun x hx=>?_,fun v hv=>?_⟩
 ·obtain ⟨v,hv,rfl⟩:=List.mem_iff_getElem.1 hx
  have:=h3 v (by omega)
  unfold sG at this
  rw [List.getElem?_eq_getElem hv,Option.getD_some] at this
  exact (aMd (aLl S) (S.d v (by omega)) this).1
 ·obtain ⟨_,e1,e2,e3⟩:=aMd (aLl S) (S.d v hv) (h3 v hv)
  have:=S.p
  rw [show ((r.p.toNat:Nat):Int)=r.p by omega] at e2
  exact ⟨e1,e2,e3⟩
theorem aIY {n:Nat} (P:Nat→Bool):(∀ k,k<n→P k=true)∨ ∃ k,k<n∧P k=false∧ ∀ j,j<k→P j=true:=by
 induction n with
 |zero=>exact .inl fun k hk=>absurd hk (Nat.not_lt_zero _)
 |succ n ih=>
  rcases ih with h|⟨k,h1,h2,h3⟩
  ·cases hp:P n with
   |true=>
    refine .inl fun k hk=>?_
    rcases Nat.lt_or_eq_of_le (Nat.lt_succ_iff.1 hk) with h'|h'
    ·exact h k h'
    ·rw [h'];exact hp
   |false=>exact .inr ⟨n,Nat.lt_succ_self _,hp,h⟩
  ·exact .inr ⟨k,by omega,h2,h3⟩
theorem aMe {α β ρ:Type} {f:α→List β→Option (List β ⊕ ρ)} (p:β→Bool) (g:α→β): ∀ (l:List α) (acc:List β),acc.length+l.length≤4000000→(∀ x∈l,∀ acc:List β,acc.length≤4000000→f x acc=some (.inl (if p (g x)=true then acc++[g x] else acc)))→Fl f l acc=some (.inl (acc++(l.map g).filter p))
 | [],acc,_,_=>by simp [Fl]
 |x::l,acc,hl,h=>by
  rw [List.length_cons] at hl
  have h1:=h x (by simp) acc (by omega)
  simp only [Fl,h1]
  rw [aMe p g l _ (by split <;> (try simp only [List.length_append,List.length_cons,List.length_nil]) <;> omega) fun y hy=>h y (by simp [hy]),List.map_cons,List.filter_cons]
  cases p (g x) <;> simp
theorem aPG {x:Sc} (h:bS x):mT x=some x:=by
 obtain ⟨⟨h1,h2⟩,_⟩:=h
 unfold mT
 rw [eZ (r:=x.basis) (fun k=>(x.basis.take k,(k:Int))) x.basis.length (by simp) (fun k hk=>?_) (fun _=>?_),Option.bind_some]
 ·unfold jQ tI
  simp only
  have:=h2 _ (dJ [] hk)
  unfold bI at this
  rw [kM hk,cond_true,pO [] hk,Option.bind_some,decide_eq_true this,cond_true,Option.bind_some,decide_eq_true (by rw [List.length_take];omega),cond_true,dE hk (by omega),List.getElem?_eq_getElem hk,Option.getD_some,List.take_succ_eq_append_getElem hk]
 ·unfold jQ
  simp only
  rw [oN (Nat.le_refl _),cond_false,List.take_length]
theorem aHG {r:Rp} (hr:bR r) (S:Sm r) {d:List Int} (hd:d.length=r.dims.length):nB r d=some (aAS r d):=by
 have h5:=S.R.n5
 have hsp: ∀ k,k<r.dims.length→nP (d[k]?.getD 0) 0 (r.dims[k]?.getD 0)=true→jY r.p (r.dims[k]?.getD 0) (d[k]?.getD 0)=some ((xN r d)[k]?.getD []):=by
  intro k hk hin
  rw [(S.R.d k hk).1] at hin ⊢
  have:=aLh (aLl S) (S.d k hk) hin
  have hp:=S.p
  rw [show ((r.p.toNat:Nat):Int)=r.p by omega] at this
  rw [this,aPF hk]
 let most:List Int:=(xN r d).map fun c=>(c.length:Int) - 1
 have step: ∀ k,k<r.dims.length→nP (d[k]?.getD 0) 0 (r.dims[k]?.getD 0)=true→gT r d ((xN r d).take k,most.take k,(k:Int))=some (.inl ((xN r d).take (k+1),most.take (k+1),((k+1:Nat):Int))):=by
  intro k hk hin
  have hk2:k<(xN r d).length:=by rw [qN];exact hk
  have hk3:k<most.length:=by simp [most,qN,hk]
  have hsm:=aDl S (d:=d) _ (dJ [] hk2)
  unfold gT
  simp only
  rw [kM hk,cond_true,pO 0 hk,Option.bind_some,pO 0 (show k<d.length by omega),Option.bind_some,vH,Option.bind_some,hin]
  simp only [Bool.not_true,cond_false,Option.bind_some]
  rw [hsp k hk hin,Option.bind_some,decide_eq_true (by rw [List.length_take];omega),cond_true,decide_eq_true (by rw [List.length_take];simp;omega),cond_true,dE hk (by omega)]
  rw [fA (by omega)]
  have e1:(xN r d).take k++[(xN r d)[k]?.getD []]=(xN r d).take (k+1):=by rw [List.getElem?_eq_getElem hk2,Option.getD_some,List.take_succ_eq_append_getElem hk2]
  have e2:most.take k++[(((xN r d)[k]?.getD []).length:Int) - 1]=most.take (k+1):=by
   rw [List.take_succ_eq_append_getElem hk3]
   simp [most,hk2]
  rw [e1,e2]
 unfold nB
 rcases aIY (n:=r.dims.length) (fun k=>nP (d[k]?.getD 0) 0 (r.dims[k]?.getD 0)) with hall|⟨k0,hk0,hbad,hgood⟩
 ·rw [eZ (r:= .inl (xN r d,most)) (fun k=>((xN r d).take k,most.take k,(k:Int))) r.dims.length (by simp) (fun k hk=>step k hk (hall k hk)) (fun _=>?_),Option.bind_some]
  ·simp only [Sum.elim_inl]
   have h1: ∀ c∈xN r d,1≤c.length:=by
    intro c hc
    obtain ⟨v,hv,rfl⟩:=List.mem_map.1 hc
    have hv:=List.mem_range.1 hv
    have:=hall v hv
    rw [(S.R.d v hv).1] at this
    exact (aJV (aLl S) (S.d v hv)).2 this
   have hmost:aBw most=true:=by
    unfold aBw
    rw [decide_eq_true (by simp [most,qN];omega),Bool.and_true,List.all_eq_true]
    intro m hm
    obtain ⟨c,hc,rfl⟩:=List.mem_map.1 hm
    have:=h1 c hc
    have:=aDl S c hc
    rw [decide_eq_true (by omega),decide_eq_true (by omega)]
    rfl
   rw [hmost,cond_true]
   have hbx:(dH most).map (xM (xN r d))=jI (xN r d):=aHF h1
   have hlen:(dH most).length ≤1024:=by
    have:=congrArg List.length hbx
    rw [List.length_map] at this
    rw [this];exact aCj S
   rw [aMe (aCi r) (xM (xN r d)) _ _ (by simp;omega) (fun x hx acc hacc=>?_),Option.bind_some]
   ·simp only [Sum.elim_inl,List.nil_append]
    rw [hbx]
    rfl
   ·have hxl:=mN hx
    have hml:most.length=r.dims.length:=by simp [most,qN]
    have hs:xM (xN r d) x∈jI (xN r d):=by rw [←hbx];exact List.mem_map.2 ⟨x,hx,rfl⟩
    obtain ⟨p1,p2,p3⟩:=aJW S hs
    have hg: ∀ k,k<r.dims.length→(((xN r d)[k]?.getD [])[(x[k]?.getD 0).toNat]?).getD ⟨0,[]⟩=(xM (xN r d) x)[k]?.getD ⟨0,[]⟩:=by
     intro k hk
     simp [xM,qN,hk]
    unfold rZ
    rw [eZ (r:=xM (xN r d) x) (fun k=>((xM (xN r d) x).take k,(k:Int))) r.dims.length (by simp) (fun k hk=>?_) (fun _=>?_),Option.bind_some]
    ·rw [aNT hr ⟨by omega,p2⟩,Option.bind_some]
     cases aCi r (xM (xN r d) x) with
     |false=>simp
     |true=>simp only [cond_true,if_true];rw [decide_eq_true (by omega),cond_true]
    ·have hxk:k<x.length:=by omega
     have hb:=aCQ hx k (x[k]?.getD 0) (most[k]?.getD 0) (by rw [List.getElem?_eq_getElem hxk];rfl) (by rw [List.getElem?_eq_getElem (by omega)];rfl)
     have hck:(xN r d)[k]?.getD []∈xN r d:=dJ [] (by rw [qN];exact hk)
     have hmk:most[k]?.getD 0=(((xN r d)[k]?.getD []).length:Int) - 1:=by simp [most,qN,hk]
     have hc1:=h1 _ hck
     have hin:(x[k]?.getD 0).toNat <((xN r d)[k]?.getD []).length:=by
      have:=hb.2 (by omega)
      omega
     unfold mU
     simp only
     rw [show ((most.length:Nat):Int)=(r.dims.length:Int) by rw [hml],kM hk,cond_true,pO 0 hxk,Option.bind_some,pO [] (by rw [qN];exact hk),Option.bind_some,atI ⟨0,[]⟩ hb.1 (by omega),Option.bind_some,hg k hk]
     have hpk:k<(xM (xN r d) x).length:=by omega
     rw [aPG (p2 _ (dJ _ hpk)),Option.bind_some,decide_eq_true (by rw [List.length_take];omega),cond_true,dE hk (by omega),List.getElem?_eq_getElem hpk,Option.getD_some,List.take_succ_eq_append_getElem hpk]
    ·unfold mU
     simp only
     rw [show ((most.length:Nat):Int)=(r.dims.length:Int) by rw [hml],oN (Nat.le_refl _),cond_false,List.take_of_length_le (by omega)]
  ·unfold gT
   simp only
   rw [oN (Nat.le_refl _),cond_false,List.take_of_length_le (by rw [qN];omega),List.take_of_length_le (by simp [most,qN])]
 ·rw [eZ (r:= .inr []) (fun k=>((xN r d).take k,most.take k,(k:Int))) k0 (by simp) (fun k hk=>step k (by omega) (hgood k hk)) (fun _=>?_),Option.bind_some]
  ·simp only [Sum.elim_inr]
   unfold aAS
   rw [aKd]
   ·rfl
   ·refine List.mem_map.2 ⟨k0,List.mem_range.2 hk0,?_⟩
    unfold spI
    rw [←(S.R.d k0 hk0).1,hbad]
    rfl
  ·unfold gT
   simp only
   rw [kM hk0,cond_true,pO 0 hk0,Option.bind_some,pO 0 (show k0<d.length by omega),Option.bind_some,vH,Option.bind_some,hbad]
   rfl
def aIZ (r:Rp) (d:List Int):List (List Sc)×Bool:=bif qM r&&decide (d.length=r.dims.length) then (aAS r d,true) else ([],false)
theorem aLm {r:Rp} (hr:bR r) {d:List Int} :vS r d=some (aIZ r d):=by
 unfold vS aIZ
 rw [aIS hr,Option.bind_some]
 cases hS:qM r with
 |false=>rfl
 |true=>
  simp only [Bool.not_true,cond_false,Bool.true_and]
  by_cases hd:d.length=r.dims.length
  ·rw [decide_eq_true (by omega),decide_eq_true hd]
   simp only [Bool.not_true,cond_false,cond_true]
   rw [aHG hr (aIV hS) hd,Option.bind_some]
  ·rw [decide_eq_false (by omega),decide_eq_false hd]
   rfl
theorem aLn {α β:Type} (f:α→List β) {l:List α} {k:Nat} (d:α) (h:k<l.length):(l.take k).flatMap f++f (l[k]?.getD d)=(l.take (k+1)).flatMap f:=by
 rw [List.take_succ_eq_append_getElem h,List.flatMap_append,List.getElem?_eq_getElem h]
 simp
theorem aKe {α:Type} (p:α→Bool) {l:List α} {k:Nat} (d:α) (h:k<l.length):(if p (l[k]?.getD d)=true then (l.take k).filter p++[l[k]?.getD d] else (l.take k).filter p)=(l.take (k+1)).filter p:=by
 rw [List.take_succ_eq_append_getElem h,List.filter_append,List.getElem?_eq_getElem h,Option.getD_some]
 cases hp:p l[k] <;> simp [hp]
theorem aPz {l:List Sc} {b:Bool} {x:List (List Sc)} {z:Int} (hl:l.length≤4) (hx:x.length≤1024) (hs: ∀ s∈x,s.length≤5):Lp (jF (l,b) (x,z)) ([],0)=some (x.flatMap fun s=>l.map fun y=>s++[y]):=by
 have hfl: ∀ k,k≤x.length→((x.take k).flatMap fun s=>l.map fun y=>s++[y]).length ≤4096:=fun k hk=>by
  rw [aHD (fun s y=>s++[y]),List.length_take]
  have:=Nat.mul_le_mul (show min k x.length≤1024 by omega) hl
  omega
 rw [eZ (r:=x.flatMap fun s=>l.map fun y=>s++[y]) (fun k=>((x.take k).flatMap (fun s=>l.map fun y=>s++[y]),(k:Int))) x.length (by simp) (fun k hk=>?_) (fun _=>?_)]
 ·have hsk:=hs _ (dJ [] hk)
  have hf:=hfl k (by omega)
  unfold jF
  simp only
  rw [kM hk,cond_true]
  rw [eZ (r:=((x.take k).flatMap fun s=>l.map fun y=>s++[y])++l.map fun y=>x[k]?.getD []++[y]) (fun j=>(((x.take k).flatMap fun s=>l.map fun y=>s++[y])++(l.take j).map (fun y=>x[k]?.getD []++[y]),(j:Int))) l.length (by simp) (fun j hj=>?_) (fun _=>?_),Option.bind_some]
  ·rw [dE hk (by omega),aLn (fun s=>l.map fun y=>s++[y]) [] hk]
  ·unfold mW
   simp only [List.nil_append,List.length_nil,Nat.zero_add]
   rw [kM hj,cond_true,pO [] hk,Option.bind_some,decide_eq_true (by omega),cond_true,pO ⟨0,[]⟩ hj,Option.bind_some,decide_eq_true (by omega),cond_true,decide_eq_true (by rw [List.length_append,List.length_map,List.length_take];omega),cond_true,dE hj (by omega),List.append_assoc,zJ (fun y=>x[k]?.getD []++[y]) ⟨0,[]⟩ hj]
  ·unfold mW
   simp only
   rw [oN (Nat.le_refl _),cond_false,List.take_length]
 ·unfold jF
  simp only
  rw [oN (Nat.le_refl _),cond_false,List.take_length]
theorem aFF {r:Rp} (hr:bR r) {d:List Int} :nC r d=some (aIZ r d):=by
 unfold nC aIZ
 rw [aIU hr,Option.bind_some]
 cases hS:qM r with
 |false=>rfl
 |true=>
  have S:=aIV hS
  have h5:=S.R.n5
  simp only [Bool.not_true,cond_false,Bool.true_and]
  by_cases hd:d.length=r.dims.length
  ·rw [decide_eq_true (by omega),decide_eq_true hd]
   simp only [Bool.not_true,cond_false,cond_true]
   have htk: ∀ k,k≤r.dims.length→(jI ((xN r d).take k)).length ≤1024∧ ∀ s∈jI ((xN r d).take k),s.length≤5:=by
    intro k hk
    have h1:=aHC (b:=4) (cs:=(xN r d).take k) fun c hc=>aDl S c (List.mem_of_mem_take hc)
    rw [List.length_take,qN] at h1
    refine ⟨Nat.le_trans h1 (aIX S _ (by omega)),fun s hs=>?_⟩
    have:=(aHE hs).1
    rw [List.length_take,qN] at this
    omega
   rw [eZ (r:=jI (xN r d)) (fun k=>(jI ((xN r d).take k),(k:Int))) r.dims.length (by simp [jI]) (fun k hk=>?_) (fun _=>?_),Option.bind_some]
   ·have hps:=aCj S (d:=d)
    rw [eZ (r:=aAS r d) (fun k=>(((jI (xN r d)).take k).filter (aCi r),(k:Int))) (jI (xN r d)).length (by simp) (fun k hk=>?_) (fun _=>?_),Option.bind_some]
    ·obtain ⟨p1,p2, -⟩:=aJW S (dJ [] hk)
     have hfl:=List.length_filter_le (aCi r) ((jI (xN r d)).take k)
     rw [List.length_take] at hfl
     have e:=aKe (aCi r) [] hk
     unfold mY
     simp only
     rw [kM hk,cond_true,pO [] hk,Option.bind_some,aIR hr ⟨by omega,p2⟩,Option.bind_some,dE hk (by omega),←e]
     cases aCi r ((jI (xN r d))[k]?.getD []) with
     |false=>simp
     |true=>simp only [cond_true,if_true,Option.bind_some];rw [decide_eq_true (by omega),cond_true]
    ·unfold mY
     simp only
     rw [oN (Nat.le_refl _),cond_false,List.take_length]
     rfl
   ·obtain ⟨t1,t2⟩:=htk k (by omega)
    have hkc:k<(xN r d).length:=by rw [qN];exact hk
    have hp:=S.p
    obtain ⟨b,hb⟩:=aLi (k:=d[k]?.getD 0) (aLl S) (S.d k hk)
    rw [show ((r.p.toNat:Nat):Int)=r.p by omega,←(S.R.d k hk).1] at hb
    unfold mX
    simp only
    rw [kM (show k<d.length by omega),cond_true,pO 0 hk,Option.bind_some,pO 0 (show k<d.length by omega),Option.bind_some,hb,Option.bind_some,aPz (aJV (aLl S) (S.d k hk)).1 t1 t2,Option.bind_some,dE hk (by omega),←aIW]
    congr 4
    rw [List.take_succ_eq_append_getElem hkc]
    congr 2
    simp [xN]
   ·unfold mX
    simp only
    rw [show (d.length:Int)=(r.dims.length:Int) by rw [hd],oN (Nat.le_refl _),cond_false,List.take_of_length_le (by rw [qN];omega)]
  ·rw [decide_eq_false (by omega),decide_eq_false hd]
   rfl
theorem aKf {r:Rp} (hr:bR r) {d:List Int} : ∃ z,uQ r d=some z∧uS r d=some z:=by
 unfold uQ uS
 rw [aLm hr,aFF hr]
 simp only [Option.bind_some]
 cases (aIZ r d).2
 ·exact ⟨_,rfl,rfl⟩
 ·exact ⟨_,rfl,rfl⟩
end
noncomputable section
set_option maxRecDepth 10000
set_option maxHeartbeats 4000000
def sX (a0:Rp) (a1:(List Int)):Option Bool:=
 bif decide (1048576<(a1.length:Int)) then
 (some (true))
 else
 (Option.bind (wD a0 1048576) fun v2=>
 bif decide (v2<0) then
 (some (true))
 else
 (Option.bind (iN a0) fun v4=>
 Option.bind (fC a1) fun v5=>
 Option.bind (uS v4 v5) fun v6=>
 Option.bind (iN a0) fun v7=>
 Option.bind (fC a1) fun v8=>
 Option.bind (uQ v7 v8) fun v9=>
 bif !decide (v9=v6) then
 (some (false))
 else
 (Option.bind (iN a0) fun v11=>
 Option.bind (tP v7 v11) fun v12=>
 bif !v12 then
 (some (false))
 else
 (Option.bind (fC a1) fun v14=>
 Option.bind (iR v8 v14) fun v15=>
 bif !v15 then
 (some (false))
 else
 (some (true))))))
def jJ (a0:Rp) (a1:(List Int)):Option Bool:=
 bif decide (1048576<(a1.length:Int)) then
 (some (true))
 else
 (Option.bind (wD a0 1048576) fun v2=>
 bif decide (v2<0) then
 (some (true))
 else
 (Option.bind (iN a0) fun v4=>
 Option.bind (fC a1) fun v5=>
 Option.bind (lG v4 v5) fun v6=>
 Option.bind (iN a0) fun v7=>
 Option.bind (fC a1) fun v8=>
 Option.bind (lF v7 v8) fun v9=>
 bif !(v9==v6) then
 (some (false))
 else
 (Option.bind (iN a0) fun v11=>
 Option.bind (tP v7 v11) fun v12=>
 bif !v12 then
 (some (false))
 else
 (Option.bind (fC a1) fun v14=>
 Option.bind (iR v8 v14) fun v15=>
 bif !v15 then
 (some (false))
 else
 (some (true))))))
theorem xO (a0:Rp) (a1:(List Int)) (r:Bool) (h:jJ a0 a1=some r):HasC Tryz.prog 5 [.agg (eR a0),.list 1 (List.map eI a1)] (.bl r):=by
 refine bK aA (rvs:=[.tmp 4]) (ns:=[0,1,2,3,4,5,6,7,8,9,10,11,12,13,14,15,16,17,18]) Tryz.func5 k k Tryz.ntmps5 k k k<|sQ<|rg<|ae (cC k k k k) k<|aa k k<|an<|tn<|sQ<|sQ<|rg ?_
 refine am k k<|ae (dG aA k k k) k<|ae (bC k k k) k<|an<|tn ?_
 rcases cb h with ⟨q1,h⟩|⟨q1,h⟩
 ·refine aM k q1<|sQ<|rg<|aa k k<|an<|tn<|aP<|aK ?_
  obtain rfl:=so h
  exact aU k k k (bT k)
 ·refine aS k q1<|aT<|tn<|sQ<|rg<|aa k k<|an<|tn<|sQ<|rg ?_
  refine ae (aC aA k k k k k k k) k<|am k k ?_
  obtain ⟨v2,hv2,h⟩:=ob h
  refine ae (aZ (aIv a0 1048576 v2 hv2) k (aG (cA (aL (aQ k) (aL (aQ k) (aL (aQ k) (aL (aQ k) (aL (aQ k) (aL (aQ k) cF))))))) (aG (aI k) bA))) k<|aa k k<|an<|tn<|sQ<|sQ<|rg<|am k k<|ae (bC k k k) k<|an ?_
  refine tn<|aO (t:=bU [(1,.list 1 (List.map eI a1)),(2,.ptr 0 0 0),(17,.bl (decide (v2<0)))] [(0,⟨6,[[.int a0.p,.int a0.q.n,.list 1 (List.map eI a0.q.src),.list 1 (List.map eI a0.q.tgt),.list 1 (List.map eI a0.dims),.list 3 (List.map eM a0.maps)]]⟩)] 1 [1,2,3,4,5,6,7,8,9,10,11,12,13,14,15,16,17,18]) (aE (σ:=sg [(0,0)]) ⟨⟨_,k,⟨k,k⟩⟩,(pE k k),(e1 k k),trivial⟩ (hP k k k k<|trivial) k) ?_
  rcases cb h with ⟨q3,h⟩|⟨q3,h⟩
  ·refine aM k q3<|sQ<|rg<|aa k k<|an<|tn<|aP<|aK ?_
   obtain rfl:=so h
   exact aU k k k (bT k)
  ·refine aS k q3<|aT<|tn<|sQ<|rg<|ae (aC aA k k k k k k k) k ?_
   obtain ⟨v4,hv4,h⟩:=ob h
   refine ae (AEff.conv (cR (x:= .agg [.int v4.p,.int v4.q.n,.own 1 0 (List.map eI v4.q.src).length,.own 2 0 (List.map eI v4.q.tgt).length,.own 3 0 (List.map eI v4.dims).length,.own 4 0 (List.map eM v4.maps).length]) (nb:=[(1,⟨1,cW (List.map eI v4.q.src)⟩),(2,⟨1,cW (List.map eI v4.q.tgt)⟩),(3,⟨1,cW (List.map eI v4.dims)⟩),(4,⟨3,cW (List.map eM v4.maps)⟩)]) (aAD a0 v4 hv4) k (by rfl) k k (bZ trivial (bZ trivial (bZ (eE.good _) (bZ (eE.good _) (bZ (eE.good _) (bZ (aAe.good _) gO)))))) (aG (cA (aL (aQ k) (aL (aQ k) (aL (aQ k) (aL (aQ k) (aL (aQ k) (aL (aQ k) cF))))))) bA)) (v':= .agg [.int v4.p,.int v4.q.n,.own 1 0 v4.q.src.length,.own 2 0 v4.q.tgt.length,.own 3 0 v4.dims.length,.own 4 0 v4.maps.length]) (ed':=[(1,some ⟨1,List.map (ow eI) v4.q.src⟩),(2,some ⟨1,List.map (ow eI) v4.q.tgt⟩),(3,some ⟨1,List.map (ow eI) v4.dims⟩),(4,some ⟨3,List.map (ow eM) v4.maps⟩)]) (by simp only [bD]) (eJ (nb':=[(1,⟨1,List.map (ow eI) v4.q.src⟩),(2,⟨1,List.map (ow eI) v4.q.tgt⟩),(3,⟨1,List.map (ow eI) v4.dims⟩),(4,⟨3,List.map (ow eM) v4.maps⟩)]) (by simp only [cT]))) k<|am k k ?_
   obtain ⟨v5,hv5,h⟩:=ob h
   refine ae (AEff.conv (cR (x:= .own 5 0 (List.map eI v5).length) (nb:=[(5,⟨1,cW (List.map eI v5)⟩)]) (kP a1 v5 hv5) k (by rfl) k k (eE.good _) (aG (aI k) bA)) (v':= .own 5 0 v5.length) (ed':=[(5,some ⟨1,List.map (ow eI) v5⟩)]) (by simp only [bD]) (eJ (nb':=[(5,⟨1,List.map (ow eI) v5⟩)]) (by simp only [cT]))) k ?_
   obtain ⟨v6,hv6,h⟩:=ob h
   refine ae (aZ (aBf v4 v5 v6 hv6) k (aG (cA (aL (aQ k) (aL (aQ k) (aL (tE eE k k) (aL (tE eE k k) (aL (tE eE k k) (aL (tE aAe k k) cF))))))) (aG (aCG eE k k) bA))) k<|aa k k<|an<|tn<|sQ<|rg<|ae (aC aA k k k k k k k) k ?_
   obtain ⟨v7,hv7,h⟩:=ob h
   refine ae (AEff.conv (cR (x:= .agg [.int v7.p,.int v7.q.n,.own 6 0 (List.map eI v7.q.src).length,.own 7 0 (List.map eI v7.q.tgt).length,.own 8 0 (List.map eI v7.dims).length,.own 9 0 (List.map eM v7.maps).length]) (nb:=[(6,⟨1,cW (List.map eI v7.q.src)⟩),(7,⟨1,cW (List.map eI v7.q.tgt)⟩),(8,⟨1,cW (List.map eI v7.dims)⟩),(9,⟨3,cW (List.map eM v7.maps)⟩)]) (aAD a0 v7 hv7) k (by rfl) k k (bZ trivial (bZ trivial (bZ (eE.good _) (bZ (eE.good _) (bZ (eE.good _) (bZ (aAe.good _) gO)))))) (aG (cA (aL (aQ k) (aL (aQ k) (aL (aQ k) (aL (aQ k) (aL (aQ k) (aL (aQ k) cF))))))) bA)) (v':= .agg [.int v7.p,.int v7.q.n,.own 6 0 v7.q.src.length,.own 7 0 v7.q.tgt.length,.own 8 0 v7.dims.length,.own 9 0 v7.maps.length]) (ed':=[(6,some ⟨1,List.map (ow eI) v7.q.src⟩),(7,some ⟨1,List.map (ow eI) v7.q.tgt⟩),(8,some ⟨1,List.map (ow eI) v7.dims⟩),(9,some ⟨3,List.map (ow eM) v7.maps⟩)]) (by simp only [bD]) (eJ (nb':=[(6,⟨1,List.map (ow eI) v7.q.src⟩),(7,⟨1,List.map (ow eI) v7.q.tgt⟩),(8,⟨1,List.map (ow eI) v7.dims⟩),(9,⟨3,List.map (ow eM) v7.maps⟩)]) (by simp only [cT]))) k<|ae (bX aA k k) k<|ae (bP aA k k k k k k k k) k<|an<|tn<|sQ<|rg<|am k k ?_
   obtain ⟨v8,hv8,h⟩:=ob h
   refine ae (AEff.conv (cR (x:= .own 11 0 (List.map eI v8).length) (nb:=[(11,⟨1,cW (List.map eI v8)⟩)]) (kP a1 v8 hv8) k (by rfl) k k (eE.good _) (aG (aI k) bA)) (v':= .own 11 0 v8.length) (ed':=[(11,some ⟨1,List.map (ow eI) v8⟩)]) (by simp only [bD]) (eJ (nb':=[(11,⟨1,List.map (ow eI) v8⟩)]) (by simp only [cT]))) k<|aa k k<|an<|tn<|aO (t:=bU [(1,.list 1 (List.map eI a1)),(2,.ptr 0 0 0),(6,.bl v6),(7,.ptr 10 0 0),(8,.own 11 0 v8.length)] [(0,⟨6,[[.int a0.p,.int a0.q.n,.list 1 (List.map eI a0.q.src),.list 1 (List.map eI a0.q.tgt),.list 1 (List.map eI a0.dims),.list 3 (List.map eM a0.maps)]]⟩),(6,⟨1,List.map (ow eI) v7.q.src⟩),(7,⟨1,List.map (ow eI) v7.q.tgt⟩),(8,⟨1,List.map (ow eI) v7.dims⟩),(9,⟨3,List.map (ow eM) v7.maps⟩),(10,⟨6,[[.int v7.p,.int v7.q.n,.own 6 0 v7.q.src.length,.own 7 0 v7.q.tgt.length,.own 8 0 v7.dims.length,.own 9 0 v7.maps.length]]⟩),(11,⟨1,List.map (ow eI) v8⟩)] 12 [12,13,14,15,16,17,18]) (aE (σ:=sg [(0,0),(6,6),(7,7),(8,8),(9,9),(10,10),(11,11)]) ⟨⟨_,k,⟨k,k⟩⟩,(pE k k),(e1 k k),(pE k k),(oE k k),trivial⟩ (hP k k k k<|hI k k k<|hI k k k<|hI k k k<|hB (aAe.plainO _) k k k<|hX ⟨_,k,k,.inr ⟨_,_,k,⟨_,_,k,k,⟨_,_,k,k,⟨_,_,k,⟨k,k,k,k⟩,⟨_,_,k,⟨k,k,k,k⟩,⟨_,_,k,⟨k,k,k,k⟩,⟨_,_,k,⟨k,k,k,k⟩,k⟩⟩⟩⟩⟩⟩,k⟩⟩ k<|hI k k k<|trivial) k)<|sQ<|rg<|ae (aC aA k k k k k k k) k ?_
   refine am k k ?_
   obtain ⟨v9,hv9,h⟩:=ob h
   refine ae (aZ (aBe v7 v8 v9 hv9) k (aG (cA (aL (aQ k) (aL (aQ k) (aL (tE eE k k) (aL (tE eE k k) (aL (tE eE k k) (aL (tE aAe k k) cF))))))) (aG (aCG eE k k) bA))) k<|aa k k<|an<|tn<|sQ<|sQ<|rg<|am k k<|am k k<|ae (aQL (by kernel_rfl) k k) k ?_
   refine an<|tn ?_
   rcases cb h with ⟨q10,h⟩|⟨q10,h⟩
   ·refine aM k q10<|sQ<|rg<|aa k k<|an<|tn<|aP<|aK ?_
    obtain rfl:=so h
    exact aU k k k (bT k)
   ·refine aS k q10<|aT<|tn<|sQ<|sQ<|aY kB<|ae (aC aA k k k k k k k) k<|ae (aC aA k k k k k k k) k ?_
    obtain ⟨v11,hv11,h⟩:=ob h
    refine ae (AEff.conv (cR (x:= .agg [.int v11.p,.int v11.q.n,.own 12 0 (List.map eI v11.q.src).length,.own 13 0 (List.map eI v11.q.tgt).length,.own 14 0 (List.map eI v11.dims).length,.own 15 0 (List.map eM v11.maps).length]) (nb:=[(12,⟨1,cW (List.map eI v11.q.src)⟩),(13,⟨1,cW (List.map eI v11.q.tgt)⟩),(14,⟨1,cW (List.map eI v11.dims)⟩),(15,⟨3,cW (List.map eM v11.maps)⟩)]) (aAD a0 v11 hv11) k (by rfl) k k (bZ trivial (bZ trivial (bZ (eE.good _) (bZ (eE.good _) (bZ (eE.good _) (bZ (aAe.good _) gO)))))) (aG (cA (aL (aQ k) (aL (aQ k) (aL (aQ k) (aL (aQ k) (aL (aQ k) (aL (aQ k) cF))))))) bA)) (v':= .agg [.int v11.p,.int v11.q.n,.own 12 0 v11.q.src.length,.own 13 0 v11.q.tgt.length,.own 14 0 v11.dims.length,.own 15 0 v11.maps.length]) (ed':=[(12,some ⟨1,List.map (ow eI) v11.q.src⟩),(13,some ⟨1,List.map (ow eI) v11.q.tgt⟩),(14,some ⟨1,List.map (ow eI) v11.dims⟩),(15,some ⟨3,List.map (ow eM) v11.maps⟩)]) (by simp only [bD]) (eJ (nb':=[(12,⟨1,List.map (ow eI) v11.q.src⟩),(13,⟨1,List.map (ow eI) v11.q.tgt⟩),(14,⟨1,List.map (ow eI) v11.dims⟩),(15,⟨3,List.map (ow eM) v11.maps⟩)]) (by simp only [cT]))) k ?_
    obtain ⟨v12,hv12,h⟩:=ob h
    refine ae (aZ (aIw v7 v11 v12 hv12) k (aG (cA (aL (aQ k) (aL (aQ k) (aL (tE eE k k) (aL (tE eE k k) (aL (tE eE k k) (aL (tE aAe k k) cF))))))) (aG (cA (aL (aQ k) (aL (aQ k) (aL (tE eE k k) (aL (tE eE k k) (aL (tE eE k k) (aL (tE aAe k k) cF))))))) bA))) k<|ae (cG k) k<|an ?_
    refine ⟨by kernel_rfl,?_⟩
    refine tn<|aO (t:=bU [(1,.list 1 (List.map eI a1)),(8,.own 11 0 v8.length),(37,.bl (!v12))] [(11,⟨1,List.map (ow eI) v8⟩)] 16 [16,17,18]) (aE (σ:=sg [(11,11)]) ⟨⟨_,k,⟨k,k⟩⟩,(oE k k),(e1 k k),trivial⟩ (hI k k k<|trivial) k) ?_
    rcases cb h with ⟨q13,h⟩|⟨q13,h⟩
    ·refine aM k q13<|sQ<|rg<|aa k k<|an<|tn<|aP<|aK ?_
     obtain rfl:=so h
     exact aU k k k (bT k)
    ·refine aS k q13<|aT<|tn<|sQ<|sQ<|rg<|am k k<|am k k ?_
     obtain ⟨v14,hv14,h⟩:=ob h
     refine ae (AEff.conv (cR (x:= .own 16 0 (List.map eI v14).length) (nb:=[(16,⟨1,cW (List.map eI v14)⟩)]) (kP a1 v14 hv14) k (by rfl) k k (eE.good _) (aG (aI k) bA)) (v':= .own 16 0 v14.length) (ed':=[(16,some ⟨1,List.map (ow eI) v14⟩)]) (by simp only [bD]) (eJ (nb':=[(16,⟨1,List.map (ow eI) v14⟩)]) (by simp only [cT]))) k ?_
     obtain ⟨v15,hv15,h⟩:=ob h
     refine ae (aZ (qP v8 v14 v15 hv15) k (aG (aCG eE k k) (aG (aCG eE k k) bA))) k<|ae (cG k) k<|an<|tn ?_
     rcases cb h with ⟨q16,h⟩|⟨q16,h⟩
     ·refine aM k q16<|sQ<|rg<|aa k k<|an<|tn<|aP<|aK ?_
      obtain rfl:=so h
      exact aU k k k (bT k)
     ·refine aS k q16<|aT<|tn<|sQ<|rg<|aa k k<|an<|tn<|aP ?_
      obtain rfl:=so h
      exact aU k k k (bT k)
end
noncomputable section
def cN:List Int→Nat
 | []=>1
 |m::ms=>(m.toNat+1)*cN ms
def aBo:List Int→Nat→List Int
 | [],_=>[]
 |m::ms,c=>((c / cN ms % (m.toNat+1):Nat):Int)::aBo ms c
theorem aLo: ∀ ms,0<cN ms
 | []=>by simp [cN]
 |m::ms=>Nat.mul_pos (Nat.succ_pos _) (aLo ms)
theorem aKg: ∀ ms c,(aBo ms c).length=ms.length
 | [],_=>rfl
 |m::ms,c=>by simp [aBo,aKg ms c]
theorem aKh: ∀ (ms:List Int) (i c:Nat),aBo ms (i*cN ms+c)=aBo ms c
 | [],_,_=>rfl
 |m::ms,i,c=>by
  simp only [aBo,cN]
  have h:=aLo ms
  rw [show i*((m.toNat+1)*cN ms)+c=i*(m.toNat+1)*cN ms+c by rw [Nat.mul_assoc],aKh ms,Nat.add_comm (i*(m.toNat+1)*cN ms) c,Nat.add_mul_div_right _ _ h,Nat.add_mul_mod_self_right]
theorem aIa {α:Type} (f:Nat→α) (b:Nat): ∀ a,(List.range (a*b)).map f=(List.range a).flatMap fun i=>(List.range b).map fun c=>f (i*b+c)
 |0=>by simp
 |a+1=>by
  rw [Nat.succ_mul,List.range_add,List.map_append,aIa f b a,List.range_succ,List.flatMap_append,List.flatMap_singleton,List.map_map]
  rfl
theorem aDm {α β:Type} {f g:α→List β} : ∀ {l:List α},(∀ x∈l,f x=g x)→l.flatMap f=l.flatMap g
 | [],_=>rfl
 |x::l,h=>by rw [List.flatMap_cons,List.flatMap_cons,h x (by simp),aDm fun y hy=>h y (by simp [hy])]
theorem aKi {α:Type} (p q:α→Bool): ∀ l:List α,(l.all fun x=>p x&&q x)=(l.all p&&l.all q)
 | []=>rfl
 |x::l=>by
  simp only [List.all_cons,aKi p q l]
  cases p x <;> cases q x <;> simp
theorem aEe: ∀ ms:List Int,(List.range (cN ms)).map (aBo ms)=dH ms
 | []=>rfl
 |m::ms=>by
  simp only [cN,dH]
  rw [aIa,←aEe ms]
  refine aDm fun i hi=>?_
  rw [List.map_map]
  refine List.map_congr_left fun c hc=>?_
  have hc:=List.mem_range.1 hc
  have hi:=List.mem_range.1 hi
  simp only [aBo,Function.comp_apply]
  rw [aKh,Nat.add_comm (i*cN ms) c,Nat.add_mul_div_right _ _ (aLo ms),Nat.div_eq_of_lt hc,Nat.zero_add,Nat.mod_eq_of_lt hi]
theorem aPH {b:Nat} : ∀ {ms:List Int},(∀ m∈ms,m.toNat≤b)→cN ms≤(b+1) ^ ms.length
 | [],_=>by simp [cN]
 |m::ms,h=>by
  have ih:=aPH (ms:=ms) fun x hx=>h x (by simp [hx])
  have:=h m (by simp)
  simp only [cN,List.length_cons,Nat.pow_succ]
  rw [Nat.mul_comm]
  exact Nat.mul_le_mul ih (by omega)
theorem Sm.mem {r:Rp} (S:Sm r): ∀ x∈r.dims,0≤x∧x≤2:=by
 intro x hx
 obtain ⟨k,hk,rfl⟩:=List.mem_iff_getElem.1 hx
 have h1:=(S.R.d k hk).1
 have h2:=S.d k hk
 rw [List.getElem?_eq_getElem hk,Option.getD_some] at h1
 omega
theorem aHH {r:Rp} (S:Sm r) (n:Nat):cN (r.dims.drop n)≤243:=by
 have h5:=S.R.n5
 have h:=aPH (b:=2) (ms:=r.dims.drop n) fun m hm=>by have:=S.mem m (List.mem_of_mem_drop hm);omega
 exact Nat.le_trans h (Nat.le_trans (Nat.pow_le_pow_right (by omega) (show (r.dims.drop n).length ≤5 by rw [List.length_drop];omega)) (by decide))
theorem aFG {r:Rp} (S:Sm r):(dH r.dims).length ≤243:=by
 rw [←aEe,List.length_map,List.length_range]
 exact aHH S 0
def aCk (r:Rp):List (List Sc):=(dH r.dims).flatMap (aAS r)
theorem xP {r:Rp} (S:Sm r) (d:List Int):(aAS r d).length ≤1024:=Nat.le_trans (List.length_filter_le _ _) (aCj S)
theorem aMf {α β ρ:Type} {f:α→List β→Option (List β ⊕ ρ)} (g:α→List β) (b:Nat): ∀ (l:List α) (acc:List β),acc.length+b*l.length≤4000000→(∀ x∈l,(g x).length ≤b∧ ∀ acc:List β,acc.length+b≤4000000→f x acc=some (.inl (acc++g x)))→Fl f l acc=some (.inl (acc++l.flatMap g))
 | [],acc,_,_=>by simp [Fl]
 |x::l,acc,hl,h=>by
  rw [List.length_cons,Nat.mul_succ] at hl
  obtain ⟨h0,h1⟩:=h x (by simp)
  have h1:=h1 acc (by omega)
  simp only [Fl,h1]
  rw [aMf g b l _ (by rw [List.length_append];omega) fun y hy=>h y (by simp [hy]),List.flatMap_cons,List.append_assoc]
theorem aLp {r:Rp} (S:Sm r):aBw r.dims=true:=by
 have h5:=S.R.n5
 unfold aBw
 rw [decide_eq_true (by omega),Bool.and_true,List.all_eq_true]
 intro m hm
 have:=S.mem m hm
 rw [decide_eq_true (by omega),decide_eq_true (by omega)]
 rfl
theorem aNY {r:Rp} (hr:bR r) (S:Sm r):tY r=some (aCk r):=by
 have hb:=aFG S
 unfold tY
 rw [aLp S,cond_true,aMf (aAS r) 1024 _ _ (by simp;omega) (fun x hx=>⟨xP S x,fun acc hacc=>?_⟩),Option.bind_some]
 ·rfl
 ·have hsm:=xP S x
  unfold tX
  rw [aHG hr S (mN hx),Option.bind_some,decide_eq_true (by omega),cond_true]
theorem aPI {r:Rp} (S:Sm r) {c:Nat} (hc:c<cN r.dims):Lp (kK r) (List.replicate ((r.dims.length:Int).toNat) (0:Int),(c:Int),wr ((((List.replicate ((r.dims.length:Int).toNat) (0:Int)).length:Nat):Int) - 1))=some (aBo r.dims c):=by
 have h5:=S.R.n5
 have hc243:c≤243:=by have:=aHH S 0;rw [List.drop_zero] at this;omega
 rw [Int.toNat_natCast,List.length_replicate]
 refine eZ (fun j=>(List.replicate (r.dims.length - j) 0++aBo (r.dims.drop (r.dims.length - j)) c,((c / cN (r.dims.drop (r.dims.length - j)):Nat):Int),(r.dims.length:Int) - j - 1)) r.dims.length ?_ (fun j hj=>?_) (fun _=>?_)
 ·rw [Nat.sub_zero,List.drop_length,fA (by omega)]
  simp [aBo,cN]
 ·obtain ⟨v,hv⟩: ∃ v,v+1=r.dims.length - j:=⟨r.dims.length - j - 1,by omega⟩
  have hvl:v<r.dims.length:=by omega
  have hm:=S.mem _ (dJ 0 hvl)
  have e1:r.dims.length - (j+1)=v:=by omega
  have e2:(r.dims.length:Int) - (j:Int) - 1=(v:Int):=by omega
  have e3:r.dims.drop v=r.dims[v]?.getD 0::r.dims.drop (v+1):=by rw [List.drop_eq_getElem_cons hvl,List.getElem?_eq_getElem hvl,Option.getD_some]
  have hq:c / cN (r.dims.drop (v+1))≤c:=Nat.div_le_self _ _
  unfold kK
  simp only
  rw [←hv,e1,e2,decide_eq_true (by omega),cond_true,pO 0 hvl,Option.bind_some,fA (x:=r.dims[v]?.getD 0+1) (by omega),decide_eq_false (by omega)]
  simp only [Bool.not_false,cond_true]
  rw [pO 0 (by simp;omega),Option.bind_some,Option.bind_some,fA (x:=r.dims[v]?.getD 0+1) (by omega),decide_eq_false (by omega)]
  simp only [Bool.not_false,cond_true]
  have e4:r.dims[v]?.getD 0+1=(((r.dims[v]?.getD 0).toNat +1:Nat):Int):=by omega
  rw [e4,Int.toNat_natCast,Int.tmod_eq_emod_of_nonneg (Int.natCast_nonneg _),Int.tdiv_eq_ediv_of_nonneg (Int.natCast_nonneg _)]
  have e5:(((c / cN (r.dims.drop (v+1)):Nat):Int) / (((r.dims[v]?.getD 0).toNat +1:Nat):Int))=((c / cN (r.dims.drop v):Nat):Int):=by
   rw [e3,cN,Nat.mul_comm,←Nat.div_div_eq_div_mul]
   rfl
  have hq2:c / cN (r.dims.drop v)≤c:=Nat.div_le_self _ _
  rw [e5,fA ⟨Int.le_trans (by decide) (Int.natCast_nonneg _),Int.le_trans (Int.ofNat_le.2 (Nat.le_trans hq2 hc243)) (by decide)⟩,fA (by omega)]
  congr 3
  ·rw [e3,aBo,List.replicate_succ',List.append_assoc,List.set_append_right _ _ (by simp)]
   rw [List.length_replicate,Nat.sub_self]
   rfl
  ·congr 1
   omega
 ·unfold kK
  simp only
  rw [decide_eq_false (by omega),cond_false,Nat.sub_self,List.drop_zero]
  rfl
def aQj (r:Rp):List (List Sc)×Bool:=bif qM r then (aCk r,true) else ([],false)
theorem aNZ {r:Rp} (hr:bR r):tZ r=some (aQj r):=by
 unfold tZ aQj
 rw [aIU hr,Option.bind_some]
 cases hS:qM r with
 |false=>rfl
 |true=>
  have S:=aIV hS
  have h5:=S.R.n5
  have h243:=aHH S 0
  rw [List.drop_zero] at h243
  simp only [Bool.not_true,cond_false,cond_true]
  have hpre: ∀ k,k≤r.dims.length→cN (r.dims.take k)≤243:=by
   intro k hk
   have h:=aPH (b:=2) (ms:=r.dims.take k) fun m hm=>by have:=S.mem m (List.mem_of_mem_take hm);omega
   exact Nat.le_trans h (Nat.le_trans (Nat.pow_le_pow_right (by omega) (show (r.dims.take k).length ≤5 by rw [List.length_take];omega)) (by decide))
  have hsnoc: ∀ (l:List Int) (m:Int),cN (l++[m])=cN l*(m.toNat+1):=by
   intro l m
   induction l with
   |nil=>simp [cN]
   |cons x l ih=>simp only [List.cons_append,cN];rw [ih,Nat.mul_assoc]
  rw [eZ (r:=(cN r.dims:Int)) (fun k=>((cN (r.dims.take k):Int),(k:Int))) r.dims.length (by simp [cN]) (fun k hk=>?_) (fun _=>?_),Option.bind_some]
  ·rw [eZ (r:=aCk r) (fun k=>(((List.range k).map (aBo r.dims)).flatMap (aAS r),(k:Int))) (cN r.dims) (by simp) (fun k hk=>?_) (fun _=>?_),Option.bind_some]
   ·have hlen:(((List.range k).map (aBo r.dims)).flatMap (aAS r)).length ≤1024*k:=by
     have: ∀ l:List (List Int),(l.flatMap (aAS r)).length ≤1024*l.length:=by
      intro l
      induction l with
      |nil=>simp
      |cons x l ih=>rw [List.flatMap_cons,List.length_append,List.length_cons,Nat.mul_succ];have:=xP S x;omega
     have:=this ((List.range k).map (aBo r.dims))
     rwa [List.length_map,List.length_range] at this
    have hsm:=xP S (aBo r.dims k)
    unfold oG
    simp only
    rw [kM hk,cond_true,decide_eq_true (by omega),decide_eq_true (by omega)]
    simp only [Bool.and_self,cond_true]
    rw [aPI S hk,Option.bind_some,aFF hr,Option.bind_some]
    unfold aIZ
    rw [hS,decide_eq_true (aKg _ _)]
    simp only [Bool.and_self,cond_true]
    rw [decide_eq_true (by omega),cond_true,dE hk (by omega),List.range_succ,List.map_append,List.flatMap_append]
    simp
   ·unfold oG
    simp only
    rw [oN (Nat.le_refl _),cond_false,aEe]
    rfl
  ·have h1:=hpre k (by omega)
   have h2:=hpre (k+1) (by omega)
   have hm:=S.mem _ (dJ 0 hk)
   have e:cN (r.dims.take (k+1))=cN (r.dims.take k)*((r.dims[k]?.getD 0).toNat +1):=by rw [List.take_succ_eq_append_getElem hk,hsnoc,List.getElem?_eq_getElem hk,Option.getD_some]
   unfold oF
   simp only
   rw [kM hk,cond_true,pO 0 hk,Option.bind_some,fA (x:=r.dims[k]?.getD 0+1) (by omega),show r.dims[k]?.getD 0+1=(((r.dims[k]?.getD 0).toNat +1:Nat):Int) by omega,aJw (by omega),←e,dE hk (by omega)]
  ·unfold oF
   simp only
   rw [oN (Nat.le_refl _),cond_false,List.take_length]
def pJ (s:List Sc):List Int:=s.map fun x=>(x.basis.length:Int)
theorem aNa {s:List Sc} (hs:s.length≤1048576):pD s=some (pJ s):=by
 unfold pD
 rw [eZ (r:=pJ s) (fun k=>((s.take k).map (fun x=>(x.basis.length:Int)),(k:Int))) s.length (by simp) (fun k hk=>?_) (fun _=>?_),Option.bind_some]
 ·unfold oC
  simp only
  rw [kM hk,cond_true,pO ⟨0,[]⟩ hk,Option.bind_some,decide_eq_true (by rw [List.length_map,List.length_take];simp;omega),cond_true,dE hk (by omega),zJ (fun x:Sc=>(x.basis.length:Int)) _ hk]
 ·unfold oC
  simp only
  rw [oN (Nat.le_refl _),cond_false,List.take_length]
  rfl
theorem aJX {r:Rp} (hr:bR r) {s:List Sc} (hs:s.length≤1048576∧ ∀ x∈s,bS x) (h:aCi r s=true):uA r s=some (pJ s):=by
 unfold uA
 rw [eZ (r:=pJ s) (fun k=>((s.take k).map (fun x=>(x.basis.length:Int)),(k:Int))) s.length (by simp) (fun k hk=>?_) (fun _=>?_),Option.bind_some]
 ·unfold oH
  simp only
  rw [kM hk,cond_true,aIR hr hs,Option.bind_some,h,cond_true,pO ⟨0,[]⟩ hk,Option.bind_some,decide_eq_true (by rw [List.length_map,List.length_take];simp;omega),cond_true,dE hk (by omega),zJ (fun x:Sc=>(x.basis.length:Int)) _ hk]
 ·unfold oH
  simp only
  rw [oN (Nat.le_refl _),cond_false,List.take_length]
  rfl
structure Part (r:Rp) (s:List Sc):Prop where
 len:s.length=r.dims.length
 b: ∀ x∈s,bS x
 sub:aCi r s=true
 dim: ∀ v,v<r.dims.length→0≤(pJ s)[v]?.getD 0∧(pJ s)[v]?.getD 0≤r.dims[v]?.getD 0
theorem aQA {r:Rp} (S:Sm r) {d:List Int} {s:List Sc} (h:s∈aAS r d):Part r s:=by
 obtain ⟨h1,h2⟩:=List.mem_filter.1 h
 obtain ⟨p1,p2,p3⟩:=aJW S h1
 obtain ⟨R,e1,e2⟩:=aLg h2
 refine ⟨p1,p2,h2,fun v hv=>?_⟩
 have:=(e2 v hv).len
 have h3:(pJ s)[v]?.getD 0=((sG s v).basis.length:Int):=by
  unfold pJ sG
  rw [List.getElem?_map]
  have:v<s.length:=by omega
  simp [this]
 rw [h3,(R.d v hv).1]
 omega
theorem aKj {r:Rp} (S:Sm r) {s:List Sc} (h:s∈aCk r):Part r s:=by
 obtain ⟨d,_,hd⟩:=List.mem_flatMap.1 h
 exact aQA S hd
theorem aMg {r:Rp} (S:Sm r):(aCk r).length ≤300000:=by
 have h:=aFG S
 have: ∀ l:List (List Int),(l.flatMap (aAS r)).length ≤1024*l.length:=by
  intro l
  induction l with
  |nil=>simp
  |cons x l ih=>rw [List.flatMap_cons,List.length_append,List.length_cons,Nat.mul_succ];have:=xP S x;omega
 have:=this (dH r.dims)
 unfold aCk
 omega
def thV (t d:List Int):Bool:=decide (t.length=d.length)&&(decide (t.length≤100)&&((t.all fun x=>nP x (-20) 20)&&d.all fun x=>nP x 0 100))
structure Th (t d:List Int):Prop where
 l:t.length=d.length
 l100:t.length≤100
 t: ∀ k,k<t.length→ -20≤t[k]?.getD 0∧t[k]?.getD 0≤20
 d: ∀ x∈d,0≤x∧x≤100
theorem aFH {t d:List Int} (h:thV t d=true):Th t d:=by
 unfold thV at h
 simp only [Bool.and_eq_true,decide_eq_true_eq,List.all_eq_true] at h
 obtain ⟨h1,h2,h3,h4⟩:=h
 exact ⟨h1,h2,fun k hk=>gN (h3 _ (dJ 0 hk)),fun x hx=>gN (h4 x hx)⟩
theorem aKk {t d:List Int} (ht:bI t) (hd:bI d):qG t d=some (thV t d):=by
 unfold qG thV
 by_cases h1:t.length=d.length
 ·rw [decide_eq_true (by omega),decide_eq_true h1,cond_true,Bool.true_and]
  by_cases h2:t.length≤100
  ·rw [decide_eq_true (by omega),decide_eq_true h2,cond_true,Bool.true_and,oV ht,Option.bind_some]
   refine fU fun _=>?_
   rw [oV hd,Option.bind_some]
  ·rw [decide_eq_false (by omega),decide_eq_false h2];rfl
 ·rw [decide_eq_false (by omega),decide_eq_false h1];rfl
theorem aBV {t d:List Int} (ht:bI t) (hd:bI d):jG t d=some (thV t d):=by
 unfold bI at ht hd
 unfold jG
 rw [tD (fun k=>nP (t[k]?.getD 0) (-20) 20&&(!decide (k<d.length)||nP (d[k]?.getD 0) 0 100)) false (n:=t.length) (by omega) (fun k hk=>?_) (fun _=>?_),Option.bind_some]
 ·unfold thV
  by_cases h1:t.length=d.length
  ·rw [decide_eq_true h1,decide_eq_true (by omega),Bool.true_and]
   have e:(List.range t.length).all (fun k=>nP (t[k]?.getD 0) (-20) 20&&(!decide (k<d.length)||nP (d[k]?.getD 0) 0 100))=((t.all fun x=>nP x (-20) 20)&&d.all fun x=>nP x 0 100):=by
    rw [←pP 0 t (fun x=>nP x (-20) 20),←pP 0 d (fun x=>nP x 0 100),←h1,←aKi]
    refine aJu fun k hk=>?_
    rw [decide_eq_true hk]
    rfl
   rw [e]
   cases ((t.all fun x=>nP x (-20) 20)&&d.all fun x=>nP x 0 100) with
   |false=>simp
   |true=>
    simp only [cond_true,Sum.elim_inl,Bool.and_true]
    congr 1
    exact decide_eq_decide.2 (by omega)
  ·rw [decide_eq_false h1,decide_eq_false (by omega)]
   cases (List.range t.length).all _ <;> rfl
 ·unfold oJ
  rw [kM hk,cond_true,pO 0 hk,Option.bind_some,rW,Option.bind_some]
  cases nP (t[k]?.getD 0) (-20) 20 with
  |false=>rfl
  |true=>
   simp only [Bool.not_true,cond_false,Bool.true_and]
   by_cases hk2:k<d.length
   ·rw [kM hk2,decide_eq_true hk2,cond_true,pO 0 hk2,Option.bind_some,rW,Option.bind_some]
    cases nP (d[k]?.getD 0) 0 100 <;> rfl
   ·rw [oN (by omega),decide_eq_false hk2]
    rfl
 ·unfold oJ
  rw [oN (Nat.le_refl _),cond_false]
def thS (t d:List Int):Nat→Int
 |0=>0
 |k+1=>thS t d k+t[k]?.getD 0*d[k]?.getD 0
theorem aLr {a b:Int} (ha: -20≤a∧a≤20) (hb:0≤b∧b≤100): -2000≤a*b∧a*b≤2000:=by
 have h1:=Int.mul_le_mul_of_nonneg_right ha.2 hb.1
 have h2:=Int.mul_le_mul_of_nonneg_right ha.1 hb.1
 omega
theorem aCl {t d:List Int} (T:Th t d): ∀ k,k≤t.length→ -2000*k≤thS t d k∧thS t d k≤2000*k
 |0,_=>by simp [thS]
 |k+1,hk=>by
  have ih:=aCl T k (by omega)
  have h1:=T.t k (by omega)
  have h2:=T.d _ (dJ 0 (show k<d.length by have:=T.l;omega))
  have:=aLr h1 h2
  simp only [thS]
  omega
theorem aIb {t d:List Int} (T:Th t d):pF t d=some (thS t d t.length):=by
 have h100:=T.l100
 unfold pF
 rw [eZ (r:=thS t d t.length) (fun k=>(thS t d k,(k:Int))) t.length (by rfl) (fun k hk=>?_) (fun _=>?_),Option.bind_some]
 ·have h1:=T.t k hk
  have h2:=T.d _ (dJ 0 (show k<d.length by have:=T.l;omega))
  have h3:=aLr h1 h2
  have h4:=aCl T k (by omega)
  unfold oD
  simp only
  rw [kM hk,cond_true,pO 0 hk,Option.bind_some,pO 0 (show k<d.length by have:=T.l;omega),Option.bind_some,fA (x:=t[k]?.getD 0*d[k]?.getD 0) (by omega),fA (by omega),dE hk (by omega)]
  rfl
 ·unfold oD
  simp only
  rw [oN (Nat.le_refl _),cond_false]
theorem aIc {t d:List Int} (ht:bI t) (hd:bI d) (h:thV t d=true):pG t d=some (thS t d t.length):=by
 have T:=aFH h
 have h100:=T.l100
 unfold pG
 rw [eZ (r:=thS t d t.length) (fun k=>(thS t d k,(k:Int))) t.length (by rfl) (fun k hk=>?_) (fun _=>?_),Option.bind_some]
 ·have h1:=T.t k hk
  have h2:=T.d _ (dJ 0 (show k<d.length by have:=T.l;omega))
  have h3:=aLr h1 h2
  have h4:=aCl T k (by omega)
  unfold oK
  simp only
  rw [kM hk,cond_true,aBV ht hd,Option.bind_some,h,cond_true,pO 0 hk,Option.bind_some,pO 0 (show k<d.length by have:=T.l;omega),Option.bind_some,fA (x:=t[k]?.getD 0*d[k]?.getD 0) (by omega),fA (by omega),dE hk (by omega)]
  rfl
 ·unfold oK
  simp only
  rw [oN (Nat.le_refl _),cond_false]
theorem zK {d:List Int} (h: ∀ x∈d,0≤x∧x≤100) (hl:d.length≤1048576):gF d=some d.sum∧kT d=some d.sum:=by
 have hs:=aDk h hl
 constructor
 ·unfold gF
  rw [eZ (r:=d.sum) (fun k=>((d.take k).sum,(k:Int))) d.length (by simp) (fun k hk=>?_) (fun _=>?_)];rfl
  ·unfold jV
   simp only
   have:=hs k (by omega)
   have:=hs (k+1) (by omega)
   rw [tQ hk] at this
   rw [kM hk,cond_true,pO 0 hk,Option.bind_some,fA (by omega),dE hk (by omega),tQ hk]
  ·unfold jV
   simp only
   rw [oN (Nat.le_refl _),cond_false,List.take_length]
 ·unfold kT
  rw [eZ (r:=d.sum) (fun k=>((d.take k).sum,(k:Int))) d.length (by simp) (fun k hk=>?_) (fun _=>?_)];rfl
  ·unfold qH
   simp only
   have:=hs k (by omega)
   have:=hs (k+1) (by omega)
   rw [tQ hk] at this
   rw [kM hk,cond_true,pO 0 hk,Option.bind_some,fA (by omega),dE hk (by omega),tQ hk]
  ·unfold qH
   simp only
   rw [oN (Nat.le_refl _),cond_false,List.take_length]
def sgn (x:Int):Int:=if x<0 then -1 else if 0<x then 1 else 0
def slV (t a b:List Int):Int:=sgn (thS t a t.length*b.sum - thS t b t.length*a.sum)
theorem aFu {x y:Int} (hx: -200000≤x∧x≤200000) (hy:0≤y∧y≤10000): -2000000000≤x*y∧x*y≤2000000000:=by
 have h1:=Int.mul_le_mul_of_nonneg_right hx.2 hy.1
 have h2:=Int.mul_le_mul_of_nonneg_right hx.1 hy.1
 omega
theorem Th.sum {t d:List Int} (T:Th t d):0≤d.sum∧d.sum≤10000:=by
 have:=aDk T.d (by have:=T.l;have:=T.l100;omega) d.length (Nat.le_refl _)
 have h1:=T.l
 have h2:=T.l100
 rw [List.take_length] at this
 omega
theorem aNb {t a b:List Int} (A:Th t a) (B:Th t b):kJ t a b=some (slV t a b):=by
 have ha:=A.sum
 have hb:=B.sum
 have h100:=A.l100
 have hl1:=A.l
 have hl2:=B.l
 have h1:=aCl A t.length (Nat.le_refl _)
 have h2:=aCl B t.length (Nat.le_refl _)
 have h3:=aFu (x:=thS t a t.length) (y:=b.sum) (by omega) hb
 have h4:=aFu (x:=thS t b t.length) (y:=a.sum) (by omega) ha
 unfold kJ
 rw [aIb A,Option.bind_some,(zK B.d (by omega)).1,Option.bind_some,aIb B,Option.bind_some,(zK A.d (by omega)).1,Option.bind_some,fA (by omega),fA (by omega)]
 unfold nV rH slV sgn
 simp only [decide_true,Bool.not_true,Option.bind_some,cond_false]
 by_cases e1:thS t a t.length*b.sum<thS t b t.length*a.sum
 ·rw [decide_eq_true e1,if_pos (by omega)];rfl
 ·rw [decide_eq_false e1,if_neg (by omega)]
  by_cases e2:thS t b t.length*a.sum<thS t a t.length*b.sum
  ·rw [decide_eq_true e2,if_pos (by omega)];rfl
  ·rw [decide_eq_false e2,if_neg (by omega)];rfl
theorem aNc {t a b:List Int} (ht:bI t) (ha':bI a) (hb':bI b) (hA:thV t a=true) (hB:thV t b=true):kL t a b=some (if a.sum=0 then 0 else if b.sum=0 then 0 else slV t a b):=by
 have A:=aFH hA
 have B:=aFH hB
 have ha:=A.sum
 have hb:=B.sum
 have h100:=A.l100
 have hl1:=A.l
 have hl2:=B.l
 have h1:=aCl A t.length (Nat.le_refl _)
 have h2:=aCl B t.length (Nat.le_refl _)
 have h3:=aFu (x:=thS t a t.length) (y:=b.sum) (by omega) hb
 have h4:=aFu (x:=thS t b t.length) (y:=a.sum) (by omega) ha
 unfold kL
 rw [aBV ht ha',Option.bind_some,hA]
 simp only [Bool.not_true,cond_false]
 rw [aBV ht hb',Option.bind_some,hB]
 simp only [Bool.not_true,cond_false]
 rw [(zK A.d (by omega)).2,Option.bind_some]
 by_cases e1:a.sum=0
 ·rw [decide_eq_true e1,if_pos e1];rfl
 ·rw [decide_eq_false e1,if_neg e1,cond_false,(zK B.d (by omega)).2,Option.bind_some]
  by_cases e2:b.sum=0
  ·rw [decide_eq_true e2,if_pos e2];rfl
  ·rw [decide_eq_false e2,if_neg e2,cond_false,aIc ht ha' hA,Option.bind_some,Option.bind_some,aIc ht hb' hB,Option.bind_some,Option.bind_some,fA (x:=thS t a t.length*b.sum) (by omega),fA (x:=thS t b t.length*a.sum) (by omega),fA (by omega)]
   unfold slV sgn
   by_cases e3:thS t a t.length*b.sum - thS t b t.length*a.sum<0
   ·rw [decide_eq_true e3,if_pos e3];rfl
   ·rw [decide_eq_false e3,if_neg e3]
    by_cases e4:0<thS t a t.length*b.sum - thS t b t.length*a.sum
    ·rw [decide_eq_true e4,if_pos e4];rfl
    ·rw [decide_eq_false e4,if_neg e4];rfl
end
noncomputable section
theorem aAK (s:List Sc):(pJ s).length=s.length:=by simp [pJ]
theorem Part.th {r:Rp} {s:List Sc} (p:Part r s) {t:List Int} (h:thV t r.dims=true):thV t (pJ s)=true:=by
 have T:=aFH h
 unfold thV at h ⊢
 simp only [Bool.and_eq_true,decide_eq_true_eq,List.all_eq_true] at h ⊢
 refine ⟨by rw [aAK,p.len];exact h.1,h.2.1,h.2.2.1,fun x hx=>?_⟩
 obtain ⟨v,hv,rfl⟩:=List.mem_iff_getElem.1 hx
 have hv2:v<r.dims.length:=by rw [aAK,p.len] at hv;exact hv
 have h1:=p.dim v hv2
 have h2:=T.d _ (dJ 0 hv2)
 rw [List.getElem?_eq_getElem hv,Option.getD_some] at h1
 exact wS h1.1 (by omega)
theorem aKl {l:List (List Sc)} {f:List Sc→Option Bool} (P:List Sc→Bool) (hf: ∀ x∈l,f x=some (P x)) (h:l.length≤1048576):dI l f=some (l.any P):=by
 unfold dI eN
 rcases aIY (n:=l.length) (fun k=> !P (l[k]?.getD [])) with hall|⟨k0,hk0,hbad,hgood⟩
 ·have e:l.any P=false:=by
   rw [List.any_eq_false]
   intro x hx
   obtain ⟨k,hk,rfl⟩:=List.mem_iff_getElem.1 hx
   have:=hall k hk
   rw [List.getElem?_eq_getElem hk,Option.getD_some] at this
   cases hp:P l[k] with
   |false=>simp
   |true=>rw [hp] at this;cases this
  rw [eZ (r:= .inl ()) (fun j=>(j:Int)) l.length (by rfl) (fun j hj=>?_) (fun _=>?_),e];rfl
  ·unfold cM
   have hp:=hall j hj
   rw [kM hj,cond_true,pO [] hj,Option.bind_some,hf _ (dJ [] hj),Option.bind_some]
   cases hq:P (l[j]?.getD []) with
   |true=>rw [hq] at hp;cases hp
   |false=>rw [cond_false,dE hj (by omega)]
  ·unfold cM
   rw [oN (Nat.le_refl _),cond_false]
 ·have hp0:P (l[k0]?.getD [])=true:=by
   cases hq:P (l[k0]?.getD []) with
   |true=>rfl
   |false=>rw [hq] at hbad;cases hbad
  have e:l.any P=true:=List.any_eq_true.2 ⟨_,dJ [] hk0,hp0⟩
  rw [eZ (r:= .inr (k0:Int)) (fun j=>(j:Int)) k0 (by rfl) (fun j hj=>?_) (fun _=>?_),e]
  ·simp only [Option.bind_some,Sum.elim_inr]
   rw [decide_eq_true (by omega)]
  ·unfold cM
   have hp:=hgood j hj
   have hjl:j<l.length:=by omega
   rw [kM hjl,cond_true,pO [] hjl,Option.bind_some,hf _ (dJ [] hjl),Option.bind_some]
   cases hq:P (l[j]?.getD []) with
   |true=>rw [hq] at hp;cases hp
   |false=>rw [cond_false,dE hjl (by omega)]
  ·unfold cM
   rw [kM hk0,cond_true,pO [] hk0,Option.bind_some,hf _ (dJ [] hk0),Option.bind_some,hp0]
   rfl
theorem aLs {r:Rp} (hr:bR r) {t:List Int} (ht:bI t):rQ r t=some (qM r&&(decide (0<r.dims.sum)&&thV t r.dims)):=by
 unfold rQ
 rw [aIS hr,Option.bind_some]
 refine fU fun hS=>?_
 have S:=aIV hS
 rw [(zK (fun x hx=>by have:=S.mem x hx;omega) (by have:=S.R.n5;omega)).1,Option.bind_some]
 refine fU fun h0=>?_
 rw [aKk ht (by unfold bI;have:=S.R.n5;omega),Option.bind_some]
theorem aKm {r:Rp} (h:qM r=true):aDP r=true:=by
 unfold qM at h
 simp only [Bool.and_eq_true] at h
 exact h.1
def aLt (r:Rp) (t:List Int) (s:List Sc):Bool:=decide (0<(pJ s).sum)&&decide (0<slV t (pJ s) r.dims)
def aQB (r:Rp) (t:List Int):Bool:=(qM r&&(decide (0<r.dims.sum)&&thV t r.dims))&& !(aCk r).any (aLt r t)
theorem aNd {r:Rp} (hr:bR r) {t:List Int} (ht:bI t):lF r t=some (aQB r t):=by
 unfold lF aQB
 rw [aLs hr ht,Option.bind_some]
 refine fU fun hA=>?_
 simp only [Bool.and_eq_true] at hA
 obtain ⟨hS,h0,hT⟩:=hA
 have S:=aIV hS
 have T:=aFH hT
 rw [aNY hr S,Option.bind_some,aKl (aLt r t) (fun s hs=>?_) (by have:=aMg S;omega),Option.bind_some]
 have p:=aKj S hs
 have h5:=S.R.n5
 have hl:=p.len
 have TA:=aFH (p.th hT)
 unfold jS aLt
 rw [aNa (by omega),Option.bind_some,(zK TA.d (by rw [aAK];omega)).1,Option.bind_some]
 refine fU fun _=>?_
 rw [Option.bind_some,aNb TA T,Option.bind_some]
theorem aNe {r:Rp} (hr:bR r) {t:List Int} (ht:bI t):lG r t=some (aQB r t):=by
 unfold lG aQB
 rw [aNZ hr,Option.bind_some]
 unfold aQj
 cases hS:qM r with
 |false=>rfl
 |true=>
  have S:=aIV hS
  have h5:=S.R.n5
  have hbd:bI r.dims:=by unfold bI;omega
  simp only [cond_true,Bool.not_true,cond_false,Bool.true_and]
  rw [aBV ht hbd,Option.bind_some]
  cases hT:thV t r.dims with
  |false=>simp
  |true=>
   have T:=aFH hT
   simp only [Bool.not_true,cond_false,Bool.and_true]
   rw [aIT hr,Option.bind_some,aKm hS,cond_true]
   have hsum:=T.sum
   by_cases h0:r.dims.sum=0
   ·rw [decide_eq_true h0,decide_eq_false (by omega)];rfl
   ·rw [decide_eq_false h0,decide_eq_true (by omega),cond_false,Bool.true_and]
    have hal:=aMg S
    rw [tD (fun k=> !aLt r t ((aCk r)[k]?.getD [])) false (n:=(aCk r).length) (by omega) (fun k hk=>?_) (fun _=>?_),Option.bind_some]
    ·have e:=pP [] (aCk r) (fun s=> !aLt r t s)
     rw [e,←List.not_any_eq_all_not]
     cases (aCk r).any (aLt r t) <;> rfl
    ·have p:=aKj S (dJ [] hk)
     have hl:=p.len
     have TA:=aFH (p.th hT)
     unfold iP
     simp only
     rw [kM hk,cond_true,pO [] hk,Option.bind_some,aJX hr ⟨by omega,p.b⟩ p.sub,Option.bind_some,aNc ht (by unfold bI;rw [aAK];omega) hbd (p.th hT) hT,Option.bind_some]
     have hsA:=TA.sum
     unfold aLt
     by_cases h1:(pJ ((aCk r)[k]?.getD [])).sum=0
     ·rw [if_pos h1,decide_eq_false (show ¬ 0<(pJ ((aCk r)[k]?.getD [])).sum by omega)]
      rfl
     ·rw [if_neg h1,if_neg h0,decide_eq_true (show 0<(pJ ((aCk r)[k]?.getD [])).sum by omega),Bool.true_and]
      cases decide (0<slV t (pJ ((aCk r)[k]?.getD [])) r.dims) <;> rfl
    ·unfold iP
     simp only
     rw [oN (Nat.le_refl _),cond_false]
theorem aNi {a:Rp} {d:List Int} (fa:fR a) (fd:fI d):sX a d=some true:=by
 unfold sX
 by_cases c1:d.length≤1048576
 ·rw [decide_eq_false (by omega),cond_false,aQv fa (by decide) (by decide),Option.bind_some]
  rcases aMP a 1048576 (by decide) (by decide) with e|⟨e1,e2,ha⟩
  ·rw [e];rfl
  ·rw [decide_eq_false (by omega),cond_false]
   have hd:bI d:=c1
   obtain ⟨z,h1,h2⟩:=aKf ha (d:=d)
   simp only [aQx ha,aMy hd,Option.bind_some,h1,h2,aQz ha,aMz hd,decide_true,Bool.not_true,cond_false]
 ·rw [decide_eq_true (by omega),cond_true]
theorem aCm {a:Rp} {d:List Int} (fa:fR a) (fd:fI d):jJ a d=some true:=by
 unfold jJ
 by_cases c1:d.length≤1048576
 ·rw [decide_eq_false (by omega),cond_false,aQv fa (by decide) (by decide),Option.bind_some]
  rcases aMP a 1048576 (by decide) (by decide) with e|⟨e1,e2,ha⟩
  ·rw [e];rfl
  ·rw [decide_eq_false (by omega),cond_false]
   have hd:bI d:=c1
   simp only [aQx ha,aMy hd,Option.bind_some,aNd ha hd,aNe ha hd,aQz ha,aMz hd,decide_true,Bool.not_true,cond_false,bne_self_eq_false,beq_self_eq_true]
 ·rw [decide_eq_true (by omega),cond_true]
end
end Go.Proofs.YtghechfdejhapaaGreat

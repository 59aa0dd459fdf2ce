/-
  Several texts of the claim in one.
-/
import Derived.Test.YtghechfdejhapaaGreatH14
set_option linter.unusedVariables false
set_option linter.unusedSimpArgs false
namespace Go.Proofs.YtghechfdejhapaaGreat
open Go.RowKit
noncomputable section
set_option maxRecDepth 10000
set_option maxHeartbeats 4000000
def oK (a0:(List Sc)) (x1:((List Int)×Int)):Option (((List Int)×Int) ⊕ (List Int)):=
 bif decide (x1.2<(a0.length:Int)) then
 (Option.bind (dV a0 x1.2) fun v2=>
 bif decide (x1.1.length+[(v2.basis.length:Int)].length ≤4294967296) then
 (some (.inl ((x1.1++[(v2.basis.length:Int)]),wr (x1.2+1))))
 else none)
 else
 (some (.inr x1.1))
def jL (a0:(List Sc)):Option (List Int):=
 Option.bind (Lp (oK a0) ([],0)) fun y4=>
 some (y4)
theorem aBD (a0:(List Sc)) (r:(List Int)) (h:jL a0=some r):HasC Tryz.prog 87 [.list 2 (List.map eS a0)] (.list 1 (List.map eI r)):=by
 refine bK aA (rvs:=[.tmp 2]) (ns:=[0,1,2,3,4,5]) Tryz.func87 k k Tryz.ntmps87 k k k<|sQ<|rg<|aa k k<|an<|tn<|sQ<|rg<|aa k k<|an ?_
 refine tn<|sQ<|sQ<|rg<|am k k<|ae (dD aA k k k) k<|am k k<|an<|tn<|aN ?_
 obtain ⟨y4,hy4,h⟩:=ob h
 refine cU (body:=(oK a0)) hy4 (fun (x1:((List Int)×Int))=>bU [(3,.own 0 0 x1.1.length),(6,.list 2 (List.map eS a0)),(7,.int (a0.length:Int)),(8,.int x1.2)] [(0,⟨1,List.map (ow eI) x1.1⟩)] 1 [1,2,3,4,5]) (fun r e t=>e= .exit 0∧Ent t (bU [(3,.own 0 0 r.length)] [(0,⟨1,List.map (ow eI) r⟩)] 1 [1,2,3,4,5])) (aE (σ:=sg []) ⟨⟨_,k,⟨k,k,k,k⟩⟩,⟨_,k,⟨k,k⟩⟩,(e1 k k),(e1 k k),trivial⟩ (hX k k<|trivial) k) ?_ ?_
 ·intro x1 o h
  refine sQ<|rg<|ae (bC k k k) k<|an<|tn<|sQ ?_
  rcases cb h with ⟨q1,h⟩|⟨q1,h⟩
  ·refine aL k q1<|aT<|tn<|sQ<|aN<|sQ<|rg ?_
   obtain ⟨v2,hv2,h⟩:=ob h
   refine ae (bH aA hv2 k k k k k k) k<|ae (aV aA k k k k k k) k<|ae (bX aA k k) k<|ae (bP aA k k k k k k k k) k<|an<|tn<|rg<|am k k<|ae (aD aA k k k k k k k) k<|ae (aC aA k k k k k k k) k ?_
   refine ae (dD aA k k k) k<|ae (cS aA k k k k k k k k k k k k) k ?_
   obtain ⟨q3,h⟩:=cg h
   refine ae (uN aA (l:=x1.1) (m:=[(v2.basis.length:Int)]) tG q3 k k k k k k k k k k k k) k<|aa k k<|an<|bE<|tn<|aO (t:=bU [(3,.own 3 0 ((x1.1++[(v2.basis.length:Int)]).length)),(6,.list 2 (List.map eS a0)),(7,.int (a0.length:Int)),(8,.int x1.2)] [(3,⟨1,List.map (ow eI) (x1.1++[(v2.basis.length:Int)])⟩)] 4 [4,5]) (aE (σ:=sg [(3,3)]) ⟨(oE k k),⟨_,k,⟨k,k⟩⟩,(e1 k k),(e1 k k),trivial⟩ (hI k k k<|trivial) k)<|rg<|ae (bV k k) k<|am k k<|an ?_
   refine tn ?_
   obtain rfl:=so h
   exact ⟨_,k,(aE (σ:=sg [(0,3)]) ⟨(oE k k),⟨_,k,⟨k,k⟩⟩,(e1 k k),(e1 k k),trivial⟩ (hI k k k<|trivial) k)⟩
  ·refine aS k q1<|bG<|aH<|aH ?_
   obtain rfl:=so h
   exact ⟨_,k,k,(aE (σ:=sg [(0,0)]) ⟨(oE k k),trivial⟩ (hI k k k<|trivial) k)⟩
 ·rintro e t ⟨rfl,hent⟩
  refine aW<|tn<|aO hent<|sQ<|rg<|am k k<|aa k k<|an<|tn<|aP ?_
  obtain rfl:=so h
  exact aU k k k (mB (iQ eD k k))
def qK (a0:(List Int)) (a1:(List Int)):Option Bool:=
 bif decide ((a0.length:Int)=(a1.length:Int)) then
 (bif decide ((a0.length:Int)≤100) then
 (Option.bind (fB a0 (-20) 20) fun v3=>
 bif v3 then
 (Option.bind (fB a1 0 100) fun v5=>
 some (v5))
 else
 (some (false)))
 else
 (some (false)))
 else
 (some (false))
theorem aEW (a0:(List Int)) (a1:(List Int)) (r:Bool) (h:qK a0 a1=some r):HasC Tryz.prog 102 [.list 1 (List.map eI a0),.list 1 (List.map eI a1)] (.bl r):=by
 refine bK aA (rvs:=[.tmp 4]) (ns:=[0,1]) Tryz.func102 k k Tryz.ntmps102 k k k<|sQ<|rg<|aa k k<|an<|tn<|sQ<|rg<|am k k<|ae (dD aA k k k) k ?_
 refine am k k<|ae (dD aA k k k) k<|ae (bC k k k) k<|am k k ?_
 rcases cb h with ⟨q1,h⟩|⟨q1,h⟩
 ·refine aX 10 k q1<|am k k<|ae (dD aA k k k) k<|ae (bC k k k) k<|ae (aJ k k) k<|am k k ?_
  rcases cb h with ⟨q2,h⟩|⟨q2,h⟩
  ·refine aX 15 k q2<|am k k ?_
   obtain ⟨v3,hv3,h⟩:=ob h
   refine ae (aZ (gU a0 (-20) 20 v3 hv3) k (aG (aI k) (aG (aI k) (aG (aI k) bA)))) k<|ae (aJ k k) k<|am k k ?_
   rcases cb h with ⟨q4,h⟩|⟨q4,h⟩
   ·refine aX 19 k q4<|am k k ?_
    obtain ⟨v5,hv5,h⟩:=ob h
    refine ae (aZ (gU a1 0 100 v5 hv5) k (aG (aI k) (aG (aI k) (aG (aI k) bA)))) k<|ae (aJ k k) k<|aa k k<|an<|tn<|aO (t:=bU [(4,.bl v5)] [] 0 [0,1]) (aE (σ:=sg []) ⟨(e1 k k),trivial⟩ trivial k)<|aP ?_
    obtain rfl:=so h
    exact aU k k k (bT k)
   ·refine aX 19 k q4<|ak k k<|ak k k<|ae (aJ k k) k<|aa k k<|an<|tn<|aO (t:=bU [(4,.bl false)] [] 0 [0,1]) (aE (σ:=sg []) ⟨(e1 k k),trivial⟩ trivial k)<|aP ?_
    obtain rfl:=so h
    exact aU k k k (bT k)
  ·refine aX 15 k q2<|ak k k<|ak k k<|ae (aJ k k) k<|am k k<|ak k k<|ak k k<|ae (aJ k k) k<|aa k k<|an ?_
   refine tn<|aO (t:=bU [(4,.bl false)] [] 0 [0,1]) (aE (σ:=sg []) ⟨(e1 k k),trivial⟩ trivial k)<|aP ?_
   obtain rfl:=so h
   exact aU k k k (bT k)
 ·refine aX 10 k q1<|ak k k<|ak k k<|ak k k<|ae (aJ k k) k<|am k k<|ak k k<|ak k k<|ae (aJ k k) k<|am k k ?_
  refine ak k k<|ak k k<|ae (aJ k k) k<|aa k k<|an<|tn<|aO (t:=bU [(4,.bl false)] [] 0 [0,1]) (aE (σ:=sg []) ⟨(e1 k k),trivial⟩ trivial k)<|aP ?_
  obtain rfl:=so h
  exact aU k k k (bT k)
def oN (a0:(List Int)) (a1:(List Int)) (x1:(Int×Int)):Option ((Int×Int) ⊕ Int):=
 bif decide (x1.2<(a0.length:Int)) then
 (Option.bind (dV a0 x1.2) fun v2=>
 Option.bind (dV a1 x1.2) fun v3=>
 some (.inl (wr (x1.1+(wr (v2*v3))),wr (x1.2+1))))
 else
 (some (.inr x1.1))
def pJ (a0:(List Int)) (a1:(List Int)):Option Int:=
 Option.bind (Lp (oN a0 a1) (0,0)) fun y4=>
 some (y4)
theorem aBE (a0:(List Int)) (a1:(List Int)) (r:Int) (h:pJ a0 a1=some r):HasC Tryz.prog 132 [.list 1 (List.map eI a0),.list 1 (List.map eI a1)] (.int r):=by
 refine bK aA (rvs:=[.tmp 4]) (ns:=[0,1]) Tryz.func132 k k Tryz.ntmps132 k k k<|sQ<|rg<|aa k k<|an<|tn<|sQ<|rg<|aa k k<|an ?_
 refine tn<|sQ<|sQ<|rg<|am k k<|ae (dD aA k k k) k<|am k k<|an<|tn<|aN ?_
 obtain ⟨y4,hy4,h⟩:=ob h
 refine cU (body:=(oN a0 a1)) hy4 (fun (x1:(Int×Int))=>bU [(1,.list 1 (List.map eI a1)),(5,.int x1.1),(8,.list 1 (List.map eI a0)),(9,.int (a0.length:Int)),(10,.int x1.2)] [] 0 [0,1]) (fun r e t=>e= .exit 0∧Ent t (bU [(5,.int r)] [] 0 [0,1])) (aE (σ:=sg []) ⟨⟨_,k,⟨k,k⟩⟩,(e1 k k),⟨_,k,⟨k,k⟩⟩,(e1 k k),(e1 k k),trivial⟩ trivial k) ?_ ?_
 ·intro x1 o h
  refine sQ<|rg<|ae (bC k k k) k<|an<|tn<|sQ ?_
  rcases cb h with ⟨q1,h⟩|⟨q1,h⟩
  ·refine aL k q1<|aT<|tn<|sQ<|aN<|sQ<|rg<|am k k ?_
   obtain ⟨v2,hv2,h⟩:=ob h
   refine ae (bH aA hv2 k k k k k k) k<|ae (aV aA k k k k k k) k<|aa k k<|aa k k<|an<|tn<|rg<|am k k<|am k k<|am k k ?_
   refine am k k ?_
   obtain ⟨v3,hv3,h⟩:=ob h
   refine ae (bH aA hv3 k k k k k k) k<|ae (aV aA k k k k k k) k<|ae (fP k k) k<|ae (bV k k) k<|aa k k<|an<|bE<|tn<|aO (t:=bU [(1,.list 1 (List.map eI a1)),(5,.int (wr (x1.1+(wr (v2*v3))))),(8,.list 1 (List.map eI a0)),(9,.int (a0.length:Int)),(10,.int x1.2)] [] 0 [0,1]) (aE (σ:=sg []) ⟨⟨_,k,⟨k,k⟩⟩,(e1 k k),⟨_,k,⟨k,k⟩⟩,(e1 k k),(e1 k k),trivial⟩ trivial k)<|rg ?_
   refine ae (bV k k) k<|am k k<|an<|tn ?_
   obtain rfl:=so h
   exact ⟨_,k,(aE (σ:=sg []) ⟨⟨_,k,⟨k,k⟩⟩,(e1 k k),⟨_,k,⟨k,k⟩⟩,(e1 k k),(e1 k k),trivial⟩ trivial k)⟩
  ·refine aS k q1<|bG<|aH<|aH ?_
   obtain rfl:=so h
   exact ⟨_,k,k,(aE (σ:=sg []) ⟨(e1 k k),trivial⟩ trivial k)⟩
 ·rintro e t ⟨rfl,hent⟩
  refine aW<|tn<|aO hent<|sQ<|rg<|am k k<|aa k k<|an<|tn<|aP ?_
  obtain rfl:=so h
  exact aU k k k (cJ k)
def iC (a0:(List Int)) (a1:(List Int)) (a2:(List Int)):Option Int:=
 Option.bind (pJ a0 a1) fun v1=>
 Option.bind (fL a2) fun v2=>
 Option.bind (pJ a0 a2) fun v3=>
 Option.bind (fL a1) fun v4=>
 Option.bind (oB (wr (v1*v2)) (wr (v3*v4))) fun v5=>
 some (v5)
theorem aBF (a0:(List Int)) (a1:(List Int)) (a2:(List Int)) (r:Int) (h:iC a0 a1 a2=some r):HasC Tryz.prog 88 [.list 1 (List.map eI a0),.list 1 (List.map eI a1),.list 1 (List.map eI a2)] (.int r):=by
 refine bK aA (rvs:=[.tmp 6]) (ns:=[0,1]) Tryz.func88 k k Tryz.ntmps88 k k k<|sQ<|rg<|aa k k<|an<|tn<|sQ<|rg<|am k k<|am k k ?_
 obtain ⟨v1,hv1,h⟩:=ob h
 refine ae (aZ (aBE a0 a1 v1 hv1) k (aG (aI k) (aG (aI k) bA))) k<|am k k ?_
 obtain ⟨v2,hv2,h⟩:=ob h
 refine ae (aZ (mE a2 v2 hv2) k (aG (aI k) bA)) k<|ae (fP k k) k<|am k k<|am k k ?_
 obtain ⟨v3,hv3,h⟩:=ob h
 refine ae (aZ (aBE a0 a2 v3 hv3) k (aG (aI k) (aG (aI k) bA))) k<|am k k ?_
 obtain ⟨v4,hv4,h⟩:=ob h
 refine ae (aZ (mE a1 v4 hv4) k (aG (aI k) bA)) k<|ae (fP k k) k ?_
 obtain ⟨v5,hv5,h⟩:=ob h
 refine ae (aZ (yK (wr (v1*v2)) (wr (v3*v4)) v5 hv5) k (aG (aI k) (aG (aI k) bA))) k<|aa k k<|an<|tn<|aO (t:=bU [(6,.int v5)] [] 0 [0,1]) (aE (σ:=sg []) ⟨(e1 k k),trivial⟩ trivial k)<|aP ?_
 obtain rfl:=so h
 exact aU k k k (cJ k)
def nG (a0:Rp) (a1:(List Int)):Option Bool:=
 Option.bind (pG a0) fun v1=>
 bif v1 then
 (Option.bind (fL a0.dims) fun v3=>
 bif decide (0<v3) then
 (Option.bind (qK a1 a0.dims) fun v5=>
 some (v5))
 else
 (some (false)))
 else
 (some (false))
theorem aFf (a0:Rp) (a1:(List Int)) (r:Bool) (h:nG a0 a1=some r):HasC Tryz.prog 82 [.agg (eR a0),.list 1 (List.map eI a1)] (.bl r):=by
 refine bK aA (rvs:=[.tmp 4]) (ns:=[0,1,2]) Tryz.func82 k k Tryz.ntmps82 k k k<|sQ<|rg<|ae (cC k k k k) k<|aa k k<|an<|tn<|sQ<|rg<|ae (aC aA k k k k k k k) k ?_
 obtain ⟨v1,hv1,h⟩:=ob h
 refine ae (aZ (aGx a0 v1 hv1) k (aG (cA (aM (aQ k) (aM (aQ k) (aM (aQ k) (aM (aQ k) (aM (aQ k) (aM (aQ k) cF))))))) bA)) k<|am k k ?_
 rcases cb h with ⟨q2,h⟩|⟨q2,h⟩
 ·refine aX 7 k q2<|ae (aD aA k k k k k k k) k<|ae (aC aA k k k k k k k) k ?_
  obtain ⟨v3,hv3,h⟩:=ob h
  refine ae (aZ (mE a0.dims v3 hv3) k (aG (aI k) bA)) k<|ae (bC k k k) k<|ae (aJ k k) k<|am k k ?_
  rcases cb h with ⟨q4,h⟩|⟨q4,h⟩
  ·refine aX 13 k q4<|am k k<|ae (aD aA k k k k k k k) k<|ae (aC aA k k k k k k k) k ?_
   obtain ⟨v5,hv5,h⟩:=ob h
   refine ae (aZ (aEW a1 a0.dims v5 hv5) k (aG (aI k) (aG (aI k) bA))) k<|ae (aJ k k) k<|aa k k<|an<|tn<|aO (t:=bU [(4,.bl v5)] [] 1 [1,2]) (aE (σ:=sg []) ⟨(e1 k k),trivial⟩ trivial k)<|aP ?_
   obtain rfl:=so h
   exact aU k k k (bT k)
  ·refine aX 13 k q4<|ak k k<|ak k k<|ak k k<|ak k k<|ae (aJ k k) k<|aa k k<|an<|tn<|aO (t:=bU [(4,.bl false)] [] 1 [1,2]) (aE (σ:=sg []) ⟨(e1 k k),trivial⟩ trivial k) ?_
   refine aP ?_
   obtain rfl:=so h
   exact aU k k k (bT k)
 ·refine aX 7 k q2<|ak k k<|ak k k<|ak k k<|ak k k<|ae (aJ k k) k<|am k k<|ak k k<|ak k k<|ak k k ?_
  refine ak k k<|ae (aJ k k) k<|aa k k<|an<|tn<|aO (t:=bU [(4,.bl false)] [] 1 [1,2]) (aE (σ:=sg []) ⟨(e1 k k),trivial⟩ trivial k)<|aP ?_
  obtain rfl:=so h
  exact aU k k k (bT k)
def uE (a0:Rp) (v1:List Int) (x1:(List (List Sc))):Option ((List (List Sc)) ⊕ Unit):=
 Option.bind (nE a0 v1) fun v2=>
 bif decide (x1.length+v2.length≤4294967296) then
 (some (.inl (x1++v2)))
 else none
def pK (a0:Rp):Option (List (List Sc)):=
 bif aBz a0.dims then
 (Option.bind (Fl (uE a0) (dJ a0.dims) []) fun y4=>
 Sum.elim (fun y4=>
 some (y4)
 ) (fun _=>none) y4)
 else none
theorem aGy (a0:Rp) (r:(List (List Sc))) (h:pK a0=some r):HasC Tryz.prog 84 [.agg (eR a0)] (.list 1 (List.map (dA 2 eS) r)):=by
 refine bK aA (rvs:=[.tmp 2]) (ns:=[0,1,2,3,4,5,6,7]) Tryz.func84 k k Tryz.ntmps84 k k k<|sQ<|rg<|ae (cC k k k k) k<|aa k k<|an<|tn<|sQ<|rg<|ae (bX aA k k) k ?_
 refine an<|tn<|sQ<|sQ<|rg<|ae (aD aA k k k k k k k) k<|ae (aC aA k k k k k k k) k<|ae (aGq (aJX a0.dims) k k k k) k<|an<|tn ?_
 refine aN ?_
 obtain ⟨q5,h⟩:=cg h
 obtain ⟨y4,hy4,h⟩:=ob h
 refine aGo (f:=(uE a0)) (σ:=(List (List Sc))) (ρ:=Unit) y4 [] [(1,.ptr 0 0 0),(3,.ptr 1 0 0),(7,.fn 176 [.ref [.list 1 (List.map eI a0.dims)]])] [(0,⟨6,[[.int a0.p,.int a0.q.n,.list 1 (List.map eI a0.q.src),.list 1 (List.map eI a0.q.tgt),.list 1 (List.map eI a0.dims),.list 3 (List.map eM a0.maps)]]⟩),(1,⟨1,[[.nil 1]]⟩)] 2 [2,3,4,5,6,7] (fun x1=>[(0,⟨6,[[.int a0.p,.int a0.q.n,.list 1 (List.map eI a0.q.src),.list 1 (List.map eI a0.q.tgt),.list 1 (List.map eI a0.dims),.list 3 (List.map eM a0.maps)]]⟩),(1,⟨1,[[.own 3 0 x1.length]]⟩),(3,⟨1,List.map (ow (dA 2 eS)) x1⟩)]) 4 [4,5,6,7] (fun _ _ _=>False) (aPA q5) hy4 k k k (fun _=>k) (aE (σ:=sg [(0,0),(1,1)]) ⟨(pE k k),(pE k k),⟨_,k,⟨k,⟨_,_,k,k,k⟩⟩⟩,trivial⟩ (hP k k k k<|hP k k k k<|trivial) k) k (aE (σ:=sg [(0,0),(1,1),(2,2)]) ⟨(oE k k),(pE k k),(pE k k),⟨_,k,⟨k,⟨_,_,k,k,k⟩⟩⟩,trivial⟩ (hI k k k<|hP k k k k<|hX ⟨_,k,k,.inr ⟨_,_,k,⟨_,_,k,⟨k,k,k,k⟩,k⟩,k⟩⟩ k<|hX k k<|trivial) k) ?_ ?_
 ·intro x1 v1 o hxv1 h
  have hlv1:=decide_eq_true (mN hxv1)
  change AC Tryz.prog _ _ (bU [(8,.own 2 0 a0.dims.length),(1,.ptr 0 0 0),(3,.ptr 1 0 0),(7,.fn 176 [.ref [.list 1 (List.map eI a0.dims)]])] [(2,⟨1,List.map (ow eI) v1⟩),(0,⟨6,[[.int a0.p,.int a0.q.n,.list 1 (List.map eI a0.q.src),.list 1 (List.map eI a0.q.tgt),.list 1 (List.map eI a0.dims),.list 3 (List.map eM a0.maps)]]⟩),(1,⟨1,[[.own 3 0 x1.length]]⟩),(3,⟨1,List.map (ow (dA 2 eS)) x1⟩)] 4 [4,5,6,7] ⟨3,false,none,false⟩) _
  refine rg<|aa k k<|an ?_
  refine ⟨k,?_⟩
  refine aN<|aY jW<|ae (aC aA k k k k k k k) k<|ae (aC aA k k k k k k k) k<|am k k ?_
  obtain ⟨v2,hv2,h⟩:=ob h
  refine ae (AEff.conv (cR (x:= .own 4 0 (List.map (dA 2 eS) v2).length) (nb:=[(4,⟨1,cX (List.map (dA 2 eS) v2)⟩)]) (aFZ a0 v1 v2 hv2) k (by rfl) k k (cI.good _) (aG (cA (aM (aQ k) (aM (aQ k) (aM (aQ k) (aM (aQ k) (aM (aQ k) (aM (aQ k) cF))))))) (aG (aAl eD k (by first|rfl|simp only [List.length_set,of_decide_eq_true hlv1])) bA))) (v':= .own 4 0 v2.length) (ed':=[(4,some ⟨1,List.map (ow (dA 2 eS)) v2⟩)]) (by simp only [bD]) (eJ (nb':=[(4,⟨1,List.map (ow (dA 2 eS)) v2⟩)]) (by simp only [cT]))) k ?_
  obtain ⟨q3,h⟩:=cg h
  refine ae (aOy aA (l:=x1) (m:=v2) cI q3 k k k k k k k k k k k k k k) k<|ae (bP aA k k k k k k k k) k<|an ?_
  refine ⟨by kernel_rfl,?_⟩
  refine bE ?_
  obtain rfl:=so h
  exact ⟨k,(aE (σ:=sg [(0,0),(1,1),(2,2),(3,5)]) ⟨(oE k k),(pE k k),(pE k k),⟨_,k,⟨k,⟨_,_,k,k,k⟩⟩⟩,trivial⟩ (hI k k k<|hP k k k k<|hX ⟨_,k,k,.inr ⟨_,_,k,⟨_,_,k,⟨k,k,k,k⟩,k⟩,k⟩⟩ k<|hB (cI.plainO _) k k k<|trivial) k)⟩
 ·rcases y4 with y4|y4
  ·dsimp only
   refine bE<|tn<|sQ<|rg<|ae (aC aA k k k k k k k) k<|aa k k<|an<|tn<|aP ?_
   obtain rfl:=so h
   exact aU k k k (mB (iQ cI k k))
  ·cases h
def cM (a0:(List (List Sc))) (a1:((List Sc)→Option Bool)) (x1:Int):Option (Int ⊕ (Unit ⊕ Int)):=
 bif decide (x1<(a0.length:Int)) then
 (Option.bind (dV a0 x1) fun v2=>
 Option.bind (a1 v2) fun v3=>
 bif v3 then
 (some (.inr (.inr (x1))))
 else
 (some (.inl (wr (x1+1)))))
 else
 (some (.inr (.inl ())))
def eN (a0:(List (List Sc))) (a1:((List Sc)→Option Bool)):Option Int:=
 Option.bind (Lp (cM a0 a1) 0) fun y5=>
 Sum.elim (fun y6=>
 some ((-1))
 )
 (fun y7=>
 some y7
 )
 y5
theorem lW (a0:(List (List Sc))) (a1:((List Sc)→Option Bool)) {f1:FuncId} {c1:List AV} (hc1:c1.all eT=true) (hf1: ∀ b0 r,a1 b0=some r→HasC Tryz.prog f1 ([.list 2 (List.map eS b0)]++c1) (.bl r)) (r:Int) (h:eN a0 a1=some r):HasC Tryz.prog 129 [.list 1 (List.map (dA 2 eS) a0),.fn f1 c1] (.int r):=by
 refine bK aA (rvs:=[.tmp 4]) (ns:=[0,1]) Tryz.func129 k k Tryz.ntmps129 k k (jP k (jP hc1 aAr))<|sQ<|rg<|aa k k<|an<|tn<|sQ<|sQ<|rg<|am k k ?_
 refine ae (dD aA k k k) k<|am k k<|an<|tn<|aN ?_
 obtain ⟨y5,hy5,h⟩:=ob h
 refine cU (body:=(cM a0 a1)) hy5 (fun (x1:Int)=>bU [(0,.list 1 (List.map (dA 2 eS) a0)),(1,.fn f1 c1),(7,.int (a0.length:Int)),(8,.int x1)] [] 0 [0,1]) (fun r e t=>Sum.elim (fun a=>(fun r e t=>e= .exit 0∧Ent t (bU [] [] 0 [0,1])) a e t) (fun b=>(fun r e t=>e= .ret∧sA TT [.tmp 4] (.int r) .ret t) b e t) r) (aE (σ:=sg []) ⟨⟨_,k,⟨k,k⟩⟩,⟨_,k,⟨k,jY _ hc1⟩⟩,(e1 k k),(e1 k k),trivial⟩ trivial k) ?_ ?_
 ·intro x1 o h
  refine sQ<|rg<|ae (bC k k k) k<|an<|tn<|sQ ?_
  rcases cb h with ⟨q1,h⟩|⟨q1,h⟩
  ·refine aL k q1<|aT<|tn<|sQ<|aN<|sQ<|rg<|am k k<|aa k k<|an ?_
   refine tn<|sQ<|rg<|am k k<|am k k<|am k k ?_
   obtain ⟨v2,hv2,h⟩:=ob h
   refine ae (bH aA hv2 k k k k k k) k<|ae (aV aA k k k k k k) k ?_
   obtain ⟨v3,hv3,h⟩:=ob h
   refine ae (aBU hc1 (hf1 v2 v3 hv3) k k (aG (aI k) bA)) k<|an<|tn ?_
   rcases cb h with ⟨q4,h⟩|⟨q4,h⟩
   ·refine aL k q4<|sQ<|rg<|am k k<|aa k k<|an<|tn<|aP<|bB<|aK ?_
    refine aK ?_
    obtain rfl:=so h
    exact ⟨_,k,k,aU k k k (cJ k)⟩
   ·refine aS k q4<|aT<|bE<|tn<|rg<|ae (bV k k) k<|am k k<|an<|tn ?_
    obtain rfl:=so h
    exact ⟨_,k,(aE (σ:=sg []) ⟨⟨_,k,⟨k,k⟩⟩,⟨_,k,⟨k,jY _ hc1⟩⟩,(e1 k k),(e1 k k),trivial⟩ trivial k)⟩
  ·refine aS k q1<|bG<|aH<|aH ?_
   obtain rfl:=so h
   exact ⟨_,k,k,(aE (σ:=sg []) trivial trivial k)⟩
 ·intro e t hX
  rcases y5 with y6|y7
  ·obtain ⟨rfl,hent⟩:=hX
   refine aW<|tn<|aO hent<|sQ<|rg<|aa k k<|an<|tn<|aP ?_
   obtain rfl:=so h
   exact aU k k k (cJ k)
  ·obtain ⟨rfl,hent⟩:=hX
   refine bB<|aK ?_
   obtain rfl:=so h
   exact hent
def cW (a0:(List (List Sc))) (a1:((List Sc)→Option Bool)):Option Bool:=
 Option.bind (eN a0 a1) fun v1=>
 some (decide (0≤v1))
theorem kS (a0:(List (List Sc))) (a1:((List Sc)→Option Bool)) {f1:FuncId} {c1:List AV} (hc1:c1.all eT=true) (hf1: ∀ b0 r,a1 b0=some r→HasC Tryz.prog f1 ([.list 2 (List.map eS b0)]++c1) (.bl r)) (r:Bool) (h:cW a0 a1=some r):HasC Tryz.prog 83 [.list 1 (List.map (dA 2 eS) a0),.fn f1 c1] (.bl r):=by
 refine bK aA (rvs:=[.tmp 4]) (ns:=[0,1]) Tryz.func83 k k Tryz.ntmps83 k k (jP k (jP hc1 aAr))<|sQ<|rg<|aa k k<|an<|tn<|sQ<|rg<|am k k<|am k k ?_
 obtain ⟨v1,hv1,h⟩:=ob h
 refine ae (aZ (lW a0 a1 hc1 hf1 v1 hv1) k (aG (aI k) (aG (aLV hc1) bA))) k<|ae (bC k k k) k<|aa k k<|an<|tn<|aP ?_
 obtain rfl:=so h
 exact aU k k k (bT k)
def uQ (a0:(List Sc)) (a1:(List Int)) (a2:Rp):Option Bool:=
 Option.bind (jL a0) fun v1=>
 Option.bind (fL v1) fun v2=>
 bif decide (0<v2) then
 (Option.bind (jL a0) fun v4=>
 Option.bind (iC a1 v4 a2.dims) fun v5=>
 some (decide (0<v5)))
 else
 (some (false))
def wF (a0:Rp) (a1:(List Int)):Option Bool:=
 Option.bind (nG a0 a1) fun v1=>
 bif v1 then
 (Option.bind (pK a0) fun v3=>
 Option.bind (cW v3 (fun b0=>uQ b0 a1 a0)) fun v4=>
 some (!v4))
 else
 (some (false))
def oO (a0:(List Sc)) (a1:Rp) (a2:(List Int)):Option Bool:=
 Option.bind (jL a0) fun v1=>
 Option.bind (fL v1) fun v2=>
 Option.bind (fL a1.dims) fun v3=>
 Option.bind (gD v2 1 (wr (v3 - 1))) fun v4=>
 bif v4 then
 (Option.bind (jL a0) fun v6=>
 Option.bind (iC a2 v6 a1.dims) fun v7=>
 some (decide (0≤v7)))
 else
 (some (false))
theorem aDc (a0:(List Sc)) (a1:Rp) (a2:(List Int)) (r:Bool) (h:oO a0 a1 a2=some r):HasC Tryz.prog 91 [.list 2 (List.map eS a0),.ref (eR a1),.ref ((dA 1 eI) a2)] (.bl r):=by
 refine bK aA (rvs:=[.tmp 4]) (ns:=[0,1,2,3]) Tryz.func91 k k Tryz.ntmps91 k k k<|sQ<|rg<|aa k k<|an<|tn<|sQ<|aY jW<|am k k ?_
 obtain ⟨v1,hv1,h⟩:=ob h
 refine ae (AEff.conv (cR (x:= .own 0 0 (List.map eI v1).length) (nb:=[(0,⟨1,cX (List.map eI v1)⟩)]) (aBD a0 v1 hv1) k (by rfl) k k (eD.good _) (aG (aI k) bA)) (v':= .own 0 0 v1.length) (ed':=[(0,some ⟨1,List.map (ow eI) v1⟩)]) (by simp only [bD]) (eJ (nb':=[(0,⟨1,List.map (ow eI) v1⟩)]) (by simp only [cT]))) k ?_
 obtain ⟨v2,hv2,h⟩:=ob h
 refine ae (aZ (mE v1 v2 hv2) k (aG (aAl eD k k) bA)) k<|ae (bY aA k k k k k k) k<|ae (aV aA k k k k k k) k ?_
 obtain ⟨v3,hv3,h⟩:=ob h
 refine ae (aZ (mE a1.dims v3 hv3) k (aG (aI k) bA)) k<|ae (iH k k) k ?_
 obtain ⟨v4,hv4,h⟩:=ob h
 refine ae (aZ (iU v2 1 (wr (v3 - 1)) v4 hv4) k (aG (aI k) (aG (aI k) (aG (aI k) bA)))) k<|am k k ?_
 rcases cb h with ⟨q5,h⟩|⟨q5,h⟩
 ·refine aX 13 k q5<|ae (aV aA k k k k k k) k<|am k k ?_
  obtain ⟨v6,hv6,h⟩:=ob h
  refine ae (AEff.conv (cR (x:= .own 1 0 (List.map eI v6).length) (nb:=[(1,⟨1,cX (List.map eI v6)⟩)]) (aBD a0 v6 hv6) k (by rfl) k k (eD.good _) (aG (aI k) bA)) (v':= .own 1 0 v6.length) (ed':=[(1,some ⟨1,List.map (ow eI) v6⟩)]) (by simp only [bD]) (eJ (nb':=[(1,⟨1,List.map (ow eI) v6⟩)]) (by simp only [cT]))) k<|ae (bY aA k k k k k k) k<|ae (aV aA k k k k k k) k ?_
  obtain ⟨v7,hv7,h⟩:=ob h
  refine ae (aZ (aBF a2 v6 a1.dims v7 hv7) k (aG (aI k) (aG (aAl eD k k) (aG (aI k) bA)))) k<|ae (bC k k k) k<|ae (aJ k k) k<|aa k k<|an ?_
  refine ⟨by kernel_rfl,?_⟩
  refine tn<|aO (t:=bU [(4,.bl (decide (0≤v7)))] [] 2 [2,3]) (aE (σ:=sg []) ⟨(e1 k k),trivial⟩ trivial k)<|aP ?_
  obtain rfl:=so h
  exact aU k k k (bT k)
 ·refine aX 13 k q5<|ak k k<|ak k k<|ak k k<|ak k k<|ak k k<|ak k k<|ak k k<|ae (aJ k k) k<|aa k k ?_
  refine an ?_
  refine ⟨by kernel_rfl,?_⟩
  refine tn<|aO (t:=bU [(4,.bl false)] [] 1 [1,2,3]) (aE (σ:=sg []) ⟨(e1 k k),trivial⟩ trivial k)<|aP ?_
  obtain rfl:=so h
  exact aU k k k (bT k)
def rU (a0:Rp) (a1:(List Int)):Option Bool:=
 Option.bind (nG a0 a1) fun v1=>
 bif v1 then
 (Option.bind (pK a0) fun v3=>
 Option.bind (cW v3 (fun b0=>oO b0 a0 a1)) fun v4=>
 some (!v4))
 else
 (some (false))
theorem aFg (a0:Rp) (a1:(List Int)) (r:Bool) (h:rU a0 a1=some r):HasC Tryz.prog 29 [.agg (eR a0),.list 1 (List.map eI a1)] (.bl r):=by
 refine bK aA (rvs:=[.tmp 4]) (ns:=[0,1,2,3,4]) Tryz.func29 k k Tryz.ntmps29 k k k<|sQ<|rg<|ae (cC k k k k) k<|ae (cC k k k k) k<|aa k k<|an<|tn<|sQ<|rg ?_
 refine ae (aC aA k k k k k k k) k<|ae (aC aA k k k k k k k) k ?_
 obtain ⟨v1,hv1,h⟩:=ob h
 refine ae (aZ (aFf a0 a1 v1 hv1) k (aG (cA (aM (aQ k) (aM (aQ k) (aM (aQ k) (aM (aQ k) (aM (aQ k) (aM (aQ k) cF))))))) (aG (aI k) bA))) k<|am k k ?_
 rcases cb h with ⟨q2,h⟩|⟨q2,h⟩
 ·refine aX 8 k q2<|ae (aC aA k k k k k k k) k ?_
  obtain ⟨v3,hv3,h⟩:=ob h
  refine ae (AEff.conv (cR (x:= .own 2 0 (List.map (dA 2 eS) v3).length) (nb:=[(2,⟨1,cX (List.map (dA 2 eS) v3)⟩)]) (aGy a0 v3 hv3) k (by rfl) k k (cI.good _) (aG (cA (aM (aQ k) (aM (aQ k) (aM (aQ k) (aM (aQ k) (aM (aQ k) (aM (aQ k) cF))))))) bA)) (v':= .own 2 0 v3.length) (ed':=[(2,some ⟨1,List.map (ow (dA 2 eS)) v3⟩)]) (by simp only [bD]) (eJ (nb':=[(2,⟨1,List.map (ow (dA 2 eS)) v3⟩)]) (by simp only [cT]))) k<|ae (wI (vs:=[.ptr 0 0 0,.ptr 1 0 0]) k (by simp)) k ?_
  obtain ⟨v4,hv4,h⟩:=ob h
  refine ae (aZ (kS v3 (fun b0=>oO b0 a0 a1) k (fun b0 r h=>aDc b0 a0 a1 r h) v4 hv4) k (aG (aAl cI k k) (aG (aGX (yD (aAo k k (aM (aQ k) (aM (aQ k) (aM (aQ k) (aM (aQ k) (aM (aQ k) (aM (aQ k) cF))))))) (yD (aAo k k (aM (aQ k) cF)) aAI))) bA))) k<|ae (cG k) k<|ae (aJ k k) k<|aa k k<|an<|tn<|aO (t:=bU [(4,.bl (!v4))] [] 3 [3,4]) (aE (σ:=sg []) ⟨(e1 k k),trivial⟩ trivial k)<|aP ?_
  obtain rfl:=so h
  exact aU k k k (bT k)
 ·refine aX 8 k q2<|ak k k<|ak k k<|ak k k<|ak k k<|ak k k<|ae (aJ k k) k<|aa k k<|an<|tn ?_
  refine aO (t:=bU [(4,.bl false)] [] 2 [2,3,4]) (aE (σ:=sg []) ⟨(e1 k k),trivial⟩ trivial k)<|aP ?_
  obtain rfl:=so h
  exact aU k k k (bT k)
def oP (a0:Rp) (x1:(Int×Int)):Option ((Int×Int) ⊕ Int):=
 bif decide (x1.2<(a0.dims.length:Int)) then
 (Option.bind (dV a0.dims x1.2) fun v4=>
 some (.inl (wr (x1.1*(wr (v4+1))),wr (x1.2+1))))
 else
 (some (.inr x1.1))
def kM (a0:Rp) (x3:((List Int)×Int×Int)):Option (((List Int)×Int×Int) ⊕ (List Int)):=
 bif decide (0≤x3.2.2) then
 (Option.bind (dV a0.dims x3.2.2) fun v8=>
 bif !decide (wr (v8+1)=0) then
 (Option.bind (dV x3.1 x3.2.2) fun v9=>
 Option.bind (dV a0.dims x3.2.2) fun v10=>
 bif !decide (wr (v10+1)=0) then
 (some (.inl ((x3.1.set x3.2.2.toNat (x3.2.1.tmod (wr (v8+1)))),wr (x3.2.1.tdiv (wr (v10+1))),wr (x3.2.2 - 1))))
 else none)
 else none)
 else
 (some (.inr x3.1))
def oS (a0:Rp) (y5:Int) (x2:((List (List Sc))×Int)):Option (((List (List Sc))×Int) ⊕ (List (List Sc))):=
 bif decide (x2.2<y5) then
 (bif (decide (0≤(a0.dims.length:Int))&&decide ((a0.dims.length:Int)≤1048576)) then
 (Option.bind (Lp (kM a0) ((List.replicate ((a0.dims.length:Int).toNat) (0:Int)),x2.2,wr ((((List.replicate ((a0.dims.length:Int).toNat) (0:Int)).length:Nat):Int) - 1))) fun y13=>
 Option.bind (nF a0 y13) fun v14=>
 bif decide (x2.1.length+v14.1.length≤4294967296) then
 (some (.inl ((x2.1++v14.1),wr (x2.2+1))))
 else none)
 else none)
 else
 (some (.inr x2.1))
def pL (a0:Rp):Option ((List (List Sc))×Bool):=
 Option.bind (pH a0) fun v1=>
 bif !v1 then
 (some (([]:(List (List Sc))),false))
 else
 (Option.bind (Lp (oP a0) (1,0)) fun y5=>
 Option.bind (Lp (oS a0 y5) (([]:(List (List Sc))),0)) fun y17=>
 some (y17,true))
theorem aGz (a0:Rp) (r:((List (List Sc))×Bool)) (h:pL a0=some r):HasE Tryz.prog 36 [.agg (eR a0)] [] 0 (.tuple [.own 0 0 r.1.length,.bl r.2]) [(0,⟨1,List.map (dA 2 eS) r.1⟩)]:=by
 refine tM aA (rvs:=[.tmp 2,.tmp 3]) (ns:=[0,1,2,3,4,5,6]) Tryz.func36 k k Tryz.ntmps36 k k<|sQ<|rg<|ae (cC k k k k) k<|aa k k<|aa k k<|an<|tn<|sQ<|rg ?_
 refine ae (cS aA k k k k k k k k k k k k) k<|aa k k<|an<|tn<|aO (t:=bU [(1,.ptr 0 0 0),(4,.own 1 0 (([]:(List (List Sc))).length))] [(0,⟨6,[[.int a0.p,.int a0.q.n,.list 1 (List.map eI a0.q.src),.list 1 (List.map eI a0.q.tgt),.list 1 (List.map eI a0.dims),.list 3 (List.map eM a0.maps)]]⟩),(1,⟨1,List.map (ow (dA 2 eS)) ([]:(List (List Sc)))⟩)] 2 [2,3,4,5,6] ⟨0,false,none,true⟩) (aE (σ:=sg [(0,0),(1,1)]) ⟨(pE k k),⟨_,k,⟨k,k,(by simp only [bD,lA,lT,lR,lC,lN]),k⟩⟩,trivial⟩ (hP k k k k<|hB (cI.plainO _) k k k<|trivial) k)<|sQ<|sQ<|rg<|ae (aC aA k k k k k k k) k ?_
 obtain ⟨v1,hv1,h⟩:=ob h
 refine ae (aZ (aBB a0 v1 hv1) k (aG (cA (aM (aQ k) (aM (aQ k) (aM (aQ k) (aM (aQ k) (aM (aQ k) (aM (aQ k) cF))))))) bA)) k<|ae (cG k) k<|an<|tn ?_
 rcases cb h with ⟨q2,h⟩|⟨q2,h⟩
 ·refine aL k q2<|sQ<|rg<|am k k<|aa k k<|aa k k<|an<|tn<|aP<|aK ?_
  obtain rfl:=so h
  exact ⟨bU [(2,.own 0 0 (([]:(List (List Sc))).length)),(3,.bl false)] [(0,⟨1,List.map (dA 2 eS) ([]:(List (List Sc)))⟩)] 1 [1,2,3,4,5,6] ⟨0,false,none,true⟩,(Ent.trans (pD (b:=1) cI k) (aE (σ:=sg [(0,1)]) ⟨(oE k k),(e1 k k),trivial⟩ (hB (cI.plainE _) k k k<|trivial) k)),k,⟨_,k,.inr ⟨(by simp),k,k⟩⟩,⟨k,trivial⟩⟩
 ·refine aS k q2<|aT<|tn<|sQ<|rg<|aa k k<|an<|tn<|sQ<|sQ ?_
  refine rg<|aa k k<|an<|tn<|aN ?_
  obtain ⟨y5,hy5,h⟩:=ob h
  refine cU (body:=(oP a0)) hy5 (fun (x1:(Int×Int))=>bU [(1,.ptr 0 0 0),(4,.own 1 0 (([]:(List (List Sc))).length)),(5,.int x1.1),(6,.int x1.2)] [(0,⟨6,[[.int a0.p,.int a0.q.n,.list 1 (List.map eI a0.q.src),.list 1 (List.map eI a0.q.tgt),.list 1 (List.map eI a0.dims),.list 3 (List.map eM a0.maps)]]⟩),(1,⟨1,List.map (ow (dA 2 eS)) ([]:(List (List Sc)))⟩)] 2 [2,3,4,5,6] ⟨0,false,none,true⟩) (fun r e t=>e= .exit 0∧Ent t (bU [(1,.ptr 0 0 0),(4,.own 1 0 (([]:(List (List Sc))).length)),(5,.int r)] [(0,⟨6,[[.int a0.p,.int a0.q.n,.list 1 (List.map eI a0.q.src),.list 1 (List.map eI a0.q.tgt),.list 1 (List.map eI a0.dims),.list 3 (List.map eM a0.maps)]]⟩),(1,⟨1,List.map (ow (dA 2 eS)) ([]:(List (List Sc)))⟩)] 2 [2,3,4,5,6] ⟨0,false,none,true⟩)) (aE (σ:=sg [(0,0),(1,1)]) ⟨(pE k k),(oE k k),(e1 k k),(e1 k k),trivial⟩ (hP k k k k<|hB (cI.plainO _) k k k<|trivial) k) ?_ ?_
  ·intro x1 o h
   refine sQ<|sQ<|rg<|am k k<|ae (aD aA k k k k k k k) k<|ae (aC aA k k k k k k k) k<|ae (dD aA k k k) k<|ae (bC k k k) k<|an<|tn ?_
   rcases cb h with ⟨q3,h⟩|⟨q3,h⟩
   ·refine aL k q3<|aT<|tn<|sQ<|aN<|rg<|am k k<|ae (aD aA k k k k k k k) k<|ae (aC aA k k k k k k k) k<|am k k ?_
    obtain ⟨v4,hv4,h⟩:=ob h
    refine ae (bH aA hv4 k k k k k k) k<|ae (aV aA k k k k k k) k<|ae (bV k k) k<|ae (fP k k) k<|aa k k<|an<|bE<|tn<|aO (t:=bU [(1,.ptr 0 0 0),(4,.own 1 0 (([]:(List (List Sc))).length)),(5,.int (wr (x1.1*(wr (v4+1))))),(6,.int x1.2)] [(0,⟨6,[[.int a0.p,.int a0.q.n,.list 1 (List.map eI a0.q.src),.list 1 (List.map eI a0.q.tgt),.list 1 (List.map eI a0.dims),.list 3 (List.map eM a0.maps)]]⟩),(1,⟨1,List.map (ow (dA 2 eS)) ([]:(List (List Sc)))⟩)] 2 [2,3,4,5,6] ⟨0,false,none,true⟩) (aE (σ:=sg [(0,0),(1,1)]) ⟨(pE k k),(oE k k),(e1 k k),(e1 k k),trivial⟩ (hP k k k k<|hB (cI.plainO _) k k k<|trivial) k)<|rg ?_
    refine am k k<|ae (bV k k) k<|aa k k<|an<|tn ?_
    obtain rfl:=so h
    exact ⟨_,k,(aE (σ:=sg [(0,0),(1,1)]) ⟨(pE k k),(oE k k),(e1 k k),(e1 k k),trivial⟩ (hP k k k k<|hB (cI.plainO _) k k k<|trivial) k)⟩
   ·refine aS k q3<|bG<|aH<|aH ?_
    obtain rfl:=so h
    exact ⟨_,k,k,(aE (σ:=sg [(0,0),(1,1)]) ⟨(pE k k),(oE k k),(e1 k k),trivial⟩ (hP k k k k<|hB (cI.plainO _) k k k<|trivial) k)⟩
  ·rintro e t ⟨rfl,hent⟩
   refine aW<|tn<|aO hent<|sQ<|sQ<|rg<|aa k k<|an<|tn<|aN ?_
   obtain ⟨y17,hy17,h⟩:=ob h
   refine cU (body:=(oS a0 y5)) hy17 (fun (x2:((List (List Sc))×Int))=>bU [(1,.ptr 0 0 0),(4,.own 1 0 x2.1.length),(5,.int y5),(7,.int x2.2)] [(0,⟨6,[[.int a0.p,.int a0.q.n,.list 1 (List.map eI a0.q.src),.list 1 (List.map eI a0.q.tgt),.list 1 (List.map eI a0.dims),.list 3 (List.map eM a0.maps)]]⟩),(1,⟨1,List.map (dA 2 eS) x2.1⟩)] 2 [2,3,4,5,6] ⟨0,false,none,true⟩) (fun r e t=>e= .exit 2∧Ent t (bU [(4,.own 0 0 r.length)] [(0,⟨1,List.map (dA 2 eS) r⟩)] 1 [1,2,3,4,5,6] ⟨0,false,none,true⟩)) (aE (σ:=sg [(0,0),(1,1)]) ⟨(pE k k),(oE k k),(e1 k k),(e1 k k),trivial⟩ (hP k k k k<|hB (cI.plainE _) k k k<|trivial) k) ?_ ?_
   ·intro x2 o h
    refine sQ<|sQ<|rg<|am k k<|am k k<|ae (bC k k k) k<|an<|tn ?_
    rcases cb h with ⟨q6,h⟩|⟨q6,h⟩
    ·refine aL k q6<|aT<|tn<|sQ<|aN<|sQ<|rg<|ae (aD aA k k k k k k k) k<|ae (aC aA k k k k k k k) k<|ae (dD aA k k k) k ?_
     obtain ⟨q16,h⟩:=cg h
     refine ae (aAJ aA q16 k k k k k k k k) k<|aa k k<|an<|tn<|aO (t:=bU [(1,.ptr 0 0 0),(4,.own 1 0 x2.1.length),(5,.int y5),(7,.int x2.2),(8,.own 2 0 ((List.replicate ((a0.dims.length:Int).toNat) (0:Int)).length))] [(0,⟨6,[[.int a0.p,.int a0.q.n,.list 1 (List.map eI a0.q.src),.list 1 (List.map eI a0.q.tgt),.list 1 (List.map eI a0.dims),.list 3 (List.map eM a0.maps)]]⟩),(1,⟨1,List.map (dA 2 eS) x2.1⟩),(2,⟨1,List.map (ow eI) (List.replicate ((a0.dims.length:Int).toNat) (0:Int))⟩)] 3 [3,4,5,6] ⟨0,false,none,true⟩) (aE (σ:=sg [(0,0),(1,1),(2,2)]) ⟨(pE k k),(oE k k),(e1 k k),(e1 k k),⟨_,k,⟨k,k,(by simp only [bD,lA,lT,lR,lC,lN]),k⟩⟩,trivial⟩ (hP k k k k<|hB (cI.plainE _) k k k<|hX ⟨_,k,k,.inl ⟨aAn (e:=eI) (z:=0) _,eD.plainO _⟩⟩ k<|trivial) k)<|sQ<|rg<|am k k<|aa k k<|an ?_
     refine tn<|sQ<|sQ<|rg<|am k k<|ae (bW aA k k k k) k<|ae (iH k k) k<|aa k k<|an<|tn ?_
     refine aN ?_
     obtain ⟨y13,hy13,h⟩:=ob h
     refine cU (body:=(kM a0)) hy13 (fun (x3:((List Int)×Int×Int))=>bU [(1,.ptr 0 0 0),(4,.own 1 0 x2.1.length),(5,.int y5),(7,.int x2.2),(8,.own 2 0 x3.1.length),(9,.int x3.2.1),(10,.int x3.2.2)] [(0,⟨6,[[.int a0.p,.int a0.q.n,.list 1 (List.map eI a0.q.src),.list 1 (List.map eI a0.q.tgt),.list 1 (List.map eI a0.dims),.list 3 (List.map eM a0.maps)]]⟩),(1,⟨1,List.map (dA 2 eS) x2.1⟩),(2,⟨1,List.map (ow eI) x3.1⟩)] 3 [3,4,5,6] ⟨0,false,none,true⟩) (fun r e t=>e= .exit 4∧Ent t (bU [(1,.ptr 0 0 0),(4,.own 1 0 x2.1.length),(5,.int y5),(7,.int x2.2),(8,.own 2 0 r.length)] [(0,⟨6,[[.int a0.p,.int a0.q.n,.list 1 (List.map eI a0.q.src),.list 1 (List.map eI a0.q.tgt),.list 1 (List.map eI a0.dims),.list 3 (List.map eM a0.maps)]]⟩),(1,⟨1,List.map (dA 2 eS) x2.1⟩),(2,⟨1,List.map (ow eI) r⟩)] 3 [3,4,5,6] ⟨0,false,none,true⟩)) (aE (σ:=sg [(0,0),(1,1),(2,2)]) ⟨(pE k k),(oE k k),(e1 k k),(e1 k k),(oE k k),(e1 k k),(e1 k k),trivial⟩ (hP k k k k<|hB (cI.plainE _) k k k<|hI k k k<|trivial) k) ?_ ?_
     ·intro x3 o h
      refine sQ<|sQ<|rg<|am k k<|ae (bC k k k) k<|an<|tn ?_
      rcases cb h with ⟨q7,h⟩|⟨q7,h⟩
      ·refine aL k q7<|aT<|tn<|sQ<|aN<|sQ<|rg<|am k k<|am k k<|am k k ?_
       refine ae (aD aA k k k k k k k) k<|ae (aC aA k k k k k k k) k<|am k k ?_
       obtain ⟨v8,hv8,h⟩:=ob h
       refine ae (bH aA hv8 k k k k k k) k<|ae (aV aA k k k k k k) k<|ae (bV k k) k ?_
       obtain ⟨q12,h⟩:=cg h
       refine ae (aDB k k q12) k ?_
       obtain ⟨v9,hv9,h⟩:=ob h
       refine ae (cY aA (eU hv9) (eV hv9) k k k k k k k) k<|ae (iI aA tG (u:=x3.2.1.tmod (wr (v8+1))) (dO hv9) k k k k k k) k<|an<|tn<|aO (t:=bU [(1,.ptr 0 0 0),(4,.own 1 0 x2.1.length),(5,.int y5),(7,.int x2.2),(8,.own 2 0 ((x3.1.set x3.2.2.toNat (x3.2.1.tmod (wr (v8+1)))).length)),(9,.int x3.2.1),(10,.int x3.2.2)] [(0,⟨6,[[.int a0.p,.int a0.q.n,.list 1 (List.map eI a0.q.src),.list 1 (List.map eI a0.q.tgt),.list 1 (List.map eI a0.dims),.list 3 (List.map eM a0.maps)]]⟩),(1,⟨1,List.map (dA 2 eS) x2.1⟩),(2,⟨1,List.map (ow eI) (x3.1.set x3.2.2.toNat (x3.2.1.tmod (wr (v8+1))))⟩)] 3 [3,4,5,6] ⟨0,false,none,true⟩) (aE (σ:=sg [(0,0),(1,1),(2,2)]) ⟨(pE k k),(oE k k),(e1 k k),(e1 k k),⟨_,k,⟨k,k,(by simp only [bD,lA,lT,lR,lC,lN]),k⟩⟩,(e1 k k),(e1 k k),trivial⟩ (hP k k k k<|hB (cI.plainE _) k k k<|hI k k k<|trivial) k)<|rg<|am k k<|ae (aD aA k k k k k k k) k<|ae (aC aA k k k k k k k) k<|am k k ?_
       obtain ⟨v10,hv10,h⟩:=ob h
       refine ae (bH aA hv10 k k k k k k) k<|ae (aV aA k k k k k k) k<|ae (bV k k) k ?_
       obtain ⟨q11,h⟩:=cg h
       refine ae (aOP k k q11) k<|aa k k<|an<|bE<|tn<|rg<|am k k<|ae (iH k k) k<|aa k k<|an ?_
       refine tn ?_
       obtain rfl:=so h
       exact ⟨_,k,(aE (σ:=sg [(0,0),(1,1),(2,2)]) ⟨(pE k k),(oE k k),(e1 k k),(e1 k k),(oE k k),(e1 k k),(e1 k k),trivial⟩ (hP k k k k<|hB (cI.plainE _) k k k<|hI k k k<|trivial) k)⟩
      ·refine aS k q7<|bG<|aH<|aH ?_
       obtain rfl:=so h
       exact ⟨_,k,k,(aE (σ:=sg [(0,0),(1,1),(2,2)]) ⟨(pE k k),(oE k k),(e1 k k),(e1 k k),(oE k k),trivial⟩ (hP k k k k<|hB (cI.plainE _) k k k<|hI k k k<|trivial) k)⟩
     ·rintro e t ⟨rfl,hent⟩
      refine aW<|tn<|aO hent<|sQ<|rg<|ae (aC aA k k k k k k k) k<|am k k ?_
      obtain ⟨v14,hv14,h⟩:=ob h
      refine ae (uB (σ:=sg []) (σ':=sg [(3,0)]) (touch:=[2]) (news:=[3]) (hl2:=[(3,⟨1,List.map (dA 2 eS) v14.1⟩)]) (n':=4) (r2:= .tuple [.own 3 0 v14.1.length,.bl v14.2]) (aFe a0 y13 v14 hv14) k k ⟨_,_,k,(.inl ⟨_,_,k,k,⟨_,_,k,k,⟨_,_,k,⟨k,k⟩,⟨_,_,k,⟨k,k⟩,⟨_,_,k,⟨k,k⟩,⟨_,_,k,⟨k,k⟩,k⟩⟩⟩⟩⟩⟩),⟨_,_,k,(.inr ⟨(tK eD k k),k,k⟩),k⟩⟩ trivial k k k ⟨⟨_,k,k,.inl ⟨k,cI.plainE _⟩⟩,k,trivial⟩ k (.inr ⟨_,_,k,k,⟨_,_,k,⟨k,k,(by simp only [bD,lA,lT,lR,lC,lN]),k⟩,⟨_,_,k,k,k⟩⟩⟩) k ⟨k,cI.tamdE _ _,trivial⟩ k k) k<|am k k<|ae (bO k k (by intro _ h;cases h)) k<|ae (bO k k (by intro _ h;cases h)) k<|aa k k<|aa k k<|an<|tn<|rg<|am k k ?_
      refine am k k ?_
      obtain ⟨q15,h⟩:=cg h
      refine ae (uN aA (l:=x2.1) (m:=v14.1) cI q15 k k k k k ((aQA cI k k)) k k k k k k) k<|aa k k<|an<|bE<|tn<|aO (t:=bU [(1,.ptr 0 0 0),(4,.own 4 0 ((x2.1++v14.1).length)),(5,.int y5),(7,.int x2.2)] [(0,⟨6,[[.int a0.p,.int a0.q.n,.list 1 (List.map eI a0.q.src),.list 1 (List.map eI a0.q.tgt),.list 1 (List.map eI a0.dims),.list 3 (List.map eM a0.maps)]]⟩),(4,⟨1,List.map (dA 2 eS) (x2.1++v14.1)⟩)] 5 [5,6] ⟨0,false,none,true⟩) (aE (σ:=sg [(0,0),(4,4)]) ⟨(pE k k),(oE k k),(e1 k k),(e1 k k),trivial⟩ (hP k k k k<|hB (cI.plainE _) k k k<|trivial) k)<|rg<|am k k<|ae (bV k k) k<|aa k k ?_
      refine an<|tn ?_
      obtain rfl:=so h
      exact ⟨_,k,(aE (σ:=sg [(0,0),(1,4)]) ⟨(pE k k),(oE k k),(e1 k k),(e1 k k),trivial⟩ (hP k k k k<|hB (cI.plainE _) k k k<|trivial) k)⟩
    ·refine aS k q6<|bG<|aH<|aH ?_
     obtain rfl:=so h
     exact ⟨_,k,k,(aE (σ:=sg [(0,1)]) ⟨(oE k k),trivial⟩ (hB (cI.plainE _) k k k<|trivial) k)⟩
   ·rintro e t ⟨rfl,hent⟩
    refine aW<|tn<|aO hent<|sQ<|rg<|am k k<|aa k k<|aa k k<|an<|tn ?_
    refine aP ?_
    obtain rfl:=so h
    exact ⟨bU [(2,.own 0 0 y17.length),(3,.bl true)] [(0,⟨1,List.map (dA 2 eS) y17⟩)] 1 [1,2,3,4,5,6] ⟨0,false,none,true⟩,(aE (σ:=sg [(0,0)]) ⟨(oE k k),(e1 k k),trivial⟩ (hB (cI.plainE _) k k k<|trivial) k),k,⟨_,k,.inr ⟨(by simp),k,k⟩⟩,⟨k,trivial⟩⟩
def oT (a0:Rp) (a1:(List Sc)) (x1:((List Int)×Int)):Option (((List Int)×Int) ⊕ (List Int)):=
 bif decide (x1.2<(a1.length:Int)) then
 (Option.bind (uD a0 a1) fun v2=>
 bif v2 then
 (Option.bind (dV a1 x1.2) fun v4=>
 bif decide (x1.1.length+[(v4.basis.length:Int)].length ≤4294967296) then
 (some (.inl ((x1.1++[(v4.basis.length:Int)]),wr (x1.2+1))))
 else none)
 else
 (some (.inr x1.1)))
 else
 (some (.inr x1.1))
def pM (a0:Rp) (a1:(List Sc)):Option (List Int):=
 Option.bind (Lp (oT a0 a1) (([]:(List Int)),0)) fun y6=>
 some (y6)
theorem aHA (a0:Rp) (a1:(List Sc)) (r:(List Int)) (h:pM a0 a1=some r):HasC Tryz.prog 81 [.agg (eR a0),.list 2 (List.map eS a1)] (.list 1 (List.map eI r)):=by
 refine bK aA (rvs:=[.tmp 4]) (ns:=[0,1,2,3,4,5]) Tryz.func81 k k Tryz.ntmps81 k k k<|sQ<|rg<|ae (cC k k k k) k<|aa k k<|an<|tn<|sQ<|rg<|ae (cS aA k k k k k k k k k k k k) k ?_
 refine aa k k<|an<|tn<|aO (t:=bU [(1,.list 2 (List.map eS a1)),(2,.ptr 0 0 0),(5,.own 1 0 (([]:(List Int)).length))] [(0,⟨6,[[.int a0.p,.int a0.q.n,.list 1 (List.map eI a0.q.src),.list 1 (List.map eI a0.q.tgt),.list 1 (List.map eI a0.dims),.list 3 (List.map eM a0.maps)]]⟩),(1,⟨1,List.map (ow eI) ([]:(List Int))⟩)] 2 [2,3,4,5]) (aE (σ:=sg [(0,0),(1,1)]) ⟨⟨_,k,⟨k,k⟩⟩,(pE k k),⟨_,k,⟨k,k,(by simp only [bD,lA,lT,lR,lC,lN]),k⟩⟩,trivial⟩ (hP k k k k<|hI k k k<|trivial) k)<|sQ<|sQ<|rg<|aa k k<|an<|tn ?_
 refine aN ?_
 obtain ⟨y6,hy6,h⟩:=ob h
 refine cU (body:=(oT a0 a1)) hy6 (fun (x1:((List Int)×Int))=>bU [(1,.list 2 (List.map eS a1)),(2,.ptr 0 0 0),(5,.own 1 0 x1.1.length),(6,.int x1.2)] [(0,⟨6,[[.int a0.p,.int a0.q.n,.list 1 (List.map eI a0.q.src),.list 1 (List.map eI a0.q.tgt),.list 1 (List.map eI a0.dims),.list 3 (List.map eM a0.maps)]]⟩),(1,⟨1,List.map (ow eI) x1.1⟩)] 2 [2,3,4,5]) (fun r e t=>e= .exit 0∧Ent t (bU [(5,.own 0 0 r.length)] [(0,⟨1,List.map (ow eI) r⟩)] 1 [1,2,3,4,5])) (aE (σ:=sg [(0,0),(1,1)]) ⟨⟨_,k,⟨k,k⟩⟩,(pE k k),(oE k k),(e1 k k),trivial⟩ (hP k k k k<|hI k k k<|trivial) k) ?_ ?_
 ·intro x1 o h
  refine sQ<|sQ<|rg<|am k k<|am k k<|ae (dD aA k k k) k<|ae (bC k k k) k<|am k k ?_
  rcases cb h with ⟨q1,h⟩|⟨q1,h⟩
  ·refine aX 12 k q1<|ae (aC aA k k k k k k k) k<|am k k ?_
   obtain ⟨v2,hv2,h⟩:=ob h
   refine ae (aZ (aDb a0 a1 v2 hv2) k (aG (cA (aM (aQ k) (aM (aQ k) (aM (aQ k) (aM (aQ k) (aM (aQ k) (aM (aQ k) cF))))))) (aG (aI k) bA))) k<|ae (aJ k k) k<|an<|tn ?_
   rcases cb h with ⟨q3,h⟩|⟨q3,h⟩
   ·refine aL k q3<|aT<|tn<|sQ<|aN<|rg<|am k k<|am k k<|am k k ?_
    obtain ⟨v4,hv4,h⟩:=ob h
    refine ae (bH aA hv4 k k k k k k) k<|ae (bY aA k k k k k k) k<|ae (aV aA k k k k k k) k<|ae (dD aA k k k) k<|ae (cS aA k k k k k k k k k k k k) k ?_
    obtain ⟨q5,h⟩:=cg h
    refine ae (uN aA (l:=x1.1) (m:=[(v4.basis.length:Int)]) tG q5 k k k k k k k k k k k k) k<|aa k k<|an<|bE<|tn<|aO (t:=bU [(1,.list 2 (List.map eS a1)),(2,.ptr 0 0 0),(5,.own 3 0 ((x1.1++[(v4.basis.length:Int)]).length)),(6,.int x1.2)] [(0,⟨6,[[.int a0.p,.int a0.q.n,.list 1 (List.map eI a0.q.src),.list 1 (List.map eI a0.q.tgt),.list 1 (List.map eI a0.dims),.list 3 (List.map eM a0.maps)]]⟩),(3,⟨1,List.map (ow eI) (x1.1++[(v4.basis.length:Int)])⟩)] 4 [4,5]) (aE (σ:=sg [(0,0),(3,3)]) ⟨⟨_,k,⟨k,k⟩⟩,(pE k k),(oE k k),(e1 k k),trivial⟩ (hP k k k k<|hI k k k<|trivial) k)<|rg<|am k k<|ae (bV k k) k<|aa k k ?_
    refine an<|tn ?_
    obtain rfl:=so h
    exact ⟨_,k,(aE (σ:=sg [(0,0),(1,3)]) ⟨⟨_,k,⟨k,k⟩⟩,(pE k k),(oE k k),(e1 k k),trivial⟩ (hP k k k k<|hI k k k<|trivial) k)⟩
   ·refine aS k q3<|bG<|aH<|aH ?_
    obtain rfl:=so h
    exact ⟨_,k,k,(aE (σ:=sg [(0,1)]) ⟨(oE k k),trivial⟩ (hI k k k<|trivial) k)⟩
  ·refine aX 12 k q1<|ak k k<|ak k k<|ak k k<|ae (aJ k k) k<|an<|tn<|aS k k<|bG<|aH ?_
   refine aH ?_
   obtain rfl:=so h
   exact ⟨_,k,k,(aE (σ:=sg [(0,1)]) ⟨(oE k k),trivial⟩ (hI k k k<|trivial) k)⟩
 ·rintro e t ⟨rfl,hent⟩
  refine aW<|tn<|aO hent<|sQ<|rg<|am k k<|aa k k<|an<|tn<|aP ?_
  obtain rfl:=so h
  exact aU k k k (mB (iQ eD k k))
def oU (a0:(List Int)) (a1:(List Int)) (x1:Int):Option (Int ⊕ (Unit ⊕ Bool)):=
 bif decide (x1<(a0.length:Int)) then
 (Option.bind (dV a0 x1) fun v2=>
 Option.bind (fD v2 (-20) 20) fun v3=>
 bif !v3 then
 (some (.inr (.inr (false))))
 else
 (bif decide (x1<(a1.length:Int)) then
 (Option.bind (dV a1 x1) fun v6=>
 Option.bind (fD v6 0 100) fun v7=>
 bif !v7 then
 (some (.inr (.inr (false))))
 else
 (some (.inl (wr (x1+1)))))
 else
 (some (.inl (wr (x1+1))))))
 else
 (some (.inr (.inl ())))
def iD (a0:(List Int)) (a1:(List Int)):Option Bool:=
 Option.bind (Lp (oU a0 a1) 0) fun y9=>
 Sum.elim (fun y10=>
 bif decide ((a0.length:Int)=(a1.length:Int)) then
 (some (decide ((a0.length:Int)≤100)))
 else
 (some (false))
 )
 (fun y12=>
 some y12
 )
 y9
theorem uF (a0:(List Int)) (a1:(List Int)) (r:Bool) (h:iD a0 a1=some r):HasC Tryz.prog 78 [.list 1 (List.map eI a0),.list 1 (List.map eI a1)] (.bl r):=by
 refine bK aA (rvs:=[.tmp 4]) (ns:=[0,1]) Tryz.func78 k k Tryz.ntmps78 k k k<|sQ<|rg<|aa k k<|an<|tn<|sQ<|sQ<|rg<|aa k k ?_
 refine an<|tn<|aN ?_
 obtain ⟨y9,hy9,h⟩:=ob h
 refine cU (body:=(oU a0 a1)) hy9 (fun (x1:Int)=>bU [(0,.list 1 (List.map eI a0)),(1,.list 1 (List.map eI a1)),(5,.int x1)] [] 0 [0,1]) (fun r e t=>Sum.elim (fun a=>(fun r e t=>e= .exit 0∧Ent t (bU [(0,.list 1 (List.map eI a0)),(1,.list 1 (List.map eI a1))] [] 0 [0,1])) a e t) (fun b=>(fun r e t=>e= .ret∧sA TT [.tmp 4] (.bl r) .ret t) b e t) r) (aE (σ:=sg []) ⟨⟨_,k,⟨k,k⟩⟩,⟨_,k,⟨k,k⟩⟩,(e1 k k),trivial⟩ trivial k) ?_ ?_
 ·intro x1 o h
  refine sQ<|sQ<|rg<|am k k<|am k k<|ae (dD aA k k k) k<|ae (bC k k k) k<|an<|tn ?_
  rcases cb h with ⟨q1,h⟩|⟨q1,h⟩
  ·refine aL k q1<|aT<|tn<|sQ<|aN<|sQ<|rg<|am k k<|am k k ?_
   obtain ⟨v2,hv2,h⟩:=ob h
   refine ae (bH aA hv2 k k k k k k) k<|ae (aV aA k k k k k k) k ?_
   obtain ⟨v3,hv3,h⟩:=ob h
   refine ae (aZ (fV v2 (-20) 20 v3 hv3) k (aG (aI k) (aG (aI k) (aG (aI k) bA)))) k<|ae (cG k) k<|am k k ?_
   rcases cb h with ⟨q4,h⟩|⟨q4,h⟩
   ·refine aX 18 k q4<|ak k k<|ak k k<|ak k k<|ak k k<|ak k k<|ak k k<|ak k k<|ak k k<|ak k k ?_
    refine ak k k<|ak k k<|ak k k<|ae (aJ k k) k<|an<|tn<|aO (t:=bU [(0,.list 1 (List.map eI a0)),(1,.list 1 (List.map eI a1)),(5,.int x1),(31,.bl true)] [] 0 [0,1]) (aE (σ:=sg []) ⟨⟨_,k,⟨k,k⟩⟩,⟨_,k,⟨k,k⟩⟩,(e1 k k),(e1 k k),trivial⟩ trivial k)<|aL k k<|sQ<|rg ?_
    refine aa k k<|an<|tn<|aP<|bB<|aK<|aK ?_
    obtain rfl:=so h
    exact ⟨_,k,k,aU k k k (bT k)⟩
   ·refine aX 18 k q4<|am k k<|am k k<|ae (dD aA k k k) k<|ae (bC k k k) k<|am k k ?_
    rcases cb h with ⟨q5,h⟩|⟨q5,h⟩
    ·refine aX 23 k q5<|am k k<|am k k ?_
     obtain ⟨v6,hv6,h⟩:=ob h
     refine ae (bH aA hv6 k k k k k k) k<|ae (aV aA k k k k k k) k ?_
     obtain ⟨v7,hv7,h⟩:=ob h
     refine ae (aZ (fV v6 0 100 v7 hv7) k (aG (aI k) (aG (aI k) (aG (aI k) bA)))) k<|ae (cG k) k<|ae (aJ k k) k<|ae (aJ k k) k<|an<|tn<|aO (t:=bU [(0,.list 1 (List.map eI a0)),(1,.list 1 (List.map eI a1)),(5,.int x1),(31,.bl (!v7))] [] 0 [0,1]) (aE (σ:=sg []) ⟨⟨_,k,⟨k,k⟩⟩,⟨_,k,⟨k,k⟩⟩,(e1 k k),(e1 k k),trivial⟩ trivial k) ?_
     rcases cb h with ⟨q8,h⟩|⟨q8,h⟩
     ·refine aL k q8<|sQ<|rg<|aa k k<|an<|tn<|aP<|bB<|aK<|aK ?_
      obtain rfl:=so h
      exact ⟨_,k,k,aU k k k (bT k)⟩
     ·refine aS k q8<|aT<|bE<|tn<|rg<|am k k<|ae (bV k k) k<|aa k k<|an<|tn ?_
      obtain rfl:=so h
      exact ⟨_,k,(aE (σ:=sg []) ⟨⟨_,k,⟨k,k⟩⟩,⟨_,k,⟨k,k⟩⟩,(e1 k k),trivial⟩ trivial k)⟩
    ·refine aX 23 k q5<|ak k k<|ak k k<|ak k k<|ak k k<|ak k k<|ak k k<|ae (aJ k k) k<|ae (aJ k k) k<|an ?_
     refine tn<|aO (t:=bU [(0,.list 1 (List.map eI a0)),(1,.list 1 (List.map eI a1)),(5,.int x1),(31,.bl false)] [] 0 [0,1]) (aE (σ:=sg []) ⟨⟨_,k,⟨k,k⟩⟩,⟨_,k,⟨k,k⟩⟩,(e1 k k),(e1 k k),trivial⟩ trivial k)<|aS k k<|aT<|bE<|tn<|rg<|am k k<|ae (bV k k) k<|aa k k ?_
     refine an<|tn ?_
     obtain rfl:=so h
     exact ⟨_,k,(aE (σ:=sg []) ⟨⟨_,k,⟨k,k⟩⟩,⟨_,k,⟨k,k⟩⟩,(e1 k k),trivial⟩ trivial k)⟩
  ·refine aS k q1<|bG<|aH<|aH ?_
   obtain rfl:=so h
   exact ⟨_,k,k,(aE (σ:=sg []) ⟨⟨_,k,⟨k,k⟩⟩,⟨_,k,⟨k,k⟩⟩,trivial⟩ trivial k)⟩
 ·intro e t hX
  rcases y9 with y10|y12
  ·obtain ⟨rfl,hent⟩:=hX
   refine aW<|tn<|aO hent<|sQ<|rg<|am k k<|ae (dD aA k k k) k<|am k k<|ae (dD aA k k k) k<|ae (bC k k k) k ?_
   refine am k k ?_
   rcases cb h with ⟨q11,h⟩|⟨q11,h⟩
   ·refine aX 37 k q11<|am k k<|ae (dD aA k k k) k<|ae (bC k k k) k<|ae (aJ k k) k<|aa k k<|an<|tn<|aP ?_
    obtain rfl:=so h
    exact aU k k k (bT k)
   ·refine aX 37 k q11<|ak k k<|ak k k<|ak k k<|ae (aJ k k) k<|aa k k<|an<|tn<|aP ?_
    obtain rfl:=so h
    exact aU k k k (bT k)
  ·obtain ⟨rfl,hent⟩:=hX
   refine bB<|aK ?_
   obtain rfl:=so h
   exact hent
def qL (a0:(List Int)) (x1:(Int×Int)):Option ((Int×Int) ⊕ Int):=
 bif decide (x1.2<(a0.length:Int)) then
 (Option.bind (dV a0 x1.2) fun v2=>
 some (.inl (wr (x1.1+v2),wr (x1.2+1))))
 else
 (some (.inr x1.1))
def iW (a0:(List Int)):Option Int:=
 Option.bind (Lp (qL a0) (0,0)) fun y3=>
 some (y3)
theorem qV (a0:(List Int)) (r:Int) (h:iW a0=some r):HasC Tryz.prog 89 [.list 1 (List.map eI a0)] (.int r):=by
 refine bK aA (rvs:=[.tmp 2]) (ns:=[0,1]) Tryz.func89 k k Tryz.ntmps89 k k k<|sQ<|rg<|aa k k<|an<|tn<|sQ<|rg<|aa k k<|an ?_
 refine tn<|sQ<|sQ<|rg<|aa k k<|an<|tn<|aN ?_
 obtain ⟨y3,hy3,h⟩:=ob h
 refine cU (body:=(qL a0)) hy3 (fun (x1:(Int×Int))=>bU [(0,.list 1 (List.map eI a0)),(3,.int x1.1),(4,.int x1.2)] [] 0 [0,1]) (fun r e t=>e= .exit 0∧Ent t (bU [(3,.int r)] [] 0 [0,1])) (aE (σ:=sg []) ⟨⟨_,k,⟨k,k⟩⟩,(e1 k k),(e1 k k),trivial⟩ trivial k) ?_ ?_
 ·intro x1 o h
  refine sQ<|sQ<|rg<|am k k<|am k k<|ae (dD aA k k k) k<|ae (bC k k k) k<|an<|tn ?_
  rcases cb h with ⟨q1,h⟩|⟨q1,h⟩
  ·refine aL k q1<|aT<|tn<|sQ<|aN<|rg<|am k k<|am k k<|am k k ?_
   obtain ⟨v2,hv2,h⟩:=ob h
   refine ae (bH aA hv2 k k k k k k) k<|ae (aV aA k k k k k k) k<|ae (bV k k) k<|aa k k<|an<|bE<|tn<|rg<|am k k<|ae (bV k k) k ?_
   refine aa k k<|an<|tn ?_
   obtain rfl:=so h
   exact ⟨_,k,(aE (σ:=sg []) ⟨⟨_,k,⟨k,k⟩⟩,(e1 k k),(e1 k k),trivial⟩ trivial k)⟩
  ·refine aS k q1<|bG<|aH<|aH ?_
   obtain rfl:=so h
   exact ⟨_,k,k,(aE (σ:=sg []) ⟨(e1 k k),trivial⟩ trivial k)⟩
 ·rintro e t ⟨rfl,hent⟩
  refine aW<|tn<|aO hent<|sQ<|rg<|am k k<|aa k k<|an<|tn<|aP ?_
  obtain rfl:=so h
  exact aU k k k (cJ k)
def oV (a0:(List Int)) (a1:(List Int)) (x1:(Int×Int)):Option ((Int×Int) ⊕ Int):=
 bif decide (x1.2<(a0.length:Int)) then
 (Option.bind (iD a0 a1) fun v2=>
 bif v2 then
 (Option.bind (dV a0 x1.2) fun v4=>
 Option.bind (dV a1 x1.2) fun v5=>
 some (.inl (wr (x1.1+(wr (v4*v5))),wr (x1.2+1))))
 else
 (some (.inr x1.1)))
 else
 (some (.inr x1.1))
def pN (a0:(List Int)) (a1:(List Int)):Option Int:=
 Option.bind (Lp (oV a0 a1) (0,0)) fun y6=>
 some (y6)
theorem aBG (a0:(List Int)) (a1:(List Int)) (r:Int) (h:pN a0 a1=some r):HasC Tryz.prog 128 [.list 1 (List.map eI a0),.list 1 (List.map eI a1)] (.int r):=by
 refine bK aA (rvs:=[.tmp 4]) (ns:=[0,1]) Tryz.func128 k k Tryz.ntmps128 k k k<|sQ<|rg<|aa k k<|an<|tn<|sQ<|rg<|aa k k<|an ?_
 refine tn<|sQ<|sQ<|rg<|aa k k<|an<|tn<|aN ?_
 obtain ⟨y6,hy6,h⟩:=ob h
 refine cU (body:=(oV a0 a1)) hy6 (fun (x1:(Int×Int))=>bU [(0,.list 1 (List.map eI a0)),(1,.list 1 (List.map eI a1)),(5,.int x1.1),(6,.int x1.2)] [] 0 [0,1]) (fun r e t=>e= .exit 0∧Ent t (bU [(5,.int r)] [] 0 [0,1])) (aE (σ:=sg []) ⟨⟨_,k,⟨k,k⟩⟩,⟨_,k,⟨k,k⟩⟩,(e1 k k),(e1 k k),trivial⟩ trivial k) ?_ ?_
 ·intro x1 o h
  refine sQ<|sQ<|rg<|am k k<|am k k<|ae (dD aA k k k) k<|ae (bC k k k) k<|am k k ?_
  rcases cb h with ⟨q1,h⟩|⟨q1,h⟩
  ·refine aX 11 k q1<|am k k<|am k k ?_
   obtain ⟨v2,hv2,h⟩:=ob h
   refine ae (aZ (uF a0 a1 v2 hv2) k (aG (aI k) (aG (aI k) bA))) k<|ae (aJ k k) k<|an<|tn ?_
   rcases cb h with ⟨q3,h⟩|⟨q3,h⟩
   ·refine aL k q3<|aT<|tn<|sQ<|aN<|aY jW<|am k k<|am k k<|am k k ?_
    obtain ⟨v4,hv4,h⟩:=ob h
    refine ae (bH aA hv4 k k k k k k) k<|ae (aV aA k k k k k k) k<|am k k<|am k k ?_
    obtain ⟨v5,hv5,h⟩:=ob h
    refine ae (bH aA hv5 k k k k k k) k<|ae (aV aA k k k k k k) k<|ae (fP k k) k<|ae (bV k k) k<|aa k k<|an ?_
    refine ⟨by kernel_rfl,?_⟩
    refine bE<|tn<|aO (t:=bU [(0,.list 1 (List.map eI a0)),(1,.list 1 (List.map eI a1)),(5,.int (wr (x1.1+(wr (v4*v5))))),(6,.int x1.2)] [] 0 [0,1]) (aE (σ:=sg []) ⟨⟨_,k,⟨k,k⟩⟩,⟨_,k,⟨k,k⟩⟩,(e1 k k),(e1 k k),trivial⟩ trivial k)<|rg<|am k k<|ae (bV k k) k<|aa k k<|an<|tn ?_
    obtain rfl:=so h
    exact ⟨_,k,(aE (σ:=sg []) ⟨⟨_,k,⟨k,k⟩⟩,⟨_,k,⟨k,k⟩⟩,(e1 k k),(e1 k k),trivial⟩ trivial k)⟩
   ·refine aS k q3<|bG<|aH<|aH ?_
    obtain rfl:=so h
    exact ⟨_,k,k,(aE (σ:=sg []) ⟨(e1 k k),trivial⟩ trivial k)⟩
  ·refine aX 11 k q1<|ak k k<|ak k k<|ak k k<|ae (aJ k k) k<|an<|tn<|aS k k<|bG<|aH ?_
   refine aH ?_
   obtain rfl:=so h
   exact ⟨_,k,k,(aE (σ:=sg []) ⟨(e1 k k),trivial⟩ trivial k)⟩
 ·rintro e t ⟨rfl,hent⟩
  refine aW<|tn<|aO hent<|sQ<|rg<|am k k<|aa k k<|an<|tn<|aP ?_
  obtain rfl:=so h
  exact aU k k k (cJ k)
def iE (a0:(List Int)) (a1:(List Int)) (a2:(List Int)):Option Int:=
 Option.bind (iD a0 a1) fun v1=>
 bif !v1 then
 (some (0))
 else
 (Option.bind (iD a0 a2) fun v3=>
 bif !v3 then
 (some (0))
 else
 (Option.bind (iW a1) fun v5=>
 bif decide (v5=0) then
 (some (0))
 else
 (Option.bind (iW a2) fun v7=>
 bif decide (v7=0) then
 (some (0))
 else
 (Option.bind (pN a0 a1) fun v9=>
 Option.bind (iW a2) fun v10=>
 Option.bind (pN a0 a2) fun v11=>
 Option.bind (iW a1) fun v12=>
 bif decide (wr ((wr (v9*v10)) - (wr (v11*v12)))<0) then
 (some ((-1)))
 else
 (bif decide (0<wr ((wr (v9*v10)) - (wr (v11*v12)))) then
 (some (1))
 else
 (some (0)))))))
theorem aBH (a0:(List Int)) (a1:(List Int)) (a2:(List Int)) (r:Int) (h:iE a0 a1 a2=some r):HasC Tryz.prog 80 [.list 1 (List.map eI a0),.list 1 (List.map eI a1),.list 1 (List.map eI a2)] (.int r):=by
 refine bK aA (rvs:=[.tmp 6]) (ns:=[0,1]) Tryz.func80 k k Tryz.ntmps80 k k k<|sQ<|rg<|aa k k<|an<|tn<|sQ<|sQ<|rg<|am k k ?_
 refine am k k ?_
 obtain ⟨v1,hv1,h⟩:=ob h
 refine ae (aZ (uF a0 a1 v1 hv1) k (aG (aI k) (aG (aI k) bA))) k<|ae (cG k) k<|am k k ?_
 rcases cb h with ⟨q2,h⟩|⟨q2,h⟩
 ·refine aX 12 k q2<|ak k k<|ak k k<|ak k k<|ak k k<|ae (aJ k k) k<|am k k<|ak k k<|ak k k<|ak k k ?_
  refine ae (aJ k k) k<|am k k<|ak k k<|ak k k<|ak k k<|ae (aJ k k) k<|an<|tn<|aO (t:=bU [(0,.list 1 (List.map eI a0)),(1,.list 1 (List.map eI a1)),(2,.list 1 (List.map eI a2)),(27,.bl true)] [] 0 [0,1]) (aE (σ:=sg []) ⟨⟨_,k,⟨k,k⟩⟩,⟨_,k,⟨k,k⟩⟩,⟨_,k,⟨k,k⟩⟩,(e1 k k),trivial⟩ trivial k)<|aL k k ?_
  refine sQ<|rg<|aa k k<|an<|tn<|aP<|aK ?_
  obtain rfl:=so h
  exact aU k k k (cJ k)
 ·refine aX 12 k q2<|am k k<|am k k ?_
  obtain ⟨v3,hv3,h⟩:=ob h
  refine ae (aZ (uF a0 a2 v3 hv3) k (aG (aI k) (aG (aI k) bA))) k<|ae (cG k) k<|ae (aJ k k) k<|am k k ?_
  rcases cb h with ⟨q4,h⟩|⟨q4,h⟩
  ·refine aX 18 k q4<|ak k k<|ak k k<|ak k k<|ae (aJ k k) k<|am k k<|ak k k<|ak k k<|ak k k<|ae (aJ k k) k ?_
   refine an<|tn<|aO (t:=bU [(0,.list 1 (List.map eI a0)),(1,.list 1 (List.map eI a1)),(2,.list 1 (List.map eI a2)),(27,.bl true)] [] 0 [0,1]) (aE (σ:=sg []) ⟨⟨_,k,⟨k,k⟩⟩,⟨_,k,⟨k,k⟩⟩,⟨_,k,⟨k,k⟩⟩,(e1 k k),trivial⟩ trivial k)<|aL k k<|sQ<|rg<|aa k k<|an<|tn<|aP ?_
   refine aK ?_
   obtain rfl:=so h
   exact aU k k k (cJ k)
  ·refine aX 18 k q4<|am k k ?_
   obtain ⟨v5,hv5,h⟩:=ob h
   refine ae (aZ (qV a1 v5 hv5) k (aG (aI k) bA)) k<|ae (bC k k k) k<|ae (aJ k k) k<|am k k ?_
   rcases cb h with ⟨q6,h⟩|⟨q6,h⟩
   ·refine aX 23 k q6<|ak k k<|ak k k<|ak k k<|ae (aJ k k) k<|an<|tn<|aO (t:=bU [(0,.list 1 (List.map eI a0)),(1,.list 1 (List.map eI a1)),(2,.list 1 (List.map eI a2)),(27,.bl true)] [] 0 [0,1]) (aE (σ:=sg []) ⟨⟨_,k,⟨k,k⟩⟩,⟨_,k,⟨k,k⟩⟩,⟨_,k,⟨k,k⟩⟩,(e1 k k),trivial⟩ trivial k)<|aL k k<|sQ ?_
    refine rg<|aa k k<|an<|tn<|aP<|aK ?_
    obtain rfl:=so h
    exact aU k k k (cJ k)
   ·refine aX 23 k q6<|am k k ?_
    obtain ⟨v7,hv7,h⟩:=ob h
    refine ae (aZ (qV a2 v7 hv7) k (aG (aI k) bA)) k<|ae (bC k k k) k<|ae (aJ k k) k<|an<|tn<|aO (t:=bU [(0,.list 1 (List.map eI a0)),(1,.list 1 (List.map eI a1)),(2,.list 1 (List.map eI a2)),(27,.bl (decide (v7=0)))] [] 0 [0,1]) (aE (σ:=sg []) ⟨⟨_,k,⟨k,k⟩⟩,⟨_,k,⟨k,k⟩⟩,⟨_,k,⟨k,k⟩⟩,(e1 k k),trivial⟩ trivial k) ?_
    rcases cb h with ⟨q8,h⟩|⟨q8,h⟩
    ·refine aL k q8<|sQ<|rg<|aa k k<|an<|tn<|aP<|aK ?_
     obtain rfl:=so h
     exact aU k k k (cJ k)
    ·refine aS k q8<|aT<|tn<|sQ<|rg<|am k k<|am k k ?_
     obtain ⟨v9,hv9,h⟩:=ob h
     refine ae (aZ (aBG a0 a1 v9 hv9) k (aG (aI k) (aG (aI k) bA))) k<|am k k ?_
     obtain ⟨v10,hv10,h⟩:=ob h
     refine ae (aZ (qV a2 v10 hv10) k (aG (aI k) bA)) k<|ae (fP k k) k<|am k k<|am k k ?_
     obtain ⟨v11,hv11,h⟩:=ob h
     refine ae (aZ (aBG a0 a2 v11 hv11) k (aG (aI k) (aG (aI k) bA))) k<|am k k ?_
     obtain ⟨v12,hv12,h⟩:=ob h
     refine ae (aZ (qV a1 v12 hv12) k (aG (aI k) bA)) k<|ae (fP k k) k<|ae (iH k k) k<|aa k k<|an<|tn<|aO (t:=bU [(7,.int (wr ((wr (v9*v10)) - (wr (v11*v12)))))] [] 0 [0,1]) (aE (σ:=sg []) ⟨(e1 k k),trivial⟩ trivial k)<|sQ<|aN<|sQ ?_
     refine rg<|am k k<|ae (bC k k k) k<|aa k k<|an<|tn ?_
     rcases cb h with ⟨q13,h⟩|⟨q13,h⟩
     ·refine aL k q13<|sQ<|rg<|aa k k<|an<|tn<|aP<|bB<|aK ?_
      obtain rfl:=so h
      exact aU k k k (cJ k)
     ·refine aS k q13<|sQ<|rg<|am k k<|ae (bC k k k) k<|aa k k<|an<|tn ?_
      rcases cb h with ⟨q14,h⟩|⟨q14,h⟩
      ·refine aL k q14<|sQ<|rg<|aa k k<|an<|tn<|aP<|bB<|aK ?_
       obtain rfl:=so h
       exact aU k k k (cJ k)
      ·refine aS k q14<|aT<|bE<|tn<|sQ<|rg<|aa k k<|an<|tn<|aP ?_
       obtain rfl:=so h
       exact aU k k k (cJ k)
def mZ (a0:Rp) (a1:(List Int)) (v1:((List (List Sc))×Bool)) (x1:Int):Option (Int ⊕ (Unit ⊕ Bool)):=
 bif decide (x1<((v1.1.length:Nat):Int)) then
 (Option.bind (dV v1.1 x1) fun v8=>
 Option.bind (pM a0 v8) fun v9=>
 Option.bind (iE a1 v9 a0.dims) fun v10=>
 bif decide (0<v10) then
 (some (.inr (.inr (false))))
 else
 (some (.inl (wr (x1+1)))))
 else
 (some (.inr (.inl ())))
def wG (a0:Rp) (a1:(List Int)):Option Bool:=
 Option.bind (pL a0) fun v1=>
 bif !v1.2 then
 (some (false))
 else
 (Option.bind (iD a1 a0.dims) fun v3=>
 bif !v3 then
 (some (false))
 else
 (Option.bind (lQ a0) fun v5=>
 bif decide (v5=0) then
 (some (false))
 else
 (Option.bind (Lp (mZ a0 a1 v1) 0) fun y12=>
 Sum.elim (fun y13=>
 some (true)
 )
 (fun y14=>
 some y14
 )
 y12)))
def nA (a0:Rp) (a1:(List Int)) (v1:((List (List Sc))×Bool)) (x1:Int):Option (Int ⊕ (Unit ⊕ Bool)):=
 bif decide (x1<((v1.1.length:Nat):Int)) then
 (Option.bind (dV v1.1 x1) fun v8=>
 Option.bind (pM a0 v8) fun v9=>
 Option.bind (iW v9) fun v10=>
 bif decide (0<v10) then
 (Option.bind (yS v9 a0.dims) fun v12=>
 bif !v12 then
 (Option.bind (iE a1 v9 a0.dims) fun v14=>
 bif decide (0≤v14) then
 (some (.inr (.inr (false))))
 else
 (some (.inl (wr (x1+1)))))
 else
 (some (.inl (wr (x1+1)))))
 else
 (some (.inl (wr (x1+1)))))
 else
 (some (.inr (.inl ())))
def rV (a0:Rp) (a1:(List Int)):Option Bool:=
 Option.bind (pL a0) fun v1=>
 bif !v1.2 then
 (some (false))
 else
 (Option.bind (iD a1 a0.dims) fun v3=>
 bif !v3 then
 (some (false))
 else
 (Option.bind (lQ a0) fun v5=>
 bif decide (v5=0) then
 (some (false))
 else
 (Option.bind (Lp (nA a0 a1 v1) 0) fun y16=>
 Sum.elim (fun y17=>
 some (true)
 )
 (fun y18=>
 some y18
 )
 y16)))
theorem aFh (a0:Rp) (a1:(List Int)) (r:Bool) (h:rV a0 a1=some r):HasC Tryz.prog 28 [.agg (eR a0),.list 1 (List.map eI a1)] (.bl r):=by
 refine bK aA (rvs:=[.tmp 4]) (ns:=[0,1,2,3,4]) Tryz.func28 k k Tryz.ntmps28 k k k<|sQ<|rg<|ae (cC k k k k) k<|aa k k<|an<|tn<|sQ<|rg<|ae (aC aA k k k k k k k) k ?_
 obtain ⟨v1,hv1,h⟩:=ob h
 refine ae (uB (σ:=sg []) (σ':=sg [(1,0)]) (touch:=[]) (news:=[1]) (hl2:=[(1,⟨1,List.map (dA 2 eS) v1.1⟩)]) (n':=2) (r2:= .tuple [.own 1 0 v1.1.length,.bl v1.2]) (aGz a0 v1 hv1) k k ⟨_,_,k,(.inl ⟨_,_,k,k,⟨_,_,k,k,⟨_,_,k,⟨k,k⟩,⟨_,_,k,⟨k,k⟩,⟨_,_,k,⟨k,k⟩,⟨_,_,k,⟨k,k⟩,k⟩⟩⟩⟩⟩⟩),k⟩ trivial k k k ⟨⟨_,k,k,.inl ⟨k,cI.plainE _⟩⟩,k,trivial⟩ k (.inr ⟨_,_,k,k,⟨_,_,k,⟨k,k,(by simp only [bD,lA,lT,lR,lC,lN]),k⟩,⟨_,_,k,k,k⟩⟩⟩) k ⟨k,cI.tamdE _ _,trivial⟩ k k) k<|am k k<|ae (bO k k (by intro _ h;cases h)) k<|ae (bO k k (by intro _ h;cases h)) k<|aa k k<|aa k k<|an<|tn<|sQ<|sQ ?_
 refine rg<|am k k<|ae (cG k) k<|am k k ?_
 rcases cb h with ⟨q2,h⟩|⟨q2,h⟩
 ·refine aX 16 k q2<|ak k k<|ak k k<|ak k k<|ak k k<|ak k k<|ae (aJ k k) k<|am k k<|ak k k<|ak k k ?_
  refine ak k k<|ae (aJ k k) k<|an<|tn<|aO (t:=bU [(1,.list 1 (List.map eI a1)),(2,.ptr 0 0 0),(5,.own 1 0 v1.1.length),(27,.bl true)] [(0,⟨6,[[.int a0.p,.int a0.q.n,.list 1 (List.map eI a0.q.src),.list 1 (List.map eI a0.q.tgt),.list 1 (List.map eI a0.dims),.list 3 (List.map eM a0.maps)]]⟩),(1,⟨1,List.map (dA 2 eS) v1.1⟩)] 2 [2,3,4]) (aE (σ:=sg [(0,0),(1,1)]) ⟨⟨_,k,⟨k,k⟩⟩,(pE k k),(oE k k),(e1 k k),trivial⟩ (hP k k k k<|hB (cI.plainE _) k k k<|trivial) k)<|aL k k<|sQ<|rg<|aa k k<|an ?_
  refine tn<|aP<|aK ?_
  obtain rfl:=so h
  exact aU k k k (bT k)
 ·refine aX 16 k q2<|am k k<|ae (aD aA k k k k k k k) k<|ae (aC aA k k k k k k k) k ?_
  obtain ⟨v3,hv3,h⟩:=ob h
  refine ae (aZ (uF a1 a0.dims v3 hv3) k (aG (aI k) (aG (aI k) bA))) k<|ae (cG k) k<|ae (aJ k k) k<|am k k ?_
  rcases cb h with ⟨q4,h⟩|⟨q4,h⟩
  ·refine aX 23 k q4<|ak k k<|ak k k<|ak k k<|ae (aJ k k) k<|an<|tn<|aO (t:=bU [(1,.list 1 (List.map eI a1)),(2,.ptr 0 0 0),(5,.own 1 0 v1.1.length),(27,.bl true)] [(0,⟨6,[[.int a0.p,.int a0.q.n,.list 1 (List.map eI a0.q.src),.list 1 (List.map eI a0.q.tgt),.list 1 (List.map eI a0.dims),.list 3 (List.map eM a0.maps)]]⟩),(1,⟨1,List.map (dA 2 eS) v1.1⟩)] 2 [2,3,4]) (aE (σ:=sg [(0,0),(1,1)]) ⟨⟨_,k,⟨k,k⟩⟩,(pE k k),(oE k k),(e1 k k),trivial⟩ (hP k k k k<|hB (cI.plainE _) k k k<|trivial) k)<|aL k k<|sQ ?_
   refine rg<|aa k k<|an<|tn<|aP<|aK ?_
   obtain rfl:=so h
   exact aU k k k (bT k)
  ·refine aX 23 k q4<|ae (aC aA k k k k k k k) k ?_
   obtain ⟨v5,hv5,h⟩:=ob h
   refine ae (aZ (aBA a0 v5 hv5) k (aG (cA (aM (aQ k) (aM (aQ k) (aM (aQ k) (aM (aQ k) (aM (aQ k) (aM (aQ k) cF))))))) bA)) k<|ae (bC k k k) k<|ae (aJ k k) k<|an<|tn<|aO (t:=bU [(1,.list 1 (List.map eI a1)),(2,.ptr 0 0 0),(5,.own 1 0 v1.1.length),(27,.bl (decide (v5=0)))] [(0,⟨6,[[.int a0.p,.int a0.q.n,.list 1 (List.map eI a0.q.src),.list 1 (List.map eI a0.q.tgt),.list 1 (List.map eI a0.dims),.list 3 (List.map eM a0.maps)]]⟩),(1,⟨1,List.map (dA 2 eS) v1.1⟩)] 2 [2,3,4]) (aE (σ:=sg [(0,0),(1,1)]) ⟨⟨_,k,⟨k,k⟩⟩,(pE k k),(oE k k),(e1 k k),trivial⟩ (hP k k k k<|hB (cI.plainE _) k k k<|trivial) k) ?_
   rcases cb h with ⟨q6,h⟩|⟨q6,h⟩
   ·refine aL k q6<|sQ<|rg<|aa k k<|an<|tn<|aP<|aK ?_
    obtain rfl:=so h
    exact aU k k k (bT k)
   ·refine aS k q6<|aT<|tn<|sQ<|sQ<|rg<|aa k k<|an<|tn<|aN ?_
    obtain ⟨y16,hy16,h⟩:=ob h
    refine cU (body:=(nA a0 a1 v1)) hy16 (fun (x1:Int)=>bU [(1,.list 1 (List.map eI a1)),(2,.ptr 0 0 0),(5,.own 1 0 v1.1.length),(7,.int x1)] [(0,⟨6,[[.int a0.p,.int a0.q.n,.list 1 (List.map eI a0.q.src),.list 1 (List.map eI a0.q.tgt),.list 1 (List.map eI a0.dims),.list 3 (List.map eM a0.maps)]]⟩),(1,⟨1,List.map (dA 2 eS) v1.1⟩)] 2 [2,3,4]) (fun r e t=>Sum.elim (fun a=>(fun r e t=>e= .exit 0∧Ent t (bU [] [] 0 [0,1,2,3,4])) a e t) (fun b=>(fun r e t=>e= .ret∧sA TT [.tmp 4] (.bl r) .ret t) b e t) r) (aE (σ:=sg [(0,0),(1,1)]) ⟨⟨_,k,⟨k,k⟩⟩,(pE k k),(oE k k),(e1 k k),trivial⟩ (hP k k k k<|hB (cI.plainE _) k k k<|trivial) k) ?_ ?_
    ·intro x1 o h
     refine sQ<|sQ<|rg<|am k k<|am k k<|ae (bW aA k k k k) k<|ae (bC k k k) k<|an<|tn ?_
     rcases cb h with ⟨q7,h⟩|⟨q7,h⟩
     ·refine aL k q7<|aT<|tn<|sQ<|aN<|sQ<|aY jW<|ae (aC aA k k k k k k k) k<|am k k<|am k k ?_
      obtain ⟨v8,hv8,h⟩:=ob h
      refine ae (cY aA (eU hv8) (eV hv8) k k k k k k k) k<|ae (aC aA k k k k (cL (dO hv8)) k k) k ?_
      obtain ⟨v9,hv9,h⟩:=ob h
      refine ae (AEff.conv (cR (x:= .own 2 0 (List.map eI v9).length) (nb:=[(2,⟨1,cX (List.map eI v9)⟩)]) (aHA a0 v8 v9 hv9) k (by rfl) k k (eD.good _) (aG (cA (aM (aQ k) (aM (aQ k) (aM (aQ k) (aM (aQ k) (aM (aQ k) (aM (aQ k) cF))))))) (aG (aI k) bA))) (v':= .own 2 0 v9.length) (ed':=[(2,some ⟨1,List.map (ow eI) v9⟩)]) (by simp only [bD]) (eJ (nb':=[(2,⟨1,List.map (ow eI) v9⟩)]) (by simp only [cT]))) k<|aa k k<|an ?_
      refine ⟨by kernel_rfl,?_⟩
      refine tn<|sQ<|rg<|am k k ?_
      obtain ⟨v10,hv10,h⟩:=ob h
      refine ae (aZ (qV v9 v10 hv10) k (aG (aAl eD k k) bA)) k<|ae (bC k k k) k<|am k k ?_
      rcases cb h with ⟨q11,h⟩|⟨q11,h⟩
      ·refine aX 43 k q11<|am k k<|ae (aD aA k k k k k k k) k<|ae (aC aA k k k k k k k) k ?_
       obtain ⟨v12,hv12,h⟩:=ob h
       refine ae (aZ (aHR v9 a0.dims v12 hv12) k (aG (aAl eD k k) (aG (aI k) bA))) k<|ae (cG k) k<|ae (aJ k k) k<|am k k ?_
       rcases cb h with ⟨q13,h⟩|⟨q13,h⟩
       ·refine aX 50 k q13<|am k k<|am k k<|ae (aD aA k k k k k k k) k<|ae (aC aA k k k k k k k) k ?_
        obtain ⟨v14,hv14,h⟩:=ob h
        refine ae (aZ (aBH a1 v9 a0.dims v14 hv14) k (aG (aI k) (aG (aAl eD k k) (aG (aI k) bA)))) k<|ae (bC k k k) k<|ae (aJ k k) k<|an<|tn<|aO (t:=bU [(1,.list 1 (List.map eI a1)),(2,.ptr 0 0 0),(5,.own 1 0 v1.1.length),(7,.int x1),(57,.bl (decide (0≤v14)))] [(0,⟨6,[[.int a0.p,.int a0.q.n,.list 1 (List.map eI a0.q.src),.list 1 (List.map eI a0.q.tgt),.list 1 (List.map eI a0.dims),.list 3 (List.map eM a0.maps)]]⟩),(1,⟨1,List.map (dA 2 eS) v1.1⟩)] 3 [3,4]) (aE (σ:=sg [(0,0),(1,1)]) ⟨⟨_,k,⟨k,k⟩⟩,(pE k k),(oE k k),(e1 k k),(e1 k k),trivial⟩ (hP k k k k<|hB (cI.plainE _) k k k<|trivial) k) ?_
        rcases cb h with ⟨q15,h⟩|⟨q15,h⟩
        ·refine aL k q15<|sQ<|rg<|aa k k<|an<|tn<|aP<|bB<|aK<|aK ?_
         obtain rfl:=so h
         exact ⟨_,k,k,aU k k k (bT k)⟩
        ·refine aS k q15<|aT<|bE<|tn<|rg<|am k k<|ae (bV k k) k<|aa k k<|an<|tn ?_
         obtain rfl:=so h
         exact ⟨_,k,(aE (σ:=sg [(0,0),(1,1)]) ⟨⟨_,k,⟨k,k⟩⟩,(pE k k),(oE k k),(e1 k k),trivial⟩ (hP k k k k<|hB (cI.plainE _) k k k<|trivial) k)⟩
       ·refine aX 50 k q13<|ak k k<|ak k k<|ak k k<|ak k k<|ak k k<|ak k k<|ae (aJ k k) k<|an<|tn ?_
        refine aO (t:=bU [(1,.list 1 (List.map eI a1)),(2,.ptr 0 0 0),(5,.own 1 0 v1.1.length),(7,.int x1),(57,.bl false)] [(0,⟨6,[[.int a0.p,.int a0.q.n,.list 1 (List.map eI a0.q.src),.list 1 (List.map eI a0.q.tgt),.list 1 (List.map eI a0.dims),.list 3 (List.map eM a0.maps)]]⟩),(1,⟨1,List.map (dA 2 eS) v1.1⟩)] 3 [3,4]) (aE (σ:=sg [(0,0),(1,1)]) ⟨⟨_,k,⟨k,k⟩⟩,(pE k k),(oE k k),(e1 k k),(e1 k k),trivial⟩ (hP k k k k<|hB (cI.plainE _) k k k<|trivial) k)<|aS k k<|aT<|bE<|tn<|rg<|am k k<|ae (bV k k) k<|aa k k<|an ?_
        refine tn ?_
        obtain rfl:=so h
        exact ⟨_,k,(aE (σ:=sg [(0,0),(1,1)]) ⟨⟨_,k,⟨k,k⟩⟩,(pE k k),(oE k k),(e1 k k),trivial⟩ (hP k k k k<|hB (cI.plainE _) k k k<|trivial) k)⟩
      ·refine aX 43 k q11<|ak k k<|ak k k<|ak k k<|ak k k<|ak k k<|ae (aJ k k) k<|am k k<|ak k k<|ak k k ?_
       refine ak k k<|ak k k<|ak k k<|ak k k<|ae (aJ k k) k<|an<|tn<|aO (t:=bU [(1,.list 1 (List.map eI a1)),(2,.ptr 0 0 0),(5,.own 1 0 v1.1.length),(7,.int x1),(57,.bl false)] [(0,⟨6,[[.int a0.p,.int a0.q.n,.list 1 (List.map eI a0.q.src),.list 1 (List.map eI a0.q.tgt),.list 1 (List.map eI a0.dims),.list 3 (List.map eM a0.maps)]]⟩),(1,⟨1,List.map (dA 2 eS) v1.1⟩)] 3 [3,4]) (aE (σ:=sg [(0,0),(1,1)]) ⟨⟨_,k,⟨k,k⟩⟩,(pE k k),(oE k k),(e1 k k),(e1 k k),trivial⟩ (hP k k k k<|hB (cI.plainE _) k k k<|trivial) k)<|aS k k<|aT ?_
       refine bE<|tn<|rg<|am k k<|ae (bV k k) k<|aa k k<|an<|tn ?_
       obtain rfl:=so h
       exact ⟨_,k,(aE (σ:=sg [(0,0),(1,1)]) ⟨⟨_,k,⟨k,k⟩⟩,(pE k k),(oE k k),(e1 k k),trivial⟩ (hP k k k k<|hB (cI.plainE _) k k k<|trivial) k)⟩
     ·refine aS k q7<|bG<|aH<|aH ?_
      obtain rfl:=so h
      exact ⟨_,k,k,(aE (σ:=sg []) trivial trivial k)⟩
    ·intro e t hX
     rcases y16 with y17|y18
     ·obtain ⟨rfl,hent⟩:=hX
      refine aW<|tn<|aO hent<|sQ<|rg<|aa k k<|an<|tn<|aP ?_
      obtain rfl:=so h
      exact aU k k k (bT k)
     ·obtain ⟨rfl,hent⟩:=hX
      refine bB<|aK ?_
      obtain rfl:=so h
      exact hent
end
noncomputable section
set_option maxRecDepth 10000
def vQ (a0:Int) (a1:Int) (a2:Int):Option Bool:=
 bif decide (a1≤a0) then
  (some (decide (a0≤a2)))
 else
  (some (false))
def pO (a0:Int):Option Bool:=
 bif decide (a0=2) then
  (some (true))
 else
  (bif decide (a0=3) then
   (some (true))
  else
   (some (decide (a0=5))))
def aKq (a0:Int) (a1:Int):Option Mt:=
 bif (decide (0≤wr (a0*a1))&&decide (wr (a0*a1)≤1048576)) then
  (some ((⟨a0,a1,(List.replicate ((wr (a0*a1)).toNat) (0:Int))⟩:Mt)))
 else none
def yN (a0:Mt) (a1:Int):Option Unit:=
 bif (decide (0≤wr (a1*a0.cols))&&(decide (wr (a1*a0.cols)≤wr ((wr (a1+1))*a0.cols))&&decide (wr ((wr (a1+1))*a0.cols)≤((a0.cells.length:Nat):Int)))) then
  (some ())
 else none
def wS (a0:Int) (a1:Int):Option Int:=
 bif !decide (a0=0) then
  (bif decide (a1.tmod a0<0) then
   (some (wr ((a1.tmod a0)+a0)))
  else
   (some (a1.tmod a0)))
 else none
def aBI (a0:Int) (a1:Int) (x1:Int):Option (Int ⊕ (Unit ⊕ Int)):=
 bif decide (x1<a0) then
  (Option.bind (pO a0) fun v2=>
  bif v2 then
   (Option.bind (wS a0 a1) fun v4=>
   Option.bind (wS a0 (wr (v4*x1))) fun v5=>
   bif decide (v5=1) then
    (some (.inr (.inr (x1))))
   else
    (some (.inl (wr (x1+1)))))
  else
   (some (.inr (.inl ()))))
 else
  (some (.inr (.inl ())))
def uG (a0:Int) (a1:Int):Option Int:=
 Option.bind (LpF 100 (aBI a0 a1) 1) fun y7=>
 Sum.elim (fun y8=>
  some (0)
 )
 (fun y9=>
  some y9
 )
  y7
theorem aCY (a0:Int) (a1:Int):Le (uG a0 a1) (iK a0 a1):=by
 unfold uG iK
 repeat (first|exact Le.rfl|refine le_spec_InverseMod_L1 _ _ _|refine Le.bind ?_ fun _=>?_|refine Le.cond ?_ ?_|refine Le.lp fun _=>?_|refine Le.fl (fun _ _=>?_) _ _|refine Le.elim (fun _=>?_) fun _=>?_)
def aCZ (a0:Int) (a1:(List Int)) (x1:Int):Option (Int ⊕ (Unit ⊕ Bool)):=
 bif decide (x1<(a1.length:Int)) then
  (Option.bind (dV a1 x1) fun v5=>
  Option.bind (vQ v5 0 (wr (a0 - 1))) fun v6=>
  bif !v6 then
   (some (.inr (.inr (false))))
  else
   (some (.inl (wr (x1+1)))))
 else
  (some (.inr (.inl ())))
def vZ (a0:Int) (a1:(List Int)):Option Bool:=
 Option.bind (pO a0) fun v1=>
 bif !v1 then
  (some (false))
 else
  (bif decide (64<(a1.length:Int)) then
   (some (false))
  else
   (Option.bind (LpF 100 (aCZ a0 a1) 0) fun y8=>
   Sum.elim (fun y9=>
    some (true)
   )
   (fun y10=>
    some y10
   )
    y8))
theorem aEX (a0:Int) (a1:(List Int)):Le (vZ a0 a1) (gN a0 a1):=by
 unfold vZ gN
 repeat (first|exact Le.rfl|refine le_spec_IsField _|refine le_spec_IsVector_L1 _ _ _|refine Le.bind ?_ fun _=>?_|refine Le.cond ?_ ?_|refine Le.lp fun _=>?_|refine Le.fl (fun _ _=>?_) _ _|refine Le.elim (fun _=>?_) fun _=>?_)
def aHb (a0:Mt):Option Mt:=
 bif decide (([]:(List Int)).length +a0.cells.length≤4294967296) then
  (some ((⟨a0.rows,a0.cols,(([]:(List Int))++a0.cells)⟩:Mt)))
 else none
def aCa (v1:Mt) (x1:(Int×(List Int)×(List Int)×Int)) (x2:(Int×Int)):Option ((Int×Int) ⊕ Int):=
 bif decide (x1.2.2.2≤x2.2) then
  (Option.bind (dV x1.2.1 (wr ((wr (x2.2*v1.cols))+x1.1))) fun v5=>
  bif !decide (v5=0) then
   (some (.inl (x2.2,wr (x2.2 - 1))))
  else
   (some (.inl (x2.1,wr (x2.2 - 1)))))
 else
  (some (.inr x2.1))
def aCb (v1:Mt) (x1:(Int×(List Int)×(List Int)×Int)) (y7:Int) (x3:((List Int)×Int)):Option (((List Int)×Int) ⊕ (List Int)):=
 bif decide (x3.2<v1.cols) then
  (Option.bind (dV x3.1 (wr ((wr (x1.2.2.2*v1.cols))+x3.2))) fun v10=>
  Option.bind (dV x3.1 (wr ((wr (y7*v1.cols))+x3.2))) fun v11=>
  Option.bind (dV x3.1 (wr ((wr (x1.2.2.2*v1.cols))+x3.2))) fun v12=>
  Option.bind (dV (x3.1.set ((wr ((wr (x1.2.2.2*v1.cols))+x3.2)).toNat) v11) (wr ((wr (y7*v1.cols))+x3.2))) fun v13=>
  some (.inl (((x3.1.set ((wr ((wr (x1.2.2.2*v1.cols))+x3.2)).toNat) v11).set ((wr ((wr (y7*v1.cols))+x3.2)).toNat) v10),wr (x3.2+1))))
 else
  (some (.inr x3.1))
def aCc (a0:Int) (v1:Mt) (v16:Int) (x1:(Int×(List Int)×(List Int)×Int)) (x4:((List Int)×Int)):Option (((List Int)×Int) ⊕ (List Int)):=
 bif decide (x4.2<v1.cols) then
  (Option.bind (dV x4.1 (wr ((wr (x1.2.2.2*v1.cols))+x4.2))) fun v18=>
  Option.bind (wS a0 (wr (v16*v18))) fun v19=>
  Option.bind (dV x4.1 (wr ((wr (x1.2.2.2*v1.cols))+x4.2))) fun v20=>
  some (.inl ((x4.1.set ((wr ((wr (x1.2.2.2*v1.cols))+x4.2)).toNat) v19),wr (x4.2+1))))
 else
  (some (.inr x4.1))
def aCd (a0:Int) (v1:Mt) (v23:Int) (x1:(Int×(List Int)×(List Int)×Int)) (x5:((List Int)×Int)) (x6:((List Int)×Int)):Option (((List Int)×Int) ⊕ (List Int)):=
 bif decide (x6.2<v1.cols) then
  (bif !decide (x5.2=x1.2.2.2) then
   (Option.bind (dV x6.1 (wr ((wr (x5.2*v1.cols))+x6.2))) fun v26=>
   Option.bind (dV x6.1 (wr ((wr (x1.2.2.2*v1.cols))+x6.2))) fun v27=>
   Option.bind (wS a0 (wr (v26 - (wr (v23*v27))))) fun v28=>
   Option.bind (dV x6.1 (wr ((wr (x5.2*v1.cols))+x6.2))) fun v29=>
   some (.inl ((x6.1.set ((wr ((wr (x5.2*v1.cols))+x6.2)).toNat) v28),wr (x6.2+1))))
  else
   (some (.inr x6.1)))
 else
  (some (.inr x6.1))
def sJ (a0:Int) (v1:Mt) (x1:(Int×(List Int)×(List Int)×Int)) (x5:((List Int)×Int)):Option (((List Int)×Int) ⊕ (List Int)):=
 bif decide (x5.2<v1.rows) then
  (Option.bind (dV x5.1 (wr ((wr (x5.2*v1.cols))+x1.1))) fun v23=>
  Option.bind (LpF 100 (aCd a0 v1 v23 x1 x5) (x5.1,0)) fun y30=>
  some (.inl (y30,wr (x5.2+1))))
 else
  (some (.inr x5.1))
theorem aBl (a0:Int) (v1:Mt) (x1:(Int×(List Int)×(List Int)×Int)) (x5:((List Int)×Int)):Le (sJ a0 v1 x1 x5) (gS a0 v1 x1 x5):=by
 unfold sJ gS
 repeat (first|exact Le.rfl|refine le_spec_l4Reduce_L6 _ _ _ _ _ _|refine Le.bind ?_ fun _=>?_|refine Le.cond ?_ ?_|refine Le.lp fun _=>?_|refine Le.fl (fun _ _=>?_) _ _|refine Le.elim (fun _=>?_) fun _=>?_)
def sK (a0:Int) (v1:Mt) (x1:(Int×(List Int)×(List Int)×Int)):Option ((Int×(List Int)×(List Int)×Int) ⊕ ((List Int)×(List Int))):=
 bif decide (x1.1<v1.cols) then
  (bif decide (x1.2.2.2<v1.rows) then
   (Option.bind (LpF 100 (aCa v1 x1) ((-1),wr (v1.rows - 1))) fun y7=>
   bif decide (y7<0) then
    (some (.inl (wr (x1.1+1),x1.2.1,x1.2.2.1,x1.2.2.2)))
   else
    (Option.bind (LpF 100 (aCb v1 x1 y7) (x1.2.1,0)) fun y14=>
    Option.bind (dV y14 (wr ((wr (x1.2.2.2*v1.cols))+x1.1))) fun v15=>
    Option.bind (uG a0 v15) fun v16=>
    Option.bind (LpF 100 (aCc a0 v1 v16 x1) (y14,0)) fun y21=>
    Option.bind (LpF 100 (sJ a0 v1 x1) (y21,0)) fun y31=>
    bif decide (x1.2.2.1.length+[x1.1].length ≤4294967296) then
     (some (.inl (wr (x1.1+1),y31,(x1.2.2.1++[x1.1]),wr (x1.2.2.2+1))))
    else none))
  else
   (some (.inr (x1.2.1,x1.2.2.1))))
 else
  (some (.inr (x1.2.1,x1.2.2.1)))
theorem aBm (a0:Int) (v1:Mt) (x1:(Int×(List Int)×(List Int)×Int)):Le (sK a0 v1 x1) (eW a0 v1 x1):=by
 unfold sK eW
 repeat (first|exact Le.rfl|refine le_spec_l4Reduce_L2 _ _ _|refine le_spec_l4Reduce_L3 _ _ _ _|refine aCY _ _|refine le_spec_l4Reduce_L4 _ _ _ _ _|refine aBl _ _ _ _|refine Le.bind ?_ fun _=>?_|refine Le.cond ?_ ?_|refine Le.lp fun _=>?_|refine Le.fl (fun _ _=>?_) _ _|refine Le.elim (fun _=>?_) fun _=>?_)
def wA (a0:Int) (a1:Mt):Option (Mt×(List Int)):=
 Option.bind (aHb a1) fun v1=>
 Option.bind (LpF 100 (sK a0 v1) (0,v1.cells,([]:(List Int)),0)) fun y33=>
 some (((⟨v1.rows,v1.cols,y33.1⟩:Mt),y33.2))
theorem aEY (a0:Int) (a1:Mt):Le (wA a0 a1) (kC a0 a1):=by
 unfold wA kC
 repeat (first|exact Le.rfl|refine le_spec_l3Copy _|refine aBm _ _ _|refine Le.bind ?_ fun _=>?_|refine Le.cond ?_ ?_|refine Le.lp fun _=>?_|refine Le.fl (fun _ _=>?_) _ _|refine Le.elim (fun _=>?_) fun _=>?_)
def xP (a0:(List Int)) (a1:Int) (x1:Int):Option (Int ⊕ (Unit ⊕ Int)):=
 bif decide (x1<(a0.length:Int)) then
  (Option.bind (dV a0 x1) fun v2=>
  bif decide (a1=v2) then
   (some (.inr (.inr (x1))))
  else
   (some (.inl (wr (x1+1)))))
 else
  (some (.inr (.inl ())))
def lS (a0:(List Int)) (a1:Int):Option Int:=
 Option.bind (LpF 100 (xP a0 a1) 0) fun y4=>
 Sum.elim (fun y5=>
  some ((-1))
 )
 (fun y6=>
  some y6
 )
  y4
theorem yV (a0:(List Int)) (a1:Int):Le (lS a0 a1) (iL a0 a1):=by
 unfold lS iL
 repeat (first|exact Le.rfl|refine le_slices_Index_Lint_int_L1 _ _ _|refine Le.bind ?_ fun _=>?_|refine Le.cond ?_ ?_|refine Le.lp fun _=>?_|refine Le.fl (fun _ _=>?_) _ _|refine Le.elim (fun _=>?_) fun _=>?_)
def jM (a0:(List Int)) (a1:Int):Option Bool:=
 Option.bind (lS a0 a1) fun v1=>
 some (decide (0≤v1))
theorem wT (a0:(List Int)) (a1:Int):Le (jM a0 a1) (gJ a0 a1):=by
 unfold jM gJ
 repeat (first|exact Le.rfl|refine yV _ _|refine Le.bind ?_ fun _=>?_|refine Le.cond ?_ ?_|refine Le.lp fun _=>?_|refine Le.fl (fun _ _=>?_) _ _|refine Le.elim (fun _=>?_) fun _=>?_)
def nR (a0:Int) (a1:(List Int)) (x1:((List Int)×Int)):Option (((List Int)×Int) ⊕ (List Int)):=
 bif decide (x1.2<a0) then
  (Option.bind (jM a1 x1.2) fun v2=>
  bif !v2 then
   (bif decide (x1.1.length+[x1.2].length ≤4294967296) then
    (some (.inl ((x1.1++[x1.2]),wr (x1.2+1))))
   else none)
  else
   (some (.inl (x1.1,wr (x1.2+1)))))
 else
  (some (.inr x1.1))
theorem aAP (a0:Int) (a1:(List Int)) (x1:((List Int)×Int)):Le (nR a0 a1 x1) (jR a0 a1 x1):=by
 unfold nR jR
 repeat (first|exact Le.rfl|refine wT _ _|refine Le.bind ?_ fun _=>?_|refine Le.cond ?_ ?_|refine Le.lp fun _=>?_|refine Le.fl (fun _ _=>?_) _ _|refine Le.elim (fun _=>?_) fun _=>?_)
def sO (a0:Int) (a1:(List Int)):Option (List Int):=
 Option.bind (LpF 100 (nR a0 a1) ([],0)) fun y5=>
 some (y5)
theorem aBn (a0:Int) (a1:(List Int)):Le (sO a0 a1) (mK a0 a1):=by
 unfold sO mK
 repeat (first|exact Le.rfl|refine aAP _ _ _|refine Le.bind ?_ fun _=>?_|refine Le.cond ?_ ?_|refine Le.lp fun _=>?_|refine Le.fl (fun _ _=>?_) _ _|refine Le.elim (fun _=>?_) fun _=>?_)
def aEZ (a1:(List (List Int))) (x1:((List Int)×Int)):Option (((List Int)×Int) ⊕ (List Int)):=
 bif decide (x1.2<(a1.length:Int)) then
  (Option.bind (dV a1 x1.2) fun v2=>
  bif decide (x1.1.length+v2.length≤4294967296) then
   (some (.inl ((x1.1++v2),wr (x1.2+1))))
  else none)
 else
  (some (.inr x1.1))
def yW (a0:Int) (a1:(List (List Int))):Option Mt:=
 Option.bind (LpF 100 (aEZ a1) ([],0)) fun y4=>
 some ((⟨(a1.length:Int),a0,y4⟩:Mt))
theorem aHB (a0:Int) (a1:(List (List Int))):Le (yW a0 a1) (kQ a0 a1):=by
 unfold yW kQ
 repeat (first|exact Le.rfl|refine le_spec_l5Rows_L1 _ _|refine Le.bind ?_ fun _=>?_|refine Le.cond ?_ ?_|refine Le.lp fun _=>?_|refine Le.fl (fun _ _=>?_) _ _|refine Le.elim (fun _=>?_) fun _=>?_)
def aDd (v1:(Mt×(List Int))) (x1:((List (List Int))×Int)):Option (((List (List Int))×Int) ⊕ (List (List Int))):=
 bif decide (x1.2<((v1.2.length:Nat):Int)) then
  (bif (decide (0≤wr (x1.2*v1.1.cols))&&(decide (wr (x1.2*v1.1.cols)≤wr ((wr (x1.2*v1.1.cols))+v1.1.cols))&&decide (wr ((wr (x1.2*v1.1.cols))+v1.1.cols)≤((v1.1.cells.length:Nat):Int)))) then
   (bif decide (([]:(List Int)).length +((v1.1.cells.drop (0+(wr (x1.2*v1.1.cols)).toNat)).take ((wr ((wr (x1.2*v1.1.cols))+v1.1.cols)).toNat - (wr (x1.2*v1.1.cols)).toNat)).length ≤4294967296) then
    (bif decide (x1.1.length+1≤4294967296) then
     (some (.inl ((x1.1++[(([]:(List Int))++((v1.1.cells.drop (0+(wr (x1.2*v1.1.cols)).toNat)).take ((wr ((wr (x1.2*v1.1.cols))+v1.1.cols)).toNat - (wr (x1.2*v1.1.cols)).toNat)))]),wr (x1.2+1))))
    else none)
   else none)
  else none)
 else
  (some (.inr x1.1))
def xQ (a0:Int) (a1:Mt):Option (List (List Int)):=
 Option.bind (wA a0 a1) fun v1=>
 Option.bind (LpF 100 (aDd v1) (([]:(List (List Int))),0)) fun y6=>
 some (y6)
theorem aFi (a0:Int) (a1:Mt):Le (xQ a0 a1) (jI a0 a1):=by
 unfold xQ jI
 repeat (first|exact Le.rfl|refine aEY _ _|refine le_spec_l5Basis_L1 _ _|refine Le.bind ?_ fun _=>?_|refine Le.cond ?_ ?_|refine Le.lp fun _=>?_|refine Le.fl (fun _ _=>?_) _ _|refine Le.elim (fun _=>?_) fun _=>?_)
def vB (a0:Int) (a1:Int) (a2:(List (List Int))) (x1:Int):Option (Int ⊕ (Unit ⊕ Bool)):=
 bif decide (x1<(a2.length:Int)) then
  (Option.bind (dV a2 x1) fun v2=>
  bif !decide ((v2.length:Int)=a1) then
   (some (.inr (.inr (false))))
  else
   (Option.bind (dV a2 x1) fun v4=>
   Option.bind (vZ a0 v4) fun v5=>
   bif !v5 then
    (some (.inr (.inr (false))))
   else
    (some (.inl (wr (x1+1))))))
 else
  (some (.inr (.inl ())))
theorem aDe (a0:Int) (a1:Int) (a2:(List (List Int))) (x1:Int):Le (vB a0 a1 a2 x1) (iY a0 a1 a2 x1):=by
 unfold vB iY
 repeat (first|exact Le.rfl|refine aEX _ _|refine Le.bind ?_ fun _=>?_|refine Le.cond ?_ ?_|refine Le.lp fun _=>?_|refine Le.fl (fun _ _=>?_) _ _|refine Le.elim (fun _=>?_) fun _=>?_)
def yX (a0:Int) (a1:Int) (a2:(List (List Int))):Option Bool:=
 Option.bind (LpF 100 (vB a0 a1 a2) 0) fun y7=>
 Sum.elim (fun y8=>
  Option.bind (pO a0) fun v9=>
  bif v9 then
   (Option.bind (vQ a1 0 8) fun v11=>
   bif v11 then
    (some (decide ((a2.length:Int)≤16)))
   else
    (some (false)))
  else
   (some (false))
 )
 (fun y13=>
  some y13
 )
  y7
theorem aHC (a0:Int) (a1:Int) (a2:(List (List Int))):Le (yX a0 a1 a2) (nL a0 a1 a2):=by
 unfold yX nL
 repeat (first|exact Le.rfl|refine aDe _ _ _ _|refine le_spec_IsField _|refine le_spec_l1In _ _ _|refine Le.bind ?_ fun _=>?_|refine Le.cond ?_ ?_|refine Le.lp fun _=>?_|refine Le.fl (fun _ _=>?_) _ _|refine Le.elim (fun _=>?_) fun _=>?_)
def aEa (a0:(List (List Int))) (a1:(List (List Int))) (x1:Int) (x2:Int):Option (Int ⊕ (Unit ⊕ Bool)):=
 Option.bind (dV a0 x1) fun v6=>
 bif decide (x2<(v6.length:Int)) then
  (Option.bind (dV a0 x1) fun v8=>
  Option.bind (dV v8 x2) fun v9=>
  Option.bind (dV a1 x1) fun v10=>
  Option.bind (dV v10 x2) fun v11=>
  bif !decide (v9=v11) then
   (some (.inr (.inr (false))))
  else
   (some (.inl (wr (x2+1)))))
 else
  (some (.inr (.inl ())))
def vC (a0:(List (List Int))) (a1:(List (List Int))) (x1:Int):Option (Int ⊕ (Unit ⊕ Bool)):=
 bif decide (x1<(a0.length:Int)) then
  (Option.bind (dV a0 x1) fun v3=>
  Option.bind (dV a1 x1) fun v4=>
  bif !decide ((v3.length:Int)=(v4.length:Int)) then
   (some (.inr (.inr (false))))
  else
   (Option.bind (LpF 100 (aEa a0 a1 x1) 0) fun y13=>
   Sum.elim (fun y14=>
    some (.inl (wr (x1+1)))
   )
   (fun y15=>
    some (.inr (.inr y15))
   )
    y13))
 else
  (some (.inr (.inl ())))
theorem aDf (a0:(List (List Int))) (a1:(List (List Int))) (x1:Int):Le (vC a0 a1 x1) (iZ a0 a1 x1):=by
 unfold vC iZ
 repeat (first|exact Le.rfl|refine le_spec_l5Same_L2 _ _ _ _|refine Le.bind ?_ fun _=>?_|refine Le.cond ?_ ?_|refine Le.lp fun _=>?_|refine Le.fl (fun _ _=>?_) _ _|refine Le.elim (fun _=>?_) fun _=>?_)
def yY (a0:(List (List Int))) (a1:(List (List Int))):Option Bool:=
 bif !decide ((a0.length:Int)=(a1.length:Int)) then
  (some (false))
 else
  (Option.bind (LpF 100 (vC a0 a1) 0) fun y16=>
  Sum.elim (fun y17=>
   some (true)
  )
  (fun y18=>
   some y18
  )
   y16)
theorem aHD (a0:(List (List Int))) (a1:(List (List Int))):Le (yY a0 a1) (nM a0 a1):=by
 unfold yY nM
 repeat (first|exact Le.rfl|refine aDf _ _ _|refine Le.bind ?_ fun _=>?_|refine Le.cond ?_ ?_|refine Le.lp fun _=>?_|refine Le.fl (fun _ _=>?_) _ _|refine Le.elim (fun _=>?_) fun _=>?_)
def xR (a0:Int) (a1:Sc):Option Bool:=
 Option.bind (yX a0 a1.size a1.basis) fun v1=>
 bif !v1 then
  (some (false))
 else
  (Option.bind (yW a1.size a1.basis) fun v3=>
  Option.bind (xQ a0 v3) fun v4=>
  Option.bind (yY v4 a1.basis) fun v5=>
  some (v5))
theorem aFj (a0:Int) (a1:Sc):Le (xR a0 a1) (fX a0 a1):=by
 unfold xR fX
 repeat (first|exact Le.rfl|refine aHC _ _ _|refine aHB _ _|refine aFi _ _|refine aHD _ _|refine Le.bind ?_ fun _=>?_|refine Le.cond ?_ ?_|refine Le.lp fun _=>?_|refine Le.fl (fun _ _=>?_) _ _|refine Le.elim (fun _=>?_) fun _=>?_)
def aDg (a0:Int):Option Int:=
 bif decide (4294967296≤a0) then
  (bif decide (65536≤kR a0 32) then
   (bif decide (256≤kR (kR a0 32) 16) then
    (Option.bind (uO cO (IntKind.u8.wrap (kR (kR (kR a0 32) 16) 8))) fun v4=>
    some (wr ((wr ((wr (32+16))+8))+(IntKind.i64.wrap v4))))
   else
    (Option.bind (uO cO (IntKind.u8.wrap (kR (kR a0 32) 16))) fun v5=>
    some (wr ((wr (32+16))+(IntKind.i64.wrap v5)))))
  else
   (bif decide (256≤kR a0 32) then
    (Option.bind (uO cO (IntKind.u8.wrap (kR (kR a0 32) 8))) fun v7=>
    some (wr ((wr (32+8))+(IntKind.i64.wrap v7))))
   else
    (Option.bind (uO cO (IntKind.u8.wrap (kR a0 32))) fun v8=>
    some (wr (32+(IntKind.i64.wrap v8))))))
 else
  (bif decide (65536≤a0) then
   (bif decide (256≤kR a0 16) then
    (Option.bind (uO cO (IntKind.u8.wrap (kR (kR a0 16) 8))) fun v11=>
    some (wr ((wr ((wr (0+16))+8))+(IntKind.i64.wrap v11))))
   else
    (Option.bind (uO cO (IntKind.u8.wrap (kR a0 16))) fun v12=>
    some (wr ((wr (0+16))+(IntKind.i64.wrap v12)))))
  else
   (bif decide (256≤a0) then
    (Option.bind (uO cO (IntKind.u8.wrap (kR a0 8))) fun v14=>
    some (wr ((wr (0+8))+(IntKind.i64.wrap v14))))
   else
    (Option.bind (uO cO (IntKind.u8.wrap a0)) fun v15=>
    some (wr (0+(IntKind.i64.wrap v15))))))
def aFk (a0:Int):Option Int:=
 Option.bind (aDg a0) fun v1=>
 some (v1)
def aAY (a0:Int):Option Bool:=
 some (!decide (a0=a0))
def aDh (a0:Int) (a1:Int):Option Int:=
 Option.bind (aAY a0) fun v1=>
 Option.bind (aAY a1) fun v2=>
 bif v1 then
  (bif v2 then
   (some (0))
  else
   (some ((-1))))
 else
  (bif v2 then
   (some (1))
  else
   (bif decide (a0<a1) then
    (some ((-1)))
   else
    (bif decide (a1<a0) then
     (some (1))
    else
     (some (0)))))
def wB (a0:(List Int)) (a1:(List Int)) (x1:Int):Option (Int ⊕ (Unit ⊕ Int)):=
 bif decide (x1<(a0.length:Int)) then
  (Option.bind (dV a0 x1) fun v2=>
  bif decide ((a1.length:Int)≤x1) then
   (some (.inr (.inr (1))))
  else
   (Option.bind (dV a1 x1) fun v4=>
   Option.bind (aDh v2 v4) fun v5=>
   bif !decide (v5=0) then
    (some (.inr (.inr (v5))))
   else
    (some (.inl (wr (x1+1))))))
 else
  (some (.inr (.inl ())))
def jX (a0:(List Int)) (a1:(List Int)):Option Int:=
 Option.bind (LpF 100 (wB a0 a1) 0) fun y7=>
 Sum.elim (fun y8=>
  bif decide ((a0.length:Int)<(a1.length:Int)) then
   (some ((-1)))
  else
   (some (0))
 )
 (fun y10=>
  some y10
 )
  y7
theorem xS (a0:(List Int)) (a1:(List Int)):Le (jX a0 a1) (gO a0 a1):=by
 unfold jX gO
 repeat (first|exact Le.rfl|refine le_slices_Compare_Lint_int_L1 _ _ _|refine Le.bind ?_ fun _=>?_|refine Le.cond ?_ ?_|refine Le.lp fun _=>?_|refine Le.fl (fun _ _=>?_) _ _|refine Le.elim (fun _=>?_) fun _=>?_)
def qP (a0:(List Int)) (a1:(List Int)):Option Int:=
 Option.bind (jX a0 a1) fun v1=>
 some (v1)
theorem aBJ (a0:(List Int)) (a1:(List Int)):Le (qP a0 a1) (iP a0 a1):=by
 unfold qP iP
 repeat (first|exact Le.rfl|refine xS _ _|refine Le.bind ?_ fun _=>?_|refine Le.cond ?_ ?_|refine Le.lp fun _=>?_|refine Le.fl (fun _ _=>?_) _ _|refine Le.elim (fun _=>?_) fun _=>?_)
def eG (a0:(List (List Int))) (a1:(List (List Int))) (a2:((List Int)→(List Int)→Option Int)) (x1:Int):Option (Int ⊕ (Unit ⊕ Int)):=
 bif decide (x1<(a0.length:Int)) then
  (Option.bind (dV a0 x1) fun v2=>
  bif decide ((a1.length:Int)≤x1) then
   (some (.inr (.inr (1))))
  else
   (Option.bind (dV a1 x1) fun v4=>
   Option.bind (a2 v2 v4) fun v5=>
   bif !decide (v5=0) then
    (some (.inr (.inr (v5))))
   else
    (some (.inl (wr (x1+1))))))
 else
  (some (.inr (.inl ())))
theorem kT {a2 a2':((List Int)→(List Int)→Option Int)} (ha2: ∀ z0 z1,Le (a2 z0 z1) (a2' z0 z1)) (a0:(List (List Int))) (a1:(List (List Int))) (x1:Int):Le (eG a0 a1 a2 x1) (dK a0 a1 a2' x1):=by
 unfold eG dK
 repeat (first|exact Le.rfl|exact ha2 _ _|refine Le.bind ?_ fun _=>?_|refine Le.cond ?_ ?_|refine Le.lp fun _=>?_|refine Le.fl (fun _ _=>?_) _ _|refine Le.elim (fun _=>?_) fun _=>?_)
def eY (a0:(List (List Int))) (a1:(List (List Int))) (a2:((List Int)→(List Int)→Option Int)):Option Int:=
 Option.bind (LpF 100 (eG a0 a1 a2) 0) fun y7=>
 Sum.elim (fun y8=>
  bif decide ((a0.length:Int)<(a1.length:Int)) then
   (some ((-1)))
  else
   (some (0))
 )
 (fun y10=>
  some y10
 )
  y7
theorem lX {a2 a2':((List Int)→(List Int)→Option Int)} (ha2: ∀ z0 z1,Le (a2 z0 z1) (a2' z0 z1)) (a0:(List (List Int))) (a1:(List (List Int))):Le (eY a0 a1 a2) (dT a0 a1 a2'):=by
 unfold eY dT
 repeat (first|exact Le.rfl|exact ha2 _ _|refine kT (fun _ _=>?_) _ _ _|refine Le.bind ?_ fun _=>?_|refine Le.cond ?_ ?_|refine Le.lp fun _=>?_|refine Le.fl (fun _ _=>?_) _ _|refine Le.elim (fun _=>?_) fun _=>?_)
def uH (a0:Sc) (a1:Sc):Option Int:=
 Option.bind (eY a0.basis a1.basis (fun b0 b1=>qP b0 b1)) fun v1=>
 some (v1)
theorem aCe (a0:Sc) (a1:Sc):Le (uH a0 a1) (oC a0 a1):=by
 unfold uH oC
 repeat (first|exact Le.rfl|refine lX (fun _ _=>?_) _ _|refine aBJ _ _|refine Le.bind ?_ fun _=>?_|refine Le.cond ?_ ?_|refine Le.lp fun _=>?_|refine Le.fl (fun _ _=>?_) _ _|refine Le.elim (fun _=>?_) fun _=>?_)
def eO (a1:Int) (x2:((List Sc)×Int)):Option (((List Sc)×Int) ⊕ (List Sc)):=
 bif decide (a1<x2.2) then
  (Option.bind (dV x2.1 x2.2) fun v3=>
  Option.bind (dV x2.1 (wr (x2.2 - 1))) fun v4=>
  Option.bind (uH v3 v4) fun v5=>
  bif decide (v5<0) then
   (Option.bind (dV x2.1 (wr (x2.2 - 1))) fun v7=>
   Option.bind (dV x2.1 x2.2) fun v8=>
   Option.bind (dV x2.1 x2.2) fun v9=>
   Option.bind (dV (x2.1.set x2.2.toNat v7) (wr (x2.2 - 1))) fun v10=>
   some (.inl (((x2.1.set x2.2.toNat v7).set ((wr (x2.2 - 1)).toNat) v8),wr (x2.2 - 1))))
  else
   (some (.inr x2.1)))
 else
  (some (.inr x2.1))
theorem lU (a1:Int) (x2:((List Sc)×Int)):Le (eO a1 x2) (dQ a1 x2):=by
 unfold eO dQ
 repeat (first|exact Le.rfl|refine aCe _ _|refine Le.bind ?_ fun _=>?_|refine Le.cond ?_ ?_|refine Le.lp fun _=>?_|refine Le.fl (fun _ _=>?_) _ _|refine Le.elim (fun _=>?_) fun _=>?_)
def eP (a1:Int) (a2:Int) (x1:((List Sc)×Int)):Option (((List Sc)×Int) ⊕ (List Sc)):=
 bif decide (x1.2<a2) then
  (Option.bind (LpF 100 (eO a1) (x1.1,x1.2)) fun y11=>
  some (.inl (y11,wr (x1.2+1))))
 else
  (some (.inr x1.1))
theorem lV (a1:Int) (a2:Int) (x1:((List Sc)×Int)):Le (eP a1 a2 x1) (dR a1 a2 x1):=by
 unfold eP dR
 repeat (first|exact Le.rfl|refine lU _ _|refine Le.bind ?_ fun _=>?_|refine Le.cond ?_ ?_|refine Le.lp fun _=>?_|refine Le.fl (fun _ _=>?_) _ _|refine Le.elim (fun _=>?_) fun _=>?_)
def fE (a0:(List Sc)) (a1:Int) (a2:Int):Option (List Sc):=
 Option.bind (LpF 100 (eP a1 a2) (a0,wr (a1+1))) fun y12=>
 some y12
theorem nH (a0:(List Sc)) (a1:Int) (a2:Int):Le (fE a0 a1 a2) (dY a0 a1 a2):=by
 unfold fE dY
 repeat (first|exact Le.rfl|refine lV _ _ _|refine Le.bind ?_ fun _=>?_|refine Le.cond ?_ ?_|refine Le.lp fun _=>?_|refine Le.fl (fun _ _=>?_) _ _|refine Le.elim (fun _=>?_) fun _=>?_)
def fN (a0:(List Sc)) (a1:Int) (a2:Int) (a3:Int) (x1:Unit):Option (Unit ⊕ (List Sc)):=
 bif decide (wr (a2 - a1)≤12) then
  (Option.bind (fE a0 a1 a2) fun v2=>
  bif decide (v2.length=a0.length) then
   (some (.inr v2))
  else none)
 else
  (bif decide (a3=0) then
   (none)
  else
   (none))
theorem pP (a0:(List Sc)) (a1:Int) (a2:Int) (a3:Int) (x1:Unit):Le (fN a0 a1 a2 a3 x1) (eF a0 a1 a2 a3 x1):=by
 unfold fN eF
 repeat (first|exact Le.rfl|refine nH _ _ _|refine Le.bind ?_ fun _=>?_|refine Le.cond ?_ ?_|refine Le.lp fun _=>?_|refine Le.fl (fun _ _=>?_) _ _|refine Le.elim (fun _=>?_) fun _=>?_)
def fZ (a0:(List Sc)) (a1:Int) (a2:Int) (a3:Int):Option (List Sc):=
 Option.bind (LpF 100 (fN a0 a1 a2 a3) ()) fun y5=>
 some y5
theorem qW (a0:(List Sc)) (a1:Int) (a2:Int) (a3:Int):Le (fZ a0 a1 a2 a3) (eX a0 a1 a2 a3):=by
 unfold fZ eX
 repeat (first|exact Le.rfl|refine pP _ _ _ _ _|refine Le.bind ?_ fun _=>?_|refine Le.cond ?_ ?_|refine Le.lp fun _=>?_|refine Le.fl (fun _ _=>?_) _ _|refine Le.elim (fun _=>?_) fun _=>?_)
def fF (a0:(List Sc)):Option (List Sc):=
 Option.bind (aFk (IntKind.u64.wrap ((a0.length:Nat):Int))) fun v1=>
 Option.bind (fZ a0 0 ((a0.length:Nat):Int) v1) fun v2=>
 bif decide (v2.length=a0.length) then
  (some v2)
 else none
theorem nI (a0:(List Sc)):Le (fF a0) (dZ a0):=by
 unfold fF dZ
 repeat (first|exact Le.rfl|refine le_math_bits_Len _|refine qW _ _ _ _|refine Le.bind ?_ fun _=>?_|refine Le.cond ?_ ?_|refine Le.lp fun _=>?_|refine Le.fl (fun _ _=>?_) _ _|refine Le.elim (fun _=>?_) fun _=>?_)
def aAb (a0:Mt) (x1:((List (List Int))×Int)):Option (((List (List Int))×Int) ⊕ (List (List Int))):=
 bif decide (x1.2<a0.rows) then
  (Option.bind (aCM a0 x1.2) fun v2=>
  Option.bind (tP v2) fun v3=>
  bif decide (x1.1.length+1≤4294967296) then
   (some (.inl ((x1.1++[v3]),wr (x1.2+1))))
  else none)
 else
  (some (.inr x1.1))
def sP (a0:Mt):Option (List (List Int)):=
 Option.bind (LpF 100 (aAb a0) ([],0)) fun y5=>
 some (y5)
theorem aBo (a0:Mt):Le (sP a0) (mP a0):=by
 unfold sP mP
 repeat (first|exact Le.rfl|refine le_impl_Matrix_rows_L1 _ _|refine Le.bind ?_ fun _=>?_|refine Le.cond ?_ ?_|refine Le.lp fun _=>?_|refine Le.fl (fun _ _=>?_) _ _|refine Le.elim (fun _=>?_) fun _=>?_)
def aCf (a1:Int) (x1:(Int×(List Sc))) (x2:((List Int)×Int)):Option (((List Int)×Int) ⊕ (List Int)):=
 bif decide (x2.2<a1) then
  (bif !decide (x2.2<0) then
   (bif decide (aPy (aPx x1.1 x2.2) 1=1) then
    (bif decide (x2.1.length+[x2.2].length ≤4294967296) then
     (some (.inl ((x2.1++[x2.2]),wr (x2.2+1))))
    else none)
   else
    (some (.inl (x2.1,wr (x2.2+1)))))
  else none)
 else
  (some (.inr x2.1))
def aCg (v9:Int) (v10:(List Int)) (x3:((List Pr)×Int)) (x4:((List Pr)×Int)):Option (((List Pr)×Int) ⊕ (List Pr)):=
 bif decide (x4.2<((v10.length:Nat):Int)) then
  (Option.bind (dV v10 x4.2) fun v12=>
  bif decide (v9<v12) then
   (bif decide (x4.1.length+[(⟨x3.2,v12⟩:Pr)].length ≤4294967296) then
    (some (.inl ((x4.1++[(⟨x3.2,v12⟩:Pr)]),wr (x4.2+1))))
   else none)
  else
   (some (.inl (x4.1,wr (x4.2+1)))))
 else
  (some (.inr x4.1))
def sR (a1:Int) (y6:(List Int)) (x3:((List Pr)×Int)):Option (((List Pr)×Int) ⊕ (List Pr)):=
 bif decide (x3.2<((y6.length:Nat):Int)) then
  (Option.bind (dV y6 x3.2) fun v9=>
  Option.bind (sO a1 y6) fun v10=>
  Option.bind (LpF 100 (aCg v9 v10 x3) (x3.1,0)) fun y15=>
  some (.inl (y15,wr (x3.2+1))))
 else
  (some (.inr x3.1))
theorem aBp (a1:Int) (y6:(List Int)) (x3:((List Pr)×Int)):Le (sR a1 y6 x3) (mQ a1 y6 x3):=by
 unfold sR mQ
 repeat (first|exact Le.rfl|refine aBn _ _|refine le_impl_spacesOf_L4 _ _ _ _|refine Le.bind ?_ fun _=>?_|refine Le.cond ?_ ?_|refine Le.lp fun _=>?_|refine Le.fl (fun _ _=>?_) _ _|refine Le.elim (fun _=>?_) fun _=>?_)
def aCh (v19:Mt) (y6:(List Int)) (x6:((List Int)×Int)):Option (((List Int)×Int) ⊕ (List Int)):=
 bif decide (x6.2<((y6.length:Nat):Int)) then
  (Option.bind (dV y6 x6.2) fun v21=>
  Option.bind (yN (⟨v19.rows,v19.cols,x6.1⟩:Mt) x6.2) fun v22=>
  bif (decide (0≤v21)&&decide (v21<((((wr ((wr (x6.2+1))*v19.cols)).toNat - (wr (x6.2*v19.cols)).toNat):Nat):Int))) then
   (Option.bind (x6.1[((0+(wr (x6.2*v19.cols)).toNat)+v21.toNat)]?) fun v23=>
   some (.inl ((x6.1.set ((0+(wr (x6.2*v19.cols)).toNat)+v21.toNat) 1),wr (x6.2+1)))
   )
  else none)
 else
  (some (.inr x6.1))
def aCi (v18:(List Int)) (v19:Mt) (y16:(List Pr)) (x7:((List Int)×Int)):Option (((List Int)×Int) ⊕ (List Int)):=
 bif decide (x7.2<((y16.length:Nat):Int)) then
  (Option.bind (dV y16 x7.2) fun v27=>
  Option.bind (yN (⟨v19.rows,v19.cols,x7.1⟩:Mt) v27.a) fun v28=>
  Option.bind (dV v18 x7.2) fun v29=>
  bif (decide (0≤v27.b)&&decide (v27.b<((((wr ((wr (v27.a+1))*v19.cols)).toNat - (wr (v27.a*v19.cols)).toNat):Nat):Int))) then
   (Option.bind (x7.1[((0+(wr (v27.a*v19.cols)).toNat)+v27.b.toNat)]?) fun v30=>
   some (.inl ((x7.1.set ((0+(wr (v27.a*v19.cols)).toNat)+v27.b.toNat) v29),wr (x7.2+1)))
   )
  else none)
 else
  (some (.inr x7.1))
def sS (a1:Int) (a2:Int) (y6:(List Int)) (y16:(List Pr)) (v18:List Int) (x5:(List Sc)):Option ((List Sc) ⊕ Unit):=
 Option.bind (aKq a2 a1) fun v19=>
 Option.bind (LpF 100 (aCh v19 y6) (v19.cells,0)) fun y25=>
 Option.bind (LpF 100 (aCi v18 v19 y16) (y25,0)) fun y32=>
 Option.bind (sP (⟨v19.rows,v19.cols,y32⟩:Mt)) fun v33=>
 bif decide (x5.length+1≤4294967296) then
  (some (.inl (x5++[(⟨a1,v33⟩:Sc)])))
 else none
theorem aBq (a1:Int) (a2:Int) (y6:(List Int)) (y16:(List Pr)) (v18:List Int) (x5:(List Sc)):Le (sS a1 a2 y6 y16 v18 x5) (mR a1 a2 y6 y16 v18 x5):=by
 unfold sS mR
 repeat (first|exact Le.rfl|refine le_impl_zero _ _|refine le_impl_spacesOf_L6 _ _ _|refine le_impl_spacesOf_L7 _ _ _ _|refine aBo _|refine Le.bind ?_ fun _=>?_|refine Le.cond ?_ ?_|refine Le.lp fun _=>?_|refine Le.fl (fun _ _=>?_) _ _|refine Le.elim (fun _=>?_) fun _=>?_)
def sT (a0:Int) (a1:Int) (a2:Int) (x1:(Int×(List Sc))):Option ((Int×(List Sc)) ⊕ (List Sc)):=
 bif decide (x1.1<xW 1 a1) then
  (Option.bind (LpF 100 (aCf a1 x1) ([],0)) fun y6=>
  bif !decide (((y6.length:Nat):Int)=a2) then
   (some (.inl (wr (x1.1+1),x1.2)))
  else
   (Option.bind (LpF 100 (sR a1 y6) ([],0)) fun y16=>
   bif (decide (0≤((y16.length:Nat):Int))&&decide (((y16.length:Nat):Int)≤1048576)) then
    (bif aBz (List.replicate ((y16.length:Nat):Int).toNat (wr (a0 - 1))) then
     (Option.bind (Fl (sS a1 a2 y6 y16) (dJ (List.replicate ((y16.length:Nat):Int).toNat (wr (a0 - 1)))) x1.2) fun y35=>
      Sum.elim (fun y35=>
       some (.inl (wr (x1.1+1),y35))
      ) (fun _=>none) y35)
    else none)
   else none))
 else
  (some (.inr x1.2))
theorem aBr (a0:Int) (a1:Int) (a2:Int) (x1:(Int×(List Sc))):Le (sT a0 a1 a2 x1) (mS a0 a1 a2 x1):=by
 unfold sT mS
 repeat (first|exact Le.rfl|refine le_impl_spacesOf_L2 _ _ _|refine aBp _ _ _|refine aBq _ _ _ _ _ _|refine Le.bind ?_ fun _=>?_|refine Le.cond ?_ ?_|refine Le.lp fun _=>?_|refine Le.fl (fun _ _=>?_) _ _|refine Le.elim (fun _=>?_) fun _=>?_)
def rW (a0:Int) (a1:Int) (a2:Int):Option (List Sc):=
 bif !decide (a1<0) then
  (Option.bind (LpF 100 (sT a0 a1 a2) (0,[])) fun y37=>
  Option.bind (fF y37) fun v38=>
  bif decide (v38.length=y37.length) then
   (some v38)
  else none)
 else none
theorem aEb (a0:Int) (a1:Int) (a2:Int):Le (rW a0 a1 a2) (kD a0 a1 a2):=by
 unfold rW kD
 repeat (first|exact Le.rfl|refine aBr _ _ _ _|refine nI _|refine Le.bind ?_ fun _=>?_|refine Le.cond ?_ ?_|refine Le.lp fun _=>?_|refine Le.fl (fun _ _=>?_) _ _|refine Le.elim (fun _=>?_) fun _=>?_)
def aDi (a0:Int) (a1:Int) (x1:(Int×Int)):Option ((Int×Int) ⊕ Int):=
 bif decide (x1.2<a1) then
  (some (.inl (wr (x1.1*a0),wr (x1.2+1))))
 else
  (some (.inr x1.1))
def uI (a0:Int) (a1:Int):Option Int:=
 Option.bind (LpF 100 (aDi a0 a1) (1,0)) fun y2=>
 some (y2)
theorem aFl (a0:Int) (a1:Int):Le (uI a0 a1) (pI a0 a1):=by
 unfold uI pI
 repeat (first|exact Le.rfl|refine le_spec_l5Power_L1 _ _ _|refine Le.bind ?_ fun _=>?_|refine Le.cond ?_ ?_|refine Le.lp fun _=>?_|refine Le.fl (fun _ _=>?_) _ _|refine Le.elim (fun _=>?_) fun _=>?_)
def nS (a0:Int) (a1:Int) (a2:Int) (x1:(Int×Int×Int)):Option ((Int×Int×Int) ⊕ (Int×Int)):=
 bif decide (x1.2.2<a2) then
  (Option.bind (uI a0 (wr (a1 - x1.2.2))) fun v8=>
  Option.bind (uI a0 (wr (x1.2.2+1))) fun v9=>
  some (.inl (wr (x1.1*(wr (v8 - 1))),wr (x1.2.1*(wr (v9 - 1))),wr (x1.2.2+1))))
 else
  (some (.inr (x1.1,x1.2.1)))
theorem aAQ (a0:Int) (a1:Int) (a2:Int) (x1:(Int×Int×Int)):Le (nS a0 a1 a2 x1) (jV a0 a1 a2 x1):=by
 unfold nS jV
 repeat (first|exact Le.rfl|refine aFl _ _|refine Le.bind ?_ fun _=>?_|refine Le.cond ?_ ?_|refine Le.lp fun _=>?_|refine Le.fl (fun _ _=>?_) _ _|refine Le.elim (fun _=>?_) fun _=>?_)
def sU (a0:Int) (a1:Int) (a2:Int):Option Int:=
 Option.bind (pO a0) fun v1=>
 bif !v1 then
  (some ((-1)))
 else
  (Option.bind (vQ a1 0 4) fun v3=>
  bif !v3 then
   (some ((-1)))
  else
   (Option.bind (vQ a2 0 a1) fun v5=>
   bif !v5 then
    (some ((-1)))
   else
    (Option.bind (LpF 100 (nS a0 a1 a2) (1,1,0)) fun y10=>
    bif !decide (y10.2=0) then
     (some (wr (y10.1.tdiv y10.2)))
    else none)))
theorem aBs (a0:Int) (a1:Int) (a2:Int):Le (sU a0 a1 a2) (jJ a0 a1 a2):=by
 unfold sU jJ
 repeat (first|exact Le.rfl|refine le_spec_IsField _|refine le_spec_l1In _ _ _|refine aAQ _ _ _ _|refine Le.bind ?_ fun _=>?_|refine Le.cond ?_ ?_|refine Le.lp fun _=>?_|refine Le.fl (fun _ _=>?_) _ _|refine Le.elim (fun _=>?_) fun _=>?_)
def aCj (a0:Int) (x1:(Int×(List Int)×Int)):Option ((Int×(List Int)×Int) ⊕ (Int×(List Int))):=
 bif decide (0≤x1.2.2) then
  (bif !decide (a0=0) then
   (Option.bind (dV x1.2.1 x1.2.2) fun v7=>
   bif !decide (a0=0) then
    (some (.inl (wr (x1.1.tdiv a0),(x1.2.1.set x1.2.2.toNat (x1.1.tmod a0)),wr (x1.2.2 - 1))))
   else none)
  else none)
 else
  (some (.inr (x1.1,x1.2.1)))
def wC (a0:Int) (a1:Int) (a2:Int):Option ((List Int)×Bool):=
 Option.bind (pO a0) fun v1=>
 bif !v1 then
  (some ((([]:(List Int)),false)))
 else
  (Option.bind (vQ a1 0 8) fun v3=>
  bif !v3 then
   (some ((([]:(List Int)),false)))
  else
   (bif decide (a2<0) then
    (some ((([]:(List Int)),false)))
   else
    (bif (decide (0≤a1)&&decide (a1≤1048576)) then
     (Option.bind (LpF 100 (aCj a0) (a2,(List.replicate a1.toNat (0:Int)),wr (a1 - 1))) fun y10=>
     bif decide (0<y10.1) then
      (some ((([]:(List Int)),false)))
     else
      (some ((y10.2,true))))
    else none)))
theorem aEc (a0:Int) (a1:Int) (a2:Int):Le (wC a0 a1 a2) (rS a0 a1 a2):=by
 unfold wC rS
 repeat (first|exact Le.rfl|refine le_spec_IsField _|refine le_spec_l1In _ _ _|refine le_spec_VectorOf_L1 _ _|refine Le.bind ?_ fun _=>?_|refine Le.cond ?_ ?_|refine Le.lp fun _=>?_|refine Le.fl (fun _ _=>?_) _ _|refine Le.elim (fun _=>?_) fun _=>?_)
def aEd (a0:Int) (a1:Int) (x1:(Int×Int)):Option ((Int×Int) ⊕ Int):=
 bif decide (x1.2<a1) then
  (some (.inl (wr (x1.1*a0),wr (x1.2+1))))
 else
  (some (.inr x1.1))
def vD (a0:Int) (a1:Int) (v2:(List Sc)) (v6:((List Int)×Bool)) (x3:((List Sc)×Int)):Option (((List Sc)×Int) ⊕ (List Sc)):=
 bif decide (x3.2<((v2.length:Nat):Int)) then
  (Option.bind (dV v2 x3.2) fun v8=>
  bif decide ([v6.1].length +v8.basis.length≤4294967296) then
   (Option.bind (xR a0 (⟨a1,([v6.1]++v8.basis)⟩:Sc)) fun v10=>
   bif v10 then
    (bif decide (x3.1.length+1≤4294967296) then
     (some (.inl ((x3.1++[(⟨a1,([v6.1]++v8.basis)⟩:Sc)]),wr (x3.2+1))))
    else none)
   else
    (some (.inl (x3.1,wr (x3.2+1)))))
  else none)
 else
  (some (.inr x3.1))
theorem aDj (a0:Int) (a1:Int) (v2:(List Sc)) (v6:((List Int)×Bool)) (x3:((List Sc)×Int)):Le (vD a0 a1 v2 v6 x3) (qI a0 a1 v2 v6 x3):=by
 unfold vD qI
 repeat (first|exact Le.rfl|refine aFj _ _|refine Le.bind ?_ fun _=>?_|refine Le.cond ?_ ?_|refine Le.lp fun _=>?_|refine Le.fl (fun _ _=>?_) _ _|refine Le.elim (fun _=>?_) fun _=>?_)
def vE (a0:Int) (a1:Int) (v2:(List Sc)) (y4:Int) (x2:((List Sc)×Int)):Option (((List Sc)×Int) ⊕ (List Sc)):=
 bif decide (x2.2<y4) then
  (Option.bind (wC a0 a1 x2.2) fun v6=>
  Option.bind (LpF 100 (vD a0 a1 v2 v6) (x2.1,0)) fun y13=>
  some (.inl (y13,wr (x2.2+1))))
 else
  (some (.inr x2.1))
theorem aDk (a0:Int) (a1:Int) (v2:(List Sc)) (y4:Int) (x2:((List Sc)×Int)):Le (vE a0 a1 v2 y4 x2) (qJ a0 a1 v2 y4 x2):=by
 unfold vE qJ
 repeat (first|exact Le.rfl|refine aEc _ _ _|refine aDj _ _ _ _ _|refine Le.bind ?_ fun _=>?_|refine Le.cond ?_ ?_|refine Le.lp fun _=>?_|refine Le.fl (fun _ _=>?_) _ _|refine Le.elim (fun _=>?_) fun _=>?_)
def wD (self:Int→Int→Int→Option (List Sc)) (a0:Int) (a1:Int) (a2:Int):Option (List Sc):=
 bif decide (a2=0) then
  (some [(⟨a1,([]:(List (List Int)))⟩:Sc)])
 else
  (Option.bind (self a0 a1 (wr (a2 - 1))) fun v2=>
  Option.bind (LpF 100 (aEd a0 a1) (1,0)) fun y4=>
  Option.bind (LpF 100 (vE a0 a1 v2 y4) (([]:(List Sc)),0)) fun y14=>
  some y14)
theorem aEe {self self':Int→Int→Int→Option (List Sc)} (hself: ∀ z0 z1 z2,Le (self z0 z1 z2) (self' z0 z1 z2)) (a0:Int) (a1:Int) (a2:Int):Le (wD self a0 a1 a2) (rT self' a0 a1 a2):=by
 unfold wD rT
 repeat (first|exact Le.rfl|exact hself _ _ _|refine le_spec_l5List_L1 _ _ _|refine aDk _ _ _ _ _|refine Le.bind ?_ fun _=>?_|refine Le.cond ?_ ?_|refine Le.lp fun _=>?_|refine Le.fl (fun _ _=>?_) _ _|refine Le.elim (fun _=>?_) fun _=>?_)
def yZ:Nat→Int→Int→Int→Option (List Sc)
 |0,_,_,_=>none
 |n+1,a0,a1,a2=>wD (yZ n) a0 a1 a2
theorem aBK: ∀ (n:Nat) a0 a1 a2,Le (yZ n a0 a1 a2) (qU n a0 a1 a2)
 |0,a0,a1,a2=>Le.none
 |n+1,a0,a1,a2=>aEe (fun a0 a1 a2=>aBK n a0 a1 a2) a0 a1 a2
def rX (a0:Int) (a1:Int) (a2:Int):Option ((List Sc)×Bool):=
 Option.bind (sU a0 a1 a2) fun v1=>
 bif decide (v1<0) then
  (some (([]:(List Sc)),false))
 else
  (bif decide (200<v1) then
   (some (([]:(List Sc)),false))
  else
   (Option.bind (yZ 8 a0 a1 a2) fun v4=>
   some (v4,true)))
theorem aEf (a0:Int) (a1:Int) (a2:Int):Le (rX a0 a1 a2) (kE a0 a1 a2):=by
 unfold rX kE
 repeat (first|exact Le.rfl|refine aBs _ _ _|refine aBK _ _ _ _|refine Le.bind ?_ fun _=>?_|refine Le.cond ?_ ?_|refine Le.lp fun _=>?_|refine Le.fl (fun _ _=>?_) _ _|refine Le.elim (fun _=>?_) fun _=>?_)
end
noncomputable section
def sG (s:List Sc) (v:Nat):Sc:=s[v]?.getD ⟨0,[]⟩
def spB (r:Rp) (s:List Sc) (v:Nat):Bool:=nN r.p (sG s v).size (sG s v).basis &&decide ((sG s v).size=r.dims[v]?.getD 0)
def imB (r:Rp) (s:List Sc) (i:Nat):Bool:=inV r.p (dN r (tV r i)) (fU r.p (dN r (tV r i)) (imL r.p (dN r (tV r i)) (dN r (sV r i)) (aF r i) (sG s (sV r i)).basis)) (sG s (tV r i)).basis
def aCk (r:Rp) (s:List Sc):Bool:=aDP r&&(decide ((s.length:Int)=(r.dims.length:Int))&&((List.range s.length).all (spB r s)&&(List.range r.maps.length).all (imB r s)))
structure SpV (r:Rp) (s:List Sc) (v:Nat):Prop where
 size:(sG s v).size=(dN r v:Int)
 ok:nN r.p (dN r v) (sG s v).basis=true
 len:(sG s v).basis.length ≤dN r v
 vecs:VecsP r.p (dN r v) (sG s v).basis
 span:fU r.p (dN r v) (sG s v).basis=(sG s v).basis
theorem aLs {r:Rp} (R:Rv r) {s:List Sc} {v:Nat} (hv:v<r.dims.length) (h:spB r s v=true):SpV r s v:=by
 unfold spB at h
 simp only [Bool.and_eq_true,decide_eq_true_eq] at h
 obtain ⟨h1,h2⟩:=h
 rw [(R.d v hv).1] at h2
 rw [h2] at h1
 obtain ⟨_,n,e,_,h3,h4,h5⟩:=aAG h1
 have e:dN r v=n:=by omega
 subst e
 exact ⟨h2,h1,h3,h4,h5⟩
theorem aLt {r:Rp} {s:List Sc} (h:aCk r s=true):Rv r∧s.length=r.dims.length∧(∀ v,v<r.dims.length→SpV r s v):=by
 unfold aCk at h
 simp only [Bool.and_eq_true,decide_eq_true_eq] at h
 obtain ⟨h1,h2,h3,_⟩:=h
 have R:=aKe h1
 refine ⟨R,by omega,fun v hv=>aLs R hv ?_⟩
 exact List.all_eq_true.1 h3 v (List.mem_range.2 (by omega))
theorem aNe {r:Rp} (hr:bR r) {s:List Sc} (hs:s.length≤1048576∧ ∀ x∈s,bS x):wR r s=some (aCk r s):=by
 unfold wR aCk
 rw [aIL hr,Option.bind_some]
 refine gK fun hR=>?_
 have R:=aKe hR
 refine gK fun hL=>?_
 have hL:=of_decide_eq_true hL
 have hL:s.length=r.dims.length:=by omega
 rw [sB (spB r s) false (n:=s.length) (by omega) (fun k hk=>?_) (fun _=>?_),Option.bind_some]
 ·cases hA:(List.range s.length).all (spB r s) with
  |false=>rfl
  |true=>
   have hV: ∀ v,v<r.dims.length→SpV r s v:=fun v hv=>aLs R hv (List.all_eq_true.1 hA v (List.mem_range.2 (by omega)))
   simp only [cond_true,Sum.elim_inl,Bool.true_and]
   rw [sB (imB r s) false (n:=r.maps.length) (by have:=R.e6;have:=R.ml;omega) (fun i hi=>?_) (fun _=>?_),Option.bind_some]
   ·cases (List.range r.maps.length).all (imB r s) <;> rfl
   ·have hi':i<r.q.src.length:=by have:=R.ml;omega
    have S1:=hV _ (R.s i hi').2
    have S2:=hV _ (R.t i hi').2
    have d1:=(R.d _ (R.s i hi').2).2
    have d2:=(R.d _ (R.t i hi').2).2
    have hM:=R.m i hi'
    unfold rO
    rw [kN hi,cond_true,pQ ⟨0,0,[]⟩ hi,Option.bind_some,pQ 0 hi',Option.bind_some,(R.s i hi').1,pQ ⟨0,[]⟩ (by have:=(R.s i hi').2;omega),Option.bind_some,hM.1]
    have e1:=aNd R.hp (r:=dN r (tV r i)) (c:=dN r (sV r i)) (by omega) (by omega) hM.2 (z:=(sG s (sV r i)).size) (by have:=S1.len;omega) S1.vecs
    rw [show (s[sV r i]?.getD ⟨0,[]⟩:Sc)=⟨(sG s (sV r i)).size,(sG s (sV r i)).basis⟩ from rfl,e1,Option.bind_some,pQ 0 (by have:=R.tl;omega),Option.bind_some,(R.t i hi').1,pQ ⟨0,[]⟩ (by have:=(R.t i hi').2;omega),Option.bind_some]
    have hv1:=aEC R.hp (aFv R.hp (dN r (tV r i)) (dN r (sV r i)) (aF r i) (sG s (sV r i)).basis).inP
    rw [show (s[tV r i]?.getD ⟨0,[]⟩:Sc)=⟨(sG s (tV r i)).size,(sG s (tV r i)).basis⟩ from rfl,aLr R.hp (by omega) hv1 (by have:=(@aAj r.p (dN r (tV r i)) (imL r.p (dN r (tV r i)) (dN r (sV r i)) (aF r i) (sG s (sV r i)).basis)).1;omega) S2.vecs S2.span,Option.bind_some]
    show _=some (bif imB r s i then _ else _)
    unfold imB
    cases inV r.p _ _ _ <;> rfl
   ·unfold rO
    rw [nV (Nat.le_refl _),cond_false]
 ·unfold rN
  rw [kN hk,cond_true,pQ ⟨0,[]⟩ hk,Option.bind_some,aHZ _ (hs.2 _ (dI _ hk)),Option.bind_some,pQ 0 (by omega),Option.bind_some]
  unfold spB sG
  cases nN r.p _ _ <;> cases decide ((s[k]?.getD ⟨0,[]⟩).size=r.dims[k]?.getD 0) <;> rfl
 ·unfold rN
  rw [nV (Nat.le_refl _),cond_false]
theorem aPI {p:Int} (hp:kU p=true) {r c:Nat} (hr:r≤8) (hc:c≤8) {F:Nat→Nat→Int} (hF:InP p r c F):aBh p ⟨r,c,dH r c F⟩=true:=by
 have hb:=gF hp
 have h:=Nat.mul_le_mul hr hc
 unfold aBh
 simp only [gY]
 rw [vR (by omega) (by omega),vR (by omega) (by omega),aKL (by omega),decide_eq_true (by omega),hp,decide_eq_true (by omega)]
 simp only [Bool.true_and,List.all_eq_true]
 intro x hx
 obtain ⟨t,ht,rfl⟩:=List.mem_map.1 hx
 have ht:=List.mem_range.1 ht
 have hc0:0<c:=by
  rcases Nat.eq_zero_or_pos c with h0|h0
  ·subst h0;simp at ht
  ·exact h0
 have:=hF (t / c) (t % c) ((Nat.div_lt_iff_lt_mul hc0).2 ht) (Nat.mod_lt _ hc0)
 refine vR this.1 ?_
 rw [eZ (by omega)]
 omega
theorem aIX {r:Rp} (hr:bR r) {s:List Sc} (hs:s.length≤1048576∧ ∀ x∈s,bS x):uD r s=some (aCk r s):=by
 unfold uD aCk
 rw [aIK hr,Option.bind_some]
 refine gK fun hR=>?_
 have R:=aKe hR
 refine gK fun hL=>?_
 have hL:=of_decide_eq_true hL
 have hL:s.length=r.dims.length:=by omega
 rw [sB (spB r s) false (n:=s.length) (by omega) (fun k hk=>?_) (fun _=>?_),Option.bind_some]
 ·cases hA:(List.range s.length).all (spB r s) with
  |false=>rfl
  |true=>
   have hV: ∀ v,v<r.dims.length→SpV r s v:=fun v hv=>aLs R hv (List.all_eq_true.1 hA v (List.mem_range.2 (by omega)))
   simp only [cond_true,Sum.elim_inl,Bool.true_and]
   rw [sB (imB r s) false (n:=r.maps.length) (by have:=R.e6;have:=R.ml;omega) (fun i hi=>?_) (fun _=>?_),Option.bind_some]
   ·cases (List.range r.maps.length).all (imB r s) <;> rfl
   ·have hi':i<r.q.src.length:=by have:=R.ml;omega
    have S1:=hV _ (R.s i hi').2
    have S2:=hV _ (R.t i hi').2
    have d1:=(R.d _ (R.s i hi').2).2
    have d2:=(R.d _ (R.t i hi').2).2
    have hM:=R.m i hi'
    unfold rR
    rw [kN hi,cond_true,pQ ⟨0,0,[]⟩ hi,Option.bind_some,pQ 0 hi',Option.bind_some,(R.s i hi').1,pQ ⟨0,[]⟩ (by have:=(R.s i hi').2;omega),Option.bind_some,hM.1]
    have e1:=aKp R.hp (r:=dN r (tV r i)) (c:=dN r (sV r i)) (by omega) (by omega) (aPI R.hp (by omega) (by omega) hM.2) hM.2 S1.ok S1.vecs (by have:=S1.len;omega)
    have e2:(s[sV r i]?.getD ⟨0,[]⟩:Sc)=⟨(dN r (sV r i):Int),(sG s (sV r i)).basis⟩:=by rw [←S1.size];rfl
    rw [e2,e1,Option.bind_some,pQ 0 (by have:=R.tl;omega),Option.bind_some,(R.t i hi').1,pQ ⟨0,[]⟩ (by have:=(R.t i hi').2;omega),Option.bind_some]
    have e3:(s[tV r i]?.getD ⟨0,[]⟩:Sc)=⟨(dN r (tV r i):Int),(sG s (tV r i)).basis⟩:=by rw [←S2.size];rfl
    rw [e3,aJd R.hp (by omega) (aLQ R.hp (by omega) (aFv R.hp _ _ _ _)) S2.ok,Option.bind_some]
    show _=some (bif imB r s i then _ else _)
    unfold imB
    cases inV r.p _ _ _ <;> rfl
   ·unfold rR
    rw [nV (Nat.le_refl _),cond_false]
 ·unfold rQ
  rw [kN hk,cond_true,pQ ⟨0,[]⟩ hk,Option.bind_some,vK _ (hs.2 _ (dI _ hk)),Option.bind_some,Option.bind_some,pQ 0 (by omega),Option.bind_some]
  unfold spB sG
  cases nN r.p _ _ <;> cases decide ((s[k]?.getD ⟨0,[]⟩).size=r.dims[k]?.getD 0) <;> rfl
 ·unfold rQ
  rw [nV (Nat.le_refl _),cond_false]
def nT (r:Rp):Bool:=aDP r&&(decide (r.p≤3)&&((r.dims.all fun x=>lZ x 0 2)&&decide (r.dims.sum≤5)))
theorem aHE {r:Rp} (h:aDP r=true):(∀ x∈r.dims,0≤x∧x≤4)∧r.dims.length≤5:=by
 have R:=aKe h
 refine ⟨fun x hx=>?_,R.n5⟩
 obtain ⟨k,hk,rfl⟩:=List.mem_iff_getElem.1 hx
 have:=R.d k hk
 simp only [List.getElem?_eq_getElem hk,Option.getD_some] at this
 omega
theorem aIY {r:Rp} (hr:bR r):pG r=some (nT r):=by
 unfold pG nT
 rw [aIL hr,Option.bind_some]
 refine fJ fun hR=>fJ fun hp=>?_
 obtain ⟨h1,h2⟩:=aHE hR
 rw [pB (by unfold bI;omega),Option.bind_some]
 refine fJ fun hd=>?_
 rw [aMd h1 (by omega),Option.bind_some]
theorem aDl {d:List Int} (h: ∀ x∈d,0≤x∧x≤100) (hl:d.length≤1048576): ∀ k,k≤d.length→0≤(d.take k).sum∧(d.take k).sum ≤100*k
 |0,_=>by simp
 |k+1,hk=>by
  have ih:=aDl h hl k (by omega)
  have:=h _ (dI 0 (show k<d.length by omega))
  rw [tY (by omega)]
  omega
theorem aEg {r:Rp} (hr:bR r):lQ r=some (bif aDP r then r.dims.sum else -1):=by
 unfold lQ
 rw [aIK hr,Option.bind_some]
 cases hR:aDP r with
 |false=>rfl
 |true=>
  obtain ⟨h1,h2⟩:=aHE hR
  have hs:=aDl (d:=r.dims) (fun x hx=>by have:=h1 x hx;omega) (by omega)
  simp only [Bool.not_true,cond_false,cond_true]
  rw [fA (r:=r.dims.sum) (fun k=>((r.dims.take k).sum,(k:Int))) r.dims.length (by simp) (fun k hk=>?_) (fun _=>?_),Option.bind_some]
  ·unfold oH
   simp only
   have:=hs k (by omega)
   have:=hs (k+1) (by omega)
   rw [tY hk] at this
   rw [kN hk,cond_true,pQ 0 hk,Option.bind_some,eZ (by omega),dG hk (by omega),tY hk]
  ·unfold oH
   simp only
   rw [nV (Nat.le_refl _),cond_false,List.take_length]
theorem aIZ {r:Rp} (hr:bR r):pH r=some (nT r):=by
 unfold pH nT
 rw [aEg hr,Option.bind_some,sD,Option.bind_some]
 cases hR:aDP r with
 |false=>rfl
 |true=>
  obtain ⟨h1,h2⟩:=aHE hR
  have hs:=aLg h1
  simp only [cond_true,Bool.true_and]
  have e1:lZ r.dims.sum 0 5=decide (r.dims.sum≤5):=by
   by_cases h:r.dims.sum≤5
   ·rw [decide_eq_true h];exact vR (by omega) h
   ·rw [decide_eq_false h];unfold lZ;exact decide_eq_false (by omega)
  rw [e1]
  have e2:decide (3<r.p)= !decide (r.p≤3):=by
   by_cases h:r.p≤3
   ·rw [decide_eq_true h,decide_eq_false (by omega)];rfl
   ·rw [decide_eq_false h,decide_eq_true (by omega)];rfl
  rw [e2]
  rw [sB (fun k=>decide (r.dims[k]?.getD 0≤2)) false (n:=r.dims.length) (by omega) (fun k hk=>?_) (fun _=>?_),Option.bind_some]
  ·have e3:(List.range r.dims.length).all (fun k=>decide (r.dims[k]?.getD 0≤2))=r.dims.all fun x=>lZ x 0 2:=by
    rw [nJ 0 r.dims (fun x=>decide (x≤2))]
    exact aPr fun x hx=>by
     have:=h1 x hx
     by_cases h:x≤2
     ·rw [decide_eq_true h];exact (vR (by omega) h).symm
     ·rw [decide_eq_false h];unfold lZ;exact (decide_eq_false (by omega)).symm
   rw [e3]
   cases decide (r.dims.sum≤5) <;> cases decide (r.p≤3) <;> cases (r.dims.all fun x=>lZ x 0 2) <;> rfl
  ·unfold oJ
   rw [kN hk,cond_true,pQ 0 hk,Option.bind_some]
   by_cases h:r.dims[k]?.getD 0≤2
   ·rw [decide_eq_true h,decide_eq_false (by omega)];rfl
   ·rw [decide_eq_false h,decide_eq_true (by omega)];rfl
  ·unfold oJ
   rw [nV (Nat.le_refl _),cond_false]
structure Sm (r:Rp):Prop where
 R:Rv r
 p:r.p=2∨r.p=3
 d: ∀ v,v<r.dims.length→dN r v≤2
 s:r.dims.sum≤5
theorem aFB {r:Rp} (h:nT r=true):Sm r:=by
 unfold nT at h
 simp only [Bool.and_eq_true,decide_eq_true_eq] at h
 obtain ⟨h1,h2,h3,h4⟩:=h
 have R:=aKe h1
 refine ⟨R,by have:=xA R.hp;omega,fun v hv=>?_,h4⟩
 have:=gP (List.all_eq_true.1 h3 _ (dI 0 hv))
 rw [(R.d v hv).1] at this
 omega
def spT:Nat→Nat→Nat→List Sc
 |_,n,0=>[⟨n,[]⟩]
 |_,1,1=>[⟨1,[[1]]⟩]
 |2,2,1=>[⟨2,[[0,1]]⟩,⟨2,[[1,0]]⟩,⟨2,[[1,1]]⟩]
 |3,2,1=>[⟨2,[[0,1]]⟩,⟨2,[[1,0]]⟩,⟨2,[[1,1]]⟩,⟨2,[[1,2]]⟩]
 |_,2,2=>[⟨2,[[1,0],[0,1]]⟩]
 |_,_,_=>[]
theorem aNf: ∀ p,p<2→ ∀ n,n<3→ ∀ k,k<n+1→rW ((p+2:Nat):Int) (n:Nat) (k:Nat)=some (spT (p+2) n k):=by decide+kernel
theorem aPK (p:Nat) (h1:p<4) (h2:2≤p): ∀ n,n<3→ ∀ k,k<n+1→rW (p:Nat) (n:Nat) (k:Nat)=some (spT p n k):=by
 have:=aNf (p - 2) (by omega)
 rwa [show p - 2+2=p by omega] at this
instance:DecidableEq (Option (List Sc×Bool)):=inferInstance
theorem aNg: ∀ p,p<2→ ∀ n,n<3→ ∀ k,k<n+1→rX ((p+2:Nat):Int) (n:Nat) (k:Nat)=some (spT (p+2) n k,true):=by decide+kernel
theorem aPL (p:Nat) (h1:p<4) (h2:2≤p): ∀ n,n<3→ ∀ k,k<n+1→rX (p:Nat) (n:Nat) (k:Nat)=some (spT p n k,true):=by
 have:=aNg (p - 2) (by omega)
 rwa [show p - 2+2=p by omega] at this
def spI (p n:Nat) (k:Int):List Sc:=bif lZ k 0 n then spT p n k.toNat else []
theorem aLu {p n:Nat} {k:Int} (hp:p=2∨p=3) (hn:n≤2) (hk:lZ k 0 n=true):kD p n k=some (spI p n k):=by
 have h:=gP hk
 have e:=aEb _ _ _ _ (aPK p (by omega) (by omega) n (by omega) k.toNat (by omega))
 rw [show ((k.toNat:Nat):Int)=k by omega] at e
 rw [e]
 unfold spI
 rw [hk]
 rfl
theorem aLv {p n:Nat} {k:Int} (hp:p=2∨p=3) (hn:n≤2): ∃ b,kE p n k=some (spI p n k,b):=by
 cases hk:lZ k 0 n with
 |true=>
  have h:=gP hk
  have e:=aEf _ _ _ _ (aPL p (by omega) (by omega) n (by omega) k.toNat (by omega))
  rw [show ((k.toNat:Nat):Int)=k by omega] at e
  refine ⟨true,?_⟩
  rw [e]
  unfold spI
  rw [hk]
  rfl
 |false=>
  refine ⟨false,?_⟩
  unfold kE jJ spI
  rw [aDO,Option.bind_some,aQX (by omega)]
  simp only [Bool.not_true,cond_false]
  rw [sD,Option.bind_some,vR (by omega) (by omega)]
  simp only [Bool.not_true,cond_false]
  rw [sD,Option.bind_some,hk]
  rfl
def aLw (p n:Nat) (x:Sc):Bool:=decide (x.basis.length≤2)&&(x.basis.all fun v=>decide (v.length≤2))&&nN p n x.basis&&decide (x.size=n)
theorem aNh: ∀ p,p<2→ ∀ n,n<3→ ∀ k,k<n+1→((spT (p+2) n k).all (fun x=>decide (x.basis.length=k)&&aLw (p+2) n x)&&decide (1≤(spT (p+2) n k).length)&&decide ((spT (p+2) n k).length ≤4))=true:=by decide+kernel
theorem aKr (p:Nat) (h1:p<4) (h2:2≤p): ∀ n,n<3→ ∀ k,k<n+1→((spT p n k).all (fun x=>decide (x.basis.length=k)&&aLw p n x)&&decide (1≤(spT p n k).length)&&decide ((spT p n k).length ≤4))=true:=by
 have:=aNh (p - 2) (by omega)
 rwa [show p - 2+2=p by omega] at this
theorem aMp {p n:Nat} {k:Int} (hp:p=2∨p=3) (hn:n≤2) {x:Sc} (hx:x∈spI p n k):bS x∧(x.basis.length:Int)=k∧nN p n x.basis=true∧x.size=n:=by
 unfold spI at hx
 cases hk:lZ k 0 n with
 |false=>rw [hk] at hx;simp at hx
 |true=>
  rw [hk] at hx
  have h:=gP hk
  have:=aKr p (by omega) (by omega) n (by omega) k.toNat (by omega)
  simp only [Bool.and_eq_true,List.all_eq_true,decide_eq_true_eq] at this
  have h2:=this.1.1 x hx
  unfold aLw at h2
  simp only [Bool.and_eq_true,List.all_eq_true,decide_eq_true_eq] at h2
  obtain ⟨a,⟨⟨b,c⟩,d⟩,e⟩:=h2
  refine ⟨⟨⟨by omega,fun v hv=>?_⟩,trivial⟩,by omega,d,e⟩
  have:=c v hv
  unfold bI
  omega
theorem aJe {p n:Nat} {k:Int} (hp:p=2∨p=3) (hn:n≤2):(spI p n k).length ≤4∧(lZ k 0 n=true→1≤(spI p n k).length):=by
 unfold spI
 cases hk:lZ k 0 n with
 |false=>simp
 |true=>
  have h:=gP hk
  have:=aKr p (by omega) (by omega) n (by omega) k.toNat (by omega)
  simp only [Bool.and_eq_true,List.all_eq_true,decide_eq_true_eq] at this
  exact ⟨this.2,fun _=>this.1.2⟩
end
noncomputable section
def jN {α:Type} :List (List α)→List (List α)
 | []=>[[]]
 |c::cs=>c.flatMap fun x=>(jN cs).map (x:: ·)
theorem aIa {α:Type} (c:List α): ∀ cs:List (List α),jN (cs++[c])=(jN cs).flatMap fun s=>c.map fun x=>s++[x]
 | []=>by
  simp only [List.nil_append,jN,List.flatMap_cons,List.flatMap_nil,List.append_nil,List.map_cons,List.map_nil]
  induction c with
  |nil=>rfl
  |cons x c ih=>rw [List.flatMap_cons,ih];rfl
 |d::cs=>by
  simp only [List.cons_append,jN]
  rw [aIa c cs,List.flatMap_assoc]
  congr 1
  funext x
  rw [List.map_flatMap,List.flatMap_map]
  congr 1
  funext s
  simp
theorem aHF {α:Type} {b:Nat} : ∀ {cs:List (List α)},(∀ c∈cs,c.length≤b)→(jN cs).length ≤b ^ cs.length
 | [],_=>by simp [jN]
 |c::cs,h=>by
  simp only [jN,List.length_cons,Nat.pow_succ]
  have ih:=aHF (cs:=cs) fun d hd=>h d (by simp [hd])
  have key: ∀ c:List α,(c.flatMap fun x=>(jN cs).map (x:: ·)).length=c.length*(jN cs).length:=by
   intro c
   induction c with
   |nil=>simp
   |cons x c ih=>rw [List.flatMap_cons,List.length_append,ih,List.length_map,List.length_cons,Nat.succ_mul,Nat.add_comm]
  rw [key,Nat.mul_comm]
  exact Nat.mul_le_mul ih (h c (by simp))
theorem aHG {α β γ:Type} (h:α→β→γ) (l:List β): ∀ xs:List α,(xs.flatMap fun s=>l.map (h s)).length=xs.length*l.length
 | []=>by simp
 |x::xs=>by rw [List.flatMap_cons,List.length_append,aHG h l xs,List.length_map,List.length_cons,Nat.succ_mul,Nat.add_comm]
theorem aHH {α:Type} : ∀ {cs:List (List α)} {s:List α},s∈jN cs→s.length=cs.length∧ ∀ v (d:α),v<cs.length→s[v]?.getD d∈cs[v]?.getD []
 | [],s,h=>by simp [jN] at h;subst h;simp
 |c::cs,s,h=>by
  simp only [jN,List.mem_flatMap,List.mem_map] at h
  obtain ⟨x,hx,t,ht,rfl⟩:=h
  obtain ⟨h1,h2⟩:=aHH ht
  refine ⟨by simp [h1],fun v d hv=>?_⟩
  cases v with
  |zero=>simpa using hx
  |succ v=>simpa using h2 v d (by simpa using hv)
theorem aKs {α:Type} : ∀ {cs:List (List α)},[]∈cs→jN cs=[]
 |c::cs,h=>by
  rcases List.mem_cons.1 h with h|h
  ·subst h;rfl
  ·simp [jN,aKs h]
def xT (cs:List (List Sc)) (x:List Int):List Sc:=(List.range cs.length).map fun v=>((cs[v]?.getD [])[(x[v]?.getD 0).toNat]?).getD ⟨0,[]⟩
theorem aNi (c:List Sc) (cs:List (List Sc)) (i:Int) (x:List Int):xT (c::cs) (i::x)=(c[i.toNat]?).getD ⟨0,[]⟩::xT cs x:=by
 unfold xT
 rw [List.length_cons,List.range_succ_eq_map,List.map_cons,List.map_map]
 rfl
theorem aLx {α:Type} (d:α) (l:List α):(List.range l.length).map (fun i=>l[i]?.getD d)=l:=by
 refine List.ext_getElem (by simp) fun i h1 h2=>?_
 simp [h2]
theorem aHI: ∀ {cs:List (List Sc)},(∀ c∈cs,1≤c.length)→(dJ (cs.map fun c=>(c.length:Int) - 1)).map (xT cs)=jN cs
 | [],_=>rfl
 |c::cs,h=>by
  have ih:=aHI (cs:=cs) fun d hd=>h d (by simp [hd])
  have hc:=h c (by simp)
  simp only [List.map_cons,dJ,jN]
  rw [show ((c.length:Int) - 1).toNat +1=c.length by omega,List.map_flatMap,←ih]
  have e: ∀ i:Nat,((dJ (cs.map fun c=>(c.length:Int) - 1)).map fun x=>(i:Int)::x).map (xT (c::cs))=(fun y:Sc=>((dJ (cs.map fun c=>(c.length:Int) - 1)).map (xT cs)).map (y:: ·)) (c[i]?.getD ⟨0,[]⟩):=by
   intro i
   simp only [List.map_map]
   refine List.map_congr_left fun x _=>?_
   simp only [Function.comp_apply]
   rw [aNi]
   rfl
  simp only [e]
  conv=>rhs;rw [←aLx ⟨0,[]⟩ c,List.flatMap_map]
def xU (r:Rp) (d:List Int):List (List Sc):=(List.range r.dims.length).map fun v=>spI r.p.toNat (dN r v) (d[v]?.getD 0)
def aAZ (r:Rp) (d:List Int):List (List Sc):=(jN (xU r d)).filter (aCk r)
theorem aPM {r:Rp} {d:List Int} {v:Nat} (hv:v<r.dims.length):(xU r d)[v]?.getD []=spI r.p.toNat (dN r v) (d[v]?.getD 0):=by simp [xU,hv]
theorem qQ (r:Rp) (d:List Int):(xU r d).length=r.dims.length:=by simp [xU]
theorem aLy {r:Rp} (S:Sm r):r.p.toNat=2∨r.p.toNat=3:=by have:=S.p;omega
theorem aDm {r:Rp} (S:Sm r) {d:List Int} : ∀ c∈xU r d,c.length≤4:=by
 intro c hc
 obtain ⟨v,hv,rfl⟩:=List.mem_map.1 hc
 exact (aJe (aLy S) (S.d v (List.mem_range.1 hv))).1
theorem aIb {r:Rp} (S:Sm r) (n:Nat) (h:n≤r.dims.length):4 ^ n≤1024:=by
 have:=S.R.n5
 exact Nat.le_trans (Nat.pow_le_pow_right (by omega) (show n≤5 by omega)) (by decide)
theorem aCl {r:Rp} (S:Sm r) {d:List Int} :(jN (xU r d)).length ≤1024:=by
 have:=aHF (aDm S (d:=d))
 rw [qQ] at this
 exact Nat.le_trans this (aIb S _ (Nat.le_refl _))
theorem aJf {r:Rp} (S:Sm r) {d:List Int} {s:List Sc} (hs:s∈jN (xU r d)):s.length=r.dims.length∧(∀ x∈s,bS x)∧ ∀ v,v<r.dims.length→(sG s v).basis.length=d[v]?.getD 0∧nN r.p (dN r v) (sG s v).basis=true∧(sG s v).size=(dN r v:Int):=by
 obtain ⟨h1,h2⟩:=aHH hs
 rw [qQ] at h1 h2
 have h3: ∀ v,v<r.dims.length→sG s v∈spI r.p.toNat (dN r v) (d[v]?.getD 0):=fun v hv=>by have:=h2 v ⟨0,[]⟩ hv;rwa [aPM hv] at this
 refine ⟨h1,fun x hx=>?_,fun v hv=>?_⟩
 ·obtain ⟨v,hv,rfl⟩:=List.mem_iff_getElem.1 hx
  have:=h3 v (by omega)
  unfold sG at this
  rw [List.getElem?_eq_getElem hv,Option.getD_some] at this
  exact (aMp (aLy S) (S.d v (by omega)) this).1
 ·obtain ⟨_,e1,e2,e3⟩:=aMp (aLy S) (S.d v hv) (h3 v hv)
  have:=S.p
  rw [show ((r.p.toNat:Nat):Int)=r.p by omega] at e2
  exact ⟨e1,e2,e3⟩
theorem aIc {n:Nat} (P:Nat→Bool):(∀ k,k<n→P k=true)∨ ∃ k,k<n∧P k=false∧ ∀ j,j<k→P j=true:=by
 induction n with
 |zero=>exact .inl fun k hk=>absurd hk (Nat.not_lt_zero _)
 |succ n ih=>
  rcases ih with h|⟨k,h1,h2,h3⟩
  ·cases hp:P n with
   |true=>
    refine .inl fun k hk=>?_
    rcases Nat.lt_or_eq_of_le (Nat.lt_succ_iff.1 hk) with h'|h'
    ·exact h k h'
    ·rw [h'];exact hp
   |false=>exact .inr ⟨n,Nat.lt_succ_self _,hp,h⟩
  ·exact .inr ⟨k,by omega,h2,h3⟩
theorem aMq {α β ρ:Type} {f:α→List β→Option (List β ⊕ ρ)} (p:β→Bool) (g:α→β): ∀ (l:List α) (acc:List β),acc.length+l.length≤4000000→(∀ x∈l,∀ acc:List β,acc.length≤4000000→f x acc=some (.inl (if p (g x)=true then acc++[g x] else acc)))→Fl f l acc=some (.inl (acc++(l.map g).filter p))
 | [],acc,_,_=>by simp [Fl]
 |x::l,acc,hl,h=>by
  rw [List.length_cons] at hl
  have h1:=h x (by simp) acc (by omega)
  simp only [Fl,h1]
  rw [aMq p g l _ (by split <;> (try simp only [List.length_append,List.length_cons,List.length_nil]) <;> omega) fun y hy=>h y (by simp [hy]),List.map_cons,List.filter_cons]
  cases p (g x) <;> simp
theorem aPN {x:Sc} (h:bS x):mT x=some x:=by
 obtain ⟨⟨h1,h2⟩,_⟩:=h
 unfold mT
 rw [fA (r:=x.basis) (fun k=>(x.basis.take k,(k:Int))) x.basis.length (by simp) (fun k hk=>?_) (fun _=>?_),Option.bind_some]
 ·unfold jU tP
  simp only
  have:=h2 _ (dI [] hk)
  unfold bI at this
  rw [kN hk,cond_true,pQ [] hk,Option.bind_some,decide_eq_true this,cond_true,Option.bind_some,decide_eq_true (by rw [List.length_take];omega),cond_true,dG hk (by omega),List.getElem?_eq_getElem hk,Option.getD_some,List.take_succ_eq_append_getElem hk]
 ·unfold jU
  simp only
  rw [nV (Nat.le_refl _),cond_false,List.take_length]
theorem aHJ {r:Rp} (hr:bR r) (S:Sm r) {d:List Int} (hd:d.length=r.dims.length):nE r d=some (aAZ r d):=by
 have h5:=S.R.n5
 have hsp: ∀ k,k<r.dims.length→lZ (d[k]?.getD 0) 0 (r.dims[k]?.getD 0)=true→kD r.p (r.dims[k]?.getD 0) (d[k]?.getD 0)=some ((xU r d)[k]?.getD []):=by
  intro k hk hin
  rw [(S.R.d k hk).1] at hin ⊢
  have:=aLu (aLy S) (S.d k hk) hin
  have hp:=S.p
  rw [show ((r.p.toNat:Nat):Int)=r.p by omega] at this
  rw [this,aPM hk]
 let most:List Int:=(xU r d).map fun c=>(c.length:Int) - 1
 have step: ∀ k,k<r.dims.length→lZ (d[k]?.getD 0) 0 (r.dims[k]?.getD 0)=true→gV r d ((xU r d).take k,most.take k,(k:Int))=some (.inl ((xU r d).take (k+1),most.take (k+1),((k+1:Nat):Int))):=by
  intro k hk hin
  have hk2:k<(xU r d).length:=by rw [qQ];exact hk
  have hk3:k<most.length:=by simp [most,qQ,hk]
  have hsm:=aDm S (d:=d) _ (dI [] hk2)
  unfold gV
  simp only
  rw [kN hk,cond_true,pQ 0 hk,Option.bind_some,pQ 0 (show k<d.length by omega),Option.bind_some,tX,Option.bind_some,hin]
  simp only [Bool.not_true,cond_false,Option.bind_some]
  rw [hsp k hk hin,Option.bind_some,decide_eq_true (by rw [List.length_take];omega),cond_true,decide_eq_true (by rw [List.length_take];simp;omega),cond_true,dG hk (by omega)]
  rw [eZ (by omega)]
  have e1:(xU r d).take k++[(xU r d)[k]?.getD []]=(xU r d).take (k+1):=by rw [List.getElem?_eq_getElem hk2,Option.getD_some,List.take_succ_eq_append_getElem hk2]
  have e2:most.take k++[(((xU r d)[k]?.getD []).length:Int) - 1]=most.take (k+1):=by
   rw [List.take_succ_eq_append_getElem hk3]
   simp [most,hk2]
  rw [e1,e2]
 unfold nE
 rcases aIc (n:=r.dims.length) (fun k=>lZ (d[k]?.getD 0) 0 (r.dims[k]?.getD 0)) with hall|⟨k0,hk0,hbad,hgood⟩
 ·rw [fA (r:= .inl (xU r d,most)) (fun k=>((xU r d).take k,most.take k,(k:Int))) r.dims.length (by simp) (fun k hk=>step k hk (hall k hk)) (fun _=>?_),Option.bind_some]
  ·simp only [Sum.elim_inl]
   have h1: ∀ c∈xU r d,1≤c.length:=by
    intro c hc
    obtain ⟨v,hv,rfl⟩:=List.mem_map.1 hc
    have hv:=List.mem_range.1 hv
    have:=hall v hv
    rw [(S.R.d v hv).1] at this
    exact (aJe (aLy S) (S.d v hv)).2 this
   have hmost:aBz most=true:=by
    unfold aBz
    rw [decide_eq_true (by simp [most,qQ];omega),Bool.and_true,List.all_eq_true]
    intro m hm
    obtain ⟨c,hc,rfl⟩:=List.mem_map.1 hm
    have:=h1 c hc
    have:=aDm S c hc
    rw [decide_eq_true (by omega),decide_eq_true (by omega)]
    rfl
   rw [hmost,cond_true]
   have hbx:(dJ most).map (xT (xU r d))=jN (xU r d):=aHI h1
   have hlen:(dJ most).length ≤1024:=by
    have:=congrArg List.length hbx
    rw [List.length_map] at this
    rw [this];exact aCl S
   rw [aMq (aCk r) (xT (xU r d)) _ _ (by simp;omega) (fun x hx acc hacc=>?_),Option.bind_some]
   ·simp only [Sum.elim_inl,List.nil_append]
    rw [hbx]
    rfl
   ·have hxl:=mN hx
    have hml:most.length=r.dims.length:=by simp [most,qQ]
    have hs:xT (xU r d) x∈jN (xU r d):=by rw [←hbx];exact List.mem_map.2 ⟨x,hx,rfl⟩
    obtain ⟨p1,p2,p3⟩:=aJf S hs
    have hg: ∀ k,k<r.dims.length→(((xU r d)[k]?.getD [])[(x[k]?.getD 0).toNat]?).getD ⟨0,[]⟩=(xT (xU r d) x)[k]?.getD ⟨0,[]⟩:=by
     intro k hk
     simp [xT,qQ,hk]
    unfold sI
    rw [fA (r:=xT (xU r d) x) (fun k=>((xT (xU r d) x).take k,(k:Int))) r.dims.length (by simp) (fun k hk=>?_) (fun _=>?_),Option.bind_some]
    ·rw [aNe hr ⟨by omega,p2⟩,Option.bind_some]
     cases aCk r (xT (xU r d) x) with
     |false=>simp
     |true=>simp only [cond_true,if_true];rw [decide_eq_true (by omega),cond_true]
    ·have hxk:k<x.length:=by omega
     have hb:=aCS hx k (x[k]?.getD 0) (most[k]?.getD 0) (by rw [List.getElem?_eq_getElem hxk];rfl) (by rw [List.getElem?_eq_getElem (by omega)];rfl)
     have hck:(xU r d)[k]?.getD []∈xU r d:=dI [] (by rw [qQ];exact hk)
     have hmk:most[k]?.getD 0=(((xU r d)[k]?.getD []).length:Int) - 1:=by simp [most,qQ,hk]
     have hc1:=h1 _ hck
     have hin:(x[k]?.getD 0).toNat <((xU r d)[k]?.getD []).length:=by
      have:=hb.2 (by omega)
      omega
     unfold mU
     simp only
     rw [show ((most.length:Nat):Int)=(r.dims.length:Int) by rw [hml],kN hk,cond_true,pQ 0 hxk,Option.bind_some,pQ [] (by rw [qQ];exact hk),Option.bind_some,atI ⟨0,[]⟩ hb.1 (by omega),Option.bind_some,hg k hk]
     have hpk:k<(xT (xU r d) x).length:=by omega
     rw [aPN (p2 _ (dI _ hpk)),Option.bind_some,decide_eq_true (by rw [List.length_take];omega),cond_true,dG hk (by omega),List.getElem?_eq_getElem hpk,Option.getD_some,List.take_succ_eq_append_getElem hpk]
    ·unfold mU
     simp only
     rw [show ((most.length:Nat):Int)=(r.dims.length:Int) by rw [hml],nV (Nat.le_refl _),cond_false,List.take_of_length_le (by omega)]
  ·unfold gV
   simp only
   rw [nV (Nat.le_refl _),cond_false,List.take_of_length_le (by rw [qQ];omega),List.take_of_length_le (by simp [most,qQ])]
 ·rw [fA (r:= .inr []) (fun k=>((xU r d).take k,most.take k,(k:Int))) k0 (by simp) (fun k hk=>step k (by omega) (hgood k hk)) (fun _=>?_),Option.bind_some]
  ·simp only [Sum.elim_inr]
   unfold aAZ
   rw [aKs]
   ·rfl
   ·refine List.mem_map.2 ⟨k0,List.mem_range.2 hk0,?_⟩
    unfold spI
    rw [←(S.R.d k0 hk0).1,hbad]
    rfl
  ·unfold gV
   simp only
   rw [kN hk0,cond_true,pQ 0 hk0,Option.bind_some,pQ 0 (show k0<d.length by omega),Option.bind_some,tX,Option.bind_some,hbad]
   rfl
def aId (r:Rp) (d:List Int):List (List Sc)×Bool:=bif nT r&&decide (d.length=r.dims.length) then (aAZ r d,true) else ([],false)
theorem aLz {r:Rp} (hr:bR r) {d:List Int} :vY r d=some (aId r d):=by
 unfold vY aId
 rw [aIY hr,Option.bind_some]
 cases hS:nT r with
 |false=>rfl
 |true=>
  simp only [Bool.not_true,cond_false,Bool.true_and]
  by_cases hd:d.length=r.dims.length
  ·rw [decide_eq_true (by omega),decide_eq_true hd]
   simp only [Bool.not_true,cond_false,cond_true]
   rw [aHJ hr (aFB hS) hd,Option.bind_some]
  ·rw [decide_eq_false (by omega),decide_eq_false hd]
   rfl
theorem aMA {α β:Type} (f:α→List β) {l:List α} {k:Nat} (d:α) (h:k<l.length):(l.take k).flatMap f++f (l[k]?.getD d)=(l.take (k+1)).flatMap f:=by
 rw [List.take_succ_eq_append_getElem h,List.flatMap_append,List.getElem?_eq_getElem h]
 simp
theorem aKt {α:Type} (p:α→Bool) {l:List α} {k:Nat} (d:α) (h:k<l.length):(if p (l[k]?.getD d)=true then (l.take k).filter p++[l[k]?.getD d] else (l.take k).filter p)=(l.take (k+1)).filter p:=by
 rw [List.take_succ_eq_append_getElem h,List.filter_append,List.getElem?_eq_getElem h,Option.getD_some]
 cases hp:p l[k] <;> simp [hp]
theorem aQH {l:List Sc} {b:Bool} {x:List (List Sc)} {z:Int} (hl:l.length≤4) (hx:x.length≤1024) (hs: ∀ s∈x,s.length≤5):Lp (jK (l,b) (x,z)) ([],0)=some (x.flatMap fun s=>l.map fun y=>s++[y]):=by
 have hfl: ∀ k,k≤x.length→((x.take k).flatMap fun s=>l.map fun y=>s++[y]).length ≤4096:=fun k hk=>by
  rw [aHG (fun s y=>s++[y]),List.length_take]
  have:=Nat.mul_le_mul (show min k x.length≤1024 by omega) hl
  omega
 rw [fA (r:=x.flatMap fun s=>l.map fun y=>s++[y]) (fun k=>((x.take k).flatMap (fun s=>l.map fun y=>s++[y]),(k:Int))) x.length (by simp) (fun k hk=>?_) (fun _=>?_)]
 ·have hsk:=hs _ (dI [] hk)
  have hf:=hfl k (by omega)
  unfold jK
  simp only
  rw [kN hk,cond_true]
  rw [fA (r:=((x.take k).flatMap fun s=>l.map fun y=>s++[y])++l.map fun y=>x[k]?.getD []++[y]) (fun j=>(((x.take k).flatMap fun s=>l.map fun y=>s++[y])++(l.take j).map (fun y=>x[k]?.getD []++[y]),(j:Int))) l.length (by simp) (fun j hj=>?_) (fun _=>?_),Option.bind_some]
  ·rw [dG hk (by omega),aMA (fun s=>l.map fun y=>s++[y]) [] hk]
  ·unfold mW
   simp only [List.nil_append,List.length_nil,Nat.zero_add]
   rw [kN hj,cond_true,pQ [] hk,Option.bind_some,decide_eq_true (by omega),cond_true,pQ ⟨0,[]⟩ hj,Option.bind_some,decide_eq_true (by omega),cond_true,decide_eq_true (by rw [List.length_append,List.length_map,List.length_take];omega),cond_true,dG hj (by omega),List.append_assoc,zT (fun y=>x[k]?.getD []++[y]) ⟨0,[]⟩ hj]
  ·unfold mW
   simp only
   rw [nV (Nat.le_refl _),cond_false,List.take_length]
 ·unfold jK
  simp only
  rw [nV (Nat.le_refl _),cond_false,List.take_length]
theorem aFC {r:Rp} (hr:bR r) {d:List Int} :nF r d=some (aId r d):=by
 unfold nF aId
 rw [aIZ hr,Option.bind_some]
 cases hS:nT r with
 |false=>rfl
 |true=>
  have S:=aFB hS
  have h5:=S.R.n5
  simp only [Bool.not_true,cond_false,Bool.true_and]
  by_cases hd:d.length=r.dims.length
  ·rw [decide_eq_true (by omega),decide_eq_true hd]
   simp only [Bool.not_true,cond_false,cond_true]
   have htk: ∀ k,k≤r.dims.length→(jN ((xU r d).take k)).length ≤1024∧ ∀ s∈jN ((xU r d).take k),s.length≤5:=by
    intro k hk
    have h1:=aHF (b:=4) (cs:=(xU r d).take k) fun c hc=>aDm S c (List.mem_of_mem_take hc)
    rw [List.length_take,qQ] at h1
    refine ⟨Nat.le_trans h1 (aIb S _ (by omega)),fun s hs=>?_⟩
    have:=(aHH hs).1
    rw [List.length_take,qQ] at this
    omega
   rw [fA (r:=jN (xU r d)) (fun k=>(jN ((xU r d).take k),(k:Int))) r.dims.length (by simp [jN]) (fun k hk=>?_) (fun _=>?_),Option.bind_some]
   ·have hps:=aCl S (d:=d)
    rw [fA (r:=aAZ r d) (fun k=>(((jN (xU r d)).take k).filter (aCk r),(k:Int))) (jN (xU r d)).length (by simp) (fun k hk=>?_) (fun _=>?_),Option.bind_some]
    ·obtain ⟨p1,p2, -⟩:=aJf S (dI [] hk)
     have hfl:=List.length_filter_le (aCk r) ((jN (xU r d)).take k)
     rw [List.length_take] at hfl
     have e:=aKt (aCk r) [] hk
     unfold mY
     simp only
     rw [kN hk,cond_true,pQ [] hk,Option.bind_some,aIX hr ⟨by omega,p2⟩,Option.bind_some,dG hk (by omega),←e]
     cases aCk r ((jN (xU r d))[k]?.getD []) with
     |false=>simp
     |true=>simp only [cond_true,if_true,Option.bind_some];rw [decide_eq_true (by omega),cond_true]
    ·unfold mY
     simp only
     rw [nV (Nat.le_refl _),cond_false,List.take_length]
     rfl
   ·obtain ⟨t1,t2⟩:=htk k (by omega)
    have hkc:k<(xU r d).length:=by rw [qQ];exact hk
    have hp:=S.p
    obtain ⟨b,hb⟩:=aLv (k:=d[k]?.getD 0) (aLy S) (S.d k hk)
    rw [show ((r.p.toNat:Nat):Int)=r.p by omega,←(S.R.d k hk).1] at hb
    unfold mX
    simp only
    rw [kN (show k<d.length by omega),cond_true,pQ 0 hk,Option.bind_some,pQ 0 (show k<d.length by omega),Option.bind_some,hb,Option.bind_some,aQH (aJe (aLy S) (S.d k hk)).1 t1 t2,Option.bind_some,dG hk (by omega),←aIa]
    congr 4
    rw [List.take_succ_eq_append_getElem hkc]
    congr 2
    simp [xU]
   ·unfold mX
    simp only
    rw [show (d.length:Int)=(r.dims.length:Int) by rw [hd],nV (Nat.le_refl _),cond_false,List.take_of_length_le (by rw [qQ];omega)]
  ·rw [decide_eq_false (by omega),decide_eq_false hd]
   rfl
theorem aKu {r:Rp} (hr:bR r) {d:List Int} : ∃ z,uY r d=some z∧vA r d=some z:=by
 unfold uY vA
 rw [aLz hr,aFC hr]
 simp only [Option.bind_some]
 cases (aId r d).2
 ·exact ⟨_,rfl,rfl⟩
 ·exact ⟨_,rfl,rfl⟩
end
noncomputable section
set_option maxRecDepth 10000
set_option maxHeartbeats 4000000
def tF (a0:Rp) (a1:(List Int)):Option Bool:=
 bif decide (1048576<(a1.length:Int)) then
 (some (true))
 else
 (Option.bind (wM a0 1048576) fun v2=>
 bif decide (v2<0) then
 (some (true))
 else
 (Option.bind (iR a0) fun v4=>
 Option.bind (fC a1) fun v5=>
 Option.bind (vA v4 v5) fun v6=>
 Option.bind (iR a0) fun v7=>
 Option.bind (fC a1) fun v8=>
 Option.bind (uY v7 v8) fun v9=>
 bif !decide (v9=v6) then
 (some (false))
 else
 (Option.bind (iR a0) fun v11=>
 Option.bind (tW v7 v11) fun v12=>
 bif !v12 then
 (some (false))
 else
 (Option.bind (fC a1) fun v14=>
 Option.bind (iV v8 v14) fun v15=>
 bif !v15 then
 (some (false))
 else
 (some (true))))))
def nB (a0:Rp) (a1:(List Int)):Option Bool:=
 bif decide (1048576<(a1.length:Int)) then
 (some (true))
 else
 (Option.bind (wM a0 1048576) fun v2=>
 bif decide (v2<0) then
 (some (true))
 else
 (Option.bind (iR a0) fun v4=>
 Option.bind (fC a1) fun v5=>
 Option.bind (rV v4 v5) fun v6=>
 Option.bind (iR a0) fun v7=>
 Option.bind (fC a1) fun v8=>
 Option.bind (rU v7 v8) fun v9=>
 bif !(v9==v6) then
 (some (false))
 else
 (Option.bind (iR a0) fun v11=>
 Option.bind (tW v7 v11) fun v12=>
 bif !v12 then
 (some (false))
 else
 (Option.bind (fC a1) fun v14=>
 Option.bind (iV v8 v14) fun v15=>
 bif !v15 then
 (some (false))
 else
 (some (true))))))
theorem aAR (a0:Rp) (a1:(List Int)) (r:Bool) (h:nB a0 a1=some r):HasC Tryz.prog 6 [.agg (eR a0),.list 1 (List.map eI a1)] (.bl r):=by
 refine bK aA (rvs:=[.tmp 4]) (ns:=[0,1,2,3,4,5,6,7,8,9,10,11,12,13,14,15,16,17,18]) Tryz.func6 k k Tryz.ntmps6 k k k<|sQ<|rg<|ae (cC k k k k) k<|aa k k<|an<|tn<|sQ<|sQ<|rg ?_
 refine am k k<|ae (dD aA k k k) k<|ae (bC k k k) k<|an<|tn ?_
 rcases cb h with ⟨q1,h⟩|⟨q1,h⟩
 ·refine aL k q1<|sQ<|rg<|aa k k<|an<|tn<|aP<|aK ?_
  obtain rfl:=so h
  exact aU k k k (bT k)
 ·refine aS k q1<|aT<|tn<|sQ<|rg<|aa k k<|an<|tn<|sQ<|rg ?_
  refine ae (aC aA k k k k k k k) k<|am k k ?_
  obtain ⟨v2,hv2,h⟩:=ob h
  refine ae (aZ (aJE a0 1048576 v2 hv2) k (aG (cA (aM (aQ k) (aM (aQ k) (aM (aQ k) (aM (aQ k) (aM (aQ k) (aM (aQ k) cF))))))) (aG (aI k) bA))) k<|aa k k<|an<|tn<|sQ<|sQ<|rg<|am k k<|ae (bC k k k) k<|an ?_
  refine tn<|aO (t:=bU [(1,.list 1 (List.map eI a1)),(2,.ptr 0 0 0),(17,.bl (decide (v2<0)))] [(0,⟨6,[[.int a0.p,.int a0.q.n,.list 1 (List.map eI a0.q.src),.list 1 (List.map eI a0.q.tgt),.list 1 (List.map eI a0.dims),.list 3 (List.map eM a0.maps)]]⟩)] 1 [1,2,3,4,5,6,7,8,9,10,11,12,13,14,15,16,17,18]) (aE (σ:=sg [(0,0)]) ⟨⟨_,k,⟨k,k⟩⟩,(pE k k),(e1 k k),trivial⟩ (hP k k k k<|trivial) k) ?_
  rcases cb h with ⟨q3,h⟩|⟨q3,h⟩
  ·refine aL k q3<|sQ<|rg<|aa k k<|an<|tn<|aP<|aK ?_
   obtain rfl:=so h
   exact aU k k k (bT k)
  ·refine aS k q3<|aT<|tn<|sQ<|rg<|ae (aC aA k k k k k k k) k ?_
   obtain ⟨v4,hv4,h⟩:=ob h
   refine ae (AEff.conv (cR (x:= .agg [.int v4.p,.int v4.q.n,.own 1 0 (List.map eI v4.q.src).length,.own 2 0 (List.map eI v4.q.tgt).length,.own 3 0 (List.map eI v4.dims).length,.own 4 0 (List.map eM v4.maps).length]) (nb:=[(1,⟨1,cX (List.map eI v4.q.src)⟩),(2,⟨1,cX (List.map eI v4.q.tgt)⟩),(3,⟨1,cX (List.map eI v4.dims)⟩),(4,⟨3,cX (List.map eM v4.maps)⟩)]) (aAK a0 v4 hv4) k (by rfl) k k (bZ trivial (bZ trivial (bZ (eD.good _) (bZ (eD.good _) (bZ (eD.good _) (bZ (aAm.good _) gQ)))))) (aG (cA (aM (aQ k) (aM (aQ k) (aM (aQ k) (aM (aQ k) (aM (aQ k) (aM (aQ k) cF))))))) bA)) (v':= .agg [.int v4.p,.int v4.q.n,.own 1 0 v4.q.src.length,.own 2 0 v4.q.tgt.length,.own 3 0 v4.dims.length,.own 4 0 v4.maps.length]) (ed':=[(1,some ⟨1,List.map (ow eI) v4.q.src⟩),(2,some ⟨1,List.map (ow eI) v4.q.tgt⟩),(3,some ⟨1,List.map (ow eI) v4.dims⟩),(4,some ⟨3,List.map (ow eM) v4.maps⟩)]) (by simp only [bD]) (eJ (nb':=[(1,⟨1,List.map (ow eI) v4.q.src⟩),(2,⟨1,List.map (ow eI) v4.q.tgt⟩),(3,⟨1,List.map (ow eI) v4.dims⟩),(4,⟨3,List.map (ow eM) v4.maps⟩)]) (by simp only [cT]))) k<|am k k ?_
   obtain ⟨v5,hv5,h⟩:=ob h
   refine ae (AEff.conv (cR (x:= .own 5 0 (List.map eI v5).length) (nb:=[(5,⟨1,cX (List.map eI v5)⟩)]) (kP a1 v5 hv5) k (by rfl) k k (eD.good _) (aG (aI k) bA)) (v':= .own 5 0 v5.length) (ed':=[(5,some ⟨1,List.map (ow eI) v5⟩)]) (by simp only [bD]) (eJ (nb':=[(5,⟨1,List.map (ow eI) v5⟩)]) (by simp only [cT]))) k ?_
   obtain ⟨v6,hv6,h⟩:=ob h
   refine ae (aZ (aFh v4 v5 v6 hv6) k (aG (cA (aM (aQ k) (aM (aQ k) (aM (tK eD k k) (aM (tK eD k k) (aM (tK eD k k) (aM (tK aAm k k) cF))))))) (aG (aAl eD k k) bA))) k<|aa k k<|an<|tn<|sQ<|rg<|ae (aC aA k k k k k k k) k ?_
   obtain ⟨v7,hv7,h⟩:=ob h
   refine ae (AEff.conv (cR (x:= .agg [.int v7.p,.int v7.q.n,.own 6 0 (List.map eI v7.q.src).length,.own 7 0 (List.map eI v7.q.tgt).length,.own 8 0 (List.map eI v7.dims).length,.own 9 0 (List.map eM v7.maps).length]) (nb:=[(6,⟨1,cX (List.map eI v7.q.src)⟩),(7,⟨1,cX (List.map eI v7.q.tgt)⟩),(8,⟨1,cX (List.map eI v7.dims)⟩),(9,⟨3,cX (List.map eM v7.maps)⟩)]) (aAK a0 v7 hv7) k (by rfl) k k (bZ trivial (bZ trivial (bZ (eD.good _) (bZ (eD.good _) (bZ (eD.good _) (bZ (aAm.good _) gQ)))))) (aG (cA (aM (aQ k) (aM (aQ k) (aM (aQ k) (aM (aQ k) (aM (aQ k) (aM (aQ k) cF))))))) bA)) (v':= .agg [.int v7.p,.int v7.q.n,.own 6 0 v7.q.src.length,.own 7 0 v7.q.tgt.length,.own 8 0 v7.dims.length,.own 9 0 v7.maps.length]) (ed':=[(6,some ⟨1,List.map (ow eI) v7.q.src⟩),(7,some ⟨1,List.map (ow eI) v7.q.tgt⟩),(8,some ⟨1,List.map (ow eI) v7.dims⟩),(9,some ⟨3,List.map (ow eM) v7.maps⟩)]) (by simp only [bD]) (eJ (nb':=[(6,⟨1,List.map (ow eI) v7.q.src⟩),(7,⟨1,List.map (ow eI) v7.q.tgt⟩),(8,⟨1,List.map (ow eI) v7.dims⟩),(9,⟨3,List.map (ow eM) v7.maps⟩)]) (by simp only [cT]))) k<|ae (bX aA k k) k<|ae (bP aA k k k k k k k k) k<|an<|tn<|sQ<|rg<|am k k ?_
   obtain ⟨v8,hv8,h⟩:=ob h
   refine ae (AEff.conv (cR (x:= .own 11 0 (List.map eI v8).length) (nb:=[(11,⟨1,cX (List.map eI v8)⟩)]) (kP a1 v8 hv8) k (by rfl) k k (eD.good _) (aG (aI k) bA)) (v':= .own 11 0 v8.length) (ed':=[(11,some ⟨1,List.map (ow eI) v8⟩)]) (by simp only [bD]) (eJ (nb':=[(11,⟨1,List.map (ow eI) v8⟩)]) (by simp only [cT]))) k<|aa k k<|an<|tn<|aO (t:=bU [(1,.list 1 (List.map eI a1)),(2,.ptr 0 0 0),(6,.bl v6),(7,.ptr 10 0 0),(8,.own 11 0 v8.length)] [(0,⟨6,[[.int a0.p,.int a0.q.n,.list 1 (List.map eI a0.q.src),.list 1 (List.map eI a0.q.tgt),.list 1 (List.map eI a0.dims),.list 3 (List.map eM a0.maps)]]⟩),(6,⟨1,List.map (ow eI) v7.q.src⟩),(7,⟨1,List.map (ow eI) v7.q.tgt⟩),(8,⟨1,List.map (ow eI) v7.dims⟩),(9,⟨3,List.map (ow eM) v7.maps⟩),(10,⟨6,[[.int v7.p,.int v7.q.n,.own 6 0 v7.q.src.length,.own 7 0 v7.q.tgt.length,.own 8 0 v7.dims.length,.own 9 0 v7.maps.length]]⟩),(11,⟨1,List.map (ow eI) v8⟩)] 12 [12,13,14,15,16,17,18]) (aE (σ:=sg [(0,0),(6,6),(7,7),(8,8),(9,9),(10,10),(11,11)]) ⟨⟨_,k,⟨k,k⟩⟩,(pE k k),(e1 k k),(pE k k),(oE k k),trivial⟩ (hP k k k k<|hI k k k<|hI k k k<|hI k k k<|hB (aAm.plainO _) k k k<|hX ⟨_,k,k,.inr ⟨_,_,k,⟨_,_,k,k,⟨_,_,k,k,⟨_,_,k,⟨k,k,k,k⟩,⟨_,_,k,⟨k,k,k,k⟩,⟨_,_,k,⟨k,k,k,k⟩,⟨_,_,k,⟨k,k,k,k⟩,k⟩⟩⟩⟩⟩⟩,k⟩⟩ k<|hI k k k<|trivial) k)<|sQ<|rg<|ae (aC aA k k k k k k k) k ?_
   refine am k k ?_
   obtain ⟨v9,hv9,h⟩:=ob h
   refine ae (aZ (aFg v7 v8 v9 hv9) k (aG (cA (aM (aQ k) (aM (aQ k) (aM (tK eD k k) (aM (tK eD k k) (aM (tK eD k k) (aM (tK aAm k k) cF))))))) (aG (aAl eD k k) bA))) k<|aa k k<|an<|tn<|sQ<|sQ<|rg<|am k k<|am k k<|ae (aQW (by kernel_rfl) k k) k ?_
   refine an<|tn ?_
   rcases cb h with ⟨q10,h⟩|⟨q10,h⟩
   ·refine aL k q10<|sQ<|rg<|aa k k<|an<|tn<|aP<|aK ?_
    obtain rfl:=so h
    exact aU k k k (bT k)
   ·refine aS k q10<|aT<|tn<|sQ<|sQ<|aY jW<|ae (aC aA k k k k k k k) k<|ae (aC aA k k k k k k k) k ?_
    obtain ⟨v11,hv11,h⟩:=ob h
    refine ae (AEff.conv (cR (x:= .agg [.int v11.p,.int v11.q.n,.own 12 0 (List.map eI v11.q.src).length,.own 13 0 (List.map eI v11.q.tgt).length,.own 14 0 (List.map eI v11.dims).length,.own 15 0 (List.map eM v11.maps).length]) (nb:=[(12,⟨1,cX (List.map eI v11.q.src)⟩),(13,⟨1,cX (List.map eI v11.q.tgt)⟩),(14,⟨1,cX (List.map eI v11.dims)⟩),(15,⟨3,cX (List.map eM v11.maps)⟩)]) (aAK a0 v11 hv11) k (by rfl) k k (bZ trivial (bZ trivial (bZ (eD.good _) (bZ (eD.good _) (bZ (eD.good _) (bZ (aAm.good _) gQ)))))) (aG (cA (aM (aQ k) (aM (aQ k) (aM (aQ k) (aM (aQ k) (aM (aQ k) (aM (aQ k) cF))))))) bA)) (v':= .agg [.int v11.p,.int v11.q.n,.own 12 0 v11.q.src.length,.own 13 0 v11.q.tgt.length,.own 14 0 v11.dims.length,.own 15 0 v11.maps.length]) (ed':=[(12,some ⟨1,List.map (ow eI) v11.q.src⟩),(13,some ⟨1,List.map (ow eI) v11.q.tgt⟩),(14,some ⟨1,List.map (ow eI) v11.dims⟩),(15,some ⟨3,List.map (ow eM) v11.maps⟩)]) (by simp only [bD]) (eJ (nb':=[(12,⟨1,List.map (ow eI) v11.q.src⟩),(13,⟨1,List.map (ow eI) v11.q.tgt⟩),(14,⟨1,List.map (ow eI) v11.dims⟩),(15,⟨3,List.map (ow eM) v11.maps⟩)]) (by simp only [cT]))) k ?_
    obtain ⟨v12,hv12,h⟩:=ob h
    refine ae (aZ (aJF v7 v11 v12 hv12) k (aG (cA (aM (aQ k) (aM (aQ k) (aM (tK eD k k) (aM (tK eD k k) (aM (tK eD k k) (aM (tK aAm k k) cF))))))) (aG (cA (aM (aQ k) (aM (aQ k) (aM (tK eD k k) (aM (tK eD k k) (aM (tK eD k k) (aM (tK aAm k k) cF))))))) bA))) k<|ae (cG k) k<|an ?_
    refine ⟨by kernel_rfl,?_⟩
    refine tn<|aO (t:=bU [(1,.list 1 (List.map eI a1)),(8,.own 11 0 v8.length),(37,.bl (!v12))] [(11,⟨1,List.map (ow eI) v8⟩)] 16 [16,17,18]) (aE (σ:=sg [(11,11)]) ⟨⟨_,k,⟨k,k⟩⟩,(oE k k),(e1 k k),trivial⟩ (hI k k k<|trivial) k) ?_
    rcases cb h with ⟨q13,h⟩|⟨q13,h⟩
    ·refine aL k q13<|sQ<|rg<|aa k k<|an<|tn<|aP<|aK ?_
     obtain rfl:=so h
     exact aU k k k (bT k)
    ·refine aS k q13<|aT<|tn<|sQ<|sQ<|rg<|am k k<|am k k ?_
     obtain ⟨v14,hv14,h⟩:=ob h
     refine ae (AEff.conv (cR (x:= .own 16 0 (List.map eI v14).length) (nb:=[(16,⟨1,cX (List.map eI v14)⟩)]) (kP a1 v14 hv14) k (by rfl) k k (eD.good _) (aG (aI k) bA)) (v':= .own 16 0 v14.length) (ed':=[(16,some ⟨1,List.map (ow eI) v14⟩)]) (by simp only [bD]) (eJ (nb':=[(16,⟨1,List.map (ow eI) v14⟩)]) (by simp only [cT]))) k ?_
     obtain ⟨v15,hv15,h⟩:=ob h
     refine ae (aZ (qS v8 v14 v15 hv15) k (aG (aAl eD k k) (aG (aAl eD k k) bA))) k<|ae (cG k) k<|an<|tn ?_
     rcases cb h with ⟨q16,h⟩|⟨q16,h⟩
     ·refine aL k q16<|sQ<|rg<|aa k k<|an<|tn<|aP<|aK ?_
      obtain rfl:=so h
      exact aU k k k (bT k)
     ·refine aS k q16<|aT<|tn<|sQ<|rg<|aa k k<|an<|tn<|aP ?_
      obtain rfl:=so h
      exact aU k k k (bT k)
end
noncomputable section
def cN:List Int→Nat
 | []=>1
 |m::ms=>(m.toNat+1)*cN ms
def aBt:List Int→Nat→List Int
 | [],_=>[]
 |m::ms,c=>((c / cN ms % (m.toNat+1):Nat):Int)::aBt ms c
theorem aMB: ∀ ms,0<cN ms
 | []=>by simp [cN]
 |m::ms=>Nat.mul_pos (Nat.succ_pos _) (aMB ms)
theorem aKv: ∀ ms c,(aBt ms c).length=ms.length
 | [],_=>rfl
 |m::ms,c=>by simp [aBt,aKv ms c]
theorem aKw: ∀ (ms:List Int) (i c:Nat),aBt ms (i*cN ms+c)=aBt ms c
 | [],_,_=>rfl
 |m::ms,i,c=>by
  simp only [aBt,cN]
  have h:=aMB ms
  rw [show i*((m.toNat+1)*cN ms)+c=i*(m.toNat+1)*cN ms+c by rw [Nat.mul_assoc],aKw ms,Nat.add_comm (i*(m.toNat+1)*cN ms) c,Nat.add_mul_div_right _ _ h,Nat.add_mul_mod_self_right]
theorem aIe {α:Type} (f:Nat→α) (b:Nat): ∀ a,(List.range (a*b)).map f=(List.range a).flatMap fun i=>(List.range b).map fun c=>f (i*b+c)
 |0=>by simp
 |a+1=>by
  rw [Nat.succ_mul,List.range_add,List.map_append,aIe f b a,List.range_succ,List.flatMap_append,List.flatMap_singleton,List.map_map]
  rfl
theorem aDn {α β:Type} {f g:α→List β} : ∀ {l:List α},(∀ x∈l,f x=g x)→l.flatMap f=l.flatMap g
 | [],_=>rfl
 |x::l,h=>by rw [List.flatMap_cons,List.flatMap_cons,h x (by simp),aDn fun y hy=>h y (by simp [hy])]
theorem aKx {α:Type} (p q:α→Bool): ∀ l:List α,(l.all fun x=>p x&&q x)=(l.all p&&l.all q)
 | []=>rfl
 |x::l=>by
  simp only [List.all_cons,aKx p q l]
  cases p x <;> cases q x <;> simp
theorem aEh: ∀ ms:List Int,(List.range (cN ms)).map (aBt ms)=dJ ms
 | []=>rfl
 |m::ms=>by
  simp only [cN,dJ]
  rw [aIe,←aEh ms]
  refine aDn fun i hi=>?_
  rw [List.map_map]
  refine List.map_congr_left fun c hc=>?_
  have hc:=List.mem_range.1 hc
  have hi:=List.mem_range.1 hi
  simp only [aBt,Function.comp_apply]
  rw [aKw,Nat.add_comm (i*cN ms) c,Nat.add_mul_div_right _ _ (aMB ms),Nat.div_eq_of_lt hc,Nat.zero_add,Nat.mod_eq_of_lt hi]
theorem aPO {b:Nat} : ∀ {ms:List Int},(∀ m∈ms,m.toNat≤b)→cN ms≤(b+1) ^ ms.length
 | [],_=>by simp [cN]
 |m::ms,h=>by
  have ih:=aPO (ms:=ms) fun x hx=>h x (by simp [hx])
  have:=h m (by simp)
  simp only [cN,List.length_cons,Nat.pow_succ]
  rw [Nat.mul_comm]
  exact Nat.mul_le_mul ih (by omega)
theorem Sm.mem {r:Rp} (S:Sm r): ∀ x∈r.dims,0≤x∧x≤2:=by
 intro x hx
 obtain ⟨k,hk,rfl⟩:=List.mem_iff_getElem.1 hx
 have h1:=(S.R.d k hk).1
 have h2:=S.d k hk
 rw [List.getElem?_eq_getElem hk,Option.getD_some] at h1
 omega
theorem aHK {r:Rp} (S:Sm r) (n:Nat):cN (r.dims.drop n)≤243:=by
 have h5:=S.R.n5
 have h:=aPO (b:=2) (ms:=r.dims.drop n) fun m hm=>by have:=S.mem m (List.mem_of_mem_drop hm);omega
 exact Nat.le_trans h (Nat.le_trans (Nat.pow_le_pow_right (by omega) (show (r.dims.drop n).length ≤5 by rw [List.length_drop];omega)) (by decide))
theorem aFD {r:Rp} (S:Sm r):(dJ r.dims).length ≤243:=by
 rw [←aEh,List.length_map,List.length_range]
 exact aHK S 0
def uJ (r:Rp):List (List Sc):=(dJ r.dims).flatMap (aAZ r)
theorem xV {r:Rp} (S:Sm r) (d:List Int):(aAZ r d).length ≤1024:=Nat.le_trans (List.length_filter_le _ _) (aCl S)
theorem aMr {α β ρ:Type} {f:α→List β→Option (List β ⊕ ρ)} (g:α→List β) (b:Nat): ∀ (l:List α) (acc:List β),acc.length+b*l.length≤4000000→(∀ x∈l,(g x).length ≤b∧ ∀ acc:List β,acc.length+b≤4000000→f x acc=some (.inl (acc++g x)))→Fl f l acc=some (.inl (acc++l.flatMap g))
 | [],acc,_,_=>by simp [Fl]
 |x::l,acc,hl,h=>by
  rw [List.length_cons,Nat.mul_succ] at hl
  obtain ⟨h0,h1⟩:=h x (by simp)
  have h1:=h1 acc (by omega)
  simp only [Fl,h1]
  rw [aMr g b l _ (by rw [List.length_append];omega) fun y hy=>h y (by simp [hy]),List.flatMap_cons,List.append_assoc]
theorem aMC {r:Rp} (S:Sm r):aBz r.dims=true:=by
 have h5:=S.R.n5
 unfold aBz
 rw [decide_eq_true (by omega),Bool.and_true,List.all_eq_true]
 intro m hm
 have:=S.mem m hm
 rw [decide_eq_true (by omega),decide_eq_true (by omega)]
 rfl
theorem aIf {r:Rp} (hr:bR r) (S:Sm r):pK r=some (uJ r):=by
 have hb:=aFD S
 unfold pK
 rw [aMC S,cond_true,aMr (aAZ r) 1024 _ _ (by simp;omega) (fun x hx=>⟨xV S x,fun acc hacc=>?_⟩),Option.bind_some]
 ·rfl
 ·have hsm:=xV S x
  unfold uE
  rw [aHJ hr S (mN hx),Option.bind_some,decide_eq_true (by omega),cond_true]
theorem aPP {r:Rp} (S:Sm r) {c:Nat} (hc:c<cN r.dims):Lp (kM r) (List.replicate ((r.dims.length:Int).toNat) (0:Int),(c:Int),wr ((((List.replicate ((r.dims.length:Int).toNat) (0:Int)).length:Nat):Int) - 1))=some (aBt r.dims c):=by
 have h5:=S.R.n5
 have hc243:c≤243:=by have:=aHK S 0;rw [List.drop_zero] at this;omega
 rw [Int.toNat_natCast,List.length_replicate]
 refine fA (fun j=>(List.replicate (r.dims.length - j) 0++aBt (r.dims.drop (r.dims.length - j)) c,((c / cN (r.dims.drop (r.dims.length - j)):Nat):Int),(r.dims.length:Int) - j - 1)) r.dims.length ?_ (fun j hj=>?_) (fun _=>?_)
 ·rw [Nat.sub_zero,List.drop_length,eZ (by omega)]
  simp [aBt,cN]
 ·obtain ⟨v,hv⟩: ∃ v,v+1=r.dims.length - j:=⟨r.dims.length - j - 1,by omega⟩
  have hvl:v<r.dims.length:=by omega
  have hm:=S.mem _ (dI 0 hvl)
  have e1:r.dims.length - (j+1)=v:=by omega
  have e2:(r.dims.length:Int) - (j:Int) - 1=(v:Int):=by omega
  have e3:r.dims.drop v=r.dims[v]?.getD 0::r.dims.drop (v+1):=by rw [List.drop_eq_getElem_cons hvl,List.getElem?_eq_getElem hvl,Option.getD_some]
  have hq:c / cN (r.dims.drop (v+1))≤c:=Nat.div_le_self _ _
  unfold kM
  simp only
  rw [←hv,e1,e2,decide_eq_true (by omega),cond_true,pQ 0 hvl,Option.bind_some,eZ (x:=r.dims[v]?.getD 0+1) (by omega),decide_eq_false (by omega)]
  simp only [Bool.not_false,cond_true]
  rw [pQ 0 (by simp;omega),Option.bind_some,Option.bind_some,eZ (x:=r.dims[v]?.getD 0+1) (by omega),decide_eq_false (by omega)]
  simp only [Bool.not_false,cond_true]
  have e4:r.dims[v]?.getD 0+1=(((r.dims[v]?.getD 0).toNat +1:Nat):Int):=by omega
  rw [e4,Int.toNat_natCast,Int.tmod_eq_emod_of_nonneg (Int.natCast_nonneg _),Int.tdiv_eq_ediv_of_nonneg (Int.natCast_nonneg _)]
  have e5:(((c / cN (r.dims.drop (v+1)):Nat):Int) / (((r.dims[v]?.getD 0).toNat +1:Nat):Int))=((c / cN (r.dims.drop v):Nat):Int):=by
   rw [e3,cN,Nat.mul_comm,←Nat.div_div_eq_div_mul]
   rfl
  have hq2:c / cN (r.dims.drop v)≤c:=Nat.div_le_self _ _
  rw [e5,eZ ⟨Int.le_trans (by decide) (Int.natCast_nonneg _),Int.le_trans (Int.ofNat_le.2 (Nat.le_trans hq2 hc243)) (by decide)⟩,eZ (by omega)]
  congr 3
  ·rw [e3,aBt,List.replicate_succ',List.append_assoc,List.set_append_right _ _ (by simp)]
   rw [List.length_replicate,Nat.sub_self]
   rfl
  ·congr 1
   omega
 ·unfold kM
  simp only
  rw [decide_eq_false (by omega),cond_false,Nat.sub_self,List.drop_zero]
  rfl
def aQI (r:Rp):List (List Sc)×Bool:=bif nT r then (uJ r,true) else ([],false)
theorem aIg {r:Rp} (hr:bR r):pL r=some (aQI r):=by
 unfold pL aQI
 rw [aIZ hr,Option.bind_some]
 cases hS:nT r with
 |false=>rfl
 |true=>
  have S:=aFB hS
  have h5:=S.R.n5
  have h243:=aHK S 0
  rw [List.drop_zero] at h243
  simp only [Bool.not_true,cond_false,cond_true]
  have hpre: ∀ k,k≤r.dims.length→cN (r.dims.take k)≤243:=by
   intro k hk
   have h:=aPO (b:=2) (ms:=r.dims.take k) fun m hm=>by have:=S.mem m (List.mem_of_mem_take hm);omega
   exact Nat.le_trans h (Nat.le_trans (Nat.pow_le_pow_right (by omega) (show (r.dims.take k).length ≤5 by rw [List.length_take];omega)) (by decide))
  have hsnoc: ∀ (l:List Int) (m:Int),cN (l++[m])=cN l*(m.toNat+1):=by
   intro l m
   induction l with
   |nil=>simp [cN]
   |cons x l ih=>simp only [List.cons_append,cN];rw [ih,Nat.mul_assoc]
  rw [fA (r:=(cN r.dims:Int)) (fun k=>((cN (r.dims.take k):Int),(k:Int))) r.dims.length (by simp [cN]) (fun k hk=>?_) (fun _=>?_),Option.bind_some]
  ·rw [fA (r:=uJ r) (fun k=>(((List.range k).map (aBt r.dims)).flatMap (aAZ r),(k:Int))) (cN r.dims) (by simp) (fun k hk=>?_) (fun _=>?_),Option.bind_some]
   ·have hlen:(((List.range k).map (aBt r.dims)).flatMap (aAZ r)).length ≤1024*k:=by
     have: ∀ l:List (List Int),(l.flatMap (aAZ r)).length ≤1024*l.length:=by
      intro l
      induction l with
      |nil=>simp
      |cons x l ih=>rw [List.flatMap_cons,List.length_append,List.length_cons,Nat.mul_succ];have:=xV S x;omega
     have:=this ((List.range k).map (aBt r.dims))
     rwa [List.length_map,List.length_range] at this
    have hsm:=xV S (aBt r.dims k)
    unfold oS
    simp only
    rw [kN hk,cond_true,decide_eq_true (by omega),decide_eq_true (by omega)]
    simp only [Bool.and_self,cond_true]
    rw [aPP S hk,Option.bind_some,aFC hr,Option.bind_some]
    unfold aId
    rw [hS,decide_eq_true (aKv _ _)]
    simp only [Bool.and_self,cond_true]
    rw [decide_eq_true (by omega),cond_true,dG hk (by omega),List.range_succ,List.map_append,List.flatMap_append]
    simp
   ·unfold oS
    simp only
    rw [nV (Nat.le_refl _),cond_false,aEh]
    rfl
  ·have h1:=hpre k (by omega)
   have h2:=hpre (k+1) (by omega)
   have hm:=S.mem _ (dI 0 hk)
   have e:cN (r.dims.take (k+1))=cN (r.dims.take k)*((r.dims[k]?.getD 0).toNat +1):=by rw [List.take_succ_eq_append_getElem hk,hsnoc,List.getElem?_eq_getElem hk,Option.getD_some]
   unfold oP
   simp only
   rw [kN hk,cond_true,pQ 0 hk,Option.bind_some,eZ (x:=r.dims[k]?.getD 0+1) (by omega),show r.dims[k]?.getD 0+1=(((r.dims[k]?.getD 0).toNat +1:Nat):Int) by omega,aKL (by omega),←e,dG hk (by omega)]
  ·unfold oP
   simp only
   rw [nV (Nat.le_refl _),cond_false,List.take_length]
def gA (s:List Sc):List Int:=s.map fun x=>(x.basis.length:Int)
theorem aIh {s:List Sc} (hs:s.length≤1048576):jL s=some (gA s):=by
 unfold jL
 rw [fA (r:=gA s) (fun k=>((s.take k).map (fun x=>(x.basis.length:Int)),(k:Int))) s.length (by simp) (fun k hk=>?_) (fun _=>?_),Option.bind_some]
 ·unfold oK
  simp only
  rw [kN hk,cond_true,pQ ⟨0,[]⟩ hk,Option.bind_some,decide_eq_true (by rw [List.length_map,List.length_take];simp;omega),cond_true,dG hk (by omega),zT (fun x:Sc=>(x.basis.length:Int)) _ hk]
 ·unfold oK
  simp only
  rw [nV (Nat.le_refl _),cond_false,List.take_length]
  rfl
theorem aDo {r:Rp} (hr:bR r) {s:List Sc} (hs:s.length≤1048576∧ ∀ x∈s,bS x) (h:aCk r s=true):pM r s=some (gA s):=by
 unfold pM
 rw [fA (r:=gA s) (fun k=>((s.take k).map (fun x=>(x.basis.length:Int)),(k:Int))) s.length (by simp) (fun k hk=>?_) (fun _=>?_),Option.bind_some]
 ·unfold oT
  simp only
  rw [kN hk,cond_true,aIX hr hs,Option.bind_some,h,cond_true,pQ ⟨0,[]⟩ hk,Option.bind_some,decide_eq_true (by rw [List.length_map,List.length_take];simp;omega),cond_true,dG hk (by omega),zT (fun x:Sc=>(x.basis.length:Int)) _ hk]
 ·unfold oT
  simp only
  rw [nV (Nat.le_refl _),cond_false,List.take_length]
  rfl
structure Part (r:Rp) (s:List Sc):Prop where
 len:s.length=r.dims.length
 b: ∀ x∈s,bS x
 sub:aCk r s=true
 dim: ∀ v,v<r.dims.length→0≤(gA s)[v]?.getD 0∧(gA s)[v]?.getD 0≤r.dims[v]?.getD 0
theorem aQJ {r:Rp} (S:Sm r) {d:List Int} {s:List Sc} (h:s∈aAZ r d):Part r s:=by
 obtain ⟨h1,h2⟩:=List.mem_filter.1 h
 obtain ⟨p1,p2,p3⟩:=aJf S h1
 obtain ⟨R,e1,e2⟩:=aLt h2
 refine ⟨p1,p2,h2,fun v hv=>?_⟩
 have:=(e2 v hv).len
 have h3:(gA s)[v]?.getD 0=((sG s v).basis.length:Int):=by
  unfold gA sG
  rw [List.getElem?_map]
  have:v<s.length:=by omega
  simp [this]
 rw [h3,(R.d v hv).1]
 omega
theorem aDp {r:Rp} (S:Sm r) {s:List Sc} (h:s∈uJ r):Part r s:=by
 obtain ⟨d,_,hd⟩:=List.mem_flatMap.1 h
 exact aQJ S hd
theorem aFw {r:Rp} (S:Sm r):(uJ r).length ≤300000:=by
 have h:=aFD S
 have: ∀ l:List (List Int),(l.flatMap (aAZ r)).length ≤1024*l.length:=by
  intro l
  induction l with
  |nil=>simp
  |cons x l ih=>rw [List.flatMap_cons,List.length_append,List.length_cons,Nat.mul_succ];have:=xV S x;omega
 have:=this (dJ r.dims)
 unfold uJ
 omega
def thV (t d:List Int):Bool:=decide (t.length=d.length)&&(decide (t.length≤100)&&((t.all fun x=>lZ x (-20) 20)&&d.all fun x=>lZ x 0 100))
structure Th (t d:List Int):Prop where
 l:t.length=d.length
 l100:t.length≤100
 t: ∀ k,k<t.length→ -20≤t[k]?.getD 0∧t[k]?.getD 0≤20
 d: ∀ x∈d,0≤x∧x≤100
theorem aAa {t d:List Int} (h:thV t d=true):Th t d:=by
 unfold thV at h
 simp only [Bool.and_eq_true,decide_eq_true_eq,List.all_eq_true] at h
 obtain ⟨h1,h2,h3,h4⟩:=h
 exact ⟨h1,h2,fun k hk=>gP (h3 _ (dI 0 hk)),fun x hx=>gP (h4 x hx)⟩
theorem aKz {t d:List Int} (ht:bI t) (hd:bI d):qK t d=some (thV t d):=by
 unfold qK thV
 by_cases h1:t.length=d.length
 ·rw [decide_eq_true (by omega),decide_eq_true h1,cond_true,Bool.true_and]
  by_cases h2:t.length≤100
  ·rw [decide_eq_true (by omega),decide_eq_true h2,cond_true,Bool.true_and,pB ht,Option.bind_some]
   refine fJ fun _=>?_
   rw [pB hd,Option.bind_some]
  ·rw [decide_eq_false (by omega),decide_eq_false h2];rfl
 ·rw [decide_eq_false (by omega),decide_eq_false h1];rfl
theorem zU {t d:List Int} (ht:bI t) (hd:bI d):iD t d=some (thV t d):=by
 unfold bI at ht hd
 unfold iD
 rw [sB (fun k=>lZ (t[k]?.getD 0) (-20) 20&&(!decide (k<d.length)||lZ (d[k]?.getD 0) 0 100)) false (n:=t.length) (by omega) (fun k hk=>?_) (fun _=>?_),Option.bind_some]
 ·unfold thV
  by_cases h1:t.length=d.length
  ·rw [decide_eq_true h1,decide_eq_true (by omega),Bool.true_and]
   have e:(List.range t.length).all (fun k=>lZ (t[k]?.getD 0) (-20) 20&&(!decide (k<d.length)||lZ (d[k]?.getD 0) 0 100))=((t.all fun x=>lZ x (-20) 20)&&d.all fun x=>lZ x 0 100):=by
    rw [←nJ 0 t (fun x=>lZ x (-20) 20),←nJ 0 d (fun x=>lZ x 0 100),←h1,←aKx]
    refine aKJ fun k hk=>?_
    rw [decide_eq_true hk]
    rfl
   rw [e]
   cases ((t.all fun x=>lZ x (-20) 20)&&d.all fun x=>lZ x 0 100) with
   |false=>simp
   |true=>
    simp only [cond_true,Sum.elim_inl,Bool.and_true]
    congr 1
    exact decide_eq_decide.2 (by omega)
  ·rw [decide_eq_false h1,decide_eq_false (by omega)]
   cases (List.range t.length).all _ <;> rfl
 ·unfold oU
  rw [kN hk,cond_true,pQ 0 hk,Option.bind_some,sD,Option.bind_some]
  cases lZ (t[k]?.getD 0) (-20) 20 with
  |false=>rfl
  |true=>
   simp only [Bool.not_true,cond_false,Bool.true_and]
   by_cases hk2:k<d.length
   ·rw [kN hk2,decide_eq_true hk2,cond_true,pQ 0 hk2,Option.bind_some,sD,Option.bind_some]
    cases lZ (d[k]?.getD 0) 0 100 <;> rfl
   ·rw [nV (by omega),decide_eq_false hk2]
    rfl
 ·unfold oU
  rw [nV (Nat.le_refl _),cond_false]
def thS (t d:List Int):Nat→Int
 |0=>0
 |k+1=>thS t d k+t[k]?.getD 0*d[k]?.getD 0
theorem aMD {a b:Int} (ha: -20≤a∧a≤20) (hb:0≤b∧b≤100): -2000≤a*b∧a*b≤2000:=by
 have h1:=Int.mul_le_mul_of_nonneg_right ha.2 hb.1
 have h2:=Int.mul_le_mul_of_nonneg_right ha.1 hb.1
 omega
theorem aCm {t d:List Int} (T:Th t d): ∀ k,k≤t.length→ -2000*k≤thS t d k∧thS t d k≤2000*k
 |0,_=>by simp [thS]
 |k+1,hk=>by
  have ih:=aCm T k (by omega)
  have h1:=T.t k (by omega)
  have h2:=T.d _ (dI 0 (show k<d.length by have:=T.l;omega))
  have:=aMD h1 h2
  simp only [thS]
  omega
theorem aIi {t d:List Int} (T:Th t d):pJ t d=some (thS t d t.length):=by
 have h100:=T.l100
 unfold pJ
 rw [fA (r:=thS t d t.length) (fun k=>(thS t d k,(k:Int))) t.length (by rfl) (fun k hk=>?_) (fun _=>?_),Option.bind_some]
 ·have h1:=T.t k hk
  have h2:=T.d _ (dI 0 (show k<d.length by have:=T.l;omega))
  have h3:=aMD h1 h2
  have h4:=aCm T k (by omega)
  unfold oN
  simp only
  rw [kN hk,cond_true,pQ 0 hk,Option.bind_some,pQ 0 (show k<d.length by have:=T.l;omega),Option.bind_some,eZ (x:=t[k]?.getD 0*d[k]?.getD 0) (by omega),eZ (by omega),dG hk (by omega)]
  rfl
 ·unfold oN
  simp only
  rw [nV (Nat.le_refl _),cond_false]
theorem aIj {t d:List Int} (ht:bI t) (hd:bI d) (h:thV t d=true):pN t d=some (thS t d t.length):=by
 have T:=aAa h
 have h100:=T.l100
 unfold pN
 rw [fA (r:=thS t d t.length) (fun k=>(thS t d k,(k:Int))) t.length (by rfl) (fun k hk=>?_) (fun _=>?_),Option.bind_some]
 ·have h1:=T.t k hk
  have h2:=T.d _ (dI 0 (show k<d.length by have:=T.l;omega))
  have h3:=aMD h1 h2
  have h4:=aCm T k (by omega)
  unfold oV
  simp only
  rw [kN hk,cond_true,zU ht hd,Option.bind_some,h,cond_true,pQ 0 hk,Option.bind_some,pQ 0 (show k<d.length by have:=T.l;omega),Option.bind_some,eZ (x:=t[k]?.getD 0*d[k]?.getD 0) (by omega),eZ (by omega),dG hk (by omega)]
  rfl
 ·unfold oV
  simp only
  rw [nV (Nat.le_refl _),cond_false]
theorem uK {d:List Int} (h: ∀ x∈d,0≤x∧x≤100) (hl:d.length≤1048576):fL d=some d.sum∧iW d=some d.sum:=by
 have hs:=aDl h hl
 constructor
 ·unfold fL
  rw [fA (r:=d.sum) (fun k=>((d.take k).sum,(k:Int))) d.length (by simp) (fun k hk=>?_) (fun _=>?_)];rfl
  ·unfold jZ
   simp only
   have:=hs k (by omega)
   have:=hs (k+1) (by omega)
   rw [tY hk] at this
   rw [kN hk,cond_true,pQ 0 hk,Option.bind_some,eZ (by omega),dG hk (by omega),tY hk]
  ·unfold jZ
   simp only
   rw [nV (Nat.le_refl _),cond_false,List.take_length]
 ·unfold iW
  rw [fA (r:=d.sum) (fun k=>((d.take k).sum,(k:Int))) d.length (by simp) (fun k hk=>?_) (fun _=>?_)];rfl
  ·unfold qL
   simp only
   have:=hs k (by omega)
   have:=hs (k+1) (by omega)
   rw [tY hk] at this
   rw [kN hk,cond_true,pQ 0 hk,Option.bind_some,eZ (by omega),dG hk (by omega),tY hk]
  ·unfold qL
   simp only
   rw [nV (Nat.le_refl _),cond_false,List.take_length]
def sgn (x:Int):Int:=if x<0 then -1 else if 0<x then 1 else 0
def slV (t a b:List Int):Int:=sgn (thS t a t.length*b.sum - thS t b t.length*a.sum)
theorem aFx {x y:Int} (hx: -200000≤x∧x≤200000) (hy:0≤y∧y≤10000): -2000000000≤x*y∧x*y≤2000000000:=by
 have h1:=Int.mul_le_mul_of_nonneg_right hx.2 hy.1
 have h2:=Int.mul_le_mul_of_nonneg_right hx.1 hy.1
 omega
theorem Th.sum {t d:List Int} (T:Th t d):0≤d.sum∧d.sum≤10000:=by
 have:=aDl T.d (by have:=T.l;have:=T.l100;omega) d.length (Nat.le_refl _)
 have h1:=T.l
 have h2:=T.l100
 rw [List.take_length] at this
 omega
theorem aIk {t a b:List Int} (A:Th t a) (B:Th t b):iC t a b=some (slV t a b):=by
 have ha:=A.sum
 have hb:=B.sum
 have h100:=A.l100
 have hl1:=A.l
 have hl2:=B.l
 have h1:=aCm A t.length (Nat.le_refl _)
 have h2:=aCm B t.length (Nat.le_refl _)
 have h3:=aFx (x:=thS t a t.length) (y:=b.sum) (by omega) hb
 have h4:=aFx (x:=thS t b t.length) (y:=a.sum) (by omega) ha
 unfold iC
 rw [aIi A,Option.bind_some,(uK B.d (by omega)).1,Option.bind_some,aIi B,Option.bind_some,(uK A.d (by omega)).1,Option.bind_some,eZ (by omega),eZ (by omega)]
 unfold oB rL slV sgn
 simp only [decide_true,Bool.not_true,Option.bind_some,cond_false]
 by_cases e1:thS t a t.length*b.sum<thS t b t.length*a.sum
 ·rw [decide_eq_true e1,if_pos (by omega)];rfl
 ·rw [decide_eq_false e1,if_neg (by omega)]
  by_cases e2:thS t b t.length*a.sum<thS t a t.length*b.sum
  ·rw [decide_eq_true e2,if_pos (by omega)];rfl
  ·rw [decide_eq_false e2,if_neg (by omega)];rfl
theorem aIl {t a b:List Int} (ht:bI t) (ha':bI a) (hb':bI b) (hA:thV t a=true) (hB:thV t b=true):iE t a b=some (if a.sum=0 then 0 else if b.sum=0 then 0 else slV t a b):=by
 have A:=aAa hA
 have B:=aAa hB
 have ha:=A.sum
 have hb:=B.sum
 have h100:=A.l100
 have hl1:=A.l
 have hl2:=B.l
 have h1:=aCm A t.length (Nat.le_refl _)
 have h2:=aCm B t.length (Nat.le_refl _)
 have h3:=aFx (x:=thS t a t.length) (y:=b.sum) (by omega) hb
 have h4:=aFx (x:=thS t b t.length) (y:=a.sum) (by omega) ha
 unfold iE
 rw [zU ht ha',Option.bind_some,hA]
 simp only [Bool.not_true,cond_false]
 rw [zU ht hb',Option.bind_some,hB]
 simp only [Bool.not_true,cond_false]
 rw [(uK A.d (by omega)).2,Option.bind_some]
 by_cases e1:a.sum=0
 ·rw [decide_eq_true e1,if_pos e1];rfl
 ·rw [decide_eq_false e1,if_neg e1,cond_false,(uK B.d (by omega)).2,Option.bind_some]
  by_cases e2:b.sum=0
  ·rw [decide_eq_true e2,if_pos e2];rfl
  ·rw [decide_eq_false e2,if_neg e2,cond_false,aIj ht ha' hA,Option.bind_some,Option.bind_some,aIj ht hb' hB,Option.bind_some,Option.bind_some,eZ (x:=thS t a t.length*b.sum) (by omega),eZ (x:=thS t b t.length*a.sum) (by omega),eZ (by omega)]
   unfold slV sgn
   by_cases e3:thS t a t.length*b.sum - thS t b t.length*a.sum<0
   ·rw [decide_eq_true e3,if_pos e3];rfl
   ·rw [decide_eq_false e3,if_neg e3]
    by_cases e4:0<thS t a t.length*b.sum - thS t b t.length*a.sum
    ·rw [decide_eq_true e4,if_pos e4];rfl
    ·rw [decide_eq_false e4,if_neg e4];rfl
end
noncomputable section
theorem sW (s:List Sc):(gA s).length=s.length:=by simp [gA]
theorem Part.th {r:Rp} {s:List Sc} (p:Part r s) {t:List Int} (h:thV t r.dims=true):thV t (gA s)=true:=by
 have T:=aAa h
 unfold thV at h ⊢
 simp only [Bool.and_eq_true,decide_eq_true_eq,List.all_eq_true] at h ⊢
 refine ⟨by rw [sW,p.len];exact h.1,h.2.1,h.2.2.1,fun x hx=>?_⟩
 obtain ⟨v,hv,rfl⟩:=List.mem_iff_getElem.1 hx
 have hv2:v<r.dims.length:=by rw [sW,p.len] at hv;exact hv
 have h1:=p.dim v hv2
 have h2:=T.d _ (dI 0 hv2)
 rw [List.getElem?_eq_getElem hv,Option.getD_some] at h1
 exact vR h1.1 (by omega)
theorem aPQ: ∀ {a b:List Int},a.length=b.length→(∀ v,v<b.length→a[v]?.getD 0≤b[v]?.getD 0)→a.sum≤b.sum∧(a.sum=b.sum→a=b)
 | [],[],_,_=>by simp
 | [],y::b,h,_=>by simp at h
 |x::a,[],h,_=>by simp at h
 |x::a,y::b,hl,h=>by
  have h0:=h 0 (by simp)
  obtain ⟨h1,h2⟩:=aPQ (a:=a) (b:=b) (by simpa using hl) (fun v hv=>by have:=h (v+1) (by simpa using hv);simpa using this)
  simp only [List.getElem?_cons_zero,Option.getD_some] at h0
  simp only [List.sum_cons]
  refine ⟨by omega,fun e=>?_⟩
  have e1:x=y:=by omega
  have e2:a.sum=b.sum:=by omega
  rw [e1,h2 e2]
theorem Part.sum {r:Rp} {s:List Sc} (p:Part r s):(gA s).sum ≤r.dims.sum∧((gA s).sum=r.dims.sum→gA s=r.dims):=
 aPQ (by rw [sW,p.len]) fun v hv=>(p.dim v hv).2
theorem aFE {l:List (List Sc)} {f:List Sc→Option Bool} (P:List Sc→Bool) (hf: ∀ x∈l,f x=some (P x)) (h:l.length≤1048576):cW l f=some (l.any P):=by
 unfold cW eN
 rcases aIc (n:=l.length) (fun k=> !P (l[k]?.getD [])) with hall|⟨k0,hk0,hbad,hgood⟩
 ·have e:l.any P=false:=by
   rw [List.any_eq_false]
   intro x hx
   obtain ⟨k,hk,rfl⟩:=List.mem_iff_getElem.1 hx
   have:=hall k hk
   rw [List.getElem?_eq_getElem hk,Option.getD_some] at this
   cases hp:P l[k] with
   |false=>simp
   |true=>rw [hp] at this;cases this
  rw [fA (r:= .inl ()) (fun j=>(j:Int)) l.length (by rfl) (fun j hj=>?_) (fun _=>?_),e];rfl
  ·unfold cM
   have hp:=hall j hj
   rw [kN hj,cond_true,pQ [] hj,Option.bind_some,hf _ (dI [] hj),Option.bind_some]
   cases hq:P (l[j]?.getD []) with
   |true=>rw [hq] at hp;cases hp
   |false=>rw [cond_false,dG hj (by omega)]
  ·unfold cM
   rw [nV (Nat.le_refl _),cond_false]
 ·have hp0:P (l[k0]?.getD [])=true:=by
   cases hq:P (l[k0]?.getD []) with
   |true=>rfl
   |false=>rw [hq] at hbad;cases hbad
  have e:l.any P=true:=List.any_eq_true.2 ⟨_,dI [] hk0,hp0⟩
  rw [fA (r:= .inr (k0:Int)) (fun j=>(j:Int)) k0 (by rfl) (fun j hj=>?_) (fun _=>?_),e]
  ·simp only [Option.bind_some,Sum.elim_inr]
   rw [decide_eq_true (by omega)]
  ·unfold cM
   have hp:=hgood j hj
   have hjl:j<l.length:=by omega
   rw [kN hjl,cond_true,pQ [] hjl,Option.bind_some,hf _ (dI [] hjl),Option.bind_some]
   cases hq:P (l[j]?.getD []) with
   |true=>rw [hq] at hp;cases hp
   |false=>rw [cond_false,dG hjl (by omega)]
  ·unfold cM
   rw [kN hk0,cond_true,pQ [] hk0,Option.bind_some,hf _ (dI [] hk0),Option.bind_some,hp0]
   rfl
theorem aHL {r:Rp} (hr:bR r) {t:List Int} (ht:bI t):nG r t=some (nT r&&(decide (0<r.dims.sum)&&thV t r.dims)):=by
 unfold nG
 rw [aIY hr,Option.bind_some]
 refine fJ fun hS=>?_
 have S:=aFB hS
 rw [(uK (fun x hx=>by have:=S.mem x hx;omega) (by have:=S.R.n5;omega)).1,Option.bind_some]
 refine fJ fun h0=>?_
 rw [aKz ht (by unfold bI;have:=S.R.n5;omega),Option.bind_some]
theorem aFF {r:Rp} (h:nT r=true):aDP r=true:=by
 unfold nT at h
 simp only [Bool.and_eq_true] at h
 exact h.1
def aME (r:Rp) (t:List Int) (s:List Sc):Bool:=decide (0<(gA s).sum)&&decide (0<slV t (gA s) r.dims)
def aQK (r:Rp) (t:List Int):Bool:=(nT r&&(decide (0<r.dims.sum)&&thV t r.dims))&& !(uJ r).any (aME r t)
theorem aQw {r:Rp} (hr:bR r) {t:List Int} (ht:bI t):wF r t=some (aQK r t):=by
 unfold wF aQK
 rw [aHL hr ht,Option.bind_some]
 refine fJ fun hA=>?_
 simp only [Bool.and_eq_true] at hA
 obtain ⟨hS,h0,hT⟩:=hA
 have S:=aFB hS
 have T:=aAa hT
 rw [aIf hr S,Option.bind_some,aFE (aME r t) (fun s hs=>?_) (by have:=aFw S;omega),Option.bind_some]
 have p:=aDp S hs
 have h5:=S.R.n5
 have hl:=p.len
 have TA:=aAa (p.th hT)
 unfold uQ aME
 rw [aIh (by omega),Option.bind_some,(uK TA.d (by rw [sW];omega)).1,Option.bind_some]
 refine fJ fun _=>?_
 rw [Option.bind_some,aIk TA T,Option.bind_some]
theorem aQx {r:Rp} (hr:bR r) {t:List Int} (ht:bI t):wG r t=some (aQK r t):=by
 unfold wG aQK
 rw [aIg hr,Option.bind_some]
 unfold aQI
 cases hS:nT r with
 |false=>rfl
 |true=>
  have S:=aFB hS
  have h5:=S.R.n5
  have hbd:bI r.dims:=by unfold bI;omega
  simp only [cond_true,Bool.not_true,cond_false,Bool.true_and]
  rw [zU ht hbd,Option.bind_some]
  cases hT:thV t r.dims with
  |false=>simp
  |true=>
   have T:=aAa hT
   simp only [Bool.not_true,cond_false,Bool.and_true]
   rw [aEg hr,Option.bind_some,aFF hS,cond_true]
   have hsum:=T.sum
   by_cases h0:r.dims.sum=0
   ·rw [decide_eq_true h0,decide_eq_false (by omega)];rfl
   ·rw [decide_eq_false h0,decide_eq_true (by omega),cond_false,Bool.true_and]
    have hal:=aFw S
    rw [sB (fun k=> !aME r t ((uJ r)[k]?.getD [])) false (n:=(uJ r).length) (by omega) (fun k hk=>?_) (fun _=>?_),Option.bind_some]
    ·have e:=nJ [] (uJ r) (fun s=> !aME r t s)
     rw [e,←List.not_any_eq_all_not]
     cases (uJ r).any (aME r t) <;> rfl
    ·have p:=aDp S (dI [] hk)
     have hl:=p.len
     have TA:=aAa (p.th hT)
     unfold mZ
     simp only
     rw [kN hk,cond_true,pQ [] hk,Option.bind_some,aDo hr ⟨by omega,p.b⟩ p.sub,Option.bind_some,aIl ht (by unfold bI;rw [sW];omega) hbd (p.th hT) hT,Option.bind_some]
     have hsA:=TA.sum
     unfold aME
     by_cases h1:(gA ((uJ r)[k]?.getD [])).sum=0
     ·rw [if_pos h1,decide_eq_false (show ¬ 0<(gA ((uJ r)[k]?.getD [])).sum by omega)]
      rfl
     ·rw [if_neg h1,if_neg h0,decide_eq_true (show 0<(gA ((uJ r)[k]?.getD [])).sum by omega),Bool.true_and]
      cases decide (0<slV t (gA ((uJ r)[k]?.getD [])) r.dims) <;> rfl
    ·unfold mZ
     simp only
     rw [nV (Nat.le_refl _),cond_false]
def aMF (r:Rp) (t:List Int) (s:List Sc):Bool:=lZ (gA s).sum 1 (r.dims.sum - 1)&&decide (0≤slV t (gA s) r.dims)
def aQL (r:Rp) (t:List Int):Bool:=(nT r&&(decide (0<r.dims.sum)&&thV t r.dims))&& !(uJ r).any (aMF r t)
theorem aNj {r:Rp} (hr:bR r) {t:List Int} (ht:bI t):rU r t=some (aQL r t):=by
 unfold rU aQL
 rw [aHL hr ht,Option.bind_some]
 refine fJ fun hA=>?_
 simp only [Bool.and_eq_true] at hA
 obtain ⟨hS,h0,hT⟩:=hA
 have S:=aFB hS
 have T:=aAa hT
 have hsum:=T.sum
 rw [aIf hr S,Option.bind_some,aFE (aMF r t) (fun s hs=>?_) (by have:=aFw S;omega),Option.bind_some]
 have p:=aDp S hs
 have h5:=S.R.n5
 have hl:=p.len
 have TA:=aAa (p.th hT)
 unfold oO aMF
 rw [aIh (by omega),Option.bind_some,(uK TA.d (by rw [sW];omega)).1,Option.bind_some,(uK T.d (by omega)).1,Option.bind_some,tX,Option.bind_some,eZ (x:=r.dims.sum - 1) (by omega)]
 refine fJ fun _=>?_
 rw [Option.bind_some,aIk TA T,Option.bind_some]
theorem aNk {r:Rp} (hr:bR r) {t:List Int} (ht:bI t):rV r t=some (aQL r t):=by
 unfold rV aQL
 rw [aIg hr,Option.bind_some]
 unfold aQI
 cases hS:nT r with
 |false=>rfl
 |true=>
  have S:=aFB hS
  have h5:=S.R.n5
  have hbd:bI r.dims:=by unfold bI;omega
  simp only [cond_true,Bool.not_true,cond_false,Bool.true_and]
  rw [zU ht hbd,Option.bind_some]
  cases hT:thV t r.dims with
  |false=>simp
  |true=>
   have T:=aAa hT
   simp only [Bool.not_true,cond_false,Bool.and_true]
   rw [aEg hr,Option.bind_some,aFF hS,cond_true]
   have hsum:=T.sum
   by_cases h0:r.dims.sum=0
   ·rw [decide_eq_true h0,decide_eq_false (by omega)];rfl
   ·rw [decide_eq_false h0,decide_eq_true (by omega),cond_false,Bool.true_and]
    have hal:=aFw S
    rw [sB (fun k=> !aMF r t ((uJ r)[k]?.getD [])) false (n:=(uJ r).length) (by omega) (fun k hk=>?_) (fun _=>?_),Option.bind_some]
    ·have e:=nJ [] (uJ r) (fun s=> !aMF r t s)
     rw [e,←List.not_any_eq_all_not]
     cases (uJ r).any (aMF r t) <;> rfl
    ·have p:=aDp S (dI [] hk)
     have hl:=p.len
     have TA:=aAa (p.th hT)
     have hbA:bI (gA ((uJ r)[k]?.getD [])):=by unfold bI;rw [sW];omega
     unfold nA
     simp only
     rw [kN hk,cond_true,pQ [] hk,Option.bind_some,aDo hr ⟨by omega,p.b⟩ p.sub,Option.bind_some,(uK TA.d hbA).2,Option.bind_some,aOZ hbA,Option.bind_some,aIl ht hbA hbd (p.th hT) hT,Option.bind_some]
     have hsA:=TA.sum
     obtain ⟨q1,q2⟩:=p.sum
     unfold aMF
     by_cases h1:(gA ((uJ r)[k]?.getD [])).sum=0
     ·rw [decide_eq_false (show ¬ 0<(gA ((uJ r)[k]?.getD [])).sum by omega),cond_false]
      have:lZ (gA ((uJ r)[k]?.getD [])).sum 1 (r.dims.sum - 1)=false:=by unfold lZ;exact decide_eq_false (by omega)
      rw [this]
      rfl
     ·rw [decide_eq_true (show 0<(gA ((uJ r)[k]?.getD [])).sum by omega),cond_true,if_neg h1,if_neg h0]
      by_cases h2:gA ((uJ r)[k]?.getD [])=r.dims
      ·have:lZ (gA ((uJ r)[k]?.getD [])).sum 1 (r.dims.sum - 1)=false:=by unfold lZ;rw [h2];exact decide_eq_false (by omega)
       rw [decide_eq_true h2,this]
       rfl
      ·have:lZ (gA ((uJ r)[k]?.getD [])).sum 1 (r.dims.sum - 1)=true:=vR (by omega) (by
        rcases Int.lt_or_eq_of_le q1 with h|h
        ·omega
        ·exact absurd (q2 h) h2)
       rw [decide_eq_false h2,this,Bool.true_and]
       cases decide (0≤slV t (gA ((uJ r)[k]?.getD [])) r.dims) <;> rfl
    ·unfold nA
     simp only
     rw [nV (Nat.le_refl _),cond_false]
theorem aNo {a:Rp} {d:List Int} (fa:fR a) (fd:fI d):tF a d=some true:=by
 unfold tF
 by_cases c1:d.length≤1048576
 ·rw [decide_eq_false (by omega),cond_false,aRG fa (by decide) (by decide),Option.bind_some]
  rcases aMb a 1048576 (by decide) (by decide) with e|⟨e1,e2,ha⟩
  ·rw [e];rfl
  ·rw [decide_eq_false (by omega),cond_false]
   have hd:bI d:=c1
   obtain ⟨z,h1,h2⟩:=aKu ha (d:=d)
   simp only [aRI ha,aNJ hd,Option.bind_some,h1,h2,aRK ha,aNK hd,decide_true,Bool.not_true,cond_false]
 ·rw [decide_eq_true (by omega),cond_true]
theorem aHM {a:Rp} {d:List Int} (fa:fR a) (fd:fI d):nB a d=some true:=by
 unfold nB
 by_cases c1:d.length≤1048576
 ·rw [decide_eq_false (by omega),cond_false,aRG fa (by decide) (by decide),Option.bind_some]
  rcases aMb a 1048576 (by decide) (by decide) with e|⟨e1,e2,ha⟩
  ·rw [e];rfl
  ·rw [decide_eq_false (by omega),cond_false]
   have hd:bI d:=c1
   simp only [aRI ha,aNJ hd,Option.bind_some,aNj ha hd,aNk ha hd,aRK ha,aNK hd,decide_true,Bool.not_true,cond_false,bne_self_eq_false,beq_self_eq_true]
 ·rw [decide_eq_true (by omega),cond_true]
end
end Go.Proofs.YtghechfdejhapaaGreat

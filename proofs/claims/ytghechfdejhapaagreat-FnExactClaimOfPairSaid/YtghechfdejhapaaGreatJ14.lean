/-
  Several texts of the claim in one.
-/
import Derived.Laws.BytesString
import Derived.Test.YtghechfdejhapaaGreatJ13
set_option linter.unusedVariables false
set_option linter.unusedSimpArgs false
namespace Go.Proofs.YtghechfdejhapaaGreat
open Go.RowKit
noncomputable section
set_option maxRecDepth 10000
set_option maxHeartbeats 4000000
end
noncomputable section
set_option maxRecDepth 10000
set_option maxHeartbeats 4000000
end
noncomputable section
set_option maxRecDepth 10000
set_option maxHeartbeats 4000000
end
noncomputable section
set_option maxRecDepth 10000
set_option maxHeartbeats 4000000
def iR (a0:(List Mt)) (x1:((List Mt)×Int)):Option (((List Mt)×Int) ⊕ (List Mt)):=
 bif decide (x1.2<(a0.length:Int)) then
 ((dF a0 x1.2).bind λv2=>
 (eX v2).bind λv3=>
 bif decide (x1.1.length+1≤4294967296) then
 (some (.inl ((x1.1++[v3]),wr (x1.2+1))))
 else none)
 else
 (some (.inr x1.1))
def lU (a0:(List Mt)):Option (List Mt):=
 (Lp (iR a0) ([],0)).bind λy5=>
 some (y5)
theorem aBV (a0:(List Mt)) (r:(List Mt)) (h:lU a0=some r):HasC Tryz.prog 121 [.list 3 (a0.map eM)] (.list 3 (r.map eM)):=by
 refine hM [.tmp 2] Tryz.func121 Tryz.ntmps121 k<|sR<|aT k2<|sR<|aT k2<|sQ<|sR<|am k k<|ln k4<|am k k<|an<|tn<|aG<|oB h λy5 hy5 h=>bY (body:=(iR a0)) hy5 (λ(x1:((List Mt)×Int))=>mN [(3,.own 0 0 x1.1.length),(6,.list 3 (a0.map eM)),(7,.int (a0.length:Int)),(8,.int x1.2)] [(0,⟨3,x1.1.map (ow eM)⟩)] 1) (λr e t=>e= .exit 0∧Ent t (mN [(3,.own 0 0 r.length)] [(0,⟨3,r.map (ow eM)⟩)] 1)) (iC (σ:=sg []) (sO ⟨_,k,⟨k,k,k,k⟩⟩ (bL k2)) (hX k k<|aV) k) ?_ ?_
 ·intro x1 o h;exact sR<|cm k4<|an<|tn<|sQ<|cJ k h (λ_ h=>aE<|tn<|sQ<|aG<|sR<|oB h λv2 hv2 h=>ae (xl hv2 k) k<|lr k7<|ae (cA aO k k) k<|ae (ws k) k<|an<|tn<|rg<|am k k<|lp k8<|oB h λv3 hv3 h=>ae (cM (qJ v2 v3 hv3) k3 (aI (dH k) aJ)) k<|ae (wl k) k<|cG h λq4 h=>ae (vP aO (l:=x1.1) (c:=[.int v3.rows,.int v3.cols,.own 2 0 v3.cells.length]) q4 k k k k k k k k k k k k k k) k<|aa k k<|an<|bC<|tn<|aR (t:=mN [(3,.own 4 0 ((x1.1++[v3]).length)),(6,.list 3 (a0.map eM)),(7,.int (a0.length:Int)),(8,.int x1.2)] [(4,⟨3,List.map (ow eM) (x1.1++[v3])⟩)] 5) (Ent.trans (nN (b:=4) (b':=2) (j:=2) (es':=v3.cells.map eI) k k k k (aU _ _) (bH.frzs _)) (bO (sO ⟨_,k,⟨k,k,(by simp only [aU,lA,lT,lR,lC,lN]),k⟩⟩ (bL k2)) (hX ⟨_,k,k,.inl ⟨vQ v3 k,aW.plainO _⟩⟩ k<|aV) k4))<|rg<|ae (bF k k) k<|am k k<|an<|tn<|sp h ⟨_,k,(xF [4] (bL k2) (cF (aW.plainO _) k<|aV) k4)⟩) λ_ h=>bB<|aC<|aC<|sp h ⟨_,k,k,(bO (bL k2) (cF (aW.plainO _) k<|aV) k4)⟩
 ·rintro e t ⟨rfl,hent⟩;exact aP<|tn<|aR hent<|sR<|am k k<|aT k2<|aD<|sp h (bG k k k (hO (cU aW k k)))
def qK (a0:Qv):Option Qv:=
 (tB a0.src).bind λv1=>
 (tB a0.tgt).bind λv2=>
 some ((⟨a0.n,v1,v2⟩:Qv))
theorem aBW (a0:Qv) (r:Qv) (h:qK a0=some r):HasC Tryz.prog 120 [.agg (eQ a0)] (.agg (eQ r)):=by
 exact hM [.cell 2 29] Tryz.func120 Tryz.ntmps120 k<|sR<|ae (wb k) k<|ae (cA aO k k) k<|an<|tn<|sQ<|aS fF<|fp k8<|lp k8<|fp k8<|lp k8<|oB h λv1 hv1 h=>ae (cL bH (aCY a0.src v1 hv1) k3 (cC k aJ)) k<|fp k8<|lp k8<|oB h λv2 hv2 h=>ae (cL bH (aCY a0.tgt v2 hv2) k3 (cC k aJ)) k<|ae (iJ aO k k k k k k) k<|ae (ws k) k<|an<|pA (by kernel_rfl)<|tn<|aD<|sp h (bG k k k (pD (aH (k) (aH (cU bH k k) (aH (cU bH k k) fY)))))
def gY (a0:Rp):Option Rp:=
 (qK a0.q).bind λv1=>
 (tB a0.dims).bind λv2=>
 (lU a0.maps).bind λv3=>
 some ((⟨a0.p,v1,v2,v3⟩:Rp))
theorem qC (a0:Rp) (r:Rp) (h:gY a0=some r):HasC Tryz.prog 63 [.agg (eR a0)] (.agg (eR r)):=by
 exact hM [.cell 2 32] Tryz.func63 Tryz.ntmps63 k<|sR<|ae (wb k) k<|ae (cA aO k k) k<|an<|tn<|sQ<|aS fF<|fp k8<|lp k8<|fp k8<|lp k8<|oB h λv1 hv1 h=>ae (cQ (aBW a0.q v1 hv1) k3 (aI (dH k) aJ)) k<|fp k8<|lp k8<|oB h λv2 hv2 h=>ae (cL bH (aCY a0.dims v2 hv2) k3 (cC k aJ)) k<|fp k8<|lp k8<|oB h λv3 hv3 h=>ae (cL aW (aBV a0.maps v3 hv3) k3 (cC k aJ)) k<|ae (iJ aO k k k k k k) k<|ae (ws k) k<|an<|pA (by kernel_rfl)<|tn<|aD<|sp h (bG k k k (pD (aH (k) (aH (k) (aH (cU bH k k) (aH (cU bH k k) (aH (cU bH k k) (aH (cU aW k k) fY))))))))
def qD (a0:Rp) (x1:((List Mt)×Int)):Option (((List Mt)×Int) ⊕ (List Mt)):=
 bif decide (x1.2<(a0.maps.length:Int)) then
 ((dF a0.maps x1.2).bind λv4=>
 (qO v4).bind λv5=>
 bif decide (x1.1.length+1≤4294967296) then
 (some (.inl ((x1.1++[v5]),wr (x1.2+1))))
 else none)
 else
 (some (.inr x1.1))
def lD (a0:Rp):Option Rp:=
 (uV a0.q).bind λv1=>
 bif decide (([]:(List Int)).length +a0.dims.length≤4294967296) then
 ((Lp (qD a0) (([]:(List Mt)),0)).bind λy7=>
 some ((⟨a0.p,v1,(([]:(List Int))++a0.dims),y7⟩:Rp)))
 else none
theorem uW (a0:Rp) (r:Rp) (h:lD a0=some r):HasC Tryz.prog 57 [.agg (eR a0)] (.agg (eR r)):=by
 refine hM [.cell 2 32] Tryz.func57 Tryz.ntmps57 k<|sR<|ae (wb k) k<|ae (cA aO k k) k<|an<|tn<|sQ<|aS fF<|fp k8<|lp k8<|fp k8<|lp k8<|oB h λv1 hv1 h=>ae (cQ (aGM a0.q v1 hv1) k3 (aI (dH k) aJ)) k<|ae (wl k) k<|fp k8<|lp k8<|cG h λq2 h=>ae (yV aO (l:=([]:(List Int))) (m:=a0.dims) pE q2 k k k k k k k k k k k k) k<|ae (wl k) k<|ae (iJ aO k k k k k k) k<|ae (cA aO k k) k<|ae (ws k) k<|an<|pA (by kernel_rfl)<|tn<|aR (t:=mN [(1,.ptr 0 0 0),(2,.ptr 1 0 0),(3,.ptr 7 0 0)] [(0,⟨6,[eR a0]⟩),(1,⟨6,[aOM]⟩),(2,⟨1,v1.src.map (ow eI)⟩),(3,⟨1,v1.tgt.map (ow eI)⟩),(5,⟨1,List.map (ow eI) (([]:(List Int))++a0.dims)⟩),(6,⟨3,List.map (ow eM) ([]:(List Mt))⟩),(7,⟨6,[[.int a0.p,.int v1.n,.own 2 0 v1.src.length,.own 3 0 v1.tgt.length,.own 5 0 ((([]:(List Int))++a0.dims).length),.own 6 0 (([]:(List Mt)).length)]]⟩)] 8) (bO (bL k2) (bT k<|bT k<|bD k<|bD k<|bD k<|cF (aW.plainO _) k<|hX ⟨_,k,k,.inr ⟨_,_,k,⟨_,_,k,k,⟨_,_,k,k,⟨_,_,k,⟨k,k,k,k⟩,⟨_,_,k,⟨k,k,k,k⟩,⟨_,_,k,⟨k,k,k,k⟩,⟨_,_,k,⟨k,k,(by simp only [aU,lA,lT,lR,lC,lN]),k⟩,k⟩⟩⟩⟩⟩⟩,k⟩⟩ k<|aV) k4)<|sQ<|sR<|aa k k ?_;refine an<|tn<|aG<|oB h λy7 hy7 h=>bY (body:=(qD a0)) hy7 (λ(x1:((List Mt)×Int))=>mN [(1,.ptr 0 0 0),(2,.ptr 1 0 0),(3,.ptr 2 0 0),(4,.int x1.2)] [(0,⟨6,[eR a0]⟩),(1,⟨6,[aOM]⟩),(2,⟨6,[[.int a0.p,.int v1.n,.own 3 0 v1.src.length,.own 4 0 v1.tgt.length,.own 5 0 ((([]:(List Int))++a0.dims).length),.own 6 0 x1.1.length]]⟩),(3,⟨1,v1.src.map (ow eI)⟩),(4,⟨1,v1.tgt.map (ow eI)⟩),(5,⟨1,List.map (ow eI) (([]:(List Int))++a0.dims)⟩),(6,⟨3,x1.1.map (ow eM)⟩)] 7) (λr e t=>e= .exit 0∧Ent t (mN [(2,.ptr 0 0 0),(3,.ptr 1 0 0)] [(0,⟨6,[aOM]⟩),(1,⟨6,[[.int a0.p,.int v1.n,.own 2 0 v1.src.length,.own 3 0 v1.tgt.length,.own 4 0 ((([]:(List Int))++a0.dims).length),.own 5 0 r.length]]⟩),(2,⟨1,v1.src.map (ow eI)⟩),(3,⟨1,v1.tgt.map (ow eI)⟩),(4,⟨1,List.map (ow eI) (([]:(List Int))++a0.dims)⟩),(5,⟨3,r.map (ow eM)⟩)] 6)) (xF [0,1,7,2,3,5,6] (bL k2) (bT k<|bT k<|fK k<|bD k<|bD k<|bD k<|cF (aW.plainO _) k<|aV) k4) ?_ ?_
 ·intro x1 o h;refine sQ<|sR<|am k k<|fp k8<|lp k8<|ln k4<|cm k4<|an<|tn<|cJ k h (λ_ h=>?_) λ_ h=>bB<|aC<|aC<|sp h ⟨_,k,k,(xF [1,2,3,4,5,6] (bL k2) (bT k<|fK k<|bD k<|bD k<|bD k<|cF (aW.plainO _) k<|aV) k4)⟩;exact aE<|tn<|sQ<|aG<|aS fF<|fp k8<|lp k8<|fp k8<|lp k8<|am k k<|oB h λv4 hv4 h=>ae (xl hv4 k) k<|lr k7<|oB h λv5 hv5 h=>ae (cM (aBZ v4 v5 hv5) k3 (aI (dH k) aJ)) k<|ae (wl k) k<|cG h λq6 h=>ae (vP aO (l:=x1.1) (c:=[.int v5.rows,.int v5.cols,.own 7 0 v5.cells.length]) q6 k k k k k k k k k k k k k k) k<|fp k8<|ae (ws k) k<|an<|pA (by kernel_rfl)<|bC<|tn<|aR (t:=mN [(1,.ptr 0 0 0),(2,.ptr 1 0 0),(3,.ptr 2 0 0),(4,.int x1.2)] [(0,⟨6,[eR a0]⟩),(1,⟨6,[aOM]⟩),(2,⟨6,[[.int a0.p,.int v1.n,.own 3 0 v1.src.length,.own 4 0 v1.tgt.length,.own 5 0 ((([]:(List Int))++a0.dims).length),.own 9 0 ((x1.1++[v5]).length)]]⟩),(3,⟨1,v1.src.map (ow eI)⟩),(4,⟨1,v1.tgt.map (ow eI)⟩),(5,⟨1,List.map (ow eI) (([]:(List Int))++a0.dims)⟩),(9,⟨3,List.map (ow eM) (x1.1++[v5])⟩)] 10) (Ent.trans (nN (b:=9) (b':=7) (j:=2) (es':=v5.cells.map eI) k k k k (aU _ _) (bH.frzs _)) (bO (bL k2) (bT k<|bT k<|hX ⟨_,k,k,.inr ⟨_,_,k,⟨_,_,k,k,⟨_,_,k,k,⟨_,_,k,⟨k,k,k,k⟩,⟨_,_,k,⟨k,k,k,k⟩,⟨_,_,k,⟨k,k,k,k⟩,⟨_,_,k,⟨k,k,(by simp only [aU,lA,lT,lR,lC,lN]),k⟩,k⟩⟩⟩⟩⟩⟩,k⟩⟩ k<|bD k<|bD k<|bD k<|hX ⟨_,k,k,.inl ⟨vQ v5 k,aW.plainO _⟩⟩ k<|aV) k4))<|rg<|am k k<|ae (bF k k) k<|aT k2<|sp h ⟨_,k,(xF [0,1,2,3,4,5,9] (bL k2) (bT k<|bT k<|fK k<|bD k<|bD k<|bD k<|cF (aW.plainO _) k<|aV) k4)⟩
 ·rintro e t ⟨rfl,hent⟩;exact aP<|tn<|aR hent<|sR<|lp k8<|ae (ws k) k<|an<|tn<|aD<|sp h (bG k k k (pD (aH (k) (aH (k) (aH (cU bH k k) (aH (cU bH k k) (aH (cU bH k k) (aH (cU aW k k) fY))))))))
def aDA (a0:Br) (a1:Br):Option Bool:=
 bif !decide (a0.first=a1.first) then
 (some (false))
 else
 (bif !decide (a0.last=a1.last) then
 (some (false))
 else
 (bif !decide (a0.count=a1.count) then
 (some (false))
 else
 (some (true))))
theorem aHz (a0:Br) (a1:Br) (r:Bool) (h:aDA a0 a1=some r):HasC Tryz.prog 125 [.agg (eB a0),.agg (eB a1)] (.bl r):=by
 exact hM [.tmp 4] Tryz.func125 Tryz.ntmps125 k<|sR<|ae (wb k) k<|ae (wb k) k<|aT k2<|sQ<|sR<|fp k8<|lp k8<|fp k8<|lp k8<|cm k4<|an<|tn<|cJ k h (λ_ h=>sR<|aT k2<|aD<|aB<|dY h k2) λ_ h=>aE<|tn<|sQ<|sR<|fp k8<|lp k8<|fp k8<|lp k8<|cm k4<|an<|tn<|cJ k h (λ_ h=>sR<|aT k2<|aD<|aB<|dY h k2) λ_ h=>aE<|tn<|sQ<|sR<|fp k8<|lp k8<|fp k8<|lp k8<|cm k4<|an<|tn<|cJ k h (λ_ h=>sR<|aT k2<|aD<|aB<|dY h k2) λ_ h=>aE<|tn<|sR<|aT k2<|aD<|dY h k2
def uK (a0:(List Br)) (a1:(List Br)) (x1:Int):Option (Int ⊕ (Unit ⊕ Bool)):=
 bif decide (x1<(a0.length:Int)) then
 ((dF a0 x1).bind λv3=>
 (dF a1 x1).bind λv4=>
 (aDA v3 v4).bind λv5=>
 bif !v5 then
 (some (.inr (.inr (false))))
 else
 (some (.inl (wr (x1+1)))))
 else
 (some (.inr (.inl ())))
def uX (a0:(List Br)) (a1:(List Br)):Option Bool:=
 bif !decide ((a0.length:Int)=(a1.length:Int)) then
 (some (false))
 else
 ((Lp (uK a0 a1) 0).bind λy7=>
 Sum.elim (λy8=>
 some (true)
 )
 (λy9=>
 some y9
 )
 y7)
theorem aGO (a0:(List Br)) (a1:(List Br)) (r:Bool) (h:uX a0 a1=some r):HasC Tryz.prog 67 [.list 3 (a0.map eB),.list 3 (a1.map eB)] (.bl r):=by
 refine hM [.tmp 4] Tryz.func67 Tryz.ntmps67 k<|sR<|aT k2<|sQ<|sR<|am k k<|ln k4<|am k k<|ln k4<|cm k4<|an<|tn<|cJ k h (λ_ h=>sR<|aT k2<|aD<|aB<|dY h k2) λ_ h=>?_;refine aE<|tn<|sQ<|sR<|aT k2<|aG<|oB h λy7 hy7 h=>bY (body:=(uK a0 a1)) hy7 (λ(x1:Int)=>mN [(0,.list 3 (a0.map eB)),(1,.list 3 (a1.map eB)),(5,.int x1)] [] 0) (λr e t=>Sum.elim (λa=>(λr e t=>e= .exit 0∧Ent t (mN [] [] 0)) a e t) (λb=>(λr e t=>e= .ret∧nL TT [.tmp 4] (.bl r) .ret t) b e t) r) (bO (bL k2) aV k4) ?_ ?_
 ·intro x1 o h;exact sQ<|sR<|am k k<|am k k<|ln k4<|cm k4<|an<|tn<|cJ k h (λ_ h=>aE<|tn<|sQ<|aG<|sQ<|aS fF<|am k k<|am k k<|oB h λv3 hv3 h=>ae (xl hv3 k) k<|lr k7<|am k k<|am k k<|oB h λv4 hv4 h=>ae (xl hv4 k) k<|lr k7<|oB h λv5 hv5 h=>ae (aL (aHz v3 v4 v5 hv5) k (aI (dH k) (aI (dH k) aJ))) k<|ae (dE k) k<|an<|pA (by kernel_rfl)<|tn<|cJ k h (λ_ h=>sR<|aT k2<|aD<|bA<|aB<|aB<|sp h ⟨_,k,k,bG k k k (nM k)⟩) λ_ h=>aE<|bC<|tn<|rg<|am k k<|ae (bF k k) k<|aT k2<|sp h ⟨_,k,(bO (bL k2) aV k4)⟩) λ_ h=>bB<|aC<|aC<|sp h ⟨_,k,k,(bO aV aV k4)⟩
 ·intro e t hX;rcases y7 with y8|y9
  ·obtain ⟨rfl,hent⟩:=hX;exact aP<|tn<|aR hent<|sR<|aT k2<|aD<|dY h k2
  ·obtain ⟨rfl,hent⟩:=hX;exact bA<|aB<|sp h hent
def mJ (a0:Cl) (a1:Cl):Option Bool:=
 bif !decide (a0.kind=a1.kind) then
 (some (false))
 else
 ((kK a0.rep a1.rep).bind λv2=>
 bif !v2 then
 (some (false))
 else
 ((kK a0.other a1.other).bind λv4=>
 bif !v4 then
 (some (false))
 else
 ((uS a0.parts a1.parts).bind λv6=>
 bif !v6 then
 (some (false))
 else
 ((mH a0.maps a1.maps).bind λv8=>
 bif !v8 then
 (some (false))
 else
 ((uX a0.bars a1.bars).bind λv10=>
 bif !v10 then
 (some (false))
 else
 ((iW a0.theta a1.theta).bind λv12=>
 bif !v12 then
 (some (false))
 else
 ((rL a0.subs a1.subs).bind λv14=>
 bif !v14 then
 (some (false))
 else
 (some (true)))))))))
theorem xD (a0:Cl) (a1:Cl) (r:Bool) (h:mJ a0 a1=some r):HasC Tryz.prog 17 [.agg (eC a0),.agg (eC a1)] (.bl r):=by
 refine hM [.tmp 4] Tryz.func17 Tryz.ntmps17 k<|sR<|ae (wb k) k<|ae (wb k) k<|aT k2<|sQ<|sR<|fp k8<|lp k8<|fp k8<|lp k8<|cm k4<|an<|tn<|cJ k h (λ_ h=>sR<|aT k2<|aD<|aB<|dY h k2) λ_ h=>?_;refine aE<|tn<|sQ<|sR<|fp k8<|lp k8<|fp k8<|lp k8<|oB h λv2 hv2 h=>ae (aL (tH a0.rep a1.rep v2 hv2) k (aI (dH k) (aI (dH k) aJ))) k<|ae (dE k) k<|an<|tn<|cJ k h (λ_ h=>sR<|aT k2<|aD<|aB<|dY h k2) λ_ h=>?_;refine aE<|tn<|sQ<|sR<|fp k8<|lp k8<|fp k8<|lp k8<|oB h λv4 hv4 h=>ae (aL (tH a0.other a1.other v4 hv4) k (aI (dH k) (aI (dH k) aJ))) k<|ae (dE k) k<|an<|tn<|cJ k h (λ_ h=>sR<|aT k2<|aD<|aB<|dY h k2) λ_ h=>?_;exact aE<|tn<|sQ<|sR<|fp k8<|lp k8<|fp k8<|lp k8<|oB h λv6 hv6 h=>ae (aL (aGK a0.parts a1.parts v6 hv6) k (cC k (cC k aJ))) k<|ae (dE k) k<|an<|tn<|aR (t:=mN [(2,.ptr 0 0 0),(3,.ptr 1 0 0),(27,.bl (!v6))] [(0,⟨18,[eC a0]⟩),(1,⟨18,[eC a1]⟩)] 2) (bO (bL k2) (bT k<|bT k<|aV) k4)<|cJ k h (λ_ h=>sR<|aT k2<|aD<|aB<|dY h k2) λ_ h=>aE<|tn<|sQ<|sR<|fp k8<|lp k8<|fp k8<|lp k8<|oB h λv8 hv8 h=>ae (aL (zD a0.maps a1.maps v8 hv8) k (cC k (cC k aJ))) k<|ae (dE k) k<|an<|tn<|cJ k h (λ_ h=>sR<|aT k2<|aD<|aB<|dY h k2) λ_ h=>aE<|tn<|sQ<|sR<|fp k8<|lp k8<|fp k8<|lp k8<|oB h λv10 hv10 h=>ae (aL (aGO a0.bars a1.bars v10 hv10) k (cC k (cC k aJ))) k<|ae (dE k) k<|an<|tn<|cJ k h (λ_ h=>sR<|aT k2<|aD<|aB<|dY h k2) λ_ h=>aE<|tn<|sQ<|sR<|fp k8<|lp k8<|fp k8<|lp k8<|oB h λv12 hv12 h=>ae (aL (nT a0.theta a1.theta v12 hv12) k (cC k (cC k aJ))) k<|ae (dE k) k<|an<|tn<|cJ k h (λ_ h=>sR<|aT k2<|aD<|aB<|dY h k2) λ_ h=>aE<|tn<|sQ<|sR<|fp k8<|lp k8<|fp k8<|lp k8<|oB h λv14 hv14 h=>ae (aL (aES a0.subs a1.subs v14 hv14) k (cC k (cC k aJ))) k<|ae (dE k) k<|an<|tn<|aR (t:=mN [(51,.bl (!v14))] [] 2) (bO (bL k2) aV k4)<|cJ k h (λ_ h=>sR<|aT k2<|aD<|aB<|dY h k2) λ_ h=>aE<|tn<|sR<|aT k2<|aD<|dY h k2
end
noncomputable section
theorem xZ {r:Rp} (h:bR r):gY r=some r:=by
 obtain ⟨⟨h1,h2,_⟩,h3,⟨h4,h5⟩,_⟩:=h;unfold bI at h1 h2 h3
 have hc:lU r.maps=some r.maps:=by
  unfold lU;rw [dL (s:=(([]:List Mt),(0:Int))) (r:=r.maps) (λk=>(r.maps.take k,(k:Int))) r.maps.length rfl (λk hk=>?_) (λ_=>?_),aA]
  ·have:=(h5 _ (List.getElem_mem hk)).1;unfold bI at this;unfold iR;simp only;rw [jS hk,aN,cV hk,aA];unfold eX tB;rw [bK this,aN,aA,aA,bK (by simp;omega),aN,cB hk (by omega),aCB hk]
  ·unfold iR;simp only;rw [mM (bN _),aY,List.take_length]
 unfold gY qK tB;rw [bK h1,bK h2,bK h3,hc];rfl
theorem aDB {r:Rp} (h:bR r):lD r=some r:=by
 obtain ⟨hq,h3,⟨h4,h5⟩,_⟩:=h;unfold bI at h3;unfold lD;rw [aNV hq,aA,bK (by simp;omega),aN];rw [dL (s:=(([]:List Mt),(0:Int))) (r:=r.maps) (λk=>(r.maps.take k,(k:Int))) r.maps.length rfl (λk hk=>?_) (λ_=>?_),aA,List.nil_append]
 ·have:=(h5 _ (List.getElem_mem hk)).1;unfold bI at this;unfold qD;simp only;rw [jS hk,aN,cV hk,aA];unfold qO;rw [bK (by simp;omega),aN,aA,bK (by simp;omega),aN,cB hk (by omega),aCB hk,List.nil_append]
 ·unfold qD;simp only;rw [mM (bN _),aY,List.take_length]
structure Cl6 (c:Cl):Prop where
 rep:bR c.rep
 other:bR c.other
 parts:c.parts=[]
 maps:c.maps.length≤1048576∧ ∀ m∈c.maps,bM m
 bars:c.bars=[]
 theta:bI c.theta
 subs:c.subs.length≤1048576∧ ∀ s∈c.subs,bS s
theorem aNW:uS [] []=some true:=by
 unfold uS;rw [bK rfl,eO,aY,iK (r:= .inl ()) (by unfold uH;rfl)];rfl
theorem aNX:uX [] []=some true:=by
 unfold uX;rw [bK rfl,eO,aY,iK (r:= .inl ()) (by unfold uK;rfl)];rfl
theorem aLG:([]:List Mt).length ≤1048576∧ ∀ m∈([]:List Mt),bM m:=⟨by simp,by simp⟩
theorem aQI {c:Cl} (h:Cl6 c):mJ c c=some true:=by
 unfold mJ;simp only [h.parts,h.bars,decide_true,eO,aY,aOQ h.rep,aOQ h.other,aNW,aOo h.maps,aNX,aLo h.theta,aQB h.subs,aA]
theorem aNY (k:Int):rM [] k=some ([],k):=by
 unfold rM;rw [iK (r:=([],k)) (by unfold sC;rfl)];rfl
theorem aNZ (k:Int):rN [] k=some ([],k):=by
 unfold rN;rw [iK (r:=([],k)) (by unfold sD;rfl)];rfl
theorem aNa (k:Int):rO [] k=some k:=by
 unfold rO;rw [iK (r:= .inl k) (by unfold sF;rfl)];rfl
theorem aNb (k:Int):rP [] k=some k:=by
 unfold rP;rw [iK (r:= .inl k) (by unfold sG;rfl)];rfl
def kC (c:Cl):Int:=1+nR c.rep+nR c.other+nMs c.maps+nI c.theta+nSs c.subs
def mvC (c:Cl):Cl:=⟨c.kind,mvR 1 c.rep,mvR (1+nR c.rep) c.other,[],aHt (1+nR c.rep+nR c.other) c.maps,[],mvI (1+nR c.rep+nR c.other+nMs c.maps) c.theta,aJI (1+nR c.rep+nR c.other+nMs c.maps+nI c.theta) c.subs⟩
theorem aQJ {c:Cl} (h:Cl6 c):pZ c 1=some ((mvC c).rep.q.src,(mvC c).rep.q.tgt,(mvC c).rep.dims,(mvC c).rep.maps,(mvC c).other.q.src,(mvC c).other.q.tgt,(mvC c).other.dims,(mvC c).other.maps,[],(mvC c).maps,[],(mvC c).theta,(mvC c).subs,kC c):=by
 have b1:=aHE h.rep;have b2:=aHE h.other;have b3:=aNS h.subs;have b5:=aKJ h.maps;have l3:=h.maps.1;have b4:nI c.theta≤1048576:=by rw [yK];exact h.theta
 have l1:=h.rep.2.2.1.1;have l2:=h.other.2.2.1.1;obtain ⟨g1,g2,g3,g4⟩:=aBH 1 c.rep;obtain ⟨k1,k2,k3,k4⟩:=aBH (1+nR c.rep) c.other;unfold pZ;rw [aOX (by omega) (by omega) (by omega),aA];simp only [g1,g2,g3,g4,decide_true,aN];rw [aOX (by omega) (by omega) (by omega),aA];simp only [k1,k2,k3,k4,decide_true,aN];rw [h.parts,h.bars,aNY,aA];simp only [decide_true,aN];rw [aOr (by omega) (by omega) (by omega),aA];simp only [aCw,decide_true,aN];rw [aNZ,aA];simp only [decide_true,aN];rw [aMA (by omega) (by omega),aA];simp only [rQ,decide_true,aN];rw [aQE (by omega) (by omega) (aOt h.subs),aA];simp only [aJJ,decide_true,aN];rfl
theorem aQK {c:Cl} (h:Cl6 c):mI (mvC c) 1=some (kC c):=by
 have b1:=aHE h.rep;have b2:=aHE h.other;have b3:=aNS h.subs;have b5:=aKJ h.maps;have l3:=h.maps.1;have b4:nI c.theta≤1048576:=by rw [yK];exact h.theta
 have l1:=h.rep.2.2.1.1;have l2:=h.other.2.2.1.1;unfold mI mvC;simp only;rw [aQG (by omega) (by omega) (by omega),aA,cY (by omega),aY,aQG (by omega) (by omega) (by omega),aA,cY (by omega),aY,aNa,aA,cY (by omega),aY,aOs (by omega) (by omega) (by omega),aA,cY (by omega),aY,aNb,aA,cY (by omega),aY,aMB (by omega) (by omega),aA,cY (by omega),aY,aQF (by omega) (by omega) (aOt h.subs),aA,cY (by omega),aY];rfl
def noR:Rp:=⟨0,⟨0,[],[]⟩,[],[]⟩
theorem aOv:bR noR:=⟨⟨by simp [noR,bI],by simp [noR,bI],trivial⟩,by simp [noR,bI],⟨by simp [noR],by simp [noR]⟩,trivial⟩
end
noncomputable section
theorem aOY {L:List Nat} (hL:L.length≤1048576) (k:Nat):wD (gK L) k=some (L.contains k):=by
 unfold wD;rw [aPB (n:=L.length) (λi=>decide (L[i]?.getD 0=k)) true (by omega) (λi hi=>?_) (λ_=>?_),aA]
 ·have e:(List.range L.length).any (λi=>decide (L[i]?.getD 0=k))=L.contains k:=by
   rw [Bool.eq_iff_iff,List.any_eq_true,List.contains_iff_mem];constructor
   ·rintro ⟨i,hi,he⟩;have hi:=List.mem_range.1 hi;have he:=of_decide_eq_true he;rw [lF hi,lY] at he;subst he;exact List.getElem_mem hi
   ·intro h;obtain ⟨i,hi,rfl⟩:=List.mem_iff_getElem.1 h;exact ⟨i,List.mem_range.2 hi,by simp [hi]⟩
  rw [e];cases L.contains k <;> rfl
 ·unfold qT;rw [dV,jS hi,aN,uM 0 (by rw [dV];exact hi),aA]
  have e:decide ((gK L)[i]?.getD 0=(k:Int))=decide (L[i]?.getD 0=k):=by
   rw [Bool.eq_iff_iff,sI,sI];simp [gK,hi];omega
  rw [e];cases decide (L[i]?.getD 0=k) <;> rfl
 ·unfold qT;rw [dV,mM (bN _),aY]
theorem aFw {L:List Nat} {i:Nat} (h:i<L.length):dF (gK L) (i:Int)=some ((L[i]?.getD 0:Nat):Int):=by
 rw [cV (by rw [dV];exact h)];simp [gK,h]
theorem aHI {p:Int} {m:Nat} {F:Nat→Nat→Int} {t i:Nat} (h:i<(cP p m F t).2.length):(cP p m F t).2[i]?.getD 0<t:=aCT t _ (tI 0 h)
theorem aFx {p:Int} {m n:Nat} {F:Nat→Nat→Int} (T:Tb p m n F):rJ p ⟨m,n,bW m n F⟩=some (aDR p n (cP p m F n).1 (cP p m F n).2):=by
 have hn:=T.hn;have hN:=T.hN;have hin:=wW (by have:=eG T.hp;omega:0<p) T.hi n;have hlen:= @wN p m F n;have hlen2:= @aAC p m F n;have hget:= @aHI p m F n;unfold rJ;rw [aCo T,aA];generalize (cP p m F n).1=R at*;generalize (cP p m F n).2=L at*;rw [dL (r:=aDR p n R L) (λk=>((k:Int),((List.range k).filter λk=> !L.contains k).map λk=>aBO p n R L k L.length)) n (by simp) (λk hk=>?_) (λ_=>?_),aA]
 ·unfold mZ;simp only;have hfl:((List.range k).filter λk=> !L.contains k).length ≤k:=by have:=List.length_filter_le (λk=> !L.contains k) (List.range k);simpa using this
  rw [jS hk,aN,aOY (by omega),aA,List.range_succ,List.filter_append,List.map_append];cases hc:L.contains k with
  |true=>
   rw [aN,cB hk (by omega),show [k].filter (λk=> !L.contains k)=[] by simp only [List.filter_cons,List.filter_nil,hc,eO,fL,if_false],List.map_nil,List.append_nil]
  |false=>
   rw [aY,bK (by omega),bK (by omega:(n:Int)≤1048576),Bool.and_self,aN,dZ,dZ,cV (by simp;exact hk),aA];rw [dL (r:=aBO p n R L k L.length) (λi=>(aBO p n R L k i,(i:Int))) L.length (by rfl) (λi hi=>?_) (λ_=>?_),aA]
   ·rw [bK (by simp only [dB];omega),aN,cB hk (by omega),show [k].filter (λk=> !L.contains k)=[k] by simp only [List.filter_cons,List.filter_nil,hc,Bool.not_false,if_true]];rfl
   ·unfold mY;simp only;have b1:=hin i k (by omega) hk;have hp:=eG T.hp;have hv:=hget hi;rw [dV,jS hi,aN,aFw hi,aA,atT hN (by omega) hk,aA,dC (by omega),wI T.hp (by omega),aA,cV (by rw [yU];exact hv),aA,dZ,cB hi (by omega)];rfl
   ·unfold mY;simp only;rw [dV,mM (bN _),aY]
 ·unfold mZ;simp only;rw [mM (bN _),aY];rfl
theorem aJO {p:Int} (hp:tX p=true) {m n:Nat} {F:Nat→Nat→Int} (hi:InP p m n F):(aDR p n (cP p m F n).1 (cP p m F n).2).length=n - rkF p m n F:=by
 have h:=aJs hp hi n (bN _);have:=aNU h.inc (aCT n);unfold aDR rkF;rw [dB];omega
theorem Fit.lA {a b:Rp} (h:Fit a b) {v:Nat} (hv:v<a.dims.length):wr ((dN a v:Int)*(dN b v:Int))=((Proofs.YtghechfdejhapaaGreat.lV a b v:Nat):Int):=by
 have:=h.lV hv;unfold Proofs.YtghechfdejhapaaGreat.lV at*;rw [Nat.mul_comm] at this ⊢;exact aFN (by omega)
theorem aLI {a b:Rp} (h:Fit a b) {v:Nat} (hv:v≤a.dims.length):tL a b v=some ((off (lV a b) v:Nat):Int):=by
 have n5:=h.ra.n5;unfold tL;rw [dL (r:=((off (lV a b) v:Nat):Int)) (λk=>(((off (lV a b) k:Nat):Int),(k:Int))) v (by rfl) (λk hk=>?_) (λ_=>?_),aA]
 ·have hka:k<a.dims.length:=by omega
  have hkb:k<b.dims.length:=by rw [h.ne];exact hka
  have ho:=h.offV (v:=k+1) (by omega);have e:off (lV a b) (k+1)=off (lV a b) k+lV a b k:=rfl;unfold rK;simp only;rw [jS hk,aN,uM 0 hka,aA,uM 0 hkb,aA,(h.ra.d k hka).1,(h.rb.d k hkb).1,h.lA hka,cB hk (by omega),dC (by omega),e];simp
 ·unfold rK;simp only;rw [mM (bN _),aY]
theorem aHJ {a b:Rp} (h:Fit a b):pJ a b=some (nV a b:Int):=by
 have n5:=h.ra.n5;unfold pJ;rw [dL (r:=(nV a b:Int)) (λk=>(((off (lV a b) k:Nat):Int),(k:Int))) a.dims.length (by rfl) (λk hk=>?_) (λ_=>?_),aA]
 ·have hkb:k<b.dims.length:=by rw [h.ne];exact hk
  have ho:=h.offV (v:=k+1) (by omega);have e:off (lV a b) (k+1)=off (lV a b) k+lV a b k:=rfl;unfold oH;simp only;rw [jS hk,aN,uM 0 hk,aA,uM 0 hkb,aA,(h.ra.d k hk).1,(h.rb.d k hkb).1,h.lA hk,cB hk (by omega),dC (by omega),e];simp
 ·unfold oH;simp only;rw [mM (bN _),aY];rfl
def aAr (a b:Rp) (i r k j:Nat):Nat→Nat→Int:=λv z=>if v=sV a i∧z % dN a v=k∧z / dN a v<j then aF b i r (z / dN a v) else 0
def aJP (a b:Rp) (i r k j:Nat):Nat→Nat→Int:=λv z=>if v=tV a i∧z / dN a v=r∧z % dN a v<j then (aAr a b i r k (dN b (sV a i)) v z - aF a i (z % dN a v) k) % a.p else aAr a b i r k (dN b (sV a i)) v z
theorem aMD (r c:Nat) (F:Nat→Nat→Int):bW r c F++hJ c (F r)=bW (r+1) c F:=by
 rw [←aFo c F r,←aFo c F (r+1),List.range_succ,List.map_append,List.flatten_append];simp
theorem aOZ {a b:Rp} (h:Fit a b) {i r k:Nat} (hi:i<a.q.src.length) (hr:r<dN b (tV a i)) (hk:k<dN a (sV a i)) (x1 x2 x3:Int×List Int×Int) (e1:x1.2.2=i) (e2':x2.2.2=r) (e3:x3.2.2=k):
  ∃ y,Lp (gE a b (sV a i) x1 x2 x3) (List.replicate (nV a b) 0,0)=some y∧Lp (gF a b (sV a i) (tV a i) x1 x2 x3) (y,0)=some (cat (lV a b) (e2 a b i (r*dN a (sV a i)+k)) a.dims.length):=by
 have hb:=eG h.ra.hp;have n5:=h.ra.n5;obtain ⟨s1,s2⟩:=h.ra.s i hi;obtain ⟨t1,t2⟩:=h.ra.t i hi;have s3:sV a i<b.dims.length:=by rw [h.ne];exact s2
 have t3:tV a i<b.dims.length:=by rw [h.ne];exact t2
 have hib:i<b.q.src.length:=by rw [h.qe];exact hi
 obtain ⟨m1,m2⟩:=h.ra.m i hi;obtain ⟨g1,g2⟩:=h.rb.m i hib;rw [h.sV,h.tV] at g1 g2;rw [h.pe] at g2;have da:=h.ra.d _ s2;have da2:=h.ra.d _ t2;have db:=h.rb.d _ s3;have db2:=h.rb.d _ t3;have oS:=h.offV (v:=sV a i+1) s2;have oT:=h.offV (v:=tV a i+1) t2;have eS:off (lV a b) (sV a i+1)=off (lV a b) (sV a i)+lV a b (sV a i):=rfl;have eT:off (lV a b) (tV a i+1)=off (lV a b) (tV a i)+lV a b (tV a i):=rfl;refine ⟨cat (lV a b) (aAr a b i r k (dN b (sV a i))) a.dims.length,?_,?_⟩
 ·refine dL (λj=>(cat (lV a b) (aAr a b i r k j) a.dims.length,(j:Int))) (dN b (sV a i)) ?_ (λj hj=>?_) (λ_=>?_)
  ·unfold nV;rw [aJK];congr 1;exact zG λv z _ _=>by unfold aAr;rw [aZ λq=>absurd q.2.2 (Nat.not_lt_zero _)]
  ·have hz:j*dN a (sV a i)+k<lV a b (sV a i):=xQ hj hk
   have hpos:wr (wr (((off (lV a b) (sV a i):Nat):Int)+wr ((j:Int)*(dN a (sV a i):Int)))+(k:Int))=((off (lV a b) (sV a i)+(j*dN a (sV a i)+k):Nat):Int):=by
    rw [aFN (by omega),dC (x:=((off (lV a b) (sV a i):Nat):Int)+((j*dN a (sV a i):Nat):Int)) (by omega),dC (by omega)];omega
   have hw:=g2 r j hr hj;unfold gE;simp only [e1,e2',e3];rw [uM 0 s3,aA,db.1,jS hj,aN,aLI h (by omega),aA,uM 0 s2,aA,da.1,hpos,cV (by rw [gG];exact jU s2 hz)];rw [aA,uM ⟨0,0,[]⟩ (by rw [h.rb.ml];exact hib),aA,aA,g1];simp only;rw [atT (sq db2.2 db.2) hr hj,aA]
   have hv0:(cat (lV a b) (aAr a b i r k j) a.dims.length)[off (lV a b) (sV a i)+(j*dN a (sV a i)+k)]'(by rw [gG];exact jU s2 hz)=0:=by
    have:=nD (aAr a b i r k j) s2 hz;rw [lF (by rw [gG];exact jU s2 hz)] at this;rw [Option.some.inj this];unfold aAr;rw [aZ];rw [yE hk];omega
   rw [hv0,Int.zero_add,dC (by omega),wI h.ra.hp (by omega),aA,aA,dZ,aHu s2 hz,cB hj (by omega),Int.emod_eq_of_lt hw.1 hw.2];congr 3;refine zG λv z hv hz2=>?_;by_cases e:v=sV a i∧z=j*dN a (sV a i)+k
   ·obtain ⟨rfl,rfl⟩:=e;rw [aX ⟨rfl,rfl⟩];unfold aAr;rw [yE hk,yF hk,aX ⟨rfl,rfl,Nat.lt_succ_self _⟩]
   ·rw [aZ e];unfold aAr;by_cases e4:v=sV a i∧z % dN a v=k∧z / dN a v<j
    ·rw [aX e4,aX ⟨e4.1,e4.2.1,by omega⟩]
    ·rw [aZ e4,aZ];rintro ⟨q1,q2,q3⟩
     have q4:z / dN a v=j:=by
      rcases eJ (z / dN a v) j with h'|h'
      ·exact absurd ⟨q1,q2,h'⟩ e4
      ·omega
     refine e ⟨q1,?_⟩;rw [←@vJ (dN a v) z,q4,q2,q1]
  ·unfold gE;simp only [e1,e2',e3];rw [uM 0 s3,aA,db.1,mM (bN _),aY]
 ·refine dL (λj=>(cat (lV a b) (aJP a b i r k j) a.dims.length,(j:Int))) (dN a (tV a i)) ?_ (λj hj=>?_) (λ_=>?_)
  ·congr 1;exact zG λv z _ _=>by unfold aJP;rw [aZ λq=>absurd q.2.2 (Nat.not_lt_zero _)]
  ·have hz:r*dN a (tV a i)+j<lV a b (tV a i):=xQ hr hj
   have hpos:wr (wr (((off (lV a b) (tV a i):Nat):Int)+wr ((r:Int)*(dN a (tV a i):Int)))+(j:Int))=((off (lV a b) (tV a i)+(r*dN a (tV a i)+j):Nat):Int):=by
    rw [aFN (by omega),dC (x:=((off (lV a b) (tV a i):Nat):Int)+((r*dN a (tV a i):Nat):Int)) (by omega),dC (by omega)];omega
   have hw:=m2 j k hj hk;unfold gF;simp only [e1,e2',e3];rw [uM 0 t2,aA,da2.1,jS hj,aN,aLI h (by omega),aA,aA,hpos,cV (by rw [gG];exact jU t2 hz)];rw [aA,uM ⟨0,0,[]⟩ (by rw [h.ra.ml];exact hi),aA,uM 0 s2,aA,m1,da.1];simp only;rw [atT (sq da2.2 da.2) hj hk,aA]
   have hv0:(cat (lV a b) (aJP a b i r k j) a.dims.length)[off (lV a b) (tV a i)+(r*dN a (tV a i)+j)]'(by rw [gG];exact jU t2 hz)=aAr a b i r k (dN b (sV a i)) (tV a i) (r*dN a (tV a i)+j):=by
    have:=nD (aJP a b i r k j) t2 hz;rw [lF (by rw [gG];exact jU t2 hz)] at this;rw [Option.some.inj this];unfold aJP;rw [aZ];rw [yF hj];omega
   have hbA:0≤aAr a b i r k (dN b (sV a i)) (tV a i) (r*dN a (tV a i)+j)∧aAr a b i r k (dN b (sV a i)) (tV a i) (r*dN a (tV a i)+j)≤5:=by
    unfold aAr;split
    ·rename_i q;have:=g2 r ((r*dN a (tV a i)+j) / dN a (tV a i)) hr q.2.2;omega
    ·omega
   rw [hv0];generalize hA:aAr a b i r k (dN b (sV a i)) (tV a i) (r*dN a (tV a i)+j)=A at*;rw [dC (x:=A - aF a i j k) (by omega),wI h.ra.hp (by omega),aA,aA,dZ,aHu t2 hz,cB hj (by omega)];congr 3;refine zG λv z hv hz2=>?_;by_cases e:v=tV a i∧z=r*dN a (tV a i)+j
   ·obtain ⟨rfl,rfl⟩:=e;rw [aX ⟨rfl,rfl⟩];unfold aJP;rw [yE hj,yF hj,aX ⟨rfl,rfl,Nat.lt_succ_self _⟩,hA]
   ·rw [aZ e];unfold aJP;by_cases e4:v=tV a i∧z / dN a v=r∧z % dN a v<j
    ·rw [aX e4,aX ⟨e4.1,e4.2.1,by omega⟩]
    ·rw [aZ e4,aZ];rintro ⟨q1,q2,q3⟩
     have q4:z % dN a v=j:=by
      rcases eJ (z % dN a v) j with h'|h'
      ·exact absurd ⟨q1,q2,h'⟩ e4
      ·omega
     refine e ⟨q1,?_⟩;rw [←@vJ (dN a v) z,q4,q2,q1]
  ·unfold gF;simp only [e1,e2',e3];rw [uM 0 t2,aA,da2.1,mM (bN _),aY];congr 2;refine zG λv z hv hz2=>?_;have hzb:z<dN b v*dN a v:=hz2;obtain ⟨q1,q2⟩:=aBv hzb
   have eA:aAr a b i r k (dN b (sV a i)) v z=if sV a i=v∧k=z % dN a v then aF b i r (z / dN a v) else 0:=by
    unfold aAr;by_cases e:sV a i=v∧k=z % dN a v
    ·rw [aX e,aX ⟨e.1.symm,e.2.symm,by rw [e.1];exact q1⟩]
    ·rw [aZ e,aZ λq=>e ⟨q.1.symm,q.2.1.symm⟩]
   unfold aJP e2 eF;rw [eA,yE hk,yF hk];by_cases e:tV a i=v∧r=z / dN a v
   ·rw [aX ⟨e.1.symm,e.2.symm,by rw [e.1];exact q2⟩,aX e]
   ·rw [aZ λq=>e ⟨q.1.symm,q.2.1.symm⟩,aZ e,Int.sub_zero];split
    ·rename_i q;have hw:=g2 r (z / dN a v) hr (by rw [q.1];exact q1);exact (Int.emod_eq_of_lt hw.1 hw.2).symm
    ·simp
theorem aPW {a b:Rp} {i y:Nat} (hi:i<a.q.src.length) (hy:y<lE a b i):cat (lV a b) (e2 a b i y) a.dims.length=hJ (nV a b) (mE a b (off (lE a b) i+y)):=by
 symm;refine aAN (by rw [eV];rfl) λv z hv hz=>?_;have hk:off (lV a b) v+z<nV a b:=jU hv hz;unfold hJ;rw [List.getElem?_map,List.getElem?_range hk,Option.map_some];congr 1;unfold mE;rw [nD _ hi hy,lY,nD _ hv hz,lY]
theorem aAs {a b:Rp} (h:Fit a b):lO a b=some ⟨nE a b,nV a b,bW (nE a b) (nV a b) (mE a b)⟩:=by
 have n5:=h.ra.n5;have e6:=h.ra.e6;have bV:=h.offV (bN _);have bE:=h.offE (bN _);have tl:=h.ra.tl;have ml:=h.ra.ml;have hV:nV a b≤80:=bV;unfold lO;rw [aHJ h,aA];rw [dL (r:=((nE a b:Int),bW (nE a b) (nV a b) (mE a b))) (λi=>(((off (lE a b) i:Nat):Int),bW (off (lE a b) i) (nV a b) (mE a b),(i:Int))) a.q.src.length (by simp [off,bW]) (λi hi=>?_) (λ_=>?_),aA]
 ·obtain ⟨s1,s2⟩:=h.ra.s i hi;obtain ⟨t1,t2⟩:=h.ra.t i hi;have t3:tV a i<b.dims.length:=by rw [h.ne];exact t2
  have da:=h.ra.d _ s2;have db2:=h.rb.d _ t3;have oE:=h.offE (i:=i+1) hi;have eE:off (lE a b) (i+1)=off (lE a b) i+dN b (tV a i)*dN a (sV a i):=rfl;unfold iQ;simp only;rw [ml,jS hi,aN,uM 0 hi,aA,s1,uM 0 (by omega),aA,t1];rw [dL (r:=(((off (lE a b) (i+1):Nat):Int),bW (off (lE a b) (i+1)) (nV a b) (mE a b))) (λr=>(((off (lE a b) i+r*dN a (sV a i):Nat):Int),bW (off (lE a b) i+r*dN a (sV a i)) (nV a b) (mE a b),(r:Int))) (dN b (tV a i)) (by simp) (λr hr=>?_) (λ_=>?_),aA,cB hi (by omega)]
  ·unfold iP;simp only;rw [uM 0 t3,aA,db2.1,jS hr,aN];rw [dL (r:=(((off (lE a b) i+(r+1)*dN a (sV a i):Nat):Int),bW (off (lE a b) i+(r+1)*dN a (sV a i)) (nV a b) (mE a b))) (λk=>(((off (lE a b) i+r*dN a (sV a i)+k:Nat):Int),bW (off (lE a b) i+r*dN a (sV a i)+k) (nV a b) (mE a b),(k:Int))) (dN a (sV a i)) (by simp) (λk hk=>?_) (λ_=>?_),aA,cB hr (by omega)]
   ·unfold iO;simp only;have hy:r*dN a (sV a i)+k<lE a b i:=xQ hr hk;have hx:off (lE a b) i+(r*dN a (sV a i)+k)<nE a b:=jU hi hy;have hx2:nE a b≤96:=bE;have hsz:(off (lE a b) i+r*dN a (sV a i)+k)*nV a b≤96*80:=Nat.mul_le_mul (by omega) hV;rw [uM 0 s2,aA,da.1,jS hk,aN,bK (by omega),bK (by omega:(nV a b:Int)≤1048576),Bool.and_self,aN,dZ];obtain ⟨y,y1,y2⟩:=aOZ h hi hr hk (((off (lE a b) i:Nat):Int),bW (off (lE a b) i) (nV a b) (mE a b),(i:Int)) (((off (lE a b) i+r*dN a (sV a i):Nat):Int),bW (off (lE a b) i+r*dN a (sV a i)) (nV a b) (mE a b),(r:Int)) (((off (lE a b) i+r*dN a (sV a i)+k:Nat):Int),bW (off (lE a b) i+r*dN a (sV a i)+k) (nV a b) (mE a b),(k:Int)) rfl rfl rfl;rw [y1,aA,y2,aA,aPW hi hy,eD,eV,bK (by omega),aN,cB hk (by omega),dC (by omega),←Nat.add_assoc,aMD];congr 2
   ·unfold iO;simp only;rw [uM 0 s2,aA,da.1,mM (bN _),aY,Nat.succ_mul,Nat.add_assoc]
  ·unfold iP;simp only;rw [uM 0 t3,aA,db2.1,mM (bN _),aY,eE]
 ·unfold iQ;simp only;rw [ml,mM (bN _),aY];rfl
theorem aKN {a b:Rp} (h:Fit a b) {x:List Int} (hx:x.length=nV a b): ∃ r,iE a b x=some r:=by
 have n5:=h.ra.n5;have bV:=h.offV (bN _);have hV:nV a b≤80:=bV;refine ⟨(List.range a.dims.length).map λv=>(⟨dN b v,dN a v,(x.drop (off (lV a b) v)).take (lV a b v)⟩:Mt),?_⟩;unfold iE;rw [dL (r:=(List.range a.dims.length).map λv=>(⟨dN b v,dN a v,(x.drop (off (lV a b) v)).take (lV a b v)⟩:Mt)) (λk=>((List.range k).map (λv=>(⟨dN b v,dN a v,(x.drop (off (lV a b) v)).take (lV a b v)⟩:Mt)),((off (lV a b) k:Nat):Int),(k:Int))) a.dims.length (by simp [off]) (λk hk=>?_) (λ_=>?_),aA]
 ·have hkb:k<b.dims.length:=by rw [h.ne];exact hk
  have ho:= @aAM (lV a b) (k+1) a.dims.length hk;have e:off (lV a b) (k+1)=off (lV a b) k+lV a b k:=rfl;unfold gV;simp only
  rw [jS hk,aN,uM 0 hk,aA,uM 0 hkb,aA,aA,aA,(h.ra.d k hk).1,(h.rb.d k hkb).1,h.lA hk,dC (x:=((off (lV a b) k:Nat):Int)+((lV a b k:Nat):Int)) (by omega),hx,
   bK (by omega),bK (by omega:((off (lV a b) k:Nat):Int)≤((off (lV a b) k:Nat):Int)+((lV a b k:Nat):Int)),bK (by unfold nV;omega:((off (lV a b) k:Nat):Int)+((lV a b k:Nat):Int)≤((nV a b:Nat):Int)),Bool.and_self,Bool.and_self,aN,
   show (((off (lV a b) k:Nat):Int)+((lV a b k:Nat):Int)).toNat - ((off (lV a b) k:Nat):Int).toNat=lV a b k by omega,dZ]
  have q2:decide (((List.range k).map λv=>(⟨dN b v,dN a v,(x.drop (off (lV a b) v)).take (lV a b v)⟩:Mt)).length +1≤4294967296)=true:=bK (by simp only [dB,List.length_range];omega);have q1:decide (([]:List Int).length +((x.drop (off (lV a b) k)).take (lV a b k)).length ≤4294967296)=true:=bK (by simp only [List.length_nil,List.length_take,List.length_drop];omega);rw [q1,aN,q2,aN,List.nil_append,cB hk (by omega),tQ (f:=λv=>(⟨dN b v,dN a v,(x.drop (off (lV a b) v)).take (lV a b v)⟩:Mt)),e];simp
 ·unfold gV;simp only;rw [mM (bN _),aY]
end
noncomputable section
def pB (a b:Rp):Bool:=aAn a&&(aAn b&&(decide (a.p=b.p)&&decide (a.q=b.q)))
theorem jF {a b:Rp} (h:pB a b=true):Fit a b:=by
 unfold pB at h;simp only [dA,sI] at h;exact aPT h.1 h.2.1 h.2.2.1 h.2.2.2
def hdI (a b:Rp):Int:=if pB a b=true then (dR a b:Int) else -1
theorem aKO {a b:Rp} (ha:bR a) (hb:bR b): ∃ l,iF a b=some (l,pB a b)∧(pB a b=true→l.length=dR a b):=by
 unfold iF;rw [aCl ha hb,aA];cases hf:aAn a&&(aAn b&&(decide (a.p=b.p)&&decide (a.q=b.q))) with
 |false=>
  refine ⟨[],?_,λh=>by unfold pB at h;rw [hf] at h;cases h⟩;unfold pB;rw [hf];rfl
 |true=>
  have h:=jF hf;have bV:=h.offV (bN _);have hV:nV a b≤80:=bV;have hl:=aJO h.ra.hp (aHF h)
  have hkl: ∀ v∈aDR a.p (nV a b) (cP a.p (nE a b) (mE a b) (nV a b)).1 (cP a.p (nE a b) (mE a b) (nV a b)).2,v.length=nV a b:=by
   intro v hv;unfold aDR at hv;obtain ⟨k,_,rfl⟩:=List.mem_map.1 hv;exact yU _ _ _ _ _ _
  rw [eO,aY,aAs h,aA,aFx (aLF h),aA];generalize aDR a.p (nV a b) (cP a.p (nE a b) (mE a b) (nV a b)).1 (cP a.p (nE a b) (mE a b) (nV a b)).2=K at*;have key:=aHb (body:=fJ a b K) (s:=(([]:List (List Mt)),0)) (λs=>s.2=(s.1.length:Int)∧s.1.length≤K.length) (λs=>K.length - s.1.length) (λr=>r.length=K.length) ⟨rfl,Nat.zero_le _⟩ (λs ⟨h1,h2⟩=>?_)
  ·obtain ⟨r,h1,h2⟩:=key;rw [h1,aA];exact ⟨r,by unfold pB;rw [hf],λ_=>by rw [h2,hl];rfl⟩
  ·obtain ⟨l,j⟩:=s;simp only at h1 h2;subst h1;unfold fJ;simp only;rcases eJ l.length K.length with hlt|hge
   ·obtain ⟨r,hr⟩:=aKN h (hkl _ (List.getElem_mem hlt));rw [jS hlt,aN,cV hlt,aA,hr,aA,bK (by omega),aN,cB hlt (by omega)];exact .inl ⟨_,rfl,⟨by simp,by simp;omega⟩,by simp;omega⟩
   ·rw [mM hge,aY];exact .inr ⟨_,rfl,by omega⟩
theorem zH {a b:Rp} (ha:bR a) (hb:bR b):iX a b=some (hdI a b):=by
 obtain ⟨l,h1,h2⟩:=aKO ha hb;unfold iX hdI;rw [h1,aA];cases hf:pB a b with
 |false=>rfl
 |true=>rw [aX rfl,←h2 hf];rfl
theorem aBJ {a b:Rp} (h:Fit a b):dR a b≤80:=by
 have bV:=h.offV (bN _);unfold dR nV;omega
theorem aNc {α β:Type} {f:α→β} {l:List α} {k:Nat} (hk:k<l.length):(l.take k).map f++[f l[k]]=(l.take (k+1)).map f:=by rw [aCB hk,List.map_append];rfl
end
noncomputable section
theorem aKP {L:List Nat} (hL:L.length≤1048576) (k:Nat):gB (gK L) (k:Int)=some (L.contains k):=by
 have hl:=dV L;unfold gB mD;rw [uC (s0:=0) (s:=0) (n:=L.length) (λi=>bif decide ((k:Int)=(gK L)[i]?.getD 0) then some (i:Int) else none) rfl (by omega) (Nat.zero_le _) (λi _ hi=>?_) (λ_=>?_)]
 ·rw [aA];cases e:(List.range' 0 (L.length - 0)).findSome? (λi:Nat=>bif decide ((k:Int)=(gK L)[i]?.getD 0) then some (i:Int) else none) with
  |none=>
   rw [List.findSome?_eq_none_iff] at e
   have:L.contains k=false:=by
    rw [Bool.eq_false_iff];intro hc;have hm:k∈L:=by simpa using hc
    obtain ⟨j,hj,e2⟩:=List.mem_iff_getElem.1 hm;have:=e j (by simp;omega);have hg:(gK L)[j]?.getD 0=(k:Int):=by simp [gK,hj,e2]
    rw [hg,bK rfl] at this;cases this
   rw [this];rfl
  |some i=>
   obtain ⟨j,hj,he⟩:=List.exists_of_findSome?_eq_some e;simp at hj;have hjl:j<L.length:=by omega
   have hg:(gK L)[j]?.getD 0=((L[j]:Nat):Int):=by simp [gK,hjl]
   rw [hg] at he;by_cases c:(k:Int)=((L[j]:Nat):Int)
   ·rw [bK c] at he;cases he
    have:L.contains k=true:=by
     have:k=L[j]:=by omega
     rw [this];simp
    rw [this];show (Option.bind (some ((j:Nat):Int)) λv1=>some (decide (0≤v1)))=some true;rw [aA,bK (by omega)]
   ·rw [cY c] at he;cases he
 ·unfold gA;rw [hl,jS hi,aN,uM 0 (by omega),aA];cases decide ((k:Int)=(gK L)[i]?.getD 0) <;> rfl
 ·unfold gA;rw [hl,mM (bN _),aY]
theorem aME (L:List Nat) (k:Nat):vD (k+1) L=vD k L++if L.contains k=true then [] else [k]:=by
 unfold vD;rw [List.range_succ,List.filter_append];congr 1;cases h:L.contains k <;> simp at h <;> simp [h]
theorem aJQ (n:Nat) (L:List Nat):(vD n L).length ≤n:=by
 have:=List.length_filter_le (λk=> !L.contains k) (List.range n);simpa [vD] using this
theorem aJR {n k:Nat} {L:List Nat} (h:k∈vD n L):k<n:=List.mem_range.1 (List.mem_filter.1 h).1
theorem aKQ {n:Nat} {L:List Nat} (hn:n≤1048576) (hL:L.length≤1048576):mW (n:Int) (gK L)=some (gK (vD n L)):=by
 unfold mW;rw [dL (s:=(([]:List Int),(0:Int))) (r:=gK (vD n L)) (λk=>(gK (vD k L),(k:Int))) n rfl (λk hk=>?_) (λ_=>?_),aA]
 ·have h1:=aJQ k L;unfold jK;simp only;rw [jS hk,aN,aKP hL,aA,aME,cB hk (by omega)];cases hc:L.contains k
  ·rw [Bool.not_false,aN,bK (by rw [dV];simp;omega),aN];simp [gK]
  ·rw [eO,aY];simp
 ·unfold jK;simp only;rw [mM (bN _),aY]
end
noncomputable section
set_option maxRecDepth 10000
set_option maxHeartbeats 4000000
end
noncomputable section
set_option maxRecDepth 10000
set_option maxHeartbeats 4000000
end
noncomputable section
set_option maxRecDepth 10000
set_option maxHeartbeats 4000000
end
noncomputable section
section
variable {P:Program} {T:List (Nat×Ty)} {dst:Option Tmp} {ty:TypeId} {pos:String} {aft:Array Edge} {g:Option (Nat×Bool)}
theorem aGP (hT:TyOk P T) {ins:Operand→Option AV} {hp:Hp} {κ:Kp} {x:Operand} {t:Nat} {y:Ty} {cs:List AV} {W:World} {vb:Value} {S:List Nat} {K:List AV→Prop}
  (hfx:κ.fx=fxW W) (hrep:RepD W (.ref cs) vb S) (hx:ins x=some (.sc vb)) (hy:cX T t=some y) (h1:(y.desc.isAgg||Nat.beq y.size 1)=true) (hn:y.size≤cs.length) (ok:(cs.take y.size).all lZ=true) (h:aDY W (cs.take y.size) K):
  ∃ xs,K xs∧AEff P ⟨dst,.load t x,ty,pos,aft,g⟩ ins hp κ ⟨vK y.desc.isAgg xs,[],[],[]⟩:=by
 have hlt:=hrep.lt;simp only [RepD] at hrep;obtain ⟨b,o,S',rfl,h4,rfl,h5⟩:=hrep;obtain ⟨us,g1,g2,g3,g4⟩:=h5.vals;obtain ⟨S2,g5,g6⟩:=g1.take y.size;obtain ⟨xs,hk,hxs⟩:=aHe g5 ok h;refine ⟨xs,hk,⟨λC s ν a w Q K {hκ} hi' ht hnw hd hs hK=>?_⟩⟩;have hp1:=hs.ev ((hi' x (by simp [Op.operands])).trans hx);simp only [RepA,RepB,Rep1] at hp1;have hst:=(hs.stays hκ hfx (b:=b) (hlt b (by simp))).1
 have hrun: ∃ v,(execOp a.eval ⟨dst,.load t x,ty,pos,aft,g⟩).run P w= .ok (.value v) w∧RepA w s.heap s.used ν (vK y.desc.isAgg xs) v:=by
  obtain ⟨ii,z,d,hy'⟩:=hT.is hy;have hl:(us.take y.size).length=y.size:=by simp;omega
  have hr:=jY (P:=P) hy' (w:=w) (b:=b) (o:=o) (vs:=us.take y.size) hl (λhg=>by rw [hg] at h1;simpa using Nat.eq_of_beq_eq_true h1) (λm u hu=>by
   have hm:m<y.size:=by
    rcases eJ m y.size with h'|h'
    ·exact h'
    ·rw [jR (by omega)] at hu;cases hu
   rw [List.getElem?_take_of_lt hm] at hu
   exact (aHP hst).trans (g4 m u hu).1)
  refine ⟨_,by simp only [execOp,Instr.loadAt,hp1.1,Instr.sureAddr,Sem.run_bind,Sem.run_pure,Result.andThen_ok];rw [hr];rfl,?_⟩;have e3:=hxs w s.heap s.used ν;cases hg:y.desc.isAgg with
  |true=>
   simp only [vK,aN,if_true,RepA,RepB];exact ⟨_,rfl,e3⟩
  |false=>
   rw [hg] at h1;have hs1:y.size=1:=Nat.eq_of_beq_eq_true (by simpa using h1);simp only [vK,aY];revert e3 hl;generalize us.take y.size=vs;intro hl e3
   match xs,vs,e3 with
   | [],vs,e3=>simp only [All2] at e3;subst e3;simp [hs1] at hl
   |d::ds,vs,e3=>
    obtain ⟨v,r,rfl,e6,e7⟩:=e3;simp only [List.headD_cons,List.getElem?_cons_zero,lY,fL,if_false];exact e6.repA
 obtain ⟨v,h1,h2⟩:=hrun;unfold Oper.wp;rw [h1];simp only [Oper.upon];exact hK ν _ w (hs.step hd (Ext.refl _ _ _ _) (Below.refl _ _) hs.heap rfl h2)
end
section
variable {P:Program} {T:List (Nat×Ty)} {ops:Array Oper} {nt:Nat} {dst:Option Tmp} {ty:TypeId} {pos:String} {aft:Array Edge} {g:Option (Nat×Bool)} {rest:List Oper} {s:AState} {α:Type} {k:Nat} {e:α→List AV}
def aNd (W:World) (cs:List AV) (v:Value):Prop:= ∃ S,RepD W (.ref cs) v S
theorem aHK {l:List α} {i:Nat} {u:α} {W:World} {v:Value} {S:List Nat} (r:RepD W (.list k (l.map e)) v S) (hm:l[i]? =some u):aNd W (e u) (aFu v k i):=aHG (i:=i) (cs:=e u) r (by rw [List.getElem?_map,hm];rfl)
theorem aHL (hT:TyOk P T) {K:AState→Prop} {x:Operand} {t:Nat} {y:Ty} {W:World} {v:Value} {c0:List AV} (cs:List AV) (r:aNd W c0 v) (hfx:s.kp.fx=fxW W) (hx:s.ev x=some (.sc v)) (hy:cX T t=some y) (h1:(y.desc.isAgg||Nat.beq y.size 1)=true) (hn:Nat.ble y.size c0.length=true) (hc:c0.take y.size=cs) (ok:cs.all lZ=true)
  (hd:aDM ⟨dst,.load t x,ty,pos,aft,g⟩ nt=true) (hg:jZ ops s.env ⟨dst,.load t x,ty,pos,aft,g⟩=some true)
  (h:aDY W cs λxs=>SOps P ops nt rest (s.app dst ⟨vK y.desc.isAgg xs,[],[],[]⟩) K):SOps P ops nt (⟨dst,.load t x,ty,pos,aft,g⟩::rest) s K:=by
 subst hc;obtain ⟨S',hr⟩:=r;obtain ⟨xs,hk,he⟩:=aGP (dst:=dst) (ty:=ty) (pos:=pos) (aft:=aft) (g:=g) hT (hp:=s.heap) hfx hr hx hy h1 (Nat.le_of_ble_eq_true hn) ok h;exact aIq he hd hg rfl hk
end
end
noncomputable section
set_option maxRecDepth 10000
set_option maxHeartbeats 4000000
def qE (a0:Int) (v1:(Mt×(List Int))) (v4:Int) (x2:((List Int)×Int)):Option (((List Int)×Int) ⊕ (List Int)):=
 bif decide (x2.2<((v1.2.length:Nat):Int)) then
 ((dF v1.2 x2.2).bind λv7=>
 (dG v1.1 x2.2).bind λv8=>
 bif (decide (0≤v4)&&decide (v4<((((wr ((wr (x2.2+1))*v1.1.cols)).toNat - (wr (x2.2*v1.1.cols)).toNat):Nat):Int))) then
 ((v1.1.cells[((0+(wr (x2.2*v1.1.cols)).toNat)+v4.toNat)]?).bind λv9=>
 bif !decide (a0=0) then
 ((dF x2.1 v7).bind λv11=>
 some (.inl ((x2.1.set v7.toNat ((wr (a0 - v9)).tmod a0)),wr (x2.2+1))))
 else none
 )
 else none)
 else
 (some (.inr x2.1))
def qF (a0:Int) (a1:Mt) (v1:(Mt×(List Int))) (v2:(List Int)) (x1:((List (List Int))×Int)):Option (((List (List Int))×Int) ⊕ (List (List Int))):=
 bif decide (x1.2<((v2.length:Nat):Int)) then
 ((dF v2 x1.2).bind λv4=>
 bif (decide (0≤a1.cols)&&decide (a1.cols≤1048576)) then
 ((dF (List.replicate a1.cols.toNat (0:Int)) v4).bind λv5=>
 (Lp (qE a0 v1 v4) (((List.replicate a1.cols.toNat (0:Int)).set v4.toNat 1),0)).bind λy13=>
 bif decide (x1.1.length+1≤4294967296) then
 (some (.inl ((x1.1++[y13]),wr (x1.2+1))))
 else none)
 else none)
 else
 (some (.inr x1.1))
def uY (a0:Int) (a1:Mt):Option (List (List Int)):=
 (qP a0 a1).bind λv1=>
 (mW a1.cols v1.2).bind λv2=>
 (Lp (qF a0 a1 v1 v2) ([],0)).bind λy16=>
 some (y16)
theorem aGQ (a0:Int) (a1:Mt) (r:(List (List Int))) (h:uY a0 a1=some r):HasC Tryz.prog 173 [.int a0,.agg (eM a1)] (.list 1 (r.map (oA 1 eI))):=by
 refine hM [.tmp 4] Tryz.func173 Tryz.ntmps173 k<|sR<|ae (wb k) k<|aT k2<|sR<|am k k<|lp k8<|oB h λv1 hv1 h=>ae (AEff.conv (sW (x:= .tuple [.agg [.int v1.1.rows,.int v1.1.cols,.own 1 0 (v1.1.cells.map eI).length],.own 2 0 (v1.2.map eI).length]) (nb:=[(1,⟨1,bX (v1.1.cells.map eI)⟩),(2,⟨1,bX (v1.2.map eI)⟩)]) (aBa a0 a1 v1 hv1) k (by rfl) k k (gP (bJ aV (bJ aV (bJ (bH.good _) vO))) (gP (bH.good _) yG)) (cC k (aI (dH k) aJ))) (v':= .tuple [.agg [.int v1.1.rows,.int v1.1.cols,.own 1 0 v1.1.cells.length],.own 2 0 v1.2.length]) (ed':=[(1,some ⟨1,v1.1.cells.map (ow eI)⟩),(2,some ⟨1,v1.2.map (ow eI)⟩)]) (by simp only [aU]) (vY (nb':=[(1,⟨1,v1.1.cells.map (ow eI)⟩),(2,⟨1,v1.2.map (ow eI)⟩)]) (by simp only [fP]))) k<|am k k<|ae (bZ k k (by intro _ h;cases h)) k<|ae (bZ k k (by intro _ h;cases h)) k<|ae (cA aO k k) k<|ae (ws k) k<|aT k2<|sR<|aT k2<|sQ<|sR<|fp k8<|lp k8 ?_;refine am k k<|oB h λv2 hv2 h=>ae (cL bH (aBs a1.cols v1.2 v2 hv2) k3 (cC k (vcT k k aJ))) k<|ae (dO aO k k k k) k<|am k k<|an<|tn<|aG<|oB h λy16 hy16 h=>bY (body:=(qF a0 a1 v1 v2)) hy16 (λ(x1:((List (List Int))×Int))=>mN [(0,.int a0),(3,.ptr 0 0 0),(5,.ptr 1 0 0),(6,.own 3 0 v1.2.length),(7,.own 4 0 x1.1.length),(22,.own 5 0 v2.length),(23,.int ((v2.length:Nat):Int)),(24,.int x1.2)] [(0,⟨3,[eM a1]⟩),(1,⟨3,[oMt v1.1 2]⟩),(2,⟨1,v1.1.cells.map (ow eI)⟩),(3,⟨1,v1.2.map (ow eI)⟩),(4,⟨1,x1.1.map (ow (oA 1 eI))⟩),(5,⟨1,v2.map (ow eI)⟩)] 6) (λr e t=>e= .exit 0∧Ent t (mN [(7,.own 0 0 r.length)] [(0,⟨1,r.map (ow (oA 1 eI))⟩)] 1)) (iC (σ:=sg [(0,0),(1,3),(2,1),(3,2),(5,4)]) (wP 4 k2 (sO ⟨_,k,⟨k,k,k,k⟩⟩ (bL k2))) (bT k<|fK k<|bD k<|bD k<|hX k k<|bD k<|aV) k) ?_ ?_
 ·intro x1 o h;refine sR<|cm k4<|an<|tn<|sQ<|cJ k h (λ_ h=>?_) λ_ h=>bB<|aC<|aC<|sp h ⟨_,k,k,(xF [4] (bL k2) (cF (eH.plainO _) k<|aV) k4)⟩;refine aE<|tn<|sQ<|aG<|sR<|oB h λv4 hv4 h=>ae (xo hv4 k) k<|ae (wp hv4 k) k<|aT k2<|sR<|fp k8<|lp k8<|cG h λq15 h=>ae (yH aO q15 k k k k k k k k) k<|aT k2<|aR (t:=mN [(0,.int a0),(3,.ptr 0 0 0),(5,.ptr 1 0 0),(6,.own 3 0 v1.2.length),(7,.own 4 0 x1.1.length),(9,.int v4),(10,.own 6 0 ((List.replicate a1.cols.toNat (0:Int)).length)),(22,.own 5 0 v2.length),(23,.int ((v2.length:Nat):Int)),(24,.int x1.2)] [(0,⟨3,[eM a1]⟩),(1,⟨3,[oMt v1.1 2]⟩),(2,⟨1,v1.1.cells.map (ow eI)⟩),(3,⟨1,v1.2.map (ow eI)⟩),(4,⟨1,x1.1.map (ow (oA 1 eI))⟩),(5,⟨1,v2.map (ow eI)⟩),(6,⟨1,List.map (ow eI) (List.replicate a1.cols.toNat (0:Int))⟩)] 7) (bO (wP 6 k2 (sO ⟨_,k,⟨k,k,(by simp only [aU,lA,lT,lR,lC,lN]),k⟩⟩ (bL k2))) (bT k<|fK k<|bD k<|bD k<|cF (eH.plainO _) k<|bD k<|hX ⟨_,k,k,.inl ⟨aAE (e:=eI) (z:=0) _,bH.plainO _⟩⟩ k<|aV) k4)<|sR<|am k k<|am k k<|oB h λv5 hv5 h=>ae (xo hv5 k) k<|ae (gO aO pE (u:=1) (dU hv5) k k k k k k) k<|an<|tn<|sQ ?_;refine sR<|am k k<|ae (dO aO k k k k) k<|am k k<|an<|tn<|aG<|oB h λy13 hy13 h=>bY (body:=(qE a0 v1 v4)) hy13 (λ(x2:((List Int)×Int))=>mN [(0,.int a0),(3,.ptr 0 0 0),(5,.ptr 1 0 0),(6,.own 3 0 v1.2.length),(7,.own 4 0 x1.1.length),(9,.int v4),(10,.own 5 0 x2.1.length),(22,.own 6 0 v2.length),(23,.int ((v2.length:Nat):Int)),(24,.int x1.2),(34,.own 3 0 v1.2.length),(35,.int ((v1.2.length:Nat):Int)),(36,.int x2.2)] [(0,⟨3,[eM a1]⟩),(1,⟨3,[oMt v1.1 2]⟩),(2,⟨1,v1.1.cells.map (ow eI)⟩),(3,⟨1,v1.2.map (ow eI)⟩),(4,⟨1,x1.1.map (ow (oA 1 eI))⟩),(5,⟨1,x2.1.map (ow eI)⟩),(6,⟨1,v2.map (ow eI)⟩)] 7) (λr e t=>e= .exit 2∧Ent t (mN [(0,.int a0),(3,.ptr 0 0 0),(5,.ptr 1 0 0),(6,.own 3 0 v1.2.length),(7,.own 4 0 x1.1.length),(10,.own 5 0 r.length),(22,.own 6 0 v2.length),(23,.int ((v2.length:Nat):Int)),(24,.int x1.2)] [(0,⟨3,[eM a1]⟩),(1,⟨3,[oMt v1.1 2]⟩),(2,⟨1,v1.1.cells.map (ow eI)⟩),(3,⟨1,v1.2.map (ow eI)⟩),(4,⟨1,x1.1.map (ow (oA 1 eI))⟩),(5,⟨1,r.map (ow eI)⟩),(6,⟨1,v2.map (ow eI)⟩)] 7)) (xF [0,1,2,3,4,6,5] (wP 6 k2 (sO ⟨_,k,⟨k,k,(by simp only [aU,lA,lT,lR,lC,lN]),k⟩⟩ (bL k2))) (bT k<|fK k<|bD k<|bD k<|cF (eH.plainO _) k<|bD k<|bD k<|aV) k4) ?_ ?_
  ·intro x2 o h;refine sR<|cm k4<|an<|tn<|sQ<|cJ k h (λ_ h=>?_) λ_ h=>bB<|aC<|aC<|sp h ⟨_,k,k,(bO (bL k2) (bT k<|fK k<|bD k<|bD k<|cF (eH.plainO _) k<|bD k<|bD k<|aV) k4)⟩;refine aE<|tn<|sQ<|aG<|sR<|am k k<|oB h λv7 hv7 h=>ae (xo hv7 k) k<|ae (wp hv7 k) k<|aa k k<|aT k2<|rg<|am k k<|am k k<|am k k<|lp k8<|am k k<|oB h λv8 hv8 h=>ae (AEff.pureE (fA (σ:=sg [(0,2)]) (σ':=sg [(2,0)]) (touch:=[2]) (news:=[]) (hl2:=[(2,⟨1,v1.1.cells.map (ow eI)⟩)]) (n':=7) (r2:= .own 2 (0+(wr (x2.2*v1.1.cols)).toNat) ((wr ((wr (x2.2+1))*v1.1.cols)).toNat - (wr (x2.2*v1.1.cols)).toNat)) (eY v1.1 x2.2 v8 hv8) k k ⟨_,_,k,⟨_,_,k,k,⟨_,_,k,k,⟨_,_,k,⟨k,k,k,k⟩,k⟩⟩⟩,⟨_,_,k,k,k⟩⟩ ⟨⟨_,k,k,.inl ⟨k,bH.plainO _⟩⟩,k,aV⟩ k k k ⟨⟨_,k,k,.inl ⟨k,bH.plainO _⟩⟩,k,aV⟩ k ⟨k,k,(by simp only [aU,lA,lT,lR,lC,lN]),k⟩ k ⟨k,bH.tame _ _,aV⟩ k k) ⟨k,k,aV⟩) k<|am k k<|cG h λq10 h=>oB h λv9 hv9 h=>ae (gR aO q10 k k k k k k k) k<|ae (cW aO k k k k (vM (hv9)) k k) k<|ae (qI k k) k<|am k k<|cG h λq12 h=>ae (aBY k k q12) k<|oB h λv11 hv11 h=>ae (xo hv11 k) k<|ae (gO aO pE (u:=(wr (a0 - v9)).tmod a0) (dU hv11) k k k k k k) k<|an ?_;exact bC<|tn<|rg<|ae (bF k k) k<|am k k<|an<|tn<|sp h ⟨_,k,(bO (wP 6 k2 (sO ⟨_,k,⟨k,k,(by simp only [aU,lA,lT,lR,lC,lN]),k⟩⟩ (bL k2))) (bT k<|fK k<|bD k<|bD k<|cF (eH.plainO _) k<|bD k<|bD k<|aV) k4)⟩
  ·rintro e t ⟨rfl,hent⟩;exact aP<|tn<|aR hent<|rg<|am k k<|am k k<|ae (wl k) k<|cG h λq14 h=>ae (vP aO (l:=x1.1) (c:=[.own 5 0 y13.length]) q14 k k k k k k k k k k k k k k) k<|aa k k<|an<|bC<|tn<|aR (t:=mN [(0,.int a0),(3,.ptr 0 0 0),(5,.ptr 1 0 0),(6,.own 3 0 v1.2.length),(7,.own 8 0 ((x1.1++[y13]).length)),(22,.own 6 0 v2.length),(23,.int ((v2.length:Nat):Int)),(24,.int x1.2)] [(0,⟨3,[eM a1]⟩),(1,⟨3,[oMt v1.1 2]⟩),(2,⟨1,v1.1.cells.map (ow eI)⟩),(3,⟨1,v1.2.map (ow eI)⟩),(6,⟨1,v2.map (ow eI)⟩),(8,⟨1,List.map (ow (oA 1 eI)) (x1.1++[y13])⟩)] 9) (Ent.trans (nN (b:=8) (b':=5) (j:=0) (es':=y13.map eI) k k k k (aU _ _) (bH.frzs _)) (bO (wP 4 k2 (sO ⟨_,k,⟨k,k,(by simp only [aU,lA,lT,lR,lC,lN]),k⟩⟩ (bL k2))) (bT k<|fK k<|bD k<|bD k<|bD k<|hX ⟨_,k,k,.inl ⟨vQ y13 k,eH.plainO _⟩⟩ k<|aV) k4))<|rg<|ae (bF k k) k<|am k k<|an<|tn<|sp h ⟨_,k,(xF [0,1,2,3,8,6] (bL k2) (bT k<|fK k<|bD k<|bD k<|cF (eH.plainO _) k<|bD k<|aV) k4)⟩
 ·rintro e t ⟨rfl,hent⟩;exact aP<|tn<|aR hent<|sR<|am k k<|aT k2<|aD<|sp h (bG k k k (hO (cU eH k k)))
def jG (a0:Rp) (a1:Rp) (v2:(List (List Int))) (x1:((List (List Mt))×Int)):Option (((List (List Mt))×Int) ⊕ (List (List Mt))):=
 bif decide (x1.2<((v2.length:Nat):Int)) then
 ((dF v2 x1.2).bind λv4=>
 (pW a0 a1).bind λv5=>
 (nU v5 v4).bind λv6=>
 bif decide (x1.1.length+1≤4294967296) then
 (some (.inl ((x1.1++[v6]),wr (x1.2+1))))
 else none)
 else
 (some (.inr x1.1))
def rR (a0:Rp) (a1:Rp):Option (List (List Mt)):=
 (kO a0 a1).bind λv1=>
 (uY a0.p v1).bind λv2=>
 (Lp (jG a0 a1 v2) ([],0)).bind λy8=>
 some (y8)
theorem aEY (a0:Rp) (a1:Rp) (r:(List (List Mt))) (h:rR a0 a1=some r):HasC Tryz.prog 123 [.agg (eR a0),.agg (eR a1)] (.list 1 (r.map (oA 3 eM))):=by
 refine hM [.tmp 4] Tryz.func123 Tryz.ntmps123 k<|sR<|ae (wb k) k<|ae (wb k) k<|aT k2<|sR<|aT k2<|sQ<|sQ<|aS fF<|fp k8<|lp k8<|lp k8<|lp k8<|oB h λv1 hv1 h=>ae (cM (xY a0 a1 v1 hv1) k3 (aI (dH k) (aI (dH k) aJ))) k<|oB h λv2 hv2 h=>ae (cL eH (aGQ a0.p v1 v2 hv2) k3 (cC k (aI (vaM k2) aJ))) k<|ae (dO aO k k k k) k<|am k k<|an<|pA (by kernel_rfl)<|tn<|aG<|oB h λy8 hy8 h=>bY (body:=(jG a0 a1 v2)) hy8 (λ(x1:((List (List Mt))×Int))=>mN [(2,.ptr 0 0 0),(3,.ptr 1 0 0),(5,.own 2 0 x1.1.length),(13,.own 3 0 v2.length),(14,.int ((v2.length:Nat):Int)),(15,.int x1.2)] [(0,⟨6,[eR a0]⟩),(1,⟨6,[eR a1]⟩),(2,⟨1,x1.1.map (ow (oA 3 eM))⟩),(3,⟨1,v2.map (ow (oA 1 eI))⟩)] 4) (λr e t=>e= .exit 0∧Ent t (mN [(5,.own 0 0 r.length)] [(0,⟨1,r.map (ow (oA 3 eM))⟩)] 1)) (iC (σ:=sg [(0,0),(1,1),(3,3)]) (wP 2 k2 (sO ⟨_,k,⟨k,k,k,k⟩⟩ (bL k2))) (bT k<|bT k<|hX k k<|cF (eH.plainO _) k<|aV) k) ?_ ?_
 ·intro x1 o h;refine sR<|cm k4<|an<|tn<|sQ<|cJ k h (λ_ h=>?_) λ_ h=>bB<|aC<|aC<|sp h ⟨_,k,k,(xF [2] (bL k2) (cF (eH.plainO _) k<|aV) k4)⟩;refine aE<|tn<|sQ<|aG<|sR<|oB h λv4 hv4 h=>ae (xo hv4 k) k<|ae (wp hv4 k) k<|aT k2<|rg<|am k k<|lp k8<|lp k8<|oB h λv5 hv5 h=>ae (cL aW (aAL a0 a1 v5 hv5) k3 (aI (dH k) (aI (dH k) aJ))) k<|am k k<|oB h λv6 hv6 h=>ae (cL aW (aBb v5 v4 v6 hv6) k3 (aI (aAg aW k k) (cC k aJ))) k<|ae (wl k) k<|cG h λq7 h=>ae (vP aO (l:=x1.1) (c:=[.own 5 0 v6.length]) q7 k k k k k k k k k k k k k k) k<|aa k k<|an<|bC<|tn<|aR (t:=mN [(2,.ptr 0 0 0),(3,.ptr 1 0 0),(5,.own 7 0 ((x1.1++[v6]).length)),(13,.own 3 0 v2.length),(14,.int ((v2.length:Nat):Int)),(15,.int x1.2)] [(0,⟨6,[eR a0]⟩),(1,⟨6,[eR a1]⟩),(3,⟨1,v2.map (ow (oA 1 eI))⟩),(7,⟨1,List.map (ow (oA 3 eM)) (x1.1++[v6])⟩)] 8) (Ent.trans (nN (b:=7) (b':=5) (j:=0) (es':=v6.map eM) k k k k (aU _ _) (aW.frzs _)) (bO (wP 2 k2 (sO ⟨_,k,⟨k,k,(by simp only [aU,lA,lT,lR,lC,lN]),k⟩⟩ (bL k2))) (bT k<|bT k<|cF (eH.plainO _) k<|hX ⟨_,k,k,.inl ⟨vQ v6 k,eH.plainO _⟩⟩ k<|aV) k4))<|rg<|ae (bF k k) k<|am k k<|an ?_;exact tn<|sp h ⟨_,k,(xF [0,1,7,3] (bL k2) (bT k<|bT k<|cF (eH.plainO _) k<|cF (eH.plainO _) k<|aV) k4)⟩
 ·rintro e t ⟨rfl,hent⟩;exact aP<|tn<|aR hent<|sR<|am k k<|aT k2<|aD<|sp h (bG k k k (hO (cU eH k k)))
def nF (a0:Int) (x1:(Int×(List Int)×Int)):Option ((Int×(List Int)×Int) ⊕ (List Int)):=
 bif decide (0≤x1.2.2) then
 (bif !decide (a0=0) then
 ((dF x1.2.1 x1.2.2).bind λv2=>
 bif !decide (a0=0) then
 (some (.inl (wr (x1.1.tdiv a0),(x1.2.1.set x1.2.2.toNat (x1.1.tmod a0)),wr (x1.2.2 - 1))))
 else none)
 else none)
 else
 (some (.inr x1.2.1))
def rS (a0:Int) (a1:Int) (a2:Int):Option (List Int):=
 bif (decide (0≤a1)&&decide (a1≤1048576)) then
 ((Lp (nF a0) (a2,(List.replicate a1.toNat (0:Int)),wr (a1 - 1))).bind λy5=>
 some (y5))
 else none
theorem aEZ (a0:Int) (a1:Int) (a2:Int) (r:(List Int)) (h:rS a0 a1 a2=some r):HasC Tryz.prog 224 [.int a0,.int a1,.int a2] (.list 1 (r.map eI)):=by
 refine hM [.tmp 6] Tryz.func224 Tryz.ntmps224 k<|sR<|aT k2<|sR<|am k k<|cG h λq6 h=>ae (yH aO q6 k k k k k k k k) k<|aT k2<|aR (t:=mN [(0,.int a0),(1,.int a1),(2,.int a2),(7,.own 0 0 ((List.replicate a1.toNat (0:Int)).length))] [(0,⟨1,List.map (ow eI) (List.replicate a1.toNat (0:Int))⟩)] 1) (bO (wP 3 k2 (sO ⟨_,k,⟨k,k,(by simp only [aU,lA,lT,lR,lC,lN]),k⟩⟩ aV)) (hX ⟨_,k,k,.inl ⟨aAE (e:=eI) (z:=0) _,bH.plainO _⟩⟩ k<|aV) k4)<|sQ<|sR<|am k k<|ae (qI k k) k<|aT k2<|aG<|oB h λy5 hy5 h=>bY (body:=(nF a0)) hy5 (λ(x1:(Int×(List Int)×Int))=>mN [(0,.int a0),(2,.int x1.1),(7,.own 0 0 x1.2.1.length),(8,.int x1.2.2)] [(0,⟨1,x1.2.1.map (ow eI)⟩)] 1) (λr e t=>e= .exit 0∧Ent t (mN [(7,.own 0 0 r.length)] [(0,⟨1,r.map (ow eI)⟩)] 1)) (bO (bL k2) (bD k<|aV) k4) ?_ ?_
 ·intro x1 o h;exact sQ<|sR<|am k k<|cm k4<|an<|tn<|cJ k h (λ_ h=>aE<|tn<|sQ<|aG<|sR<|am k k<|am k k<|am k k<|am k k<|cG h λq4 h=>ae (aBY k k q4) k<|oB h λv2 hv2 h=>ae (xo hv2 k) k<|ae (gO aO pE (u:=x1.1.tmod a0) (dU hv2) k k k k k k) k<|an<|tn<|rg<|am k k<|am k k<|cG h λq3 h=>ae (aOj k k q3) k<|aa k k<|an<|bC<|tn<|rg<|am k k<|ae (qI k k) k<|aT k2<|sp h ⟨_,k,(bO (wP 2 k2 (sO ⟨_,k,⟨k,k,(by simp only [aU,lA,lT,lR,lC,lN]),k⟩⟩ (bL k2))) (bD k<|aV) k4)⟩) λ_ h=>bB<|aC<|aC<|sp h ⟨_,k,k,(bO (bL k2) (bD k<|aV) k4)⟩
 ·rintro e t ⟨rfl,hent⟩;exact aP<|tn<|aR hent<|sR<|am k k<|aT k2<|aD<|sp h (bG k k k (hO (cU bH k k)))
def nG (a0:Rp) (a3:(List Int)) (v3:(List Mt)) (x1:((List Mt)×Int)) (x2:((List Mt)×Int)):Option (((List Mt)×Int) ⊕ (List Mt)):=
 bif decide (x2.2<(v3.length:Int)) then
 ((dF v3 x2.2).bind λv5=>
 (dF x2.1 x2.2).bind λv6=>
 (dF a3 x1.2).bind λv7=>
 (fG a0.p v6.cells 0 v6.cells.length v7 v5.cells).bind λv8=>
 bif decide (v8.length=v6.cells.length) then
 (some (.inl ((x2.1.set x2.2.toNat (⟨v6.rows,v6.cols,v8⟩:Mt)),wr (x2.2+1))))
 else none)
 else
 (some (.inr x2.1))
def nH (a0:Rp) (a2:(List (List Mt))) (a3:(List Int)) (x1:((List Mt)×Int)):Option (((List Mt)×Int) ⊕ (List Mt)):=
 bif decide (x1.2<(a2.length:Int)) then
 ((dF a2 x1.2).bind λv3=>
 (Lp (nG a0 a3 v3 x1) (x1.1,0)).bind λy10=>
 some (.inl (y10,wr (x1.2+1))))
 else
 (some (.inr x1.1))
def vV (a0:Rp) (a1:Rp) (a2:(List (List Mt))) (a3:(List Int)):Option (List Mt):=
 (pW a0 a1).bind λv1=>
 (Lp (nH a0 a2 a3) (v1,0)).bind λy11=>
 some (y11)
theorem aEa (a0:Rp) (a1:Rp) (a2:(List (List Mt))) (a3:(List Int)) (r:(List Mt)) (h:vV a0 a1 a2 a3=some r):HasC Tryz.prog 223 [.agg (eR a0),.agg (eR a1),.list 1 (a2.map (oA 3 eM)),.list 1 (a3.map eI)] (.list 3 (r.map eM)):=by
 refine aIv aO (rvs:=[.tmp 8]) (ns:=nmA) Tryz.func223 k k Tryz.ntmps223 k k k (λW=>?_);refine aCa<|uN<|uN<|nY (λw0_2 S0_2 r0_2=>?_);refine nY (λw0_3 S0_3 r0_3=>?_);refine nY (λw0_4 S0_4 r0_4=>?_);refine nY (λw0_5 S0_5 r0_5=>?_);refine yX<|aCa<|uN<|uN<|nY (λw1_2 S1_2 r1_2=>?_);refine nY (λw1_3 S1_3 r1_3=>?_);refine nY (λw1_4 S1_4 r1_4=>?_);refine nY (λw1_5 S1_5 r1_5=>?_);refine yX<|aMy (λw2_0 S2_0 r2_0=>?_);refine aMy (λw3_0 S3_0 r3_0=>?_);refine aIt<|sS<|se (wb k) k<|se (wb k) k<|lG k2<|sn<|tn<|sS<|lpS k8<|lpS k8<|oB h λv1 hv1 h=>se (cLK aW (aAL a0 a1 v1 hv1) k3 (dQ (vrR k r0_2 r0_3 r0_4 r0_5) (dQ (vrR k r1_2 r1_3 r1_4 r1_5) kU))) k<|lG k2<|sn<|tn<|sQ<|sS<|fU k2<|se (aHH aO r2_0 k k k) k<|fU k2<|sn<|tn<|aG<|oB h λy11 hy11 h=>bY (body:=(nH a0 a2 a3)) hy11 (λ(x1:((List Mt)×Int))=>mN [(3,.sc w3_0),(4,.ptr 0 0 0),(9,.own 1 0 x1.1.length),(17,.sc w2_0),(18,.int (a2.length:Int)),(19,.int x1.2)] [(0,⟨6,[[.int a0.p,.int a0.q.n,.sc w0_2,.sc w0_3,.sc w0_4,.sc w0_5]]⟩),(1,⟨3,x1.1.map (ow eM)⟩)] 2 ⟨0,true,fxW W,true⟩) (λr e t=>e= .exit 0∧Ent t (mN [(9,.own 0 0 r.length)] [(0,⟨3,r.map (ow eM)⟩)] 1 ⟨0,true,fxW W,true⟩)) (xF [0,2] (bL k2) (bT k<|cF (aW.plainO _) k<|aV) k4) ?_ ?_
 ·intro x1 o h;refine sS<|cmS k4<|sn<|tn<|sQ<|cJ k h (λ_ h=>?_) λ_ h=>bB<|aC<|aC<|sp h ⟨_,k,k,(xF [1] (bL k2) (cF (aW.plainO _) k<|aV) k4)⟩;refine aE<|tn<|sQ<|aG<|sS<|fU k2<|oB h λv3 hv3 h=>se (aFv aO r2_0 hv3 k k k k k k) k<|aHL aO [.list 3 (v3.map eM)] (aHK r2_0 (dU hv3)) k k k k k k k k k<|nY (λwn9 Sn9 rn9=>?_);refine yX<|lG k2<|lG k2<|sn<|tn<|sS<|fU k2<|se (aHH aO rn9 k k k) k<|fU k2<|sn<|tn<|aG<|oB h λy10 hy10 h=>bY (body:=(nG a0 a3 v3 x1)) hy10 (λ(x2:((List Mt)×Int))=>mN [(3,.sc w3_0),(4,.ptr 0 0 0),(9,.own 1 0 x2.1.length),(10,.int x1.2),(17,.sc w2_0),(18,.int (a2.length:Int)),(19,.int x1.2),(24,.sc wn9),(25,.int (v3.length:Int)),(26,.int x2.2)] [(0,⟨6,[[.int a0.p,.int a0.q.n,.sc w0_2,.sc w0_3,.sc w0_4,.sc w0_5]]⟩),(1,⟨3,x2.1.map (ow eM)⟩)] 2 ⟨0,true,fxW W,true⟩) (λr e t=>e= .exit 2∧Ent t (mN [(3,.sc w3_0),(4,.ptr 0 0 0),(9,.own 1 0 r.length),(17,.sc w2_0),(18,.int (a2.length:Int)),(19,.int x1.2)] [(0,⟨6,[[.int a0.p,.int a0.q.n,.sc w0_2,.sc w0_3,.sc w0_4,.sc w0_5]]⟩),(1,⟨3,r.map (ow eM)⟩)] 2 ⟨0,true,fxW W,true⟩)) (bO (bL k2) (bT k<|cF (aW.plainO _) k<|aV) k4) ?_ ?_
  ·intro x2 o h;refine sS<|cmS k4<|sn<|tn<|sQ<|cJ k h (λ_ h=>?_) λ_ h=>bB<|aC<|aC<|sp h ⟨_,k,k,(bO (bL k2) (bT k<|cF (aW.plainO _) k<|aV) k4)⟩;refine aE<|tn<|sQ<|aG<|sS<|fU k2<|oB h λv5 hv5 h=>se (aFv aO rn9 hv5 k k k k k k) k<|aHL aO [.int v5.rows,.int v5.cols,.list 1 (v5.cells.map eI)] (aHK rn9 (dU hv5)) k k k k k k k k k<|uN<|uN<|nY (λwn12 Sn12 rn12=>?_);refine yX<|se (cA aO k k) k<|lG k2<|se (ws k) k<|sn<|tn<|oB h λv6 hv6 h=>aR (t:=mN [(3,.sc w3_0),(4,.ptr 0 0 0),(9,.own 1 0 x2.1.length),(10,.int x1.2),(12,.int x2.2),(13,.ptr 2 0 0),(17,.sc w2_0),(18,.int (a2.length:Int)),(19,.int x1.2),(24,.sc wn9),(25,.int (v3.length:Int)),(26,.int x2.2),(27,.bl (decide (x2.2<(v3.length:Int)))),(28,.int x2.2),(29,.sc (aFu wn9 3 x2.2.toNat)),(30,.agg [.int v5.rows,.int v5.cols,.sc wn12])] [(0,⟨6,[[.int a0.p,.int a0.q.n,.sc w0_2,.sc w0_3,.sc w0_4,.sc w0_5]]⟩),(1,⟨3,(x2.1.map (ow eM)).set x2.2.toNat [.int v6.rows,.int v6.cols,.abs 1 (v6.cells.map eI)]⟩),(2,⟨3,[[.int v5.rows,.int v5.cols,.sc wn12]]⟩)] 3 ⟨0,true,fxW W,true⟩) (bO (bL k2) (bT k<|hX ⟨_,k,k,.inl ⟨yY (dU hv6),wO aW k⟩⟩ k<|bT k<|aV) k4)<|aR (sK (b:=1) (c:=3) (i:=x2.2.toNat) (j:=2) (n:=v6.cells.length) (A:=x2.1.map (ow eM)) (fs:=v6.cells.map (ow eI)) (by rw [dB];exact eP hv6) k k k k (aU _ _) (fP _ _) (kV ⟨k,k,k,k,k,k,k,k,k,k,k,k,k,k,k,k,aV⟩) (kW (skip:=[]) ⟨.inr (gS k),.inr (aW.dfS _ _ _ k),.inr (gS k),aV⟩))<|aR (t:=mN [(3,.sc w3_0),(4,.ptr 0 0 0),(9,.own 1 0 x2.1.length),(10,.int x1.2),(12,.int x2.2),(13,.ptr 2 0 0),(17,.sc w2_0),(18,.int (a2.length:Int)),(19,.int x1.2),(24,.sc wn9),(25,.int (v3.length:Int)),(26,.int x2.2),(27,.bl (decide (x2.2<(v3.length:Int)))),(28,.int x2.2),(29,.sc (aFu wn9 3 x2.2.toNat)),(30,.agg [.int v5.rows,.int v5.cols,.sc wn12])] [(0,⟨6,[[.int a0.p,.int a0.q.n,.sc w0_2,.sc w0_3,.sc w0_4,.sc w0_5]]⟩),(1,⟨3,(x2.1.map (ow eM)).set x2.2.toNat [.int v6.rows,.int v6.cols,.own 3 0 v6.cells.length]⟩),(2,⟨3,[[.int v5.rows,.int v5.cols,.sc wn12]]⟩),(3,⟨1,v6.cells.map (ow eI)⟩)] 4 ⟨0,true,fxW W,true⟩) (iC (σ:=sg [(0,0),(1,1),(2,2),(3,3)]) (bL k2) (bT k<|hX ⟨_,k,k,.inr (tA (σ:=sg [(0,0),(1,1),(2,2),(3,3)]) (m:=4) (e:=eM) (l:=x2.1) (i:=x2.2.toNat) (c:=[.int v6.rows,.int v6.cols,.own 3 0 v6.cells.length]) (d:=[.int v6.rows,.int v6.cols,.own 3 0 v6.cells.length]) aW ⟨_,_,k,k,⟨_,_,k,k,⟨_,_,k,⟨k,k,k,k⟩,k⟩⟩⟩)⟩ k<|bT k<|bD k<|aV) k)<|aS fF<|fp k8<|lp k8<|am k k<|am k k<|ae (xo hv6 k) k<|fp k8<|ae (cW aO k k k k (aAh (eP hv6)) k k) k<|am k k<|am k k<|oB h λv7 hv7 h=>ae (aFv aO r3_0 hv7 k k k k k k) k<|ae (aKM aO r3_0 (dU hv7) k k k k k k k) k<|fp k8<|lp k8<|oB h λv8 hv8 h=>ae (aLm (σ:=sg [(0,3)]) (σ':=sg [(3,0)]) (touch:=[3]) (news:=[]) (hl2:=[(3,⟨1,v8.map (ow eI)⟩)]) (n':=4) (r2:= .own 3 0 v6.cells.length) (rY a0.p v6.cells 0 v6.cells.length v7 v5.cells v8 hv8) k k ⟨_,_,k,(.inl k),⟨_,_,k,(.inl ⟨k,k,k,k⟩),⟨_,_,k,(.inl k),⟨_,_,k,(.inr ⟨aPo k rn12,k,⟨k,k⟩⟩),k⟩⟩⟩⟩ ⟨⟨_,k,k,.inl ⟨k,bH.plainO _⟩⟩,k,aV⟩ k k k ⟨⟨_,k,k,.inl ⟨k,bH.plainO _⟩⟩,k,aV⟩ k ⟨k,k,(by simp only [aU,lA,lT,lR,lC,lN]),k⟩ k ⟨k,bH.tame _ _,aV⟩ k k) k<|cG h λq9 h=>an<|pA (by kernel_rfl)<|bC<|tn<|aR (t:=mN [(3,.sc w3_0),(4,.ptr 0 0 0),(9,.own 1 0 ((x2.1.set x2.2.toNat (⟨v6.rows,v6.cols,v8⟩:Mt)).length)),(10,.int x1.2),(17,.sc w2_0),(18,.int (a2.length:Int)),(19,.int x1.2),(24,.sc wn9),(25,.int (v3.length:Int)),(26,.int x2.2)] [(0,⟨6,[[.int a0.p,.int a0.q.n,.sc w0_2,.sc w0_3,.sc w0_4,.sc w0_5]]⟩),(1,⟨3,List.map (ow eM) (x2.1.set x2.2.toNat (⟨v6.rows,v6.cols,v8⟩:Mt))⟩)] 4 ⟨0,true,fxW W,true⟩) (Ent.trans (sZ (b:=1) (b':=3) (j:=2) (es':=v8.map eI) (by rw [dB];exact eP hv6) k k k k (by simp only [aU,lA,lT,lR,lC,lN,of_decide_eq_true q9]) (bH.frzs _)) (bO (wP 2 k2 (sO ⟨_,k,⟨k,k,(by simp only [aU,lA,lT,lR,lC,lN,of_decide_eq_true q9]),k⟩⟩ (bL k2))) (bT k<|hX ⟨_,k,k,.inl ⟨aBp (⟨v6.rows,v6.cols,v8⟩:Mt) k,aW.plainO _⟩⟩ k<|aV) k4))<|rgS ?_;exact se (bF k k) k<|fU k2<|sn<|tn<|sp h ⟨_,k,(bO (bL k2) (bT k<|cF (aW.plainO _) k<|aV) k4)⟩
  ·rintro e t ⟨rfl,hent⟩;exact aP<|bC<|tn<|aR hent<|rgS<|se (bF k k) k<|fU k2<|sn<|tn<|sp h ⟨_,k,(bO (bL k2) (bT k<|cF (aW.plainO _) k<|aV) k4)⟩
 ·rintro e t ⟨rfl,hent⟩;exact aP<|tn<|aR hent<|sS<|fU k2<|lG k2<|sn<|tn<|aD<|sp h (bG k k k (hO (cU aW k k)))
def rT (a0:Rp) (a1:Rp) (a2:(List (List Mt))) (a3:Int):Option (List Mt):=
 (rS a0.p (a2.length:Int) a3).bind λv1=>
 (vV a0 a1 a2 v1).bind λv2=>
 some (v2)
theorem aEb (a0:Rp) (a1:Rp) (a2:(List (List Mt))) (a3:Int) (r:(List Mt)) (h:rT a0 a1 a2 a3=some r):HasC Tryz.prog 171 [.agg (eR a0),.agg (eR a1),.list 1 (a2.map (oA 3 eM)),.int a3] (.list 3 (r.map eM)):=by
 exact hM [.tmp 8] Tryz.func171 Tryz.ntmps171 k<|sR<|ae (wb k) k<|ae (wb k) k<|aT k2<|sQ<|aS fF<|lp k8<|lp k8<|am k k<|fp k8<|lp k8<|am k k<|ln k4<|am k k<|oB h λv1 hv1 h=>ae (cL bH (aEZ a0.p (a2.length:Int) a3 v1 hv1) k3 (cC k (cC k (cC k aJ)))) k<|oB h λv2 hv2 h=>ae (cL aW (aEa a0 a1 a2 v1 v2 hv2) k3 (aI (dH k) (aI (dH k) (cC k (vcT k k aJ))))) k<|aa k k<|an<|pA (by kernel_rfl)<|tn<|aD<|sp h (bG k k k (hO (cU aW k k)))
def gI (a0:Int) (a1:Int) (x1:(Int×Int)):Option ((Int×Int) ⊕ Int):=
 bif decide (x1.2<a1) then
 (bif decide (x1.1≤100000) then
 (some (.inl (wr (x1.1*a0),wr (x1.2+1))))
 else
 (some (.inr x1.1)))
 else
 (some (.inr x1.1))
def qG (a0:Int) (a1:Int):Option Int:=
 (Lp (gI a0 a1) (1,0)).bind λy3=>
 some (y3)
theorem aDk (a0:Int) (a1:Int) (r:Int) (h:qG a0 a1=some r):HasC Tryz.prog 160 [.int a0,.int a1] (.int r):=by
 refine hM [.tmp 4] Tryz.func160 Tryz.ntmps160 k<|sR<|aT k2<|sR<|aT k2<|sQ<|sR<|aT k2<|aG<|oB h λy3 hy3 h=>bY (body:=(gI a0 a1)) hy3 (λ(x1:(Int×Int))=>mN [(0,.int a0),(1,.int a1),(5,.int x1.1),(6,.int x1.2)] [] 0) (λr e t=>e= .exit 0∧Ent t (mN [(5,.int r)] [] 0)) (bO (bL k2) aV k4) ?_ ?_
 ·intro x1 o h;exact sQ<|sR<|am k k<|am k k<|cm k4<|am k k<|oC h (λq1 h=>aM 10 k q1<|am k k<|cm k4<|pk k3<|an<|tn<|cJ k h (λ_ h=>aE<|tn<|sQ<|aG<|rg<|am k k<|am k k<|ae (eZ k k) k<|aa k k<|an<|bC<|tn<|rg<|am k k<|ae (bF k k) k<|aT k2<|sp h ⟨_,k,(bO (bL k2) aV k4)⟩) λ_ h=>bB<|aC<|aC<|sp h ⟨_,k,k,(bO (bL k2) aV k4)⟩) λq1 h=>aM 10 k q1<|aK k4<|pk k3<|an<|tn<|vC k k<|bB<|aC<|aC<|sp h ⟨_,k,k,(bO (bL k2) aV k4)⟩
 ·rintro e t ⟨rfl,hent⟩;exact aP<|tn<|aR hent<|sR<|am k k<|aT k2<|aD<|tW h k2
def rU (a0:Int) (a1:(List Mt)) (x1:((List Int)×Int)):Option (((List Int)×Int) ⊕ (List Int)):=
 bif decide (x1.2<(a1.length:Int)) then
 ((dF a1 x1.2).bind λv2=>
 (vH a0 v2).bind λv3=>
 bif decide (x1.1.length+[v3].length ≤4294967296) then
 (some (.inl ((x1.1++[v3]),wr (x1.2+1))))
 else none)
 else
 (some (.inr x1.1))
def wL (a0:Int) (a1:(List Mt)):Option (List Int):=
 (Lp (rU a0 a1) ([],0)).bind λy5=>
 some (y5)
theorem aIA (a0:Int) (a1:(List Mt)) (r:(List Int)) (h:wL a0 a1=some r):HasC Tryz.prog 225 [.int a0,.list 3 (a1.map eM)] (.list 1 (r.map eI)):=by
 refine hM [.tmp 4] Tryz.func225 Tryz.ntmps225 k<|sR<|aT k2<|sR<|aT k2<|sQ<|sR<|am k k<|ln k4<|am k k<|an<|tn<|aG<|oB h λy5 hy5 h=>bY (body:=(rU a0 a1)) hy5 (λ(x1:((List Int)×Int))=>mN [(0,.int a0),(5,.own 0 0 x1.1.length),(8,.list 3 (a1.map eM)),(9,.int (a1.length:Int)),(10,.int x1.2)] [(0,⟨1,x1.1.map (ow eI)⟩)] 1) (λr e t=>e= .exit 0∧Ent t (mN [(5,.own 0 0 r.length)] [(0,⟨1,r.map (ow eI)⟩)] 1)) (iC (σ:=sg []) (wP 1 k2 (sO ⟨_,k,⟨k,k,k,k⟩⟩ (bL k2))) (hX k k<|aV) k) ?_ ?_
 ·intro x1 o h;exact sR<|cm k4<|an<|tn<|sQ<|cJ k h (λ_ h=>aE<|tn<|sQ<|aG<|sR<|oB h λv2 hv2 h=>ae (xl hv2 k) k<|lr k7<|ae (cA aO k k) k<|ae (ws k) k<|an<|tn<|rg<|am k k<|am k k<|lp k8<|oB h λv3 hv3 h=>ae (aL (aDx a0 v2 v3 hv3) k (cC k (aI (dH k) aJ))) k<|ae (wl k) k<|cG h λq4 h=>ae (yV aO (l:=x1.1) (m:=[v3]) pE q4 k k k k k k k k k k k k) k<|aa k k<|an<|bC<|tn<|rg<|ae (bF k k) k<|am k k<|an<|tn<|sp h ⟨_,k,(xF [3] (bL k2) (bD k<|aV) k4)⟩) λ_ h=>bB<|aC<|aC<|sp h ⟨_,k,k,(bO (bL k2) (bD k<|aV) k4)⟩
 ·rintro e t ⟨rfl,hent⟩;exact aP<|tn<|aR hent<|sR<|am k k<|aT k2<|aD<|sp h (bG k k k (hO (cU bH k k)))
def oV (a0:Rp) (a1:Rp) (a2:(List Mt)):Option Bool:=
 (dD a0.dims a1.dims).bind λv1=>
 bif v1 then
 ((wL a0.p a2).bind λv3=>
 (dD v3 a0.dims).bind λv4=>
 some (v4))
 else
 (some (false))
theorem aDC (a0:Rp) (a1:Rp) (a2:(List Mt)) (r:Bool) (h:oV a0 a1 a2=some r):HasC Tryz.prog 172 [.agg (eR a0),.agg (eR a1),.list 3 (a2.map eM)] (.bl r):=by
 exact hM [.tmp 6] Tryz.func172 Tryz.ntmps172 k<|sR<|ae (wb k) k<|ae (wb k) k<|aT k2<|sQ<|aS fF<|fp k8<|lp k8<|fp k8<|lp k8<|oB h λv1 hv1 h=>ae (aL (eK a0.dims a1.dims v1 hv1) k (cC k (cC k aJ))) k<|am k k<|oC h (λq2 h=>aM 12 k q2<|fp k8<|lp k8<|am k k<|oB h λv3 hv3 h=>ae (cL bH (aIA a0.p a2 v3 hv3) k3 (cC k (cC k aJ))) k<|fp k8<|lp k8<|oB h λv4 hv4 h=>ae (aL (eK v3 a0.dims v4 hv4) k (vcT k k (cC k aJ))) k<|pk k3<|aa k k<|an<|pA (by kernel_rfl)<|tn<|aD<|dY h k2) λq2 h=>aM 12 k q2<|aK k4<|aK k4<|aK k4<|ak k k<|pk k3<|aa k k<|an<|pA (by kernel_rfl)<|tn<|aD<|dY h k2
def gQ (a0:Rp) (a1:Rp) (a2:(List (List Mt))) (v1:Int) (x1:Int):Option (Int ⊕ (Unit ⊕ ((List Mt)×Bool))):=
 bif decide (x1<min v1 3000) then
 ((rT a0 a1 a2 x1).bind λv3=>
 (oV a0 a1 v3).bind λv4=>
 bif v4 then
 (some (.inr (.inr ((v3,true)))))
 else
 (some (.inl (wr (x1+1)))))
 else
 (some (.inr (.inl ())))
def iS (a0:Rp) (a1:Rp) (a2:(List (List Mt))):Option ((List Mt)×Bool):=
 (qG a0.p (a2.length:Int)).bind λv1=>
 (Lp (gQ a0 a1 a2 v1) 0).bind λy6=>
 Sum.elim (λy7=>
 some (([],false))
 )
 (λy8=>
 some y8
 )
 y6
theorem aAO (a0:Rp) (a1:Rp) (a2:(List (List Mt))) (r:((List Mt)×Bool)) (h:iS a0 a1 a2=some r):HasC Tryz.prog 122 [.agg (eR a0),.agg (eR a1),.list 1 (a2.map (oA 3 eM))] (.tuple [.list 3 (r.1.map eM),.bl r.2]):=by
 refine hM [.tmp 6,.tmp 7] Tryz.func122 Tryz.ntmps122 k<|sR<|ae (wb k) k<|ae (wb k) k<|aa k k<|aT k2<|sQ<|sR<|fp k8<|lp k8<|am k k<|ln k4<|oB h λv1 hv1 h=>ae (aL (aDk a0.p (a2.length:Int) v1 hv1) k (cC k (cC k aJ))) k<|ae (aPm k k) k<|am k k<|an<|tn<|aG<|oB h λy6 hy6 h=>bY (body:=(gQ a0 a1 a2 v1)) hy6 (λ(x1:Int)=>mN [(2,.list 1 (a2.map (oA 3 eM))),(3,.ptr 0 0 0),(4,.ptr 1 0 0),(15,.int (min v1 3000)),(16,.int x1)] [(0,⟨6,[eR a0]⟩),(1,⟨6,[eR a1]⟩)] 2) (λr e t=>Sum.elim (λa=>(λr e t=>e= .exit 0∧Ent t (mN [] [] 0)) a e t) (λb=>(λr e t=>e= .ret∧nL TT [.tmp 6,.tmp 7] (.tuple [.list 3 (r.1.map eM),.bl r.2]) .ret t) b e t) r) (bO (bL k2) (bT k<|bT k<|aV) k4) ?_ ?_
 ·intro x1 o h;exact sR<|cm k4<|an<|tn<|sQ<|cJ k h (λ_ h=>aE<|tn<|sQ<|aG<|sR<|am k k<|aT k2<|sR<|lp k8<|lp k8<|am k k<|am k k<|oB h λv3 hv3 h=>ae (cL aW (aEb a0 a1 a2 x1 v3 hv3) k3 (aI (dH k) (aI (dH k) (cC k (cC k aJ))))) k<|aT k2<|sR<|lp k8<|lp k8<|am k k<|oB h λv4 hv4 h=>ae (aL (aDC a0 a1 v3 v4 hv4) k (aI (dH k) (aI (dH k) (aI (aAg aW k k) aJ)))) k<|an<|tn<|cJ k h (λ_ h=>sR<|am k k<|aa k k<|aT k2<|aD<|bA<|aB<|aB<|sp h ⟨_,k,k,bG k k k (dI k (bU (mB (cU aW k k)) (bU (k) gL)))⟩) λ_ h=>aE<|bC<|tn<|rg<|ae (bF k k) k<|am k k<|an<|tn<|sp h ⟨_,k,(bO (bL k2) (bT k<|bT k<|aV) k4)⟩) λ_ h=>bB<|aC<|aC<|sp h ⟨_,k,k,(bO aV aV k4)⟩
 ·intro e t hX;rcases y6 with y7|y8
  ·obtain ⟨rfl,hent⟩:=hX;exact aP<|tn<|aR hent<|sR<|aa k k<|aT k2<|aD<|sp h (bG k k k (dI k (bU (mB (k)) (bU (k) gL))))
  ·obtain ⟨rfl,hent⟩:=hX;exact bA<|aB<|sp h hent
def uZ (a0:Rp) (a1:Rp):Option Bool:=
 (dD a0.dims a1.dims).bind λv1=>
 bif !v1 then
 (some (true))
 else
 ((lB a0 a0).bind λv3=>
 (lB a0 a1).bind λv4=>
 bif !decide (v4=v3) then
 (some (true))
 else
 ((lB a1 a0).bind λv6=>
 bif !decide (v6=v3) then
 (some (true))
 else
 ((lB a1 a1).bind λv8=>
 some (!decide (v8=v3)))))
theorem aGR (a0:Rp) (a1:Rp) (r:Bool) (h:uZ a0 a1=some r):HasC Tryz.prog 62 [.agg (eR a0),.agg (eR a1)] (.bl r):=by
 exact hM [.tmp 4] Tryz.func62 Tryz.ntmps62 k<|sR<|ae (wb k) k<|ae (wb k) k<|aT k2<|sQ<|sR<|fp k8<|lp k8<|fp k8<|lp k8<|oB h λv1 hv1 h=>ae (aL (eK a0.dims a1.dims v1 hv1) k (cC k (cC k aJ))) k<|ae (dE k) k<|an<|tn<|cJ k h (λ_ h=>sR<|aT k2<|aD<|aB<|dY h k2) λ_ h=>aE<|tn<|sR<|lp k8<|lp k8<|oB h λv3 hv3 h=>ae (aL (uT a0 a0 v3 hv3) k (aI (dH k) (aI (dH k) aJ))) k<|aT k2<|sR<|lp k8<|lp k8<|oB h λv4 hv4 h=>ae (aL (uT a0 a1 v4 hv4) k (aI (dH k) (aI (dH k) aJ))) k<|am k k<|cm k4<|am k k<|oC h (λq5 h=>aM 20 k q5<|aK k4<|aK k4<|ak k k<|pk k3<|am k k<|aK k4<|aK k4<|ak k k<|pk k3<|aT k2<|aD<|dY h k2) λq5 h=>aM 20 k q5<|lp k8<|lp k8<|oB h λv6 hv6 h=>ae (aL (uT a1 a0 v6 hv6) k (aI (dH k) (aI (dH k) aJ))) k<|am k k<|cm k4<|pk k3<|am k k<|oC h (λq7 h=>aM 27 k q7<|aK k4<|aK k4<|ak k k<|pk k3<|aT k2<|aD<|dY h k2) λq7 h=>aM 27 k q7<|lp k8<|lp k8<|oB h λv8 hv8 h=>ae (aL (uT a1 a1 v8 hv8) k (aI (dH k) (aI (dH k) aJ))) k<|am k k<|cm k4<|pk k3<|aT k2<|aD<|dY h k2
def oW (a0:(List Mt)) (x1:((List Int)×Int)):Option (((List Int)×Int) ⊕ (List Int)):=
 bif decide (x1.2<(a0.length:Int)) then
 ((dF a0 x1.2).bind λv2=>
 bif decide (x1.1.length+v2.cells.length≤4294967296) then
 (some (.inl ((x1.1++v2.cells),wr (x1.2+1))))
 else none)
 else
 (some (.inr x1.1))
def tR (a0:(List Mt)):Option (List Int):=
 (Lp (oW a0) (([]:(List Int)),0)).bind λy4=>
 some (y4)
theorem aFy (a0:(List Mt)) (r:(List Int)) (h:tR a0=some r):HasC Tryz.prog 216 [.list 3 (a0.map eM)] (.list 1 (r.map eI)):=by
 refine hM [.tmp 2] Tryz.func216 Tryz.ntmps216 k<|sR<|aT k2<|sR<|ae (wl k) k<|aT k2<|aR (t:=mN [(0,.list 3 (a0.map eM)),(3,.own 0 0 (([]:(List Int)).length))] [(0,⟨1,List.map (ow eI) ([]:(List Int))⟩)] 1) (bO (wP 1 k2 (sO ⟨_,k,⟨k,k,(by simp only [aU,lA,lT,lR,lC,lN]),k⟩⟩ aV)) (bD k<|aV) k4)<|sQ<|sR<|aT k2<|aG<|oB h λy4 hy4 h=>bY (body:=(oW a0)) hy4 (λ(x1:((List Int)×Int))=>mN [(0,.list 3 (a0.map eM)),(3,.own 0 0 x1.1.length),(4,.int x1.2)] [(0,⟨1,x1.1.map (ow eI)⟩)] 1) (λr e t=>e= .exit 0∧Ent t (mN [(3,.own 0 0 r.length)] [(0,⟨1,r.map (ow eI)⟩)] 1)) (bO (bL k2) (bD k<|aV) k4) ?_ ?_
 ·intro x1 o h;exact sQ<|sR<|am k k<|am k k<|ln k4<|cm k4<|an<|tn<|cJ k h (λ_ h=>aE<|tn<|sQ<|aG<|rg<|am k k<|am k k<|am k k<|oB h λv2 hv2 h=>ae (xl hv2 k) k<|ae (cO aO k k k k k k) k<|lr k7<|cG h λq3 h=>ae (yV aO (l:=x1.1) (m:=v2.cells) pE q3 k k k k k k k k k k k k) k<|aa k k<|an<|bC<|tn<|rg<|am k k<|ae (bF k k) k<|aT k2<|sp h ⟨_,k,(xF [1] (bL k2) (bD k<|aV) k4)⟩) λ_ h=>bB<|aC<|aC<|sp h ⟨_,k,k,(bO (bL k2) (bD k<|aV) k4)⟩
 ·rintro e t ⟨rfl,hent⟩;exact aP<|tn<|aR hent<|sR<|am k k<|aT k2<|aD<|sp h (bG k k k (hO (cU bH k k)))
def lW (a0:Rp) (v4:(List Int)) (x1:(Int×(List Int)×Int)) (x2:((List Int)×Int)):Option (((List Int)×Int) ⊕ (List Int)):=
 bif decide (x2.2<((v4.length:Nat):Int)) then
 ((dF x2.1 x2.2).bind λv6=>
 (dF v4 x2.2).bind λv7=>
 (fC a0.p (wr (v6+(wr ((x1.1.tmod a0.p)*v7))))).bind λv8=>
 (dF x2.1 x2.2).bind λv9=>
 some (.inl ((x2.1.set x2.2.toNat v8),wr (x2.2+1))))
 else
 (some (.inr x2.1))
def lX (a0:Rp) (a2:(List (List Mt))) (x1:(Int×(List Int)×Int)):Option ((Int×(List Int)×Int) ⊕ (List Int)):=
 bif decide (0≤x1.2.2) then
 (bif !decide (a0.p=0) then
 (bif !decide (a0.p=0) then
 ((dF a2 x1.2.2).bind λv3=>
 (tR v3).bind λv4=>
 (Lp (lW a0 v4 x1) (x1.2.1,0)).bind λy10=>
 some (.inl (wr (x1.1.tdiv a0.p),y10,wr (x1.2.2 - 1))))
 else none)
 else none)
 else
 (some (.inr x1.2.1))
def iY (a0:Rp) (a1:Rp) (a2:(List (List Mt))) (a3:Int):Option (List Mt):=
 (pJ a0 a1).bind λv1=>
 bif (decide (0≤v1)&&decide (v1≤1048576)) then
 ((Lp (lX a0 a2) (a3,(List.replicate v1.toNat (0:Int)),wr ((a2.length:Int) - 1))).bind λy13=>
 (iE a0 a1 y13).bind λv14=>
 some (v14))
 else none
theorem uL (a0:Rp) (a1:Rp) (a2:(List (List Mt))) (a3:Int) (r:(List Mt)) (h:iY a0 a1 a2 a3=some r):HasC Tryz.prog 166 [.agg (eR a0),.agg (eR a1),.list 1 (a2.map (oA 3 eM)),.int a3] (.list 3 (r.map eM)):=by
 refine hM [.tmp 8] Tryz.func166 Tryz.ntmps166 k<|sR<|ae (wb k) k<|ae (wb k) k<|aT k2<|sR<|lp k8<|lp k8<|oB h λv1 hv1 h=>ae (aL (aAp a0 a1 v1 hv1) k (aI (dH k) (aI (dH k) aJ))) k<|cG h λq15 h=>ae (yH aO q15 k k k k k k k k) k<|aT k2<|aR (t:=mN [(2,.list 1 (a2.map (oA 3 eM))),(3,.int a3),(4,.ptr 0 0 0),(5,.ptr 1 0 0),(9,.own 2 0 ((List.replicate v1.toNat (0:Int)).length))] [(0,⟨6,[eR a0]⟩),(1,⟨6,[eR a1]⟩),(2,⟨1,List.map (ow eI) (List.replicate v1.toNat (0:Int))⟩)] 3) (bO (wP 4 k2 (sO ⟨_,k,⟨k,k,(by simp only [aU,lA,lT,lR,lC,lN]),k⟩⟩ aV)) (bT k<|bT k<|hX ⟨_,k,k,.inl ⟨aAE (e:=eI) (z:=0) _,bH.plainO _⟩⟩ k<|aV) k4)<|sQ<|sR<|am k k<|ln k4<|ae (qI k k) k<|aT k2<|aG<|oB h λy13 hy13 h=>bY (body:=(lX a0 a2)) hy13 (λ(x1:(Int×(List Int)×Int))=>mN [(2,.list 1 (a2.map (oA 3 eM))),(3,.int x1.1),(4,.ptr 0 0 0),(5,.ptr 1 0 0),(9,.own 2 0 x1.2.1.length),(10,.int x1.2.2)] [(0,⟨6,[eR a0]⟩),(1,⟨6,[eR a1]⟩),(2,⟨1,x1.2.1.map (ow eI)⟩)] 3) (λr e t=>e= .exit 0∧Ent t (mN [(4,.ptr 0 0 0),(5,.ptr 1 0 0),(9,.own 2 0 r.length)] [(0,⟨6,[eR a0]⟩),(1,⟨6,[eR a1]⟩),(2,⟨1,r.map (ow eI)⟩)] 3)) (bO (bL k2) (bT k<|bT k<|bD k<|aV) k4) ?_ ?_
 ·intro x1 o h;refine sQ<|sR<|am k k<|cm k4<|an<|tn<|cJ k h (λ_ h=>?_) λ_ h=>bB<|aC<|aC<|sp h ⟨_,k,k,(bO (bL k2) (bT k<|bT k<|bD k<|aV) k4)⟩;refine aE<|tn<|sQ<|aG<|sR<|am k k<|fp k8<|lp k8<|cG h λq12 h=>ae (aBY k k q12) k<|aT k2<|sR<|am k k<|fp k8<|lp k8<|cG h λq11 h=>ae (aOj k k q11) k<|aT k2<|sR<|am k k<|am k k<|oB h λv3 hv3 h=>ae (xl hv3 k) k<|lr k7<|oB h λv4 hv4 h=>ae (cL bH (aFy v3 v4 hv4) k3 (cC k aJ)) k ?_;refine aT k2<|sR<|aT k2<|aG<|oB h λy10 hy10 h=>bY (body:=(lW a0 v4 x1)) hy10 (λ(x2:((List Int)×Int))=>mN [(2,.list 1 (a2.map (oA 3 eM))),(3,.int (wr (x1.1.tdiv a0.p))),(4,.ptr 0 0 0),(5,.ptr 1 0 0),(9,.own 2 0 x2.1.length),(10,.int x1.2.2),(11,.int (x1.1.tmod a0.p)),(12,.own 3 0 v4.length),(13,.int x2.2)] [(0,⟨6,[eR a0]⟩),(1,⟨6,[eR a1]⟩),(2,⟨1,x2.1.map (ow eI)⟩),(3,⟨1,v4.map (ow eI)⟩)] 4) (λr e t=>e= .exit 2∧Ent t (mN [(2,.list 1 (a2.map (oA 3 eM))),(3,.int (wr (x1.1.tdiv a0.p))),(4,.ptr 0 0 0),(5,.ptr 1 0 0),(9,.own 2 0 r.length),(10,.int x1.2.2)] [(0,⟨6,[eR a0]⟩),(1,⟨6,[eR a1]⟩),(2,⟨1,r.map (ow eI)⟩)] 3)) (bO (bL k2) (bT k<|bT k<|bD k<|bD k<|aV) k4) ?_ ?_
  ·intro x2 o h;refine sQ<|sR<|am k k<|am k k<|ae (dO aO k k k k) k<|cm k4<|an<|tn<|cJ k h (λ_ h=>?_) λ_ h=>bB<|aC<|aC<|sp h ⟨_,k,k,(bO (bL k2) (bT k<|bT k<|bD k<|aV) k4)⟩;refine aE<|tn<|sQ<|aG<|aS fF<|am k k<|am k k<|fp k8<|lp k8<|am k k<|am k k<|oB h λv6 hv6 h=>ae (xo hv6 k) k<|ae (wp hv6 k) k<|am k k<|am k k<|am k k<|oB h λv7 hv7 h=>ae (xo hv7 k) k<|ae (wp hv7 k) k<|ae (eZ k k) k<|ae (bF k k) k<|oB h λv8 hv8 h=>ae (aL (iL a0.p (wr (v6+(wr ((x1.1.tmod a0.p)*v7)))) v8 hv8) k (cC k (cC k aJ))) k<|oB h λv9 hv9 h=>ae (xo hv9 k) k<|ae (gO aO pE (u:=v8) (dU hv9) k k k k k k) k<|an<|pA (by kernel_rfl)<|bC<|tn<|rg<|am k k ?_;exact ae (bF k k) k<|aT k2<|sp h ⟨_,k,(bO (wP 4 k2 (sO ⟨_,k,⟨k,k,(by simp only [aU,lA,lT,lR,lC,lN]),k⟩⟩ (bL k2))) (bT k<|bT k<|bD k<|bD k<|aV) k4)⟩
  ·rintro e t ⟨rfl,hent⟩;exact aP<|bC<|tn<|aR hent<|rg<|am k k<|ae (qI k k) k<|aT k2<|sp h ⟨_,k,(bO (bL k2) (bT k<|bT k<|bD k<|aV) k4)⟩
 ·rintro e t ⟨rfl,hent⟩;exact aP<|tn<|aR hent<|sR<|lp k8<|lp k8<|am k k<|oB h λv14 hv14 h=>ae (cL aW (aAV a0 a1 y13 v14 hv14) k3 (aI (dH k) (aI (dH k) (vcT k k aJ)))) k<|aT k2<|aD<|sp h (bG k k k (hO (cU aW k k)))
def jP (a0:Rp) (a1:Rp) (a2:(List Mt)) (x1:Int):Option (Int ⊕ (Unit ⊕ Bool)):=
 bif decide (x1<(a2.length:Int)) then
 ((dF a2 x1).bind λv5=>
 (jW a0.p v5).bind λv6=>
 bif !v6 then
 (some (.inr (.inr (false))))
 else
 ((dF a2 x1).bind λv8=>
 (dF a0.dims x1).bind λv9=>
 bif !decide (v8.cols=v9) then
 (some (.inr (.inr (false))))
 else
 ((dF a2 x1).bind λv11=>
 (dF a1.dims x1).bind λv12=>
 bif !decide (v11.rows=v12) then
 (some (.inr (.inr (false))))
 else
 (some (.inl (wr (x1+1)))))))
 else
 (some (.inr (.inl ())))
def nJ (a0:Rp) (a1:Rp) (a2:(List Mt)):Option Bool:=
 (iM a0 a1).bind λv1=>
 bif !v1 then
 (some (false))
 else
 (bif !decide ((a2.length:Int)=(a0.dims.length:Int)) then
 (some (false))
 else
 ((Lp (jP a0 a1 a2) 0).bind λy14=>
 Sum.elim (λy15=>
 some (true)
 )
 (λy16=>
 some y16
 )
 y14))
theorem aBw (a0:Rp) (a1:Rp) (a2:(List Mt)) (r:Bool) (h:nJ a0 a1 a2=some r):HasC Tryz.prog 262 [.agg (eR a0),.agg (eR a1),.list 3 (a2.map eM)] (.bl r):=by
 refine hM [.tmp 6] Tryz.func262 Tryz.ntmps262 k<|sR<|ae (wb k) k<|ae (wb k) k<|aT k2<|sQ<|sR<|lp k8<|lp k8<|oB h λv1 hv1 h=>ae (aL (wF a0 a1 v1 hv1) k (aI (dH k) (aI (dH k) aJ))) k<|ae (dE k) k<|am k k<|oC h (λq2 h=>aM 12 k q2<|aK k4<|aK k4<|aK k4<|pk k3<|an<|tn<|dT k k<|sR<|aT k2<|aD<|aB<|dY h k2) λq2 h=>?_;refine aM 12 k q2<|am k k<|ln k4<|fp k8<|lp k8<|ln k4<|cm k4<|pk k3<|an<|tn<|cJ k h (λ_ h=>sR<|aT k2<|aD<|aB<|dY h k2) λ_ h=>?_;refine aE<|tn<|sQ<|sR<|aT k2<|aG<|oB h λy14 hy14 h=>bY (body:=(jP a0 a1 a2)) hy14 (λ(x1:Int)=>mN [(2,.list 3 (a2.map eM)),(3,.ptr 0 0 0),(4,.ptr 1 0 0),(7,.int x1)] [(0,⟨6,[eR a0]⟩),(1,⟨6,[eR a1]⟩)] 2) (λr e t=>Sum.elim (λa=>(λr e t=>e= .exit 0∧Ent t (mN [] [] 0)) a e t) (λb=>(λr e t=>e= .ret∧nL TT [.tmp 6] (.bl r) .ret t) b e t) r) (bO (bL k2) (bT k<|bT k<|aV) k4) ?_ ?_
 ·intro x1 o h;refine sQ<|sR<|am k k<|am k k<|ln k4<|cm k4<|an<|tn<|cJ k h (λ_ h=>?_) λ_ h=>bB<|aC<|aC<|sp h ⟨_,k,k,(bO aV aV k4)⟩;refine aE<|tn<|sQ<|aG<|sQ<|aS fF<|fp k8<|lp k8<|am k k<|am k k<|oB h λv5 hv5 h=>ae (xl hv5 k) k<|lr k7<|oB h λv6 hv6 h=>ae (aL (vS a0.p v5 v6 hv6) k (cC k (aI (dH k) aJ))) k<|ae (dE k) k<|am k k<|oC h (λq7 h=>?_) λq7 h=>?_
  ·refine aM 34 k q7<|aK k4<|aK k4<|aK k4<|aK k4<|aK k4<|ak k k<|pk k3<|am k k<|aK k4<|aK k4<|aK k4<|aK k4<|aK k4<|ak k k<|pk k3<|an<|pA (by kernel_rfl)<|tn<|aR (t:=mN [(2,.list 3 (a2.map eM)),(3,.ptr 0 0 0),(4,.ptr 1 0 0),(7,.int x1),(59,.bl true)] [(0,⟨6,[eR a0]⟩),(1,⟨6,[eR a1]⟩)] 2) (bO (bL k2) (bT k<|bT k<|aV) k4) ?_;exact dT k k<|sR<|aT k2<|aD<|bA<|aB<|aB<|sp h ⟨_,k,k,bG k k k (nM k)⟩
  ·exact aM 34 k q7<|am k k<|am k k<|oB h λv8 hv8 h=>ae (xl hv8 k) k<|ae (cO aO k k k k k k) k<|lr k7<|fp k8<|lp k8<|am k k<|oB h λv9 hv9 h=>ae (xl hv9 k) k<|lr k7<|cm k4<|pk k3<|am k k<|oC h (λq10 h=>aM 47 k q10<|aK k4<|aK k4<|aK k4<|aK k4<|aK k4<|ak k k<|pk k3<|an<|pA (by kernel_rfl)<|tn<|aR (t:=mN [(2,.list 3 (a2.map eM)),(3,.ptr 0 0 0),(4,.ptr 1 0 0),(7,.int x1),(59,.bl true)] [(0,⟨6,[eR a0]⟩),(1,⟨6,[eR a1]⟩)] 2) (bO (bL k2) (bT k<|bT k<|aV) k4)<|dT k k<|sR<|aT k2<|aD<|bA<|aB<|aB<|sp h ⟨_,k,k,bG k k k (nM k)⟩) λq10 h=>aM 47 k q10<|am k k<|am k k<|oB h λv11 hv11 h=>ae (xl hv11 k) k<|ae (cO aO k k k k k k) k<|lr k7<|fp k8<|lp k8<|am k k<|oB h λv12 hv12 h=>ae (xl hv12 k) k<|lr k7<|cm k4<|pk k3<|an<|pA (by kernel_rfl)<|tn<|aR (t:=mN [(2,.list 3 (a2.map eM)),(3,.ptr 0 0 0),(4,.ptr 1 0 0),(7,.int x1),(59,.bl (!decide (v11.rows=v12)))] [(0,⟨6,[eR a0]⟩),(1,⟨6,[eR a1]⟩)] 2) (bO (bL k2) (bT k<|bT k<|aV) k4)<|cJ k h (λ_ h=>sR<|aT k2<|aD<|bA<|aB<|aB<|sp h ⟨_,k,k,bG k k k (nM k)⟩) λ_ h=>aE<|bC<|tn<|rg<|am k k<|ae (bF k k) k<|aT k2<|sp h ⟨_,k,(bO (bL k2) (bT k<|bT k<|aV) k4)⟩
 ·intro e t hX;rcases y14 with y15|y16
  ·obtain ⟨rfl,hent⟩:=hX;exact aP<|tn<|aR hent<|sR<|aT k2<|aD<|dY h k2
  ·obtain ⟨rfl,hent⟩:=hX;exact bA<|aB<|sp h hent
def kR (a0:Rp) (a1:Rp) (a2:(List Mt)) (x1:Int):Option (Int ⊕ (Unit ⊕ Bool)):=
 bif decide (x1<(a0.maps.length:Int)) then
 ((dF a1.maps x1).bind λv4=>
 (dF a0.q.src x1).bind λv5=>
 (dF a2 v5).bind λv6=>
 (kG a0.p v4 v6).bind λv7=>
 (dF a0.q.tgt x1).bind λv8=>
 (dF a2 v8).bind λv9=>
 (dF a0.maps x1).bind λv10=>
 (kG a0.p v9 v10).bind λv11=>
 (kI v7 v11).bind λv12=>
 bif !v12 then
 (some (.inr (.inr (false))))
 else
 (some (.inl (wr (x1+1)))))
 else
 (some (.inr (.inl ())))
def iA (a0:Rp) (a1:Rp) (a2:(List Mt)):Option Bool:=
 (nJ a0 a1 a2).bind λv1=>
 bif !v1 then
 (some (false))
 else
 ((Lp (kR a0 a1 a2) 0).bind λy14=>
 Sum.elim (λy15=>
 some (true)
 )
 (λy16=>
 some y16
 )
 y14)
theorem tS (a0:Rp) (a1:Rp) (a2:(List Mt)) (r:Bool) (h:iA a0 a1 a2=some r):HasC Tryz.prog 240 [.agg (eR a0),.agg (eR a1),.list 3 (a2.map eM)] (.bl r):=by
 refine hM [.tmp 6] Tryz.func240 Tryz.ntmps240 k<|sR<|ae (wb k) k<|ae (wb k) k<|aT k2<|sQ<|sR<|lp k8<|lp k8<|am k k<|oB h λv1 hv1 h=>ae (aL (aBw a0 a1 a2 v1 hv1) k (aI (dH k) (aI (dH k) (cC k aJ)))) k<|ae (dE k) k<|an<|tn<|cJ k h (λ_ h=>sR<|aT k2<|aD<|aB<|dY h k2) λ_ h=>?_;refine aE<|tn<|sQ<|sR<|aT k2<|aG<|oB h λy14 hy14 h=>bY (body:=(kR a0 a1 a2)) hy14 (λ(x1:Int)=>mN [(2,.list 3 (a2.map eM)),(3,.ptr 0 0 0),(4,.ptr 1 0 0),(7,.int x1)] [(0,⟨6,[eR a0]⟩),(1,⟨6,[eR a1]⟩)] 2) (λr e t=>Sum.elim (λa=>(λr e t=>e= .exit 0∧Ent t (mN [] [] 0)) a e t) (λb=>(λr e t=>e= .ret∧nL TT [.tmp 6] (.bl r) .ret t) b e t) r) (bO (bL k2) (bT k<|bT k<|aV) k4) ?_ ?_
 ·intro x1 o h;refine sQ<|sR<|am k k<|fp k8<|lp k8<|ln k4<|cm k4<|an<|tn<|cJ k h (λ_ h=>?_) λ_ h=>bB<|aC<|aC<|sp h ⟨_,k,k,(bO aV aV k4)⟩;refine aE<|tn<|sQ<|aG<|sQ<|aS fF<|fp k8<|lp k8<|fp k8<|lp k8<|am k k<|oB h λv4 hv4 h=>ae (xl hv4 k) k<|lr k7<|am k k<|fp k8<|fp k8<|lp k8<|am k k<|oB h λv5 hv5 h=>ae (xl hv5 k) k<|lr k7<|oB h λv6 hv6 h=>ae (xl hv6 k) k<|lr k7<|oB h λv7 hv7 h=>ae (cM (xT a0.p v4 v6 v7 hv7) k3 (cC k (aI (dH k) (aI (dH k) aJ)))) k<|ae (cA aO k k) k<|ae (ws k) k<|an<|pA (by kernel_rfl)<|tn<|aR (t:=mN [(2,.list 3 (a2.map eM)),(3,.ptr 0 0 0),(4,.ptr 1 0 0),(7,.int x1),(8,.ptr 3 0 0)] [(0,⟨6,[eR a0]⟩),(1,⟨6,[eR a1]⟩),(2,⟨1,v7.cells.map (ow eI)⟩),(3,⟨3,[oMt v7 2]⟩)] 4) (bO (bL k2) (bT k<|bT k<|bD k<|fK k<|aV) k4) ?_;refine sQ<|aS fF<|fp k8<|lp k8<|am k k<|fp k8<|fp k8<|lp k8<|am k k<|oB h λv8 hv8 h=>ae (xl hv8 k) k<|lr k7<|oB h λv9 hv9 h=>ae (xl hv9 k) k<|lr k7<|fp k8<|lp k8<|am k k<|oB h λv10 hv10 h=>ae (xl hv10 k) k<|lr k7<|oB h λv11 hv11 h=>ae (cM (xT a0.p v9 v10 v11 hv11) k3 (cC k (aI (dH k) (aI (dH k) aJ)))) k<|ae (cA aO k k) k<|ae (ws k) k<|an<|pA (by kernel_rfl)<|tn<|sR<|lp k8<|lp k8<|oB h λv12 hv12 h=>ae (aL (aAk v7 v11 v12 hv12) k (aI (vaM k2) (aI (vaM k2) aJ))) k<|ae (dE k) k ?_;exact an<|tn<|cJ k h (λ_ h=>sR<|aT k2<|aR (t:=mN [(6,.bl false)] [] 6) (bO (bL k2) aV k4)<|aD<|bA<|aB<|aB<|sp h ⟨_,k,k,bG k k k (nM k)⟩) λ_ h=>aE<|bC<|tn<|rg<|am k k<|ae (bF k k) k<|aT k2<|sp h ⟨_,k,(bO (bL k2) (bT k<|bT k<|aV) k4)⟩
 ·intro e t hX;rcases y14 with y15|y16
  ·obtain ⟨rfl,hent⟩:=hX;exact aP<|tn<|aR hent<|sR<|aT k2<|aD<|dY h k2
  ·obtain ⟨rfl,hent⟩:=hX;exact bA<|aB<|sp h hent
def kS (a0:Rp) (a1:Rp) (a2:(List Mt)) (x1:((List Int)×Int)):Option (((List Int)×Int) ⊕ (List Int)):=
 bif decide (x1.2<(a2.length:Int)) then
 ((iA a0 a1 a2).bind λv2=>
 bif v2 then
 ((dF a2 x1.2).bind λv4=>
 (uP a0.p v4).bind λv5=>
 bif decide (x1.1.length+[v5].length ≤4294967296) then
 (some (.inl ((x1.1++[v5]),wr (x1.2+1))))
 else none)
 else
 (some (.inr x1.1)))
 else
 (some (.inr x1.1))
def kT (a0:Rp) (a1:Rp) (a2:(List Mt)):Option (List Int):=
 (Lp (kS a0 a1 a2) (([]:(List Int)),0)).bind λy7=>
 some (y7)
theorem yA (a0:Rp) (a1:Rp) (a2:(List Mt)) (r:(List Int)) (h:kT a0 a1 a2=some r):HasC Tryz.prog 241 [.agg (eR a0),.agg (eR a1),.list 3 (a2.map eM)] (.list 1 (r.map eI)):=by
 refine hM [.tmp 6] Tryz.func241 Tryz.ntmps241 k<|sR<|ae (wb k) k<|ae (wb k) k<|aT k2<|sR<|ae (wl k) k<|aT k2<|aR (t:=mN [(2,.list 3 (a2.map eM)),(3,.ptr 0 0 0),(4,.ptr 1 0 0),(7,.own 2 0 (([]:(List Int)).length))] [(0,⟨6,[eR a0]⟩),(1,⟨6,[eR a1]⟩),(2,⟨1,List.map (ow eI) ([]:(List Int))⟩)] 3) (bO (wP 3 k2 (sO ⟨_,k,⟨k,k,(by simp only [aU,lA,lT,lR,lC,lN]),k⟩⟩ aV)) (bT k<|bT k<|bD k<|aV) k4)<|sQ<|sR<|aT k2<|aG<|oB h λy7 hy7 h=>bY (body:=(kS a0 a1 a2)) hy7 (λ(x1:((List Int)×Int))=>mN [(2,.list 3 (a2.map eM)),(3,.ptr 0 0 0),(4,.ptr 1 0 0),(7,.own 2 0 x1.1.length),(8,.int x1.2)] [(0,⟨6,[eR a0]⟩),(1,⟨6,[eR a1]⟩),(2,⟨1,x1.1.map (ow eI)⟩)] 3) (λr e t=>e= .exit 0∧Ent t (mN [(7,.own 0 0 r.length)] [(0,⟨1,r.map (ow eI)⟩)] 1)) (bO (bL k2) (bT k<|bT k<|bD k<|aV) k4) ?_ ?_
 ·intro x1 o h;exact sQ<|sR<|am k k<|am k k<|ln k4<|cm k4<|am k k<|oC h (λq1 h=>aM 14 k q1<|lp k8<|lp k8<|am k k<|oB h λv2 hv2 h=>ae (aL (tS a0 a1 a2 v2 hv2) k (aI (dH k) (aI (dH k) (cC k aJ)))) k<|pk k3<|an<|tn<|cJ k h (λ_ h=>aE<|tn<|sQ<|aG<|aS fF<|am k k<|fp k8<|lp k8<|am k k<|am k k<|oB h λv4 hv4 h=>ae (xl hv4 k) k<|lr k7<|oB h λv5 hv5 h=>ae (aL (aGJ a0.p v4 v5 hv5) k (cC k (aI (dH k) aJ))) k<|ae (wl k) k<|cG h λq6 h=>ae (yV aO (l:=x1.1) (m:=[v5]) pE q6 k k k k k k k k k k k k) k<|aa k k<|an<|pA (by kernel_rfl)<|bC<|tn<|rg<|am k k<|ae (bF k k) k<|aT k2<|sp h ⟨_,k,(xF [0,1,4] (bL k2) (bT k<|bT k<|bD k<|aV) k4)⟩) λ_ h=>bB<|aC<|aC<|sp h ⟨_,k,k,(xF [2] (bL k2) (bD k<|aV) k4)⟩) λq1 h=>aM 14 k q1<|aK k4<|aK k4<|pk k3<|an<|tn<|vC k k<|bB<|aC<|aC<|sp h ⟨_,k,k,(xF [2] (bL k2) (bD k<|aV) k4)⟩
 ·rintro e t ⟨rfl,hent⟩;exact aP<|tn<|aR hent<|sR<|am k k<|aT k2<|aD<|sp h (bG k k k (hO (cU bH k k)))
def sH (a0:Rp) (a1:Rp) (a2:(List Mt)):Option Bool:=
 (iA a0 a1 a2).bind λv1=>
 bif v1 then
 ((kT a0 a1 a2).bind λv3=>
 (iV v3 a0.dims).bind λv4=>
 some (v4))
 else
 (some (false))
theorem aBx (a0:Rp) (a1:Rp) (a2:(List Mt)) (r:Bool) (h:sH a0 a1 a2=some r):HasC Tryz.prog 217 [.agg (eR a0),.agg (eR a1),.list 3 (a2.map eM)] (.bl r):=by
 exact hM [.tmp 6] Tryz.func217 Tryz.ntmps217 k<|sR<|ae (wb k) k<|ae (wb k) k<|aT k2<|sQ<|aS fF<|lp k8<|lp k8<|am k k<|oB h λv1 hv1 h=>ae (aL (tS a0 a1 a2 v1 hv1) k (aI (dH k) (aI (dH k) (cC k aJ)))) k<|am k k<|oC h (λq2 h=>aM 11 k q2<|lp k8<|lp k8<|am k k<|oB h λv3 hv3 h=>ae (cL bH (yA a0 a1 a2 v3 hv3) k3 (aI (dH k) (aI (dH k) (cC k aJ)))) k<|fp k8<|lp k8<|oB h λv4 hv4 h=>ae (aL (nS v3 a0.dims v4 hv4) k (vcT k k (cC k aJ))) k<|pk k3<|aa k k<|an<|pA (by kernel_rfl)<|tn<|aD<|dY h k2) λq2 h=>aM 11 k q2<|aK k4<|aK k4<|aK k4<|ak k k<|pk k3<|aa k k<|an<|pA (by kernel_rfl)<|tn<|aD<|dY h k2
def qL (a0:Rp) (a1:Rp) (a2:(List Mt)):Option Bool:=
 (iA a0 a1 a2).bind λv1=>
 bif v1 then
 ((kT a0 a1 a2).bind λv3=>
 (iV v3 a1.dims).bind λv4=>
 some (v4))
 else
 (some (false))
theorem aBX (a0:Rp) (a1:Rp) (a2:(List Mt)) (r:Bool) (h:qL a0 a1 a2=some r):HasC Tryz.prog 218 [.agg (eR a0),.agg (eR a1),.list 3 (a2.map eM)] (.bl r):=by
 exact hM [.tmp 6] Tryz.func218 Tryz.ntmps218 k<|sR<|ae (wb k) k<|ae (wb k) k<|aT k2<|sQ<|aS fF<|lp k8<|lp k8<|am k k<|oB h λv1 hv1 h=>ae (aL (tS a0 a1 a2 v1 hv1) k (aI (dH k) (aI (dH k) (cC k aJ)))) k<|am k k<|oC h (λq2 h=>aM 11 k q2<|lp k8<|lp k8<|am k k<|oB h λv3 hv3 h=>ae (cL bH (yA a0 a1 a2 v3 hv3) k3 (aI (dH k) (aI (dH k) (cC k aJ)))) k<|fp k8<|lp k8<|oB h λv4 hv4 h=>ae (aL (nS v3 a1.dims v4 hv4) k (vcT k k (cC k aJ))) k<|pk k3<|aa k k<|an<|pA (by kernel_rfl)<|tn<|aD<|dY h k2) λq2 h=>aM 11 k q2<|aK k4<|aK k4<|aK k4<|ak k k<|pk k3<|aa k k<|an<|pA (by kernel_rfl)<|tn<|aD<|dY h k2
def fN (a0:Rp) (a1:Rp) (a2:(List Mt)):Option Bool:=
 (sH a0 a1 a2).bind λv1=>
 bif v1 then
 ((qL a0 a1 a2).bind λv3=>
 some (v3))
 else
 (some (false))
theorem pM (a0:Rp) (a1:Rp) (a2:(List Mt)) (r:Bool) (h:fN a0 a1 a2=some r):HasC Tryz.prog 167 [.agg (eR a0),.agg (eR a1),.list 3 (a2.map eM)] (.bl r):=by
 exact hM [.tmp 6] Tryz.func167 Tryz.ntmps167 k<|sR<|ae (wb k) k<|ae (wb k) k<|aT k2<|sR<|lp k8<|lp k8<|am k k<|oB h λv1 hv1 h=>ae (aL (aBx a0 a1 a2 v1 hv1) k (aI (dH k) (aI (dH k) (cC k aJ)))) k<|am k k<|oC h (λq2 h=>aM 11 k q2<|lp k8<|lp k8<|am k k<|oB h λv3 hv3 h=>ae (aL (aBX a0 a1 a2 v3 hv3) k (aI (dH k) (aI (dH k) (cC k aJ)))) k<|pk k3<|aT k2<|aD<|dY h k2) λq2 h=>aM 11 k q2<|aK k4<|aK k4<|pk k3<|aT k2<|aD<|dY h k2
def dW (a0:Rp) (v1:Int) (x1:(Int×Int)):Option ((Int×Int) ⊕ (Int ⊕ Int)):=
 bif decide (x1.2<v1) then
 (bif decide (100000<wr (x1.1*a0.p)) then
 (some (.inr (.inr ((-2)))))
 else
 (some (.inl (wr (x1.1*a0.p),wr (x1.2+1)))))
 else
 (some (.inr (.inl x1.1)))
def jQ (a0:Rp) (a1:Rp):Option Int:=
 (iX a0 a1).bind λv1=>
 bif decide (v1<0) then
 (some ((-1)))
 else
 ((Lp (dW a0 v1) (1,0)).bind λy5=>
 Sum.elim (λy6=>
 some (y6)
 )
 (λy7=>
 some y7
 )
 y5)
theorem aAa (a0:Rp) (a1:Rp) (r:Int) (h:jQ a0 a1=some r):HasC Tryz.prog 165 [.agg (eR a0),.agg (eR a1)] (.int r):=by
 refine hM [.tmp 4] Tryz.func165 Tryz.ntmps165 k<|sR<|ae (wb k) k<|ae (wb k) k<|aT k2<|sR<|lp k8<|lp k8<|oB h λv1 hv1 h=>ae (aL (qQ a0 a1 v1 hv1) k (aI (dH k) (aI (dH k) aJ))) k<|aT k2<|sQ<|sR<|am k k<|cm k4<|an<|tn<|cJ k h (λ_ h=>sR<|aT k2<|aD<|aB<|tW h k2) λ_ h=>?_;refine aE<|tn<|sR<|aT k2<|sQ<|sR<|aT k2<|aG<|oB h λy5 hy5 h=>bY (body:=(dW a0 v1)) hy5 (λ(x1:(Int×Int))=>mN [(2,.ptr 0 0 0),(5,.int v1),(6,.int x1.1),(7,.int x1.2)] [(0,⟨6,[eR a0]⟩)] 1) (λr e t=>Sum.elim (λa=>(λr e t=>e= .exit 0∧Ent t (mN [(6,.int r)] [] 0)) a e t) (λb=>(λr e t=>e= .ret∧nL TT [.tmp 4] (.int r) .ret t) b e t) r) (bO (bL k2) (bT k<|aV) k4) ?_ ?_
 ·intro x1 o h;exact sQ<|sR<|am k k<|am k k<|cm k4<|an<|tn<|cJ k h (λ_ h=>aE<|tn<|sQ<|aG<|sR<|am k k<|fp k8<|lp k8<|ae (eZ k k) k<|aT k2<|sR<|am k k<|cm k4<|an<|tn<|cJ k h (λ_ h=>sR<|aT k2<|aD<|bA<|aB<|aB<|sp h ⟨_,k,k,bG k k k (jT k)⟩) λ_ h=>aE<|bC<|tn<|rg<|am k k<|ae (bF k k) k<|aT k2<|sp h ⟨_,k,(bO (bL k2) (bT k<|aV) k4)⟩) λ_ h=>bB<|aC<|aC<|sp h ⟨_,k,k,(bO (bL k2) aV k4)⟩
 ·intro e t hX;rcases y5 with y6|y7
  ·obtain ⟨rfl,hent⟩:=hX;exact aP<|tn<|aR hent<|sR<|am k k<|aT k2<|aD<|tW h k2
  ·obtain ⟨rfl,hent⟩:=hX;exact bA<|aB<|sp h hent
def oX (a0:Rp) (a1:Rp) (v1:((List (List Mt))×Bool)) (x1:Int):Option (Int ⊕ (Unit ⊕ ((List Mt)×Bool×Bool))):=
 bif decide (x1<3000) then
 ((iY a0 a1 v1.1 x1).bind λv5=>
 (fN a0 a1 v5).bind λv6=>
 bif v6 then
 (some (.inr (.inr ((v5,true,true)))))
 else
 (some (.inl (wr (x1+1)))))
 else
 (some (.inr (.inl ())))
def oY (a0:Rp) (a1:Rp) (v1:((List (List Mt))×Bool)) (x2:Int):Option (Int ⊕ (Unit ⊕ ((List Mt)×Bool×Bool))):=
 bif decide (x2<3000) then
 ((iY a0 a1 v1.1 x2).bind λv13=>
 (fN a0 a1 v13).bind λv14=>
 bif v14 then
 (some (.inr (.inr ((v13,true,true)))))
 else
 (some (.inl (wr (x2+1)))))
 else
 (some (.inr (.inl ())))
def oZ (a0:Rp) (a1:Rp) (v1:((List (List Mt))×Bool)) (v2:Int) (x3:Int):Option (Int ⊕ (Unit ⊕ ((List Mt)×Bool×Bool))):=
 bif decide (x3<v2) then
 ((iY a0 a1 v1.1 x3).bind λv20=>
 (fN a0 a1 v20).bind λv21=>
 bif v21 then
 (some (.inr (.inr ((v20,true,true)))))
 else
 (some (.inl (wr (x3+1)))))
 else
 (some (.inr (.inl ())))
def tT (a0:Rp) (a1:Rp):Option ((List Mt)×Bool×Bool):=
 (iF a0 a1).bind λv1=>
 (jQ a0 a1).bind λv2=>
 bif decide (v2<0) then
 ((Lp (oX a0 a1 v1) 0).bind λy8=>
 Sum.elim (λy9=>
 some ((([]:(List Mt)),false,decide (3000=v2)))
 )
 (λy10=>
 some y10
 )
 y8)
 else
 (bif decide (3000<v2) then
 ((Lp (oY a0 a1 v1) 0).bind λy16=>
 Sum.elim (λy17=>
 some ((([]:(List Mt)),false,decide (3000=v2)))
 )
 (λy18=>
 some y18
 )
 y16)
 else
 ((Lp (oZ a0 a1 v1 v2) 0).bind λy23=>
 Sum.elim (λy24=>
 some ((([]:(List Mt)),false,decide (v2=v2)))
 )
 (λy25=>
 some y25
 )
 y23))
theorem aFz (a0:Rp) (a1:Rp) (r:((List Mt)×Bool×Bool)) (h:tT a0 a1=some r):HasC Tryz.prog 115 [.agg (eR a0),.agg (eR a1)] (.tuple [.list 3 (r.1.map eM),.bl r.2.1,.bl r.2.2]):=by
 refine hM [.tmp 4,.tmp 5,.tmp 6] Tryz.func115 Tryz.ntmps115 k<|sR<|ae (wb k) k<|ae (wb k) k<|aa k k<|aa k k<|aT k2<|sR<|lp k8<|lp k8<|oB h λv1 hv1 h=>ae (cT eH (aAW a0 a1 v1 hv1) k3 (aI (dH k) (aI (dH k) aJ))) k<|am k k<|ae (bZ k k (by intro _ h;cases h)) k<|ae (bZ k k (by intro _ h;cases h)) k<|aa k k<|aT k2<|sR<|lp k8<|lp k8<|oB h λv2 hv2 h=>ae (aL (aAa a0 a1 v2 hv2) k (aI (dH k) (aI (dH k) aJ))) k<|aT k2 ?_;refine sR<|am k k<|aT k2<|sQ<|sR<|am k k<|cm k4<|am k k<|oC h (λq3 h=>?_) λq3 h=>?_
 ·refine aM 25 k q3<|aK k4<|pk k3<|an<|tn<|aR (t:=mN [(2,.ptr 0 0 0),(3,.ptr 1 0 0),(7,.own 2 0 v1.1.length),(9,.int v2),(10,.int v2),(28,.bl true)] [(0,⟨6,[eR a0]⟩),(1,⟨6,[eR a1]⟩),(2,⟨1,v1.1.map (ow (oA 3 eM))⟩)] 3) (bO (bL k2) (bT k<|bT k<|cF (eH.plainO _) k<|aV) k4)<|dT k k<|rg<|aT k2<|sQ<|sR<|aT k2<|aG<|oB h λy8 hy8 h=>bY (body:=(oX a0 a1 v1)) hy8 (λ(x1:Int)=>mN [(2,.ptr 0 0 0),(3,.ptr 1 0 0),(7,.own 2 0 v1.1.length),(9,.int v2),(10,.int 3000),(11,.int x1)] [(0,⟨6,[eR a0]⟩),(1,⟨6,[eR a1]⟩),(2,⟨1,v1.1.map (ow (oA 3 eM))⟩)] 3) (λr e t=>Sum.elim (λa=>(λr e t=>e= .exit 0∧Ent t (mN [(9,.int v2),(10,.int 3000)] [] 0)) a e t) (λb=>(λr e t=>e= .ret∧nL TT [.tmp 4,.tmp 5,.tmp 6] (.tuple [.list 3 (r.1.map eM),.bl r.2.1,.bl r.2.2]) .ret t) b e t) r) (bO (bL k2) (bT k<|bT k<|cF (eH.plainO _) k<|aV) k4) ?_ ?_
  ·intro x1 o h;exact sQ<|sR<|am k k<|am k k<|cm k4<|an<|tn<|cJ k h (λ_ h=>aE<|tn<|sQ<|aG<|sR<|lp k8<|lp k8<|am k k<|am k k<|oB h λv5 hv5 h=>ae (cL aW (uL a0 a1 v1.1 x1 v5 hv5) k3 (aI (dH k) (aI (dH k) (aI (aAg eH k k) (cC k aJ))))) k<|aT k2<|sR<|lp k8<|lp k8<|am k k<|oB h λv6 hv6 h=>ae (aL (pM a0 a1 v5 v6 hv6) k (aI (dH k) (aI (dH k) (aI (aAg aW k k) aJ)))) k<|an<|tn<|cJ k h (λ_ h=>sR<|am k k<|aa k k<|aa k k<|aT k2<|aD<|bA<|aB<|aB<|sp h ⟨_,k,k,bG k k k (dI k (bU (mB (cU aW k k)) (bU (k) (bU (k) gL))))⟩) λ_ h=>aE<|bC<|tn<|rg<|am k k<|ae (bF k k) k<|aT k2<|sp h ⟨_,k,(bO (bL k2) (bT k<|bT k<|cF (eH.plainO _) k<|aV) k4)⟩) λ_ h=>bB<|aC<|aC<|sp h ⟨_,k,k,(bO (bL k2) aV k4)⟩
  ·intro e t hX;rcases y8 with y9|y10
   ·obtain ⟨rfl,hent⟩:=hX;exact aP<|tn<|aR hent<|sR<|ae (wl k) k<|am k k<|am k k<|cm k4<|aa k k<|aa k k<|aT k2<|aR (t:=mN [(4,.own 0 0 (([]:(List Mt)).length)),(5,.bl false),(6,.bl (decide (3000=v2)))] [(0,⟨3,List.map (ow eM) ([]:(List Mt))⟩)] 1) (bO (sO ⟨_,k,⟨k,k,(by simp only [aU,lA,lT,lR,lC,lN]),k⟩⟩ (bL k2)) (cF (aW.plainO _) k<|aV) k4)<|aD<|sp h (bG k k k (dI k (bU (mB (cU aW k k)) (bU (k) (bU (k) gL)))))
   ·obtain ⟨rfl,hent⟩:=hX;exact bA<|aB<|sp h hent
 ·refine aM 25 k q3<|am k k<|cm k4<|pk k3<|an<|tn<|aR (t:=mN [(2,.ptr 0 0 0),(3,.ptr 1 0 0),(7,.own 2 0 v1.1.length),(9,.int v2),(10,.int v2),(28,.bl (decide (3000<v2)))] [(0,⟨6,[eR a0]⟩),(1,⟨6,[eR a1]⟩),(2,⟨1,v1.1.map (ow (oA 3 eM))⟩)] 3) (bO (bL k2) (bT k<|bT k<|cF (eH.plainO _) k<|aV) k4)<|cJ k h (λ_ h=>?_) λ_ h=>?_
  ·refine rg<|aT k2<|sQ<|sR<|aT k2<|aG<|oB h λy16 hy16 h=>bY (body:=(oY a0 a1 v1)) hy16 (λ(x2:Int)=>mN [(2,.ptr 0 0 0),(3,.ptr 1 0 0),(7,.own 2 0 v1.1.length),(9,.int v2),(10,.int 3000),(11,.int x2)] [(0,⟨6,[eR a0]⟩),(1,⟨6,[eR a1]⟩),(2,⟨1,v1.1.map (ow (oA 3 eM))⟩)] 3) (λr e t=>Sum.elim (λa=>(λr e t=>e= .exit 0∧Ent t (mN [(9,.int v2),(10,.int 3000)] [] 0)) a e t) (λb=>(λr e t=>e= .ret∧nL TT [.tmp 4,.tmp 5,.tmp 6] (.tuple [.list 3 (r.1.map eM),.bl r.2.1,.bl r.2.2]) .ret t) b e t) r) (bO (bL k2) (bT k<|bT k<|cF (eH.plainO _) k<|aV) k4) ?_ ?_
   ·intro x2 o h;exact sQ<|sR<|am k k<|am k k<|cm k4<|an<|tn<|cJ k h (λ_ h=>aE<|tn<|sQ<|aG<|sR<|lp k8<|lp k8<|am k k<|am k k<|oB h λv13 hv13 h=>ae (cL aW (uL a0 a1 v1.1 x2 v13 hv13) k3 (aI (dH k) (aI (dH k) (aI (aAg eH k k) (cC k aJ))))) k<|aT k2<|sR<|lp k8<|lp k8<|am k k<|oB h λv14 hv14 h=>ae (aL (pM a0 a1 v13 v14 hv14) k (aI (dH k) (aI (dH k) (aI (aAg aW k k) aJ)))) k<|an<|tn<|cJ k h (λ_ h=>sR<|am k k<|aa k k<|aa k k<|aT k2<|aD<|bA<|aB<|aB<|sp h ⟨_,k,k,bG k k k (dI k (bU (mB (cU aW k k)) (bU (k) (bU (k) gL))))⟩) λ_ h=>aE<|bC<|tn<|rg<|am k k<|ae (bF k k) k<|aT k2<|sp h ⟨_,k,(bO (bL k2) (bT k<|bT k<|cF (eH.plainO _) k<|aV) k4)⟩) λ_ h=>bB<|aC<|aC<|sp h ⟨_,k,k,(bO (bL k2) aV k4)⟩
   ·intro e t hX;rcases y16 with y17|y18
    ·obtain ⟨rfl,hent⟩:=hX;exact aP<|tn<|aR hent<|sR<|ae (wl k) k<|am k k<|am k k<|cm k4<|aa k k<|aa k k<|aT k2<|aR (t:=mN [(4,.own 0 0 (([]:(List Mt)).length)),(5,.bl false),(6,.bl (decide (3000=v2)))] [(0,⟨3,List.map (ow eM) ([]:(List Mt))⟩)] 1) (bO (sO ⟨_,k,⟨k,k,(by simp only [aU,lA,lT,lR,lC,lN]),k⟩⟩ (bL k2)) (cF (aW.plainO _) k<|aV) k4)<|aD<|sp h (bG k k k (dI k (bU (mB (cU aW k k)) (bU (k) (bU (k) gL)))))
    ·obtain ⟨rfl,hent⟩:=hX;exact bA<|aB<|sp h hent
  ·refine aE<|tn<|sQ<|sR<|aT k2<|aG<|oB h λy23 hy23 h=>bY (body:=(oZ a0 a1 v1 v2)) hy23 (λ(x3:Int)=>mN [(2,.ptr 0 0 0),(3,.ptr 1 0 0),(7,.own 2 0 v1.1.length),(9,.int v2),(10,.int v2),(11,.int x3)] [(0,⟨6,[eR a0]⟩),(1,⟨6,[eR a1]⟩),(2,⟨1,v1.1.map (ow (oA 3 eM))⟩)] 3) (λr e t=>Sum.elim (λa=>(λr e t=>e= .exit 0∧Ent t (mN [(9,.int v2),(10,.int v2)] [] 0)) a e t) (λb=>(λr e t=>e= .ret∧nL TT [.tmp 4,.tmp 5,.tmp 6] (.tuple [.list 3 (r.1.map eM),.bl r.2.1,.bl r.2.2]) .ret t) b e t) r) (bO (bL k2) (bT k<|bT k<|cF (eH.plainO _) k<|aV) k4) ?_ ?_
   ·intro x3 o h;exact sQ<|sR<|am k k<|am k k<|cm k4<|an<|tn<|cJ k h (λ_ h=>aE<|tn<|sQ<|aG<|sR<|lp k8<|lp k8<|am k k<|am k k<|oB h λv20 hv20 h=>ae (cL aW (uL a0 a1 v1.1 x3 v20 hv20) k3 (aI (dH k) (aI (dH k) (aI (aAg eH k k) (cC k aJ))))) k<|aT k2<|sR<|lp k8<|lp k8<|am k k<|oB h λv21 hv21 h=>ae (aL (pM a0 a1 v20 v21 hv21) k (aI (dH k) (aI (dH k) (aI (aAg aW k k) aJ)))) k<|an<|tn<|cJ k h (λ_ h=>sR<|am k k<|aa k k<|aa k k<|aT k2<|aD<|bA<|aB<|aB<|sp h ⟨_,k,k,bG k k k (dI k (bU (mB (cU aW k k)) (bU (k) (bU (k) gL))))⟩) λ_ h=>aE<|bC<|tn<|rg<|am k k<|ae (bF k k) k<|aT k2<|sp h ⟨_,k,(bO (bL k2) (bT k<|bT k<|cF (eH.plainO _) k<|aV) k4)⟩) λ_ h=>bB<|aC<|aC<|sp h ⟨_,k,k,(bO (bL k2) aV k4)⟩
   ·intro e t hX;rcases y23 with y24|y25
    ·obtain ⟨rfl,hent⟩:=hX;exact aP<|tn<|aR hent<|sR<|ae (wl k) k<|am k k<|am k k<|cm k4<|aa k k<|aa k k<|aT k2<|aR (t:=mN [(4,.own 0 0 (([]:(List Mt)).length)),(5,.bl false),(6,.bl (decide (v2=v2)))] [(0,⟨3,List.map (ow eM) ([]:(List Mt))⟩)] 1) (bO (sO ⟨_,k,⟨k,k,(by simp only [aU,lA,lT,lR,lC,lN]),k⟩⟩ (bL k2)) (cF (aW.plainO _) k<|aV) k4)<|aD<|sp h (bG k k k (dI k (bU (mB (cU aW k k)) (bU (k) (bU (k) gL)))))
    ·obtain ⟨rfl,hent⟩:=hX;exact bA<|aB<|sp h hent
end
noncomputable section
theorem aNe {p x:Int} (hp:tX p=true) (hx:0≤x∧x<p):(wr (p - x)).tmod p=(-x) % p:=by
 have hb:=eG hp;rw [dC (by omega),Int.tmod_eq_emod_of_nonneg (by omega),show p - x= -x+p*1 by omega,Int.add_mul_emod_self_left]
theorem aIB {p:Int} {m n:Nat} {F:Nat→Nat→Int} (T:Tb p m n F):uY p ⟨m,n,bW m n F⟩=some (aDR p n (cP p m F n).1 (cP p m F n).2):=by
 have hn:=T.hn;have hN:=T.hN;have hm:=T.hm;have hin:=wW (by have:=eG T.hp;omega:0<p) T.hi n;have hlen:= @wN p m F n;have hlen2:= @aAC p m F n;have hget:= @aHI p m F n;unfold uY;rw [aCn T,aA];simp only;generalize (cP p m F n).1=R at*;generalize (cP p m F n).2=L at*;rw [aKQ hn (by omega),aA];have hfl:=aJQ n L;rw [dL (s:=(([]:List (List Int)),(0:Int))) (r:=aDR p n R L) (λk=>(((vD n L).take k).map λk=>aBO p n R L k L.length,(k:Int))) (vD n L).length (by rfl) (λk hk=>?_) (λ_=>?_),aA]
 ·have hf:=aJR (List.getElem_mem hk);have ef:(vD n L)[k]?.getD 0=(vD n L)[k]:=by rw [lF hk];rfl
  unfold qF;simp only;rw [dV,jS hk,aN,aFw hk,aA,ef,bK (by omega),bK (by omega:(n:Int)≤1048576),Bool.and_self,aN,dZ,dZ,cV (by simp;exact hf),aA];rw [dL (r:=aBO p n R L (vD n L)[k] L.length) (λi=>(aBO p n R L (vD n L)[k] i,(i:Int))) L.length (by rfl) (λi hi=>?_) (λ_=>?_),aA]
  ·rw [bK (by simp only [dB,List.length_take];omega),aN,cB hk (by omega),aNc (f:=λk=>aBO p n R L k L.length) hk]
  ·have him:i<m:=by omega
   have b1:=hin i _ him hf;have hv:=hget hi;unfold qE;simp only;rw [dV,jS hi,aN,aFw hi,aA,aFf hN hm him,aA,uI hN him,uJ hN hm him];simp only [dZ,Nat.add_sub_cancel_left];rw [bK (by omega),bK (by omega),Bool.and_self,aN,Nat.zero_add,kA R him hf,aA,aLx T.hp,aN,cV (by rw [yU];exact hv),aA,aNe T.hp b1,cB hi (by omega)];rfl
  ·unfold qE;simp only;rw [dV,mM (bN _),aY]
 ·unfold qF;simp only;rw [dV,mM (bN _),aY,List.take_length];rfl
def dM (a b:Rp) (g:Nat→Int):List Mt:=(List.range a.dims.length).map λv=>(⟨dN b v,dN a v,hJ (lV a b v) λy=>g (off (lV a b) v+y)⟩:Mt)
def vAt (x:List Int):Nat→Int:=λk=>x[k]?.getD 0
theorem aNf {l:Nat→Nat} {x:List Int} {k:Nat} (h:x.length=off l k):x=cat l (λv y=>vAt x (off l v+y)) k:=
 aAN h λi y hi hy=>by
  have:=jU hi hy;unfold vAt;rw [lF (by omega),lY]
theorem aJS {a b:Rp} {f g:Nat→Int} (h: ∀ k,k<nV a b→f k=g k):dM a b f=dM a b g:=by
 unfold dM;refine yL λv hv=>?_;congr 1;exact pK λy hy=>h _ (jU (List.mem_range.1 hv) hy)
theorem aOa {n:Nat} {g:Nat→Int} {k:Nat} (h:k<n):vAt (hJ n g) k=g k:=by simp [vAt,hJ,h]
theorem aNg {a b:Rp} (h:Fit a b) {x:List Int} (hx:x.length=nV a b):nU ((List.range a.dims.length).map λv=>(⟨dN b v,dN a v,bW (dN b v) (dN a v) λ_ _=>0⟩:Mt)) x=some (dM a b (vAt x)):=by
 have n5:=h.ra.n5;have bV:=h.offV (bN _);have:=aJM (k:=a.dims.length) (l:=lV a b) (r:=λv=>(dN b v:Int)) (c:=λv=>(dN a v:Int)) (z:=λv=>bW (dN b v) (dN a v) λ_ _=>0) (f:=λv y=>vAt x (off (lV a b) v+y)) (by omega) (by omega) (λv _=>eD _ _ _);rw [←aNf hx] at this;exact this
theorem aJT {a b:Rp} (h:Fit a b) {x:List Int} (hx:x.length=nV a b):iE a b x=some (dM a b (vAt x)):=by
 have n5:=h.ra.n5;have bV:=h.offV (bN _);have hV:nV a b≤80:=bV
 have e0: ∀ v,v<a.dims.length→(x.drop (off (lV a b) v)).take (lV a b v)=hJ (lV a b v) λy=>vAt x (off (lV a b) v+y):=λv hv=>by
  have h1:=aJL (l:=lV a b) (f:=λv y=>vAt x (off (lV a b) v+y)) hv;rw [←aNf hx] at h1;exact h1
 unfold iE;rw [dL (r:=dM a b (vAt x)) (λk=>((List.range k).map (λv=>(⟨dN b v,dN a v,hJ (lV a b v) λy=>vAt x (off (lV a b) v+y)⟩:Mt)),((off (lV a b) k:Nat):Int),(k:Int))) a.dims.length (by simp [off]) (λk hk=>?_) (λ_=>?_),aA]
 ·have hkb:k<b.dims.length:=by rw [h.ne];exact hk
  have ho:= @aAM (lV a b) (k+1) a.dims.length hk;have e:off (lV a b) (k+1)=off (lV a b) k+lV a b k:=rfl;unfold gV;simp only
  rw [jS hk,aN,uM 0 hk,aA,uM 0 hkb,aA,aA,aA,(h.ra.d k hk).1,(h.rb.d k hkb).1,h.lA hk,dC (x:=((off (lV a b) k:Nat):Int)+((lV a b k:Nat):Int)) (by omega),hx,
   bK (by omega),bK (by omega:((off (lV a b) k:Nat):Int)≤((off (lV a b) k:Nat):Int)+((lV a b k:Nat):Int)),bK (by unfold nV;omega:((off (lV a b) k:Nat):Int)+((lV a b k:Nat):Int)≤((nV a b:Nat):Int)),Bool.and_self,Bool.and_self,aN,
   show (((off (lV a b) k:Nat):Int)+((lV a b k:Nat):Int)).toNat - ((off (lV a b) k:Nat):Int).toNat=lV a b k by omega,dZ,e0 k hk]
  have q2:decide (((List.range k).map λv=>(⟨dN b v,dN a v,hJ (lV a b v) λy=>vAt x (off (lV a b) v+y)⟩:Mt)).length +1≤4294967296)=true:=bK (by simp only [dB,List.length_range];omega);have q1:decide (([]:List Int).length +(hJ (lV a b k) λy=>vAt x (off (lV a b) k+y)).length ≤4294967296)=true:=bK (by rw [eV];simp only [List.length_nil];omega);rw [q1,aN,q2,aN,List.nil_append,cB hk (by omega),tQ (f:=λv=>(⟨dN b v,dN a v,hJ (lV a b v) λy=>vAt x (off (lV a b) v+y)⟩:Mt)),e];simp
 ·unfold gV;simp only;rw [mM (bN _),aY];rfl
theorem aOw {α β:Type} {l:List α} {f:α→β} {body:List β×Int→Option ((List β×Int) ⊕ List β)} (hl:l.length≤4611686018427387904)
  (hs: ∀ (k:Nat) (hk:k<l.length) (o:List β),o.length=k→body (o,k)=some (.inl (o++[f l[k]],wr (k+1)))) (he: ∀ o,body (o,l.length)=some (.inr o)):Lp body ([],0)=some (l.map f):=by
 rw [dL (r:=l.map f) (λk=>((l.take k).map f,(k:Int))) l.length (by simp) (λk hk=>?_) (λ_=>?_)]
 ·rw [hs k hk _ (by simp;omega),cB hk hl,aCB hk,List.map_append];rfl
 ·rw [he,List.take_length]
def hmK (a b:Rp):List (List Int):=aDR a.p (nV a b) (cP a.p (nE a b) (mE a b) (nV a b)).1 (cP a.p (nE a b) (mE a b) (nV a b)).2
def hmB (a b:Rp):List (List Mt):=(hmK a b).map λx=>dM a b (vAt x)
theorem yB {a b:Rp} (h:Fit a b):(hmK a b).length=dR a b:=aJO h.ra.hp (aHF h)
theorem aIC {a b:Rp} (h:Fit a b) {x:List Int} (hx:x∈hmK a b):x.length=nV a b∧ ∀ z∈x,0≤z∧z<a.p:=by
 unfold hmK aDR at hx;obtain ⟨k,_,rfl⟩:=List.mem_map.1 hx;exact ⟨yU _ _ _ _ _ _,aKi h.ra.hp _ _ _ _ _⟩
theorem aJU {a b:Rp} (h:Fit a b):rR a b=some (hmB a b):=by
 have hl:=yB h;have hd:=aBJ h;unfold rR;rw [aCy h,aA,aIB (aLF h),aA];show (Lp (jG a b (hmK a b)) ([],0)).bind _=_;rw [aOw (l:=hmK a b) (f:=λx=>dM a b (vAt x)) (by omega) (λk hk o ho=>?_) (λo=>?_)]
 ·rfl
 ·unfold jG;simp only;rw [jS hk,aN,cV hk,aA,aHv h,aA,aNg h (aIC h (List.getElem_mem hk)).1,aA,bK (by omega),aN]
 ·unfold jG;simp only;rw [mM (bN _),aY]
theorem aJV {a b:Rp} (ha:bR a) (hb:bR b) (hf:pB a b=true):iF a b=some (hmB a b,true):=by
 have h:=jF hf;have hl:=yB h;have hd:=aBJ h;unfold iF;have hf':=hf;unfold pB at hf';rw [aCl ha hb,aA,hf',eO,aY,aAs h,aA,aFx (aLF h),aA];show (Lp (fJ a b (hmK a b)) ([],0)).bind _=_;rw [aOw (l:=hmK a b) (f:=λx=>dM a b (vAt x)) (by omega) (λk hk o ho=>?_) (λo=>?_)]
 ·rfl
 ·unfold fJ;simp only;rw [jS hk,aN,cV hk,aA,aJT h (aIC h (List.getElem_mem hk)).1,aA,bK (by omega),aN]
 ·unfold fJ;simp only;rw [mM (bN _),aY]
def dgN (P n c i:Nat):Nat:=c / P ^ (n - 1 - i) % P
def wR (a b:Rp) (c:Nat):Nat→Int:=λk=>sN (λi=>(dgN a.p.toNat (dR a b) c i:Int)*tZ (hmK a b) i k) (dR a b) % a.p
theorem aDD {p:Int} (hp:tX p=true):((p.toNat:Nat):Int)=p∧2≤p.toNat∧p.toNat≤5:=by have:=eG hp;omega
theorem aOx {p:Int} (hp:tX p=true) (n c i:Nat):0≤(dgN p.toNat n c i:Int)∧(dgN p.toNat n c i:Int)<p:=by
 have:=aDD hp;have h:=Nat.mod_lt (c / p.toNat ^ (n - 1 - i)) (show p.toNat>0 by omega);unfold dgN;omega
theorem aLJ {a b:Rp} (h:Fit a b) {i k:Nat} (hi:i<dR a b) (hk:k<nV a b):0≤tZ (hmK a b) i k∧tZ (hmK a b) i k<a.p:=by
 have hl:=yB h;have hm:=aIC h (List.getElem_mem (show i<(hmK a b).length by omega));have e:(hmK a b)[i]?.getD []=(hmK a b)[i]'(by omega):=by rw [lF (by omega),lY]
 unfold tZ;rw [e,lF (by omega),lY];exact hm.2 _ (List.getElem_mem _)
theorem aJW {l:List (List Int)} {i:Nat} (hi:i<l.length):vAt l[i]=tZ l i:=by
 funext k;unfold vAt tZ;rw [lF hi,lY]
theorem aLK {a b:Rp} (h:Fit a b) {i:Nat} (hi:i<dR a b):dF (hmB a b) (i:Int)=some (dM a b (tZ (hmK a b) i)):=by
 have hl:=yB h;unfold hmB;rw [cV (by rw [dB];omega),List.getElem_map,aJW (by omega)]
theorem aKS {p:Int} (hp:tX p=true) {n c:Nat} (hn:n≤100) (hc:c≤1000000):rS p (n:Int) (c:Int)=some (hJ n λi=>(dgN p.toNat n c i:Int)):=by
 obtain ⟨e,e2,e5⟩:=aDD hp;unfold rS;rw [bK (by omega),bK (by omega:(n:Int)≤1048576),Bool.and_self,aN,dZ];rw [dL (r:=hJ n λi=>(dgN p.toNat n c i:Int)) (λt=>(((c / p.toNat ^ t:Nat):Int),hJ n (λi=>if n - t≤i then (dgN p.toNat n c i:Int) else 0),(n:Int) - 1 - t)) n ?_ (λt ht=>?_) (λ_=>?_),aA]
 ·rw [dC (by omega),aHD];simp only [Nat.pow_zero,Nat.div_one,Nat.sub_zero];congr 2
  ·exact pK λj hj=>by rw [aZ (by omega)]
  ·omega
 ·have ei:(n:Int) - 1 - (t:Int)=((n - 1 - t:Nat):Int):=by omega
  have hq:c / p.toNat ^ t≤c:=Nat.div_le_self _ _;have hq2:c / p.toNat ^ (t+1)≤c:=Nat.div_le_self _ _;unfold nF;simp only;rw [ei,bK (by omega),aN,aLx hp,aN,aAJ _ (by omega),aA,aN,dZ,Int.tmod_eq_emod_of_nonneg (Int.natCast_nonneg _),Int.tdiv_eq_ediv_of_nonneg (Int.natCast_nonneg _),aJG (by omega)]
  have e3:((c / p.toNat ^ t:Nat):Int) / p=((c / p.toNat ^ (t+1):Nat):Int):=by
   rw [Nat.pow_succ,←Nat.div_div_eq_div_mul];generalize c / p.toNat ^ t=q;rw [Int.natCast_ediv,e]
  have e4:((c / p.toNat ^ t:Nat):Int) % p=(dgN p.toNat n c (n - 1 - t):Int):=by
   unfold dgN;rw [show n - 1 - (n - 1 - t)=t by omega,Int.natCast_emod,e]
  rw [e3,e4,dC ⟨Int.le_trans (by decide) (Int.natCast_nonneg _),Int.le_trans (Int.ofNat_le.2 (Nat.le_trans hq2 hc)) (by decide)⟩,dC (by omega)];congr 4
  ·refine pK λj hj=>?_;by_cases e6:j=n - 1 - t
   ·rw [aX e6,aX (by omega),e6]
   ·rw [aZ e6];by_cases e7:n - t≤j
    ·rw [aX e7,aX (by omega)]
    ·rw [aZ e7,aZ (by omega)]
  ·omega
 ·unfold nF;simp only;rw [cY (by omega),aY];congr 2;exact pK λj hj=>by rw [aX (by omega)]
def paF (a b:Rp) (c t:Nat):Nat→Int:=λk=>sN (λi=>(dgN a.p.toNat (dR a b) c i:Int)*tZ (hmK a b) i k) t % a.p
theorem aGB {α:Type} (n k:Nat) (f:Nat→α) (v:α):((List.range n).map f).set k v=(List.range n).map λi=>if i=k then v else f i:=by
 refine List.ext_getElem (by simp) λt h1 h2=>?_;rw [List.getElem_set,List.getElem_map,List.getElem_map,List.getElem_range];by_cases e:k=t
 ·rw [aX e,aX e.symm]
 ·rw [aZ e,aZ λh=>e h.symm]
theorem aHM (n:Nat) (f:Nat→Int):bW 1 n (λ_=>f)=hJ n f:=by
 unfold bW hJ;rw [Nat.one_mul];refine yL λy hy=>?_;rw [Nat.mod_eq_of_lt (List.mem_range.1 hy)]
theorem aMF {p:Int} (hp:tX p=true) {n:Nat} (hn:n≤1048576) {f g:Nat→Int} {k:Int} (hk:0≤k∧k≤5) (hf: ∀ b,b<n→0≤f b∧f b<p) (hg: ∀ b,b<n→0≤g b∧g b<p):
  fG p (hJ n f) 0 n k (hJ n g)=some (hJ n λb=>(f b+k*g b) % p):=by
 have:=aFh (r:=1) (i:=0) hp hn (by omega) (F:=λ_=>f) hk hf hg;rw [Nat.zero_mul,aHM] at this;rw [this];congr 1;rw [←aHM];exact cE λi j hi hj=>by simp only [aFg];rw [aX (by omega)]
theorem aKT {a b:Rp} (h:Fit a b) {c:Nat} (hc:c≤1000000):rT a b (hmB a b) (c:Int)=some (dM a b (wR a b c)):=by
 have hl:=yB h;have hd:=aBJ h;have hp:=eG h.ra.hp;have n5:=h.ra.n5;have bV:=h.offV (bN _);have hV:nV a b≤80:=bV;unfold rT;have el:((hmB a b).length:Int)=(dR a b:Int):=by unfold hmB;rw [dB,hl]
 rw [el,aKS h.ra.hp (by omega) hc,aA];unfold vV;rw [aHv h,aA];rw [dL (r:=dM a b (wR a b c)) (λi=>(dM a b (paF a b c i),(i:Int))) (dR a b) ?_ (λi hi=>?_) (λ_=>?_),aA,aA]
 ·unfold dM paF;congr 1
 ·have hdg:=aOx h.ra.hp (dR a b) c i;unfold nH;simp only;rw [show decide ((i:Int)<((hmB a b).length:Int))=true from bK (by rw [el];omega),aN,aLK h hi,aA];rw [dL (r:=dM a b (paF a b c (i+1))) (λv=>((List.range a.dims.length).map λw=>(⟨dN b w,dN a w,hJ (lV a b w) λy=>paF a b c (if w<v then i+1 else i) (off (lV a b) w+y)⟩:Mt),(v:Int))) a.dims.length ?_ (λv hv=>?_) (λ_=>?_),aA,cB hi (by omega)]
  ·congr 1
  ·have hlv:=h.lV hv;have hov: ∀ y,y<lV a b v→off (lV a b) v+y<nV a b:=λy hy=>jU hv hy;unfold nG;simp only;rw [show decide ((v:Int)<((dM a b (tZ (hmK a b) i)).length:Int))=true from bK (by unfold dM;simp;exact hv),aN];rw [show dF (dM a b (tZ (hmK a b) i)) (v:Int)=some (⟨dN b v,dN a v,hJ (lV a b v) λy=>tZ (hmK a b) i (off (lV a b) v+y)⟩:Mt) from qB hv,aA,qB hv,aA,aAJ _ hi,aA];simp only;rw [eV,aZ (Nat.lt_irrefl _),aMF (f:=λy=>paF a b c i (off (lV a b) v+y)) h.ra.hp (by omega) (by omega) (λy hy=>tJ h.ra.hp) (λy hy=>aLJ h hi (hov y hy)),aA,eV,bK rfl,aN,dZ,aGB,cB hv (by omega)];congr 3;refine yL λw hw=>?_;by_cases e:w=v
   ·subst e;rw [aX rfl,aX (by omega)];congr 1;refine pK λy hy=>?_;unfold paF;rw [sN,Int.emod_add_emod]
   ·rw [aZ e];by_cases e2:w<v
    ·rw [aX e2,aX (by omega)]
    ·rw [aZ e2,aZ (by omega)]
  ·unfold nG;simp only;rw [show decide ((a.dims.length:Int)<((dM a b (tZ (hmK a b) i)).length:Int))=false from cY (by unfold dM;simp),aY];congr 2;unfold dM;refine yL λw hw=>?_;rw [aX (List.mem_range.1 hw)]
 ·unfold nH;simp only;rw [show decide ((dR a b:Int)<((hmB a b).length:Int))=false from cY (by rw [el];omega),aY];rfl
theorem aLL (g:Nat→Int): ∀ n,sN g (n+1)=g 0+sN (λs=>g (s+1)) n
 |0=>by simp [sN]
 |n+1=>by rw [sN,aLL g n,sN];omega
theorem aNh: ∀ (n:Nat) (f:Nat→Int),sN (λs=>f (n - 1 - s)) n=sN f n
 |0,_=>rfl
 |n+1,f=>by
  have e:sN (λs=>f (n+1 - 1 - (s+1))) n=sN (λs=>f (n - 1 - s)) n:=fX λs hs=>by rw [show n+1 - 1 - (s+1)=n - 1 - s by omega]
  rw [aLL,e,aNh n f,sN,show n+1 - 1 - 0=n by omega];omega
theorem aMG {a b:Rp} (h:Fit a b) (g:Nat→Int):tR (dM a b g)=some (hJ (nV a b) g):=by
 have n5:=h.ra.n5;have bV:=h.offV (bN _);unfold tR;rw [dL (r:=hJ (nV a b) g) (λk=>(cat (lV a b) (λv y=>g (off (lV a b) v+y)) k,(k:Int))) a.dims.length (by rfl) (λk hk=>?_) (λ_=>?_),aA]
 ·have h1:= @aAM (lV a b) (k+1) a.dims.length hk;have e:off (lV a b) (k+1)=off (lV a b) k+lV a b k:=rfl;unfold oW;simp only;rw [show decide ((k:Int)<((dM a b g).length:Int))=true from bK (by unfold dM;simp;exact hk),aN,show dF (dM a b g) (k:Int)=some (⟨dN b k,dN a k,hJ (lV a b k) λy=>g (off (lV a b) k+y)⟩:Mt) from qB hk,aA];simp only;rw [gG,eV,bK (by omega),aN,cB hk (by omega)];rfl
 ·unfold oW;simp only;rw [show decide ((a.dims.length:Int)<((dM a b g).length:Int))=false from cY (by unfold dM;simp),aY];congr 2;refine (aAN (eV _ _) λi y hi hy=>?_).symm;have hx:off (lV a b) i+y<off (lV a b) a.dims.length:=jU hi hy;unfold hJ;rw [List.getElem?_map,List.getElem?_range hx];rfl
def suF (a b:Rp) (c t:Nat):Nat→Int:=λk=>sN (λs=>(dgN a.p.toNat (dR a b) c (dR a b - 1 - s):Int)*tZ (hmK a b) (dR a b - 1 - s) k) t % a.p
theorem aOc (a b:Rp) (c k:Nat):suF a b c (dR a b) k=wR a b c k:=by
 unfold suF wR;rw [aNh (dR a b) λi=>(dgN a.p.toNat (dR a b) c i:Int)*tZ (hmK a b) i k]
theorem aGC {a b:Rp} (h:Fit a b) {c:Nat} (hc:c≤1000000):iY a b (hmB a b) (c:Int)=some (dM a b (wR a b c)):=by
 have hl:=yB h;have hd:=aBJ h;have hp:=eG h.ra.hp;obtain ⟨ep,ep2,ep5⟩:=aDD h.ra.hp;have n5:=h.ra.n5;have bV:=h.offV (bN _);have hV:nV a b≤80:=bV;have el:((hmB a b).length:Int)=(dR a b:Int):=by unfold hmB;rw [dB,hl]
 unfold iY;rw [aHJ h,aA,bK (by omega),bK (by omega:((nV a b:Nat):Int)≤1048576),Bool.and_self,aN,el,dZ];rw [dL (r:=hJ (nV a b) (wR a b c)) (λt=>(((c / a.p.toNat ^ t:Nat):Int),hJ (nV a b) (suF a b c t),(dR a b:Int) - 1 - t)) (dR a b) ?_ (λt ht=>?_) (λ_=>?_),aA,aJT h (eV _ _),aA]
 ·congr 1;exact aJS λk hk=>aOa hk
 ·rw [dC (by omega),aHD];simp only [Nat.pow_zero,Nat.div_one];congr 2;omega
 ·have ei:(dR a b:Int) - 1 - (t:Int)=((dR a b - 1 - t:Nat):Int):=by omega
  have hi:dR a b - 1 - t<dR a b:=by omega
  have hq2:c / a.p.toNat ^ (t+1)≤c:=Nat.div_le_self _ _
  have hD:((c / a.p.toNat ^ t:Nat):Int).tmod a.p=(dgN a.p.toNat (dR a b) c (dR a b - 1 - t):Int):=by
   rw [Int.tmod_eq_emod_of_nonneg (Int.natCast_nonneg _)];unfold dgN;rw [show dR a b - 1 - (dR a b - 1 - t)=t by omega,Int.natCast_emod,ep]
  have e3:((c / a.p.toNat ^ t:Nat):Int).tdiv a.p=((c / a.p.toNat ^ (t+1):Nat):Int):=by
   rw [Int.tdiv_eq_ediv_of_nonneg (Int.natCast_nonneg _),Nat.pow_succ,←Nat.div_div_eq_div_mul];generalize c / a.p.toNat ^ t=q;rw [Int.natCast_ediv,ep]
  have hdg:=aOx h.ra.hp (dR a b) c (dR a b - 1 - t);unfold lX;simp only;rw [ei,bK (by omega),aN,aLx h.ra.hp,aN,aN,aLK h hi,aA,aMG h,aA];rw [dL (r:=hJ (nV a b) (suF a b c (t+1))) (λj=>(hJ (nV a b) (λk=>if k<j then suF a b c (t+1) k else suF a b c t k),(j:Int))) (nV a b) ?_ (λj hj=>?_) (λ_=>?_),aA,e3,dC ⟨Int.le_trans (by decide) (Int.natCast_nonneg _),Int.le_trans (Int.ofNat_le.2 (Nat.le_trans hq2 hc)) (by decide)⟩,dC (by omega)]
  ·congr 4;omega
  ·congr 1
  ·have hr:=aLJ h hi hj;have hs:0≤suF a b c t j∧suF a b c t j<a.p:=tJ h.ra.hp;have hm:=aGL (a:=(dgN a.p.toNat (dR a b) c (dR a b - 1 - t):Int)) (b:=tZ (hmK a b) (dR a b - 1 - t) j) (by omega) (by omega);unfold lW;simp only;rw [eV,jS hj,aN,aAJ _ hj,aA,aAJ _ hj,aA,hD];rw [aZ (Nat.lt_irrefl _)];generalize hM:(dgN a.p.toNat (dR a b) c (dR a b - 1 - t):Int)*tZ (hmK a b) (dR a b - 1 - t) j=M at*;rw [dC (x:=M) (by omega),dC (by omega),wI h.ra.hp (by omega),aA,aA,dZ,aJG hj,cB hj (by omega)];congr 3;refine pK λk hk=>?_;by_cases e:k=j
   ·subst e;rw [aX rfl,aX (by omega)];unfold suF;rw [sN,Int.emod_add_emod,hM]
   ·rw [aZ e];by_cases e2:k<j
    ·rw [aX e2,aX (by omega)]
    ·rw [aZ e2,aZ (by omega)]
  ·unfold lW;simp only;rw [eV,mM (bN _),aY];congr 2;exact pK λk hk=>by rw [aX hk]
 ·unfold lX;simp only;rw [cY (by omega),aY];congr 2;exact pK λk hk=>aOc a b c k
def gM (a b:Rp) (g:Nat→Int) (v:Nat):Nat→Nat→Int:=λr k=>g (off (lV a b) v+(r*dN a v+k))
theorem aBK (a b:Rp) (g:Nat→Int):dM a b g=(List.range a.dims.length).map λv=>(⟨dN b v,dN a v,bW (dN b v) (dN a v) (gM a b g v)⟩:Mt):=by
 unfold dM;refine yL λv hv=>?_;congr 1;exact aNT λy hy=>by unfold gM;rw [vJ]
def rkL (a b:Rp) (g:Nat→Int):List Int:=(List.range a.dims.length).map λv=>(rkF a.p (dN b v) (dN a v) (gM a b g v):Int)
def InG (a b:Rp) (g:Nat→Int):Prop:= ∀ k,k<nV a b→0≤g k∧g k<a.p
theorem InG.inP {a b:Rp} {g:Nat→Int} (hg:InG a b g) {v:Nat} (hv:v<a.dims.length):InP a.p (dN b v) (dN a v) (gM a b g v):=λr k hr hk=>hg _ (jU hv (xQ hr hk))
theorem aLM {a b:Rp} (h:Fit a b) (c:Nat):InG a b (wR a b c):=λk _=>tJ h.ra.hp
theorem aOd {a b:Rp} (h:Fit a b) {g:Nat→Int} (hg:InG a b g):wL a.p (dM a b g)=some (rkL a b g):=by
 have n5:=h.ra.n5;rw [aBK];unfold wL;rw [dL (s:=(([]:List Int),(0:Int))) (r:=rkL a b g) (λk=>((List.range k).map (λv=>(rkF a.p (dN b v) (dN a v) (gM a b g v):Int)),(k:Int))) a.dims.length (by rfl) (λk hk=>?_) (λ_=>?_),aA]
 ·have hkb:k<b.dims.length:=by rw [h.ne];exact hk
  have d1:=(h.ra.d k hk).2;have d2:=(h.rb.d k hkb).2;have T:Tb a.p (dN b k) (dN a k) (gM a b g k):=⟨h.ra.hp,sq d2 d1,by omega,by omega,hg.inP hk⟩;unfold rU;simp only;rw [dB,List.length_range,jS hk,aN,qB hk,aA,aFm T,aA,bK (by simp;omega),aN,cB hk (by omega),←tQ (f:=λv=>(rkF a.p (dN b v) (dN a v) (gM a b g v):Int))];rfl
 ·unfold rU;simp only;rw [dB,List.length_range,mM (bN _),aY];rfl
theorem aOe {a b:Rp} (ha:bR a) (h:Fit a b) (he:a.dims=b.dims) {g:Nat→Int} (hg:InG a b g):oV a b (dM a b g)=some (decide (rkL a b g=a.dims)):=by
 have n5:=h.ra.n5;unfold oV;rw [wQ ha.2.1,aA,bK he,aN,aOd h hg,aA,wQ (by unfold bI rkL;simp;omega),aA]
theorem aEr (c x:Nat→Int) (u:Nat→Nat→Int) (N:Nat): ∀ n,sN (λt=>c t*sN (λq=>x q*u q t) N) n=sN (λq=>x q*sN (λt=>c t*u q t) n) N
 |0=>by
  rw [fX (f:=λq=>x q*sN (λt=>c t*u q t) 0) (g:=λ_=>0) (n:=N) λq _=>by simp [sN],aAD];rfl
 |n+1=>by
  rw [sN,aEr c x u N n,←aFP,←aFO];refine fX λq _=>?_;rw [sN,Int.mul_add,Int.mul_left_comm (c n)]
theorem aLN {p:Int} {n:Nat} {f x y:Nat→Int} (h: ∀ k,k<n→x k % p=y k % p):dt n f x % p=dt n f y % p:=by
 unfold dt;refine aKj λk hk=>?_;rw [Int.mul_emod,h k hk,←Int.mul_emod]
theorem aNi {p:Int} {f:Nat→Int} : ∀ {n:Nat},(∀ k,k<n→Z0 p (f k))→Z0 p (sN f n)
 |0,_=>by unfold Z0;simp [sN]
 |n+1,h=>aJt (aNi λk hk=>h k (by omega)) (h n (by omega))
theorem aLO {p:Int} {m n:Nat} {F:Nat→Nat→Int} {L:List Nat} (h:Red m n F L) {k:Nat} (hk:k<n) (hL: ∀ i,i<L.length→L[i]?.getD 0≠k): ∀ t,t≤L.length→ ∀ c,c<n→vAt (aBO p n F L k t) c % p=(if c=k then 1 else -(sN (λi=>if L[i]?.getD 0=c then F i k else 0) t)) % p
 |0,_,c,hc=>by
  unfold aBO vAt;rw [List.getElem?_set,List.length_replicate];by_cases e:c=k
  ·rw [aX e.symm,aX hk,aX e];rfl
  ·rw [aZ λh=>e h.symm,aZ e];simp [hc,sN]
 |t+1,ht,c,hc=>by
  have ih:=aLO (p:=p) h hk hL t (by omega) c hc;have hlt:=h.lt t (by omega);have hne:=hL t (by omega);unfold aBO vAt;rw [List.getElem?_set,yU];by_cases e:L[t]?.getD 0=c
  ·rw [aX e,aX (by omega),lY,Int.emod_emod_of_dvd _ (Int.dvd_refl p),aZ (by omega),sN,aX e];rw [fX (g:=λ_=>0) λi hi=>?_,aAD,Int.zero_add];rw [aZ];intro e2;have:=h.inc i t hi (by omega);omega
  ·rw [aZ e];refine ih.trans ?_;rw [sN,aZ e,Int.add_zero]
theorem aPX {p:Int} (hp:tX p=true) {m n:Nat} {F:Nat→Nat→Int} (hi:InP p m n F) {x:List Int} (hx:x∈aDR p n (cP p m F n).1 (cP p m F n).2):Kr p m n F (vAt x):=by
 have hR:=aJs hp hi n (bN _);unfold aDR at hx;obtain ⟨k,hk,rfl⟩:=List.mem_map.1 hx;have hk1:=aJR hk
 have hL: ∀ i,i<(cP p m F n).2.length→(cP p m F n).2[i]?.getD 0≠k:=by
  intro i hi e;have h2:=(List.mem_filter.1 hk).2;have h3:k∈(cP p m F n).2:=by rw [←e];exact tI 0 hi
  simp [h3] at h2
 refine (aKl hp hi _ n (bN _)).1 λi him=>?_;have h1:=aPD (p:=p) hR hk1 hL i him;refine aFR (aLN λc hc=>?_) h1;exact (aLO hR hk1 hL _ (bN _) c hc).symm
theorem aQM {a b:Rp} (h:Fit a b) (c:Nat):Kr a.p (nE a b) (nV a b) (mE a b) (wR a b c):=by
 intro i hi
 have e1:dt (nV a b) (mE a b i) (wR a b c) % a.p=dt (nV a b) (mE a b i) (λk=>sN (λj=>(dgN a.p.toNat (dR a b) c j:Int)*tZ (hmK a b) j k) (dR a b)) % a.p:=
  aLN λk hk=>by unfold wR;exact Int.emod_emod_of_dvd _ (Int.dvd_refl _)
 refine aFR e1.symm ?_;unfold dt;rw [aEr (mE a b i) (λj=>(dgN a.p.toNat (dR a b) c j:Int)) (tZ (hmK a b)) (dR a b) (nV a b)];refine aNi λj hj=>aFQ _ ?_;have hl:=yB h;have hm:=aPX h.ra.hp (aHF h) (List.getElem_mem (show j<(hmK a b).length by omega)) i hi;rw [aJW (by omega)] at hm;exact hm
def uU (a b:Rp) (q:Nat):Nat→Nat→Nat→Int:=λv j l=>if off (lV a b) v+(j*dN a v+l)=q then 1 else 0
def dP (a b:Rp) (P:Nat→Nat→Nat→Int) (i r k:Nat):Int:=aAZ (aF b i) (P (sV a i)) r k (dN b (sV a i)) - aAZ (P (tV a i)) (aF a i) r k (dN a (tV a i))
theorem aPY {a b:Rp} (P:Nat→Nat→Nat→Int) (i r k:Nat):aFt a b P i r k=dP a b P i r k % a.p:=by
 unfold aFt dP wJ;generalize aAZ (aF b i) (P (sV a i)) r k (dN b (sV a i))=x;generalize aAZ (P (tV a i)) (aF a i) r k (dN a (tV a i))=y;rw [show x % a.p+(a.p - 1)*(y % a.p)=(x % a.p - y % a.p)+a.p*(y % a.p) by rw [Int.sub_mul];omega,Int.add_mul_emod_self_left];exact (Int.sub_emod x y a.p).symm
theorem aNj {a b:Rp} (x:Nat→Int) {v j l:Nat} (hv:v<a.dims.length) (hj:j<dN b v) (hl:l<dN a v):gM a b x v j l=sN (λq=>x q*uU a b q v j l) (nV a b):=by
 rw [aBm (n:=nV a b) (j:=off (lV a b) v+(j*dN a v+l)) (jU hv (xQ hj hl))]
 ·unfold uU gM;rw [aX rfl,Int.mul_one]
 ·intro q _ hq;unfold uU;rw [aZ λe=>hq e.symm,Int.mul_zero]
section
variable {a b:Rp} (h:Fit a b) {i r k:Nat} (hi:i<a.q.src.length) (hr:r<dN b (tV a i)) (hk:k<dN a (sV a i))
include h hi hr hk
theorem aPZ (x:Nat→Int):dP a b (gM a b x) i r k=sN (λq=>x q*dP a b (uU a b q) i r k) (nV a b):=by
 have hs:=(h.ra.s i hi).2;have ht:=(h.ra.t i hi).2;unfold dP;simp only [aCx]
 have e1:sN (λt=>aF b i r t*gM a b x (sV a i) t k) (dN b (sV a i))=sN (λq=>x q*sN (λt=>aF b i r t*uU a b q (sV a i) t k) (dN b (sV a i))) (nV a b):=by
  rw [←aEr (aF b i r) x (λq t=>uU a b q (sV a i) t k)];exact fX λt ht2=>by rw [aNj x hs ht2 hk]
 have e2:sN (λt=>gM a b x (tV a i) r t*aF a i t k) (dN a (tV a i))=sN (λq=>x q*sN (λt=>uU a b q (tV a i) r t*aF a i t k) (dN a (tV a i))) (nV a b):=by
  have:=aEr (λt=>aF a i t k) x (λq t=>uU a b q (tV a i) r t) (nV a b) (dN a (tV a i));rw [fX (f:=λt=>gM a b x (tV a i) r t*aF a i t k) (g:=λt=>aF a i t k*sN (λq=>x q*uU a b q (tV a i) r t) (nV a b)) λt ht2=>by rw [aNj x ht hr ht2,Int.mul_comm],this];exact fX λq _=>by rw [fX λt _=>Int.mul_comm _ _]
 rw [e1,e2];have e3: ∀ f g:Nat→Int,sN f (nV a b) - sN g (nV a b)=sN (λq=>f q+(-1)*g q) (nV a b):=λf g=>by rw [aFO,aFP];omega
 rw [e3];exact fX λq _=>by rw [Int.mul_sub];omega
theorem aOf {q:Nat} (hq:q<nV a b):dP a b (uU a b q) i r k % a.p=mE a b (off (lE a b) i+(r*dN a (sV a i)+k)) q:=by
 obtain ⟨v0,z0,hv0,hz0,ek⟩:=aBI hq;have hs:=(h.ra.s i hi).2;have ht:=(h.ra.t i hi).2;have hc:=aJN h hv0 hz0 hi hr hk;have hy:r*dN a (sV a i)+k<lE a b i:=xQ hr hk
 have e: ∀ v j l,v<a.dims.length→j<dN b v→l<dN a v→uU a b q v j l=unP a v0 z0 v j l:=by
  intro v j l hv hj hl;unfold uU unP;rw [ek];by_cases e1:off (lV a b) v+(j*dN a v+l)=off (lV a b) v0+z0
  ·rw [aX e1];have:=aLE (l:=lV a b) (xQ hj hl) hz0 e1;rw [aX this]
  ·rw [aZ e1,aZ];rintro ⟨rfl,rfl⟩;exact e1 rfl
 have e2:dP a b (uU a b q) i r k=dP a b (unP a v0 z0) i r k:=by
  unfold dP;simp only [aCx];rw [fX λt ht2=>by rw [e _ t k hs ht2 hk],fX (f:=λt=>uU a b q (tV a i) r t*aF a i t k) λt ht2=>by rw [e _ r t ht hr ht2]]
 rw [e2,←aPY,hc];unfold mE;rw [nD _ hi hy,lY,ek,nD _ hv0 hz0,lY];unfold Proofs.YtghechfdejhapaaGreat.e2;rw [yE hk,yF hk]
theorem aQN (c:Nat):wJ a.p (dN b (sV a i)) (aF b i) (gM a b (wR a b c) (sV a i)) r k=wJ a.p (dN a (tV a i)) (gM a b (wR a b c) (tV a i)) (aF a i) r k:=by
 have h1:=aPZ h hi hr hk (wR a b c);have h2:=aQM h c (off (lE a b) i+(r*dN a (sV a i)+k)) (jU hi (xQ hr hk))
 have h3:dP a b (gM a b (wR a b c)) i r k % a.p=0:=by
  rw [h1];refine (aKj (g:=λq=>mE a b (off (lE a b) i+(r*dN a (sV a i)+k)) q*wR a b c q) λq hq=>?_).trans h2;rw [Int.mul_emod,aOf h hi hr hk hq,Int.mul_comm (mE _ _ _ _),Int.mul_emod (wR a b c q) (mE a b _ q)];congr 2;exact (Int.emod_eq_of_lt (aHF h _ _ (jU hi (xQ hr hk)) hq).1 (aHF h _ _ (jU hi (xQ hr hk)) hq).2).symm
 unfold wJ;exact Int.emod_eq_emod_iff_emod_sub_eq_zero.2 h3
end
theorem aMH {m:Mt} (h:bI m.cells):kI m m=some true:=by
 unfold bI at h;unfold kI;rw [bK rfl,bK rfl,bK rfl];simp only [eO,aY];rw [aAB (n:=m.cells.length) (λ_=>true) false (by omega) (λk hk=>?_) (λ_=>?_),aA]
 ·rw [show (List.range m.cells.length).all (λ_=>true)=true by simp];rfl
 ·unfold hZ;rw [jS hk,aN,cV hk,aA,aA,bK rfl];rfl
 ·unfold hZ;rw [mM (bN _),aY]
theorem aMI {p:Int} (hp:tX p=true) {r c:Nat} (hr:r≤8) (hc:c≤8) {F:Nat→Nat→Int} (hF:InP p r c F):aBR p ⟨r,c,bW r c F⟩=true:=by
 have hb:=eG hp;have h:=Nat.mul_le_mul hr hc;unfold aBR;simp only [eD];rw [aBk (by omega) (by omega),aBk (by omega) (by omega),aFN (by omega),bK (by omega),hp,bK (by omega)];simp only [Bool.true_and,List.all_eq_true];intro x hx;obtain ⟨t,ht,rfl⟩:=List.mem_map.1 hx;have ht:=List.mem_range.1 ht
 have hc0:0<c:=by
  rcases Nat.eq_zero_or_pos c with h0|h0
  ·subst h0;simp at ht
  ·exact h0
 have:=hF (t / c) (t % c) ((Nat.div_lt_iff_lt_mul hc0).2 ht) (Nat.mod_lt _ hc0);refine aBk this.1 ?_;rw [dC (by omega)];omega
section
variable {a b:Rp} (ha:bR a) (hb:bR b) (hf:pB a b=true)
include ha hb hf
theorem aMJ {g:Nat→Int} (hg:InG a b g):nJ a b (dM a b g)=some true:=by
 have h:=jF hf;have n5:=h.ra.n5;have hf':=hf;unfold pB at hf';have hlen:(dM a b g).length=a.dims.length:=by simp [dM]
 unfold nJ;rw [aCl ha hb,aA,hf',eO,aY,bK (by omega),eO,aY];rw [aAB (n:=a.dims.length) (λ_=>true) false (by omega) (λv hv=>?_) (λ_=>?_),aA]
 ·rw [show (List.range a.dims.length).all (λ_=>true)=true by simp];rfl
 ·have hvb:v<b.dims.length:=by rw [h.ne];exact hv
  have d1:=(h.ra.d v hv);have d2:=(h.rb.d v hvb);have m4:=Nat.mul_le_mul d2.2 d1.2;unfold jP;rw [hlen,jS hv,aN,aBK,qB hv,aA,aDg _ ⟨by unfold bI;simp only;rw [eD];omega,trivial⟩,aMI h.ra.hp (by omega) (by omega) (hg.inP hv),aA,eO,aY,aA,uM 0 hv,aA,d1.1,bK rfl,eO,aY,aA,uM 0 hvb,aA,d2.1,bK rfl];rfl
 ·unfold jP;rw [hlen,mM (bN _),aY]
theorem aHN (c:Nat):iA a b (dM a b (wR a b c))=some true:=by
 have h:=jF hf;have e6:=h.ra.e6;unfold iA;rw [aMJ ha hb hf (aLM h c),aA,eO,aY];rw [aAB (n:=a.maps.length) (λ_=>true) false (by have:=h.ra.ml;omega) (λi hi=>?_) (λ_=>?_),aA]
 ·rw [show (List.range a.maps.length).all (λ_=>true)=true by simp];rfl
 ·have hi':i<a.q.src.length:=by have:=h.ra.ml;omega
  have hib:i<b.q.src.length:=by rw [h.qe];exact hi'
  obtain ⟨s1,s2⟩:=h.ra.s i hi';obtain ⟨t1,t2⟩:=h.ra.t i hi';have s3:sV a i<b.dims.length:=by rw [h.ne];exact s2
  have t3:tV a i<b.dims.length:=by rw [h.ne];exact t2
  obtain ⟨m1,m2⟩:=h.ra.m i hi';obtain ⟨g1,g2⟩:=h.rb.m i hib;rw [h.sV,h.tV] at g1 g2;rw [h.pe] at g2;have da:=h.ra.d _ s2;have da2:=h.ra.d _ t2;have db:=h.rb.d _ s3;have db2:=h.rb.d _ t3;have hin:=aLM h c
  have e:bW (dN b (tV a i)) (dN a (sV a i)) (wJ a.p (dN b (sV a i)) (aF b i) (gM a b (wR a b c) (sV a i)))=bW (dN b (tV a i)) (dN a (sV a i)) (wJ a.p (dN a (tV a i)) (gM a b (wR a b c) (tV a i)) (aF a i)):=
   cE λr k hr hk=>aQN h hi' hr hk c
  have m4:=Nat.mul_le_mul db2.2 da.2;unfold kR;rw [jS hi,aN,aBK,uM ⟨0,0,[]⟩ (by rw [h.rb.ml];exact hib),aA,g1,uM 0 hi',aA,s1,qB s2,aA,aCm h.ra.hp (sq db2.2 db.2) (sq db.2 da.2) (sq db2.2 da.2) (by omega) (by omega) (by omega) g2 (hin.inP s2),aA,uM 0 (by have:=h.ra.tl;omega),aA,t1,qB t2,aA,uM ⟨0,0,[]⟩ hi,aA,m1,aCm h.ra.hp (sq db2.2 da2.2) (sq da2.2 da.2) (sq db2.2 da.2) (by omega) (by omega) (by omega) (hin.inP t2) m2,aA,e,aMH (by unfold bI;simp only;rw [eD];omega),aA];rfl
 ·unfold kR;rw [mM (bN _),aY]
theorem aMK (c:Nat):kT a b (dM a b (wR a b c))=some (rkL a b (wR a b c)):=by
 have h:=jF hf;have n5:=h.ra.n5;have hM:=aHN ha hb hf c;have hlen:(dM a b (wR a b c)).length=a.dims.length:=by simp [dM]
 unfold kT;rw [dL (r:=rkL a b (wR a b c)) (λk=>((List.range k).map (λv=>(rkF a.p (dN b v) (dN a v) (gM a b (wR a b c) v):Int)),(k:Int))) a.dims.length (by rfl) (λk hk=>?_) (λ_=>?_),aA]
 ·have hkb:k<b.dims.length:=by rw [h.ne];exact hk
  have d1:=(h.ra.d k hk).2;have d2:=(h.rb.d k hkb).2;unfold kS;simp only;rw [hlen,jS hk,aN,hM,aA,aN,aBK,qB hk,aA,aNK h.ra.hp (by omega) (by omega) ((aLM h c).inP hk),aA,bK (by simp;omega),aN,cB hk (by omega),←tQ (f:=λv=>(rkF a.p (dN b v) (dN a v) (gM a b (wR a b c) v):Int))]
 ·unfold kS;simp only;rw [hlen,mM (bN _),aY];rfl
theorem aID (he:a.dims=b.dims) (c:Nat):fN a b (dM a b (wR a b c))=some (decide (rkL a b (wR a b c)=a.dims)):=by
 have h:=jF hf;have n5:=h.ra.n5;have hM:=aHN ha hb hf c;have hR:=aMK ha hb hf c;have hbi:bI (rkL a b (wR a b c)):=by unfold bI rkL;simp;omega
 unfold fN sH qL;rw [hM,aA,aN,hR,aA,zE hbi,aA,aA,aA,aN,aA,zE hbi,aA,aA,←he];cases decide (rkL a b (wR a b c)=a.dims) <;> rfl
end
def zJ (a b:Rp) (c:Nat):Bool:=decide (rkL a b (wR a b c)=a.dims)
def aIE (a b:Rp) (n:Nat):Option (List Mt):=(List.range' 0 (n - 0)).findSome? λc=>bif zJ a b c then some (dM a b (wR a b c)) else none
def wS (P:Nat):Nat→Nat
 |0=>1
 |k+1=>if wS P k≤100000 then wS P k*P else wS P k
theorem aIF {P:Nat} (h5:P≤5): ∀ k,wS P k≤500000
 |0=>by simp [wS]
 |k+1=>by
  unfold wS;split
  ·rename_i h;exact Nat.le_trans (Nat.mul_le_mul h h5) (by decide)
  ·exact aIF h5 k
theorem aGD {P:Nat} : ∀ {k n:Nat},k≤n→100000<wS P k→wS P n=wS P k
 |k,0,h,_=>by rw [show k=0 by omega]
 |k,n+1,h,g=>by
  rcases eJ n k with h'|h'
  ·rw [show k=n+1 by omega]
  ·have ih:=aGD h' g;show (if wS P n≤100000 then wS P n*P else wS P n)=_;rw [aZ (by omega),ih]
theorem aJX {p:Int} (hp:tX p=true) {n:Nat} (hn:n≤1000):qG p (n:Int)=some (wS p.toNat n:Int):=by
 obtain ⟨e,e2,e5⟩:=aDD hp
 have key: ∀ d k,k+d=n→Lp (gI p (n:Int)) ((wS p.toNat k:Int),(k:Int))=some (wS p.toNat n:Int):=by
  intro d;induction d with
  |zero=>
   intro k hk;rw [Nat.add_zero] at hk;subst hk;refine iK ?_;unfold gI;simp only;rw [mM (bN _),aY]
  |succ d ih=>
   intro k hk;have hb:=aIF e5 k;by_cases h:wS p.toNat k≤100000
   ·rw [←ih (k+1) (by omega)];refine aAA ?_;unfold gI;simp only;rw [jS (by omega),aN,bK (by omega),aN]
    have e3:wr ((wS p.toNat k:Int)*p)=(wS p.toNat (k+1):Int):=by
     rw [show wS p.toNat (k+1)=wS p.toNat k*p.toNat from aX h,Int.natCast_mul,e];have:=aIF e5 (k+1);rw [show wS p.toNat (k+1)=wS p.toNat k*p.toNat from aX h] at this;have h2:((wS p.toNat k*p.toNat:Nat):Int)=(wS p.toNat k:Int)*p:=by rw [Int.natCast_mul,e]
     rw [dC (by rw [←h2];omega)]
    rw [e3,cB (show k<n by omega) (by omega)]
   ·rw [aGD (show k≤n by omega) (by omega)];refine iK ?_;unfold gI;simp only;rw [jS (by omega),aN,cY (by omega),aY]
 unfold qG;have h0:=key n 0 (by omega);rw [show ((wS p.toNat 0:Nat):Int)=1 from rfl,show ((0:Nat):Int)=0 from rfl] at h0;rw [h0,aA]
def cmI (a b:Rp):Int:=if wS a.p.toNat (dR a b)≤100000 then (wS a.p.toNat (dR a b):Int) else -2
theorem aIG {a b:Rp} (ha:bR a) (hb:bR b) (hf:pB a b=true):jQ a b=some (cmI a b):=by
 have h:=jF hf;have hd:=aBJ h;obtain ⟨e,e2,e5⟩:=aDD h.ra.hp
 have key: ∀ d k,k+d=dR a b→wS a.p.toNat k≤100000→Lp (dW a (dR a b:Int)) ((wS a.p.toNat k:Int),(k:Int))=some (if wS a.p.toNat (dR a b)≤100000 then .inl (wS a.p.toNat (dR a b):Int) else .inr (-2)):=by
  intro d;induction d with
  |zero=>
   intro k hk h1;rw [Nat.add_zero] at hk;rw [←hk,aX h1];refine iK ?_;unfold dW;simp only;rw [mM (bN _),aY]
  |succ d ih=>
   intro k hk h1;have hb:=aIF e5 (k+1);have e4:wS a.p.toNat (k+1)=wS a.p.toNat k*a.p.toNat:=aX h1;have h2:((wS a.p.toNat (k+1):Nat):Int)=(wS a.p.toNat k:Int)*a.p:=by rw [e4,Int.natCast_mul,e]
   have e3:wr ((wS a.p.toNat k:Int)*a.p)=(wS a.p.toNat (k+1):Int):=by rw [←h2,dC (by omega)]
   by_cases h3:wS a.p.toNat (k+1)≤100000
   ·rw [←ih (k+1) (by omega) h3];refine aAA ?_;unfold dW;simp only;rw [jS (by omega),aN,e3,cY (by omega),aY,cB (show k<dR a b by omega) (by omega)]
   ·rw [aZ (by rw [aGD (show k+1≤dR a b by omega) (by omega)];exact h3)];refine iK ?_;unfold dW;simp only;rw [jS (by omega),aN,e3,bK (by omega),aN]
 unfold jQ;rw [zH ha hb,aA];unfold hdI;rw [aX hf,cY (by omega),aY];have h0:=key (dR a b) 0 (by omega) (by simp [wS]);rw [show ((wS a.p.toNat 0:Nat):Int)=1 from rfl,show ((0:Nat):Int)=0 from rfl] at h0;rw [h0,aA];unfold cmI;by_cases h3:wS a.p.toNat (dR a b)≤100000
 ·rw [aX h3,aX h3];rfl
 ·rw [aZ h3,aZ h3];rfl
def tU (a b:Rp):Nat:=min (wS a.p.toNat (dR a b)) 3000
def aNk (a b:Rp):List Mt×Bool:=match aIE a b (tU a b) with|some f=>(f,true)|none=>([],false)
theorem aML {a b:Rp} (ha:bR a) (hf:pB a b=true) (he:a.dims=b.dims):iS a b (hmB a b)=some (aNk a b):=by
 have h:=jF hf;have hl:=yB h;have hd:=aBJ h;have el:((hmB a b).length:Int)=(dR a b:Int):=by unfold hmB;rw [dB,hl]
 unfold iS;rw [el,aJX h.ra.hp (by omega),aA];have em:min ((wS a.p.toNat (dR a b):Nat):Int) 3000=((tU a b:Nat):Int):=by unfold tU;omega
 have ht:tU a b≤3000:=Nat.min_le_right _ _;rw [uC (s0:=0) (s:=0) (n:=tU a b) (λc=>bif zJ a b c then some (dM a b (wR a b c),true) else none) rfl (by omega) (Nat.zero_le _) (λc _ hc=>?_) (λ_=>?_),aA]
 ·unfold aNk aIE
  have key: ∀ l:List Nat,l.findSome? (λc=>bif zJ a b c then some (dM a b (wR a b c),true) else none)=(l.findSome? λc=>bif zJ a b c then some (dM a b (wR a b c)) else none).map λf=>(f,true):=by
   intro l;induction l with
   |nil=>rfl
   |cons c l ih=>
    rw [List.findSome?_cons,List.findSome?_cons];cases zJ a b c with
    |true=>rfl
    |false=>exact ih
  rw [key];cases (List.range' 0 (tU a b - 0)).findSome? λc=>bif zJ a b c then some (dM a b (wR a b c)) else none <;> rfl
 ·unfold gQ;rw [em,jS hc,aN,aKT h (by omega),aA,aOe ha h he (aLM h c),aA];unfold zJ;cases decide (rkL a b (wR a b c)=a.dims) <;> rfl
 ·unfold gQ;rw [em,mM (bN _),aY]
theorem aQO {a b:Rp} (ha:bR a) (hb:bR b) (hf:pB a b=true) (he:a.dims=b.dims):tT a b=some (match aIE a b (tU a b) with|some f=>(f,true,true)|none=>([],false,decide (wS a.p.toNat (dR a b)≤3000))):=by
 have h:=jF hf;have ht:tU a b≤3000:=Nat.min_le_right _ _
 have key: ∀ l:List Nat,l.findSome? (λc=>bif zJ a b c then some (dM a b (wR a b c),true,true) else none)=(l.findSome? λc=>bif zJ a b c then some (dM a b (wR a b c)) else none).map λf=>(f,true,true):=by
  intro l;induction l with
  |nil=>rfl
  |cons c l ih=>
   rw [List.findSome?_cons,List.findSome?_cons];cases zJ a b c with
   |true=>rfl
   |false=>exact ih
 unfold tT;rw [aJV ha hb hf,aA,aIG ha hb hf,aA];unfold cmI;by_cases h1:wS a.p.toNat (dR a b)≤100000
 ·rw [aX h1,cY (by omega),aY];by_cases h3:wS a.p.toNat (dR a b)≤3000
  ·have et:tU a b=wS a.p.toNat (dR a b):=Nat.min_eq_left h3;rw [cY (by omega),aY];rw [uC (s0:=0) (s:=0) (n:=tU a b) (λc=>bif zJ a b c then some (dM a b (wR a b c),true,true) else none) rfl (by omega) (Nat.zero_le _) (λc _ hc=>?_) (λ_=>?_),aA,key]
   ·unfold aIE;rw [bK h3];cases (List.range' 0 (tU a b - 0)).findSome? λc=>bif zJ a b c then some (dM a b (wR a b c)) else none with
    |none=>simp
    |some f=>rfl
   ·unfold oZ;rw [←et,jS hc,aN];simp only;rw [aGC h (by omega),aA,aID ha hb hf he c,aA];unfold zJ;cases decide (rkL a b (wR a b c)=a.dims) <;> rfl
   ·unfold oZ;rw [←et,mM (bN _),aY]
  ·have et:tU a b=3000:=Nat.min_eq_right (by omega);rw [bK (by omega),aN];rw [uC (s0:=0) (s:=0) (n:=tU a b) (λc=>bif zJ a b c then some (dM a b (wR a b c),true,true) else none) rfl (by omega) (Nat.zero_le _) (λc _ hc=>?_) (λ_=>?_),aA,key]
   ·unfold aIE;rw [cY h3];cases (List.range' 0 (tU a b - 0)).findSome? λc=>bif zJ a b c then some (dM a b (wR a b c)) else none with
    |none=>simp;omega
    |some f=>rfl
   ·unfold oY;rw [bK (by omega),aN];simp only;rw [aGC h (by omega),aA,aID ha hb hf he c,aA];unfold zJ;cases decide (rkL a b (wR a b c)=a.dims) <;> rfl
   ·unfold oY;rw [et,cY (by omega),aY]
 ·have et:tU a b=3000:=Nat.min_eq_right (by omega);rw [aZ h1,bK (by omega),aN];rw [uC (s0:=0) (s:=0) (n:=tU a b) (λc=>bif zJ a b c then some (dM a b (wR a b c),true,true) else none) rfl (by omega) (Nat.zero_le _) (λc _ hc=>?_) (λ_=>?_),aA,key]
  ·unfold aIE;rw [cY (by omega: ¬ wS a.p.toNat (dR a b)≤3000)];cases (List.range' 0 (tU a b - 0)).findSome? λc=>bif zJ a b c then some (dM a b (wR a b c)) else none with
   |none=>simp
   |some f=>rfl
  ·unfold oX;rw [bK (by omega),aN];simp only;rw [aGC h (by omega),aA,aID ha hb hf he c,aA];unfold zJ;cases decide (rkL a b (wR a b c)=a.dims) <;> rfl
  ·unfold oX;rw [et,cY (by omega),aY]
def aJY (a b:Rp):Bool:= !decide (a.dims=b.dims)||(!decide (dR a b=dR a a)||(!decide (dR b a=dR a a)|| !decide (dR b b=dR a a)))
theorem aLP {a b:Rp} (hf:pB a b=true):pB b a=true∧pB a a=true∧pB b b=true:=by
 unfold pB at*;simp only [dA,sI] at*;exact ⟨⟨hf.2.1,hf.1,hf.2.2.1.symm,hf.2.2.2.symm⟩,⟨hf.1,hf.1,trivial,trivial⟩,hf.2.1,hf.2.1,trivial,trivial⟩
theorem zK {x y:Nat} :decide ((x:Int)=(y:Int))=decide (x=y):=by
 by_cases h:x=y
 ·rw [bK h,bK (by omega)]
 ·rw [cY h,cY (by omega)]
theorem aNl {a b:Rp} (ha:bR a) (hf:pB a b=true):uZ a b=some (aJY a b):=by
 obtain ⟨f1,f2,f3⟩:=aLP hf;unfold uZ aJY;rw [wQ ha.2.1,aA];by_cases he:a.dims=b.dims
 ·rw [bK he,eO,aY,aCz (jF f2),aA,aCz (jF hf),aA,aCz (jF f1),aA,aCz (jF f3),aA,zK,zK,zK];cases decide (dR a b=dR a a) <;> cases decide (dR b a=dR a a) <;> rfl
 ·rw [cY he];rfl
end
noncomputable section
set_option maxRecDepth 10000
set_option maxHeartbeats 4000000
def iT (a0:Rp) (a1:Rp):Option ((List Mt)×Bool):=
 (rZ a0 a1).bind λv1=>
 bif !v1 then
 (some (([],false)))
 else
 ((dD a0.dims a1.dims).bind λv3=>
 bif !v3 then
 (some (([],false)))
 else
 ((rR a0 a1).bind λv5=>
 (iS a0 a1 v5).bind λv6=>
 some ((v6.1,v6.2))))
theorem aAP (a0:Rp) (a1:Rp) (r:((List Mt)×Bool)) (h:iT a0 a1=some r):HasC Tryz.prog 64 [.agg (eR a0),.agg (eR a1)] (.tuple [.list 3 (r.1.map eM),.bl r.2]):=by
 exact hM [.tmp 4,.tmp 5] Tryz.func64 Tryz.ntmps64 k<|sR<|ae (wb k) k<|ae (wb k) k<|aa k k<|aT k2<|sQ<|sR<|lp k8<|lp k8<|oB h λv1 hv1 h=>ae (aL (aFe a0 a1 v1 hv1) k (aI (dH k) (aI (dH k) aJ))) k<|ae (dE k) k<|am k k<|oC h (λq2 h=>aM 10 k q2<|aK k4<|aK k4<|aK k4<|pk k3<|an<|tn<|dT k k<|sR<|aa k k<|aT k2<|aD<|aB<|sp h (bG k k k (dI k (bU (mB (k)) (bU (k) gL))))) λq2 h=>aM 10 k q2<|fp k8<|lp k8<|fp k8<|lp k8<|oB h λv3 hv3 h=>ae (aL (eK a0.dims a1.dims v3 hv3) k (cC k (cC k aJ))) k<|ae (dE k) k<|pk k3<|an<|tn<|cJ k h (λ_ h=>sR<|aa k k<|aT k2<|aD<|aB<|sp h (bG k k k (dI k (bU (mB (k)) (bU (k) gL))))) λ_ h=>aE<|tn<|sQ<|aS fF<|lp k8<|lp k8<|lp k8<|lp k8<|oB h λv5 hv5 h=>ae (cL eH (aEY a0 a1 v5 hv5) k3 (aI (dH k) (aI (dH k) aJ))) k<|oB h λv6 hv6 h=>ae (cT aW (aAO a0 a1 v5 v6 hv6) k3 (aI (dH k) (aI (dH k) (aI (aAg eH k k) aJ)))) k<|ae (bZ k k (by intro _ h;cases h)) k<|ae (bZ k k (by intro _ h;cases h)) k<|aa k k<|aa k k<|an<|pA (by kernel_rfl)<|tn<|aR (t:=mN [(4,.own 3 0 v6.1.length),(5,.bl v6.2)] [(3,⟨3,v6.1.map (ow eM)⟩)] 4) (bO (bL k2) (cF (aW.plainO _) k<|aV) k4)<|aD<|sp h (bG k k k (dI k (bU (mB (cU aW k k)) (bU (k) gL))))
def iU (a0:Rp) (a1:Rp):Option ((List Mt)×Bool):=
 (iM a0 a1).bind λv1=>
 bif !v1 then
 (some ((([]:(List Mt)),false)))
 else
 ((iV a0.dims a1.dims).bind λv3=>
 bif !v3 then
 (some ((([]:(List Mt)),false)))
 else
 ((tT a0 a1).bind λv5=>
 some ((v5.1,v5.2.1))))
theorem aAQ (a0:Rp) (a1:Rp) (r:((List Mt)×Bool)) (h:iU a0 a1=some r):HasC Tryz.prog 58 [.agg (eR a0),.agg (eR a1)] (.tuple [.list 3 (r.1.map eM),.bl r.2]):=by
 refine hM [.tmp 4,.tmp 5] Tryz.func58 Tryz.ntmps58 k<|sR<|ae (wb k) k<|ae (wb k) k<|aa k k<|aT k2<|sQ<|sR<|lp k8<|lp k8<|oB h λv1 hv1 h=>ae (aL (wF a0 a1 v1 hv1) k (aI (dH k) (aI (dH k) aJ))) k<|ae (dE k) k<|am k k<|oC h (λq2 h=>aM 13 k q2<|aK k4<|aK k4<|aK k4<|pk k3<|an<|tn<|dT k k<|sR<|ae (wl k) k<|aa k k<|aT k2<|aR (t:=mN [(4,.own 2 0 (([]:(List Mt)).length)),(5,.bl false)] [(2,⟨3,List.map (ow eM) ([]:(List Mt))⟩)] 3) (bO (sO ⟨_,k,⟨k,k,(by simp only [aU,lA,lT,lR,lC,lN]),k⟩⟩ (bL k2)) (cF (aW.plainO _) k<|aV) k4)<|aD<|aB<|sp h (bG k k k (dI k (bU (mB (cU aW k k)) (bU (k) gL))))) λq2 h=>?_;exact aM 13 k q2<|fp k8<|lp k8<|fp k8<|lp k8<|oB h λv3 hv3 h=>ae (aL (nS a0.dims a1.dims v3 hv3) k (cC k (cC k aJ))) k<|ae (dE k) k<|pk k3<|an<|tn<|cJ k h (λ_ h=>sR<|ae (wl k) k<|aa k k<|aT k2<|aR (t:=mN [(4,.own 2 0 (([]:(List Mt)).length)),(5,.bl false)] [(2,⟨3,List.map (ow eM) ([]:(List Mt))⟩)] 3) (bO (sO ⟨_,k,⟨k,k,(by simp only [aU,lA,lT,lR,lC,lN]),k⟩⟩ (bL k2)) (cF (aW.plainO _) k<|aV) k4)<|aD<|aB<|sp h (bG k k k (dI k (bU (mB (cU aW k k)) (bU (k) gL))))) λ_ h=>aE<|tn<|sR<|lp k8<|lp k8<|oB h λv5 hv5 h=>ae (AEff.conv (sW (x:= .tuple [.own 2 0 (v5.1.map eM).length,.bl v5.2.1,.bl v5.2.2]) (nb:=[(2,⟨3,bX (v5.1.map eM)⟩)]) (aFz a0 a1 v5 hv5) k (by rfl) k k (gP (aW.good _) (gP aV (gP aV yG))) (aI (dH k) (aI (dH k) aJ))) (v':= .tuple [.own 2 0 v5.1.length,.bl v5.2.1,.bl v5.2.2]) (ed':=[(2,some ⟨3,v5.1.map (ow eM)⟩)]) (by simp only [aU]) (vY (nb':=[(2,⟨3,v5.1.map (ow eM)⟩)]) (by simp only [fP]))) k<|am k k<|ae (bZ k k (by intro _ h;cases h)) k<|ae (bZ k k (by intro _ h;cases h)) k<|ae (bZ k k (by intro _ h;cases h)) k<|aa k k<|aa k k<|aT k2<|aR (t:=mN [(6,.own 2 0 v5.1.length),(7,.bl v5.2.1)] [(2,⟨3,v5.1.map (ow eM)⟩)] 3) (bO (bL k2) (cF (aW.plainO _) k<|aV) k4)<|sR<|am k k<|am k k<|aa k k<|aT k2<|aD<|sp h (bG k k k (dI k (bU (mB (cU aW k k)) (bU (k) gL))))
def qH (a0:Rp) (a1:Rp):Option Bool:=
 (iX a0 a0).bind λv1=>
 (iV a0.dims a1.dims).bind λv2=>
 bif !v2 then
 (some (true))
 else
 ((iX a0 a1).bind λv4=>
 bif !decide (v4=v1) then
 (some (true))
 else
 ((iX a1 a0).bind λv6=>
 bif !decide (v6=v1) then
 (some (true))
 else
 ((iX a1 a1).bind λv8=>
 some (!decide (v8=v1)))))
theorem aDm (a0:Rp) (a1:Rp) (r:Bool) (h:qH a0 a1=some r):HasC Tryz.prog 56 [.agg (eR a0),.agg (eR a1)] (.bl r):=by
 exact hM [.tmp 4] Tryz.func56 Tryz.ntmps56 k<|sR<|ae (wb k) k<|ae (wb k) k<|aT k2<|sR<|lp k8<|lp k8<|oB h λv1 hv1 h=>ae (aL (qQ a0 a0 v1 hv1) k (aI (dH k) (aI (dH k) aJ))) k<|aT k2<|sR<|fp k8<|lp k8<|fp k8<|lp k8<|oB h λv2 hv2 h=>ae (aL (nS a0.dims a1.dims v2 hv2) k (cC k (cC k aJ))) k<|ae (dE k) k<|am k k<|oC h (λq3 h=>aM 15 k q3<|aK k4<|aK k4<|ak k k<|pk k3<|am k k<|aK k4<|aK k4<|ak k k<|pk k3<|am k k<|aK k4<|aK k4<|ak k k<|pk k3<|aT k2<|aD<|dY h k2) λq3 h=>aM 15 k q3<|lp k8<|lp k8<|oB h λv4 hv4 h=>ae (aL (qQ a0 a1 v4 hv4) k (aI (dH k) (aI (dH k) aJ))) k<|am k k<|cm k4<|pk k3<|am k k<|oC h (λq5 h=>aM 22 k q5<|aK k4<|aK k4<|ak k k<|pk k3<|am k k<|aK k4<|aK k4<|ak k k<|pk k3<|aT k2<|aD<|dY h k2) λq5 h=>aM 22 k q5<|lp k8<|lp k8<|oB h λv6 hv6 h=>ae (aL (qQ a1 a0 v6 hv6) k (aI (dH k) (aI (dH k) aJ))) k<|am k k<|cm k4<|pk k3<|am k k<|oC h (λq7 h=>aM 29 k q7<|aK k4<|aK k4<|ak k k<|pk k3<|aT k2<|aD<|dY h k2) λq7 h=>aM 29 k q7<|lp k8<|lp k8<|oB h λv8 hv8 h=>ae (aL (qQ a1 a1 v8 hv8) k (aI (dH k) (aI (dH k) aJ))) k<|am k k<|cm k4<|pk k3<|aT k2<|aD<|dY h k2
def jH (a0:Rp) (a1:Rp):Option (Cl×Bool):=
 (rZ a0 a1).bind λv1=>
 bif !v1 then
 (some (((⟨0,(⟨0,(⟨0,[],[]⟩:Qv),[],[]⟩:Rp),(⟨0,(⟨0,[],[]⟩:Qv),[],[]⟩:Rp),[],[],[],[],[]⟩:Cl),false)))
 else
 ((uZ a0 a1).bind λv3=>
 bif v3 then
 ((gY a0).bind λv5=>
 (gY a1).bind λv6=>
 some (((⟨3,v5,v6,[],[],[],[],[]⟩:Cl),true)))
 else
 ((iT a0 a1).bind λv7=>
 bif !v7.2 then
 (some (((⟨0,(⟨0,(⟨0,[],[]⟩:Qv),[],[]⟩:Rp),(⟨0,(⟨0,[],[]⟩:Qv),[],[]⟩:Rp),[],[],[],[],[]⟩:Cl),false)))
 else
 ((gY a0).bind λv9=>
 (gY a1).bind λv10=>
 some (((⟨2,v9,v10,[],v7.1,[],[],[]⟩:Cl),true)))))
theorem xE (a0:Rp) (a1:Rp) (r:(Cl×Bool)) (h:jH a0 a1=some r):HasC Tryz.prog 16 [.agg (eR a0),.agg (eR a1)] (.tuple [.agg (eC r.1),.bl r.2]):=by
 refine hM [.cell 4 37,.tmp 5] Tryz.func16 Tryz.ntmps16 k<|sR<|ae (wb k) k<|ae (wb k) k<|ae (cA aO k k) k<|aT k2<|sQ<|sR<|lp k8<|lp k8<|oB h λv1 hv1 h=>ae (aL (aFe a0 a1 v1 hv1) k (aI (dH k) (aI (dH k) aJ))) k<|ae (dE k) k<|an<|tn<|cJ k h (λ_ h=>sR<|ae (iJ aO k k k k k k) k<|ae (ws k) k<|aT k2<|aD<|aB<|sp h (bG k k k (dI k (bU (vN (aH (k) (aH (k) (aH (k) (aH (k) (aH (k) (aH (k) (aH (k) (aH (k) (aH (k) (aH (k) (aH (k) (aH (k) (aH (k) (aH (k) (aH (k) (aH (k) (aH (k) (aH (k) fY))))))))))))))))))) (bU (k) gL))))) λ_ h=>?_;refine aE<|tn<|sQ<|sR<|lp k8<|lp k8<|oB h λv3 hv3 h=>ae (aL (aGR a0 a1 v3 hv3) k (aI (dH k) (aI (dH k) aJ))) k<|an<|tn<|cJ k h (λ_ h=>sQ<|aS fF<|lp k8<|oB h λv5 hv5 h=>ae (cR (qC a0 v5 hv5) k3 (aI (dH k) aJ)) k<|lp k8<|oB h λv6 hv6 h=>ae (cR (qC a1 v6 hv6) k3 (aI (dH k) aJ)) k<|ae (iJ aO k k k k k k) k<|ae (ws k) k<|aa k k<|an<|pA (by kernel_rfl)<|tn<|aD<|aB<|sp h (bG k k k (dI k (bU (vN (aH (k) (aH (k) (aH (k) (aH (cU bH k k) (aH (cU bH k k) (aH (cU bH k k) (aH (cU aW k k) (aH (k) (aH (k) (aH (cU bH k k) (aH (cU bH k k) (aH (cU bH k k) (aH (cU aW k k) (aH (k) (aH (k) (aH (k) (aH (k) (aH (k) fY))))))))))))))))))) (bU (k) gL))))) λ_ h=>?_;refine aE<|tn<|sR<|lp k8<|lp k8<|oB h λv7 hv7 h=>ae (cT aW (aAP a0 a1 v7 hv7) k3 (aI (dH k) (aI (dH k) aJ))) k<|am k k<|ae (bZ k k (by intro _ h;cases h)) k<|ae (bZ k k (by intro _ h;cases h)) k<|aa k k<|aT k2<|sQ<|sR<|am k k<|ae (dE k) k<|an<|tn<|cJ k h (λ_ h=>sR<|ae (iJ aO k k k k k k) k<|ae (ws k) k<|aT k2<|aR (t:=mN [(4,.ptr 2 0 0),(5,.bl false)] [(2,⟨18,[[.int 0,.int 0,.int 0,.nil 1,.nil 1,.nil 1,.nil 3,.int 0,.int 0,.nil 1,.nil 1,.nil 1,.nil 3,.nil 6,.nil 3,.nil 3,.nil 1,.nil 2]]⟩)] 4) (bO (bL k2) (bT k<|aV) k4)<|aD<|aB<|sp h (bG k k k (dI k (bU (vN (aH (k) (aH (k) (aH (k) (aH (k) (aH (k) (aH (k) (aH (k) (aH (k) (aH (k) (aH (k) (aH (k) (aH (k) (aH (k) (aH (k) (aH (k) (aH (k) (aH (k) (aH (k) fY))))))))))))))))))) (bU (k) gL))))) λ_ h=>?_;exact aE<|tn<|sQ<|aS fF<|lp k8<|oB h λv9 hv9 h=>ae (cR (qC a0 v9 hv9) k3 (aI (dH k) aJ)) k<|lp k8<|oB h λv10 hv10 h=>ae (cR (qC a1 v10 hv10) k3 (aI (dH k) aJ)) k<|am k k<|ae (iJ aO k k k k k k) k<|ae (ws k) k<|aa k k<|an<|pA (by kernel_rfl)<|tn<|aR (t:=mN [(4,.ptr 2 0 0),(5,.bl true)] [(2,⟨18,[[.int 2,.int v9.p,.int v9.q.n,.own 4 0 v9.q.src.length,.own 5 0 v9.q.tgt.length,.own 6 0 v9.dims.length,.own 7 0 v9.maps.length,.int v10.p,.int v10.q.n,.own 8 0 v10.q.src.length,.own 9 0 v10.q.tgt.length,.own 10 0 v10.dims.length,.own 11 0 v10.maps.length,.nil 6,.own 3 0 v7.1.length,.nil 3,.nil 1,.nil 2]]⟩),(3,⟨3,v7.1.map (ow eM)⟩),(4,⟨1,v9.q.src.map (ow eI)⟩),(5,⟨1,v9.q.tgt.map (ow eI)⟩),(6,⟨1,v9.dims.map (ow eI)⟩),(7,⟨3,v9.maps.map (ow eM)⟩),(8,⟨1,v10.q.src.map (ow eI)⟩),(9,⟨1,v10.q.tgt.map (ow eI)⟩),(10,⟨1,v10.dims.map (ow eI)⟩),(11,⟨3,v10.maps.map (ow eM)⟩)] 12) (bO (bL k2) (fK k<|cF (aW.plainO _) k<|bD k<|bD k<|bD k<|cF (aW.plainO _) k<|bD k<|bD k<|bD k<|cF (aW.plainO _) k<|aV) k4)<|aD<|sp h (bG k k k (dI k (bU (vN (aH (k) (aH (k) (aH (k) (aH (cU bH k k) (aH (cU bH k k) (aH (cU bH k k) (aH (cU aW k k) (aH (k) (aH (k) (aH (cU bH k k) (aH (cU bH k k) (aH (cU bH k k) (aH (cU aW k k) (aH (k) (aH (cU aW k k) (aH (k) (aH (k) (aH (k) fY))))))))))))))))))) (bU (k) gL))))
def nK (a0:Rp) (a1:Rp):Option (Cl×Bool):=
 (iM a0 a1).bind λv1=>
 bif !v1 then
 (some (((⟨0,(⟨0,(⟨0,[],[]⟩:Qv),[],[]⟩:Rp),(⟨0,(⟨0,[],[]⟩:Qv),[],[]⟩:Rp),[],[],[],[],[]⟩:Cl),false)))
 else
 ((qH a0 a1).bind λv3=>
 bif v3 then
 ((lD a0).bind λv5=>
 (lD a1).bind λv6=>
 some (((⟨3,v5,v6,[],[],[],[],[]⟩:Cl),true)))
 else
 ((iU a0 a1).bind λv7=>
 bif !v7.2 then
 (some (((⟨0,(⟨0,(⟨0,[],[]⟩:Qv),[],[]⟩:Rp),(⟨0,(⟨0,[],[]⟩:Qv),[],[]⟩:Rp),[],[],[],[],[]⟩:Cl),false)))
 else
 ((lD a0).bind λv9=>
 (lD a1).bind λv10=>
 some (((⟨2,v9,v10,[],v7.1,[],[],[]⟩:Cl),true)))))
theorem aBy (a0:Rp) (a1:Rp) (r:(Cl×Bool)) (h:nK a0 a1=some r):HasC Tryz.prog 14 [.agg (eR a0),.agg (eR a1)] (.tuple [.agg (eC r.1),.bl r.2]):=by
 refine hM [.cell 4 37,.tmp 5] Tryz.func14 Tryz.ntmps14 k<|sR<|ae (wb k) k<|ae (wb k) k<|ae (cA aO k k) k<|aT k2<|sQ<|sR<|lp k8<|lp k8<|oB h λv1 hv1 h=>ae (aL (wF a0 a1 v1 hv1) k (aI (dH k) (aI (dH k) aJ))) k<|ae (dE k) k<|an<|tn<|cJ k h (λ_ h=>sR<|ae (iJ aO k k k k k k) k<|ae (ws k) k<|aT k2<|aD<|aB<|sp h (bG k k k (dI k (bU (vN (aH (k) (aH (k) (aH (k) (aH (k) (aH (k) (aH (k) (aH (k) (aH (k) (aH (k) (aH (k) (aH (k) (aH (k) (aH (k) (aH (k) (aH (k) (aH (k) (aH (k) (aH (k) fY))))))))))))))))))) (bU (k) gL))))) λ_ h=>?_;refine aE<|tn<|sQ<|sR<|lp k8<|lp k8<|oB h λv3 hv3 h=>ae (aL (aDm a0 a1 v3 hv3) k (aI (dH k) (aI (dH k) aJ))) k<|an<|tn<|cJ k h (λ_ h=>sQ<|aS fF<|lp k8<|oB h λv5 hv5 h=>ae (cR (uW a0 v5 hv5) k3 (aI (dH k) aJ)) k<|lp k8<|oB h λv6 hv6 h=>ae (cR (uW a1 v6 hv6) k3 (aI (dH k) aJ)) k<|ae (iJ aO k k k k k k) k<|ae (ws k) k<|aa k k<|an<|pA (by kernel_rfl)<|tn<|aD<|aB<|sp h (bG k k k (dI k (bU (vN (aH (k) (aH (k) (aH (k) (aH (cU bH k k) (aH (cU bH k k) (aH (cU bH k k) (aH (cU aW k k) (aH (k) (aH (k) (aH (cU bH k k) (aH (cU bH k k) (aH (cU bH k k) (aH (cU aW k k) (aH (k) (aH (k) (aH (k) (aH (k) (aH (k) fY))))))))))))))))))) (bU (k) gL))))) λ_ h=>?_;refine aE<|tn<|sR<|lp k8<|lp k8<|oB h λv7 hv7 h=>ae (cT aW (aAQ a0 a1 v7 hv7) k3 (aI (dH k) (aI (dH k) aJ))) k<|am k k<|ae (bZ k k (by intro _ h;cases h)) k<|ae (bZ k k (by intro _ h;cases h)) k<|aa k k<|aT k2<|sQ<|sR<|am k k<|ae (dE k) k<|an<|tn<|cJ k h (λ_ h=>sR<|ae (iJ aO k k k k k k) k<|ae (ws k) k<|aT k2<|aR (t:=mN [(4,.ptr 2 0 0),(5,.bl false)] [(2,⟨18,[[.int 0,.int 0,.int 0,.nil 1,.nil 1,.nil 1,.nil 3,.int 0,.int 0,.nil 1,.nil 1,.nil 1,.nil 3,.nil 6,.nil 3,.nil 3,.nil 1,.nil 2]]⟩)] 4) (bO (bL k2) (bT k<|aV) k4)<|aD<|aB<|sp h (bG k k k (dI k (bU (vN (aH (k) (aH (k) (aH (k) (aH (k) (aH (k) (aH (k) (aH (k) (aH (k) (aH (k) (aH (k) (aH (k) (aH (k) (aH (k) (aH (k) (aH (k) (aH (k) (aH (k) (aH (k) fY))))))))))))))))))) (bU (k) gL))))) λ_ h=>?_;exact aE<|tn<|sQ<|aS fF<|lp k8<|oB h λv9 hv9 h=>ae (cR (uW a0 v9 hv9) k3 (aI (dH k) aJ)) k<|lp k8<|oB h λv10 hv10 h=>ae (cR (uW a1 v10 hv10) k3 (aI (dH k) aJ)) k<|am k k<|ae (iJ aO k k k k k k) k<|ae (ws k) k<|aa k k<|an<|pA (by kernel_rfl)<|tn<|aR (t:=mN [(4,.ptr 2 0 0),(5,.bl true)] [(2,⟨18,[[.int 2,.int v9.p,.int v9.q.n,.own 4 0 v9.q.src.length,.own 5 0 v9.q.tgt.length,.own 6 0 v9.dims.length,.own 7 0 v9.maps.length,.int v10.p,.int v10.q.n,.own 8 0 v10.q.src.length,.own 9 0 v10.q.tgt.length,.own 10 0 v10.dims.length,.own 11 0 v10.maps.length,.nil 6,.own 3 0 v7.1.length,.nil 3,.nil 1,.nil 2]]⟩),(3,⟨3,v7.1.map (ow eM)⟩),(4,⟨1,v9.q.src.map (ow eI)⟩),(5,⟨1,v9.q.tgt.map (ow eI)⟩),(6,⟨1,v9.dims.map (ow eI)⟩),(7,⟨3,v9.maps.map (ow eM)⟩),(8,⟨1,v10.q.src.map (ow eI)⟩),(9,⟨1,v10.q.tgt.map (ow eI)⟩),(10,⟨1,v10.dims.map (ow eI)⟩),(11,⟨3,v10.maps.map (ow eM)⟩)] 12) (bO (bL k2) (fK k<|cF (aW.plainO _) k<|bD k<|bD k<|bD k<|cF (aW.plainO _) k<|bD k<|bD k<|bD k<|cF (aW.plainO _) k<|aV) k4)<|aD<|sp h (bG k k k (dI k (bU (vN (aH (k) (aH (k) (aH (k) (aH (cU bH k k) (aH (cU bH k k) (aH (cU bH k k) (aH (cU aW k k) (aH (k) (aH (k) (aH (cU bH k k) (aH (cU bH k k) (aH (cU bH k k) (aH (cU aW k k) (aH (k) (aH (cU aW k k) (aH (k) (aH (k) (aH (k) fY))))))))))))))))))) (bU (k) gL))))
def jV (a0:Rp) (a1:Rp):Option Bool:=
 (wH a0 1048576).bind λv1=>
 bif decide (v1<0) then
 (some (true))
 else
 ((wH a1 v1).bind λv3=>
 bif decide (v3<0) then
 (some (true))
 else
 ((gC a0).bind λv5=>
 (gC a1).bind λv6=>
 (nK v5 v6).bind λv7=>
 (gC a0).bind λv8=>
 (gC a1).bind λv9=>
 (jH v8 v9).bind λv10=>
 (mJ v10.1 v7.1).bind λv11=>
 bif !v11 then
 (some (false))
 else
 (bif !(v10.2==v7.2) then
 (some (false))
 else
 ((gC a0).bind λv14=>
 (kK v8 v14).bind λv15=>
 bif !v15 then
 (some (false))
 else
 ((gC a1).bind λv17=>
 (kK v9 v17).bind λv18=>
 bif !v18 then
 (some (false))
 else
 ((jE v8 1).bind λv20=>
 bif decide (v20.1.length=v8.q.src.length) then
 (bif decide (v20.2.1.length=v8.q.tgt.length) then
 (bif decide (v20.2.2.1.length=v8.dims.length) then
 (bif decide (v20.2.2.2.1.length=v8.maps.length) then
 ((jE v9 v20.2.2.2.2).bind λv25=>
 bif decide (v25.1.length=v9.q.src.length) then
 (bif decide (v25.2.1.length=v9.q.tgt.length) then
 (bif decide (v25.2.2.1.length=v9.dims.length) then
 (bif decide (v25.2.2.2.1.length=v9.maps.length) then
 (bif decide (v25.2.2.2.2<0) then
 (some (false))
 else
 ((mJ v10.1 v7.1).bind λv31=>
 bif !v31 then
 (some (false))
 else
 (bif !(v10.2==v7.2) then
 (some (false))
 else
 ((pZ v10.1 1).bind λv34=>
 bif decide (v34.1.length=v10.1.rep.q.src.length) then
 (bif decide (v34.2.1.length=v10.1.rep.q.tgt.length) then
 (bif decide (v34.2.2.1.length=v10.1.rep.dims.length) then
 (bif decide (v34.2.2.2.1.length=v10.1.rep.maps.length) then
 (bif decide (v34.2.2.2.2.1.length=v10.1.other.q.src.length) then
 (bif decide (v34.2.2.2.2.2.1.length=v10.1.other.q.tgt.length) then
 (bif decide (v34.2.2.2.2.2.2.1.length=v10.1.other.dims.length) then
 (bif decide (v34.2.2.2.2.2.2.2.1.length=v10.1.other.maps.length) then
 (bif decide (v34.2.2.2.2.2.2.2.2.1.length=v10.1.parts.length) then
 (bif decide (v34.2.2.2.2.2.2.2.2.2.1.length=v10.1.maps.length) then
 (bif decide (v34.2.2.2.2.2.2.2.2.2.2.1.length=v10.1.bars.length) then
 (bif decide (v34.2.2.2.2.2.2.2.2.2.2.2.1.length=v10.1.theta.length) then
 (bif decide (v34.2.2.2.2.2.2.2.2.2.2.2.2.1.length=v10.1.subs.length) then
 ((mI (⟨v10.1.kind,(⟨v10.1.rep.p,(⟨v10.1.rep.q.n,v34.1,v34.2.1⟩:Qv),v34.2.2.1,v34.2.2.2.1⟩:Rp),(⟨v10.1.other.p,(⟨v10.1.other.q.n,v34.2.2.2.2.1,v34.2.2.2.2.2.1⟩:Qv),v34.2.2.2.2.2.2.1,v34.2.2.2.2.2.2.2.1⟩:Rp),v34.2.2.2.2.2.2.2.2.1,v34.2.2.2.2.2.2.2.2.2.1,v34.2.2.2.2.2.2.2.2.2.2.1,v34.2.2.2.2.2.2.2.2.2.2.2.1,v34.2.2.2.2.2.2.2.2.2.2.2.2.1⟩:Cl) 1).bind λv48=>
 bif decide (v48<0) then
 (some (false))
 else
 (bif !decide (v48=v34.2.2.2.2.2.2.2.2.2.2.2.2.2) then
 (some (false))
 else
 ((gC a0).bind λv51=>
 (gC a1).bind λv52=>
 (jH v51 v52).bind λv53=>
 (mJ v53.1 v7.1).bind λv54=>
 bif !v54 then
 (some (false))
 else
 (bif !(v53.2==v7.2) then
 (some (false))
 else
 ((mI (⟨v10.1.kind,(⟨v10.1.rep.p,(⟨v10.1.rep.q.n,v34.1,v34.2.1⟩:Qv),v34.2.2.1,v34.2.2.2.1⟩:Rp),(⟨v10.1.other.p,(⟨v10.1.other.q.n,v34.2.2.2.2.1,v34.2.2.2.2.2.1⟩:Qv),v34.2.2.2.2.2.2.1,v34.2.2.2.2.2.2.2.1⟩:Rp),v34.2.2.2.2.2.2.2.2.1,v34.2.2.2.2.2.2.2.2.2.1,v34.2.2.2.2.2.2.2.2.2.2.1,v34.2.2.2.2.2.2.2.2.2.2.2.1,v34.2.2.2.2.2.2.2.2.2.2.2.2.1⟩:Cl) 1).bind λv57=>
 bif decide (v57<0) then
 (some (false))
 else
 (bif !decide (v57=v34.2.2.2.2.2.2.2.2.2.2.2.2.2) then
 (some (false))
 else
 (some (true))))))))
 else none)
 else none)
 else none)
 else none)
 else none)
 else none)
 else none)
 else none)
 else none)
 else none)
 else none)
 else none)
 else none))))
 else none)
 else none)
 else none)
 else none)
 else none)
 else none)
 else none)
 else none))))))
theorem xG (a0:Rp) (a1:Rp) (r:Bool) (h:jV a0 a1=some r):HasC Tryz.prog 3 [.agg (eR a0),.agg (eR a1)] (.bl r):=by
 refine aIv aO (rvs:=[.tmp 4]) (ns:=nmA) Tryz.func3 k k Tryz.ntmps3 k k k (λW=>?_);refine aCa<|uN<|uN<|nY (λw0_2 S0_2 r0_2=>?_);refine nY (λw0_3 S0_3 r0_3=>?_);refine nY (λw0_4 S0_4 r0_4=>?_);refine nY (λw0_5 S0_5 r0_5=>?_);refine yX<|aCa<|uN<|uN<|nY (λw1_2 S1_2 r1_2=>?_);refine nY (λw1_3 S1_3 r1_3=>?_);refine nY (λw1_4 S1_4 r1_4=>?_);refine nY (λw1_5 S1_5 r1_5=>?_);refine yX<|aIt<|sS<|se (wb k) k<|se (wb k) k<|lG k2<|sn<|tn<|sS<|lG k2<|sn<|tn<|sS<|lpS k8<|fU k2<|oB h λv1 hv1 h=>se (pN (aCh a0 1048576 v1 hv1) k (dQ (vrR k r0_2 r0_3 r0_4 r0_5) (wkS k kU))) k<|lG k2<|sn<|tn<|sQ<|sS<|fU k2<|cmS k4<|sn<|tn<|cJ k h (λ_ h=>sS<|lG k2<|sn<|tn<|aD<|aB<|dY h k2) λ_ h=>?_;refine aE<|tn<|sS<|lpS k8<|fU k2<|oB h λv3 hv3 h=>se (pN (aCh a1 v1 v3 hv3) k (dQ (vrR k r1_2 r1_3 r1_4 r1_5) (wkS k kU))) k<|lG k2<|sn<|tn<|sQ<|sS<|fU k2<|cmS k4<|sn<|tn<|cJ k h (λ_ h=>sS<|lG k2<|sn<|tn<|aD<|aB<|dY h k2) λ_ h=>?_;refine aE<|tn<|sQ<|aS fF<|lp k8<|oB h λv5 hv5 h=>ae (cRK (kJ a0 v5 hv5) k3 (dQ (vrR k r0_2 r0_3 r0_4 r0_5) kU)) k<|lp k8<|oB h λv6 hv6 h=>ae (cRK (kJ a1 v6 hv6) k3 (dQ (vrR k r1_2 r1_3 r1_4 r1_5) kU)) k<|oB h λv7 hv7 h=>ae (AEff.conv (aAj (x:= .tuple [.agg [.int v7.1.kind,.int v7.1.rep.p,.int v7.1.rep.q.n,.own 10 0 (v7.1.rep.q.src.map eI).length,.own 11 0 (v7.1.rep.q.tgt.map eI).length,.own 12 0 (v7.1.rep.dims.map eI).length,.own 13 0 (v7.1.rep.maps.map eM).length,.int v7.1.other.p,.int v7.1.other.q.n,.own 14 0 (v7.1.other.q.src.map eI).length,.own 15 0 (v7.1.other.q.tgt.map eI).length,.own 16 0 (v7.1.other.dims.map eI).length,.own 17 0 (v7.1.other.maps.map eM).length,.own 18 0 (v7.1.parts.map eR).length,.own 19 0 (v7.1.maps.map eM).length,.own 20 0 (v7.1.bars.map eB).length,.own 21 0 (v7.1.theta.map eI).length,.own 22 0 (v7.1.subs.map eS).length],.bl v7.2]) (nb:=[(10,⟨1,bX (v7.1.rep.q.src.map eI)⟩),(11,⟨1,bX (v7.1.rep.q.tgt.map eI)⟩),(12,⟨1,bX (v7.1.rep.dims.map eI)⟩),(13,⟨3,bX (v7.1.rep.maps.map eM)⟩),(14,⟨1,bX (v7.1.other.q.src.map eI)⟩),(15,⟨1,bX (v7.1.other.q.tgt.map eI)⟩),(16,⟨1,bX (v7.1.other.dims.map eI)⟩),(17,⟨3,bX (v7.1.other.maps.map eM)⟩),(18,⟨6,bX (v7.1.parts.map eR)⟩),(19,⟨3,bX (v7.1.maps.map eM)⟩),(20,⟨3,bX (v7.1.bars.map eB)⟩),(21,⟨1,bX (v7.1.theta.map eI)⟩),(22,⟨2,bX (v7.1.subs.map eS)⟩)]) (aBy v5 v6 v7 hv7) k (by rfl) k k (gP (bJ aV (bJ aV (bJ aV (bJ (bH.good _) (bJ (bH.good _) (bJ (bH.good _) (bJ (aW.good _) (bJ aV (bJ aV (bJ (bH.good _) (bJ (bH.good _) (bJ (bH.good _) (bJ (aW.good _) (bJ (fB.good _) (bJ (aW.good _) (bJ (gZ.good _) (bJ (bH.good _) (bJ (gN.good _) vO)))))))))))))))))) (gP aV yG)) (dQ (.inl (vaR k8)) (dQ (.inl (vaR k8)) kU))) (v':= .tuple [.agg [.int v7.1.kind,.int v7.1.rep.p,.int v7.1.rep.q.n,.own 10 0 v7.1.rep.q.src.length,.own 11 0 v7.1.rep.q.tgt.length,.own 12 0 v7.1.rep.dims.length,.own 13 0 v7.1.rep.maps.length,.int v7.1.other.p,.int v7.1.other.q.n,.own 14 0 v7.1.other.q.src.length,.own 15 0 v7.1.other.q.tgt.length,.own 16 0 v7.1.other.dims.length,.own 17 0 v7.1.other.maps.length,.own 18 0 v7.1.parts.length,.own 19 0 v7.1.maps.length,.own 20 0 v7.1.bars.length,.own 21 0 v7.1.theta.length,.own 22 0 v7.1.subs.length],.bl v7.2]) (ed':=[(10,some ⟨1,v7.1.rep.q.src.map (ow eI)⟩),(11,some ⟨1,v7.1.rep.q.tgt.map (ow eI)⟩),(12,some ⟨1,v7.1.rep.dims.map (ow eI)⟩),(13,some ⟨3,v7.1.rep.maps.map (ow eM)⟩),(14,some ⟨1,v7.1.other.q.src.map (ow eI)⟩),(15,some ⟨1,v7.1.other.q.tgt.map (ow eI)⟩),(16,some ⟨1,v7.1.other.dims.map (ow eI)⟩),(17,some ⟨3,v7.1.other.maps.map (ow eM)⟩),(18,some ⟨6,v7.1.parts.map (ow eR)⟩),(19,some ⟨3,v7.1.maps.map (ow eM)⟩),(20,some ⟨3,v7.1.bars.map (ow eB)⟩),(21,some ⟨1,v7.1.theta.map (ow eI)⟩),(22,some ⟨2,v7.1.subs.map (ow eS)⟩)]) (by simp only [aU]) (vY (nb':=[(10,⟨1,v7.1.rep.q.src.map (ow eI)⟩),(11,⟨1,v7.1.rep.q.tgt.map (ow eI)⟩),(12,⟨1,v7.1.rep.dims.map (ow eI)⟩),(13,⟨3,v7.1.rep.maps.map (ow eM)⟩),(14,⟨1,v7.1.other.q.src.map (ow eI)⟩),(15,⟨1,v7.1.other.q.tgt.map (ow eI)⟩),(16,⟨1,v7.1.other.dims.map (ow eI)⟩),(17,⟨3,v7.1.other.maps.map (ow eM)⟩),(18,⟨6,v7.1.parts.map (ow eR)⟩),(19,⟨3,v7.1.maps.map (ow eM)⟩),(20,⟨3,v7.1.bars.map (ow eB)⟩),(21,⟨1,v7.1.theta.map (ow eI)⟩),(22,⟨2,v7.1.subs.map (ow eS)⟩)]) (by simp only [fP]))) k ?_;refine am k k<|ae (bZ k k (by intro _ h;cases h)) k<|ae (bZ k k (by intro _ h;cases h)) k<|ae (cA aO k k) k<|ae (ws k) k<|aa k k<|an<|pA (by kernel_rfl)<|tn<|aR (t:=mN [(2,.ptr 0 0 0),(3,.ptr 1 0 0),(6,.ptr 23 0 0),(7,.bl v7.2)] [(0,⟨6,[[.int a0.p,.int a0.q.n,.sc w0_2,.sc w0_3,.sc w0_4,.sc w0_5]]⟩),(1,⟨6,[[.int a1.p,.int a1.q.n,.sc w1_2,.sc w1_3,.sc w1_4,.sc w1_5]]⟩),(10,⟨1,v7.1.rep.q.src.map (ow eI)⟩),(11,⟨1,v7.1.rep.q.tgt.map (ow eI)⟩),(12,⟨1,v7.1.rep.dims.map (ow eI)⟩),(13,⟨3,v7.1.rep.maps.map (ow eM)⟩),(14,⟨1,v7.1.other.q.src.map (ow eI)⟩),(15,⟨1,v7.1.other.q.tgt.map (ow eI)⟩),(16,⟨1,v7.1.other.dims.map (ow eI)⟩),(17,⟨3,v7.1.other.maps.map (ow eM)⟩),(18,⟨6,v7.1.parts.map (ow eR)⟩),(19,⟨3,v7.1.maps.map (ow eM)⟩),(20,⟨3,v7.1.bars.map (ow eB)⟩),(21,⟨1,v7.1.theta.map (ow eI)⟩),(22,⟨2,v7.1.subs.map (ow eS)⟩),(23,⟨18,[[.int v7.1.kind,.int v7.1.rep.p,.int v7.1.rep.q.n,.own 10 0 v7.1.rep.q.src.length,.own 11 0 v7.1.rep.q.tgt.length,.own 12 0 v7.1.rep.dims.length,.own 13 0 v7.1.rep.maps.length,.int v7.1.other.p,.int v7.1.other.q.n,.own 14 0 v7.1.other.q.src.length,.own 15 0 v7.1.other.q.tgt.length,.own 16 0 v7.1.other.dims.length,.own 17 0 v7.1.other.maps.length,.own 18 0 v7.1.parts.length,.own 19 0 v7.1.maps.length,.own 20 0 v7.1.bars.length,.own 21 0 v7.1.theta.length,.own 22 0 v7.1.subs.length]]⟩)] 24 ⟨0,true,fxW W,true⟩) (bO (bL k2) (bT k<|bT k<|bD k<|bD k<|bD k<|cF (aW.plainO _) k<|bD k<|bD k<|bD k<|cF (aW.plainO _) k<|cF (fB.plainO _) k<|cF (aW.plainO _) k<|cF (gZ.plainO _) k<|bD k<|cF (gN.plainO _) k<|fK k<|aV) k4)<|sS<|lpS k8<|oB h λv8 hv8 h=>se (cRK (kJ a0 v8 hv8) k3 (dQ (vrR k r0_2 r0_3 r0_4 r0_5) kU)) k<|se (cA aO k k) k<|se (ws k) k<|sn<|tn<|sS<|lpS k8<|oB h λv9 hv9 h=>se (cRK (kJ a1 v9 hv9) k3 (dQ (vrR k r1_2 r1_3 r1_4 r1_5) kU)) k<|se (cA aO k k) k<|se (ws k) k<|sn<|tn<|sS<|lpS k8<|lpS k8 ?_;refine oB h λv10 hv10 h=>se (AEff.conv (aAj (x:= .tuple [.agg [.int v10.1.kind,.int v10.1.rep.p,.int v10.1.rep.q.n,.own 34 0 (v10.1.rep.q.src.map eI).length,.own 35 0 (v10.1.rep.q.tgt.map eI).length,.own 36 0 (v10.1.rep.dims.map eI).length,.own 37 0 (v10.1.rep.maps.map eM).length,.int v10.1.other.p,.int v10.1.other.q.n,.own 38 0 (v10.1.other.q.src.map eI).length,.own 39 0 (v10.1.other.q.tgt.map eI).length,.own 40 0 (v10.1.other.dims.map eI).length,.own 41 0 (v10.1.other.maps.map eM).length,.own 42 0 (v10.1.parts.map eR).length,.own 43 0 (v10.1.maps.map eM).length,.own 44 0 (v10.1.bars.map eB).length,.own 45 0 (v10.1.theta.map eI).length,.own 46 0 (v10.1.subs.map eS).length],.bl v10.2]) (nb:=[(34,⟨1,bX (v10.1.rep.q.src.map eI)⟩),(35,⟨1,bX (v10.1.rep.q.tgt.map eI)⟩),(36,⟨1,bX (v10.1.rep.dims.map eI)⟩),(37,⟨3,bX (v10.1.rep.maps.map eM)⟩),(38,⟨1,bX (v10.1.other.q.src.map eI)⟩),(39,⟨1,bX (v10.1.other.q.tgt.map eI)⟩),(40,⟨1,bX (v10.1.other.dims.map eI)⟩),(41,⟨3,bX (v10.1.other.maps.map eM)⟩),(42,⟨6,bX (v10.1.parts.map eR)⟩),(43,⟨3,bX (v10.1.maps.map eM)⟩),(44,⟨3,bX (v10.1.bars.map eB)⟩),(45,⟨1,bX (v10.1.theta.map eI)⟩),(46,⟨2,bX (v10.1.subs.map eS)⟩)]) (xE v8 v9 v10 hv10) k (by rfl) k k (gP (bJ aV (bJ aV (bJ aV (bJ (bH.good _) (bJ (bH.good _) (bJ (bH.good _) (bJ (aW.good _) (bJ aV (bJ aV (bJ (bH.good _) (bJ (bH.good _) (bJ (bH.good _) (bJ (aW.good _) (bJ (fB.good _) (bJ (aW.good _) (bJ (gZ.good _) (bJ (bH.good _) (bJ (gN.good _) vO)))))))))))))))))) (gP aV yG)) (dQ (.inl (vaR k8)) (dQ (.inl (vaR k8)) kU))) (v':= .tuple [.agg [.int v10.1.kind,.int v10.1.rep.p,.int v10.1.rep.q.n,.own 34 0 v10.1.rep.q.src.length,.own 35 0 v10.1.rep.q.tgt.length,.own 36 0 v10.1.rep.dims.length,.own 37 0 v10.1.rep.maps.length,.int v10.1.other.p,.int v10.1.other.q.n,.own 38 0 v10.1.other.q.src.length,.own 39 0 v10.1.other.q.tgt.length,.own 40 0 v10.1.other.dims.length,.own 41 0 v10.1.other.maps.length,.own 42 0 v10.1.parts.length,.own 43 0 v10.1.maps.length,.own 44 0 v10.1.bars.length,.own 45 0 v10.1.theta.length,.own 46 0 v10.1.subs.length],.bl v10.2]) (ed':=[(34,some ⟨1,v10.1.rep.q.src.map (ow eI)⟩),(35,some ⟨1,v10.1.rep.q.tgt.map (ow eI)⟩),(36,some ⟨1,v10.1.rep.dims.map (ow eI)⟩),(37,some ⟨3,v10.1.rep.maps.map (ow eM)⟩),(38,some ⟨1,v10.1.other.q.src.map (ow eI)⟩),(39,some ⟨1,v10.1.other.q.tgt.map (ow eI)⟩),(40,some ⟨1,v10.1.other.dims.map (ow eI)⟩),(41,some ⟨3,v10.1.other.maps.map (ow eM)⟩),(42,some ⟨6,v10.1.parts.map (ow eR)⟩),(43,some ⟨3,v10.1.maps.map (ow eM)⟩),(44,some ⟨3,v10.1.bars.map (ow eB)⟩),(45,some ⟨1,v10.1.theta.map (ow eI)⟩),(46,some ⟨2,v10.1.subs.map (ow eS)⟩)]) (by simp only [aU]) (vY (nb':=[(34,⟨1,v10.1.rep.q.src.map (ow eI)⟩),(35,⟨1,v10.1.rep.q.tgt.map (ow eI)⟩),(36,⟨1,v10.1.rep.dims.map (ow eI)⟩),(37,⟨3,v10.1.rep.maps.map (ow eM)⟩),(38,⟨1,v10.1.other.q.src.map (ow eI)⟩),(39,⟨1,v10.1.other.q.tgt.map (ow eI)⟩),(40,⟨1,v10.1.other.dims.map (ow eI)⟩),(41,⟨3,v10.1.other.maps.map (ow eM)⟩),(42,⟨6,v10.1.parts.map (ow eR)⟩),(43,⟨3,v10.1.maps.map (ow eM)⟩),(44,⟨3,v10.1.bars.map (ow eB)⟩),(45,⟨1,v10.1.theta.map (ow eI)⟩),(46,⟨2,v10.1.subs.map (ow eS)⟩)]) (by simp only [fP]))) k<|fU k2<|se (bZ k k (by intro _ h;cases h)) k<|se (bZ k k (by intro _ h;cases h)) k<|se (cA aO k k) k<|se (ws k) k<|lG k2<|sn<|tn<|sQ<|sS<|lpS k8<|lpS k8<|oB h λv11 hv11 h=>se (pN (xD v10.1 v7.1 v11 hv11) k (dQ (.inl (sX (aQ (cH k) (aQ (cH k) (aQ (cH k) (aQ (cS bH k k) (aQ (cS bH k k) (aQ (cS bH k k) (aQ (cS aW k k) (aQ (cH k) (aQ (cH k) (aQ (cS bH k k) (aQ (cS bH k k) (aQ (cS bH k k) (aQ (cS aW k k) (aQ (cS fB k k) (aQ (cS aW k k) (aQ (cS gZ k k) (aQ (cS bH k k) (aQ (cS gN k k) vL)))))))))))))))))))) (dQ (.inl (sX (aQ (cH k) (aQ (cH k) (aQ (cH k) (aQ (cS bH k k) (aQ (cS bH k k) (aQ (cS bH k k) (aQ (cS aW k k) (aQ (cH k) (aQ (cH k) (aQ (cS bH k k) (aQ (cS bH k k) (aQ (cS bH k k) (aQ (cS aW k k) (aQ (cS fB k k) (aQ (cS aW k k) (aQ (cS gZ k k) (aQ (cS bH k k) (aQ (cS gN k k) vL)))))))))))))))))))) kU))) k<|se (dE k) k<|fU k2<|oC h (λq12 h=>?_) λq12 h=>?_
 ·exact vG 49 k q12<|gH k k<|gH k k<|gH k k<|pkS k3<|sn<|tn<|aR (t:=mN [(2,.ptr 0 0 0),(3,.ptr 1 0 0),(6,.ptr 23 0 0),(7,.bl v7.2),(8,.ptr 28 0 0),(9,.ptr 33 0 0),(10,.ptr 47 0 0),(11,.bl v10.2),(53,.bl true)] ((0,⟨6,[[.int a0.p,.int a0.q.n,.sc w0_2,.sc w0_3,.sc w0_4,.sc w0_5]]⟩)::(1,⟨6,[[.int a1.p,.int a1.q.n,.sc w1_2,.sc w1_3,.sc w1_4,.sc w1_5]]⟩)::(10,⟨1,v7.1.rep.q.src.map (ow eI)⟩)::(11,⟨1,v7.1.rep.q.tgt.map (ow eI)⟩)::(12,⟨1,v7.1.rep.dims.map (ow eI)⟩)::(13,⟨3,v7.1.rep.maps.map (ow eM)⟩)::(14,⟨1,v7.1.other.q.src.map (ow eI)⟩)::(15,⟨1,v7.1.other.q.tgt.map (ow eI)⟩)::(16,⟨1,v7.1.other.dims.map (ow eI)⟩)::(17,⟨3,v7.1.other.maps.map (ow eM)⟩)::(18,⟨6,v7.1.parts.map (ow eR)⟩)::(19,⟨3,v7.1.maps.map (ow eM)⟩)::(20,⟨3,v7.1.bars.map (ow eB)⟩)::(21,⟨1,v7.1.theta.map (ow eI)⟩)::(22,⟨2,v7.1.subs.map (ow eS)⟩)::(23,⟨18,[[.int v7.1.kind,.int v7.1.rep.p,.int v7.1.rep.q.n,.own 10 0 v7.1.rep.q.src.length,.own 11 0 v7.1.rep.q.tgt.length,.own 12 0 v7.1.rep.dims.length,.own 13 0 v7.1.rep.maps.length,.int v7.1.other.p,.int v7.1.other.q.n,.own 14 0 v7.1.other.q.src.length,.own 15 0 v7.1.other.q.tgt.length,.own 16 0 v7.1.other.dims.length,.own 17 0 v7.1.other.maps.length,.own 18 0 v7.1.parts.length,.own 19 0 v7.1.maps.length,.own 20 0 v7.1.bars.length,.own 21 0 v7.1.theta.length,.own 22 0 v7.1.subs.length]]⟩)::(24,⟨1,v8.q.src.map (ow eI)⟩)::(25,⟨1,v8.q.tgt.map (ow eI)⟩)::(26,⟨1,v8.dims.map (ow eI)⟩)::(27,⟨3,v8.maps.map (ow eM)⟩)::(28,⟨6,[zL v8 24 25 26 27]⟩)::(29,⟨1,v9.q.src.map (ow eI)⟩)::(30,⟨1,v9.q.tgt.map (ow eI)⟩)::(31,⟨1,v9.dims.map (ow eI)⟩)::(32,⟨3,v9.maps.map (ow eM)⟩)::(33,⟨6,[zL v9 29 30 31 32]⟩)::(34,⟨1,v10.1.rep.q.src.map (ow eI)⟩)::(35,⟨1,v10.1.rep.q.tgt.map (ow eI)⟩)::(36,⟨1,v10.1.rep.dims.map (ow eI)⟩)::(37,⟨3,v10.1.rep.maps.map (ow eM)⟩)::(38,⟨1,v10.1.other.q.src.map (ow eI)⟩)::(39,⟨1,v10.1.other.q.tgt.map (ow eI)⟩)::(40,⟨1,v10.1.other.dims.map (ow eI)⟩)::(41,⟨3,v10.1.other.maps.map (ow eM)⟩)::(42,⟨6,v10.1.parts.map (ow eR)⟩)::(43,⟨3,v10.1.maps.map (ow eM)⟩)::(44,⟨3,v10.1.bars.map (ow eB)⟩)::(45,⟨1,v10.1.theta.map (ow eI)⟩)::(46,⟨2,v10.1.subs.map (ow eS)⟩)::(47,⟨18,[[.int v10.1.kind,.int v10.1.rep.p,.int v10.1.rep.q.n,.own 34 0 v10.1.rep.q.src.length,.own 35 0 v10.1.rep.q.tgt.length,.own 36 0 v10.1.rep.dims.length,.own 37 0 v10.1.rep.maps.length,.int v10.1.other.p,.int v10.1.other.q.n,.own 38 0 v10.1.other.q.src.length,.own 39 0 v10.1.other.q.tgt.length,.own 40 0 v10.1.other.dims.length,.own 41 0 v10.1.other.maps.length,.own 42 0 v10.1.parts.length,.own 43 0 v10.1.maps.length,.own 44 0 v10.1.bars.length,.own 45 0 v10.1.theta.length,.own 46 0 v10.1.subs.length]]⟩)::[]) 48 ⟨0,true,fxW W,true⟩) (bO (bL k2) (bT k<|bT k<|bD k<|bD k<|bD k<|cF (aW.plainO _) k<|bD k<|bD k<|bD k<|cF (aW.plainO _) k<|cF (fB.plainO _) k<|cF (aW.plainO _) k<|cF (gZ.plainO _) k<|bD k<|cF (gN.plainO _) k<|fK k<|bD k<|bD k<|bD k<|cF (aW.plainO _) k<|fK k<|bD k<|bD k<|bD k<|cF (aW.plainO _) k<|fK k<|bD k<|bD k<|bD k<|cF (aW.plainO _) k<|bD k<|bD k<|bD k<|cF (aW.plainO _) k<|cF (fB.plainO _) k<|cF (aW.plainO _) k<|cF (gZ.plainO _) k<|bD k<|cF (gN.plainO _) k<|fK k<|aV) k4)<|dT k k<|sS<|lG k2<|sn<|tn<|aD<|aB<|dY h k2
 ·refine vG 49 k q12<|fU k2<|fU k2<|se (aJm (by kernel_rfl) k k) k<|pkS k3<|sn<|tn<|aR (t:=mN [(2,.ptr 0 0 0),(3,.ptr 1 0 0),(6,.ptr 23 0 0),(7,.bl v7.2),(8,.ptr 28 0 0),(9,.ptr 33 0 0),(10,.ptr 47 0 0),(11,.bl v10.2),(53,.bl (!(v10.2==v7.2)))] ((0,⟨6,[[.int a0.p,.int a0.q.n,.sc w0_2,.sc w0_3,.sc w0_4,.sc w0_5]]⟩)::(1,⟨6,[[.int a1.p,.int a1.q.n,.sc w1_2,.sc w1_3,.sc w1_4,.sc w1_5]]⟩)::(10,⟨1,v7.1.rep.q.src.map (ow eI)⟩)::(11,⟨1,v7.1.rep.q.tgt.map (ow eI)⟩)::(12,⟨1,v7.1.rep.dims.map (ow eI)⟩)::(13,⟨3,v7.1.rep.maps.map (ow eM)⟩)::(14,⟨1,v7.1.other.q.src.map (ow eI)⟩)::(15,⟨1,v7.1.other.q.tgt.map (ow eI)⟩)::(16,⟨1,v7.1.other.dims.map (ow eI)⟩)::(17,⟨3,v7.1.other.maps.map (ow eM)⟩)::(18,⟨6,v7.1.parts.map (ow eR)⟩)::(19,⟨3,v7.1.maps.map (ow eM)⟩)::(20,⟨3,v7.1.bars.map (ow eB)⟩)::(21,⟨1,v7.1.theta.map (ow eI)⟩)::(22,⟨2,v7.1.subs.map (ow eS)⟩)::(23,⟨18,[[.int v7.1.kind,.int v7.1.rep.p,.int v7.1.rep.q.n,.own 10 0 v7.1.rep.q.src.length,.own 11 0 v7.1.rep.q.tgt.length,.own 12 0 v7.1.rep.dims.length,.own 13 0 v7.1.rep.maps.length,.int v7.1.other.p,.int v7.1.other.q.n,.own 14 0 v7.1.other.q.src.length,.own 15 0 v7.1.other.q.tgt.length,.own 16 0 v7.1.other.dims.length,.own 17 0 v7.1.other.maps.length,.own 18 0 v7.1.parts.length,.own 19 0 v7.1.maps.length,.own 20 0 v7.1.bars.length,.own 21 0 v7.1.theta.length,.own 22 0 v7.1.subs.length]]⟩)::(24,⟨1,v8.q.src.map (ow eI)⟩)::(25,⟨1,v8.q.tgt.map (ow eI)⟩)::(26,⟨1,v8.dims.map (ow eI)⟩)::(27,⟨3,v8.maps.map (ow eM)⟩)::(28,⟨6,[zL v8 24 25 26 27]⟩)::(29,⟨1,v9.q.src.map (ow eI)⟩)::(30,⟨1,v9.q.tgt.map (ow eI)⟩)::(31,⟨1,v9.dims.map (ow eI)⟩)::(32,⟨3,v9.maps.map (ow eM)⟩)::(33,⟨6,[zL v9 29 30 31 32]⟩)::(34,⟨1,v10.1.rep.q.src.map (ow eI)⟩)::(35,⟨1,v10.1.rep.q.tgt.map (ow eI)⟩)::(36,⟨1,v10.1.rep.dims.map (ow eI)⟩)::(37,⟨3,v10.1.rep.maps.map (ow eM)⟩)::(38,⟨1,v10.1.other.q.src.map (ow eI)⟩)::(39,⟨1,v10.1.other.q.tgt.map (ow eI)⟩)::(40,⟨1,v10.1.other.dims.map (ow eI)⟩)::(41,⟨3,v10.1.other.maps.map (ow eM)⟩)::(42,⟨6,v10.1.parts.map (ow eR)⟩)::(43,⟨3,v10.1.maps.map (ow eM)⟩)::(44,⟨3,v10.1.bars.map (ow eB)⟩)::(45,⟨1,v10.1.theta.map (ow eI)⟩)::(46,⟨2,v10.1.subs.map (ow eS)⟩)::(47,⟨18,[[.int v10.1.kind,.int v10.1.rep.p,.int v10.1.rep.q.n,.own 34 0 v10.1.rep.q.src.length,.own 35 0 v10.1.rep.q.tgt.length,.own 36 0 v10.1.rep.dims.length,.own 37 0 v10.1.rep.maps.length,.int v10.1.other.p,.int v10.1.other.q.n,.own 38 0 v10.1.other.q.src.length,.own 39 0 v10.1.other.q.tgt.length,.own 40 0 v10.1.other.dims.length,.own 41 0 v10.1.other.maps.length,.own 42 0 v10.1.parts.length,.own 43 0 v10.1.maps.length,.own 44 0 v10.1.bars.length,.own 45 0 v10.1.theta.length,.own 46 0 v10.1.subs.length]]⟩)::[]) 48 ⟨0,true,fxW W,true⟩) (bO (bL k2) (bT k<|bT k<|bD k<|bD k<|bD k<|cF (aW.plainO _) k<|bD k<|bD k<|bD k<|cF (aW.plainO _) k<|cF (fB.plainO _) k<|cF (aW.plainO _) k<|cF (gZ.plainO _) k<|bD k<|cF (gN.plainO _) k<|fK k<|bD k<|bD k<|bD k<|cF (aW.plainO _) k<|fK k<|bD k<|bD k<|bD k<|cF (aW.plainO _) k<|fK k<|bD k<|bD k<|bD k<|cF (aW.plainO _) k<|bD k<|bD k<|bD k<|cF (aW.plainO _) k<|cF (fB.plainO _) k<|cF (aW.plainO _) k<|cF (gZ.plainO _) k<|bD k<|cF (gN.plainO _) k<|fK k<|aV) k4)<|cJ k h (λ_ h=>sS<|lG k2<|sn<|tn<|aD<|aB<|dY h k2) λ_ h=>?_;refine aE<|tn<|sQ<|sQ<|aS fF<|lp k8<|lp k8<|oB h λv14 hv14 h=>ae (cRK (kJ a0 v14 hv14) k3 (dQ (vrR k r0_2 r0_3 r0_4 r0_5) kU)) k<|oB h λv15 hv15 h=>ae (pN (tH v8 v14 v15 hv15) k (dQ (.inl (vaR k8)) (dQ (.inl (vaR k8)) kU))) k<|ae (dE k) k<|an<|pA (by kernel_rfl)<|tn<|cJ k h (λ_ h=>sS<|lG k2<|sn<|tn<|aD<|aB<|dY h k2) λ_ h=>?_;refine aE<|tn<|sQ<|sQ<|aS fF<|lp k8<|lp k8<|oB h λv17 hv17 h=>ae (cRK (kJ a1 v17 hv17) k3 (dQ (vrR k r1_2 r1_3 r1_4 r1_5) kU)) k<|oB h λv18 hv18 h=>ae (pN (tH v9 v17 v18 hv18) k (dQ (.inl (vaR k8)) (dQ (.inl (vaR k8)) kU))) k<|ae (dE k) k<|an<|pA (by kernel_rfl)<|tn<|cJ k h (λ_ h=>sS<|lG k2<|sn<|tn<|aD<|aB<|dY h k2) λ_ h=>?_;refine aE<|tn<|sS<|lG k2<|sn<|tn<|sS<|lpS k8<|fU k2<|oB h λv20 hv20 h=>cZ (t:=mN [(2,.ptr 0 0 0),(3,.ptr 1 0 0),(6,.ptr 23 0 0),(7,.bl v7.2),(8,.ptr 28 0 0),(9,.ptr 33 0 0),(10,.ptr 47 0 0),(11,.bl v10.2),(12,.int 1),(53,.bl (!(v10.2==v7.2))),(54,.agg (zL v8 24 25 26 27)),(55,.agg [.int a0.p,.int a0.q.n,.sc w0_2,.sc w0_3,.sc w0_4,.sc w0_5]),(56,.agg (zL v14 48 49 50 51)),(57,.bl v15),(58,.bl (!v15)),(59,.agg (zL v9 29 30 31 32)),(60,.agg [.int a1.p,.int a1.q.n,.sc w1_2,.sc w1_3,.sc w1_4,.sc w1_5]),(61,.agg (zL v17 52 53 54 55)),(62,.bl v18),(63,.bl (!v18)),(64,.agg (zL v8 24 25 26 27)),(65,.int 1)] ((0,⟨6,[[.int a0.p,.int a0.q.n,.sc w0_2,.sc w0_3,.sc w0_4,.sc w0_5]]⟩)::(1,⟨6,[[.int a1.p,.int a1.q.n,.sc w1_2,.sc w1_3,.sc w1_4,.sc w1_5]]⟩)::(10,⟨1,v7.1.rep.q.src.map (ow eI)⟩)::(11,⟨1,v7.1.rep.q.tgt.map (ow eI)⟩)::(12,⟨1,v7.1.rep.dims.map (ow eI)⟩)::(13,⟨3,v7.1.rep.maps.map (ow eM)⟩)::(14,⟨1,v7.1.other.q.src.map (ow eI)⟩)::(15,⟨1,v7.1.other.q.tgt.map (ow eI)⟩)::(16,⟨1,v7.1.other.dims.map (ow eI)⟩)::(17,⟨3,v7.1.other.maps.map (ow eM)⟩)::(18,⟨6,v7.1.parts.map (ow eR)⟩)::(19,⟨3,v7.1.maps.map (ow eM)⟩)::(20,⟨3,v7.1.bars.map (ow eB)⟩)::(21,⟨1,v7.1.theta.map (ow eI)⟩)::(22,⟨2,v7.1.subs.map (ow eS)⟩)::(23,⟨18,[[.int v7.1.kind,.int v7.1.rep.p,.int v7.1.rep.q.n,.own 10 0 v7.1.rep.q.src.length,.own 11 0 v7.1.rep.q.tgt.length,.own 12 0 v7.1.rep.dims.length,.own 13 0 v7.1.rep.maps.length,.int v7.1.other.p,.int v7.1.other.q.n,.own 14 0 v7.1.other.q.src.length,.own 15 0 v7.1.other.q.tgt.length,.own 16 0 v7.1.other.dims.length,.own 17 0 v7.1.other.maps.length,.own 18 0 v7.1.parts.length,.own 19 0 v7.1.maps.length,.own 20 0 v7.1.bars.length,.own 21 0 v7.1.theta.length,.own 22 0 v7.1.subs.length]]⟩)::(24,⟨1,v8.q.src.map (ow eI)⟩)::(25,⟨1,v8.q.tgt.map (ow eI)⟩)::(26,⟨1,v8.dims.map (ow eI)⟩)::(27,⟨3,v8.maps.map (ow eM)⟩)::(28,⟨6,[zL v8 24 25 26 27]⟩)::(29,⟨1,v9.q.src.map (ow eI)⟩)::(30,⟨1,v9.q.tgt.map (ow eI)⟩)::(31,⟨1,v9.dims.map (ow eI)⟩)::(32,⟨3,v9.maps.map (ow eM)⟩)::(33,⟨6,[zL v9 29 30 31 32]⟩)::(34,⟨1,v10.1.rep.q.src.map (ow eI)⟩)::(35,⟨1,v10.1.rep.q.tgt.map (ow eI)⟩)::(36,⟨1,v10.1.rep.dims.map (ow eI)⟩)::(37,⟨3,v10.1.rep.maps.map (ow eM)⟩)::(38,⟨1,v10.1.other.q.src.map (ow eI)⟩)::(39,⟨1,v10.1.other.q.tgt.map (ow eI)⟩)::(40,⟨1,v10.1.other.dims.map (ow eI)⟩)::(41,⟨3,v10.1.other.maps.map (ow eM)⟩)::(42,⟨6,v10.1.parts.map (ow eR)⟩)::(43,⟨3,v10.1.maps.map (ow eM)⟩)::(44,⟨3,v10.1.bars.map (ow eB)⟩)::(45,⟨1,v10.1.theta.map (ow eI)⟩)::(46,⟨2,v10.1.subs.map (ow eS)⟩)::(47,⟨18,[[.int v10.1.kind,.int v10.1.rep.p,.int v10.1.rep.q.n,.own 34 0 v10.1.rep.q.src.length,.own 35 0 v10.1.rep.q.tgt.length,.own 36 0 v10.1.rep.dims.length,.own 37 0 v10.1.rep.maps.length,.int v10.1.other.p,.int v10.1.other.q.n,.own 38 0 v10.1.other.q.src.length,.own 39 0 v10.1.other.q.tgt.length,.own 40 0 v10.1.other.dims.length,.own 41 0 v10.1.other.maps.length,.own 42 0 v10.1.parts.length,.own 43 0 v10.1.maps.length,.own 44 0 v10.1.bars.length,.own 45 0 v10.1.theta.length,.own 46 0 v10.1.subs.length]]⟩)::(48,⟨1,v14.q.src.map (ow eI)⟩)::(49,⟨1,v14.q.tgt.map (ow eI)⟩)::(50,⟨1,v14.dims.map (ow eI)⟩)::(51,⟨3,v14.maps.map (ow eM)⟩)::(52,⟨1,v17.q.src.map (ow eI)⟩)::(53,⟨1,v17.q.tgt.map (ow eI)⟩)::(54,⟨1,v17.dims.map (ow eI)⟩)::(55,⟨3,v17.maps.map (ow eM)⟩)::[]) 56 ⟨0,true,fxW W,true⟩) (bO (bL k2) (bT k<|bT k<|bD k<|bD k<|bD k<|cF (aW.plainO _) k<|bD k<|bD k<|bD k<|cF (aW.plainO _) k<|cF (fB.plainO _) k<|cF (aW.plainO _) k<|cF (gZ.plainO _) k<|bD k<|cF (gN.plainO _) k<|fK k<|bD k<|bD k<|bD k<|cF (aW.plainO _) k<|fK k<|bD k<|bD k<|bD k<|cF (aW.plainO _) k<|fK k<|bD k<|bD k<|bD k<|cF (aW.plainO _) k<|bD k<|bD k<|bD k<|cF (aW.plainO _) k<|cF (fB.plainO _) k<|cF (aW.plainO _) k<|cF (gZ.plainO _) k<|bD k<|cF (gN.plainO _) k<|fK k<|bD k<|bD k<|bD k<|cF (aW.plainO _) k<|bD k<|bD k<|bD k<|cF (aW.plainO _) k<|aV) k4)<|vR (σ:=sg [(0,24),(1,25),(2,26),(3,27)]) (σ':=sg [(24,0),(25,1),(26,2),(27,3)]) (touch:=[24,25,26,27]) (news:=[]) (hl2:=[(24,⟨1,v20.1.map (ow eI)⟩),(25,⟨1,v20.2.1.map (ow eI)⟩),(26,⟨1,v20.2.2.1.map (ow eI)⟩),(27,⟨3,v20.2.2.2.1.map (ow eM)⟩)]) (n':=56) (r2:= .int v20.2.2.2.2) (tP v8 1 v20 hv20) k k ⟨_,_,k,⟨_,_,k,k,⟨_,_,k,k,⟨_,_,k,⟨k,k,k,k⟩,⟨_,_,k,⟨k,k,k,k⟩,⟨_,_,k,⟨k,k,k,k⟩,⟨_,_,k,⟨k,k,k,k⟩,k⟩⟩⟩⟩⟩⟩,⟨_,_,k,k,k⟩⟩ ⟨⟨_,k,k,.inl ⟨k,bH.plainO _⟩⟩,k,⟨_,k,k,.inl ⟨k,bH.plainO _⟩⟩,k,⟨_,k,k,.inl ⟨k,bH.plainO _⟩⟩,k,⟨_,k,k,.inl ⟨k,aW.plainO _⟩⟩,k,aV⟩ k k k ⟨⟨_,k,k,.inl ⟨k,bH.plainO _⟩⟩,k,⟨_,k,k,.inl ⟨k,bH.plainO _⟩⟩,k,⟨_,k,k,.inl ⟨k,bH.plainO _⟩⟩,k,⟨_,k,k,.inl ⟨k,aW.plainO _⟩⟩,k,aV⟩ k k k ⟨k,bH.tame _ _,⟨k,bH.tame _ _,⟨k,bH.tame _ _,⟨k,aW.tame _ _,aV⟩⟩⟩⟩ k k k k k (kV ⟨k,k,k,k,k,k,k,k,k,k,k,k,k,k,k,k,k,k,k,k,k,k,aV⟩) (kW (skip:=[24,25,26,27]) ⟨.inr (gS k),.inr (gS k),.inr (bH.df _ _),.inr (bH.df _ _),.inr (bH.df _ _),.inr (aW.df _ _),.inr (bH.df _ _),.inr (bH.df _ _),.inr (bH.df _ _),.inr (aW.df _ _),.inr (fB.df _ _),.inr (aW.df _ _),.inr (gZ.df _ _),.inr (bH.df _ _),.inr (gN.df _ _),.inr (gS k),.inl (by decide),.inl (by decide),.inl (by decide),.inl (by decide),.inr (gS k),.inr (bH.df _ _),.inr (bH.df _ _),.inr (bH.df _ _),.inr (aW.df _ _),.inr (gS k),.inr (bH.df _ _),.inr (bH.df _ _),.inr (bH.df _ _),.inr (aW.df _ _),.inr (bH.df _ _),.inr (bH.df _ _),.inr (bH.df _ _),.inr (aW.df _ _),.inr (fB.df _ _),.inr (aW.df _ _),.inr (gZ.df _ _),.inr (bH.df _ _),.inr (gN.df _ _),.inr (gS k),.inr (bH.df _ _),.inr (bH.df _ _),.inr (bH.df _ _),.inr (aW.df _ _),.inr (bH.df _ _),.inr (bH.df _ _),.inr (bH.df _ _),.inr (aW.df _ _),aV⟩) ?_;refine cG h λq21 h=>cG h λq22 h=>cG h λq23 h=>cG h λq24 h=>lG k2<|sn<|tn<|sS<|lpS k8<|fU k2<|oB h λv25 hv25 h=>cZ (t:=mN [(2,.ptr 0 0 0),(3,.ptr 1 0 0),(6,.ptr 23 0 0),(7,.bl v7.2),(8,.ptr 28 0 0),(9,.ptr 33 0 0),(10,.ptr 47 0 0),(11,.bl v10.2),(12,.int v20.2.2.2.2),(53,.bl (!(v10.2==v7.2))),(54,.agg (zL v8 24 25 26 27)),(55,.agg [.int a0.p,.int a0.q.n,.sc w0_2,.sc w0_3,.sc w0_4,.sc w0_5]),(56,.agg (zL v14 48 49 50 51)),(57,.bl v15),(58,.bl (!v15)),(59,.agg (zL v9 29 30 31 32)),(60,.agg [.int a1.p,.int a1.q.n,.sc w1_2,.sc w1_3,.sc w1_4,.sc w1_5]),(61,.agg (zL v17 52 53 54 55)),(62,.bl v18),(63,.bl (!v18)),(64,.agg (zL v8 24 25 26 27)),(65,.int 1),(66,.int v20.2.2.2.2),(67,.agg (zL v9 29 30 31 32)),(68,.int v20.2.2.2.2)] ((0,⟨6,[[.int a0.p,.int a0.q.n,.sc w0_2,.sc w0_3,.sc w0_4,.sc w0_5]]⟩)::(1,⟨6,[[.int a1.p,.int a1.q.n,.sc w1_2,.sc w1_3,.sc w1_4,.sc w1_5]]⟩)::(10,⟨1,v7.1.rep.q.src.map (ow eI)⟩)::(11,⟨1,v7.1.rep.q.tgt.map (ow eI)⟩)::(12,⟨1,v7.1.rep.dims.map (ow eI)⟩)::(13,⟨3,v7.1.rep.maps.map (ow eM)⟩)::(14,⟨1,v7.1.other.q.src.map (ow eI)⟩)::(15,⟨1,v7.1.other.q.tgt.map (ow eI)⟩)::(16,⟨1,v7.1.other.dims.map (ow eI)⟩)::(17,⟨3,v7.1.other.maps.map (ow eM)⟩)::(18,⟨6,v7.1.parts.map (ow eR)⟩)::(19,⟨3,v7.1.maps.map (ow eM)⟩)::(20,⟨3,v7.1.bars.map (ow eB)⟩)::(21,⟨1,v7.1.theta.map (ow eI)⟩)::(22,⟨2,v7.1.subs.map (ow eS)⟩)::(23,⟨18,[[.int v7.1.kind,.int v7.1.rep.p,.int v7.1.rep.q.n,.own 10 0 v7.1.rep.q.src.length,.own 11 0 v7.1.rep.q.tgt.length,.own 12 0 v7.1.rep.dims.length,.own 13 0 v7.1.rep.maps.length,.int v7.1.other.p,.int v7.1.other.q.n,.own 14 0 v7.1.other.q.src.length,.own 15 0 v7.1.other.q.tgt.length,.own 16 0 v7.1.other.dims.length,.own 17 0 v7.1.other.maps.length,.own 18 0 v7.1.parts.length,.own 19 0 v7.1.maps.length,.own 20 0 v7.1.bars.length,.own 21 0 v7.1.theta.length,.own 22 0 v7.1.subs.length]]⟩)::(24,⟨1,v20.1.map (ow eI)⟩)::(25,⟨1,v20.2.1.map (ow eI)⟩)::(26,⟨1,v20.2.2.1.map (ow eI)⟩)::(27,⟨3,v20.2.2.2.1.map (ow eM)⟩)::(28,⟨6,[zL v8 24 25 26 27]⟩)::(29,⟨1,v9.q.src.map (ow eI)⟩)::(30,⟨1,v9.q.tgt.map (ow eI)⟩)::(31,⟨1,v9.dims.map (ow eI)⟩)::(32,⟨3,v9.maps.map (ow eM)⟩)::(33,⟨6,[zL v9 29 30 31 32]⟩)::(34,⟨1,v10.1.rep.q.src.map (ow eI)⟩)::(35,⟨1,v10.1.rep.q.tgt.map (ow eI)⟩)::(36,⟨1,v10.1.rep.dims.map (ow eI)⟩)::(37,⟨3,v10.1.rep.maps.map (ow eM)⟩)::(38,⟨1,v10.1.other.q.src.map (ow eI)⟩)::(39,⟨1,v10.1.other.q.tgt.map (ow eI)⟩)::(40,⟨1,v10.1.other.dims.map (ow eI)⟩)::(41,⟨3,v10.1.other.maps.map (ow eM)⟩)::(42,⟨6,v10.1.parts.map (ow eR)⟩)::(43,⟨3,v10.1.maps.map (ow eM)⟩)::(44,⟨3,v10.1.bars.map (ow eB)⟩)::(45,⟨1,v10.1.theta.map (ow eI)⟩)::(46,⟨2,v10.1.subs.map (ow eS)⟩)::(47,⟨18,[[.int v10.1.kind,.int v10.1.rep.p,.int v10.1.rep.q.n,.own 34 0 v10.1.rep.q.src.length,.own 35 0 v10.1.rep.q.tgt.length,.own 36 0 v10.1.rep.dims.length,.own 37 0 v10.1.rep.maps.length,.int v10.1.other.p,.int v10.1.other.q.n,.own 38 0 v10.1.other.q.src.length,.own 39 0 v10.1.other.q.tgt.length,.own 40 0 v10.1.other.dims.length,.own 41 0 v10.1.other.maps.length,.own 42 0 v10.1.parts.length,.own 43 0 v10.1.maps.length,.own 44 0 v10.1.bars.length,.own 45 0 v10.1.theta.length,.own 46 0 v10.1.subs.length]]⟩)::(48,⟨1,v14.q.src.map (ow eI)⟩)::(49,⟨1,v14.q.tgt.map (ow eI)⟩)::(50,⟨1,v14.dims.map (ow eI)⟩)::(51,⟨3,v14.maps.map (ow eM)⟩)::(52,⟨1,v17.q.src.map (ow eI)⟩)::(53,⟨1,v17.q.tgt.map (ow eI)⟩)::(54,⟨1,v17.dims.map (ow eI)⟩)::(55,⟨3,v17.maps.map (ow eM)⟩)::[]) 56 ⟨0,true,fxW W,true⟩) (bO (bL k2) (bT k<|bT k<|bD k<|bD k<|bD k<|cF (aW.plainO _) k<|bD k<|bD k<|bD k<|cF (aW.plainO _) k<|cF (fB.plainO _) k<|cF (aW.plainO _) k<|cF (gZ.plainO _) k<|bD k<|cF (gN.plainO _) k<|fK k<|bD k<|bD k<|bD k<|cF (aW.plainO _) k<|fK k<|bD k<|bD k<|bD k<|cF (aW.plainO _) k<|fK k<|bD k<|bD k<|bD k<|cF (aW.plainO _) k<|bD k<|bD k<|bD k<|cF (aW.plainO _) k<|cF (fB.plainO _) k<|cF (aW.plainO _) k<|cF (gZ.plainO _) k<|bD k<|cF (gN.plainO _) k<|fK k<|bD k<|bD k<|bD k<|cF (aW.plainO _) k<|bD k<|bD k<|bD k<|cF (aW.plainO _) k<|aV) k4)<|vR (σ:=sg [(0,29),(1,30),(2,31),(3,32)]) (σ':=sg [(29,0),(30,1),(31,2),(32,3)]) (touch:=[29,30,31,32]) (news:=[]) (hl2:=[(29,⟨1,v25.1.map (ow eI)⟩),(30,⟨1,v25.2.1.map (ow eI)⟩),(31,⟨1,v25.2.2.1.map (ow eI)⟩),(32,⟨3,v25.2.2.2.1.map (ow eM)⟩)]) (n':=56) (r2:= .int v25.2.2.2.2) (tP v9 v20.2.2.2.2 v25 hv25) k k ⟨_,_,k,⟨_,_,k,k,⟨_,_,k,k,⟨_,_,k,⟨k,k,k,k⟩,⟨_,_,k,⟨k,k,k,k⟩,⟨_,_,k,⟨k,k,k,k⟩,⟨_,_,k,⟨k,k,k,k⟩,k⟩⟩⟩⟩⟩⟩,⟨_,_,k,k,k⟩⟩ ⟨⟨_,k,k,.inl ⟨k,bH.plainO _⟩⟩,k,⟨_,k,k,.inl ⟨k,bH.plainO _⟩⟩,k,⟨_,k,k,.inl ⟨k,bH.plainO _⟩⟩,k,⟨_,k,k,.inl ⟨k,aW.plainO _⟩⟩,k,aV⟩ k k k ⟨⟨_,k,k,.inl ⟨k,bH.plainO _⟩⟩,k,⟨_,k,k,.inl ⟨k,bH.plainO _⟩⟩,k,⟨_,k,k,.inl ⟨k,bH.plainO _⟩⟩,k,⟨_,k,k,.inl ⟨k,aW.plainO _⟩⟩,k,aV⟩ k k k ⟨k,bH.tame _ _,⟨k,bH.tame _ _,⟨k,bH.tame _ _,⟨k,aW.tame _ _,aV⟩⟩⟩⟩ k k k k k (kV ⟨k,k,k,k,k,k,k,k,k,k,k,k,k,k,k,k,k,k,k,k,k,k,k,k,k,aV⟩) (kW (skip:=[29,30,31,32]) ⟨.inr (gS k),.inr (gS k),.inr (bH.df _ _),.inr (bH.df _ _),.inr (bH.df _ _),.inr (aW.df _ _),.inr (bH.df _ _),.inr (bH.df _ _),.inr (bH.df _ _),.inr (aW.df _ _),.inr (fB.df _ _),.inr (aW.df _ _),.inr (gZ.df _ _),.inr (bH.df _ _),.inr (gN.df _ _),.inr (gS k),.inr (bH.df _ _),.inr (bH.df _ _),.inr (bH.df _ _),.inr (aW.df _ _),.inr (gS k),.inl (by decide),.inl (by decide),.inl (by decide),.inl (by decide),.inr (gS k),.inr (bH.df _ _),.inr (bH.df _ _),.inr (bH.df _ _),.inr (aW.df _ _),.inr (bH.df _ _),.inr (bH.df _ _),.inr (bH.df _ _),.inr (aW.df _ _),.inr (fB.df _ _),.inr (aW.df _ _),.inr (gZ.df _ _),.inr (bH.df _ _),.inr (gN.df _ _),.inr (gS k),.inr (bH.df _ _),.inr (bH.df _ _),.inr (bH.df _ _),.inr (aW.df _ _),.inr (bH.df _ _),.inr (bH.df _ _),.inr (bH.df _ _),.inr (aW.df _ _),aV⟩) ?_;refine cG h λq26 h=>cG h λq27 h=>cG h λq28 h=>cG h λq29 h=>lG k2<|sn<|tn<|sQ<|sS<|fU k2<|cmS k4<|fU k2<|oC h (λq30 h=>vG 72 k q30<|gH k k<|gH k k<|gH k k<|gH k k<|pkS k3<|fU k2<|gH k k<|gH k k<|gH k k<|pkS k3<|sn<|tn<|dT k k<|sS<|lG k2<|sn<|tn<|aD<|aB<|dY h k2) λq30 h=>?_;refine vG 72 k q30<|lpS k8<|lpS k8<|oB h λv31 hv31 h=>se (pN (xD v10.1 v7.1 v31 hv31) k (dQ (.inl (sX (aQ (cH k) (aQ (cH k) (aQ (cH k) (aQ (cS bH k k) (aQ (cS bH k k) (aQ (cS bH k k) (aQ (cS aW k k) (aQ (cH k) (aQ (cH k) (aQ (cS bH k k) (aQ (cS bH k k) (aQ (cS bH k k) (aQ (cS aW k k) (aQ (cS fB k k) (aQ (cS aW k k) (aQ (cS gZ k k) (aQ (cS bH k k) (aQ (cS gN k k) vL)))))))))))))))))))) (dQ (.inl (sX (aQ (cH k) (aQ (cH k) (aQ (cH k) (aQ (cS bH k k) (aQ (cS bH k k) (aQ (cS bH k k) (aQ (cS aW k k) (aQ (cH k) (aQ (cH k) (aQ (cS bH k k) (aQ (cS bH k k) (aQ (cS bH k k) (aQ (cS aW k k) (aQ (cS fB k k) (aQ (cS aW k k) (aQ (cS gZ k k) (aQ (cS bH k k) (aQ (cS gN k k) vL)))))))))))))))))))) kU))) k<|se (dE k) k<|pkS k3<|fU k2<|oC h (λq32 h=>vG 78 k q32<|gH k k<|gH k k<|gH k k<|pkS k3<|sn<|tn<|dT k k<|sS<|lG k2<|sn<|tn<|aD<|aB<|dY h k2) λq32 h=>?_;refine vG 78 k q32<|fU k2<|fU k2<|se (aJm (by kernel_rfl) k k) k<|pkS k3<|sn<|tn<|cJ k h (λ_ h=>sS<|lG k2<|sn<|tn<|aD<|aB<|dY h k2) λ_ h=>?_;refine aE<|tn<|sS<|lG k2<|sn<|tn<|sS<|lpS k8<|fU k2<|oB h λv34 hv34 h=>cZ (t:=mN ((2,.ptr 0 0 0)::(3,.ptr 1 0 0)::(6,.ptr 23 0 0)::(7,.bl v7.2)::(8,.ptr 28 0 0)::(9,.ptr 33 0 0)::(10,.ptr 47 0 0)::(11,.bl v10.2)::(12,.int v25.2.2.2.2)::(13,.int 1)::(53,.bl (!(v10.2==v7.2)))::(54,.agg (zL v8 24 25 26 27))::(55,.agg [.int a0.p,.int a0.q.n,.sc w0_2,.sc w0_3,.sc w0_4,.sc w0_5])::(56,.agg (zL v14 48 49 50 51))::(57,.bl v15)::(58,.bl (!v15))::(59,.agg (zL v9 29 30 31 32))::(60,.agg [.int a1.p,.int a1.q.n,.sc w1_2,.sc w1_3,.sc w1_4,.sc w1_5])::(61,.agg (zL v17 52 53 54 55))::(62,.bl v18)::(63,.bl (!v18))::(64,.agg (zL v8 24 25 26 27))::(65,.int 1)::(66,.int v20.2.2.2.2)::(67,.agg (zL v9 29 30 31 32))::(68,.int v20.2.2.2.2)::(69,.int v25.2.2.2.2)::(70,.int v25.2.2.2.2)::(71,.bl (decide (v25.2.2.2.2<0)))::(72,.bl false)::(73,.agg [.int v10.1.kind,.int v10.1.rep.p,.int v10.1.rep.q.n,.own 34 0 v10.1.rep.q.src.length,.own 35 0 v10.1.rep.q.tgt.length,.own 36 0 v10.1.rep.dims.length,.own 37 0 v10.1.rep.maps.length,.int v10.1.other.p,.int v10.1.other.q.n,.own 38 0 v10.1.other.q.src.length,.own 39 0 v10.1.other.q.tgt.length,.own 40 0 v10.1.other.dims.length,.own 41 0 v10.1.other.maps.length,.own 42 0 v10.1.parts.length,.own 43 0 v10.1.maps.length,.own 44 0 v10.1.bars.length,.own 45 0 v10.1.theta.length,.own 46 0 v10.1.subs.length])::(74,.agg [.int v7.1.kind,.int v7.1.rep.p,.int v7.1.rep.q.n,.own 10 0 v7.1.rep.q.src.length,.own 11 0 v7.1.rep.q.tgt.length,.own 12 0 v7.1.rep.dims.length,.own 13 0 v7.1.rep.maps.length,.int v7.1.other.p,.int v7.1.other.q.n,.own 14 0 v7.1.other.q.src.length,.own 15 0 v7.1.other.q.tgt.length,.own 16 0 v7.1.other.dims.length,.own 17 0 v7.1.other.maps.length,.own 18 0 v7.1.parts.length,.own 19 0 v7.1.maps.length,.own 20 0 v7.1.bars.length,.own 21 0 v7.1.theta.length,.own 22 0 v7.1.subs.length])::(75,.bl v31)::(76,.bl (!v31))::(77,.bl (!v31))::(78,.bl false)::(79,.bl v10.2)::(80,.bl v7.2)::(81,.bl (!(v10.2==v7.2)))::(82,.bl (!(v10.2==v7.2)))::(83,.agg [.int v10.1.kind,.int v10.1.rep.p,.int v10.1.rep.q.n,.own 34 0 v10.1.rep.q.src.length,.own 35 0 v10.1.rep.q.tgt.length,.own 36 0 v10.1.rep.dims.length,.own 37 0 v10.1.rep.maps.length,.int v10.1.other.p,.int v10.1.other.q.n,.own 38 0 v10.1.other.q.src.length,.own 39 0 v10.1.other.q.tgt.length,.own 40 0 v10.1.other.dims.length,.own 41 0 v10.1.other.maps.length,.own 42 0 v10.1.parts.length,.own 43 0 v10.1.maps.length,.own 44 0 v10.1.bars.length,.own 45 0 v10.1.theta.length,.own 46 0 v10.1.subs.length])::(84,.int 1)::[]) ((0,⟨6,[[.int a0.p,.int a0.q.n,.sc w0_2,.sc w0_3,.sc w0_4,.sc w0_5]]⟩)::(1,⟨6,[[.int a1.p,.int a1.q.n,.sc w1_2,.sc w1_3,.sc w1_4,.sc w1_5]]⟩)::(10,⟨1,v7.1.rep.q.src.map (ow eI)⟩)::(11,⟨1,v7.1.rep.q.tgt.map (ow eI)⟩)::(12,⟨1,v7.1.rep.dims.map (ow eI)⟩)::(13,⟨3,v7.1.rep.maps.map (ow eM)⟩)::(14,⟨1,v7.1.other.q.src.map (ow eI)⟩)::(15,⟨1,v7.1.other.q.tgt.map (ow eI)⟩)::(16,⟨1,v7.1.other.dims.map (ow eI)⟩)::(17,⟨3,v7.1.other.maps.map (ow eM)⟩)::(18,⟨6,v7.1.parts.map (ow eR)⟩)::(19,⟨3,v7.1.maps.map (ow eM)⟩)::(20,⟨3,v7.1.bars.map (ow eB)⟩)::(21,⟨1,v7.1.theta.map (ow eI)⟩)::(22,⟨2,v7.1.subs.map (ow eS)⟩)::(23,⟨18,[[.int v7.1.kind,.int v7.1.rep.p,.int v7.1.rep.q.n,.own 10 0 v7.1.rep.q.src.length,.own 11 0 v7.1.rep.q.tgt.length,.own 12 0 v7.1.rep.dims.length,.own 13 0 v7.1.rep.maps.length,.int v7.1.other.p,.int v7.1.other.q.n,.own 14 0 v7.1.other.q.src.length,.own 15 0 v7.1.other.q.tgt.length,.own 16 0 v7.1.other.dims.length,.own 17 0 v7.1.other.maps.length,.own 18 0 v7.1.parts.length,.own 19 0 v7.1.maps.length,.own 20 0 v7.1.bars.length,.own 21 0 v7.1.theta.length,.own 22 0 v7.1.subs.length]]⟩)::(24,⟨1,v20.1.map (ow eI)⟩)::(25,⟨1,v20.2.1.map (ow eI)⟩)::(26,⟨1,v20.2.2.1.map (ow eI)⟩)::(27,⟨3,v20.2.2.2.1.map (ow eM)⟩)::(28,⟨6,[zL v8 24 25 26 27]⟩)::(29,⟨1,v25.1.map (ow eI)⟩)::(30,⟨1,v25.2.1.map (ow eI)⟩)::(31,⟨1,v25.2.2.1.map (ow eI)⟩)::(32,⟨3,v25.2.2.2.1.map (ow eM)⟩)::(33,⟨6,[zL v9 29 30 31 32]⟩)::(34,⟨1,v10.1.rep.q.src.map (ow eI)⟩)::(35,⟨1,v10.1.rep.q.tgt.map (ow eI)⟩)::(36,⟨1,v10.1.rep.dims.map (ow eI)⟩)::(37,⟨3,v10.1.rep.maps.map (ow eM)⟩)::(38,⟨1,v10.1.other.q.src.map (ow eI)⟩)::(39,⟨1,v10.1.other.q.tgt.map (ow eI)⟩)::(40,⟨1,v10.1.other.dims.map (ow eI)⟩)::(41,⟨3,v10.1.other.maps.map (ow eM)⟩)::(42,⟨6,v10.1.parts.map (ow eR)⟩)::(43,⟨3,v10.1.maps.map (ow eM)⟩)::(44,⟨3,v10.1.bars.map (ow eB)⟩)::(45,⟨1,v10.1.theta.map (ow eI)⟩)::(46,⟨2,v10.1.subs.map (ow eS)⟩)::(47,⟨18,[[.int v10.1.kind,.int v10.1.rep.p,.int v10.1.rep.q.n,.own 34 0 v10.1.rep.q.src.length,.own 35 0 v10.1.rep.q.tgt.length,.own 36 0 v10.1.rep.dims.length,.own 37 0 v10.1.rep.maps.length,.int v10.1.other.p,.int v10.1.other.q.n,.own 38 0 v10.1.other.q.src.length,.own 39 0 v10.1.other.q.tgt.length,.own 40 0 v10.1.other.dims.length,.own 41 0 v10.1.other.maps.length,.own 42 0 v10.1.parts.length,.own 43 0 v10.1.maps.length,.own 44 0 v10.1.bars.length,.own 45 0 v10.1.theta.length,.own 46 0 v10.1.subs.length]]⟩)::(48,⟨1,v14.q.src.map (ow eI)⟩)::(49,⟨1,v14.q.tgt.map (ow eI)⟩)::(50,⟨1,v14.dims.map (ow eI)⟩)::(51,⟨3,v14.maps.map (ow eM)⟩)::(52,⟨1,v17.q.src.map (ow eI)⟩)::(53,⟨1,v17.q.tgt.map (ow eI)⟩)::(54,⟨1,v17.dims.map (ow eI)⟩)::(55,⟨3,v17.maps.map (ow eM)⟩)::[]) 56 ⟨0,true,fxW W,true⟩) (bO (bL k2) (bT k<|bT k<|bD k<|bD k<|bD k<|cF (aW.plainO _) k<|bD k<|bD k<|bD k<|cF (aW.plainO _) k<|cF (fB.plainO _) k<|cF (aW.plainO _) k<|cF (gZ.plainO _) k<|bD k<|cF (gN.plainO _) k<|fK k<|bD k<|bD k<|bD k<|cF (aW.plainO _) k<|fK k<|bD k<|bD k<|bD k<|cF (aW.plainO _) k<|fK k<|bD k<|bD k<|bD k<|cF (aW.plainO _) k<|bD k<|bD k<|bD k<|cF (aW.plainO _) k<|cF (fB.plainO _) k<|cF (aW.plainO _) k<|cF (gZ.plainO _) k<|bD k<|cF (gN.plainO _) k<|fK k<|bD k<|bD k<|bD k<|cF (aW.plainO _) k<|bD k<|bD k<|bD k<|cF (aW.plainO _) k<|aV) k4) ?_;refine vR (σ:=sg [(0,34),(1,35),(2,36),(3,37),(4,38),(5,39),(6,40),(7,41),(8,42),(9,43),(10,44),(11,45),(12,46)]) (σ':=sg [(34,0),(35,1),(36,2),(37,3),(38,4),(39,5),(40,6),(41,7),(42,8),(43,9),(44,10),(45,11),(46,12)]) (touch:=[34,35,36,37,38,39,40,41,42,43,44,45,46]) (news:=[]) (hl2:=[(34,⟨1,v34.1.map (ow eI)⟩),(35,⟨1,v34.2.1.map (ow eI)⟩),(36,⟨1,v34.2.2.1.map (ow eI)⟩),(37,⟨3,v34.2.2.2.1.map (ow eM)⟩),(38,⟨1,v34.2.2.2.2.1.map (ow eI)⟩),(39,⟨1,v34.2.2.2.2.2.1.map (ow eI)⟩),(40,⟨1,v34.2.2.2.2.2.2.1.map (ow eI)⟩),(41,⟨3,v34.2.2.2.2.2.2.2.1.map (ow eM)⟩),(42,⟨6,v34.2.2.2.2.2.2.2.2.1.map (ow eR)⟩),(43,⟨3,v34.2.2.2.2.2.2.2.2.2.1.map (ow eM)⟩),(44,⟨3,v34.2.2.2.2.2.2.2.2.2.2.1.map (ow eB)⟩),(45,⟨1,v34.2.2.2.2.2.2.2.2.2.2.2.1.map (ow eI)⟩),(46,⟨2,v34.2.2.2.2.2.2.2.2.2.2.2.2.1.map (ow eS)⟩)]) (n':=56) (r2:= .int v34.2.2.2.2.2.2.2.2.2.2.2.2.2) (aDi v10.1 1 v34 hv34) k k ⟨_,_,k,⟨_,_,k,k,⟨_,_,k,k,⟨_,_,k,k,⟨_,_,k,⟨k,k,k,k⟩,⟨_,_,k,⟨k,k,k,k⟩,⟨_,_,k,⟨k,k,k,k⟩,⟨_,_,k,⟨k,k,k,k⟩,⟨_,_,k,k,⟨_,_,k,k,⟨_,_,k,⟨k,k,k,k⟩,⟨_,_,k,⟨k,k,k,k⟩,⟨_,_,k,⟨k,k,k,k⟩,⟨_,_,k,⟨k,k,k,k⟩,⟨_,_,k,⟨k,k,k,k⟩,⟨_,_,k,⟨k,k,k,k⟩,⟨_,_,k,⟨k,k,k,k⟩,⟨_,_,k,⟨k,k,k,k⟩,⟨_,_,k,⟨k,k,k,k⟩,k⟩⟩⟩⟩⟩⟩⟩⟩⟩⟩⟩⟩⟩⟩⟩⟩⟩⟩,⟨_,_,k,k,k⟩⟩ ⟨⟨_,k,k,.inl ⟨k,bH.plainO _⟩⟩,k,⟨_,k,k,.inl ⟨k,bH.plainO _⟩⟩,k,⟨_,k,k,.inl ⟨k,bH.plainO _⟩⟩,k,⟨_,k,k,.inl ⟨k,aW.plainO _⟩⟩,k,⟨_,k,k,.inl ⟨k,bH.plainO _⟩⟩,k,⟨_,k,k,.inl ⟨k,bH.plainO _⟩⟩,k,⟨_,k,k,.inl ⟨k,bH.plainO _⟩⟩,k,⟨_,k,k,.inl ⟨k,aW.plainO _⟩⟩,k,⟨_,k,k,.inl ⟨k,fB.plainO _⟩⟩,k,⟨_,k,k,.inl ⟨k,aW.plainO _⟩⟩,k,⟨_,k,k,.inl ⟨k,gZ.plainO _⟩⟩,k,⟨_,k,k,.inl ⟨k,bH.plainO _⟩⟩,k,⟨_,k,k,.inl ⟨k,gN.plainO _⟩⟩,k,aV⟩ k k k ⟨⟨_,k,k,.inl ⟨k,bH.plainO _⟩⟩,k,⟨_,k,k,.inl ⟨k,bH.plainO _⟩⟩,k,⟨_,k,k,.inl ⟨k,bH.plainO _⟩⟩,k,⟨_,k,k,.inl ⟨k,aW.plainO _⟩⟩,k,⟨_,k,k,.inl ⟨k,bH.plainO _⟩⟩,k,⟨_,k,k,.inl ⟨k,bH.plainO _⟩⟩,k,⟨_,k,k,.inl ⟨k,bH.plainO _⟩⟩,k,⟨_,k,k,.inl ⟨k,aW.plainO _⟩⟩,k,⟨_,k,k,.inl ⟨k,fB.plainO _⟩⟩,k,⟨_,k,k,.inl ⟨k,aW.plainO _⟩⟩,k,⟨_,k,k,.inl ⟨k,gZ.plainO _⟩⟩,k,⟨_,k,k,.inl ⟨k,bH.plainO _⟩⟩,k,⟨_,k,k,.inl ⟨k,gN.plainO _⟩⟩,k,aV⟩ k k k ⟨k,bH.tame _ _,⟨k,bH.tame _ _,⟨k,bH.tame _ _,⟨k,aW.tame _ _,⟨k,bH.tame _ _,⟨k,bH.tame _ _,⟨k,bH.tame _ _,⟨k,aW.tame _ _,⟨k,fB.tame _ _,⟨k,aW.tame _ _,⟨k,gZ.tame _ _,⟨k,bH.tame _ _,⟨k,gN.tame _ _,aV⟩⟩⟩⟩⟩⟩⟩⟩⟩⟩⟩⟩⟩ k k k k k (kV ⟨k,k,k,k,k,k,k,k,k,k,k,k,k,k,k,k,k,k,k,k,k,k,k,k,k,k,k,k,k,k,k,k,k,k,k,k,k,k,k,k,k,k,aV⟩) (kW (skip:=[34,35,36,37,38,39,40,41,42,43,44,45,46]) ⟨.inr (gS k),.inr (gS k),.inr (bH.df _ _),.inr (bH.df _ _),.inr (bH.df _ _),.inr (aW.df _ _),.inr (bH.df _ _),.inr (bH.df _ _),.inr (bH.df _ _),.inr (aW.df _ _),.inr (fB.df _ _),.inr (aW.df _ _),.inr (gZ.df _ _),.inr (bH.df _ _),.inr (gN.df _ _),.inr (gS k),.inr (bH.df _ _),.inr (bH.df _ _),.inr (bH.df _ _),.inr (aW.df _ _),.inr (gS k),.inr (bH.df _ _),.inr (bH.df _ _),.inr (bH.df _ _),.inr (aW.df _ _),.inr (gS k),.inl (by decide),.inl (by decide),.inl (by decide),.inl (by decide),.inl (by decide),.inl (by decide),.inl (by decide),.inl (by decide),.inl (by decide),.inl (by decide),.inl (by decide),.inl (by decide),.inl (by decide),.inr (gS k),.inr (bH.df _ _),.inr (bH.df _ _),.inr (bH.df _ _),.inr (aW.df _ _),.inr (bH.df _ _),.inr (bH.df _ _),.inr (bH.df _ _),.inr (aW.df _ _),aV⟩)<|cG h λq35 h=>cG h λq36 h=>cG h λq37 h=>cG h λq38 h=>cG h λq39 h=>cG h λq40 h=>cG h λq41 h=>cG h λq42 h=>cG h λq43 h=>cG h λq44 h=>cG h λq45 h=>cG h λq46 h=>cG h λq47 h=>lG k2<|sn<|tn<|sS<|lG k2<|sn<|tn<|sS<|lpS k8<|fU k2<|oB h λv48 hv48 h=>se (pN (zF (⟨v10.1.kind,(⟨v10.1.rep.p,(⟨v10.1.rep.q.n,v34.1,v34.2.1⟩:Qv),v34.2.2.1,v34.2.2.2.1⟩:Rp),(⟨v10.1.other.p,(⟨v10.1.other.q.n,v34.2.2.2.2.1,v34.2.2.2.2.2.1⟩:Qv),v34.2.2.2.2.2.2.1,v34.2.2.2.2.2.2.2.1⟩:Rp),v34.2.2.2.2.2.2.2.2.1,v34.2.2.2.2.2.2.2.2.2.1,v34.2.2.2.2.2.2.2.2.2.2.1,v34.2.2.2.2.2.2.2.2.2.2.2.1,v34.2.2.2.2.2.2.2.2.2.2.2.2.1⟩:Cl) 1 v48 hv48) k (dQ (.inl (sX (aQ (cH k) (aQ (cH k) (aQ (cH k) (aQ (cS bH k (by first|rfl|simp only [List.length_set,of_decide_eq_true q35])) (aQ (cS bH k (by first|rfl|simp only [List.length_set,of_decide_eq_true q36])) (aQ (cS bH k (by first|rfl|simp only [List.length_set,of_decide_eq_true q37])) (aQ (cS aW k (by first|rfl|simp only [List.length_set,of_decide_eq_true q38])) (aQ (cH k) (aQ (cH k) (aQ (cS bH k (by first|rfl|simp only [List.length_set,of_decide_eq_true q39])) (aQ (cS bH k (by first|rfl|simp only [List.length_set,of_decide_eq_true q40])) (aQ (cS bH k (by first|rfl|simp only [List.length_set,of_decide_eq_true q41])) (aQ (cS aW k (by first|rfl|simp only [List.length_set,of_decide_eq_true q42])) (aQ (cS fB k (by first|rfl|simp only [List.length_set,of_decide_eq_true q43])) (aQ (cS aW k (by first|rfl|simp only [List.length_set,of_decide_eq_true q44])) (aQ (cS gZ k (by first|rfl|simp only [List.length_set,of_decide_eq_true q45])) (aQ (cS bH k (by first|rfl|simp only [List.length_set,of_decide_eq_true q46])) (aQ (cS gN k (by first|rfl|simp only [List.length_set,of_decide_eq_true q47])) vL)))))))))))))))))))) (wkS k kU))) k ?_;refine lG k2<|sn<|tn<|sQ<|sS<|fU k2<|cmS k4<|sn<|tn<|cJ k h (λ_ h=>sS<|lG k2<|sn<|tn<|aD<|aB<|dY h k2) λ_ h=>?_;refine aE<|tn<|sQ<|sS<|fU k2<|fU k2<|cmS k4<|sn<|tn<|cJ k h (λ_ h=>sS<|lG k2<|sn<|tn<|aD<|aB<|dY h k2) λ_ h=>?_;refine aE<|tn<|sQ<|aS fF<|lp k8<|oB h λv51 hv51 h=>ae (cRK (kJ a0 v51 hv51) k3 (dQ (vrR k r0_2 r0_3 r0_4 r0_5) kU)) k<|lp k8<|oB h λv52 hv52 h=>ae (cRK (kJ a1 v52 hv52) k3 (dQ (vrR k r1_2 r1_3 r1_4 r1_5) kU)) k<|oB h λv53 hv53 h=>ae (AEff.conv (aAj (x:= .tuple [.agg [.int v53.1.kind,.int v53.1.rep.p,.int v53.1.rep.q.n,.own 64 0 (v53.1.rep.q.src.map eI).length,.own 65 0 (v53.1.rep.q.tgt.map eI).length,.own 66 0 (v53.1.rep.dims.map eI).length,.own 67 0 (v53.1.rep.maps.map eM).length,.int v53.1.other.p,.int v53.1.other.q.n,.own 68 0 (v53.1.other.q.src.map eI).length,.own 69 0 (v53.1.other.q.tgt.map eI).length,.own 70 0 (v53.1.other.dims.map eI).length,.own 71 0 (v53.1.other.maps.map eM).length,.own 72 0 (v53.1.parts.map eR).length,.own 73 0 (v53.1.maps.map eM).length,.own 74 0 (v53.1.bars.map eB).length,.own 75 0 (v53.1.theta.map eI).length,.own 76 0 (v53.1.subs.map eS).length],.bl v53.2]) (nb:=[(64,⟨1,bX (v53.1.rep.q.src.map eI)⟩),(65,⟨1,bX (v53.1.rep.q.tgt.map eI)⟩),(66,⟨1,bX (v53.1.rep.dims.map eI)⟩),(67,⟨3,bX (v53.1.rep.maps.map eM)⟩),(68,⟨1,bX (v53.1.other.q.src.map eI)⟩),(69,⟨1,bX (v53.1.other.q.tgt.map eI)⟩),(70,⟨1,bX (v53.1.other.dims.map eI)⟩),(71,⟨3,bX (v53.1.other.maps.map eM)⟩),(72,⟨6,bX (v53.1.parts.map eR)⟩),(73,⟨3,bX (v53.1.maps.map eM)⟩),(74,⟨3,bX (v53.1.bars.map eB)⟩),(75,⟨1,bX (v53.1.theta.map eI)⟩),(76,⟨2,bX (v53.1.subs.map eS)⟩)]) (xE v51 v52 v53 hv53) k (by rfl) k k (gP (bJ aV (bJ aV (bJ aV (bJ (bH.good _) (bJ (bH.good _) (bJ (bH.good _) (bJ (aW.good _) (bJ aV (bJ aV (bJ (bH.good _) (bJ (bH.good _) (bJ (bH.good _) (bJ (aW.good _) (bJ (fB.good _) (bJ (aW.good _) (bJ (gZ.good _) (bJ (bH.good _) (bJ (gN.good _) vO)))))))))))))))))) (gP aV yG)) (dQ (.inl (vaR k8)) (dQ (.inl (vaR k8)) kU))) (v':= .tuple [.agg [.int v53.1.kind,.int v53.1.rep.p,.int v53.1.rep.q.n,.own 64 0 v53.1.rep.q.src.length,.own 65 0 v53.1.rep.q.tgt.length,.own 66 0 v53.1.rep.dims.length,.own 67 0 v53.1.rep.maps.length,.int v53.1.other.p,.int v53.1.other.q.n,.own 68 0 v53.1.other.q.src.length,.own 69 0 v53.1.other.q.tgt.length,.own 70 0 v53.1.other.dims.length,.own 71 0 v53.1.other.maps.length,.own 72 0 v53.1.parts.length,.own 73 0 v53.1.maps.length,.own 74 0 v53.1.bars.length,.own 75 0 v53.1.theta.length,.own 76 0 v53.1.subs.length],.bl v53.2]) (ed':=[(64,some ⟨1,v53.1.rep.q.src.map (ow eI)⟩),(65,some ⟨1,v53.1.rep.q.tgt.map (ow eI)⟩),(66,some ⟨1,v53.1.rep.dims.map (ow eI)⟩),(67,some ⟨3,v53.1.rep.maps.map (ow eM)⟩),(68,some ⟨1,v53.1.other.q.src.map (ow eI)⟩),(69,some ⟨1,v53.1.other.q.tgt.map (ow eI)⟩),(70,some ⟨1,v53.1.other.dims.map (ow eI)⟩),(71,some ⟨3,v53.1.other.maps.map (ow eM)⟩),(72,some ⟨6,v53.1.parts.map (ow eR)⟩),(73,some ⟨3,v53.1.maps.map (ow eM)⟩),(74,some ⟨3,v53.1.bars.map (ow eB)⟩),(75,some ⟨1,v53.1.theta.map (ow eI)⟩),(76,some ⟨2,v53.1.subs.map (ow eS)⟩)]) (by simp only [aU]) (vY (nb':=[(64,⟨1,v53.1.rep.q.src.map (ow eI)⟩),(65,⟨1,v53.1.rep.q.tgt.map (ow eI)⟩),(66,⟨1,v53.1.rep.dims.map (ow eI)⟩),(67,⟨3,v53.1.rep.maps.map (ow eM)⟩),(68,⟨1,v53.1.other.q.src.map (ow eI)⟩),(69,⟨1,v53.1.other.q.tgt.map (ow eI)⟩),(70,⟨1,v53.1.other.dims.map (ow eI)⟩),(71,⟨3,v53.1.other.maps.map (ow eM)⟩),(72,⟨6,v53.1.parts.map (ow eR)⟩),(73,⟨3,v53.1.maps.map (ow eM)⟩),(74,⟨3,v53.1.bars.map (ow eB)⟩),(75,⟨1,v53.1.theta.map (ow eI)⟩),(76,⟨2,v53.1.subs.map (ow eS)⟩)]) (by simp only [fP]))) k ?_;refine am k k<|ae (bZ k k (by intro _ h;cases h)) k<|ae (bZ k k (by intro _ h;cases h)) k<|ae (cA aO k k) k<|ae (ws k) k<|aa k k<|an<|pA (by kernel_rfl)<|tn<|sQ<|sS<|lpS k8<|lpS k8<|oB h λv54 hv54 h=>se (pN (xD v53.1 v7.1 v54 hv54) k (dQ (.inl (sX (aQ (cH k) (aQ (cH k) (aQ (cH k) (aQ (cS bH k k) (aQ (cS bH k k) (aQ (cS bH k k) (aQ (cS aW k k) (aQ (cH k) (aQ (cH k) (aQ (cS bH k k) (aQ (cS bH k k) (aQ (cS bH k k) (aQ (cS aW k k) (aQ (cS fB k k) (aQ (cS aW k k) (aQ (cS gZ k k) (aQ (cS bH k k) (aQ (cS gN k k) vL)))))))))))))))))))) (dQ (.inl (sX (aQ (cH k) (aQ (cH k) (aQ (cH k) (aQ (cS bH k k) (aQ (cS bH k k) (aQ (cS bH k k) (aQ (cS aW k k) (aQ (cH k) (aQ (cH k) (aQ (cS bH k k) (aQ (cS bH k k) (aQ (cS bH k k) (aQ (cS aW k k) (aQ (cS fB k k) (aQ (cS aW k k) (aQ (cS gZ k k) (aQ (cS bH k k) (aQ (cS gN k k) vL)))))))))))))))))))) kU))) k<|se (dE k) k<|fU k2<|oC h (λq55 h=>?_) λq55 h=>?_
  ·exact vG 106 k q55<|gH k k<|gH k k<|gH k k<|pkS k3<|sn<|tn<|aR (t:=mN [(10,.ptr 47 0 0),(13,.int v34.2.2.2.2.2.2.2.2.2.2.2.2.2),(110,.bl true)] [(34,⟨1,v34.1.map (ow eI)⟩),(35,⟨1,v34.2.1.map (ow eI)⟩),(36,⟨1,v34.2.2.1.map (ow eI)⟩),(37,⟨3,v34.2.2.2.1.map (ow eM)⟩),(38,⟨1,v34.2.2.2.2.1.map (ow eI)⟩),(39,⟨1,v34.2.2.2.2.2.1.map (ow eI)⟩),(40,⟨1,v34.2.2.2.2.2.2.1.map (ow eI)⟩),(41,⟨3,v34.2.2.2.2.2.2.2.1.map (ow eM)⟩),(42,⟨6,v34.2.2.2.2.2.2.2.2.1.map (ow eR)⟩),(43,⟨3,v34.2.2.2.2.2.2.2.2.2.1.map (ow eM)⟩),(44,⟨3,v34.2.2.2.2.2.2.2.2.2.2.1.map (ow eB)⟩),(45,⟨1,v34.2.2.2.2.2.2.2.2.2.2.2.1.map (ow eI)⟩),(46,⟨2,v34.2.2.2.2.2.2.2.2.2.2.2.2.1.map (ow eS)⟩),(47,⟨18,[[.int v10.1.kind,.int v10.1.rep.p,.int v10.1.rep.q.n,.own 34 0 v34.1.length,.own 35 0 v34.2.1.length,.own 36 0 v34.2.2.1.length,.own 37 0 v34.2.2.2.1.length,.int v10.1.other.p,.int v10.1.other.q.n,.own 38 0 v34.2.2.2.2.1.length,.own 39 0 v34.2.2.2.2.2.1.length,.own 40 0 v34.2.2.2.2.2.2.1.length,.own 41 0 v34.2.2.2.2.2.2.2.1.length,.own 42 0 v34.2.2.2.2.2.2.2.2.1.length,.own 43 0 v34.2.2.2.2.2.2.2.2.2.1.length,.own 44 0 v34.2.2.2.2.2.2.2.2.2.2.1.length,.own 45 0 v34.2.2.2.2.2.2.2.2.2.2.2.1.length,.own 46 0 v34.2.2.2.2.2.2.2.2.2.2.2.2.1.length]]⟩)] 78 ⟨0,true,fxW W,true⟩) (bO (bL k2) (bD k<|bD k<|bD k<|cF (aW.plainO _) k<|bD k<|bD k<|bD k<|cF (aW.plainO _) k<|cF (fB.plainO _) k<|cF (aW.plainO _) k<|cF (gZ.plainO _) k<|bD k<|cF (gN.plainO _) k<|hX ⟨_,k,k,.inr ⟨_,_,k,⟨_,_,k,k,⟨_,_,k,k,⟨_,_,k,k,⟨_,_,k,⟨k,k,(by simp only [aU,lA,lT,lR,lC,lN,of_decide_eq_true q35]),k⟩,⟨_,_,k,⟨k,k,(by simp only [aU,lA,lT,lR,lC,lN,of_decide_eq_true q36]),k⟩,⟨_,_,k,⟨k,k,(by simp only [aU,lA,lT,lR,lC,lN,of_decide_eq_true q37]),k⟩,⟨_,_,k,⟨k,k,(by simp only [aU,lA,lT,lR,lC,lN,of_decide_eq_true q38]),k⟩,⟨_,_,k,k,⟨_,_,k,k,⟨_,_,k,⟨k,k,(by simp only [aU,lA,lT,lR,lC,lN,of_decide_eq_true q39]),k⟩,⟨_,_,k,⟨k,k,(by simp only [aU,lA,lT,lR,lC,lN,of_decide_eq_true q40]),k⟩,⟨_,_,k,⟨k,k,(by simp only [aU,lA,lT,lR,lC,lN,of_decide_eq_true q41]),k⟩,⟨_,_,k,⟨k,k,(by simp only [aU,lA,lT,lR,lC,lN,of_decide_eq_true q42]),k⟩,⟨_,_,k,⟨k,k,(by simp only [aU,lA,lT,lR,lC,lN,of_decide_eq_true q43]),k⟩,⟨_,_,k,⟨k,k,(by simp only [aU,lA,lT,lR,lC,lN,of_decide_eq_true q44]),k⟩,⟨_,_,k,⟨k,k,(by simp only [aU,lA,lT,lR,lC,lN,of_decide_eq_true q45]),k⟩,⟨_,_,k,⟨k,k,(by simp only [aU,lA,lT,lR,lC,lN,of_decide_eq_true q46]),k⟩,⟨_,_,k,⟨k,k,(by simp only [aU,lA,lT,lR,lC,lN,of_decide_eq_true q47]),k⟩,k⟩⟩⟩⟩⟩⟩⟩⟩⟩⟩⟩⟩⟩⟩⟩⟩⟩⟩,k⟩⟩ k<|aV) k4)<|dT k k<|sS<|lG k2<|sn<|tn<|aD<|aB<|dY h k2
  ·refine vG 106 k q55<|fU k2<|fU k2<|se (aJm (by kernel_rfl) k k) k<|pkS k3<|sn<|tn<|aR (t:=mN [(10,.ptr 47 0 0),(13,.int v34.2.2.2.2.2.2.2.2.2.2.2.2.2),(110,.bl (!(v53.2==v7.2)))] [(34,⟨1,v34.1.map (ow eI)⟩),(35,⟨1,v34.2.1.map (ow eI)⟩),(36,⟨1,v34.2.2.1.map (ow eI)⟩),(37,⟨3,v34.2.2.2.1.map (ow eM)⟩),(38,⟨1,v34.2.2.2.2.1.map (ow eI)⟩),(39,⟨1,v34.2.2.2.2.2.1.map (ow eI)⟩),(40,⟨1,v34.2.2.2.2.2.2.1.map (ow eI)⟩),(41,⟨3,v34.2.2.2.2.2.2.2.1.map (ow eM)⟩),(42,⟨6,v34.2.2.2.2.2.2.2.2.1.map (ow eR)⟩),(43,⟨3,v34.2.2.2.2.2.2.2.2.2.1.map (ow eM)⟩),(44,⟨3,v34.2.2.2.2.2.2.2.2.2.2.1.map (ow eB)⟩),(45,⟨1,v34.2.2.2.2.2.2.2.2.2.2.2.1.map (ow eI)⟩),(46,⟨2,v34.2.2.2.2.2.2.2.2.2.2.2.2.1.map (ow eS)⟩),(47,⟨18,[[.int v10.1.kind,.int v10.1.rep.p,.int v10.1.rep.q.n,.own 34 0 v34.1.length,.own 35 0 v34.2.1.length,.own 36 0 v34.2.2.1.length,.own 37 0 v34.2.2.2.1.length,.int v10.1.other.p,.int v10.1.other.q.n,.own 38 0 v34.2.2.2.2.1.length,.own 39 0 v34.2.2.2.2.2.1.length,.own 40 0 v34.2.2.2.2.2.2.1.length,.own 41 0 v34.2.2.2.2.2.2.2.1.length,.own 42 0 v34.2.2.2.2.2.2.2.2.1.length,.own 43 0 v34.2.2.2.2.2.2.2.2.2.1.length,.own 44 0 v34.2.2.2.2.2.2.2.2.2.2.1.length,.own 45 0 v34.2.2.2.2.2.2.2.2.2.2.2.1.length,.own 46 0 v34.2.2.2.2.2.2.2.2.2.2.2.2.1.length]]⟩)] 78 ⟨0,true,fxW W,true⟩) (bO (bL k2) (bD k<|bD k<|bD k<|cF (aW.plainO _) k<|bD k<|bD k<|bD k<|cF (aW.plainO _) k<|cF (fB.plainO _) k<|cF (aW.plainO _) k<|cF (gZ.plainO _) k<|bD k<|cF (gN.plainO _) k<|hX ⟨_,k,k,.inr ⟨_,_,k,⟨_,_,k,k,⟨_,_,k,k,⟨_,_,k,k,⟨_,_,k,⟨k,k,(by simp only [aU,lA,lT,lR,lC,lN,of_decide_eq_true q35]),k⟩,⟨_,_,k,⟨k,k,(by simp only [aU,lA,lT,lR,lC,lN,of_decide_eq_true q36]),k⟩,⟨_,_,k,⟨k,k,(by simp only [aU,lA,lT,lR,lC,lN,of_decide_eq_true q37]),k⟩,⟨_,_,k,⟨k,k,(by simp only [aU,lA,lT,lR,lC,lN,of_decide_eq_true q38]),k⟩,⟨_,_,k,k,⟨_,_,k,k,⟨_,_,k,⟨k,k,(by simp only [aU,lA,lT,lR,lC,lN,of_decide_eq_true q39]),k⟩,⟨_,_,k,⟨k,k,(by simp only [aU,lA,lT,lR,lC,lN,of_decide_eq_true q40]),k⟩,⟨_,_,k,⟨k,k,(by simp only [aU,lA,lT,lR,lC,lN,of_decide_eq_true q41]),k⟩,⟨_,_,k,⟨k,k,(by simp only [aU,lA,lT,lR,lC,lN,of_decide_eq_true q42]),k⟩,⟨_,_,k,⟨k,k,(by simp only [aU,lA,lT,lR,lC,lN,of_decide_eq_true q43]),k⟩,⟨_,_,k,⟨k,k,(by simp only [aU,lA,lT,lR,lC,lN,of_decide_eq_true q44]),k⟩,⟨_,_,k,⟨k,k,(by simp only [aU,lA,lT,lR,lC,lN,of_decide_eq_true q45]),k⟩,⟨_,_,k,⟨k,k,(by simp only [aU,lA,lT,lR,lC,lN,of_decide_eq_true q46]),k⟩,⟨_,_,k,⟨k,k,(by simp only [aU,lA,lT,lR,lC,lN,of_decide_eq_true q47]),k⟩,k⟩⟩⟩⟩⟩⟩⟩⟩⟩⟩⟩⟩⟩⟩⟩⟩⟩⟩,k⟩⟩ k<|aV) k4)<|cJ k h (λ_ h=>sS<|lG k2<|sn<|tn<|aD<|aB<|dY h k2) λ_ h=>?_;exact aE<|tn<|sS<|lG k2<|sn<|tn<|sS<|lpS k8<|fU k2<|oB h λv57 hv57 h=>se (pN (zF (⟨v10.1.kind,(⟨v10.1.rep.p,(⟨v10.1.rep.q.n,v34.1,v34.2.1⟩:Qv),v34.2.2.1,v34.2.2.2.1⟩:Rp),(⟨v10.1.other.p,(⟨v10.1.other.q.n,v34.2.2.2.2.1,v34.2.2.2.2.2.1⟩:Qv),v34.2.2.2.2.2.2.1,v34.2.2.2.2.2.2.2.1⟩:Rp),v34.2.2.2.2.2.2.2.2.1,v34.2.2.2.2.2.2.2.2.2.1,v34.2.2.2.2.2.2.2.2.2.2.1,v34.2.2.2.2.2.2.2.2.2.2.2.1,v34.2.2.2.2.2.2.2.2.2.2.2.2.1⟩:Cl) 1 v57 hv57) k (dQ (.inl (sX (aQ (cH k) (aQ (cH k) (aQ (cH k) (aQ (cS bH k (by first|rfl|simp only [List.length_set,of_decide_eq_true q35])) (aQ (cS bH k (by first|rfl|simp only [List.length_set,of_decide_eq_true q36])) (aQ (cS bH k (by first|rfl|simp only [List.length_set,of_decide_eq_true q37])) (aQ (cS aW k (by first|rfl|simp only [List.length_set,of_decide_eq_true q38])) (aQ (cH k) (aQ (cH k) (aQ (cS bH k (by first|rfl|simp only [List.length_set,of_decide_eq_true q39])) (aQ (cS bH k (by first|rfl|simp only [List.length_set,of_decide_eq_true q40])) (aQ (cS bH k (by first|rfl|simp only [List.length_set,of_decide_eq_true q41])) (aQ (cS aW k (by first|rfl|simp only [List.length_set,of_decide_eq_true q42])) (aQ (cS fB k (by first|rfl|simp only [List.length_set,of_decide_eq_true q43])) (aQ (cS aW k (by first|rfl|simp only [List.length_set,of_decide_eq_true q44])) (aQ (cS gZ k (by first|rfl|simp only [List.length_set,of_decide_eq_true q45])) (aQ (cS bH k (by first|rfl|simp only [List.length_set,of_decide_eq_true q46])) (aQ (cS gN k (by first|rfl|simp only [List.length_set,of_decide_eq_true q47])) vL)))))))))))))))))))) (wkS k kU))) k<|lG k2<|sn<|tn<|sQ<|sS<|fU k2<|cmS k4<|sn<|tn<|cJ k h (λ_ h=>sS<|lG k2<|sn<|tn<|aD<|aB<|dY h k2) λ_ h=>aE<|tn<|sQ<|sS<|fU k2<|fU k2<|cmS k4<|sn<|tn<|cJ k h (λ_ h=>sS<|lG k2<|sn<|tn<|aD<|aB<|dY h k2) λ_ h=>aE<|tn<|sS<|lG k2<|sn<|tn<|aD<|dY h k2
end
noncomputable section
def fiR (a b:Rp):List Mt×Bool:=bif pB a b&&decide (a.dims=b.dims) then aNk a b else ([],false)
section
variable {a b:Rp} (ha:bR a) (hb:bR b)
include ha hb
theorem aNm:iT a b=some (fiR a b):=by
 unfold iT fiR;rw [show rZ a b=some (pB a b) from aOp ha hb,aA,wQ ha.2.1];cases hf:pB a b with
 |false=>rfl
 |true=>
  rw [eO,aY,aA];by_cases he:a.dims=b.dims
  ·rw [bK he,eO,aY,aJU (jF hf),aA,aML ha hf he];rfl
  ·rw [cY he];rfl
theorem aNn:iU a b=some (fiR a b):=by
 unfold iU fiR;rw [show iM a b=some (pB a b) from aCl ha hb,aA,zE ha.2.1];cases hf:pB a b with
 |false=>rfl
 |true=>
  rw [eO,aY,aA];by_cases he:a.dims=b.dims
  ·rw [bK he,eO,aY,aQO ha hb hf he,aA];unfold aNk;cases aIE a b (tU a b) <;> rfl
  ·rw [cY he];rfl
theorem aQP (hf:pB a b=true):qH a b=some (aJY a b):=by
 obtain ⟨f1,f2,f3⟩:=aLP hf;have ed: ∀ {x y:Rp},pB x y=true→hdI x y=(dR x y:Int):=λh=>by unfold hdI;rw [aX h]
 unfold qH aJY;rw [zH ha ha,aA,zE ha.2.1,aA];by_cases he:a.dims=b.dims
 ·rw [bK he,eO,aY,zH ha hb,aA,zH hb ha,aA,zH hb hb,aA,ed hf,ed f1,ed f2,ed f3,zK,zK,zK];cases decide (dR a b=dR a a) <;> cases decide (dR b a=dR a a) <;> rfl
 ·rw [cY he];rfl
end
theorem aQQ {a b:Rp} :(fiR a b).1.length ≤1048576∧ ∀ m∈(fiR a b).1,bM m:=by
 unfold fiR;cases hB:pB a b&&decide (a.dims=b.dims) with
 |false=>exact aLG
 |true=>
  simp only [dA,sI] at hB;have h:=jF hB.1;rw [aN];unfold aNk;cases hi:aIE a b (tU a b) with
  |none=>exact aLG
  |some f=>
   unfold aIE at hi;obtain ⟨c,_,hc⟩:=List.exists_of_findSome?_eq_some hi
   have e:f=dM a b (wR a b c):=by
    revert hc;cases zJ a b c with
    |true=>intro hc;exact (Option.some.inj hc).symm
    |false=>intro hc;cases hc
   have n5:=h.ra.n5;subst e;refine ⟨by simp [dM];omega,λm hm=>?_⟩;obtain ⟨v,hv,rfl⟩:=List.mem_map.1 hm;have hv':=List.mem_range.1 hv;have d1:=(h.ra.d v hv').2;have d2:=(h.rb.d v (by have:=h.ne;omega)).2;refine ⟨?_,trivial⟩;unfold bI;simp only;rw [eV];have:=Nat.mul_le_mul d2 d1;unfold lV;omega
def clP (a b:Rp):Cl×Bool:=
 bif pB a b then (bif aJY a b then (⟨3,a,b,[],[],[],[],[]⟩,true) else bif (fiR a b).2 then (⟨2,a,b,[],(fiR a b).1,[],[],[]⟩,true) else (⟨0,noR,noR,[],[],[],[],[]⟩,false)) else (⟨0,noR,noR,[],[],[],[],[]⟩,false)
section
variable {a b:Rp} (ha:bR a) (hb:bR b)
include ha hb
theorem aPb:Cl6 (clP a b).1:=by
 unfold clP;have none:Cl6 (⟨0,noR,noR,[],[],[],[],[]⟩:Cl):=⟨aOv,aOv,rfl,aLG,rfl,by simp [bI],by simp⟩;cases pB a b with
 |false=>exact none
 |true=>
  cases aJY a b with
  |true=>exact ⟨ha,hb,rfl,aLG,rfl,by simp [aN,bI],by simp [aN]⟩
  |false=>
   rw [aN,aY];cases (fiR a b).2 with
   |false=>exact none
   |true=>exact ⟨ha,hb,rfl,aQQ,rfl,by simp [aN,bI],by simp [aN]⟩
theorem aMM:jH a b=some (clP a b):=by
 unfold jH clP;rw [show rZ a b=some (pB a b) from aOp ha hb,aA];cases hf:pB a b with
 |false=>rfl
 |true=>
  rw [eO,aY,aN,aNl ha hf,aA];cases aJY a b with
  |true=>rw [aN,aN,xZ ha,aA,xZ hb];rfl
  |false=>
   rw [aY,aY,aNm ha hb,aA];cases hs:(fiR a b).2 with
   |false=>rfl
   |true=>rw [eO,aY,aN,xZ ha,aA,xZ hb];rfl
theorem aMN:nK a b=some (clP a b):=by
 unfold nK clP;rw [show iM a b=some (pB a b) from aCl ha hb,aA];cases hf:pB a b with
 |false=>rfl
 |true=>
  rw [eO,aY,aN,aQP ha hb hf,aA];cases aJY a b with
  |true=>rw [aN,aN,aDB ha,aA,aDB hb];rfl
  |false=>
   rw [aY,aY,aNn ha hb,aA];cases hs:(fiR a b).2 with
   |false=>rfl
   |true=>rw [eO,aY,aN,aDB ha,aA,aDB hb];rfl
end
theorem aDE {a b:Rp} (fa:fR a) (fb:fR b):jV a b=some true:=by
 unfold jV;rw [aPv fa (by decide) (by decide),aA];rcases aKu a 1048576 (by decide) (by decide) with e|⟨e1,e2,ha⟩
 ·rw [e];rfl
 ·rw [cY (by omega),aY,aPv fb e1 (by omega),aA];rcases aKu b _ e1 (by omega) with e|⟨e3,e4,hb⟩
  ·rw [e];rfl
  ·rw [cY (by omega),aY];have hC:=aPb ha hb;have n1:=aHE ha;have n2:=aHE hb;have l1:=ha.2.2.1.1;have l2:=hb.2.2.1.1;obtain ⟨g1,g2,g3,g4⟩:=aBH 1 a;obtain ⟨k1,k2,k3,k4⟩:=aBH (1+nR a) b;simp only [aPx ha,aPx hb,aA,aMN ha hb,aMM ha hb,aQI hC,eO,aY,beq_self_eq_true,aOQ ha,aOQ hb,decide_true];generalize hc:(clP a b).1=c at*;rw [aOX (by omega) (by omega) (by omega),aA];simp only [g1,g2,g3,g4,decide_true,aN];rw [aOX (by omega) (by omega) (by omega),aA];simp only [k1,k2,k3,k4,decide_true,aN];rw [cY (show ¬ (1+(nR a:Int)+(nR b:Int)<0) by omega),aY,aQJ hC,aA];obtain ⟨p1,p2,p3,p4⟩:=aBH 1 c.rep;obtain ⟨q1,q2,q3,q4⟩:=aBH (1+nR c.rep) c.other;have hk:decide (kC c<0)=false:=cY (by unfold kC;omega);have hh:=aQK hC;unfold mvC at hh ⊢;simp only at hh ⊢;simp only [p1,p2,p3,p4,q1,q2,q3,q4,hC.parts,hC.bars,rQ,aJJ,aCw,decide_true,aN,List.length_nil];have e0:(⟨c.kind,⟨c.rep.p,⟨c.rep.q.n,(mvR 1 c.rep).q.src,(mvR 1 c.rep).q.tgt⟩,(mvR 1 c.rep).dims,(mvR 1 c.rep).maps⟩,⟨c.other.p,⟨c.other.q.n,(mvR (1+nR c.rep) c.other).q.src,(mvR (1+nR c.rep) c.other).q.tgt⟩,(mvR (1+nR c.rep) c.other).dims,(mvR (1+nR c.rep) c.other).maps⟩,[],aHt (1+nR c.rep+nR c.other) c.maps,[],mvI (1+nR c.rep+nR c.other+nMs c.maps) c.theta,aJI (1+nR c.rep+nR c.other+nMs c.maps+nI c.theta) c.subs⟩:Cl)=⟨c.kind,mvR 1 c.rep,mvR (1+nR c.rep) c.other,[],aHt (1+nR c.rep+nR c.other) c.maps,[],mvI (1+nR c.rep+nR c.other+nMs c.maps) c.theta,aJI (1+nR c.rep+nR c.other+nMs c.maps+nI c.theta) c.subs⟩:=rfl;simp only [e0,hh,aA,hk,aY,decide_true,eO]
end
end Go.Proofs.YtghechfdejhapaaGreat

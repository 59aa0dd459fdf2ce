/-
  Several texts of the claim in one.
-/
import Derived.Test.YtilpfdokmlanjaaGreatDoorH14
set_option linter.unusedVariables false
set_option linter.unusedSimpArgs false
namespace Go.Proofs.YtilpfdokmlanjaaGreatDoor
open Go.RowKit
noncomputable section
set_option maxRecDepth 10000
set_option maxHeartbeats 4000000
def rL (a0:Int) (a1:Mt) (a2:Int) (x1:(Int×Int×(List Int)×Int)):Option ((Int×Int×(List Int)×Int) ⊕ (Int×Int×(List Int))):=
 bif decide (x1.2.2.2<a2) then
 ((mJ a0 (⟨x1.1,x1.2.1,x1.2.2.1⟩:Mt) a1).bind λv3=>
 some (.inl (v3.rows,v3.cols,v3.cells,wr (x1.2.2.2+1))))
 else
 (some (.inr (x1.1,x1.2.1,x1.2.2.1)))
def sF (a0:Int) (a1:Mt) (a2:Int):Option Mt:=
 (qG a1.rows).bind λv1=>
 (Lp (rL a0 a1 a2) (v1.rows,v1.cols,v1.cells,0)).bind λy4=>
 some ((⟨y4.1,y4.2.1,y4.2.2⟩:Mt))
theorem aJP (a0:Int) (a1:Mt) (a2:Int) (r:Mt) (h:sF a0 a1 a2=some r):HasC Tryz.prog 322 [.int a0,.agg (eM a1),.int a2] (.agg (eM r)):=by
 refine hM [.cell 6 130] Tryz.func322 Tryz.ntmps322 k<|sR<|ae (wb k) k<|ae (bX aO k k) k<|an<|tn<|sR<|fp k8<|lp k8<|oB h λv1 hv1 h=>ae (cM (aCg a1.rows v1 hv1) k3 (cI k aN)) k<|ae (bX aO k k) k<|ae (ws k) k<|an<|tn<|sQ<|sR<|am k k<|am k k<|an<|tn<|aC<|oB h λy4 hy4 h=>bZ (body:=(rL a0 a1 a2)) hy4 (λ(x1:(Int×Int×(List Int)×Int))=>mN [(0,.int a0),(4,.ptr 0 0 0),(6,.ptr 1 0 0),(7,.ptr 2 0 0),(11,.int a2),(12,.int x1.2.2.2)] [(0,⟨3,[eM a1]⟩),(1,⟨3,[fJ]⟩),(2,⟨3,[[.int x1.1,.int x1.2.1,.own 3 0 x1.2.2.1.length]]⟩),(3,⟨1,x1.2.2.1.map (ow eI)⟩)] 4) (λr e t=>e= .exit 0∧Ent t (mN [(6,.ptr 0 0 0),(7,.ptr 1 0 0)] [(0,⟨3,[fJ]⟩),(1,⟨3,[[.int r.1,.int r.2.1,.own 2 0 r.2.2.length]]⟩),(2,⟨1,r.2.2.map (ow eI)⟩)] 3)) (gA [0,1,3,2] (bJ k2) (bF k<|bF k<|eC k<|bO k<|aU) k4) ?_ ?_
 ·intro x1 o h;exact sR<|cm k4<|an<|tn<|sQ<|cW k h (λ_ h=>aH<|tn<|sQ<|aC<|rg<|am k k<|lp k8<|lp k8<|oB h λv3 hv3 h=>ae (cM (xD a0 (⟨x1.1,x1.2.1,x1.2.2.1⟩:Mt) a1 v3 hv3) k3 (cI k (aI (vaM k2) (aI (eD k) aN)))) k<|ae (ws k) k<|an<|aY<|tn<|rg<|ae (bG k k) k<|am k k<|an<|tn<|sp h ⟨_,k,(gA [0,1,2,4] (bJ k2) (bF k<|bF k<|eC k<|bO k<|aU) k4)⟩) λ_ h=>aX<|aB<|aB<|sp h ⟨_,k,k,(gA [1,2,3] (bJ k2) (bF k<|eC k<|bO k<|aU) k4)⟩
 ·rintro e t ⟨rfl,hent⟩;exact aM<|tn<|aD hent<|sR<|lp k8<|ae (ws k) k<|an<|tn<|aE<|sp h (bC k k k (gW (aZ (k) (aZ (k) (aZ (cN cU k k) eJ)))))
def nU (a0:Int) (a1:(List Mt)) (x1:((List Sc)×Int)):Option (((List Sc)×Int) ⊕ (List Sc)):=
 bif decide (x1.2<(a1.length:Int)) then
 ((cP a1 x1.2).bind λv2=>
 (vB a0 v2).bind λv3=>
 (zZ a0 v2.cols v3).bind λv4=>
 bif decide (x1.1.length+1≤4294967296) then
 (some (.inl ((x1.1++[v4]),wr (x1.2+1))))
 else none)
 else
 (some (.inr x1.1))
def tW (a0:Int) (a1:(List Mt)):Option (List Sc):=
 (Lp (nU a0 a1) ([],0)).bind λy6=>
 some (y6)
theorem aGO (a0:Int) (a1:(List Mt)) (r:(List Sc)) (h:tW a0 a1=some r):HasC Tryz.prog 323 [.int a0,.list 3 (a1.map eM)] (.list 2 (r.map eS)):=by
 refine hM [.tmp 4] Tryz.func323 Tryz.ntmps323 k<|sR<|aT k2<|sR<|aT k2<|sQ<|sR<|am k k<|ln k4<|am k k<|an<|tn<|aC<|oB h λy6 hy6 h=>bZ (body:=(nU a0 a1)) hy6 (λ(x1:((List Sc)×Int))=>mN [(0,.int a0),(5,.own 0 0 x1.1.length),(8,.list 3 (a1.map eM)),(9,.int (a1.length:Int)),(10,.int x1.2)] [(0,⟨2,x1.1.map (ow eS)⟩)] 1) (λr e t=>e= .exit 0∧Ent t (mN [(5,.own 0 0 r.length)] [(0,⟨2,r.map (ow eS)⟩)] 1)) (fP (σ:=sg []) (jU 1 k2 (fU ⟨_,k,⟨k,k,k,k⟩⟩ (bJ k2))) (hX k k<|aU) k) ?_ ?_
 ·intro x1 o h;refine sR<|cm k4<|an<|tn<|sQ<|cW k h (λ_ h=>?_) λ_ h=>aX<|aB<|aB<|sp h ⟨_,k,k,(bU (bJ k2) (cA (dJ.plainO _) k<|aU) k4)⟩;refine aH<|tn<|sQ<|aC<|sR<|oB h λv2 hv2 h=>ae (xl hv2 k) k<|lr k7<|ae (bX aO k k) k<|ae (ws k) k<|an<|tn<|aP eP<|am k k<|am k k<|fp k8<|lp k8<|am k k<|lp k8<|oB h λv3 hv3 h=>ae (cL bY (aEH a0 v2 v3 hv3) k3 (cI k (aI (eD k) aN))) k<|oB h λv4 hv4 h=>ae (cS (aGr a0 v2.cols v3 v4 hv4) k3 (cI k (cI k (aI (qE bY k k) aN)))) k<|ae (wl k) k<|cG h λq5 h=>ae (eW aO (l:=x1.1) (c:=[.int v4.size,.own 3 0 v4.basis.length]) q5 k k k k k k k k k k k k k k) k<|aa k k<|an<|lL (by kernel_rfl)<|aY<|tn<|aD (t:=mN [(0,.int a0),(5,.own 5 0 ((x1.1++[v4]).length)),(8,.list 3 (a1.map eM)),(9,.int (a1.length:Int)),(10,.int x1.2)] [(5,⟨2,List.map (ow eS) (x1.1++[v4])⟩)] 6) (Ent.trans (dB (b:=5) (b':=3) (j:=1) (es':=v4.basis.map (dH 1 eI)) k k k k (aG _ _) (bY.frzs _)) (bU (jU 1 k2 (fU ⟨_,k,⟨k,k,(by simp only [aG,lA,lT,lR,lC,lN]),k⟩⟩ (bJ k2))) (hX ⟨_,k,k,.inl ⟨fD v4 k,dJ.plainO _⟩⟩ k<|aU) k4)) ?_;exact rg<|ae (bG k k) k<|am k k<|an<|tn<|sp h ⟨_,k,(gA [5] (bJ k2) (cA (dJ.plainO _) k<|aU) k4)⟩
 ·rintro e t ⟨rfl,hent⟩;exact aM<|tn<|aD hent<|sR<|am k k<|aT k2<|aE<|sp h (bC k k k (eV (cN dJ k k)))
def mT (a0:Rp) (a1:(List Mt)) (x1:((List Mt)×Int)):Option (((List Mt)×Int) ⊕ (List Mt)):=
 bif decide (x1.2<(a1.length:Int)) then
 ((cP a1 x1.2).bind λv2=>
 (sF a0.p v2 8).bind λv3=>
 bif decide (x1.1.length+1≤4294967296) then
 (some (.inl ((x1.1++[v3]),wr (x1.2+1))))
 else none)
 else
 (some (.inr x1.1))
def xP (a0:Rp) (a1:(List Mt)):Option ((List Sc)×(List Sc)×Bool):=
 (Lp (mT a0 a1) ([],0)).bind λy5=>
 (tW a0.p y5).bind λv6=>
 (vY a0.p y5).bind λv7=>
 (oV v6).bind λv8=>
 (lZ v8).bind λv9=>
 bif decide (v9=0) then
 (some (([],[],false)))
 else
 ((oV v7).bind λv11=>
 (lZ v11).bind λv12=>
 bif decide (v12=0) then
 (some (([],[],false)))
 else
 (some ((v6,v7,true))))
theorem aJQ (a0:Rp) (a1:(List Mt)) (r:((List Sc)×(List Sc)×Bool)) (h:xP a0 a1=some r):HasC Tryz.prog 285 [.agg (eR a0),.list 3 (a1.map eM)] (.tuple [.list 2 (r.1.map eS),.list 2 (r.2.1.map eS),.bl r.2.2]):=by
 refine hM [.tmp 4,.tmp 5,.tmp 6] Tryz.func285 Tryz.ntmps285 k<|sR<|ae (wb k) k<|aa k k<|aa k k<|aT k2<|sR<|aT k2<|sQ<|sR<|am k k<|ln k4<|am k k<|an<|tn<|aC<|oB h λy5 hy5 h=>bZ (body:=(mT a0 a1)) hy5 (λ(x1:((List Mt)×Int))=>mN [(2,.ptr 0 0 0),(7,.own 1 0 x1.1.length),(12,.list 3 (a1.map eM)),(13,.int (a1.length:Int)),(14,.int x1.2)] [(0,⟨6,[eR a0]⟩),(1,⟨3,x1.1.map (ow eM)⟩)] 2) (λr e t=>e= .exit 0∧Ent t (mN [(2,.ptr 0 0 0),(7,.own 1 0 r.length)] [(0,⟨6,[eR a0]⟩),(1,⟨3,r.map (ow eM)⟩)] 2)) (fP (σ:=sg [(0,0)]) (jU 1 k2 (fU ⟨_,k,⟨k,k,k,k⟩⟩ (bJ k2))) (bF k<|hX k k<|aU) k) ?_ ?_
 ·intro x1 o h;refine sR<|cm k4<|an<|tn<|sQ<|cW k h (λ_ h=>?_) λ_ h=>aX<|aB<|aB<|sp h ⟨_,k,k,(bU (bJ k2) (bF k<|cA (bK.plainO _) k<|aU) k4)⟩;refine aH<|tn<|sQ<|aC<|sR<|oB h λv2 hv2 h=>ae (xl hv2 k) k<|lr k7<|ae (bX aO k k) k<|ae (ws k) k<|an<|tn<|rg<|am k k<|fp k8<|lp k8<|lp k8<|oB h λv3 hv3 h=>ae (cM (aJP a0.p v2 8 v3 hv3) k3 (cI k (aI (eD k) (cI k aN)))) k<|ae (wl k) k<|cG h λq4 h=>ae (eW aO (l:=x1.1) (c:=[.int v3.rows,.int v3.cols,.own 3 0 v3.cells.length]) q4 k k k k k k k k k k k k k k) k<|aa k k<|an<|aY<|tn<|aD (t:=mN [(2,.ptr 0 0 0),(7,.own 5 0 ((x1.1++[v3]).length)),(12,.list 3 (a1.map eM)),(13,.int (a1.length:Int)),(14,.int x1.2)] [(0,⟨6,[eR a0]⟩),(5,⟨3,List.map (ow eM) (x1.1++[v3])⟩)] 6) (Ent.trans (dB (b:=5) (b':=3) (j:=2) (es':=v3.cells.map eI) k k k k (aG _ _) (cU.frzs _)) (bU (jU 1 k2 (fU ⟨_,k,⟨k,k,(by simp only [aG,lA,lT,lR,lC,lN]),k⟩⟩ (bJ k2))) (bF k<|hX ⟨_,k,k,.inl ⟨fD v3 k,bK.plainO _⟩⟩ k<|aU) k4))<|rg<|ae (bG k k) k<|am k k<|an ?_;exact tn<|sp h ⟨_,k,(gA [0,5] (bJ k2) (bF k<|cA (bK.plainO _) k<|aU) k4)⟩
 ·rintro e t ⟨rfl,hent⟩;exact aM<|tn<|aD hent<|sQ<|aP eP<|fp k8<|lp k8<|am k k<|oB h λv6 hv6 h=>ae (cL dJ (aGO a0.p y5 v6 hv6) k3 (cI k (aI (qE bK k k) aN))) k<|fp k8<|lp k8<|am k k<|oB h λv7 hv7 h=>ae (cL dJ (aHL a0.p y5 v7 hv7) k3 (cI k (aI (qE bK k k) aN))) k<|aa k k<|aa k k<|an<|lL (by kernel_rfl)<|tn<|sQ<|sR<|am k k<|oB h λv8 hv8 h=>ae (cL cU (aAu v6 v8 hv8) k3 (aI (qE dJ k k) aN)) k<|oB h λv9 hv9 h=>ae (aS (aAS v8 v9 hv9) k (vcT k k aN)) k<|cm k4<|am k k<|rT h (λq10 h=>aQ 38 k q10<|aK k4<|aK k4<|pk k3<|an<|tn<|dK k k<|sR<|aa k k<|aa k k<|aT k2<|aE<|aJ<|sp h (bC k k k (cJ k (bD (dC (k)) (bD (dC (k)) (bD (k) dW)))))) λq10 h=>aQ 38 k q10<|am k k<|oB h λv11 hv11 h=>ae (cL cU (aAu v7 v11 hv11) k3 (aI (qE dJ k k) aN)) k<|oB h λv12 hv12 h=>ae (aS (aAS v11 v12 hv12) k (vcT k k aN)) k<|cm k4<|pk k3<|an<|tn<|cW k h (λ_ h=>sR<|aa k k<|aa k k<|aT k2<|aE<|aJ<|sp h (bC k k k (cJ k (bD (dC (k)) (bD (dC (k)) (bD (k) dW)))))) λ_ h=>aH<|tn<|sR<|am k k<|am k k<|aa k k<|aa k k<|aT k2<|aD (t:=mN [(4,.own 2 0 v6.length),(5,.own 3 0 v7.length),(6,.bl true)] [(2,⟨2,v6.map (ow eS)⟩),(3,⟨2,v7.map (ow eS)⟩)] 6) (bU (bJ k2) (cA (dJ.plainO _) k<|cA (dJ.plainO _) k<|aU) k4)<|aE<|sp h (bC k k k (cJ k (bD (dC (cN dJ k k)) (bD (dC (cN dJ k k)) (bD (k) dW)))))
def nW (a0:Rp) (a1:(List (List Mt))) (x1:Int):Option (Int ⊕ (Unit ⊕ ((List Sc)×(List Sc)×Bool))):=
 (oW a0.p (a1.length:Int)).bind λv1=>
 bif decide (x1<min v1 3000) then
 ((wF a0 a0 a1 x1).bind λv3=>
 (xP a0 v3).bind λv4=>
 bif v4.2.2 then
 (some (.inr (.inr ((v4.1,v4.2.1,true)))))
 else
 (some (.inl (wr (x1+1)))))
 else
 (some (.inr (.inl ())))
def tX (a0:Rp) (a1:(List (List Mt))):Option ((List Sc)×(List Sc)×Bool):=
 (Lp (nW a0 a1) 1).bind λy6=>
 Sum.elim (λy7=>
 some (([],[],false))
 )
 (λy8=>
 some y8
 )
 y6
theorem aGP (a0:Rp) (a1:(List (List Mt))) (r:((List Sc)×(List Sc)×Bool)) (h:tX a0 a1=some r):HasC Tryz.prog 229 [.agg (eR a0),.list 1 (a1.map (dH 3 eM))] (.tuple [.list 2 (r.1.map eS),.list 2 (r.2.1.map eS),.bl r.2.2]):=by
 refine hM [.tmp 4,.tmp 5,.tmp 6] Tryz.func229 Tryz.ntmps229 k<|sR<|ae (wb k) k<|aa k k<|aa k k<|aT k2<|sQ<|sR<|aT k2<|aC<|oB h λy6 hy6 h=>bZ (body:=(nW a0 a1)) hy6 (λ(x1:Int)=>mN [(1,.list 1 (a1.map (dH 3 eM))),(2,.ptr 0 0 0),(7,.int x1)] [(0,⟨6,[eR a0]⟩)] 1) (λr e t=>Sum.elim (λa=>(λr e t=>e= .exit 0∧Ent t (mN [] [] 0)) a e t) (λb=>(λr e t=>e= .ret∧uK TT [.tmp 4,.tmp 5,.tmp 6] (.tuple [.list 2 (r.1.map eS),.list 2 (r.2.1.map eS),.bl r.2.2]) .ret t) b e t) r) (bU (bJ k2) (bF k<|aU) k4) ?_ ?_
 ·intro x1 o h;refine sQ<|sR<|am k k<|fp k8<|lp k8<|am k k<|ln k4<|oB h λv1 hv1 h=>ae (aS (aBy a0.p (a1.length:Int) v1 hv1) k (cI k (cI k aN))) k<|ae (aUv k k) k<|cm k4<|an<|tn<|cW k h (λ_ h=>?_) λ_ h=>aX<|aB<|aB<|sp h ⟨_,k,k,(bU aU aU k4)⟩;exact aH<|tn<|sQ<|aC<|sQ<|aP eP<|lp k8<|lp k8<|lp k8<|am k k<|am k k<|oB h λv3 hv3 h=>ae (cL bK (aHR a0 a0 a1 x1 v3 hv3) k3 (aI (eD k) (aI (eD k) (cI k (cI k aN))))) k<|oB h λv4 hv4 h=>ae (AEff.conv (gZ (x:= .tuple [.own 2 0 (v4.1.map eS).length,.own 3 0 (v4.2.1.map eS).length,.bl v4.2.2]) (nb:=[(2,⟨2,cK (v4.1.map eS)⟩),(3,⟨2,cK (v4.2.1.map eS)⟩)]) (aJQ a0 v3 v4 hv4) k (by rfl) k k (dA (dJ.good _) (dA (dJ.good _) (dA aU qQ))) (aI (eD k) (aI (qE bK k k) aN))) (v':= .tuple [.own 2 0 v4.1.length,.own 3 0 v4.2.1.length,.bl v4.2.2]) (ed':=[(2,some ⟨2,v4.1.map (ow eS)⟩),(3,some ⟨2,v4.2.1.map (ow eS)⟩)]) (by simp only [aG]) (pB (nb':=[(2,⟨2,v4.1.map (ow eS)⟩),(3,⟨2,v4.2.1.map (ow eS)⟩)]) (by simp only [fB]))) k<|am k k<|ae (bA k k (by intro _ h;cases h)) k<|ae (bA k k (by intro _ h;cases h)) k<|ae (bA k k (by intro _ h;cases h)) k<|aa k k<|aa k k<|aa k k<|an<|lL (by kernel_rfl)<|tn<|sR<|am k k<|an<|tn<|cW k h (λ_ h=>sR<|am k k<|am k k<|aa k k<|aa k k<|aT k2<|aD (t:=mN [(4,.own 2 0 v4.1.length),(5,.own 3 0 v4.2.1.length),(6,.bl true)] [(2,⟨2,v4.1.map (ow eS)⟩),(3,⟨2,v4.2.1.map (ow eS)⟩)] 4) (bU (bJ k2) (cA (dJ.plainO _) k<|cA (dJ.plainO _) k<|aU) k4)<|aE<|bN<|aJ<|aJ<|sp h ⟨_,k,k,bC k k k (cJ k (bD (dC (cN dJ k k)) (bD (dC (cN dJ k k)) (bD (k) dW))))⟩) λ_ h=>aH<|aY<|tn<|rg<|am k k<|ae (bG k k) k<|aT k2<|sp h ⟨_,k,(bU (bJ k2) (bF k<|aU) k4)⟩
 ·intro e t hX;rcases y6 with y7|y8
  ·obtain ⟨rfl,hent⟩:=hX;exact aM<|tn<|aD hent<|sR<|aa k k<|aa k k<|aT k2<|aE<|sp h (bC k k k (cJ k (bD (dC (k)) (bD (dC (k)) (bD (k) dW)))))
  ·obtain ⟨rfl,hent⟩:=hX;exact bN<|aJ<|sp h hent
def mU (a0:(List Int)) (x1:((List Mt)×Int)):Option (((List Mt)×Int) ⊕ (List Mt)):=
 bif decide (x1.2<(a0.length:Int)) then
 ((cP a0 x1.2).bind λv2=>
 (qG v2).bind λv3=>
 bif decide (x1.1.length+1≤4294967296) then
 (some (.inl ((x1.1++[v3]),wr (x1.2+1))))
 else none)
 else
 (some (.inr x1.1))
def rM (a0:(List Int)):Option (List Mt):=
 (Lp (mU a0) ([],0)).bind λy5=>
 some (y5)
theorem aFW (a0:(List Int)) (r:(List Mt)) (h:rM a0=some r):HasC Tryz.prog 231 [.list 1 (a0.map eI)] (.list 3 (r.map eM)):=by
 refine hM [.tmp 2] Tryz.func231 Tryz.ntmps231 k<|sR<|aT k2<|sR<|aT k2<|sQ<|sR<|am k k<|ln k4<|am k k<|an<|tn<|aC<|oB h λy5 hy5 h=>bZ (body:=(mU a0)) hy5 (λ(x1:((List Mt)×Int))=>mN [(3,.own 0 0 x1.1.length),(6,.list 1 (a0.map eI)),(7,.int (a0.length:Int)),(8,.int x1.2)] [(0,⟨3,x1.1.map (ow eM)⟩)] 1) (λr e t=>e= .exit 0∧Ent t (mN [(3,.own 0 0 r.length)] [(0,⟨3,r.map (ow eM)⟩)] 1)) (fP (σ:=sg []) (fU ⟨_,k,⟨k,k,k,k⟩⟩ (bJ k2)) (hX k k<|aU) k) ?_ ?_
 ·intro x1 o h;exact sR<|cm k4<|an<|tn<|sQ<|cW k h (λ_ h=>aH<|tn<|sQ<|aC<|sR<|oB h λv2 hv2 h=>ae (xl hv2 k) k<|lr k7<|aT k2<|rg<|am k k<|am k k<|oB h λv3 hv3 h=>ae (cM (aCg v2 v3 hv3) k3 (cI k aN)) k<|ae (wl k) k<|cG h λq4 h=>ae (eW aO (l:=x1.1) (c:=[.int v3.rows,.int v3.cols,.own 1 0 v3.cells.length]) q4 k k k k k k k k k k k k k k) k<|aa k k<|an<|aY<|tn<|aD (t:=mN [(3,.own 3 0 ((x1.1++[v3]).length)),(6,.list 1 (a0.map eI)),(7,.int (a0.length:Int)),(8,.int x1.2)] [(3,⟨3,List.map (ow eM) (x1.1++[v3])⟩)] 4) (Ent.trans (dB (b:=3) (b':=1) (j:=2) (es':=v3.cells.map eI) k k k k (aG _ _) (cU.frzs _)) (bU (fU ⟨_,k,⟨k,k,(by simp only [aG,lA,lT,lR,lC,lN]),k⟩⟩ (bJ k2)) (hX ⟨_,k,k,.inl ⟨fD v3 k,bK.plainO _⟩⟩ k<|aU) k4))<|rg<|ae (bG k k) k<|am k k<|an<|tn<|sp h ⟨_,k,(gA [3] (bJ k2) (cA (bK.plainO _) k<|aU) k4)⟩) λ_ h=>aX<|aB<|aB<|sp h ⟨_,k,k,(bU (bJ k2) (cA (bK.plainO _) k<|aU) k4)⟩
 ·rintro e t ⟨rfl,hent⟩;exact aM<|tn<|aD hent<|sR<|am k k<|aT k2<|aE<|sp h (bC k k k (eV (cN bK k k)))
def pZ (a0:Int) (a1:(List Mt)) (a2:(List Mt)) (x1:((List Mt)×Int)):Option (((List Mt)×Int) ⊕ (List Mt)):=
 bif decide (x1.2<(a1.length:Int)) then
 ((cP a1 x1.2).bind λv2=>
 (cP a2 x1.2).bind λv3=>
 (mJ a0 v3 v2).bind λv4=>
 bif decide (x1.1.length+1≤4294967296) then
 (some (.inl ((x1.1++[v4]),wr (x1.2+1))))
 else none)
 else
 (some (.inr x1.1))
def lS (a0:Int) (a1:(List Mt)) (a2:(List Mt)):Option (List Mt):=
 (Lp (pZ a0 a1 a2) ([],0)).bind λy6=>
 some (y6)
theorem aHT (a0:Int) (a1:(List Mt)) (a2:(List Mt)) (r:(List Mt)) (h:lS a0 a1 a2=some r):HasC Tryz.prog 234 [.int a0,.list 3 (a1.map eM),.list 3 (a2.map eM)] (.list 3 (r.map eM)):=by
 refine hM [.tmp 6] Tryz.func234 Tryz.ntmps234 k<|sR<|aT k2<|sR<|aT k2<|sQ<|sR<|am k k<|ln k4<|am k k<|an<|tn<|aC<|oB h λy6 hy6 h=>bZ (body:=(pZ a0 a1 a2)) hy6 (λ(x1:((List Mt)×Int))=>mN [(0,.int a0),(2,.list 3 (a2.map eM)),(7,.own 0 0 x1.1.length),(10,.list 3 (a1.map eM)),(11,.int (a1.length:Int)),(12,.int x1.2)] [(0,⟨3,x1.1.map (ow eM)⟩)] 1) (λr e t=>e= .exit 0∧Ent t (mN [(7,.own 0 0 r.length)] [(0,⟨3,r.map (ow eM)⟩)] 1)) (fP (σ:=sg []) (jU 2 k2 (fU ⟨_,k,⟨k,k,k,k⟩⟩ (bJ k2))) (hX k k<|aU) k) ?_ ?_
 ·intro x1 o h;refine sR<|cm k4<|an<|tn<|sQ<|cW k h (λ_ h=>?_) λ_ h=>aX<|aB<|aB<|sp h ⟨_,k,k,(bU (bJ k2) (cA (bK.plainO _) k<|aU) k4)⟩;refine aH<|tn<|sQ<|aC<|sR<|am k k<|oB h λv2 hv2 h=>ae (xl hv2 k) k<|lr k7<|ae (bX aO k k) k<|aa k k<|ae (ws k) k<|an<|tn<|aP eP<|am k k<|am k k<|am k k<|am k k<|oB h λv3 hv3 h=>ae (xl hv3 k) k<|lr k7<|lp k8<|oB h λv4 hv4 h=>ae (cM (xD a0 v3 v2 v4 hv4) k3 (cI k (aI (eD k) (aI (eD k) aN)))) k<|ae (wl k) k<|cG h λq5 h=>ae (eW aO (l:=x1.1) (c:=[.int v4.rows,.int v4.cols,.own 2 0 v4.cells.length]) q5 k k k k k k k k k k k k k k) k<|aa k k<|an<|lL (by kernel_rfl)<|aY ?_;exact tn<|aD (t:=mN [(0,.int a0),(2,.list 3 (a2.map eM)),(7,.own 4 0 ((x1.1++[v4]).length)),(10,.list 3 (a1.map eM)),(11,.int (a1.length:Int)),(12,.int x1.2)] [(4,⟨3,List.map (ow eM) (x1.1++[v4])⟩)] 5) (Ent.trans (dB (b:=4) (b':=2) (j:=2) (es':=v4.cells.map eI) k k k k (aG _ _) (cU.frzs _)) (bU (jU 2 k2 (fU ⟨_,k,⟨k,k,(by simp only [aG,lA,lT,lR,lC,lN]),k⟩⟩ (bJ k2))) (hX ⟨_,k,k,.inl ⟨fD v4 k,bK.plainO _⟩⟩ k<|aU) k4))<|rg<|ae (bG k k) k<|am k k<|an<|tn<|sp h ⟨_,k,(gA [4] (bJ k2) (cA (bK.plainO _) k<|aU) k4)⟩
 ·rintro e t ⟨rfl,hent⟩;exact aM<|tn<|aD hent<|sR<|am k k<|aT k2<|aE<|sp h (bC k k k (eV (cN bK k k)))
def mV (a0:Rp) (v9:(Rp×(List Mt))) (v10:((List Rp)×(List (List Mt))×Bool)) (x2:((List (List Mt))×Int)):Option (((List (List Mt))×Int) ⊕ (List (List Mt))):=
 bif decide (x2.2<((v10.2.1.length:Nat):Int)) then
 ((cP v10.2.1 x2.2).bind λv14=>
 (lS a0.p v14 v9.2).bind λv15=>
 bif decide (x2.1.length+1≤4294967296) then
 (some (.inl ((x2.1++[v15]),wr (x2.2+1))))
 else none)
 else
 (some (.inr x2.1))
def iC (self:(Rp→Option ((List Rp)×(List (List Mt))×Bool))) (a0:Rp) (v2:((List Sc)×(List Sc)×Bool)) (x1:((List Rp)×(List (List Mt))×Int)):Option (((List Rp)×(List (List Mt))×Int) ⊕ (((List Rp)×(List (List Mt))) ⊕ Unit)):=
 bif decide (x1.2.2<2) then
 ((cP [v2.1,v2.2.1] x1.2.2).bind λv8=>
 (zD a0 v8).bind λv9=>
 (self v9.1).bind λv10=>
 bif !v10.2.2 then
 (some (.inr (.inr ())))
 else
 (bif decide (x1.1.length+v10.1.length≤4294967296) then
 ((Lp (mV a0 v9 v10) (x1.2.1,0)).bind λy17=>
 some (.inl ((x1.1++v10.1),y17,wr (x1.2.2+1))))
 else none))
 else
 (some (.inr (.inl (x1.1,x1.2.1))))
def yN (self:Rp→Option ((List Rp)×(List (List Mt))×Bool)) (a0:Rp):Option ((List Rp)×(List (List Mt))×Bool):=
 (wC a0 a0).bind λv1=>
 (tX a0 v1).bind λv2=>
 bif !v2.2.2 then
 ((tI a0).bind λv4=>
 (rM a0.dims).bind λv5=>
 (oW a0.p ((v1.length:Nat):Int)).bind λv6=>
 some ([v4],[v5],decide (v6≤3000)))
 else
 ((Lp (iC self a0 v2) ([],[],0)).bind λy18=>
 Sum.elim (λy19=>
 some (y19.1,y19.2,true)
 )
 (λy20=>
 some ([],[],false)
 )
 y18)
def iD:Nat→Rp→Option ((List Rp)×(List (List Mt))×Bool)
 |0,_=>none
 |n+1,a0=>yN (iD n) a0
theorem aGQ (self:Rp→Option ((List Rp)×(List (List Mt))×Bool)) (a0:Rp) (ih: ∀ (a0:Rp) (r:((List Rp)×(List (List Mt))×Bool)),self a0=some r→HasE Tryz.prog 164 [.agg (eR a0)] [] 0 (.tuple [.own 0 0 r.1.length,.own 1 0 r.2.1.length,.bl r.2.2]) [(0,⟨6,r.1.map (ow eR)⟩),(1,⟨1,r.2.1.map (ow (dH 3 eM))⟩)]) (r:((List Rp)×(List (List Mt))×Bool)) (h:yN self a0=some r):HasE Tryz.prog 164 [.agg (eR a0)] [] 0 (.tuple [.own 0 0 r.1.length,.own 1 0 r.2.1.length,.bl r.2.2]) [(0,⟨6,r.1.map (ow eR)⟩),(1,⟨1,r.2.1.map (ow (dH 3 eM))⟩)]:=by
 refine aDb aO (rvs:=[.tmp 2,.tmp 3,.tmp 4]) (ns:=nmA.drop 0) Tryz.func164 k k Tryz.ntmps164 k k<|sR<|ae (wb k) k<|aa k k<|aa k k<|aT k2<|sR<|lp k8<|lp k8<|oB h λv1 hv1 h=>ae (cL bY (aHO a0 a0 v1 hv1) k3 (aI (eD k) (aI (eD k) aN))) k<|aT k2<|sR<|lp k8<|am k k<|oB h λv2 hv2 h=>ae (AEff.conv (gZ (x:= .tuple [.own 2 0 (v2.1.map eS).length,.own 3 0 (v2.2.1.map eS).length,.bl v2.2.2]) (nb:=[(2,⟨2,cK (v2.1.map eS)⟩),(3,⟨2,cK (v2.2.1.map eS)⟩)]) (aGP a0 v1 v2 hv2) k (by rfl) k k (dA (dJ.good _) (dA (dJ.good _) (dA aU qQ))) (aI (eD k) (aI (qE bY k k) aN))) (v':= .tuple [.own 2 0 v2.1.length,.own 3 0 v2.2.1.length,.bl v2.2.2]) (ed':=[(2,some ⟨2,v2.1.map (ow eS)⟩),(3,some ⟨2,v2.2.1.map (ow eS)⟩)]) (by simp only [aG]) (pB (nb':=[(2,⟨2,v2.1.map (ow eS)⟩),(3,⟨2,v2.2.1.map (ow eS)⟩)]) (by simp only [fB]))) k<|am k k<|ae (bA k k (by intro _ h;cases h)) k<|ae (bA k k (by intro _ h;cases h)) k<|ae (bA k k (by intro _ h;cases h)) k<|aa k k<|aa k k<|aa k k<|an ?_;refine tn<|sQ<|sR<|am k k<|ae (dS k) k<|an<|tn<|cW k h (λ_ h=>?_) λ_ h=>?_
 ·exact sQ<|aP eP<|lp k8<|oB h λv4 hv4 h=>ae (cR (aGJ a0 v4 hv4) k3 (aI (eD k) aN)) k<|ae (wl k) k<|fp k8<|lp k8<|oB h λv5 hv5 h=>ae (cL bK (aFW a0.dims v5 hv5) k3 (cI k aN)) k<|ae (wl k) k<|fp k8<|lp k8<|am k k<|ae (dI aO k k k k) k<|oB h λv6 hv6 h=>ae (aS (aBy a0.p ((v1.length:Nat):Int) v6 hv6) k (cI k (cI k aN))) k<|cm k4<|aa k k<|aa k k<|aa k k<|an<|lL (by kernel_rfl)<|tn<|aD (t:=mN [(2,.own 8 0 ([v4].length)),(3,.own 10 0 ([v5].length)),(4,.bl (decide (v6≤3000)))] [(8,⟨6,List.map (ow eR) [v4]⟩),(10,⟨1,List.map (ow (dH 3 eM)) [v5]⟩)] 11 ⟨0,false,none,true⟩) (Ent.trans (gD (b:=8) (b':=4) (i:=0) (j:=2) (es':=v4.q.src.map eI) k k k k k (aG _ _) k (cU.frzs _)) (Ent.trans (gD (b:=8) (b':=5) (i:=0) (j:=3) (es':=v4.q.tgt.map eI) k k k k k (aG _ _) k (cU.frzs _)) (Ent.trans (gD (b:=8) (b':=6) (i:=0) (j:=4) (es':=v4.dims.map eI) k k k k k (aG _ _) k (cU.frzs _)) (Ent.trans (gD (b:=8) (b':=7) (i:=0) (j:=5) (es':=v4.maps.map eM) k k k k k (aG _ _) k (bK.frzs _)) (Ent.trans (gD (b:=10) (b':=9) (i:=0) (j:=0) (es':=v5.map eM) k k k k k (aG _ _) k (bK.frzs _)) (bU (fU ⟨_,k,⟨k,k,(by simp only [aG,lA,lT,lR,lC,lN]),k⟩⟩ (fU ⟨_,k,⟨k,k,(by simp only [aG,lA,lT,lR,lC,lN]),k⟩⟩ (bJ k2))) (cA (dY.plainO _) k<|cA (bY.plainO _) k<|aU) k4))))))<|aE<|aJ<|sp h ⟨mN [(2,.own 0 0 ([v4].length)),(3,.own 1 0 ([v5].length)),(4,.bl (decide (v6≤3000)))] [(0,⟨6,List.map (ow eR) [v4]⟩),(1,⟨1,List.map (ow (dH 3 eM)) [v5]⟩)] 2 ⟨0,false,none,true⟩,(gA [8,10] (bJ k2) (cA (dY.plainO _) k<|cA (bY.plainO _) k<|aU) k4),k,⟨_,k,.inr ⟨(by simp),k,k⟩⟩,⟨k,k,aU⟩⟩
 ·refine aH<|tn<|sR<|aT k2<|sR<|aT k2<|sQ<|sR<|am k k<|am k k<|ae (wl k) k<|ae (dI aO k k k k) k<|am k k<|an<|tn<|aD (t:=mN [(1,.ptr 0 0 0),(9,.nil 0),(10,.nil 0),(47,.own 4 0 ([v2.1,v2.2.1].length)),(48,.int 2),(49,.int 0)] [(0,⟨6,[eR a0]⟩),(4,⟨1,List.map (ow (dH 2 eS)) [v2.1,v2.2.1]⟩)] 5 ⟨0,false,none,true⟩) (Ent.trans (gD (b:=4) (b':=2) (i:=0) (j:=0) (es':=v2.1.map eS) k k k k k (aG _ _) k (dJ.frzs _)) (Ent.trans (gD (b:=4) (b':=3) (i:=1) (j:=0) (es':=v2.2.1.map eS) k k k k k (aG _ _) k (dJ.frzs _)) (bU (jU 3 k2 (fU ⟨_,k,⟨k,k,(by simp only [aG,lA,lT,lR,lC,lN]),k⟩⟩ (bJ k2))) (bF k<|cA (bY.plainO _) k<|aU) k4)))<|aC<|oB h λy18 hy18 h=>bZ (body:=(iC self a0 v2)) hy18 (λ(x1:((List Rp)×(List (List Mt))×Int))=>mN [(1,.ptr 0 0 0),(9,.own 1 0 x1.1.length),(10,.own 2 0 x1.2.1.length),(47,.own 3 0 ([v2.1,v2.2.1].length)),(48,.int 2),(49,.int x1.2.2)] [(0,⟨6,[eR a0]⟩),(1,⟨6,x1.1.map (ow eR)⟩),(2,⟨1,x1.2.1.map (ow (dH 3 eM))⟩),(3,⟨1,List.map (ow (dH 2 eS)) [v2.1,v2.2.1]⟩)] 4 ⟨0,false,none,true⟩) (λr e t=>Sum.elim (λa=>(λr e t=>e= .exit 0∧Ent t (mN [(9,.own 0 0 r.1.length),(10,.own 1 0 r.2.length)] [(0,⟨6,r.1.map (ow eR)⟩),(1,⟨1,r.2.map (ow (dH 3 eM))⟩)] 2 ⟨0,false,none,true⟩)) a e t) (λb=>(λr e t=>e= .ret∧Ent t (mN [(2,.nil 0),(3,.nil 0),(4,.bl false)] [] 0 ⟨0,false,none,true⟩)) b e t) r) (fP (σ:=sg [(0,0),(3,4)]) (jU 1 k2 (fU ⟨_,k,⟨k,k,k,k⟩⟩ (fU ⟨_,k,⟨k,k,k,k⟩⟩ (bJ k2)))) (bF k<|hX k k<|hX k k<|cA (bY.plainO _) k<|aU) k) ?_ ?_
  ·intro x1 o h;refine sR<|cm k4<|an<|tn<|sQ<|cW k h (λ_ h=>?_) λ_ h=>aX<|aB<|aB<|sp h ⟨_,k,k,(gA [1,2] (bJ k2) (cA (dY.plainO _) k<|cA (bY.plainO _) k<|aU) k4)⟩;refine aH<|tn<|sQ<|aC<|sR<|oB h λv8 hv8 h=>ae (xo hv8 k) k<|ae (wp hv8 k) k<|aT k2<|sR<|lp k8<|am k k<|oB h λv9 hv9 h=>ae (AEff.conv (gZ (x:= .tuple [.agg [.int v9.1.p,.int v9.1.q.n,.own 4 0 (v9.1.q.src.map eI).length,.own 5 0 (v9.1.q.tgt.map eI).length,.own 6 0 (v9.1.dims.map eI).length,.own 7 0 (v9.1.maps.map eM).length],.own 8 0 (v9.2.map eM).length]) (nb:=[(4,⟨1,cK (v9.1.q.src.map eI)⟩),(5,⟨1,cK (v9.1.q.tgt.map eI)⟩),(6,⟨1,cK (v9.1.dims.map eI)⟩),(7,⟨3,cK (v9.1.maps.map eM)⟩),(8,⟨3,cK (v9.2.map eM)⟩)]) (aJr a0 v8 v9 hv9) k (by rfl) k k (dA (cH aU (cH aU (cH (cU.good _) (cH (cU.good _) (cH (cU.good _) (cH (bK.good _) uM)))))) (dA (bK.good _) qQ)) (aI (eD k) (cI k aN))) (v':= .tuple [.agg [.int v9.1.p,.int v9.1.q.n,.own 4 0 v9.1.q.src.length,.own 5 0 v9.1.q.tgt.length,.own 6 0 v9.1.dims.length,.own 7 0 v9.1.maps.length],.own 8 0 v9.2.length]) (ed':=[(4,some ⟨1,v9.1.q.src.map (ow eI)⟩),(5,some ⟨1,v9.1.q.tgt.map (ow eI)⟩),(6,some ⟨1,v9.1.dims.map (ow eI)⟩),(7,some ⟨3,v9.1.maps.map (ow eM)⟩),(8,some ⟨3,v9.2.map (ow eM)⟩)]) (by simp only [aG]) (pB (nb':=[(4,⟨1,v9.1.q.src.map (ow eI)⟩),(5,⟨1,v9.1.q.tgt.map (ow eI)⟩),(6,⟨1,v9.1.dims.map (ow eI)⟩),(7,⟨3,v9.1.maps.map (ow eM)⟩),(8,⟨3,v9.2.map (ow eM)⟩)]) (by simp only [fB]))) k<|am k k<|ae (bA k k (by intro _ h;cases h)) k<|ae (bA k k (by intro _ h;cases h)) k<|ae (bX aO k k) k<|ae (ws k) k<|aT k2<|sR<|lp k8<|oB h λv10 hv10 h=>ae (aBw (σ:=sg []) (σ':=sg [(10,0),(11,1)]) (touch:=[4,5,6,7]) (news:=[10,11]) (hl2:=[(10,⟨6,v10.1.map (ow eR)⟩),(11,⟨1,v10.2.1.map (ow (dH 3 eM))⟩)]) (n':=12) (r2:= .tuple [.own 10 0 v10.1.length,.own 11 0 v10.2.1.length,.bl v10.2.2]) (ih v9.1 v10 hv10) k k ⟨_,_,k,(.inr ⟨⟨_,_,k,(yQ k),⟨_,_,k,(yQ k),⟨_,_,k,(aAR cU k k),⟨_,_,k,(aAR cU k k),⟨_,_,k,(aAR cU k k),⟨_,_,k,(aAR bK k k),k⟩⟩⟩⟩⟩⟩,k,k⟩),k⟩ aU k k k ⟨⟨_,k,k,.inl ⟨k,dY.plainO _⟩⟩,k,⟨_,k,k,.inl ⟨k,bY.plainO _⟩⟩,k,aU⟩ k (.inr ⟨_,_,k,k,⟨_,_,k,⟨k,k,(by simp only [aG,lA,lT,lR,lC,lN]),k⟩,⟨_,_,k,⟨k,k,(by simp only [aG,lA,lT,lR,lC,lN]),k⟩,⟨_,_,k,k,k⟩⟩⟩⟩) k ⟨k,dY.tamd _ _,⟨k,bY.tamd _ _,aU⟩⟩ k k) k<|am k k ?_;refine ae (bA k k (by intro _ h;cases h)) k<|ae (bA k k (by intro _ h;cases h)) k<|ae (bA k k (by intro _ h;cases h)) k<|aa k k<|aa k k<|aT k2<|sQ<|sR<|am k k<|ae (dS k) k<|an<|tn<|aD (t:=mN [(1,.ptr 0 0 0),(9,.own 1 0 x1.1.length),(10,.own 2 0 x1.2.1.length),(14,.own 8 0 v9.2.length),(15,.own 10 0 v10.1.length),(16,.own 11 0 v10.2.1.length),(47,.own 3 0 ([v2.1,v2.2.1].length)),(48,.int 2),(49,.int x1.2.2),(66,.bl (!v10.2.2))] [(0,⟨6,[eR a0]⟩),(1,⟨6,x1.1.map (ow eR)⟩),(2,⟨1,x1.2.1.map (ow (dH 3 eM))⟩),(3,⟨1,List.map (ow (dH 2 eS)) [v2.1,v2.2.1]⟩),(8,⟨3,v9.2.map (ow eM)⟩),(10,⟨6,v10.1.map (ow eR)⟩),(11,⟨1,v10.2.1.map (ow (dH 3 eM))⟩)] 12 ⟨0,false,none,true⟩) (bU (bJ k2) (bF k<|cA (dY.plainO _) k<|cA (bY.plainO _) k<|cA (bY.plainO _) k<|cA (bK.plainO _) k<|cA (dY.plainO _) k<|cA (bY.plainO _) k<|aU) k4)<|cW k h (λ_ h=>sR<|aa k k<|aa k k<|aT k2<|aE<|aJ<|bN<|aJ<|aJ<|sp h ⟨_,k,k,(bU (bJ k2) aU k4)⟩) λ_ h=>?_;refine aH<|tn<|sR<|am k k<|am k k<|cG h λq12 h=>ae (aNi aO (l:=x1.1) (m:=v10.1) dY q12 k k k k k k k k k k k k k k) k<|aT k2<|sR<|am k k<|ae (dI aO k k k k) k<|am k k<|an<|tn<|aC<|oB h λy17 hy17 h=>bZ (body:=(mV a0 v9 v10)) hy17 (λ(x2:((List (List Mt))×Int))=>mN [(1,.ptr 0 0 0),(9,.own 1 0 ((x1.1++v10.1).length)),(10,.own 2 0 x2.1.length),(14,.own 3 0 v9.2.length),(47,.own 4 0 ([v2.1,v2.2.1].length)),(48,.int 2),(49,.int x1.2.2),(70,.own 5 0 v10.2.1.length),(71,.int ((v10.2.1.length:Nat):Int)),(72,.int x2.2)] [(0,⟨6,[eR a0]⟩),(1,⟨6,List.map (ow eR) (x1.1++v10.1)⟩),(2,⟨1,x2.1.map (ow (dH 3 eM))⟩),(3,⟨3,v9.2.map (ow eM)⟩),(4,⟨1,List.map (ow (dH 2 eS)) [v2.1,v2.2.1]⟩),(5,⟨1,v10.2.1.map (ow (dH 3 eM))⟩)] 6 ⟨0,false,none,true⟩) (λr e t=>e= .exit 2∧Ent t (mN [(1,.ptr 0 0 0),(9,.own 1 0 ((x1.1++v10.1).length)),(10,.own 2 0 r.length),(47,.own 3 0 ([v2.1,v2.2.1].length)),(48,.int 2),(49,.int x1.2.2)] [(0,⟨6,[eR a0]⟩),(1,⟨6,List.map (ow eR) (x1.1++v10.1)⟩),(2,⟨1,r.map (ow (dH 3 eM))⟩),(3,⟨1,List.map (ow (dH 2 eS)) [v2.1,v2.2.1]⟩)] 4 ⟨0,false,none,true⟩)) (gA [0,12,2,8,3,11] (bJ k2) (bF k<|cA (dY.plainO _) k<|cA (bY.plainO _) k<|cA (bK.plainO _) k<|cA (bY.plainO _) k<|cA (bY.plainO _) k<|aU) k4) ?_ ?_
   ·intro x2 o h;refine sR<|cm k4<|an<|tn<|sQ<|cW k h (λ_ h=>?_) λ_ h=>aX<|aB<|aB<|sp h ⟨_,k,k,(gA [0,1,2,4] (bJ k2) (bF k<|cA (dY.plainO _) k<|cA (bY.plainO _) k<|cA (bY.plainO _) k<|aU) k4)⟩;refine aH<|tn<|sQ<|aC<|sR<|oB h λv14 hv14 h=>ae (xo hv14 k) k<|ae (wp hv14 k) k<|aT k2<|rg<|am k k<|fp k8<|lp k8<|am k k<|am k k<|oB h λv15 hv15 h=>ae (cL bK (aHT a0.p v14 v9.2 v15 hv15) k3 (cI k (cI k (aI (qE bK k k) aN)))) k<|ae (wl k) k<|cG h λq16 h=>ae (eW aO (l:=x2.1) (c:=[.own 6 0 v15.length]) q16 k k k k k k k k k k k k k k) k<|aa k k<|an<|aY<|tn<|aD (t:=mN [(1,.ptr 0 0 0),(9,.own 1 0 ((x1.1++v10.1).length)),(10,.own 8 0 ((x2.1++[v15]).length)),(14,.own 3 0 v9.2.length),(47,.own 4 0 ([v2.1,v2.2.1].length)),(48,.int 2),(49,.int x1.2.2),(70,.own 5 0 v10.2.1.length),(71,.int ((v10.2.1.length:Nat):Int)),(72,.int x2.2)] [(0,⟨6,[eR a0]⟩),(1,⟨6,List.map (ow eR) (x1.1++v10.1)⟩),(3,⟨3,v9.2.map (ow eM)⟩),(4,⟨1,List.map (ow (dH 2 eS)) [v2.1,v2.2.1]⟩),(5,⟨1,v10.2.1.map (ow (dH 3 eM))⟩),(8,⟨1,List.map (ow (dH 3 eM)) (x2.1++[v15])⟩)] 9 ⟨0,false,none,true⟩) (Ent.trans (dB (b:=8) (b':=6) (j:=0) (es':=v15.map eM) k k k k (aG _ _) (bK.frzs _)) (bU (jU 2 k2 (fU ⟨_,k,⟨k,k,(by simp only [aG,lA,lT,lR,lC,lN]),k⟩⟩ (bJ k2))) (bF k<|cA (dY.plainO _) k<|cA (bK.plainO _) k<|cA (bY.plainO _) k<|cA (bY.plainO _) k<|hX ⟨_,k,k,.inl ⟨fD v15 k,bY.plainO _⟩⟩ k<|aU) k4))<|rg<|ae (bG k k) k<|am k k<|an ?_;exact tn<|sp h ⟨_,k,(gA [0,1,8,3,4,5] (bJ k2) (bF k<|cA (dY.plainO _) k<|cA (bY.plainO _) k<|cA (bK.plainO _) k<|cA (bY.plainO _) k<|cA (bY.plainO _) k<|aU) k4)⟩
   ·rintro e t ⟨rfl,hent⟩;exact aM<|aY<|tn<|aD hent<|rg<|ae (bG k k) k<|am k k<|an<|tn<|sp h ⟨_,k,(bU (bJ k2) (bF k<|cA (dY.plainO _) k<|cA (bY.plainO _) k<|cA (bY.plainO _) k<|aU) k4)⟩
  ·intro e t hX;rcases y18 with y19|y20
   ·obtain ⟨rfl,hent⟩:=hX;exact aM<|tn<|aD hent<|sR<|am k k<|am k k<|aa k k<|aa k k<|aT k2<|aE<|sp h ⟨mN [(2,.own 0 0 y19.1.length),(3,.own 1 0 y19.2.length),(4,.bl true)] [(0,⟨6,y19.1.map (ow eR)⟩),(1,⟨1,y19.2.map (ow (dH 3 eM))⟩)] 2 ⟨0,false,none,true⟩,(bU (bJ k2) (cA (dY.plainO _) k<|cA (bY.plainO _) k<|aU) k4),k,⟨_,k,.inr ⟨(by simp),k,k⟩⟩,⟨k,k,aU⟩⟩
   ·obtain ⟨rfl,hent⟩:=hX;exact bN<|aJ<|sp h ⟨mN [(2,.own 0 0 ([].length)),(3,.own 1 0 ([].length)),(4,.bl false)] [(0,⟨6,List.map (ow eR) []⟩),(1,⟨1,List.map (ow (dH 3 eM)) []⟩)] 2 ⟨0,false,none,true⟩,(Ent.trans hent (fP (σ:=sg []) (fU ⟨_,k,⟨k,k,k,k⟩⟩ (fU ⟨_,k,⟨k,k,k,k⟩⟩ (bJ k2))) (hX k k<|hX k k<|aU) k)),k,⟨_,k,.inr ⟨(by simp),k,k⟩⟩,⟨k,k,aU⟩⟩
theorem aDR: ∀ (n:Nat) (a0:Rp) (r:((List Rp)×(List (List Mt))×Bool)),iD n a0=some r→HasE Tryz.prog 164 [.agg (eR a0)] [] 0 (.tuple [.own 0 0 r.1.length,.own 1 0 r.2.1.length,.bl r.2.2]) [(0,⟨6,r.1.map (ow eR)⟩),(1,⟨1,r.2.1.map (ow (dH 3 eM))⟩)]
 |0,a0,r,h=>by cases h
 |n+1,a0,r,h=>aGQ (iD n) a0 (aDR n) r h
def zH (a0:Mt) (a1:Mt):Option Mt:=
 (gF a0).bind λv1=>
 (gF a1).bind λv2=>
 bif decide (v1.length+v2.length≤4294967296) then
 ((fC a0.rows (v1++v2)).bind λv4=>
 some (v4))
 else none
theorem aJs (a0:Mt) (a1:Mt) (r:Mt) (h:zH a0 a1=some r):HasC Tryz.prog 166 [.agg (eM a0),.agg (eM a1)] (.agg (eM r)):=by
 exact hM [.cell 4 130] Tryz.func166 Tryz.ntmps166 k<|sR<|ae (wb k) k<|ae (wb k) k<|ae (bX aO k k) k<|an<|tn<|sQ<|aP eP<|fp k8<|lp k8<|lp k8<|oB h λv1 hv1 h=>ae (cL bY (qS a0 v1 hv1) k3 (aI (eD k) aN)) k<|lp k8<|oB h λv2 hv2 h=>ae (cL bY (qS a1 v2 hv2) k3 (aI (eD k) aN)) k<|cG h λq3 h=>ae (aNi aO (l:=v1) (m:=v2) bY q3 k k k k k k k k k k k k k k) k<|oB h λv4 hv4 h=>ae (cM (kT a0.rows (v1++v2) v4 hv4) k3 (cI k (aI (qE bY k k) aN))) k<|ae (ws k) k<|an<|lL (by kernel_rfl)<|tn<|aE<|sp h (bC k k k (gW (aZ (k) (aZ (k) (aZ (cN cU k k) eJ)))))
def mW (v5:((List Rp)×(List (List Mt))×Bool)) (x1:((List Mt)×Int)) (x2:(Int×Int×(List Int)×Int)):Option ((Int×Int×(List Int)×Int) ⊕ (Int×Int×(List Int))):=
 bif decide (x2.2.2.2<((v5.2.1.length:Nat):Int)) then
 ((cP v5.2.1 x2.2.2.2).bind λv11=>
 (cP v11 x1.2).bind λv12=>
 (zH (⟨x2.1,x2.2.1,x2.2.2.1⟩:Mt) v12).bind λv13=>
 some (.inl (v13.rows,v13.cols,v13.cells,wr (x2.2.2.2+1))))
 else
 (some (.inr (x2.1,x2.2.1,x2.2.2.1)))
def mX (a0:Rp) (v5:((List Rp)×(List (List Mt))×Bool)) (x1:((List Mt)×Int)):Option (((List Mt)×Int) ⊕ (List Mt)):=
 bif decide (x1.2<(a0.dims.length:Int)) then
 ((cP a0.dims x1.2).bind λv8=>
 (kG v8 0).bind λv9=>
 (Lp (mW v5 x1) (v9.rows,v9.cols,v9.cells,0)).bind λy14=>
 bif decide (x1.1.length+1≤4294967296) then
 (some (.inl ((x1.1++[(⟨y14.1,y14.2.1,y14.2.2⟩:Mt)]),wr (x1.2+1))))
 else none)
 else
 (some (.inr x1.1))
def xQ (a0:Rp):Option ((List Rp)×(List Mt)×Bool):=
 (aAU a0).bind λv1=>
 bif !v1 then
 (some (([],[],false)))
 else
 ((lZ a0.dims).bind λv3=>
 bif decide (v3=0) then
 (some (([],[],false)))
 else
 ((iD 9 a0).bind λv5=>
 bif !v5.2.2 then
 (some (([],[],false)))
 else
 ((Lp (mX a0 v5) ([],0)).bind λy16=>
 some ((v5.1,y16,true)))))
theorem aJR (a0:Rp) (r:((List Rp)×(List Mt)×Bool)) (h:xQ a0=some r):HasC Tryz.prog 93 [.agg (eR a0)] (.tuple [.list 6 (r.1.map eR),.list 3 (r.2.1.map eM),.bl r.2.2]):=by
 refine hM [.tmp 2,.tmp 3,.tmp 4] Tryz.func93 Tryz.ntmps93 k<|sR<|ae (wb k) k<|aa k k<|aa k k<|aT k2<|sQ<|sR<|lp k8<|oB h λv1 hv1 h=>ae (aS (aLl a0 v1 hv1) k (aI (eD k) aN)) k<|ae (dS k) k<|am k k<|rT h (λq2 h=>aQ 16 k q2<|aK k4<|aK k4<|pk k3<|an<|tn<|dK k k<|sR<|aa k k<|aa k k<|aT k2<|aE<|aJ<|sp h (bC k k k (cJ k (bD (dC (k)) (bD (dC (k)) (bD (k) dW)))))) λq2 h=>?_;refine aQ 16 k q2<|fp k8<|lp k8<|oB h λv3 hv3 h=>ae (aS (aAS a0.dims v3 hv3) k (cI k aN)) k<|cm k4<|pk k3<|an<|tn<|cW k h (λ_ h=>sR<|aa k k<|aa k k<|aT k2<|aE<|aJ<|sp h (bC k k k (cJ k (bD (dC (k)) (bD (dC (k)) (bD (k) dW)))))) λ_ h=>?_;refine aH<|tn<|sR<|lp k8<|oB h λv5 hv5 h=>ae (aBw (σ:=sg []) (σ':=sg [(1,0),(2,1)]) (touch:=[]) (news:=[1,2]) (hl2:=[(1,⟨6,v5.1.map (ow eR)⟩),(2,⟨1,v5.2.1.map (ow (dH 3 eM))⟩)]) (n':=3) (r2:= .tuple [.own 1 0 v5.1.length,.own 2 0 v5.2.1.length,.bl v5.2.2]) (aDR 9 a0 v5 hv5) k k ⟨_,_,k,(.inl ⟨_,_,k,k,⟨_,_,k,k,⟨_,_,k,⟨k,k⟩,⟨_,_,k,⟨k,k⟩,⟨_,_,k,⟨k,k⟩,⟨_,_,k,⟨k,k⟩,k⟩⟩⟩⟩⟩⟩),k⟩ aU k k k ⟨⟨_,k,k,.inl ⟨k,dY.plainO _⟩⟩,k,⟨_,k,k,.inl ⟨k,bY.plainO _⟩⟩,k,aU⟩ k (.inr ⟨_,_,k,k,⟨_,_,k,⟨k,k,(by simp only [aG,lA,lT,lR,lC,lN]),k⟩,⟨_,_,k,⟨k,k,(by simp only [aG,lA,lT,lR,lC,lN]),k⟩,⟨_,_,k,k,k⟩⟩⟩⟩) k ⟨k,dY.tamd _ _,⟨k,bY.tamd _ _,aU⟩⟩ k k) k<|am k k<|ae (bA k k (by intro _ h;cases h)) k<|ae (bA k k (by intro _ h;cases h)) k<|ae (bA k k (by intro _ h;cases h)) k<|aa k k<|aa k k<|aT k2<|sQ<|sR<|am k k<|ae (dS k) k<|an<|tn<|aD (t:=mN [(1,.ptr 0 0 0),(5,.own 1 0 v5.1.length),(6,.own 2 0 v5.2.1.length),(29,.bl (!v5.2.2))] [(0,⟨6,[eR a0]⟩),(1,⟨6,v5.1.map (ow eR)⟩),(2,⟨1,v5.2.1.map (ow (dH 3 eM))⟩)] 3) (bU (bJ k2) (bF k<|cA (dY.plainO _) k<|cA (bY.plainO _) k<|aU) k4)<|cW k h (λ_ h=>sR<|aa k k<|aa k k<|aT k2<|aE<|aJ<|sp h (bC k k k (cJ k (bD (dC (k)) (bD (dC (k)) (bD (k) dW)))))) λ_ h=>?_;refine aH<|tn<|sR<|aT k2<|sQ<|sR<|fp k8<|lp k8<|ln k4<|am k k<|an<|tn<|aC<|oB h λy16 hy16 h=>bZ (body:=(mX a0 v5)) hy16 (λ(x1:((List Mt)×Int))=>mN [(1,.ptr 0 0 0),(5,.own 1 0 v5.1.length),(6,.own 2 0 v5.2.1.length),(8,.own 3 0 x1.1.length),(32,.int (a0.dims.length:Int)),(33,.int x1.2)] [(0,⟨6,[eR a0]⟩),(1,⟨6,v5.1.map (ow eR)⟩),(2,⟨1,v5.2.1.map (ow (dH 3 eM))⟩),(3,⟨3,x1.1.map (ow eM)⟩)] 4) (λr e t=>e= .exit 0∧Ent t (mN [(5,.own 0 0 v5.1.length),(8,.own 1 0 r.length)] [(0,⟨6,v5.1.map (ow eR)⟩),(1,⟨3,r.map (ow eM)⟩)] 2)) (fP (σ:=sg [(0,0),(1,1),(2,2)]) (jU 3 k2 (fU ⟨_,k,⟨k,k,k,k⟩⟩ (bJ k2))) (bF k<|cA (dY.plainO _) k<|cA (bY.plainO _) k<|hX k k<|aU) k) ?_ ?_
 ·intro x1 o h;refine sR<|cm k4<|an<|tn<|sQ<|cW k h (λ_ h=>?_) λ_ h=>aX<|aB<|aB<|sp h ⟨_,k,k,(gA [1,3] (bJ k2) (cA (dY.plainO _) k<|cA (bK.plainO _) k<|aU) k4)⟩;refine aH<|tn<|sQ<|aC<|sR<|am k k<|aT k2<|sR<|fp k8<|lp k8<|am k k<|oB h λv8 hv8 h=>ae (xl hv8 k) k<|lr k7<|oB h λv9 hv9 h=>ae (cM (rY v8 0 v9 hv9) k3 (cI k (cI k aN))) k<|ae (bX aO k k) k<|ae (ws k) k<|an<|tn<|sQ<|sR<|am k k<|ae (dI aO k k k k) k<|am k k<|an ?_;refine tn<|aC<|oB h λy14 hy14 h=>bZ (body:=(mW v5 x1)) hy14 (λ(x2:(Int×Int×(List Int)×Int))=>mN [(1,.ptr 0 0 0),(5,.own 1 0 v5.1.length),(6,.own 2 0 v5.2.1.length),(8,.own 3 0 x1.1.length),(9,.int x1.2),(10,.ptr 4 0 0),(32,.int (a0.dims.length:Int)),(33,.int x1.2),(42,.own 2 0 v5.2.1.length),(43,.int ((v5.2.1.length:Nat):Int)),(44,.int x2.2.2.2)] [(0,⟨6,[eR a0]⟩),(1,⟨6,v5.1.map (ow eR)⟩),(2,⟨1,v5.2.1.map (ow (dH 3 eM))⟩),(3,⟨3,x1.1.map (ow eM)⟩),(4,⟨3,[[.int x2.1,.int x2.2.1,.own 5 0 x2.2.2.1.length]]⟩),(5,⟨1,x2.2.2.1.map (ow eI)⟩)] 6) (λr e t=>e= .exit 2∧Ent t (mN [(1,.ptr 0 0 0),(5,.own 1 0 v5.1.length),(6,.own 2 0 v5.2.1.length),(8,.own 3 0 x1.1.length),(10,.ptr 4 0 0),(32,.int (a0.dims.length:Int)),(33,.int x1.2)] [(0,⟨6,[eR a0]⟩),(1,⟨6,v5.1.map (ow eR)⟩),(2,⟨1,v5.2.1.map (ow (dH 3 eM))⟩),(3,⟨3,x1.1.map (ow eM)⟩),(4,⟨3,[[.int r.1,.int r.2.1,.own 5 0 r.2.2.length]]⟩),(5,⟨1,r.2.2.map (ow eI)⟩)] 6)) (gA [0,1,2,3,5,4] (bJ k2) (bF k<|cA (dY.plainO _) k<|cA (bY.plainO _) k<|cA (bK.plainO _) k<|eC k<|bO k<|aU) k4) ?_ ?_
  ·intro x2 o h;exact sR<|cm k4<|an<|tn<|sQ<|cW k h (λ_ h=>aH<|tn<|sQ<|aC<|sR<|oB h λv11 hv11 h=>ae (xo hv11 k) k<|ae (wp hv11 k) k<|aT k2<|aP eP<|lp k8<|am k k<|am k k<|oB h λv12 hv12 h=>ae (xl hv12 k) k<|lr k7<|oB h λv13 hv13 h=>ae (cM (aJs (⟨x2.1,x2.2.1,x2.2.2.1⟩:Mt) v12 v13 hv13) k3 (aI (vaM k2) (aI (eD k) aN))) k<|ae (ws k) k<|an<|lL (by kernel_rfl)<|aY<|tn<|rg<|ae (bG k k) k<|am k k<|an<|tn<|sp h ⟨_,k,(gA [0,1,2,3,4,6] (bJ k2) (bF k<|cA (dY.plainO _) k<|cA (bY.plainO _) k<|cA (bK.plainO _) k<|eC k<|bO k<|aU) k4)⟩) λ_ h=>aX<|aB<|aB<|sp h ⟨_,k,k,(bU (bJ k2) (bF k<|cA (dY.plainO _) k<|cA (bY.plainO _) k<|cA (bK.plainO _) k<|eC k<|bO k<|aU) k4)⟩
  ·rintro e t ⟨rfl,hent⟩;exact aM<|tn<|aD hent<|rg<|am k k<|lp k8<|ae (wl k) k<|cG h λq15 h=>ae (eW aO (l:=x1.1) (c:=[.int y14.1,.int y14.2.1,.own 5 0 y14.2.2.length]) q15 k k k k k k k k k k k k k k) k<|aa k k<|an<|aY<|tn<|aD (t:=mN [(1,.ptr 0 0 0),(5,.own 1 0 v5.1.length),(6,.own 2 0 v5.2.1.length),(8,.own 7 0 ((x1.1++[(⟨y14.1,y14.2.1,y14.2.2⟩:Mt)]).length)),(32,.int (a0.dims.length:Int)),(33,.int x1.2)] [(0,⟨6,[eR a0]⟩),(1,⟨6,v5.1.map (ow eR)⟩),(2,⟨1,v5.2.1.map (ow (dH 3 eM))⟩),(7,⟨3,List.map (ow eM) (x1.1++[(⟨y14.1,y14.2.1,y14.2.2⟩:Mt)])⟩)] 8) (Ent.trans (dB (b:=7) (b':=5) (j:=2) (es':=y14.2.2.map eI) k k k k (aG _ _) (cU.frzs _)) (bU (jU 3 k2 (fU ⟨_,k,⟨k,k,(by simp only [aG,lA,lT,lR,lC,lN]),k⟩⟩ (bJ k2))) (bF k<|cA (dY.plainO _) k<|cA (bY.plainO _) k<|hX ⟨_,k,k,.inl ⟨fD (⟨y14.1,y14.2.1,y14.2.2⟩:Mt) k,bK.plainO _⟩⟩ k<|aU) k4))<|rg<|ae (bG k k) k<|am k k<|an<|tn<|sp h ⟨_,k,(gA [0,1,2,7] (bJ k2) (bF k<|cA (dY.plainO _) k<|cA (bY.plainO _) k<|cA (bK.plainO _) k<|aU) k4)⟩
 ·rintro e t ⟨rfl,hent⟩;exact aM<|tn<|aD hent<|sR<|am k k<|am k k<|aa k k<|aa k k<|aT k2<|aE<|sp h (bC k k k (cJ k (bD (dC (cN dY k k)) (bD (dC (cN bK k k)) (bD (k) dW)))))
def rN (a0:Int) (a1:Mt) (a2:Int) (x1:(Int×Int×(List Int)×Int)):Option ((Int×Int×(List Int)×Int) ⊕ (Int×Int×(List Int))):=
 bif decide (x1.2.2.2<a2) then
 ((fL a0 (⟨x1.1,x1.2.1,x1.2.2.1⟩:Mt) a1).bind λv3=>
 some (.inl (v3.rows,v3.cols,v3.cells,wr (x1.2.2.2+1))))
 else
 (some (.inr (x1.1,x1.2.1,x1.2.2.1)))
def sH (a0:Int) (a1:Mt) (a2:Int):Option Mt:=
 (mB a1.rows).bind λv1=>
 (Lp (rN a0 a1 a2) (v1.rows,v1.cols,v1.cells,0)).bind λy4=>
 some ((⟨y4.1,y4.2.1,y4.2.2⟩:Mt))
theorem aJS (a0:Int) (a1:Mt) (a2:Int) (r:Mt) (h:sH a0 a1 a2=some r):HasC Tryz.prog 340 [.int a0,.agg (eM a1),.int a2] (.agg (eM r)):=by
 refine hM [.cell 6 130] Tryz.func340 Tryz.ntmps340 k<|sR<|ae (wb k) k<|ae (bX aO k k) k<|an<|tn<|sR<|fp k8<|lp k8<|oB h λv1 hv1 h=>ae (cM (aBI a1.rows v1 hv1) k3 (cI k aN)) k<|ae (bX aO k k) k<|ae (ws k) k<|an<|tn<|sQ<|sR<|aT k2<|aC<|oB h λy4 hy4 h=>bZ (body:=(rN a0 a1 a2)) hy4 (λ(x1:(Int×Int×(List Int)×Int))=>mN [(0,.int a0),(2,.int a2),(4,.ptr 0 0 0),(6,.ptr 1 0 0),(7,.ptr 2 0 0),(8,.int x1.2.2.2)] [(0,⟨3,[eM a1]⟩),(1,⟨3,[fJ]⟩),(2,⟨3,[[.int x1.1,.int x1.2.1,.own 3 0 x1.2.2.1.length]]⟩),(3,⟨1,x1.2.2.1.map (ow eI)⟩)] 4) (λr e t=>e= .exit 0∧Ent t (mN [(6,.ptr 0 0 0),(7,.ptr 1 0 0)] [(0,⟨3,[fJ]⟩),(1,⟨3,[[.int r.1,.int r.2.1,.own 2 0 r.2.2.length]]⟩),(2,⟨1,r.2.2.map (ow eI)⟩)] 3)) (gA [0,1,3,2] (bJ k2) (bF k<|bF k<|eC k<|bO k<|aU) k4) ?_ ?_
 ·intro x1 o h;exact sQ<|sR<|am k k<|am k k<|cm k4<|an<|tn<|cW k h (λ_ h=>aH<|tn<|sQ<|aC<|rg<|am k k<|lp k8<|lp k8<|oB h λv3 hv3 h=>ae (cM (jH a0 (⟨x1.1,x1.2.1,x1.2.2.1⟩:Mt) a1 v3 hv3) k3 (cI k (aI (vaM k2) (aI (eD k) aN)))) k<|ae (ws k) k<|an<|aY<|tn<|rg<|am k k<|ae (bG k k) k<|aT k2<|sp h ⟨_,k,(gA [0,1,2,4] (bJ k2) (bF k<|bF k<|eC k<|bO k<|aU) k4)⟩) λ_ h=>aX<|aB<|aB<|sp h ⟨_,k,k,(gA [1,2,3] (bJ k2) (bF k<|eC k<|bO k<|aU) k4)⟩
 ·rintro e t ⟨rfl,hent⟩;exact aM<|tn<|aD hent<|sR<|lp k8<|ae (ws k) k<|an<|tn<|aE<|sp h (bC k k k (gW (aZ (k) (aZ (k) (aZ (cN cU k k) eJ)))))
def qA (a0:Rp) (a1:(List Mt)) (x1:((List Mt)×Int)):Option (((List Mt)×Int) ⊕ (List Mt)):=
 bif decide (x1.2<(a1.length:Int)) then
 ((cP a1 x1.2).bind λv2=>
 (sH a0.p v2 8).bind λv3=>
 bif decide (x1.1.length+1≤4294967296) then
 (some (.inl ((x1.1++[v3]),wr (x1.2+1))))
 else none)
 else
 (some (.inr x1.1))
def wG (a0:Rp) (a1:(List Mt)):Option (List Mt):=
 (Lp (qA a0 a1) (([]:(List Mt)),0)).bind λy5=>
 some (y5)
theorem aHU (a0:Rp) (a1:(List Mt)) (r:(List Mt)) (h:wG a0 a1=some r):HasC Tryz.prog 315 [.agg (eR a0),.list 3 (a1.map eM)] (.list 3 (r.map eM)):=by
 refine hM [.tmp 4] Tryz.func315 Tryz.ntmps315 k<|sR<|ae (wb k) k<|aT k2<|sR<|ae (wl k) k<|aT k2<|aD (t:=mN [(1,.list 3 (a1.map eM)),(2,.ptr 0 0 0),(5,.own 1 0 (([]:(List Mt)).length))] [(0,⟨6,[eR a0]⟩),(1,⟨3,List.map (ow eM) ([]:(List Mt))⟩)] 2) (bU (jU 2 k2 (fU ⟨_,k,⟨k,k,(by simp only [aG,lA,lT,lR,lC,lN]),k⟩⟩ aU)) (bF k<|cA (bK.plainO _) k<|aU) k4)<|sQ<|sR<|aT k2<|aC<|oB h λy5 hy5 h=>bZ (body:=(qA a0 a1)) hy5 (λ(x1:((List Mt)×Int))=>mN [(1,.list 3 (a1.map eM)),(2,.ptr 0 0 0),(5,.own 1 0 x1.1.length),(6,.int x1.2)] [(0,⟨6,[eR a0]⟩),(1,⟨3,x1.1.map (ow eM)⟩)] 2) (λr e t=>e= .exit 0∧Ent t (mN [(5,.own 0 0 r.length)] [(0,⟨3,r.map (ow eM)⟩)] 1)) (bU (bJ k2) (bF k<|cA (bK.plainO _) k<|aU) k4) ?_ ?_
 ·intro x1 o h;exact sQ<|sR<|am k k<|am k k<|ln k4<|cm k4<|an<|tn<|cW k h (λ_ h=>aH<|tn<|sQ<|aC<|aP eP<|am k k<|fp k8<|lp k8<|am k k<|am k k<|oB h λv2 hv2 h=>ae (xl hv2 k) k<|lr k7<|oB h λv3 hv3 h=>ae (cM (aJS a0.p v2 8 v3 hv3) k3 (cI k (aI (eD k) (cI k aN)))) k<|ae (wl k) k<|cG h λq4 h=>ae (eW aO (l:=x1.1) (c:=[.int v3.rows,.int v3.cols,.own 2 0 v3.cells.length]) q4 k k k k k k k k k k k k k k) k<|aa k k<|an<|lL (by kernel_rfl)<|aY<|tn<|aD (t:=mN [(1,.list 3 (a1.map eM)),(2,.ptr 0 0 0),(5,.own 4 0 ((x1.1++[v3]).length)),(6,.int x1.2)] [(0,⟨6,[eR a0]⟩),(4,⟨3,List.map (ow eM) (x1.1++[v3])⟩)] 5) (Ent.trans (dB (b:=4) (b':=2) (j:=2) (es':=v3.cells.map eI) k k k k (aG _ _) (cU.frzs _)) (bU (jU 2 k2 (fU ⟨_,k,⟨k,k,(by simp only [aG,lA,lT,lR,lC,lN]),k⟩⟩ (bJ k2))) (bF k<|hX ⟨_,k,k,.inl ⟨fD v3 k,bK.plainO _⟩⟩ k<|aU) k4))<|rg<|am k k<|ae (bG k k) k<|aT k2<|sp h ⟨_,k,(gA [0,4] (bJ k2) (bF k<|cA (bK.plainO _) k<|aU) k4)⟩) λ_ h=>aX<|aB<|aB<|sp h ⟨_,k,k,(gA [1] (bJ k2) (cA (bK.plainO _) k<|aU) k4)⟩
 ·rintro e t ⟨rfl,hent⟩;exact aM<|tn<|aD hent<|sR<|am k k<|aT k2<|aE<|sp h (bC k k k (eV (cN bK k k)))
def wN (a0:Sc) (a1:Sc):Option Bool:=
 bif decide (a0.size=a1.size) then
 ((uY a0.basis a1.basis).bind λv2=>
 some (v2))
 else
 (some (false))
theorem aEl (a0:Sc) (a1:Sc) (r:Bool) (h:wN a0 a1=some r):HasC Tryz.prog 341 [.agg (eS a0),.agg (eS a1)] (.bl r):=by
 exact hM [.tmp 4] Tryz.func341 Tryz.ntmps341 k<|sR<|ae (wb k) k<|ae (wb k) k<|aT k2<|sR<|fp k8<|lp k8<|fp k8<|lp k8<|cm k4<|am k k<|rT h (λq1 h=>aQ 10 k q1<|fp k8<|lp k8<|fp k8<|lp k8<|oB h λv2 hv2 h=>ae (aS (aEE a0.basis a1.basis v2 hv2) k (cI k (cI k aN))) k<|pk k3<|aT k2<|aE<|iZ h k2) λq1 h=>aQ 10 k q1<|aK k4<|aK k4<|ak k k<|pk k3<|aT k2<|aE<|iZ h k2
def rO (a0:Rp) (x1:((List Sc)×Int)):Option (((List Sc)×Int) ⊕ (List Sc)):=
 bif decide (x1.2<(a0.dims.length:Int)) then
 ((cP a0.dims x1.2).bind λv2=>
 bif decide (x1.1.length+1≤4294967296) then
 (some (.inl ((x1.1++[(⟨v2,([]:(List (List Int)))⟩:Sc)]),wr (x1.2+1))))
 else none)
 else
 (some (.inr x1.1))
def sI (a0:Rp):Option (List Sc):=
 (Lp (rO a0) (([]:(List Sc)),0)).bind λy4=>
 some (y4)
theorem aDS (a0:Rp) (r:(List Sc)) (h:sI a0=some r):HasC Tryz.prog 195 [.agg (eR a0)] (.list 2 (r.map eS)):=by
 refine hM [.tmp 2] Tryz.func195 Tryz.ntmps195 k<|sR<|ae (wb k) k<|aT k2<|sR<|ae (wl k) k<|aT k2<|aD (t:=mN [(1,.ptr 0 0 0),(3,.own 1 0 (([]:(List Sc)).length))] [(0,⟨6,[eR a0]⟩),(1,⟨2,List.map (ow eS) ([]:(List Sc))⟩)] 2) (bU (jU 1 k2 (fU ⟨_,k,⟨k,k,(by simp only [aG,lA,lT,lR,lC,lN]),k⟩⟩ aU)) (bF k<|cA (dJ.plainO _) k<|aU) k4)<|sQ<|sR<|aT k2<|aC<|oB h λy4 hy4 h=>bZ (body:=(rO a0)) hy4 (λ(x1:((List Sc)×Int))=>mN [(1,.ptr 0 0 0),(3,.own 1 0 x1.1.length),(4,.int x1.2)] [(0,⟨6,[eR a0]⟩),(1,⟨2,x1.1.map (ow eS)⟩)] 2) (λr e t=>e= .exit 0∧Ent t (mN [(3,.own 0 0 r.length)] [(0,⟨2,r.map (ow eS)⟩)] 1)) (bU (bJ k2) (bF k<|cA (dJ.plainO _) k<|aU) k4) ?_ ?_
 ·intro x1 o h;exact sQ<|sR<|am k k<|fp k8<|lp k8<|ln k4<|cm k4<|an<|tn<|cW k h (λ_ h=>aH<|tn<|sQ<|aC<|rg<|am k k<|fp k8<|lp k8<|am k k<|oB h λv2 hv2 h=>ae (xl hv2 k) k<|lr k7<|ae (wl k) k<|ae (gC aO k k k k k k) k<|ae (wl k) k<|cG h λq3 h=>ae (eW aO (l:=x1.1) (c:=[.int v2,.own 2 0 0]) q3 k k k k k k k k k k k k k k) k<|aa k k<|an<|aY<|tn<|aD (t:=mN [(1,.ptr 0 0 0),(3,.own 4 0 ((x1.1++[(⟨v2,([]:(List (List Int)))⟩:Sc)]).length)),(4,.int x1.2)] [(0,⟨6,[eR a0]⟩),(4,⟨2,List.map (ow eS) (x1.1++[(⟨v2,([]:(List (List Int)))⟩:Sc)])⟩)] 5) (Ent.trans (dB (b:=4) (b':=2) (j:=1) (es':=List.map (dH 1 eI) ([]:(List (List Int)))) k k k k k (bY.frzs ([]:(List (List Int))))) (bU (jU 1 k2 (fU ⟨_,k,⟨k,k,(by simp only [aG,lA,lT,lR,lC,lN]),k⟩⟩ (bJ k2))) (bF k<|hX ⟨_,k,k,.inl ⟨fD (⟨v2,([]:(List (List Int)))⟩:Sc) k,dJ.plainO _⟩⟩ k<|aU) k4))<|rg<|am k k<|ae (bG k k) k<|aT k2<|sp h ⟨_,k,(gA [0,4] (bJ k2) (bF k<|cA (dJ.plainO _) k<|aU) k4)⟩) λ_ h=>aX<|aB<|aB<|sp h ⟨_,k,k,(gA [1] (bJ k2) (cA (dJ.plainO _) k<|aU) k4)⟩
 ·rintro e t ⟨rfl,hent⟩;exact aM<|tn<|aD hent<|sR<|am k k<|aT k2<|aE<|sp h (bC k k k (eV (cN dJ k k)))
def nX (a0:(List Sc)) (a1:(List Sc)) (x1:Int):Option (Int ⊕ (Unit ⊕ Bool)):=
 bif decide (x1<(a0.length:Int)) then
 ((cP a0 x1).bind λv3=>
 (cP a1 x1).bind λv4=>
 (wN v3 v4).bind λv5=>
 bif !v5 then
 (some (.inr (.inr (false))))
 else
 (some (.inl (wr (x1+1)))))
 else
 (some (.inr (.inl ())))
def oX (a0:(List Sc)) (a1:(List Sc)):Option Bool:=
 bif !decide ((a0.length:Int)=(a1.length:Int)) then
 (some (false))
 else
 ((Lp (nX a0 a1) 0).bind λy7=>
 Sum.elim (λy8=>
 some (true)
 )
 (λy9=>
 some y9
 )
 y7)
theorem aBz (a0:(List Sc)) (a1:(List Sc)) (r:Bool) (h:oX a0 a1=some r):HasC Tryz.prog 318 [.list 2 (a0.map eS),.list 2 (a1.map eS)] (.bl r):=by
 refine hM [.tmp 4] Tryz.func318 Tryz.ntmps318 k<|sR<|aT k2<|sQ<|sR<|am k k<|ln k4<|am k k<|ln k4<|cm k4<|an<|tn<|cW k h (λ_ h=>sR<|aT k2<|aE<|aJ<|iZ h k2) λ_ h=>?_;refine aH<|tn<|sQ<|sR<|aT k2<|aC<|oB h λy7 hy7 h=>bZ (body:=(nX a0 a1)) hy7 (λ(x1:Int)=>mN [(0,.list 2 (a0.map eS)),(1,.list 2 (a1.map eS)),(5,.int x1)] [] 0) (λr e t=>Sum.elim (λa=>(λr e t=>e= .exit 0∧Ent t (mN [] [] 0)) a e t) (λb=>(λr e t=>e= .ret∧uK TT [.tmp 4] (.bl r) .ret t) b e t) r) (bU (bJ k2) aU k4) ?_ ?_
 ·intro x1 o h;exact sQ<|sR<|am k k<|am k k<|ln k4<|cm k4<|an<|tn<|cW k h (λ_ h=>aH<|tn<|sQ<|aC<|sQ<|aP eP<|am k k<|am k k<|oB h λv3 hv3 h=>ae (xl hv3 k) k<|lr k7<|am k k<|am k k<|oB h λv4 hv4 h=>ae (xl hv4 k) k<|lr k7<|oB h λv5 hv5 h=>ae (aS (aEl v3 v4 v5 hv5) k (aI (eD k) (aI (eD k) aN))) k<|ae (dS k) k<|an<|lL (by kernel_rfl)<|tn<|cW k h (λ_ h=>sR<|aT k2<|aE<|bN<|aJ<|aJ<|sp h ⟨_,k,k,bC k k k (nH k)⟩) λ_ h=>aH<|aY<|tn<|rg<|am k k<|ae (bG k k) k<|aT k2<|sp h ⟨_,k,(bU (bJ k2) aU k4)⟩) λ_ h=>aX<|aB<|aB<|sp h ⟨_,k,k,(bU aU aU k4)⟩
 ·intro e t hX;rcases y7 with y8|y9
  ·obtain ⟨rfl,hent⟩:=hX;exact aM<|tn<|aD hent<|sR<|aT k2<|aE<|iZ h k2
  ·obtain ⟨rfl,hent⟩:=hX;exact bN<|aJ<|sp h hent
def nY (a0:Rp) (a2:(List Mt)) (x1:((List Sc)×Int)):Option (((List Sc)×Int) ⊕ (List Sc)):=
 bif decide (x1.2<(a2.length:Int)) then
 ((cP a0.dims x1.2).bind λv4=>
 (cP a2 x1.2).bind λv5=>
 (qH a0.p v5).bind λv6=>
 (nD a0.p v4 v6).bind λv7=>
 bif decide (x1.1.length+1≤4294967296) then
 (some (.inl ((x1.1++[v7]),wr (x1.2+1))))
 else none)
 else
 (some (.inr x1.1))
def tY (a0:Rp) (a1:Rp) (a2:(List Mt)):Option ((List Sc)×Bool):=
 (eY a0 a1 a2).bind λv1=>
 bif !v1 then
 (some ((([]:(List Sc)),false)))
 else
 ((Lp (nY a0 a2) (([]:(List Sc)),0)).bind λy9=>
 some ((y9,true)))
theorem aGR (a0:Rp) (a1:Rp) (a2:(List Mt)) (r:((List Sc)×Bool)) (h:tY a0 a1 a2=some r):HasC Tryz.prog 316 [.agg (eR a0),.agg (eR a1),.list 3 (a2.map eM)] (.tuple [.list 2 (r.1.map eS),.bl r.2]):=by
 refine hM [.tmp 6,.tmp 7] Tryz.func316 Tryz.ntmps316 k<|sR<|ae (wb k) k<|ae (wb k) k<|aa k k<|aT k2<|sR<|ae (wl k) k<|aT k2<|aD (t:=mN [(2,.list 3 (a2.map eM)),(3,.ptr 0 0 0),(4,.ptr 1 0 0),(8,.own 2 0 (([]:(List Sc)).length))] [(0,⟨6,[eR a0]⟩),(1,⟨6,[eR a1]⟩),(2,⟨2,List.map (ow eS) ([]:(List Sc))⟩)] 3) (bU (jU 3 k2 (fU ⟨_,k,⟨k,k,(by simp only [aG,lA,lT,lR,lC,lN]),k⟩⟩ aU)) (bF k<|bF k<|cA (dJ.plainO _) k<|aU) k4)<|sQ<|sR<|lp k8<|lp k8<|am k k<|oB h λv1 hv1 h=>ae (aS (mS a0 a1 a2 v1 hv1) k (aI (eD k) (aI (eD k) (cI k aN)))) k<|ae (dS k) k<|an<|tn<|cW k h (λ_ h=>sR<|am k k<|aa k k<|aT k2<|aE<|aJ<|sp h (bC k k k (cJ k (bD (dC (cN dJ k k)) (bD (k) dW))))) λ_ h=>?_;refine aH<|tn<|sQ<|sR<|aT k2<|aC<|oB h λy9 hy9 h=>bZ (body:=(nY a0 a2)) hy9 (λ(x1:((List Sc)×Int))=>mN [(2,.list 3 (a2.map eM)),(3,.ptr 0 0 0),(8,.own 1 0 x1.1.length),(9,.int x1.2)] [(0,⟨6,[eR a0]⟩),(1,⟨2,x1.1.map (ow eS)⟩)] 2) (λr e t=>e= .exit 0∧Ent t (mN [(8,.own 0 0 r.length)] [(0,⟨2,r.map (ow eS)⟩)] 1)) (gA [0,2] (bJ k2) (bF k<|cA (dJ.plainO _) k<|aU) k4) ?_ ?_
 ·intro x1 o h;refine sQ<|sR<|am k k<|am k k<|ln k4<|cm k4<|an<|tn<|cW k h (λ_ h=>?_) λ_ h=>aX<|aB<|aB<|sp h ⟨_,k,k,(gA [1] (bJ k2) (cA (dJ.plainO _) k<|aU) k4)⟩;refine aH<|tn<|sQ<|aC<|aP eP<|am k k<|fp k8<|lp k8<|fp k8<|lp k8<|am k k<|oB h λv4 hv4 h=>ae (xl hv4 k) k<|lr k7<|fp k8<|lp k8<|am k k<|am k k<|oB h λv5 hv5 h=>ae (xl hv5 k) k<|lr k7<|oB h λv6 hv6 h=>ae (cL bY (aCh a0.p v5 v6 hv6) k3 (cI k (aI (eD k) aN))) k<|oB h λv7 hv7 h=>ae (cS (yY a0.p v4 v6 v7 hv7) k3 (cI k (cI k (aI (qE bY k k) aN)))) k<|ae (wl k) k<|cG h λq8 h=>ae (eW aO (l:=x1.1) (c:=[.int v7.size,.own 3 0 v7.basis.length]) q8 k k k k k k k k k k k k k k) k<|aa k k<|an<|lL (by kernel_rfl)<|aY<|tn<|aD (t:=mN [(2,.list 3 (a2.map eM)),(3,.ptr 0 0 0),(8,.own 5 0 ((x1.1++[v7]).length)),(9,.int x1.2)] [(0,⟨6,[eR a0]⟩),(5,⟨2,List.map (ow eS) (x1.1++[v7])⟩)] 6) (Ent.trans (dB (b:=5) (b':=3) (j:=1) (es':=v7.basis.map (dH 1 eI)) k k k k (aG _ _) (bY.frzs _)) (bU (jU 2 k2 (fU ⟨_,k,⟨k,k,(by simp only [aG,lA,lT,lR,lC,lN]),k⟩⟩ (bJ k2))) (bF k<|hX ⟨_,k,k,.inl ⟨fD v7 k,dJ.plainO _⟩⟩ k<|aU) k4)) ?_;exact rg<|am k k<|ae (bG k k) k<|aT k2<|sp h ⟨_,k,(gA [0,5] (bJ k2) (bF k<|cA (dJ.plainO _) k<|aU) k4)⟩
 ·rintro e t ⟨rfl,hent⟩;exact aM<|tn<|aD hent<|sR<|am k k<|aa k k<|aT k2<|aE<|sp h (bC k k k (cJ k (bD (dC (cN dJ k k)) (bD (k) dW))))
def qB (a0:Rp) (a1:Rp) (a2:(List Mt)) (x1:((List Sc)×Int)):Option (((List Sc)×Int) ⊕ (List Sc)):=
 bif decide (x1.2<(a2.length:Int)) then
 ((cP a1.dims x1.2).bind λv4=>
 (cP a2 x1.2).bind λv5=>
 (xI a0.p v5).bind λv6=>
 (nD a0.p v4 v6).bind λv7=>
 bif decide (x1.1.length+1≤4294967296) then
 (some (.inl ((x1.1++[v7]),wr (x1.2+1))))
 else none)
 else
 (some (.inr x1.1))
def wH (a0:Rp) (a1:Rp) (a2:(List Mt)):Option ((List Sc)×Bool):=
 (eY a0 a1 a2).bind λv1=>
 bif !v1 then
 (some ((([]:(List Sc)),false)))
 else
 ((Lp (qB a0 a1 a2) (([]:(List Sc)),0)).bind λy9=>
 some ((y9,true)))
theorem aHV (a0:Rp) (a1:Rp) (a2:(List Mt)) (r:((List Sc)×Bool)) (h:wH a0 a1 a2=some r):HasC Tryz.prog 317 [.agg (eR a0),.agg (eR a1),.list 3 (a2.map eM)] (.tuple [.list 2 (r.1.map eS),.bl r.2]):=by
 refine hM [.tmp 6,.tmp 7] Tryz.func317 Tryz.ntmps317 k<|sR<|ae (wb k) k<|ae (wb k) k<|aa k k<|aT k2<|sR<|ae (wl k) k<|aT k2<|aD (t:=mN [(2,.list 3 (a2.map eM)),(3,.ptr 0 0 0),(4,.ptr 1 0 0),(8,.own 2 0 (([]:(List Sc)).length))] [(0,⟨6,[eR a0]⟩),(1,⟨6,[eR a1]⟩),(2,⟨2,List.map (ow eS) ([]:(List Sc))⟩)] 3) (bU (jU 3 k2 (fU ⟨_,k,⟨k,k,(by simp only [aG,lA,lT,lR,lC,lN]),k⟩⟩ aU)) (bF k<|bF k<|cA (dJ.plainO _) k<|aU) k4)<|sQ<|sR<|lp k8<|lp k8<|am k k<|oB h λv1 hv1 h=>ae (aS (mS a0 a1 a2 v1 hv1) k (aI (eD k) (aI (eD k) (cI k aN)))) k<|ae (dS k) k<|an<|tn<|cW k h (λ_ h=>sR<|am k k<|aa k k<|aT k2<|aE<|aJ<|sp h (bC k k k (cJ k (bD (dC (cN dJ k k)) (bD (k) dW))))) λ_ h=>?_;refine aH<|tn<|sQ<|sR<|aT k2<|aC<|oB h λy9 hy9 h=>bZ (body:=(qB a0 a1 a2)) hy9 (λ(x1:((List Sc)×Int))=>mN [(2,.list 3 (a2.map eM)),(3,.ptr 0 0 0),(4,.ptr 1 0 0),(8,.own 2 0 x1.1.length),(9,.int x1.2)] [(0,⟨6,[eR a0]⟩),(1,⟨6,[eR a1]⟩),(2,⟨2,x1.1.map (ow eS)⟩)] 3) (λr e t=>e= .exit 0∧Ent t (mN [(8,.own 0 0 r.length)] [(0,⟨2,r.map (ow eS)⟩)] 1)) (bU (bJ k2) (bF k<|bF k<|cA (dJ.plainO _) k<|aU) k4) ?_ ?_
 ·intro x1 o h;refine sQ<|sR<|am k k<|am k k<|ln k4<|cm k4<|an<|tn<|cW k h (λ_ h=>?_) λ_ h=>aX<|aB<|aB<|sp h ⟨_,k,k,(gA [2] (bJ k2) (cA (dJ.plainO _) k<|aU) k4)⟩;refine aH<|tn<|sQ<|aC<|aP eP<|am k k<|fp k8<|lp k8<|fp k8<|lp k8<|am k k<|oB h λv4 hv4 h=>ae (xl hv4 k) k<|lr k7<|fp k8<|lp k8<|am k k<|am k k<|oB h λv5 hv5 h=>ae (xl hv5 k) k<|lr k7<|oB h λv6 hv6 h=>ae (cL bY (aIy a0.p v5 v6 hv6) k3 (cI k (aI (eD k) aN))) k<|oB h λv7 hv7 h=>ae (cS (yY a0.p v4 v6 v7 hv7) k3 (cI k (cI k (aI (qE bY k k) aN)))) k<|ae (wl k) k<|cG h λq8 h=>ae (eW aO (l:=x1.1) (c:=[.int v7.size,.own 4 0 v7.basis.length]) q8 k k k k k k k k k k k k k k) k<|aa k k<|an<|lL (by kernel_rfl)<|aY<|tn<|aD (t:=mN [(2,.list 3 (a2.map eM)),(3,.ptr 0 0 0),(4,.ptr 1 0 0),(8,.own 6 0 ((x1.1++[v7]).length)),(9,.int x1.2)] [(0,⟨6,[eR a0]⟩),(1,⟨6,[eR a1]⟩),(6,⟨2,List.map (ow eS) (x1.1++[v7])⟩)] 7) (Ent.trans (dB (b:=6) (b':=4) (j:=1) (es':=v7.basis.map (dH 1 eI)) k k k k (aG _ _) (bY.frzs _)) (bU (jU 3 k2 (fU ⟨_,k,⟨k,k,(by simp only [aG,lA,lT,lR,lC,lN]),k⟩⟩ (bJ k2))) (bF k<|bF k<|hX ⟨_,k,k,.inl ⟨fD v7 k,dJ.plainO _⟩⟩ k<|aU) k4)) ?_;exact rg<|am k k<|ae (bG k k) k<|aT k2<|sp h ⟨_,k,(gA [0,1,6] (bJ k2) (bF k<|bF k<|cA (dJ.plainO _) k<|aU) k4)⟩
 ·rintro e t ⟨rfl,hent⟩;exact aM<|tn<|aD hent<|sR<|am k k<|aa k k<|aT k2<|aE<|sp h (bC k k k (cJ k (bD (dC (cN dJ k k)) (bD (k) dW))))
def oY (a0:Rp) (a1:(List Mt)):Option ((List Sc)×(List Sc)×Bool):=
 (eY a0 a0 a1).bind λv1=>
 bif !v1 then
 (some ((([]:(List Sc)),([]:(List Sc)),false)))
 else
 ((wG a0 a1).bind λv3=>
 (tY a0 a0 v3).bind λv4=>
 (wH a0 a0 v3).bind λv5=>
 (sI a0).bind λv6=>
 (oX v4.1 v6).bind λv7=>
 bif v7 then
 (some ((([]:(List Sc)),([]:(List Sc)),false)))
 else
 ((sI a0).bind λv9=>
 (oX v5.1 v9).bind λv10=>
 bif v10 then
 (some ((([]:(List Sc)),([]:(List Sc)),false)))
 else
 (some ((v4.1,v5.1,true)))))
theorem aAv (a0:Rp) (a1:(List Mt)) (r:((List Sc)×(List Sc)×Bool)) (h:oY a0 a1=some r):HasC Tryz.prog 278 [.agg (eR a0),.list 3 (a1.map eM)] (.tuple [.list 2 (r.1.map eS),.list 2 (r.2.1.map eS),.bl r.2.2]):=by
 refine hM [.tmp 4,.tmp 5,.tmp 6] Tryz.func278 Tryz.ntmps278 k<|sR<|ae (wb k) k<|aa k k<|aa k k<|aT k2<|sQ<|sR<|lp k8<|lp k8<|am k k<|oB h λv1 hv1 h=>ae (aS (mS a0 a0 a1 v1 hv1) k (aI (eD k) (aI (eD k) (cI k aN)))) k<|ae (dS k) k<|an<|tn<|cW k h (λ_ h=>sR<|ae (wl k) k<|ae (wl k) k<|aa k k<|aa k k<|aT k2<|aD (t:=mN [(4,.own 1 0 (([]:(List Sc)).length)),(5,.own 2 0 (([]:(List Sc)).length)),(6,.bl false)] [(1,⟨2,List.map (ow eS) ([]:(List Sc))⟩),(2,⟨2,List.map (ow eS) ([]:(List Sc))⟩)] 3) (bU (fU ⟨_,k,⟨k,k,(by simp only [aG,lA,lT,lR,lC,lN]),k⟩⟩ (fU ⟨_,k,⟨k,k,(by simp only [aG,lA,lT,lR,lC,lN]),k⟩⟩ (bJ k2))) (cA (dJ.plainO _) k<|cA (dJ.plainO _) k<|aU) k4)<|aE<|aJ<|sp h (bC k k k (cJ k (bD (dC (cN dJ k k)) (bD (dC (cN dJ k k)) (bD (k) dW)))))) λ_ h=>?_;refine aH<|tn<|sR<|lp k8<|am k k<|oB h λv3 hv3 h=>ae (cL bK (aHU a0 a1 v3 hv3) k3 (aI (eD k) (cI k aN))) k<|aT k2<|sR<|lp k8<|lp k8<|am k k<|oB h λv4 hv4 h=>ae (cT dJ (aGR a0 a0 v3 v4 hv4) k3 (aI (eD k) (aI (eD k) (aI (qE bK k k) aN)))) k<|am k k<|ae (bA k k (by intro _ h;cases h)) k<|ae (bA k k (by intro _ h;cases h)) k<|aa k k<|aT k2<|sR<|lp k8<|lp k8<|am k k<|oB h λv5 hv5 h=>ae (cT dJ (aHV a0 a0 v3 v5 hv5) k3 (aI (eD k) (aI (eD k) (aI (qE bK k k) aN)))) k ?_;exact am k k<|ae (bA k k (by intro _ h;cases h)) k<|ae (bA k k (by intro _ h;cases h)) k<|aa k k<|aT k2<|aD (t:=mN [(2,.ptr 0 0 0),(8,.own 2 0 v4.1.length),(10,.own 3 0 v5.1.length)] [(0,⟨6,[eR a0]⟩),(2,⟨2,v4.1.map (ow eS)⟩),(3,⟨2,v5.1.map (ow eS)⟩)] 4) (bU (bJ k2) (bF k<|cA (dJ.plainO _) k<|cA (dJ.plainO _) k<|aU) k4)<|sQ<|sR<|am k k<|lp k8<|oB h λv6 hv6 h=>ae (cL dJ (aDS a0 v6 hv6) k3 (aI (eD k) aN)) k<|oB h λv7 hv7 h=>ae (aS (aBz v4.1 v6 v7 hv7) k (aI (qE dJ k k) (aI (qE dJ k k) aN))) k<|am k k<|rT h (λq8 h=>aQ 40 k q8<|aK k4<|aK k4<|pk k3<|an<|tn<|dK k k<|sR<|ae (wl k) k<|ae (wl k) k<|aa k k<|aa k k<|aT k2<|aD (t:=mN [(4,.own 5 0 (([]:(List Sc)).length)),(5,.own 6 0 (([]:(List Sc)).length)),(6,.bl false)] [(5,⟨2,List.map (ow eS) ([]:(List Sc))⟩),(6,⟨2,List.map (ow eS) ([]:(List Sc))⟩)] 7) (bU (fU ⟨_,k,⟨k,k,(by simp only [aG,lA,lT,lR,lC,lN]),k⟩⟩ (fU ⟨_,k,⟨k,k,(by simp only [aG,lA,lT,lR,lC,lN]),k⟩⟩ (bJ k2))) (cA (dJ.plainO _) k<|cA (dJ.plainO _) k<|aU) k4)<|aE<|aJ<|sp h (bC k k k (cJ k (bD (dC (cN dJ k k)) (bD (dC (cN dJ k k)) (bD (k) dW)))))) λq8 h=>aQ 40 k q8<|am k k<|lp k8<|oB h λv9 hv9 h=>ae (cL dJ (aDS a0 v9 hv9) k3 (aI (eD k) aN)) k<|oB h λv10 hv10 h=>ae (aS (aBz v5.1 v9 v10 hv10) k (aI (qE dJ k k) (aI (qE dJ k k) aN))) k<|pk k3<|an<|tn<|cW k h (λ_ h=>sR<|ae (wl k) k<|ae (wl k) k<|aa k k<|aa k k<|aT k2<|aD (t:=mN [(4,.own 6 0 (([]:(List Sc)).length)),(5,.own 7 0 (([]:(List Sc)).length)),(6,.bl false)] [(6,⟨2,List.map (ow eS) ([]:(List Sc))⟩),(7,⟨2,List.map (ow eS) ([]:(List Sc))⟩)] 8) (bU (fU ⟨_,k,⟨k,k,(by simp only [aG,lA,lT,lR,lC,lN]),k⟩⟩ (fU ⟨_,k,⟨k,k,(by simp only [aG,lA,lT,lR,lC,lN]),k⟩⟩ (bJ k2))) (cA (dJ.plainO _) k<|cA (dJ.plainO _) k<|aU) k4)<|aE<|aJ<|sp h (bC k k k (cJ k (bD (dC (cN dJ k k)) (bD (dC (cN dJ k k)) (bD (k) dW)))))) λ_ h=>aH<|tn<|sR<|am k k<|am k k<|aa k k<|aa k k<|aT k2<|aE<|sp h (bC k k k (cJ k (bD (dC (cN dJ k k)) (bD (dC (cN dJ k k)) (bD (k) dW)))))
def rP (a0:Rp) (v1:((List (List Mt))×Bool)) (x1:Int):Option (Int ⊕ (Unit ⊕ ((List Sc)×(List Sc)×Bool×Bool))):=
 bif decide (x1<3000) then
 ((kJ a0 a0 v1.1 x1).bind λv5=>
 (oY a0 v5).bind λv6=>
 bif v6.2.2 then
 (some (.inr (.inr ((v6.1,v6.2.1,true,true)))))
 else
 (some (.inl (wr (x1+1)))))
 else
 (some (.inr (.inl ())))
def rQ (a0:Rp) (v1:((List (List Mt))×Bool)) (x2:Int):Option (Int ⊕ (Unit ⊕ ((List Sc)×(List Sc)×Bool×Bool))):=
 bif decide (x2<3000) then
 ((kJ a0 a0 v1.1 x2).bind λv13=>
 (oY a0 v13).bind λv14=>
 bif v14.2.2 then
 (some (.inr (.inr ((v14.1,v14.2.1,true,true)))))
 else
 (some (.inl (wr (x2+1)))))
 else
 (some (.inr (.inl ())))
def rR (a0:Rp) (v1:((List (List Mt))×Bool)) (v2:Int) (x3:Int):Option (Int ⊕ (Unit ⊕ ((List Sc)×(List Sc)×Bool×Bool))):=
 bif decide (x3<v2) then
 ((kJ a0 a0 v1.1 x3).bind λv20=>
 (oY a0 v20).bind λv21=>
 bif v21.2.2 then
 (some (.inr (.inr ((v21.1,v21.2.1,true,true)))))
 else
 (some (.inl (wr (x3+1)))))
 else
 (some (.inr (.inl ())))
def xR (a0:Rp):Option ((List Sc)×(List Sc)×Bool×Bool):=
 (jR a0 a0).bind λv1=>
 (lK a0 a0).bind λv2=>
 bif decide (v2<0) then
 ((Lp (rP a0 v1) 1).bind λy8=>
 Sum.elim (λy9=>
 some ((([]:(List Sc)),([]:(List Sc)),false,decide (3000=v2)))
 )
 (λy10=>
 some y10
 )
 y8)
 else
 (bif decide (3000<v2) then
 ((Lp (rQ a0 v1) 1).bind λy16=>
 Sum.elim (λy17=>
 some ((([]:(List Sc)),([]:(List Sc)),false,decide (3000=v2)))
 )
 (λy18=>
 some y18
 )
 y16)
 else
 ((Lp (rR a0 v1 v2) 1).bind λy23=>
 Sum.elim (λy24=>
 some ((([]:(List Sc)),([]:(List Sc)),false,decide (v2=v2)))
 )
 (λy25=>
 some y25
 )
 y23))
theorem aJT (a0:Rp) (r:((List Sc)×(List Sc)×Bool×Bool)) (h:xR a0=some r):HasC Tryz.prog 222 [.agg (eR a0)] (.tuple [.list 2 (r.1.map eS),.list 2 (r.2.1.map eS),.bl r.2.2.1,.bl r.2.2.2]):=by
 refine hM [.tmp 2,.tmp 3,.tmp 4,.tmp 5] Tryz.func222 Tryz.ntmps222 k<|sR<|ae (wb k) k<|aa k k<|aa k k<|aa k k<|aT k2<|sR<|lp k8<|lp k8<|oB h λv1 hv1 h=>ae (cT bY (aCj a0 a0 v1 hv1) k3 (aI (eD k) (aI (eD k) aN))) k<|am k k<|ae (bA k k (by intro _ h;cases h)) k<|ae (bA k k (by intro _ h;cases h)) k<|aa k k<|aT k2<|sR<|lp k8<|lp k8<|oB h λv2 hv2 h=>ae (aS (aCp a0 a0 v2 hv2) k (aI (eD k) (aI (eD k) aN))) k<|aT k2 ?_;refine sR<|am k k<|aT k2<|sQ<|sR<|am k k<|cm k4<|am k k<|rT h (λq3 h=>?_) λq3 h=>?_
 ·refine aQ 26 k q3<|aK k4<|pk k3<|an<|tn<|aD (t:=mN [(1,.ptr 0 0 0),(6,.own 1 0 v1.1.length),(8,.int v2),(9,.int v2),(29,.bl true)] [(0,⟨6,[eR a0]⟩),(1,⟨1,v1.1.map (ow (dH 3 eM))⟩)] 2) (bU (bJ k2) (bF k<|cA (bY.plainO _) k<|aU) k4)<|dK k k<|rg<|aT k2<|sQ<|sR<|aT k2<|aC<|oB h λy8 hy8 h=>bZ (body:=(rP a0 v1)) hy8 (λ(x1:Int)=>mN [(1,.ptr 0 0 0),(6,.own 1 0 v1.1.length),(8,.int v2),(9,.int 3000),(10,.int x1)] [(0,⟨6,[eR a0]⟩),(1,⟨1,v1.1.map (ow (dH 3 eM))⟩)] 2) (λr e t=>Sum.elim (λa=>(λr e t=>e= .exit 0∧Ent t (mN [(8,.int v2),(9,.int 3000)] [] 0)) a e t) (λb=>(λr e t=>e= .ret∧uK TT [.tmp 2,.tmp 3,.tmp 4,.tmp 5] (.tuple [.list 2 (r.1.map eS),.list 2 (r.2.1.map eS),.bl r.2.2.1,.bl r.2.2.2]) .ret t) b e t) r) (bU (bJ k2) (bF k<|cA (bY.plainO _) k<|aU) k4) ?_ ?_
  ·intro x1 o h;refine sQ<|sR<|am k k<|am k k<|cm k4<|an<|tn<|cW k h (λ_ h=>?_) λ_ h=>aX<|aB<|aB<|sp h ⟨_,k,k,(bU (bJ k2) aU k4)⟩;exact aH<|tn<|sQ<|aC<|sQ<|aP eP<|lp k8<|lp k8<|lp k8<|am k k<|am k k<|oB h λv5 hv5 h=>ae (cL bK (yK a0 a0 v1.1 x1 v5 hv5) k3 (aI (eD k) (aI (eD k) (aI (qE bY k k) (cI k aN))))) k<|oB h λv6 hv6 h=>ae (AEff.conv (gZ (x:= .tuple [.own 3 0 (v6.1.map eS).length,.own 4 0 (v6.2.1.map eS).length,.bl v6.2.2]) (nb:=[(3,⟨2,cK (v6.1.map eS)⟩),(4,⟨2,cK (v6.2.1.map eS)⟩)]) (aAv a0 v5 v6 hv6) k (by rfl) k k (dA (dJ.good _) (dA (dJ.good _) (dA aU qQ))) (aI (eD k) (aI (qE bK k k) aN))) (v':= .tuple [.own 3 0 v6.1.length,.own 4 0 v6.2.1.length,.bl v6.2.2]) (ed':=[(3,some ⟨2,v6.1.map (ow eS)⟩),(4,some ⟨2,v6.2.1.map (ow eS)⟩)]) (by simp only [aG]) (pB (nb':=[(3,⟨2,v6.1.map (ow eS)⟩),(4,⟨2,v6.2.1.map (ow eS)⟩)]) (by simp only [fB]))) k<|am k k<|ae (bA k k (by intro _ h;cases h)) k<|ae (bA k k (by intro _ h;cases h)) k<|ae (bA k k (by intro _ h;cases h)) k<|aa k k<|aa k k<|aa k k<|an<|lL (by kernel_rfl)<|tn<|sR<|am k k<|an<|tn<|cW k h (λ_ h=>sR<|am k k<|am k k<|aa k k<|aa k k<|aa k k<|aT k2<|aD (t:=mN [(2,.own 3 0 v6.1.length),(3,.own 4 0 v6.2.1.length),(4,.bl true),(5,.bl true)] [(3,⟨2,v6.1.map (ow eS)⟩),(4,⟨2,v6.2.1.map (ow eS)⟩)] 5) (bU (bJ k2) (cA (dJ.plainO _) k<|cA (dJ.plainO _) k<|aU) k4)<|aE<|bN<|aJ<|aJ<|sp h ⟨_,k,k,bC k k k (cJ k (bD (dC (cN dJ k k)) (bD (dC (cN dJ k k)) (bD (k) (bD (k) dW)))))⟩) λ_ h=>aH<|aY<|tn<|rg<|am k k<|ae (bG k k) k<|aT k2<|sp h ⟨_,k,(bU (bJ k2) (bF k<|cA (bY.plainO _) k<|aU) k4)⟩
  ·intro e t hX;rcases y8 with y9|y10
   ·obtain ⟨rfl,hent⟩:=hX;exact aM<|tn<|aD hent<|sR<|ae (wl k) k<|ae (wl k) k<|am k k<|am k k<|cm k4<|aa k k<|aa k k<|aa k k<|aT k2<|aD (t:=mN [(2,.own 0 0 (([]:(List Sc)).length)),(3,.own 1 0 (([]:(List Sc)).length)),(4,.bl false),(5,.bl (decide (3000=v2)))] [(0,⟨2,List.map (ow eS) ([]:(List Sc))⟩),(1,⟨2,List.map (ow eS) ([]:(List Sc))⟩)] 2) (bU (fU ⟨_,k,⟨k,k,(by simp only [aG,lA,lT,lR,lC,lN]),k⟩⟩ (fU ⟨_,k,⟨k,k,(by simp only [aG,lA,lT,lR,lC,lN]),k⟩⟩ (bJ k2))) (cA (dJ.plainO _) k<|cA (dJ.plainO _) k<|aU) k4)<|aE<|sp h (bC k k k (cJ k (bD (dC (cN dJ k k)) (bD (dC (cN dJ k k)) (bD (k) (bD (k) dW))))))
   ·obtain ⟨rfl,hent⟩:=hX;exact bN<|aJ<|sp h hent
 ·refine aQ 26 k q3<|am k k<|cm k4<|pk k3<|an<|tn<|aD (t:=mN [(1,.ptr 0 0 0),(6,.own 1 0 v1.1.length),(8,.int v2),(9,.int v2),(29,.bl (decide (3000<v2)))] [(0,⟨6,[eR a0]⟩),(1,⟨1,v1.1.map (ow (dH 3 eM))⟩)] 2) (bU (bJ k2) (bF k<|cA (bY.plainO _) k<|aU) k4)<|cW k h (λ_ h=>?_) λ_ h=>?_
  ·refine rg<|aT k2<|sQ<|sR<|aT k2<|aC<|oB h λy16 hy16 h=>bZ (body:=(rQ a0 v1)) hy16 (λ(x2:Int)=>mN [(1,.ptr 0 0 0),(6,.own 1 0 v1.1.length),(8,.int v2),(9,.int 3000),(10,.int x2)] [(0,⟨6,[eR a0]⟩),(1,⟨1,v1.1.map (ow (dH 3 eM))⟩)] 2) (λr e t=>Sum.elim (λa=>(λr e t=>e= .exit 0∧Ent t (mN [(8,.int v2),(9,.int 3000)] [] 0)) a e t) (λb=>(λr e t=>e= .ret∧uK TT [.tmp 2,.tmp 3,.tmp 4,.tmp 5] (.tuple [.list 2 (r.1.map eS),.list 2 (r.2.1.map eS),.bl r.2.2.1,.bl r.2.2.2]) .ret t) b e t) r) (bU (bJ k2) (bF k<|cA (bY.plainO _) k<|aU) k4) ?_ ?_
   ·intro x2 o h;refine sQ<|sR<|am k k<|am k k<|cm k4<|an<|tn<|cW k h (λ_ h=>?_) λ_ h=>aX<|aB<|aB<|sp h ⟨_,k,k,(bU (bJ k2) aU k4)⟩;exact aH<|tn<|sQ<|aC<|sQ<|aP eP<|lp k8<|lp k8<|lp k8<|am k k<|am k k<|oB h λv13 hv13 h=>ae (cL bK (yK a0 a0 v1.1 x2 v13 hv13) k3 (aI (eD k) (aI (eD k) (aI (qE bY k k) (cI k aN))))) k<|oB h λv14 hv14 h=>ae (AEff.conv (gZ (x:= .tuple [.own 3 0 (v14.1.map eS).length,.own 4 0 (v14.2.1.map eS).length,.bl v14.2.2]) (nb:=[(3,⟨2,cK (v14.1.map eS)⟩),(4,⟨2,cK (v14.2.1.map eS)⟩)]) (aAv a0 v13 v14 hv14) k (by rfl) k k (dA (dJ.good _) (dA (dJ.good _) (dA aU qQ))) (aI (eD k) (aI (qE bK k k) aN))) (v':= .tuple [.own 3 0 v14.1.length,.own 4 0 v14.2.1.length,.bl v14.2.2]) (ed':=[(3,some ⟨2,v14.1.map (ow eS)⟩),(4,some ⟨2,v14.2.1.map (ow eS)⟩)]) (by simp only [aG]) (pB (nb':=[(3,⟨2,v14.1.map (ow eS)⟩),(4,⟨2,v14.2.1.map (ow eS)⟩)]) (by simp only [fB]))) k<|am k k<|ae (bA k k (by intro _ h;cases h)) k<|ae (bA k k (by intro _ h;cases h)) k<|ae (bA k k (by intro _ h;cases h)) k<|aa k k<|aa k k<|aa k k<|an<|lL (by kernel_rfl)<|tn<|sR<|am k k<|an<|tn<|cW k h (λ_ h=>sR<|am k k<|am k k<|aa k k<|aa k k<|aa k k<|aT k2<|aD (t:=mN [(2,.own 3 0 v14.1.length),(3,.own 4 0 v14.2.1.length),(4,.bl true),(5,.bl true)] [(3,⟨2,v14.1.map (ow eS)⟩),(4,⟨2,v14.2.1.map (ow eS)⟩)] 5) (bU (bJ k2) (cA (dJ.plainO _) k<|cA (dJ.plainO _) k<|aU) k4)<|aE<|bN<|aJ<|aJ<|sp h ⟨_,k,k,bC k k k (cJ k (bD (dC (cN dJ k k)) (bD (dC (cN dJ k k)) (bD (k) (bD (k) dW)))))⟩) λ_ h=>aH<|aY<|tn<|rg<|am k k<|ae (bG k k) k<|aT k2<|sp h ⟨_,k,(bU (bJ k2) (bF k<|cA (bY.plainO _) k<|aU) k4)⟩
   ·intro e t hX;rcases y16 with y17|y18
    ·obtain ⟨rfl,hent⟩:=hX;exact aM<|tn<|aD hent<|sR<|ae (wl k) k<|ae (wl k) k<|am k k<|am k k<|cm k4<|aa k k<|aa k k<|aa k k<|aT k2<|aD (t:=mN [(2,.own 0 0 (([]:(List Sc)).length)),(3,.own 1 0 (([]:(List Sc)).length)),(4,.bl false),(5,.bl (decide (3000=v2)))] [(0,⟨2,List.map (ow eS) ([]:(List Sc))⟩),(1,⟨2,List.map (ow eS) ([]:(List Sc))⟩)] 2) (bU (fU ⟨_,k,⟨k,k,(by simp only [aG,lA,lT,lR,lC,lN]),k⟩⟩ (fU ⟨_,k,⟨k,k,(by simp only [aG,lA,lT,lR,lC,lN]),k⟩⟩ (bJ k2))) (cA (dJ.plainO _) k<|cA (dJ.plainO _) k<|aU) k4)<|aE<|sp h (bC k k k (cJ k (bD (dC (cN dJ k k)) (bD (dC (cN dJ k k)) (bD (k) (bD (k) dW))))))
    ·obtain ⟨rfl,hent⟩:=hX;exact bN<|aJ<|sp h hent
  ·refine aH<|tn<|sQ<|sR<|aT k2<|aC<|oB h λy23 hy23 h=>bZ (body:=(rR a0 v1 v2)) hy23 (λ(x3:Int)=>mN [(1,.ptr 0 0 0),(6,.own 1 0 v1.1.length),(8,.int v2),(9,.int v2),(10,.int x3)] [(0,⟨6,[eR a0]⟩),(1,⟨1,v1.1.map (ow (dH 3 eM))⟩)] 2) (λr e t=>Sum.elim (λa=>(λr e t=>e= .exit 0∧Ent t (mN [(8,.int v2),(9,.int v2)] [] 0)) a e t) (λb=>(λr e t=>e= .ret∧uK TT [.tmp 2,.tmp 3,.tmp 4,.tmp 5] (.tuple [.list 2 (r.1.map eS),.list 2 (r.2.1.map eS),.bl r.2.2.1,.bl r.2.2.2]) .ret t) b e t) r) (bU (bJ k2) (bF k<|cA (bY.plainO _) k<|aU) k4) ?_ ?_
   ·intro x3 o h;refine sQ<|sR<|am k k<|am k k<|cm k4<|an<|tn<|cW k h (λ_ h=>?_) λ_ h=>aX<|aB<|aB<|sp h ⟨_,k,k,(bU (bJ k2) aU k4)⟩;exact aH<|tn<|sQ<|aC<|sQ<|aP eP<|lp k8<|lp k8<|lp k8<|am k k<|am k k<|oB h λv20 hv20 h=>ae (cL bK (yK a0 a0 v1.1 x3 v20 hv20) k3 (aI (eD k) (aI (eD k) (aI (qE bY k k) (cI k aN))))) k<|oB h λv21 hv21 h=>ae (AEff.conv (gZ (x:= .tuple [.own 3 0 (v21.1.map eS).length,.own 4 0 (v21.2.1.map eS).length,.bl v21.2.2]) (nb:=[(3,⟨2,cK (v21.1.map eS)⟩),(4,⟨2,cK (v21.2.1.map eS)⟩)]) (aAv a0 v20 v21 hv21) k (by rfl) k k (dA (dJ.good _) (dA (dJ.good _) (dA aU qQ))) (aI (eD k) (aI (qE bK k k) aN))) (v':= .tuple [.own 3 0 v21.1.length,.own 4 0 v21.2.1.length,.bl v21.2.2]) (ed':=[(3,some ⟨2,v21.1.map (ow eS)⟩),(4,some ⟨2,v21.2.1.map (ow eS)⟩)]) (by simp only [aG]) (pB (nb':=[(3,⟨2,v21.1.map (ow eS)⟩),(4,⟨2,v21.2.1.map (ow eS)⟩)]) (by simp only [fB]))) k<|am k k<|ae (bA k k (by intro _ h;cases h)) k<|ae (bA k k (by intro _ h;cases h)) k<|ae (bA k k (by intro _ h;cases h)) k<|aa k k<|aa k k<|aa k k<|an<|lL (by kernel_rfl)<|tn<|sR<|am k k<|an<|tn<|cW k h (λ_ h=>sR<|am k k<|am k k<|aa k k<|aa k k<|aa k k<|aT k2<|aD (t:=mN [(2,.own 3 0 v21.1.length),(3,.own 4 0 v21.2.1.length),(4,.bl true),(5,.bl true)] [(3,⟨2,v21.1.map (ow eS)⟩),(4,⟨2,v21.2.1.map (ow eS)⟩)] 5) (bU (bJ k2) (cA (dJ.plainO _) k<|cA (dJ.plainO _) k<|aU) k4)<|aE<|bN<|aJ<|aJ<|sp h ⟨_,k,k,bC k k k (cJ k (bD (dC (cN dJ k k)) (bD (dC (cN dJ k k)) (bD (k) (bD (k) dW)))))⟩) λ_ h=>aH<|aY<|tn<|rg<|am k k<|ae (bG k k) k<|aT k2<|sp h ⟨_,k,(bU (bJ k2) (bF k<|cA (bY.plainO _) k<|aU) k4)⟩
   ·intro e t hX;rcases y23 with y24|y25
    ·obtain ⟨rfl,hent⟩:=hX;exact aM<|tn<|aD hent<|sR<|ae (wl k) k<|ae (wl k) k<|am k k<|am k k<|cm k4<|aa k k<|aa k k<|aa k k<|aT k2<|aD (t:=mN [(2,.own 0 0 (([]:(List Sc)).length)),(3,.own 1 0 (([]:(List Sc)).length)),(4,.bl false),(5,.bl (decide (v2=v2)))] [(0,⟨2,List.map (ow eS) ([]:(List Sc))⟩),(1,⟨2,List.map (ow eS) ([]:(List Sc))⟩)] 2) (bU (fU ⟨_,k,⟨k,k,(by simp only [aG,lA,lT,lR,lC,lN]),k⟩⟩ (fU ⟨_,k,⟨k,k,(by simp only [aG,lA,lT,lR,lC,lN]),k⟩⟩ (bJ k2))) (cA (dJ.plainO _) k<|cA (dJ.plainO _) k<|aU) k4)<|aE<|sp h (bC k k k (cJ k (bD (dC (cN dJ k k)) (bD (dC (cN dJ k k)) (bD (k) (bD (k) dW))))))
    ·obtain ⟨rfl,hent⟩:=hX;exact bN<|aJ<|sp h hent
def iE (a0:Rp) (x1:((List Mt)×Int)):Option (((List Mt)×Int) ⊕ (List Mt)):=
 bif decide (x1.2<(a0.dims.length:Int)) then
 ((iU a0).bind λv2=>
 bif v2 then
 ((cP a0.dims x1.2).bind λv4=>
 (mB v4).bind λv5=>
 bif decide (x1.1.length+1≤4294967296) then
 (some (.inl ((x1.1++[v5]),wr (x1.2+1))))
 else none)
 else
 (some (.inr x1.1)))
 else
 (some (.inr x1.1))
def jM (a0:Rp):Option ((List Mt)×Bool):=
 (Lp (iE a0) (([]:(List Mt)),0)).bind λy7=>
 (iU a0).bind λv8=>
 some ((y7,v8))
theorem aCA (a0:Rp) (r:((List Mt)×Bool)) (h:jM a0=some r):HasC Tryz.prog 223 [.agg (eR a0)] (.tuple [.list 3 (r.1.map eM),.bl r.2]):=by
 refine hM [.tmp 2,.tmp 3] Tryz.func223 Tryz.ntmps223 k<|sR<|ae (wb k) k<|aa k k<|aT k2<|sR<|ae (wl k) k<|aT k2<|aD (t:=mN [(1,.ptr 0 0 0),(4,.own 1 0 (([]:(List Mt)).length))] [(0,⟨6,[eR a0]⟩),(1,⟨3,List.map (ow eM) ([]:(List Mt))⟩)] 2) (bU (jU 1 k2 (fU ⟨_,k,⟨k,k,(by simp only [aG,lA,lT,lR,lC,lN]),k⟩⟩ aU)) (bF k<|cA (bK.plainO _) k<|aU) k4)<|sQ<|sR<|aT k2<|aC<|oB h λy7 hy7 h=>bZ (body:=(iE a0)) hy7 (λ(x1:((List Mt)×Int))=>mN [(1,.ptr 0 0 0),(4,.own 1 0 x1.1.length),(5,.int x1.2)] [(0,⟨6,[eR a0]⟩),(1,⟨3,x1.1.map (ow eM)⟩)] 2) (λr e t=>e= .exit 0∧Ent t (mN [(1,.ptr 0 0 0),(4,.own 1 0 r.length)] [(0,⟨6,[eR a0]⟩),(1,⟨3,r.map (ow eM)⟩)] 2)) (bU (bJ k2) (bF k<|cA (bK.plainO _) k<|aU) k4) ?_ ?_
 ·intro x1 o h;exact sQ<|sR<|am k k<|fp k8<|lp k8<|ln k4<|cm k4<|am k k<|rT h (λq1 h=>aQ 12 k q1<|lp k8<|oB h λv2 hv2 h=>ae (aS (pP a0 v2 hv2) k (aI (eD k) aN)) k<|pk k3<|an<|tn<|cW k h (λ_ h=>aH<|tn<|sQ<|aC<|rg<|am k k<|fp k8<|lp k8<|am k k<|oB h λv4 hv4 h=>ae (xl hv4 k) k<|lr k7<|oB h λv5 hv5 h=>ae (cM (aBI v4 v5 hv5) k3 (cI k aN)) k<|ae (wl k) k<|cG h λq6 h=>ae (eW aO (l:=x1.1) (c:=[.int v5.rows,.int v5.cols,.own 2 0 v5.cells.length]) q6 k k k k k k k k k k k k k k) k<|aa k k<|an<|aY<|tn<|aD (t:=mN [(1,.ptr 0 0 0),(4,.own 4 0 ((x1.1++[v5]).length)),(5,.int x1.2)] [(0,⟨6,[eR a0]⟩),(4,⟨3,List.map (ow eM) (x1.1++[v5])⟩)] 5) (Ent.trans (dB (b:=4) (b':=2) (j:=2) (es':=v5.cells.map eI) k k k k (aG _ _) (cU.frzs _)) (bU (jU 1 k2 (fU ⟨_,k,⟨k,k,(by simp only [aG,lA,lT,lR,lC,lN]),k⟩⟩ (bJ k2))) (bF k<|hX ⟨_,k,k,.inl ⟨fD v5 k,bK.plainO _⟩⟩ k<|aU) k4))<|rg<|am k k<|ae (bG k k) k<|aT k2<|sp h ⟨_,k,(gA [0,4] (bJ k2) (bF k<|cA (bK.plainO _) k<|aU) k4)⟩) λ_ h=>aX<|aB<|aB<|sp h ⟨_,k,k,(bU (bJ k2) (bF k<|cA (bK.plainO _) k<|aU) k4)⟩) λq1 h=>aQ 12 k q1<|aK k4<|pk k3<|an<|tn<|zO k k<|aX<|aB<|aB<|sp h ⟨_,k,k,(bU (bJ k2) (bF k<|cA (bK.plainO _) k<|aU) k4)⟩
 ·rintro e t ⟨rfl,hent⟩;exact aM<|tn<|aD hent<|sR<|am k k<|lp k8<|oB h λv8 hv8 h=>ae (aS (pP a0 v8 hv8) k (aI (eD k) aN)) k<|aa k k<|aT k2<|aE<|sp h (bC k k k (cJ k (bD (dC (cN bK k k)) (bD (k) dW))))
def iH (a0:Rp) (a3:(List Mt)) (a4:(List Mt)) (x1:((List Mt)×Int)):Option (((List Mt)×Int) ⊕ (List Mt)):=
 bif decide (x1.2<(a3.length:Int)) then
 ((cP a4 x1.2).bind λv6=>
 (cP a3 x1.2).bind λv7=>
 (fL a0.p v6 v7).bind λv8=>
 bif decide (x1.1.length+1≤4294967296) then
 (some (.inl ((x1.1++[v8]),wr (x1.2+1))))
 else none)
 else
 (some (.inr x1.1))
def fT (a0:Rp) (a1:Rp) (a2:Rp) (a3:(List Mt)) (a4:(List Mt)):Option ((List Mt)×Bool):=
 (eY a0 a1 a3).bind λv1=>
 bif !v1 then
 (some ((([]:(List Mt)),false)))
 else
 ((eY a1 a2 a4).bind λv3=>
 bif !v3 then
 (some ((([]:(List Mt)),false)))
 else
 ((Lp (iH a0 a3 a4) (([]:(List Mt)),0)).bind λy10=>
 some ((y10,true))))
theorem wR (a0:Rp) (a1:Rp) (a2:Rp) (a3:(List Mt)) (a4:(List Mt)) (r:((List Mt)×Bool)) (h:fT a0 a1 a2 a3 a4=some r):HasC Tryz.prog 226 [.agg (eR a0),.agg (eR a1),.agg (eR a2),.list 3 (a3.map eM),.list 3 (a4.map eM)] (.tuple [.list 3 (r.1.map eM),.bl r.2]):=by
 refine hM [.tmp 10,.tmp 11] Tryz.func226 Tryz.ntmps226 k<|sR<|ae (wb k) k<|ae (wb k) k<|ae (wb k) k<|aa k k<|aT k2<|sR<|ae (wl k) k<|aT k2<|aD (t:=mN [(3,.list 3 (a3.map eM)),(4,.list 3 (a4.map eM)),(5,.ptr 0 0 0),(6,.ptr 1 0 0),(7,.ptr 2 0 0),(12,.own 3 0 (([]:(List Mt)).length))] [(0,⟨6,[eR a0]⟩),(1,⟨6,[eR a1]⟩),(2,⟨6,[eR a2]⟩),(3,⟨3,List.map (ow eM) ([]:(List Mt))⟩)] 4) (bU (jU 5 k2 (fU ⟨_,k,⟨k,k,(by simp only [aG,lA,lT,lR,lC,lN]),k⟩⟩ aU)) (bF k<|bF k<|bF k<|cA (bK.plainO _) k<|aU) k4)<|sQ<|sR<|lp k8<|lp k8<|am k k<|oB h λv1 hv1 h=>ae (aS (mS a0 a1 a3 v1 hv1) k (aI (eD k) (aI (eD k) (cI k aN)))) k<|ae (dS k) k<|am k k<|rT h (λq2 h=>aQ 20 k q2<|aK k4<|aK k4<|ak k k<|pk k3<|an<|tn<|dK k k<|sR<|am k k<|aa k k<|aT k2<|aE<|aJ<|sp h (bC k k k (cJ k (bD (dC (cN bK k k)) (bD (k) dW))))) λq2 h=>?_;refine aQ 20 k q2<|lp k8<|lp k8<|am k k<|oB h λv3 hv3 h=>ae (aS (mS a1 a2 a4 v3 hv3) k (aI (eD k) (aI (eD k) (cI k aN)))) k<|ae (dS k) k<|pk k3<|an<|tn<|cW k h (λ_ h=>sR<|am k k<|aa k k<|aT k2<|aE<|aJ<|sp h (bC k k k (cJ k (bD (dC (cN bK k k)) (bD (k) dW))))) λ_ h=>?_;refine aH<|tn<|sQ<|sR<|aT k2<|aC<|oB h λy10 hy10 h=>bZ (body:=(iH a0 a3 a4)) hy10 (λ(x1:((List Mt)×Int))=>mN [(3,.list 3 (a3.map eM)),(4,.list 3 (a4.map eM)),(5,.ptr 0 0 0),(12,.own 1 0 x1.1.length),(13,.int x1.2)] [(0,⟨6,[eR a0]⟩),(1,⟨3,x1.1.map (ow eM)⟩)] 2) (λr e t=>e= .exit 0∧Ent t (mN [(12,.own 0 0 r.length)] [(0,⟨3,r.map (ow eM)⟩)] 1)) (gA [0,3] (bJ k2) (bF k<|cA (bK.plainO _) k<|aU) k4) ?_ ?_
 ·intro x1 o h;refine sQ<|sR<|am k k<|am k k<|ln k4<|cm k4<|an<|tn<|cW k h (λ_ h=>?_) λ_ h=>aX<|aB<|aB<|sp h ⟨_,k,k,(gA [1] (bJ k2) (cA (bK.plainO _) k<|aU) k4)⟩;refine aH<|tn<|sQ<|aC<|aP eP<|am k k<|fp k8<|lp k8<|am k k<|am k k<|oB h λv6 hv6 h=>ae (xl hv6 k) k<|lr k7<|am k k<|am k k<|oB h λv7 hv7 h=>ae (xl hv7 k) k<|lr k7<|oB h λv8 hv8 h=>ae (cM (jH a0.p v6 v7 v8 hv8) k3 (cI k (aI (eD k) (aI (eD k) aN)))) k<|ae (wl k) k<|cG h λq9 h=>ae (eW aO (l:=x1.1) (c:=[.int v8.rows,.int v8.cols,.own 2 0 v8.cells.length]) q9 k k k k k k k k k k k k k k) k<|aa k k<|an<|lL (by kernel_rfl)<|aY<|tn<|aD (t:=mN [(3,.list 3 (a3.map eM)),(4,.list 3 (a4.map eM)),(5,.ptr 0 0 0),(12,.own 4 0 ((x1.1++[v8]).length)),(13,.int x1.2)] [(0,⟨6,[eR a0]⟩),(4,⟨3,List.map (ow eM) (x1.1++[v8])⟩)] 5) (Ent.trans (dB (b:=4) (b':=2) (j:=2) (es':=v8.cells.map eI) k k k k (aG _ _) (cU.frzs _)) (bU (jU 3 k2 (fU ⟨_,k,⟨k,k,(by simp only [aG,lA,lT,lR,lC,lN]),k⟩⟩ (bJ k2))) (bF k<|hX ⟨_,k,k,.inl ⟨fD v8 k,bK.plainO _⟩⟩ k<|aU) k4))<|rg<|am k k<|ae (bG k k) k<|aa k k ?_;exact an<|tn<|sp h ⟨_,k,(gA [0,4] (bJ k2) (bF k<|cA (bK.plainO _) k<|aU) k4)⟩
 ·rintro e t ⟨rfl,hent⟩;exact aM<|tn<|aD hent<|sR<|am k k<|aa k k<|aT k2<|aE<|sp h (bC k k k (cJ k (bD (dC (cN bK k k)) (bD (k) dW))))
def kW (a0:Rp) (v9:(Rp×(List Mt)×Bool)) (v10:((List Rp)×(List (List Mt))×Bool)) (x2:((List Rp)×(List (List Mt))×Int)):Option (((List Rp)×(List (List Mt))×Int) ⊕ ((List Rp)×(List (List Mt)))):=
 bif decide (x2.2.2<(v10.1.length:Int)) then
 ((cP v10.1 x2.2.2).bind λv13=>
 (cP v10.2.1 x2.2.2).bind λv14=>
 (fT v13 v9.1 a0 v14 v9.2.1).bind λv15=>
 (cP v10.1 x2.2.2).bind λv16=>
 bif decide (x2.1.length+1≤4294967296) then
 (bif decide (x2.2.1.length+1≤4294967296) then
 (some (.inl ((x2.1++[v16]),(x2.2.1++[v15.1]),wr (x2.2.2+1))))
 else none)
 else none)
 else
 (some (.inr (x2.1,x2.2.1)))
def kX (a0:Rp) (v20:(Rp×(List Mt)×Bool)) (v21:((List Rp)×(List (List Mt))×Bool)) (x3:((List Rp)×(List (List Mt))×Int)):Option (((List Rp)×(List (List Mt))×Int) ⊕ ((List Rp)×(List (List Mt)))):=
 bif decide (x3.2.2<(v21.1.length:Int)) then
 ((cP v21.1 x3.2.2).bind λv24=>
 (cP v21.2.1 x3.2.2).bind λv25=>
 (fT v24 v20.1 a0 v25 v20.2.1).bind λv26=>
 (cP v21.1 x3.2.2).bind λv27=>
 bif decide (x3.1.length+1≤4294967296) then
 (bif decide (x3.2.1.length+1≤4294967296) then
 (some (.inl ((x3.1++[v27]),(x3.2.1++[v26.1]),wr (x3.2.2+1))))
 else none)
 else none)
 else
 (some (.inr (x3.1,x3.2.1)))
def gR (self:(Rp→Option ((List Rp)×(List (List Mt))×Bool))) (a0:Rp) (v3:((List Sc)×(List Sc)×Bool×Bool)) (x1:((List Rp)×(List (List Mt))×Int)):Option (((List Rp)×(List (List Mt))×Int) ⊕ (((List Rp)×(List (List Mt))) ⊕ Unit)):=
 bif decide (x1.2.2<2) then
 (bif decide (x1.2.2=1) then
 ((vC a0 v3.2.1).bind λv9=>
 (self v9.1).bind λv10=>
 bif !v10.2.2 then
 (some (.inr (.inr ())))
 else
 ((Lp (kW a0 v9 v10) (x1.1,x1.2.1,0)).bind λy19=>
 some (.inl (y19.1,y19.2,wr (x1.2.2+1)))))
 else
 ((vC a0 v3.1).bind λv20=>
 (self v20.1).bind λv21=>
 bif !v21.2.2 then
 (some (.inr (.inr ())))
 else
 ((Lp (kX a0 v20 v21) (x1.1,x1.2.1,0)).bind λy30=>
 some (.inl (y30.1,y30.2,wr (x1.2.2+1))))))
 else
 (some (.inr (.inl (x1.1,x1.2.1))))
def xS (self:Rp→Option ((List Rp)×(List (List Mt))×Bool)) (a0:Rp):Option ((List Rp)×(List (List Mt))×Bool):=
 (sD a0).bind λv1=>
 bif decide (v1=0) then
 (some (([]:(List Rp)),([]:(List (List Mt))),true))
 else
 ((xR a0).bind λv3=>
 bif !v3.2.2.1 then
 ((jM a0).bind λv5=>
 (zB a0).bind λv6=>
 some ([v6],[v5.1],v3.2.2.2))
 else
 ((Lp (gR self a0 v3) (([]:(List Rp)),([]:(List (List Mt))),0)).bind λy31=>
 Sum.elim (λy32=>
 some (y32.1,y32.2,true)
 )
 (λy33=>
 some (([]:(List Rp)),([]:(List (List Mt))),false)
 )
 y31))
def gK:Nat→Rp→Option ((List Rp)×(List (List Mt))×Bool)
 |0,_=>none
 |n+1,a0=>xS (gK n) a0
theorem aFX (self:Rp→Option ((List Rp)×(List (List Mt))×Bool)) (a0:Rp) (ih: ∀ (a0:Rp) (r:((List Rp)×(List (List Mt))×Bool)),self a0=some r→HasE Tryz.prog 161 [.agg (eR a0)] [] 0 (.tuple [.own 0 0 r.1.length,.own 1 0 r.2.1.length,.bl r.2.2]) [(0,⟨6,r.1.map eR⟩),(1,⟨1,r.2.1.map (dH 3 eM)⟩)]) (r:((List Rp)×(List (List Mt))×Bool)) (h:xS self a0=some r):HasE Tryz.prog 161 [.agg (eR a0)] [] 0 (.tuple [.own 0 0 r.1.length,.own 1 0 r.2.1.length,.bl r.2.2]) [(0,⟨6,r.1.map eR⟩),(1,⟨1,r.2.1.map (dH 3 eM)⟩)]:=by
 refine aDb aO (rvs:=[.tmp 2,.tmp 3,.tmp 4]) (ns:=nmA.drop 0) Tryz.func161 k k Tryz.ntmps161 k k<|sR<|ae (wb k) k<|aa k k<|aa k k<|aT k2<|sQ<|sR<|lp k8<|oB h λv1 hv1 h=>ae (aS (aDO a0 v1 hv1) k (aI (eD k) aN)) k<|cm k4<|an<|tn<|cW k h (λ_ h=>sR<|ae (wl k) k<|ae (wl k) k<|aa k k<|aa k k<|aT k2<|aD (t:=mN [(2,.own 1 0 (([]:(List Rp)).length)),(3,.own 2 0 (([]:(List (List Mt))).length)),(4,.bl true)] [(1,⟨6,List.map (ow eR) ([]:(List Rp))⟩),(2,⟨1,List.map (ow (dH 3 eM)) ([]:(List (List Mt)))⟩)] 3 ⟨0,false,none,true⟩) (bU (fU ⟨_,k,⟨k,k,(by simp only [aG,lA,lT,lR,lC,lN]),k⟩⟩ (fU ⟨_,k,⟨k,k,(by simp only [aG,lA,lT,lR,lC,lN]),k⟩⟩ (bJ k2))) (cA (dY.plainO _) k<|cA (bY.plainO _) k<|aU) k4)<|aE<|aJ<|sp h ⟨mN [(2,.own 0 0 (([]:(List Rp)).length)),(3,.own 1 0 (([]:(List (List Mt))).length)),(4,.bl true)] [(0,⟨6,List.map eR ([]:(List Rp))⟩),(1,⟨1,List.map (dH 3 eM) ([]:(List (List Mt)))⟩)] 2 ⟨0,false,none,true⟩,(Ent.trans (Ent.trans (nF (b:=1) dY k) (nF (b:=2) bY k)) (gA [1,2] (bJ k2) (cA (dY.plainE _) k<|cA (bY.plainE _) k<|aU) k4)),k,⟨_,k,.inr ⟨(by simp),k,k⟩⟩,⟨k,k,aU⟩⟩) λ_ h=>?_;refine aH<|tn<|sR<|lp k8<|oB h λv3 hv3 h=>ae (AEff.conv (gZ (x:= .tuple [.own 1 0 (v3.1.map eS).length,.own 2 0 (v3.2.1.map eS).length,.bl v3.2.2.1,.bl v3.2.2.2]) (nb:=[(1,⟨2,cK (v3.1.map eS)⟩),(2,⟨2,cK (v3.2.1.map eS)⟩)]) (aJT a0 v3 hv3) k (by rfl) k k (dA (dJ.good _) (dA (dJ.good _) (dA aU (dA aU qQ)))) (aI (eD k) aN)) (v':= .tuple [.own 1 0 v3.1.length,.own 2 0 v3.2.1.length,.bl v3.2.2.1,.bl v3.2.2.2]) (ed':=[(1,some ⟨2,v3.1.map (ow eS)⟩),(2,some ⟨2,v3.2.1.map (ow eS)⟩)]) (by simp only [aG]) (pB (nb':=[(1,⟨2,v3.1.map (ow eS)⟩),(2,⟨2,v3.2.1.map (ow eS)⟩)]) (by simp only [fB]))) k<|am k k<|ae (bA k k (by intro _ h;cases h)) k<|ae (bA k k (by intro _ h;cases h)) k<|ae (bA k k (by intro _ h;cases h)) k<|ae (bA k k (by intro _ h;cases h)) k<|aa k k<|aa k k<|aa k k<|aT k2<|sQ<|sR<|am k k<|ae (dS k) k<|an<|tn<|cW k h (λ_ h=>?_) λ_ h=>?_
 ·exact sR<|lp k8<|oB h λv5 hv5 h=>ae (cT bK (aCA a0 v5 hv5) k3 (aI (eD k) aN)) k<|am k k<|ae (bA k k (by intro _ h;cases h)) k<|ae (bA k k (by intro _ h;cases h)) k<|aa k k<|aT k2<|aD (t:=mN [(1,.ptr 0 0 0),(8,.bl v3.2.2.2),(9,.own 3 0 v5.1.length)] [(0,⟨6,[eR a0]⟩),(3,⟨3,v5.1.map (ow eM)⟩)] 4 ⟨0,false,none,true⟩) (bU (bJ k2) (bF k<|cA (bK.plainO _) k<|aU) k4)<|sR<|lp k8<|oB h λv6 hv6 h=>ae (cR (aJq a0 v6 hv6) k3 (aI (eD k) aN)) k<|ae (wl k) k<|am k k<|ae (wl k) k<|am k k<|aa k k<|aa k k<|aT k2<|aD (t:=mN [(2,.own 8 0 ([v6].length)),(3,.own 9 0 ([v5.1].length)),(4,.bl v3.2.2.2)] [(8,⟨6,List.map (ow eR) [v6]⟩),(9,⟨1,List.map (ow (dH 3 eM)) [v5.1]⟩)] 10 ⟨0,false,none,true⟩) (Ent.trans (gD (b:=8) (b':=4) (i:=0) (j:=2) (es':=v6.q.src.map eI) k k k k k (aG _ _) k (cU.frzs _)) (Ent.trans (gD (b:=8) (b':=5) (i:=0) (j:=3) (es':=v6.q.tgt.map eI) k k k k k (aG _ _) k (cU.frzs _)) (Ent.trans (gD (b:=8) (b':=6) (i:=0) (j:=4) (es':=v6.dims.map eI) k k k k k (aG _ _) k (cU.frzs _)) (Ent.trans (gD (b:=8) (b':=7) (i:=0) (j:=5) (es':=v6.maps.map eM) k k k k k (aG _ _) k (bK.frzs _)) (Ent.trans (gD (b:=9) (b':=3) (i:=0) (j:=0) (es':=v5.1.map eM) k k k k k (aG _ _) k (bK.frzs _)) (bU (fU ⟨_,k,⟨k,k,(by simp only [aG,lA,lT,lR,lC,lN]),k⟩⟩ (fU ⟨_,k,⟨k,k,(by simp only [aG,lA,lT,lR,lC,lN]),k⟩⟩ (bJ k2))) (cA (dY.plainO _) k<|cA (bY.plainO _) k<|aU) k4))))))<|aE<|aJ<|sp h ⟨mN [(2,.own 0 0 ([v6].length)),(3,.own 1 0 ([v5.1].length)),(4,.bl v3.2.2.2)] [(0,⟨6,List.map eR [v6]⟩),(1,⟨1,List.map (dH 3 eM) [v5.1]⟩)] 2 ⟨0,false,none,true⟩,(Ent.trans (Ent.trans (nF (b:=8) dY k) (nF (b:=9) bY k)) (gA [8,9] (bJ k2) (cA (dY.plainE _) k<|cA (bY.plainE _) k<|aU) k4)),k,⟨_,k,.inr ⟨(by simp),k,k⟩⟩,⟨k,k,aU⟩⟩
 ·refine aH<|tn<|sQ<|aD (sC (t:=5) (d:= .list 2 (v3.1.map eS)) [1] k (aAR dJ k k) k k)<|aD (sC (t:=6) (d:= .list 2 (v3.2.1.map eS)) [2] k (aAR dJ k k) k k)<|rg<|ae (wl k) k<|aT k2<|aD (t:=mN [(1,.ptr 0 0 0),(5,.list 2 (v3.1.map eS)),(6,.list 2 (v3.2.1.map eS)),(11,.own 3 0 (([]:(List Rp)).length))] [(0,⟨6,[eR a0]⟩),(3,⟨6,List.map (ow eR) ([]:(List Rp))⟩)] 4 ⟨0,false,none,true⟩) (bU (jU 3 k2 (fU ⟨_,k,⟨k,k,(by simp only [aG,lA,lT,lR,lC,lN]),k⟩⟩ aU)) (bF k<|cA (dY.plainO _) k<|aU) k4)<|sR<|ae (wl k) k<|aT k2<|aD (t:=mN [(1,.ptr 0 0 0),(5,.list 2 (v3.1.map eS)),(6,.list 2 (v3.2.1.map eS)),(11,.own 3 0 (([]:(List Rp)).length)),(12,.own 4 0 (([]:(List (List Mt))).length))] [(0,⟨6,[eR a0]⟩),(3,⟨6,List.map (ow eR) ([]:(List Rp))⟩),(4,⟨1,List.map (ow (dH 3 eM)) ([]:(List (List Mt)))⟩)] 5 ⟨0,false,none,true⟩) (bU (jU 4 k2 (fU ⟨_,k,⟨k,k,(by simp only [aG,lA,lT,lR,lC,lN]),k⟩⟩ aU)) (bF k<|cA (dY.plainO _) k<|cA (bY.plainO _) k<|aU) k4)<|sQ<|sR<|aT k2<|aC<|oB h λy31 hy31 h=>bZ (body:=(gR self a0 v3)) hy31 (λ(x1:((List Rp)×(List (List Mt))×Int))=>mN [(1,.ptr 0 0 0),(5,.list 2 (v3.1.map eS)),(6,.list 2 (v3.2.1.map eS)),(11,.own 1 0 x1.1.length),(12,.own 2 0 x1.2.1.length),(13,.int x1.2.2)] [(0,⟨6,[eR a0]⟩),(1,⟨6,x1.1.map eR⟩),(2,⟨1,x1.2.1.map (ow (dH 3 eM))⟩)] 3 ⟨0,false,none,true⟩) (λr e t=>Sum.elim (λa=>(λr e t=>e= .exit 0∧Ent t (mN [(11,.own 0 0 r.1.length),(12,.own 1 0 r.2.length)] [(0,⟨6,r.1.map eR⟩),(1,⟨1,r.2.map (ow (dH 3 eM))⟩)] 2 ⟨0,false,none,true⟩)) a e t) (λb=>(λr e t=>e= .ret∧Ent t (mN [(2,.own 0 0 (([]:(List Rp)).length)),(3,.own 1 0 (([]:(List (List Mt))).length)),(4,.bl false)] [(0,⟨6,List.map (ow eR) ([]:(List Rp))⟩),(1,⟨1,List.map (ow (dH 3 eM)) ([]:(List (List Mt)))⟩)] 2 ⟨0,false,none,true⟩)) b e t) r) (gA [0,3,4] (bJ k2) (bF k<|cA (dY.plainE _) k<|cA (bY.plainO _) k<|aU) k4) ?_ ?_
  ·intro x1 o h;refine sQ<|sR<|am k k<|cm k4<|an<|tn<|cW k h (λ_ h=>?_) λ_ h=>aX<|aB<|aB<|sp h ⟨_,k,k,(gA [1,2] (bJ k2) (cA (dY.plainE _) k<|cA (bY.plainO _) k<|aU) k4)⟩;refine aH<|tn<|sQ<|aC<|sR<|am k k<|aT k2<|sQ<|sR<|am k k<|cm k4<|an<|tn<|cW k h (λ_ h=>?_) λ_ h=>?_
   ·refine rg<|am k k<|aT k2<|sR<|lp k8<|am k k<|oB h λv9 hv9 h=>ae (AEff.conv (gZ (x:= .tuple [.agg [.int v9.1.p,.int v9.1.q.n,.own 3 0 (v9.1.q.src.map eI).length,.own 4 0 (v9.1.q.tgt.map eI).length,.own 5 0 (v9.1.dims.map eI).length,.own 6 0 (v9.1.maps.map eM).length],.own 7 0 (v9.2.1.map eM).length,.bl v9.2.2]) (nb:=[(3,⟨1,cK (v9.1.q.src.map eI)⟩),(4,⟨1,cK (v9.1.q.tgt.map eI)⟩),(5,⟨1,cK (v9.1.dims.map eI)⟩),(6,⟨3,cK (v9.1.maps.map eM)⟩),(7,⟨3,cK (v9.2.1.map eM)⟩)]) (aEI a0 v3.2.1 v9 hv9) k (by rfl) k k (dA (cH aU (cH aU (cH (cU.good _) (cH (cU.good _) (cH (cU.good _) (cH (bK.good _) uM)))))) (dA (bK.good _) (dA aU qQ))) (aI (eD k) (cI k aN))) (v':= .tuple [.agg [.int v9.1.p,.int v9.1.q.n,.own 3 0 v9.1.q.src.length,.own 4 0 v9.1.q.tgt.length,.own 5 0 v9.1.dims.length,.own 6 0 v9.1.maps.length],.own 7 0 v9.2.1.length,.bl v9.2.2]) (ed':=[(3,some ⟨1,v9.1.q.src.map (ow eI)⟩),(4,some ⟨1,v9.1.q.tgt.map (ow eI)⟩),(5,some ⟨1,v9.1.dims.map (ow eI)⟩),(6,some ⟨3,v9.1.maps.map (ow eM)⟩),(7,some ⟨3,v9.2.1.map (ow eM)⟩)]) (by simp only [aG]) (pB (nb':=[(3,⟨1,v9.1.q.src.map (ow eI)⟩),(4,⟨1,v9.1.q.tgt.map (ow eI)⟩),(5,⟨1,v9.1.dims.map (ow eI)⟩),(6,⟨3,v9.1.maps.map (ow eM)⟩),(7,⟨3,v9.2.1.map (ow eM)⟩)]) (by simp only [fB]))) k<|am k k<|ae (bA k k (by intro _ h;cases h)) k<|ae (bA k k (by intro _ h;cases h)) k<|ae (bA k k (by intro _ h;cases h)) k<|ae (bX aO k k) k<|ae (ws k) k<|aa k k<|aT k2<|sQ<|aD (aAA (b:=8) (b':=3) (i:=0) (j:=2) (es':=v9.1.q.src.map eI) k k k k (aAR cU k k))<|aD (aAA (b:=8) (b':=4) (i:=0) (j:=3) (es':=v9.1.q.tgt.map eI) k k k k (aAR cU k k))<|aD (aAA (b:=8) (b':=5) (i:=0) (j:=4) (es':=v9.1.dims.map eI) k k k k (aAR cU k k))<|aD (aAA (b:=8) (b':=6) (i:=0) (j:=5) (es':=v9.1.maps.map eM) k k k k (aAR bK k k))<|rg<|lp k8<|oB h λv10 hv10 h=>ae (aBw (σ:=sg []) (σ':=sg [(9,0),(10,1)]) (touch:=[]) (news:=[9,10]) (hl2:=[(9,⟨6,v10.1.map eR⟩),(10,⟨1,v10.2.1.map (dH 3 eM)⟩)]) (n':=11) (r2:= .tuple [.own 9 0 v10.1.length,.own 10 0 v10.2.1.length,.bl v10.2.2]) (ih v9.1 v10 hv10) k k ⟨_,_,k,(.inl ⟨_,_,k,k,⟨_,_,k,k,⟨_,_,k,⟨k,k⟩,⟨_,_,k,⟨k,k⟩,⟨_,_,k,⟨k,k⟩,⟨_,_,k,⟨k,k⟩,k⟩⟩⟩⟩⟩⟩),k⟩ aU k k k ⟨⟨_,k,k,.inl ⟨k,dY.plainE _⟩⟩,k,⟨_,k,k,.inl ⟨k,bY.plainE _⟩⟩,k,aU⟩ k (.inr ⟨_,_,k,k,⟨_,_,k,⟨k,k,(by simp only [aG,lA,lT,lR,lC,lN]),k⟩,⟨_,_,k,⟨k,k,(by simp only [aG,lA,lT,lR,lC,lN]),k⟩,⟨_,_,k,k,k⟩⟩⟩⟩) k ⟨k,dY.tamdE _ _,⟨k,bY.tamdE _ _,aU⟩⟩ k k) k<|am k k ?_;refine ae (bA k k (by intro _ h;cases h)) k<|ae (bA k k (by intro _ h;cases h)) k<|ae (bA k k (by intro _ h;cases h)) k<|aa k k<|aa k k<|aT k2<|aD (t:=mN [(1,.ptr 0 0 0),(5,.list 2 (v3.1.map eS)),(6,.list 2 (v3.2.1.map eS)),(11,.own 1 0 x1.1.length),(12,.own 2 0 x1.2.1.length),(13,.int x1.2.2),(15,.ptr 8 0 0),(16,.own 7 0 v9.2.1.length),(18,.own 9 0 v10.1.length),(19,.own 10 0 v10.2.1.length),(20,.bl v10.2.2)] [(0,⟨6,[eR a0]⟩),(1,⟨6,x1.1.map eR⟩),(2,⟨1,x1.2.1.map (ow (dH 3 eM))⟩),(7,⟨3,v9.2.1.map (ow eM)⟩),(8,⟨6,[eR v9.1]⟩),(9,⟨6,v10.1.map eR⟩),(10,⟨1,v10.2.1.map (dH 3 eM)⟩)] 11 ⟨0,false,none,true⟩) (bU (bJ k2) (bF k<|cA (dY.plainE _) k<|cA (bY.plainO _) k<|cA (bK.plainO _) k<|bF k<|cA (dY.plainE _) k<|cA (bY.plainE _) k<|aU) k4)<|sQ<|sR<|am k k<|ae (dS k) k<|an<|tn<|cW k h (λ_ h=>sR<|ae (wl k) k<|ae (wl k) k<|aa k k<|aa k k<|aT k2<|aD (t:=mN [(2,.own 11 0 (([]:(List Rp)).length)),(3,.own 12 0 (([]:(List (List Mt))).length)),(4,.bl false)] [(11,⟨6,List.map (ow eR) ([]:(List Rp))⟩),(12,⟨1,List.map (ow (dH 3 eM)) ([]:(List (List Mt)))⟩)] 13 ⟨0,false,none,true⟩) (bU (fU ⟨_,k,⟨k,k,(by simp only [aG,lA,lT,lR,lC,lN]),k⟩⟩ (fU ⟨_,k,⟨k,k,(by simp only [aG,lA,lT,lR,lC,lN]),k⟩⟩ (bJ k2))) (cA (dY.plainO _) k<|cA (bY.plainO _) k<|aU) k4)<|aE<|aJ<|bN<|aJ<|aJ<|sp h ⟨_,k,k,(gA [11,12] (bJ k2) (cA (dY.plainO _) k<|cA (bY.plainO _) k<|aU) k4)⟩) λ_ h=>?_;refine aH<|tn<|sQ<|aD (sC (t:=18) (d:= .list 6 (v10.1.map eR)) [9] k (aNA dY k k) k k)<|aD (sC (t:=19) (d:= .list 1 (v10.2.1.map (dH 3 eM))) [10] k (aNA bY k k) k k)<|aD (sC (t:=16) (d:= .list 3 (v9.2.1.map eM)) [7] k (aAR bK k k) k k)<|rg<|aT k2<|aC<|oB h λy19 hy19 h=>bZ (body:=(kW a0 v9 v10)) hy19 (λ(x2:((List Rp)×(List (List Mt))×Int))=>mN [(1,.ptr 0 0 0),(5,.list 2 (v3.1.map eS)),(6,.list 2 (v3.2.1.map eS)),(11,.own 1 0 x2.1.length),(12,.own 2 0 x2.2.1.length),(13,.int x1.2.2),(15,.ptr 3 0 0),(16,.list 3 (v9.2.1.map eM)),(18,.list 6 (v10.1.map eR)),(19,.list 1 (v10.2.1.map (dH 3 eM))),(21,.int x2.2.2)] [(0,⟨6,[eR a0]⟩),(1,⟨6,x2.1.map eR⟩),(2,⟨1,x2.2.1.map (ow (dH 3 eM))⟩),(3,⟨6,[eR v9.1]⟩)] 4 ⟨0,false,none,true⟩) (λr e t=>e= .exit 2∧Ent t (mN [(1,.ptr 0 0 0),(5,.list 2 (v3.1.map eS)),(6,.list 2 (v3.2.1.map eS)),(11,.own 1 0 r.1.length),(12,.own 2 0 r.2.length),(13,.int x1.2.2)] [(0,⟨6,[eR a0]⟩),(1,⟨6,r.1.map eR⟩),(2,⟨1,r.2.map (ow (dH 3 eM))⟩)] 3 ⟨0,false,none,true⟩)) (gA [0,1,2,8] (bJ k2) (bF k<|cA (dY.plainE _) k<|cA (bY.plainO _) k<|bF k<|aU) k4) ?_ ?_
    ·intro x2 o h;refine sQ<|sR<|am k k<|am k k<|ln k4<|cm k4<|an<|tn<|cW k h (λ_ h=>?_) λ_ h=>aX<|aB<|aB<|sp h ⟨_,k,k,(bU (bJ k2) (bF k<|cA (dY.plainE _) k<|cA (bY.plainO _) k<|aU) k4)⟩;refine aH<|tn<|sQ<|aC<|sQ<|aP eP<|am k k<|am k k<|oB h λv13 hv13 h=>ae (xl hv13 k) k<|lr k7<|lp k8<|lp k8<|am k k<|am k k<|oB h λv14 hv14 h=>ae (xl hv14 k) k<|lr k7<|am k k<|oB h λv15 hv15 h=>ae (cT bK (wR v13 v9.1 a0 v14 v9.2.1 v15 hv15) k3 (aI (eD k) (aI (eD k) (aI (eD k) (cI k (cI k aN)))))) k<|am k k<|ae (bA k k (by intro _ h;cases h)) k<|ae (bA k k (by intro _ h;cases h)) k<|aa k k<|aa k k<|an<|lL (by kernel_rfl)<|tn<|sR<|am k k ?_;exact am k k<|am k k<|oB h λv16 hv16 h=>ae (xl hv16 k) k<|lr k7<|ae (wl k) k<|cG h λq17 h=>ae (AEff.conv (eW aO (e:=eR) (l:=x2.1) (c:=[.int v16.p,.int v16.q.n,.list 1 (v16.q.src.map eI),.list 1 (v16.q.tgt.map eI),.list 1 (v16.dims.map eI),.list 3 (v16.maps.map eM)]) q17 k k k k k k k k k k k k k k) (v':= .own 6 0 (x2.1++[v16]).length) (ed':=[(1,none),(6,some ⟨6,List.map eR (x2.1++[v16])⟩)]) (by simp only [List.length_append,List.length_cons,List.length_nil]) (by rw [show List.map eR (x2.1++[v16])=List.map eR x2.1++[[.int v16.p,.int v16.q.n,.list 1 (v16.q.src.map eI),.list 1 (v16.q.tgt.map eI),.list 1 (v16.dims.map eI),.list 3 (v16.maps.map eM)]] from List.map_append])) k<|aT k2<|aD (t:=mN [(1,.ptr 0 0 0),(5,.list 2 (v3.1.map eS)),(6,.list 2 (v3.2.1.map eS)),(11,.own 6 0 ((x2.1++[v16]).length)),(12,.own 2 0 x2.2.1.length),(13,.int x1.2.2),(15,.ptr 3 0 0),(16,.list 3 (v9.2.1.map eM)),(18,.list 6 (v10.1.map eR)),(19,.list 1 (v10.2.1.map (dH 3 eM))),(21,.int x2.2.2),(22,.own 4 0 v15.1.length)] [(0,⟨6,[eR a0]⟩),(2,⟨1,x2.2.1.map (ow (dH 3 eM))⟩),(3,⟨6,[eR v9.1]⟩),(4,⟨3,v15.1.map (ow eM)⟩),(6,⟨6,List.map eR (x2.1++[v16])⟩)] 7 ⟨0,false,none,true⟩) (bU (bJ k2) (bF k<|cA (bY.plainO _) k<|bF k<|cA (bK.plainO _) k<|cA (dY.plainE _) k<|aU) k4)<|rg<|am k k<|am k k<|ae (wl k) k<|cG h λq18 h=>ae (eW aO (l:=x2.2.1) (c:=[.own 4 0 v15.1.length]) q18 k k k k k k k k k k k k k k) k<|aa k k<|an<|aY<|tn<|aD (t:=mN [(1,.ptr 0 0 0),(5,.list 2 (v3.1.map eS)),(6,.list 2 (v3.2.1.map eS)),(11,.own 6 0 ((x2.1++[v16]).length)),(12,.own 8 0 ((x2.2.1++[v15.1]).length)),(13,.int x1.2.2),(15,.ptr 3 0 0),(16,.list 3 (v9.2.1.map eM)),(18,.list 6 (v10.1.map eR)),(19,.list 1 (v10.2.1.map (dH 3 eM))),(21,.int x2.2.2)] [(0,⟨6,[eR a0]⟩),(3,⟨6,[eR v9.1]⟩),(6,⟨6,List.map eR (x2.1++[v16])⟩),(8,⟨1,List.map (ow (dH 3 eM)) (x2.2.1++[v15.1])⟩)] 9 ⟨0,false,none,true⟩) (Ent.trans (dB (b:=8) (b':=4) (j:=0) (es':=v15.1.map eM) k k k k (aG _ _) (bK.frzs _)) (bU (jU 4 k2 (fU ⟨_,k,⟨k,k,(by simp only [aG,lA,lT,lR,lC,lN]),k⟩⟩ (bJ k2))) (bF k<|bF k<|cA (dY.plainE _) k<|hX ⟨_,k,k,.inl ⟨fD v15.1 k,bY.plainO _⟩⟩ k<|aU) k4))<|rg<|am k k<|ae (bG k k) k<|aT k2<|sp h ⟨_,k,(gA [0,6,8,3] (bJ k2) (bF k<|cA (dY.plainE _) k<|cA (bY.plainO _) k<|bF k<|aU) k4)⟩
    ·rintro e t ⟨rfl,hent⟩;exact aM<|aY<|tn<|aD hent<|rg<|am k k<|ae (bG k k) k<|aT k2<|sp h ⟨_,k,(bU (bJ k2) (bF k<|cA (dY.plainE _) k<|cA (bY.plainO _) k<|aU) k4)⟩
   ·refine aH<|tn<|sR<|lp k8<|am k k<|oB h λv20 hv20 h=>ae (AEff.conv (gZ (x:= .tuple [.agg [.int v20.1.p,.int v20.1.q.n,.own 3 0 (v20.1.q.src.map eI).length,.own 4 0 (v20.1.q.tgt.map eI).length,.own 5 0 (v20.1.dims.map eI).length,.own 6 0 (v20.1.maps.map eM).length],.own 7 0 (v20.2.1.map eM).length,.bl v20.2.2]) (nb:=[(3,⟨1,cK (v20.1.q.src.map eI)⟩),(4,⟨1,cK (v20.1.q.tgt.map eI)⟩),(5,⟨1,cK (v20.1.dims.map eI)⟩),(6,⟨3,cK (v20.1.maps.map eM)⟩),(7,⟨3,cK (v20.2.1.map eM)⟩)]) (aEI a0 v3.1 v20 hv20) k (by rfl) k k (dA (cH aU (cH aU (cH (cU.good _) (cH (cU.good _) (cH (cU.good _) (cH (bK.good _) uM)))))) (dA (bK.good _) (dA aU qQ))) (aI (eD k) (cI k aN))) (v':= .tuple [.agg [.int v20.1.p,.int v20.1.q.n,.own 3 0 v20.1.q.src.length,.own 4 0 v20.1.q.tgt.length,.own 5 0 v20.1.dims.length,.own 6 0 v20.1.maps.length],.own 7 0 v20.2.1.length,.bl v20.2.2]) (ed':=[(3,some ⟨1,v20.1.q.src.map (ow eI)⟩),(4,some ⟨1,v20.1.q.tgt.map (ow eI)⟩),(5,some ⟨1,v20.1.dims.map (ow eI)⟩),(6,some ⟨3,v20.1.maps.map (ow eM)⟩),(7,some ⟨3,v20.2.1.map (ow eM)⟩)]) (by simp only [aG]) (pB (nb':=[(3,⟨1,v20.1.q.src.map (ow eI)⟩),(4,⟨1,v20.1.q.tgt.map (ow eI)⟩),(5,⟨1,v20.1.dims.map (ow eI)⟩),(6,⟨3,v20.1.maps.map (ow eM)⟩),(7,⟨3,v20.2.1.map (ow eM)⟩)]) (by simp only [fB]))) k<|am k k<|ae (bA k k (by intro _ h;cases h)) k<|ae (bA k k (by intro _ h;cases h)) k<|ae (bA k k (by intro _ h;cases h)) k<|ae (bX aO k k) k<|ae (ws k) k<|aa k k<|aT k2<|sQ<|aD (aAA (b:=8) (b':=3) (i:=0) (j:=2) (es':=v20.1.q.src.map eI) k k k k (aAR cU k k))<|aD (aAA (b:=8) (b':=4) (i:=0) (j:=3) (es':=v20.1.q.tgt.map eI) k k k k (aAR cU k k))<|aD (aAA (b:=8) (b':=5) (i:=0) (j:=4) (es':=v20.1.dims.map eI) k k k k (aAR cU k k))<|aD (aAA (b:=8) (b':=6) (i:=0) (j:=5) (es':=v20.1.maps.map eM) k k k k (aAR bK k k))<|rg<|lp k8<|oB h λv21 hv21 h=>ae (aBw (σ:=sg []) (σ':=sg [(9,0),(10,1)]) (touch:=[]) (news:=[9,10]) (hl2:=[(9,⟨6,v21.1.map eR⟩),(10,⟨1,v21.2.1.map (dH 3 eM)⟩)]) (n':=11) (r2:= .tuple [.own 9 0 v21.1.length,.own 10 0 v21.2.1.length,.bl v21.2.2]) (ih v20.1 v21 hv21) k k ⟨_,_,k,(.inl ⟨_,_,k,k,⟨_,_,k,k,⟨_,_,k,⟨k,k⟩,⟨_,_,k,⟨k,k⟩,⟨_,_,k,⟨k,k⟩,⟨_,_,k,⟨k,k⟩,k⟩⟩⟩⟩⟩⟩),k⟩ aU k k k ⟨⟨_,k,k,.inl ⟨k,dY.plainE _⟩⟩,k,⟨_,k,k,.inl ⟨k,bY.plainE _⟩⟩,k,aU⟩ k (.inr ⟨_,_,k,k,⟨_,_,k,⟨k,k,(by simp only [aG,lA,lT,lR,lC,lN]),k⟩,⟨_,_,k,⟨k,k,(by simp only [aG,lA,lT,lR,lC,lN]),k⟩,⟨_,_,k,k,k⟩⟩⟩⟩) k ⟨k,dY.tamdE _ _,⟨k,bY.tamdE _ _,aU⟩⟩ k k) k<|am k k<|ae (bA k k (by intro _ h;cases h)) k<|ae (bA k k (by intro _ h;cases h)) k<|ae (bA k k (by intro _ h;cases h)) k ?_;refine aa k k<|aa k k<|aT k2<|aD (t:=mN [(1,.ptr 0 0 0),(5,.list 2 (v3.1.map eS)),(6,.list 2 (v3.2.1.map eS)),(11,.own 1 0 x1.1.length),(12,.own 2 0 x1.2.1.length),(13,.int x1.2.2),(15,.ptr 8 0 0),(16,.own 7 0 v20.2.1.length),(18,.own 9 0 v21.1.length),(19,.own 10 0 v21.2.1.length),(20,.bl v21.2.2)] [(0,⟨6,[eR a0]⟩),(1,⟨6,x1.1.map eR⟩),(2,⟨1,x1.2.1.map (ow (dH 3 eM))⟩),(7,⟨3,v20.2.1.map (ow eM)⟩),(8,⟨6,[eR v20.1]⟩),(9,⟨6,v21.1.map eR⟩),(10,⟨1,v21.2.1.map (dH 3 eM)⟩)] 11 ⟨0,false,none,true⟩) (bU (bJ k2) (bF k<|cA (dY.plainE _) k<|cA (bY.plainO _) k<|cA (bK.plainO _) k<|bF k<|cA (dY.plainE _) k<|cA (bY.plainE _) k<|aU) k4)<|sQ<|sR<|am k k<|ae (dS k) k<|an<|tn<|cW k h (λ_ h=>sR<|ae (wl k) k<|ae (wl k) k<|aa k k<|aa k k<|aT k2<|aD (t:=mN [(2,.own 11 0 (([]:(List Rp)).length)),(3,.own 12 0 (([]:(List (List Mt))).length)),(4,.bl false)] [(11,⟨6,List.map (ow eR) ([]:(List Rp))⟩),(12,⟨1,List.map (ow (dH 3 eM)) ([]:(List (List Mt)))⟩)] 13 ⟨0,false,none,true⟩) (bU (fU ⟨_,k,⟨k,k,(by simp only [aG,lA,lT,lR,lC,lN]),k⟩⟩ (fU ⟨_,k,⟨k,k,(by simp only [aG,lA,lT,lR,lC,lN]),k⟩⟩ (bJ k2))) (cA (dY.plainO _) k<|cA (bY.plainO _) k<|aU) k4)<|aE<|aJ<|bN<|aJ<|aJ<|sp h ⟨_,k,k,(gA [11,12] (bJ k2) (cA (dY.plainO _) k<|cA (bY.plainO _) k<|aU) k4)⟩) λ_ h=>?_;refine aH<|tn<|sQ<|aD (sC (t:=18) (d:= .list 6 (v21.1.map eR)) [9] k (aNA dY k k) k k)<|aD (sC (t:=19) (d:= .list 1 (v21.2.1.map (dH 3 eM))) [10] k (aNA bY k k) k k)<|aD (sC (t:=16) (d:= .list 3 (v20.2.1.map eM)) [7] k (aAR bK k k) k k)<|rg<|aT k2<|aC<|oB h λy30 hy30 h=>bZ (body:=(kX a0 v20 v21)) hy30 (λ(x3:((List Rp)×(List (List Mt))×Int))=>mN [(1,.ptr 0 0 0),(5,.list 2 (v3.1.map eS)),(6,.list 2 (v3.2.1.map eS)),(11,.own 1 0 x3.1.length),(12,.own 2 0 x3.2.1.length),(13,.int x1.2.2),(15,.ptr 3 0 0),(16,.list 3 (v20.2.1.map eM)),(18,.list 6 (v21.1.map eR)),(19,.list 1 (v21.2.1.map (dH 3 eM))),(21,.int x3.2.2)] [(0,⟨6,[eR a0]⟩),(1,⟨6,x3.1.map eR⟩),(2,⟨1,x3.2.1.map (ow (dH 3 eM))⟩),(3,⟨6,[eR v20.1]⟩)] 4 ⟨0,false,none,true⟩) (λr e t=>e= .exit 2∧Ent t (mN [(1,.ptr 0 0 0),(5,.list 2 (v3.1.map eS)),(6,.list 2 (v3.2.1.map eS)),(11,.own 1 0 r.1.length),(12,.own 2 0 r.2.length),(13,.int x1.2.2)] [(0,⟨6,[eR a0]⟩),(1,⟨6,r.1.map eR⟩),(2,⟨1,r.2.map (ow (dH 3 eM))⟩)] 3 ⟨0,false,none,true⟩)) (gA [0,1,2,8] (bJ k2) (bF k<|cA (dY.plainE _) k<|cA (bY.plainO _) k<|bF k<|aU) k4) ?_ ?_
    ·intro x3 o h;refine sQ<|sR<|am k k<|am k k<|ln k4<|cm k4<|an<|tn<|cW k h (λ_ h=>?_) λ_ h=>aX<|aB<|aB<|sp h ⟨_,k,k,(bU (bJ k2) (bF k<|cA (dY.plainE _) k<|cA (bY.plainO _) k<|aU) k4)⟩;refine aH<|tn<|sQ<|aC<|sQ<|aP eP<|am k k<|am k k<|oB h λv24 hv24 h=>ae (xl hv24 k) k<|lr k7<|lp k8<|lp k8<|am k k<|am k k<|oB h λv25 hv25 h=>ae (xl hv25 k) k<|lr k7<|am k k<|oB h λv26 hv26 h=>ae (cT bK (wR v24 v20.1 a0 v25 v20.2.1 v26 hv26) k3 (aI (eD k) (aI (eD k) (aI (eD k) (cI k (cI k aN)))))) k<|am k k<|ae (bA k k (by intro _ h;cases h)) k<|ae (bA k k (by intro _ h;cases h)) k<|aa k k<|aa k k<|an<|lL (by kernel_rfl)<|tn<|sR<|am k k ?_;exact am k k<|am k k<|oB h λv27 hv27 h=>ae (xl hv27 k) k<|lr k7<|ae (wl k) k<|cG h λq28 h=>ae (AEff.conv (eW aO (e:=eR) (l:=x3.1) (c:=[.int v27.p,.int v27.q.n,.list 1 (v27.q.src.map eI),.list 1 (v27.q.tgt.map eI),.list 1 (v27.dims.map eI),.list 3 (v27.maps.map eM)]) q28 k k k k k k k k k k k k k k) (v':= .own 6 0 (x3.1++[v27]).length) (ed':=[(1,none),(6,some ⟨6,List.map eR (x3.1++[v27])⟩)]) (by simp only [List.length_append,List.length_cons,List.length_nil]) (by rw [show List.map eR (x3.1++[v27])=List.map eR x3.1++[[.int v27.p,.int v27.q.n,.list 1 (v27.q.src.map eI),.list 1 (v27.q.tgt.map eI),.list 1 (v27.dims.map eI),.list 3 (v27.maps.map eM)]] from List.map_append])) k<|aT k2<|aD (t:=mN [(1,.ptr 0 0 0),(5,.list 2 (v3.1.map eS)),(6,.list 2 (v3.2.1.map eS)),(11,.own 6 0 ((x3.1++[v27]).length)),(12,.own 2 0 x3.2.1.length),(13,.int x1.2.2),(15,.ptr 3 0 0),(16,.list 3 (v20.2.1.map eM)),(18,.list 6 (v21.1.map eR)),(19,.list 1 (v21.2.1.map (dH 3 eM))),(21,.int x3.2.2),(22,.own 4 0 v26.1.length)] [(0,⟨6,[eR a0]⟩),(2,⟨1,x3.2.1.map (ow (dH 3 eM))⟩),(3,⟨6,[eR v20.1]⟩),(4,⟨3,v26.1.map (ow eM)⟩),(6,⟨6,List.map eR (x3.1++[v27])⟩)] 7 ⟨0,false,none,true⟩) (bU (bJ k2) (bF k<|cA (bY.plainO _) k<|bF k<|cA (bK.plainO _) k<|cA (dY.plainE _) k<|aU) k4)<|rg<|am k k<|am k k<|ae (wl k) k<|cG h λq29 h=>ae (eW aO (l:=x3.2.1) (c:=[.own 4 0 v26.1.length]) q29 k k k k k k k k k k k k k k) k<|aa k k<|an<|aY<|tn<|aD (t:=mN [(1,.ptr 0 0 0),(5,.list 2 (v3.1.map eS)),(6,.list 2 (v3.2.1.map eS)),(11,.own 6 0 ((x3.1++[v27]).length)),(12,.own 8 0 ((x3.2.1++[v26.1]).length)),(13,.int x1.2.2),(15,.ptr 3 0 0),(16,.list 3 (v20.2.1.map eM)),(18,.list 6 (v21.1.map eR)),(19,.list 1 (v21.2.1.map (dH 3 eM))),(21,.int x3.2.2)] [(0,⟨6,[eR a0]⟩),(3,⟨6,[eR v20.1]⟩),(6,⟨6,List.map eR (x3.1++[v27])⟩),(8,⟨1,List.map (ow (dH 3 eM)) (x3.2.1++[v26.1])⟩)] 9 ⟨0,false,none,true⟩) (Ent.trans (dB (b:=8) (b':=4) (j:=0) (es':=v26.1.map eM) k k k k (aG _ _) (bK.frzs _)) (bU (jU 4 k2 (fU ⟨_,k,⟨k,k,(by simp only [aG,lA,lT,lR,lC,lN]),k⟩⟩ (bJ k2))) (bF k<|bF k<|cA (dY.plainE _) k<|hX ⟨_,k,k,.inl ⟨fD v26.1 k,bY.plainO _⟩⟩ k<|aU) k4))<|rg<|am k k<|ae (bG k k) k<|aT k2<|sp h ⟨_,k,(gA [0,6,8,3] (bJ k2) (bF k<|cA (dY.plainE _) k<|cA (bY.plainO _) k<|bF k<|aU) k4)⟩
    ·rintro e t ⟨rfl,hent⟩;exact aM<|aY<|tn<|aD hent<|rg<|am k k<|ae (bG k k) k<|aT k2<|sp h ⟨_,k,(bU (bJ k2) (bF k<|cA (dY.plainE _) k<|cA (bY.plainO _) k<|aU) k4)⟩
  ·intro e t hX;rcases y31 with y32|y33
   ·obtain ⟨rfl,hent⟩:=hX;exact aM<|tn<|aD hent<|sR<|am k k<|am k k<|aa k k<|aa k k<|aT k2<|aE<|sp h ⟨mN [(2,.own 0 0 y32.1.length),(3,.own 1 0 y32.2.length),(4,.bl true)] [(0,⟨6,y32.1.map eR⟩),(1,⟨1,y32.2.map (dH 3 eM)⟩)] 2 ⟨0,false,none,true⟩,(Ent.trans (nF (b:=1) bY k) (bU (bJ k2) (cA (dY.plainE _) k<|cA (bY.plainE _) k<|aU) k4)),k,⟨_,k,.inr ⟨(by simp),k,k⟩⟩,⟨k,k,aU⟩⟩
   ·obtain ⟨rfl,hent⟩:=hX;exact bN<|aJ<|sp h ⟨mN [(2,.own 0 0 (([]:(List Rp)).length)),(3,.own 1 0 (([]:(List (List Mt))).length)),(4,.bl false)] [(0,⟨6,List.map eR ([]:(List Rp))⟩),(1,⟨1,List.map (dH 3 eM) ([]:(List (List Mt)))⟩)] 2 ⟨0,false,none,true⟩,(Ent.trans (Ent.trans (Ent.trans hent (nF (b:=0) dY k)) (nF (b:=1) bY k)) (bU (bJ k2) (cA (dY.plainE _) k<|cA (bY.plainE _) k<|aU) k4)),k,⟨_,k,.inr ⟨(by simp),k,k⟩⟩,⟨k,k,aU⟩⟩
theorem aCk: ∀ (n:Nat) (a0:Rp) (r:((List Rp)×(List (List Mt))×Bool)),gK n a0=some r→HasE Tryz.prog 161 [.agg (eR a0)] [] 0 (.tuple [.own 0 0 r.1.length,.own 1 0 r.2.1.length,.bl r.2.2]) [(0,⟨6,r.1.map eR⟩),(1,⟨1,r.2.1.map (dH 3 eM)⟩)]
 |0,a0,r,h=>by cases h
 |n+1,a0,r,h=>aFX (gK n) a0 (aCk n) r h
def tZ (a0:Mt) (a1:Mt):Option Mt:=
 (gQ a0).bind λv1=>
 bif decide (([]:(List Int)).length +v1.cells.length≤4294967296) then
 ((gQ a1).bind λv3=>
 bif decide ((([]:(List Int))++v1.cells).length +v3.cells.length≤4294967296) then
 ((gQ (⟨wr (a0.cols+a1.cols),a0.rows,((([]:(List Int))++v1.cells)++v3.cells)⟩:Mt)).bind λv5=>
 some (v5))
 else none)
 else none
theorem aGS (a0:Mt) (a1:Mt) (r:Mt) (h:tZ a0 a1=some r):HasC Tryz.prog 163 [.agg (eM a0),.agg (eM a1)] (.agg (eM r)):=by
 refine hM [.cell 4 130] Tryz.func163 Tryz.ntmps163 k<|sR<|ae (wb k) k<|ae (wb k) k<|ae (bX aO k k) k<|an<|tn<|sQ<|aP eP<|fp k8<|lp k8<|fp k8<|lp k8<|ae (bG k k) k<|fp k8<|lp k8<|ae (wl k) k<|lp k8<|oB h λv1 hv1 h=>ae (cM (pU a0 v1 hv1) k3 (aI (eD k) aN)) k<|ae (aHn aO k k k k k k k) k<|cG h λq2 h=>ae (oH aO (l:=([]:(List Int))) (m:=v1.cells) jT q2 k k k k k (aSN cU k k) k k k k k k) k<|lp k8<|oB h λv3 hv3 h=>ae (cM (pU a1 v3 hv3) k3 (aI (eD k) aN)) k<|ae (aHn aO k k k k k k k) k<|cG h λq4 h=>ae (oH aO (l:=(([]:(List Int))++v1.cells)) (m:=v3.cells) jT q4 k k k k k (aSN cU k k) k k k k k k) k<|ae (gC aO k k k k k k) k<|oB h λv5 hv5 h=>ae (cM (pU (⟨wr (a0.cols+a1.cols),a0.rows,((([]:(List Int))++v1.cells)++v3.cells)⟩:Mt) v5 hv5) k3 (aI (vaM k2) aN)) k<|ae (ws k) k<|an ?_;exact lL (by kernel_rfl)<|tn<|aE<|sp h (bC k k k (gW (aZ (k) (aZ (k) (aZ (cN cU k k) eJ)))))
def mY (v5:((List Rp)×(List (List Mt))×Bool)) (x1:((List Mt)×Int)) (x2:(Int×Int×(List Int)×Int)):Option ((Int×Int×(List Int)×Int) ⊕ (Int×Int×(List Int))):=
 bif decide (x2.2.2.2<((v5.2.1.length:Nat):Int)) then
 ((cP v5.2.1 x2.2.2.2).bind λv11=>
 (cP v11 x1.2).bind λv12=>
 (tZ (⟨x2.1,x2.2.1,x2.2.2.1⟩:Mt) v12).bind λv13=>
 some (.inl (v13.rows,v13.cols,v13.cells,wr (x2.2.2.2+1))))
 else
 (some (.inr (x2.1,x2.2.1,x2.2.2.1)))
def mZ (a0:Rp) (v5:((List Rp)×(List (List Mt))×Bool)) (x1:((List Mt)×Int)):Option (((List Mt)×Int) ⊕ (List Mt)):=
 bif decide (x1.2<(a0.dims.length:Int)) then
 ((cP a0.dims x1.2).bind λv8=>
 (kH v8 0).bind λv9=>
 (Lp (mY v5 x1) (v9.rows,v9.cols,v9.cells,0)).bind λy14=>
 bif decide (x1.1.length+1≤4294967296) then
 (some (.inl ((x1.1++[(⟨y14.1,y14.2.1,y14.2.2⟩:Mt)]),wr (x1.2+1))))
 else none)
 else
 (some (.inr x1.1))
def xT (a0:Rp):Option ((List Rp)×(List Mt)×Bool):=
 (iU a0).bind λv1=>
 bif !v1 then
 (some (([]:(List Rp)),([]:(List Mt)),false))
 else
 ((sD a0).bind λv3=>
 bif decide (v3=0) then
 (some (([]:(List Rp)),([]:(List Mt)),false))
 else
 ((gK 9 a0).bind λv5=>
 bif !v5.2.2 then
 (some (([]:(List Rp)),([]:(List Mt)),false))
 else
 ((Lp (mZ a0 v5) (([]:(List Mt)),0)).bind λy16=>
 some (v5.1,y16,true))))
theorem aJU (a0:Rp) (r:((List Rp)×(List Mt)×Bool)) (h:xT a0=some r):HasE Tryz.prog 92 [.agg (eR a0)] [] 0 (.tuple [.own 0 0 r.1.length,.own 1 0 r.2.1.length,.bl r.2.2]) [(0,⟨6,r.1.map eR⟩),(1,⟨3,r.2.1.map (ow eM)⟩)]:=by
 refine aDb aO (rvs:=[.tmp 2,.tmp 3,.tmp 4]) (ns:=nmA.drop 0) Tryz.func92 k k Tryz.ntmps92 k k<|sR<|ae (wb k) k<|aa k k<|aa k k<|aT k2<|sQ<|sR<|lp k8<|oB h λv1 hv1 h=>ae (aS (pP a0 v1 hv1) k (aI (eD k) aN)) k<|ae (dS k) k<|am k k<|rT h (λq2 h=>aQ 15 k q2<|aK k4<|ak k k<|pk k3<|an<|tn<|dK k k<|sR<|ae (wl k) k<|ae (wl k) k<|aa k k<|aa k k<|aT k2<|aD (t:=mN [(2,.own 1 0 (([]:(List Rp)).length)),(3,.own 2 0 (([]:(List Mt)).length)),(4,.bl false)] [(1,⟨6,List.map (ow eR) ([]:(List Rp))⟩),(2,⟨3,List.map (ow eM) ([]:(List Mt))⟩)] 3 ⟨0,false,none,true⟩) (bU (fU ⟨_,k,⟨k,k,(by simp only [aG,lA,lT,lR,lC,lN]),k⟩⟩ (fU ⟨_,k,⟨k,k,(by simp only [aG,lA,lT,lR,lC,lN]),k⟩⟩ (bJ k2))) (cA (dY.plainO _) k<|cA (bK.plainO _) k<|aU) k4)<|aE<|aJ<|sp h ⟨mN [(2,.own 0 0 (([]:(List Rp)).length)),(3,.own 1 0 (([]:(List Mt)).length)),(4,.bl false)] [(0,⟨6,List.map eR ([]:(List Rp))⟩),(1,⟨3,List.map (ow eM) ([]:(List Mt))⟩)] 2 ⟨0,false,none,true⟩,(Ent.trans (nF (b:=1) dY k) (gA [1,2] (bJ k2) (cA (dY.plainE _) k<|cA (bK.plainO _) k<|aU) k4)),k,⟨_,k,.inr ⟨(by simp),k,k⟩⟩,⟨k,k,aU⟩⟩) λq2 h=>?_;refine aQ 15 k q2<|lp k8<|oB h λv3 hv3 h=>ae (aS (aDO a0 v3 hv3) k (aI (eD k) aN)) k<|cm k4<|pk k3<|an<|tn<|cW k h (λ_ h=>sR<|ae (wl k) k<|ae (wl k) k<|aa k k<|aa k k<|aT k2<|aD (t:=mN [(2,.own 1 0 (([]:(List Rp)).length)),(3,.own 2 0 (([]:(List Mt)).length)),(4,.bl false)] [(1,⟨6,List.map (ow eR) ([]:(List Rp))⟩),(2,⟨3,List.map (ow eM) ([]:(List Mt))⟩)] 3 ⟨0,false,none,true⟩) (bU (fU ⟨_,k,⟨k,k,(by simp only [aG,lA,lT,lR,lC,lN]),k⟩⟩ (fU ⟨_,k,⟨k,k,(by simp only [aG,lA,lT,lR,lC,lN]),k⟩⟩ (bJ k2))) (cA (dY.plainO _) k<|cA (bK.plainO _) k<|aU) k4)<|aE<|aJ<|sp h ⟨mN [(2,.own 0 0 (([]:(List Rp)).length)),(3,.own 1 0 (([]:(List Mt)).length)),(4,.bl false)] [(0,⟨6,List.map eR ([]:(List Rp))⟩),(1,⟨3,List.map (ow eM) ([]:(List Mt))⟩)] 2 ⟨0,false,none,true⟩,(Ent.trans (nF (b:=1) dY k) (gA [1,2] (bJ k2) (cA (dY.plainE _) k<|cA (bK.plainO _) k<|aU) k4)),k,⟨_,k,.inr ⟨(by simp),k,k⟩⟩,⟨k,k,aU⟩⟩) λ_ h=>?_;refine aH<|tn<|sR<|lp k8<|oB h λv5 hv5 h=>ae (aBw (σ:=sg []) (σ':=sg [(1,0),(2,1)]) (touch:=[]) (news:=[1,2]) (hl2:=[(1,⟨6,v5.1.map eR⟩),(2,⟨1,v5.2.1.map (dH 3 eM)⟩)]) (n':=3) (r2:= .tuple [.own 1 0 v5.1.length,.own 2 0 v5.2.1.length,.bl v5.2.2]) (aCk 9 a0 v5 hv5) k k ⟨_,_,k,(.inl ⟨_,_,k,k,⟨_,_,k,k,⟨_,_,k,⟨k,k⟩,⟨_,_,k,⟨k,k⟩,⟨_,_,k,⟨k,k⟩,⟨_,_,k,⟨k,k⟩,k⟩⟩⟩⟩⟩⟩),k⟩ aU k k k ⟨⟨_,k,k,.inl ⟨k,dY.plainE _⟩⟩,k,⟨_,k,k,.inl ⟨k,bY.plainE _⟩⟩,k,aU⟩ k (.inr ⟨_,_,k,k,⟨_,_,k,⟨k,k,(by simp only [aG,lA,lT,lR,lC,lN]),k⟩,⟨_,_,k,⟨k,k,(by simp only [aG,lA,lT,lR,lC,lN]),k⟩,⟨_,_,k,k,k⟩⟩⟩⟩) k ⟨k,dY.tamdE _ _,⟨k,bY.tamdE _ _,aU⟩⟩ k k) k<|am k k<|ae (bA k k (by intro _ h;cases h)) k<|ae (bA k k (by intro _ h;cases h)) k<|ae (bA k k (by intro _ h;cases h)) k<|aa k k<|aa k k<|aT k2<|sQ<|sR<|am k k<|ae (dS k) k<|an<|tn<|cW k h (λ_ h=>sR<|ae (wl k) k<|ae (wl k) k<|aa k k<|aa k k<|aT k2<|aD (t:=mN [(2,.own 3 0 (([]:(List Rp)).length)),(3,.own 4 0 (([]:(List Mt)).length)),(4,.bl false)] [(3,⟨6,List.map (ow eR) ([]:(List Rp))⟩),(4,⟨3,List.map (ow eM) ([]:(List Mt))⟩)] 5 ⟨0,false,none,true⟩) (bU (fU ⟨_,k,⟨k,k,(by simp only [aG,lA,lT,lR,lC,lN]),k⟩⟩ (fU ⟨_,k,⟨k,k,(by simp only [aG,lA,lT,lR,lC,lN]),k⟩⟩ (bJ k2))) (cA (dY.plainO _) k<|cA (bK.plainO _) k<|aU) k4)<|aE<|aJ<|sp h ⟨mN [(2,.own 0 0 (([]:(List Rp)).length)),(3,.own 1 0 (([]:(List Mt)).length)),(4,.bl false)] [(0,⟨6,List.map eR ([]:(List Rp))⟩),(1,⟨3,List.map (ow eM) ([]:(List Mt))⟩)] 2 ⟨0,false,none,true⟩,(Ent.trans (nF (b:=3) dY k) (gA [3,4] (bJ k2) (cA (dY.plainE _) k<|cA (bK.plainO _) k<|aU) k4)),k,⟨_,k,.inr ⟨(by simp),k,k⟩⟩,⟨k,k,aU⟩⟩) λ_ h=>?_;refine aH<|tn<|sR<|ae (wl k) k<|aT k2<|aD (t:=mN [(1,.ptr 0 0 0),(5,.own 1 0 v5.1.length),(6,.own 2 0 v5.2.1.length),(8,.own 3 0 (([]:(List Mt)).length))] [(0,⟨6,[eR a0]⟩),(1,⟨6,v5.1.map eR⟩),(2,⟨1,v5.2.1.map (dH 3 eM)⟩),(3,⟨3,List.map (ow eM) ([]:(List Mt))⟩)] 4 ⟨0,false,none,true⟩) (bU (jU 3 k2 (fU ⟨_,k,⟨k,k,(by simp only [aG,lA,lT,lR,lC,lN]),k⟩⟩ aU)) (bF k<|cA (dY.plainE _) k<|cA (bY.plainE _) k<|cA (bK.plainO _) k<|aU) k4)<|sQ<|sR<|aT k2<|aC<|oB h λy16 hy16 h=>bZ (body:=(mZ a0 v5)) hy16 (λ(x1:((List Mt)×Int))=>mN [(1,.ptr 0 0 0),(5,.own 1 0 v5.1.length),(6,.own 2 0 v5.2.1.length),(8,.own 3 0 x1.1.length),(9,.int x1.2)] [(0,⟨6,[eR a0]⟩),(1,⟨6,v5.1.map eR⟩),(2,⟨1,v5.2.1.map (dH 3 eM)⟩),(3,⟨3,x1.1.map (ow eM)⟩)] 4 ⟨0,false,none,true⟩) (λr e t=>e= .exit 0∧Ent t (mN [(5,.own 0 0 v5.1.length),(8,.own 1 0 r.length)] [(0,⟨6,v5.1.map eR⟩),(1,⟨3,r.map (ow eM)⟩)] 2 ⟨0,false,none,true⟩)) (bU (bJ k2) (bF k<|cA (dY.plainE _) k<|cA (bY.plainE _) k<|cA (bK.plainO _) k<|aU) k4) ?_ ?_
 ·intro x1 o h;refine sQ<|sR<|am k k<|fp k8<|lp k8<|ln k4<|cm k4<|an<|tn<|cW k h (λ_ h=>?_) λ_ h=>aX<|aB<|aB<|sp h ⟨_,k,k,(gA [1,3] (bJ k2) (cA (dY.plainE _) k<|cA (bK.plainO _) k<|aU) k4)⟩;refine aH<|tn<|sQ<|aC<|sR<|fp k8<|lp k8<|am k k<|oB h λv8 hv8 h=>ae (xl hv8 k) k<|lr k7<|oB h λv9 hv9 h=>ae (cM (uV v8 0 v9 hv9) k3 (cI k (cI k aN))) k<|ae (bX aO k k) k<|ae (ws k) k<|an<|tn<|sQ<|sR<|aT k2<|aC<|oB h λy14 hy14 h=>bZ (body:=(mY v5 x1)) hy14 (λ(x2:(Int×Int×(List Int)×Int))=>mN [(1,.ptr 0 0 0),(5,.own 1 0 v5.1.length),(6,.own 2 0 v5.2.1.length),(8,.own 3 0 x1.1.length),(9,.int x1.2),(10,.ptr 4 0 0),(11,.int x2.2.2.2)] [(0,⟨6,[eR a0]⟩),(1,⟨6,v5.1.map eR⟩),(2,⟨1,v5.2.1.map (dH 3 eM)⟩),(3,⟨3,x1.1.map (ow eM)⟩),(4,⟨3,[[.int x2.1,.int x2.2.1,.own 5 0 x2.2.2.1.length]]⟩),(5,⟨1,x2.2.2.1.map (ow eI)⟩)] 6 ⟨0,false,none,true⟩) (λr e t=>e= .exit 2∧Ent t (mN [(1,.ptr 0 0 0),(5,.own 1 0 v5.1.length),(6,.own 2 0 v5.2.1.length),(8,.own 3 0 x1.1.length),(9,.int x1.2),(10,.ptr 4 0 0)] [(0,⟨6,[eR a0]⟩),(1,⟨6,v5.1.map eR⟩),(2,⟨1,v5.2.1.map (dH 3 eM)⟩),(3,⟨3,x1.1.map (ow eM)⟩),(4,⟨3,[[.int r.1,.int r.2.1,.own 5 0 r.2.2.length]]⟩),(5,⟨1,r.2.2.map (ow eI)⟩)] 6 ⟨0,false,none,true⟩)) (gA [0,1,2,3,5,4] (bJ k2) (bF k<|cA (dY.plainE _) k<|cA (bY.plainE _) k<|cA (bK.plainO _) k<|eC k<|bO k<|aU) k4) ?_ ?_
  ·intro x2 o h;exact sQ<|sR<|am k k<|am k k<|ae (dI aO k k k k) k<|cm k4<|an<|tn<|cW k h (λ_ h=>aH<|tn<|sQ<|aC<|aP eP<|lp k8<|am k k<|am k k<|oB h λv11 hv11 h=>ae (xo hv11 k) k<|ae (wp hv11 k) k<|am k k<|oB h λv12 hv12 h=>ae (xl hv12 k) k<|lr k7<|oB h λv13 hv13 h=>ae (cM (aGS (⟨x2.1,x2.2.1,x2.2.2.1⟩:Mt) v12 v13 hv13) k3 (aI (vaM k2) (aI (eD k) aN))) k<|ae (ws k) k<|an<|lL (by kernel_rfl)<|aY<|tn<|rg<|am k k<|ae (bG k k) k<|aT k2<|sp h ⟨_,k,(gA [0,1,2,3,4,6] (bJ k2) (bF k<|cA (dY.plainE _) k<|cA (bY.plainE _) k<|cA (bK.plainO _) k<|eC k<|bO k<|aU) k4)⟩) λ_ h=>aX<|aB<|aB<|sp h ⟨_,k,k,(bU (bJ k2) (bF k<|cA (dY.plainE _) k<|cA (bY.plainE _) k<|cA (bK.plainO _) k<|eC k<|bO k<|aU) k4)⟩
  ·rintro e t ⟨rfl,hent⟩;exact aM<|tn<|aD hent<|rg<|am k k<|lp k8<|ae (wl k) k<|cG h λq15 h=>ae (eW aO (l:=x1.1) (c:=[.int y14.1,.int y14.2.1,.own 5 0 y14.2.2.length]) q15 k k k k k k k k k k k k k k) k<|aa k k<|an<|aY<|tn<|aD (t:=mN [(1,.ptr 0 0 0),(5,.own 1 0 v5.1.length),(6,.own 2 0 v5.2.1.length),(8,.own 7 0 ((x1.1++[(⟨y14.1,y14.2.1,y14.2.2⟩:Mt)]).length)),(9,.int x1.2)] [(0,⟨6,[eR a0]⟩),(1,⟨6,v5.1.map eR⟩),(2,⟨1,v5.2.1.map (dH 3 eM)⟩),(7,⟨3,List.map (ow eM) (x1.1++[(⟨y14.1,y14.2.1,y14.2.2⟩:Mt)])⟩)] 8 ⟨0,false,none,true⟩) (Ent.trans (dB (b:=7) (b':=5) (j:=2) (es':=y14.2.2.map eI) k k k k (aG _ _) (cU.frzs _)) (bU (jU 3 k2 (fU ⟨_,k,⟨k,k,(by simp only [aG,lA,lT,lR,lC,lN]),k⟩⟩ (bJ k2))) (bF k<|cA (dY.plainE _) k<|cA (bY.plainE _) k<|hX ⟨_,k,k,.inl ⟨fD (⟨y14.1,y14.2.1,y14.2.2⟩:Mt) k,bK.plainO _⟩⟩ k<|aU) k4))<|rg<|am k k<|ae (bG k k) k<|aT k2<|sp h ⟨_,k,(gA [0,1,2,7] (bJ k2) (bF k<|cA (dY.plainE _) k<|cA (bY.plainE _) k<|cA (bK.plainO _) k<|aU) k4)⟩
 ·rintro e t ⟨rfl,hent⟩;exact aM<|tn<|aD hent<|sR<|am k k<|am k k<|aa k k<|aa k k<|aT k2<|aE<|sp h ⟨mN [(2,.own 0 0 v5.1.length),(3,.own 1 0 y16.length),(4,.bl true)] [(0,⟨6,v5.1.map eR⟩),(1,⟨3,y16.map (ow eM)⟩)] 2 ⟨0,false,none,true⟩,(bU (bJ k2) (cA (dY.plainE _) k<|cA (bK.plainO _) k<|aU) k4),k,⟨_,k,.inr ⟨(by simp),k,k⟩⟩,⟨k,k,aU⟩⟩
end
noncomputable section
theorem aNy (F G:Nat→Nat→Int) (i j:Nat): ∀ n,aBY F G i j n=sN (λt=>F i t*G t j) n
 |0=>rfl
 |n+1=>by simp only [aBY,sN,aNy F G i j n]
theorem nZ (p:Int) (n:Nat) (F G:Nat→Nat→Int) (i j:Nat):gX p n F G i j=sN (λt=>F i t*G t j) n % p:=by unfold gX;rw [aNy]
theorem aTN (p x y:Int):(x % p*y) % p=(x*y) % p:=by rw [Int.mul_emod,Int.emod_emod_of_dvd _ (Int.dvd_refl p),←Int.mul_emod]
theorem aTO (p x y:Int):(x*(y % p)) % p=(x*y) % p:=by rw [Int.mul_emod,Int.emod_emod_of_dvd _ (Int.dvd_refl p),←Int.mul_emod]
theorem aNz {p:Int} {n:Nat} {F F' G:Nat→Nat→Int} {i j:Nat} (h: ∀ t,t<n→F i t=F' i t):gX p n F G i j=gX p n F' G i j:=by
 rw [nZ,nZ];rw [cO λt ht=>by rw [h t ht]]
theorem aOA {p:Int} {n:Nat} {F G G':Nat→Nat→Int} {i j:Nat} (h: ∀ t,t<n→G t j=G' t j):gX p n F G i j=gX p n F G' i j:=by
 rw [nZ,nZ];rw [cO λt ht=>by rw [h t ht]]
theorem aEm (p:Int) (m n:Nat) (F G H:Nat→Nat→Int) (i j:Nat):gX p m (gX p n F G) H i j=gX p n F (gX p m G H) i j:=by
 rw [nZ,nZ]
 have h1:sN (λt=>gX p n F G i t*H t j) m % p=sN (λt=>H t j*sN (λq=>F i q*G q t) n) m % p:=aKs λt _=>by
  rw [nZ,aTN,Int.mul_comm]
 have h2:sN (λq=>F i q*gX p m G H q j) n % p=sN (λq=>F i q*sN (λt=>H t j*G q t) m) n % p:=aKs λq _=>by
  rw [nZ,aTO];congr 2;exact cO λt _=>Int.mul_comm _ _
 rw [h1,h2];exact congrArg (· % p) (zE (λt=>H t j) (F i) G n m)
theorem aPR {p:Int} {n:Nat} {F:Nat→Nat→Int} {i j:Nat} (hj:j<n) (h:0≤F i j∧F i j<p):gX p n F nI i j=F i j:=by
 rw [nZ,aAJ hj λt _ ht=>by simp only [nI];rw [aW ht,Int.mul_zero]];rw [show nI j j=1 from aV rfl,Int.mul_one];exact Int.emod_eq_of_lt h.1 h.2
theorem aPS {p:Int} {n:Nat} {F:Nat→Nat→Int} {i j:Nat} (hi:i<n) (h:0≤F i j∧F i j<p):gX p n nI F i j=F i j:=by
 rw [nZ,aAJ hi λt _ ht=>by simp only [nI];rw [aW (λe=>ht e.symm),Int.zero_mul]];rw [show nI i i=1 from aV rfl,Int.one_mul];exact Int.emod_eq_of_lt h.1 h.2
theorem aTP {p:Int} (hp:kL p=true) (r c:Nat):wK p r c nI:=λi j _ _=>by
 have:=dZ hp;unfold nI;split <;> omega
def uP (a b:Rp) (P:Nat→Nat→Nat→Int):List Mt:=(List.range a.dims.length).map λv=>(⟨dN b v,dN a v,bT (dN b v) (dN a v) (P v)⟩:Mt)
structure Mor (a b:Rp) (P:Nat→Nat→Nat→Int):Prop where
 inp: ∀ v,v<a.dims.length→wK a.p (dN b v) (dN a v) (P v)
 eq: ∀ i,i<a.q.src.length→ ∀ r k,r<dN b (tV a i)→k<dN a (sV a i)→gX a.p (dN b (sV a i)) (aF b i) (P (sV a i)) r k=gX a.p (dN a (tV a i)) (P (tV a i)) (aF a i) r k
theorem aTQ {a:Rp} (h:Rv a):Mor a a (λ_=>nI):=by
 refine ⟨λv _=>aTP h.hp _ _,λi hi r k hr hk=>?_⟩;have hm:=(h.m i hi).2 r k hr hk;rw [aPR hk hm,aPS hr hm]
theorem aOB {a b c:Rp} (h1:Fit a b) {P Q:Nat→Nat→Nat→Int} (f:Mor a b P) (g:Mor b c Q):Mor a c (λv=>gX a.p (dN b v) (Q v) (P v)):=by
 refine ⟨λv _=>aFK h1.ra.hp _ _ _ _ _,λi hi r k hr hk=>?_⟩;have hib:i<b.q.src.length:=by rw [h1.qe];exact hi
 have ge:=g.eq i hib;rw [h1.sV,h1.tV,h1.pe] at ge;rw [←aEm,aNz λt ht=>ge r t hr ht,aEm,aOA λt ht=>f.eq i hi t k ht hk,←aEm]
theorem aVn {a:Rp} (h:Fit a a) (c:Nat):Mor a a (gM a a (coF a a c)):=⟨λv hv=>(aNp h c).inP hv,λi hi r k hr hk=>aVD h hi hr hk c⟩
section
variable {a b:Rp} (ha:bR a) (hb:bR b) (hf:zY a b=true) {P:Nat→Nat→Nat→Int} (hm:Mor a b P)
include ha hb hf hm
theorem aPT:iQ a b (uP a b P)=some true:=by
 have h:=aAt hf;have n5:=h.ra.n5;have hf':=hf;unfold zY at hf';have hlen:(uP a b P).length=a.dims.length:=by simp [uP]
 unfold iQ;rw [aHl ha hb,aA,hf',eN,aR,bB (by omega),eN,aR];rw [uL (n:=a.dims.length) (λ_=>true) false (by omega) (λv hv=>?_) (λ_=>?_),aA]
 ·rw [show (List.range a.dims.length).all (λ_=>true)=true by simp];rfl
 ·have hvb:v<b.dims.length:=by rw [h.ne];exact hv
  have d1:=(h.ra.d v hv);have d2:=(h.rb.d v hvb);have m4:=Nat.mul_le_mul d2.2 d1.2;unfold gG;rw [hlen,fX hv,aL];unfold uP;rw [mQ hv,aA,aBu _ ⟨by unfold bI;simp only;rw [dO];omega,trivial⟩,aLF h.ra.hp (by omega) (by omega) (hm.inp v hv),aA,eN,aR,aA,hJ 0 hv,aA,d1.1,bB rfl,eN,aR,aA,hJ 0 hvb,aA,d2.1,bB rfl];rfl
 ·unfold gG;rw [hlen,gI (bH _),aR]
theorem aFY:eY a b (uP a b P)=some true:=by
 have h:=aAt hf;have e6:=h.ra.e6;unfold eY;rw [aPT ha hb hf hm,aA,eN,aR];rw [uL (n:=a.maps.length) (λ_=>true) false (by have:=h.ra.ml;omega) (λi hi=>?_) (λ_=>?_),aA]
 ·rw [show (List.range a.maps.length).all (λ_=>true)=true by simp];rfl
 ·have hi':i<a.q.src.length:=by have:=h.ra.ml;omega
  have hib:i<b.q.src.length:=by rw [h.qe];exact hi'
  obtain ⟨s1,s2⟩:=h.ra.s i hi';obtain ⟨t1,t2⟩:=h.ra.t i hi';have s3:sV a i<b.dims.length:=by rw [h.ne];exact s2
  have t3:tV a i<b.dims.length:=by rw [h.ne];exact t2
  obtain ⟨m1,m2⟩:=h.ra.m i hi';obtain ⟨g1,g2⟩:=h.rb.m i hib;rw [h.sV,h.tV] at g1 g2;rw [h.pe] at g2;have da:=h.ra.d _ s2;have da2:=h.ra.d _ t2;have db:=h.rb.d _ s3;have db2:=h.rb.d _ t3
  have e:bT (dN b (tV a i)) (dN a (sV a i)) (gX a.p (dN b (sV a i)) (aF b i) (P (sV a i)))=bT (dN b (tV a i)) (dN a (sV a i)) (gX a.p (dN a (tV a i)) (P (tV a i)) (aF a i)):=
   cC λr k hr hk=>hm.eq i hi' r k hr hk
  have m4:=Nat.mul_le_mul db2.2 da.2;unfold gS;rw [fX hi,aL];unfold uP;rw [hJ ⟨0,0,[]⟩ (by rw [h.rb.ml];exact hib),aA,g1,hJ 0 hi',aA,s1,mQ s2,aA,mK h.ra.hp (sq db2.2 db.2) (sq db.2 da.2) (sq db2.2 da.2) (by omega) (by omega) (by omega) g2 (hm.inp _ s2),aA,hJ 0 (by have:=h.ra.tl;omega),aA,t1,mQ t2,aA,hJ ⟨0,0,[]⟩ hi,aA,m1,mK h.ra.hp (sq db2.2 da2.2) (sq da2.2 da.2) (sq db2.2 da.2) (by omega) (by omega) (by omega) (hm.inp _ t2) m2,aA,e,aLE (by unfold bI;simp only;rw [dO];omega),aA];rfl
 ·unfold gS;rw [gI (bH _),aR]
end
theorem xU {a b:Rp} {P:Nat→Nat→Nat→Int} {v:Nat} (h:v<a.dims.length):cP (uP a b P) (v:Int)=some ⟨dN b v,dN a v,bT (dN b v) (dN a v) (P v)⟩:=mQ h
theorem qI (a b:Rp) (P:Nat→Nat→Nat→Int):(uP a b P).length=a.dims.length:=by simp [uP]
section
variable {a b c:Rp} (h1:Fit a b) (h2:Fit b c) {P Q:Nat→Nat→Nat→Int} (f:Mor a b P) (g:Mor b c Q)
include h1 h2 f g
theorem aPU:lS a.p (uP a b P) (uP b c Q)=some (uP a c λv=>gX a.p (dN b v) (Q v) (P v)):=by
 have n5:=h1.ra.n5;unfold lS;rw [cF (s:=(([]:List Mt),(0:Int))) (r:=uP a c λv=>gX a.p (dN b v) (Q v) (P v)) (λk=>((List.range k).map λv=>(⟨dN c v,dN a v,bT (dN c v) (dN a v) (gX a.p (dN b v) (Q v) (P v))⟩:Mt),(k:Int))) a.dims.length rfl (λv hv=>?_) (λ_=>?_),aA]
 ·have hvb:v<b.dims.length:=by rw [h1.ne];exact hv
  have hvc:v<c.dims.length:=by rw [h2.ne];exact hvb
  have d1:=(h1.ra.d v hv).2;have d2:=(h1.rb.d v hvb).2;have d3:=(h2.rb.d v hvc).2;have gi:=g.inp v hvb;rw [h1.pe] at gi;unfold pZ;simp only;rw [qI,fX hv,aL,xU hv,aA,xU hvb,aA,aFL h1.ra.hp (sq d3 d2) (sq d2 d1) (sq d3 d1) (by omega) (by omega) (by omega) gi (f.inp v hv),aA,bB (by simp;omega),aL,bP hv (by omega)];congr 3;exact jD (f:=λv=>(⟨dN c v,dN a v,bT (dN c v) (dN a v) (gX a.p (dN b v) (Q v) (P v))⟩:Mt))
 ·unfold pZ;simp only;rw [qI,gI (bH _),aR];rfl
theorem aPV (ha:bR a) (hb:bR b) (hc:bR c) (f1:zY a b=true) (f2:zY b c=true):fT a b c (uP a b P) (uP b c Q)=some (uP a c (λv=>gX a.p (dN b v) (Q v) (P v)),true):=by
 have n5:=h1.ra.n5;unfold fT;rw [aFY ha hb f1 f,aA,eN,aR,aFY hb hc f2 g,aA,eN,aR];rw [cF (s:=(([]:List Mt),(0:Int))) (r:=uP a c λv=>gX a.p (dN b v) (Q v) (P v)) (λk=>((List.range k).map λv=>(⟨dN c v,dN a v,bT (dN c v) (dN a v) (gX a.p (dN b v) (Q v) (P v))⟩:Mt),(k:Int))) a.dims.length rfl (λv hv=>?_) (λ_=>?_),aA]
 ·have hvb:v<b.dims.length:=by rw [h1.ne];exact hv
  have hvc:v<c.dims.length:=by rw [h2.ne];exact hvb
  have d1:=(h1.ra.d v hv).2;have d2:=(h1.rb.d v hvb).2;have d3:=(h2.rb.d v hvc).2;have gi:=g.inp v hvb;rw [h1.pe] at gi;unfold iH;simp only;rw [qI,fX hv,aL,xU hvb,aA,xU hv,aA,mK h1.ra.hp (sq d3 d2) (sq d2 d1) (sq d3 d1) (by omega) (by omega) (by omega) gi (f.inp v hv),aA,bB (by simp;omega),aL,bP hv (by omega)];congr 3;exact jD (f:=λv=>(⟨dN c v,dN a v,bT (dN c v) (dN a v) (gX a.p (dN b v) (Q v) (P v))⟩:Mt))
 ·unfold iH;simp only;rw [qI,gI (bH _),aR];rfl
end
theorem aTR {a:Rp} (h:Rv a):rM a.dims=some (uP a a λ_=>nI):=by
 have n5:=h.n5;unfold rM;rw [cF (s:=(([]:List Mt),(0:Int))) (r:=uP a a λ_=>nI) (λk=>((List.range k).map λv=>(⟨dN a v,dN a v,bT (dN a v) (dN a v) nI⟩:Mt),(k:Int))) a.dims.length rfl (λv hv=>?_) (λ_=>?_),aA]
 ·have d1:=h.d v hv;unfold mU;simp only;rw [fX hv,aL,hJ 0 hv,aA,d1.1,aIk (sq d1.2 d1.2) (by omega),aA,bB (by simp;omega),aL,bP hv (by omega)];congr 3;exact jD (f:=λv=>(⟨dN a v,dN a v,bT (dN a v) (dN a v) nI⟩:Mt))
 ·unfold mU;simp only;rw [gI (bH _),aR];rfl
theorem aUf {a:Rp} (ha:bR a) (hv:rZ a=true):jM a=some (uP a a (λ_=>nI),true):=by
 have h:=aDI hv;have n5:=h.n5;unfold jM;rw [cF (s:=(([]:List Mt),(0:Int))) (r:=uP a a λ_=>nI) (λk=>((List.range k).map λv=>(⟨dN a v,dN a v,bT (dN a v) (dN a v) nI⟩:Mt),(k:Int))) a.dims.length rfl (λv hv'=>?_) (λ_=>?_),aA,yI ha,hv]
 ·rfl
 ·have d1:=h.d v hv';unfold iE;simp only;rw [fX hv',aL,yI ha,hv,aA,aL,hJ 0 hv',aA,d1.1,aFJ (sq d1.2 d1.2) (by omega),aA,bB (by simp;omega),aL,bP hv' (by omega)];congr 3;exact jD (f:=λv=>(⟨dN a v,dN a v,bT (dN a v) (dN a v) nI⟩:Mt))
 ·unfold iE;simp only;rw [gI (bH _),aR];rfl
end
noncomputable section
theorem aQU (n:Nat) (f x:Nat→Int):dt n f x=dt n x f:=cO λk _=>Int.mul_comm _ _
theorem aAw {p:Int} (hp:kL p=true) {n:Nat} {l:List (List Int)} (hl:wK p l.length n (cD l)) (x:Nat→Int):Kr p (fF p n l).length n (cD (fF p n l)) x↔Kr p l.length n (cD l) x:=by
 have hr:=aAm hp hl n (bH _);have hk:=aAY hp hl x n (bH _);have hm:=hr.len;rw [←hk];unfold fF;rw [pG];have e: ∀ i,i<(bW p l.length (cD l) n).2.length→dt n (cD (fZ (bW p l.length (cD l) n).1 (bW p l.length (cD l) n).2.length n) i) x=dt n ((bW p l.length (cD l) n).1 i) x:=λi hi=>cO λj hj=>by rw [aES _ _ _ _ _ hi hj]
 constructor
 ·intro h i hi;rcases dX i (bW p l.length (cD l) n).2.length with h'|h'
  ·rw [←e i h'];exact h i h'
  ·have e0:dt n ((bW p l.length (cD l) n).1 i) x=0:=by
    unfold dt;rw [cO (g:=λ_=>0) (λk hk=>by rw [hr.low i k h' hi hk];simp),yW]
   rw [e0];unfold Z0;simp
 ·intro h i hi;rw [e i hi];exact h i (by omega)
theorem aQV {p:Int} {m n:Nat} {R:Nat→Nat→Int} {L:List Nat} (h:Red m n R L) {x:Nat→Int} (hx: ∀ k,k<n→(∀ i,i<L.length→L[i]?.getD 0≠k)→Z0 p (dt n x (kx R L k))): ∀ k,k<n→x k % p=sN (λi=>x (L[i]?.getD 0)*R i k) L.length % p:=by
 intro k hk;by_cases hf: ∀ i,i<L.length→L[i]?.getD 0≠k
 ·have h1:=hx k hk hf;rw [aKt h hk hf x] at h1;exact Int.emod_eq_emod_iff_emod_sub_eq_zero.2 h1
 ·obtain ⟨j,hj,e⟩: ∃ j,j<L.length∧L[j]?.getD 0=k:=Classical.byContradiction λhn=>hf λi hi e=>hn ⟨i,hi,e⟩;have hm:=h.len
  rw [aAJ (j:=j) hj λi hi hne=>by
   have:=h.col j i hj (by omega) hne;rw [e] at this
   rw [this,Int.mul_zero]]
  have:=h.one j hj;rw [e] at this;rw [this,e,Int.mul_one]
theorem aRW {p:Int} {n:Nat} {F:Nat→Nat→Int} {L:List Nat} {k:Nat} (hk:k<n) (hL: ∀ i,i<L.length→L[i]?.getD 0≠k):aCz p n F L k L.length∈aCm p n F L:=by
 unfold aCm;refine List.mem_map.2 ⟨k,List.mem_filter.2 ⟨List.mem_range.2 hk,?_⟩,rfl⟩
 have:k ∉ L:=λh=>by
  obtain ⟨i,hi,e⟩:=List.getElem_of_mem h;exact hL i hi (by rw [gY hi];exact e)
 simpa using this
theorem aFZ {p:Int} {n:Nat} {l:List (List Int)} {x:Nat→Int} (h:Kr p l.length n (cD l) x) {w:List Int} (hw:w∈l):Z0 p (dt n (vAt w) x):=by
 obtain ⟨i,hi,rfl⟩:=List.getElem_of_mem hw;rw [aFT hi];exact h i hi
theorem aPW {p:Int} {n:Nat} {l:List (List Int)} {x:Nat→Int} (h: ∀ w∈l,Z0 p (dt n (vAt w) x)):Kr p l.length n (cD l) x:=λi hi=>by
 rw [←aFT hi];exact h _ (List.getElem_mem hi)
theorem aTS {p:Int} (hp:kL p=true) {m n:Nat} {F:Nat→Nat→Int} (hi:wK p m n F) {x:Nat→Int} (hx: ∀ w∈aCm p n (bW p m F n).1 (bW p m F n).2,Z0 p (dt n (vAt w) x)) {y:Nat→Int} (hy:Kr p m n F y):Z0 p (dt n y x):=by
 have hR:=aAm hp hi n (bH _);have hm:=hR.len;have hyR:=(aAY hp hi y n (bH _)).2 hy;generalize (bW p m F n).1=R at hR hx hyR;generalize (bW p m F n).2=L at hR hx hm
 have hrow:=aQV (p:=p) hR (x:=x) λk hk hL=>by
  have h1:=hx _ (aRW (p:=p) (F:=R) hk hL);rw [aQU] at h1;refine zW (aDn λc hc=>?_) h1;exact (aMH hR hk hL _ (bH _) c hc)
 have e1:dt n y x % p=dt n y (λk=>sN (λi=>x (L[i]?.getD 0)*R i k) L.length) % p:=aDn hrow
 have e2:dt n y (λk=>sN (λi=>x (L[i]?.getD 0)*R i k) L.length)=sN (λi=>x (L[i]?.getD 0)*dt n (R i) y) L.length:=by
  unfold dt;rw [zE y (λi=>x (L[i]?.getD 0)) (λi k=>R i k) L.length n];refine cO λi _=>?_;congr 1;exact cO λk _=>Int.mul_comm _ _
 unfold Z0;rw [e1,e2];exact aLI λi hi'=>aBZ _ (hyR i (by omega))
def adj (r:Nat) (F:Nat→Nat→Int) (x:Nat→Int):Nat→Int:=λk=>sN (λi=>x i*F i k) r
theorem aMO {p:Int} (r c:Nat) (F:Nat→Nat→Int) (w:List Int) (x:Nat→Int):dt r (vAt (aJO p r c F w)) x % p=dt c (vAt w) (adj r F x) % p:=by
 have e1:dt r (vAt (aJO p r c F w)) x % p=dt r (λi=>sN (λt=>F i t*vAt w t) c) x % p:=aIt λi hi=>by
  unfold aJO;rw [aQO hi,nZ,Int.emod_emod_of_dvd _ (Int.dvd_refl p)];rfl
 rw [e1];congr 1;unfold dt adj;rw [zE (vAt w) x (λi k=>F i k) r c];refine cO λi _=>?_;rw [Int.mul_comm];congr 1;exact cO λk _=>Int.mul_comm _ _
theorem aTT {p:Int} {r c:Nat} {F:Nat→Nat→Int} {l:List (List Int)} {x:Nat→Int} :Kr p (imL p r c F l).length r (cD (imL p r c F l)) x↔Kr p l.length c (cD l) (adj r F x):=by
 constructor
 ·intro h;refine aPW λw hw=>?_;have:=aFZ h (List.mem_map.2 ⟨w,hw,rfl⟩);exact zW (aMO r c F w x) this
 ·intro h;refine aPW λu hu=>?_;obtain ⟨w,hw,rfl⟩:=List.mem_map.1 hu;exact zW (aMO r c F w x).symm (aFZ h hw)
def aMP (p:Int) (d:Nat) (F:Nat→Nat→Int):Nat→Nat→Nat→Int
 |0=>nI
 |k+1=>gX p d (aMP p d F k) F
theorem aQW {p:Int} (hp:kL p=true) (d:Nat) (F:Nat→Nat→Int): ∀ k,wK p d d (aMP p d F k)
 |0=>aUW hp d d
 |k+1=>aFK hp _ _ _ _ _
theorem aRX {p:Int} (hp:kL p=true) {d:Nat} (hd:d≤4) {F:Nat→Nat→Int} (hF:wK p d d F) {n:Nat} (hn:n≤100):sF p ⟨d,d,bT d d F⟩ (n:Int)=some ⟨d,d,bT d d (aMP p d F n)⟩:=by
 unfold sF;rw [aIk (sq hd hd) (by omega),aA];rw [cF (s:=((d:Int),(d:Int),bT d d nI,(0:Int))) (r:=((d:Int),(d:Int),bT d d (aMP p d F n))) (λk=>((d:Int),(d:Int),bT d d (aMP p d F k),(k:Int))) n rfl (λk hk=>?_) (λ_=>?_),aA]
 ·unfold rL;simp only;rw [fX hk,aL,aFL hp (sq hd hd) (sq hd hd) (sq hd hd) (by omega) (by omega) (by omega) (aQW hp d F k) hF,aA,bP hk (by omega)];rfl
 ·unfold rL;simp only;rw [gI (bH _),aR]
theorem aRY {p:Int} (hp:kL p=true) {d:Nat} (hd:d≤4) {F:Nat→Nat→Int} (hF:wK p d d F) {n:Nat} (hn:n≤100):sH p ⟨d,d,bT d d F⟩ (n:Int)=some ⟨d,d,bT d d (aMP p d F n)⟩:=by
 unfold sH;rw [aFJ (sq hd hd) (by omega),aA];rw [cF (s:=((d:Int),(d:Int),bT d d nI,(0:Int))) (r:=((d:Int),(d:Int),bT d d (aMP p d F n))) (λk=>((d:Int),(d:Int),bT d d (aMP p d F k),(k:Int))) n rfl (λk hk=>?_) (λ_=>?_),aA]
 ·unfold rN;simp only;rw [fX hk,aL,mK hp (sq hd hd) (sq hd hd) (sq hd hd) (by omega) (by omega) (by omega) (aQW hp d F k) hF,aA,bP hk (by omega)];rfl
 ·unfold rN;simp only;rw [gI (bH _),aR]
def aWZ (a:Rp) (P:Nat→Nat→Nat→Int) (n:Nat):Nat→Nat→Nat→Int:=λv=>aMP a.p (dN a v) (P v) n
theorem aQX {a:Rp} (h:Fit a a) {P:Nat→Nat→Nat→Int} (m:Mor a a P): ∀ n,Mor a a (aWZ a P n)
 |0=>aTQ h.ra
 |n+1=>aOB h m (aQX h m n)
theorem aJV {p:Int} (hp:kL p=true) (n:Nat) (F:Nat→Nat→Int) (L:List Nat):VecsP p n (aCm p n F L):=λv hv=>by
 obtain ⟨k,_,rfl⟩:=List.mem_map.1 hv;exact ⟨aAn p n F L k _,aLg hp n F L k _⟩
def krL (a:Rp) (P:Nat→Nat→Nat→Int) (v:Nat):List (List Int):=aCm a.p (dN a v) (bW a.p (dN a v) (P v) (dN a v)).1 (bW a.p (dN a v) (P v) (dN a v)).2
def krS (a:Rp) (P:Nat→Nat→Nat→Int) (v:Nat):Sc:=⟨dN a v,fF a.p (dN a v) (krL a P v)⟩
def iSc (a:Rp) (P:Nat→Nat→Nat→Int) (v:Nat):Sc:=⟨dN a v,fF a.p (dN a v) (yL (dN a v) (dN a v) (P v))⟩
def aAM (a:Rp) (P:Nat→Nat→Nat→Int):List Sc:=(List.range a.dims.length).map (krS a P)
def aAN (a:Rp) (P:Nat→Nat→Nat→Int):List Sc:=(List.range a.dims.length).map (iSc a P)
theorem aJW {a:Rp} (hp:kL a.p=true) (P:Nat→Nat→Nat→Int) (v:Nat):VecsP a.p (dN a v) (krL a P v):=aJV hp _ _ _
theorem aCZ {a:Rp} {P:Nat→Nat→Nat→Int} {v:Nat} (hv:v<a.dims.length):sG (aAM a P) v=krS a P v:=by
 unfold sG aAM;simp [hv]
theorem aCa {a:Rp} {P:Nat→Nat→Nat→Int} {v:Nat} (hv:v<a.dims.length):sG (aAN a P) v=iSc a P v:=by
 unfold sG aAN;simp [hv]
section
variable {a:Rp} (h:Fit a a) {P:Nat→Nat→Nat→Int} (m:Mor a a P)
include h m
theorem aMQ {v:Nat} (hv:v<a.dims.length):(krL a P v).length=dN a v - rkF a.p (dN a v) (dN a v) (P v):=aIx h.ra.hp (m.inp v hv)
theorem tbP {v:Nat} (hv:v<a.dims.length):Tb a.p (dN a v) (dN a v) (P v):=by
 have d:=(h.ra.d v hv).2;exact ⟨h.ra.hp,sq d d,by omega,by omega,m.inp v hv⟩
theorem aOC:tW a.p (uP a a P)=some (aAM a P):=by
 have n5:=h.ra.n5;unfold tW;rw [cF (s:=(([]:List Sc),(0:Int))) (r:=aAM a P) (λk=>((List.range k).map (krS a P),(k:Int))) a.dims.length rfl (λv hv=>?_) (λ_=>?_),aA]
 ·have d:=(h.ra.d v hv).2;have hk:=aMQ h m hv;unfold nU;simp only;rw [qI,fX hv,aL,xU hv,aA,aFS (tbP h m hv),aA,aJL h.ra.hp (by omega) (by unfold krL at hk;omega) (aJV h.ra.hp _ _ _),aA,bB (by simp;omega),aL,bP hv (by omega)];congr 3;exact jD (f:=krS a P)
 ·unfold nU;simp only;rw [qI,gI (bH _),aR];rfl
theorem aPX:vY a.p (uP a a P)=some (aAN a P):=by
 have n5:=h.ra.n5;unfold vY;rw [cF (s:=(([]:List Sc),(0:Int))) (r:=aAN a P) (λk=>((List.range k).map (iSc a P),(k:Int))) a.dims.length rfl (λv hv=>?_) (λ_=>?_),aA]
 ·have d:=(h.ra.d v hv).2;unfold pT;simp only;rw [qI,fX hv,aL,xU hv,aA,aGL (sq d d) (by omega) (by omega),aA,aJL h.ra.hp (by omega) (by simp [yL];omega) (aDo (m.inp v hv)),aA,bB (by simp;omega),aL,bP hv (by omega)];congr 3;exact jD (f:=iSc a P)
 ·unfold pT;simp only;rw [qI,gI (bH _),aR];rfl
theorem aOD (ha:bR a) (hf:zY a a=true):tY a a (uP a a P)=some (aAM a P,true):=by
 have n5:=h.ra.n5;unfold tY;rw [aFY ha ha hf m,aA,eN,aR];rw [cF (s:=(([]:List Sc),(0:Int))) (r:=aAM a P) (λk=>((List.range k).map (krS a P),(k:Int))) a.dims.length rfl (λv hv=>?_) (λ_=>?_),aA]
 ·have d:=h.ra.d v hv;have hk:=aMQ h m hv;unfold nY;simp only;rw [qI,fX hv,aL,hJ 0 hv,aA,d.1,xU hv,aA,aEd (tbP h m hv),aA,aFU h.ra.hp (by omega) (by unfold krL at hk;omega) (aJV h.ra.hp _ _ _),aA,bB (by simp;omega),aL,bP hv (by omega)];congr 3;exact jD (f:=krS a P)
 ·unfold nY;simp only;rw [qI,gI (bH _),aR];rfl
theorem aPY (ha:bR a) (hf:zY a a=true):wH a a (uP a a P)=some (aAN a P,true):=by
 have n5:=h.ra.n5;unfold wH;rw [aFY ha ha hf m,aA,eN,aR];rw [cF (s:=(([]:List Sc),(0:Int))) (r:=aAN a P) (λk=>((List.range k).map (iSc a P),(k:Int))) a.dims.length rfl (λv hv=>?_) (λ_=>?_),aA]
 ·have d:=h.ra.d v hv;have hL:= @yC a.p (dN a v) (P v) (dN a v);unfold qB;simp only;rw [qI,fX hv,aL,hJ 0 hv,aA,d.1,xU hv,aA,aRS (tbP h m hv),aA,aFU h.ra.hp (by omega) (by simp [sE];omega) (aNt (m.inp v hv) λk hk=>aBm _ k hk),aA,bB (by simp;omega),aL,bP hv (by omega)];congr 3;have e:=jD (f:=iSc a P) (k:=v);rw [←e];unfold iSc;rw [aLJ h.ra.hp (m.inp v hv)]
 ·unfold qB;simp only;rw [qI,gI (bH _),aR];rfl
theorem aUg (hr:rZ a=true):aGM a (aAM a P)=true:=by
 have hp:=h.ra.hp;unfold aGM;rw [hr,bB (by simp [aAM])];simp only [Bool.true_and,cV];constructor
 ·refine List.all_eq_true.2 λv hv=>?_;have hv:v<a.dims.length:=by have:=List.mem_range.1 hv;simpa [aAM] using this
  have d:=h.ra.d v hv;unfold spB;rw [aCZ hv,d.1];unfold krS;simp only;rw [aEU hp (by omega) (aJW hp P v)];simp
 ·refine List.all_eq_true.2 λi hi=>?_;have hi:i<a.q.src.length:=by have:=List.mem_range.1 hi;have:=h.ra.ml;omega
  obtain ⟨_,s2⟩:=h.ra.s i hi;obtain ⟨_,t2⟩:=h.ra.t i hi;have ds:=(h.ra.d _ s2).2;have dt':=(h.ra.d _ t2).2;unfold imB inV;rw [aCZ s2,aCZ t2];unfold krS;simp only;have hv1:VecsP a.p (dN a (tV a i)) (imL a.p (dN a (tV a i)) (dN a (sV a i)) (aF a i) (fF a.p (dN a (sV a i)) (krL a P (sV a i)))):=aFV hp _ _ _ _;have hk:=aJW hp P (tV a i);have hks:=aJW hp P (sV a i);refine bB ((aEk hp (yD hp hv1.inP) (yD hp hk.inP) (aFq hp hk.inP)).2 λx hx=>?_);rw [aAw hp hv1.inP,aTT,aAw hp hks.inP];have hx':=(aAw hp hk.inP x).1 hx;refine aPW λw hw=>?_;refine zW (aMO (dN a (tV a i)) (dN a (sV a i)) (aF a i) w x) ?_;refine aTS hp (m.inp _ t2) (λu hu=>aFZ hx' hu) ?_;have hw2:=aTA hp (m.inp _ s2) hw;intro r hr
  have e1:dt (dN a (tV a i)) (P (tV a i) r) (vAt (aJO a.p (dN a (tV a i)) (dN a (sV a i)) (aF a i) w)) % a.p=dt (dN a (sV a i)) (vAt w) (adj (dN a (tV a i)) (aF a i) (P (tV a i) r)) % a.p:=by
   rw [aQU];exact aMO _ _ _ _ _
  have e2:dt (dN a (sV a i)) (vAt w) (adj (dN a (tV a i)) (aF a i) (P (tV a i) r)) % a.p=dt (dN a (sV a i)) (vAt w) (λk=>sN (λj=>aF a i r j*P (sV a i) j k) (dN a (sV a i))) % a.p:=by
   refine aDn λk hk'=>?_;have:=m.eq i hi r k hr hk';rw [nZ,nZ] at this;exact this.symm
  have e3:dt (dN a (sV a i)) (vAt w) (λk=>sN (λj=>aF a i r j*P (sV a i) j k) (dN a (sV a i)))=sN (λj=>aF a i r j*dt (dN a (sV a i)) (P (sV a i) j) (vAt w)) (dN a (sV a i)):=by
   unfold dt;rw [zE (vAt w) (aF a i r) (λj k=>P (sV a i) j k) (dN a (sV a i)) (dN a (sV a i))];refine cO λj _=>?_;congr 1;exact cO λk _=>Int.mul_comm _ _
  unfold Z0;rw [e1,e2,e3];exact aLI λj hj=>aBZ _ (hw2 j hj)
theorem aUh (hr:rZ a=true):aGM a (aAN a P)=true:=by
 have hp:=h.ra.hp;unfold aGM;rw [hr,bB (by simp [aAN])];simp only [Bool.true_and,cV];constructor
 ·refine List.all_eq_true.2 λv hv=>?_;have hv:v<a.dims.length:=by have:=List.mem_range.1 hv;simpa [aAN] using this
  have d:=h.ra.d v hv;unfold spB;rw [aCa hv,d.1];unfold iSc;simp only;rw [aEU hp (by omega) (aDo (m.inp v hv))];simp
 ·refine List.all_eq_true.2 λi hi=>?_;have hi:i<a.q.src.length:=by have:=List.mem_range.1 hi;have:=h.ra.ml;omega
  obtain ⟨_,s2⟩:=h.ra.s i hi;obtain ⟨_,t2⟩:=h.ra.t i hi;have ds:=(h.ra.d _ s2).2;have dt':=(h.ra.d _ t2).2;unfold imB inV;rw [aCa s2,aCa t2];unfold iSc;simp only;have hct:=aDo (m.inp _ t2);have hcs:=aDo (m.inp _ s2);have hv1:VecsP a.p (dN a (tV a i)) (imL a.p (dN a (tV a i)) (dN a (sV a i)) (aF a i) (fF a.p (dN a (sV a i)) (yL (dN a (sV a i)) (dN a (sV a i)) (P (sV a i))))):=aFV hp _ _ _ _;refine bB ((aEk hp (yD hp hv1.inP) (yD hp hct.inP) (aFq hp hct.inP)).2 λx hx=>?_);rw [aAw hp hv1.inP,aTT,aAw hp hcs.inP,aML];have hx':=aML.1 ((aAw hp hct.inP x).1 hx);intro k hk
  have e1:dt (dN a (sV a i)) (λj=>P (sV a i) j k) (adj (dN a (tV a i)) (aF a i) x)=dt (dN a (tV a i)) x (λr=>sN (λj=>aF a i r j*P (sV a i) j k) (dN a (sV a i))):=by
   unfold dt adj;rw [zE (λj=>P (sV a i) j k) x (λr j=>aF a i r j) (dN a (tV a i)) (dN a (sV a i))];refine cO λr _=>?_;congr 1;exact cO λj _=>Int.mul_comm _ _
  have e2:dt (dN a (tV a i)) x (λr=>sN (λj=>aF a i r j*P (sV a i) j k) (dN a (sV a i))) % a.p=dt (dN a (tV a i)) x (λr=>sN (λj=>P (tV a i) r j*aF a i j k) (dN a (tV a i))) % a.p:=by
   refine aDn λr hr'=>?_;have:=m.eq i hi r k hr' hk;rw [nZ,nZ] at this;exact this
  have e3:dt (dN a (tV a i)) x (λr=>sN (λj=>P (tV a i) r j*aF a i j k) (dN a (tV a i)))=sN (λj=>aF a i j k*dt (dN a (tV a i)) (λr=>P (tV a i) r j) x) (dN a (tV a i)):=by
   unfold dt;rw [cO (g:=λr=>x r*sN (λj=>aF a i j k*P (tV a i) r j) (dN a (tV a i))) λr _=>by rw [cO λj _=>Int.mul_comm _ _],zE x (λj=>aF a i j k) (λj r=>P (tV a i) r j) (dN a (tV a i)) (dN a (tV a i))];refine cO λj _=>?_;congr 1;exact cO λr _=>Int.mul_comm _ _
  unfold Z0;rw [e1,e2,e3];exact aLI λj hj=>aBZ _ (hx' j hj)
end
end
noncomputable section
open Classical in
def ldL (x:Sc):List Nat:=if h: ∃ L:List Nat,L.length=x.basis.length∧Red x.basis.length x.size.toNat (cD x.basis) L then Classical.choose h else []
theorem aJX {L:List Nat} {k:Nat} (h:k<L.length):eO (L.take k)++[((L[k]?.getD 0:Nat):Int)]=eO (L.take (k+1)):=by
 unfold eO;rw [uH h,List.map_append,gY h];rfl
theorem aUi {p:Int} {n:Nat} {x:Sc} {L:List Nat} (hn:n≤1024) (hl:x.basis.length≤1024) (hv:VecsP p n x.basis) (hL:L.length=x.basis.length) (hR:Red x.basis.length n (cD x.basis) L):lJ x=some (eO L):=by
 unfold lJ;rw [cF (r:=eO L) (λk=>(eO (L.take k),(k:Int))) x.basis.length (by rfl) (λk hk=>?_) (λ_=>?_)];rfl
 ·have hkL:k<L.length:=by omega
  have hlt:=hR.lt k hkL;have hlen:=(hv _ (iW (l:=x.basis) [] hk)).1;unfold iY;simp only;rw [fX hk,aL,hJ [] hk,aA,aTJ (k:=L[k]?.getD 0) (by unfold bI;omega) (by omega) (λj hj=>hR.left k j hkL hj) (by have:=hR.one k hkL;unfold cD at this;omega),aA,bB (by rw [cY,List.length_take];simp;omega),aL,bP hk (by omega),aJX hkL]
 ·unfold iY;simp only;rw [gI (bH _),aR,←hL,List.take_length]
theorem aTU {p:Int} {n:Nat} {x:Sc} {L:List Nat} (hn:n≤1024) (hl:x.basis.length≤1024) (hv:VecsP p n x.basis) (hL:L.length=x.basis.length) (hR:Red x.basis.length n (cD x.basis) L):xN x=some (eO L):=by
 unfold xN;rw [cF (r:=eO L) (λk=>(eO (L.take k),(k:Int))) x.basis.length (by rfl) (λk hk=>?_) (λ_=>?_)];rfl
 ·have hkL:k<L.length:=by omega
  have hlt:=hR.lt k hkL;have hlen:=(hv _ (iW (l:=x.basis) [] hk)).1;unfold rJ;simp only;rw [fX hk,aL];rw [cF (r:=((L[k]?.getD 0:Nat):Int)) (λj=>(j:Int)) (L[k]?.getD 0) (by rfl) (λj hj=>?_) (λ_=>?_),aA,bB (by rw [cY,List.length_take];simp;omega),aL,bP hk (by omega),aJX hkL]
  ·have h0:=hR.left k j hkL hj;unfold cD at h0;unfold rI;simp only;rw [hJ [] hk,aA,hJ 0 (by omega),aA,h0,bB rfl,aL,bP hj (by omega)]
  ·have h1:=hR.one k hkL;unfold cD at h1;unfold rI;simp only;rw [hJ [] hk,aA,hJ 0 (by omega),aA,h1];rfl
 ·unfold rJ;simp only;rw [gI (bH _),aR,←hL,List.take_length]
theorem aLL {L:List Nat} {i:Nat} (h:i<L.length):(eO L)[i]?.getD 0=((L[i]?.getD 0:Nat):Int):=by simp [eO,h]
structure Pt (r:Rp) (s:List Sc):Prop where
 R:Rv r
 sub:aGM r s=true
 len:s.length=r.dims.length
 v: ∀ v,v<r.dims.length→SpV r s v
 b: ∀ x∈s,bS x
theorem aGT {s:List Sc} {v:Nat} (h:v<s.length):s[v]=sG s v:=by unfold sG;rw [gY h,iT]
theorem aVG {r:Rp} {s:List Sc} (h:aGM r s=true):Pt r s:=by
 obtain ⟨R,hl,hv⟩:=aPQ h;refine ⟨R,h,hl,hv,λx hx=>?_⟩;obtain ⟨v,hv',rfl⟩:=List.getElem_of_mem hx;have V:=hv v (by omega);have d:=(R.d v (by omega)).2;have l:=V.len;rw [aGT hv'];exact ⟨⟨by omega,λw hw=>by unfold bI;rw [(V.vecs w hw).1];omega⟩,trivial⟩
def kN (s:List Sc) (v:Nat):Nat:=(sG s v).basis.length
theorem aEn {r:Rp} {s:List Sc} (T:Pt r s) {v:Nat} (hv:v<r.dims.length):(ldL (sG s v)).length=kN s v∧Red (kN s v) (dN r v) (cD (sG s v).basis) (ldL (sG s v)):=by
 have V:=T.v v hv;have h:=aLK T.R.hp V.vecs V.span;have e:(sG s v).size.toNat=dN r v:=by rw [V.size];rfl
 have h': ∃ L:List Nat,L.length=(sG s v).basis.length∧Red (sG s v).basis.length (sG s v).size.toNat (cD (sG s v).basis) L:=by rw [e];exact h
 unfold ldL;rw [dif_pos h'];have:=Classical.choose_spec h';generalize Classical.choose h'=L at this ⊢;rw [e] at this;exact this
def ldN (s:List Sc) (v j:Nat):Nat:=(ldL (sG s v))[j]?.getD 0
theorem aVH {r:Rp} {s:List Sc} (T:Pt r s) {v j:Nat} (hv:v<r.dims.length) (hj:j<kN s v):ldN s v j<dN r v:=(aEn T hv).2.lt j (by rw [(aEn T hv).1];exact hj)
theorem nG (s:List Sc):(dT s).length=s.length:=by simp [dT]
theorem aBb {α:Type} (n k:Nat) (f:Nat→α) (v:α):((List.range n).map f).set k v=(List.range n).map λi=>if i=k then v else f i:=by
 refine List.ext_getElem (by simp) λt h1 h2=>?_;rw [List.getElem_set,List.getElem_map,List.getElem_map,List.getElem_range];by_cases e:k=t
 ·rw [aV e,aV e.symm]
 ·rw [aW e,aW λh=>e h.symm]
theorem aBP {α:Type} (k:Nat) (f:Nat→α):(List.range k).map f++[f k]=(List.range (k+1)).map f:=by rw [List.range_succ,List.map_append];rfl
theorem aTV {q:Qv} (h:bQ q):iI q=some q:=by
 unfold iI nJ;have h1:q.src.length≤1048576:=h.1;have h2:q.tgt.length≤1048576:=h.2.1;rw [bB h1,bB h2];rfl
def zeM (r:Rp) (f:Nat→Nat) (i:Nat):Mt:=⟨(f (tV r i):Nat),(f (sV r i):Nat),bT (f (tV r i)) (f (sV r i)) λ_ _=>0⟩
section
variable {r:Rp} (R:Rv r) (hb:bR r) {d:List Int} (hl:d.length=r.dims.length) {f:Nat→Nat} (hd: ∀ v,v<r.dims.length→d[v]?.getD 0=(f v:Int)∧f v≤8)
include R hb hl hd
theorem aRZ (p:Int):xM p r.q d=some ⟨p,r.q,d,(List.range r.maps.length).map (zeM r f)⟩:=by
 unfold xM;have h5:=R.n5;have h6:=R.e6;rw [aTV hb.1,aA];unfold nJ;rw [bB (by omega),aL,aA];rw [cF (r:=(List.range r.maps.length).map (zeM r f)) (λk=>((List.range k).map (zeM r f),(k:Int))) r.q.src.length (by rfl) (λi hi=>?_) (λ_=>?_),aA]
 ·have s1:=hd _ (R.s i hi).2;have t1:=hd _ (R.t i hi).2;unfold rH;simp only;rw [fX hi,aL,hJ 0 hi,aA,hJ 0 (by have:=R.tl;omega),aA,(R.t i hi).1,hJ 0 (by have:=(R.t i hi).2;omega),aA,(R.s i hi).1,hJ 0 (by have:=(R.s i hi).2;omega),aA,s1.1,t1.1,aEb (by have:=Nat.mul_le_mul t1.2 s1.2;omega),aA,bB (by simp;omega),aL,bP hi (by omega),←aBP];rfl
 ·unfold rH;simp only;rw [gI (bH _),aR,R.ml]
theorem aTW (p:Int):zA p r.q d=some ⟨p,r.q,d,(List.range r.maps.length).map (zeM r f)⟩:=by
 unfold zA;have h5:=R.n5;have h6:=R.e6;rw [aNu hb.1,aA,bB (by simp;omega),aL,List.nil_append];rw [cF (r:=(List.range r.maps.length).map (zeM r f)) (λk=>((List.range k).map (zeM r f),(k:Int))) r.q.src.length (by rfl) (λi hi=>?_) (λ_=>?_),aA]
 ·have s1:=hd _ (R.s i hi).2;have t1:=hd _ (R.t i hi).2;unfold tH;simp only;rw [fX hi,aL,hJ 0 (by have:=R.tl;omega),aA,(R.t i hi).1,hJ 0 (by have:=(R.t i hi).2;omega),aA,hJ 0 hi,aA,(R.s i hi).1,hJ 0 (by have:=(R.s i hi).2;omega),aA,s1.1,t1.1,aDF (by have:=Nat.mul_le_mul t1.2 s1.2;omega),aA,bB (by simp;omega),aL,bP hi (by omega),←aBP];rfl
 ·unfold tH;simp only;rw [gI (bH _),aR,R.ml]
end
def bcF (s:List Sc) (v:Nat):Nat→Nat→Int:=λt b=>cD (sG s v).basis b t
def suW (r:Rp) (s:List Sc) (i:Nat):Nat→Nat→Int:=gX r.p (dN r (sV r i)) (aF r i) (bcF s (sV r i))
def aOE (r:Rp) (s:List Sc) (i:Nat):Nat→Nat→Int:=λa b=>suW r s i (ldN s (tV r i) a) b
def aJt (r:Rp) (s:List Sc) (i:Nat):Mt:=⟨(kN s (tV r i):Nat),(kN s (sV r i):Nat),bT (kN s (tV r i)) (kN s (sV r i)) (aOE r s i)⟩
def uA (r:Rp) (s:List Sc):Rp:=⟨r.p,r.q,dT s,(List.range r.maps.length).map (aJt r s)⟩
def inM (x:Sc):Mt:=aPP x.size.toNat x.basis
theorem aTX {r:Rp} {s:List Sc} {i b k:Nat} (hk:k<dN r (tV r i)):(aJO r.p (dN r (tV r i)) (dN r (sV r i)) (aF r i) ((sG s (sV r i)).basis[b]?.getD []))[k]?.getD 0=suW r s i k b:=by
 unfold aJO suW gX;rw [aCW];unfold eG;rw [List.getElem?_map,List.getElem?_range hk];show aBY _ _ _ _ _ % _=_;rw [aCW];rfl
theorem qT {r:Rp} {s:List Sc} (T:Pt r s) {v:Nat} (hv:v<r.dims.length):(dT s)[v]?.getD 0=(kN s v:Int)∧kN s v≤dN r v:=by
 have h1:=T.len;have h2:=T.v v hv;unfold dT;rw [List.getElem?_map,gY (by omega),Option.map_some,iT,aGT];exact ⟨rfl,h2.len⟩
section
variable {r:Rp} {s:List Sc} (hr:bR r) (T:Pt r s)
include hr T
theorem aOF:zD r s=some (uA r s,s.map inM):=by
 have h5:=T.R.n5;have h6:=T.R.e6;have hml:=T.R.ml;have hsl:=T.len;unfold zD;rw [aGN (by omega),aA,aRZ T.R hr (d:=dT s) (by rw [nG];exact hsl) (f:=kN s) (λv hv=>⟨(qT T hv).1,by have:=(qT T hv).2;have:=(T.R.d v hv).2;omega⟩),aA];simp only;rw [cF (r:=(List.range r.maps.length).map (aJt r s)) (λk=>((List.range r.maps.length).map λi=>if i<k then aJt r s i else zeM r (kN s) i,(k:Int))) r.maps.length (by simp) (λi hi=>?_) (λ_=>?_),aA]
 ·rw [cF (r:=s.map inM) (λk=>((s.take k).map inM,(k:Int))) s.length (by rfl) (λv hv=>?_) (λ_=>?_),aA]
  ·rfl
  ·have hv':v<r.dims.length:=by omega
   have P:=T.v v hv';have d1:=(T.R.d _ hv').2;have l1:=P.len;have e:=aGT hv;unfold tQ;simp only;rw [fX hv,aL,cZ hv,aA,e,P.size,aTI (by omega) (by omega) (λx hx=>(P.vecs x hx).1),aA,bB (by simp;omega),aL,bP hv (by omega)];rw [uH hv,List.map_append,e];unfold inM;simp only [List.map_cons,List.map_nil,P.size,dU]
  ·unfold tQ;simp only;rw [gI (bH _),aR,List.take_length]
 ·have hi':i<r.q.src.length:=by omega
  have hs:=(T.R.s i hi').2;have ht:=(T.R.t i hi').2;have d1:=(T.R.d _ hs).2;have d2:=(T.R.d _ ht).2;have k1:=(qT T hs).2;have k2:=(qT T ht).2;obtain ⟨hM,hMi⟩:=T.R.m i hi';have P:=T.v _ hs;have hq:=aEn T ht;have hqV:=T.v _ ht;have hqn:=hqV.len;have hql:=(aEn T ht).1;have m5:=Nat.mul_le_mul (show kN s (tV r i)≤4 by omega) (show kN s (sV r i)≤4 by omega);unfold tP;simp only;rw [fX hi,aL,hJ ⟨0,0,[]⟩ hi,aA,hM,hJ 0 (by have:=T.R.tl;omega),aA,(T.R.t i hi').1,hJ ⟨0,[]⟩ (by omega),aA,hJ 0 hi',aA,(T.R.s i hi').1,hJ ⟨0,[]⟩ (by omega),aA];rw [show (s[sV r i]?.getD ⟨0,[]⟩:Sc)=sG s (sV r i) from rfl,show (s[tV r i]?.getD ⟨0,[]⟩:Sc)=sG s (tV r i) from rfl];rw [cF (r:=(List.range (kN s (sV r i))).map λb=>eG (kN s (tV r i)) λa=>aOE r s i a b) (λk=>((List.range k).map λb=>eG (kN s (tV r i)) λa=>aOE r s i a b,(k:Int))) (kN s (sV r i)) (by rfl) (λb hb=>?_) (λ_=>?_),aA]
  ·rw [show ((sG s (tV r i)).basis.length:Int)=(kN s (tV r i):Nat) from rfl,yX (by omega) (by omega) (by omega),aA,hJ ⟨0,0,[]⟩ (by simpa using hi),aA,bP hi (by omega),dU,aBb];congr 3;refine qU λj hj=>?_;by_cases e:j=i
   ·rw [aV e,aV (by omega),e];rfl
   ·rw [aW e];by_cases e2:j<i
    ·rw [aV e2,aV (by omega)]
    ·rw [aW e2,aW (by omega)]
  ·have hb':b<(sG s (sV r i)).basis.length:=hb;have hv:=P.vecs _ (iW (l:=(sG s (sV r i)).basis) [] hb');unfold tN;simp only;rw [fX hb',aL,hJ [] hb',aA,aUe T.R.hp (by omega) (by omega) hMi hv.1 hv.2,aA,aUi (by omega) (by omega) hqV.vecs hq.1 hq.2,aA];rw [cF (r:=eG (kN s (tV r i)) λa=>aOE r s i a b) (λk=>(eG k λa=>aOE r s i a b,(k:Int))) (kN s (tV r i)) (by rfl) (λa ha=>?_) (λ_=>?_),aA]
   ·rw [bB (by simp;omega),aL,bP hb (by omega),←aBP]
   ·have f1:(eO (ldL (sG s (tV r i))))[a]?.getD 0=(ldN s (tV r i) a:Int):=aLL (by omega);have f2:=aVH T ht ha;unfold tM;simp only;rw [(show (eO (ldL (sG s (tV r i)))).length=kN s (tV r i) by rw [cY];exact hql),fX ha,aL,hJ 0 (by rw [(show (eO (ldL (sG s (tV r i)))).length=kN s (tV r i) by rw [cY];exact hql)];exact ha),aA,f1,hJ 0 (by unfold aJO;rw [dL];exact f2),aA,aTX f2,bB (by rw [dL];simp;omega),aL,bP ha (by omega)];congr 3;unfold eG;rw [←aBP];rfl
   ·unfold tM;simp only;rw [(show (eO (ldL (sG s (tV r i)))).length=kN s (tV r i) by rw [cY];exact hql),gI (bH _),aR]
  ·unfold tN;simp only;rw [show (sG s (sV r i)).basis.length=kN s (sV r i) from rfl,gI (bH _),aR]
 ·unfold tP;simp only;rw [gI (bH _),aR];congr 2;exact qU λj hj=>by rw [aV (List.mem_range.1 hj)]
def suB (r:Rp) (s:List Sc) (i:Nat):List Mt:=(List.range r.maps.length).map λk=>if k<i then aJt r s k else zeM r (kN s) k
def suI (r:Rp) (s:List Sc) (i a b:Nat):Mt:=⟨(kN s (tV r i):Nat),(kN s (sV r i):Nat),bT (kN s (tV r i)) (kN s (sV r i)) λx y=>if x<a∨(x=a∧y<b) then aOE r s i x y else 0⟩
theorem aOG:vC r s=some (uA r s,s.map inM,true):=by
 have h5:=T.R.n5;have h6:=T.R.e6;have hml:=T.R.ml;have hsl:=T.len;unfold vC;rw [aRV hr ⟨by omega,T.b⟩,aA,T.sub,eN,aR];rw [cF (r:=(dT s,s.map inM)) (λk=>(dT (s.take k),(s.take k).map inM,(k:Int))) s.length (by rfl) (λv hv=>?_) (λ_=>?_),aA]
 ·simp only;rw [aTW T.R hr (d:=dT s) (by rw [nG];exact hsl) (f:=kN s) (λv hv=>⟨(qT T hv).1,by have:=(qT T hv).2;have:=(T.R.d v hv).2;omega⟩),aA];simp only;rw [cF (r:=(List.range r.maps.length).map (aJt r s)) (λk=>(suB r s k,(k:Int))) r.maps.length (by simp [suB]) (λi hi=>?_) (λ_=>?_),aA]
  ·rfl
  ·have hi':i<r.q.src.length:=by omega
   have hs:=(T.R.s i hi').2;have ht:=(T.R.t i hi').2;have d1:=(T.R.d _ hs).2;have d2:=(T.R.d _ ht).2;have k1:=(qT T hs).2;have k2:=(qT T ht).2;obtain ⟨hM,hMi⟩:=T.R.m i hi';have P:=T.v _ hs;have hq:=aEn T ht;have hqV:=T.v _ ht;have hqn:=hqV.len;have hql:=(aEn T ht).1;have m2:=Nat.mul_le_mul d2 d1;have m4:=Nat.mul_le_mul d1 (show kN s (sV r i)≤4 by omega);have m5:=Nat.mul_le_mul (show kN s (tV r i)≤4 by omega) (show kN s (sV r i)≤4 by omega);have m6:=Nat.mul_le_mul d2 (show kN s (sV r i)≤4 by omega);have hbl:(suB r s i).length=r.maps.length:=by simp [suB]
   have e2:((s.map inM)[sV r i]?.getD ⟨0,0,[]⟩:Mt)=⟨(dN r (sV r i):Nat),(kN s (sV r i):Nat),bT (dN r (sV r i)) (kN s (sV r i)) (bcF s (sV r i))⟩:=by
    rw [List.getElem?_map,gY (by omega),Option.map_some,iT,aGT];unfold inM aPP;rw [P.size,dU];rfl
   have at_i: ∀ M:Mt,cP ((suB r s i).set i M) (i:Int)=some M:=λM=>by
    rw [cZ (by simp;omega)];simp
   unfold tU;simp only;rw [fX hi,aL,hJ ⟨0,0,[]⟩ hi,aA,hM,hJ 0 hi',aA,(T.R.s i hi').1,hJ ⟨0,0,[]⟩ (by simp;omega),aA,e2,mK T.R.hp (by omega) (by omega) (by omega) (by omega) (by omega) (by omega) hMi (show wK r.p (dN r (sV r i)) (kN s (sV r i)) (bcF s (sV r i)) from aQT P.vecs),aA,hJ 0 (by have:=T.R.tl;omega),aA,(T.R.t i hi').1,hJ ⟨0,[]⟩ (by omega),aA];rw [show (s[tV r i]?.getD ⟨0,[]⟩:Sc)=sG s (tV r i) from rfl,aTU (by omega) (by omega) hqV.vecs hq.1 hq.2,aA];rw [cF (r:=(suB r s i).set i (suI r s i (kN s (tV r i)) 0)) (λa=>((suB r s i).set i (suI r s i a 0),(a:Int))) (kN s (tV r i)) ?_ (λa ha=>?_) (λ_=>?_),aA]
   ·rw [bP hi (by omega)];congr 3;unfold suB;rw [aBb];refine qU λj hj=>?_;by_cases e:j=i
    ·rw [aV e,aV (by omega),e];unfold suI aJt;congr 1;exact cC λx y hx hy=>by rw [aV (by omega)]
    ·rw [aW e];by_cases e2:j<i
     ·rw [aV e2,aV (by omega)]
     ·rw [aW e2,aW (by omega)]
   ·congr 1;unfold suB;rw [aBb];refine qU λj hj=>?_;by_cases e:j=i
    ·rw [aV e,aW (by omega),e];unfold suI zeM;congr 1;exact cC λx y hx hy=>by rw [aW (by omega)]
    ·rw [aW e]
   ·have f1:(eO (ldL (sG s (tV r i))))[a]?.getD 0=(ldN s (tV r i) a:Int):=aLL (by omega);have f2:=aVH T ht ha;unfold tT;simp only;rw [at_i,aA,show (suI r s i a 0).rows=(kN s (tV r i):Nat) from rfl,fX ha,aL,dU,List.set_set];rw [cF (r:=(suB r s i).set i (suI r s i (a+1) 0)) (λb=>((suB r s i).set i (suI r s i a b),(b:Int))) (kN s (sV r i)) (by rfl) (λb hb=>?_) (λ_=>?_),aA,bP ha (by omega)]
    ·unfold tS;simp only;rw [at_i,aA,show (suI r s i a b).cols=(kN s (sV r i):Nat) from rfl,fX hb,aL,dU,List.set_set,at_i,aA,hJ 0 (by rw [(show (eO (ldL (sG s (tV r i)))).length=kN s (tV r i) by rw [cY];exact hql)];exact ha),aA,f1,atT (by omega) f2 hb,aA];unfold suI;simp only;rw [atT (by omega) ha hb,aA,aJm (by omega) ha hb,List.set_set,bP hb (by omega)];congr 5;refine cC λx y hx hy=>?_;simp only [aCw];by_cases e:x=a∧y=b
     ·rw [aV e,aV (by omega),e.1,e.2];rfl
     ·rw [aW e];by_cases e2:x<a∨x=a∧y<b
      ·rw [aV e2,aV (by omega)]
      ·rw [aW e2,aW (by omega)]
    ·unfold tS;simp only;rw [at_i,aA,show (suI r s i a (kN s (sV r i))).cols=(kN s (sV r i):Nat) from rfl,gI (bH _),aR,dU,List.set_set];congr 3;unfold suI;congr 1;refine cC λx y hx hy=>?_;by_cases e2:x<a+1
     ·rw [aV (by omega),aV (by omega)]
     ·rw [aW (by omega),aW (by omega)]
   ·unfold tT;simp only;rw [at_i,aA,show (suI r s i (kN s (tV r i)) 0).rows=(kN s (tV r i):Nat) from rfl,gI (bH _),aR,dU,List.set_set]
  ·unfold tU;simp only;rw [gI (bH _),aR];congr 2;exact qU λj hj=>by rw [aV (List.mem_range.1 hj)]
 ·have hv':v<r.dims.length:=by omega
  have P:=T.v v hv';have d1:=(T.R.d _ hv').2;have l1:=P.len;have e:=aGT hv;have m1:=Nat.mul_le_mul d1 (show (sG s v).basis.length ≤4 by omega);unfold tR;simp only;rw [fX hv,aL,cZ hv,aA,e,bB (by simp [dT];omega),aL,aA,aA,P.size,aJM (by omega) (by omega) (λx hx=>(P.vecs x hx).1),aA,zG (by omega) (by omega) (by omega),aA,bB (by simp;omega),aL,bP hv (by omega)]
  have e3:dT (s.take v)++[((sG s v).basis.length:Int)]=dT (s.take (v+1)):=by
   unfold dT;rw [uH hv,List.map_append,e];rfl
  have e4:(s.take v).map inM++[(⟨(dN r v:Nat),((sG s v).basis.length:Nat),bT (dN r v) (sG s v).basis.length λi k=>cD (sG s v).basis k i⟩:Mt)]=(s.take (v+1)).map inM:=by
   rw [uH hv,List.map_append,e];unfold inM aPP;simp only [List.map_cons,List.map_nil,P.size,dU]
  rw [e3,e4]
 ·unfold tR;simp only;rw [gI (bH _),aR,List.take_length]
theorem aTZ:bR (uA r s):=by
 have h5:=T.R.n5;have h6:=T.R.e6;have hml:=T.R.ml;have hsl:=T.len;refine ⟨hr.1,by simp [bI,uA,dT];omega,⟨by simp [uA];omega,λm hm=>?_⟩,trivial⟩;obtain ⟨i,hi,rfl⟩:=List.mem_map.1 hm;have hi':i<r.q.src.length:=by have:=List.mem_range.1 hi;omega
 have d1:=(T.R.d _ (T.R.s i hi').2).2;have d2:=(T.R.d _ (T.R.t i hi').2).2;have k1:=(qT T (T.R.s i hi').2).2;have k2:=(qT T (T.R.t i hi').2).2;have m5:=Nat.mul_le_mul (show kN s (tV r i)≤4 by omega) (show kN s (sV r i)≤4 by omega);refine ⟨?_,trivial⟩;unfold bI aJt;simp only;rw [dO];omega
end
theorem aVq {a b:List Int} (hl:a.length=b.length) (h: ∀ k,k<a.length→a[k]?.getD 0≤b[k]?.getD 0):a.sum≤b.sum:=by
 induction a generalizing b with
 |nil=>cases b with
  |nil=>exact Int.le_refl _
  |cons y b=>simp at hl
 |cons x a ih=>cases b with
  |nil=>simp at hl
  |cons y b=>
   have h0:=h 0 (by simp);have h1:=ih (b:=b) (by simpa using hl) λk hk=>by have:=h (k+1) (by simpa using hk);simpa using this
   simp only [List.sum_cons];simp at h0;omega
theorem aJY {r:Rp} {s:List Sc} (T:Pt r s) {v:Nat} (hv:v<r.dims.length):dN (uA r s) v=kN s v:=by
 unfold dN;show ((dT s)[v]?.getD 0).toNat=_;rw [(qT T hv).1];rfl
section
variable {r:Rp} {s:List Sc} (hr:bR r) (T:Pt r s)
include T
theorem aDq:rZ (uA r s)=true:=by
 have hsl:=T.len;have hml:=T.R.ml;have hlen:(dT s).length=r.dims.length:=by rw [nG];exact hsl
 have hrep:rZ r=true:=by have:=T.sub;unfold aGM at this;simp only [cV] at this;exact this.1
 obtain ⟨hp,hD,_,_⟩:=zV hrep;obtain ⟨hQ,hd1,_,hd3⟩:=kI hD
 have hmem: ∀ x∈dT s,0≤x∧x≤4:=by
  intro x hx;obtain ⟨v,hv,e⟩:=List.mem_iff_getElem.1 hx;have hv':v<r.dims.length:=by omega
  have h1:=qT T hv';rw [gY hv,iT,e] at h1;have:=(T.R.d v hv').2;omega
 have hsum:(dT s).sum ≤r.dims.sum:=aVq hlen λv hv=>by
  have h1:=qT T (show v<r.dims.length by omega);have h2:=T.R.d v (by omega);omega
 have hdv:aEC r.q (dT s)=true:=by
  unfold aEC;simp only [cV,jE,List.all_eq_true];refine ⟨hQ,by omega,λx hx=>?_,by omega⟩;have:=hmem x hx;unfold inR;simp only [jE];omega
 unfold rZ;simp only [cV,jE,qJ];refine ⟨hp,hdv,by simp [uA];omega,λk hk=>?_⟩;have hk':k<r.maps.length:=by simpa [uA] using hk
 have hi':k<r.q.src.length:=by omega
 have hs:=(T.R.s k hi').2;have ht:=(T.R.t k hi').2
 have e:((uA r s).maps[k]?.getD ⟨0,0,[]⟩:Mt)=aJt r s k:=by
  show ((List.range r.maps.length).map (aJt r s))[k]?.getD _=_;simp [hk']
 rw [e];have q1:=qT T hs;have q2:=qT T ht;have d1:=(T.R.d _ hs).2;have d2:=(T.R.d _ ht).2;refine ⟨aNx hp (by omega) (by omega) (λa b ha hb=>?_),?_,?_⟩
 ·exact aFK hp _ _ _ (ldN s (tV r k) a+1) (b+1) (ldN s (tV r k) a) b (by omega) (by omega)
 ·show ((kN s (sV r k):Nat):Int)=(dT s)[sV r k]?.getD 0;rw [q1.1]
 ·show ((kN s (tV r k):Nat):Int)=(dT s)[tV r k]?.getD 0;rw [q2.1]
theorem aUl:Fit (uA r s) r:=aLy (aDq T) (by have:=T.sub;unfold aGM at this;simp only [cV] at this;exact this.1) rfl rfl
theorem aMR:Mor (uA r s) r (bcF s):=by
 have hsl:=T.len;have hml:=T.R.ml;have hn:(uA r s).dims.length=r.dims.length:=by show (dT s).length=_;rw [nG];exact hsl
 refine ⟨λv hv=>?_,λi hi x k hx hk=>?_⟩
 ·have hv':v<r.dims.length:=by omega
  rw [aJY T hv'];exact aQT (T.v v hv').vecs
 ·have hi':i<r.q.src.length:=hi;have hs:=(T.R.s i hi').2;have ht:=(T.R.t i hi').2;have hk':k<kN s (sV r i):=by rw [←aJY T hs];exact hk
  have Vs:=T.v _ hs;have Vt:=T.v _ ht;have ds:=(T.R.d _ hs).2;have dt':=(T.R.d _ ht).2;have hL:=aEn T ht
  have hw:inV r.p (dN r (tV r i)) (fF r.p (dN r (tV r i)) (imL r.p (dN r (tV r i)) (dN r (sV r i)) (aF r i) (sG s (sV r i)).basis)) (sG s (tV r i)).basis=true:=by
   have:=T.sub;unfold aGM at this;simp only [cV] at this;exact List.all_eq_true.1 this.2.2.2 i (List.mem_range.2 (by omega))
  have hv1:VecsP r.p (dN r (tV r i)) (imL r.p (dN r (tV r i)) (dN r (sV r i)) (aF r i) (sG s (sV r i)).basis):=aFV T.R.hp _ _ _ _;have hwi:=(aEk T.R.hp (yD T.R.hp hv1.inP) Vt.vecs Vt.span).1 (of_decide_eq_true hw);have hk2:k<(sG s (sV r i)).basis.length:=hk'
  have key:=aQV (p:=r.p) hL.2 (x:=λt=>suW r s i t k) λc hc hcL=>by
   have h1:=hwi _ (aGC (p:=r.p) hL.2 hc hcL);rw [aAw T.R.hp hv1.inP] at h1;have h2:=aFZ h1 (List.mem_map.2 ⟨(sG s (sV r i)).basis[k],List.getElem_mem hk2,rfl⟩);refine zW (aIt λt ht'=>?_) h2;have:=aTX (s:=s) (r:=r) (i:=i) (b:=k) ht';rw [gY hk2,iT] at this;unfold vAt;rw [this]
  have h3:=key x hx;have hsu:suW r s i x k % r.p=suW r s i x k:=by unfold suW gX;exact Int.emod_emod_of_dvd _ (Int.dvd_refl _)
  show gX r.p (dN r (sV r i)) (aF r i) (bcF s (sV r i)) x k=gX r.p (dN (uA r s) (tV r i)) (bcF s (tV r i)) (aF (uA r s) i) x k;rw [aJY T ht,nZ r.p (kN s (tV r i))];have e1:gX r.p (dN r (sV r i)) (aF r i) (bcF s (sV r i)) x k=suW r s i x k:=rfl;rw [e1,←hsu];rw [h3,hL.1];congr 1;refine cO λa ha=>?_
  have e2:aF (uA r s) i a k=aOE r s i a k:=by
   unfold aF;show (((List.range r.maps.length).map (aJt r s))[i]?.getD ⟨0,0,[]⟩).cells[a*dN (uA r s) (sV r i)+k]?.getD 0=_;rw [aJY T hs,List.getElem?_map,List.getElem?_range (by omega)];show (bT (kN s (tV r i)) (kN s (sV r i)) (aOE r s i))[a*kN s (sV r i)+k]?.getD 0=_;rw [kM _ ha hk'];rfl
  rw [e2,Int.mul_comm];rfl
theorem aUm:s.map inM=uP (uA r s) r (bcF s):=by
 have hsl:=T.len;have hn:(uA r s).dims.length=r.dims.length:=by show (dT s).length=_;rw [nG];exact hsl
 unfold uP;refine List.ext_getElem (by simp;omega) λv h1 h2=>?_;have hv:v<s.length:=by simpa using h1
 have hv':v<r.dims.length:=by omega
 rw [List.getElem_map,List.getElem_map,List.getElem_range,aGT hv,aJY T hv'];unfold inM aPP;rw [(T.v v hv').size,dU];rfl
end
end
noncomputable section
theorem aMS (s:List Sc):0≤(dT s).sum:=by
 induction s with
 |nil=>exact Int.le_refl 0
 |cons x s ih=>unfold dT at ih ⊢;simp only [List.map_cons,List.sum_cons];omega
theorem aLM (s:List Sc):(dT s).sum=0↔ ∀ v,v<s.length→(sG s v).basis=[]:=by
 induction s with
 |nil=>exact ⟨λ_ v hv=>absurd hv (by simp),λ_=>rfl⟩
 |cons x s ih=>
  have h0:=aMS s;have e:(dT (x::s)).sum=(x.basis.length:Int)+(dT s).sum:=rfl;rw [e];constructor
  ·intro h v hv;cases v with
   |zero=>exact List.length_eq_zero_iff.1 (by show x.basis.length=0;omega)
   |succ v=>exact ih.1 (by omega) v (by simpa using hv)
  ·intro h;have h1:x.basis=[]:=h 0 (by simp);have h2:=ih.2 λv hv=>h (v+1) (by simpa using hv);rw [h1,h2];rfl
theorem aPZ {a b c:List Int} (h1:a.length=c.length) (h2:b.length=c.length) (h: ∀ k,k<c.length→a[k]?.getD 0+b[k]?.getD 0≤c[k]?.getD 0):a.sum+b.sum≤c.sum:=by
 induction c generalizing a b with
 |nil=>
  cases a with
  |nil=>cases b with
   |nil=>exact Int.le_refl _
   |cons y b=>simp at h2
  |cons x a=>simp at h1
 |cons z c ih=>
  cases a with
  |nil=>simp at h1
  |cons x a=>cases b with
   |nil=>simp at h2
   |cons y b=>
    have h0:=h 0 (by simp);have h3:=ih (a:=a) (b:=b) (by simpa using h1) (by simpa using h2) λk hk=>by have:=h (k+1) (by simpa using hk);simpa using this
    simp only [List.sum_cons];simp at h0;omega
theorem aOH {r:Rp} {s:List Sc} (T:Pt r s):lZ (dT s)=some (dT s).sum:=by
 have h5:=T.R.n5;have hl:=T.len;refine aLs (λx hx=>?_) (by rw [nG];omega);obtain ⟨v,hv,e⟩:=List.mem_iff_getElem.1 hx;rw [nG] at hv;have h1:=qT T (show v<r.dims.length by omega);rw [gY (by rw [nG];omega),iT,e] at h1;have:=(T.R.d v (by omega)).2;omega
def pw8 (a:Rp) (c:Nat):Nat→Nat→Nat→Int:=aWZ a (gM a a (coF a a c)) 8
def kS (a:Rp) (c:Nat):List Sc:=aAM a (pw8 a c)
def iS (a:Rp) (c:Nat):List Sc:=aAN a (pw8 a c)
def spl (a:Rp) (c:Nat):Bool:= !decide ((dT (kS a c)).sum=0)&& !decide ((dT (iS a c)).sum=0)
def aPa (a:Rp):List Sc:=a.dims.map λd=>⟨d,[]⟩
theorem aRa {a:Rp} (h:Rv a):sI a=some (aPa a):=by
 have h5:=h.n5;unfold sI aPa;rw [cF (s:=(([]:List Sc),(0:Int))) (r:=a.dims.map λd=>(⟨d,[]⟩:Sc)) (λk=>((a.dims.take k).map λd=>(⟨d,[]⟩:Sc),(k:Int))) a.dims.length rfl (λv hv=>?_) (λ_=>?_),aA]
 ·unfold rO;simp only;rw [fX hv,aL,hJ 0 hv,aA,bB (by rw [dD,List.length_take];omega),aL,bP hv (by omega),aAe (λd=>(⟨d,[]⟩:Sc)) 0 hv]
 ·unfold rO;simp only;rw [gI (bH _),aR,List.take_length]
theorem aOI {a:Rp} {s:List Sc} (T:Pt a s):oX s (aPa a)=some (decide ((dT s).sum=0)):=by
 have h5:=T.R.n5;have hl:=T.len;unfold oX;rw [bB (by unfold aPa;rw [dD];omega),eN,aR];rw [uL (n:=s.length) (λv=>decide ((sG s v).basis=[])) false (by omega) (λv hv=>?_) (λ_=>?_),aA]
 ·cases hA:(List.range s.length).all λv=>decide ((sG s v).basis=[]) with
  |true=>
   rw [bB ((aLM s).2 λv hv=>of_decide_eq_true (qJ.1 hA v hv))];rfl
  |false=>
   rw [dM λe=>by
    have:(List.range s.length).all (λv=>decide ((sG s v).basis=[]))=true:=qJ.2 λv hv=>bB ((aLM s).1 e v hv);rw [this] at hA
    exact Bool.noConfusion hA]
   rfl
 ·have hv':v<a.dims.length:=by omega
  have V:=T.v v hv';have hb:bLs (sG s v).basis:=(T.b _ (iW (l:=s) ⟨0,[]⟩ hv)).1
  have e2:(aPa a)[v]?.getD ⟨0,[]⟩=(⟨(dN a v:Int),[]⟩:Sc):=by
   unfold aPa;rw [List.getElem?_map,gY hv',Option.map_some,iT];have:=(T.R.d v hv').1;rw [gY hv',iT] at this;rw [this]
  unfold nX;rw [fX hv,aL,hJ ⟨0,[]⟩ hv,aA,hJ ⟨0,[]⟩ (by unfold aPa;rw [dD];exact hv'),aA,e2];unfold wN;rw [show (s[v]?.getD ⟨0,[]⟩:Sc)=sG s v from rfl,bB V.size,aL,aNr hb,aA,aA];show _=some (bif decide ((sG s v).basis=[]) then _ else _);cases decide ((sG s v).basis=[]) <;> rfl
 ·unfold nX;rw [gI (bH _),aR]
section
variable {a:Rp} (hv:rZ a=true)
include hv
theorem oZ:Fit a a:=aLy hv hv rfl rfl
theorem aLN:zY a a=true:=by unfold zY;rw [hv,bB rfl,bB rfl];rfl
theorem aJZ (c:Nat):Mor a a (pw8 a c):=aQX (oZ hv) (aVn (oZ hv) c) 8
theorem aQY (c:Nat):Pt a (kS a c):=aVG (aUg (oZ hv) (aJZ hv c) hv)
theorem aQZ (c:Nat):Pt a (iS a c):=aVG (aUh (oZ hv) (aJZ hv c) hv)
theorem aTa (c:Nat):Lp (mT a (iK a a (coF a a c))) ([],0)=some (uP a a (pw8 a c)):=by
 have h:=oZ hv;have n5:=h.ra.n5;rw [aDm];rw [cF (s:=(([]:List Mt),(0:Int))) (r:=uP a a (pw8 a c)) (λk=>((List.range k).map λv=>(⟨dN a v,dN a v,bT (dN a v) (dN a v) (pw8 a c v)⟩:Mt),(k:Int))) a.dims.length rfl (λv hv=>?_) (λ_=>?_)]
 ·have d:=(h.ra.d v hv).2;have p8:sF a.p _ 8=_:=aRX h.ra.hp d ((aNp h c).inP hv) (n:=8) (by omega);unfold mT;simp only;rw [dD,List.length_range,fX hv,aL,mQ hv,aA,p8,aA,bB (by simp;omega),aL,bP hv (by omega)];congr 3;exact jD (f:=λv=>(⟨dN a v,dN a v,bT (dN a v) (dN a v) (pw8 a c v)⟩:Mt))
 ·unfold mT;simp only;rw [dD,List.length_range,gI (bH _),aR];rfl
theorem aPb (c:Nat):wG a (iK a a (coF a a c))=some (uP a a (pw8 a c)):=by
 have h:=oZ hv;have n5:=h.ra.n5;unfold wG;rw [aDm];rw [cF (s:=(([]:List Mt),(0:Int))) (r:=uP a a (pw8 a c)) (λk=>((List.range k).map λv=>(⟨dN a v,dN a v,bT (dN a v) (dN a v) (pw8 a c v)⟩:Mt),(k:Int))) a.dims.length rfl (λv hv=>?_) (λ_=>?_),aA]
 ·have d:=(h.ra.d v hv).2;have p8:sH a.p _ 8=_:=aRY h.ra.hp d ((aNp h c).inP hv) (n:=8) (by omega);unfold qA;simp only;rw [dD,List.length_range,fX hv,aL,mQ hv,aA,p8,aA,bB (by simp;omega),aL,bP hv (by omega)];congr 3;exact jD (f:=λv=>(⟨dN a v,dN a v,bT (dN a v) (dN a v) (pw8 a c v)⟩:Mt))
 ·unfold qA;simp only;rw [dD,List.length_range,gI (bH _),aR];rfl
theorem aRb (c:Nat):xP a (iK a a (coF a a c))=some (bif spl a c then (kS a c,iS a c,true) else ([],[],false)):=by
 have h:=oZ hv;have hm:=aJZ hv c;have K:=aQY hv c;have I:=aQZ hv c;have l5:=h.ra.n5;have lk:=K.len;have li:=I.len;unfold xP;rw [aTa hv c,aA,aOC h hm,aA,aPX h hm,aA];rw [show aAM a (pw8 a c)=kS a c from rfl,show aAN a (pw8 a c)=iS a c from rfl,aGN (by omega),aA,aOH K,aA];unfold spl;cases decide ((dT (kS a c)).sum=0) with
 |true=>rfl
 |false=>
  rw [aR,aGN (by omega),aA,aOH I,aA];cases decide ((dT (iS a c)).sum=0) <;> rfl
theorem aGU (ha:bR a) (c:Nat):oY a (iK a a (coF a a c))=some (bif spl a c then (kS a c,iS a c,true) else ([],[],false)):=by
 have h:=oZ hv;have hf:=aLN hv;have hm:=aJZ hv c;have K:=aQY hv c;have I:=aQZ hv c;unfold oY;rw [aRR ha ha hf c,aA,eN,aR,aPb hv c,aA,aOD h hm ha hf,aA,aPY h hm ha hf,aA,aRa h.ra,aA];rw [show aAM a (pw8 a c)=kS a c from rfl,show aAN a (pw8 a c)=iS a c from rfl,aOI K,aA];unfold spl;cases decide ((dT (kS a c)).sum=0) with
 |true=>rfl
 |false=>
  rw [aR,aA,aOI I,aA];cases decide ((dT (iS a c)).sum=0) <;> rfl
theorem aTb (c:Nat):(dT (kS a c)).sum +(dT (iS a c)).sum ≤a.dims.sum:=by
 have h:=oZ hv;have hm:=aJZ hv c;have K:=aQY hv c;have I:=aQZ hv c;refine aPZ (by rw [nG];exact K.len) (by rw [nG];exact I.len) λv hv'=>?_;rw [(qT K hv').1,(qT I hv').1,(h.ra.d v hv').1];have h1:=aMQ h hm hv';have h2:= @aWR a.p (dN a v) (dN a v) (pw8 a c v)
 have e1:kN (kS a c) v≤(krL a (pw8 a c) v).length:=by
  unfold kN kS;rw [aCZ hv'];exact aCy.2
 have e2:kN (iS a c) v≤rkF a.p (dN a v) (dN a v) (pw8 a c v):=by
  unfold kN iS;rw [aCa hv'];unfold iSc;simp only;rw [aLJ h.ra.hp (hm.inp v hv')];refine Nat.le_trans aCy.2 ?_;unfold sE;rw [dD];exact bH _
 omega
end
def fS (a:Rp) (c:Nat):Option (List Sc×List Sc):=bif spl a c then some (kS a c,iS a c) else none
def aMT (a:Rp):Option (List Sc×List Sc):=(List.range' 1 (xX a a - 1)).findSome? (fS a)
theorem aFa {β γ:Type} (f:Nat→Option β) (g:β→γ) (l:List Nat):l.findSome? (λc=>(f c).map g)=(l.findSome? f).map g:=by
 induction l with
 |nil=>rfl
 |cons c l ih=>
  rw [List.findSome?_cons,List.findSome?_cons];cases f c with
  |none=>exact ih
  |some b=>rfl
theorem aRc {a:Rp} {k i:List Sc} (h:aMT a=some (k,i)): ∃ c,spl a c=true∧k=kS a c∧i=iS a c:=by
 unfold aMT at h;obtain ⟨c,_,hc⟩:=List.exists_of_findSome?_eq_some h;unfold fS at hc;cases e:spl a c with
 |false=>rw [e] at hc;simp at hc
 |true=>
  rw [e,aL] at hc;have:=Option.some.inj hc;exact ⟨c,e,(congrArg Prod.fst this).symm,(congrArg Prod.snd this).symm⟩
theorem aQa {P:Nat} (h:1≤P): ∀ n,1≤cnH P n
 |0=>bH _
 |n+1=>by
  have ih:=aQa h n;unfold cnH;split
  ·exact Nat.le_trans ih (Nat.le_mul_of_pos_right _ h)
  ·exact ih
section
variable {a:Rp} (hv:rZ a=true)
include hv
theorem aLO:1≤xX a a:=by
 have hp:=(aDl (oZ hv).ra.hp).2.1;have:=aQa (P:=a.p.toNat) (by omega) (gH a a);unfold xX;omega
theorem aOJ:tX a (hmB a a)=some (match aMT a with|some x=>(x.1,x.2,true)|none=>([],[],false)):=by
 have h:=oZ hv;have hl:=aAc h;have hd:=aCX h;have el:((hmB a a).length:Int)=(gH a a:Int):=by unfold hmB;rw [dD,hl]
 have em:min ((cnH a.p.toNat (gH a a):Nat):Int) 3000=((xX a a:Nat):Int):=by unfold xX;omega
 have ht:xX a a≤3000:=Nat.min_le_right _ _;unfold tX;rw [yB (s0:=1) (s:=1) (n:=xX a a) (λc=>(fS a c).map λx=>(x.1,x.2,true)) rfl (by omega) (aLO hv) (λc _ hc=>?_) (λ_=>?_),aA,aFa]
 ·unfold aMT;cases (List.range' 1 (xX a a - 1)).findSome? (fS a) <;> rfl
 ·unfold nW;rw [el,aDQ h.ra.hp (by omega),aA,em,fX hc,aL,aPM h (by omega),aA,aRb hv c,aA];unfold fS;cases spl a c <;> rfl
 ·unfold nW;rw [el,aDQ h.ra.hp (by omega),aA,em,gI (bH _),aR]
theorem aRd (ha:bR a):xR a=some (match aMT a with|some x=>(x.1,x.2,true,true)|none=>([],[],false,decide (cnH a.p.toNat (gH a a)≤3000))):=by
 have h:=oZ hv;have hf:=aLN hv;have ht:xX a a≤3000:=Nat.min_le_right _ _;have hpos:=aLO hv;unfold xR;rw [aNo ha ha hf,aA,aMJ ha ha hf,aA];unfold cmI;by_cases h1:cnH a.p.toNat (gH a a)≤100000
 ·rw [aV h1,dM (by omega),aR];by_cases h3:cnH a.p.toNat (gH a a)≤3000
  ·have et:xX a a=cnH a.p.toNat (gH a a):=Nat.min_eq_left h3;rw [dM (by omega),aR];rw [yB (s0:=1) (s:=1) (n:=xX a a) (λc=>(fS a c).map λx=>(x.1,x.2,true,true)) rfl (by omega) hpos (λc _ hc=>?_) (λ_=>?_),aA,aFa,bB h3,bB rfl]
   ·unfold aMT;cases (List.range' 1 (xX a a - 1)).findSome? (fS a) <;> rfl
   ·unfold rR;rw [←et,fX hc,aL];simp only;rw [aJJ h (by omega),aA,aGU hv ha c,aA];unfold fS;cases spl a c <;> rfl
   ·unfold rR;rw [←et,gI (bH _),aR]
  ·have et:xX a a=3000:=Nat.min_eq_right (by omega);rw [bB (by omega),aL];rw [yB (s0:=1) (s:=1) (n:=xX a a) (λc=>(fS a c).map λx=>(x.1,x.2,true,true)) rfl (by omega) hpos (λc _ hc=>?_) (λ_=>?_),aA,aFa,dM h3,dM (by omega)]
   ·unfold aMT;cases (List.range' 1 (xX a a - 1)).findSome? (fS a) <;> rfl
   ·unfold rQ;rw [bB (by omega),aL];simp only;rw [aJJ h (by omega),aA,aGU hv ha c,aA];unfold fS;cases spl a c <;> rfl
   ·unfold rQ;rw [dM (by omega),aR]
 ·have et:xX a a=3000:=Nat.min_eq_right (by omega);rw [aW h1,bB (by omega),aL];rw [yB (s0:=1) (s:=1) (n:=xX a a) (λc=>(fS a c).map λx=>(x.1,x.2,true,true)) rfl (by omega) hpos (λc _ hc=>?_) (λ_=>?_),aA,aFa,dM (show ¬ cnH a.p.toNat (gH a a)≤3000 by omega),dM (by omega)]
  ·unfold aMT;cases (List.range' 1 (xX a a - 1)).findSome? (fS a) <;> rfl
  ·unfold rP;rw [bB (by omega),aL];simp only;rw [aJJ h (by omega),aA,aGU hv ha c,aA];unfold fS;cases spl a c <;> rfl
  ·unfold rP;rw [dM (by omega),aR]
end
end
noncomputable section
theorem aOK {r:Rp} (h:bR r):tI r=some r:=by
 obtain ⟨⟨h1,h2,_⟩,h3,⟨h4,h5⟩,_⟩:=h;unfold bI at h1 h2 h3
 have hc:nR r.maps=some r.maps:=by
  unfold nR;rw [cF (s:=(([]:List Mt),(0:Int))) (r:=r.maps) (λk=>(r.maps.take k,(k:Int))) r.maps.length rfl (λk hk=>?_) (λ_=>?_),aA]
  ·have:=(h5 _ (List.getElem_mem hk)).1;unfold bI at this;unfold kD;simp only;rw [fX hk,aL,cZ hk,aA];unfold gB nJ;rw [bB this,aL,aA,aA,bB (by simp;omega),aL,bP hk (by omega),uH hk]
  ·unfold kD;simp only;rw [gI (bH _),aR,List.take_length]
 unfold tI iI nJ;rw [bB h1,bB h2,bB h3,hc];rfl
theorem aTc {r:Rp} (h:bR r):zB r=some r:=by
 obtain ⟨hq,h3,⟨h4,h5⟩,_⟩:=h;unfold bI at h3;unfold zB;rw [aNu hq,aA,bB (by simp;omega),aL];rw [cF (s:=(([]:List Mt),(0:Int))) (r:=r.maps) (λk=>(r.maps.take k,(k:Int))) r.maps.length rfl (λk hk=>?_) (λ_=>?_),aA,List.nil_append]
 ·have:=(h5 _ (List.getElem_mem hk)).1;unfold bI at this;unfold tJ;simp only;rw [fX hk,aL,cZ hk,aA];unfold uW;rw [bB (by simp;omega),aL,aA,bB (by simp;omega),aL,bP hk (by omega),uH hk,List.nil_append]
 ·unfold tJ;simp only;rw [gI (bH _),aR,List.take_length]
end
noncomputable section
theorem aMU {r:Rp} (h:rZ r=true):0≤r.dims.sum∧r.dims.sum≤8∧ ∀ x∈r.dims,0≤x∧x≤4:=by
 obtain ⟨_,hD,_,_⟩:=zV h;obtain ⟨_,_,h2,h3⟩:=kI hD;exact ⟨(aLr h2).1,h3,h2⟩
theorem aOL {r:Rp} (hr:bR r) (h:rZ r=true):sD r=some r.dims.sum:=by
 have h5:=(aDI h).n5;have h2:=(aMU h).2.2;unfold sD;rw [yI hr,aA,h,eN,aR];rw [cF (r:=r.dims.sum) (λk=>((r.dims.take k).sum,(k:Int))) r.dims.length (by simp) (λk hk=>?_) (λ_=>?_),aA]
 ·unfold rF;simp only;have h1:=aLr (d:=r.dims.take (k+1)) λx hx=>h2 x (List.mem_of_mem_take hx);rw [fX hk,aL,hJ 0 hk,aA,←aIg hk,dV (by simp at h1;omega),bP hk (by omega)]
 ·unfold rF;simp only;rw [gI (bH _),aR,List.take_length]
structure Gd (a r:Rp) (m:List Mt):Prop where
 b:bR r
 v:rZ r=true
 p:r.p=a.p
 q:r.q=a.q
 m: ∃ P,m=uP r a P∧Mor r a P
def GdL (a:Rp):List Rp→List (List Mt)→Prop
 | [],[]=>True
 |r::rs,m::ms=>Gd a r m∧GdL a rs ms
 |_,_=>False
theorem GdL.len {a:Rp} : ∀ {rs:List Rp} {ms:List (List Mt)},GdL a rs ms→rs.length=ms.length
 | [],[],_=>rfl
 | [],_::_,h=>h.elim
 |_::_,[],h=>h.elim
 |r::rs,m::ms,h=>by simp only [List.length_cons];rw [GdL.len h.2]
theorem GdL.append {a:Rp} {xs:List Rp} {ys:List (List Mt)} (h':GdL a xs ys): ∀ {rs:List Rp} {ms:List (List Mt)},GdL a rs ms→GdL a (rs++xs) (ms++ys)
 | [],[],_=>h'
 | [],_::_,h=>h.elim
 |_::_,[],h=>h.elim
 |r::rs,m::ms,h=>⟨h.1,GdL.append h' h.2⟩
theorem GdL.get {a:Rp} : ∀ {rs:List Rp} {ms:List (List Mt)},GdL a rs ms→ ∀ k,k<rs.length→Gd a (rs[k]?.getD ⟨0,⟨0,[],[]⟩,[],[]⟩) (ms[k]?.getD [])
 | [],[],_,k,hk=>absurd hk (by simp)
 | [],_::_,h,_,_=>h.elim
 |_::_,[],h,_,_=>h.elim
 |r::rs,m::ms,h,0,_=>h.1
 |r::rs,m::ms,h,k+1,hk=>GdL.get h.2 k (by simpa using hk)
def cmp (p:Int) (N M:List Mt):List Mt:=(lS p M N).getD []
theorem aHo {a r:Rp} {s:List Sc} (ha:bR a) (hv:rZ a=true) (T:Pt a s) {m:List Mt} (g:Gd (uA a s) r m):
  lS a.p m (s.map inM)=some (cmp a.p (s.map inM) m)∧fT r (uA a s) a m (s.map inM)=some (cmp a.p (s.map inM) m,true)∧Gd a r (cmp a.p (s.map inM) m):=by
 obtain ⟨P,e,f⟩:=g.m;have h1:Fit r (uA a s):=aLy g.v (aDq T) g.p g.q;have h2:=aUl T;have hp:r.p=a.p:=g.p;have c1:=aPU h1 h2 f (aMR T);have f1:zY r (uA a s)=true:=by unfold zY;rw [g.v,aDq T,bB g.p,bB g.q];rfl
 have f2:zY (uA a s) a=true:=by unfold zY;rw [hv,aDq T,bB (show (uA a s).p=a.p from rfl),bB (show (uA a s).q=a.q from rfl)];rfl
 have c2:=aPV h1 h2 f (aMR T) g.b (aTZ ha T) ha f1 f2;rw [←e,←aUm T] at c1 c2;have c4:=aOB h1 f (aMR T);rw [hp] at c1 c2 c4;have c3:cmp a.p (s.map inM) m=uP r a λv=>gX a.p (dN (uA a s) v) (bcF s v) (P v):=by unfold cmp;rw [c1];rfl
 rw [←c3] at c1 c2;exact ⟨c1,c2,g.b,g.v,g.p,g.q,_,c3,c4⟩
section
variable {a:Rp} (ha:bR a) (hv:rZ a=true) {s:List Sc} (T:Pt a s)
include ha hv T
theorem GdL.map: ∀ {rs:List Rp} {ms:List (List Mt)},GdL (uA a s) rs ms→GdL a rs (ms.map (cmp a.p (s.map inM)))
 | [],[],_=>trivial
 | [],_::_,h=>h.elim
 |_::_,[],h=>h.elim
 |r::rs,m::ms,h=>⟨(aHo ha hv T h.1).2.2,GdL.map h.2⟩
variable {rs:List Rp} {ms:List (List Mt)} (G:GdL (uA a s) rs ms) (h8:rs.length≤64) {x:List (List Mt)} (hx:x.length≤64)
include G h8 hx
theorem aLP {f:Bool} :Lp (mV a (uA a s,s.map inM) (rs,ms,f)) (x,0)=some (x++ms.map (cmp a.p (s.map inM))):=by
 have hl:=G.len;rw [cF (r:=x++ms.map (cmp a.p (s.map inM))) (λk=>(x++(ms.take k).map (cmp a.p (s.map inM)),(k:Int))) ms.length (by simp) (λk hk=>?_) (λ_=>?_)]
 ·have g:=aHo ha hv T (G.get k (by omega));unfold mV;simp only;rw [fX hk,aL,hJ [] hk,aA,g.1,aA,bB (by rw [List.length_append,dD,List.length_take];omega),aL,bP hk (by omega),List.append_assoc,aAe (cmp a.p (s.map inM)) [] hk]
 ·unfold mV;simp only;rw [gI (bH _),aR,List.take_length]
variable {X:List Rp} (hX:X.length≤64)
include hX
theorem aMV {f g:Bool} :Lp (kW a (uA a s,s.map inM,g) (rs,ms,f)) (X,x,0)=some (X++rs,x++ms.map (cmp a.p (s.map inM))):=by
 have hl:=G.len;rw [cF (r:=(X++rs,x++ms.map (cmp a.p (s.map inM)))) (λk=>(X++rs.take k,x++(ms.take k).map (cmp a.p (s.map inM)),(k:Int))) rs.length (by simp) (λk hk=>?_) (λ_=>?_)]
 ·have g:=aHo ha hv T (G.get k hk);unfold kW;simp only;rw [fX hk,aL,hJ ⟨0,⟨0,[],[]⟩,[],[]⟩ hk,aA,hJ [] (by omega),aA,g.2.1,aA,aA,bB (by rw [List.length_append,List.length_take];omega),aL,bB (by rw [List.length_append,dD,List.length_take];omega),aL,bP hk (by omega),List.append_assoc,List.append_assoc,aAe (cmp a.p (s.map inM)) [] (by omega)];congr 3;rw [uH hk,gY hk];rfl
 ·unfold kW;simp only;rw [gI (bH _),aR,List.take_length,hl,List.take_length]
theorem aMW {f g:Bool} :Lp (kX a (uA a s,s.map inM,g) (rs,ms,f)) (X,x,0)=some (X++rs,x++ms.map (cmp a.p (s.map inM))):=by
 have hl:=G.len;rw [cF (r:=(X++rs,x++ms.map (cmp a.p (s.map inM)))) (λk=>(X++rs.take k,x++(ms.take k).map (cmp a.p (s.map inM)),(k:Int))) rs.length (by simp) (λk hk=>?_) (λ_=>?_)]
 ·have g:=aHo ha hv T (G.get k hk);unfold kX;simp only;rw [fX hk,aL,hJ ⟨0,⟨0,[],[]⟩,[],[]⟩ hk,aA,hJ [] (by omega),aA,g.2.1,aA,aA,bB (by rw [List.length_append,List.length_take];omega),aL,bB (by rw [List.length_append,dD,List.length_take];omega),aL,bP hk (by omega),List.append_assoc,List.append_assoc,aAe (cmp a.p (s.map inM)) [] (by omega)];congr 3;rw [uH hk,gY hk];rfl
 ·unfold kX;simp only;rw [gI (bH _),aR,List.take_length,hl,List.take_length]
end
theorem aJa: ∀ (n:Nat) (a:Rp),bR a→rZ a=true→0<a.dims.sum→a.dims.sum<(n:Int)→ ∃ rs ms f,iD n a=some (rs,ms,f)∧gK n a=some (rs,ms,f)∧GdL a rs ms∧(rs.length:Int)≤a.dims.sum∧(f=true→rs≠[])
 |0,a,_,_,h1,h2=>absurd h1 (by omega)
 |n+1,a,ha,hv,h1,h2=>by
  have h8:=(aMU hv).2.1;have hf:=oZ hv;have hl:=aAc hf;have hd:=aCX hf;have el:((hmB a a).length:Int)=(gH a a:Int):=by unfold hmB;rw [dD,hl]
  unfold iD gK yN xS;rw [aNn hf,aA,aOJ hv,aA,aOL ha hv,aA,dM (show ¬ a.dims.sum=0 by omega),aR,aRd hv ha,aA];cases hs:aMT a with
  |none=>
   have ec:decide (((cnH a.p.toNat (gH a a):Nat):Int)≤3000)=decide (cnH a.p.toNat (gH a a)≤3000):=decide_eq_decide.2 (by omega);simp only [Bool.not_false,aL];rw [aOK ha,aA,aTR hf.ra,aA,el,aDQ hf.ra.hp (by omega),aA,aUf ha hv,aA,aTc ha,aA];refine ⟨_,_,_,rfl,?_,⟨⟨ha,hv,rfl,rfl,_,rfl,aTQ hf.ra⟩,trivial⟩,by simp;omega,λ_=>by simp⟩;rw [ec]
  |some x=>
   obtain ⟨k,i⟩:=x;obtain ⟨c,hc,ek,ei⟩:=aRc hs;have K:Pt a k:=ek▸aQY hv c;have I:Pt a i:=ei▸aQZ hv c;have hle:=aTb hv c;have hk0:=aMS (kS a c);have hi0:=aMS (iS a c);unfold spl at hc;simp only [cV,Bool.not_eq_true',decide_eq_false_iff_not] at hc;rw [←ek,←ei] at hle hc;rw [←ek] at hk0;rw [←ei] at hi0;obtain ⟨r1,m1,f1,a1,b1,g1,l1,w1⟩:=aJa n (uA a k) (aTZ ha K) (aDq K) (by show 0<(dT k).sum;omega) (by show (dT k).sum <_;omega);obtain ⟨r2,m2,f2,a2,b2,g2,l2,w2⟩:=aJa n (uA a i) (aTZ ha I) (aDq I) (by show 0<(dT i).sum;omega) (by show (dT i).sum <_;omega);replace l1:(r1.length:Int)≤(dT k).sum:=l1;replace l2:(r2.length:Int)≤(dT i).sum:=l2;have n1:=g1.len;have n2:=g2.len;simp only [eN,aR]
   have A0:iC (iD n) a (k,i,true) ([],[],0)=some (bif f1 then .inl (r1,m1.map (cmp a.p (k.map inM)),1) else .inr (.inr ())):=by
    unfold iC;simp only;rw [show decide ((0:Int)<2)=true from rfl,aL,show cP [k,i] 0=some k from rfl,aA,aOF ha K,aA,a1,aA];cases f1 with
    |false=>rfl
    |true=>
     simp only [eN,aR,aL];rw [bB (by simp;omega),aL,aLP ha hv K g1 (by omega) (by simp),aA];rfl
   have B0:gR (gK n) a (k,i,true,true) ([],[],0)=some (bif f1 then .inl (r1,m1.map (cmp a.p (k.map inM)),1) else .inr (.inr ())):=by
    unfold gR;simp only;rw [show decide ((0:Int)<2)=true from rfl,aL,show decide ((0:Int)=1)=false from rfl,aR,aOG ha K,aA,b1,aA];cases f1 with
    |false=>rfl
    |true=>
     simp only [eN,aR,aL];rw [aMW ha hv K g1 (by omega) (by simp) (by simp),aA];rfl
   cases f1 with
   |false=>
    refine ⟨[],[],false,?_,?_,trivial,by simp;omega,λh=>by cases h⟩
    ·rw [gE A0];rfl
    ·rw [gE B0];rfl
   |true=>
    have A1:iC (iD n) a (k,i,true) (r1,m1.map (cmp a.p (k.map inM)),1)=some (bif f2 then .inl (r1++r2,m1.map (cmp a.p (k.map inM))++m2.map (cmp a.p (i.map inM)),2) else .inr (.inr ())):=by
     unfold iC;simp only;rw [show decide ((1:Int)<2)=true from rfl,aL,show cP [k,i] 1=some i from rfl,aA,aOF ha I,aA,a2,aA];cases f2 with
     |false=>rfl
     |true=>
      simp only [eN,aR,aL];rw [bB (by omega),aL,aLP ha hv I g2 (by omega) (by rw [dD];omega),aA];rfl
    have B1:gR (gK n) a (k,i,true,true) (r1,m1.map (cmp a.p (k.map inM)),1)=some (bif f2 then .inl (r1++r2,m1.map (cmp a.p (k.map inM))++m2.map (cmp a.p (i.map inM)),2) else .inr (.inr ())):=by
     unfold gR;simp only;rw [show decide ((1:Int)<2)=true from rfl,aL,decide_true,aL,aOG ha I,aA,b2,aA];cases f2 with
     |false=>rfl
     |true=>
      simp only [eN,aR,aL];rw [aMV ha hv I g2 (by omega) (by rw [dD];omega) (by omega),aA];rfl
    rw [jW A0,jW B0];cases f2 with
    |false=>
     refine ⟨[],[],false,?_,?_,trivial,by simp;omega,λh=>by cases h⟩
     ·rw [gE A1];rfl
     ·rw [gE B1];rfl
    |true=>
     refine ⟨r1++r2,m1.map (cmp a.p (k.map inM))++m2.map (cmp a.p (i.map inM)),true,?_,?_,(GdL.map ha hv I g2).append (GdL.map ha hv K g1),by rw [List.length_append];omega,λ_ h=>w1 rfl (List.append_eq_nil_iff.1 h).1⟩
     ·rw [jW A1,gE (show iC (iD n) a (k,i,true) (_,_,2)=some (.inr (.inl (_,_))) from rfl)];rfl
     ·rw [jW B1,gE (show gR (gK n) a (k,i,true,true) (_,_,2)=some (.inr (.inl (_,_))) from rfl)];rfl
end
noncomputable section
def aJb (c:Nat) (F G:Nat→Nat→Int):Nat→Nat→Int:=λi j=>if j<c then F i j else G i (j - c)
theorem aTd (r c d:Nat) (F G:Nat→Nat→Int):yL r c F++yL r d G=(List.range (c+d)).map λk=>eG r λi=>aJb c F G i k:=by
 unfold yL;rw [List.range_add,List.map_append,List.map_map];congr 1
 ·refine qU λk hk=>iP λi _=>?_;simp only [aJb];rw [aV (List.mem_range.1 hk)]
 ·refine qU λk hk=>?_;show _=eG r λi=>aJb c F G i (c+k);refine iP λi _=>?_;simp only [aJb];rw [aW (by omega),Nat.add_sub_cancel_left]
theorem aOM (r c:Nat) (F G:Nat→Nat→Int): ∀ s,bT r c F++bT s c G=bT (r+s) c λi j=>if i<r then F i j else G (i - r) j
 |0=>by
  rw [show bT 0 c G=[] by simp [bT],List.append_nil];exact cC λi j hi _=>by rw [aV hi]
 |s+1=>by
  rw [←aGE s c G,←List.append_assoc,aOM r c F G s,show r+(s+1)=r+s+1 by omega,←aGE (r+s) c];congr 1;refine iP λj _=>?_;rw [aW (by omega),Nat.add_sub_cancel_left]
section
variable {d c e:Nat} (hd:d≤4) (hc:c≤64) (he:e≤4) (F G:Nat→Nat→Int)
include hd hc he
theorem aTe:zH ⟨d,c,bT d c F⟩ ⟨d,e,bT d e G⟩=some ⟨d,(c+e:Nat),bT d (c+e) (aJb c F G)⟩:=by
 have m1:=Nat.mul_le_mul hd hc;have m2:=Nat.mul_le_mul hd he;have m3:=Nat.mul_le_mul hd (show c+e≤68 by omega);unfold zH;rw [aGL (by omega) (by omega) (by omega),aA,aGL (by omega) (by omega) (by omega),aA,bB (by simp [yL];omega),aL,aTd,yX (by omega) (by omega) (by omega)];rfl
theorem aON:tZ ⟨d,c,bT d c F⟩ ⟨d,e,bT d e G⟩=some ⟨d,(c+e:Nat),bT d (c+e) (aJb c F G)⟩:=by
 have m1:=Nat.mul_le_mul hc hd;have m2:=Nat.mul_le_mul he hd;have m3:=Nat.mul_le_mul (show c+e≤68 by omega) hd;have m4:=Nat.mul_le_mul hd (show c+e≤68 by omega);unfold tZ;rw [zG (by omega) (by omega) (by omega),aA];simp only [List.nil_append,List.length_nil,dO];rw [bB (by omega),aL,zG (by omega) (by omega) (by omega),aA];simp only [dO];rw [bB (by omega),aL,aOM,show wr ((c:Int)+(e:Int))=((c+e:Nat):Int) by rw [dV (by omega)];omega,zG (by omega) (by omega) (by omega),aA];rfl
end
section
variable {a:Rp} (ra:rZ a=true) {rs:List Rp} {ms:List (List Mt)} (G:GdL a rs ms) (h8:rs.length≤8) {f:Bool}
include ra G h8
theorem aTf {v:Nat} (hv:v<a.dims.length) {x1:List Mt×Int} (hx:x1.2=(v:Int)): ∀ (d k:Nat),k+d=ms.length→ ∀ (c:Nat) (F:Nat→Nat→Int),c≤4*k→
  ∃ Q:Int×Int×List Int,Lp (mW (rs,ms,f) x1) ((dN a v:Int),(c:Int),bT (dN a v) c F,(k:Int))=some Q∧Lp (mY (rs,ms,f) x1) ((dN a v:Int),(c:Int),bT (dN a v) c F,(k:Int))=some Q∧Q.2.2.length≤1048576
 |0,k,hk,c,F,hc=>by
  have R:=aDI ra;have hl:=G.len;have dv:=(R.d v hv).2;have m1:=Nat.mul_le_mul dv (show c≤64 by omega);refine ⟨((dN a v:Int),(c:Int),bT (dN a v) c F),gE ?_,gE ?_,by rw [dO];omega⟩
  ·unfold mW;simp only;rw [gI (by omega),aR]
  ·unfold mY;simp only;rw [gI (by omega),aR]
 |d+1,k,hk,c,F,hc=>by
  have R:=aDI ra;have hl:=G.len;have dv:=(R.d v hv).2;have hkm:k<ms.length:=by omega
  have g:=G.get k (by omega);obtain ⟨P,e,f'⟩:=g.m;have hr:=aDI g.v
  have hn:(rs[k]?.getD ⟨0,⟨0,[],[]⟩,[],[]⟩).dims.length=a.dims.length:=by
   have h1:=(kI (zV g.v).2.1).2.1;have h2:=g.q;generalize (rs[k]?.getD ⟨0,⟨0,[],[]⟩,[],[]⟩)=r at*;rw [h2] at h1;have h3:=(kI (zV ra).2.1).2.1;omega
  have dr:=(hr.d v (by omega)).2
  have hat:cP (ms[k]?.getD []) (v:Int)=some ⟨dN a v,dN (rs[k]?.getD ⟨0,⟨0,[],[]⟩,[],[]⟩) v,bT (dN a v) (dN (rs[k]?.getD ⟨0,⟨0,[],[]⟩,[],[]⟩) v) (P v)⟩:=by
   rw [e];exact xU (by omega)
  obtain ⟨Q,q1,q2,q3⟩:=aTf hv hx d (k+1) (by omega) (c+dN (rs[k]?.getD ⟨0,⟨0,[],[]⟩,[],[]⟩) v) (aJb c F (P v)) (by omega);refine ⟨Q,?_,?_,q3⟩
  ·rw [jW ?_];exact q1;unfold mW;simp only;rw [fX hkm,aL,hJ [] hkm,aA,hx,hat,aA,aTe dv (by omega) dr,aA,bP hkm (by omega)]
  ·rw [jW ?_];exact q2;unfold mY;simp only;rw [fX hkm,aL,hJ [] hkm,aA,hx,hat,aA,aON dv (by omega) dr,aA,bP hkm (by omega)]
theorem aOO: ∀ (d v:Nat),v+d=a.dims.length→ ∀ acc:List Mt,acc.length=v→(∀ m∈acc,bM m)→
  ∃ L:List Mt,Lp (mX a (rs,ms,f)) (acc,(v:Int))=some L∧Lp (mZ a (rs,ms,f)) (acc,(v:Int))=some L∧L.length=a.dims.length∧ ∀ m∈L,bM m
 |0,v,hv,acc,ha,hm=>by
  refine ⟨acc,gE ?_,gE ?_,by omega,hm⟩
  ·unfold mX;simp only;rw [gI (by omega),aR]
  ·unfold mZ;simp only;rw [gI (by omega),aR]
 |d+1,v,hv,acc,ha,hm=>by
  have R:=aDI ra;have hva:v<a.dims.length:=by omega
  have h5:=R.n5;have dv:=R.d v hva;obtain ⟨Q,q1,q2,q3⟩:=aTf ra G h8 (f:=f) hva (x1:=(acc,(v:Int))) rfl ms.length 0 (by omega) 0 (λ_ _=>0) (by omega)
  obtain ⟨L,l1,l2,l3,l4⟩:=aOO d (v+1) (by omega) (acc++[⟨Q.1,Q.2.1,Q.2.2⟩]) (by simp;omega) (λm hm'=>by
   rcases eB.1 hm' with h|h
   ·exact hm m h
   ·rcases List.mem_singleton.1 h with rfl
    exact ⟨q3,trivial⟩)
  have z1:=aEb (r:=dN a v) (c:=0) (by omega);have z2:=aDF (r:=dN a v) (c:=0) (by omega);refine ⟨L,?_,?_,l3,l4⟩
  ·rw [jW ?_];exact l1;unfold mX;simp only;rw [fX hva,aL,hJ 0 hva,aA,dv.1,show (0:Int)=((0:Nat):Int) from rfl,z1,aA,q1,aA,bB (by omega),aL,bP hva (by omega)]
  ·rw [jW ?_];exact l2;unfold mZ;simp only;rw [fX hva,aL,hJ 0 hva,aA,dv.1,show (0:Int)=((0:Nat):Int) from rfl,z2,aA,q2,aA,bB (by omega),aL,bP hva (by omega)]
end
theorem GdL.b {a:Rp} : ∀ {rs:List Rp} {ms:List (List Mt)},GdL a rs ms→ ∀ r∈rs,bR r∧rZ r=true
 | [],[],_,r,hr=>by simp at hr
 | [],_::_,h,_,_=>h.elim
 |_::_,[],h,_,_=>h.elim
 |x::rs,m::ms,h,r,hr=>by
  rcases eX.1 hr with e|h2
  ·rw [e];exact ⟨h.1.b,h.1.v⟩
  ·exact GdL.b h.2 r h2
theorem aRe {a:Rp} (ha:bR a): ∃ rs L f,xQ a=some (rs,L,f)∧xT a=some (rs,L,f)∧rs.length≤8∧(∀ r∈rs,bR r)∧L.length≤5∧(∀ m∈L,bM m)∧(∀ r∈rs,rZ r=true)∧(f=true→rs≠[]):=by
 unfold xQ xT;rw [aRD ha,yI ha,aA,aA];cases hv:rZ a with
 |false=>exact ⟨[],[],false,rfl,rfl,by simp,by simp,by simp,by simp,by simp,λh=>by cases h⟩
 |true=>
  have R:=aDI hv;have h5:=R.n5;obtain ⟨t0,t8,t4⟩:=aMU hv;rw [eN,aR,aR,aLs t4 (by omega),aOL ha hv,aA,aA];by_cases hz:a.dims.sum=0
  ·rw [bB hz,aL];exact ⟨[],[],false,rfl,rfl,by simp,by simp,by simp,by simp,by simp,λh=>by cases h⟩
  ·rw [dM hz,aR,aR];obtain ⟨rs,ms,f,p1,p2,G,l8,w⟩:=aJa 9 a ha hv (by omega) (by omega);rw [p1,p2,aA,aA];cases f with
   |false=>exact ⟨[],[],false,rfl,rfl,by simp,by simp,by simp,by simp,by simp,λh=>by cases h⟩
   |true=>
    obtain ⟨L,l1,l2,l3,l4⟩:=aOO hv G (by omega) (f:=true) a.dims.length 0 (by omega) [] rfl (by simp);simp only [eN,aR];rw [show ((0:Nat):Int)=0 from rfl] at l1 l2;rw [l1,l2];exact ⟨rs,L,true,rfl,rfl,by omega,λr hr=>(GdL.b G r hr).1,by omega,l4,λr hr=>(GdL.b G r hr).2,w⟩
end
end Go.Proofs.YtilpfdokmlanjaaGreatDoor

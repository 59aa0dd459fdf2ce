/-
  Several texts of the claim in one.
-/
import Derived.Test.YtpppcfhgaehcjaaGreatDoorH7
set_option linter.unusedVariables false
set_option linter.unusedSimpArgs false
namespace Go.Proofs.YtpppcfhgaehcjaaGreatDoor
open Go.RowKit
noncomputable section
set_option maxRecDepth 10000
set_option maxHeartbeats 4000000
def pL (a0:Rp) (a1:Rp) (x1:((List Mt)×Int)):Option (((List Mt)×Int) ⊕ (List Mt)):=
 bif decide (x1.2<(a0.dims.length:Int)) then
 ((cP a0.dims x1.2).bind λv2=>
 (cP a1.dims x1.2).bind λv3=>
 (mZ v3 v2).bind λv4=>
 bif decide (x1.1.length+1≤4294967296) then
 (some (.inl ((x1.1++[v4]),wr (x1.2+1))))
 else none)
 else
 (some (.inr x1.1))
def nP (a0:Rp) (a1:Rp):Option (List Mt):=
 (Lp (pL a0 a1) ([],0)).bind λy6=>
 some (y6)
theorem xJ (a0:Rp) (a1:Rp) (r:(List Mt)) (h:nP a0 a1=some r):HasC Tryz.prog 154 [.agg (eR a0),.agg (eR a1)] (.list 3 (r.map eM)):=by
 refine hM [.tmp 4] Tryz.func154 Tryz.ntmps154 k<|sR<|ae (wb k) k<|ae (wb k) k<|aT k2<|sR<|aT k2<|sQ<|sR<|fp k8<|lp k8<|ln k4<|am k k<|an<|tn<|aE<|oB h λy6 hy6 h=>bP (body:=(pL a0 a1)) hy6 (λ(x1:((List Mt)×Int))=>mN [(3,.ptr 0 0 0),(5,.own 1 0 x1.1.length),(9,.list 1 (a0.dims.map eI)),(10,.int (a0.dims.length:Int)),(11,.int x1.2)] [(0,⟨6,[eR a1]⟩),(1,⟨3,x1.1.map (ow eM)⟩)] 2) (λr e t=>e= .exit 0∧Ent t (mN [(5,.own 0 0 r.length)] [(0,⟨3,r.map (ow eM)⟩)] 1)) (qH (σ:=sg [(0,1)]) (tN 1 k2 (sW ⟨_,k,⟨k,k,k,k⟩⟩ (bH k2))) (bF k<|hX k k<|aY) k) ?_ ?_
 ·intro x1 o h;refine sR<|cm k4<|an<|tn<|sQ<|cO k h (λ_ h=>?_) λ_ h=>aV<|aB<|aB<|sp h ⟨_,k,k,(vS [1] (bH k2) (mW (cJ.plainO _) k<|aY) k4)⟩;refine aI<|tn<|sQ<|aE<|sR<|am k k<|oB h λv2 hv2 h=>ae (xl hv2 k) k<|lr k7<|aa k k<|aT k2<|rg<|am k k<|fp k8<|lp k8<|am k k<|oB h λv3 hv3 h=>ae (xl hv3 k) k<|lr k7<|am k k<|oB h λv4 hv4 h=>ae (cM (uW v3 v2 v4 hv4) k3 (bX k (bX k aL))) k<|ae (wl k) k<|cG h λq5 h=>ae (vL aS (l:=x1.1) (c:=[.int v4.rows,.int v4.cols,.own 2 0 v4.cells.length]) q5 k k k k k k k k k k k k k k) k<|aa k k<|an<|aX<|tn<|aP (t:=mN [(3,.ptr 0 0 0),(5,.own 4 0 ((x1.1++[v4]).length)),(9,.list 1 (a0.dims.map eI)),(10,.int (a0.dims.length:Int)),(11,.int x1.2)] [(0,⟨6,[eR a1]⟩),(4,⟨3,List.map (ow eM) (x1.1++[v4])⟩)] 5) (Ent.trans (oD (b:=4) (b':=2) (j:=2) (es':=v4.cells.map eI) k k k k (aW _ _) (dY.frzs _)) (bK (tN 1 k2 (sW ⟨_,k,⟨k,k,(by simp only [aW,lA,lT,lR,lC,lN]),k⟩⟩ (bH k2))) (bF k<|hX ⟨_,k,k,.inl ⟨vM v4 k,cJ.plainO _⟩⟩ k<|aY) k4)) ?_;exact rg<|ae (bB k k) k<|am k k<|an<|tn<|sp h ⟨_,k,(vS [0,4] (bH k2) (bF k<|mW (cJ.plainO _) k<|aY) k4)⟩
 ·rintro e t ⟨rfl,hent⟩;exact aN<|tn<|aP hent<|sR<|am k k<|aT k2<|aC<|sp h (bD k k k (gR (gC cJ k k)))
def rB (a0:(List Mt)) (x1:((List Int)×Int)):Option (((List Int)×Int) ⊕ (List Int)):=
 bif decide (x1.2<(a0.length:Int)) then
 ((cP a0 x1.2).bind λv2=>
 bif decide (x1.1.length+v2.cells.length≤4294967296) then
 (some (.inl ((x1.1++v2.cells),wr (x1.2+1))))
 else none)
 else
 (some (.inr x1.1))
def jE (a0:(List Mt)):Option (List Int):=
 (Lp (rB a0) ([],0)).bind λy4=>
 some (y4)
theorem yV (a0:(List Mt)) (r:(List Int)) (h:jE a0=some r):HasC Tryz.prog 182 [.list 3 (a0.map eM)] (.list 1 (r.map eI)):=by
 refine hM [.tmp 2] Tryz.func182 Tryz.ntmps182 k<|sR<|aT k2<|sR<|aT k2<|sQ<|sR<|am k k<|ln k4<|am k k<|an<|tn<|aE<|oB h λy4 hy4 h=>bP (body:=(rB a0)) hy4 (λ(x1:((List Int)×Int))=>mN [(3,.own 0 0 x1.1.length),(6,.list 3 (a0.map eM)),(7,.int (a0.length:Int)),(8,.int x1.2)] [(0,⟨1,x1.1.map (ow eI)⟩)] 1) (λr e t=>e= .exit 0∧Ent t (mN [(3,.own 0 0 r.length)] [(0,⟨1,r.map (ow eI)⟩)] 1)) (qH (σ:=sg []) (sW ⟨_,k,⟨k,k,k,k⟩⟩ (bH k2)) (hX k k<|aY) k) ?_ ?_
 ·intro x1 o h;exact sR<|cm k4<|an<|tn<|sQ<|cO k h (λ_ h=>aI<|tn<|sQ<|aE<|sR<|oB h λv2 hv2 h=>ae (xl hv2 k) k<|lr k7<|ae (bY aS k k) k<|ae (ws k) k<|an<|tn<|rg<|am k k<|fp k8<|lp k8<|cG h λq3 h=>ae (yL aS (l:=x1.1) (m:=v2.cells) pX q3 k k k k k k k k k k k k) k<|aa k k<|an<|aX<|tn<|rg<|ae (bB k k) k<|am k k<|an<|tn<|sp h ⟨_,k,(vS [2] (bH k2) (bT k<|aY) k4)⟩) λ_ h=>aV<|aB<|aB<|sp h ⟨_,k,k,(bK (bH k2) (bT k<|aY) k4)⟩
 ·rintro e t ⟨rfl,hent⟩;exact aN<|tn<|aP hent<|sR<|am k k<|aT k2<|aC<|sp h (bD k k k (gR (gC dY k k)))
def nQ (a0:(List Mt)) (x1:((List Int)×(List Mt)×Int)):Option (((List Int)×(List Mt)×Int) ⊕ (List Mt)):=
 bif decide (x1.2.2<(a0.length:Int)) then
 ((cP a0 x1.2.2).bind λv2=>
 bif (decide (0≤0)&&(decide (0≤(v2.cells.length:Int))&&decide ((v2.cells.length:Int)≤(x1.1.length:Int)))) then
 ((zW ((x1.1.drop (0:Int).toNat).take ((v2.cells.length:Int).toNat - (0:Int).toNat))).bind λv4=>
 bif decide (x1.2.1.length+1≤4294967296) then
 (bif (decide (0≤(v2.cells.length:Int))&&(decide ((v2.cells.length:Int)≤(x1.1.length:Int))&&decide ((x1.1.length:Int)≤(x1.1.length:Int)))) then
 (some (.inl (((x1.1.drop (v2.cells.length:Int).toNat).take ((x1.1.length:Int).toNat - (v2.cells.length:Int).toNat)),(x1.2.1++[(⟨v2.rows,v2.cols,v4⟩:Mt)]),wr (x1.2.2+1))))
 else none)
 else none)
 else none)
 else
 (some (.inr x1.2.1))
def lZ (a0:(List Mt)) (a1:(List Int)):Option (List Mt):=
 (Lp (nQ a0) (a1,[],0)).bind λy7=>
 some (y7)
theorem aAN (a0:(List Mt)) (a1:(List Int)) (r:(List Mt)) (h:lZ a0 a1=some r):HasC Tryz.prog 153 [.list 3 (a0.map eM),.list 1 (a1.map eI)] (.list 3 (r.map eM)):=by
 refine hM [.tmp 4] Tryz.func153 Tryz.ntmps153 k<|sR<|aT k2<|sR<|aT k2<|sQ<|sR<|am k k<|ln k4<|am k k<|an<|tn<|aE<|oB h λy7 hy7 h=>bP (body:=(nQ a0)) hy7 (λ(x1:((List Int)×(List Mt)×Int))=>mN [(1,.list 1 (x1.1.map eI)),(5,.own 0 0 x1.2.1.length),(9,.list 3 (a0.map eM)),(10,.int (a0.length:Int)),(11,.int x1.2.2)] [(0,⟨3,x1.2.1.map (ow eM)⟩)] 1) (λr e t=>e= .exit 0∧Ent t (mN [(5,.own 0 0 r.length)] [(0,⟨3,r.map (ow eM)⟩)] 1)) (qH (σ:=sg []) (tN 1 k2 (sW ⟨_,k,⟨k,k,k,k⟩⟩ (bH k2))) (hX k k<|aY) k) ?_ ?_
 ·intro x1 o h;refine sR<|cm k4<|an<|tn<|sQ<|cO k h (λ_ h=>?_) λ_ h=>aV<|aB<|aB<|sp h ⟨_,k,k,(bK (bH k2) (mW (cJ.plainO _) k<|aY) k4)⟩;refine aI<|tn<|sQ<|aE<|sR<|oB h λv2 hv2 h=>ae (xl hv2 k) k<|lr k7<|ae (bY aS k k) k<|ae (ws k) k<|an<|tn<|sR<|fp k8<|lp k8<|ln k4<|aT k2<|sQ<|aO fZ<|am k k<|fp k8<|lp k8<|fp k8<|lp k8<|am k k<|am k k ?_;exact cG h λq3 h=>ae (xD aS (l0:=x1.1) (l:=0) (h:=(v2.cells.length:Int)) q3 k k k k k k k) k<|oB h λv4 hv4 h=>ae (cL dY (aJY ((x1.1.drop (0:Int).toNat).take ((v2.cells.length:Int).toNat - (0:Int).toNat)) v4 hv4) k3 (bX k aL)) k<|ae (wW aS k k k k k k) k<|ae (wl k) k<|cG h λq5 h=>ae (vL aS (l:=x1.2.1) (c:=[.int v2.rows,.int v2.cols,.own 2 0 v4.length]) q5 k k k k k k k k k k k k k k) k<|aa k k<|an<|oW (by kernel_rfl)<|tn<|aP (t:=mN [(1,.list 1 (x1.1.map eI)),(5,.own 4 0 ((x1.2.1++[(⟨v2.rows,v2.cols,v4⟩:Mt)]).length)),(8,.int (v2.cells.length:Int)),(9,.list 3 (a0.map eM)),(10,.int (a0.length:Int)),(11,.int x1.2.2)] [(4,⟨3,List.map (ow eM) (x1.2.1++[(⟨v2.rows,v2.cols,v4⟩:Mt)])⟩)] 5) (Ent.trans (oD (b:=4) (b':=2) (j:=2) (es':=v4.map eI) k k k k (aW _ _) (dY.frzs _)) (bK (tN 1 k2 (sW ⟨_,k,⟨k,k,(by simp only [aW,lA,lT,lR,lC,lN]),k⟩⟩ (bH k2))) (hX ⟨_,k,k,.inl ⟨vM (⟨v2.rows,v2.cols,v4⟩:Mt) k,cJ.plainO _⟩⟩ k<|aY) k4))<|rg<|am k k<|am k k<|cG h λq6 h=>ae (xD aS (l0:=x1.1) (l:=(v2.cells.length:Int)) (h:=(x1.1.length:Int)) q6 k k k k k k k) k<|aa k k<|an<|aX<|tn<|rg<|ae (bB k k) k<|am k k<|an<|tn<|sp h ⟨_,k,(vS [4] (bH k2) (mW (cJ.plainO _) k<|aY) k4)⟩
 ·rintro e t ⟨rfl,hent⟩;exact aN<|tn<|aP hent<|sR<|am k k<|aT k2<|aC<|sp h (bD k k k (gR (gC cJ k k)))
def vA (a0:Int) (a1:Mt) (a2:Int) (a3:Mt):Option Mt:=
 (gO a1).bind λv1=>
 (dZ a0 v1.cells 0 v1.cells.length a2 a3.cells).bind λv2=>
 bif decide (v2.length=v1.cells.length) then
 (some ((⟨v1.rows,v1.cols,v2⟩:Mt)))
 else none
theorem aHo (a0:Int) (a1:Mt) (a2:Int) (a3:Mt) (r:Mt) (h:vA a0 a1 a2 a3=some r):HasC Tryz.prog 216 [.int a0,.agg (eM a1),.int a2,.agg (eM a3)] (.agg (eM r)):=by
 refine hM [.cell 8 93] Tryz.func216 Tryz.ntmps216 k<|sR<|ae (wb k) k<|ae (wb k) k<|ae (bY aS k k) k<|an<|tn<|sR<|lp k8<|oB h λv1 hv1 h=>ae (cM (tJ a1 v1 hv1) k3 (aD (cN k) aL)) k<|ae (bY aS k k) k<|ae (ws k) k<|an<|tn<|sR<|am k k<|fp k8<|lp k8<|am k k<|fp k8<|lp k8<|oB h λv2 hv2 h=>ae (mV (σ:=sg [(0,3)]) (σ':=sg [(3,0)]) (touch:=[3]) (news:=[]) (hl2:=[(3,⟨1,v2.map (ow eI)⟩)]) (n':=5) (r2:= .own 3 0 v1.cells.length) (pY a0 v1.cells 0 v1.cells.length a2 a3.cells v2 hv2) k k ⟨_,_,k,k,⟨_,_,k,⟨k,k,k,k⟩,⟨_,_,k,k,⟨_,_,k,⟨k,k⟩,k⟩⟩⟩⟩ ⟨⟨_,k,k,.inl ⟨k,dY.plainO _⟩⟩,k,aY⟩ k k k ⟨⟨_,k,k,.inl ⟨k,dY.plainO _⟩⟩,k,aY⟩ k ⟨k,k,(by simp only [aW,lA,lT,lR,lC,lN]),k⟩ k ⟨k,dY.tame _ _,aY⟩ k k) k<|cG h λq3 h=>an<|tn<|sR<|lp k8 ?_;exact ae (ws k) k<|an<|tn<|aC<|sp h (bD k k k (rR (bL (k) (bL (k) (bL (gC dY k (by first|rfl|simp only [List.length_set,of_decide_eq_true q3])) mU)))))
def jF (a0:Rp) (a1:Rp) (a2:(List Mt)) (x1:((List Mt)×Int)):Option (((List Mt)×Int) ⊕ (List Mt)):=
 bif decide (x1.2<(a0.q.src.length:Int)) then
 ((cP a0.q.src x1.2).bind λv2=>
 (cP a1.maps x1.2).bind λv3=>
 (cP a2 v2).bind λv4=>
 (qX a0.p v3 v4).bind λv5=>
 (cP a0.q.tgt x1.2).bind λv6=>
 (cP a2 v6).bind λv7=>
 (cP a0.maps x1.2).bind λv8=>
 (qX a0.p v7 v8).bind λv9=>
 (vA a0.p v5 (wr (a0.p - 1)) v9).bind λv10=>
 bif decide (x1.1.length+1≤4294967296) then
 (some (.inl ((x1.1++[v10]),wr (x1.2+1))))
 else none)
 else
 (some (.inr x1.1))
def mI (a0:Rp) (a1:Rp) (a2:(List Mt)):Option (List Mt):=
 (Lp (jF a0 a1 a2) ([],0)).bind λy12=>
 some (y12)
theorem aBT (a0:Rp) (a1:Rp) (a2:(List Mt)) (r:(List Mt)) (h:mI a0 a1 a2=some r):HasC Tryz.prog 183 [.agg (eR a0),.agg (eR a1),.list 3 (a2.map eM)] (.list 3 (r.map eM)):=by
 refine hM [.tmp 6] Tryz.func183 Tryz.ntmps183 k<|sR<|ae (wb k) k<|ae (wb k) k<|aT k2<|sR<|aT k2<|sQ<|sR<|fp k8<|fp k8<|lp k8<|ln k4<|am k k<|an<|tn<|aE<|oB h λy12 hy12 h=>bP (body:=(jF a0 a1 a2)) hy12 (λ(x1:((List Mt)×Int))=>mN [(2,.list 3 (a2.map eM)),(3,.ptr 0 0 0),(4,.ptr 1 0 0),(7,.own 2 0 x1.1.length),(13,.list 1 (a0.q.src.map eI)),(14,.int (a0.q.src.length:Int)),(15,.int x1.2)] [(0,⟨6,[eR a0]⟩),(1,⟨6,[eR a1]⟩),(2,⟨3,x1.1.map (ow eM)⟩)] 3) (λr e t=>e= .exit 0∧Ent t (mN [(7,.own 0 0 r.length)] [(0,⟨3,r.map (ow eM)⟩)] 1)) (qH (σ:=sg [(0,0),(1,1)]) (tN 3 k2 (sW ⟨_,k,⟨k,k,k,k⟩⟩ (bH k2))) (bF k<|bF k<|hX k k<|aY) k) ?_ ?_
 ·intro x1 o h;refine sR<|cm k4<|an<|tn<|sQ<|cO k h (λ_ h=>?_) λ_ h=>aV<|aB<|aB<|sp h ⟨_,k,k,(vS [2] (bH k2) (mW (cJ.plainO _) k<|aY) k4)⟩;refine aI<|tn<|sQ<|aE<|sR<|am k k<|oB h λv2 hv2 h=>ae (xl hv2 k) k<|lr k7<|aa k k<|aT k2<|sQ<|aO fZ<|fp k8<|lp k8<|fp k8<|lp k8<|am k k<|oB h λv3 hv3 h=>ae (xl hv3 k) k<|lr k7<|am k k<|am k k<|oB h λv4 hv4 h=>ae (xl hv4 k) k<|lr k7<|oB h λv5 hv5 h=>ae (cM (aBN a0.p v3 v4 v5 hv5) k3 (bX k (aD (cN k) (aD (cN k) aL)))) k<|ae (bY aS k k) k<|ae (ws k) k ?_;refine an<|oW (by kernel_rfl)<|tn<|aO fZ<|am k k<|fp k8<|lp k8<|lp k8<|fp k8<|lp k8<|ae (kS k k) k<|fp k8<|lp k8<|am k k<|fp k8<|fp k8<|lp k8<|am k k<|oB h λv6 hv6 h=>ae (xl hv6 k) k<|lr k7<|oB h λv7 hv7 h=>ae (xl hv7 k) k<|lr k7<|fp k8<|lp k8<|am k k<|oB h λv8 hv8 h=>ae (xl hv8 k) k<|lr k7<|oB h λv9 hv9 h=>ae (cM (aBN a0.p v7 v8 v9 hv9) k3 (bX k (aD (cN k) (aD (cN k) aL)))) k<|oB h λv10 hv10 h=>ae (cM (aHo a0.p v5 (wr (a0.p - 1)) v9 v10 hv10) k3 (bX k (aD (vaM k2) (bX k (aD (vaM k2) aL))))) k<|ae (wl k) k ?_;exact cG h λq11 h=>ae (vL aS (l:=x1.1) (c:=[.int v10.rows,.int v10.cols,.own 6 0 v10.cells.length]) q11 k k k k k k k k k k k k k k) k<|aa k k<|an<|oW (by kernel_rfl)<|aX<|tn<|aP (t:=mN [(2,.list 3 (a2.map eM)),(3,.ptr 0 0 0),(4,.ptr 1 0 0),(7,.own 8 0 ((x1.1++[v10]).length)),(13,.list 1 (a0.q.src.map eI)),(14,.int (a0.q.src.length:Int)),(15,.int x1.2)] [(0,⟨6,[eR a0]⟩),(1,⟨6,[eR a1]⟩),(8,⟨3,List.map (ow eM) (x1.1++[v10])⟩)] 9) (Ent.trans (oD (b:=8) (b':=6) (j:=2) (es':=v10.cells.map eI) k k k k (aW _ _) (dY.frzs _)) (bK (tN 3 k2 (sW ⟨_,k,⟨k,k,(by simp only [aW,lA,lT,lR,lC,lN]),k⟩⟩ (bH k2))) (bF k<|bF k<|hX ⟨_,k,k,.inl ⟨vM v10 k,cJ.plainO _⟩⟩ k<|aY) k4))<|rg<|ae (bB k k) k<|am k k<|an<|tn<|sp h ⟨_,k,(vS [0,1,8] (bH k2) (bF k<|bF k<|mW (cJ.plainO _) k<|aY) k4)⟩
 ·rintro e t ⟨rfl,hent⟩;exact aN<|tn<|aP hent<|sR<|am k k<|aT k2<|aC<|sp h (bD k k k (gR (gC cJ k k)))
def gU (a0:Rp) (a1:Rp) (x1:((List Mt)×Int)):Option (((List Mt)×Int) ⊕ (List Mt)):=
 bif decide (x1.2<(a0.q.src.length:Int)) then
 ((cP a0.q.src x1.2).bind λv2=>
 (cP a0.q.tgt x1.2).bind λv3=>
 (cP a1.dims v3).bind λv4=>
 (cP a0.dims v2).bind λv5=>
 (mZ v4 v5).bind λv6=>
 bif decide (x1.1.length+1≤4294967296) then
 (some (.inl ((x1.1++[v6]),wr (x1.2+1))))
 else none)
 else
 (some (.inr x1.1))
def kA (a0:Rp) (a1:Rp):Option (List Mt):=
 (Lp (gU a0 a1) ([],0)).bind λy8=>
 some (y8)
theorem aAI (a0:Rp) (a1:Rp) (r:(List Mt)) (h:kA a0 a1=some r):HasC Tryz.prog 185 [.agg (eR a0),.agg (eR a1)] (.list 3 (r.map eM)):=by
 refine hM [.tmp 4] Tryz.func185 Tryz.ntmps185 k<|sR<|ae (wb k) k<|ae (wb k) k<|aT k2<|sR<|aT k2<|sQ<|sR<|fp k8<|fp k8<|lp k8<|ln k4<|am k k<|an<|tn<|aE<|oB h λy8 hy8 h=>bP (body:=(gU a0 a1)) hy8 (λ(x1:((List Mt)×Int))=>mN [(2,.ptr 0 0 0),(3,.ptr 1 0 0),(5,.own 2 0 x1.1.length),(10,.list 1 (a0.q.src.map eI)),(11,.int (a0.q.src.length:Int)),(12,.int x1.2)] [(0,⟨6,[eR a0]⟩),(1,⟨6,[eR a1]⟩),(2,⟨3,x1.1.map (ow eM)⟩)] 3) (λr e t=>e= .exit 0∧Ent t (mN [(5,.own 0 0 r.length)] [(0,⟨3,r.map (ow eM)⟩)] 1)) (qH (σ:=sg [(0,0),(1,1)]) (tN 2 k2 (sW ⟨_,k,⟨k,k,k,k⟩⟩ (bH k2))) (bF k<|bF k<|hX k k<|aY) k) ?_ ?_
 ·intro x1 o h;refine sR<|cm k4<|an<|tn<|sQ<|cO k h (λ_ h=>?_) λ_ h=>aV<|aB<|aB<|sp h ⟨_,k,k,(vS [2] (bH k2) (mW (cJ.plainO _) k<|aY) k4)⟩;refine aI<|tn<|sQ<|aE<|sR<|am k k<|oB h λv2 hv2 h=>ae (xl hv2 k) k<|lr k7<|aa k k<|aT k2<|aO fZ<|am k k<|fp k8<|lp k8<|fp k8<|fp k8<|lp k8<|am k k<|oB h λv3 hv3 h=>ae (xl hv3 k) k<|lr k7<|oB h λv4 hv4 h=>ae (xl hv4 k) k<|lr k7<|fp k8<|lp k8<|am k k<|oB h λv5 hv5 h=>ae (xl hv5 k) k ?_;exact lr k7<|oB h λv6 hv6 h=>ae (cM (uW v4 v5 v6 hv6) k3 (bX k (bX k aL))) k<|ae (wl k) k<|cG h λq7 h=>ae (vL aS (l:=x1.1) (c:=[.int v6.rows,.int v6.cols,.own 3 0 v6.cells.length]) q7 k k k k k k k k k k k k k k) k<|aa k k<|an<|oW (by kernel_rfl)<|aX<|tn<|aP (t:=mN [(2,.ptr 0 0 0),(3,.ptr 1 0 0),(5,.own 5 0 ((x1.1++[v6]).length)),(10,.list 1 (a0.q.src.map eI)),(11,.int (a0.q.src.length:Int)),(12,.int x1.2)] [(0,⟨6,[eR a0]⟩),(1,⟨6,[eR a1]⟩),(5,⟨3,List.map (ow eM) (x1.1++[v6])⟩)] 6) (Ent.trans (oD (b:=5) (b':=3) (j:=2) (es':=v6.cells.map eI) k k k k (aW _ _) (dY.frzs _)) (bK (tN 2 k2 (sW ⟨_,k,⟨k,k,(by simp only [aW,lA,lT,lR,lC,lN]),k⟩⟩ (bH k2))) (bF k<|bF k<|hX ⟨_,k,k,.inl ⟨vM v6 k,cJ.plainO _⟩⟩ k<|aY) k4))<|rg<|ae (bB k k) k<|am k k<|an<|tn<|sp h ⟨_,k,(vS [0,1,5] (bH k2) (bF k<|bF k<|mW (cJ.plainO _) k<|aY) k4)⟩
 ·rintro e t ⟨rfl,hent⟩;exact aN<|tn<|aP hent<|sR<|am k k<|aT k2<|aC<|sp h (bD k k k (gR (gC cJ k k)))
def iI (v1:Mt) (v3:(List Int)) (x1:((List Int)×Int)) (x2:((List Int)×Int)):Option (((List Int)×Int) ⊕ (List Int)):=
 bif decide (x2.2<(v3.length:Int)) then
 ((cP v3 x2.2).bind λv5=>
 (cP x2.1 (wr ((wr (x2.2*v1.cols))+x1.2))).bind λv6=>
 some (.inl ((x2.1.set ((wr ((wr (x2.2*v1.cols))+x1.2)).toNat) v5),wr (x2.2+1))))
 else
 (some (.inr x2.1))
def iJ (a1:(List (List Int))) (v1:Mt) (x1:((List Int)×Int)):Option (((List Int)×Int) ⊕ (List Int)):=
 bif decide (x1.2<(a1.length:Int)) then
 ((cP a1 x1.2).bind λv3=>
 (Lp (iI v1 v3 x1) (x1.1,0)).bind λy7=>
 some (.inl (y7,wr (x1.2+1))))
 else
 (some (.inr x1.1))
def lH (a0:Int) (a1:(List (List Int))):Option Mt:=
 (mZ a0 (a1.length:Int)).bind λv1=>
 (Lp (iJ a1 v1) (v1.cells,0)).bind λy8=>
 some ((⟨v1.rows,v1.cols,y8⟩:Mt))
theorem aAg (a0:Int) (a1:(List (List Int))) (r:Mt) (h:lH a0 a1=some r):HasC Tryz.prog 184 [.int a0,.list 1 (a1.map (sP 1 eI))] (.agg (eM r)):=by
 refine hM [.cell 4 93] Tryz.func184 Tryz.ntmps184 k<|sR<|ae (bY aS k k) k<|an<|tn<|sR<|am k k<|am k k<|ln k4<|oB h λv1 hv1 h=>ae (cM (uW a0 (a1.length:Int) v1 hv1) k3 (bX k (bX k aL))) k<|ae (bY aS k k) k<|ae (ws k) k<|an<|tn<|sQ<|sR<|am k k<|ln k4<|am k k<|an<|tn<|aE<|oB h λy8 hy8 h=>bP (body:=(iJ a1 v1)) hy8 (λ(x1:((List Int)×Int))=>mN [(4,.ptr 0 0 0),(5,.ptr 1 0 0),(14,.list 1 (a1.map (sP 1 eI))),(15,.int (a1.length:Int)),(16,.int x1.2)] [(0,⟨3,[eY]⟩),(1,⟨3,[[.int v1.rows,.int v1.cols,.own 2 0 x1.1.length]]⟩),(2,⟨1,x1.1.map (ow eI)⟩)] 3) (λr e t=>e= .exit 0∧Ent t (mN [(4,.ptr 0 0 0),(5,.ptr 1 0 0)] [(0,⟨3,[eY]⟩),(1,⟨3,[[.int v1.rows,.int v1.cols,.own 2 0 r.length]]⟩),(2,⟨1,r.map (ow eI)⟩)] 3)) (vS [0,2,1] (bH k2) (bF k<|iF k<|bT k<|aY) k4) ?_ ?_
 ·intro x1 o h;refine sR<|cm k4<|an<|tn<|sQ<|cO k h (λ_ h=>?_) λ_ h=>aV<|aB<|aB<|sp h ⟨_,k,k,(bK (bH k2) (bF k<|iF k<|bT k<|aY) k4)⟩;refine aI<|tn<|sQ<|aE<|sR<|am k k<|oB h λv3 hv3 h=>ae (xl hv3 k) k<|lr k7<|aa k k<|aT k2<|sR<|am k k<|ln k4<|am k k<|an<|tn<|aE<|oB h λy7 hy7 h=>bP (body:=(iI v1 v3 x1)) hy7 (λ(x2:((List Int)×Int))=>mN [(4,.ptr 0 0 0),(5,.ptr 1 0 0),(6,.int x1.2),(14,.list 1 (a1.map (sP 1 eI))),(15,.int (a1.length:Int)),(16,.int x1.2),(21,.list 1 (v3.map eI)),(22,.int (v3.length:Int)),(23,.int x2.2)] [(0,⟨3,[eY]⟩),(1,⟨3,[[.int v1.rows,.int v1.cols,.own 2 0 x2.1.length]]⟩),(2,⟨1,x2.1.map (ow eI)⟩)] 3) (λr e t=>e= .exit 2∧Ent t (mN [(4,.ptr 0 0 0),(5,.ptr 1 0 0),(14,.list 1 (a1.map (sP 1 eI))),(15,.int (a1.length:Int)),(16,.int x1.2)] [(0,⟨3,[eY]⟩),(1,⟨3,[[.int v1.rows,.int v1.cols,.own 2 0 r.length]]⟩),(2,⟨1,r.map (ow eI)⟩)] 3)) (bK (bH k2) (bF k<|iF k<|bT k<|aY) k4) ?_ ?_
  ·intro x2 o h;refine sR<|cm k4<|an<|tn<|sQ<|cO k h (λ_ h=>?_) λ_ h=>aV<|aB<|aB<|sp h ⟨_,k,k,(bK (bH k2) (bF k<|iF k<|bT k<|aY) k4)⟩;refine aI<|tn<|sQ<|aE<|sR<|am k k<|oB h λv5 hv5 h=>ae (xl hv5 k) k<|lr k7<|aa k k<|aT k2<|rg<|fp k8<|lp k8<|am k k<|fp k8<|lp k8<|ae (dJ k k) k<|am k k<|ae (bB k k) k<|am k k<|oB h λv6 hv6 h=>ae (xo hv6 k) k<|ae (fY aS pX (u:=v5) (eO hv6) k k k k k k) k<|an<|aX<|tn<|rg ?_;exact ae (bB k k) k<|am k k<|an<|tn<|sp h ⟨_,k,(bK (bH k2) (bF k<|hX ⟨_,k,k,.inr ⟨_,_,k,⟨_,_,k,k,⟨_,_,k,k,⟨_,_,k,⟨k,k,(by simp only [aW,lA,lT,lR,lC,lN]),k⟩,k⟩⟩⟩,k⟩⟩ k<|bT k<|aY) k4)⟩
  ·rintro e t ⟨rfl,hent⟩;exact aN<|aX<|tn<|aP hent<|rg<|ae (bB k k) k<|am k k<|an<|tn<|sp h ⟨_,k,(bK (bH k2) (bF k<|iF k<|bT k<|aY) k4)⟩
 ·rintro e t ⟨rfl,hent⟩;exact aN<|tn<|aP hent<|sR<|lp k8<|ae (ws k) k<|an<|tn<|aC<|sp h (bD k k k (rR (bL (k) (bL (k) (bL (gC dY k k) mU)))))
def jG (a0:Rp) (a1:Rp) (v1:(List Mt)) (v2:(List Int)) (x1:((List (List Int))×Int)):Option (((List (List Int))×Int) ⊕ (List (List Int))):=
 bif decide (x1.2<((v2.length:Nat):Int)) then
 (bif (decide (0≤((v2.length:Nat):Int))&&decide (((v2.length:Nat):Int)≤1048576)) then
 ((cP (List.replicate (((v2.length:Nat):Int).toNat) (0:Int)) x1.2).bind λv4=>
 (lZ v1 ((List.replicate (((v2.length:Nat):Int).toNat) (0:Int)).set x1.2.toNat 1)).bind λv5=>
 (mI a0 a1 v5).bind λv6=>
 (jE v6).bind λv7=>
 bif decide (x1.1.length+1≤4294967296) then
 (some (.inl ((x1.1++[v7]),wr (x1.2+1))))
 else none)
 else none)
 else
 (some (.inr x1.1))
def gH (a0:Rp) (a1:Rp):Option Mt:=
 (nP a0 a1).bind λv1=>
 (jE v1).bind λv2=>
 (Lp (jG a0 a1 v1 v2) ([],0)).bind λy10=>
 (kA a0 a1).bind λv11=>
 (jE v11).bind λv12=>
 (lH ((v12.length:Nat):Int) y10).bind λv13=>
 some (v13)
theorem rC (a0:Rp) (a1:Rp) (r:Mt) (h:gH a0 a1=some r):HasC Tryz.prog 149 [.agg (eR a0),.agg (eR a1)] (.agg (eM r)):=by
 refine hM [.cell 4 93] Tryz.func149 Tryz.ntmps149 k<|sR<|ae (wb k) k<|ae (wb k) k<|ae (bY aS k k) k<|an<|tn<|sR<|lp k8<|lp k8<|oB h λv1 hv1 h=>ae (cL cJ (xJ a0 a1 v1 hv1) k3 (aD (cN k) (aD (cN k) aL))) k<|aT k2<|sR<|am k k<|oB h λv2 hv2 h=>ae (cL dY (yV v1 v2 hv2) k3 (aD (xA cJ k k) aL)) k<|ae (dU aS k k k k) k<|aT k2<|sR<|aT k2<|sQ ?_;refine sR<|am k k<|am k k<|an<|tn<|aE<|oB h λy10 hy10 h=>bP (body:=(jG a0 a1 v1 v2)) hy10 (λ(x1:((List (List Int))×Int))=>mN [(2,.ptr 0 0 0),(3,.ptr 1 0 0),(4,.ptr 2 0 0),(5,.own 3 0 v1.length),(6,.int ((v2.length:Nat):Int)),(7,.own 4 0 x1.1.length),(16,.int ((v2.length:Nat):Int)),(17,.int x1.2)] [(0,⟨6,[eR a0]⟩),(1,⟨6,[eR a1]⟩),(2,⟨3,[eY]⟩),(3,⟨3,v1.map (ow eM)⟩),(4,⟨1,x1.1.map (ow (sP 1 eI))⟩)] 5) (λr e t=>e= .exit 0∧Ent t (mN [(2,.ptr 0 0 0),(3,.ptr 1 0 0),(4,.ptr 2 0 0),(7,.own 3 0 r.length)] [(0,⟨6,[eR a0]⟩),(1,⟨6,[eR a1]⟩),(2,⟨3,[eY]⟩),(3,⟨1,r.map (ow (sP 1 eI))⟩)] 4)) (qH (σ:=sg [(0,0),(1,1),(2,2),(3,3)]) (tN 5 k2 (sW ⟨_,k,⟨k,k,k,k⟩⟩ (bH k2))) (bF k<|bF k<|bF k<|mW (cJ.plainO _) k<|hX k k<|aY) k) ?_ ?_
 ·intro x1 o h;refine sR<|cm k4<|an<|tn<|sQ<|cO k h (λ_ h=>?_) λ_ h=>aV<|aB<|aB<|sp h ⟨_,k,k,(vS [0,1,2,4] (bH k2) (bF k<|bF k<|bF k<|mW (eX.plainO _) k<|aY) k4)⟩;refine aI<|tn<|sQ<|aE<|sR<|am k k<|aT k2<|sR<|am k k<|cG h λq9 h=>ae (vK aS q9 k k k k k k k k) k<|aT k2<|aP (t:=mN [(2,.ptr 0 0 0),(3,.ptr 1 0 0),(4,.ptr 2 0 0),(5,.own 3 0 v1.length),(6,.int ((v2.length:Nat):Int)),(7,.own 4 0 x1.1.length),(8,.int x1.2),(9,.own 5 0 ((List.replicate (((v2.length:Nat):Int).toNat) (0:Int)).length)),(16,.int ((v2.length:Nat):Int)),(17,.int x1.2)] [(0,⟨6,[eR a0]⟩),(1,⟨6,[eR a1]⟩),(2,⟨3,[eY]⟩),(3,⟨3,v1.map (ow eM)⟩),(4,⟨1,x1.1.map (ow (sP 1 eI))⟩),(5,⟨1,List.map (ow eI) (List.replicate (((v2.length:Nat):Int).toNat) (0:Int))⟩)] 6) (bK (tN 7 k2 (sW ⟨_,k,⟨k,k,(by simp only [aW,lA,lT,lR,lC,lN]),k⟩⟩ (bH k2))) (bF k<|bF k<|bF k<|mW (cJ.plainO _) k<|mW (eX.plainO _) k<|hX ⟨_,k,k,.inl ⟨xB (e:=eI) (z:=0) _,dY.plainO _⟩⟩ k<|aY) k4)<|sR<|am k k<|am k k<|oB h λv4 hv4 h=>ae (xo hv4 k) k<|ae (fY aS pX (u:=1) (eO hv4) k k k k k k) k<|an<|tn<|aO fZ<|am k k<|lp k8 ?_;exact lp k8<|am k k<|am k k<|oB h λv5 hv5 h=>ae (cL cJ (aAN v1 ((List.replicate (((v2.length:Nat):Int).toNat) (0:Int)).set x1.2.toNat 1) v5 hv5) k3 (aD (xA cJ k k) (aD (xA dY k (by first|rfl|simp only [List.length_set])) aL))) k<|oB h λv6 hv6 h=>ae (cL cJ (aBT a0 a1 v5 v6 hv6) k3 (aD (cN k) (aD (cN k) (aD (xA cJ k k) aL)))) k<|oB h λv7 hv7 h=>ae (cL dY (yV v6 v7 hv7) k3 (aD (xA cJ k k) aL)) k<|ae (wl k) k<|cG h λq8 h=>ae (vL aS (l:=x1.1) (c:=[.own 8 0 v7.length]) q8 k k k k k k k k k k k k k k) k<|aa k k<|an<|oW (by kernel_rfl)<|aX<|tn<|aP (t:=mN [(2,.ptr 0 0 0),(3,.ptr 1 0 0),(4,.ptr 2 0 0),(5,.own 3 0 v1.length),(6,.int ((v2.length:Nat):Int)),(7,.own 10 0 ((x1.1++[v7]).length)),(16,.int ((v2.length:Nat):Int)),(17,.int x1.2)] [(0,⟨6,[eR a0]⟩),(1,⟨6,[eR a1]⟩),(2,⟨3,[eY]⟩),(3,⟨3,v1.map (ow eM)⟩),(10,⟨1,List.map (ow (sP 1 eI)) (x1.1++[v7])⟩)] 11) (Ent.trans (oD (b:=10) (b':=8) (j:=0) (es':=v7.map eI) k k k k (aW _ _) (dY.frzs _)) (bK (tN 5 k2 (sW ⟨_,k,⟨k,k,(by simp only [aW,lA,lT,lR,lC,lN]),k⟩⟩ (bH k2))) (bF k<|bF k<|bF k<|mW (cJ.plainO _) k<|hX ⟨_,k,k,.inl ⟨vM v7 k,eX.plainO _⟩⟩ k<|aY) k4))<|rg<|ae (bB k k) k<|am k k<|an<|tn<|sp h ⟨_,k,(vS [0,1,2,3,10] (bH k2) (bF k<|bF k<|bF k<|mW (cJ.plainO _) k<|mW (eX.plainO _) k<|aY) k4)⟩
 ·rintro e t ⟨rfl,hent⟩;exact aN<|tn<|aP hent<|sR<|lp k8<|lp k8<|oB h λv11 hv11 h=>ae (cL cJ (aAI a0 a1 v11 hv11) k3 (aD (cN k) (aD (cN k) aL))) k<|oB h λv12 hv12 h=>ae (cL dY (yV v11 v12 hv12) k3 (aD (xA cJ k k) aL)) k<|ae (dU aS k k k k) k<|am k k<|oB h λv13 hv13 h=>ae (cM (aAg ((v12.length:Nat):Int) y10 v13 hv13) k3 (bX k (aD (xA eX k k) aL))) k<|ae (ws k) k<|an<|tn<|aC<|sp h (bD k k k (rR (bL (k) (bL (k) (bL (gC dY k k) mU)))))
def hJ (a0:Rp) (a1:Rp):Option Int:=
 (gH a0 a1).bind λv1=>
 (qC a0.p v1).bind λv2=>
 some (wr (v1.cols - v2))
theorem oJ (a0:Rp) (a1:Rp) (r:Int) (h:hJ a0 a1=some r):HasC Tryz.prog 90 [.agg (eR a0),.agg (eR a1)] (.int r):=by
 refine hM [.tmp 4] Tryz.func90 Tryz.ntmps90 k<|sR<|ae (wb k) k<|ae (wb k) k<|aT k2<|sR<|lp k8<|lp k8<|oB h λv1 hv1 h=>ae (cM (rC a0 a1 v1 hv1) k3 (aD (cN k) (aD (cN k) aL))) k<|ae (bY aS k k) k<|ae (ws k) k<|an<|tn<|sQ<|aO fZ<|fp k8<|lp k8<|fp k8<|lp k8<|lp k8<|oB h λv2 hv2 h=>ae (aH (yR a0.p v1 v2 hv2) k (bX k (aD (vaM k2) aL))) k<|ae (kS k k) k<|aa k k<|an<|oW (by kernel_rfl)<|tn ?_;exact aC<|oV h k2
def oK (a0:Rp) (a1:Rp):Option Int:=
 (jP a0 a1).bind λv1=>
 bif !v1 then
 (some ((-1)))
 else
 ((hJ a0 a1).bind λv3=>
 some (v3))
theorem aAO (a0:Rp) (a1:Rp) (r:Int) (h:oK a0 a1=some r):HasC Tryz.prog 42 [.agg (eR a0),.agg (eR a1)] (.int r):=by
 exact hM [.tmp 4] Tryz.func42 Tryz.ntmps42 k<|sR<|ae (wb k) k<|ae (wb k) k<|aT k2<|sQ<|sR<|lp k8<|lp k8<|oB h λv1 hv1 h=>ae (aH (xE a0 a1 v1 hv1) k (aD (cN k) (aD (cN k) aL))) k<|ae (dC k) k<|an<|tn<|cO k h (λ_ h=>sR<|aT k2<|aC<|aG<|oV h k2) λ_ h=>aI<|tn<|sR<|lp k8<|lp k8<|oB h λv3 hv3 h=>ae (aH (oJ a0 a1 v3 hv3) k (aD (cN k) (aD (cN k) aL))) k<|aT k2<|aC<|oV h k2
def lI (a0:Int) (v1:(Mt×(List Int))) (x1:(Int×(List (List Int)))) (x2:((List Int)×Int)):Option (((List Int)×Int) ⊕ (List Int)):=
 bif decide (x2.2<((v1.2.length:Nat):Int)) then
 ((cP v1.2 x2.2).bind λv7=>
 (cP v1.1.cells (wr ((wr (x2.2*v1.1.cols))+x1.1))).bind λv8=>
 (dW a0 (wr (-v8))).bind λv9=>
 (cP x2.1 v7).bind λv10=>
 some (.inl ((x2.1.set v7.toNat v9),wr (x2.2+1))))
 else
 (some (.inr x2.1))
def lJ (a0:Int) (v1:(Mt×(List Int))) (x1:(Int×(List (List Int)))):Option ((Int×(List (List Int))) ⊕ (List (List Int))):=
 bif decide (x1.1<v1.1.cols) then
 ((tQ v1.2 x1.1).bind λv3=>
 bif v3 then
 (some (.inl (wr (x1.1+1),x1.2)))
 else
 (bif (decide (0≤v1.1.cols)&&decide (v1.1.cols≤1048576)) then
 ((cP (List.replicate v1.1.cols.toNat (0:Int)) x1.1).bind λv5=>
 (Lp (lI a0 v1 x1) (((List.replicate v1.1.cols.toNat (0:Int)).set x1.1.toNat 1),0)).bind λy11=>
 bif decide (x1.2.length+1≤4294967296) then
 (some (.inl (wr (x1.1+1),(x1.2++[y11]))))
 else none)
 else none))
 else
 (some (.inr x1.2))
def pM (a0:Int) (a1:Mt):Option (List (List Int)):=
 (iR a0 a1).bind λv1=>
 (Lp (lJ a0 v1) (0,([]:(List (List Int))))).bind λy14=>
 some (y14)
theorem aCc (a0:Int) (a1:Mt) (r:(List (List Int))) (h:pM a0 a1=some r):HasC Tryz.prog 136 [.int a0,.agg (eM a1)] (.list 1 (r.map (sP 1 eI))):=by
 refine hM [.tmp 4] Tryz.func136 Tryz.ntmps136 k<|sR<|ae (wb k) k<|aT k2<|sR<|am k k<|lp k8<|oB h λv1 hv1 h=>ae (AEff.conv (qJ (x:= .tuple [.agg [.int v1.1.rows,.int v1.1.cols,.own 1 0 (v1.1.cells.map eI).length],.own 2 0 (v1.2.map eI).length]) (nb:=[(1,⟨1,cK (v1.1.cells.map eI)⟩),(2,⟨1,cK (v1.2.map eI)⟩)]) (tC a0 a1 v1 hv1) k (by rfl) k k (iE (cZ aY (cZ aY (cZ (dY.good _) xC))) (iE (dY.good _) yN)) (bX k (aD (cN k) aL))) (v':= .tuple [.agg [.int v1.1.rows,.int v1.1.cols,.own 1 0 v1.1.cells.length],.own 2 0 v1.2.length]) (ed':=[(1,some ⟨1,v1.1.cells.map (ow eI)⟩),(2,some ⟨1,v1.2.map (ow eI)⟩)]) (by simp only [aW]) (wB (nb':=[(1,⟨1,v1.1.cells.map (ow eI)⟩),(2,⟨1,v1.2.map (ow eI)⟩)]) (by simp only [mB]))) k<|am k k<|ae (cB k k (by intro _ h;cases h)) k<|ae (cB k k (by intro _ h;cases h)) k<|ae (bY aS k k) k<|ae (ws k) k<|aT k2<|sR<|ae (wl k) k<|aT k2<|aP (t:=mN [(0,.int a0),(5,.ptr 3 0 0),(6,.own 2 0 v1.2.length),(7,.own 4 0 (([]:(List (List Int))).length))] [(1,⟨1,v1.1.cells.map (ow eI)⟩),(2,⟨1,v1.2.map (ow eI)⟩),(3,⟨3,[oMt v1.1 1]⟩),(4,⟨1,List.map (ow (sP 1 eI)) ([]:(List (List Int)))⟩)] 5) (bK (tN 3 k2 (sW ⟨_,k,⟨k,k,(by simp only [aW,lA,lT,lR,lC,lN]),k⟩⟩ aY)) (bT k<|bT k<|iF k<|mW (eX.plainO _) k<|aY) k4)<|sQ<|sR ?_;refine aT k2<|aE<|oB h λy14 hy14 h=>bP (body:=(lJ a0 v1)) hy14 (λ(x1:(Int×(List (List Int))))=>mN [(0,.int a0),(5,.ptr 0 0 0),(6,.own 2 0 v1.2.length),(7,.own 3 0 x1.2.length),(8,.int x1.1)] [(0,⟨3,[oMt v1.1 1]⟩),(1,⟨1,v1.1.cells.map (ow eI)⟩),(2,⟨1,v1.2.map (ow eI)⟩),(3,⟨1,x1.2.map (ow (sP 1 eI))⟩)] 4) (λr e t=>e= .exit 0∧Ent t (mN [(7,.own 0 0 r.length)] [(0,⟨1,r.map (ow (sP 1 eI))⟩)] 1)) (vS [3,1,2,4] (bH k2) (iF k<|bT k<|bT k<|mW (eX.plainO _) k<|aY) k4) ?_ ?_
 ·intro x1 o h;refine sQ<|sR<|am k k<|fp k8<|lp k8<|cm k4<|an<|tn<|cO k h (λ_ h=>?_) λ_ h=>aV<|aB<|aB<|sp h ⟨_,k,k,(vS [3] (bH k2) (mW (eX.plainO _) k<|aY) k4)⟩;refine aI<|tn<|sQ<|aE<|sQ<|sR<|am k k<|am k k<|oB h λv3 hv3 h=>ae (aH (aGF v1.2 x1.1 v3 hv3) k (vcT k k (bX k aL))) k<|an<|tn<|cO k h (λ_ h=>aV<|aB<|aN<|tn<|rg<|am k k<|ae (bB k k) k<|aT k2<|sp h ⟨_,k,(bK (bH k2) (iF k<|bT k<|bT k<|mW (eX.plainO _) k<|aY) k4)⟩) λ_ h=>?_;refine aI<|tn<|sR<|fp k8<|lp k8<|cG h λq13 h=>ae (vK aS q13 k k k k k k k k) k<|aT k2<|aP (t:=mN [(0,.int a0),(5,.ptr 0 0 0),(6,.own 2 0 v1.2.length),(7,.own 3 0 x1.2.length),(8,.int x1.1),(9,.own 4 0 ((List.replicate v1.1.cols.toNat (0:Int)).length))] [(0,⟨3,[oMt v1.1 1]⟩),(1,⟨1,v1.1.cells.map (ow eI)⟩),(2,⟨1,v1.2.map (ow eI)⟩),(3,⟨1,x1.2.map (ow (sP 1 eI))⟩),(4,⟨1,List.map (ow eI) (List.replicate v1.1.cols.toNat (0:Int))⟩)] 5) (bK (tN 5 k2 (sW ⟨_,k,⟨k,k,(by simp only [aW,lA,lT,lR,lC,lN]),k⟩⟩ aY)) (iF k<|bT k<|bT k<|mW (eX.plainO _) k<|hX ⟨_,k,k,.inl ⟨xB (e:=eI) (z:=0) _,dY.plainO _⟩⟩ k<|aY) k4)<|sR<|am k k<|am k k<|oB h λv5 hv5 h=>ae (xo hv5 k) k<|ae (fY aS pX (u:=1) (eO hv5) k k k k k k) k<|an<|tn<|sQ<|sR<|aT k2<|aE<|oB h λy11 hy11 h=>bP (body:=(lI a0 v1 x1)) hy11 (λ(x2:((List Int)×Int))=>mN [(0,.int a0),(5,.ptr 0 0 0),(6,.own 2 0 v1.2.length),(7,.own 3 0 x1.2.length),(8,.int x1.1),(9,.own 4 0 x2.1.length),(10,.int x2.2)] [(0,⟨3,[oMt v1.1 1]⟩),(1,⟨1,v1.1.cells.map (ow eI)⟩),(2,⟨1,v1.2.map (ow eI)⟩),(3,⟨1,x1.2.map (ow (sP 1 eI))⟩),(4,⟨1,x2.1.map (ow eI)⟩)] 5) (λr e t=>e= .exit 2∧Ent t (mN [(0,.int a0),(5,.ptr 0 0 0),(6,.own 2 0 v1.2.length),(7,.own 3 0 x1.2.length),(8,.int x1.1),(9,.own 4 0 r.length)] [(0,⟨3,[oMt v1.1 1]⟩),(1,⟨1,v1.1.cells.map (ow eI)⟩),(2,⟨1,v1.2.map (ow eI)⟩),(3,⟨1,x1.2.map (ow (sP 1 eI))⟩),(4,⟨1,r.map (ow eI)⟩)] 5)) (bK (tN 5 k2 (sW ⟨_,k,⟨k,k,(by simp only [aW,lA,lT,lR,lC,lN]),k⟩⟩ (bH k2))) (iF k<|bT k<|bT k<|mW (eX.plainO _) k<|bT k<|aY) k4) ?_ ?_
  ·intro x2 o h;refine sQ<|sR<|am k k<|am k k<|ae (dU aS k k k k) k<|cm k4<|an<|tn<|cO k h (λ_ h=>?_) λ_ h=>aV<|aB<|aB<|sp h ⟨_,k,k,(bK (bH k2) (iF k<|bT k<|bT k<|mW (eX.plainO _) k<|bT k<|aY) k4)⟩;refine aI<|tn<|sQ<|aE<|aO fZ<|am k k<|am k k<|am k k<|oB h λv7 hv7 h=>ae (xo hv7 k) k<|ae (wp hv7 k) k<|am k k<|fp k8<|lp k8<|am k k<|fp k8<|lp k8<|ae (dJ k k) k<|am k k<|ae (bB k k) k<|oB h λv8 hv8 h=>ae (xo hv8 k) k<|ae (wp hv8 k) k<|ae (aNY k) k<|oB h λv9 hv9 h=>ae (aH (gS a0 (wr (-v8)) v9 hv9) k (bX k (bX k aL))) k<|oB h λv10 hv10 h=>ae (xo hv10 k) k<|ae (fY aS pX (u:=v9) (eO hv10) k k k k k k) k<|an<|oW (by kernel_rfl)<|aX<|tn ?_;exact aP (t:=mN [(0,.int a0),(5,.ptr 0 0 0),(6,.own 2 0 v1.2.length),(7,.own 3 0 x1.2.length),(8,.int x1.1),(9,.own 4 0 ((x2.1.set v7.toNat v9).length)),(10,.int x2.2)] [(0,⟨3,[oMt v1.1 1]⟩),(1,⟨1,v1.1.cells.map (ow eI)⟩),(2,⟨1,v1.2.map (ow eI)⟩),(3,⟨1,x1.2.map (ow (sP 1 eI))⟩),(4,⟨1,List.map (ow eI) (x2.1.set v7.toNat v9)⟩)] 5) (bK (tN 5 k2 (sW ⟨_,k,⟨k,k,(by simp only [aW,lA,lT,lR,lC,lN]),k⟩⟩ (bH k2))) (iF k<|bT k<|bT k<|mW (eX.plainO _) k<|bT k<|aY) k4)<|rg<|am k k<|ae (bB k k) k<|aT k2<|sp h ⟨_,k,(bK (bH k2) (iF k<|bT k<|bT k<|mW (eX.plainO _) k<|bT k<|aY) k4)⟩
  ·rintro e t ⟨rfl,hent⟩;exact aN<|tn<|aP hent<|rg<|am k k<|am k k<|ae (wl k) k<|cG h λq12 h=>ae (vL aS (l:=x1.2) (c:=[.own 4 0 y11.length]) q12 k k k k k k k k k k k k k k) k<|aa k k<|an<|aX<|tn<|aP (t:=mN [(0,.int a0),(5,.ptr 0 0 0),(6,.own 2 0 v1.2.length),(7,.own 6 0 ((x1.2++[y11]).length)),(8,.int x1.1)] [(0,⟨3,[oMt v1.1 1]⟩),(1,⟨1,v1.1.cells.map (ow eI)⟩),(2,⟨1,v1.2.map (ow eI)⟩),(6,⟨1,List.map (ow (sP 1 eI)) (x1.2++[y11])⟩)] 7) (Ent.trans (oD (b:=6) (b':=4) (j:=0) (es':=y11.map eI) k k k k (aW _ _) (dY.frzs _)) (bK (tN 3 k2 (sW ⟨_,k,⟨k,k,(by simp only [aW,lA,lT,lR,lC,lN]),k⟩⟩ (bH k2))) (iF k<|bT k<|bT k<|hX ⟨_,k,k,.inl ⟨vM y11 k,eX.plainO _⟩⟩ k<|aY) k4))<|rg<|am k k<|ae (bB k k) k<|aT k2<|sp h ⟨_,k,(vS [0,1,2,6] (bH k2) (iF k<|bT k<|bT k<|mW (eX.plainO _) k<|aY) k4)⟩
 ·rintro e t ⟨rfl,hent⟩;exact aN<|tn<|aP hent<|sR<|am k k<|aT k2<|aC<|sp h (bD k k k (gR (gC eX k k)))
def pN (a0:Rp) (a1:Rp) (a2:Int) (x1:(Int×Int)):Option ((Int×Int) ⊕ Int):=
 bif decide (x1.2<a2) then
 ((cP a0.dims x1.2).bind λv2=>
 (cP a1.dims x1.2).bind λv3=>
 some (.inl (wr (x1.1+(wr (v2*v3))),wr (x1.2+1))))
 else
 (some (.inr x1.1))
def rD (a0:Rp) (a1:Rp) (a2:Int):Option Int:=
 (Lp (pN a0 a1 a2) (0,0)).bind λy4=>
 some (y4)
theorem aBU (a0:Rp) (a1:Rp) (a2:Int) (r:Int) (h:rD a0 a1 a2=some r):HasC Tryz.prog 139 [.agg (eR a0),.agg (eR a1),.int a2] (.int r):=by
 refine hM [.tmp 6] Tryz.func139 Tryz.ntmps139 k<|sR<|ae (wb k) k<|ae (wb k) k<|aT k2<|sR<|aT k2<|sQ<|sR<|aT k2<|aE<|oB h λy4 hy4 h=>bP (body:=(pN a0 a1 a2)) hy4 (λ(x1:(Int×Int))=>mN [(2,.int a2),(3,.ptr 0 0 0),(4,.ptr 1 0 0),(7,.int x1.1),(8,.int x1.2)] [(0,⟨6,[eR a0]⟩),(1,⟨6,[eR a1]⟩)] 2) (λr e t=>e= .exit 0∧Ent t (mN [(7,.int r)] [] 0)) (bK (bH k2) (bF k<|bF k<|aY) k4) ?_ ?_
 ·intro x1 o h;exact sQ<|sR<|am k k<|am k k<|cm k4<|an<|tn<|cO k h (λ_ h=>aI<|tn<|sQ<|aE<|aO fZ<|am k k<|fp k8<|lp k8<|am k k<|oB h λv2 hv2 h=>ae (xl hv2 k) k<|lr k7<|fp k8<|lp k8<|am k k<|oB h λv3 hv3 h=>ae (xl hv3 k) k<|lr k7<|ae (dJ k k) k<|ae (bB k k) k<|aa k k<|an<|oW (by kernel_rfl)<|aX<|tn<|rg<|am k k<|ae (bB k k) k<|aT k2<|sp h ⟨_,k,(bK (bH k2) (bF k<|bF k<|aY) k4)⟩) λ_ h=>aV<|aB<|aB<|sp h ⟨_,k,k,(bK (bH k2) aY k4)⟩
 ·rintro e t ⟨rfl,hent⟩;exact aN<|tn<|aP hent<|sR<|am k k<|aT k2<|aC<|oV h k2
def mJ (a0:Rp) (a1:Rp) (x1:(Int×Int)):Option ((Int×Int) ⊕ Int):=
 bif decide (x1.2<(a0.dims.length:Int)) then
 ((cP a0.dims x1.2).bind λv2=>
 (cP a1.dims x1.2).bind λv3=>
 some (.inl (wr (x1.1+(wr (v2*v3))),wr (x1.2+1))))
 else
 (some (.inr x1.1))
def nB (a0:Rp) (a1:Rp):Option Int:=
 (Lp (mJ a0 a1) (0,0)).bind λy4=>
 some (y4)
theorem yW (a0:Rp) (a1:Rp) (r:Int) (h:nB a0 a1=some r):HasC Tryz.prog 138 [.agg (eR a0),.agg (eR a1)] (.int r):=by
 refine hM [.tmp 4] Tryz.func138 Tryz.ntmps138 k<|sR<|ae (wb k) k<|ae (wb k) k<|aT k2<|sR<|aT k2<|sQ<|sR<|aT k2<|aE<|oB h λy4 hy4 h=>bP (body:=(mJ a0 a1)) hy4 (λ(x1:(Int×Int))=>mN [(2,.ptr 0 0 0),(3,.ptr 1 0 0),(5,.int x1.1),(6,.int x1.2)] [(0,⟨6,[eR a0]⟩),(1,⟨6,[eR a1]⟩)] 2) (λr e t=>e= .exit 0∧Ent t (mN [(5,.int r)] [] 0)) (bK (bH k2) (bF k<|bF k<|aY) k4) ?_ ?_
 ·intro x1 o h;exact sQ<|sR<|am k k<|fp k8<|lp k8<|ln k4<|cm k4<|an<|tn<|cO k h (λ_ h=>aI<|tn<|sQ<|aE<|aO fZ<|am k k<|fp k8<|lp k8<|am k k<|oB h λv2 hv2 h=>ae (xl hv2 k) k<|lr k7<|fp k8<|lp k8<|am k k<|oB h λv3 hv3 h=>ae (xl hv3 k) k<|lr k7<|ae (dJ k k) k<|ae (bB k k) k<|aa k k<|an<|oW (by kernel_rfl)<|aX<|tn<|rg<|am k k<|ae (bB k k) k<|aT k2<|sp h ⟨_,k,(bK (bH k2) (bF k<|bF k<|aY) k4)⟩) λ_ h=>aV<|aB<|aB<|sp h ⟨_,k,k,(bK (bH k2) aY k4)⟩
 ·rintro e t ⟨rfl,hent⟩;exact aN<|tn<|aP hent<|sR<|am k k<|aT k2<|aC<|oV h k2
def fH (a0:Rp) (a1:Rp) (v3:Int) (x1:(Int×(List Int)×Int)) (x2:(Int×(List Int)×Int)) (x3:(Int×(List Int)×Int)) (x4:((List Int)×Int)):Option (((List Int)×Int) ⊕ (List Int)):=
 (cP a1.dims v3).bind λv9=>
 bif decide (x4.2<v9) then
 ((rD a0 a1 v3).bind λv11=>
 (cP a0.dims v3).bind λv12=>
 (cP x4.1 (wr ((wr (v11+(wr (x4.2*v12))))+x3.2.2))).bind λv13=>
 (cP a1.maps x1.2.2).bind λv14=>
 (cP a1.dims v3).bind λv15=>
 (cP v14.cells (wr ((wr (x2.2.2*v15))+x4.2))).bind λv16=>
 (dW a0.p (wr (v13+v16))).bind λv17=>
 (cP x4.1 (wr ((wr (v11+(wr (x4.2*v12))))+x3.2.2))).bind λv18=>
 some (.inl ((x4.1.set ((wr ((wr (v11+(wr (x4.2*v12))))+x3.2.2)).toNat) v17),wr (x4.2+1))))
 else
 (some (.inr x4.1))
def fJ (a0:Rp) (a1:Rp) (v3:Int) (v4:Int) (x1:(Int×(List Int)×Int)) (x2:(Int×(List Int)×Int)) (x3:(Int×(List Int)×Int)) (x5:((List Int)×Int)):Option (((List Int)×Int) ⊕ (List Int)):=
 (cP a0.dims v4).bind λv20=>
 bif decide (x5.2<v20) then
 ((rD a0 a1 v4).bind λv22=>
 (cP a0.dims v4).bind λv23=>
 (cP x5.1 (wr ((wr (v22+(wr (x2.2.2*v23))))+x5.2))).bind λv24=>
 (cP a0.maps x1.2.2).bind λv25=>
 (cP a0.dims v3).bind λv26=>
 (cP v25.cells (wr ((wr (x5.2*v26))+x3.2.2))).bind λv27=>
 (dW a0.p (wr (v24 - v27))).bind λv28=>
 (cP x5.1 (wr ((wr (v22+(wr (x2.2.2*v23))))+x5.2))).bind λv29=>
 some (.inl ((x5.1.set ((wr ((wr (v22+(wr (x2.2.2*v23))))+x5.2)).toNat) v28),wr (x5.2+1))))
 else
 (some (.inr x5.1))
def gV (a0:Rp) (a1:Rp) (v1:Int) (v3:Int) (v4:Int) (x1:(Int×(List Int)×Int)) (x2:(Int×(List Int)×Int)) (x3:(Int×(List Int)×Int)):Option ((Int×(List Int)×Int) ⊕ (Int×(List Int))):=
 (cP a0.dims v3).bind λv7=>
 bif decide (x3.2.2<v7) then
 (bif (decide (0≤v1)&&decide (v1≤1048576)) then
 ((Lp (fH a0 a1 v3 x1 x2 x3) ((List.replicate v1.toNat (0:Int)),0)).bind λy19=>
 (Lp (fJ a0 a1 v3 v4 x1 x2 x3) (y19,0)).bind λy30=>
 bif decide (x3.2.1.length+y30.length≤4294967296) then
 (some (.inl (wr (x3.1+1),(x3.2.1++y30),wr (x3.2.2+1))))
 else none)
 else none)
 else
 (some (.inr (x3.1,x3.2.1)))
def gW (a0:Rp) (a1:Rp) (v1:Int) (v3:Int) (v4:Int) (x1:(Int×(List Int)×Int)) (x2:(Int×(List Int)×Int)):Option ((Int×(List Int)×Int) ⊕ (Int×(List Int))):=
 (cP a1.dims v4).bind λv5=>
 bif decide (x2.2.2<v5) then
 ((Lp (gV a0 a1 v1 v3 v4 x1 x2) (x2.1,x2.2.1,0)).bind λy33=>
 some (.inl (y33.1,y33.2,wr (x2.2.2+1))))
 else
 (some (.inr (x2.1,x2.2.1)))
def gX (a0:Rp) (a1:Rp) (v1:Int) (x1:(Int×(List Int)×Int)):Option ((Int×(List Int)×Int) ⊕ (Int×(List Int))):=
 bif decide (x1.2.2<(a0.maps.length:Int)) then
 ((cP a0.q.src x1.2.2).bind λv3=>
 (cP a0.q.tgt x1.2.2).bind λv4=>
 (Lp (gW a0 a1 v1 v3 v4 x1) (x1.1,x1.2.1,0)).bind λy34=>
 some (.inl (y34.1,y34.2,wr (x1.2.2+1))))
 else
 (some (.inr (x1.1,x1.2.1)))
def gP (a0:Rp) (a1:Rp):Option Mt:=
 (nB a0 a1).bind λv1=>
 (Lp (gX a0 a1 v1) (0,([]:(List Int)),0)).bind λy35=>
 some ((⟨y35.1,v1,y35.2⟩:Mt))
theorem tK (a0:Rp) (a1:Rp) (r:Mt) (h:gP a0 a1=some r):HasC Tryz.prog 83 [.agg (eR a0),.agg (eR a1)] (.agg (eM r)):=by
 refine hM [.cell 4 93] Tryz.func83 Tryz.ntmps83 k<|sR<|ae (wb k) k<|ae (wb k) k<|ae (bY aS k k) k<|an<|tn<|sR<|lp k8<|lp k8<|oB h λv1 hv1 h=>ae (aH (yW a0 a1 v1 hv1) k (aD (cN k) (aD (cN k) aL))) k<|aT k2<|sR<|am k k<|ae (wl k) k<|ae (wW aS k k k k k k) k<|ae (bY aS k k) k<|ae (ws k) k<|an<|tn<|aP (t:=mN [(2,.ptr 0 0 0),(3,.ptr 1 0 0),(4,.ptr 2 0 0),(5,.int v1),(6,.ptr 4 0 0)] [(0,⟨6,[eR a0]⟩),(1,⟨6,[eR a1]⟩),(2,⟨3,[eY]⟩),(3,⟨1,List.map (ow eI) ([]:(List Int))⟩),(4,⟨3,[[.int 0,.int v1,.own 3 0 (([]:(List Int)).length)]]⟩)] 5) (bK (bH k2) (bF k<|bF k<|bF k<|bT k<|hX ⟨_,k,k,.inr ⟨_,_,k,⟨_,_,k,k,⟨_,_,k,k,⟨_,_,k,⟨k,k,(by simp only [aW,lA,lT,lR,lC,lN]),k⟩,k⟩⟩⟩,k⟩⟩ k<|aY) k4)<|sQ<|sR<|aa k k ?_;refine an<|tn<|aE<|oB h λy35 hy35 h=>bP (body:=(gX a0 a1 v1)) hy35 (λ(x1:(Int×(List Int)×Int))=>mN [(2,.ptr 0 0 0),(3,.ptr 1 0 0),(4,.ptr 2 0 0),(5,.int v1),(6,.ptr 3 0 0),(7,.int x1.2.2)] [(0,⟨6,[eR a0]⟩),(1,⟨6,[eR a1]⟩),(2,⟨3,[eY]⟩),(3,⟨3,[[.int x1.1,.int v1,.own 4 0 x1.2.1.length]]⟩),(4,⟨1,x1.2.1.map (ow eI)⟩)] 5) (λr e t=>e= .exit 0∧Ent t (mN [(4,.ptr 0 0 0),(6,.ptr 1 0 0)] [(0,⟨3,[eY]⟩),(1,⟨3,[[.int r.1,.int v1,.own 2 0 r.2.length]]⟩),(2,⟨1,r.2.map (ow eI)⟩)] 3)) (vS [0,1,2,4,3] (bH k2) (bF k<|bF k<|bF k<|iF k<|bT k<|aY) k4) ?_ ?_
 ·intro x1 o h;refine sQ<|sR<|am k k<|fp k8<|lp k8<|ln k4<|cm k4<|an<|tn<|cO k h (λ_ h=>?_) λ_ h=>aV<|aB<|aB<|sp h ⟨_,k,k,(vS [2,3,4] (bH k2) (bF k<|iF k<|bT k<|aY) k4)⟩;refine aI<|tn<|sQ<|aE<|sR<|fp k8<|fp k8<|lp k8<|am k k<|oB h λv3 hv3 h=>ae (xl hv3 k) k<|lr k7<|aT k2<|sR<|fp k8<|fp k8<|lp k8<|am k k<|oB h λv4 hv4 h=>ae (xl hv4 k) k<|lr k7<|aT k2<|sR<|aa k k ?_;refine an<|tn<|aE<|oB h λy34 hy34 h=>bP (body:=(gW a0 a1 v1 v3 v4 x1)) hy34 (λ(x2:(Int×(List Int)×Int))=>mN [(2,.ptr 0 0 0),(3,.ptr 1 0 0),(4,.ptr 2 0 0),(5,.int v1),(6,.ptr 3 0 0),(7,.int x1.2.2),(8,.int v3),(9,.int v4),(10,.int x2.2.2)] [(0,⟨6,[eR a0]⟩),(1,⟨6,[eR a1]⟩),(2,⟨3,[eY]⟩),(3,⟨3,[[.int x2.1,.int v1,.own 4 0 x2.2.1.length]]⟩),(4,⟨1,x2.2.1.map (ow eI)⟩)] 5) (λr e t=>e= .exit 2∧Ent t (mN [(2,.ptr 0 0 0),(3,.ptr 1 0 0),(4,.ptr 2 0 0),(5,.int v1),(6,.ptr 3 0 0),(7,.int x1.2.2)] [(0,⟨6,[eR a0]⟩),(1,⟨6,[eR a1]⟩),(2,⟨3,[eY]⟩),(3,⟨3,[[.int r.1,.int v1,.own 4 0 r.2.length]]⟩),(4,⟨1,r.2.map (ow eI)⟩)] 5)) (bK (bH k2) (bF k<|bF k<|bF k<|iF k<|bT k<|aY) k4) ?_ ?_
  ·intro x2 o h;refine sQ<|sR<|am k k<|fp k8<|lp k8<|am k k<|oB h λv5 hv5 h=>ae (xl hv5 k) k<|lr k7<|cm k4<|an<|tn<|cO k h (λ_ h=>?_) λ_ h=>aV<|aB<|aB<|sp h ⟨_,k,k,(bK (bH k2) (bF k<|bF k<|bF k<|iF k<|bT k<|aY) k4)⟩;refine aI<|tn<|sQ<|aE<|sR<|aT k2<|aE<|oB h λy33 hy33 h=>bP (body:=(gV a0 a1 v1 v3 v4 x1 x2)) hy33 (λ(x3:(Int×(List Int)×Int))=>mN [(2,.ptr 0 0 0),(3,.ptr 1 0 0),(4,.ptr 2 0 0),(5,.int v1),(6,.ptr 3 0 0),(7,.int x1.2.2),(8,.int v3),(9,.int v4),(10,.int x2.2.2),(11,.int x3.2.2)] [(0,⟨6,[eR a0]⟩),(1,⟨6,[eR a1]⟩),(2,⟨3,[eY]⟩),(3,⟨3,[[.int x3.1,.int v1,.own 4 0 x3.2.1.length]]⟩),(4,⟨1,x3.2.1.map (ow eI)⟩)] 5) (λr e t=>e= .exit 4∧Ent t (mN [(2,.ptr 0 0 0),(3,.ptr 1 0 0),(4,.ptr 2 0 0),(5,.int v1),(6,.ptr 3 0 0),(7,.int x1.2.2),(8,.int v3),(9,.int v4),(10,.int x2.2.2)] [(0,⟨6,[eR a0]⟩),(1,⟨6,[eR a1]⟩),(2,⟨3,[eY]⟩),(3,⟨3,[[.int r.1,.int v1,.own 4 0 r.2.length]]⟩),(4,⟨1,r.2.map (ow eI)⟩)] 5)) (bK (bH k2) (bF k<|bF k<|bF k<|iF k<|bT k<|aY) k4) ?_ ?_
   ·intro x3 o h;refine sQ<|sR<|am k k<|fp k8<|lp k8<|am k k<|oB h λv7 hv7 h=>ae (xl hv7 k) k<|lr k7<|cm k4<|an<|tn<|cO k h (λ_ h=>?_) λ_ h=>aV<|aB<|aB<|sp h ⟨_,k,k,(bK (bH k2) (bF k<|bF k<|bF k<|iF k<|bT k<|aY) k4)⟩;refine aI<|tn<|sQ<|aE<|sR<|am k k<|cG h λq32 h=>ae (vK aS q32 k k k k k k k k) k<|aT k2<|aP (t:=mN [(2,.ptr 0 0 0),(3,.ptr 1 0 0),(4,.ptr 2 0 0),(5,.int v1),(6,.ptr 3 0 0),(7,.int x1.2.2),(8,.int v3),(9,.int v4),(10,.int x2.2.2),(11,.int x3.2.2),(12,.own 5 0 ((List.replicate v1.toNat (0:Int)).length))] [(0,⟨6,[eR a0]⟩),(1,⟨6,[eR a1]⟩),(2,⟨3,[eY]⟩),(3,⟨3,[[.int x3.1,.int v1,.own 4 0 x3.2.1.length]]⟩),(4,⟨1,x3.2.1.map (ow eI)⟩),(5,⟨1,List.map (ow eI) (List.replicate v1.toNat (0:Int))⟩)] 6) (bK (tN 10 k2 (sW ⟨_,k,⟨k,k,(by simp only [aW,lA,lT,lR,lC,lN]),k⟩⟩ aY)) (bF k<|bF k<|bF k<|iF k<|bT k<|hX ⟨_,k,k,.inl ⟨xB (e:=eI) (z:=0) _,dY.plainO _⟩⟩ k<|aY) k4)<|sQ<|sR<|aT k2<|aE<|oB h λy19 hy19 h=>bP (body:=(fH a0 a1 v3 x1 x2 x3)) hy19 (λ(x4:((List Int)×Int))=>mN [(2,.ptr 0 0 0),(3,.ptr 1 0 0),(4,.ptr 2 0 0),(5,.int v1),(6,.ptr 3 0 0),(7,.int x1.2.2),(8,.int v3),(9,.int v4),(10,.int x2.2.2),(11,.int x3.2.2),(12,.own 5 0 x4.1.length),(13,.int x4.2)] [(0,⟨6,[eR a0]⟩),(1,⟨6,[eR a1]⟩),(2,⟨3,[eY]⟩),(3,⟨3,[[.int x3.1,.int v1,.own 4 0 x3.2.1.length]]⟩),(4,⟨1,x3.2.1.map (ow eI)⟩),(5,⟨1,x4.1.map (ow eI)⟩)] 6) (λr e t=>e= .exit 6∧Ent t (mN [(2,.ptr 0 0 0),(3,.ptr 1 0 0),(4,.ptr 2 0 0),(5,.int v1),(6,.ptr 3 0 0),(7,.int x1.2.2),(8,.int v3),(9,.int v4),(10,.int x2.2.2),(11,.int x3.2.2),(12,.own 5 0 r.length)] [(0,⟨6,[eR a0]⟩),(1,⟨6,[eR a1]⟩),(2,⟨3,[eY]⟩),(3,⟨3,[[.int x3.1,.int v1,.own 4 0 x3.2.1.length]]⟩),(4,⟨1,x3.2.1.map (ow eI)⟩),(5,⟨1,r.map (ow eI)⟩)] 6)) (bK (bH k2) (bF k<|bF k<|bF k<|iF k<|bT k<|bT k<|aY) k4) ?_ ?_
    ·intro x4 o h;refine sQ<|sR<|am k k<|fp k8<|lp k8<|am k k<|oB h λv9 hv9 h=>ae (xl hv9 k) k<|lr k7<|cm k4<|an<|tn<|cO k h (λ_ h=>?_) λ_ h=>aV<|aB<|aB<|sp h ⟨_,k,k,(bK (bH k2) (bF k<|bF k<|bF k<|iF k<|bT k<|bT k<|aY) k4)⟩;refine aI<|tn<|sQ<|aE<|sQ<|aO fZ<|lp k8<|lp k8<|am k k<|oB h λv11 hv11 h=>ae (aH (aBU a0 a1 v3 v11 hv11) k (aD (cN k) (aD (cN k) (bX k aL)))) k<|am k k<|fp k8<|lp k8<|am k k<|oB h λv12 hv12 h=>ae (xl hv12 k) k<|lr k7<|ae (dJ k k) k<|ae (bB k k) k<|am k k<|ae (bB k k) k<|aa k k<|an<|oW (by kernel_rfl)<|tn<|aO fZ<|am k k<|am k k<|fp k8<|lp k8 ?_;refine am k k<|am k k<|oB h λv13 hv13 h=>ae (xo hv13 k) k<|ae (wp hv13 k) k<|fp k8<|lp k8<|am k k<|oB h λv14 hv14 h=>ae (xl hv14 k) k<|ae (mT aS k k k k k k) k<|lr k7<|am k k<|fp k8<|lp k8<|am k k<|oB h λv15 hv15 h=>ae (xl hv15 k) k<|lr k7<|ae (dJ k k) k<|am k k<|ae (bB k k) k<|oB h λv16 hv16 h=>ae (xl hv16 k) k<|lr k7<|ae (bB k k) k<|oB h λv17 hv17 h=>ae (aH (gS a0.p (wr (v13+v16)) v17 hv17) k (bX k (bX k aL))) k<|oB h λv18 hv18 h=>ae (xo hv18 k) k<|ae (fY aS pX (u:=v17) (eO hv18) k k k k k k) k<|an<|oW (by kernel_rfl)<|aX<|tn<|aP (t:=mN [(2,.ptr 0 0 0),(3,.ptr 1 0 0),(4,.ptr 2 0 0),(5,.int v1),(6,.ptr 3 0 0),(7,.int x1.2.2),(8,.int v3),(9,.int v4),(10,.int x2.2.2),(11,.int x3.2.2),(12,.own 5 0 ((x4.1.set ((wr ((wr (v11+(wr (x4.2*v12))))+x3.2.2)).toNat) v17).length)),(13,.int x4.2)] [(0,⟨6,[eR a0]⟩),(1,⟨6,[eR a1]⟩),(2,⟨3,[eY]⟩),(3,⟨3,[[.int x3.1,.int v1,.own 4 0 x3.2.1.length]]⟩),(4,⟨1,x3.2.1.map (ow eI)⟩),(5,⟨1,List.map (ow eI) (x4.1.set ((wr ((wr (v11+(wr (x4.2*v12))))+x3.2.2)).toNat) v17)⟩)] 6) (bK (tN 10 k2 (sW ⟨_,k,⟨k,k,(by simp only [aW,lA,lT,lR,lC,lN]),k⟩⟩ (bH k2))) (bF k<|bF k<|bF k<|iF k<|bT k<|bT k<|aY) k4) ?_;exact rg<|am k k<|ae (bB k k) k<|aT k2<|sp h ⟨_,k,(bK (bH k2) (bF k<|bF k<|bF k<|iF k<|bT k<|bT k<|aY) k4)⟩
    ·rintro e t ⟨rfl,hent⟩;refine aN<|tn<|aP hent<|sQ<|sR<|aT k2<|aE<|oB h λy30 hy30 h=>bP (body:=(fJ a0 a1 v3 v4 x1 x2 x3)) hy30 (λ(x5:((List Int)×Int))=>mN [(2,.ptr 0 0 0),(3,.ptr 1 0 0),(4,.ptr 2 0 0),(5,.int v1),(6,.ptr 3 0 0),(7,.int x1.2.2),(8,.int v3),(9,.int v4),(10,.int x2.2.2),(11,.int x3.2.2),(12,.own 5 0 x5.1.length),(15,.int x5.2)] [(0,⟨6,[eR a0]⟩),(1,⟨6,[eR a1]⟩),(2,⟨3,[eY]⟩),(3,⟨3,[[.int x3.1,.int v1,.own 4 0 x3.2.1.length]]⟩),(4,⟨1,x3.2.1.map (ow eI)⟩),(5,⟨1,x5.1.map (ow eI)⟩)] 6) (λr e t=>e= .exit 8∧Ent t (mN [(2,.ptr 0 0 0),(3,.ptr 1 0 0),(4,.ptr 2 0 0),(5,.int v1),(6,.ptr 3 0 0),(7,.int x1.2.2),(8,.int v3),(9,.int v4),(10,.int x2.2.2),(11,.int x3.2.2),(12,.own 5 0 r.length)] [(0,⟨6,[eR a0]⟩),(1,⟨6,[eR a1]⟩),(2,⟨3,[eY]⟩),(3,⟨3,[[.int x3.1,.int v1,.own 4 0 x3.2.1.length]]⟩),(4,⟨1,x3.2.1.map (ow eI)⟩),(5,⟨1,r.map (ow eI)⟩)] 6)) (bK (bH k2) (bF k<|bF k<|bF k<|iF k<|bT k<|bT k<|aY) k4) ?_ ?_
     ·intro x5 o h;refine sQ<|sR<|am k k<|fp k8<|lp k8<|am k k<|oB h λv20 hv20 h=>ae (xl hv20 k) k<|lr k7<|cm k4<|an<|tn<|cO k h (λ_ h=>?_) λ_ h=>aV<|aB<|aB<|sp h ⟨_,k,k,(bK (bH k2) (bF k<|bF k<|bF k<|iF k<|bT k<|bT k<|aY) k4)⟩;refine aI<|tn<|sQ<|aE<|sQ<|aO fZ<|lp k8<|lp k8<|am k k<|oB h λv22 hv22 h=>ae (aH (aBU a0 a1 v4 v22 hv22) k (aD (cN k) (aD (cN k) (bX k aL)))) k<|am k k<|fp k8<|lp k8<|am k k<|oB h λv23 hv23 h=>ae (xl hv23 k) k<|lr k7<|ae (dJ k k) k<|ae (bB k k) k<|am k k<|ae (bB k k) k<|aa k k<|an<|oW (by kernel_rfl)<|tn<|aO fZ<|am k k<|am k k<|fp k8<|lp k8 ?_;refine am k k<|am k k<|oB h λv24 hv24 h=>ae (xo hv24 k) k<|ae (wp hv24 k) k<|fp k8<|lp k8<|am k k<|oB h λv25 hv25 h=>ae (xl hv25 k) k<|ae (mT aS k k k k k k) k<|lr k7<|am k k<|fp k8<|lp k8<|am k k<|oB h λv26 hv26 h=>ae (xl hv26 k) k<|lr k7<|ae (dJ k k) k<|am k k<|ae (bB k k) k<|oB h λv27 hv27 h=>ae (xl hv27 k) k<|lr k7<|ae (kS k k) k<|oB h λv28 hv28 h=>ae (aH (gS a0.p (wr (v24 - v27)) v28 hv28) k (bX k (bX k aL))) k<|oB h λv29 hv29 h=>ae (xo hv29 k) k<|ae (fY aS pX (u:=v28) (eO hv29) k k k k k k) k<|an<|oW (by kernel_rfl)<|aX<|tn<|aP (t:=mN [(2,.ptr 0 0 0),(3,.ptr 1 0 0),(4,.ptr 2 0 0),(5,.int v1),(6,.ptr 3 0 0),(7,.int x1.2.2),(8,.int v3),(9,.int v4),(10,.int x2.2.2),(11,.int x3.2.2),(12,.own 5 0 ((x5.1.set ((wr ((wr (v22+(wr (x2.2.2*v23))))+x5.2)).toNat) v28).length)),(15,.int x5.2)] [(0,⟨6,[eR a0]⟩),(1,⟨6,[eR a1]⟩),(2,⟨3,[eY]⟩),(3,⟨3,[[.int x3.1,.int v1,.own 4 0 x3.2.1.length]]⟩),(4,⟨1,x3.2.1.map (ow eI)⟩),(5,⟨1,List.map (ow eI) (x5.1.set ((wr ((wr (v22+(wr (x2.2.2*v23))))+x5.2)).toNat) v28)⟩)] 6) (bK (tN 10 k2 (sW ⟨_,k,⟨k,k,(by simp only [aW,lA,lT,lR,lC,lN]),k⟩⟩ (bH k2))) (bF k<|bF k<|bF k<|iF k<|bT k<|bT k<|aY) k4) ?_;exact rg<|am k k<|ae (bB k k) k<|aT k2<|sp h ⟨_,k,(bK (bH k2) (bF k<|bF k<|bF k<|iF k<|bT k<|bT k<|aY) k4)⟩
     ·rintro e t ⟨rfl,hent⟩;exact aN<|tn<|aP hent<|sR<|fp k8<|lp k8<|ae (bB k k) k<|fp k8<|ae (ws k) k<|an<|tn<|rg<|fp k8<|lp k8<|am k k<|cG h λq31 h=>ae (yL aS (l:=x3.2.1) (m:=y30) pX q31 k k k k k (aOU dY k k) k k k k k k) k<|fp k8<|ae (ws k) k<|an<|aX<|tn<|rg<|am k k<|ae (bB k k) k<|aT k2<|sp h ⟨_,k,(vS [0,1,2,3,6] (bH k2) (bF k<|bF k<|bF k<|iF k<|bT k<|aY) k4)⟩
   ·rintro e t ⟨rfl,hent⟩;exact aN<|aX<|tn<|aP hent<|rg<|am k k<|ae (bB k k) k<|aT k2<|sp h ⟨_,k,(bK (bH k2) (bF k<|bF k<|bF k<|iF k<|bT k<|aY) k4)⟩
  ·rintro e t ⟨rfl,hent⟩;exact aN<|aX<|tn<|aP hent<|rg<|am k k<|ae (bB k k) k<|aT k2<|sp h ⟨_,k,(bK (bH k2) (bF k<|bF k<|bF k<|iF k<|bT k<|aY) k4)⟩
 ·rintro e t ⟨rfl,hent⟩;exact aN<|tn<|aP hent<|sR<|lp k8<|ae (ws k) k<|an<|tn<|aC<|sp h (bD k k k (rR (bL (k) (bL (k) (bL (gC dY k k) mU)))))
def fW (a0:Rp) (a1:Rp) (a2:(List Int)) (x1:((List Mt)×Int×Int)):Option (((List Mt)×Int×Int) ⊕ (List Mt)):=
 bif decide (x1.2.2<(a0.dims.length:Int)) then
 ((cP a0.dims x1.2.2).bind λv2=>
 (cP a1.dims x1.2.2).bind λv3=>
 (cP a1.dims x1.2.2).bind λv4=>
 (cP a0.dims x1.2.2).bind λv5=>
 bif (decide (0≤x1.2.1)&&(decide (x1.2.1≤wr (x1.2.1+(wr (v2*v3))))&&decide (wr (x1.2.1+(wr (v2*v3)))≤(a2.length:Int)))) then
 (bif decide (([]:(List Int)).length +((a2.drop x1.2.1.toNat).take ((wr (x1.2.1+(wr (v2*v3)))).toNat - x1.2.1.toNat)).length ≤4294967296) then
 (bif decide (x1.1.length+1≤4294967296) then
 (some (.inl ((x1.1++[(⟨v4,v5,(([]:(List Int))++((a2.drop x1.2.1.toNat).take ((wr (x1.2.1+(wr (v2*v3)))).toNat - x1.2.1.toNat)))⟩:Mt)]),wr (x1.2.1+(wr (v2*v3))),wr (x1.2.2+1))))
 else none)
 else none)
 else none)
 else
 (some (.inr x1.1))
def gK (a0:Rp) (a1:Rp) (a2:(List Int)):Option (List Mt):=
 (Lp (fW a0 a1 a2) (([]:(List Mt)),0,0)).bind λy9=>
 some (y9)
theorem xZ (a0:Rp) (a1:Rp) (a2:(List Int)) (r:(List Mt)) (h:gK a0 a1 a2=some r):HasC Tryz.prog 137 [.agg (eR a0),.agg (eR a1),.list 1 (a2.map eI)] (.list 3 (r.map eM)):=by
 refine hM [.tmp 6] Tryz.func137 Tryz.ntmps137 k<|sR<|ae (wb k) k<|ae (wb k) k<|aT k2<|sR<|ae (wl k) k<|aT k2<|aP (t:=mN [(2,.list 1 (a2.map eI)),(3,.ptr 0 0 0),(4,.ptr 1 0 0),(7,.own 2 0 (([]:(List Mt)).length))] [(0,⟨6,[eR a0]⟩),(1,⟨6,[eR a1]⟩),(2,⟨3,List.map (ow eM) ([]:(List Mt))⟩)] 3) (bK (tN 3 k2 (sW ⟨_,k,⟨k,k,(by simp only [aW,lA,lT,lR,lC,lN]),k⟩⟩ aY)) (bF k<|bF k<|mW (cJ.plainO _) k<|aY) k4)<|sR<|aT k2<|sQ<|sR<|aT k2<|aE<|oB h λy9 hy9 h=>bP (body:=(fW a0 a1 a2)) hy9 (λ(x1:((List Mt)×Int×Int))=>mN [(2,.list 1 (a2.map eI)),(3,.ptr 0 0 0),(4,.ptr 1 0 0),(7,.own 2 0 x1.1.length),(8,.int x1.2.1),(9,.int x1.2.2)] [(0,⟨6,[eR a0]⟩),(1,⟨6,[eR a1]⟩),(2,⟨3,x1.1.map (ow eM)⟩)] 3) (λr e t=>e= .exit 0∧Ent t (mN [(7,.own 0 0 r.length)] [(0,⟨3,r.map (ow eM)⟩)] 1)) (bK (bH k2) (bF k<|bF k<|mW (cJ.plainO _) k<|aY) k4) ?_ ?_
 ·intro x1 o h;refine sQ<|sR<|am k k<|fp k8<|lp k8<|ln k4<|cm k4<|an<|tn<|cO k h (λ_ h=>?_) λ_ h=>aV<|aB<|aB<|sp h ⟨_,k,k,(vS [2] (bH k2) (mW (cJ.plainO _) k<|aY) k4)⟩;refine aI<|tn<|sQ<|aE<|sQ<|aO fZ<|fp k8<|lp k8<|am k k<|oB h λv2 hv2 h=>ae (xl hv2 k) k<|lr k7<|fp k8<|lp k8<|am k k<|oB h λv3 hv3 h=>ae (xl hv3 k) k<|lr k7<|ae (dJ k k) k<|aa k k<|an<|oW (by kernel_rfl)<|tn<|sQ<|aO fZ<|am k k<|fp k8<|lp k8<|am k k<|oB h λv4 hv4 h=>ae (xl hv4 k) k<|lr k7 ?_;refine fp k8<|lp k8<|am k k<|oB h λv5 hv5 h=>ae (xl hv5 k) k<|lr k7<|ae (wl k) k<|am k k<|am k k<|am k k<|am k k<|ae (bB k k) k<|cG h λq6 h=>ae (xD aS (l0:=a2) (l:=x1.2.1) (h:=wr (x1.2.1+(wr (v2*v3)))) q6 k k k k k k k) k<|cG h λq7 h=>ae (yL aS (l:=([]:(List Int))) (m:=((a2.drop x1.2.1.toNat).take ((wr (x1.2.1+(wr (v2*v3)))).toNat - x1.2.1.toNat))) pX q7 k k k k k k k k k k k k) k<|ae (wW aS k k k k k k) k<|ae (wl k) k<|cG h λq8 h=>ae (vL aS (l:=x1.1) (c:=[.int v4,.int v5,.own 4 0 ((([]:(List Int))++((a2.drop x1.2.1.toNat).take ((wr (x1.2.1+(wr (v2*v3)))).toNat - x1.2.1.toNat))).length)]) q8 k k k k k k k k k k k k k k) k<|aa k k<|an<|oW (by kernel_rfl)<|tn<|aP (t:=mN [(2,.list 1 (a2.map eI)),(3,.ptr 0 0 0),(4,.ptr 1 0 0),(7,.own 6 0 ((x1.1++[(⟨v4,v5,(([]:(List Int))++((a2.drop x1.2.1.toNat).take ((wr (x1.2.1+(wr (v2*v3)))).toNat - x1.2.1.toNat)))⟩:Mt)]).length)),(8,.int x1.2.1),(9,.int x1.2.2),(10,.int (wr (v2*v3)))] [(0,⟨6,[eR a0]⟩),(1,⟨6,[eR a1]⟩),(6,⟨3,List.map (ow eM) (x1.1++[(⟨v4,v5,(([]:(List Int))++((a2.drop x1.2.1.toNat).take ((wr (x1.2.1+(wr (v2*v3)))).toNat - x1.2.1.toNat)))⟩:Mt)])⟩)] 7) (Ent.trans (oD (b:=6) (b':=4) (j:=2) (es':=List.map eI (([]:(List Int))++((a2.drop x1.2.1.toNat).take ((wr (x1.2.1+(wr (v2*v3)))).toNat - x1.2.1.toNat)))) k k k k (aW _ _) (dY.frzs _)) (bK (tN 3 k2 (sW ⟨_,k,⟨k,k,(by simp only [aW,lA,lT,lR,lC,lN]),k⟩⟩ (bH k2))) (bF k<|bF k<|hX ⟨_,k,k,.inl ⟨vM (⟨v4,v5,(([]:(List Int))++((a2.drop x1.2.1.toNat).take ((wr (x1.2.1+(wr (v2*v3)))).toNat - x1.2.1.toNat)))⟩:Mt) k,cJ.plainO _⟩⟩ k<|aY) k4))<|rg<|am k k<|am k k<|ae (bB k k) k<|aa k k<|an<|aX<|tn<|rg ?_;exact am k k<|ae (bB k k) k<|aT k2<|sp h ⟨_,k,(vS [0,1,6] (bH k2) (bF k<|bF k<|mW (cJ.plainO _) k<|aY) k4)⟩
 ·rintro e t ⟨rfl,hent⟩;exact aN<|tn<|aP hent<|sR<|am k k<|aT k2<|aC<|sp h (bD k k k (gR (gC cJ k k)))
def eC (a0:Rp) (a1:Rp) (v4:(List (List Int))) (x1:((List (List Mt))×Int)):Option (((List (List Mt))×Int) ⊕ (List (List Mt))):=
 bif decide (x1.2<((v4.length:Nat):Int)) then
 ((cP v4 x1.2).bind λv6=>
 (gK a0 a1 v6).bind λv7=>
 bif decide (x1.1.length+1≤4294967296) then
 (some (.inl ((x1.1++[v7]),wr (x1.2+1))))
 else none)
 else
 (some (.inr x1.1))
def gL (a0:Rp) (a1:Rp):Option ((List (List Mt))×Bool):=
 (fF a0 a1).bind λv1=>
 bif !v1 then
 (some ((([]:(List (List Mt))),false)))
 else
 ((gP a0 a1).bind λv3=>
 (pM a0.p v3).bind λv4=>
 (Lp (eC a0 a1 v4) (([]:(List (List Mt))),0)).bind λy9=>
 some ((y9,true)))
theorem yA (a0:Rp) (a1:Rp) (r:((List (List Mt))×Bool)) (h:gL a0 a1=some r):HasC Tryz.prog 82 [.agg (eR a0),.agg (eR a1)] (.tuple [.list 1 (r.1.map (sP 3 eM)),.bl r.2]):=by
 refine hM [.tmp 4,.tmp 5] Tryz.func82 Tryz.ntmps82 k<|sR<|ae (wb k) k<|ae (wb k) k<|aa k k<|aT k2<|sR<|ae (wl k) k<|aT k2<|aP (t:=mN [(2,.ptr 0 0 0),(3,.ptr 1 0 0),(6,.own 2 0 (([]:(List (List Mt))).length))] [(0,⟨6,[eR a0]⟩),(1,⟨6,[eR a1]⟩),(2,⟨1,List.map (ow (sP 3 eM)) ([]:(List (List Mt)))⟩)] 3) (bK (tN 2 k2 (sW ⟨_,k,⟨k,k,(by simp only [aW,lA,lT,lR,lC,lN]),k⟩⟩ aY)) (bF k<|bF k<|mW (eX.plainO _) k<|aY) k4)<|sQ<|sR<|lp k8<|lp k8<|oB h λv1 hv1 h=>ae (aH (qU a0 a1 v1 hv1) k (aD (cN k) (aD (cN k) aL))) k<|ae (dC k) k<|an<|tn<|cO k h (λ_ h=>sR<|am k k<|aa k k<|aT k2<|aC<|aG<|sp h (bD k k k (iX k (cF (qN (gC eX k k)) (cF (k) qO))))) λ_ h=>?_;refine aI<|tn<|sQ<|aO fZ<|fp k8<|lp k8<|lp k8<|lp k8<|oB h λv3 hv3 h=>ae (cM (tK a0 a1 v3 hv3) k3 (aD (cN k) (aD (cN k) aL))) k<|oB h λv4 hv4 h=>ae (cL eX (aCc a0.p v3 v4 hv4) k3 (bX k (aD (vaM k2) aL))) k<|aa k k<|an<|oW (by kernel_rfl)<|tn<|sQ<|sR<|aT k2<|aE<|oB h λy9 hy9 h=>bP (body:=(eC a0 a1 v4)) hy9 (λ(x1:((List (List Mt))×Int))=>mN [(2,.ptr 0 0 0),(3,.ptr 1 0 0),(6,.own 2 0 x1.1.length),(7,.own 3 0 v4.length),(8,.int x1.2)] [(0,⟨6,[eR a0]⟩),(1,⟨6,[eR a1]⟩),(2,⟨1,x1.1.map (ow (sP 3 eM))⟩),(3,⟨1,v4.map (ow (sP 1 eI))⟩)] 4) (λr e t=>e= .exit 0∧Ent t (mN [(6,.own 0 0 r.length)] [(0,⟨1,r.map (ow (sP 3 eM))⟩)] 1)) (vS [0,1,2,4] (bH k2) (bF k<|bF k<|mW (eX.plainO _) k<|mW (eX.plainO _) k<|aY) k4) ?_ ?_
 ·intro x1 o h;exact sQ<|sR<|am k k<|am k k<|ae (dU aS k k k k) k<|cm k4<|an<|tn<|cO k h (λ_ h=>aI<|tn<|sQ<|aE<|aO fZ<|am k k<|lp k8<|lp k8<|am k k<|am k k<|oB h λv6 hv6 h=>ae (xo hv6 k) k<|ae (wp hv6 k) k<|oB h λv7 hv7 h=>ae (cL cJ (xZ a0 a1 v6 v7 hv7) k3 (aD (cN k) (aD (cN k) (bX k aL)))) k<|ae (wl k) k<|cG h λq8 h=>ae (vL aS (l:=x1.1) (c:=[.own 4 0 v7.length]) q8 k k k k k k k k k k k k k k) k<|aa k k<|an<|oW (by kernel_rfl)<|aX<|tn<|aP (t:=mN [(2,.ptr 0 0 0),(3,.ptr 1 0 0),(6,.own 6 0 ((x1.1++[v7]).length)),(7,.own 3 0 v4.length),(8,.int x1.2)] [(0,⟨6,[eR a0]⟩),(1,⟨6,[eR a1]⟩),(3,⟨1,v4.map (ow (sP 1 eI))⟩),(6,⟨1,List.map (ow (sP 3 eM)) (x1.1++[v7])⟩)] 7) (Ent.trans (oD (b:=6) (b':=4) (j:=0) (es':=v7.map eM) k k k k (aW _ _) (cJ.frzs _)) (bK (tN 2 k2 (sW ⟨_,k,⟨k,k,(by simp only [aW,lA,lT,lR,lC,lN]),k⟩⟩ (bH k2))) (bF k<|bF k<|mW (eX.plainO _) k<|hX ⟨_,k,k,.inl ⟨vM v7 k,eX.plainO _⟩⟩ k<|aY) k4))<|rg<|am k k<|ae (bB k k) k<|aT k2<|sp h ⟨_,k,(vS [0,1,6,3] (bH k2) (bF k<|bF k<|mW (eX.plainO _) k<|mW (eX.plainO _) k<|aY) k4)⟩) λ_ h=>aV<|aB<|aB<|sp h ⟨_,k,k,(vS [2] (bH k2) (mW (eX.plainO _) k<|aY) k4)⟩
 ·rintro e t ⟨rfl,hent⟩;exact aN<|tn<|aP hent<|sR<|am k k<|aa k k<|aT k2<|aC<|sp h (bD k k k (iX k (cF (qN (gC eX k k)) (cF (k) qO))))
def eZ (a0:Rp) (a1:Rp):Option Int:=
 (gL a0 a1).bind λv1=>
 bif !v1.2 then
 (some ((-1)))
 else
 (some (((v1.1.length:Nat):Int)))
theorem jS (a0:Rp) (a1:Rp) (r:Int) (h:eZ a0 a1=some r):HasC Tryz.prog 35 [.agg (eR a0),.agg (eR a1)] (.int r):=by
 exact hM [.tmp 4] Tryz.func35 Tryz.ntmps35 k<|sR<|ae (wb k) k<|ae (wb k) k<|aT k2<|sR<|lp k8<|lp k8<|oB h λv1 hv1 h=>ae (cT eX (yA a0 a1 v1 hv1) k3 (aD (cN k) (aD (cN k) aL))) k<|am k k<|ae (cB k k (by intro _ h;cases h)) k<|ae (cB k k (by intro _ h;cases h)) k<|aa k k<|aT k2<|sQ<|sR<|am k k<|ae (dC k) k<|an<|tn<|cO k h (λ_ h=>sR<|aT k2<|aC<|aG<|oV h k2) λ_ h=>aI<|tn<|sR<|am k k<|ae (dU aS k k k k) k<|aT k2<|aC<|oV h k2
end
noncomputable section
set_option maxRecDepth 10000
set_option maxHeartbeats 4000000
end
noncomputable section
def rkF (p:Int) (m n:Nat) (F:Nat→Nat→Int):Nat:=(bW p m F n).2.length
theorem aNL {p:Int} (hp:rJ p=true) {r c:Nat} (hr:r≤8) (hc:c≤8) {F:Nat→Nat→Int} (hF:zT p r c F):aAH p ⟨r,c,bJ r c F⟩=true:=by
 have hb:=dG hp;have h64:r*c≤64:=Nat.mul_le_mul hr hc;unfold aAH;simp only [cD,mS,List.all_eq_true];refine ⟨wY (by omega) (by omega),wY (by omega) (by omega),?_,⟨hp,by rw [dF];exact h64⟩,λx hx=>?_⟩
 ·rw [dF,aDR (by omega)]
 ·unfold bJ at hx;obtain ⟨t,ht,rfl⟩:=List.mem_map.1 hx;have ht:=List.mem_range.1 ht;have hc0:0<c:=by rcases Nat.eq_zero_or_pos c with rfl|h';simp at ht;exact h'
  have:=hF (t / c) (t % c) (Nat.div_lt_of_lt_mul (by rw [Nat.mul_comm];exact ht)) (Nat.mod_lt _ hc0);rw [cC (by omega)];exact wY this.1 (by omega)
theorem aMJ {p:Int} (hp:rJ p=true) {r c:Nat} (hr:r≤8) (hc:c≤8) {F:Nat→Nat→Int} (hF:zT p r c F):sD p ⟨r,c,bJ r c F⟩=some (rkF p r c F:Int):=by
 have h64:r*c≤64:=Nat.mul_le_mul hr hc;unfold sD rT;rw [aBy p ⟨by unfold bI;simp only [dF];omega,trivial⟩,aNL hp hr hc hF,aA,dX,aU,xI ⟨hp,by omega,by omega,by omega,hF⟩,aA,aA];simp only [dX,aU,dA];rfl
def dN (r:Rp) (k:Nat):Nat:=(r.dims[k]?.getD 0).toNat
theorem yX {r:Rp} (h:rW r=true):rJ r.p=true∧aCM r.q r.dims=true∧r.maps.length=r.q.src.length∧ ∀ k,k<r.maps.length→aAH r.p (r.maps[k]?.getD ⟨0,0,[]⟩)=true∧(r.maps[k]?.getD ⟨0,0,[]⟩).cols=r.dims[(r.q.src[k]?.getD 0).toNat]?.getD 0∧(r.maps[k]?.getD ⟨0,0,[]⟩).rows=r.dims[(r.q.tgt[k]?.getD 0).toNat]?.getD 0:=by
 unfold rW at h;simp only [cD,mS,uA] at h;exact ⟨h.1,h.2.1,by omega,h.2.2.2⟩
theorem nC {c:Nat} {f g:Nat→Int} (h: ∀ j,j<c→f j=g j):gB c f=gB c g:=uL λj hj=>h j (List.mem_range.1 hj)
theorem aHp {c j:Nat} (hj:j<c) (f:Nat→Int) (v:Int):(gB c f).set j v=gB c (λb=>if b=j then v else f b):=by
 refine List.ext_getElem (by simp [gB]) λt h1 h2=>?_;rw [dV] at h2;rw [List.getElem_set];simp only [gB,List.getElem_map,List.getElem_range];by_cases e:j=t
 ·rw [aQ e,aQ e.symm]
 ·rw [aR e,aR (by omega)]
theorem aFP (c:Nat):List.replicate c (0:Int)=gB c (λ_=>0):=by
 refine List.ext_getElem (by simp [gB]) λt h1 h2=>?_;simp [gB]
theorem sq {a b:Nat} (ha:a≤4) (hb:b≤4):a*b≤1048576:=by have:=Nat.mul_le_mul ha hb;omega
theorem aDl (c:Nat) (f:Nat→Nat→Int): ∀ n,((List.range n).map λi=>gB c (f i)).flatten=bJ n c f
 |0=>by simp [bJ]
 |n+1=>by
  rw [List.range_succ,List.map_append,List.flatten_append,aDl c f n];unfold bJ;rw [Nat.succ_mul,List.range_add,List.map_append];congr 1;simp only [List.map_cons,List.map_nil,List.flatten_cons,List.flatten_nil,List.append_nil,List.map_map,gB];refine uL λj hj=>?_;have hj:=List.mem_range.1 hj;simp only [Function.comp];rw [vI hj,vJ hj]
end
noncomputable section
def sN (f:Nat→Int):Nat→Int
 |0=>0
 |k+1=>sN f k+f k
theorem fK {f g:Nat→Int} : ∀ {n:Nat},(∀ k,k<n→f k=g k)→sN f n=sN g n
 |0,_=>rfl
 |n+1,h=>by rw [sN,sN,fK λk hk=>h k (by omega),h n (by omega)]
theorem aDm (f g:Nat→Int): ∀ n,sN (λk=>f k+g k) n=sN f n+sN g n
 |0=>rfl
 |n+1=>by rw [sN,sN,sN,aDm f g n];omega
theorem aDn (c:Int) (f:Nat→Int): ∀ n,sN (λk=>c*f k) n=c*sN f n
 |0=>by simp [sN]
 |n+1=>by rw [sN,sN,aDn c f n,Int.mul_add]
theorem xK: ∀ n,sN (λ_=>0) n=0
 |0=>rfl
 |n+1=>by rw [sN,xK n];rfl
theorem aAh {f:Nat→Int} {j:Nat} : ∀ {n:Nat},j<n→(∀ k,k<n→k≠j→f k=0)→sN f n=f j
 |0,h,_=>absurd h (Nat.not_lt_zero _)
 |n+1,h,hz=>by
  rw [sN];by_cases e:j=n
  ·subst e;rw [fK (g:=λ_=>0) λk hk=>hz k (by omega) (by omega),xK];omega
  ·rw [aAh (j:=j) (by omega) λk hk hj=>hz k (by omega) hj,hz n (by omega) (by omega)];omega
def Z0 (p x:Int):Prop:=x % p=0
theorem aIq {p x y:Int} (h:Z0 p x) (k:Z0 p y):Z0 p (x+y):=by unfold Z0 at*;rw [Int.add_emod,h,k];simp
theorem aDo {p x:Int} (c:Int) (h:Z0 p x):Z0 p (c*x):=by unfold Z0 at*;rw [Int.mul_emod,h];simp
theorem aJp {p:Int} {f g:Nat→Int} : ∀ {n:Nat},(∀ k,k<n→f k % p=g k % p)→sN f n % p=sN g n % p
 |0,_=>rfl
 |n+1,h=>by rw [sN,sN,Int.add_emod,aJp λk hk=>h k (by omega),h n (by omega),←Int.add_emod]
theorem aDp {p x y:Int} (h:x % p=y % p) (k:Z0 p x):Z0 p y:=by unfold Z0 at*;rw [←h];exact k
def dt (n:Nat) (f x:Nat→Int):Int:=sN (λk=>f k*x k) n
def Kr (p:Int) (m n:Nat) (F:Nat→Nat→Int) (x:Nat→Int):Prop:= ∀ i,i<m→Z0 p (dt n (F i) x)
theorem aIr {p:Int} {n:Nat} {f g x:Nat→Int} (h: ∀ k,k<n→f k % p=g k % p):dt n f x % p=dt n g x % p:=by
 unfold dt;refine aJp λk hk=>?_;rw [Int.mul_emod,h k hk,←Int.mul_emod]
theorem aOC {n:Nat} {f g x:Nat→Int} (c:Int):dt n (λk=>f k+c*g k) x=dt n f x+c*dt n g x:=by
 unfold dt;rw [←aDn,←aDm];refine fK λk hk=>?_;rw [Int.add_mul,Int.mul_assoc]
theorem aJq {n:Nat} {f x:Nat→Int} (c:Int):dt n (λk=>c*f k) x=c*dt n f x:=by
 unfold dt;rw [←aDn];refine fK λk hk=>?_;rw [Int.mul_assoc]
theorem aMK {p:Int} (hp:rJ p=true) {m n k r j:Nat} (hj:j<n) (hk:k<m) (hr:r<m) {F:Nat→Nat→Int} (hin:zT p m n F) (hrj:F r j≠0) (x:Nat→Int):Kr p m n (eP p F k r j) x↔Kr p m n F x:=by
 have hb:=dG hp;have hrb:=hin r j hr hj;have hiv:=aLc hp (r:=F r j) ⟨by omega,by omega⟩;generalize hs:aAD p (F r j)=s at*;have hrow: ∀ c,eP p F k r j k c=(F r c*s) % p:=by intro c;simp [eP,tI,pW,rK,hs]
 have hoth: ∀ i c,i≠k→eP p F k r j i c=((if i=r then F k c else F i c) - (if i=r then F k j else F i j)*eP p F k r j k c) % p:=by
  intro i c hi;simp [eP,tI,pW,rK,hi,hs]
 have e1:dt n (eP p F k r j k) x % p=(s*dt n (F r) x) % p:=by
  rw [←aJq];refine aIr λc hc=>?_;rw [hrow,Int.mul_comm,Int.emod_emod_of_dvd _ (Int.dvd_refl p)]
 have e2:dt n (F r) x % p=(F r j*dt n (eP p F k r j k) x) % p:=by
  rw [←aJq];refine aIr λc hc=>?_;rw [hrow,Int.mul_emod,Int.emod_emod_of_dvd _ (Int.dvd_refl p),←Int.mul_emod,show F r j*(F r c*s)=(F r j*s)*F r c by rw [Int.mul_comm (F r c),Int.mul_assoc],Int.mul_emod,hiv.2.2];simp
 have e3: ∀ i,i≠k→ ∀ G:Nat→Int,(∀ c,G c=if i=r then F k c else F i c)→dt n (eP p F k r j i) x % p=(dt n G x+ -(G j)*dt n (eP p F k r j k) x) % p:=by
  intro i hi G hG;rw [←aOC];refine aIr λc hc=>?_;rw [hoth i c hi,Int.emod_emod_of_dvd _ (Int.dvd_refl p),←hG,←hG,Int.neg_mul,Int.sub_eq_add_neg]
 constructor
 ·intro h;have hkk:=h k hk;have hrr:Z0 p (dt n (F r) x):=by unfold Z0;rw [e2];exact aDo _ hkk
  have key: ∀ i,i<m→i≠k→Z0 p (dt n (λc=>if i=r then F k c else F i c) x):=by
   intro i hi hik;have h1:=h i hi;unfold Z0 at h1;rw [e3 i hik (λc=>if i=r then F k c else F i c) (λc=>rfl)] at h1;have h2:=aIq (y:=(if i=r then F k j else F i j)*dt n (eP p F k r j k) x) h1 (aDo _ hkk);refine aDp (congrArg (· % p) ?_) h2;rw [Int.neg_mul];omega
  intro i hi;by_cases e:i=r
  ·subst e;exact hrr
  ·by_cases e4:i=k
   ·subst e4;have:=key r hr (λh=>e h.symm);simpa using this
   ·have:=key i hi e4;simpa [e] using this
 ·intro h;have hkk:Z0 p (dt n (eP p F k r j k) x):=by unfold Z0;rw [e1];exact aDo _ (h r hr)
  intro i hi;by_cases e:i=k
  ·subst e;exact hkk
  ·unfold Z0;rw [e3 i e (λc=>if i=r then F k c else F i c) (λc=>rfl)];refine aIq ?_ (aDo _ hkk);by_cases e4:i=r
   ·simp only [e4,if_true];exact h k hk
   ·simp only [e4,if_false];exact h i hi
theorem aJr {p:Int} (hp:rJ p=true) {m n:Nat} {F:Nat→Nat→Int} (hin:zT p m n F) (x:Nat→Int): ∀ t,t≤n→(Kr p m n (bW p m F t).1 x↔Kr p m n F x)
 |0,_=>Iff.rfl
 |t+1,ht=>by
  have ih:=aJr hp hin x t (by omega);have hin2:=uE (by have:=dG hp;omega:0<p) hin t;have hlen:= @rQ p m F t;show Kr p m n (fA p m (bW p m F t) t).1 x↔_;unfold fA;split
  ·exact ih
  ·rename_i h1;have hle:= @uD (bW p m F t).1 t (m - (bW p m F t).2.length) (bW p m F t).2.length;have hh:= @zU (bW p m F t).1 t (m - (bW p m F t).2.length) (bW p m F t).2.length (by omega);refine Iff.trans ?_ ih;exact aMK hp (by omega) (by omega) (by omega) hin2 hh x
def kx (F:Nat→Nat→Int) (L:List Nat) (k:Nat):Nat→Int:=λc=>if c=k then 1 else -(sN (λi=>if L[i]?.getD 0=c then F i k else 0) L.length)
theorem aOo {m n:Nat} {F:Nat→Nat→Int} {L:List Nat} (h:Red m n F L) {k:Nat} (hk:k<n) (hL: ∀ i,i<L.length→L[i]?.getD 0≠k) (g:Nat→Int):dt n g (kx F L k)=g k - sN (λi=>g (L[i]?.getD 0)*F i k) L.length:=by
 have key: ∀ a,a≤L.length→sN (λc=>g c*(if c=k then 1 else -(sN (λi=>if L[i]?.getD 0=c then F i k else 0) a))) n=g k - sN (λi=>g (L[i]?.getD 0)*F i k) a:=by
  intro a;induction a with
  |zero=>
   intro _;rw [aAh (j:=k) hk]
   ·rw [aQ rfl];simp [sN]
   ·intro c hc hck;rw [aR hck];simp [sN]
  |succ a ih=>
   intro ha;have ih:=ih (by omega);have hlt:=h.lt a (by omega);have hne:=hL a (by omega)
   have e:sN (λc=>g c*(if c=k then 1 else -(sN (λi=>if L[i]?.getD 0=c then F i k else 0) (a+1)))) n
     =sN (λc=>g c*(if c=k then 1 else -(sN (λi=>if L[i]?.getD 0=c then F i k else 0) a))+(if c=L[a]?.getD 0 then -(g c*F a k) else 0)) n:=by
    refine fK λc hc=>?_;by_cases e1:c=k
    ·rw [aQ e1,aQ e1,aR (by omega)];omega
    ·rw [aR e1,aR e1];simp only [sN];by_cases e2:c=L[a]?.getD 0
     ·rw [aQ e2,aQ e2.symm,Int.neg_add,Int.mul_add,Int.mul_neg (g c) (F a k)]
     ·rw [aR e2,aR (λh=>e2 h.symm)];simp
   rw [e,aDm,ih,aAh (j:=L[a]?.getD 0) hlt (λc _ hc=>aR hc),aQ rfl];simp only [sN];omega
 have:=key L.length (bC _);exact this
theorem aOD {p:Int} {m n:Nat} {F:Nat→Nat→Int} {L:List Nat} (h:Red m n F L) {k:Nat} (hk:k<n) (hL: ∀ i,i<L.length→L[i]?.getD 0≠k):Kr p m n F (kx F L k):=by
 intro i hi;rw [aOo h hk hL];rcases cX i L.length with hl|hl
 ·rw [aAh (j:=i) hl]
  ·rw [h.one i hl];unfold Z0;rw [Int.one_mul,Int.sub_self];simp
  ·intro t ht hti;rw [h.col t i ht hi (λe=>hti e.symm)];simp
 ·rw [h.low i k hl hi hk,fK (g:=λ_=>0) λt ht=>by rw [h.low i _ hl hi (h.lt t ht)];simp];rw [xK];unfold Z0;simp
theorem aFQ: ∀ {L M:List Nat},(∀ i k,i<k→k<L.length→L[i]?.getD 0<L[k]?.getD 0)→(∀ i k,i<k→k<M.length→M[i]?.getD 0<M[k]?.getD 0)→(∀ i,i<L.length→ ∃ j,j<M.length∧M[j]?.getD 0=L[i]?.getD 0)→(∀ j,j<M.length→ ∃ i,i<L.length∧L[i]?.getD 0=M[j]?.getD 0)→L=M
 | [],[],_,_,_,_=>rfl
 | [],y::M,_,_,_,h=>by obtain ⟨i,hi,_⟩:=h 0 (by simp);simp at hi
 |x::L,[],_,_,h,_=>by obtain ⟨i,hi,_⟩:=h 0 (by simp);simp at hi
 |x::L,y::M,hL,hM,h1,h2=>by
  have sL: ∀ i k,i<k→k<L.length→L[i]?.getD 0<L[k]?.getD 0:=λi k hik hk=>by have:=hL (i+1) (k+1) (by omega) (by simp;omega);simpa using this
  have sM: ∀ i k,i<k→k<M.length→M[i]?.getD 0<M[k]?.getD 0:=λi k hik hk=>by have:=hM (i+1) (k+1) (by omega) (by simp;omega);simpa using this
  have xL: ∀ i,i<L.length→x<L[i]?.getD 0:=λi hi=>by have:=hL 0 (i+1) (by omega) (by simp;omega);simpa using this
  have yM: ∀ i,i<M.length→y<M[i]?.getD 0:=λi hi=>by have:=hM 0 (i+1) (by omega) (by simp;omega);simpa using this
  have exy:x=y:=by
   obtain ⟨j,hj,e1⟩:=h1 0 (by simp);obtain ⟨i,hi,e2⟩:=h2 0 (by simp);simp at e1 e2
   have b1:y≤x:=by
    cases j with
    |zero=>simp at e1;omega
    |succ j=>simp at e1 hj;have:=yM j hj;omega
   have b2:x≤y:=by
    cases i with
    |zero=>simp at e2;omega
    |succ i=>simp at e2 hi;have:=xL i hi;omega
   omega
  subst exy;congr 1;refine aFQ sL sM (λi hi=>?_) (λj hj=>?_)
  ·obtain ⟨j,hj,e⟩:=h1 (i+1) (by simp;omega);simp at e;have:=xL i hi;cases j with
   |zero=>simp at e;omega
   |succ j=>simp at e hj;exact ⟨j,hj,e⟩
  ·obtain ⟨i,hi,e⟩:=h2 (j+1) (by simp;omega);simp at e;have:=yM j hj;cases i with
   |zero=>simp at e;omega
   |succ i=>simp at e hi;exact ⟨i,hi,e⟩
end
noncomputable section
def off (l:Nat→Nat):Nat→Nat
 |0=>0
 |k+1=>off l k+l k
theorem xM {l:Nat→Nat} {i k:Nat} (h:i≤k):off l i≤off l k:=by
 induction k with
 |zero=>have:i=0:=by omega
        subst this;exact bC _
 |succ k ih=>
  rcases cX k i with h'|h'
  ·have:i=k+1:=by omega
   subst this;exact bC _
  ·have:=ih h';show off l i≤off l k+l k;omega
theorem iN {l:Nat→Nat} {i k y:Nat} (hi:i<k) (hy:y<l i):off l i+y<off l k:=by
 have:= @xM l (i+1) k hi;have e:off l (i+1)=off l i+l i:=rfl;omega
theorem aAA {l:Nat→Nat} : ∀ {k x:Nat},x<off l k→ ∃ i y,i<k∧y<l i∧x=off l i+y
 |0,x,h=>absurd h (Nat.not_lt_zero _)
 |k+1,x,h=>by
  rcases cX x (off l k) with h'|h'
  ·obtain ⟨i,y,h1,h2,h3⟩:=aAA h';exact ⟨i,y,by omega,h2,h3⟩
  ·have e:off l (k+1)=off l k+l k:=rfl;exact ⟨k,x - off l k,by omega,by omega,by omega⟩
theorem aJs {l:Nat→Nat} {i j y z:Nat} (hy:y<l i) (hz:z<l j) (h:off l i+y=off l j+z):i=j∧y=z:=by
 have e1:off l (i+1)=off l i+l i:=rfl;have e2:off l (j+1)=off l j+l j:=rfl;rcases Nat.lt_trichotomy i j with h1|h1|h1
 ·have:= @xM l (i+1) j h1;omega
 ·subst h1;exact ⟨rfl,by omega⟩
 ·have:= @xM l (j+1) i h1;omega
def cat (l:Nat→Nat) (f:Nat→Nat→Int):Nat→List Int
 |0=>[]
 |k+1=>cat l f k++(List.range (l k)).map (f k)
theorem fL (l:Nat→Nat) (f:Nat→Nat→Int): ∀ k,(cat l f k).length=off l k
 |0=>rfl
 |k+1=>by rw [cat,off,List.length_append,fL l f k];simp
theorem lK {l:Nat→Nat} (f:Nat→Nat→Int): ∀ {k i y:Nat},i<k→y<l i→(cat l f k)[off l i+y]? =some (f i y)
 |0,i,y,h,_=>absurd h (Nat.not_lt_zero _)
 |k+1,i,y,h,hy=>by
  rw [cat];by_cases e:i=k
  ·subst e;rw [List.getElem?_append_right (by rw [fL];omega),fL,Nat.add_sub_cancel_left];simp [hy]
  ·rw [List.getElem?_append_left (by rw [fL];exact iN (by omega) hy)];exact lK f (by omega) hy
theorem xN {l:Nat→Nat} {f:Nat→Nat→Int} {k:Nat} {v:List Int} (hv:v.length=off l k) (h: ∀ i y,i<k→y<l i→v[off l i+y]? =some (f i y)):v=cat l f k:=by
 refine List.ext_getElem (by rw [fL,hv]) λx h1 h2=>?_;obtain ⟨i,y,hi,hy,rfl⟩:=aAA (hv▸h1);have a:=h i y hi hy;have b:=lK f hi hy;rw [kR h1] at a;rw [kR h2] at b;exact (Option.some.inj a).trans (Option.some.inj b).symm
theorem wI {l:Nat→Nat} {f g:Nat→Nat→Int} {k:Nat} (h: ∀ i y,i<k→y<l i→f i y=g i y):cat l f k=cat l g k:=
 xN (fL l f k) λi y hi hy=>by rw [lK f hi hy,h i y hi hy]
theorem aGQ {l:Nat→Nat} {f:Nat→Nat→Int} {k i y:Nat} (hi:i<k) (hy:y<l i) (v:Int):(cat l f k).set (off l i+y) v=cat l (λa b=>if a=i∧b=y then v else f a b) k:=by
 refine xN (by rw [List.length_set,fL]) λa b ha hb=>?_;rw [List.getElem?_set];by_cases e:off l i+y=off l a+b
 ·obtain ⟨rfl,rfl⟩:=aJs hy hb e;rw [aQ rfl,aQ (by rw [fL];exact iN hi hy),aQ ⟨rfl,rfl⟩]
 ·rw [aR e,aR (by rintro ⟨rfl,rfl⟩;exact e rfl),lK f ha hb]
theorem aHq (l:Nat→Nat) (k:Nat):List.replicate (off l k) (0:Int)=cat l (λ_ _=>0) k:=xN (by simp) λi y hi hy=>by simp [iN hi hy]
theorem aHr {l:Nat→Nat} {f:Nat→Nat→Int} {k:Nat} : ∀ {n:Nat},k<n→((cat l f n).drop (off l k)).take (l k)=(List.range (l k)).map (f k):=by
 intro n hk;refine List.ext_getElem ?_ λx h1 h2=>?_
 ·have:= @xM l (k+1) n hk;have e:off l (k+1)=off l k+l k:=rfl;simp [fL];omega
 ·have hx:x<l k:=by simpa using h2
  rw [List.getElem_take,List.getElem_drop];have:=lK f hk hx;rw [kR (by rw [fL];exact iN hk hx)] at this;simp [Option.some.inj this]
theorem aML {r c:Nat} {g:Nat→Int} {F:Nat→Nat→Int} (h: ∀ y,y<r*c→g y=F (y / c) (y % c)):(List.range (r*c)).map g=bJ r c F:=uL λy hy=>h y (List.mem_range.1 hy)
theorem aAi {r c y:Nat} (h:y<r*c):y / c<r∧y % c<c:=by
 have hc:0<c:=by rcases Nat.eq_zero_or_pos c with rfl|h';simp at h;exact h'
 exact ⟨Nat.div_lt_of_lt_mul (by rw [Nat.mul_comm];exact h),Nat.mod_lt _ hc⟩
theorem sX {c y:Nat} :y / c*c+y % c=y:=by rw [Nat.mul_comm];exact Nat.div_add_mod y c
theorem aMM {n:Nat} {L:List Nat} (hinc: ∀ i k,i<k→k<L.length→L[i]?.getD 0<L[k]?.getD 0) (hlt: ∀ x∈L,x<n):(sO n L).length +L.length=n:=by
 have key: ∀ t,((List.range t).filter λk=> !L.contains k).length +((List.range t).filter λk=>L.contains k).length=t:=by
  intro t;induction t with
  |zero=>simp
  |succ t ih=>
   rw [List.range_succ,List.filter_append,List.filter_append,List.length_append,List.length_append];cases h:L.contains t <;> simp only [List.filter_cons,List.filter_nil,h,dX,Bool.not_false,eD,if_true,if_false,List.length_cons,List.length_nil] <;> omega
 have e:(List.range n).filter (λk=>L.contains k)=L:=by
  have hL: ∀ i,i<L.length→L[i]?.getD 0<n:=λi hi=>hlt _ (by rw [kR hi];exact List.getElem_mem hi);have hS:((List.range n).filter λk=>L.contains k).Pairwise (· < ·):=List.Pairwise.filter _ List.pairwise_lt_range;refine aFQ (λi k hik hk=>?_) hinc (λi hi=>?_) (λj hj=>?_)
  ·have:=List.pairwise_iff_getElem.1 hS i k (by omega) hk hik;rw [kR (by omega),kR hk];exact this
  ·have hm:=List.getElem_mem hi;rw [List.mem_filter] at hm;have h2:=List.contains_iff_mem.1 hm.2;obtain ⟨j,hj,he⟩:=List.mem_iff_getElem.1 h2;refine ⟨j,hj,?_⟩;rw [kR hj,kR hi];exact he
  ·have hm:L[j]∈(List.range n).filter λk=>L.contains k:=by
    rw [List.mem_filter];exact ⟨List.mem_range.2 (hlt _ (List.getElem_mem hj)),List.contains_iff_mem.2 (List.getElem_mem hj)⟩
   obtain ⟨i,hi,he⟩:=List.mem_iff_getElem.1 hm;refine ⟨i,hi,?_⟩;rw [kR hj,kR hi];exact he
 have:=key n;rw [e] at this;exact this
end
noncomputable section
def sV (r:Rp) (i:Nat):Nat:=(r.q.src[i]?.getD 0).toNat
def tV (r:Rp) (i:Nat):Nat:=(r.q.tgt[i]?.getD 0).toNat
def aF (r:Rp) (i:Nat):Nat→Nat→Int:=λj k=>(r.maps[i]?.getD ⟨0,0,[]⟩).cells[j*dN r (sV r i)+k]?.getD 0
structure Rv (r:Rp):Prop where
 hp:rJ r.p=true
 n5:r.dims.length≤5
 d: ∀ k,k<r.dims.length→r.dims[k]?.getD 0=(dN r k:Int)∧dN r k≤4
 e6:r.q.src.length≤6
 tl:r.q.tgt.length=r.q.src.length
 ml:r.maps.length=r.q.src.length
 s: ∀ i,i<r.q.src.length→r.q.src[i]?.getD 0=(sV r i:Int)∧sV r i<r.dims.length
 t: ∀ i,i<r.q.src.length→r.q.tgt[i]?.getD 0=(tV r i:Int)∧tV r i<r.dims.length
 m: ∀ i,i<r.q.src.length→r.maps[i]?.getD ⟨0,0,[]⟩=⟨dN r (tV r i),dN r (sV r i),bJ (dN r (tV r i)) (dN r (sV r i)) (aF r i)⟩∧zT r.p (dN r (tV r i)) (dN r (sV r i)) (aF r i)
theorem aNf {r:Rp} (h:rW r=true):Rv r:=by
 obtain ⟨hp,hD,hml,hM⟩:=yX h;obtain ⟨hQ,hd1,hd2,_⟩:=nA hD;obtain ⟨n,hn,hn1,hn5,hq1,hq2,hq3,hq4⟩:=yU hQ;have hdl:r.dims.length=n:=by omega
 have hd: ∀ k,k<r.dims.length→r.dims[k]?.getD 0=(dN r k:Int)∧dN r k≤4:=by
  intro k hk;have:=hd2 _ (qZ 0 hk);unfold dN;omega
 have hs: ∀ i,i<r.q.src.length→r.q.src[i]?.getD 0=(sV r i:Int)∧sV r i<r.dims.length:=by
  intro i hi;have:=hq3 _ (qZ 0 hi);unfold sV;omega
 have ht: ∀ i,i<r.q.src.length→r.q.tgt[i]?.getD 0=(tV r i:Int)∧tV r i<r.dims.length:=by
  intro i hi;have:=hq4 _ (qZ 0 (show i<r.q.tgt.length by omega));unfold tV;omega
 refine ⟨hp,by omega,hd,hq2,by omega,hml,hs,ht,λi hi=>?_⟩;obtain ⟨g1,g2,g3⟩:=hM i (by omega);rw [show (r.q.src[i]?.getD 0).toNat=sV r i from rfl,(hd _ (hs i hi).2).1] at g2;rw [show (r.q.tgt[i]?.getD 0).toNat=tV r i from rfl,(hd _ (ht i hi).2).1] at g3;obtain ⟨_,a,b,F,ha,hb,he,hF⟩:=aIl g1;have ea:a=dN r (tV r i):=by rw [he] at g3;simp only at g3;omega
 have eb:b=dN r (sV r i):=by rw [he] at g2;simp only at g2;omega
 have em: ∀ j k,j<a→k<b→aF r i j k=F j k:=by
  intro j k hj hk;unfold aF;rw [he,←eb];simp only;rw [iW F hj hk];rfl
 subst ea;subst eb;rw [he];refine ⟨?_,λj k hj hk=>by rw [em j k hj hk];exact hF j k hj hk⟩;rw [bS em]
structure Fit (a b:Rp):Prop where
 ra:Rv a
 rb:Rv b
 pe:b.p=a.p
 qe:b.q=a.q
 ne:b.dims.length=a.dims.length
theorem aOE {a b:Rp} (h1:rW a=true) (h2:rW b=true) (hp:a.p=b.p) (hq:a.q=b.q):Fit a b:=by
 refine ⟨aNf h1,aNf h2,hp.symm,hq.symm,?_⟩;have e1:=(nA (yX h1).2.1).2.1;have e2:=(nA (yX h2).2.1).2.1;rw [hq] at e1;omega
theorem Fit.sV {a b:Rp} (h:Fit a b) (i:Nat):sV b i=sV a i:=by unfold Proofs.YtpppcfhgaehcjaaGreatDoor.sV;rw [h.qe]
theorem Fit.tV {a b:Rp} (h:Fit a b) (i:Nat):tV b i=tV a i:=by unfold Proofs.YtpppcfhgaehcjaaGreatDoor.tV;rw [h.qe]
def lV (a b:Rp) (v:Nat):Nat:=dN b v*dN a v
def lE (a b:Rp) (i:Nat):Nat:=dN b (tV a i)*dN a (sV a i)
theorem aIs {l:Nat→Nat} {c:Nat} : ∀ {k:Nat},(∀ i,i<k→l i≤c)→off l k≤c*k
 |0,_=>Nat.zero_le _
 |k+1,h=>by
  have h1:=aIs (c:=c) (k:=k) λi hi=>h i (by omega);have h2:=h k (by omega);show off l k+l k≤c*(k+1);rw [Nat.mul_succ];omega
theorem Fit.lV {a b:Rp} (h:Fit a b) {v:Nat} (hv:v<a.dims.length):lV a b v≤16:=Nat.mul_le_mul (h.rb.d v (by rw [h.ne];exact hv)).2 (h.ra.d v hv).2
theorem Fit.lE {a b:Rp} (h:Fit a b) {i:Nat} (hi:i<a.q.src.length):lE a b i≤16:=Nat.mul_le_mul (h.rb.d _ (by rw [h.ne];exact (h.ra.t i hi).2)).2 (h.ra.d _ (h.ra.s i hi).2).2
theorem Fit.offV {a b:Rp} (h:Fit a b) {v:Nat} (hv:v≤a.dims.length):off (Proofs.YtpppcfhgaehcjaaGreatDoor.lV a b) v≤80:=by
 have:=aIs (l:=Proofs.YtpppcfhgaehcjaaGreatDoor.lV a b) (c:=16) (k:=v) λi hi=>h.lV (by omega);have:=h.ra.n5;omega
theorem Fit.offE {a b:Rp} (h:Fit a b) {i:Nat} (hi:i≤a.q.src.length):off (Proofs.YtpppcfhgaehcjaaGreatDoor.lE a b) i≤96:=by
 have:=aIs (l:=Proofs.YtpppcfhgaehcjaaGreatDoor.lE a b) (c:=16) (k:=i) λj hj=>h.lE (by omega);have:=h.ra.e6;omega
theorem nR {α:Type} {f:Nat→α} {n k:Nat} (h:k<n):cP ((List.range n).map f) (k:Int)=some (f k):=by rw [dS (by simp;exact h)];simp
theorem rE {α:Type} {f:Nat→α} {k:Nat} :(List.range k).map f++[f k]=(List.range (k+1)).map f:=by rw [List.range_succ,List.map_append];rfl
theorem aGR {a b:Rp} (h:Fit a b):nP a b=some ((List.range a.dims.length).map λv=>(⟨dN b v,dN a v,bJ (dN b v) (dN a v) λ_ _=>0⟩:Mt)):=by
 have n5:=h.ra.n5;unfold nP;rw [cU (r:=(List.range a.dims.length).map λv=>(⟨dN b v,dN a v,bJ (dN b v) (dN a v) λ_ _=>0⟩:Mt)) (λk=>((List.range k).map λv=>(⟨dN b v,dN a v,bJ (dN b v) (dN a v) λ_ _=>0⟩:Mt),(k:Int))) a.dims.length (by simp) (λk hk=>?_) (λ_=>?_),aA]
 ·have hkb:k<b.dims.length:=by rw [h.ne];exact hk
  unfold pL;simp only;rw [jT hk,aM,qM 0 hk,aA,qM 0 hkb,aA,(h.ra.d k hk).1,(h.rb.d k hkb).1,aGN (sq (h.rb.d k hkb).2 (h.ra.d k hk).2),aA,aZ (by simp;omega),aM,bN hk (by omega),rE (f:=λv=>(⟨dN b v,dN a v,bJ (dN b v) (dN a v) λ_ _=>0⟩:Mt))]
 ·unfold pL;simp only;rw [mD (bC _),aU]
theorem aDq {a b:Rp} (h:Fit a b):kA a b=some ((List.range a.q.src.length).map λi=>(⟨dN b (tV a i),dN a (sV a i),bJ (dN b (tV a i)) (dN a (sV a i)) λ_ _=>0⟩:Mt)):=by
 have e6:=h.ra.e6;have tl:=h.ra.tl;unfold kA;rw [cU (r:=(List.range a.q.src.length).map λi=>(⟨dN b (tV a i),dN a (sV a i),bJ (dN b (tV a i)) (dN a (sV a i)) λ_ _=>0⟩:Mt)) (λk=>((List.range k).map λi=>(⟨dN b (tV a i),dN a (sV a i),bJ (dN b (tV a i)) (dN a (sV a i)) λ_ _=>0⟩:Mt),(k:Int))) a.q.src.length (by simp) (λk hk=>?_) (λ_=>?_),aA]
 ·obtain ⟨s1,s2⟩:=h.ra.s k hk;obtain ⟨t1,t2⟩:=h.ra.t k hk;have t3:tV a k<b.dims.length:=by rw [h.ne];exact t2
  unfold gU;simp only;rw [jT hk,aM,qM 0 hk,aA,qM 0 (by omega),aA,t1,qM 0 t3,aA,s1,qM 0 s2,aA,(h.ra.d _ s2).1,(h.rb.d _ t3).1,aGN (sq (h.rb.d _ t3).2 (h.ra.d _ s2).2),aA,aZ (by simp;omega),aM,bN hk (by omega),rE (f:=λi=>(⟨dN b (tV a i),dN a (sV a i),bJ (dN b (tV a i)) (dN a (sV a i)) λ_ _=>0⟩:Mt))]
 ·unfold gU;simp only;rw [mD (bC _),aU]
theorem aIt {k:Nat} {r c:Nat→Int} {l:Nat→Nat} {f:Nat→Nat→Int} (hk:k≤1048576) (hl:off l k≤1048576):jE ((List.range k).map λv=>(⟨r v,c v,(List.range (l v)).map (f v)⟩:Mt))=some (cat l f k):=by
 unfold jE;rw [cU (r:=cat l f k) (λj=>(cat l f j,(j:Int))) k (by simp [cat]) (λj hj=>?_) (λ_=>?_),aA]
 ·unfold rB;simp only;have h1:= @xM l (j+1) k hj;have e:off l (j+1)=off l j+l j:=rfl;rw [dM,List.length_range,jT hj,aM,nR hj,aA];simp only;rw [fL,dM,List.length_range,aZ (by omega),aM,bN hj (by omega)];rfl
 ·unfold rB;simp only;rw [dM,List.length_range,mD (bC _),aU]
theorem aHs {k:Nat} {r c:Nat→Int} {z:Nat→List Int} {l:Nat→Nat} {f:Nat→Nat→Int} (hk:k≤1048576) (hl:off l k≤1048576) (hz: ∀ v,v<k→(z v).length=l v):lZ ((List.range k).map λv=>(⟨r v,c v,z v⟩:Mt)) (cat l f k)=some ((List.range k).map λv=>(⟨r v,c v,(List.range (l v)).map (f v)⟩:Mt)):=by
 unfold lZ;rw [cU (r:=(List.range k).map λv=>(⟨r v,c v,(List.range (l v)).map (f v)⟩:Mt)) (λj=>((cat l f k).drop (off l j),(List.range j).map (λv=>(⟨r v,c v,(List.range (l v)).map (f v)⟩:Mt)),(j:Int))) k (by simp [off]) (λj hj=>?_) (λ_=>?_),aA]
 ·unfold nQ;simp only;have h1:= @xM l (j+1) k hj;have e:off l (j+1)=off l j+l j:=rfl;rw [dM,List.length_range,jT hj,aM,nR hj,aA];simp only;rw [hz j hj,List.length_drop,fL];simp only [dK,Int.toNat_zero,List.drop_zero,Nat.sub_zero];rw [aHr hj];unfold zW;rw [aZ (by omega:(0:Int)≤((l j:Nat):Int)),aZ (by omega:((l j:Nat):Int)≤((off l k - off l j:Nat):Int))];simp only [decide_true,Bool.and_self,aM,Int.le_refl];have q1:decide (((List.range (l j)).map (f j)).length ≤1048576)=true:=aZ (by simp only [dM,List.length_range];omega);have q2:decide (((List.range j).map λv=>(⟨r v,c v,(List.range (l v)).map (f v)⟩:Mt)).length +1≤4294967296)=true:=aZ (by simp only [dM,List.length_range];omega);simp only [q1,Bool.and_self,aM,aA];rw [q2,aM,bN hj (by omega),rE (f:=λv=>(⟨r v,c v,(List.range (l v)).map (f v)⟩:Mt)),List.drop_drop,List.take_of_length_le (by simp [fL];omega)];rfl
 ·unfold nQ;simp only;rw [dM,List.length_range,mD (bC _),aU]
theorem aOF {p:Int} (hp:rJ p=true) {r c:Nat} (hN:r*c≤1048576) {r' c':Int} {F G:Nat→Nat→Int} (hF:zT p r c F) (hG:zT p r c G) {k:Int} (hk:0≤k∧k≤5):
  vA p ⟨r,c,bJ r c F⟩ k ⟨r',c',bJ r c G⟩=some ⟨r,c,bJ r c λi j=>(F i j+k*G i j) % p⟩:=by
 have e1: ∀ H:Nat→Nat→Int,bJ r c H=bJ 1 (r*c) (λ_ y=>H (y / c) (y % c)):=by
  intro H;unfold bJ;rw [Nat.one_mul];refine uL λy hy=>?_;rw [Nat.mod_eq_of_lt (List.mem_range.1 hy)]
 have e2:bJ r c G=gB (r*c) (λy=>G (y / c) (y % c)):=rfl;unfold vA gO zW;simp only;rw [dF,aZ hN,aM,aA,aA];simp only;have:=aDg hp (r:=1) (c:=r*c) (i:=0) hN (by omega) (F:=λ_ y=>F (y / c) (y % c)) (g:=λy=>G (y / c) (y % c)) hk (λy hy=>hF _ _ (aAi hy).1 (aAi hy).2) (λy hy=>hG _ _ (aAi hy).1 (aAi hy).2);rw [Nat.zero_mul,←e2,←e1] at this;rw [dF,this,aA,dF,Nat.one_mul,aZ rfl,aM,e1 (λi j=>(F i j+k*G i j) % p)];congr 2;refine bS λa y ha hy=>?_;unfold aDf;rw [aQ (by omega)]
def aDr (a b:Rp) (P:Nat→Nat→Nat→Int) (i:Nat):Nat→Nat→Int:=λr k=>
 (tU a.p (dN b (sV a i)) (aF b i) (P (sV a i)) r k+(a.p - 1)*tU a.p (dN a (tV a i)) (P (tV a i)) (aF a i) r k) % a.p
theorem aGS {a b:Rp} (h:Fit a b) {P:Nat→Nat→Nat→Int} (hP: ∀ v,v<a.dims.length→zT a.p (dN b v) (dN a v) (P v)):
  mI a b ((List.range a.dims.length).map λv=>(⟨dN b v,dN a v,bJ (dN b v) (dN a v) (P v)⟩:Mt))=some ((List.range a.q.src.length).map λi=>(⟨dN b (tV a i),dN a (sV a i),bJ (dN b (tV a i)) (dN a (sV a i)) (aDr a b P i)⟩:Mt)):=by
 have e6:=h.ra.e6;have tl:=h.ra.tl;have hb:=dG h.ra.hp;unfold mI;rw [cU (r:=(List.range a.q.src.length).map λi=>(⟨dN b (tV a i),dN a (sV a i),bJ (dN b (tV a i)) (dN a (sV a i)) (aDr a b P i)⟩:Mt)) (λk=>((List.range k).map λi=>(⟨dN b (tV a i),dN a (sV a i),bJ (dN b (tV a i)) (dN a (sV a i)) (aDr a b P i)⟩:Mt),(k:Int))) a.q.src.length (by simp) (λk hk=>?_) (λ_=>?_),aA]
 ·obtain ⟨s1,s2⟩:=h.ra.s k hk;obtain ⟨t1,t2⟩:=h.ra.t k hk;have s3:sV a k<b.dims.length:=by rw [h.ne];exact s2
  have t3:tV a k<b.dims.length:=by rw [h.ne];exact t2
  have hkb:k<b.q.src.length:=by rw [h.qe];exact hk
  obtain ⟨m1,m2⟩:=h.ra.m k hk;obtain ⟨g1,g2⟩:=h.rb.m k hkb;rw [h.sV,h.tV] at g1 g2;rw [h.pe] at g2;have da:=h.ra.d _ s2;have da2:=h.ra.d _ t2;have db:=h.rb.d _ s3;have db2:=h.rb.d _ t3;unfold jF;simp only;rw [jT hk,aM,qM 0 hk,aA,qM ⟨0,0,[]⟩ (by rw [h.rb.ml];exact hkb),aA,g1,s1,nR s2,aA];rw [aJn h.ra.hp (sq db2.2 db.2) (sq db.2 da.2) (sq db2.2 da.2) (by omega) (by omega) (by omega) g2 (hP _ s2),aA,qM 0 (by omega),aA,t1,nR t2,aA,qM ⟨0,0,[]⟩ (by rw [h.ra.ml];exact hk),aA,m1];rw [aJn h.ra.hp (sq db2.2 da2.2) (sq da2.2 da.2) (sq db2.2 da.2) (by omega) (by omega) (by omega) (hP _ t2) m2,aA,cC (by omega)];rw [aOF h.ra.hp (sq db2.2 da.2) (aJm h.ra.hp _ _ _ _ _) (aJm h.ra.hp _ _ _ _ _) (by omega),aA,aZ (by simp;omega),aM,bN hk (by omega)];have:=rE (f:=λi=>(⟨dN b (tV a i),dN a (sV a i),bJ (dN b (tV a i)) (dN a (sV a i)) (aDr a b P i)⟩:Mt)) (k:=k);rw [←this];rfl
 ·unfold jF;simp only;rw [mD (bC _),aU]
theorem aEU {R N:Nat} (hN:R*N≤1048576) (h1:R≤1048576) (h2:N≤1048576) (M:Nat→Nat→Int):lH R ((List.range N).map λk=>gB R λi=>M i k)=some ⟨R,N,bJ R N M⟩:=by
 unfold lH;rw [dM,List.length_range,aGN hN,aA];simp only;rw [cU (r:=bJ R N M) (λk=>(bJ R N (λi j=>if j<k then M i j else 0),(k:Int))) N (by simp) (λk hk=>?_) (λ_=>?_),aA]
 ·unfold iJ;simp only;rw [dM,List.length_range,jT hk,aM,nR hk,aA];rw [cU (r:=bJ R N (λi j=>if j<k+1 then M i j else 0)) (λx=>(bJ R N (λi j=>if j<k∨(j=k∧i<x) then M i j else 0),(x:Int))) R (by simp) (λx hx=>?_) (λ_=>?_),aA,bN hk (by omega)]
  ·unfold iI;simp only;rw [dV,jT hx,aM,xG _ hx,aA,atT hN hx hk,aA,aKn hN hx hk,bN hx (by omega)];congr 3;refine bS λi j hi hj=>?_;simp only [aBl];by_cases e:i=x∧j=k
   ·rw [aQ e,aQ (by omega),e.1,e.2]
   ·rw [aR e];by_cases e2:j<k∨j=k∧i<x
    ·rw [aQ e2,aQ (by omega)]
    ·rw [aR e2,aR (by omega)]
  ·unfold iI;simp only;rw [dV,mD (bC _),aU];congr 2;refine bS λi j hi hj=>?_;by_cases e:j<k+1
   ·rw [aQ e,aQ (by omega)]
   ·rw [aR e,aR (by omega)]
 ·unfold iJ;simp only;rw [dM,List.length_range,mD (bC _),aU];congr 2;exact bS λi j hi hj=>by rw [aQ hj]
def eF (a b:Rp) (i r k v j l:Nat):Int:=((if sV a i=v∧k=l then aF b i r j else 0) - (if tV a i=v∧r=j then aF a i l k else 0)) % a.p
def e2 (a b:Rp) (i y v z:Nat):Int:=eF a b i (y / dN a (sV a i)) (y % dN a (sV a i)) v (z / dN a v) (z % dN a v)
def mE (a b:Rp):Nat→Nat→Int:=λx k=>(cat (lE a b) (λi y=>(cat (lV a b) (e2 a b i y) a.dims.length)[k]?.getD 0) a.q.src.length)[x]?.getD 0
def nE (a b:Rp):Nat:=off (lE a b) a.q.src.length
def nV (a b:Rp):Nat:=off (lV a b) a.dims.length
theorem aFR {a b:Rp} (h:Fit a b):zT a.p (nE a b) (nV a b) (mE a b):=by
 intro x k hx hk;obtain ⟨i,y,hi,hy,rfl⟩:=aAA hx;obtain ⟨v,z,hv,hz,rfl⟩:=aAA hk;unfold mE;rw [lK _ hi hy,kG,lK _ hv hz,kG];exact rA h.ra.hp
theorem aBV (F G:Nat→Nat→Int) (i j:Nat): ∀ k,yB F G i j k=sN (λt=>F i t*G t j) k
 |0=>rfl
 |k+1=>by rw [yB,sN,aBV F G i j k]
def unP (a:Rp) (v0 z0:Nat):Nat→Nat→Nat→Int:=λv j l=>if v=v0∧j*dN a v+l=z0 then 1 else 0
theorem aOG {a:Rp} (hp:rJ a.p=true) (v0 z0 v m n:Nat):zT a.p m n (unP a v0 z0 v):=by
 have hb:=dG hp;intro i j _ _;unfold unP;split <;> omega
theorem aHt {a b:Rp} (h:Fit a b) {v0 z0 i r k:Nat} (hv:v0<a.dims.length) (hz:z0<lV a b v0) (hi:i<a.q.src.length) (hr:r<dN b (tV a i)) (hk:k<dN a (sV a i)):
  aDr a b (unP a v0 z0) i r k=eF a b i r k v0 (z0 / dN a v0) (z0 % dN a v0):=by
 have hb:=dG h.ra.hp;obtain ⟨hj0,hl0⟩:=aAi hz
 have key: ∀ v j l,l<dN a v→(v=v0∧j*dN a v+l=z0↔v=v0∧j=z0 / dN a v0∧l=z0 % dN a v0):=by
  intro v j l hl;constructor
  ·rintro ⟨rfl,rfl⟩;exact ⟨rfl,(vI hl).symm,(vJ hl).symm⟩
  ·rintro ⟨rfl,rfl,rfl⟩;exact ⟨rfl,sX⟩
 have e1:tU a.p (dN b (sV a i)) (aF b i) (unP a v0 z0 (sV a i)) r k=(if sV a i=v0∧k=z0 % dN a v0 then aF b i r (z0 / dN a v0) else 0) % a.p:=by
  unfold tU;rw [aBV];by_cases e:sV a i=v0∧k=z0 % dN a v0
  ·rw [aQ e,aAh (j:=z0 / dN a v0) (by rw [e.1];exact hj0)]
   ·unfold unP;rw [aQ ((key _ _ _ hk).2 ⟨e.1,rfl,e.2⟩),Int.mul_one]
   ·intro t ht htj;unfold unP;rw [aR λg=>htj ((key _ _ _ hk).1 g).2.1,Int.mul_zero]
  ·rw [aR e,fK (g:=λ_=>0),xK];intro t ht;unfold unP;rw [aR λg=>e ⟨((key _ _ _ hk).1 g).1,((key _ _ _ hk).1 g).2.2⟩,Int.mul_zero]
 have e2:tU a.p (dN a (tV a i)) (unP a v0 z0 (tV a i)) (aF a i) r k=(if tV a i=v0∧r=z0 / dN a v0 then aF a i (z0 % dN a v0) k else 0) % a.p:=by
  unfold tU;rw [aBV];by_cases e:tV a i=v0∧r=z0 / dN a v0
  ·rw [aQ e,aAh (j:=z0 % dN a v0) (by rw [e.1];exact hl0)]
   ·unfold unP;rw [aQ ((key _ _ _ (by rw [e.1];exact hl0)).2 ⟨e.1,e.2,rfl⟩),Int.one_mul]
   ·intro t ht htj;unfold unP;rw [aR λg=>htj ((key _ _ _ ht).1 g).2.2,Int.zero_mul]
  ·rw [aR e,fK (g:=λ_=>0),xK];intro t ht;unfold unP;rw [aR λg=>e ⟨((key _ _ _ ht).1 g).1,((key _ _ _ ht).1 g).2.1⟩,Int.zero_mul]
 unfold aDr eF;rw [e1,e2];generalize (if sV a i=v0∧k=z0 % dN a v0 then aF b i r (z0 / dN a v0) else 0)=x;generalize (if tV a i=v0∧r=z0 / dN a v0 then aF a i (z0 % dN a v0) k else 0)=y;rw [show x % a.p+(a.p - 1)*(y % a.p)=(x % a.p - y % a.p)+a.p*(y % a.p) by rw [Int.sub_mul];omega,Int.add_mul_emod_self_left];exact (Int.sub_emod x y a.p).symm
theorem xO {a b:Rp} (h:Fit a b):gH a b=some ⟨nE a b,nV a b,bJ (nE a b) (nV a b) (mE a b)⟩:=by
 have n5:=h.ra.n5;have e6:=h.ra.e6;have bV:=h.offV (bC _);have bE:=h.offE (bC _);unfold gH;rw [aGR h,aA];have z1:jE ((List.range a.dims.length).map λv=>(⟨dN b v,dN a v,bJ (dN b v) (dN a v) λ_ _=>0⟩:Mt))=some (cat (lV a b) (λ_ _=>0) a.dims.length):=aIt (l:=lV a b) (f:=λ_ _=>0) (by omega) (by omega);have z2:jE ((List.range a.q.src.length).map λi=>(⟨dN b (tV a i),dN a (sV a i),bJ (dN b (tV a i)) (dN a (sV a i)) λ_ _=>0⟩:Mt))=some (cat (lE a b) (λ_ _=>0) a.q.src.length):=aIt (l:=lE a b) (f:=λ_ _=>0) (by omega) (by omega);rw [z1,aA];rw [cU (r:=(List.range (nV a b)).map λk=>gB (nE a b) λx=>mE a b x k) (λk=>((List.range k).map (λk=>gB (nE a b) λx=>mE a b x k),(k:Int))) (nV a b) (by simp) (λk hk=>?_) (λ_=>?_),aA,aDq h,aA,z2,aA,fL]
 ·have:=aEU (R:=nE a b) (N:=nV a b) (Nat.le_trans (Nat.mul_le_mul bE bV) (by decide)) (by unfold nE;omega) (by unfold nV;omega) (mE a b);unfold nE at this ⊢;rw [this,aA]
 ·obtain ⟨v0,z0,hv0,hz0,ek⟩:=aAA hk;unfold jG;simp only [fL];rw [show off (lV a b) a.dims.length=nV a b from rfl,jT hk,aM,aZ (by omega),aZ (by unfold nV;omega:((nV a b:Nat):Int)≤1048576),Bool.and_self,aM,dK,dK,dS (by simp;exact hk),aA]
  have eu:(List.replicate (nV a b) (0:Int)).set k 1=cat (lV a b) (λv z=>if v=v0∧z=z0 then 1 else 0) a.dims.length:=by
   unfold nV;rw [aHq,ek,aGQ hv0 hz0]
  rw [eu,aHs (l:=lV a b) (r:=λv=>(dN b v:Int)) (c:=λv=>(dN a v:Int)) (z:=λv=>bJ (dN b v) (dN a v) λ_ _=>0) (by omega) (by omega) (λv _=>dF _ _ _),aA]
  have eb:((List.range a.dims.length).map λv=>(⟨dN b v,dN a v,(List.range (lV a b v)).map (λz=>if v=v0∧z=z0 then (1:Int) else 0)⟩:Mt))=(List.range a.dims.length).map λv=>(⟨dN b v,dN a v,bJ (dN b v) (dN a v) (unP a v0 z0 v)⟩:Mt):=by
   refine uL λv hv=>?_;congr 1;refine aML λy hy=>?_;unfold unP;rw [sX]
  rw [eb,aGS h (λv _=>aOG h.ra.hp _ _ _ _ _),aA];have ef:jE ((List.range a.q.src.length).map λi=>(⟨dN b (tV a i),dN a (sV a i),bJ (dN b (tV a i)) (dN a (sV a i)) (aDr a b (unP a v0 z0) i)⟩:Mt))=some (cat (lE a b) (λi y=>aDr a b (unP a v0 z0) i (y / dN a (sV a i)) (y % dN a (sV a i))) a.q.src.length):=aIt (l:=lE a b) (f:=λi y=>aDr a b (unP a v0 z0) i (y / dN a (sV a i)) (y % dN a (sV a i))) (by omega) (by omega);rw [ef,aA,aZ (by simp;unfold nV at hk;omega),aM,bN hk (by unfold nV;omega),←rE (f:=λk=>gB (nE a b) λx=>mE a b x k)];congr 5;symm;refine xN (by rw [dV];rfl) λi y hi hy=>?_;have hx:off (lE a b) i+y<nE a b:=iN hi hy;unfold gB;rw [List.getElem?_map,List.getElem?_range hx,Option.map_some];congr 1;obtain ⟨q1,q2⟩:=aAi hy;rw [aHt h hv0 hz0 hi q1 q2];unfold mE;rw [lK _ hi hy,kG,ek,lK _ hv0 hz0,kG];rfl
 ·unfold jG;simp only [fL];rw [show off (lV a b) a.dims.length=nV a b from rfl,mD (bC _),aU]
theorem aFS {a b:Rp} (h:Fit a b):Tb a.p (nE a b) (nV a b) (mE a b):=by
 have bV:=h.offV (bC _);have bE:=h.offE (bC _);exact ⟨h.ra.hp,Nat.le_trans (Nat.mul_le_mul bE bV) (by decide),by unfold nE;omega,by unfold nV;omega,aFR h⟩
def cR (a b:Rp):Nat:=nV a b - rkF a.p (nE a b) (nV a b) (mE a b)
theorem aOp {p:Int} {m n:Nat} {F:Nat→Nat→Int} :rkF p m n F≤n:=wZ n
theorem yY {a b:Rp} (h:Fit a b):hJ a b=some (cR a b:Int):=by
 have bV:=h.offV (bC _);unfold hJ;rw [xO h,aA,aAf (aFS h),aA];have:= @aOp a.p (nE a b) (nV a b) (mE a b);have e:((bW a.p (nE a b) (mE a b) (nV a b)).2.length)=rkF a.p (nE a b) (nV a b) (mE a b):=rfl;simp only;rw [e,cC (by unfold nV at*;omega)];unfold cR;congr 1;omega
end
noncomputable section
theorem aNM {L:List Nat} (hL:L.length≤1048576) (k:Nat):tQ (eW L) k=some (L.contains k):=by
 unfold tQ;rw [aNo (n:=L.length) (λi=>decide (L[i]?.getD 0=k)) true (by omega) (λi hi=>?_) (λ_=>?_),aA]
 ·have e:(List.range L.length).any (λi=>decide (L[i]?.getD 0=k))=L.contains k:=by
   rw [Bool.eq_iff_iff,List.any_eq_true,List.contains_iff_mem];constructor
   ·rintro ⟨i,hi,he⟩;have hi:=List.mem_range.1 hi;have he:=of_decide_eq_true he;rw [kR hi,kG] at he;subst he;exact List.getElem_mem hi
   ·intro h;obtain ⟨i,hi,rfl⟩:=List.mem_iff_getElem.1 h;exact ⟨i,List.mem_range.2 hi,by simp [hi]⟩
  rw [e];cases L.contains k <;> rfl
 ·unfold oY;rw [dA,jT hi,aM,qM 0 (by rw [dA];exact hi),aA]
  have e:decide ((eW L)[i]?.getD 0=(k:Int))=decide (L[i]?.getD 0=k):=by
   rw [Bool.eq_iff_iff,mS,mS];simp [eW,hi];omega
  rw [e];cases decide (L[i]?.getD 0=k) <;> rfl
 ·unfold oY;rw [dA,mD (bC _),aU]
theorem aDs {L:List Nat} {i:Nat} (h:i<L.length):cP (eW L) (i:Int)=some ((L[i]?.getD 0:Nat):Int):=by
 rw [dS (by rw [dA];exact h)];simp [eW,h]
theorem aFT {p:Int} {m:Nat} {F:Nat→Nat→Int} {t i:Nat} (h:i<(bW p m F t).2.length):(bW p m F t).2[i]?.getD 0<t:=aBC t _ (qZ 0 h)
theorem aDt {p:Int} {m n:Nat} {F:Nat→Nat→Int} (T:Tb p m n F):pM p ⟨m,n,bJ m n F⟩=some (aBm p n (bW p m F n).1 (bW p m F n).2):=by
 have hn:=T.hn;have hN:=T.hN;have hin:=uE (by have:=dG T.hp;omega:0<p) T.hi n;have hlen:= @rQ p m F n;have hlen2:= @wZ p m F n;have hget:= @aFT p m F n;unfold pM;rw [xI T,aA];generalize (bW p m F n).1=R at*;generalize (bW p m F n).2=L at*;rw [cU (r:=aBm p n R L) (λk=>((k:Int),((List.range k).filter λk=> !L.contains k).map λk=>aAE p n R L k L.length)) n (by simp) (λk hk=>?_) (λ_=>?_),aA]
 ·unfold lJ;simp only;have hfl:((List.range k).filter λk=> !L.contains k).length ≤k:=by have:=List.length_filter_le (λk=> !L.contains k) (List.range k);simpa using this
  rw [jT hk,aM,aNM (by omega),aA,List.range_succ,List.filter_append,List.map_append];cases hc:L.contains k with
  |true=>
   rw [aM,bN hk (by omega),show [k].filter (λk=> !L.contains k)=[] by simp only [List.filter_cons,List.filter_nil,hc,dX,eD,if_false],List.map_nil,List.append_nil]
  |false=>
   rw [aU,aZ (by omega),aZ (by omega:(n:Int)≤1048576),Bool.and_self,aM,dK,dK,dS (by simp;exact hk),aA];rw [cU (r:=aAE p n R L k L.length) (λi=>(aAE p n R L k i,(i:Int))) L.length (by rfl) (λi hi=>?_) (λ_=>?_),aA]
   ·rw [aZ (by simp only [dM];omega),aM,bN hk (by omega),show [k].filter (λk=> !L.contains k)=[k] by simp only [List.filter_cons,List.filter_nil,hc,Bool.not_false,if_true]];rfl
   ·unfold lI;simp only;have b1:=hin i k (by omega) hk;have hp:=dG T.hp;have hv:=hget hi;rw [dA,jT hi,aM,aDs hi,aA,atT hN (by omega) hk,aA,cC (by omega),tT T.hp (by omega),aA,dS (by rw [wA];exact hv),aA,dK,bN hi (by omega)];rfl
   ·unfold lI;simp only;rw [dA,mD (bC _),aU]
 ·unfold lJ;simp only;rw [mD (bC _),aU];rfl
theorem aHu {p:Int} (hp:rJ p=true) {m n:Nat} {F:Nat→Nat→Int} (hi:zT p m n F):(aBm p n (bW p m F n).1 (bW p m F n).2).length=n - rkF p m n F:=by
 have h:=aIc hp hi n (bC _);have:=aMM h.inc (aBC n);unfold aBm rkF;rw [dM];omega
theorem Fit.lA {a b:Rp} (h:Fit a b) {v:Nat} (hv:v<a.dims.length):wr ((dN a v:Int)*(dN b v:Int))=((Proofs.YtpppcfhgaehcjaaGreatDoor.lV a b v:Nat):Int):=by
 have:=h.lV hv;unfold Proofs.YtpppcfhgaehcjaaGreatDoor.lV at*;rw [Nat.mul_comm] at this ⊢;exact aDR (by omega)
theorem aJt {a b:Rp} (h:Fit a b) {v:Nat} (hv:v≤a.dims.length):rD a b v=some ((off (lV a b) v:Nat):Int):=by
 have n5:=h.ra.n5;unfold rD;rw [cU (r:=((off (lV a b) v:Nat):Int)) (λk=>(((off (lV a b) k:Nat):Int),(k:Int))) v (by rfl) (λk hk=>?_) (λ_=>?_),aA]
 ·have hka:k<a.dims.length:=by omega
  have hkb:k<b.dims.length:=by rw [h.ne];exact hka
  have ho:=h.offV (v:=k+1) (by omega);have e:off (lV a b) (k+1)=off (lV a b) k+lV a b k:=rfl;unfold pN;simp only;rw [jT hk,aM,qM 0 hka,aA,qM 0 hkb,aA,(h.ra.d k hka).1,(h.rb.d k hkb).1,h.lA hka,bN hk (by omega),cC (by omega),e];simp
 ·unfold pN;simp only;rw [mD (bC _),aU]
theorem aFU {a b:Rp} (h:Fit a b):nB a b=some (nV a b:Int):=by
 have n5:=h.ra.n5;unfold nB;rw [cU (r:=(nV a b:Int)) (λk=>(((off (lV a b) k:Nat):Int),(k:Int))) a.dims.length (by rfl) (λk hk=>?_) (λ_=>?_),aA]
 ·have hkb:k<b.dims.length:=by rw [h.ne];exact hk
  have ho:=h.offV (v:=k+1) (by omega);have e:off (lV a b) (k+1)=off (lV a b) k+lV a b k:=rfl;unfold mJ;simp only;rw [jT hk,aM,qM 0 hk,aA,qM 0 hkb,aA,(h.ra.d k hk).1,(h.rb.d k hkb).1,h.lA hk,bN hk (by omega),cC (by omega),e];simp
 ·unfold mJ;simp only;rw [mD (bC _),aU];rfl
def yZ (a b:Rp) (i r k j:Nat):Nat→Nat→Int:=λv z=>if v=sV a i∧z % dN a v=k∧z / dN a v<j then aF b i r (z / dN a v) else 0
def aHv (a b:Rp) (i r k j:Nat):Nat→Nat→Int:=λv z=>if v=tV a i∧z / dN a v=r∧z % dN a v<j then (yZ a b i r k (dN b (sV a i)) v z - aF a i (z % dN a v) k) % a.p else yZ a b i r k (dN b (sV a i)) v z
theorem aKr (r c:Nat) (F:Nat→Nat→Int):bJ r c F++gB c (F r)=bJ (r+1) c F:=by
 rw [←aDl c F r,←aDl c F (r+1),List.range_succ,List.map_append,List.flatten_append];simp
theorem aNN {a b:Rp} (h:Fit a b) {i r k:Nat} (hi:i<a.q.src.length) (hr:r<dN b (tV a i)) (hk:k<dN a (sV a i)) (x1 x2 x3:Int×List Int×Int) (e1:x1.2.2=i) (e2':x2.2.2=r) (e3:x3.2.2=k):
  ∃ y,Lp (fH a b (sV a i) x1 x2 x3) (List.replicate (nV a b) 0,0)=some y∧Lp (fJ a b (sV a i) (tV a i) x1 x2 x3) (y,0)=some (cat (lV a b) (e2 a b i (r*dN a (sV a i)+k)) a.dims.length):=by
 have hb:=dG h.ra.hp;have n5:=h.ra.n5;obtain ⟨s1,s2⟩:=h.ra.s i hi;obtain ⟨t1,t2⟩:=h.ra.t i hi;have s3:sV a i<b.dims.length:=by rw [h.ne];exact s2
 have t3:tV a i<b.dims.length:=by rw [h.ne];exact t2
 have hib:i<b.q.src.length:=by rw [h.qe];exact hi
 obtain ⟨m1,m2⟩:=h.ra.m i hi;obtain ⟨g1,g2⟩:=h.rb.m i hib;rw [h.sV,h.tV] at g1 g2;rw [h.pe] at g2;have da:=h.ra.d _ s2;have da2:=h.ra.d _ t2;have db:=h.rb.d _ s3;have db2:=h.rb.d _ t3;have oS:=h.offV (v:=sV a i+1) s2;have oT:=h.offV (v:=tV a i+1) t2;have eS:off (lV a b) (sV a i+1)=off (lV a b) (sV a i)+lV a b (sV a i):=rfl;have eT:off (lV a b) (tV a i+1)=off (lV a b) (tV a i)+lV a b (tV a i):=rfl;refine ⟨cat (lV a b) (yZ a b i r k (dN b (sV a i))) a.dims.length,?_,?_⟩
 ·refine cU (λj=>(cat (lV a b) (yZ a b i r k j) a.dims.length,(j:Int))) (dN b (sV a i)) ?_ (λj hj=>?_) (λ_=>?_)
  ·unfold nV;rw [aHq];congr 1;exact wI λv z _ _=>by unfold yZ;rw [aR λq=>absurd q.2.2 (Nat.not_lt_zero _)]
  ·have hz:j*dN a (sV a i)+k<lV a b (sV a i):=uV hj hk
   have hpos:wr (wr (((off (lV a b) (sV a i):Nat):Int)+wr ((j:Int)*(dN a (sV a i):Int)))+(k:Int))=((off (lV a b) (sV a i)+(j*dN a (sV a i)+k):Nat):Int):=by
    rw [aDR (by omega),cC (x:=((off (lV a b) (sV a i):Nat):Int)+((j*dN a (sV a i):Nat):Int)) (by omega),cC (by omega)];omega
   have hw:=g2 r j hr hj;unfold fH;simp only [e1,e2',e3];rw [qM 0 s3,aA,db.1,jT hj,aM,aJt h (by omega),aA,qM 0 s2,aA,da.1,hpos,dS (by rw [fL];exact iN s2 hz)];rw [aA,qM ⟨0,0,[]⟩ (by rw [h.rb.ml];exact hib),aA,aA,g1];simp only;rw [atT (sq db2.2 db.2) hr hj,aA]
   have hv0:(cat (lV a b) (yZ a b i r k j) a.dims.length)[off (lV a b) (sV a i)+(j*dN a (sV a i)+k)]'(by rw [fL];exact iN s2 hz)=0:=by
    have:=lK (yZ a b i r k j) s2 hz;rw [kR (by rw [fL];exact iN s2 hz)] at this;rw [Option.some.inj this];unfold yZ;rw [aR];rw [vI hk];omega
   rw [hv0,Int.zero_add,cC (by omega),tT h.ra.hp (by omega),aA,aA,dK,aGQ s2 hz,bN hj (by omega),Int.emod_eq_of_lt hw.1 hw.2];congr 3;refine wI λv z hv hz2=>?_;by_cases e:v=sV a i∧z=j*dN a (sV a i)+k
   ·obtain ⟨rfl,rfl⟩:=e;rw [aQ ⟨rfl,rfl⟩];unfold yZ;rw [vI hk,vJ hk,aQ ⟨rfl,rfl,Nat.lt_succ_self _⟩]
   ·rw [aR e];unfold yZ;by_cases e4:v=sV a i∧z % dN a v=k∧z / dN a v<j
    ·rw [aQ e4,aQ ⟨e4.1,e4.2.1,by omega⟩]
    ·rw [aR e4,aR];rintro ⟨q1,q2,q3⟩
     have q4:z / dN a v=j:=by
      rcases cX (z / dN a v) j with h'|h'
      ·exact absurd ⟨q1,q2,h'⟩ e4
      ·omega
     refine e ⟨q1,?_⟩;rw [←@sX (dN a v) z,q4,q2,q1]
  ·unfold fH;simp only [e1,e2',e3];rw [qM 0 s3,aA,db.1,mD (bC _),aU]
 ·refine cU (λj=>(cat (lV a b) (aHv a b i r k j) a.dims.length,(j:Int))) (dN a (tV a i)) ?_ (λj hj=>?_) (λ_=>?_)
  ·congr 1;exact wI λv z _ _=>by unfold aHv;rw [aR λq=>absurd q.2.2 (Nat.not_lt_zero _)]
  ·have hz:r*dN a (tV a i)+j<lV a b (tV a i):=uV hr hj
   have hpos:wr (wr (((off (lV a b) (tV a i):Nat):Int)+wr ((r:Int)*(dN a (tV a i):Int)))+(j:Int))=((off (lV a b) (tV a i)+(r*dN a (tV a i)+j):Nat):Int):=by
    rw [aDR (by omega),cC (x:=((off (lV a b) (tV a i):Nat):Int)+((r*dN a (tV a i):Nat):Int)) (by omega),cC (by omega)];omega
   have hw:=m2 j k hj hk;unfold fJ;simp only [e1,e2',e3];rw [qM 0 t2,aA,da2.1,jT hj,aM,aJt h (by omega),aA,aA,hpos,dS (by rw [fL];exact iN t2 hz)];rw [aA,qM ⟨0,0,[]⟩ (by rw [h.ra.ml];exact hi),aA,qM 0 s2,aA,m1,da.1];simp only;rw [atT (sq da2.2 da.2) hj hk,aA]
   have hv0:(cat (lV a b) (aHv a b i r k j) a.dims.length)[off (lV a b) (tV a i)+(r*dN a (tV a i)+j)]'(by rw [fL];exact iN t2 hz)=yZ a b i r k (dN b (sV a i)) (tV a i) (r*dN a (tV a i)+j):=by
    have:=lK (aHv a b i r k j) t2 hz;rw [kR (by rw [fL];exact iN t2 hz)] at this;rw [Option.some.inj this];unfold aHv;rw [aR];rw [vJ hj];omega
   have hbA:0≤yZ a b i r k (dN b (sV a i)) (tV a i) (r*dN a (tV a i)+j)∧yZ a b i r k (dN b (sV a i)) (tV a i) (r*dN a (tV a i)+j)≤5:=by
    unfold yZ;split
    ·rename_i q;have:=g2 r ((r*dN a (tV a i)+j) / dN a (tV a i)) hr q.2.2;omega
    ·omega
   rw [hv0];generalize hA:yZ a b i r k (dN b (sV a i)) (tV a i) (r*dN a (tV a i)+j)=A at*;rw [cC (x:=A - aF a i j k) (by omega),tT h.ra.hp (by omega),aA,aA,dK,aGQ t2 hz,bN hj (by omega)];congr 3;refine wI λv z hv hz2=>?_;by_cases e:v=tV a i∧z=r*dN a (tV a i)+j
   ·obtain ⟨rfl,rfl⟩:=e;rw [aQ ⟨rfl,rfl⟩];unfold aHv;rw [vI hj,vJ hj,aQ ⟨rfl,rfl,Nat.lt_succ_self _⟩,hA]
   ·rw [aR e];unfold aHv;by_cases e4:v=tV a i∧z / dN a v=r∧z % dN a v<j
    ·rw [aQ e4,aQ ⟨e4.1,e4.2.1,by omega⟩]
    ·rw [aR e4,aR];rintro ⟨q1,q2,q3⟩
     have q4:z % dN a v=j:=by
      rcases cX (z % dN a v) j with h'|h'
      ·exact absurd ⟨q1,q2,h'⟩ e4
      ·omega
     refine e ⟨q1,?_⟩;rw [←@sX (dN a v) z,q4,q2,q1]
  ·unfold fJ;simp only [e1,e2',e3];rw [qM 0 t2,aA,da2.1,mD (bC _),aU];congr 2;refine wI λv z hv hz2=>?_;have hzb:z<dN b v*dN a v:=hz2;obtain ⟨q1,q2⟩:=aAi hzb
   have eA:yZ a b i r k (dN b (sV a i)) v z=if sV a i=v∧k=z % dN a v then aF b i r (z / dN a v) else 0:=by
    unfold yZ;by_cases e:sV a i=v∧k=z % dN a v
    ·rw [aQ e,aQ ⟨e.1.symm,e.2.symm,by rw [e.1];exact q1⟩]
    ·rw [aR e,aR λq=>e ⟨q.1.symm,q.2.1.symm⟩]
   unfold aHv e2 eF;rw [eA,vI hk,vJ hk];by_cases e:tV a i=v∧r=z / dN a v
   ·rw [aQ ⟨e.1.symm,e.2.symm,by rw [e.1];exact q2⟩,aQ e]
   ·rw [aR λq=>e ⟨q.1.symm,q.2.1.symm⟩,aR e,Int.sub_zero];split
    ·rename_i q;have hw:=g2 r (z / dN a v) hr (by rw [q.1];exact q1);exact (Int.emod_eq_of_lt hw.1 hw.2).symm
    ·simp
theorem aOH {a b:Rp} {i y:Nat} (hi:i<a.q.src.length) (hy:y<lE a b i):cat (lV a b) (e2 a b i y) a.dims.length=gB (nV a b) (mE a b (off (lE a b) i+y)):=by
 symm;refine xN (by rw [dV];rfl) λv z hv hz=>?_;have hk:off (lV a b) v+z<nV a b:=iN hv hz;unfold gB;rw [List.getElem?_map,List.getElem?_range hk,Option.map_some];congr 1;unfold mE;rw [lK _ hi hy,kG,lK _ hv hz,kG]
theorem uJ {a b:Rp} (h:Fit a b):gP a b=some ⟨nE a b,nV a b,bJ (nE a b) (nV a b) (mE a b)⟩:=by
 have n5:=h.ra.n5;have e6:=h.ra.e6;have bV:=h.offV (bC _);have bE:=h.offE (bC _);have tl:=h.ra.tl;have ml:=h.ra.ml;have hV:nV a b≤80:=bV;unfold gP;rw [aFU h,aA];rw [cU (r:=((nE a b:Int),bJ (nE a b) (nV a b) (mE a b))) (λi=>(((off (lE a b) i:Nat):Int),bJ (off (lE a b) i) (nV a b) (mE a b),(i:Int))) a.q.src.length (by simp [off,bJ]) (λi hi=>?_) (λ_=>?_),aA]
 ·obtain ⟨s1,s2⟩:=h.ra.s i hi;obtain ⟨t1,t2⟩:=h.ra.t i hi;have t3:tV a i<b.dims.length:=by rw [h.ne];exact t2
  have da:=h.ra.d _ s2;have db2:=h.rb.d _ t3;have oE:=h.offE (i:=i+1) hi;have eE:off (lE a b) (i+1)=off (lE a b) i+dN b (tV a i)*dN a (sV a i):=rfl;unfold gX;simp only;rw [ml,jT hi,aM,qM 0 hi,aA,s1,qM 0 (by omega),aA,t1];rw [cU (r:=(((off (lE a b) (i+1):Nat):Int),bJ (off (lE a b) (i+1)) (nV a b) (mE a b))) (λr=>(((off (lE a b) i+r*dN a (sV a i):Nat):Int),bJ (off (lE a b) i+r*dN a (sV a i)) (nV a b) (mE a b),(r:Int))) (dN b (tV a i)) (by simp) (λr hr=>?_) (λ_=>?_),aA,bN hi (by omega)]
  ·unfold gW;simp only;rw [qM 0 t3,aA,db2.1,jT hr,aM];rw [cU (r:=(((off (lE a b) i+(r+1)*dN a (sV a i):Nat):Int),bJ (off (lE a b) i+(r+1)*dN a (sV a i)) (nV a b) (mE a b))) (λk=>(((off (lE a b) i+r*dN a (sV a i)+k:Nat):Int),bJ (off (lE a b) i+r*dN a (sV a i)+k) (nV a b) (mE a b),(k:Int))) (dN a (sV a i)) (by simp) (λk hk=>?_) (λ_=>?_),aA,bN hr (by omega)]
   ·unfold gV;simp only;have hy:r*dN a (sV a i)+k<lE a b i:=uV hr hk;have hx:off (lE a b) i+(r*dN a (sV a i)+k)<nE a b:=iN hi hy;have hx2:nE a b≤96:=bE;have hsz:(off (lE a b) i+r*dN a (sV a i)+k)*nV a b≤96*80:=Nat.mul_le_mul (by omega) hV;rw [qM 0 s2,aA,da.1,jT hk,aM,aZ (by omega),aZ (by omega:(nV a b:Int)≤1048576),Bool.and_self,aM,dK];obtain ⟨y,y1,y2⟩:=aNN h hi hr hk (((off (lE a b) i:Nat):Int),bJ (off (lE a b) i) (nV a b) (mE a b),(i:Int)) (((off (lE a b) i+r*dN a (sV a i):Nat):Int),bJ (off (lE a b) i+r*dN a (sV a i)) (nV a b) (mE a b),(r:Int)) (((off (lE a b) i+r*dN a (sV a i)+k:Nat):Int),bJ (off (lE a b) i+r*dN a (sV a i)+k) (nV a b) (mE a b),(k:Int)) rfl rfl rfl;rw [y1,aA,y2,aA,aOH hi hy,dF,dV,aZ (by omega),aM,bN hk (by omega),cC (by omega),←Nat.add_assoc,aKr];congr 2
   ·unfold gV;simp only;rw [qM 0 s2,aA,da.1,mD (bC _),aU,Nat.succ_mul,Nat.add_assoc]
  ·unfold gW;simp only;rw [qM 0 t3,aA,db2.1,mD (bC _),aU,eE]
 ·unfold gX;simp only;rw [ml,mD (bC _),aU];rfl
theorem aIu {a b:Rp} (h:Fit a b) {x:List Int} (hx:x.length=nV a b): ∃ r,gK a b x=some r:=by
 have n5:=h.ra.n5;have bV:=h.offV (bC _);have hV:nV a b≤80:=bV;refine ⟨(List.range a.dims.length).map λv=>(⟨dN b v,dN a v,(x.drop (off (lV a b) v)).take (lV a b v)⟩:Mt),?_⟩;unfold gK;rw [cU (r:=(List.range a.dims.length).map λv=>(⟨dN b v,dN a v,(x.drop (off (lV a b) v)).take (lV a b v)⟩:Mt)) (λk=>((List.range k).map (λv=>(⟨dN b v,dN a v,(x.drop (off (lV a b) v)).take (lV a b v)⟩:Mt)),((off (lV a b) k:Nat):Int),(k:Int))) a.dims.length (by simp [off]) (λk hk=>?_) (λ_=>?_),aA]
 ·have hkb:k<b.dims.length:=by rw [h.ne];exact hk
  have ho:= @xM (lV a b) (k+1) a.dims.length hk;have e:off (lV a b) (k+1)=off (lV a b) k+lV a b k:=rfl;unfold fW;simp only
  rw [jT hk,aM,qM 0 hk,aA,qM 0 hkb,aA,aA,aA,(h.ra.d k hk).1,(h.rb.d k hkb).1,h.lA hk,cC (x:=((off (lV a b) k:Nat):Int)+((lV a b k:Nat):Int)) (by omega),hx,
   aZ (by omega),aZ (by omega:((off (lV a b) k:Nat):Int)≤((off (lV a b) k:Nat):Int)+((lV a b k:Nat):Int)),aZ (by unfold nV;omega:((off (lV a b) k:Nat):Int)+((lV a b k:Nat):Int)≤((nV a b:Nat):Int)),Bool.and_self,Bool.and_self,aM,
   show (((off (lV a b) k:Nat):Int)+((lV a b k:Nat):Int)).toNat - ((off (lV a b) k:Nat):Int).toNat=lV a b k by omega,dK]
  have q2:decide (((List.range k).map λv=>(⟨dN b v,dN a v,(x.drop (off (lV a b) v)).take (lV a b v)⟩:Mt)).length +1≤4294967296)=true:=aZ (by simp only [dM,List.length_range];omega);have q1:decide (([]:List Int).length +((x.drop (off (lV a b) k)).take (lV a b k)).length ≤4294967296)=true:=aZ (by simp only [List.length_nil,List.length_take,List.length_drop];omega);rw [q1,aM,q2,aM,List.nil_append,bN hk (by omega),rE (f:=λv=>(⟨dN b v,dN a v,(x.drop (off (lV a b) v)).take (lV a b v)⟩:Mt)),e];simp
 ·unfold fW;simp only;rw [mD (bC _),aU]
end
noncomputable section
def iO (a b:Rp):Bool:=rW a&&(rW b&&(decide (a.p=b.p)&&decide (a.q=b.q)))
theorem dO {a b:Rp} (h:iO a b=true):Fit a b:=by
 unfold iO at h;simp only [cD,mS] at h;exact aOE h.1 h.2.1 h.2.2.1 h.2.2.2
def hdI (a b:Rp):Int:=if iO a b=true then (cR a b:Int) else -1
theorem aIv {a b:Rp} (ha:bR a) (hb:bR b): ∃ l,gL a b=some (l,iO a b)∧(iO a b=true→l.length=cR a b):=by
 unfold gL;rw [xF ha hb,aA];cases hf:rW a&&(rW b&&(decide (a.p=b.p)&&decide (a.q=b.q))) with
 |false=>
  refine ⟨[],?_,λh=>by unfold iO at h;rw [hf] at h;cases h⟩;unfold iO;rw [hf];rfl
 |true=>
  have h:=dO hf;have bV:=h.offV (bC _);have hV:nV a b≤80:=bV;have hl:=aHu h.ra.hp (aFR h)
  have hkl: ∀ v∈aBm a.p (nV a b) (bW a.p (nE a b) (mE a b) (nV a b)).1 (bW a.p (nE a b) (mE a b) (nV a b)).2,v.length=nV a b:=by
   intro v hv;unfold aBm at hv;obtain ⟨k,_,rfl⟩:=List.mem_map.1 hv;exact wA _ _ _ _ _ _
  rw [dX,aU,uJ h,aA,aDt (aFS h),aA];generalize aBm a.p (nV a b) (bW a.p (nE a b) (mE a b) (nV a b)).1 (bW a.p (nE a b) (mE a b) (nV a b)).2=K at*;have key:=aFw (body:=eC a b K) (s:=(([]:List (List Mt)),0)) (λs=>s.2=(s.1.length:Int)∧s.1.length≤K.length) (λs=>K.length - s.1.length) (λr=>r.length=K.length) ⟨rfl,Nat.zero_le _⟩ (λs ⟨h1,h2⟩=>?_)
  ·obtain ⟨r,h1,h2⟩:=key;rw [h1,aA];exact ⟨r,by unfold iO;rw [hf],λ_=>by rw [h2,hl];rfl⟩
  ·obtain ⟨l,j⟩:=s;simp only at h1 h2;subst h1;unfold eC;simp only;rcases cX l.length K.length with hlt|hge
   ·obtain ⟨r,hr⟩:=aIu h (hkl _ (List.getElem_mem hlt));rw [jT hlt,aM,dS hlt,aA,hr,aA,aZ (by omega),aM,bN hlt (by omega)];exact .inl ⟨_,rfl,⟨by simp,by simp;omega⟩,by simp;omega⟩
   ·rw [mD hge,aU];exact .inr ⟨_,rfl,by omega⟩
theorem rZ {a b:Rp} (ha:bR a) (hb:bR b):eZ a b=some (hdI a b):=by
 obtain ⟨l,h1,h2⟩:=aIv ha hb;unfold eZ hdI;rw [h1,aA];cases hf:iO a b with
 |false=>rfl
 |true=>rw [aQ rfl,←h2 hf];rfl
theorem aFV {a b:Rp} (ha:bR a) (hb:bR b):oK a b=some (hdI a b):=by
 unfold oK hdI;rw [aHk ha hb,aA];cases hf:rW a&&(rW b&&(decide (a.p=b.p)&&decide (a.q=b.q))) with
 |false=>
  unfold iO;rw [hf];rfl
 |true=>
  rw [dX,aU,yY (dO hf),aA,aQ (show iO a b=true from hf)]
theorem vB {a b:Rp} (h:Fit a b):cR a b≤80:=by
 have bV:=h.offV (bC _);unfold cR nV;omega
theorem aMN {α β:Type} {f:α→β} {l:List α} {k:Nat} (hk:k<l.length):(l.take k).map f++[f l[k]]=(l.take (k+1)).map f:=by rw [aGo hk,List.map_append];rfl
end
noncomputable section
theorem aIw {L:List Nat} (hL:L.length≤1048576) (k:Nat):fE (eW L) (k:Int)=some (L.contains k):=by
 have hl:=dA L;unfold fE kJ;rw [rP (s0:=0) (s:=0) (n:=L.length) (λi=>bif decide ((k:Int)=(eW L)[i]?.getD 0) then some (i:Int) else none) rfl (by omega) (Nat.zero_le _) (λi _ hi=>?_) (λ_=>?_)]
 ·rw [aA];cases e:(List.range' 0 (L.length - 0)).findSome? (λi:Nat=>bif decide ((k:Int)=(eW L)[i]?.getD 0) then some (i:Int) else none) with
  |none=>
   rw [List.findSome?_eq_none_iff] at e
   have:L.contains k=false:=by
    rw [Bool.eq_false_iff];intro hc;have hm:k∈L:=by simpa using hc
    obtain ⟨j,hj,e2⟩:=List.mem_iff_getElem.1 hm;have:=e j (by simp;omega);have hg:(eW L)[j]?.getD 0=(k:Int):=by simp [eW,hj,e2]
    rw [hg,aZ rfl] at this;cases this
   rw [this];rfl
  |some i=>
   obtain ⟨j,hj,he⟩:=List.exists_of_findSome?_eq_some e;simp at hj;have hjl:j<L.length:=by omega
   have hg:(eW L)[j]?.getD 0=((L[j]:Nat):Int):=by simp [eW,hjl]
   rw [hg] at he;by_cases c:(k:Int)=((L[j]:Nat):Int)
   ·rw [aZ c] at he;cases he
    have:L.contains k=true:=by
     have:k=L[j]:=by omega
     rw [this];simp
    rw [this];show (Option.bind (some ((j:Nat):Int)) λv1=>some (decide (0≤v1)))=some true;rw [aA,aZ (by omega)]
   ·rw [cS c] at he;cases he
 ·unfold fD;rw [hl,jT hi,aM,qM 0 (by omega),aA];cases decide ((k:Int)=(eW L)[i]?.getD 0) <;> rfl
 ·unfold fD;rw [hl,mD (bC _),aU]
theorem aKs (L:List Nat) (k:Nat):sO (k+1) L=sO k L++if L.contains k=true then [] else [k]:=by
 unfold sO;rw [List.range_succ,List.filter_append];congr 1;cases h:L.contains k <;> simp at h <;> simp [h]
theorem aHw (n:Nat) (L:List Nat):(sO n L).length ≤n:=by
 have:=List.length_filter_le (λk=> !L.contains k) (List.range n);simpa [sO] using this
theorem aHx {n k:Nat} {L:List Nat} (h:k∈sO n L):k<n:=List.mem_range.1 (List.mem_filter.1 h).1
theorem aIx {n:Nat} {L:List Nat} (hn:n≤1048576) (hL:L.length≤1048576):lG (n:Int) (eW L)=some (eW (sO n L)):=by
 unfold lG;rw [cU (s:=(([]:List Int),(0:Int))) (r:=eW (sO n L)) (λk=>(eW (sO k L),(k:Int))) n rfl (λk hk=>?_) (λ_=>?_),aA]
 ·have h1:=aHw k L;unfold iH;simp only;rw [jT hk,aM,aIw hL,aA,aKs,bN hk (by omega)];cases hc:L.contains k
  ·rw [Bool.not_false,aM,aZ (by rw [dA];simp;omega),aM];simp [eW]
  ·rw [dX,aU];simp
 ·unfold iH;simp only;rw [mD (bC _),aU]
end
noncomputable section
set_option maxRecDepth 10000
set_option maxHeartbeats 4000000
end
end Go.Proofs.YtpppcfhgaehcjaaGreatDoor

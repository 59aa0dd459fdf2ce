/-
  Several texts of the claim in one.
-/
import Derived.Test.YtilpfdokmlanjaaGreatJ14
set_option linter.unusedVariables false
set_option linter.unusedSimpArgs false
namespace Go.Proofs.YtilpfdokmlanjaaGreat
open Go.RowKit
noncomputable section
set_option maxRecDepth 10000
set_option maxHeartbeats 4000000
def kJ (a0:Mt) (a1:Int) (x1:((List Int)×Int)):Option (((List Int)×Int) ⊕ (List Int)):=
 bif decide (x1.2<(((List.replicate a0.rows.toNat (0:Int)).length:Nat):Int)) then
 ((cZ a0.cells (wr ((wr (x1.2*a0.cols))+a1))).bind λv2=>
 (cZ x1.1 x1.2).bind λv3=>
 some (.inl ((x1.1.set x1.2.toNat v2),wr (x1.2+1))))
 else
 (some (.inr x1.1))
def nN (a0:Mt) (a1:Int):Option (List Int):=
 bif (decide (0≤a0.rows)&&decide (a0.rows≤1048576)) then
 ((Lp (kJ a0 a1) ((List.replicate a0.rows.toNat (0:Int)),0)).bind λy4=>
 some (y4))
 else none
theorem aCo (a0:Mt) (a1:Int) (r:(List Int)) (h:nN a0 a1=some r):HasC Tryz.prog 199 [.agg (eM a0),.int a1] (.list 1 (r.map eI)):=by
 refine hM [.tmp 4] Tryz.func199 Tryz.ntmps199 k<|sR<|ae (wb k) k<|aT k2<|sR<|fp k8<|lp k8<|cG h λq5 h=>ae (qT aB q5 k k k k k k k k) k<|aT k2<|aP (t:=mN [(1,.int a1),(2,.ptr 0 0 0),(5,.own 1 0 ((List.replicate a0.rows.toNat (0:Int)).length))] [(0,⟨3,[eM a0]⟩),(1,⟨1,List.map (ow eI) (List.replicate a0.rows.toNat (0:Int))⟩)] 2) (bU (mX 2 k2 (kP ⟨_,k,⟨k,k,(by simp only [aO,lA,lT,lR,lC,lN]),k⟩⟩ aY)) (bO k<|hX ⟨_,k,k,.inl ⟨wZ (e:=eI) (z:=0) _,cS.plainO _⟩⟩ k<|aY) k4)<|sQ<|sR<|am k k<|ae (bX aB k k k k) k<|am k k<|an<|tn<|aE<|oB h λy4 hy4 h=>cD (body:=(kJ a0 a1)) hy4 (λ(x1:((List Int)×Int))=>mN [(1,.int a1),(2,.ptr 0 0 0),(5,.own 1 0 x1.1.length),(11,.int (((List.replicate a0.rows.toNat (0:Int)).length:Nat):Int)),(12,.int x1.2)] [(0,⟨3,[eM a0]⟩),(1,⟨1,x1.1.map (ow eI)⟩)] 2) (λr e t=>e= .exit 0∧Ent t (mN [(5,.own 0 0 r.length)] [(0,⟨1,r.map (ow eI)⟩)] 1)) (bU (bK k2) (bO k<|bN k<|aY) k4) ?_ ?_
 ·intro x1 o h;refine sR<|cm k4<|an<|tn<|sQ<|dV k h (λ_ h=>?_) λ_ h=>aU<|aC<|aC<|sp h ⟨_,k,k,(pI [1] (bK k2) (bN k<|aY) k4)⟩;refine aG<|tn<|sQ<|aE<|sR<|am k k<|aT k2<|rg<|am k k<|am k k<|fp k8<|lp k8<|am k k<|fp k8<|lp k8<|ae (fR k k) k<|am k k<|ae (bF k k) k<|oB h λv2 hv2 h=>ae (xl hv2 k) k<|lr k7<|oB h λv3 hv3 h=>ae (xo hv3 k) k<|ae (eZ aB kX (u:=v2) (dH hv3) k k k k k k) k<|an<|aS<|tn<|rg ?_;exact ae (bF k k) k<|am k k<|an<|tn<|sp h ⟨_,k,(bU (mX 2 k2 (kP ⟨_,k,⟨k,k,(by simp only [aO,lA,lT,lR,lC,lN]),k⟩⟩ (bK k2))) (bO k<|bN k<|aY) k4)⟩
 ·rintro e t ⟨rfl,hent⟩;exact aL<|tn<|aP hent<|sR<|am k k<|aT k2<|aI<|sp h (bT k k k (kW (fA cS k k)))
def jM (a0:Mt) (x1:((List (List Int))×Int)):Option (((List (List Int))×Int) ⊕ (List (List Int))):=
 bif decide (x1.2<a0.cols) then
 ((nN a0 x1.2).bind λv2=>
 bif decide (x1.1.length+1≤4294967296) then
 (some (.inl ((x1.1++[v2]),wr (x1.2+1))))
 else none)
 else
 (some (.inr x1.1))
def jB (a0:Mt):Option (List (List Int)):=
 (Lp (jM a0) ([],0)).bind λy4=>
 some (y4)
theorem wS (a0:Mt) (r:(List (List Int))) (h:jB a0=some r):HasC Tryz.prog 166 [.agg (eM a0)] (.list 1 (r.map (dQ 1 eI))):=by
 refine hM [.tmp 2] Tryz.func166 Tryz.ntmps166 k<|sR<|ae (wb k) k<|aT k2<|sR<|aT k2<|sQ<|sR<|fp k8<|lp k8<|am k k<|an<|tn<|aE<|oB h λy4 hy4 h=>cD (body:=(jM a0)) hy4 (λ(x1:((List (List Int))×Int))=>mN [(1,.ptr 0 0 0),(3,.own 1 0 x1.1.length),(6,.int a0.cols),(7,.int x1.2)] [(0,⟨3,[eM a0]⟩),(1,⟨1,x1.1.map (ow (dQ 1 eI))⟩)] 2) (λr e t=>e= .exit 0∧Ent t (mN [(3,.own 0 0 r.length)] [(0,⟨1,r.map (ow (dQ 1 eI))⟩)] 1)) (fP (σ:=sg [(0,0)]) (mX 1 k2 (kP ⟨_,k,⟨k,k,k,k⟩⟩ (bK k2))) (bO k<|hX k k<|aY) k) ?_ ?_
 ·intro x1 o h;exact sR<|cm k4<|an<|tn<|sQ<|dV k h (λ_ h=>aG<|tn<|sQ<|aE<|sR<|am k k<|aT k2<|rg<|am k k<|lp k8<|am k k<|oB h λv2 hv2 h=>ae (cL cS (aCo a0 x1.2 v2 hv2) k3 (aX (mW k) (dZ k aV))) k<|ae (wl k) k<|cG h λq3 h=>ae (kK aB (l:=x1.1) (c:=[.own 2 0 v2.length]) q3 k k k k k k k k k k k k k k) k<|aa k k<|an<|aS<|tn<|aP (t:=mN [(1,.ptr 0 0 0),(3,.own 4 0 ((x1.1++[v2]).length)),(6,.int a0.cols),(7,.int x1.2)] [(0,⟨3,[eM a0]⟩),(4,⟨1,List.map (ow (dQ 1 eI)) (x1.1++[v2])⟩)] 5) (Ent.trans (eX (b:=4) (b':=2) (j:=0) (es':=v2.map eI) k k k k (aO _ _) (cS.frzs _)) (bU (mX 1 k2 (kP ⟨_,k,⟨k,k,(by simp only [aO,lA,lT,lR,lC,lN]),k⟩⟩ (bK k2))) (bO k<|hX ⟨_,k,k,.inl ⟨kY v2 k,bH.plainO _⟩⟩ k<|aY) k4))<|rg<|ae (bF k k) k<|am k k<|an<|tn<|sp h ⟨_,k,(pI [0,4] (bK k2) (bO k<|cO (bH.plainO _) k<|aY) k4)⟩) λ_ h=>aU<|aC<|aC<|sp h ⟨_,k,k,(pI [1] (bK k2) (cO (bH.plainO _) k<|aY) k4)⟩
 ·rintro e t ⟨rfl,hent⟩;exact aL<|tn<|aP hent<|sR<|am k k<|aT k2<|aI<|sp h (bT k k k (kW (fA bH k k)))
def mT (a0:Mt) (x1:((List (List Int))×Int)):Option (((List (List Int))×Int) ⊕ (List (List Int))):=
 bif decide (x1.2<a0.rows) then
 ((aFR a0 x1.2).bind λv2=>
 (mJ v2).bind λv3=>
 bif decide (x1.1.length+1≤4294967296) then
 (some (.inl ((x1.1++[v3]),wr (x1.2+1))))
 else none)
 else
 (some (.inr x1.1))
def mG (a0:Mt):Option (List (List Int)):=
 (Lp (mT a0) ([],0)).bind λy5=>
 some (y5)
theorem aAK (a0:Mt) (r:(List (List Int))) (h:mG a0=some r):HasC Tryz.prog 204 [.agg (eM a0)] (.list 1 (r.map (dQ 1 eI))):=by
 refine hM [.tmp 2] Tryz.func204 Tryz.ntmps204 k<|sR<|ae (wb k) k<|aT k2<|sR<|aT k2<|sQ<|sR<|fp k8<|lp k8<|am k k<|an<|tn<|aE<|oB h λy5 hy5 h=>cD (body:=(mT a0)) hy5 (λ(x1:((List (List Int))×Int))=>mN [(1,.ptr 0 0 0),(3,.own 1 0 x1.1.length),(6,.int a0.rows),(7,.int x1.2)] [(0,⟨3,[eM a0]⟩),(1,⟨1,x1.1.map (ow (dQ 1 eI))⟩)] 2) (λr e t=>e= .exit 0∧Ent t (mN [(3,.own 0 0 r.length)] [(0,⟨1,r.map (ow (dQ 1 eI))⟩)] 1)) (fP (σ:=sg [(0,0)]) (mX 1 k2 (kP ⟨_,k,⟨k,k,k,k⟩⟩ (bK k2))) (bO k<|hX k k<|aY) k) ?_ ?_
 ·intro x1 o h;exact sR<|cm k4<|an<|tn<|sQ<|dV k h (λ_ h=>aG<|tn<|sQ<|aE<|sR<|am k k<|aT k2<|rg<|am k k<|lp k8<|am k k<|oB h λv2 hv2 h=>ae (aHa (aNX a0 x1.2 v2 hv2) k k k) k<|oB h λv3 hv3 h=>ae (cL cS (aAZ v2 v3 hv3) k3 (dZ k aV)) k<|ae (wl k) k<|cG h λq4 h=>ae (kK aB (l:=x1.1) (c:=[.own 2 0 v3.length]) q4 k k k k k k k k k k k k k k) k<|aa k k<|an<|aS<|tn<|aP (t:=mN [(1,.ptr 0 0 0),(3,.own 4 0 ((x1.1++[v3]).length)),(6,.int a0.rows),(7,.int x1.2)] [(0,⟨3,[eM a0]⟩),(4,⟨1,List.map (ow (dQ 1 eI)) (x1.1++[v3])⟩)] 5) (Ent.trans (eX (b:=4) (b':=2) (j:=0) (es':=v3.map eI) k k k k (aO _ _) (cS.frzs _)) (bU (mX 1 k2 (kP ⟨_,k,⟨k,k,(by simp only [aO,lA,lT,lR,lC,lN]),k⟩⟩ (bK k2))) (bO k<|hX ⟨_,k,k,.inl ⟨kY v3 k,bH.plainO _⟩⟩ k<|aY) k4))<|rg<|ae (bF k k) k<|am k k<|an<|tn<|sp h ⟨_,k,(pI [0,4] (bK k2) (bO k<|cO (bH.plainO _) k<|aY) k4)⟩) λ_ h=>aU<|aC<|aC<|sp h ⟨_,k,k,(pI [1] (bK k2) (cO (bH.plainO _) k<|aY) k4)⟩
 ·rintro e t ⟨rfl,hent⟩;exact aL<|tn<|aP hent<|sR<|am k k<|aT k2<|aI<|sp h (bT k k k (kW (fA bH k k)))
def vF (a0:Int) (a1:(List (List Int))):Option Mt:=
 (fC a1).bind λv1=>
 some ((⟨(a1.length:Int),a0,v1⟩:Mt))
theorem aGj (a0:Int) (a1:(List (List Int))) (r:Mt) (h:vF a0 a1=some r):HasC Tryz.prog 203 [.int a0,.list 1 (a1.map (dQ 1 eI))] (.agg (eM r)):=by
 exact hM [.cell 4 91] Tryz.func203 Tryz.ntmps203 k<|sR<|ae (bS aB k k) k<|an<|tn<|sR<|am k k<|ln k4<|am k k<|am k k<|oB h λv1 hv1 h=>ae (cL cS (tU a1 v1 hv1) k3 (dZ k aV)) k<|ae (cU aB k k k k k k) k<|ae (ws k) k<|an<|tn<|aI<|sp h (bT k k k (nO (aJ (k) (aJ (k) (aJ (fA cS k k) eK)))))
def lK (a0:(List Mt)) (x1:((List Mt)×Int)):Option (((List Mt)×Int) ⊕ (List Mt)):=
 bif decide (x1.2<(a0.length:Int)) then
 ((cZ a0 x1.2).bind λv2=>
 (gO v2).bind λv3=>
 bif decide (x1.1.length+1≤4294967296) then
 (some (.inl ((x1.1++[v3]),wr (x1.2+1))))
 else none)
 else
 (some (.inr x1.1))
def oJ (a0:(List Mt)):Option (List Mt):=
 (Lp (lK a0) ([],0)).bind λy5=>
 some (y5)
theorem aDR (a0:(List Mt)) (r:(List Mt)) (h:oJ a0=some r):HasC Tryz.prog 122 [.list 3 (a0.map eM)] (.list 3 (r.map eM)):=by
 refine hM [.tmp 2] Tryz.func122 Tryz.ntmps122 k<|sR<|aT k2<|sR<|aT k2<|sQ<|sR<|am k k<|ln k4<|am k k<|an<|tn<|aE<|oB h λy5 hy5 h=>cD (body:=(lK a0)) hy5 (λ(x1:((List Mt)×Int))=>mN [(3,.own 0 0 x1.1.length),(6,.list 3 (a0.map eM)),(7,.int (a0.length:Int)),(8,.int x1.2)] [(0,⟨3,x1.1.map (ow eM)⟩)] 1) (λr e t=>e= .exit 0∧Ent t (mN [(3,.own 0 0 r.length)] [(0,⟨3,r.map (ow eM)⟩)] 1)) (fP (σ:=sg []) (kP ⟨_,k,⟨k,k,k,k⟩⟩ (bK k2)) (hX k k<|aY) k) ?_ ?_
 ·intro x1 o h;exact sR<|cm k4<|an<|tn<|sQ<|dV k h (λ_ h=>aG<|tn<|sQ<|aE<|sR<|oB h λv2 hv2 h=>ae (xl hv2 k) k<|lr k7<|ae (bS aB k k) k<|ae (ws k) k<|an<|tn<|rg<|am k k<|lp k8<|oB h λv3 hv3 h=>ae (cM (tL v2 v3 hv3) k3 (aX (mW k) aV)) k<|ae (wl k) k<|cG h λq4 h=>ae (kK aB (l:=x1.1) (c:=[.int v3.rows,.int v3.cols,.own 2 0 v3.cells.length]) q4 k k k k k k k k k k k k k k) k<|aa k k<|an<|aS<|tn<|aP (t:=mN [(3,.own 4 0 ((x1.1++[v3]).length)),(6,.list 3 (a0.map eM)),(7,.int (a0.length:Int)),(8,.int x1.2)] [(4,⟨3,List.map (ow eM) (x1.1++[v3])⟩)] 5) (Ent.trans (eX (b:=4) (b':=2) (j:=2) (es':=v3.cells.map eI) k k k k (aO _ _) (cS.frzs _)) (bU (kP ⟨_,k,⟨k,k,(by simp only [aO,lA,lT,lR,lC,lN]),k⟩⟩ (bK k2)) (hX ⟨_,k,k,.inl ⟨kY v3 k,cI.plainO _⟩⟩ k<|aY) k4))<|rg<|ae (bF k k) k<|am k k<|an<|tn<|sp h ⟨_,k,(pI [4] (bK k2) (cO (cI.plainO _) k<|aY) k4)⟩) λ_ h=>aU<|aC<|aC<|sp h ⟨_,k,k,(bU (bK k2) (cO (cI.plainO _) k<|aY) k4)⟩
 ·rintro e t ⟨rfl,hent⟩;exact aL<|tn<|aP hent<|sR<|am k k<|aT k2<|aI<|sp h (bT k k k (kW (fA cI k k)))
def tC (a0:Rp):Option Rp:=
 (kT a0.q).bind λv1=>
 (mJ a0.dims).bind λv2=>
 (oJ a0.maps).bind λv3=>
 some ((⟨a0.p,v1,v2,v3⟩:Rp))
theorem aFq (a0:Rp) (r:Rp) (h:tC a0=some r):HasC Tryz.prog 63 [.agg (eR a0)] (.agg (eR r)):=by
 exact hM [.cell 2 29] Tryz.func63 Tryz.ntmps63 k<|sR<|ae (wb k) k<|ae (bS aB k k) k<|an<|tn<|sQ<|aM gI<|fp k8<|lp k8<|fp k8<|lp k8<|oB h λv1 hv1 h=>ae (cQ (yW a0.q v1 hv1) k3 (aX (mW k) aV)) k<|fp k8<|lp k8<|oB h λv2 hv2 h=>ae (cL cS (aAZ a0.dims v2 hv2) k3 (dZ k aV)) k<|fp k8<|lp k8<|oB h λv3 hv3 h=>ae (cL cI (aDR a0.maps v3 hv3) k3 (dZ k aV)) k<|ae (cU aB k k k k k k) k<|ae (ws k) k<|an<|qU (by kernel_rfl)<|tn<|aI<|sp h (bT k k k (nO (aJ (k) (aJ (k) (aJ (fA cS k k) (aJ (fA cS k k) (aJ (fA cS k k) (aJ (fA cI k k) eK))))))))
def uC (a0:Mt) (a1:Mt):Option Mt:=
 (jB a0).bind λv1=>
 (jB a1).bind λv2=>
 bif decide (v1.length+v2.length≤4294967296) then
 ((mA a0.rows (v1++v2)).bind λv4=>
 some (v4))
 else none
theorem aDd (a0:Mt) (a1:Mt) (r:Mt) (h:uC a0 a1=some r):HasC Tryz.prog 120 [.agg (eM a0),.agg (eM a1)] (.agg (eM r)):=by
 exact hM [.cell 4 91] Tryz.func120 Tryz.ntmps120 k<|sR<|ae (wb k) k<|ae (wb k) k<|ae (bS aB k k) k<|an<|tn<|sQ<|aM gI<|fp k8<|lp k8<|lp k8<|oB h λv1 hv1 h=>ae (cL bH (wS a0 v1 hv1) k3 (aX (mW k) aV)) k<|lp k8<|oB h λv2 hv2 h=>ae (cL bH (wS a1 v2 hv2) k3 (aX (mW k) aV)) k<|cG h λq3 h=>ae (aMP aB (l:=v1) (m:=v2) bH q3 k k k k k k k k k k k k k k) k<|oB h λv4 hv4 h=>ae (cM (aAF a0.rows (v1++v2) v4 hv4) k3 (dZ k (aX (zY bH k k) aV))) k<|ae (ws k) k<|an<|qU (by kernel_rfl)<|tn<|aI<|sp h (bT k k k (nO (aJ (k) (aJ (k) (aJ (fA cS k k) eK)))))
def zU (a0:Mt) (a1:Mt):Option Mt:=
 (mG a0).bind λv1=>
 (mG a1).bind λv2=>
 bif decide (v1.length+v2.length≤4294967296) then
 ((vF a0.cols (v1++v2)).bind λv4=>
 some (v4))
 else none
theorem aLE (a0:Mt) (a1:Mt) (r:Mt) (h:zU a0 a1=some r):HasC Tryz.prog 172 [.agg (eM a0),.agg (eM a1)] (.agg (eM r)):=by
 exact hM [.cell 4 91] Tryz.func172 Tryz.ntmps172 k<|sR<|ae (wb k) k<|ae (wb k) k<|ae (bS aB k k) k<|an<|tn<|sQ<|aM gI<|fp k8<|lp k8<|lp k8<|oB h λv1 hv1 h=>ae (cL bH (aAK a0 v1 hv1) k3 (aX (mW k) aV)) k<|lp k8<|oB h λv2 hv2 h=>ae (cL bH (aAK a1 v2 hv2) k3 (aX (mW k) aV)) k<|cG h λq3 h=>ae (aMP aB (l:=v1) (m:=v2) bH q3 k k k k k k k k k k k k k k) k<|oB h λv4 hv4 h=>ae (cM (aGj a0.cols (v1++v2) v4 hv4) k3 (dZ k (aX (zY bH k k) aV))) k<|ae (ws k) k<|an<|qU (by kernel_rfl)<|tn<|aI<|sp h (bT k k k (nO (aJ (k) (aJ (k) (aJ (fA cS k k) eK)))))
def xX (a0:Mt) (a1:Mt) (a2:Mt):Option Mt:=
 (uC a0 a1).bind λv1=>
 (lM a2.rows a0.cols).bind λv2=>
 (uC v2 a2).bind λv3=>
 (zU v1 v3).bind λv4=>
 some (v4)
theorem aIo (a0:Mt) (a1:Mt) (a2:Mt) (r:Mt) (h:xX a0 a1 a2=some r):HasC Tryz.prog 136 [.agg (eM a0),.agg (eM a1),.agg (eM a2)] (.agg (eM r)):=by
 exact hM [.cell 6 91] Tryz.func136 Tryz.ntmps136 k<|sR<|ae (wb k) k<|ae (wb k) k<|ae (wb k) k<|ae (bS aB k k) k<|an<|tn<|sQ<|aM gI<|lp k8<|lp k8<|oB h λv1 hv1 h=>ae (cM (aDd a0 a1 v1 hv1) k3 (aX (mW k) (aX (mW k) aV))) k<|fp k8<|lp k8<|fp k8<|lp k8<|oB h λv2 hv2 h=>ae (cM (rS a2.rows a0.cols v2 hv2) k3 (dZ k (dZ k aV))) k<|lp k8<|oB h λv3 hv3 h=>ae (cM (aDd v2 a2 v3 hv3) k3 (aX (vaM k2) (aX (mW k) aV))) k<|oB h λv4 hv4 h=>ae (cM (aLE v1 v3 v4 hv4) k3 (aX (vaM k2) (aX (vaM k2) aV))) k<|ae (ws k) k<|an<|qU (by kernel_rfl)<|tn<|aI<|sp h (bT k k k (nO (aJ (k) (aJ (k) (aJ (fA cS k k) eK)))))
def oK (a1:Rp) (x1:((List Int)×Int)):Option (((List Int)×Int) ⊕ (List Int)):=
 bif decide (x1.2<(a1.dims.length:Int)) then
 ((cZ a1.dims x1.2).bind λv3=>
 (cZ x1.1 x1.2).bind λv4=>
 (cZ x1.1 x1.2).bind λv5=>
 some (.inl ((x1.1.set x1.2.toNat (wr (v4+v3))),wr (x1.2+1))))
 else
 (some (.inr x1.1))
def oM (a0:Rp) (a1:Rp) (x2:((List Mt)×Int)):Option (((List Mt)×Int) ⊕ (List Mt)):=
 bif decide (x2.2<(a1.maps.length:Int)) then
 ((cZ a1.maps x2.2).bind λv8=>
 (cZ x2.1 x2.2).bind λv9=>
 (cZ a0.maps x2.2).bind λv10=>
 (cZ a0.maps x2.2).bind λv11=>
 (lM v11.rows v8.cols).bind λv12=>
 (xX v10 v12 v8).bind λv13=>
 some (.inl ((x2.1.set x2.2.toNat v13),wr (x2.2+1))))
 else
 (some (.inr x2.1))
def tD (a0:Rp) (a1:Rp):Option Rp:=
 (tC a0).bind λv1=>
 (Lp (oK a1) (v1.dims,0)).bind λy6=>
 (Lp (oM a0 a1) (v1.maps,0)).bind λy14=>
 some ((⟨v1.p,v1.q,y6,y14⟩:Rp))
theorem aFr (a0:Rp) (a1:Rp) (r:Rp) (h:tD a0 a1=some r):HasC Tryz.prog 84 [.agg (eR a0),.agg (eR a1)] (.agg (eR r)):=by
 refine aEa aB (rvs:=[.cell 4 29]) (ns:=nmA) Tryz.func84 k k Tryz.ntmps84 k k k (λW=>?_);refine aCX<|vZ<|vZ<|tJ (λw0_2 S0_2 r0_2=>?_);refine tJ (λw0_3 S0_3 r0_3=>?_);refine tJ (λw0_4 S0_4 r0_4=>?_);refine tJ (λw0_5 S0_5 r0_5=>?_);refine aAA<|aCX<|vZ<|vZ<|tJ (λw1_2 S1_2 r1_2=>?_);refine tJ (λw1_3 S1_3 r1_3=>?_);refine tJ (λw1_4 S1_4 r1_4=>?_);refine tJ (λw1_5 S1_5 r1_5=>?_);refine aAA<|aEZ<|sS<|se (wb k) k<|se (wb k) k<|se (bS aB k k) k<|sn<|tn<|sS<|yL k8<|oB h λv1 hv1 h=>se (cRK (aFq a0 v1 hv1) k3 (fT (vrR k r0_2 r0_3 r0_4 r0_5) jD)) k<|se (bS aB k k) k<|se (ws k) k<|sn<|tn<|sQ<|sS<|fpS k8<|yL k8<|se (aDF aB r1_4 k k k) k<|eN k2<|sn<|tn<|aE<|oB h λy6 hy6 h=>cD (body:=(oK a1)) hy6 (λ(x1:((List Int)×Int))=>mN [(2,.ptr 0 0 0),(3,.ptr 1 0 0),(4,.ptr 2 0 0),(5,.ptr 3 0 0),(13,.sc w1_4),(14,.int (a1.dims.length:Int)),(15,.int x1.2)] [(0,⟨6,[[.int a0.p,.int a0.q.n,.sc w0_2,.sc w0_3,.sc w0_4,.sc w0_5]]⟩),(1,⟨6,[[.int a1.p,.int a1.q.n,.sc w1_2,.sc w1_3,.sc w1_4,.sc w1_5]]⟩),(2,⟨6,[jV]⟩),(3,⟨6,[[.int v1.p,.int v1.q.n,.own 4 0 v1.q.src.length,.own 5 0 v1.q.tgt.length,.own 6 0 x1.1.length,.own 7 0 v1.maps.length]]⟩),(4,⟨1,v1.q.src.map (ow eI)⟩),(5,⟨1,v1.q.tgt.map (ow eI)⟩),(6,⟨1,x1.1.map (ow eI)⟩),(7,⟨3,v1.maps.map (ow eM)⟩)] 8 ⟨0,true,vQ W,true⟩) (λr e t=>e= .exit 0∧Ent t (mN [(2,.ptr 0 0 0),(3,.ptr 1 0 0),(4,.ptr 2 0 0),(5,.ptr 3 0 0)] [(0,⟨6,[[.int a0.p,.int a0.q.n,.sc w0_2,.sc w0_3,.sc w0_4,.sc w0_5]]⟩),(1,⟨6,[[.int a1.p,.int a1.q.n,.sc w1_2,.sc w1_3,.sc w1_4,.sc w1_5]]⟩),(2,⟨6,[jV]⟩),(3,⟨6,[[.int v1.p,.int v1.q.n,.own 4 0 v1.q.src.length,.own 5 0 v1.q.tgt.length,.own 6 0 r.length,.own 7 0 v1.maps.length]]⟩),(4,⟨1,v1.q.src.map (ow eI)⟩),(5,⟨1,v1.q.tgt.map (ow eI)⟩),(6,⟨1,r.map (ow eI)⟩),(7,⟨3,v1.maps.map (ow eM)⟩)] 8 ⟨0,true,vQ W,true⟩)) (pI [0,1,2,7,3,4,5,6] (bK k2) (bO k<|bO k<|bO k<|fB k<|bN k<|bN k<|bN k<|cO (cI.plainO _) k<|aY) k4) ?_ ?_
 ·intro x1 o h;refine sS<|cmS k4<|sn<|tn<|sQ<|dV k h (λ_ h=>?_) λ_ h=>aU<|aC<|aC<|sp h ⟨_,k,k,(bU (bK k2) (bO k<|bO k<|bO k<|fB k<|bN k<|bN k<|bN k<|cO (cI.plainO _) k<|aY) k4)⟩;refine aG<|tn<|sQ<|aE<|sS<|eN k2<|oB h λv3 hv3 h=>se (aAH aB r1_4 hv3 k k k k k k) k<|se (aBw aB r1_4 (dH hv3) k k k k k k k) k<|gV k2<|gV k2<|sn<|tn<|rgS<|fpS k8<|yL k8<|eN k2<|oB h λv4 hv4 h=>se (xo hv4 k) k<|se (wp hv4 k) k<|eN k2<|se (bF k k) k<|oB h λv5 hv5 h=>se (xo hv5 k) k<|se (eZ aB kX (u:=wr (v4+v3)) (dH hv5) k k k k k k) k<|sn<|aS<|tn<|rgS<|se (bF k k) k<|eN k2 ?_;exact sn<|tn<|sp h ⟨_,k,(bU (bK k2) (bO k<|bO k<|bO k<|hX ⟨_,k,k,.inr ⟨_,_,k,⟨_,_,k,k,⟨_,_,k,k,⟨_,_,k,⟨k,k,k,k⟩,⟨_,_,k,⟨k,k,k,k⟩,⟨_,_,k,⟨k,k,(by simp only [aO,lA,lT,lR,lC,lN]),k⟩,⟨_,_,k,⟨k,k,k,k⟩,k⟩⟩⟩⟩⟩⟩,k⟩⟩ k<|bN k<|bN k<|bN k<|cO (cI.plainO _) k<|aY) k4)⟩
 ·rintro e t ⟨rfl,hent⟩;refine aL<|tn<|aP hent<|sQ<|sS<|fpS k8<|yL k8<|se (aDF aB r1_5 k k k) k<|eN k2<|sn<|tn<|aE<|oB h λy14 hy14 h=>cD (body:=(oM a0 a1)) hy14 (λ(x2:((List Mt)×Int))=>mN [(2,.ptr 0 0 0),(4,.ptr 1 0 0),(5,.ptr 2 0 0),(30,.sc w1_5),(31,.int (a1.maps.length:Int)),(32,.int x2.2)] [(0,⟨6,[[.int a0.p,.int a0.q.n,.sc w0_2,.sc w0_3,.sc w0_4,.sc w0_5]]⟩),(1,⟨6,[jV]⟩),(2,⟨6,[[.int v1.p,.int v1.q.n,.own 3 0 v1.q.src.length,.own 4 0 v1.q.tgt.length,.own 5 0 y6.length,.own 6 0 x2.1.length]]⟩),(3,⟨1,v1.q.src.map (ow eI)⟩),(4,⟨1,v1.q.tgt.map (ow eI)⟩),(5,⟨1,y6.map (ow eI)⟩),(6,⟨3,x2.1.map (ow eM)⟩)] 7 ⟨0,true,vQ W,true⟩) (λr e t=>e= .exit 2∧Ent t (mN [(4,.ptr 0 0 0),(5,.ptr 1 0 0)] [(0,⟨6,[jV]⟩),(1,⟨6,[[.int v1.p,.int v1.q.n,.own 2 0 v1.q.src.length,.own 3 0 v1.q.tgt.length,.own 4 0 y6.length,.own 5 0 r.length]]⟩),(2,⟨1,v1.q.src.map (ow eI)⟩),(3,⟨1,v1.q.tgt.map (ow eI)⟩),(4,⟨1,y6.map (ow eI)⟩),(5,⟨3,r.map (ow eM)⟩)] 6 ⟨0,true,vQ W,true⟩)) (pI [0,2,3,4,5,6,7] (bK k2) (bO k<|bO k<|fB k<|bN k<|bN k<|bN k<|cO (cI.plainO _) k<|aY) k4) ?_ ?_
  ·intro x2 o h;refine sS<|cmS k4<|sn<|tn<|sQ<|dV k h (λ_ h=>?_) λ_ h=>aU<|aC<|aC<|sp h ⟨_,k,k,(pI [1,2,3,4,5,6] (bK k2) (bO k<|fB k<|bN k<|bN k<|bN k<|cO (cI.plainO _) k<|aY) k4)⟩;refine aG<|tn<|sQ<|aE<|sS<|eN k2<|oB h λv8 hv8 h=>se (aAH aB r1_5 hv8 k k k k k k) k<|aQR aB [.int v8.rows,.int v8.cols,.list 1 (v8.cells.map eI)] (aDK r1_5 (dH hv8)) k k k k k k k k k<|vZ<|vZ<|tJ (λwn5 Sn5 rn5=>?_);refine aAA<|se (bS aB k k) k<|gV k2<|se (ws k) k<|sn<|tn<|oB h λv9 hv9 h=>aP (t:=mN [(2,.ptr 0 0 0),(4,.ptr 1 0 0),(5,.ptr 2 0 0),(8,.int x2.2),(9,.ptr 7 0 0),(30,.sc w1_5),(31,.int (a1.maps.length:Int)),(32,.int x2.2),(33,.bl (decide (x2.2<(a1.maps.length:Int)))),(34,.int x2.2),(35,.sc (aCe w1_5 3 x2.2.toNat)),(36,.agg [.int v8.rows,.int v8.cols,.sc wn5])] [(0,⟨6,[[.int a0.p,.int a0.q.n,.sc w0_2,.sc w0_3,.sc w0_4,.sc w0_5]]⟩),(1,⟨6,[jV]⟩),(2,⟨6,[[.int v1.p,.int v1.q.n,.own 3 0 v1.q.src.length,.own 4 0 v1.q.tgt.length,.own 5 0 y6.length,.own 6 0 x2.1.length]]⟩),(3,⟨1,v1.q.src.map (ow eI)⟩),(4,⟨1,v1.q.tgt.map (ow eI)⟩),(5,⟨1,y6.map (ow eI)⟩),(6,⟨3,(x2.1.map (ow eM)).set x2.2.toNat [.int v9.rows,.int v9.cols,.abs 1 (v9.cells.map eI)]⟩),(7,⟨3,[[.int v8.rows,.int v8.cols,.sc wn5]]⟩)] 8 ⟨0,true,vQ W,true⟩) (bU (bK k2) (bO k<|bO k<|fB k<|bN k<|bN k<|bN k<|hX ⟨_,k,k,.inl ⟨aAB (dH hv9),xD cI k⟩⟩ k<|bO k<|aY) k4)<|aP (xE (b:=6) (c:=8) (i:=x2.2.toNat) (j:=2) (n:=v9.cells.length) (A:=x2.1.map (ow eM)) (fs:=v9.cells.map (ow eI)) (by rw [eW];exact iH hv9) k k k k (aO _ _) (gR _ _) (aAo ⟨k,k,k,k,k,k,k,k,k,k,k,k,aY⟩) (aAp (skip:=[]) ⟨.inr (tK k),.inr (tK k),.inr (tK k),.inr (cS.df _ _),.inr (cS.df _ _),.inr (cS.df _ _),.inr (cI.dfS _ _ _ k),.inr (tK k),aY⟩))<|aP (t:=mN [(2,.ptr 0 0 0),(4,.ptr 1 0 0),(5,.ptr 2 0 0),(8,.int x2.2),(9,.ptr 7 0 0),(30,.sc w1_5),(31,.int (a1.maps.length:Int)),(32,.int x2.2),(33,.bl (decide (x2.2<(a1.maps.length:Int)))),(34,.int x2.2),(35,.sc (aCe w1_5 3 x2.2.toNat)),(36,.agg [.int v8.rows,.int v8.cols,.sc wn5])] [(0,⟨6,[[.int a0.p,.int a0.q.n,.sc w0_2,.sc w0_3,.sc w0_4,.sc w0_5]]⟩),(1,⟨6,[jV]⟩),(2,⟨6,[[.int v1.p,.int v1.q.n,.own 3 0 v1.q.src.length,.own 4 0 v1.q.tgt.length,.own 5 0 y6.length,.own 6 0 x2.1.length]]⟩),(3,⟨1,v1.q.src.map (ow eI)⟩),(4,⟨1,v1.q.tgt.map (ow eI)⟩),(5,⟨1,y6.map (ow eI)⟩),(6,⟨3,(x2.1.map (ow eM)).set x2.2.toNat [.int v9.rows,.int v9.cols,.own 8 0 v9.cells.length]⟩),(7,⟨3,[[.int v8.rows,.int v8.cols,.sc wn5]]⟩),(8,⟨1,v9.cells.map (ow eI)⟩)] 9 ⟨0,true,vQ W,true⟩) (fP (σ:=sg [(0,0),(1,1),(2,2),(3,3),(4,4),(5,5),(6,6),(7,7),(8,8)]) (bK k2) (bO k<|bO k<|fB k<|bN k<|bN k<|bN k<|hX ⟨_,k,k,.inr (aAY (σ:=sg [(0,0),(1,1),(2,2),(3,3),(4,4),(5,5),(6,6),(7,7),(8,8)]) (m:=9) (e:=eM) (l:=x2.1) (i:=x2.2.toNat) (c:=[.int v9.rows,.int v9.cols,.own 8 0 v9.cells.length]) (d:=[.int v9.rows,.int v9.cols,.own 8 0 v9.cells.length]) cI ⟨_,_,k,k,⟨_,_,k,k,⟨_,_,k,⟨k,k,k,k⟩,k⟩⟩⟩)⟩ k<|bO k<|bN k<|aY) k)<|aM gI<|fp k8<|lp k8<|am k k<|fp k8<|lp k8<|am k k<|oB h λv10 hv10 h=>ae (aAH aB r0_5 hv10 k k k k k k) k<|aQS aB [.int v10.rows,.int v10.cols,.list 1 (v10.cells.map eI)] (aDK r0_5 (dH hv10)) k k k k k k k k k<|vZ<|vZ<|tJ (λwn6 Sn6 rn6=>?_);exact aAA<|fp k8<|lp k8<|am k k<|oB h λv11 hv11 h=>ae (aAH aB r0_5 hv11 k k k k k k) k<|ae (aMr aB (aDK r0_5 (dH hv11)) k k k k k k) k<|ae (aMs aB (aOM (aDK r0_5 (dH hv11)) 0) k k k k k k k) k<|fp k8<|lp k8<|oB h λv12 hv12 h=>ae (cMK (rS v11.rows v8.cols v12 hv12) k3 (wkS k (wkS k jD))) k<|lp k8<|oB h λv13 hv13 h=>ae (cMK (aIo v10 v12 v8 v13 hv13) k3 (fT (.inr (dU (qX k k) (dU (qX k k) (dU (kZ k rn6) vY)))) (fT (.inl (vaM k2)) (fT (.inr (dU (qX k k) (dU (qX k k) (dU (kZ k rn5) vY)))) jD)))) k<|ae (xo hv9 k) k<|ae (aHe aB (A:=x2.1.map (ow eM)) (by rw [eW];exact iH hv9) k k k k k k k) k<|an<|qU (by kernel_rfl)<|aS<|tn<|aP (t:=mN [(2,.ptr 0 0 0),(4,.ptr 1 0 0),(5,.ptr 2 0 0),(30,.sc w1_5),(31,.int (a1.maps.length:Int)),(32,.int x2.2)] [(0,⟨6,[[.int a0.p,.int a0.q.n,.sc w0_2,.sc w0_3,.sc w0_4,.sc w0_5]]⟩),(1,⟨6,[jV]⟩),(2,⟨6,[[.int v1.p,.int v1.q.n,.own 3 0 v1.q.src.length,.own 4 0 v1.q.tgt.length,.own 5 0 y6.length,.own 6 0 ((x2.1.set x2.2.toNat v13).length)]]⟩),(3,⟨1,v1.q.src.map (ow eI)⟩),(4,⟨1,v1.q.tgt.map (ow eI)⟩),(5,⟨1,y6.map (ow eI)⟩),(6,⟨3,List.map (ow eM) (x2.1.set x2.2.toNat v13)⟩)] 11 ⟨0,true,vQ W,true⟩) (Ent.trans (yA (b:=6) (b':=10) (j:=2) (es':=v13.cells.map eI) (by rw [eW];exact iH hv9) k k k k (aO _ _) (cS.frzs _)) (bU (bK k2) (bO k<|bO k<|hX ⟨_,k,k,.inr ⟨_,_,k,⟨_,_,k,k,⟨_,_,k,k,⟨_,_,k,⟨k,k,k,k⟩,⟨_,_,k,⟨k,k,k,k⟩,⟨_,_,k,⟨k,k,k,k⟩,⟨_,_,k,⟨k,k,(by simp only [aO,lA,lT,lR,lC,lN]),k⟩,k⟩⟩⟩⟩⟩⟩,k⟩⟩ k<|bN k<|bN k<|bN k<|hX ⟨_,k,k,.inl ⟨aCV v13 k,cI.plainO _⟩⟩ k<|aY) k4))<|rgS<|se (bF k k) k<|eN k2<|sn<|tn<|sp h ⟨_,k,(bU (bK k2) (bO k<|bO k<|fB k<|bN k<|bN k<|bN k<|cO (cI.plainO _) k<|aY) k4)⟩
  ·rintro e t ⟨rfl,hent⟩;exact aL<|tn<|aP hent<|sS<|yL k8<|se (ws k) k<|sn<|tn<|aI<|sp h (bT k k k (nO (aJ (k) (aJ (k) (aJ (fA cS k k) (aJ (fA cS k k) (aJ (fA cS k k) (aJ (fA cI k k) eK))))))))
def gP (a2:(List Rp)) (x1:(Int×Int×(List Int)×(List Int)×(List Int)×(List Mt)×Int)):Option ((Int×Int×(List Int)×(List Int)×(List Int)×(List Mt)×Int) ⊕ ((Int×Int×(List Int)×(List Int)×(List Int)×(List Mt)) ⊕ (Rp×Bool))):=
 bif decide (x1.2.2.2.2.2.2<(a2.length:Int)) then
 ((cZ a2 x1.2.2.2.2.2.2).bind λv3=>
 (tD (⟨x1.1,(⟨x1.2.1,x1.2.2.1,x1.2.2.2.1⟩:Qv),x1.2.2.2.2.1,x1.2.2.2.2.2.1⟩:Rp) v3).bind λv4=>
 (zK v4).bind λv5=>
 bif !v5 then
 (some (.inr (.inr (((⟨0,(⟨0,[],[]⟩:Qv),[],[]⟩:Rp),false)))))
 else
 (some (.inl (v4.p,v4.q.n,v4.q.src,v4.q.tgt,v4.dims,v4.maps,wr (x1.2.2.2.2.2.2+1)))))
 else
 (some (.inr (.inl (x1.1,x1.2.1,x1.2.2.1,x1.2.2.2.1,x1.2.2.2.2.1,x1.2.2.2.2.2.1))))
def xO (a0:Int) (a1:Qv) (a2:(List Rp)):Option (Rp×Bool):=
 bif (decide (0≤a1.n)&&decide (a1.n≤1048576)) then
 ((rW a0 a1 (List.replicate a1.n.toNat (0:Int))).bind λv1=>
 (Lp (gP a2) (v1.p,v1.q.n,v1.q.src,v1.q.tgt,v1.dims,v1.maps,0)).bind λy7=>
 Sum.elim (λy8=>
 some (((⟨y8.1,(⟨y8.2.1,y8.2.2.1,y8.2.2.2.1⟩:Qv),y8.2.2.2.2.1,y8.2.2.2.2.2⟩:Rp),true))
 )
 (λy9=>
 some y9
 )
 y7)
 else none
theorem aFs (a0:Int) (a1:Qv) (a2:(List Rp)) (r:(Rp×Bool)) (h:xO a0 a1 a2=some r):HasC Tryz.prog 39 [.int a0,.agg (eQ a1),.list 6 (a2.map eR)] (.tuple [.agg (eR r.1),.bl r.2]):=by
 refine hM [.cell 6 29,.tmp 7] Tryz.func39 Tryz.ntmps39 k<|sR<|ae (wb k) k<|ae (bS aB k k) k<|aT k2<|sQ<|aM gI<|am k k<|lp k8<|fp k8<|lp k8<|cG h λq10 h=>ae (qT aB q10 k k k k k k k k) k<|oB h λv1 hv1 h=>ae (cR (aCf a0 a1 (List.replicate a1.n.toNat (0:Int)) v1 hv1) k3 (dZ k (aX (mW k) (aX (aQt cS k k) aV)))) k<|ae (bS aB k k) k<|ae (ws k) k<|an<|qU (by kernel_rfl)<|tn<|sQ<|sR<|am k k<|ln k4<|am k k<|an<|tn<|aE ?_;refine oB h λy7 hy7 h=>cD (body:=(gP a2)) hy7 (λ(x1:(Int×Int×(List Int)×(List Int)×(List Int)×(List Mt)×Int))=>mN [(6,.ptr 0 0 0),(8,.ptr 1 0 0),(17,.list 6 (a2.map eR)),(18,.int (a2.length:Int)),(19,.int x1.2.2.2.2.2.2)] [(0,⟨6,[jV]⟩),(1,⟨6,[[.int x1.1,.int x1.2.1,.own 2 0 x1.2.2.1.length,.own 3 0 x1.2.2.2.1.length,.own 4 0 x1.2.2.2.2.1.length,.own 5 0 x1.2.2.2.2.2.1.length]]⟩),(2,⟨1,x1.2.2.1.map (ow eI)⟩),(3,⟨1,x1.2.2.2.1.map (ow eI)⟩),(4,⟨1,x1.2.2.2.2.1.map (ow eI)⟩),(5,⟨3,x1.2.2.2.2.2.1.map (ow eM)⟩)] 6) (λr e t=>Sum.elim (λa=>(λr e t=>e= .exit 0∧Ent t (mN [(6,.ptr 0 0 0),(8,.ptr 1 0 0)] [(0,⟨6,[jV]⟩),(1,⟨6,[[.int r.1,.int r.2.1,.own 2 0 r.2.2.1.length,.own 3 0 r.2.2.2.1.length,.own 4 0 r.2.2.2.2.1.length,.own 5 0 r.2.2.2.2.2.length]]⟩),(2,⟨1,r.2.2.1.map (ow eI)⟩),(3,⟨1,r.2.2.2.1.map (ow eI)⟩),(4,⟨1,r.2.2.2.2.1.map (ow eI)⟩),(5,⟨3,r.2.2.2.2.2.map (ow eM)⟩)] 6)) a e t) (λb=>(λr e t=>e= .ret∧tI TT [.cell 6 29,.tmp 7] (.tuple [.agg (eR r.1),.bl r.2]) .ret t) b e t) r) (pI [1,7,3,4,5,6] (bK k2) (bO k<|fB k<|bN k<|bN k<|bN k<|cO (cI.plainO _) k<|aY) k4) ?_ ?_
 ·intro x1 o h;exact sR<|cm k4<|an<|tn<|sQ<|dV k h (λ_ h=>aG<|tn<|sQ<|aE<|sR<|oB h λv3 hv3 h=>ae (xl hv3 k) k<|lr k7<|ae (bS aB k k) k<|ae (ws k) k<|an<|tn<|sR<|lp k8<|lp k8<|oB h λv4 hv4 h=>ae (cR (aFr (⟨x1.1,(⟨x1.2.1,x1.2.2.1,x1.2.2.2.1⟩:Qv),x1.2.2.2.2.1,x1.2.2.2.2.2.1⟩:Rp) v3 v4 hv4) k3 (aX (vaR k8) (aX (mW k) aV))) k<|ae (ws k) k<|an<|tn<|sR<|lp k8<|oB h λv5 hv5 h=>ae (bB (aKX v4 v5 hv5) k (aX (vaR k8) aV)) k<|ae (dM k) k<|an<|tn<|dV k h (λ_ h=>sR<|ae (cU aB k k k k k k) k<|ae (ws k) k<|aT k2<|aI<|bD<|aH<|aH<|sp h ⟨_,k,k,bT k k k (dW k (cB (jC (aJ (k) (aJ (k) (aJ (k) (aJ (k) (aJ (k) (aJ (k) eK))))))) (cB (k) gE)))⟩) λ_ h=>aG<|aS<|tn<|rg<|ae (bF k k) k<|am k k<|an<|tn<|sp h ⟨_,k,(pI [0,1,7,8,9,10] (bK k2) (bO k<|fB k<|bN k<|bN k<|bN k<|cO (cI.plainO _) k<|aY) k4)⟩) λ_ h=>aU<|aC<|aC<|sp h ⟨_,k,k,(bU (bK k2) (bO k<|fB k<|bN k<|bN k<|bN k<|cO (cI.plainO _) k<|aY) k4)⟩
 ·intro e t hX;rcases y7 with y8|y9
  ·obtain ⟨rfl,hent⟩:=hX;exact aL<|tn<|aP hent<|sR<|lp k8<|ae (ws k) k<|aT k2<|aI<|sp h (bT k k k (dW k (cB (jC (aJ (k) (aJ (k) (aJ (fA cS k k) (aJ (fA cS k k) (aJ (fA cS k k) (aJ (fA cI k k) eK))))))) (cB (k) gE))))
  ·obtain ⟨rfl,hent⟩:=hX;exact bD<|aH<|sp h hent
def rI (a0:Mt) (v1:Mt) (x1:((List Int)×Int)) (x2:((List Int)×Int)):Option (((List Int)×Int) ⊕ (List Int)):=
 bif decide (x2.2<a0.cols) then
 ((cZ a0.cells (wr ((wr (x1.2*a0.cols))+x2.2))).bind λv4=>
 (cZ x2.1 (wr ((wr (x1.2*v1.cols))+x2.2))).bind λv5=>
 some (.inl ((x2.1.set ((wr ((wr (x1.2*v1.cols))+x2.2)).toNat) v4),wr (x2.2+1))))
 else
 (some (.inr x2.1))
def rJ (a0:Mt) (v1:Mt) (x1:((List Int)×Int)):Option (((List Int)×Int) ⊕ (List Int)):=
 bif decide (x1.2<a0.rows) then
 ((Lp (rI a0 v1 x1) (x1.1,0)).bind λy6=>
 some (.inl (y6,wr (x1.2+1))))
 else
 (some (.inr x1.1))
def rK (a0:Mt) (a1:Mt) (v1:Mt) (x3:((List Int)×Int)) (x4:((List Int)×Int)):Option (((List Int)×Int) ⊕ (List Int)):=
 bif decide (x4.2<a1.cols) then
 ((cZ a1.cells (wr ((wr (x3.2*a1.cols))+x4.2))).bind λv10=>
 (cZ x4.1 (wr ((wr ((wr ((wr (a0.rows+x3.2))*v1.cols))+a0.cols))+x4.2))).bind λv11=>
 some (.inl ((x4.1.set ((wr ((wr ((wr ((wr (a0.rows+x3.2))*v1.cols))+a0.cols))+x4.2)).toNat) v10),wr (x4.2+1))))
 else
 (some (.inr x4.1))
def rL (a0:Mt) (a1:Mt) (v1:Mt) (x3:((List Int)×Int)):Option (((List Int)×Int) ⊕ (List Int)):=
 bif decide (x3.2<a1.rows) then
 ((Lp (rK a0 a1 v1 x3) (x3.1,0)).bind λy12=>
 some (.inl (y12,wr (x3.2+1))))
 else
 (some (.inr x3.1))
def wP (a0:Mt) (a1:Mt):Option Mt:=
 (tT (wr (a0.rows+a1.rows)) (wr (a0.cols+a1.cols))).bind λv1=>
 (Lp (rJ a0 v1) (v1.cells,0)).bind λy7=>
 (Lp (rL a0 a1 v1) (y7,0)).bind λy13=>
 some ((⟨v1.rows,v1.cols,y13⟩:Mt))
theorem aIZ (a0:Mt) (a1:Mt) (r:Mt) (h:wP a0 a1=some r):HasC Tryz.prog 77 [.agg (eM a0),.agg (eM a1)] (.agg (eM r)):=by
 refine hM [.cell 4 91] Tryz.func77 Tryz.ntmps77 k<|sR<|ae (wb k) k<|ae (wb k) k<|ae (bS aB k k) k<|an<|tn<|sR<|fp k8<|lp k8<|fp k8<|lp k8<|ae (bF k k) k<|fp k8<|lp k8<|fp k8<|lp k8<|ae (bF k k) k<|oB h λv1 hv1 h=>ae (cM (aDU (wr (a0.rows+a1.rows)) (wr (a0.cols+a1.cols)) v1 hv1) k3 (dZ k (dZ k aV))) k<|ae (bS aB k k) k<|ae (ws k) k<|an<|tn<|sQ<|sR<|aa k k<|an ?_;refine tn<|aE<|oB h λy7 hy7 h=>cD (body:=(rJ a0 v1)) hy7 (λ(x1:((List Int)×Int))=>mN [(2,.ptr 0 0 0),(3,.ptr 1 0 0),(4,.ptr 2 0 0),(5,.ptr 3 0 0),(6,.int x1.2)] [(0,⟨3,[eM a0]⟩),(1,⟨3,[eM a1]⟩),(2,⟨3,[hJ]⟩),(3,⟨3,[[.int v1.rows,.int v1.cols,.own 4 0 x1.1.length]]⟩),(4,⟨1,x1.1.map (ow eI)⟩)] 5) (λr e t=>e= .exit 0∧Ent t (mN [(2,.ptr 0 0 0),(3,.ptr 1 0 0),(4,.ptr 2 0 0),(5,.ptr 3 0 0)] [(0,⟨3,[eM a0]⟩),(1,⟨3,[eM a1]⟩),(2,⟨3,[hJ]⟩),(3,⟨3,[[.int v1.rows,.int v1.cols,.own 4 0 r.length]]⟩),(4,⟨1,r.map (ow eI)⟩)] 5)) (pI [0,1,2,4,3] (bK k2) (bO k<|bO k<|bO k<|fB k<|bN k<|aY) k4) ?_ ?_
 ·intro x1 o h;refine sQ<|sR<|am k k<|fp k8<|lp k8<|cm k4<|an<|tn<|dV k h (λ_ h=>?_) λ_ h=>aU<|aC<|aC<|sp h ⟨_,k,k,(bU (bK k2) (bO k<|bO k<|bO k<|fB k<|bN k<|aY) k4)⟩;refine aG<|tn<|sQ<|aE<|sR<|aT k2<|aE<|oB h λy6 hy6 h=>cD (body:=(rI a0 v1 x1)) hy6 (λ(x2:((List Int)×Int))=>mN [(2,.ptr 0 0 0),(3,.ptr 1 0 0),(4,.ptr 2 0 0),(5,.ptr 3 0 0),(6,.int x1.2),(7,.int x2.2)] [(0,⟨3,[eM a0]⟩),(1,⟨3,[eM a1]⟩),(2,⟨3,[hJ]⟩),(3,⟨3,[[.int v1.rows,.int v1.cols,.own 4 0 x2.1.length]]⟩),(4,⟨1,x2.1.map (ow eI)⟩)] 5) (λr e t=>e= .exit 2∧Ent t (mN [(2,.ptr 0 0 0),(3,.ptr 1 0 0),(4,.ptr 2 0 0),(5,.ptr 3 0 0),(6,.int x1.2)] [(0,⟨3,[eM a0]⟩),(1,⟨3,[eM a1]⟩),(2,⟨3,[hJ]⟩),(3,⟨3,[[.int v1.rows,.int v1.cols,.own 4 0 r.length]]⟩),(4,⟨1,r.map (ow eI)⟩)] 5)) (bU (bK k2) (bO k<|bO k<|bO k<|fB k<|bN k<|aY) k4) ?_ ?_
  ·intro x2 o h;refine sQ<|sR<|am k k<|fp k8<|lp k8<|cm k4<|an<|tn<|dV k h (λ_ h=>?_) λ_ h=>aU<|aC<|aC<|sp h ⟨_,k,k,(bU (bK k2) (bO k<|bO k<|bO k<|fB k<|bN k<|aY) k4)⟩;refine aG<|tn<|sQ<|aE<|aM gI<|fp k8<|lp k8<|am k k<|fp k8<|lp k8<|ae (fR k k) k<|am k k<|ae (bF k k) k<|fp k8<|lp k8<|am k k<|fp k8<|lp k8<|ae (fR k k) k<|am k k<|ae (bF k k) k<|oB h λv4 hv4 h=>ae (xl hv4 k) k<|lr k7<|oB h λv5 hv5 h=>ae (xo hv5 k) k<|ae (eZ aB kX (u:=v4) (dH hv5) k k k k k k) k<|an<|qU (by kernel_rfl)<|aS<|tn ?_;exact aP (t:=mN [(2,.ptr 0 0 0),(3,.ptr 1 0 0),(4,.ptr 2 0 0),(5,.ptr 3 0 0),(6,.int x1.2),(7,.int x2.2)] [(0,⟨3,[eM a0]⟩),(1,⟨3,[eM a1]⟩),(2,⟨3,[hJ]⟩),(3,⟨3,[[.int v1.rows,.int v1.cols,.own 4 0 ((x2.1.set ((wr ((wr (x1.2*v1.cols))+x2.2)).toNat) v4).length)]]⟩),(4,⟨1,List.map (ow eI) (x2.1.set ((wr ((wr (x1.2*v1.cols))+x2.2)).toNat) v4)⟩)] 5) (bU (bK k2) (bO k<|bO k<|bO k<|hX ⟨_,k,k,.inr ⟨_,_,k,⟨_,_,k,k,⟨_,_,k,k,⟨_,_,k,⟨k,k,(by simp only [aO,lA,lT,lR,lC,lN]),k⟩,k⟩⟩⟩,k⟩⟩ k<|bN k<|aY) k4)<|rg<|am k k<|ae (bF k k) k<|aT k2<|sp h ⟨_,k,(bU (bK k2) (bO k<|bO k<|bO k<|fB k<|bN k<|aY) k4)⟩
  ·rintro e t ⟨rfl,hent⟩;exact aL<|aS<|tn<|aP hent<|rg<|am k k<|ae (bF k k) k<|aT k2<|sp h ⟨_,k,(bU (bK k2) (bO k<|bO k<|bO k<|fB k<|bN k<|aY) k4)⟩
 ·rintro e t ⟨rfl,hent⟩;refine aL<|tn<|aP hent<|sQ<|sR<|aT k2<|aE<|oB h λy13 hy13 h=>cD (body:=(rL a0 a1 v1)) hy13 (λ(x3:((List Int)×Int))=>mN [(2,.ptr 0 0 0),(3,.ptr 1 0 0),(4,.ptr 2 0 0),(5,.ptr 3 0 0),(8,.int x3.2)] [(0,⟨3,[eM a0]⟩),(1,⟨3,[eM a1]⟩),(2,⟨3,[hJ]⟩),(3,⟨3,[[.int v1.rows,.int v1.cols,.own 4 0 x3.1.length]]⟩),(4,⟨1,x3.1.map (ow eI)⟩)] 5) (λr e t=>e= .exit 4∧Ent t (mN [(4,.ptr 0 0 0),(5,.ptr 1 0 0)] [(0,⟨3,[hJ]⟩),(1,⟨3,[[.int v1.rows,.int v1.cols,.own 2 0 r.length]]⟩),(2,⟨1,r.map (ow eI)⟩)] 3)) (bU (bK k2) (bO k<|bO k<|bO k<|fB k<|bN k<|aY) k4) ?_ ?_
  ·intro x3 o h;refine sQ<|sR<|am k k<|fp k8<|lp k8<|cm k4<|an<|tn<|dV k h (λ_ h=>?_) λ_ h=>aU<|aC<|aC<|sp h ⟨_,k,k,(pI [2,3,4] (bK k2) (bO k<|fB k<|bN k<|aY) k4)⟩;refine aG<|tn<|sQ<|aE<|sR<|aT k2<|aE<|oB h λy12 hy12 h=>cD (body:=(rK a0 a1 v1 x3)) hy12 (λ(x4:((List Int)×Int))=>mN [(2,.ptr 0 0 0),(3,.ptr 1 0 0),(4,.ptr 2 0 0),(5,.ptr 3 0 0),(8,.int x3.2),(9,.int x4.2)] [(0,⟨3,[eM a0]⟩),(1,⟨3,[eM a1]⟩),(2,⟨3,[hJ]⟩),(3,⟨3,[[.int v1.rows,.int v1.cols,.own 4 0 x4.1.length]]⟩),(4,⟨1,x4.1.map (ow eI)⟩)] 5) (λr e t=>e= .exit 6∧Ent t (mN [(2,.ptr 0 0 0),(3,.ptr 1 0 0),(4,.ptr 2 0 0),(5,.ptr 3 0 0),(8,.int x3.2)] [(0,⟨3,[eM a0]⟩),(1,⟨3,[eM a1]⟩),(2,⟨3,[hJ]⟩),(3,⟨3,[[.int v1.rows,.int v1.cols,.own 4 0 r.length]]⟩),(4,⟨1,r.map (ow eI)⟩)] 5)) (bU (bK k2) (bO k<|bO k<|bO k<|fB k<|bN k<|aY) k4) ?_ ?_
   ·intro x4 o h;refine sQ<|sR<|am k k<|fp k8<|lp k8<|cm k4<|an<|tn<|dV k h (λ_ h=>?_) λ_ h=>aU<|aC<|aC<|sp h ⟨_,k,k,(bU (bK k2) (bO k<|bO k<|bO k<|fB k<|bN k<|aY) k4)⟩;refine aG<|tn<|sQ<|aE<|aM gI<|fp k8<|lp k8<|fp k8<|lp k8<|am k k<|ae (bF k k) k<|fp k8<|lp k8<|ae (fR k k) k<|fp k8<|lp k8<|ae (bF k k) k<|am k k<|ae (bF k k) k<|fp k8<|lp k8<|am k k<|fp k8<|lp k8<|ae (fR k k) k<|am k k<|ae (bF k k) k<|oB h λv10 hv10 h=>ae (xl hv10 k) k<|lr k7 ?_;exact oB h λv11 hv11 h=>ae (xo hv11 k) k<|ae (eZ aB kX (u:=v10) (dH hv11) k k k k k k) k<|an<|qU (by kernel_rfl)<|aS<|tn<|aP (t:=mN [(2,.ptr 0 0 0),(3,.ptr 1 0 0),(4,.ptr 2 0 0),(5,.ptr 3 0 0),(8,.int x3.2),(9,.int x4.2)] [(0,⟨3,[eM a0]⟩),(1,⟨3,[eM a1]⟩),(2,⟨3,[hJ]⟩),(3,⟨3,[[.int v1.rows,.int v1.cols,.own 4 0 ((x4.1.set ((wr ((wr ((wr ((wr (a0.rows+x3.2))*v1.cols))+a0.cols))+x4.2)).toNat) v10).length)]]⟩),(4,⟨1,List.map (ow eI) (x4.1.set ((wr ((wr ((wr ((wr (a0.rows+x3.2))*v1.cols))+a0.cols))+x4.2)).toNat) v10)⟩)] 5) (bU (bK k2) (bO k<|bO k<|bO k<|hX ⟨_,k,k,.inr ⟨_,_,k,⟨_,_,k,k,⟨_,_,k,k,⟨_,_,k,⟨k,k,(by simp only [aO,lA,lT,lR,lC,lN]),k⟩,k⟩⟩⟩,k⟩⟩ k<|bN k<|aY) k4)<|rg<|am k k<|ae (bF k k) k<|aT k2<|sp h ⟨_,k,(bU (bK k2) (bO k<|bO k<|bO k<|fB k<|bN k<|aY) k4)⟩
   ·rintro e t ⟨rfl,hent⟩;exact aL<|aS<|tn<|aP hent<|rg<|am k k<|ae (bF k k) k<|aT k2<|sp h ⟨_,k,(bU (bK k2) (bO k<|bO k<|bO k<|fB k<|bN k<|aY) k4)⟩
  ·rintro e t ⟨rfl,hent⟩;exact aL<|tn<|aP hent<|sR<|lp k8<|ae (ws k) k<|an<|tn<|aI<|sp h (bT k k k (nO (aJ (k) (aJ (k) (aJ (fA cS k k) eK)))))
def oN (a0:Rp) (a1:Rp) (x1:((List Int)×Int)):Option (((List Int)×Int) ⊕ (List Int)):=
 bif decide (x1.2<(a0.dims.length:Int)) then
 ((cZ a0.dims x1.2).bind λv5=>
 (cZ a1.dims x1.2).bind λv6=>
 bif decide (x1.1.length+[wr (v5+v6)].length ≤4294967296) then
 (some (.inl ((x1.1++[wr (v5+v6)]),wr (x1.2+1))))
 else none)
 else
 (some (.inr x1.1))
def oO (a0:Rp) (a1:Rp) (x2:((List Mt)×Int)):Option (((List Mt)×Int) ⊕ (List Mt)):=
 bif decide (x2.2<(a0.maps.length:Int)) then
 ((cZ a0.maps x2.2).bind λv10=>
 (cZ a1.maps x2.2).bind λv11=>
 (wP v10 v11).bind λv12=>
 bif decide (x2.1.length+1≤4294967296) then
 (some (.inl ((x2.1++[v12]),wr (x2.2+1))))
 else none)
 else
 (some (.inr x2.1))
def tE (a0:Rp) (a1:Rp):Option (Rp×Bool):=
 (wA a0 a1).bind λv1=>
 bif !v1 then
 (some (((⟨0,(⟨0,[],[]⟩:Qv),[],[]⟩:Rp),false)))
 else
 ((nT a0.q).bind λv3=>
 (Lp (oN a0 a1) (([]:(List Int)),0)).bind λy8=>
 (Lp (oO a0 a1) (([]:(List Mt)),0)).bind λy14=>
 (sH (⟨a0.p,v3,y8,y14⟩:Rp)).bind λv15=>
 bif !v15 then
 (some (((⟨0,(⟨0,[],[]⟩:Qv),[],[]⟩:Rp),false)))
 else
 (some (((⟨a0.p,v3,y8,y14⟩:Rp),true))))
theorem aFt (a0:Rp) (a1:Rp) (r:(Rp×Bool)) (h:tE a0 a1=some r):HasC Tryz.prog 35 [.agg (eR a0),.agg (eR a1)] (.tuple [.agg (eR r.1),.bl r.2]):=by
 refine hM [.cell 4 29,.tmp 5] Tryz.func35 Tryz.ntmps35 k<|sR<|ae (wb k) k<|ae (wb k) k<|ae (bS aB k k) k<|aT k2<|sQ<|sR<|lp k8<|lp k8<|oB h λv1 hv1 h=>ae (bB (aEd a0 a1 v1 hv1) k (aX (mW k) (aX (mW k) aV))) k<|ae (dM k) k<|an<|tn<|dV k h (λ_ h=>sR<|ae (cU aB k k k k k k) k<|ae (ws k) k<|aT k2<|aI<|aH<|sp h (bT k k k (dW k (cB (jC (aJ (k) (aJ (k) (aJ (k) (aJ (k) (aJ (k) (aJ (k) eK))))))) (cB (k) gE))))) λ_ h=>?_;refine aG<|tn<|sQ<|aM gI<|fp k8<|lp k8<|fp k8<|lp k8<|oB h λv3 hv3 h=>ae (cQ (aDa a0.q v3 hv3) k3 (aX (mW k) aV)) k<|ae (wl k) k<|ae (wl k) k<|ae (cU aB k k k k k k) k<|ae (bS aB k k) k<|ae (ws k) k<|an<|qU (by kernel_rfl)<|tn<|aP (t:=mN [(2,.ptr 0 0 0),(3,.ptr 1 0 0),(4,.ptr 2 0 0),(6,.ptr 7 0 0)] [(0,⟨6,[eR a0]⟩),(1,⟨6,[eR a1]⟩),(2,⟨6,[jV]⟩),(3,⟨1,v3.src.map (ow eI)⟩),(4,⟨1,v3.tgt.map (ow eI)⟩),(5,⟨1,List.map (ow eI) ([]:(List Int))⟩),(6,⟨3,List.map (ow eM) ([]:(List Mt))⟩),(7,⟨6,[[.int a0.p,.int v3.n,.own 3 0 v3.src.length,.own 4 0 v3.tgt.length,.own 5 0 (([]:(List Int)).length),.own 6 0 (([]:(List Mt)).length)]]⟩)] 8) (bU (bK k2) (bO k<|bO k<|bO k<|bN k<|bN k<|bN k<|cO (cI.plainO _) k<|hX ⟨_,k,k,.inr ⟨_,_,k,⟨_,_,k,k,⟨_,_,k,k,⟨_,_,k,⟨k,k,k,k⟩,⟨_,_,k,⟨k,k,k,k⟩,⟨_,_,k,⟨k,k,(by simp only [aO,lA,lT,lR,lC,lN]),k⟩,⟨_,_,k,⟨k,k,(by simp only [aO,lA,lT,lR,lC,lN]),k⟩,k⟩⟩⟩⟩⟩⟩,k⟩⟩ k<|aY) k4)<|sQ<|sR<|aT k2<|aE<|oB h λy8 hy8 h=>cD (body:=(oN a0 a1)) hy8 (λ(x1:((List Int)×Int))=>mN [(2,.ptr 0 0 0),(3,.ptr 1 0 0),(4,.ptr 2 0 0),(6,.ptr 3 0 0),(7,.int x1.2)] [(0,⟨6,[eR a0]⟩),(1,⟨6,[eR a1]⟩),(2,⟨6,[jV]⟩),(3,⟨6,[[.int a0.p,.int v3.n,.own 4 0 v3.src.length,.own 5 0 v3.tgt.length,.own 6 0 x1.1.length,.own 7 0 (([]:(List Mt)).length)]]⟩),(4,⟨1,v3.src.map (ow eI)⟩),(5,⟨1,v3.tgt.map (ow eI)⟩),(6,⟨1,x1.1.map (ow eI)⟩),(7,⟨3,List.map (ow eM) ([]:(List Mt))⟩)] 8) (λr e t=>e= .exit 0∧Ent t (mN [(2,.ptr 0 0 0),(3,.ptr 1 0 0),(4,.ptr 2 0 0),(6,.ptr 3 0 0)] [(0,⟨6,[eR a0]⟩),(1,⟨6,[eR a1]⟩),(2,⟨6,[jV]⟩),(3,⟨6,[[.int a0.p,.int v3.n,.own 4 0 v3.src.length,.own 5 0 v3.tgt.length,.own 6 0 r.length,.own 7 0 (([]:(List Mt)).length)]]⟩),(4,⟨1,v3.src.map (ow eI)⟩),(5,⟨1,v3.tgt.map (ow eI)⟩),(6,⟨1,r.map (ow eI)⟩),(7,⟨3,List.map (ow eM) ([]:(List Mt))⟩)] 8)) (pI [0,1,2,7,3,4,5,6] (bK k2) (bO k<|bO k<|bO k<|fB k<|bN k<|bN k<|bN k<|cO (cI.plainO _) k<|aY) k4) ?_ ?_
 ·intro x1 o h;refine sQ<|sR<|am k k<|fp k8<|lp k8<|ln k4<|cm k4<|an<|tn<|dV k h (λ_ h=>?_) λ_ h=>aU<|aC<|aC<|sp h ⟨_,k,k,(bU (bK k2) (bO k<|bO k<|bO k<|fB k<|bN k<|bN k<|bN k<|cO (cI.plainO _) k<|aY) k4)⟩;refine aG<|tn<|sQ<|aE<|aM gI<|fp k8<|lp k8<|fp k8<|lp k8<|am k k<|oB h λv5 hv5 h=>ae (xl hv5 k) k<|lr k7<|fp k8<|lp k8<|am k k<|oB h λv6 hv6 h=>ae (xl hv6 k) k<|lr k7<|ae (bF k k) k<|ae (wl k) k<|cG h λq7 h=>ae (vW aB (l:=x1.1) (m:=[wr (v5+v6)]) kX q7 k k k k k k k k k k k k) k<|fp k8<|ae (ws k) k<|an<|qU (by kernel_rfl)<|aS<|tn<|rg<|am k k<|ae (bF k k) k ?_;exact aT k2<|sp h ⟨_,k,(pI [0,1,2,3,4,5,9,7] (bK k2) (bO k<|bO k<|bO k<|fB k<|bN k<|bN k<|bN k<|cO (cI.plainO _) k<|aY) k4)⟩
 ·rintro e t ⟨rfl,hent⟩;refine aL<|tn<|aP hent<|sQ<|sR<|aT k2<|aE<|oB h λy14 hy14 h=>cD (body:=(oO a0 a1)) hy14 (λ(x2:((List Mt)×Int))=>mN [(2,.ptr 0 0 0),(3,.ptr 1 0 0),(4,.ptr 2 0 0),(6,.ptr 3 0 0),(8,.int x2.2)] [(0,⟨6,[eR a0]⟩),(1,⟨6,[eR a1]⟩),(2,⟨6,[jV]⟩),(3,⟨6,[[.int a0.p,.int v3.n,.own 4 0 v3.src.length,.own 5 0 v3.tgt.length,.own 6 0 y8.length,.own 7 0 x2.1.length]]⟩),(4,⟨1,v3.src.map (ow eI)⟩),(5,⟨1,v3.tgt.map (ow eI)⟩),(6,⟨1,y8.map (ow eI)⟩),(7,⟨3,x2.1.map (ow eM)⟩)] 8) (λr e t=>e= .exit 2∧Ent t (mN [(4,.ptr 0 0 0),(6,.ptr 1 0 0)] [(0,⟨6,[jV]⟩),(1,⟨6,[[.int a0.p,.int v3.n,.own 2 0 v3.src.length,.own 3 0 v3.tgt.length,.own 4 0 y8.length,.own 5 0 r.length]]⟩),(2,⟨1,v3.src.map (ow eI)⟩),(3,⟨1,v3.tgt.map (ow eI)⟩),(4,⟨1,y8.map (ow eI)⟩),(5,⟨3,r.map (ow eM)⟩)] 6)) (bU (bK k2) (bO k<|bO k<|bO k<|fB k<|bN k<|bN k<|bN k<|cO (cI.plainO _) k<|aY) k4) ?_ ?_
  ·intro x2 o h;refine sQ<|sR<|am k k<|fp k8<|lp k8<|ln k4<|cm k4<|an<|tn<|dV k h (λ_ h=>?_) λ_ h=>aU<|aC<|aC<|sp h ⟨_,k,k,(pI [2,3,4,5,6,7] (bK k2) (bO k<|fB k<|bN k<|bN k<|bN k<|cO (cI.plainO _) k<|aY) k4)⟩;refine aG<|tn<|sQ<|aE<|aM gI<|fp k8<|lp k8<|fp k8<|lp k8<|am k k<|oB h λv10 hv10 h=>ae (xl hv10 k) k<|lr k7<|fp k8<|lp k8<|am k k<|oB h λv11 hv11 h=>ae (xl hv11 k) k<|lr k7<|oB h λv12 hv12 h=>ae (cM (aIZ v10 v11 v12 hv12) k3 (aX (mW k) (aX (mW k) aV))) k<|ae (wl k) k<|cG h λq13 h=>ae (kK aB (l:=x2.1) (c:=[.int v12.rows,.int v12.cols,.own 8 0 v12.cells.length]) q13 k k k k k k k k k k k k k k) k<|fp k8<|ae (ws k) k<|an<|qU (by kernel_rfl)<|aS<|tn<|aP (t:=mN [(2,.ptr 0 0 0),(3,.ptr 1 0 0),(4,.ptr 2 0 0),(6,.ptr 3 0 0),(8,.int x2.2)] [(0,⟨6,[eR a0]⟩),(1,⟨6,[eR a1]⟩),(2,⟨6,[jV]⟩),(3,⟨6,[[.int a0.p,.int v3.n,.own 4 0 v3.src.length,.own 5 0 v3.tgt.length,.own 6 0 y8.length,.own 10 0 ((x2.1++[v12]).length)]]⟩),(4,⟨1,v3.src.map (ow eI)⟩),(5,⟨1,v3.tgt.map (ow eI)⟩),(6,⟨1,y8.map (ow eI)⟩),(10,⟨3,List.map (ow eM) (x2.1++[v12])⟩)] 11) (Ent.trans (eX (b:=10) (b':=8) (j:=2) (es':=v12.cells.map eI) k k k k (aO _ _) (cS.frzs _)) (bU (bK k2) (bO k<|bO k<|bO k<|hX ⟨_,k,k,.inr ⟨_,_,k,⟨_,_,k,k,⟨_,_,k,k,⟨_,_,k,⟨k,k,k,k⟩,⟨_,_,k,⟨k,k,k,k⟩,⟨_,_,k,⟨k,k,k,k⟩,⟨_,_,k,⟨k,k,(by simp only [aO,lA,lT,lR,lC,lN]),k⟩,k⟩⟩⟩⟩⟩⟩,k⟩⟩ k<|bN k<|bN k<|bN k<|hX ⟨_,k,k,.inl ⟨kY v12 k,cI.plainO _⟩⟩ k<|aY) k4))<|rg<|am k k ?_;exact ae (bF k k) k<|aT k2<|sp h ⟨_,k,(pI [0,1,2,3,4,5,6,10] (bK k2) (bO k<|bO k<|bO k<|fB k<|bN k<|bN k<|bN k<|cO (cI.plainO _) k<|aY) k4)⟩
  ·rintro e t ⟨rfl,hent⟩;exact aL<|tn<|aP hent<|sQ<|sR<|lp k8<|oB h λv15 hv15 h=>ae (bB (aBq (⟨a0.p,v3,y8,y14⟩:Rp) v15 hv15) k (aX (vaR k8) aV)) k<|ae (dM k) k<|an<|tn<|dV k h (λ_ h=>sR<|ae (cU aB k k k k k k) k<|ae (ws k) k<|aT k2<|aI<|aH<|sp h (bT k k k (dW k (cB (jC (aJ (k) (aJ (k) (aJ (k) (aJ (k) (aJ (k) (aJ (k) eK))))))) (cB (k) gE))))) λ_ h=>aG<|tn<|sR<|lp k8<|ae (ws k) k<|aT k2<|aI<|sp h (bT k k k (dW k (cB (jC (aJ (k) (aJ (k) (aJ (fA cS k k) (aJ (fA cS k k) (aJ (fA cS k k) (aJ (fA cI k k) eK))))))) (cB (k) gE))))
def dX (a2:(List Int)) (v1:((List Rp)×Bool)) (x1:((List Rp)×Int)):Option (((List Rp)×Int) ⊕ (List Rp)):=
 bif decide (x1.2<(a2.length:Int)) then
 ((cZ a2 x1.2).bind λv7=>
 (cZ v1.1 x1.2).bind λv8=>
 (zW [v8] v7).bind λv9=>
 bif decide (x1.1.length+v9.length≤4294967296) then
 (some (.inl ((x1.1++v9),wr (x1.2+1))))
 else none)
 else
 (some (.inr x1.1))
def gG (a0:Int) (a1:Qv) (a2:(List Int)):Option (Rp×Bool):=
 (jK a0 a1).bind λv1=>
 bif !v1.2 then
 (some (((⟨0,(⟨0,[],[]⟩:Qv),[],[]⟩:Rp),false)))
 else
 (bif !decide ((a2.length:Int)=((v1.1.length:Nat):Int)) then
 (some (((⟨0,(⟨0,[],[]⟩:Qv),[],[]⟩:Rp),false)))
 else
 ((hO a2 0 8).bind λv4=>
 bif !v4 then
 (some (((⟨0,(⟨0,[],[]⟩:Qv),[],[]⟩:Rp),false)))
 else
 ((Lp (dX a2 v1) ([],0)).bind λy11=>
 (xO a0 a1 y11).bind λv12=>
 some ((v12.1,v12.2)))))
theorem rZ (a0:Int) (a1:Qv) (a2:(List Int)) (r:(Rp×Bool)) (h:gG a0 a1 a2=some r):HasC Tryz.prog 11 [.int a0,.agg (eQ a1),.list 1 (a2.map eI)] (.tuple [.agg (eR r.1),.bl r.2]):=by
 refine hM [.cell 6 29,.tmp 7] Tryz.func11 Tryz.ntmps11 k<|sR<|ae (wb k) k<|ae (bS aB k k) k<|aT k2<|sR<|am k k<|lp k8<|oB h λv1 hv1 h=>ae (cT sC (aAt a0 a1 v1 hv1) k3 (dZ k (aX (mW k) aV))) k<|am k k<|ae (bJ k k (by intro _ h;cases h)) k<|ae (bJ k k (by intro _ h;cases h)) k<|aa k k<|aT k2<|sQ<|sR<|am k k<|ae (dM k) k<|am k k<|tG h (λq2 h=>aZ 21 k q2<|aK k4<|aK k4<|ak k k<|pk k3<|am k k<|aK k4<|ak k k<|pk k3<|an<|tn<|aP (t:=mN [(0,.int a0),(2,.list 1 (a2.map eI)),(4,.ptr 0 0 0),(6,.ptr 1 0 0),(8,.own 2 0 v1.1.length),(32,.bl true)] [(0,⟨3,[eQ a1]⟩),(1,⟨6,[jV]⟩),(2,⟨6,v1.1.map (ow eR)⟩)] 3) (bU (bK k2) (bO k<|bO k<|cO (sC.plainO _) k<|aY) k4)<|fS k k<|sR<|ae (cU aB k k k k k k) k<|ae (ws k) k<|aT k2<|aI<|aH<|sp h (bT k k k (dW k (cB (jC (aJ (k) (aJ (k) (aJ (k) (aJ (k) (aJ (k) (aJ (k) eK))))))) (cB (k) gE))))) λq2 h=>?_;refine aZ 21 k q2<|am k k<|ln k4<|am k k<|ae (bX aB k k k k) k<|cm k4<|pk k3<|am k k<|tG h (λq3 h=>aZ 28 k q3<|aK k4<|ak k k<|pk k3<|an<|tn<|aP (t:=mN [(0,.int a0),(2,.list 1 (a2.map eI)),(4,.ptr 0 0 0),(6,.ptr 1 0 0),(8,.own 2 0 v1.1.length),(32,.bl true)] [(0,⟨3,[eQ a1]⟩),(1,⟨6,[jV]⟩),(2,⟨6,v1.1.map (ow eR)⟩)] 3) (bU (bK k2) (bO k<|bO k<|cO (sC.plainO _) k<|aY) k4)<|fS k k<|sR<|ae (cU aB k k k k k k) k<|ae (ws k) k<|aT k2<|aI<|aH<|sp h (bT k k k (dW k (cB (jC (aJ (k) (aJ (k) (aJ (k) (aJ (k) (aJ (k) (aJ (k) eK))))))) (cB (k) gE))))) λq3 h=>?_;refine aZ 28 k q3<|am k k<|oB h λv4 hv4 h=>ae (bB (pA a2 0 8 v4 hv4) k (dZ k (dZ k (dZ k aV)))) k<|ae (dM k) k<|pk k3<|an<|tn<|aP (t:=mN [(0,.int a0),(2,.list 1 (a2.map eI)),(4,.ptr 0 0 0),(6,.ptr 1 0 0),(8,.own 2 0 v1.1.length),(32,.bl (!v4))] [(0,⟨3,[eQ a1]⟩),(1,⟨6,[jV]⟩),(2,⟨6,v1.1.map (ow eR)⟩)] 3) (bU (bK k2) (bO k<|bO k<|cO (sC.plainO _) k<|aY) k4)<|dV k h (λ_ h=>sR<|ae (cU aB k k k k k k) k<|ae (ws k) k<|aT k2<|aI<|aH<|sp h (bT k k k (dW k (cB (jC (aJ (k) (aJ (k) (aJ (k) (aJ (k) (aJ (k) (aJ (k) eK))))))) (cB (k) gE))))) λ_ h=>?_;refine aG<|tn<|sR<|aT k2<|sQ<|sR<|am k k<|ln k4<|am k k<|an<|tn<|aE<|oB h λy11 hy11 h=>cD (body:=(dX a2 v1)) hy11 (λ(x1:((List Rp)×Int))=>mN [(0,.int a0),(4,.ptr 0 0 0),(6,.ptr 1 0 0),(8,.own 2 0 v1.1.length),(10,.own 3 0 x1.1.length),(34,.list 1 (a2.map eI)),(35,.int (a2.length:Int)),(36,.int x1.2)] [(0,⟨3,[eQ a1]⟩),(1,⟨6,[jV]⟩),(2,⟨6,v1.1.map (ow eR)⟩),(3,⟨6,x1.1.map eR⟩)] 4) (λr e t=>e= .exit 0∧Ent t (mN [(0,.int a0),(4,.ptr 0 0 0),(6,.ptr 1 0 0),(10,.own 2 0 r.length)] [(0,⟨3,[eQ a1]⟩),(1,⟨6,[jV]⟩),(2,⟨6,r.map eR⟩)] 3)) (fP (σ:=sg [(0,0),(1,1),(2,2)]) (mX 4 k2 (kP ⟨_,k,⟨k,k,k,k⟩⟩ (bK k2))) (bO k<|bO k<|cO (sC.plainO _) k<|hX k k<|aY) k) ?_ ?_
 ·intro x1 o h;refine sR<|cm k4<|an<|tn<|sQ<|dV k h (λ_ h=>?_) λ_ h=>aU<|aC<|aC<|sp h ⟨_,k,k,(pI [0,1,3] (bK k2) (bO k<|bO k<|cO (sC.plainE _) k<|aY) k4)⟩;refine aG<|tn<|sQ<|aE<|sR<|am k k<|oB h λv7 hv7 h=>ae (xl hv7 k) k<|lr k7<|aa k k<|aT k2<|rg<|am k k<|am k k<|am k k<|oB h λv8 hv8 h=>ae (xo hv8 k) k<|ae (wp hv8 k) k<|ae (wl k) k<|am k k<|oB h λv9 hv9 h=>ae (uA (σ:=sg []) (σ':=sg [(5,0)]) (touch:=[4]) (news:=[5]) (hl2:=[(5,⟨6,v9.map eR⟩)]) (n':=6) (r2:= .own 5 0 v9.length) (aQQ [v8] v7 v9 hv9) k k ⟨_,_,k,(.inr ⟨(aQu k k ⟨_,_,k,⟨_,_,k,k,⟨_,_,k,k,⟨_,_,k,⟨k,k⟩,⟨_,_,k,⟨k,k⟩,⟨_,_,k,⟨k,k⟩,⟨_,_,k,⟨k,k⟩,k⟩⟩⟩⟩⟩⟩,k⟩),k,k⟩),⟨_,_,k,(.inl k),k⟩⟩ aY k k k ⟨⟨_,k,k,.inl ⟨k,sC.plainE _⟩⟩,k,aY⟩ k (.inl ⟨k,k,(by simp only [aO,lA,lT,lR,lC,lN]),k⟩) k ⟨k,sC.tamdE _ _,aY⟩ k k) k<|cG h λq10 h=>ae (vW aB (l:=x1.1) (m:=v9) sC q10 k k k k k ((aTA sC k k)) k k k k k k) k<|aa k k<|an<|aS<|tn<|rg<|ae (bF k k) k ?_;exact am k k<|an<|tn<|sp h ⟨_,k,(pI [0,1,2,6] (bK k2) (bO k<|bO k<|cO (sC.plainO _) k<|cO (sC.plainE _) k<|aY) k4)⟩
 ·rintro e t ⟨rfl,hent⟩;exact aL<|tn<|aP hent<|sR<|am k k<|lp k8<|am k k<|oB h λv12 hv12 h=>ae (AEff.conv (pN (x:= .tuple [.agg [.int v12.1.p,.int v12.1.q.n,.own 3 0 (v12.1.q.src.map eI).length,.own 4 0 (v12.1.q.tgt.map eI).length,.own 5 0 (v12.1.dims.map eI).length,.own 6 0 (v12.1.maps.map eM).length],.bl v12.2]) (nb:=[(3,⟨1,dD (v12.1.q.src.map eI)⟩),(4,⟨1,dD (v12.1.q.tgt.map eI)⟩),(5,⟨1,dD (v12.1.dims.map eI)⟩),(6,⟨3,dD (v12.1.maps.map eM)⟩)]) (aFs a0 a1 y11 v12 hv12) k (by rfl) k k (gD (cA aY (cA aY (cA (cS.good _) (cA (cS.good _) (cA (cS.good _) (cA (cI.good _) vI)))))) (gD aY vX)) (dZ k (aX (mW k) (aX (aQs sC k k) aV)))) (v':= .tuple [.agg [.int v12.1.p,.int v12.1.q.n,.own 3 0 v12.1.q.src.length,.own 4 0 v12.1.q.tgt.length,.own 5 0 v12.1.dims.length,.own 6 0 v12.1.maps.length],.bl v12.2]) (ed':=[(3,some ⟨1,v12.1.q.src.map (ow eI)⟩),(4,some ⟨1,v12.1.q.tgt.map (ow eI)⟩),(5,some ⟨1,v12.1.dims.map (ow eI)⟩),(6,some ⟨3,v12.1.maps.map (ow eM)⟩)]) (by simp only [aO]) (wR (nb':=[(3,⟨1,v12.1.q.src.map (ow eI)⟩),(4,⟨1,v12.1.q.tgt.map (ow eI)⟩),(5,⟨1,v12.1.dims.map (ow eI)⟩),(6,⟨3,v12.1.maps.map (ow eM)⟩)]) (by simp only [gR]))) k<|ae (bJ k k (by intro _ h;cases h)) k<|ae (bJ k k (by intro _ h;cases h)) k<|ae (ws k) k<|aT k2<|aI<|sp h (bT k k k (dW k (cB (jC (aJ (k) (aJ (k) (aJ (fA cS k k) (aJ (fA cS k k) (aJ (fA cS k k) (aJ (fA cI k k) eK))))))) (cB (k) gE))))
def dY (a2:(List Int)) (v1:((List Rp)×Bool)) (x1:(Int×Int×(List Int)×(List Int)×(List Int)×(List Mt)×Int)) (x2:(Int×Int×(List Int)×(List Int)×(List Int)×(List Mt)×Int)):Option ((Int×Int×(List Int)×(List Int)×(List Int)×(List Mt)×Int) ⊕ ((Int×Int×(List Int)×(List Int)×(List Int)×(List Mt)) ⊕ (Rp×Bool))):=
 (cZ a2 x1.2.2.2.2.2.2).bind λv9=>
 bif decide (x2.2.2.2.2.2.2<v9) then
 ((cZ v1.1 x1.2.2.2.2.2.2).bind λv11=>
 (tE (⟨x2.1,(⟨x2.2.1,x2.2.2.1,x2.2.2.2.1⟩:Qv),x2.2.2.2.2.1,x2.2.2.2.2.2.1⟩:Rp) v11).bind λv12=>
 bif !v12.2 then
 (some (.inr (.inr (((⟨0,(⟨0,[],[]⟩:Qv),[],[]⟩:Rp),false)))))
 else
 (some (.inl (v12.1.p,v12.1.q.n,v12.1.q.src,v12.1.q.tgt,v12.1.dims,v12.1.maps,wr (x2.2.2.2.2.2.2+1)))))
 else
 (some (.inr (.inl (x2.1,x2.2.1,x2.2.2.1,x2.2.2.2.1,x2.2.2.2.2.1,x2.2.2.2.2.2.1))))
def cY (a2:(List Int)) (v1:((List Rp)×Bool)) (x1:(Int×Int×(List Int)×(List Int)×(List Int)×(List Mt)×Int)):Option ((Int×Int×(List Int)×(List Int)×(List Int)×(List Mt)×Int) ⊕ ((Int×Int×(List Int)×(List Int)×(List Int)×(List Mt)) ⊕ (Rp×Bool))):=
 bif decide (x1.2.2.2.2.2.2<(a2.length:Int)) then
 ((cZ a2 x1.2.2.2.2.2.2).bind λv6=>
 (jR v6 0 8).bind λv7=>
 bif !v7 then
 (some (.inr (.inr (((⟨0,(⟨0,[],[]⟩:Qv),[],[]⟩:Rp),false)))))
 else
 ((Lp (dY a2 v1 x1) (x1.1,x1.2.1,x1.2.2.1,x1.2.2.2.1,x1.2.2.2.2.1,x1.2.2.2.2.2.1,0)).bind λy14=>
 Sum.elim (λy15=>
 some (.inl (y15.1,y15.2.1,y15.2.2.1,y15.2.2.2.1,y15.2.2.2.2.1,y15.2.2.2.2.2,wr (x1.2.2.2.2.2.2+1)))
 )
 (λy16=>
 some (.inr (.inr y16))
 )
 y14))
 else
 (some (.inr (.inl (x1.1,x1.2.1,x1.2.2.1,x1.2.2.2.1,x1.2.2.2.2.1,x1.2.2.2.2.2.1))))
def iQ (a0:Int) (a1:Qv) (a2:(List Int)):Option (Rp×Bool):=
 (jL a0 a1).bind λv1=>
 bif !v1.2 then
 (some (((⟨0,(⟨0,[],[]⟩:Qv),[],[]⟩:Rp),false)))
 else
 (bif !decide ((a2.length:Int)=((v1.1.length:Nat):Int)) then
 (some (((⟨0,(⟨0,[],[]⟩:Qv),[],[]⟩:Rp),false)))
 else
 (bif (decide (0≤a1.n)&&decide (a1.n≤1048576)) then
 ((uB a0 a1 (List.replicate a1.n.toNat (0:Int))).bind λv4=>
 (Lp (cY a2 v1) (v4.p,v4.q.n,v4.q.src,v4.q.tgt,v4.dims,v4.maps,0)).bind λy17=>
 Sum.elim (λy18=>
 some (((⟨y18.1,(⟨y18.2.1,y18.2.2.1,y18.2.2.2.1⟩:Qv),y18.2.2.2.2.1,y18.2.2.2.2.2⟩:Rp),true))
 )
 (λy19=>
 some y19
 )
 y17)
 else none))
theorem aAL (a0:Int) (a1:Qv) (a2:(List Int)) (r:(Rp×Bool)) (h:iQ a0 a1 a2=some r):HasC Tryz.prog 8 [.int a0,.agg (eQ a1),.list 1 (a2.map eI)] (.tuple [.agg (eR r.1),.bl r.2]):=by
 refine hM [.cell 6 29,.tmp 7] Tryz.func8 Tryz.ntmps8 k<|sR<|ae (wb k) k<|ae (bS aB k k) k<|aT k2<|sR<|am k k<|lp k8<|oB h λv1 hv1 h=>ae (cT sC (aAu a0 a1 v1 hv1) k3 (dZ k (aX (mW k) aV))) k<|am k k<|ae (bJ k k (by intro _ h;cases h)) k<|ae (bJ k k (by intro _ h;cases h)) k<|aa k k<|aT k2<|sQ<|sR<|am k k<|ae (dM k) k<|am k k<|tG h (λq2 h=>aZ 23 k q2<|aK k4<|aK k4<|ak k k<|pk k3<|an<|tn<|fS k k<|sR<|ae (cU aB k k k k k k) k<|ae (ws k) k<|aT k2<|aI<|aH<|sp h (bT k k k (dW k (cB (jC (aJ (k) (aJ (k) (aJ (k) (aJ (k) (aJ (k) (aJ (k) eK))))))) (cB (k) gE))))) λq2 h=>?_;refine aZ 23 k q2<|am k k<|ln k4<|am k k<|ae (bX aB k k k k) k<|cm k4<|pk k3<|an<|tn<|dV k h (λ_ h=>sR<|ae (cU aB k k k k k k) k<|ae (ws k) k<|aT k2<|aI<|aH<|sp h (bT k k k (dW k (cB (jC (aJ (k) (aJ (k) (aJ (k) (aJ (k) (aJ (k) (aJ (k) eK))))))) (cB (k) gE))))) λ_ h=>?_;refine aG<|tn<|sQ<|aM gI<|am k k<|lp k8<|fp k8<|lp k8<|cG h λq20 h=>ae (qT aB q20 k k k k k k k k) k<|oB h λv4 hv4 h=>ae (cR (aDb a0 a1 (List.replicate a1.n.toNat (0:Int)) v4 hv4) k3 (dZ k (aX (mW k) (aX (aQt cS k k) aV)))) k<|ae (bS aB k k) k<|ae (ws k) k<|an<|qU (by kernel_rfl)<|tn<|aP (t:=mN [(2,.list 1 (a2.map eI)),(6,.ptr 1 0 0),(8,.own 2 0 v1.1.length),(10,.ptr 8 0 0)] [(1,⟨6,[jV]⟩),(2,⟨6,v1.1.map (ow eR)⟩),(4,⟨1,v4.q.src.map (ow eI)⟩),(5,⟨1,v4.q.tgt.map (ow eI)⟩),(6,⟨1,v4.dims.map (ow eI)⟩),(7,⟨3,v4.maps.map (ow eM)⟩),(8,⟨6,[oRp v4 4 5 6 7]⟩)] 9) (bU (bK k2) (bO k<|cO (sC.plainO _) k<|bN k<|bN k<|bN k<|cO (cI.plainO _) k<|fB k<|aY) k4)<|sQ<|sR<|aT k2<|aE<|oB h λy17 hy17 h=>cD (body:=(cY a2 v1)) hy17 (λ(x1:(Int×Int×(List Int)×(List Int)×(List Int)×(List Mt)×Int))=>mN [(2,.list 1 (a2.map eI)),(6,.ptr 0 0 0),(8,.own 1 0 v1.1.length),(10,.ptr 2 0 0),(11,.int x1.2.2.2.2.2.2)] [(0,⟨6,[jV]⟩),(1,⟨6,v1.1.map (ow eR)⟩),(2,⟨6,[[.int x1.1,.int x1.2.1,.own 3 0 x1.2.2.1.length,.own 4 0 x1.2.2.2.1.length,.own 5 0 x1.2.2.2.2.1.length,.own 6 0 x1.2.2.2.2.2.1.length]]⟩),(3,⟨1,x1.2.2.1.map (ow eI)⟩),(4,⟨1,x1.2.2.2.1.map (ow eI)⟩),(5,⟨1,x1.2.2.2.2.1.map (ow eI)⟩),(6,⟨3,x1.2.2.2.2.2.1.map (ow eM)⟩)] 7) (λr e t=>Sum.elim (λa=>(λr e t=>e= .exit 0∧Ent t (mN [(6,.ptr 0 0 0),(10,.ptr 1 0 0)] [(0,⟨6,[jV]⟩),(1,⟨6,[[.int r.1,.int r.2.1,.own 2 0 r.2.2.1.length,.own 3 0 r.2.2.2.1.length,.own 4 0 r.2.2.2.2.1.length,.own 5 0 r.2.2.2.2.2.length]]⟩),(2,⟨1,r.2.2.1.map (ow eI)⟩),(3,⟨1,r.2.2.2.1.map (ow eI)⟩),(4,⟨1,r.2.2.2.2.1.map (ow eI)⟩),(5,⟨3,r.2.2.2.2.2.map (ow eM)⟩)] 6)) a e t) (λb=>(λr e t=>e= .ret∧tI TT [.cell 6 29,.tmp 7] (.tuple [.agg (eR r.1),.bl r.2]) .ret t) b e t) r) (pI [1,2,8,4,5,6,7] (bK k2) (bO k<|cO (sC.plainO _) k<|fB k<|bN k<|bN k<|bN k<|cO (cI.plainO _) k<|aY) k4) ?_ ?_
 ·intro x1 o h;refine sQ<|sR<|am k k<|am k k<|ln k4<|cm k4<|an<|tn<|dV k h (λ_ h=>?_) λ_ h=>aU<|aC<|aC<|sp h ⟨_,k,k,(pI [0,2,3,4,5,6] (bK k2) (bO k<|fB k<|bN k<|bN k<|bN k<|cO (cI.plainO _) k<|aY) k4)⟩;refine aG<|tn<|sQ<|aE<|sQ<|sR<|am k k<|am k k<|oB h λv6 hv6 h=>ae (xl hv6 k) k<|lr k7<|oB h λv7 hv7 h=>ae (bB (nA v6 0 8 v7 hv7) k (dZ k (dZ k (dZ k aV)))) k<|ae (dM k) k<|an<|tn<|dV k h (λ_ h=>sR<|ae (cU aB k k k k k k) k<|ae (ws k) k<|aT k2<|aI<|aH<|bD<|aH<|aH<|sp h ⟨_,k,k,bT k k k (dW k (cB (jC (aJ (k) (aJ (k) (aJ (k) (aJ (k) (aJ (k) (aJ (k) eK))))))) (cB (k) gE)))⟩) λ_ h=>?_;refine aG<|tn<|sR<|aT k2<|aE<|oB h λy14 hy14 h=>cD (body:=(dY a2 v1 x1)) hy14 (λ(x2:(Int×Int×(List Int)×(List Int)×(List Int)×(List Mt)×Int))=>mN [(2,.list 1 (a2.map eI)),(6,.ptr 0 0 0),(8,.own 1 0 v1.1.length),(10,.ptr 2 0 0),(11,.int x1.2.2.2.2.2.2),(12,.int x2.2.2.2.2.2.2)] [(0,⟨6,[jV]⟩),(1,⟨6,v1.1.map (ow eR)⟩),(2,⟨6,[[.int x2.1,.int x2.2.1,.own 3 0 x2.2.2.1.length,.own 4 0 x2.2.2.2.1.length,.own 5 0 x2.2.2.2.2.1.length,.own 6 0 x2.2.2.2.2.2.1.length]]⟩),(3,⟨1,x2.2.2.1.map (ow eI)⟩),(4,⟨1,x2.2.2.2.1.map (ow eI)⟩),(5,⟨1,x2.2.2.2.2.1.map (ow eI)⟩),(6,⟨3,x2.2.2.2.2.2.1.map (ow eM)⟩)] 7) (λr e t=>Sum.elim (λa=>(λr e t=>e= .exit 2∧Ent t (mN [(2,.list 1 (a2.map eI)),(6,.ptr 0 0 0),(8,.own 1 0 v1.1.length),(10,.ptr 2 0 0),(11,.int x1.2.2.2.2.2.2)] [(0,⟨6,[jV]⟩),(1,⟨6,v1.1.map (ow eR)⟩),(2,⟨6,[[.int r.1,.int r.2.1,.own 3 0 r.2.2.1.length,.own 4 0 r.2.2.2.1.length,.own 5 0 r.2.2.2.2.1.length,.own 6 0 r.2.2.2.2.2.length]]⟩),(3,⟨1,r.2.2.1.map (ow eI)⟩),(4,⟨1,r.2.2.2.1.map (ow eI)⟩),(5,⟨1,r.2.2.2.2.1.map (ow eI)⟩),(6,⟨3,r.2.2.2.2.2.map (ow eM)⟩)] 7)) a e t) (λb=>(λr e t=>e= .ret∧tI TT [.cell 6 29,.tmp 7] (.tuple [.agg (eR r.1),.bl r.2]) .ret t) b e t) r) (bU (bK k2) (bO k<|cO (sC.plainO _) k<|fB k<|bN k<|bN k<|bN k<|cO (cI.plainO _) k<|aY) k4) ?_ ?_
  ·intro x2 o h;refine sQ<|sR<|am k k<|am k k<|am k k<|oB h λv9 hv9 h=>ae (xl hv9 k) k<|lr k7<|cm k4<|an<|tn<|dV k h (λ_ h=>?_) λ_ h=>aU<|aC<|aC<|sp h ⟨_,k,k,(bU (bK k2) (bO k<|cO (sC.plainO _) k<|fB k<|bN k<|bN k<|bN k<|cO (cI.plainO _) k<|aY) k4)⟩;exact aG<|tn<|sQ<|aE<|sQ<|aM gI<|lp k8<|am k k<|am k k<|oB h λv11 hv11 h=>ae (xo hv11 k) k<|ae (wp hv11 k) k<|oB h λv12 hv12 h=>ae (AEff.conv (pN (x:= .tuple [.agg [.int v12.1.p,.int v12.1.q.n,.own 7 0 (v12.1.q.src.map eI).length,.own 8 0 (v12.1.q.tgt.map eI).length,.own 9 0 (v12.1.dims.map eI).length,.own 10 0 (v12.1.maps.map eM).length],.bl v12.2]) (nb:=[(7,⟨1,dD (v12.1.q.src.map eI)⟩),(8,⟨1,dD (v12.1.q.tgt.map eI)⟩),(9,⟨1,dD (v12.1.dims.map eI)⟩),(10,⟨3,dD (v12.1.maps.map eM)⟩)]) (aFt (⟨x2.1,(⟨x2.2.1,x2.2.2.1,x2.2.2.2.1⟩:Qv),x2.2.2.2.2.1,x2.2.2.2.2.2.1⟩:Rp) v11 v12 hv12) k (by rfl) k k (gD (cA aY (cA aY (cA (cS.good _) (cA (cS.good _) (cA (cS.good _) (cA (cI.good _) vI)))))) (gD aY vX)) (aX (vaR k8) (aX (mW k) aV))) (v':= .tuple [.agg [.int v12.1.p,.int v12.1.q.n,.own 7 0 v12.1.q.src.length,.own 8 0 v12.1.q.tgt.length,.own 9 0 v12.1.dims.length,.own 10 0 v12.1.maps.length],.bl v12.2]) (ed':=[(7,some ⟨1,v12.1.q.src.map (ow eI)⟩),(8,some ⟨1,v12.1.q.tgt.map (ow eI)⟩),(9,some ⟨1,v12.1.dims.map (ow eI)⟩),(10,some ⟨3,v12.1.maps.map (ow eM)⟩)]) (by simp only [aO]) (wR (nb':=[(7,⟨1,v12.1.q.src.map (ow eI)⟩),(8,⟨1,v12.1.q.tgt.map (ow eI)⟩),(9,⟨1,v12.1.dims.map (ow eI)⟩),(10,⟨3,v12.1.maps.map (ow eM)⟩)]) (by simp only [gR]))) k<|am k k<|ae (bJ k k (by intro _ h;cases h)) k<|ae (bJ k k (by intro _ h;cases h)) k<|ae (bS aB k k) k<|ae (ws k) k<|aa k k<|an<|qU (by kernel_rfl)<|tn<|sQ<|sR<|am k k<|ae (dM k) k<|an<|tn<|dV k h (λ_ h=>sR<|ae (cU aB k k k k k k) k<|ae (ws k) k<|aT k2<|aI<|aH<|bD<|aH<|aH<|sp h ⟨_,k,k,bT k k k (dW k (cB (jC (aJ (k) (aJ (k) (aJ (k) (aJ (k) (aJ (k) (aJ (k) eK))))))) (cB (k) gE)))⟩) λ_ h=>aG<|tn<|rg<|lp k8<|ae (ws k) k<|an<|aS<|tn<|rg<|am k k<|ae (bF k k) k<|aT k2<|sp h ⟨_,k,(pI [0,1,2,7,8,9,10] (bK k2) (bO k<|cO (sC.plainO _) k<|fB k<|bN k<|bN k<|bN k<|cO (cI.plainO _) k<|aY) k4)⟩
  ·intro e t hX;rcases y14 with y15|y16
   ·obtain ⟨rfl,hent⟩:=hX;exact aL<|aS<|tn<|aP hent<|rg<|am k k<|ae (bF k k) k<|aT k2<|sp h ⟨_,k,(bU (bK k2) (bO k<|cO (sC.plainO _) k<|fB k<|bN k<|bN k<|bN k<|cO (cI.plainO _) k<|aY) k4)⟩
   ·obtain ⟨rfl,hent⟩:=hX;exact bD<|bD<|aH<|aH<|sp h ⟨_,k,k,hent⟩
 ·intro e t hX;rcases y17 with y18|y19
  ·obtain ⟨rfl,hent⟩:=hX;exact aL<|tn<|aP hent<|sR<|lp k8<|ae (ws k) k<|aT k2<|aI<|sp h (bT k k k (dW k (cB (jC (aJ (k) (aJ (k) (aJ (fA cS k k) (aJ (fA cS k k) (aJ (fA cS k k) (aJ (fA cI k k) eK))))))) (cB (k) gE))))
  ·obtain ⟨rfl,hent⟩:=hX;exact bD<|aH<|sp h hent
end
noncomputable section
def aGk (r c:Nat) (F:Nat→Nat→Int):List (List Int):=(List.range c).map λk=>rN r λi=>F i k
def aGl (r c:Nat) (F:Nat→Nat→Int):List (List Int):=(List.range r).map λi=>rN c (F i)
def aIa (c:Nat) (F G:Nat→Nat→Int):Nat→Nat→Int:=λi j=>if j<c then F i j else G i (j - c)
def aJv (r:Nat) (F G:Nat→Nat→Int):Nat→Nat→Int:=λi j=>if i<r then F i j else G (i - r) j
theorem aSS (r c d:Nat) (F G:Nat→Nat→Int):aGk r c F++aGk r d G=aGk r (c+d) (aIa c F G):=by
 unfold aGk;rw [List.range_add,List.map_append,List.map_map];congr 1
 ·refine kQ λk hk=>xI λi _=>?_;simp only [aIa];rw [aR (List.mem_range.1 hk)]
 ·refine kQ λk hk=>?_;show _=rN r λi=>aIa c F G i (c+k);refine xI λi _=>?_;simp only [aIa];rw [aQ (by omega),Nat.add_sub_cancel_left]
theorem aST (r s c:Nat) (F G:Nat→Nat→Int):aGl r c F++aGl s c G=aGl (r+s) c (aJv r F G):=by
 unfold aGl;rw [List.range_add,List.map_append,List.map_map];congr 1
 ·refine kQ λk hk=>xI λi _=>?_;simp only [aJv];rw [aR (List.mem_range.1 hk)]
 ·refine kQ λk hk=>?_;show _=rN c (aJv r F G (r+k));refine xI λi _=>?_;simp only [aJv];rw [aQ (by omega),Nat.add_sub_cancel_left]
theorem aLF {a b:Nat} (ha:a≤64) (hb:b≤64):a*b≤1048576:=by
 have:=Nat.mul_le_mul ha hb;omega
theorem aQT {r c k:Nat} (hN:r*c≤1048576) (hr:r≤1048576) (hk:k<c) (F:Nat→Nat→Int):nN ⟨r,c,cK r c F⟩ k=some (rN r λi=>F i k):=by
 unfold nN;simp only;rw [bG (by omega),bG (by omega:(r:Int)≤1048576),Bool.and_self,aN];rw [dR (r:=rN r λi=>F i k) (λt=>(rN r (λi=>if i<t then F i k else 0),(t:Int))) r (by simp [aPr]) (λt ht=>?_) (λ_=>?_),aD]
 ·unfold kJ;simp only [List.length_replicate,dE];rw [iV ht,aN,atT hN ht hk,aD,aGp _ ht,aD,aRQ ht,bW ht (by omega)];congr 3;refine xI λb hb=>?_;by_cases e:b=t
  ·rw [aR e,aR (by omega),e]
  ·rw [aQ e];by_cases e2:b<t
   ·rw [aR e2,aR (by omega)]
   ·rw [aQ e2,aQ (by omega)]
 ·unfold kJ;simp only [List.length_replicate,dE];rw [jZ (bP _),bA];congr 2;exact xI λb hb=>by rw [aR hb]
theorem aIb {r c:Nat} (hr:r≤64) (hc:c≤64) (F:Nat→Nat→Int):jB ⟨r,c,cK r c F⟩=some (aGk r c F):=by
 have hN:=aLF hr hc;unfold jB;rw [dR (r:=aGk r c F) (λk=>(aGk r k F,(k:Int))) c (by simp [aGk]) (λk hk=>?_) (λ_=>?_),aD]
 ·unfold jM;simp only;rw [iV hk,aN,aQT hN (by omega) hk,aD,bG (by simp [aGk];omega),aN,bW hk (by omega)];congr 3;unfold aGk;rw [List.range_succ,List.map_append];rfl
 ·unfold jM;simp only;rw [jZ (bP _),bA]
theorem aPJ {r c:Nat} (hr:r≤64) (hc:c≤64) (F:Nat→Nat→Int):mG ⟨r,c,cK r c F⟩=some (aGl r c F):=by
 have hN:=aLF hr hc;unfold mG;rw [dR (s:=(([]:List (List Int)),(0:Int))) (r:=aGl r c F) (λk=>(aGl k c F,(k:Int))) r rfl (λk hk=>?_) (λ_=>?_),aD]
 ·unfold mT;simp only;rw [iV hk,aN,aNg hN (by omega) hk,aD];unfold mJ;rw [bG (by simp [rN];omega),aN,aD,bG (by simp [aGl];omega),aN,bW hk (by omega)];congr 3;exact wH (f:=λi=>rN c (F i))
 ·unfold mT;simp only;rw [jZ (bP _),bA]
theorem aMt {r c:Nat} (hr:r≤64) (hc:c≤64) (F:Nat→Nat→Int):vF c (aGl r c F)=some ⟨r,c,cK r c F⟩:=by
 unfold vF;rw [aRR (by simp [aGl];omega) (λv hv=>by obtain ⟨i,_,rfl⟩:=List.mem_map.1 hv;rw [nC];omega),aD];unfold aGl;rw [aEk,eW,List.length_range]
theorem aMu {r c d:Nat} (hr:r≤32) (hc:c≤32) (hd:d≤32) (F G:Nat→Nat→Int):uC ⟨r,c,cK r c F⟩ ⟨r,d,cK r d G⟩=some ⟨r,(c+d:Nat),cK r (c+d) (aIa c F G)⟩:=by
 unfold uC;rw [aIb (by omega) (by omega),aD,aIb (by omega) (by omega),aD,bG (by simp [aGk];omega),aN,aSS];simp only;unfold aGk;rw [aDX (aLF (by omega) (by omega)) (by omega) (by omega),aD]
theorem aTV {r s c:Nat} (hr:r≤32) (hs:s≤32) (hc:c≤64) (F G:Nat→Nat→Int):zU ⟨r,c,cK r c F⟩ ⟨s,c,cK s c G⟩=some ⟨(r+s:Nat),c,cK (r+s) c (aJv r F G)⟩:=by
 unfold zU;rw [aPJ (by omega) hc,aD,aPJ (by omega) hc,aD,bG (by simp [aGl];omega),aN,aST];simp only;rw [aMt (by omega) hc,aD]
def zF:Nat→Nat→Int:=λ_ _=>0
def aMv (r c:Nat) (F G:Nat→Nat→Int):Nat→Nat→Int:=aJv r (aIa c F zF) (aIa c zF G)
theorem aLG (r c:Nat) (F G:Nat→Nat→Int) (i j:Nat):aMv r c F G i j=if i<r then (if j<c then F i j else 0) else if j<c then 0 else G (i - r) (j - c):=rfl
theorem aSU {r c s d:Nat} (hr:r≤32) (hs:s≤32) (hc:c≤32) (hd:d≤32) (F G:Nat→Nat→Int):xX ⟨r,c,cK r c F⟩ ⟨r,d,cK r d zF⟩ ⟨s,d,cK s d G⟩=some ⟨(r+s:Nat),(c+d:Nat),cK (r+s) (c+d) (aMv r c F G)⟩:=by
 unfold xX;rw [aMu hr hc hd,aD];simp only;rw [aDt (aLF (by omega) (by omega)),aD,show (λ_ _=>0:Nat→Nat→Int)=zF from rfl,aMu hs hc hd,aD,aTV hr hs (by omega),aD];rfl
theorem aUp {C R r i c k:Nat} (hr:r+i<R) (hR:R*C≤1048576) (hc:c+k<C) (hC:C≤64) (hR2:R≤64):wr (wr (wr (wr ((r:Int)+(i:Int))*(C:Int))+(c:Int))+(k:Int))=wr (wr (((r+i:Nat):Int)*(C:Int))+((c+k:Nat):Int)):=by
 have h1:(r+i)*C≤R*C:=Nat.mul_le_mul_right C (by omega);rw [dB (x:=(r:Int)+(i:Int)) (by omega),show (r:Int)+(i:Int)=((r+i:Nat):Int) by omega,aHV (by omega)];generalize (r+i)*C=X at*;rw [dB (x:=(X:Int)+(c:Int)) (by omega)];congr 1;omega
theorem aQU {r c s d:Nat} (hr:r≤32) (hs:s≤32) (hc:c≤32) (hd:d≤32) (F G:Nat→Nat→Int):wP ⟨r,c,cK r c F⟩ ⟨s,d,cK s d G⟩=some ⟨(r+s:Nat),(c+d:Nat),cK (r+s) (c+d) (aMv r c F G)⟩:=by
 have hN:(r+s)*(c+d)≤1048576:=aLF (by omega) (by omega);unfold wP;simp only;rw [dB (x:=(r:Int)+(s:Int)) (by omega),dB (x:=(c:Int)+(d:Int)) (by omega),show (r:Int)+(s:Int)=((r+s:Nat):Int) by omega,show (c:Int)+(d:Int)=((c+d:Nat):Int) by omega,aMB hN,aD];simp only;rw [dR (r:=cK (r+s) (c+d) (λa b=>if a<r∧b<c then F a b else 0)) (λi=>(cK (r+s) (c+d) (λa b=>if a<i∧b<c then F a b else 0),(i:Int))) r (by simp) (λi hi=>?_) (λ_=>?_),aD]
 ·rw [dR (r:=cK (r+s) (c+d) (aMv r c F G)) (λi=>(cK (r+s) (c+d) (λa b=>if a<r+i then aMv r c F G a b else 0),(i:Int))) s ?_ (λi hi=>?_) (λ_=>?_),aD]
  ·congr 1;refine dA λa b ha hb=>?_;rw [aLG];by_cases h1:a<r
   ·rw [aR (show a<r+0 by omega),aR h1];by_cases h2:b<c
    ·rw [aR ⟨h1,h2⟩,aR h2]
    ·rw [aQ (λh=>h2 h.2),aQ h2]
   ·rw [aQ (λh=>h1 h.1),aQ (show ¬ a<r+0 by omega)]
  ·unfold rL;simp only;rw [iV hi,aN];rw [dR (r:=cK (r+s) (c+d) (λa b=>if a<r+i+1 then aMv r c F G a b else 0)) (λk=>(cK (r+s) (c+d) (λa b=>if a<r+i∨a=r+i∧b<c+k then aMv r c F G a b else 0),(k:Int))) d ?_ (λk hk=>?_) (λ_=>?_),aD,bW hi (by omega)]
   ·rfl
   ·congr 1;refine dA λa b ha hb=>?_;by_cases h1:a<r+i
    ·rw [aR h1,aR (.inl h1)]
    ·rw [aQ h1];by_cases h2:a=r+i∧b<c+0
     ·rw [aR (.inr h2),aLG,aQ (by omega),aR (by omega)]
     ·rw [aQ (by omega)]
   ·unfold rK;simp only;rw [iV hk,aN,atT (aLF (by omega) (by omega)) hi hk,aD,aUp (R:=r+s) (by omega) hN (by omega) (by omega) (by omega),atT hN (show r+i<r+s by omega) (show c+k<c+d by omega),aD,aNf hN (show r+i<r+s by omega) (show c+k<c+d by omega),bW hk (by omega)];congr 3;refine dA λa b ha hb=>?_;simp only [aES];by_cases e:a=r+i∧b=c+k
    ·rw [aR e,aR (by omega),aLG,aQ (by omega),aQ (by omega),e.1,e.2,Nat.add_sub_cancel_left,Nat.add_sub_cancel_left]
    ·rw [aQ e];by_cases e2:a<r+i∨a=r+i∧b<c+k
     ·rw [aR e2,aR (by omega)]
     ·rw [aQ e2,aQ (by omega)]
   ·unfold rK;simp only;rw [jZ (bP _),bA];congr 2;refine dA λa b ha hb=>?_;by_cases h1:a<r+i+1
    ·rw [aR h1,aR (by omega)]
    ·rw [aQ h1,aQ (by omega)]
  ·unfold rL;simp only;rw [jZ (bP _),bA];congr 2;exact dA λa b ha hb=>by rw [aR ha]
 ·unfold rJ;simp only;rw [iV hi,aN];rw [dR (r:=cK (r+s) (c+d) (λa b=>if a<i+1∧b<c then F a b else 0)) (λk=>(cK (r+s) (c+d) (λa b=>if (a<i∧b<c)∨a=i∧b<k then F a b else 0),(k:Int))) c (by simp) (λk hk=>?_) (λ_=>?_),aD,bW hi (by omega)]
  ·unfold rI;simp only;rw [iV hk,aN,atT (aLF (by omega) (by omega)) hi hk,aD,atT hN (show i<r+s by omega) (show k<c+d by omega),aD,aNf hN (show i<r+s by omega) (show k<c+d by omega),bW hk (by omega)];congr 3;refine dA λa b ha hb=>?_;simp only [aES];by_cases e:a=i∧b=k
   ·rw [aR e,aR (by omega),e.1,e.2]
   ·rw [aQ e];by_cases e2:(a<i∧b<c)∨a=i∧b<k
    ·rw [aR e2,aR (by omega)]
    ·rw [aQ e2,aQ (by omega)]
  ·unfold rI;simp only;rw [jZ (bP _),bA];congr 2;refine dA λa b ha hb=>?_;by_cases h1:a<i+1∧b<c
   ·rw [aR h1,aR (by omega)]
   ·rw [aQ h1,aQ (by omega)]
 ·unfold rJ;simp only;rw [jZ (bP _),bA]
end
noncomputable section
def rpM (r:Rp) (i:Nat):Mt:=⟨dN r (tV r i),dN r (sV r i),cK (dN r (tV r i)) (dN r (sV r i)) (aF r i)⟩
theorem Rv.dimsE {r:Rp} (h:Rv r):r.dims=(List.range r.dims.length).map λv=>(dN r v:Int):=by
 refine List.ext_getElem (by simp) λi h1 h2=>?_;have:=(h.d i h1).1;rw [iE h1] at this;simpa using this
theorem Rv.mapsE {r:Rp} (h:Rv r):r.maps=(List.range r.q.src.length).map (rpM r):=by
 refine List.ext_getElem (by simp [h.ml]) λi h1 h2=>?_;have:=(h.m i (by rw [←h.ml];exact h1)).1;rw [iE h1] at this;simpa [rpM] using this
def dsM (a b:Rp) (i:Nat):Mt:=⟨(dN a (tV a i)+dN b (tV a i):Nat),(dN a (sV a i)+dN b (sV a i):Nat),cK (dN a (tV a i)+dN b (tV a i)) (dN a (sV a i)+dN b (sV a i)) (aMv (dN a (tV a i)) (dN a (sV a i)) (aF a i) (aF b i))⟩
def aAy (a b:Rp):Rp:=⟨a.p,a.q,(List.range a.dims.length).map λv=>((dN a v+dN b v:Nat):Int),(List.range a.q.src.length).map (dsM a b)⟩
theorem aON {a b:Rp} (h:Fit a b) (ha:bR a):bR (aAy a b):=by
 have:=h.ra.n5;have:=h.ra.e6;refine ⟨ha.1,by simp [aAy,bI];omega,⟨by simp [aAy];omega,λm hm=>?_⟩,trivial⟩;obtain ⟨i,hi,rfl⟩:=List.mem_map.1 hm;have hi:=List.mem_range.1 hi;obtain ⟨_,s2⟩:=h.ra.s i hi;obtain ⟨_,t2⟩:=h.ra.t i hi;have d1:=(h.ra.d _ s2).2;have d2:=(h.ra.d _ t2).2;have d3:=(h.rb.d (sV a i) (by rw [h.ne];exact s2)).2;have d4:=(h.rb.d (tV a i) (by rw [h.ne];exact t2)).2;refine ⟨?_,trivial⟩;show (cK _ _ _).length ≤1048576;rw [iY];exact aLF (by omega) (by omega)
theorem aLH {r:Rp} (h:bR r):tC r=some r:=by
 obtain ⟨⟨h1,h2,_⟩,h3,⟨h4,h5⟩,_⟩:=h;unfold bI at h1 h2 h3
 have hc:oJ r.maps=some r.maps:=by
  unfold oJ;rw [dR (s:=(([]:List Mt),(0:Int))) (r:=r.maps) (λk=>(r.maps.take k,(k:Int))) r.maps.length rfl (λk hk=>?_) (λ_=>?_),aD]
  ·have:=(h5 _ (List.getElem_mem hk)).1;unfold bI at this;unfold lK;simp only;rw [iV hk,aN,eH hk,aD];unfold gO mJ;rw [bG this,aN,aD,aD,bG (by simp;omega),aN,bW hk (by omega),aCB hk]
  ·unfold lK;simp only;rw [jZ (bP _),bA,List.take_length]
 unfold tC kT mJ;rw [bG h1,bG h2,bG h3,hc];rfl
theorem aQV {q:Qv} (h:bQ q):nT q=some q:=by
 obtain ⟨h1,h2,_⟩:=h;unfold bI at h1 h2;unfold nT;rw [bG (by simp;omega),aN,bG (by simp;omega),aN];simp
theorem aLI {r:Rp} (h:Rv r) {k:Nat} (hk:k<r.dims.length):cZ r.dims (k:Int)=some (dN r k:Int):=by
 rw [tP 0 hk,(h.d k hk).1]
theorem aGv {r:Rp} (h:Rv r) {k:Nat} (hk:k<r.q.src.length):cZ r.maps (k:Int)=some (rpM r k):=by
 rw [tP ⟨0,0,[]⟩ (by rw [h.ml];exact hk),(h.m k hk).1];rfl
theorem aPK {a b:Rp} (h:Fit a b) (i:Nat):rpM b i=⟨dN b (tV a i),dN b (sV a i),cK (dN b (tV a i)) (dN b (sV a i)) (aF b i)⟩:=by
 unfold rpM;rw [h.sV,h.tV]
theorem aMw {a b:Rp} (h:Fit a b) (ha:bR a):tD a b=some (aAy a b):=by
 have n5:=h.ra.n5;have e6:=h.ra.e6;have hbe:b.q.src.length=a.q.src.length:=by rw [h.qe]
 unfold tD;rw [aLH ha,aD];rw [dR (r:=(List.range a.dims.length).map λv=>((dN a v+dN b v:Nat):Int)) (λk=>((List.range a.dims.length).map λv=>if v<k then ((dN a v+dN b v:Nat):Int) else (dN a v:Int),(k:Int))) b.dims.length ?_ (λk hk=>?_) (λ_=>?_),aD]
 ·rw [dR (r:=(List.range a.q.src.length).map (dsM a b)) (λk=>((List.range a.q.src.length).map λi=>if i<k then dsM a b i else rpM a i,(k:Int))) b.maps.length ?_ (λk hk=>?_) (λ_=>?_),aD]
  ·rfl
  ·rw [h.ra.mapsE];simp [rpM]
  ·have hkb:k<b.q.src.length:=by rw [←h.rb.ml];exact hk
   have hbl:=h.rb.ml;have hka:k<a.q.src.length:=by omega
   obtain ⟨_,s2⟩:=h.ra.s k hka;obtain ⟨_,t2⟩:=h.ra.t k hka;have d1:=(h.ra.d _ s2).2;have d2:=(h.ra.d _ t2).2;have d3:=(h.rb.d (sV a k) (by rw [h.ne];exact s2)).2;have d4:=(h.rb.d (tV a k) (by rw [h.ne];exact t2)).2;unfold oM;simp only;rw [iV hk,aN,aGv h.rb hkb,aD,zN hka,aD,aGv h.ra hka,aD,aD,aPK h];unfold rpM;simp only;rw [aDt (aLF (by omega) (by omega)),aD,show (λ_ _=>0:Nat→Nat→Int)=zF from rfl,aSU (by omega) (by omega) (by omega) (by omega),aD,dE,aCg,bW hk (by omega)];congr 3;refine kQ λi hi=>?_;by_cases e:i=k
   ·rw [aR e,aR (by omega),e];rfl
   ·rw [aQ e];by_cases e2:i<k
    ·rw [aR e2,aR (by omega)]
    ·rw [aQ e2,aQ (by omega)]
  ·unfold oM;simp only;rw [jZ (bP _),bA];congr 2;refine kQ λi hi=>?_;rw [aR (by have:=List.mem_range.1 hi;have:=h.rb.ml;omega)]
 ·rw [show (List.range a.dims.length).map (λv=>if v<0 then ((dN a v+dN b v:Nat):Int) else (dN a v:Int))=a.dims from by
   rw [h.ra.dimsE];simp [←h.ra.dimsE]]
  rfl
 ·have hka:k<a.dims.length:=by rw [←h.ne];exact hk
  have hbl:=h.ne;have da:=(h.ra.d _ hka).2;have db:=(h.rb.d _ hk).2;unfold oK;simp only;rw [iV hk,aN,aLI h.rb hk,aD,zN hka,aD,aD,aQ (by omega),dE,aCg,bW hk (by omega),dB (by omega)];congr 3;refine kQ λi hi=>?_;by_cases e:i=k
  ·rw [aR e,aR (by omega),e];omega
  ·rw [aQ e];by_cases e2:i<k
   ·rw [aR e2,aR (by omega)]
   ·rw [aQ e2,aQ (by omega)]
 ·unfold oK;simp only;rw [jZ (bP _),bA];congr 2;refine kQ λi hi=>?_;rw [aR (by have:=List.mem_range.1 hi;have:=h.ne;omega)]
theorem aOO {a b:Rp} (h:Fit a b) (va:qJ a=true) (vb:qJ b=true) (ha:bR a) (hb:bR b):tE a b=some (bif qJ (aAy a b) then (aAy a b,true) else (emR,false)):=by
 have n5:=h.ra.n5;have e6:=h.ra.e6;have hml:=h.ra.ml;unfold tE;rw [aOm ha hb,va,vb,bG h.pe.symm,bG h.qe.symm,aD];simp only [Bool.and_self,iX,bA];rw [aQV ha.1,aD];rw [dR (s:=(([]:List Int),(0:Int))) (r:=(List.range a.dims.length).map λv=>((dN a v+dN b v:Nat):Int)) (λk=>((List.range k).map λv=>((dN a v+dN b v:Nat):Int),(k:Int))) a.dims.length rfl (λk hk=>?_) (λ_=>?_),aD]
 ·rw [dR (s:=(([]:List Mt),(0:Int))) (r:=(List.range a.q.src.length).map (dsM a b)) (λk=>((List.range k).map (dsM a b),(k:Int))) a.maps.length rfl (λk hk=>?_) (λ_=>?_),aD]
  ·have e:(⟨a.p,a.q,(List.range a.dims.length).map λv=>((dN a v+dN b v:Nat):Int),(List.range a.q.src.length).map (dsM a b)⟩:Rp)=aAy a b:=rfl;rw [e,aFW (aON h ha),aD];cases qJ (aAy a b) <;> rfl
  ·have hka:k<a.q.src.length:=by omega
   have hkb:k<b.q.src.length:=by rw [h.qe];exact hka
   obtain ⟨_,s2⟩:=h.ra.s k hka;obtain ⟨_,t2⟩:=h.ra.t k hka;have d1:=(h.ra.d _ s2).2;have d2:=(h.ra.d _ t2).2;have d3:=(h.rb.d (sV a k) (by rw [h.ne];exact s2)).2;have d4:=(h.rb.d (tV a k) (by rw [h.ne];exact t2)).2;unfold oO;simp only;rw [iV hk,aN,aGv h.ra hka,aD,aGv h.rb hkb,aD,aPK h];unfold rpM;rw [aQU (by omega) (by omega) (by omega) (by omega),aD,bG (by simp;omega),aN,bW hk (by omega)];congr 3;exact wH (f:=dsM a b)
  ·unfold oO;simp only;rw [jZ (bP _),bA,hml]
 ·have hkb:k<b.dims.length:=by rw [h.ne];exact hk
  have da:=(h.ra.d _ hk).2;have db:=(h.rb.d _ hkb).2;unfold oN;simp only;rw [iV hk,aN,aLI h.ra hk,aD,aLI h.rb hkb,aD,bG (by simp;omega),aN,bW hk (by omega),dB (by omega)];congr 3;have:=wH (f:=λv=>((dN a v+dN b v:Nat):Int)) (k:=k);rw [←this];congr 2
 ·unfold oN;simp only;rw [jZ (bP _),bA]
structure SmR (p:Int) (q:Qv) (r:Rp):Prop where
 v:qJ r=true
 b:bR r
 hp:r.p=p
 hq:r.q=q
theorem SmR.fit {p:Int} {q:Qv} {a b:Rp} (ha:SmR p q a) (hb:SmR p q b):Fit a b:=aNk ha.v hb.v (ha.hp.trans hb.hp.symm) (ha.hq.trans hb.hq.symm)
def aDS:Rp→List Rp→Option Rp
 |o,[]=>some o
 |o,r::l=>bif qJ (aAy o r) then aDS (aAy o r) l else none
theorem aMx: ∀ (l m:List Rp) (o:Rp),aDS o (l++m)=(aDS o l).bind λz=>aDS z m
 | [],m,o=>rfl
 |r::l,m,o=>by
  simp only [List.cons_append,aDS];cases qJ (aAy o r) with
  |false=>rfl
  |true=>exact aMx l m _
theorem SmR.dsum {p:Int} {q:Qv} {a b:Rp} (ha:SmR p q a) (hb:SmR p q b) (h:qJ (aAy a b)=true):SmR p q (aAy a b):=⟨h,aON (ha.fit hb) ha.b,ha.hp,ha.hq⟩
theorem aLJ {p:Int} {q:Qv} : ∀ (l:List Rp) (o:Rp),SmR p q o→(∀ r∈l,SmR p q r)→ ∀ z,aDS o l=some z→SmR p q z
 | [],o,ho,_,z,h=>by cases h;exact ho
 |r::l,o,ho,hl,z,h=>by
  simp only [aDS] at h;cases hv:qJ (Proofs.YtilpfdokmlanjaaGreat.aAy o r) with
  |false=>rw [hv] at h;cases h
  |true=>rw [hv] at h;exact aLJ l _ (ho.dsum (hl r (by simp)) hv) (λx hx=>hl x (by simp [hx])) z h
def fl (o:Rp) (i:Int):Int×Int×List Int×List Int×List Int×List Mt×Int:=(o.p,o.q.n,o.q.src,o.q.tgt,o.dims,o.maps,i)
def fl6 (o:Rp):Int×Int×List Int×List Int×List Int×List Mt:=(o.p,o.q.n,o.q.src,o.q.tgt,o.dims,o.maps)
def aSV (x:Option Rp):(Int×Int×List Int×List Int×List Int×List Mt) ⊕ (Rp×Bool):=match x with|some z=> .inl (fl6 z)|none=> .inr (emR,false)
theorem aTX {p:Int} {q:Qv} {l:List Rp} (hl:l.length≤1048576) (hs: ∀ r∈l,SmR p q r): ∀ (d i:Nat) (o:Rp),i+d=l.length→SmR p q o→Lp (gP l) (fl o i)=some (aSV (aDS o (l.drop i))):=by
 intro d;induction d with
 |zero=>
  intro i o hi ho;rw [List.drop_of_length_le (by omega)];refine eO ?_;unfold gP fl;simp only;rw [jZ (by omega),bA];rfl
 |succ d ih=>
  intro i o hi ho;have hil:i<l.length:=by omega
  have hr:=hs _ (List.getElem_mem hil);have hd:=aMw (ho.fit hr) ho.b
  have hb:gP l (fl o i)=some (bif qJ (aAy o l[i]) then .inl (fl (aAy o l[i]) ((i+1:Nat):Int)) else .inr (.inr (emR,false))):=by
   unfold gP fl;simp only;rw [iV hil,aN,eH hil,aD];have e:(⟨o.p,⟨o.q.n,o.q.src,o.q.tgt⟩,o.dims,o.maps⟩:Rp)=o:=rfl;rw [e,hd,aD,aPm (aON (ho.fit hr) ho.b),aD,bW hil (by omega)];cases qJ (aAy o l[i]) <;> rfl
  rw [List.drop_eq_getElem_cons hil];simp only [aDS];cases hv:qJ (aAy o l[i]) with
  |false=>rw [hv] at hb;exact eO hb
  |true=>rw [hv] at hb;exact (jX hb).trans (ih (i+1) _ (by omega) (ho.dsum hr hv))
def aCK:List Int→List Rp→List Rp
 |x::xs,r::rs=>List.replicate x.toNat r++aCK xs rs
 |_,_=>[]
theorem aMy: ∀ (m:List Int) (l:List Rp),∀ r∈aCK m l,r∈l
 | [],_,r,h=>by simp [aCK] at h
 |_::_,[],r,h=>by simp [aCK] at h
 |x::xs,y::ys,r,h=>by
  rcases eB.1 h with h|h
  ·rw [(List.mem_replicate.1 h).2];simp
  ·exact List.mem_cons_of_mem _ (aMy xs ys r h)
theorem aMz: ∀ (m:List Int) (l:List Rp),(m.all λx=>zE x 0 8)=true→(aCK m l).length ≤8*m.length
 | [],_,_=>by simp [aCK]
 |_::_,[],_=>by simp [aCK]
 |x::xs,y::ys,h=>by
  simp only [List.all_cons,dK] at h;have h1:=qG h.1;have h2:=aMz xs ys h.2;simp only [aCK,List.length_append,List.length_replicate,List.length_cons];omega
theorem aSW {m:List Int} {v1:List Rp×Bool} (hm:m.length≤20) (hl:m.length=v1.1.length) (ha:(m.all λx=>zE x 0 8)=true): ∀ (d i:Nat) (acc:List Rp),i+d=m.length→acc.length≤8*i→Lp (dX m v1) (acc,(i:Int))=some (acc++aCK (m.drop i) (v1.1.drop i)):=by
 intro d;induction d with
 |zero=>
  intro i acc hi hacc;refine eO ?_;unfold dX;simp only;rw [jZ (by omega),bA,List.drop_of_length_le (show m.length≤i by omega)];simp [aCK]
 |succ d ih=>
  intro i acc hi hacc;have him:i<m.length:=by omega
  have hil:i<v1.1.length:=by omega
  have hx:=qG (List.all_eq_true.1 ha _ (List.getElem_mem him))
  have hrep:zW [v1.1[i]] m[i]=some (List.replicate m[i].toNat v1.1[i]):=by
   simp only [zW];rw [bG (by omega),bG (by omega)];rfl
  have hb:dX m v1 (acc,(i:Int))=some (.inl (acc++List.replicate m[i].toNat v1.1[i],((i+1:Nat):Int))):=by
   unfold dX;simp only;rw [iV him,aN,eH him,aD,eH hil,aD,hrep,aD,bG (by simp;omega),aN,bW him (by omega)]
  rw [jX hb,ih (i+1) _ (by omega) (by simp;omega),List.drop_eq_getElem_cons him,List.drop_eq_getElem_cons hil];simp only [aCK,List.append_assoc]
theorem aUr {p:Int} {q:Qv} {m:List Int} {v1:List Rp×Bool} {i:Nat} (o1:Rp) (him:i<m.length) (hil:i<v1.1.length) {n:Nat} (hn:m[i]=(n:Int)) (hn8:n≤8) (hr:SmR p q v1.1[i]): ∀ (d k:Nat) (o:Rp),k+d=n→SmR p q o→Lp (dY m v1 (fl o1 i)) (fl o k)=some (aSV (aDS o (List.replicate d v1.1[i]))):=by
 intro d;induction d with
 |zero=>
  intro k o hk ho;refine eO ?_;unfold dY fl;simp only;rw [eH him,aD,hn,jZ (by omega),bA];rfl
 |succ d ih=>
  intro k o hk ho;have hd:=aOO (ho.fit hr) ho.v hr.v ho.b hr.b
  have hb:dY m v1 (fl o1 i) (fl o k)=some (bif qJ (aAy o v1.1[i]) then .inl (fl (aAy o v1.1[i]) ((k+1:Nat):Int)) else .inr (.inr (emR,false))):=by
   unfold dY fl;simp only;rw [eH him,aD,hn,iV (by omega),aN,eH hil,aD];have e:(⟨o.p,⟨o.q.n,o.q.src,o.q.tgt⟩,o.dims,o.maps⟩:Rp)=o:=rfl;rw [e,hd,aD,bW (show k<n by omega) (by omega)];cases qJ (aAy o v1.1[i]) <;> rfl
  rw [List.replicate_succ];simp only [aDS];cases hv:qJ (aAy o v1.1[i]) with
  |false=>rw [hv] at hb;exact eO hb
  |true=>rw [hv] at hb;exact (jX hb).trans (ih (k+1) _ (by omega) (ho.dsum hr hv))
theorem aUs {p:Int} {q:Qv} {m:List Int} {v1:List Rp×Bool} (hm:m.length≤20) (hl:m.length=v1.1.length) (hs: ∀ r∈v1.1,SmR p q r): ∀ (d i:Nat) (o:Rp),i+d=m.length→SmR p q o→Lp (cY m v1) (fl o i)=some (bif (m.drop i).all (λx=>zE x 0 8) then aSV (aDS o (aCK (m.drop i) (v1.1.drop i))) else .inr (emR,false)):=by
 intro d;induction d with
 |zero=>
  intro i o hi ho;rw [List.drop_of_length_le (show m.length≤i by omega)];refine eO ?_;unfold cY fl;simp only;rw [jZ (by omega),bA];rfl
 |succ d ih=>
  intro i o hi ho;have him:i<m.length:=by omega
  have hil:i<v1.1.length:=by omega
  rw [List.drop_eq_getElem_cons him,List.drop_eq_getElem_cons hil];simp only [List.all_cons,aCK];cases hx:zE m[i] 0 8 with
  |false=>
   refine eO ?_;unfold cY fl;simp only;rw [iV him,aN,eH him,aD,yO,aD,hx];rfl
  |true=>
   have h8:=qG hx;obtain ⟨n,hn⟩: ∃ n:Nat,m[i]=(n:Int):=⟨m[i].toNat,by omega⟩;have hr:=hs _ (List.getElem_mem hil);have h2:=aUr (m:=m) (v1:=v1) o him hil hn (by omega) hr n 0 o (by omega) ho
   have hb:cY m v1 (fl o i)=some (Sum.elim (λy=> .inl (y.1,y.2.1,y.2.2.1,y.2.2.2.1,y.2.2.2.2.1,y.2.2.2.2.2,((i+1:Nat):Int))) (λy=> .inr (.inr y)) (aSV (aDS o (List.replicate n v1.1[i])))):=by
    have e0:cY m v1 (fl o i)=(Option.bind (Lp (dY m v1 (fl o i)) (fl o ((0:Nat):Int))) λy14=>Sum.elim (λy15=>some (.inl (y15.1,y15.2.1,y15.2.2.1,y15.2.2.2.1,y15.2.2.2.2.1,y15.2.2.2.2.2,((i+1:Nat):Int)))) (λy16=>some (.inr (.inr y16))) y14):=by
     unfold cY fl;simp only;rw [iV him,aN,eH him,aD,yO,aD,hx,bW him (by omega)];rfl
    rw [e0,h2,aD];cases aSV (aDS o (List.replicate n v1.1[i])) <;> rfl
   rw [hn,dE,Bool.true_and,aMx];cases hz:aDS o (List.replicate n v1.1[i]) with
   |none=>
    rw [hz] at hb;rw [eO (r:= .inr (emR,false)) hb];cases (m.drop (i+1)).all λx=>zE x 0 8 <;> rfl
   |some z=>
    rw [hz] at hb;have hzs:=aLJ _ _ ho (λr hr'=>by rw [(List.mem_replicate.1 hr').2];exact hr) z hz;rw [jX (s':=fl z ((i+1:Nat):Int)) hb,ih (i+1) z (by omega) hzs];rfl
theorem aNA (p:Int) {q:Qv} (hb:bQ q) {m:List Int} (hm:bI m): ∃ r b,gG p q m=some (r,b)∧iQ p q m=some (r,b)∧bR r∧((b=false∧r=emR)∨(b=true∧zG p=true)):=by
 have hE:bR emR:=by refine ⟨⟨?_,?_,trivial⟩,?_,⟨?_,?_⟩,trivial⟩ <;> simp [emR,bI]
 obtain ⟨L,b,h1,h2,h3,h4,h5⟩:=aTU p hb;unfold gG iQ;rw [h1,h2];simp only [aD];cases b with
 |false=>exact ⟨emR,false,rfl,rfl,hE,.inl ⟨rfl,rfl⟩⟩
 |true=>
  obtain ⟨R,g1,g2,g3,g4⟩:=h5 rfl;simp only [iX,bA];by_cases hl:m.length=L.length
  ·rw [bG (show ((m.length:Nat):Int)=(L.length:Int) by omega)];simp only [iX,bA]
   have hne:L≠[]:=by
    rintro rfl;obtain ⟨R2,c2,p1,p2,p3⟩:=aSC hb;rw [g1] at p1;cases p1;rcases p3 with ⟨h,_⟩|⟨_,n,H,rfl⟩
    ·cases h
    ·have:=(xN H _).2 (aFm H (v:=0) H.Q.n1);rw [List.length_eq_zero_iff.1 g2.symm] at this;cases this
   obtain ⟨y,hy⟩:=List.exists_mem_of_ne_nil _ hne;have hsm: ∀ r∈L,SmR p q r:=λr hr=>⟨(g4 r hr).1,h4 r hr,(g4 r hr).2.1,(g4 r hr).2.2⟩;have hy2:=hsm y hy;have hQ:aAE q=true:=by have:=(rV (aCb hy2.v).2.1).1;rwa [hy2.hq] at this
   have hF:zG p=true:=by have:=(aCb hy2.v).1;rwa [hy2.hp] at this
   obtain ⟨n,hn,hn1,hn5,hq1,hq2,hq3,hq4⟩:=vN hQ;obtain ⟨x0,hx0⟩: ∃ x0,x0=List.replicate n (0:Int):=⟨_,rfl⟩
   have hD:aBO q x0=true:=by
    unfold aBO;rw [hQ,hx0];simp [hn];exact .inr (by decide)
   have X:=aSK hD;obtain ⟨o,ho⟩: ∃ o,o=wQ p q x0 λ_ _=>0:=⟨_,rfl⟩;have hoS:SmR p q o:=⟨by rw [ho];exact aMn hF hD (λ_ _=>by omega),by rw [ho];exact aLA hb X,by rw [ho];rfl,by rw [ho];rfl⟩;have z1:=aPG p hb X;have z2:=aJq p hb X;rw [←ho] at z1 z2;have hS:=aUs (v1:=(L,true)) (p:=p) (q:=q) (m:=m) (by omega) hl hsm m.length 0 o (by omega) hoS;rw [List.drop_zero,List.drop_zero] at hS;rw [yD hm,aD,hn,bG (by omega),bG (by omega)];simp only [Bool.and_self,aN,dE];rw [←hx0,z2,aD];have e1:Lp (cY m (L,true)) (o.p,o.q.n,o.q.src,o.q.tgt,o.dims,o.maps,0)=_:=hS;rw [e1,aD];cases ha:m.all λx=>zE x 0 8 with
   |false=>exact ⟨emR,false,rfl,rfl,hE,.inl ⟨rfl,rfl⟩⟩
   |true=>
    simp only [iX,bA,aN];have hI:=aSW (v1:=(L,true)) (m:=m) (by omega) hl ha m.length 0 [] (by omega) (by simp);rw [List.drop_zero,List.drop_zero,List.nil_append] at hI;have e2:Lp (dX m (L,true)) ([],0)=_:=hI;rw [e2,aD];have hsl:=aMz m L ha;have hmem: ∀ r∈aCK m L,SmR p q r:=λr hr=>hsm r (aMy m L r hr);have hZ:=aTX (p:=p) (q:=q) (l:=aCK m L) (by omega) hmem (aCK m L).length 0 o (by omega) hoS;rw [List.drop_zero] at hZ;unfold xO;rw [hn,bG (by omega),bG (by omega)];simp only [Bool.and_self,aN,dE];rw [←hx0,z1,aD];have e3:Lp (gP (aCK m L)) (o.p,o.q.n,o.q.src,o.q.tgt,o.dims,o.maps,0)=_:=hZ;rw [e3,aD];cases hz:aDS o (aCK m L) with
    |none=>exact ⟨emR,false,rfl,rfl,hE,.inl ⟨rfl,rfl⟩⟩
    |some z=>exact ⟨z,true,rfl,rfl,(aLJ _ _ hoS hmem z hz).b,.inr ⟨rfl,hF⟩⟩
  ·rw [eV (show ¬ ((m.length:Nat):Int)=(L.length:Int) by omega)];exact ⟨emR,false,rfl,rfl,hE,.inl ⟨rfl,rfl⟩⟩
end
noncomputable section
set_option maxRecDepth 10000
set_option maxHeartbeats 4000000
def iD (a0:Int) (a1:Qv) (a2:(List Int)):Option Bool:=
 bif decide (1048576<(a2.length:Int)) then
 (some (true))
 else
 ((yN a1 1048576).bind λv2=>
 bif decide (v2<0) then
 (some (true))
 else
 ((kL a1).bind λv4=>
 (jJ a2).bind λv5=>
 (iQ a0 v4 v5).bind λv6=>
 (kL a1).bind λv7=>
 (jJ a2).bind λv8=>
 (gG a0 v7 v8).bind λv9=>
 (sU v9.1 v6.1).bind λv10=>
 bif !v10 then
 (some (false))
 else
 (bif !(v9.2==v6.2) then
 (some (false))
 else
 ((kL a1).bind λv13=>
 (qI v7 v13).bind λv14=>
 bif !v14 then
 (some (false))
 else
 ((jJ a2).bind λv16=>
 (nS v8 v16).bind λv17=>
 bif !v17 then
 (some (false))
 else
 ((nM v7 1).bind λv19=>
 bif decide (v19.1.length=v7.src.length) then
 (bif decide (v19.2.1.length=v7.tgt.length) then
 ((iT v8 v19.2.2).bind λv22=>
 bif decide (v22.1.length=v8.length) then
 (bif decide (v22.2<0) then
 (some (false))
 else
 ((sU v9.1 v6.1).bind λv25=>
 bif !v25 then
 (some (false))
 else
 (bif !(v9.2==v6.2) then
 (some (false))
 else
 ((wN v9.1 1).bind λv28=>
 bif decide (v28.1.length=v9.1.q.src.length) then
 (bif decide (v28.2.1.length=v9.1.q.tgt.length) then
 (bif decide (v28.2.2.1.length=v9.1.dims.length) then
 (bif decide (v28.2.2.2.1.length=v9.1.maps.length) then
 ((pH (⟨v9.1.p,(⟨v9.1.q.n,v28.1,v28.2.1⟩:Qv),v28.2.2.1,v28.2.2.2.1⟩:Rp) 1).bind λv33=>
 bif decide (v33<0) then
 (some (false))
 else
 (bif !decide (v33=v28.2.2.2.2) then
 (some (false))
 else
 ((kL a1).bind λv36=>
 (jJ a2).bind λv37=>
 (gG a0 v36 v37).bind λv38=>
 (sU v38.1 v6.1).bind λv39=>
 bif !v39 then
 (some (false))
 else
 (bif !(v38.2==v6.2) then
 (some (false))
 else
 ((pH (⟨v9.1.p,(⟨v9.1.q.n,v28.1,v28.2.1⟩:Qv),v28.2.2.1,v28.2.2.2.1⟩:Rp) 1).bind λv42=>
 bif decide (v42<0) then
 (some (false))
 else
 (bif !decide (v42=v28.2.2.2.2) then
 (some (false))
 else
 (some (true))))))))
 else none)
 else none)
 else none)
 else none))))
 else none)
 else none)
 else none))))))
theorem vP (a0:Int) (a1:Qv) (a2:(List Int)) (r:Bool) (h:iD a0 a1 a2=some r):HasC Tryz.prog 3 [.int a0,.agg (eQ a1),.list 1 (a2.map eI)] (.bl r):=by
 refine aEa aB (rvs:=[.tmp 6]) (ns:=nmA) Tryz.func3 k k Tryz.ntmps3 k k k (λW=>?_);refine aOf<|aCX<|vZ<|tJ (λw1_1 S1_1 r1_1=>?_);refine tJ (λw1_2 S1_2 r1_2=>?_);refine aAA<|aRF (λw2_0 S2_0 r2_0=>?_);refine aEZ<|sS<|se (wb k) k<|gV k2<|sn<|tn<|sQ<|sS<|eN k2<|se (aDF aB r2_0 k k k) k<|cmS k4<|sn<|tn<|dV k h (λ_ h=>sS<|gV k2<|sn<|tn<|aI<|aH<|kC h k2) λ_ h=>?_;refine aG<|tn<|sS<|gV k2<|sn<|tn<|sS<|yL k8<|eN k2<|oB h λv2 hv2 h=>se (mV (aGa a1 1048576 v2 hv2) k (fT (.inr (dU (qX k k) (dU (kZ k r1_1) (dU (kZ k r1_2) vY)))) (wkS k jD))) k<|gV k2<|sn<|tn<|sQ<|sS<|eN k2<|cmS k4<|sn<|tn<|dV k h (λ_ h=>sS<|gV k2<|sn<|tn<|aI<|aH<|kC h k2) λ_ h=>?_;refine aG<|tn<|sS<|eN k2<|yL k8<|oB h λv4 hv4 h=>se (cQK (uT a1 v4 hv4) k3 (fT (.inr (dU (qX k k) (dU (kZ k r1_1) (dU (kZ k r1_2) vY)))) jD)) k<|eN k2<|oB h λv5 hv5 h=>se (cLK cS (qO a2 v5 hv5) k3 (wkD k r2_0 jD)) k<|oB h λv6 hv6 h=>se (AEff.conv (zZ (x:= .tuple [.agg [.int v6.1.p,.int v6.1.q.n,.own 4 0 (v6.1.q.src.map eI).length,.own 5 0 (v6.1.q.tgt.map eI).length,.own 6 0 (v6.1.dims.map eI).length,.own 7 0 (v6.1.maps.map eM).length],.bl v6.2]) (nb:=[(4,⟨1,dD (v6.1.q.src.map eI)⟩),(5,⟨1,dD (v6.1.q.tgt.map eI)⟩),(6,⟨1,dD (v6.1.dims.map eI)⟩),(7,⟨3,dD (v6.1.maps.map eM)⟩)]) (aAL a0 v4 v5 v6 hv6) k (by rfl) k k (gD (cA aY (cA aY (cA (cS.good _) (cA (cS.good _) (cA (cS.good _) (cA (cI.good _) vI)))))) (gD aY vX)) (wkS k (fT (.inl (vaQ k4)) (wkT k k jD)))) (v':= .tuple [.agg [.int v6.1.p,.int v6.1.q.n,.own 4 0 v6.1.q.src.length,.own 5 0 v6.1.q.tgt.length,.own 6 0 v6.1.dims.length,.own 7 0 v6.1.maps.length],.bl v6.2]) (ed':=[(4,some ⟨1,v6.1.q.src.map (ow eI)⟩),(5,some ⟨1,v6.1.q.tgt.map (ow eI)⟩),(6,some ⟨1,v6.1.dims.map (ow eI)⟩),(7,some ⟨3,v6.1.maps.map (ow eM)⟩)]) (by simp only [aO]) (wR (nb':=[(4,⟨1,v6.1.q.src.map (ow eI)⟩),(5,⟨1,v6.1.q.tgt.map (ow eI)⟩),(6,⟨1,v6.1.dims.map (ow eI)⟩),(7,⟨3,v6.1.maps.map (ow eM)⟩)]) (by simp only [gR]))) k<|eN k2<|se (bJ k k (by intro _ h;cases h)) k<|se (bJ k k (by intro _ h;cases h)) k<|se (bS aB k k) k<|se (ws k) k<|gV k2<|sn<|tn<|aP (t:=mN [(0,.int a0),(2,.sc w2_0),(4,.ptr 0 0 0),(8,.ptr 8 0 0),(9,.bl v6.2)] [(0,⟨3,[[.int a1.n,.sc w1_1,.sc w1_2]]⟩),(4,⟨1,v6.1.q.src.map (ow eI)⟩),(5,⟨1,v6.1.q.tgt.map (ow eI)⟩),(6,⟨1,v6.1.dims.map (ow eI)⟩),(7,⟨3,v6.1.maps.map (ow eM)⟩),(8,⟨6,[oRp v6.1 4 5 6 7]⟩)] 9 ⟨0,true,vQ W,true⟩) (bU (bK k2) (bO k<|bN k<|bN k<|bN k<|cO (cI.plainO _) k<|fB k<|aY) k4)<|sS<|yL k8<|oB h λv7 hv7 h=>se (cQK (uT a1 v7 hv7) k3 (fT (.inr (dU (qX k k) (dU (kZ k r1_1) (dU (kZ k r1_2) vY)))) jD)) k<|se (bS aB k k) k<|se (ws k) k<|sn<|tn<|sS ?_;refine eN k2<|oB h λv8 hv8 h=>se (cLK cS (qO a2 v8 hv8) k3 (wkD k r2_0 jD)) k<|gV k2<|sn<|tn<|sS<|eN k2<|yL k8<|eN k2<|oB h λv9 hv9 h=>se (AEff.conv (zZ (x:= .tuple [.agg [.int v9.1.p,.int v9.1.q.n,.own 13 0 (v9.1.q.src.map eI).length,.own 14 0 (v9.1.q.tgt.map eI).length,.own 15 0 (v9.1.dims.map eI).length,.own 16 0 (v9.1.maps.map eM).length],.bl v9.2]) (nb:=[(13,⟨1,dD (v9.1.q.src.map eI)⟩),(14,⟨1,dD (v9.1.q.tgt.map eI)⟩),(15,⟨1,dD (v9.1.dims.map eI)⟩),(16,⟨3,dD (v9.1.maps.map eM)⟩)]) (rZ a0 v7 v8 v9 hv9) k (by rfl) k k (gD (cA aY (cA aY (cA (cS.good _) (cA (cS.good _) (cA (cS.good _) (cA (cI.good _) vI)))))) (gD aY vX)) (wkS k (fT (.inl (vaQ k4)) (wkT k k jD)))) (v':= .tuple [.agg [.int v9.1.p,.int v9.1.q.n,.own 13 0 v9.1.q.src.length,.own 14 0 v9.1.q.tgt.length,.own 15 0 v9.1.dims.length,.own 16 0 v9.1.maps.length],.bl v9.2]) (ed':=[(13,some ⟨1,v9.1.q.src.map (ow eI)⟩),(14,some ⟨1,v9.1.q.tgt.map (ow eI)⟩),(15,some ⟨1,v9.1.dims.map (ow eI)⟩),(16,some ⟨3,v9.1.maps.map (ow eM)⟩)]) (by simp only [aO]) (wR (nb':=[(13,⟨1,v9.1.q.src.map (ow eI)⟩),(14,⟨1,v9.1.q.tgt.map (ow eI)⟩),(15,⟨1,v9.1.dims.map (ow eI)⟩),(16,⟨3,v9.1.maps.map (ow eM)⟩)]) (by simp only [gR]))) k<|eN k2<|se (bJ k k (by intro _ h;cases h)) k<|se (bJ k k (by intro _ h;cases h)) k<|se (bS aB k k) k<|se (ws k) k<|gV k2<|sn<|tn<|sQ<|sS<|yL k8<|yL k8<|oB h λv10 hv10 h=>se (mV (aBr v9.1 v6.1 v10 hv10) k (fT (.inl (vaR k8)) (fT (.inl (vaR k8)) jD))) k<|se (dM k) k<|eN k2<|tG h (λq11 h=>gZ 51 k q11<|cE k k<|cE k k<|cE k k<|pkS k3<|sn<|tn<|aP (t:=mN [(0,.int a0),(2,.sc w2_0),(4,.ptr 0 0 0),(8,.ptr 8 0 0),(9,.bl v6.2),(10,.ptr 11 0 0),(11,.own 12 0 v8.length),(12,.ptr 17 0 0),(13,.bl v9.2),(55,.bl true)] [(0,⟨3,[[.int a1.n,.sc w1_1,.sc w1_2]]⟩),(4,⟨1,v6.1.q.src.map (ow eI)⟩),(5,⟨1,v6.1.q.tgt.map (ow eI)⟩),(6,⟨1,v6.1.dims.map (ow eI)⟩),(7,⟨3,v6.1.maps.map (ow eM)⟩),(8,⟨6,[oRp v6.1 4 5 6 7]⟩),(9,⟨1,v7.src.map (ow eI)⟩),(10,⟨1,v7.tgt.map (ow eI)⟩),(11,⟨3,[oQv v7 9 10]⟩),(12,⟨1,v8.map (ow eI)⟩),(13,⟨1,v9.1.q.src.map (ow eI)⟩),(14,⟨1,v9.1.q.tgt.map (ow eI)⟩),(15,⟨1,v9.1.dims.map (ow eI)⟩),(16,⟨3,v9.1.maps.map (ow eM)⟩),(17,⟨6,[oRp v9.1 13 14 15 16]⟩)] 18 ⟨0,true,vQ W,true⟩) (bU (bK k2) (bO k<|bN k<|bN k<|bN k<|cO (cI.plainO _) k<|fB k<|bN k<|bN k<|fB k<|bN k<|bN k<|bN k<|bN k<|cO (cI.plainO _) k<|fB k<|aY) k4)<|fS k k<|sS<|gV k2<|sn<|tn<|aI<|aH<|kC h k2) λq11 h=>?_;refine gZ 51 k q11<|eN k2<|eN k2<|se (aNL (by kernel_rfl) k k) k<|pkS k3<|sn<|tn<|aP (t:=mN [(0,.int a0),(2,.sc w2_0),(4,.ptr 0 0 0),(8,.ptr 8 0 0),(9,.bl v6.2),(10,.ptr 11 0 0),(11,.own 12 0 v8.length),(12,.ptr 17 0 0),(13,.bl v9.2),(55,.bl (!(v9.2==v6.2)))] [(0,⟨3,[[.int a1.n,.sc w1_1,.sc w1_2]]⟩),(4,⟨1,v6.1.q.src.map (ow eI)⟩),(5,⟨1,v6.1.q.tgt.map (ow eI)⟩),(6,⟨1,v6.1.dims.map (ow eI)⟩),(7,⟨3,v6.1.maps.map (ow eM)⟩),(8,⟨6,[oRp v6.1 4 5 6 7]⟩),(9,⟨1,v7.src.map (ow eI)⟩),(10,⟨1,v7.tgt.map (ow eI)⟩),(11,⟨3,[oQv v7 9 10]⟩),(12,⟨1,v8.map (ow eI)⟩),(13,⟨1,v9.1.q.src.map (ow eI)⟩),(14,⟨1,v9.1.q.tgt.map (ow eI)⟩),(15,⟨1,v9.1.dims.map (ow eI)⟩),(16,⟨3,v9.1.maps.map (ow eM)⟩),(17,⟨6,[oRp v9.1 13 14 15 16]⟩)] 18 ⟨0,true,vQ W,true⟩) (bU (bK k2) (bO k<|bN k<|bN k<|bN k<|cO (cI.plainO _) k<|fB k<|bN k<|bN k<|fB k<|bN k<|bN k<|bN k<|bN k<|cO (cI.plainO _) k<|fB k<|aY) k4)<|dV k h (λ_ h=>sS<|gV k2<|sn<|tn<|aI<|aH<|kC h k2) λ_ h=>?_;refine aG<|tn<|sQ<|sQ<|aM gI<|lp k8<|lp k8<|oB h λv13 hv13 h=>ae (cQK (uT a1 v13 hv13) k3 (fT (.inr (dU (qX k k) (dU (kZ k r1_1) (dU (kZ k r1_2) vY)))) jD)) k<|oB h λv14 hv14 h=>ae (mV (aCH v7 v13 v14 hv14) k (fT (.inl (vaQ k4)) (fT (.inl (vaQ k4)) jD))) k<|ae (dM k) k<|an<|qU (by kernel_rfl)<|tn<|dV k h (λ_ h=>sS<|gV k2<|sn<|tn<|aI<|aH<|kC h k2) λ_ h=>?_;refine aG<|tn<|sQ<|sS<|eN k2<|eN k2<|oB h λv16 hv16 h=>se (cLK cS (qO a2 v16 hv16) k3 (wkD k r2_0 jD)) k<|oB h λv17 hv17 h=>se (mV (tX v8 v16 v17 hv17) k (wkT k k (wkT k k jD))) k<|se (dM k) k<|sn<|tn<|dV k h (λ_ h=>sS<|gV k2<|sn<|tn<|aI<|aH<|kC h k2) λ_ h=>?_;refine aG<|tn<|sS<|gV k2<|sn<|tn<|sS<|yL k8<|eN k2<|oB h λv19 hv19 h=>se (jQ (σ:=sg [(0,9),(1,10)]) (σ':=sg [(9,0),(10,1)]) (touch:=[9,10]) (news:=[]) (hl2:=[(9,⟨1,v19.1.map (ow eI)⟩),(10,⟨1,v19.2.1.map (ow eI)⟩)]) (n':=21) (r2:= .int v19.2.2) (aAj v7 1 v19 hv19) k k ⟨_,_,k,⟨_,_,k,k,⟨_,_,k,⟨k,k,k,k⟩,⟨_,_,k,⟨k,k,k,k⟩,k⟩⟩⟩,⟨_,_,k,k,k⟩⟩ ⟨⟨_,k,k,.inl ⟨k,cS.plainO _⟩⟩,k,⟨_,k,k,.inl ⟨k,cS.plainO _⟩⟩,k,aY⟩ k k k ⟨⟨_,k,k,.inl ⟨k,cS.plainO _⟩⟩,k,⟨_,k,k,.inl ⟨k,cS.plainO _⟩⟩,k,aY⟩ k k k ⟨k,cS.tame _ _,⟨k,cS.tame _ _,aY⟩⟩ k k) k<|cG h λq20 h=>cG h λq21 h=>gV k2<|sn<|tn<|sS<|eN k2<|eN k2<|oB h λv22 hv22 h=>se (jQ (σ:=sg [(0,12)]) (σ':=sg [(12,0)]) (touch:=[12]) (news:=[]) (hl2:=[(12,⟨1,v22.1.map (ow eI)⟩)]) (n':=21) (r2:= .int v22.2) (qN v8 v19.2.2 v22 hv22) k k ⟨_,_,k,⟨k,k,k,k⟩,⟨_,_,k,k,k⟩⟩ ⟨⟨_,k,k,.inl ⟨k,cS.plainO _⟩⟩,k,aY⟩ k k k ⟨⟨_,k,k,.inl ⟨k,cS.plainO _⟩⟩,k,aY⟩ k k k ⟨k,cS.tame _ _,aY⟩ k k) k<|cG h λq23 h=>gV k2<|sn<|tn<|sQ<|sS<|eN k2<|cmS k4<|eN k2<|tG h (λq24 h=>gZ 74 k q24<|cE k k<|cE k k<|cE k k<|cE k k<|pkS k3<|eN k2<|cE k k<|cE k k<|cE k k<|pkS k3<|sn<|tn<|aP (t:=mN [(0,.int a0),(2,.sc w2_0),(4,.ptr 0 0 0),(8,.ptr 8 0 0),(9,.bl v6.2),(12,.ptr 17 0 0),(84,.bl true)] [(0,⟨3,[[.int a1.n,.sc w1_1,.sc w1_2]]⟩),(4,⟨1,v6.1.q.src.map (ow eI)⟩),(5,⟨1,v6.1.q.tgt.map (ow eI)⟩),(6,⟨1,v6.1.dims.map (ow eI)⟩),(7,⟨3,v6.1.maps.map (ow eM)⟩),(8,⟨6,[oRp v6.1 4 5 6 7]⟩),(13,⟨1,v9.1.q.src.map (ow eI)⟩),(14,⟨1,v9.1.q.tgt.map (ow eI)⟩),(15,⟨1,v9.1.dims.map (ow eI)⟩),(16,⟨3,v9.1.maps.map (ow eM)⟩),(17,⟨6,[oRp v9.1 13 14 15 16]⟩)] 21 ⟨0,true,vQ W,true⟩) (bU (bK k2) (bO k<|bN k<|bN k<|bN k<|cO (cI.plainO _) k<|fB k<|bN k<|bN k<|bN k<|cO (cI.plainO _) k<|fB k<|aY) k4)<|fS k k<|sS<|gV k2<|sn<|tn<|aI<|aH<|kC h k2) λq24 h=>?_;refine gZ 74 k q24<|yL k8<|yL k8<|oB h λv25 hv25 h=>se (mV (aBr v9.1 v6.1 v25 hv25) k (fT (.inl (vaR k8)) (fT (.inl (vaR k8)) jD))) k<|se (dM k) k<|pkS k3<|eN k2<|tG h (λq26 h=>gZ 80 k q26<|cE k k<|cE k k<|cE k k<|pkS k3<|sn<|tn<|aP (t:=mN [(0,.int a0),(2,.sc w2_0),(4,.ptr 0 0 0),(8,.ptr 8 0 0),(9,.bl v6.2),(12,.ptr 17 0 0),(84,.bl true)] [(0,⟨3,[[.int a1.n,.sc w1_1,.sc w1_2]]⟩),(4,⟨1,v6.1.q.src.map (ow eI)⟩),(5,⟨1,v6.1.q.tgt.map (ow eI)⟩),(6,⟨1,v6.1.dims.map (ow eI)⟩),(7,⟨3,v6.1.maps.map (ow eM)⟩),(8,⟨6,[oRp v6.1 4 5 6 7]⟩),(13,⟨1,v9.1.q.src.map (ow eI)⟩),(14,⟨1,v9.1.q.tgt.map (ow eI)⟩),(15,⟨1,v9.1.dims.map (ow eI)⟩),(16,⟨3,v9.1.maps.map (ow eM)⟩),(17,⟨6,[oRp v9.1 13 14 15 16]⟩)] 21 ⟨0,true,vQ W,true⟩) (bU (bK k2) (bO k<|bN k<|bN k<|bN k<|cO (cI.plainO _) k<|fB k<|bN k<|bN k<|bN k<|cO (cI.plainO _) k<|fB k<|aY) k4)<|fS k k<|sS<|gV k2<|sn<|tn<|aI<|aH<|kC h k2) λq26 h=>?_;refine gZ 80 k q26<|eN k2<|eN k2<|se (aNL (by kernel_rfl) k k) k<|pkS k3<|sn<|tn<|aP (t:=mN [(0,.int a0),(2,.sc w2_0),(4,.ptr 0 0 0),(8,.ptr 8 0 0),(9,.bl v6.2),(12,.ptr 17 0 0),(84,.bl (!(v9.2==v6.2)))] [(0,⟨3,[[.int a1.n,.sc w1_1,.sc w1_2]]⟩),(4,⟨1,v6.1.q.src.map (ow eI)⟩),(5,⟨1,v6.1.q.tgt.map (ow eI)⟩),(6,⟨1,v6.1.dims.map (ow eI)⟩),(7,⟨3,v6.1.maps.map (ow eM)⟩),(8,⟨6,[oRp v6.1 4 5 6 7]⟩),(13,⟨1,v9.1.q.src.map (ow eI)⟩),(14,⟨1,v9.1.q.tgt.map (ow eI)⟩),(15,⟨1,v9.1.dims.map (ow eI)⟩),(16,⟨3,v9.1.maps.map (ow eM)⟩),(17,⟨6,[oRp v9.1 13 14 15 16]⟩)] 21 ⟨0,true,vQ W,true⟩) (bU (bK k2) (bO k<|bN k<|bN k<|bN k<|cO (cI.plainO _) k<|fB k<|bN k<|bN k<|bN k<|cO (cI.plainO _) k<|fB k<|aY) k4)<|dV k h (λ_ h=>sS<|gV k2<|sn<|tn<|aI<|aH<|kC h k2) λ_ h=>?_;refine aG<|tn<|sS<|gV k2<|sn<|tn<|sS<|yL k8<|eN k2<|oB h λv28 hv28 h=>gY (t:=mN [(0,.int a0),(2,.sc w2_0),(4,.ptr 0 0 0),(8,.ptr 8 0 0),(9,.bl v6.2),(12,.ptr 17 0 0),(15,.int 1),(84,.bl (!(v9.2==v6.2))),(85,.agg (oRp v9.1 13 14 15 16)),(86,.int 1)] [(0,⟨3,[[.int a1.n,.sc w1_1,.sc w1_2]]⟩),(4,⟨1,v6.1.q.src.map (ow eI)⟩),(5,⟨1,v6.1.q.tgt.map (ow eI)⟩),(6,⟨1,v6.1.dims.map (ow eI)⟩),(7,⟨3,v6.1.maps.map (ow eM)⟩),(8,⟨6,[oRp v6.1 4 5 6 7]⟩),(13,⟨1,v9.1.q.src.map (ow eI)⟩),(14,⟨1,v9.1.q.tgt.map (ow eI)⟩),(15,⟨1,v9.1.dims.map (ow eI)⟩),(16,⟨3,v9.1.maps.map (ow eM)⟩),(17,⟨6,[oRp v9.1 13 14 15 16]⟩)] 21 ⟨0,true,vQ W,true⟩) (bU (bK k2) (bO k<|bN k<|bN k<|bN k<|cO (cI.plainO _) k<|fB k<|bN k<|bN k<|bN k<|cO (cI.plainO _) k<|fB k<|aY) k4)<|aRD (σ:=sg [(0,13),(1,14),(2,15),(3,16)]) (σ':=sg [(13,0),(14,1),(15,2),(16,3)]) (touch:=[13,14,15,16]) (news:=[]) (hl2:=[(13,⟨1,v28.1.map (ow eI)⟩),(14,⟨1,v28.2.1.map (ow eI)⟩),(15,⟨1,v28.2.2.1.map (ow eI)⟩),(16,⟨3,v28.2.2.2.1.map (ow eM)⟩)]) (n':=21) (r2:= .int v28.2.2.2.2) (aIX v9.1 1 v28 hv28) k k ⟨_,_,k,⟨_,_,k,k,⟨_,_,k,k,⟨_,_,k,⟨k,k,k,k⟩,⟨_,_,k,⟨k,k,k,k⟩,⟨_,_,k,⟨k,k,k,k⟩,⟨_,_,k,⟨k,k,k,k⟩,k⟩⟩⟩⟩⟩⟩,⟨_,_,k,k,k⟩⟩ ⟨⟨_,k,k,.inl ⟨k,cS.plainO _⟩⟩,k,⟨_,k,k,.inl ⟨k,cS.plainO _⟩⟩,k,⟨_,k,k,.inl ⟨k,cS.plainO _⟩⟩,k,⟨_,k,k,.inl ⟨k,cI.plainO _⟩⟩,k,aY⟩ k k k ⟨⟨_,k,k,.inl ⟨k,cS.plainO _⟩⟩,k,⟨_,k,k,.inl ⟨k,cS.plainO _⟩⟩,k,⟨_,k,k,.inl ⟨k,cS.plainO _⟩⟩,k,⟨_,k,k,.inl ⟨k,cI.plainO _⟩⟩,k,aY⟩ k k k ⟨k,cS.tame _ _,⟨k,cS.tame _ _,⟨k,cS.tame _ _,⟨k,cI.tame _ _,aY⟩⟩⟩⟩ k k k k k (aAo ⟨k,k,k,k,k,k,k,k,k,k,aY⟩) (aAp (skip:=[13,14,15,16]) ⟨.inr (tK k),.inr (cS.df _ _),.inr (cS.df _ _),.inr (cS.df _ _),.inr (cI.df _ _),.inr (tK k),.inl (by decide),.inl (by decide),.inl (by decide),.inl (by decide),.inr (tK k),aY⟩)<|cG h λq29 h=>cG h λq30 h=>cG h λq31 h=>cG h λq32 h=>gV k2<|sn<|tn<|sS<|gV k2<|sn<|tn<|sS<|yL k8<|eN k2<|oB h λv33 hv33 h=>se (mV (aCn (⟨v9.1.p,(⟨v9.1.q.n,v28.1,v28.2.1⟩:Qv),v28.2.2.1,v28.2.2.2.1⟩:Rp) 1 v33 hv33) k (fT (.inl (aCv (gH (sB k) (gH (sB k) (gH (aCI cS k (by first|rfl|simp only [List.length_set,of_decide_eq_true q29])) (gH (aCI cS k (by first|rfl|simp only [List.length_set,of_decide_eq_true q30])) (gH (aCI cS k (by first|rfl|simp only [List.length_set,of_decide_eq_true q31])) (gH (aCI cI k (by first|rfl|simp only [List.length_set,of_decide_eq_true q32])) aCO)))))))) (wkS k jD))) k<|gV k2<|sn<|tn ?_;refine sQ<|sS<|eN k2<|cmS k4<|sn<|tn<|dV k h (λ_ h=>sS<|gV k2<|sn<|tn<|aI<|aH<|kC h k2) λ_ h=>?_;refine aG<|tn<|sQ<|sS<|eN k2<|eN k2<|cmS k4<|sn<|tn<|dV k h (λ_ h=>sS<|gV k2<|sn<|tn<|aI<|aH<|kC h k2) λ_ h=>?_;refine aG<|tn<|sS<|eN k2<|yL k8<|oB h λv36 hv36 h=>se (cQK (uT a1 v36 hv36) k3 (fT (.inr (dU (qX k k) (dU (kZ k r1_1) (dU (kZ k r1_2) vY)))) jD)) k<|eN k2<|oB h λv37 hv37 h=>se (cLK cS (qO a2 v37 hv37) k3 (wkD k r2_0 jD)) k<|oB h λv38 hv38 h=>se (AEff.conv (zZ (x:= .tuple [.agg [.int v38.1.p,.int v38.1.q.n,.own 24 0 (v38.1.q.src.map eI).length,.own 25 0 (v38.1.q.tgt.map eI).length,.own 26 0 (v38.1.dims.map eI).length,.own 27 0 (v38.1.maps.map eM).length],.bl v38.2]) (nb:=[(24,⟨1,dD (v38.1.q.src.map eI)⟩),(25,⟨1,dD (v38.1.q.tgt.map eI)⟩),(26,⟨1,dD (v38.1.dims.map eI)⟩),(27,⟨3,dD (v38.1.maps.map eM)⟩)]) (rZ a0 v36 v37 v38 hv38) k (by rfl) k k (gD (cA aY (cA aY (cA (cS.good _) (cA (cS.good _) (cA (cS.good _) (cA (cI.good _) vI)))))) (gD aY vX)) (wkS k (fT (.inl (vaQ k4)) (wkT k k jD)))) (v':= .tuple [.agg [.int v38.1.p,.int v38.1.q.n,.own 24 0 v38.1.q.src.length,.own 25 0 v38.1.q.tgt.length,.own 26 0 v38.1.dims.length,.own 27 0 v38.1.maps.length],.bl v38.2]) (ed':=[(24,some ⟨1,v38.1.q.src.map (ow eI)⟩),(25,some ⟨1,v38.1.q.tgt.map (ow eI)⟩),(26,some ⟨1,v38.1.dims.map (ow eI)⟩),(27,some ⟨3,v38.1.maps.map (ow eM)⟩)]) (by simp only [aO]) (wR (nb':=[(24,⟨1,v38.1.q.src.map (ow eI)⟩),(25,⟨1,v38.1.q.tgt.map (ow eI)⟩),(26,⟨1,v38.1.dims.map (ow eI)⟩),(27,⟨3,v38.1.maps.map (ow eM)⟩)]) (by simp only [gR]))) k<|eN k2<|se (bJ k k (by intro _ h;cases h)) k<|se (bJ k k (by intro _ h;cases h)) k<|se (bS aB k k) k<|se (ws k) k<|gV k2<|sn<|tn<|sQ<|sS<|yL k8<|yL k8<|oB h λv39 hv39 h=>se (mV (aBr v38.1 v6.1 v39 hv39) k (fT (.inl (vaR k8)) (fT (.inl (vaR k8)) jD))) k<|se (dM k) k<|eN k2<|tG h (λq40 h=>gZ 109 k q40<|cE k k<|cE k k<|cE k k<|pkS k3<|sn<|tn<|aP (t:=mN [(12,.ptr 17 0 0),(15,.int v28.2.2.2.2),(113,.bl true)] [(13,⟨1,v28.1.map (ow eI)⟩),(14,⟨1,v28.2.1.map (ow eI)⟩),(15,⟨1,v28.2.2.1.map (ow eI)⟩),(16,⟨3,v28.2.2.2.1.map (ow eM)⟩),(17,⟨6,[[.int v9.1.p,.int v9.1.q.n,.own 13 0 v28.1.length,.own 14 0 v28.2.1.length,.own 15 0 v28.2.2.1.length,.own 16 0 v28.2.2.2.1.length]]⟩)] 29 ⟨0,true,vQ W,true⟩) (bU (bK k2) (bN k<|bN k<|bN k<|cO (cI.plainO _) k<|hX ⟨_,k,k,.inr ⟨_,_,k,⟨_,_,k,k,⟨_,_,k,k,⟨_,_,k,⟨k,k,(by simp only [aO,lA,lT,lR,lC,lN,of_decide_eq_true q29]),k⟩,⟨_,_,k,⟨k,k,(by simp only [aO,lA,lT,lR,lC,lN,of_decide_eq_true q30]),k⟩,⟨_,_,k,⟨k,k,(by simp only [aO,lA,lT,lR,lC,lN,of_decide_eq_true q31]),k⟩,⟨_,_,k,⟨k,k,(by simp only [aO,lA,lT,lR,lC,lN,of_decide_eq_true q32]),k⟩,k⟩⟩⟩⟩⟩⟩,k⟩⟩ k<|aY) k4)<|fS k k<|sS<|gV k2<|sn<|tn<|aI<|aH<|kC h k2) λq40 h=>?_;exact gZ 109 k q40<|eN k2<|eN k2<|se (aNL (by kernel_rfl) k k) k<|pkS k3<|sn<|tn<|aP (t:=mN [(12,.ptr 17 0 0),(15,.int v28.2.2.2.2),(113,.bl (!(v38.2==v6.2)))] [(13,⟨1,v28.1.map (ow eI)⟩),(14,⟨1,v28.2.1.map (ow eI)⟩),(15,⟨1,v28.2.2.1.map (ow eI)⟩),(16,⟨3,v28.2.2.2.1.map (ow eM)⟩),(17,⟨6,[[.int v9.1.p,.int v9.1.q.n,.own 13 0 v28.1.length,.own 14 0 v28.2.1.length,.own 15 0 v28.2.2.1.length,.own 16 0 v28.2.2.2.1.length]]⟩)] 29 ⟨0,true,vQ W,true⟩) (bU (bK k2) (bN k<|bN k<|bN k<|cO (cI.plainO _) k<|hX ⟨_,k,k,.inr ⟨_,_,k,⟨_,_,k,k,⟨_,_,k,k,⟨_,_,k,⟨k,k,(by simp only [aO,lA,lT,lR,lC,lN,of_decide_eq_true q29]),k⟩,⟨_,_,k,⟨k,k,(by simp only [aO,lA,lT,lR,lC,lN,of_decide_eq_true q30]),k⟩,⟨_,_,k,⟨k,k,(by simp only [aO,lA,lT,lR,lC,lN,of_decide_eq_true q31]),k⟩,⟨_,_,k,⟨k,k,(by simp only [aO,lA,lT,lR,lC,lN,of_decide_eq_true q32]),k⟩,k⟩⟩⟩⟩⟩⟩,k⟩⟩ k<|aY) k4)<|dV k h (λ_ h=>sS<|gV k2<|sn<|tn<|aI<|aH<|kC h k2) λ_ h=>aG<|tn<|sS<|gV k2<|sn<|tn<|sS<|yL k8<|eN k2<|oB h λv42 hv42 h=>se (mV (aCn (⟨v9.1.p,(⟨v9.1.q.n,v28.1,v28.2.1⟩:Qv),v28.2.2.1,v28.2.2.2.1⟩:Rp) 1 v42 hv42) k (fT (.inl (aCv (gH (sB k) (gH (sB k) (gH (aCI cS k (by first|rfl|simp only [List.length_set,of_decide_eq_true q29])) (gH (aCI cS k (by first|rfl|simp only [List.length_set,of_decide_eq_true q30])) (gH (aCI cS k (by first|rfl|simp only [List.length_set,of_decide_eq_true q31])) (gH (aCI cI k (by first|rfl|simp only [List.length_set,of_decide_eq_true q32])) aCO)))))))) (wkS k jD))) k<|gV k2<|sn<|tn<|sQ<|sS<|eN k2<|cmS k4<|sn<|tn<|dV k h (λ_ h=>sS<|gV k2<|sn<|tn<|aI<|aH<|kC h k2) λ_ h=>aG<|tn<|sQ<|sS<|eN k2<|eN k2<|cmS k4<|sn<|tn<|dV k h (λ_ h=>sS<|gV k2<|sn<|tn<|aI<|aH<|kC h k2) λ_ h=>aG<|tn<|sS<|gV k2<|sn<|tn<|aI<|kC h k2
end
noncomputable section
theorem aAP {p:Int} {q:Qv} {m:List Int} (fq:fQ q) (fm:fI m):iD p q m=some true:=by
 unfold iD;by_cases c1:m.length≤1048576
 ·rw [eV (by omega),bA,aVr fq (by decide) (by decide),aD];rcases aSq q 1048576 (by decide) (by decide) with e|⟨e1,e2,hb⟩
  ·rw [e];rfl
  ·rw [eV (by omega),bA];have hx:bI m:=c1;obtain ⟨r,b,h1,h2,h3,_⟩:=aNA p hb (m:=m) hx;have hnR:=aVb h3;have hl:=h3.2.2.1.1;have hq1:q.src.length≤1048576:=hb.1;have hq2:q.tgt.length≤1048576:=hb.2.1;have hnq:nQ q≤2097152:=by unfold nQ;rw [aAx,aAx];omega
   have hnx:nI m≤1048576:=by rw [aAx];exact c1
   obtain ⟨g1,g2,g3,g4⟩:=aTT 1 r;simp only [aVs hb,aUE hx,aD,h1,h2,aVu h3,aRL hx,aVM hb,decide_true,beq_self_eq_true,iX,bA];rw [aVY (by decide) (by omega),aD];simp only [mvQ,wO,decide_true,aN];rw [aSM (by omega) (by omega),aD];simp only [wO,decide_true,aN];rw [eV (by omega),bA,aWD (by decide) (by omega) (by omega),aD];simp only [g1,g2,g3,g4,decide_true,aN];have hh:pH (⟨r.p,⟨r.q.n,(mvR 1 r).q.src,(mvR 1 r).q.tgt⟩,(mvR 1 r).dims,(mvR 1 r).maps⟩:Rp) 1=some ((1:Int)+(nR r:Int)):=aWE (by decide) (by omega) (by omega);rw [hh,aD,aD];simp only [aOG (show (0:Int)≤1 by decide),decide_true,iX,bA]
 ·rw [bG (by omega),aN]
end
end Go.Proofs.YtilpfdokmlanjaaGreat

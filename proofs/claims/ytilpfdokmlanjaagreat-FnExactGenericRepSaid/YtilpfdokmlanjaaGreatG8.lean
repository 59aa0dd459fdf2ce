/-
  Several texts of the claim in one.
-/
import Derived.Test.YtilpfdokmlanjaaGreatG7
set_option linter.unusedVariables false
set_option linter.unusedSimpArgs false
namespace Go.Proofs.YtilpfdokmlanjaaGreat
open Go.RowKit
noncomputable section
set_option maxRecDepth 10000
set_option maxHeartbeats 4000000
def wT (a0:Rp) (a1:Rp) (x1:((List Mt)×Int)):Option (((List Mt)×Int) ⊕ (List Mt)):=
 bif decide (x1.2<(a0.dims.length:Int)) then
 ((cO a0.dims x1.2).bind λv2=>
 (cO a1.dims x1.2).bind λv3=>
 (mT v3 v2).bind λv4=>
 bif decide (x1.1.length+1≤4294967296) then
 (some (.inl ((x1.1++[v4]),wr (x1.2+1))))
 else none)
 else
 (some (.inr x1.1))
def aAj (a0:Rp) (a1:Rp):Option (List Mt):=
 (Lp (wT a0 a1) ([],0)).bind λy6=>
 some (y6)
theorem aMG (a0:Rp) (a1:Rp) (r:(List Mt)) (h:aAj a0 a1=some r):HasC Tryz.prog 191 [.agg (eR a0),.agg (eR a1)] (.list 3 (r.map eM)):=by
 refine hM [.tmp 4] Tryz.func191 Tryz.ntmps191 k<|sR<|ae (wb k) k<|ae (wb k) k<|aT k2<|sR<|aT k2<|sQ<|sR<|fp k8<|lp k8<|ln k4<|am k k<|an<|tn<|aE<|oB h λy6 hy6 h=>cC (body:=(wT a0 a1)) hy6 (λ(x1:((List Mt)×Int))=>mN [(3,.ptr 0 0 0),(5,.own 1 0 x1.1.length),(9,.list 1 (a0.dims.map eI)),(10,.int (a0.dims.length:Int)),(11,.int x1.2)] [(0,⟨6,[eR a1]⟩),(1,⟨3,x1.1.map (ow eM)⟩)] 2) (λr e t=>e= .exit 0∧Ent t (mN [(5,.own 0 0 r.length)] [(0,⟨3,r.map (ow eM)⟩)] 1)) (fX (σ:=sg [(0,1)]) (mG 1 k2 (jJ ⟨_,k,⟨k,k,k,k⟩⟩ (bK k2))) (bN k<|hX k k<|aR) k) ?_ ?_
 ·intro x1 o h;refine sR<|cm k4<|an<|tn<|sQ<|dR k h (λ_ h=>?_) λ_ h=>aU<|aB<|aB<|sp h ⟨_,k,k,(mX [1] (bK k2) (cD (cE.plainO _) k<|aR) k4)⟩;refine aG<|tn<|sQ<|aE<|sR<|am k k<|oB h λv2 hv2 h=>ae (xl hv2 k) k<|lr k7<|aa k k<|aT k2<|rg<|am k k<|fp k8<|lp k8<|am k k<|oB h λv3 hv3 h=>ae (xl hv3 k) k<|lr k7<|am k k<|oB h λv4 hv4 h=>ae (cM (uB v3 v2 v4 hv4) k3 (dW k (dW k aS))) k<|ae (wl k) k<|cG h λq5 h=>ae (jY aD (l:=x1.1) (c:=[.int v4.rows,.int v4.cols,.own 2 0 v4.cells.length]) q5 k k k k k k k k k k k k k k) k<|aa k k<|an<|aV<|tn<|aP (t:=mN [(3,.ptr 0 0 0),(5,.own 4 0 ((x1.1++[v4]).length)),(9,.list 1 (a0.dims.map eI)),(10,.int (a0.dims.length:Int)),(11,.int x1.2)] [(0,⟨6,[eR a1]⟩),(4,⟨3,List.map (ow eM) (x1.1++[v4])⟩)] 5) (Ent.trans (eY (b:=4) (b':=2) (j:=2) (es':=v4.cells.map eI) k k k k (aO _ _) (cP.frzs _)) (bS (mG 1 k2 (jJ ⟨_,k,⟨k,k,(by simp only [aO,lA,lT,lR,lC,lN]),k⟩⟩ (bK k2))) (bN k<|hX ⟨_,k,k,.inl ⟨kP v4 k,cE.plainO _⟩⟩ k<|aR) k4)) ?_;exact rg<|ae (bF k k) k<|am k k<|an<|tn<|sp h ⟨_,k,(mX [0,4] (bK k2) (bN k<|cD (cE.plainO _) k<|aR) k4)⟩
 ·rintro e t ⟨rfl,hent⟩;exact aL<|tn<|aP hent<|sR<|am k k<|aT k2<|aJ<|sp h (bT k k k (mI (eX cE k k)))
def xX (a0:(List Mt)) (x1:((List Int)×Int)):Option (((List Int)×Int) ⊕ (List Int)):=
 bif decide (x1.2<(a0.length:Int)) then
 ((cO a0 x1.2).bind λv2=>
 bif decide (x1.1.length+v2.cells.length≤4294967296) then
 (some (.inl ((x1.1++v2.cells),wr (x1.2+1))))
 else none)
 else
 (some (.inr x1.1))
def kT (a0:(List Mt)):Option (List Int):=
 (Lp (xX a0) ([],0)).bind λy4=>
 some (y4)
theorem aBa (a0:(List Mt)) (r:(List Int)) (h:kT a0=some r):HasC Tryz.prog 128 [.list 3 (a0.map eM)] (.list 1 (r.map eI)):=by
 refine hM [.tmp 2] Tryz.func128 Tryz.ntmps128 k<|sR<|aT k2<|sR<|aT k2<|sQ<|sR<|am k k<|ln k4<|am k k<|an<|tn<|aE<|oB h λy4 hy4 h=>cC (body:=(xX a0)) hy4 (λ(x1:((List Int)×Int))=>mN [(3,.own 0 0 x1.1.length),(6,.list 3 (a0.map eM)),(7,.int (a0.length:Int)),(8,.int x1.2)] [(0,⟨1,x1.1.map (ow eI)⟩)] 1) (λr e t=>e= .exit 0∧Ent t (mN [(3,.own 0 0 r.length)] [(0,⟨1,r.map (ow eI)⟩)] 1)) (fX (σ:=sg []) (jJ ⟨_,k,⟨k,k,k,k⟩⟩ (bK k2)) (hX k k<|aR) k) ?_ ?_
 ·intro x1 o h;exact sR<|cm k4<|an<|tn<|sQ<|dR k h (λ_ h=>aG<|tn<|sQ<|aE<|sR<|oB h λv2 hv2 h=>ae (xl hv2 k) k<|lr k7<|ae (bX aD k k) k<|ae (ws k) k<|an<|tn<|rg<|am k k<|fp k8<|lp k8<|cG h λq3 h=>ae (vE aD (l:=x1.1) (m:=v2.cells) jX q3 k k k k k k k k k k k k) k<|aa k k<|an<|aV<|tn<|rg<|ae (bF k k) k<|am k k<|an<|tn<|sp h ⟨_,k,(mX [2] (bK k2) (bP k<|aR) k4)⟩) λ_ h=>aU<|aB<|aB<|sp h ⟨_,k,k,(bS (bK k2) (bP k<|aR) k4)⟩
 ·rintro e t ⟨rfl,hent⟩;exact aL<|tn<|aP hent<|sR<|am k k<|aT k2<|aJ<|sp h (bT k k k (mI (eX cP k k)))
def uT (a0:(List Mt)) (x1:((List Int)×(List Mt)×Int)):Option (((List Int)×(List Mt)×Int) ⊕ (List Mt)):=
 bif decide (x1.2.2<(a0.length:Int)) then
 ((cO a0 x1.2.2).bind λv2=>
 bif (decide (0≤0)&&(decide (0≤(v2.cells.length:Int))&&decide ((v2.cells.length:Int)≤(x1.1.length:Int)))) then
 ((hO ((x1.1.drop (0:Int).toNat).take ((v2.cells.length:Int).toNat - (0:Int).toNat))).bind λv4=>
 bif decide (x1.2.1.length+1≤4294967296) then
 (bif (decide (0≤(v2.cells.length:Int))&&(decide ((v2.cells.length:Int)≤(x1.1.length:Int))&&decide ((x1.1.length:Int)≤(x1.1.length:Int)))) then
 (some (.inl (((x1.1.drop (v2.cells.length:Int).toNat).take ((x1.1.length:Int).toNat - (v2.cells.length:Int).toNat)),(x1.2.1++[(⟨v2.rows,v2.cols,v4⟩:Mt)]),wr (x1.2.2+1))))
 else none)
 else none)
 else none)
 else
 (some (.inr x1.2.1))
def sW (a0:(List Mt)) (a1:(List Int)):Option (List Mt):=
 (Lp (uT a0) (a1,[],0)).bind λy7=>
 some (y7)
theorem aEZ (a0:(List Mt)) (a1:(List Int)) (r:(List Mt)) (h:sW a0 a1=some r):HasC Tryz.prog 131 [.list 3 (a0.map eM),.list 1 (a1.map eI)] (.list 3 (r.map eM)):=by
 refine hM [.tmp 4] Tryz.func131 Tryz.ntmps131 k<|sR<|aT k2<|sR<|aT k2<|sQ<|sR<|am k k<|ln k4<|am k k<|an<|tn<|aE<|oB h λy7 hy7 h=>cC (body:=(uT a0)) hy7 (λ(x1:((List Int)×(List Mt)×Int))=>mN [(1,.list 1 (x1.1.map eI)),(5,.own 0 0 x1.2.1.length),(9,.list 3 (a0.map eM)),(10,.int (a0.length:Int)),(11,.int x1.2.2)] [(0,⟨3,x1.2.1.map (ow eM)⟩)] 1) (λr e t=>e= .exit 0∧Ent t (mN [(5,.own 0 0 r.length)] [(0,⟨3,r.map (ow eM)⟩)] 1)) (fX (σ:=sg []) (mG 1 k2 (jJ ⟨_,k,⟨k,k,k,k⟩⟩ (bK k2))) (hX k k<|aR) k) ?_ ?_
 ·intro x1 o h;refine sR<|cm k4<|an<|tn<|sQ<|dR k h (λ_ h=>?_) λ_ h=>aU<|aB<|aB<|sp h ⟨_,k,k,(bS (bK k2) (cD (cE.plainO _) k<|aR) k4)⟩;refine aG<|tn<|sQ<|aE<|sR<|oB h λv2 hv2 h=>ae (xl hv2 k) k<|lr k7<|ae (bX aD k k) k<|ae (ws k) k<|an<|tn<|sR<|fp k8<|lp k8<|ln k4<|aT k2<|sQ<|aN gD<|am k k<|fp k8<|lp k8<|fp k8<|lp k8<|am k k<|am k k ?_;exact cG h λq3 h=>ae (oJ aD (l0:=x1.1) (l:=0) (h:=(v2.cells.length:Int)) q3 k k k k k k k) k<|oB h λv4 hv4 h=>ae (cL cP (wB ((x1.1.drop (0:Int).toNat).take ((v2.cells.length:Int).toNat - (0:Int).toNat)) v4 hv4) k3 (dW k aS)) k<|ae (dE aD k k k k k k) k<|ae (wl k) k<|cG h λq5 h=>ae (jY aD (l:=x1.2.1) (c:=[.int v2.rows,.int v2.cols,.own 2 0 v4.length]) q5 k k k k k k k k k k k k k k) k<|aa k k<|an<|rC (by kernel_rfl)<|tn<|aP (t:=mN [(1,.list 1 (x1.1.map eI)),(5,.own 4 0 ((x1.2.1++[(⟨v2.rows,v2.cols,v4⟩:Mt)]).length)),(8,.int (v2.cells.length:Int)),(9,.list 3 (a0.map eM)),(10,.int (a0.length:Int)),(11,.int x1.2.2)] [(4,⟨3,List.map (ow eM) (x1.2.1++[(⟨v2.rows,v2.cols,v4⟩:Mt)])⟩)] 5) (Ent.trans (eY (b:=4) (b':=2) (j:=2) (es':=v4.map eI) k k k k (aO _ _) (cP.frzs _)) (bS (mG 1 k2 (jJ ⟨_,k,⟨k,k,(by simp only [aO,lA,lT,lR,lC,lN]),k⟩⟩ (bK k2))) (hX ⟨_,k,k,.inl ⟨kP (⟨v2.rows,v2.cols,v4⟩:Mt) k,cE.plainO _⟩⟩ k<|aR) k4))<|rg<|am k k<|am k k<|cG h λq6 h=>ae (oJ aD (l0:=x1.1) (l:=(v2.cells.length:Int)) (h:=(x1.1.length:Int)) q6 k k k k k k k) k<|aa k k<|an<|aV<|tn<|rg<|ae (bF k k) k<|am k k<|an<|tn<|sp h ⟨_,k,(mX [4] (bK k2) (cD (cE.plainO _) k<|aR) k4)⟩
 ·rintro e t ⟨rfl,hent⟩;exact aL<|tn<|aP hent<|sR<|am k k<|aT k2<|aJ<|sp h (bT k k k (mI (eX cE k k)))
def aBb (a0:Int) (a1:Mt) (a2:Int) (a3:Mt):Option Mt:=
 (gY a1).bind λv1=>
 (nB a0 v1.cells 0 v1.cells.length a2 a3.cells).bind λv2=>
 bif decide (v2.length=v1.cells.length) then
 (some ((⟨v1.rows,v1.cols,v2⟩:Mt)))
 else none
theorem aNj (a0:Int) (a1:Mt) (a2:Int) (a3:Mt) (r:Mt) (h:aBb a0 a1 a2 a3=some r):HasC Tryz.prog 233 [.int a0,.agg (eM a1),.int a2,.agg (eM a3)] (.agg (eM r)):=by
 refine hM [.cell 8 91] Tryz.func233 Tryz.ntmps233 k<|sR<|ae (wb k) k<|ae (wb k) k<|ae (bX aD k k) k<|an<|tn<|sR<|lp k8<|oB h λv1 hv1 h=>ae (cM (vJ a1 v1 hv1) k3 (aZ (lQ k) aS)) k<|ae (bX aD k k) k<|ae (ws k) k<|an<|tn<|sR<|am k k<|fp k8<|lp k8<|am k k<|fp k8<|lp k8<|oB h λv2 hv2 h=>ae (kO (σ:=sg [(0,3)]) (σ':=sg [(3,0)]) (touch:=[3]) (news:=[]) (hl2:=[(3,⟨1,v2.map (ow eI)⟩)]) (n':=5) (r2:= .own 3 0 v1.cells.length) (aAx a0 v1.cells 0 v1.cells.length a2 a3.cells v2 hv2) k k ⟨_,_,k,k,⟨_,_,k,⟨k,k,k,k⟩,⟨_,_,k,k,⟨_,_,k,⟨k,k⟩,k⟩⟩⟩⟩ ⟨⟨_,k,k,.inl ⟨k,cP.plainO _⟩⟩,k,aR⟩ k k k ⟨⟨_,k,k,.inl ⟨k,cP.plainO _⟩⟩,k,aR⟩ k ⟨k,k,(by simp only [aO,lA,lT,lR,lC,lN]),k⟩ k ⟨k,cP.tame _ _,aR⟩ k k) k<|cG h λq3 h=>an<|tn<|sR<|lp k8 ?_;exact ae (ws k) k<|an<|tn<|aJ<|sp h (bT k k k (pH (aH (k) (aH (k) (aH (eX cP k (by first|rfl|simp only [List.length_set,of_decide_eq_true q3])) eH)))))
def oO (a0:Rp) (a1:Rp) (a2:(List Mt)) (x1:((List Mt)×Int)):Option (((List Mt)×Int) ⊕ (List Mt)):=
 bif decide (x1.2<(a0.q.src.length:Int)) then
 ((cO a0.q.src x1.2).bind λv2=>
 (cO a1.maps x1.2).bind λv3=>
 (cO a2 v2).bind λv4=>
 (xW a0.p v3 v4).bind λv5=>
 (cO a0.q.tgt x1.2).bind λv6=>
 (cO a2 v6).bind λv7=>
 (cO a0.maps x1.2).bind λv8=>
 (xW a0.p v7 v8).bind λv9=>
 (aBb a0.p v5 (wr (a0.p - 1)) v9).bind λv10=>
 bif decide (x1.1.length+1≤4294967296) then
 (some (.inl ((x1.1++[v10]),wr (x1.2+1))))
 else none)
 else
 (some (.inr x1.1))
def tH (a0:Rp) (a1:Rp) (a2:(List Mt)):Option (List Mt):=
 (Lp (oO a0 a1 a2) ([],0)).bind λy12=>
 some (y12)
theorem aFj (a0:Rp) (a1:Rp) (a2:(List Mt)) (r:(List Mt)) (h:tH a0 a1 a2=some r):HasC Tryz.prog 200 [.agg (eR a0),.agg (eR a1),.list 3 (a2.map eM)] (.list 3 (r.map eM)):=by
 refine hM [.tmp 6] Tryz.func200 Tryz.ntmps200 k<|sR<|ae (wb k) k<|ae (wb k) k<|aT k2<|sR<|aT k2<|sQ<|sR<|fp k8<|fp k8<|lp k8<|ln k4<|am k k<|an<|tn<|aE<|oB h λy12 hy12 h=>cC (body:=(oO a0 a1 a2)) hy12 (λ(x1:((List Mt)×Int))=>mN [(2,.list 3 (a2.map eM)),(3,.ptr 0 0 0),(4,.ptr 1 0 0),(7,.own 2 0 x1.1.length),(13,.list 1 (a0.q.src.map eI)),(14,.int (a0.q.src.length:Int)),(15,.int x1.2)] [(0,⟨6,[eR a0]⟩),(1,⟨6,[eR a1]⟩),(2,⟨3,x1.1.map (ow eM)⟩)] 3) (λr e t=>e= .exit 0∧Ent t (mN [(7,.own 0 0 r.length)] [(0,⟨3,r.map (ow eM)⟩)] 1)) (fX (σ:=sg [(0,0),(1,1)]) (mG 3 k2 (jJ ⟨_,k,⟨k,k,k,k⟩⟩ (bK k2))) (bN k<|bN k<|hX k k<|aR) k) ?_ ?_
 ·intro x1 o h;refine sR<|cm k4<|an<|tn<|sQ<|dR k h (λ_ h=>?_) λ_ h=>aU<|aB<|aB<|sp h ⟨_,k,k,(mX [2] (bK k2) (cD (cE.plainO _) k<|aR) k4)⟩;refine aG<|tn<|sQ<|aE<|sR<|am k k<|oB h λv2 hv2 h=>ae (xl hv2 k) k<|lr k7<|aa k k<|aT k2<|sQ<|aN gD<|fp k8<|lp k8<|fp k8<|lp k8<|am k k<|oB h λv3 hv3 h=>ae (xl hv3 k) k<|lr k7<|am k k<|am k k<|oB h λv4 hv4 h=>ae (xl hv4 k) k<|lr k7<|oB h λv5 hv5 h=>ae (cM (aFh a0.p v3 v4 v5 hv5) k3 (dW k (aZ (lQ k) (aZ (lQ k) aS)))) k<|ae (bX aD k k) k<|ae (ws k) k ?_;refine an<|rC (by kernel_rfl)<|tn<|aN gD<|am k k<|fp k8<|lp k8<|lp k8<|fp k8<|lp k8<|ae (iV k k) k<|fp k8<|lp k8<|am k k<|fp k8<|fp k8<|lp k8<|am k k<|oB h λv6 hv6 h=>ae (xl hv6 k) k<|lr k7<|oB h λv7 hv7 h=>ae (xl hv7 k) k<|lr k7<|fp k8<|lp k8<|am k k<|oB h λv8 hv8 h=>ae (xl hv8 k) k<|lr k7<|oB h λv9 hv9 h=>ae (cM (aFh a0.p v7 v8 v9 hv9) k3 (dW k (aZ (lQ k) (aZ (lQ k) aS)))) k<|oB h λv10 hv10 h=>ae (cM (aNj a0.p v5 (wr (a0.p - 1)) v9 v10 hv10) k3 (dW k (aZ (vaM k2) (dW k (aZ (vaM k2) aS))))) k<|ae (wl k) k ?_;exact cG h λq11 h=>ae (jY aD (l:=x1.1) (c:=[.int v10.rows,.int v10.cols,.own 6 0 v10.cells.length]) q11 k k k k k k k k k k k k k k) k<|aa k k<|an<|rC (by kernel_rfl)<|aV<|tn<|aP (t:=mN [(2,.list 3 (a2.map eM)),(3,.ptr 0 0 0),(4,.ptr 1 0 0),(7,.own 8 0 ((x1.1++[v10]).length)),(13,.list 1 (a0.q.src.map eI)),(14,.int (a0.q.src.length:Int)),(15,.int x1.2)] [(0,⟨6,[eR a0]⟩),(1,⟨6,[eR a1]⟩),(8,⟨3,List.map (ow eM) (x1.1++[v10])⟩)] 9) (Ent.trans (eY (b:=8) (b':=6) (j:=2) (es':=v10.cells.map eI) k k k k (aO _ _) (cP.frzs _)) (bS (mG 3 k2 (jJ ⟨_,k,⟨k,k,(by simp only [aO,lA,lT,lR,lC,lN]),k⟩⟩ (bK k2))) (bN k<|bN k<|hX ⟨_,k,k,.inl ⟨kP v10 k,cE.plainO _⟩⟩ k<|aR) k4))<|rg<|ae (bF k k) k<|am k k<|an<|tn<|sp h ⟨_,k,(mX [0,1,8] (bK k2) (bN k<|bN k<|cD (cE.plainO _) k<|aR) k4)⟩
 ·rintro e t ⟨rfl,hent⟩;exact aL<|tn<|aP hent<|sR<|am k k<|aT k2<|aJ<|sp h (bT k k k (mI (eX cE k k)))
def mJ (a0:Rp) (a1:Rp) (x1:((List Mt)×Int)):Option (((List Mt)×Int) ⊕ (List Mt)):=
 bif decide (x1.2<(a0.q.src.length:Int)) then
 ((cO a0.q.src x1.2).bind λv2=>
 (cO a0.q.tgt x1.2).bind λv3=>
 (cO a1.dims v3).bind λv4=>
 (cO a0.dims v2).bind λv5=>
 (mT v4 v5).bind λv6=>
 bif decide (x1.1.length+1≤4294967296) then
 (some (.inl ((x1.1++[v6]),wr (x1.2+1))))
 else none)
 else
 (some (.inr x1.1))
def pS (a0:Rp) (a1:Rp):Option (List Mt):=
 (Lp (mJ a0 a1) ([],0)).bind λy8=>
 some (y8)
theorem aEO (a0:Rp) (a1:Rp) (r:(List Mt)) (h:pS a0 a1=some r):HasC Tryz.prog 201 [.agg (eR a0),.agg (eR a1)] (.list 3 (r.map eM)):=by
 refine hM [.tmp 4] Tryz.func201 Tryz.ntmps201 k<|sR<|ae (wb k) k<|ae (wb k) k<|aT k2<|sR<|aT k2<|sQ<|sR<|fp k8<|fp k8<|lp k8<|ln k4<|am k k<|an<|tn<|aE<|oB h λy8 hy8 h=>cC (body:=(mJ a0 a1)) hy8 (λ(x1:((List Mt)×Int))=>mN [(2,.ptr 0 0 0),(3,.ptr 1 0 0),(5,.own 2 0 x1.1.length),(10,.list 1 (a0.q.src.map eI)),(11,.int (a0.q.src.length:Int)),(12,.int x1.2)] [(0,⟨6,[eR a0]⟩),(1,⟨6,[eR a1]⟩),(2,⟨3,x1.1.map (ow eM)⟩)] 3) (λr e t=>e= .exit 0∧Ent t (mN [(5,.own 0 0 r.length)] [(0,⟨3,r.map (ow eM)⟩)] 1)) (fX (σ:=sg [(0,0),(1,1)]) (mG 2 k2 (jJ ⟨_,k,⟨k,k,k,k⟩⟩ (bK k2))) (bN k<|bN k<|hX k k<|aR) k) ?_ ?_
 ·intro x1 o h;refine sR<|cm k4<|an<|tn<|sQ<|dR k h (λ_ h=>?_) λ_ h=>aU<|aB<|aB<|sp h ⟨_,k,k,(mX [2] (bK k2) (cD (cE.plainO _) k<|aR) k4)⟩;refine aG<|tn<|sQ<|aE<|sR<|am k k<|oB h λv2 hv2 h=>ae (xl hv2 k) k<|lr k7<|aa k k<|aT k2<|aN gD<|am k k<|fp k8<|lp k8<|fp k8<|fp k8<|lp k8<|am k k<|oB h λv3 hv3 h=>ae (xl hv3 k) k<|lr k7<|oB h λv4 hv4 h=>ae (xl hv4 k) k<|lr k7<|fp k8<|lp k8<|am k k<|oB h λv5 hv5 h=>ae (xl hv5 k) k ?_;exact lr k7<|oB h λv6 hv6 h=>ae (cM (uB v4 v5 v6 hv6) k3 (dW k (dW k aS))) k<|ae (wl k) k<|cG h λq7 h=>ae (jY aD (l:=x1.1) (c:=[.int v6.rows,.int v6.cols,.own 3 0 v6.cells.length]) q7 k k k k k k k k k k k k k k) k<|aa k k<|an<|rC (by kernel_rfl)<|aV<|tn<|aP (t:=mN [(2,.ptr 0 0 0),(3,.ptr 1 0 0),(5,.own 5 0 ((x1.1++[v6]).length)),(10,.list 1 (a0.q.src.map eI)),(11,.int (a0.q.src.length:Int)),(12,.int x1.2)] [(0,⟨6,[eR a0]⟩),(1,⟨6,[eR a1]⟩),(5,⟨3,List.map (ow eM) (x1.1++[v6])⟩)] 6) (Ent.trans (eY (b:=5) (b':=3) (j:=2) (es':=v6.cells.map eI) k k k k (aO _ _) (cP.frzs _)) (bS (mG 2 k2 (jJ ⟨_,k,⟨k,k,(by simp only [aO,lA,lT,lR,lC,lN]),k⟩⟩ (bK k2))) (bN k<|bN k<|hX ⟨_,k,k,.inl ⟨kP v6 k,cE.plainO _⟩⟩ k<|aR) k4))<|rg<|ae (bF k k) k<|am k k<|an<|tn<|sp h ⟨_,k,(mX [0,1,5] (bK k2) (bN k<|bN k<|cD (cE.plainO _) k<|aR) k4)⟩
 ·rintro e t ⟨rfl,hent⟩;exact aL<|tn<|aP hent<|sR<|am k k<|aT k2<|aJ<|sp h (bT k k k (mI (eX cE k k)))
def nT (v1:Mt) (v3:(List Int)) (x1:((List Int)×Int)) (x2:((List Int)×Int)):Option (((List Int)×Int) ⊕ (List Int)):=
 bif decide (x2.2<(v3.length:Int)) then
 ((cO v3 x2.2).bind λv5=>
 (cO x2.1 (wr ((wr (x2.2*v1.cols))+x1.2))).bind λv6=>
 some (.inl ((x2.1.set ((wr ((wr (x2.2*v1.cols))+x1.2)).toNat) v5),wr (x2.2+1))))
 else
 (some (.inr x2.1))
def nU (a1:(List (List Int))) (v1:Mt) (x1:((List Int)×Int)):Option (((List Int)×Int) ⊕ (List Int)):=
 bif decide (x1.2<(a1.length:Int)) then
 ((cO a1 x1.2).bind λv3=>
 (Lp (nT v1 v3 x1) (x1.1,0)).bind λy7=>
 some (.inl (y7,wr (x1.2+1))))
 else
 (some (.inr x1.1))
def nH (a0:Int) (a1:(List (List Int))):Option Mt:=
 (mT a0 (a1.length:Int)).bind λv1=>
 (Lp (nU a1 v1) (v1.cells,0)).bind λy8=>
 some ((⟨v1.rows,v1.cols,y8⟩:Mt))
theorem aBD (a0:Int) (a1:(List (List Int))) (r:Mt) (h:nH a0 a1=some r):HasC Tryz.prog 165 [.int a0,.list 1 (a1.map (cH 1 eI))] (.agg (eM r)):=by
 refine hM [.cell 4 91] Tryz.func165 Tryz.ntmps165 k<|sR<|ae (bX aD k k) k<|an<|tn<|sR<|am k k<|am k k<|ln k4<|oB h λv1 hv1 h=>ae (cM (uB a0 (a1.length:Int) v1 hv1) k3 (dW k (dW k aS))) k<|ae (bX aD k k) k<|ae (ws k) k<|an<|tn<|sQ<|sR<|am k k<|ln k4<|am k k<|an<|tn<|aE<|oB h λy8 hy8 h=>cC (body:=(nU a1 v1)) hy8 (λ(x1:((List Int)×Int))=>mN [(4,.ptr 0 0 0),(5,.ptr 1 0 0),(14,.list 1 (a1.map (cH 1 eI))),(15,.int (a1.length:Int)),(16,.int x1.2)] [(0,⟨3,[iL]⟩),(1,⟨3,[[.int v1.rows,.int v1.cols,.own 2 0 x1.1.length]]⟩),(2,⟨1,x1.1.map (ow eI)⟩)] 3) (λr e t=>e= .exit 0∧Ent t (mN [(4,.ptr 0 0 0),(5,.ptr 1 0 0)] [(0,⟨3,[iL]⟩),(1,⟨3,[[.int v1.rows,.int v1.cols,.own 2 0 r.length]]⟩),(2,⟨1,r.map (ow eI)⟩)] 3)) (mX [0,2,1] (bK k2) (bN k<|fF k<|bP k<|aR) k4) ?_ ?_
 ·intro x1 o h;refine sR<|cm k4<|an<|tn<|sQ<|dR k h (λ_ h=>?_) λ_ h=>aU<|aB<|aB<|sp h ⟨_,k,k,(bS (bK k2) (bN k<|fF k<|bP k<|aR) k4)⟩;refine aG<|tn<|sQ<|aE<|sR<|am k k<|oB h λv3 hv3 h=>ae (xl hv3 k) k<|lr k7<|aa k k<|aT k2<|sR<|am k k<|ln k4<|am k k<|an<|tn<|aE<|oB h λy7 hy7 h=>cC (body:=(nT v1 v3 x1)) hy7 (λ(x2:((List Int)×Int))=>mN [(4,.ptr 0 0 0),(5,.ptr 1 0 0),(6,.int x1.2),(14,.list 1 (a1.map (cH 1 eI))),(15,.int (a1.length:Int)),(16,.int x1.2),(21,.list 1 (v3.map eI)),(22,.int (v3.length:Int)),(23,.int x2.2)] [(0,⟨3,[iL]⟩),(1,⟨3,[[.int v1.rows,.int v1.cols,.own 2 0 x2.1.length]]⟩),(2,⟨1,x2.1.map (ow eI)⟩)] 3) (λr e t=>e= .exit 2∧Ent t (mN [(4,.ptr 0 0 0),(5,.ptr 1 0 0),(14,.list 1 (a1.map (cH 1 eI))),(15,.int (a1.length:Int)),(16,.int x1.2)] [(0,⟨3,[iL]⟩),(1,⟨3,[[.int v1.rows,.int v1.cols,.own 2 0 r.length]]⟩),(2,⟨1,r.map (ow eI)⟩)] 3)) (bS (bK k2) (bN k<|fF k<|bP k<|aR) k4) ?_ ?_
  ·intro x2 o h;refine sR<|cm k4<|an<|tn<|sQ<|dR k h (λ_ h=>?_) λ_ h=>aU<|aB<|aB<|sp h ⟨_,k,k,(bS (bK k2) (bN k<|fF k<|bP k<|aR) k4)⟩;refine aG<|tn<|sQ<|aE<|sR<|am k k<|oB h λv5 hv5 h=>ae (xl hv5 k) k<|lr k7<|aa k k<|aT k2<|rg<|fp k8<|lp k8<|am k k<|fp k8<|lp k8<|ae (fZ k k) k<|am k k<|ae (bF k k) k<|am k k<|oB h λv6 hv6 h=>ae (xo hv6 k) k<|ae (fA aD jX (u:=v5) (dB hv6) k k k k k k) k<|an<|aV<|tn<|rg ?_;exact ae (bF k k) k<|am k k<|an<|tn<|sp h ⟨_,k,(bS (bK k2) (bN k<|hX ⟨_,k,k,.inr ⟨_,_,k,⟨_,_,k,k,⟨_,_,k,k,⟨_,_,k,⟨k,k,(by simp only [aO,lA,lT,lR,lC,lN]),k⟩,k⟩⟩⟩,k⟩⟩ k<|bP k<|aR) k4)⟩
  ·rintro e t ⟨rfl,hent⟩;exact aL<|aV<|tn<|aP hent<|rg<|ae (bF k k) k<|am k k<|an<|tn<|sp h ⟨_,k,(bS (bK k2) (bN k<|fF k<|bP k<|aR) k4)⟩
 ·rintro e t ⟨rfl,hent⟩;exact aL<|tn<|aP hent<|sR<|lp k8<|ae (ws k) k<|an<|tn<|aJ<|sp h (bT k k k (pH (aH (k) (aH (k) (aH (eX cP k k) eH)))))
def oP (a0:Rp) (a1:Rp) (v1:(List Mt)) (v2:(List Int)) (x1:((List (List Int))×Int)):Option (((List (List Int))×Int) ⊕ (List (List Int))):=
 bif decide (x1.2<((v2.length:Nat):Int)) then
 (bif (decide (0≤((v2.length:Nat):Int))&&decide (((v2.length:Nat):Int)≤1048576)) then
 ((cO (List.replicate (((v2.length:Nat):Int).toNat) (0:Int)) x1.2).bind λv4=>
 (sW v1 ((List.replicate (((v2.length:Nat):Int).toNat) (0:Int)).set x1.2.toNat 1)).bind λv5=>
 (tH a0 a1 v5).bind λv6=>
 (kT v6).bind λv7=>
 bif decide (x1.1.length+1≤4294967296) then
 (some (.inl ((x1.1++[v7]),wr (x1.2+1))))
 else none)
 else none)
 else
 (some (.inr x1.1))
def tI (a0:Rp) (a1:Rp):Option Mt:=
 (aAj a0 a1).bind λv1=>
 (kT v1).bind λv2=>
 (Lp (oP a0 a1 v1 v2) ([],0)).bind λy10=>
 (pS a0 a1).bind λv11=>
 (kT v11).bind λv12=>
 (nH ((v12.length:Nat):Int) y10).bind λv13=>
 some (v13)
theorem aFk (a0:Rp) (a1:Rp) (r:Mt) (h:tI a0 a1=some r):HasC Tryz.prog 170 [.agg (eR a0),.agg (eR a1)] (.agg (eM r)):=by
 refine hM [.cell 4 91] Tryz.func170 Tryz.ntmps170 k<|sR<|ae (wb k) k<|ae (wb k) k<|ae (bX aD k k) k<|an<|tn<|sR<|lp k8<|lp k8<|oB h λv1 hv1 h=>ae (cL cE (aMG a0 a1 v1 hv1) k3 (aZ (lQ k) (aZ (lQ k) aS))) k<|aT k2<|sR<|am k k<|oB h λv2 hv2 h=>ae (cL cP (aBa v1 v2 hv2) k3 (aZ (aAv cE k k) aS)) k<|ae (cA aD k k k k) k<|aT k2<|sR<|aT k2<|sQ ?_;refine sR<|am k k<|am k k<|an<|tn<|aE<|oB h λy10 hy10 h=>cC (body:=(oP a0 a1 v1 v2)) hy10 (λ(x1:((List (List Int))×Int))=>mN [(2,.ptr 0 0 0),(3,.ptr 1 0 0),(4,.ptr 2 0 0),(5,.own 3 0 v1.length),(6,.int ((v2.length:Nat):Int)),(7,.own 4 0 x1.1.length),(16,.int ((v2.length:Nat):Int)),(17,.int x1.2)] [(0,⟨6,[eR a0]⟩),(1,⟨6,[eR a1]⟩),(2,⟨3,[iL]⟩),(3,⟨3,v1.map (ow eM)⟩),(4,⟨1,x1.1.map (ow (cH 1 eI))⟩)] 5) (λr e t=>e= .exit 0∧Ent t (mN [(2,.ptr 0 0 0),(3,.ptr 1 0 0),(4,.ptr 2 0 0),(7,.own 3 0 r.length)] [(0,⟨6,[eR a0]⟩),(1,⟨6,[eR a1]⟩),(2,⟨3,[iL]⟩),(3,⟨1,r.map (ow (cH 1 eI))⟩)] 4)) (fX (σ:=sg [(0,0),(1,1),(2,2),(3,3)]) (mG 5 k2 (jJ ⟨_,k,⟨k,k,k,k⟩⟩ (bK k2))) (bN k<|bN k<|bN k<|cD (cE.plainO _) k<|hX k k<|aR) k) ?_ ?_
 ·intro x1 o h;refine sR<|cm k4<|an<|tn<|sQ<|dR k h (λ_ h=>?_) λ_ h=>aU<|aB<|aB<|sp h ⟨_,k,k,(mX [0,1,2,4] (bK k2) (bN k<|bN k<|bN k<|cD (bA.plainO _) k<|aR) k4)⟩;refine aG<|tn<|sQ<|aE<|sR<|am k k<|aT k2<|sR<|am k k<|cG h λq9 h=>ae (rJ aD q9 k k k k k k k k) k<|aT k2<|aP (t:=mN [(2,.ptr 0 0 0),(3,.ptr 1 0 0),(4,.ptr 2 0 0),(5,.own 3 0 v1.length),(6,.int ((v2.length:Nat):Int)),(7,.own 4 0 x1.1.length),(8,.int x1.2),(9,.own 5 0 ((List.replicate (((v2.length:Nat):Int).toNat) (0:Int)).length)),(16,.int ((v2.length:Nat):Int)),(17,.int x1.2)] [(0,⟨6,[eR a0]⟩),(1,⟨6,[eR a1]⟩),(2,⟨3,[iL]⟩),(3,⟨3,v1.map (ow eM)⟩),(4,⟨1,x1.1.map (ow (cH 1 eI))⟩),(5,⟨1,List.map (ow eI) (List.replicate (((v2.length:Nat):Int).toNat) (0:Int))⟩)] 6) (bS (mG 7 k2 (jJ ⟨_,k,⟨k,k,(by simp only [aO,lA,lT,lR,lC,lN]),k⟩⟩ (bK k2))) (bN k<|bN k<|bN k<|cD (cE.plainO _) k<|cD (bA.plainO _) k<|hX ⟨_,k,k,.inl ⟨xH (e:=eI) (z:=0) _,cP.plainO _⟩⟩ k<|aR) k4)<|sR<|am k k<|am k k<|oB h λv4 hv4 h=>ae (xo hv4 k) k<|ae (fA aD jX (u:=1) (dB hv4) k k k k k k) k<|an<|tn<|aN gD<|am k k<|lp k8 ?_;exact lp k8<|am k k<|am k k<|oB h λv5 hv5 h=>ae (cL cE (aEZ v1 ((List.replicate (((v2.length:Nat):Int).toNat) (0:Int)).set x1.2.toNat 1) v5 hv5) k3 (aZ (aAv cE k k) (aZ (aAv cP k (by first|rfl|simp only [List.length_set])) aS))) k<|oB h λv6 hv6 h=>ae (cL cE (aFj a0 a1 v5 v6 hv6) k3 (aZ (lQ k) (aZ (lQ k) (aZ (aAv cE k k) aS)))) k<|oB h λv7 hv7 h=>ae (cL cP (aBa v6 v7 hv7) k3 (aZ (aAv cE k k) aS)) k<|ae (wl k) k<|cG h λq8 h=>ae (jY aD (l:=x1.1) (c:=[.own 8 0 v7.length]) q8 k k k k k k k k k k k k k k) k<|aa k k<|an<|rC (by kernel_rfl)<|aV<|tn<|aP (t:=mN [(2,.ptr 0 0 0),(3,.ptr 1 0 0),(4,.ptr 2 0 0),(5,.own 3 0 v1.length),(6,.int ((v2.length:Nat):Int)),(7,.own 10 0 ((x1.1++[v7]).length)),(16,.int ((v2.length:Nat):Int)),(17,.int x1.2)] [(0,⟨6,[eR a0]⟩),(1,⟨6,[eR a1]⟩),(2,⟨3,[iL]⟩),(3,⟨3,v1.map (ow eM)⟩),(10,⟨1,List.map (ow (cH 1 eI)) (x1.1++[v7])⟩)] 11) (Ent.trans (eY (b:=10) (b':=8) (j:=0) (es':=v7.map eI) k k k k (aO _ _) (cP.frzs _)) (bS (mG 5 k2 (jJ ⟨_,k,⟨k,k,(by simp only [aO,lA,lT,lR,lC,lN]),k⟩⟩ (bK k2))) (bN k<|bN k<|bN k<|cD (cE.plainO _) k<|hX ⟨_,k,k,.inl ⟨kP v7 k,bA.plainO _⟩⟩ k<|aR) k4))<|rg<|ae (bF k k) k<|am k k<|an<|tn<|sp h ⟨_,k,(mX [0,1,2,3,10] (bK k2) (bN k<|bN k<|bN k<|cD (cE.plainO _) k<|cD (bA.plainO _) k<|aR) k4)⟩
 ·rintro e t ⟨rfl,hent⟩;exact aL<|tn<|aP hent<|sR<|lp k8<|lp k8<|oB h λv11 hv11 h=>ae (cL cE (aEO a0 a1 v11 hv11) k3 (aZ (lQ k) (aZ (lQ k) aS))) k<|oB h λv12 hv12 h=>ae (cL cP (aBa v11 v12 hv12) k3 (aZ (aAv cE k k) aS)) k<|ae (cA aD k k k k) k<|am k k<|oB h λv13 hv13 h=>ae (cM (aBD ((v12.length:Nat):Int) y10 v13 hv13) k3 (dW k (aZ (aAv bA k k) aS))) k<|ae (ws k) k<|an<|tn<|aJ<|sp h (bT k k k (pH (aH (k) (aH (k) (aH (eX cP k k) eH)))))
def vV (a0:Rp) (a1:Rp):Option Int:=
 (tI a0 a1).bind λv1=>
 (aBY a0.p v1).bind λv2=>
 some (wr (v1.cols - v2))
theorem aKH (a0:Rp) (a1:Rp) (r:Int) (h:vV a0 a1=some r):HasC Tryz.prog 132 [.agg (eR a0),.agg (eR a1)] (.int r):=by
 refine hM [.tmp 4] Tryz.func132 Tryz.ntmps132 k<|sR<|ae (wb k) k<|ae (wb k) k<|aT k2<|sR<|lp k8<|lp k8<|oB h λv1 hv1 h=>ae (cM (aFk a0 a1 v1 hv1) k3 (aZ (lQ k) (aZ (lQ k) aS))) k<|ae (bX aD k k) k<|ae (ws k) k<|an<|tn<|sQ<|aN gD<|fp k8<|lp k8<|fp k8<|lp k8<|lp k8<|oB h λv2 hv2 h=>ae (bC (aNY a0.p v1 v2 hv2) k (dW k (aZ (vaM k2) aS))) k<|ae (iV k k) k<|aa k k<|an<|rC (by kernel_rfl)<|tn ?_;exact aJ<|rtI h k2
def rS (a0:Int) (v1:(Mt×(List Int))) (x1:(Int×(List (List Int)))) (x2:((List Int)×Int)):Option (((List Int)×Int) ⊕ (List Int)):=
 bif decide (x2.2<((v1.2.length:Nat):Int)) then
 ((cO v1.2 x2.2).bind λv7=>
 (cO v1.1.cells (wr ((wr (x2.2*v1.1.cols))+x1.1))).bind λv8=>
 (kF a0 (wr (-v8))).bind λv9=>
 (cO x2.1 v7).bind λv10=>
 some (.inl ((x2.1.set v7.toNat v9),wr (x2.2+1))))
 else
 (some (.inr x2.1))
def rT (a0:Int) (v1:(Mt×(List Int))) (x1:(Int×(List (List Int)))):Option ((Int×(List (List Int))) ⊕ (List (List Int))):=
 bif decide (x1.1<v1.1.cols) then
 ((aAf v1.2 x1.1).bind λv3=>
 bif v3 then
 (some (.inl (wr (x1.1+1),x1.2)))
 else
 (bif (decide (0≤v1.1.cols)&&decide (v1.1.cols≤1048576)) then
 ((cO (List.replicate v1.1.cols.toNat (0:Int)) x1.1).bind λv5=>
 (Lp (rS a0 v1 x1) (((List.replicate v1.1.cols.toNat (0:Int)).set x1.1.toNat 1),0)).bind λy11=>
 bif decide (x1.2.length+1≤4294967296) then
 (some (.inl (wr (x1.1+1),(x1.2++[y11]))))
 else none)
 else none))
 else
 (some (.inr x1.2))
def wU (a0:Int) (a1:Mt):Option (List (List Int)):=
 (wJ a0 a1).bind λv1=>
 (Lp (rT a0 v1) (0,([]:(List (List Int))))).bind λy14=>
 some (y14)
theorem aHo (a0:Int) (a1:Mt) (r:(List (List Int))) (h:wU a0 a1=some r):HasC Tryz.prog 173 [.int a0,.agg (eM a1)] (.list 1 (r.map (cH 1 eI))):=by
 refine hM [.tmp 4] Tryz.func173 Tryz.ntmps173 k<|sR<|ae (wb k) k<|aT k2<|sR<|am k k<|lp k8<|oB h λv1 hv1 h=>ae (AEff.conv (pO (x:= .tuple [.agg [.int v1.1.rows,.int v1.1.cols,.own 1 0 (v1.1.cells.map eI).length],.own 2 0 (v1.2.map eI).length]) (nb:=[(1,⟨1,cN (v1.1.cells.map eI)⟩),(2,⟨1,cN (v1.2.map eI)⟩)]) (aHi a0 a1 v1 hv1) k (by rfl) k k (fV (bZ aR (bZ aR (bZ (cP.good _) tZ))) (fV (cP.good _) vH)) (dW k (aZ (lQ k) aS))) (v':= .tuple [.agg [.int v1.1.rows,.int v1.1.cols,.own 1 0 v1.1.cells.length],.own 2 0 v1.2.length]) (ed':=[(1,some ⟨1,v1.1.cells.map (ow eI)⟩),(2,some ⟨1,v1.2.map (ow eI)⟩)]) (by simp only [aO]) (vO (nb':=[(1,⟨1,v1.1.cells.map (ow eI)⟩),(2,⟨1,v1.2.map (ow eI)⟩)]) (by simp only [gA]))) k<|am k k<|ae (bD k k (by intro _ h;cases h)) k<|ae (bD k k (by intro _ h;cases h)) k<|ae (bX aD k k) k<|ae (ws k) k<|aT k2<|sR<|ae (wl k) k<|aT k2<|aP (t:=mN [(0,.int a0),(5,.ptr 3 0 0),(6,.own 2 0 v1.2.length),(7,.own 4 0 (([]:(List (List Int))).length))] [(1,⟨1,v1.1.cells.map (ow eI)⟩),(2,⟨1,v1.2.map (ow eI)⟩),(3,⟨3,[oMt v1.1 1]⟩),(4,⟨1,List.map (ow (cH 1 eI)) ([]:(List (List Int)))⟩)] 5) (bS (mG 3 k2 (jJ ⟨_,k,⟨k,k,(by simp only [aO,lA,lT,lR,lC,lN]),k⟩⟩ aR)) (bP k<|bP k<|fF k<|cD (bA.plainO _) k<|aR) k4)<|sQ<|sR ?_;refine aT k2<|aE<|oB h λy14 hy14 h=>cC (body:=(rT a0 v1)) hy14 (λ(x1:(Int×(List (List Int))))=>mN [(0,.int a0),(5,.ptr 0 0 0),(6,.own 2 0 v1.2.length),(7,.own 3 0 x1.2.length),(8,.int x1.1)] [(0,⟨3,[oMt v1.1 1]⟩),(1,⟨1,v1.1.cells.map (ow eI)⟩),(2,⟨1,v1.2.map (ow eI)⟩),(3,⟨1,x1.2.map (ow (cH 1 eI))⟩)] 4) (λr e t=>e= .exit 0∧Ent t (mN [(7,.own 0 0 r.length)] [(0,⟨1,r.map (ow (cH 1 eI))⟩)] 1)) (mX [3,1,2,4] (bK k2) (fF k<|bP k<|bP k<|cD (bA.plainO _) k<|aR) k4) ?_ ?_
 ·intro x1 o h;refine sQ<|sR<|am k k<|fp k8<|lp k8<|cm k4<|an<|tn<|dR k h (λ_ h=>?_) λ_ h=>aU<|aB<|aB<|sp h ⟨_,k,k,(mX [3] (bK k2) (cD (bA.plainO _) k<|aR) k4)⟩;refine aG<|tn<|sQ<|aE<|sQ<|sR<|am k k<|am k k<|oB h λv3 hv3 h=>ae (bC (aLx v1.2 x1.1 v3 hv3) k (vcT k k (dW k aS))) k<|an<|tn<|dR k h (λ_ h=>aU<|aB<|aL<|tn<|rg<|am k k<|ae (bF k k) k<|aT k2<|sp h ⟨_,k,(bS (bK k2) (fF k<|bP k<|bP k<|cD (bA.plainO _) k<|aR) k4)⟩) λ_ h=>?_;refine aG<|tn<|sR<|fp k8<|lp k8<|cG h λq13 h=>ae (rJ aD q13 k k k k k k k k) k<|aT k2<|aP (t:=mN [(0,.int a0),(5,.ptr 0 0 0),(6,.own 2 0 v1.2.length),(7,.own 3 0 x1.2.length),(8,.int x1.1),(9,.own 4 0 ((List.replicate v1.1.cols.toNat (0:Int)).length))] [(0,⟨3,[oMt v1.1 1]⟩),(1,⟨1,v1.1.cells.map (ow eI)⟩),(2,⟨1,v1.2.map (ow eI)⟩),(3,⟨1,x1.2.map (ow (cH 1 eI))⟩),(4,⟨1,List.map (ow eI) (List.replicate v1.1.cols.toNat (0:Int))⟩)] 5) (bS (mG 5 k2 (jJ ⟨_,k,⟨k,k,(by simp only [aO,lA,lT,lR,lC,lN]),k⟩⟩ aR)) (fF k<|bP k<|bP k<|cD (bA.plainO _) k<|hX ⟨_,k,k,.inl ⟨xH (e:=eI) (z:=0) _,cP.plainO _⟩⟩ k<|aR) k4)<|sR<|am k k<|am k k<|oB h λv5 hv5 h=>ae (xo hv5 k) k<|ae (fA aD jX (u:=1) (dB hv5) k k k k k k) k<|an<|tn<|sQ<|sR<|aT k2<|aE<|oB h λy11 hy11 h=>cC (body:=(rS a0 v1 x1)) hy11 (λ(x2:((List Int)×Int))=>mN [(0,.int a0),(5,.ptr 0 0 0),(6,.own 2 0 v1.2.length),(7,.own 3 0 x1.2.length),(8,.int x1.1),(9,.own 4 0 x2.1.length),(10,.int x2.2)] [(0,⟨3,[oMt v1.1 1]⟩),(1,⟨1,v1.1.cells.map (ow eI)⟩),(2,⟨1,v1.2.map (ow eI)⟩),(3,⟨1,x1.2.map (ow (cH 1 eI))⟩),(4,⟨1,x2.1.map (ow eI)⟩)] 5) (λr e t=>e= .exit 2∧Ent t (mN [(0,.int a0),(5,.ptr 0 0 0),(6,.own 2 0 v1.2.length),(7,.own 3 0 x1.2.length),(8,.int x1.1),(9,.own 4 0 r.length)] [(0,⟨3,[oMt v1.1 1]⟩),(1,⟨1,v1.1.cells.map (ow eI)⟩),(2,⟨1,v1.2.map (ow eI)⟩),(3,⟨1,x1.2.map (ow (cH 1 eI))⟩),(4,⟨1,r.map (ow eI)⟩)] 5)) (bS (mG 5 k2 (jJ ⟨_,k,⟨k,k,(by simp only [aO,lA,lT,lR,lC,lN]),k⟩⟩ (bK k2))) (fF k<|bP k<|bP k<|cD (bA.plainO _) k<|bP k<|aR) k4) ?_ ?_
  ·intro x2 o h;refine sQ<|sR<|am k k<|am k k<|ae (cA aD k k k k) k<|cm k4<|an<|tn<|dR k h (λ_ h=>?_) λ_ h=>aU<|aB<|aB<|sp h ⟨_,k,k,(bS (bK k2) (fF k<|bP k<|bP k<|cD (bA.plainO _) k<|bP k<|aR) k4)⟩;refine aG<|tn<|sQ<|aE<|aN gD<|am k k<|am k k<|am k k<|oB h λv7 hv7 h=>ae (xo hv7 k) k<|ae (wp hv7 k) k<|am k k<|fp k8<|lp k8<|am k k<|fp k8<|lp k8<|ae (fZ k k) k<|am k k<|ae (bF k k) k<|oB h λv8 hv8 h=>ae (xo hv8 k) k<|ae (wp hv8 k) k<|ae (aQM k) k<|oB h λv9 hv9 h=>ae (bC (rM a0 (wr (-v8)) v9 hv9) k (dW k (dW k aS))) k<|oB h λv10 hv10 h=>ae (xo hv10 k) k<|ae (fA aD jX (u:=v9) (dB hv10) k k k k k k) k<|an<|rC (by kernel_rfl)<|aV<|tn ?_;exact aP (t:=mN [(0,.int a0),(5,.ptr 0 0 0),(6,.own 2 0 v1.2.length),(7,.own 3 0 x1.2.length),(8,.int x1.1),(9,.own 4 0 ((x2.1.set v7.toNat v9).length)),(10,.int x2.2)] [(0,⟨3,[oMt v1.1 1]⟩),(1,⟨1,v1.1.cells.map (ow eI)⟩),(2,⟨1,v1.2.map (ow eI)⟩),(3,⟨1,x1.2.map (ow (cH 1 eI))⟩),(4,⟨1,List.map (ow eI) (x2.1.set v7.toNat v9)⟩)] 5) (bS (mG 5 k2 (jJ ⟨_,k,⟨k,k,(by simp only [aO,lA,lT,lR,lC,lN]),k⟩⟩ (bK k2))) (fF k<|bP k<|bP k<|cD (bA.plainO _) k<|bP k<|aR) k4)<|rg<|am k k<|ae (bF k k) k<|aT k2<|sp h ⟨_,k,(bS (bK k2) (fF k<|bP k<|bP k<|cD (bA.plainO _) k<|bP k<|aR) k4)⟩
  ·rintro e t ⟨rfl,hent⟩;exact aL<|tn<|aP hent<|rg<|am k k<|am k k<|ae (wl k) k<|cG h λq12 h=>ae (jY aD (l:=x1.2) (c:=[.own 4 0 y11.length]) q12 k k k k k k k k k k k k k k) k<|aa k k<|an<|aV<|tn<|aP (t:=mN [(0,.int a0),(5,.ptr 0 0 0),(6,.own 2 0 v1.2.length),(7,.own 6 0 ((x1.2++[y11]).length)),(8,.int x1.1)] [(0,⟨3,[oMt v1.1 1]⟩),(1,⟨1,v1.1.cells.map (ow eI)⟩),(2,⟨1,v1.2.map (ow eI)⟩),(6,⟨1,List.map (ow (cH 1 eI)) (x1.2++[y11])⟩)] 7) (Ent.trans (eY (b:=6) (b':=4) (j:=0) (es':=y11.map eI) k k k k (aO _ _) (cP.frzs _)) (bS (mG 3 k2 (jJ ⟨_,k,⟨k,k,(by simp only [aO,lA,lT,lR,lC,lN]),k⟩⟩ (bK k2))) (fF k<|bP k<|bP k<|hX ⟨_,k,k,.inl ⟨kP y11 k,bA.plainO _⟩⟩ k<|aR) k4))<|rg<|am k k<|ae (bF k k) k<|aT k2<|sp h ⟨_,k,(mX [0,1,2,6] (bK k2) (fF k<|bP k<|bP k<|cD (bA.plainO _) k<|aR) k4)⟩
 ·rintro e t ⟨rfl,hent⟩;exact aL<|tn<|aP hent<|sR<|am k k<|aT k2<|aJ<|sp h (bT k k k (mI (eX bA k k)))
def wV (a0:Rp) (a1:Rp) (a2:Int) (x1:(Int×Int)):Option ((Int×Int) ⊕ Int):=
 bif decide (x1.2<a2) then
 ((cO a0.dims x1.2).bind λv2=>
 (cO a1.dims x1.2).bind λv3=>
 some (.inl (wr (x1.1+(wr (v2*v3))),wr (x1.2+1))))
 else
 (some (.inr x1.1))
def xY (a0:Rp) (a1:Rp) (a2:Int):Option Int:=
 (Lp (wV a0 a1 a2) (0,0)).bind λy4=>
 some (y4)
theorem aFl (a0:Rp) (a1:Rp) (a2:Int) (r:Int) (h:xY a0 a1 a2=some r):HasC Tryz.prog 209 [.agg (eR a0),.agg (eR a1),.int a2] (.int r):=by
 refine hM [.tmp 6] Tryz.func209 Tryz.ntmps209 k<|sR<|ae (wb k) k<|ae (wb k) k<|aT k2<|sR<|aT k2<|sQ<|sR<|aT k2<|aE<|oB h λy4 hy4 h=>cC (body:=(wV a0 a1 a2)) hy4 (λ(x1:(Int×Int))=>mN [(2,.int a2),(3,.ptr 0 0 0),(4,.ptr 1 0 0),(7,.int x1.1),(8,.int x1.2)] [(0,⟨6,[eR a0]⟩),(1,⟨6,[eR a1]⟩)] 2) (λr e t=>e= .exit 0∧Ent t (mN [(7,.int r)] [] 0)) (bS (bK k2) (bN k<|bN k<|aR) k4) ?_ ?_
 ·intro x1 o h;exact sQ<|sR<|am k k<|am k k<|cm k4<|an<|tn<|dR k h (λ_ h=>aG<|tn<|sQ<|aE<|aN gD<|am k k<|fp k8<|lp k8<|am k k<|oB h λv2 hv2 h=>ae (xl hv2 k) k<|lr k7<|fp k8<|lp k8<|am k k<|oB h λv3 hv3 h=>ae (xl hv3 k) k<|lr k7<|ae (fZ k k) k<|ae (bF k k) k<|aa k k<|an<|rC (by kernel_rfl)<|aV<|tn<|rg<|am k k<|ae (bF k k) k<|aT k2<|sp h ⟨_,k,(bS (bK k2) (bN k<|bN k<|aR) k4)⟩) λ_ h=>aU<|aB<|aB<|sp h ⟨_,k,k,(bS (bK k2) aR k4)⟩
 ·rintro e t ⟨rfl,hent⟩;exact aL<|tn<|aP hent<|sR<|am k k<|aT k2<|aJ<|rtI h k2
def tJ (a0:Rp) (a1:Rp) (x1:(Int×Int)):Option ((Int×Int) ⊕ Int):=
 bif decide (x1.2<(a0.dims.length:Int)) then
 ((cO a0.dims x1.2).bind λv2=>
 (cO a1.dims x1.2).bind λv3=>
 some (.inl (wr (x1.1+(wr (v2*v3))),wr (x1.2+1))))
 else
 (some (.inr x1.1))
def xZ (a0:Rp) (a1:Rp):Option Int:=
 (Lp (tJ a0 a1) (0,0)).bind λy4=>
 some (y4)
theorem aJI (a0:Rp) (a1:Rp) (r:Int) (h:xZ a0 a1=some r):HasC Tryz.prog 208 [.agg (eR a0),.agg (eR a1)] (.int r):=by
 refine hM [.tmp 4] Tryz.func208 Tryz.ntmps208 k<|sR<|ae (wb k) k<|ae (wb k) k<|aT k2<|sR<|aT k2<|sQ<|sR<|aT k2<|aE<|oB h λy4 hy4 h=>cC (body:=(tJ a0 a1)) hy4 (λ(x1:(Int×Int))=>mN [(2,.ptr 0 0 0),(3,.ptr 1 0 0),(5,.int x1.1),(6,.int x1.2)] [(0,⟨6,[eR a0]⟩),(1,⟨6,[eR a1]⟩)] 2) (λr e t=>e= .exit 0∧Ent t (mN [(5,.int r)] [] 0)) (bS (bK k2) (bN k<|bN k<|aR) k4) ?_ ?_
 ·intro x1 o h;exact sQ<|sR<|am k k<|fp k8<|lp k8<|ln k4<|cm k4<|an<|tn<|dR k h (λ_ h=>aG<|tn<|sQ<|aE<|aN gD<|am k k<|fp k8<|lp k8<|am k k<|oB h λv2 hv2 h=>ae (xl hv2 k) k<|lr k7<|fp k8<|lp k8<|am k k<|oB h λv3 hv3 h=>ae (xl hv3 k) k<|lr k7<|ae (fZ k k) k<|ae (bF k k) k<|aa k k<|an<|rC (by kernel_rfl)<|aV<|tn<|rg<|am k k<|ae (bF k k) k<|aT k2<|sp h ⟨_,k,(bS (bK k2) (bN k<|bN k<|aR) k4)⟩) λ_ h=>aU<|aB<|aB<|sp h ⟨_,k,k,(bS (bK k2) aR k4)⟩
 ·rintro e t ⟨rfl,hent⟩;exact aL<|tn<|aP hent<|sR<|am k k<|aT k2<|aJ<|rtI h k2
def iY (a0:Rp) (a1:Rp) (v3:Int) (x1:(Int×(List Int)×Int)) (x2:(Int×(List Int)×Int)) (x3:(Int×(List Int)×Int)) (x4:((List Int)×Int)):Option (((List Int)×Int) ⊕ (List Int)):=
 (cO a1.dims v3).bind λv9=>
 bif decide (x4.2<v9) then
 ((xY a0 a1 v3).bind λv11=>
 (cO a0.dims v3).bind λv12=>
 (cO x4.1 (wr ((wr (v11+(wr (x4.2*v12))))+x3.2.2))).bind λv13=>
 (cO a1.maps x1.2.2).bind λv14=>
 (cO a1.dims v3).bind λv15=>
 (cO v14.cells (wr ((wr (x2.2.2*v15))+x4.2))).bind λv16=>
 (kF a0.p (wr (v13+v16))).bind λv17=>
 (cO x4.1 (wr ((wr (v11+(wr (x4.2*v12))))+x3.2.2))).bind λv18=>
 some (.inl ((x4.1.set ((wr ((wr (v11+(wr (x4.2*v12))))+x3.2.2)).toNat) v17),wr (x4.2+1))))
 else
 (some (.inr x4.1))
def iZ (a0:Rp) (a1:Rp) (v3:Int) (v4:Int) (x1:(Int×(List Int)×Int)) (x2:(Int×(List Int)×Int)) (x3:(Int×(List Int)×Int)) (x5:((List Int)×Int)):Option (((List Int)×Int) ⊕ (List Int)):=
 (cO a0.dims v4).bind λv20=>
 bif decide (x5.2<v20) then
 ((xY a0 a1 v4).bind λv22=>
 (cO a0.dims v4).bind λv23=>
 (cO x5.1 (wr ((wr (v22+(wr (x2.2.2*v23))))+x5.2))).bind λv24=>
 (cO a0.maps x1.2.2).bind λv25=>
 (cO a0.dims v3).bind λv26=>
 (cO v25.cells (wr ((wr (x5.2*v26))+x3.2.2))).bind λv27=>
 (kF a0.p (wr (v24 - v27))).bind λv28=>
 (cO x5.1 (wr ((wr (v22+(wr (x2.2.2*v23))))+x5.2))).bind λv29=>
 some (.inl ((x5.1.set ((wr ((wr (v22+(wr (x2.2.2*v23))))+x5.2)).toNat) v28),wr (x5.2+1))))
 else
 (some (.inr x5.1))
def mK (a0:Rp) (a1:Rp) (v1:Int) (v3:Int) (v4:Int) (x1:(Int×(List Int)×Int)) (x2:(Int×(List Int)×Int)) (x3:(Int×(List Int)×Int)):Option ((Int×(List Int)×Int) ⊕ (Int×(List Int))):=
 (cO a0.dims v3).bind λv7=>
 bif decide (x3.2.2<v7) then
 (bif (decide (0≤v1)&&decide (v1≤1048576)) then
 ((Lp (iY a0 a1 v3 x1 x2 x3) ((List.replicate v1.toNat (0:Int)),0)).bind λy19=>
 (Lp (iZ a0 a1 v3 v4 x1 x2 x3) (y19,0)).bind λy30=>
 bif decide (x3.2.1.length+y30.length≤4294967296) then
 (some (.inl (wr (x3.1+1),(x3.2.1++y30),wr (x3.2.2+1))))
 else none)
 else none)
 else
 (some (.inr (x3.1,x3.2.1)))
def mM (a0:Rp) (a1:Rp) (v1:Int) (v3:Int) (v4:Int) (x1:(Int×(List Int)×Int)) (x2:(Int×(List Int)×Int)):Option ((Int×(List Int)×Int) ⊕ (Int×(List Int))):=
 (cO a1.dims v4).bind λv5=>
 bif decide (x2.2.2<v5) then
 ((Lp (mK a0 a1 v1 v3 v4 x1 x2) (x2.1,x2.2.1,0)).bind λy33=>
 some (.inl (y33.1,y33.2,wr (x2.2.2+1))))
 else
 (some (.inr (x2.1,x2.2.1)))
def mO (a0:Rp) (a1:Rp) (v1:Int) (x1:(Int×(List Int)×Int)):Option ((Int×(List Int)×Int) ⊕ (Int×(List Int))):=
 bif decide (x1.2.2<(a0.maps.length:Int)) then
 ((cO a0.q.src x1.2.2).bind λv3=>
 (cO a0.q.tgt x1.2.2).bind λv4=>
 (Lp (mM a0 a1 v1 v3 v4 x1) (x1.1,x1.2.1,0)).bind λy34=>
 some (.inl (y34.1,y34.2,wr (x1.2.2+1))))
 else
 (some (.inr (x1.1,x1.2.1)))
def pT (a0:Rp) (a1:Rp):Option Mt:=
 (xZ a0 a1).bind λv1=>
 (Lp (mO a0 a1 v1) (0,([]:(List Int)),0)).bind λy35=>
 some ((⟨y35.1,v1,y35.2⟩:Mt))
theorem aEP (a0:Rp) (a1:Rp) (r:Mt) (h:pT a0 a1=some r):HasC Tryz.prog 174 [.agg (eR a0),.agg (eR a1)] (.agg (eM r)):=by
 refine hM [.cell 4 91] Tryz.func174 Tryz.ntmps174 k<|sR<|ae (wb k) k<|ae (wb k) k<|ae (bX aD k k) k<|an<|tn<|sR<|lp k8<|lp k8<|oB h λv1 hv1 h=>ae (bC (aJI a0 a1 v1 hv1) k (aZ (lQ k) (aZ (lQ k) aS))) k<|aT k2<|sR<|am k k<|ae (wl k) k<|ae (dE aD k k k k k k) k<|ae (bX aD k k) k<|ae (ws k) k<|an<|tn<|aP (t:=mN [(2,.ptr 0 0 0),(3,.ptr 1 0 0),(4,.ptr 2 0 0),(5,.int v1),(6,.ptr 4 0 0)] [(0,⟨6,[eR a0]⟩),(1,⟨6,[eR a1]⟩),(2,⟨3,[iL]⟩),(3,⟨1,List.map (ow eI) ([]:(List Int))⟩),(4,⟨3,[[.int 0,.int v1,.own 3 0 (([]:(List Int)).length)]]⟩)] 5) (bS (bK k2) (bN k<|bN k<|bN k<|bP k<|hX ⟨_,k,k,.inr ⟨_,_,k,⟨_,_,k,k,⟨_,_,k,k,⟨_,_,k,⟨k,k,(by simp only [aO,lA,lT,lR,lC,lN]),k⟩,k⟩⟩⟩,k⟩⟩ k<|aR) k4)<|sQ<|sR<|aa k k ?_;refine an<|tn<|aE<|oB h λy35 hy35 h=>cC (body:=(mO a0 a1 v1)) hy35 (λ(x1:(Int×(List Int)×Int))=>mN [(2,.ptr 0 0 0),(3,.ptr 1 0 0),(4,.ptr 2 0 0),(5,.int v1),(6,.ptr 3 0 0),(7,.int x1.2.2)] [(0,⟨6,[eR a0]⟩),(1,⟨6,[eR a1]⟩),(2,⟨3,[iL]⟩),(3,⟨3,[[.int x1.1,.int v1,.own 4 0 x1.2.1.length]]⟩),(4,⟨1,x1.2.1.map (ow eI)⟩)] 5) (λr e t=>e= .exit 0∧Ent t (mN [(4,.ptr 0 0 0),(6,.ptr 1 0 0)] [(0,⟨3,[iL]⟩),(1,⟨3,[[.int r.1,.int v1,.own 2 0 r.2.length]]⟩),(2,⟨1,r.2.map (ow eI)⟩)] 3)) (mX [0,1,2,4,3] (bK k2) (bN k<|bN k<|bN k<|fF k<|bP k<|aR) k4) ?_ ?_
 ·intro x1 o h;refine sQ<|sR<|am k k<|fp k8<|lp k8<|ln k4<|cm k4<|an<|tn<|dR k h (λ_ h=>?_) λ_ h=>aU<|aB<|aB<|sp h ⟨_,k,k,(mX [2,3,4] (bK k2) (bN k<|fF k<|bP k<|aR) k4)⟩;refine aG<|tn<|sQ<|aE<|sR<|fp k8<|fp k8<|lp k8<|am k k<|oB h λv3 hv3 h=>ae (xl hv3 k) k<|lr k7<|aT k2<|sR<|fp k8<|fp k8<|lp k8<|am k k<|oB h λv4 hv4 h=>ae (xl hv4 k) k<|lr k7<|aT k2<|sR<|aa k k ?_;refine an<|tn<|aE<|oB h λy34 hy34 h=>cC (body:=(mM a0 a1 v1 v3 v4 x1)) hy34 (λ(x2:(Int×(List Int)×Int))=>mN [(2,.ptr 0 0 0),(3,.ptr 1 0 0),(4,.ptr 2 0 0),(5,.int v1),(6,.ptr 3 0 0),(7,.int x1.2.2),(8,.int v3),(9,.int v4),(10,.int x2.2.2)] [(0,⟨6,[eR a0]⟩),(1,⟨6,[eR a1]⟩),(2,⟨3,[iL]⟩),(3,⟨3,[[.int x2.1,.int v1,.own 4 0 x2.2.1.length]]⟩),(4,⟨1,x2.2.1.map (ow eI)⟩)] 5) (λr e t=>e= .exit 2∧Ent t (mN [(2,.ptr 0 0 0),(3,.ptr 1 0 0),(4,.ptr 2 0 0),(5,.int v1),(6,.ptr 3 0 0),(7,.int x1.2.2)] [(0,⟨6,[eR a0]⟩),(1,⟨6,[eR a1]⟩),(2,⟨3,[iL]⟩),(3,⟨3,[[.int r.1,.int v1,.own 4 0 r.2.length]]⟩),(4,⟨1,r.2.map (ow eI)⟩)] 5)) (bS (bK k2) (bN k<|bN k<|bN k<|fF k<|bP k<|aR) k4) ?_ ?_
  ·intro x2 o h;refine sQ<|sR<|am k k<|fp k8<|lp k8<|am k k<|oB h λv5 hv5 h=>ae (xl hv5 k) k<|lr k7<|cm k4<|an<|tn<|dR k h (λ_ h=>?_) λ_ h=>aU<|aB<|aB<|sp h ⟨_,k,k,(bS (bK k2) (bN k<|bN k<|bN k<|fF k<|bP k<|aR) k4)⟩;refine aG<|tn<|sQ<|aE<|sR<|aT k2<|aE<|oB h λy33 hy33 h=>cC (body:=(mK a0 a1 v1 v3 v4 x1 x2)) hy33 (λ(x3:(Int×(List Int)×Int))=>mN [(2,.ptr 0 0 0),(3,.ptr 1 0 0),(4,.ptr 2 0 0),(5,.int v1),(6,.ptr 3 0 0),(7,.int x1.2.2),(8,.int v3),(9,.int v4),(10,.int x2.2.2),(11,.int x3.2.2)] [(0,⟨6,[eR a0]⟩),(1,⟨6,[eR a1]⟩),(2,⟨3,[iL]⟩),(3,⟨3,[[.int x3.1,.int v1,.own 4 0 x3.2.1.length]]⟩),(4,⟨1,x3.2.1.map (ow eI)⟩)] 5) (λr e t=>e= .exit 4∧Ent t (mN [(2,.ptr 0 0 0),(3,.ptr 1 0 0),(4,.ptr 2 0 0),(5,.int v1),(6,.ptr 3 0 0),(7,.int x1.2.2),(8,.int v3),(9,.int v4),(10,.int x2.2.2)] [(0,⟨6,[eR a0]⟩),(1,⟨6,[eR a1]⟩),(2,⟨3,[iL]⟩),(3,⟨3,[[.int r.1,.int v1,.own 4 0 r.2.length]]⟩),(4,⟨1,r.2.map (ow eI)⟩)] 5)) (bS (bK k2) (bN k<|bN k<|bN k<|fF k<|bP k<|aR) k4) ?_ ?_
   ·intro x3 o h;refine sQ<|sR<|am k k<|fp k8<|lp k8<|am k k<|oB h λv7 hv7 h=>ae (xl hv7 k) k<|lr k7<|cm k4<|an<|tn<|dR k h (λ_ h=>?_) λ_ h=>aU<|aB<|aB<|sp h ⟨_,k,k,(bS (bK k2) (bN k<|bN k<|bN k<|fF k<|bP k<|aR) k4)⟩;refine aG<|tn<|sQ<|aE<|sR<|am k k<|cG h λq32 h=>ae (rJ aD q32 k k k k k k k k) k<|aT k2<|aP (t:=mN [(2,.ptr 0 0 0),(3,.ptr 1 0 0),(4,.ptr 2 0 0),(5,.int v1),(6,.ptr 3 0 0),(7,.int x1.2.2),(8,.int v3),(9,.int v4),(10,.int x2.2.2),(11,.int x3.2.2),(12,.own 5 0 ((List.replicate v1.toNat (0:Int)).length))] [(0,⟨6,[eR a0]⟩),(1,⟨6,[eR a1]⟩),(2,⟨3,[iL]⟩),(3,⟨3,[[.int x3.1,.int v1,.own 4 0 x3.2.1.length]]⟩),(4,⟨1,x3.2.1.map (ow eI)⟩),(5,⟨1,List.map (ow eI) (List.replicate v1.toNat (0:Int))⟩)] 6) (bS (mG 10 k2 (jJ ⟨_,k,⟨k,k,(by simp only [aO,lA,lT,lR,lC,lN]),k⟩⟩ aR)) (bN k<|bN k<|bN k<|fF k<|bP k<|hX ⟨_,k,k,.inl ⟨xH (e:=eI) (z:=0) _,cP.plainO _⟩⟩ k<|aR) k4)<|sQ<|sR<|aT k2<|aE<|oB h λy19 hy19 h=>cC (body:=(iY a0 a1 v3 x1 x2 x3)) hy19 (λ(x4:((List Int)×Int))=>mN [(2,.ptr 0 0 0),(3,.ptr 1 0 0),(4,.ptr 2 0 0),(5,.int v1),(6,.ptr 3 0 0),(7,.int x1.2.2),(8,.int v3),(9,.int v4),(10,.int x2.2.2),(11,.int x3.2.2),(12,.own 5 0 x4.1.length),(13,.int x4.2)] [(0,⟨6,[eR a0]⟩),(1,⟨6,[eR a1]⟩),(2,⟨3,[iL]⟩),(3,⟨3,[[.int x3.1,.int v1,.own 4 0 x3.2.1.length]]⟩),(4,⟨1,x3.2.1.map (ow eI)⟩),(5,⟨1,x4.1.map (ow eI)⟩)] 6) (λr e t=>e= .exit 6∧Ent t (mN [(2,.ptr 0 0 0),(3,.ptr 1 0 0),(4,.ptr 2 0 0),(5,.int v1),(6,.ptr 3 0 0),(7,.int x1.2.2),(8,.int v3),(9,.int v4),(10,.int x2.2.2),(11,.int x3.2.2),(12,.own 5 0 r.length)] [(0,⟨6,[eR a0]⟩),(1,⟨6,[eR a1]⟩),(2,⟨3,[iL]⟩),(3,⟨3,[[.int x3.1,.int v1,.own 4 0 x3.2.1.length]]⟩),(4,⟨1,x3.2.1.map (ow eI)⟩),(5,⟨1,r.map (ow eI)⟩)] 6)) (bS (bK k2) (bN k<|bN k<|bN k<|fF k<|bP k<|bP k<|aR) k4) ?_ ?_
    ·intro x4 o h;refine sQ<|sR<|am k k<|fp k8<|lp k8<|am k k<|oB h λv9 hv9 h=>ae (xl hv9 k) k<|lr k7<|cm k4<|an<|tn<|dR k h (λ_ h=>?_) λ_ h=>aU<|aB<|aB<|sp h ⟨_,k,k,(bS (bK k2) (bN k<|bN k<|bN k<|fF k<|bP k<|bP k<|aR) k4)⟩;refine aG<|tn<|sQ<|aE<|sQ<|aN gD<|lp k8<|lp k8<|am k k<|oB h λv11 hv11 h=>ae (bC (aFl a0 a1 v3 v11 hv11) k (aZ (lQ k) (aZ (lQ k) (dW k aS)))) k<|am k k<|fp k8<|lp k8<|am k k<|oB h λv12 hv12 h=>ae (xl hv12 k) k<|lr k7<|ae (fZ k k) k<|ae (bF k k) k<|am k k<|ae (bF k k) k<|aa k k<|an<|rC (by kernel_rfl)<|tn<|aN gD<|am k k<|am k k<|fp k8<|lp k8 ?_;refine am k k<|am k k<|oB h λv13 hv13 h=>ae (xo hv13 k) k<|ae (wp hv13 k) k<|fp k8<|lp k8<|am k k<|oB h λv14 hv14 h=>ae (xl hv14 k) k<|ae (eJ aD k k k k k k) k<|lr k7<|am k k<|fp k8<|lp k8<|am k k<|oB h λv15 hv15 h=>ae (xl hv15 k) k<|lr k7<|ae (fZ k k) k<|am k k<|ae (bF k k) k<|oB h λv16 hv16 h=>ae (xl hv16 k) k<|lr k7<|ae (bF k k) k<|oB h λv17 hv17 h=>ae (bC (rM a0.p (wr (v13+v16)) v17 hv17) k (dW k (dW k aS))) k<|oB h λv18 hv18 h=>ae (xo hv18 k) k<|ae (fA aD jX (u:=v17) (dB hv18) k k k k k k) k<|an<|rC (by kernel_rfl)<|aV<|tn<|aP (t:=mN [(2,.ptr 0 0 0),(3,.ptr 1 0 0),(4,.ptr 2 0 0),(5,.int v1),(6,.ptr 3 0 0),(7,.int x1.2.2),(8,.int v3),(9,.int v4),(10,.int x2.2.2),(11,.int x3.2.2),(12,.own 5 0 ((x4.1.set ((wr ((wr (v11+(wr (x4.2*v12))))+x3.2.2)).toNat) v17).length)),(13,.int x4.2)] [(0,⟨6,[eR a0]⟩),(1,⟨6,[eR a1]⟩),(2,⟨3,[iL]⟩),(3,⟨3,[[.int x3.1,.int v1,.own 4 0 x3.2.1.length]]⟩),(4,⟨1,x3.2.1.map (ow eI)⟩),(5,⟨1,List.map (ow eI) (x4.1.set ((wr ((wr (v11+(wr (x4.2*v12))))+x3.2.2)).toNat) v17)⟩)] 6) (bS (mG 10 k2 (jJ ⟨_,k,⟨k,k,(by simp only [aO,lA,lT,lR,lC,lN]),k⟩⟩ (bK k2))) (bN k<|bN k<|bN k<|fF k<|bP k<|bP k<|aR) k4) ?_;exact rg<|am k k<|ae (bF k k) k<|aT k2<|sp h ⟨_,k,(bS (bK k2) (bN k<|bN k<|bN k<|fF k<|bP k<|bP k<|aR) k4)⟩
    ·rintro e t ⟨rfl,hent⟩;refine aL<|tn<|aP hent<|sQ<|sR<|aT k2<|aE<|oB h λy30 hy30 h=>cC (body:=(iZ a0 a1 v3 v4 x1 x2 x3)) hy30 (λ(x5:((List Int)×Int))=>mN [(2,.ptr 0 0 0),(3,.ptr 1 0 0),(4,.ptr 2 0 0),(5,.int v1),(6,.ptr 3 0 0),(7,.int x1.2.2),(8,.int v3),(9,.int v4),(10,.int x2.2.2),(11,.int x3.2.2),(12,.own 5 0 x5.1.length),(15,.int x5.2)] [(0,⟨6,[eR a0]⟩),(1,⟨6,[eR a1]⟩),(2,⟨3,[iL]⟩),(3,⟨3,[[.int x3.1,.int v1,.own 4 0 x3.2.1.length]]⟩),(4,⟨1,x3.2.1.map (ow eI)⟩),(5,⟨1,x5.1.map (ow eI)⟩)] 6) (λr e t=>e= .exit 8∧Ent t (mN [(2,.ptr 0 0 0),(3,.ptr 1 0 0),(4,.ptr 2 0 0),(5,.int v1),(6,.ptr 3 0 0),(7,.int x1.2.2),(8,.int v3),(9,.int v4),(10,.int x2.2.2),(11,.int x3.2.2),(12,.own 5 0 r.length)] [(0,⟨6,[eR a0]⟩),(1,⟨6,[eR a1]⟩),(2,⟨3,[iL]⟩),(3,⟨3,[[.int x3.1,.int v1,.own 4 0 x3.2.1.length]]⟩),(4,⟨1,x3.2.1.map (ow eI)⟩),(5,⟨1,r.map (ow eI)⟩)] 6)) (bS (bK k2) (bN k<|bN k<|bN k<|fF k<|bP k<|bP k<|aR) k4) ?_ ?_
     ·intro x5 o h;refine sQ<|sR<|am k k<|fp k8<|lp k8<|am k k<|oB h λv20 hv20 h=>ae (xl hv20 k) k<|lr k7<|cm k4<|an<|tn<|dR k h (λ_ h=>?_) λ_ h=>aU<|aB<|aB<|sp h ⟨_,k,k,(bS (bK k2) (bN k<|bN k<|bN k<|fF k<|bP k<|bP k<|aR) k4)⟩;refine aG<|tn<|sQ<|aE<|sQ<|aN gD<|lp k8<|lp k8<|am k k<|oB h λv22 hv22 h=>ae (bC (aFl a0 a1 v4 v22 hv22) k (aZ (lQ k) (aZ (lQ k) (dW k aS)))) k<|am k k<|fp k8<|lp k8<|am k k<|oB h λv23 hv23 h=>ae (xl hv23 k) k<|lr k7<|ae (fZ k k) k<|ae (bF k k) k<|am k k<|ae (bF k k) k<|aa k k<|an<|rC (by kernel_rfl)<|tn<|aN gD<|am k k<|am k k<|fp k8<|lp k8 ?_;refine am k k<|am k k<|oB h λv24 hv24 h=>ae (xo hv24 k) k<|ae (wp hv24 k) k<|fp k8<|lp k8<|am k k<|oB h λv25 hv25 h=>ae (xl hv25 k) k<|ae (eJ aD k k k k k k) k<|lr k7<|am k k<|fp k8<|lp k8<|am k k<|oB h λv26 hv26 h=>ae (xl hv26 k) k<|lr k7<|ae (fZ k k) k<|am k k<|ae (bF k k) k<|oB h λv27 hv27 h=>ae (xl hv27 k) k<|lr k7<|ae (iV k k) k<|oB h λv28 hv28 h=>ae (bC (rM a0.p (wr (v24 - v27)) v28 hv28) k (dW k (dW k aS))) k<|oB h λv29 hv29 h=>ae (xo hv29 k) k<|ae (fA aD jX (u:=v28) (dB hv29) k k k k k k) k<|an<|rC (by kernel_rfl)<|aV<|tn<|aP (t:=mN [(2,.ptr 0 0 0),(3,.ptr 1 0 0),(4,.ptr 2 0 0),(5,.int v1),(6,.ptr 3 0 0),(7,.int x1.2.2),(8,.int v3),(9,.int v4),(10,.int x2.2.2),(11,.int x3.2.2),(12,.own 5 0 ((x5.1.set ((wr ((wr (v22+(wr (x2.2.2*v23))))+x5.2)).toNat) v28).length)),(15,.int x5.2)] [(0,⟨6,[eR a0]⟩),(1,⟨6,[eR a1]⟩),(2,⟨3,[iL]⟩),(3,⟨3,[[.int x3.1,.int v1,.own 4 0 x3.2.1.length]]⟩),(4,⟨1,x3.2.1.map (ow eI)⟩),(5,⟨1,List.map (ow eI) (x5.1.set ((wr ((wr (v22+(wr (x2.2.2*v23))))+x5.2)).toNat) v28)⟩)] 6) (bS (mG 10 k2 (jJ ⟨_,k,⟨k,k,(by simp only [aO,lA,lT,lR,lC,lN]),k⟩⟩ (bK k2))) (bN k<|bN k<|bN k<|fF k<|bP k<|bP k<|aR) k4) ?_;exact rg<|am k k<|ae (bF k k) k<|aT k2<|sp h ⟨_,k,(bS (bK k2) (bN k<|bN k<|bN k<|fF k<|bP k<|bP k<|aR) k4)⟩
     ·rintro e t ⟨rfl,hent⟩;exact aL<|tn<|aP hent<|sR<|fp k8<|lp k8<|ae (bF k k) k<|fp k8<|ae (ws k) k<|an<|tn<|rg<|fp k8<|lp k8<|am k k<|cG h λq31 h=>ae (vE aD (l:=x3.2.1) (m:=y30) jX q31 k k k k k (aXK cP k k) k k k k k k) k<|fp k8<|ae (ws k) k<|an<|aV<|tn<|rg<|am k k<|ae (bF k k) k<|aT k2<|sp h ⟨_,k,(mX [0,1,2,3,6] (bK k2) (bN k<|bN k<|bN k<|fF k<|bP k<|aR) k4)⟩
   ·rintro e t ⟨rfl,hent⟩;exact aL<|aV<|tn<|aP hent<|rg<|am k k<|ae (bF k k) k<|aT k2<|sp h ⟨_,k,(bS (bK k2) (bN k<|bN k<|bN k<|fF k<|bP k<|aR) k4)⟩
  ·rintro e t ⟨rfl,hent⟩;exact aL<|aV<|tn<|aP hent<|rg<|am k k<|ae (bF k k) k<|aT k2<|sp h ⟨_,k,(bS (bK k2) (bN k<|bN k<|bN k<|fF k<|bP k<|aR) k4)⟩
 ·rintro e t ⟨rfl,hent⟩;exact aL<|tn<|aP hent<|sR<|lp k8<|ae (ws k) k<|an<|tn<|aJ<|sp h (bT k k k (pH (aH (k) (aH (k) (aH (eX cP k k) eH)))))
def rU (a0:Rp) (a1:Rp) (a2:(List Int)) (x1:((List Mt)×Int×Int)):Option (((List Mt)×Int×Int) ⊕ (List Mt)):=
 bif decide (x1.2.2<(a0.dims.length:Int)) then
 ((cO a0.dims x1.2.2).bind λv2=>
 (cO a1.dims x1.2.2).bind λv3=>
 (cO a1.dims x1.2.2).bind λv4=>
 (cO a0.dims x1.2.2).bind λv5=>
 bif (decide (0≤x1.2.1)&&(decide (x1.2.1≤wr (x1.2.1+(wr (v2*v3))))&&decide (wr (x1.2.1+(wr (v2*v3)))≤(a2.length:Int)))) then
 (bif decide (([]:(List Int)).length +((a2.drop x1.2.1.toNat).take ((wr (x1.2.1+(wr (v2*v3)))).toNat - x1.2.1.toNat)).length ≤4294967296) then
 (bif decide (x1.1.length+1≤4294967296) then
 (some (.inl ((x1.1++[(⟨v4,v5,(([]:(List Int))++((a2.drop x1.2.1.toNat).take ((wr (x1.2.1+(wr (v2*v3)))).toNat - x1.2.1.toNat)))⟩:Mt)]),wr (x1.2.1+(wr (v2*v3))),wr (x1.2.2+1))))
 else none)
 else none)
 else none)
 else
 (some (.inr x1.1))
def wW (a0:Rp) (a1:Rp) (a2:(List Int)):Option (List Mt):=
 (Lp (rU a0 a1 a2) (([]:(List Mt)),0,0)).bind λy9=>
 some (y9)
theorem aHp (a0:Rp) (a1:Rp) (a2:(List Int)) (r:(List Mt)) (h:wW a0 a1 a2=some r):HasC Tryz.prog 175 [.agg (eR a0),.agg (eR a1),.list 1 (a2.map eI)] (.list 3 (r.map eM)):=by
 refine hM [.tmp 6] Tryz.func175 Tryz.ntmps175 k<|sR<|ae (wb k) k<|ae (wb k) k<|aT k2<|sR<|ae (wl k) k<|aT k2<|aP (t:=mN [(2,.list 1 (a2.map eI)),(3,.ptr 0 0 0),(4,.ptr 1 0 0),(7,.own 2 0 (([]:(List Mt)).length))] [(0,⟨6,[eR a0]⟩),(1,⟨6,[eR a1]⟩),(2,⟨3,List.map (ow eM) ([]:(List Mt))⟩)] 3) (bS (mG 3 k2 (jJ ⟨_,k,⟨k,k,(by simp only [aO,lA,lT,lR,lC,lN]),k⟩⟩ aR)) (bN k<|bN k<|cD (cE.plainO _) k<|aR) k4)<|sR<|aT k2<|sQ<|sR<|aT k2<|aE<|oB h λy9 hy9 h=>cC (body:=(rU a0 a1 a2)) hy9 (λ(x1:((List Mt)×Int×Int))=>mN [(2,.list 1 (a2.map eI)),(3,.ptr 0 0 0),(4,.ptr 1 0 0),(7,.own 2 0 x1.1.length),(8,.int x1.2.1),(9,.int x1.2.2)] [(0,⟨6,[eR a0]⟩),(1,⟨6,[eR a1]⟩),(2,⟨3,x1.1.map (ow eM)⟩)] 3) (λr e t=>e= .exit 0∧Ent t (mN [(7,.own 0 0 r.length)] [(0,⟨3,r.map (ow eM)⟩)] 1)) (bS (bK k2) (bN k<|bN k<|cD (cE.plainO _) k<|aR) k4) ?_ ?_
 ·intro x1 o h;refine sQ<|sR<|am k k<|fp k8<|lp k8<|ln k4<|cm k4<|an<|tn<|dR k h (λ_ h=>?_) λ_ h=>aU<|aB<|aB<|sp h ⟨_,k,k,(mX [2] (bK k2) (cD (cE.plainO _) k<|aR) k4)⟩;refine aG<|tn<|sQ<|aE<|sQ<|aN gD<|fp k8<|lp k8<|am k k<|oB h λv2 hv2 h=>ae (xl hv2 k) k<|lr k7<|fp k8<|lp k8<|am k k<|oB h λv3 hv3 h=>ae (xl hv3 k) k<|lr k7<|ae (fZ k k) k<|aa k k<|an<|rC (by kernel_rfl)<|tn<|sQ<|aN gD<|am k k<|fp k8<|lp k8<|am k k<|oB h λv4 hv4 h=>ae (xl hv4 k) k<|lr k7 ?_;refine fp k8<|lp k8<|am k k<|oB h λv5 hv5 h=>ae (xl hv5 k) k<|lr k7<|ae (wl k) k<|am k k<|am k k<|am k k<|am k k<|ae (bF k k) k<|cG h λq6 h=>ae (oJ aD (l0:=a2) (l:=x1.2.1) (h:=wr (x1.2.1+(wr (v2*v3)))) q6 k k k k k k k) k<|cG h λq7 h=>ae (vE aD (l:=([]:(List Int))) (m:=((a2.drop x1.2.1.toNat).take ((wr (x1.2.1+(wr (v2*v3)))).toNat - x1.2.1.toNat))) jX q7 k k k k k k k k k k k k) k<|ae (dE aD k k k k k k) k<|ae (wl k) k<|cG h λq8 h=>ae (jY aD (l:=x1.1) (c:=[.int v4,.int v5,.own 4 0 ((([]:(List Int))++((a2.drop x1.2.1.toNat).take ((wr (x1.2.1+(wr (v2*v3)))).toNat - x1.2.1.toNat))).length)]) q8 k k k k k k k k k k k k k k) k<|aa k k<|an<|rC (by kernel_rfl)<|tn<|aP (t:=mN [(2,.list 1 (a2.map eI)),(3,.ptr 0 0 0),(4,.ptr 1 0 0),(7,.own 6 0 ((x1.1++[(⟨v4,v5,(([]:(List Int))++((a2.drop x1.2.1.toNat).take ((wr (x1.2.1+(wr (v2*v3)))).toNat - x1.2.1.toNat)))⟩:Mt)]).length)),(8,.int x1.2.1),(9,.int x1.2.2),(10,.int (wr (v2*v3)))] [(0,⟨6,[eR a0]⟩),(1,⟨6,[eR a1]⟩),(6,⟨3,List.map (ow eM) (x1.1++[(⟨v4,v5,(([]:(List Int))++((a2.drop x1.2.1.toNat).take ((wr (x1.2.1+(wr (v2*v3)))).toNat - x1.2.1.toNat)))⟩:Mt)])⟩)] 7) (Ent.trans (eY (b:=6) (b':=4) (j:=2) (es':=List.map eI (([]:(List Int))++((a2.drop x1.2.1.toNat).take ((wr (x1.2.1+(wr (v2*v3)))).toNat - x1.2.1.toNat)))) k k k k (aO _ _) (cP.frzs _)) (bS (mG 3 k2 (jJ ⟨_,k,⟨k,k,(by simp only [aO,lA,lT,lR,lC,lN]),k⟩⟩ (bK k2))) (bN k<|bN k<|hX ⟨_,k,k,.inl ⟨kP (⟨v4,v5,(([]:(List Int))++((a2.drop x1.2.1.toNat).take ((wr (x1.2.1+(wr (v2*v3)))).toNat - x1.2.1.toNat)))⟩:Mt) k,cE.plainO _⟩⟩ k<|aR) k4))<|rg<|am k k<|am k k<|ae (bF k k) k<|aa k k<|an<|aV<|tn<|rg ?_;exact am k k<|ae (bF k k) k<|aT k2<|sp h ⟨_,k,(mX [0,1,6] (bK k2) (bN k<|bN k<|cD (cE.plainO _) k<|aR) k4)⟩
 ·rintro e t ⟨rfl,hent⟩;exact aL<|tn<|aP hent<|sR<|am k k<|aT k2<|aJ<|sp h (bT k k k (mI (eX cE k k)))
def rV (a0:Rp) (a1:Rp) (v4:(List (List Int))) (x1:((List (List Mt))×Int)):Option (((List (List Mt))×Int) ⊕ (List (List Mt))):=
 bif decide (x1.2<((v4.length:Nat):Int)) then
 ((cO v4 x1.2).bind λv6=>
 (wW a0 a1 v6).bind λv7=>
 bif decide (x1.1.length+1≤4294967296) then
 (some (.inl ((x1.1++[v7]),wr (x1.2+1))))
 else none)
 else
 (some (.inr x1.1))
def wX (a0:Rp) (a1:Rp):Option ((List (List Mt))×Bool):=
 (xV a0 a1).bind λv1=>
 bif !v1 then
 (some ((([]:(List (List Mt))),false)))
 else
 ((pT a0 a1).bind λv3=>
 (wU a0.p v3).bind λv4=>
 (Lp (rV a0 a1 v4) (([]:(List (List Mt))),0)).bind λy9=>
 some ((y9,true)))
theorem aHq (a0:Rp) (a1:Rp) (r:((List (List Mt))×Bool)) (h:wX a0 a1=some r):HasC Tryz.prog 142 [.agg (eR a0),.agg (eR a1)] (.tuple [.list 1 (r.1.map (cH 3 eM)),.bl r.2]):=by
 refine hM [.tmp 4,.tmp 5] Tryz.func142 Tryz.ntmps142 k<|sR<|ae (wb k) k<|ae (wb k) k<|aa k k<|aT k2<|sR<|ae (wl k) k<|aT k2<|aP (t:=mN [(2,.ptr 0 0 0),(3,.ptr 1 0 0),(6,.own 2 0 (([]:(List (List Mt))).length))] [(0,⟨6,[eR a0]⟩),(1,⟨6,[eR a1]⟩),(2,⟨1,List.map (ow (cH 3 eM)) ([]:(List (List Mt)))⟩)] 3) (bS (mG 2 k2 (jJ ⟨_,k,⟨k,k,(by simp only [aO,lA,lT,lR,lC,lN]),k⟩⟩ aR)) (bN k<|bN k<|cD (bA.plainO _) k<|aR) k4)<|sQ<|sR<|lp k8<|lp k8<|oB h λv1 hv1 h=>ae (bC (aFg a0 a1 v1 hv1) k (aZ (lQ k) (aZ (lQ k) aS))) k<|ae (dL k) k<|an<|tn<|dR k h (λ_ h=>sR<|am k k<|aa k k<|aT k2<|aJ<|aI<|sp h (bT k k k (dC k (bW (yX (eX bA k k)) (bW (k) fH))))) λ_ h=>?_;refine aG<|tn<|sQ<|aN gD<|fp k8<|lp k8<|lp k8<|lp k8<|oB h λv3 hv3 h=>ae (cM (aEP a0 a1 v3 hv3) k3 (aZ (lQ k) (aZ (lQ k) aS))) k<|oB h λv4 hv4 h=>ae (cL bA (aHo a0.p v3 v4 hv4) k3 (dW k (aZ (vaM k2) aS))) k<|aa k k<|an<|rC (by kernel_rfl)<|tn<|sQ<|sR<|aT k2<|aE<|oB h λy9 hy9 h=>cC (body:=(rV a0 a1 v4)) hy9 (λ(x1:((List (List Mt))×Int))=>mN [(2,.ptr 0 0 0),(3,.ptr 1 0 0),(6,.own 2 0 x1.1.length),(7,.own 3 0 v4.length),(8,.int x1.2)] [(0,⟨6,[eR a0]⟩),(1,⟨6,[eR a1]⟩),(2,⟨1,x1.1.map (ow (cH 3 eM))⟩),(3,⟨1,v4.map (ow (cH 1 eI))⟩)] 4) (λr e t=>e= .exit 0∧Ent t (mN [(6,.own 0 0 r.length)] [(0,⟨1,r.map (ow (cH 3 eM))⟩)] 1)) (mX [0,1,2,4] (bK k2) (bN k<|bN k<|cD (bA.plainO _) k<|cD (bA.plainO _) k<|aR) k4) ?_ ?_
 ·intro x1 o h;exact sQ<|sR<|am k k<|am k k<|ae (cA aD k k k k) k<|cm k4<|an<|tn<|dR k h (λ_ h=>aG<|tn<|sQ<|aE<|aN gD<|am k k<|lp k8<|lp k8<|am k k<|am k k<|oB h λv6 hv6 h=>ae (xo hv6 k) k<|ae (wp hv6 k) k<|oB h λv7 hv7 h=>ae (cL cE (aHp a0 a1 v6 v7 hv7) k3 (aZ (lQ k) (aZ (lQ k) (dW k aS)))) k<|ae (wl k) k<|cG h λq8 h=>ae (jY aD (l:=x1.1) (c:=[.own 4 0 v7.length]) q8 k k k k k k k k k k k k k k) k<|aa k k<|an<|rC (by kernel_rfl)<|aV<|tn<|aP (t:=mN [(2,.ptr 0 0 0),(3,.ptr 1 0 0),(6,.own 6 0 ((x1.1++[v7]).length)),(7,.own 3 0 v4.length),(8,.int x1.2)] [(0,⟨6,[eR a0]⟩),(1,⟨6,[eR a1]⟩),(3,⟨1,v4.map (ow (cH 1 eI))⟩),(6,⟨1,List.map (ow (cH 3 eM)) (x1.1++[v7])⟩)] 7) (Ent.trans (eY (b:=6) (b':=4) (j:=0) (es':=v7.map eM) k k k k (aO _ _) (cE.frzs _)) (bS (mG 2 k2 (jJ ⟨_,k,⟨k,k,(by simp only [aO,lA,lT,lR,lC,lN]),k⟩⟩ (bK k2))) (bN k<|bN k<|cD (bA.plainO _) k<|hX ⟨_,k,k,.inl ⟨kP v7 k,bA.plainO _⟩⟩ k<|aR) k4))<|rg<|am k k<|ae (bF k k) k<|aT k2<|sp h ⟨_,k,(mX [0,1,6,3] (bK k2) (bN k<|bN k<|cD (bA.plainO _) k<|cD (bA.plainO _) k<|aR) k4)⟩) λ_ h=>aU<|aB<|aB<|sp h ⟨_,k,k,(mX [2] (bK k2) (cD (bA.plainO _) k<|aR) k4)⟩
 ·rintro e t ⟨rfl,hent⟩;exact aL<|tn<|aP hent<|sR<|am k k<|aa k k<|aT k2<|aJ<|sp h (bT k k k (dC k (bW (yX (eX bA k k)) (bW (k) fH))))
def vW (a0:Rp) (a1:Rp):Option Int:=
 (wX a0 a1).bind λv1=>
 bif !v1.2 then
 (some ((-1)))
 else
 (some (((v1.1.length:Nat):Int)))
theorem aKI (a0:Rp) (a1:Rp) (r:Int) (h:vW a0 a1=some r):HasC Tryz.prog 96 [.agg (eR a0),.agg (eR a1)] (.int r):=by
 exact hM [.tmp 4] Tryz.func96 Tryz.ntmps96 k<|sR<|ae (wb k) k<|ae (wb k) k<|aT k2<|sR<|lp k8<|lp k8<|oB h λv1 hv1 h=>ae (cT bA (aHq a0 a1 v1 hv1) k3 (aZ (lQ k) (aZ (lQ k) aS))) k<|am k k<|ae (bD k k (by intro _ h;cases h)) k<|ae (bD k k (by intro _ h;cases h)) k<|aa k k<|aT k2<|sQ<|sR<|am k k<|ae (dL k) k<|an<|tn<|dR k h (λ_ h=>sR<|aT k2<|aJ<|aI<|rtI h k2) λ_ h=>aG<|tn<|sR<|am k k<|ae (cA aD k k k k) k<|aT k2<|aJ<|rtI h k2
end
noncomputable section
set_option maxRecDepth 10000
set_option maxHeartbeats 4000000
end
noncomputable section
def rkF (p:Int) (m n:Nat) (F:Nat→Nat→Int):Nat:=(fU p m F n).2.length
def dN (r:Rp) (k:Nat):Nat:=(r.dims[k]?.getD 0).toNat
theorem aDX {r:Rp} (h:sI r=true):isF r.p=true∧aBC r.q r.dims=true∧r.maps.length=r.q.src.length∧ ∀ k,k<r.maps.length→aGh r.p (r.maps[k]?.getD ⟨0,0,[]⟩)=true∧(r.maps[k]?.getD ⟨0,0,[]⟩).cols=r.dims[(r.q.src[k]?.getD 0).toNat]?.getD 0∧(r.maps[k]?.getD ⟨0,0,[]⟩).rows=r.dims[(r.q.tgt[k]?.getD 0).toNat]?.getD 0:=by
 unfold sI at h;simp only [dF,iD,yV] at h;exact ⟨h.1,h.2.1,by omega,h.2.2.2⟩
theorem zH {c:Nat} {f g:Nat→Int} (h: ∀ j,j<c→f j=g j):tX c f=tX c g:=kC λj hj=>h j (List.mem_range.1 hj)
theorem aTN {c j:Nat} (hj:j<c) (f:Nat→Int) (v:Int):(tX c f).set j v=tX c (λb=>if b=j then v else f b):=by
 refine List.ext_getElem (by simp [tX]) λt h1 h2=>?_;rw [oN] at h2;rw [List.getElem_set];simp only [tX,List.getElem_map,List.getElem_range];by_cases e:j=t
 ·rw [aY e,aY e.symm]
 ·rw [aW e,aW (by omega)]
theorem aRl (c:Nat):List.replicate c (0:Int)=tX c (λ_=>0):=by
 refine List.ext_getElem (by simp [tX]) λt h1 h2=>?_;simp [tX]
theorem sq {a b:Nat} (ha:a≤4) (hb:b≤4):a*b≤1048576:=by have:=Nat.mul_le_mul ha hb;omega
theorem aFm (c:Nat) (f:Nat→Nat→Int): ∀ n,((List.range n).map λi=>tX c (f i)).flatten=cK n c f
 |0=>by simp [cK]
 |n+1=>by
  rw [List.range_succ,List.map_append,List.flatten_append,aFm c f n];unfold cK;rw [Nat.succ_mul,List.range_add,List.map_append];congr 1;simp only [List.map_cons,List.map_nil,List.flatten_cons,List.flatten_nil,List.append_nil,List.map_map,tX];refine kC λj hj=>?_;have hj:=List.mem_range.1 hj;simp only [Function.comp];rw [aCj hj,aCk hj]
theorem aRm {l:List (List Int)} (h: ∀ x∈l,x.length≤1024):l.flatten.length≤1024*l.length:=by
 induction l with
 |nil=>simp
 |cons x l ih=>
  have h1:=h x (by simp);have h2:=ih λy hy=>h y (by simp [hy]);simp only [List.flatten_cons,List.length_append,List.length_cons];omega
theorem aED {l:List (List Int)} {k:Nat} (hk:k<l.length):(l.take (k+1)).flatten=(l.take k).flatten++l[k]:=by
 rw [aBy hk,List.flatten_append];simp
theorem aTO {l:List (List Int)} (hl:l.length≤512) (h: ∀ x∈l,x.length≤1024):fL l=some l.flatten:=by
 have hb: ∀ k,(l.take k).flatten.length ≤1024*512:=λk=>by
  have:=aRm (l:=l.take k) λx hx=>h x (List.mem_of_mem_take hx);have h2:(l.take k).length ≤512:=by simp;omega
  omega
 unfold fL;rw [dQ (r:=(l.flatten.length:Int)) (λk=>(((l.take k).flatten.length:Int),(k:Int))) l.length (by simp) (λk hk=>?_) (λ_=>?_),aC]
 ·have e:=hb l.length;rw [List.take_length] at e;unfold aLt;rw [bG (by omega),bG (by omega:(l.flatten.length:Int)≤1048576),Bool.and_self,aM,aC];rw [dQ (r:=l.flatten) (λk=>((l.take k).flatten,(k:Int))) l.length (by simp) (λk hk=>?_) (λ_=>?_),aC]
  ·unfold dA;simp only;have e2:=hb (k+1);rw [aED hk,List.length_append] at e2;rw [iE hk,aM,dJ hk,aC,bG (by omega),aM,bU hk (by omega),aED hk]
  ·unfold dA;simp only;rw [iT (bO _),aX,List.take_length]
 ·unfold cZ;simp only;have e2:=hb (k+1);rw [aED hk,List.length_append] at e2;rw [iE hk,aM,dJ hk,aC,cY (x:=_+_) (by omega),eB (by omega),aX,bU hk (by omega),aED hk,List.length_append,Int.natCast_add (List.take k l).flatten.length l[k].length]
 ·unfold cZ;simp only;rw [iT (bO _),aX,List.take_length]
end
noncomputable section
def sN (f:Nat→Int):Nat→Int
 |0=>0
 |k+1=>sN f k+f k
theorem aFn {f g:Nat→Int} : ∀ {n:Nat},(∀ k,k<n→f k=g k)→sN f n=sN g n
 |0,_=>rfl
 |n+1,h=>by rw [sN,sN,aFn λk hk=>h k (by omega),h n (by omega)]
theorem aWO (f g:Nat→Int): ∀ n,sN (λk=>f k+g k) n=sN f n+sN g n
 |0=>rfl
 |n+1=>by rw [sN,sN,sN,aWO f g n];omega
theorem aIJ: ∀ n,sN (λ_=>0) n=0
 |0=>rfl
 |n+1=>by rw [sN,aIJ n];rfl
theorem aPV {f:Nat→Int} {j:Nat} : ∀ {n:Nat},j<n→(∀ k,k<n→k≠j→f k=0)→sN f n=f j
 |0,h,_=>absurd h (Nat.not_lt_zero _)
 |n+1,h,hz=>by
  rw [sN];by_cases e:j=n
  ·subst e;rw [aFn (g:=λ_=>0) λk hk=>hz k (by omega) (by omega),aIJ];omega
  ·rw [aPV (j:=j) (by omega) λk hk hj=>hz k (by omega) hj,hz n (by omega) (by omega)];omega
theorem aKs: ∀ {L M:List Nat},(∀ i k,i<k→k<L.length→L[i]?.getD 0<L[k]?.getD 0)→(∀ i k,i<k→k<M.length→M[i]?.getD 0<M[k]?.getD 0)→(∀ i,i<L.length→ ∃ j,j<M.length∧M[j]?.getD 0=L[i]?.getD 0)→(∀ j,j<M.length→ ∃ i,i<L.length∧L[i]?.getD 0=M[j]?.getD 0)→L=M
 | [],[],_,_,_,_=>rfl
 | [],y::M,_,_,_,h=>by obtain ⟨i,hi,_⟩:=h 0 (by simp);simp at hi
 |x::L,[],_,_,h,_=>by obtain ⟨i,hi,_⟩:=h 0 (by simp);simp at hi
 |x::L,y::M,hL,hM,h1,h2=>by
  have sL: ∀ i k,i<k→k<L.length→L[i]?.getD 0<L[k]?.getD 0:=λi k hik hk=>by have:=hL (i+1) (k+1) (by omega) (by simp;omega);simpa using this
  have sM: ∀ i k,i<k→k<M.length→M[i]?.getD 0<M[k]?.getD 0:=λi k hik hk=>by have:=hM (i+1) (k+1) (by omega) (by simp;omega);simpa using this
  have xL: ∀ i,i<L.length→x<L[i]?.getD 0:=λi hi=>by have:=hL 0 (i+1) (by omega) (by simp;omega);simpa using this
  have yM: ∀ i,i<M.length→y<M[i]?.getD 0:=λi hi=>by have:=hM 0 (i+1) (by omega) (by simp;omega);simpa using this
  have exy:x=y:=by
   obtain ⟨j,hj,e1⟩:=h1 0 (by simp);obtain ⟨i,hi,e2⟩:=h2 0 (by simp);simp at e1 e2
   have b1:y≤x:=by
    cases j with
    |zero=>simp at e1;omega
    |succ j=>simp at e1 hj;have:=yM j hj;omega
   have b2:x≤y:=by
    cases i with
    |zero=>simp at e2;omega
    |succ i=>simp at e2 hi;have:=xL i hi;omega
   omega
  subst exy;congr 1;refine aKs sL sM (λi hi=>?_) (λj hj=>?_)
  ·obtain ⟨j,hj,e⟩:=h1 (i+1) (by simp;omega);simp at e;have:=xL i hi;cases j with
   |zero=>simp at e;omega
   |succ j=>simp at e hj;exact ⟨j,hj,e⟩
  ·obtain ⟨i,hi,e⟩:=h2 (j+1) (by simp;omega);simp at e;have:=yM j hj;cases i with
   |zero=>simp at e;omega
   |succ i=>simp at e hi;exact ⟨i,hi,e⟩
end
noncomputable section
def off (l:Nat→Nat):Nat→Nat
 |0=>0
 |k+1=>off l k+l k
theorem aBq {l:Nat→Nat} {i k:Nat} (h:i≤k):off l i≤off l k:=by
 induction k with
 |zero=>have:i=0:=by omega
        subst this;exact bO _
 |succ k ih=>
  rcases eD k i with h'|h'
  ·have:i=k+1:=by omega
   subst this;exact bO _
  ·have:=ih h';show off l i≤off l k+l k;omega
theorem yA {l:Nat→Nat} {i k y:Nat} (hi:i<k) (hy:y<l i):off l i+y<off l k:=by
 have:= @aBq l (i+1) k hi;have e:off l (i+1)=off l i+l i:=rfl;omega
theorem aFo {l:Nat→Nat} : ∀ {k x:Nat},x<off l k→ ∃ i y,i<k∧y<l i∧x=off l i+y
 |0,x,h=>absurd h (Nat.not_lt_zero _)
 |k+1,x,h=>by
  rcases eD x (off l k) with h'|h'
  ·obtain ⟨i,y,h1,h2,h3⟩:=aFo h';exact ⟨i,y,by omega,h2,h3⟩
  ·have e:off l (k+1)=off l k+l k:=rfl;exact ⟨k,x - off l k,by omega,by omega,by omega⟩
theorem aQe {l:Nat→Nat} {i j y z:Nat} (hy:y<l i) (hz:z<l j) (h:off l i+y=off l j+z):i=j∧y=z:=by
 have e1:off l (i+1)=off l i+l i:=rfl;have e2:off l (j+1)=off l j+l j:=rfl;rcases Nat.lt_trichotomy i j with h1|h1|h1
 ·have:= @aBq l (i+1) j h1;omega
 ·subst h1;exact ⟨rfl,by omega⟩
 ·have:= @aBq l (j+1) i h1;omega
def cat (l:Nat→Nat) (f:Nat→Nat→Int):Nat→List Int
 |0=>[]
 |k+1=>cat l f k++(List.range (l k)).map (f k)
theorem jA (l:Nat→Nat) (f:Nat→Nat→Int): ∀ k,(cat l f k).length=off l k
 |0=>rfl
 |k+1=>by rw [cat,off,List.length_append,jA l f k];simp
theorem uU {l:Nat→Nat} (f:Nat→Nat→Int): ∀ {k i y:Nat},i<k→y<l i→(cat l f k)[off l i+y]? =some (f i y)
 |0,i,y,h,_=>absurd h (Nat.not_lt_zero _)
 |k+1,i,y,h,hy=>by
  rw [cat];by_cases e:i=k
  ·subst e;rw [List.getElem?_append_right (by rw [jA];omega),jA,Nat.add_sub_cancel_left];simp [hy]
  ·rw [List.getElem?_append_left (by rw [jA];exact yA (by omega) hy)];exact uU f (by omega) hy
theorem aFp {l:Nat→Nat} {f:Nat→Nat→Int} {k:Nat} {v:List Int} (hv:v.length=off l k) (h: ∀ i y,i<k→y<l i→v[off l i+y]? =some (f i y)):v=cat l f k:=by
 refine List.ext_getElem (by rw [jA,hv]) λx h1 h2=>?_;obtain ⟨i,y,hi,hy,rfl⟩:=aFo (hv▸h1);have a:=h i y hi hy;have b:=uU f hi hy;rw [hJ h1] at a;rw [hJ h2] at b;exact (Option.some.inj a).trans (Option.some.inj b).symm
theorem aCQ {l:Nat→Nat} {f g:Nat→Nat→Int} {k:Nat} (h: ∀ i y,i<k→y<l i→f i y=g i y):cat l f k=cat l g k:=
 aFp (jA l f k) λi y hi hy=>by rw [uU f hi hy,h i y hi hy]
theorem aMH {l:Nat→Nat} {f:Nat→Nat→Int} {k i y:Nat} (hi:i<k) (hy:y<l i) (v:Int):(cat l f k).set (off l i+y) v=cat l (λa b=>if a=i∧b=y then v else f a b) k:=by
 refine aFp (by rw [List.length_set,jA]) λa b ha hb=>?_;rw [List.getElem?_set];by_cases e:off l i+y=off l a+b
 ·obtain ⟨rfl,rfl⟩:=aQe hy hb e;rw [aY rfl,aY (by rw [jA];exact yA hi hy),aY ⟨rfl,rfl⟩]
 ·rw [aW e,aW (by rintro ⟨rfl,rfl⟩;exact e rfl),uU f ha hb]
theorem aNk (l:Nat→Nat) (k:Nat):List.replicate (off l k) (0:Int)=cat l (λ_ _=>0) k:=aFp (by simp) λi y hi hy=>by simp [yA hi hy]
theorem aTP {l:Nat→Nat} {f:Nat→Nat→Int} {k:Nat} : ∀ {n:Nat},k<n→((cat l f n).drop (off l k)).take (l k)=(List.range (l k)).map (f k):=by
 intro n hk;refine List.ext_getElem ?_ λx h1 h2=>?_
 ·have:= @aBq l (k+1) n hk;have e:off l (k+1)=off l k+l k:=rfl;simp [jA];omega
 ·have hx:x<l k:=by simpa using h2
  rw [List.getElem_take,List.getElem_drop];have:=uU f hk hx;rw [hJ (by rw [jA];exact yA hk hx)] at this;simp [Option.some.inj this]
theorem aWP {r c:Nat} {g:Nat→Int} {F:Nat→Nat→Int} (h: ∀ y,y<r*c→g y=F (y / c) (y % c)):(List.range (r*c)).map g=cK r c F:=kC λy hy=>h y (List.mem_range.1 hy)
theorem aEx {r c y:Nat} (h:y<r*c):y / c<r∧y % c<c:=by
 have hc:0<c:=by rcases Nat.eq_zero_or_pos c with rfl|h';simp at h;exact h'
 exact ⟨Nat.div_lt_of_lt_mul (by rw [Nat.mul_comm];exact h),Nat.mod_lt _ hc⟩
theorem aBc {c y:Nat} :y / c*c+y % c=y:=by rw [Nat.mul_comm];exact Nat.div_add_mod y c
theorem aTQ {n:Nat} {L:List Nat} (hinc: ∀ i k,i<k→k<L.length→L[i]?.getD 0<L[k]?.getD 0) (hlt: ∀ x∈L,x<n):(aVe n L).length +L.length=n:=by
 have key: ∀ t,((List.range t).filter λk=> !L.contains k).length +((List.range t).filter λk=>L.contains k).length=t:=by
  intro t;induction t with
  |zero=>simp
  |succ t ih=>
   rw [List.range_succ,List.filter_append,List.filter_append,List.length_append,List.length_append];cases h:L.contains t <;> simp only [List.filter_cons,List.filter_nil,h,gO,Bool.not_false,fJ,if_true,if_false,List.length_cons,List.length_nil] <;> omega
 have e:(List.range n).filter (λk=>L.contains k)=L:=by
  have hL: ∀ i,i<L.length→L[i]?.getD 0<n:=λi hi=>hlt _ (by rw [hJ hi];exact List.getElem_mem hi);have hS:((List.range n).filter λk=>L.contains k).Pairwise (· < ·):=List.Pairwise.filter _ List.pairwise_lt_range;refine aKs (λi k hik hk=>?_) hinc (λi hi=>?_) (λj hj=>?_)
  ·have:=List.pairwise_iff_getElem.1 hS i k (by omega) hk hik;rw [hJ (by omega),hJ hk];exact this
  ·have hm:=List.getElem_mem hi;rw [List.mem_filter] at hm;have h2:=List.contains_iff_mem.1 hm.2;obtain ⟨j,hj,he⟩:=List.mem_iff_getElem.1 h2;refine ⟨j,hj,?_⟩;rw [hJ hj,hJ hi];exact he
  ·have hm:L[j]∈(List.range n).filter λk=>L.contains k:=by
    rw [List.mem_filter];exact ⟨List.mem_range.2 (hlt _ (List.getElem_mem hj)),List.contains_iff_mem.2 (List.getElem_mem hj)⟩
   obtain ⟨i,hi,he⟩:=List.mem_iff_getElem.1 hm;refine ⟨i,hi,?_⟩;rw [hJ hj,hJ hi];exact he
 have:=key n;rw [e] at this;exact this
end
noncomputable section
def sV (r:Rp) (i:Nat):Nat:=(r.q.src[i]?.getD 0).toNat
def tV (r:Rp) (i:Nat):Nat:=(r.q.tgt[i]?.getD 0).toNat
def aF (r:Rp) (i:Nat):Nat→Nat→Int:=λj k=>(r.maps[i]?.getD ⟨0,0,[]⟩).cells[j*dN r (sV r i)+k]?.getD 0
structure Rv (r:Rp):Prop where
 hp:isF r.p=true
 n5:r.dims.length≤5
 d: ∀ k,k<r.dims.length→r.dims[k]?.getD 0=(dN r k:Int)∧dN r k≤4
 e6:r.q.src.length≤6
 tl:r.q.tgt.length=r.q.src.length
 ml:r.maps.length=r.q.src.length
 s: ∀ i,i<r.q.src.length→r.q.src[i]?.getD 0=(sV r i:Int)∧sV r i<r.dims.length
 t: ∀ i,i<r.q.src.length→r.q.tgt[i]?.getD 0=(tV r i:Int)∧tV r i<r.dims.length
 m: ∀ i,i<r.q.src.length→r.maps[i]?.getD ⟨0,0,[]⟩=⟨dN r (tV r i),dN r (sV r i),cK (dN r (tV r i)) (dN r (sV r i)) (aF r i)⟩∧InP r.p (dN r (tV r i)) (dN r (sV r i)) (aF r i)
theorem aVp {r:Rp} (h:sI r=true):Rv r:=by
 obtain ⟨hp,hD,hml,hM⟩:=aDX h;obtain ⟨hQ,hd1,hd2,_⟩:=uC hD;obtain ⟨n,hn,hn1,hn5,hq1,hq2,hq3,hq4⟩:=xO hQ;have hdl:r.dims.length=n:=by omega
 have hd: ∀ k,k<r.dims.length→r.dims[k]?.getD 0=(dN r k:Int)∧dN r k≤4:=by
  intro k hk;have:=hd2 _ (tG 0 hk);unfold dN;omega
 have hs: ∀ i,i<r.q.src.length→r.q.src[i]?.getD 0=(sV r i:Int)∧sV r i<r.dims.length:=by
  intro i hi;have:=hq3 _ (tG 0 hi);unfold sV;omega
 have ht: ∀ i,i<r.q.src.length→r.q.tgt[i]?.getD 0=(tV r i:Int)∧tV r i<r.dims.length:=by
  intro i hi;have:=hq4 _ (tG 0 (show i<r.q.tgt.length by omega));unfold tV;omega
 refine ⟨hp,by omega,hd,hq2,by omega,hml,hs,ht,λi hi=>?_⟩;obtain ⟨g1,g2,g3⟩:=hM i (by omega);rw [show (r.q.src[i]?.getD 0).toNat=sV r i from rfl,(hd _ (hs i hi).2).1] at g2;rw [show (r.q.tgt[i]?.getD 0).toNat=tV r i from rfl,(hd _ (ht i hi).2).1] at g3;obtain ⟨_,a,b,F,ha,hb,he,hF⟩:=aPO g1;have ea:a=dN r (tV r i):=by rw [he] at g3;simp only at g3;omega
 have eb:b=dN r (sV r i):=by rw [he] at g2;simp only at g2;omega
 have em: ∀ j k,j<a→k<b→aF r i j k=F j k:=by
  intro j k hj hk;unfold aF;rw [he,←eb];simp only;rw [qJ F hj hk];rfl
 subst ea;subst eb;rw [he];refine ⟨?_,λj k hj hk=>by rw [em j k hj hk];exact hF j k hj hk⟩;rw [dG em]
structure Fit (a b:Rp):Prop where
 ra:Rv a
 rb:Rv b
 pe:b.p=a.p
 qe:b.q=a.q
 ne:b.dims.length=a.dims.length
theorem aPW {a b:Rp} (h1:sI a=true) (h2:sI b=true) (hp:a.p=b.p) (hq:a.q=b.q):Fit a b:=by
 refine ⟨aVp h1,aVp h2,hp.symm,hq.symm,?_⟩;have e1:=(uC (aDX h1).2.1).2.1;have e2:=(uC (aDX h2).2.1).2.1;rw [hq] at e1;omega
theorem Fit.sV {a b:Rp} (h:Fit a b) (i:Nat):sV b i=sV a i:=by unfold Proofs.YtilpfdokmlanjaaGreat.sV;rw [h.qe]
theorem Fit.tV {a b:Rp} (h:Fit a b) (i:Nat):tV b i=tV a i:=by unfold Proofs.YtilpfdokmlanjaaGreat.tV;rw [h.qe]
def lV (a b:Rp) (v:Nat):Nat:=dN b v*dN a v
def lE (a b:Rp) (i:Nat):Nat:=dN b (tV a i)*dN a (sV a i)
theorem aPX {l:Nat→Nat} {c:Nat} : ∀ {k:Nat},(∀ i,i<k→l i≤c)→off l k≤c*k
 |0,_=>Nat.zero_le _
 |k+1,h=>by
  have h1:=aPX (c:=c) (k:=k) λi hi=>h i (by omega);have h2:=h k (by omega);show off l k+l k≤c*(k+1);rw [Nat.mul_succ];omega
theorem Fit.lV {a b:Rp} (h:Fit a b) {v:Nat} (hv:v<a.dims.length):lV a b v≤16:=Nat.mul_le_mul (h.rb.d v (by rw [h.ne];exact hv)).2 (h.ra.d v hv).2
theorem Fit.lE {a b:Rp} (h:Fit a b) {i:Nat} (hi:i<a.q.src.length):lE a b i≤16:=Nat.mul_le_mul (h.rb.d _ (by rw [h.ne];exact (h.ra.t i hi).2)).2 (h.ra.d _ (h.ra.s i hi).2).2
theorem Fit.offV {a b:Rp} (h:Fit a b) {v:Nat} (hv:v≤a.dims.length):off (Proofs.YtilpfdokmlanjaaGreat.lV a b) v≤80:=by
 have:=aPX (l:=Proofs.YtilpfdokmlanjaaGreat.lV a b) (c:=16) (k:=v) λi hi=>h.lV (by omega);have:=h.ra.n5;omega
theorem Fit.offE {a b:Rp} (h:Fit a b) {i:Nat} (hi:i≤a.q.src.length):off (Proofs.YtilpfdokmlanjaaGreat.lE a b) i≤96:=by
 have:=aPX (l:=Proofs.YtilpfdokmlanjaaGreat.lE a b) (c:=16) (k:=i) λj hj=>h.lE (by omega);have:=h.ra.e6;omega
theorem zT {α:Type} {f:Nat→α} {n k:Nat} (h:k<n):cO ((List.range n).map f) (k:Int)=some (f k):=by rw [dJ (by simp;exact h)];simp
theorem yB {α:Type} {f:Nat→α} {k:Nat} :(List.range k).map f++[f k]=(List.range (k+1)).map f:=by rw [List.range_succ,List.map_append];rfl
theorem aUx {a b:Rp} (h:Fit a b):aAj a b=some ((List.range a.dims.length).map λv=>(⟨dN b v,dN a v,cK (dN b v) (dN a v) λ_ _=>0⟩:Mt)):=by
 have n5:=h.ra.n5;unfold aAj;rw [dQ (r:=(List.range a.dims.length).map λv=>(⟨dN b v,dN a v,cK (dN b v) (dN a v) λ_ _=>0⟩:Mt)) (λk=>((List.range k).map λv=>(⟨dN b v,dN a v,cK (dN b v) (dN a v) λ_ _=>0⟩:Mt),(k:Int))) a.dims.length (by simp) (λk hk=>?_) (λ_=>?_),aC]
 ·have hkb:k<b.dims.length:=by rw [h.ne];exact hk
  unfold wT;simp only;rw [iE hk,aM,vG 0 hk,aC,vG 0 hkb,aC,(h.ra.d k hk).1,(h.rb.d k hkb).1,aEw (sq (h.rb.d k hkb).2 (h.ra.d k hk).2),aC,bG (by simp;omega),aM,bU hk (by omega),yB (f:=λv=>(⟨dN b v,dN a v,cK (dN b v) (dN a v) λ_ _=>0⟩:Mt))]
 ·unfold wT;simp only;rw [iT (bO _),aX]
theorem aJJ {a b:Rp} (h:Fit a b):pS a b=some ((List.range a.q.src.length).map λi=>(⟨dN b (tV a i),dN a (sV a i),cK (dN b (tV a i)) (dN a (sV a i)) λ_ _=>0⟩:Mt)):=by
 have e6:=h.ra.e6;have tl:=h.ra.tl;unfold pS;rw [dQ (r:=(List.range a.q.src.length).map λi=>(⟨dN b (tV a i),dN a (sV a i),cK (dN b (tV a i)) (dN a (sV a i)) λ_ _=>0⟩:Mt)) (λk=>((List.range k).map λi=>(⟨dN b (tV a i),dN a (sV a i),cK (dN b (tV a i)) (dN a (sV a i)) λ_ _=>0⟩:Mt),(k:Int))) a.q.src.length (by simp) (λk hk=>?_) (λ_=>?_),aC]
 ·obtain ⟨s1,s2⟩:=h.ra.s k hk;obtain ⟨t1,t2⟩:=h.ra.t k hk;have t3:tV a k<b.dims.length:=by rw [h.ne];exact t2
  unfold mJ;simp only;rw [iE hk,aM,vG 0 hk,aC,vG 0 (by omega),aC,t1,vG 0 t3,aC,s1,vG 0 s2,aC,(h.ra.d _ s2).1,(h.rb.d _ t3).1,aEw (sq (h.rb.d _ t3).2 (h.ra.d _ s2).2),aC,bG (by simp;omega),aM,bU hk (by omega),yB (f:=λi=>(⟨dN b (tV a i),dN a (sV a i),cK (dN b (tV a i)) (dN a (sV a i)) λ_ _=>0⟩:Mt))]
 ·unfold mJ;simp only;rw [iT (bO _),aX]
theorem aMI {k:Nat} {r c:Nat→Int} {l:Nat→Nat} {f:Nat→Nat→Int} (hk:k≤1048576) (hl:off l k≤1048576):kT ((List.range k).map λv=>(⟨r v,c v,(List.range (l v)).map (f v)⟩:Mt))=some (cat l f k):=by
 unfold kT;rw [dQ (r:=cat l f k) (λj=>(cat l f j,(j:Int))) k (by simp [cat]) (λj hj=>?_) (λ_=>?_),aC]
 ·unfold xX;simp only;have h1:= @aBq l (j+1) k hj;have e:off l (j+1)=off l j+l j:=rfl;rw [fD,List.length_range,iE hj,aM,zT hj,aC];simp only;rw [jA,fD,List.length_range,bG (by omega),aM,bU hj (by omega)];rfl
 ·unfold xX;simp only;rw [fD,List.length_range,iT (bO _),aX]
theorem aNl {k:Nat} {r c:Nat→Int} {z:Nat→List Int} {l:Nat→Nat} {f:Nat→Nat→Int} (hk:k≤1048576) (hl:off l k≤1048576) (hz: ∀ v,v<k→(z v).length=l v):sW ((List.range k).map λv=>(⟨r v,c v,z v⟩:Mt)) (cat l f k)=some ((List.range k).map λv=>(⟨r v,c v,(List.range (l v)).map (f v)⟩:Mt)):=by
 unfold sW;rw [dQ (r:=(List.range k).map λv=>(⟨r v,c v,(List.range (l v)).map (f v)⟩:Mt)) (λj=>((cat l f k).drop (off l j),(List.range j).map (λv=>(⟨r v,c v,(List.range (l v)).map (f v)⟩:Mt)),(j:Int))) k (by simp [off]) (λj hj=>?_) (λ_=>?_),aC]
 ·unfold uT;simp only;have h1:= @aBq l (j+1) k hj;have e:off l (j+1)=off l j+l j:=rfl;rw [fD,List.length_range,iE hj,aM,zT hj,aC];simp only;rw [hz j hj,List.length_drop,jA];simp only [dH,Int.toNat_zero,List.drop_zero,Nat.sub_zero];rw [aTP hj];unfold hO;rw [bG (by omega:(0:Int)≤((l j:Nat):Int)),bG (by omega:((l j:Nat):Int)≤((off l k - off l j:Nat):Int))];simp only [decide_true,Bool.and_self,aM,Int.le_refl];have q1:decide (((List.range (l j)).map (f j)).length ≤1048576)=true:=bG (by simp only [fD,List.length_range];omega);have q2:decide (((List.range j).map λv=>(⟨r v,c v,(List.range (l v)).map (f v)⟩:Mt)).length +1≤4294967296)=true:=bG (by simp only [fD,List.length_range];omega);simp only [q1,Bool.and_self,aM,aC];rw [q2,aM,bU hj (by omega),yB (f:=λv=>(⟨r v,c v,(List.range (l v)).map (f v)⟩:Mt)),List.drop_drop,List.take_of_length_le (by simp [jA];omega)];rfl
 ·unfold uT;simp only;rw [fD,List.length_range,iT (bO _),aX]
theorem aWQ {p:Int} (hp:isF p=true) {r c:Nat} (hN:r*c≤1048576) {r' c':Int} {F G:Nat→Nat→Int} (hF:InP p r c F) (hG:InP p r c G) {k:Int} (hk:0≤k∧k≤5):
  aBb p ⟨r,c,cK r c F⟩ k ⟨r',c',cK r c G⟩=some ⟨r,c,cK r c λi j=>(F i j+k*G i j) % p⟩:=by
 have e1: ∀ H:Nat→Nat→Int,cK r c H=cK 1 (r*c) (λ_ y=>H (y / c) (y % c)):=by
  intro H;unfold cK;rw [Nat.one_mul];refine kC λy hy=>?_;rw [Nat.mod_eq_of_lt (List.mem_range.1 hy)]
 have e2:cK r c G=tX (r*c) (λy=>G (y / c) (y % c)):=rfl;unfold aBb gY hO;simp only;rw [jT,bG hN,aM,aC,aC];simp only;have:=aNf hp (r:=1) (c:=r*c) (i:=0) hN (by omega) (F:=λ_ y=>F (y / c) (y % c)) (g:=λy=>G (y / c) (y % c)) hk (λy hy=>hF _ _ (aEx hy).1 (aEx hy).2) (λy hy=>hG _ _ (aEx hy).1 (aEx hy).2);rw [Nat.zero_mul,←e2,←e1] at this;rw [jT,this,aC,jT,Nat.one_mul,bG rfl,aM,e1 (λi j=>(F i j+k*G i j) % p)];congr 2;refine dG λa y ha hy=>?_;unfold aKG;rw [aY (by omega)]
def aMJ (a b:Rp) (P:Nat→Nat→Nat→Int) (i:Nat):Nat→Nat→Int:=λr k=>
 (aGj a.p (dN b (sV a i)) (aF b i) (P (sV a i)) r k+(a.p - 1)*aGj a.p (dN a (tV a i)) (P (tV a i)) (aF a i) r k) % a.p
theorem aMK {a b:Rp} (h:Fit a b) {P:Nat→Nat→Nat→Int} (hP: ∀ v,v<a.dims.length→InP a.p (dN b v) (dN a v) (P v)):
  tH a b ((List.range a.dims.length).map λv=>(⟨dN b v,dN a v,cK (dN b v) (dN a v) (P v)⟩:Mt))=some ((List.range a.q.src.length).map λi=>(⟨dN b (tV a i),dN a (sV a i),cK (dN b (tV a i)) (dN a (sV a i)) (aMJ a b P i)⟩:Mt)):=by
 have e6:=h.ra.e6;have tl:=h.ra.tl;have hb:=mH h.ra.hp;unfold tH;rw [dQ (r:=(List.range a.q.src.length).map λi=>(⟨dN b (tV a i),dN a (sV a i),cK (dN b (tV a i)) (dN a (sV a i)) (aMJ a b P i)⟩:Mt)) (λk=>((List.range k).map λi=>(⟨dN b (tV a i),dN a (sV a i),cK (dN b (tV a i)) (dN a (sV a i)) (aMJ a b P i)⟩:Mt),(k:Int))) a.q.src.length (by simp) (λk hk=>?_) (λ_=>?_),aC]
 ·obtain ⟨s1,s2⟩:=h.ra.s k hk;obtain ⟨t1,t2⟩:=h.ra.t k hk;have s3:sV a k<b.dims.length:=by rw [h.ne];exact s2
  have t3:tV a k<b.dims.length:=by rw [h.ne];exact t2
  have hkb:k<b.q.src.length:=by rw [h.qe];exact hk
  obtain ⟨m1,m2⟩:=h.ra.m k hk;obtain ⟨g1,g2⟩:=h.rb.m k hkb;rw [h.sV,h.tV] at g1 g2;rw [h.pe] at g2;have da:=h.ra.d _ s2;have da2:=h.ra.d _ t2;have db:=h.rb.d _ s3;have db2:=h.rb.d _ t3;unfold oO;simp only;rw [iE hk,aM,vG 0 hk,aC,vG ⟨0,0,[]⟩ (by rw [h.rb.ml];exact hkb),aC,g1,s1,zT s2,aC];rw [aQc h.ra.hp (sq db2.2 db.2) (sq db.2 da.2) (sq db2.2 da.2) (by omega) (by omega) (by omega) g2 (hP _ s2),aC,vG 0 (by omega),aC,t1,zT t2,aC,vG ⟨0,0,[]⟩ (by rw [h.ra.ml];exact hk),aC,m1];rw [aQc h.ra.hp (sq db2.2 da2.2) (sq da2.2 da.2) (sq db2.2 da.2) (by omega) (by omega) (by omega) (hP _ t2) m2,aC,cY (by omega)];rw [aWQ h.ra.hp (sq db2.2 da.2) (aQb h.ra.hp _ _ _ _ _) (aQb h.ra.hp _ _ _ _ _) (by omega),aC,bG (by simp;omega),aM,bU hk (by omega)];have:=yB (f:=λi=>(⟨dN b (tV a i),dN a (sV a i),cK (dN b (tV a i)) (dN a (sV a i)) (aMJ a b P i)⟩:Mt)) (k:=k);rw [←this];rfl
 ·unfold oO;simp only;rw [iT (bO _),aX]
theorem aEa {R N:Nat} (hN:R*N≤1048576) (h1:R≤1048576) (h2:N≤1048576) (M:Nat→Nat→Int):nH R ((List.range N).map λk=>tX R λi=>M i k)=some ⟨R,N,cK R N M⟩:=by
 unfold nH;rw [fD,List.length_range,aEw hN,aC];simp only;rw [dQ (r:=cK R N M) (λk=>(cK R N (λi j=>if j<k then M i j else 0),(k:Int))) N (by simp) (λk hk=>?_) (λ_=>?_),aC]
 ·unfold nU;simp only;rw [fD,List.length_range,iE hk,aM,zT hk,aC];rw [dQ (r:=cK R N (λi j=>if j<k+1 then M i j else 0)) (λx=>(cK R N (λi j=>if j<k∨(j=k∧i<x) then M i j else 0),(x:Int))) R (by simp) (λx hx=>?_) (λ_=>?_),aC,bU hk (by omega)]
  ·unfold nT;simp only;rw [oN,iE hx,aM,aII _ hx,aC,atT hN hx hk,aC,aPR hN hx hk,bU hx (by omega)];congr 3;refine dG λi j hi hj=>?_;simp only [aFW];by_cases e:i=x∧j=k
   ·rw [aY e,aY (by omega),e.1,e.2]
   ·rw [aW e];by_cases e2:j<k∨j=k∧i<x
    ·rw [aY e2,aY (by omega)]
    ·rw [aW e2,aW (by omega)]
  ·unfold nT;simp only;rw [oN,iT (bO _),aX];congr 2;refine dG λi j hi hj=>?_;by_cases e:j<k+1
   ·rw [aY e,aY (by omega)]
   ·rw [aW e,aW (by omega)]
 ·unfold nU;simp only;rw [fD,List.length_range,iT (bO _),aX];congr 2;exact dG λi j hi hj=>by rw [aY hj]
def eF (a b:Rp) (i r k v j l:Nat):Int:=((if sV a i=v∧k=l then aF b i r j else 0) - (if tV a i=v∧r=j then aF a i l k else 0)) % a.p
def e2 (a b:Rp) (i y v z:Nat):Int:=eF a b i (y / dN a (sV a i)) (y % dN a (sV a i)) v (z / dN a v) (z % dN a v)
def mE (a b:Rp):Nat→Nat→Int:=λx k=>(cat (lE a b) (λi y=>(cat (lV a b) (e2 a b i y) a.dims.length)[k]?.getD 0) a.q.src.length)[x]?.getD 0
def nE (a b:Rp):Nat:=off (lE a b) a.q.src.length
def nV (a b:Rp):Nat:=off (lV a b) a.dims.length
theorem aVq {a b:Rp} (h:Fit a b):InP a.p (nE a b) (nV a b) (mE a b):=by
 intro x k hx hk;obtain ⟨i,y,hi,hy,rfl⟩:=aFo hx;obtain ⟨v,z,hv,hz,rfl⟩:=aFo hk;unfold mE;rw [uU _ hi hy,rD,uU _ hv hz,rD];exact aBZ h.ra.hp
theorem aML (F G:Nat→Nat→Int) (i j:Nat): ∀ k,aPT F G i j k=sN (λt=>F i t*G t j) k
 |0=>rfl
 |k+1=>by rw [aPT,sN,aML F G i j k]
def unP (a:Rp) (v0 z0:Nat):Nat→Nat→Nat→Int:=λv j l=>if v=v0∧j*dN a v+l=z0 then 1 else 0
theorem aWR {a:Rp} (hp:isF a.p=true) (v0 z0 v m n:Nat):InP a.p m n (unP a v0 z0 v):=by
 have hb:=mH hp;intro i j _ _;unfold unP;split <;> omega
theorem aTR {a b:Rp} (h:Fit a b) {v0 z0 i r k:Nat} (hv:v0<a.dims.length) (hz:z0<lV a b v0) (hi:i<a.q.src.length) (hr:r<dN b (tV a i)) (hk:k<dN a (sV a i)):
  aMJ a b (unP a v0 z0) i r k=eF a b i r k v0 (z0 / dN a v0) (z0 % dN a v0):=by
 have hb:=mH h.ra.hp;obtain ⟨hj0,hl0⟩:=aEx hz
 have key: ∀ v j l,l<dN a v→(v=v0∧j*dN a v+l=z0↔v=v0∧j=z0 / dN a v0∧l=z0 % dN a v0):=by
  intro v j l hl;constructor
  ·rintro ⟨rfl,rfl⟩;exact ⟨rfl,(aCj hl).symm,(aCk hl).symm⟩
  ·rintro ⟨rfl,rfl,rfl⟩;exact ⟨rfl,aBc⟩
 have e1:aGj a.p (dN b (sV a i)) (aF b i) (unP a v0 z0 (sV a i)) r k=(if sV a i=v0∧k=z0 % dN a v0 then aF b i r (z0 / dN a v0) else 0) % a.p:=by
  unfold aGj;rw [aML];by_cases e:sV a i=v0∧k=z0 % dN a v0
  ·rw [aY e,aPV (j:=z0 / dN a v0) (by rw [e.1];exact hj0)]
   ·unfold unP;rw [aY ((key _ _ _ hk).2 ⟨e.1,rfl,e.2⟩),Int.mul_one]
   ·intro t ht htj;unfold unP;rw [aW λg=>htj ((key _ _ _ hk).1 g).2.1,Int.mul_zero]
  ·rw [aW e,aFn (g:=λ_=>0),aIJ];intro t ht;unfold unP;rw [aW λg=>e ⟨((key _ _ _ hk).1 g).1,((key _ _ _ hk).1 g).2.2⟩,Int.mul_zero]
 have e2:aGj a.p (dN a (tV a i)) (unP a v0 z0 (tV a i)) (aF a i) r k=(if tV a i=v0∧r=z0 / dN a v0 then aF a i (z0 % dN a v0) k else 0) % a.p:=by
  unfold aGj;rw [aML];by_cases e:tV a i=v0∧r=z0 / dN a v0
  ·rw [aY e,aPV (j:=z0 % dN a v0) (by rw [e.1];exact hl0)]
   ·unfold unP;rw [aY ((key _ _ _ (by rw [e.1];exact hl0)).2 ⟨e.1,e.2,rfl⟩),Int.one_mul]
   ·intro t ht htj;unfold unP;rw [aW λg=>htj ((key _ _ _ ht).1 g).2.2,Int.zero_mul]
  ·rw [aW e,aFn (g:=λ_=>0),aIJ];intro t ht;unfold unP;rw [aW λg=>e ⟨((key _ _ _ ht).1 g).1,((key _ _ _ ht).1 g).2.1⟩,Int.zero_mul]
 unfold aMJ eF;rw [e1,e2];generalize (if sV a i=v0∧k=z0 % dN a v0 then aF b i r (z0 / dN a v0) else 0)=x;generalize (if tV a i=v0∧r=z0 / dN a v0 then aF a i (z0 % dN a v0) k else 0)=y;rw [show x % a.p+(a.p - 1)*(y % a.p)=(x % a.p - y % a.p)+a.p*(y % a.p) by rw [Int.sub_mul];omega,Int.add_mul_emod_self_left];exact (Int.sub_emod x y a.p).symm
theorem aMM {a b:Rp} (h:Fit a b):tI a b=some ⟨nE a b,nV a b,cK (nE a b) (nV a b) (mE a b)⟩:=by
 have n5:=h.ra.n5;have e6:=h.ra.e6;have bV:=h.offV (bO _);have bE:=h.offE (bO _);unfold tI;rw [aUx h,aC];have z1:kT ((List.range a.dims.length).map λv=>(⟨dN b v,dN a v,cK (dN b v) (dN a v) λ_ _=>0⟩:Mt))=some (cat (lV a b) (λ_ _=>0) a.dims.length):=aMI (l:=lV a b) (f:=λ_ _=>0) (by omega) (by omega);have z2:kT ((List.range a.q.src.length).map λi=>(⟨dN b (tV a i),dN a (sV a i),cK (dN b (tV a i)) (dN a (sV a i)) λ_ _=>0⟩:Mt))=some (cat (lE a b) (λ_ _=>0) a.q.src.length):=aMI (l:=lE a b) (f:=λ_ _=>0) (by omega) (by omega);rw [z1,aC];rw [dQ (r:=(List.range (nV a b)).map λk=>tX (nE a b) λx=>mE a b x k) (λk=>((List.range k).map (λk=>tX (nE a b) λx=>mE a b x k),(k:Int))) (nV a b) (by simp) (λk hk=>?_) (λ_=>?_),aC,aJJ h,aC,z2,aC,jA]
 ·have:=aEa (R:=nE a b) (N:=nV a b) (Nat.le_trans (Nat.mul_le_mul bE bV) (by decide)) (by unfold nE;omega) (by unfold nV;omega) (mE a b);unfold nE at this ⊢;rw [this,aC]
 ·obtain ⟨v0,z0,hv0,hz0,ek⟩:=aFo hk;unfold oP;simp only [jA];rw [show off (lV a b) a.dims.length=nV a b from rfl,iE hk,aM,bG (by omega),bG (by unfold nV;omega:((nV a b:Nat):Int)≤1048576),Bool.and_self,aM,dH,dH,dJ (by simp;exact hk),aC]
  have eu:(List.replicate (nV a b) (0:Int)).set k 1=cat (lV a b) (λv z=>if v=v0∧z=z0 then 1 else 0) a.dims.length:=by
   unfold nV;rw [aNk,ek,aMH hv0 hz0]
  rw [eu,aNl (l:=lV a b) (r:=λv=>(dN b v:Int)) (c:=λv=>(dN a v:Int)) (z:=λv=>cK (dN b v) (dN a v) λ_ _=>0) (by omega) (by omega) (λv _=>jT _ _ _),aC]
  have eb:((List.range a.dims.length).map λv=>(⟨dN b v,dN a v,(List.range (lV a b v)).map (λz=>if v=v0∧z=z0 then (1:Int) else 0)⟩:Mt))=(List.range a.dims.length).map λv=>(⟨dN b v,dN a v,cK (dN b v) (dN a v) (unP a v0 z0 v)⟩:Mt):=by
   refine kC λv hv=>?_;congr 1;refine aWP λy hy=>?_;unfold unP;rw [aBc]
  rw [eb,aMK h (λv _=>aWR h.ra.hp _ _ _ _ _),aC];have ef:kT ((List.range a.q.src.length).map λi=>(⟨dN b (tV a i),dN a (sV a i),cK (dN b (tV a i)) (dN a (sV a i)) (aMJ a b (unP a v0 z0) i)⟩:Mt))=some (cat (lE a b) (λi y=>aMJ a b (unP a v0 z0) i (y / dN a (sV a i)) (y % dN a (sV a i))) a.q.src.length):=aMI (l:=lE a b) (f:=λi y=>aMJ a b (unP a v0 z0) i (y / dN a (sV a i)) (y % dN a (sV a i))) (by omega) (by omega);rw [ef,aC,bG (by simp;unfold nV at hk;omega),aM,bU hk (by unfold nV;omega),←yB (f:=λk=>tX (nE a b) λx=>mE a b x k)];congr 5;symm;refine aFp (by rw [oN];rfl) λi y hi hy=>?_;have hx:off (lE a b) i+y<nE a b:=yA hi hy;unfold tX;rw [List.getElem?_map,List.getElem?_range hx,Option.map_some];congr 1;obtain ⟨q1,q2⟩:=aEx hy;rw [aTR h hv0 hz0 hi q1 q2];unfold mE;rw [uU _ hi hy,rD,ek,uU _ hv0 hz0,rD];rfl
 ·unfold oP;simp only [jA];rw [show off (lV a b) a.dims.length=nV a b from rfl,iT (bO _),aX]
theorem aVr {a b:Rp} (h:Fit a b):Tb a.p (nE a b) (nV a b) (mE a b):=by
 have bV:=h.offV (bO _);have bE:=h.offE (bO _);exact ⟨h.ra.hp,Nat.le_trans (Nat.mul_le_mul bE bV) (by decide),by unfold nE;omega,by unfold nV;omega,aVq h⟩
def aTS (a b:Rp):Nat:=nV a b - rkF a.p (nE a b) (nV a b) (mE a b)
theorem aXb {p:Int} {m n:Nat} {F:Nat→Nat→Int} :rkF p m n F≤n:=aEn n
theorem aTT {a b:Rp} (h:Fit a b):vV a b=some (aTS a b:Int):=by
 have bV:=h.offV (bO _);unfold vV;rw [aMM h,aC,aPU (aVr h),aC];have:= @aXb a.p (nE a b) (nV a b) (mE a b);have e:((fU a.p (nE a b) (mE a b) (nV a b)).2.length)=rkF a.p (nE a b) (nV a b) (mE a b):=rfl;simp only;rw [e,cY (by unfold nV at*;omega)];unfold aTS;congr 1;omega
end
end Go.Proofs.YtilpfdokmlanjaaGreat

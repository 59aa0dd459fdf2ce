/-
  Several texts of the claim in one.
-/
import Derived.Test.YtilpfdokmlanjaaGreatDoorH7
set_option linter.unusedVariables false
set_option linter.unusedSimpArgs false
namespace Go.Proofs.YtilpfdokmlanjaaGreatDoor
open Go.RowKit
noncomputable section
set_option maxRecDepth 10000
set_option maxHeartbeats 4000000
def vV (a0:Rp) (a1:Rp) (x1:((List Mt)×Int)):Option (((List Mt)×Int) ⊕ (List Mt)):=
 bif decide (x1.2<(a0.dims.length:Int)) then
 ((cP a0.dims x1.2).bind λv2=>
 (cP a1.dims x1.2).bind λv3=>
 (kG v3 v2).bind λv4=>
 bif decide (x1.1.length+1≤4294967296) then
 (some (.inl ((x1.1++[v4]),wr (x1.2+1))))
 else none)
 else
 (some (.inr x1.1))
def tC (a0:Rp) (a1:Rp):Option (List Mt):=
 (Lp (vV a0 a1) ([],0)).bind λy6=>
 some (y6)
theorem aCT (a0:Rp) (a1:Rp) (r:(List Mt)) (h:tC a0 a1=some r):HasC Tryz.prog 272 [.agg (eR a0),.agg (eR a1)] (.list 3 (r.map eM)):=by
 refine hM [.tmp 4] Tryz.func272 Tryz.ntmps272 k<|sR<|ae (wb k) k<|ae (wb k) k<|aT k2<|sR<|aT k2<|sQ<|sR<|fp k8<|lp k8<|ln k4<|am k k<|an<|tn<|aC<|oB h λy6 hy6 h=>bZ (body:=(vV a0 a1)) hy6 (λ(x1:((List Mt)×Int))=>mN [(3,.ptr 0 0 0),(5,.own 1 0 x1.1.length),(9,.list 1 (a0.dims.map eI)),(10,.int (a0.dims.length:Int)),(11,.int x1.2)] [(0,⟨6,[eR a1]⟩),(1,⟨3,x1.1.map (ow eM)⟩)] 2) (λr e t=>e= .exit 0∧Ent t (mN [(5,.own 0 0 r.length)] [(0,⟨3,r.map (ow eM)⟩)] 1)) (fP (σ:=sg [(0,1)]) (jU 1 k2 (fU ⟨_,k,⟨k,k,k,k⟩⟩ (bJ k2))) (bF k<|hX k k<|aU) k) ?_ ?_
 ·intro x1 o h;refine sR<|cm k4<|an<|tn<|sQ<|cW k h (λ_ h=>?_) λ_ h=>aX<|aB<|aB<|sp h ⟨_,k,k,(gA [1] (bJ k2) (cA (bK.plainO _) k<|aU) k4)⟩;refine aH<|tn<|sQ<|aC<|sR<|am k k<|oB h λv2 hv2 h=>ae (xl hv2 k) k<|lr k7<|aa k k<|aT k2<|rg<|am k k<|fp k8<|lp k8<|am k k<|oB h λv3 hv3 h=>ae (xl hv3 k) k<|lr k7<|am k k<|oB h λv4 hv4 h=>ae (cM (rY v3 v2 v4 hv4) k3 (cI k (cI k aN))) k<|ae (wl k) k<|cG h λq5 h=>ae (eW aO (l:=x1.1) (c:=[.int v4.rows,.int v4.cols,.own 2 0 v4.cells.length]) q5 k k k k k k k k k k k k k k) k<|aa k k<|an<|aY<|tn<|aD (t:=mN [(3,.ptr 0 0 0),(5,.own 4 0 ((x1.1++[v4]).length)),(9,.list 1 (a0.dims.map eI)),(10,.int (a0.dims.length:Int)),(11,.int x1.2)] [(0,⟨6,[eR a1]⟩),(4,⟨3,List.map (ow eM) (x1.1++[v4])⟩)] 5) (Ent.trans (dB (b:=4) (b':=2) (j:=2) (es':=v4.cells.map eI) k k k k (aG _ _) (cU.frzs _)) (bU (jU 1 k2 (fU ⟨_,k,⟨k,k,(by simp only [aG,lA,lT,lR,lC,lN]),k⟩⟩ (bJ k2))) (bF k<|hX ⟨_,k,k,.inl ⟨fD v4 k,bK.plainO _⟩⟩ k<|aU) k4)) ?_;exact rg<|ae (bG k k) k<|am k k<|an<|tn<|sp h ⟨_,k,(gA [0,4] (bJ k2) (bF k<|cA (bK.plainO _) k<|aU) k4)⟩
 ·rintro e t ⟨rfl,hent⟩;exact aM<|tn<|aD hent<|sR<|am k k<|aT k2<|aE<|sp h (bC k k k (eV (cN bK k k)))
def xF (a0:(List Mt)) (x1:((List Int)×Int)):Option (((List Int)×Int) ⊕ (List Int)):=
 bif decide (x1.2<(a0.length:Int)) then
 ((cP a0 x1.2).bind λv2=>
 bif decide (x1.1.length+v2.cells.length≤4294967296) then
 (some (.inl ((x1.1++v2.cells),wr (x1.2+1))))
 else none)
 else
 (some (.inr x1.1))
def mM (a0:(List Mt)):Option (List Int):=
 (Lp (xF a0) ([],0)).bind λy4=>
 some (y4)
theorem aDG (a0:(List Mt)) (r:(List Int)) (h:mM a0=some r):HasC Tryz.prog 273 [.list 3 (a0.map eM)] (.list 1 (r.map eI)):=by
 refine hM [.tmp 2] Tryz.func273 Tryz.ntmps273 k<|sR<|aT k2<|sR<|aT k2<|sQ<|sR<|am k k<|ln k4<|am k k<|an<|tn<|aC<|oB h λy4 hy4 h=>bZ (body:=(xF a0)) hy4 (λ(x1:((List Int)×Int))=>mN [(3,.own 0 0 x1.1.length),(6,.list 3 (a0.map eM)),(7,.int (a0.length:Int)),(8,.int x1.2)] [(0,⟨1,x1.1.map (ow eI)⟩)] 1) (λr e t=>e= .exit 0∧Ent t (mN [(3,.own 0 0 r.length)] [(0,⟨1,r.map (ow eI)⟩)] 1)) (fP (σ:=sg []) (fU ⟨_,k,⟨k,k,k,k⟩⟩ (bJ k2)) (hX k k<|aU) k) ?_ ?_
 ·intro x1 o h;exact sR<|cm k4<|an<|tn<|sQ<|cW k h (λ_ h=>aH<|tn<|sQ<|aC<|sR<|oB h λv2 hv2 h=>ae (xl hv2 k) k<|lr k7<|ae (bX aO k k) k<|ae (ws k) k<|an<|tn<|rg<|am k k<|fp k8<|lp k8<|cG h λq3 h=>ae (oH aO (l:=x1.1) (m:=v2.cells) jT q3 k k k k k k k k k k k k) k<|aa k k<|an<|aY<|tn<|rg<|ae (bG k k) k<|am k k<|an<|tn<|sp h ⟨_,k,(gA [2] (bJ k2) (bO k<|aU) k4)⟩) λ_ h=>aX<|aB<|aB<|sp h ⟨_,k,k,(bU (bJ k2) (bO k<|aU) k4)⟩
 ·rintro e t ⟨rfl,hent⟩;exact aM<|tn<|aD hent<|sR<|am k k<|aT k2<|aE<|sp h (bC k k k (eV (cN cU k k)))
def tD (a0:(List Mt)) (x1:((List Int)×(List Mt)×Int)):Option (((List Int)×(List Mt)×Int) ⊕ (List Mt)):=
 bif decide (x1.2.2<(a0.length:Int)) then
 ((cP a0 x1.2.2).bind λv2=>
 bif (decide (0≤0)&&(decide (0≤(v2.cells.length:Int))&&decide ((v2.cells.length:Int)≤(x1.1.length:Int)))) then
 ((nJ ((x1.1.drop (0:Int).toNat).take ((v2.cells.length:Int).toNat - (0:Int).toNat))).bind λv4=>
 bif decide (x1.2.1.length+1≤4294967296) then
 (bif (decide (0≤(v2.cells.length:Int))&&(decide ((v2.cells.length:Int)≤(x1.1.length:Int))&&decide ((x1.1.length:Int)≤(x1.1.length:Int)))) then
 (some (.inl (((x1.1.drop (v2.cells.length:Int).toNat).take ((x1.1.length:Int).toNat - (v2.cells.length:Int).toNat)),(x1.2.1++[(⟨v2.rows,v2.cols,v4⟩:Mt)]),wr (x1.2.2+1))))
 else none)
 else none)
 else none)
 else
 (some (.inr x1.2.1))
def qM (a0:(List Mt)) (a1:(List Int)):Option (List Mt):=
 (Lp (tD a0) (a1,[],0)).bind λy7=>
 some (y7)
theorem aED (a0:(List Mt)) (a1:(List Int)) (r:(List Mt)) (h:qM a0 a1=some r):HasC Tryz.prog 275 [.list 3 (a0.map eM),.list 1 (a1.map eI)] (.list 3 (r.map eM)):=by
 refine hM [.tmp 4] Tryz.func275 Tryz.ntmps275 k<|sR<|aT k2<|sR<|aT k2<|sQ<|sR<|am k k<|ln k4<|am k k<|an<|tn<|aC<|oB h λy7 hy7 h=>bZ (body:=(tD a0)) hy7 (λ(x1:((List Int)×(List Mt)×Int))=>mN [(1,.list 1 (x1.1.map eI)),(5,.own 0 0 x1.2.1.length),(9,.list 3 (a0.map eM)),(10,.int (a0.length:Int)),(11,.int x1.2.2)] [(0,⟨3,x1.2.1.map (ow eM)⟩)] 1) (λr e t=>e= .exit 0∧Ent t (mN [(5,.own 0 0 r.length)] [(0,⟨3,r.map (ow eM)⟩)] 1)) (fP (σ:=sg []) (jU 1 k2 (fU ⟨_,k,⟨k,k,k,k⟩⟩ (bJ k2))) (hX k k<|aU) k) ?_ ?_
 ·intro x1 o h;refine sR<|cm k4<|an<|tn<|sQ<|cW k h (λ_ h=>?_) λ_ h=>aX<|aB<|aB<|sp h ⟨_,k,k,(bU (bJ k2) (cA (bK.plainO _) k<|aU) k4)⟩;refine aH<|tn<|sQ<|aC<|sR<|oB h λv2 hv2 h=>ae (xl hv2 k) k<|lr k7<|ae (bX aO k k) k<|ae (ws k) k<|an<|tn<|sR<|fp k8<|lp k8<|ln k4<|aT k2<|sQ<|aP eP<|am k k<|fp k8<|lp k8<|fp k8<|lp k8<|am k k<|am k k ?_;exact cG h λq3 h=>ae (aCN aO (l0:=x1.1) (l:=0) (h:=(v2.cells.length:Int)) q3 k k k k k k k) k<|oB h λv4 hv4 h=>ae (cL cU (aCO ((x1.1.drop (0:Int).toNat).take ((v2.cells.length:Int).toNat - (0:Int).toNat)) v4 hv4) k3 (cI k aN)) k<|ae (gC aO k k k k k k) k<|ae (wl k) k<|cG h λq5 h=>ae (eW aO (l:=x1.2.1) (c:=[.int v2.rows,.int v2.cols,.own 2 0 v4.length]) q5 k k k k k k k k k k k k k k) k<|aa k k<|an<|lL (by kernel_rfl)<|tn<|aD (t:=mN [(1,.list 1 (x1.1.map eI)),(5,.own 4 0 ((x1.2.1++[(⟨v2.rows,v2.cols,v4⟩:Mt)]).length)),(8,.int (v2.cells.length:Int)),(9,.list 3 (a0.map eM)),(10,.int (a0.length:Int)),(11,.int x1.2.2)] [(4,⟨3,List.map (ow eM) (x1.2.1++[(⟨v2.rows,v2.cols,v4⟩:Mt)])⟩)] 5) (Ent.trans (dB (b:=4) (b':=2) (j:=2) (es':=v4.map eI) k k k k (aG _ _) (cU.frzs _)) (bU (jU 1 k2 (fU ⟨_,k,⟨k,k,(by simp only [aG,lA,lT,lR,lC,lN]),k⟩⟩ (bJ k2))) (hX ⟨_,k,k,.inl ⟨fD (⟨v2.rows,v2.cols,v4⟩:Mt) k,bK.plainO _⟩⟩ k<|aU) k4))<|rg<|am k k<|am k k<|cG h λq6 h=>ae (aCN aO (l0:=x1.1) (l:=(v2.cells.length:Int)) (h:=(x1.1.length:Int)) q6 k k k k k k k) k<|aa k k<|an<|aY<|tn<|rg<|ae (bG k k) k<|am k k<|an<|tn<|sp h ⟨_,k,(gA [4] (bJ k2) (cA (bK.plainO _) k<|aU) k4)⟩
 ·rintro e t ⟨rfl,hent⟩;exact aM<|tn<|aD hent<|sR<|am k k<|aT k2<|aE<|sp h (bC k k k (eV (cN bK k k)))
def aBO (a0:Int) (a1:Mt) (a2:Int) (a3:Mt):Option Mt:=
 (gB a1).bind λv1=>
 (gN a0 v1.cells 0 v1.cells.length a2 a3.cells).bind λv2=>
 bif decide (v2.length=v1.cells.length) then
 (some ((⟨v1.rows,v1.cols,v2⟩:Mt)))
 else none
theorem aNX (a0:Int) (a1:Mt) (a2:Int) (a3:Mt) (r:Mt) (h:aBO a0 a1 a2 a3=some r):HasC Tryz.prog 314 [.int a0,.agg (eM a1),.int a2,.agg (eM a3)] (.agg (eM r)):=by
 refine hM [.cell 8 130] Tryz.func314 Tryz.ntmps314 k<|sR<|ae (wb k) k<|ae (wb k) k<|ae (bX aO k k) k<|an<|tn<|sR<|lp k8<|oB h λv1 hv1 h=>ae (cM (uN a1 v1 hv1) k3 (aI (eD k) aN)) k<|ae (bX aO k k) k<|ae (ws k) k<|an<|tn<|sR<|am k k<|fp k8<|lp k8<|am k k<|fp k8<|lp k8<|oB h λv2 hv2 h=>ae (qF (σ:=sg [(0,3)]) (σ':=sg [(3,0)]) (touch:=[3]) (news:=[]) (hl2:=[(3,⟨1,v2.map (ow eI)⟩)]) (n':=5) (r2:= .own 3 0 v1.cells.length) (wL a0 v1.cells 0 v1.cells.length a2 a3.cells v2 hv2) k k ⟨_,_,k,k,⟨_,_,k,⟨k,k,k,k⟩,⟨_,_,k,k,⟨_,_,k,⟨k,k⟩,k⟩⟩⟩⟩ ⟨⟨_,k,k,.inl ⟨k,cU.plainO _⟩⟩,k,aU⟩ k k k ⟨⟨_,k,k,.inl ⟨k,cU.plainO _⟩⟩,k,aU⟩ k ⟨k,k,(by simp only [aG,lA,lT,lR,lC,lN]),k⟩ k ⟨k,cU.tame _ _,aU⟩ k k) k<|cG h λq3 h=>an<|tn<|sR<|lp k8 ?_;exact ae (ws k) k<|an<|tn<|aE<|sp h (bC k k k (gW (aZ (k) (aZ (k) (aZ (cN cU k (by first|rfl|simp only [List.length_set,of_decide_eq_true q3])) eJ)))))
def mO (a0:Rp) (a1:Rp) (a2:(List Mt)) (x1:((List Mt)×Int)):Option (((List Mt)×Int) ⊕ (List Mt)):=
 bif decide (x1.2<(a0.q.src.length:Int)) then
 ((cP a0.q.src x1.2).bind λv2=>
 (cP a1.maps x1.2).bind λv3=>
 (cP a2 v2).bind λv4=>
 (mJ a0.p v3 v4).bind λv5=>
 (cP a0.q.tgt x1.2).bind λv6=>
 (cP a2 v6).bind λv7=>
 (cP a0.maps x1.2).bind λv8=>
 (mJ a0.p v7 v8).bind λv9=>
 (aBO a0.p v5 (wr (a0.p - 1)) v9).bind λv10=>
 bif decide (x1.1.length+1≤4294967296) then
 (some (.inl ((x1.1++[v10]),wr (x1.2+1))))
 else none)
 else
 (some (.inr x1.1))
def qZ (a0:Rp) (a1:Rp) (a2:(List Mt)):Option (List Mt):=
 (Lp (mO a0 a1 a2) ([],0)).bind λy12=>
 some (y12)
theorem aFN (a0:Rp) (a1:Rp) (a2:(List Mt)) (r:(List Mt)) (h:qZ a0 a1 a2=some r):HasC Tryz.prog 274 [.agg (eR a0),.agg (eR a1),.list 3 (a2.map eM)] (.list 3 (r.map eM)):=by
 refine hM [.tmp 6] Tryz.func274 Tryz.ntmps274 k<|sR<|ae (wb k) k<|ae (wb k) k<|aT k2<|sR<|aT k2<|sQ<|sR<|fp k8<|fp k8<|lp k8<|ln k4<|am k k<|an<|tn<|aC<|oB h λy12 hy12 h=>bZ (body:=(mO a0 a1 a2)) hy12 (λ(x1:((List Mt)×Int))=>mN [(2,.list 3 (a2.map eM)),(3,.ptr 0 0 0),(4,.ptr 1 0 0),(7,.own 2 0 x1.1.length),(13,.list 1 (a0.q.src.map eI)),(14,.int (a0.q.src.length:Int)),(15,.int x1.2)] [(0,⟨6,[eR a0]⟩),(1,⟨6,[eR a1]⟩),(2,⟨3,x1.1.map (ow eM)⟩)] 3) (λr e t=>e= .exit 0∧Ent t (mN [(7,.own 0 0 r.length)] [(0,⟨3,r.map (ow eM)⟩)] 1)) (fP (σ:=sg [(0,0),(1,1)]) (jU 3 k2 (fU ⟨_,k,⟨k,k,k,k⟩⟩ (bJ k2))) (bF k<|bF k<|hX k k<|aU) k) ?_ ?_
 ·intro x1 o h;refine sR<|cm k4<|an<|tn<|sQ<|cW k h (λ_ h=>?_) λ_ h=>aX<|aB<|aB<|sp h ⟨_,k,k,(gA [2] (bJ k2) (cA (bK.plainO _) k<|aU) k4)⟩;refine aH<|tn<|sQ<|aC<|sR<|am k k<|oB h λv2 hv2 h=>ae (xl hv2 k) k<|lr k7<|aa k k<|aT k2<|sQ<|aP eP<|fp k8<|lp k8<|fp k8<|lp k8<|am k k<|oB h λv3 hv3 h=>ae (xl hv3 k) k<|lr k7<|am k k<|am k k<|oB h λv4 hv4 h=>ae (xl hv4 k) k<|lr k7<|oB h λv5 hv5 h=>ae (cM (xD a0.p v3 v4 v5 hv5) k3 (cI k (aI (eD k) (aI (eD k) aN)))) k<|ae (bX aO k k) k<|ae (ws k) k ?_;refine an<|lL (by kernel_rfl)<|tn<|aP eP<|am k k<|fp k8<|lp k8<|lp k8<|fp k8<|lp k8<|ae (uS k k) k<|fp k8<|lp k8<|am k k<|fp k8<|fp k8<|lp k8<|am k k<|oB h λv6 hv6 h=>ae (xl hv6 k) k<|lr k7<|oB h λv7 hv7 h=>ae (xl hv7 k) k<|lr k7<|fp k8<|lp k8<|am k k<|oB h λv8 hv8 h=>ae (xl hv8 k) k<|lr k7<|oB h λv9 hv9 h=>ae (cM (xD a0.p v7 v8 v9 hv9) k3 (cI k (aI (eD k) (aI (eD k) aN)))) k<|oB h λv10 hv10 h=>ae (cM (aNX a0.p v5 (wr (a0.p - 1)) v9 v10 hv10) k3 (cI k (aI (vaM k2) (cI k (aI (vaM k2) aN))))) k<|ae (wl k) k ?_;exact cG h λq11 h=>ae (eW aO (l:=x1.1) (c:=[.int v10.rows,.int v10.cols,.own 6 0 v10.cells.length]) q11 k k k k k k k k k k k k k k) k<|aa k k<|an<|lL (by kernel_rfl)<|aY<|tn<|aD (t:=mN [(2,.list 3 (a2.map eM)),(3,.ptr 0 0 0),(4,.ptr 1 0 0),(7,.own 8 0 ((x1.1++[v10]).length)),(13,.list 1 (a0.q.src.map eI)),(14,.int (a0.q.src.length:Int)),(15,.int x1.2)] [(0,⟨6,[eR a0]⟩),(1,⟨6,[eR a1]⟩),(8,⟨3,List.map (ow eM) (x1.1++[v10])⟩)] 9) (Ent.trans (dB (b:=8) (b':=6) (j:=2) (es':=v10.cells.map eI) k k k k (aG _ _) (cU.frzs _)) (bU (jU 3 k2 (fU ⟨_,k,⟨k,k,(by simp only [aG,lA,lT,lR,lC,lN]),k⟩⟩ (bJ k2))) (bF k<|bF k<|hX ⟨_,k,k,.inl ⟨fD v10 k,bK.plainO _⟩⟩ k<|aU) k4))<|rg<|ae (bG k k) k<|am k k<|an<|tn<|sp h ⟨_,k,(gA [0,1,8] (bJ k2) (bF k<|bF k<|cA (bK.plainO _) k<|aU) k4)⟩
 ·rintro e t ⟨rfl,hent⟩;exact aM<|tn<|aD hent<|sR<|am k k<|aT k2<|aE<|sp h (bC k k k (eV (cN bK k k)))
def jY (a0:Rp) (a1:Rp) (x1:((List Mt)×Int)):Option (((List Mt)×Int) ⊕ (List Mt)):=
 bif decide (x1.2<(a0.q.src.length:Int)) then
 ((cP a0.q.src x1.2).bind λv2=>
 (cP a0.q.tgt x1.2).bind λv3=>
 (cP a1.dims v3).bind λv4=>
 (cP a0.dims v2).bind λv5=>
 (kG v4 v5).bind λv6=>
 bif decide (x1.1.length+1≤4294967296) then
 (some (.inl ((x1.1++[v6]),wr (x1.2+1))))
 else none)
 else
 (some (.inr x1.1))
def nO (a0:Rp) (a1:Rp):Option (List Mt):=
 (Lp (jY a0 a1) ([],0)).bind λy8=>
 some (y8)
theorem aDt (a0:Rp) (a1:Rp) (r:(List Mt)) (h:nO a0 a1=some r):HasC Tryz.prog 276 [.agg (eR a0),.agg (eR a1)] (.list 3 (r.map eM)):=by
 refine hM [.tmp 4] Tryz.func276 Tryz.ntmps276 k<|sR<|ae (wb k) k<|ae (wb k) k<|aT k2<|sR<|aT k2<|sQ<|sR<|fp k8<|fp k8<|lp k8<|ln k4<|am k k<|an<|tn<|aC<|oB h λy8 hy8 h=>bZ (body:=(jY a0 a1)) hy8 (λ(x1:((List Mt)×Int))=>mN [(2,.ptr 0 0 0),(3,.ptr 1 0 0),(5,.own 2 0 x1.1.length),(10,.list 1 (a0.q.src.map eI)),(11,.int (a0.q.src.length:Int)),(12,.int x1.2)] [(0,⟨6,[eR a0]⟩),(1,⟨6,[eR a1]⟩),(2,⟨3,x1.1.map (ow eM)⟩)] 3) (λr e t=>e= .exit 0∧Ent t (mN [(5,.own 0 0 r.length)] [(0,⟨3,r.map (ow eM)⟩)] 1)) (fP (σ:=sg [(0,0),(1,1)]) (jU 2 k2 (fU ⟨_,k,⟨k,k,k,k⟩⟩ (bJ k2))) (bF k<|bF k<|hX k k<|aU) k) ?_ ?_
 ·intro x1 o h;refine sR<|cm k4<|an<|tn<|sQ<|cW k h (λ_ h=>?_) λ_ h=>aX<|aB<|aB<|sp h ⟨_,k,k,(gA [2] (bJ k2) (cA (bK.plainO _) k<|aU) k4)⟩;refine aH<|tn<|sQ<|aC<|sR<|am k k<|oB h λv2 hv2 h=>ae (xl hv2 k) k<|lr k7<|aa k k<|aT k2<|aP eP<|am k k<|fp k8<|lp k8<|fp k8<|fp k8<|lp k8<|am k k<|oB h λv3 hv3 h=>ae (xl hv3 k) k<|lr k7<|oB h λv4 hv4 h=>ae (xl hv4 k) k<|lr k7<|fp k8<|lp k8<|am k k<|oB h λv5 hv5 h=>ae (xl hv5 k) k ?_;exact lr k7<|oB h λv6 hv6 h=>ae (cM (rY v4 v5 v6 hv6) k3 (cI k (cI k aN))) k<|ae (wl k) k<|cG h λq7 h=>ae (eW aO (l:=x1.1) (c:=[.int v6.rows,.int v6.cols,.own 3 0 v6.cells.length]) q7 k k k k k k k k k k k k k k) k<|aa k k<|an<|lL (by kernel_rfl)<|aY<|tn<|aD (t:=mN [(2,.ptr 0 0 0),(3,.ptr 1 0 0),(5,.own 5 0 ((x1.1++[v6]).length)),(10,.list 1 (a0.q.src.map eI)),(11,.int (a0.q.src.length:Int)),(12,.int x1.2)] [(0,⟨6,[eR a0]⟩),(1,⟨6,[eR a1]⟩),(5,⟨3,List.map (ow eM) (x1.1++[v6])⟩)] 6) (Ent.trans (dB (b:=5) (b':=3) (j:=2) (es':=v6.cells.map eI) k k k k (aG _ _) (cU.frzs _)) (bU (jU 2 k2 (fU ⟨_,k,⟨k,k,(by simp only [aG,lA,lT,lR,lC,lN]),k⟩⟩ (bJ k2))) (bF k<|bF k<|hX ⟨_,k,k,.inl ⟨fD v6 k,bK.plainO _⟩⟩ k<|aU) k4))<|rg<|ae (bG k k) k<|am k k<|an<|tn<|sp h ⟨_,k,(gA [0,1,5] (bJ k2) (bF k<|bF k<|cA (bK.plainO _) k<|aU) k4)⟩
 ·rintro e t ⟨rfl,hent⟩;exact aM<|tn<|aD hent<|sR<|am k k<|aT k2<|aE<|sp h (bC k k k (eV (cN bK k k)))
def lF (v1:Mt) (v3:(List Int)) (x1:((List Int)×Int)) (x2:((List Int)×Int)):Option (((List Int)×Int) ⊕ (List Int)):=
 bif decide (x2.2<(v3.length:Int)) then
 ((cP v3 x2.2).bind λv5=>
 (cP x2.1 (wr ((wr (x2.2*v1.cols))+x1.2))).bind λv6=>
 some (.inl ((x2.1.set ((wr ((wr (x2.2*v1.cols))+x1.2)).toNat) v5),wr (x2.2+1))))
 else
 (some (.inr x2.1))
def lG (a1:(List (List Int))) (v1:Mt) (x1:((List Int)×Int)):Option (((List Int)×Int) ⊕ (List Int)):=
 bif decide (x1.2<(a1.length:Int)) then
 ((cP a1 x1.2).bind λv3=>
 (Lp (lF v1 v3 x1) (x1.1,0)).bind λy7=>
 some (.inl (y7,wr (x1.2+1))))
 else
 (some (.inr x1.1))
def fC (a0:Int) (a1:(List (List Int))):Option Mt:=
 (kG a0 (a1.length:Int)).bind λv1=>
 (Lp (lG a1 v1) (v1.cells,0)).bind λy8=>
 some ((⟨v1.rows,v1.cols,y8⟩:Mt))
theorem kT (a0:Int) (a1:(List (List Int))) (r:Mt) (h:fC a0 a1=some r):HasC Tryz.prog 235 [.int a0,.list 1 (a1.map (dH 1 eI))] (.agg (eM r)):=by
 refine hM [.cell 4 130] Tryz.func235 Tryz.ntmps235 k<|sR<|ae (bX aO k k) k<|an<|tn<|sR<|am k k<|am k k<|ln k4<|oB h λv1 hv1 h=>ae (cM (rY a0 (a1.length:Int) v1 hv1) k3 (cI k (cI k aN))) k<|ae (bX aO k k) k<|ae (ws k) k<|an<|tn<|sQ<|sR<|am k k<|ln k4<|am k k<|an<|tn<|aC<|oB h λy8 hy8 h=>bZ (body:=(lG a1 v1)) hy8 (λ(x1:((List Int)×Int))=>mN [(4,.ptr 0 0 0),(5,.ptr 1 0 0),(14,.list 1 (a1.map (dH 1 eI))),(15,.int (a1.length:Int)),(16,.int x1.2)] [(0,⟨3,[fJ]⟩),(1,⟨3,[[.int v1.rows,.int v1.cols,.own 2 0 x1.1.length]]⟩),(2,⟨1,x1.1.map (ow eI)⟩)] 3) (λr e t=>e= .exit 0∧Ent t (mN [(4,.ptr 0 0 0),(5,.ptr 1 0 0)] [(0,⟨3,[fJ]⟩),(1,⟨3,[[.int v1.rows,.int v1.cols,.own 2 0 r.length]]⟩),(2,⟨1,r.map (ow eI)⟩)] 3)) (gA [0,2,1] (bJ k2) (bF k<|eC k<|bO k<|aU) k4) ?_ ?_
 ·intro x1 o h;refine sR<|cm k4<|an<|tn<|sQ<|cW k h (λ_ h=>?_) λ_ h=>aX<|aB<|aB<|sp h ⟨_,k,k,(bU (bJ k2) (bF k<|eC k<|bO k<|aU) k4)⟩;refine aH<|tn<|sQ<|aC<|sR<|am k k<|oB h λv3 hv3 h=>ae (xl hv3 k) k<|lr k7<|aa k k<|aT k2<|sR<|am k k<|ln k4<|am k k<|an<|tn<|aC<|oB h λy7 hy7 h=>bZ (body:=(lF v1 v3 x1)) hy7 (λ(x2:((List Int)×Int))=>mN [(4,.ptr 0 0 0),(5,.ptr 1 0 0),(6,.int x1.2),(14,.list 1 (a1.map (dH 1 eI))),(15,.int (a1.length:Int)),(16,.int x1.2),(21,.list 1 (v3.map eI)),(22,.int (v3.length:Int)),(23,.int x2.2)] [(0,⟨3,[fJ]⟩),(1,⟨3,[[.int v1.rows,.int v1.cols,.own 2 0 x2.1.length]]⟩),(2,⟨1,x2.1.map (ow eI)⟩)] 3) (λr e t=>e= .exit 2∧Ent t (mN [(4,.ptr 0 0 0),(5,.ptr 1 0 0),(14,.list 1 (a1.map (dH 1 eI))),(15,.int (a1.length:Int)),(16,.int x1.2)] [(0,⟨3,[fJ]⟩),(1,⟨3,[[.int v1.rows,.int v1.cols,.own 2 0 r.length]]⟩),(2,⟨1,r.map (ow eI)⟩)] 3)) (bU (bJ k2) (bF k<|eC k<|bO k<|aU) k4) ?_ ?_
  ·intro x2 o h;refine sR<|cm k4<|an<|tn<|sQ<|cW k h (λ_ h=>?_) λ_ h=>aX<|aB<|aB<|sp h ⟨_,k,k,(bU (bJ k2) (bF k<|eC k<|bO k<|aU) k4)⟩;refine aH<|tn<|sQ<|aC<|sR<|am k k<|oB h λv5 hv5 h=>ae (xl hv5 k) k<|lr k7<|aa k k<|aT k2<|rg<|fp k8<|lp k8<|am k k<|fp k8<|lp k8<|ae (eZ k k) k<|am k k<|ae (bG k k) k<|am k k<|oB h λv6 hv6 h=>ae (xo hv6 k) k<|ae (fY aO jT (u:=v5) (dF hv6) k k k k k k) k<|an<|aY<|tn<|rg ?_;exact ae (bG k k) k<|am k k<|an<|tn<|sp h ⟨_,k,(bU (bJ k2) (bF k<|hX ⟨_,k,k,.inr ⟨_,_,k,⟨_,_,k,k,⟨_,_,k,k,⟨_,_,k,⟨k,k,(by simp only [aG,lA,lT,lR,lC,lN]),k⟩,k⟩⟩⟩,k⟩⟩ k<|bO k<|aU) k4)⟩
  ·rintro e t ⟨rfl,hent⟩;exact aM<|aY<|tn<|aD hent<|rg<|ae (bG k k) k<|am k k<|an<|tn<|sp h ⟨_,k,(bU (bJ k2) (bF k<|eC k<|bO k<|aU) k4)⟩
 ·rintro e t ⟨rfl,hent⟩;exact aM<|tn<|aD hent<|sR<|lp k8<|ae (ws k) k<|an<|tn<|aE<|sp h (bC k k k (gW (aZ (k) (aZ (k) (aZ (cN cU k k) eJ)))))
def mP (a0:Rp) (a1:Rp) (v1:(List Mt)) (v2:(List Int)) (x1:((List (List Int))×Int)):Option (((List (List Int))×Int) ⊕ (List (List Int))):=
 bif decide (x1.2<((v2.length:Nat):Int)) then
 (bif (decide (0≤((v2.length:Nat):Int))&&decide (((v2.length:Nat):Int)≤1048576)) then
 ((cP (List.replicate (((v2.length:Nat):Int).toNat) (0:Int)) x1.2).bind λv4=>
 (qM v1 ((List.replicate (((v2.length:Nat):Int).toNat) (0:Int)).set x1.2.toNat 1)).bind λv5=>
 (qZ a0 a1 v5).bind λv6=>
 (mM v6).bind λv7=>
 bif decide (x1.1.length+1≤4294967296) then
 (some (.inl ((x1.1++[v7]),wr (x1.2+1))))
 else none)
 else none)
 else
 (some (.inr x1.1))
def rA (a0:Rp) (a1:Rp):Option Mt:=
 (tC a0 a1).bind λv1=>
 (mM v1).bind λv2=>
 (Lp (mP a0 a1 v1 v2) ([],0)).bind λy10=>
 (nO a0 a1).bind λv11=>
 (mM v11).bind λv12=>
 (fC ((v12.length:Nat):Int) y10).bind λv13=>
 some (v13)
theorem aFO (a0:Rp) (a1:Rp) (r:Mt) (h:rA a0 a1=some r):HasC Tryz.prog 218 [.agg (eR a0),.agg (eR a1)] (.agg (eM r)):=by
 refine hM [.cell 4 130] Tryz.func218 Tryz.ntmps218 k<|sR<|ae (wb k) k<|ae (wb k) k<|ae (bX aO k k) k<|an<|tn<|sR<|lp k8<|lp k8<|oB h λv1 hv1 h=>ae (cL bK (aCT a0 a1 v1 hv1) k3 (aI (eD k) (aI (eD k) aN))) k<|aT k2<|sR<|am k k<|oB h λv2 hv2 h=>ae (cL cU (aDG v1 v2 hv2) k3 (aI (qE bK k k) aN)) k<|ae (dI aO k k k k) k<|aT k2<|sR<|aT k2<|sQ ?_;refine sR<|am k k<|am k k<|an<|tn<|aC<|oB h λy10 hy10 h=>bZ (body:=(mP a0 a1 v1 v2)) hy10 (λ(x1:((List (List Int))×Int))=>mN [(2,.ptr 0 0 0),(3,.ptr 1 0 0),(4,.ptr 2 0 0),(5,.own 3 0 v1.length),(6,.int ((v2.length:Nat):Int)),(7,.own 4 0 x1.1.length),(16,.int ((v2.length:Nat):Int)),(17,.int x1.2)] [(0,⟨6,[eR a0]⟩),(1,⟨6,[eR a1]⟩),(2,⟨3,[fJ]⟩),(3,⟨3,v1.map (ow eM)⟩),(4,⟨1,x1.1.map (ow (dH 1 eI))⟩)] 5) (λr e t=>e= .exit 0∧Ent t (mN [(2,.ptr 0 0 0),(3,.ptr 1 0 0),(4,.ptr 2 0 0),(7,.own 3 0 r.length)] [(0,⟨6,[eR a0]⟩),(1,⟨6,[eR a1]⟩),(2,⟨3,[fJ]⟩),(3,⟨1,r.map (ow (dH 1 eI))⟩)] 4)) (fP (σ:=sg [(0,0),(1,1),(2,2),(3,3)]) (jU 5 k2 (fU ⟨_,k,⟨k,k,k,k⟩⟩ (bJ k2))) (bF k<|bF k<|bF k<|cA (bK.plainO _) k<|hX k k<|aU) k) ?_ ?_
 ·intro x1 o h;refine sR<|cm k4<|an<|tn<|sQ<|cW k h (λ_ h=>?_) λ_ h=>aX<|aB<|aB<|sp h ⟨_,k,k,(gA [0,1,2,4] (bJ k2) (bF k<|bF k<|bF k<|cA (bY.plainO _) k<|aU) k4)⟩;refine aH<|tn<|sQ<|aC<|sR<|am k k<|aT k2<|sR<|am k k<|cG h λq9 h=>ae (aAE aO q9 k k k k k k k k) k<|aT k2<|aD (t:=mN [(2,.ptr 0 0 0),(3,.ptr 1 0 0),(4,.ptr 2 0 0),(5,.own 3 0 v1.length),(6,.int ((v2.length:Nat):Int)),(7,.own 4 0 x1.1.length),(8,.int x1.2),(9,.own 5 0 ((List.replicate (((v2.length:Nat):Int).toNat) (0:Int)).length)),(16,.int ((v2.length:Nat):Int)),(17,.int x1.2)] [(0,⟨6,[eR a0]⟩),(1,⟨6,[eR a1]⟩),(2,⟨3,[fJ]⟩),(3,⟨3,v1.map (ow eM)⟩),(4,⟨1,x1.1.map (ow (dH 1 eI))⟩),(5,⟨1,List.map (ow eI) (List.replicate (((v2.length:Nat):Int).toNat) (0:Int))⟩)] 6) (bU (jU 7 k2 (fU ⟨_,k,⟨k,k,(by simp only [aG,lA,lT,lR,lC,lN]),k⟩⟩ (bJ k2))) (bF k<|bF k<|bF k<|cA (bK.plainO _) k<|cA (bY.plainO _) k<|hX ⟨_,k,k,.inl ⟨aAo (e:=eI) (z:=0) _,cU.plainO _⟩⟩ k<|aU) k4)<|sR<|am k k<|am k k<|oB h λv4 hv4 h=>ae (xo hv4 k) k<|ae (fY aO jT (u:=1) (dF hv4) k k k k k k) k<|an<|tn<|aP eP<|am k k<|lp k8 ?_;exact lp k8<|am k k<|am k k<|oB h λv5 hv5 h=>ae (cL bK (aED v1 ((List.replicate (((v2.length:Nat):Int).toNat) (0:Int)).set x1.2.toNat 1) v5 hv5) k3 (aI (qE bK k k) (aI (qE cU k (by first|rfl|simp only [List.length_set])) aN))) k<|oB h λv6 hv6 h=>ae (cL bK (aFN a0 a1 v5 v6 hv6) k3 (aI (eD k) (aI (eD k) (aI (qE bK k k) aN)))) k<|oB h λv7 hv7 h=>ae (cL cU (aDG v6 v7 hv7) k3 (aI (qE bK k k) aN)) k<|ae (wl k) k<|cG h λq8 h=>ae (eW aO (l:=x1.1) (c:=[.own 8 0 v7.length]) q8 k k k k k k k k k k k k k k) k<|aa k k<|an<|lL (by kernel_rfl)<|aY<|tn<|aD (t:=mN [(2,.ptr 0 0 0),(3,.ptr 1 0 0),(4,.ptr 2 0 0),(5,.own 3 0 v1.length),(6,.int ((v2.length:Nat):Int)),(7,.own 10 0 ((x1.1++[v7]).length)),(16,.int ((v2.length:Nat):Int)),(17,.int x1.2)] [(0,⟨6,[eR a0]⟩),(1,⟨6,[eR a1]⟩),(2,⟨3,[fJ]⟩),(3,⟨3,v1.map (ow eM)⟩),(10,⟨1,List.map (ow (dH 1 eI)) (x1.1++[v7])⟩)] 11) (Ent.trans (dB (b:=10) (b':=8) (j:=0) (es':=v7.map eI) k k k k (aG _ _) (cU.frzs _)) (bU (jU 5 k2 (fU ⟨_,k,⟨k,k,(by simp only [aG,lA,lT,lR,lC,lN]),k⟩⟩ (bJ k2))) (bF k<|bF k<|bF k<|cA (bK.plainO _) k<|hX ⟨_,k,k,.inl ⟨fD v7 k,bY.plainO _⟩⟩ k<|aU) k4))<|rg<|ae (bG k k) k<|am k k<|an<|tn<|sp h ⟨_,k,(gA [0,1,2,3,10] (bJ k2) (bF k<|bF k<|bF k<|cA (bK.plainO _) k<|cA (bY.plainO _) k<|aU) k4)⟩
 ·rintro e t ⟨rfl,hent⟩;exact aM<|tn<|aD hent<|sR<|lp k8<|lp k8<|oB h λv11 hv11 h=>ae (cL bK (aDt a0 a1 v11 hv11) k3 (aI (eD k) (aI (eD k) aN))) k<|oB h λv12 hv12 h=>ae (cL cU (aDG v11 v12 hv12) k3 (aI (qE bK k k) aN)) k<|ae (dI aO k k k k) k<|am k k<|oB h λv13 hv13 h=>ae (cM (kT ((v12.length:Nat):Int) y10 v13 hv13) k3 (cI k (aI (qE bY k k) aN))) k<|ae (ws k) k<|an<|tn<|aE<|sp h (bC k k k (gW (aZ (k) (aZ (k) (aZ (cN cU k k) eJ)))))
def pQ (a0:Int) (v1:(Mt×(List Int))) (x1:(Int×(List (List Int)))) (x2:((List Int)×Int)):Option (((List Int)×Int) ⊕ (List Int)):=
 bif decide (x2.2<((v1.2.length:Nat):Int)) then
 ((cP v1.2 x2.2).bind λv7=>
 (cP v1.1.cells (wr ((wr (x2.2*v1.1.cols))+x1.1))).bind λv8=>
 (gJ a0 (wr (-v8))).bind λv9=>
 (cP x2.1 v7).bind λv10=>
 some (.inl ((x2.1.set v7.toNat v9),wr (x2.2+1))))
 else
 (some (.inr x2.1))
def pR (a0:Int) (v1:(Mt×(List Int))) (x1:(Int×(List (List Int)))):Option ((Int×(List (List Int))) ⊕ (List (List Int))):=
 bif decide (x1.1<v1.1.cols) then
 ((aAT v1.2 x1.1).bind λv3=>
 bif v3 then
 (some (.inl (wr (x1.1+1),x1.2)))
 else
 (bif (decide (0≤v1.1.cols)&&decide (v1.1.cols≤1048576)) then
 ((cP (List.replicate v1.1.cols.toNat (0:Int)) x1.1).bind λv5=>
 (Lp (pQ a0 v1 x1) (((List.replicate v1.1.cols.toNat (0:Int)).set x1.1.toNat 1),0)).bind λy11=>
 bif decide (x1.2.length+1≤4294967296) then
 (some (.inl (wr (x1.1+1),(x1.2++[y11]))))
 else none)
 else none))
 else
 (some (.inr x1.2))
def qH (a0:Int) (a1:Mt):Option (List (List Int)):=
 (lQ a0 a1).bind λv1=>
 (Lp (pR a0 v1) (0,([]:(List (List Int))))).bind λy14=>
 some (y14)
theorem aCh (a0:Int) (a1:Mt) (r:(List (List Int))) (h:qH a0 a1=some r):HasC Tryz.prog 201 [.int a0,.agg (eM a1)] (.list 1 (r.map (dH 1 eI))):=by
 refine hM [.tmp 4] Tryz.func201 Tryz.ntmps201 k<|sR<|ae (wb k) k<|aT k2<|sR<|am k k<|lp k8<|oB h λv1 hv1 h=>ae (AEff.conv (gZ (x:= .tuple [.agg [.int v1.1.rows,.int v1.1.cols,.own 1 0 (v1.1.cells.map eI).length],.own 2 0 (v1.2.map eI).length]) (nb:=[(1,⟨1,cK (v1.1.cells.map eI)⟩),(2,⟨1,cK (v1.2.map eI)⟩)]) (aAG a0 a1 v1 hv1) k (by rfl) k k (dA (cH aU (cH aU (cH (cU.good _) uM))) (dA (cU.good _) qQ)) (cI k (aI (eD k) aN))) (v':= .tuple [.agg [.int v1.1.rows,.int v1.1.cols,.own 1 0 v1.1.cells.length],.own 2 0 v1.2.length]) (ed':=[(1,some ⟨1,v1.1.cells.map (ow eI)⟩),(2,some ⟨1,v1.2.map (ow eI)⟩)]) (by simp only [aG]) (pB (nb':=[(1,⟨1,v1.1.cells.map (ow eI)⟩),(2,⟨1,v1.2.map (ow eI)⟩)]) (by simp only [fB]))) k<|am k k<|ae (bA k k (by intro _ h;cases h)) k<|ae (bA k k (by intro _ h;cases h)) k<|ae (bX aO k k) k<|ae (ws k) k<|aT k2<|sR<|ae (wl k) k<|aT k2<|aD (t:=mN [(0,.int a0),(5,.ptr 3 0 0),(6,.own 2 0 v1.2.length),(7,.own 4 0 (([]:(List (List Int))).length))] [(1,⟨1,v1.1.cells.map (ow eI)⟩),(2,⟨1,v1.2.map (ow eI)⟩),(3,⟨3,[oMt v1.1 1]⟩),(4,⟨1,List.map (ow (dH 1 eI)) ([]:(List (List Int)))⟩)] 5) (bU (jU 3 k2 (fU ⟨_,k,⟨k,k,(by simp only [aG,lA,lT,lR,lC,lN]),k⟩⟩ aU)) (bO k<|bO k<|eC k<|cA (bY.plainO _) k<|aU) k4)<|sQ<|sR ?_;refine aT k2<|aC<|oB h λy14 hy14 h=>bZ (body:=(pR a0 v1)) hy14 (λ(x1:(Int×(List (List Int))))=>mN [(0,.int a0),(5,.ptr 0 0 0),(6,.own 2 0 v1.2.length),(7,.own 3 0 x1.2.length),(8,.int x1.1)] [(0,⟨3,[oMt v1.1 1]⟩),(1,⟨1,v1.1.cells.map (ow eI)⟩),(2,⟨1,v1.2.map (ow eI)⟩),(3,⟨1,x1.2.map (ow (dH 1 eI))⟩)] 4) (λr e t=>e= .exit 0∧Ent t (mN [(7,.own 0 0 r.length)] [(0,⟨1,r.map (ow (dH 1 eI))⟩)] 1)) (gA [3,1,2,4] (bJ k2) (eC k<|bO k<|bO k<|cA (bY.plainO _) k<|aU) k4) ?_ ?_
 ·intro x1 o h;refine sQ<|sR<|am k k<|fp k8<|lp k8<|cm k4<|an<|tn<|cW k h (λ_ h=>?_) λ_ h=>aX<|aB<|aB<|sp h ⟨_,k,k,(gA [3] (bJ k2) (cA (bY.plainO _) k<|aU) k4)⟩;refine aH<|tn<|sQ<|aC<|sQ<|sR<|am k k<|am k k<|oB h λv3 hv3 h=>ae (aS (aLk v1.2 x1.1 v3 hv3) k (vcT k k (cI k aN))) k<|an<|tn<|cW k h (λ_ h=>aX<|aB<|aM<|tn<|rg<|am k k<|ae (bG k k) k<|aT k2<|sp h ⟨_,k,(bU (bJ k2) (eC k<|bO k<|bO k<|cA (bY.plainO _) k<|aU) k4)⟩) λ_ h=>?_;refine aH<|tn<|sR<|fp k8<|lp k8<|cG h λq13 h=>ae (aAE aO q13 k k k k k k k k) k<|aT k2<|aD (t:=mN [(0,.int a0),(5,.ptr 0 0 0),(6,.own 2 0 v1.2.length),(7,.own 3 0 x1.2.length),(8,.int x1.1),(9,.own 4 0 ((List.replicate v1.1.cols.toNat (0:Int)).length))] [(0,⟨3,[oMt v1.1 1]⟩),(1,⟨1,v1.1.cells.map (ow eI)⟩),(2,⟨1,v1.2.map (ow eI)⟩),(3,⟨1,x1.2.map (ow (dH 1 eI))⟩),(4,⟨1,List.map (ow eI) (List.replicate v1.1.cols.toNat (0:Int))⟩)] 5) (bU (jU 5 k2 (fU ⟨_,k,⟨k,k,(by simp only [aG,lA,lT,lR,lC,lN]),k⟩⟩ aU)) (eC k<|bO k<|bO k<|cA (bY.plainO _) k<|hX ⟨_,k,k,.inl ⟨aAo (e:=eI) (z:=0) _,cU.plainO _⟩⟩ k<|aU) k4)<|sR<|am k k<|am k k<|oB h λv5 hv5 h=>ae (xo hv5 k) k<|ae (fY aO jT (u:=1) (dF hv5) k k k k k k) k<|an<|tn<|sQ<|sR<|aT k2<|aC<|oB h λy11 hy11 h=>bZ (body:=(pQ a0 v1 x1)) hy11 (λ(x2:((List Int)×Int))=>mN [(0,.int a0),(5,.ptr 0 0 0),(6,.own 2 0 v1.2.length),(7,.own 3 0 x1.2.length),(8,.int x1.1),(9,.own 4 0 x2.1.length),(10,.int x2.2)] [(0,⟨3,[oMt v1.1 1]⟩),(1,⟨1,v1.1.cells.map (ow eI)⟩),(2,⟨1,v1.2.map (ow eI)⟩),(3,⟨1,x1.2.map (ow (dH 1 eI))⟩),(4,⟨1,x2.1.map (ow eI)⟩)] 5) (λr e t=>e= .exit 2∧Ent t (mN [(0,.int a0),(5,.ptr 0 0 0),(6,.own 2 0 v1.2.length),(7,.own 3 0 x1.2.length),(8,.int x1.1),(9,.own 4 0 r.length)] [(0,⟨3,[oMt v1.1 1]⟩),(1,⟨1,v1.1.cells.map (ow eI)⟩),(2,⟨1,v1.2.map (ow eI)⟩),(3,⟨1,x1.2.map (ow (dH 1 eI))⟩),(4,⟨1,r.map (ow eI)⟩)] 5)) (bU (jU 5 k2 (fU ⟨_,k,⟨k,k,(by simp only [aG,lA,lT,lR,lC,lN]),k⟩⟩ (bJ k2))) (eC k<|bO k<|bO k<|cA (bY.plainO _) k<|bO k<|aU) k4) ?_ ?_
  ·intro x2 o h;refine sQ<|sR<|am k k<|am k k<|ae (dI aO k k k k) k<|cm k4<|an<|tn<|cW k h (λ_ h=>?_) λ_ h=>aX<|aB<|aB<|sp h ⟨_,k,k,(bU (bJ k2) (eC k<|bO k<|bO k<|cA (bY.plainO _) k<|bO k<|aU) k4)⟩;refine aH<|tn<|sQ<|aC<|aP eP<|am k k<|am k k<|am k k<|oB h λv7 hv7 h=>ae (xo hv7 k) k<|ae (wp hv7 k) k<|am k k<|fp k8<|lp k8<|am k k<|fp k8<|lp k8<|ae (eZ k k) k<|am k k<|ae (bG k k) k<|oB h λv8 hv8 h=>ae (xo hv8 k) k<|ae (wp hv8 k) k<|ae (aUr k) k<|oB h λv9 hv9 h=>ae (aS (jX a0 (wr (-v8)) v9 hv9) k (cI k (cI k aN))) k<|oB h λv10 hv10 h=>ae (xo hv10 k) k<|ae (fY aO jT (u:=v9) (dF hv10) k k k k k k) k<|an<|lL (by kernel_rfl)<|aY<|tn ?_;exact aD (t:=mN [(0,.int a0),(5,.ptr 0 0 0),(6,.own 2 0 v1.2.length),(7,.own 3 0 x1.2.length),(8,.int x1.1),(9,.own 4 0 ((x2.1.set v7.toNat v9).length)),(10,.int x2.2)] [(0,⟨3,[oMt v1.1 1]⟩),(1,⟨1,v1.1.cells.map (ow eI)⟩),(2,⟨1,v1.2.map (ow eI)⟩),(3,⟨1,x1.2.map (ow (dH 1 eI))⟩),(4,⟨1,List.map (ow eI) (x2.1.set v7.toNat v9)⟩)] 5) (bU (jU 5 k2 (fU ⟨_,k,⟨k,k,(by simp only [aG,lA,lT,lR,lC,lN]),k⟩⟩ (bJ k2))) (eC k<|bO k<|bO k<|cA (bY.plainO _) k<|bO k<|aU) k4)<|rg<|am k k<|ae (bG k k) k<|aT k2<|sp h ⟨_,k,(bU (bJ k2) (eC k<|bO k<|bO k<|cA (bY.plainO _) k<|bO k<|aU) k4)⟩
  ·rintro e t ⟨rfl,hent⟩;exact aM<|tn<|aD hent<|rg<|am k k<|am k k<|ae (wl k) k<|cG h λq12 h=>ae (eW aO (l:=x1.2) (c:=[.own 4 0 y11.length]) q12 k k k k k k k k k k k k k k) k<|aa k k<|an<|aY<|tn<|aD (t:=mN [(0,.int a0),(5,.ptr 0 0 0),(6,.own 2 0 v1.2.length),(7,.own 6 0 ((x1.2++[y11]).length)),(8,.int x1.1)] [(0,⟨3,[oMt v1.1 1]⟩),(1,⟨1,v1.1.cells.map (ow eI)⟩),(2,⟨1,v1.2.map (ow eI)⟩),(6,⟨1,List.map (ow (dH 1 eI)) (x1.2++[y11])⟩)] 7) (Ent.trans (dB (b:=6) (b':=4) (j:=0) (es':=y11.map eI) k k k k (aG _ _) (cU.frzs _)) (bU (jU 3 k2 (fU ⟨_,k,⟨k,k,(by simp only [aG,lA,lT,lR,lC,lN]),k⟩⟩ (bJ k2))) (eC k<|bO k<|bO k<|hX ⟨_,k,k,.inl ⟨fD y11 k,bY.plainO _⟩⟩ k<|aU) k4))<|rg<|am k k<|ae (bG k k) k<|aT k2<|sp h ⟨_,k,(gA [0,1,2,6] (bJ k2) (eC k<|bO k<|bO k<|cA (bY.plainO _) k<|aU) k4)⟩
 ·rintro e t ⟨rfl,hent⟩;exact aM<|tn<|aD hent<|sR<|am k k<|aT k2<|aE<|sp h (bC k k k (eV (cN bY k k)))
def vW (a0:Rp) (a1:Rp) (a2:Int) (x1:(Int×Int)):Option ((Int×Int) ⊕ Int):=
 bif decide (x1.2<a2) then
 ((cP a0.dims x1.2).bind λv2=>
 (cP a1.dims x1.2).bind λv3=>
 some (.inl (wr (x1.1+(wr (v2*v3))),wr (x1.2+1))))
 else
 (some (.inr x1.1))
def xG (a0:Rp) (a1:Rp) (a2:Int):Option Int:=
 (Lp (vW a0 a1 a2) (0,0)).bind λy4=>
 some (y4)
theorem aFP (a0:Rp) (a1:Rp) (a2:Int) (r:Int) (h:xG a0 a1 a2=some r):HasC Tryz.prog 205 [.agg (eR a0),.agg (eR a1),.int a2] (.int r):=by
 refine hM [.tmp 6] Tryz.func205 Tryz.ntmps205 k<|sR<|ae (wb k) k<|ae (wb k) k<|aT k2<|sR<|aT k2<|sQ<|sR<|aT k2<|aC<|oB h λy4 hy4 h=>bZ (body:=(vW a0 a1 a2)) hy4 (λ(x1:(Int×Int))=>mN [(2,.int a2),(3,.ptr 0 0 0),(4,.ptr 1 0 0),(7,.int x1.1),(8,.int x1.2)] [(0,⟨6,[eR a0]⟩),(1,⟨6,[eR a1]⟩)] 2) (λr e t=>e= .exit 0∧Ent t (mN [(7,.int r)] [] 0)) (bU (bJ k2) (bF k<|bF k<|aU) k4) ?_ ?_
 ·intro x1 o h;exact sQ<|sR<|am k k<|am k k<|cm k4<|an<|tn<|cW k h (λ_ h=>aH<|tn<|sQ<|aC<|aP eP<|am k k<|fp k8<|lp k8<|am k k<|oB h λv2 hv2 h=>ae (xl hv2 k) k<|lr k7<|fp k8<|lp k8<|am k k<|oB h λv3 hv3 h=>ae (xl hv3 k) k<|lr k7<|ae (eZ k k) k<|ae (bG k k) k<|aa k k<|an<|lL (by kernel_rfl)<|aY<|tn<|rg<|am k k<|ae (bG k k) k<|aT k2<|sp h ⟨_,k,(bU (bJ k2) (bF k<|bF k<|aU) k4)⟩) λ_ h=>aX<|aB<|aB<|sp h ⟨_,k,k,(bU (bJ k2) aU k4)⟩
 ·rintro e t ⟨rfl,hent⟩;exact aM<|tn<|aD hent<|sR<|am k k<|aT k2<|aE<|rtI h k2
def rB (a0:Rp) (a1:Rp) (x1:(Int×Int)):Option ((Int×Int) ⊕ Int):=
 bif decide (x1.2<(a0.dims.length:Int)) then
 ((cP a0.dims x1.2).bind λv2=>
 (cP a1.dims x1.2).bind λv3=>
 some (.inl (wr (x1.1+(wr (v2*v3))),wr (x1.2+1))))
 else
 (some (.inr x1.1))
def sA (a0:Rp) (a1:Rp):Option Int:=
 (Lp (rB a0 a1) (0,0)).bind λy4=>
 some (y4)
theorem aDH (a0:Rp) (a1:Rp) (r:Int) (h:sA a0 a1=some r):HasC Tryz.prog 204 [.agg (eR a0),.agg (eR a1)] (.int r):=by
 refine hM [.tmp 4] Tryz.func204 Tryz.ntmps204 k<|sR<|ae (wb k) k<|ae (wb k) k<|aT k2<|sR<|aT k2<|sQ<|sR<|aT k2<|aC<|oB h λy4 hy4 h=>bZ (body:=(rB a0 a1)) hy4 (λ(x1:(Int×Int))=>mN [(2,.ptr 0 0 0),(3,.ptr 1 0 0),(5,.int x1.1),(6,.int x1.2)] [(0,⟨6,[eR a0]⟩),(1,⟨6,[eR a1]⟩)] 2) (λr e t=>e= .exit 0∧Ent t (mN [(5,.int r)] [] 0)) (bU (bJ k2) (bF k<|bF k<|aU) k4) ?_ ?_
 ·intro x1 o h;exact sQ<|sR<|am k k<|fp k8<|lp k8<|ln k4<|cm k4<|an<|tn<|cW k h (λ_ h=>aH<|tn<|sQ<|aC<|aP eP<|am k k<|fp k8<|lp k8<|am k k<|oB h λv2 hv2 h=>ae (xl hv2 k) k<|lr k7<|fp k8<|lp k8<|am k k<|oB h λv3 hv3 h=>ae (xl hv3 k) k<|lr k7<|ae (eZ k k) k<|ae (bG k k) k<|aa k k<|an<|lL (by kernel_rfl)<|aY<|tn<|rg<|am k k<|ae (bG k k) k<|aT k2<|sp h ⟨_,k,(bU (bJ k2) (bF k<|bF k<|aU) k4)⟩) λ_ h=>aX<|aB<|aB<|sp h ⟨_,k,k,(bU (bJ k2) aU k4)⟩
 ·rintro e t ⟨rfl,hent⟩;exact aM<|tn<|aD hent<|sR<|am k k<|aT k2<|aE<|rtI h k2
def hZ (a0:Rp) (a1:Rp) (v3:Int) (x1:(Int×(List Int)×Int)) (x2:(Int×(List Int)×Int)) (x3:(Int×(List Int)×Int)) (x4:((List Int)×Int)):Option (((List Int)×Int) ⊕ (List Int)):=
 (cP a1.dims v3).bind λv9=>
 bif decide (x4.2<v9) then
 ((xG a0 a1 v3).bind λv11=>
 (cP a0.dims v3).bind λv12=>
 (cP x4.1 (wr ((wr (v11+(wr (x4.2*v12))))+x3.2.2))).bind λv13=>
 (cP a1.maps x1.2.2).bind λv14=>
 (cP a1.dims v3).bind λv15=>
 (cP v14.cells (wr ((wr (x2.2.2*v15))+x4.2))).bind λv16=>
 (gJ a0.p (wr (v13+v16))).bind λv17=>
 (cP x4.1 (wr ((wr (v11+(wr (x4.2*v12))))+x3.2.2))).bind λv18=>
 some (.inl ((x4.1.set ((wr ((wr (v11+(wr (x4.2*v12))))+x3.2.2)).toNat) v17),wr (x4.2+1))))
 else
 (some (.inr x4.1))
def iA (a0:Rp) (a1:Rp) (v3:Int) (v4:Int) (x1:(Int×(List Int)×Int)) (x2:(Int×(List Int)×Int)) (x3:(Int×(List Int)×Int)) (x5:((List Int)×Int)):Option (((List Int)×Int) ⊕ (List Int)):=
 (cP a0.dims v4).bind λv20=>
 bif decide (x5.2<v20) then
 ((xG a0 a1 v4).bind λv22=>
 (cP a0.dims v4).bind λv23=>
 (cP x5.1 (wr ((wr (v22+(wr (x2.2.2*v23))))+x5.2))).bind λv24=>
 (cP a0.maps x1.2.2).bind λv25=>
 (cP a0.dims v3).bind λv26=>
 (cP v25.cells (wr ((wr (x5.2*v26))+x3.2.2))).bind λv27=>
 (gJ a0.p (wr (v24 - v27))).bind λv28=>
 (cP x5.1 (wr ((wr (v22+(wr (x2.2.2*v23))))+x5.2))).bind λv29=>
 some (.inl ((x5.1.set ((wr ((wr (v22+(wr (x2.2.2*v23))))+x5.2)).toNat) v28),wr (x5.2+1))))
 else
 (some (.inr x5.1))
def jZ (a0:Rp) (a1:Rp) (v1:Int) (v3:Int) (v4:Int) (x1:(Int×(List Int)×Int)) (x2:(Int×(List Int)×Int)) (x3:(Int×(List Int)×Int)):Option ((Int×(List Int)×Int) ⊕ (Int×(List Int))):=
 (cP a0.dims v3).bind λv7=>
 bif decide (x3.2.2<v7) then
 (bif (decide (0≤v1)&&decide (v1≤1048576)) then
 ((Lp (hZ a0 a1 v3 x1 x2 x3) ((List.replicate v1.toNat (0:Int)),0)).bind λy19=>
 (Lp (iA a0 a1 v3 v4 x1 x2 x3) (y19,0)).bind λy30=>
 bif decide (x3.2.1.length+y30.length≤4294967296) then
 (some (.inl (wr (x3.1+1),(x3.2.1++y30),wr (x3.2.2+1))))
 else none)
 else none)
 else
 (some (.inr (x3.1,x3.2.1)))
def kA (a0:Rp) (a1:Rp) (v1:Int) (v3:Int) (v4:Int) (x1:(Int×(List Int)×Int)) (x2:(Int×(List Int)×Int)):Option ((Int×(List Int)×Int) ⊕ (Int×(List Int))):=
 (cP a1.dims v4).bind λv5=>
 bif decide (x2.2.2<v5) then
 ((Lp (jZ a0 a1 v1 v3 v4 x1 x2) (x2.1,x2.2.1,0)).bind λy33=>
 some (.inl (y33.1,y33.2,wr (x2.2.2+1))))
 else
 (some (.inr (x2.1,x2.2.1)))
def kB (a0:Rp) (a1:Rp) (v1:Int) (x1:(Int×(List Int)×Int)):Option ((Int×(List Int)×Int) ⊕ (Int×(List Int))):=
 bif decide (x1.2.2<(a0.maps.length:Int)) then
 ((cP a0.q.src x1.2.2).bind λv3=>
 (cP a0.q.tgt x1.2.2).bind λv4=>
 (Lp (kA a0 a1 v1 v3 v4 x1) (x1.1,x1.2.1,0)).bind λy34=>
 some (.inl (y34.1,y34.2,wr (x1.2.2+1))))
 else
 (some (.inr (x1.1,x1.2.1)))
def nP (a0:Rp) (a1:Rp):Option Mt:=
 (sA a0 a1).bind λv1=>
 (Lp (kB a0 a1 v1) (0,([]:(List Int)),0)).bind λy35=>
 some ((⟨y35.1,v1,y35.2⟩:Mt))
theorem aDu (a0:Rp) (a1:Rp) (r:Mt) (h:nP a0 a1=some r):HasC Tryz.prog 140 [.agg (eR a0),.agg (eR a1)] (.agg (eM r)):=by
 refine hM [.cell 4 130] Tryz.func140 Tryz.ntmps140 k<|sR<|ae (wb k) k<|ae (wb k) k<|ae (bX aO k k) k<|an<|tn<|sR<|lp k8<|lp k8<|oB h λv1 hv1 h=>ae (aS (aDH a0 a1 v1 hv1) k (aI (eD k) (aI (eD k) aN))) k<|aT k2<|sR<|am k k<|ae (wl k) k<|ae (gC aO k k k k k k) k<|ae (bX aO k k) k<|ae (ws k) k<|an<|tn<|aD (t:=mN [(2,.ptr 0 0 0),(3,.ptr 1 0 0),(4,.ptr 2 0 0),(5,.int v1),(6,.ptr 4 0 0)] [(0,⟨6,[eR a0]⟩),(1,⟨6,[eR a1]⟩),(2,⟨3,[fJ]⟩),(3,⟨1,List.map (ow eI) ([]:(List Int))⟩),(4,⟨3,[[.int 0,.int v1,.own 3 0 (([]:(List Int)).length)]]⟩)] 5) (bU (bJ k2) (bF k<|bF k<|bF k<|bO k<|hX ⟨_,k,k,.inr ⟨_,_,k,⟨_,_,k,k,⟨_,_,k,k,⟨_,_,k,⟨k,k,(by simp only [aG,lA,lT,lR,lC,lN]),k⟩,k⟩⟩⟩,k⟩⟩ k<|aU) k4)<|sQ<|sR<|aa k k ?_;refine an<|tn<|aC<|oB h λy35 hy35 h=>bZ (body:=(kB a0 a1 v1)) hy35 (λ(x1:(Int×(List Int)×Int))=>mN [(2,.ptr 0 0 0),(3,.ptr 1 0 0),(4,.ptr 2 0 0),(5,.int v1),(6,.ptr 3 0 0),(7,.int x1.2.2)] [(0,⟨6,[eR a0]⟩),(1,⟨6,[eR a1]⟩),(2,⟨3,[fJ]⟩),(3,⟨3,[[.int x1.1,.int v1,.own 4 0 x1.2.1.length]]⟩),(4,⟨1,x1.2.1.map (ow eI)⟩)] 5) (λr e t=>e= .exit 0∧Ent t (mN [(4,.ptr 0 0 0),(6,.ptr 1 0 0)] [(0,⟨3,[fJ]⟩),(1,⟨3,[[.int r.1,.int v1,.own 2 0 r.2.length]]⟩),(2,⟨1,r.2.map (ow eI)⟩)] 3)) (gA [0,1,2,4,3] (bJ k2) (bF k<|bF k<|bF k<|eC k<|bO k<|aU) k4) ?_ ?_
 ·intro x1 o h;refine sQ<|sR<|am k k<|fp k8<|lp k8<|ln k4<|cm k4<|an<|tn<|cW k h (λ_ h=>?_) λ_ h=>aX<|aB<|aB<|sp h ⟨_,k,k,(gA [2,3,4] (bJ k2) (bF k<|eC k<|bO k<|aU) k4)⟩;refine aH<|tn<|sQ<|aC<|sR<|fp k8<|fp k8<|lp k8<|am k k<|oB h λv3 hv3 h=>ae (xl hv3 k) k<|lr k7<|aT k2<|sR<|fp k8<|fp k8<|lp k8<|am k k<|oB h λv4 hv4 h=>ae (xl hv4 k) k<|lr k7<|aT k2<|sR<|aa k k ?_;refine an<|tn<|aC<|oB h λy34 hy34 h=>bZ (body:=(kA a0 a1 v1 v3 v4 x1)) hy34 (λ(x2:(Int×(List Int)×Int))=>mN [(2,.ptr 0 0 0),(3,.ptr 1 0 0),(4,.ptr 2 0 0),(5,.int v1),(6,.ptr 3 0 0),(7,.int x1.2.2),(8,.int v3),(9,.int v4),(10,.int x2.2.2)] [(0,⟨6,[eR a0]⟩),(1,⟨6,[eR a1]⟩),(2,⟨3,[fJ]⟩),(3,⟨3,[[.int x2.1,.int v1,.own 4 0 x2.2.1.length]]⟩),(4,⟨1,x2.2.1.map (ow eI)⟩)] 5) (λr e t=>e= .exit 2∧Ent t (mN [(2,.ptr 0 0 0),(3,.ptr 1 0 0),(4,.ptr 2 0 0),(5,.int v1),(6,.ptr 3 0 0),(7,.int x1.2.2)] [(0,⟨6,[eR a0]⟩),(1,⟨6,[eR a1]⟩),(2,⟨3,[fJ]⟩),(3,⟨3,[[.int r.1,.int v1,.own 4 0 r.2.length]]⟩),(4,⟨1,r.2.map (ow eI)⟩)] 5)) (bU (bJ k2) (bF k<|bF k<|bF k<|eC k<|bO k<|aU) k4) ?_ ?_
  ·intro x2 o h;refine sQ<|sR<|am k k<|fp k8<|lp k8<|am k k<|oB h λv5 hv5 h=>ae (xl hv5 k) k<|lr k7<|cm k4<|an<|tn<|cW k h (λ_ h=>?_) λ_ h=>aX<|aB<|aB<|sp h ⟨_,k,k,(bU (bJ k2) (bF k<|bF k<|bF k<|eC k<|bO k<|aU) k4)⟩;refine aH<|tn<|sQ<|aC<|sR<|aT k2<|aC<|oB h λy33 hy33 h=>bZ (body:=(jZ a0 a1 v1 v3 v4 x1 x2)) hy33 (λ(x3:(Int×(List Int)×Int))=>mN [(2,.ptr 0 0 0),(3,.ptr 1 0 0),(4,.ptr 2 0 0),(5,.int v1),(6,.ptr 3 0 0),(7,.int x1.2.2),(8,.int v3),(9,.int v4),(10,.int x2.2.2),(11,.int x3.2.2)] [(0,⟨6,[eR a0]⟩),(1,⟨6,[eR a1]⟩),(2,⟨3,[fJ]⟩),(3,⟨3,[[.int x3.1,.int v1,.own 4 0 x3.2.1.length]]⟩),(4,⟨1,x3.2.1.map (ow eI)⟩)] 5) (λr e t=>e= .exit 4∧Ent t (mN [(2,.ptr 0 0 0),(3,.ptr 1 0 0),(4,.ptr 2 0 0),(5,.int v1),(6,.ptr 3 0 0),(7,.int x1.2.2),(8,.int v3),(9,.int v4),(10,.int x2.2.2)] [(0,⟨6,[eR a0]⟩),(1,⟨6,[eR a1]⟩),(2,⟨3,[fJ]⟩),(3,⟨3,[[.int r.1,.int v1,.own 4 0 r.2.length]]⟩),(4,⟨1,r.2.map (ow eI)⟩)] 5)) (bU (bJ k2) (bF k<|bF k<|bF k<|eC k<|bO k<|aU) k4) ?_ ?_
   ·intro x3 o h;refine sQ<|sR<|am k k<|fp k8<|lp k8<|am k k<|oB h λv7 hv7 h=>ae (xl hv7 k) k<|lr k7<|cm k4<|an<|tn<|cW k h (λ_ h=>?_) λ_ h=>aX<|aB<|aB<|sp h ⟨_,k,k,(bU (bJ k2) (bF k<|bF k<|bF k<|eC k<|bO k<|aU) k4)⟩;refine aH<|tn<|sQ<|aC<|sR<|am k k<|cG h λq32 h=>ae (aAE aO q32 k k k k k k k k) k<|aT k2<|aD (t:=mN [(2,.ptr 0 0 0),(3,.ptr 1 0 0),(4,.ptr 2 0 0),(5,.int v1),(6,.ptr 3 0 0),(7,.int x1.2.2),(8,.int v3),(9,.int v4),(10,.int x2.2.2),(11,.int x3.2.2),(12,.own 5 0 ((List.replicate v1.toNat (0:Int)).length))] [(0,⟨6,[eR a0]⟩),(1,⟨6,[eR a1]⟩),(2,⟨3,[fJ]⟩),(3,⟨3,[[.int x3.1,.int v1,.own 4 0 x3.2.1.length]]⟩),(4,⟨1,x3.2.1.map (ow eI)⟩),(5,⟨1,List.map (ow eI) (List.replicate v1.toNat (0:Int))⟩)] 6) (bU (jU 10 k2 (fU ⟨_,k,⟨k,k,(by simp only [aG,lA,lT,lR,lC,lN]),k⟩⟩ aU)) (bF k<|bF k<|bF k<|eC k<|bO k<|hX ⟨_,k,k,.inl ⟨aAo (e:=eI) (z:=0) _,cU.plainO _⟩⟩ k<|aU) k4)<|sQ<|sR<|aT k2<|aC<|oB h λy19 hy19 h=>bZ (body:=(hZ a0 a1 v3 x1 x2 x3)) hy19 (λ(x4:((List Int)×Int))=>mN [(2,.ptr 0 0 0),(3,.ptr 1 0 0),(4,.ptr 2 0 0),(5,.int v1),(6,.ptr 3 0 0),(7,.int x1.2.2),(8,.int v3),(9,.int v4),(10,.int x2.2.2),(11,.int x3.2.2),(12,.own 5 0 x4.1.length),(13,.int x4.2)] [(0,⟨6,[eR a0]⟩),(1,⟨6,[eR a1]⟩),(2,⟨3,[fJ]⟩),(3,⟨3,[[.int x3.1,.int v1,.own 4 0 x3.2.1.length]]⟩),(4,⟨1,x3.2.1.map (ow eI)⟩),(5,⟨1,x4.1.map (ow eI)⟩)] 6) (λr e t=>e= .exit 6∧Ent t (mN [(2,.ptr 0 0 0),(3,.ptr 1 0 0),(4,.ptr 2 0 0),(5,.int v1),(6,.ptr 3 0 0),(7,.int x1.2.2),(8,.int v3),(9,.int v4),(10,.int x2.2.2),(11,.int x3.2.2),(12,.own 5 0 r.length)] [(0,⟨6,[eR a0]⟩),(1,⟨6,[eR a1]⟩),(2,⟨3,[fJ]⟩),(3,⟨3,[[.int x3.1,.int v1,.own 4 0 x3.2.1.length]]⟩),(4,⟨1,x3.2.1.map (ow eI)⟩),(5,⟨1,r.map (ow eI)⟩)] 6)) (bU (bJ k2) (bF k<|bF k<|bF k<|eC k<|bO k<|bO k<|aU) k4) ?_ ?_
    ·intro x4 o h;refine sQ<|sR<|am k k<|fp k8<|lp k8<|am k k<|oB h λv9 hv9 h=>ae (xl hv9 k) k<|lr k7<|cm k4<|an<|tn<|cW k h (λ_ h=>?_) λ_ h=>aX<|aB<|aB<|sp h ⟨_,k,k,(bU (bJ k2) (bF k<|bF k<|bF k<|eC k<|bO k<|bO k<|aU) k4)⟩;refine aH<|tn<|sQ<|aC<|sQ<|aP eP<|lp k8<|lp k8<|am k k<|oB h λv11 hv11 h=>ae (aS (aFP a0 a1 v3 v11 hv11) k (aI (eD k) (aI (eD k) (cI k aN)))) k<|am k k<|fp k8<|lp k8<|am k k<|oB h λv12 hv12 h=>ae (xl hv12 k) k<|lr k7<|ae (eZ k k) k<|ae (bG k k) k<|am k k<|ae (bG k k) k<|aa k k<|an<|lL (by kernel_rfl)<|tn<|aP eP<|am k k<|am k k<|fp k8<|lp k8 ?_;refine am k k<|am k k<|oB h λv13 hv13 h=>ae (xo hv13 k) k<|ae (wp hv13 k) k<|fp k8<|lp k8<|am k k<|oB h λv14 hv14 h=>ae (xl hv14 k) k<|ae (lX aO k k k k k k) k<|lr k7<|am k k<|fp k8<|lp k8<|am k k<|oB h λv15 hv15 h=>ae (xl hv15 k) k<|lr k7<|ae (eZ k k) k<|am k k<|ae (bG k k) k<|oB h λv16 hv16 h=>ae (xl hv16 k) k<|lr k7<|ae (bG k k) k<|oB h λv17 hv17 h=>ae (aS (jX a0.p (wr (v13+v16)) v17 hv17) k (cI k (cI k aN))) k<|oB h λv18 hv18 h=>ae (xo hv18 k) k<|ae (fY aO jT (u:=v17) (dF hv18) k k k k k k) k<|an<|lL (by kernel_rfl)<|aY<|tn<|aD (t:=mN [(2,.ptr 0 0 0),(3,.ptr 1 0 0),(4,.ptr 2 0 0),(5,.int v1),(6,.ptr 3 0 0),(7,.int x1.2.2),(8,.int v3),(9,.int v4),(10,.int x2.2.2),(11,.int x3.2.2),(12,.own 5 0 ((x4.1.set ((wr ((wr (v11+(wr (x4.2*v12))))+x3.2.2)).toNat) v17).length)),(13,.int x4.2)] [(0,⟨6,[eR a0]⟩),(1,⟨6,[eR a1]⟩),(2,⟨3,[fJ]⟩),(3,⟨3,[[.int x3.1,.int v1,.own 4 0 x3.2.1.length]]⟩),(4,⟨1,x3.2.1.map (ow eI)⟩),(5,⟨1,List.map (ow eI) (x4.1.set ((wr ((wr (v11+(wr (x4.2*v12))))+x3.2.2)).toNat) v17)⟩)] 6) (bU (jU 10 k2 (fU ⟨_,k,⟨k,k,(by simp only [aG,lA,lT,lR,lC,lN]),k⟩⟩ (bJ k2))) (bF k<|bF k<|bF k<|eC k<|bO k<|bO k<|aU) k4) ?_;exact rg<|am k k<|ae (bG k k) k<|aT k2<|sp h ⟨_,k,(bU (bJ k2) (bF k<|bF k<|bF k<|eC k<|bO k<|bO k<|aU) k4)⟩
    ·rintro e t ⟨rfl,hent⟩;refine aM<|tn<|aD hent<|sQ<|sR<|aT k2<|aC<|oB h λy30 hy30 h=>bZ (body:=(iA a0 a1 v3 v4 x1 x2 x3)) hy30 (λ(x5:((List Int)×Int))=>mN [(2,.ptr 0 0 0),(3,.ptr 1 0 0),(4,.ptr 2 0 0),(5,.int v1),(6,.ptr 3 0 0),(7,.int x1.2.2),(8,.int v3),(9,.int v4),(10,.int x2.2.2),(11,.int x3.2.2),(12,.own 5 0 x5.1.length),(15,.int x5.2)] [(0,⟨6,[eR a0]⟩),(1,⟨6,[eR a1]⟩),(2,⟨3,[fJ]⟩),(3,⟨3,[[.int x3.1,.int v1,.own 4 0 x3.2.1.length]]⟩),(4,⟨1,x3.2.1.map (ow eI)⟩),(5,⟨1,x5.1.map (ow eI)⟩)] 6) (λr e t=>e= .exit 8∧Ent t (mN [(2,.ptr 0 0 0),(3,.ptr 1 0 0),(4,.ptr 2 0 0),(5,.int v1),(6,.ptr 3 0 0),(7,.int x1.2.2),(8,.int v3),(9,.int v4),(10,.int x2.2.2),(11,.int x3.2.2),(12,.own 5 0 r.length)] [(0,⟨6,[eR a0]⟩),(1,⟨6,[eR a1]⟩),(2,⟨3,[fJ]⟩),(3,⟨3,[[.int x3.1,.int v1,.own 4 0 x3.2.1.length]]⟩),(4,⟨1,x3.2.1.map (ow eI)⟩),(5,⟨1,r.map (ow eI)⟩)] 6)) (bU (bJ k2) (bF k<|bF k<|bF k<|eC k<|bO k<|bO k<|aU) k4) ?_ ?_
     ·intro x5 o h;refine sQ<|sR<|am k k<|fp k8<|lp k8<|am k k<|oB h λv20 hv20 h=>ae (xl hv20 k) k<|lr k7<|cm k4<|an<|tn<|cW k h (λ_ h=>?_) λ_ h=>aX<|aB<|aB<|sp h ⟨_,k,k,(bU (bJ k2) (bF k<|bF k<|bF k<|eC k<|bO k<|bO k<|aU) k4)⟩;refine aH<|tn<|sQ<|aC<|sQ<|aP eP<|lp k8<|lp k8<|am k k<|oB h λv22 hv22 h=>ae (aS (aFP a0 a1 v4 v22 hv22) k (aI (eD k) (aI (eD k) (cI k aN)))) k<|am k k<|fp k8<|lp k8<|am k k<|oB h λv23 hv23 h=>ae (xl hv23 k) k<|lr k7<|ae (eZ k k) k<|ae (bG k k) k<|am k k<|ae (bG k k) k<|aa k k<|an<|lL (by kernel_rfl)<|tn<|aP eP<|am k k<|am k k<|fp k8<|lp k8 ?_;refine am k k<|am k k<|oB h λv24 hv24 h=>ae (xo hv24 k) k<|ae (wp hv24 k) k<|fp k8<|lp k8<|am k k<|oB h λv25 hv25 h=>ae (xl hv25 k) k<|ae (lX aO k k k k k k) k<|lr k7<|am k k<|fp k8<|lp k8<|am k k<|oB h λv26 hv26 h=>ae (xl hv26 k) k<|lr k7<|ae (eZ k k) k<|am k k<|ae (bG k k) k<|oB h λv27 hv27 h=>ae (xl hv27 k) k<|lr k7<|ae (uS k k) k<|oB h λv28 hv28 h=>ae (aS (jX a0.p (wr (v24 - v27)) v28 hv28) k (cI k (cI k aN))) k<|oB h λv29 hv29 h=>ae (xo hv29 k) k<|ae (fY aO jT (u:=v28) (dF hv29) k k k k k k) k<|an<|lL (by kernel_rfl)<|aY<|tn<|aD (t:=mN [(2,.ptr 0 0 0),(3,.ptr 1 0 0),(4,.ptr 2 0 0),(5,.int v1),(6,.ptr 3 0 0),(7,.int x1.2.2),(8,.int v3),(9,.int v4),(10,.int x2.2.2),(11,.int x3.2.2),(12,.own 5 0 ((x5.1.set ((wr ((wr (v22+(wr (x2.2.2*v23))))+x5.2)).toNat) v28).length)),(15,.int x5.2)] [(0,⟨6,[eR a0]⟩),(1,⟨6,[eR a1]⟩),(2,⟨3,[fJ]⟩),(3,⟨3,[[.int x3.1,.int v1,.own 4 0 x3.2.1.length]]⟩),(4,⟨1,x3.2.1.map (ow eI)⟩),(5,⟨1,List.map (ow eI) (x5.1.set ((wr ((wr (v22+(wr (x2.2.2*v23))))+x5.2)).toNat) v28)⟩)] 6) (bU (jU 10 k2 (fU ⟨_,k,⟨k,k,(by simp only [aG,lA,lT,lR,lC,lN]),k⟩⟩ (bJ k2))) (bF k<|bF k<|bF k<|eC k<|bO k<|bO k<|aU) k4) ?_;exact rg<|am k k<|ae (bG k k) k<|aT k2<|sp h ⟨_,k,(bU (bJ k2) (bF k<|bF k<|bF k<|eC k<|bO k<|bO k<|aU) k4)⟩
     ·rintro e t ⟨rfl,hent⟩;exact aM<|tn<|aD hent<|sR<|fp k8<|lp k8<|ae (bG k k) k<|fp k8<|ae (ws k) k<|an<|tn<|rg<|fp k8<|lp k8<|am k k<|cG h λq31 h=>ae (oH aO (l:=x3.2.1) (m:=y30) jT q31 k k k k k (aSN cU k k) k k k k k k) k<|fp k8<|ae (ws k) k<|an<|aY<|tn<|rg<|am k k<|ae (bG k k) k<|aT k2<|sp h ⟨_,k,(gA [0,1,2,3,6] (bJ k2) (bF k<|bF k<|bF k<|eC k<|bO k<|aU) k4)⟩
   ·rintro e t ⟨rfl,hent⟩;exact aM<|aY<|tn<|aD hent<|rg<|am k k<|ae (bG k k) k<|aT k2<|sp h ⟨_,k,(bU (bJ k2) (bF k<|bF k<|bF k<|eC k<|bO k<|aU) k4)⟩
  ·rintro e t ⟨rfl,hent⟩;exact aM<|aY<|tn<|aD hent<|rg<|am k k<|ae (bG k k) k<|aT k2<|sp h ⟨_,k,(bU (bJ k2) (bF k<|bF k<|bF k<|eC k<|bO k<|aU) k4)⟩
 ·rintro e t ⟨rfl,hent⟩;exact aM<|tn<|aD hent<|sR<|lp k8<|ae (ws k) k<|an<|tn<|aE<|sp h (bC k k k (gW (aZ (k) (aZ (k) (aZ (cN cU k k) eJ)))))
def iO (a0:Rp) (a1:Rp) (a2:(List Int)) (x1:((List Mt)×Int×Int)):Option (((List Mt)×Int×Int) ⊕ (List Mt)):=
 bif decide (x1.2.2<(a0.dims.length:Int)) then
 ((cP a0.dims x1.2.2).bind λv2=>
 (cP a1.dims x1.2.2).bind λv3=>
 (cP a1.dims x1.2.2).bind λv4=>
 (cP a0.dims x1.2.2).bind λv5=>
 bif (decide (0≤x1.2.1)&&(decide (x1.2.1≤wr (x1.2.1+(wr (v2*v3))))&&decide (wr (x1.2.1+(wr (v2*v3)))≤(a2.length:Int)))) then
 (bif decide (([]:(List Int)).length +((a2.drop x1.2.1.toNat).take ((wr (x1.2.1+(wr (v2*v3)))).toNat - x1.2.1.toNat)).length ≤4294967296) then
 (bif decide (x1.1.length+1≤4294967296) then
 (some (.inl ((x1.1++[(⟨v4,v5,(([]:(List Int))++((a2.drop x1.2.1.toNat).take ((wr (x1.2.1+(wr (v2*v3)))).toNat - x1.2.1.toNat)))⟩:Mt)]),wr (x1.2.1+(wr (v2*v3))),wr (x1.2.2+1))))
 else none)
 else none)
 else none)
 else
 (some (.inr x1.1))
def jQ (a0:Rp) (a1:Rp) (a2:(List Int)):Option (List Mt):=
 (Lp (iO a0 a1 a2) (([]:(List Mt)),0,0)).bind λy9=>
 some (y9)
theorem aCi (a0:Rp) (a1:Rp) (a2:(List Int)) (r:(List Mt)) (h:jQ a0 a1 a2=some r):HasC Tryz.prog 202 [.agg (eR a0),.agg (eR a1),.list 1 (a2.map eI)] (.list 3 (r.map eM)):=by
 refine hM [.tmp 6] Tryz.func202 Tryz.ntmps202 k<|sR<|ae (wb k) k<|ae (wb k) k<|aT k2<|sR<|ae (wl k) k<|aT k2<|aD (t:=mN [(2,.list 1 (a2.map eI)),(3,.ptr 0 0 0),(4,.ptr 1 0 0),(7,.own 2 0 (([]:(List Mt)).length))] [(0,⟨6,[eR a0]⟩),(1,⟨6,[eR a1]⟩),(2,⟨3,List.map (ow eM) ([]:(List Mt))⟩)] 3) (bU (jU 3 k2 (fU ⟨_,k,⟨k,k,(by simp only [aG,lA,lT,lR,lC,lN]),k⟩⟩ aU)) (bF k<|bF k<|cA (bK.plainO _) k<|aU) k4)<|sR<|aT k2<|sQ<|sR<|aT k2<|aC<|oB h λy9 hy9 h=>bZ (body:=(iO a0 a1 a2)) hy9 (λ(x1:((List Mt)×Int×Int))=>mN [(2,.list 1 (a2.map eI)),(3,.ptr 0 0 0),(4,.ptr 1 0 0),(7,.own 2 0 x1.1.length),(8,.int x1.2.1),(9,.int x1.2.2)] [(0,⟨6,[eR a0]⟩),(1,⟨6,[eR a1]⟩),(2,⟨3,x1.1.map (ow eM)⟩)] 3) (λr e t=>e= .exit 0∧Ent t (mN [(7,.own 0 0 r.length)] [(0,⟨3,r.map (ow eM)⟩)] 1)) (bU (bJ k2) (bF k<|bF k<|cA (bK.plainO _) k<|aU) k4) ?_ ?_
 ·intro x1 o h;refine sQ<|sR<|am k k<|fp k8<|lp k8<|ln k4<|cm k4<|an<|tn<|cW k h (λ_ h=>?_) λ_ h=>aX<|aB<|aB<|sp h ⟨_,k,k,(gA [2] (bJ k2) (cA (bK.plainO _) k<|aU) k4)⟩;refine aH<|tn<|sQ<|aC<|sQ<|aP eP<|fp k8<|lp k8<|am k k<|oB h λv2 hv2 h=>ae (xl hv2 k) k<|lr k7<|fp k8<|lp k8<|am k k<|oB h λv3 hv3 h=>ae (xl hv3 k) k<|lr k7<|ae (eZ k k) k<|aa k k<|an<|lL (by kernel_rfl)<|tn<|sQ<|aP eP<|am k k<|fp k8<|lp k8<|am k k<|oB h λv4 hv4 h=>ae (xl hv4 k) k<|lr k7 ?_;refine fp k8<|lp k8<|am k k<|oB h λv5 hv5 h=>ae (xl hv5 k) k<|lr k7<|ae (wl k) k<|am k k<|am k k<|am k k<|am k k<|ae (bG k k) k<|cG h λq6 h=>ae (aCN aO (l0:=a2) (l:=x1.2.1) (h:=wr (x1.2.1+(wr (v2*v3)))) q6 k k k k k k k) k<|cG h λq7 h=>ae (oH aO (l:=([]:(List Int))) (m:=((a2.drop x1.2.1.toNat).take ((wr (x1.2.1+(wr (v2*v3)))).toNat - x1.2.1.toNat))) jT q7 k k k k k k k k k k k k) k<|ae (gC aO k k k k k k) k<|ae (wl k) k<|cG h λq8 h=>ae (eW aO (l:=x1.1) (c:=[.int v4,.int v5,.own 4 0 ((([]:(List Int))++((a2.drop x1.2.1.toNat).take ((wr (x1.2.1+(wr (v2*v3)))).toNat - x1.2.1.toNat))).length)]) q8 k k k k k k k k k k k k k k) k<|aa k k<|an<|lL (by kernel_rfl)<|tn<|aD (t:=mN [(2,.list 1 (a2.map eI)),(3,.ptr 0 0 0),(4,.ptr 1 0 0),(7,.own 6 0 ((x1.1++[(⟨v4,v5,(([]:(List Int))++((a2.drop x1.2.1.toNat).take ((wr (x1.2.1+(wr (v2*v3)))).toNat - x1.2.1.toNat)))⟩:Mt)]).length)),(8,.int x1.2.1),(9,.int x1.2.2),(10,.int (wr (v2*v3)))] [(0,⟨6,[eR a0]⟩),(1,⟨6,[eR a1]⟩),(6,⟨3,List.map (ow eM) (x1.1++[(⟨v4,v5,(([]:(List Int))++((a2.drop x1.2.1.toNat).take ((wr (x1.2.1+(wr (v2*v3)))).toNat - x1.2.1.toNat)))⟩:Mt)])⟩)] 7) (Ent.trans (dB (b:=6) (b':=4) (j:=2) (es':=List.map eI (([]:(List Int))++((a2.drop x1.2.1.toNat).take ((wr (x1.2.1+(wr (v2*v3)))).toNat - x1.2.1.toNat)))) k k k k (aG _ _) (cU.frzs _)) (bU (jU 3 k2 (fU ⟨_,k,⟨k,k,(by simp only [aG,lA,lT,lR,lC,lN]),k⟩⟩ (bJ k2))) (bF k<|bF k<|hX ⟨_,k,k,.inl ⟨fD (⟨v4,v5,(([]:(List Int))++((a2.drop x1.2.1.toNat).take ((wr (x1.2.1+(wr (v2*v3)))).toNat - x1.2.1.toNat)))⟩:Mt) k,bK.plainO _⟩⟩ k<|aU) k4))<|rg<|am k k<|am k k<|ae (bG k k) k<|aa k k<|an<|aY<|tn<|rg ?_;exact am k k<|ae (bG k k) k<|aT k2<|sp h ⟨_,k,(gA [0,1,6] (bJ k2) (bF k<|bF k<|cA (bK.plainO _) k<|aU) k4)⟩
 ·rintro e t ⟨rfl,hent⟩;exact aM<|tn<|aD hent<|sR<|am k k<|aT k2<|aE<|sp h (bC k k k (eV (cN bK k k)))
def gP (a0:Rp) (a1:Rp) (v4:(List (List Int))) (x1:((List (List Mt))×Int)):Option (((List (List Mt))×Int) ⊕ (List (List Mt))):=
 bif decide (x1.2<((v4.length:Nat):Int)) then
 ((cP v4 x1.2).bind λv6=>
 (jQ a0 a1 v6).bind λv7=>
 bif decide (x1.1.length+1≤4294967296) then
 (some (.inl ((x1.1++[v7]),wr (x1.2+1))))
 else none)
 else
 (some (.inr x1.1))
def jR (a0:Rp) (a1:Rp):Option ((List (List Mt))×Bool):=
 (xB a0 a1).bind λv1=>
 bif !v1 then
 (some ((([]:(List (List Mt))),false)))
 else
 ((nP a0 a1).bind λv3=>
 (qH a0.p v3).bind λv4=>
 (Lp (gP a0 a1 v4) (([]:(List (List Mt))),0)).bind λy9=>
 some ((y9,true)))
theorem aCj (a0:Rp) (a1:Rp) (r:((List (List Mt))×Bool)) (h:jR a0 a1=some r):HasC Tryz.prog 138 [.agg (eR a0),.agg (eR a1)] (.tuple [.list 1 (r.1.map (dH 3 eM)),.bl r.2]):=by
 refine hM [.tmp 4,.tmp 5] Tryz.func138 Tryz.ntmps138 k<|sR<|ae (wb k) k<|ae (wb k) k<|aa k k<|aT k2<|sR<|ae (wl k) k<|aT k2<|aD (t:=mN [(2,.ptr 0 0 0),(3,.ptr 1 0 0),(6,.own 2 0 (([]:(List (List Mt))).length))] [(0,⟨6,[eR a0]⟩),(1,⟨6,[eR a1]⟩),(2,⟨1,List.map (ow (dH 3 eM)) ([]:(List (List Mt)))⟩)] 3) (bU (jU 2 k2 (fU ⟨_,k,⟨k,k,(by simp only [aG,lA,lT,lR,lC,lN]),k⟩⟩ aU)) (bF k<|bF k<|cA (bY.plainO _) k<|aU) k4)<|sQ<|sR<|lp k8<|lp k8<|oB h λv1 hv1 h=>ae (aS (aFG a0 a1 v1 hv1) k (aI (eD k) (aI (eD k) aN))) k<|ae (dS k) k<|an<|tn<|cW k h (λ_ h=>sR<|am k k<|aa k k<|aT k2<|aE<|aJ<|sp h (bC k k k (cJ k (bD (dC (cN bY k k)) (bD (k) dW))))) λ_ h=>?_;refine aH<|tn<|sQ<|aP eP<|fp k8<|lp k8<|lp k8<|lp k8<|oB h λv3 hv3 h=>ae (cM (aDu a0 a1 v3 hv3) k3 (aI (eD k) (aI (eD k) aN))) k<|oB h λv4 hv4 h=>ae (cL bY (aCh a0.p v3 v4 hv4) k3 (cI k (aI (vaM k2) aN))) k<|aa k k<|an<|lL (by kernel_rfl)<|tn<|sQ<|sR<|aT k2<|aC<|oB h λy9 hy9 h=>bZ (body:=(gP a0 a1 v4)) hy9 (λ(x1:((List (List Mt))×Int))=>mN [(2,.ptr 0 0 0),(3,.ptr 1 0 0),(6,.own 2 0 x1.1.length),(7,.own 3 0 v4.length),(8,.int x1.2)] [(0,⟨6,[eR a0]⟩),(1,⟨6,[eR a1]⟩),(2,⟨1,x1.1.map (ow (dH 3 eM))⟩),(3,⟨1,v4.map (ow (dH 1 eI))⟩)] 4) (λr e t=>e= .exit 0∧Ent t (mN [(6,.own 0 0 r.length)] [(0,⟨1,r.map (ow (dH 3 eM))⟩)] 1)) (gA [0,1,2,4] (bJ k2) (bF k<|bF k<|cA (bY.plainO _) k<|cA (bY.plainO _) k<|aU) k4) ?_ ?_
 ·intro x1 o h;exact sQ<|sR<|am k k<|am k k<|ae (dI aO k k k k) k<|cm k4<|an<|tn<|cW k h (λ_ h=>aH<|tn<|sQ<|aC<|aP eP<|am k k<|lp k8<|lp k8<|am k k<|am k k<|oB h λv6 hv6 h=>ae (xo hv6 k) k<|ae (wp hv6 k) k<|oB h λv7 hv7 h=>ae (cL bK (aCi a0 a1 v6 v7 hv7) k3 (aI (eD k) (aI (eD k) (cI k aN)))) k<|ae (wl k) k<|cG h λq8 h=>ae (eW aO (l:=x1.1) (c:=[.own 4 0 v7.length]) q8 k k k k k k k k k k k k k k) k<|aa k k<|an<|lL (by kernel_rfl)<|aY<|tn<|aD (t:=mN [(2,.ptr 0 0 0),(3,.ptr 1 0 0),(6,.own 6 0 ((x1.1++[v7]).length)),(7,.own 3 0 v4.length),(8,.int x1.2)] [(0,⟨6,[eR a0]⟩),(1,⟨6,[eR a1]⟩),(3,⟨1,v4.map (ow (dH 1 eI))⟩),(6,⟨1,List.map (ow (dH 3 eM)) (x1.1++[v7])⟩)] 7) (Ent.trans (dB (b:=6) (b':=4) (j:=0) (es':=v7.map eM) k k k k (aG _ _) (bK.frzs _)) (bU (jU 2 k2 (fU ⟨_,k,⟨k,k,(by simp only [aG,lA,lT,lR,lC,lN]),k⟩⟩ (bJ k2))) (bF k<|bF k<|cA (bY.plainO _) k<|hX ⟨_,k,k,.inl ⟨fD v7 k,bY.plainO _⟩⟩ k<|aU) k4))<|rg<|am k k<|ae (bG k k) k<|aT k2<|sp h ⟨_,k,(gA [0,1,6,3] (bJ k2) (bF k<|bF k<|cA (bY.plainO _) k<|cA (bY.plainO _) k<|aU) k4)⟩) λ_ h=>aX<|aB<|aB<|sp h ⟨_,k,k,(gA [2] (bJ k2) (cA (bY.plainO _) k<|aU) k4)⟩
 ·rintro e t ⟨rfl,hent⟩;exact aM<|tn<|aD hent<|sR<|am k k<|aa k k<|aT k2<|aE<|sp h (bC k k k (cJ k (bD (dC (cN bY k k)) (bD (k) dW))))
def yV (a0:Rp) (a1:Rp):Option Int:=
 (jR a0 a1).bind λv1=>
 bif !v1.2 then
 (some ((-1)))
 else
 (some (((v1.1.length:Nat):Int)))
theorem aJn (a0:Rp) (a1:Rp) (r:Int) (h:yV a0 a1=some r):HasC Tryz.prog 75 [.agg (eR a0),.agg (eR a1)] (.int r):=by
 exact hM [.tmp 4] Tryz.func75 Tryz.ntmps75 k<|sR<|ae (wb k) k<|ae (wb k) k<|aT k2<|sR<|lp k8<|lp k8<|oB h λv1 hv1 h=>ae (cT bY (aCj a0 a1 v1 hv1) k3 (aI (eD k) (aI (eD k) aN))) k<|am k k<|ae (bA k k (by intro _ h;cases h)) k<|ae (bA k k (by intro _ h;cases h)) k<|aa k k<|aT k2<|sQ<|sR<|am k k<|ae (dS k) k<|an<|tn<|cW k h (λ_ h=>sR<|aT k2<|aE<|aJ<|rtI h k2) λ_ h=>aH<|tn<|sR<|am k k<|ae (dI aO k k k k) k<|aT k2<|aE<|rtI h k2
end
noncomputable section
set_option maxRecDepth 10000
set_option maxHeartbeats 4000000
end
noncomputable section
def rkF (p:Int) (m n:Nat) (F:Nat→Nat→Int):Nat:=(bW p m F n).2.length
theorem aUW {p:Int} (hp:kL p=true) (m n:Nat):wK p m n nI:=by
 have hb:=dZ hp;intro i j _ _;unfold nI;split <;> omega
def dN (r:Rp) (k:Nat):Nat:=(r.dims[k]?.getD 0).toNat
theorem zV {r:Rp} (h:rZ r=true):kL r.p=true∧aEC r.q r.dims=true∧r.maps.length=r.q.src.length∧ ∀ k,k<r.maps.length→aCn r.p (r.maps[k]?.getD ⟨0,0,[]⟩)=true∧(r.maps[k]?.getD ⟨0,0,[]⟩).cols=r.dims[(r.q.src[k]?.getD 0).toNat]?.getD 0∧(r.maps[k]?.getD ⟨0,0,[]⟩).rows=r.dims[(r.q.tgt[k]?.getD 0).toNat]?.getD 0:=by
 unfold rZ at h;simp only [cV,jE,qJ] at h;exact ⟨h.1,h.2.1,by omega,h.2.2.2⟩
theorem iP {c:Nat} {f g:Nat→Int} (h: ∀ j,j<c→f j=g j):eG c f=eG c g:=qU λj hj=>h j (List.mem_range.1 hj)
theorem aIp {c j:Nat} (hj:j<c) (f:Nat→Int) (v:Int):(eG c f).set j v=eG c (λb=>if b=j then v else f b):=by
 refine List.ext_getElem (by simp [eG]) λt h1 h2=>?_;rw [dL] at h2;rw [List.getElem_set];simp only [eG,List.getElem_map,List.getElem_range];by_cases e:j=t
 ·rw [aV e,aV e.symm]
 ·rw [aW e,aW (by omega)]
theorem aGB (c:Nat):List.replicate c (0:Int)=eG c (λ_=>0):=by
 refine List.ext_getElem (by simp [eG]) λt h1 h2=>?_;simp [eG]
theorem sq {a b:Nat} (ha:a≤4) (hb:b≤4):a*b≤1048576:=by have:=Nat.mul_le_mul ha hb;omega
theorem aFQ (c:Nat) (f:Nat→Nat→Int): ∀ n,((List.range n).map λi=>eG c (f i)).flatten=bT n c f
 |0=>by simp [bT]
 |n+1=>by
  rw [List.range_succ,List.map_append,List.flatten_append,aFQ c f n];unfold bT;rw [Nat.succ_mul,List.range_add,List.map_append];congr 1;simp only [List.map_cons,List.map_nil,List.flatten_cons,List.flatten_nil,List.append_nil,List.map_map,eG];refine qU λj hj=>?_;have hj:=List.mem_range.1 hj;simp only [Function.comp];rw [aAj hj,aAk hj]
theorem aKr {l:List (List Int)} (h: ∀ x∈l,x.length≤1024):l.flatten.length≤1024*l.length:=by
 induction l with
 |nil=>simp
 |cons x l ih=>
  have h1:=h x (by simp);have h2:=ih λy hy=>h y (by simp [hy]);simp only [List.flatten_cons,List.length_append,List.length_cons];omega
theorem aAd {l:List (List Int)} {k:Nat} (hk:k<l.length):(l.take (k+1)).flatten=(l.take k).flatten++l[k]:=by
 rw [uH hk,List.flatten_append];simp
theorem aSi {l:List (List Int)} (hl:l.length≤512) (h: ∀ x∈l,x.length≤1024):iV l=some l.flatten:=by
 have hb: ∀ k,(l.take k).flatten.length ≤1024*512:=λk=>by
  have:=aKr (l:=l.take k) λx hx=>h x (List.mem_of_mem_take hx);have h2:(l.take k).length ≤512:=by simp;omega
  omega
 unfold iV;rw [cF (r:=(l.flatten.length:Int)) (λk=>(((l.take k).flatten.length:Int),(k:Int))) l.length (by simp) (λk hk=>?_) (λ_=>?_),aA]
 ·have e:=hb l.length;rw [List.take_length] at e;unfold aOs;rw [bB (by omega),bB (by omega:(l.flatten.length:Int)≤1048576),Bool.and_self,aL,aA];rw [cF (r:=l.flatten) (λk=>((l.take k).flatten,(k:Int))) l.length (by simp) (λk hk=>?_) (λ_=>?_),aA]
  ·unfold gV;simp only;have e2:=hb (k+1);rw [aAd hk,List.length_append] at e2;rw [fX hk,aL,cZ hk,aA,bB (by omega),aL,bP hk (by omega),aAd hk]
  ·unfold gV;simp only;rw [gI (bH _),aR,List.take_length]
 ·unfold gU;simp only;have e2:=hb (k+1);rw [aAd hk,List.length_append] at e2;rw [fX hk,aL,cZ hk,aA,dV (x:=_+_) (by omega),dM (by omega),aR,bP hk (by omega),aAd hk,List.length_append,Int.natCast_add (List.take k l).flatten.length l[k].length]
 ·unfold gU;simp only;rw [gI (bH _),aR,List.take_length]
end
noncomputable section
def sN (f:Nat→Int):Nat→Int
 |0=>0
 |k+1=>sN f k+f k
theorem cO {f g:Nat→Int} : ∀ {n:Nat},(∀ k,k<n→f k=g k)→sN f n=sN g n
 |0,_=>rfl
 |n+1,h=>by rw [sN,sN,cO λk hk=>h k (by omega),h n (by omega)]
theorem aIq (f g:Nat→Int): ∀ n,sN (λk=>f k+g k) n=sN f n+sN g n
 |0=>rfl
 |n+1=>by rw [sN,sN,sN,aIq f g n];omega
theorem aIr (c:Int) (f:Nat→Int): ∀ n,sN (λk=>c*f k) n=c*sN f n
 |0=>by simp [sN]
 |n+1=>by rw [sN,sN,aIr c f n,Int.mul_add]
theorem yW: ∀ n,sN (λ_=>0) n=0
 |0=>rfl
 |n+1=>by rw [sN,yW n];rfl
theorem aAJ {f:Nat→Int} {j:Nat} : ∀ {n:Nat},j<n→(∀ k,k<n→k≠j→f k=0)→sN f n=f j
 |0,h,_=>absurd h (Nat.not_lt_zero _)
 |n+1,h,hz=>by
  rw [sN];by_cases e:j=n
  ·subst e;rw [cO (g:=λ_=>0) λk hk=>hz k (by omega) (by omega),yW];omega
  ·rw [aAJ (j:=j) (by omega) λk hk hj=>hz k (by omega) hj,hz n (by omega) (by omega)];omega
def Z0 (p x:Int):Prop:=x % p=0
theorem aIs {p x y:Int} (h:Z0 p x) (k:Z0 p y):Z0 p (x+y):=by unfold Z0 at*;rw [Int.add_emod,h,k];simp
theorem aBZ {p x:Int} (c:Int) (h:Z0 p x):Z0 p (c*x):=by unfold Z0 at*;rw [Int.mul_emod,h];simp
theorem aKs {p:Int} {f g:Nat→Int} : ∀ {n:Nat},(∀ k,k<n→f k % p=g k % p)→sN f n % p=sN g n % p
 |0,_=>rfl
 |n+1,h=>by rw [sN,sN,Int.add_emod,aKs λk hk=>h k (by omega),h n (by omega),←Int.add_emod]
theorem zW {p x y:Int} (h:x % p=y % p) (k:Z0 p x):Z0 p y:=by unfold Z0 at*;rw [←h];exact k
def dt (n:Nat) (f x:Nat→Int):Int:=sN (λk=>f k*x k) n
def Kr (p:Int) (m n:Nat) (F:Nat→Nat→Int) (x:Nat→Int):Prop:= ∀ i,i<m→Z0 p (dt n (F i) x)
theorem aIt {p:Int} {n:Nat} {f g x:Nat→Int} (h: ∀ k,k<n→f k % p=g k % p):dt n f x % p=dt n g x % p:=by
 unfold dt;refine aKs λk hk=>?_;rw [Int.mul_emod,h k hk,←Int.mul_emod]
theorem aSj {n:Nat} {f g x:Nat→Int} (c:Int):dt n (λk=>f k+c*g k) x=dt n f x+c*dt n g x:=by
 unfold dt;rw [←aIr,←aIq];refine cO λk hk=>?_;rw [Int.add_mul,Int.mul_assoc]
theorem aQJ {n:Nat} {f x:Nat→Int} (c:Int):dt n (λk=>c*f k) x=c*dt n f x:=by
 unfold dt;rw [←aIr];refine cO λk hk=>?_;rw [Int.mul_assoc]
theorem aSk {p:Int} (hp:kL p=true) {m n k r j:Nat} (hj:j<n) (hk:k<m) (hr:r<m) {F:Nat→Nat→Int} (hin:wK p m n F) (hrj:F r j≠0) (x:Nat→Int):Kr p m n (fH p F k r j) x↔Kr p m n F x:=by
 have hb:=dZ hp;have hrb:=hin r j hr hj;have hiv:=aSG hp (r:=F r j) ⟨by omega,by omega⟩;generalize hs:aBj p (F r j)=s at*;have hrow: ∀ c,fH p F k r j k c=(F r c*s) % p:=by intro c;simp [fH,xW,rW,wQ,hs]
 have hoth: ∀ i c,i≠k→fH p F k r j i c=((if i=r then F k c else F i c) - (if i=r then F k j else F i j)*fH p F k r j k c) % p:=by
  intro i c hi;simp [fH,xW,rW,wQ,hi,hs]
 have e1:dt n (fH p F k r j k) x % p=(s*dt n (F r) x) % p:=by
  rw [←aQJ];refine aIt λc hc=>?_;rw [hrow,Int.mul_comm,Int.emod_emod_of_dvd _ (Int.dvd_refl p)]
 have e2:dt n (F r) x % p=(F r j*dt n (fH p F k r j k) x) % p:=by
  rw [←aQJ];refine aIt λc hc=>?_;rw [hrow,Int.mul_emod,Int.emod_emod_of_dvd _ (Int.dvd_refl p),←Int.mul_emod,show F r j*(F r c*s)=(F r j*s)*F r c by rw [Int.mul_comm (F r c),Int.mul_assoc],Int.mul_emod,hiv.2.2];simp
 have e3: ∀ i,i≠k→ ∀ G:Nat→Int,(∀ c,G c=if i=r then F k c else F i c)→dt n (fH p F k r j i) x % p=(dt n G x+ -(G j)*dt n (fH p F k r j k) x) % p:=by
  intro i hi G hG;rw [←aSj];refine aIt λc hc=>?_;rw [hoth i c hi,Int.emod_emod_of_dvd _ (Int.dvd_refl p),←hG,←hG,Int.neg_mul,Int.sub_eq_add_neg]
 constructor
 ·intro h;have hkk:=h k hk;have hrr:Z0 p (dt n (F r) x):=by unfold Z0;rw [e2];exact aBZ _ hkk
  have key: ∀ i,i<m→i≠k→Z0 p (dt n (λc=>if i=r then F k c else F i c) x):=by
   intro i hi hik;have h1:=h i hi;unfold Z0 at h1;rw [e3 i hik (λc=>if i=r then F k c else F i c) (λc=>rfl)] at h1;have h2:=aIs (y:=(if i=r then F k j else F i j)*dt n (fH p F k r j k) x) h1 (aBZ _ hkk);refine zW (congrArg (· % p) ?_) h2;rw [Int.neg_mul];omega
  intro i hi;by_cases e:i=r
  ·subst e;exact hrr
  ·by_cases e4:i=k
   ·subst e4;have:=key r hr (λh=>e h.symm);simpa using this
   ·have:=key i hi e4;simpa [e] using this
 ·intro h;have hkk:Z0 p (dt n (fH p F k r j k) x):=by unfold Z0;rw [e1];exact aBZ _ (h r hr)
  intro i hi;by_cases e:i=k
  ·subst e;exact hkk
  ·unfold Z0;rw [e3 i e (λc=>if i=r then F k c else F i c) (λc=>rfl)];refine aIs ?_ (aBZ _ hkk);by_cases e4:i=r
   ·simp only [e4,if_true];exact h k hk
   ·simp only [e4,if_false];exact h i hi
theorem aAY {p:Int} (hp:kL p=true) {m n:Nat} {F:Nat→Nat→Int} (hin:wK p m n F) (x:Nat→Int): ∀ t,t≤n→(Kr p m n (bW p m F t).1 x↔Kr p m n F x)
 |0,_=>Iff.rfl
 |t+1,ht=>by
  have ih:=aAY hp hin x t (by omega);have hin2:=qD (by have:=dZ hp;omega:0<p) hin t;have hlen:= @oG p m F t;show Kr p m n (gT p m (bW p m F t) t).1 x↔_;unfold gT;split
  ·exact ih
  ·rename_i h1;have hle:= @aAl (bW p m F t).1 t (m - (bW p m F t).2.length) (bW p m F t).2.length;have hh:= @aDa (bW p m F t).1 t (m - (bW p m F t).2.length) (bW p m F t).2.length (by omega);refine Iff.trans ?_ ih;exact aSk hp (by omega) (by omega) (by omega) hin2 hh x
def kx (F:Nat→Nat→Int) (L:List Nat) (k:Nat):Nat→Int:=λc=>if c=k then 1 else -(sN (λi=>if L[i]?.getD 0=c then F i k else 0) L.length)
theorem aKt {m n:Nat} {F:Nat→Nat→Int} {L:List Nat} (h:Red m n F L) {k:Nat} (hk:k<n) (hL: ∀ i,i<L.length→L[i]?.getD 0≠k) (g:Nat→Int):dt n g (kx F L k)=g k - sN (λi=>g (L[i]?.getD 0)*F i k) L.length:=by
 have key: ∀ a,a≤L.length→sN (λc=>g c*(if c=k then 1 else -(sN (λi=>if L[i]?.getD 0=c then F i k else 0) a))) n=g k - sN (λi=>g (L[i]?.getD 0)*F i k) a:=by
  intro a;induction a with
  |zero=>
   intro _;rw [aAJ (j:=k) hk]
   ·rw [aV rfl];simp [sN]
   ·intro c hc hck;rw [aW hck];simp [sN]
  |succ a ih=>
   intro ha;have ih:=ih (by omega);have hlt:=h.lt a (by omega);have hne:=hL a (by omega)
   have e:sN (λc=>g c*(if c=k then 1 else -(sN (λi=>if L[i]?.getD 0=c then F i k else 0) (a+1)))) n
     =sN (λc=>g c*(if c=k then 1 else -(sN (λi=>if L[i]?.getD 0=c then F i k else 0) a))+(if c=L[a]?.getD 0 then -(g c*F a k) else 0)) n:=by
    refine cO λc hc=>?_;by_cases e1:c=k
    ·rw [aV e1,aV e1,aW (by omega)];omega
    ·rw [aW e1,aW e1];simp only [sN];by_cases e2:c=L[a]?.getD 0
     ·rw [aV e2,aV e2.symm,Int.neg_add,Int.mul_add,Int.mul_neg (g c) (F a k)]
     ·rw [aW e2,aW (λh=>e2 h.symm)];simp
   rw [e,aIq,ih,aAJ (j:=L[a]?.getD 0) hlt (λc _ hc=>aW hc),aV rfl];simp only [sN];omega
 have:=key L.length (bH _);exact this
theorem aGC {p:Int} {m n:Nat} {F:Nat→Nat→Int} {L:List Nat} (h:Red m n F L) {k:Nat} (hk:k<n) (hL: ∀ i,i<L.length→L[i]?.getD 0≠k):Kr p m n F (kx F L k):=by
 intro i hi;rw [aKt h hk hL];rcases dX i L.length with hl|hl
 ·rw [aAJ (j:=i) hl]
  ·rw [h.one i hl];unfold Z0;rw [Int.one_mul,Int.sub_self];simp
  ·intro t ht hti;rw [h.col t i ht hi (λe=>hti e.symm)];simp
 ·rw [h.low i k hl hi hk,cO (g:=λ_=>0) λt ht=>by rw [h.low i _ hl hi (h.lt t ht)];simp];rw [yW];unfold Z0;simp
theorem aLv {p:Int} (hp:kL p=true) {m m' n:Nat} {F G:Nat→Nat→Int} {L M:List Nat} (hF:Red m n F L) (hG:Red m' n G M) (hK: ∀ x,Kr p m n F x→Kr p m' n G x) {t:Nat} (ht:t<M.length): ∃ i,i<L.length∧L[i]?.getD 0=M[t]?.getD 0:=by
 have hb:=dZ hp;refine Classical.byContradiction λhn=>?_;have hL: ∀ i,i<L.length→L[i]?.getD 0≠M[t]?.getD 0:=λi hi e=>hn ⟨i,hi,e⟩;have hk:=hG.lt t ht;have h1:=hK _ (aGC (p:=p) hF hk hL) t (by have:=hG.len;omega);rw [aKt hF hk hL,hG.one t ht,cO (g:=λ_=>0) λi hi=>?_,yW] at h1
 ·unfold Z0 at h1;rw [Int.sub_zero,Int.emod_eq_of_lt (by omega) (by omega)] at h1;cases h1
 ·rcases dX (L[i]?.getD 0) (M[t]?.getD 0) with e|e
  ·rw [hG.left t _ ht e];simp
  ·have:=hL i hi;rw [hF.left i _ hi (by omega)];simp
theorem aGD: ∀ {L M:List Nat},(∀ i k,i<k→k<L.length→L[i]?.getD 0<L[k]?.getD 0)→(∀ i k,i<k→k<M.length→M[i]?.getD 0<M[k]?.getD 0)→(∀ i,i<L.length→ ∃ j,j<M.length∧M[j]?.getD 0=L[i]?.getD 0)→(∀ j,j<M.length→ ∃ i,i<L.length∧L[i]?.getD 0=M[j]?.getD 0)→L=M
 | [],[],_,_,_,_=>rfl
 | [],y::M,_,_,_,h=>by obtain ⟨i,hi,_⟩:=h 0 (by simp);simp at hi
 |x::L,[],_,_,h,_=>by obtain ⟨i,hi,_⟩:=h 0 (by simp);simp at hi
 |x::L,y::M,hL,hM,h1,h2=>by
  have sL: ∀ i k,i<k→k<L.length→L[i]?.getD 0<L[k]?.getD 0:=λi k hik hk=>by have:=hL (i+1) (k+1) (by omega) (by simp;omega);simpa using this
  have sM: ∀ i k,i<k→k<M.length→M[i]?.getD 0<M[k]?.getD 0:=λi k hik hk=>by have:=hM (i+1) (k+1) (by omega) (by simp;omega);simpa using this
  have xL: ∀ i,i<L.length→x<L[i]?.getD 0:=λi hi=>by have:=hL 0 (i+1) (by omega) (by simp;omega);simpa using this
  have yM: ∀ i,i<M.length→y<M[i]?.getD 0:=λi hi=>by have:=hM 0 (i+1) (by omega) (by simp;omega);simpa using this
  have exy:x=y:=by
   obtain ⟨j,hj,e1⟩:=h1 0 (by simp);obtain ⟨i,hi,e2⟩:=h2 0 (by simp);simp at e1 e2
   have b1:y≤x:=by
    cases j with
    |zero=>simp at e1;omega
    |succ j=>simp at e1 hj;have:=yM j hj;omega
   have b2:x≤y:=by
    cases i with
    |zero=>simp at e2;omega
    |succ i=>simp at e2 hi;have:=xL i hi;omega
   omega
  subst exy;congr 1;refine aGD sL sM (λi hi=>?_) (λj hj=>?_)
  ·obtain ⟨j,hj,e⟩:=h1 (i+1) (by simp;omega);simp at e;have:=xL i hi;cases j with
   |zero=>simp at e;omega
   |succ j=>simp at e hj;exact ⟨j,hj,e⟩
  ·obtain ⟨i,hi,e⟩:=h2 (j+1) (by simp;omega);simp at e;have:=yM j hj;cases i with
   |zero=>simp at e;omega
   |succ i=>simp at e hi;exact ⟨i,hi,e⟩
theorem aPC {p:Int} (hp:kL p=true) {m m' n:Nat} {F G:Nat→Nat→Int} {L M:List Nat} (hF:Red m n F L) (hG:Red m' n G M) (iF:wK p m n F) (iG:wK p m' n G) (hK: ∀ x,Kr p m n F x↔Kr p m' n G x):L=M∧ ∀ i j,i<L.length→j<n→F i j=G i j:=by
 have e:L=M:=aGD hF.inc hG.inc (λi hi=>aLv hp hG hF (λx=>(hK x).2) hi) (λj hj=>aLv hp hF hG (λx=>(hK x).1) hj);subst e;refine ⟨rfl,λi k hi hk=>?_⟩;have hm:=hF.len;have hm':=hG.len;by_cases hL: ∃ t,t<L.length∧L[t]?.getD 0=k
 ·obtain ⟨t,ht,rfl⟩:=hL;by_cases e:i=t
  ·subst e;rw [hF.one i hi,hG.one i hi]
  ·rw [hF.col t i ht (by omega) e,hG.col t i ht (by omega) e]
 ·have hL: ∀ t,t<L.length→L[t]?.getD 0≠k:=λt ht e=>hL ⟨t,ht,e⟩;have h1:=(hK _).1 (aGC (p:=p) hF hk hL) i (by omega);rw [aKt hF hk hL,aAJ (j:=i) hi (λt ht hti=>by rw [hG.col t i ht (by omega) (λe=>hti e.symm)];simp),hG.one i hi,Int.one_mul] at h1;unfold Z0 at h1;have b1:=iF i k (by omega) hk;have b2:=iG i k (by omega) hk;have hd:=Int.dvd_of_emod_eq_zero h1;obtain ⟨c,hc⟩:=hd
  have hc0:c=0:=by
   rcases Int.lt_trichotomy c 0 with h|h|h
   ·have:=Int.mul_le_mul_of_nonneg_left (show c≤ -1 by omega) (by omega:0≤p);omega
   ·exact h
   ·have:=Int.mul_le_mul_of_nonneg_left (show 1≤c by omega) (by omega:0≤p);omega
  subst hc0;simp at hc;omega
theorem aLw {p:Int} (hp:kL p=true) {m m' n:Nat} {F G:Nat→Nat→Int} (iF:wK p m n F) (iG:wK p m' n G) (hK: ∀ x,Kr p m n F x↔Kr p m' n G x):(bW p m F n).2=(bW p m' G n).2∧ ∀ i j,i<(bW p m F n).2.length→j<n→(bW p m F n).1 i j=(bW p m' G n).1 i j:=by
 have hb:=dZ hp;refine aPC hp (aAm hp iF n (bH _)) (aAm hp iG n (bH _)) (qD (by omega) iF n) (qD (by omega) iG n) λx=>?_;rw [aAY hp iF x n (bH _),hK,aAY hp iG x n (bH _)]
end
noncomputable section
def off (l:Nat→Nat):Nat→Nat
 |0=>0
 |k+1=>off l k+l k
theorem aCU {l:Nat→Nat} {i k:Nat} (h:i≤k):off l i≤off l k:=by
 induction k with
 |zero=>have:i=0:=by omega
        subst this;exact bH _
 |succ k ih=>
  rcases dX k i with h'|h'
  ·have:i=k+1:=by omega
   subst this;exact bH _
  ·have:=ih h';show off l i≤off l k+l k;omega
theorem lO {l:Nat→Nat} {i k y:Nat} (hi:i<k) (hy:y<l i):off l i+y<off l k:=by
 have:= @aCU l (i+1) k hi;have e:off l (i+1)=off l i+l i:=rfl;omega
theorem aDj {l:Nat→Nat} : ∀ {k x:Nat},x<off l k→ ∃ i y,i<k∧y<l i∧x=off l i+y
 |0,x,h=>absurd h (Nat.not_lt_zero _)
 |k+1,x,h=>by
  rcases dX x (off l k) with h'|h'
  ·obtain ⟨i,y,h1,h2,h3⟩:=aDj h';exact ⟨i,y,by omega,h2,h3⟩
  ·have e:off l (k+1)=off l k+l k:=rfl;exact ⟨k,x - off l k,by omega,by omega,by omega⟩
theorem aQK {l:Nat→Nat} {i j y z:Nat} (hy:y<l i) (hz:z<l j) (h:off l i+y=off l j+z):i=j∧y=z:=by
 have e1:off l (i+1)=off l i+l i:=rfl;have e2:off l (j+1)=off l j+l j:=rfl;rcases Nat.lt_trichotomy i j with h1|h1|h1
 ·have:= @aCU l (i+1) j h1;omega
 ·subst h1;exact ⟨rfl,by omega⟩
 ·have:= @aCU l (j+1) i h1;omega
def cat (l:Nat→Nat) (f:Nat→Nat→Int):Nat→List Int
 |0=>[]
 |k+1=>cat l f k++(List.range (l k)).map (f k)
theorem iB (l:Nat→Nat) (f:Nat→Nat→Int): ∀ k,(cat l f k).length=off l k
 |0=>rfl
 |k+1=>by rw [cat,off,List.length_append,iB l f k];simp
theorem pS {l:Nat→Nat} (f:Nat→Nat→Int): ∀ {k i y:Nat},i<k→y<l i→(cat l f k)[off l i+y]? =some (f i y)
 |0,i,y,h,_=>absurd h (Nat.not_lt_zero _)
 |k+1,i,y,h,hy=>by
  rw [cat];by_cases e:i=k
  ·subst e;rw [List.getElem?_append_right (by rw [iB];omega),iB,Nat.add_sub_cancel_left];simp [hy]
  ·rw [List.getElem?_append_left (by rw [iB];exact lO (by omega) hy)];exact pS f (by omega) hy
theorem aCV {l:Nat→Nat} {f:Nat→Nat→Int} {k:Nat} {v:List Int} (hv:v.length=off l k) (h: ∀ i y,i<k→y<l i→v[off l i+y]? =some (f i y)):v=cat l f k:=by
 refine List.ext_getElem (by rw [iB,hv]) λx h1 h2=>?_;obtain ⟨i,y,hi,hy,rfl⟩:=aDj (hv▸h1);have a:=h i y hi hy;have b:=pS f hi hy;rw [gY h1] at a;rw [gY h2] at b;exact (Option.some.inj a).trans (Option.some.inj b).symm
theorem aBv {l:Nat→Nat} {f g:Nat→Nat→Int} {k:Nat} (h: ∀ i y,i<k→y<l i→f i y=g i y):cat l f k=cat l g k:=
 aCV (iB l f k) λi y hi hy=>by rw [pS f hi hy,h i y hi hy]
theorem aLx {l:Nat→Nat} {f:Nat→Nat→Int} {k i y:Nat} (hi:i<k) (hy:y<l i) (v:Int):(cat l f k).set (off l i+y) v=cat l (λa b=>if a=i∧b=y then v else f a b) k:=by
 refine aCV (by rw [List.length_set,iB]) λa b ha hb=>?_;rw [List.getElem?_set];by_cases e:off l i+y=off l a+b
 ·obtain ⟨rfl,rfl⟩:=aQK hy hb e;rw [aV rfl,aV (by rw [iB];exact lO hi hy),aV ⟨rfl,rfl⟩]
 ·rw [aW e,aW (by rintro ⟨rfl,rfl⟩;exact e rfl),pS f ha hb]
theorem aNY (l:Nat→Nat) (k:Nat):List.replicate (off l k) (0:Int)=cat l (λ_ _=>0) k:=aCV (by simp) λi y hi hy=>by simp [lO hi hy]
theorem aNZ {l:Nat→Nat} {f:Nat→Nat→Int} {k:Nat} : ∀ {n:Nat},k<n→((cat l f n).drop (off l k)).take (l k)=(List.range (l k)).map (f k):=by
 intro n hk;refine List.ext_getElem ?_ λx h1 h2=>?_
 ·have:= @aCU l (k+1) n hk;have e:off l (k+1)=off l k+l k:=rfl;simp [iB];omega
 ·have hx:x<l k:=by simpa using h2
  rw [List.getElem_take,List.getElem_drop];have:=pS f hk hx;rw [gY (by rw [iB];exact lO hk hx)] at this;simp [Option.some.inj this]
theorem aSl {r c:Nat} {g:Nat→Int} {F:Nat→Nat→Int} (h: ∀ y,y<r*c→g y=F (y / c) (y % c)):(List.range (r*c)).map g=bT r c F:=qU λy hy=>h y (List.mem_range.1 hy)
theorem aEc {r c y:Nat} (h:y<r*c):y / c<r∧y % c<c:=by
 have hc:0<c:=by rcases Nat.eq_zero_or_pos c with rfl|h';simp at h;exact h'
 exact ⟨Nat.div_lt_of_lt_mul (by rw [Nat.mul_comm];exact h),Nat.mod_lt _ hc⟩
theorem zX {c y:Nat} :y / c*c+y % c=y:=by rw [Nat.mul_comm];exact Nat.div_add_mod y c
theorem aSm {n:Nat} {L:List Nat} (hinc: ∀ i k,i<k→k<L.length→L[i]?.getD 0<L[k]?.getD 0) (hlt: ∀ x∈L,x<n):(zP n L).length +L.length=n:=by
 have key: ∀ t,((List.range t).filter λk=> !L.contains k).length +((List.range t).filter λk=>L.contains k).length=t:=by
  intro t;induction t with
  |zero=>simp
  |succ t ih=>
   rw [List.range_succ,List.filter_append,List.filter_append,List.length_append,List.length_append];cases h:L.contains t <;> simp only [List.filter_cons,List.filter_nil,h,eN,Bool.not_false,fV,if_true,if_false,List.length_cons,List.length_nil] <;> omega
 have e:(List.range n).filter (λk=>L.contains k)=L:=by
  have hL: ∀ i,i<L.length→L[i]?.getD 0<n:=λi hi=>hlt _ (by rw [gY hi];exact List.getElem_mem hi);have hS:((List.range n).filter λk=>L.contains k).Pairwise (· < ·):=List.Pairwise.filter _ List.pairwise_lt_range;refine aGD (λi k hik hk=>?_) hinc (λi hi=>?_) (λj hj=>?_)
  ·have:=List.pairwise_iff_getElem.1 hS i k (by omega) hk hik;rw [gY (by omega),gY hk];exact this
  ·have hm:=List.getElem_mem hi;rw [List.mem_filter] at hm;have h2:=List.contains_iff_mem.1 hm.2;obtain ⟨j,hj,he⟩:=List.mem_iff_getElem.1 h2;refine ⟨j,hj,?_⟩;rw [gY hj,gY hi];exact he
  ·have hm:L[j]∈(List.range n).filter λk=>L.contains k:=by
    rw [List.mem_filter];exact ⟨List.mem_range.2 (hlt _ (List.getElem_mem hj)),List.contains_iff_mem.2 (List.getElem_mem hj)⟩
   obtain ⟨i,hi,he⟩:=List.mem_iff_getElem.1 hm;refine ⟨i,hi,?_⟩;rw [gY hj,gY hi];exact he
 have:=key n;rw [e] at this;exact this
end
noncomputable section
def sV (r:Rp) (i:Nat):Nat:=(r.q.src[i]?.getD 0).toNat
def tV (r:Rp) (i:Nat):Nat:=(r.q.tgt[i]?.getD 0).toNat
def aF (r:Rp) (i:Nat):Nat→Nat→Int:=λj k=>(r.maps[i]?.getD ⟨0,0,[]⟩).cells[j*dN r (sV r i)+k]?.getD 0
structure Rv (r:Rp):Prop where
 hp:kL r.p=true
 n5:r.dims.length≤5
 d: ∀ k,k<r.dims.length→r.dims[k]?.getD 0=(dN r k:Int)∧dN r k≤4
 e6:r.q.src.length≤6
 tl:r.q.tgt.length=r.q.src.length
 ml:r.maps.length=r.q.src.length
 s: ∀ i,i<r.q.src.length→r.q.src[i]?.getD 0=(sV r i:Int)∧sV r i<r.dims.length
 t: ∀ i,i<r.q.src.length→r.q.tgt[i]?.getD 0=(tV r i:Int)∧tV r i<r.dims.length
 m: ∀ i,i<r.q.src.length→r.maps[i]?.getD ⟨0,0,[]⟩=⟨dN r (tV r i),dN r (sV r i),bT (dN r (tV r i)) (dN r (sV r i)) (aF r i)⟩∧wK r.p (dN r (tV r i)) (dN r (sV r i)) (aF r i)
theorem aDI {r:Rp} (h:rZ r=true):Rv r:=by
 obtain ⟨hp,hD,hml,hM⟩:=zV h;obtain ⟨hQ,hd1,hd2,_⟩:=kI hD;obtain ⟨n,hn,hn1,hn5,hq1,hq2,hq3,hq4⟩:=aBM hQ;have hdl:r.dims.length=n:=by omega
 have hd: ∀ k,k<r.dims.length→r.dims[k]?.getD 0=(dN r k:Int)∧dN r k≤4:=by
  intro k hk;have:=hd2 _ (iW 0 hk);unfold dN;omega
 have hs: ∀ i,i<r.q.src.length→r.q.src[i]?.getD 0=(sV r i:Int)∧sV r i<r.dims.length:=by
  intro i hi;have:=hq3 _ (iW 0 hi);unfold sV;omega
 have ht: ∀ i,i<r.q.src.length→r.q.tgt[i]?.getD 0=(tV r i:Int)∧tV r i<r.dims.length:=by
  intro i hi;have:=hq4 _ (iW 0 (show i<r.q.tgt.length by omega));unfold tV;omega
 refine ⟨hp,by omega,hd,hq2,by omega,hml,hs,ht,λi hi=>?_⟩;obtain ⟨g1,g2,g3⟩:=hM i (by omega);rw [show (r.q.src[i]?.getD 0).toNat=sV r i from rfl,(hd _ (hs i hi).2).1] at g2;rw [show (r.q.tgt[i]?.getD 0).toNat=tV r i from rfl,(hd _ (ht i hi).2).1] at g3;obtain ⟨_,a,b,F,ha,hb,he,hF⟩:=aOy g1;have ea:a=dN r (tV r i):=by rw [he] at g3;simp only at g3;omega
 have eb:b=dN r (sV r i):=by rw [he] at g2;simp only at g2;omega
 have em: ∀ j k,j<a→k<b→aF r i j k=F j k:=by
  intro j k hj hk;unfold aF;rw [he,←eb];simp only;rw [kM F hj hk];rfl
 subst ea;subst eb;rw [he];refine ⟨?_,λj k hj hk=>by rw [em j k hj hk];exact hF j k hj hk⟩;rw [cC em]
structure Fit (a b:Rp):Prop where
 ra:Rv a
 rb:Rv b
 pe:b.p=a.p
 qe:b.q=a.q
 ne:b.dims.length=a.dims.length
theorem aLy {a b:Rp} (h1:rZ a=true) (h2:rZ b=true) (hp:a.p=b.p) (hq:a.q=b.q):Fit a b:=by
 refine ⟨aDI h1,aDI h2,hp.symm,hq.symm,?_⟩;have e1:=(kI (zV h1).2.1).2.1;have e2:=(kI (zV h2).2.1).2.1;rw [hq] at e1;omega
theorem Fit.sV {a b:Rp} (h:Fit a b) (i:Nat):sV b i=sV a i:=by unfold Proofs.YtilpfdokmlanjaaGreatDoor.sV;rw [h.qe]
theorem Fit.tV {a b:Rp} (h:Fit a b) (i:Nat):tV b i=tV a i:=by unfold Proofs.YtilpfdokmlanjaaGreatDoor.tV;rw [h.qe]
def lV (a b:Rp) (v:Nat):Nat:=dN b v*dN a v
def lE (a b:Rp) (i:Nat):Nat:=dN b (tV a i)*dN a (sV a i)
theorem aPD {l:Nat→Nat} {c:Nat} : ∀ {k:Nat},(∀ i,i<k→l i≤c)→off l k≤c*k
 |0,_=>Nat.zero_le _
 |k+1,h=>by
  have h1:=aPD (c:=c) (k:=k) λi hi=>h i (by omega);have h2:=h k (by omega);show off l k+l k≤c*(k+1);rw [Nat.mul_succ];omega
theorem Fit.lV {a b:Rp} (h:Fit a b) {v:Nat} (hv:v<a.dims.length):lV a b v≤16:=Nat.mul_le_mul (h.rb.d v (by rw [h.ne];exact hv)).2 (h.ra.d v hv).2
theorem Fit.lE {a b:Rp} (h:Fit a b) {i:Nat} (hi:i<a.q.src.length):lE a b i≤16:=Nat.mul_le_mul (h.rb.d _ (by rw [h.ne];exact (h.ra.t i hi).2)).2 (h.ra.d _ (h.ra.s i hi).2).2
theorem Fit.offV {a b:Rp} (h:Fit a b) {v:Nat} (hv:v≤a.dims.length):off (Proofs.YtilpfdokmlanjaaGreatDoor.lV a b) v≤80:=by
 have:=aPD (l:=Proofs.YtilpfdokmlanjaaGreatDoor.lV a b) (c:=16) (k:=v) λi hi=>h.lV (by omega);have:=h.ra.n5;omega
theorem Fit.offE {a b:Rp} (h:Fit a b) {i:Nat} (hi:i≤a.q.src.length):off (Proofs.YtilpfdokmlanjaaGreatDoor.lE a b) i≤96:=by
 have:=aPD (l:=Proofs.YtilpfdokmlanjaaGreatDoor.lE a b) (c:=16) (k:=i) λj hj=>h.lE (by omega);have:=h.ra.e6;omega
theorem mQ {α:Type} {f:Nat→α} {n k:Nat} (h:k<n):cP ((List.range n).map f) (k:Int)=some (f k):=by rw [cZ (by simp;exact h)];simp
theorem jD {α:Type} {f:Nat→α} {k:Nat} :(List.range k).map f++[f k]=(List.range (k+1)).map f:=by rw [List.range_succ,List.map_append];rfl
theorem aLz {a b:Rp} (h:Fit a b):tC a b=some ((List.range a.dims.length).map λv=>(⟨dN b v,dN a v,bT (dN b v) (dN a v) λ_ _=>0⟩:Mt)):=by
 have n5:=h.ra.n5;unfold tC;rw [cF (r:=(List.range a.dims.length).map λv=>(⟨dN b v,dN a v,bT (dN b v) (dN a v) λ_ _=>0⟩:Mt)) (λk=>((List.range k).map λv=>(⟨dN b v,dN a v,bT (dN b v) (dN a v) λ_ _=>0⟩:Mt),(k:Int))) a.dims.length (by simp) (λk hk=>?_) (λ_=>?_),aA]
 ·have hkb:k<b.dims.length:=by rw [h.ne];exact hk
  unfold vV;simp only;rw [fX hk,aL,hJ 0 hk,aA,hJ 0 hkb,aA,(h.ra.d k hk).1,(h.rb.d k hkb).1,aEb (sq (h.rb.d k hkb).2 (h.ra.d k hk).2),aA,bB (by simp;omega),aL,bP hk (by omega),jD (f:=λv=>(⟨dN b v,dN a v,bT (dN b v) (dN a v) λ_ _=>0⟩:Mt))]
 ·unfold vV;simp only;rw [gI (bH _),aR]
theorem aIu {a b:Rp} (h:Fit a b):nO a b=some ((List.range a.q.src.length).map λi=>(⟨dN b (tV a i),dN a (sV a i),bT (dN b (tV a i)) (dN a (sV a i)) λ_ _=>0⟩:Mt)):=by
 have e6:=h.ra.e6;have tl:=h.ra.tl;unfold nO;rw [cF (r:=(List.range a.q.src.length).map λi=>(⟨dN b (tV a i),dN a (sV a i),bT (dN b (tV a i)) (dN a (sV a i)) λ_ _=>0⟩:Mt)) (λk=>((List.range k).map λi=>(⟨dN b (tV a i),dN a (sV a i),bT (dN b (tV a i)) (dN a (sV a i)) λ_ _=>0⟩:Mt),(k:Int))) a.q.src.length (by simp) (λk hk=>?_) (λ_=>?_),aA]
 ·obtain ⟨s1,s2⟩:=h.ra.s k hk;obtain ⟨t1,t2⟩:=h.ra.t k hk;have t3:tV a k<b.dims.length:=by rw [h.ne];exact t2
  unfold jY;simp only;rw [fX hk,aL,hJ 0 hk,aA,hJ 0 (by omega),aA,t1,hJ 0 t3,aA,s1,hJ 0 s2,aA,(h.ra.d _ s2).1,(h.rb.d _ t3).1,aEb (sq (h.rb.d _ t3).2 (h.ra.d _ s2).2),aA,bB (by simp;omega),aL,bP hk (by omega),jD (f:=λi=>(⟨dN b (tV a i),dN a (sV a i),bT (dN b (tV a i)) (dN a (sV a i)) λ_ _=>0⟩:Mt))]
 ·unfold jY;simp only;rw [gI (bH _),aR]
theorem aPE {k:Nat} {r c:Nat→Int} {l:Nat→Nat} {f:Nat→Nat→Int} (hk:k≤1048576) (hl:off l k≤1048576):mM ((List.range k).map λv=>(⟨r v,c v,(List.range (l v)).map (f v)⟩:Mt))=some (cat l f k):=by
 unfold mM;rw [cF (r:=cat l f k) (λj=>(cat l f j,(j:Int))) k (by simp [cat]) (λj hj=>?_) (λ_=>?_),aA]
 ·unfold xF;simp only;have h1:= @aCU l (j+1) k hj;have e:off l (j+1)=off l j+l j:=rfl;rw [dD,List.length_range,fX hj,aL,mQ hj,aA];simp only;rw [iB,dD,List.length_range,bB (by omega),aL,bP hj (by omega)];rfl
 ·unfold xF;simp only;rw [dD,List.length_range,gI (bH _),aR]
theorem aNa {k:Nat} {r c:Nat→Int} {z:Nat→List Int} {l:Nat→Nat} {f:Nat→Nat→Int} (hk:k≤1048576) (hl:off l k≤1048576) (hz: ∀ v,v<k→(z v).length=l v):qM ((List.range k).map λv=>(⟨r v,c v,z v⟩:Mt)) (cat l f k)=some ((List.range k).map λv=>(⟨r v,c v,(List.range (l v)).map (f v)⟩:Mt)):=by
 unfold qM;rw [cF (r:=(List.range k).map λv=>(⟨r v,c v,(List.range (l v)).map (f v)⟩:Mt)) (λj=>((cat l f k).drop (off l j),(List.range j).map (λv=>(⟨r v,c v,(List.range (l v)).map (f v)⟩:Mt)),(j:Int))) k (by simp [off]) (λj hj=>?_) (λ_=>?_),aA]
 ·unfold tD;simp only;have h1:= @aCU l (j+1) k hj;have e:off l (j+1)=off l j+l j:=rfl;rw [dD,List.length_range,fX hj,aL,mQ hj,aA];simp only;rw [hz j hj,List.length_drop,iB];simp only [dU,Int.toNat_zero,List.drop_zero,Nat.sub_zero];rw [aNZ hj];unfold nJ;rw [bB (by omega:(0:Int)≤((l j:Nat):Int)),bB (by omega:((l j:Nat):Int)≤((off l k - off l j:Nat):Int))];simp only [decide_true,Bool.and_self,aL,Int.le_refl];have q1:decide (((List.range (l j)).map (f j)).length ≤1048576)=true:=bB (by simp only [dD,List.length_range];omega);have q2:decide (((List.range j).map λv=>(⟨r v,c v,(List.range (l v)).map (f v)⟩:Mt)).length +1≤4294967296)=true:=bB (by simp only [dD,List.length_range];omega);simp only [q1,Bool.and_self,aL,aA];rw [q2,aL,bP hj (by omega),jD (f:=λv=>(⟨r v,c v,(List.range (l v)).map (f v)⟩:Mt)),List.drop_drop,List.take_of_length_le (by simp [iB];omega)];rfl
 ·unfold tD;simp only;rw [dD,List.length_range,gI (bH _),aR]
theorem aVb {p:Int} (hp:kL p=true) {r c:Nat} (hN:r*c≤1048576) {r' c':Int} {F G:Nat→Nat→Int} (hF:wK p r c F) (hG:wK p r c G) {k:Int} (hk:0≤k∧k≤5):
  aBO p ⟨r,c,bT r c F⟩ k ⟨r',c',bT r c G⟩=some ⟨r,c,bT r c λi j=>(F i j+k*G i j) % p⟩:=by
 have e1: ∀ H:Nat→Nat→Int,bT r c H=bT 1 (r*c) (λ_ y=>H (y / c) (y % c)):=by
  intro H;unfold bT;rw [Nat.one_mul];refine qU λy hy=>?_;rw [Nat.mod_eq_of_lt (List.mem_range.1 hy)]
 have e2:bT r c G=eG (r*c) (λy=>G (y / c) (y % c)):=rfl;unfold aBO gB nJ;simp only;rw [dO,bB hN,aL,aA,aA];simp only;have:=aIj hp (r:=1) (c:=r*c) (i:=0) hN (by omega) (F:=λ_ y=>F (y / c) (y % c)) (g:=λy=>G (y / c) (y % c)) hk (λy hy=>hF _ _ (aEc hy).1 (aEc hy).2) (λy hy=>hG _ _ (aEc hy).1 (aEc hy).2);rw [Nat.zero_mul,←e2,←e1] at this;rw [dO,this,aA,dO,Nat.one_mul,bB rfl,aL,e1 (λi j=>(F i j+k*G i j) % p)];congr 2;refine cC λa y ha hy=>?_;unfold aIi;rw [aV (by omega)]
def aIv (a b:Rp) (P:Nat→Nat→Nat→Int) (i:Nat):Nat→Nat→Int:=λr k=>
 (gX a.p (dN b (sV a i)) (aF b i) (P (sV a i)) r k+(a.p - 1)*gX a.p (dN a (tV a i)) (P (tV a i)) (aF a i) r k) % a.p
theorem aMA {a b:Rp} (h:Fit a b) {P:Nat→Nat→Nat→Int} (hP: ∀ v,v<a.dims.length→wK a.p (dN b v) (dN a v) (P v)):
  qZ a b ((List.range a.dims.length).map λv=>(⟨dN b v,dN a v,bT (dN b v) (dN a v) (P v)⟩:Mt))=some ((List.range a.q.src.length).map λi=>(⟨dN b (tV a i),dN a (sV a i),bT (dN b (tV a i)) (dN a (sV a i)) (aIv a b P i)⟩:Mt)):=by
 have e6:=h.ra.e6;have tl:=h.ra.tl;have hb:=dZ h.ra.hp;unfold qZ;rw [cF (r:=(List.range a.q.src.length).map λi=>(⟨dN b (tV a i),dN a (sV a i),bT (dN b (tV a i)) (dN a (sV a i)) (aIv a b P i)⟩:Mt)) (λk=>((List.range k).map λi=>(⟨dN b (tV a i),dN a (sV a i),bT (dN b (tV a i)) (dN a (sV a i)) (aIv a b P i)⟩:Mt),(k:Int))) a.q.src.length (by simp) (λk hk=>?_) (λ_=>?_),aA]
 ·obtain ⟨s1,s2⟩:=h.ra.s k hk;obtain ⟨t1,t2⟩:=h.ra.t k hk;have s3:sV a k<b.dims.length:=by rw [h.ne];exact s2
  have t3:tV a k<b.dims.length:=by rw [h.ne];exact t2
  have hkb:k<b.q.src.length:=by rw [h.qe];exact hk
  obtain ⟨m1,m2⟩:=h.ra.m k hk;obtain ⟨g1,g2⟩:=h.rb.m k hkb;rw [h.sV,h.tV] at g1 g2;rw [h.pe] at g2;have da:=h.ra.d _ s2;have da2:=h.ra.d _ t2;have db:=h.rb.d _ s3;have db2:=h.rb.d _ t3;unfold mO;simp only;rw [fX hk,aL,hJ 0 hk,aA,hJ ⟨0,0,[]⟩ (by rw [h.rb.ml];exact hkb),aA,g1,s1,mQ s2,aA];rw [aFL h.ra.hp (sq db2.2 db.2) (sq db.2 da.2) (sq db2.2 da.2) (by omega) (by omega) (by omega) g2 (hP _ s2),aA,hJ 0 (by omega),aA,t1,mQ t2,aA,hJ ⟨0,0,[]⟩ (by rw [h.ra.ml];exact hk),aA,m1];rw [aFL h.ra.hp (sq db2.2 da2.2) (sq da2.2 da.2) (sq db2.2 da.2) (by omega) (by omega) (by omega) (hP _ t2) m2,aA,dV (by omega)];rw [aVb h.ra.hp (sq db2.2 da.2) (aFK h.ra.hp _ _ _ _ _) (aFK h.ra.hp _ _ _ _ _) (by omega),aA,bB (by simp;omega),aL,bP hk (by omega)];have:=jD (f:=λi=>(⟨dN b (tV a i),dN a (sV a i),bT (dN b (tV a i)) (dN a (sV a i)) (aIv a b P i)⟩:Mt)) (k:=k);rw [←this];rfl
 ·unfold mO;simp only;rw [gI (bH _),aR]
theorem yX {R N:Nat} (hN:R*N≤1048576) (h1:R≤1048576) (h2:N≤1048576) (M:Nat→Nat→Int):fC R ((List.range N).map λk=>eG R λi=>M i k)=some ⟨R,N,bT R N M⟩:=by
 unfold fC;rw [dD,List.length_range,aEb hN,aA];simp only;rw [cF (r:=bT R N M) (λk=>(bT R N (λi j=>if j<k then M i j else 0),(k:Int))) N (by simp) (λk hk=>?_) (λ_=>?_),aA]
 ·unfold lG;simp only;rw [dD,List.length_range,fX hk,aL,mQ hk,aA];rw [cF (r:=bT R N (λi j=>if j<k+1 then M i j else 0)) (λx=>(bT R N (λi j=>if j<k∨(j=k∧i<x) then M i j else 0),(x:Int))) R (by simp) (λx hx=>?_) (λ_=>?_),aA,bP hk (by omega)]
  ·unfold lF;simp only;rw [dL,fX hx,aL,aBN _ hx,aA,atT hN hx hk,aA,aJm hN hx hk,bP hx (by omega)];congr 3;refine cC λi j hi hj=>?_;simp only [aCw];by_cases e:i=x∧j=k
   ·rw [aV e,aV (by omega),e.1,e.2]
   ·rw [aW e];by_cases e2:j<k∨j=k∧i<x
    ·rw [aV e2,aV (by omega)]
    ·rw [aW e2,aW (by omega)]
  ·unfold lF;simp only;rw [dL,gI (bH _),aR];congr 2;refine cC λi j hi hj=>?_;by_cases e:j<k+1
   ·rw [aV e,aV (by omega)]
   ·rw [aW e,aW (by omega)]
 ·unfold lG;simp only;rw [dD,List.length_range,gI (bH _),aR];congr 2;exact cC λi j hi hj=>by rw [aV hj]
def eF (a b:Rp) (i r k v j l:Nat):Int:=((if sV a i=v∧k=l then aF b i r j else 0) - (if tV a i=v∧r=j then aF a i l k else 0)) % a.p
def e2 (a b:Rp) (i y v z:Nat):Int:=eF a b i (y / dN a (sV a i)) (y % dN a (sV a i)) v (z / dN a v) (z % dN a v)
def mE (a b:Rp):Nat→Nat→Int:=λx k=>(cat (lE a b) (λi y=>(cat (lV a b) (e2 a b i y) a.dims.length)[k]?.getD 0) a.q.src.length)[x]?.getD 0
def nE (a b:Rp):Nat:=off (lE a b) a.q.src.length
def nV (a b:Rp):Nat:=off (lV a b) a.dims.length
theorem aKu {a b:Rp} (h:Fit a b):wK a.p (nE a b) (nV a b) (mE a b):=by
 intro x k hx hk;obtain ⟨i,y,hi,hy,rfl⟩:=aDj hx;obtain ⟨v,z,hv,hz,rfl⟩:=aDj hk;unfold mE;rw [pS _ hi hy,iT,pS _ hv hz,iT];exact vU h.ra.hp
theorem aCW (F G:Nat→Nat→Int) (i j:Nat): ∀ k,aBY F G i j k=sN (λt=>F i t*G t j) k
 |0=>rfl
 |k+1=>by rw [aBY,sN,aCW F G i j k]
def unP (a:Rp) (v0 z0:Nat):Nat→Nat→Nat→Int:=λv j l=>if v=v0∧j*dN a v+l=z0 then 1 else 0
theorem aVc {a:Rp} (hp:kL a.p=true) (v0 z0 v m n:Nat):wK a.p m n (unP a v0 z0 v):=by
 have hb:=dZ hp;intro i j _ _;unfold unP;split <;> omega
theorem aNb {a b:Rp} (h:Fit a b) {v0 z0 i r k:Nat} (hv:v0<a.dims.length) (hz:z0<lV a b v0) (hi:i<a.q.src.length) (hr:r<dN b (tV a i)) (hk:k<dN a (sV a i)):
  aIv a b (unP a v0 z0) i r k=eF a b i r k v0 (z0 / dN a v0) (z0 % dN a v0):=by
 have hb:=dZ h.ra.hp;obtain ⟨hj0,hl0⟩:=aEc hz
 have key: ∀ v j l,l<dN a v→(v=v0∧j*dN a v+l=z0↔v=v0∧j=z0 / dN a v0∧l=z0 % dN a v0):=by
  intro v j l hl;constructor
  ·rintro ⟨rfl,rfl⟩;exact ⟨rfl,(aAj hl).symm,(aAk hl).symm⟩
  ·rintro ⟨rfl,rfl,rfl⟩;exact ⟨rfl,zX⟩
 have e1:gX a.p (dN b (sV a i)) (aF b i) (unP a v0 z0 (sV a i)) r k=(if sV a i=v0∧k=z0 % dN a v0 then aF b i r (z0 / dN a v0) else 0) % a.p:=by
  unfold gX;rw [aCW];by_cases e:sV a i=v0∧k=z0 % dN a v0
  ·rw [aV e,aAJ (j:=z0 / dN a v0) (by rw [e.1];exact hj0)]
   ·unfold unP;rw [aV ((key _ _ _ hk).2 ⟨e.1,rfl,e.2⟩),Int.mul_one]
   ·intro t ht htj;unfold unP;rw [aW λg=>htj ((key _ _ _ hk).1 g).2.1,Int.mul_zero]
  ·rw [aW e,cO (g:=λ_=>0),yW];intro t ht;unfold unP;rw [aW λg=>e ⟨((key _ _ _ hk).1 g).1,((key _ _ _ hk).1 g).2.2⟩,Int.mul_zero]
 have e2:gX a.p (dN a (tV a i)) (unP a v0 z0 (tV a i)) (aF a i) r k=(if tV a i=v0∧r=z0 / dN a v0 then aF a i (z0 % dN a v0) k else 0) % a.p:=by
  unfold gX;rw [aCW];by_cases e:tV a i=v0∧r=z0 / dN a v0
  ·rw [aV e,aAJ (j:=z0 % dN a v0) (by rw [e.1];exact hl0)]
   ·unfold unP;rw [aV ((key _ _ _ (by rw [e.1];exact hl0)).2 ⟨e.1,e.2,rfl⟩),Int.one_mul]
   ·intro t ht htj;unfold unP;rw [aW λg=>htj ((key _ _ _ ht).1 g).2.2,Int.zero_mul]
  ·rw [aW e,cO (g:=λ_=>0),yW];intro t ht;unfold unP;rw [aW λg=>e ⟨((key _ _ _ ht).1 g).1,((key _ _ _ ht).1 g).2.1⟩,Int.zero_mul]
 unfold aIv eF;rw [e1,e2];generalize (if sV a i=v0∧k=z0 % dN a v0 then aF b i r (z0 / dN a v0) else 0)=x;generalize (if tV a i=v0∧r=z0 / dN a v0 then aF a i (z0 % dN a v0) k else 0)=y;rw [show x % a.p+(a.p - 1)*(y % a.p)=(x % a.p - y % a.p)+a.p*(y % a.p) by rw [Int.sub_mul];omega,Int.add_mul_emod_self_left];exact (Int.sub_emod x y a.p).symm
theorem aMC {a b:Rp} (h:Fit a b):rA a b=some ⟨nE a b,nV a b,bT (nE a b) (nV a b) (mE a b)⟩:=by
 have n5:=h.ra.n5;have e6:=h.ra.e6;have bV:=h.offV (bH _);have bE:=h.offE (bH _);unfold rA;rw [aLz h,aA];have z1:mM ((List.range a.dims.length).map λv=>(⟨dN b v,dN a v,bT (dN b v) (dN a v) λ_ _=>0⟩:Mt))=some (cat (lV a b) (λ_ _=>0) a.dims.length):=aPE (l:=lV a b) (f:=λ_ _=>0) (by omega) (by omega);have z2:mM ((List.range a.q.src.length).map λi=>(⟨dN b (tV a i),dN a (sV a i),bT (dN b (tV a i)) (dN a (sV a i)) λ_ _=>0⟩:Mt))=some (cat (lE a b) (λ_ _=>0) a.q.src.length):=aPE (l:=lE a b) (f:=λ_ _=>0) (by omega) (by omega);rw [z1,aA];rw [cF (r:=(List.range (nV a b)).map λk=>eG (nE a b) λx=>mE a b x k) (λk=>((List.range k).map (λk=>eG (nE a b) λx=>mE a b x k),(k:Int))) (nV a b) (by simp) (λk hk=>?_) (λ_=>?_),aA,aIu h,aA,z2,aA,iB]
 ·have:=yX (R:=nE a b) (N:=nV a b) (Nat.le_trans (Nat.mul_le_mul bE bV) (by decide)) (by unfold nE;omega) (by unfold nV;omega) (mE a b);unfold nE at this ⊢;rw [this,aA]
 ·obtain ⟨v0,z0,hv0,hz0,ek⟩:=aDj hk;unfold mP;simp only [iB];rw [show off (lV a b) a.dims.length=nV a b from rfl,fX hk,aL,bB (by omega),bB (by unfold nV;omega:((nV a b:Nat):Int)≤1048576),Bool.and_self,aL,dU,dU,cZ (by simp;exact hk),aA]
  have eu:(List.replicate (nV a b) (0:Int)).set k 1=cat (lV a b) (λv z=>if v=v0∧z=z0 then 1 else 0) a.dims.length:=by
   unfold nV;rw [aNY,ek,aLx hv0 hz0]
  rw [eu,aNa (l:=lV a b) (r:=λv=>(dN b v:Int)) (c:=λv=>(dN a v:Int)) (z:=λv=>bT (dN b v) (dN a v) λ_ _=>0) (by omega) (by omega) (λv _=>dO _ _ _),aA]
  have eb:((List.range a.dims.length).map λv=>(⟨dN b v,dN a v,(List.range (lV a b v)).map (λz=>if v=v0∧z=z0 then (1:Int) else 0)⟩:Mt))=(List.range a.dims.length).map λv=>(⟨dN b v,dN a v,bT (dN b v) (dN a v) (unP a v0 z0 v)⟩:Mt):=by
   refine qU λv hv=>?_;congr 1;refine aSl λy hy=>?_;unfold unP;rw [zX]
  rw [eb,aMA h (λv _=>aVc h.ra.hp _ _ _ _ _),aA];have ef:mM ((List.range a.q.src.length).map λi=>(⟨dN b (tV a i),dN a (sV a i),bT (dN b (tV a i)) (dN a (sV a i)) (aIv a b (unP a v0 z0) i)⟩:Mt))=some (cat (lE a b) (λi y=>aIv a b (unP a v0 z0) i (y / dN a (sV a i)) (y % dN a (sV a i))) a.q.src.length):=aPE (l:=lE a b) (f:=λi y=>aIv a b (unP a v0 z0) i (y / dN a (sV a i)) (y % dN a (sV a i))) (by omega) (by omega);rw [ef,aA,bB (by simp;unfold nV at hk;omega),aL,bP hk (by unfold nV;omega),←jD (f:=λk=>eG (nE a b) λx=>mE a b x k)];congr 5;symm;refine aCV (by rw [dL];rfl) λi y hi hy=>?_;have hx:off (lE a b) i+y<nE a b:=lO hi hy;unfold eG;rw [List.getElem?_map,List.getElem?_range hx,Option.map_some];congr 1;obtain ⟨q1,q2⟩:=aEc hy;rw [aNb h hv0 hz0 hi q1 q2];unfold mE;rw [pS _ hi hy,iT,ek,pS _ hv0 hz0,iT];rfl
 ·unfold mP;simp only [iB];rw [show off (lV a b) a.dims.length=nV a b from rfl,gI (bH _),aR]
theorem aSn {a b:Rp} (h:Fit a b):Tb a.p (nE a b) (nV a b) (mE a b):=by
 have bV:=h.offV (bH _);have bE:=h.offE (bH _);exact ⟨h.ra.hp,Nat.le_trans (Nat.mul_le_mul bE bV) (by decide),by unfold nE;omega,by unfold nV;omega,aKu h⟩
def gH (a b:Rp):Nat:=nV a b - rkF a.p (nE a b) (nV a b) (mE a b)
theorem aWR {p:Int} {m n:Nat} {F:Nat→Nat→Int} :rkF p m n F≤n:=yC n
end
noncomputable section
theorem aUX {L:List Nat} (hL:L.length≤1048576) (k:Nat):aAT (eO L) k=some (L.contains k):=by
 unfold aAT;rw [aVM (n:=L.length) (λi=>decide (L[i]?.getD 0=k)) true (by omega) (λi hi=>?_) (λ_=>?_),aA]
 ·have e:(List.range L.length).any (λi=>decide (L[i]?.getD 0=k))=L.contains k:=by
   rw [Bool.eq_iff_iff,List.any_eq_true,List.contains_iff_mem];constructor
   ·rintro ⟨i,hi,he⟩;have hi:=List.mem_range.1 hi;have he:=of_decide_eq_true he;rw [gY hi,iT] at he;subst he;exact List.getElem_mem hi
   ·intro h;obtain ⟨i,hi,rfl⟩:=List.mem_iff_getElem.1 h;exact ⟨i,List.mem_range.2 hi,by simp [hi]⟩
  rw [e];cases L.contains k <;> rfl
 ·unfold vF;rw [cY,fX hi,aL,hJ 0 (by rw [cY];exact hi),aA]
  have e:decide ((eO L)[i]?.getD 0=(k:Int))=decide (L[i]?.getD 0=k):=by
   rw [Bool.eq_iff_iff,jE,jE];simp [eO,hi];omega
  rw [e];cases decide (L[i]?.getD 0=k) <;> rfl
 ·unfold vF;rw [cY,gI (bH _),aR]
theorem aIw {L:List Nat} {i:Nat} (h:i<L.length):cP (eO L) (i:Int)=some ((L[i]?.getD 0:Nat):Int):=by
 rw [cZ (by rw [cY];exact h)];simp [eO,h]
theorem aKv {p:Int} {m:Nat} {F:Nat→Nat→Int} {t i:Nat} (h:i<(bW p m F t).2.length):(bW p m F t).2[i]?.getD 0<t:=aBm t _ (iW 0 h)
theorem aEd {p:Int} {m n:Nat} {F:Nat→Nat→Int} (T:Tb p m n F):qH p ⟨m,n,bT m n F⟩=some (aCm p n (bW p m F n).1 (bW p m F n).2):=by
 have hn:=T.hn;have hN:=T.hN;have hin:=qD (by have:=dZ T.hp;omega:0<p) T.hi n;have hlen:= @oG p m F n;have hlen2:= @yC p m F n;have hget:= @aKv p m F n;unfold qH;rw [aCS T,aA];generalize (bW p m F n).1=R at*;generalize (bW p m F n).2=L at*;rw [cF (r:=aCm p n R L) (λk=>((k:Int),((List.range k).filter λk=> !L.contains k).map λk=>aCz p n R L k L.length)) n (by simp) (λk hk=>?_) (λ_=>?_),aA]
 ·unfold pR;simp only;have hfl:((List.range k).filter λk=> !L.contains k).length ≤k:=by have:=List.length_filter_le (λk=> !L.contains k) (List.range k);simpa using this
  rw [fX hk,aL,aUX (by omega),aA,List.range_succ,List.filter_append,List.map_append];cases hc:L.contains k with
  |true=>
   rw [aL,bP hk (by omega),show [k].filter (λk=> !L.contains k)=[] by simp only [List.filter_cons,List.filter_nil,hc,eN,fV,if_false],List.map_nil,List.append_nil]
  |false=>
   rw [aR,bB (by omega),bB (by omega:(n:Int)≤1048576),Bool.and_self,aL,dU,dU,cZ (by simp;exact hk),aA];rw [cF (r:=aCz p n R L k L.length) (λi=>(aCz p n R L k i,(i:Int))) L.length (by rfl) (λi hi=>?_) (λ_=>?_),aA]
   ·rw [bB (by simp only [dD];omega),aL,bP hk (by omega),show [k].filter (λk=> !L.contains k)=[k] by simp only [List.filter_cons,List.filter_nil,hc,Bool.not_false,if_true]];rfl
   ·unfold pQ;simp only;have b1:=hin i k (by omega) hk;have hp:=dZ T.hp;have hv:=hget hi;rw [cY,fX hi,aL,aIw hi,aA,atT hN (by omega) hk,aA,dV (by omega),aAW T.hp (by omega),aA,cZ (by rw [aAn];exact hv),aA,dU,bP hi (by omega)];rfl
   ·unfold pQ;simp only;rw [cY,gI (bH _),aR]
 ·unfold pR;simp only;rw [gI (bH _),aR];rfl
theorem aIx {p:Int} (hp:kL p=true) {m n:Nat} {F:Nat→Nat→Int} (hi:wK p m n F):(aCm p n (bW p m F n).1 (bW p m F n).2).length=n - rkF p m n F:=by
 have h:=aAm hp hi n (bH _);have:=aSm h.inc (aBm n);unfold aCm rkF;rw [dD];omega
theorem Fit.lA {a b:Rp} (h:Fit a b) {v:Nat} (hv:v<a.dims.length):wr ((dN a v:Int)*(dN b v:Int))=((Proofs.YtilpfdokmlanjaaGreatDoor.lV a b v:Nat):Int):=by
 have:=h.lV hv;unfold Proofs.YtilpfdokmlanjaaGreatDoor.lV at*;rw [Nat.mul_comm] at this ⊢;exact aIM (by omega)
theorem aQL {a b:Rp} (h:Fit a b) {v:Nat} (hv:v≤a.dims.length):xG a b v=some ((off (lV a b) v:Nat):Int):=by
 have n5:=h.ra.n5;unfold xG;rw [cF (r:=((off (lV a b) v:Nat):Int)) (λk=>(((off (lV a b) k:Nat):Int),(k:Int))) v (by rfl) (λk hk=>?_) (λ_=>?_),aA]
 ·have hka:k<a.dims.length:=by omega
  have hkb:k<b.dims.length:=by rw [h.ne];exact hka
  have ho:=h.offV (v:=k+1) (by omega);have e:off (lV a b) (k+1)=off (lV a b) k+lV a b k:=rfl;unfold vW;simp only;rw [fX hk,aL,hJ 0 hka,aA,hJ 0 hkb,aA,(h.ra.d k hka).1,(h.rb.d k hkb).1,h.lA hka,bP hk (by omega),dV (by omega),e];simp
 ·unfold vW;simp only;rw [gI (bH _),aR]
theorem aKw {a b:Rp} (h:Fit a b):sA a b=some (nV a b:Int):=by
 have n5:=h.ra.n5;unfold sA;rw [cF (r:=(nV a b:Int)) (λk=>(((off (lV a b) k:Nat):Int),(k:Int))) a.dims.length (by rfl) (λk hk=>?_) (λ_=>?_),aA]
 ·have hkb:k<b.dims.length:=by rw [h.ne];exact hk
  have ho:=h.offV (v:=k+1) (by omega);have e:off (lV a b) (k+1)=off (lV a b) k+lV a b k:=rfl;unfold rB;simp only;rw [fX hk,aL,hJ 0 hk,aA,hJ 0 hkb,aA,(h.ra.d k hk).1,(h.rb.d k hkb).1,h.lA hk,bP hk (by omega),dV (by omega),e];simp
 ·unfold rB;simp only;rw [gI (bH _),aR];rfl
def aDJ (a b:Rp) (i r k j:Nat):Nat→Nat→Int:=λv z=>if v=sV a i∧z % dN a v=k∧z / dN a v<j then aF b i r (z / dN a v) else 0
def aNc (a b:Rp) (i r k j:Nat):Nat→Nat→Int:=λv z=>if v=tV a i∧z / dN a v=r∧z % dN a v<j then (aDJ a b i r k (dN b (sV a i)) v z - aF a i (z % dN a v) k) % a.p else aDJ a b i r k (dN b (sV a i)) v z
theorem aGE (r c:Nat) (F:Nat→Nat→Int):bT r c F++eG c (F r)=bT (r+1) c F:=by
 rw [←aFQ c F r,←aFQ c F (r+1),List.range_succ,List.map_append,List.flatten_append];simp
theorem aUY {a b:Rp} (h:Fit a b) {i r k:Nat} (hi:i<a.q.src.length) (hr:r<dN b (tV a i)) (hk:k<dN a (sV a i)) (x1 x2 x3:Int×List Int×Int) (e1:x1.2.2=i) (e2':x2.2.2=r) (e3:x3.2.2=k):
  ∃ y,Lp (hZ a b (sV a i) x1 x2 x3) (List.replicate (nV a b) 0,0)=some y∧Lp (iA a b (sV a i) (tV a i) x1 x2 x3) (y,0)=some (cat (lV a b) (e2 a b i (r*dN a (sV a i)+k)) a.dims.length):=by
 have hb:=dZ h.ra.hp;have n5:=h.ra.n5;obtain ⟨s1,s2⟩:=h.ra.s i hi;obtain ⟨t1,t2⟩:=h.ra.t i hi;have s3:sV a i<b.dims.length:=by rw [h.ne];exact s2
 have t3:tV a i<b.dims.length:=by rw [h.ne];exact t2
 have hib:i<b.q.src.length:=by rw [h.qe];exact hi
 obtain ⟨m1,m2⟩:=h.ra.m i hi;obtain ⟨g1,g2⟩:=h.rb.m i hib;rw [h.sV,h.tV] at g1 g2;rw [h.pe] at g2;have da:=h.ra.d _ s2;have da2:=h.ra.d _ t2;have db:=h.rb.d _ s3;have db2:=h.rb.d _ t3;have oS:=h.offV (v:=sV a i+1) s2;have oT:=h.offV (v:=tV a i+1) t2;have eS:off (lV a b) (sV a i+1)=off (lV a b) (sV a i)+lV a b (sV a i):=rfl;have eT:off (lV a b) (tV a i+1)=off (lV a b) (tV a i)+lV a b (tV a i):=rfl;refine ⟨cat (lV a b) (aDJ a b i r k (dN b (sV a i))) a.dims.length,?_,?_⟩
 ·refine cF (λj=>(cat (lV a b) (aDJ a b i r k j) a.dims.length,(j:Int))) (dN b (sV a i)) ?_ (λj hj=>?_) (λ_=>?_)
  ·unfold nV;rw [aNY];congr 1;exact aBv λv z _ _=>by unfold aDJ;rw [aW λq=>absurd q.2.2 (Nat.not_lt_zero _)]
  ·have hz:j*dN a (sV a i)+k<lV a b (sV a i):=aBG hj hk
   have hpos:wr (wr (((off (lV a b) (sV a i):Nat):Int)+wr ((j:Int)*(dN a (sV a i):Int)))+(k:Int))=((off (lV a b) (sV a i)+(j*dN a (sV a i)+k):Nat):Int):=by
    rw [aIM (by omega),dV (x:=((off (lV a b) (sV a i):Nat):Int)+((j*dN a (sV a i):Nat):Int)) (by omega),dV (by omega)];omega
   have hw:=g2 r j hr hj;unfold hZ;simp only [e1,e2',e3];rw [hJ 0 s3,aA,db.1,fX hj,aL,aQL h (by omega),aA,hJ 0 s2,aA,da.1,hpos,cZ (by rw [iB];exact lO s2 hz)];rw [aA,hJ ⟨0,0,[]⟩ (by rw [h.rb.ml];exact hib),aA,aA,g1];simp only;rw [atT (sq db2.2 db.2) hr hj,aA]
   have hv0:(cat (lV a b) (aDJ a b i r k j) a.dims.length)[off (lV a b) (sV a i)+(j*dN a (sV a i)+k)]'(by rw [iB];exact lO s2 hz)=0:=by
    have:=pS (aDJ a b i r k j) s2 hz;rw [gY (by rw [iB];exact lO s2 hz)] at this;rw [Option.some.inj this];unfold aDJ;rw [aW];rw [aAj hk];omega
   rw [hv0,Int.zero_add,dV (by omega),aAW h.ra.hp (by omega),aA,aA,dU,aLx s2 hz,bP hj (by omega),Int.emod_eq_of_lt hw.1 hw.2];congr 3;refine aBv λv z hv hz2=>?_;by_cases e:v=sV a i∧z=j*dN a (sV a i)+k
   ·obtain ⟨rfl,rfl⟩:=e;rw [aV ⟨rfl,rfl⟩];unfold aDJ;rw [aAj hk,aAk hk,aV ⟨rfl,rfl,Nat.lt_succ_self _⟩]
   ·rw [aW e];unfold aDJ;by_cases e4:v=sV a i∧z % dN a v=k∧z / dN a v<j
    ·rw [aV e4,aV ⟨e4.1,e4.2.1,by omega⟩]
    ·rw [aW e4,aW];rintro ⟨q1,q2,q3⟩
     have q4:z / dN a v=j:=by
      rcases dX (z / dN a v) j with h'|h'
      ·exact absurd ⟨q1,q2,h'⟩ e4
      ·omega
     refine e ⟨q1,?_⟩;rw [←@zX (dN a v) z,q4,q2,q1]
  ·unfold hZ;simp only [e1,e2',e3];rw [hJ 0 s3,aA,db.1,gI (bH _),aR]
 ·refine cF (λj=>(cat (lV a b) (aNc a b i r k j) a.dims.length,(j:Int))) (dN a (tV a i)) ?_ (λj hj=>?_) (λ_=>?_)
  ·congr 1;exact aBv λv z _ _=>by unfold aNc;rw [aW λq=>absurd q.2.2 (Nat.not_lt_zero _)]
  ·have hz:r*dN a (tV a i)+j<lV a b (tV a i):=aBG hr hj
   have hpos:wr (wr (((off (lV a b) (tV a i):Nat):Int)+wr ((r:Int)*(dN a (tV a i):Int)))+(j:Int))=((off (lV a b) (tV a i)+(r*dN a (tV a i)+j):Nat):Int):=by
    rw [aIM (by omega),dV (x:=((off (lV a b) (tV a i):Nat):Int)+((r*dN a (tV a i):Nat):Int)) (by omega),dV (by omega)];omega
   have hw:=m2 j k hj hk;unfold iA;simp only [e1,e2',e3];rw [hJ 0 t2,aA,da2.1,fX hj,aL,aQL h (by omega),aA,aA,hpos,cZ (by rw [iB];exact lO t2 hz)];rw [aA,hJ ⟨0,0,[]⟩ (by rw [h.ra.ml];exact hi),aA,hJ 0 s2,aA,m1,da.1];simp only;rw [atT (sq da2.2 da.2) hj hk,aA]
   have hv0:(cat (lV a b) (aNc a b i r k j) a.dims.length)[off (lV a b) (tV a i)+(r*dN a (tV a i)+j)]'(by rw [iB];exact lO t2 hz)=aDJ a b i r k (dN b (sV a i)) (tV a i) (r*dN a (tV a i)+j):=by
    have:=pS (aNc a b i r k j) t2 hz;rw [gY (by rw [iB];exact lO t2 hz)] at this;rw [Option.some.inj this];unfold aNc;rw [aW];rw [aAk hj];omega
   have hbA:0≤aDJ a b i r k (dN b (sV a i)) (tV a i) (r*dN a (tV a i)+j)∧aDJ a b i r k (dN b (sV a i)) (tV a i) (r*dN a (tV a i)+j)≤5:=by
    unfold aDJ;split
    ·rename_i q;have:=g2 r ((r*dN a (tV a i)+j) / dN a (tV a i)) hr q.2.2;omega
    ·omega
   rw [hv0];generalize hA:aDJ a b i r k (dN b (sV a i)) (tV a i) (r*dN a (tV a i)+j)=A at*;rw [dV (x:=A - aF a i j k) (by omega),aAW h.ra.hp (by omega),aA,aA,dU,aLx t2 hz,bP hj (by omega)];congr 3;refine aBv λv z hv hz2=>?_;by_cases e:v=tV a i∧z=r*dN a (tV a i)+j
   ·obtain ⟨rfl,rfl⟩:=e;rw [aV ⟨rfl,rfl⟩];unfold aNc;rw [aAj hj,aAk hj,aV ⟨rfl,rfl,Nat.lt_succ_self _⟩,hA]
   ·rw [aW e];unfold aNc;by_cases e4:v=tV a i∧z / dN a v=r∧z % dN a v<j
    ·rw [aV e4,aV ⟨e4.1,e4.2.1,by omega⟩]
    ·rw [aW e4,aW];rintro ⟨q1,q2,q3⟩
     have q4:z % dN a v=j:=by
      rcases dX (z % dN a v) j with h'|h'
      ·exact absurd ⟨q1,q2,h'⟩ e4
      ·omega
     refine e ⟨q1,?_⟩;rw [←@zX (dN a v) z,q4,q2,q1]
  ·unfold iA;simp only [e1,e2',e3];rw [hJ 0 t2,aA,da2.1,gI (bH _),aR];congr 2;refine aBv λv z hv hz2=>?_;have hzb:z<dN b v*dN a v:=hz2;obtain ⟨q1,q2⟩:=aEc hzb
   have eA:aDJ a b i r k (dN b (sV a i)) v z=if sV a i=v∧k=z % dN a v then aF b i r (z / dN a v) else 0:=by
    unfold aDJ;by_cases e:sV a i=v∧k=z % dN a v
    ·rw [aV e,aV ⟨e.1.symm,e.2.symm,by rw [e.1];exact q1⟩]
    ·rw [aW e,aW λq=>e ⟨q.1.symm,q.2.1.symm⟩]
   unfold aNc e2 eF;rw [eA,aAj hk,aAk hk];by_cases e:tV a i=v∧r=z / dN a v
   ·rw [aV ⟨e.1.symm,e.2.symm,by rw [e.1];exact q2⟩,aV e]
   ·rw [aW λq=>e ⟨q.1.symm,q.2.1.symm⟩,aW e,Int.sub_zero];split
    ·rename_i q;have hw:=g2 r (z / dN a v) hr (by rw [q.1];exact q1);exact (Int.emod_eq_of_lt hw.1 hw.2).symm
    ·simp
theorem aVd {a b:Rp} {i y:Nat} (hi:i<a.q.src.length) (hy:y<lE a b i):cat (lV a b) (e2 a b i y) a.dims.length=eG (nV a b) (mE a b (off (lE a b) i+y)):=by
 symm;refine aCV (by rw [dL];rfl) λv z hv hz=>?_;have hk:off (lV a b) v+z<nV a b:=lO hv hz;unfold eG;rw [List.getElem?_map,List.getElem?_range hk,Option.map_some];congr 1;unfold mE;rw [pS _ hi hy,iT,pS _ hv hz,iT]
theorem aDK {a b:Rp} (h:Fit a b):nP a b=some ⟨nE a b,nV a b,bT (nE a b) (nV a b) (mE a b)⟩:=by
 have n5:=h.ra.n5;have e6:=h.ra.e6;have bV:=h.offV (bH _);have bE:=h.offE (bH _);have tl:=h.ra.tl;have ml:=h.ra.ml;have hV:nV a b≤80:=bV;unfold nP;rw [aKw h,aA];rw [cF (r:=((nE a b:Int),bT (nE a b) (nV a b) (mE a b))) (λi=>(((off (lE a b) i:Nat):Int),bT (off (lE a b) i) (nV a b) (mE a b),(i:Int))) a.q.src.length (by simp [off,bT]) (λi hi=>?_) (λ_=>?_),aA]
 ·obtain ⟨s1,s2⟩:=h.ra.s i hi;obtain ⟨t1,t2⟩:=h.ra.t i hi;have t3:tV a i<b.dims.length:=by rw [h.ne];exact t2
  have da:=h.ra.d _ s2;have db2:=h.rb.d _ t3;have oE:=h.offE (i:=i+1) hi;have eE:off (lE a b) (i+1)=off (lE a b) i+dN b (tV a i)*dN a (sV a i):=rfl;unfold kB;simp only;rw [ml,fX hi,aL,hJ 0 hi,aA,s1,hJ 0 (by omega),aA,t1];rw [cF (r:=(((off (lE a b) (i+1):Nat):Int),bT (off (lE a b) (i+1)) (nV a b) (mE a b))) (λr=>(((off (lE a b) i+r*dN a (sV a i):Nat):Int),bT (off (lE a b) i+r*dN a (sV a i)) (nV a b) (mE a b),(r:Int))) (dN b (tV a i)) (by simp) (λr hr=>?_) (λ_=>?_),aA,bP hi (by omega)]
  ·unfold kA;simp only;rw [hJ 0 t3,aA,db2.1,fX hr,aL];rw [cF (r:=(((off (lE a b) i+(r+1)*dN a (sV a i):Nat):Int),bT (off (lE a b) i+(r+1)*dN a (sV a i)) (nV a b) (mE a b))) (λk=>(((off (lE a b) i+r*dN a (sV a i)+k:Nat):Int),bT (off (lE a b) i+r*dN a (sV a i)+k) (nV a b) (mE a b),(k:Int))) (dN a (sV a i)) (by simp) (λk hk=>?_) (λ_=>?_),aA,bP hr (by omega)]
   ·unfold jZ;simp only;have hy:r*dN a (sV a i)+k<lE a b i:=aBG hr hk;have hx:off (lE a b) i+(r*dN a (sV a i)+k)<nE a b:=lO hi hy;have hx2:nE a b≤96:=bE;have hsz:(off (lE a b) i+r*dN a (sV a i)+k)*nV a b≤96*80:=Nat.mul_le_mul (by omega) hV;rw [hJ 0 s2,aA,da.1,fX hk,aL,bB (by omega),bB (by omega:(nV a b:Int)≤1048576),Bool.and_self,aL,dU];obtain ⟨y,y1,y2⟩:=aUY h hi hr hk (((off (lE a b) i:Nat):Int),bT (off (lE a b) i) (nV a b) (mE a b),(i:Int)) (((off (lE a b) i+r*dN a (sV a i):Nat):Int),bT (off (lE a b) i+r*dN a (sV a i)) (nV a b) (mE a b),(r:Int)) (((off (lE a b) i+r*dN a (sV a i)+k:Nat):Int),bT (off (lE a b) i+r*dN a (sV a i)+k) (nV a b) (mE a b),(k:Int)) rfl rfl rfl;rw [y1,aA,y2,aA,aVd hi hy,dO,dL,bB (by omega),aL,bP hk (by omega),dV (by omega),←Nat.add_assoc,aGE];congr 2
   ·unfold jZ;simp only;rw [hJ 0 s2,aA,da.1,gI (bH _),aR,Nat.succ_mul,Nat.add_assoc]
  ·unfold kA;simp only;rw [hJ 0 t3,aA,db2.1,gI (bH _),aR,eE]
 ·unfold kB;simp only;rw [ml,gI (bH _),aR];rfl
theorem aPF {a b:Rp} (h:Fit a b) {x:List Int} (hx:x.length=nV a b): ∃ r,jQ a b x=some r:=by
 have n5:=h.ra.n5;have bV:=h.offV (bH _);have hV:nV a b≤80:=bV;refine ⟨(List.range a.dims.length).map λv=>(⟨dN b v,dN a v,(x.drop (off (lV a b) v)).take (lV a b v)⟩:Mt),?_⟩;unfold jQ;rw [cF (r:=(List.range a.dims.length).map λv=>(⟨dN b v,dN a v,(x.drop (off (lV a b) v)).take (lV a b v)⟩:Mt)) (λk=>((List.range k).map (λv=>(⟨dN b v,dN a v,(x.drop (off (lV a b) v)).take (lV a b v)⟩:Mt)),((off (lV a b) k:Nat):Int),(k:Int))) a.dims.length (by simp [off]) (λk hk=>?_) (λ_=>?_),aA]
 ·have hkb:k<b.dims.length:=by rw [h.ne];exact hk
  have ho:= @aCU (lV a b) (k+1) a.dims.length hk;have e:off (lV a b) (k+1)=off (lV a b) k+lV a b k:=rfl;unfold iO;simp only
  rw [fX hk,aL,hJ 0 hk,aA,hJ 0 hkb,aA,aA,aA,(h.ra.d k hk).1,(h.rb.d k hkb).1,h.lA hk,dV (x:=((off (lV a b) k:Nat):Int)+((lV a b k:Nat):Int)) (by omega),hx,
   bB (by omega),bB (by omega:((off (lV a b) k:Nat):Int)≤((off (lV a b) k:Nat):Int)+((lV a b k:Nat):Int)),bB (by unfold nV;omega:((off (lV a b) k:Nat):Int)+((lV a b k:Nat):Int)≤((nV a b:Nat):Int)),Bool.and_self,Bool.and_self,aL,
   show (((off (lV a b) k:Nat):Int)+((lV a b k:Nat):Int)).toNat - ((off (lV a b) k:Nat):Int).toNat=lV a b k by omega,dU]
  have q2:decide (((List.range k).map λv=>(⟨dN b v,dN a v,(x.drop (off (lV a b) v)).take (lV a b v)⟩:Mt)).length +1≤4294967296)=true:=bB (by simp only [dD,List.length_range];omega);have q1:decide (([]:List Int).length +((x.drop (off (lV a b) k)).take (lV a b k)).length ≤4294967296)=true:=bB (by simp only [List.length_nil,List.length_take,List.length_drop];omega);rw [q1,aL,q2,aL,List.nil_append,bP hk (by omega),jD (f:=λv=>(⟨dN b v,dN a v,(x.drop (off (lV a b) v)).take (lV a b v)⟩:Mt)),e];simp
 ·unfold iO;simp only;rw [gI (bH _),aR]
end
noncomputable section
def zY (a b:Rp):Bool:=rZ a&&(rZ b&&(decide (a.p=b.p)&&decide (a.q=b.q)))
theorem aAt {a b:Rp} (h:zY a b=true):Fit a b:=by
 unfold zY at h;simp only [cV,jE] at h;exact aLy h.1 h.2.1 h.2.2.1 h.2.2.2
def hdI (a b:Rp):Int:=if zY a b=true then (gH a b:Int) else -1
theorem aPG {a b:Rp} (ha:bR a) (hb:bR b): ∃ l,jR a b=some (l,zY a b)∧(zY a b=true→l.length=gH a b):=by
 unfold jR;rw [aHl ha hb,aA];cases hf:rZ a&&(rZ b&&(decide (a.p=b.p)&&decide (a.q=b.q))) with
 |false=>
  refine ⟨[],?_,λh=>by unfold zY at h;rw [hf] at h;cases h⟩;unfold zY;rw [hf];rfl
 |true=>
  have h:=aAt hf;have bV:=h.offV (bH _);have hV:nV a b≤80:=bV;have hl:=aIx h.ra.hp (aKu h)
  have hkl: ∀ v∈aCm a.p (nV a b) (bW a.p (nE a b) (mE a b) (nV a b)).1 (bW a.p (nE a b) (mE a b) (nV a b)).2,v.length=nV a b:=by
   intro v hv;unfold aCm at hv;obtain ⟨k,_,rfl⟩:=List.mem_map.1 hv;exact aAn _ _ _ _ _ _
  rw [eN,aR,aDK h,aA,aEd (aSn h),aA];generalize aCm a.p (nV a b) (bW a.p (nE a b) (mE a b) (nV a b)).1 (bW a.p (nE a b) (mE a b) (nV a b)).2=K at*;have key:=aLe (body:=gP a b K) (s:=(([]:List (List Mt)),0)) (λs=>s.2=(s.1.length:Int)∧s.1.length≤K.length) (λs=>K.length - s.1.length) (λr=>r.length=K.length) ⟨rfl,Nat.zero_le _⟩ (λs ⟨h1,h2⟩=>?_)
  ·obtain ⟨r,h1,h2⟩:=key;rw [h1,aA];exact ⟨r,by unfold zY;rw [hf],λ_=>by rw [h2,hl];rfl⟩
  ·obtain ⟨l,j⟩:=s;simp only at h1 h2;subst h1;unfold gP;simp only;rcases dX l.length K.length with hlt|hge
   ·obtain ⟨r,hr⟩:=aPF h (hkl _ (List.getElem_mem hlt));rw [fX hlt,aL,cZ hlt,aA,hr,aA,bB (by omega),aL,bP hlt (by omega)];exact .inl ⟨_,rfl,⟨by simp,by simp;omega⟩,by simp;omega⟩
   ·rw [gI hge,aR];exact .inr ⟨_,rfl,by omega⟩
theorem aRJ {a b:Rp} (ha:bR a) (hb:bR b):yV a b=some (hdI a b):=by
 obtain ⟨l,h1,h2⟩:=aPG ha hb;unfold yV hdI;rw [h1,aA];cases hf:zY a b with
 |false=>rfl
 |true=>rw [aV rfl,←h2 hf];rfl
theorem aCX {a b:Rp} (h:Fit a b):gH a b≤80:=by
 have bV:=h.offV (bH _);unfold gH nV;omega
theorem aSo {α β:Type} {f:α→β} {l:List α} {k:Nat} (hk:k<l.length):(l.take k).map f++[f l[k]]=(l.take (k+1)).map f:=by rw [uH hk,List.map_append];rfl
end
noncomputable section
theorem aPH {L:List Nat} (hL:L.length≤1048576) (k:Nat):hY (eO L) (k:Int)=some (L.contains k):=by
 have hl:=cY L;unfold hY oK;rw [yB (s0:=0) (s:=0) (n:=L.length) (λi=>bif decide ((k:Int)=(eO L)[i]?.getD 0) then some (i:Int) else none) rfl (by omega) (Nat.zero_le _) (λi _ hi=>?_) (λ_=>?_)]
 ·rw [aA];cases e:(List.range' 0 (L.length - 0)).findSome? (λi:Nat=>bif decide ((k:Int)=(eO L)[i]?.getD 0) then some (i:Int) else none) with
  |none=>
   rw [List.findSome?_eq_none_iff] at e
   have:L.contains k=false:=by
    rw [Bool.eq_false_iff];intro hc;have hm:k∈L:=by simpa using hc
    obtain ⟨j,hj,e2⟩:=List.mem_iff_getElem.1 hm;have:=e j (by simp;omega);have hg:(eO L)[j]?.getD 0=(k:Int):=by simp [eO,hj,e2]
    rw [hg,bB rfl] at this;cases this
   rw [this];rfl
  |some i=>
   obtain ⟨j,hj,he⟩:=List.exists_of_findSome?_eq_some e;simp at hj;have hjl:j<L.length:=by omega
   have hg:(eO L)[j]?.getD 0=((L[j]:Nat):Int):=by simp [eO,hjl]
   rw [hg] at he;by_cases c:(k:Int)=((L[j]:Nat):Int)
   ·rw [bB c] at he;cases he
    have:L.contains k=true:=by
     have:k=L[j]:=by omega
     rw [this];simp
    rw [this];show (Option.bind (some ((j:Nat):Int)) λv1=>some (decide (0≤v1)))=some true;rw [aA,bB (by omega)]
   ·rw [dM c] at he;cases he
 ·unfold hU;rw [hl,fX hi,aL,hJ 0 (by omega),aA];cases decide ((k:Int)=(eO L)[i]?.getD 0) <;> rfl
 ·unfold hU;rw [hl,gI (bH _),aR]
theorem aRK (L:List Nat) (k:Nat):zP (k+1) L=zP k L++if L.contains k=true then [] else [k]:=by
 unfold zP;rw [List.range_succ,List.filter_append];congr 1;cases h:L.contains k <;> simp at h <;> simp [h]
theorem aNd (n:Nat) (L:List Nat):(zP n L).length ≤n:=by
 have:=List.length_filter_le (λk=> !L.contains k) (List.range n);simpa [zP] using this
theorem aNe {n k:Nat} {L:List Nat} (h:k∈zP n L):k<n:=List.mem_range.1 (List.mem_filter.1 h).1
theorem aPI {n:Nat} {L:List Nat} (hn:n≤1048576) (hL:L.length≤1048576):pO (n:Int) (eO L)=some (eO (zP n L)):=by
 unfold pO;rw [cF (s:=(([]:List Int),(0:Int))) (r:=eO (zP n L)) (λk=>(eO (zP k L),(k:Int))) n rfl (λk hk=>?_) (λ_=>?_),aA]
 ·have h1:=aNd k L;unfold lD;simp only;rw [fX hk,aL,aPH hL,aA,aRK,bP hk (by omega)];cases hc:L.contains k
  ·rw [Bool.not_false,aL,bB (by rw [cY];simp;omega),aL];simp [eO]
  ·rw [eN,aR];simp
 ·unfold lD;simp only;rw [gI (bH _),aR]
end
noncomputable section
set_option maxRecDepth 10000
set_option maxHeartbeats 4000000
def jL (a0:Mt) (a1:Int) (x1:((List Int)×Int)):Option (((List Int)×Int) ⊕ (List Int)):=
 bif decide (x1.2<(((List.replicate a0.rows.toNat (0:Int)).length:Nat):Int)) then
 ((cP a0.cells (wr ((wr (x1.2*a0.cols))+a1))).bind λv2=>
 (cP x1.1 x1.2).bind λv3=>
 some (.inl ((x1.1.set x1.2.toNat v2),wr (x1.2+1))))
 else
 (some (.inr x1.1))
def mR (a0:Mt) (a1:Int):Option (List Int):=
 bif (decide (0≤a0.rows)&&decide (a0.rows≤1048576)) then
 ((Lp (jL a0 a1) ((List.replicate a0.rows.toNat (0:Int)),0)).bind λy4=>
 some (y4))
 else none
theorem aDL (a0:Mt) (a1:Int) (r:(List Int)) (h:mR a0 a1=some r):HasC Tryz.prog 269 [.agg (eM a0),.int a1] (.list 1 (r.map eI)):=by
 refine hM [.tmp 4] Tryz.func269 Tryz.ntmps269 k<|sR<|ae (wb k) k<|aT k2<|sR<|fp k8<|lp k8<|cG h λq5 h=>ae (aAE aO q5 k k k k k k k k) k<|aT k2<|aD (t:=mN [(1,.int a1),(2,.ptr 0 0 0),(5,.own 1 0 ((List.replicate a0.rows.toNat (0:Int)).length))] [(0,⟨3,[eM a0]⟩),(1,⟨1,List.map (ow eI) (List.replicate a0.rows.toNat (0:Int))⟩)] 2) (bU (jU 2 k2 (fU ⟨_,k,⟨k,k,(by simp only [aG,lA,lT,lR,lC,lN]),k⟩⟩ aU)) (bF k<|hX ⟨_,k,k,.inl ⟨aAo (e:=eI) (z:=0) _,cU.plainO _⟩⟩ k<|aU) k4)<|sQ<|sR<|am k k<|ae (dI aO k k k k) k<|am k k<|an<|tn<|aC<|oB h λy4 hy4 h=>bZ (body:=(jL a0 a1)) hy4 (λ(x1:((List Int)×Int))=>mN [(1,.int a1),(2,.ptr 0 0 0),(5,.own 1 0 x1.1.length),(11,.int (((List.replicate a0.rows.toNat (0:Int)).length:Nat):Int)),(12,.int x1.2)] [(0,⟨3,[eM a0]⟩),(1,⟨1,x1.1.map (ow eI)⟩)] 2) (λr e t=>e= .exit 0∧Ent t (mN [(5,.own 0 0 r.length)] [(0,⟨1,r.map (ow eI)⟩)] 1)) (bU (bJ k2) (bF k<|bO k<|aU) k4) ?_ ?_
 ·intro x1 o h;refine sR<|cm k4<|an<|tn<|sQ<|cW k h (λ_ h=>?_) λ_ h=>aX<|aB<|aB<|sp h ⟨_,k,k,(gA [1] (bJ k2) (bO k<|aU) k4)⟩;refine aH<|tn<|sQ<|aC<|sR<|am k k<|aT k2<|rg<|am k k<|am k k<|fp k8<|lp k8<|am k k<|fp k8<|lp k8<|ae (eZ k k) k<|am k k<|ae (bG k k) k<|oB h λv2 hv2 h=>ae (xl hv2 k) k<|lr k7<|oB h λv3 hv3 h=>ae (xo hv3 k) k<|ae (fY aO jT (u:=v2) (dF hv3) k k k k k k) k<|an<|aY<|tn<|rg ?_;exact ae (bG k k) k<|am k k<|an<|tn<|sp h ⟨_,k,(bU (jU 2 k2 (fU ⟨_,k,⟨k,k,(by simp only [aG,lA,lT,lR,lC,lN]),k⟩⟩ (bJ k2))) (bF k<|bO k<|aU) k4)⟩
 ·rintro e t ⟨rfl,hent⟩;exact aM<|tn<|aD hent<|sR<|am k k<|aT k2<|aE<|sp h (bC k k k (eV (cN cU k k)))
def iX (a0:Mt) (x1:((List (List Int))×Int)):Option (((List (List Int))×Int) ⊕ (List (List Int))):=
 bif decide (x1.2<a0.cols) then
 ((mR a0 x1.2).bind λv2=>
 bif decide (x1.1.length+1≤4294967296) then
 (some (.inl ((x1.1++[v2]),wr (x1.2+1))))
 else none)
 else
 (some (.inr x1.1))
def gF (a0:Mt):Option (List (List Int)):=
 (Lp (iX a0) ([],0)).bind λy4=>
 some (y4)
theorem qS (a0:Mt) (r:(List (List Int))) (h:gF a0=some r):HasC Tryz.prog 213 [.agg (eM a0)] (.list 1 (r.map (dH 1 eI))):=by
 refine hM [.tmp 2] Tryz.func213 Tryz.ntmps213 k<|sR<|ae (wb k) k<|aT k2<|sR<|aT k2<|sQ<|sR<|fp k8<|lp k8<|am k k<|an<|tn<|aC<|oB h λy4 hy4 h=>bZ (body:=(iX a0)) hy4 (λ(x1:((List (List Int))×Int))=>mN [(1,.ptr 0 0 0),(3,.own 1 0 x1.1.length),(6,.int a0.cols),(7,.int x1.2)] [(0,⟨3,[eM a0]⟩),(1,⟨1,x1.1.map (ow (dH 1 eI))⟩)] 2) (λr e t=>e= .exit 0∧Ent t (mN [(3,.own 0 0 r.length)] [(0,⟨1,r.map (ow (dH 1 eI))⟩)] 1)) (fP (σ:=sg [(0,0)]) (jU 1 k2 (fU ⟨_,k,⟨k,k,k,k⟩⟩ (bJ k2))) (bF k<|hX k k<|aU) k) ?_ ?_
 ·intro x1 o h;exact sR<|cm k4<|an<|tn<|sQ<|cW k h (λ_ h=>aH<|tn<|sQ<|aC<|sR<|am k k<|aT k2<|rg<|am k k<|lp k8<|am k k<|oB h λv2 hv2 h=>ae (cL cU (aDL a0 x1.2 v2 hv2) k3 (aI (eD k) (cI k aN))) k<|ae (wl k) k<|cG h λq3 h=>ae (eW aO (l:=x1.1) (c:=[.own 2 0 v2.length]) q3 k k k k k k k k k k k k k k) k<|aa k k<|an<|aY<|tn<|aD (t:=mN [(1,.ptr 0 0 0),(3,.own 4 0 ((x1.1++[v2]).length)),(6,.int a0.cols),(7,.int x1.2)] [(0,⟨3,[eM a0]⟩),(4,⟨1,List.map (ow (dH 1 eI)) (x1.1++[v2])⟩)] 5) (Ent.trans (dB (b:=4) (b':=2) (j:=0) (es':=v2.map eI) k k k k (aG _ _) (cU.frzs _)) (bU (jU 1 k2 (fU ⟨_,k,⟨k,k,(by simp only [aG,lA,lT,lR,lC,lN]),k⟩⟩ (bJ k2))) (bF k<|hX ⟨_,k,k,.inl ⟨fD v2 k,bY.plainO _⟩⟩ k<|aU) k4))<|rg<|ae (bG k k) k<|am k k<|an<|tn<|sp h ⟨_,k,(gA [0,4] (bJ k2) (bF k<|cA (bY.plainO _) k<|aU) k4)⟩) λ_ h=>aX<|aB<|aB<|sp h ⟨_,k,k,(gA [1] (bJ k2) (cA (bY.plainO _) k<|aU) k4)⟩
 ·rintro e t ⟨rfl,hent⟩;exact aM<|tn<|aD hent<|sR<|am k k<|aT k2<|aE<|sp h (bC k k k (eV (cN bY k k)))
def vX (a0:Int) (a1:(List (List Int))):Option Mt:=
 (iV a1).bind λv1=>
 some ((⟨(a1.length:Int),a0,v1⟩:Mt))
theorem aHK (a0:Int) (a1:(List (List Int))) (r:Mt) (h:vX a0 a1=some r):HasC Tryz.prog 258 [.int a0,.list 1 (a1.map (dH 1 eI))] (.agg (eM r)):=by
 exact hM [.cell 4 130] Tryz.func258 Tryz.ntmps258 k<|sR<|ae (bX aO k k) k<|an<|tn<|sR<|am k k<|ln k4<|am k k<|am k k<|oB h λv1 hv1 h=>ae (cL cU (aBW a1 v1 hv1) k3 (cI k aN)) k<|ae (gC aO k k k k k k) k<|ae (ws k) k<|an<|tn<|aE<|sp h (bC k k k (gW (aZ (k) (aZ (k) (aZ (cN cU k k) eJ)))))
def xH (v2:(Mt×(List Int))) (x1:((List (List Int))×Int)):Option (((List (List Int))×Int) ⊕ (List (List Int))):=
 bif decide (x1.2<((v2.2.length:Nat):Int)) then
 ((dR v2.1 x1.2).bind λv4=>
 (nJ ((v2.1.cells.drop (0+(wr (x1.2*v2.1.cols)).toNat)).take ((wr ((wr (x1.2+1))*v2.1.cols)).toNat - (wr (x1.2*v2.1.cols)).toNat))).bind λv5=>
 bif decide (x1.1.length+1≤4294967296) then
 (some (.inl ((x1.1++[v5]),wr (x1.2+1))))
 else none)
 else
 (some (.inr x1.1))
def zZ (a0:Int) (a1:Int) (a2:(List (List Int))):Option Sc:=
 (vX a1 a2).bind λv1=>
 (uX a0 v1).bind λv2=>
 (Lp (xH v2) ([],0)).bind λy7=>
 some ((⟨a1,y7⟩:Sc))
theorem aGr (a0:Int) (a1:Int) (a2:(List (List Int))) (r:Sc) (h:zZ a0 a1 a2=some r):HasC Tryz.prog 189 [.int a0,.int a1,.list 1 (a2.map (dH 1 eI))] (.agg (eS r)):=by
 refine hM [.cell 6 134] Tryz.func189 Tryz.ntmps189 k<|sR<|ae (bX aO k k) k<|an<|tn<|sR<|am k k<|am k k<|am k k<|oB h λv1 hv1 h=>ae (cM (aHK a1 a2 v1 hv1) k3 (cI k (cI k aN))) k<|oB h λv2 hv2 h=>ae (AEff.conv (gZ (x:= .tuple [.agg [.int v2.1.rows,.int v2.1.cols,.own 2 0 (v2.1.cells.map eI).length],.own 3 0 (v2.2.map eI).length]) (nb:=[(2,⟨1,cK (v2.1.cells.map eI)⟩),(3,⟨1,cK (v2.2.map eI)⟩)]) (aEB a0 v1 v2 hv2) k (by rfl) k k (dA (cH aU (cH aU (cH (cU.good _) uM))) (dA (cU.good _) qQ)) (cI k (aI (vaM k2) aN))) (v':= .tuple [.agg [.int v2.1.rows,.int v2.1.cols,.own 2 0 v2.1.cells.length],.own 3 0 v2.2.length]) (ed':=[(2,some ⟨1,v2.1.cells.map (ow eI)⟩),(3,some ⟨1,v2.2.map (ow eI)⟩)]) (by simp only [aG]) (pB (nb':=[(2,⟨1,v2.1.cells.map (ow eI)⟩),(3,⟨1,v2.2.map (ow eI)⟩)]) (by simp only [fB]))) k<|am k k<|ae (bA k k (by intro _ h;cases h)) k<|ae (bA k k (by intro _ h;cases h)) k<|ae (bX aO k k) k<|ae (ws k) k<|aT k2<|sR<|aT k2<|sQ<|sR<|am k k ?_;refine ae (dI aO k k k k) k<|am k k<|an<|tn<|aC<|oB h λy7 hy7 h=>bZ (body:=(xH v2)) hy7 (λ(x1:((List (List Int))×Int))=>mN [(1,.int a1),(6,.ptr 0 0 0),(7,.ptr 1 0 0),(9,.own 3 0 x1.1.length),(20,.int ((v2.2.length:Nat):Int)),(21,.int x1.2)] [(0,⟨2,[[.int 0,.nil 1]]⟩),(1,⟨3,[oMt v2.1 2]⟩),(2,⟨1,v2.1.cells.map (ow eI)⟩),(3,⟨1,x1.1.map (ow (dH 1 eI))⟩)] 4) (λr e t=>e= .exit 0∧Ent t (mN [(1,.int a1),(6,.ptr 0 0 0),(9,.own 1 0 r.length)] [(0,⟨2,[[.int 0,.nil 1]]⟩),(1,⟨1,r.map (ow (dH 1 eI))⟩)] 2)) (fP (σ:=sg [(0,0),(1,4),(2,2)]) (jU 3 k2 (fU ⟨_,k,⟨k,k,k,k⟩⟩ (bJ k2))) (bF k<|eC k<|bO k<|hX k k<|aU) k) ?_ ?_
 ·intro x1 o h;refine sR<|cm k4<|an<|tn<|sQ<|cW k h (λ_ h=>?_) λ_ h=>aX<|aB<|aB<|sp h ⟨_,k,k,(gA [0,3] (bJ k2) (bF k<|cA (bY.plainO _) k<|aU) k4)⟩;exact aH<|tn<|sQ<|aC<|sR<|am k k<|aT k2<|rg<|am k k<|lp k8<|am k k<|oB h λv4 hv4 h=>ae (AEff.pureE (qF (σ:=sg [(0,2)]) (σ':=sg [(2,0)]) (touch:=[2]) (news:=[]) (hl2:=[(2,⟨1,v2.1.cells.map (ow eI)⟩)]) (n':=4) (r2:= .own 2 (0+(wr (x1.2*v2.1.cols)).toNat) ((wr ((wr (x1.2+1))*v2.1.cols)).toNat - (wr (x1.2*v2.1.cols)).toNat)) (fK v2.1 x1.2 v4 hv4) k k ⟨_,_,k,⟨_,_,k,k,⟨_,_,k,k,⟨_,_,k,⟨k,k,k,k⟩,k⟩⟩⟩,⟨_,_,k,k,k⟩⟩ ⟨⟨_,k,k,.inl ⟨k,cU.plainO _⟩⟩,k,aU⟩ k k k ⟨⟨_,k,k,.inl ⟨k,cU.plainO _⟩⟩,k,aU⟩ k ⟨k,k,(by simp only [aG,lA,lT,lR,lC,lN]),k⟩ k ⟨k,cU.tame _ _,aU⟩ k k) ⟨k,k,aU⟩) k<|oB h λv5 hv5 h=>ae (cL cU (aCO ((v2.1.cells.drop (0+(wr (x1.2*v2.1.cols)).toNat)).take ((wr ((wr (x1.2+1))*v2.1.cols)).toNat - (wr (x1.2*v2.1.cols)).toNat)) v5 hv5) k3 (aI (aUG cU k) aN)) k<|ae (wl k) k<|cG h λq6 h=>ae (eW aO (l:=x1.1) (c:=[.own 4 0 v5.length]) q6 k k k k k k k k k k k k k k) k<|aa k k<|an<|aY<|tn<|aD (t:=mN [(1,.int a1),(6,.ptr 0 0 0),(7,.ptr 1 0 0),(9,.own 6 0 ((x1.1++[v5]).length)),(20,.int ((v2.2.length:Nat):Int)),(21,.int x1.2)] [(0,⟨2,[[.int 0,.nil 1]]⟩),(1,⟨3,[oMt v2.1 2]⟩),(2,⟨1,v2.1.cells.map (ow eI)⟩),(6,⟨1,List.map (ow (dH 1 eI)) (x1.1++[v5])⟩)] 7) (Ent.trans (dB (b:=6) (b':=4) (j:=0) (es':=v5.map eI) k k k k (aG _ _) (cU.frzs _)) (bU (jU 3 k2 (fU ⟨_,k,⟨k,k,(by simp only [aG,lA,lT,lR,lC,lN]),k⟩⟩ (bJ k2))) (bF k<|eC k<|bO k<|hX ⟨_,k,k,.inl ⟨fD v5 k,bY.plainO _⟩⟩ k<|aU) k4))<|rg<|ae (bG k k) k<|am k k<|an<|tn<|sp h ⟨_,k,(gA [0,1,2,6] (bJ k2) (bF k<|eC k<|bO k<|cA (bY.plainO _) k<|aU) k4)⟩
 ·rintro e t ⟨rfl,hent⟩;exact aM<|tn<|aD hent<|sR<|am k k<|am k k<|ae (gC aO k k k k k k) k<|ae (ws k) k<|an<|tn<|aE<|sp h (bC k k k (gW (aZ (k) (aZ (cN bY k k) eJ))))
def pT (a0:Int) (a1:(List Mt)) (x1:((List Sc)×Int)):Option (((List Sc)×Int) ⊕ (List Sc)):=
 bif decide (x1.2<(a1.length:Int)) then
 ((cP a1 x1.2).bind λv2=>
 (gF v2).bind λv3=>
 (zZ a0 v2.rows v3).bind λv4=>
 bif decide (x1.1.length+1≤4294967296) then
 (some (.inl ((x1.1++[v4]),wr (x1.2+1))))
 else none)
 else
 (some (.inr x1.1))
def vY (a0:Int) (a1:(List Mt)):Option (List Sc):=
 (Lp (pT a0 a1) ([],0)).bind λy6=>
 some (y6)
theorem aHL (a0:Int) (a1:(List Mt)) (r:(List Sc)) (h:vY a0 a1=some r):HasC Tryz.prog 324 [.int a0,.list 3 (a1.map eM)] (.list 2 (r.map eS)):=by
 refine hM [.tmp 4] Tryz.func324 Tryz.ntmps324 k<|sR<|aT k2<|sR<|aT k2<|sQ<|sR<|am k k<|ln k4<|am k k<|an<|tn<|aC<|oB h λy6 hy6 h=>bZ (body:=(pT a0 a1)) hy6 (λ(x1:((List Sc)×Int))=>mN [(0,.int a0),(5,.own 0 0 x1.1.length),(8,.list 3 (a1.map eM)),(9,.int (a1.length:Int)),(10,.int x1.2)] [(0,⟨2,x1.1.map (ow eS)⟩)] 1) (λr e t=>e= .exit 0∧Ent t (mN [(5,.own 0 0 r.length)] [(0,⟨2,r.map (ow eS)⟩)] 1)) (fP (σ:=sg []) (jU 1 k2 (fU ⟨_,k,⟨k,k,k,k⟩⟩ (bJ k2))) (hX k k<|aU) k) ?_ ?_
 ·intro x1 o h;refine sR<|cm k4<|an<|tn<|sQ<|cW k h (λ_ h=>?_) λ_ h=>aX<|aB<|aB<|sp h ⟨_,k,k,(bU (bJ k2) (cA (dJ.plainO _) k<|aU) k4)⟩;refine aH<|tn<|sQ<|aC<|sR<|oB h λv2 hv2 h=>ae (xl hv2 k) k<|lr k7<|ae (bX aO k k) k<|ae (ws k) k<|an<|tn<|aP eP<|am k k<|am k k<|fp k8<|lp k8<|lp k8<|oB h λv3 hv3 h=>ae (cL bY (qS v2 v3 hv3) k3 (aI (eD k) aN)) k<|oB h λv4 hv4 h=>ae (cS (aGr a0 v2.rows v3 v4 hv4) k3 (cI k (cI k (aI (qE bY k k) aN)))) k<|ae (wl k) k<|cG h λq5 h=>ae (eW aO (l:=x1.1) (c:=[.int v4.size,.own 3 0 v4.basis.length]) q5 k k k k k k k k k k k k k k) k<|aa k k<|an<|lL (by kernel_rfl)<|aY<|tn<|aD (t:=mN [(0,.int a0),(5,.own 5 0 ((x1.1++[v4]).length)),(8,.list 3 (a1.map eM)),(9,.int (a1.length:Int)),(10,.int x1.2)] [(5,⟨2,List.map (ow eS) (x1.1++[v4])⟩)] 6) (Ent.trans (dB (b:=5) (b':=3) (j:=1) (es':=v4.basis.map (dH 1 eI)) k k k k (aG _ _) (bY.frzs _)) (bU (jU 1 k2 (fU ⟨_,k,⟨k,k,(by simp only [aG,lA,lT,lR,lC,lN]),k⟩⟩ (bJ k2))) (hX ⟨_,k,k,.inl ⟨fD v4 k,dJ.plainO _⟩⟩ k<|aU) k4))<|rg ?_;exact ae (bG k k) k<|am k k<|an<|tn<|sp h ⟨_,k,(gA [5] (bJ k2) (cA (dJ.plainO _) k<|aU) k4)⟩
 ·rintro e t ⟨rfl,hent⟩;exact aM<|tn<|aD hent<|sR<|am k k<|aT k2<|aE<|sp h (bC k k k (eV (cN dJ k k)))
def rC (a1:Mt) (v1:(Mt×(List Int))) (x1:((List (List Int))×Int)) (x2:((List Int)×Int)):Option (((List Int)×Int) ⊕ (List Int)):=
 bif decide (x2.2<a1.rows) then
 ((cP v1.2 x1.2).bind λv4=>
 (cP a1.cells (wr ((wr (x2.2*a1.cols))+v4))).bind λv5=>
 bif decide (x2.1.length+[v5].length ≤4294967296) then
 (some (.inl ((x2.1++[v5]),wr (x2.2+1))))
 else none)
 else
 (some (.inr x2.1))
def rD (a1:Mt) (v1:(Mt×(List Int))) (x1:((List (List Int))×Int)):Option (((List (List Int))×Int) ⊕ (List (List Int))):=
 bif decide (x1.2<((v1.2.length:Nat):Int)) then
 ((Lp (rC a1 v1 x1) (([]:(List Int)),0)).bind λy7=>
 bif decide (x1.1.length+1≤4294967296) then
 (some (.inl ((x1.1++[y7]),wr (x1.2+1))))
 else none)
 else
 (some (.inr x1.1))
def xI (a0:Int) (a1:Mt):Option (List (List Int)):=
 (lQ a0 a1).bind λv1=>
 (Lp (rD a1 v1) (([]:(List (List Int))),0)).bind λy9=>
 some (y9)
theorem aIy (a0:Int) (a1:Mt) (r:(List (List Int))) (h:xI a0 a1=some r):HasC Tryz.prog 198 [.int a0,.agg (eM a1)] (.list 1 (r.map (dH 1 eI))):=by
 refine hM [.tmp 4] Tryz.func198 Tryz.ntmps198 k<|sR<|ae (wb k) k<|aT k2<|sR<|am k k<|lp k8<|oB h λv1 hv1 h=>ae (AEff.conv (gZ (x:= .tuple [.agg [.int v1.1.rows,.int v1.1.cols,.own 1 0 (v1.1.cells.map eI).length],.own 2 0 (v1.2.map eI).length]) (nb:=[(1,⟨1,cK (v1.1.cells.map eI)⟩),(2,⟨1,cK (v1.2.map eI)⟩)]) (aAG a0 a1 v1 hv1) k (by rfl) k k (dA (cH aU (cH aU (cH (cU.good _) uM))) (dA (cU.good _) qQ)) (cI k (aI (eD k) aN))) (v':= .tuple [.agg [.int v1.1.rows,.int v1.1.cols,.own 1 0 v1.1.cells.length],.own 2 0 v1.2.length]) (ed':=[(1,some ⟨1,v1.1.cells.map (ow eI)⟩),(2,some ⟨1,v1.2.map (ow eI)⟩)]) (by simp only [aG]) (pB (nb':=[(1,⟨1,v1.1.cells.map (ow eI)⟩),(2,⟨1,v1.2.map (ow eI)⟩)]) (by simp only [fB]))) k<|am k k<|ae (bA k k (by intro _ h;cases h)) k<|ae (bA k k (by intro _ h;cases h)) k<|ae (bX aO k k) k<|ae (ws k) k<|aT k2<|sR<|ae (wl k) k<|aT k2<|aD (t:=mN [(3,.ptr 0 0 0),(6,.own 2 0 v1.2.length),(7,.own 4 0 (([]:(List (List Int))).length))] [(0,⟨3,[eM a1]⟩),(2,⟨1,v1.2.map (ow eI)⟩),(4,⟨1,List.map (ow (dH 1 eI)) ([]:(List (List Int)))⟩)] 5) (bU (jU 2 k2 (fU ⟨_,k,⟨k,k,(by simp only [aG,lA,lT,lR,lC,lN]),k⟩⟩ aU)) (bF k<|bO k<|cA (bY.plainO _) k<|aU) k4)<|sQ<|sR ?_;refine aT k2<|aC<|oB h λy9 hy9 h=>bZ (body:=(rD a1 v1)) hy9 (λ(x1:((List (List Int))×Int))=>mN [(3,.ptr 0 0 0),(6,.own 1 0 v1.2.length),(7,.own 2 0 x1.1.length),(8,.int x1.2)] [(0,⟨3,[eM a1]⟩),(1,⟨1,v1.2.map (ow eI)⟩),(2,⟨1,x1.1.map (ow (dH 1 eI))⟩)] 3) (λr e t=>e= .exit 0∧Ent t (mN [(7,.own 0 0 r.length)] [(0,⟨1,r.map (ow (dH 1 eI))⟩)] 1)) (gA [0,2,4] (bJ k2) (bF k<|bO k<|cA (bY.plainO _) k<|aU) k4) ?_ ?_
 ·intro x1 o h;refine sQ<|sR<|am k k<|am k k<|ae (dI aO k k k k) k<|cm k4<|an<|tn<|cW k h (λ_ h=>?_) λ_ h=>aX<|aB<|aB<|sp h ⟨_,k,k,(gA [2] (bJ k2) (cA (bY.plainO _) k<|aU) k4)⟩;refine aH<|tn<|sQ<|aC<|sR<|ae (wl k) k<|aT k2<|aD (t:=mN [(3,.ptr 0 0 0),(6,.own 1 0 v1.2.length),(7,.own 2 0 x1.1.length),(8,.int x1.2),(9,.own 3 0 (([]:(List Int)).length))] [(0,⟨3,[eM a1]⟩),(1,⟨1,v1.2.map (ow eI)⟩),(2,⟨1,x1.1.map (ow (dH 1 eI))⟩),(3,⟨1,List.map (ow eI) ([]:(List Int))⟩)] 4) (bU (jU 4 k2 (fU ⟨_,k,⟨k,k,(by simp only [aG,lA,lT,lR,lC,lN]),k⟩⟩ aU)) (bF k<|bO k<|cA (bY.plainO _) k<|bO k<|aU) k4)<|sQ<|sR<|aT k2<|aC<|oB h λy7 hy7 h=>bZ (body:=(rC a1 v1 x1)) hy7 (λ(x2:((List Int)×Int))=>mN [(3,.ptr 0 0 0),(6,.own 1 0 v1.2.length),(7,.own 2 0 x1.1.length),(8,.int x1.2),(9,.own 3 0 x2.1.length),(10,.int x2.2)] [(0,⟨3,[eM a1]⟩),(1,⟨1,v1.2.map (ow eI)⟩),(2,⟨1,x1.1.map (ow (dH 1 eI))⟩),(3,⟨1,x2.1.map (ow eI)⟩)] 4) (λr e t=>e= .exit 2∧Ent t (mN [(3,.ptr 0 0 0),(6,.own 1 0 v1.2.length),(7,.own 2 0 x1.1.length),(8,.int x1.2),(9,.own 3 0 r.length)] [(0,⟨3,[eM a1]⟩),(1,⟨1,v1.2.map (ow eI)⟩),(2,⟨1,x1.1.map (ow (dH 1 eI))⟩),(3,⟨1,r.map (ow eI)⟩)] 4)) (bU (bJ k2) (bF k<|bO k<|cA (bY.plainO _) k<|bO k<|aU) k4) ?_ ?_
  ·intro x2 o h;refine sQ<|sR<|am k k<|fp k8<|lp k8<|cm k4<|an<|tn<|cW k h (λ_ h=>?_) λ_ h=>aX<|aB<|aB<|sp h ⟨_,k,k,(bU (bJ k2) (bF k<|bO k<|cA (bY.plainO _) k<|bO k<|aU) k4)⟩;refine aH<|tn<|sQ<|aC<|aP eP<|am k k<|fp k8<|lp k8<|am k k<|fp k8<|lp k8<|ae (eZ k k) k<|am k k<|am k k<|oB h λv4 hv4 h=>ae (xo hv4 k) k<|ae (wp hv4 k) k<|ae (bG k k) k<|oB h λv5 hv5 h=>ae (xl hv5 k) k<|lr k7<|ae (wl k) k<|cG h λq6 h=>ae (oH aO (l:=x2.1) (m:=[v5]) jT q6 k k k k k k k k k k k k) k<|aa k k<|an<|lL (by kernel_rfl)<|aY<|tn<|rg<|am k k<|ae (bG k k) k ?_;exact aT k2<|sp h ⟨_,k,(gA [0,1,2,5] (bJ k2) (bF k<|bO k<|cA (bY.plainO _) k<|bO k<|aU) k4)⟩
  ·rintro e t ⟨rfl,hent⟩;exact aM<|tn<|aD hent<|rg<|am k k<|am k k<|ae (wl k) k<|cG h λq8 h=>ae (eW aO (l:=x1.1) (c:=[.own 3 0 y7.length]) q8 k k k k k k k k k k k k k k) k<|aa k k<|an<|aY<|tn<|aD (t:=mN [(3,.ptr 0 0 0),(6,.own 1 0 v1.2.length),(7,.own 5 0 ((x1.1++[y7]).length)),(8,.int x1.2)] [(0,⟨3,[eM a1]⟩),(1,⟨1,v1.2.map (ow eI)⟩),(5,⟨1,List.map (ow (dH 1 eI)) (x1.1++[y7])⟩)] 6) (Ent.trans (dB (b:=5) (b':=3) (j:=0) (es':=y7.map eI) k k k k (aG _ _) (cU.frzs _)) (bU (jU 2 k2 (fU ⟨_,k,⟨k,k,(by simp only [aG,lA,lT,lR,lC,lN]),k⟩⟩ (bJ k2))) (bF k<|bO k<|hX ⟨_,k,k,.inl ⟨fD y7 k,bY.plainO _⟩⟩ k<|aU) k4))<|rg<|am k k<|ae (bG k k) k<|aT k2<|sp h ⟨_,k,(gA [0,1,5] (bJ k2) (bF k<|bO k<|cA (bY.plainO _) k<|aU) k4)⟩
 ·rintro e t ⟨rfl,hent⟩;exact aM<|tn<|aD hent<|sR<|am k k<|aT k2<|aE<|sp h (bC k k k (eV (cN bY k k)))
def tE (a1:(List (List Int))) (x1:((List Int)×Int)):Option (((List Int)×Int) ⊕ (List Int)):=
 bif decide (x1.2<(a1.length:Int)) then
 ((cP a1 x1.2).bind λv2=>
 bif decide (x1.1.length+v2.length≤4294967296) then
 (some (.inl ((x1.1++v2),wr (x1.2+1))))
 else none)
 else
 (some (.inr x1.1))
def qN (a0:Int) (a1:(List (List Int))):Option Mt:=
 (Lp (tE a1) ([],0)).bind λy4=>
 some ((⟨(a1.length:Int),a0,y4⟩:Mt))
theorem aBa (a0:Int) (a1:(List (List Int))) (r:Mt) (h:qN a0 a1=some r):HasC Tryz.prog 252 [.int a0,.list 1 (a1.map (dH 1 eI))] (.agg (eM r)):=by
 refine hM [.cell 4 130] Tryz.func252 Tryz.ntmps252 k<|sR<|ae (bX aO k k) k<|an<|tn<|sR<|am k k<|ln k4<|am k k<|ae (gC aO k k k k k k) k<|ae (bX aO k k) k<|ae (ws k) k<|an<|tn<|sQ<|sR<|aT k2<|aC<|oB h λy4 hy4 h=>bZ (body:=(tE a1)) hy4 (λ(x1:((List Int)×Int))=>mN [(1,.list 1 (a1.map (dH 1 eI))),(4,.ptr 0 0 0),(5,.ptr 1 0 0),(6,.int x1.2)] [(0,⟨3,[fJ]⟩),(1,⟨3,[[.int (a1.length:Int),.int a0,.own 2 0 x1.1.length]]⟩),(2,⟨1,x1.1.map (ow eI)⟩)] 3) (λr e t=>e= .exit 0∧Ent t (mN [(4,.ptr 0 0 0),(5,.ptr 1 0 0)] [(0,⟨3,[fJ]⟩),(1,⟨3,[[.int (a1.length:Int),.int a0,.own 2 0 r.length]]⟩),(2,⟨1,r.map (ow eI)⟩)] 3)) (fP (σ:=sg [(0,0),(1,1)]) (bJ k2) (bF k<|hX ⟨_,k,k,.inr ⟨_,_,k,⟨_,_,k,k,⟨_,_,k,k,⟨_,_,k,⟨k,k,k,k⟩,k⟩⟩⟩,k⟩⟩ k<|hX k k<|aU) k) ?_ ?_
 ·intro x1 o h;exact sQ<|sR<|am k k<|am k k<|ln k4<|cm k4<|an<|tn<|cW k h (λ_ h=>aH<|tn<|sQ<|aC<|aP eP<|fp k8<|lp k8<|am k k<|am k k<|oB h λv2 hv2 h=>ae (xl hv2 k) k<|lr k7<|cG h λq3 h=>ae (oH aO (l:=x1.1) (m:=v2) jT q3 k k k k k k k k k k k k) k<|fp k8<|ae (ws k) k<|an<|lL (by kernel_rfl)<|aY<|tn<|rg<|am k k<|ae (bG k k) k<|aT k2<|sp h ⟨_,k,(gA [0,1,3] (bJ k2) (bF k<|eC k<|bO k<|aU) k4)⟩) λ_ h=>aX<|aB<|aB<|sp h ⟨_,k,k,(bU (bJ k2) (bF k<|eC k<|bO k<|aU) k4)⟩
 ·rintro e t ⟨rfl,hent⟩;exact aM<|tn<|aD hent<|sR<|lp k8<|ae (ws k) k<|an<|tn<|aE<|sp h (bC k k k (gW (aZ (k) (aZ (k) (aZ (cN cU k k) eJ)))))
def rE (v1:(Mt×(List Int))) (x1:((List (List Int))×Int)):Option (((List (List Int))×Int) ⊕ (List (List Int))):=
 bif decide (x1.2<((v1.2.length:Nat):Int)) then
 (bif (decide (0≤wr (x1.2*v1.1.cols))&&(decide (wr (x1.2*v1.1.cols)≤wr ((wr (x1.2*v1.1.cols))+v1.1.cols))&&decide (wr ((wr (x1.2*v1.1.cols))+v1.1.cols)≤((v1.1.cells.length:Nat):Int)))) then
 (bif decide (([]:(List Int)).length +((v1.1.cells.drop (0+(wr (x1.2*v1.1.cols)).toNat)).take ((wr ((wr (x1.2*v1.1.cols))+v1.1.cols)).toNat - (wr (x1.2*v1.1.cols)).toNat)).length ≤4294967296) then
 (bif decide (x1.1.length+1≤4294967296) then
 (some (.inl ((x1.1++[(([]:(List Int))++((v1.1.cells.drop (0+(wr (x1.2*v1.1.cols)).toNat)).take ((wr ((wr (x1.2*v1.1.cols))+v1.1.cols)).toNat - (wr (x1.2*v1.1.cols)).toNat)))]),wr (x1.2+1))))
 else none)
 else none)
 else none)
 else
 (some (.inr x1.1))
def sB (a0:Int) (a1:Mt):Option (List (List Int)):=
 (lQ a0 a1).bind λv1=>
 (Lp (rE v1) (([]:(List (List Int))),0)).bind λy6=>
 some (y6)
theorem aDM (a0:Int) (a1:Mt) (r:(List (List Int))) (h:sB a0 a1=some r):HasC Tryz.prog 251 [.int a0,.agg (eM a1)] (.list 1 (r.map (dH 1 eI))):=by
 refine hM [.tmp 4] Tryz.func251 Tryz.ntmps251 k<|sR<|ae (wb k) k<|aT k2<|sR<|am k k<|lp k8<|oB h λv1 hv1 h=>ae (AEff.conv (gZ (x:= .tuple [.agg [.int v1.1.rows,.int v1.1.cols,.own 1 0 (v1.1.cells.map eI).length],.own 2 0 (v1.2.map eI).length]) (nb:=[(1,⟨1,cK (v1.1.cells.map eI)⟩),(2,⟨1,cK (v1.2.map eI)⟩)]) (aAG a0 a1 v1 hv1) k (by rfl) k k (dA (cH aU (cH aU (cH (cU.good _) uM))) (dA (cU.good _) qQ)) (cI k (aI (eD k) aN))) (v':= .tuple [.agg [.int v1.1.rows,.int v1.1.cols,.own 1 0 v1.1.cells.length],.own 2 0 v1.2.length]) (ed':=[(1,some ⟨1,v1.1.cells.map (ow eI)⟩),(2,some ⟨1,v1.2.map (ow eI)⟩)]) (by simp only [aG]) (pB (nb':=[(1,⟨1,v1.1.cells.map (ow eI)⟩),(2,⟨1,v1.2.map (ow eI)⟩)]) (by simp only [fB]))) k<|am k k<|ae (bA k k (by intro _ h;cases h)) k<|ae (bA k k (by intro _ h;cases h)) k<|ae (bX aO k k) k<|ae (ws k) k<|aT k2<|sR<|ae (wl k) k<|aT k2<|aD (t:=mN [(5,.ptr 3 0 0),(6,.own 2 0 v1.2.length),(7,.own 4 0 (([]:(List (List Int))).length))] [(1,⟨1,v1.1.cells.map (ow eI)⟩),(2,⟨1,v1.2.map (ow eI)⟩),(3,⟨3,[oMt v1.1 1]⟩),(4,⟨1,List.map (ow (dH 1 eI)) ([]:(List (List Int)))⟩)] 5) (bU (jU 2 k2 (fU ⟨_,k,⟨k,k,(by simp only [aG,lA,lT,lR,lC,lN]),k⟩⟩ aU)) (bO k<|bO k<|eC k<|cA (bY.plainO _) k<|aU) k4)<|sQ<|sR ?_;refine aT k2<|aC<|oB h λy6 hy6 h=>bZ (body:=(rE v1)) hy6 (λ(x1:((List (List Int))×Int))=>mN [(5,.ptr 0 0 0),(6,.own 2 0 v1.2.length),(7,.own 3 0 x1.1.length),(8,.int x1.2)] [(0,⟨3,[oMt v1.1 1]⟩),(1,⟨1,v1.1.cells.map (ow eI)⟩),(2,⟨1,v1.2.map (ow eI)⟩),(3,⟨1,x1.1.map (ow (dH 1 eI))⟩)] 4) (λr e t=>e= .exit 0∧Ent t (mN [(7,.own 0 0 r.length)] [(0,⟨1,r.map (ow (dH 1 eI))⟩)] 1)) (gA [3,1,2,4] (bJ k2) (eC k<|bO k<|bO k<|cA (bY.plainO _) k<|aU) k4) ?_ ?_
 ·intro x1 o h;refine sQ<|sR<|am k k<|am k k<|ae (dI aO k k k k) k<|cm k4<|an<|tn<|cW k h (λ_ h=>?_) λ_ h=>aX<|aB<|aB<|sp h ⟨_,k,k,(gA [3] (bJ k2) (cA (bY.plainO _) k<|aU) k4)⟩;refine aH<|tn<|sQ<|aC<|rg<|am k k<|ae (wl k) k<|fp k8<|lp k8<|am k k<|fp k8<|lp k8<|ae (eZ k k) k<|am k k<|fp k8<|lp k8<|ae (eZ k k) k<|fp k8<|lp k8<|ae (bG k k) k<|cG h λq3 h=>ae (aGn aO (l:=wr (x1.2*v1.1.cols)) (h:=wr ((wr (x1.2*v1.1.cols))+v1.1.cols)) q3 k k k k k k k k) k<|cG h λq4 h=>ae (oH aO (l:=([]:(List Int))) (m:=((v1.1.cells.drop (0+(wr (x1.2*v1.1.cols)).toNat)).take ((wr ((wr (x1.2*v1.1.cols))+v1.1.cols)).toNat - (wr (x1.2*v1.1.cols)).toNat))) jT q4 k k k k k (aVV cU k) k k k k k k) k<|ae (wl k) k<|cG h λq5 h=>ae (eW aO (l:=x1.1) (c:=[.own 5 0 ((([]:(List Int))++((v1.1.cells.drop (0+(wr (x1.2*v1.1.cols)).toNat)).take ((wr ((wr (x1.2*v1.1.cols))+v1.1.cols)).toNat - (wr (x1.2*v1.1.cols)).toNat))).length)]) q5 k k k k k k k k k k k k k k) k<|aa k k<|an<|aY<|tn<|aD (t:=mN [(5,.ptr 0 0 0),(6,.own 2 0 v1.2.length),(7,.own 7 0 ((x1.1++[(([]:(List Int))++((v1.1.cells.drop (0+(wr (x1.2*v1.1.cols)).toNat)).take ((wr ((wr (x1.2*v1.1.cols))+v1.1.cols)).toNat - (wr (x1.2*v1.1.cols)).toNat)))]).length)),(8,.int x1.2)] [(0,⟨3,[oMt v1.1 1]⟩),(1,⟨1,v1.1.cells.map (ow eI)⟩),(2,⟨1,v1.2.map (ow eI)⟩),(7,⟨1,List.map (ow (dH 1 eI)) (x1.1++[(([]:(List Int))++((v1.1.cells.drop (0+(wr (x1.2*v1.1.cols)).toNat)).take ((wr ((wr (x1.2*v1.1.cols))+v1.1.cols)).toNat - (wr (x1.2*v1.1.cols)).toNat)))])⟩)] 8) (Ent.trans (dB (b:=7) (b':=5) (j:=0) (es':=List.map eI (([]:(List Int))++((v1.1.cells.drop (0+(wr (x1.2*v1.1.cols)).toNat)).take ((wr ((wr (x1.2*v1.1.cols))+v1.1.cols)).toNat - (wr (x1.2*v1.1.cols)).toNat)))) k k k k (aG _ _) (cU.frzs _)) (bU (jU 2 k2 (fU ⟨_,k,⟨k,k,(by simp only [aG,lA,lT,lR,lC,lN]),k⟩⟩ (bJ k2))) (eC k<|bO k<|bO k<|hX ⟨_,k,k,.inl ⟨fD (([]:(List Int))++((v1.1.cells.drop (0+(wr (x1.2*v1.1.cols)).toNat)).take ((wr ((wr (x1.2*v1.1.cols))+v1.1.cols)).toNat - (wr (x1.2*v1.1.cols)).toNat))) k,bY.plainO _⟩⟩ k<|aU) k4)) ?_;exact rg<|am k k<|ae (bG k k) k<|aT k2<|sp h ⟨_,k,(gA [0,1,2,7] (bJ k2) (eC k<|bO k<|bO k<|cA (bY.plainO _) k<|aU) k4)⟩
 ·rintro e t ⟨rfl,hent⟩;exact aM<|tn<|aD hent<|sR<|am k k<|aT k2<|aE<|sp h (bC k k k (eV (cN bY k k)))
def nD (a0:Int) (a1:Int) (a2:(List (List Int))):Option Sc:=
 (qN a1 a2).bind λv1=>
 (sB a0 v1).bind λv2=>
 some ((⟨a1,v2⟩:Sc))
theorem yY (a0:Int) (a1:Int) (a2:(List (List Int))) (r:Sc) (h:nD a0 a1 a2=some r):HasC Tryz.prog 197 [.int a0,.int a1,.list 1 (a2.map (dH 1 eI))] (.agg (eS r)):=by
 exact hM [.cell 6 134] Tryz.func197 Tryz.ntmps197 k<|sR<|ae (bX aO k k) k<|an<|tn<|sR<|am k k<|am k k<|am k k<|am k k<|oB h λv1 hv1 h=>ae (cM (aBa a1 a2 v1 hv1) k3 (cI k (cI k aN))) k<|oB h λv2 hv2 h=>ae (cL bY (aDM a0 v1 v2 hv2) k3 (cI k (aI (vaM k2) aN))) k<|ae (gC aO k k k k k k) k<|ae (ws k) k<|an<|tn<|aE<|sp h (bC k k k (gW (aZ (k) (aZ (cN bY k k) eJ))))
def lH (a0:Mt) (x1:((List Int)×Int)) (x2:((List Int)×Int)):Option (((List Int)×Int) ⊕ (List Int)):=
 bif decide (x2.2<a0.cols) then
 ((cP a0.cells (wr ((wr (x1.2*a0.cols))+x2.2))).bind λv4=>
 (cP x2.1 (wr ((wr (x2.2*a0.rows))+x1.2))).bind λv5=>
 some (.inl ((x2.1.set ((wr ((wr (x2.2*a0.rows))+x1.2)).toNat) v4),wr (x2.2+1))))
 else
 (some (.inr x2.1))
def lI (a0:Mt) (x1:((List Int)×Int)):Option (((List Int)×Int) ⊕ (List Int)):=
 bif decide (x1.2<a0.rows) then
 ((Lp (lH a0 x1) (x1.1,0)).bind λy6=>
 some (.inl (y6,wr (x1.2+1))))
 else
 (some (.inr x1.1))
def gQ (a0:Mt):Option Mt:=
 (kH a0.cols a0.rows).bind λv1=>
 (Lp (lI a0) (v1.cells,0)).bind λy7=>
 some ((⟨v1.rows,v1.cols,y7⟩:Mt))
theorem pU (a0:Mt) (r:Mt) (h:gQ a0=some r):HasC Tryz.prog 227 [.agg (eM a0)] (.agg (eM r)):=by
 refine hM [.cell 2 130] Tryz.func227 Tryz.ntmps227 k<|sR<|ae (wb k) k<|ae (bX aO k k) k<|an<|tn<|sR<|fp k8<|lp k8<|fp k8<|lp k8<|oB h λv1 hv1 h=>ae (cM (uV a0.cols a0.rows v1 hv1) k3 (cI k (cI k aN))) k<|ae (bX aO k k) k<|ae (ws k) k<|an<|tn<|sQ<|sR<|aT k2<|aC<|oB h λy7 hy7 h=>bZ (body:=(lI a0)) hy7 (λ(x1:((List Int)×Int))=>mN [(1,.ptr 0 0 0),(2,.ptr 1 0 0),(3,.ptr 2 0 0),(4,.int x1.2)] [(0,⟨3,[eM a0]⟩),(1,⟨3,[fJ]⟩),(2,⟨3,[[.int v1.rows,.int v1.cols,.own 3 0 x1.1.length]]⟩),(3,⟨1,x1.1.map (ow eI)⟩)] 4) (λr e t=>e= .exit 0∧Ent t (mN [(2,.ptr 0 0 0),(3,.ptr 1 0 0)] [(0,⟨3,[fJ]⟩),(1,⟨3,[[.int v1.rows,.int v1.cols,.own 2 0 r.length]]⟩),(2,⟨1,r.map (ow eI)⟩)] 3)) (gA [0,1,3,2] (bJ k2) (bF k<|bF k<|eC k<|bO k<|aU) k4) ?_ ?_
 ·intro x1 o h;refine sQ<|sR<|am k k<|fp k8<|lp k8<|cm k4<|an<|tn<|cW k h (λ_ h=>?_) λ_ h=>aX<|aB<|aB<|sp h ⟨_,k,k,(gA [1,2,3] (bJ k2) (bF k<|eC k<|bO k<|aU) k4)⟩;refine aH<|tn<|sQ<|aC<|sR<|aT k2<|aC<|oB h λy6 hy6 h=>bZ (body:=(lH a0 x1)) hy6 (λ(x2:((List Int)×Int))=>mN [(1,.ptr 0 0 0),(2,.ptr 1 0 0),(3,.ptr 2 0 0),(4,.int x1.2),(5,.int x2.2)] [(0,⟨3,[eM a0]⟩),(1,⟨3,[fJ]⟩),(2,⟨3,[[.int v1.rows,.int v1.cols,.own 3 0 x2.1.length]]⟩),(3,⟨1,x2.1.map (ow eI)⟩)] 4) (λr e t=>e= .exit 2∧Ent t (mN [(1,.ptr 0 0 0),(2,.ptr 1 0 0),(3,.ptr 2 0 0),(4,.int x1.2)] [(0,⟨3,[eM a0]⟩),(1,⟨3,[fJ]⟩),(2,⟨3,[[.int v1.rows,.int v1.cols,.own 3 0 r.length]]⟩),(3,⟨1,r.map (ow eI)⟩)] 4)) (bU (bJ k2) (bF k<|bF k<|eC k<|bO k<|aU) k4) ?_ ?_
  ·intro x2 o h;refine sQ<|sR<|am k k<|fp k8<|lp k8<|cm k4<|an<|tn<|cW k h (λ_ h=>?_) λ_ h=>aX<|aB<|aB<|sp h ⟨_,k,k,(bU (bJ k2) (bF k<|bF k<|eC k<|bO k<|aU) k4)⟩;refine aH<|tn<|sQ<|aC<|aP eP<|fp k8<|lp k8<|am k k<|fp k8<|lp k8<|ae (eZ k k) k<|am k k<|ae (bG k k) k<|fp k8<|lp k8<|am k k<|fp k8<|lp k8<|ae (eZ k k) k<|am k k<|ae (bG k k) k<|oB h λv4 hv4 h=>ae (xl hv4 k) k<|lr k7<|oB h λv5 hv5 h=>ae (xo hv5 k) k<|ae (fY aO jT (u:=v4) (dF hv5) k k k k k k) k<|an<|lL (by kernel_rfl)<|aY<|tn ?_;exact aD (t:=mN [(1,.ptr 0 0 0),(2,.ptr 1 0 0),(3,.ptr 2 0 0),(4,.int x1.2),(5,.int x2.2)] [(0,⟨3,[eM a0]⟩),(1,⟨3,[fJ]⟩),(2,⟨3,[[.int v1.rows,.int v1.cols,.own 3 0 ((x2.1.set ((wr ((wr (x2.2*a0.rows))+x1.2)).toNat) v4).length)]]⟩),(3,⟨1,List.map (ow eI) (x2.1.set ((wr ((wr (x2.2*a0.rows))+x1.2)).toNat) v4)⟩)] 4) (bU (bJ k2) (bF k<|bF k<|hX ⟨_,k,k,.inr ⟨_,_,k,⟨_,_,k,k,⟨_,_,k,k,⟨_,_,k,⟨k,k,(by simp only [aG,lA,lT,lR,lC,lN]),k⟩,k⟩⟩⟩,k⟩⟩ k<|bO k<|aU) k4)<|rg<|am k k<|ae (bG k k) k<|aT k2<|sp h ⟨_,k,(bU (bJ k2) (bF k<|bF k<|eC k<|bO k<|aU) k4)⟩
  ·rintro e t ⟨rfl,hent⟩;exact aM<|aY<|tn<|aD hent<|rg<|am k k<|ae (bG k k) k<|aT k2<|sp h ⟨_,k,(bU (bJ k2) (bF k<|bF k<|eC k<|bO k<|aU) k4)⟩
 ·rintro e t ⟨rfl,hent⟩;exact aM<|tn<|aD hent<|sR<|lp k8<|ae (ws k) k<|an<|tn<|aE<|sp h (bC k k k (gW (aZ (k) (aZ (k) (aZ (cN cU k k) eJ)))))
def tF (a0:Int) (a1:Int) (a2:(List (List Int))) (x1:Int):Option (Int ⊕ (Unit ⊕ Bool)):=
 bif decide (x1<(a2.length:Int)) then
 ((cP a2 x1).bind λv2=>
 bif !decide ((v2.length:Int)=a1) then
 (some (.inr (.inr (false))))
 else
 ((cP a2 x1).bind λv4=>
 (lP a0 v4).bind λv5=>
 bif !v5 then
 (some (.inr (.inr (false))))
 else
 (some (.inl (wr (x1+1))))))
 else
 (some (.inr (.inl ())))
def yZ (a0:Int) (a1:Int) (a2:(List (List Int))):Option Bool:=
 (Lp (tF a0 a1 a2) 0).bind λy7=>
 Sum.elim (λy8=>
 (oJ a0).bind λv9=>
 bif v9 then
 ((kF a1 0 8).bind λv11=>
 bif v11 then
 (some (decide ((a2.length:Int)≤16)))
 else
 (some (false)))
 else
 (some (false))
 )
 (λy13=>
 some y13
 )
 y7
theorem aJo (a0:Int) (a1:Int) (a2:(List (List Int))) (r:Bool) (h:yZ a0 a1 a2=some r):HasC Tryz.prog 249 [.int a0,.int a1,.list 1 (a2.map (dH 1 eI))] (.bl r):=by
 refine hM [.tmp 6] Tryz.func249 Tryz.ntmps249 k<|sR<|aT k2<|sQ<|sR<|aT k2<|aC<|oB h λy7 hy7 h=>bZ (body:=(tF a0 a1 a2)) hy7 (λ(x1:Int)=>mN [(0,.int a0),(1,.int a1),(2,.list 1 (a2.map (dH 1 eI))),(7,.int x1)] [] 0) (λr e t=>Sum.elim (λa=>(λr e t=>e= .exit 0∧Ent t (mN [(0,.int a0),(1,.int a1),(2,.list 1 (a2.map (dH 1 eI)))] [] 0)) a e t) (λb=>(λr e t=>e= .ret∧uK TT [.tmp 6] (.bl r) .ret t) b e t) r) (bU (bJ k2) aU k4) ?_ ?_
 ·intro x1 o h;exact sQ<|sR<|am k k<|am k k<|ln k4<|cm k4<|an<|tn<|cW k h (λ_ h=>aH<|tn<|sQ<|aC<|sR<|am k k<|am k k<|oB h λv2 hv2 h=>ae (xl hv2 k) k<|lr k7<|ln k4<|am k k<|cm k4<|am k k<|rT h (λq3 h=>aQ 21 k q3<|aK k4<|aK k4<|aK k4<|ak k k<|pk k3<|an<|tn<|dK k k<|sR<|aT k2<|aE<|bN<|aJ<|aJ<|sp h ⟨_,k,k,bC k k k (nH k)⟩) λq3 h=>aQ 21 k q3<|am k k<|am k k<|am k k<|oB h λv4 hv4 h=>ae (xl hv4 k) k<|lr k7<|oB h λv5 hv5 h=>ae (aS (aAF a0 v4 v5 hv5) k (cI k (cI k aN))) k<|ae (dS k) k<|pk k3<|an<|tn<|cW k h (λ_ h=>sR<|aT k2<|aE<|bN<|aJ<|aJ<|sp h ⟨_,k,k,bC k k k (nH k)⟩) λ_ h=>aH<|aY<|tn<|rg<|am k k<|ae (bG k k) k<|aT k2<|sp h ⟨_,k,(bU (bJ k2) aU k4)⟩) λ_ h=>aX<|aB<|aB<|sp h ⟨_,k,k,(bU (bJ k2) aU k4)⟩
 ·intro e t hX;rcases y7 with y8|y13
  ·obtain ⟨rfl,hent⟩:=hX;exact aM<|tn<|aD hent<|sR<|am k k<|oB h λv9 hv9 h=>ae (aS (wZ a0 v9 hv9) k (cI k aN)) k<|am k k<|rT h (λq10 h=>aQ 32 k q10<|am k k<|oB h λv11 hv11 h=>ae (aS (pC a1 0 8 v11 hv11) k (cI k (cI k (cI k aN)))) k<|pk k3<|am k k<|rT h (λq12 h=>aQ 36 k q12<|am k k<|ln k4<|cm k4<|pk k3<|aT k2<|aE<|iZ h k2) λq12 h=>aQ 36 k q12<|aK k4<|ak k k<|pk k3<|aT k2<|aE<|iZ h k2) λq10 h=>aQ 32 k q10<|aK k4<|pk k3<|am k k<|aK k4<|ak k k<|pk k3<|aT k2<|aE<|iZ h k2
  ·obtain ⟨rfl,hent⟩:=hX;exact bN<|aJ<|sp h hent
def oP (a0:(List (List Int))) (a1:(List (List Int))) (x1:Int) (x2:Int):Option (Int ⊕ (Unit ⊕ Bool)):=
 (cP a0 x1).bind λv6=>
 bif decide (x2<(v6.length:Int)) then
 ((cP a0 x1).bind λv8=>
 (cP v8 x2).bind λv9=>
 (cP a1 x1).bind λv10=>
 (cP v10 x2).bind λv11=>
 bif !decide (v9=v11) then
 (some (.inr (.inr (false))))
 else
 (some (.inl (wr (x2+1)))))
 else
 (some (.inr (.inl ())))
def tG (a0:(List (List Int))) (a1:(List (List Int))) (x1:Int):Option (Int ⊕ (Unit ⊕ Bool)):=
 bif decide (x1<(a0.length:Int)) then
 ((cP a0 x1).bind λv3=>
 (cP a1 x1).bind λv4=>
 bif !decide ((v3.length:Int)=(v4.length:Int)) then
 (some (.inr (.inr (false))))
 else
 ((Lp (oP a0 a1 x1) 0).bind λy13=>
 Sum.elim (λy14=>
 some (.inl (wr (x1+1)))
 )
 (λy15=>
 some (.inr (.inr y15))
 )
 y13))
 else
 (some (.inr (.inl ())))
def uY (a0:(List (List Int))) (a1:(List (List Int))):Option Bool:=
 bif !decide ((a0.length:Int)=(a1.length:Int)) then
 (some (false))
 else
 ((Lp (tG a0 a1) 0).bind λy16=>
 Sum.elim (λy17=>
 some (true)
 )
 (λy18=>
 some y18
 )
 y16)
theorem aEE (a0:(List (List Int))) (a1:(List (List Int))) (r:Bool) (h:uY a0 a1=some r):HasC Tryz.prog 250 [.list 1 (a0.map (dH 1 eI)),.list 1 (a1.map (dH 1 eI))] (.bl r):=by
 refine hM [.tmp 4] Tryz.func250 Tryz.ntmps250 k<|sR<|aT k2<|sQ<|sR<|am k k<|ln k4<|am k k<|ln k4<|cm k4<|an<|tn<|cW k h (λ_ h=>sR<|aT k2<|aE<|aJ<|iZ h k2) λ_ h=>?_;refine aH<|tn<|sQ<|sR<|aT k2<|aC<|oB h λy16 hy16 h=>bZ (body:=(tG a0 a1)) hy16 (λ(x1:Int)=>mN [(0,.list 1 (a0.map (dH 1 eI))),(1,.list 1 (a1.map (dH 1 eI))),(5,.int x1)] [] 0) (λr e t=>Sum.elim (λa=>(λr e t=>e= .exit 0∧Ent t (mN [] [] 0)) a e t) (λb=>(λr e t=>e= .ret∧uK TT [.tmp 4] (.bl r) .ret t) b e t) r) (bU (bJ k2) aU k4) ?_ ?_
 ·intro x1 o h;refine sQ<|sR<|am k k<|am k k<|ln k4<|cm k4<|an<|tn<|cW k h (λ_ h=>?_) λ_ h=>aX<|aB<|aB<|sp h ⟨_,k,k,(bU aU aU k4)⟩;refine aH<|tn<|sQ<|aC<|sQ<|sQ<|aP eP<|am k k<|am k k<|oB h λv3 hv3 h=>ae (xl hv3 k) k<|lr k7<|ln k4<|am k k<|am k k<|oB h λv4 hv4 h=>ae (xl hv4 k) k<|lr k7<|ln k4<|cm k4<|an<|lL (by kernel_rfl)<|tn<|cW k h (λ_ h=>sR<|aT k2<|aE<|aJ<|bN<|aJ<|aJ<|sp h ⟨_,k,k,bC k k k (nH k)⟩) λ_ h=>?_;refine aH<|tn<|sR<|aT k2<|aC<|oB h λy13 hy13 h=>bZ (body:=(oP a0 a1 x1)) hy13 (λ(x2:Int)=>mN [(0,.list 1 (a0.map (dH 1 eI))),(1,.list 1 (a1.map (dH 1 eI))),(5,.int x1),(6,.int x2)] [] 0) (λr e t=>Sum.elim (λa=>(λr e t=>e= .exit 2∧Ent t (mN [(0,.list 1 (a0.map (dH 1 eI))),(1,.list 1 (a1.map (dH 1 eI))),(5,.int x1)] [] 0)) a e t) (λb=>(λr e t=>e= .ret∧uK TT [.tmp 4] (.bl r) .ret t) b e t) r) (bU (bJ k2) aU k4) ?_ ?_
  ·intro x2 o h;exact sQ<|sR<|am k k<|am k k<|am k k<|oB h λv6 hv6 h=>ae (xl hv6 k) k<|lr k7<|ln k4<|cm k4<|an<|tn<|cW k h (λ_ h=>aH<|tn<|sQ<|aC<|sQ<|aP eP<|am k k<|am k k<|oB h λv8 hv8 h=>ae (xl hv8 k) k<|lr k7<|am k k<|oB h λv9 hv9 h=>ae (xl hv9 k) k<|lr k7<|am k k<|am k k<|oB h λv10 hv10 h=>ae (xl hv10 k) k<|lr k7<|am k k<|oB h λv11 hv11 h=>ae (xl hv11 k) k<|lr k7<|cm k4<|an<|lL (by kernel_rfl)<|tn<|cW k h (λ_ h=>sR<|aT k2<|aE<|bN<|aJ<|aJ<|sp h ⟨_,k,k,bC k k k (nH k)⟩) λ_ h=>aH<|aY<|tn<|rg<|am k k<|ae (bG k k) k<|aT k2<|sp h ⟨_,k,(bU (bJ k2) aU k4)⟩) λ_ h=>aX<|aB<|aB<|sp h ⟨_,k,k,(bU (bJ k2) aU k4)⟩
  ·intro e t hX;rcases y13 with y14|y15
   ·obtain ⟨rfl,hent⟩:=hX;exact aM<|aY<|tn<|aD hent<|rg<|am k k<|ae (bG k k) k<|aT k2<|sp h ⟨_,k,(bU (bJ k2) aU k4)⟩
   ·obtain ⟨rfl,hent⟩:=hX;exact bN<|bN<|aJ<|aJ<|sp h ⟨_,k,k,hent⟩
 ·intro e t hX;rcases y16 with y17|y18
  ·obtain ⟨rfl,hent⟩:=hX;exact aM<|tn<|aD hent<|sR<|aT k2<|aE<|iZ h k2
  ·obtain ⟨rfl,hent⟩:=hX;exact bN<|aJ<|sp h hent
def kU (a0:Int) (a1:Sc):Option Bool:=
 (yZ a0 a1.size a1.basis).bind λv1=>
 bif !v1 then
 (some (false))
 else
 ((qN a1.size a1.basis).bind λv3=>
 (sB a0 v3).bind λv4=>
 (uY v4 a1.basis).bind λv5=>
 some (v5))
theorem xJ (a0:Int) (a1:Sc) (r:Bool) (h:kU a0 a1=some r):HasC Tryz.prog 182 [.int a0,.agg (eS a1)] (.bl r):=by
 exact hM [.tmp 4] Tryz.func182 Tryz.ntmps182 k<|sR<|ae (wb k) k<|aT k2<|sQ<|sR<|am k k<|fp k8<|lp k8<|fp k8<|lp k8<|oB h λv1 hv1 h=>ae (aS (aJo a0 a1.size a1.basis v1 hv1) k (cI k (cI k (cI k aN)))) k<|ae (dS k) k<|an<|tn<|cW k h (λ_ h=>sR<|aT k2<|aE<|aJ<|iZ h k2) λ_ h=>aH<|tn<|sQ<|aP eP<|am k k<|fp k8<|lp k8<|fp k8<|lp k8<|oB h λv3 hv3 h=>ae (cM (aBa a1.size a1.basis v3 hv3) k3 (cI k (cI k aN))) k<|oB h λv4 hv4 h=>ae (cL bY (aDM a0 v3 v4 hv4) k3 (cI k (aI (vaM k2) aN))) k<|fp k8<|lp k8<|oB h λv5 hv5 h=>ae (aS (aEE v4 a1.basis v5 hv5) k (aI (qE bY k k) (cI k aN))) k<|aa k k<|an<|lL (by kernel_rfl)<|tn<|aE<|iZ h k2
def uZ (a0:Qv):Option Qv:=
 bif decide (([]:(List Int)).length +a0.src.length≤4294967296) then
 (bif decide (([]:(List Int)).length +a0.tgt.length≤4294967296) then
 (some ((⟨a0.n,(([]:(List Int))++a0.src),(([]:(List Int))++a0.tgt)⟩:Qv)))
 else none)
 else none
theorem aEF (a0:Qv) (r:Qv) (h:uZ a0=some r):HasC Tryz.prog 280 [.agg (eQ a0)] (.agg (eQ r)):=by
 exact hM [.cell 2 44] Tryz.func280 Tryz.ntmps280 k<|sR<|ae (wb k) k<|ae (bX aO k k) k<|an<|tn<|sQ<|aP eP<|fp k8<|lp k8<|ae (wl k) k<|fp k8<|lp k8<|cG h λq1 h=>ae (oH aO (l:=([]:(List Int))) (m:=a0.src) jT q1 k k k k k k k k k k k k) k<|ae (wl k) k<|fp k8<|lp k8<|cG h λq2 h=>ae (oH aO (l:=([]:(List Int))) (m:=a0.tgt) jT q2 k k k k k k k k k k k k) k<|ae (gC aO k k k k k k) k<|ae (ws k) k<|an<|lL (by kernel_rfl)<|tn<|aE<|sp h (bC k k k (gW (aZ (k) (aZ (cN cU k k) (aZ (cN cU k k) eJ)))))
def tH (a1:Qv) (a2:(List Int)) (x1:((List Mt)×Int)):Option (((List Mt)×Int) ⊕ (List Mt)):=
 bif decide (x1.2<(a1.src.length:Int)) then
 ((cP a1.tgt x1.2).bind λv4=>
 (cP a2 v4).bind λv5=>
 (cP a1.src x1.2).bind λv6=>
 (cP a2 v6).bind λv7=>
 (kH v5 v7).bind λv8=>
 bif decide (x1.1.length+1≤4294967296) then
 (some (.inl ((x1.1++[v8]),wr (x1.2+1))))
 else none)
 else
 (some (.inr x1.1))
def zA (a0:Int) (a1:Qv) (a2:(List Int)):Option Rp:=
 (uZ a1).bind λv1=>
 bif decide (([]:(List Int)).length +a2.length≤4294967296) then
 ((Lp (tH a1 a2) (([]:(List Mt)),0)).bind λy10=>
 some ((⟨a0,v1,(([]:(List Int))++a2),y10⟩:Rp)))
 else none
theorem aJp (a0:Int) (a1:Qv) (a2:(List Int)) (r:Rp) (h:zA a0 a1 a2=some r):HasC Tryz.prog 281 [.int a0,.agg (eQ a1),.list 1 (a2.map eI)] (.agg (eR r)):=by
 refine hM [.cell 6 47] Tryz.func281 Tryz.ntmps281 k<|sR<|ae (wb k) k<|ae (bX aO k k) k<|an<|tn<|sR<|am k k<|lp k8<|oB h λv1 hv1 h=>ae (cQ (aEF a1 v1 hv1) k3 (aI (eD k) aN)) k<|ae (wl k) k<|am k k<|cG h λq2 h=>ae (oH aO (l:=([]:(List Int))) (m:=a2) jT q2 k k k k k k k k k k k k) k<|ae (wl k) k<|ae (gC aO k k k k k k) k<|ae (bX aO k k) k<|ae (ws k) k<|an<|tn<|aD (t:=mN [(2,.list 1 (a2.map eI)),(4,.ptr 0 0 0),(6,.ptr 1 0 0),(7,.ptr 7 0 0)] [(0,⟨3,[eQ a1]⟩),(1,⟨6,[lM]⟩),(2,⟨1,v1.src.map (ow eI)⟩),(3,⟨1,v1.tgt.map (ow eI)⟩),(5,⟨1,List.map (ow eI) (([]:(List Int))++a2)⟩),(6,⟨3,List.map (ow eM) ([]:(List Mt))⟩),(7,⟨6,[[.int a0,.int v1.n,.own 2 0 v1.src.length,.own 3 0 v1.tgt.length,.own 5 0 ((([]:(List Int))++a2).length),.own 6 0 (([]:(List Mt)).length)]]⟩)] 8) (bU (bJ k2) (bF k<|bF k<|bO k<|bO k<|bO k<|cA (bK.plainO _) k<|hX ⟨_,k,k,.inr ⟨_,_,k,⟨_,_,k,k,⟨_,_,k,k,⟨_,_,k,⟨k,k,k,k⟩,⟨_,_,k,⟨k,k,k,k⟩,⟨_,_,k,⟨k,k,k,k⟩,⟨_,_,k,⟨k,k,(by simp only [aG,lA,lT,lR,lC,lN]),k⟩,k⟩⟩⟩⟩⟩⟩,k⟩⟩ k<|aU) k4)<|sQ<|sR<|aT k2<|aC<|oB h λy10 hy10 h=>bZ (body:=(tH a1 a2)) hy10 (λ(x1:((List Mt)×Int))=>mN [(2,.list 1 (a2.map eI)),(4,.ptr 0 0 0),(6,.ptr 1 0 0),(7,.ptr 2 0 0),(8,.int x1.2)] [(0,⟨3,[eQ a1]⟩),(1,⟨6,[lM]⟩),(2,⟨6,[[.int a0,.int v1.n,.own 3 0 v1.src.length,.own 4 0 v1.tgt.length,.own 5 0 ((([]:(List Int))++a2).length),.own 6 0 x1.1.length]]⟩),(3,⟨1,v1.src.map (ow eI)⟩),(4,⟨1,v1.tgt.map (ow eI)⟩),(5,⟨1,List.map (ow eI) (([]:(List Int))++a2)⟩),(6,⟨3,x1.1.map (ow eM)⟩)] 7) (λr e t=>e= .exit 0∧Ent t (mN [(6,.ptr 0 0 0),(7,.ptr 1 0 0)] [(0,⟨6,[lM]⟩),(1,⟨6,[[.int a0,.int v1.n,.own 2 0 v1.src.length,.own 3 0 v1.tgt.length,.own 4 0 ((([]:(List Int))++a2).length),.own 5 0 r.length]]⟩),(2,⟨1,v1.src.map (ow eI)⟩),(3,⟨1,v1.tgt.map (ow eI)⟩),(4,⟨1,List.map (ow eI) (([]:(List Int))++a2)⟩),(5,⟨3,r.map (ow eM)⟩)] 6)) (gA [0,1,7,2,3,5,6] (bJ k2) (bF k<|bF k<|eC k<|bO k<|bO k<|bO k<|cA (bK.plainO _) k<|aU) k4) ?_ ?_
 ·intro x1 o h;refine sQ<|sR<|am k k<|fp k8<|lp k8<|ln k4<|cm k4<|an<|tn<|cW k h (λ_ h=>?_) λ_ h=>aX<|aB<|aB<|sp h ⟨_,k,k,(gA [1,2,3,4,5,6] (bJ k2) (bF k<|eC k<|bO k<|bO k<|bO k<|cA (bK.plainO _) k<|aU) k4)⟩;refine aH<|tn<|sQ<|aC<|aP eP<|fp k8<|lp k8<|am k k<|fp k8<|lp k8<|am k k<|oB h λv4 hv4 h=>ae (xl hv4 k) k<|lr k7<|oB h λv5 hv5 h=>ae (xl hv5 k) k<|lr k7<|am k k<|fp k8<|lp k8<|am k k<|oB h λv6 hv6 h=>ae (xl hv6 k) k<|lr k7<|oB h λv7 hv7 h=>ae (xl hv7 k) k<|lr k7<|oB h λv8 hv8 h=>ae (cM (uV v5 v7 v8 hv8) k3 (cI k (cI k aN))) k<|ae (wl k) k<|cG h λq9 h=>ae (eW aO (l:=x1.1) (c:=[.int v8.rows,.int v8.cols,.own 7 0 v8.cells.length]) q9 k k k k k k k k k k k k k k) k<|fp k8<|ae (ws k) k<|an ?_;exact lL (by kernel_rfl)<|aY<|tn<|aD (t:=mN [(2,.list 1 (a2.map eI)),(4,.ptr 0 0 0),(6,.ptr 1 0 0),(7,.ptr 2 0 0),(8,.int x1.2)] [(0,⟨3,[eQ a1]⟩),(1,⟨6,[lM]⟩),(2,⟨6,[[.int a0,.int v1.n,.own 3 0 v1.src.length,.own 4 0 v1.tgt.length,.own 5 0 ((([]:(List Int))++a2).length),.own 9 0 ((x1.1++[v8]).length)]]⟩),(3,⟨1,v1.src.map (ow eI)⟩),(4,⟨1,v1.tgt.map (ow eI)⟩),(5,⟨1,List.map (ow eI) (([]:(List Int))++a2)⟩),(9,⟨3,List.map (ow eM) (x1.1++[v8])⟩)] 10) (Ent.trans (dB (b:=9) (b':=7) (j:=2) (es':=v8.cells.map eI) k k k k (aG _ _) (cU.frzs _)) (bU (bJ k2) (bF k<|bF k<|hX ⟨_,k,k,.inr ⟨_,_,k,⟨_,_,k,k,⟨_,_,k,k,⟨_,_,k,⟨k,k,k,k⟩,⟨_,_,k,⟨k,k,k,k⟩,⟨_,_,k,⟨k,k,k,k⟩,⟨_,_,k,⟨k,k,(by simp only [aG,lA,lT,lR,lC,lN]),k⟩,k⟩⟩⟩⟩⟩⟩,k⟩⟩ k<|bO k<|bO k<|bO k<|hX ⟨_,k,k,.inl ⟨fD v8 k,bK.plainO _⟩⟩ k<|aU) k4))<|rg<|am k k<|ae (bG k k) k<|aT k2<|sp h ⟨_,k,(gA [0,1,2,3,4,5,9] (bJ k2) (bF k<|bF k<|eC k<|bO k<|bO k<|bO k<|cA (bK.plainO _) k<|aU) k4)⟩
 ·rintro e t ⟨rfl,hent⟩;exact aM<|tn<|aD hent<|sR<|lp k8<|ae (ws k) k<|an<|tn<|aE<|sp h (bC k k k (gW (aZ (k) (aZ (k) (aZ (cN cU k k) (aZ (cN cU k k) (aZ (cN cU k k) (aZ (cN bK k k) eJ))))))))
end
end Go.Proofs.YtilpfdokmlanjaaGreatDoor

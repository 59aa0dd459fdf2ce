/-
  Several texts of the claim in one.
-/
import Derived.Test.YtghechfdejhapaaGreatProg
import Derived.Test.YtghechfdejhapaaGreatH7
set_option linter.unusedVariables false
set_option linter.unusedSimpArgs false
namespace Go.Proofs.YtghechfdejhapaaGreat
open Go.RowKit
noncomputable section
set_option maxRecDepth 10000
set_option maxHeartbeats 4000000
def zJ (a0:Rp) (a1:Rp) (x1:((List Mt)×Int)):Option (((List Mt)×Int) ⊕ (List Mt)):=
 bif decide (x1.2<(a0.dims.length:Int)) then
 ((cJ a0.dims x1.2).bind λv2=>
 (cJ a1.dims x1.2).bind λv3=>
 (iY v3 v2).bind λv4=>
 bif decide (x1.1.length+1≤4294967296) then
 (some (.inl ((x1.1++[v4]),wr (x1.2+1))))
 else none)
 else
 (some (.inr x1.1))
def xB (a0:Rp) (a1:Rp):Option (List Mt):=
 (Lp (zJ a0 a1) ([],0)).bind λy6=>
 some (y6)
theorem aFT (a0:Rp) (a1:Rp) (r:(List Mt)) (h:xB a0 a1=some r):HasC Tryz.prog 175 [.agg (eR a0),.agg (eR a1)] (.list 3 (r.map eM)):=by
 refine hM [.tmp 4] Tryz.func175 Tryz.ntmps175 k<|sR<|ae (wb k) k<|ae (wb k) k<|aT k2<|sR<|aT k2<|sQ<|sR<|fp k8<|lp k8<|ln k4<|am k k<|an<|tn<|aC<|oB h λy6 hy6 h=>bX (body:=(zJ a0 a1)) hy6 (λ(x1:((List Mt)×Int))=>mN [(3,.ptr 0 0 0),(5,.own 1 0 x1.1.length),(9,.list 1 (a0.dims.map eI)),(10,.int (a0.dims.length:Int)),(11,.int x1.2)] [(0,⟨6,[eR a1]⟩),(1,⟨3,x1.1.map (ow eM)⟩)] 2) (λr e t=>e= .exit 0∧Ent t (mN [(5,.own 0 0 r.length)] [(0,⟨3,r.map (ow eM)⟩)] 1)) (eJ (σ:=sg [(0,1)]) (iU 1 k2 (gK ⟨_,k,⟨k,k,k,k⟩⟩ (bJ k2))) (bA k<|hX k k<|aS) k) ?_ ?_
 ·intro x1 o h;refine sR<|cm k4<|an<|tn<|sQ<|cV k h (λ_ h=>?_) λ_ h=>aW<|aA<|aA<|sp h ⟨_,k,k,(kC [1] (bJ k2) (cE (bU.plainO _) k<|aS) k4)⟩;refine aG<|tn<|sQ<|aC<|sR<|am k k<|oB h λv2 hv2 h=>ae (xl hv2 k) k<|lr k7<|aa k k<|aT k2<|rg<|am k k<|fp k8<|lp k8<|am k k<|oB h λv3 hv3 h=>ae (xl hv3 k) k<|lr k7<|am k k<|oB h λv4 hv4 h=>ae (cM (vX v3 v2 v4 hv4) k3 (cC k (cC k aI))) k<|ae (wl k) k<|cG h λq5 h=>ae (iE aJ (l:=x1.1) (c:=[.int v4.rows,.int v4.cols,.own 2 0 v4.cells.length]) q5 k k k k k k k k k k k k k k) k<|aa k k<|an<|aU<|tn<|aL (t:=mN [(3,.ptr 0 0 0),(5,.own 4 0 ((x1.1++[v4]).length)),(9,.list 1 (a0.dims.map eI)),(10,.int (a0.dims.length:Int)),(11,.int x1.2)] [(0,⟨6,[eR a1]⟩),(4,⟨3,List.map (ow eM) (x1.1++[v4])⟩)] 5) (Ent.trans (fH (b:=4) (b':=2) (j:=2) (es':=v4.cells.map eI) k k k k (aQ _ _) (cX.frzs _)) (bT (iU 1 k2 (gK ⟨_,k,⟨k,k,(by simp only [aQ,lA,lT,lR,lC,lN]),k⟩⟩ (bJ k2))) (bA k<|hX ⟨_,k,k,.inl ⟨jH v4 k,bU.plainO _⟩⟩ k<|aS) k4)) ?_;exact rg<|ae (bB k k) k<|am k k<|an<|tn<|sp h ⟨_,k,(kC [0,4] (bJ k2) (bA k<|cE (bU.plainO _) k<|aS) k4)⟩
 ·rintro e t ⟨rfl,hent⟩;exact aN<|tn<|aL hent<|sR<|am k k<|aT k2<|aD<|sp h (bK k k k (fZ (dE bU k k)))
def aBE (a0:(List Mt)) (x1:((List Int)×Int)):Option (((List Int)×Int) ⊕ (List Int)):=
 bif decide (x1.2<(a0.length:Int)) then
 ((cJ a0 x1.2).bind λv2=>
 bif decide (x1.1.length+v2.cells.length≤4294967296) then
 (some (.inl ((x1.1++v2.cells),wr (x1.2+1))))
 else none)
 else
 (some (.inr x1.1))
def pQ (a0:(List Mt)):Option (List Int):=
 (Lp (aBE a0) ([],0)).bind λy4=>
 some (y4)
theorem aGR (a0:(List Mt)) (r:(List Int)) (h:pQ a0=some r):HasC Tryz.prog 219 [.list 3 (a0.map eM)] (.list 1 (r.map eI)):=by
 refine hM [.tmp 2] Tryz.func219 Tryz.ntmps219 k<|sR<|aT k2<|sR<|aT k2<|sQ<|sR<|am k k<|ln k4<|am k k<|an<|tn<|aC<|oB h λy4 hy4 h=>bX (body:=(aBE a0)) hy4 (λ(x1:((List Int)×Int))=>mN [(3,.own 0 0 x1.1.length),(6,.list 3 (a0.map eM)),(7,.int (a0.length:Int)),(8,.int x1.2)] [(0,⟨1,x1.1.map (ow eI)⟩)] 1) (λr e t=>e= .exit 0∧Ent t (mN [(3,.own 0 0 r.length)] [(0,⟨1,r.map (ow eI)⟩)] 1)) (eJ (σ:=sg []) (gK ⟨_,k,⟨k,k,k,k⟩⟩ (bJ k2)) (hX k k<|aS) k) ?_ ?_
 ·intro x1 o h;exact sR<|cm k4<|an<|tn<|sQ<|cV k h (λ_ h=>aG<|tn<|sQ<|aC<|sR<|oB h λv2 hv2 h=>ae (xl hv2 k) k<|lr k7<|ae (bP aJ k k) k<|ae (ws k) k<|an<|tn<|rg<|am k k<|fp k8<|lp k8<|cG h λq3 h=>ae (mP aJ (l:=x1.1) (m:=v2.cells) jG q3 k k k k k k k k k k k k) k<|aa k k<|an<|aU<|tn<|rg<|ae (bB k k) k<|am k k<|an<|tn<|sp h ⟨_,k,(kC [2] (bJ k2) (bG k<|aS) k4)⟩) λ_ h=>aW<|aA<|aA<|sp h ⟨_,k,k,(bT (bJ k2) (bG k<|aS) k4)⟩
 ·rintro e t ⟨rfl,hent⟩;exact aN<|tn<|aL hent<|sR<|am k k<|aT k2<|aD<|sp h (bK k k k (fZ (dE cX k k)))
def xC (a0:(List Mt)) (x1:((List Int)×(List Mt)×Int)):Option (((List Int)×(List Mt)×Int) ⊕ (List Mt)):=
 bif decide (x1.2.2<(a0.length:Int)) then
 ((cJ a0 x1.2.2).bind λv2=>
 bif (decide (0≤0)&&(decide (0≤(v2.cells.length:Int))&&decide ((v2.cells.length:Int)≤(x1.1.length:Int)))) then
 ((mW ((x1.1.drop (0:Int).toNat).take ((v2.cells.length:Int).toNat - (0:Int).toNat))).bind λv4=>
 bif decide (x1.2.1.length+1≤4294967296) then
 (bif (decide (0≤(v2.cells.length:Int))&&(decide ((v2.cells.length:Int)≤(x1.1.length:Int))&&decide ((x1.1.length:Int)≤(x1.1.length:Int)))) then
 (some (.inl (((x1.1.drop (v2.cells.length:Int).toNat).take ((x1.1.length:Int).toNat - (v2.cells.length:Int).toNat)),(x1.2.1++[(⟨v2.rows,v2.cols,v4⟩:Mt)]),wr (x1.2.2+1))))
 else none)
 else none)
 else none)
 else
 (some (.inr x1.2.1))
def uE (a0:(List Mt)) (a1:(List Int)):Option (List Mt):=
 (Lp (xC a0) (a1,[],0)).bind λy7=>
 some (y7)
theorem aHi (a0:(List Mt)) (a1:(List Int)) (r:(List Mt)) (h:uE a0 a1=some r):HasC Tryz.prog 174 [.list 3 (a0.map eM),.list 1 (a1.map eI)] (.list 3 (r.map eM)):=by
 refine hM [.tmp 4] Tryz.func174 Tryz.ntmps174 k<|sR<|aT k2<|sR<|aT k2<|sQ<|sR<|am k k<|ln k4<|am k k<|an<|tn<|aC<|oB h λy7 hy7 h=>bX (body:=(xC a0)) hy7 (λ(x1:((List Int)×(List Mt)×Int))=>mN [(1,.list 1 (x1.1.map eI)),(5,.own 0 0 x1.2.1.length),(9,.list 3 (a0.map eM)),(10,.int (a0.length:Int)),(11,.int x1.2.2)] [(0,⟨3,x1.2.1.map (ow eM)⟩)] 1) (λr e t=>e= .exit 0∧Ent t (mN [(5,.own 0 0 r.length)] [(0,⟨3,r.map (ow eM)⟩)] 1)) (eJ (σ:=sg []) (iU 1 k2 (gK ⟨_,k,⟨k,k,k,k⟩⟩ (bJ k2))) (hX k k<|aS) k) ?_ ?_
 ·intro x1 o h;refine sR<|cm k4<|an<|tn<|sQ<|cV k h (λ_ h=>?_) λ_ h=>aW<|aA<|aA<|sp h ⟨_,k,k,(bT (bJ k2) (cE (bU.plainO _) k<|aS) k4)⟩;refine aG<|tn<|sQ<|aC<|sR<|oB h λv2 hv2 h=>ae (xl hv2 k) k<|lr k7<|ae (bP aJ k k) k<|ae (ws k) k<|an<|tn<|sR<|fp k8<|lp k8<|ln k4<|aT k2<|sQ<|aP eG<|am k k<|fp k8<|lp k8<|fp k8<|lp k8<|am k k<|am k k ?_;exact cG h λq3 h=>ae (aFM aJ (l0:=x1.1) (l:=0) (h:=(v2.cells.length:Int)) q3 k k k k k k k) k<|oB h λv4 hv4 h=>ae (cL cX (aDF ((x1.1.drop (0:Int).toNat).take ((v2.cells.length:Int).toNat - (0:Int).toNat)) v4 hv4) k3 (cC k aI)) k<|ae (hO aJ k k k k k k) k<|ae (wl k) k<|cG h λq5 h=>ae (iE aJ (l:=x1.2.1) (c:=[.int v2.rows,.int v2.cols,.own 2 0 v4.length]) q5 k k k k k k k k k k k k k k) k<|aa k k<|an<|lB (by kernel_rfl)<|tn<|aL (t:=mN [(1,.list 1 (x1.1.map eI)),(5,.own 4 0 ((x1.2.1++[(⟨v2.rows,v2.cols,v4⟩:Mt)]).length)),(8,.int (v2.cells.length:Int)),(9,.list 3 (a0.map eM)),(10,.int (a0.length:Int)),(11,.int x1.2.2)] [(4,⟨3,List.map (ow eM) (x1.2.1++[(⟨v2.rows,v2.cols,v4⟩:Mt)])⟩)] 5) (Ent.trans (fH (b:=4) (b':=2) (j:=2) (es':=v4.map eI) k k k k (aQ _ _) (cX.frzs _)) (bT (iU 1 k2 (gK ⟨_,k,⟨k,k,(by simp only [aQ,lA,lT,lR,lC,lN]),k⟩⟩ (bJ k2))) (hX ⟨_,k,k,.inl ⟨jH (⟨v2.rows,v2.cols,v4⟩:Mt) k,bU.plainO _⟩⟩ k<|aS) k4))<|rg<|am k k<|am k k<|cG h λq6 h=>ae (aFM aJ (l0:=x1.1) (l:=(v2.cells.length:Int)) (h:=(x1.1.length:Int)) q6 k k k k k k k) k<|aa k k<|an<|aU<|tn<|rg<|ae (bB k k) k<|am k k<|an<|tn<|sp h ⟨_,k,(kC [4] (bJ k2) (cE (bU.plainO _) k<|aS) k4)⟩
 ·rintro e t ⟨rfl,hent⟩;exact aN<|tn<|aL hent<|sR<|am k k<|aT k2<|aD<|sp h (bK k k k (fZ (dE bU k k)))
def aEJ (a0:Int) (a1:Mt) (a2:Int) (a3:Mt):Option Mt:=
 (mQ a1).bind λv1=>
 (eO a0 v1.cells 0 v1.cells.length a2 a3.cells).bind λv2=>
 bif decide (v2.length=v1.cells.length) then
 (some ((⟨v1.rows,v1.cols,v2⟩:Mt)))
 else none
theorem aRU (a0:Int) (a1:Mt) (a2:Int) (a3:Mt) (r:Mt) (h:aEJ a0 a1 a2 a3=some r):HasC Tryz.prog 242 [.int a0,.agg (eM a1),.int a2,.agg (eM a3)] (.agg (eM r)):=by
 refine hM [.cell 8 113] Tryz.func242 Tryz.ntmps242 k<|sR<|ae (wb k) k<|ae (wb k) k<|ae (bP aJ k k) k<|an<|tn<|sR<|lp k8<|oB h λv1 hv1 h=>ae (cM (aDB a1 v1 hv1) k3 (aH (dI k) aI)) k<|ae (bP aJ k k) k<|ae (ws k) k<|an<|tn<|sR<|am k k<|fp k8<|lp k8<|am k k<|fp k8<|lp k8<|oB h λv2 hv2 h=>ae (nR (σ:=sg [(0,3)]) (σ':=sg [(3,0)]) (touch:=[3]) (news:=[]) (nP:=[(3,⟨1,v2.map (ow eI)⟩)]) (n':=5) (r2:= .own 3 0 v1.cells.length) (sA a0 v1.cells 0 v1.cells.length a2 a3.cells v2 hv2) k k ⟨_,_,k,k,⟨_,_,k,⟨k,k,k,k⟩,⟨_,_,k,k,⟨_,_,k,⟨k,k⟩,k⟩⟩⟩⟩ ⟨⟨_,k,k,.inl ⟨k,cX.plainO _⟩⟩,k,aS⟩ k k k ⟨⟨_,k,k,.inl ⟨k,cX.plainO _⟩⟩,k,aS⟩ k ⟨k,k,(by simp only [aQ,lA,lT,lR,lC,lN]),k⟩ k ⟨k,cX.tame _ _,aS⟩ k k) k<|cG h λq3 h=>an<|tn<|sR<|lp k8 ?_;exact ae (ws k) k<|an<|tn<|aD<|sp h (bK k k k (lG (aY (k) (aY (k) (aY (dE cX k (by first|rfl|simp only [List.length_set,of_decide_eq_true q3])) fA)))))
def pS (a0:Rp) (a1:Rp) (a2:(List Mt)) (x1:((List Mt)×Int)):Option (((List Mt)×Int) ⊕ (List Mt)):=
 bif decide (x1.2<(a0.q.src.length:Int)) then
 ((cJ a0.q.src x1.2).bind λv2=>
 (cJ a1.maps x1.2).bind λv3=>
 (cJ a2 v2).bind λv4=>
 (sH a0.p v3 v4).bind λv5=>
 (cJ a0.q.tgt x1.2).bind λv6=>
 (cJ a2 v6).bind λv7=>
 (cJ a0.maps x1.2).bind λv8=>
 (sH a0.p v7 v8).bind λv9=>
 (aEJ a0.p v5 (wr (a0.p - 1)) v9).bind λv10=>
 bif decide (x1.1.length+1≤4294967296) then
 (some (.inl ((x1.1++[v10]),wr (x1.2+1))))
 else none)
 else
 (some (.inr x1.1))
def vA (a0:Rp) (a1:Rp) (a2:(List Mt)):Option (List Mt):=
 (Lp (pS a0 a1 a2) ([],0)).bind λy12=>
 some (y12)
theorem aJE (a0:Rp) (a1:Rp) (a2:(List Mt)) (r:(List Mt)) (h:vA a0 a1 a2=some r):HasC Tryz.prog 220 [.agg (eR a0),.agg (eR a1),.list 3 (a2.map eM)] (.list 3 (r.map eM)):=by
 refine hM [.tmp 6] Tryz.func220 Tryz.ntmps220 k<|sR<|ae (wb k) k<|ae (wb k) k<|aT k2<|sR<|aT k2<|sQ<|sR<|fp k8<|fp k8<|lp k8<|ln k4<|am k k<|an<|tn<|aC<|oB h λy12 hy12 h=>bX (body:=(pS a0 a1 a2)) hy12 (λ(x1:((List Mt)×Int))=>mN [(2,.list 3 (a2.map eM)),(3,.ptr 0 0 0),(4,.ptr 1 0 0),(7,.own 2 0 x1.1.length),(13,.list 1 (a0.q.src.map eI)),(14,.int (a0.q.src.length:Int)),(15,.int x1.2)] [(0,⟨6,[eR a0]⟩),(1,⟨6,[eR a1]⟩),(2,⟨3,x1.1.map (ow eM)⟩)] 3) (λr e t=>e= .exit 0∧Ent t (mN [(7,.own 0 0 r.length)] [(0,⟨3,r.map (ow eM)⟩)] 1)) (eJ (σ:=sg [(0,0),(1,1)]) (iU 3 k2 (gK ⟨_,k,⟨k,k,k,k⟩⟩ (bJ k2))) (bA k<|bA k<|hX k k<|aS) k) ?_ ?_
 ·intro x1 o h;refine sR<|cm k4<|an<|tn<|sQ<|cV k h (λ_ h=>?_) λ_ h=>aW<|aA<|aA<|sp h ⟨_,k,k,(kC [2] (bJ k2) (cE (bU.plainO _) k<|aS) k4)⟩;refine aG<|tn<|sQ<|aC<|sR<|am k k<|oB h λv2 hv2 h=>ae (xl hv2 k) k<|lr k7<|aa k k<|aT k2<|sQ<|aP eG<|fp k8<|lp k8<|fp k8<|lp k8<|am k k<|oB h λv3 hv3 h=>ae (xl hv3 k) k<|lr k7<|am k k<|am k k<|oB h λv4 hv4 h=>ae (xl hv4 k) k<|lr k7<|oB h λv5 hv5 h=>ae (cM (aDI a0.p v3 v4 v5 hv5) k3 (cC k (aH (dI k) (aH (dI k) aI)))) k<|ae (bP aJ k k) k<|ae (ws k) k ?_;refine an<|lB (by kernel_rfl)<|tn<|aP eG<|am k k<|fp k8<|lp k8<|lp k8<|fp k8<|lp k8<|ae (jL k k) k<|fp k8<|lp k8<|am k k<|fp k8<|fp k8<|lp k8<|am k k<|oB h λv6 hv6 h=>ae (xl hv6 k) k<|lr k7<|oB h λv7 hv7 h=>ae (xl hv7 k) k<|lr k7<|fp k8<|lp k8<|am k k<|oB h λv8 hv8 h=>ae (xl hv8 k) k<|lr k7<|oB h λv9 hv9 h=>ae (cM (aDI a0.p v7 v8 v9 hv9) k3 (cC k (aH (dI k) (aH (dI k) aI)))) k<|oB h λv10 hv10 h=>ae (cM (aRU a0.p v5 (wr (a0.p - 1)) v9 v10 hv10) k3 (cC k (aH (vaM k2) (cC k (aH (vaM k2) aI))))) k<|ae (wl k) k ?_;exact cG h λq11 h=>ae (iE aJ (l:=x1.1) (c:=[.int v10.rows,.int v10.cols,.own 6 0 v10.cells.length]) q11 k k k k k k k k k k k k k k) k<|aa k k<|an<|lB (by kernel_rfl)<|aU<|tn<|aL (t:=mN [(2,.list 3 (a2.map eM)),(3,.ptr 0 0 0),(4,.ptr 1 0 0),(7,.own 8 0 ((x1.1++[v10]).length)),(13,.list 1 (a0.q.src.map eI)),(14,.int (a0.q.src.length:Int)),(15,.int x1.2)] [(0,⟨6,[eR a0]⟩),(1,⟨6,[eR a1]⟩),(8,⟨3,List.map (ow eM) (x1.1++[v10])⟩)] 9) (Ent.trans (fH (b:=8) (b':=6) (j:=2) (es':=v10.cells.map eI) k k k k (aQ _ _) (cX.frzs _)) (bT (iU 3 k2 (gK ⟨_,k,⟨k,k,(by simp only [aQ,lA,lT,lR,lC,lN]),k⟩⟩ (bJ k2))) (bA k<|bA k<|hX ⟨_,k,k,.inl ⟨jH v10 k,bU.plainO _⟩⟩ k<|aS) k4))<|rg<|ae (bB k k) k<|am k k<|an<|tn<|sp h ⟨_,k,(kC [0,1,8] (bJ k2) (bA k<|bA k<|cE (bU.plainO _) k<|aS) k4)⟩
 ·rintro e t ⟨rfl,hent⟩;exact aN<|tn<|aL hent<|sR<|am k k<|aT k2<|aD<|sp h (bK k k k (fZ (dE bU k k)))
def mY (a0:Rp) (a1:Rp) (x1:((List Mt)×Int)):Option (((List Mt)×Int) ⊕ (List Mt)):=
 bif decide (x1.2<(a0.q.src.length:Int)) then
 ((cJ a0.q.src x1.2).bind λv2=>
 (cJ a0.q.tgt x1.2).bind λv3=>
 (cJ a1.dims v3).bind λv4=>
 (cJ a0.dims v2).bind λv5=>
 (iY v4 v5).bind λv6=>
 bif decide (x1.1.length+1≤4294967296) then
 (some (.inl ((x1.1++[v6]),wr (x1.2+1))))
 else none)
 else
 (some (.inr x1.1))
def qX (a0:Rp) (a1:Rp):Option (List Mt):=
 (Lp (mY a0 a1) ([],0)).bind λy8=>
 some (y8)
theorem aHQ (a0:Rp) (a1:Rp) (r:(List Mt)) (h:qX a0 a1=some r):HasC Tryz.prog 221 [.agg (eR a0),.agg (eR a1)] (.list 3 (r.map eM)):=by
 refine hM [.tmp 4] Tryz.func221 Tryz.ntmps221 k<|sR<|ae (wb k) k<|ae (wb k) k<|aT k2<|sR<|aT k2<|sQ<|sR<|fp k8<|fp k8<|lp k8<|ln k4<|am k k<|an<|tn<|aC<|oB h λy8 hy8 h=>bX (body:=(mY a0 a1)) hy8 (λ(x1:((List Mt)×Int))=>mN [(2,.ptr 0 0 0),(3,.ptr 1 0 0),(5,.own 2 0 x1.1.length),(10,.list 1 (a0.q.src.map eI)),(11,.int (a0.q.src.length:Int)),(12,.int x1.2)] [(0,⟨6,[eR a0]⟩),(1,⟨6,[eR a1]⟩),(2,⟨3,x1.1.map (ow eM)⟩)] 3) (λr e t=>e= .exit 0∧Ent t (mN [(5,.own 0 0 r.length)] [(0,⟨3,r.map (ow eM)⟩)] 1)) (eJ (σ:=sg [(0,0),(1,1)]) (iU 2 k2 (gK ⟨_,k,⟨k,k,k,k⟩⟩ (bJ k2))) (bA k<|bA k<|hX k k<|aS) k) ?_ ?_
 ·intro x1 o h;refine sR<|cm k4<|an<|tn<|sQ<|cV k h (λ_ h=>?_) λ_ h=>aW<|aA<|aA<|sp h ⟨_,k,k,(kC [2] (bJ k2) (cE (bU.plainO _) k<|aS) k4)⟩;refine aG<|tn<|sQ<|aC<|sR<|am k k<|oB h λv2 hv2 h=>ae (xl hv2 k) k<|lr k7<|aa k k<|aT k2<|aP eG<|am k k<|fp k8<|lp k8<|fp k8<|fp k8<|lp k8<|am k k<|oB h λv3 hv3 h=>ae (xl hv3 k) k<|lr k7<|oB h λv4 hv4 h=>ae (xl hv4 k) k<|lr k7<|fp k8<|lp k8<|am k k<|oB h λv5 hv5 h=>ae (xl hv5 k) k ?_;exact lr k7<|oB h λv6 hv6 h=>ae (cM (vX v4 v5 v6 hv6) k3 (cC k (cC k aI))) k<|ae (wl k) k<|cG h λq7 h=>ae (iE aJ (l:=x1.1) (c:=[.int v6.rows,.int v6.cols,.own 3 0 v6.cells.length]) q7 k k k k k k k k k k k k k k) k<|aa k k<|an<|lB (by kernel_rfl)<|aU<|tn<|aL (t:=mN [(2,.ptr 0 0 0),(3,.ptr 1 0 0),(5,.own 5 0 ((x1.1++[v6]).length)),(10,.list 1 (a0.q.src.map eI)),(11,.int (a0.q.src.length:Int)),(12,.int x1.2)] [(0,⟨6,[eR a0]⟩),(1,⟨6,[eR a1]⟩),(5,⟨3,List.map (ow eM) (x1.1++[v6])⟩)] 6) (Ent.trans (fH (b:=5) (b':=3) (j:=2) (es':=v6.cells.map eI) k k k k (aQ _ _) (cX.frzs _)) (bT (iU 2 k2 (gK ⟨_,k,⟨k,k,(by simp only [aQ,lA,lT,lR,lC,lN]),k⟩⟩ (bJ k2))) (bA k<|bA k<|hX ⟨_,k,k,.inl ⟨jH v6 k,bU.plainO _⟩⟩ k<|aS) k4))<|rg<|ae (bB k k) k<|am k k<|an<|tn<|sp h ⟨_,k,(kC [0,1,5] (bJ k2) (bA k<|bA k<|cE (bU.plainO _) k<|aS) k4)⟩
 ·rintro e t ⟨rfl,hent⟩;exact aN<|tn<|aL hent<|sR<|am k k<|aT k2<|aD<|sp h (bK k k k (fZ (dE bU k k)))
def kH (v1:Mt) (v3:(List Int)) (x1:((List Int)×Int)) (x2:((List Int)×Int)):Option (((List Int)×Int) ⊕ (List Int)):=
 bif decide (x2.2<(v3.length:Int)) then
 ((cJ v3 x2.2).bind λv5=>
 (cJ x2.1 (wr ((wr (x2.2*v1.cols))+x1.2))).bind λv6=>
 some (.inl ((x2.1.set ((wr ((wr (x2.2*v1.cols))+x1.2)).toNat) v5),wr (x2.2+1))))
 else
 (some (.inr x2.1))
def iM (a1:(List (List Int))) (v1:Mt) (x1:((List Int)×Int)):Option (((List Int)×Int) ⊕ (List Int)):=
 bif decide (x1.2<(a1.length:Int)) then
 ((cJ a1 x1.2).bind λv3=>
 (Lp (kH v1 v3 x1) (x1.1,0)).bind λy7=>
 some (.inl (y7,wr (x1.2+1))))
 else
 (some (.inr x1.1))
def dT (a0:Int) (a1:(List (List Int))):Option Mt:=
 (iY a0 (a1.length:Int)).bind λv1=>
 (Lp (iM a1 v1) (v1.cells,0)).bind λy8=>
 some ((⟨v1.rows,v1.cols,y8⟩:Mt))
theorem kO (a0:Int) (a1:(List (List Int))) (r:Mt) (h:dT a0 a1=some r):HasC Tryz.prog 155 [.int a0,.list 1 (a1.map (dL 1 eI))] (.agg (eM r)):=by
 refine hM [.cell 4 113] Tryz.func155 Tryz.ntmps155 k<|sR<|ae (bP aJ k k) k<|an<|tn<|sR<|am k k<|am k k<|ln k4<|oB h λv1 hv1 h=>ae (cM (vX a0 (a1.length:Int) v1 hv1) k3 (cC k (cC k aI))) k<|ae (bP aJ k k) k<|ae (ws k) k<|an<|tn<|sQ<|sR<|am k k<|ln k4<|am k k<|an<|tn<|aC<|oB h λy8 hy8 h=>bX (body:=(iM a1 v1)) hy8 (λ(x1:((List Int)×Int))=>mN [(4,.ptr 0 0 0),(5,.ptr 1 0 0),(14,.list 1 (a1.map (dL 1 eI))),(15,.int (a1.length:Int)),(16,.int x1.2)] [(0,⟨3,[fB]⟩),(1,⟨3,[[.int v1.rows,.int v1.cols,.own 2 0 x1.1.length]]⟩),(2,⟨1,x1.1.map (ow eI)⟩)] 3) (λr e t=>e= .exit 0∧Ent t (mN [(4,.ptr 0 0 0),(5,.ptr 1 0 0)] [(0,⟨3,[fB]⟩),(1,⟨3,[[.int v1.rows,.int v1.cols,.own 2 0 r.length]]⟩),(2,⟨1,r.map (ow eI)⟩)] 3)) (kC [0,2,1] (bJ k2) (bA k<|cP k<|bG k<|aS) k4) ?_ ?_
 ·intro x1 o h;refine sR<|cm k4<|an<|tn<|sQ<|cV k h (λ_ h=>?_) λ_ h=>aW<|aA<|aA<|sp h ⟨_,k,k,(bT (bJ k2) (bA k<|cP k<|bG k<|aS) k4)⟩;refine aG<|tn<|sQ<|aC<|sR<|am k k<|oB h λv3 hv3 h=>ae (xl hv3 k) k<|lr k7<|aa k k<|aT k2<|sR<|am k k<|ln k4<|am k k<|an<|tn<|aC<|oB h λy7 hy7 h=>bX (body:=(kH v1 v3 x1)) hy7 (λ(x2:((List Int)×Int))=>mN [(4,.ptr 0 0 0),(5,.ptr 1 0 0),(6,.int x1.2),(14,.list 1 (a1.map (dL 1 eI))),(15,.int (a1.length:Int)),(16,.int x1.2),(21,.list 1 (v3.map eI)),(22,.int (v3.length:Int)),(23,.int x2.2)] [(0,⟨3,[fB]⟩),(1,⟨3,[[.int v1.rows,.int v1.cols,.own 2 0 x2.1.length]]⟩),(2,⟨1,x2.1.map (ow eI)⟩)] 3) (λr e t=>e= .exit 2∧Ent t (mN [(4,.ptr 0 0 0),(5,.ptr 1 0 0),(14,.list 1 (a1.map (dL 1 eI))),(15,.int (a1.length:Int)),(16,.int x1.2)] [(0,⟨3,[fB]⟩),(1,⟨3,[[.int v1.rows,.int v1.cols,.own 2 0 r.length]]⟩),(2,⟨1,r.map (ow eI)⟩)] 3)) (bT (bJ k2) (bA k<|cP k<|bG k<|aS) k4) ?_ ?_
  ·intro x2 o h;refine sR<|cm k4<|an<|tn<|sQ<|cV k h (λ_ h=>?_) λ_ h=>aW<|aA<|aA<|sp h ⟨_,k,k,(bT (bJ k2) (bA k<|cP k<|bG k<|aS) k4)⟩;refine aG<|tn<|sQ<|aC<|sR<|am k k<|oB h λv5 hv5 h=>ae (xl hv5 k) k<|lr k7<|aa k k<|aT k2<|rg<|fp k8<|lp k8<|am k k<|fp k8<|lp k8<|ae (fC k k) k<|am k k<|ae (bB k k) k<|am k k<|oB h λv6 hv6 h=>ae (xo hv6 k) k<|ae (fG aJ jG (u:=v5) (dB hv6) k k k k k k) k<|an<|aU<|tn<|rg ?_;exact ae (bB k k) k<|am k k<|an<|tn<|sp h ⟨_,k,(bT (bJ k2) (bA k<|hX ⟨_,k,k,.inr ⟨_,_,k,⟨_,_,k,k,⟨_,_,k,k,⟨_,_,k,⟨k,k,(by simp only [aQ,lA,lT,lR,lC,lN]),k⟩,k⟩⟩⟩,k⟩⟩ k<|bG k<|aS) k4)⟩
  ·rintro e t ⟨rfl,hent⟩;exact aN<|aU<|tn<|aL hent<|rg<|ae (bB k k) k<|am k k<|an<|tn<|sp h ⟨_,k,(bT (bJ k2) (bA k<|cP k<|bG k<|aS) k4)⟩
 ·rintro e t ⟨rfl,hent⟩;exact aN<|tn<|aL hent<|sR<|lp k8<|ae (ws k) k<|an<|tn<|aD<|sp h (bK k k k (lG (aY (k) (aY (k) (aY (dE cX k k) fA)))))
def pT (a0:Rp) (a1:Rp) (v1:(List Mt)) (v2:(List Int)) (x1:((List (List Int))×Int)):Option (((List (List Int))×Int) ⊕ (List (List Int))):=
 bif decide (x1.2<((v2.length:Nat):Int)) then
 (bif (decide (0≤((v2.length:Nat):Int))&&decide (((v2.length:Nat):Int)≤1048576)) then
 ((cJ (List.replicate (((v2.length:Nat):Int).toNat) (0:Int)) x1.2).bind λv4=>
 (uE v1 ((List.replicate (((v2.length:Nat):Int).toNat) (0:Int)).set x1.2.toNat 1)).bind λv5=>
 (vA a0 a1 v5).bind λv6=>
 (pQ v6).bind λv7=>
 bif decide (x1.1.length+1≤4294967296) then
 (some (.inl ((x1.1++[v7]),wr (x1.2+1))))
 else none)
 else none)
 else
 (some (.inr x1.1))
def pU (a0:Rp) (a1:Rp):Option Mt:=
 (xB a0 a1).bind λv1=>
 (pQ v1).bind λv2=>
 (Lp (pT a0 a1 v1 v2) ([],0)).bind λy10=>
 (qX a0 a1).bind λv11=>
 (pQ v11).bind λv12=>
 (dT ((v12.length:Nat):Int) y10).bind λv13=>
 some (v13)
theorem aEK (a0:Rp) (a1:Rp) (r:Mt) (h:pU a0 a1=some r):HasC Tryz.prog 168 [.agg (eR a0),.agg (eR a1)] (.agg (eM r)):=by
 refine hM [.cell 4 113] Tryz.func168 Tryz.ntmps168 k<|sR<|ae (wb k) k<|ae (wb k) k<|ae (bP aJ k k) k<|an<|tn<|sR<|lp k8<|lp k8<|oB h λv1 hv1 h=>ae (cL bU (aFT a0 a1 v1 hv1) k3 (aH (dI k) (aH (dI k) aI))) k<|aT k2<|sR<|am k k<|oB h λv2 hv2 h=>ae (cL cX (aGR v1 v2 hv2) k3 (aH (aCi bU k k) aI)) k<|ae (cF aJ k k k k) k<|aT k2<|sR<|aT k2<|sQ ?_;refine sR<|am k k<|am k k<|an<|tn<|aC<|oB h λy10 hy10 h=>bX (body:=(pT a0 a1 v1 v2)) hy10 (λ(x1:((List (List Int))×Int))=>mN [(2,.ptr 0 0 0),(3,.ptr 1 0 0),(4,.ptr 2 0 0),(5,.own 3 0 v1.length),(6,.int ((v2.length:Nat):Int)),(7,.own 4 0 x1.1.length),(16,.int ((v2.length:Nat):Int)),(17,.int x1.2)] [(0,⟨6,[eR a0]⟩),(1,⟨6,[eR a1]⟩),(2,⟨3,[fB]⟩),(3,⟨3,v1.map (ow eM)⟩),(4,⟨1,x1.1.map (ow (dL 1 eI))⟩)] 5) (λr e t=>e= .exit 0∧Ent t (mN [(2,.ptr 0 0 0),(3,.ptr 1 0 0),(4,.ptr 2 0 0),(7,.own 3 0 r.length)] [(0,⟨6,[eR a0]⟩),(1,⟨6,[eR a1]⟩),(2,⟨3,[fB]⟩),(3,⟨1,r.map (ow (dL 1 eI))⟩)] 4)) (eJ (σ:=sg [(0,0),(1,1),(2,2),(3,3)]) (iU 5 k2 (gK ⟨_,k,⟨k,k,k,k⟩⟩ (bJ k2))) (bA k<|bA k<|bA k<|cE (bU.plainO _) k<|hX k k<|aS) k) ?_ ?_
 ·intro x1 o h;refine sR<|cm k4<|an<|tn<|sQ<|cV k h (λ_ h=>?_) λ_ h=>aW<|aA<|aA<|sp h ⟨_,k,k,(kC [0,1,2,4] (bJ k2) (bA k<|bA k<|bA k<|cE (bZ.plainO _) k<|aS) k4)⟩;refine aG<|tn<|sQ<|aC<|sR<|am k k<|aT k2<|sR<|am k k<|cG h λq9 h=>ae (aAL aJ q9 k k k k k k k k) k<|aT k2<|aL (t:=mN [(2,.ptr 0 0 0),(3,.ptr 1 0 0),(4,.ptr 2 0 0),(5,.own 3 0 v1.length),(6,.int ((v2.length:Nat):Int)),(7,.own 4 0 x1.1.length),(8,.int x1.2),(9,.own 5 0 ((List.replicate (((v2.length:Nat):Int).toNat) (0:Int)).length)),(16,.int ((v2.length:Nat):Int)),(17,.int x1.2)] [(0,⟨6,[eR a0]⟩),(1,⟨6,[eR a1]⟩),(2,⟨3,[fB]⟩),(3,⟨3,v1.map (ow eM)⟩),(4,⟨1,x1.1.map (ow (dL 1 eI))⟩),(5,⟨1,List.map (ow eI) (List.replicate (((v2.length:Nat):Int).toNat) (0:Int))⟩)] 6) (bT (iU 7 k2 (gK ⟨_,k,⟨k,k,(by simp only [aQ,lA,lT,lR,lC,lN]),k⟩⟩ (bJ k2))) (bA k<|bA k<|bA k<|cE (bU.plainO _) k<|cE (bZ.plainO _) k<|hX ⟨_,k,k,.inl ⟨aAr (e:=eI) (z:=0) _,cX.plainO _⟩⟩ k<|aS) k4)<|sR<|am k k<|am k k<|oB h λv4 hv4 h=>ae (xo hv4 k) k<|ae (fG aJ jG (u:=1) (dB hv4) k k k k k k) k<|an<|tn<|aP eG<|am k k<|lp k8 ?_;exact lp k8<|am k k<|am k k<|oB h λv5 hv5 h=>ae (cL bU (aHi v1 ((List.replicate (((v2.length:Nat):Int).toNat) (0:Int)).set x1.2.toNat 1) v5 hv5) k3 (aH (aCi bU k k) (aH (aCi cX k (by first|rfl|simp only [List.length_set])) aI))) k<|oB h λv6 hv6 h=>ae (cL bU (aJE a0 a1 v5 v6 hv6) k3 (aH (dI k) (aH (dI k) (aH (aCi bU k k) aI)))) k<|oB h λv7 hv7 h=>ae (cL cX (aGR v6 v7 hv7) k3 (aH (aCi bU k k) aI)) k<|ae (wl k) k<|cG h λq8 h=>ae (iE aJ (l:=x1.1) (c:=[.own 8 0 v7.length]) q8 k k k k k k k k k k k k k k) k<|aa k k<|an<|lB (by kernel_rfl)<|aU<|tn<|aL (t:=mN [(2,.ptr 0 0 0),(3,.ptr 1 0 0),(4,.ptr 2 0 0),(5,.own 3 0 v1.length),(6,.int ((v2.length:Nat):Int)),(7,.own 10 0 ((x1.1++[v7]).length)),(16,.int ((v2.length:Nat):Int)),(17,.int x1.2)] [(0,⟨6,[eR a0]⟩),(1,⟨6,[eR a1]⟩),(2,⟨3,[fB]⟩),(3,⟨3,v1.map (ow eM)⟩),(10,⟨1,List.map (ow (dL 1 eI)) (x1.1++[v7])⟩)] 11) (Ent.trans (fH (b:=10) (b':=8) (j:=0) (es':=v7.map eI) k k k k (aQ _ _) (cX.frzs _)) (bT (iU 5 k2 (gK ⟨_,k,⟨k,k,(by simp only [aQ,lA,lT,lR,lC,lN]),k⟩⟩ (bJ k2))) (bA k<|bA k<|bA k<|cE (bU.plainO _) k<|hX ⟨_,k,k,.inl ⟨jH v7 k,bZ.plainO _⟩⟩ k<|aS) k4))<|rg<|ae (bB k k) k<|am k k<|an<|tn<|sp h ⟨_,k,(kC [0,1,2,3,10] (bJ k2) (bA k<|bA k<|bA k<|cE (bU.plainO _) k<|cE (bZ.plainO _) k<|aS) k4)⟩
 ·rintro e t ⟨rfl,hent⟩;exact aN<|tn<|aL hent<|sR<|lp k8<|lp k8<|oB h λv11 hv11 h=>ae (cL bU (aHQ a0 a1 v11 hv11) k3 (aH (dI k) (aH (dI k) aI))) k<|oB h λv12 hv12 h=>ae (cL cX (aGR v11 v12 hv12) k3 (aH (aCi bU k k) aI)) k<|ae (cF aJ k k k k) k<|am k k<|oB h λv13 hv13 h=>ae (cM (kO ((v12.length:Nat):Int) y10 v13 hv13) k3 (cC k (aH (aCi bZ k k) aI))) k<|ae (ws k) k<|an<|tn<|aD<|sp h (bK k k k (lG (aY (k) (aY (k) (aY (dE cX k k) fA)))))
def qK (a0:Rp) (a1:Rp):Option Int:=
 (pU a0 a1).bind λv1=>
 (aCX a0.p v1).bind λv2=>
 some (wr (v1.cols - v2))
theorem aCK (a0:Rp) (a1:Rp) (r:Int) (h:qK a0 a1=some r):HasC Tryz.prog 119 [.agg (eR a0),.agg (eR a1)] (.int r):=by
 refine hM [.tmp 4] Tryz.func119 Tryz.ntmps119 k<|sR<|ae (wb k) k<|ae (wb k) k<|aT k2<|sR<|lp k8<|lp k8<|oB h λv1 hv1 h=>ae (cM (aEK a0 a1 v1 hv1) k3 (aH (dI k) (aH (dI k) aI))) k<|ae (bP aJ k k) k<|ae (ws k) k<|an<|tn<|sQ<|aP eG<|fp k8<|lp k8<|fp k8<|lp k8<|lp k8<|oB h λv2 hv2 h=>ae (aO (aKn a0.p v1 v2 hv2) k (cC k (aH (vaM k2) aI))) k<|ae (jL k k) k<|aa k k<|an<|lB (by kernel_rfl)<|tn ?_;exact aD<|qD h k2
def sI (a0:Int) (v1:(Mt×(List Int))) (x1:(Int×(List (List Int)))) (x2:((List Int)×Int)):Option (((List Int)×Int) ⊕ (List Int)):=
 bif decide (x2.2<((v1.2.length:Nat):Int)) then
 ((cJ v1.2 x2.2).bind λv7=>
 (cJ v1.1.cells (wr ((wr (x2.2*v1.1.cols))+x1.1))).bind λv8=>
 (iH a0 (wr (-v8))).bind λv9=>
 (cJ x2.1 v7).bind λv10=>
 some (.inl ((x2.1.set v7.toNat v9),wr (x2.2+1))))
 else
 (some (.inr x2.1))
def sJ (a0:Int) (v1:(Mt×(List Int))) (x1:(Int×(List (List Int)))):Option ((Int×(List (List Int))) ⊕ (List (List Int))):=
 bif decide (x1.1<v1.1.cols) then
 ((rY v1.2 x1.1).bind λv3=>
 bif v3 then
 (some (.inl (wr (x1.1+1),x1.2)))
 else
 (bif (decide (0≤v1.1.cols)&&decide (v1.1.cols≤1048576)) then
 ((cJ (List.replicate v1.1.cols.toNat (0:Int)) x1.1).bind λv5=>
 (Lp (sI a0 v1 x1) (((List.replicate v1.1.cols.toNat (0:Int)).set x1.1.toNat 1),0)).bind λy11=>
 bif decide (x1.2.length+1≤4294967296) then
 (some (.inl (wr (x1.1+1),(x1.2++[y11]))))
 else none)
 else none))
 else
 (some (.inr x1.2))
def zK (a0:Int) (a1:Mt):Option (List (List Int)):=
 (jZ a0 a1).bind λv1=>
 (Lp (sJ a0 v1) (0,([]:(List (List Int))))).bind λy14=>
 some (y14)
theorem aLO (a0:Int) (a1:Mt) (r:(List (List Int))) (h:zK a0 a1=some r):HasC Tryz.prog 212 [.int a0,.agg (eM a1)] (.list 1 (r.map (dL 1 eI))):=by
 refine hM [.tmp 4] Tryz.func212 Tryz.ntmps212 k<|sR<|ae (wb k) k<|aT k2<|sR<|am k k<|lp k8<|oB h λv1 hv1 h=>ae (AEff.conv (jK (x:= .tuple [.agg [.int v1.1.rows,.int v1.1.cols,.own 1 0 (v1.1.cells.map eI).length],.own 2 0 (v1.2.map eI).length]) (nb:=[(1,⟨1,cY (v1.1.cells.map eI)⟩),(2,⟨1,cY (v1.2.map eI)⟩)]) (aCk a0 a1 v1 hv1) k (by rfl) k k (dV (cB aS (cB aS (cB (cX.good _) qF))) (dV (cX.good _) uL)) (cC k (aH (dI k) aI))) (v':= .tuple [.agg [.int v1.1.rows,.int v1.1.cols,.own 1 0 v1.1.cells.length],.own 2 0 v1.2.length]) (ed':=[(1,some ⟨1,v1.1.cells.map (ow eI)⟩),(2,some ⟨1,v1.2.map (ow eI)⟩)]) (by simp only [aQ]) (uW (nb':=[(1,⟨1,v1.1.cells.map (ow eI)⟩),(2,⟨1,v1.2.map (ow eI)⟩)]) (by simp only [gU]))) k<|am k k<|ae (bW k k (by intro _ h;cases h)) k<|ae (bW k k (by intro _ h;cases h)) k<|ae (bP aJ k k) k<|ae (ws k) k<|aT k2<|sR<|ae (wl k) k<|aT k2<|aL (t:=mN [(0,.int a0),(5,.ptr 3 0 0),(6,.own 2 0 v1.2.length),(7,.own 4 0 (([]:(List (List Int))).length))] [(1,⟨1,v1.1.cells.map (ow eI)⟩),(2,⟨1,v1.2.map (ow eI)⟩),(3,⟨3,[oMt v1.1 1]⟩),(4,⟨1,List.map (ow (dL 1 eI)) ([]:(List (List Int)))⟩)] 5) (bT (iU 3 k2 (gK ⟨_,k,⟨k,k,(by simp only [aQ,lA,lT,lR,lC,lN]),k⟩⟩ aS)) (bG k<|bG k<|cP k<|cE (bZ.plainO _) k<|aS) k4)<|sQ<|sR ?_;refine aT k2<|aC<|oB h λy14 hy14 h=>bX (body:=(sJ a0 v1)) hy14 (λ(x1:(Int×(List (List Int))))=>mN [(0,.int a0),(5,.ptr 0 0 0),(6,.own 2 0 v1.2.length),(7,.own 3 0 x1.2.length),(8,.int x1.1)] [(0,⟨3,[oMt v1.1 1]⟩),(1,⟨1,v1.1.cells.map (ow eI)⟩),(2,⟨1,v1.2.map (ow eI)⟩),(3,⟨1,x1.2.map (ow (dL 1 eI))⟩)] 4) (λr e t=>e= .exit 0∧Ent t (mN [(7,.own 0 0 r.length)] [(0,⟨1,r.map (ow (dL 1 eI))⟩)] 1)) (kC [3,1,2,4] (bJ k2) (cP k<|bG k<|bG k<|cE (bZ.plainO _) k<|aS) k4) ?_ ?_
 ·intro x1 o h;refine sQ<|sR<|am k k<|fp k8<|lp k8<|cm k4<|an<|tn<|cV k h (λ_ h=>?_) λ_ h=>aW<|aA<|aA<|sp h ⟨_,k,k,(kC [3] (bJ k2) (cE (bZ.plainO _) k<|aS) k4)⟩;refine aG<|tn<|sQ<|aC<|sQ<|sR<|am k k<|am k k<|oB h λv3 hv3 h=>ae (aO (aIy v1.2 x1.1 v3 hv3) k (vcT k k (cC k aI))) k<|an<|tn<|cV k h (λ_ h=>aW<|aA<|aN<|tn<|rg<|am k k<|ae (bB k k) k<|aT k2<|sp h ⟨_,k,(bT (bJ k2) (cP k<|bG k<|bG k<|cE (bZ.plainO _) k<|aS) k4)⟩) λ_ h=>?_;refine aG<|tn<|sR<|fp k8<|lp k8<|cG h λq13 h=>ae (aAL aJ q13 k k k k k k k k) k<|aT k2<|aL (t:=mN [(0,.int a0),(5,.ptr 0 0 0),(6,.own 2 0 v1.2.length),(7,.own 3 0 x1.2.length),(8,.int x1.1),(9,.own 4 0 ((List.replicate v1.1.cols.toNat (0:Int)).length))] [(0,⟨3,[oMt v1.1 1]⟩),(1,⟨1,v1.1.cells.map (ow eI)⟩),(2,⟨1,v1.2.map (ow eI)⟩),(3,⟨1,x1.2.map (ow (dL 1 eI))⟩),(4,⟨1,List.map (ow eI) (List.replicate v1.1.cols.toNat (0:Int))⟩)] 5) (bT (iU 5 k2 (gK ⟨_,k,⟨k,k,(by simp only [aQ,lA,lT,lR,lC,lN]),k⟩⟩ aS)) (cP k<|bG k<|bG k<|cE (bZ.plainO _) k<|hX ⟨_,k,k,.inl ⟨aAr (e:=eI) (z:=0) _,cX.plainO _⟩⟩ k<|aS) k4)<|sR<|am k k<|am k k<|oB h λv5 hv5 h=>ae (xo hv5 k) k<|ae (fG aJ jG (u:=1) (dB hv5) k k k k k k) k<|an<|tn<|sQ<|sR<|aT k2<|aC<|oB h λy11 hy11 h=>bX (body:=(sI a0 v1 x1)) hy11 (λ(x2:((List Int)×Int))=>mN [(0,.int a0),(5,.ptr 0 0 0),(6,.own 2 0 v1.2.length),(7,.own 3 0 x1.2.length),(8,.int x1.1),(9,.own 4 0 x2.1.length),(10,.int x2.2)] [(0,⟨3,[oMt v1.1 1]⟩),(1,⟨1,v1.1.cells.map (ow eI)⟩),(2,⟨1,v1.2.map (ow eI)⟩),(3,⟨1,x1.2.map (ow (dL 1 eI))⟩),(4,⟨1,x2.1.map (ow eI)⟩)] 5) (λr e t=>e= .exit 2∧Ent t (mN [(0,.int a0),(5,.ptr 0 0 0),(6,.own 2 0 v1.2.length),(7,.own 3 0 x1.2.length),(8,.int x1.1),(9,.own 4 0 r.length)] [(0,⟨3,[oMt v1.1 1]⟩),(1,⟨1,v1.1.cells.map (ow eI)⟩),(2,⟨1,v1.2.map (ow eI)⟩),(3,⟨1,x1.2.map (ow (dL 1 eI))⟩),(4,⟨1,r.map (ow eI)⟩)] 5)) (bT (iU 5 k2 (gK ⟨_,k,⟨k,k,(by simp only [aQ,lA,lT,lR,lC,lN]),k⟩⟩ (bJ k2))) (cP k<|bG k<|bG k<|cE (bZ.plainO _) k<|bG k<|aS) k4) ?_ ?_
  ·intro x2 o h;refine sQ<|sR<|am k k<|am k k<|ae (cF aJ k k k k) k<|cm k4<|an<|tn<|cV k h (λ_ h=>?_) λ_ h=>aW<|aA<|aA<|sp h ⟨_,k,k,(bT (bJ k2) (cP k<|bG k<|bG k<|cE (bZ.plainO _) k<|bG k<|aS) k4)⟩;refine aG<|tn<|sQ<|aC<|aP eG<|am k k<|am k k<|am k k<|oB h λv7 hv7 h=>ae (xo hv7 k) k<|ae (wp hv7 k) k<|am k k<|fp k8<|lp k8<|am k k<|fp k8<|lp k8<|ae (fC k k) k<|am k k<|ae (bB k k) k<|oB h λv8 hv8 h=>ae (xo hv8 k) k<|ae (wp hv8 k) k<|ae (aYo k) k<|oB h λv9 hv9 h=>ae (aO (kW a0 (wr (-v8)) v9 hv9) k (cC k (cC k aI))) k<|oB h λv10 hv10 h=>ae (xo hv10 k) k<|ae (fG aJ jG (u:=v9) (dB hv10) k k k k k k) k<|an<|lB (by kernel_rfl)<|aU<|tn ?_;exact aL (t:=mN [(0,.int a0),(5,.ptr 0 0 0),(6,.own 2 0 v1.2.length),(7,.own 3 0 x1.2.length),(8,.int x1.1),(9,.own 4 0 ((x2.1.set v7.toNat v9).length)),(10,.int x2.2)] [(0,⟨3,[oMt v1.1 1]⟩),(1,⟨1,v1.1.cells.map (ow eI)⟩),(2,⟨1,v1.2.map (ow eI)⟩),(3,⟨1,x1.2.map (ow (dL 1 eI))⟩),(4,⟨1,List.map (ow eI) (x2.1.set v7.toNat v9)⟩)] 5) (bT (iU 5 k2 (gK ⟨_,k,⟨k,k,(by simp only [aQ,lA,lT,lR,lC,lN]),k⟩⟩ (bJ k2))) (cP k<|bG k<|bG k<|cE (bZ.plainO _) k<|bG k<|aS) k4)<|rg<|am k k<|ae (bB k k) k<|aT k2<|sp h ⟨_,k,(bT (bJ k2) (cP k<|bG k<|bG k<|cE (bZ.plainO _) k<|bG k<|aS) k4)⟩
  ·rintro e t ⟨rfl,hent⟩;exact aN<|tn<|aL hent<|rg<|am k k<|am k k<|ae (wl k) k<|cG h λq12 h=>ae (iE aJ (l:=x1.2) (c:=[.own 4 0 y11.length]) q12 k k k k k k k k k k k k k k) k<|aa k k<|an<|aU<|tn<|aL (t:=mN [(0,.int a0),(5,.ptr 0 0 0),(6,.own 2 0 v1.2.length),(7,.own 6 0 ((x1.2++[y11]).length)),(8,.int x1.1)] [(0,⟨3,[oMt v1.1 1]⟩),(1,⟨1,v1.1.cells.map (ow eI)⟩),(2,⟨1,v1.2.map (ow eI)⟩),(6,⟨1,List.map (ow (dL 1 eI)) (x1.2++[y11])⟩)] 7) (Ent.trans (fH (b:=6) (b':=4) (j:=0) (es':=y11.map eI) k k k k (aQ _ _) (cX.frzs _)) (bT (iU 3 k2 (gK ⟨_,k,⟨k,k,(by simp only [aQ,lA,lT,lR,lC,lN]),k⟩⟩ (bJ k2))) (cP k<|bG k<|bG k<|hX ⟨_,k,k,.inl ⟨jH y11 k,bZ.plainO _⟩⟩ k<|aS) k4))<|rg<|am k k<|ae (bB k k) k<|aT k2<|sp h ⟨_,k,(kC [0,1,2,6] (bJ k2) (cP k<|bG k<|bG k<|cE (bZ.plainO _) k<|aS) k4)⟩
 ·rintro e t ⟨rfl,hent⟩;exact aN<|tn<|aL hent<|sR<|am k k<|aT k2<|aD<|sp h (bK k k k (fZ (dE bZ k k)))
def zL (a0:Rp) (a1:Rp) (a2:Int) (x1:(Int×Int)):Option ((Int×Int) ⊕ Int):=
 bif decide (x1.2<a2) then
 ((cJ a0.dims x1.2).bind λv2=>
 (cJ a1.dims x1.2).bind λv3=>
 some (.inl (wr (x1.1+(wr (v2*v3))),wr (x1.2+1))))
 else
 (some (.inr x1.1))
def aBF (a0:Rp) (a1:Rp) (a2:Int):Option Int:=
 (Lp (zL a0 a1 a2) (0,0)).bind λy4=>
 some (y4)
theorem aJF (a0:Rp) (a1:Rp) (a2:Int) (r:Int) (h:aBF a0 a1 a2=some r):HasC Tryz.prog 239 [.agg (eR a0),.agg (eR a1),.int a2] (.int r):=by
 refine hM [.tmp 6] Tryz.func239 Tryz.ntmps239 k<|sR<|ae (wb k) k<|ae (wb k) k<|aT k2<|sR<|aT k2<|sQ<|sR<|aT k2<|aC<|oB h λy4 hy4 h=>bX (body:=(zL a0 a1 a2)) hy4 (λ(x1:(Int×Int))=>mN [(2,.int a2),(3,.ptr 0 0 0),(4,.ptr 1 0 0),(7,.int x1.1),(8,.int x1.2)] [(0,⟨6,[eR a0]⟩),(1,⟨6,[eR a1]⟩)] 2) (λr e t=>e= .exit 0∧Ent t (mN [(7,.int r)] [] 0)) (bT (bJ k2) (bA k<|bA k<|aS) k4) ?_ ?_
 ·intro x1 o h;exact sQ<|sR<|am k k<|am k k<|cm k4<|an<|tn<|cV k h (λ_ h=>aG<|tn<|sQ<|aC<|aP eG<|am k k<|fp k8<|lp k8<|am k k<|oB h λv2 hv2 h=>ae (xl hv2 k) k<|lr k7<|fp k8<|lp k8<|am k k<|oB h λv3 hv3 h=>ae (xl hv3 k) k<|lr k7<|ae (fC k k) k<|ae (bB k k) k<|aa k k<|an<|lB (by kernel_rfl)<|aU<|tn<|rg<|am k k<|ae (bB k k) k<|aT k2<|sp h ⟨_,k,(bT (bJ k2) (bA k<|bA k<|aS) k4)⟩) λ_ h=>aW<|aA<|aA<|sp h ⟨_,k,k,(bT (bJ k2) aS k4)⟩
 ·rintro e t ⟨rfl,hent⟩;exact aN<|tn<|aL hent<|sR<|am k k<|aT k2<|aD<|qD h k2
def vB (a0:Rp) (a1:Rp) (x1:(Int×Int)):Option ((Int×Int) ⊕ Int):=
 bif decide (x1.2<(a0.dims.length:Int)) then
 ((cJ a0.dims x1.2).bind λv2=>
 (cJ a1.dims x1.2).bind λv3=>
 some (.inl (wr (x1.1+(wr (v2*v3))),wr (x1.2+1))))
 else
 (some (.inr x1.1))
def vZ (a0:Rp) (a1:Rp):Option Int:=
 (Lp (vB a0 a1) (0,0)).bind λy4=>
 some (y4)
theorem aGS (a0:Rp) (a1:Rp) (r:Int) (h:vZ a0 a1=some r):HasC Tryz.prog 215 [.agg (eR a0),.agg (eR a1)] (.int r):=by
 refine hM [.tmp 4] Tryz.func215 Tryz.ntmps215 k<|sR<|ae (wb k) k<|ae (wb k) k<|aT k2<|sR<|aT k2<|sQ<|sR<|aT k2<|aC<|oB h λy4 hy4 h=>bX (body:=(vB a0 a1)) hy4 (λ(x1:(Int×Int))=>mN [(2,.ptr 0 0 0),(3,.ptr 1 0 0),(5,.int x1.1),(6,.int x1.2)] [(0,⟨6,[eR a0]⟩),(1,⟨6,[eR a1]⟩)] 2) (λr e t=>e= .exit 0∧Ent t (mN [(5,.int r)] [] 0)) (bT (bJ k2) (bA k<|bA k<|aS) k4) ?_ ?_
 ·intro x1 o h;exact sQ<|sR<|am k k<|fp k8<|lp k8<|ln k4<|cm k4<|an<|tn<|cV k h (λ_ h=>aG<|tn<|sQ<|aC<|aP eG<|am k k<|fp k8<|lp k8<|am k k<|oB h λv2 hv2 h=>ae (xl hv2 k) k<|lr k7<|fp k8<|lp k8<|am k k<|oB h λv3 hv3 h=>ae (xl hv3 k) k<|lr k7<|ae (fC k k) k<|ae (bB k k) k<|aa k k<|an<|lB (by kernel_rfl)<|aU<|tn<|rg<|am k k<|ae (bB k k) k<|aT k2<|sp h ⟨_,k,(bT (bJ k2) (bA k<|bA k<|aS) k4)⟩) λ_ h=>aW<|aA<|aA<|sp h ⟨_,k,k,(bT (bJ k2) aS k4)⟩
 ·rintro e t ⟨rfl,hent⟩;exact aN<|tn<|aL hent<|sR<|am k k<|aT k2<|aD<|qD h k2
def jP (a0:Rp) (a1:Rp) (v3:Int) (x1:(Int×(List Int)×Int)) (x2:(Int×(List Int)×Int)) (x3:(Int×(List Int)×Int)) (x4:((List Int)×Int)):Option (((List Int)×Int) ⊕ (List Int)):=
 (cJ a1.dims v3).bind λv9=>
 bif decide (x4.2<v9) then
 ((aBF a0 a1 v3).bind λv11=>
 (cJ a0.dims v3).bind λv12=>
 (cJ x4.1 (wr ((wr (v11+(wr (x4.2*v12))))+x3.2.2))).bind λv13=>
 (cJ a1.maps x1.2.2).bind λv14=>
 (cJ a1.dims v3).bind λv15=>
 (cJ v14.cells (wr ((wr (x2.2.2*v15))+x4.2))).bind λv16=>
 (iH a0.p (wr (v13+v16))).bind λv17=>
 (cJ x4.1 (wr ((wr (v11+(wr (x4.2*v12))))+x3.2.2))).bind λv18=>
 some (.inl ((x4.1.set ((wr ((wr (v11+(wr (x4.2*v12))))+x3.2.2)).toNat) v17),wr (x4.2+1))))
 else
 (some (.inr x4.1))
def jQ (a0:Rp) (a1:Rp) (v3:Int) (v4:Int) (x1:(Int×(List Int)×Int)) (x2:(Int×(List Int)×Int)) (x3:(Int×(List Int)×Int)) (x5:((List Int)×Int)):Option (((List Int)×Int) ⊕ (List Int)):=
 (cJ a0.dims v4).bind λv20=>
 bif decide (x5.2<v20) then
 ((aBF a0 a1 v4).bind λv22=>
 (cJ a0.dims v4).bind λv23=>
 (cJ x5.1 (wr ((wr (v22+(wr (x2.2.2*v23))))+x5.2))).bind λv24=>
 (cJ a0.maps x1.2.2).bind λv25=>
 (cJ a0.dims v3).bind λv26=>
 (cJ v25.cells (wr ((wr (x5.2*v26))+x3.2.2))).bind λv27=>
 (iH a0.p (wr (v24 - v27))).bind λv28=>
 (cJ x5.1 (wr ((wr (v22+(wr (x2.2.2*v23))))+x5.2))).bind λv29=>
 some (.inl ((x5.1.set ((wr ((wr (v22+(wr (x2.2.2*v23))))+x5.2)).toNat) v28),wr (x5.2+1))))
 else
 (some (.inr x5.1))
def mZ (a0:Rp) (a1:Rp) (v1:Int) (v3:Int) (v4:Int) (x1:(Int×(List Int)×Int)) (x2:(Int×(List Int)×Int)) (x3:(Int×(List Int)×Int)):Option ((Int×(List Int)×Int) ⊕ (Int×(List Int))):=
 (cJ a0.dims v3).bind λv7=>
 bif decide (x3.2.2<v7) then
 (bif (decide (0≤v1)&&decide (v1≤1048576)) then
 ((Lp (jP a0 a1 v3 x1 x2 x3) ((List.replicate v1.toNat (0:Int)),0)).bind λy19=>
 (Lp (jQ a0 a1 v3 v4 x1 x2 x3) (y19,0)).bind λy30=>
 bif decide (x3.2.1.length+y30.length≤4294967296) then
 (some (.inl (wr (x3.1+1),(x3.2.1++y30),wr (x3.2.2+1))))
 else none)
 else none)
 else
 (some (.inr (x3.1,x3.2.1)))
def nA (a0:Rp) (a1:Rp) (v1:Int) (v3:Int) (v4:Int) (x1:(Int×(List Int)×Int)) (x2:(Int×(List Int)×Int)):Option ((Int×(List Int)×Int) ⊕ (Int×(List Int))):=
 (cJ a1.dims v4).bind λv5=>
 bif decide (x2.2.2<v5) then
 ((Lp (mZ a0 a1 v1 v3 v4 x1 x2) (x2.1,x2.2.1,0)).bind λy33=>
 some (.inl (y33.1,y33.2,wr (x2.2.2+1))))
 else
 (some (.inr (x2.1,x2.2.1)))
def nB (a0:Rp) (a1:Rp) (v1:Int) (x1:(Int×(List Int)×Int)):Option ((Int×(List Int)×Int) ⊕ (Int×(List Int))):=
 bif decide (x1.2.2<(a0.maps.length:Int)) then
 ((cJ a0.q.src x1.2.2).bind λv3=>
 (cJ a0.q.tgt x1.2.2).bind λv4=>
 (Lp (nA a0 a1 v1 v3 v4 x1) (x1.1,x1.2.1,0)).bind λy34=>
 some (.inl (y34.1,y34.2,wr (x1.2.2+1))))
 else
 (some (.inr (x1.1,x1.2.1)))
def qY (a0:Rp) (a1:Rp):Option Mt:=
 (vZ a0 a1).bind λv1=>
 (Lp (nB a0 a1 v1) (0,([]:(List Int)),0)).bind λy35=>
 some ((⟨y35.1,v1,y35.2⟩:Mt))
theorem aHR (a0:Rp) (a1:Rp) (r:Mt) (h:qY a0 a1=some r):HasC Tryz.prog 213 [.agg (eR a0),.agg (eR a1)] (.agg (eM r)):=by
 refine hM [.cell 4 113] Tryz.func213 Tryz.ntmps213 k<|sR<|ae (wb k) k<|ae (wb k) k<|ae (bP aJ k k) k<|an<|tn<|sR<|lp k8<|lp k8<|oB h λv1 hv1 h=>ae (aO (aGS a0 a1 v1 hv1) k (aH (dI k) (aH (dI k) aI))) k<|aT k2<|sR<|am k k<|ae (wl k) k<|ae (hO aJ k k k k k k) k<|ae (bP aJ k k) k<|ae (ws k) k<|an<|tn<|aL (t:=mN [(2,.ptr 0 0 0),(3,.ptr 1 0 0),(4,.ptr 2 0 0),(5,.int v1),(6,.ptr 4 0 0)] [(0,⟨6,[eR a0]⟩),(1,⟨6,[eR a1]⟩),(2,⟨3,[fB]⟩),(3,⟨1,List.map (ow eI) ([]:(List Int))⟩),(4,⟨3,[[.int 0,.int v1,.own 3 0 (([]:(List Int)).length)]]⟩)] 5) (bT (bJ k2) (bA k<|bA k<|bA k<|bG k<|hX ⟨_,k,k,.inr ⟨_,_,k,⟨_,_,k,k,⟨_,_,k,k,⟨_,_,k,⟨k,k,(by simp only [aQ,lA,lT,lR,lC,lN]),k⟩,k⟩⟩⟩,k⟩⟩ k<|aS) k4)<|sQ<|sR<|aa k k ?_;refine an<|tn<|aC<|oB h λy35 hy35 h=>bX (body:=(nB a0 a1 v1)) hy35 (λ(x1:(Int×(List Int)×Int))=>mN [(2,.ptr 0 0 0),(3,.ptr 1 0 0),(4,.ptr 2 0 0),(5,.int v1),(6,.ptr 3 0 0),(7,.int x1.2.2)] [(0,⟨6,[eR a0]⟩),(1,⟨6,[eR a1]⟩),(2,⟨3,[fB]⟩),(3,⟨3,[[.int x1.1,.int v1,.own 4 0 x1.2.1.length]]⟩),(4,⟨1,x1.2.1.map (ow eI)⟩)] 5) (λr e t=>e= .exit 0∧Ent t (mN [(4,.ptr 0 0 0),(6,.ptr 1 0 0)] [(0,⟨3,[fB]⟩),(1,⟨3,[[.int r.1,.int v1,.own 2 0 r.2.length]]⟩),(2,⟨1,r.2.map (ow eI)⟩)] 3)) (kC [0,1,2,4,3] (bJ k2) (bA k<|bA k<|bA k<|cP k<|bG k<|aS) k4) ?_ ?_
 ·intro x1 o h;refine sQ<|sR<|am k k<|fp k8<|lp k8<|ln k4<|cm k4<|an<|tn<|cV k h (λ_ h=>?_) λ_ h=>aW<|aA<|aA<|sp h ⟨_,k,k,(kC [2,3,4] (bJ k2) (bA k<|cP k<|bG k<|aS) k4)⟩;refine aG<|tn<|sQ<|aC<|sR<|fp k8<|fp k8<|lp k8<|am k k<|oB h λv3 hv3 h=>ae (xl hv3 k) k<|lr k7<|aT k2<|sR<|fp k8<|fp k8<|lp k8<|am k k<|oB h λv4 hv4 h=>ae (xl hv4 k) k<|lr k7<|aT k2<|sR<|aa k k ?_;refine an<|tn<|aC<|oB h λy34 hy34 h=>bX (body:=(nA a0 a1 v1 v3 v4 x1)) hy34 (λ(x2:(Int×(List Int)×Int))=>mN [(2,.ptr 0 0 0),(3,.ptr 1 0 0),(4,.ptr 2 0 0),(5,.int v1),(6,.ptr 3 0 0),(7,.int x1.2.2),(8,.int v3),(9,.int v4),(10,.int x2.2.2)] [(0,⟨6,[eR a0]⟩),(1,⟨6,[eR a1]⟩),(2,⟨3,[fB]⟩),(3,⟨3,[[.int x2.1,.int v1,.own 4 0 x2.2.1.length]]⟩),(4,⟨1,x2.2.1.map (ow eI)⟩)] 5) (λr e t=>e= .exit 2∧Ent t (mN [(2,.ptr 0 0 0),(3,.ptr 1 0 0),(4,.ptr 2 0 0),(5,.int v1),(6,.ptr 3 0 0),(7,.int x1.2.2)] [(0,⟨6,[eR a0]⟩),(1,⟨6,[eR a1]⟩),(2,⟨3,[fB]⟩),(3,⟨3,[[.int r.1,.int v1,.own 4 0 r.2.length]]⟩),(4,⟨1,r.2.map (ow eI)⟩)] 5)) (bT (bJ k2) (bA k<|bA k<|bA k<|cP k<|bG k<|aS) k4) ?_ ?_
  ·intro x2 o h;refine sQ<|sR<|am k k<|fp k8<|lp k8<|am k k<|oB h λv5 hv5 h=>ae (xl hv5 k) k<|lr k7<|cm k4<|an<|tn<|cV k h (λ_ h=>?_) λ_ h=>aW<|aA<|aA<|sp h ⟨_,k,k,(bT (bJ k2) (bA k<|bA k<|bA k<|cP k<|bG k<|aS) k4)⟩;refine aG<|tn<|sQ<|aC<|sR<|aT k2<|aC<|oB h λy33 hy33 h=>bX (body:=(mZ a0 a1 v1 v3 v4 x1 x2)) hy33 (λ(x3:(Int×(List Int)×Int))=>mN [(2,.ptr 0 0 0),(3,.ptr 1 0 0),(4,.ptr 2 0 0),(5,.int v1),(6,.ptr 3 0 0),(7,.int x1.2.2),(8,.int v3),(9,.int v4),(10,.int x2.2.2),(11,.int x3.2.2)] [(0,⟨6,[eR a0]⟩),(1,⟨6,[eR a1]⟩),(2,⟨3,[fB]⟩),(3,⟨3,[[.int x3.1,.int v1,.own 4 0 x3.2.1.length]]⟩),(4,⟨1,x3.2.1.map (ow eI)⟩)] 5) (λr e t=>e= .exit 4∧Ent t (mN [(2,.ptr 0 0 0),(3,.ptr 1 0 0),(4,.ptr 2 0 0),(5,.int v1),(6,.ptr 3 0 0),(7,.int x1.2.2),(8,.int v3),(9,.int v4),(10,.int x2.2.2)] [(0,⟨6,[eR a0]⟩),(1,⟨6,[eR a1]⟩),(2,⟨3,[fB]⟩),(3,⟨3,[[.int r.1,.int v1,.own 4 0 r.2.length]]⟩),(4,⟨1,r.2.map (ow eI)⟩)] 5)) (bT (bJ k2) (bA k<|bA k<|bA k<|cP k<|bG k<|aS) k4) ?_ ?_
   ·intro x3 o h;refine sQ<|sR<|am k k<|fp k8<|lp k8<|am k k<|oB h λv7 hv7 h=>ae (xl hv7 k) k<|lr k7<|cm k4<|an<|tn<|cV k h (λ_ h=>?_) λ_ h=>aW<|aA<|aA<|sp h ⟨_,k,k,(bT (bJ k2) (bA k<|bA k<|bA k<|cP k<|bG k<|aS) k4)⟩;refine aG<|tn<|sQ<|aC<|sR<|am k k<|cG h λq32 h=>ae (aAL aJ q32 k k k k k k k k) k<|aT k2<|aL (t:=mN [(2,.ptr 0 0 0),(3,.ptr 1 0 0),(4,.ptr 2 0 0),(5,.int v1),(6,.ptr 3 0 0),(7,.int x1.2.2),(8,.int v3),(9,.int v4),(10,.int x2.2.2),(11,.int x3.2.2),(12,.own 5 0 ((List.replicate v1.toNat (0:Int)).length))] [(0,⟨6,[eR a0]⟩),(1,⟨6,[eR a1]⟩),(2,⟨3,[fB]⟩),(3,⟨3,[[.int x3.1,.int v1,.own 4 0 x3.2.1.length]]⟩),(4,⟨1,x3.2.1.map (ow eI)⟩),(5,⟨1,List.map (ow eI) (List.replicate v1.toNat (0:Int))⟩)] 6) (bT (iU 10 k2 (gK ⟨_,k,⟨k,k,(by simp only [aQ,lA,lT,lR,lC,lN]),k⟩⟩ aS)) (bA k<|bA k<|bA k<|cP k<|bG k<|hX ⟨_,k,k,.inl ⟨aAr (e:=eI) (z:=0) _,cX.plainO _⟩⟩ k<|aS) k4)<|sQ<|sR<|aT k2<|aC<|oB h λy19 hy19 h=>bX (body:=(jP a0 a1 v3 x1 x2 x3)) hy19 (λ(x4:((List Int)×Int))=>mN [(2,.ptr 0 0 0),(3,.ptr 1 0 0),(4,.ptr 2 0 0),(5,.int v1),(6,.ptr 3 0 0),(7,.int x1.2.2),(8,.int v3),(9,.int v4),(10,.int x2.2.2),(11,.int x3.2.2),(12,.own 5 0 x4.1.length),(13,.int x4.2)] [(0,⟨6,[eR a0]⟩),(1,⟨6,[eR a1]⟩),(2,⟨3,[fB]⟩),(3,⟨3,[[.int x3.1,.int v1,.own 4 0 x3.2.1.length]]⟩),(4,⟨1,x3.2.1.map (ow eI)⟩),(5,⟨1,x4.1.map (ow eI)⟩)] 6) (λr e t=>e= .exit 6∧Ent t (mN [(2,.ptr 0 0 0),(3,.ptr 1 0 0),(4,.ptr 2 0 0),(5,.int v1),(6,.ptr 3 0 0),(7,.int x1.2.2),(8,.int v3),(9,.int v4),(10,.int x2.2.2),(11,.int x3.2.2),(12,.own 5 0 r.length)] [(0,⟨6,[eR a0]⟩),(1,⟨6,[eR a1]⟩),(2,⟨3,[fB]⟩),(3,⟨3,[[.int x3.1,.int v1,.own 4 0 x3.2.1.length]]⟩),(4,⟨1,x3.2.1.map (ow eI)⟩),(5,⟨1,r.map (ow eI)⟩)] 6)) (bT (bJ k2) (bA k<|bA k<|bA k<|cP k<|bG k<|bG k<|aS) k4) ?_ ?_
    ·intro x4 o h;refine sQ<|sR<|am k k<|fp k8<|lp k8<|am k k<|oB h λv9 hv9 h=>ae (xl hv9 k) k<|lr k7<|cm k4<|an<|tn<|cV k h (λ_ h=>?_) λ_ h=>aW<|aA<|aA<|sp h ⟨_,k,k,(bT (bJ k2) (bA k<|bA k<|bA k<|cP k<|bG k<|bG k<|aS) k4)⟩;refine aG<|tn<|sQ<|aC<|sQ<|aP eG<|lp k8<|lp k8<|am k k<|oB h λv11 hv11 h=>ae (aO (aJF a0 a1 v3 v11 hv11) k (aH (dI k) (aH (dI k) (cC k aI)))) k<|am k k<|fp k8<|lp k8<|am k k<|oB h λv12 hv12 h=>ae (xl hv12 k) k<|lr k7<|ae (fC k k) k<|ae (bB k k) k<|am k k<|ae (bB k k) k<|aa k k<|an<|lB (by kernel_rfl)<|tn<|aP eG<|am k k<|am k k<|fp k8<|lp k8 ?_;refine am k k<|am k k<|oB h λv13 hv13 h=>ae (xo hv13 k) k<|ae (wp hv13 k) k<|fp k8<|lp k8<|am k k<|oB h λv14 hv14 h=>ae (xl hv14 k) k<|ae (pJ aJ k k k k k k) k<|lr k7<|am k k<|fp k8<|lp k8<|am k k<|oB h λv15 hv15 h=>ae (xl hv15 k) k<|lr k7<|ae (fC k k) k<|am k k<|ae (bB k k) k<|oB h λv16 hv16 h=>ae (xl hv16 k) k<|lr k7<|ae (bB k k) k<|oB h λv17 hv17 h=>ae (aO (kW a0.p (wr (v13+v16)) v17 hv17) k (cC k (cC k aI))) k<|oB h λv18 hv18 h=>ae (xo hv18 k) k<|ae (fG aJ jG (u:=v17) (dB hv18) k k k k k k) k<|an<|lB (by kernel_rfl)<|aU<|tn<|aL (t:=mN [(2,.ptr 0 0 0),(3,.ptr 1 0 0),(4,.ptr 2 0 0),(5,.int v1),(6,.ptr 3 0 0),(7,.int x1.2.2),(8,.int v3),(9,.int v4),(10,.int x2.2.2),(11,.int x3.2.2),(12,.own 5 0 ((x4.1.set ((wr ((wr (v11+(wr (x4.2*v12))))+x3.2.2)).toNat) v17).length)),(13,.int x4.2)] [(0,⟨6,[eR a0]⟩),(1,⟨6,[eR a1]⟩),(2,⟨3,[fB]⟩),(3,⟨3,[[.int x3.1,.int v1,.own 4 0 x3.2.1.length]]⟩),(4,⟨1,x3.2.1.map (ow eI)⟩),(5,⟨1,List.map (ow eI) (x4.1.set ((wr ((wr (v11+(wr (x4.2*v12))))+x3.2.2)).toNat) v17)⟩)] 6) (bT (iU 10 k2 (gK ⟨_,k,⟨k,k,(by simp only [aQ,lA,lT,lR,lC,lN]),k⟩⟩ (bJ k2))) (bA k<|bA k<|bA k<|cP k<|bG k<|bG k<|aS) k4) ?_;exact rg<|am k k<|ae (bB k k) k<|aT k2<|sp h ⟨_,k,(bT (bJ k2) (bA k<|bA k<|bA k<|cP k<|bG k<|bG k<|aS) k4)⟩
    ·rintro e t ⟨rfl,hent⟩;refine aN<|tn<|aL hent<|sQ<|sR<|aT k2<|aC<|oB h λy30 hy30 h=>bX (body:=(jQ a0 a1 v3 v4 x1 x2 x3)) hy30 (λ(x5:((List Int)×Int))=>mN [(2,.ptr 0 0 0),(3,.ptr 1 0 0),(4,.ptr 2 0 0),(5,.int v1),(6,.ptr 3 0 0),(7,.int x1.2.2),(8,.int v3),(9,.int v4),(10,.int x2.2.2),(11,.int x3.2.2),(12,.own 5 0 x5.1.length),(15,.int x5.2)] [(0,⟨6,[eR a0]⟩),(1,⟨6,[eR a1]⟩),(2,⟨3,[fB]⟩),(3,⟨3,[[.int x3.1,.int v1,.own 4 0 x3.2.1.length]]⟩),(4,⟨1,x3.2.1.map (ow eI)⟩),(5,⟨1,x5.1.map (ow eI)⟩)] 6) (λr e t=>e= .exit 8∧Ent t (mN [(2,.ptr 0 0 0),(3,.ptr 1 0 0),(4,.ptr 2 0 0),(5,.int v1),(6,.ptr 3 0 0),(7,.int x1.2.2),(8,.int v3),(9,.int v4),(10,.int x2.2.2),(11,.int x3.2.2),(12,.own 5 0 r.length)] [(0,⟨6,[eR a0]⟩),(1,⟨6,[eR a1]⟩),(2,⟨3,[fB]⟩),(3,⟨3,[[.int x3.1,.int v1,.own 4 0 x3.2.1.length]]⟩),(4,⟨1,x3.2.1.map (ow eI)⟩),(5,⟨1,r.map (ow eI)⟩)] 6)) (bT (bJ k2) (bA k<|bA k<|bA k<|cP k<|bG k<|bG k<|aS) k4) ?_ ?_
     ·intro x5 o h;refine sQ<|sR<|am k k<|fp k8<|lp k8<|am k k<|oB h λv20 hv20 h=>ae (xl hv20 k) k<|lr k7<|cm k4<|an<|tn<|cV k h (λ_ h=>?_) λ_ h=>aW<|aA<|aA<|sp h ⟨_,k,k,(bT (bJ k2) (bA k<|bA k<|bA k<|cP k<|bG k<|bG k<|aS) k4)⟩;refine aG<|tn<|sQ<|aC<|sQ<|aP eG<|lp k8<|lp k8<|am k k<|oB h λv22 hv22 h=>ae (aO (aJF a0 a1 v4 v22 hv22) k (aH (dI k) (aH (dI k) (cC k aI)))) k<|am k k<|fp k8<|lp k8<|am k k<|oB h λv23 hv23 h=>ae (xl hv23 k) k<|lr k7<|ae (fC k k) k<|ae (bB k k) k<|am k k<|ae (bB k k) k<|aa k k<|an<|lB (by kernel_rfl)<|tn<|aP eG<|am k k<|am k k<|fp k8<|lp k8 ?_;refine am k k<|am k k<|oB h λv24 hv24 h=>ae (xo hv24 k) k<|ae (wp hv24 k) k<|fp k8<|lp k8<|am k k<|oB h λv25 hv25 h=>ae (xl hv25 k) k<|ae (pJ aJ k k k k k k) k<|lr k7<|am k k<|fp k8<|lp k8<|am k k<|oB h λv26 hv26 h=>ae (xl hv26 k) k<|lr k7<|ae (fC k k) k<|am k k<|ae (bB k k) k<|oB h λv27 hv27 h=>ae (xl hv27 k) k<|lr k7<|ae (jL k k) k<|oB h λv28 hv28 h=>ae (aO (kW a0.p (wr (v24 - v27)) v28 hv28) k (cC k (cC k aI))) k<|oB h λv29 hv29 h=>ae (xo hv29 k) k<|ae (fG aJ jG (u:=v28) (dB hv29) k k k k k k) k<|an<|lB (by kernel_rfl)<|aU<|tn<|aL (t:=mN [(2,.ptr 0 0 0),(3,.ptr 1 0 0),(4,.ptr 2 0 0),(5,.int v1),(6,.ptr 3 0 0),(7,.int x1.2.2),(8,.int v3),(9,.int v4),(10,.int x2.2.2),(11,.int x3.2.2),(12,.own 5 0 ((x5.1.set ((wr ((wr (v22+(wr (x2.2.2*v23))))+x5.2)).toNat) v28).length)),(15,.int x5.2)] [(0,⟨6,[eR a0]⟩),(1,⟨6,[eR a1]⟩),(2,⟨3,[fB]⟩),(3,⟨3,[[.int x3.1,.int v1,.own 4 0 x3.2.1.length]]⟩),(4,⟨1,x3.2.1.map (ow eI)⟩),(5,⟨1,List.map (ow eI) (x5.1.set ((wr ((wr (v22+(wr (x2.2.2*v23))))+x5.2)).toNat) v28)⟩)] 6) (bT (iU 10 k2 (gK ⟨_,k,⟨k,k,(by simp only [aQ,lA,lT,lR,lC,lN]),k⟩⟩ (bJ k2))) (bA k<|bA k<|bA k<|cP k<|bG k<|bG k<|aS) k4) ?_;exact rg<|am k k<|ae (bB k k) k<|aT k2<|sp h ⟨_,k,(bT (bJ k2) (bA k<|bA k<|bA k<|cP k<|bG k<|bG k<|aS) k4)⟩
     ·rintro e t ⟨rfl,hent⟩;exact aN<|tn<|aL hent<|sR<|fp k8<|lp k8<|ae (bB k k) k<|fp k8<|ae (ws k) k<|an<|tn<|rg<|fp k8<|lp k8<|am k k<|cG h λq31 h=>ae (mP aJ (l:=x3.2.1) (m:=y30) jG q31 k k k k k (aZv cX k k) k k k k k k) k<|fp k8<|ae (ws k) k<|an<|aU<|tn<|rg<|am k k<|ae (bB k k) k<|aT k2<|sp h ⟨_,k,(kC [0,1,2,3,6] (bJ k2) (bA k<|bA k<|bA k<|cP k<|bG k<|aS) k4)⟩
   ·rintro e t ⟨rfl,hent⟩;exact aN<|aU<|tn<|aL hent<|rg<|am k k<|ae (bB k k) k<|aT k2<|sp h ⟨_,k,(bT (bJ k2) (bA k<|bA k<|bA k<|cP k<|bG k<|aS) k4)⟩
  ·rintro e t ⟨rfl,hent⟩;exact aN<|aU<|tn<|aL hent<|rg<|am k k<|ae (bB k k) k<|aT k2<|sp h ⟨_,k,(bT (bJ k2) (bA k<|bA k<|bA k<|cP k<|bG k<|aS) k4)⟩
 ·rintro e t ⟨rfl,hent⟩;exact aN<|tn<|aL hent<|sR<|lp k8<|ae (ws k) k<|an<|tn<|aD<|sp h (bK k k k (lG (aY (k) (aY (k) (aY (dE cX k k) fA)))))
def kP (a0:Rp) (a1:Rp) (a2:(List Int)) (x1:((List Mt)×Int×Int)):Option (((List Mt)×Int×Int) ⊕ (List Mt)):=
 bif decide (x1.2.2<(a0.dims.length:Int)) then
 ((cJ a0.dims x1.2.2).bind λv2=>
 (cJ a1.dims x1.2.2).bind λv3=>
 (cJ a1.dims x1.2.2).bind λv4=>
 (cJ a0.dims x1.2.2).bind λv5=>
 bif (decide (0≤x1.2.1)&&(decide (x1.2.1≤wr (x1.2.1+(wr (v2*v3))))&&decide (wr (x1.2.1+(wr (v2*v3)))≤(a2.length:Int)))) then
 (bif decide (([]:(List Int)).length +((a2.drop x1.2.1.toNat).take ((wr (x1.2.1+(wr (v2*v3)))).toNat - x1.2.1.toNat)).length ≤4294967296) then
 (bif decide (x1.1.length+1≤4294967296) then
 (some (.inl ((x1.1++[(⟨v4,v5,(([]:(List Int))++((a2.drop x1.2.1.toNat).take ((wr (x1.2.1+(wr (v2*v3)))).toNat - x1.2.1.toNat)))⟩:Mt)]),wr (x1.2.1+(wr (v2*v3))),wr (x1.2.2+1))))
 else none)
 else none)
 else none)
 else
 (some (.inr x1.1))
def mI (a0:Rp) (a1:Rp) (a2:(List Int)):Option (List Mt):=
 (Lp (kP a0 a1 a2) (([]:(List Mt)),0,0)).bind λy9=>
 some (y9)
theorem aFn (a0:Rp) (a1:Rp) (a2:(List Int)) (r:(List Mt)) (h:mI a0 a1 a2=some r):HasC Tryz.prog 214 [.agg (eR a0),.agg (eR a1),.list 1 (a2.map eI)] (.list 3 (r.map eM)):=by
 refine hM [.tmp 6] Tryz.func214 Tryz.ntmps214 k<|sR<|ae (wb k) k<|ae (wb k) k<|aT k2<|sR<|ae (wl k) k<|aT k2<|aL (t:=mN [(2,.list 1 (a2.map eI)),(3,.ptr 0 0 0),(4,.ptr 1 0 0),(7,.own 2 0 (([]:(List Mt)).length))] [(0,⟨6,[eR a0]⟩),(1,⟨6,[eR a1]⟩),(2,⟨3,List.map (ow eM) ([]:(List Mt))⟩)] 3) (bT (iU 3 k2 (gK ⟨_,k,⟨k,k,(by simp only [aQ,lA,lT,lR,lC,lN]),k⟩⟩ aS)) (bA k<|bA k<|cE (bU.plainO _) k<|aS) k4)<|sR<|aT k2<|sQ<|sR<|aT k2<|aC<|oB h λy9 hy9 h=>bX (body:=(kP a0 a1 a2)) hy9 (λ(x1:((List Mt)×Int×Int))=>mN [(2,.list 1 (a2.map eI)),(3,.ptr 0 0 0),(4,.ptr 1 0 0),(7,.own 2 0 x1.1.length),(8,.int x1.2.1),(9,.int x1.2.2)] [(0,⟨6,[eR a0]⟩),(1,⟨6,[eR a1]⟩),(2,⟨3,x1.1.map (ow eM)⟩)] 3) (λr e t=>e= .exit 0∧Ent t (mN [(7,.own 0 0 r.length)] [(0,⟨3,r.map (ow eM)⟩)] 1)) (bT (bJ k2) (bA k<|bA k<|cE (bU.plainO _) k<|aS) k4) ?_ ?_
 ·intro x1 o h;refine sQ<|sR<|am k k<|fp k8<|lp k8<|ln k4<|cm k4<|an<|tn<|cV k h (λ_ h=>?_) λ_ h=>aW<|aA<|aA<|sp h ⟨_,k,k,(kC [2] (bJ k2) (cE (bU.plainO _) k<|aS) k4)⟩;refine aG<|tn<|sQ<|aC<|sQ<|aP eG<|fp k8<|lp k8<|am k k<|oB h λv2 hv2 h=>ae (xl hv2 k) k<|lr k7<|fp k8<|lp k8<|am k k<|oB h λv3 hv3 h=>ae (xl hv3 k) k<|lr k7<|ae (fC k k) k<|aa k k<|an<|lB (by kernel_rfl)<|tn<|sQ<|aP eG<|am k k<|fp k8<|lp k8<|am k k<|oB h λv4 hv4 h=>ae (xl hv4 k) k<|lr k7 ?_;refine fp k8<|lp k8<|am k k<|oB h λv5 hv5 h=>ae (xl hv5 k) k<|lr k7<|ae (wl k) k<|am k k<|am k k<|am k k<|am k k<|ae (bB k k) k<|cG h λq6 h=>ae (aFM aJ (l0:=a2) (l:=x1.2.1) (h:=wr (x1.2.1+(wr (v2*v3)))) q6 k k k k k k k) k<|cG h λq7 h=>ae (mP aJ (l:=([]:(List Int))) (m:=((a2.drop x1.2.1.toNat).take ((wr (x1.2.1+(wr (v2*v3)))).toNat - x1.2.1.toNat))) jG q7 k k k k k k k k k k k k) k<|ae (hO aJ k k k k k k) k<|ae (wl k) k<|cG h λq8 h=>ae (iE aJ (l:=x1.1) (c:=[.int v4,.int v5,.own 4 0 ((([]:(List Int))++((a2.drop x1.2.1.toNat).take ((wr (x1.2.1+(wr (v2*v3)))).toNat - x1.2.1.toNat))).length)]) q8 k k k k k k k k k k k k k k) k<|aa k k<|an<|lB (by kernel_rfl)<|tn<|aL (t:=mN [(2,.list 1 (a2.map eI)),(3,.ptr 0 0 0),(4,.ptr 1 0 0),(7,.own 6 0 ((x1.1++[(⟨v4,v5,(([]:(List Int))++((a2.drop x1.2.1.toNat).take ((wr (x1.2.1+(wr (v2*v3)))).toNat - x1.2.1.toNat)))⟩:Mt)]).length)),(8,.int x1.2.1),(9,.int x1.2.2),(10,.int (wr (v2*v3)))] [(0,⟨6,[eR a0]⟩),(1,⟨6,[eR a1]⟩),(6,⟨3,List.map (ow eM) (x1.1++[(⟨v4,v5,(([]:(List Int))++((a2.drop x1.2.1.toNat).take ((wr (x1.2.1+(wr (v2*v3)))).toNat - x1.2.1.toNat)))⟩:Mt)])⟩)] 7) (Ent.trans (fH (b:=6) (b':=4) (j:=2) (es':=List.map eI (([]:(List Int))++((a2.drop x1.2.1.toNat).take ((wr (x1.2.1+(wr (v2*v3)))).toNat - x1.2.1.toNat)))) k k k k (aQ _ _) (cX.frzs _)) (bT (iU 3 k2 (gK ⟨_,k,⟨k,k,(by simp only [aQ,lA,lT,lR,lC,lN]),k⟩⟩ (bJ k2))) (bA k<|bA k<|hX ⟨_,k,k,.inl ⟨jH (⟨v4,v5,(([]:(List Int))++((a2.drop x1.2.1.toNat).take ((wr (x1.2.1+(wr (v2*v3)))).toNat - x1.2.1.toNat)))⟩:Mt) k,bU.plainO _⟩⟩ k<|aS) k4))<|rg<|am k k<|am k k<|ae (bB k k) k<|aa k k<|an<|aU<|tn<|rg ?_;exact am k k<|ae (bB k k) k<|aT k2<|sp h ⟨_,k,(kC [0,1,6] (bJ k2) (bA k<|bA k<|cE (bU.plainO _) k<|aS) k4)⟩
 ·rintro e t ⟨rfl,hent⟩;exact aN<|tn<|aL hent<|sR<|am k k<|aT k2<|aD<|sp h (bK k k k (fZ (dE bU k k)))
def iV (a0:Rp) (a1:Rp) (v4:(List (List Int))) (x1:((List (List Mt))×Int)):Option (((List (List Mt))×Int) ⊕ (List (List Mt))):=
 bif decide (x1.2<((v4.length:Nat):Int)) then
 ((cJ v4 x1.2).bind λv6=>
 (mI a0 a1 v6).bind λv7=>
 bif decide (x1.1.length+1≤4294967296) then
 (some (.inl ((x1.1++[v7]),wr (x1.2+1))))
 else none)
 else
 (some (.inr x1.1))
def mJ (a0:Rp) (a1:Rp):Option ((List (List Mt))×Bool):=
 (kX a0 a1).bind λv1=>
 bif !v1 then
 (some ((([]:(List (List Mt))),false)))
 else
 ((qY a0 a1).bind λv3=>
 (zK a0.p v3).bind λv4=>
 (Lp (iV a0 a1 v4) (([]:(List (List Mt))),0)).bind λy9=>
 some ((y9,true)))
theorem aFo (a0:Rp) (a1:Rp) (r:((List (List Mt))×Bool)) (h:mJ a0 a1=some r):HasC Tryz.prog 164 [.agg (eR a0),.agg (eR a1)] (.tuple [.list 1 (r.1.map (dL 3 eM)),.bl r.2]):=by
 refine hM [.tmp 4,.tmp 5] Tryz.func164 Tryz.ntmps164 k<|sR<|ae (wb k) k<|ae (wb k) k<|aa k k<|aT k2<|sR<|ae (wl k) k<|aT k2<|aL (t:=mN [(2,.ptr 0 0 0),(3,.ptr 1 0 0),(6,.own 2 0 (([]:(List (List Mt))).length))] [(0,⟨6,[eR a0]⟩),(1,⟨6,[eR a1]⟩),(2,⟨1,List.map (ow (dL 3 eM)) ([]:(List (List Mt)))⟩)] 3) (bT (iU 2 k2 (gK ⟨_,k,⟨k,k,(by simp only [aQ,lA,lT,lR,lC,lN]),k⟩⟩ aS)) (bA k<|bA k<|cE (bZ.plainO _) k<|aS) k4)<|sQ<|sR<|lp k8<|lp k8<|oB h λv1 hv1 h=>ae (aO (aAz a0 a1 v1 hv1) k (aH (dI k) (aH (dI k) aI))) k<|ae (dD k) k<|an<|tn<|cV k h (λ_ h=>sR<|am k k<|aa k k<|aT k2<|aD<|aE<|sp h (bK k k k (dG k (bY (jM (dE bZ k k)) (bY (k) gN))))) λ_ h=>?_;refine aG<|tn<|sQ<|aP eG<|fp k8<|lp k8<|lp k8<|lp k8<|oB h λv3 hv3 h=>ae (cM (aHR a0 a1 v3 hv3) k3 (aH (dI k) (aH (dI k) aI))) k<|oB h λv4 hv4 h=>ae (cL bZ (aLO a0.p v3 v4 hv4) k3 (cC k (aH (vaM k2) aI))) k<|aa k k<|an<|lB (by kernel_rfl)<|tn<|sQ<|sR<|aT k2<|aC<|oB h λy9 hy9 h=>bX (body:=(iV a0 a1 v4)) hy9 (λ(x1:((List (List Mt))×Int))=>mN [(2,.ptr 0 0 0),(3,.ptr 1 0 0),(6,.own 2 0 x1.1.length),(7,.own 3 0 v4.length),(8,.int x1.2)] [(0,⟨6,[eR a0]⟩),(1,⟨6,[eR a1]⟩),(2,⟨1,x1.1.map (ow (dL 3 eM))⟩),(3,⟨1,v4.map (ow (dL 1 eI))⟩)] 4) (λr e t=>e= .exit 0∧Ent t (mN [(6,.own 0 0 r.length)] [(0,⟨1,r.map (ow (dL 3 eM))⟩)] 1)) (kC [0,1,2,4] (bJ k2) (bA k<|bA k<|cE (bZ.plainO _) k<|cE (bZ.plainO _) k<|aS) k4) ?_ ?_
 ·intro x1 o h;exact sQ<|sR<|am k k<|am k k<|ae (cF aJ k k k k) k<|cm k4<|an<|tn<|cV k h (λ_ h=>aG<|tn<|sQ<|aC<|aP eG<|am k k<|lp k8<|lp k8<|am k k<|am k k<|oB h λv6 hv6 h=>ae (xo hv6 k) k<|ae (wp hv6 k) k<|oB h λv7 hv7 h=>ae (cL bU (aFn a0 a1 v6 v7 hv7) k3 (aH (dI k) (aH (dI k) (cC k aI)))) k<|ae (wl k) k<|cG h λq8 h=>ae (iE aJ (l:=x1.1) (c:=[.own 4 0 v7.length]) q8 k k k k k k k k k k k k k k) k<|aa k k<|an<|lB (by kernel_rfl)<|aU<|tn<|aL (t:=mN [(2,.ptr 0 0 0),(3,.ptr 1 0 0),(6,.own 6 0 ((x1.1++[v7]).length)),(7,.own 3 0 v4.length),(8,.int x1.2)] [(0,⟨6,[eR a0]⟩),(1,⟨6,[eR a1]⟩),(3,⟨1,v4.map (ow (dL 1 eI))⟩),(6,⟨1,List.map (ow (dL 3 eM)) (x1.1++[v7])⟩)] 7) (Ent.trans (fH (b:=6) (b':=4) (j:=0) (es':=v7.map eM) k k k k (aQ _ _) (bU.frzs _)) (bT (iU 2 k2 (gK ⟨_,k,⟨k,k,(by simp only [aQ,lA,lT,lR,lC,lN]),k⟩⟩ (bJ k2))) (bA k<|bA k<|cE (bZ.plainO _) k<|hX ⟨_,k,k,.inl ⟨jH v7 k,bZ.plainO _⟩⟩ k<|aS) k4))<|rg<|am k k<|ae (bB k k) k<|aT k2<|sp h ⟨_,k,(kC [0,1,6,3] (bJ k2) (bA k<|bA k<|cE (bZ.plainO _) k<|cE (bZ.plainO _) k<|aS) k4)⟩) λ_ h=>aW<|aA<|aA<|sp h ⟨_,k,k,(kC [2] (bJ k2) (cE (bZ.plainO _) k<|aS) k4)⟩
 ·rintro e t ⟨rfl,hent⟩;exact aN<|tn<|aL hent<|sR<|am k k<|aa k k<|aT k2<|aD<|sp h (bK k k k (dG k (bY (jM (dE bZ k k)) (bY (k) gN))))
def nI (a0:Rp) (a1:Rp):Option Int:=
 (mJ a0 a1).bind λv1=>
 bif !v1.2 then
 (some ((-1)))
 else
 (some (((v1.1.length:Nat):Int)))
theorem yI (a0:Rp) (a1:Rp) (r:Int) (h:nI a0 a1=some r):HasC Tryz.prog 112 [.agg (eR a0),.agg (eR a1)] (.int r):=by
 exact hM [.tmp 4] Tryz.func112 Tryz.ntmps112 k<|sR<|ae (wb k) k<|ae (wb k) k<|aT k2<|sR<|lp k8<|lp k8<|oB h λv1 hv1 h=>ae (cT bZ (aFo a0 a1 v1 hv1) k3 (aH (dI k) (aH (dI k) aI))) k<|am k k<|ae (bW k k (by intro _ h;cases h)) k<|ae (bW k k (by intro _ h;cases h)) k<|aa k k<|aT k2<|sQ<|sR<|am k k<|ae (dD k) k<|an<|tn<|cV k h (λ_ h=>sR<|aT k2<|aD<|aE<|qD h k2) λ_ h=>aG<|tn<|sR<|am k k<|ae (cF aJ k k k k) k<|aT k2<|aD<|qD h k2
end
noncomputable section
set_option maxRecDepth 10000
set_option maxHeartbeats 4000000
end
noncomputable section
def rkF (p:Int) (m n:Nat) (F:Nat→Nat→Int):Nat:=(cI p m F n).2.length
theorem aYN {p:Int} (hp:mU p=true) {r c:Nat} (hr:r≤8) (hc:c≤8) {F:Nat→Nat→Int} (hF:InP p r c F):aCn p ⟨r,c,cD r c F⟩=true:=by
 have hb:=fF hp;have h64:r*c≤64:=Nat.mul_le_mul hr hc;unfold aCn;simp only [dA,hZ,List.all_eq_true];refine ⟨xV (by omega) (by omega),xV (by omega) (by omega),?_,⟨hp,by rw [eN];exact h64⟩,λx hx=>?_⟩
 ·rw [eN,aLB (by omega)]
 ·unfold cD at hx;obtain ⟨t,ht,rfl⟩:=List.mem_map.1 hx;have ht:=List.mem_range.1 ht;have hc0:0<c:=by rcases Nat.eq_zero_or_pos c with rfl|h';simp at ht;exact h'
  have:=hF (t / c) (t % c) (Nat.div_lt_of_lt_mul (by rw [Nat.mul_comm];exact ht)) (Nat.mod_lt _ hc0);rw [eY (by omega)];exact xV this.1 (by omega)
theorem aWi {p:Int} (hp:mU p=true) {r c:Nat} (hr:r≤8) (hc:c≤8) {F:Nat→Nat→Int} (hF:InP p r c F):aCG p ⟨r,c,cD r c F⟩=some (rkF p r c F:Int):=by
 have h64:r*c≤64:=Nat.mul_le_mul hr hc;unfold aCG aBn;rw [aEr p ⟨by unfold bI;simp only [eN];omega,trivial⟩,aYN hp hr hc hF,aB,eD,aZ,aFS ⟨hp,by omega,by omega,by omega,hF⟩,aB,aB];simp only [eD,aZ,fD];rfl
def dN (r:Rp) (k:Nat):Nat:=(r.dims[k]?.getD 0).toNat
theorem aJG {r:Rp} (h:aBC r=true):mU r.p=true∧aHh r.q r.dims=true∧r.maps.length=r.q.src.length∧ ∀ k,k<r.maps.length→aCn r.p (r.maps[k]?.getD ⟨0,0,[]⟩)=true∧(r.maps[k]?.getD ⟨0,0,[]⟩).cols=r.dims[(r.q.src[k]?.getD 0).toNat]?.getD 0∧(r.maps[k]?.getD ⟨0,0,[]⟩).rows=r.dims[(r.q.tgt[k]?.getD 0).toNat]?.getD 0:=by
 unfold aBC at h;simp only [dA,hZ,tZ] at h;exact ⟨h.1,h.2.1,by omega,h.2.2.2⟩
theorem qL {c:Nat} {f g:Nat→Int} (h: ∀ j,j<c→f j=g j):eP c f=eP c g:=rF λj hj=>h j (List.mem_range.1 hj)
theorem aMx {c j:Nat} (hj:j<c) (f:Nat→Int) (v:Int):(eP c f).set j v=eP c (λb=>if b=j then v else f b):=by
 refine List.ext_getElem (by simp [eP]) λt h1 h2=>?_;rw [dM] at h2;rw [List.getElem_set];simp only [eP,List.getElem_map,List.getElem_range];by_cases e:j=t
 ·rw [aV e,aV e.symm]
 ·rw [aX e,aX (by omega)]
theorem aKI (c:Nat):List.replicate c (0:Int)=eP c (λ_=>0):=by
 refine List.ext_getElem (by simp [eP]) λt h1 h2=>?_;simp [eP]
theorem sq {a b:Nat} (ha:a≤4) (hb:b≤4):a*b≤1048576:=by have:=Nat.mul_le_mul ha hb;omega
theorem aJH (c:Nat) (f:Nat→Nat→Int): ∀ n,((List.range n).map λi=>eP c (f i)).flatten=cD n c f
 |0=>by simp [cD]
 |n+1=>by
  rw [List.range_succ,List.map_append,List.flatten_append,aJH c f n];unfold cD;rw [Nat.succ_mul,List.range_add,List.map_append];congr 1;simp only [List.map_cons,List.map_nil,List.flatten_cons,List.flatten_nil,List.append_nil,List.map_map,eP];refine rF λj hj=>?_;have hj:=List.mem_range.1 hj;simp only [Function.comp];rw [aDZ hj,aDa hj]
theorem aPA {l:List (List Int)} (h: ∀ x∈l,x.length≤1024):l.flatten.length≤1024*l.length:=by
 induction l with
 |nil=>simp
 |cons x l ih=>
  have h1:=h x (by simp);have h2:=ih λy hy=>h y (by simp [hy]);simp only [List.flatten_cons,List.length_append,List.length_cons];omega
theorem aDU {l:List (List Int)} {k:Nat} (hk:k<l.length):(l.take (k+1)).flatten=(l.take k).flatten++l[k]:=by
 rw [yB hk,List.flatten_append];simp
theorem aWj {l:List (List Int)} (hl:l.length≤512) (h: ∀ x∈l,x.length≤1024):kY l=some l.flatten:=by
 have hb: ∀ k,(l.take k).flatten.length ≤1024*512:=λk=>by
  have:=aPA (l:=l.take k) λx hx=>h x (List.mem_of_mem_take hx);have h2:(l.take k).length ≤512:=by simp;omega
  omega
 unfold kY;rw [cZ (r:=(l.flatten.length:Int)) (λk=>(((l.take k).flatten.length:Int),(k:Int))) l.length (by simp) (λk hk=>?_) (λ_=>?_),aB]
 ·have e:=hb l.length;rw [List.take_length] at e;unfold aSp;rw [bH (by omega),bH (by omega:(l.flatten.length:Int)≤1048576),Bool.and_self,aR,aB];rw [cZ (r:=l.flatten) (λk=>((l.take k).flatten,(k:Int))) l.length (by simp) (λk hk=>?_) (λ_=>?_),aB]
  ·unfold jF;simp only;have e2:=hb (k+1);rw [aDU hk,List.length_append] at e2;rw [iO hk,aR,dS hk,aB,bH (by omega),aR,cA hk (by omega),aDU hk]
  ·unfold jF;simp only;rw [jU (bN _),aZ,List.take_length]
 ·unfold jE;simp only;have e2:=hb (k+1);rw [aDU hk,List.length_append] at e2;rw [iO hk,aR,dS hk,aB,eY (x:=_+_) (by omega),dF (by omega),aZ,cA hk (by omega),aDU hk,List.length_append,Int.natCast_add (List.take k l).flatten.length l[k].length]
 ·unfold jE;simp only;rw [jU (bN _),aZ,List.take_length]
end
noncomputable section
open Go.ChangeShapes Go.WideShapes Go.ChangeAt Go.RowKit
theorem oI:aDe Tryz.prog 3 (aDr 1 eI):=aSm Tryz.underlying3
theorem oL:aDe Tryz.prog 22 (aDr 1 eL):=aIt Tryz.underlying22 (by decide) (by kernel_rfl) oI
theorem oQ:aDe Tryz.prog 24 (aDr 3 eQ):=by
 intro H enc w fuel cs d ps h hf;obtain ⟨x0,T0,u0⟩:=uB Tryz.underlying24 h hf aMd (i:=0) (ft:=3) rfl (k:=1) (by kernel_rfl) oI;obtain ⟨x1,T1,u1⟩:=uB Tryz.underlying24 h hf u0 (i:=1) (ft:=22) rfl (k:=1) (by kernel_rfl) oL;obtain ⟨x2,T2,u2⟩:=uB Tryz.underlying24 h hf u1 (i:=2) (ft:=22) rfl (k:=1) (by kernel_rfl) oL;exact ⟨⟨x0,x1,x2⟩,_,aMe Tryz.underlying24 h hf u2 (by kernel_rfl) _ rfl⟩
theorem oM:aDe Tryz.prog 111 (aDr 3 eM):=by
 intro H enc w fuel cs d ps h hf;obtain ⟨x0,T0,u0⟩:=uB Tryz.underlying111 h hf aMd (i:=0) (ft:=3) rfl (k:=1) (by kernel_rfl) oI;obtain ⟨x1,T1,u1⟩:=uB Tryz.underlying111 h hf u0 (i:=1) (ft:=3) rfl (k:=1) (by kernel_rfl) oI;obtain ⟨x2,T2,u2⟩:=uB Tryz.underlying111 h hf u1 (i:=2) (ft:=22) rfl (k:=1) (by kernel_rfl) oL;exact ⟨⟨x0,x1,x2⟩,_,aMe Tryz.underlying111 h hf u2 (by kernel_rfl) _ rfl⟩
theorem oMs:aDe Tryz.prog 25 (aDr 1 (λl:List Mt=>[.list 3 (l.map eM)])):=aIt Tryz.underlying25 (by decide) (by kernel_rfl) oM
theorem oR:aDe Tryz.prog 27 (aDr 6 eR):=by
 intro H enc w fuel cs d ps h hf;obtain ⟨x0,T0,u0⟩:=uB Tryz.underlying27 h hf aMd (i:=0) (ft:=3) rfl (k:=1) (by kernel_rfl) oI;obtain ⟨x1,T1,u1⟩:=uB Tryz.underlying27 h hf u0 (i:=1) (ft:=24) rfl (k:=3) (by kernel_rfl) oQ;obtain ⟨x2,T2,u2⟩:=uB Tryz.underlying27 h hf u1 (i:=2) (ft:=22) rfl (k:=1) (by kernel_rfl) oL;obtain ⟨x3,T3,u3⟩:=uB Tryz.underlying27 h hf u2 (i:=3) (ft:=25) rfl (k:=1) (by kernel_rfl) oMs;exact ⟨⟨x0,x1,x2,x3⟩,_,aMe Tryz.underlying27 h hf u3 (by kernel_rfl) _ rfl⟩
end
noncomputable section
theorem aLr {w:World} : ∀ {ds:List AV} {vs:List Value} {S:List Nat},RepVs w ds vs S→ ∀ d∈ds,∃ v S',RepD w d v S'
 | [],_,_,_,d,hd=>by cases hd
 |c::cs,vs,S,h,d,hd=>by
  simp only [RepVs] at h;obtain ⟨v,r,S1,S2,_,_,h3,h4⟩:=h;rcases fU.1 hd with rfl|h'
  ·exact ⟨v,S1,h3⟩
  ·exact aLr h4 d h'
theorem aUA {w:World} {b:Nat} : ∀ {ds:List AV} {o:Nat} {S:List Nat},RepCs w b o ds S→ ∀ d∈ds,∃ v S',RepD w d v S'
 | [],_,_,_,d,hd=>by cases hd
 |c::cs,o,S,h,d,hd=>by
  simp only [RepCs] at h;obtain ⟨v,S1,S2,_,_,_,_,h3,h4⟩:=h;rcases fU.1 hd with rfl|h'
  ·exact ⟨v,S1,h3⟩
  ·exact aUA h4 d h'
theorem aUB {w:World} {k b:Nat} : ∀ {es:List (List AV)} {o:Nat} {S:List Nat},RepEs w k b o es S→ ∀ cs∈es,∀ d∈cs,∃ v S',RepD w d v S'
 | [],_,_,_,cs,hc=>by cases hc
 |c::es,o,S,h,cs,hc=>by
  simp only [RepEs] at h;obtain ⟨S1,S2,_,_,h3,h4⟩:=h;rcases fU.1 hc with rfl|h'
  ·exact aUA h3
  ·exact aUB h4 cs h'
theorem aUC {w:World} {k:Nat} {es:List (List AV)} {v:Value} {S:List Nat} (h:RepD w (.list k es) v S):es.length≤9223372036854775807∧ ∀ cs∈es,∀ d∈cs,∃ v S',RepD w d v S':=by
 unfold RepD at h;obtain ⟨a,c,_,h2,h3,h4⟩:=h;have hm:maxLen≤9223372036854775807:=by decide
 refine ⟨by omega,?_⟩;rcases h4 with ⟨rfl,_⟩|⟨b,o,T,_,_,_,h5⟩
 ·intro cs hcs;cases hcs
 ·exact aUB h5
theorem bAK {w:World} {l:List Int} {v:Value} {S:List Nat} (h:RepD w (aPi l) v S):fI l:=by
 have:=(aUC (k:=1) (es:=List.map eI l) h).1
 rwa [dU] at this
theorem aPz {w:World} {ds:List AV} (h: ∀ d∈ds,∃ v S',RepD w d v S') {l:List Int} (hl:aPi l∈ds):fI l:=by
 obtain ⟨v,S,h⟩:=h _ hl;exact bAK h
theorem aWk {w:World} {ds:List AV} (h: ∀ d∈ds,∃ v S',RepD w d v S') {α:Type} {k:Nat} {e:α→List AV} {l:List α} (hl:AV.list k (l.map e)∈ds):fI l∧ ∀ x∈l,∀ d∈e x,∃ v S',RepD w d v S':=by
 obtain ⟨v,S,h⟩:=h _ hl;have:=aUC h;rw [dU] at this;exact ⟨this.1,λx hx=>this.2 _ (List.mem_map.2 ⟨x,hx,rfl⟩)⟩
theorem bAL {w:World} {m:Mt} (h: ∀ d∈eM m,∃ v S',RepD w d v S'):fM m:=aPz h (by simp [eM])
theorem aZS {w:World} {l:List Mt} {ds:List AV} (h: ∀ d∈ds,∃ v S',RepD w d v S') (hl:AV.list 3 (l.map eM)∈ds):fMs l:=by
 obtain ⟨h1,h2⟩:=aWk h hl;exact ⟨h1,λm hm=>bAL (h2 m hm)⟩
theorem aWl {w:World} {r:Rp} (h: ∀ d∈eR r,∃ v S',RepD w d v S'):fR r:=⟨⟨aPz h (by simp [eR]),aPz h (by simp [eR])⟩,aPz h (by simp [eR]),aZS h (by simp [eR])⟩
theorem aWm {w0 w:World} {v:Value} {S:List Nat} (h:aPf w (.bl true) v S):Ending.returned v= .returned (.bool true):=by rw [h.1]
end
noncomputable section
set_option maxRecDepth 10000
set_option maxHeartbeats 4000000
end
noncomputable section
set_option maxRecDepth 10000
set_option maxHeartbeats 4000000
def mA (a0:Mt) (a1:Int) (x1:((List Int)×Int)):Option (((List Int)×Int) ⊕ (List Int)):=
 bif decide (x1.2<(((List.replicate a0.rows.toNat (0:Int)).length:Nat):Int)) then
 ((cJ a0.cells (wr ((wr (x1.2*a0.cols))+a1))).bind λv2=>
 (cJ x1.1 x1.2).bind λv3=>
 some (.inl ((x1.1.set x1.2.toNat v2),wr (x1.2+1))))
 else
 (some (.inr x1.1))
def pV (a0:Mt) (a1:Int):Option (List Int):=
 bif (decide (0≤a0.rows)&&decide (a0.rows≤1048576)) then
 ((Lp (mA a0 a1) ((List.replicate a0.rows.toNat (0:Int)),0)).bind λy4=>
 some (y4))
 else none
theorem aGT (a0:Mt) (a1:Int) (r:(List Int)) (h:pV a0 a1=some r):HasC Tryz.prog 154 [.agg (eM a0),.int a1] (.list 1 (r.map eI)):=by
 refine hM [.tmp 4] Tryz.func154 Tryz.ntmps154 k<|sR<|ae (wb k) k<|aT k2<|sR<|fp k8<|lp k8<|cG h λq5 h=>ae (aAL aJ q5 k k k k k k k k) k<|aT k2<|aL (t:=mN [(1,.int a1),(2,.ptr 0 0 0),(5,.own 1 0 ((List.replicate a0.rows.toNat (0:Int)).length))] [(0,⟨3,[eM a0]⟩),(1,⟨1,List.map (ow eI) (List.replicate a0.rows.toNat (0:Int))⟩)] 2) (bT (iU 2 k2 (gK ⟨_,k,⟨k,k,(by simp only [aQ,lA,lT,lR,lC,lN]),k⟩⟩ aS)) (bA k<|hX ⟨_,k,k,.inl ⟨aAr (e:=eI) (z:=0) _,cX.plainO _⟩⟩ k<|aS) k4)<|sQ<|sR<|am k k<|ae (cF aJ k k k k) k<|am k k<|an<|tn<|aC<|oB h λy4 hy4 h=>bX (body:=(mA a0 a1)) hy4 (λ(x1:((List Int)×Int))=>mN [(1,.int a1),(2,.ptr 0 0 0),(5,.own 1 0 x1.1.length),(11,.int (((List.replicate a0.rows.toNat (0:Int)).length:Nat):Int)),(12,.int x1.2)] [(0,⟨3,[eM a0]⟩),(1,⟨1,x1.1.map (ow eI)⟩)] 2) (λr e t=>e= .exit 0∧Ent t (mN [(5,.own 0 0 r.length)] [(0,⟨1,r.map (ow eI)⟩)] 1)) (bT (bJ k2) (bA k<|bG k<|aS) k4) ?_ ?_
 ·intro x1 o h;refine sR<|cm k4<|an<|tn<|sQ<|cV k h (λ_ h=>?_) λ_ h=>aW<|aA<|aA<|sp h ⟨_,k,k,(kC [1] (bJ k2) (bG k<|aS) k4)⟩;refine aG<|tn<|sQ<|aC<|sR<|am k k<|aT k2<|rg<|am k k<|am k k<|fp k8<|lp k8<|am k k<|fp k8<|lp k8<|ae (fC k k) k<|am k k<|ae (bB k k) k<|oB h λv2 hv2 h=>ae (xl hv2 k) k<|lr k7<|oB h λv3 hv3 h=>ae (xo hv3 k) k<|ae (fG aJ jG (u:=v2) (dB hv3) k k k k k k) k<|an<|aU<|tn<|rg ?_;exact ae (bB k k) k<|am k k<|an<|tn<|sp h ⟨_,k,(bT (iU 2 k2 (gK ⟨_,k,⟨k,k,(by simp only [aQ,lA,lT,lR,lC,lN]),k⟩⟩ (bJ k2))) (bA k<|bG k<|aS) k4)⟩
 ·rintro e t ⟨rfl,hent⟩;exact aN<|tn<|aL hent<|sR<|am k k<|aT k2<|aD<|sp h (bK k k k (fZ (dE cX k k)))
def zN (a0:Int) (a1:(List (List Int))):Option Mt:=
 (kY a1).bind λv1=>
 some ((⟨(a1.length:Int),a0,v1⟩:Mt))
theorem aLP (a0:Int) (a1:(List (List Int))) (r:Mt) (h:zN a0 a1=some r):HasC Tryz.prog 260 [.int a0,.list 1 (a1.map (dL 1 eI))] (.agg (eM r)):=by
 exact hM [.cell 4 113] Tryz.func260 Tryz.ntmps260 k<|sR<|ae (bP aJ k k) k<|an<|tn<|sR<|am k k<|ln k4<|am k k<|am k k<|oB h λv1 hv1 h=>ae (cL cX (aEU a1 v1 hv1) k3 (cC k aI)) k<|ae (hO aJ k k k k k k) k<|ae (ws k) k<|an<|tn<|aD<|sp h (bK k k k (lG (aY (k) (aY (k) (aY (dE cX k k) fA)))))
def aBG (v2:(Mt×(List Int))) (x1:((List (List Int))×Int)):Option (((List (List Int))×Int) ⊕ (List (List Int))):=
 bif decide (x1.2<((v2.2.length:Nat):Int)) then
 ((dK v2.1 x1.2).bind λv4=>
 (mW ((v2.1.cells.drop (0+(wr (x1.2*v2.1.cols)).toNat)).take ((wr ((wr (x1.2+1))*v2.1.cols)).toNat - (wr (x1.2*v2.1.cols)).toNat))).bind λv5=>
 bif decide (x1.1.length+1≤4294967296) then
 (some (.inl ((x1.1++[v5]),wr (x1.2+1))))
 else none)
 else
 (some (.inr x1.1))
def aCa (a0:Int) (a1:Int) (a2:(List (List Int))):Option Sc:=
 (zN a1 a2).bind λv1=>
 (uC a0 v1).bind λv2=>
 (Lp (aBG v2) ([],0)).bind λy7=>
 some ((⟨a1,y7⟩:Sc))
theorem aKq (a0:Int) (a1:Int) (a2:(List (List Int))) (r:Sc) (h:aCa a0 a1 a2=some r):HasC Tryz.prog 233 [.int a0,.int a1,.list 1 (a2.map (dL 1 eI))] (.agg (eS r)):=by
 refine hM [.cell 6 99] Tryz.func233 Tryz.ntmps233 k<|sR<|ae (bP aJ k k) k<|an<|tn<|sR<|am k k<|am k k<|am k k<|oB h λv1 hv1 h=>ae (cM (aLP a1 a2 v1 hv1) k3 (cC k (cC k aI))) k<|oB h λv2 hv2 h=>ae (AEff.conv (jK (x:= .tuple [.agg [.int v2.1.rows,.int v2.1.cols,.own 2 0 (v2.1.cells.map eI).length],.own 3 0 (v2.2.map eI).length]) (nb:=[(2,⟨1,cY (v2.1.cells.map eI)⟩),(3,⟨1,cY (v2.2.map eI)⟩)]) (aET a0 v1 v2 hv2) k (by rfl) k k (dV (cB aS (cB aS (cB (cX.good _) qF))) (dV (cX.good _) uL)) (cC k (aH (vaM k2) aI))) (v':= .tuple [.agg [.int v2.1.rows,.int v2.1.cols,.own 2 0 v2.1.cells.length],.own 3 0 v2.2.length]) (ed':=[(2,some ⟨1,v2.1.cells.map (ow eI)⟩),(3,some ⟨1,v2.2.map (ow eI)⟩)]) (by simp only [aQ]) (uW (nb':=[(2,⟨1,v2.1.cells.map (ow eI)⟩),(3,⟨1,v2.2.map (ow eI)⟩)]) (by simp only [gU]))) k<|am k k<|ae (bW k k (by intro _ h;cases h)) k<|ae (bW k k (by intro _ h;cases h)) k<|ae (bP aJ k k) k<|ae (ws k) k<|aT k2<|sR<|aT k2<|sQ<|sR<|am k k ?_;refine ae (cF aJ k k k k) k<|am k k<|an<|tn<|aC<|oB h λy7 hy7 h=>bX (body:=(aBG v2)) hy7 (λ(x1:((List (List Int))×Int))=>mN [(1,.int a1),(6,.ptr 0 0 0),(7,.ptr 1 0 0),(9,.own 3 0 x1.1.length),(20,.int ((v2.2.length:Nat):Int)),(21,.int x1.2)] [(0,⟨2,[[.int 0,.nil 1]]⟩),(1,⟨3,[oMt v2.1 2]⟩),(2,⟨1,v2.1.cells.map (ow eI)⟩),(3,⟨1,x1.1.map (ow (dL 1 eI))⟩)] 4) (λr e t=>e= .exit 0∧Ent t (mN [(1,.int a1),(6,.ptr 0 0 0),(9,.own 1 0 r.length)] [(0,⟨2,[[.int 0,.nil 1]]⟩),(1,⟨1,r.map (ow (dL 1 eI))⟩)] 2)) (eJ (σ:=sg [(0,0),(1,4),(2,2)]) (iU 3 k2 (gK ⟨_,k,⟨k,k,k,k⟩⟩ (bJ k2))) (bA k<|cP k<|bG k<|hX k k<|aS) k) ?_ ?_
 ·intro x1 o h;refine sR<|cm k4<|an<|tn<|sQ<|cV k h (λ_ h=>?_) λ_ h=>aW<|aA<|aA<|sp h ⟨_,k,k,(kC [0,3] (bJ k2) (bA k<|cE (bZ.plainO _) k<|aS) k4)⟩;exact aG<|tn<|sQ<|aC<|sR<|am k k<|aT k2<|rg<|am k k<|lp k8<|am k k<|oB h λv4 hv4 h=>ae (AEff.pureE (nR (σ:=sg [(0,2)]) (σ':=sg [(2,0)]) (touch:=[2]) (news:=[]) (nP:=[(2,⟨1,v2.1.cells.map (ow eI)⟩)]) (n':=4) (r2:= .own 2 (0+(wr (x1.2*v2.1.cols)).toNat) ((wr ((wr (x1.2+1))*v2.1.cols)).toNat - (wr (x1.2*v2.1.cols)).toNat)) (fJ v2.1 x1.2 v4 hv4) k k ⟨_,_,k,⟨_,_,k,k,⟨_,_,k,k,⟨_,_,k,⟨k,k,k,k⟩,k⟩⟩⟩,⟨_,_,k,k,k⟩⟩ ⟨⟨_,k,k,.inl ⟨k,cX.plainO _⟩⟩,k,aS⟩ k k k ⟨⟨_,k,k,.inl ⟨k,cX.plainO _⟩⟩,k,aS⟩ k ⟨k,k,(by simp only [aQ,lA,lT,lR,lC,lN]),k⟩ k ⟨k,cX.tame _ _,aS⟩ k k) ⟨k,k,aS⟩) k<|oB h λv5 hv5 h=>ae (cL cX (aDF ((v2.1.cells.drop (0+(wr (x1.2*v2.1.cols)).toNat)).take ((wr ((wr (x1.2+1))*v2.1.cols)).toNat - (wr (x1.2*v2.1.cols)).toNat)) v5 hv5) k3 (aH (aXy cX k) aI)) k<|ae (wl k) k<|cG h λq6 h=>ae (iE aJ (l:=x1.1) (c:=[.own 4 0 v5.length]) q6 k k k k k k k k k k k k k k) k<|aa k k<|an<|aU<|tn<|aL (t:=mN [(1,.int a1),(6,.ptr 0 0 0),(7,.ptr 1 0 0),(9,.own 6 0 ((x1.1++[v5]).length)),(20,.int ((v2.2.length:Nat):Int)),(21,.int x1.2)] [(0,⟨2,[[.int 0,.nil 1]]⟩),(1,⟨3,[oMt v2.1 2]⟩),(2,⟨1,v2.1.cells.map (ow eI)⟩),(6,⟨1,List.map (ow (dL 1 eI)) (x1.1++[v5])⟩)] 7) (Ent.trans (fH (b:=6) (b':=4) (j:=0) (es':=v5.map eI) k k k k (aQ _ _) (cX.frzs _)) (bT (iU 3 k2 (gK ⟨_,k,⟨k,k,(by simp only [aQ,lA,lT,lR,lC,lN]),k⟩⟩ (bJ k2))) (bA k<|cP k<|bG k<|hX ⟨_,k,k,.inl ⟨jH v5 k,bZ.plainO _⟩⟩ k<|aS) k4))<|rg<|ae (bB k k) k<|am k k<|an<|tn<|sp h ⟨_,k,(kC [0,1,2,6] (bJ k2) (bA k<|cP k<|bG k<|cE (bZ.plainO _) k<|aS) k4)⟩
 ·rintro e t ⟨rfl,hent⟩;exact aN<|tn<|aL hent<|sR<|am k k<|am k k<|ae (hO aJ k k k k k k) k<|ae (ws k) k<|an<|tn<|aD<|sp h (bK k k k (lG (aY (k) (aY (dE bZ k k) fA))))
def rP (a1:(List (List Int))) (x1:((List Int)×Int)):Option (((List Int)×Int) ⊕ (List Int)):=
 bif decide (x1.2<(a1.length:Int)) then
 ((cJ a1 x1.2).bind λv2=>
 bif decide (x1.1.length+v2.length≤4294967296) then
 (some (.inl ((x1.1++v2),wr (x1.2+1))))
 else none)
 else
 (some (.inr x1.1))
def nJ (a0:Int) (a1:(List (List Int))):Option Mt:=
 (Lp (rP a1) ([],0)).bind λy4=>
 some ((⟨(a1.length:Int),a0,y4⟩:Mt))
theorem aEV (a0:Int) (a1:(List (List Int))) (r:Mt) (h:nJ a0 a1=some r):HasC Tryz.prog 157 [.int a0,.list 1 (a1.map (dL 1 eI))] (.agg (eM r)):=by
 refine hM [.cell 4 113] Tryz.func157 Tryz.ntmps157 k<|sR<|ae (bP aJ k k) k<|an<|tn<|sR<|am k k<|ln k4<|am k k<|ae (hO aJ k k k k k k) k<|ae (bP aJ k k) k<|ae (ws k) k<|an<|tn<|sQ<|sR<|aT k2<|aC<|oB h λy4 hy4 h=>bX (body:=(rP a1)) hy4 (λ(x1:((List Int)×Int))=>mN [(1,.list 1 (a1.map (dL 1 eI))),(4,.ptr 0 0 0),(5,.ptr 1 0 0),(6,.int x1.2)] [(0,⟨3,[fB]⟩),(1,⟨3,[[.int (a1.length:Int),.int a0,.own 2 0 x1.1.length]]⟩),(2,⟨1,x1.1.map (ow eI)⟩)] 3) (λr e t=>e= .exit 0∧Ent t (mN [(4,.ptr 0 0 0),(5,.ptr 1 0 0)] [(0,⟨3,[fB]⟩),(1,⟨3,[[.int (a1.length:Int),.int a0,.own 2 0 r.length]]⟩),(2,⟨1,r.map (ow eI)⟩)] 3)) (eJ (σ:=sg [(0,0),(1,1)]) (bJ k2) (bA k<|hX ⟨_,k,k,.inr ⟨_,_,k,⟨_,_,k,k,⟨_,_,k,k,⟨_,_,k,⟨k,k,k,k⟩,k⟩⟩⟩,k⟩⟩ k<|hX k k<|aS) k) ?_ ?_
 ·intro x1 o h;exact sQ<|sR<|am k k<|am k k<|ln k4<|cm k4<|an<|tn<|cV k h (λ_ h=>aG<|tn<|sQ<|aC<|aP eG<|fp k8<|lp k8<|am k k<|am k k<|oB h λv2 hv2 h=>ae (xl hv2 k) k<|lr k7<|cG h λq3 h=>ae (mP aJ (l:=x1.1) (m:=v2) jG q3 k k k k k k k k k k k k) k<|fp k8<|ae (ws k) k<|an<|lB (by kernel_rfl)<|aU<|tn<|rg<|am k k<|ae (bB k k) k<|aT k2<|sp h ⟨_,k,(kC [0,1,3] (bJ k2) (bA k<|cP k<|bG k<|aS) k4)⟩) λ_ h=>aW<|aA<|aA<|sp h ⟨_,k,k,(bT (bJ k2) (bA k<|cP k<|bG k<|aS) k4)⟩
 ·rintro e t ⟨rfl,hent⟩;exact aN<|tn<|aL hent<|sR<|lp k8<|ae (ws k) k<|an<|tn<|aD<|sp h (bK k k k (lG (aY (k) (aY (k) (aY (dE cX k k) fA)))))
def pW (v1:(Mt×(List Int))) (x1:((List (List Int))×Int)):Option (((List (List Int))×Int) ⊕ (List (List Int))):=
 bif decide (x1.2<((v1.2.length:Nat):Int)) then
 (bif (decide (0≤wr (x1.2*v1.1.cols))&&(decide (wr (x1.2*v1.1.cols)≤wr ((wr (x1.2*v1.1.cols))+v1.1.cols))&&decide (wr ((wr (x1.2*v1.1.cols))+v1.1.cols)≤((v1.1.cells.length:Nat):Int)))) then
 (bif decide (([]:(List Int)).length +((v1.1.cells.drop (0+(wr (x1.2*v1.1.cols)).toNat)).take ((wr ((wr (x1.2*v1.1.cols))+v1.1.cols)).toNat - (wr (x1.2*v1.1.cols)).toNat)).length ≤4294967296) then
 (bif decide (x1.1.length+1≤4294967296) then
 (some (.inl ((x1.1++[(([]:(List Int))++((v1.1.cells.drop (0+(wr (x1.2*v1.1.cols)).toNat)).take ((wr ((wr (x1.2*v1.1.cols))+v1.1.cols)).toNat - (wr (x1.2*v1.1.cols)).toNat)))]),wr (x1.2+1))))
 else none)
 else none)
 else none)
 else
 (some (.inr x1.1))
def nY (a0:Int) (a1:Mt):Option (List (List Int)):=
 (jZ a0 a1).bind λv1=>
 (Lp (pW v1) (([]:(List (List Int))),0)).bind λy6=>
 some (y6)
theorem aGU (a0:Int) (a1:Mt) (r:(List (List Int))) (h:nY a0 a1=some r):HasC Tryz.prog 182 [.int a0,.agg (eM a1)] (.list 1 (r.map (dL 1 eI))):=by
 refine hM [.tmp 4] Tryz.func182 Tryz.ntmps182 k<|sR<|ae (wb k) k<|aT k2<|sR<|am k k<|lp k8<|oB h λv1 hv1 h=>ae (AEff.conv (jK (x:= .tuple [.agg [.int v1.1.rows,.int v1.1.cols,.own 1 0 (v1.1.cells.map eI).length],.own 2 0 (v1.2.map eI).length]) (nb:=[(1,⟨1,cY (v1.1.cells.map eI)⟩),(2,⟨1,cY (v1.2.map eI)⟩)]) (aCk a0 a1 v1 hv1) k (by rfl) k k (dV (cB aS (cB aS (cB (cX.good _) qF))) (dV (cX.good _) uL)) (cC k (aH (dI k) aI))) (v':= .tuple [.agg [.int v1.1.rows,.int v1.1.cols,.own 1 0 v1.1.cells.length],.own 2 0 v1.2.length]) (ed':=[(1,some ⟨1,v1.1.cells.map (ow eI)⟩),(2,some ⟨1,v1.2.map (ow eI)⟩)]) (by simp only [aQ]) (uW (nb':=[(1,⟨1,v1.1.cells.map (ow eI)⟩),(2,⟨1,v1.2.map (ow eI)⟩)]) (by simp only [gU]))) k<|am k k<|ae (bW k k (by intro _ h;cases h)) k<|ae (bW k k (by intro _ h;cases h)) k<|ae (bP aJ k k) k<|ae (ws k) k<|aT k2<|sR<|ae (wl k) k<|aT k2<|aL (t:=mN [(5,.ptr 3 0 0),(6,.own 2 0 v1.2.length),(7,.own 4 0 (([]:(List (List Int))).length))] [(1,⟨1,v1.1.cells.map (ow eI)⟩),(2,⟨1,v1.2.map (ow eI)⟩),(3,⟨3,[oMt v1.1 1]⟩),(4,⟨1,List.map (ow (dL 1 eI)) ([]:(List (List Int)))⟩)] 5) (bT (iU 2 k2 (gK ⟨_,k,⟨k,k,(by simp only [aQ,lA,lT,lR,lC,lN]),k⟩⟩ aS)) (bG k<|bG k<|cP k<|cE (bZ.plainO _) k<|aS) k4)<|sQ<|sR ?_;refine aT k2<|aC<|oB h λy6 hy6 h=>bX (body:=(pW v1)) hy6 (λ(x1:((List (List Int))×Int))=>mN [(5,.ptr 0 0 0),(6,.own 2 0 v1.2.length),(7,.own 3 0 x1.1.length),(8,.int x1.2)] [(0,⟨3,[oMt v1.1 1]⟩),(1,⟨1,v1.1.cells.map (ow eI)⟩),(2,⟨1,v1.2.map (ow eI)⟩),(3,⟨1,x1.1.map (ow (dL 1 eI))⟩)] 4) (λr e t=>e= .exit 0∧Ent t (mN [(7,.own 0 0 r.length)] [(0,⟨1,r.map (ow (dL 1 eI))⟩)] 1)) (kC [3,1,2,4] (bJ k2) (cP k<|bG k<|bG k<|cE (bZ.plainO _) k<|aS) k4) ?_ ?_
 ·intro x1 o h;refine sQ<|sR<|am k k<|am k k<|ae (cF aJ k k k k) k<|cm k4<|an<|tn<|cV k h (λ_ h=>?_) λ_ h=>aW<|aA<|aA<|sp h ⟨_,k,k,(kC [3] (bJ k2) (cE (bZ.plainO _) k<|aS) k4)⟩;refine aG<|tn<|sQ<|aC<|rg<|am k k<|ae (wl k) k<|fp k8<|lp k8<|am k k<|fp k8<|lp k8<|ae (fC k k) k<|am k k<|fp k8<|lp k8<|ae (fC k k) k<|fp k8<|lp k8<|ae (bB k k) k<|cG h λq3 h=>ae (aEG aJ (l:=wr (x1.2*v1.1.cols)) (h:=wr ((wr (x1.2*v1.1.cols))+v1.1.cols)) q3 k k k k k k k k) k<|cG h λq4 h=>ae (mP aJ (l:=([]:(List Int))) (m:=((v1.1.cells.drop (0+(wr (x1.2*v1.1.cols)).toNat)).take ((wr ((wr (x1.2*v1.1.cols))+v1.1.cols)).toNat - (wr (x1.2*v1.1.cols)).toNat))) jG q4 k k k k k (aWZ cX k) k k k k k k) k<|ae (wl k) k<|cG h λq5 h=>ae (iE aJ (l:=x1.1) (c:=[.own 5 0 ((([]:(List Int))++((v1.1.cells.drop (0+(wr (x1.2*v1.1.cols)).toNat)).take ((wr ((wr (x1.2*v1.1.cols))+v1.1.cols)).toNat - (wr (x1.2*v1.1.cols)).toNat))).length)]) q5 k k k k k k k k k k k k k k) k<|aa k k<|an<|aU<|tn<|aL (t:=mN [(5,.ptr 0 0 0),(6,.own 2 0 v1.2.length),(7,.own 7 0 ((x1.1++[(([]:(List Int))++((v1.1.cells.drop (0+(wr (x1.2*v1.1.cols)).toNat)).take ((wr ((wr (x1.2*v1.1.cols))+v1.1.cols)).toNat - (wr (x1.2*v1.1.cols)).toNat)))]).length)),(8,.int x1.2)] [(0,⟨3,[oMt v1.1 1]⟩),(1,⟨1,v1.1.cells.map (ow eI)⟩),(2,⟨1,v1.2.map (ow eI)⟩),(7,⟨1,List.map (ow (dL 1 eI)) (x1.1++[(([]:(List Int))++((v1.1.cells.drop (0+(wr (x1.2*v1.1.cols)).toNat)).take ((wr ((wr (x1.2*v1.1.cols))+v1.1.cols)).toNat - (wr (x1.2*v1.1.cols)).toNat)))])⟩)] 8) (Ent.trans (fH (b:=7) (b':=5) (j:=0) (es':=List.map eI (([]:(List Int))++((v1.1.cells.drop (0+(wr (x1.2*v1.1.cols)).toNat)).take ((wr ((wr (x1.2*v1.1.cols))+v1.1.cols)).toNat - (wr (x1.2*v1.1.cols)).toNat)))) k k k k (aQ _ _) (cX.frzs _)) (bT (iU 2 k2 (gK ⟨_,k,⟨k,k,(by simp only [aQ,lA,lT,lR,lC,lN]),k⟩⟩ (bJ k2))) (cP k<|bG k<|bG k<|hX ⟨_,k,k,.inl ⟨jH (([]:(List Int))++((v1.1.cells.drop (0+(wr (x1.2*v1.1.cols)).toNat)).take ((wr ((wr (x1.2*v1.1.cols))+v1.1.cols)).toNat - (wr (x1.2*v1.1.cols)).toNat))) k,bZ.plainO _⟩⟩ k<|aS) k4)) ?_;exact rg<|am k k<|ae (bB k k) k<|aT k2<|sp h ⟨_,k,(kC [0,1,2,7] (bJ k2) (cP k<|bG k<|bG k<|cE (bZ.plainO _) k<|aS) k4)⟩
 ·rintro e t ⟨rfl,hent⟩;exact aN<|tn<|aL hent<|sR<|am k k<|aT k2<|aD<|sp h (bK k k k (fZ (dE bZ k k)))
def yJ (a0:Int) (a1:Int) (a2:(List (List Int))):Option Sc:=
 (nJ a1 a2).bind λv1=>
 (nY a0 v1).bind λv2=>
 some ((⟨a1,v2⟩:Sc))
theorem aHj (a0:Int) (a1:Int) (a2:(List (List Int))) (r:Sc) (h:yJ a0 a1 a2=some r):HasC Tryz.prog 184 [.int a0,.int a1,.list 1 (a2.map (dL 1 eI))] (.agg (eS r)):=by
 exact hM [.cell 6 99] Tryz.func184 Tryz.ntmps184 k<|sR<|ae (bP aJ k k) k<|an<|tn<|sR<|am k k<|am k k<|am k k<|am k k<|oB h λv1 hv1 h=>ae (cM (aEV a1 a2 v1 hv1) k3 (cC k (cC k aI))) k<|oB h λv2 hv2 h=>ae (cL bZ (aGU a0 v1 v2 hv2) k3 (cC k (aH (vaM k2) aI))) k<|ae (hO aJ k k k k k k) k<|ae (ws k) k<|an<|tn<|aD<|sp h (bK k k k (lG (aY (k) (aY (dE bZ k k) fA))))
def qZ (a0:(List Int)) (a1:Int) (a2:Int):Option Bool:=
 bif !decide ((a0.length:Int)=a1) then
 (some (true))
 else
 ((tT a2 a0).bind λv2=>
 some (!v2))
theorem aHS (a0:(List Int)) (a1:Int) (a2:Int) (r:Bool) (h:qZ a0 a1 a2=some r):HasC Tryz.prog 257 [.list 1 (a0.map eI),.ref (eI a1),.ref (eI a2)] (.bl r):=by
 exact hM [.tmp 4] Tryz.func257 Tryz.ntmps257 k<|sR<|aT k2<|sR<|am k k<|ln k4<|lr k7<|cm k4<|am k k<|mG h (λq1 h=>aM 9 k q1<|aK k4<|aK k4<|pk k3<|aT k2<|aD<|gJ h k2) λq1 h=>aM 9 k q1<|lr k7<|am k k<|oB h λv2 hv2 h=>ae (aO (aFm a2 a0 v2 hv2) k (cC k (cC k aI))) k<|ae (dD k) k<|pk k3<|aT k2<|aD<|gJ h k2
def vC (a0:Int) (a1:Int) (a2:(List (List Int))):Option Bool:=
 (kV a1 0 8).bind λv1=>
 bif v1 then
 (bif decide ((a2.length:Int)≤16) then
 ((fK a2 (λb0=>qZ b0 a1 a0)).bind λv4=>
 some (!v4))
 else
 (some (false)))
 else
 (some (false))
theorem aJI (a0:Int) (a1:Int) (a2:(List (List Int))) (r:Bool) (h:vC a0 a1 a2=some r):HasC Tryz.prog 231 [.int a0,.int a1,.list 1 (a2.map (dL 1 eI))] (.bl r):=by
 exact hM [.tmp 6] Tryz.func231 Tryz.ntmps231 k<|sR<|ae (wb k) k<|ae (wb k) k<|aT k2<|sR<|lp k8<|oB h λv1 hv1 h=>ae (aO (qG a1 0 8 v1 hv1) k (cC k (cC k (cC k aI)))) k<|am k k<|mG h (λq2 h=>aM 9 k q2<|am k k<|ln k4<|cm k4<|pk k3<|am k k<|mG h (λq3 h=>aM 14 k q3<|am k k<|ae (aFB (vs:=[.ptr 1 0 0,.ptr 0 0 0]) k (by simp)) k<|oB h λv4 hv4 h=>ae (aO (pP a2 (λb0=>qZ b0 a1 a0) k (λb0 r h=>aHS b0 a1 a0 r h) v4 hv4) k (cC k (aH (aOf (aGt (aJv k k (oJ (wO k) aFJ)) (aGt (aJv k k (oJ (wO k) aFJ)) aGs))) aI))) k<|ae (dD k) k<|pk k3<|aT k2<|aD<|gJ h k2) λq3 h=>aM 14 k q3<|aK k4<|aK k4<|pk k3<|aT k2<|aD<|gJ h k2) λq2 h=>aM 9 k q2<|aK k4<|ak k k<|pk k3<|am k k<|aK k4<|aK k4<|pk k3<|aT k2<|aD<|gJ h k2
def lK (a0:(List Int)) (a1:(List Int)):Option Bool:=
 (eZ a0 a1).bind λv1=>
 some (v1)
theorem aGV (a0:(List Int)) (a1:(List Int)) (r:Bool) (h:lK a0 a1=some r):HasC Tryz.prog 259 [.list 1 (a0.map eI),.list 1 (a1.map eI)] (.bl r):=by
 exact hM [.tmp 4] Tryz.func259 Tryz.ntmps259 k<|sR<|aT k2<|sR<|am k k<|am k k<|oB h λv1 hv1 h=>ae (aO (hJ a0 a1 v1 hv1) k (cC k (cC k aI))) k<|aT k2<|aD<|gJ h k2
def dW (a0:(List (List Int))) (a1:(List (List Int))) (a2:((List Int)→(List Int)→Option Bool)) (x1:Int):Option (Int ⊕ (Unit ⊕ Bool)):=
 bif decide (x1<(a0.length:Int)) then
 ((cJ a0 x1).bind λv3=>
 (cJ a1 x1).bind λv4=>
 (a2 v3 v4).bind λv5=>
 bif !v5 then
 (some (.inr (.inr (false))))
 else
 (some (.inl (wr (x1+1)))))
 else
 (some (.inr (.inl ())))
def eU (a0:(List (List Int))) (a1:(List (List Int))) (a2:((List Int)→(List Int)→Option Bool)):Option Bool:=
 bif !decide ((a0.length:Int)=(a1.length:Int)) then
 (some (false))
 else
 ((Lp (dW a0 a1 a2) 0).bind λy7=>
 Sum.elim (λy8=>
 some (true)
 )
 (λy9=>
 some y9
 )
 y7)
theorem uN (a0:(List (List Int))) (a1:(List (List Int))) (a2:((List Int)→(List Int)→Option Bool)) {f2:FuncId} {c2:List AV} (hc2:c2.all fE=true) (hf2: ∀ b0 b1 r,a2 b0 b1=some r→HasC Tryz.prog f2 ([.list 1 (b0.map eI),.list 1 (b1.map eI)]++c2) (.bl r)) (r:Bool) (h:eU a0 a1 a2=some r):HasC Tryz.prog 258 [.list 1 (a0.map (dL 1 eI)),.list 1 (a1.map (dL 1 eI)),.fn f2 c2] (.bl r):=by
 refine aCC aJ (rvs:=[.tmp 6]) (ns:=nmA) Tryz.func258 k k Tryz.ntmps258 k k (uX k (uX k (uX hc2 aKA)))<|sR<|aT k2<|sQ<|sR<|am k k<|ln k4<|am k k<|ln k4<|cm k4<|an<|tn<|cV k h (λ_ h=>sR<|aT k2<|aD<|aE<|gJ h k2) λ_ h=>?_;refine aG<|tn<|sQ<|sR<|am k k<|ln k4<|am k k<|an<|tn<|aC<|oB h λy7 hy7 h=>bX (body:=(dW a0 a1 a2)) hy7 (λ(x1:Int)=>mN [(1,.list 1 (a1.map (dL 1 eI))),(2,.fn f2 c2),(15,.list 1 (a0.map (dL 1 eI))),(16,.int (a0.length:Int)),(17,.int x1)] [] 0) (λr e t=>Sum.elim (λa=>(λr e t=>e= .exit 0∧Ent t (mN [] [] 0)) a e t) (λb=>(λr e t=>e= .ret∧qE TT [.tmp 6] (.bl r) .ret t) b e t) r) (bT (iU 1 k2 (gK ⟨_,k,⟨k,aAk _ hc2⟩⟩ (bJ k2))) aS k4) ?_ ?_
 ·intro x1 o h;refine sR<|cm k4<|an<|tn<|sQ<|cV k h (λ_ h=>?_) λ_ h=>aW<|aA<|aA<|sp h ⟨_,k,k,(bT aS aS k4)⟩;refine aG<|tn<|sQ<|aC<|sR<|am k k<|oB h λv3 hv3 h=>ae (xl hv3 k) k<|lr k7<|aa k k<|aT k2<|sR<|am k k<|am k k<|oB h λv4 hv4 h=>ae (xl hv4 k) k<|lr k7<|aT k2<|sR<|am k k<|am k k<|am k k<|oB h λv5 hv5 h=>ae (aIp hc2 (hf2 v3 v4 v5 hv5) k k (cC k (cC k aI))) k<|ae (dD k) k ?_;exact an<|tn<|cV k h (λ_ h=>sR<|aT k2<|aD<|bF<|aE<|aE<|sp h ⟨_,k,k,bK k k k (mM k)⟩) λ_ h=>aG<|aU<|tn<|rg<|ae (bB k k) k<|am k k<|an<|tn<|sp h ⟨_,k,(bT (iU 1 k2 (gK ⟨_,k,⟨k,aAk _ hc2⟩⟩ (bJ k2))) aS k4)⟩
 ·intro e t hX;rcases y7 with y8|y9
  ·obtain ⟨rfl,hent⟩:=hX;exact aN<|tn<|aL hent<|sR<|aT k2<|aD<|gJ h k2
  ·obtain ⟨rfl,hent⟩:=hX;exact bF<|aE<|sp h hent
def sK (a0:Sc) (a1:Sc):Option Bool:=
 bif decide (a0.size=a1.size) then
 ((eU a0.basis a1.basis (λb0 b1=>lK b0 b1)).bind λv2=>
 some (v2))
 else
 (some (false))
theorem aIF (a0:Sc) (a1:Sc) (r:Bool) (h:sK a0 a1=some r):HasC Tryz.prog 232 [.agg (eS a0),.agg (eS a1)] (.bl r):=by
 exact hM [.tmp 4] Tryz.func232 Tryz.ntmps232 k<|sR<|ae (wb k) k<|ae (wb k) k<|aT k2<|sR<|fp k8<|lp k8<|fp k8<|lp k8<|cm k4<|am k k<|mG h (λq1 h=>aM 10 k q1<|fp k8<|lp k8<|fp k8<|lp k8<|oB h λv2 hv2 h=>ae (aO (uN a0.basis a1.basis (λb0 b1=>lK b0 b1) k (λb0 b1 r h=>aGV b0 b1 r h) v2 hv2) k (cC k (cC k (aH (aOf aGs) aI)))) k<|pk k3<|aT k2<|aD<|gJ h k2) λq1 h=>aM 10 k q1<|aK k4<|aK k4<|ak k k<|pk k3<|aT k2<|aD<|gJ h k2
def aBH (a0:Int) (a1:Sc):Option Bool:=
 (lH a0).bind λv1=>
 bif !v1 then
 (some (false))
 else
 ((vC a0 a1.size a1.basis).bind λv3=>
 bif !v3 then
 (some (false))
 else
 ((aCa a0 a1.size a1.basis).bind λv5=>
 (sK v5 a1).bind λv6=>
 some (v6)))
theorem aMy (a0:Int) (a1:Sc) (r:Bool) (h:aBH a0 a1=some r):HasC Tryz.prog 197 [.int a0,.agg (eS a1)] (.bl r):=by
 exact hM [.tmp 4] Tryz.func197 Tryz.ntmps197 k<|sR<|ae (wb k) k<|aT k2<|sQ<|sR<|am k k<|oB h λv1 hv1 h=>ae (aO (rL a0 v1 hv1) k (cC k aI)) k<|ae (dD k) k<|am k k<|mG h (λq2 h=>aM 8 k q2<|aK k4<|aK k4<|aK k4<|ak k k<|pk k3<|an<|tn<|cW k k<|sR<|aT k2<|aD<|aE<|gJ h k2) λq2 h=>aM 8 k q2<|am k k<|fp k8<|lp k8<|fp k8<|lp k8<|oB h λv3 hv3 h=>ae (aO (aJI a0 a1.size a1.basis v3 hv3) k (cC k (cC k (cC k aI)))) k<|ae (dD k) k<|pk k3<|an<|tn<|cV k h (λ_ h=>sR<|aT k2<|aD<|aE<|gJ h k2) λ_ h=>aG<|tn<|sQ<|aP eG<|am k k<|fp k8<|lp k8<|fp k8<|lp k8<|oB h λv5 hv5 h=>ae (cS (aKq a0 a1.size a1.basis v5 hv5) k3 (cC k (cC k (cC k aI)))) k<|lp k8<|oB h λv6 hv6 h=>ae (aO (aIF v5 a1 v6 hv6) k (aH (vaC k2) (aH (dI k) aI))) k<|aa k k<|an<|lB (by kernel_rfl)<|tn<|aD<|gJ h k2
def oK (a0:Mt) (x1:((List Int)×Int)) (x2:((List Int)×Int)):Option (((List Int)×Int) ⊕ (List Int)):=
 bif decide (x2.2<a0.cols) then
 ((cJ a0.cells (wr ((wr (x1.2*a0.cols))+x2.2))).bind λv4=>
 (cJ x2.1 (wr ((wr (x2.2*a0.rows))+x1.2))).bind λv5=>
 some (.inl ((x2.1.set ((wr ((wr (x2.2*a0.rows))+x1.2)).toNat) v4),wr (x2.2+1))))
 else
 (some (.inr x2.1))
def oN (a0:Mt) (x1:((List Int)×Int)):Option (((List Int)×Int) ⊕ (List Int)):=
 bif decide (x1.2<a0.rows) then
 ((Lp (oK a0 x1) (x1.1,0)).bind λy6=>
 some (.inl (y6,wr (x1.2+1))))
 else
 (some (.inr x1.1))
def sO (a0:Mt):Option Mt:=
 (jI a0.cols a0.rows).bind λv1=>
 (Lp (oN a0) (v1.cells,0)).bind λy7=>
 some ((⟨v1.rows,v1.cols,y7⟩:Mt))
theorem aIG (a0:Mt) (r:Mt) (h:sO a0=some r):HasC Tryz.prog 156 [.agg (eM a0)] (.agg (eM r)):=by
 refine hM [.cell 2 113] Tryz.func156 Tryz.ntmps156 k<|sR<|ae (wb k) k<|ae (bP aJ k k) k<|an<|tn<|sR<|fp k8<|lp k8<|fp k8<|lp k8<|oB h λv1 hv1 h=>ae (cM (yH a0.cols a0.rows v1 hv1) k3 (cC k (cC k aI))) k<|ae (bP aJ k k) k<|ae (ws k) k<|an<|tn<|sQ<|sR<|aT k2<|aC<|oB h λy7 hy7 h=>bX (body:=(oN a0)) hy7 (λ(x1:((List Int)×Int))=>mN [(1,.ptr 0 0 0),(2,.ptr 1 0 0),(3,.ptr 2 0 0),(4,.int x1.2)] [(0,⟨3,[eM a0]⟩),(1,⟨3,[fB]⟩),(2,⟨3,[[.int v1.rows,.int v1.cols,.own 3 0 x1.1.length]]⟩),(3,⟨1,x1.1.map (ow eI)⟩)] 4) (λr e t=>e= .exit 0∧Ent t (mN [(2,.ptr 0 0 0),(3,.ptr 1 0 0)] [(0,⟨3,[fB]⟩),(1,⟨3,[[.int v1.rows,.int v1.cols,.own 2 0 r.length]]⟩),(2,⟨1,r.map (ow eI)⟩)] 3)) (kC [0,1,3,2] (bJ k2) (bA k<|bA k<|cP k<|bG k<|aS) k4) ?_ ?_
 ·intro x1 o h;refine sQ<|sR<|am k k<|fp k8<|lp k8<|cm k4<|an<|tn<|cV k h (λ_ h=>?_) λ_ h=>aW<|aA<|aA<|sp h ⟨_,k,k,(kC [1,2,3] (bJ k2) (bA k<|cP k<|bG k<|aS) k4)⟩;refine aG<|tn<|sQ<|aC<|sR<|aT k2<|aC<|oB h λy6 hy6 h=>bX (body:=(oK a0 x1)) hy6 (λ(x2:((List Int)×Int))=>mN [(1,.ptr 0 0 0),(2,.ptr 1 0 0),(3,.ptr 2 0 0),(4,.int x1.2),(5,.int x2.2)] [(0,⟨3,[eM a0]⟩),(1,⟨3,[fB]⟩),(2,⟨3,[[.int v1.rows,.int v1.cols,.own 3 0 x2.1.length]]⟩),(3,⟨1,x2.1.map (ow eI)⟩)] 4) (λr e t=>e= .exit 2∧Ent t (mN [(1,.ptr 0 0 0),(2,.ptr 1 0 0),(3,.ptr 2 0 0),(4,.int x1.2)] [(0,⟨3,[eM a0]⟩),(1,⟨3,[fB]⟩),(2,⟨3,[[.int v1.rows,.int v1.cols,.own 3 0 r.length]]⟩),(3,⟨1,r.map (ow eI)⟩)] 4)) (bT (bJ k2) (bA k<|bA k<|cP k<|bG k<|aS) k4) ?_ ?_
  ·intro x2 o h;refine sQ<|sR<|am k k<|fp k8<|lp k8<|cm k4<|an<|tn<|cV k h (λ_ h=>?_) λ_ h=>aW<|aA<|aA<|sp h ⟨_,k,k,(bT (bJ k2) (bA k<|bA k<|cP k<|bG k<|aS) k4)⟩;refine aG<|tn<|sQ<|aC<|aP eG<|fp k8<|lp k8<|am k k<|fp k8<|lp k8<|ae (fC k k) k<|am k k<|ae (bB k k) k<|fp k8<|lp k8<|am k k<|fp k8<|lp k8<|ae (fC k k) k<|am k k<|ae (bB k k) k<|oB h λv4 hv4 h=>ae (xl hv4 k) k<|lr k7<|oB h λv5 hv5 h=>ae (xo hv5 k) k<|ae (fG aJ jG (u:=v4) (dB hv5) k k k k k k) k<|an<|lB (by kernel_rfl)<|aU<|tn ?_;exact aL (t:=mN [(1,.ptr 0 0 0),(2,.ptr 1 0 0),(3,.ptr 2 0 0),(4,.int x1.2),(5,.int x2.2)] [(0,⟨3,[eM a0]⟩),(1,⟨3,[fB]⟩),(2,⟨3,[[.int v1.rows,.int v1.cols,.own 3 0 ((x2.1.set ((wr ((wr (x2.2*a0.rows))+x1.2)).toNat) v4).length)]]⟩),(3,⟨1,List.map (ow eI) (x2.1.set ((wr ((wr (x2.2*a0.rows))+x1.2)).toNat) v4)⟩)] 4) (bT (bJ k2) (bA k<|bA k<|hX ⟨_,k,k,.inr ⟨_,_,k,⟨_,_,k,k,⟨_,_,k,k,⟨_,_,k,⟨k,k,(by simp only [aQ,lA,lT,lR,lC,lN]),k⟩,k⟩⟩⟩,k⟩⟩ k<|bG k<|aS) k4)<|rg<|am k k<|ae (bB k k) k<|aT k2<|sp h ⟨_,k,(bT (bJ k2) (bA k<|bA k<|cP k<|bG k<|aS) k4)⟩
  ·rintro e t ⟨rfl,hent⟩;exact aN<|aU<|tn<|aL hent<|rg<|am k k<|ae (bB k k) k<|aT k2<|sp h ⟨_,k,(bT (bJ k2) (bA k<|bA k<|cP k<|bG k<|aS) k4)⟩
 ·rintro e t ⟨rfl,hent⟩;exact aN<|tn<|aL hent<|sR<|lp k8<|ae (ws k) k<|an<|tn<|aD<|sp h (bK k k k (lG (aY (k) (aY (k) (aY (dE cX k k) fA)))))
def nL (a0:Int) (a1:Int) (a2:(List (List Int))) (x1:Int):Option (Int ⊕ (Unit ⊕ Bool)):=
 bif decide (x1<(a2.length:Int)) then
 ((cJ a2 x1).bind λv2=>
 bif !decide ((v2.length:Int)=a1) then
 (some (.inr (.inr (false))))
 else
 ((cJ a2 x1).bind λv4=>
 (jX a0 v4).bind λv5=>
 bif !v5 then
 (some (.inr (.inr (false))))
 else
 (some (.inl (wr (x1+1))))))
 else
 (some (.inr (.inl ())))
def uF (a0:Int) (a1:Int) (a2:(List (List Int))):Option Bool:=
 (Lp (nL a0 a1 a2) 0).bind λy7=>
 Sum.elim (λy8=>
 (gO a0).bind λv9=>
 bif v9 then
 ((fV a1 0 8).bind λv11=>
 bif v11 then
 (some (decide ((a2.length:Int)≤16)))
 else
 (some (false)))
 else
 (some (false))
 )
 (λy13=>
 some y13
 )
 y7
theorem aNz (a0:Int) (a1:Int) (a2:(List (List Int))) (r:Bool) (h:uF a0 a1 a2=some r):HasC Tryz.prog 180 [.int a0,.int a1,.list 1 (a2.map (dL 1 eI))] (.bl r):=by
 refine hM [.tmp 6] Tryz.func180 Tryz.ntmps180 k<|sR<|aT k2<|sQ<|sR<|aT k2<|aC<|oB h λy7 hy7 h=>bX (body:=(nL a0 a1 a2)) hy7 (λ(x1:Int)=>mN [(0,.int a0),(1,.int a1),(2,.list 1 (a2.map (dL 1 eI))),(7,.int x1)] [] 0) (λr e t=>Sum.elim (λa=>(λr e t=>e= .exit 0∧Ent t (mN [(0,.int a0),(1,.int a1),(2,.list 1 (a2.map (dL 1 eI)))] [] 0)) a e t) (λb=>(λr e t=>e= .ret∧qE TT [.tmp 6] (.bl r) .ret t) b e t) r) (bT (bJ k2) aS k4) ?_ ?_
 ·intro x1 o h;exact sQ<|sR<|am k k<|am k k<|ln k4<|cm k4<|an<|tn<|cV k h (λ_ h=>aG<|tn<|sQ<|aC<|sR<|am k k<|am k k<|oB h λv2 hv2 h=>ae (xl hv2 k) k<|lr k7<|ln k4<|am k k<|cm k4<|am k k<|mG h (λq3 h=>aM 21 k q3<|aK k4<|aK k4<|aK k4<|ak k k<|pk k3<|an<|tn<|cW k k<|sR<|aT k2<|aD<|bF<|aE<|aE<|sp h ⟨_,k,k,bK k k k (mM k)⟩) λq3 h=>aM 21 k q3<|am k k<|am k k<|am k k<|oB h λv4 hv4 h=>ae (xl hv4 k) k<|lr k7<|oB h λv5 hv5 h=>ae (aO (aCj a0 v4 v5 hv5) k (cC k (cC k aI))) k<|ae (dD k) k<|pk k3<|an<|tn<|cV k h (λ_ h=>sR<|aT k2<|aD<|bF<|aE<|aE<|sp h ⟨_,k,k,bK k k k (mM k)⟩) λ_ h=>aG<|aU<|tn<|rg<|am k k<|ae (bB k k) k<|aT k2<|sp h ⟨_,k,(bT (bJ k2) aS k4)⟩) λ_ h=>aW<|aA<|aA<|sp h ⟨_,k,k,(bT (bJ k2) aS k4)⟩
 ·intro e t hX;rcases y7 with y8|y13
  ·obtain ⟨rfl,hent⟩:=hX;exact aN<|tn<|aL hent<|sR<|am k k<|oB h λv9 hv9 h=>ae (aO (rK a0 v9 hv9) k (cC k aI)) k<|am k k<|mG h (λq10 h=>aM 32 k q10<|am k k<|oB h λv11 hv11 h=>ae (aO (jW a1 0 8 v11 hv11) k (cC k (cC k (cC k aI)))) k<|pk k3<|am k k<|mG h (λq12 h=>aM 36 k q12<|am k k<|ln k4<|cm k4<|pk k3<|aT k2<|aD<|gJ h k2) λq12 h=>aM 36 k q12<|aK k4<|ak k k<|pk k3<|aT k2<|aD<|gJ h k2) λq10 h=>aM 32 k q10<|aK k4<|pk k3<|am k k<|aK k4<|ak k k<|pk k3<|aT k2<|aD<|gJ h k2
  ·obtain ⟨rfl,hent⟩:=hX;exact bF<|aE<|sp h hent
def nM (a0:(List (List Int))) (a1:(List (List Int))) (x1:Int) (x2:Int):Option (Int ⊕ (Unit ⊕ Bool)):=
 (cJ a0 x1).bind λv6=>
 bif decide (x2<(v6.length:Int)) then
 ((cJ a0 x1).bind λv8=>
 (cJ v8 x2).bind λv9=>
 (cJ a1 x1).bind λv10=>
 (cJ v10 x2).bind λv11=>
 bif !decide (v9=v11) then
 (some (.inr (.inr (false))))
 else
 (some (.inl (wr (x2+1)))))
 else
 (some (.inr (.inl ())))
def nN (a0:(List (List Int))) (a1:(List (List Int))) (x1:Int):Option (Int ⊕ (Unit ⊕ Bool)):=
 bif decide (x1<(a0.length:Int)) then
 ((cJ a0 x1).bind λv3=>
 (cJ a1 x1).bind λv4=>
 bif !decide ((v3.length:Int)=(v4.length:Int)) then
 (some (.inr (.inr (false))))
 else
 ((Lp (nM a0 a1 x1) 0).bind λy13=>
 Sum.elim (λy14=>
 some (.inl (wr (x1+1)))
 )
 (λy15=>
 some (.inr (.inr y15))
 )
 y13))
 else
 (some (.inr (.inl ())))
def uG (a0:(List (List Int))) (a1:(List (List Int))):Option Bool:=
 bif !decide ((a0.length:Int)=(a1.length:Int)) then
 (some (false))
 else
 ((Lp (nN a0 a1) 0).bind λy16=>
 Sum.elim (λy17=>
 some (true)
 )
 (λy18=>
 some y18
 )
 y16)
theorem aOA (a0:(List (List Int))) (a1:(List (List Int))) (r:Bool) (h:uG a0 a1=some r):HasC Tryz.prog 181 [.list 1 (a0.map (dL 1 eI)),.list 1 (a1.map (dL 1 eI))] (.bl r):=by
 refine hM [.tmp 4] Tryz.func181 Tryz.ntmps181 k<|sR<|aT k2<|sQ<|sR<|am k k<|ln k4<|am k k<|ln k4<|cm k4<|an<|tn<|cV k h (λ_ h=>sR<|aT k2<|aD<|aE<|gJ h k2) λ_ h=>?_;refine aG<|tn<|sQ<|sR<|aT k2<|aC<|oB h λy16 hy16 h=>bX (body:=(nN a0 a1)) hy16 (λ(x1:Int)=>mN [(0,.list 1 (a0.map (dL 1 eI))),(1,.list 1 (a1.map (dL 1 eI))),(5,.int x1)] [] 0) (λr e t=>Sum.elim (λa=>(λr e t=>e= .exit 0∧Ent t (mN [] [] 0)) a e t) (λb=>(λr e t=>e= .ret∧qE TT [.tmp 4] (.bl r) .ret t) b e t) r) (bT (bJ k2) aS k4) ?_ ?_
 ·intro x1 o h;refine sQ<|sR<|am k k<|am k k<|ln k4<|cm k4<|an<|tn<|cV k h (λ_ h=>?_) λ_ h=>aW<|aA<|aA<|sp h ⟨_,k,k,(bT aS aS k4)⟩;refine aG<|tn<|sQ<|aC<|sQ<|sQ<|aP eG<|am k k<|am k k<|oB h λv3 hv3 h=>ae (xl hv3 k) k<|lr k7<|ln k4<|am k k<|am k k<|oB h λv4 hv4 h=>ae (xl hv4 k) k<|lr k7<|ln k4<|cm k4<|an<|lB (by kernel_rfl)<|tn<|cV k h (λ_ h=>sR<|aT k2<|aD<|aE<|bF<|aE<|aE<|sp h ⟨_,k,k,bK k k k (mM k)⟩) λ_ h=>?_;refine aG<|tn<|sR<|aT k2<|aC<|oB h λy13 hy13 h=>bX (body:=(nM a0 a1 x1)) hy13 (λ(x2:Int)=>mN [(0,.list 1 (a0.map (dL 1 eI))),(1,.list 1 (a1.map (dL 1 eI))),(5,.int x1),(6,.int x2)] [] 0) (λr e t=>Sum.elim (λa=>(λr e t=>e= .exit 2∧Ent t (mN [(0,.list 1 (a0.map (dL 1 eI))),(1,.list 1 (a1.map (dL 1 eI))),(5,.int x1)] [] 0)) a e t) (λb=>(λr e t=>e= .ret∧qE TT [.tmp 4] (.bl r) .ret t) b e t) r) (bT (bJ k2) aS k4) ?_ ?_
  ·intro x2 o h;exact sQ<|sR<|am k k<|am k k<|am k k<|oB h λv6 hv6 h=>ae (xl hv6 k) k<|lr k7<|ln k4<|cm k4<|an<|tn<|cV k h (λ_ h=>aG<|tn<|sQ<|aC<|sQ<|aP eG<|am k k<|am k k<|oB h λv8 hv8 h=>ae (xl hv8 k) k<|lr k7<|am k k<|oB h λv9 hv9 h=>ae (xl hv9 k) k<|lr k7<|am k k<|am k k<|oB h λv10 hv10 h=>ae (xl hv10 k) k<|lr k7<|am k k<|oB h λv11 hv11 h=>ae (xl hv11 k) k<|lr k7<|cm k4<|an<|lB (by kernel_rfl)<|tn<|cV k h (λ_ h=>sR<|aT k2<|aD<|bF<|aE<|aE<|sp h ⟨_,k,k,bK k k k (mM k)⟩) λ_ h=>aG<|aU<|tn<|rg<|am k k<|ae (bB k k) k<|aT k2<|sp h ⟨_,k,(bT (bJ k2) aS k4)⟩) λ_ h=>aW<|aA<|aA<|sp h ⟨_,k,k,(bT (bJ k2) aS k4)⟩
  ·intro e t hX;rcases y13 with y14|y15
   ·obtain ⟨rfl,hent⟩:=hX;exact aN<|aU<|tn<|aL hent<|rg<|am k k<|ae (bB k k) k<|aT k2<|sp h ⟨_,k,(bT (bJ k2) aS k4)⟩
   ·obtain ⟨rfl,hent⟩:=hX;exact bF<|bF<|aE<|aE<|sp h ⟨_,k,k,hent⟩
 ·intro e t hX;rcases y16 with y17|y18
  ·obtain ⟨rfl,hent⟩:=hX;exact aN<|tn<|aL hent<|sR<|aT k2<|aD<|gJ h k2
  ·obtain ⟨rfl,hent⟩:=hX;exact bF<|aE<|sp h hent
def iQ (a0:Int) (a1:Sc):Option Bool:=
 (uF a0 a1.size a1.basis).bind λv1=>
 bif !v1 then
 (some (false))
 else
 ((nJ a1.size a1.basis).bind λv3=>
 (nY a0 v3).bind λv4=>
 (uG v4 a1.basis).bind λv5=>
 some (v5))
theorem wA (a0:Int) (a1:Sc) (r:Bool) (h:iQ a0 a1=some r):HasC Tryz.prog 135 [.int a0,.agg (eS a1)] (.bl r):=by
 exact hM [.tmp 4] Tryz.func135 Tryz.ntmps135 k<|sR<|ae (wb k) k<|aT k2<|sQ<|sR<|am k k<|fp k8<|lp k8<|fp k8<|lp k8<|oB h λv1 hv1 h=>ae (aO (aNz a0 a1.size a1.basis v1 hv1) k (cC k (cC k (cC k aI)))) k<|ae (dD k) k<|an<|tn<|cV k h (λ_ h=>sR<|aT k2<|aD<|aE<|gJ h k2) λ_ h=>aG<|tn<|sQ<|aP eG<|am k k<|fp k8<|lp k8<|fp k8<|lp k8<|oB h λv3 hv3 h=>ae (cM (aEV a1.size a1.basis v3 hv3) k3 (cC k (cC k aI))) k<|oB h λv4 hv4 h=>ae (cL bZ (aGU a0 v3 v4 hv4) k3 (cC k (aH (vaM k2) aI))) k<|fp k8<|lp k8<|oB h λv5 hv5 h=>ae (aO (aOA v4 a1.basis v5 hv5) k (aH (aCi bZ k k) (cC k aI))) k<|aa k k<|an<|lB (by kernel_rfl)<|tn<|aD<|gJ h k2
def aCL (a0:Qv):Option Qv:=
 bif decide (([]:(List Int)).length +a0.src.length≤4294967296) then
 (bif decide (([]:(List Int)).length +a0.tgt.length≤4294967296) then
 (some ((⟨a0.n,(([]:(List Int))++a0.src),(([]:(List Int))++a0.tgt)⟩:Qv)))
 else none)
 else none
theorem aOB (a0:Qv) (r:Qv) (h:aCL a0=some r):HasC Tryz.prog 113 [.agg (eQ a0)] (.agg (eQ r)):=by
 exact hM [.cell 2 29] Tryz.func113 Tryz.ntmps113 k<|sR<|ae (wb k) k<|ae (bP aJ k k) k<|an<|tn<|sQ<|aP eG<|fp k8<|lp k8<|ae (wl k) k<|fp k8<|lp k8<|cG h λq1 h=>ae (mP aJ (l:=([]:(List Int))) (m:=a0.src) jG q1 k k k k k k k k k k k k) k<|ae (wl k) k<|fp k8<|lp k8<|cG h λq2 h=>ae (mP aJ (l:=([]:(List Int))) (m:=a0.tgt) jG q2 k k k k k k k k k k k k) k<|ae (hO aJ k k k k k k) k<|ae (ws k) k<|an<|lB (by kernel_rfl)<|tn<|aD<|sp h (bK k k k (lG (aY (k) (aY (dE cX k k) (aY (dE cX k k) fA)))))
def xD (a1:Qv) (a2:(List Int)) (x1:((List Mt)×Int)):Option (((List Mt)×Int) ⊕ (List Mt)):=
 bif decide (x1.2<(a1.src.length:Int)) then
 ((cJ a1.tgt x1.2).bind λv4=>
 (cJ a2 v4).bind λv5=>
 (cJ a1.src x1.2).bind λv6=>
 (cJ a2 v6).bind λv7=>
 (jI v5 v7).bind λv8=>
 bif decide (x1.1.length+1≤4294967296) then
 (some (.inl ((x1.1++[v8]),wr (x1.2+1))))
 else none)
 else
 (some (.inr x1.1))
def yK (a0:Int) (a1:Qv) (a2:(List Int)):Option Rp:=
 (aCL a1).bind λv1=>
 bif decide (([]:(List Int)).length +a2.length≤4294967296) then
 ((Lp (xD a1 a2) (([]:(List Mt)),0)).bind λy10=>
 some ((⟨a0,v1,(([]:(List Int))++a2),y10⟩:Rp)))
 else none
theorem aHk (a0:Int) (a1:Qv) (a2:(List Int)) (r:Rp) (h:yK a0 a1 a2=some r):HasC Tryz.prog 144 [.int a0,.agg (eQ a1),.list 1 (a2.map eI)] (.agg (eR r)):=by
 refine hM [.cell 6 32] Tryz.func144 Tryz.ntmps144 k<|sR<|ae (wb k) k<|ae (bP aJ k k) k<|an<|tn<|sR<|am k k<|lp k8<|oB h λv1 hv1 h=>ae (cQ (aOB a1 v1 hv1) k3 (aH (dI k) aI)) k<|ae (wl k) k<|am k k<|cG h λq2 h=>ae (mP aJ (l:=([]:(List Int))) (m:=a2) jG q2 k k k k k k k k k k k k) k<|ae (wl k) k<|ae (hO aJ k k k k k k) k<|ae (bP aJ k k) k<|ae (ws k) k<|an<|tn<|aL (t:=mN [(2,.list 1 (a2.map eI)),(4,.ptr 0 0 0),(6,.ptr 1 0 0),(7,.ptr 7 0 0)] [(0,⟨3,[eQ a1]⟩),(1,⟨6,[iR]⟩),(2,⟨1,v1.src.map (ow eI)⟩),(3,⟨1,v1.tgt.map (ow eI)⟩),(5,⟨1,List.map (ow eI) (([]:(List Int))++a2)⟩),(6,⟨3,List.map (ow eM) ([]:(List Mt))⟩),(7,⟨6,[[.int a0,.int v1.n,.own 2 0 v1.src.length,.own 3 0 v1.tgt.length,.own 5 0 ((([]:(List Int))++a2).length),.own 6 0 (([]:(List Mt)).length)]]⟩)] 8) (bT (bJ k2) (bA k<|bA k<|bG k<|bG k<|bG k<|cE (bU.plainO _) k<|hX ⟨_,k,k,.inr ⟨_,_,k,⟨_,_,k,k,⟨_,_,k,k,⟨_,_,k,⟨k,k,k,k⟩,⟨_,_,k,⟨k,k,k,k⟩,⟨_,_,k,⟨k,k,k,k⟩,⟨_,_,k,⟨k,k,(by simp only [aQ,lA,lT,lR,lC,lN]),k⟩,k⟩⟩⟩⟩⟩⟩,k⟩⟩ k<|aS) k4)<|sQ<|sR<|aT k2<|aC<|oB h λy10 hy10 h=>bX (body:=(xD a1 a2)) hy10 (λ(x1:((List Mt)×Int))=>mN [(2,.list 1 (a2.map eI)),(4,.ptr 0 0 0),(6,.ptr 1 0 0),(7,.ptr 2 0 0),(8,.int x1.2)] [(0,⟨3,[eQ a1]⟩),(1,⟨6,[iR]⟩),(2,⟨6,[[.int a0,.int v1.n,.own 3 0 v1.src.length,.own 4 0 v1.tgt.length,.own 5 0 ((([]:(List Int))++a2).length),.own 6 0 x1.1.length]]⟩),(3,⟨1,v1.src.map (ow eI)⟩),(4,⟨1,v1.tgt.map (ow eI)⟩),(5,⟨1,List.map (ow eI) (([]:(List Int))++a2)⟩),(6,⟨3,x1.1.map (ow eM)⟩)] 7) (λr e t=>e= .exit 0∧Ent t (mN [(6,.ptr 0 0 0),(7,.ptr 1 0 0)] [(0,⟨6,[iR]⟩),(1,⟨6,[[.int a0,.int v1.n,.own 2 0 v1.src.length,.own 3 0 v1.tgt.length,.own 4 0 ((([]:(List Int))++a2).length),.own 5 0 r.length]]⟩),(2,⟨1,v1.src.map (ow eI)⟩),(3,⟨1,v1.tgt.map (ow eI)⟩),(4,⟨1,List.map (ow eI) (([]:(List Int))++a2)⟩),(5,⟨3,r.map (ow eM)⟩)] 6)) (kC [0,1,7,2,3,5,6] (bJ k2) (bA k<|bA k<|cP k<|bG k<|bG k<|bG k<|cE (bU.plainO _) k<|aS) k4) ?_ ?_
 ·intro x1 o h;refine sQ<|sR<|am k k<|fp k8<|lp k8<|ln k4<|cm k4<|an<|tn<|cV k h (λ_ h=>?_) λ_ h=>aW<|aA<|aA<|sp h ⟨_,k,k,(kC [1,2,3,4,5,6] (bJ k2) (bA k<|cP k<|bG k<|bG k<|bG k<|cE (bU.plainO _) k<|aS) k4)⟩;refine aG<|tn<|sQ<|aC<|aP eG<|fp k8<|lp k8<|am k k<|fp k8<|lp k8<|am k k<|oB h λv4 hv4 h=>ae (xl hv4 k) k<|lr k7<|oB h λv5 hv5 h=>ae (xl hv5 k) k<|lr k7<|am k k<|fp k8<|lp k8<|am k k<|oB h λv6 hv6 h=>ae (xl hv6 k) k<|lr k7<|oB h λv7 hv7 h=>ae (xl hv7 k) k<|lr k7<|oB h λv8 hv8 h=>ae (cM (yH v5 v7 v8 hv8) k3 (cC k (cC k aI))) k<|ae (wl k) k<|cG h λq9 h=>ae (iE aJ (l:=x1.1) (c:=[.int v8.rows,.int v8.cols,.own 7 0 v8.cells.length]) q9 k k k k k k k k k k k k k k) k<|fp k8<|ae (ws k) k<|an ?_;exact lB (by kernel_rfl)<|aU<|tn<|aL (t:=mN [(2,.list 1 (a2.map eI)),(4,.ptr 0 0 0),(6,.ptr 1 0 0),(7,.ptr 2 0 0),(8,.int x1.2)] [(0,⟨3,[eQ a1]⟩),(1,⟨6,[iR]⟩),(2,⟨6,[[.int a0,.int v1.n,.own 3 0 v1.src.length,.own 4 0 v1.tgt.length,.own 5 0 ((([]:(List Int))++a2).length),.own 9 0 ((x1.1++[v8]).length)]]⟩),(3,⟨1,v1.src.map (ow eI)⟩),(4,⟨1,v1.tgt.map (ow eI)⟩),(5,⟨1,List.map (ow eI) (([]:(List Int))++a2)⟩),(9,⟨3,List.map (ow eM) (x1.1++[v8])⟩)] 10) (Ent.trans (fH (b:=9) (b':=7) (j:=2) (es':=v8.cells.map eI) k k k k (aQ _ _) (cX.frzs _)) (bT (bJ k2) (bA k<|bA k<|hX ⟨_,k,k,.inr ⟨_,_,k,⟨_,_,k,k,⟨_,_,k,k,⟨_,_,k,⟨k,k,k,k⟩,⟨_,_,k,⟨k,k,k,k⟩,⟨_,_,k,⟨k,k,k,k⟩,⟨_,_,k,⟨k,k,(by simp only [aQ,lA,lT,lR,lC,lN]),k⟩,k⟩⟩⟩⟩⟩⟩,k⟩⟩ k<|bG k<|bG k<|bG k<|hX ⟨_,k,k,.inl ⟨jH v8 k,bU.plainO _⟩⟩ k<|aS) k4))<|rg<|am k k<|ae (bB k k) k<|aT k2<|sp h ⟨_,k,(kC [0,1,2,3,4,5,9] (bJ k2) (bA k<|bA k<|cP k<|bG k<|bG k<|bG k<|cE (bU.plainO _) k<|aS) k4)⟩
 ·rintro e t ⟨rfl,hent⟩;exact aN<|tn<|aL hent<|sR<|lp k8<|ae (ws k) k<|an<|tn<|aD<|sp h (bK k k k (lG (aY (k) (aY (k) (aY (dE cX k k) (aY (dE cX k k) (aY (dE cX k k) (aY (dE bU k k) fA))))))))
end
noncomputable section
theorem aUD {l:List (List Int)} {n:Nat} (h: ∀ v∈l,v.length=n):l=(List.range l.length).map λi=>eP n (cO l i):=by
 refine List.ext_getElem (by simp) λi h1 h2=>?_;simp only [List.getElem_map,List.getElem_range];refine List.ext_getElem (by rw [dM];exact h _ (List.getElem_mem h1)) λj h3 h4=>?_;simp [eP,cO,h1,h3]
theorem aPB {l:List (List Int)} {n:Nat} (h: ∀ v∈l,v.length=n):l.flatten=cD l.length n (cO l):=by
 have e:l.flatten=((List.range l.length).map λi=>eP n (cO l i)).flatten:=by rw [←aUD h]
 rw [e,aJH]
theorem aQA {p:Int} (hp:mU p=true) {n:Nat} {l:List (List Int)} (hn:n≤1024) (hl:l.length≤512) (h:VecsP p n l):Tb p l.length n (cO l):=by
 refine ⟨hp,?_,by omega,by omega,h.inP⟩;have:=Nat.mul_le_mul hl hn;omega
theorem aRV {r c i:Nat} (hN:r*c≤1048576) (hr:r≤1048576) (hi:i<r) (F:Nat→Nat→Int):((cD r c F).drop (0+(i*c))).take ((i*c+c) - i*c)=eP c (F i):=by
 have h:= @aMp r c i hi;rw [Nat.succ_mul] at h;refine List.ext_getElem (by simp [eN,dM];omega) λt h1 h2=>?_;rw [dM] at h2;rw [List.getElem_take,List.getElem_drop];simp [cD,eP,aDZ h2,aDa h2]
theorem aHl (F:Nat→Nat→Int) (r n:Nat):iP F r n=(List.range r).map λi=>eP n (F i):=rfl
theorem aHm (F:Nat→Nat→Int) (r n:Nat):iP F r n++[eP n (F r)]=iP F (r+1) n:=by
 rw [aHl,aHl,List.range_succ,List.map_append];rfl
theorem aSz {n:Nat} {l:List (List Int)} (hn:n≤1024) (hl:l.length≤512) (h: ∀ v∈l,v.length=n):zN n l=some ⟨l.length,n,cD l.length n (cO l)⟩:=by
 unfold zN;rw [aWj hl (λv hv=>by rw [h v hv];exact hn),aB,aPB h]
theorem aMz {p:Int} (hp:mU p=true) {n:Nat} {l:List (List Int)} (hn:n≤1024) (hl:l.length≤512) (h:VecsP p n l):aCa p n l=some ⟨n,iK p n l⟩:=by
 have T:=aQA hp hn hl h;have hL:= @uA p l.length (cO l) n;have h1:=T.hN;unfold aCa;rw [aSz hn hl (λv hv=>(h v hv).1),aB,aFR T,aB];rw [cZ (r:=iK p n l) (λk=>(iP (cI p l.length (cO l) n).1 k n,(k:Int))) (cI p l.length (cO l) n).2.length (by simp [iP]) (λk hk=>?_) (λ_=>?_),aB]
 ·have hkl:k<l.length:=by omega
  have h3:= @aMp l.length n k hkl;rw [Nat.succ_mul] at h3;unfold aBG;simp only;rw [fD,iO hk,aR,aKp T.hN T.hm hkl,aB,xX T.hN hkl,aBD T.hN T.hm hkl];simp only [eX];rw [aRV T.hN T.hm hkl];unfold mW;rw [dM,bH (by omega),aR,aB,wP,bH (by omega),aR,aHm,cA hk (by omega)]
 ·unfold aBG;simp only;rw [fD,jU (bN _),aZ];rfl
theorem aNA {n:Nat} {l:List (List Int)} (hn:n≤1024) (hl:l.length≤512) (h: ∀ v∈l,v.length=n):nJ n l=some ⟨l.length,n,cD l.length n (cO l)⟩:=by
 have hb: ∀ k,(l.take k).flatten.length ≤1024*512:=λk=>by
  have:=aPA (l:=l.take k) λx hx=>by rw [h x (List.mem_of_mem_take hx)];exact hn
  have h2:(l.take k).length ≤512:=by simp;omega
  omega
 unfold nJ;rw [cZ (r:=l.flatten) (λk=>((l.take k).flatten,(k:Int))) l.length (by simp) (λk hk=>?_) (λ_=>?_),aB,aPB h]
 ·unfold rP;simp only;have e2:=hb (k+1);rw [aDU hk,List.length_append] at e2;rw [iO hk,aR,dS hk,aB,bH (by omega),aR,cA hk (by omega),aDU hk]
 ·unfold rP;simp only;rw [jU (bN _),aZ,List.take_length]
theorem aPC {p:Int} {m n:Nat} {F:Nat→Nat→Int} (T:Tb p m n F):nY p ⟨m,n,cD m n F⟩=some (iP (cI p m F n).1 (cI p m F n).2.length n):=by
 have hL:= @uA p m F n;have hm:=T.hm;have hn:=T.hn;unfold nY;rw [aFS T,aB];rw [cZ (r:=iP (cI p m F n).1 (cI p m F n).2.length n) (λk=>(iP (cI p m F n).1 k n,(k:Int))) (cI p m F n).2.length (by simp [iP]) (λk hk=>?_) (λ_=>?_),aB]
 ·have hkl:k<m:=by omega
  have h3:= @aMp m n k hkl;rw [Nat.succ_mul] at h3;have h4:=T.hN;have e:wr (wr ((k:Int)*(n:Int))+(n:Int))=((k*n+n:Nat):Int):=by rw [xX T.hN hkl,eY (by omega)];omega
  unfold pW;simp only;rw [fD,iO hk,aR,e,xX T.hN hkl,eN,bH (by omega),bH (by omega:((k*n:Nat):Int)≤((k*n+n:Nat):Int)),bH (by omega:((k*n+n:Nat):Int)≤((m*n:Nat):Int))];simp only [eX,Bool.and_self,aR,aRV T.hN T.hm hkl];rw [dM,bH (by simp;omega),aR,wP,bH (by omega),aR,List.nil_append,aHm,cA hk (by omega)]
 ·unfold pW;simp only;rw [fD,jU (bN _),aZ]
theorem aRW {p:Int} (hp:mU p=true) {n:Nat} {l:List (List Int)} (hn:n≤1024) (hl:l.length≤512) (h:VecsP p n l):yJ p n l=some ⟨n,iK p n l⟩:=by
 unfold yJ;rw [aNA hn hl (λv hv=>(h v hv).1),aB,aPC (aQA hp hn hl h),aB];rfl
def bLs (l:List (List Int)):Prop:=l.length≤1048576∧ ∀ v∈l,bI v
theorem aTA (p:Int) (v:List Int):(mU p&&decide (v.length≤64)&&v.all λx=>inR x 0 (wr (p - 1)))=aGD p v:=by
 unfold aGD;cases h:mU p with
 |false=>rfl
 |true=>rw [eY (by have:=fF h;omega)]
theorem aYO {α:Type} {l:List α} {P Q:α→Bool} (h: ∀ x∈l,P x=Q x):l.all P=l.all Q:=by
 induction l with
 |nil=>rfl
 |cons x l ih=>rw [List.all_cons,List.all_cons,h x (by simp),ih λy hy=>h y (by simp [hy])]
theorem aLs (p size:Int) (l:List (List Int)):aIo p size l=(mU p&&inR size 0 8&&decide (l.length≤16)&&l.all λv=>decide ((v.length:Int)=size)&&aGD p v):=rfl
theorem aJJ {l:List (List Int)} {f:List Int→Option Bool} (P:List Int→Bool) (hf: ∀ x∈l,f x=some (P x)) (h:l.length≤1048576):fK l f=some (l.any P):=by
 unfold fK lJ;rw [aAi (s0:=0) (s:=0) (n:=l.length) (λk=>bif P (l[k]?.getD []) then some (k:Int) else none) rfl (by omega) (Nat.zero_le _) (λk _ hk=>?_) (λ_=>?_)]
 ·rw [aB];cases e:(List.range' 0 (l.length - 0)).findSome? (λk:Nat=>bif P (l[k]?.getD []) then some (k:Int) else none) with
  |none=>
   rw [List.findSome?_eq_none_iff] at e
   have:l.any P=false:=by
    rw [List.any_eq_false];intro x hx;obtain ⟨k,hk,rfl⟩:=List.mem_iff_getElem.1 hx;have:=e k (by simp;omega);simp only [gI hk,iA] at this;cases hp:P l[k] with
    |false=>simp
    |true=>rw [hp] at this;cases this
   rw [this];rfl
  |some i=>
   obtain ⟨k,hk,he⟩:=List.exists_of_findSome?_eq_some e;simp at hk;have hkl:k<l.length:=by omega
   rw [gI hkl] at he;simp only [iA] at he;cases hp:P l[k] with
   |false=>rw [hp] at he;cases he
   |true=>
    rw [hp] at he;cases he;have:l.any P=true:=List.any_eq_true.2 ⟨_,List.getElem_mem hkl,hp⟩;rw [this];simp only [Sum.elim_inr,aB];rw [bH (by omega)]
 ·unfold gY;rw [iO hk,aR,iN [] hk,aB,hf _ (fL [] hk),aB];cases P _ <;> rfl
 ·unfold gY;rw [jU (bN _),aZ]
theorem aQB (p n:Int) {l:List (List Int)} (h:bLs l):vC p n l=some (inR n 0 8&&(decide (l.length≤16)&&l.all λv=>decide ((v.length:Int)=n)&&aGD p v)):=by
 unfold vC;rw [aCY,aB];refine gF λ_=>?_;rw [show decide ((l.length:Int)≤16)=decide (l.length≤16) by rw [Bool.eq_iff_iff,hZ,hZ];omega];refine gF λ_=>?_;rw [aJJ (λv=> !(decide ((v.length:Int)=n)&&aGD p v)) (λv hv=>?_) h.1,aB,List.not_any_eq_all_not]
 ·simp
 ·unfold qZ;cases decide ((v.length:Int)=n) with
  |false=>rfl
  |true=>rw [eD,aZ,aOw p (h.2 v hv),aB,aTA,Bool.true_and]
theorem aVD {a b:List (List Int)} (h:bLs a):eU a b (λb0 b1=>lK b0 b1)=some (decide (a=b)):=by
 obtain ⟨h,hb⟩:=h;unfold eU;rw [aGN];by_cases e:a.length=b.length
 ·rw [bH e,eD,aZ];refine aJB (by omega) e (λk h1 h2=>?_) ?_
  ·unfold dW lK;simp only;rw [iO h1,aR,dS h1,aB,dS h2,aB,aDT (hb _ (List.getElem_mem h1)),aB,aB];cases decide (a[k]=b[k]) <;> rfl
  ·unfold dW;rw [jU (bN _),aZ]
 ·rw [dF e,Bool.not_false,aR,dF (by rintro rfl;exact e rfl)]
theorem aOC {a b:Sc} (h:bLs a.basis):sK a b=some (decide (a.size=b.size)&&decide (a.basis=b.basis)):=by
 unfold sK;refine gF λ_=>?_;rw [aVD h,aB]
theorem aZU {p:Int} {n:Nat} {l:List (List Int)} (hl:l.length≤1048576) (hn:n≤1048576) (h:VecsP p n l):bLs l:=⟨hl,λv hv=>by unfold bI;rw [(h v hv).1];exact hn⟩
theorem aRX {p:Int} (hp:mU p=true) {n:Nat} {l:List (List Int)} (hn:n≤1048576) (h:VecsP p n l):bLs (iK p n l):=aZU (by have:=(@aGG p n l).1;omega) hn (aJr hp h.inP)
theorem aOD (p:Int) {s:Sc} (h:bS s):aBH p s=some (uK p s.size s.basis):=by
 unfold aBH uK;rw [aHC,aB,aQB p s.size h.1,aB,aLs];cases hf:mU p with
 |false=>simp
 |true=>
  rw [eD,aZ];cases hv:(inR s.size 0 8&&(decide (s.basis.length≤16)&&s.basis.all λv=>decide ((v.length:Int)=s.size)&&aGD p v)) with
  |false=>
   have hx:(true&&inR s.size 0 8&&decide (s.basis.length≤16)&&s.basis.all λv=>decide ((v.length:Int)=s.size)&&aGD p v)=false:=by rw [Bool.true_and,Bool.and_assoc];exact hv
   rw [hx];rfl
  |true=>
   have hfine:aIo p s.size s.basis=true:=by rw [aLs,hf];simp only [Bool.true_and,Bool.and_assoc];exact hv
   obtain ⟨_,n,e,hn,hl,hv2⟩:=aGH hfine;rw [eD,aZ,e,aMz hf (by omega) (by omega) hv2,aB,aOC (aRX hf (by omega) hv2),aB];rw [e] at hfine;rw [aLs,hf] at hfine;rw [hfine];simp [e]
theorem aWn (p n:Int) {l:List (List Int)} (h:bLs l):uF p n l=some (aIo p n l):=by
 unfold uF;have hall:=aDS ([]:List Int) l (λv=>decide ((v.length:Int)=n)&&aGD p v);have hb:=h.1;rw [xW (λk=>decide ((((l[k]?.getD []).length:Nat):Int)=n)&&aGD p (l[k]?.getD [])) false (n:=l.length) (by omega) (λk hk=>?_) (λ_=>?_),aB,hall,aLs]
 ·cases l.all λv=>decide ((v.length:Int)=n)&&aGD p v with
  |false=>simp
  |true=>
   simp only [aR,Sum.elim_inl];rw [aJC,aB,aBq,aB,Bool.and_true,Bool.and_assoc];refine gF λ_=>?_;refine gF λ_=>?_;congr 1;rw [Bool.eq_iff_iff,hZ,hZ];omega
 ·unfold nL;rw [iO hk,aR,iN [] hk,aB,aB,aKH p (h.2 _ (fL [] hk)),aB,aTA];cases decide ((((l[k]?.getD []).length:Nat):Int)=n) <;> cases aGD p (l[k]?.getD []) <;> rfl
 ·unfold nL;rw [jU (bN _),aZ]
theorem aWo {a b:List (List Int)} (h:bLs a):uG a b=some (decide (a=b)):=by
 obtain ⟨h,hb⟩:=h;unfold uG;rw [aGN];by_cases e:a.length=b.length
 ·rw [bH e,eD,aZ];refine aJB (by omega) e (λk h1 h2=>?_) ?_
  ·have hbk:=hb _ (List.getElem_mem h1);unfold bI at hbk;unfold nN;rw [iO h1,aR,dS h1,aB,dS h2,aB,aGN];by_cases e2:a[k].length=b[k].length
   ·rw [bH e2,eD,aZ];have h3:=xW (body:=nM a b k) (λj=>decide (a[k][j]?.getD 0=b[k][j]?.getD 0)) false (n:=a[k].length) (by omega) (λj hj=>?_) ?_
    ·rw [h3,aQx e2,aB];cases decide (a[k]=b[k]) <;> rfl
    ·unfold nM;rw [dS h1,aB,iO hj,aR,aB,iN 0 hj,aB,dS h2,aB,iN 0 (e2▸hj),aB];cases decide (a[k][j]?.getD 0=b[k][j]?.getD 0) <;> rfl
    ·intro _;unfold nM;rw [dS h1,aB,jU (bN _),aZ]
   ·rw [dF e2,Bool.not_false,aR,dF (λe3=>e2 (by rw [e3])),aZ]
  ·unfold nN;rw [jU (bN _),aZ]
 ·rw [dF e,Bool.not_false,aR,dF (by rintro rfl;exact e rfl)]
theorem aCM (p:Int) {s:Sc} (h:bS s):iQ p s=some (uK p s.size s.basis):=by
 unfold iQ uK;rw [aWn p s.size h.1,aB];cases hf:aIo p s.size s.basis with
 |false=>rfl
 |true=>
  obtain ⟨hp,n,e,hn,hl,hv⟩:=aGH hf;rw [eD,aZ,e,aNA (by omega) (by omega) (λv hv'=>(hv v hv').1),aB,aPC (aQA hp (by omega) (by omega) hv),aB,show iP (cI p s.basis.length (cO s.basis) n).1 (cI p s.basis.length (cO s.basis) n).2.length n=iK p n s.basis from rfl,aWo (aRX hp (by omega) hv),aB];simp
end
noncomputable section
set_option maxRecDepth 10000
set_option maxHeartbeats 4000000
end
noncomputable section
set_option maxRecDepth 10000
set_option maxHeartbeats 4000000
end
noncomputable section
theorem aUE {σ ρ:Type} {body:σ→Option (σ ⊕ ρ)} (I:Nat→σ) (n:Nat) (P:Nat→Bool) (b fin:ρ)
  (hs: ∀ k,k<n→(∀ j,j<k→P j=true)→body (I k)=some (bif P k then .inl (I (k+1)) else .inr b)) (he:(∀ j,j<n→P j=true)→body (I n)=some (.inr fin)):Lp body (I 0)=some (bif (List.range n).all P then fin else b):=by
 have key: ∀ d k,k+d=n→(∀ j,j<k→P j=true)→Lp body (I k)=some (bif (List.range n).all P then fin else b):=by
  intro d;induction d with
  |zero=>
   intro k hk hP;have:k=n:=by omega
   subst this;rw [qQ (he hP),show (List.range k).all P=true from tZ.2 hP];rfl
  |succ d ih=>
   intro k hk hP;have h:=hs k (by omega) hP;cases e:P k with
   |true=>
    rw [e] at h;rw [aDE h]
    exact ih (k+1) (by omega) λj hj=>by
     rcases dZ j k with h1|h1
     ·exact hP j h1
     ·rw [show j=k by omega];exact e
   |false=>
    rw [e] at h
    have:(List.range n).all P=false:=by
     cases h2:(List.range n).all P with
     |false=>rfl
     |true=>rw [tZ.1 h2 k (by omega)] at e;cases e
    rw [qQ h,this];rfl
 exact key n 0 (by omega) λj hj=>absurd hj (Nat.not_lt_zero _)
theorem aWp {r c k:Nat} (hN:r*c≤1048576) (hr:r≤1048576) (hk:k<c) (F:Nat→Nat→Int):pV ⟨r,c,cD r c F⟩ k=some (eP r λi=>F i k):=by
 unfold pV;simp only;rw [bH (by omega),bH (by omega:(r:Int)≤1048576),Bool.and_self,aR];rw [cZ (r:=eP r λi=>F i k) (λt=>(eP r (λi=>if i<t then F i k else 0),(t:Int))) r (by simp [aKI]) (λt ht=>?_) (λ_=>?_),aB]
 ·unfold mA;simp only [List.length_replicate,eX];rw [iO ht,aR,atT hN ht hk,aB,aDK _ ht,aB,aMx ht,cA ht (by omega)];congr 3;refine qL λb hb=>?_;by_cases e:b=t
  ·rw [aV e,aV (by omega),e]
  ·rw [aX e];by_cases e2:b<t
   ·rw [aV e2,aV (by omega)]
   ·rw [aX e2,aX (by omega)]
 ·unfold mA;simp only [List.length_replicate,eX];rw [jU (bN _),aZ];congr 2;exact qL λb hb=>by rw [aV hb]
theorem aWq {p:Int} (hp:mU p=true) {n:Nat} {l l':List (List Int)} (h:InP p l.length n (cO l)) (h':InP p l'.length n (cO l')) (hK: ∀ x,Kr p l.length n (cO l) x↔Kr p l'.length n (cO l') x):iK p n l=iK p n l':=by
 obtain ⟨e1,e2⟩:=aPo hp h h' hK;unfold iK;rw [←e1];exact aGE e2
end
noncomputable section
theorem aWr {k:Nat} {f:Nat→Nat} (hlt: ∀ t,t<k→f t<k) (hinc: ∀ s t,s<t→t<k→f s<f t): ∀ t,t<k→f t=t:=by
 have h1: ∀ t,t<k→t≤f t:=by
  intro t;induction t with
  |zero=>intro _;exact Nat.zero_le _
  |succ t ih=>intro h;have:=ih (by omega);have:=hinc t (t+1) (by omega) h;omega
 have h2: ∀ d t,t+d+1=k→f t≤t:=by
  intro d;induction d with
  |zero=>intro t h;have:=hlt t (by omega);omega
  |succ d ih=>intro t h;have:=ih (t+1) (by omega);have:=hinc t (t+1) (by omega) (by omega);omega
 intro t ht;have:=h1 t ht;have:=h2 (k - t - 1) t (by omega);omega
theorem aTB {L M:List Nat} (hL: ∀ i k,i<k→k<L.length→L[i]?.getD 0<L[k]?.getD 0) (hM: ∀ i k,i<k→k<M.length→M[i]?.getD 0<M[k]?.getD 0) (hs: ∀ t,t<M.length→ ∃ i,i<L.length∧L[i]?.getD 0=M[t]?.getD 0) (hl:L.length=M.length):L=M:=by
 have hs': ∀ t:Nat,∃ i,t<M.length→i<L.length∧L[i]?.getD 0=M[t]?.getD 0:=λt=>by
  by_cases h:t<M.length
  ·obtain ⟨i,hi⟩:=hs t h;exact ⟨i,λ_=>hi⟩
  ·exact ⟨0,λh'=>absurd h' h⟩
 obtain ⟨f,hf⟩:=Classical.axiomOfChoice hs'
 have e:=aWr (k:=M.length) (f:=f) (λt ht=>hl▸(hf t ht).1) (λs t hst ht=>by
  rcases Nat.lt_trichotomy (f s) (f t) with h|h|h
  ·exact h
  ·have a:=(hf s (by omega)).2;have b:=(hf t ht).2;have c:=hM s t hst ht;rw [h,b] at a;omega
  ·have a:=(hf s (by omega)).2;have b:=(hf t ht).2;have c:=hM s t hst ht;have:=hL (f t) (f s) h (hf s (by omega)).1
   omega)
 refine List.ext_getElem hl λi h1 h2=>?_;have:=(hf i h2).2;rw [e i h2] at this;simpa [h1,h2] using this
theorem aWs {p:Int} (hp:mU p=true) {m m' n:Nat} {F G:Nat→Nat→Int} {L M:List Nat} (hF:Red m n F L) (hG:Red m' n G M) (iF:InP p m n F) (iG:InP p m' n G) (hK: ∀ x,Kr p m n F x→Kr p m' n G x) (hl:L.length=M.length):L=M∧ ∀ i j,i<L.length→j<n→F i j=G i j:=by
 have e:L=M:=aTB hF.inc hG.inc (λt ht=>aPn hp hF hG hK ht) hl;subst e;refine ⟨rfl,λi k hi hk=>?_⟩;have hm:=hF.len;have hm':=hG.len;by_cases hL: ∃ t,t<L.length∧L[t]?.getD 0=k
 ·obtain ⟨t,ht,rfl⟩:=hL;by_cases e:i=t
  ·subst e;rw [hF.one i hi,hG.one i hi]
  ·rw [hF.col t i ht (by omega) e,hG.col t i ht (by omega) e]
 ·have hL: ∀ t,t<L.length→L[t]?.getD 0≠k:=λt ht e=>hL ⟨t,ht,e⟩;have h1:=hK _ (aMW (p:=p) hF hk hL) i (by omega);rw [aQz hF hk hL,aFL (j:=i) hi (λt ht hti=>by rw [hG.col t i ht (by omega) (λe=>hti e.symm)];simp),hG.one i hi,Int.one_mul] at h1;unfold Z0 at h1;have b1:=iF i k (by omega) hk;have b2:=iG i k (by omega) hk
  have e1:G i k % p=F i k % p:=by
   have:=Int.emod_emod_of_dvd;exact Int.emod_eq_emod_iff_emod_sub_eq_zero.2 h1
  rw [Int.emod_eq_of_lt b2.1 b2.2,Int.emod_eq_of_lt b1.1 b1.2] at e1;exact e1.symm
theorem aPD {p:Int} {n:Nat} {l:List (List Int)} (hp:mU p=true) (hv:VecsP p n l) (hs:iK p n l=l): ∃ L,L.length=l.length∧Red l.length n (cO l) L:=by
 have hi:=hv.inP;have hr:=aGF hp hi n (bN _)
 have hlen:(cI p l.length (cO l) n).2.length=l.length:=by
  have:=congrArg List.length hs;unfold iK at this;rw [wP] at this;exact this
 have hrow: ∀ i j,i<l.length→j<n→(cI p l.length (cO l) n).1 i j=cO l i j:=by
  intro i j hi hj;have:=aMS (cI p l.length (cO l) n).1 (cI p l.length (cO l) n).2.length n i j (by omega) hj;unfold iK at hs;rw [hs] at this;exact this.symm
 refine ⟨_,hlen,⟨hr.lt,hr.inc,by omega,λi h=>?_,λi k h hk hne=>?_,λi j h h2 hj=>?_,λi j h hj=>?_⟩⟩
 ·rw [←hrow i _ (by omega) (hr.lt i h)];exact hr.one i h
 ·rw [←hrow k _ hk (hr.lt i h)];exact hr.col i k h hk hne
 ·omega
 ·rw [←hrow i j (by omega) (by have:=hr.lt i h;omega)];exact hr.left i j h hj
def rsF (p:Int) (B:Nat→Nat→Int) (L:List Nat) (v:Nat→Int):Nat→Nat→Int
 |0=>v
 |t+1=>λj=>(rsF p B L v t j+(p - rsF p B L v t (L[t]?.getD 0))*B t j) % p
theorem aWt {p:Int} (hp:mU p=true) {B:Nat→Nat→Int} {L:List Nat} {v:Nat→Int} {n:Nat} (hv: ∀ j,j<n→0≤v j∧v j<p): ∀ t j,j<n→0≤rsF p B L v t j∧rsF p B L v t j<p
 |0,j,h=>hv j h
 |t+1,j,_=>wZ hp
theorem aQC {p:Int} (hp:mU p=true) {m n:Nat} {B:Nat→Nat→Int} {L:List Nat} (h:Red m n B L) {v:Nat→Int} : ∀ t,t≤L.length→ ∀ s,s<t→rsF p B L v t (L[s]?.getD 0)=0
 |0,_,s,hs=>absurd hs (Nat.not_lt_zero _)
 |t+1,ht,s,hs=>by
  have hm:=h.len;simp only [rsF];by_cases e:s=t
  ·subst e;rw [h.one s (by omega),Int.mul_one,show rsF p B L v s (L[s]?.getD 0)+(p - rsF p B L v s (L[s]?.getD 0))=p by omega,Int.emod_self]
  ·rw [h.col s t (by omega) (by omega) (λe'=>e e'.symm),aQC hp h t (by omega) s (by omega)];simp
theorem aTC {p:Int} (hp:mU p=true) {m n:Nat} {B:Nat→Nat→Int} {L:List Nat} (hL:L.length≤m) {v x:Nat→Int} (hx:Kr p m n B x): ∀ t,t≤L.length→dt n (rsF p B L v t) x % p=dt n v x % p
 |0,_=>rfl
 |t+1,ht=>by
  have ih:=aTC hp hL (v:=v) hx t (by omega);have h1:=hx t (by omega);rw [←ih];simp only [rsF];rw [aPm (g:=λj=>rsF p B L v t j+(p - rsF p B L v t (L[t]?.getD 0))*B t j) (λk _=>by rw [Int.emod_emod_of_dvd _ (Int.dvd_refl p)]),aWN];have h2:=aJt (p - rsF p B L v t (L[t]?.getD 0)) h1;unfold Z0 at h2;rw [Int.add_emod,h2];simp
theorem aWu {p:Int} (hp:mU p=true) {m n:Nat} {B:Nat→Nat→Int} {L:List Nat} (h:Red m n B L) {v:Nat→Int} (hv: ∀ j,j<n→0≤v j∧v j<p):(∀ j,j<n→rsF p B L v L.length j=0)↔ ∀ x,Kr p m n B x→Z0 p (dt n v x):=by
 constructor
 ·intro hz x hx;have:=aTC hp h.len (v:=v) hx L.length (bN _);unfold Z0;rw [←this]
  have e:dt n (rsF p B L v L.length) x=0:=by
   unfold dt;rw [gW (g:=λ_=>0) (λk hk=>by rw [hz k hk];simp),aAq]
  rw [e];simp
 ·intro hz k hk;by_cases hL: ∃ t,t<L.length∧L[t]?.getD 0=k
  ·obtain ⟨t,ht,rfl⟩:=hL;exact aQC hp h L.length (bN _) t ht
  ·have hL: ∀ t,t<L.length→L[t]?.getD 0≠k:=λt ht e=>hL ⟨t,ht,e⟩;have hx:=aMW (p:=p) h hk hL;have h1:=hz _ hx;unfold Z0 at h1;rw [←aTC hp h.len (v:=v) hx L.length (bN _),aQz h hk hL,gW (g:=λ_=>0) (λi hi=>by rw [aQC hp h L.length (bN _) i hi];simp),aAq,Int.sub_zero] at h1;have b:=aWt hp (B:=B) (L:=L) hv L.length k hk;rw [Int.emod_eq_of_lt b.1 b.2] at h1;exact h1
theorem aHH {p:Int} {n:Nat} {a b:List (List Int)} {x:Nat→Int} :Kr p (a++b).length n (cO (a++b)) x↔Kr p a.length n (cO a) x∧Kr p b.length n (cO b) x:=by
 have e1: ∀ i,i<a.length→cO (a++b) i=cO a i:=λi hi=>by funext j;simp only [cO];rw [List.getElem?_append_left hi]
 have e2: ∀ i,cO (a++b) (a.length+i)=cO b i:=λi=>by funext j;simp only [cO];rw [List.getElem?_append_right (by omega),Nat.add_sub_cancel_left]
 unfold Kr;rw [List.length_append];refine ⟨λh=>⟨λi hi=>e1 i hi▸h i (by omega),λi hi=>e2 i▸h (a.length+i) (by omega)⟩,λh i hi=>?_⟩;rcases dZ i a.length with h'|h'
 ·rw [e1 i h'];exact h.1 i h'
 ·have:=h.2 (i - a.length) (by omega);rw [←e2,show a.length+(i - a.length)=i by omega] at this;exact this
theorem aFU {p:Int} (hp:mU p=true) {n:Nat} {a b:List (List Int)} (ha:VecsP p n a) (hb:VecsP p n b) (hs:iK p n b=b):(aNt p n a b).length=b.length↔ ∀ x,Kr p b.length n (cO b) x→Kr p a.length n (cO a) x:=by
 have hi:=(ha.append hb).inP;constructor
 ·intro hl x hx;obtain ⟨L,hLl,hR⟩:=aPD hp hb hs;have hr:=aGF hp hi n (bN _);have hb':=fF hp
  have hlen:(cI p (a++b).length (cO (a++b)) n).2.length=L.length:=by
   unfold aNt iK at hl;rw [wP] at hl;omega
  obtain ⟨_,h2⟩:=aWs hp hr hR (tQ (by omega) hi n) hb.inP (λx hx=>(aHH.1 ((aGr hp hi x n (bN _)).1 hx)).2) hlen;refine (aHH.1 ((aGr hp hi x n (bN _)).1 λi hi'=>?_)).1;rcases dZ i (cI p (a++b).length (cO (a++b)) n).2.length with h'|h'
  ·have e:dt n ((cI p (a++b).length (cO (a++b)) n).1 i) x=dt n (cO b i) x:=gW λk hk=>by rw [h2 i k h' hk]
   rw [e];exact hx i (by omega)
  ·have e:dt n ((cI p (a++b).length (cO (a++b)) n).1 i) x=0:=by
    unfold dt;rw [gW (g:=λ_=>0) (λk hk=>by rw [hr.low i k h' hi' hk];simp),aAq]
   rw [e];unfold Z0;simp
 ·intro hK;unfold aNt;rw [aWq hp hi hb.inP λx=>⟨λh=>(aHH.1 h).2,λh=>aHH.2 ⟨hK x h,h⟩⟩,hs]
end
noncomputable section
def off (l:Nat→Nat):Nat→Nat
 |0=>0
 |k+1=>off l k+l k
theorem aFV {l:Nat→Nat} {i k:Nat} (h:i≤k):off l i≤off l k:=by
 induction k with
 |zero=>have:i=0:=by omega
        subst this;exact bN _
 |succ k ih=>
  rcases dZ k i with h'|h'
  ·have:i=k+1:=by omega
   subst this;exact bN _
  ·have:=ih h';show off l i≤off l k+l k;omega
theorem pD {l:Nat→Nat} {i k y:Nat} (hi:i<k) (hy:y<l i):off l i+y<off l k:=by
 have:= @aFV l (i+1) k hi;have e:off l (i+1)=off l i+l i:=rfl;omega
theorem aHI {l:Nat→Nat} : ∀ {k x:Nat},x<off l k→ ∃ i y,i<k∧y<l i∧x=off l i+y
 |0,x,h=>absurd h (Nat.not_lt_zero _)
 |k+1,x,h=>by
  rcases dZ x (off l k) with h'|h'
  ·obtain ⟨i,y,h1,h2,h3⟩:=aHI h';exact ⟨i,y,by omega,h2,h3⟩
  ·have e:off l (k+1)=off l k+l k:=rfl;exact ⟨k,x - off l k,by omega,by omega,by omega⟩
theorem aUF {l:Nat→Nat} {i j y z:Nat} (hy:y<l i) (hz:z<l j) (h:off l i+y=off l j+z):i=j∧y=z:=by
 have e1:off l (i+1)=off l i+l i:=rfl;have e2:off l (j+1)=off l j+l j:=rfl;rcases Nat.lt_trichotomy i j with h1|h1|h1
 ·have:= @aFV l (i+1) j h1;omega
 ·subst h1;exact ⟨rfl,by omega⟩
 ·have:= @aFV l (j+1) i h1;omega
def cat (l:Nat→Nat) (f:Nat→Nat→Int):Nat→List Int
 |0=>[]
 |k+1=>cat l f k++(List.range (l k)).map (f k)
theorem jR (l:Nat→Nat) (f:Nat→Nat→Int): ∀ k,(cat l f k).length=off l k
 |0=>rfl
 |k+1=>by rw [cat,off,List.length_append,jR l f k];simp
theorem sP {l:Nat→Nat} (f:Nat→Nat→Int): ∀ {k i y:Nat},i<k→y<l i→(cat l f k)[off l i+y]? =some (f i y)
 |0,i,y,h,_=>absurd h (Nat.not_lt_zero _)
 |k+1,i,y,h,hy=>by
  rw [cat];by_cases e:i=k
  ·subst e;rw [List.getElem?_append_right (by rw [jR];omega),jR,Nat.add_sub_cancel_left];simp [hy]
  ·rw [List.getElem?_append_left (by rw [jR];exact pD (by omega) hy)];exact sP f (by omega) hy
theorem aFW {l:Nat→Nat} {f:Nat→Nat→Int} {k:Nat} {v:List Int} (hv:v.length=off l k) (h: ∀ i y,i<k→y<l i→v[off l i+y]? =some (f i y)):v=cat l f k:=by
 refine List.ext_getElem (by rw [jR,hv]) λx h1 h2=>?_;obtain ⟨i,y,hi,hy,rfl⟩:=aHI (hv▸h1);have a:=h i y hi hy;have b:=sP f hi hy;rw [gI h1] at a;rw [gI h2] at b;exact (Option.some.inj a).trans (Option.some.inj b).symm
theorem aEs {l:Nat→Nat} {f g:Nat→Nat→Int} {k:Nat} (h: ∀ i y,i<k→y<l i→f i y=g i y):cat l f k=cat l g k:=
 aFW (jR l f k) λi y hi hy=>by rw [sP f hi hy,h i y hi hy]
theorem aQD {l:Nat→Nat} {f:Nat→Nat→Int} {k i y:Nat} (hi:i<k) (hy:y<l i) (v:Int):(cat l f k).set (off l i+y) v=cat l (λa b=>if a=i∧b=y then v else f a b) k:=by
 refine aFW (by rw [List.length_set,jR]) λa b ha hb=>?_;rw [List.getElem?_set];by_cases e:off l i+y=off l a+b
 ·obtain ⟨rfl,rfl⟩:=aUF hy hb e;rw [aV rfl,aV (by rw [jR];exact pD hi hy),aV ⟨rfl,rfl⟩]
 ·rw [aX e,aX (by rintro ⟨rfl,rfl⟩;exact e rfl),sP f ha hb]
theorem aRY (l:Nat→Nat) (k:Nat):List.replicate (off l k) (0:Int)=cat l (λ_ _=>0) k:=aFW (by simp) λi y hi hy=>by simp [pD hi hy]
theorem aRZ {l:Nat→Nat} {f:Nat→Nat→Int} {k:Nat} : ∀ {n:Nat},k<n→((cat l f n).drop (off l k)).take (l k)=(List.range (l k)).map (f k):=by
 intro n hk;refine List.ext_getElem ?_ λx h1 h2=>?_
 ·have:= @aFV l (k+1) n hk;have e:off l (k+1)=off l k+l k:=rfl;simp [jR];omega
 ·have hx:x<l k:=by simpa using h2
  rw [List.getElem_take,List.getElem_drop];have:=sP f hk hx;rw [gI (by rw [jR];exact pD hk hx)] at this;simp [Option.some.inj this]
theorem aWv {r c:Nat} {g:Nat→Int} {F:Nat→Nat→Int} (h: ∀ y,y<r*c→g y=F (y / c) (y % c)):(List.range (r*c)).map g=cD r c F:=rF λy hy=>h y (List.mem_range.1 hy)
theorem aIH {r c y:Nat} (h:y<r*c):y / c<r∧y % c<c:=by
 have hc:0<c:=by rcases Nat.eq_zero_or_pos c with rfl|h';simp at h;exact h'
 exact ⟨Nat.div_lt_of_lt_mul (by rw [Nat.mul_comm];exact h),Nat.mod_lt _ hc⟩
theorem aCb {c y:Nat} :y / c*c+y % c=y:=by rw [Nat.mul_comm];exact Nat.div_add_mod y c
theorem aWw {n:Nat} {L:List Nat} (hinc: ∀ i k,i<k→k<L.length→L[i]?.getD 0<L[k]?.getD 0) (hlt: ∀ x∈L,x<n):(aCT n L).length +L.length=n:=by
 have key: ∀ t,((List.range t).filter λk=> !L.contains k).length +((List.range t).filter λk=>L.contains k).length=t:=by
  intro t;induction t with
  |zero=>simp
  |succ t ih=>
   rw [List.range_succ,List.filter_append,List.filter_append,List.length_append,List.length_append];cases h:L.contains t <;> simp only [List.filter_cons,List.filter_nil,h,eD,Bool.not_false,gZ,if_true,if_false,List.length_cons,List.length_nil] <;> omega
 have e:(List.range n).filter (λk=>L.contains k)=L:=by
  have hL: ∀ i,i<L.length→L[i]?.getD 0<n:=λi hi=>hlt _ (by rw [gI hi];exact List.getElem_mem hi);have hS:((List.range n).filter λk=>L.contains k).Pairwise (· < ·):=List.Pairwise.filter _ List.pairwise_lt_range;refine aJu (λi k hik hk=>?_) hinc (λi hi=>?_) (λj hj=>?_)
  ·have:=List.pairwise_iff_getElem.1 hS i k (by omega) hk hik;rw [gI (by omega),gI hk];exact this
  ·have hm:=List.getElem_mem hi;rw [List.mem_filter] at hm;have h2:=List.contains_iff_mem.1 hm.2;obtain ⟨j,hj,he⟩:=List.mem_iff_getElem.1 h2;refine ⟨j,hj,?_⟩;rw [gI hj,gI hi];exact he
  ·have hm:L[j]∈(List.range n).filter λk=>L.contains k:=by
    rw [List.mem_filter];exact ⟨List.mem_range.2 (hlt _ (List.getElem_mem hj)),List.contains_iff_mem.2 (List.getElem_mem hj)⟩
   obtain ⟨i,hi,he⟩:=List.mem_iff_getElem.1 hm;refine ⟨i,hi,?_⟩;rw [gI hj,gI hi];exact he
 have:=key n;rw [e] at this;exact this
end
noncomputable section
def sV (r:Rp) (i:Nat):Nat:=(r.q.src[i]?.getD 0).toNat
def tV (r:Rp) (i:Nat):Nat:=(r.q.tgt[i]?.getD 0).toNat
def aF (r:Rp) (i:Nat):Nat→Nat→Int:=λj k=>(r.maps[i]?.getD ⟨0,0,[]⟩).cells[j*dN r (sV r i)+k]?.getD 0
structure Rv (r:Rp):Prop where
 hp:mU r.p=true
 n5:r.dims.length≤5
 d: ∀ k,k<r.dims.length→r.dims[k]?.getD 0=(dN r k:Int)∧dN r k≤4
 e6:r.q.src.length≤6
 tl:r.q.tgt.length=r.q.src.length
 ml:r.maps.length=r.q.src.length
 s: ∀ i,i<r.q.src.length→r.q.src[i]?.getD 0=(sV r i:Int)∧sV r i<r.dims.length
 t: ∀ i,i<r.q.src.length→r.q.tgt[i]?.getD 0=(tV r i:Int)∧tV r i<r.dims.length
 m: ∀ i,i<r.q.src.length→r.maps[i]?.getD ⟨0,0,[]⟩=⟨dN r (tV r i),dN r (sV r i),cD (dN r (tV r i)) (dN r (sV r i)) (aF r i)⟩∧InP r.p (dN r (tV r i)) (dN r (sV r i)) (aF r i)
theorem aNB {r:Rp} (h:aBC r=true):Rv r:=by
 obtain ⟨hp,hD,hml,hM⟩:=aJG h;obtain ⟨hQ,hd1,hd2,_⟩:=aAl hD;obtain ⟨n,hn,hn1,hn5,hq1,hq2,hq3,hq4⟩:=aGP hQ;have hdl:r.dims.length=n:=by omega
 have hd: ∀ k,k<r.dims.length→r.dims[k]?.getD 0=(dN r k:Int)∧dN r k≤4:=by
  intro k hk;have:=hd2 _ (fL 0 hk);unfold dN;omega
 have hs: ∀ i,i<r.q.src.length→r.q.src[i]?.getD 0=(sV r i:Int)∧sV r i<r.dims.length:=by
  intro i hi;have:=hq3 _ (fL 0 hi);unfold sV;omega
 have ht: ∀ i,i<r.q.src.length→r.q.tgt[i]?.getD 0=(tV r i:Int)∧tV r i<r.dims.length:=by
  intro i hi;have:=hq4 _ (fL 0 (show i<r.q.tgt.length by omega));unfold tV;omega
 refine ⟨hp,by omega,hd,hq2,by omega,hml,hs,ht,λi hi=>?_⟩;obtain ⟨g1,g2,g3⟩:=hM i (by omega);rw [show (r.q.src[i]?.getD 0).toNat=sV r i from rfl,(hd _ (hs i hi).2).1] at g2;rw [show (r.q.tgt[i]?.getD 0).toNat=tV r i from rfl,(hd _ (ht i hi).2).1] at g3;obtain ⟨_,a,b,F,ha,hb,he,hF⟩:=aMo g1;have ea:a=dN r (tV r i):=by rw [he] at g3;simp only at g3;omega
 have eb:b=dN r (sV r i):=by rw [he] at g2;simp only at g2;omega
 have em: ∀ j k,j<a→k<b→aF r i j k=F j k:=by
  intro j k hj hk;unfold aF;rw [he,←eb];simp only;rw [nQ F hj hk];rfl
 subst ea;subst eb;rw [he];refine ⟨?_,λj k hj hk=>by rw [em j k hj hk];exact hF j k hj hk⟩;rw [cH em]
structure Fit (a b:Rp):Prop where
 ra:Rv a
 rb:Rv b
 pe:b.p=a.p
 qe:b.q=a.q
 ne:b.dims.length=a.dims.length
theorem aZV {a b:Rp} (h1:aBC a=true) (h2:aBC b=true) (hp:a.p=b.p) (hq:a.q=b.q):Fit a b:=by
 refine ⟨aNB h1,aNB h2,hp.symm,hq.symm,?_⟩;have e1:=(aAl (aJG h1).2.1).2.1;have e2:=(aAl (aJG h2).2.1).2.1;rw [hq] at e1;omega
theorem Fit.sV {a b:Rp} (h:Fit a b) (i:Nat):sV b i=sV a i:=by unfold Proofs.YtghechfdejhapaaGreat.sV;rw [h.qe]
theorem Fit.tV {a b:Rp} (h:Fit a b) (i:Nat):tV b i=tV a i:=by unfold Proofs.YtghechfdejhapaaGreat.tV;rw [h.qe]
def lV (a b:Rp) (v:Nat):Nat:=dN b v*dN a v
def lE (a b:Rp) (i:Nat):Nat:=dN b (tV a i)*dN a (sV a i)
theorem aTD {l:Nat→Nat} {c:Nat} : ∀ {k:Nat},(∀ i,i<k→l i≤c)→off l k≤c*k
 |0,_=>Nat.zero_le _
 |k+1,h=>by
  have h1:=aTD (c:=c) (k:=k) λi hi=>h i (by omega);have h2:=h k (by omega);show off l k+l k≤c*(k+1);rw [Nat.mul_succ];omega
theorem Fit.lV {a b:Rp} (h:Fit a b) {v:Nat} (hv:v<a.dims.length):lV a b v≤16:=Nat.mul_le_mul (h.rb.d v (by rw [h.ne];exact hv)).2 (h.ra.d v hv).2
theorem Fit.lE {a b:Rp} (h:Fit a b) {i:Nat} (hi:i<a.q.src.length):lE a b i≤16:=Nat.mul_le_mul (h.rb.d _ (by rw [h.ne];exact (h.ra.t i hi).2)).2 (h.ra.d _ (h.ra.s i hi).2).2
theorem Fit.offV {a b:Rp} (h:Fit a b) {v:Nat} (hv:v≤a.dims.length):off (Proofs.YtghechfdejhapaaGreat.lV a b) v≤80:=by
 have:=aTD (l:=Proofs.YtghechfdejhapaaGreat.lV a b) (c:=16) (k:=v) λi hi=>h.lV (by omega);have:=h.ra.n5;omega
theorem Fit.offE {a b:Rp} (h:Fit a b) {i:Nat} (hi:i≤a.q.src.length):off (Proofs.YtghechfdejhapaaGreat.lE a b) i≤96:=by
 have:=aTD (l:=Proofs.YtghechfdejhapaaGreat.lE a b) (c:=16) (k:=i) λj hj=>h.lE (by omega);have:=h.ra.e6;omega
theorem xE {α:Type} {f:Nat→α} {n k:Nat} (h:k<n):cJ ((List.range n).map f) (k:Int)=some (f k):=by rw [dS (by simp;exact h)];simp
theorem aBI {α:Type} {f:Nat→α} {k:Nat} :(List.range k).map f++[f k]=(List.range (k+1)).map f:=by rw [List.range_succ,List.map_append];rfl
theorem aQE {a b:Rp} (h:Fit a b):xB a b=some ((List.range a.dims.length).map λv=>(⟨dN b v,dN a v,cD (dN b v) (dN a v) λ_ _=>0⟩:Mt)):=by
 have n5:=h.ra.n5;unfold xB;rw [cZ (r:=(List.range a.dims.length).map λv=>(⟨dN b v,dN a v,cD (dN b v) (dN a v) λ_ _=>0⟩:Mt)) (λk=>((List.range k).map λv=>(⟨dN b v,dN a v,cD (dN b v) (dN a v) λ_ _=>0⟩:Mt),(k:Int))) a.dims.length (by simp) (λk hk=>?_) (λ_=>?_),aB]
 ·have hkb:k<b.dims.length:=by rw [h.ne];exact hk
  unfold zJ;simp only;rw [iO hk,aR,iN 0 hk,aB,iN 0 hkb,aB,(h.ra.d k hk).1,(h.rb.d k hkb).1,aMq (sq (h.rb.d k hkb).2 (h.ra.d k hk).2),aB,bH (by simp;omega),aR,cA hk (by omega),aBI (f:=λv=>(⟨dN b v,dN a v,cD (dN b v) (dN a v) λ_ _=>0⟩:Mt))]
 ·unfold zJ;simp only;rw [jU (bN _),aZ]
theorem aNC {a b:Rp} (h:Fit a b):qX a b=some ((List.range a.q.src.length).map λi=>(⟨dN b (tV a i),dN a (sV a i),cD (dN b (tV a i)) (dN a (sV a i)) λ_ _=>0⟩:Mt)):=by
 have e6:=h.ra.e6;have tl:=h.ra.tl;unfold qX;rw [cZ (r:=(List.range a.q.src.length).map λi=>(⟨dN b (tV a i),dN a (sV a i),cD (dN b (tV a i)) (dN a (sV a i)) λ_ _=>0⟩:Mt)) (λk=>((List.range k).map λi=>(⟨dN b (tV a i),dN a (sV a i),cD (dN b (tV a i)) (dN a (sV a i)) λ_ _=>0⟩:Mt),(k:Int))) a.q.src.length (by simp) (λk hk=>?_) (λ_=>?_),aB]
 ·obtain ⟨s1,s2⟩:=h.ra.s k hk;obtain ⟨t1,t2⟩:=h.ra.t k hk;have t3:tV a k<b.dims.length:=by rw [h.ne];exact t2
  unfold mY;simp only;rw [iO hk,aR,iN 0 hk,aB,iN 0 (by omega),aB,t1,iN 0 t3,aB,s1,iN 0 s2,aB,(h.ra.d _ s2).1,(h.rb.d _ t3).1,aMq (sq (h.rb.d _ t3).2 (h.ra.d _ s2).2),aB,bH (by simp;omega),aR,cA hk (by omega),aBI (f:=λi=>(⟨dN b (tV a i),dN a (sV a i),cD (dN b (tV a i)) (dN a (sV a i)) λ_ _=>0⟩:Mt))]
 ·unfold mY;simp only;rw [jU (bN _),aZ]
theorem aTE {k:Nat} {r c:Nat→Int} {l:Nat→Nat} {f:Nat→Nat→Int} (hk:k≤1048576) (hl:off l k≤1048576):pQ ((List.range k).map λv=>(⟨r v,c v,(List.range (l v)).map (f v)⟩:Mt))=some (cat l f k):=by
 unfold pQ;rw [cZ (r:=cat l f k) (λj=>(cat l f j,(j:Int))) k (by simp [cat]) (λj hj=>?_) (λ_=>?_),aB]
 ·unfold aBE;simp only;have h1:= @aFV l (j+1) k hj;have e:off l (j+1)=off l j+l j:=rfl;rw [dU,List.length_range,iO hj,aR,xE hj,aB];simp only;rw [jR,dU,List.length_range,bH (by omega),aR,cA hj (by omega)];rfl
 ·unfold aBE;simp only;rw [dU,List.length_range,jU (bN _),aZ]
theorem aRa {k:Nat} {r c:Nat→Int} {z:Nat→List Int} {l:Nat→Nat} {f:Nat→Nat→Int} (hk:k≤1048576) (hl:off l k≤1048576) (hz: ∀ v,v<k→(z v).length=l v):uE ((List.range k).map λv=>(⟨r v,c v,z v⟩:Mt)) (cat l f k)=some ((List.range k).map λv=>(⟨r v,c v,(List.range (l v)).map (f v)⟩:Mt)):=by
 unfold uE;rw [cZ (r:=(List.range k).map λv=>(⟨r v,c v,(List.range (l v)).map (f v)⟩:Mt)) (λj=>((cat l f k).drop (off l j),(List.range j).map (λv=>(⟨r v,c v,(List.range (l v)).map (f v)⟩:Mt)),(j:Int))) k (by simp [off]) (λj hj=>?_) (λ_=>?_),aB]
 ·unfold xC;simp only;have h1:= @aFV l (j+1) k hj;have e:off l (j+1)=off l j+l j:=rfl;rw [dU,List.length_range,iO hj,aR,xE hj,aB];simp only;rw [hz j hj,List.length_drop,jR];simp only [eX,Int.toNat_zero,List.drop_zero,Nat.sub_zero];rw [aRZ hj];unfold mW;rw [bH (by omega:(0:Int)≤((l j:Nat):Int)),bH (by omega:((l j:Nat):Int)≤((off l k - off l j:Nat):Int))];simp only [decide_true,Bool.and_self,aR,Int.le_refl];have q1:decide (((List.range (l j)).map (f j)).length ≤1048576)=true:=bH (by simp only [dU,List.length_range];omega);have q2:decide (((List.range j).map λv=>(⟨r v,c v,(List.range (l v)).map (f v)⟩:Mt)).length +1≤4294967296)=true:=bH (by simp only [dU,List.length_range];omega);simp only [q1,Bool.and_self,aR,aB];rw [q2,aR,cA hj (by omega),aBI (f:=λv=>(⟨r v,c v,(List.range (l v)).map (f v)⟩:Mt)),List.drop_drop,List.take_of_length_le (by simp [jR];omega)];rfl
 ·unfold xC;simp only;rw [dU,List.length_range,jU (bN _),aZ]
theorem aZW {p:Int} (hp:mU p=true) {r c:Nat} (hN:r*c≤1048576) {r' c':Int} {F G:Nat→Nat→Int} (hF:InP p r c F) (hG:InP p r c G) {k:Int} (hk:0≤k∧k≤5):
  aEJ p ⟨r,c,cD r c F⟩ k ⟨r',c',cD r c G⟩=some ⟨r,c,cD r c λi j=>(F i j+k*G i j) % p⟩:=by
 have e1: ∀ H:Nat→Nat→Int,cD r c H=cD 1 (r*c) (λ_ y=>H (y / c) (y % c)):=by
  intro H;unfold cD;rw [Nat.one_mul];refine rF λy hy=>?_;rw [Nat.mod_eq_of_lt (List.mem_range.1 hy)]
 have e2:cD r c G=eP (r*c) (λy=>G (y / c) (y % c)):=rfl;unfold aEJ mQ mW;simp only;rw [eN,bH hN,aR,aB,aB];simp only;have:=aJD hp (r:=1) (c:=r*c) (i:=0) hN (by omega) (F:=λ_ y=>F (y / c) (y % c)) (g:=λy=>G (y / c) (y % c)) hk (λy hy=>hF _ _ (aIH hy).1 (aIH hy).2) (λy hy=>hG _ _ (aIH hy).1 (aIH hy).2);rw [Nat.zero_mul,←e2,←e1] at this;rw [eN,this,aB,eN,Nat.one_mul,bH rfl,aR,e1 (λi j=>(F i j+k*G i j) % p)];congr 2;refine cH λa y ha hy=>?_;unfold aLN;rw [aV (by omega)]
def aND (a b:Rp) (P:Nat→Nat→Nat→Int) (i:Nat):Nat→Nat→Int:=λr k=>
 (aBd a.p (dN b (sV a i)) (aF b i) (P (sV a i)) r k+(a.p - 1)*aBd a.p (dN a (tV a i)) (P (tV a i)) (aF a i) r k) % a.p
theorem aQF {a b:Rp} (h:Fit a b) {P:Nat→Nat→Nat→Int} (hP: ∀ v,v<a.dims.length→InP a.p (dN b v) (dN a v) (P v)):
  vA a b ((List.range a.dims.length).map λv=>(⟨dN b v,dN a v,cD (dN b v) (dN a v) (P v)⟩:Mt))=some ((List.range a.q.src.length).map λi=>(⟨dN b (tV a i),dN a (sV a i),cD (dN b (tV a i)) (dN a (sV a i)) (aND a b P i)⟩:Mt)):=by
 have e6:=h.ra.e6;have tl:=h.ra.tl;have hb:=fF h.ra.hp;unfold vA;rw [cZ (r:=(List.range a.q.src.length).map λi=>(⟨dN b (tV a i),dN a (sV a i),cD (dN b (tV a i)) (dN a (sV a i)) (aND a b P i)⟩:Mt)) (λk=>((List.range k).map λi=>(⟨dN b (tV a i),dN a (sV a i),cD (dN b (tV a i)) (dN a (sV a i)) (aND a b P i)⟩:Mt),(k:Int))) a.q.src.length (by simp) (λk hk=>?_) (λ_=>?_),aB]
 ·obtain ⟨s1,s2⟩:=h.ra.s k hk;obtain ⟨t1,t2⟩:=h.ra.t k hk;have s3:sV a k<b.dims.length:=by rw [h.ne];exact s2
  have t3:tV a k<b.dims.length:=by rw [h.ne];exact t2
  have hkb:k<b.q.src.length:=by rw [h.qe];exact hk
  obtain ⟨m1,m2⟩:=h.ra.m k hk;obtain ⟨g1,g2⟩:=h.rb.m k hkb;rw [h.sV,h.tV] at g1 g2;rw [h.pe] at g2;have da:=h.ra.d _ s2;have da2:=h.ra.d _ t2;have db:=h.rb.d _ s3;have db2:=h.rb.d _ t3;unfold pS;simp only;rw [iO hk,aR,iN 0 hk,aB,iN ⟨0,0,[]⟩ (by rw [h.rb.ml];exact hkb),aB,g1,s1,xE s2,aB];rw [aLq h.ra.hp (sq db2.2 db.2) (sq db.2 da.2) (sq db2.2 da.2) (by omega) (by omega) (by omega) g2 (hP _ s2),aB,iN 0 (by omega),aB,t1,xE t2,aB,iN ⟨0,0,[]⟩ (by rw [h.ra.ml];exact hk),aB,m1];rw [aLq h.ra.hp (sq db2.2 da2.2) (sq da2.2 da.2) (sq db2.2 da.2) (by omega) (by omega) (by omega) (hP _ t2) m2,aB,eY (by omega)];rw [aZW h.ra.hp (sq db2.2 da.2) (aLp h.ra.hp _ _ _ _ _) (aLp h.ra.hp _ _ _ _ _) (by omega),aB,bH (by simp;omega),aR,cA hk (by omega)];have:=aBI (f:=λi=>(⟨dN b (tV a i),dN a (sV a i),cD (dN b (tV a i)) (dN a (sV a i)) (aND a b P i)⟩:Mt)) (k:=k);rw [←this];rfl
 ·unfold pS;simp only;rw [jU (bN _),aZ]
theorem aCN {R N:Nat} (hN:R*N≤1048576) (h1:R≤1048576) (h2:N≤1048576) (M:Nat→Nat→Int):dT R ((List.range N).map λk=>eP R λi=>M i k)=some ⟨R,N,cD R N M⟩:=by
 unfold dT;rw [dU,List.length_range,aMq hN,aB];simp only;rw [cZ (r:=cD R N M) (λk=>(cD R N (λi j=>if j<k then M i j else 0),(k:Int))) N (by simp) (λk hk=>?_) (λ_=>?_),aB]
 ·unfold iM;simp only;rw [dU,List.length_range,iO hk,aR,xE hk,aB];rw [cZ (r:=cD R N (λi j=>if j<k+1 then M i j else 0)) (λx=>(cD R N (λi j=>if j<k∨(j=k∧i<x) then M i j else 0),(x:Int))) R (by simp) (λx hx=>?_) (λ_=>?_),aB,cA hk (by omega)]
  ·unfold kH;simp only;rw [dM,iO hx,aR,aDK _ hx,aB,atT hN hx hk,aB,aRR hN hx hk,cA hx (by omega)];congr 3;refine cH λi j hi hj=>?_;simp only [aHx];by_cases e:i=x∧j=k
   ·rw [aV e,aV (by omega),e.1,e.2]
   ·rw [aX e];by_cases e2:j<k∨j=k∧i<x
    ·rw [aV e2,aV (by omega)]
    ·rw [aX e2,aX (by omega)]
  ·unfold kH;simp only;rw [dM,jU (bN _),aZ];congr 2;refine cH λi j hi hj=>?_;by_cases e:j<k+1
   ·rw [aV e,aV (by omega)]
   ·rw [aX e,aX (by omega)]
 ·unfold iM;simp only;rw [dU,List.length_range,jU (bN _),aZ];congr 2;exact cH λi j hi hj=>by rw [aV hj]
def eF (a b:Rp) (i r k v j l:Nat):Int:=((if sV a i=v∧k=l then aF b i r j else 0) - (if tV a i=v∧r=j then aF a i l k else 0)) % a.p
def e2 (a b:Rp) (i y v z:Nat):Int:=eF a b i (y / dN a (sV a i)) (y % dN a (sV a i)) v (z / dN a v) (z % dN a v)
def mE (a b:Rp):Nat→Nat→Int:=λx k=>(cat (lE a b) (λi y=>(cat (lV a b) (e2 a b i y) a.dims.length)[k]?.getD 0) a.q.src.length)[x]?.getD 0
def nE (a b:Rp):Nat:=off (lE a b) a.q.src.length
def nV (a b:Rp):Nat:=off (lV a b) a.dims.length
theorem aPE {a b:Rp} (h:Fit a b):InP a.p (nE a b) (nV a b) (mE a b):=by
 intro x k hx hk;obtain ⟨i,y,hi,hy,rfl⟩:=aHI hx;obtain ⟨v,z,hv,hz,rfl⟩:=aHI hk;unfold mE;rw [sP _ hi hy,iA,sP _ hv hz,iA];exact wZ h.ra.hp
theorem aFX (F G:Nat→Nat→Int) (i j:Nat): ∀ k,aDi F G i j k=sN (λt=>F i t*G t j) k
 |0=>rfl
 |k+1=>by rw [aDi,sN,aFX F G i j k]
def unP (a:Rp) (v0 z0:Nat):Nat→Nat→Nat→Int:=λv j l=>if v=v0∧j*dN a v+l=z0 then 1 else 0
theorem aZX {a:Rp} (hp:mU a.p=true) (v0 z0 v m n:Nat):InP a.p m n (unP a v0 z0 v):=by
 have hb:=fF hp;intro i j _ _;unfold unP;split <;> omega
theorem aRb {a b:Rp} (h:Fit a b) {v0 z0 i r k:Nat} (hv:v0<a.dims.length) (hz:z0<lV a b v0) (hi:i<a.q.src.length) (hr:r<dN b (tV a i)) (hk:k<dN a (sV a i)):
  aND a b (unP a v0 z0) i r k=eF a b i r k v0 (z0 / dN a v0) (z0 % dN a v0):=by
 have hb:=fF h.ra.hp;obtain ⟨hj0,hl0⟩:=aIH hz
 have key: ∀ v j l,l<dN a v→(v=v0∧j*dN a v+l=z0↔v=v0∧j=z0 / dN a v0∧l=z0 % dN a v0):=by
  intro v j l hl;constructor
  ·rintro ⟨rfl,rfl⟩;exact ⟨rfl,(aDZ hl).symm,(aDa hl).symm⟩
  ·rintro ⟨rfl,rfl,rfl⟩;exact ⟨rfl,aCb⟩
 have e1:aBd a.p (dN b (sV a i)) (aF b i) (unP a v0 z0 (sV a i)) r k=(if sV a i=v0∧k=z0 % dN a v0 then aF b i r (z0 / dN a v0) else 0) % a.p:=by
  unfold aBd;rw [aFX];by_cases e:sV a i=v0∧k=z0 % dN a v0
  ·rw [aV e,aFL (j:=z0 / dN a v0) (by rw [e.1];exact hj0)]
   ·unfold unP;rw [aV ((key _ _ _ hk).2 ⟨e.1,rfl,e.2⟩),Int.mul_one]
   ·intro t ht htj;unfold unP;rw [aX λg=>htj ((key _ _ _ hk).1 g).2.1,Int.mul_zero]
  ·rw [aX e,gW (g:=λ_=>0),aAq];intro t ht;unfold unP;rw [aX λg=>e ⟨((key _ _ _ hk).1 g).1,((key _ _ _ hk).1 g).2.2⟩,Int.mul_zero]
 have e2:aBd a.p (dN a (tV a i)) (unP a v0 z0 (tV a i)) (aF a i) r k=(if tV a i=v0∧r=z0 / dN a v0 then aF a i (z0 % dN a v0) k else 0) % a.p:=by
  unfold aBd;rw [aFX];by_cases e:tV a i=v0∧r=z0 / dN a v0
  ·rw [aV e,aFL (j:=z0 % dN a v0) (by rw [e.1];exact hl0)]
   ·unfold unP;rw [aV ((key _ _ _ (by rw [e.1];exact hl0)).2 ⟨e.1,e.2,rfl⟩),Int.one_mul]
   ·intro t ht htj;unfold unP;rw [aX λg=>htj ((key _ _ _ ht).1 g).2.2,Int.zero_mul]
  ·rw [aX e,gW (g:=λ_=>0),aAq];intro t ht;unfold unP;rw [aX λg=>e ⟨((key _ _ _ ht).1 g).1,((key _ _ _ ht).1 g).2.1⟩,Int.zero_mul]
 unfold aND eF;rw [e1,e2];generalize (if sV a i=v0∧k=z0 % dN a v0 then aF b i r (z0 / dN a v0) else 0)=x;generalize (if tV a i=v0∧r=z0 / dN a v0 then aF a i (z0 % dN a v0) k else 0)=y;rw [show x % a.p+(a.p - 1)*(y % a.p)=(x % a.p - y % a.p)+a.p*(y % a.p) by rw [Int.sub_mul];omega,Int.add_mul_emod_self_left];exact (Int.sub_emod x y a.p).symm
theorem aJK {a b:Rp} (h:Fit a b):pU a b=some ⟨nE a b,nV a b,cD (nE a b) (nV a b) (mE a b)⟩:=by
 have n5:=h.ra.n5;have e6:=h.ra.e6;have bV:=h.offV (bN _);have bE:=h.offE (bN _);unfold pU;rw [aQE h,aB];have z1:pQ ((List.range a.dims.length).map λv=>(⟨dN b v,dN a v,cD (dN b v) (dN a v) λ_ _=>0⟩:Mt))=some (cat (lV a b) (λ_ _=>0) a.dims.length):=aTE (l:=lV a b) (f:=λ_ _=>0) (by omega) (by omega);have z2:pQ ((List.range a.q.src.length).map λi=>(⟨dN b (tV a i),dN a (sV a i),cD (dN b (tV a i)) (dN a (sV a i)) λ_ _=>0⟩:Mt))=some (cat (lE a b) (λ_ _=>0) a.q.src.length):=aTE (l:=lE a b) (f:=λ_ _=>0) (by omega) (by omega);rw [z1,aB];rw [cZ (r:=(List.range (nV a b)).map λk=>eP (nE a b) λx=>mE a b x k) (λk=>((List.range k).map (λk=>eP (nE a b) λx=>mE a b x k),(k:Int))) (nV a b) (by simp) (λk hk=>?_) (λ_=>?_),aB,aNC h,aB,z2,aB,jR]
 ·have:=aCN (R:=nE a b) (N:=nV a b) (Nat.le_trans (Nat.mul_le_mul bE bV) (by decide)) (by unfold nE;omega) (by unfold nV;omega) (mE a b);unfold nE at this ⊢;rw [this,aB]
 ·obtain ⟨v0,z0,hv0,hz0,ek⟩:=aHI hk;unfold pT;simp only [jR];rw [show off (lV a b) a.dims.length=nV a b from rfl,iO hk,aR,bH (by omega),bH (by unfold nV;omega:((nV a b:Nat):Int)≤1048576),Bool.and_self,aR,eX,eX,dS (by simp;exact hk),aB]
  have eu:(List.replicate (nV a b) (0:Int)).set k 1=cat (lV a b) (λv z=>if v=v0∧z=z0 then 1 else 0) a.dims.length:=by
   unfold nV;rw [aRY,ek,aQD hv0 hz0]
  rw [eu,aRa (l:=lV a b) (r:=λv=>(dN b v:Int)) (c:=λv=>(dN a v:Int)) (z:=λv=>cD (dN b v) (dN a v) λ_ _=>0) (by omega) (by omega) (λv _=>eN _ _ _),aB]
  have eb:((List.range a.dims.length).map λv=>(⟨dN b v,dN a v,(List.range (lV a b v)).map (λz=>if v=v0∧z=z0 then (1:Int) else 0)⟩:Mt))=(List.range a.dims.length).map λv=>(⟨dN b v,dN a v,cD (dN b v) (dN a v) (unP a v0 z0 v)⟩:Mt):=by
   refine rF λv hv=>?_;congr 1;refine aWv λy hy=>?_;unfold unP;rw [aCb]
  rw [eb,aQF h (λv _=>aZX h.ra.hp _ _ _ _ _),aB];have ef:pQ ((List.range a.q.src.length).map λi=>(⟨dN b (tV a i),dN a (sV a i),cD (dN b (tV a i)) (dN a (sV a i)) (aND a b (unP a v0 z0) i)⟩:Mt))=some (cat (lE a b) (λi y=>aND a b (unP a v0 z0) i (y / dN a (sV a i)) (y % dN a (sV a i))) a.q.src.length):=aTE (l:=lE a b) (f:=λi y=>aND a b (unP a v0 z0) i (y / dN a (sV a i)) (y % dN a (sV a i))) (by omega) (by omega);rw [ef,aB,bH (by simp;unfold nV at hk;omega),aR,cA hk (by unfold nV;omega),←aBI (f:=λk=>eP (nE a b) λx=>mE a b x k)];congr 5;symm;refine aFW (by rw [dM];rfl) λi y hi hy=>?_;have hx:off (lE a b) i+y<nE a b:=pD hi hy;unfold eP;rw [List.getElem?_map,List.getElem?_range hx,Option.map_some];congr 1;obtain ⟨q1,q2⟩:=aIH hy;rw [aRb h hv0 hz0 hi q1 q2];unfold mE;rw [sP _ hi hy,iA,ek,sP _ hv0 hz0,iA];rfl
 ·unfold pT;simp only [jR];rw [show off (lV a b) a.dims.length=nV a b from rfl,jU (bN _),aZ]
theorem aUG {a b:Rp} (h:Fit a b):Tb a.p (nE a b) (nV a b) (mE a b):=by
 have bV:=h.offV (bN _);have bE:=h.offE (bN _);exact ⟨h.ra.hp,Nat.le_trans (Nat.mul_le_mul bE bV) (by decide),by unfold nE;omega,by unfold nV;omega,aPE h⟩
def fW (a b:Rp):Nat:=nV a b - rkF a.p (nE a b) (nV a b) (mE a b)
theorem bAM {p:Int} {m n:Nat} {F:Nat→Nat→Int} :rkF p m n F≤n:=aDc n
theorem aJL {a b:Rp} (h:Fit a b):qK a b=some (fW a b:Int):=by
 have bV:=h.offV (bN _);unfold qK;rw [aJK h,aB,aMw (aUG h),aB];have:= @bAM a.p (nE a b) (nV a b) (mE a b);have e:((cI a.p (nE a b) (mE a b) (nV a b)).2.length)=rkF a.p (nE a b) (nV a b) (mE a b):=rfl;simp only;rw [e,eY (by unfold nV at*;omega)];unfold fW;congr 1;omega
end
noncomputable section
def aVE (n:Nat) (l:List (List Int)):Mt:=⟨n,(l.length:Int),cD n l.length λi k=>cO l k i⟩
theorem aVF {n:Nat} {l:List (List Int)} (h: ∀ v∈l,v.length=n):l=(List.range l.length).map λk=>eP n λi=>cO l k i:=aUD h
theorem aWx {n:Nat} {l:List (List Int)} (hn:n≤1024) (hl:l.length≤512) (h: ∀ v∈l,v.length=n):dT n l=some (aVE n l):=by
 have hN:n*l.length≤1048576:=by have:=Nat.mul_le_mul hn hl;omega
 have e:=aCN hN (by omega) (by omega) (λi k=>cO l k i);rw [←aVF h] at e;exact e
theorem aOE {r c:Nat} (hN:c*r≤1048576) (hr:r≤1048576) (hc:c≤1048576) (F:Nat→Nat→Int):sO ⟨r,c,cD r c F⟩=some ⟨c,r,cD c r λi k=>F k i⟩:=by
 have hN':r*c≤1048576:=by rw [Nat.mul_comm];exact hN
 unfold sO;simp only;rw [aMr hN,aB];simp only;rw [cZ (r:=cD c r λi k=>F k i) (λt=>(cD c r (λi k=>if k<t then F k i else 0),(t:Int))) r (by simp) (λt ht=>?_) (λ_=>?_),aB]
 ·unfold oN;simp only;rw [iO ht,aR];rw [cZ (r:=cD c r (λi k=>if k<t+1 then F k i else 0)) (λx=>(cD c r (λi k=>if k<t∨(k=t∧i<x) then F k i else 0),(x:Int))) c (by simp) (λx hx=>?_) (λ_=>?_),aB,cA ht (by omega)]
  ·unfold oK;simp only;rw [iO hx,aR,atT hN' ht hx,aB,atT hN hx ht,aB,aRR hN hx ht,cA hx (by omega)];congr 3;refine cH λi j hi hj=>?_;simp only [aHx];by_cases e:i=x∧j=t
   ·rw [aV e,aV (by omega),e.1,e.2]
   ·rw [aX e];by_cases e2:j<t∨j=t∧i<x
    ·rw [aV e2,aV (by omega)]
    ·rw [aX e2,aX (by omega)]
  ·unfold oK;simp only;rw [jU (bN _),aZ];congr 2;refine cH λi j hi hj=>?_;by_cases e:j<t+1
   ·rw [aV e,aV (by omega)]
   ·rw [aX e,aX (by omega)]
 ·unfold oN;simp only;rw [jU (bN _),aZ];congr 2;exact cH λi j hi hj=>by rw [aV hj]
theorem aYP {p:Int} {n:Nat} {l:List (List Int)} (h:VecsP p n l):InP p n l.length λi k=>cO l k i:=λi k hi hk=>h.inP k i hk hi
theorem bAN {α β:Type} {f:α→β} {l:List α} {k:Nat} (hk:k<l.length):(l.take k).map f++[f l[k]]=(l.take (k+1)).map f:=by rw [yB hk,List.map_append];rfl
theorem aWy {q:Qv} (h:bQ q):aCL q=some q:=by
 obtain ⟨h1,h2,_⟩:=h;unfold bI at h1 h2;unfold aCL;rw [bH (by simp;omega),aR,bH (by simp;omega),aR];simp
end
end Go.Proofs.YtghechfdejhapaaGreat

/-
  Several texts of the claim in one.
-/
import Derived.Test.YtilpfdokmlanjaaGreatDoorH7
set_option linter.unusedVariables false
set_option linter.unusedSimpArgs false
namespace Go.Proofs.YtilpfdokmlanjaaGreatDoor
open Go.RowKit
noncomputable section
set_option maxRecDepth 10000
set_option maxHeartbeats 4000000
def pU (a0:Int) (a1:(List (List Int))):Option Mt:=
 (fZ a1).bind λv1=>
 some ((⟨(a1.length:Int),a0,v1⟩:Mt))
theorem aCi (a0:Int) (a1:(List (List Int))) (r:Mt) (h:pU a0 a1=some r):HasC Tryz.prog 258 [.int a0,.list 1 (a1.map (jA 1 eI))] (.agg (eM r)):=by
 exact hM [.cell 4 130] Tryz.func258 Tryz.ntmps258 k<|sR<|ae (cH aQ k k) k<|an<|tn<|sR<|am k k<|ln k4<|am k k<|am k k<|oB h λv1 hv1 h=>ae (cL dH (vO a1 v1 hv1) k3 (bN k aI)) k<|ae (mG aQ k k k k k k) k<|ae (ws k) k<|an<|tn<|aD<|sp h (aR k k k (mA (aZ (k) (aZ (k) (aZ (fK dH k k) fH)))))
def rD (v2:(Mt×(List Int))) (x1:((List (List Int))×Int)):Option (((List (List Int))×Int) ⊕ (List (List Int))):=
 bif decide (x1.2<((v2.2.length:Nat):Int)) then
 ((dD v2.1 x1.2).bind λv4=>
 (tT ((v2.1.cells.drop (0+(wr (x1.2*v2.1.cols)).toNat)).take ((wr ((wr (x1.2+1))*v2.1.cols)).toNat - (wr (x1.2*v2.1.cols)).toNat))).bind λv5=>
 bif decide (x1.1.length+1≤4294967296) then
 (some (.inl ((x1.1++[v5]),wr (x1.2+1))))
 else none)
 else
 (some (.inr x1.1))
def tA (a0:Int) (a1:Int) (a2:(List (List Int))):Option Sc:=
 (pU a1 a2).bind λv1=>
 (rZ a0 v1).bind λv2=>
 (Lp (rD v2) ([],0)).bind λy7=>
 some ((⟨a1,y7⟩:Sc))
theorem aCP (a0:Int) (a1:Int) (a2:(List (List Int))) (r:Sc) (h:tA a0 a1 a2=some r):HasC Tryz.prog 189 [.int a0,.int a1,.list 1 (a2.map (jA 1 eI))] (.agg (eS r)):=by
 refine hM [.cell 6 134] Tryz.func189 Tryz.ntmps189 k<|sR<|ae (cH aQ k k) k<|an<|tn<|sR<|am k k<|am k k<|am k k<|oB h λv1 hv1 h=>ae (cM (aCi a1 a2 v1 hv1) k3 (bN k (bN k aI))) k<|oB h λv2 hv2 h=>ae (AEff.conv (mH (x:= .tuple [.agg [.int v2.1.rows,.int v2.1.cols,.own 2 0 (v2.1.cells.map eI).length],.own 3 0 (v2.2.map eI).length]) (nb:=[(2,⟨1,cN (v2.1.cells.map eI)⟩),(3,⟨1,cN (v2.2.map eI)⟩)]) (aEm a0 v1 v2 hv2) k (by rfl) k k (rX (bE bA (bE bA (bE (dH.good _) tH))) (rX (dH.good _) aDr)) (bN k (aN (vaM k2) aI))) (v':= .tuple [.agg [.int v2.1.rows,.int v2.1.cols,.own 2 0 v2.1.cells.length],.own 3 0 v2.2.length]) (ed':=[(2,some ⟨1,v2.1.cells.map (ow eI)⟩),(3,some ⟨1,v2.2.map (ow eI)⟩)]) (by simp only [bF]) (vD (nb':=[(2,⟨1,v2.1.cells.map (ow eI)⟩),(3,⟨1,v2.2.map (ow eI)⟩)]) (by simp only [nK]))) k<|am k k<|ae (gY k k (by intro _ h;cases h)) k<|ae (gY k k (by intro _ h;cases h)) k<|ae (cH aQ k k) k<|ae (ws k) k<|aT k2<|sR<|aT k2<|sQ<|sR<|am k k ?_;refine ae (lU aQ k k k k) k<|am k k<|an<|tn<|aH<|oB h λy7 hy7 h=>bX (body:=(rD v2)) hy7 (λ(x1:((List (List Int))×Int))=>mN [(1,.int a1),(6,.ptr 0 0 0),(7,.ptr 1 0 0),(9,.own 3 0 x1.1.length),(20,.int ((v2.2.length:Nat):Int)),(21,.int x1.2)] [(0,⟨2,[[.int 0,.nil 1]]⟩),(1,⟨3,[oMt v2.1 2]⟩),(2,⟨1,v2.1.cells.map (ow eI)⟩),(3,⟨1,x1.1.map (ow (jA 1 eI))⟩)] 4) (λr e t=>e= .exit 0∧Ent t (mN [(1,.int a1),(6,.ptr 0 0 0),(9,.own 1 0 r.length)] [(0,⟨2,[[.int 0,.nil 1]]⟩),(1,⟨1,r.map (ow (jA 1 eI))⟩)] 2)) (uH (σ:=sg [(0,0),(1,4),(2,2)]) (xU 3 k2 (vE ⟨_,k,⟨k,k,k,k⟩⟩ (bK k2))) (cP k<|nO k<|dJ k<|hX k k<|bA) k) ?_ ?_
 ·intro x1 o h;refine sR<|cm k4<|an<|tn<|sQ<|cJ k h (λ_ h=>?_) λ_ h=>aY<|aC<|aC<|sp h ⟨_,k,k,(ntZ [0,3] (bK k2) (cP k<|sU (gM.plainO _) k<|bA) k4)⟩;exact aG<|tn<|sQ<|aH<|sR<|am k k<|aT k2<|rg<|am k k<|lp k8<|am k k<|oB h λv4 hv4 h=>ae (AEff.pureE (nD (σ:=sg [(0,2)]) (σ':=sg [(2,0)]) (touch:=[2]) (news:=[]) (hl2:=[(2,⟨1,v2.1.cells.map (ow eI)⟩)]) (n':=4) (r2:= .own 2 (0+(wr (x1.2*v2.1.cols)).toNat) ((wr ((wr (x1.2+1))*v2.1.cols)).toNat - (wr (x1.2*v2.1.cols)).toNat)) (eH v2.1 x1.2 v4 hv4) k k ⟨_,_,k,⟨_,_,k,k,⟨_,_,k,k,⟨_,_,k,⟨k,k,k,k⟩,k⟩⟩⟩,⟨_,_,k,k,k⟩⟩ ⟨⟨_,k,k,.inl ⟨k,dH.plainO _⟩⟩,k,bA⟩ k k k ⟨⟨_,k,k,.inl ⟨k,dH.plainO _⟩⟩,k,bA⟩ k ⟨k,k,(by simp only [bF,lA,lT,lR,lC,lN]),k⟩ k ⟨k,dH.tame _ _,bA⟩ k k) ⟨k,k,bA⟩) k<|oB h λv5 hv5 h=>ae (cL dH (aDA ((v2.1.cells.drop (0+(wr (x1.2*v2.1.cols)).toNat)).take ((wr ((wr (x1.2+1))*v2.1.cols)).toNat - (wr (x1.2*v2.1.cols)).toNat)) v5 hv5) k3 (aN (aMZ dH k) aI)) k<|ae (wl k) k<|cG h λq6 h=>ae (aDw aQ (l:=x1.1) (c:=[.own 4 0 v5.length]) q6 k k k k k k k k k k k k k k) k<|aa k k<|an<|aX<|tn<|aO (t:=mN [(1,.int a1),(6,.ptr 0 0 0),(7,.ptr 1 0 0),(9,.own 6 0 ((x1.1++[v5]).length)),(20,.int ((v2.2.length:Nat):Int)),(21,.int x1.2)] [(0,⟨2,[[.int 0,.nil 1]]⟩),(1,⟨3,[oMt v2.1 2]⟩),(2,⟨1,v2.1.cells.map (ow eI)⟩),(6,⟨1,List.map (ow (jA 1 eI)) (x1.1++[v5])⟩)] 7) (Ent.trans (yL (b:=6) (b':=4) (j:=0) (es':=v5.map eI) k k k k (bF _ _) (dH.frzs _)) (bL (xU 3 k2 (vE ⟨_,k,⟨k,k,(by simp only [bF,lA,lT,lR,lC,lN]),k⟩⟩ (bK k2))) (cP k<|nO k<|dJ k<|hX ⟨_,k,k,.inl ⟨aDx v5 k,gM.plainO _⟩⟩ k<|bA) k4))<|rg<|ae (bH k k) k<|am k k<|an<|tn<|sp h ⟨_,k,(ntZ [0,1,2,6] (bK k2) (cP k<|nO k<|dJ k<|sU (gM.plainO _) k<|bA) k4)⟩
 ·rintro e t ⟨rfl,hent⟩;exact aM<|tn<|aO hent<|sR<|am k k<|am k k<|ae (mG aQ k k k k k k) k<|ae (ws k) k<|an<|tn<|aD<|sp h (aR k k k (mA (aZ (k) (aZ (fK gM k k) fH))))
def oC (a1:(List (List Int))) (x1:((List Int)×Int)):Option (((List Int)×Int) ⊕ (List Int)):=
 bif decide (x1.2<(a1.length:Int)) then
 ((dL a1 x1.2).bind λv2=>
 bif decide (x1.1.length+v2.length≤4294967296) then
 (some (.inl ((x1.1++v2),wr (x1.2+1))))
 else none)
 else
 (some (.inr x1.1))
def pA (a0:Int) (a1:(List (List Int))):Option Mt:=
 (Lp (oC a1) ([],0)).bind λy4=>
 some ((⟨(a1.length:Int),a0,y4⟩:Mt))
theorem aAG (a0:Int) (a1:(List (List Int))) (r:Mt) (h:pA a0 a1=some r):HasC Tryz.prog 252 [.int a0,.list 1 (a1.map (jA 1 eI))] (.agg (eM r)):=by
 refine hM [.cell 4 130] Tryz.func252 Tryz.ntmps252 k<|sR<|ae (cH aQ k k) k<|an<|tn<|sR<|am k k<|ln k4<|am k k<|ae (mG aQ k k k k k k) k<|ae (cH aQ k k) k<|ae (ws k) k<|an<|tn<|sQ<|sR<|aT k2<|aH<|oB h λy4 hy4 h=>bX (body:=(oC a1)) hy4 (λ(x1:((List Int)×Int))=>mN [(1,.list 1 (a1.map (jA 1 eI))),(4,.ptr 0 0 0),(5,.ptr 1 0 0),(6,.int x1.2)] [(0,⟨3,[jM]⟩),(1,⟨3,[[.int (a1.length:Int),.int a0,.own 2 0 x1.1.length]]⟩),(2,⟨1,x1.1.map (ow eI)⟩)] 3) (λr e t=>e= .exit 0∧Ent t (mN [(4,.ptr 0 0 0),(5,.ptr 1 0 0)] [(0,⟨3,[jM]⟩),(1,⟨3,[[.int (a1.length:Int),.int a0,.own 2 0 r.length]]⟩),(2,⟨1,r.map (ow eI)⟩)] 3)) (uH (σ:=sg [(0,0),(1,1)]) (bK k2) (cP k<|hX ⟨_,k,k,.inr ⟨_,_,k,⟨_,_,k,k,⟨_,_,k,k,⟨_,_,k,⟨k,k,k,k⟩,k⟩⟩⟩,k⟩⟩ k<|hX k k<|bA) k) ?_ ?_
 ·intro x1 o h;exact sQ<|sR<|am k k<|am k k<|ln k4<|cm k4<|an<|tn<|cJ k h (λ_ h=>aG<|tn<|sQ<|aH<|aW jN<|fp k8<|lp k8<|am k k<|am k k<|oB h λv2 hv2 h=>ae (xl hv2 k) k<|lr k7<|cG h λq3 h=>ae (oZ aQ (l:=x1.1) (m:=v2) vL q3 k k k k k k k k k k k k) k<|fp k8<|ae (ws k) k<|an<|tU (by kernel_rfl)<|aX<|tn<|rg<|am k k<|ae (bH k k) k<|aT k2<|sp h ⟨_,k,(ntZ [0,1,3] (bK k2) (cP k<|nO k<|dJ k<|bA) k4)⟩) λ_ h=>aY<|aC<|aC<|sp h ⟨_,k,k,(bL (bK k2) (cP k<|nO k<|dJ k<|bA) k4)⟩
 ·rintro e t ⟨rfl,hent⟩;exact aM<|tn<|aO hent<|sR<|lp k8<|ae (ws k) k<|an<|tn<|aD<|sp h (aR k k k (mA (aZ (k) (aZ (k) (aZ (fK dH k k) fH)))))
def mT (v1:(Mt×(List Int))) (x1:((List (List Int))×Int)):Option (((List (List Int))×Int) ⊕ (List (List Int))):=
 bif decide (x1.2<((v1.2.length:Nat):Int)) then
 (bif (decide (0≤wr (x1.2*v1.1.cols))&&(decide (wr (x1.2*v1.1.cols)≤wr ((wr (x1.2*v1.1.cols))+v1.1.cols))&&decide (wr ((wr (x1.2*v1.1.cols))+v1.1.cols)≤((v1.1.cells.length:Nat):Int)))) then
 (bif decide (([]:(List Int)).length +((v1.1.cells.drop (0+(wr (x1.2*v1.1.cols)).toNat)).take ((wr ((wr (x1.2*v1.1.cols))+v1.1.cols)).toNat - (wr (x1.2*v1.1.cols)).toNat)).length ≤4294967296) then
 (bif decide (x1.1.length+1≤4294967296) then
 (some (.inl ((x1.1++[(([]:(List Int))++((v1.1.cells.drop (0+(wr (x1.2*v1.1.cols)).toNat)).take ((wr ((wr (x1.2*v1.1.cols))+v1.1.cols)).toNat - (wr (x1.2*v1.1.cols)).toNat)))]),wr (x1.2+1))))
 else none)
 else none)
 else none)
 else
 (some (.inr x1.1))
def nH (a0:Int) (a1:Mt):Option (List (List Int)):=
 (pF a0 a1).bind λv1=>
 (Lp (mT v1) (([]:(List (List Int))),0)).bind λy6=>
 some (y6)
theorem yR (a0:Int) (a1:Mt) (r:(List (List Int))) (h:nH a0 a1=some r):HasC Tryz.prog 251 [.int a0,.agg (eM a1)] (.list 1 (r.map (jA 1 eI))):=by
 refine hM [.tmp 4] Tryz.func251 Tryz.ntmps251 k<|sR<|ae (wb k) k<|aT k2<|sR<|am k k<|lp k8<|oB h λv1 hv1 h=>ae (AEff.conv (mH (x:= .tuple [.agg [.int v1.1.rows,.int v1.1.cols,.own 1 0 (v1.1.cells.map eI).length],.own 2 0 (v1.2.map eI).length]) (nb:=[(1,⟨1,cN (v1.1.cells.map eI)⟩),(2,⟨1,cN (v1.2.map eI)⟩)]) (aCV a0 a1 v1 hv1) k (by rfl) k k (rX (bE bA (bE bA (bE (dH.good _) tH))) (rX (dH.good _) aDr)) (bN k (aN (iV k) aI))) (v':= .tuple [.agg [.int v1.1.rows,.int v1.1.cols,.own 1 0 v1.1.cells.length],.own 2 0 v1.2.length]) (ed':=[(1,some ⟨1,v1.1.cells.map (ow eI)⟩),(2,some ⟨1,v1.2.map (ow eI)⟩)]) (by simp only [bF]) (vD (nb':=[(1,⟨1,v1.1.cells.map (ow eI)⟩),(2,⟨1,v1.2.map (ow eI)⟩)]) (by simp only [nK]))) k<|am k k<|ae (gY k k (by intro _ h;cases h)) k<|ae (gY k k (by intro _ h;cases h)) k<|ae (cH aQ k k) k<|ae (ws k) k<|aT k2<|sR<|ae (wl k) k<|aT k2<|aO (t:=mN [(5,.ptr 3 0 0),(6,.own 2 0 v1.2.length),(7,.own 4 0 (([]:(List (List Int))).length))] [(1,⟨1,v1.1.cells.map (ow eI)⟩),(2,⟨1,v1.2.map (ow eI)⟩),(3,⟨3,[oMt v1.1 1]⟩),(4,⟨1,List.map (ow (jA 1 eI)) ([]:(List (List Int)))⟩)] 5) (bL (xU 2 k2 (vE ⟨_,k,⟨k,k,(by simp only [bF,lA,lT,lR,lC,lN]),k⟩⟩ bA)) (dJ k<|dJ k<|nO k<|sU (gM.plainO _) k<|bA) k4)<|sQ<|sR ?_;refine aT k2<|aH<|oB h λy6 hy6 h=>bX (body:=(mT v1)) hy6 (λ(x1:((List (List Int))×Int))=>mN [(5,.ptr 0 0 0),(6,.own 2 0 v1.2.length),(7,.own 3 0 x1.1.length),(8,.int x1.2)] [(0,⟨3,[oMt v1.1 1]⟩),(1,⟨1,v1.1.cells.map (ow eI)⟩),(2,⟨1,v1.2.map (ow eI)⟩),(3,⟨1,x1.1.map (ow (jA 1 eI))⟩)] 4) (λr e t=>e= .exit 0∧Ent t (mN [(7,.own 0 0 r.length)] [(0,⟨1,r.map (ow (jA 1 eI))⟩)] 1)) (ntZ [3,1,2,4] (bK k2) (nO k<|dJ k<|dJ k<|sU (gM.plainO _) k<|bA) k4) ?_ ?_
 ·intro x1 o h;refine sQ<|sR<|am k k<|am k k<|ae (lU aQ k k k k) k<|cm k4<|an<|tn<|cJ k h (λ_ h=>?_) λ_ h=>aY<|aC<|aC<|sp h ⟨_,k,k,(ntZ [3] (bK k2) (sU (gM.plainO _) k<|bA) k4)⟩;refine aG<|tn<|sQ<|aH<|rg<|am k k<|ae (wl k) k<|fp k8<|lp k8<|am k k<|fp k8<|lp k8<|ae (gI k k) k<|am k k<|fp k8<|lp k8<|ae (gI k k) k<|fp k8<|lp k8<|ae (bH k k) k<|cG h λq3 h=>ae (aCK aQ (l:=wr (x1.2*v1.1.cols)) (h:=wr ((wr (x1.2*v1.1.cols))+v1.1.cols)) q3 k k k k k k k k) k<|cG h λq4 h=>ae (oZ aQ (l:=([]:(List Int))) (m:=((v1.1.cells.drop (0+(wr (x1.2*v1.1.cols)).toNat)).take ((wr ((wr (x1.2*v1.1.cols))+v1.1.cols)).toNat - (wr (x1.2*v1.1.cols)).toNat))) vL q4 k k k k k (aNR dH k) k k k k k k) k<|ae (wl k) k<|cG h λq5 h=>ae (aDw aQ (l:=x1.1) (c:=[.own 5 0 ((([]:(List Int))++((v1.1.cells.drop (0+(wr (x1.2*v1.1.cols)).toNat)).take ((wr ((wr (x1.2*v1.1.cols))+v1.1.cols)).toNat - (wr (x1.2*v1.1.cols)).toNat))).length)]) q5 k k k k k k k k k k k k k k) k<|aa k k<|an<|aX<|tn<|aO (t:=mN [(5,.ptr 0 0 0),(6,.own 2 0 v1.2.length),(7,.own 7 0 ((x1.1++[(([]:(List Int))++((v1.1.cells.drop (0+(wr (x1.2*v1.1.cols)).toNat)).take ((wr ((wr (x1.2*v1.1.cols))+v1.1.cols)).toNat - (wr (x1.2*v1.1.cols)).toNat)))]).length)),(8,.int x1.2)] [(0,⟨3,[oMt v1.1 1]⟩),(1,⟨1,v1.1.cells.map (ow eI)⟩),(2,⟨1,v1.2.map (ow eI)⟩),(7,⟨1,List.map (ow (jA 1 eI)) (x1.1++[(([]:(List Int))++((v1.1.cells.drop (0+(wr (x1.2*v1.1.cols)).toNat)).take ((wr ((wr (x1.2*v1.1.cols))+v1.1.cols)).toNat - (wr (x1.2*v1.1.cols)).toNat)))])⟩)] 8) (Ent.trans (yL (b:=7) (b':=5) (j:=0) (es':=List.map eI (([]:(List Int))++((v1.1.cells.drop (0+(wr (x1.2*v1.1.cols)).toNat)).take ((wr ((wr (x1.2*v1.1.cols))+v1.1.cols)).toNat - (wr (x1.2*v1.1.cols)).toNat)))) k k k k (bF _ _) (dH.frzs _)) (bL (xU 2 k2 (vE ⟨_,k,⟨k,k,(by simp only [bF,lA,lT,lR,lC,lN]),k⟩⟩ (bK k2))) (nO k<|dJ k<|dJ k<|hX ⟨_,k,k,.inl ⟨aDx (([]:(List Int))++((v1.1.cells.drop (0+(wr (x1.2*v1.1.cols)).toNat)).take ((wr ((wr (x1.2*v1.1.cols))+v1.1.cols)).toNat - (wr (x1.2*v1.1.cols)).toNat))) k,gM.plainO _⟩⟩ k<|bA) k4)) ?_;exact rg<|am k k<|ae (bH k k) k<|aT k2<|sp h ⟨_,k,(ntZ [0,1,2,7] (bK k2) (nO k<|dJ k<|dJ k<|sU (gM.plainO _) k<|bA) k4)⟩
 ·rintro e t ⟨rfl,hent⟩;exact aM<|tn<|aO hent<|sR<|am k k<|aT k2<|aD<|sp h (aR k k k (nM (fK gM k k)))
def pB (a0:Int) (a1:Int) (a2:(List (List Int))):Option Sc:=
 (pA a1 a2).bind λv1=>
 (nH a0 v1).bind λv2=>
 some ((⟨a1,v2⟩:Sc))
theorem aAH (a0:Int) (a1:Int) (a2:(List (List Int))) (r:Sc) (h:pB a0 a1 a2=some r):HasC Tryz.prog 197 [.int a0,.int a1,.list 1 (a2.map (jA 1 eI))] (.agg (eS r)):=by
 exact hM [.cell 6 134] Tryz.func197 Tryz.ntmps197 k<|sR<|ae (cH aQ k k) k<|an<|tn<|sR<|am k k<|am k k<|am k k<|am k k<|oB h λv1 hv1 h=>ae (cM (aAG a1 a2 v1 hv1) k3 (bN k (bN k aI))) k<|oB h λv2 hv2 h=>ae (cL gM (yR a0 v1 v2 hv2) k3 (bN k (aN (vaM k2) aI))) k<|ae (mG aQ k k k k k k) k<|ae (ws k) k<|an<|tn<|aD<|sp h (aR k k k (mA (aZ (k) (aZ (fK gM k k) fH))))
def jS (a0:(List Int)) (a1:Int) (a2:Int):Option Bool:=
 bif !decide ((a0.length:Int)=a1) then
 (some (true))
 else
 ((lP a2 a0).bind λv2=>
 some (!v2))
theorem aAA (a0:(List Int)) (a1:Int) (a2:Int) (r:Bool) (h:jS a0 a1 a2=some r):HasC Tryz.prog 255 [.list 1 (a0.map eI),.ref (eI a1),.ref (eI a2)] (.bl r):=by
 exact hM [.tmp 4] Tryz.func255 Tryz.ntmps255 k<|sR<|aT k2<|sR<|am k k<|ln k4<|lr k7<|cm k4<|am k k<|oP h (λq1 h=>aJ 9 k q1<|aK k4<|aK k4<|pk k3<|aT k2<|aD<|eJ h k2) λq1 h=>aJ 9 k q1<|lr k7<|am k k<|oB h λv2 hv2 h=>ae (aE (xW a2 a0 v2 hv2) k (bN k (bN k aI))) k<|ae (cK k) k<|pk k3<|aT k2<|aD<|eJ h k2
def mU (a0:Int) (a1:Int) (a2:(List (List Int))):Option Bool:=
 (fA a1 0 8).bind λv1=>
 bif v1 then
 (bif decide ((a2.length:Int)≤16) then
 ((dE a2 (λb0=>jS b0 a1 a0)).bind λv4=>
 some (!v4))
 else
 (some (false)))
 else
 (some (false))
theorem aBQ (a0:Int) (a1:Int) (a2:(List (List Int))) (r:Bool) (h:mU a0 a1 a2=some r):HasC Tryz.prog 187 [.int a0,.int a1,.list 1 (a2.map (jA 1 eI))] (.bl r):=by
 exact hM [.tmp 6] Tryz.func187 Tryz.ntmps187 k<|sR<|ae (wb k) k<|ae (wb k) k<|aT k2<|sR<|lp k8<|oB h λv1 hv1 h=>ae (aE (hJ a1 0 8 v1 hv1) k (bN k (bN k (bN k aI)))) k<|am k k<|oP h (λq2 h=>aJ 9 k q2<|am k k<|ln k4<|cm k4<|pk k3<|am k k<|oP h (λq3 h=>aJ 14 k q3<|am k k<|ae (wV (vs:=[.ptr 1 0 0,.ptr 0 0 0]) k (by simp)) k<|oB h λv4 hv4 h=>ae (aE (jH a2 (λb0=>jS b0 a1 a0) k (λb0 r h=>aAA b0 a1 a0 r h) v4 hv4) k (bN k (aN (aFU (zN (aBn k k (bD (dK k) tF)) (zN (aBn k k (bD (dK k) tF)) zL))) aI))) k<|ae (cK k) k<|pk k3<|aT k2<|aD<|eJ h k2) λq3 h=>aJ 14 k q3<|aK k4<|aK k4<|pk k3<|aT k2<|aD<|eJ h k2) λq2 h=>aJ 9 k q2<|aK k4<|ak k k<|pk k3<|am k k<|aK k4<|aK k4<|pk k3<|aT k2<|aD<|eJ h k2
def gF (a0:(List Int)) (a1:(List Int)):Option Bool:=
 (kB a0 a1).bind λv1=>
 some (v1)
theorem yS (a0:(List Int)) (a1:(List Int)) (r:Bool) (h:gF a0 a1=some r):HasC Tryz.prog 257 [.list 1 (a0.map eI),.list 1 (a1.map eI)] (.bl r):=by
 exact hM [.tmp 4] Tryz.func257 Tryz.ntmps257 k<|sR<|aT k2<|sR<|am k k<|am k k<|oB h λv1 hv1 h=>ae (aE (wG a0 a1 v1 hv1) k (bN k (bN k aI))) k<|aT k2<|aD<|eJ h k2
def cU (a0:(List (List Int))) (a1:(List (List Int))) (a2:((List Int)→(List Int)→Option Bool)) (x1:Int):Option (Int ⊕ (Unit ⊕ Bool)):=
 bif decide (x1<(a0.length:Int)) then
 ((dL a0 x1).bind λv3=>
 (dL a1 x1).bind λv4=>
 (a2 v3 v4).bind λv5=>
 bif !v5 then
 (some (.inr (.inr (false))))
 else
 (some (.inl (wr (x1+1)))))
 else
 (some (.inr (.inl ())))
def cX (a0:(List (List Int))) (a1:(List (List Int))) (a2:((List Int)→(List Int)→Option Bool)):Option Bool:=
 bif !decide ((a0.length:Int)=(a1.length:Int)) then
 (some (false))
 else
 ((Lp (cU a0 a1 a2) 0).bind λy7=>
 Sum.elim (λy8=>
 some (true)
 )
 (λy9=>
 some y9
 )
 y7)
theorem mD (a0:(List (List Int))) (a1:(List (List Int))) (a2:((List Int)→(List Int)→Option Bool)) {f2:FuncId} {c2:List AV} (hc2:c2.all dI=true) (hf2: ∀ b0 b1 r,a2 b0 b1=some r→HasC Tryz.prog f2 ([.list 1 (b0.map eI),.list 1 (b1.map eI)]++c2) (.bl r)) (r:Bool) (h:cX a0 a1 a2=some r):HasC Tryz.prog 256 [.list 1 (a0.map (jA 1 eI)),.list 1 (a1.map (jA 1 eI)),.fn f2 c2] (.bl r):=by
 refine tR aQ (rvs:=[.tmp 6]) (ns:=nmA) Tryz.func256 k k Tryz.ntmps256 k k (kU k (kU k (kU hc2 aAc)))<|sR<|aT k2<|sQ<|sR<|am k k<|ln k4<|am k k<|ln k4<|cm k4<|an<|tn<|cJ k h (λ_ h=>sR<|aT k2<|aD<|aB<|eJ h k2) λ_ h=>?_;refine aG<|tn<|sQ<|sR<|am k k<|ln k4<|am k k<|an<|tn<|aH<|oB h λy7 hy7 h=>bX (body:=(cU a0 a1 a2)) hy7 (λ(x1:Int)=>mN [(1,.list 1 (a1.map (jA 1 eI))),(2,.fn f2 c2),(15,.list 1 (a0.map (jA 1 eI))),(16,.int (a0.length:Int)),(17,.int x1)] [] 0) (λr e t=>Sum.elim (λa=>(λr e t=>e= .exit 0∧Ent t (mN [] [] 0)) a e t) (λb=>(λr e t=>e= .ret∧nJ TT [.tmp 6] (.bl r) .ret t) b e t) r) (bL (xU 1 k2 (vE ⟨_,k,⟨k,qL _ hc2⟩⟩ (bK k2))) bA k4) ?_ ?_
 ·intro x1 o h;refine sR<|cm k4<|an<|tn<|sQ<|cJ k h (λ_ h=>?_) λ_ h=>aY<|aC<|aC<|sp h ⟨_,k,k,(bL bA bA k4)⟩;refine aG<|tn<|sQ<|aH<|sR<|am k k<|oB h λv3 hv3 h=>ae (xl hv3 k) k<|lr k7<|aa k k<|aT k2<|sR<|am k k<|am k k<|oB h λv4 hv4 h=>ae (xl hv4 k) k<|lr k7<|aT k2<|sR<|am k k<|am k k<|am k k<|oB h λv5 hv5 h=>ae (aCz hc2 (hf2 v3 v4 v5 hv5) k k (bN k (bN k aI))) k<|ae (cK k) k ?_;exact an<|tn<|cJ k h (λ_ h=>sR<|aT k2<|aD<|aU<|aB<|aB<|sp h ⟨_,k,k,aR k k k (iY k)⟩) λ_ h=>aG<|aX<|tn<|rg<|ae (bH k k) k<|am k k<|an<|tn<|sp h ⟨_,k,(bL (xU 1 k2 (vE ⟨_,k,⟨k,qL _ hc2⟩⟩ (bK k2))) bA k4)⟩
 ·intro e t hX;rcases y7 with y8|y9
  ·obtain ⟨rfl,hent⟩:=hX;exact aM<|tn<|aO hent<|sR<|aT k2<|aD<|eJ h k2
  ·obtain ⟨rfl,hent⟩:=hX;exact aU<|aB<|sp h hent
def lH (a0:Sc) (a1:Sc):Option Bool:=
 bif decide (a0.size=a1.size) then
 ((cX a0.basis a1.basis (λb0 b1=>gF b0 b1)).bind λv2=>
 some (v2))
 else
 (some (false))
theorem aAf (a0:Sc) (a1:Sc) (r:Bool) (h:lH a0 a1=some r):HasC Tryz.prog 188 [.agg (eS a0),.agg (eS a1)] (.bl r):=by
 exact hM [.tmp 4] Tryz.func188 Tryz.ntmps188 k<|sR<|ae (wb k) k<|ae (wb k) k<|aT k2<|sR<|fp k8<|lp k8<|fp k8<|lp k8<|cm k4<|am k k<|oP h (λq1 h=>aJ 10 k q1<|fp k8<|lp k8<|fp k8<|lp k8<|oB h λv2 hv2 h=>ae (aE (mD a0.basis a1.basis (λb0 b1=>gF b0 b1) k (λb0 b1 r h=>yS b0 b1 r h) v2 hv2) k (bN k (bN k (aN (aFU zL) aI)))) k<|pk k3<|aT k2<|aD<|eJ h k2) λq1 h=>aJ 10 k q1<|aK k4<|aK k4<|ak k k<|pk k3<|aT k2<|aD<|eJ h k2
def rE (a0:Int) (a1:Sc):Option Bool:=
 (gD a0).bind λv1=>
 bif !v1 then
 (some (false))
 else
 ((mU a0 a1.size a1.basis).bind λv3=>
 bif !v3 then
 (some (false))
 else
 ((tA a0 a1.size a1.basis).bind λv5=>
 (lH v5 a1).bind λv6=>
 some (v6)))
theorem aER (a0:Int) (a1:Sc) (r:Bool) (h:rE a0 a1=some r):HasC Tryz.prog 129 [.int a0,.agg (eS a1)] (.bl r):=by
 exact hM [.tmp 4] Tryz.func129 Tryz.ntmps129 k<|sR<|ae (wb k) k<|aT k2<|sQ<|sR<|am k k<|oB h λv1 hv1 h=>ae (aE (kD a0 v1 hv1) k (bN k aI)) k<|ae (cK k) k<|am k k<|oP h (λq2 h=>aJ 8 k q2<|aK k4<|aK k4<|aK k4<|ak k k<|pk k3<|an<|tn<|dC k k<|sR<|aT k2<|aD<|aB<|eJ h k2) λq2 h=>aJ 8 k q2<|am k k<|fp k8<|lp k8<|fp k8<|lp k8<|oB h λv3 hv3 h=>ae (aE (aBQ a0 a1.size a1.basis v3 hv3) k (bN k (bN k (bN k aI)))) k<|ae (cK k) k<|pk k3<|an<|tn<|cJ k h (λ_ h=>sR<|aT k2<|aD<|aB<|eJ h k2) λ_ h=>aG<|tn<|sQ<|aW jN<|am k k<|fp k8<|lp k8<|fp k8<|lp k8<|oB h λv5 hv5 h=>ae (cS (aCP a0 a1.size a1.basis v5 hv5) k3 (bN k (bN k (bN k aI)))) k<|lp k8<|oB h λv6 hv6 h=>ae (aE (aAf v5 a1 v6 hv6) k (aN (vaC k2) (aN (iV k) aI))) k<|aa k k<|an<|tU (by kernel_rfl)<|tn<|aD<|eJ h k2
def oD (a0:Int) (a1:Int) (a2:(List (List Int))) (x1:Int):Option (Int ⊕ (Unit ⊕ Bool)):=
 bif decide (x1<(a2.length:Int)) then
 ((dL a2 x1).bind λv2=>
 bif !decide ((v2.length:Int)=a1) then
 (some (.inr (.inr (false))))
 else
 ((dL a2 x1).bind λv4=>
 (iW a0 v4).bind λv5=>
 bif !v5 then
 (some (.inr (.inr (false))))
 else
 (some (.inl (wr (x1+1))))))
 else
 (some (.inr (.inl ())))
def sE (a0:Int) (a1:Int) (a2:(List (List Int))):Option Bool:=
 (Lp (oD a0 a1 a2) 0).bind λy7=>
 Sum.elim (λy8=>
 (kC a0).bind λv9=>
 bif v9 then
 ((gC a1 0 8).bind λv11=>
 bif v11 then
 (some (decide ((a2.length:Int)≤16)))
 else
 (some (false)))
 else
 (some (false))
 )
 (λy13=>
 some y13
 )
 y7
theorem aEr (a0:Int) (a1:Int) (a2:(List (List Int))) (r:Bool) (h:sE a0 a1 a2=some r):HasC Tryz.prog 249 [.int a0,.int a1,.list 1 (a2.map (jA 1 eI))] (.bl r):=by
 refine hM [.tmp 6] Tryz.func249 Tryz.ntmps249 k<|sR<|aT k2<|sQ<|sR<|aT k2<|aH<|oB h λy7 hy7 h=>bX (body:=(oD a0 a1 a2)) hy7 (λ(x1:Int)=>mN [(0,.int a0),(1,.int a1),(2,.list 1 (a2.map (jA 1 eI))),(7,.int x1)] [] 0) (λr e t=>Sum.elim (λa=>(λr e t=>e= .exit 0∧Ent t (mN [(0,.int a0),(1,.int a1),(2,.list 1 (a2.map (jA 1 eI)))] [] 0)) a e t) (λb=>(λr e t=>e= .ret∧nJ TT [.tmp 6] (.bl r) .ret t) b e t) r) (bL (bK k2) bA k4) ?_ ?_
 ·intro x1 o h;exact sQ<|sR<|am k k<|am k k<|ln k4<|cm k4<|an<|tn<|cJ k h (λ_ h=>aG<|tn<|sQ<|aH<|sR<|am k k<|am k k<|oB h λv2 hv2 h=>ae (xl hv2 k) k<|lr k7<|ln k4<|am k k<|cm k4<|am k k<|oP h (λq3 h=>aJ 21 k q3<|aK k4<|aK k4<|aK k4<|ak k k<|pk k3<|an<|tn<|dC k k<|sR<|aT k2<|aD<|aU<|aB<|aB<|sp h ⟨_,k,k,aR k k k (iY k)⟩) λq3 h=>aJ 21 k q3<|am k k<|am k k<|am k k<|oB h λv4 hv4 h=>ae (xl hv4 k) k<|lr k7<|oB h λv5 hv5 h=>ae (aE (tJ a0 v4 v5 hv5) k (bN k (bN k aI))) k<|ae (cK k) k<|pk k3<|an<|tn<|cJ k h (λ_ h=>sR<|aT k2<|aD<|aU<|aB<|aB<|sp h ⟨_,k,k,aR k k k (iY k)⟩) λ_ h=>aG<|aX<|tn<|rg<|am k k<|ae (bH k k) k<|aT k2<|sp h ⟨_,k,(bL (bK k2) bA k4)⟩) λ_ h=>aY<|aC<|aC<|sp h ⟨_,k,k,(bL (bK k2) bA k4)⟩
 ·intro e t hX;rcases y7 with y8|y13
  ·obtain ⟨rfl,hent⟩:=hX;exact aM<|tn<|aO hent<|sR<|am k k<|oB h λv9 hv9 h=>ae (aE (qS a0 v9 hv9) k (bN k aI)) k<|am k k<|oP h (λq10 h=>aJ 32 k q10<|am k k<|oB h λv11 hv11 h=>ae (aE (jB a1 0 8 v11 hv11) k (bN k (bN k (bN k aI)))) k<|pk k3<|am k k<|oP h (λq12 h=>aJ 36 k q12<|am k k<|ln k4<|cm k4<|pk k3<|aT k2<|aD<|eJ h k2) λq12 h=>aJ 36 k q12<|aK k4<|ak k k<|pk k3<|aT k2<|aD<|eJ h k2) λq10 h=>aJ 32 k q10<|aK k4<|pk k3<|am k k<|aK k4<|ak k k<|pk k3<|aT k2<|aD<|eJ h k2
  ·obtain ⟨rfl,hent⟩:=hX;exact aU<|aB<|sp h hent
def kK (a0:(List (List Int))) (a1:(List (List Int))) (x1:Int) (x2:Int):Option (Int ⊕ (Unit ⊕ Bool)):=
 (dL a0 x1).bind λv6=>
 bif decide (x2<(v6.length:Int)) then
 ((dL a0 x1).bind λv8=>
 (dL v8 x2).bind λv9=>
 (dL a1 x1).bind λv10=>
 (dL v10 x2).bind λv11=>
 bif !decide (v9=v11) then
 (some (.inr (.inr (false))))
 else
 (some (.inl (wr (x2+1)))))
 else
 (some (.inr (.inl ())))
def oE (a0:(List (List Int))) (a1:(List (List Int))) (x1:Int):Option (Int ⊕ (Unit ⊕ Bool)):=
 bif decide (x1<(a0.length:Int)) then
 ((dL a0 x1).bind λv3=>
 (dL a1 x1).bind λv4=>
 bif !decide ((v3.length:Int)=(v4.length:Int)) then
 (some (.inr (.inr (false))))
 else
 ((Lp (kK a0 a1 x1) 0).bind λy13=>
 Sum.elim (λy14=>
 some (.inl (wr (x1+1)))
 )
 (λy15=>
 some (.inr (.inr y15))
 )
 y13))
 else
 (some (.inr (.inl ())))
def sF (a0:(List (List Int))) (a1:(List (List Int))):Option Bool:=
 bif !decide ((a0.length:Int)=(a1.length:Int)) then
 (some (false))
 else
 ((Lp (oE a0 a1) 0).bind λy16=>
 Sum.elim (λy17=>
 some (true)
 )
 (λy18=>
 some y18
 )
 y16)
theorem aEs (a0:(List (List Int))) (a1:(List (List Int))) (r:Bool) (h:sF a0 a1=some r):HasC Tryz.prog 250 [.list 1 (a0.map (jA 1 eI)),.list 1 (a1.map (jA 1 eI))] (.bl r):=by
 refine hM [.tmp 4] Tryz.func250 Tryz.ntmps250 k<|sR<|aT k2<|sQ<|sR<|am k k<|ln k4<|am k k<|ln k4<|cm k4<|an<|tn<|cJ k h (λ_ h=>sR<|aT k2<|aD<|aB<|eJ h k2) λ_ h=>?_;refine aG<|tn<|sQ<|sR<|aT k2<|aH<|oB h λy16 hy16 h=>bX (body:=(oE a0 a1)) hy16 (λ(x1:Int)=>mN [(0,.list 1 (a0.map (jA 1 eI))),(1,.list 1 (a1.map (jA 1 eI))),(5,.int x1)] [] 0) (λr e t=>Sum.elim (λa=>(λr e t=>e= .exit 0∧Ent t (mN [] [] 0)) a e t) (λb=>(λr e t=>e= .ret∧nJ TT [.tmp 4] (.bl r) .ret t) b e t) r) (bL (bK k2) bA k4) ?_ ?_
 ·intro x1 o h;refine sQ<|sR<|am k k<|am k k<|ln k4<|cm k4<|an<|tn<|cJ k h (λ_ h=>?_) λ_ h=>aY<|aC<|aC<|sp h ⟨_,k,k,(bL bA bA k4)⟩;refine aG<|tn<|sQ<|aH<|sQ<|sQ<|aW jN<|am k k<|am k k<|oB h λv3 hv3 h=>ae (xl hv3 k) k<|lr k7<|ln k4<|am k k<|am k k<|oB h λv4 hv4 h=>ae (xl hv4 k) k<|lr k7<|ln k4<|cm k4<|an<|tU (by kernel_rfl)<|tn<|cJ k h (λ_ h=>sR<|aT k2<|aD<|aB<|aU<|aB<|aB<|sp h ⟨_,k,k,aR k k k (iY k)⟩) λ_ h=>?_;refine aG<|tn<|sR<|aT k2<|aH<|oB h λy13 hy13 h=>bX (body:=(kK a0 a1 x1)) hy13 (λ(x2:Int)=>mN [(0,.list 1 (a0.map (jA 1 eI))),(1,.list 1 (a1.map (jA 1 eI))),(5,.int x1),(6,.int x2)] [] 0) (λr e t=>Sum.elim (λa=>(λr e t=>e= .exit 2∧Ent t (mN [(0,.list 1 (a0.map (jA 1 eI))),(1,.list 1 (a1.map (jA 1 eI))),(5,.int x1)] [] 0)) a e t) (λb=>(λr e t=>e= .ret∧nJ TT [.tmp 4] (.bl r) .ret t) b e t) r) (bL (bK k2) bA k4) ?_ ?_
  ·intro x2 o h;exact sQ<|sR<|am k k<|am k k<|am k k<|oB h λv6 hv6 h=>ae (xl hv6 k) k<|lr k7<|ln k4<|cm k4<|an<|tn<|cJ k h (λ_ h=>aG<|tn<|sQ<|aH<|sQ<|aW jN<|am k k<|am k k<|oB h λv8 hv8 h=>ae (xl hv8 k) k<|lr k7<|am k k<|oB h λv9 hv9 h=>ae (xl hv9 k) k<|lr k7<|am k k<|am k k<|oB h λv10 hv10 h=>ae (xl hv10 k) k<|lr k7<|am k k<|oB h λv11 hv11 h=>ae (xl hv11 k) k<|lr k7<|cm k4<|an<|tU (by kernel_rfl)<|tn<|cJ k h (λ_ h=>sR<|aT k2<|aD<|aU<|aB<|aB<|sp h ⟨_,k,k,aR k k k (iY k)⟩) λ_ h=>aG<|aX<|tn<|rg<|am k k<|ae (bH k k) k<|aT k2<|sp h ⟨_,k,(bL (bK k2) bA k4)⟩) λ_ h=>aY<|aC<|aC<|sp h ⟨_,k,k,(bL (bK k2) bA k4)⟩
  ·intro e t hX;rcases y13 with y14|y15
   ·obtain ⟨rfl,hent⟩:=hX;exact aM<|aX<|tn<|aO hent<|rg<|am k k<|ae (bH k k) k<|aT k2<|sp h ⟨_,k,(bL (bK k2) bA k4)⟩
   ·obtain ⟨rfl,hent⟩:=hX;exact aU<|aU<|aB<|aB<|sp h ⟨_,k,k,hent⟩
 ·intro e t hX;rcases y16 with y17|y18
  ·obtain ⟨rfl,hent⟩:=hX;exact aM<|tn<|aO hent<|sR<|aT k2<|aD<|eJ h k2
  ·obtain ⟨rfl,hent⟩:=hX;exact aU<|aB<|sp h hent
def iI (a0:Int) (a1:Sc):Option Bool:=
 (sE a0 a1.size a1.basis).bind λv1=>
 bif !v1 then
 (some (false))
 else
 ((pA a1.size a1.basis).bind λv3=>
 (nH a0 v3).bind λv4=>
 (sF v4 a1.basis).bind λv5=>
 some (v5))
theorem rF (a0:Int) (a1:Sc) (r:Bool) (h:iI a0 a1=some r):HasC Tryz.prog 182 [.int a0,.agg (eS a1)] (.bl r):=by
 exact hM [.tmp 4] Tryz.func182 Tryz.ntmps182 k<|sR<|ae (wb k) k<|aT k2<|sQ<|sR<|am k k<|fp k8<|lp k8<|fp k8<|lp k8<|oB h λv1 hv1 h=>ae (aE (aEr a0 a1.size a1.basis v1 hv1) k (bN k (bN k (bN k aI)))) k<|ae (cK k) k<|an<|tn<|cJ k h (λ_ h=>sR<|aT k2<|aD<|aB<|eJ h k2) λ_ h=>aG<|tn<|sQ<|aW jN<|am k k<|fp k8<|lp k8<|fp k8<|lp k8<|oB h λv3 hv3 h=>ae (cM (aAG a1.size a1.basis v3 hv3) k3 (bN k (bN k aI))) k<|oB h λv4 hv4 h=>ae (cL gM (yR a0 v3 v4 hv4) k3 (bN k (aN (vaM k2) aI))) k<|fp k8<|lp k8<|oB h λv5 hv5 h=>ae (aE (aEs v4 a1.basis v5 hv5) k (aN (aCU gM k k) (bN k aI))) k<|aa k k<|an<|tU (by kernel_rfl)<|tn<|aD<|eJ h k2
end
noncomputable section
theorem aJa {l:List (List Int)} {n:Nat} (h: ∀ v∈l,v.length=n):l=(List.range l.length).map λi=>fL n (cF l i):=by
 refine List.ext_getElem (by simp) λi h1 h2=>?_;simp only [List.getElem_map,List.getElem_range];refine List.ext_getElem (by rw [dT];exact h _ (List.getElem_mem h1)) λj h3 h4=>?_;simp [fL,cF,h1,h3]
theorem aFn {l:List (List Int)} {n:Nat} (h: ∀ v∈l,v.length=n):l.flatten=bT l.length n (cF l):=by
 have e:l.flatten=((List.range l.length).map λi=>fL n (cF l i)).flatten:=by rw [←aJa h]
 rw [e,aHj]
theorem aGX {p:Int} (hp:jO p=true) {n:Nat} {l:List (List Int)} (hn:n≤1024) (hl:l.length≤512) (h:VecsP p n l):Tb p l.length n (cF l):=by
 refine ⟨hp,?_,by omega,by omega,h.inP⟩;have:=Nat.mul_le_mul hl hn;omega
theorem aHk {r c i:Nat} (hN:r*c≤1048576) (hr:r≤1048576) (hi:i<r) (F:Nat→Nat→Int):((bT r c F).drop (0+(i*c))).take ((i*c+c) - i*c)=fL c (F i):=by
 have h:= @aEF r c i hi;rw [Nat.succ_mul] at h;refine List.ext_getElem (by simp [dX,dT];omega) λt h1 h2=>?_;rw [dT] at h2;rw [List.getElem_take,List.getElem_drop];simp [bT,fL,aDj h2,aDk h2]
theorem aAI (F:Nat→Nat→Int) (r n:Nat):eK F r n=(List.range r).map λi=>fL n (F i):=rfl
theorem aAJ (F:Nat→Nat→Int) (r n:Nat):eK F r n++[fL n (F r)]=eK F (r+1) n:=by
 rw [aAI,aAI,List.range_succ,List.map_append];rfl
theorem aIk {n:Nat} {l:List (List Int)} (hn:n≤1024) (hl:l.length≤512) (h: ∀ v∈l,v.length=n):pU n l=some ⟨l.length,n,bT l.length n (cF l)⟩:=by
 unfold pU;rw [aLf hl (λv hv=>by rw [h v hv];exact hn),aA,aFn h]
theorem aES {p:Int} (hp:jO p=true) {n:Nat} {l:List (List Int)} (hn:n≤1024) (hl:l.length≤512) (h:VecsP p n l):tA p n l=some ⟨n,eG p n l⟩:=by
 have T:=aGX hp hn hl h;have hL:= @qJ p l.length (cF l) n;have h1:=T.hN;unfold tA;rw [aIk hn hl (λv hv=>(h v hv).1),aA,aGV T,aA];rw [dQ (r:=eG p n l) (λk=>(eK (bZ p l.length (cF l) n).1 k n,(k:Int))) (bZ p l.length (cF l) n).2.length (by simp [eK]) (λk hk=>?_) (λ_=>?_),aA]
 ·have hkl:k<l.length:=by omega
  have h3:= @aEF l.length n k hkl;rw [Nat.succ_mul] at h3;unfold rD;simp only;rw [kJ,iL hk,aL,aEG T.hN T.hm hkl,aA,qF T.hN hkl,rS T.hN T.hm hkl];simp only [eA];rw [aHk T.hN T.hm hkl];unfold tT;rw [dT,bB (by omega),aL,aA,nL,bB (by omega),aL,aAJ,bW hk (by omega)]
 ·unfold rD;simp only;rw [kJ,kR (bG _),aP];rfl
theorem aHl {n:Nat} {l:List (List Int)} (hn:n≤1024) (hl:l.length≤512) (h: ∀ v∈l,v.length=n):pA n l=some ⟨l.length,n,bT l.length n (cF l)⟩:=by
 have hb: ∀ k,(l.take k).flatten.length ≤1024*512:=λk=>by
  have:=aFm (l:=l.take k) λx hx=>by rw [h x (List.mem_of_mem_take hx)];exact hn
  have h2:(l.take k).length ≤512:=by simp;omega
  omega
 unfold pA;rw [dQ (r:=l.flatten) (λk=>((l.take k).flatten,(k:Int))) l.length (by simp) (λk hk=>?_) (λ_=>?_),aA,aFn h]
 ·unfold oC;simp only;have e2:=hb (k+1);rw [uD hk,List.length_append] at e2;rw [iL hk,aL,bP hk,aA,bB (by omega),aL,bW hk (by omega),uD hk]
 ·unfold oC;simp only;rw [kR (bG _),aP,List.take_length]
theorem aFo {p:Int} {m n:Nat} {F:Nat→Nat→Int} (T:Tb p m n F):nH p ⟨m,n,bT m n F⟩=some (eK (bZ p m F n).1 (bZ p m F n).2.length n):=by
 have hL:= @qJ p m F n;have hm:=T.hm;have hn:=T.hn;unfold nH;rw [aGW T,aA];rw [dQ (r:=eK (bZ p m F n).1 (bZ p m F n).2.length n) (λk=>(eK (bZ p m F n).1 k n,(k:Int))) (bZ p m F n).2.length (by simp [eK]) (λk hk=>?_) (λ_=>?_),aA]
 ·have hkl:k<m:=by omega
  have h3:= @aEF m n k hkl;rw [Nat.succ_mul] at h3;have h4:=T.hN;have e:wr (wr ((k:Int)*(n:Int))+(n:Int))=((k*n+n:Nat):Int):=by rw [qF T.hN hkl,fX (by omega)];omega
  unfold mT;simp only;rw [kJ,iL hk,aL,e,qF T.hN hkl,dX,bB (by omega),bB (by omega:((k*n:Nat):Int)≤((k*n+n:Nat):Int)),bB (by omega:((k*n+n:Nat):Int)≤((m*n:Nat):Int))];simp only [eA,Bool.and_self,aL,aHk T.hN T.hm hkl];rw [dT,bB (by simp;omega),aL,nL,bB (by omega),aL,List.nil_append,aAJ,bW hk (by omega)]
 ·unfold mT;simp only;rw [kJ,kR (bG _),aP]
theorem aHm {p:Int} (hp:jO p=true) {n:Nat} {l:List (List Int)} (hn:n≤1024) (hl:l.length≤512) (h:VecsP p n l):pB p n l=some ⟨n,eG p n l⟩:=by
 unfold pB;rw [aHl hn hl (λv hv=>(h v hv).1),aA,aFo (aGX hp hn hl h),aA];rfl
def bLs (l:List (List Int)):Prop:=l.length≤1048576∧ ∀ v∈l,bI v
theorem aIl (p:Int) (v:List Int):(jO p&&decide (v.length≤64)&&v.all λx=>sS x 0 (wr (p - 1)))=yH p v:=by
 unfold yH;cases h:jO p with
 |false=>rfl
 |true=>rw [fX (by have:=eP h;omega)]
theorem aDF (p size:Int) (l:List (List Int)):aBE p size l=(jO p&&sS size 0 8&&decide (l.length≤16)&&l.all λv=>decide ((v.length:Int)=size)&&yH p v):=rfl
theorem aBR {l:List (List Int)} {f:List Int→Option Bool} (P:List Int→Bool) (hf: ∀ x∈l,f x=some (P x)) (h:l.length≤1048576):dE l f=some (l.any P):=by
 unfold dE gE;rw [aBi (s0:=0) (s:=0) (n:=l.length) (λk=>bif P (l[k]?.getD []) then some (k:Int) else none) rfl (by omega) (Nat.zero_le _) (λk _ hk=>?_) (λ_=>?_)]
 ·rw [aA];cases e:(List.range' 0 (l.length - 0)).findSome? (λk:Nat=>bif P (l[k]?.getD []) then some (k:Int) else none) with
  |none=>
   rw [List.findSome?_eq_none_iff] at e
   have:l.any P=false:=by
    rw [List.any_eq_false];intro x hx;obtain ⟨k,hk,rfl⟩:=List.mem_iff_getElem.1 hx;have:=e k (by simp;omega);simp only [xS hk,sO] at this;cases hp:P l[k] with
    |false=>simp
    |true=>rw [hp] at this;cases this
   rw [this];rfl
  |some i=>
   obtain ⟨k,hk,he⟩:=List.exists_of_findSome?_eq_some e;simp at hk;have hkl:k<l.length:=by omega
   rw [xS hkl] at he;simp only [sO] at he;cases hp:P l[k] with
   |false=>rw [hp] at he;cases he
   |true=>
    rw [hp] at he;cases he;have:l.any P=true:=List.any_eq_true.2 ⟨_,List.getElem_mem hkl,hp⟩;rw [this];simp only [Sum.elim_inr,aA];rw [bB (by omega)]
 ·unfold dS;rw [iL hk,aL,tS [] hk,aA,hf _ (dW [] hk),aA];cases P _ <;> rfl
 ·unfold dS;rw [kR (bG _),aP]
theorem aGY (p n:Int) {l:List (List Int)} (h:bLs l):mU p n l=some (sS n 0 8&&(decide (l.length≤16)&&l.all λv=>decide ((v.length:Int)=n)&&yH p v)):=by
 unfold mU;rw [sZ,aA];refine iN λ_=>?_;rw [show decide ((l.length:Int)≤16)=decide (l.length≤16) by rw [Bool.eq_iff_iff,iR,iR];omega];refine iN λ_=>?_;rw [aBR (λv=> !(decide ((v.length:Int)=n)&&yH p v)) (λv hv=>?_) h.1,aA,List.not_any_eq_all_not]
 ·simp
 ·unfold jS;cases decide ((v.length:Int)=n) with
  |false=>rfl
  |true=>rw [dP,aP,aFh p (h.2 v hv),aA,aIl,Bool.true_and]
theorem aKV {a b:List (List Int)} (h:bLs a):cX a b (λb0 b1=>gF b0 b1)=some (decide (a=b)):=by
 obtain ⟨h,hb⟩:=h;unfold cX;rw [sY];by_cases e:a.length=b.length
 ·rw [bB e,dP,aP];refine uL (by omega) e (λk h1 h2=>?_) ?_
  ·unfold cU gF;simp only;rw [iL h1,aL,bP h1,aA,bP h2,aA,aKO (hb _ (List.getElem_mem h1)),aA,aA];cases decide (a[k]=b[k]) <;> rfl
  ·unfold cU;rw [kR (bG _),aP]
 ·rw [bU e,Bool.not_false,aL,bU (by rintro rfl;exact e rfl)]
theorem aEt {a b:Sc} (h:bLs a.basis):lH a b=some (decide (a.size=b.size)&&decide (a.basis=b.basis)):=by
 unfold lH;refine iN λ_=>?_;rw [aKV h,aA]
theorem aNd {p:Int} {n:Nat} {l:List (List Int)} (hl:l.length≤1048576) (hn:n≤1048576) (h:VecsP p n l):bLs l:=⟨hl,λv hv=>by unfold bI;rw [(h v hv).1];exact hn⟩
theorem aHn {p:Int} (hp:jO p=true) {n:Nat} {l:List (List Int)} (hn:n≤1048576) (h:VecsP p n l):bLs (eG p n l):=aNd (by have:=(@yJ p n l).1;omega) hn (aBl hp h.inP)
theorem aEu (p:Int) {s:Sc} (h:bS s):rE p s=some (qE p s.size s.basis):=by
 unfold rE qE;rw [zP,aA,aGY p s.size h.1,aA,aDF];cases hf:jO p with
 |false=>simp
 |true=>
  rw [dP,aP];cases hv:(sS s.size 0 8&&(decide (s.basis.length≤16)&&s.basis.all λv=>decide ((v.length:Int)=s.size)&&yH p v)) with
  |false=>
   have hx:(true&&sS s.size 0 8&&decide (s.basis.length≤16)&&s.basis.all λv=>decide ((v.length:Int)=s.size)&&yH p v)=false:=by rw [Bool.true_and,Bool.and_assoc];exact hv
   rw [hx];rfl
  |true=>
   have hfine:aBE p s.size s.basis=true:=by rw [aDF,hf];simp only [Bool.true_and,Bool.and_assoc];exact hv
   obtain ⟨_,n,e,hn,hl,hv2⟩:=yK hfine;rw [dP,aP,e,aES hf (by omega) (by omega) hv2,aA,aEt (aHn hf (by omega) hv2),aA];rw [e] at hfine;rw [aDF,hf] at hfine;rw [hfine];simp [e]
theorem aLg (p n:Int) {l:List (List Int)} (h:bLs l):sE p n l=some (aBE p n l):=by
 unfold sE;have hall:=vZ ([]:List Int) l (λv=>decide ((v.length:Int)=n)&&yH p v);have hb:=h.1;rw [tG (λk=>decide ((((l[k]?.getD []).length:Nat):Int)=n)&&yH p (l[k]?.getD [])) false (n:=l.length) (by omega) (λk hk=>?_) (λ_=>?_),aA,hall,aDF]
 ·cases l.all λv=>decide ((v.length:Int)=n)&&yH p v with
  |false=>simp
  |true=>
   simp only [aL,Sum.elim_inl];rw [aDD,aA,uN,aA,Bool.and_true,Bool.and_assoc];refine iN λ_=>?_;refine iN λ_=>?_;congr 1;rw [Bool.eq_iff_iff,iR,iR];omega
 ·unfold oD;rw [iL hk,aL,tS [] hk,aA,aA,aBt p (h.2 _ (dW [] hk)),aA,aIl];cases decide ((((l[k]?.getD []).length:Nat):Int)=n) <;> cases yH p (l[k]?.getD []) <;> rfl
 ·unfold oD;rw [kR (bG _),aP]
theorem aLh {a b:List (List Int)} (h:bLs a):sF a b=some (decide (a=b)):=by
 obtain ⟨h,hb⟩:=h;unfold sF;rw [sY];by_cases e:a.length=b.length
 ·rw [bB e,dP,aP];refine uL (by omega) e (λk h1 h2=>?_) ?_
  ·have hbk:=hb _ (List.getElem_mem h1);unfold bI at hbk;unfold oE;rw [iL h1,aL,bP h1,aA,bP h2,aA,sY];by_cases e2:a[k].length=b[k].length
   ·rw [bB e2,dP,aP];have h3:=tG (body:=kK a b k) (λj=>decide (a[k][j]?.getD 0=b[k][j]?.getD 0)) false (n:=a[k].length) (by omega) (λj hj=>?_) ?_
    ·rw [h3,aHL e2,aA];cases decide (a[k]=b[k]) <;> rfl
    ·unfold kK;rw [bP h1,aA,iL hj,aL,aA,tS 0 hj,aA,bP h2,aA,tS 0 (e2▸hj),aA];cases decide (a[k][j]?.getD 0=b[k][j]?.getD 0) <;> rfl
    ·intro _;unfold kK;rw [bP h1,aA,kR (bG _),aP]
   ·rw [bU e2,Bool.not_false,aL,bU (λe3=>e2 (by rw [e3])),aP]
  ·unfold oE;rw [kR (bG _),aP]
 ·rw [bU e,Bool.not_false,aL,bU (by rintro rfl;exact e rfl)]
theorem sH (p:Int) {s:Sc} (h:bS s):iI p s=some (qE p s.size s.basis):=by
 unfold iI qE;rw [aLg p s.size h.1,aA];cases hf:aBE p s.size s.basis with
 |false=>rfl
 |true=>
  obtain ⟨hp,n,e,hn,hl,hv⟩:=yK hf;rw [dP,aP,e,aHl (by omega) (by omega) (λv hv'=>(hv v hv').1),aA,aFo (aGX hp (by omega) (by omega) hv),aA,show eK (bZ p s.basis.length (cF s.basis) n).1 (bZ p s.basis.length (cF s.basis) n).2.length n=eG p n s.basis from rfl,aLh (aHn hp (by omega) hv),aA];simp
end
noncomputable section
set_option maxRecDepth 10000
set_option maxHeartbeats 4000000
end
noncomputable section
set_option maxRecDepth 10000
set_option maxHeartbeats 4000000
end
noncomputable section
theorem aLi {p:Int} (hp:jO p=true) {n:Nat} {l l':List (List Int)} (h:xD p l.length n (cF l)) (h':xD p l'.length n (cF l')) (hK: ∀ x,Kr p l.length n (cF l) x↔Kr p l'.length n (cF l') x):eG p n l=eG p n l':=by
 obtain ⟨e1,e2⟩:=aGQ hp h h' hK;unfold eG;rw [←e1];exact yI e2
end
noncomputable section
theorem aLj {k:Nat} {f:Nat→Nat} (hlt: ∀ t,t<k→f t<k) (hinc: ∀ s t,s<t→t<k→f s<f t): ∀ t,t<k→f t=t:=by
 have h1: ∀ t,t<k→t≤f t:=by
  intro t;induction t with
  |zero=>intro _;exact Nat.zero_le _
  |succ t ih=>intro h;have:=ih (by omega);have:=hinc t (t+1) (by omega) h;omega
 have h2: ∀ d t,t+d+1=k→f t≤t:=by
  intro d;induction d with
  |zero=>intro t h;have:=hlt t (by omega);omega
  |succ d ih=>intro t h;have:=ih (t+1) (by omega);have:=hinc t (t+1) (by omega) (by omega);omega
 intro t ht;have:=h1 t ht;have:=h2 (k - t - 1) t (by omega);omega
theorem aIm {L M:List Nat} (hL: ∀ i k,i<k→k<L.length→L[i]?.getD 0<L[k]?.getD 0) (hM: ∀ i k,i<k→k<M.length→M[i]?.getD 0<M[k]?.getD 0) (hs: ∀ t,t<M.length→ ∃ i,i<L.length∧L[i]?.getD 0=M[t]?.getD 0) (hl:L.length=M.length):L=M:=by
 have hs': ∀ t:Nat,∃ i,t<M.length→i<L.length∧L[i]?.getD 0=M[t]?.getD 0:=λt=>by
  by_cases h:t<M.length
  ·obtain ⟨i,hi⟩:=hs t h;exact ⟨i,λ_=>hi⟩
  ·exact ⟨0,λh'=>absurd h' h⟩
 obtain ⟨f,hf⟩:=Classical.axiomOfChoice hs'
 have e:=aLj (k:=M.length) (f:=f) (λt ht=>hl▸(hf t ht).1) (λs t hst ht=>by
  rcases Nat.lt_trichotomy (f s) (f t) with h|h|h
  ·exact h
  ·have a:=(hf s (by omega)).2;have b:=(hf t ht).2;have c:=hM s t hst ht;rw [h,b] at a;omega
  ·have a:=(hf s (by omega)).2;have b:=(hf t ht).2;have c:=hM s t hst ht;have:=hL (f t) (f s) h (hf s (by omega)).1
   omega)
 refine List.ext_getElem hl λi h1 h2=>?_;have:=(hf i h2).2;rw [e i h2] at this;simpa [h1,h2] using this
theorem aLk {p:Int} (hp:jO p=true) {m m' n:Nat} {F G:Nat→Nat→Int} {L M:List Nat} (hF:Red m n F L) (hG:Red m' n G M) (iF:xD p m n F) (iG:xD p m' n G) (hK: ∀ x,Kr p m n F x→Kr p m' n G x) (hl:L.length=M.length):L=M∧ ∀ i j,i<L.length→j<n→F i j=G i j:=by
 have e:L=M:=aIm hF.inc hG.inc (λt ht=>aGP hp hF hG hK ht) hl;subst e;refine ⟨rfl,λi k hi hk=>?_⟩;have hm:=hF.len;have hm':=hG.len;by_cases hL: ∃ t,t<L.length∧L[t]?.getD 0=k
 ·obtain ⟨t,ht,rfl⟩:=hL;by_cases e:i=t
  ·subst e;rw [hF.one i hi,hG.one i hi]
  ·rw [hF.col t i ht (by omega) e,hG.col t i ht (by omega) e]
 ·have hL: ∀ t,t<L.length→L[t]?.getD 0≠k:=λt ht e=>hL ⟨t,ht,e⟩;have h1:=hK _ (aGO (p:=p) hF hk hL) i (by omega);rw [aHb hF hk hL,aBs (j:=i) hi (λt ht hti=>by rw [hG.col t i ht (by omega) (λe=>hti e.symm)];simp),hG.one i hi,Int.one_mul] at h1;unfold Z0 at h1;have b1:=iF i k (by omega) hk;have b2:=iG i k (by omega) hk
  have e1:G i k % p=F i k % p:=by
   have:=Int.emod_emod_of_dvd;exact Int.emod_eq_emod_iff_emod_sub_eq_zero.2 h1
  rw [Int.emod_eq_of_lt b2.1 b2.2,Int.emod_eq_of_lt b1.1 b1.2] at e1;exact e1.symm
theorem aFp {p:Int} {n:Nat} {l:List (List Int)} (hp:jO p=true) (hv:VecsP p n l) (hs:eG p n l=l): ∃ L,L.length=l.length∧Red l.length n (cF l) L:=by
 have hi:=hv.inP;have hr:=aBk hp hi n (bG _)
 have hlen:(bZ p l.length (cF l) n).2.length=l.length:=by
  have:=congrArg List.length hs;unfold eG at this;rw [nL] at this;exact this
 have hrow: ∀ i j,i<l.length→j<n→(bZ p l.length (cF l) n).1 i j=cF l i j:=by
  intro i j hi hj;have:=aDn (bZ p l.length (cF l) n).1 (bZ p l.length (cF l) n).2.length n i j (by omega) hj;unfold eG at hs;rw [hs] at this;exact this.symm
 refine ⟨_,hlen,⟨hr.lt,hr.inc,by omega,λi h=>?_,λi k h hk hne=>?_,λi j h h2 hj=>?_,λi j h hj=>?_⟩⟩
 ·rw [←hrow i _ (by omega) (hr.lt i h)];exact hr.one i h
 ·rw [←hrow k _ hk (hr.lt i h)];exact hr.col i k h hk hne
 ·omega
 ·rw [←hrow i j (by omega) (by have:=hr.lt i h;omega)];exact hr.left i j h hj
def rsF (p:Int) (B:Nat→Nat→Int) (L:List Nat) (v:Nat→Int):Nat→Nat→Int
 |0=>v
 |t+1=>λj=>(rsF p B L v t j+(p - rsF p B L v t (L[t]?.getD 0))*B t j) % p
theorem aLl {p:Int} (hp:jO p=true) {B:Nat→Nat→Int} {L:List Nat} {v:Nat→Int} {n:Nat} (hv: ∀ j,j<n→0≤v j∧v j<p): ∀ t j,j<n→0≤rsF p B L v t j∧rsF p B L v t j<p
 |0,j,h=>hv j h
 |t+1,j,_=>vH hp
theorem aGZ {p:Int} (hp:jO p=true) {m n:Nat} {B:Nat→Nat→Int} {L:List Nat} (h:Red m n B L) {v:Nat→Int} : ∀ t,t≤L.length→ ∀ s,s<t→rsF p B L v t (L[s]?.getD 0)=0
 |0,_,s,hs=>absurd hs (Nat.not_lt_zero _)
 |t+1,ht,s,hs=>by
  have hm:=h.len;simp only [rsF];by_cases e:s=t
  ·subst e;rw [h.one s (by omega),Int.mul_one,show rsF p B L v s (L[s]?.getD 0)+(p - rsF p B L v s (L[s]?.getD 0))=p by omega,Int.emod_self]
  ·rw [h.col s t (by omega) (by omega) (λe'=>e e'.symm),aGZ hp h t (by omega) s (by omega)];simp
theorem aIn {p:Int} (hp:jO p=true) {m n:Nat} {B:Nat→Nat→Int} {L:List Nat} (hL:L.length≤m) {v x:Nat→Int} (hx:Kr p m n B x): ∀ t,t≤L.length→dt n (rsF p B L v t) x % p=dt n v x % p
 |0,_=>rfl
 |t+1,ht=>by
  have ih:=aIn hp hL (v:=v) hx t (by omega);have h1:=hx t (by omega);rw [←ih];simp only [rsF];rw [aGN (g:=λj=>rsF p B L v t j+(p - rsF p B L v t (L[t]?.getD 0))*B t j) (λk _=>by rw [Int.emod_emod_of_dvd _ (Int.dvd_refl p)]),aLY];have h2:=aEE (p - rsF p B L v t (L[t]?.getD 0)) h1;unfold Z0 at h2;rw [Int.add_emod,h2];simp
theorem aLm {p:Int} (hp:jO p=true) {m n:Nat} {B:Nat→Nat→Int} {L:List Nat} (h:Red m n B L) {v:Nat→Int} (hv: ∀ j,j<n→0≤v j∧v j<p):(∀ j,j<n→rsF p B L v L.length j=0)↔ ∀ x,Kr p m n B x→Z0 p (dt n v x):=by
 constructor
 ·intro hz x hx;have:=aIn hp h.len (v:=v) hx L.length (bG _);unfold Z0;rw [←this]
  have e:dt n (rsF p B L v L.length) x=0:=by
   unfold dt;rw [nE (g:=λ_=>0) (λk hk=>by rw [hz k hk];simp),xM]
  rw [e];simp
 ·intro hz k hk;by_cases hL: ∃ t,t<L.length∧L[t]?.getD 0=k
  ·obtain ⟨t,ht,rfl⟩:=hL;exact aGZ hp h L.length (bG _) t ht
  ·have hL: ∀ t,t<L.length→L[t]?.getD 0≠k:=λt ht e=>hL ⟨t,ht,e⟩;have hx:=aGO (p:=p) h hk hL;have h1:=hz _ hx;unfold Z0 at h1;rw [←aIn hp h.len (v:=v) hx L.length (bG _),aHb h hk hL,nE (g:=λ_=>0) (λi hi=>by rw [aGZ hp h L.length (bG _) i hi];simp),xM,Int.sub_zero] at h1;have b:=aLl hp (B:=B) (L:=L) hv L.length k hk;rw [Int.emod_eq_of_lt b.1 b.2] at h1;exact h1
theorem zV {p:Int} {n:Nat} {a b:List (List Int)} {x:Nat→Int} :Kr p (a++b).length n (cF (a++b)) x↔Kr p a.length n (cF a) x∧Kr p b.length n (cF b) x:=by
 have e1: ∀ i,i<a.length→cF (a++b) i=cF a i:=λi hi=>by funext j;simp only [cF];rw [List.getElem?_append_left hi]
 have e2: ∀ i,cF (a++b) (a.length+i)=cF b i:=λi=>by funext j;simp only [cF];rw [List.getElem?_append_right (by omega),Nat.add_sub_cancel_left]
 unfold Kr;rw [List.length_append];refine ⟨λh=>⟨λi hi=>e1 i hi▸h i (by omega),λi hi=>e2 i▸h (a.length+i) (by omega)⟩,λh i hi=>?_⟩;rcases eN i a.length with h'|h'
 ·rw [e1 i h'];exact h.1 i h'
 ·have:=h.2 (i - a.length) (by omega);rw [←e2,show a.length+(i - a.length)=i by omega] at this;exact this
theorem xP {p:Int} (hp:jO p=true) {n:Nat} {a b:List (List Int)} (ha:VecsP p n a) (hb:VecsP p n b) (hs:eG p n b=b):(aEi p n a b).length=b.length↔ ∀ x,Kr p b.length n (cF b) x→Kr p a.length n (cF a) x:=by
 have hi:=(ha.append hb).inP;constructor
 ·intro hl x hx;obtain ⟨L,hLl,hR⟩:=aFp hp hb hs;have hr:=aBk hp hi n (bG _);have hb':=eP hp
  have hlen:(bZ p (a++b).length (cF (a++b)) n).2.length=L.length:=by
   unfold aEi eG at hl;rw [nL] at hl;omega
  obtain ⟨_,h2⟩:=aLk hp hr hR (oX (by omega) hi n) hb.inP (λx hx=>(zV.1 ((aBO hp hi x n (bG _)).1 hx)).2) hlen;refine (zV.1 ((aBO hp hi x n (bG _)).1 λi hi'=>?_)).1;rcases eN i (bZ p (a++b).length (cF (a++b)) n).2.length with h'|h'
  ·have e:dt n ((bZ p (a++b).length (cF (a++b)) n).1 i) x=dt n (cF b i) x:=nE λk hk=>by rw [h2 i k h' hk]
   rw [e];exact hx i (by omega)
  ·have e:dt n ((bZ p (a++b).length (cF (a++b)) n).1 i) x=0:=by
    unfold dt;rw [nE (g:=λ_=>0) (λk hk=>by rw [hr.low i k h' hi' hk];simp),xM]
   rw [e];unfold Z0;simp
 ·intro hK;unfold aEi;rw [aLi hp hi hb.inP λx=>⟨λh=>(zV.1 h).2,λh=>zV.2 ⟨hK x h,h⟩⟩,hs]
end
noncomputable section
def sV (r:Rp) (i:Nat):Nat:=(r.q.src[i]?.getD 0).toNat
def tV (r:Rp) (i:Nat):Nat:=(r.q.tgt[i]?.getD 0).toNat
def aF (r:Rp) (i:Nat):Nat→Nat→Int:=λj k=>(r.maps[i]?.getD ⟨0,0,[]⟩).cells[j*dN r (sV r i)+k]?.getD 0
structure Rv (r:Rp):Prop where
 hp:jO r.p=true
 n5:r.dims.length≤5
 d: ∀ k,k<r.dims.length→r.dims[k]?.getD 0=(dN r k:Int)∧dN r k≤4
 e6:r.q.src.length≤6
 tl:r.q.tgt.length=r.q.src.length
 ml:r.maps.length=r.q.src.length
 s: ∀ i,i<r.q.src.length→r.q.src[i]?.getD 0=(sV r i:Int)∧sV r i<r.dims.length
 t: ∀ i,i<r.q.src.length→r.q.tgt[i]?.getD 0=(tV r i:Int)∧tV r i<r.dims.length
 m: ∀ i,i<r.q.src.length→r.maps[i]?.getD ⟨0,0,[]⟩=⟨dN r (tV r i),dN r (sV r i),bT (dN r (tV r i)) (dN r (sV r i)) (aF r i)⟩∧xD r.p (dN r (tV r i)) (dN r (sV r i)) (aF r i)
theorem aLn {r:Rp} (h:mB r=true):Rv r:=by
 obtain ⟨hp,hD,hml,hM⟩:=yQ h;obtain ⟨hQ,hd1,hd2,_⟩:=nG hD;obtain ⟨n,hn,hn1,hn5,hq1,hq2,hq3,hq4⟩:=nF hQ;have hdl:r.dims.length=n:=by omega
 have hd: ∀ k,k<r.dims.length→r.dims[k]?.getD 0=(dN r k:Int)∧dN r k≤4:=by
  intro k hk;have:=hd2 _ (dW 0 hk);unfold dN;omega
 have hs: ∀ i,i<r.q.src.length→r.q.src[i]?.getD 0=(sV r i:Int)∧sV r i<r.dims.length:=by
  intro i hi;have:=hq3 _ (dW 0 hi);unfold sV;omega
 have ht: ∀ i,i<r.q.src.length→r.q.tgt[i]?.getD 0=(tV r i:Int)∧tV r i<r.dims.length:=by
  intro i hi;have:=hq4 _ (dW 0 (show i<r.q.tgt.length by omega));unfold tV;omega
 refine ⟨hp,by omega,hd,hq2,by omega,hml,hs,ht,λi hi=>?_⟩;obtain ⟨g1,g2,g3⟩:=hM i (by omega);rw [show (r.q.src[i]?.getD 0).toNat=sV r i from rfl,(hd _ (hs i hi).2).1] at g2;rw [show (r.q.tgt[i]?.getD 0).toNat=tV r i from rfl,(hd _ (ht i hi).2).1] at g3;obtain ⟨_,a,b,F,ha,hb,he,hF⟩:=xN g1;have ea:a=dN r (tV r i):=by rw [he] at g3;simp only at g3;omega
 have eb:b=dN r (sV r i):=by rw [he] at g2;simp only at g2;omega
 have em: ∀ j k,j<a→k<b→aF r i j k=F j k:=by
  intro j k hj hk;unfold aF;rw [he,←eb];simp only;rw [iA F hj hk];rfl
 subst ea;subst eb;rw [he];refine ⟨?_,λj k hj hk=>by rw [em j k hj hk];exact hF j k hj hk⟩;rw [cD em]
theorem aJb {α:Type} {f:Nat→α} {n k:Nat} (h:k<n):dL ((List.range n).map f) (k:Int)=some (f k):=by rw [bP (by simp;exact h)];simp
theorem aLo {α:Type} {f:Nat→α} {k:Nat} :(List.range k).map f++[f k]=(List.range (k+1)).map f:=by rw [List.range_succ,List.map_append];rfl
theorem aEv {R N:Nat} (hN:R*N≤1048576) (h1:R≤1048576) (h2:N≤1048576) (M:Nat→Nat→Int):iH R ((List.range N).map λk=>fL R λi=>M i k)=some ⟨R,N,bT R N M⟩:=by
 unfold iH;rw [eD,List.length_range,aLc hN,aA];simp only;rw [dQ (r:=bT R N M) (λk=>(bT R N (λi j=>if j<k then M i j else 0),(k:Int))) N (by simp) (λk hk=>?_) (λ_=>?_),aA]
 ·unfold iP;simp only;rw [eD,List.length_range,iL hk,aL,aJb hk,aA];rw [dQ (r:=bT R N (λi j=>if j<k+1 then M i j else 0)) (λx=>(bT R N (λi j=>if j<k∨(j=k∧i<x) then M i j else 0),(x:Int))) R (by simp) (λx hx=>?_) (λ_=>?_),aA,bW hk (by omega)]
  ·unfold iO;simp only;rw [dT,iL hx,aL,aDE _ hx,aA,atT hN hx hk,aA,aKS hN hx hk,bW hx (by omega)];congr 3;refine cD λi j hi hj=>?_;simp only [aBj];by_cases e:i=x∧j=k
   ·rw [aV e,aV (by omega),e.1,e.2]
   ·rw [aS e];by_cases e2:j<k∨j=k∧i<x
    ·rw [aV e2,aV (by omega)]
    ·rw [aS e2,aS (by omega)]
  ·unfold iO;simp only;rw [dT,kR (bG _),aP];congr 2;refine cD λi j hi hj=>?_;by_cases e:j<k+1
   ·rw [aV e,aV (by omega)]
   ·rw [aS e,aS (by omega)]
 ·unfold iP;simp only;rw [eD,List.length_range,kR (bG _),aP];congr 2;exact cD λi j hi hj=>by rw [aV hj]
end
noncomputable section
def aNe (n:Nat) (l:List (List Int)):Mt:=⟨n,(l.length:Int),bT n l.length λi k=>cF l k i⟩
theorem aKW {n:Nat} {l:List (List Int)} (h: ∀ v∈l,v.length=n):l=(List.range l.length).map λk=>fL n λi=>cF l k i:=aJa h
theorem aNf {n:Nat} {l:List (List Int)} (hn:n≤1024) (hl:l.length≤512) (h: ∀ v∈l,v.length=n):iH n l=some (aNe n l):=by
 have hN:n*l.length≤1048576:=by have:=Nat.mul_le_mul hn hl;omega
 have e:=aEv hN (by omega) (by omega) (λi k=>cF l k i);rw [←aKW h] at e;exact e
theorem aOS {α β:Type} {f:α→β} {l:List α} {k:Nat} (hk:k<l.length):(l.take k).map f++[f l[k]]=(l.take (k+1)).map f:=by rw [uV hk,List.map_append];rfl
end
end Go.Proofs.YtilpfdokmlanjaaGreatDoor
